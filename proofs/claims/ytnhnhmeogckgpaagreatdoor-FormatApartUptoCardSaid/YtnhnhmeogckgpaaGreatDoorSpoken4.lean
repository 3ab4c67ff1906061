import Derived.Test.YtnhnhmeogckgpaaGreatDoorNum
set_option linter.all false
set_option maxRecDepth 200000
set_option maxHeartbeats 8000000
namespace Yd
open Bool renaming true→A,false→N
open List renaming getElem?_eq_some_iff→f,drop_eq_getElem_cons→C,drop_eq_nil_of_le→E,cons_append→F,flatMap_cons→H,mem_of_getElem?→I,append_assoc→L,map_cons→Q
open Nat renaming zero_le→M,le_trans→R
open Option renaming some→g,none→u
open Go Go.RowKit Go.Proofs
open Go.Obj renaming cells→P
open Go.Value renaming pointer→y,slice→G,int→O
open RowKit renaming intOf→B
open Yd renaming hid→z
def On (J Jx:List (Int × Int)→World→Prop) (xs:List (Int × Int)) (l bh bp:Nat) (h:HC) (w W:World) (rest:List (Int × Int)) (X:World):Prop:=
 (∃pre,pre++rest=xs∧At J Jx xs W.heap.size l pre X)∧Reads w X∧Bx X bh (aA h)∧Bx X bp #[y (g ⟨bh,0,u⟩)]∧w.heap.size≤X.heap.size
section
variable {J Jx:List (Int × Int)→World→Prop} {D:Nat→Prop} {xs:List (Int × Int)} {l bh bp:Nat} {h:HC} {w W:World}
theorem On.step {rest:List (Int × Int)} {pre:List (Int × Int)} {X Y:World} {e:Ending} (hX:Reads w X∧Bx X bh (aA h)∧Bx X bp #[y (g ⟨bh,0,u⟩)]∧w.heap.size≤X.heap.size) (hs:Said J Jx D xs W.heap.size l pre X e Y) (hp:pre++rest=xs)
  (JC:∀i,i<w.heap.size→D i) (Ga:D bh) (Gb:D bp) (hw:w.heap.size≤W.heap.size) (hbh:bh<W.heap.size) (hbp:bp<W.heap.size):On J Jx xs l bh bp h w W rest Y:=by
 obtain⟨h1,h2,h3,h4⟩:=hX;obtain⟨_,hA,hk⟩:=hs;exact⟨⟨pre,hp,hA⟩,h1.keep hk (fun i hi=>⟨JC i hi,by omega⟩) h4,hk.bx h2 ⟨Ga,by omega⟩,hk.bx h3 ⟨Gb,by omega⟩,R h4 hk.1⟩
theorem On.fn {rest:List (Int × Int)} {X:World} (hX:On J Jx xs l bh bp h w W rest X):Bx X (W.heap.size+2) #[.func (.func 138) #[] #[y (g ⟨W.heap.size+1,0,u⟩),y (g ⟨W.heap.size,0,u⟩)]]:=by
 obtain⟨⟨pre,hp,a0,a2,a1⟩,_⟩:=hX;exact a2
theorem On.drew {rest:List (Int × Int)} {X:World} (hJ:∀s X Y,J s X→Same (fun i=>i<W.heap.size∨W.heap.size+3≤i) X Y→J s Y) (hJx:∀s X Y,Jx s X→Same (fun i=>i<W.heap.size∨W.heap.size+3≤i) X Y→Jx s Y)
  (hX:On J Jx xs l bh bp h w W rest X):On J Jx xs l bh bp h w W rest X.drew:=by
 obtain⟨⟨pre,hp,a0,a2,a1⟩,h1,h2,h3,h4⟩:=hX;refine⟨⟨pre,hp,a0.drew,a2.drew,?_⟩,h1,h2.drew,h3.drew,h4⟩;rcases a1 with⟨k1,hj⟩|⟨k1,p,hpx,hj⟩
 ·exact .inl ⟨k1.drew,hJ _ _ _ hj (Same.of_below ((Below.refl X.heap.size X).drew) (fun i _ hi=>hi))⟩
 ·exact .inr ⟨k1.drew,p,hpx,hJx _ _ _ hj (Same.of_below ((Below.refl X.heap.size X).drew) (fun i _ hi=>hi))⟩
end
theorem MC (h:HC) (es:List EvC) (ds:List aK) (ms:List aM) (qs:List Wa) (scan:EvC→List Sn) (dn:aK→List Int) (mn:aM→List Int) (bh bp:Nat) (D:Nat→Prop) (w W:World)
  (hd:Deep w h es ds ms qs scan dn mn) (hb:Below w.heap.size w W) (hH:Bx W bh (aA h)) (hP:Bx W bp #[y (g ⟨bh,0,u⟩)]) (JC:∀i,i<w.heap.size→D i) (Ga:D bh) (Gb:D bp)
  (Jy:∀i,W.heap.size≤i→i<W.heap.size+3→D i):
  Iter Tryz.prog 137 #[y (g ⟨bp,0,u⟩)] (F3 w.heap.size) 3 D (aY es ds ms qs scan dn mn) W:=by
 intro n l J Jx hJ hJx hY h0;refine callsIn_wide.2 ?_;have iP:Hid (∀(x:Int × Int) rest b o X,On J Jx (aY es ds ms qs scan dn mn) l bh bp h w W (x::rest) X→w.cell? ⟨b,o,u⟩=g (O .i64 x.2)→
   Calls Tryz.prog 138 #[O .i64 x.1,y (g ⟨b,o,u⟩),y (g ⟨W.heap.size+1,0,u⟩),y (g ⟨W.heap.size,0,u⟩)] X fun e Y=>(∃v,e= .returned v)∧On J Jx (aY es ds ms qs scan dn mn) l bh bp h w W rest Y):=fun x rest b o X hX hc=>by
  obtain⟨⟨pre,hp,hA⟩,hrd⟩:=hX;refine(callsIn_wide.1 (Oy J Jx D (aY es ds ms qs scan dn mn) W.heap.size l w.heap.size hJ hJx Jy hY pre x b o X ⟨rest,by rw[←hp];simp⟩ hA (fw hc) (hrd.1 _ _ hc) 3)).mono ?_;exact fun e Y hs=>⟨hs.1,On.step hrd hs (by rw[←hp];simp) JC Ga Gb hb.size hH.2.2 hP.2.2⟩
 have tH:Hid (∀(v:kT) rest b o X,On J Jx (aY es ds ms qs scan dn mn) l bh bp h w W (dh v++rest) X→w.cell? ⟨b,o,u⟩=g (O .i64 v.t)→w.cell? ⟨b,o+1,u⟩=g (O .i64 v.k)→
   Calls Tryz.prog 139 #[y (g ⟨b,o,u⟩),y (g ⟨W.heap.size+2,0,u⟩)] X fun e Y=>(∃v,e= .returned v)∧On J Jx (aY es ds ms qs scan dn mn) l bh bp h w W rest Y):=fun v rest b o X hX hc hc1=>by
  obtain⟨⟨pre,hp,hA⟩,hrd⟩:=hX;refine(ZF J Jx D (aY es ds ms qs scan dn mn) W.heap.size l w.heap.size hJ hJx Jy hY pre v b o X ⟨rest,by rw[←hp];simp⟩ hA (fw hc) (hrd.1 _ _ hc) (hrd.1 _ _ hc1)).mono ?_;exact fun e Y hs=>⟨hs.1,On.step hrd hs (by rw[←hp];simp) JC Ga Gb hb.size hH.2.2 hP.2.2⟩
 have hBa:Below W.heap.size W (((W.alloc (P #[.func (.yield l) #[] #[]] 197)).alloc (P #[.bool A] 4)).alloc (P #[.func (.func 138) #[] #[y (g ⟨W.heap.size+1,0,u⟩),y (g ⟨W.heap.size,0,u⟩)]] 198)):=
  (((Below.refl _ _).alloc (Nat.le_refl _) _).alloc ak _).alloc (by simp;omega) _
 go_enter Tryz.func137,Tryz.ntmps137;have L6:=hP.keep hBa;have hH0:=hH.keep hBa;have hcp:=L6.1;have hch:=hH0.1;have Ol:Hid (On J Jx (aY es ds ms qs scan dn mn) l bh bp h w W (aY es ds ms qs scan dn mn) (((W.alloc (P #[.func (.yield l) #[] #[]] 197)).alloc (P #[.bool A] 4)).alloc (P #[.func (.func 138) #[] #[y (g ⟨W.heap.size+1,0,u⟩),y (g ⟨W.heap.size,0,u⟩)]] 198))):=by
  refine⟨⟨[],rfl,((Bx.new W _ _).alloc _).alloc _,?_,.inl ⟨?_,hJ _ _ _ h0 (Same.of_below hBa (fun i _ hi=>hi))⟩⟩,fun a v hc=>?_,hH0,L6,R hb.size hBa.size⟩
  ·have:=Bx.new ((W.alloc (P #[.func (.yield l) #[] #[]] 197)).alloc (P #[.bool A] 4)) #[.func (.func 138) #[] #[y (g ⟨W.heap.size+1,0,u⟩),y (g ⟨W.heap.size,0,u⟩)]] 198
   simpa using this
  ·have:=(Bx.new (W.alloc (P #[.func (.yield l) #[] #[]] 197)) #[.bool A] 4).alloc (P #[.func (.func 138) #[] #[y (g ⟨W.heap.size+1,0,u⟩),y (g ⟨W.heap.size,0,u⟩)]] 198)
   simpa using this
  ·have h1:=(hb.cell (p:=a) (fw hc)).trans hc
   exact(hBa.cell (p:=a) (fw h1)).trans h1
 go_wp2_with fail;have iE:=z hd;clear hBa L6 hH0 hcp hch hY h0 hd;obtain⟨pV,TD⟩:∃r,r=qs.flatMap jY++[]:=⟨_,rfl⟩;obtain⟨pW,TF⟩:∃r,r=ms.flatMap (fun x=>jf x (mn x))++pV:=⟨_,rfl⟩;obtain⟨dI,TG⟩:∃r,r=ds.flatMap (fun x=>jQ x (dn x))++pW:=⟨_,rfl⟩;have TH:=z TG;have sF:=z TF;have GR:=z TD;have HJ:=z hJ;have kY:=z hJx;clear TG TF TD hJ hJx
 go_loopw [22] (fun i wr=>∃k:Nat,k≤h.e.n∧i= O .i64 k∧On J Jx (aY es ds ms qs scan dn mn) l bh bp h w W ((es.drop k).flatMap (fun e=>dN e (scan e))++dI) wr) (fun i _=>h.e.n - (B i).toNat)
 case atStart=>exact⟨0,M _,rfl,by rw[TH.q,sF.q,GR.q];simpa[aY] using Ol.q⟩
 case round=>
  obtain⟨k,hk,rfl,hon⟩:=hrel;have hx2:=hon.2.2.1;have hx3:=hon.2.2.2.1;have hcp:=hx3.1;by_cases hlt:k<h.e.n
  ·obtain⟨e,b,o,hx,hab,hc⟩:=iE.q.1.at_ hlt
   have hce:wr.cell? ⟨bh,4,u⟩=g (G (g ⟨b,o,u⟩) h.e.n h.e.c):=by rw[hx2.1 4,←hab];rfl
   have HC:=z hc;have HX:=z hx;have HN:=z hon;clear hx2 hx3 hon hc hx hab;go_wp2_with fail;have hdrop:es.drop k=e::es.drop (k+1):=by
    rw[C (f.1 HX.q).1,(f.1 HX.q).2]
   have lZ:Hid (On J Jx (aY es ds ms qs scan dn mn) l bh bp h w W ((0,e.t)::((if e.kind=1 then [(1,e.bR)] else if e.kind=2∨e.kind=3 then(2,e.obj)::dh e.v else if e.kind=4 then [(3,e.pred)] else [])++((scan e).flatMap (fun s=>(2,s.obj)::dh s.v)++((es.drop (k+1)).flatMap (fun e=>dN e (scan e))++dI)))) wr):=by
    have:=HN.q;rw[hdrop,H,show dN e (scan e)=((0,e.t)::(if e.kind=1 then [(1,e.bR)] else if e.kind=2∨e.kind=3 then(2,e.obj)::dh e.v else if e.kind=4 then [(3,e.pred)] else []))++(scan e).flatMap (fun s=>(2,s.obj)::dh s.v) from rfl] at this;simp only[F,L] at this;exact z this
   have HDR:=z (On.drew HJ.q kY.q lZ.q);have aQ:=z (iP.q (0,e.t) _ b (o+k*9+1) _ HDR.q (HC.q 1 _ rfl));refine aP [(0,A),(1,A),(2,A),(3,A),(4,N)] (fun W'=>Bx W' (W.heap.size+2) #[.func (.func 138) #[] #[y (g ⟨W.heap.size+1,0,u⟩),y (g ⟨W.heap.size,0,u⟩)]]) au au (by intro d v c a w h;cases d <;> exact h) (HDR.q.fn) ?_;refine qO ?_;refine dD rfl rfl (fun K hK=>?_);go_simp;refine aQ.q.mono ?_;rintro e1 Y ⟨⟨r,rfl⟩,aN⟩;have eO:=z aN;refine hK _ _ aN.fn ?_;clear hK K aN aQ HDR;refine cB ?_;have hk0:Y.cell? ⟨b,o+k*9,u⟩=g (O .i64 e.kind):=eO.q.2.1 _ _ (HC.q 0 _ rfl);by_cases k1:e.kind=1
   ·rw[k1] at hk0
    have L8:=eO;clear eO;have eO:=z (show On J Jx (aY es ds ms qs scan dn mn) l bh bp h w W ((1,e.bR)::((scan e).flatMap (fun s=>(2,s.obj)::dh s.v)++((es.drop (k+1)).flatMap (fun e=>dN e (scan e))++dI))) Y by have:=L8.q;rw[if_pos k1] at this;exact this);clear L8;go_wp2_with fail;have HDR:=z (On.drew HJ.q kY.q eO.q);have aQ:=z (iP.q (1,e.bR) _ b (o+k*9+2) _ HDR.q (HC.q 2 _ rfl));refine aP [(0,A),(1,A),(2,A),(3,A),(4,N)] (fun W'=>Bx W' (W.heap.size+2) #[.func (.func 138) #[] #[y (g ⟨W.heap.size+1,0,u⟩),y (g ⟨W.heap.size,0,u⟩)]]) au au (by intro d v c a w h;cases d <;> exact h) (HDR.q.fn) ?_;refine qO ?_;refine dD rfl rfl (fun K hK=>?_);go_simp;refine aQ.q.mono ?_;rintro e1 Y ⟨⟨r,rfl⟩,aN⟩;have dY:=z aN;refine hK _ _ aN.fn ?_;clear hK K aN aQ HDR;refine cB ?_;have hsl:Y.cell? ⟨b,o+k*9+8,u⟩=g (G e.sa e.sn e.sc):=dY.q.2.1 _ _ (HC.q 8 _ rfl);go_wp2_with fail;clear hsl
    go_loopw [72] (fun i wr=>∃j:Nat,j≤e.sn∧i= O .i64 j∧On J Jx (aY es ds ms qs scan dn mn) l bh bp h w W (((scan e).drop j).flatMap (fun s=>(2,s.obj)::dh s.v)++((es.drop (k+1)).flatMap (fun e=>dN e (scan e))++dI)) wr) (fun i _=>e.sn - (B i).toNat)
    case atStart=>exact⟨0,M _,rfl,by simpa using dY.q⟩
    case round=>
     obtain⟨j,hj,rfl,hon⟩:=hrel;have d9:=z hon;clear hon;have fZ:=z (iE.q.2.2.2.2.1 e (I HX.q));have hle:=fZ.q.le;by_cases hjl:j<e.sn
     ·obtain⟨s2,b2,o2,hx2,gq,hc2⟩:=fZ.q.at_ hjl
      have bM:=z hc2;have aW:=z hx2;have dz:=z gq;clear hc2 hx2 gq;have dA:(scan e).drop j=s2::(scan e).drop (j+1):=by
       rw[C (f.1 aW.q).1,(f.1 aW.q).2]
      have dR:Hid (On J Jx (aY es ds ms qs scan dn mn) l bh bp h w W ((2,s2.obj)::(dh s2.v++(((scan e).drop (j+1)).flatMap (fun s=>(2,s.obj)::dh s.v)++((es.drop (k+1)).flatMap (fun e=>dN e (scan e))++dI)))) wr):=by
       have:=d9.q;rw[dA,H] at this;simp only[F,L] at this;exact z this
      clear dA;go_wp2_with fail;have HDR:=z (On.drew HJ.q kY.q dR.q);have aQ:=z (iP.q (2,s2.obj) _ b2 (o2+j*3) _ HDR.q (bM.q 0 _ rfl));refine aP [(0,A),(1,A),(2,A),(3,A),(4,A),(5,A),(6,A),(7,A),(8,N)] (fun W'=>Bx W' (W.heap.size+2) #[.func (.func 138) #[] #[y (g ⟨W.heap.size+1,0,u⟩),y (g ⟨W.heap.size,0,u⟩)]]∧W'.cell? ⟨b,o+k*9+8,u⟩=g (G (g ⟨b2,o2,u⟩) e.sn e.sc)) au au (by intro d v c a w h;cases d <;> exact h) (⟨HDR.q.fn,HDR.q.2.1 _ _ (by rw[←dz.q];exact HC.q 8 _ rfl)⟩) ?_;refine qO ?_;refine dD rfl rfl (fun K hK=>?_);go_simp;refine aQ.q.mono ?_;rintro e1 Y ⟨⟨r,rfl⟩,aN⟩;have HS2:=z aN;refine hK _ _ ⟨aN.fn,aN.2.1 _ _ (by rw[←dz.q];exact HC.q 8 _ rfl)⟩ ?_;clear hK K aN aQ HDR;refine cB ?_;have hsl2:Y.cell? ⟨b,o+k*9+8,u⟩=g (G (g ⟨b2,o2,u⟩) e.sn e.sc):=HS2.q.2.1 _ _ (by rw[←dz.q];exact HC.q 8 _ rfl);have iR:=z (tH.q s2.v _ b2 (o2+j*3+1) Y HS2.q (bM.q 1 _ rfl) (bM.q 2 _ rfl));go_wp2_with fail;refine iR.q.mono ?_;rintro e2 Y2 ⟨⟨r2,rfl⟩,gu⟩;have fE:=z gu;clear gu hsl2 iR;go_wp2_with fail;go_roundw
      case rel=>exact⟨j+1,by omega,by go_num,fE.q⟩
      case measure=>simp[B];omega
     ·have hjn:j=e.sn:=by omega
      have hlen:=fZ.q.len;have oK:Hid (On J Jx (aY es ds ms qs scan dn mn) l bh bp h w W ((es.drop (k+1)).flatMap (fun e=>dN e (scan e))++dI) wr):=by
       have:=d9.q;rw[E ah] at this;exact z (by simpa using this)
      have hle2:=iE.q.1.le;go_wp2_with fail;go_roundw
      case rel=>exact⟨k+1,by omega,by go_num,oK.q⟩
      case measure=>simp[B];omega
   by_cases k2:e.kind=2
   ·rw[k2] at hk0
    have zA:=z (show On J Jx (aY es ds ms qs scan dn mn) l bh bp h w W ((2,e.obj)::(dh e.v++((scan e).flatMap (fun s=>(2,s.obj)::dh s.v)++((es.drop (k+1)).flatMap (fun e=>dN e (scan e))++dI)))) Y by have:=eO.q;rw[if_neg k1,if_pos ah] at this;simp only[F] at this;exact this);clear eO;go_wp2_with fail;have HDR:=z (On.drew HJ.q kY.q zA.q);have aQ:=z (iP.q (2,e.obj) _ b (o+k*9+4) _ HDR.q (HC.q 4 _ rfl));refine aP [(0,A),(1,A),(2,A),(3,A),(4,N)] (fun W'=>Bx W' (W.heap.size+2) #[.func (.func 138) #[] #[y (g ⟨W.heap.size+1,0,u⟩),y (g ⟨W.heap.size,0,u⟩)]]) au au (by intro d v c a w h;cases d <;> exact h) (HDR.q.fn) ?_;refine qO ?_;refine dD rfl rfl (fun K hK=>?_);go_simp;refine aQ.q.mono ?_;rintro e1 Y ⟨⟨r,rfl⟩,aN⟩;have iq:=z aN;refine hK _ _ aN.fn ?_;clear hK K aN aQ HDR;refine cB ?_;have iR:=z (tH.q e.v _ b (o+k*9+5) Y iq.q (HC.q 5 _ rfl) (HC.q 6 _ rfl));go_wp2_with fail;refine iR.q.mono ?_;rintro e2 Y2 ⟨⟨r2,rfl⟩,gu⟩;obtain⟨Y,rfl⟩:∃Y,Y=Y2:=⟨_,rfl⟩;have dY:=z gu;clear gu iR;have hsl:Y.cell? ⟨b,o+k*9+8,u⟩=g (G e.sa e.sn e.sc):=dY.q.2.1 _ _ (HC.q 8 _ rfl);go_wp2_with fail;clear hsl
    go_loopw [72] (fun i wr=>∃j:Nat,j≤e.sn∧i= O .i64 j∧On J Jx (aY es ds ms qs scan dn mn) l bh bp h w W (((scan e).drop j).flatMap (fun s=>(2,s.obj)::dh s.v)++((es.drop (k+1)).flatMap (fun e=>dN e (scan e))++dI)) wr) (fun i _=>e.sn - (B i).toNat)
    case atStart=>exact⟨0,M _,rfl,by simpa using dY.q⟩
    case round=>
     obtain⟨j,hj,rfl,hon⟩:=hrel;have d9:=z hon;clear hon;have fZ:=z (iE.q.2.2.2.2.1 e (I HX.q));have hle:=fZ.q.le;by_cases hjl:j<e.sn
     ·obtain⟨s2,b2,o2,hx2,gq,hc2⟩:=fZ.q.at_ hjl
      have bM:=z hc2;have aW:=z hx2;have dz:=z gq;clear hc2 hx2 gq;have dA:(scan e).drop j=s2::(scan e).drop (j+1):=by
       rw[C (f.1 aW.q).1,(f.1 aW.q).2]
      have dR:Hid (On J Jx (aY es ds ms qs scan dn mn) l bh bp h w W ((2,s2.obj)::(dh s2.v++(((scan e).drop (j+1)).flatMap (fun s=>(2,s.obj)::dh s.v)++((es.drop (k+1)).flatMap (fun e=>dN e (scan e))++dI)))) wr):=by
       have:=d9.q;rw[dA,H] at this;simp only[F,L] at this;exact z this
      clear dA;go_wp2_with fail;have HDR:=z (On.drew HJ.q kY.q dR.q);have aQ:=z (iP.q (2,s2.obj) _ b2 (o2+j*3) _ HDR.q (bM.q 0 _ rfl));refine aP [(0,A),(1,A),(2,A),(3,A),(4,A),(5,A),(6,A),(7,A),(8,N)] (fun W'=>Bx W' (W.heap.size+2) #[.func (.func 138) #[] #[y (g ⟨W.heap.size+1,0,u⟩),y (g ⟨W.heap.size,0,u⟩)]]∧W'.cell? ⟨b,o+k*9+8,u⟩=g (G (g ⟨b2,o2,u⟩) e.sn e.sc)) au au (by intro d v c a w h;cases d <;> exact h) (⟨HDR.q.fn,HDR.q.2.1 _ _ (by rw[←dz.q];exact HC.q 8 _ rfl)⟩) ?_;refine qO ?_;refine dD rfl rfl (fun K hK=>?_);go_simp;refine aQ.q.mono ?_;rintro e1 Y ⟨⟨r,rfl⟩,aN⟩;have HS2:=z aN;refine hK _ _ ⟨aN.fn,aN.2.1 _ _ (by rw[←dz.q];exact HC.q 8 _ rfl)⟩ ?_;clear hK K aN aQ HDR;refine cB ?_;have hsl2:Y.cell? ⟨b,o+k*9+8,u⟩=g (G (g ⟨b2,o2,u⟩) e.sn e.sc):=HS2.q.2.1 _ _ (by rw[←dz.q];exact HC.q 8 _ rfl);have iR:=z (tH.q s2.v _ b2 (o2+j*3+1) Y HS2.q (bM.q 1 _ rfl) (bM.q 2 _ rfl));go_wp2_with fail;refine iR.q.mono ?_;rintro e2 Y2 ⟨⟨r2,rfl⟩,gu⟩;have fE:=z gu;clear gu hsl2 iR;go_wp2_with fail;go_roundw
      case rel=>exact⟨j+1,by omega,by go_num,fE.q⟩
      case measure=>simp[B];omega
     ·have hjn:j=e.sn:=by omega
      have hlen:=fZ.q.len;have oK:Hid (On J Jx (aY es ds ms qs scan dn mn) l bh bp h w W ((es.drop (k+1)).flatMap (fun e=>dN e (scan e))++dI) wr):=by
       have:=d9.q;rw[E ah] at this;exact z (by simpa using this)
      have hle2:=iE.q.1.le;go_wp2_with fail;go_roundw
      case rel=>exact⟨k+1,by omega,by go_num,oK.q⟩
      case measure=>simp[B];omega
   by_cases k3:e.kind=3
   ·rw[k3] at hk0
    have zA:=z (show On J Jx (aY es ds ms qs scan dn mn) l bh bp h w W ((2,e.obj)::(dh e.v++((scan e).flatMap (fun s=>(2,s.obj)::dh s.v)++((es.drop (k+1)).flatMap (fun e=>dN e (scan e))++dI)))) Y by have:=eO.q;rw[if_neg k1,if_pos ah] at this;simp only[F] at this;exact this);clear eO;go_wp2_with fail;have HDR:=z (On.drew HJ.q kY.q zA.q);have aQ:=z (iP.q (2,e.obj) _ b (o+k*9+4) _ HDR.q (HC.q 4 _ rfl));refine aP [(0,A),(1,A),(2,A),(3,A),(4,N)] (fun W'=>Bx W' (W.heap.size+2) #[.func (.func 138) #[] #[y (g ⟨W.heap.size+1,0,u⟩),y (g ⟨W.heap.size,0,u⟩)]]) au au (by intro d v c a w h;cases d <;> exact h) (HDR.q.fn) ?_;refine qO ?_;refine dD rfl rfl (fun K hK=>?_);go_simp;refine aQ.q.mono ?_;rintro e1 Y ⟨⟨r,rfl⟩,aN⟩;have iq:=z aN;refine hK _ _ aN.fn ?_;clear hK K aN aQ HDR;refine cB ?_;have iR:=z (tH.q e.v _ b (o+k*9+5) Y iq.q (HC.q 5 _ rfl) (HC.q 6 _ rfl));go_wp2_with fail;refine iR.q.mono ?_;rintro e2 Y2 ⟨⟨r2,rfl⟩,gu⟩;obtain⟨Y,rfl⟩:∃Y,Y=Y2:=⟨_,rfl⟩;have dY:=z gu;clear gu iR;have hsl:Y.cell? ⟨b,o+k*9+8,u⟩=g (G e.sa e.sn e.sc):=dY.q.2.1 _ _ (HC.q 8 _ rfl);go_wp2_with fail;clear hsl
    go_loopw [72] (fun i wr=>∃j:Nat,j≤e.sn∧i= O .i64 j∧On J Jx (aY es ds ms qs scan dn mn) l bh bp h w W (((scan e).drop j).flatMap (fun s=>(2,s.obj)::dh s.v)++((es.drop (k+1)).flatMap (fun e=>dN e (scan e))++dI)) wr) (fun i _=>e.sn - (B i).toNat)
    case atStart=>exact⟨0,M _,rfl,by simpa using dY.q⟩
    case round=>
     obtain⟨j,hj,rfl,hon⟩:=hrel;have d9:=z hon;clear hon;have fZ:=z (iE.q.2.2.2.2.1 e (I HX.q));have hle:=fZ.q.le;by_cases hjl:j<e.sn
     ·obtain⟨s2,b2,o2,hx2,gq,hc2⟩:=fZ.q.at_ hjl
      have bM:=z hc2;have aW:=z hx2;have dz:=z gq;clear hc2 hx2 gq;have dA:(scan e).drop j=s2::(scan e).drop (j+1):=by
       rw[C (f.1 aW.q).1,(f.1 aW.q).2]
      have dR:Hid (On J Jx (aY es ds ms qs scan dn mn) l bh bp h w W ((2,s2.obj)::(dh s2.v++(((scan e).drop (j+1)).flatMap (fun s=>(2,s.obj)::dh s.v)++((es.drop (k+1)).flatMap (fun e=>dN e (scan e))++dI)))) wr):=by
       have:=d9.q;rw[dA,H] at this;simp only[F,L] at this;exact z this
      clear dA;go_wp2_with fail;have HDR:=z (On.drew HJ.q kY.q dR.q);have aQ:=z (iP.q (2,s2.obj) _ b2 (o2+j*3) _ HDR.q (bM.q 0 _ rfl));refine aP [(0,A),(1,A),(2,A),(3,A),(4,A),(5,A),(6,A),(7,A),(8,N)] (fun W'=>Bx W' (W.heap.size+2) #[.func (.func 138) #[] #[y (g ⟨W.heap.size+1,0,u⟩),y (g ⟨W.heap.size,0,u⟩)]]∧W'.cell? ⟨b,o+k*9+8,u⟩=g (G (g ⟨b2,o2,u⟩) e.sn e.sc)) au au (by intro d v c a w h;cases d <;> exact h) (⟨HDR.q.fn,HDR.q.2.1 _ _ (by rw[←dz.q];exact HC.q 8 _ rfl)⟩) ?_;refine qO ?_;refine dD rfl rfl (fun K hK=>?_);go_simp;refine aQ.q.mono ?_;rintro e1 Y ⟨⟨r,rfl⟩,aN⟩;have HS2:=z aN;refine hK _ _ ⟨aN.fn,aN.2.1 _ _ (by rw[←dz.q];exact HC.q 8 _ rfl)⟩ ?_;clear hK K aN aQ HDR;refine cB ?_;have hsl2:Y.cell? ⟨b,o+k*9+8,u⟩=g (G (g ⟨b2,o2,u⟩) e.sn e.sc):=HS2.q.2.1 _ _ (by rw[←dz.q];exact HC.q 8 _ rfl);have iR:=z (tH.q s2.v _ b2 (o2+j*3+1) Y HS2.q (bM.q 1 _ rfl) (bM.q 2 _ rfl));go_wp2_with fail;refine iR.q.mono ?_;rintro e2 Y2 ⟨⟨r2,rfl⟩,gu⟩;have fE:=z gu;clear gu hsl2 iR;go_wp2_with fail;go_roundw
      case rel=>exact⟨j+1,by omega,by go_num,fE.q⟩
      case measure=>simp[B];omega
     ·have hjn:j=e.sn:=by omega
      have hlen:=fZ.q.len;have oK:Hid (On J Jx (aY es ds ms qs scan dn mn) l bh bp h w W ((es.drop (k+1)).flatMap (fun e=>dN e (scan e))++dI) wr):=by
       have:=d9.q;rw[E ah] at this;exact z (by simpa using this)
      have hle2:=iE.q.1.le;go_wp2_with fail;go_roundw
      case rel=>exact⟨k+1,by omega,by go_num,oK.q⟩
      case measure=>simp[B];omega
   by_cases k4:e.kind=4
   ·rw[k4] at hk0
    have zA:=z (show On J Jx (aY es ds ms qs scan dn mn) l bh bp h w W ((3,e.pred)::((scan e).flatMap (fun s=>(2,s.obj)::dh s.v)++((es.drop (k+1)).flatMap (fun e=>dN e (scan e))++dI))) Y by have:=eO.q;rw[if_neg k1,if_neg ah,if_pos k4] at this;exact this);clear eO;go_wp2_with fail;have HDR:=z (On.drew HJ.q kY.q zA.q);have aQ:=z (iP.q (3,e.pred) _ b (o+k*9+7) _ HDR.q (HC.q 7 _ rfl));refine aP [(0,A),(1,A),(2,A),(3,A),(4,N)] (fun W'=>Bx W' (W.heap.size+2) #[.func (.func 138) #[] #[y (g ⟨W.heap.size+1,0,u⟩),y (g ⟨W.heap.size,0,u⟩)]]) au au (by intro d v c a w h;cases d <;> exact h) (HDR.q.fn) ?_;refine qO ?_;refine dD rfl rfl (fun K hK=>?_);go_simp;refine aQ.q.mono ?_;rintro e1 Y ⟨⟨r,rfl⟩,aN⟩;have dY:=z aN;refine hK _ _ aN.fn ?_;clear hK K aN aQ HDR;refine cB ?_;have hsl:Y.cell? ⟨b,o+k*9+8,u⟩=g (G e.sa e.sn e.sc):=dY.q.2.1 _ _ (HC.q 8 _ rfl);go_wp2_with fail;clear hsl
    go_loopw [72] (fun i wr=>∃j:Nat,j≤e.sn∧i= O .i64 j∧On J Jx (aY es ds ms qs scan dn mn) l bh bp h w W (((scan e).drop j).flatMap (fun s=>(2,s.obj)::dh s.v)++((es.drop (k+1)).flatMap (fun e=>dN e (scan e))++dI)) wr) (fun i _=>e.sn - (B i).toNat)
    case atStart=>exact⟨0,M _,rfl,by simpa using dY.q⟩
    case round=>
     obtain⟨j,hj,rfl,hon⟩:=hrel;have d9:=z hon;clear hon;have fZ:=z (iE.q.2.2.2.2.1 e (I HX.q));have hle:=fZ.q.le;by_cases hjl:j<e.sn
     ·obtain⟨s2,b2,o2,hx2,gq,hc2⟩:=fZ.q.at_ hjl
      have bM:=z hc2;have aW:=z hx2;have dz:=z gq;clear hc2 hx2 gq;have dA:(scan e).drop j=s2::(scan e).drop (j+1):=by
       rw[C (f.1 aW.q).1,(f.1 aW.q).2]
      have dR:Hid (On J Jx (aY es ds ms qs scan dn mn) l bh bp h w W ((2,s2.obj)::(dh s2.v++(((scan e).drop (j+1)).flatMap (fun s=>(2,s.obj)::dh s.v)++((es.drop (k+1)).flatMap (fun e=>dN e (scan e))++dI)))) wr):=by
       have:=d9.q;rw[dA,H] at this;simp only[F,L] at this;exact z this
      clear dA;go_wp2_with fail;have HDR:=z (On.drew HJ.q kY.q dR.q);have aQ:=z (iP.q (2,s2.obj) _ b2 (o2+j*3) _ HDR.q (bM.q 0 _ rfl));refine aP [(0,A),(1,A),(2,A),(3,A),(4,A),(5,A),(6,A),(7,A),(8,N)] (fun W'=>Bx W' (W.heap.size+2) #[.func (.func 138) #[] #[y (g ⟨W.heap.size+1,0,u⟩),y (g ⟨W.heap.size,0,u⟩)]]∧W'.cell? ⟨b,o+k*9+8,u⟩=g (G (g ⟨b2,o2,u⟩) e.sn e.sc)) au au (by intro d v c a w h;cases d <;> exact h) (⟨HDR.q.fn,HDR.q.2.1 _ _ (by rw[←dz.q];exact HC.q 8 _ rfl)⟩) ?_;refine qO ?_;refine dD rfl rfl (fun K hK=>?_);go_simp;refine aQ.q.mono ?_;rintro e1 Y ⟨⟨r,rfl⟩,aN⟩;have HS2:=z aN;refine hK _ _ ⟨aN.fn,aN.2.1 _ _ (by rw[←dz.q];exact HC.q 8 _ rfl)⟩ ?_;clear hK K aN aQ HDR;refine cB ?_;have hsl2:Y.cell? ⟨b,o+k*9+8,u⟩=g (G (g ⟨b2,o2,u⟩) e.sn e.sc):=HS2.q.2.1 _ _ (by rw[←dz.q];exact HC.q 8 _ rfl);have iR:=z (tH.q s2.v _ b2 (o2+j*3+1) Y HS2.q (bM.q 1 _ rfl) (bM.q 2 _ rfl));go_wp2_with fail;refine iR.q.mono ?_;rintro e2 Y2 ⟨⟨r2,rfl⟩,gu⟩;have fE:=z gu;clear gu hsl2 iR;go_wp2_with fail;go_roundw
      case rel=>exact⟨j+1,by omega,by go_num,fE.q⟩
      case measure=>simp[B];omega
     ·have hjn:j=e.sn:=by omega
      have hlen:=fZ.q.len;have oK:Hid (On J Jx (aY es ds ms qs scan dn mn) l bh bp h w W ((es.drop (k+1)).flatMap (fun e=>dN e (scan e))++dI) wr):=by
       have:=d9.q;rw[E ah] at this;exact z (by simpa using this)
      have hle2:=iE.q.1.le;go_wp2_with fail;go_roundw
      case rel=>exact⟨k+1,by omega,by go_num,oK.q⟩
      case measure=>simp[B];omega
   ·have dY:=z (show On J Jx (aY es ds ms qs scan dn mn) l bh bp h w W ((scan e).flatMap (fun s=>(2,s.obj)::dh s.v)++((es.drop (k+1)).flatMap (fun e=>dN e (scan e))++dI)) Y by have:=eO.q;rw[if_neg k1,if_neg ah,if_neg k4] at this;exact this)
    clear eO;have n1:(e.kind==1)=N:=beq_eq_false_iff_ne.2 k1;have n2:(e.kind==2)=N:=beq_eq_false_iff_ne.2 k2;have n3:(e.kind==3)=N:=beq_eq_false_iff_ne.2 k3;have n4:(e.kind==4)=N:=beq_eq_false_iff_ne.2 k4;have hsl:Y.cell? ⟨b,o+k*9+8,u⟩=g (G e.sa e.sn e.sc):=dY.q.2.1 _ _ (HC.q 8 _ rfl);go_wp2_with fail;clear hsl
    go_loopw [72] (fun i wr=>∃j:Nat,j≤e.sn∧i= O .i64 j∧On J Jx (aY es ds ms qs scan dn mn) l bh bp h w W (((scan e).drop j).flatMap (fun s=>(2,s.obj)::dh s.v)++((es.drop (k+1)).flatMap (fun e=>dN e (scan e))++dI)) wr) (fun i _=>e.sn - (B i).toNat)
    case atStart=>exact⟨0,M _,rfl,by simpa using dY.q⟩
    case round=>
     obtain⟨j,hj,rfl,hon⟩:=hrel;have d9:=z hon;clear hon;have fZ:=z (iE.q.2.2.2.2.1 e (I HX.q));have hle:=fZ.q.le;by_cases hjl:j<e.sn
     ·obtain⟨s2,b2,o2,hx2,gq,hc2⟩:=fZ.q.at_ hjl
      have bM:=z hc2;have aW:=z hx2;have dz:=z gq;clear hc2 hx2 gq;have dA:(scan e).drop j=s2::(scan e).drop (j+1):=by
       rw[C (f.1 aW.q).1,(f.1 aW.q).2]
      have dR:Hid (On J Jx (aY es ds ms qs scan dn mn) l bh bp h w W ((2,s2.obj)::(dh s2.v++(((scan e).drop (j+1)).flatMap (fun s=>(2,s.obj)::dh s.v)++((es.drop (k+1)).flatMap (fun e=>dN e (scan e))++dI)))) wr):=by
       have:=d9.q;rw[dA,H] at this;simp only[F,L] at this;exact z this
      clear dA;go_wp2_with fail;have HDR:=z (On.drew HJ.q kY.q dR.q);have aQ:=z (iP.q (2,s2.obj) _ b2 (o2+j*3) _ HDR.q (bM.q 0 _ rfl));refine aP [(0,A),(1,A),(2,A),(3,A),(4,A),(5,A),(6,A),(7,A),(8,N)] (fun W'=>Bx W' (W.heap.size+2) #[.func (.func 138) #[] #[y (g ⟨W.heap.size+1,0,u⟩),y (g ⟨W.heap.size,0,u⟩)]]∧W'.cell? ⟨b,o+k*9+8,u⟩=g (G (g ⟨b2,o2,u⟩) e.sn e.sc)) au au (by intro d v c a w h;cases d <;> exact h) (⟨HDR.q.fn,HDR.q.2.1 _ _ (by rw[←dz.q];exact HC.q 8 _ rfl)⟩) ?_;refine qO ?_;refine dD rfl rfl (fun K hK=>?_);go_simp;refine aQ.q.mono ?_;rintro e1 Y ⟨⟨r,rfl⟩,aN⟩;have HS2:=z aN;refine hK _ _ ⟨aN.fn,aN.2.1 _ _ (by rw[←dz.q];exact HC.q 8 _ rfl)⟩ ?_;clear hK K aN aQ HDR;refine cB ?_;have hsl2:Y.cell? ⟨b,o+k*9+8,u⟩=g (G (g ⟨b2,o2,u⟩) e.sn e.sc):=HS2.q.2.1 _ _ (by rw[←dz.q];exact HC.q 8 _ rfl);have iR:=z (tH.q s2.v _ b2 (o2+j*3+1) Y HS2.q (bM.q 1 _ rfl) (bM.q 2 _ rfl));go_wp2_with fail;refine iR.q.mono ?_;rintro e2 Y2 ⟨⟨r2,rfl⟩,gu⟩;have fE:=z gu;clear gu hsl2 iR;go_wp2_with fail;go_roundw
      case rel=>exact⟨j+1,by omega,by go_num,fE.q⟩
      case measure=>simp[B];omega
     ·have hjn:j=e.sn:=by omega
      have hlen:=fZ.q.len;have oK:Hid (On J Jx (aY es ds ms qs scan dn mn) l bh bp h w W ((es.drop (k+1)).flatMap (fun e=>dN e (scan e))++dI) wr):=by
       have:=d9.q;rw[E ah] at this;exact z (by simpa using this)
      have hle2:=iE.q.1.le;go_wp2_with fail;go_roundw
      case rel=>exact⟨k+1,by omega,by go_num,oK.q⟩
      case measure=>simp[B];omega
  ·have Bp:=(iE.q.1).len
   have lT:Hid (On J Jx (aY es ds ms qs scan dn mn) l bh bp h w W dI wr):=by
    have:=hon;rw[E ah] at this;exact z (by simpa using this)
   have hcp:wr.cell? ⟨bp,0,u⟩=g (y (g ⟨bh,0,u⟩)):=lT.q.2.2.2.1.1 0;have hch:wr.cell? ⟨bh,5,u⟩=g (h.d.v):=lT.q.2.2.1.1 5;clear hx2 hx3 hon;go_wp2_with fail;clear hcp hch;rw[TH.q] at lT
   go_loopw [100] (fun i wr=>∃k:Nat,k≤h.d.n∧i= O .i64 k∧On J Jx (aY es ds ms qs scan dn mn) l bh bp h w W ((ds.drop k).flatMap (fun x=>jQ x (dn x))++pW) wr) (fun i _=>h.d.n - (B i).toNat)
   case atStart=>exact⟨0,M _,rfl,by simpa using lT.q⟩
   case round=>
    obtain⟨k,hk,rfl,hon⟩:=hrel;have HN:=z hon;clear hon;have hle0:=(iE.q.2.1).le;by_cases hlt:k<h.d.n
    ·obtain⟨x,b,o,hx,hab,hc⟩:=(iE.q.2.1).at_ hlt
     have HC:=z hc;have HX:=z hx;have dz:=z hab;clear hx hab hc;have hdrop:ds.drop k=x::ds.drop (k+1):=by
      rw[C (f.1 HX.q).1,(f.1 HX.q).2]
     have hcp:wr.cell? ⟨bp,0,u⟩=g (y (g ⟨bh,0,u⟩)):=HN.q.2.2.2.1.1 0;have hch:wr.cell? ⟨bh,5,u⟩=g (G (g ⟨b,o,u⟩) h.d.n h.d.c):=(HN.q.2.2.1.1 5).trans (by rw[←dz.q];rfl);have lZ:Hid (On J Jx (aY es ds ms qs scan dn mn) l bh bp h w W ((2,x.obj)::((dn x).map (fun d=>(0,d))++((ds.drop (k+1)).flatMap (fun x=>jQ x (dn x))++pW))) wr):=by
      have:=HN.q;rw[hdrop,H] at this;simp only[jQ,F,L] at this;exact z this
     clear hdrop;go_wp2_with fail;clear hcp hch;have HDR:=z (On.drew HJ.q kY.q lZ.q);have aQ:=z (iP.q (2,x.obj) _ b (o+k*2) _ HDR.q (HC.q 0 _ rfl));refine aP [(0,A),(1,A),(2,A),(3,A),(4,A),(5,A),(6,A),(7,A),(8,N)] (fun W'=>Bx W' (W.heap.size+2) #[.func (.func 138) #[] #[y (g ⟨W.heap.size+1,0,u⟩),y (g ⟨W.heap.size,0,u⟩)]]∧W'.cell? ⟨bp,0,u⟩=g (y (g ⟨bh,0,u⟩))∧W'.cell? ⟨bh,5,u⟩=g (G (g ⟨b,o,u⟩) h.d.n h.d.c)) au au (by intro d v c a w h;cases d <;> exact h) (⟨HDR.q.fn,(HDR.q.2.2.2.1.1 0),((HDR.q.2.2.1.1 5).trans (by rw[←dz.q];rfl))⟩) ?_;refine qO ?_;refine dD rfl rfl (fun K hK=>?_);go_simp;refine aQ.q.mono ?_;rintro e1 Y ⟨⟨r,rfl⟩,aN⟩;have eO:=z aN;refine hK _ _ ⟨aN.fn,(aN.2.2.2.1.1 0),((aN.2.2.1.1 5).trans (by rw[←dz.q];rfl))⟩ ?_;clear hK K aN aQ HDR;refine cB ?_;have hcp:Y.cell? ⟨bp,0,u⟩=g (y (g ⟨bh,0,u⟩)):=eO.q.2.2.2.1.1 0;have hch:Y.cell? ⟨bh,5,u⟩=g (G (g ⟨b,o,u⟩) h.d.n h.d.c):=(eO.q.2.2.1.1 5).trans (by rw[←dz.q];rfl);have hsl:Y.cell? ⟨b,o+k*2+1,u⟩=g (G x.sa x.sn x.sc):=eO.q.2.1 _ _ (HC.q 1 _ rfl);go_wp2_with fail;clear hcp hch hsl
     go_loopw [121] (fun i wr=>∃j:Nat,j≤x.sn∧i= O .i64 j∧On J Jx (aY es ds ms qs scan dn mn) l bh bp h w W (((dn x).drop j).map (fun d=>(0,d))++((ds.drop (k+1)).flatMap (fun x=>jQ x (dn x))++pW)) wr) (fun i _=>x.sn - (B i).toNat)
     case atStart=>exact⟨0,M _,rfl,by simpa using eO.q⟩
     case round=>
      obtain⟨j,hj,rfl,hon⟩:=hrel;have d9:=z hon;clear hon;have fZ:=z (iE.q.2.2.2.2.2.1 x (I HX.q));have hle1:=fZ.q.le;by_cases hjl:j<x.sn
      ·obtain⟨d,b2,o2,hx2,gq,hc2⟩:=fZ.q.at_ hjl
       have bM:=z hc2;have aW:=z hx2;have wu:=z gq;clear hc2 hx2 gq;have dA:(dn x).drop j=d::(dn x).drop (j+1):=by
        rw[C (f.1 aW.q).1,(f.1 aW.q).2]
       have dR:Hid (On J Jx (aY es ds ms qs scan dn mn) l bh bp h w W ((0,d)::(((dn x).drop (j+1)).map (fun d=>(0,d))++((ds.drop (k+1)).flatMap (fun x=>jQ x (dn x))++pW))) wr):=by
        have:=d9.q;rw[dA,Q] at this;exact z (by simpa using this)
       clear dA;go_wp2_with fail;have HDR:=z (On.drew HJ.q kY.q dR.q);have aQ:=z (iP.q (0,d) _ b2 (o2+j) _ HDR.q (by have:=bM.q 0 _ rfl;simpa using this));refine aP [(0,A),(1,A),(2,A),(3,A),(4,A),(5,A),(6,A),(7,A),(8,A),(9,A),(10,A),(11,N)] (fun W'=>Bx W' (W.heap.size+2) #[.func (.func 138) #[] #[y (g ⟨W.heap.size+1,0,u⟩),y (g ⟨W.heap.size,0,u⟩)]]∧W'.cell? ⟨b,o+k*2+1,u⟩=g (G (g ⟨b2,o2,u⟩) x.sn x.sc)∧W'.cell? ⟨bp,0,u⟩=g (y (g ⟨bh,0,u⟩))∧W'.cell? ⟨bh,5,u⟩=g (G (g ⟨b,o,u⟩) h.d.n h.d.c)) au au (by intro d v c a w h;cases d <;> exact h) (⟨HDR.q.fn,HDR.q.2.1 _ _ (by rw[←wu.q];exact HC.q 1 _ rfl),(HDR.q.2.2.2.1.1 0),((HDR.q.2.2.1.1 5).trans (by rw[←dz.q];rfl))⟩) ?_;refine qO ?_;refine dD rfl rfl (fun K hK=>?_);go_simp;refine aQ.q.mono ?_;rintro e1 Y ⟨⟨r,rfl⟩,aN⟩;have HS2:=z aN;refine hK _ _ ⟨aN.fn,aN.2.1 _ _ (by rw[←wu.q];exact HC.q 1 _ rfl),(aN.2.2.2.1.1 0),((aN.2.2.1.1 5).trans (by rw[←dz.q];rfl))⟩ ?_;clear hK K aN aQ HDR;refine cB ?_;go_wp2_with fail;go_roundw
       case rel=>exact⟨j+1,by omega,by go_num,HS2.q⟩
       case measure=>simp[B];omega
      ·have hlen1:=fZ.q.len
       have oK:Hid (On J Jx (aY es ds ms qs scan dn mn) l bh bp h w W ((ds.drop (k+1)).flatMap (fun x=>jQ x (dn x))++pW) wr):=by
        have:=d9.q;rw[E ah] at this;exact z (by simpa using this)
       go_wp2_with fail;go_roundw
       case rel=>exact⟨k+1,by omega,by go_num,oK.q⟩
       case measure=>simp[B];omega
    ·have Bp:=(iE.q.2.1).len
     have lT:Hid (On J Jx (aY es ds ms qs scan dn mn) l bh bp h w W pW wr):=by
      have:=HN.q;rw[E ah] at this;exact z (by simpa using this)
     have hcp:wr.cell? ⟨bp,0,u⟩=g (y (g ⟨bh,0,u⟩)):=lT.q.2.2.2.1.1 0;have hch:wr.cell? ⟨bh,6,u⟩=g (h.m.v):=lT.q.2.2.1.1 6;go_wp2_with fail;clear hcp hch;rw[sF.q] at lT
     go_loopw [143] (fun i wr=>∃k:Nat,k≤h.m.n∧i= O .i64 k∧On J Jx (aY es ds ms qs scan dn mn) l bh bp h w W ((ms.drop k).flatMap (fun x=>jf x (mn x))++pV) wr) (fun i _=>h.m.n - (B i).toNat)
     case atStart=>exact⟨0,M _,rfl,by simpa using lT.q⟩
     case round=>
      obtain⟨k,hk,rfl,hon⟩:=hrel;have HN:=z hon;clear hon;have hle0:=(iE.q.2.2.1).le;by_cases hlt:k<h.m.n
      ·obtain⟨x,b,o,hx,hab,hc⟩:=(iE.q.2.2.1).at_ hlt
       have HC:=z hc;have HX:=z hx;have dz:=z hab;clear hx hab hc;have hdrop:ms.drop k=x::ms.drop (k+1):=by
        rw[C (f.1 HX.q).1,(f.1 HX.q).2]
       have hcp:wr.cell? ⟨bp,0,u⟩=g (y (g ⟨bh,0,u⟩)):=HN.q.2.2.2.1.1 0;have hch:wr.cell? ⟨bh,6,u⟩=g (G (g ⟨b,o,u⟩) h.m.n h.m.c):=(HN.q.2.2.1.1 6).trans (by rw[←dz.q];rfl);have lZ:Hid (On J Jx (aY es ds ms qs scan dn mn) l bh bp h w W ((3,x.pred)::((2,x.obj)::((mn x).map (fun d=>(0,d))++((ms.drop (k+1)).flatMap (fun x=>jf x (mn x))++pV)))) wr):=by
        have:=HN.q;rw[hdrop,H] at this;simp only[jf,F,L] at this;exact z this
       clear hdrop;go_wp2_with fail;clear hcp hch;have HDR:=z (On.drew HJ.q kY.q lZ.q);have aQ:=z (iP.q (3,x.pred) _ b (o+k*4) _ HDR.q (HC.q 0 _ rfl));refine aP [(0,A),(1,A),(2,A),(3,A),(4,N)] (fun W'=>Bx W' (W.heap.size+2) #[.func (.func 138) #[] #[y (g ⟨W.heap.size+1,0,u⟩),y (g ⟨W.heap.size,0,u⟩)]]) au au (by intro d v c a w h;cases d <;> exact h) (HDR.q.fn) ?_;refine qO ?_;refine dD rfl rfl (fun K hK=>?_);go_simp;refine aQ.q.mono ?_;rintro e1 Y ⟨⟨r,rfl⟩,aN⟩;have eO:=z aN;refine hK _ _ aN.fn ?_;clear hK K aN aQ HDR;refine cB ?_;go_wp2_with fail;have HDR:=z (On.drew HJ.q kY.q eO.q);have aQ:=z (iP.q (2,x.obj) _ b (o+k*4+1) _ HDR.q (HC.q 1 _ rfl));refine aP [(0,A),(1,A),(2,A),(3,A),(4,N)] (fun W'=>Bx W' (W.heap.size+2) #[.func (.func 138) #[] #[y (g ⟨W.heap.size+1,0,u⟩),y (g ⟨W.heap.size,0,u⟩)]]) au au (by intro d v c a w h;cases d <;> exact h) (HDR.q.fn) ?_;refine qO ?_;refine dD rfl rfl (fun K hK=>?_);go_simp;refine aQ.q.mono ?_;rintro e1 Y ⟨⟨r,rfl⟩,aN⟩;have dY:=z aN;refine hK _ _ aN.fn ?_;clear hK K aN aQ HDR;refine cB ?_;have hsl:Y.cell? ⟨b,o+k*4+3,u⟩=g (G x.sa x.sn x.sc):=dY.q.2.1 _ _ (HC.q 3 _ rfl);go_wp2_with fail;clear hsl
       go_loopw [167] (fun i wr=>∃j:Nat,j≤x.sn∧i= O .i64 j∧On J Jx (aY es ds ms qs scan dn mn) l bh bp h w W (((mn x).drop j).map (fun d=>(0,d))++((ms.drop (k+1)).flatMap (fun x=>jf x (mn x))++pV)) wr) (fun i _=>x.sn - (B i).toNat)
       case atStart=>exact⟨0,M _,rfl,by simpa using dY.q⟩
       case round=>
        obtain⟨j,hj,rfl,hon⟩:=hrel;have d9:=z hon;clear hon;have fZ:=z (iE.q.2.2.2.2.2.2 x (I HX.q));have hle1:=fZ.q.le;by_cases hjl:j<x.sn
        ·obtain⟨d,b2,o2,hx2,gq,hc2⟩:=fZ.q.at_ hjl
         have bM:=z hc2;have aW:=z hx2;have wu:=z gq;clear hc2 hx2 gq;have dA:(mn x).drop j=d::(mn x).drop (j+1):=by
          rw[C (f.1 aW.q).1,(f.1 aW.q).2]
         have dR:Hid (On J Jx (aY es ds ms qs scan dn mn) l bh bp h w W ((0,d)::(((mn x).drop (j+1)).map (fun d=>(0,d))++((ms.drop (k+1)).flatMap (fun x=>jf x (mn x))++pV))) wr):=by
          have:=d9.q;rw[dA,Q] at this;exact z (by simpa using this)
         clear dA;go_wp2_with fail;have HDR:=z (On.drew HJ.q kY.q dR.q);have aQ:=z (iP.q (0,d) _ b2 (o2+j) _ HDR.q (by have:=bM.q 0 _ rfl;simpa using this));refine aP [(0,A),(1,A),(2,A),(3,A),(4,A),(5,A),(6,A),(7,N)] (fun W'=>Bx W' (W.heap.size+2) #[.func (.func 138) #[] #[y (g ⟨W.heap.size+1,0,u⟩),y (g ⟨W.heap.size,0,u⟩)]]∧W'.cell? ⟨b,o+k*4+3,u⟩=g (G (g ⟨b2,o2,u⟩) x.sn x.sc)) au au (by intro d v c a w h;cases d <;> exact h) (⟨HDR.q.fn,HDR.q.2.1 _ _ (by rw[←wu.q];exact HC.q 3 _ rfl)⟩) ?_;refine qO ?_;refine dD rfl rfl (fun K hK=>?_);go_simp;refine aQ.q.mono ?_;rintro e1 Y ⟨⟨r,rfl⟩,aN⟩;have HS2:=z aN;refine hK _ _ ⟨aN.fn,aN.2.1 _ _ (by rw[←wu.q];exact HC.q 3 _ rfl)⟩ ?_;clear hK K aN aQ HDR;refine cB ?_;go_wp2_with fail;go_roundw
         case rel=>exact⟨j+1,by omega,by go_num,HS2.q⟩
         case measure=>simp[B];omega
        ·have hlen1:=fZ.q.len
         have oK:Hid (On J Jx (aY es ds ms qs scan dn mn) l bh bp h w W ((ms.drop (k+1)).flatMap (fun x=>jf x (mn x))++pV) wr):=by
          have:=d9.q;rw[E ah] at this;exact z (by simpa using this)
         go_wp2_with fail;go_roundw
         case rel=>exact⟨k+1,by omega,by go_num,oK.q⟩
         case measure=>simp[B];omega
      ·have Bp:=(iE.q.2.2.1).len
       have lT:Hid (On J Jx (aY es ds ms qs scan dn mn) l bh bp h w W pV wr):=by
        have:=HN.q;rw[E ah] at this;exact z (by simpa using this)
       have hcp:wr.cell? ⟨bp,0,u⟩=g (y (g ⟨bh,0,u⟩)):=lT.q.2.2.2.1.1 0;have hch:wr.cell? ⟨bh,7,u⟩=g (h.w.v):=lT.q.2.2.1.1 7;go_wp2_with fail;clear hcp hch;rw[GR.q] at lT
       go_loopw [185] (fun i wr=>∃k:Nat,k≤h.w.n∧i= O .i64 k∧On J Jx (aY es ds ms qs scan dn mn) l bh bp h w W ((qs.drop k).flatMap jY++[]) wr) (fun i _=>h.w.n - (B i).toNat)
       case atStart=>exact⟨0,M _,rfl,by simpa using lT.q⟩
       case round=>
        obtain⟨k,hk,rfl,hon⟩:=hrel;have HN:=z hon;clear hon;have hle0:=(iE.q.2.2.2.1).le;by_cases hlt:k<h.w.n
        ·obtain⟨x,b,o,hx,hab,hc⟩:=(iE.q.2.2.2.1).at_ hlt
         have HC:=z hc;have HX:=z hx;have dz:=z hab;clear hx hab hc;have hdrop:qs.drop k=x::qs.drop (k+1):=by
          rw[C (f.1 HX.q).1,(f.1 HX.q).2]
         have hcp:wr.cell? ⟨bp,0,u⟩=g (y (g ⟨bh,0,u⟩)):=HN.q.2.2.2.1.1 0;have hch:wr.cell? ⟨bh,7,u⟩=g (G (g ⟨b,o,u⟩) h.w.n h.w.c):=(HN.q.2.2.1.1 7).trans (by rw[←dz.q];rfl);have lZ:Hid (On J Jx (aY es ds ms qs scan dn mn) l bh bp h w W ((1,x.bR)::((qs.drop (k+1)).flatMap jY++[])) wr):=by
          have:=HN.q;rw[hdrop,H] at this;simp only[jY,F,List.nil_append] at this;exact z this
         clear hdrop;go_wp2_with fail;clear hcp hch;have HDR:=z (On.drew HJ.q kY.q lZ.q);have aQ:=z (iP.q (1,x.bR) _ b (o+k*2) _ HDR.q (HC.q 0 _ rfl));refine aP [(0,A),(1,A),(2,A),(3,A),(4,A),(5,A),(6,A),(7,A),(8,N)] (fun W'=>Bx W' (W.heap.size+2) #[.func (.func 138) #[] #[y (g ⟨W.heap.size+1,0,u⟩),y (g ⟨W.heap.size,0,u⟩)]]∧W'.cell? ⟨bp,0,u⟩=g (y (g ⟨bh,0,u⟩))∧W'.cell? ⟨bh,7,u⟩=g (G (g ⟨b,o,u⟩) h.w.n h.w.c)) au au (by intro d v c a w h;cases d <;> exact h) (⟨HDR.q.fn,(HDR.q.2.2.2.1.1 0),((HDR.q.2.2.1.1 7).trans (by rw[←dz.q];rfl))⟩) ?_;refine qO ?_;refine dD rfl rfl (fun K hK=>?_);go_simp;refine aQ.q.mono ?_;rintro e1 Y ⟨⟨r,rfl⟩,aN⟩;have eO:=z aN;refine hK _ _ ⟨aN.fn,(aN.2.2.2.1.1 0),((aN.2.2.1.1 7).trans (by rw[←dz.q];rfl))⟩ ?_;clear hK K aN aQ HDR;refine cB ?_;go_wp2_with fail;go_roundw
         case rel=>exact⟨k+1,by omega,by go_num,eO.q⟩
         case measure=>simp[B];omega
        ·have Bp:=(iE.q.2.2.2.1).len
         have lT:Hid (On J Jx (aY es ds ms qs scan dn mn) l bh bp h w W [] wr):=by
          have:=HN.q;rw[E ah] at this;exact z (by simpa using this)
         go_wp2_with fail
         go_end0
         obtain⟨⟨pre,hp,a0,a2,a1⟩,_⟩:=lT.q;rw[List.append_nil] at hp;refine⟨_,rfl,?_⟩;rcases a1 with⟨_,hj⟩|⟨_,p,hpx,hj⟩
         ·exact .inl (hp▸hj)
         ·exact .inr ⟨p,hpx,hj⟩
end Yd
