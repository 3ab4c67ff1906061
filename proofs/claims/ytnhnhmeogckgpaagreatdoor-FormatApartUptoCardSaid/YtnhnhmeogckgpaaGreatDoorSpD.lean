import Derived.Test.YtnhnhmeogckgpaaGreatDoorIk
set_option linter.all false
set_option maxRecDepth 200000
set_option maxHeartbeats 8000000
namespace Yd
open Bool renaming true→z,false→N
open List renaming getElem?_eq_some_iff→g,drop_eq_getElem_cons→B,drop_eq_nil_of_le→E,mem_of_getElem?→F,cons_append→G,append_assoc→H,append_nil→R
open Nat renaming zero_le→M,le_trans→S
open Option renaming none→f,some→t
open Go Go.RowKit Go.Proofs
open Go renaming Addr→L,World→Q
open Go.Obj renaming cells→O
open Go.Value renaming pointer→u,slice→I,int→P
open RowKit renaming intOf→A
open Yd renaming hid→y
def dV (J Jx:List (Int × L)→Q→Prop) (C:L→Prop) (xs:List (Int × L)) (l bh bp:Nat) (h:HC) (w W:Q) (rest:List (Int × L)) (X:Q):Prop:=
 (∃pre,pre++rest=xs∧Ot J Jx xs W.heap.size l pre X)∧yP C w X∧Bx X bh (aA h)∧Bx X bp #[u (t ⟨bh,0,f⟩)]∧w.heap.size≤X.heap.size
section
variable {J Jx:List (Int × L)→Q→Prop} {C:L→Prop} {D:Nat→Prop} {xs:List (Int × L)} {l bh bp:Nat} {h:HC} {w W:Q}
theorem dV.step {rest:List (Int × L)} {pre:List (Int × L)} {X Y:Q} {e:Ending} (hX:yP C w X∧Bx X bh (aA h)∧Bx X bp #[u (t ⟨bh,0,f⟩)]∧w.heap.size≤X.heap.size) (hR:∀s X,J s X→yP C w X) (TL:∀s X,Jx s X→yP C w X) (hs:Yf J Jx D xs W.heap.size l pre X e Y) (hp:pre++rest=xs)
  (Ga:D bh) (Gb:D bp) (hbh:bh<W.heap.size) (hbp:bp<W.heap.size):dV J Jx C xs l bh bp h w W rest Y:=by
 obtain⟨_,h2,h3,h4⟩:=hX;obtain⟨_,hA,hk⟩:=hs;exact⟨⟨pre,hp,hA⟩,(by rcases hA.2.2 with⟨_,hj⟩|⟨_,p,_,hj⟩;exact hR _ _ hj;exact TL _ _ hj),hk.bx h2 ⟨Ga,by omega⟩,hk.bx h3 ⟨Gb,by omega⟩,S h4 hk.1⟩
theorem dV.fn {rest:List (Int × L)} {X:Q} (hX:dV J Jx C xs l bh bp h w W rest X):Bx X (W.heap.size+2) #[.func (.func 138) #[] #[u (t ⟨W.heap.size+1,0,f⟩),u (t ⟨W.heap.size,0,f⟩)]]:=by
 obtain⟨⟨pre,hp,a0,a2,a1⟩,_⟩:=hX;exact a2
theorem dV.drew {rest:List (Int × L)} {X:Q} (hJ:∀s X Y,J s X→Same (fun i=>i<W.heap.size∨W.heap.size+3≤i) X Y→J s Y) (hJx:∀s X Y,Jx s X→Same (fun i=>i<W.heap.size∨W.heap.size+3≤i) X Y→Jx s Y)
  (hX:dV J Jx C xs l bh bp h w W rest X):dV J Jx C xs l bh bp h w W rest X.drew:=by
 obtain⟨⟨pre,hp,a0,a2,a1⟩,h1,h2,h3,h4⟩:=hX;refine⟨⟨pre,hp,a0.drew,a2.drew,?_⟩,h1,h2.drew,h3.drew,h4⟩;rcases a1 with⟨k1,hj⟩|⟨k1,p,hpx,hj⟩
 ·exact .inl ⟨k1.drew,hJ _ _ _ hj (Same.of_below ((Below.refl X.heap.size X).drew) (fun i _ hi=>hi))⟩
 ·exact .inr ⟨k1.drew,p,hpx,hJx _ _ _ hj (Same.of_below ((Below.refl X.heap.size X).drew) (fun i _ hi=>hi))⟩
end
theorem LF (h:HC) (es:List EvC) (ds:List aK) (ms:List aM) (qs:List Wa) (scan:EvC→List Sn) (dn:aK→List Int) (mn:aM→List Int) (bh bp:Nat) (D:Nat→Prop) (C:L→Prop) (w W:Q)
  (hd:Deep w h es ds ms qs scan dn mn) (hH:Bx W bh (aA h)) (hP:Bx W bp #[u (t ⟨bh,0,f⟩)]) (hrd:yP C w W) (hsz:w.heap.size≤W.heap.size) (Ga:D bh) (Gb:D bp)
  (hCE:∀b o,h.e.a=t ⟨b,o,f⟩→∀k,k<h.e.n→∀j,j=0∨j=6∨j=8→C ⟨b,o+k*9+j,f⟩) (hCS:∀e∈es,∀b o,e.sa=t ⟨b,o,f⟩→∀j,j<e.sn→C ⟨b,o+j*3+2,f⟩)
  (hCO:∀b o,h.d.a=t ⟨b,o,f⟩→∀k,k<h.d.n→C ⟨b,o+k*2+1,f⟩) (hCM:∀b o,h.m.a=t ⟨b,o,f⟩→∀k,k<h.m.n→C ⟨b,o+k*4+3,f⟩)
  (Jy:∀i,W.heap.size≤i→i<W.heap.size+3→D i):
  Yc Tryz.prog 137 #[u (t ⟨bp,0,f⟩)] Jh 3 D (yP C w) (aG h es ds ms qs scan dn mn) W:=by
 intro n l J Jx hJ hJx hR TL hY h0;refine callsIn_wide.2 ?_;have iP:Hid (∀(s:Int) (b o:Nat) rest X,dV J Jx C (aG h es ds ms qs scan dn mn) l bh bp h w W ((s,(⟨b,o,f⟩:L))::rest) X→
   Calls Tryz.prog 138 #[P .i64 s,u (t ⟨b,o,f⟩),u (t ⟨W.heap.size+1,0,f⟩),u (t ⟨W.heap.size,0,f⟩)] X fun e Y=>(∃v,e= .returned v)∧dV J Jx C (aG h es ds ms qs scan dn mn) l bh bp h w W rest Y):=y fun s b o rest X hX=>by
  obtain⟨⟨pre,hp,hA⟩,hrd⟩:=hX;refine(callsIn_wide.1 (LM J Jx D (aG h es ds ms qs scan dn mn) W.heap.size l hJ hJx Jy hY pre s b o X ⟨rest,by rw[←hp];simp⟩ hA 3)).mono ?_;exact fun e Y hs=>⟨hs.1,dV.step hrd hR TL hs (by rw[←hp];simp) Ga Gb hH.2.2 hP.2.2⟩
 have tH:Hid (∀(v:kT) rest b o X,dV J Jx C (aG h es ds ms qs scan dn mn) l bh bp h w W (iy ⟨b,o,f⟩ v++rest) X→C ⟨b,o+1,f⟩→w.cell? ⟨b,o+1,f⟩=t (P .i64 v.k)→
   Calls Tryz.prog 139 #[u (t ⟨b,o,f⟩),u (t ⟨W.heap.size+2,0,f⟩)] X fun e Y=>(∃v,e= .returned v)∧dV J Jx C (aG h es ds ms qs scan dn mn) l bh bp h w W rest Y):=y fun v rest b o X hX hC1 hc1=>by
  obtain⟨⟨pre,hp,hA⟩,hrd⟩:=hX;refine(Wt J Jx D (aG h es ds ms qs scan dn mn) W.heap.size l hJ hJx Jy hY pre v b o X ⟨rest,by rw[←hp];simp⟩ hA (hrd.1 _ _ hC1 hc1)).mono ?_;exact fun e Y hs=>⟨hs.1,dV.step hrd hR TL hs (by rw[←hp];simp) Ga Gb hH.2.2 hP.2.2⟩
 have hBa:Below W.heap.size W (((W.alloc (O #[.func (.yield l) #[] #[]] 197)).alloc (O #[.bool z] 4)).alloc (O #[.func (.func 138) #[] #[u (t ⟨W.heap.size+1,0,f⟩),u (t ⟨W.heap.size,0,f⟩)]] 198)):=
  (((Below.refl _ _).alloc (Nat.le_refl _) _).alloc ak _).alloc (by simp;omega) _
 go_enter Tryz.func137,Tryz.ntmps137;have L6:=hP.keep hBa;have hH0:=hH.keep hBa;have hcp:=L6.1;have hch:=hH0.1;have Ol:Hid (dV J Jx C (aG h es ds ms qs scan dn mn) l bh bp h w W (aG h es ds ms qs scan dn mn) (((W.alloc (O #[.func (.yield l) #[] #[]] 197)).alloc (O #[.bool z] 4)).alloc (O #[.func (.func 138) #[] #[u (t ⟨W.heap.size+1,0,f⟩),u (t ⟨W.heap.size,0,f⟩)]] 198))):=by
  refine⟨⟨[],rfl,((Bx.new W _ _).alloc _).alloc _,?_,.inl ⟨?_,hJ _ _ _ h0 (Same.of_below hBa (fun i _ hi=>hi))⟩⟩,fun a v hCa hc=>?_,hH0,L6,S hsz hBa.size⟩
  ·have:=Bx.new ((W.alloc (O #[.func (.yield l) #[] #[]] 197)).alloc (O #[.bool z] 4)) #[.func (.func 138) #[] #[u (t ⟨W.heap.size+1,0,f⟩),u (t ⟨W.heap.size,0,f⟩)]] 198
   simpa using this
  ·have:=(Bx.new (W.alloc (O #[.func (.yield l) #[] #[]] 197)) #[.bool z] 4).alloc (O #[.func (.func 138) #[] #[u (t ⟨W.heap.size+1,0,f⟩),u (t ⟨W.heap.size,0,f⟩)]] 198)
   simpa using this
  ·have h1:=hrd a v hCa hc
   exact(hBa.cell (p:=a) (fw h1)).trans h1
 go_wp2_with fail;have iE:=y hd;have ah6:=y hCE;have TM:=y hCS;have HCO:=y hCO;have HCM:=y hCM;clear hCE hCS hCO hCM hR TL hrd;clear hBa L6 hH0 hcp hch hY h0 hd;obtain⟨pV,TD⟩:∃r,r=uQ h.w.a 0 qs++[]:=⟨_,rfl⟩;obtain⟨pW,TF⟩:∃r,r=qA h.m.a mn 0 ms++pV:=⟨_,rfl⟩;obtain⟨dI,TG⟩:∃r,r=qz h.d.a dn 0 ds++pW:=⟨_,rfl⟩;have TH:=y TG;have sF:=y TF;have GR:=y TD;have HJ:=y hJ;have kY:=y hJx;clear TG TF TD hJ hJx
 go_loopw [22] (fun i wr=>∃k:Nat,k≤h.e.n∧i= P .i64 k∧dV J Jx C (aG h es ds ms qs scan dn mn) l bh bp h w W (gX h.e.a scan k (es.drop k)++dI) wr) (fun i _=>h.e.n - (A i).toNat)
 case atStart=>exact⟨0,M _,rfl,by rw[TH.q,sF.q,GR.q,R];exact Ol.q⟩
 case round=>
  obtain⟨k,hk,rfl,hon⟩:=hrel;have hx2:=hon.2.2.1;have hx3:=hon.2.2.2.1;have hcp:=hx3.1;by_cases hlt:k<h.e.n
  ·obtain⟨e,b,o,hx,hab,hc⟩:=iE.q.1.at_ hlt
   have hce:wr.cell? ⟨bh,4,f⟩=t (I (t ⟨b,o,f⟩) h.e.n h.e.c):=by rw[hx2.1 4,←hab];rfl
   have HC:=y hc;have HX:=y hx;have HN:=y hon;have HAE:=y hab;have nT:=y (ah6.q b o hab k hlt);clear hx2 hx3 hon hc hx hab;go_wp2_with fail;have hdrop:es.drop k=e::es.drop (k+1):=by
    rw[B (g.1 HX.q).1,(g.1 HX.q).2]
   have lZ:Hid (dV J Jx C (aG h es ds ms qs scan dn mn) l bh bp h w W ((0,(⟨b,o+k*9+1,f⟩:L))::((if e.kind=1 then [(1,(⟨b,o+k*9+2,f⟩:L))] else if e.kind=2∨e.kind=3 then(2,(⟨b,o+k*9+4,f⟩:L))::iy ⟨b,o+k*9+5,f⟩ e.v else if e.kind=4 then [(3,(⟨b,o+k*9+7,f⟩:L))] else [])++(kF e.sa 0 (scan e)++(gX h.e.a scan (k+1) (es.drop (k+1))++dI)))) wr):=by
    have:=HN.q;rw[hdrop,Qn HAE.q] at this;simp only[G,H] at this;exact y this
   have HDR:=y (dV.drew HJ.q kY.q lZ.q);have aQ:=y (iP.q 0 b (o+k*9+1) _ _ HDR.q);refine aP [(0,z),(1,z),(2,z),(3,z),(4,N)] (fun W'=>Bx W' (W.heap.size+2) #[.func (.func 138) #[] #[u (t ⟨W.heap.size+1,0,f⟩),u (t ⟨W.heap.size,0,f⟩)]]) au au (by intro d v c a w h;cases d <;> exact h) (HDR.q.fn) ?_;refine qO ?_;refine dD rfl rfl (fun K hK=>?_);go_simp;refine aQ.q.mono ?_;rintro e1 Y ⟨⟨r,rfl⟩,aN⟩;have eO:=y aN;refine hK _ _ aN.fn ?_;clear hK K aN aQ HDR;refine cB ?_;have hk0:Y.cell? ⟨b,o+k*9,f⟩=t (P .i64 e.kind):=eO.q.2.1 _ _ (nT.q 0 (.inl rfl)) (HC.q 0 _ rfl);by_cases k1:e.kind=1
   ·rw[k1] at hk0
    have L8:=eO;clear eO;have eO:=y (show dV J Jx C (aG h es ds ms qs scan dn mn) l bh bp h w W ((1,(⟨b,o+k*9+2,f⟩:L))::(kF e.sa 0 (scan e)++(gX h.e.a scan (k+1) (es.drop (k+1))++dI))) Y by have:=L8.q;rw[if_pos k1] at this;exact this);clear L8;go_wp2_with fail;have HDR:=y (dV.drew HJ.q kY.q eO.q);have aQ:=y (iP.q 1 b (o+k*9+2) _ _ HDR.q);refine aP [(0,z),(1,z),(2,z),(3,z),(4,N)] (fun W'=>Bx W' (W.heap.size+2) #[.func (.func 138) #[] #[u (t ⟨W.heap.size+1,0,f⟩),u (t ⟨W.heap.size,0,f⟩)]]) au au (by intro d v c a w h;cases d <;> exact h) (HDR.q.fn) ?_;refine qO ?_;refine dD rfl rfl (fun K hK=>?_);go_simp;refine aQ.q.mono ?_;rintro e1 Y ⟨⟨r,rfl⟩,aN⟩;have dY:=y aN;refine hK _ _ aN.fn ?_;clear hK K aN aQ HDR;refine cB ?_;have hsl:Y.cell? ⟨b,o+k*9+8,f⟩=t (I e.sa e.sn e.sc):=dY.q.2.1 _ _ (nT.q 8 (.inr (.inr rfl))) (HC.q 8 _ rfl);go_wp2_with fail;clear hsl
    go_loopw [72] (fun i wr=>∃j:Nat,j≤e.sn∧i= P .i64 j∧dV J Jx C (aG h es ds ms qs scan dn mn) l bh bp h w W (kF e.sa j ((scan e).drop j)++(gX h.e.a scan (k+1) (es.drop (k+1))++dI)) wr) (fun i _=>e.sn - (A i).toNat)
    case atStart=>exact⟨0,M _,rfl,dY.q⟩
    case round=>
     obtain⟨j,hj,rfl,hon⟩:=hrel;have d9:=y hon;clear hon;have fZ:=y (iE.q.2.2.2.2.1 e (F HX.q));have hle:=fZ.q.le;by_cases hjl:j<e.sn
     ·obtain⟨s2,b2,o2,hx2,gq,hc2⟩:=fZ.q.at_ hjl
      have bM:=y hc2;have aW:=y hx2;have dz:=y gq;clear hc2 hx2 gq;have dA:(scan e).drop j=s2::(scan e).drop (j+1):=by
       rw[B (g.1 aW.q).1,(g.1 aW.q).2]
      have dR:Hid (dV J Jx C (aG h es ds ms qs scan dn mn) l bh bp h w W ((2,(⟨b2,o2+j*3,f⟩:L))::(iy ⟨b2,o2+j*3+1,f⟩ s2.v++(kF e.sa (j+1) ((scan e).drop (j+1))++(gX h.e.a scan (k+1) (es.drop (k+1))++dI)))) wr):=by
       have:=d9.q;rw[dA,wU dz.q] at this;simp only[G,H] at this;exact y this
      clear dA;go_wp2_with fail;have HDR:=y (dV.drew HJ.q kY.q dR.q);have aQ:=y (iP.q 2 b2 (o2+j*3) _ _ HDR.q);refine aP [(0,z),(1,z),(2,z),(3,z),(4,z),(5,z),(6,z),(7,z),(8,N)] (fun W'=>Bx W' (W.heap.size+2) #[.func (.func 138) #[] #[u (t ⟨W.heap.size+1,0,f⟩),u (t ⟨W.heap.size,0,f⟩)]]∧W'.cell? ⟨b,o+k*9+8,f⟩=t (I (t ⟨b2,o2,f⟩) e.sn e.sc)) au au (by intro d v c a w h;cases d <;> exact h) (⟨HDR.q.fn,HDR.q.2.1 _ _ (nT.q 8 (.inr (.inr rfl))) (by rw[←dz.q];exact HC.q 8 _ rfl)⟩) ?_;refine qO ?_;refine dD rfl rfl (fun K hK=>?_);go_simp;refine aQ.q.mono ?_;rintro e1 Y ⟨⟨r,rfl⟩,aN⟩;have HS2:=y aN;refine hK _ _ ⟨aN.fn,aN.2.1 _ _ (nT.q 8 (.inr (.inr rfl))) (by rw[←dz.q];exact HC.q 8 _ rfl)⟩ ?_;clear hK K aN aQ HDR;refine cB ?_;have hsl2:Y.cell? ⟨b,o+k*9+8,f⟩=t (I (t ⟨b2,o2,f⟩) e.sn e.sc):=HS2.q.2.1 _ _ (nT.q 8 (.inr (.inr rfl))) (by rw[←dz.q];exact HC.q 8 _ rfl);have iR:=y (tH.q s2.v _ b2 (o2+j*3+1) Y HS2.q (TM.q e (F HX.q) b2 o2 dz.q j hjl) (bM.q 2 _ rfl));go_wp2_with fail;refine iR.q.mono ?_;rintro e2 Y2 ⟨⟨r2,rfl⟩,gu⟩;have fE:=y gu;clear gu hsl2 iR;go_wp2_with fail;go_roundw
      case rel=>exact⟨j+1,by omega,by go_num,fE.q⟩
      case measure=>simp[A];omega
     ·have hjn:j=e.sn:=by omega
      have hlen:=fZ.q.len;have oK:Hid (dV J Jx C (aG h es ds ms qs scan dn mn) l bh bp h w W (gX h.e.a scan (k+1) (es.drop (k+1))++dI) wr):=by
       have:=d9.q;rw[E ah] at this;exact y this
      have hle2:=iE.q.1.le;go_wp2_with fail;go_roundw
      case rel=>exact⟨k+1,by omega,by go_num,oK.q⟩
      case measure=>simp[A];omega
   by_cases k2:e.kind=2
   ·rw[k2] at hk0
    have zA:=y (show dV J Jx C (aG h es ds ms qs scan dn mn) l bh bp h w W ((2,(⟨b,o+k*9+4,f⟩:L))::(iy ⟨b,o+k*9+5,f⟩ e.v++(kF e.sa 0 (scan e)++(gX h.e.a scan (k+1) (es.drop (k+1))++dI)))) Y by have:=eO.q;rw[if_neg k1,if_pos ah] at this;simp only[G,H] at this;exact this);clear eO;go_wp2_with fail;have HDR:=y (dV.drew HJ.q kY.q zA.q);have aQ:=y (iP.q 2 b (o+k*9+4) _ _ HDR.q);refine aP [(0,z),(1,z),(2,z),(3,z),(4,N)] (fun W'=>Bx W' (W.heap.size+2) #[.func (.func 138) #[] #[u (t ⟨W.heap.size+1,0,f⟩),u (t ⟨W.heap.size,0,f⟩)]]) au au (by intro d v c a w h;cases d <;> exact h) (HDR.q.fn) ?_;refine qO ?_;refine dD rfl rfl (fun K hK=>?_);go_simp;refine aQ.q.mono ?_;rintro e1 Y ⟨⟨r,rfl⟩,aN⟩;have iq:=y aN;refine hK _ _ aN.fn ?_;clear hK K aN aQ HDR;refine cB ?_;have iR:=y (tH.q e.v _ b (o+k*9+5) Y iq.q (nT.q 6 (.inr (.inl rfl))) (HC.q 6 _ rfl));go_wp2_with fail;refine iR.q.mono ?_;rintro e2 Y2 ⟨⟨r2,rfl⟩,gu⟩;obtain⟨Y,rfl⟩:∃Y,Y=Y2:=⟨_,rfl⟩;have dY:=y gu;clear gu iR;have hsl:Y.cell? ⟨b,o+k*9+8,f⟩=t (I e.sa e.sn e.sc):=dY.q.2.1 _ _ (nT.q 8 (.inr (.inr rfl))) (HC.q 8 _ rfl);go_wp2_with fail;clear hsl
    go_loopw [72] (fun i wr=>∃j:Nat,j≤e.sn∧i= P .i64 j∧dV J Jx C (aG h es ds ms qs scan dn mn) l bh bp h w W (kF e.sa j ((scan e).drop j)++(gX h.e.a scan (k+1) (es.drop (k+1))++dI)) wr) (fun i _=>e.sn - (A i).toNat)
    case atStart=>exact⟨0,M _,rfl,dY.q⟩
    case round=>
     obtain⟨j,hj,rfl,hon⟩:=hrel;have d9:=y hon;clear hon;have fZ:=y (iE.q.2.2.2.2.1 e (F HX.q));have hle:=fZ.q.le;by_cases hjl:j<e.sn
     ·obtain⟨s2,b2,o2,hx2,gq,hc2⟩:=fZ.q.at_ hjl
      have bM:=y hc2;have aW:=y hx2;have dz:=y gq;clear hc2 hx2 gq;have dA:(scan e).drop j=s2::(scan e).drop (j+1):=by
       rw[B (g.1 aW.q).1,(g.1 aW.q).2]
      have dR:Hid (dV J Jx C (aG h es ds ms qs scan dn mn) l bh bp h w W ((2,(⟨b2,o2+j*3,f⟩:L))::(iy ⟨b2,o2+j*3+1,f⟩ s2.v++(kF e.sa (j+1) ((scan e).drop (j+1))++(gX h.e.a scan (k+1) (es.drop (k+1))++dI)))) wr):=by
       have:=d9.q;rw[dA,wU dz.q] at this;simp only[G,H] at this;exact y this
      clear dA;go_wp2_with fail;have HDR:=y (dV.drew HJ.q kY.q dR.q);have aQ:=y (iP.q 2 b2 (o2+j*3) _ _ HDR.q);refine aP [(0,z),(1,z),(2,z),(3,z),(4,z),(5,z),(6,z),(7,z),(8,N)] (fun W'=>Bx W' (W.heap.size+2) #[.func (.func 138) #[] #[u (t ⟨W.heap.size+1,0,f⟩),u (t ⟨W.heap.size,0,f⟩)]]∧W'.cell? ⟨b,o+k*9+8,f⟩=t (I (t ⟨b2,o2,f⟩) e.sn e.sc)) au au (by intro d v c a w h;cases d <;> exact h) (⟨HDR.q.fn,HDR.q.2.1 _ _ (nT.q 8 (.inr (.inr rfl))) (by rw[←dz.q];exact HC.q 8 _ rfl)⟩) ?_;refine qO ?_;refine dD rfl rfl (fun K hK=>?_);go_simp;refine aQ.q.mono ?_;rintro e1 Y ⟨⟨r,rfl⟩,aN⟩;have HS2:=y aN;refine hK _ _ ⟨aN.fn,aN.2.1 _ _ (nT.q 8 (.inr (.inr rfl))) (by rw[←dz.q];exact HC.q 8 _ rfl)⟩ ?_;clear hK K aN aQ HDR;refine cB ?_;have hsl2:Y.cell? ⟨b,o+k*9+8,f⟩=t (I (t ⟨b2,o2,f⟩) e.sn e.sc):=HS2.q.2.1 _ _ (nT.q 8 (.inr (.inr rfl))) (by rw[←dz.q];exact HC.q 8 _ rfl);have iR:=y (tH.q s2.v _ b2 (o2+j*3+1) Y HS2.q (TM.q e (F HX.q) b2 o2 dz.q j hjl) (bM.q 2 _ rfl));go_wp2_with fail;refine iR.q.mono ?_;rintro e2 Y2 ⟨⟨r2,rfl⟩,gu⟩;have fE:=y gu;clear gu hsl2 iR;go_wp2_with fail;go_roundw
      case rel=>exact⟨j+1,by omega,by go_num,fE.q⟩
      case measure=>simp[A];omega
     ·have hjn:j=e.sn:=by omega
      have hlen:=fZ.q.len;have oK:Hid (dV J Jx C (aG h es ds ms qs scan dn mn) l bh bp h w W (gX h.e.a scan (k+1) (es.drop (k+1))++dI) wr):=by
       have:=d9.q;rw[E ah] at this;exact y this
      have hle2:=iE.q.1.le;go_wp2_with fail;go_roundw
      case rel=>exact⟨k+1,by omega,by go_num,oK.q⟩
      case measure=>simp[A];omega
   by_cases k3:e.kind=3
   ·rw[k3] at hk0
    have zA:=y (show dV J Jx C (aG h es ds ms qs scan dn mn) l bh bp h w W ((2,(⟨b,o+k*9+4,f⟩:L))::(iy ⟨b,o+k*9+5,f⟩ e.v++(kF e.sa 0 (scan e)++(gX h.e.a scan (k+1) (es.drop (k+1))++dI)))) Y by have:=eO.q;rw[if_neg k1,if_pos ah] at this;simp only[G,H] at this;exact this);clear eO;go_wp2_with fail;have HDR:=y (dV.drew HJ.q kY.q zA.q);have aQ:=y (iP.q 2 b (o+k*9+4) _ _ HDR.q);refine aP [(0,z),(1,z),(2,z),(3,z),(4,N)] (fun W'=>Bx W' (W.heap.size+2) #[.func (.func 138) #[] #[u (t ⟨W.heap.size+1,0,f⟩),u (t ⟨W.heap.size,0,f⟩)]]) au au (by intro d v c a w h;cases d <;> exact h) (HDR.q.fn) ?_;refine qO ?_;refine dD rfl rfl (fun K hK=>?_);go_simp;refine aQ.q.mono ?_;rintro e1 Y ⟨⟨r,rfl⟩,aN⟩;have iq:=y aN;refine hK _ _ aN.fn ?_;clear hK K aN aQ HDR;refine cB ?_;have iR:=y (tH.q e.v _ b (o+k*9+5) Y iq.q (nT.q 6 (.inr (.inl rfl))) (HC.q 6 _ rfl));go_wp2_with fail;refine iR.q.mono ?_;rintro e2 Y2 ⟨⟨r2,rfl⟩,gu⟩;obtain⟨Y,rfl⟩:∃Y,Y=Y2:=⟨_,rfl⟩;have dY:=y gu;clear gu iR;have hsl:Y.cell? ⟨b,o+k*9+8,f⟩=t (I e.sa e.sn e.sc):=dY.q.2.1 _ _ (nT.q 8 (.inr (.inr rfl))) (HC.q 8 _ rfl);go_wp2_with fail;clear hsl
    go_loopw [72] (fun i wr=>∃j:Nat,j≤e.sn∧i= P .i64 j∧dV J Jx C (aG h es ds ms qs scan dn mn) l bh bp h w W (kF e.sa j ((scan e).drop j)++(gX h.e.a scan (k+1) (es.drop (k+1))++dI)) wr) (fun i _=>e.sn - (A i).toNat)
    case atStart=>exact⟨0,M _,rfl,dY.q⟩
    case round=>
     obtain⟨j,hj,rfl,hon⟩:=hrel;have d9:=y hon;clear hon;have fZ:=y (iE.q.2.2.2.2.1 e (F HX.q));have hle:=fZ.q.le;by_cases hjl:j<e.sn
     ·obtain⟨s2,b2,o2,hx2,gq,hc2⟩:=fZ.q.at_ hjl
      have bM:=y hc2;have aW:=y hx2;have dz:=y gq;clear hc2 hx2 gq;have dA:(scan e).drop j=s2::(scan e).drop (j+1):=by
       rw[B (g.1 aW.q).1,(g.1 aW.q).2]
      have dR:Hid (dV J Jx C (aG h es ds ms qs scan dn mn) l bh bp h w W ((2,(⟨b2,o2+j*3,f⟩:L))::(iy ⟨b2,o2+j*3+1,f⟩ s2.v++(kF e.sa (j+1) ((scan e).drop (j+1))++(gX h.e.a scan (k+1) (es.drop (k+1))++dI)))) wr):=by
       have:=d9.q;rw[dA,wU dz.q] at this;simp only[G,H] at this;exact y this
      clear dA;go_wp2_with fail;have HDR:=y (dV.drew HJ.q kY.q dR.q);have aQ:=y (iP.q 2 b2 (o2+j*3) _ _ HDR.q);refine aP [(0,z),(1,z),(2,z),(3,z),(4,z),(5,z),(6,z),(7,z),(8,N)] (fun W'=>Bx W' (W.heap.size+2) #[.func (.func 138) #[] #[u (t ⟨W.heap.size+1,0,f⟩),u (t ⟨W.heap.size,0,f⟩)]]∧W'.cell? ⟨b,o+k*9+8,f⟩=t (I (t ⟨b2,o2,f⟩) e.sn e.sc)) au au (by intro d v c a w h;cases d <;> exact h) (⟨HDR.q.fn,HDR.q.2.1 _ _ (nT.q 8 (.inr (.inr rfl))) (by rw[←dz.q];exact HC.q 8 _ rfl)⟩) ?_;refine qO ?_;refine dD rfl rfl (fun K hK=>?_);go_simp;refine aQ.q.mono ?_;rintro e1 Y ⟨⟨r,rfl⟩,aN⟩;have HS2:=y aN;refine hK _ _ ⟨aN.fn,aN.2.1 _ _ (nT.q 8 (.inr (.inr rfl))) (by rw[←dz.q];exact HC.q 8 _ rfl)⟩ ?_;clear hK K aN aQ HDR;refine cB ?_;have hsl2:Y.cell? ⟨b,o+k*9+8,f⟩=t (I (t ⟨b2,o2,f⟩) e.sn e.sc):=HS2.q.2.1 _ _ (nT.q 8 (.inr (.inr rfl))) (by rw[←dz.q];exact HC.q 8 _ rfl);have iR:=y (tH.q s2.v _ b2 (o2+j*3+1) Y HS2.q (TM.q e (F HX.q) b2 o2 dz.q j hjl) (bM.q 2 _ rfl));go_wp2_with fail;refine iR.q.mono ?_;rintro e2 Y2 ⟨⟨r2,rfl⟩,gu⟩;have fE:=y gu;clear gu hsl2 iR;go_wp2_with fail;go_roundw
      case rel=>exact⟨j+1,by omega,by go_num,fE.q⟩
      case measure=>simp[A];omega
     ·have hjn:j=e.sn:=by omega
      have hlen:=fZ.q.len;have oK:Hid (dV J Jx C (aG h es ds ms qs scan dn mn) l bh bp h w W (gX h.e.a scan (k+1) (es.drop (k+1))++dI) wr):=by
       have:=d9.q;rw[E ah] at this;exact y this
      have hle2:=iE.q.1.le;go_wp2_with fail;go_roundw
      case rel=>exact⟨k+1,by omega,by go_num,oK.q⟩
      case measure=>simp[A];omega
   by_cases k4:e.kind=4
   ·rw[k4] at hk0
    have zA:=y (show dV J Jx C (aG h es ds ms qs scan dn mn) l bh bp h w W ((3,(⟨b,o+k*9+7,f⟩:L))::(kF e.sa 0 (scan e)++(gX h.e.a scan (k+1) (es.drop (k+1))++dI))) Y by have:=eO.q;rw[if_neg k1,if_neg ah,if_pos k4] at this;exact this);clear eO;go_wp2_with fail;have HDR:=y (dV.drew HJ.q kY.q zA.q);have aQ:=y (iP.q 3 b (o+k*9+7) _ _ HDR.q);refine aP [(0,z),(1,z),(2,z),(3,z),(4,N)] (fun W'=>Bx W' (W.heap.size+2) #[.func (.func 138) #[] #[u (t ⟨W.heap.size+1,0,f⟩),u (t ⟨W.heap.size,0,f⟩)]]) au au (by intro d v c a w h;cases d <;> exact h) (HDR.q.fn) ?_;refine qO ?_;refine dD rfl rfl (fun K hK=>?_);go_simp;refine aQ.q.mono ?_;rintro e1 Y ⟨⟨r,rfl⟩,aN⟩;have dY:=y aN;refine hK _ _ aN.fn ?_;clear hK K aN aQ HDR;refine cB ?_;have hsl:Y.cell? ⟨b,o+k*9+8,f⟩=t (I e.sa e.sn e.sc):=dY.q.2.1 _ _ (nT.q 8 (.inr (.inr rfl))) (HC.q 8 _ rfl);go_wp2_with fail;clear hsl
    go_loopw [72] (fun i wr=>∃j:Nat,j≤e.sn∧i= P .i64 j∧dV J Jx C (aG h es ds ms qs scan dn mn) l bh bp h w W (kF e.sa j ((scan e).drop j)++(gX h.e.a scan (k+1) (es.drop (k+1))++dI)) wr) (fun i _=>e.sn - (A i).toNat)
    case atStart=>exact⟨0,M _,rfl,dY.q⟩
    case round=>
     obtain⟨j,hj,rfl,hon⟩:=hrel;have d9:=y hon;clear hon;have fZ:=y (iE.q.2.2.2.2.1 e (F HX.q));have hle:=fZ.q.le;by_cases hjl:j<e.sn
     ·obtain⟨s2,b2,o2,hx2,gq,hc2⟩:=fZ.q.at_ hjl
      have bM:=y hc2;have aW:=y hx2;have dz:=y gq;clear hc2 hx2 gq;have dA:(scan e).drop j=s2::(scan e).drop (j+1):=by
       rw[B (g.1 aW.q).1,(g.1 aW.q).2]
      have dR:Hid (dV J Jx C (aG h es ds ms qs scan dn mn) l bh bp h w W ((2,(⟨b2,o2+j*3,f⟩:L))::(iy ⟨b2,o2+j*3+1,f⟩ s2.v++(kF e.sa (j+1) ((scan e).drop (j+1))++(gX h.e.a scan (k+1) (es.drop (k+1))++dI)))) wr):=by
       have:=d9.q;rw[dA,wU dz.q] at this;simp only[G,H] at this;exact y this
      clear dA;go_wp2_with fail;have HDR:=y (dV.drew HJ.q kY.q dR.q);have aQ:=y (iP.q 2 b2 (o2+j*3) _ _ HDR.q);refine aP [(0,z),(1,z),(2,z),(3,z),(4,z),(5,z),(6,z),(7,z),(8,N)] (fun W'=>Bx W' (W.heap.size+2) #[.func (.func 138) #[] #[u (t ⟨W.heap.size+1,0,f⟩),u (t ⟨W.heap.size,0,f⟩)]]∧W'.cell? ⟨b,o+k*9+8,f⟩=t (I (t ⟨b2,o2,f⟩) e.sn e.sc)) au au (by intro d v c a w h;cases d <;> exact h) (⟨HDR.q.fn,HDR.q.2.1 _ _ (nT.q 8 (.inr (.inr rfl))) (by rw[←dz.q];exact HC.q 8 _ rfl)⟩) ?_;refine qO ?_;refine dD rfl rfl (fun K hK=>?_);go_simp;refine aQ.q.mono ?_;rintro e1 Y ⟨⟨r,rfl⟩,aN⟩;have HS2:=y aN;refine hK _ _ ⟨aN.fn,aN.2.1 _ _ (nT.q 8 (.inr (.inr rfl))) (by rw[←dz.q];exact HC.q 8 _ rfl)⟩ ?_;clear hK K aN aQ HDR;refine cB ?_;have hsl2:Y.cell? ⟨b,o+k*9+8,f⟩=t (I (t ⟨b2,o2,f⟩) e.sn e.sc):=HS2.q.2.1 _ _ (nT.q 8 (.inr (.inr rfl))) (by rw[←dz.q];exact HC.q 8 _ rfl);have iR:=y (tH.q s2.v _ b2 (o2+j*3+1) Y HS2.q (TM.q e (F HX.q) b2 o2 dz.q j hjl) (bM.q 2 _ rfl));go_wp2_with fail;refine iR.q.mono ?_;rintro e2 Y2 ⟨⟨r2,rfl⟩,gu⟩;have fE:=y gu;clear gu hsl2 iR;go_wp2_with fail;go_roundw
      case rel=>exact⟨j+1,by omega,by go_num,fE.q⟩
      case measure=>simp[A];omega
     ·have hjn:j=e.sn:=by omega
      have hlen:=fZ.q.len;have oK:Hid (dV J Jx C (aG h es ds ms qs scan dn mn) l bh bp h w W (gX h.e.a scan (k+1) (es.drop (k+1))++dI) wr):=by
       have:=d9.q;rw[E ah] at this;exact y this
      have hle2:=iE.q.1.le;go_wp2_with fail;go_roundw
      case rel=>exact⟨k+1,by omega,by go_num,oK.q⟩
      case measure=>simp[A];omega
   ·have dY:=y (show dV J Jx C (aG h es ds ms qs scan dn mn) l bh bp h w W (kF e.sa 0 (scan e)++(gX h.e.a scan (k+1) (es.drop (k+1))++dI)) Y by have:=eO.q;rw[if_neg k1,if_neg ah,if_neg k4] at this;exact this)
    clear eO;have n1:(e.kind==1)=N:=beq_eq_false_iff_ne.2 k1;have n2:(e.kind==2)=N:=beq_eq_false_iff_ne.2 k2;have n3:(e.kind==3)=N:=beq_eq_false_iff_ne.2 k3;have n4:(e.kind==4)=N:=beq_eq_false_iff_ne.2 k4;have hsl:Y.cell? ⟨b,o+k*9+8,f⟩=t (I e.sa e.sn e.sc):=dY.q.2.1 _ _ (nT.q 8 (.inr (.inr rfl))) (HC.q 8 _ rfl);go_wp2_with fail;clear hsl
    go_loopw [72] (fun i wr=>∃j:Nat,j≤e.sn∧i= P .i64 j∧dV J Jx C (aG h es ds ms qs scan dn mn) l bh bp h w W (kF e.sa j ((scan e).drop j)++(gX h.e.a scan (k+1) (es.drop (k+1))++dI)) wr) (fun i _=>e.sn - (A i).toNat)
    case atStart=>exact⟨0,M _,rfl,dY.q⟩
    case round=>
     obtain⟨j,hj,rfl,hon⟩:=hrel;have d9:=y hon;clear hon;have fZ:=y (iE.q.2.2.2.2.1 e (F HX.q));have hle:=fZ.q.le;by_cases hjl:j<e.sn
     ·obtain⟨s2,b2,o2,hx2,gq,hc2⟩:=fZ.q.at_ hjl
      have bM:=y hc2;have aW:=y hx2;have dz:=y gq;clear hc2 hx2 gq;have dA:(scan e).drop j=s2::(scan e).drop (j+1):=by
       rw[B (g.1 aW.q).1,(g.1 aW.q).2]
      have dR:Hid (dV J Jx C (aG h es ds ms qs scan dn mn) l bh bp h w W ((2,(⟨b2,o2+j*3,f⟩:L))::(iy ⟨b2,o2+j*3+1,f⟩ s2.v++(kF e.sa (j+1) ((scan e).drop (j+1))++(gX h.e.a scan (k+1) (es.drop (k+1))++dI)))) wr):=by
       have:=d9.q;rw[dA,wU dz.q] at this;simp only[G,H] at this;exact y this
      clear dA;go_wp2_with fail;have HDR:=y (dV.drew HJ.q kY.q dR.q);have aQ:=y (iP.q 2 b2 (o2+j*3) _ _ HDR.q);refine aP [(0,z),(1,z),(2,z),(3,z),(4,z),(5,z),(6,z),(7,z),(8,N)] (fun W'=>Bx W' (W.heap.size+2) #[.func (.func 138) #[] #[u (t ⟨W.heap.size+1,0,f⟩),u (t ⟨W.heap.size,0,f⟩)]]∧W'.cell? ⟨b,o+k*9+8,f⟩=t (I (t ⟨b2,o2,f⟩) e.sn e.sc)) au au (by intro d v c a w h;cases d <;> exact h) (⟨HDR.q.fn,HDR.q.2.1 _ _ (nT.q 8 (.inr (.inr rfl))) (by rw[←dz.q];exact HC.q 8 _ rfl)⟩) ?_;refine qO ?_;refine dD rfl rfl (fun K hK=>?_);go_simp;refine aQ.q.mono ?_;rintro e1 Y ⟨⟨r,rfl⟩,aN⟩;have HS2:=y aN;refine hK _ _ ⟨aN.fn,aN.2.1 _ _ (nT.q 8 (.inr (.inr rfl))) (by rw[←dz.q];exact HC.q 8 _ rfl)⟩ ?_;clear hK K aN aQ HDR;refine cB ?_;have hsl2:Y.cell? ⟨b,o+k*9+8,f⟩=t (I (t ⟨b2,o2,f⟩) e.sn e.sc):=HS2.q.2.1 _ _ (nT.q 8 (.inr (.inr rfl))) (by rw[←dz.q];exact HC.q 8 _ rfl);have iR:=y (tH.q s2.v _ b2 (o2+j*3+1) Y HS2.q (TM.q e (F HX.q) b2 o2 dz.q j hjl) (bM.q 2 _ rfl));go_wp2_with fail;refine iR.q.mono ?_;rintro e2 Y2 ⟨⟨r2,rfl⟩,gu⟩;have fE:=y gu;clear gu hsl2 iR;go_wp2_with fail;go_roundw
      case rel=>exact⟨j+1,by omega,by go_num,fE.q⟩
      case measure=>simp[A];omega
     ·have hjn:j=e.sn:=by omega
      have hlen:=fZ.q.len;have oK:Hid (dV J Jx C (aG h es ds ms qs scan dn mn) l bh bp h w W (gX h.e.a scan (k+1) (es.drop (k+1))++dI) wr):=by
       have:=d9.q;rw[E ah] at this;exact y this
      have hle2:=iE.q.1.le;go_wp2_with fail;go_roundw
      case rel=>exact⟨k+1,by omega,by go_num,oK.q⟩
      case measure=>simp[A];omega
  ·have Bp:=(iE.q.1).len
   have lT:Hid (dV J Jx C (aG h es ds ms qs scan dn mn) l bh bp h w W dI wr):=by
    have:=hon;rw[E ah] at this;exact y this
   have hcp:wr.cell? ⟨bp,0,f⟩=t (u (t ⟨bh,0,f⟩)):=lT.q.2.2.2.1.1 0;have hch:wr.cell? ⟨bh,5,f⟩=t (h.d.v):=lT.q.2.2.1.1 5;clear hx2 hx3 hon;go_wp2_with fail;clear hcp hch;rw[TH.q] at lT
   go_loopw [100] (fun i wr=>∃k:Nat,k≤h.d.n∧i= P .i64 k∧dV J Jx C (aG h es ds ms qs scan dn mn) l bh bp h w W (qz h.d.a dn k (ds.drop k)++pW) wr) (fun i _=>h.d.n - (A i).toNat)
   case atStart=>exact⟨0,M _,rfl,lT.q⟩
   case round=>
    obtain⟨k,hk,rfl,hon⟩:=hrel;have HN:=y hon;clear hon;have hle0:=(iE.q.2.1).le;by_cases hlt:k<h.d.n
    ·obtain⟨x,b,o,hx,hab,hc⟩:=(iE.q.2.1).at_ hlt
     have HC:=y hc;have HX:=y hx;have dz:=y hab;clear hx hab hc;have hdrop:ds.drop k=x::ds.drop (k+1):=by
      rw[B (g.1 HX.q).1,(g.1 HX.q).2]
     have hcp:wr.cell? ⟨bp,0,f⟩=t (u (t ⟨bh,0,f⟩)):=HN.q.2.2.2.1.1 0;have hch:wr.cell? ⟨bh,5,f⟩=t (I (t ⟨b,o,f⟩) h.d.n h.d.c):=(HN.q.2.2.1.1 5).trans (by rw[←dz.q];rfl);have lZ:Hid (dV J Jx C (aG h es ds ms qs scan dn mn) l bh bp h w W ((2,(⟨b,o+k*2,f⟩:L))::(lV x.sa 0 (dn x)++(qz h.d.a dn (k+1) (ds.drop (k+1))++pW))) wr):=by
      have:=HN.q;rw[hdrop,Qo dz.q] at this;simp only[G,H] at this;exact y this
     clear hdrop;go_wp2_with fail;clear hcp hch;have HDR:=y (dV.drew HJ.q kY.q lZ.q);have aQ:=y (iP.q 2 b (o+k*2) _ _ HDR.q);refine aP [(0,z),(1,z),(2,z),(3,z),(4,z),(5,z),(6,z),(7,z),(8,N)] (fun W'=>Bx W' (W.heap.size+2) #[.func (.func 138) #[] #[u (t ⟨W.heap.size+1,0,f⟩),u (t ⟨W.heap.size,0,f⟩)]]∧W'.cell? ⟨bp,0,f⟩=t (u (t ⟨bh,0,f⟩))∧W'.cell? ⟨bh,5,f⟩=t (I (t ⟨b,o,f⟩) h.d.n h.d.c)) au au (by intro d v c a w h;cases d <;> exact h) (⟨HDR.q.fn,(HDR.q.2.2.2.1.1 0),((HDR.q.2.2.1.1 5).trans (by rw[←dz.q];rfl))⟩) ?_;refine qO ?_;refine dD rfl rfl (fun K hK=>?_);go_simp;refine aQ.q.mono ?_;rintro e1 Y ⟨⟨r,rfl⟩,aN⟩;have eO:=y aN;refine hK _ _ ⟨aN.fn,(aN.2.2.2.1.1 0),((aN.2.2.1.1 5).trans (by rw[←dz.q];rfl))⟩ ?_;clear hK K aN aQ HDR;refine cB ?_;have hcp:Y.cell? ⟨bp,0,f⟩=t (u (t ⟨bh,0,f⟩)):=eO.q.2.2.2.1.1 0;have hch:Y.cell? ⟨bh,5,f⟩=t (I (t ⟨b,o,f⟩) h.d.n h.d.c):=(eO.q.2.2.1.1 5).trans (by rw[←dz.q];rfl);have hsl:Y.cell? ⟨b,o+k*2+1,f⟩=t (I x.sa x.sn x.sc):=eO.q.2.1 _ _ (HCO.q b o dz.q k hlt) (HC.q 1 _ rfl);go_wp2_with fail;clear hcp hch hsl
     go_loopw [121] (fun i wr=>∃j:Nat,j≤x.sn∧i= P .i64 j∧dV J Jx C (aG h es ds ms qs scan dn mn) l bh bp h w W (lV x.sa j ((dn x).drop j)++(qz h.d.a dn (k+1) (ds.drop (k+1))++pW)) wr) (fun i _=>x.sn - (A i).toNat)
     case atStart=>exact⟨0,M _,rfl,eO.q⟩
     case round=>
      obtain⟨j,hj,rfl,hon⟩:=hrel;have d9:=y hon;clear hon;have fZ:=y (iE.q.2.2.2.2.2.1 x (F HX.q));have hle1:=fZ.q.le;by_cases hjl:j<x.sn
      ·obtain⟨d,b2,o2,hx2,gq,hc2⟩:=fZ.q.at_ hjl
       have bM:=y hc2;have aW:=y hx2;have wu:=y gq;clear hc2 hx2 gq;have dA:(dn x).drop j=d::(dn x).drop (j+1):=by
        rw[B (g.1 aW.q).1,(g.1 aW.q).2]
       have dR:Hid (dV J Jx C (aG h es ds ms qs scan dn mn) l bh bp h w W ((0,(⟨b2,o2+j,f⟩:L))::(lV x.sa (j+1) ((dn x).drop (j+1))++(qz h.d.a dn (k+1) (ds.drop (k+1))++pW))) wr):=by
        have:=d9.q;rw[dA,IJ wu.q] at this;simp only[G] at this;exact y this
       clear dA;go_wp2_with fail;have HDR:=y (dV.drew HJ.q kY.q dR.q);have aQ:=y (iP.q 0 b2 (o2+j) _ _ HDR.q);refine aP [(0,z),(1,z),(2,z),(3,z),(4,z),(5,z),(6,z),(7,z),(8,z),(9,z),(10,z),(11,N)] (fun W'=>Bx W' (W.heap.size+2) #[.func (.func 138) #[] #[u (t ⟨W.heap.size+1,0,f⟩),u (t ⟨W.heap.size,0,f⟩)]]∧W'.cell? ⟨b,o+k*2+1,f⟩=t (I (t ⟨b2,o2,f⟩) x.sn x.sc)∧W'.cell? ⟨bp,0,f⟩=t (u (t ⟨bh,0,f⟩))∧W'.cell? ⟨bh,5,f⟩=t (I (t ⟨b,o,f⟩) h.d.n h.d.c)) au au (by intro d v c a w h;cases d <;> exact h) (⟨HDR.q.fn,HDR.q.2.1 _ _ (HCO.q b o dz.q k hlt) (by rw[←wu.q];exact HC.q 1 _ rfl),(HDR.q.2.2.2.1.1 0),((HDR.q.2.2.1.1 5).trans (by rw[←dz.q];rfl))⟩) ?_;refine qO ?_;refine dD rfl rfl (fun K hK=>?_);go_simp;refine aQ.q.mono ?_;rintro e1 Y ⟨⟨r,rfl⟩,aN⟩;have HS2:=y aN;refine hK _ _ ⟨aN.fn,aN.2.1 _ _ (HCO.q b o dz.q k hlt) (by rw[←wu.q];exact HC.q 1 _ rfl),(aN.2.2.2.1.1 0),((aN.2.2.1.1 5).trans (by rw[←dz.q];rfl))⟩ ?_;clear hK K aN aQ HDR;refine cB ?_;go_wp2_with fail;go_roundw
       case rel=>exact⟨j+1,by omega,by go_num,HS2.q⟩
       case measure=>simp[A];omega
      ·have hlen1:=fZ.q.len
       have oK:Hid (dV J Jx C (aG h es ds ms qs scan dn mn) l bh bp h w W (qz h.d.a dn (k+1) (ds.drop (k+1))++pW) wr):=by
        have:=d9.q;rw[E ah] at this;exact y this
       go_wp2_with fail;go_roundw
       case rel=>exact⟨k+1,by omega,by go_num,oK.q⟩
       case measure=>simp[A];omega
    ·have Bp:=(iE.q.2.1).len
     have lT:Hid (dV J Jx C (aG h es ds ms qs scan dn mn) l bh bp h w W pW wr):=by
      have:=HN.q;rw[E ah] at this;exact y this
     have hcp:wr.cell? ⟨bp,0,f⟩=t (u (t ⟨bh,0,f⟩)):=lT.q.2.2.2.1.1 0;have hch:wr.cell? ⟨bh,6,f⟩=t (h.m.v):=lT.q.2.2.1.1 6;go_wp2_with fail;clear hcp hch;rw[sF.q] at lT
     go_loopw [143] (fun i wr=>∃k:Nat,k≤h.m.n∧i= P .i64 k∧dV J Jx C (aG h es ds ms qs scan dn mn) l bh bp h w W (qA h.m.a mn k (ms.drop k)++pV) wr) (fun i _=>h.m.n - (A i).toNat)
     case atStart=>exact⟨0,M _,rfl,lT.q⟩
     case round=>
      obtain⟨k,hk,rfl,hon⟩:=hrel;have HN:=y hon;clear hon;have hle0:=(iE.q.2.2.1).le;by_cases hlt:k<h.m.n
      ·obtain⟨x,b,o,hx,hab,hc⟩:=(iE.q.2.2.1).at_ hlt
       have HC:=y hc;have HX:=y hx;have dz:=y hab;clear hx hab hc;have hdrop:ms.drop k=x::ms.drop (k+1):=by
        rw[B (g.1 HX.q).1,(g.1 HX.q).2]
       have hcp:wr.cell? ⟨bp,0,f⟩=t (u (t ⟨bh,0,f⟩)):=HN.q.2.2.2.1.1 0;have hch:wr.cell? ⟨bh,6,f⟩=t (I (t ⟨b,o,f⟩) h.m.n h.m.c):=(HN.q.2.2.1.1 6).trans (by rw[←dz.q];rfl);have lZ:Hid (dV J Jx C (aG h es ds ms qs scan dn mn) l bh bp h w W ((3,(⟨b,o+k*4,f⟩:L))::((2,(⟨b,o+k*4+1,f⟩:L))::(lV x.sa 0 (mn x)++(qA h.m.a mn (k+1) (ms.drop (k+1))++pV)))) wr):=by
        have:=HN.q;rw[hdrop,Qp dz.q] at this;simp only[G,H] at this;exact y this
       clear hdrop;go_wp2_with fail;clear hcp hch;have HDR:=y (dV.drew HJ.q kY.q lZ.q);have aQ:=y (iP.q 3 b (o+k*4) _ _ HDR.q);refine aP [(0,z),(1,z),(2,z),(3,z),(4,N)] (fun W'=>Bx W' (W.heap.size+2) #[.func (.func 138) #[] #[u (t ⟨W.heap.size+1,0,f⟩),u (t ⟨W.heap.size,0,f⟩)]]) au au (by intro d v c a w h;cases d <;> exact h) (HDR.q.fn) ?_;refine qO ?_;refine dD rfl rfl (fun K hK=>?_);go_simp;refine aQ.q.mono ?_;rintro e1 Y ⟨⟨r,rfl⟩,aN⟩;have eO:=y aN;refine hK _ _ aN.fn ?_;clear hK K aN aQ HDR;refine cB ?_;go_wp2_with fail;have HDR:=y (dV.drew HJ.q kY.q eO.q);have aQ:=y (iP.q 2 b (o+k*4+1) _ _ HDR.q);refine aP [(0,z),(1,z),(2,z),(3,z),(4,N)] (fun W'=>Bx W' (W.heap.size+2) #[.func (.func 138) #[] #[u (t ⟨W.heap.size+1,0,f⟩),u (t ⟨W.heap.size,0,f⟩)]]) au au (by intro d v c a w h;cases d <;> exact h) (HDR.q.fn) ?_;refine qO ?_;refine dD rfl rfl (fun K hK=>?_);go_simp;refine aQ.q.mono ?_;rintro e1 Y ⟨⟨r,rfl⟩,aN⟩;have dY:=y aN;refine hK _ _ aN.fn ?_;clear hK K aN aQ HDR;refine cB ?_;have hsl:Y.cell? ⟨b,o+k*4+3,f⟩=t (I x.sa x.sn x.sc):=dY.q.2.1 _ _ (HCM.q b o dz.q k hlt) (HC.q 3 _ rfl);go_wp2_with fail;clear hsl
       go_loopw [167] (fun i wr=>∃j:Nat,j≤x.sn∧i= P .i64 j∧dV J Jx C (aG h es ds ms qs scan dn mn) l bh bp h w W (lV x.sa j ((mn x).drop j)++(qA h.m.a mn (k+1) (ms.drop (k+1))++pV)) wr) (fun i _=>x.sn - (A i).toNat)
       case atStart=>exact⟨0,M _,rfl,dY.q⟩
       case round=>
        obtain⟨j,hj,rfl,hon⟩:=hrel;have d9:=y hon;clear hon;have fZ:=y (iE.q.2.2.2.2.2.2 x (F HX.q));have hle1:=fZ.q.le;by_cases hjl:j<x.sn
        ·obtain⟨d,b2,o2,hx2,gq,hc2⟩:=fZ.q.at_ hjl
         have bM:=y hc2;have aW:=y hx2;have wu:=y gq;clear hc2 hx2 gq;have dA:(mn x).drop j=d::(mn x).drop (j+1):=by
          rw[B (g.1 aW.q).1,(g.1 aW.q).2]
         have dR:Hid (dV J Jx C (aG h es ds ms qs scan dn mn) l bh bp h w W ((0,(⟨b2,o2+j,f⟩:L))::(lV x.sa (j+1) ((mn x).drop (j+1))++(qA h.m.a mn (k+1) (ms.drop (k+1))++pV))) wr):=by
          have:=d9.q;rw[dA,IJ wu.q] at this;simp only[G] at this;exact y this
         clear dA;go_wp2_with fail;have HDR:=y (dV.drew HJ.q kY.q dR.q);have aQ:=y (iP.q 0 b2 (o2+j) _ _ HDR.q);refine aP [(0,z),(1,z),(2,z),(3,z),(4,z),(5,z),(6,z),(7,N)] (fun W'=>Bx W' (W.heap.size+2) #[.func (.func 138) #[] #[u (t ⟨W.heap.size+1,0,f⟩),u (t ⟨W.heap.size,0,f⟩)]]∧W'.cell? ⟨b,o+k*4+3,f⟩=t (I (t ⟨b2,o2,f⟩) x.sn x.sc)) au au (by intro d v c a w h;cases d <;> exact h) (⟨HDR.q.fn,HDR.q.2.1 _ _ (HCM.q b o dz.q k hlt) (by rw[←wu.q];exact HC.q 3 _ rfl)⟩) ?_;refine qO ?_;refine dD rfl rfl (fun K hK=>?_);go_simp;refine aQ.q.mono ?_;rintro e1 Y ⟨⟨r,rfl⟩,aN⟩;have HS2:=y aN;refine hK _ _ ⟨aN.fn,aN.2.1 _ _ (HCM.q b o dz.q k hlt) (by rw[←wu.q];exact HC.q 3 _ rfl)⟩ ?_;clear hK K aN aQ HDR;refine cB ?_;go_wp2_with fail;go_roundw
         case rel=>exact⟨j+1,by omega,by go_num,HS2.q⟩
         case measure=>simp[A];omega
        ·have hlen1:=fZ.q.len
         have oK:Hid (dV J Jx C (aG h es ds ms qs scan dn mn) l bh bp h w W (qA h.m.a mn (k+1) (ms.drop (k+1))++pV) wr):=by
          have:=d9.q;rw[E ah] at this;exact y this
         go_wp2_with fail;go_roundw
         case rel=>exact⟨k+1,by omega,by go_num,oK.q⟩
         case measure=>simp[A];omega
      ·have Bp:=(iE.q.2.2.1).len
       have lT:Hid (dV J Jx C (aG h es ds ms qs scan dn mn) l bh bp h w W pV wr):=by
        have:=HN.q;rw[E ah] at this;exact y this
       have hcp:wr.cell? ⟨bp,0,f⟩=t (u (t ⟨bh,0,f⟩)):=lT.q.2.2.2.1.1 0;have hch:wr.cell? ⟨bh,7,f⟩=t (h.w.v):=lT.q.2.2.1.1 7;go_wp2_with fail;clear hcp hch;rw[GR.q] at lT
       go_loopw [185] (fun i wr=>∃k:Nat,k≤h.w.n∧i= P .i64 k∧dV J Jx C (aG h es ds ms qs scan dn mn) l bh bp h w W (uQ h.w.a k (qs.drop k)++[]) wr) (fun i _=>h.w.n - (A i).toNat)
       case atStart=>exact⟨0,M _,rfl,lT.q⟩
       case round=>
        obtain⟨k,hk,rfl,hon⟩:=hrel;have HN:=y hon;clear hon;have hle0:=(iE.q.2.2.2.1).le;by_cases hlt:k<h.w.n
        ·obtain⟨x,b,o,hx,hab,hc⟩:=(iE.q.2.2.2.1).at_ hlt
         have HC:=y hc;have HX:=y hx;have dz:=y hab;clear hx hab hc;have hdrop:qs.drop k=x::qs.drop (k+1):=by
          rw[B (g.1 HX.q).1,(g.1 HX.q).2]
         have hcp:wr.cell? ⟨bp,0,f⟩=t (u (t ⟨bh,0,f⟩)):=HN.q.2.2.2.1.1 0;have hch:wr.cell? ⟨bh,7,f⟩=t (I (t ⟨b,o,f⟩) h.w.n h.w.c):=(HN.q.2.2.1.1 7).trans (by rw[←dz.q];rfl);have lZ:Hid (dV J Jx C (aG h es ds ms qs scan dn mn) l bh bp h w W ((1,(⟨b,o+k*2,f⟩:L))::(uQ h.w.a (k+1) (qs.drop (k+1))++[])) wr):=by
          have:=HN.q;rw[hdrop,Qq dz.q] at this;simp only[G] at this;exact y this
         clear hdrop;go_wp2_with fail;clear hcp hch;have HDR:=y (dV.drew HJ.q kY.q lZ.q);have aQ:=y (iP.q 1 b (o+k*2) _ _ HDR.q);refine aP [(0,z),(1,z),(2,z),(3,z),(4,z),(5,z),(6,z),(7,z),(8,N)] (fun W'=>Bx W' (W.heap.size+2) #[.func (.func 138) #[] #[u (t ⟨W.heap.size+1,0,f⟩),u (t ⟨W.heap.size,0,f⟩)]]∧W'.cell? ⟨bp,0,f⟩=t (u (t ⟨bh,0,f⟩))∧W'.cell? ⟨bh,7,f⟩=t (I (t ⟨b,o,f⟩) h.w.n h.w.c)) au au (by intro d v c a w h;cases d <;> exact h) (⟨HDR.q.fn,(HDR.q.2.2.2.1.1 0),((HDR.q.2.2.1.1 7).trans (by rw[←dz.q];rfl))⟩) ?_;refine qO ?_;refine dD rfl rfl (fun K hK=>?_);go_simp;refine aQ.q.mono ?_;rintro e1 Y ⟨⟨r,rfl⟩,aN⟩;have eO:=y aN;refine hK _ _ ⟨aN.fn,(aN.2.2.2.1.1 0),((aN.2.2.1.1 7).trans (by rw[←dz.q];rfl))⟩ ?_;clear hK K aN aQ HDR;refine cB ?_;go_wp2_with fail;go_roundw
         case rel=>exact⟨k+1,by omega,by go_num,eO.q⟩
         case measure=>simp[A];omega
        ·have Bp:=(iE.q.2.2.2.1).len
         have lT:Hid (dV J Jx C (aG h es ds ms qs scan dn mn) l bh bp h w W [] wr):=by
          have:=HN.q;rw[E ah] at this;exact y this
         go_wp2_with fail
         go_end0
         obtain⟨⟨pre,hp,a0,a2,a1⟩,_⟩:=lT.q;rw[R] at hp;refine⟨_,rfl,?_⟩;rcases a1 with⟨_,hj⟩|⟨_,p,hpx,hj⟩
         ·exact .inl (hp▸hj)
         ·exact .inr ⟨p,hpx,hj⟩
end Yd
