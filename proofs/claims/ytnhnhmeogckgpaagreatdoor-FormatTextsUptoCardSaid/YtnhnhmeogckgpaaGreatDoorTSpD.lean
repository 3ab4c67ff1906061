import Derived.Test.YtnhnhmeogckgpaaGreatDoorTIk
set_option linter.all false
set_option maxRecDepth 200000
set_option maxHeartbeats 8000000
namespace Yd
open Bool renaming true→z,false→N
open List renaming getElem?_eq_some_iff→u,drop_eq_getElem_cons→A,drop_eq_nil_of_le→E,cons_append→F,append_assoc→I,mem_of_getElem?→L,append_nil→R
open Nat renaming zero_le→M,le_trans→S
open Option renaming none→f,some→t
open Go Go.RowKit Go.Proofs
open Go renaming Addr→G,World→P
open Go.Obj renaming cells→O
open Go.Value renaming pointer→g,slice→H,int→Q
open RowKit renaming intOf→B
open Yd renaming hid→y
def fU (J Jx:List (Int × G)→P→Prop) (C:G→Prop) (xs:List (Int × G)) (l bh bp:Nat) (h:HC) (w W:P) (rest:List (Int × G)) (X:P):Prop:=
 (∃pre,pre++rest=xs∧MN J Jx xs W.heap.size l pre X)∧wG C w X∧Bx X bh (aC h)∧Bx X bp #[g (t ⟨bh,0,f⟩)]∧w.heap.size≤X.heap.size
section
variable {J Jx:List (Int × G)→P→Prop} {C:G→Prop} {D:Nat→Prop} {xs:List (Int × G)} {l bh bp:Nat} {h:HC} {w W:P}
theorem fU.step {rest:List (Int × G)} {pre:List (Int × G)} {X Y:P} {e:Ending} (hX:wG C w X∧Bx X bh (aC h)∧Bx X bp #[g (t ⟨bh,0,f⟩)]∧w.heap.size≤X.heap.size) (hR:∀s X,J s X→wG C w X) (Rn:∀s X,Jx s X→wG C w X) (hs:Xx J Jx D xs W.heap.size l pre X e Y) (hp:pre++rest=xs)
  (XL:D bh) (XM:D bp) (hbh:bh<W.heap.size) (hbp:bp<W.heap.size):fU J Jx C xs l bh bp h w W rest Y:=by
 obtain⟨_,h2,h3,h4⟩:=hX;obtain⟨_,hA,hk⟩:=hs;exact⟨⟨pre,hp,hA⟩,(by rcases hA.2.2 with⟨_,hj⟩|⟨_,p,_,hj⟩;exact hR _ _ hj;exact Rn _ _ hj),hk.bx h2 ⟨XL,by omega⟩,hk.bx h3 ⟨XM,by omega⟩,S h4 hk.1⟩
theorem fU.fn {rest:List (Int × G)} {X:P} (hX:fU J Jx C xs l bh bp h w W rest X):Bx X (W.heap.size+2) #[.func (.func 138) #[] #[g (t ⟨W.heap.size+1,0,f⟩),g (t ⟨W.heap.size,0,f⟩)]]:=by
 obtain⟨⟨pre,hp,a0,a2,a1⟩,_⟩:=hX;exact a2
theorem fU.drew {rest:List (Int × G)} {X:P} (hJ:∀s X Y,J s X→Same (fun i=>i<W.heap.size∨W.heap.size+3≤i) X Y→J s Y) (hJx:∀s X Y,Jx s X→Same (fun i=>i<W.heap.size∨W.heap.size+3≤i) X Y→Jx s Y)
  (hX:fU J Jx C xs l bh bp h w W rest X):fU J Jx C xs l bh bp h w W rest X.drew:=by
 obtain⟨⟨pre,hp,a0,a2,a1⟩,h1,h2,h3,h4⟩:=hX;refine⟨⟨pre,hp,a0.drew,a2.drew,?_⟩,h1,h2.drew,h3.drew,h4⟩;rcases a1 with⟨k1,hj⟩|⟨k1,p,hpx,hj⟩
 ·exact .inl ⟨k1.drew,hJ _ _ _ hj (Same.of_below ((Below.refl X.heap.size X).drew) (fun i _ hi=>hi))⟩
 ·exact .inr ⟨k1.drew,p,hpx,hJx _ _ _ hj (Same.of_below ((Below.refl X.heap.size X).drew) (fun i _ hi=>hi))⟩
end
theorem J3 (h:HC) (es:List EvC) (ds:List aH) (ms:List aI) (qs:List Wa) (scan:EvC→List Sn) (dn:aH→List Int) (mn:aI→List Int) (bh bp:Nat) (D:Nat→Prop) (C:G→Prop) (w W:P)
  (hd:Deep w h es ds ms qs scan dn mn) (hH:Bx W bh (aC h)) (hP:Bx W bp #[g (t ⟨bh,0,f⟩)]) (hrd:wG C w W) (hsz:w.heap.size≤W.heap.size) (XL:D bh) (XM:D bp)
  (hCE:∀b o,h.e.a=t ⟨b,o,f⟩→∀k,k<h.e.n→∀j,j=0∨j=6∨j=8→C ⟨b,o+k*9+j,f⟩) (hCS:∀e∈es,∀b o,e.sa=t ⟨b,o,f⟩→∀j,j<e.sn→C ⟨b,o+j*3+2,f⟩)
  (hCO:∀b o,h.d.a=t ⟨b,o,f⟩→∀k,k<h.d.n→C ⟨b,o+k*2+1,f⟩) (hCM:∀b o,h.m.a=t ⟨b,o,f⟩→∀k,k<h.m.n→C ⟨b,o+k*4+3,f⟩)
  (Xt:∀i,W.heap.size≤i→i<W.heap.size+3→D i):
  Xw Tryz.prog 137 #[g (t ⟨bp,0,f⟩)] Ip 3 D (wG C w) (aJ h es ds ms qs scan dn mn) W:=by
 intro n l J Jx hJ hJx hR Rn hY h0;refine callsIn_wide.2 ?_;have tX:Hid (∀(s:Int) (b o:Nat) rest X,fU J Jx C (aJ h es ds ms qs scan dn mn) l bh bp h w W ((s,(⟨b,o,f⟩:G))::rest) X→
   Calls Tryz.prog 138 #[Q .i64 s,g (t ⟨b,o,f⟩),g (t ⟨W.heap.size+1,0,f⟩),g (t ⟨W.heap.size,0,f⟩)] X fun e Y=>(∃v,e= .returned v)∧fU J Jx C (aJ h es ds ms qs scan dn mn) l bh bp h w W rest Y):=y fun s b o rest X hX=>by
  obtain⟨⟨pre,hp,hA⟩,hrd⟩:=hX;refine(callsIn_wide.1 (Jw J Jx D (aJ h es ds ms qs scan dn mn) W.heap.size l hJ hJx Xt hY pre s b o X ⟨rest,by rw[←hp];simp⟩ hA 3)).mono ?_;exact fun e Y hs=>⟨hs.1,fU.step hrd hR Rn hs (by rw[←hp];simp) XL XM hH.2.2 hP.2.2⟩
 have ab3:Hid (∀(v:lg) rest b o X,fU J Jx C (aJ h es ds ms qs scan dn mn) l bh bp h w W (iJ ⟨b,o,f⟩ v++rest) X→C ⟨b,o+1,f⟩→w.cell? ⟨b,o+1,f⟩=t (Q .i64 v.k)→
   Calls Tryz.prog 139 #[g (t ⟨b,o,f⟩),g (t ⟨W.heap.size+2,0,f⟩)] X fun e Y=>(∃v,e= .returned v)∧fU J Jx C (aJ h es ds ms qs scan dn mn) l bh bp h w W rest Y):=y fun v rest b o X hX hC1 hc1=>by
  obtain⟨⟨pre,hp,hA⟩,hrd⟩:=hX;refine(UC J Jx D (aJ h es ds ms qs scan dn mn) W.heap.size l hJ hJx Xt hY pre v b o X ⟨rest,by rw[←hp];simp⟩ hA (hrd.1 _ _ hC1 hc1)).mono ?_;exact fun e Y hs=>⟨hs.1,fU.step hrd hR Rn hs (by rw[←hp];simp) XL XM hH.2.2 hP.2.2⟩
 have hBa:Below W.heap.size W (((W.alloc (O #[.func (.yield l) #[] #[]] 197)).alloc (O #[.bool z] 4)).alloc (O #[.func (.func 138) #[] #[g (t ⟨W.heap.size+1,0,f⟩),g (t ⟨W.heap.size,0,f⟩)]] 198)):=
  (((Below.refl _ _).alloc (Nat.le_refl _) _).alloc ak _).alloc (by simp;omega) _
 go_enter Tryz.func137,Tryz.ntmps137;have hP0:=hP.keep hBa;have hH0:=hH.keep hBa;have hcp:=hP0.1;have hch:=hH0.1;have XO:Hid (fU J Jx C (aJ h es ds ms qs scan dn mn) l bh bp h w W (aJ h es ds ms qs scan dn mn) (((W.alloc (O #[.func (.yield l) #[] #[]] 197)).alloc (O #[.bool z] 4)).alloc (O #[.func (.func 138) #[] #[g (t ⟨W.heap.size+1,0,f⟩),g (t ⟨W.heap.size,0,f⟩)]] 198))):=by
  refine⟨⟨[],rfl,((Bx.new W _ _).alloc _).alloc _,?_,.inl ⟨?_,hJ _ _ _ h0 (Same.of_below hBa (fun i _ hi=>hi))⟩⟩,fun a v hCa hc=>?_,hH0,hP0,S hsz hBa.size⟩
  ·have:=Bx.new ((W.alloc (O #[.func (.yield l) #[] #[]] 197)).alloc (O #[.bool z] 4)) #[.func (.func 138) #[] #[g (t ⟨W.heap.size+1,0,f⟩),g (t ⟨W.heap.size,0,f⟩)]] 198
   simpa using this
  ·have:=(Bx.new (W.alloc (O #[.func (.yield l) #[] #[]] 197)) #[.bool z] 4).alloc (O #[.func (.func 138) #[] #[g (t ⟨W.heap.size+1,0,f⟩),g (t ⟨W.heap.size,0,f⟩)]] 198)
   simpa using this
  ·have h1:=hrd a v hCa hc
   exact(hBa.cell (p:=a) (dS h1)).trans h1
 go_wp2_with fail;have vI:=y hd;have ahY:=y hCE;have HCS:=y hCS;have HCO:=y hCO;have HCM:=y hCM;clear hCE hCS hCO hCM hR Rn hrd;clear hBa hP0 hH0 hcp hch hY h0 hd;obtain⟨zP,hrM⟩:∃r,r=sN h.w.a 0 qs++[]:=⟨_,rfl⟩;obtain⟨zQ,hrD⟩:∃r,r=oQ h.m.a mn 0 ms++zP:=⟨_,rfl⟩;obtain⟨uM,hrE⟩:∃r,r=oO h.d.a dn 0 ds++zQ:=⟨_,rfl⟩;have HRE:=y hrE;have rT:=y hrD;have Qv:=y hrM;have HJ:=y hJ;have yX:=y hJx;clear hrE hrD hrM hJ hJx
 go_loopw [22] (fun i wr=>∃k:Nat,k≤h.e.n∧i= Q .i64 k∧fU J Jx C (aJ h es ds ms qs scan dn mn) l bh bp h w W (l9 h.e.a scan k (es.drop k)++uM) wr) (fun i _=>h.e.n - (B i).toNat)
 case atStart=>exact⟨0,M _,rfl,by rw[HRE.q,rT.q,Qv.q,R];exact XO.q⟩
 case round=>
  obtain⟨k,hk,rfl,hon⟩:=hrel;have hx2:=hon.2.2.1;have hx3:=hon.2.2.2.1;have hcp:=hx3.1;by_cases hlt:k<h.e.n
  ·obtain⟨e,b,o,hx,hab,hc⟩:=vI.q.1.at_ hlt
   have hce:wr.cell? ⟨bh,4,f⟩=t (H (t ⟨b,o,f⟩) h.e.n h.e.c):=by rw[hx2.1 4,←hab];rfl
   have HC:=y hc;have HX:=y hx;have HN:=y hon;have HAE:=y hab;have AV:=y (ahY.q b o hab k hlt);clear hx2 hx3 hon hc hx hab;go_wp2_with fail;have hdrop:es.drop k=e::es.drop (k+1):=by
    rw[A (u.1 HX.q).1,(u.1 HX.q).2]
   have oN:Hid (fU J Jx C (aJ h es ds ms qs scan dn mn) l bh bp h w W ((0,(⟨b,o+k*9+1,f⟩:G))::((if e.kind=1 then [(1,(⟨b,o+k*9+2,f⟩:G))] else if e.kind=2∨e.kind=3 then(2,(⟨b,o+k*9+4,f⟩:G))::iJ ⟨b,o+k*9+5,f⟩ e.v else if e.kind=4 then [(3,(⟨b,o+k*9+7,f⟩:G))] else [])++(nP e.sa 0 (scan e)++(l9 h.e.a scan (k+1) (es.drop (k+1))++uM)))) wr):=by
    have:=HN.q;rw[hdrop,Ot HAE.q] at this;simp only[F,I] at this;exact y this
   have HDR:=y (fU.drew HJ.q yX.q oN.q);have d9:=y (tX.q 0 b (o+k*9+1) _ _ HDR.q);refine bY [(0,z),(1,z),(2,z),(3,z),(4,N)] (fun W'=>Bx W' (W.heap.size+2) #[.func (.func 138) #[] #[g (t ⟨W.heap.size+1,0,f⟩),g (t ⟨W.heap.size,0,f⟩)]]) au au (by intro d v c a w h;cases d <;> exact h) (HDR.q.fn) ?_;refine qO ?_;refine iH rfl rfl (fun K hK=>?_);go_simp;refine d9.q.mono ?_;rintro e1 Y ⟨⟨r,rfl⟩,dw⟩;have iK:=y dw;refine hK _ _ dw.fn ?_;clear hK K dw d9 HDR;refine ja ?_;have hk0:Y.cell? ⟨b,o+k*9,f⟩=t (Q .i64 e.kind):=iK.q.2.1 _ _ (AV.q 0 (.inl rfl)) (HC.q 0 _ rfl);by_cases k1:e.kind=1
   case' pos=>
    rw[k1] at hk0;have ab6:=iK;clear iK;have iK:=y (show fU J Jx C (aJ h es ds ms qs scan dn mn) l bh bp h w W ((1,(⟨b,o+k*9+2,f⟩:G))::(nP e.sa 0 (scan e)++(l9 h.e.a scan (k+1) (es.drop (k+1))++uM))) Y by have:=ab6.q;rw[if_pos k1] at this;exact this);clear ab6;go_wp2_with fail;have HDR:=y (fU.drew HJ.q yX.q iK.q);have d9:=y (tX.q 1 b (o+k*9+2) _ _ HDR.q);refine bY [(0,z),(1,z),(2,z),(3,z),(4,N)] (fun W'=>Bx W' (W.heap.size+2) #[.func (.func 138) #[] #[g (t ⟨W.heap.size+1,0,f⟩),g (t ⟨W.heap.size,0,f⟩)]]) au au (by intro d v c a w h;cases d <;> exact h) (HDR.q.fn) ?_;refine qO ?_;refine iH rfl rfl (fun K hK=>?_);go_simp;refine d9.q.mono ?_;rintro e1 Y ⟨⟨r,rfl⟩,dw⟩;have gX:=y dw;refine hK _ _ dw.fn ?_;clear hK K dw d9 HDR;refine ja ?_
   case' neg=>
    by_cases k2:e.kind=2∨e.kind=3
    case' pos=>
     rcases k2 with kk|kk
     all_goals
      rw[kk] at hk0;have Mj:=y (show fU J Jx C (aJ h es ds ms qs scan dn mn) l bh bp h w W ((2,(⟨b,o+k*9+4,f⟩:G))::(iJ ⟨b,o+k*9+5,f⟩ e.v++(nP e.sa 0 (scan e)++(l9 h.e.a scan (k+1) (es.drop (k+1))++uM)))) Y by have:=iK.q;rw[if_neg k1,if_pos ah] at this;simp only[F,I] at this;exact this);clear iK;go_wp2_with fail;have HDR:=y (fU.drew HJ.q yX.q Mj.q);have d9:=y (tX.q 2 b (o+k*9+4) _ _ HDR.q);refine bY [(0,z),(1,z),(2,z),(3,z),(4,N)] (fun W'=>Bx W' (W.heap.size+2) #[.func (.func 138) #[] #[g (t ⟨W.heap.size+1,0,f⟩),g (t ⟨W.heap.size,0,f⟩)]]) au au (by intro d v c a w h;cases d <;> exact h) (HDR.q.fn) ?_;refine qO ?_;refine iH rfl rfl (fun K hK=>?_);go_simp;refine d9.q.mono ?_;rintro e1 Y ⟨⟨r,rfl⟩,dw⟩;have j6:=y dw;refine hK _ _ dw.fn ?_;clear hK K dw d9 HDR;refine ja ?_;have Cy:=y (ab3.q e.v _ b (o+k*9+5) Y j6.q (AV.q 6 (.inr (.inl rfl))) (HC.q 6 _ rfl));go_wp2_with fail;refine Cy.q.mono ?_;rintro e2 Y2 ⟨⟨r2,rfl⟩,J4⟩;obtain⟨Y,rfl⟩:∃Y,Y=Y2:=⟨_,rfl⟩;have gX:=y J4;clear J4 Cy
    case' neg=>
     by_cases k4:e.kind=4
     case' pos=>
      rw[k4] at hk0;have Mj:=y (show fU J Jx C (aJ h es ds ms qs scan dn mn) l bh bp h w W ((3,(⟨b,o+k*9+7,f⟩:G))::(nP e.sa 0 (scan e)++(l9 h.e.a scan (k+1) (es.drop (k+1))++uM))) Y by have:=iK.q;rw[if_neg k1,if_neg ah,if_pos k4] at this;exact this);clear iK;go_wp2_with fail;have HDR:=y (fU.drew HJ.q yX.q Mj.q);have d9:=y (tX.q 3 b (o+k*9+7) _ _ HDR.q);refine bY [(0,z),(1,z),(2,z),(3,z),(4,N)] (fun W'=>Bx W' (W.heap.size+2) #[.func (.func 138) #[] #[g (t ⟨W.heap.size+1,0,f⟩),g (t ⟨W.heap.size,0,f⟩)]]) au au (by intro d v c a w h;cases d <;> exact h) (HDR.q.fn) ?_;refine qO ?_;refine iH rfl rfl (fun K hK=>?_);go_simp;refine d9.q.mono ?_;rintro e1 Y ⟨⟨r,rfl⟩,dw⟩;have gX:=y dw;refine hK _ _ dw.fn ?_;clear hK K dw d9 HDR;refine ja ?_
     case' neg=>
      have gX:=y (show fU J Jx C (aJ h es ds ms qs scan dn mn) l bh bp h w W (nP e.sa 0 (scan e)++(l9 h.e.a scan (k+1) (es.drop (k+1))++uM)) Y by have:=iK.q;rw[if_neg k1,if_neg ah,if_neg k4] at this;exact this);clear iK;have n1:(e.kind==1)=N:=beq_eq_false_iff_ne.2 k1;have n2:(e.kind==2)=N:=beq_eq_false_iff_ne.2 ah;have n3:(e.kind==3)=N:=beq_eq_false_iff_ne.2 ah;have n4:(e.kind==4)=N:=beq_eq_false_iff_ne.2 k4
   all_goals
    have hsl:Y.cell? ⟨b,o+k*9+8,f⟩=t (H e.sa e.sn e.sc):=gX.q.2.1 _ _ (AV.q 8 (.inr (.inr rfl))) (HC.q 8 _ rfl);go_wp2_with fail;clear hsl
    go_loopw [72] (fun i wr=>∃j:Nat,j≤e.sn∧i= Q .i64 j∧fU J Jx C (aJ h es ds ms qs scan dn mn) l bh bp h w W (nP e.sa j ((scan e).drop j)++(l9 h.e.a scan (k+1) (es.drop (k+1))++uM)) wr) (fun i _=>e.sn - (B i).toNat)
    case atStart=>exact⟨0,M _,rfl,gX.q⟩
    case round=>
     obtain⟨j,hj,rfl,hon⟩:=hrel;have kz:=y hon;clear hon;have Bn:=y (vI.q.2.2.2.2.1 e (L HX.q));have hle:=Bn.q.le;by_cases hjl:j<e.sn
     ·obtain⟨s2,b2,o2,hx2,Bo,hc2⟩:=Bn.q.at_ hjl
      have cu:=y hc2;have cO:=y hx2;have nC:=y Bo;clear hc2 hx2 Bo;have uZ:(scan e).drop j=s2::(scan e).drop (j+1):=by
       rw[A (u.1 cO.q).1,(u.1 cO.q).2]
      have gy:Hid (fU J Jx C (aJ h es ds ms qs scan dn mn) l bh bp h w W ((2,(⟨b2,o2+j*3,f⟩:G))::(iJ ⟨b2,o2+j*3+1,f⟩ s2.v++(nP e.sa (j+1) ((scan e).drop (j+1))++(l9 h.e.a scan (k+1) (es.drop (k+1))++uM)))) wr):=by
       have:=kz.q;rw[uZ,QO nC.q] at this;simp only[F,I] at this;exact y this
      clear uZ;go_wp2_with fail;have HDR:=y (fU.drew HJ.q yX.q gy.q);have d9:=y (tX.q 2 b2 (o2+j*3) _ _ HDR.q);refine bY [(0,z),(1,z),(2,z),(3,z),(4,z),(5,z),(6,z),(7,z),(8,N)] (fun W'=>Bx W' (W.heap.size+2) #[.func (.func 138) #[] #[g (t ⟨W.heap.size+1,0,f⟩),g (t ⟨W.heap.size,0,f⟩)]]∧W'.cell? ⟨b,o+k*9+8,f⟩=t (H (t ⟨b2,o2,f⟩) e.sn e.sc)) au au (by intro d v c a w h;cases d <;> exact h) (⟨HDR.q.fn,HDR.q.2.1 _ _ (AV.q 8 (.inr (.inr rfl))) (by rw[←nC.q];exact HC.q 8 _ rfl)⟩) ?_;refine qO ?_;refine iH rfl rfl (fun K hK=>?_);go_simp;refine d9.q.mono ?_;rintro e1 Y ⟨⟨r,rfl⟩,dw⟩;have HS2:=y dw;refine hK _ _ ⟨dw.fn,dw.2.1 _ _ (AV.q 8 (.inr (.inr rfl))) (by rw[←nC.q];exact HC.q 8 _ rfl)⟩ ?_;clear hK K dw d9 HDR;refine ja ?_;have hsl2:Y.cell? ⟨b,o+k*9+8,f⟩=t (H (t ⟨b2,o2,f⟩) e.sn e.sc):=HS2.q.2.1 _ _ (AV.q 8 (.inr (.inr rfl))) (by rw[←nC.q];exact HC.q 8 _ rfl);have Cy:=y (ab3.q s2.v _ b2 (o2+j*3+1) Y HS2.q (HCS.q e (L HX.q) b2 o2 nC.q j hjl) (cu.q 2 _ rfl));go_wp2_with fail;refine Cy.q.mono ?_;rintro e2 Y2 ⟨⟨r2,rfl⟩,J4⟩;have iU:=y J4;clear J4 hsl2 Cy;go_wp2_with fail;go_roundw
      case rel=>exact⟨j+1,by omega,by go_num,iU.q⟩
      case measure=>simp[B];omega
     ·have hjn:j=e.sn:=by omega
      have hlen:=Bn.q.len;have J5:Hid (fU J Jx C (aJ h es ds ms qs scan dn mn) l bh bp h w W (l9 h.e.a scan (k+1) (es.drop (k+1))++uM) wr):=by
       have:=kz.q;rw[E ah] at this;exact y this
      have hle2:=vI.q.1.le;go_wp2_with fail;go_roundw
      case rel=>exact⟨k+1,by omega,by go_num,J5.q⟩
      case measure=>simp[B];omega
  ·have OW:=(vI.q.1).len
   have vN:Hid (fU J Jx C (aJ h es ds ms qs scan dn mn) l bh bp h w W uM wr):=by
    have:=hon;rw[E ah] at this;exact y this
   have hcp:wr.cell? ⟨bp,0,f⟩=t (g (t ⟨bh,0,f⟩)):=vN.q.2.2.2.1.1 0;have hch:wr.cell? ⟨bh,5,f⟩=t (h.d.v):=vN.q.2.2.1.1 5;clear hx2 hx3 hon;go_wp2_with fail;clear hcp hch;rw[HRE.q] at vN
   go_loopw [100] (fun i wr=>∃k:Nat,k≤h.d.n∧i= Q .i64 k∧fU J Jx C (aJ h es ds ms qs scan dn mn) l bh bp h w W (oO h.d.a dn k (ds.drop k)++zQ) wr) (fun i _=>h.d.n - (B i).toNat)
   case atStart=>exact⟨0,M _,rfl,vN.q⟩
   case round=>
    obtain⟨k,hk,rfl,hon⟩:=hrel;have HN:=y hon;clear hon;have hle0:=(vI.q.2.1).le;by_cases hlt:k<h.d.n
    ·obtain⟨x,b,o,hx,hab,hc⟩:=(vI.q.2.1).at_ hlt
     have HC:=y hc;have HX:=y hx;have nC:=y hab;clear hx hab hc;have hdrop:ds.drop k=x::ds.drop (k+1):=by
      rw[A (u.1 HX.q).1,(u.1 HX.q).2]
     have hcp:wr.cell? ⟨bp,0,f⟩=t (g (t ⟨bh,0,f⟩)):=HN.q.2.2.2.1.1 0;have hch:wr.cell? ⟨bh,5,f⟩=t (H (t ⟨b,o,f⟩) h.d.n h.d.c):=(HN.q.2.2.1.1 5).trans (by rw[←nC.q];rfl);have oN:Hid (fU J Jx C (aJ h es ds ms qs scan dn mn) l bh bp h w W ((2,(⟨b,o+k*2,f⟩:G))::(kK x.sa 0 (dn x)++(oO h.d.a dn (k+1) (ds.drop (k+1))++zQ))) wr):=by
      have:=HN.q;rw[hdrop,Ou nC.q] at this;simp only[F,I] at this;exact y this
     clear hdrop;go_wp2_with fail;clear hcp hch;have HDR:=y (fU.drew HJ.q yX.q oN.q);have d9:=y (tX.q 2 b (o+k*2) _ _ HDR.q);refine bY [(0,z),(1,z),(2,z),(3,z),(4,z),(5,z),(6,z),(7,z),(8,N)] (fun W'=>Bx W' (W.heap.size+2) #[.func (.func 138) #[] #[g (t ⟨W.heap.size+1,0,f⟩),g (t ⟨W.heap.size,0,f⟩)]]∧W'.cell? ⟨bp,0,f⟩=t (g (t ⟨bh,0,f⟩))∧W'.cell? ⟨bh,5,f⟩=t (H (t ⟨b,o,f⟩) h.d.n h.d.c)) au au (by intro d v c a w h;cases d <;> exact h) (⟨HDR.q.fn,(HDR.q.2.2.2.1.1 0),((HDR.q.2.2.1.1 5).trans (by rw[←nC.q];rfl))⟩) ?_;refine qO ?_;refine iH rfl rfl (fun K hK=>?_);go_simp;refine d9.q.mono ?_;rintro e1 Y ⟨⟨r,rfl⟩,dw⟩;have iK:=y dw;refine hK _ _ ⟨dw.fn,(dw.2.2.2.1.1 0),((dw.2.2.1.1 5).trans (by rw[←nC.q];rfl))⟩ ?_;clear hK K dw d9 HDR;refine ja ?_;have hcp:Y.cell? ⟨bp,0,f⟩=t (g (t ⟨bh,0,f⟩)):=iK.q.2.2.2.1.1 0;have hch:Y.cell? ⟨bh,5,f⟩=t (H (t ⟨b,o,f⟩) h.d.n h.d.c):=(iK.q.2.2.1.1 5).trans (by rw[←nC.q];rfl);have hsl:Y.cell? ⟨b,o+k*2+1,f⟩=t (H x.sa x.sn x.sc):=iK.q.2.1 _ _ (HCO.q b o nC.q k hlt) (HC.q 1 _ rfl);go_wp2_with fail;clear hcp hch hsl
     go_loopw [121] (fun i wr=>∃j:Nat,j≤x.sn∧i= Q .i64 j∧fU J Jx C (aJ h es ds ms qs scan dn mn) l bh bp h w W (kK x.sa j ((dn x).drop j)++(oO h.d.a dn (k+1) (ds.drop (k+1))++zQ)) wr) (fun i _=>x.sn - (B i).toNat)
     case atStart=>exact⟨0,M _,rfl,iK.q⟩
     case round=>
      obtain⟨j,hj,rfl,hon⟩:=hrel;have kz:=y hon;clear hon;have Bn:=y (vI.q.2.2.2.2.2.1 x (L HX.q));have hle1:=Bn.q.le;by_cases hjl:j<x.sn
      ·obtain⟨d,b2,o2,hx2,Bo,hc2⟩:=Bn.q.at_ hjl
       have cu:=y hc2;have cO:=y hx2;have Dz:=y Bo;clear hc2 hx2 Bo;have uZ:(dn x).drop j=d::(dn x).drop (j+1):=by
        rw[A (u.1 cO.q).1,(u.1 cO.q).2]
       have gy:Hid (fU J Jx C (aJ h es ds ms qs scan dn mn) l bh bp h w W ((0,(⟨b2,o2+j,f⟩:G))::(kK x.sa (j+1) ((dn x).drop (j+1))++(oO h.d.a dn (k+1) (ds.drop (k+1))++zQ))) wr):=by
        have:=kz.q;rw[uZ,Gc Dz.q] at this;simp only[F] at this;exact y this
       clear uZ;go_wp2_with fail;have HDR:=y (fU.drew HJ.q yX.q gy.q);have d9:=y (tX.q 0 b2 (o2+j) _ _ HDR.q);refine bY [(0,z),(1,z),(2,z),(3,z),(4,z),(5,z),(6,z),(7,z),(8,z),(9,z),(10,z),(11,N)] (fun W'=>Bx W' (W.heap.size+2) #[.func (.func 138) #[] #[g (t ⟨W.heap.size+1,0,f⟩),g (t ⟨W.heap.size,0,f⟩)]]∧W'.cell? ⟨b,o+k*2+1,f⟩=t (H (t ⟨b2,o2,f⟩) x.sn x.sc)∧W'.cell? ⟨bp,0,f⟩=t (g (t ⟨bh,0,f⟩))∧W'.cell? ⟨bh,5,f⟩=t (H (t ⟨b,o,f⟩) h.d.n h.d.c)) au au (by intro d v c a w h;cases d <;> exact h) (⟨HDR.q.fn,HDR.q.2.1 _ _ (HCO.q b o nC.q k hlt) (by rw[←Dz.q];exact HC.q 1 _ rfl),(HDR.q.2.2.2.1.1 0),((HDR.q.2.2.1.1 5).trans (by rw[←nC.q];rfl))⟩) ?_;refine qO ?_;refine iH rfl rfl (fun K hK=>?_);go_simp;refine d9.q.mono ?_;rintro e1 Y ⟨⟨r,rfl⟩,dw⟩;have HS2:=y dw;refine hK _ _ ⟨dw.fn,dw.2.1 _ _ (HCO.q b o nC.q k hlt) (by rw[←Dz.q];exact HC.q 1 _ rfl),(dw.2.2.2.1.1 0),((dw.2.2.1.1 5).trans (by rw[←nC.q];rfl))⟩ ?_;clear hK K dw d9 HDR;refine ja ?_;go_wp2_with fail;go_roundw
       case rel=>exact⟨j+1,by omega,by go_num,HS2.q⟩
       case measure=>simp[B];omega
      ·have hlen1:=Bn.q.len
       have J5:Hid (fU J Jx C (aJ h es ds ms qs scan dn mn) l bh bp h w W (oO h.d.a dn (k+1) (ds.drop (k+1))++zQ) wr):=by
        have:=kz.q;rw[E ah] at this;exact y this
       go_wp2_with fail;go_roundw
       case rel=>exact⟨k+1,by omega,by go_num,J5.q⟩
       case measure=>simp[B];omega
    ·have OW:=(vI.q.2.1).len
     have vN:Hid (fU J Jx C (aJ h es ds ms qs scan dn mn) l bh bp h w W zQ wr):=by
      have:=HN.q;rw[E ah] at this;exact y this
     have hcp:wr.cell? ⟨bp,0,f⟩=t (g (t ⟨bh,0,f⟩)):=vN.q.2.2.2.1.1 0;have hch:wr.cell? ⟨bh,6,f⟩=t (h.m.v):=vN.q.2.2.1.1 6;go_wp2_with fail;clear hcp hch;rw[rT.q] at vN
     go_loopw [143] (fun i wr=>∃k:Nat,k≤h.m.n∧i= Q .i64 k∧fU J Jx C (aJ h es ds ms qs scan dn mn) l bh bp h w W (oQ h.m.a mn k (ms.drop k)++zP) wr) (fun i _=>h.m.n - (B i).toNat)
     case atStart=>exact⟨0,M _,rfl,vN.q⟩
     case round=>
      obtain⟨k,hk,rfl,hon⟩:=hrel;have HN:=y hon;clear hon;have hle0:=(vI.q.2.2.1).le;by_cases hlt:k<h.m.n
      ·obtain⟨x,b,o,hx,hab,hc⟩:=(vI.q.2.2.1).at_ hlt
       have HC:=y hc;have HX:=y hx;have nC:=y hab;clear hx hab hc;have hdrop:ms.drop k=x::ms.drop (k+1):=by
        rw[A (u.1 HX.q).1,(u.1 HX.q).2]
       have hcp:wr.cell? ⟨bp,0,f⟩=t (g (t ⟨bh,0,f⟩)):=HN.q.2.2.2.1.1 0;have hch:wr.cell? ⟨bh,6,f⟩=t (H (t ⟨b,o,f⟩) h.m.n h.m.c):=(HN.q.2.2.1.1 6).trans (by rw[←nC.q];rfl);have oN:Hid (fU J Jx C (aJ h es ds ms qs scan dn mn) l bh bp h w W ((3,(⟨b,o+k*4,f⟩:G))::((2,(⟨b,o+k*4+1,f⟩:G))::(kK x.sa 0 (mn x)++(oQ h.m.a mn (k+1) (ms.drop (k+1))++zP)))) wr):=by
        have:=HN.q;rw[hdrop,Ov nC.q] at this;simp only[F,I] at this;exact y this
       clear hdrop;go_wp2_with fail;clear hcp hch;have HDR:=y (fU.drew HJ.q yX.q oN.q);have d9:=y (tX.q 3 b (o+k*4) _ _ HDR.q);refine bY [(0,z),(1,z),(2,z),(3,z),(4,N)] (fun W'=>Bx W' (W.heap.size+2) #[.func (.func 138) #[] #[g (t ⟨W.heap.size+1,0,f⟩),g (t ⟨W.heap.size,0,f⟩)]]) au au (by intro d v c a w h;cases d <;> exact h) (HDR.q.fn) ?_;refine qO ?_;refine iH rfl rfl (fun K hK=>?_);go_simp;refine d9.q.mono ?_;rintro e1 Y ⟨⟨r,rfl⟩,dw⟩;have iK:=y dw;refine hK _ _ dw.fn ?_;clear hK K dw d9 HDR;refine ja ?_;go_wp2_with fail;have HDR:=y (fU.drew HJ.q yX.q iK.q);have d9:=y (tX.q 2 b (o+k*4+1) _ _ HDR.q);refine bY [(0,z),(1,z),(2,z),(3,z),(4,N)] (fun W'=>Bx W' (W.heap.size+2) #[.func (.func 138) #[] #[g (t ⟨W.heap.size+1,0,f⟩),g (t ⟨W.heap.size,0,f⟩)]]) au au (by intro d v c a w h;cases d <;> exact h) (HDR.q.fn) ?_;refine qO ?_;refine iH rfl rfl (fun K hK=>?_);go_simp;refine d9.q.mono ?_;rintro e1 Y ⟨⟨r,rfl⟩,dw⟩;have gX:=y dw;refine hK _ _ dw.fn ?_;clear hK K dw d9 HDR;refine ja ?_;have hsl:Y.cell? ⟨b,o+k*4+3,f⟩=t (H x.sa x.sn x.sc):=gX.q.2.1 _ _ (HCM.q b o nC.q k hlt) (HC.q 3 _ rfl);go_wp2_with fail;clear hsl
       go_loopw [167] (fun i wr=>∃j:Nat,j≤x.sn∧i= Q .i64 j∧fU J Jx C (aJ h es ds ms qs scan dn mn) l bh bp h w W (kK x.sa j ((mn x).drop j)++(oQ h.m.a mn (k+1) (ms.drop (k+1))++zP)) wr) (fun i _=>x.sn - (B i).toNat)
       case atStart=>exact⟨0,M _,rfl,gX.q⟩
       case round=>
        obtain⟨j,hj,rfl,hon⟩:=hrel;have kz:=y hon;clear hon;have Bn:=y (vI.q.2.2.2.2.2.2 x (L HX.q));have hle1:=Bn.q.le;by_cases hjl:j<x.sn
        ·obtain⟨d,b2,o2,hx2,Bo,hc2⟩:=Bn.q.at_ hjl
         have cu:=y hc2;have cO:=y hx2;have Dz:=y Bo;clear hc2 hx2 Bo;have uZ:(mn x).drop j=d::(mn x).drop (j+1):=by
          rw[A (u.1 cO.q).1,(u.1 cO.q).2]
         have gy:Hid (fU J Jx C (aJ h es ds ms qs scan dn mn) l bh bp h w W ((0,(⟨b2,o2+j,f⟩:G))::(kK x.sa (j+1) ((mn x).drop (j+1))++(oQ h.m.a mn (k+1) (ms.drop (k+1))++zP))) wr):=by
          have:=kz.q;rw[uZ,Gc Dz.q] at this;simp only[F] at this;exact y this
         clear uZ;go_wp2_with fail;have HDR:=y (fU.drew HJ.q yX.q gy.q);have d9:=y (tX.q 0 b2 (o2+j) _ _ HDR.q);refine bY [(0,z),(1,z),(2,z),(3,z),(4,z),(5,z),(6,z),(7,N)] (fun W'=>Bx W' (W.heap.size+2) #[.func (.func 138) #[] #[g (t ⟨W.heap.size+1,0,f⟩),g (t ⟨W.heap.size,0,f⟩)]]∧W'.cell? ⟨b,o+k*4+3,f⟩=t (H (t ⟨b2,o2,f⟩) x.sn x.sc)) au au (by intro d v c a w h;cases d <;> exact h) (⟨HDR.q.fn,HDR.q.2.1 _ _ (HCM.q b o nC.q k hlt) (by rw[←Dz.q];exact HC.q 3 _ rfl)⟩) ?_;refine qO ?_;refine iH rfl rfl (fun K hK=>?_);go_simp;refine d9.q.mono ?_;rintro e1 Y ⟨⟨r,rfl⟩,dw⟩;have HS2:=y dw;refine hK _ _ ⟨dw.fn,dw.2.1 _ _ (HCM.q b o nC.q k hlt) (by rw[←Dz.q];exact HC.q 3 _ rfl)⟩ ?_;clear hK K dw d9 HDR;refine ja ?_;go_wp2_with fail;go_roundw
         case rel=>exact⟨j+1,by omega,by go_num,HS2.q⟩
         case measure=>simp[B];omega
        ·have hlen1:=Bn.q.len
         have J5:Hid (fU J Jx C (aJ h es ds ms qs scan dn mn) l bh bp h w W (oQ h.m.a mn (k+1) (ms.drop (k+1))++zP) wr):=by
          have:=kz.q;rw[E ah] at this;exact y this
         go_wp2_with fail;go_roundw
         case rel=>exact⟨k+1,by omega,by go_num,J5.q⟩
         case measure=>simp[B];omega
      ·have OW:=(vI.q.2.2.1).len
       have vN:Hid (fU J Jx C (aJ h es ds ms qs scan dn mn) l bh bp h w W zP wr):=by
        have:=HN.q;rw[E ah] at this;exact y this
       have hcp:wr.cell? ⟨bp,0,f⟩=t (g (t ⟨bh,0,f⟩)):=vN.q.2.2.2.1.1 0;have hch:wr.cell? ⟨bh,7,f⟩=t (h.w.v):=vN.q.2.2.1.1 7;go_wp2_with fail;clear hcp hch;rw[Qv.q] at vN
       go_loopw [185] (fun i wr=>∃k:Nat,k≤h.w.n∧i= Q .i64 k∧fU J Jx C (aJ h es ds ms qs scan dn mn) l bh bp h w W (sN h.w.a k (qs.drop k)++[]) wr) (fun i _=>h.w.n - (B i).toNat)
       case atStart=>exact⟨0,M _,rfl,vN.q⟩
       case round=>
        obtain⟨k,hk,rfl,hon⟩:=hrel;have HN:=y hon;clear hon;have hle0:=(vI.q.2.2.2.1).le;by_cases hlt:k<h.w.n
        ·obtain⟨x,b,o,hx,hab,hc⟩:=(vI.q.2.2.2.1).at_ hlt
         have HC:=y hc;have HX:=y hx;have nC:=y hab;clear hx hab hc;have hdrop:qs.drop k=x::qs.drop (k+1):=by
          rw[A (u.1 HX.q).1,(u.1 HX.q).2]
         have hcp:wr.cell? ⟨bp,0,f⟩=t (g (t ⟨bh,0,f⟩)):=HN.q.2.2.2.1.1 0;have hch:wr.cell? ⟨bh,7,f⟩=t (H (t ⟨b,o,f⟩) h.w.n h.w.c):=(HN.q.2.2.1.1 7).trans (by rw[←nC.q];rfl);have oN:Hid (fU J Jx C (aJ h es ds ms qs scan dn mn) l bh bp h w W ((1,(⟨b,o+k*2,f⟩:G))::(sN h.w.a (k+1) (qs.drop (k+1))++[])) wr):=by
          have:=HN.q;rw[hdrop,Ow nC.q] at this;simp only[F] at this;exact y this
         clear hdrop;go_wp2_with fail;clear hcp hch;have HDR:=y (fU.drew HJ.q yX.q oN.q);have d9:=y (tX.q 1 b (o+k*2) _ _ HDR.q);refine bY [(0,z),(1,z),(2,z),(3,z),(4,z),(5,z),(6,z),(7,z),(8,N)] (fun W'=>Bx W' (W.heap.size+2) #[.func (.func 138) #[] #[g (t ⟨W.heap.size+1,0,f⟩),g (t ⟨W.heap.size,0,f⟩)]]∧W'.cell? ⟨bp,0,f⟩=t (g (t ⟨bh,0,f⟩))∧W'.cell? ⟨bh,7,f⟩=t (H (t ⟨b,o,f⟩) h.w.n h.w.c)) au au (by intro d v c a w h;cases d <;> exact h) (⟨HDR.q.fn,(HDR.q.2.2.2.1.1 0),((HDR.q.2.2.1.1 7).trans (by rw[←nC.q];rfl))⟩) ?_;refine qO ?_;refine iH rfl rfl (fun K hK=>?_);go_simp;refine d9.q.mono ?_;rintro e1 Y ⟨⟨r,rfl⟩,dw⟩;have iK:=y dw;refine hK _ _ ⟨dw.fn,(dw.2.2.2.1.1 0),((dw.2.2.1.1 7).trans (by rw[←nC.q];rfl))⟩ ?_;clear hK K dw d9 HDR;refine ja ?_;go_wp2_with fail;go_roundw
         case rel=>exact⟨k+1,by omega,by go_num,iK.q⟩
         case measure=>simp[B];omega
        ·have OW:=(vI.q.2.2.2.1).len
         have vN:Hid (fU J Jx C (aJ h es ds ms qs scan dn mn) l bh bp h w W [] wr):=by
          have:=HN.q;rw[E ah] at this;exact y this
         go_wp2_with fail
         go_end0
         obtain⟨⟨pre,hp,a0,a2,a1⟩,_⟩:=vN.q;rw[R] at hp;refine⟨_,rfl,?_⟩;rcases a1 with⟨_,hj⟩|⟨_,p,hpx,hj⟩
         ·exact .inl (hp▸hj)
         ·exact .inr ⟨p,hpx,hj⟩
end Yd
