import Derived.Test.YtiheclemhihpeaaGreatDoorZSpC
set_option linter.all false
set_option maxRecDepth 200000
set_option maxHeartbeats 8000000
namespace Yd
open Option renaming none->G,some->I
open Go Go.RowKit Go.Proofs
open Go renaming Addr->N
open Go.Value renaming pointer->H,slice->O
open RowKit renaming intOf->M
open Yd renaming hid->L
open _root_ renaming trivial->U,List->V
theorem abz{p:Prop}(h:p:=by rw[<-hp];simp):p:=h
theorem abA{p:Prop}(h:p:=by rw[<-R.q];exact HC.q 8 _ rfl):p:=h
theorem abB{p:Prop}(h:p:=by rw[<-R.q];rfl):p:=h
def iy (c d:V (Int × N)->World->Prop)(C:N->Prop)(xs:V (Int × N))(l a e:Nat)(h:HC)(w f:World)(g:V (Int × N))(X:World):Prop:=
 (∃b,b++g=xs/\Ih c d xs f.1.size l b X)/\vI C w X/\Bx X a (aI h)/\Bx X e #[H (I ⟨a,0,G⟩)]/\w.1.size<=X.1.size
section
variable {J Jx:V (Int × N)->World->Prop}{C:N->Prop}{D:Nat->Prop}{xs:V (Int × N)}{l bh bp:Nat}{h:HC}{w W:World}
variable{X:World}
theorem iy.step {d:V (Int × N)}{a:V (Int × N)}{Y:World}{e:Ending}(g:vI C w X/\Bx X bh (aI h)/\Bx X bp #[H (I ⟨bh,0,G⟩)]/\w.1.size<=X.1.size)(i:∀s X,J s X->vI C w X)(j:∀s X,Jx s X->vI C w X)(k:PW J Jx D xs W.1.size l a X e Y)(m:a++d=xs)
  (n:D bh) (o:D bp) (u:bh<W.1.size) (v:bp<W.1.size):iy J Jx C xs l bh bp h w W d Y:=by
 obtain⟨_,q,r,t⟩:=g;obtain⟨_,f,b⟩:=k;exact⟨⟨a,m,f⟩,(by rcases f.2.2 with⟨_,c⟩|⟨_,p,_,c⟩;exact i _ _ c;exact j _ _ c),b.bx q ⟨n,by omega⟩,b.bx r ⟨o,by omega⟩,cO t b.1⟩
theorem iy.fn {a:V (Int × N)}(b:iy J Jx C xs l bh bp h w W a X):Bx X (W.1.size+2) #[.func (.func 144) #[] #[H (I ⟨W.1.size+1,0,G⟩),H (I ⟨W.1.size,0,G⟩)]]:=by
 obtain⟨⟨d,e,f,c,g⟩,_⟩:=b;exact c
theorem iy.drew {d:V (Int × N)}(e:∀s X Y,J s X->Same (λi=>i<W.1.size\/W.1.size+3<=i) X Y->J s Y)(f:∀s X Y,Jx s X->Same (λi=>i<W.1.size\/W.1.size+3<=i) X Y->Jx s Y)
  (g:iy J Jx C xs l bh bp h w W d X):iy J Jx C xs l bh bp h w W d X.drew:=by
 obtain⟨⟨j,k,m,n,o⟩,q,r,t,u⟩:=g;refine⟨⟨j,k,m.drew,n.drew,?_⟩,q,r.drew,t.drew,u⟩;rcases o with⟨a,b⟩|⟨a,p,v,b⟩
 .exact .inl ⟨a.drew,e _ _ _ b (Same.of_below ((Below.refl X.1.size X).drew) (λi _ c=>c))⟩
 .exact .inr ⟨a.drew,p,v,f _ _ _ b (Same.of_below ((Below.refl X.1.size X).drew) (λi _ c=>c))⟩
end
theorem FC (h:HC)(t:V EvC)(z:V aO)(A:V aP)(E:V Wa)(g:EvC->V Sn)(u:aO->V Int)(y:aP->V Int)(f B:Nat)(D:Nat->Prop)(C:N->Prop)(w c:World)
  (hd:Deep w h t z A E g u y) (hH:Bx c f (aI h)) (hP:Bx c B #[H (I ⟨f,0,G⟩)]) (υ:vI C w c) (v0:w.1.size<=c.1.size) (j4:D f) (j5:D B)
  (j6:∀b o,h.e.a=I ⟨b,o,G⟩->∀k,k<h.e.n->∀j,j=0\/j=6\/j=8->C ⟨b,o+k*9+j,G⟩) (j7:∀e∈t,∀b o,e.sa=I ⟨b,o,G⟩->∀j,j<e.sn->C ⟨b,o+j*3+2,G⟩)
  (j8:∀b o,h.d.a=I ⟨b,o,G⟩->∀k,k<h.d.n->C ⟨b,o+k*2+1,G⟩) (j9:∀b o,h.m.a=I ⟨b,o,G⟩->∀k,k<h.m.n->C ⟨b,o+k*4+3,G⟩)
  (z0:∀i,c.1.size<=i->i<c.1.size+3->D i):
  EM Tryz.prog 143 #[H (I ⟨B,0,G⟩)] EN 3 D (vI C w) (aV h t z A E g u y) c:=by
 intro n l J Jx hJ q2 hR q4 hY h0;refine callsIn_wide.2 ?_;have η:Hid (∀(s:Int)(b o:Nat) ν X,iy J Jx C (aV h t z A E g u y) l f B h w c ((s,(⟨b,o,G⟩:N))::ν) X->
   Calls Tryz.prog 144 #[.int .i64 s,H (I ⟨b,o,G⟩),H (I ⟨c.1.size+1,0,G⟩),H (I ⟨c.1.size,0,G⟩)] X λe Y=>(∃v,e= .returned v)/\iy J Jx C (aV h t z A E g u y) l f B h w c ν Y):=L λs b o ν X hX=>by
  obtain⟨⟨q3,hp,hA⟩,υ⟩:=hX;refine(callsIn_wide.1 (FD J Jx D (aV h t z A E g u y) c.1.size l hJ q2 z0 hY q3 s b o X ⟨ν,abz⟩ hA 3)).mono ?_;exact λe Y hs=>⟨hs.1,iy.step υ hR q4 hs abz j4 j5 hH.2.2 hP.2.2⟩
 have z1:Hid (∀(v:je) ν b o X,iy J Jx C (aV h t z A E g u y) l f B h w c (iR ⟨b,o,G⟩ v++ν) X->C ⟨b,o+1,G⟩->w.cell? ⟨b,o+1,G⟩=I (.int .i64 v.k)->
   Calls Tryz.prog 145 #[H (I ⟨b,o,G⟩),H (I ⟨c.1.size+2,0,G⟩)] X λe Y=>(∃v,e= .returned v)/\iy J Jx C (aV h t z A E g u y) l f B h w c ν Y):=L λv ν b o X hX v1 v2=>by
  obtain⟨⟨q3,hp,hA⟩,υ⟩:=hX;refine(NU J Jx D (aV h t z A E g u y) c.1.size l hJ q2 z0 hY q3 v b o X ⟨ν,abz⟩ hA (υ.1 _ _ v1 v2)).mono ?_;exact λe Y hs=>⟨hs.1,iy.step υ hR q4 hs abz j4 j5 hH.2.2 hP.2.2⟩
 have Γ:Below c.1.size c (((c.alloc (.cells #[.func (.yield l) #[] #[]] 194)).alloc (.cells #[.bool true] 4)).alloc (.cells #[.func (.func 144) #[] #[H (I ⟨c.1.size+1,0,G⟩),H (I ⟨c.1.size,0,G⟩)]] 195)):=
  (((Below.refl _ _).alloc (aC _) _).alloc ak _).alloc (by simp;omega) _
 go_enter Tryz.func143,Tryz.ntmps143;have q5:=hP.keep Γ;have q6:=hH.keep Γ;have Z:=q5.1;have β:=q6.1;have v3:Hid (iy J Jx C (aV h t z A E g u y) l f B h w c (aV h t z A E g u y) (((c.alloc (.cells #[.func (.yield l) #[] #[]] 194)).alloc (.cells #[.bool true] 4)).alloc (.cells #[.func (.func 144) #[] #[H (I ⟨c.1.size+1,0,G⟩),H (I ⟨c.1.size,0,G⟩)]] 195))):=by
  refine⟨⟨[],rfl,((Bx.new c _ _).alloc _).alloc _,?_,.inl ⟨?_,hJ _ _ _ h0 (Same.of_below Γ (λi _ hi=>hi))⟩⟩,λa v v4 hc=>?_,q6,q5,cO v0 Γ.size⟩
  .have:=Bx.new ((c.alloc (.cells #[.func (.yield l) #[] #[]] 194)).alloc (.cells #[.bool true] 4)) #[.func (.func 144) #[] #[H (I ⟨c.1.size+1,0,G⟩),H (I ⟨c.1.size,0,G⟩)]] 195
   simpa using this
  .have:=(Bx.new (c.alloc (.cells #[.func (.yield l) #[] #[]] 194)) #[.bool true] 4).alloc (.cells #[.func (.func 144) #[] #[H (I ⟨c.1.size+1,0,G⟩),H (I ⟨c.1.size,0,G⟩)]] 195)
   simpa using this
  .have h1:=υ a v v4 hc
   exact(Γ.cell (p:=a) (iw h1)).trans h1
 go_wp2_with fail;have γ:=L hd;have v5:=L j6;have v6:=L j7;have q7:=L j8;have q8:=L j9;clear j6 j7 j8 j9 hR q4 υ;clear Γ q5 q6 Z β hY h0 hd;obtain⟨φ,z2⟩:∃r,r=sH h.w.a 0 E++[]:=⟨_,rfl⟩;obtain⟨χ,z3⟩:∃r,r=pQ h.m.a y 0 A++φ:=⟨_,rfl⟩;obtain⟨κ,z4⟩:∃r,r=pR h.d.a u 0 z++χ:=⟨_,rfl⟩;have z5:=L z4;have z6:=L z3;have z7:=L z2;have HJ:=L hJ;have θ:=L q2;clear z4 z3 z2 hJ q2
 go_loopw [22] (λi wr=>∃k:Nat,k<=h.e.n/\i= .int .i64 k/\iy J Jx C (aV h t z A E g u y) l f B h w c (mG h.e.a g k (t.drop k)++κ) wr) (λi _=>h.e.n - (M i).toNat)
 case atStart=>exact⟨0,aS _,rfl,by rw[z5.q,z6.q,z7.q,eG];exact v3.q⟩
 case round=>
  obtain⟨k,hk,rfl,S⟩:=hrel;have ζ:=S.2.2.1;have q9:=S.2.2.2.1;have Z:=q9.1;by_cases δ:k<h.e.n
  .obtain⟨e,b,o,hx,ε,hc⟩:=γ.q.1.at_ δ
   have k7:wr.cell? ⟨f,4,G⟩=I (O (I ⟨b,o,G⟩) h.e.n h.e.c):=by rw[ζ.1 4,<-ε];rfl
   have HC:=L hc;have HX:=L hx;have HN:=L S;have v7:=L ε;have Δ:=L (v5.q b o ε k δ);clear ζ q9 S hc hx ε;go_wp2_with fail;have μ:t.drop k=e::t.drop (k+1):=by
    rw[jV (bq.1 HX.q).1,(bq.1 HX.q).2]
   have ψ:Hid (iy J Jx C (aV h t z A E g u y) l f B h w c ((0,(⟨b,o+k*9+1,G⟩:N))::((if e.kind=1 then [(1,(⟨b,o+k*9+2,G⟩:N))] else if e.kind=2\/e.kind=3 then(2,(⟨b,o+k*9+4,G⟩:N))::iR ⟨b,o+k*9+5,G⟩ e.v else if e.kind=4 then [(3,(⟨b,o+k*9+7,G⟩:N))] else [])++(oo e.sa 0 (g e)++(mG h.e.a g (k+1) (t.drop (k+1))++κ)))) wr):=by
    have:=HN.q;rw[μ,Jy v7.q] at this;simp only[jl,fP] at this;exact L this
   have m:=L (iy.drew HJ.q θ.q ψ.q);have F:=L (η.q 0 b (o+k*9+1) _ _ m.q);refine aD 0 [(0,1),(1,1),(2,1),(3,1),(4,2)] (λQ=>Bx Q (c.1.size+2) #[.func (.func 144) #[] #[H (I ⟨c.1.size+1,0,G⟩),H (I ⟨c.1.size,0,G⟩)]]) (λ_=>True) au au (m.q.fn) U ?_;refine qC ?_;refine bA rfl rfl rfl (λK P=>?_);go_simp;refine F.q.mono ?_;rintro e1 Y ⟨⟨r,rfl⟩,q⟩;have T:=L q;refine P _ _ q.fn ?_;clear P K q F m;refine aH ?_;have j0:Y.cell? ⟨b,o+k*9,G⟩=I (.int .i64 e.kind):=T.q.2.1 _ _ (Δ.q 0 (.inl rfl)) (HC.q 0 _ rfl);by_cases k1:e.kind=1
   case' pos=>
    rw[k1] at j0;have z8:=T;clear T;have T:=L (show iy J Jx C (aV h t z A E g u y) l f B h w c ((1,(⟨b,o+k*9+2,G⟩:N))::(oo e.sa 0 (g e)++(mG h.e.a g (k+1) (t.drop (k+1))++κ))) Y by have:=z8.q;rw[aA k1] at this;exact this);clear z8;go_wp2_with fail;have m:=L (iy.drew HJ.q θ.q T.q);have F:=L (η.q 1 b (o+k*9+2) _ _ m.q);refine aD 0 [(0,1),(1,1),(2,1),(3,1),(4,2)] (λQ=>Bx Q (c.1.size+2) #[.func (.func 144) #[] #[H (I ⟨c.1.size+1,0,G⟩),H (I ⟨c.1.size,0,G⟩)]]) (λ_=>True) au au (m.q.fn) U ?_;refine qC ?_;refine bA rfl rfl rfl (λK P=>?_);go_simp;refine F.q.mono ?_;rintro e1 Y ⟨⟨r,rfl⟩,q⟩;have ξ:=L q;refine P _ _ q.fn ?_;clear P K q F m;refine aH ?_
   case' neg=>
    by_cases k2:e.kind=2\/e.kind=3
    case' pos=>
     rcases k2 with kk|kk
     all_goals
      rw[kk] at j0;have j1:=L (show iy J Jx C (aV h t z A E g u y) l f B h w c ((2,(⟨b,o+k*9+4,G⟩:N))::(iR ⟨b,o+k*9+5,G⟩ e.v++(oo e.sa 0 (g e)++(mG h.e.a g (k+1) (t.drop (k+1))++κ)))) Y by have:=T.q;rw[ay k1,aA ah] at this;simp only[jl,fP] at this;exact this);clear T;go_wp2_with fail;have m:=L (iy.drew HJ.q θ.q j1.q);have F:=L (η.q 2 b (o+k*9+4) _ _ m.q);refine aD 0 [(0,1),(1,1),(2,1),(3,1),(4,2)] (λQ=>Bx Q (c.1.size+2) #[.func (.func 144) #[] #[H (I ⟨c.1.size+1,0,G⟩),H (I ⟨c.1.size,0,G⟩)]]) (λ_=>True) au au (m.q.fn) U ?_;refine qC ?_;refine bA rfl rfl rfl (λK P=>?_);go_simp;refine F.q.mono ?_;rintro e1 Y ⟨⟨r,rfl⟩,q⟩;have v8:=L q;refine P _ _ q.fn ?_;clear P K q F m;refine aH ?_;have Φ:=L (z1.q e.v _ b (o+k*9+5) Y v8.q (Δ.q 6 (.inr (.inl rfl))) (HC.q 6 _ rfl));go_wp2_with fail;refine Φ.q.mono ?_;rintro e2 Y2 ⟨⟨r2,rfl⟩,Ψ⟩;obtain⟨Y,rfl⟩:∃Y,Y=Y2:=⟨_,rfl⟩;have ξ:=L Ψ;clear Ψ Φ
    case' neg=>
     by_cases k4:e.kind=4
     case' pos=>
      rw[k4] at j0;have j1:=L (show iy J Jx C (aV h t z A E g u y) l f B h w c ((3,(⟨b,o+k*9+7,G⟩:N))::(oo e.sa 0 (g e)++(mG h.e.a g (k+1) (t.drop (k+1))++κ))) Y by have:=T.q;rw[ay k1,ay ah,aA k4] at this;exact this);clear T;go_wp2_with fail;have m:=L (iy.drew HJ.q θ.q j1.q);have F:=L (η.q 3 b (o+k*9+7) _ _ m.q);refine aD 0 [(0,1),(1,1),(2,1),(3,1),(4,2)] (λQ=>Bx Q (c.1.size+2) #[.func (.func 144) #[] #[H (I ⟨c.1.size+1,0,G⟩),H (I ⟨c.1.size,0,G⟩)]]) (λ_=>True) au au (m.q.fn) U ?_;refine qC ?_;refine bA rfl rfl rfl (λK P=>?_);go_simp;refine F.q.mono ?_;rintro e1 Y ⟨⟨r,rfl⟩,q⟩;have ξ:=L q;refine P _ _ q.fn ?_;clear P K q F m;refine aH ?_
     case' neg=>
      have ξ:=L (show iy J Jx C (aV h t z A E g u y) l f B h w c (oo e.sa 0 (g e)++(mG h.e.a g (k+1) (t.drop (k+1))++κ)) Y by have:=T.q;rw[ay k1,ay ah,ay k4] at this;exact this);clear T;have n1:(e.kind==1)=false:=aN.2 k1;have n2:(e.kind==2)=false:=aN.2 ah;have n3:(e.kind==3)=false:=aN.2 ah;have n4:(e.kind==4)=false:=aN.2 k4
   all_goals
    have Ω:Y.cell? ⟨b,o+k*9+8,G⟩=I (O e.sa e.sn e.sc):=ξ.q.2.1 _ _ (Δ.q 8 (.inr (.inr rfl))) (HC.q 8 _ rfl);go_wp2_with fail;clear Ω
    go_loopw [72] (λi wr=>∃j:Nat,j<=e.sn/\i= .int .i64 j/\iy J Jx C (aV h t z A E g u y) l f B h w c (oo e.sa j ((g e).drop j)++(mG h.e.a g (k+1) (t.drop (k+1))++κ)) wr) (λi _=>e.sn - (M i).toNat)
    case atStart=>exact⟨0,aS _,rfl,ξ.q⟩
    case round=>
     obtain⟨j,hj,rfl,S⟩:=hrel;have ο:=L S;clear S;have ι:=L (γ.q.2.2.2.2.1 e (bS HX.q));have k8:=ι.q.le;by_cases Θ:j<e.sn
     .obtain⟨s2,b2,o2,ζ,π,ρ⟩:=ι.q.at_ Θ
      have j2:=L ρ;have σ:=L ζ;have R:=L π;clear ρ ζ π;have τ:(g e).drop j=s2::(g e).drop (j+1):=by
       rw[jV (bq.1 σ.q).1,(bq.1 σ.q).2]
      have q0:Hid (iy J Jx C (aV h t z A E g u y) l f B h w c ((2,(⟨b2,o2+j*3,G⟩:N))::(iR ⟨b2,o2+j*3+1,G⟩ s2.v++(oo e.sa (j+1) ((g e).drop (j+1))++(mG h.e.a g (k+1) (t.drop (k+1))++κ)))) wr):=by
       have:=ο.q;rw[τ,Lg R.q] at this;simp only[jl,fP] at this;exact L this
      clear τ;go_wp2_with fail;have m:=L (iy.drew HJ.q θ.q q0.q);have F:=L (η.q 2 b2 (o2+j*3) _ _ m.q);refine aD 0 [(0,1),(1,1),(2,1),(3,1),(4,1),(5,1),(6,1),(7,1),(8,2)] (λQ=>Bx Q (c.1.size+2) #[.func (.func 144) #[] #[H (I ⟨c.1.size+1,0,G⟩),H (I ⟨c.1.size,0,G⟩)]]/\Q.cell? ⟨b,o+k*9+8,G⟩=I (O (I ⟨b2,o2,G⟩) e.sn e.sc)) (λ_=>True) au au (⟨m.q.fn,m.q.2.1 _ _ (Δ.q 8 (.inr (.inr rfl))) abA⟩) U ?_;refine qC ?_;refine bA rfl rfl rfl (λK P=>?_);go_simp;refine F.q.mono ?_;rintro e1 Y ⟨⟨r,rfl⟩,q⟩;have Ξ:=L q;refine P _ _ ⟨q.fn,q.2.1 _ _ (Δ.q 8 (.inr (.inr rfl))) abA⟩ ?_;clear P K q F m;refine aH ?_;have v9:Y.cell? ⟨b,o+k*9+8,G⟩=I (O (I ⟨b2,o2,G⟩) e.sn e.sc):=Ξ.q.2.1 _ _ (Δ.q 8 (.inr (.inr rfl))) abA;have Φ:=L (z1.q s2.v _ b2 (o2+j*3+1) Y Ξ.q (v6.q e (bS HX.q) b2 o2 R.q j Θ) (j2.q 2 _ rfl));go_wp2_with fail;refine Φ.q.mono ?_;rintro e2 Y2 ⟨⟨r2,rfl⟩,Ψ⟩;have k0:=L Ψ;clear Ψ v9 Φ;go_wp2_with fail;go_roundw
      case rel=>exact⟨j+1,by omega,by go_num,k0.q⟩
      case measure=>simp[M];omega
     .have k9:j=e.sn:=by omega
      have y0:=ι.q.len;have q1:Hid (iy J Jx C (aV h t z A E g u y) l f B h w c (mG h.e.a g (k+1) (t.drop (k+1))++κ) wr):=by
       have:=ο.q;rw[sG ah] at this;exact L this
      have y1:=γ.q.1.le;go_wp2_with fail;go_roundw
      case rel=>exact⟨k+1,by omega,by go_num,q1.q⟩
      case measure=>simp[M];omega
  .have j3:=(γ.q.1).len
   have α:Hid (iy J Jx C (aV h t z A E g u y) l f B h w c κ wr):=by
    have:=S;rw[sG ah] at this;exact L this
   have Z:wr.cell? ⟨B,0,G⟩=I (H (I ⟨f,0,G⟩)):=α.q.2.2.2.1.1 0;have β:wr.cell? ⟨f,5,G⟩=I (h.d.v):=α.q.2.2.1.1 5;clear ζ q9 S;go_wp2_with fail;clear Z β;rw[z5.q] at α
   go_loopw [100] (λi wr=>∃k:Nat,k<=h.d.n/\i= .int .i64 k/\iy J Jx C (aV h t z A E g u y) l f B h w c (pR h.d.a u k (z.drop k)++χ) wr) (λi _=>h.d.n - (M i).toNat)
   case atStart=>exact⟨0,aS _,rfl,α.q⟩
   case round=>
    obtain⟨k,hk,rfl,S⟩:=hrel;have HN:=L S;clear S;have z9:=(γ.q.2.1).le;by_cases δ:k<h.d.n
    .obtain⟨x,b,o,hx,ε,hc⟩:=(γ.q.2.1).at_ δ
     have HC:=L hc;have HX:=L hx;have R:=L ε;clear hx ε hc;have μ:z.drop k=x::z.drop (k+1):=by
      rw[jV (bq.1 HX.q).1,(bq.1 HX.q).2]
     have Z:wr.cell? ⟨B,0,G⟩=I (H (I ⟨f,0,G⟩)):=HN.q.2.2.2.1.1 0;have β:wr.cell? ⟨f,5,G⟩=I (O (I ⟨b,o,G⟩) h.d.n h.d.c):=(HN.q.2.2.1.1 5).trans abB;have ψ:Hid (iy J Jx C (aV h t z A E g u y) l f B h w c ((2,(⟨b,o+k*2,G⟩:N))::(kZ x.sa 0 (u x)++(pR h.d.a u (k+1) (z.drop (k+1))++χ))) wr):=by
      have:=HN.q;rw[μ,Jz R.q] at this;simp only[jl,fP] at this;exact L this
     clear μ;go_wp2_with fail;clear Z β;have m:=L (iy.drew HJ.q θ.q ψ.q);have F:=L (η.q 2 b (o+k*2) _ _ m.q);refine aD 0 [(0,1),(1,1),(2,1),(3,1),(4,1),(5,1),(6,1),(7,1),(8,2)] (λQ=>Bx Q (c.1.size+2) #[.func (.func 144) #[] #[H (I ⟨c.1.size+1,0,G⟩),H (I ⟨c.1.size,0,G⟩)]]/\Q.cell? ⟨B,0,G⟩=I (H (I ⟨f,0,G⟩))/\Q.cell? ⟨f,5,G⟩=I (O (I ⟨b,o,G⟩) h.d.n h.d.c)) (λ_=>True) au au (⟨m.q.fn,(m.q.2.2.2.1.1 0),((m.q.2.2.1.1 5).trans abB)⟩) U ?_;refine qC ?_;refine bA rfl rfl rfl (λK P=>?_);go_simp;refine F.q.mono ?_;rintro e1 Y ⟨⟨r,rfl⟩,q⟩;have T:=L q;refine P _ _ ⟨q.fn,(q.2.2.2.1.1 0),((q.2.2.1.1 5).trans abB)⟩ ?_;clear P K q F m;refine aH ?_;have Z:Y.cell? ⟨B,0,G⟩=I (H (I ⟨f,0,G⟩)):=T.q.2.2.2.1.1 0;have β:Y.cell? ⟨f,5,G⟩=I (O (I ⟨b,o,G⟩) h.d.n h.d.c):=(T.q.2.2.1.1 5).trans abB;have Ω:Y.cell? ⟨b,o+k*2+1,G⟩=I (O x.sa x.sn x.sc):=T.q.2.1 _ _ (q7.q b o R.q k δ) (HC.q 1 _ rfl);go_wp2_with fail;clear Z β Ω
     go_loopw [121] (λi wr=>∃j:Nat,j<=x.sn/\i= .int .i64 j/\iy J Jx C (aV h t z A E g u y) l f B h w c (kZ x.sa j ((u x).drop j)++(pR h.d.a u (k+1) (z.drop (k+1))++χ)) wr) (λi _=>x.sn - (M i).toNat)
     case atStart=>exact⟨0,aS _,rfl,T.q⟩
     case round=>
      obtain⟨j,hj,rfl,S⟩:=hrel;have ο:=L S;clear S;have ι:=L (γ.q.2.2.2.2.2.1 x (bS HX.q));have k3:=ι.q.le;by_cases Θ:j<x.sn
      .obtain⟨d,b2,o2,ζ,π,ρ⟩:=ι.q.at_ Θ
       have j2:=L ρ;have σ:=L ζ;have ω:=L π;clear ρ ζ π;have τ:(u x).drop j=d::(u x).drop (j+1):=by
        rw[jV (bq.1 σ.q).1,(bq.1 σ.q).2]
       have q0:Hid (iy J Jx C (aV h t z A E g u y) l f B h w c ((0,(⟨b2,o2+j,G⟩:N))::(kZ x.sa (j+1) ((u x).drop (j+1))++(pR h.d.a u (k+1) (z.drop (k+1))++χ))) wr):=by
        have:=ο.q;rw[τ,Eb ω.q] at this;simp only[jl] at this;exact L this
       clear τ;go_wp2_with fail;have m:=L (iy.drew HJ.q θ.q q0.q);have F:=L (η.q 0 b2 (o2+j) _ _ m.q);refine aD 0 [(0,1),(1,1),(2,1),(3,1),(4,1),(5,1),(6,1),(7,1),(8,1),(9,1),(10,1),(11,2)] (λQ=>Bx Q (c.1.size+2) #[.func (.func 144) #[] #[H (I ⟨c.1.size+1,0,G⟩),H (I ⟨c.1.size,0,G⟩)]]/\Q.cell? ⟨b,o+k*2+1,G⟩=I (O (I ⟨b2,o2,G⟩) x.sn x.sc)/\Q.cell? ⟨B,0,G⟩=I (H (I ⟨f,0,G⟩))/\Q.cell? ⟨f,5,G⟩=I (O (I ⟨b,o,G⟩) h.d.n h.d.c)) (λ_=>True) au au (⟨m.q.fn,m.q.2.1 _ _ (q7.q b o R.q k δ) (by rw[<-ω.q];exact HC.q 1 _ rfl),(m.q.2.2.2.1.1 0),((m.q.2.2.1.1 5).trans abB)⟩) U ?_;refine qC ?_;refine bA rfl rfl rfl (λK P=>?_);go_simp;refine F.q.mono ?_;rintro e1 Y ⟨⟨r,rfl⟩,q⟩;have Ξ:=L q;refine P _ _ ⟨q.fn,q.2.1 _ _ (q7.q b o R.q k δ) (by rw[<-ω.q];exact HC.q 1 _ rfl),(q.2.2.2.1.1 0),((q.2.2.1.1 5).trans abB)⟩ ?_;clear P K q F m;refine aH ?_;go_wp2_with fail;go_roundw
       case rel=>exact⟨j+1,by omega,by go_num,Ξ.q⟩
       case measure=>simp[M];omega
      .have k5:=ι.q.len
       have q1:Hid (iy J Jx C (aV h t z A E g u y) l f B h w c (pR h.d.a u (k+1) (z.drop (k+1))++χ) wr):=by
        have:=ο.q;rw[sG ah] at this;exact L this
       go_wp2_with fail;go_roundw
       case rel=>exact⟨k+1,by omega,by go_num,q1.q⟩
       case measure=>simp[M];omega
    .have j3:=(γ.q.2.1).len
     have α:Hid (iy J Jx C (aV h t z A E g u y) l f B h w c χ wr):=by
      have:=HN.q;rw[sG ah] at this;exact L this
     have Z:wr.cell? ⟨B,0,G⟩=I (H (I ⟨f,0,G⟩)):=α.q.2.2.2.1.1 0;have β:wr.cell? ⟨f,6,G⟩=I (h.m.v):=α.q.2.2.1.1 6;go_wp2_with fail;clear Z β;rw[z6.q] at α
     go_loopw [143] (λi wr=>∃k:Nat,k<=h.m.n/\i= .int .i64 k/\iy J Jx C (aV h t z A E g u y) l f B h w c (pQ h.m.a y k (A.drop k)++φ) wr) (λi _=>h.m.n - (M i).toNat)
     case atStart=>exact⟨0,aS _,rfl,α.q⟩
     case round=>
      obtain⟨k,hk,rfl,S⟩:=hrel;have HN:=L S;clear S;have z9:=(γ.q.2.2.1).le;by_cases δ:k<h.m.n
      .obtain⟨x,b,o,hx,ε,hc⟩:=(γ.q.2.2.1).at_ δ
       have HC:=L hc;have HX:=L hx;have R:=L ε;clear hx ε hc;have μ:A.drop k=x::A.drop (k+1):=by
        rw[jV (bq.1 HX.q).1,(bq.1 HX.q).2]
       have Z:wr.cell? ⟨B,0,G⟩=I (H (I ⟨f,0,G⟩)):=HN.q.2.2.2.1.1 0;have β:wr.cell? ⟨f,6,G⟩=I (O (I ⟨b,o,G⟩) h.m.n h.m.c):=(HN.q.2.2.1.1 6).trans abB;have ψ:Hid (iy J Jx C (aV h t z A E g u y) l f B h w c ((3,(⟨b,o+k*4,G⟩:N))::((2,(⟨b,o+k*4+1,G⟩:N))::(kZ x.sa 0 (y x)++(pQ h.m.a y (k+1) (A.drop (k+1))++φ)))) wr):=by
        have:=HN.q;rw[μ,JA R.q] at this;simp only[jl,fP] at this;exact L this
       clear μ;go_wp2_with fail;clear Z β;have m:=L (iy.drew HJ.q θ.q ψ.q);have F:=L (η.q 3 b (o+k*4) _ _ m.q);refine aD 0 [(0,1),(1,1),(2,1),(3,1),(4,2)] (λQ=>Bx Q (c.1.size+2) #[.func (.func 144) #[] #[H (I ⟨c.1.size+1,0,G⟩),H (I ⟨c.1.size,0,G⟩)]]) (λ_=>True) au au (m.q.fn) U ?_;refine qC ?_;refine bA rfl rfl rfl (λK P=>?_);go_simp;refine F.q.mono ?_;rintro e1 Y ⟨⟨r,rfl⟩,q⟩;have T:=L q;refine P _ _ q.fn ?_;clear P K q F m;refine aH ?_;go_wp2_with fail;have m:=L (iy.drew HJ.q θ.q T.q);have F:=L (η.q 2 b (o+k*4+1) _ _ m.q);refine aD 0 [(0,1),(1,1),(2,1),(3,1),(4,2)] (λQ=>Bx Q (c.1.size+2) #[.func (.func 144) #[] #[H (I ⟨c.1.size+1,0,G⟩),H (I ⟨c.1.size,0,G⟩)]]) (λ_=>True) au au (m.q.fn) U ?_;refine qC ?_;refine bA rfl rfl rfl (λK P=>?_);go_simp;refine F.q.mono ?_;rintro e1 Y ⟨⟨r,rfl⟩,q⟩;have ξ:=L q;refine P _ _ q.fn ?_;clear P K q F m;refine aH ?_;have Ω:Y.cell? ⟨b,o+k*4+3,G⟩=I (O x.sa x.sn x.sc):=ξ.q.2.1 _ _ (q8.q b o R.q k δ) (HC.q 3 _ rfl);go_wp2_with fail;clear Ω
       go_loopw [167] (λi wr=>∃j:Nat,j<=x.sn/\i= .int .i64 j/\iy J Jx C (aV h t z A E g u y) l f B h w c (kZ x.sa j ((y x).drop j)++(pQ h.m.a y (k+1) (A.drop (k+1))++φ)) wr) (λi _=>x.sn - (M i).toNat)
       case atStart=>exact⟨0,aS _,rfl,ξ.q⟩
       case round=>
        obtain⟨j,hj,rfl,S⟩:=hrel;have ο:=L S;clear S;have ι:=L (γ.q.2.2.2.2.2.2 x (bS HX.q));have k3:=ι.q.le;by_cases Θ:j<x.sn
        .obtain⟨d,b2,o2,ζ,π,ρ⟩:=ι.q.at_ Θ
         have j2:=L ρ;have σ:=L ζ;have ω:=L π;clear ρ ζ π;have τ:(y x).drop j=d::(y x).drop (j+1):=by
          rw[jV (bq.1 σ.q).1,(bq.1 σ.q).2]
         have q0:Hid (iy J Jx C (aV h t z A E g u y) l f B h w c ((0,(⟨b2,o2+j,G⟩:N))::(kZ x.sa (j+1) ((y x).drop (j+1))++(pQ h.m.a y (k+1) (A.drop (k+1))++φ))) wr):=by
          have:=ο.q;rw[τ,Eb ω.q] at this;simp only[jl] at this;exact L this
         clear τ;go_wp2_with fail;have m:=L (iy.drew HJ.q θ.q q0.q);have F:=L (η.q 0 b2 (o2+j) _ _ m.q);refine aD 0 [(0,1),(1,1),(2,1),(3,1),(4,1),(5,1),(6,1),(7,2)] (λQ=>Bx Q (c.1.size+2) #[.func (.func 144) #[] #[H (I ⟨c.1.size+1,0,G⟩),H (I ⟨c.1.size,0,G⟩)]]/\Q.cell? ⟨b,o+k*4+3,G⟩=I (O (I ⟨b2,o2,G⟩) x.sn x.sc)) (λ_=>True) au au (⟨m.q.fn,m.q.2.1 _ _ (q8.q b o R.q k δ) (by rw[<-ω.q];exact HC.q 3 _ rfl)⟩) U ?_;refine qC ?_;refine bA rfl rfl rfl (λK P=>?_);go_simp;refine F.q.mono ?_;rintro e1 Y ⟨⟨r,rfl⟩,q⟩;have Ξ:=L q;refine P _ _ ⟨q.fn,q.2.1 _ _ (q8.q b o R.q k δ) (by rw[<-ω.q];exact HC.q 3 _ rfl)⟩ ?_;clear P K q F m;refine aH ?_;go_wp2_with fail;go_roundw
         case rel=>exact⟨j+1,by omega,by go_num,Ξ.q⟩
         case measure=>simp[M];omega
        .have k5:=ι.q.len
         have q1:Hid (iy J Jx C (aV h t z A E g u y) l f B h w c (pQ h.m.a y (k+1) (A.drop (k+1))++φ) wr):=by
          have:=ο.q;rw[sG ah] at this;exact L this
         go_wp2_with fail;go_roundw
         case rel=>exact⟨k+1,by omega,by go_num,q1.q⟩
         case measure=>simp[M];omega
      .have j3:=(γ.q.2.2.1).len
       have α:Hid (iy J Jx C (aV h t z A E g u y) l f B h w c φ wr):=by
        have:=HN.q;rw[sG ah] at this;exact L this
       have Z:wr.cell? ⟨B,0,G⟩=I (H (I ⟨f,0,G⟩)):=α.q.2.2.2.1.1 0;have β:wr.cell? ⟨f,7,G⟩=I (h.w.v):=α.q.2.2.1.1 7;go_wp2_with fail;clear Z β;rw[z7.q] at α
       go_loopw [185] (λi wr=>∃k:Nat,k<=h.w.n/\i= .int .i64 k/\iy J Jx C (aV h t z A E g u y) l f B h w c (sH h.w.a k (E.drop k)++[]) wr) (λi _=>h.w.n - (M i).toNat)
       case atStart=>exact⟨0,aS _,rfl,α.q⟩
       case round=>
        obtain⟨k,hk,rfl,S⟩:=hrel;have HN:=L S;clear S;have z9:=(γ.q.2.2.2.1).le;by_cases δ:k<h.w.n
        .obtain⟨x,b,o,hx,ε,hc⟩:=(γ.q.2.2.2.1).at_ δ
         have HC:=L hc;have HX:=L hx;have R:=L ε;clear hx ε hc;have μ:E.drop k=x::E.drop (k+1):=by
          rw[jV (bq.1 HX.q).1,(bq.1 HX.q).2]
         have Z:wr.cell? ⟨B,0,G⟩=I (H (I ⟨f,0,G⟩)):=HN.q.2.2.2.1.1 0;have β:wr.cell? ⟨f,7,G⟩=I (O (I ⟨b,o,G⟩) h.w.n h.w.c):=(HN.q.2.2.1.1 7).trans abB;have ψ:Hid (iy J Jx C (aV h t z A E g u y) l f B h w c ((1,(⟨b,o+k*2,G⟩:N))::(sH h.w.a (k+1) (E.drop (k+1))++[])) wr):=by
          have:=HN.q;rw[μ,JB R.q] at this;simp only[jl] at this;exact L this
         clear μ;go_wp2_with fail;clear Z β;have m:=L (iy.drew HJ.q θ.q ψ.q);have F:=L (η.q 1 b (o+k*2) _ _ m.q);refine aD 0 [(0,1),(1,1),(2,1),(3,1),(4,1),(5,1),(6,1),(7,1),(8,2)] (λQ=>Bx Q (c.1.size+2) #[.func (.func 144) #[] #[H (I ⟨c.1.size+1,0,G⟩),H (I ⟨c.1.size,0,G⟩)]]/\Q.cell? ⟨B,0,G⟩=I (H (I ⟨f,0,G⟩))/\Q.cell? ⟨f,7,G⟩=I (O (I ⟨b,o,G⟩) h.w.n h.w.c)) (λ_=>True) au au (⟨m.q.fn,(m.q.2.2.2.1.1 0),((m.q.2.2.1.1 7).trans abB)⟩) U ?_;refine qC ?_;refine bA rfl rfl rfl (λK P=>?_);go_simp;refine F.q.mono ?_;rintro e1 Y ⟨⟨r,rfl⟩,q⟩;have T:=L q;refine P _ _ ⟨q.fn,(q.2.2.2.1.1 0),((q.2.2.1.1 7).trans abB)⟩ ?_;clear P K q F m;refine aH ?_;go_wp2_with fail;go_roundw
         case rel=>exact⟨k+1,by omega,by go_num,T.q⟩
         case measure=>simp[M];omega
        .have j3:=(γ.q.2.2.2.1).len
         have α:Hid (iy J Jx C (aV h t z A E g u y) l f B h w c [] wr):=by
          have:=HN.q;rw[sG ah] at this;exact L this
         go_wp2_with fail
         go_end0
         obtain⟨⟨q3,hp,a0,a2,a1⟩,_⟩:=α.q;rw[eG] at hp;refine⟨_,rfl,?_⟩;rcases a1 with⟨_,hj⟩|⟨_,p,k6,hj⟩
         .exact .inl (hp▸hj)
         .exact .inr ⟨p,k6,hj⟩
end Yd
