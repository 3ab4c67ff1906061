import Derived.Test.YtddiadcpokbpoabGreatDoorKIk
import Derived.Test.YtddiadcpokbpoabGreatDoorKSpoken2
set_option linter.all false
set_option maxRecDepth 200000
set_option maxHeartbeats 8000000
namespace Yd
open Option renaming none->C,some->G
open Go Go.RowKit Go.Proofs Tryz
open Go.Value renaming pointer->w,bool->H
attribute [local go_sem] Oper.semAt_some
section
variable (J Jx:List (Int × Addr)->World->Prop)(D:Nat->Prop)(xs:List (Int × Addr))(B l:Nat)
def Lh (a:List (Int × Addr))(X:World):Prop:=
 Bx X B #[.func (.yield l) #[] #[]]/\Bx X (B+2) #[.func (.func 78) #[] #[w (G ⟨B+1,0,C⟩),w (G ⟨B,0,C⟩)]]/\
 ((Bx X (B+1) #[H true]/\J a X)\/(Bx X (B+1) #[H false]/\∃p,p<+:xs/\Jx p X))
theorem Jw (R:∀s X Y,J s X->Same (λi=>i<B\/B+3<=i) X Y->J s Y)(E:∀s X Y,Jx s X->Same (λi=>i<B\/B+3<=i) X Y->Jx s Y)
  (g:∀i,B<=i->i<B+3->D i)
  (S:∀c x F X,J c X->c++[x]<+:xs->GD x F X->B+3<=X.1.size->∀m,YieldAt Fence.wide m Tryz.prog l F X λe Y=>
   (e= .returned (H true)/\J (c++[x]) Y/\bA D X Y)\/(e= .returned (H false)/\Jx (c++[x]) Y/\bA D X Y))
  (c:List (Int × Addr)) (s:Int) (b o:Nat) (X:World) (K:c++[(s,(⟨b,o,C⟩:Addr))]<+:xs) (T:Lh J Jx xs B l c X) (m:Nat):
  CallsIn Fence.wide m Tryz.prog 78 #[.int .i64 s,w (G ⟨b,o,C⟩),w (G ⟨B+1,0,C⟩),w (G ⟨B,0,C⟩)] X λe Y=>
   (∃v,e= .returned v)/\Lh J Jx xs B l (c++[(s,(⟨b,o,C⟩:Addr))]) Y/\bA (λi=>D i/\¬(B<=i/\i<B+3)) X Y:=by
 obtain⟨j,t,a⟩:=T;have δ:=j.1;have ε:=j.2.2;rcases a with⟨a,k⟩|⟨a,p,Z,k⟩
 .have u:=a.1;have α:=a.2.2
  obtain⟨fn,ζ,η,θ,hy,P⟩:=S c (s,(⟨b,o,C⟩:Addr)) #[.int .i64 s,w (G ⟨b,o,C⟩)] X k K rfl t.2.2 (m - 1);refine callsIn_of_wp func78 rfl trivial ?_ rfl;simp only[ntmps78,nK,dK,gY,Nat.reduceAdd,Nat.reduceSub,pE,pF,mJ,mK,fK,fA];have n:=hid j;have q:=hid t;have r:=hid a
  gi_wp2
  refine⟨λh=>(by cases h),?_⟩;refine P.mono ?_;clear P hy k;rintro e Y (⟨rfl,β,d⟩|⟨rfl,γ,d⟩)
  .have f:=d.bx r.q (g _ ah ah);have y:=d.bx n.q (g _ ah ah);have z:=d.bx q.q (g _ ah ah)
   have u:=f.1;have Q:=f.2.1
   gi_wp2
   go_end0
   exact⟨⟨_,rfl⟩,⟨y.setOther _ _ _ ah,z.setOther _ _ _ ah,.inl ⟨f.set1 _,R _ _ _ β (Same.setCell _ _ _ _ ah)⟩⟩,
    (d.mono (λi A _=>A.1)).trans (bA.setCell _ _ _ _ ah)⟩
  .have f:=d.bx r.q (g _ ah ah);have y:=d.bx n.q (g _ ah ah);have z:=d.bx q.q (g _ ah ah)
   have u:=f.1;have Q:=f.2.1
   gi_wp2
   go_end0
   exact⟨⟨_,rfl⟩,⟨y.setOther _ _ _ ah,z.setOther _ _ _ ah,.inr ⟨f.set1 _,_,K,E _ _ _ γ (Same.setCell _ _ _ _ ah)⟩⟩,
    (d.mono (λi A _=>A.1)).trans (bA.setCell _ _ _ _ ah)⟩
 .have u:=a.1;have α:=a.2.2;have Q:=a.2.1
  have n:=hid j;have q:=hid t;have r:=hid a;refine callsIn_of_wp func78 rfl trivial ?_ rfl;simp only[ntmps78,nK,dK,gY,Nat.reduceAdd,Nat.reduceSub,pE,pF,mJ,mK,fK,fA]
  gi_wp2
  refine⟨λ_ h=>(by cases h),?_⟩
  gi_wp2
  go_end0
  exact⟨⟨_,rfl⟩,⟨n.q.setOther _ _ _ ah,q.q.setOther _ _ _ ah,.inr ⟨r.q.set1 _,p,Z,E _ _ _ k (Same.setCell _ _ _ _ ah)⟩⟩,bA.setCell _ _ _ _ ah⟩
end
variable (J Jx:List (Int × Addr)->World->Prop)(D:Nat->Prop)(xs:List (Int × Addr))(B l:Nat)
def TG (J Jx:List (Int × Addr)->World->Prop)(D:Nat->Prop)(xs:List (Int × Addr))(B l:Nat)(a:List (Int × Addr))(X:World)(e:Ending)(Y:World):Prop:=
 (∃v,e= .returned v)/\Lh J Jx xs B l a Y/\bA (λi=>D i/\¬(B<=i/\i<B+3)) X Y
theorem Sq (n:∀s X Y,J s X->Same (λi=>i<B\/B+3<=i) X Y->J s Y)(q:∀s X Y,Jx s X->Same (λi=>i<B\/B+3<=i) X Y->Jx s Y)
  (E:∀i,B<=i->i<B+3->D i)
  (F:∀a x t X,J a X->a++[x]<+:xs->GD x t X->B+3<=X.1.size->∀m,YieldAt Fence.wide m Tryz.prog l t X λe Y=>
   (e= .returned (H true)/\J (a++[x]) Y/\bA D X Y)\/(e= .returned (H false)/\Jx (a++[x]) Y/\bA D X Y))
  (a:List (Int × Addr)) (v:kg) (b o:Nat) (X:World) (u:a++jO ⟨b,o,C⟩ v<+:xs) (c:Lh J Jx xs B l a X) (T:X.cell? ⟨b,o+1,C⟩=G (.int .i64 v.k)):
  Calls Tryz.prog 79 #[w (G ⟨b,o,C⟩),w (G ⟨B+2,0,C⟩)] X (TG J Jx D xs B l (a++jO ⟨b,o,C⟩ v) X):=by
 by_cases f:0<v.k
 .have g:jO ⟨b,o,C⟩ v=[(0,(⟨b,o,C⟩:Addr))]:=by simp[jO,f]
  rw[g] at u ⊢;have Z:=hid c;go_enter func79,ntmps79;go_wp2_with fail;have P:=c.2.1;have y:Lh J Jx xs B l a X.drew:=⟨c.1.drew,c.2.1.drew,by
   rcases c.2.2 with⟨j,k⟩|⟨j,p,Q,k⟩
   .exact .inl ⟨j.drew,n _ _ _ k (Same.of_below ((Below.refl X.1.size X).drew) (λi _ d=>d))⟩
   .exact .inr ⟨j.drew,p,Q,q _ _ _ k (Same.of_below ((Below.refl X.1.size X).drew) (λi _ d=>d))⟩⟩
  have R:=hid (callsIn_wide.1 (Jw J Jx D xs B l n q E F a 0 b o X.drew u y 3));clear y;refine aC 0 [(0,1),(1,1),(2,1),(3,1),(4,2)] (λS=>Bx S (B+2) #[.func (.func 78) #[] #[w (G ⟨B+1,0,C⟩),w (G ⟨B,0,C⟩)]]) (λ_=>True) ay ay (P.drew) trivial ?_;refine qC ?_;refine aW rfl rfl rfl (λK z=>?_);go_simp;refine R.q.mono ?_;rintro e Y ⟨⟨r,rfl⟩,A,f⟩;refine z _ _ A.2.1 ?_;clear z K;refine aO ?_;go_wp2_with fail
  go_end0
  exact⟨⟨_,rfl⟩,A,(bA.of_below ((Below.refl X.1.size X).drew) (λi _ d=>d)).trans f⟩
 .have g:jO ⟨b,o,C⟩ v=[]:=by simp[jO,f]
  rw[g,dm];go_enter func79,ntmps79;go_wp2_with fail
  go_end0
  exact⟨⟨_,rfl⟩,c,bA.refl _⟩
end Yd
namespace Yd
open Option renaming none->B,some->H
open Go Go.RowKit Go.Proofs
open Go renaming Addr->M
open Go.Obj renaming cells->V
open Go.Value renaming pointer->G,slice->N
open RowKit renaming intOf->L
open Yd renaming hid->I
open _root_ renaming trivial->O,List->U
def iZ (J Jx:U (Int × M)->World->Prop)(C:M->Prop)(xs:U (Int × M))(l a c:Nat)(d:HC)(w W:World)(rest:U (Int × M))(X:World):Prop:=
 (∃b,b++rest=xs/\Lh J Jx xs W.1.size l b X)/\qh C w X/\Bx X a (aD d)/\Bx X c #[G (H ⟨a,0,B⟩)]/\w.1.size<=X.1.size
section
variable {J Jx:U (Int × M)->World->Prop}{C:M->Prop}{D:Nat->Prop}{xs:U (Int × M)}{l bh bp:Nat}{h:HC}{w W:World}
variable{rest:U (Int × M)}{X:World}
theorem iZ.step {a:U (Int × M)}{Y:World}{e:Ending}(f:qh C w X/\Bx X bh (aD h)/\Bx X bp #[G (H ⟨bh,0,B⟩)]/\w.1.size<=X.1.size)(g:∀s X,J s X->qh C w X)(i:∀s X,Jx s X->qh C w X)(j:TG J Jx D xs W.1.size l a X e Y)(k:a++rest=xs)
  (m:D bh) (n:D bp) (t:bh<W.1.size) (u:bp<W.1.size):iZ J Jx C xs l bh bp h w W rest Y:=by
 obtain⟨_,o,q,r⟩:=f;obtain⟨_,d,b⟩:=j;exact⟨⟨a,k,d⟩,(by rcases d.2.2 with⟨_,c⟩|⟨_,p,_,c⟩;exact g _ _ c;exact i _ _ c),b.bx o ⟨m,by omega⟩,b.bx q ⟨n,by omega⟩,bI r b.1⟩
theorem iZ.fn (a:iZ J Jx C xs l bh bp h w W rest X):Bx X (W.1.size+2) #[.func (.func 78) #[] #[G (H ⟨W.1.size+1,0,B⟩),G (H ⟨W.1.size,0,B⟩)]]:=by
 obtain⟨⟨c,d,e,b,f⟩,_⟩:=a;exact b
theorem iZ.drew (d:∀s X Y,J s X->Same (λi=>i<W.1.size\/W.1.size+3<=i) X Y->J s Y)(e:∀s X Y,Jx s X->Same (λi=>i<W.1.size\/W.1.size+3<=i) X Y->Jx s Y)
  (f:iZ J Jx C xs l bh bp h w W rest X):iZ J Jx C xs l bh bp h w W rest X.drew:=by
 obtain⟨⟨g,j,k,m,n⟩,o,q,r,t⟩:=f;refine⟨⟨g,j,k.drew,m.drew,?_⟩,o,q.drew,r.drew,t⟩;rcases n with⟨a,b⟩|⟨a,p,u,b⟩
 .exact .inl ⟨a.drew,d _ _ _ b (Same.of_below ((Below.refl X.1.size X).drew) (λi _ c=>c))⟩
 .exact .inr ⟨a.drew,p,u,e _ _ _ b (Same.of_below ((Below.refl X.1.size X).drew) (λi _ c=>c))⟩
end
theorem AX (h:HC)(es:U EvC)(u:U aG)(y:U aK)(A:U Wa)(f:EvC->U Sn)(q:aG->U Int)(t:aK->U Int)(c z:Nat)(D:Nat->Prop)(C:M->Prop)(w W:World)
  (hd:Deep w h es u y A f q t) (hH:Bx W c (aD h)) (hP:Bx W z #[G (H ⟨c,0,B⟩)]) (υ:qh C w W) (v0:w.1.size<=W.1.size) (j4:D c) (j5:D z)
  (j6:∀b o,h.e.a=H ⟨b,o,B⟩->∀k,k<h.e.n->∀j,j=0\/j=6\/j=8->C ⟨b,o+k*9+j,B⟩) (j7:∀e∈es,∀b o,e.sa=H ⟨b,o,B⟩->∀j,j<e.sn->C ⟨b,o+j*3+2,B⟩)
  (j8:∀b o,h.d.a=H ⟨b,o,B⟩->∀k,k<h.d.n->C ⟨b,o+k*2+1,B⟩) (j9:∀b o,h.m.a=H ⟨b,o,B⟩->∀k,k<h.m.n->C ⟨b,o+k*4+3,B⟩)
  (z0:∀i,W.1.size<=i->i<W.1.size+3->D i):
  GI Tryz.prog 77 #[G (H ⟨z,0,B⟩)] GD 3 D (qh C w) (aU h es u y A f q t) W:=by
 intro n l J Jx hJ q2 hR q4 hY h0;refine callsIn_wide.2 ?_;have η:Hid (∀(s:Int)(b o:Nat) ν X,iZ J Jx C (aU h es u y A f q t) l c z h w W ((s,(⟨b,o,B⟩:M))::ν) X->
   Calls Tryz.prog 78 #[.int .i64 s,G (H ⟨b,o,B⟩),G (H ⟨W.1.size+1,0,B⟩),G (H ⟨W.1.size,0,B⟩)] X λe Y=>(∃v,e= .returned v)/\iZ J Jx C (aU h es u y A f q t) l c z h w W ν Y):=I λs b o ν X hX=>by
  obtain⟨⟨q3,hp,hA⟩,υ⟩:=hX;refine(callsIn_wide.1 (Jw J Jx D (aU h es u y A f q t) W.1.size l hJ q2 z0 hY q3 s b o X ⟨ν,by rw[<-hp];simp⟩ hA 3)).mono ?_;exact λe Y hs=>⟨hs.1,iZ.step υ hR q4 hs (by rw[<-hp];simp) j4 j5 hH.2.2 hP.2.2⟩
 have z1:Hid (∀(v:kg) ν b o X,iZ J Jx C (aU h es u y A f q t) l c z h w W (jO ⟨b,o,B⟩ v++ν) X->C ⟨b,o+1,B⟩->w.cell? ⟨b,o+1,B⟩=H (.int .i64 v.k)->
   Calls Tryz.prog 79 #[G (H ⟨b,o,B⟩),G (H ⟨W.1.size+2,0,B⟩)] X λe Y=>(∃v,e= .returned v)/\iZ J Jx C (aU h es u y A f q t) l c z h w W ν Y):=I λv ν b o X hX v1 v2=>by
  obtain⟨⟨q3,hp,hA⟩,υ⟩:=hX;refine(Sq J Jx D (aU h es u y A f q t) W.1.size l hJ q2 z0 hY q3 v b o X ⟨ν,by rw[<-hp];simp⟩ hA (υ.1 _ _ v1 v2)).mono ?_;exact λe Y hs=>⟨hs.1,iZ.step υ hR q4 hs (by rw[<-hp];simp) j4 j5 hH.2.2 hP.2.2⟩
 have Γ:Below W.1.size W (((W.alloc (V #[.func (.yield l) #[] #[]] 147)).alloc (V #[.bool true] 4)).alloc (V #[.func (.func 78) #[] #[G (H ⟨W.1.size+1,0,B⟩),G (H ⟨W.1.size,0,B⟩)]] 148)):=
  (((Below.refl _ _).alloc (aB _) _).alloc ak _).alloc (by simp;omega) _
 go_enter Tryz.func77,Tryz.ntmps77;have q5:=hP.keep Γ;have q6:=hH.keep Γ;have T:=q5.1;have β:=q6.1;have v3:Hid (iZ J Jx C (aU h es u y A f q t) l c z h w W (aU h es u y A f q t) (((W.alloc (V #[.func (.yield l) #[] #[]] 147)).alloc (V #[.bool true] 4)).alloc (V #[.func (.func 78) #[] #[G (H ⟨W.1.size+1,0,B⟩),G (H ⟨W.1.size,0,B⟩)]] 148))):=by
  refine⟨⟨[],rfl,((Bx.new W _ _).alloc _).alloc _,?_,.inl ⟨?_,hJ _ _ _ h0 (Same.of_below Γ (λi _ hi=>hi))⟩⟩,λa v v4 hc=>?_,q6,q5,bI v0 Γ.size⟩
  .have:=Bx.new ((W.alloc (V #[.func (.yield l) #[] #[]] 147)).alloc (V #[.bool true] 4)) #[.func (.func 78) #[] #[G (H ⟨W.1.size+1,0,B⟩),G (H ⟨W.1.size,0,B⟩)]] 148
   simpa using this
  .have:=(Bx.new (W.alloc (V #[.func (.yield l) #[] #[]] 147)) #[.bool true] 4).alloc (V #[.func (.func 78) #[] #[G (H ⟨W.1.size+1,0,B⟩),G (H ⟨W.1.size,0,B⟩)]] 148)
   simpa using this
  .have h1:=υ a v v4 hc
   exact(Γ.cell (p:=a) (dQ h1)).trans h1
 go_wp2_with fail;have γ:=I hd;have v5:=I j6;have v6:=I j7;have q7:=I j8;have q8:=I j9;clear j6 j7 j8 j9 hR q4 υ;clear Γ q5 q6 T β hY h0 hd;obtain⟨φ,z2⟩:∃r,r=tT h.w.a 0 A++[]:=⟨_,rfl⟩;obtain⟨χ,z3⟩:∃r,r=qI h.m.a t 0 y++φ:=⟨_,rfl⟩;obtain⟨κ,z4⟩:∃r,r=qH h.d.a q 0 u++χ:=⟨_,rfl⟩;have z5:=I z4;have z6:=I z3;have z7:=I z2;have HJ:=I hJ;have θ:=I q2;clear z4 z3 z2 hJ q2
 go_loopw [22] (λi wr=>∃k:Nat,k<=h.e.n/\i= .int .i64 k/\iZ J Jx C (aU h es u y A f q t) l c z h w W (nY h.e.a f k (es.drop k)++κ) wr) (λi _=>h.e.n - (L i).toNat)
 case atStart=>exact⟨0,bn _,rfl,by rw[z5.q,z6.q,z7.q,dm];exact v3.q⟩
 case round=>
  obtain⟨k,hk,rfl,R⟩:=hrel;have ζ:=R.2.2.1;have q9:=R.2.2.2.1;have T:=q9.1;by_cases δ:k<h.e.n
  .obtain⟨e,b,o,hx,ε,hc⟩:=γ.q.1.at_ δ
   have k7:wr.cell? ⟨c,4,B⟩=H (N (H ⟨b,o,B⟩) h.e.n h.e.c):=by rw[ζ.1 4,<-ε];rfl
   have HC:=I hc;have HX:=I hx;have Z:=I R;have v7:=I ε;have Δ:=I (v5.q b o ε k δ);clear ζ q9 R hc hx ε;go_wp2_with fail;have μ:es.drop k=e::es.drop (k+1):=by
    rw[lW (bK.1 HX.q).1,(bK.1 HX.q).2]
   have ψ:Hid (iZ J Jx C (aU h es u y A f q t) l c z h w W ((0,(⟨b,o+k*9+1,B⟩:M))::((if e.kind=1 then [(1,(⟨b,o+k*9+2,B⟩:M))] else if e.kind=2\/e.kind=3 then(2,(⟨b,o+k*9+4,B⟩:M))::jO ⟨b,o+k*9+5,B⟩ e.v else if e.kind=4 then [(3,(⟨b,o+k*9+7,B⟩:M))] else [])++(oQ e.sa 0 (f e)++(nY h.e.a f (k+1) (es.drop (k+1))++κ)))) wr):=by
    have:=Z.q;rw[μ,Mw v7.q] at this;simp only[fA,dw] at this;exact I this
   have g:=I (iZ.drew HJ.q θ.q ψ.q);have E:=I (η.q 0 b (o+k*9+1) _ _ g.q);refine aC 0 [(0,1),(1,1),(2,1),(3,1),(4,2)] (λP=>Bx P (W.1.size+2) #[.func (.func 78) #[] #[G (H ⟨W.1.size+1,0,B⟩),G (H ⟨W.1.size,0,B⟩)]]) (λ_=>True) ay ay (g.q.fn) O ?_;refine qC ?_;refine aW rfl rfl rfl (λK F=>?_);go_simp;refine E.q.mono ?_;rintro e1 Y ⟨⟨r,rfl⟩,m⟩;have S:=I m;refine F _ _ m.fn ?_;clear F K m E g;refine aO ?_;have j0:Y.cell? ⟨b,o+k*9,B⟩=H (.int .i64 e.kind):=S.q.2.1 _ _ (Δ.q 0 (.inl rfl)) (HC.q 0 _ rfl);by_cases k1:e.kind=1
   case' pos=>
    rw[k1] at j0;have z8:=S;clear S;have S:=I (show iZ J Jx C (aU h es u y A f q t) l c z h w W ((1,(⟨b,o+k*9+2,B⟩:M))::(oQ e.sa 0 (f e)++(nY h.e.a f (k+1) (es.drop (k+1))++κ))) Y by have:=z8.q;rw[av k1] at this;exact this);clear z8;go_wp2_with fail;have g:=I (iZ.drew HJ.q θ.q S.q);have E:=I (η.q 1 b (o+k*9+2) _ _ g.q);refine aC 0 [(0,1),(1,1),(2,1),(3,1),(4,2)] (λP=>Bx P (W.1.size+2) #[.func (.func 78) #[] #[G (H ⟨W.1.size+1,0,B⟩),G (H ⟨W.1.size,0,B⟩)]]) (λ_=>True) ay ay (g.q.fn) O ?_;refine qC ?_;refine aW rfl rfl rfl (λK F=>?_);go_simp;refine E.q.mono ?_;rintro e1 Y ⟨⟨r,rfl⟩,m⟩;have ξ:=I m;refine F _ _ m.fn ?_;clear F K m E g;refine aO ?_
   case' neg=>
    by_cases k2:e.kind=2\/e.kind=3
    case' pos=>
     rcases k2 with kk|kk
     all_goals
      rw[kk] at j0;have j1:=I (show iZ J Jx C (aU h es u y A f q t) l c z h w W ((2,(⟨b,o+k*9+4,B⟩:M))::(jO ⟨b,o+k*9+5,B⟩ e.v++(oQ e.sa 0 (f e)++(nY h.e.a f (k+1) (es.drop (k+1))++κ)))) Y by have:=S.q;rw[au k1,av ah] at this;simp only[fA,dw] at this;exact this);clear S;go_wp2_with fail;have g:=I (iZ.drew HJ.q θ.q j1.q);have E:=I (η.q 2 b (o+k*9+4) _ _ g.q);refine aC 0 [(0,1),(1,1),(2,1),(3,1),(4,2)] (λP=>Bx P (W.1.size+2) #[.func (.func 78) #[] #[G (H ⟨W.1.size+1,0,B⟩),G (H ⟨W.1.size,0,B⟩)]]) (λ_=>True) ay ay (g.q.fn) O ?_;refine qC ?_;refine aW rfl rfl rfl (λK F=>?_);go_simp;refine E.q.mono ?_;rintro e1 Y ⟨⟨r,rfl⟩,m⟩;have v8:=I m;refine F _ _ m.fn ?_;clear F K m E g;refine aO ?_;have Φ:=I (z1.q e.v _ b (o+k*9+5) Y v8.q (Δ.q 6 (.inr (.inl rfl))) (HC.q 6 _ rfl));go_wp2_with fail;refine Φ.q.mono ?_;rintro e2 Y2 ⟨⟨r2,rfl⟩,Ψ⟩;obtain⟨Y,rfl⟩:∃Y,Y=Y2:=⟨_,rfl⟩;have ξ:=I Ψ;clear Ψ Φ
    case' neg=>
     by_cases k4:e.kind=4
     case' pos=>
      rw[k4] at j0;have j1:=I (show iZ J Jx C (aU h es u y A f q t) l c z h w W ((3,(⟨b,o+k*9+7,B⟩:M))::(oQ e.sa 0 (f e)++(nY h.e.a f (k+1) (es.drop (k+1))++κ))) Y by have:=S.q;rw[au k1,au ah,av k4] at this;exact this);clear S;go_wp2_with fail;have g:=I (iZ.drew HJ.q θ.q j1.q);have E:=I (η.q 3 b (o+k*9+7) _ _ g.q);refine aC 0 [(0,1),(1,1),(2,1),(3,1),(4,2)] (λP=>Bx P (W.1.size+2) #[.func (.func 78) #[] #[G (H ⟨W.1.size+1,0,B⟩),G (H ⟨W.1.size,0,B⟩)]]) (λ_=>True) ay ay (g.q.fn) O ?_;refine qC ?_;refine aW rfl rfl rfl (λK F=>?_);go_simp;refine E.q.mono ?_;rintro e1 Y ⟨⟨r,rfl⟩,m⟩;have ξ:=I m;refine F _ _ m.fn ?_;clear F K m E g;refine aO ?_
     case' neg=>
      have ξ:=I (show iZ J Jx C (aU h es u y A f q t) l c z h w W (oQ e.sa 0 (f e)++(nY h.e.a f (k+1) (es.drop (k+1))++κ)) Y by have:=S.q;rw[au k1,au ah,au k4] at this;exact this);clear S;have n1:(e.kind==1)=false:=aX.2 k1;have n2:(e.kind==2)=false:=aX.2 ah;have n3:(e.kind==3)=false:=aX.2 ah;have n4:(e.kind==4)=false:=aX.2 k4
   all_goals
    have Ω:Y.cell? ⟨b,o+k*9+8,B⟩=H (N e.sa e.sn e.sc):=ξ.q.2.1 _ _ (Δ.q 8 (.inr (.inr rfl))) (HC.q 8 _ rfl);go_wp2_with fail;clear Ω
    go_loopw [72] (λi wr=>∃j:Nat,j<=e.sn/\i= .int .i64 j/\iZ J Jx C (aU h es u y A f q t) l c z h w W (oQ e.sa j ((f e).drop j)++(nY h.e.a f (k+1) (es.drop (k+1))++κ)) wr) (λi _=>e.sn - (L i).toNat)
    case atStart=>exact⟨0,bn _,rfl,ξ.q⟩
    case round=>
     obtain⟨j,hj,rfl,R⟩:=hrel;have ο:=I R;clear R;have ι:=I (γ.q.2.2.2.2.1 e (dA HX.q));have k8:=ι.q.le;by_cases Θ:j<e.sn
     .obtain⟨s2,b2,o2,ζ,π,ρ⟩:=ι.q.at_ Θ
      have j2:=I ρ;have σ:=I ζ;have Q:=I π;clear ρ ζ π;have τ:(f e).drop j=s2::(f e).drop (j+1):=by
       rw[lW (bK.1 σ.q).1,(bK.1 σ.q).2]
      have q0:Hid (iZ J Jx C (aU h es u y A f q t) l c z h w W ((2,(⟨b2,o2+j*3,B⟩:M))::(jO ⟨b2,o2+j*3+1,B⟩ s2.v++(oQ e.sa (j+1) ((f e).drop (j+1))++(nY h.e.a f (k+1) (es.drop (k+1))++κ)))) wr):=by
       have:=ο.q;rw[τ,O5 Q.q] at this;simp only[fA,dw] at this;exact I this
      clear τ;go_wp2_with fail;have g:=I (iZ.drew HJ.q θ.q q0.q);have E:=I (η.q 2 b2 (o2+j*3) _ _ g.q);refine aC 0 [(0,1),(1,1),(2,1),(3,1),(4,1),(5,1),(6,1),(7,1),(8,2)] (λP=>Bx P (W.1.size+2) #[.func (.func 78) #[] #[G (H ⟨W.1.size+1,0,B⟩),G (H ⟨W.1.size,0,B⟩)]]/\P.cell? ⟨b,o+k*9+8,B⟩=H (N (H ⟨b2,o2,B⟩) e.sn e.sc)) (λ_=>True) ay ay (⟨g.q.fn,g.q.2.1 _ _ (Δ.q 8 (.inr (.inr rfl))) (by rw[<-Q.q];exact HC.q 8 _ rfl)⟩) O ?_;refine qC ?_;refine aW rfl rfl rfl (λK F=>?_);go_simp;refine E.q.mono ?_;rintro e1 Y ⟨⟨r,rfl⟩,m⟩;have Ξ:=I m;refine F _ _ ⟨m.fn,m.2.1 _ _ (Δ.q 8 (.inr (.inr rfl))) (by rw[<-Q.q];exact HC.q 8 _ rfl)⟩ ?_;clear F K m E g;refine aO ?_;have v9:Y.cell? ⟨b,o+k*9+8,B⟩=H (N (H ⟨b2,o2,B⟩) e.sn e.sc):=Ξ.q.2.1 _ _ (Δ.q 8 (.inr (.inr rfl))) (by rw[<-Q.q];exact HC.q 8 _ rfl);have Φ:=I (z1.q s2.v _ b2 (o2+j*3+1) Y Ξ.q (v6.q e (dA HX.q) b2 o2 Q.q j Θ) (j2.q 2 _ rfl));go_wp2_with fail;refine Φ.q.mono ?_;rintro e2 Y2 ⟨⟨r2,rfl⟩,Ψ⟩;have k0:=I Ψ;clear Ψ v9 Φ;go_wp2_with fail;go_roundw
      case rel=>exact⟨j+1,by omega,by go_num,k0.q⟩
      case measure=>simp[L];omega
     .have k9:j=e.sn:=by omega
      have y0:=ι.q.len;have q1:Hid (iZ J Jx C (aU h es u y A f q t) l c z h w W (nY h.e.a f (k+1) (es.drop (k+1))++κ) wr):=by
       have:=ο.q;rw[pU ah] at this;exact I this
      have y1:=γ.q.1.le;go_wp2_with fail;go_roundw
      case rel=>exact⟨k+1,by omega,by go_num,q1.q⟩
      case measure=>simp[L];omega
  .have j3:=(γ.q.1).len
   have α:Hid (iZ J Jx C (aU h es u y A f q t) l c z h w W κ wr):=by
    have:=R;rw[pU ah] at this;exact I this
   have T:wr.cell? ⟨z,0,B⟩=H (G (H ⟨c,0,B⟩)):=α.q.2.2.2.1.1 0;have β:wr.cell? ⟨c,5,B⟩=H (h.d.v):=α.q.2.2.1.1 5;clear ζ q9 R;go_wp2_with fail;clear T β;rw[z5.q] at α
   go_loopw [100] (λi wr=>∃k:Nat,k<=h.d.n/\i= .int .i64 k/\iZ J Jx C (aU h es u y A f q t) l c z h w W (qH h.d.a q k (u.drop k)++χ) wr) (λi _=>h.d.n - (L i).toNat)
   case atStart=>exact⟨0,bn _,rfl,α.q⟩
   case round=>
    obtain⟨k,hk,rfl,R⟩:=hrel;have Z:=I R;clear R;have z9:=(γ.q.2.1).le;by_cases δ:k<h.d.n
    .obtain⟨x,b,o,hx,ε,hc⟩:=(γ.q.2.1).at_ δ
     have HC:=I hc;have HX:=I hx;have Q:=I ε;clear hx ε hc;have μ:u.drop k=x::u.drop (k+1):=by
      rw[lW (bK.1 HX.q).1,(bK.1 HX.q).2]
     have T:wr.cell? ⟨z,0,B⟩=H (G (H ⟨c,0,B⟩)):=Z.q.2.2.2.1.1 0;have β:wr.cell? ⟨c,5,B⟩=H (N (H ⟨b,o,B⟩) h.d.n h.d.c):=(Z.q.2.2.1.1 5).trans (by rw[<-Q.q];rfl);have ψ:Hid (iZ J Jx C (aU h es u y A f q t) l c z h w W ((2,(⟨b,o+k*2,B⟩:M))::(mh x.sa 0 (q x)++(qH h.d.a q (k+1) (u.drop (k+1))++χ))) wr):=by
      have:=Z.q;rw[μ,Mx Q.q] at this;simp only[fA,dw] at this;exact I this
     clear μ;go_wp2_with fail;clear T β;have g:=I (iZ.drew HJ.q θ.q ψ.q);have E:=I (η.q 2 b (o+k*2) _ _ g.q);refine aC 0 [(0,1),(1,1),(2,1),(3,1),(4,1),(5,1),(6,1),(7,1),(8,2)] (λP=>Bx P (W.1.size+2) #[.func (.func 78) #[] #[G (H ⟨W.1.size+1,0,B⟩),G (H ⟨W.1.size,0,B⟩)]]/\P.cell? ⟨z,0,B⟩=H (G (H ⟨c,0,B⟩))/\P.cell? ⟨c,5,B⟩=H (N (H ⟨b,o,B⟩) h.d.n h.d.c)) (λ_=>True) ay ay (⟨g.q.fn,(g.q.2.2.2.1.1 0),((g.q.2.2.1.1 5).trans (by rw[<-Q.q];rfl))⟩) O ?_;refine qC ?_;refine aW rfl rfl rfl (λK F=>?_);go_simp;refine E.q.mono ?_;rintro e1 Y ⟨⟨r,rfl⟩,m⟩;have S:=I m;refine F _ _ ⟨m.fn,(m.2.2.2.1.1 0),((m.2.2.1.1 5).trans (by rw[<-Q.q];rfl))⟩ ?_;clear F K m E g;refine aO ?_;have T:Y.cell? ⟨z,0,B⟩=H (G (H ⟨c,0,B⟩)):=S.q.2.2.2.1.1 0;have β:Y.cell? ⟨c,5,B⟩=H (N (H ⟨b,o,B⟩) h.d.n h.d.c):=(S.q.2.2.1.1 5).trans (by rw[<-Q.q];rfl);have Ω:Y.cell? ⟨b,o+k*2+1,B⟩=H (N x.sa x.sn x.sc):=S.q.2.1 _ _ (q7.q b o Q.q k δ) (HC.q 1 _ rfl);go_wp2_with fail;clear T β Ω
     go_loopw [121] (λi wr=>∃j:Nat,j<=x.sn/\i= .int .i64 j/\iZ J Jx C (aU h es u y A f q t) l c z h w W (mh x.sa j ((q x).drop j)++(qH h.d.a q (k+1) (u.drop (k+1))++χ)) wr) (λi _=>x.sn - (L i).toNat)
     case atStart=>exact⟨0,bn _,rfl,S.q⟩
     case round=>
      obtain⟨j,hj,rfl,R⟩:=hrel;have ο:=I R;clear R;have ι:=I (γ.q.2.2.2.2.2.1 x (dA HX.q));have k3:=ι.q.le;by_cases Θ:j<x.sn
      .obtain⟨d,b2,o2,ζ,π,ρ⟩:=ι.q.at_ Θ
       have j2:=I ρ;have σ:=I ζ;have ω:=I π;clear ρ ζ π;have τ:(q x).drop j=d::(q x).drop (j+1):=by
        rw[lW (bK.1 σ.q).1,(bK.1 σ.q).2]
       have q0:Hid (iZ J Jx C (aU h es u y A f q t) l c z h w W ((0,(⟨b2,o2+j,B⟩:M))::(mh x.sa (j+1) ((q x).drop (j+1))++(qH h.d.a q (k+1) (u.drop (k+1))++χ))) wr):=by
        have:=ο.q;rw[τ,FQ ω.q] at this;simp only[fA] at this;exact I this
       clear τ;go_wp2_with fail;have g:=I (iZ.drew HJ.q θ.q q0.q);have E:=I (η.q 0 b2 (o2+j) _ _ g.q);refine aC 0 [(0,1),(1,1),(2,1),(3,1),(4,1),(5,1),(6,1),(7,1),(8,1),(9,1),(10,1),(11,2)] (λP=>Bx P (W.1.size+2) #[.func (.func 78) #[] #[G (H ⟨W.1.size+1,0,B⟩),G (H ⟨W.1.size,0,B⟩)]]/\P.cell? ⟨b,o+k*2+1,B⟩=H (N (H ⟨b2,o2,B⟩) x.sn x.sc)/\P.cell? ⟨z,0,B⟩=H (G (H ⟨c,0,B⟩))/\P.cell? ⟨c,5,B⟩=H (N (H ⟨b,o,B⟩) h.d.n h.d.c)) (λ_=>True) ay ay (⟨g.q.fn,g.q.2.1 _ _ (q7.q b o Q.q k δ) (by rw[<-ω.q];exact HC.q 1 _ rfl),(g.q.2.2.2.1.1 0),((g.q.2.2.1.1 5).trans (by rw[<-Q.q];rfl))⟩) O ?_;refine qC ?_;refine aW rfl rfl rfl (λK F=>?_);go_simp;refine E.q.mono ?_;rintro e1 Y ⟨⟨r,rfl⟩,m⟩;have Ξ:=I m;refine F _ _ ⟨m.fn,m.2.1 _ _ (q7.q b o Q.q k δ) (by rw[<-ω.q];exact HC.q 1 _ rfl),(m.2.2.2.1.1 0),((m.2.2.1.1 5).trans (by rw[<-Q.q];rfl))⟩ ?_;clear F K m E g;refine aO ?_;go_wp2_with fail;go_roundw
       case rel=>exact⟨j+1,by omega,by go_num,Ξ.q⟩
       case measure=>simp[L];omega
      .have k5:=ι.q.len
       have q1:Hid (iZ J Jx C (aU h es u y A f q t) l c z h w W (qH h.d.a q (k+1) (u.drop (k+1))++χ) wr):=by
        have:=ο.q;rw[pU ah] at this;exact I this
       go_wp2_with fail;go_roundw
       case rel=>exact⟨k+1,by omega,by go_num,q1.q⟩
       case measure=>simp[L];omega
    .have j3:=(γ.q.2.1).len
     have α:Hid (iZ J Jx C (aU h es u y A f q t) l c z h w W χ wr):=by
      have:=Z.q;rw[pU ah] at this;exact I this
     have T:wr.cell? ⟨z,0,B⟩=H (G (H ⟨c,0,B⟩)):=α.q.2.2.2.1.1 0;have β:wr.cell? ⟨c,6,B⟩=H (h.m.v):=α.q.2.2.1.1 6;go_wp2_with fail;clear T β;rw[z6.q] at α
     go_loopw [143] (λi wr=>∃k:Nat,k<=h.m.n/\i= .int .i64 k/\iZ J Jx C (aU h es u y A f q t) l c z h w W (qI h.m.a t k (y.drop k)++φ) wr) (λi _=>h.m.n - (L i).toNat)
     case atStart=>exact⟨0,bn _,rfl,α.q⟩
     case round=>
      obtain⟨k,hk,rfl,R⟩:=hrel;have Z:=I R;clear R;have z9:=(γ.q.2.2.1).le;by_cases δ:k<h.m.n
      .obtain⟨x,b,o,hx,ε,hc⟩:=(γ.q.2.2.1).at_ δ
       have HC:=I hc;have HX:=I hx;have Q:=I ε;clear hx ε hc;have μ:y.drop k=x::y.drop (k+1):=by
        rw[lW (bK.1 HX.q).1,(bK.1 HX.q).2]
       have T:wr.cell? ⟨z,0,B⟩=H (G (H ⟨c,0,B⟩)):=Z.q.2.2.2.1.1 0;have β:wr.cell? ⟨c,6,B⟩=H (N (H ⟨b,o,B⟩) h.m.n h.m.c):=(Z.q.2.2.1.1 6).trans (by rw[<-Q.q];rfl);have ψ:Hid (iZ J Jx C (aU h es u y A f q t) l c z h w W ((3,(⟨b,o+k*4,B⟩:M))::((2,(⟨b,o+k*4+1,B⟩:M))::(mh x.sa 0 (t x)++(qI h.m.a t (k+1) (y.drop (k+1))++φ)))) wr):=by
        have:=Z.q;rw[μ,MB Q.q] at this;simp only[fA,dw] at this;exact I this
       clear μ;go_wp2_with fail;clear T β;have g:=I (iZ.drew HJ.q θ.q ψ.q);have E:=I (η.q 3 b (o+k*4) _ _ g.q);refine aC 0 [(0,1),(1,1),(2,1),(3,1),(4,2)] (λP=>Bx P (W.1.size+2) #[.func (.func 78) #[] #[G (H ⟨W.1.size+1,0,B⟩),G (H ⟨W.1.size,0,B⟩)]]) (λ_=>True) ay ay (g.q.fn) O ?_;refine qC ?_;refine aW rfl rfl rfl (λK F=>?_);go_simp;refine E.q.mono ?_;rintro e1 Y ⟨⟨r,rfl⟩,m⟩;have S:=I m;refine F _ _ m.fn ?_;clear F K m E g;refine aO ?_;go_wp2_with fail;have g:=I (iZ.drew HJ.q θ.q S.q);have E:=I (η.q 2 b (o+k*4+1) _ _ g.q);refine aC 0 [(0,1),(1,1),(2,1),(3,1),(4,2)] (λP=>Bx P (W.1.size+2) #[.func (.func 78) #[] #[G (H ⟨W.1.size+1,0,B⟩),G (H ⟨W.1.size,0,B⟩)]]) (λ_=>True) ay ay (g.q.fn) O ?_;refine qC ?_;refine aW rfl rfl rfl (λK F=>?_);go_simp;refine E.q.mono ?_;rintro e1 Y ⟨⟨r,rfl⟩,m⟩;have ξ:=I m;refine F _ _ m.fn ?_;clear F K m E g;refine aO ?_;have Ω:Y.cell? ⟨b,o+k*4+3,B⟩=H (N x.sa x.sn x.sc):=ξ.q.2.1 _ _ (q8.q b o Q.q k δ) (HC.q 3 _ rfl);go_wp2_with fail;clear Ω
       go_loopw [167] (λi wr=>∃j:Nat,j<=x.sn/\i= .int .i64 j/\iZ J Jx C (aU h es u y A f q t) l c z h w W (mh x.sa j ((t x).drop j)++(qI h.m.a t (k+1) (y.drop (k+1))++φ)) wr) (λi _=>x.sn - (L i).toNat)
       case atStart=>exact⟨0,bn _,rfl,ξ.q⟩
       case round=>
        obtain⟨j,hj,rfl,R⟩:=hrel;have ο:=I R;clear R;have ι:=I (γ.q.2.2.2.2.2.2 x (dA HX.q));have k3:=ι.q.le;by_cases Θ:j<x.sn
        .obtain⟨d,b2,o2,ζ,π,ρ⟩:=ι.q.at_ Θ
         have j2:=I ρ;have σ:=I ζ;have ω:=I π;clear ρ ζ π;have τ:(t x).drop j=d::(t x).drop (j+1):=by
          rw[lW (bK.1 σ.q).1,(bK.1 σ.q).2]
         have q0:Hid (iZ J Jx C (aU h es u y A f q t) l c z h w W ((0,(⟨b2,o2+j,B⟩:M))::(mh x.sa (j+1) ((t x).drop (j+1))++(qI h.m.a t (k+1) (y.drop (k+1))++φ))) wr):=by
          have:=ο.q;rw[τ,FQ ω.q] at this;simp only[fA] at this;exact I this
         clear τ;go_wp2_with fail;have g:=I (iZ.drew HJ.q θ.q q0.q);have E:=I (η.q 0 b2 (o2+j) _ _ g.q);refine aC 0 [(0,1),(1,1),(2,1),(3,1),(4,1),(5,1),(6,1),(7,2)] (λP=>Bx P (W.1.size+2) #[.func (.func 78) #[] #[G (H ⟨W.1.size+1,0,B⟩),G (H ⟨W.1.size,0,B⟩)]]/\P.cell? ⟨b,o+k*4+3,B⟩=H (N (H ⟨b2,o2,B⟩) x.sn x.sc)) (λ_=>True) ay ay (⟨g.q.fn,g.q.2.1 _ _ (q8.q b o Q.q k δ) (by rw[<-ω.q];exact HC.q 3 _ rfl)⟩) O ?_;refine qC ?_;refine aW rfl rfl rfl (λK F=>?_);go_simp;refine E.q.mono ?_;rintro e1 Y ⟨⟨r,rfl⟩,m⟩;have Ξ:=I m;refine F _ _ ⟨m.fn,m.2.1 _ _ (q8.q b o Q.q k δ) (by rw[<-ω.q];exact HC.q 3 _ rfl)⟩ ?_;clear F K m E g;refine aO ?_;go_wp2_with fail;go_roundw
         case rel=>exact⟨j+1,by omega,by go_num,Ξ.q⟩
         case measure=>simp[L];omega
        .have k5:=ι.q.len
         have q1:Hid (iZ J Jx C (aU h es u y A f q t) l c z h w W (qI h.m.a t (k+1) (y.drop (k+1))++φ) wr):=by
          have:=ο.q;rw[pU ah] at this;exact I this
         go_wp2_with fail;go_roundw
         case rel=>exact⟨k+1,by omega,by go_num,q1.q⟩
         case measure=>simp[L];omega
      .have j3:=(γ.q.2.2.1).len
       have α:Hid (iZ J Jx C (aU h es u y A f q t) l c z h w W φ wr):=by
        have:=Z.q;rw[pU ah] at this;exact I this
       have T:wr.cell? ⟨z,0,B⟩=H (G (H ⟨c,0,B⟩)):=α.q.2.2.2.1.1 0;have β:wr.cell? ⟨c,7,B⟩=H (h.w.v):=α.q.2.2.1.1 7;go_wp2_with fail;clear T β;rw[z7.q] at α
       go_loopw [185] (λi wr=>∃k:Nat,k<=h.w.n/\i= .int .i64 k/\iZ J Jx C (aU h es u y A f q t) l c z h w W (tT h.w.a k (A.drop k)++[]) wr) (λi _=>h.w.n - (L i).toNat)
       case atStart=>exact⟨0,bn _,rfl,α.q⟩
       case round=>
        obtain⟨k,hk,rfl,R⟩:=hrel;have Z:=I R;clear R;have z9:=(γ.q.2.2.2.1).le;by_cases δ:k<h.w.n
        .obtain⟨x,b,o,hx,ε,hc⟩:=(γ.q.2.2.2.1).at_ δ
         have HC:=I hc;have HX:=I hx;have Q:=I ε;clear hx ε hc;have μ:A.drop k=x::A.drop (k+1):=by
          rw[lW (bK.1 HX.q).1,(bK.1 HX.q).2]
         have T:wr.cell? ⟨z,0,B⟩=H (G (H ⟨c,0,B⟩)):=Z.q.2.2.2.1.1 0;have β:wr.cell? ⟨c,7,B⟩=H (N (H ⟨b,o,B⟩) h.w.n h.w.c):=(Z.q.2.2.1.1 7).trans (by rw[<-Q.q];rfl);have ψ:Hid (iZ J Jx C (aU h es u y A f q t) l c z h w W ((1,(⟨b,o+k*2,B⟩:M))::(tT h.w.a (k+1) (A.drop (k+1))++[])) wr):=by
          have:=Z.q;rw[μ,MC Q.q] at this;simp only[fA] at this;exact I this
         clear μ;go_wp2_with fail;clear T β;have g:=I (iZ.drew HJ.q θ.q ψ.q);have E:=I (η.q 1 b (o+k*2) _ _ g.q);refine aC 0 [(0,1),(1,1),(2,1),(3,1),(4,1),(5,1),(6,1),(7,1),(8,2)] (λP=>Bx P (W.1.size+2) #[.func (.func 78) #[] #[G (H ⟨W.1.size+1,0,B⟩),G (H ⟨W.1.size,0,B⟩)]]/\P.cell? ⟨z,0,B⟩=H (G (H ⟨c,0,B⟩))/\P.cell? ⟨c,7,B⟩=H (N (H ⟨b,o,B⟩) h.w.n h.w.c)) (λ_=>True) ay ay (⟨g.q.fn,(g.q.2.2.2.1.1 0),((g.q.2.2.1.1 7).trans (by rw[<-Q.q];rfl))⟩) O ?_;refine qC ?_;refine aW rfl rfl rfl (λK F=>?_);go_simp;refine E.q.mono ?_;rintro e1 Y ⟨⟨r,rfl⟩,m⟩;have S:=I m;refine F _ _ ⟨m.fn,(m.2.2.2.1.1 0),((m.2.2.1.1 7).trans (by rw[<-Q.q];rfl))⟩ ?_;clear F K m E g;refine aO ?_;go_wp2_with fail;go_roundw
         case rel=>exact⟨k+1,by omega,by go_num,S.q⟩
         case measure=>simp[L];omega
        .have j3:=(γ.q.2.2.2.1).len
         have α:Hid (iZ J Jx C (aU h es u y A f q t) l c z h w W [] wr):=by
          have:=Z.q;rw[pU ah] at this;exact I this
         go_wp2_with fail
         go_end0
         obtain⟨⟨q3,hp,a0,a2,a1⟩,_⟩:=α.q;rw[dm] at hp;refine⟨_,rfl,?_⟩;rcases a1 with⟨_,hj⟩|⟨_,p,k6,hj⟩
         .exact .inl (hp▸hj)
         .exact .inr ⟨p,k6,hj⟩
end Yd
