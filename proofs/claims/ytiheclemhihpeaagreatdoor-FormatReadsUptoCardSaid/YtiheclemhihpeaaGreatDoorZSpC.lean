import Derived.Test.YtiheclemhihpeaaGreatDoorZSpoken2
set_option linter.all false
set_option maxRecDepth 200000
set_option maxHeartbeats 8000000
namespace Yd
open Option renaming none->G,some->H
open Go Go.RowKit Go.Proofs Tryz
open Go.Value renaming pointer->C,bool->I
attribute [local go_sem] Oper.semAt_some
section
variable (J Jx:List (Int × Addr)->World->Prop)(D:Nat->Prop)(xs:List (Int × Addr))(B l:Nat)
def Ih (a:List (Int × Addr))(X:World):Prop:=
 Bx X B #[.func (.yield l) #[] #[]]/\Bx X (B+2) #[.func (.func 144) #[] #[C (H ⟨B+1,0,G⟩),C (H ⟨B,0,G⟩)]]/\
 ((Bx X (B+1) #[I true]/\J a X)\/(Bx X (B+1) #[I false]/\∃p,p<+:xs/\Jx p X))
theorem FD (Q:∀s X Y,J s X->Same (λi=>i<B\/B+3<=i) X Y->J s Y)(A:∀s X Y,Jx s X->Same (λi=>i<B\/B+3<=i) X Y->Jx s Y)
  (g:∀i,B<=i->i<B+3->D i)
  (R:∀c x E X,J c X->c++[x]<+:xs->EN x E X->B+3<=X.1.size->∀m,YieldAt Fence.wide m Tryz.prog l E X λe Y=>
   (e= .returned (I true)/\J (c++[x]) Y/\bM D X Y)\/(e= .returned (I false)/\Jx (c++[x]) Y/\bM D X Y))
  (c:List (Int × Addr)) (s:Int) (b o:Nat) (X:World) (F:c++[(s,(⟨b,o,G⟩:Addr))]<+:xs) (S:Ih J Jx xs B l c X) (m:Nat):
  CallsIn Fence.wide m Tryz.prog 144 #[.int .i64 s,C (H ⟨b,o,G⟩),C (H ⟨B+1,0,G⟩),C (H ⟨B,0,G⟩)] X λe Y=>
   (∃v,e= .returned v)/\Ih J Jx xs B l (c++[(s,(⟨b,o,G⟩:Addr))]) Y/\bM (λi=>D i/\¬(B<=i/\i<B+3)) X Y:=by
 obtain⟨j,t,a⟩:=S;have γ:=j.1;have δ:=j.2.2;rcases a with⟨a,k⟩|⟨a,p,T,k⟩
 .have u:=a.1;have W:=a.2.2
  obtain⟨fn,ε,ζ,η,Z,K⟩:=R c (s,(⟨b,o,G⟩:Addr)) #[.int .i64 s,C (H ⟨b,o,G⟩)] X k F rfl t.2.2 (m - 1);refine callsIn_of_wp func144 rfl trivial ?_ rfl;simp only[ntmps144,uR,iC,nk,Nat.reduceAdd,Nat.reduceSub,vF,vG,sD,sF,pO,jl];have n:=hid j;have q:=hid t;have r:=hid a
  gi_wp2
  refine⟨λh=>(by cases h),?_⟩;refine K.mono ?_;clear K Z k;rintro e Y (⟨rfl,α,d⟩|⟨rfl,β,d⟩)
  .have f:=d.bx r.q (g _ ah ah);have w:=d.bx n.q (g _ ah ah);have y:=d.bx q.q (g _ ah ah)
   have u:=f.1;have P:=f.2.1
   gi_wp2
   go_end0
   exact⟨⟨_,rfl⟩,⟨w.setOther _ _ _ ah,y.setOther _ _ _ ah,.inl ⟨f.set1 _,Q _ _ _ α (Same.setCell _ _ _ _ ah)⟩⟩,
    (d.mono (λi z _=>z.1)).trans (bM.setCell _ _ _ _ ah)⟩
  .have f:=d.bx r.q (g _ ah ah);have w:=d.bx n.q (g _ ah ah);have y:=d.bx q.q (g _ ah ah)
   have u:=f.1;have P:=f.2.1
   gi_wp2
   go_end0
   exact⟨⟨_,rfl⟩,⟨w.setOther _ _ _ ah,y.setOther _ _ _ ah,.inr ⟨f.set1 _,_,F,A _ _ _ β (Same.setCell _ _ _ _ ah)⟩⟩,
    (d.mono (λi z _=>z.1)).trans (bM.setCell _ _ _ _ ah)⟩
 .have u:=a.1;have W:=a.2.2;have P:=a.2.1
  have n:=hid j;have q:=hid t;have r:=hid a;refine callsIn_of_wp func144 rfl trivial ?_ rfl;simp only[ntmps144,uR,iC,nk,Nat.reduceAdd,Nat.reduceSub,vF,vG,sD,sF,pO,jl]
  gi_wp2
  refine⟨λ_ h=>(by cases h),?_⟩
  gi_wp2
  go_end0
  exact⟨⟨_,rfl⟩,⟨n.q.setOther _ _ _ ah,q.q.setOther _ _ _ ah,.inr ⟨r.q.set1 _,p,T,A _ _ _ k (Same.setCell _ _ _ _ ah)⟩⟩,bM.setCell _ _ _ _ ah⟩
end
variable (J Jx:List (Int × Addr)->World->Prop)(D:Nat->Prop)(xs:List (Int × Addr))(B l:Nat)
def PW (a b:List (Int × Addr)->World->Prop)(D:Nat->Prop)(xs:List (Int × Addr))(B l:Nat)(c:List (Int × Addr))(X:World)(e:Ending)(Y:World):Prop:=
 (∃v,e= .returned v)/\Ih a b xs B l c Y/\bM (λi=>D i/\¬(B<=i/\i<B+3)) X Y
theorem NU (n:∀s X Y,J s X->Same (λi=>i<B\/B+3<=i) X Y->J s Y)(q:∀s X Y,Jx s X->Same (λi=>i<B\/B+3<=i) X Y->Jx s Y)
  (A:∀i,B<=i->i<B+3->D i)
  (E:∀a x t X,J a X->a++[x]<+:xs->EN x t X->B+3<=X.1.size->∀m,YieldAt Fence.wide m Tryz.prog l t X λe Y=>
   (e= .returned (I true)/\J (a++[x]) Y/\bM D X Y)\/(e= .returned (I false)/\Jx (a++[x]) Y/\bM D X Y))
  (a:List (Int × Addr)) (v:je) (b o:Nat) (X:World) (u:a++iR ⟨b,o,G⟩ v<+:xs) (c:Ih J Jx xs B l a X) (S:X.cell? ⟨b,o+1,G⟩=H (.int .i64 v.k)):
  Calls Tryz.prog 145 #[C (H ⟨b,o,G⟩),C (H ⟨B+2,0,G⟩)] X (PW J Jx D xs B l (a++iR ⟨b,o,G⟩ v) X):=by
 by_cases f:0<v.k
 .have g:iR ⟨b,o,G⟩ v=[(0,(⟨b,o,G⟩:Addr))]:=by simp[iR,f]
  rw[g] at u ⊢;have T:=hid c;go_enter func145,ntmps145;go_wp2_with fail;have F:=c.2.1;have w:Ih J Jx xs B l a X.drew:=⟨c.1.drew,c.2.1.drew,by
   rcases c.2.2 with⟨j,k⟩|⟨j,p,P,k⟩
   .exact .inl ⟨j.drew,n _ _ _ k (Same.of_below ((Below.refl X.1.size X).drew) (λi _ d=>d))⟩
   .exact .inr ⟨j.drew,p,P,q _ _ _ k (Same.of_below ((Below.refl X.1.size X).drew) (λi _ d=>d))⟩⟩
  have Q:=hid (callsIn_wide.1 (FD J Jx D xs B l n q A E a 0 b o X.drew u w 3));clear w;refine aD 0 [(0,1),(1,1),(2,1),(3,1),(4,2)] (λR=>Bx R (B+2) #[.func (.func 144) #[] #[C (H ⟨B+1,0,G⟩),C (H ⟨B,0,G⟩)]]) (λ_=>True) au au (F.drew) trivial ?_;refine qC ?_;refine bA rfl rfl rfl (λK y=>?_);go_simp;refine Q.q.mono ?_;rintro e Y ⟨⟨r,rfl⟩,z,f⟩;refine y _ _ z.2.1 ?_;clear y K;refine aH ?_;go_wp2_with fail
  go_end0
  exact⟨⟨_,rfl⟩,z,(bM.of_below ((Below.refl X.1.size X).drew) (λi _ d=>d)).trans f⟩
 .have g:iR ⟨b,o,G⟩ v=[]:=by simp[iR,f]
  rw[g,eG];go_enter func145,ntmps145;go_wp2_with fail
  go_end0
  exact⟨⟨_,rfl⟩,c,bM.refl _⟩
end Yd
