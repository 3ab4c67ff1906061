import Derived.Test.YtpeojoobplpcoaaGreatDoorPSpoken3
set_option linter.all false
set_option maxRecDepth 200000
set_option maxHeartbeats 8000000
namespace Yd
open Option renaming none->c,some->d
open Go Go.RowKit Go.Proofs Tryz
open Go.Value renaming pointer->a,bool->f
attribute [local go_sem] Oper.semAt_some
section
variable (J Jx:List (Int × Addr)->World->Prop)(D:Nat->Prop)(xs:List (Int × Addr))(B l:Nat)
def TV (pre:List (Int × Addr))(X:World):Prop:=
 Bx X B #[.func (.yield l) #[] #[]]/\Bx X (B+2) #[.func (.func 85) #[] #[a (d ⟨B+1,0,c⟩),a (d ⟨B,0,c⟩)]]/\
 ((Bx X (B+1) #[f true]/\J pre X)\/(Bx X (B+1) #[f false]/\∃p,p<+:xs/\Jx p X))
theorem Ra (hJ:∀s X Y,J s X->Same (λi=>i<B\/B+3<=i) X Y->J s Y)(hJx:∀s X Y,Jx s X->Same (λi=>i<B\/B+3<=i) X Y->Jx s Y)
  (hD:∀i,B<=i->i<B+3->D i)
  (hY:∀pre x args X,J pre X->pre++[x]<+:xs->NQ x args X->B+3<=X.1.size->∀m,YieldAt Fence.wide m Tryz.prog l args X λe Y=>
   (e= .returned (f true)/\J (pre++[x]) Y/\aQ D X Y)\/(e= .returned (f false)/\Jx (pre++[x]) Y/\aQ D X Y))
  (pre:List (Int × Addr)) (s:Int) (b o:Nat) (X:World) (hpre:pre++[(s,(⟨b,o,c⟩:Addr))]<+:xs) (hX:TV J Jx xs B l pre X) (m:Nat):
  CallsIn Fence.wide m Tryz.prog 85 #[.int .i64 s,a (d ⟨b,o,c⟩),a (d ⟨B+1,0,c⟩),a (d ⟨B,0,c⟩)] X λe Y=>
   (∃v,e= .returned v)/\TV J Jx xs B l (pre++[(s,(⟨b,o,c⟩:Addr))]) Y/\aQ (λi=>D i/\¬(B<=i/\i<B+3)) X Y:=by
 obtain⟨h0,h2,h1⟩:=hX;have hc0:=h0.1;have hl0:=h0.2.2;rcases h1 with⟨h1,hj⟩|⟨h1,p,hp,hj⟩
 .have hc1:=h1.1;have hl1:=h1.2.2
  obtain⟨fn,tmps,assign,body,hy,hR⟩:=hY pre (s,(⟨b,o,c⟩:Addr)) #[.int .i64 s,a (d ⟨b,o,c⟩)] X hj hpre rfl h2.2.2 (m - 1);refine callsIn_of_wp func85 rfl trivial ?_ rfl;simp only[ntmps85,p8,dO,iy,Nat.reduceAdd,Nat.reduceSub,rX,rY,oz,oC,fJ,fu];have H0:=hid h0;have H2:=hid h2;have H1:=hid h1
  gi_wp2
  refine⟨λh=>(by cases h),?_⟩;refine hR.mono ?_;clear hR hy hj;rintro e Y (⟨rfl,hJ',hk⟩|⟨rfl,qX,hk⟩)
  .have hy1:=hk.bx H1.q (hD _ ah ah);have hy0:=hk.bx H0.q (hD _ ah ah);have hy2:=hk.bx H2.q (hD _ ah ah)
   have hc1:=hy1.1;have hf1:=hy1.2.1
   gi_wp2
   go_end0
   exact⟨⟨_,rfl⟩,⟨hy0.setOther _ _ _ ah,hy2.setOther _ _ _ ah,.inl ⟨hy1.set1 _,hJ _ _ _ hJ' (Same.setCell _ _ _ _ ah)⟩⟩,
    (hk.mono (λi hi _=>hi.1)).trans (aQ.setCell _ _ _ _ ah)⟩
  .have hy1:=hk.bx H1.q (hD _ ah ah);have hy0:=hk.bx H0.q (hD _ ah ah);have hy2:=hk.bx H2.q (hD _ ah ah)
   have hc1:=hy1.1;have hf1:=hy1.2.1
   gi_wp2
   go_end0
   exact⟨⟨_,rfl⟩,⟨hy0.setOther _ _ _ ah,hy2.setOther _ _ _ ah,.inr ⟨hy1.set1 _,_,hpre,hJx _ _ _ qX (Same.setCell _ _ _ _ ah)⟩⟩,
    (hk.mono (λi hi _=>hi.1)).trans (aQ.setCell _ _ _ _ ah)⟩
 .have hc1:=h1.1;have hl1:=h1.2.2;have hf1:=h1.2.1
  have H0:=hid h0;have H2:=hid h2;have H1:=hid h1;refine callsIn_of_wp func85 rfl trivial ?_ rfl;simp only[ntmps85,p8,dO,iy,Nat.reduceAdd,Nat.reduceSub,rX,rY,oz,oC,fJ,fu]
  gi_wp2
  refine⟨λ_ h=>(by cases h),?_⟩
  gi_wp2
  go_end0
  exact⟨⟨_,rfl⟩,⟨H0.q.setOther _ _ _ ah,H2.q.setOther _ _ _ ah,.inr ⟨H1.q.set1 _,p,hp,hJx _ _ _ hj (Same.setCell _ _ _ _ ah)⟩⟩,aQ.setCell _ _ _ _ ah⟩
end
variable (J Jx:List (Int × Addr)->World->Prop)(D:Nat->Prop)(xs:List (Int × Addr))(B l:Nat)
def adY (J Jx:List (Int × Addr)->World->Prop)(D:Nat->Prop)(xs:List (Int × Addr))(B l:Nat)(pre:List (Int × Addr))(X:World)(e:Ending)(Y:World):Prop:=
 (∃v,e= .returned v)/\TV J Jx xs B l pre Y/\aQ (λi=>D i/\¬(B<=i/\i<B+3)) X Y
theorem ab2 (hJ:∀s X Y,J s X->Same (λi=>i<B\/B+3<=i) X Y->J s Y)(hJx:∀s X Y,Jx s X->Same (λi=>i<B\/B+3<=i) X Y->Jx s Y)
  (hD:∀i,B<=i->i<B+3->D i)
  (hY:∀pre x args X,J pre X->pre++[x]<+:xs->NQ x args X->B+3<=X.1.size->∀m,YieldAt Fence.wide m Tryz.prog l args X λe Y=>
   (e= .returned (f true)/\J (pre++[x]) Y/\aQ D X Y)\/(e= .returned (f false)/\Jx (pre++[x]) Y/\aQ D X Y))
  (pre:List (Int × Addr)) (v:lK) (b o:Nat) (X:World) (hpre:pre++kr ⟨b,o,c⟩ v<+:xs) (hX:TV J Jx xs B l pre X) (hc1:X.cell? ⟨b,o+1,c⟩=d (.int .i64 v.k)):
  Calls Tryz.prog 86 #[a (d ⟨b,o,c⟩),a (d ⟨B+2,0,c⟩)] X (adY J Jx D xs B l (pre++kr ⟨b,o,c⟩ v) X):=by
 by_cases hk:0<v.k
 .have hv:kr ⟨b,o,c⟩ v=[(0,(⟨b,o,c⟩:Addr))]:=by simp[kr,hk]
  rw[hv] at hpre ⊢;have HX:=hid hX;go_enter func86,ntmps86;go_wp2_with fail;have hx2:=hX.2.1;have hAd:TV J Jx xs B l pre X.drew:=⟨hX.1.drew,hX.2.1.drew,by
   rcases hX.2.2 with⟨h1,hj⟩|⟨h1,p,hp,hj⟩
   .exact .inl ⟨h1.drew,hJ _ _ _ hj (Same.of_below ((Below.refl X.1.size X).drew) (λi _ hi=>hi))⟩
   .exact .inr ⟨h1.drew,p,hp,hJx _ _ _ hj (Same.of_below ((Below.refl X.1.size X).drew) (λi _ hi=>hi))⟩⟩
  have HS:=hid (callsIn_wide.1 (Ra J Jx D xs B l hJ hJx hD hY pre 0 b o X.drew hpre hAd 3));clear hAd;refine aC 0 [(0,1),(1,1),(2,1),(3,1),(4,2)] (λW'=>Bx W' (B+2) #[.func (.func 85) #[] #[a (d ⟨B+1,0,c⟩),a (d ⟨B,0,c⟩)]]) (λ_=>True) ay ay (hx2.drew) trivial ?_;refine qC ?_;refine bC rfl rfl rfl (λK hK=>?_);go_simp;refine HS.q.mono ?_;rintro e Y ⟨⟨r,rfl⟩,hA,hk⟩;refine hK _ _ hA.2.1 ?_;clear hK K;refine aP ?_;go_wp2_with fail
  go_end0
  exact⟨⟨_,rfl⟩,hA,(aQ.of_below ((Below.refl X.1.size X).drew) (λi _ hi=>hi)).trans hk⟩
 .have hv:kr ⟨b,o,c⟩ v=[]:=by simp[kr,hk]
  rw[hv,dB];go_enter func86,ntmps86;go_wp2_with fail
  go_end0
  exact⟨⟨_,rfl⟩,hX,aQ.refl _⟩
end Yd
