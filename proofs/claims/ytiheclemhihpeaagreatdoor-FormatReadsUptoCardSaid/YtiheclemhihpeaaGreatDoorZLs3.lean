import Derived.Test.YtiheclemhihpeaaGreatDoorZLs2
set_option linter.all false
set_option maxRecDepth 200000
set_option maxHeartbeats 8000000
namespace Yd
open Bool renaming true->N
open Option renaming none->H,some->M
open Go Go.RowKit Go.Proofs Tryz
open Go.IntKind renaming i64->J
open Go.Obj renaming cells->G
open Go.Value renaming slice->C,int->I,string->O
open Value renaming slice->U
open Yd renaming hid->L
attribute [local go_sem] Oper.semAt_some
theorem aa4{p:Prop}(h:p:=by simp;try omega):p:=h
theorem aa5{p:Prop}(h:p:=by cases h):p:=h
theorem aa6{p:Prop}(h:p:=by omega):p:=h
theorem aa7{p:Prop}(h:p:=by show ¬(_\/_\/_\/_\/_);have:=Φ.q;have:=z5.q;omega):p:=h
theorem Bx.newAt {X:World}{g:Nat}(h:X.1.size=g)(cs:Array Value)(T:TypeId):Bx (X.alloc (G cs T)) g cs:=h▸Bx.new X cs T
theorem Ab (s:Bs)(w:World)(hG:yR w):Calls Tryz.prog 6 #[O ⟨s.toArray⟩] w (BS s w):=by
 have hz:=dW s;by_cases z8:131072<s.length
 .have hf:iP s= .error (0,3):=aA z8
  have x3:(131072:Int)<(s.length:Int):=by omega
  have hr:∀X,Below w.1.size w X->BS s w (.returned (.tuple #[C H 0 0,C H 0 0,I J 0,I J 3])) X:=λX hb=>⟨hb,by rw[hf]⟩
  have HR:=L hr;clear hr hf;go_enter func6,ntmps6;go_wp2_with fail;have h0:=(((Bx.newAt (X:=w) (g:=w.1.size) rfl #[C H 0 0] 25).alloc (G #[C H 0 0] 26)).alloc (G #[I J 0] 3)).alloc (G #[I J 3] 27);have h1:=((Bx.newAt (X:=w.alloc (G #[C H 0 0] 25)) (g:=w.1.size+1) ak #[C H 0 0] 26).alloc (G #[I J 0] 3)).alloc (G #[I J 3] 27);have h2:=(Bx.newAt (X:=(w.alloc (G #[C H 0 0] 25)).alloc (G #[C H 0 0] 26)) (g:=w.1.size+1+1) ak #[I J 0] 3).alloc (G #[I J 3] 27);have h3:=Bx.newAt (X:=((w.alloc (G #[C H 0 0] 25)).alloc (G #[C H 0 0] 26)).alloc (G #[I J 0] 3)) (g:=w.1.size+1+1+1) ak #[I J 3] 27;have c0:=h0.1 0;have c1:=h1.1 0;have c2:=h2.1 0;have c3:=h3.1 0;refine bodyPost_ret (v:= .tuple #[C H 0 0,C H 0 0,I J 0,I J 3]) (by simp[results,results6,go_sem,c0,c1,c2,c3]) rfl (HR.q _ ((((Below.refl w.1.size w).alloc (aC _) _).alloc ak _).alloc (by simp;omega) _|>.alloc (by simp;omega) _))
 .have hf:iP s=jO s (s.length+1) 0:=ay z8
  have x3:¬(131072:Int)<(s.length:Int):=by omega
  have k4:s.length<=1000000:=by omega
  have HF:=L hf;have HG:=L hG;have x4:=L k4;clear hf hG z8 k4;refine(callsIn_wide (n:=3)).1 ?_;refine callsIn_of_wp_marks func6 rfl trivial ?_ rfl;simp only[ntmps6,uR,iC,nk,Nat.reduceAdd,Nat.reduceSub,vF,vG,sD,sF,pO,jl];refine wpIn_wide.2 ?_
  go_wp2_with (go_at_call 15;refine(Ld _ _).mono ?_;rintro e w' ⟨rfl,rfl⟩)
  have z0:(((((((w.alloc (G #[C H 0 0] 25)).alloc (G #[C H 0 0] 26)).alloc (G #[I J 0] 3)).alloc (G #[I J 0] 27)).alloc (G #[C H 0 0] 25)).alloc (G #[C H 0 0] 26)).alloc (G #[O ⟨s.toArray⟩] 9)).1.size=w.1.size+7:=by simp
  have z1:Below w.1.size w (((((((w.alloc (G #[C H 0 0] 25)).alloc (G #[C H 0 0] 26)).alloc (G #[I J 0] 3)).alloc (G #[I J 0] 27)).alloc (G #[C H 0 0] 25)).alloc (G #[C H 0 0] 26)).alloc (G #[O ⟨s.toArray⟩] 9)):=((((((((((((((Below.refl w.1.size w).alloc aa4 _)).alloc aa4 _)).alloc aa4 _)).alloc aa4 _)).alloc aa4 _)).alloc aa4 _)).alloc aa4 _);have q0:Bx (((((((w.alloc (G #[C H 0 0] 25)).alloc (G #[C H 0 0] 26)).alloc (G #[I J 0] 3)).alloc (G #[I J 0] 27)).alloc (G #[C H 0 0] 25)).alloc (G #[C H 0 0] 26)).alloc (G #[O ⟨s.toArray⟩] 9)) (w.1.size+0) #[C H 0 0]:=(((((((Bx.newAt (X:=w) (g:=w.1.size+0) ak #[C H 0 0] 25).alloc _).alloc _).alloc _).alloc _).alloc _).alloc _);have q5:Bx (((((((w.alloc (G #[C H 0 0] 25)).alloc (G #[C H 0 0] 26)).alloc (G #[I J 0] 3)).alloc (G #[I J 0] 27)).alloc (G #[C H 0 0] 25)).alloc (G #[C H 0 0] 26)).alloc (G #[O ⟨s.toArray⟩] 9)) (w.1.size+1) #[C H 0 0]:=((((((Bx.newAt (X:=(w.alloc (G #[C H 0 0] 25))) (g:=w.1.size+1) ak #[C H 0 0] 26).alloc _).alloc _).alloc _).alloc _).alloc _);have q6:Bx (((((((w.alloc (G #[C H 0 0] 25)).alloc (G #[C H 0 0] 26)).alloc (G #[I J 0] 3)).alloc (G #[I J 0] 27)).alloc (G #[C H 0 0] 25)).alloc (G #[C H 0 0] 26)).alloc (G #[O ⟨s.toArray⟩] 9)) (w.1.size+2) #[I J 0]:=(((((Bx.newAt (X:=((w.alloc (G #[C H 0 0] 25)).alloc (G #[C H 0 0] 26))) (g:=w.1.size+2) ak #[I J 0] 3).alloc _).alloc _).alloc _).alloc _);have q7:Bx (((((((w.alloc (G #[C H 0 0] 25)).alloc (G #[C H 0 0] 26)).alloc (G #[I J 0] 3)).alloc (G #[I J 0] 27)).alloc (G #[C H 0 0] 25)).alloc (G #[C H 0 0] 26)).alloc (G #[O ⟨s.toArray⟩] 9)) (w.1.size+3) #[I J 0]:=((((Bx.newAt (X:=(((w.alloc (G #[C H 0 0] 25)).alloc (G #[C H 0 0] 26)).alloc (G #[I J 0] 3))) (g:=w.1.size+3) ak #[I J 0] 27).alloc _).alloc _).alloc _);have q9:Bx (((((((w.alloc (G #[C H 0 0] 25)).alloc (G #[C H 0 0] 26)).alloc (G #[I J 0] 3)).alloc (G #[I J 0] 27)).alloc (G #[C H 0 0] 25)).alloc (G #[C H 0 0] 26)).alloc (G #[O ⟨s.toArray⟩] 9)) (w.1.size+4) #[C H 0 0]:=(((Bx.newAt (X:=((((w.alloc (G #[C H 0 0] 25)).alloc (G #[C H 0 0] 26)).alloc (G #[I J 0] 3)).alloc (G #[I J 0] 27))) (g:=w.1.size+4) ak #[C H 0 0] 25).alloc _).alloc _);have j0:Bx (((((((w.alloc (G #[C H 0 0] 25)).alloc (G #[C H 0 0] 26)).alloc (G #[I J 0] 3)).alloc (G #[I J 0] 27)).alloc (G #[C H 0 0] 25)).alloc (G #[C H 0 0] 26)).alloc (G #[O ⟨s.toArray⟩] 9)) (w.1.size+5) #[C H 0 0]:=((Bx.newAt (X:=(((((w.alloc (G #[C H 0 0] 25)).alloc (G #[C H 0 0] 26)).alloc (G #[I J 0] 3)).alloc (G #[I J 0] 27)).alloc (G #[C H 0 0] 25))) (g:=w.1.size+5) ak #[C H 0 0] 26).alloc _);have j1:Bx (((((((w.alloc (G #[C H 0 0] 25)).alloc (G #[C H 0 0] 26)).alloc (G #[I J 0] 3)).alloc (G #[I J 0] 27)).alloc (G #[C H 0 0] 25)).alloc (G #[C H 0 0] 26)).alloc (G #[O ⟨s.toArray⟩] 9)) (w.1.size+6) #[O ⟨s.toArray⟩]:=(Bx.newAt (X:=((((((w.alloc (G #[C H 0 0] 25)).alloc (G #[C H 0 0] 26)).alloc (G #[I J 0] 3)).alloc (G #[I J 0] 27)).alloc (G #[C H 0 0] 25)).alloc (G #[C H 0 0] 26))) (g:=w.1.size+6) ak #[O ⟨s.toArray⟩] 9);revert z0 z1 q0 q5 q6 q7 q9 j0 j1;generalize(((((((w.alloc (G #[C H 0 0] 25)).alloc (G #[C H 0 0] 26)).alloc (G #[I J 0] 3)).alloc (G #[I J 0] 27)).alloc (G #[C H 0 0] 25)).alloc (G #[C H 0 0] 26)).alloc (G #[O ⟨s.toArray⟩] 9))=V;intro z0 z1 q0 q5 q6 q7 q9 j0 j1;have z9:nP (w.1.size+4) (w.1.size+9) V (C H 0 0) (C H 0 0) (C H 0 0) [] [] (C H 0 0) []:=⟨q9,j0,Own.eH _ _ _ _ _,⟨rfl,λi l h=>aa5⟩,Own.eH _ _ _ _ _⟩;refine wpIn_wide.1 (Ke (n:=3) (gf:=22) (lb:=#[.pointer (M ⟨w.1.size+6,0,H⟩)]) (by simp[go_sem]) TP
   (lN:=PV (V.1.size+2)) (k:=0) (D:=λi=>i<w.1.size\/i=w.1.size+6) (R:=yR) (Kp:=NS (V.1.size+2)) (xs:=iH s (s.length+1) 0)
   (λW hW x5=>by have:=GI s x4.q (w.1.size+6) (λi=>i<w.1.size\/i=w.1.size+6) W (j1.keep hW) (.inr rfl);rw[x5] at this;exact this) ah
   (λx k5 X h=>by obtain⟨_,_,_,_,_,rfl,_⟩:=h;rfl)
   (λj X=>Below w.1.size w X/\Bx X w.1.size #[C H 0 0]/\Bx X (w.1.size+1) #[C H 0 0]/\Bx X (w.1.size+2) #[I J 0]/\Bx X (w.1.size+3) #[I J 0]/\
    (∃a c p P S,nP (w.1.size+4) (w.1.size+9) X (C a p.length c) (C P j.length S) (C a p.length c) p (j.map uH.ln) (C P j.length S) (j.map uH.fr))/\∀y∈j,y.er=0)
   (λc j X=>c= .ret/\Below w.1.size w X/\Bx X w.1.size #[C H 0 0]/\Bx X (w.1.size+1) #[C H 0 0]/\∃j2 x,j=j2++[x]/\x.er≠0/\Bx X (w.1.size+2) #[I J x.to]/\Bx X (w.1.size+3) #[I J x.er])
   (λj X Y h k=>by
    obtain⟨h1,h2,h3,h4,h5,⟨a,c,p,P,S,h6⟩,h7⟩:=h;exact⟨k.below h1 (λi hi=> .inl ah) h1.size,k.bx h2 (.inl ah),k.bx h3 (.inl ah),k.bx h4 (.inl ah),k.bx h5 (.inl ah),⟨a,c,p,P,S,h6.same k (.inl ah) (.inl ah) (λi hi=> .inr ah)⟩,h7⟩)
   (λc j X Y h k=>by
    obtain⟨h0,h1,h2,h3,j2,x,h4,h5,h6,h7⟩:=h;exact⟨h0,k.below h1 (λi hi=> .inl ah) h1.size,k.bx h2 (.inl ah),k.bx h3 (.inl ah),j2,x,h4,h5,k.bx h6 (.inl ah),k.bx h7 (.inl ah)⟩)
   (λj X h=>HG.q.below h.1) (λc j X h=>HG.q.below h.2.1)
   (λx k5 X Y h k=>by obtain⟨b4,b6,h1,h2,h3⟩:=h;exact⟨b4,b6,h1,h2,k.bx h3 (.inr ah)⟩)
   ⟨z1,q0,q5,q6,q7,⟨H,0,[],H,0,z9⟩,λy hy=>(by cases hy)⟩ ?round ?done ?stop)
  case done=>
   rintro X ⟨h1,h2,h3,h4,h5,⟨a,c,p,P,S,h6⟩,h7⟩ j3;rw[z0] at j3;have v0:iP s= .ok ((iH s (s.length+1) 0).map (λx=>(x.ln,x.fr))):=by
    rw[HF.q];rcases qI s (s.length+1) 0 ah with⟨_,q1⟩|⟨q,y,q1,q2,q3,q4⟩
    .exact q1
    .exact absurd (h7 y (by rw[q1];simp)) q3
   obtain⟨xs,k6⟩:∃xs,xs=iH s (s.length+1) 0:=⟨_,rfl⟩;rw[<-k6] at h6 v0;obtain⟨m,hm⟩:∃m,m=xs.length:=⟨_,rfl⟩;rw[<-hm] at h6;have x6:=L v0;have HM:=L hm;have k7:=L j3;have Γ:=L (⟨h2,h3,h4,h5⟩:_/\_/\_/\_);have δ:=L h6;have k8:=L h1;clear v0 hm j3 h2 h3 h4 h5 h6 h1 h7 k6 q0 q5 q6 q7 q9 j0 j1 z9;simp only[Exit.inBlock,Exit.then];go_wp2_with fail;refine aD 99 [(0,1),(1,1),(2,1),(3,1),(4,2),(5,2),(6,2),(7,2)] (λW'=>W'.cell? ⟨w.1.size+4,0,H⟩=M (C a p.length c)/\W'.cell? ⟨w.1.size+5,0,H⟩=M (C P m S)) (λ_=>True) au au (⟨δ.q.x4.1 0,δ.q.x5.1 0⟩) (trivial) ?_;refine qC ?_;refine aG rfl rfl (λK z=>?_);go_simp;have f:=Γ.q.1;have α:=f.1;have β:=f.2.1;have γ:=f.2.2;go_simp;refine z _ _ ⟨⟨bP (δ.q.x4.1 0) ah,bP (δ.q.x5.1 0) ah⟩,trivial⟩ ?_;clear z K f α β γ;refine aG rfl rfl (λK z=>?_);go_simp;have f:=Γ.q.2.1;have α:=f.1;have β:=f.2.1;have γ:=f.2.2;go_simp;refine z _ _ ⟨⟨bP (bP (δ.q.x4.1 0) ah) ah,bP (bP (δ.q.x5.1 0) ah) ah⟩,trivial⟩ ?_;clear z K f α β γ;refine aG rfl rfl (λK z=>?_);go_simp;have f:=Γ.q.2.2.1;have α:=f.1;have β:=f.2.1;have γ:=f.2.2;go_simp;refine z _ _ ⟨⟨bP (bP (bP (δ.q.x4.1 0) ah) ah) ah,bP (bP (bP (δ.q.x5.1 0) ah) ah) ah⟩,trivial⟩ ?_;clear z K f α β γ;refine aG rfl rfl (λK z=>?_);go_simp;have f:=Γ.q.2.2.2;have α:=f.1;have β:=f.2.1;have γ:=f.2.2;go_simp;refine z _ _ ⟨⟨bP (bP (bP (bP (δ.q.x4.1 0) ah) ah) ah) ah,bP (bP (bP (bP (δ.q.x5.1 0) ah) ah) ah) ah⟩,trivial⟩ ?_;clear z K f α β γ;refine aH ?_;go_wp2_with fail;have Ψ:Same (λi=>i<w.1.size\/w.1.size+4<=i) X ((((X.setCell ⟨w.1.size,0,H⟩ (C a p.length c)).setCell ⟨w.1.size+1,0,H⟩ (C P m S)).setCell ⟨w.1.size+2,0,H⟩ (I J (s.length:Int))).setCell ⟨w.1.size+3,0,H⟩ (I J 0)).drew:=(((((Same.refl' X).setTail (A:=λi=>i<w.1.size\/w.1.size+4<=i) (λh=>aa6)).setTail (λh=>aa6)).setTail (λh=>aa6)).setTail (λh=>aa6)).mU;have T:∀{Q:World}{b o:Nat}{u:Value}{cs:Array Value}{g:Nat},Bx Q g cs->g≠b->Bx (Q.setCell ⟨b,o,H⟩ u) g cs:=λhq v1=>Same.bx (A:=λi=>i≠_) ((Same.refl' _).setTail (λh=>h rfl)) hq v1
   have k0:Bx ((((X.setCell ⟨w.1.size,0,H⟩ (C a p.length c)).setCell ⟨w.1.size+1,0,H⟩ (C P m S)).setCell ⟨w.1.size+2,0,H⟩ (I J (s.length:Int))).setCell ⟨w.1.size+3,0,H⟩ (I J 0)).drew w.1.size _:=(T (T (T (Γ.q.1.set1 _) ah) ah) ah).drew;have k1:Bx ((((X.setCell ⟨w.1.size,0,H⟩ (C a p.length c)).setCell ⟨w.1.size+1,0,H⟩ (C P m S)).setCell ⟨w.1.size+2,0,H⟩ (I J (s.length:Int))).setCell ⟨w.1.size+3,0,H⟩ (I J 0)).drew (w.1.size+1) _:=(T (T ((T Γ.q.2.1 ah).set1 _) ah) ah).drew;have k2:Bx ((((X.setCell ⟨w.1.size,0,H⟩ (C a p.length c)).setCell ⟨w.1.size+1,0,H⟩ (C P m S)).setCell ⟨w.1.size+2,0,H⟩ (I J (s.length:Int))).setCell ⟨w.1.size+3,0,H⟩ (I J 0)).drew (w.1.size+2) _:=(T ((T (T Γ.q.2.2.1 ah) ah).set1 _) ah).drew;have k3:Bx ((((X.setCell ⟨w.1.size,0,H⟩ (C a p.length c)).setCell ⟨w.1.size+1,0,H⟩ (C P m S)).setCell ⟨w.1.size+2,0,H⟩ (I J (s.length:Int))).setCell ⟨w.1.size+3,0,H⟩ (I J 0)).drew (w.1.size+3) _:=((T (T (T Γ.q.2.2.2 ah) ah) ah).set1 _).drew;revert Ψ k0 k1 k2 k3;generalize((((X.setCell ⟨w.1.size,0,H⟩ (C a p.length c)).setCell ⟨w.1.size+1,0,H⟩ (C P m S)).setCell ⟨w.1.size+2,0,H⟩ (I J (s.length:Int))).setCell ⟨w.1.size+3,0,H⟩ (I J 0)).drew=Z;intro Ψ k0 k1 k2 k3;have x7:Z.1[(w.1.size+7)]?=M (.deferred (M [])):=(Ψ.block _ ah (fH.1 k7.q).1).trans k7.q;have x8:=(k0.putObj (l:=(w.1.size+7)) (.deferred H) ah).1 0;have x9:=(k1.putObj (l:=(w.1.size+7)) (.deferred H) ah).1 0;have v2:=(k2.putObj (l:=(w.1.size+7)) (.deferred H) ah).1 0;have v3:=(k3.putObj (l:=(w.1.size+7)) (.deferred H) ah).1 0;have z2:Same (λi=>i<w.1.size\/w.1.size+9<=i) X (Z.putObj (w.1.size+7) (.deferred H)):=(Ψ.mono (λi hi _=>aa6)).tr (Same.putObj (A:=λi=>i<w.1.size\/w.1.size+9<=i) Z _ ah);refine⟨by simp,.inl ⟨_,_,rfl,run_takeDeferred x7,?_⟩⟩;refine⟨.tuple #[C a p.length c,C P m S,I J (s.length:Int),I J 0],by simp[results,results6,go_sem,x8,x9,v2,v3],z2.below k8.q (λi hi=> .inl hi) k8.q.size,?_⟩;rw[x6.q];refine⟨a,c,p,P,S,by rw[bC,<-HM.q],?_,?_,?_⟩
   .exact(δ.q.oL.same z2 (λg E=> .inr (δ.q.oL.lt g E).1)).mono ah
   .rw[pV]
    have:=δ.q.aL.same z2 (λi hi=> .inr hi);exact⟨this.1,λi l h=>let⟨s,h1,h2⟩:=this.2 i l h;⟨s,h1,h2.mono ah⟩⟩
   .rw[pV,bC,<-HM.q]
    exact(δ.q.oP.same z2 (λg E=> .inr (δ.q.oP.lt g E).1)).mono ah
  case stop=>
   rintro cc j X Ξ ⟨rfl,hb,h2,h3,j2,x,rfl,h5,h6,h7⟩ j3;have b0:iP s= .error (x.to,x.er):=by
    rw[HF.q];rcases qI s (s.length+1) 0 ah with⟨q1,_⟩|⟨q,y,q1,q2,q3,q4⟩
    .exact absurd (q1 x (Ξ.subset ak)) h5
    .rw[q1] at Ξ
     obtain⟨t,ht⟩:=Ξ
     cases t with
     |nil=>
      rw[eG] at ht;have:=(List.append_inj' ht rfl).2;injection this with this;rw[this];exact q4
     |cons t1 t2=>
      have:x∈q:=by
       have e:(j2++[x])++(t1::t2).dropLast++[(t1::t2).getLast ak]=q++[y]:=by
        rw[fP,List.dropLast_concat_getLast];exact ht
       have:=(List.append_inj' e rfl).1;rw[<-this];simp
      exact absurd (q2 x this) h5
   refine wpIn_wide.2 ?_;go_wp2_with fail;have v2:=(h2.putObj (l:=V.1.size) (.deferred H) ah).1 0;have v3:=(h3.putObj (l:=V.1.size) (.deferred H) ah).1 0;have b1:=(h6.putObj (l:=V.1.size) (.deferred H) ah).1 0;have b2:=(h7.putObj (l:=V.1.size) (.deferred H) ah).1 0;refine⟨by simp,.inl ⟨_,_,rfl,run_takeDeferred j3,?_⟩⟩;refine⟨.tuple #[C H 0 0,C H 0 0,I J x.to,I J x.er],by simp[results,results6,go_sem,v2,v3,b1,b2],(Same.putObj (A:=λi=>i<w.1.size) X _ ah).below hb (λi hi=>hi) hb.size,?_⟩;rw[b0]
  case round=>
   rintro j x k5 X ⟨hb,h0,h1,h2,h3,⟨a,c,p,P,S,B⟩,k9⟩ Ξ ⟨b4,b6,d,b3,b5,rfl,y0,j4,y1,v4⟩ m6 m
   gi_wp2
   refine⟨aB (Below.refl _ _) _,λX2 v5=>?_⟩;have θ:Same (λi=>i≠V.1.size+1) X X2:=(Same.of_below (aB (Below.refl X.1.size X) (G #[I J x.fr,I J x.to] 55)) (λi _ hl=>hl)).tr v5;have v6:Bx X2 X.1.size #[I J x.fr,I J x.to]:=v5.bx (Bx.new X _ _) ah;have y2:X.1.size<X2.1.size:=v6.2.2;have z3:=L (θ.below hb (λi hi=>aa6) hb.size);have Δ:=L (⟨θ.bx h0 ah,θ.bx h1 ah,θ.bx h2 ah,θ.bx h3 ah⟩:_/\_/\_/\_);have b7:=L (B.same θ ah ah (λi hi=>aa6));have b8:=L ((y1.same θ (λi hi=>aa6)).mono (B':=w.1.size+9) ah);have m7:Hid (∃cs fz,X2.1[b6]?=M (G cs 27 fz)):=L (let⟨cs,fz,e⟩:=v4;⟨cs,fz,(θ.block b6 ah j4.2.2).trans e⟩);have HC:=L (QU b4 b6 d x.er X2 (θ.bx y0 ah) (θ.bx j4 ah));have b9:=L (θ.bx j4 ah);have y3:=L v6;have Φ:Hid (w.1.size+9<=b6/\w.1.size+9<=X.1.size/\b6<X.1.size/\X.1.size<X2.1.size):=L ⟨aa6,aa6,j4.2.2,y2⟩;have f5:Hid (∀g,(U a p.length c).ownBlock=M g->g<X.1.size):=L (λg E=>(B.oL.lt g E).2);have f6:Hid (∀g,(U P j.length S).ownBlock=M g->g<X.1.size):=L (λg E=>(B.oP.lt g E).2);have y4:Hid ((∀g,(U a p.length c).ownBlock=M g->g≠b6)/\∀g,(U P j.length S).ownBlock=M g->g≠b6):=L (by
    obtain⟨cs,fz,e⟩:=v4;refine⟨λg E q=>?_,λg E q=>?_⟩
    .obtain⟨_,_,e2⟩:=B.oL.tag E
     rw[q,e] at e2;cases e2
    .obtain⟨_,_,e2⟩:=B.oP.tag E
     rw[q,e] at e2;cases e2)
   have y5:=L z0;have g0:=L k9;have m8:=L Ξ;have v7:Hid (j.length<=131073):=L (by have h1:=Ξ.length_le;have h2:=xC s (s.length+1) 0;rw[eX,pJ] at h1;omega);have y6:Hid (p.length<=131073):=L (by rw[B.aL.1,bC];exact v7.q);clear θ v6 y2 hb h0 h1 h2 h3 B y1 v4 y0 j4 v5 k9 Ξ z9 q0 q5 q6 q7 q9 j0 j1 z1 b3 b5
   gi_wp2
   refine⟨trivial,λh=>aa5,?_⟩;refine(CallsIn.inRound _ (callsIn_wide.2 HC.q)).mono ?_;rintro e W3 ⟨rfl,z4⟩;have y7:Below X2.1.size X2 (W3.alloc (G #[I J d.kind,C d.na d.nn d.nc,I J d.lvl,C d.va d.vn d.vc,.bool d.first,I J d.bits] 34)):=z4.alloc z4.size _;have μ:=L y7;have j5:=L (Bx.new W3 #[I J d.kind,C d.na d.nn d.nc,I J d.lvl,C d.va d.vn d.vc,.bool d.first,I J d.bits] 34);have z5:Hid (X2.1.size<=W3.1.size):=L z4.size;clear y7 z4 HC;by_cases h0:x.er=0
   .have g3:(x.er==0)=N:=beq_iff_eq.2 h0
    have g4:(x.er !=0)=false:=by simp[h0]
    have H0:=L h0;clear h0
    gi_wp2
    revert μ j5;generalize W3.alloc (G #[I J d.kind,C d.na d.nn d.nc,I J d.lvl,C d.va d.vn d.vc,.bool d.first,I J d.bits] 34)=Z0;intro μ j5;obtain⟨Y0,z6⟩:∃Y,Z0.drew=Y:=⟨_,rfl⟩;have Ω:Below X2.1.size X2 Y0:=by rw[<-z6];exact μ.q.drew
    have g5:=L Ω;have y8:Hid (Bx Y0 W3.1.size #[I J d.kind,C d.na d.nn d.nc,I J d.lvl,C d.va d.vn d.vc,.bool d.first,I J d.bits]):=L (by rw[<-z6];exact j5.q.drew);have y9:=L (y3.q.keep Ω);have z7:=L (b7.q.below Ω);have g6:=L (b8.q.below Ω);have v8:Hid (Same (λi=>i<w.1.size+4\/(w.1.size+6<=i/\i<w.1.size+9)\/i=b6\/i=X.1.size\/i=W3.1.size) Y0 Y0):=L (Same.refl' _);have x0:Hid (w.1.size+9<=Y0.1.size):=L (by have:=Ω.size;have:=Φ.q;omega);have g7:Hid (∀g,(U a p.length c).ownBlock=M g->¬(g<w.1.size+4\/(w.1.size+6<=g/\g<w.1.size+9)\/g=b6\/g=X.1.size\/g=W3.1.size)):=L (λg E=>by have h1:=f5.q g E;have h2:=y4.q.1 g E;have h3:=(z7.q.oL.lt g E).1;have h4:=Φ.q;have h5:=z5.q;omega);have g8:Hid (∀g,(U P j.length S).ownBlock=M g->¬(g<w.1.size+4\/(w.1.size+6<=g/\g<w.1.size+9)\/g=b6\/g=X.1.size\/g=W3.1.size)):=L (λg E=>by have h1:=f6.q g E;have h2:=y4.q.2 g E;have h3:=(z7.q.oP.lt g E).1;have h4:=Φ.q;have h5:=z5.q;omega);obtain⟨iL,zL,x1⟩:=Hg;obtain⟨iI,zI,x2⟩:=qZ;have j6:=L x1;have j7:=L x2;have g9:Hid (∀(Y:World)(a2:Option Addr)(c2:Nat)(p2:Option Addr)(q2:Nat),Same (λi=>i<w.1.size+4\/(w.1.size+6<=i/\i<w.1.size+9)\/i=b6\/i=X.1.size\/i=W3.1.size) Y0 Y->
      nP (w.1.size+4) (w.1.size+9) Y (C a2 (p.length+1) c2) (C p2 (j.length+1) q2) (C a2 (p.length+1) c2) (p++[d]) (j.map uH.ln++[x.ln]) (C p2 (j.length+1) q2) (j.map uH.fr++[x.fr])->
      (Y.1[V.1.size]?=X2.1[V.1.size]?/\Y.1[V.1.size+1]?=X2.1[V.1.size+1]?)/\bM (λi=>i<w.1.size\/i=w.1.size+6) X2 Y/\
      (Below w.1.size w Y/\Bx Y w.1.size #[C H 0 0]/\Bx Y (w.1.size+1) #[C H 0 0]/\Bx Y (w.1.size+2) #[I J 0]/\Bx Y (w.1.size+3) #[I J 0]/\
       (∃a c p P S,nP (w.1.size+4) (w.1.size+9) Y (C a p.length c) (C P (j++[x]).length S) (C a p.length c) p ((j++[x]).map uH.ln) (C P (j++[x]).length S) ((j++[x]).map uH.fr))/\∀y∈j++[x],y.er=0)/\
      NS (V.1.size+2) x #[.agg #[I J x.fr,I J x.to],.func (.func 24) #[] #[.pointer (M ⟨b4,0,H⟩),.pointer (M ⟨b6,0,H⟩)]] Y):=L (λY a2 c2 p2 q2 hs B=>by
     have hv:=y5.q;have m0:=Φ.q;have ο:Same (λi=>i<w.1.size+4\/(w.1.size+6<=i/\i<w.1.size+9)\/i=b6) X2 Y:=(Same.of_below g5.q (λi _ hl=>hl)).tr (hs.mono (λi hi _=>aa6));refine⟨⟨ο.block _ ah ah,ο.block _ ah ah⟩,⟨ο.size,λi hi hl=>ο.block i ah hl⟩,⟨ο.below z3.q (λi hi=>aa6) z3.q.size,ο.bx Δ.q.1 ah,ο.bx Δ.q.2.1 ah,ο.bx Δ.q.2.2.1 ah,ο.bx Δ.q.2.2.2 ah,⟨a2,c2,p++[d],p2,q2,?_⟩,λy hy=>?_⟩,⟨b4,b6,aa6,rfl,ο.bx b9.q ah⟩⟩
     .rw[eX,eX,pJ,pJ,fV,fV];exact B
     .rcases cu.1 hy with h|h
      .exact g0.q y h
      .rw[dw.1 h];exact H0.q)
    clear Ω x1 x2 hz;refine BF [1,5,6] (λW'=>W'.cell? ⟨X.1.size,0,H⟩=M (I J x.fr)/\Bx W' W3.1.size #[I J d.kind,C d.na d.nn d.nc,I J d.lvl,C d.va d.vn d.vc,.bool d.first,I J d.bits]) au au au (by rw[z6];exact⟨v8.q.cell (y9.q.1 0) (.inr (.inr (.inr (.inl rfl)))),v8.q.bx y8.q (.inr (.inr (.inr (.inr rfl))))⟩) ?_;rw[z6];refine qV ?_;refine Us (F:=λA r a' Y=>∃(π ρ ι σ τ κ u4 u5 uL uP:Value)(lc:List aW)(lx:List aK)(ps:List Int)(g1 g2:Nat),a'=EP A [(29,π),(31,ρ),(32,ι),(33,σ),(36,τ),(37,κ)]/\
      ((r 1=N/\r 5=N/\r 6=N)/\(r 9=N->r 8=N)/\(r 10=N->r 9=N)/\(r 8=N->r 3=N/\r 4=N/\r 7=N)/\(r 3=N->r 0=N/\r 2=N))/\
      (r 0=N->π= C a p.length c)/\(r 4=N->σ= C P j.length S)/\
      (r 2=N->ρ= C (M ⟨g1,0,H⟩) 1 1/\(r 3=false->Row Y 6 mZ (M ⟨g1,0,H⟩) 1 1 [d]))/\
      (r 7=N->τ= C (M ⟨g2,0,H⟩) 1 1/\(∀g,(U a p.length c).ownBlock=M g->g≠g2)/\(r 8=false->Row Y 1 aQ (M ⟨g2,0,H⟩) 1 1 [x.fr]))/\
      (r 3=false->dZ Y (w.1.size+9) d x.ln/\uL= C a p.length c/\lc=p/\lx=j.map uH.ln)/\(r 3=N->(∃a2 c2,ι= C a2 (p.length+1) c2)/\uL=ι/\lc=p++[d]/\lx=j.map uH.ln++[x.ln])/\
      (r 8=false->uP= C P j.length S/\ps=j.map uH.fr)/\(r 8=N->(∃p2 q2,κ= C p2 (j.length+1) q2)/\uP=κ/\ps=j.map uH.fr++[x.fr])/\
      (r 9=false->u4= C a p.length c)/\(r 9=N->u4=ι)/\(r 10=false->u5= C P j.length S)/\(r 10=N->u5=κ)/\
      nP (w.1.size+4) (w.1.size+9) Y u4 u5 uL lc lx uP ps/\Same (λi=>i<w.1.size+4\/(w.1.size+6<=i/\i<w.1.size+9)\/i=b6\/i=X.1.size\/i=W3.1.size) Y0 Y) ?_ ?_ ?_ ?_
    .rintro r a' Y ⟨_,_,_,_,_,_,_,_,_,_,_,_,_,_,_,_,_,_,_,_,_,_,_,_,_,_,_,_,_,_,hs⟩
     exact⟨hs.cell (y9.q.1 0) (.inr (.inr (.inr (.inl rfl)))),hs.bx y8.q (.inr (.inr (.inr (.inr rfl))))⟩
    .exact⟨_,_,_,_,_,_,_,_,_,_,_,_,_,0,0,rfl,⟨⟨rfl,rfl,rfl⟩,(λh=>aa5),(λh=>aa5),(λh=>aa5),(λh=>aa5)⟩,(λh=>aa5),(λh=>aa5),(λh=>aa5),(λh=>aa5),(λ_=>⟨g6.q,rfl,rfl,rfl⟩),(λh=>aa5),(λ_=>⟨rfl,rfl⟩),(λh=>aa5),(λ_=>rfl),(λh=>aa5),(λ_=>rfl),(λh=>aa5),z7.q,v8.q⟩
    .rintro r a' Y hL ⟨π,ρ,ι,σ,τ,κ,u4,u5,uL,uP,lc,lx,ps,g1,g2,rfl,_,f0,f4,f2,f7,_,f3,_,f8,_,f9,_,ε,B,hs⟩
     obtain⟨⟨a2,c2,rfl⟩,rfl,rfl,rfl⟩:=f3 (hL 3);obtain⟨⟨p2,q2,rfl⟩,rfl,rfl⟩:=f8 (hL 8);obtain rfl:=f9 (hL 9);obtain rfl:=ε (hL 10);obtain rfl:=f0 (hL 0);obtain rfl:=f4 (hL 4);obtain⟨rfl,_⟩:=f2 (hL 2);obtain⟨rfl,_⟩:=f7 (hL 7);have HF:=L (⟨B,hs⟩:_/\_);clear f0 f4 f2 f7 f3 f8 f9 ε B hs hL;refine Rm ?_;simp only[EP,Act.put,nY,ng,ni]
     gi_wp2
     exact g9.q _ _ _ _ _ HF.q.2 HF.q.1
    .rintro i r a' Y hi hL hd ⟨π,ρ,ι,σ,τ,κ,u4,u5,uL,uP,lc,lx,ps,g1,g2,rfl,hF⟩
     have HF:=L hF;have HL:=L hL;have HD:=L hd;clear hF hL hd;rcases(by have:i<11:=hi;omega:i=0\/i=1\/i=2\/i=3\/i=4\/i=5\/i=6\/i=7\/i=8\/i=9\/i=10) with rfl|rfl|rfl|rfl|rfl|rfl|rfl|rfl|rfl|rfl|rfl
     case' inr.inl=>cases HL.q.symm.trans HF.q.1.1.1
     case' inr.inr.inr.inr.inr.inl=>cases HL.q.symm.trans HF.q.1.1.2.1
     case' inr.inr.inr.inr.inr.inr.inl=>cases HL.q.symm.trans HF.q.1.1.2.2
     all_goals
      obtain⟨⟨f1,η,ν,ζ,ξ⟩,f0,f4,f2,f7,f3,υ,f8,φ,f9,χ,ε,ψ,B,hs⟩:=HF.q;have m1:=L (⟨f1,η,ν,ζ,ξ,f0,f4,f2,f7,f3,υ,f8,φ,f9,χ,ε,ψ,B,hs⟩:_/\_/\_/\_/\_/\_/\_/\_/\_/\_/\_/\_/\_/\_/\_/\_/\_/\_/\_);clear f1 η ν ζ ξ f0 f4 f2 f7 f3 υ f8 φ f9 χ ε ψ B hs;refine Rn rfl rfl (λK z=>?_);simp only[EP,Act.put,nY,ng,ni];obtain⟨f1,η,ν,ζ,ξ,f0,f4,f2,f7,f3,υ,f8,φ,f9,χ,ε,ψ,B,hs⟩:=m1.q
     .have h9:r 9=false:=Bool.eq_false_iff.2 (λq=>by cases HL.q.symm.trans (ξ (ζ (η q)).1).1)
      have hx:=B.x4;rw[f9 h9] at hx;have hc:=hx.1 0;go_simp;exact z _ _ ⟨C a p.length c,ρ,ι,σ,τ,κ,u4,u5,uL,uP,lc,lx,ps,g1,g2,rfl,⟨f1,η,ν,ζ,λq=>⟨rfl,(ξ q).2⟩⟩,λ_=>rfl,f4,f2,f7,f3,υ,f8,φ,f9,χ,ε,ψ,B,hs⟩
     .have ω:=aB (Below.refl Y.1.size Y) (G #[I J d.kind,C d.na d.nn d.nc,I J d.lvl,C d.va d.vn d.vc,.bool d.first,I J d.bits] 34)
      go_simp;exact z _ _ ⟨π,C (M ⟨Y.1.size,0,H⟩) 1 1,ι,σ,τ,κ,u4,u5,uL,uP,lc,lx,ps,Y.1.size,g2,rfl,⟨f1,η,ν,ζ,λq=>⟨(ξ q).1,rfl⟩⟩,f0,f4,λ_=>⟨rfl,λ_=>Row.Xc Y d⟩,(λq=>⟨(f7 q).1,(f7 q).2.1,λq2=>((f7 q).2.2 q2).below ω rfl⟩),(λq=>⟨(f3 q).1.below ω,(f3 q).2⟩),υ,f8,φ,f9,χ,ε,ψ,B.below ω,hs.tr (Same.of_below ω (λi _ hl=>hl))⟩
     .obtain⟨m2,rfl,e2,rfl⟩:=f3 HL.q
      obtain rfl:=e2.symm;obtain rfl:=f0 (HD.q 0 au);obtain⟨rfl,v9⟩:=f2 (HD.q 2 au);refine gK _ _ 25 rfl iL zL 80 underlying25 j6.q.1 j6.q.2.1 j6.q.2.2.1 j6.q.2.2.2.1 j6.q.2.2.2.2 rfl B.oL (M ⟨g1,0,H⟩) 1 1 (p.length+1) [d] rfl (v9 HL.q) rfl (by have:=y6.q;omega) (by have:=y6.q;unfold maxLen;omega) (cO x0.q hs.size) ?_;intro a2 c2 Y2 ho E m3;exact z _ _ ⟨_,_,C a2 (p.length+1) c2,σ,τ,κ,u4,u5,C a2 (p.length+1) c2,uP,p++[d],j.map uH.ln++[x.ln],ps,g1,g2,rfl,⟨f1,η,ν,λq=>⟨rfl,(ζ q).2⟩,λ_=>⟨HD.q 0 au,HD.q 2 au⟩⟩,λ_=>rfl,f4,λ_=>⟨rfl,λq=>by cases q⟩,
       (λq=>⟨(f7 q).1,(f7 q).2.1,λq2=>(za (A:=λi=>i=g2) E (λg e=>(f7 q).2.1 g e)).row ((f7 q).2.2 q2) (λb o e=>by injection e with e;injection e with e;exact e.symm)⟩),(λq=>by cases q),λ_=>⟨⟨a2,c2,rfl⟩,rfl,rfl,rfl⟩,f8,φ,f9,(λq=>by cases HL.q.symm.trans (ζ (η q)).1),ε,ψ,B.Je m2 ho E ah,hs.tr (za E g7.q)⟩
     .have m4:r 10=false:=Bool.eq_false_iff.2 (λq=>by cases HL.q.symm.trans (ζ (η (ν q))).2.1)
      have hx:=B.x5;rw[ε m4] at hx;have hc:=hx.1 0;go_simp;exact z _ _ ⟨π,ρ,ι,C P j.length S,τ,κ,u4,u5,uL,uP,lc,lx,ps,g1,g2,rfl,⟨f1,η,ν,λq=>⟨(ζ q).1,rfl,(ζ q).2.2⟩,ξ⟩,f0,λ_=>rfl,f2,f7,f3,υ,f8,φ,f9,χ,ε,ψ,B,hs⟩
     .have ω:=aB (Below.refl Y.1.size Y) (G #[I J x.fr] 3)
      go_simp;exact z _ _ ⟨π,ρ,ι,σ,C (M ⟨Y.1.size,0,H⟩) 1 1,κ,u4,u5,uL,uP,lc,lx,ps,g1,Y.1.size,rfl,⟨f1,η,ν,λq=>⟨(ζ q).1,(ζ q).2.1,rfl⟩,ξ⟩,f0,f4,(λq=>⟨(f2 q).1,λq2=>((f2 q).2 q2).below ω rfl⟩),λ_=>⟨rfl,(λg E=>by have:=(z7.q.oL.lt g E).2;have:=hs.size;omega),λ_=>Row.i1 Y _⟩,(λq=>⟨(f3 q).1.below ω,(f3 q).2⟩),υ,f8,φ,f9,χ,ε,ψ,B.below ω,hs.tr (Same.of_below ω (λi _ hl=>hl))⟩
     .obtain⟨rfl,rfl⟩:=f8 HL.q
      have h3:=HD.q 3 au;obtain rfl:=f4 (HD.q 4 au);obtain⟨rfl,m5,v9⟩:=f7 (HD.q 7 au);refine gK _ _ 26 rfl iI zI 8 underlying26 j7.q.1 j7.q.2.1 j7.q.2.2.1 j7.q.2.2.2.1 j7.q.2.2.2.2 rfl B.oP (M ⟨g2,0,H⟩) 1 1 (j.length+1) [x.fr] rfl (v9 HL.q) (by rw[bC]) (by have:=v7.q;omega) (by have:=v7.q;unfold maxLen;omega) (cO x0.q hs.size) ?_;intro p2 q2 Y2 ho E m3;exact z _ _ ⟨π,ρ,ι,_,_,C p2 (j.length+1) q2,u4,u5,uL,C p2 (j.length+1) q2,lc,lx,_,g1,g2,rfl,⟨f1,λ_=>rfl,ν,λ_=>⟨h3,HD.q 4 au,HD.q 7 au⟩,ξ⟩,f0,λ_=>rfl,(λq=>⟨(f2 q).1,λq3=>by cases q3.symm.trans h3⟩),λ_=>⟨rfl,m5,λq=>by cases q⟩,
       (λq=>by cases q.symm.trans h3),υ,(λq=>by cases q),λ_=>⟨⟨p2,q2,rfl⟩,rfl,rfl⟩,f9,χ,ε,(λq=>by cases HL.q.symm.trans (η (ν q))),B.Jf ho E ah,hs.tr (za E g8.q)⟩
     .obtain rfl:=f9 HL.q
      obtain⟨⟨a2,c2,rfl⟩,e1,e2,e3⟩:=υ (HD.q 3 au);have f:=B.x4;have α:=f.1;have β:=f.2.1;have γ:=f.2.2;go_simp;exact z _ _ ⟨π,ρ,_,σ,τ,κ,C a2 (p.length+1) c2,u5,uL,uP,lc,lx,ps,g1,g2,rfl,⟨f1,λ_=>HD.q 8 au,λ_=>rfl,ζ,ξ⟩,f0,f4,(λq=>⟨(f2 q).1,λq3=>by cases q3.symm.trans (HD.q 3 au)⟩),(λq=>⟨(f7 q).1,(f7 q).2.1,λq8=>by cases q8.symm.trans (HD.q 8 au)⟩),(λq=>by cases q.symm.trans (HD.q 3 au)),λ_=>⟨⟨a2,c2,rfl⟩,e1,e2,e3⟩,(λq=>by cases q.symm.trans (HD.q 8 au)),φ,
       (λq=>by cases q),λ_=>rfl,ε,ψ,B.XJ _ ah,hs.setTail aa7⟩
     .obtain rfl:=ε HL.q
      obtain⟨⟨p2,q2,rfl⟩,e1,e2⟩:=φ (HD.q 8 au);have f:=B.x5;have α:=f.1;have β:=f.2.1;have γ:=f.2.2;go_simp;exact z _ _ ⟨π,ρ,ι,σ,τ,_,u4,C p2 (j.length+1) q2,uL,uP,lc,lx,ps,g1,g2,rfl,⟨f1,η,λ_=>HD.q 9 au,ζ,ξ⟩,f0,f4,(λq=>⟨(f2 q).1,λq3=>by cases q3.symm.trans (HD.q 3 au)⟩),(λq=>⟨(f7 q).1,(f7 q).2.1,λq8=>by cases q8.symm.trans (HD.q 8 au)⟩),(λq=>by cases q.symm.trans (HD.q 3 au)),υ,(λq=>by cases q.symm.trans (HD.q 8 au)),λ_=>⟨⟨p2,q2,rfl⟩,e1,e2⟩,
       f9,χ,(λq=>by cases q),λ_=>rfl,B.XK _ ah,hs.setTail aa7⟩
   .have g3:(x.er==0)=false:=aN.2 h0
    have g4:(x.er !=0)=N:=by simp[h0]
    have H0:=L h0;clear h0
    gi_wp2
    revert μ j5;generalize W3.alloc (G #[I J d.kind,C d.na d.nn d.nc,I J d.lvl,C d.va d.vn d.vc,.bool d.first,I J d.bits] 34)=Z0;intro μ j5;have Θ:Hid (Bx Z0 w.1.size #[C H 0 0]/\Bx Z0 (w.1.size+1) #[C H 0 0]/\Bx Z0 (w.1.size+2) #[I J 0]/\Bx Z0 (w.1.size+3) #[I J 0]):=L ⟨Δ.q.1.keep μ.q,Δ.q.2.1.keep μ.q,Δ.q.2.2.1.keep μ.q,Δ.q.2.2.2.keep μ.q⟩;have j8:=L (y3.q.keep μ.q);have m0:=Φ.q;refine vX 99 [(0,1),(1,1),(2,1),(3,2),(4,2),(5,2),(6,2)] (λW'=>W'.cell? ⟨X.1.size,1,H⟩=M (I J x.to)) (λ_=>True) au au au (j8.q.1 1) (trivial) ?_;refine qC ?_;refine aG rfl rfl (λK z=>?_);go_simp;have f:=Θ.q.1;have α:=f.1;have β:=f.2.1;have γ:=f.2.2;go_simp;refine z _ _ ⟨bP (j8.q.1 1) ah,trivial⟩ ?_;clear z K f α β γ;refine aG rfl rfl (λK z=>?_);go_simp;have f:=Θ.q.2.1;have α:=f.1;have β:=f.2.1;have γ:=f.2.2;go_simp;refine z _ _ ⟨bP (bP (j8.q.1 1) ah) ah,trivial⟩ ?_;clear z K f α β γ;refine aG rfl rfl (λK z=>?_);go_simp;have f:=Θ.q.2.2.1;have α:=f.1;have β:=f.2.1;have γ:=f.2.2;go_simp;refine z _ _ ⟨bP (bP (bP (j8.q.1 1) ah) ah) ah,trivial⟩ ?_;clear z K f α β γ;refine aG rfl rfl (λK z=>?_);go_simp;have f:=Θ.q.2.2.2;have α:=f.1;have β:=f.2.1;have γ:=f.2.2;go_simp;refine z _ _ ⟨bP (bP (bP (bP (j8.q.1 1) ah) ah) ah) ah,trivial⟩ ?_;clear z K f α β γ;refine aH ?_
    gi_wp2
    have hv:=y5.q;have Ψ:Same (λi=>i<w.1.size\/w.1.size+4<=i) Z0 ((((Z0.setCell ⟨w.1.size,0,H⟩ (C H 0 0)).setCell ⟨w.1.size+1,0,H⟩ (C H 0 0)).setCell ⟨w.1.size+2,0,H⟩ (I J x.to)).setCell ⟨w.1.size+3,0,H⟩ (I J x.er)).drew:=(((((Same.refl' Z0).setTail (A:=λi=>i<w.1.size\/w.1.size+4<=i) (λh=>aa6)).setTail (λh=>aa6)).setTail (λh=>aa6)).setTail (λh=>aa6)).mU;have j9:Same (λi=>i<w.1.size\/w.1.size+4<=i) X2 ((((Z0.setCell ⟨w.1.size,0,H⟩ (C H 0 0)).setCell ⟨w.1.size+1,0,H⟩ (C H 0 0)).setCell ⟨w.1.size+2,0,H⟩ (I J x.to)).setCell ⟨w.1.size+3,0,H⟩ (I J x.er)).drew:=(Same.of_below μ.q (λi _ hl=>hl)).tr Ψ;have T:∀{Q:World}{b o:Nat}{u:Value}{cs:Array Value}{g:Nat},Bx Q g cs->g≠b->Bx (Q.setCell ⟨b,o,H⟩ u) g cs:=λhq v1=>Same.bx (A:=λi=>i≠_) ((Same.refl' _).setTail (λh=>h rfl)) hq v1
    refine⟨⟨j9.block _ ah ah,j9.block _ ah ah⟩,⟨j9.size,λi hi hl=>j9.block i ah hl⟩,rfl,j9.below z3.q (λi hi=>aa6) z3.q.size,?_,?_,j,x,rfl,H0.q,?_,?_⟩
    .exact(T (T (T (Θ.q.1.set1 _) ah) ah) ah).drew
    .exact(T (T ((T Θ.q.2.1 ah).set1 _) ah) ah).drew
    .exact(T ((T (T Θ.q.2.2.1 ah) ah).set1 _) ah).drew
    .exact((T (T (T Θ.q.2.2.2 ah) ah) ah).set1 _).drew
end Yd
