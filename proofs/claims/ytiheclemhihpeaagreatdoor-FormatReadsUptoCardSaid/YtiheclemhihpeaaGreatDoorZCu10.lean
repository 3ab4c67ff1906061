import Derived.Test.YtiheclemhihpeaaGreatDoorZCuL
set_option linter.all false
set_option maxRecDepth 200000
set_option maxHeartbeats 8000000
namespace Yd
open Bool renaming false->G,true->M
open Go Go.RowKit Go.Proofs Tryz
open Tryz renaming underlying9->I,prog->J
open Yd renaming hid->D
open _root_ renaming Int->C,trivial->H,UInt8->L
theorem wS{p:Prop}(h:p:=by simp[results,results32,go_sem,B]):p:=h
theorem aac{p:Prop}(h:p:=by have:=z.q;omega):p:=h
theorem glued (s:Bs)(p:Nat)(f:p<=s.length):∃(a:L)(d b c e:Bool),decide ((0:C)<(p:C))=d/\decide (0<p)=d/\(d=M->∀W:World,(Instr.index 9 (.string ⟨s.toArray⟩) (.int .i64 ((p:C) - 1))).run J W= .ok (.int .u8 a.toNat) W)/\
  ((a.toNat:C)==32)=b/\((a.toNat:C)!=32)=!b/\((a.toNat:C)==9)=c/\((a.toNat:C)!=9)=!c/\((a.toNat:C)==10)=e/\((a.toNat:C)!=10)=!e:=by
 refine⟨s[p - 1]?.getD 0,_,_,_,_,rfl,decide_eq_decide.2 ah,λh W=>?_,rfl,rfl,rfl,rfl,rfl,rfl⟩;have g:0<p:=by simpa using h
 have:=dQ I s (p - 1) (s[p - 1]?.getD 0) (by rw[dM ah];rfl) W
 rwa[show((p - 1:Nat):C)=(p:C) - 1 by omega] at this
theorem Sj {b:L}{t:Bs}(a:jF b=G)(c:dO (b::t)=G):b.toNat≠32/\b.toNat≠9/\b.toNat≠10/\b.toNat≠35:=by
 refine⟨λh=>?_,λh=>?_,λh=>?_,λh=>?_⟩
 .rw[show b=32 from gD.1 h] at a;revert a;decide
 .rw[show b=9 from gD.1 h] at a;revert a;decide
 .rw[show b=10 from gD.1 h] at c;simp[dO] at c
 .rw[show b=35 from gD.1 h] at c;simp[dO] at c
def Ew (b:L)(l:Bs)(p:Nat)(k:C)(d:Bs)(c a:C):Prop:=
 (a=0/\k=1/\bY l=M/\bB l<=24/\d=l.take (bB l)/\c=((p+bB l:Nat):C))\/
 (a≠0/\fE b=G/\bY l=M/\24<bB l/\c=((p+iE (l.take (bB l)):Nat):C))\/
 (bY l=G/\a=0/\k≠1)\/(bY l=G/\a≠0/\fE b=M)\/(bY l=G/\a≠0/\fE b=G/\c=(p:C))
def VA (b:L)(l:Bs)(p:Nat)(w:World)(e:Ending)(w':World):Prop:=
 ∃(k a:C)(c:Bs)(g:Bool)(d f:C),e= .returned (.tuple #[.agg (aF k a c g),.int .i64 d,.int .i64 f])/\Below w.1.size w w'/\Ew b l p k c d f
theorem Sk (b:L)(t:Bs):eu (sK (b::t))=fE b:=by
 rw[Bool.eq_iff_iff,ko];unfold eu;simp only[bD,bO];rcases jk b.toNat 128 with h|h
 .rw[(Cv t h).1];omega
 .rcases P6 t h with e|e <;> constructor <;> intro <;> omega
theorem M7 {c:C}(h:fF c=M)(k:C)(a:k=45\/k=46):(c==k)=G:=by
 unfold fF at h;simp only[tZ,bD,bO] at h;exact aN.2 ah
theorem Xa (s:Bs)(p:Nat)(l:Bs)(a:s.drop p=l)(b:p<=s.length)(c:s.length<=1000000)(m:Nat)(d:m<=l.length):∃(T:Bs)(q:Nat),T=l.take m/\T.length=m/\q=p+m/\(p:C)+(m:C)=(q:C)/\q<=2000000/\IntKind.i64.wrap (q:C)=(q:C)/\∀W:World,(Instr.slice 9 (.string ⟨s.toArray⟩) (some (.int .i64 (p:C))) (some (.int .i64 (q:C))) none).run J W= .ok (.string ⟨T.toArray⟩) W:=by
 have e:p+l.length=s.length:=by rw[<-a,dY];omega
 refine⟨_,_,rfl,by rw[dJ];omega,rfl,by omega,by omega,Go.IntWalk.i64_in _ ah,λW=>?_⟩;have:=DI I s p (p+m) ah ah W
 rwa[a,Nat.add_sub_cancel_left] at this
theorem M8 {b:L}{l:Bs}{w X:World}{B p q:Nat}{g:Bool}{T:Bs}{k:C}(e:Bx X B (aF 0 p [] g))(f:Bx X w.1.size (aF 0 0 [] G))(h:Below w.1.size w X)(c:w.1.size<B)(i:q=p+T.length)(j:q<=2000000)(hP:Ew b l p k T q 0):∃(Z:World)(d:C)(a:Bs)(g':Bool),(X.setCell ⟨B,0,none⟩ (.int .i64 k)).setCell ⟨B,2,none⟩ (.string ⟨T.toArray⟩)=Z/\Hid (Bx Z B (aF d p a g'))/\Hid (Bx Z w.1.size (aF 0 0 [] G))/\Hid (Below w.1.size w Z)/\Hid (Ew b l p d a q 0)/\ByteArray.size ⟨a.toArray⟩=a.length/\(p:C)+(a.length:C)=(q:C)/\IntKind.i64.wrap (q:C)=(q:C):=
 ⟨_,k,T,g,rfl,D ((e.aX 0 ak _).aX 2 ak _),D ((f.setOther B 0 _ ah).setOther B 2 _ ah),D ((h.setCell (p:=⟨B,0,none⟩) (Nat.le_of_lt c) _).setCell (p:=⟨B,2,none⟩) (Nat.le_of_lt c) _),D hP,dW T,by omega,Go.IntWalk.i64_in _ ah⟩
theorem Vf (s:Bs)(p:Nat)(b:L)(t:Bs)(x:s.drop p=b::t)(E:p<=s.length)(Y:s.length<=1000000)(ν:jF b=G)(ξ:dO (b::t)=G)(w:World):
  Calls J 32 #[.string ⟨s.toArray⟩,.int .i64 (p:C)] w (VA b (b::t) p w):=by
 have hz:=dW s;have q4:p<=1000000:=by omega
 have ο:p+(b::t).length=s.length:=by rw[<-x,dY];omega
 have q5:p<s.length:=by simp at ο;omega
 have q6:((p:C)==(s.length:C))=G:=aN.2 ah;have q7:(p==s.length)=G:=aN.2 ah;have Γ:=λW=>jg I s p E W
 rw[x] at Γ;have HF:=D (λW=>vH s (b::t) W ak);obtain⟨π,k9,η,ρ⟩:=Sj ν ξ;have Δ:=D (λW=>Mh s p b t x E Y η π k9 ρ W);have Θ:(sK (b::t)==10)=G:=aN.2 (λe=>η ((uU b t 10 ah).1 e));have θ:Hid (∀k:Nat,k<128->sK (b::t)=(k:C)->hdN (b::t)=1):=D (λk Q h=>(Cv t (by have:=(uU b t k Q).1 h;omega)).2);have σ:=D (Xa s p (b::t) x E Y);have Ξ:=D (rQ (b::t));have Φ:=D (λh=>OY s p b t x E Y ((ko b).1 h).1 ((ko b).1 h).2);obtain⟨o,ok,HW,Ψ⟩:∃(o:Nat)(ok:Bool),Hid (∀W,Calls J 56 #[.string ⟨s.toArray⟩,.int .i64 (p:C)] W (nE (.int .i64 (o:C)) (.bool ok) W))/\Hid ((ok=M/\bB (b::t)<=24/\o=p+bB (b::t))\/(ok=G/\24<bB (b::t)/\o=p+iE ((b::t).take (bB (b::t))))):=⟨_,_,D (λW=>Ry s p (b::t) x E Y W),D (by by_cases h:24<bB (b::t) <;> simp[h];omega)⟩;have y:=D (L9 b t);have F:=D (Sk b t);obtain⟨c,hc⟩:∃c,c=sK (b::t):=⟨_,rfl⟩;obtain⟨n,hn⟩:∃n,n=hdN (b::t):=⟨_,rfl⟩;rw[<-hc,<-hn] at HF θ;rw[<-hc] at Θ y F;have τ:=D (λW=>rO c W);have υ:=D (λW=>uO c W);obtain⟨dg,ι⟩:∃q,eu c=q:=⟨_,rfl⟩;obtain⟨lt,R⟩:∃q,fF c=q:=⟨_,rfl⟩;have φ:=D (show lt=M->(c==45)=G/\(c==46)=G/\dg=G from λh=>⟨M7 (R.trans h) 45 (.inl rfl),M7 (R.trans h) 46 (.inr rfl),ι▸J7 (R.trans h)⟩);rw[ι] at τ F;rw[R] at υ y;clear ο x hc hn ι R ξ ν π k9 η ρ;obtain⟨b0,d,Ω,e9,q0,q8,q9,hi,j0,j1,h9,j2,j3,j4⟩:=glued s p E
 cases d
 case' true=>
  replace hi:=hi rfl
  cases Ω
  case' false=>
   cases e9
   case' false=>cases q0
 case' false=>clear hi
 all_goals
  go_enter Tryz.func32,Tryz.ntmps32;go_wp2_with fail;refine(Δ.q _).mono ?_;rintro e w1 ⟨rfl,a⟩;have i:=D ((aB (Below.refl w.1.size w) (.cells (aF 0 0 [] G) 79)).trans (a.mono ak));have f:=D ((Bx.new w (aF 0 0 [] G) 79).keep a);clear a;go_wp2_with fail;refine(HF.q _).mono ?_;rintro e w2 ⟨rfl,a⟩;have z:=D (show w.1.size<w1.1.size from f.q.2.2)
  replace i:=D ((aB i.q (.cells (aF 0 p [] _) 79)).trans (a.mono (by have:=i.q.size;simp;omega)))
  replace f:=D ((f.q.alloc (.cells (aF 0 p [] _) 79)).keep a);have j:=D ((Bx.new w1 (aF 0 p [] _) 79).keep a)
  clear a;obtain⟨tb,χ⟩:∃tb,tb=w1.1.size:=⟨_,rfl⟩;rw[<-χ] at j z ⊢;clear χ
  cases q1:(c==46)
  case' false=>cases q2:(c==45)
  case' true|false.true=>
   have q3:n=1:=by first|exact θ.q 46 aj (eq_of_beq q1)|exact θ.q 45 aj (eq_of_beq q2)
   obtain⟨T,q,hT,α,P,A,β,γ,ψ⟩:=σ.q n (by simp;omega);have m:=D (show Ew b (b::t) p 3 T q 0 from .inr (.inr (.inl ⟨y.q.trans (by cases lt;rfl;have:=φ.q rfl;simp_all),rfl,by decide⟩)));have HT:=D (show q=p+T.length by omega);clear q3 hT α P;have δ:=j.q.1;have ε:=j.q.2.1;go_wp2_with fail;refine aD 99 [(0,0),(1,0),(2,0),(3,0),(4,0),(5,0),(6,0),(7,2),(8,0),(9,2)] (λ_=>True) (λ_=>True) au au H H ?_
  case' false.false=>
   go_wp2_with fail;refine(τ.q _).mono ?_;rintro e w3 ⟨rfl,a⟩
   replace i:=D (i.q.bL a);replace f:=D (f.q.keep a);replace j:=D (j.q.keep a)
   clear a
   cases dg
   case' true=>
    have ω:=D (show bY (b::t)=G from y.q.trans (by cases lt;rfl;have:=φ.q rfl;simp_all));go_wp2_with fail;refine(Φ.q F.q.symm _).mono ?_;rintro e w4 ⟨⟨u,kk,er,rfl,hu⟩,a⟩
    replace i:=D (i.q.bL a);replace f:=D (f.q.keep a);replace j:=D (j.q.keep a)
    clear a;by_cases ζ:er=0
    case' pos=>
     subst ζ;obtain⟨q,P⟩:∃q,q=p+u.length:=⟨_,rfl⟩;have A:(p:C)+(u.length:C)=(q:C):=by omega
     have κ:=dW u;have HT:=D P;have β:q<=2000000:=by omega
     clear P;have δ:=j.q.1;have ε:=j.q.2.1;go_wp2_with fail;clear A κ;obtain⟨Z,kd,T,g,S,j,f,i,m,κ,A,γ⟩:=M8 (b:=b) (l:=b::t) (k:=2) (T:=u) j.q f.q i.q z.q HT.q β (.inr (.inr (.inl ⟨ω.q,rfl,by decide⟩)));rw[S];clear δ ε S
    case neg=>
     have j5:(er !=0)=M:=by simp[bne,ζ]
     have m:=D (show Ew b (b::t) p 0 [] kk er from .inr (.inr (.inr (.inl ⟨ω.q,ζ,F.q.symm⟩))));clear ζ;have B:=f.q.1;have μ:=f.q.2.1;go_wp2_with fail;exact bodyPost_ret (v:= .tuple #[.agg (aF 0 0 [] G),.int .i64 kk,.int .i64 er]) wS rfl ⟨_,_,_,_,_,_,rfl,lY i.q,m.q⟩
   case' false=>
    go_wp2_with fail;refine(υ.q _).mono ?_;rintro e w4 ⟨rfl,a⟩
    replace i:=D (i.q.bL a);replace f:=D (f.q.keep a);replace j:=D (j.q.keep a)
    clear a
    cases lt
    case false=>
     have m:=D (show Ew b (b::t) p 0 [] (p:C) 120 from .inr (.inr (.inr (.inr ⟨y.q,by decide,F.q.symm,rfl⟩))));have B:=f.q.1;have μ:=f.q.2.1;go_wp2_with fail;exact bodyPost_ret (v:= .tuple #[.agg (aF 0 0 [] G),.int .i64 (p:C),.int .i64 120]) wS rfl ⟨_,_,_,_,_,_,rfl,lY i.q,m.q⟩
    case' true=>
     go_wp2_with fail;refine(HW.q _).mono ?_;rintro e w5 ⟨rfl,a⟩
     replace i:=D (i.q.bL a);replace f:=D (f.q.keep a);replace j:=D (j.q.keep a)
     clear a;rcases Ψ.q with⟨rfl,X,Q⟩|⟨rfl,X,Q⟩
     case' inl=>
      obtain⟨T,q,hT,α,P,A,β,γ,ψ⟩:=σ.q _ Ξ.q;obtain rfl:q=o:=by omega
      have m:=D (show Ew b (b::t) p 1 T q 0 from .inl ⟨rfl,rfl,y.q,X,hT,by omega⟩);have HT:=D (show q=p+T.length by omega);rw[<-α] at A;clear hT α P Q X;have δ:=j.q.1;have ε:=j.q.2.1;go_wp2_with fail;refine aD 99 [(0,0),(1,0),(2,0),(3,0),(4,0),(5,2),(6,0),(7,2)] (λ_=>True) (λ_=>True) au au H H ?_
     case inr=>
      have m:=D (show Ew b (b::t) p 0 [] (o:C) 120 from .inr (.inl ⟨by decide,F.q.symm,y.q,X,by omega⟩));clear X Q;have j6:(o:C)=o:=rfl;have B:=f.q.1;have μ:=f.q.2.1;go_wp2_with fail;exact bodyPost_ret (v:= .tuple #[.agg (aF 0 0 [] G),.int .i64 (o:C),.int .i64 120]) wS rfl ⟨_,_,_,_,_,_,rfl,lY i.q,m.q⟩
  any_goals
   refine qC ?_;refine aG rfl rfl (λK r=>?_);go_simp;refine r _ _ ⟨H,H⟩ ?_;clear r K;refine qC ?_;refine aG rfl rfl (λK r=>?_);go_simp;refine r _ _ ⟨H,H⟩ ?_;clear r K;refine aH ?_;clear A γ;obtain⟨Z,kd,T,g,S,j,f,i,m,κ,A,γ⟩:=M8 j.q f.q i.q z.q HT.q β m.q;rw[S]
   replace j:=D j.q.drew;replace f:=D f.q.drew;replace i:=D i.q.drew
   generalize Z.drew=Z at j f i ⊢;clear δ ε S ψ;have j7:=f.q.1;have j8:=f.q.2.1;go_wp2_with fail
  all_goals
   have B:=f.q.1;have μ:=f.q.2.1;refine aD 99 [(0,0),(1,0),(2,0),(3,0),(4,0),(5,0),(6,2),(7,0),(8,0)] (λ_=>True) (λW'=>Bx W' tb _) au au H j.q.drew ?_;refine qC ?_;refine aG rfl rfl (λK r=>?_);go_simp;refine r _ _ ⟨H,(((j.q.drew.setOther w.1.size 0 _ aac).setOther w.1.size 1 _ aac).setOther w.1.size 2 _ aac).setOther w.1.size 3 _ aac⟩ ?_;clear r K;refine qC ?_;refine aH ?_;go_wp2_with fail;exact bodyPost_ret (v:= .tuple #[.agg (aF kd p T g),.int .i64 (q:C),.int .i64 0]) wS rfl ⟨_,_,_,_,_,_,rfl,lY i.q.drew,m.q⟩
end Yd
