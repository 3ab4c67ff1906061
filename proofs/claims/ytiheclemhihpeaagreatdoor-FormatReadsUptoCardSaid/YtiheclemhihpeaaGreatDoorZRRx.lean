import Derived.Test.YtiheclemhihpeaaGreatDoorZREqL
import Derived.Test.YtiheclemhihpeaaGreatDoorZLaidK
set_option linter.all false
set_option maxRecDepth 200000
set_option maxHeartbeats 8000000
namespace Yd
open Go Go.RowKit Go.Proofs Tryz
open Below renaming refl->I
open Go.IntKind renaming i64->D
open Go.Value renaming int->C
open RowKit renaming intOf->J
open Tryz renaming prog->H,ntmps36->L,func36->N
open Yd renaming hid->G
attribute [local go_sem] Oper.semAt_some
theorem abq{p:Prop}(h:p:=by rw[eD,α.q,List.all_append,E.q];simp[HV.q]):p:=h
theorem kinds {P:Nat->Prop}{k:Nat}(a:k<10)(h:P 0/\P 1/\P 2/\P 3/\P 4/\P 5/\P 6/\P 7/\P 8/\P 9):P k:=by
 rcases(by omega:k=0\/k=1\/k=2\/k=3\/k=4\/k=5\/k=6\/k=7\/k=8\/k=9) with rfl|rfl|rfl|rfl|rfl|rfl|rfl|rfl|rfl|rfl <;> simp_all only
theorem YP {k:Nat}(a:k<10)(W:World):(Instr.index 160 (.agg #[C D 0,C D 2,C D 2,C D 2,C D 2,C D 1,C D 1,C D 1,C D 2,C D 1]) (C D k)).run H W= .ok (C D (eU k)) W:=by
 apply kinds a;and_intros <;> kernel_rfl
theorem PE (k:Nat)(a:k<10)(w:World):Calls H 45 #[C D (k:Int)] w (nE (C D (eU k)) (C D (eU k+mY (iK k))) w):=by
 have b:=λW=>YP a W
 revert b;apply kinds a;and_intros
 all_goals
  simp only[Int.cast_ofNat_Int,eU];intro b;go_enter Tryz.func45,Tryz.ntmps45;go_wp2_with fail
  go_ret2
  exact⟨rfl,I _ _⟩
theorem Kr (k:Nat)(a:k<10)(n:Nat)(b:n<=1000000)(w:World):Calls H 79 #[C D (k:Int),C D (n:Int)] w (bT (C D (ze (iK k) ((n:Int) - eU k))) w):=by
 have c:wrap64 ((n:Int) - 2)=(n:Int) - 2:=IntWalk.wrap64_in _ ah
 apply kinds a;and_intros
 all_goals
  go_enter func79,ntmps79;go_wp2_with fail;go_ret;exact⟨rfl,I _ _⟩
theorem R5 (a:UInt8)(l:Bs):((⟨(a::l).toArray⟩:ByteArray)==(⟨#[]⟩:ByteArray))=false:=by
 show((a::l).toArray==#[])=false;simp
theorem Pm (a:UInt8)(l:Bs):((⟨(a::l).toArray⟩:ByteArray).toList==[])=false:=by
 have h:=yL ⟨(a::l).toArray⟩;rw[dW] at h
 cases c:(⟨(a::l).toArray⟩:ByteArray).toList with
 |nil=>rw[c] at h;simp at h
 |cons b t=>rfl
theorem G8 (t:To)(w:World):Calls H 81 #[iZ t] w (bT (.bool (toB t)) w):=by
 obtain⟨n,k⟩:=t;have c:=G (aB (I w.1.size w) (.cells #[.string ⟨n.toArray⟩,C D k] 61));have i:=G (Bx.new w #[.string ⟨n.toArray⟩,C D k] 61);by_cases d:k=0
 .subst d
  cases n
  all_goals
   simp only[toB,dG]
  case' cons a l=>rw[show decide ((⟨a::l,0⟩:To)=⟨[],0⟩)=false by simp];have j:=R5 a l;have m:=Pm a l
  all_goals
   go_enter func81,ntmps81;go_wp2_with fail;go_ret;exact⟨rfl,c.q⟩
 .have o:(k==0)=false:=aN.2 d
  have g:toB ⟨n,k⟩=(bW ⟨n.toArray⟩ && (decide (0<k) && decide (k<=999))):=by unfold toB;rw[ay d]
  rw[g];have h:=G (λW=>Fv ⟨n.toArray⟩ W);rw[Cm] at h;clear d g;generalize bW ⟨n.toArray⟩=b at*
  cases b <;> cases p:decide (0<k) <;> cases q:decide (k<=999)
  all_goals
   go_enter func81,ntmps81;go_wp2_with fail;refine(h.q _).mono ?_;rintro e r ⟨rfl,f⟩;have s:=(i.q.keep f).1
   replace c:=G (c.q.bL f);clear f
   go_wp2_with fail;go_ret;exact⟨rfl,c.q⟩
theorem MX {w:World}{B:Nat}{l:aW}{s:aK}(k:Nat)(hk:k<10)(h:dZ w B l s)(ξ:s.kind=(k:Int))(hn:s.names.length<=1000)(hv:s.aM.length<=1000):
  Calls H 36 #[dH l] w (bT (.bool (qB k s)) w):=by
 have ο:=G (h.2.1.row ah);have π:=G (h.2.2.row ah);obtain⟨⟨q1,q2,q3,q4,q5,q6⟩, -, -⟩:=h;obtain⟨lk,na,d,nc,r,va,m,vc,P,t⟩:=l;obtain⟨sk,δ,ω,ε,first,Γ⟩:=s;simp only at q1 q2 q3 q4 q5 q6 ξ hn hv ο π;subst q1 q2 q3 q4 ξ;obtain⟨y,hN⟩:∃y:Int,eU k=y:=⟨_,rfl⟩;obtain⟨M,hM⟩:∃M:Int,eU k+mY (iK k)=M:=⟨_,rfl⟩;obtain⟨z,hV⟩:∃z:Int,ze (iK k) ((d:Int) - eU k)=z:=⟨_,rfl⟩;have υ:Hid (∀W,Calls H 45 #[C D (k:Int)] W (nE (C D y) (C D M) W)):=G (λW=>by rw[<-hM,<-hN];exact PE k hk W);have φ:Hid (∀W,Calls H 79 #[C D (k:Int),C D (d:Int)] W (bT (C D z) W)):=G (λW=>by rw[<-hV];exact Kr k hk d ah W);have ρ:=G (λW=>QN r W);obtain⟨A,Q⟩:∃q,((k:Int)==1)=q:=⟨_,rfl⟩;obtain⟨c8,β⟩:∃q,((k:Int)==8)=q:=⟨_,rfl⟩;obtain⟨c9,γ⟩:∃q,((k:Int)==9)=q:=⟨_,rfl⟩;obtain⟨b1,h1⟩:∃q,decide ((d:Int)<y)=q:=⟨_,rfl⟩;obtain⟨b2,h2⟩:∃q,decide (M<(d:Int))=q:=⟨_,rfl⟩;obtain⟨b3,h3⟩:∃q,((m:Int)==z)=q:=⟨_,rfl⟩;obtain⟨b4,h4⟩:∃q,ε.all toB=q:=⟨_,rfl⟩;obtain⟨b5,h5⟩:∃q,δ.all (λx=>bW ⟨x.toArray⟩)=q:=⟨_,rfl⟩;obtain⟨R,u⟩:∃q,(r==0)=q:=⟨_,rfl⟩;obtain⟨b7,S⟩:∃q,iG r=q:=⟨_,rfl⟩;rw[S] at ρ;obtain⟨b8,T⟩:∃q,(t==0)=q:=⟨_,rfl⟩;obtain⟨σ,X⟩:∃q,decide (0<t)=q:=⟨_,rfl⟩;obtain⟨ζ,Y⟩:∃q,decide (t<16)=q:=⟨_,rfl⟩;obtain⟨η,hO⟩:∃η:Bool,η=qB k ⟨(k:Int),δ,r,ε,P,t⟩:=⟨_,rfl⟩;rw[<-hO];have HO:Hid (η=(!b1 && !b2 && b3 && b5 && b4 && (R && !A||A && b7) && (!P||c8) && (b8||c9 && σ && ζ))):=G (by
  have hr:(iK k==108)=A/\(iK k==109)=c8/\(iK k==103)=c9:=by
   subst Q β γ;apply kinds hk;decide
  have hl:R=true->b7=false:=λh=>by rw[<-S,eq_of_beq (u.trans h)];rfl
  rw[hO];unfold qB;dsimp only;rw[<-q5,<-q6,hV,hN,hr.1,hr.2.1,hr.2.2,show decide (y<=(d:Int))=!b1 by rw[<-h1,<-decide_not];exact decide_eq_decide.2 ah,show decide ((d:Int) - y<=mY (iK k))=!b2 by rw[<-h2,<-decide_not];exact decide_eq_decide.2 ah,show decide ((m:Int)=z)=b3 from h3,h4,h5,show(r !=0)=!R by rw[<-u];rfl,u,S,T,X,show decide (t<=15)=ζ by rw[<-Y];exact decide_eq_decide.2 ah];clear h1 h2 h3 h4 h5 u S T X Y
  cases b4 <;> cases b5 <;> cases R <;> cases A <;> cases b7 <;> simp_all[vD])
 have Δ:d<=1000:=by omega
 have Θ:m<=1000:=by omega
 have Ξ:(k:Int)<10:=by omega
 have Φ:decide (9<(k:Int))=false:=by simp;omega
 have HQ:=G (And.intro q5 q6);have H4:=G h4;have H5:=G h5;have θ:((k:Int)!=1)=!A:=by rw[<-Q];rfl
 have HC:=G (⟨θ,Q,β,γ,u,T,X,Y⟩:_/\_/\_/\_/\_/\_/\_/\_);clear hO hN hM hV q5 q6 hn hv h4 h5 θ Q β γ u S T X Y;have χ:((m:Int)!=z)=!b3:=by rw[<-h3];rfl
 have c:=G (Bx.new w #[C D (k:Int),.slice na d nc,C D r,.slice va m vc,.bool P,C D t] 34);have a:=G (aB (I w.1.size w) (.cells #[C D (k:Int),.slice na d nc,C D r,.slice va m vc,.bool P,C D t] 34));go_enter N,L;have n:=c.q.1;go_wp2_with fail;refine(υ.q _).mono ?_;rintro e w1 ⟨rfl,ι⟩
 replace c:=G (c.q.keep ι);replace a:=G (a.q.bL ι)
 clear ι n h3;have n:=c.q.1
 cases b1
 case' false=>cases b2
 case' false.false=>
  go_wp2_with fail;refine aD 99 [(0,0),(1,0),(2,0),(3,0),(4,0),(5,0),(6,0),(7,0),(8,0),(9,0),(10,0),(11,0),(12,0),(13,0),(14,0),(15,0),(16,0),(17,0),(18,0),(19,0),(20,0),(21,2),(22,0),(23,0)] (λ_=>True) (λW'=>Bx W' w.1.size _) au au (trivial) (c.q.drew) ?_;refine qC ?_;refine aG rfl rfl (λK hK=>?_);go_simp;refine(φ.q _).mono ?_;rintro e w2 ⟨rfl,κ⟩
  replace c:=G (c.q.drew.keep κ);replace a:=G (a.q.drew.trans (κ.mono a.q.drew.size))
  refine hK _ _ ⟨trivial,c.q⟩ ?_;clear hK K κ n;have n:=c.q.1;refine qC ?_;refine aH ?_
  cases b3
  case' true=>
   simp only[Bool.not_true];go_wp2_with fail;clear n χ h1 h2
   go_loopw [51] (λi wr=>∃j:Nat,j<=d/\i= C D j/\Below w2.1.size w2 wr/\(δ.take j).all (λx=>bW ⟨x.toArray⟩)=true) (λi _=>d - (J i).toNat)
   case atStart=>exact⟨0,aS _,rfl,I _ _,rfl⟩
   case' round=>
    obtain⟨j,hj,rfl,p,Z⟩:=hrel;have f:=G p;have E:=G Z;have ψ:=c;have τ:=a
    replace c:=G (c.q.keep p);replace a:=G (a.q.bL p)
    clear p Z;by_cases μ:j<d
    case' pos=>
     obtain⟨x,b,o,hx,rfl,F⟩:=(ο.q.below a.q rfl).at_ μ;have e0:=F 0 _ rfl;simp only[gP,bK] at e0;have α:=G hx;clear hx F;go_wp2_with fail;refine(Fv ⟨x.toArray⟩ _).mono ?_;rintro e w3 ⟨rfl,g⟩;rw[Cm]
     replace f:=G (f.q.bL g);replace c:=G (c.q.keep g);replace a:=G (a.q.bL g)
     clear g e0
     cases v:bW ⟨x.toArray⟩
     case' false=>obtain rfl:b5=false:=by rw[<-H5.q];exact List.all_eq_false.2 ⟨x,bS α.q,by rw[v];simp⟩
     case true=>
      have HV:=G v;clear v;go_wp2_with fail;go_roundw
      case rel=>exact⟨j+1,by omega,by go_num,f.q,abq⟩
      case measure=>simp[J];omega
    case' neg=>
     obtain rfl:d=j:=by omega
     obtain rfl:b5=true:=by rw[<-H5.q,<-E.q,eF (by have:=HQ.q;omega)]
     have n:=c.q.1;clear c a;go_wp2_with fail;clear n
     go_loopw [62] (λi wr=>∃j:Nat,j<=m/\i= C D j/\Below w2.1.size w2 wr/\(ε.take j).all toB=true) (λi _=>m - (J i).toNat)
     case atStart=>exact⟨0,aS _,rfl,f.q,rfl⟩
     case' round=>
      clear f E;obtain⟨j,hj,rfl,p,Z⟩:=hrel;have f:=G p;have E:=G Z;have c:=G (ψ.q.keep p);have a:=G (τ.q.bL p);clear p Z;by_cases μ:j<m
      case' pos=>
       obtain⟨x,b,o,hx,rfl,F⟩:=(π.q.below a.q rfl).at_ μ;have e0:=F 0 _ rfl;have e1:=F 1 _ rfl;simp only[bK] at e0;have α:=G hx;clear hx F;go_wp2_with fail;refine(G8 x _).mono ?_;rintro e w3 ⟨rfl,g⟩
       replace g:=(aB (I _ _) _).trans (g.mono ak)
       replace f:=G (f.q.bL g);replace c:=G (c.q.keep g);replace a:=G (a.q.bL g)
       clear g e0 e1
       cases v:toB x
       case' false=>obtain rfl:b4=false:=by rw[<-H4.q];exact List.all_eq_false.2 ⟨x,bS α.q,by rw[v];simp⟩
       case true=>
        have HV:=G v;clear v;go_wp2_with fail;go_roundw
        case rel=>exact⟨j+1,by omega,by go_num,f.q,abq⟩
        case measure=>simp[J];omega
      case' neg=>
       obtain rfl:m=j:=by omega
       obtain rfl:b4=true:=by rw[<-H4.q,<-E.q,eF (by have:=HQ.q;omega)]
       have n:=c.q.1;obtain⟨θ,Q,β,γ,u,T,X,Y⟩:=HC.q
       cases R <;> cases A
       case' false.true|true.true=>
        go_wp2_with fail;refine(ρ.q _).mono ?_;rintro e w4 ⟨rfl,ν⟩
        replace c:=G (c.q.keep ν);replace a:=G (a.q.bL ν)
        clear ν n;have n:=c.q.1
        cases b7
       all_goals cases P <;> cases c8 <;> cases b8 <;> (cases c9;rotate_left;cases σ <;> cases ζ)
 case' false.true|true=>
  go_wp2_with fail;refine aD 99 [(0,0),(1,0),(2,0),(3,0),(4,0),(5,0),(6,0),(7,0),(8,0),(9,0),(10,0),(11,0),(12,0),(13,0),(14,0),(15,0),(16,0),(17,0),(18,0),(19,0),(20,0),(21,0),(22,0),(23,0)] (λ_=>True) (λW'=>Bx W' w.1.size _) au au (trivial) (c.q.drew) ?_;refine qC ?_;refine aH ?_
  replace a:=G a.q.drew
 all_goals
  go_wp2_with fail;go_ret;exact⟨by rw[HO.q];rfl,a.q⟩
theorem FE {w:World}{B:Nat}{l:aW}{s:aK}(h:dZ w B l s)(b:s.names.length<=1000)(c:s.aM.length<=1000):
  Calls H 36 #[dH l] w (bT (.bool (lg s)) w):=by
 unfold lg;by_cases d:s.kind<0\/10<=s.kind
 .rw[show(decide (0<=s.kind) && decide (s.kind<10) && qB s.kind.toNat s)=false by simp;intros;omega]
  rw[<-h.1.1] at d
  cases e:decide (l.kind<0)
  case' false=>have f:decide (9<l.kind)=true:=by simp at e ⊢;omega
  all_goals
   go_enter N,L
   go_wp2
   go_ret;exact⟨rfl,aB (I _ _) _⟩
 .obtain⟨k,a⟩:∃k:Nat,s.kind=(k:Int):=⟨s.kind.toNat,by omega⟩
  rw[show(decide (0<=s.kind) && decide (s.kind<10) && qB s.kind.toNat s)=qB k s by rw[a,gF];simp;intros;omega];exact MX k ah h a b c
end Yd
