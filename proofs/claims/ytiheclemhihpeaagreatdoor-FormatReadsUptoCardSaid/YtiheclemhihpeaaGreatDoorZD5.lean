import Derived.Test.YtiheclemhihpeaaGreatDoorZRST
import Derived.Test.YtiheclemhihpeaaGreatDoorZFm14
set_option linter.all false
set_option maxRecDepth 200000
set_option maxHeartbeats 8000000
namespace Yd
open Option renaming none->G,some->N
open Go Go.RowKit Go.Proofs Tryz
open Go.IntKind renaming i64->D
open Go.RowKit renaming Hid->U
open Go.Value renaming int->C,slice->H,bool->J
open Yd renaming hid->I
attribute [local go_sem] Oper.semAt_some
theorem aaO{p:Prop}(h:p:=by have:=j2.q;omega):p:=h
theorem aaP{p:Prop}(h:p:=by have:=η.q;omega):p:=h
theorem aaQ{p:Prop}(h:p:=by unfold aT;simp only[<-η.q,σ.q];rfl):p:=h
theorem aaR{p:Prop}(h:p:=by rw[v3.q];exact decide_eq_decide.2 ⟨λh _=>h,λh=>h rfl⟩):p:=h
def NW (R:Nat)(d:Cont)(w:World)(e:Ending)(w':World):Prop:=
 e= .returned (.tuple #[])/\Same (λi=>i<R) w w'/\∃cs es ds ms g,jo w' R cs d es ds ms g/\(g && nH d.nl)=sI d
variable{s:aK}
theorem Gw (a:fo s)(h:s.kind≠1):s.lvl=0:=by
 rcases a.2.2 with q|q|q|q|q|q|q|q|q
 .exact absurd q.1 h
 all_goals exact q.2.2.2.1
theorem oW (c:Cont)(i:Nat)(s:Bs)(j:Nat):((c.put i s).nl j).length<=(c.nl j).length+1:=by
 show(if j=i then bV (c.nl i) s else c.nl j).length<=_
 split
 .rename_i h;subst h;unfold bV;split <;> simp
 .omega
theorem IY:∀(l:List (Bs × To))(c:Cont)(j:Nat),((c.sc l).1.nl j).length<=(c.nl j).length+2*l.length
 |[],_,_=>aC _
 |q::l,c,j=>by
  have a:=IY l ((c.put 2 q.1).bF q.2).1 j;have b:=oW c 2 q.1 j;have d:(((c.put 2 q.1).bF q.2).1.nl j).length<=((c.put 2 q.1).nl j).length+1:=by
   unfold Cont.bF
   split
   .exact Nat.le_succ _
   .exact oW _ 0 _ j
  show(((((c.put 2 q.1).bF q.2).1).sc l).1.nl j).length<=_;rw[iC];omega
variable{X:World}{R:Nat}{cs:Array Value}{c:Cont}{E:List EvC}{j:List aO}{k:List aP}{g:Bool}
theorem jo.Da (h:jo X R cs c E j k g):∃a q,cs[4]?=N (H a E.length q)/\X.cell? ⟨R,4,G⟩=N (H a E.length q)/\Own X (R+1) 50 9 dK (H a E.length q) E:=by
 obtain⟨v,b,d⟩:=h.s.e;obtain⟨a,q,rfl,_,_⟩:=d.shape;exact⟨a,q,b,(h.s.t.b.1 4).trans b,d⟩
def wW (w b:World)(R f h:Nat)(i:Array Value)(c:Cont)(s:aK)(d:List EvC)(j:List aO)(k:List aP):Prop:=
 ∃cs c' g a e,EvS w b R f h i cs c' d j k g a/\Own b (R+1) 148 3 bI a.val e/\aT c s=c'.ev a.base e/\Nm c c'/\g=(decide (a.kind=2->a.v.k<=999) && decide ((d.length:Int)<3000))
theorem EvS.xW {w:World}{B a:Nat}{d:Array Value}{ev:EvC}(h:EvS w X R B a d cs c E j k g ev):∃b,b=(g && nH c.nl)/\X.cell? ⟨R,8,G⟩=N (J b):=
 ⟨_,rfl,(h.r.s.t.b.1 8).trans h.r.k⟩
theorem EvS.fin {w:World}{B a:Nat}{d:Array Value}{c':Cont}{ev:EvC}{y:List Sn}(h:EvS w X R B a d cs c' E j k g ev)(f:Own X B 148 3 bI ev.val y)(ha:aT c s=c'.ev ev.base y)(l:Nm c c')(m:g=decide (ev.kind=2->ev.v.k<=999))(b:Bool)(n:b=(g && nH c'.nl)):
  wW w (X.setCell ⟨R,8,G⟩ (J (b && decide ((E.length:Int)<3000)))) R B a d c s E j k:=by
 refine⟨_,c',g && decide ((E.length:Int)<3000),ev,y,h.flag (by rw[n];cases g <;> cases nH c'.nl <;> cases decide ((E.length:Int)<3000) <;> rfl),(f.same (A:=λi=>i≠R) ((Same.refl' X).setTail (λh=>h rfl)) (λq o e=>by have:=(f.lt q o).1;have:=h.n;omega)).mono (by have:=h.n;omega),ha,l,by rw[m]⟩
theorem Vr (b:fo s):∃d r,s.names=d::r:=by
 have e:0<s.names.length:=by
  rcases b.2.2 with h|h|h|h|h|h|h|h|h
  all_goals
   obtain⟨_,h,_⟩:=h
   first|omega|(obtain⟨f,h,_⟩:=h;omega)
 match s.names,e with
 |a::l,_=>exact⟨a,l,rfl⟩
section
variable {R:Nat}{cs:Array Value}{c:Cont}{es:List EvC}{ds:List aO}{ms:List aP}
theorem R6 (l:aW)(s:aK)(w:World)(h:jo w R cs c es ds ms true)(hf:aR c)(hl:nQ w R l s)(hk:1<=s.kind/\s.kind<=6)(y7:fo s):
  Calls Tryz.prog 87 #[.pointer (N ⟨R,0,G⟩),dH l] w (NW R (aT c s) w):=by
 obtain⟨d,t,hn⟩:=Vr y7;obtain⟨B,E,b8,z5,b9⟩:=hl.name (i:=0) (x:=d) (by rw[hn];rfl);have y8:0<l.nn:=by rw[hl.k.2.2.2.2.1,hn];simp
 have f0:=hl;obtain⟨lk,la,Q,nc,ε,va,vn,vc,lf,α⟩:=l;obtain⟨k1,k2,k3,k4,k5,k6⟩:=hl.k;simp only at k1 k2 k3 k4 k5 k6 b8 y8;subst b8;have Γ:=I f0;have φ:=I y7;have η:=I k1;have j1:=I k2;have f1:=I k6;have p8:U (1<=lk/\lk<=6):=I (by rw[k1];exact hk);have HF:=I hf;have ρ:=I hn;have f2:=I z5;have j2:U (R<w.1.size):=I h.s.t.b.2.2;obtain⟨V,hV⟩:∃V,V=w.alloc (.cells #[C D lk,H (N ⟨B,E,G⟩) Q nc,C D ε,H va vn vc,J lf,C D α] 34):=⟨_,rfl⟩;have k7:U (Below w.1.size w V):=I (by rw[hV];exact aB (Below.refl w.1.size w) _);have HX:U (Bx V w.1.size #[C D lk,H (N ⟨B,E,G⟩) Q nc,C D ε,H va vn vc,J lf,C D α]):=I (by rw[hV];exact Bx.new w _ _);have y9:U (V.1.size=w.1.size+1):=I (by rw[hV];exact World.size_alloc _ _);have x0:U (V.cell? ⟨B,E,G⟩=N (.string ⟨d.toArray⟩)):=I (aZ k7.q rfl (by simpa using b9));have f3:=I (h.below k7.q.drew);have f4:U ((c.nl 0).length<=1000000):=I (by have:=hf.1 0 aj;have:=qo 0;omega);obtain⟨v4,h4,μ⟩:=h.s.e;have H4:=I h4;have f5:U (∀q,v4.ownBlock=N q->q<w.1.size):=I (λq hq=>(μ.lt q hq).2);have f6:U (∀x∈es,∀q,x.val.ownBlock=N q->q<w.1.size):=I (λx hx q hq=>by
  obtain⟨i,hi⟩:=qi.1 hx;obtain⟨M,hM⟩:∃M,c.SE[i]?=N M:=⟨_,dM (by have:=(bq.1 hi).1;have:=h.s.se.1;omega)⟩;exact((h.s.se.2 i x M hi hM).lt q hq).2)
 have z6:U (es.length=c.E.length):=I (by rw[<-h.s.be,bC]);have p9:U (es.map EvC.base=c.E):=I h.s.be;have Y9:(0:Int)<(Q:Int):=by omega
 have Za:0<Q:=y8;clear h hf hl y7 hk k1 k2 k3 k4 k5 k6 b9 z5 y8 hn h4 μ f0;go_enter func87,ntmps87;go_wp2_with fail;rw[<-hV];clear hV;refine jR 99 (.q 0 0 (.q 1 0 (.q 2 0 (.q 3 0 (.q 4 0 (.q 5 0 (.q 6 0 (.q 8 0 (.q 9 0 (.alt 7 (.q 10 0 (.l 11 (.l 12 .nil))) 11 (.l 7 (.q 10 0 (.l 12 .nil))))))))))))) (λ_=>True) (λW'=>Bx W' w.1.size #[C D lk,H (N ⟨B,E,G⟩) Q nc,C D ε,H va vn vc,J lf,C D α]/\W'.cell? ⟨B,E,G⟩=N (.string ⟨d.toArray⟩)) au au (trivial) (⟨HX.q.drew,x0.q⟩) ?_;refine qC ?_;refine⟨?ga,?gb⟩
 case' ga=>
  refine dF rfl rfl (λK u=>?_);go_simp;refine(Cr d _ f3.q f4.q).mono ?_;rintro e w1 ⟨rfl,hS,x1,hr,Y⟩;have Ξ:=hS.bx HX.q.drew aaO;have ν:=hS.cell (X:=V.drew) x0.q (by have:=f2.q;omega);refine u _ _ ⟨trivial,Ξ,ν⟩ ?_;clear u K;refine qC ?_;refine aG rfl rfl (λK u=>?_);go_simp;have x2:w.1.size+1<=w1.1.size:=by have:=hS.size;have:=y9.q;exact cO (Nat.le_of_eq this.symm) hS.size
  have z7:Same (λi=>i<R) w w1:=((Same.of_below k7.q.drew (λi hi hl=>hl)).mono (A':=λi=>i<R) (λi hi hl=>hl)).tr (hS.mono (λi hi _=>by omega));have F:U (EvS w (w1.alloc (.cells #[C D 0,C D 0,C D 0,C D 0,C D 0,C D 0,C D 0,C D 0,H G 0 0] 50)) R w1.1.size w.1.size #[C D lk,H (N ⟨B,E,G⟩) Q nc,C D ε,H va vn vc,J lf,C D α] x1 (c.put 0 d) es ds ms true ⟨0,0,0,0,0,⟨0,0⟩,0,G,0,0⟩):=I ⟨hr.below (aB (Below.refl _ _) _),Ξ.alloc _,Bx.new w1 _ _,⟨_,_,nR w1 _⟩,z7.tr (Same.of_below (aB (Below.refl _ _) _) (λi hi hl=>hl)),by have:=j2.q;omega,λv hv e=>by rw[Y 4 ah ah,H4.q] at hv;injection hv with hv;subst hv;have:=f5.q _ e;omega,λx hx q hq=>by have:=f6.q x hx q hq;omega⟩;refine u _ _ ⟨trivial,Ξ.alloc _,aZ (aB (Below.refl _ _) _) rfl ν⟩ ?_;obtain⟨f,Φ⟩:∃f,f=w1.1.size:=⟨_,rfl⟩;rw[<-Φ] at F ⊢;generalize w1.alloc (.cells #[C D 0,C D 0,C D 0,C D 0,C D 0,C D 0,C D 0,C D 0,H G 0 0] 50)=w2 at F ⊢;clear u K Ξ ν hr hS x2 z7 Φ Y
 case' gb=>
  refine dF rfl rfl (λK u=>?_);go_simp;have Δ:=aB (Below.refl V.drew.1.size V.drew) (.cells #[C D 0,C D 0,C D 0,C D 0,C D 0,C D 0,C D 0,C D 0,H G 0 0] 50);have Ξ:=HX.q.drew.alloc (.cells #[C D 0,C D 0,C D 0,C D 0,C D 0,C D 0,C D 0,C D 0,H G 0 0] 50);have ν:=aZ Δ rfl (show V.drew.cell? ⟨B,E,G⟩=_ from x0.q);refine u _ _ ⟨trivial,Ξ,ν⟩ ?_;clear u K;refine aG rfl rfl (λK u=>?_);go_simp;refine(Cr d _ (f3.q.below Δ) f4.q).mono ?_;rintro e w1 ⟨rfl,hS,x1,hr,Y⟩;have x2:V.1.size=w.1.size+1:=y9.q;have r0:V.drew.1.size=w.1.size+1:=y9.q;have f7:=hS.bx (Bx.new V.drew #[C D 0,C D 0,C D 0,C D 0,C D 0,C D 0,C D 0,C D 0,H G 0 0] 50) aaO;have x3:=hS.bx Ξ aaO;have z8:=hS.cell ν (by have:=f2.q;omega);have z7:Same (λi=>i<R) w w1:=((Same.of_below k7.q.drew (λi hi hl=>hl)).mono (A':=λi=>i<R) (λi hi hl=>hl)).tr (((Same.of_below Δ (λi hi hl=>hl)).mono (A':=λi=>i<R) (λi hi hl=>hl)).tr (hS.mono (λi hi _=>by omega)));have F:U (EvS w w1 R V.1.size w.1.size #[C D lk,H (N ⟨B,E,G⟩) Q nc,C D ε,H va vn vc,J lf,C D α] x1 (c.put 0 d) es ds ms true ⟨0,0,0,0,0,⟨0,0⟩,0,G,0,0⟩):=I ⟨hr,x3,f7,⟨_,_,(hS.block _ aaO (Bx.new V.drew #[C D 0,C D 0,C D 0,C D 0,C D 0,C D 0,C D 0,C D 0,H G 0 0] 50).2.2).trans (nR V.drew _)⟩,z7,by have:=j2.q;omega,λv hv e=>by rw[Y 4 ah ah,H4.q] at hv;injection hv with hv;subst hv;have:=f5.q _ e;omega,λx hx q hq=>by have:=f6.q x hx q hq;omega⟩;refine u _ _ ⟨trivial,x3,z8⟩ ?_;obtain⟨f,Φ⟩:∃f,f=V.1.size:=⟨_,rfl⟩;rw[<-Φ] at F ⊢;obtain⟨w2,f8⟩:∃w2,w2=w1:=⟨_,rfl⟩;rw[<-f8] at F ⊢;clear u K Ξ ν x3 z8 f7 hr hS x2 r0 z7 Φ Δ f8 Y;refine qC ?_
 all_goals
  have χ:=F.q.e.1;have ψ:=F.q.e.2.1;refine aG rfl rfl (λK u=>?_);go_simp;have HY:=I (F.q.all lk (c.no 0 d) 0 ε 0 0 0 0 G 0 0);generalize(((((((((w2.setCell ⟨f,0,G⟩ (C D lk)).setCell ⟨f,1,G⟩ (C D (c.no 0 d))).setCell ⟨f,2,G⟩ (C D 0)).setCell ⟨f,3,G⟩ (C D ε)).setCell ⟨f,4,G⟩ (C D 0)).setCell ⟨f,5,G⟩ (C D 0)).setCell ⟨f,6,G⟩ (C D 0)).setCell ⟨f,7,G⟩ (C D 0)).setCell ⟨f,8,G⟩ (H G 0 0))=W at HY ⊢;have hN:∀i x,s.names[i]?=N x->W.cell? ⟨B,E+i,G⟩=N (.string ⟨x.toArray⟩):=λi x hi=>by
   obtain⟨b,o,S,hb,q2⟩:=Γ.q.name hi;injection S with S;injection S with S q3;subst S q3;exact HY.q.s.cell q2 hb
  refine u _ _ ⟨trivial,HY.q.l,by have:=hN 0 d (by rw[ρ.q];rfl);simpa using this⟩ ?_;clear u K χ ψ F;refine aH ?_;have j3:=HY.q.l.1;have k8:=I hN;have f9:∀j,j<4->((c.put 0 d).nl j).length<=301:=λj hj=>by have:=oW c 0 d j;have:=HF.q.1 j hj;have:=qo j;omega
  have j4:=I f9;clear hN f9;rcases(by have:=p8.q;omega:lk=1\/lk=2\/lk=3\/lk=4\/lk=5\/lk=6) with rfl|rfl|rfl|rfl|rfl|rfl
  case' inl=>
   obtain⟨p,β⟩:∃p,s.names=[d,p]:=by obtain⟨a,b,q⟩:=names2 φ.q (.inl η.q.symm);rw[ρ.q] at q;injection q with S q2;exact⟨b,by rw[ρ.q,q2]⟩
   have ν:=k8.q 1 p (by rw[β];rfl);have σ:=I β;have Ω:(1:Int)<(Q:Int):=by have:=Γ.q.k.2.2.2.2.1;rw[β] at this;simp only[iC,nk] at this;omega
   have j5:1<Q:=by omega
   clear β;go_wp2_with fail;refine(K6 p W HY.q.r (by have:=j4.q 1 aj;omega)).mono ?_;rintro e w3 ⟨rfl,hS,z9,hr,Y⟩;have Z:=I (HY.q.call hS hr Y);have χ:=Z.q.e.1;have ψ:=Z.q.e.2.1;clear j3 ν hS hr Y Ω j5;have ο:U (EvS w (w3.setCell ⟨f,2,G⟩ (C D ((c.put 0 d).no 1 p))) R f w.1.size #[C D 1,H (N ⟨B,E,G⟩) Q nc,C D ε,H va vn vc,J lf,C D α] _ ((c.put 0 d).put 1 p) es ds ms true ⟨1,c.no 0 d,(c.put 0 d).no 1 p,ε,0,⟨0,0⟩,0,G,0,0⟩):=I (Z.q.set ⟨1,c.no 0 d,(c.put 0 d).no 1 p,ε,0,⟨0,0⟩,0,G,0,0⟩ (j:=2) (x:= C D ((c.put 0 d).no 1 p)) aj rfl);have P:U (Own (w3.setCell ⟨f,2,G⟩ (C D ((c.put 0 d).no 1 p))) f 148 3 bI (EvC.val ⟨1,c.no 0 d,(c.put 0 d).no 1 p,ε,0,⟨0,0⟩,0,G,0,0⟩) []/\aT c s=Cont.ev ((c.put 0 d).put 1 p) (EvC.base ⟨1,c.no 0 d,(c.put 0 d).no 1 p,ε,0,⟨0,0⟩,0,G,0,0⟩) []/\Nm c ((c.put 0 d).put 1 p)):=I ⟨Own.eH _ _ _ _ _,by unfold aT;simp only[<-η.q,σ.q,<-j1.q];rfl,(Nm.put c 0 d).trans (Nm.put _ 1 p)⟩;obtain⟨b,hb,h8⟩:=Z.q.xW;have κ:=Z.q.r.s.t.b.2.1 8;have ξ:=Z.q.r.s.t.b.2.2;obtain⟨a4,q4,h4,ζ,μ⟩:=Z.q.r.Da;have γ:f≠R:=by have:=Z.q.n;omega
   have ι:R≠f:=λe=>γ e.symm
   have θ:=I hb;clear hb h4 μ
   cases b
   case' false=>
    go_wp2_with fail;have HT:U (wW w ((w3.setCell ⟨f,2,G⟩ (C D ((c.put 0 d).no 1 p))).setCell ⟨R,8,G⟩ (J false)) R f w.1.size #[C D 1,H (N ⟨B,E,G⟩) Q nc,C D ε,H va vn vc,J lf,C D α] c s es ds ms):=I (ο.q.fin P.q.1 P.q.2.1 P.q.2.2 rfl false θ.q);generalize((w3.setCell ⟨f,2,G⟩ (C D ((c.put 0 d).no 1 p))).setCell ⟨R,8,G⟩ (J false))=W5 at HT ⊢;clear h8 κ ξ ζ γ ι
   case' true=>
    go_wp2_with fail;have HT:U (wW w ((w3.setCell ⟨f,2,G⟩ (C D ((c.put 0 d).no 1 p))).setCell ⟨R,8,G⟩ (J (decide ((es.length:Int)<3000)))) R f w.1.size #[C D 1,H (N ⟨B,E,G⟩) Q nc,C D ε,H va vn vc,J lf,C D α] c s es ds ms):=I (ο.q.fin P.q.1 P.q.2.1 P.q.2.2 rfl true θ.q);generalize((w3.setCell ⟨f,2,G⟩ (C D ((c.put 0 d).no 1 p))).setCell ⟨R,8,G⟩ (J (decide ((es.length:Int)<3000))))=W5 at HT ⊢;clear h8 κ ξ ζ γ ι
  case' inr.inr.inr.inr.inl=>
   have τ:ε=0:=by rw[j1.q];exact Gw φ.q aaP
   subst τ;have β:s.names=[d]:=by obtain⟨a,q⟩:=zY φ.q aaP;rw[ρ.q] at q;injection q with S q2;rw[ρ.q,q2]
   have σ:=I β;clear β;have ο:U (EvS w (W) R f w.1.size #[C D 5,H (N ⟨B,E,G⟩) Q nc,C D 0,H va vn vc,J lf,C D α] _ (c.put 0 d) es ds ms true ⟨5,c.no 0 d,0,0,0,⟨0,0⟩,0,G,0,0⟩):=I (HY.q);have P:U (Own (W) f 148 3 bI (EvC.val ⟨5,c.no 0 d,0,0,0,⟨0,0⟩,0,G,0,0⟩) []/\aT c s=Cont.ev (c.put 0 d) (EvC.base ⟨5,c.no 0 d,0,0,0,⟨0,0⟩,0,G,0,0⟩) []/\Nm c (c.put 0 d)):=I ⟨Own.eH _ _ _ _ _,aaQ,Nm.put c 0 d⟩;obtain⟨b,hb,h8⟩:=HY.q.xW;have κ:=HY.q.r.s.t.b.2.1 8;have ξ:=HY.q.r.s.t.b.2.2;obtain⟨a4,q4,h4,ζ,μ⟩:=HY.q.r.Da;have γ:f≠R:=by have:=HY.q.n;omega
   have ι:R≠f:=λe=>γ e.symm
   have θ:=I hb;clear hb h4 μ
   cases b
   case' false=>
    go_wp2_with fail;have HT:U (wW w ((W).setCell ⟨R,8,G⟩ (J false)) R f w.1.size #[C D 5,H (N ⟨B,E,G⟩) Q nc,C D 0,H va vn vc,J lf,C D α] c s es ds ms):=I (ο.q.fin P.q.1 P.q.2.1 P.q.2.2 rfl false θ.q);generalize((W).setCell ⟨R,8,G⟩ (J false))=W5 at HT ⊢;clear h8 κ ξ ζ γ ι
   case' true=>
    go_wp2_with fail;have HT:U (wW w ((W).setCell ⟨R,8,G⟩ (J (decide ((es.length:Int)<3000)))) R f w.1.size #[C D 5,H (N ⟨B,E,G⟩) Q nc,C D 0,H va vn vc,J lf,C D α] c s es ds ms):=I (ο.q.fin P.q.1 P.q.2.1 P.q.2.2 rfl true θ.q);generalize((W).setCell ⟨R,8,G⟩ (J (decide ((es.length:Int)<3000))))=W5 at HT ⊢;clear h8 κ ξ ζ γ ι
  case' inr.inr.inr.inr.inr=>
   have τ:ε=0:=by rw[j1.q];exact Gw φ.q aaP
   subst τ;have β:s.names=[d]:=by obtain⟨a,q⟩:=zY φ.q aaP;rw[ρ.q] at q;injection q with S q2;rw[ρ.q,q2]
   have σ:=I β;clear β;have ο:U (EvS w (W) R f w.1.size #[C D 6,H (N ⟨B,E,G⟩) Q nc,C D 0,H va vn vc,J lf,C D α] _ (c.put 0 d) es ds ms true ⟨6,c.no 0 d,0,0,0,⟨0,0⟩,0,G,0,0⟩):=I (HY.q);have P:U (Own (W) f 148 3 bI (EvC.val ⟨6,c.no 0 d,0,0,0,⟨0,0⟩,0,G,0,0⟩) []/\aT c s=Cont.ev (c.put 0 d) (EvC.base ⟨6,c.no 0 d,0,0,0,⟨0,0⟩,0,G,0,0⟩) []/\Nm c (c.put 0 d)):=I ⟨Own.eH _ _ _ _ _,aaQ,Nm.put c 0 d⟩;obtain⟨b,hb,h8⟩:=HY.q.xW;have κ:=HY.q.r.s.t.b.2.1 8;have ξ:=HY.q.r.s.t.b.2.2;obtain⟨a4,q4,h4,ζ,μ⟩:=HY.q.r.Da;have γ:f≠R:=by have:=HY.q.n;omega
   have ι:R≠f:=λe=>γ e.symm
   have θ:=I hb;clear hb h4 μ
   cases b
   case' false=>
    go_wp2_with fail;have HT:U (wW w ((W).setCell ⟨R,8,G⟩ (J false)) R f w.1.size #[C D 6,H (N ⟨B,E,G⟩) Q nc,C D 0,H va vn vc,J lf,C D α] c s es ds ms):=I (ο.q.fin P.q.1 P.q.2.1 P.q.2.2 rfl false θ.q);generalize((W).setCell ⟨R,8,G⟩ (J false))=W5 at HT ⊢;clear h8 κ ξ ζ γ ι
   case' true=>
    go_wp2_with fail;have HT:U (wW w ((W).setCell ⟨R,8,G⟩ (J (decide ((es.length:Int)<3000)))) R f w.1.size #[C D 6,H (N ⟨B,E,G⟩) Q nc,C D 0,H va vn vc,J lf,C D α] c s es ds ms):=I (ο.q.fin P.q.1 P.q.2.1 P.q.2.2 rfl true θ.q);generalize((W).setCell ⟨R,8,G⟩ (J (decide ((es.length:Int)<3000))))=W5 at HT ⊢;clear h8 κ ξ ζ γ ι
  case' inr.inl=>
   obtain⟨p,β⟩:∃p,s.names=[d,p]:=by obtain⟨a,b,q⟩:=names2 φ.q (.inr (.inl η.q.symm));rw[ρ.q] at q;injection q with S q2;exact⟨b,by rw[ρ.q,q2]⟩
   have ν:=k8.q 1 p (by rw[β];rfl);have σ:=I β;have Ω:(1:Int)<(Q:Int):=by have:=Γ.q.k.2.2.2.2.1;rw[β] at this;simp only[iC,nk] at this;omega
   have j5:1<Q:=by omega
   clear β;have τ:ε=0:=by rw[j1.q];exact Gw φ.q aaP
   subst τ;go_wp2_with fail;refine(zC p W HY.q.r (by have:=j4.q 2 aj;omega)).mono ?_;rintro e w3 ⟨rfl,hS,z9,hr,Y⟩;have Z:=I (HY.q.call hS hr Y);have π:U (aT c s=Cont.ev ((c.put 0 d).put 2 p) (EvC.base ⟨2,c.no 0 d,0,0,(c.put 0 d).no 2 p,⟨c.no 0 d,1+(fI c.E (c.no 0 d) ((c.put 0 d).no 2 p):Int)⟩,0,G,0,0⟩) []/\Nm c ((c.put 0 d).put 2 p)):=I ⟨by unfold aT;simp only[<-η.q,σ.q];rw[Int.add_comm];rfl,(Nm.put c 0 d).trans (Nm.put _ 2 p)⟩;obtain⟨c2,z8⟩:∃c2,c2=(c.put 0 d).put 2 p:=⟨_,rfl⟩;rw[<-z8] at Z π;obtain⟨T,hT⟩:∃T,T=c.no 0 d:=⟨_,rfl⟩;obtain⟨O,hO⟩:∃O,O=(c.put 0 d).no 2 p:=⟨_,rfl⟩;rw[<-hT,<-hO] at π;rw[<-hT] at Z;rw[<-hO];have χ:=Z.q.e.1;have ψ:=Z.q.e.2.1;clear j3 ν hS hr Y Ω j5 z8 hT hO;have ω:=I (((Z.q.set ⟨2,T,0,0,O,⟨0,0⟩,0,G,0,0⟩ (j:=4) (x:= C D O) aj rfl).set ⟨2,T,0,0,O,⟨T,0⟩,0,G,0,0⟩ (j:=5) (x:= C D T) aj rfl).set ⟨2,T,0,0,O,⟨T,1⟩,0,G,0,0⟩ (j:=6) (x:= C D 1) aj rfl);obtain⟨a4,q4,h4,ζ,μ⟩:=Z.q.r.Da;have γ:f≠R:=by have:=Z.q.n;omega
   have ι:R≠f:=λe=>γ e.symm
   have g0:U (es.length<=3000):=I (by rw[z6.q];exact HF.q.2.1);have r1:=I h4;have r2:es.length<=3000:=g0.q;have r3:=(μ.row (hc:=oG) ah).cap;clear h4 μ;obtain⟨n,hn⟩:∃n,n=es.length:=⟨_,rfl⟩;have v1:=I hn;rw[<-hn] at ζ r2 r3;clear hn;go_wp2_with fail;clear ζ χ ψ γ ι
   go_loopw [50] (λi wr=>∃k:Nat,k<=n/\i= C D k/\EvS w wr R f w.1.size #[C D 2,H (N ⟨B,E,G⟩) Q nc,C D 0,H va vn vc,J lf,C D α] z9 c2 es ds ms true ⟨2,T,0,0,O,⟨T,1+(fI (c.E.take k) T O:Int)⟩,0,G,0,0⟩) (λi _=>n - (RowKit.intOf i).toNat)
   case' atStart=>exact⟨0,aS _,rfl,ω.q⟩
   case' round=>
    obtain⟨k,hk,rfl,hz⟩:=hrel;have F:=I hz;clear hz;by_cases j6:k<n
    .obtain⟨a5,q5,h5,g1,k9⟩:=F.q.r.Da
     rw[r1.q] at h5;injection h5 with h5;injection h5 with r4 _ r5;subst r4 r5;obtain⟨y,b,o,hy,rfl,hc⟩:=(k9.row (hc:=oG) (by have:=g0.q;omega)).at_ (by rw[<-v1.q];exact j6);have j7:U (c.E.take (k+1)=c.E.take k++[y.base]):=I (by rw[eD,<-p9.q,kY,hy];rfl);have z5:=aB (Below.refl wr.1.size wr) (.cells (aY y) 50);have j8:=I (F.q.below z5);have r6:=I (Bx.new wr (aY y) 50);have g2:U (fI (c.E.take k) T O<=3000):=I (by have:=zy (c.E.take k) T O;rw[dJ,<-z6.q,<-v1.q] at this;omega);have h0:=hc 0 _ rfl;have h1:=hc 1 _ rfl;have h2:=hc 2 _ rfl;have h3:=hc 3 _ rfl;have h4:=hc 4 _ rfl;have h5:=hc 5 _ rfl;have h6:=hc 6 _ rfl;have h7:=hc 7 _ rfl;have h8:=hc 8 _ rfl;simp only[bK] at h0;obtain⟨ek,et,es_,el,eo,⟨evt,evk⟩,ep,ea,en,eq⟩:=y;have hcB:=r6.q.1;have y0:=j8.q.e.1;have hfE:=j8.q.e.2.1;clear hc g1 k9 hy z5;by_cases S:ek=2
     .subst S
      by_cases q2:et=T
      .subst q2
       by_cases q3:eo=O
       .subst q3
        obtain⟨m,hm⟩:∃m:Nat,m=fI (c.E.take k) et eo:=⟨_,rfl⟩;have HM:=I hm;rw[<-hm] at y0 g2;have hmb:m<=3000:=g2.q;have hw1:wrap64 (1+(m:Int)+1)=1+((m+1:Nat):Int):=by unfold wrap64;omega
        clear hm;go_wp2_with fail;go_roundw
        case rel=>
         refine⟨k+1,by omega,by go_num,?_⟩;have e:(fI (c.E.take (k+1)) et eo:Int)=((m+1:Nat):Int):=by rw[j7.q,lF,<-HM.q,aA ⟨rfl,rfl,rfl⟩]
         rw[e];exact j8.q.set ⟨2,et,0,0,eo,⟨et,1+((m+1:Nat):Int)⟩,0,G,0,0⟩ (j:=6) (x:= C D (1+((m+1:Nat):Int))) aj rfl
        case measure=>simp[RowKit.intOf];omega
       .have g3:(eo==O)=false:=aN.2 q3
        have HQ:=I q3;clear q3;go_wp2_with fail;go_roundw
        case rel=>exact⟨k+1,by omega,by go_num,by rw[j7.q,lF,ay (λh=>HQ.q h.2.2)];exact j8.q⟩
        case measure=>simp[RowKit.intOf];omega
      .have g3:(et==T)=false:=aN.2 q2
       have HQ:=I q2;clear q2;go_wp2_with fail;go_roundw
       case rel=>exact⟨k+1,by omega,by go_num,by rw[j7.q,lF,ay (λh=>HQ.q h.2.1)];exact j8.q⟩
       case measure=>simp[RowKit.intOf];omega
     .have g3:(ek==2)=false:=aN.2 S
      have HQ:=I S;clear S;go_wp2_with fail;go_roundw
      case rel=>exact⟨k+1,by omega,by go_num,by rw[j7.q,lF,ay (λh=>HQ.q h.1)];exact j8.q⟩
      case measure=>simp[RowKit.intOf];omega
    obtain rfl:n=k:=by omega
    have v2:c.E.take n=c.E:=eF (by rw[<-z6.q,<-v1.q];exact aC _);rw[v2] at F;obtain⟨K9,g4⟩:∃K9:Int,K9=1+(fI c.E T O:Int):=⟨_,rfl⟩;rw[<-g4] at F π;obtain⟨o9,x4⟩:∃o9,o9=decide (K9<=999):=⟨_,rfl⟩;have v3:=I x4;obtain⟨b,hb,h8⟩:=F.q.xW;have κ:=F.q.r.s.t.b.2.1 8;obtain⟨a5,q5,h5,g1,k9⟩:=F.q.r.Da;have y0:=F.q.e.1;have ξ:=F.q.r.s.t.b.2.2;have γ:f≠R:=by have:=F.q.n;omega
    have ι:R≠f:=λe=>γ e.symm
    have θ:=I hb;have Zb:=x4.symm;have j9:U (∀b1,b1=(b && o9)->EvS w (wr.setCell ⟨R,8,G⟩ (J b1)) R f w.1.size #[C D 2,H (N ⟨B,E,G⟩) Q nc,C D 0,H va vn vc,J lf,C D α] (z9.setIfInBounds 8 (J b1)) c2 es ds ms o9 ⟨2,T,0,0,O,⟨T,K9⟩,0,G,0,0⟩/\b1=(o9 && nH c2.nl)):=I (λb1 h1=>by
     have e:b1=(o9 && nH c2.nl):=by rw[h1,θ.q,Bool.true_and,Bool.and_comm]
     exact⟨F.q.flag e,e⟩)
    clear hb h5 k9 v2 g4 x4 hk j6
    cases b
    case' false=>
     go_wp2_with fail;have HT:U (wW w ((wr.setCell ⟨R,8,G⟩ (J false)).setCell ⟨R,8,G⟩ (J false)) R f w.1.size #[C D 2,H (N ⟨B,E,G⟩) Q nc,C D 0,H va vn vc,J lf,C D α] c s es ds ms):=I ((j9.q false rfl).1.fin (Own.eH _ _ _ _ _) π.q.1 π.q.2 aaR false (j9.q false rfl).2);generalize((wr.setCell ⟨R,8,G⟩ (J false)).setCell ⟨R,8,G⟩ (J false))=W5 at HT ⊢
    case' true=>
     cases o9
     case' false=>
      go_wp2_with fail;have HT:U (wW w ((wr.setCell ⟨R,8,G⟩ (J false)).setCell ⟨R,8,G⟩ (J false)) R f w.1.size #[C D 2,H (N ⟨B,E,G⟩) Q nc,C D 0,H va vn vc,J lf,C D α] c s es ds ms):=I ((j9.q false rfl).1.fin (Own.eH _ _ _ _ _) π.q.1 π.q.2 aaR false (j9.q false rfl).2);generalize((wr.setCell ⟨R,8,G⟩ (J false)).setCell ⟨R,8,G⟩ (J false))=W5 at HT ⊢
     case' true=>
      go_wp2_with fail;have HT:U (wW w ((wr.setCell ⟨R,8,G⟩ (J true)).setCell ⟨R,8,G⟩ (J (decide ((es.length:Int)<3000)))) R f w.1.size #[C D 2,H (N ⟨B,E,G⟩) Q nc,C D 0,H va vn vc,J lf,C D α] c s es ds ms):=I ((j9.q true rfl).1.fin (Own.eH _ _ _ _ _) π.q.1 π.q.2 aaR true (j9.q true rfl).2);generalize((wr.setCell ⟨R,8,G⟩ (J true)).setCell ⟨R,8,G⟩ (J (decide ((es.length:Int)<3000))))=W5 at HT ⊢
  case' inr.inr.inl=>
   obtain⟨p,β⟩:∃p,s.names=[d,p]:=by obtain⟨a,b,q⟩:=names2 φ.q (.inr (.inr η.q.symm));rw[ρ.q] at q;injection q with S q2;exact⟨b,by rw[ρ.q,q2]⟩
   have ν:=k8.q 1 p (by rw[β];rfl);have σ:=I β;have Ω:(1:Int)<(Q:Int):=by have:=Γ.q.k.2.2.2.2.1;rw[β] at this;simp only[iC,nk] at this;omega
   have j5:1<Q:=by omega
   clear β;have τ:ε=0:=by rw[j1.q];exact Gw φ.q aaP
   subst τ;obtain⟨v0,hv⟩:=P8 φ.q η.q.symm;obtain⟨vb,vo,v5,q6,q7,q8⟩:=Γ.q.bF (i:=0) (x:=v0) (by rw[hv];rfl);have x5:vn=1:=by have:=f1.q;rw[hv] at this;simpa using this
   simp only at v5;subst v5 x5;simp only[Nat.zero_mul,bK] at q7 q8;obtain⟨δ,vk⟩:=v0;have HV:=I hv;have υ:U (∀X,Same (λi=>i<R) w X->X.cell? ⟨B,E+1,G⟩=N (.string ⟨p.toArray⟩)/\X.cell? ⟨vb,vo,G⟩=N (.string ⟨δ.toArray⟩)/\X.cell? ⟨vb,vo+1,G⟩=N (C D vk)):=I (λX hX=>by
    obtain⟨b,o,S,hb,q2⟩:=Γ.q.name (i:=1) (x:=p) (by rw[σ.q];rfl);injection S with S;injection S with S q3;subst S q3;exact⟨hX.cell q2 hb,hX.cell q7 q6,hX.cell q8 q6⟩)
   have y1:=I (HY.q.below (Below.refl _ _).drew);clear hv q6 q7 q8 ν;go_wp2_with fail;refine aD 99 [(0,0),(1,0),(2,0),(3,0),(4,0),(6,0),(7,0),(8,0),(9,0),(10,0),(5,2),(12,0),(11,2),(13,2),(14,0),(15,2)] (λ_=>True) (λW'=>Bx W' w.1.size #[C D 3,H (N ⟨B,E,G⟩) Q nc,C D 0,H (N ⟨vb,vo,G⟩) 1 vc,J lf,C D α]/\W'.cell? ⟨B,E+1,G⟩=N (.string ⟨p.toArray⟩)/\W'.cell? ⟨vb,vo,G⟩=N (.string ⟨δ.toArray⟩)/\W'.cell? ⟨vb,vo+1,G⟩=N (C D vk)) au au (trivial) (⟨y1.q.l,υ.q _ y1.q.s⟩) ?_;refine qC ?_;refine aG rfl rfl (λK u=>?_);go_simp;refine(zC p W.drew y1.q.r (by have:=j4.q 2 aj;omega)).mono ?_;rintro e w3 ⟨rfl,hS,z9,hr,Y⟩;have Z:=I (y1.q.call hS hr Y);refine u _ _ ⟨trivial,Z.q.l,υ.q _ Z.q.s⟩ ?_;clear u K hS hr Y j3 Ω;refine qC ?_;refine aG rfl rfl (λK u=>?_);go_simp;refine(D8 ⟨δ,vk⟩ w3 Z.q.r (by have:=j4.q 0 aj;have:=oW (c.put 0 d) 2 p 0;omega)).mono ?_;rintro e w4 ⟨rfl,hS,cs4,hr,Y⟩;have ω:=I (Z.q.call hS hr Y);refine u _ _ ⟨trivial,ω.q.l,υ.q _ ω.q.s⟩ ?_;clear u K hS hr Y;have x6:U (aT c s=Cont.ev (((c.put 0 d).put 2 p).bF ⟨δ,vk⟩).1 (EvC.base ⟨3,c.no 0 d,0,0,(c.put 0 d).no 2 p,(((c.put 0 d).put 2 p).bF ⟨δ,vk⟩).2,0,G,0,0⟩) []/\Nm c (((c.put 0 d).put 2 p).bF ⟨δ,vk⟩).1):=I ⟨by unfold aT;simp only[<-η.q,σ.q,HV.q];rfl,((Nm.put c 0 d).trans (Nm.put _ 2 p)).trans (Nm.bF _ _)⟩;obtain⟨c4,x7⟩:∃c4,c4=(((c.put 0 d).put 2 p).bF ⟨δ,vk⟩).1:=⟨_,rfl⟩;obtain⟨tv,x8⟩:∃tv,tv=(((c.put 0 d).put 2 p).bF ⟨δ,vk⟩).2:=⟨_,rfl⟩;rw[<-x7,<-x8] at x6;rw[<-x7] at ω;rw[<-x8];obtain⟨q9,z0⟩:=tv;clear x7 x8;have χ:=ω.q.e.1;have ψ:=ω.q.e.2.1;refine aG rfl rfl (λK u=>?_);go_simp;have z1:=I (ω.q.set ⟨3,c.no 0 d,0,0,(c.put 0 d).no 2 p,⟨0,0⟩,0,G,0,0⟩ (j:=4) (x:= C D ((c.put 0 d).no 2 p)) aj rfl);refine u _ _ ⟨trivial,z1.q.l,υ.q _ z1.q.s⟩ ?_;generalize(w4.setCell ⟨f,4,G⟩ (C D ((c.put 0 d).no 2 p)))=w5 at z1 ⊢;clear u K χ ψ;have χ:=z1.q.e.1;have ψ:=z1.q.e.2.1;refine qC ?_;refine aG rfl rfl (λK u=>?_);go_simp;have Θ:=I ((z1.q.set ⟨3,c.no 0 d,0,0,(c.put 0 d).no 2 p,⟨q9,0⟩,0,G,0,0⟩ (j:=5) (x:= C D q9) aj rfl).set ⟨3,c.no 0 d,0,0,(c.put 0 d).no 2 p,⟨q9,z0⟩,0,G,0,0⟩ (j:=6) (x:= C D z0) aj rfl);refine u _ _ ⟨trivial,Θ.q.l,υ.q _ Θ.q.s⟩ ?_;generalize((w5.setCell ⟨f,5,G⟩ (C D q9)).setCell ⟨f,6,G⟩ (C D z0))=W4 at Θ ⊢;clear u K χ ψ;refine aH ?_;have ο:U (EvS w (W4) R f w.1.size #[C D 3,H (N ⟨B,E,G⟩) Q nc,C D 0,H (N ⟨vb,vo,G⟩) 1 vc,J lf,C D α] _ c4 es ds ms true ⟨3,c.no 0 d,0,0,(c.put 0 d).no 2 p,⟨q9,z0⟩,0,G,0,0⟩):=I (Θ.q);have P:U (Own (W4) f 148 3 bI (EvC.val ⟨3,c.no 0 d,0,0,(c.put 0 d).no 2 p,⟨q9,z0⟩,0,G,0,0⟩) []/\aT c s=Cont.ev c4 (EvC.base ⟨3,c.no 0 d,0,0,(c.put 0 d).no 2 p,⟨q9,z0⟩,0,G,0,0⟩) []/\Nm c c4):=I ⟨Own.eH _ _ _ _ _,x6.q.1,x6.q.2⟩;obtain⟨b,hb,h8⟩:=Θ.q.xW;have κ:=Θ.q.r.s.t.b.2.1 8;have ξ:=Θ.q.r.s.t.b.2.2;obtain⟨a4,q4,h4,ζ,μ⟩:=Θ.q.r.Da;have γ:f≠R:=by have:=Θ.q.n;omega
   have ι:R≠f:=λe=>γ e.symm
   have θ:=I hb;clear hb h4 μ
   cases b
   case' false=>
    go_wp2_with fail;have HT:U (wW w ((W4).setCell ⟨R,8,G⟩ (J false)) R f w.1.size #[C D 3,H (N ⟨B,E,G⟩) Q nc,C D 0,H (N ⟨vb,vo,G⟩) 1 vc,J lf,C D α] c s es ds ms):=I (ο.q.fin P.q.1 P.q.2.1 P.q.2.2 rfl false θ.q);generalize((W4).setCell ⟨R,8,G⟩ (J false))=W5 at HT ⊢;clear h8 κ ξ ζ γ ι
   case' true=>
    go_wp2_with fail;have HT:U (wW w ((W4).setCell ⟨R,8,G⟩ (J (decide ((es.length:Int)<3000)))) R f w.1.size #[C D 3,H (N ⟨B,E,G⟩) Q nc,C D 0,H (N ⟨vb,vo,G⟩) 1 vc,J lf,C D α] c s es ds ms):=I (ο.q.fin P.q.1 P.q.2.1 P.q.2.2 rfl true θ.q);generalize((W4).setCell ⟨R,8,G⟩ (J (decide ((es.length:Int)<3000))))=W5 at HT ⊢;clear h8 κ ξ ζ γ ι
  case' inr.inr.inr.inl=>
   have τ:ε=0:=by rw[j1.q];exact Gw φ.q aaP
   subst τ;obtain⟨p,t,β,x9,g5⟩:∃p t,s.names=d::p::t/\s.aM.length=t.length/\t.length<=40:=by
    obtain⟨a,b,r,S,q2,q3⟩:=Kz φ.q η.q.symm;rw[ρ.q] at S;injection S with S q4;exact⟨b,r,by rw[ρ.q,q4],q2,q3⟩
   have ν:=k8.q 1 p (by rw[β];rfl);have σ:=I β;have b0:=I x9;have g6:=I g5;have r7:Q=t.length+2:=by have:=Γ.q.k.2.2.2.2.1;rw[β] at this;simpa using this
   have x5:vn=t.length:=by have:=f1.q;rw[x9] at this;simpa using this
   subst r7 x5;have Ω:(1:Int)<((t.length+2:Nat):Int):=by omega
   have j5:1<t.length+2:=by omega
   clear β x9 g5;go_wp2_with fail;refine(K7 p W HY.q.r (by have:=j4.q 3 aj;omega)).mono ?_;rintro e w3 ⟨rfl,hS,z9,hr,Y⟩;have Z:=I (HY.q.call hS hr Y);have π:U (aT c s=Cont.ev (((c.put 0 d).put 3 p).sc (t.zip s.aM)).1 ⟨4,c.no 0 d,0,0,0,⟨0,0⟩,(c.put 0 d).no 3 p,G,0,0⟩ (((c.put 0 d).put 3 p).sc (t.zip s.aM)).2/\Nm c (((c.put 0 d).put 3 p).sc (t.zip s.aM)).1):=I ⟨aaQ,((Nm.put c 0 d).trans (Nm.put _ 3 p)).trans (Nm.sc _ _)⟩;have g7:U (∀j,j<4->(((c.put 0 d).put 3 p).nl j).length<=302):=I (λj hj=>by have:=j4.q j hj;have:=oW (c.put 0 d) 3 p j;omega);obtain⟨c3,g8⟩:∃c3,c3=(c.put 0 d).put 3 p:=⟨_,rfl⟩;rw[<-g8] at Z π g7;obtain⟨T,hT⟩:∃T,T=c.no 0 d:=⟨_,rfl⟩;obtain⟨O,hO⟩:∃O,O=(c.put 0 d).no 3 p:=⟨_,rfl⟩;rw[<-hT,<-hO] at π;rw[<-hT] at Z;rw[<-hO];have χ:=Z.q.e.1;have ψ:=Z.q.e.2.1;clear j3 ν hS hr Y Ω j5 g8 hT hO;have ω:=I (Z.q.set ⟨4,T,0,0,0,⟨0,0⟩,O,G,0,0⟩ (j:=7) (x:= C D O) aj rfl);have j3:=Z.q.l.1;have Φ:f≠w.1.size:=by have:=Z.q.n;omega
   have r8:w.1.size≠f:=λe=>Φ e.symm
   obtain⟨i,z,hi⟩:=Ag;have HI:=I hi;clear hi;have r9:t.length<=40:=g6.q;go_wp2_with fail;clear j3 χ ψ Φ r8
   go_loopw [119] (λi wr=>∃(k:Nat)(a0:Option Addr)(q0:Nat)(cs':Array Value),k<=t.length/\i= C D k/\EvS w wr R f w.1.size #[C D 4,H (N ⟨B,E,G⟩) (t.length+2) nc,C D 0,H va t.length vc,J lf,C D α] cs' (c3.sc ((t.zip s.aM).take k)).1 es ds ms true ⟨4,T,0,0,0,⟨0,0⟩,O,a0,k,q0⟩/\Own wr f 148 3 bI (H a0 k q0) (c3.sc ((t.zip s.aM).take k)).2) (λi _=>t.length - (RowKit.intOf i).toNat)
   case' atStart=>exact⟨0,G,0,_,aS _,rfl,ω.q,Own.eH _ _ _ _ _⟩
   case' round=>
    obtain⟨k,a0,q0,cs5,hk,rfl,hz,g9⟩:=hrel;have F:=I hz;have z2:=I g9;clear hz g9;by_cases j6:k<t.length
    .obtain⟨nm,b2⟩:∃nm,t[k]?=N nm:=⟨_,dM j6⟩
     obtain⟨v0,τ⟩:∃v0,s.aM[k]?=N v0:=⟨_,dM (by rw[b0.q];exact j6)⟩;obtain⟨vb,vo,v5,q6,q7,q8⟩:=Γ.q.bF τ;simp only at v5;subst v5;obtain⟨δ,vk⟩:=v0;have j7:U ((t.zip s.aM).take (k+1)=(t.zip s.aM).take k++[(nm,⟨δ,vk⟩)]):=I (by rw[eD,(List.getElem?_zip_eq_some.2 ⟨b2,τ⟩:(t.zip s.aM)[k]?=N (nm,⟨δ,vk⟩))];rfl);have υ:U (∀X,Same (λi=>i<R) w X->X.cell? ⟨B,E+(k+2),G⟩=N (.string ⟨nm.toArray⟩)/\X.cell? ⟨vb,vo+k*2,G⟩=N (.string ⟨δ.toArray⟩)/\X.cell? ⟨vb,vo+k*2+1,G⟩=N (C D vk)):=I (λX hX=>by
      obtain⟨b,o,S,hb,q2⟩:=Γ.q.name (i:=k+2) (x:=nm) (by rw[σ.q];exact b2);injection S with S;injection S with S q3;subst S q3;exact⟨hX.cell q2 hb,hX.cell q7 q6,hX.cell q8 q6⟩)
     have q7:=(υ.q _ F.q.s).2.1;have q8:=(υ.q _ F.q.s).2.2;obtain⟨wa,y2⟩:∃W,W=wr.alloc (.cells #[.string ⟨δ.toArray⟩,C D vk] 61):=⟨_,rfl⟩;have m0:Below wr.1.size wr wa:=by rw[y2];exact aB (Below.refl _ _) _
     have m1:U (Bx wa.drew wr.1.size #[.string ⟨δ.toArray⟩,C D vk]):=I (by rw[y2];exact(Bx.new wr _ _).drew);have Ψ:=I ((F.q.below m0).below (Below.refl _ _).drew);have b3:=I (z2.q.below m0.drew rfl);have m2:U (f<wr.1.size/\R<wr.1.size):=I ⟨F.q.e.2.2,F.q.r.s.t.b.2.2⟩;have b4:U (∀j,j<4->((c3.sc ((t.zip s.aM).take k)).1.nl j).length<=400):=I (λj hj=>by have h1:=IY ((t.zip s.aM).take k) c3 j;have h2:=g7.q j hj;rw[dJ,xY] at h1;have:=g6.q;omega);have m3:U ((c3.sc ((t.zip s.aM).take k)).2.length+1=k+1):=I (by rw[ER,dJ,xY,b0.q];omega);obtain⟨ck,b5⟩:∃ck,ck=c3.sc ((t.zip s.aM).take k):=⟨_,rfl⟩;rw[<-b5] at Ψ b3 b4 m3;have b6:U (c3.sc ((t.zip s.aM).take (k+1))=(((ck.1.put 2 nm).bF ⟨δ,vk⟩).1,ck.2++[⟨ck.1.no 2 nm,((ck.1.put 2 nm).bF ⟨δ,vk⟩).2⟩])):=I (by rw[j7.q,Ah,b5]);have u0:k<40:=by omega
     have m4:=I u0;have hw0:IntKind.i64.wrap ((k:Int)+2)=((k+2:Nat):Int):=Go.IntWalk.i64_in ((k:Int)+2) ah;have hlt2:((k+2:Nat):Int)<((t.length+2:Nat):Int):=by omega
     have hlt3:k+2<t.length+2:=by omega
     have Zc:(k:Int)+2<(t.length:Int)+2:=by omega
     have Ze:¬((k:Int)+2<0):=by omega
     have Zf:(0:Int)<=(k:Int)+2:=by omega
     have htn:((k:Int)+2).toNat=k+2:=by omega
     clear q6 b2 τ b5;go_wp2_with fail;rw[<-y2];clear q7 q8 y2;refine aD 17 [(0,0),(1,0),(2,0),(3,0),(4,0),(5,0),(6,0),(7,0),(8,0),(10,0),(11,0),(9,2),(12,2),(13,0),(14,2),(15,2),(16,0),(17,2)] (λ_=>True) (λW'=>Bx W' f (aY ⟨4,T,0,0,0,⟨0,0⟩,O,a0,k,q0⟩)/\Bx W' w.1.size #[C D 4,H (N ⟨B,E,G⟩) (t.length+2) nc,C D 0,H (N ⟨vb,vo,G⟩) t.length vc,J lf,C D α]/\W'.cell? ⟨B,E+(k+2),G⟩=N (.string ⟨nm.toArray⟩)/\Bx W' wr.1.size #[.string ⟨δ.toArray⟩,C D vk]) au au (trivial) (⟨Ψ.q.e,Ψ.q.l,(υ.q _ Ψ.q.s).1,m1.q⟩) ?_;refine qC ?_;refine aG rfl rfl (λK u=>?_);go_simp;refine(zC nm wa.drew Ψ.q.r (by have:=b4.q 2 aj;omega)).mono ?_;rintro e w5 ⟨rfl,hS,cs6,hr,Y⟩;have v6:=I (Ψ.q.call hS hr Y);have y3:=I (b3.q.same hS (λq hq e=>by have:=(b3.q.lt q hq).1;have:=Ψ.q.n;omega));have m5:=I (hS.bx m1.q (by have:=m2.q;omega));refine u _ _ ⟨trivial,v6.q.e,v6.q.l,(υ.q _ v6.q.s).1,m5.q⟩ ?_;clear u K hS hr Y;refine aG rfl rfl (λK u=>?_);go_simp;refine(D8 ⟨δ,vk⟩ w5 v6.q.r (by have:=b4.q 0 aj;have:=oW ck.1 2 nm 0;omega)).mono ?_;rintro e w7 ⟨rfl,hS,u1,hr,Y⟩;have y4:=I (v6.q.call hS hr Y);have u2:=I (y3.q.same hS (λq hq e=>by have:=(y3.q.lt q hq).1;have:=Ψ.q.n;omega));have m6:=I (hS.bx m5.q (by have:=m2.q;omega));refine u _ _ ⟨trivial,y4.q.e,y4.q.l,(υ.q _ y4.q.s).1,m6.q⟩ ?_;clear u K hS hr Y;obtain⟨x,hx⟩:∃x:Sn,x=⟨ck.1.no 2 nm,((ck.1.put 2 nm).bF ⟨δ,vk⟩).2⟩:=⟨_,rfl⟩;rw[<-hx] at b6;have m7:ck.1.no 2 nm=x.obj:=by rw[hx]
     have m8:((ck.1.put 2 nm).bF ⟨δ,vk⟩).2=x.v:=by rw[hx]
     rw[m7,m8];clear hx m7 m8;refine qC ?_;refine aG rfl rfl (λK u=>?_);go_simp;have Δ:=aB (Below.refl w7.1.size w7) (.cells #[C D x.obj,C D x.v.t,C D x.v.k] 148);have v7:=I (y4.q.below Δ);have v8:=I (u2.q.below Δ rfl);have m9:=I (m6.q.keep Δ);have θ:U (f<=(w7.alloc (.cells #[C D x.obj,C D x.v.t,C D x.v.k] 148)).1.size):=I (Nat.le_of_lt v7.q.e.2.2);refine u _ _ ⟨trivial,v7.q.e,v7.q.l,(υ.q _ v7.q.s).1,m9.q⟩ ?_;clear u K Δ;refine aG rfl rfl (λK u=>?_);refine gK _ _ 48 rfl i z 24 underlying48 HI.q.1 HI.q.2.1 HI.q.2.2.1 HI.q.2.2.2.1 HI.q.2.2.2.2 rfl v8.q (N ⟨w7.1.size,0,G⟩) 1 1 (k+1) [x] rfl (Row.Sm w7 x) m3.q (by have:=m4.q;omega) (by have:=m4.q;unfold maxLen;omega) θ.q ?_;intro a' c' w9 p0 b7 u3;have p1:=m9.q.grown b7 (λe=>by have:=(z2.q.lt _ e).2;omega);have j0:=I (v7.q.grown v8.q b7);have v3:=I p0;refine u _ _ ⟨trivial,j0.q.e,j0.q.l,(υ.q _ j0.q.s).1,p1⟩ ?_;have χ:=j0.q.e.1;have ψ:=j0.q.e.2.1;clear u K p1 p0 b7 u3;refine qC ?_;refine bA rfl rfl rfl (λK u=>?_);go_simp;refine u _ _ trivial ?_;clear u K χ ψ;refine aH ?_;have u4:=I (j0.q.set ⟨4,T,0,0,0,⟨0,0⟩,O,a',k+1,c'⟩ (j:=8) (x:= H a' (k+1) c') aj rfl);have u5:=I (v3.q.aJ j0.q.t aj ((Same.refl' w9).setTail (o:=8) (v:= H a' (k+1) c') (λh=>h rfl)));go_wp2_with fail;go_roundw
     case rel=>
      refine⟨k+1,a',c',u1,by omega,by go_num,?_,?_⟩
      .rw[b6.q];exact u4.q
      .rw[b6.q];exact u5.q
     case measure=>simp[RowKit.intOf];omega
    obtain rfl:k=t.length:=by omega
    have v2:(t.zip s.aM).take t.length=t.zip s.aM:=eF (by rw[xY,b0.q];omega);rw[v2] at F z2;clear v2 hk j6 r9;have ο:U (EvS w (wr) R f w.1.size #[C D 4,H (N ⟨B,E,G⟩) (t.length+2) nc,C D 0,H va t.length vc,J lf,C D α] _ (c3.sc (t.zip s.aM)).1 es ds ms true ⟨4,T,0,0,0,⟨0,0⟩,O,a0,t.length,q0⟩):=I (F.q);have P:U (Own (wr) f 148 3 bI (EvC.val ⟨4,T,0,0,0,⟨0,0⟩,O,a0,t.length,q0⟩) (c3.sc (t.zip s.aM)).2/\aT c s=Cont.ev (c3.sc (t.zip s.aM)).1 (EvC.base ⟨4,T,0,0,0,⟨0,0⟩,O,a0,t.length,q0⟩) (c3.sc (t.zip s.aM)).2/\Nm c (c3.sc (t.zip s.aM)).1):=I ⟨z2.q,π.q.1,π.q.2⟩;obtain⟨b,hb,h8⟩:=F.q.xW;have κ:=F.q.r.s.t.b.2.1 8;have ξ:=F.q.r.s.t.b.2.2;obtain⟨a4,q4,h4,ζ,μ⟩:=F.q.r.Da;have γ:f≠R:=by have:=F.q.n;omega
    have ι:R≠f:=λe=>γ e.symm
    have θ:=I hb;clear hb h4 μ
    cases b
    case' false=>
     go_wp2_with fail;have HT:U (wW w ((wr).setCell ⟨R,8,G⟩ (J false)) R f w.1.size #[C D 4,H (N ⟨B,E,G⟩) (t.length+2) nc,C D 0,H va t.length vc,J lf,C D α] c s es ds ms):=I (ο.q.fin P.q.1 P.q.2.1 P.q.2.2 rfl false θ.q);generalize((wr).setCell ⟨R,8,G⟩ (J false))=W5 at HT ⊢;clear h8 κ ξ ζ γ ι
    case' true=>
     go_wp2_with fail;have HT:U (wW w ((wr).setCell ⟨R,8,G⟩ (J (decide ((es.length:Int)<3000)))) R f w.1.size #[C D 4,H (N ⟨B,E,G⟩) (t.length+2) nc,C D 0,H va t.length vc,J lf,C D α] c s es ds ms):=I (ο.q.fin P.q.1 P.q.2.1 P.q.2.2 rfl true θ.q);generalize((wr).setCell ⟨R,8,G⟩ (J (decide ((es.length:Int)<3000))))=W5 at HT ⊢;clear h8 κ ξ ζ γ ι
  all_goals
   obtain⟨cs',c',g',ev,L,ht,Y,ha,hm,hg⟩:=HT.q;obtain⟨a,q,h4,ζ,hO⟩:=ht.r.Da;obtain⟨i,z,hi⟩:=Al;have HI:=I hi;obtain⟨W6,y5⟩:∃W6,W6=(W5.alloc (.cells (aY ev) 50)).drew:=⟨_,rfl⟩;have z3:Below W5.1.size W5 W6:=by rw[y5];exact(aB (Below.refl _ _) _).drew
   have u6:=I z3;have z4:=I ht;have z2:=I Y;have HA:=I (⟨ha,hm,hg⟩:_/\_/\_);have H4:=I h4;have u7:=I (hO.below z3 rfl);have p2:=I (ht.e.keep z3);have p3:=I (ht.r.s.t.b.keep z3);have y3:=I hO;have u8:U (Row W6 9 dK (N ⟨W5.1.size,0,G⟩) 1 1 [ev]):=I (by rw[y5];exact(Row.TI W5 ev).below (Below.refl _ _).drew rfl);have p4:U (es.length<=3000):=I (by rw[z6.q];exact HF.q.2.1);have u9:U ((Value.slice a es.length q).ownBlock≠N R):=I (λe=>by have:=(hO.lt R e).1;omega);have v1:U ((Value.slice a es.length q).ownBlock≠N f):=I (ht.v _ h4);have w0:U (R+1<=W6.1.size):=I (by have:=(ht.r.s.t.b.keep z3).2.2;omega);clear HT ht Y ha hm hg h4 hO hi z3;obtain⟨kd,tt,ss,lv,ob,⟨vt,vk⟩,pd,sa,sn,sc⟩:=ev;have y0:=z4.q.e.1;go_wp2_with fail;refine aD 12 [(0,0),(1,0),(2,0),(3,0),(4,0),(5,0),(6,0),(7,2),(8,2),(9,1),(10,1),(11,1),(12,2)] (λ_=>True) (λW'=>W'.cell? ⟨R,4,G⟩=N (H a es.length q)/\Bx W' f (aY ⟨kd,tt,ss,lv,ob,⟨vt,vk⟩,pd,sa,sn,sc⟩)) au au (trivial) (⟨ζ,z4.q.e.drew⟩) ?_;refine qC ?_;refine aG rfl rfl (λK u=>?_);go_simp;have p5:W6=(W5.alloc (.cells #[C D kd,C D tt,C D ss,C D lv,C D ob,C D vt,C D vk,C D pd,H sa sn sc] 50)).drew:=y5;rw[<-p5];refine u _ _ ⟨trivial,(p3.q.1 4).trans H4.q,p2.q⟩ ?_;clear u K y5 p5 y0;refine aG rfl rfl (λK u=>?_);refine gK _ _ 36 rfl i z 88 underlying36 HI.q.1 HI.q.2.1 HI.q.2.2.1 HI.q.2.2.2.1 HI.q.2.2.2.2 rfl u7.q (N ⟨W5.1.size,0,G⟩) 1 1 (es.length+1) [⟨kd,tt,ss,lv,ob,⟨vt,vk⟩,pd,sa,sn,sc⟩] rfl u8.q rfl (by have:=p4.q;omega) (by have:=p4.q;unfold maxLen;omega) w0.q ?_;intro a' c1 w8 p6 y6 w6;have v9:=p3.q.grown y6 u9.q;have p7:=p2.q.grown y6 v1.q;refine u _ _ ⟨trivial,(v9.1 4).trans H4.q,p7⟩ ?_;have hc8:=(v9.1 4).trans H4.q;have κ:=v9.2.1 4;have YQ:=I v9;have v8:=I p6;have k0:=I y6;clear u K v9 p7 p6 y6 w6;refine qC ?_;refine bA rfl rfl rfl (λK u=>?_);go_simp;refine u _ _ trivial ?_;clear u K;refine aH ?_;go_wp2_with fail;refine bodyPost_end (results_none rfl _ _ _) rfl ?_;have h1:Same (λi=>i≠R/\(Value.slice a es.length q).ownBlock≠N i) W5 (w8.setCell ⟨R,4,G⟩ (H a' (es.length+1) c1)):=((Same.of_below u6.q (λ_ _ h=>h)).tr ⟨k0.q.os,k0.q.tape,k0.q.output,k0.q.size,λi hi hl=>k0.q.block i hl (λe=>hi.2 e.symm)⟩).setTail (λh=>h.1 rfl);have YR:4<cs'.size:=(fH.1 H4.q).1;have hE:=z4.q.r.s.event H4.q h1 (ev:=⟨kd,tt,ss,lv,ob,⟨vt,vk⟩,pd,sa,sn,sc⟩) (l:=L) (v8.q.same (A:=λi=>i≠R) ((Same.refl' _).setTail (λh=>h rfl)) (λg hg e=>by have:=(v8.q.lt g hg).1;omega)) (YQ.q.aX 4 YR _) z2.q;refine⟨rfl,z4.q.s.tr (h1.mono (λi hi _=>⟨by omega,λe=>by have:=(y3.q.lt i e).1;omega⟩)),cs'.setIfInBounds 4 (H a' (es.length+1) c1),es++[⟨kd,tt,ss,lv,ob,⟨vt,vk⟩,pd,sa,sn,sc⟩],ds,ms,g',?_,?_⟩
   .rw[HA.q.1]
    exact⟨hE,by rw[Array.size_setIfInBounds];exact z4.q.r.z,by rw[iQ ah];exact z4.q.r.k⟩
   .rw[HA.q.1,Oe HF.q HA.q.2.1,HA.q.2.2,<-z6.q]
    have e9:decide ((es.length:Int)<3000)=decide (es.length<3000):=decide_eq_decide.2 ah;rw[e9]
    rfl
end
end Yd
namespace Yd
open Array renaming size_setIfInBounds->V
open Option renaming none->J,some->L
open Go Go.RowKit Go.Proofs Tryz
open Go.IntKind renaming i64->I
open Go.Obj renaming cells->O
open Go.Value renaming slice->G,int->H,bool->N
open Yd renaming hid->C
open _root_ renaming trivial->U
attribute [local go_sem] Oper.semAt_some
variable{c d:Cont}
theorem Pn (a:aR c)(h:Nm c d)(x:aO)(j:List Int):sI {d with D:=d.D++[x],SD:=d.SD++[j]}=(decide (c.D.length<3000) && nH d.nl):=by
 rw[Bool.eq_iff_iff,lG,bD,bO,sZ];have f:(d.D++[x]).length=c.D.length+1:=by rw[eX,h.d];rfl
 constructor
 .rintro⟨i,_,b,_⟩
  exact⟨by simp only[f] at b;omega,i⟩
 .rintro⟨i,b⟩
  exact⟨b,by show d.E.length<=_;rw[h.e];exact a.2.1,by simp only[f];omega,by show d.M.length<=_;rw[h.m];exact a.2.2.2.1,by show d.Q.length<=_;rw[h.q];exact a.2.2.2.2.1,λe k l=>a.2.2.2.2.2 e (by rw[<-h.e];exact k) l⟩
theorem Po (a:aR c)(h:Nm c d)(x:aP)(j:List Int):sI {d with M:=d.M++[x],SM:=d.SM++[j]}=(decide (c.M.length<3000) && nH d.nl):=by
 rw[Bool.eq_iff_iff,lG,bD,bO,sZ];have f:(d.M++[x]).length=c.M.length+1:=by rw[eX,h.m];rfl
 constructor
 .rintro⟨i,_,_,b,_⟩
  exact⟨by simp only[f] at b;omega,i⟩
 .rintro⟨i,b⟩
  exact⟨b,by show d.E.length<=_;rw[h.e];exact a.2.1,by show d.D.length<=_;rw[h.d];exact a.2.2.1,by simp only[f];omega,by show d.Q.length<=_;rw[h.q];exact a.2.2.2.2.1,λe k l=>a.2.2.2.2.2 e (by rw[<-h.e];exact k) l⟩
theorem Pp (a:aR c)(h:Nm c d)(x:Wa):sI {d with Q:=d.Q++[x]}=(decide (c.Q.length<3000) && nH d.nl):=by
 rw[Bool.eq_iff_iff,lG,bD,bO,sZ];have f:(d.Q++[x]).length=c.Q.length+1:=by rw[eX,h.q];rfl
 constructor
 .rintro⟨i,_,_,_,b,_⟩
  exact⟨by simp only[f] at b;omega,i⟩
 .rintro⟨i,b⟩
  exact⟨b,by show d.E.length<=_;rw[h.e];exact a.2.1,by show d.D.length<=_;rw[h.d];exact a.2.2.1,by show d.M.length<=_;rw[h.m];exact a.2.2.2.1,by simp only[f];omega,λe j k=>a.2.2.2.2.2 e (by rw[<-h.e];exact j) k⟩
structure Bg (w W:World)(R bl:Nat)(LC:Array Value)(cs:Array Value)(c:Cont)(es:List EvC)(ds:List aO)(ms:List aP)(g:Bool):Prop where
 r:jo W R cs c es ds ms g
 l:Bx W bl LC
 s:Same (λi=>i<R) w W
 n:R<bl
section
variable {w W W':World}{R bl:Nat}{LC cs cs':Array Value}{c c':Cont}{es:List EvC}{ds:List aO}{ms:List aP}{g g':Bool}
theorem Bg.call (h:Bg w W R bl LC cs c es ds ms g)(a:Same (λi=>i≠R) W W')(b:jo W' R cs' c' es ds ms g):Bg w W' R bl LC cs' c' es ds ms g:=
 ⟨b,a.bx h.l (by have:=h.n;omega),h.s.tr (a.mono λi d _=>by omega),h.n⟩
theorem Bg.below (h:Bg w W R bl LC cs c es ds ms g)(a:Below W.1.size W W'):Bg w W' R bl LC cs c es ds ms g:=
 h.call (Same.of_below a (λ_ _ h=>h)) (h.r.below a)
theorem Bg.flag (h:Bg w W R bl LC cs c es ds ms g){b:Bool}(d:b=(g' && nH c.nl)):Bg w (W.setCell ⟨R,8,J⟩ (N b)) R bl LC (cs.setIfInBounds 8 (N b)) c es ds ms g':=
 have a:Same (λi=>i≠R) W (W.setCell ⟨R,8,J⟩ (N b)):=(Same.refl' W).setTail (λh=>h rfl)
 ⟨h.r.flag d,a.bx h.l (by have:=h.n;omega),h.s.tr (a.mono λi e _=>by omega),h.n⟩
end
theorem tO (h:aR c):nH c.nl=true:=(sZ _).2 h.1
section
variable {R:Nat}{cs:Array Value}{c:Cont}{es:List EvC}{ds:List aO}{ms:List aP}
theorem Wo (l:aW)(s:aK)(w:World)(h:jo w R cs c es ds ms true)(hf:aR c)(P:nQ w R l s)(μ:s.kind=0\/fo s):
  Calls Tryz.prog 37 #[.pointer (L ⟨R,0,J⟩),dH l] w (NW R (aT c s) w):=by
 obtain⟨S,la,nn,m,δ,va,vn,vc,u,v⟩:=l;obtain⟨k1,k2,k3,k4,k5,k6⟩:=P.k;simp only at k1 k2 k3 k4 k5 k6;have ξ:=C P;have v2:=C μ;have ν:=C k1;have y3:=C k3;have y4:=C k4;have v6:=C k5;have B:=C hf;have Ψ:=C h;have y5:Hid (R<w.1.size):=C h.s.t.b.2.2;have ζ:=aB (Below.refl w.1.size w) (O #[H I S,G la nn m,H I δ,G va vn vc,N u,H I v] 34);have k7:=C ζ;have φ:=C (h.below ζ);have HX:=C (Bx.new w #[H I S,G la nn m,H I δ,G va vn vc,N u,H I v] 34);have E:Hid (Bg w (w.alloc (O #[H I S,G la nn m,H I δ,G va vn vc,N u,H I v] 34)) R w.1.size #[H I S,G la nn m,H I δ,G va vn vc,N u,H I v] cs c es ds ms true):=C ⟨φ.q,HX.q,Same.of_below ζ (λi F P=>P),y5.q⟩;have v3:S=0\/S=7\/S=8\/S=9\/(1<=S/\S<=6):=by
  rcases μ with e|e
  .left;omega
  .rcases e.2.2 with q|q|q|q|q|q|q|q|q <;> (have:=q.1;omega)
 clear h hf P μ k1 k2 k3 k4 k5 k6 ζ;rcases v3 with rfl|rfl|rfl|rfl|v3
 .go_enter Tryz.func37,Tryz.ntmps37
  go_wp2_with fail;refine bodyPost_end (results_none rfl _ _ _) rfl ?_;have e:aT c s=c:=by unfold aT;simp only[<-ν.q];rfl
  rw[e];exact⟨rfl,E.q.s,cs,es,ds,ms,true,E.q.r,by rw[tO B.q,(lG c).2 B.q];rfl⟩
 .have μ:fo s:=v2.q.resolve_left (by have:=ν.q;omega)
  obtain⟨a,d,T,q8⟩:=names7 μ ν.q.symm;have q9:nn=d.length+1:=by have:=v6.q;rw[T] at this;simpa using this
  obtain⟨n,p,χ,ζ,ο⟩:=ξ.q.name (i:=0) (x:=a) (by rw[T];rfl);simp only[bK] at χ ο;subst χ q9;obtain⟨ra,j0,j1,Ω,j2⟩:=yH ξ.q.n 1 (by show 1<=d.length+1;omega);have j3:∀b o,ra=L ⟨b,o,J⟩->b<R:=λb o e=>(let⟨q,e1,e2⟩:=j2 b o e;by injection e1 with e1;subst e1;subst e2;exact ζ)
  rw[T] at Ω;have v8:Hid (Row w 1 encStr ra d.length (m - 1) d):=C Ω;have j4:=C j3;have v9:=C q8;have y6:∀W,(Instr.slice 22 (G (L ⟨n,p,J⟩) (d.length+1) m) (L (H I 1)) J J).run Tryz.prog W= .ok (G ra d.length (m - 1)) W:=j0;have y7:∀W,(Instr.sliceAt 22 (G (L ⟨n,p,J⟩) (d.length+1) m) (L (H I 1)) J J).run Tryz.prog W= .ok (G ra d.length (m - 1)) W:=j1;clear j0 j1 Ω j3 j2 q8;have q5:=C ζ;have HN:=C T;have j5:=C ο;obtain⟨v7,h7,π⟩:=Ψ.q.s.d;obtain⟨a7,q7,rfl,_,k8⟩:=π.shape;have j6:ds.length<=3000:=by have h:=B.q.2.2.1;rw[<-Ψ.q.s.bd,bC] at h;exact h
  have ψ:=C j6;have H7:=C h7;have j7:Hid (∀g,(Value.slice a7 ds.length q7).ownBlock=L g->g<w.1.size):=C (λg hg=>(π.lt g hg).2);have v4:Hid (ds.length=c.D.length):=C (by rw[<-Ψ.q.s.bd,bC]);have h8:(w.alloc (O #[H I 7,G (L ⟨n,p,J⟩) (d.length+1) m,H I δ,G va vn vc,N u,H I v] 34)).cell? ⟨R,8,J⟩=L (N true):=by have:=(E.q.r.s.t.b.1 8).trans E.q.r.k;rw[tO B.q] at this;exact this
  have j8:=E.q.r.s.t.b.2.1 8;have j9:=(E.q.r.s.t.b.1 5).trans h7;have ω:Hid (∀j,j<4->(c.nl j).length<=300):=C (λj hj=>by have:=B.q.1 j hj;have:=qo j;omega);obtain⟨i,z,F⟩:=Am;have Y:=C F;clear F h7 π μ T ο ζ;have q0:=HX.q.1;go_enter Tryz.func37,Tryz.ntmps37;go_wp2_with fail;have η:=C (E.q.flag (b:=decide ((ds.length:Int)<3000)) (g':=decide ((ds.length:Int)<3000)) (by rw[tO B.q,Bool.and_true]));generalize((w.alloc (O #[H I 7,G (L ⟨n,p,J⟩) (d.length+1) m,H I δ,G va vn vc,N u,H I v] 34)).setCell ⟨R,8,J⟩ (N (decide ((ds.length:Int)<3000))))=W1 at η ⊢;obtain⟨g1,ρ⟩:∃g1,g1=decide ((ds.length:Int)<3000):=⟨_,rfl⟩;rw[<-ρ] at η;have z0:=C ρ;have Z:Hid (∀X,Same (λi=>i<R) w X->X.cell? ⟨n,p,J⟩=L (.string ⟨a.toArray⟩)):=C (λX hX=>hX.cell j5.q q5.q);have Γ:Hid ((cs.setIfInBounds 8 (N g1))[5]?=L (G a7 ds.length q7)):=C (by rw[iQ ah];exact H7.q);have α:=C (η.q.below (Below.refl _ _).drew);clear h8 j8 j9 q0 ρ η;go_wp2_with fail;refine aD 23 [(0,0),(1,0),(2,0),(3,0),(4,0),(5,0),(6,0),(7,0),(8,0),(9,0),(10,0),(12,0),(13,0),(14,0),(15,0),(11,2),(16,2),(17,0),(18,2),(19,2),(20,1),(21,1),(22,1),(23,2)] (λ_=>True) (λW'=>Bx W' w.1.size #[H I 7,G (L ⟨n,p,J⟩) (d.length+1) m,H I δ,G va vn vc,N u,H I v]/\W'.cell? ⟨R,5,J⟩=L (G a7 ds.length q7)/\W'.cell? ⟨n,p,J⟩=L (.string ⟨a.toArray⟩)) au au (trivial) (⟨α.q.l,(α.q.r.s.t.b.1 5).trans Γ.q,Z.q _ α.q.s⟩) ?_;refine qC ?_;refine aG rfl rfl (λK f=>?_);go_simp;refine(zC a W1.drew α.q.r (by have h:=ω.q 2 aj;omega)).mono ?_;rintro e w3 ⟨rfl,hS,q6,hr,ho⟩;have t:=C (α.q.call hS hr);have κ:Hid (q6[5]?=_):=C ((ho 5 ah ah).trans Γ.q);refine f _ _ ⟨U,t.q.l,(t.q.r.s.t.b.1 5).trans κ.q,Z.q _ t.q.s⟩ ?_;clear f K hS hr ho;refine aG rfl rfl (λK f=>?_);go_simp;refine(TN d ra d.length _ w3 t.q.r (Same.row t.q.s v8.q j4.q) (λb o e=>by have:=j4.q b o e;omega) (by have:=v9.q;omega) (by have h:=ω.q 0 aj;have:=oW c 2 a 0;omega)).mono ?_;rintro e w4 ⟨a2,q2,⟨rfl,hS,v5,hr,ho⟩,z1⟩;have ε:=C (t.q.call hS hr);have υ:Hid (v5[5]?=_):=C ((ho 5 ah ah).trans κ.q);have k0:=C (z1.mono (B':=R+1) t.q.r.s.t.b.2.2);refine f _ _ ⟨U,ε.q.l,(ε.q.r.s.t.b.1 5).trans υ.q,Z.q _ ε.q.s⟩ ?_;clear f K hS hr ho z1;obtain⟨o7,θ⟩:=ε.q.r.s.d;have Δ:=θ.2;rw[υ.q] at θ;obtain rfl:_=o7:=by have h:=θ.1;injection h
  have z2:=C Δ;clear θ Δ;refine qC ?_;refine aG rfl rfl (λK f=>?_);go_simp;obtain⟨x,hx⟩:∃x:aO,x=⟨c.no 2 a,a2,d.length,q2⟩:=⟨_,rfl⟩;have q3:=C hx;have ι:=aB (Below.refl w4.1.size w4) (O #[H I (c.no 2 a),G a2 d.length q2] 65);have z3:=C ι;have r:=C (ε.q.below ι);have σ:=C (z2.q.below ι rfl);have φ:Hid (Row (w4.alloc (O #[H I (c.no 2 a),G a2 d.length q2] 65)) 2 dU (L ⟨w4.1.size,0,J⟩) 1 1 [x]):=C (by rw[hx];exact Row.U3 w4 ⟨c.no 2 a,a2,d.length,q2⟩);have z4:Hid (R+1<=(w4.alloc (O #[H I (c.no 2 a),G a2 d.length q2] 65)).1.size):=C r.q.r.s.t.b.2.2;refine f _ _ ⟨U,r.q.l,(r.q.r.s.t.b.1 5).trans υ.q,Z.q _ r.q.s⟩ ?_;clear f K ι hx;refine aG rfl rfl (λK f=>?_);refine gK _ _ 37 rfl i z 32 underlying37 Y.q.1 Y.q.2.1 Y.q.2.2.1 Y.q.2.2.2.1 Y.q.2.2.2.2 rfl σ.q (L ⟨w4.1.size,0,J⟩) 1 1 (ds.length+1) [x] rfl φ.q rfl (by have:=ψ.q;omega) (by have:=ψ.q;unfold maxLen;omega) z4.q ?_;intro a' c' w9 Θ k z5;have β:=r.q.r.s.t.b.grown k (λe=>by have:=(σ.q.lt R e).1;omega);have τ:Same (λi=>i<R) w w9:=r.q.s.tr ⟨k.os,k.tape,k.output,k.size,λi F P=>k.block i P (λe=>by have:=(σ.q.lt i e.symm).1;omega)⟩;have z6:=C (Z.q _ τ);refine f _ _ ⟨U,r.q.l.grown k (λe=>by have:=j7.q _ e;omega),(β.1 5).trans υ.q,z6.q⟩ ?_;have k9:=(β.1 5).trans υ.q;have y0:=β.2.1 5;have z7:=C β;have Ξ:=C Θ;have γ:=C k;have z8:=C τ;clear f K β Θ k z5 τ;refine qC ?_;refine bA rfl rfl rfl (λK f=>?_);go_simp;refine f _ _ U ?_;clear f K;refine aH ?_;go_wp2_with fail;refine bodyPost_end (results_none rfl _ _ _) rfl ?_;have h1:Same (λi=>i≠R/\(Value.slice a7 ds.length q7).ownBlock≠L i) w4 (w9.setCell ⟨R,5,J⟩ (G a' (ds.length+1) c')):=((Same.of_below z3.q (λ_ _ h=>h)).tr ⟨γ.q.os,γ.q.tape,γ.q.output,γ.q.size,λi F P=>γ.q.block i P (λe=>F.2 e.symm)⟩).setTail (λh=>h.1 rfl);have z9:5<v5.size:=(fH.1 υ.q).1;have hE:=ε.q.r.s.order υ.q h1 (x:=x) (l:=(Cont.ts (Cont.put c 2 a) d).2) (Ξ.q.same (A:=λi=>i≠R) ((Same.refl' _).setTail (λh=>h rfl)) (λg hg e=>by have:=(Ξ.q.lt g hg).1;omega)) (z7.q.aX 5 z9 _) (by rw[q3.q];exact k0.q);have v0:aT c s={(Cont.ts (Cont.put c 2 a) d).1 with D:=((Cont.ts (Cont.put c 2 a) d).1).D++[x.base],SD:=((Cont.ts (Cont.put c 2 a) d).1).SD++[(Cont.ts (Cont.put c 2 a) d).2]}:=by unfold aT;simp only[<-ν.q,HN.q];rw[q3.q,(Nm.ts d (c.put 2 a)).d,(Nm.ts d (c.put 2 a)).sd];rfl
  have v1:Nm c (Cont.ts (Cont.put c 2 a) d).1:=(Nm.put c 2 a).trans (Nm.ts d _);rw[v0];refine⟨rfl,z8.q.tr ((Same.refl' w9).setTail (λh=>by omega)),_,es,_,ms,g1,⟨hE,?_,?_⟩,?_⟩
  .rw[V];exact ε.q.r.z
  .rw[iQ ah];exact ε.q.r.k
  .rw[Pn B.q v1,z0.q,v4.q]
   have e9:decide ((c.D.length:Int)<3000)=decide (c.D.length<3000):=decide_eq_decide.2 ah;rw[e9]
 .have μ:fo s:=v2.q.resolve_left (by have:=ν.q;omega)
  obtain⟨a,y,d,T,q8⟩:=names8 μ ν.q.symm;have q9:nn=d.length+2:=by have:=v6.q;rw[T] at this;simpa using this
  obtain⟨n,p,χ,ζ,ο⟩:=ξ.q.name (i:=0) (x:=a) (by rw[T];rfl);simp only[bK] at χ ο;subst χ q9;obtain⟨x1,x2,y8,y9,y1⟩:=ξ.q.name (i:=1) (x:=y) (by rw[T];rfl);injection y8 with q;injection q with q1 q2;subst q1 q2;have x3:(1:Int)<(d.length:Int)+2:=by omega
  have x4:1<d.length+2:=by omega
  have x5:(0:Int)<(d.length:Int)+2:=by omega
  obtain⟨ra,j0,j1,Ω,j2⟩:=yH ξ.q.n 2 (by show 2<=d.length+2;omega);have j3:∀b o,ra=L ⟨b,o,J⟩->b<R:=λb o e=>(let⟨q,e1,e2⟩:=j2 b o e;by injection e1 with e1;subst e1;subst e2;exact ζ)
  rw[T] at Ω;have v8:Hid (Row w 1 encStr ra d.length (m - 2) d):=C Ω;have j4:=C j3;have v9:=C q8;have y6:∀W,(Instr.slice 22 (G (L ⟨n,p,J⟩) (d.length+2) m) (L (H I 2)) J J).run Tryz.prog W= .ok (G ra d.length (m - 2)) W:=j0;have y7:∀W,(Instr.sliceAt 22 (G (L ⟨n,p,J⟩) (d.length+2) m) (L (H I 2)) J J).run Tryz.prog W= .ok (G ra d.length (m - 2)) W:=j1;clear j0 j1 Ω j3 j2 q8;have q5:=C ζ;have HN:=C T;have j5:=C ο;have x0:=C y1;obtain⟨v7,h7,π⟩:=Ψ.q.s.m;obtain⟨a7,q7,rfl,_,k8⟩:=π.shape;have j6:ms.length<=3000:=by have h:=B.q.2.2.2.1;rw[<-Ψ.q.s.bm,bC] at h;exact h
  have ψ:=C j6;have H7:=C h7;have j7:Hid (∀g,(Value.slice a7 ms.length q7).ownBlock=L g->g<w.1.size):=C (λg hg=>(π.lt g hg).2);have v4:Hid (ms.length=c.M.length):=C (by rw[<-Ψ.q.s.bm,bC]);have h8:(w.alloc (O #[H I 8,G (L ⟨n,p,J⟩) (d.length+2) m,H I δ,G va vn vc,N u,H I v] 34)).cell? ⟨R,8,J⟩=L (N true):=by have:=(E.q.r.s.t.b.1 8).trans E.q.r.k;rw[tO B.q] at this;exact this
  have j8:=E.q.r.s.t.b.2.1 8;have j9:=(E.q.r.s.t.b.1 6).trans h7;have ω:Hid (∀j,j<4->(c.nl j).length<=300):=C (λj hj=>by have:=B.q.1 j hj;have:=qo j;omega);obtain⟨i,z,F⟩:=Ao;have Y:=C F;clear F h7 π μ T ο ζ y9 y1;have q0:=HX.q.1;go_enter Tryz.func37,Tryz.ntmps37;go_wp2_with fail;have η:=C (E.q.flag (b:=decide ((ms.length:Int)<3000)) (g':=decide ((ms.length:Int)<3000)) (by rw[tO B.q,Bool.and_true]));generalize((w.alloc (O #[H I 8,G (L ⟨n,p,J⟩) (d.length+2) m,H I δ,G va vn vc,N u,H I v] 34)).setCell ⟨R,8,J⟩ (N (decide ((ms.length:Int)<3000))))=W1 at η ⊢;obtain⟨g1,ρ⟩:∃g1,g1=decide ((ms.length:Int)<3000):=⟨_,rfl⟩;rw[<-ρ] at η;have z0:=C ρ;have Z:Hid (∀X,Same (λi=>i<R) w X->X.cell? ⟨n,p+1,J⟩=L (.string ⟨y.toArray⟩)/\X.cell? ⟨n,p,J⟩=L (.string ⟨a.toArray⟩)):=C (λX hX=>⟨hX.cell x0.q q5.q,hX.cell j5.q q5.q⟩);have Γ:Hid ((cs.setIfInBounds 8 (N g1))[6]?=L (G a7 ms.length q7)):=C (by rw[iQ ah];exact H7.q);have α:=C (η.q.below (Below.refl _ _).drew);clear h8 j8 j9 q0 ρ η;go_wp2_with fail;refine aD 31 [(0,0),(1,0),(2,0),(3,0),(4,0),(5,0),(6,0),(7,0),(8,0),(9,0),(10,0),(12,0),(13,0),(14,0),(15,0),(16,0),(18,0),(19,0),(20,0),(21,0),(22,0),(23,0),(11,2),(17,2),(24,2),(25,0),(26,2),(27,2),(28,1),(29,1),(30,1),(31,2)] (λ_=>True) (λW'=>Bx W' w.1.size #[H I 8,G (L ⟨n,p,J⟩) (d.length+2) m,H I δ,G va vn vc,N u,H I v]/\W'.cell? ⟨R,6,J⟩=L (G a7 ms.length q7)/\W'.cell? ⟨n,p+1,J⟩=L (.string ⟨y.toArray⟩)/\W'.cell? ⟨n,p,J⟩=L (.string ⟨a.toArray⟩)) au au (trivial) (⟨α.q.l,(α.q.r.s.t.b.1 6).trans Γ.q,Z.q _ α.q.s⟩) ?_;refine qC ?_;refine aG rfl rfl (λK f=>?_);go_simp;refine(K7 a W1.drew α.q.r (by have h:=ω.q 3 aj;omega)).mono ?_;rintro e w3 ⟨rfl,hS,q6,hr,ho⟩;have t:=C (α.q.call hS hr);have κ:Hid (q6[6]?=_):=C ((ho 6 ah ah).trans Γ.q);refine f _ _ ⟨U,t.q.l,(t.q.r.s.t.b.1 6).trans κ.q,Z.q _ t.q.s⟩ ?_;clear f K hS hr ho;refine aG rfl rfl (λK f=>?_);go_simp;refine(zC y w3 t.q.r (by have h:=ω.q 2 aj;have:=oW c 3 a 2;omega)).mono ?_;rintro e w4 ⟨rfl,hS,v5,hr,ho⟩;have ε:=C (t.q.call hS hr);have υ:Hid (v5[6]?=_):=C ((ho 6 ah ah).trans κ.q);refine f _ _ ⟨U,ε.q.l,(ε.q.r.s.t.b.1 6).trans υ.q,Z.q _ ε.q.s⟩ ?_;clear f K hS hr ho;refine aG rfl rfl (λK f=>?_);go_simp;refine(TN d ra d.length _ w4 ε.q.r (Same.row ε.q.s v8.q j4.q) (λb o e=>by have:=j4.q b o e;omega) (by have:=v9.q;omega) (by have h:=ω.q 0 aj;have:=oW c 3 a 0;have:=oW (c.put 3 a) 2 y 0;omega)).mono ?_;rintro e w5 ⟨a2,q2,⟨rfl,hS,y2,hr,ho⟩,z1⟩;have Φ:=C (ε.q.call hS hr);have q4:Hid (y2[6]?=_):=C ((ho 6 ah ah).trans υ.q);have k0:=C (z1.mono (B':=R+1) ε.q.r.s.t.b.2.2);refine f _ _ ⟨U,Φ.q.l,(Φ.q.r.s.t.b.1 6).trans q4.q,Z.q _ Φ.q.s⟩ ?_;clear f K hS hr ho z1;obtain⟨o7,θ⟩:=Φ.q.r.s.m;have Δ:=θ.2;rw[q4.q] at θ;obtain rfl:_=o7:=by have h:=θ.1;injection h
  have z2:=C Δ;clear θ Δ;refine qC ?_;refine aG rfl rfl (λK f=>?_);go_simp;obtain⟨x,hx⟩:∃x:aP,x=⟨c.no 3 a,(c.put 3 a).no 2 y,u,a2,d.length,q2⟩:=⟨_,rfl⟩;have q3:=C hx;have ι:=aB (Below.refl w5.1.size w5) (O #[H I (c.no 3 a),H I ((c.put 3 a).no 2 y),N u,G a2 d.length q2] 67);have z3:=C ι;have r:=C (Φ.q.below ι);have σ:=C (z2.q.below ι rfl);have φ:Hid (Row (w5.alloc (O #[H I (c.no 3 a),H I ((c.put 3 a).no 2 y),N u,G a2 d.length q2] 67)) 4 dV (L ⟨w5.1.size,0,J⟩) 1 1 [x]):=C (by rw[hx];exact Row.U4 w5 ⟨c.no 3 a,(c.put 3 a).no 2 y,u,a2,d.length,q2⟩);have z4:Hid (R+1<=(w5.alloc (O #[H I (c.no 3 a),H I ((c.put 3 a).no 2 y),N u,G a2 d.length q2] 67)).1.size):=C r.q.r.s.t.b.2.2;refine f _ _ ⟨U,r.q.l,(r.q.r.s.t.b.1 6).trans q4.q,Z.q _ r.q.s⟩ ?_;clear f K ι hx;refine aG rfl rfl (λK f=>?_);refine gK _ _ 38 rfl i z 48 underlying38 Y.q.1 Y.q.2.1 Y.q.2.2.1 Y.q.2.2.2.1 Y.q.2.2.2.2 rfl σ.q (L ⟨w5.1.size,0,J⟩) 1 1 (ms.length+1) [x] rfl φ.q rfl (by have:=ψ.q;omega) (by have:=ψ.q;unfold maxLen;omega) z4.q ?_;intro a' c' w9 Θ k z5;have β:=r.q.r.s.t.b.grown k (λe=>by have:=(σ.q.lt R e).1;omega);have τ:Same (λi=>i<R) w w9:=r.q.s.tr ⟨k.os,k.tape,k.output,k.size,λi F P=>k.block i P (λe=>by have:=(σ.q.lt i e.symm).1;omega)⟩;have z6:=C (Z.q _ τ);refine f _ _ ⟨U,r.q.l.grown k (λe=>by have:=j7.q _ e;omega),(β.1 6).trans q4.q,z6.q⟩ ?_;have k9:=(β.1 6).trans q4.q;have y0:=β.2.1 6;have z7:=C β;have Ξ:=C Θ;have γ:=C k;have z8:=C τ;clear f K β Θ k z5 τ;refine qC ?_;refine bA rfl rfl rfl (λK f=>?_);go_simp;refine f _ _ U ?_;clear f K;refine aH ?_;go_wp2_with fail;refine bodyPost_end (results_none rfl _ _ _) rfl ?_;have h1:Same (λi=>i≠R/\(Value.slice a7 ms.length q7).ownBlock≠L i) w5 (w9.setCell ⟨R,6,J⟩ (G a' (ms.length+1) c')):=((Same.of_below z3.q (λ_ _ h=>h)).tr ⟨γ.q.os,γ.q.tape,γ.q.output,γ.q.size,λi F P=>γ.q.block i P (λe=>F.2 e.symm)⟩).setTail (λh=>h.1 rfl);have z9:6<y2.size:=(fH.1 q4.q).1;have hE:=Φ.q.r.s.Cq q4.q h1 (x:=x) (l:=(Cont.ts (Cont.put (Cont.put c 3 a) 2 y) d).2) (Ξ.q.same (A:=λi=>i≠R) ((Same.refl' _).setTail (λh=>h rfl)) (λg hg e=>by have:=(Ξ.q.lt g hg).1;omega)) (z7.q.aX 6 z9 _) (by rw[q3.q];exact k0.q);have v0:aT c s={(Cont.ts (Cont.put (Cont.put c 3 a) 2 y) d).1 with M:=((Cont.ts (Cont.put (Cont.put c 3 a) 2 y) d).1).M++[x.base],SM:=((Cont.ts (Cont.put (Cont.put c 3 a) 2 y) d).1).SM++[(Cont.ts (Cont.put (Cont.put c 3 a) 2 y) d).2]}:=by unfold aT;simp only[<-ν.q,HN.q,<-y3.q];rw[q3.q,(Nm.ts d ((c.put 3 a).put 2 y)).m,(Nm.ts d ((c.put 3 a).put 2 y)).sm];rfl
  have v1:Nm c (Cont.ts (Cont.put (Cont.put c 3 a) 2 y) d).1:=((Nm.put c 3 a).trans (Nm.put _ 2 y)).trans (Nm.ts d _);rw[v0];refine⟨rfl,z8.q.tr ((Same.refl' w9).setTail (λh=>by omega)),_,es,ds,_,g1,⟨hE,?_,?_⟩,?_⟩
  .rw[V];exact Φ.q.r.z
  .rw[iQ ah];exact Φ.q.r.k
  .rw[Po B.q v1,z0.q,v4.q]
   have e9:decide ((c.M.length:Int)<3000)=decide (c.M.length<3000):=decide_eq_decide.2 ah;rw[e9]
 .have μ:fo s:=v2.q.resolve_left (by have:=ν.q;omega)
  obtain⟨a,T⟩:=zY μ (by have:=ν.q;omega);have q9:nn=1:=by have:=v6.q;rw[T] at this;simpa using this
  obtain⟨n,p,χ,ζ,ο⟩:=ξ.q.name (i:=0) (x:=a) (by rw[T];rfl);simp only[bK] at χ ο;subst χ q9;have q5:=C ζ;have HN:=C T;have j5:=C ο;obtain⟨v7,h7,π⟩:=Ψ.q.s.q;obtain⟨a7,q7,rfl,_,k8⟩:=π.shape;have j6:c.Q.length<=3000:=by have h:=B.q.2.2.2.2.1;exact h
  have ψ:=C j6;have H7:=C h7;have j7:Hid (∀g,(Value.slice a7 c.Q.length q7).ownBlock=L g->g<w.1.size):=C (λg hg=>(π.lt g hg).2);have v4:Hid (c.Q.length=c.Q.length):=C (rfl);have h8:(w.alloc (O #[H I 9,G (L ⟨n,p,J⟩) (1) m,H I δ,G va vn vc,N u,H I v] 34)).cell? ⟨R,8,J⟩=L (N true):=by have:=(E.q.r.s.t.b.1 8).trans E.q.r.k;rw[tO B.q] at this;exact this
  have j8:=E.q.r.s.t.b.2.1 8;have j9:=(E.q.r.s.t.b.1 7).trans h7;have ω:Hid (∀j,j<4->(c.nl j).length<=300):=C (λj hj=>by have:=B.q.1 j hj;have:=qo j;omega);obtain⟨i,z,F⟩:=Ap;have Y:=C F;clear F h7 π μ T ο ζ;have q0:=HX.q.1;go_enter Tryz.func37,Tryz.ntmps37;go_wp2_with fail;have η:=C (E.q.flag (b:=decide ((c.Q.length:Int)<3000)) (g':=decide ((c.Q.length:Int)<3000)) (by rw[tO B.q,Bool.and_true]));generalize((w.alloc (O #[H I 9,G (L ⟨n,p,J⟩) (1) m,H I δ,G va vn vc,N u,H I v] 34)).setCell ⟨R,8,J⟩ (N (decide ((c.Q.length:Int)<3000))))=W1 at η ⊢;obtain⟨g1,ρ⟩:∃g1,g1=decide ((c.Q.length:Int)<3000):=⟨_,rfl⟩;rw[<-ρ] at η;have z0:=C ρ;have Z:Hid (∀X,Same (λi=>i<R) w X->X.cell? ⟨n,p,J⟩=L (.string ⟨a.toArray⟩)):=C (λX hX=>hX.cell j5.q q5.q);have Γ:Hid ((cs.setIfInBounds 8 (N g1))[7]?=L (G a7 c.Q.length q7)):=C (by rw[iQ ah];exact H7.q);have α:=C (η.q.below (Below.refl _ _).drew);clear h8 j8 j9 q0 ρ η;go_wp2_with fail;refine aD 20 [(0,0),(1,0),(2,0),(3,0),(4,0),(5,0),(6,0),(7,0),(8,0),(9,0),(10,0),(12,0),(13,0),(11,2),(14,0),(15,2),(16,2),(17,1),(18,1),(19,1),(20,2)] (λ_=>True) (λW'=>Bx W' w.1.size #[H I 9,G (L ⟨n,p,J⟩) (1) m,H I δ,G va vn vc,N u,H I v]/\W'.cell? ⟨R,7,J⟩=L (G a7 c.Q.length q7)/\W'.cell? ⟨n,p,J⟩=L (.string ⟨a.toArray⟩)) au au (trivial) (⟨α.q.l,(α.q.r.s.t.b.1 7).trans Γ.q,Z.q _ α.q.s⟩) ?_;refine qC ?_;refine aG rfl rfl (λK f=>?_);go_simp;refine(K6 a W1.drew α.q.r (by have h:=ω.q 1 aj;omega)).mono ?_;rintro e w3 ⟨rfl,hS,q6,hr,ho⟩;have t:=C (α.q.call hS hr);have κ:Hid (q6[7]?=_):=C ((ho 7 ah ah).trans Γ.q);refine f _ _ ⟨U,t.q.l,(t.q.r.s.t.b.1 7).trans κ.q,Z.q _ t.q.s⟩ ?_;clear f K hS hr ho;obtain⟨o7,θ⟩:=t.q.r.s.q;have Δ:=θ.2;rw[κ.q] at θ;obtain rfl:_=o7:=by have h:=θ.1;injection h
  have z2:=C Δ;clear θ Δ;refine qC ?_;refine aG rfl rfl (λK f=>?_);go_simp;obtain⟨x,hx⟩:∃x:Wa,x=⟨c.no 1 a,v⟩:=⟨_,rfl⟩;have q3:=C hx;have ι:=aB (Below.refl w3.1.size w3) (O #[H I (c.no 1 a),H I v] 69);have z3:=C ι;have r:=C (t.q.below ι);have σ:=C (z2.q.below ι rfl);have φ:Hid (Row (w3.alloc (O #[H I (c.no 1 a),H I v] 69)) 2 eY (L ⟨w3.1.size,0,J⟩) 1 1 [x]):=C (by rw[hx];exact Row.U2 w3 ⟨c.no 1 a,v⟩);have z4:Hid (R+1<=(w3.alloc (O #[H I (c.no 1 a),H I v] 69)).1.size):=C r.q.r.s.t.b.2.2;refine f _ _ ⟨U,r.q.l,(r.q.r.s.t.b.1 7).trans κ.q,Z.q _ r.q.s⟩ ?_;clear f K ι hx;refine aG rfl rfl (λK f=>?_);refine gK _ _ 39 rfl i z 16 underlying39 Y.q.1 Y.q.2.1 Y.q.2.2.1 Y.q.2.2.2.1 Y.q.2.2.2.2 rfl σ.q (L ⟨w3.1.size,0,J⟩) 1 1 (c.Q.length+1) [x] rfl φ.q rfl (by have:=ψ.q;omega) (by have:=ψ.q;unfold maxLen;omega) z4.q ?_;intro a' c' w9 Θ k z5;have β:=r.q.r.s.t.b.grown k (λe=>by have:=(σ.q.lt R e).1;omega);have τ:Same (λi=>i<R) w w9:=r.q.s.tr ⟨k.os,k.tape,k.output,k.size,λi F P=>k.block i P (λe=>by have:=(σ.q.lt i e.symm).1;omega)⟩;have z6:=C (Z.q _ τ);refine f _ _ ⟨U,r.q.l.grown k (λe=>by have:=j7.q _ e;omega),(β.1 7).trans κ.q,z6.q⟩ ?_;have k9:=(β.1 7).trans κ.q;have y0:=β.2.1 7;have z7:=C β;have Ξ:=C Θ;have γ:=C k;have z8:=C τ;clear f K β Θ k z5 τ;refine qC ?_;refine bA rfl rfl rfl (λK f=>?_);go_simp;refine f _ _ U ?_;clear f K;refine aH ?_;go_wp2_with fail;refine bodyPost_end (results_none rfl _ _ _) rfl ?_;have h1:Same (λi=>i≠R/\(Value.slice a7 c.Q.length q7).ownBlock≠L i) w3 (w9.setCell ⟨R,7,J⟩ (G a' (c.Q.length+1) c')):=((Same.of_below z3.q (λ_ _ h=>h)).tr ⟨γ.q.os,γ.q.tape,γ.q.output,γ.q.size,λi F P=>γ.q.block i P (λe=>F.2 e.symm)⟩).setTail (λh=>h.1 rfl);have z9:7<q6.size:=(fH.1 κ.q).1;have hE:=t.q.r.s.want κ.q h1 (x:=x) (Ξ.q.same (A:=λi=>i≠R) ((Same.refl' _).setTail (λh=>h rfl)) (λg hg e=>by have:=(Ξ.q.lt g hg).1;omega)) (z7.q.aX 7 z9 _);have v0:aT c s={(Cont.put c 1 a) with Q:=((Cont.put c 1 a)).Q++[x]}:=by unfold aT;simp only[<-ν.q,HN.q,<-y4.q];rw[q3.q];rfl
  have v1:Nm c (Cont.put c 1 a):=Nm.put c 1 a;rw[v0];refine⟨rfl,z8.q.tr ((Same.refl' w9).setTail (λh=>by omega)),_,es,ds,ms,g1,⟨hE,?_,?_⟩,?_⟩
  .rw[V];exact t.q.r.z
  .rw[iQ ah];exact t.q.r.k
  .rw[Pp B.q v1,z0.q]
   have e9:decide ((c.Q.length:Int)<3000)=decide (c.Q.length<3000):=decide_eq_decide.2 ah;rw[e9]
 .have h0:(S==0)=false:=aN.2 ah
  have h7:(S==7)=false:=aN.2 ah;have h8:(S==8)=false:=aN.2 ah;have h9:(S==9)=false:=aN.2 ah;have q0:=HX.q.1;have hL:nQ (w.alloc (O #[H I S,G la nn m,H I δ,G va vn vc,N u,H I v] 34)) R ⟨S,la,nn,m,δ,va,vn,vc,u,v⟩ s:=⟨ξ.q.k,ξ.q.n.below k7.q rfl,ξ.q.v.below k7.q rfl,ξ.q.na,ξ.q.va⟩;have HE:=C (R6 ⟨S,la,nn,m,δ,va,vn,vc,u,v⟩ s _ φ.q B.q hL (by rw[<-ν.q];exact v3) (v2.q.resolve_left (by have:=ν.q;omega)));clear hL v3;go_enter Tryz.func37,Tryz.ntmps37;go_wp2_with fail;refine HE.q.mono ?_;rintro e w1 ⟨rfl,hS,hq⟩;have HS:=C hS;have HQ:=C hq;clear hS hq q0;go_wp2_with fail;refine bodyPost_end (results_none rfl _ _ _) rfl ?_;exact⟨rfl,E.q.s.tr HS.q,HQ.q⟩
end
end Yd
