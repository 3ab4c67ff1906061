import Derived.Test.YtddiadcpokbpoabGreatDoorKREvent
import Derived.Test.YtddiadcpokbpoabGreatDoorKChG
import Derived.Test.YtddiadcpokbpoabGreatDoorKHSame
set_option linter.all false
set_option maxRecDepth 200000
set_option maxHeartbeats 8000000
namespace Yd
open Go Go.RowKit Go.Proofs
def GH (c:Cont):Bool:=
 (List.range 4).all (λi=>decide ((c.nl i).length<=jU i)) && decide (c.E.length<=3000) && decide (c.D.length<=3000) && decide (c.M.length<=3000) && decide (c.Q.length<=3000) && c.E.all (λe=>decide (e.kind=2->e.v.k<=999))
theorem vG (c:Cont):GH c=true↔aI c:=by
 unfold GH aI;simp only[aM,aV,dZ,oG,and_assoc]
def qK (c:Cont):Nat->List aJ->Except (Nat × Int) Cont
 |_,[]=> .ok c
 |i,l::a=>if jP l=true then(if GH (aT c l)=true then qK (aT c l) (i+1) a else .error (i,6)) else .error (i,220)
theorem KP:∀(ls:List aJ)(c:Cont)(i:Nat)(z:Cont),qK c i ls= .ok z->z=dI c ls/\(∀l∈ls,jP l=true)/\(aI c->aI (dI c ls))
 |[],c,i,z,h=>by
  injection h with h;exact⟨h.symm,λl a=>(by cases a),λh=>h⟩
 |l::ls,c,i,z,h=>by
  unfold qK at h
  split at h
  .rename_i a
   split at h
   .rename_i d
    obtain⟨e,f,g⟩:=KP ls (aT c l) (i+1) z h;refine⟨e,λx b=>?_,λ_=>g ((vG _).1 d)⟩;rcases dO.1 b with rfl|b
    .exact a
    .exact f x b
   .cases h
  .cases h
theorem KQ:∀(ls:List aJ)(c:Cont)(i:Nat),(∀l∈ls,jP l=true)->aI (dI c ls)->qK c i ls= .ok (dI c ls)
 |[],_,_,_,_=>rfl
 |l::ls,c,i,a,b=>by
  unfold qK;rw[av (a l fQ),av ((vG _).2 ((Gr.all ls (aT c l)).fits b))];exact KQ ls (aT c l) (i+1) (λx d=>a x (d9 _ d)) b
theorem FN:aI eZ:=⟨λ_ _=>bn _,bn _,bn _,bn _,bn _,λe a=>by cases a⟩
theorem Ke:∀(ls:List aJ)(c:Cont)(i j:Nat)(e:Int),qK c i ls= .error (j,e)->∃k l,j=i+k/\ls[k]?=some l/\(∀x∈ls.take k,jP x=true)/\((e=220/\jP l=false)\/(e=6/\jP l=true/\¬aI (dI c (ls.take (k+1)))))
 |[],_,_,_,_,h=>by cases h
 |l::ls,c,i,j,e,h=>by
  unfold qK at h
  split at h
  .rename_i d
   split at h
   .obtain⟨k,g,f,b,m,n⟩:=Ke ls (aT c l) (i+1) j e h
    refine⟨k+1,g,by omega,by rw[List.getElem?_cons_succ];exact b,λx a=>?_,n⟩;rw[List.take_succ_cons] at a;rcases dO.1 a with rfl|a
    .exact d
    .exact m x a
   .rename_i o
    injection h with h;injection h with f b;exact⟨0,l,by omega,rfl,λx a=>(by cases a),.inr ⟨b.symm,d,λk=>o ((vG _).2 k)⟩⟩
  .rename_i d
   injection h with h;injection h with f b;exact⟨0,l,by omega,rfl,λx a=>(by cases a),.inl ⟨b.symm,Bool.eq_false_iff.2 d⟩⟩
theorem OY {ls:List aJ}(h:∀l∈ls,jP l=true):∀l∈ls,l.kind=0\/eF l:=λl a=>wO (h l a)
theorem Am {ls:List aJ}{z:Cont}(h:qK eZ 0 ls= .ok z):fJ z/\jw z/\iq z/\aI z/\z=dI eZ ls:=by
 obtain⟨rfl,b,c⟩:=KP ls eZ 0 z h;have a:=c FN;exact⟨fJ.zero.all ls (OY b) a,jw.zero.all ls,iq.zero.all ls,a,rfl⟩
theorem Qt {c:Cont}(a:um c)(b:fJ c)(d:iq c)(hc:jw c)(e:aI c)(f:∀l∈dL c,jP l=true):∃z,qK eZ 0 (dL c)= .ok z/\lU (eG z) c:=by
 obtain⟨g,h⟩:=Me a b d hc e;exact⟨_,KQ _ _ _ f g,h⟩
end Yd
namespace Yd
open Classical renaming epsilon->O
open Option renaming none->H,some->I
open Go Go.RowKit Go.Proofs Go.Maps
open Go renaming World->L,Value->N,TypeId->U
open Go.Value renaming slice->G
open _root_ renaming List->C,Nat->J
attribute [local go_sem] Oper.semAt_some
variable{X:L}{b:J}
theorem fI {o o':J}{v u:N}(h:X.cell? ⟨b,o,H⟩=I v)(a:o≠o'):(X.setCell ⟨b,o',H⟩ u).cell? ⟨b,o,H⟩=I v:=by
 rw[World.cell?_setCell_other _ _ _ _ (λe=>by cases e;exact a rfl)];exact h
def sF (w:L)(B:J)(a:C bH)(ls:C aJ):Prop:=a.length=ls.length/\∀(i:J)(l:bH),a[i]?=I l->∃s,ls[i]?=I s/\fV w B l s
variable{w:L}{B:J}
theorem sF.below {a:C bH}{ls:C aJ}(h:sF w B a ls)(b:Below w.1.size w X):sF X B a ls:=
 ⟨h.1,λi l c=>let⟨s,d,e⟩:=h.2 i l c;⟨s,d,e.below b⟩⟩
theorem IQ {α:Type}{enc:α->C N}{k:J}{T:U}{a:Option Addr}{n c:J}{xs:C α}(h:Own X B T k enc (G a n c) xs){o:J}(e:a=I ⟨b,o,H⟩):b<X.1.size:=by
 rcases h.tC with⟨q,_⟩|⟨g,q,_⟩
 .rw[q] at e;cases e
 .have:=(h.lt g (by rw[q];rfl)).2
  rw[q] at e;injection e with e;injection e with e;omega
theorem fV.lnR {l:bH}{s:aJ}(h:fV w B l s)(c:s.names.length<=1000)(d:s.aN.length<=1000)(f:w.1.size<=b):tO w b l s:=
 ⟨h.1,h.2.1.row (hc:=eX) ah,h.2.2.row (hc:=OZ) ah,λa o e=>by have:=IQ h.2.1 e;omega,λa o e=>by have:=IQ h.2.2 e;omega⟩
@[reducible] def rD:HC:=⟨⟨H,0,0⟩,⟨H,0,0⟩,⟨H,0,0⟩,⟨H,0,0⟩,⟨H,0,0⟩,⟨H,0,0⟩,⟨H,0,0⟩,⟨H,0,0⟩⟩
@[reducible] def yO (a:J):Array N:=#[G H 0 0,G H 0 0,G H 0 0,G H 0 0,G H 0 0,G H 0 0,G H 0 0,G H 0 0,G H 0 0,G H 0 0,G H 0 0,G H 0 0,.map (I a)]
structure za (w:L):Prop where
 f:qY w
 l:jM w
theorem za.below (h:za w)(a:Below w.1.size w X):za X:=⟨h.f.below a,h.l.below a⟩
theorem za.add (h:za w)(a:Below w.1.size w X)(c:w.1.size<=B):LM B X:=λW b=>h.f.below (b.below a (λi d=>by omega) a.size)
def Y6 (w:L)(ls:C aJ)(e:Ending)(X:L):Prop:=
 Below w.1.size w X/\
 match qK eZ 0 ls with
 | .ok z=>∃h a b c,∃d:EvC->C Sn,∃f:aG->C Int,∃g:aK->C Int,e= .returned (.tuple #[bC h,.int .i64 (ls.length:Int),.int .i64 0])/\gQ X w.1.size h (eG z) a b c d f g
 | .error (i,n)=>e= .returned (.tuple #[bC rD,.int .i64 (i:Int),.int .i64 n])
theorem ji.start (W:L)(b:J)(B:J)(d:jW W b [])(f:B<=b)(g:B<=W.1.size):ji B (W.alloc (.cells (yO b) 166)) W.1.size (yO b) eZ [] [] []:=by
 have c:∀{α:Type}{h:α->C N}{k:J}{T:U},Own (W.alloc (.cells (yO b) 166)) (W.1.size+1) T k h (G H 0 0) []:=Own.jv _ _ _ _ _;refine⟨⟨⟨Bx.new W _ _,λk j=>⟨G H 0 0,?_,c⟩,λk j=>⟨⟨λx a=>(by cases a),oI,bn _⟩,bn _⟩⟩,⟨_,rfl,c⟩,⟨_,rfl,c⟩,⟨_,rfl,c⟩,⟨_,rfl,c⟩,rfl,rfl,rfl,⟨rfl,λi x e a=>(by cases a)⟩,⟨rfl,λi x e a=>(by cases a)⟩,⟨rfl,λi x e a=>(by cases a)⟩⟩,⟨b,rfl,d.of_eq (Below.heap_alloc _ _ _ (by have:=d.lt;omega)),f⟩,g⟩;rcases(by omega:k=0\/k=1\/k=2\/k=3) with rfl|rfl|rfl|rfl <;> rfl
theorem WM {Y:L}{R:J}{cs:Array N}{c:Cont}{es:C EvC}{i:C aG}{j:C aK}(A:∀k,k<4->∃v,cs[8*b+k]?=I v/\Own X (R+1) 9 1 encStr v (c.nl k))
  (P:∃v,cs[4]?=I v/\Own X (R+1) 49 9 dx v es) (Q:∃v,cs[5]?=I v/\Own X (R+1) 57 2 dV v i) (S:∃v,cs[6]?=I v/\Own X (R+1) 60 4 eB v j) (W:∃v,cs[7]?=I v/\Own X (R+1) 63 2 fE v c.Q)
  (Z:es.map EvC.base=c.E) (bd:i.map aG.base=c.D) (bm:j.map aK.base=c.M) (γ:uF X R 53 3 cZ EvC.val es c.SE) (δ:uF X R 3 1 aS aG.val i c.SD) (ε:uF X R 3 1 aS aK.val j c.SM)
  (z:DJ c) (F:∀{α:Type}{g:α->C N}{k:J}{T:U}{v:N}{d:C α},Own X (R+1) T k g v d->Own Y (R+1) T k g v d):
  ∃h':HC,∃ζ:EvC->C Sn,∃dn:aG->C Int,∃mn:aK->C Int,(∀k,k<4->cs[8*b+k]?=I (h'.nm k).v)/\cs[4]?=I h'.e.v/\cs[5]?=I h'.d.v/\cs[6]?=I h'.m.v/\cs[7]?=I h'.w.v/\gQ Y (R+1) h' c es i j ζ dn mn:=by
 have m:∀{α:Type}{g:α->C N}{k:J}{T:U}{v:N}{d:C α},Own X (R+1) T k g v d->∃s:Sl,v= G s.a s.n s.c/\Own Y (R+1) T k g (G s.a s.n s.c) d:=λt=>by
  obtain⟨a,c,q,_⟩:=t.shape;exact⟨⟨a,_,c⟩,q,by rw[<-q];exact F t⟩
 obtain⟨v4,c4,o4⟩:=P;obtain⟨s4,rfl,y4⟩:=m o4;obtain⟨v5,c5,o5⟩:=Q;obtain⟨s5,rfl,y5⟩:=m o5;obtain⟨v6,c6,o6⟩:=S;obtain⟨s6,rfl,y6⟩:=m o6;obtain⟨v7,c7,o7⟩:=W;obtain⟨s7,rfl,y7⟩:=m o7;obtain⟨u0,d0,p0⟩:=A 0 ah;obtain⟨t0,rfl,z0⟩:=m p0;obtain⟨u1,d1,p1⟩:=A 1 ah;obtain⟨t1,rfl,z1⟩:=m p1;obtain⟨u2,d2,p2⟩:=A 2 ah;obtain⟨t2,rfl,z2⟩:=m p2;obtain⟨u3,d3,p3⟩:=A 3 ah;obtain⟨t3,rfl,z3⟩:=m p3;have B:∀{α β:Type}{T:U}{l:J}{g:β->C N}[hc:Cells g l]{a:α->Option Addr}{n q:α->J}{u:C α}{p:C (C β)},(∀x y,g x=g y->x=y)->uF X R T l g (λx=> G (a x) (n x) (q x)) u p->(∀d∈p,d.length<=2000000)->
   ∃f:α->C β,(∀x∈u,Own Y (R+1) T l g (G (a x) (n x) (q x)) (f x))/\u.map f=p:=fun {α β T l g E a n q u p} η t hl=>by
  have K:∀h x,u[h]?=I x->∃d,p[h]?=I d/\Own Y (R+1) T l g (G (a x) (n x) (q x)) d/\O (λd=>Row Y l g (a x) (n x) (q x) d)=d:=λh x r=>by
   have w:h<p.length:=by rw[<-t.1];exact(bK.1 r).1
   have o:=F (t.2 h x p[h] r (cB w));have θ:=hl _ (List.getElem_mem w);exact⟨_,cB w,o,yM (hc:=E) η (o.row (hc:=E) ah)⟩
  refine⟨λx=>O (λd=>Row Y l g (a x) (n x) (q x) d),λx r=>?_,tF (λh=>?_)⟩
  .obtain⟨h,w⟩:=pO.1 r
   obtain⟨d,_,o,e⟩:=K h x w;show Own Y (R+1) T l g (G (a x) (n x) (q x)) (O (λd=>Row Y l g (a x) (n x) (q x) d));rw[e];exact o
  .rw[nS]
   cases r:u[h]? with
   |none=>rw[Option.map_none,qB (by rw[<-t.1];exact List.getElem?_eq_none_iff.1 r)]
   |some x=>
    obtain⟨d,h1,_,e⟩:=K h x r;rw[Option.map_some,e,h1]
 obtain⟨f1,a1,b1⟩:=B (hc:=ko) (a:=EvC.sa) (n:=EvC.sn) (q:=EvC.sc) yN γ z.se;obtain⟨f2,a2,b2⟩:=B (hc:=eP) (a:=aG.sa) (n:=aG.sn) (q:=aG.sc) nP δ z.sd;obtain⟨f3,a3,b3⟩:=B (hc:=eP) (a:=aK.sa) (n:=aK.sn) (q:=aK.sc) nP ε z.sm;refine⟨⟨t0,t1,t2,t3,s4,s5,s6,s7⟩,f1,f2,f3,λk hk=>?_,c4,c5,c6,c7,⟨y4,y5,y6,y7,λk hk=>?_,a1,a2,a3,Z,bd,bm,b1,b2,b3⟩⟩
 .rcases(by omega:k=0\/k=1\/k=2\/k=3) with rfl|rfl|rfl|rfl
  .exact d0
  .exact d1
  .exact d2
  .exact d3
 .rcases(by omega:k=0\/k=1\/k=2\/k=3) with rfl|rfl|rfl|rfl
  .exact z0
  .exact z1
  .exact z2
  .exact z3
theorem tV.his {P:(J->C Bs)->Prop}{Y:L}{R:J}{cs:Array N}{c:Cont}{es:C EvC}{i:C aG}{j:C aK}(h:tV b P X R cs c es i j)(z:DJ c)(a:Same (λd=>d≠R) X Y):
  ∃h':HC,∃e:EvC->C Sn,∃f:aG->C Int,∃g:aK->C Int,(∀k,k<4->cs[8*b+k]?=I (h'.nm k).v)/\cs[4]?=I h'.e.v/\cs[5]?=I h'.d.v/\cs[6]?=I h'.m.v/\cs[7]?=I h'.w.v/\gQ Y (R+1) h' c es i j e f g:=
 WM h.t.t h.e h.d h.m h.q h.be h.bd h.bm h.se h.sd h.sm z (λo=>o.iR a)
end Yd
namespace Yd
open Option renaming none->C,some->H
open Go Go.RowKit Go.Proofs Go.Maps Tryz
open Go.Obj renaming cells->J
open Go.Value renaming slice->D,int->M
open Tryz renaming prog->L
open World renaming cell?_setCell_same'->I
open Yd renaming hid->G
attribute [local go_sem] Oper.semAt_some
theorem NA (a:Option Addr)(c:Nat)(E:List bH)(ls:List aJ)(B0:Nat)(w:World)(hr:Row w 6 qX a E.length c E)(hl:sF w B0 E ls)(f:∀s∈ls,s.names.length<=1000/\s.aN.length<=1000)(hG:za w):
  Calls L 31 #[D a E.length c] w (Y6 w ls):=by
 have b1:E.length<=140737488355328:=hr.le;have HR:=G hr;have HL:=G hl;have k3:=G f;have HG:=G hG;have j5:=G hl.1;clear hr hl f hG;obtain⟨W1,Γ⟩:∃W,W=w.alloc (J #[D C 0 0,D C 0 0,D C 0 0,D C 0 0,D C 0 0,D C 0 0,D C 0 0,D C 0 0] 28):=⟨_,rfl⟩;obtain⟨W2,κ⟩:∃W,W=W1.alloc (.map #[] 0):=⟨_,rfl⟩;have Φ:W1.1.size=w.1.size+1:=by rw[Γ];simp
 have S:W2.1.size=w.1.size+2:=by rw[κ,World.size_alloc,Φ]
 have r:Below w.1.size w W1:=by rw[Γ];exact aA (Below.refl _ _) _
 have T:Below w.1.size w W2:=by rw[κ];exact r.alloc ah _
 have j6:Below w.1.size w (W2.alloc (J (yO (w.1.size+1)) 166)):=T.alloc ah _;have j7:Bx (W2.alloc (J (yO (w.1.size+1)) 166)) w.1.size (aD rD):=by rw[κ,Γ];exact((Bx.new w _ _).alloc _).alloc _
 have j8:jW W2 (w.1.size+1) []:=by have:=jW.new W1;rw[Φ,<-κ] at this;exact this
 have F:=ji.start W2 (w.1.size+1) (w.1.size+1) j8 (aB _) ah;rw[S] at F;have k4:=G j6;have k5:=G j7;have k6:=G F;clear r T j6 j7 j8 F;go_enter Tryz.func31,Tryz.ntmps31;have k7:= @run_makeMap L;go_wp2_with fail;clear k7;subst κ;subst Γ;clear Φ S
 go_loopw [15] (λi X=>∃(k:Nat)(cs:Array Value)(p:Cont)(es:List EvC)(ds:List aG)(ms:List aK),k<=E.length/\i= M .i64 k/\Below w.1.size w X/\Bx X w.1.size (aD rD)/\ji (w.1.size+1) X (w.1.size+2) cs p es ds ms/\aI p/\fJ p/\qK eZ 0 ls=qK p k (ls.drop k)) (λi _=>E.length - (RowKit.intOf i).toNat)
 case atStart=>exact⟨0,_,eZ,[],[],[],bn _,rfl,k4.q,k5.q,k6.q,FN,fJ.zero,by rw[List.drop_zero]⟩
 case round=>
  obtain⟨k,cs,p,es,ds,ms,hk,rfl,f,α,F,hf,μ,ε⟩:=hrel;by_cases k8:k<E.length
  .obtain⟨x,b,o,hx,rfl,hc⟩:=HR.q.at_ k8
   have h0:=bq f rfl (hc 0 _ rfl);have h1:=bq f rfl (hc 1 _ rfl);have d:=bq f rfl (hc 2 _ rfl);have h3:=bq f rfl (hc 3 _ rfl);have h4:=bq f rfl (hc 4 _ rfl);have h5:=bq f rfl (hc 5 _ rfl);simp only[dB] at h0;obtain⟨s,hs,Ψ⟩:=HL.q.2 k x hx;have j9:s∈ls:=dA hs;have ν:=k3.q s j9;have Ω:ls.drop k=s::ls.drop (k+1):=by
    obtain⟨k9,e⟩:=bK.1 hs;rw[<-e];exact lW k9
   rw[Ω] at ε;have ξ:qK eZ 0 ls=if jP s=true then(if GH (aT p s)=true then qK (aT p s) (k+1) (ls.drop (k+1)) else .error (k,6)) else .error (k,220):=ε;have z0:Hid (∀W,Below w.1.size w W->Calls L 58 #[dU x] W (cO (M .i64 (if jP s=true then 0 else 220)) W)):=G (λW t=>yP (Ψ.below t) ν.1 ν.2 (HG.q.l.below t));have g:=G f;have Δ:=G α;have y0:=G F;have HF:=G hf;have q4:=G μ;have ο:=G ξ;have b2:=G Ω;have y1:Hid (∀W,Below wr.1.size wr W->jP s=true->Calls L 82 #[.pointer (H ⟨w.1.size+2,0,C⟩),dU x] W (wH (w.1.size+1) (w.1.size+2) (aT p s) W)):=G (λW t ζ=>
    VU x s W (y0.q.below t) HF.q ((Ψ.lnR ν.1 ν.2 (Nat.le_succ w.1.size)).below (g.q.bQ t)) (wO ζ) (HG.q.add (g.q.bQ t) (Nat.le_succ _)))
   have q5:Hid (w.1.size<=wr.1.size):=G f.size;have π:=α.1;have ρ:=α.2.1;have σ:=α.2.2;clear f α F hf μ ε ξ Ω ν j9 Ψ hs hx hc;by_cases ζ:jP s=true
   .have Q:=G ζ
    have q6:Hid (∀W,Below w.1.size w W->Calls L 58 #[dU x] W (cO (M .i64 0) W)):=G (λW t=>by have:=z0.q W t;rw[av Q.q] at this;exact this);clear ζ π ρ σ;go_wp2_with fail;refine(q6.q _ (g.q.alloc g.q.size _)).mono ?_;rintro e w1 ⟨rfl,r⟩;have q7:=G ((Below.refl wr.1.size wr).alloc (aB _) (J (bM x) 77)|>.trans (r.mono ak));have τ:=G (g.q.trans (q7.q.mono q5.q));have η:=G (Δ.q.keep q7.q);have z1:=(Bx.new wr (bM x) 77).keep r;have z2:=z1.1;clear r z1;go_wp2_with fail;refine(y1.q _ q7.q Q.q).mono ?_;rintro e w2 ⟨S,q8,q9⟩;have z:=G (S.bx η.q ah);have θ:Hid (Below w.1.size w w2):=G (S.below τ.q (λi hi=>by omega) τ.q.size);by_cases ι:aI (aT p s)
    .obtain⟨rfl,y2,j0,j1,j2,z3⟩:=q8 ι
     have y3:=G z3;have j3:=G ι;clear q8 q9 S z2 z3 ι;go_wp2_with fail;go_roundw
     case rel=>exact⟨k+1,y2,aT p s,j0,j1,j2,by omega,by go_num,θ.q,z.q,y3.q,j3.q,q4.q.all [s] (λy hy=>by rw[bX.1 hy];exact wO Q.q) j3.q,by rw[ο.q,av Q.q,av ((vG _).2 j3.q)]⟩
     case measure=>simp[RowKit.intOf];omega
    .obtain rfl:=q9 ι
     have y4:=G ι;have π:=z.q.1;have ρ:=z.q.2.1;have σ:=z.q.2.2;clear q8 q9 S z2 ι;go_wp2_with fail;have m:Bx ((((((((w2.setCell ⟨w.1.size,0,C⟩ (D C 0 0)).setCell ⟨w.1.size,1,C⟩ (D C 0 0)).setCell ⟨w.1.size,2,C⟩ (D C 0 0)).setCell ⟨w.1.size,3,C⟩ (D C 0 0)).setCell ⟨w.1.size,4,C⟩ (D C 0 0)).setCell ⟨w.1.size,5,C⟩ (D C 0 0)).setCell ⟨w.1.size,6,C⟩ (D C 0 0)).setCell ⟨w.1.size,7,C⟩ (D C 0 0)) w.1.size (aD rD):=yG (h':=rD) z.q;have l:Same (λi=>i≠w.1.size) w2 ((((((((w2.setCell ⟨w.1.size,0,C⟩ (D C 0 0)).setCell ⟨w.1.size,1,C⟩ (D C 0 0)).setCell ⟨w.1.size,2,C⟩ (D C 0 0)).setCell ⟨w.1.size,3,C⟩ (D C 0 0)).setCell ⟨w.1.size,4,C⟩ (D C 0 0)).setCell ⟨w.1.size,5,C⟩ (D C 0 0)).setCell ⟨w.1.size,6,C⟩ (D C 0 0)).setCell ⟨w.1.size,7,C⟩ (D C 0 0)):=sN (b:=w.1.size) (h':=rD);revert m l;generalize((((((((w2.setCell ⟨w.1.size,0,C⟩ (D C 0 0)).setCell ⟨w.1.size,1,C⟩ (D C 0 0)).setCell ⟨w.1.size,2,C⟩ (D C 0 0)).setCell ⟨w.1.size,3,C⟩ (D C 0 0)).setCell ⟨w.1.size,4,C⟩ (D C 0 0)).setCell ⟨w.1.size,5,C⟩ (D C 0 0)).setCell ⟨w.1.size,6,C⟩ (D C 0 0)).setCell ⟨w.1.size,7,C⟩ (D C 0 0))=Z;intro m l;have υ:=m.1;refine bodyPost_ret (v:= .tuple #[bC rD,M .i64 (k:Int),M .i64 6]) (by simp[results,results31,go_sem,υ]) rfl ⟨l.below θ.q (λi hi=>by omega) θ.q.size,?_⟩;rw[ο.q,av Q.q,au (λe=>y4.q ((vG _).1 e))]
   .have Q:=G ζ
    have q6:Hid (∀W,Below w.1.size w W->Calls L 58 #[dU x] W (cO (M .i64 220) W)):=G (λW t=>by have:=z0.q W t;rw[au Q.q] at this;exact this);clear ζ π ρ σ;go_wp2_with fail;refine(q6.q _ (g.q.alloc g.q.size _)).mono ?_;rintro e w1 ⟨rfl,r⟩;have τ:=G ((g.q.alloc g.q.size _).trans (r.mono (by have:=q5.q;simp;omega)));have η:=G ((Δ.q.alloc _).keep r);have π:=η.q.1;have ρ:=η.q.2.1;have σ:=η.q.2.2;clear r;go_wp2_with fail;have m:Bx ((((((((w1.setCell ⟨w.1.size,0,C⟩ (D C 0 0)).setCell ⟨w.1.size,1,C⟩ (D C 0 0)).setCell ⟨w.1.size,2,C⟩ (D C 0 0)).setCell ⟨w.1.size,3,C⟩ (D C 0 0)).setCell ⟨w.1.size,4,C⟩ (D C 0 0)).setCell ⟨w.1.size,5,C⟩ (D C 0 0)).setCell ⟨w.1.size,6,C⟩ (D C 0 0)).setCell ⟨w.1.size,7,C⟩ (D C 0 0)) w.1.size (aD rD):=yG (h':=rD) η.q;have l:Same (λi=>i≠w.1.size) w1 ((((((((w1.setCell ⟨w.1.size,0,C⟩ (D C 0 0)).setCell ⟨w.1.size,1,C⟩ (D C 0 0)).setCell ⟨w.1.size,2,C⟩ (D C 0 0)).setCell ⟨w.1.size,3,C⟩ (D C 0 0)).setCell ⟨w.1.size,4,C⟩ (D C 0 0)).setCell ⟨w.1.size,5,C⟩ (D C 0 0)).setCell ⟨w.1.size,6,C⟩ (D C 0 0)).setCell ⟨w.1.size,7,C⟩ (D C 0 0)):=sN (b:=w.1.size) (h':=rD);revert m l;generalize((((((((w1.setCell ⟨w.1.size,0,C⟩ (D C 0 0)).setCell ⟨w.1.size,1,C⟩ (D C 0 0)).setCell ⟨w.1.size,2,C⟩ (D C 0 0)).setCell ⟨w.1.size,3,C⟩ (D C 0 0)).setCell ⟨w.1.size,4,C⟩ (D C 0 0)).setCell ⟨w.1.size,5,C⟩ (D C 0 0)).setCell ⟨w.1.size,6,C⟩ (D C 0 0)).setCell ⟨w.1.size,7,C⟩ (D C 0 0))=Z;intro m l;have υ:=m.1;refine bodyPost_ret (v:= .tuple #[bC rD,M .i64 (k:Int),M .i64 220]) (by simp[results,results31,go_sem,υ]) rfl ⟨l.below τ.q (λi hi=>by omega) τ.q.size,?_⟩;rw[ο.q,au Q.q]
  .obtain rfl:k=E.length:=by omega
   rw[j5.q,List.drop_length] at ε;have ξ:qK eZ 0 ls= .ok p:=ε;obtain⟨h',b3,dn,mn,c8,c4,c5,c6,c7,ho⟩:=F.s.his (μ.BZ hf) (Same.refl' wr);have n:=F.s.t.b;have y5:11<cs.size:=(dS.1 (c8 3 ah)).1;have φ:∀j,j<4->∃v,wr.cell? ⟨w.1.size+2,j,C⟩=H v:=λj hj=>⟨_,(n.1 j).trans (GU ah)⟩
   obtain⟨q0,z4⟩:=φ 0 ah;obtain⟨q1,z5⟩:=φ 1 ah;obtain⟨q2,z6⟩:=φ 2 ah;obtain⟨q3,z7⟩:=φ 3 ah;have z8:wr.cell? ⟨w.1.size+2,8,C⟩=H h'.t.v:=(n.1 8).trans (c8 0 ah);have z9:wr.cell? ⟨w.1.size+2,9,C⟩=H h'.s.v:=(n.1 9).trans (c8 1 ah);have v0:wr.cell? ⟨w.1.size+2,10,C⟩=H h'.o.v:=(n.1 10).trans (c8 2 ah);have v1:wr.cell? ⟨w.1.size+2,11,C⟩=H h'.p.v:=(n.1 11).trans (c8 3 ah);have v2:wr.cell? ⟨w.1.size+2,4,C⟩=H h'.e.v:=(n.1 4).trans c4;have v3:wr.cell? ⟨w.1.size+2,5,C⟩=H h'.d.v:=(n.1 5).trans c5;have v4:wr.cell? ⟨w.1.size+2,6,C⟩=H h'.m.v:=(n.1 6).trans c6;have v5:wr.cell? ⟨w.1.size+2,7,C⟩=H h'.w.v:=(n.1 7).trans c7;have P:=n.2.1;have HQ:=G (⟨z8,z9,v0,v1⟩:_/\_/\_/\_);have Θ:=G (⟨v2,v3,v4,v5⟩:_/\_/\_/\_);have Ξ:=G n;have y6:=G ho;have g:=G f;have Δ:=G α;have HF:=G hf;have q4:=G μ;have ο:=G ξ;have χ:=G n.2.2;have q5:Hid (w.1.size<=wr.1.size):=G f.size;have R:=G (⟨z4,z5,z6,z7⟩:_/\_/\_/\_);clear ε ξ c8 c4 c5 c6 c7 ho n y5 φ z8 z9 v0 v1 v2 v3 v4 v5 f α F hf μ P z4 z5 z6 z7;go_wp2_with fail;refine aC 43 [(0,0),(1,0),(2,0),(3,0),(4,0),(5,0),(6,0),(7,0),(8,0),(9,0),(10,0),(11,0),(12,0),(13,0),(14,0),(15,0),(16,0),(17,0),(18,0),(19,0),(20,0),(21,0),(22,0),(23,0),(24,0),(25,0),(26,0),(27,0),(28,0),(29,0),(30,0),(31,2),(32,0),(33,0),(34,0),(35,2),(36,0),(37,0),(38,0),(39,2),(40,1),(41,1),(42,0),(43,2)] (λ_=>True) (λW'=>W'.cell? ⟨w.1.size+2,8,C⟩=H h'.t.v/\W'.cell? ⟨w.1.size+2,9,C⟩=H h'.s.v/\W'.cell? ⟨w.1.size+2,10,C⟩=H h'.o.v/\W'.cell? ⟨w.1.size+2,11,C⟩=H h'.p.v) ay ay (trivial) (HQ.q) ?_;refine qC ?_;refine aF rfl rfl (λK q=>?_);go_simp;have P:=Ξ.q.2.1;have β:=χ.q;have γ:=R.q.1;go_simp;have ψ:=G (show _/\_/\_/\_ from⟨fI (o':=0) (u:=h'.t.v) HQ.q.1 aj,fI (o':=0) (u:=h'.t.v) HQ.q.2.1 aj,fI (o':=0) (u:=h'.t.v) HQ.q.2.2.1 aj,fI (o':=0) (u:=h'.t.v) HQ.q.2.2.2 aj⟩);refine q _ _ ⟨trivial,ψ.q⟩ ?_;clear q K P β γ;refine qC ?_;refine aF rfl rfl (λK q=>?_);go_simp;have P:=Ξ.q.2.1;have β:=χ.q;have γ:=R.q.2.1;go_simp;have ω:=G (show _/\_/\_/\_ from⟨fI (o':=1) (u:=h'.s.v) ψ.q.1 aj,fI (o':=1) (u:=h'.s.v) ψ.q.2.1 aj,fI (o':=1) (u:=h'.s.v) ψ.q.2.2.1 aj,fI (o':=1) (u:=h'.s.v) ψ.q.2.2.2 aj⟩);refine q _ _ ⟨trivial,ω.q⟩ ?_;clear q K P β γ;refine qC ?_;refine aF rfl rfl (λK q=>?_);go_simp;have P:=Ξ.q.2.1;have β:=χ.q;have γ:=R.q.2.2.1;go_simp;have y7:=G (show _/\_/\_/\_ from⟨fI (o':=2) (u:=h'.o.v) ω.q.1 aj,fI (o':=2) (u:=h'.o.v) ω.q.2.1 aj,fI (o':=2) (u:=h'.o.v) ω.q.2.2.1 aj,fI (o':=2) (u:=h'.o.v) ω.q.2.2.2 aj⟩);refine q _ _ ⟨trivial,y7.q⟩ ?_;clear q K P β γ;refine qC ?_;refine aW rfl rfl rfl (λK q=>?_);go_simp;have P:=Ξ.q.2.1;have β:=χ.q;have γ:=R.q.2.2.2;go_simp;refine q _ _ trivial ?_;clear q K P β γ;refine aO ?_;have hy:∀j v,wr.cell? ⟨w.1.size+2,j,C⟩=H v->4<=j->((((wr.setCell ⟨w.1.size+2,0,C⟩ h'.t.v).setCell ⟨w.1.size+2,1,C⟩ h'.s.v).setCell ⟨w.1.size+2,2,C⟩ h'.o.v).setCell ⟨w.1.size+2,3,C⟩ h'.p.v).cell? ⟨w.1.size+2,j,C⟩=H v:=λj v hv hj=>fI (fI (fI (fI hv ah) ah) ah) ah
   have v6:((((wr.setCell ⟨w.1.size+2,0,C⟩ h'.t.v).setCell ⟨w.1.size+2,1,C⟩ h'.s.v).setCell ⟨w.1.size+2,2,C⟩ h'.o.v).setCell ⟨w.1.size+2,3,C⟩ h'.p.v).cell? ⟨w.1.size+2,0,C⟩=H h'.t.v:=fI (fI (fI (I _ _ _ (by rw[R.q.1];rfl)) aj) aj) aj;have v7:((((wr.setCell ⟨w.1.size+2,0,C⟩ h'.t.v).setCell ⟨w.1.size+2,1,C⟩ h'.s.v).setCell ⟨w.1.size+2,2,C⟩ h'.o.v).setCell ⟨w.1.size+2,3,C⟩ h'.p.v).cell? ⟨w.1.size+2,1,C⟩=H h'.s.v:=fI (fI (I _ _ _ (by rw[fI R.q.2.1 aj];rfl)) aj) aj;have v8:((((wr.setCell ⟨w.1.size+2,0,C⟩ h'.t.v).setCell ⟨w.1.size+2,1,C⟩ h'.s.v).setCell ⟨w.1.size+2,2,C⟩ h'.o.v).setCell ⟨w.1.size+2,3,C⟩ h'.p.v).cell? ⟨w.1.size+2,2,C⟩=H h'.o.v:=fI (I _ _ _ (by rw[fI (fI R.q.2.2.1 aj) aj];rfl)) aj;have v9:((((wr.setCell ⟨w.1.size+2,0,C⟩ h'.t.v).setCell ⟨w.1.size+2,1,C⟩ h'.s.v).setCell ⟨w.1.size+2,2,C⟩ h'.o.v).setCell ⟨w.1.size+2,3,C⟩ h'.p.v).cell? ⟨w.1.size+2,3,C⟩=H h'.p.v:=I _ _ _ (by rw[fI (fI (fI R.q.2.2.2 aj) aj) aj];rfl);have δ:Same (λi=>i≠w.1.size+2) wr ((((wr.setCell ⟨w.1.size+2,0,C⟩ h'.t.v).setCell ⟨w.1.size+2,1,C⟩ h'.s.v).setCell ⟨w.1.size+2,2,C⟩ h'.o.v).setCell ⟨w.1.size+2,3,C⟩ h'.p.v).drew:=(((((Same.refl' wr).setTail (A:=λi=>i≠w.1.size+2) (λh=>h rfl)).setTail (λh=>h rfl)).setTail (λh=>h rfl)).setTail (λh=>h rfl)).l6;have B:=G (show((((wr.setCell ⟨w.1.size+2,0,C⟩ h'.t.v).setCell ⟨w.1.size+2,1,C⟩ h'.s.v).setCell ⟨w.1.size+2,2,C⟩ h'.o.v).setCell ⟨w.1.size+2,3,C⟩ h'.p.v).drew.cell? ⟨w.1.size+2,0,C⟩=H h'.t.v/\((((wr.setCell ⟨w.1.size+2,0,C⟩ h'.t.v).setCell ⟨w.1.size+2,1,C⟩ h'.s.v).setCell ⟨w.1.size+2,2,C⟩ h'.o.v).setCell ⟨w.1.size+2,3,C⟩ h'.p.v).drew.cell? ⟨w.1.size+2,1,C⟩=H h'.s.v/\((((wr.setCell ⟨w.1.size+2,0,C⟩ h'.t.v).setCell ⟨w.1.size+2,1,C⟩ h'.s.v).setCell ⟨w.1.size+2,2,C⟩ h'.o.v).setCell ⟨w.1.size+2,3,C⟩ h'.p.v).drew.cell? ⟨w.1.size+2,2,C⟩=H h'.o.v/\((((wr.setCell ⟨w.1.size+2,0,C⟩ h'.t.v).setCell ⟨w.1.size+2,1,C⟩ h'.s.v).setCell ⟨w.1.size+2,2,C⟩ h'.o.v).setCell ⟨w.1.size+2,3,C⟩ h'.p.v).drew.cell? ⟨w.1.size+2,3,C⟩=H h'.p.v/\((((wr.setCell ⟨w.1.size+2,0,C⟩ h'.t.v).setCell ⟨w.1.size+2,1,C⟩ h'.s.v).setCell ⟨w.1.size+2,2,C⟩ h'.o.v).setCell ⟨w.1.size+2,3,C⟩ h'.p.v).drew.cell? ⟨w.1.size+2,4,C⟩=H h'.e.v/\((((wr.setCell ⟨w.1.size+2,0,C⟩ h'.t.v).setCell ⟨w.1.size+2,1,C⟩ h'.s.v).setCell ⟨w.1.size+2,2,C⟩ h'.o.v).setCell ⟨w.1.size+2,3,C⟩ h'.p.v).drew.cell? ⟨w.1.size+2,5,C⟩=H h'.d.v/\((((wr.setCell ⟨w.1.size+2,0,C⟩ h'.t.v).setCell ⟨w.1.size+2,1,C⟩ h'.s.v).setCell ⟨w.1.size+2,2,C⟩ h'.o.v).setCell ⟨w.1.size+2,3,C⟩ h'.p.v).drew.cell? ⟨w.1.size+2,6,C⟩=H h'.m.v/\((((wr.setCell ⟨w.1.size+2,0,C⟩ h'.t.v).setCell ⟨w.1.size+2,1,C⟩ h'.s.v).setCell ⟨w.1.size+2,2,C⟩ h'.o.v).setCell ⟨w.1.size+2,3,C⟩ h'.p.v).drew.cell? ⟨w.1.size+2,7,C⟩=H h'.w.v from
    ⟨v6,v7,v8,v9,hy 4 _ Θ.q.1 ah,hy 5 _ Θ.q.2.1 ah,hy 6 _ Θ.q.2.2.1 ah,hy 7 _ Θ.q.2.2.2 ah⟩)
   clear hy v6 v7 v8 v9;revert B δ;generalize((((wr.setCell ⟨w.1.size+1+1,0,C⟩ h'.t.v).setCell ⟨w.1.size+1+1,1,C⟩ h'.s.v).setCell ⟨w.1.size+1+1,2,C⟩ h'.o.v).setCell ⟨w.1.size+1+1,3,C⟩ h'.p.v).drew=Y;intro δ B;have y8:w.1.size+2<Y.1.size:=bP χ.q δ.size;have j4:Hid (Below w.1.size w Y):=G (δ.below g.q (λi hi=>by omega) g.q.size);have y9:=G (JX (y6.q.same (δ.mono (λi hi _=>by omega))) q4.q HF.q (HG.q.l.1.below j4.q));have x0:=G (δ.bx Δ.q ah);have x1:=B.q.1;have m:=B.q.2.1;have l:=B.q.2.2.1;have x2:=B.q.2.2.2.1;have x3:=B.q.2.2.2.2.1;have x4:=B.q.2.2.2.2.2.1;have x5:=B.q.2.2.2.2.2.2.1;have x6:=B.q.2.2.2.2.2.2.2;clear δ;go_wp2_with fail;refine y9.q.mono ?_;rintro e X2 ⟨d,j0,j1,j2,x7,x8,x9,rfl,k0,T⟩;have b0:=G k0;have θ:=G T;have k1:Hid (w.1.size+2<Y.1.size):=G y8;have z:=G (x0.q.keep (T.alloc T.size (J (aD d) 28)));have π:=z.q.1;have ρ:=z.q.2.1;have σ:=z.q.2.2;clear k0 T x1 m l x2 x3 x4 x5 x6;go_wp2_with fail;have m:Bx (((((((((X2.alloc (J (aD d) 28)).setCell ⟨w.1.size,0,C⟩ d.t.v).setCell ⟨w.1.size,1,C⟩ d.s.v).setCell ⟨w.1.size,2,C⟩ d.o.v).setCell ⟨w.1.size,3,C⟩ d.p.v).setCell ⟨w.1.size,4,C⟩ d.e.v).setCell ⟨w.1.size,5,C⟩ d.d.v).setCell ⟨w.1.size,6,C⟩ d.m.v).setCell ⟨w.1.size,7,C⟩ d.w.v) w.1.size (aD d):=yG (h':=d) z.q;have l:Same (λi=>i≠w.1.size) (X2.alloc (J (aD d) 28)) (((((((((X2.alloc (J (aD d) 28)).setCell ⟨w.1.size,0,C⟩ d.t.v).setCell ⟨w.1.size,1,C⟩ d.s.v).setCell ⟨w.1.size,2,C⟩ d.o.v).setCell ⟨w.1.size,3,C⟩ d.p.v).setCell ⟨w.1.size,4,C⟩ d.e.v).setCell ⟨w.1.size,5,C⟩ d.d.v).setCell ⟨w.1.size,6,C⟩ d.m.v).setCell ⟨w.1.size,7,C⟩ d.w.v):=sN (b:=w.1.size) (h':=d);revert m l;generalize(((((((((X2.alloc (J (aD d) 28)).setCell ⟨w.1.size,0,C⟩ d.t.v).setCell ⟨w.1.size,1,C⟩ d.s.v).setCell ⟨w.1.size,2,C⟩ d.o.v).setCell ⟨w.1.size,3,C⟩ d.p.v).setCell ⟨w.1.size,4,C⟩ d.e.v).setCell ⟨w.1.size,5,C⟩ d.d.v).setCell ⟨w.1.size,6,C⟩ d.m.v).setCell ⟨w.1.size,7,C⟩ d.w.v)=Z;intro m l;have υ:=m.1;have k2:Below w.1.size w (X2.alloc (J (aD d) 28)):=j4.q.trans ((θ.q.alloc θ.q.size _).mono j4.q.size);refine bodyPost_ret (v:= .tuple #[bC d,M .i64 (ls.length:Int),M .i64 0]) (by simp[results,results31,go_sem,υ,j5.q]) rfl ⟨l.below k2 (λi hi=>by omega) k2.size,?_⟩;rw[ο.q];exact⟨d,j0,j1,j2,x7,x8,x9,rfl,((b0.q.below (aA (Below.refl _ _) _)).same (l.mono (λi hi _=>by have:=k1.q;omega))).mono (by have:=k1.q;omega)⟩
end Yd
namespace Yd
open Go Go.RowKit Go.Proofs
theorem WN (F:Int->List Int)(v:kg):(kS F v).k=v.k:=by
 unfold kS
 split
 .rfl
 .rfl
theorem Y7 (F:Int->List Int){e:EvC}(h:e.kind=2):(eU F e).v.k=e.v.k:=by
 unfold eU;simp only[h,true_or,bR];exact WN _ _
theorem yt {c:Cont}(h:fJ c)(a:aI c):aI (eG c):=by
 refine⟨λi g=>?_,?_,?_,?_,?_,λe j k=>?_⟩
 .show((bV (aZ c) (i:Int)).map (aP (c.nl i))).length<=jU i
  rw[bg];refine bI (D8 (AJ _ _) (λx b=>?_)) (a.1 i g);obtain⟨l,n,m,d⟩:=uZ h _ (EJ _ b);simp only at m d;have:i=l:=by omega
  rw[this];exact d
 .show(c.E.map _).length<=3000;rw[bg];exact a.2.1
 .show(c.D.map _).length<=3000;rw[bg];exact a.2.2.1
 .show(c.M.map _).length<=3000;rw[bg];exact a.2.2.2.1
 .show(c.Q.map _).length<=3000;rw[bg];exact a.2.2.2.2.1
 .obtain⟨x,b,rfl⟩:=bS.1 (show e∈c.E.map (eU (bV (aZ c))) from j)
  have f:x.kind=2:=k;rw[Y7 _ f];exact a.2.2.2.2.2 x b f
theorem Vp {ls:List aJ}{z:Cont}(h:qK eZ 0 ls= .ok z):DJ (eG z):=by
 obtain⟨a,_,_,b,_⟩:=Am h;exact(fJ.number a).BZ (yt a b)
theorem lU.rfl' (c:Cont):lU c c:=⟨λ_ _=>rfl,rfl,rfl,rfl,rfl,rfl,rfl,rfl⟩
end Yd
