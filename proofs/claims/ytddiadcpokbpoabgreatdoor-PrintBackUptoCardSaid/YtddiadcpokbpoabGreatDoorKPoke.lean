import Derived.Test.YtddiadcpokbpoabGreatDoorKSpD
import Derived.Test.YtddiadcpokbpoabGreatDoorKNum
import Derived.IntWalk
import Derived.Laws.BytesArg
import Derived.Lib.Join
import Derived.Laws.RangeAny
import Derived.WalkSmall
import Derived.Lib.AtoiAllCases
import Derived.Lib.AtoiErrMem
import Derived.Lib.MapLaws
import Derived.Laws.Externs
set_option linter.all false
set_option maxRecDepth 200000
set_option maxHeartbeats 8000000
namespace Yd
open Option renaming none->I,some->J
open Go Go.RowKit Go.Proofs Tryz
open Below renaming heap_setCell->N
open Go.IntKind renaming i64->G
open Go.Value renaming int->E,pointer->O
open Yd renaming hid->U
open _root_ renaming List->H,Int->L
theorem abn{p:Prop}(h:p:=by simp[results,results7,go_sem,u]):p:=h
theorem abo{p:Prop}(h:p:=by simp;omega):p:=h
def fH (w:World)(d:H (L × Addr))(xs:H (L × L)):Prop:=d.map (gV w)=xs/\∀p∈d,∃b o n,p.2=⟨b,o,I⟩/\w.cell? p.2=J (E G n)
section
variable {w:World}{ps qs:H (L × Addr)}{xs ys:H (L × L)}{a:Option Addr}{n c:Nat}
theorem fH.nil:fH w [] []:=⟨rfl,λp b=>by cases b⟩
theorem fH.cons {s:L}{b o:Nat}{n:L}(hc:w.cell? ⟨b,o,I⟩=J (E G n))(e:fH w ps xs):fH w ((s,⟨b,o,I⟩)::ps) ((s,n)::xs):=
 ⟨by rw[dX,e.1];show(s,nL w _)::xs=_;rw[jY hc],λp d=>by
  rcases dO.1 d with rfl|d
  .exact⟨b,o,n,rfl,hc⟩
  .exact e.2 p d⟩
theorem fH.app (b:fH w ps xs)(k:fH w qs ys):fH w (ps++qs) (xs++ys):=⟨by rw[eY,b.1,k.1],λp d=>(cu.1 d).elim (b.2 p) (k.2 p)⟩
theorem fH.gr {b:Type}{d:Nat->b->H (L × Addr)}{e:b->H (L × Addr)}(g:b->H (L × L)):∀(l:H b)(i:Nat),(∀j x,l[j]?=J x->fH w (d (i+j) x++e x) (g x))->fH w (Yd.gr d e i l) (l.flatMap g)
 |[],_,_=>fH.nil
 |x::l,i,h=>by
  show fH w (d i x++(e x++Yd.gr d e (i+1) l)) _;rw[<-dw,gZ];exact(h 0 x rfl).app (fH.gr g l (i+1) λj y f=>by rw[show i+1+j=i+(j+1) by omega];exact h (j+1) y f)
theorem fH.dh {b o:Nat}{v:kg}(hc:w.cell? ⟨b,o,I⟩=J (E G v.t)):fH w (jO ⟨b,o,I⟩ v) (jm v):=by
 unfold jO jm;by_cases h:0<v.k
 .rw[av h,av h];exact fH.cons hc fH.nil
 .rw[au h,au h];exact fH.nil
theorem uI {d:Type}{k:Nat}{enc:d->H Value}{l:H d}(e:Row w k enc a n c l){j:Nat}{x:d}(f:l[j]?=J x):∃b o,a=J ⟨b,o,I⟩/\∀i v,(enc x)[i]?=J v->w.cell? ⟨b,o+(j*k+i),I⟩=J v:=
 let⟨b,o,ha,g⟩:=e.2.2.2.2 j x f;⟨b,o,ha,λi v m=>by rw[<-Nat.add_assoc];exact g i v m⟩
theorem UO {l:H Sn}(e:Row w 3 cZ a n c l):fH w (oQ a 0 l) (l.flatMap (λs=>(2,s.obj)::jm s.v)):=fH.gr _ l 0 λj x f=>by
 obtain⟨b,o,rfl,d⟩:=uI e f;rw[bD,dm];exact fH.cons (d 0 _ rfl) (fH.dh (d 1 _ rfl))
theorem KW {l:H L}(e:Row w 1 aS a n c l):fH w (mh a 0 l) (l.map (λd=>(0,d))):=by
 rw[List.map_eq_flatMap];exact fH.gr _ l 0 λj x f=>by
  obtain⟨b,o,rfl,g⟩:=uI e f;have h:=g 0 _ rfl;rw[gJ] at h;rw[bD,dm];exact fH.cons h fH.nil
theorem Pj {m:HC}{es:H EvC}{i:H aG}{j:H aK}{f:H Wa}{q:EvC->H Sn}{r:aG->H L}{t:aK->H L}(y:Deep w m es i j f q r t):fH w (aU m es i j f q r t) (kz es i j f q r t):=by
 obtain⟨z,A,F,K,P,Q,R⟩:=y;unfold aU kz;rw[dw,dw];refine fH.app (fH.gr _ es 0 λu x e=>?_) (fH.app (fH.gr _ i 0 λu x e=>?_) (fH.app (fH.gr _ j 0 λu x e=>?_) (fH.gr _ f 0 λu x e=>?_)))
 .obtain⟨b,o,ha,d⟩:=uI z e
  rw[ha,bD];refine fH.cons (d 1 _ rfl) (fH.app ?_ (UO (P x (dA e))));by_cases g:x.kind=1
  .rw[av g,av g];exact fH.cons (d 2 _ rfl) fH.nil
  rw[au g,au g];by_cases l:x.kind=2\/x.kind=3
  .rw[av l,av l];exact fH.cons (d 4 _ rfl) (fH.dh (d 5 _ rfl))
  rw[au l,au l];by_cases p:x.kind=4
  .rw[av p,av p];exact fH.cons (d 7 _ rfl) fH.nil
  rw[au p,au p];exact fH.nil
 .obtain⟨b,o,ha,d⟩:=uI A e
  rw[ha,bD];exact fH.cons (d 0 _ rfl) (KW (Q x (dA e)))
 .obtain⟨b,o,ha,d⟩:=uI F e
  rw[ha,bD];exact fH.cons (d 0 _ rfl) (fH.cons (d 1 _ rfl) (KW (R x (dA e))))
 .obtain⟨b,o,ha,d⟩:=uI K e
  rw[ha,bD];exact fH.cons (d 0 _ rfl) fH.nil
end
theorem J2 (j:HC)(es:H EvC)(Q:H aG)(R:H aK)(S:H Wa)(Z:EvC->H Sn)(dn:aG->H L)(mn:aK->H L)(A F:Nat)(D:Nat->Prop)(w W:World)
  (hd:Deep w j es Q R S Z dn mn) (r:Below w.1.size w W) (hH:Bx W A (aD j)) (hP:Bx W F #[O (J ⟨A,0,I⟩)]) (δ:∀i,i<w.1.size->D i) (ε:D A) (ζ:D F)
  (η:∀i,W.1.size<=i->i<W.1.size+3->D i):
  Iter Tryz.prog 77 #[O (J ⟨F,0,I⟩)] (Pk w.1.size) 3 D (kz es Q R S Z dn mn) W:=by
 intro n l f Jx hJ θ hY h0;have K:=Pj hd;have T:∀{p:Prop},p->p:=id;have hS:∀(f:H (L × L)->World->Prop),(∀s X Y,f s X->Same (λi=>i<W.1.size\/W.1.size+3<=i) X Y->f s Y)->∀(s:H (L × Addr)) X Y,(f (s.map (gV w)) X/\qh (λ_=>True) w X/\w.1.size<=X.1.size)->Same (λi=>i<W.1.size\/W.1.size+3<=i) X Y->(f (s.map (gV w)) Y/\qh (λ_=>True) w Y/\w.1.size<=Y.1.size):=
  λf hJ s X Y g hs=>⟨hJ _ _ _ g.1 hs,λa v hC d=>(World.cell?_of_block (hs.block a.block (.inl (bP (dQ d) r.size)) (bP (dQ d) g.2.2))).trans (g.2.1 a v hC d),bI g.2.2 hs.size⟩
 refine(AX j es Q R S Z dn mn A F D (λ_=>True) w W hd hH hP (λa v _ d=>bq r rfl d) r.size ε ζ (λ_ _ _ _ _ _ _=>trivial) (λ_ _ _ _ _ _ _=>trivial) (λ_ _ _ _ _=>trivial) (λ_ _ _ _ _=>trivial) η n l
  (λq X=>f (q.map (gV w)) X/\qh (λ_=>True) w X/\w.1.size<=X.1.size) (λq X=>Jx (q.map (gV w)) X/\qh (λ_=>True) w X/\w.1.size<=X.1.size) (hS f hJ) (hS Jx θ) (λ_ _ j=>j.2.1) (λ_ _ j=>j.2.1) ?_ ⟨h0,λa v _ d=>bq r rfl d,r.size⟩).mono ?_
 .rintro q x args X ⟨h1,h2,h3⟩ P rfl ι m
  obtain⟨b,o,k,g,d⟩:=K.2 x (P.subset ak);have γ:gV w x=(x.1,k):=by show(x.1,nL w x.2)=_;rw[jY d]
  have t:∀Y,bA D X Y->qh (λ_=>True) w Y/\w.1.size<=Y.1.size:=λY t=>⟨λa v hC d=>(World.cell?_of_block (t.2 a.block (δ _ (dQ d)) (bP (dQ d) h3))).trans (h2 a v hC d),bI h3 t.1⟩
  refine(hY (q.map (gV w)) (gV w x) _ X h1 (by rw[<-K.1];simpa using P.map (gV w)) ⟨b,o,by rw[g] at d;exact dQ d,by rw[γ,g],by rw[γ,<-g];exact h2 _ _ trivial d⟩ ι m).mono ?_;rintro e Y (⟨u,hj,y⟩|⟨u,hj,y⟩)
  .exact .inl ⟨u,⟨by rw[eY];exact hj,t Y y⟩,y⟩
  .exact .inr ⟨u,⟨by rw[eY];exact hj,t Y y⟩,y⟩
 .rintro e Y ⟨v,u,z⟩
  refine⟨v,u,?_⟩;rcases z with z|⟨q,P,z⟩
  .left;rw[<-K.1];exact z.1
  .right;exact⟨_,by rw[<-K.1];exact P.map _,z.1⟩
attribute [local go_sem] Oper.semAt_some
theorem FL (p:Addr)(w:World):Calls Tryz.prog 27 #[O (J p)] w λe b=>
  e= .returned (.func (.func 77) #[] #[O (J ⟨w.1.size,0,I⟩)])/\b=w.alloc (.cells #[O (J p)] 89):=by
 go_enter Tryz.func27,Tryz.ntmps27;go_wp2_with fail;go_ret;exact⟨rfl,rfl⟩
theorem AV:∀args w,(callFunc 77 args).run Tryz.prog w= .ok (.enter 77 args) w:=enters_of func77 ay rfl
@[reducible] def A8 (m:Nat->L):Array Value:=#[E G (m 0),E G (m 1),E G (m 2),E G (m 3)]
theorem sW (m:Nat->L){s:Nat}(b:s<4):(A8 m)[s]?=J (E G (m s)):=by
 match s,b with
 |0,_=>rfl
 |1,_=>rfl
 |2,_=>rfl
 |3,_=>rfl
theorem Bx.aap {X:World}{b:Nat}{m:Nat->L}(f:Bx X b (A8 m)){s:Nat}(j:s<4)(v:L):Bx (X.setCell ⟨b,s,I⟩ (E G v)) b (A8 λi=>if i=s then v else m i):=by
 refine⟨λi=>?_,λi=>by rw[World.frozen?_setCell];exact f.2.1 i,by have:=f.2.2;simpa[World.setCell] using this⟩;by_cases g:i=s
 .subst g
  rw[World.cell?_setCell_same' _ _ _ (by rw[f.1 i,sW m j];rfl),sW _ j,av rfl]
 .rw[World.cell?_setCell_other _ _ _ _ (λe=>by cases e;exact g rfl),f.1 i]
  rcases iM i 4 with d|d
  .rw[sW m d,sW _ d,au g]
  .rw[yU (by simpa using d),yU (by simpa using d)]
theorem Bx.putObj {X:World}{b:Nat}{cs:Array Value}(d:Bx X b cs){l:Nat}(o:Obj)(e:b≠l):Bx (X.putObj l o) b cs:=(Same.putObj (A:=λi=>i≠l) X o ak).bx d e
theorem Deep.below {w g:World}{m:HC}{es:H EvC}{i:H aG}{j:H aK}{l:H Wa}{o:EvC->H Sn}{p:aG->H L}{q:aK->H L}(b:Deep w m es i j l o p q){B:Nat}
  (d:Below B w g) (e:B=w.1.size):Deep g m es i j l o p q:=
 ⟨b.1.below d e,b.2.1.below d e,b.2.2.1.below d e,b.2.2.2.1.below d e,λx f=>(b.2.2.2.2.1 x f).below d e,λx f=>(b.2.2.2.2.2.1 x f).below d e,λx f=>(b.2.2.2.2.2.2 x f).below d e⟩
theorem max2 (a b:L)(w:World):(Builtin.max_ #[3,3] 3 #[E G a,E G b]).run Tryz.prog w= .ok (E G (if b>a then b else a)) w:=by
 simp[Builtin.max_,Builtin.max2]
def jd (l:HC)(m:Nat->H Bs)(es:H EvC)(b:H aG)(d:H aK)(e:H Wa)(f:EvC->H Sn)(g:aG->H L)(j:aK->H L):Bool:=
 gB l m es b d e f g j && (iQ (kz es b d e f g j)).2 && (List.range 4).all (λi=>decide ((iQ (kz es b d e f g j)).1 i=(l.nm i).n))
def rP (b:Bool):L:=if b=true then 0 else 210
theorem oZ (h:HC)(nl:Nat->H Bs)(es:H EvC)(y:H aG)(z:H aK)(F:H Wa)(P:EvC->H Sn)(Q:aG->H L)(R:aK->H L)(w:World)(hg:qD w)
  (hn:∀i,i<4->Row w 1 encStr (h.nm i).a (h.nm i).n (h.nm i).c (nl i)) (hd:Deep w h es y z F P Q R):
  Calls Tryz.prog 7 #[bC h] w (cO (E G (rP (jd h nl es y z F P Q R))) w):=by
 refine(callsIn_wide (n:=3)).1 ?_;refine callsIn_of_wp_marks Tryz.func7 rfl trivial ?_ rfl;simp only[Tryz.ntmps7,nK,dK,gY,Nat.reduceAdd,Nat.reduceSub,pE,pF,mJ,mK,fK,fA];refine wpIn_wide.2 ?_;obtain⟨S,hS⟩:∃S:Bool,S=gB h nl es y z F P Q R:=⟨_,rfl⟩;obtain⟨C,hC⟩:∃C:Bool,C=jd h nl es y z F P Q R:=⟨_,rfl⟩;obtain⟨xs,ν⟩:∃xs,xs=kz es y z F P Q R:=⟨_,rfl⟩;rw[<-hC];have HC:Hid (C=(S && (iQ xs).2 && (List.range 4).all (λi=>decide ((iQ xs).1 i=(h.nm i).n)))):=by rw[hC,hS,ν];exact U rfl
 have q2:Hid (S=true->∀x∈xs,tK x):=λq=>by rw[ν];exact Fw (by rw[<-hS];exact q) (λi j=>(hn i j).len)
 have z3:=U ν;have η:Below w.1.size w ((w.alloc (.cells (aD h) 28)).alloc (.cells #[E G 0] 31)):=((Below.refl _ _).alloc (aB _) _).alloc ak _;have φ:=U (D7 h nl es y z F P Q R _ (hg.below η) (λi j=>(hn i j).below η rfl) (hd.below η rfl));rw[<-hS] at φ;have q3:=U ((Bx.new w (aD h) 28).alloc (.cells #[E G 0] 31));have χ:=Bx.new (w.alloc (.cells (aD h) 28)) #[E G 0] 31;rw[World.size_alloc] at χ;have q4:=U χ;have q5:=U η;have HD:=U hd;clear hC hS ν η χ hd hg hn;go_wp2_with fail;refine φ.q.mono ?_;rintro e d ⟨rfl,ξ⟩;have ψ:=U (q5.q.bQ ξ);have q6:=U (q3.q.keep ξ);have θ:=U (q4.q.keep ξ);have z4:=q6.q.1;have z5:=θ.q.1;have z6:=θ.q.2.1;have z7:=θ.q.2.2;clear ξ
 cases S
 .go_wp2_with fail
  have u:=(θ.q.set1 (E G 210)).1 0;refine⟨E G 210,abn,?_,ψ.q.setCell (p:=⟨w.1.size+1,0,I⟩) ak _⟩;rw[HC.q];rfl
 go_wp2_with (go_at_call 27;refine(FL _ _).mono ?_;rintro e w' ⟨rfl,rfl⟩)
 have k4:w.1.size+2<=d.1.size:=by omega
 have ω:((d.alloc (.cells #[E G 0,E G 0,E G 0,E G 0] 85)).alloc (.cells #[O (J ⟨w.1.size,0,I⟩)] 89)).1.size=d.1.size+2:=by simp
 have ε:Below d.1.size d ((d.alloc (.cells #[E G 0,E G 0,E G 0,E G 0] 85)).alloc (.cells #[O (J ⟨w.1.size,0,I⟩)] 89)):=
  ((Below.refl _ _).alloc (aB _) _).alloc ak _
 have ο:Bx ((d.alloc (.cells #[E G 0,E G 0,E G 0,E G 0] 85)).alloc (.cells #[O (J ⟨w.1.size,0,I⟩)] 89)) d.1.size (A8 λ_=>0):=(Bx.new d _ _).alloc _;have π:Bx ((d.alloc (.cells #[E G 0,E G 0,E G 0,E G 0] 85)).alloc (.cells #[O (J ⟨w.1.size,0,I⟩)] 89)) (d.1.size+1) #[O (J ⟨w.1.size,0,I⟩)]:=by
  have:=Bx.new (d.alloc (.cells #[E G 0,E G 0,E G 0,E G 0] 85)) #[O (J ⟨w.1.size,0,I⟩)] 89;rw[World.size_alloc] at this;exact this
 clear z4 z5 z6 z7 q3 q4 φ;revert ω ε ο π;generalize(d.alloc (.cells #[E G 0,E G 0,E G 0,E G 0] 85)).alloc (.cells #[O (J ⟨w.1.size,0,I⟩)] 89)=V;intro ω ε ο π;have ρ:=ψ.q.bQ ε;have Γ:=q6.q.keep ε;have q7:=θ.q.keep ε;rw[z3.q] at HC q2;refine wpIn_wide.1 (xB (n:=3) (gf:=77) (lb:=#[O (J ⟨d.1.size+1,0,I⟩)]) (by simp[go_sem]) AV
  (kY:=Pk w.1.size) (k:=3) (D:=λi=>i<w.1.size\/i=w.1.size\/i=d.1.size+1\/(d.1.size+4<=i/\i<d.1.size+7)) (xs:=kz es y z F P Q R)
  (λW hW k5=>J2 h es y z F P Q R w.1.size (d.1.size+1) _ w W HD.q (ρ.trans (hW.mono ρ.size)) (Γ.keep hW) (π.keep hW) (λi j=> .inl j) (.inr (.inl rfl)) (.inr (.inr (.inl rfl)))
   (λi h1 h2=> .inr (.inr (.inr ⟨by omega,by omega⟩)))) ah
  (λx z8 X hx=>by obtain⟨_,_,_,rfl,_⟩:=hx;rfl)
  (λg X=>Below w.1.size w X/\Bx X w.1.size (aD h)/\Bx X (w.1.size+1) #[E G 0]/\Bx X d.1.size (A8 (iQ g).1)/\(iQ g).2=true)
  (λc g X=>c= .ret/\Below w.1.size w X/\Bx X (w.1.size+1) #[E G 210]/\(iQ g).2=false)
  (λg X Y q k=>⟨k.below q.1 (λi j=> .inl ah) q.1.size,k.bx q.2.1 (.inl ah),k.bx q.2.2.1 (.inl ah),k.bx q.2.2.2.1 (.inl ah),q.2.2.2.2⟩)
  (λc g X Y q k=>⟨q.1,k.below q.2.1 (λi j=> .inl ah) q.2.1.size,k.bx q.2.2.1 (.inl ah),q.2.2.2⟩)
  ⟨ρ,Γ,q7,ο,rfl⟩ ?round ?done ?stop)
 case stop=>
  rintro c g X ι ⟨rfl,Z,hr,δ⟩ κ;refine wpIn_wide.2 ?_;go_wp2_with fail;have hp:=hr.putObj (l:=V.1.size) (.deferred I) ah;have u:=hp.1 0;refine⟨by simp,.inl ⟨_,_,rfl,run_takeDeferred κ,?_⟩⟩;refine⟨E G 210,abn,?_,(Same.putObj (A:=λi=>i<w.1.size) X _ ah).below Z (λi j=>j) Z.size⟩;rw[HC.q,UQ ι δ];rfl
 case round=>
  rintro g ⟨x1,f⟩ z8 X ⟨Z,hH,hR,hM,δ⟩ ι ⟨b,o,σ,rfl,u⟩ k6 m;simp only at u;have τ:(x1,f)∈kz es y z F P Q R:=ι.subset ak;obtain⟨⟨z9,v0⟩,v1,v2⟩:=q2.q trivial _ τ;simp only at z9 v0 v1 v2;obtain⟨s,rfl⟩:∃s:Nat,x1=s:=⟨x1.toNat,by omega⟩;have q8:s<4:=by omega
  have v3:=τ
  gi_wp2
  refine⟨Below.refl _ _,λX2 hk=>?_⟩;have v4:b<X.1.size:=by have:=Z.size;omega
  have Δ:X2.cell? ⟨b,o,I⟩=J (E G f):=(World.cell?_of_block (a:=⟨b,o,I⟩) (hk.block b abo v4)).trans u;have γ:Below w.1.size w X2:=hk.below Z (λi j=>abo) Z.size;have q9:=hk.bx hH abo;have j0:=hk.bx hR abo;have Θ:=hk.bx hM abo;have ζ:X2.cell? ⟨d.1.size,s,I⟩=J (E G ((iQ g).1 s)):=(Θ.1 s).trans (sW _ q8);have k7:V.1.size+2<=X2.1.size:=by have:=hk.size;omega
  have j1:=U (xC g (((s:Nat):L),f));obtain⟨r,Ξ⟩:∃r:L,r=(iQ g).1 s:=⟨_,rfl⟩;rw[<-Ξ] at ζ;have Φ:=U Ξ;have μ:=U γ;have v5:=U q9;have t:=U j0;have υ:=U Θ;have v6:=U δ;have HP:=U ι;have k8:=U τ;clear Ξ γ q9 j0 Θ δ ι τ v3 Z hH hR hM hk u;have k9:=max2 r (f+1);by_cases y0:r<f
  .have j2:=t.q.2.1;have j3:=t.q.1
   gi_wp2
   refine ng 7 [(0,0),(1,0),(2,0),(3,0),(4,0),(5,0),(6,0)] (λ_=>True) (λW'=>W'.cell? ⟨b,o,I⟩=J (E G f)/\W'.cell? ⟨d.1.size,s,I⟩=J (E G r)) ay ay ay (trivial) (⟨Δ,ζ⟩) ?_;refine qC ?_;refine aO ?_
   gi_wp2
   exact⟨⟨N _ _ _ _ abo,N _ _ _ _ abo⟩,bA.setCell X2 (w.1.size+1) 0 _ abo,rfl,(μ.q.setCell (p:=⟨w.1.size+1,0,I⟩) ak _).drew,
    (t.q.set1 _).drew,by rw[j1.q];exact Ko (by simp only[jL];rw[<-Φ.q];omega)⟩
  .have y1:=υ.q.2.1
   have j4:f<=(iQ g).1 s:=by rw[<-Φ.q];omega
   have j5:(λi=>if i=s then(if f+1>(iQ g).1 i then f+1 else(iQ g).1 i) else(iQ g).1 i)=(λi=>if i=s then(if f+1>r then f+1 else r) else(iQ g).1 i):=by
    funext i
    by_cases j:i=s
    .subst j;rw[Φ.q]
    .simp[j]
   have j6:=U (show iQ (g++[((s:L),f)])=(λi=>if i=s then(if f+1>r then f+1 else r) else(iQ g).1 i,true) by rw[j1.q,<-j5];exact Hy v6.q j4);clear j5 j4
   gi_wp2
   refine ng 7 [(0,0),(1,0),(2,0),(3,0),(4,0),(5,0),(6,0)] (λ_=>True) (λW'=>W'.cell? ⟨b,o,I⟩=J (E G f)/\W'.cell? ⟨d.1.size,s,I⟩=J (E G r)) ay ay ay (trivial) (⟨Δ,ζ⟩) ?_;refine qC ?_;refine aO ?_
   gi_wp2
   refine ng 10 [(0,0),(1,0),(2,0),(3,0),(4,0),(5,0),(6,0),(7,0),(8,0),(9,0),(10,2)] (λ_=>True) (λW'=>W'.cell? ⟨b,o,I⟩=J (E G f)/\W'.cell? ⟨d.1.size,s,I⟩=J (E G r)) ay ay ay (trivial) (⟨Δ,ζ⟩) ?_;refine qC ?_;refine aW rfl rfl rfl (λK hK=>?_);go_simp;refine hK _ _ trivial ?_;clear hK K;refine aO ?_
   gi_wp2
   refine⟨⟨N _ _ _ _ abo,N _ _ _ _ abo⟩,bA.setCell X2 d.1.size s _ abo,(μ.q.setCell (p:=⟨d.1.size,s,I⟩) abo _).drew.drew,
    (v5.q.setOther _ _ _ ah).drew.drew,(t.q.setOther _ _ _ ah).drew.drew,?_,by rw[j6.q]⟩
   have v7:max r (IntKind.i64.wrap (f+1))=(if f+1>r then f+1 else r):=by
    rw[IntWalk.i64_in _ ah];split <;> omega
   rw[j6.q,v7];exact((υ.q.aap q8 _).drew).drew
 case done=>
  rintro X ⟨Z,hH,hR,hM,δ⟩ κ;rw[ω] at κ;obtain⟨M,j7⟩:∃M,M=(iQ (kz es y z F P Q R)).1:=⟨_,rfl⟩;rw[<-j7] at hM HC;rw[δ] at HC;have v8:=hH.1;have HH:=U hH;have HR:=U hR;have HM:=U hM;have HB:=U Z;have j8:=U κ;clear hH hR hM Z κ j7 δ ε ο π ρ Γ q7;simp only[Exit.inBlock,Exit.then]
  go_wp2_with (go_at_call 28;refine(kC h _).mono ?_;rintro e w2 ⟨rfl,γ⟩)
  have μ:=U (HB.q.bQ γ);have t:=U (HR.q.keep γ);have υ:=U (HM.q.keep γ);have y2:=HM.q.2.2;have Ψ:=U ((γ.block _ (dS.1 j8.q).1).trans j8.q);have y3:=(dS.1 Ψ.q).1;clear γ v8
  go_loop [33] (λi=>∃k:Nat,k<=4/\i= E G k/\(List.range k).all (λi=>decide (M i=(h.nm i).n))=true) (λi=>4 - (RowKit.intOf i).toNat)
  case atStart=>exact⟨0,by omega,rfl,rfl⟩
  case round=>
   obtain⟨k,hk,rfl,j9⟩:=hrel;have z0:=U j9;clear j9;by_cases σ:k<4
   .have v9:=λW=>IU h k σ W
    have ζ:=(υ.q.1 k).trans (sW M σ);have Ω:Hid ((List.range (k+1)).all (λi=>decide (M i=(h.nm i).n))=decide (M k=(h.nm k).n)):=by
     rw[List.range_succ,List.all_append,z0.q];exact U ak
    have q0:Hid (M k≠(h.nm k).n->(List.range 4).all (λi=>decide (M i=(h.nm i).n))=false):=U (λk0=>by
     rw[List.all_eq_false];exact⟨k,by simpa using σ,by simpa using k0⟩)
    obtain⟨sl,z1⟩:∃sl,sl=h.nm k:=⟨_,rfl⟩;obtain⟨mk,z2⟩:∃mk:L,mk=M k:=⟨_,rfl⟩;rw[<-z1] at v9 Ω q0;rw[<-z2] at ζ Ω q0;obtain⟨sa,sn,sc⟩:=sl;clear z1 z2;by_cases hq:mk=(sn:L)
    .have k1:(mk==(sn:L))=true:=oJ.2 hq
     have k2:(mk !=(sn:L))=false:=by simp[hq]
     have HQ:=U hq;clear hq;go_wp2_with fail
     go_round
     case rel=>exact⟨k+1,by omega,by go_num,by rw[Ω.q];simpa using HQ.q⟩
     case measure=>simp[RowKit.intOf];omega
    .have k1:(mk==(sn:L))=false:=aX.2 hq
     have k2:(mk !=(sn:L))=true:=by simp[hq]
     have HQ:=U hq;clear hq;have j2:=t.q.2.1;have j3:=t.q.1;have k3:=t.q.2.2;go_wp2_with fail;have hp:=(t.q.set1 (E G 210)).putObj (l:=d.1.size+2) (.deferred I) ah;have u:=hp.1 0;have q1:(w2.setCell ⟨w.1.size+1,0,I⟩ (E G 210)).1[d.1.size+2]?=J (.deferred (J [])):=(N _ _ _ _ abo).trans Ψ.q;refine⟨by simp,.inl ⟨_,_,rfl,run_takeDeferred q1,?_⟩⟩;refine⟨E G 210,abn,?_,(Same.putObj (A:=λi=>i<w.1.size) _ _ ah).below (μ.q.setCell (p:=⟨w.1.size+1,0,I⟩) ak _) (λi j=>j) (by simp[World.setCell];omega)⟩;rw[HC.q,q0.q HQ.q];rfl
   .obtain rfl:k=4:=by omega
    have j2:=t.q.2.1;have j3:=t.q.1;have k3:=t.q.2.2;go_wp2_with fail;have hp:=(t.q.set1 (E G 0)).putObj (l:=d.1.size+2) (.deferred I) ah;have u:=hp.1 0;have q1:(w2.setCell ⟨w.1.size+1,0,I⟩ (E G 0)).1[d.1.size+2]?=J (.deferred (J [])):=(N _ _ _ _ abo).trans Ψ.q;refine⟨by simp,.inl ⟨_,_,rfl,run_takeDeferred q1,?_⟩⟩;refine⟨E G 0,abn,?_,(Same.putObj (A:=λi=>i<w.1.size) _ _ ah).below (μ.q.setCell (p:=⟨w.1.size+1,0,I⟩) ak _) (λi j=>j) (by simp[World.setCell];omega)⟩;rw[HC.q,z0.q];rfl
end Yd
namespace Yd
open Option renaming none->H,some->O
open Go Go.RowKit Go.Proofs Tryz
open Go.IntKind renaming i64->C
open Go.Obj renaming cells->N
open Go.Value renaming int->G,slice->I
open Yd renaming hid->J
open _root_ renaming List->U,Nat->V
structure aJ where
 kind:Int
 names:U Bs
 lvl:Int
 aN:U To
 first:Bool
 bits:Int
 deriving DecidableEq
def fV (w:World)(B:V)(l:bH)(s:aJ):Prop:=
 (l.kind=s.kind/\l.lvl=s.lvl/\l.first=s.first/\l.bits=s.bits/\l.nn=s.names.length/\l.vn=s.aN.length)/\
 Own w B 9 1 encStr (I l.na l.nn l.nc) s.names/\Own w B 130 2 pQ (I l.va l.vn l.vc) s.aN
variable{w:World}{B:V}{l:bH}
theorem fV.below {d:World}{s:aJ}(b:fV w B l s)(e:Below w.1.size w d):fV d B l s:=⟨b.1,b.2.1.below e rfl,b.2.2.below e rfl⟩
theorem fV.mono {B':V}{s:aJ}(b:fV w B l s)(d:B'<=B):fV w B' l s:=⟨b.1,b.2.1.mono d,b.2.2.mono d⟩
def sw (s:aJ)(w:World)(e:Ending)(b:World):Prop:=∃l,e= .returned (dU l)/\fV b w.1.size l s/\Below w.1.size w b
def uU (B:V)(x:aJ)(args:Array Value)(X:World):Prop:=∃l:bH,args=#[dU l]/\fV X B l x
variable{X:World}{b:V}{cs:Array Value}{T:TypeId}
theorem Bx.new1 (d:X.1.size=b):Bx (X.alloc (N cs T)) b cs:=d▸Bx.new X cs T
theorem Row.str1 (w:World)(s:Bs):Row (w.alloc (N #[.string ⟨s.toArray⟩] 9)) 1 encStr (O ⟨w.1.size,0,H⟩) 1 1 [s]:=
 (Own.new (hc:=eX) w w.1.size 9 #[.string ⟨s.toArray⟩] [s] (aB _) rfl (by simp[maxLen])).row ak
variable{g:V}
theorem Row.IY (b:X.1.size=g)(s:Bs):Row (X.alloc (N #[.string ⟨s.toArray⟩] 9)) 1 encStr (O ⟨g,0,H⟩) 1 1 [s]:=b▸Row.str1 X s
variable{k:V}{a:Option Addr}
theorem Row.drew {b:Type}{enc:b->U Value}{n c:V}{xs:U b}(d:Row w k enc a n c xs):Row w.drew k enc a n c xs:=d
def nameOf (ns:U Bs)(t:Int):Bs:=ns.getD t.toNat []
variable{ns:U Bs}
theorem mX {s:Bs}(b:ns[k]?=O s):nameOf ns (k:Int)=s:=by
 unfold nameOf;rw[jL,List.getD_eq_getElem?_getD,b];rfl
def lK (b:U Bs)(v:kg):To:=if v.k=0 then⟨[],0⟩ else⟨nameOf b v.t,v.k⟩
theorem Cj (h:HC)(v:kg)(j:U Bs)(w:World)(l:Row w 1 encStr h.t.a h.t.n h.t.c j)(q:v.k=0\/(0<=v.t/\v.t<h.t.n)):
  Calls Tryz.prog 87 #[bC h,.agg #[G C v.t,G C v.k]] w (cO (pR (lK j v)) w):=by
 by_cases e:v.k=0
 .have f:lK j v=⟨[],0⟩:=by unfold lK;rw[av e]
  rw[f];obtain⟨P,g⟩:=v;simp only at e;subst e;clear f q l;go_enter func87,ntmps87;go_wp2_with fail;refine bodyPost_ret (v:=pR ⟨[],0⟩) (by simp[results,results87,go_sem]) rfl ⟨rfl,(((Below.refl _ _).alloc (aB _) _).alloc ak _).alloc (by simp;omega) _⟩
 .have r:=q.resolve_left e
  obtain⟨d,t⟩:∃d:V,v.t=d:=⟨v.t.toNat,by omega⟩;obtain⟨s,b,o,x,y,z⟩:=l.at_ (i:=d) ah;have f:lK j v=⟨s,v.k⟩:=by unfold lK;rw[au e,t,mX x]
  rw[f];have u:=z 0 _ rfl;simp only[gJ,dB] at u;have S:=l.le;clear f z q x l;obtain⟨P,g⟩:=v;simp only at t e r;subst t;have W:(d:Int)<h.t.n:=r.2;have Z:(g==0)=false:=aX.2 e;clear r e;have A:=dQ u;simp only at A;have Q:=J y;clear y;go_enter func87,ntmps87;go_wp2_with fail;have R:(((w.alloc (N (aD h) 73)).alloc (N #[G C d,G C g] 46)).alloc (N #[.string ByteArray.empty,G C 0] 130)).cell? ⟨b,o+d,H⟩=O (.string ⟨s.toArray⟩):=
   ((((Below.refl w.1.size w).alloc (aB _) _).alloc ak _).alloc (by simp;omega) _).cell (p:=⟨b,o+d,H⟩) A▸u
  refine aC 10 [(0,0),(1,0),(2,0),(3,0),(4,0),(5,0),(6,0),(7,0),(8,0),(9,0),(10,2)] (λ_=>True) (λm=>m.cell? ⟨w.1.size,0,H⟩=O (I (O ⟨b,o,H⟩) h.t.n h.t.c)/\m.cell? ⟨w.1.size+1,0,H⟩=O (G C d)/\m.cell? ⟨w.1.size+1,1,H⟩=O (G C g)/\m.cell? ⟨b,o+d,H⟩=O (.string ⟨s.toArray⟩)) ay ay (trivial) (⟨((((Bx.new1 rfl).alloc _).alloc _).1 0).trans (by rw[<-Q.q];rfl),((Bx.new1 ak).alloc _).1 0,((Bx.new1 ak).alloc _).1 1,R⟩) ?_;refine qC ?_;refine aW rfl rfl rfl (λK F=>?_);go_simp;refine F _ _ trivial ?_;clear F K;refine aO ?_;go_wp2_with fail;refine bodyPost_ret (v:=pR ⟨s,g⟩) (by simp[results,results87,go_sem]) rfl ⟨rfl,((((Below.refl _ _).alloc (aB _) _).alloc ak _).alloc (by simp;omega) _).drew⟩
def Hg (b:World)(ns:U Bs)(e:Ending)(d:World):Prop:=∃a c,e= .returned (I a ns.length c)/\Own d b.1.size 9 1 encStr (I a ns.length c) ns/\Below b.1.size b d
theorem Hl (j:HC)(l:U Bs)(a:Option Addr)(n c:V)(f:U Int)(K:Option Addr)(P:V)(d:U Bs)(g w:World)(hb:Below g.1.size g w)
  (Q:Row g 1 aS a n c f) (R:Row g 1 encStr j.t.a j.t.n j.t.c l) (ε:∀t∈f,aY t j.t.n=true)
  (ho:Own w g.1.size 9 1 encStr (I K d.length P) d) (hl:d.length+n<=100000):
  Calls Tryz.prog 49 #[bC j,I a n c,I K d.length P] w (Hg g (d++f.map (nameOf l))):=by
 have HB:=J hb;have y:=J Q;have HT:=J R;have σ:=J ε;have HO:=J ho;have HL:=J hl;obtain⟨i,z,hi⟩:=l8;have p:=J hi;have Ω:=Q.le;have q0:=R.le;clear hb Q R ε ho hl hi;go_enter func49,ntmps49;go_wp2_with fail
 go_loopw [2,11] (λv i wr=>∃(k:V)(q:Option Addr)(r:V),k<=n/\v= I q (d.length+k) r/\i= G C k/\Own wr g.1.size 9 1 encStr (I q (d.length+k) r) (d++(f.take k).map (nameOf l))/\
   Below g.1.size g wr/\Bx wr w.1.size (aD j)/\(Value.slice q (d.length+k) r).ownBlock≠O w.1.size) (λ_ i _=>n - (RowKit.intOf i).toNat)
 case atStart=>
  exact⟨0,K,P,bn _,rfl,rfl,by simpa using HO.q.alloc _,HB.q.alloc HB.q.size _,Bx.new1 rfl,λe=>absurd (HO.q.lt _ e).2 (Nat.lt_irrefl _)⟩
 case round=>
  obtain⟨k,q,r,hk,rfl,rfl,u,m,x,S⟩:=hrel;by_cases τ:k<n
  .obtain⟨t,b,o,W,rfl,hc⟩:=(y.q.below m rfl).at_ τ
   have υ:=hc 0 _ rfl;simp only[gJ,dB] at υ;obtain⟨φ,χ⟩:=lX (σ.q t (dA W));obtain⟨Z,rfl⟩:∃Z:V,t=Z:=⟨t.toNat,by omega⟩;have ψ:Z<j.t.n:=by omega
   obtain⟨s,b2,o2,ζ,η,θ⟩:=(HT.q.below m rfl).at_ ψ;have ω:=θ 0 _ rfl;simp only[gJ,dB] at ω;have q1:wr.cell? ⟨w.1.size,0,H⟩=O (I (O ⟨b2,o2,H⟩) j.t.n j.t.c):=(x.1 0).trans (by rw[<-η];rfl);have Γ:Hid ((d++(f.take k).map (nameOf l))++[s]=d++(f.take (k+1)).map (nameOf l)):=by
    rw[ig,W];exact J (by simp[mX ζ])
   have ι:k<=f.length:=by rw[y.q.len];omega
   have Δ:Hid ((d++(f.take k).map (nameOf l)).length+1=d.length+k+1):=J (by rw[bO,bg,fB,nX ι]);have Θ:Hid ((d.length+k+1)*16<=140737488355328):=J (by have:=HL.q;omega);have Ξ:Hid (d.length+k+1<=maxLen):=J (by have:=HL.q;unfold maxLen;omega);have κ:Hid (g.1.size<=(wr.alloc (N #[.string ⟨s.toArray⟩] 9)).1.size):=J (by have:=m.size;simp;omega);have q2:=x.2.2;have A:=J u;have F:=J m;have Φ:=J x;have μ:=J S;clear hc θ W ζ η u m x S φ χ ι
   go_wp2_with (at_builtin;refine iP rfl _ _ 22 rfl i z 16 underlying22 p.q.1 p.q.2.1 p.q.2.2.1 p.q.2.2.2.1 p.q.2.2.2.2 rfl (A.q.alloc _) (O ⟨wr.1.size,0,H⟩) 1 1 (d.length+k+1) [s] rfl (Row.str1 wr s) Δ.q Θ.q Ξ.q κ.q ?_;intro a' c' w1 γ δ ν)
   have ξ:(Value.slice a' (d.length+k+1) c').ownBlock≠O w.1.size:=by
    rcases ν with h1|h1
    .rw[h1];exact μ.q
    .rw[h1];simp;omega
   rw[Γ.q] at γ;have Ψ:=J (⟨γ,below_app (F.q.alloc F.q.size _) (A.q.alloc _) (aB _) κ.q δ,(Φ.q.alloc _).grown δ μ.q,ξ⟩:_/\_/\_/\_);clear γ δ ν ξ;go_roundw
   case rel=>exact⟨k+1,a',c',by omega,rfl,by go_num,Ψ.q⟩
   case measure=>simp[RowKit.intOf];omega
  .obtain rfl:k=n:=by omega
   have ο:f.take k=f:=gF (by rw[y.q.len];exact aB _);rw[ο] at u;have π:d.length+k=(d++f.map (nameOf l)).length:=by rw[bO,bg,y.q.len]
   have A:=J u;have F:=J m;have ρ:=J π;clear u m x S ο π;go_wp2_with fail;go_ret;rw[ρ.q];exact⟨q,r,rfl,by rw[<-ρ.q];exact A.q,F.q⟩
variable{v:Value}
theorem bU {p:Addr}(o:Obj)(b:X.cell? p=O v):(X.alloc o).cell? p=O v:=(((Below.refl X.1.size X).alloc (aB _) o).cell (dQ b)).trans b
variable{u:Value}
theorem cellS {p:Addr}{o:V}(d:X.cell? p=O v)(f:p.block≠b):(X.setCell ⟨b,o,H⟩ u).cell? p=O v:=by
 rw[World.cell?_setCell_other _ _ _ _ (λe=>f (by rw[<-e]))];exact d
variable{A:V->Prop}
theorem Same.refl' (X:World):Same A X X:=⟨rfl,rfl,rfl,aB _,λ_ _ _=>rfl⟩
variable{Y:World}
theorem Same.setTail {o:V}(d:Same A X Y)(g:¬A b):Same A X (Y.setCell ⟨b,o,H⟩ v):=
 ⟨d.os,d.tape,d.output,by have:=d.size;simpa[World.setCell] using this,λi f j=>(Below.heap_setCell _ _ _ _ (λe=>by have l:i=b:=e;rw[l] at f;exact g f)).trans (d.block i f j)⟩
theorem Same.l6 (b:Same A X Y):Same A X Y.drew:=⟨b.os,b.tape,b.output,b.size,b.block⟩
section
variable {α:Type}{enc:α->U Value}{k:V}{w w':World}{B:V}{E:TypeId}{v:Value}{xs:U α}
theorem Own.grown (b:Own w B E k enc v xs){row:Option V}(f:w.grownBy w' row)(i:∀g,v.ownBlock=O g->row≠O g):Own w' B E k enc v xs:=
 b.block λg d=>f.block g (b.lt g d).2 (λe=>i g d e.symm)
theorem Own.same (b:Own w B E k enc v xs)(e:Same A w w')(f:∀g,v.ownBlock=O g->A g):Own w' B E k enc v xs:=b.block λg d=>e.block g (f g d) (b.lt g d).2
theorem Own.tag (d:Own w B E k enc v xs)(b:v.ownBlock=O g):∃cs e,w.1[g]?=O (N cs E e):=by
 rcases d.2 with⟨rfl,_⟩|⟨f,j,l,rfl,_,i,_⟩
 .cases b
 .obtain rfl:f=g:=by simpa[Value.ownBlock] using b
  exact⟨_,_,i⟩
theorem Own.apart {d:Type}{i:d->U Value}{B':V}{e:TypeId}{ys:U d}(j:Own w B E k enc v xs)(h':Own w B' e b i u ys)(l:E≠e):∀g,v.ownBlock=O g->u.ownBlock≠O g:=λg m o=>by
 obtain⟨q,r,p⟩:=j.tag m;obtain⟨t,x,f⟩:=h'.tag o;rw[p] at f
 cases f
 exact l rfl
theorem Own.far (b:Own w B E k enc v xs){i:V}(d:i<B\/w.1.size<=i):O i≠v.ownBlock:=λe=>by
 have:=b.lt i e.symm;omega
theorem Own.far' (b:Own w B E k enc v xs){i:V}(d:i<B\/w.1.size<=i):v.ownBlock≠O i:=λe=>by
 have:=b.lt i e;omega
end
structure Kept (w:World)(l:bH)(w':World):Prop where
 size:w.1.size<=w'.1.size
 block:∀i,i<w.1.size->O i≠(Value.slice l.na l.nn l.nc).ownBlock->O i≠(Value.slice l.va l.vn l.vc).ownBlock->w'.1[i]?=w.1[i]?
def ES (w:World)(l l':bH):Prop:=
 (∀g,(Value.slice l'.na l'.nn l'.nc).ownBlock=O g->(Value.slice l.na l.nn l.nc).ownBlock=O g\/w.1.size<=g)/\(∀g,(Value.slice l'.va l'.vn l'.vc).ownBlock=O g->(Value.slice l.va l.vn l.vc).ownBlock=O g\/w.1.size<=g)
def vH (b w:World)(l:bH)(s:aJ)(e:Ending)(d:World):Prop:=∃f,e= .returned (dU f)/\fV d b.1.size f s/\Below b.1.size b d/\Kept w l d/\ES w l f
theorem Ho (h:HC)(sn:U Bs)(l:bH)(s:aJ)(e:EvC)(m w:World)(hb:Below m.1.size m w)(hr:Row m 1 encStr h.s.a h.s.n h.s.c sn)(he:aY e.eH h.s.n=true)(hl:fV w m.1.size l s)(j0:s.names.length<=1000):
  Calls Tryz.prog 44 #[bC h,dU l,fT e] w (vH m w l {s with names:=s.names++[nameOf sn e.eH],lvl:=e.lvl}):=by
 obtain⟨q0,q1⟩:=lX he;obtain⟨d,ν⟩:∃d:V,e.eH=d:=⟨e.eH.toNat,by omega⟩;obtain⟨x,b,o,hx,φ,hc⟩:=hr.at_ (i:=d) ah;have θ:=hc 0 _ rfl;simp only[gJ,dB] at θ;have q2:=J (show b<m.1.size from dQ θ);have q3:=bq hb rfl θ;rw[show nameOf sn e.eH=x by rw[ν,mX hx]];have j1:d<h.s.n:=by omega
 have j2:=hr.le;obtain⟨χ,ι,ξ⟩:=hl;obtain⟨i,z,p,hz,ψ,ω,Γ⟩:=l8;have F:=J (⟨p,hz,ψ,ω,Γ⟩:_/\_/\_/\_/\_);have q4:=J φ;have κ:=J χ;have ο:=J ι;have Δ:=J ξ;have HB:=J hb;have q5:Hid ((s.names.length+1)*16<=140737488355328):=J ah;have q6:Hid (s.names.length+1<=maxLen):=J (by unfold maxLen;omega);have y:Hid (∀i,(i<m.1.size\/w.1.size<=i)->O i≠(Value.slice l.na l.nn l.nc).ownBlock):=J (λi p=>ι.far p);have q7:=J (ξ.apart ι aj);obtain⟨P,Q,es,q,R,S,W,Z,γ,δ⟩:=e;simp only at ν;subst ν;clear hb hr he ι ξ χ hx φ hc θ p hz ψ ω Γ q0 q1;go_enter Tryz.func44,Tryz.ntmps44;go_wp2_with fail;have π:=J (show((((w.alloc (N (aD h) 73)).alloc (N (bM l) 77)).alloc (N (aR ⟨P,Q,d,q,R,S,W,Z,γ,δ⟩) 49)).alloc (N #[G C 0,I H 0 0,G C 0,I H 0 0,.bool false,G C 0] 77)).cell? ⟨w.1.size+1,1,H⟩=O (I l.na l.nn l.nc) from(((Bx.new1 ak).alloc _).alloc _).1 1);have ρ:=J (show((((w.alloc (N (aD h) 73)).alloc (N (bM l) 77)).alloc (N (aR ⟨P,Q,d,q,R,S,W,Z,γ,δ⟩) 49)).alloc (N #[G C 0,I H 0 0,G C 0,I H 0 0,.bool false,G C 0] 77)).cell? ⟨w.1.size,1,H⟩=O (I (O ⟨b,o,H⟩) h.s.n h.s.c) from(((((Bx.new1 rfl).alloc _).alloc _).alloc _).1 1).trans (by rw[<-q4.q];rfl));have σ:=J (show((((w.alloc (N (aD h) 73)).alloc (N (bM l) 77)).alloc (N (aR ⟨P,Q,d,q,R,S,W,Z,γ,δ⟩) 49)).alloc (N #[G C 0,I H 0 0,G C 0,I H 0 0,.bool false,G C 0] 77)).cell? ⟨w.1.size+2,2,H⟩=O (G C d) from((Bx.new1 ak).alloc _).1 2);have τ:=J (show((((w.alloc (N (aD h) 73)).alloc (N (bM l) 77)).alloc (N (aR ⟨P,Q,d,q,R,S,W,Z,γ,δ⟩) 49)).alloc (N #[G C 0,I H 0 0,G C 0,I H 0 0,.bool false,G C 0] 77)).cell? ⟨b,o+d,H⟩=O (.string ⟨x.toArray⟩) from bU _ (bU _ (bU _ (bU _ q3))));have ε:=J (show((((w.alloc (N (aD h) 73)).alloc (N (bM l) 77)).alloc (N (aR ⟨P,Q,d,q,R,S,W,Z,γ,δ⟩) 49)).alloc (N #[G C 0,I H 0 0,G C 0,I H 0 0,.bool false,G C 0] 77)).cell? ⟨w.1.size+2,3,H⟩=O (G C q) from((Bx.new1 ak).alloc _).1 3);refine aC 13 [(0,0),(1,0),(2,0),(3,0),(4,0),(5,0),(6,0),(7,0),(8,0),(11,1),(12,1),(9,2),(10,2),(13,1),(14,2),(15,1),(16,2)] (λu=>u.cell? ⟨w.1.size+2,3,H⟩=O (G C q)) (λu=>u.cell? ⟨w.1.size+1,1,H⟩=O (I l.na l.nn l.nc)/\u.cell? ⟨w.1.size,1,H⟩=O (I (O ⟨b,o,H⟩) h.s.n h.s.c)/\u.cell? ⟨w.1.size+2,2,H⟩=O (G C d)/\u.cell? ⟨b,o+d,H⟩=O (.string ⟨x.toArray⟩)) ay ay (ε.q) (⟨π.q,ρ.q,σ.q,τ.q⟩) ?_;refine qC ?_;refine aF rfl rfl (λK r=>?_);go_simp;refine r _ _ ⟨bU _ ε.q,⟨bU _ π.q,bU _ ρ.q,bU _ σ.q,bU _ τ.q⟩⟩ ?_;clear r K;refine aF rfl rfl (λK r=>?_);refine kM _ _ 22 rfl i z 16 underlying22 F.q.1 F.q.2.1 F.q.2.2.1 F.q.2.2.2.1 F.q.2.2.2.2 rfl (((((((ο.q.alloc _).alloc _).alloc _).alloc _).alloc _).drew)) (O ⟨w.1.size+4,0,H⟩) 1 1 (s.names.length+1) [x] rfl (Row.drew (Row.IY ak x)) (rfl) (q5.q) (q6.q) (by have:=HB.q.size;simp;omega) ?_;intro a' c' A Θ f Ξ;have HG:=J f;have HA:=J Ξ;have HW:=J Θ;refine r _ _ ⟨f.cell (bU _ ε.q) (y.q _ (.inr ak)),⟨f.cell (bU _ π.q) (y.q _ (.inr ak)),f.cell (bU _ ρ.q) (y.q _ (.inr ak)),f.cell (bU _ σ.q) (y.q _ (.inr ak)),f.cell (bU _ τ.q) (y.q _ (.inl q2.q))⟩⟩ ?_;clear r K Θ Ξ;have ζ:Bx A (w.1.size+1) (bM l):=by
  refine Bx.grown ?_ f (λe=>y.q _ (.inr ak) e.symm);exact((((Bx.new1 ak).alloc _).alloc _).alloc _).drew
 have η:Bx A (w.1.size+3) #[G C 0,I H 0 0,G C 0,I H 0 0,.bool false,G C 0]:=by
  refine Bx.grown ?_ f (λe=>y.q _ (.inr ak) e.symm);exact((Bx.new1 ak).alloc _).drew
 have j3:=ζ.1;have j4:=ζ.2.1;have j5:=ζ.2.2;have q8:=η.1;have j6:=η.2.1;have j7:=η.2.2;have Φ:∀g,(Value.slice a' (s.names.length+1) c').ownBlock=O g->g≠w.1.size+1/\g≠w.1.size+3:=by
  intro g j;rcases HA.q with t|t
  .have:=(ο.q.lt g (t.symm.trans j)).2
   omega
  .rw[t] at j;simp at j;omega
 have Ψ:Own A m.1.size 130 2 pQ (I l.va l.vn l.vc) s.aN:=(((((((Δ.q.alloc _).alloc _).alloc _).alloc _).alloc _).drew)).grown f (λg j e=>q7.q g j e);have υ:Below m.1.size m A:=below_app (aA (aA (aA (aA (aA HB.q _) _) _) _) _).drew ((((((ο.q.alloc _).alloc _).alloc _).alloc _).alloc _).drew) (aB _) (by have:=HB.q.size;simp;omega) f;have μ:w.1.size<=A.1.size/\∀i,i<w.1.size->O i≠(Value.slice l.na l.nn l.nc).ownBlock->A.1[i]?=w.1[i]?:=⟨bI (aA (aA (aA (aA (aA (Below.refl w.1.size w) _) _) _) _) _).drew.size f.size,λi p t=>(f.block i (bP p (aA (aA (aA (aA (aA (Below.refl w.1.size w) _) _) _) _) _).drew.size) t).trans ((aA (aA (aA (aA (aA (Below.refl w.1.size w) _) _) _) _) _).drew.block i p)⟩;have Ω:ES w l {l with na:=a',nn:=s.names.length+1,nc:=c',lvl:=q}:=⟨λg j=>by
  rcases HA.q with t|t
  .exact .inl (t.symm.trans j)
  .right;have h2:=t.symm.trans j;simp at h2;omega,λg j=> .inl j⟩
 have q9:Hid (∀u,Same (λi=>i≠w.1.size+1/\i≠w.1.size+3) A u->vH m w l {s with names:=s.names++[x],lvl:=q} (.returned (dU {l with na:=a',nn:=s.names.length+1,nc:=c',lvl:=q})) u):=J (λu hs=>
  ⟨_,rfl,⟨⟨κ.q.1,rfl,κ.q.2.2.1,κ.q.2.2.2.1,by simp,κ.q.2.2.2.2.2⟩,HW.q.same hs Φ,Ψ.same hs (λg j=>by have:=(Δ.q.lt g j).2;constructor <;> omega)⟩,hs.below υ (λi p=>by have:=HB.q.size;constructor <;> omega) υ.size,⟨bI μ.1 hs.size,λi p t _=>(hs.block i (by constructor <;> omega) (bP p μ.1)).trans (μ.2 i p t)⟩,Ω⟩)
 have j8:=J ζ;have j9:=J η;clear ζ η f Φ Ψ υ μ Ω;refine qC ?_;refine aW rfl rfl rfl (λK r=>?_);go_simp;refine r _ _ (cellS (HG.q.cell (bU _ ε.q) (y.q _ (.inr ak))) ak) ?_;clear r K;refine qC ?_;refine aW rfl rfl rfl (λK r=>?_);go_simp;refine r _ _ (cellS (cellS (HG.q.cell (bU _ ε.q) (y.q _ (.inr ak))) ak) ak) ?_;clear r K;refine aO ?_;go_wp2_with fail;refine bodyPost_ret (v:=dU {l with na:=a',nn:=s.names.length+1,nc:=c',lvl:=q}) (by simp[results,results44,go_sem,q8]) rfl (q9.q _ ?_)
 repeat(first|(refine Same.setTail ?_ ak)|(with_reducible exact Same.refl' _))
theorem Av (h:HC)(on:U Bs)(l:bH)(s:aJ)(e:EvC)(m w:World)(hb:Below m.1.size m w)(hr:Row m 1 encStr h.o.a h.o.n h.o.c on)(he:aY e.obj h.o.n=true)(hl:fV w m.1.size l s)(q5:s.names.length<=1000):
  Calls Tryz.prog 45 #[bC h,dU l,fT e] w (vH m w l {s with names:=s.names++[nameOf on e.obj]}):=by
 obtain⟨Θ,Ξ⟩:=lX he;obtain⟨d,η⟩:∃d:V,e.obj=d:=⟨e.obj.toNat,by omega⟩;obtain⟨x,b,o,hx,π,hc⟩:=hr.at_ (i:=d) ah;have S:=hc 0 _ rfl;simp only[gJ,dB] at S;have Φ:=J (show b<m.1.size from dQ S);have Ψ:=bq hb rfl S;rw[show nameOf on e.obj=x by rw[η,mX hx]];have q6:d<h.o.n:=by omega
 have q7:=hr.le;obtain⟨ρ,W,θ⟩:=hl;obtain⟨i,z,p,hz,σ,τ,υ⟩:=l8;have A:=J (⟨p,hz,σ,τ,υ⟩:_/\_/\_/\_/\_);have Ω:=J π;have F:=J ρ;have ι:=J W;have φ:=J θ;have Z:=J hb;have q0:Hid ((s.names.length+1)*16<=140737488355328):=J ah;have q1:Hid (s.names.length+1<=maxLen):=J (by unfold maxLen;omega);have y:Hid (∀i,(i<m.1.size\/w.1.size<=i)->O i≠(Value.slice l.na l.nn l.nc).ownBlock):=J (λi p=>W.far p);have q2:=J (θ.apart W aj);obtain⟨ek,et,es,el,eo,ev,ep,γ,δ,ε⟩:=e;simp only at η;subst η;clear hb hr he W θ ρ hx π hc S p hz σ τ υ Θ Ξ;go_enter Tryz.func45,Tryz.ntmps45;go_wp2_with fail;have κ:=J (show((((w.alloc (N (aD h) 73)).alloc (N (bM l) 77)).alloc (N (aR ⟨ek,et,es,el,d,ev,ep,γ,δ,ε⟩) 49)).alloc (N #[G C 0,I H 0 0,G C 0,I H 0 0,.bool false,G C 0] 77)).cell? ⟨w.1.size+1,1,H⟩=O (I l.na l.nn l.nc) from(((Bx.new1 ak).alloc _).alloc _).1 1);have μ:=J (show((((w.alloc (N (aD h) 73)).alloc (N (bM l) 77)).alloc (N (aR ⟨ek,et,es,el,d,ev,ep,γ,δ,ε⟩) 49)).alloc (N #[G C 0,I H 0 0,G C 0,I H 0 0,.bool false,G C 0] 77)).cell? ⟨w.1.size,2,H⟩=O (I (O ⟨b,o,H⟩) h.o.n h.o.c) from(((((Bx.new1 rfl).alloc _).alloc _).alloc _).1 2).trans (by rw[<-Ω.q];rfl));have ν:=J (show((((w.alloc (N (aD h) 73)).alloc (N (bM l) 77)).alloc (N (aR ⟨ek,et,es,el,d,ev,ep,γ,δ,ε⟩) 49)).alloc (N #[G C 0,I H 0 0,G C 0,I H 0 0,.bool false,G C 0] 77)).cell? ⟨w.1.size+2,4,H⟩=O (G C d) from((Bx.new1 ak).alloc _).1 4);have ξ:=J (show((((w.alloc (N (aD h) 73)).alloc (N (bM l) 77)).alloc (N (aR ⟨ek,et,es,el,d,ev,ep,γ,δ,ε⟩) 49)).alloc (N #[G C 0,I H 0 0,G C 0,I H 0 0,.bool false,G C 0] 77)).cell? ⟨b,o+d,H⟩=O (.string ⟨x.toArray⟩) from bU _ (bU _ (bU _ (bU _ Ψ))));refine aC 11 [(0,0),(1,0),(2,0),(3,0),(4,0),(5,0),(6,0),(7,0),(8,0),(9,2),(10,2),(11,1),(12,2)] (λ_=>True) (λr=>r.cell? ⟨w.1.size+1,1,H⟩=O (I l.na l.nn l.nc)/\r.cell? ⟨w.1.size,2,H⟩=O (I (O ⟨b,o,H⟩) h.o.n h.o.c)/\r.cell? ⟨w.1.size+2,4,H⟩=O (G C d)/\r.cell? ⟨b,o+d,H⟩=O (.string ⟨x.toArray⟩)) ay ay (trivial) (⟨κ.q,μ.q,ν.q,ξ.q⟩) ?_;refine qC ?_;refine aF rfl rfl (λK t=>?_);go_simp;refine t _ _ ⟨trivial,⟨bU _ κ.q,bU _ μ.q,bU _ ν.q,bU _ ξ.q⟩⟩ ?_;clear t K;refine aF rfl rfl (λK t=>?_);refine kM _ _ 22 rfl i z 16 underlying22 A.q.1 A.q.2.1 A.q.2.2.1 A.q.2.2.2.1 A.q.2.2.2.2 rfl (((((((ι.q.alloc _).alloc _).alloc _).alloc _).alloc _).drew)) (O ⟨w.1.size+4,0,H⟩) 1 1 (s.names.length+1) [x] rfl (Row.drew (Row.IY ak x)) (rfl) (q0.q) (q1.q) (by have:=Z.q.size;simp;omega) ?_;intro a' c' u χ f ψ;have HG:=J f;have HA:=J ψ;have HW:=J χ;refine t _ _ ⟨trivial,⟨f.cell (bU _ κ.q) (y.q _ (.inr ak)),f.cell (bU _ μ.q) (y.q _ (.inr ak)),f.cell (bU _ ν.q) (y.q _ (.inr ak)),f.cell (bU _ ξ.q) (y.q _ (.inl Φ.q))⟩⟩ ?_;clear t K χ ψ;have P:Bx u (w.1.size+1) (bM l):=by
  refine Bx.grown ?_ f (λe=>y.q _ (.inr ak) e.symm);exact((((Bx.new1 ak).alloc _).alloc _).alloc _).drew
 have Q:Bx u (w.1.size+3) #[G C 0,I H 0 0,G C 0,I H 0 0,.bool false,G C 0]:=by
  refine Bx.grown ?_ f (λe=>y.q _ (.inr ak) e.symm);exact((Bx.new1 ak).alloc _).drew
 have q8:=P.1;have q9:=P.2.1;have j0:=P.2.2;have q3:=Q.1;have j1:=Q.2.1;have j2:=Q.2.2;have ω:∀g,(Value.slice a' (s.names.length+1) c').ownBlock=O g->g≠w.1.size+1/\g≠w.1.size+3:=by
  intro g j;rcases HA.q with q|q
  .have:=(ι.q.lt g (q.symm.trans j)).2
   omega
  .rw[q] at j;simp at j;omega
 have Γ:Own u m.1.size 130 2 pQ (I l.va l.vn l.vc) s.aN:=(((((((φ.q.alloc _).alloc _).alloc _).alloc _).alloc _).drew)).grown f (λg j e=>q2.q g j e);have ο:Below m.1.size m u:=below_app (aA (aA (aA (aA (aA Z.q _) _) _) _) _).drew ((((((ι.q.alloc _).alloc _).alloc _).alloc _).alloc _).drew) (aB _) (by have:=Z.q.size;simp;omega) f;have ζ:w.1.size<=u.1.size/\∀i,i<w.1.size->O i≠(Value.slice l.na l.nn l.nc).ownBlock->u.1[i]?=w.1[i]?:=⟨bI (aA (aA (aA (aA (aA (Below.refl w.1.size w) _) _) _) _) _).drew.size f.size,λi p q=>(f.block i (bP p (aA (aA (aA (aA (aA (Below.refl w.1.size w) _) _) _) _) _).drew.size) q).trans ((aA (aA (aA (aA (aA (Below.refl w.1.size w) _) _) _) _) _).drew.block i p)⟩;have Δ:ES w l {l with na:=a',nn:=s.names.length+1,nc:=c'}:=⟨λg j=>by
  rcases HA.q with q|q
  .exact .inl (q.symm.trans j)
  .right;have h2:=q.symm.trans j;simp at h2;omega,λg j=> .inl j⟩
 have q4:Hid (∀r,Same (λi=>i≠w.1.size+1/\i≠w.1.size+3) u r->vH m w l {s with names:=s.names++[x]} (.returned (dU {l with na:=a',nn:=s.names.length+1,nc:=c'})) r):=J (λr R=>
  ⟨_,rfl,⟨⟨F.q.1,F.q.2.1,F.q.2.2.1,F.q.2.2.2.1,by simp,F.q.2.2.2.2.2⟩,HW.q.same R ω,Γ.same R (λg j=>by have:=(φ.q.lt g j).2;constructor <;> omega)⟩,R.below ο (λi p=>by have:=Z.q.size;constructor <;> omega) ο.size,⟨bI ζ.1 R.size,λi p q _=>(R.block i (by constructor <;> omega) (bP p ζ.1)).trans (ζ.2 i p q)⟩,Δ⟩)
 have j3:=J P;have j4:=J Q;clear P Q f ω Γ ο ζ Δ;refine qC ?_;refine aW rfl rfl rfl (λK t=>?_);go_simp;refine t _ _ trivial ?_;clear t K;refine aO ?_;go_wp2_with fail;refine bodyPost_ret (v:=dU {l with na:=a',nn:=s.names.length+1,nc:=c'}) (by simp[results,results45,go_sem,q3]) rfl (q4.q _ ?_)
 repeat(first|(refine Same.setTail ?_ ak)|(with_reducible exact Same.refl' _))
theorem Bx.bB (d:Bx X b cs)(i:V)(g:i<cs.size)(v:Value):Bx (X.setCell ⟨b,i,H⟩ v) b (cs.setIfInBounds i v):=by
 refine⟨λj=>?_,λj=>by rw[World.frozen?_setCell];exact d.2.1 j,by have:=d.2.2;simpa[World.setCell] using this⟩;by_cases f:j=i
 .subst f
  rw[World.cell?_setCell_same' _ _ _ (by rw[d.1 j,GU g];rfl),yX g]
 .rw[World.cell?_setCell_other _ _ _ _ (λe=>by cases e;exact f rfl),d.1 j,qx (λe=>f e.symm)]
theorem Bx.QE {l':bH}(d:Bx X b (bM l)):
  Bx ((((((X.setCell ⟨b,0,H⟩ (G C l'.kind)).setCell ⟨b,1,H⟩ (I l'.na l'.nn l'.nc)).setCell ⟨b,2,H⟩ (G C l'.lvl)).setCell ⟨b,3,H⟩ (I l'.va l'.vn l'.vc)).setCell ⟨b,4,H⟩ (.bool l'.first)).setCell ⟨b,5,H⟩ (G C l'.bits)) b (bM l'):=
 ((((((d.bB 0 ak _).bB 1 ak _).bB 2 ak _).bB 3 ak _).bB 4 ak _).bB 5 ak _)
theorem Row.toN (b:X.1.size=g)(s:To):Row (X.alloc (N #[.string ⟨s.name.toArray⟩,G C s.k] 130)) 2 pQ (O ⟨g,0,H⟩) 1 1 [s]:=
 b▸(Own.new (hc:=OZ) X X.1.size 130 #[.string ⟨s.name.toArray⟩,G C s.k] [s] (aB _) rfl (by simp[maxLen])).row ak
theorem nV {o:Obj}(b:X.1.size=g):(X.alloc o).1[g]?=O o:=b▸World.alloc_heap_new X o
theorem jh {o':Obj}(o:Obj)(d:X.1[b]?=O o'):(X.alloc o).1[b]?=O o':=(Below.heap_alloc _ _ _ (dS.1 d).1).trans d
theorem Own.vB {d:Type}{enc:d->U Value}{f:TypeId}{xs:U d}(i:Own w B f k enc v xs){j:V × V}(l:w.1[b]?=O (N cs T j))(m:f≠T):v.ownBlock≠O b:=λe=>by
 obtain⟨o,p,g⟩:=i.tag e;rw[l] at g
 cases g
 exact m rfl
theorem IZ {v:kg}{nt:V}(b:gq v nt=true):v.k=0\/(0<=v.t/\v.t<nt):=by
 unfold gq at b;by_cases d:v.k=0
 .exact .inl d
 .rw[au d] at b;simp only[aM] at b;exact .inr (lX b.1.1)
theorem JG (h:HC)(on tn:U Bs)(l:bH)(s:aJ)(e:EvC)(u w:World)(hb:Below u.1.size u w)(Γ:Row u 1 encStr h.o.a h.o.n h.o.c on)(Δ:Row u 1 encStr h.t.a h.t.n h.t.c tn)
  (he:aY e.obj h.o.n=true) (hv:gq e.v h.t.n=true) (Z:fV w u.1.size l s) (z8:s.names.length<=1000) (Θ:s.aN.length<=1000):
  Calls Tryz.prog 46 #[bC h,dU l,fT e] w (vH u w l {s with names:=s.names++[nameOf on e.obj],aN:=s.aN++[lK tn e.v]}):=by
 have ξ:Below w.1.size w ((((w.alloc (N (aD h) 73)).alloc (N (bM l) 77)).alloc (N (aR e) 49)).alloc (N #[G C 0,I H 0 0,G C 0,I H 0 0,.bool false,G C 0] 77)):=aA (aA (aA (aA (Below.refl _ _) _) _) _) _;have Ξ:=J (Av h on l s e u _ (hb.trans (ξ.mono hb.size)) Γ he (Z.below ξ) z8);have HB:=J hb;have z9:=J Δ;have HV:=J hv;have HL:=J Z;have θ:=J ξ;have k3:=J Θ;have P:Hid (∀i,w.1.size<=i->O i≠(Value.slice l.na l.nn l.nc).ownBlock):=J (λi f=>Z.2.1.far (.inr f));have Q:Hid (∀i,w.1.size<=i->O i≠(Value.slice l.va l.vn l.vc).ownBlock):=J (λi f=>Z.2.2.far (.inr f));obtain⟨i,z,f⟩:=EA;have HI:=J f;obtain⟨to,ο⟩:∃to,to=lK tn e.v:=⟨_,rfl⟩;rw[<-ο];obtain⟨x,Φ⟩:∃x,x=nameOf on e.obj:=⟨_,rfl⟩;rw[<-Φ] at Ξ ⊢;have v0:=J ο;have v1:Hid ((s.aN.length+1)*24<=140737488355328):=J ah;have v2:Hid (s.aN.length+1<=maxLen):=J (by unfold maxLen;omega);clear ο Φ f hb Δ hv Z Θ Γ he;go_enter func46,ntmps46;go_wp2_with fail;refine Ξ.q.mono ?_;rintro en q ⟨b,rfl,π,Ψ,j,ρ⟩;have Ω:Bx q w.1.size (aD h):=Bx.of_eq (X:=((((w.alloc (N (aD h) 73)).alloc (N (bM l) 77)).alloc (N (aR e) 49)).alloc (N #[G C 0,I H 0 0,G C 0,I H 0 0,.bool false,G C 0] 77))) ((((Bx.new1 rfl).alloc _).alloc _).alloc _) j.size (j.block _ (by simp <;> omega) (P.q _ ah) (Q.q _ ah));have γ:Bx q (w.1.size+1) (bM l):=Bx.of_eq (X:=((((w.alloc (N (aD h) 73)).alloc (N (bM l) 77)).alloc (N (aR e) 49)).alloc (N #[G C 0,I H 0 0,G C 0,I H 0 0,.bool false,G C 0] 77))) (((Bx.new1 ak).alloc _).alloc _) j.size (j.block _ (by simp <;> omega) (P.q _ ah) (Q.q _ ah));have q0:Bx q (w.1.size+2) (aR e):=Bx.of_eq (X:=((((w.alloc (N (aD h) 73)).alloc (N (bM l) 77)).alloc (N (aR e) 49)).alloc (N #[G C 0,I H 0 0,G C 0,I H 0 0,.bool false,G C 0] 77))) ((Bx.new1 ak).alloc _) j.size (j.block _ ak (P.q _ ah) (Q.q _ ah));have q1:Bx q (w.1.size+3) #[G C 0,I H 0 0,G C 0,I H 0 0,.bool false,G C 0]:=Bx.of_eq (X:=((((w.alloc (N (aD h) 73)).alloc (N (bM l) 77)).alloc (N (aR e) 49)).alloc (N #[G C 0,I H 0 0,G C 0,I H 0 0,.bool false,G C 0] 77))) (Bx.new1 ak) j.size (j.block _ ak (P.q _ ah) (Q.q _ ah));have q2:q.1[w.1.size+1]?=O (N (bM l) 77 (0,0)):=(j.block _ (by simp <;> omega) (P.q _ ah) (Q.q _ ah)).trans (jh _ (jh _ (nV ak)));have q3:q.1[w.1.size]?=O (N (aD h) 73 (0,0)):=(j.block _ (by simp <;> omega) (P.q _ ah) (Q.q _ ah)).trans (jh _ (jh _ (jh _ (nV rfl))));have q4:q.1[w.1.size+2]?=O (N (aR e) 49 (0,0)):=(j.block _ (by simp <;> omega) (P.q _ ah) (Q.q _ ah)).trans (jh _ (nV ak));have q5:q.1[w.1.size+3]?=O (N #[G C 0,I H 0 0,G C 0,I H 0 0,.bool false,G C 0] 77 (0,0)):=(j.block _ ak (P.q _ ah) (Q.q _ ah)).trans (nV ak);have q6:Hid (∀g,(Value.slice b.va b.vn b.vc).ownBlock=O g->(Value.slice l.va l.vn l.vc).ownBlock=O g\/w.1.size<=g):=J (λg d=>(ρ.2 g d).imp id (λh=>bI θ.q.size h));have v3:Hid (∀g,(Value.slice b.na b.nn b.nc).ownBlock=O g->(Value.slice l.na l.nn l.nc).ownBlock=O g\/w.1.size<=g):=J (λg d=>(ρ.1 g d).imp id (λh=>bI θ.q.size h));have v4:=γ.2.1;have v5:=γ.1;have v6:=γ.2.2;have k4:w.1.size+4<=q.1.size:=by have:=j.size;simp at this;omega
 have q7:Hid (∀i,i<w.1.size->O i≠(Value.slice l.na l.nn l.nc).ownBlock->O i≠(Value.slice l.va l.vn l.vc).ownBlock->q.1[i]?=w.1[i]?):=J (λi f m o=>(j.block i (bP f θ.q.size) m o).trans (θ.q.block i f));have r:=J π;have σ:=J Ψ;have q8:=J Ω;have q9:=J γ;have j0:=J q0;have j1:=J q1;have τ:=J q2;have υ:=J q5;have j2:=J q3;have j3:=J q4;clear ρ π Ψ j Ω γ q0 q1 q2 q5 q3 q4;go_wp2_with fail;clear v4 v5 v6;have t:Same (λi=>i≠w.1.size+1) q ((((((q.setCell ⟨w.1.size+1,0,H⟩ (G C b.kind)).setCell ⟨w.1.size+1,1,H⟩ (I b.na b.nn b.nc)).setCell ⟨w.1.size+1,2,H⟩ (G C b.lvl)).setCell ⟨w.1.size+1,3,H⟩ (I b.va b.vn b.vc)).setCell ⟨w.1.size+1,4,H⟩ (.bool b.first)).setCell ⟨w.1.size+1,5,H⟩ (G C b.bits)):=by
  repeat(first|(refine Same.setTail ?_ ak)|(with_reducible exact Same.refl' _))
 have ι:=Bx.QE (l':=b) q9.q;revert t ι;generalize((((((q.setCell ⟨w.1.size+1,0,H⟩ (G C b.kind)).setCell ⟨w.1.size+1,1,H⟩ (I b.na b.nn b.nc)).setCell ⟨w.1.size+1,2,H⟩ (G C b.lvl)).setCell ⟨w.1.size+1,3,H⟩ (I b.va b.vn b.vc)).setCell ⟨w.1.size+1,4,H⟩ (.bool b.first)).setCell ⟨w.1.size+1,5,H⟩ (G C b.bits))=Y;intro t ι;have j4:=t.bx q8.q ak;have j5:=t.bx j0.q ak;have j6:=t.bx j1.q ak;have φ:=r.q.2.1.vB τ.q aj;have j7:=r.q.2.1.vB υ.q aj;have χ:=r.q.2.2.vB τ.q aj;have j8:=r.q.2.2.vB υ.q aj;have j9:=r.q.2.2.vB j2.q aj;have z0:=r.q.2.2.vB j3.q aj;have z1:=J (r.q.2.1.same t (λg d=>by rintro rfl;exact φ d));have ψ:=J (r.q.2.2.same t (λg d=>by rintro rfl;exact χ d));have S:=J (t.below σ.q (λi f=>by have:=HB.q.size;simp;omega) σ.q.size);have v7:Hid (q.1.size<=Y.1.size/\∀i,i<w.1.size->O i≠(Value.slice l.na l.nn l.nc).ownBlock->O i≠(Value.slice l.va l.vn l.vc).ownBlock->Y.1[i]?=w.1[i]?):=J ⟨t.size,λi f m o=>(t.block i (by simp;omega) ah).trans (q7.q i f m o)⟩;have κ:=J j4;have δ:=J ι;have μ:=J j5;have v8:=J j6;have F:=J (⟨φ,j7,χ,j8,j9,z0⟩:_/\_/\_/\_/\_/\_);have k5:w.1.size+4<=Y.1.size:=by have:=t.size;omega
 have v9:=J (z9.q.below S.q rfl);have z2:b.vn=s.aN.length:=r.q.1.2.2.2.2.2;have k6:=J z2;clear t j4 ι j5 j6 φ j7 χ j8 j9 z0 q8 q9 j0 j1 q7 σ j2 τ j3 υ z2;refine aC 8 [(0,0),(1,0),(2,0),(3,0),(4,0),(5,2),(6,2),(7,2),(8,1),(9,2)] (λ_=>True) (λR=>Bx R w.1.size (aD h)/\Bx R (w.1.size+1) (bM b)/\Bx R (w.1.size+2) (aR e)) ay ay (trivial) (⟨κ.q.drew,δ.q.drew,μ.q.drew⟩) ?_;refine qC ?_;refine aF rfl rfl (λK y=>?_);go_simp;refine(Cj h e.v tn _ v9.q.drew (IZ HV.q)).mono ?_;rintro en Y2 ⟨rfl,ε⟩;rw[<-v0.q];have p:=J ε;refine y _ _ ⟨trivial,κ.q.drew.keep ε,δ.q.drew.keep ε,μ.q.drew.keep ε⟩ ?_;clear y K ε;refine aF rfl rfl (λK y=>?_);go_simp;refine y _ _ ⟨trivial,(κ.q.drew.keep p.q).alloc _,(δ.q.drew.keep p.q).alloc _,(μ.q.drew.keep p.q).alloc _⟩ ?_;clear y K;refine aF rfl rfl (λK y=>?_);refine kM _ _ 75 rfl i z 24 underlying75 HI.q.1 HI.q.2.1 HI.q.2.2.1 HI.q.2.2.2.1 HI.q.2.2.2.2 rfl (((ψ.q.drew.below p.q rfl).alloc _)) (O ⟨Y2.1.size,0,H⟩) 1 1 (s.aN.length+1) [to] rfl (Row.toN rfl to) (rfl) (v1.q) (v2.q) (by have:=p.q.size;have:=S.q.size;simp;simp at*;omega) ?_;intro a' c' W z3 A z4;have HA:=J z4;have HG:=J A;have HW:=J z3;refine y _ _ ⟨trivial,((κ.q.drew.keep p.q).alloc _).grown A (F.q.2.2.2.2.1),((δ.q.drew.keep p.q).alloc _).grown A (F.q.2.2.1),((μ.q.drew.keep p.q).alloc _).grown A (F.q.2.2.2.2.2)⟩ ?_;clear y K z3 z4;have ζ:Bx W (w.1.size+1) (bM b):=by
  refine Bx.grown ?_ A F.q.2.2.1;exact(δ.q.drew.keep p.q).alloc _
 have η:Bx W (w.1.size+3) #[G C 0,I H 0 0,G C 0,I H 0 0,.bool false,G C 0]:=by
  refine Bx.grown ?_ A F.q.2.2.2.1;exact(v8.q.drew.keep p.q).alloc _
 have k7:=ζ.1;have k8:=ζ.2.1;have π:=ζ.2.2;have k0:=η.1;have k9:=η.2.1;have y0:=η.2.2;have k1:Y.1.size<=Y2.1.size:=p.q.size;have z5:Own W u.1.size 9 1 encStr (I b.na b.nn b.nc) (s.names++[x]):=((z1.q.drew.below p.q rfl).alloc _).grown A (λg d e=>(z1.q.apart ψ.q aj) g d e);have z6:∀g,(Value.slice a' (s.aN.length+1) c').ownBlock=O g->g≠w.1.size+1/\g≠w.1.size+3:=by
  intro g d;rcases HA.q with m|m
  .have o:=m.symm.trans d
   exact⟨λe=>F.q.2.2.1 (e▸o),λe=>F.q.2.2.2.1 (e▸o)⟩
  .have o:=m.symm.trans d;simp at o;omega
 have ω:Below u.1.size u W:=below_app ((S.q.drew.trans (p.q.mono S.q.size)).alloc (bI S.q.size k1) _) ((ψ.q.drew.below p.q rfl).alloc _) (aB _) (by have:=S.q.size;simp;omega) A;have ν:Kept w l W:=⟨bI (by simp;omega) A.size,λi f m o=>(A.block i (by simp;omega) (λe=>by
  rcases q6.q i e.symm with h3|h3
  .exact o h3.symm
  .omega)).trans ((Below.heap_alloc _ _ _ ah).trans ((p.q.block i (by show i<Y.1.size;omega)).trans (v7.q.2 i f m o)))⟩
 have z7:ES w l {b with va:=a',vn:=s.aN.length+1,vc:=c'}:=⟨λg d=>v3.q g d,λg d=>by
  rcases HA.q with m|m
  .exact q6.q g (m.symm.trans d)
  .right;have o:=m.symm.trans d;simp at o;omega⟩
 have k2:Hid (∀R,Same (λi=>i≠w.1.size+1/\i≠w.1.size+3) W R->vH u w l {s with names:=s.names++[x],aN:=s.aN++[to]} (.returned (dU {b with va:=a',vn:=s.aN.length+1,vc:=c'})) R):=J (λR hs=>
  ⟨_,rfl,⟨⟨r.q.1.1,r.q.1.2.1,r.q.1.2.2.1,r.q.1.2.2.2.1,r.q.1.2.2.2.2.1,by simp⟩,z5.same hs (λg d=>⟨λe=>F.q.1 (e▸d),λe=>F.q.2.1 (e▸d)⟩),HW.q.same hs z6⟩,hs.below ω (λi f=>by have:=HB.q.size;constructor <;> omega) ω.size,
   ⟨bI ν.size hs.size,λi f m o=>(hs.block i (by constructor <;> omega) (bP f ν.size)).trans (ν.block i f m o)⟩,z7⟩)
 have y1:=J ζ;have y2:=J η;clear ζ η A z5 z6 ω ν z7;refine qC ?_;refine aW rfl rfl rfl (λK y=>?_);go_simp;refine y _ _ trivial ?_;clear y K;refine aO ?_;go_wp2_with fail;refine bodyPost_ret (v:=dU {b with va:=a',vn:=s.aN.length+1,vc:=c'}) (by simp[results,results46,go_sem,k0]) rfl (k2.q _ ?_)
 repeat(first|(refine Same.setTail ?_ ak)|(with_reducible exact Same.refl' _))
variable{i:V}
theorem bW {d:V × V}(e:w.1[b]?=O (N cs T d))(v:Value):(w.setCell ⟨b,i,H⟩ v).1[b]?=O (N (cs.setIfInBounds i v) T d):=by
 simp[World.setCell,Array.getElem?_modify,e]
section
variable {α:Type}{enc:α->U Value}{k:V}
theorem I4 [hc:Cells enc k]:∀(xs:U α)(i j:V)(x y:α)(v:Value),xs[i]?=O x->j<k->(enc x).set j v=enc y->(xs.flatMap enc).set (i*k+j) v=(xs.set i y).flatMap enc
 |[],i,j,x,y,v,h,_,_=>by simp at h
 |a::xs,0,j,x,y,v,h,b,d=>by
  obtain rfl:a=x:=by simpa using h
  rw[gZ,kF,gZ,Nat.zero_mul,bD,List.set_append_left _ _ (by rw[hc.len];exact b),d]
 |a::xs,i+1,j,x,y,v,h,b,d=>by
  have e:=I4 xs i j x y v (by simpa using h) b d;rw[gZ,kK,gZ,List.set_append_right _ _ (by rw[hc.len,Nat.succ_mul];omega),hc.len,<-e]
  congr 2
  rw[Nat.succ_mul];omega
theorem Own.put [hc:Cells enc k]{n c j:V}{d:TypeId}{xs:U α}{x y:α}(f:Own w B d k enc (I (O ⟨g,0,H⟩) n c) xs)(l:xs[i]?=O x)(m:j<k)(o:(enc x).set j v=enc y):
  Own (w.setCell ⟨g,i*k+j,H⟩ v) B d k enc (I (O ⟨g,0,H⟩) n c) (xs.set i y):=by
 obtain⟨R,p⟩:=f;refine⟨uD _,?_⟩;rcases p with⟨e,_⟩|⟨S,q,r,e,t,u,z,A,F,K⟩
 .cases e
 .injection e with b P Q
  injection b with b;injection b with b;subst b;refine .inr ⟨g,q,r.setIfInBounds (i*k+j) v,?_,t,bW u v,by rw[wm];exact z,A,by rw[Array.size_setIfInBounds];exact F,?_⟩
  .rw[wm,P,Q]
  .rw[wm,Array.toList_setIfInBounds,List.take_set,K]
   exact I4 xs i j x y v l m o
end
theorem Row.uniq {f:Type}{enc:f->U Value}[hc:Cells enc k](p:∀x y,enc x=enc y->x=y){n c:V}{xs ys:U f}(g:Row w k enc a n c xs)(h':Row w k enc a n c ys):xs=ys:=by
 apply tF
 intro i;rcases iM i n with e|e
 .obtain⟨x,b,o,q,ha,r⟩:=g.at_ e
  obtain⟨y,Q,R,t,d,u⟩:=h'.at_ e;rw[ha] at d;injection d with d;injection d with z A;subst z A;rw[q,t];refine bJ O (p x y (tF λj=>?_));have S:=hc.len x;have W:=hc.len y;rcases iM j k with F|F
  .have l:(enc x)[j]?=O ((enc x)[j]' ah):=cB _
   have m:(enc y)[j]?=O ((enc y)[j]' ah):=cB _;have K:=r j _ l;have P:=u j _ m;rw[l,m,<-K,<-P]
  .rw[qB ah,qB ah]
 .rw[qB (by rw[g.len];omega),qB (by rw[h'.len];omega)]
def gX {d:Type}(w X:World)(T:TypeId)(k:V)(enc:d->U Value)(s:Sl)(b:U d):Prop:=
 b.length<=2000000/\(Row w k enc s.a s.n s.c b\/Own X w.1.size T k enc s.v b)
section
variable {β:Type}{w X Y:World}{T:TypeId}{k:V}{enc:β->U Value}{s:Sl}{L:U β}
theorem gX.same (b:gX w X T k enc s L){T':TypeId}{j:V × V}(l:X.1[g]?=O (N cs T' j))(m:T≠T')(o:Same (λi=>i≠g) X Y):gX w Y T k enc s L:=by
 obtain⟨d,b|b⟩:=b
 .exact⟨d,.inl b⟩
 .refine⟨d,.inr (b.same o (λi p e=>?_))⟩
  subst e;obtain⟨q,r,f⟩:=b.tag p;rw[l] at f
  cases f
  exact m rfl
theorem gX.below (b:gX w X T k enc s L)(e:Below X.1.size X Y):gX w Y T k enc s L:=by
 obtain⟨d,b|b⟩:=b
 .exact⟨d,.inl b⟩
 .exact⟨d,.inr (b.below e rfl)⟩
theorem gX.row [hc:Cells enc k](b:gX w X T k enc s L)(d:Below w.1.size w X):Row X k enc s.a s.n s.c L:=by
 obtain⟨j,b|b⟩:=b
 .exact b.below d rfl
 .obtain⟨a,c,e,_,_⟩:=b.shape
  obtain⟨l,m,o⟩:=s;injection e with f g i;subst f g i;exact b.row ah
theorem gX.own (b:Own X w.1.size T k enc s.v L)(d:L.length<=2000000):gX w X T k enc s L:=⟨d,.inr b⟩
end
variable{T':TypeId}
theorem Own.aQ {d:Type}{enc:d->U Value}{f:U d}(j:Own X B T k enc v f)(b:∃l m,X.1[g]?=O (N l T' m))(p:T≠T')(q:Same (λi=>i≠g) X Y):Own Y B T k enc v f:=by
 obtain⟨l,m,b⟩:=b;exact j.same q (λi r e=>by
  subst e;obtain⟨t,u,o⟩:=j.tag r;rw[b] at o
  cases o
  exact p rfl)
def nH {b d:Type}(w X:World)(T:TypeId)(k:V)(enc:d->U Value)(sl:b->Sl)(xs:U b)(e:U (U d)):Prop:=
 xs.length=e.length/\∀(i:V)(x:b)(L:U d),xs[i]?=O x->e[i]?=O L->gX w X T k enc (sl x) L
section
variable {α β:Type}{w X Y:World}{T:TypeId}{k:V}{enc:β->U Value}{sl:α->Sl}{xs:U α}{Ls:U (U β)}
theorem nH.same (b:nH w X T k enc sl xs Ls){d:V × V}(e:X.1[g]?=O (N cs T' d))(f:T≠T')(j:Same (λi=>i≠g) X Y):nH w Y T k enc sl xs Ls:=
 ⟨b.1,λi x L l m=>(b.2 i x L l m).same e f j⟩
theorem nH.below (b:nH w X T k enc sl xs Ls)(d:Below X.1.size X Y):nH w Y T k enc sl xs Ls:=⟨b.1,λi x L e f=>(b.2 i x L e f).below d⟩
theorem nH.set (f:nH w X T k enc sl xs Ls){y:α}{g:U β}(l:Ls[i]?=O g)(m:gX w X T k enc (sl y) g):nH w X T k enc sl (xs.set i y) Ls:=by
 refine⟨by rw[wm];exact f.1,λj x o b d=>?_⟩;rw[List.getElem?_set] at b
 split at b
 .rename_i e
  subst e
  split at b
  .injection b with b
   subst b;rw[l] at d;injection d with d;subst d;exact m
  .cases b
 .exact f.2 j x o b d
theorem nH.rows [hc:Cells enc k](b:nH w X T k enc sl xs Ls)(g:Below w.1.size w X)(i:V)(x:α)(d:xs[i]?=O x):∃e,Ls[i]?=O e/\Row X k enc (sl x).a (sl x).n (sl x).c e:=by
 have f:i<Ls.length:=by rw[<-b.1];exact(bK.1 d).1
 exact⟨Ls[i],cB f,(b.2 i x _ d (cB f)).row g⟩
end
@[reducible] def EvC.sl (x:EvC):Sl:=⟨x.sa,x.sn,x.sc⟩
@[reducible] def aG.sl (x:aG):Sl:=⟨x.sa,x.sn,x.sc⟩
@[reducible] def aK.sl (x:aK):Sl:=⟨x.sa,x.sn,x.sc⟩
@[reducible] def EvC.wi (x:EvC)(s:Sl):EvC:={x with sa:=s.a,sn:=s.n,sc:=s.c}
@[reducible] def aG.wi (x:aG)(s:Sl):aG:={x with sa:=s.a,sn:=s.n,sc:=s.c}
@[reducible] def aK.wi (x:aK)(s:Sl):aK:={x with sa:=s.a,sn:=s.n,sc:=s.c}
def EvC.base (x:EvC):EvC:=x.wi ⟨H,0,0⟩
def aG.base (x:aG):aG:=x.wi ⟨H,0,0⟩
def aK.base (x:aK):aK:=x.wi ⟨H,0,0⟩
theorem wR {b γ:Type}{f:b->γ}{xs:U b}{x y:b}(d:xs[i]?=O x)(g:f y=f x):(xs.set i y).map f=xs.map f:=by
 apply tF
 intro j;rw[nS,nS,List.getElem?_set]
 split
 .rename_i e
  subst e;rw[d,av (bK.1 d).1];simp[g]
 .rfl
structure Cont where
 nl:V->U Bs
 E:U EvC
 SE:U (U Sn)
 D:U aG
 SD:U (U Int)
 M:U aK
 SM:U (U Int)
 Q:U Wa
structure St (w X:World)(h:HC)(es:U EvC)(ds:U aG)(ms:U aK)(c:Cont):Prop where
 b:Below w.1.size w X
 bx:Bx X w.1.size (aD h)
 tg:∃cs fz,X.1[w.1.size]?=O (N cs 28 fz)
 b2:Bx X (w.1.size+1) (Array.replicate 8 (I H 0 0))
 t2:∃cs fz,X.1[w.1.size+1]?=O (N cs 28 fz)
 e:gX w X 49 9 dx h.e es
 d:gX w X 57 2 dV h.d ds
 m:gX w X 60 4 eB h.m ms
 q:gX w X 63 2 fE h.w c.Q
 n:∀i,i<4->gX w X 9 1 encStr (h.nm i) (c.nl i)
 be:es.map EvC.base=c.E
 bd:ds.map aG.base=c.D
 bm:ms.map aK.base=c.M
 se:nH w X 53 3 cZ EvC.sl es c.SE
 sd:nH w X 3 1 aS aG.sl ds c.SD
 sm:nH w X 3 1 aS aK.sl ms c.SM
section
variable {w X Y:World}{h:HC}{es:U EvC}{ds:U aG}{ms:U aK}{c:Cont}
theorem St.below (s:St w X h es ds ms c)(b:Below X.1.size X Y):St w Y h es ds ms c:=by
 obtain⟨d,e,f⟩:=s.tg;obtain⟨g,j,l⟩:=s.t2;exact⟨s.b.trans (b.mono s.b.size),s.bx.keep b,⟨d,e,(b.block _ s.bx.2.2).trans f⟩,s.b2.keep b,⟨g,j,(b.block _ s.b2.2.2).trans l⟩,s.e.below b,s.d.below b,s.m.below b,s.q.below b,λi m=>(s.n i m).below b,s.be,s.bd,s.bm,s.se.below b,s.sd.below b,s.sm.below b⟩
theorem St.drew (s:St w X h es ds ms c):St w X.drew h es ds ms c:=s.below (Below.refl _ _).drew
theorem sameBox (_s:St w X h es ds ms c)(j:V)(v:Value):Same (λi=>i≠w.1.size) X (X.setCell ⟨w.1.size,j,H⟩ v):=(Same.refl' X).setTail (λb=>b rfl)
theorem o9 (s:St w X h es ds ms c)(j:V)(v:Value):Below w.1.size w (X.setCell ⟨w.1.size,j,H⟩ v):=(sameBox s j v).below s.b (λi b=>by omega) s.b.size
theorem St.Rc (s:St w X h es ds ms c)(sl:Sl)(f:U EvC){E' ZB}(g:gX w X 49 9 dx sl f)(j:f.map EvC.base=E')(l:nH w X 53 3 cZ EvC.sl f ZB):
  St w (X.setCell ⟨w.1.size,4,H⟩ sl.v) {h with e:=sl} f ds ms {c with E:=E',SE:=ZB}:=by
 obtain⟨o,p,d⟩:=s.tg;have b:=sameBox s 4 sl.v;exact⟨o9 s _ _,s.bx.bB 4 ak _,⟨_,_,bW d _⟩,b.bx s.b2 ah,⟨_,_,(b.block _ ah s.b2.2.2).trans s.t2.choose_spec.choose_spec⟩,g.same d aj b,s.d.same d aj b,s.m.same d aj b,s.q.same d aj b,λi m=>(show gX w X 9 1 encStr (({h with e:=sl}:HC).nm i) (c.nl i) from(match i,m with|0,_=>s.n 0 aj|1,_=>s.n 1 aj|2,_=>s.n 2 aj|3,_=>s.n 3 aj)).same d aj b,j,s.bd,s.bm,l.same d aj b,s.sd.same d aj b,s.sm.same d aj b⟩
theorem St.Iw (s:St w X h es ds ms c){x:EvC}{L}(l:Own X w.1.size 49 9 dx h.e.v es)(ha:h.e.a=O ⟨g,0,H⟩)(p:es[i]?=O x)(z:c.SE[i]?=O L)(sl:Sl)(A:gX w X 53 3 cZ sl L):
  St w (X.setCell ⟨g,i*9+8,H⟩ sl.v) h (es.set i (x.wi sl)) ds ms c/\Own (X.setCell ⟨g,i*9+8,H⟩ sl.v) w.1.size 49 9 dx h.e.v (es.set i (x.wi sl)):=by
 have q:h.e.v.ownBlock=O g:=by simp only[Sl.v,ha];rfl
 obtain⟨P,Q,d⟩:=l.tag q;have R:=l.lt g q;have b:Same (λi=>i≠g) X (X.setCell ⟨g,i*9+8,H⟩ sl.v):=(Same.refl' X).setTail (λF=>F rfl);have r:Own (X.setCell ⟨g,i*9+8,H⟩ sl.v) w.1.size 49 9 dx h.e.v (es.set i (x.wi sl)):=by
  have e:h.e.v= I (O ⟨g,0,H⟩) h.e.n h.e.c:=by simp only[Sl.v,ha]
  rw[e] at l ⊢;exact l.put p aj rfl
 obtain⟨S,W,m⟩:=s.tg;have t:w.1.size≠g:=λe=>by
  rw[e,d] at m
  cases m
 obtain⟨Z,γ,o⟩:=s.t2;have u:w.1.size+1≠g:=λe=>by
  rw[e,d] at o
  cases o
 exact⟨⟨b.below s.b (λi hi=>by omega) s.b.size,b.bx s.bx t,⟨_,_,(b.block _ t s.bx.2.2).trans m⟩,b.bx s.b2 u,⟨_,_,(b.block _ u s.b2.2.2).trans o⟩,⟨by rw[wm];exact s.e.1,.inr r⟩,s.d.same d aj b,s.m.same d aj b,s.q.same d aj b,λj K=>(s.n j K).same d aj b,(wR (f:=EvC.base) (y:=x.wi sl) p rfl).trans s.be,s.bd,s.bm,(s.se.same d aj b).set z (A.same d aj b),s.sd.same d aj b,s.sm.same d aj b⟩,r⟩
theorem St.Rf (s:St w X h es ds ms c)(sl:Sl)(f:U aG){D' ZC}(g:gX w X 57 2 dV sl f)(j:f.map aG.base=D')(l:nH w X 3 1 aS aG.sl f ZC):
  St w (X.setCell ⟨w.1.size,5,H⟩ sl.v) {h with d:=sl} es f ms {c with D:=D',SD:=ZC}:=by
 obtain⟨o,p,e⟩:=s.tg;have b:=sameBox s 5 sl.v;exact⟨o9 s _ _,s.bx.bB 5 ak _,⟨_,_,bW e _⟩,b.bx s.b2 ah,⟨_,_,(b.block _ ah s.b2.2.2).trans s.t2.choose_spec.choose_spec⟩,s.e.same e aj b,g.same e aj b,s.m.same e aj b,s.q.same e aj b,λi m=>(show gX w X 9 1 encStr (({h with d:=sl}:HC).nm i) (c.nl i) from(match i,m with|0,_=>s.n 0 aj|1,_=>s.n 1 aj|2,_=>s.n 2 aj|3,_=>s.n 3 aj)).same e aj b,s.be,j,s.bm,s.se.same e aj b,l.same e aj b,s.sm.same e aj b⟩
theorem St.Iy (s:St w X h es ds ms c){x:aG}{L}(l:Own X w.1.size 57 2 dV h.d.v ds)(ha:h.d.a=O ⟨g,0,H⟩)(p:ds[i]?=O x)(z:c.SD[i]?=O L)(sl:Sl)(A:gX w X 3 1 aS sl L):
  St w (X.setCell ⟨g,i*2+1,H⟩ sl.v) h es (ds.set i (x.wi sl)) ms c/\Own (X.setCell ⟨g,i*2+1,H⟩ sl.v) w.1.size 57 2 dV h.d.v (ds.set i (x.wi sl)):=by
 have q:h.d.v.ownBlock=O g:=by simp only[Sl.v,ha];rfl
 obtain⟨P,Q,d⟩:=l.tag q;have R:=l.lt g q;have b:Same (λi=>i≠g) X (X.setCell ⟨g,i*2+1,H⟩ sl.v):=(Same.refl' X).setTail (λF=>F rfl);have r:Own (X.setCell ⟨g,i*2+1,H⟩ sl.v) w.1.size 57 2 dV h.d.v (ds.set i (x.wi sl)):=by
  have e:h.d.v= I (O ⟨g,0,H⟩) h.d.n h.d.c:=by simp only[Sl.v,ha]
  rw[e] at l ⊢;exact l.put p aj rfl
 obtain⟨S,W,m⟩:=s.tg;have t:w.1.size≠g:=λe=>by
  rw[e,d] at m
  cases m
 obtain⟨Z,γ,o⟩:=s.t2;have u:w.1.size+1≠g:=λe=>by
  rw[e,d] at o
  cases o
 exact⟨⟨b.below s.b (λi hi=>by omega) s.b.size,b.bx s.bx t,⟨_,_,(b.block _ t s.bx.2.2).trans m⟩,b.bx s.b2 u,⟨_,_,(b.block _ u s.b2.2.2).trans o⟩,s.e.same d aj b,⟨by rw[wm];exact s.d.1,.inr r⟩,s.m.same d aj b,s.q.same d aj b,λj K=>(s.n j K).same d aj b,s.be,(wR (f:=aG.base) (y:=x.wi sl) p rfl).trans s.bd,s.bm,s.se.same d aj b,(s.sd.same d aj b).set z (A.same d aj b),s.sm.same d aj b⟩,r⟩
theorem St.Rh (s:St w X h es ds ms c)(sl:Sl)(e:U aK){M' ZE}(f:gX w X 60 4 eB sl e)(g:e.map aK.base=M')(j:nH w X 3 1 aS aK.sl e ZE):
  St w (X.setCell ⟨w.1.size,6,H⟩ sl.v) {h with m:=sl} es ds e {c with M:=M',SM:=ZE}:=by
 obtain⟨o,p,d⟩:=s.tg;have b:=sameBox s 6 sl.v;exact⟨o9 s _ _,s.bx.bB 6 ak _,⟨_,_,bW d _⟩,b.bx s.b2 ah,⟨_,_,(b.block _ ah s.b2.2.2).trans s.t2.choose_spec.choose_spec⟩,s.e.same d aj b,s.d.same d aj b,f.same d aj b,s.q.same d aj b,λi l=>(show gX w X 9 1 encStr (({h with m:=sl}:HC).nm i) (c.nl i) from(match i,l with|0,_=>s.n 0 aj|1,_=>s.n 1 aj|2,_=>s.n 2 aj|3,_=>s.n 3 aj)).same d aj b,s.be,s.bd,g,s.se.same d aj b,s.sd.same d aj b,j.same d aj b⟩
theorem St.Iz (s:St w X h es ds ms c){x:aK}{L}(l:Own X w.1.size 60 4 eB h.m.v ms)(ha:h.m.a=O ⟨g,0,H⟩)(p:ms[i]?=O x)(z:c.SM[i]?=O L)(sl:Sl)(A:gX w X 3 1 aS sl L):
  St w (X.setCell ⟨g,i*4+3,H⟩ sl.v) h es ds (ms.set i (x.wi sl)) c/\Own (X.setCell ⟨g,i*4+3,H⟩ sl.v) w.1.size 60 4 eB h.m.v (ms.set i (x.wi sl)):=by
 have q:h.m.v.ownBlock=O g:=by simp only[Sl.v,ha];rfl
 obtain⟨P,Q,d⟩:=l.tag q;have R:=l.lt g q;have b:Same (λi=>i≠g) X (X.setCell ⟨g,i*4+3,H⟩ sl.v):=(Same.refl' X).setTail (λF=>F rfl);have r:Own (X.setCell ⟨g,i*4+3,H⟩ sl.v) w.1.size 60 4 eB h.m.v (ms.set i (x.wi sl)):=by
  have e:h.m.v= I (O ⟨g,0,H⟩) h.m.n h.m.c:=by simp only[Sl.v,ha]
  rw[e] at l ⊢;exact l.put p aj rfl
 obtain⟨S,W,m⟩:=s.tg;have t:w.1.size≠g:=λe=>by
  rw[e,d] at m
  cases m
 obtain⟨Z,γ,o⟩:=s.t2;have u:w.1.size+1≠g:=λe=>by
  rw[e,d] at o
  cases o
 exact⟨⟨b.below s.b (λi hi=>by omega) s.b.size,b.bx s.bx t,⟨_,_,(b.block _ t s.bx.2.2).trans m⟩,b.bx s.b2 u,⟨_,_,(b.block _ u s.b2.2.2).trans o⟩,s.e.same d aj b,s.d.same d aj b,⟨by rw[wm];exact s.m.1,.inr r⟩,s.q.same d aj b,λj K=>(s.n j K).same d aj b,s.be,s.bd,(wR (f:=aK.base) (y:=x.wi sl) p rfl).trans s.bm,s.se.same d aj b,s.sd.same d aj b,(s.sm.same d aj b).set z (A.same d aj b)⟩,r⟩
theorem St.Ri (s:St w X h es ds ms c)(sl:Sl){Q'}(e:gX w X 63 2 fE sl Q'):
  St w (X.setCell ⟨w.1.size,7,H⟩ sl.v) {h with w:=sl} es ds ms {c with Q:=Q'}:=by
 obtain⟨g,j,d⟩:=s.tg;have b:=sameBox s 7 sl.v;exact⟨o9 s _ _,s.bx.bB 7 ak _,⟨_,_,bW d _⟩,b.bx s.b2 ah,⟨_,_,(b.block _ ah s.b2.2.2).trans s.t2.choose_spec.choose_spec⟩,s.e.same d aj b,s.d.same d aj b,s.m.same d aj b,e.same d aj b,λi f=>(show gX w X 9 1 encStr (({h with w:=sl}:HC).nm i) (c.nl i) from(match i,f with|0,_=>s.n 0 aj|1,_=>s.n 1 aj|2,_=>s.n 2 aj|3,_=>s.n 3 aj)).same d aj b,s.be,s.bd,s.bm,s.se.same d aj b,s.sd.same d aj b,s.sm.same d aj b⟩
theorem St.Mf (s:St w X h es ds ms c)(sl:Sl)(e:gX w X 9 1 encStr sl (c.nl 0)):
  St w (X.setCell ⟨w.1.size,0,H⟩ sl.v) {h with t:=sl} es ds ms c:=by
 obtain⟨g,j,d⟩:=s.tg;have b:=sameBox s 0 sl.v;exact⟨o9 s _ _,s.bx.bB 0 ak _,⟨_,_,bW d _⟩,b.bx s.b2 ah,⟨_,_,(b.block _ ah s.b2.2.2).trans s.t2.choose_spec.choose_spec⟩,s.e.same d aj b,s.d.same d aj b,s.m.same d aj b,s.q.same d aj b,λi f=>(show gX w X 9 1 encStr (({h with t:=sl}:HC).nm i) (c.nl i) from(match i,f with|0,_=>e|1,_=>s.n 1 aj|2,_=>s.n 2 aj|3,_=>s.n 3 aj)).same d aj b,s.be,s.bd,s.bm,s.se.same d aj b,s.sd.same d aj b,s.sm.same d aj b⟩
theorem St.Mg (s:St w X h es ds ms c)(sl:Sl)(e:gX w X 9 1 encStr sl (c.nl 1)):
  St w (X.setCell ⟨w.1.size,1,H⟩ sl.v) {h with s:=sl} es ds ms c:=by
 obtain⟨g,j,d⟩:=s.tg;have b:=sameBox s 1 sl.v;exact⟨o9 s _ _,s.bx.bB 1 ak _,⟨_,_,bW d _⟩,b.bx s.b2 ah,⟨_,_,(b.block _ ah s.b2.2.2).trans s.t2.choose_spec.choose_spec⟩,s.e.same d aj b,s.d.same d aj b,s.m.same d aj b,s.q.same d aj b,λi f=>(show gX w X 9 1 encStr (({h with s:=sl}:HC).nm i) (c.nl i) from(match i,f with|0,_=>s.n 0 aj|1,_=>e|2,_=>s.n 2 aj|3,_=>s.n 3 aj)).same d aj b,s.be,s.bd,s.bm,s.se.same d aj b,s.sd.same d aj b,s.sm.same d aj b⟩
theorem St.Mh (s:St w X h es ds ms c)(sl:Sl)(e:gX w X 9 1 encStr sl (c.nl 2)):
  St w (X.setCell ⟨w.1.size,2,H⟩ sl.v) {h with o:=sl} es ds ms c:=by
 obtain⟨g,j,d⟩:=s.tg;have b:=sameBox s 2 sl.v;exact⟨o9 s _ _,s.bx.bB 2 ak _,⟨_,_,bW d _⟩,b.bx s.b2 ah,⟨_,_,(b.block _ ah s.b2.2.2).trans s.t2.choose_spec.choose_spec⟩,s.e.same d aj b,s.d.same d aj b,s.m.same d aj b,s.q.same d aj b,λi f=>(show gX w X 9 1 encStr (({h with o:=sl}:HC).nm i) (c.nl i) from(match i,f with|0,_=>s.n 0 aj|1,_=>s.n 1 aj|2,_=>e|3,_=>s.n 3 aj)).same d aj b,s.be,s.bd,s.bm,s.se.same d aj b,s.sd.same d aj b,s.sm.same d aj b⟩
theorem St.Mi (s:St w X h es ds ms c)(sl:Sl)(e:gX w X 9 1 encStr sl (c.nl 3)):
  St w (X.setCell ⟨w.1.size,3,H⟩ sl.v) {h with p:=sl} es ds ms c:=by
 obtain⟨g,j,d⟩:=s.tg;have b:=sameBox s 3 sl.v;exact⟨o9 s _ _,s.bx.bB 3 ak _,⟨_,_,bW d _⟩,b.bx s.b2 ah,⟨_,_,(b.block _ ah s.b2.2.2).trans s.t2.choose_spec.choose_spec⟩,s.e.same d aj b,s.d.same d aj b,s.m.same d aj b,s.q.same d aj b,λi f=>(show gX w X 9 1 encStr (({h with p:=sl}:HC).nm i) (c.nl i) from(match i,f with|0,_=>s.n 0 aj|1,_=>s.n 1 aj|2,_=>s.n 2 aj|3,_=>e)).same d aj b,s.be,s.bd,s.bm,s.se.same d aj b,s.sd.same d aj b,s.sm.same d aj b⟩
end
theorem yM {d:Type}{enc:d->U Value}[hc:Cells enc k](f:∀x y,enc x=enc y->x=y){n c:V}{b:U d}(e:Row X k enc a n c b):Classical.epsilon (λb=>Row X k enc a n c b)=b:=
 Row.uniq (hc:=hc) f (Classical.epsilon_spec ⟨b,e⟩) e
theorem yN (x y:Sn)(g:cZ x=cZ y):x=y:=by
 obtain⟨a,b,c⟩:=x;obtain⟨d,e,f⟩:=y;simp[cZ] at g;simp[g]
theorem nP (x y:Int)(b:aS x=aS y):x=y:=by simpa[aS] using b
theorem nH.Ee {g j:Type}{enc:j->U Value}[hc:Cells enc k]{sl:g->Sl}{xs:U g}{l:U (U j)}(m:∀x y,enc x=enc y->x=y)(f:nH w X T k enc sl xs l)(o:Below w.1.size w X):
  (∀x∈xs,Row X k enc (sl x).a (sl x).n (sl x).c (Classical.epsilon (λb=>Row X k enc (sl x).a (sl x).n (sl x).c b)))/\xs.map (λx=>Classical.epsilon (λb=>Row X k enc (sl x).a (sl x).n (sl x).c b))=l:=by
 constructor
 .intro x d
  obtain⟨i,p⟩:=pO.1 d;obtain⟨b,_,e⟩:=f.rows (hc:=hc) o i x p;rw[yM (hc:=hc) m e];exact e
 .apply tF
  intro i;rw[nS]
  cases d:xs[i]? with
  |none=>rw[Option.map_none,qB (by rw[<-f.1];exact List.getElem?_eq_none_iff.1 d)]
  |some x=>
   obtain⟨b,q,e⟩:=f.rows (hc:=hc) o i x d;rw[Option.map_some,yM (hc:=hc) m e,q]
def Mr (w:World)(c:Cont)(e:Ending)(X:World):Prop:=
 ∃h es ds ms,∃b:EvC->U Sn,∃d:aG->U Int,∃f:aK->U Int,e= .returned (bC h)/\Deep X h es ds ms c.Q b d f/\(∀i,i<4->Row X 1 encStr (h.nm i).a (h.nm i).n (h.nm i).c (c.nl i))/\
  es.map EvC.base=c.E/\ds.map aG.base=c.D/\ms.map aK.base=c.M/\es.map b=c.SE/\ds.map d=c.SD/\ms.map f=c.SM/\Below w.1.size w X
section
variable {w X Y:World}{h:HC}{es:U EvC}{ds:U aG}{ms:U aK}{c:Cont}
theorem St.cast {c':Cont}(s:St w X h es ds ms c)(e:c=c'):St w X h es ds ms c':=e▸s
theorem St.WI (s:St w X h es ds ms c)(d:Same (λi=>i≠w.1.size+1) X Y)(b:Below w.1.size w Y):Mr w c (.returned (bC h)) Y:=by
 obtain⟨q,r,e⟩:=s.t2;obtain⟨f,g⟩:=(s.se.same e aj d).Ee (hc:=ko) yN b;obtain⟨j,l⟩:=(s.sd.same e aj d).Ee (hc:=eP) nP b;obtain⟨m,o⟩:=(s.sm.same e aj d).Ee (hc:=eP) nP b;exact⟨h,es,ds,ms,_,_,_,rfl,⟨(s.e.same e aj d).row (hc:=jI) b,(s.d.same e aj d).row (hc:=kr) b,(s.m.same e aj d).row (hc:=ku) b,(s.q.same e aj d).row (hc:=lQ) b,f,j,m⟩,λi p=>((s.n i p).same e aj d).row (hc:=eX) b,s.be,s.bd,s.bm,g,l,o,b⟩
end
variable{m:HC}{es:U EvC}
theorem St.ret {i:U aG}{j:U aK}{c:Cont}(s:St w X m es i j c):Mr w c (.returned (bC m)) X:=by
 obtain⟨b,d⟩:=s.se.Ee (hc:=ko) yN s.b;obtain⟨e,f⟩:=s.sd.Ee (hc:=eP) nP s.b;obtain⟨g,l⟩:=s.sm.Ee (hc:=eP) nP s.b;exact⟨m,es,i,j,_,_,_,rfl,⟨s.e.row (hc:=jI) s.b,s.d.row (hc:=kr) s.b,s.m.row (hc:=ku) s.b,s.q.row (hc:=lQ) s.b,b,e,g⟩,λo p=>(s.n o p).row (hc:=eX) s.b,s.be,s.bd,s.bm,d,f,l,s.b⟩
theorem nH.start {d e:Type}{enc:e->U Value}{sl:d->Sl}{xs:U d}(f:d->U e)(j:∀x∈xs,(f x).length<=2000000/\Row w k enc (sl x).a (sl x).n (sl x).c (f x)):nH w X T k enc sl xs (xs.map f):=by
 refine⟨by rw[bg],λi x L g b=>?_⟩;rw[nS,g] at b;injection b with b;subst b;have:=j x (dA g);exact⟨this.1,.inl this.2⟩
def sj (e:V->U Bs)(es:U EvC)(b:U aG)(d:U aK)(f:U Wa)(g:EvC->U Sn)(j:aG->U Int)(l:aK->U Int):Prop:=
 es.length<=2000000/\b.length<=2000000/\d.length<=2000000/\f.length<=2000000/\(∀i,i<4->(e i).length<=2000000)/\(∀x∈es,(g x).length<=2000000)/\(∀x∈b,(j x).length<=2000000)/\(∀x∈d,(l x).length<=2000000)
def iA (m:V)(e:V->U Bs)(es:U EvC)(b:U aG)(d:U aK)(f:U Wa)(g:EvC->U Sn)(i:aG->U Int)(j:aK->U Int):Cont:=
 ⟨e,(es.take m).map EvC.base,(es.take m).map g,b.map aG.base,b.map i,d.map aK.base,d.map j,f⟩
theorem St.start {b:HC}{p:V->U Bs}{i:U aG}{j:U aK}{q:U Wa}{g:EvC->U Sn}{l:aG->U Int}{o:aK->U Int}(u:∀d,d<4->Row w 1 encStr (b.nm d).a (b.nm d).n (b.nm d).c (p d))
  (e:Deep w b es i j q g l o) (y:sj p es i j q g l o) (m:V) (W:b.e.n<=m):
  St w ((w.alloc (N (aD b) 28)).alloc (N (Array.replicate 8 (I H 0 0)) 28)) b es i j (iA m p es i j q g l o):=by
 obtain⟨z,A,F,K,P,Q,R,S⟩:=y;have Z:=e.1.len;have r:es.take m=es:=gF ah;refine⟨aA (aA (Below.refl w.1.size w) _) _,Bx.alloc (Bx.new w (aD b) 28) _,⟨_,_,jh _ (gM w _)⟩,Bx.new1 ak,⟨_,_,nV ak⟩,⟨z,.inl e.1⟩,⟨A,.inl e.2.1⟩,⟨F,.inl e.2.2.1⟩,⟨K,.inl e.2.2.2.1⟩,λd t=>⟨P d t,.inl (u d t)⟩,?_,rfl,rfl,?_,nH.start l (λx f=>⟨R x f,e.2.2.2.2.2.1 x f⟩),nH.start o (λx f=>⟨S x f,e.2.2.2.2.2.2 x f⟩)⟩
 .simp only[iA,r]
 .simp only[iA,r]
  exact nH.start g (λx f=>⟨Q x f,e.2.2.2.2.1 x f⟩)
theorem Own.open_ {l:Type}{enc:l->U Value}[hc:Cells enc k]{o:TypeId}{n c:V}{xs:U l}(p:Own X B o k enc (I a n c) xs)(Q:0<n):
  ∃g b,a=O ⟨g,0,H⟩/\Bx X g b/\xs.length=n/\n<=c/\B<=g/\(∀i x j v,xs[i]?=O x->(enc x)[j]?=O v->b[i*k+j]?=O v):=by
 obtain⟨q,r⟩:=p;rcases r with⟨d,R⟩|⟨g,S,b,d,t,e,u,_,W,y⟩
 .injection d with _ m _
  omega
 .injection d with z m A
  subst z m A;refine⟨g,b,rfl,⟨λi=>?_,λi=>?_,(dS.1 e).1⟩,rfl,u,t,λi x j v F K=>?_⟩
  .simp[World.cell?,e]
  .simp[World.frozen?,e]
  .have f:=flat_get (hc:=hc) xs i x j v F K
   have P:i*k+j<xs.length*k:=by rw[<-q];exact(bK.1 f).1
   rw[<-y,uT,av P] at f
   simpa using f
def iT (r:Int):Int:=if r=115 then 40 else if r=116\/r=109 then 300 else 0
structure zO (w:World)(na:Option Addr)(nn nc:V)(va:Option Addr)(vn vc:V)(names:U Bs)(aN:U To):Prop where
 rn:Row w 1 encStr na nn nc names
 rv:Row w 2 pQ va vn vc aN
 wn:∀s∈names,bG ⟨s.toArray⟩=true
 wv:∀t∈aN,jK t
 g:jM w
 T:Lib.Utf8Tabs 6 7 w
variable{R:V}
theorem zO.below {f:World}{o:Option Addr}{g:Option Addr}{j:V}{l:U Bs}{aN:U To}(d:zO w o b R g i j l aN)(e:Below w.1.size w f):zO f o b R g i j l aN:=
 ⟨d.rn.below e rfl,d.rv.below e rfl,d.wn,d.wv,d.g.below e,Utf8Tabs_below d.T e⟩
theorem KX:∀args w,(callFunc 90 args).run Tryz.prog w= .ok (.enter 90 args) w:=enters_of func90 ay rfl
theorem KY:∀args w,(callFunc 93 args).run Tryz.prog w= .ok (.enter 93 args) w:=enters_of func93 ay rfl
theorem zO.names {w:World}{o:Option Addr}{b R:V}{e:Option Addr}{f g:V}{names:U Bs}{aN:U To}(d:zO w o b R e f g names aN):
  Calls Tryz.prog 92 #[I o b R,.func (.func 93) #[] #[]] w (cO (.bool false) w):=by
 have:=KZ o b R 93 #[] names (λs=>!bG ⟨s.toArray⟩) w d.rn KY (λx _ W i=>by simpa using Ea x W (Utf8Tabs_below d.T i))
 rwa[List.any_eq_false.2 (λs j=>by simp[d.wn s j])] at this
theorem zO.aN {w:World}{o:Option Addr}{b R:V}{d:Option Addr}{e f:V}{i:U Bs}{aN:U To}(g:zO w o b R d e f i aN):
  Calls Tryz.prog 89 #[I d e f,.func (.func 90) #[] #[]] w (cO (.bool false) w):=by
 have:=Pm d e f 90 #[] aN (λ_=>false) w g.rv KX (λx j W l=>by simpa using O4 x W (Utf8Tabs_below g.T l) (g.wv x j))
 rwa[List.any_eq_false.2 (λs m=>by simp)] at this
theorem IW (r:Int)(w:World):Calls Tryz.prog 88 #[.int .i32 r] w (cO (G C (iT r)) w):=by
 by_cases b:r=115
 .subst b
  go_enter func88,ntmps88;go_wp2_with fail;go_ret;exact⟨rfl,Below.refl _ _⟩
 .have g:(r==115)=false:=aX.2 b
  by_cases d:r=116
  .subst d
   go_enter func88,ntmps88;go_wp2_with fail;go_ret;exact⟨rfl,Below.refl _ _⟩
  .have i:(r==116)=false:=aX.2 d
   by_cases e:r=109
   .subst e
    go_enter func88,ntmps88;go_wp2_with fail;go_ret;exact⟨rfl,Below.refl _ _⟩
   .have j:(r==109)=false:=aX.2 e
    have f:iT r=0:=by unfold iT;rw[au b,au ah]
    rw[f];go_enter func88,ntmps88;go_wp2_with fail;go_ret;exact⟨rfl,Below.refl _ _⟩
def Ef (b:UInt8):U Value:=[.int .u8 (b.toNat:Int)]
instance Xe:Cells Ef 1:=⟨λ_=>rfl,by decide,λx u h=>by simp[Ef] at h;subst h;rfl⟩
theorem Xf:(Tryz.prog.info? 5).map (λi=>(i.zero.map (·.cells.size),i.size,i.bytes))=O (O 1,1,1):=ay
theorem UR:∃i z,Tryz.prog.info? 5=O i/\i.zero=O z/\i.size=1/\i.bytes=1/\z.cells.size=1:=nI Xf
def wT:V->V->Bs
 |0,_=>[]
 |f+1,n=>if n=0 then [] else wT f (n / 10)++[UInt8.ofNat (48+n % 10)]
theorem Ck:∀(f g n:V),n<=f->n<=g->wT f n=wT g n
 |0,0,_,_,_=>rfl
 |0,g+1,n,b,_=>by
   obtain rfl:n=0:=by omega
   simp[wT]
 |f+1,0,n,_,d=>by
   obtain rfl:n=0:=by omega
   simp[wT]
 |f+1,g+1,n,b,d=>by
  simp only[wT]
  split
  .rfl
  .rw[Ck f g (n / 10) ah ah]
def jC (n:V):Bs:=wT n n
theorem xQ {n:V}(b:0<n):jC n=jC (n / 10)++[UInt8.ofNat (48+n % 10)]:=by
 obtain⟨m,rfl⟩:∃m,n=m+1:=⟨n - 1,by omega⟩;show wT (m+1) (m+1)=_;simp only[wT];rw[au ah,Ck m ((m+1) / 10) _ ah (aB _)]
 rfl
theorem CY:∀(d n:V),n<10 ^ d->(jC n).length<=d
 |d,0,_=>by simp[jC,wT]
 |0,n+1,h=>by simp at h
 |d+1,n+1,h=>by
  rw[xQ ah,bO,kG];have:=CY d ((n+1) / 10) (by rw[Nat.pow_succ] at h;omega);omega
theorem Own.Zd (X:World)(B m:V)(b:B<=X.1.size):Own (X.alloc (N #[.int .u8 (48+(m:Int) % 10)] 5)) B 5 1 Ef (I (O ⟨X.1.size,0,H⟩) 1 1) [UInt8.ofNat (48+m % 10)]:=
 Own.new (hc:=Xe) X B 5 #[.int .u8 (48+(m:Int) % 10)] [UInt8.ofNat (48+m % 10)] b (by
  simp[Ef];omega) (by simp[maxLen])
theorem ML (n:V)(h1:1<=n)(hn:n<=100000)(w:World):Calls Tryz.prog 96 #[G C n] w (cO (.string ⟨(jC n).toArray⟩) w):=by
 obtain⟨i,z,r⟩:=UR;have d:=J r;clear r;go_enter func96,ntmps96;go_wp2_with fail
 go_loopw [3,4,5] (λv o b wr=>∃(m:V)(j:Option Addr)(e:V)(ds:Bs)(f:Bool),v= .int .u64 m/\o= I j ds.length e/\b= .bool f/\jC n=jC m++ds/\(f=true->0<m)/\m<=n/\ds.length<=n/\ds.length+m<=n/\
   Own wr w.1.size 5 1 Ef (I j ds.length e) ds/\Below w.1.size w wr) (λv _ _ _=>(RowKit.intOf v).toNat)
 case atStart=>exact⟨n,H,0,[],true,rfl,rfl,rfl,by simp,λ_=>by omega,aB _,bn _,by simp,Own.jv _ _ _ _ _,Below.refl _ _⟩
 case round=>
  obtain⟨m,j,e,ds,f,rfl,rfl,rfl,t,W,hm,hl,ξ,y,A⟩:=hrel;by_cases h0:0<m
  .have κ:=J y;have g:=J A;have HD:=J t
   have ο:((10:Int)>0):=by decide
   clear y A t;have π:((m:Int)>0):=by omega
   have F:=J (Own.Zd wr w.1.size m g.q.size);have Z:=J ((κ.q.below (aA (Below.refl _ _) (N #[.int .u8 (48+(m:Int) % 10)] 5)) rfl).row ah);have γ:Hid ([UInt8.ofNat (48+m % 10)].length+ds.length=1+ds.length):=J rfl;have δ:Hid ((1+ds.length)*1<=140737488355328):=J ah;have ε:Hid (1+ds.length<=maxLen):=J (by unfold maxLen;omega);have K:Hid (w.1.size<=(wr.alloc (N #[.int .u8 (48+(m:Int) % 10)] 5)).1.size):=J (by have:=g.q.size;simp;omega);have ζ:=J ((g.q).alloc g.q.size (N #[.int .u8 (48+(m:Int) % 10)] 5));have η:Hid (jC n=jC (m / 10)++(UInt8.ofNat (48+m % 10)::ds)):=J (by rw[HD.q,xQ h0,dw];rfl);clear W
   cases f
   .go_wp2_with (at_builtin;refine iP rfl _ _ 67 rfl i z 1 underlying67 d.q.1 d.q.2.1 d.q.2.2.1 d.q.2.2.2.1 d.q.2.2.2.2 rfl F.q j ds.length e (1+ds.length) ds rfl Z.q γ.q δ.q ε.q K.q ?_;intro P Q w1 l p R)
    have q:=J (⟨l,below_app ζ.q F.q (aB _) K.q p⟩:_/\_);clear l p R;go_roundw
    case rel=>exact⟨m / 10,P,Q,UInt8.ofNat (48+m % 10)::ds,false,by go_num,by rw[dK,Nat.add_comm],rfl,η.q,λh=>(by cases h),by omega,by rw[dK];omega,by rw[dK];omega,by rw[dK,Nat.add_comm];exact q.q.1,q.q.2⟩
    case measure=>simp[RowKit.intOf];omega
   .go_wp2_with (at_builtin;refine iP rfl _ _ 67 rfl i z 1 underlying67 d.q.1 d.q.2.1 d.q.2.2.1 d.q.2.2.2.1 d.q.2.2.2.2 rfl F.q j ds.length e (1+ds.length) ds rfl Z.q γ.q δ.q ε.q K.q ?_;intro P Q w1 l p R)
    have q:=J (⟨l,below_app ζ.q F.q (aB _) K.q p⟩:_/\_);clear l p R;go_roundw
    case rel=>exact⟨m / 10,P,Q,UInt8.ofNat (48+m % 10)::ds,false,by go_num,by rw[dK,Nat.add_comm],rfl,η.q,λh=>(by cases h),by omega,by rw[dK];omega,by rw[dK];omega,by rw[dK,Nat.add_comm];exact q.q.1,q.q.2⟩
    case measure=>simp[RowKit.intOf];omega
  .obtain rfl:m=0:=by omega
   obtain rfl:f=false:=by cases f;rfl;exact absurd (W rfl) ah
   obtain rfl:ds=jC n:=by simpa[jC,wT] using t.symm
   have θ:0<(jC n).length:=by rw[xQ ah];simp
   have S:=y.row ah;obtain⟨_,bb,oo,_,rfl,_⟩:=S.at_ θ;have μ:(convert 67 9 (I (O ⟨bb,oo,H⟩) (jC n).length e)).run Tryz.prog wr= .ok (.string (strOfNums ((jC n).map (λu=>(u.toNat:Int))))) wr:=
    run_convert_bytes_arg wr 67 5 underlying67 Tryz.underlying5 bb oo _ e ((jC n).map (λu=>(u.toNat:Int))) ak (λi r=>by
     obtain⟨x,b',o',hx,ν,hc⟩:=S.at_ r
     cases ν
     have:=hc 0 _ rfl;rw[gJ,dB] at this;rw[this,List.getD_eq_getElem?_getD,nS,hx];rfl) 9 Tryz.underlying9
   have ι:strOfNums ((jC n).map (λu=>(u.toNat:Int)))=⟨(jC n).toArray⟩:=by
    unfold strOfNums;rw[iF]
    congr 2
    conv=>rhs;rw[<-List.map_id (jC n)]
    apply lN
    intro u _;simp
   rw[ι] at μ;have g:=J A;clear y A t S ι θ;go_wp2_with fail;go_ret;exact⟨rfl,g.q⟩
theorem L9 (a b:Bs):(⟨a.toArray⟩++⟨b.toArray⟩:ByteArray)=⟨(a++b).toArray⟩:=by
 apply ByteArray.ext;simp
theorem aaq (a b c:Bs):(⟨a.toArray⟩++⟨b.toArray⟩++⟨c.toArray⟩:ByteArray)=⟨(a++(b++c)).toArray⟩:=by
 rw[L9,L9,dw]
def fU (t:To):Bs:=if t.k=0 then [45] else t.name++46::jC t.k.toNat
theorem FY (t:To)(e:0<=t.k)(f:t.k<=999)(p:t.name.length<=100000)(w:World):Calls Tryz.prog 60 #[pR t] w (cO (.string ⟨(fU t).toArray⟩) w):=by
 obtain⟨n,k⟩:=t;simp only at e f p;obtain⟨m,rfl⟩:∃m:V,k=m:=⟨k.toNat,by omega⟩;by_cases g:m=0
 .subst g
  go_enter func60,ntmps60;go_wp2_with fail;go_ret;exact⟨rfl,aA (Below.refl _ _) _⟩
 .have u:((m:Int)==0)=false:=aX.2 ah
  have i:fU ⟨n,m⟩=n++46::jC m:=by
   unfold fU;rw[au (by simpa using g),jL]
  rw[i];have q:=λW=>J (ML m ah ah W)
  have j:=J (aA (Below.refl w.1.size w) (N #[.string ⟨n.toArray⟩,G C m] 130));have b:=J (Bx.new w #[.string ⟨n.toArray⟩,G C m] 130);have x:(jC m).length<=3:=CY 3 m ah;have y:¬(9223372036854775807<n.length+1):=by omega
  have z:¬(9223372036854775807<n.length+1+(jC m).length):=by omega
  clear i e f;go_enter func60,ntmps60;go_wp2_with fail;refine aC 8 [(0,0),(1,0),(2,0),(3,0),(4,0),(5,2),(6,0),(7,0)] (λ_=>True) (λl=>l.cell? ⟨w.1.size,0,H⟩=O (.string ⟨n.toArray⟩)/\l.cell? ⟨w.1.size,1,H⟩=O (G C m)) ay ay (trivial) (⟨b.q.1 0,b.q.1 1⟩) ?_;refine qC ?_;refine aF rfl rfl (λK o=>?_);go_simp;refine(q _).q.mono ?_;rintro A F ⟨rfl,d⟩;have r:=J (j.q.drew.trans (d.mono j.q.drew.size));refine o _ _ ⟨trivial,(b.q.drew.keep d).1 0,(b.q.drew.keep d).1 1⟩ ?_;clear o K d;refine qC ?_;refine aO ?_;go_wp2_with fail;go_ret;exact⟨bJ (λs=>Ending.returned (.string s)) (aaq n [46] (jC m)),r.q⟩
structure wU (h:HC)(l:bH)(w0 w:World)(Lk:bH)(ns:U Bs)(vs:U To)(X:World):Prop where
 b0:Bx X w.1.size (aD h)
 b1:Bx X (w.1.size+1) (bM Lk)
 b3:Bx X (w.1.size+3) #[G C 0,I H 0 0,G C 0,I H 0 0,.bool false,G C 0]
 on:Own X w0.1.size 9 1 encStr (I Lk.na Lk.nn Lk.nc) ns
 ov:Own X w0.1.size 130 2 pQ (I Lk.va Lk.vn Lk.vc) vs
 fn:∀g,(Value.slice Lk.na Lk.nn Lk.nc).ownBlock=O g->g<w.1.size\/w.1.size+4<=g
 fv:∀g,(Value.slice Lk.va Lk.vn Lk.vc).ownBlock=O g->g<w.1.size\/w.1.size+4<=g
 be:Below w0.1.size w0 X
 kw:Kept w l X
 gr:ES w l Lk
 sz:w.1.size+4<=X.1.size
theorem wU.pn {b:World}{e:bH}{d:U To}(s:wU m l b w e ns d X)(j:V)(g:j<4):(Value.slice e.na e.nn e.nc).ownBlock≠O (w.1.size+j):=λf=>by have:=s.fn _ f;omega
theorem wU.pv {b:World}{e:bH}{d:U To}(s:wU m l b w e ns d X)(j:V)(g:j<4):(Value.slice e.va e.vn e.vc).ownBlock≠O (w.1.size+j):=λf=>by have:=s.fv _ f;omega
theorem JH (h:HC)(pn on tn:U Bs)(l:bH)(s:aJ)(e:EvC)(t:U Sn)(Q w:World)(hb:Below Q.1.size Q w)(hr:Row Q 1 encStr h.p.a h.p.n h.p.c pn)(q8:Row Q 1 encStr h.o.a h.o.n h.o.c on)(z7:Row Q 1 encStr h.t.a h.t.n h.t.c tn)
  (he:aY e.pred h.p.n=true) (q9:Row Q 3 cZ e.sa e.sn e.sc t) (z8:∀q∈t,jG h.t.n h.o.n q=true) (hl:fV w Q.1.size l s) (g8:s.names.length<=1000) (g9:s.aN.length<=1000) (b3:e.sn<=40):
  Calls Tryz.prog 47 #[bC h,dU l,fT e] w (vH Q w l {s with names:=s.names++[nameOf pn e.pred]++t.map (λq=>nameOf on q.obj),aN:=s.aN++t.map (λq=>lK tn q.v)}):=by
 obtain⟨b4,b5⟩:=lX he;obtain⟨Z,j0⟩:∃Z:V,e.pred=Z:=⟨e.pred.toNat,by omega⟩;obtain⟨x,b,o,hx,z9,hc⟩:=hr.at_ (i:=Z) ah;have Ξ:=hc 0 _ rfl;simp only[gJ,dB] at Ξ;have b6:=J (show b<Q.1.size from dQ Ξ);have b7:=bq hb rfl Ξ;rw[show nameOf pn e.pred=x by rw[j0,mX hx]];have Φ:Z<h.p.n:=by omega
 have m0:=hr.le;obtain⟨v0,ε,j1⟩:=hl;obtain⟨i,z,A,hz,v1,v2,v3⟩:=l8;have HI:=J (⟨A,hz,v1,v2,v3⟩:_/\_/\_/\_/\_);have v4:=J z9;have μ:=J v0;have Ψ:=J ε;have j2:=J j1;have HB:=J hb;have b8:Hid ((s.names.length+1)*16<=140737488355328):=J ah;have b9:Hid (s.names.length+1<=maxLen):=J (by unfold maxLen;omega);have HF:Hid (∀i,(i<Q.1.size\/w.1.size<=i)->O i≠(Value.slice l.na l.nn l.nc).ownBlock):=J (λi A=>ε.far A);have v5:=J (j1.apart ε aj);obtain⟨iv,zv,v6,v7,v8,v9,k0⟩:=EA;have ν:=J (⟨v6,v7,v8,v9,k0⟩:_/\_/\_/\_/\_);have f0:=J q8;have f1:=J z7;have ζ:=J q9;have f2:=J z8;have f3:=q9.le;have m1:=q8.le;obtain⟨ek,et,es,el,eo,ev,ep,ξ,δ,ο⟩:=e;simp only at j0 b3 f3 ζ;subst j0;clear hb hr he ε j1 v0 hx z9 hc Ξ A hz v1 v2 v3 b4 b5 v6 v7 v8 v9 k0 q8 z7 q9 z8;go_enter func47,ntmps47;go_wp2_with fail;have Ω:=J (show((((w.alloc (N (aD h) 73)).alloc (N (bM l) 77)).alloc (N (aR ⟨ek,et,es,el,eo,ev,Z,ξ,δ,ο⟩) 49)).alloc (N #[G C 0,I H 0 0,G C 0,I H 0 0,.bool false,G C 0] 77)).cell? ⟨w.1.size+1,1,H⟩=O (I l.na l.nn l.nc) from(((Bx.new1 ak).alloc _).alloc _).1 1);have q0:=J (show((((w.alloc (N (aD h) 73)).alloc (N (bM l) 77)).alloc (N (aR ⟨ek,et,es,el,eo,ev,Z,ξ,δ,ο⟩) 49)).alloc (N #[G C 0,I H 0 0,G C 0,I H 0 0,.bool false,G C 0] 77)).cell? ⟨w.1.size,3,H⟩=O (I (O ⟨b,o,H⟩) h.p.n h.p.c) from(((((Bx.new1 rfl).alloc _).alloc _).alloc _).1 3).trans (by rw[<-v4.q];rfl));have q1:=J (show((((w.alloc (N (aD h) 73)).alloc (N (bM l) 77)).alloc (N (aR ⟨ek,et,es,el,eo,ev,Z,ξ,δ,ο⟩) 49)).alloc (N #[G C 0,I H 0 0,G C 0,I H 0 0,.bool false,G C 0] 77)).cell? ⟨w.1.size+2,7,H⟩=O (G C Z) from((Bx.new1 ak).alloc _).1 7);have q2:=J (show((((w.alloc (N (aD h) 73)).alloc (N (bM l) 77)).alloc (N (aR ⟨ek,et,es,el,eo,ev,Z,ξ,δ,ο⟩) 49)).alloc (N #[G C 0,I H 0 0,G C 0,I H 0 0,.bool false,G C 0] 77)).cell? ⟨b,o+Z,H⟩=O (.string ⟨x.toArray⟩) from bU _ (bU _ (bU _ (bU _ b7))));refine aC 11 [(0,0),(1,0),(2,0),(3,0),(4,0),(5,0),(6,0),(7,0),(8,0),(9,2),(10,2),(11,1),(12,2)] (λ_=>True) (λu=>u.cell? ⟨w.1.size+1,1,H⟩=O (I l.na l.nn l.nc)/\u.cell? ⟨w.1.size,3,H⟩=O (I (O ⟨b,o,H⟩) h.p.n h.p.c)/\u.cell? ⟨w.1.size+2,7,H⟩=O (G C Z)/\u.cell? ⟨b,o+Z,H⟩=O (.string ⟨x.toArray⟩)) ay ay (trivial) (⟨Ω.q,q0.q,q1.q,q2.q⟩) ?_;refine qC ?_;refine aF rfl rfl (λK j=>?_);go_simp;refine j _ _ ⟨trivial,⟨bU _ Ω.q,bU _ q0.q,bU _ q1.q,bU _ q2.q⟩⟩ ?_;clear j K;refine aF rfl rfl (λK j=>?_);refine kM _ _ 22 rfl i z 16 underlying22 HI.q.1 HI.q.2.1 HI.q.2.2.1 HI.q.2.2.2.1 HI.q.2.2.2.2 rfl (((((((Ψ.q.alloc _).alloc _).alloc _).alloc _).alloc _).drew)) (O ⟨w.1.size+4,0,H⟩) 1 1 (s.names.length+1) [x] rfl (Row.drew (Row.IY ak x)) (rfl) (b8.q) (b9.q) (by have:=HB.q.size;simp;omega) ?_;intro a' c' R π r ρ;have HG:=J r;have HA:=J ρ;have HW:=J π;refine j _ _ ⟨trivial,⟨r.cell (bU _ Ω.q) (HF.q _ (.inr ak)),r.cell (bU _ q0.q) (HF.q _ (.inr ak)),r.cell (bU _ q1.q) (HF.q _ (.inr ak)),r.cell (bU _ q2.q) (HF.q _ (.inl b6.q))⟩⟩ ?_;clear j K π ρ;have σ:Bx R (w.1.size+1) (bM l):=by
  refine Bx.grown ?_ r (λe=>HF.q _ (.inr ak) e.symm);exact((((Bx.new1 ak).alloc _).alloc _).alloc _).drew
 have θ:Bx R (w.1.size+3) #[G C 0,I H 0 0,G C 0,I H 0 0,.bool false,G C 0]:=by
  refine Bx.grown ?_ r (λe=>HF.q _ (.inr ak) e.symm);exact((Bx.new1 ak).alloc _).drew
 have j3:=σ.1;have k1:=σ.2.1;have k2:=σ.2.2;have j4:=θ.1;have k3:=θ.2.1;have k4:=θ.2.2;have k5:∀g,(Value.slice a' (s.names.length+1) c').ownBlock=O g->g≠w.1.size+1/\g≠w.1.size+3:=by
  intro g d;rcases HA.q with m|m
  .have:=(Ψ.q.lt g (m.symm.trans d)).2
   omega
  .rw[m] at d;simp at d;omega
 have k6:Own R Q.1.size 130 2 pQ (I l.va l.vn l.vc) s.aN:=(((((((j2.q.alloc _).alloc _).alloc _).alloc _).alloc _).drew)).grown r (λg d e=>v5.q g d e);have j5:Below Q.1.size Q R:=below_app (aA (aA (aA (aA (aA HB.q _) _) _) _) _).drew ((((((Ψ.q.alloc _).alloc _).alloc _).alloc _).alloc _).drew) (aB _) (by have:=HB.q.size;simp;omega) r;have τ:w.1.size<=R.1.size/\∀i,i<w.1.size->O i≠(Value.slice l.na l.nn l.nc).ownBlock->R.1[i]?=w.1[i]?:=⟨bI (aA (aA (aA (aA (aA (Below.refl w.1.size w) _) _) _) _) _).drew.size r.size,λi A m=>(r.block i (bP A (aA (aA (aA (aA (aA (Below.refl w.1.size w) _) _) _) _) _).drew.size) m).trans ((aA (aA (aA (aA (aA (Below.refl w.1.size w) _) _) _) _) _).drew.block i A)⟩;have k7:Bx R w.1.size (aD h):=by
  refine Bx.grown ?_ r (λe=>HF.q _ (.inr ak) e.symm);exact(((((Bx.new1 rfl).alloc _).alloc _).alloc _).alloc _).drew
 have k8:Bx R (w.1.size+2) (aR ⟨ek,et,es,el,eo,ev,Z,ξ,δ,ο⟩):=by
  refine Bx.grown ?_ r (λe=>HF.q _ (.inr ak) e.symm);exact(((Bx.new1 ak).alloc _).alloc _).drew
 have k9:w.1.size+4<=R.1.size:=by have:=r.size;simp at this;omega
 have y0:∀g,(Value.slice a' (s.names.length+1) c').ownBlock=O g->g<w.1.size\/w.1.size+4<=g:=by
  intro g d;rcases HA.q with m|m
  .exact .inl (Ψ.q.lt g (m.symm.trans d)).2
  .right;have h2:=m.symm.trans d;simp at h2;omega
 have y1:ES w l {l with na:=a',nn:=s.names.length+1,nc:=c'}:=⟨λg d=>by
  rcases HA.q with m|m
  .exact .inl (m.symm.trans d)
  .right;have h2:=m.symm.trans d;simp at h2;omega,λg d=> .inl d⟩
 have y2:Hid (∀u,Same (λi=>i≠w.1.size+1) R u->Bx u (w.1.size+1) (bM {l with na:=a',nn:=s.names.length+1,nc:=c'})->wU h l Q w {l with na:=a',nn:=s.names.length+1,nc:=c'} (s.names++[x]) s.aN u):=J (λu F j6=>
  ⟨F.bx k7 ak,j6,F.bx θ ak,HW.q.same F (λg d=>(k5 g d).1),k6.same F (λg d=>by have:=(j2.q.lt g d).2;simp;omega),y0,λg d=> .inl (j2.q.lt g d).2,
   F.below j5 (λi A=>by have:=HB.q.size;simp;omega) j5.size,⟨bI τ.1 F.size,λi A m _=>(F.block i (by simp;omega) (bP A τ.1)).trans (τ.2 i A m)⟩,y1,bI k9 F.size⟩)
 have f4:=k8.1;have j7:=J σ;have m2:=J θ;clear σ θ r k5 k6 j5 τ y1 k7 k8 k9 y0;refine qC ?_;refine aW rfl rfl rfl (λK j=>?_);go_simp;refine j _ _ trivial ?_;clear j K;refine aO ?_;go_wp2_with fail;have f5:=J (y2.q (R.setCell ⟨w.1.size+1,1,H⟩ (I a' (s.names.length+1) c')) (Same.setTail (Same.refl' _) ak) (j7.q.bB 1 ak _));clear j3 k1 k2 j4 k3 k4 f4 Ω q0 q1 q2 HA HG HW y2 v5 v4;have y3:l.vn=s.aN.length:=μ.q.2.2.2.2.2;have q3:=J y3;clear y3
 go_loopw [24] (λi wr=>∃(k:V)(na:Option Addr)(nc:V)(va:Option Addr)(vc:V),k<=δ/\i= G C k/\wU h l Q w {l with na:=na,nn:=s.names.length+1+k,nc:=nc,va:=va,vn:=l.vn+k,vc:=vc} (s.names++[x]++(t.take k).map (λq=>nameOf on q.obj)) (s.aN++(t.take k).map (λq=>lK tn q.v)) wr) (λi _=>δ - (RowKit.intOf i).toNat)
 case atStart=>exact⟨0,a',c',l.va,l.vc,bn _,rfl,by simpa using f5.q⟩
 case round=>
  obtain⟨k,na,nc,va,vc,hk,rfl,P⟩:=hrel;by_cases f6:k<δ
  .obtain⟨q,qb,qo,hq,rfl,q4⟩:=(ζ.q.below P.be rfl).at_ f6
   have y4:=q4 0 _ rfl;have f7:=q4 1 _ rfl;have f8:=q4 2 _ rfl;simp only[dB] at y4;have y5:=f2.q q (dA hq);simp only[jG,aM] at y5;obtain⟨y6,j8⟩:=y5;obtain⟨j9,ε⟩:=lX y6;obtain⟨⟨qt,qv⟩,f9⟩:∃p:V × kg,q=⟨p.1,p.2⟩:=⟨(q.obj.toNat,q.v),by obtain⟨a,b⟩:=q;simp only at j9 ⊢;rw[Int.toNat_of_nonneg j9]⟩;subst f9;simp only at y4 f7 f8 j8 ε;have y7:qt<h.o.n:=by omega
   obtain⟨y,yb,yo,hy,y8,y9⟩:=f0.q.at_ y7;have q5:=y9 0 _ rfl;simp only[gJ,dB] at q5;have x0:=J (show yb<Q.1.size from dQ q5);have x1:=bq P.be rfl q5;have x2:Hid ((s.names++[x]++(t.take k).map (λq=>nameOf on q.obj)).length=s.names.length+1+k):=by
    have Φ:k<=t.length:=by rw[ζ.q.len];omega
    exact J (by simp only[bO,bg,fB,nX Φ,dK,gY])
   have x3:Hid ((s.aN++(t.take k).map (λq=>lK tn q.v)).length=l.vn+k):=by
    have Φ:k<=t.length:=by rw[ζ.q.len];omega
    exact J (by simp only[bO,bg,fB,nX Φ];rw[q3.q])
   have x4:Hid ((s.names++[x]++(t.take k).map (λq=>nameOf on q.obj))++[y]=s.names++[x]++(t.take (k+1)).map (λq=>nameOf on q.obj)):=by
    rw[ig,hq];exact J (by simp[mX hy])
   obtain⟨to,z0⟩:∃to,to=lK tn qv:=⟨_,rfl⟩;have x5:Hid ((s.aN++(t.take k).map (λq=>lK tn q.v))++[to]=s.aN++(t.take (k+1)).map (λq=>lK tn q.v)):=by
    rw[ig,hq];exact J (by simp[z0])
   obtain⟨ns,υ⟩:∃ns,ns=(s.names++[x]++(t.take k).map (λq=>nameOf on q.obj)):=⟨_,rfl⟩;obtain⟨vs,φ⟩:∃vs,vs=(s.aN++(t.take k).map (λq=>lK tn q.v)):=⟨_,rfl⟩;rw[<-υ] at x2 x4 P;rw[<-φ] at x3 x5 P;have f:=J P;have g0:=J z0;have g4:=J j8;obtain⟨ht,χ,⟨oa,oo,oc⟩,ψ,ω,Γ,Δ,Θ⟩:=h;simp only at y8 y7;subst y8;have τ:=P.sz;clear q4 hq y6 j9 ε y9 q5 hy υ φ P z0 j8;have z1:=J x1;clear x1;go_wp2_with fail;refine aC 19 [(0,0),(1,0),(2,0),(3,0),(4,0),(5,0),(6,0),(7,0),(8,0),(11,0),(12,0),(13,1),(14,1),(15,1),(9,2),(10,2),(19,1),(16,2),(17,2),(18,2),(20,2),(21,1),(22,2)] (λu=>Bx u w.1.size #[ht.v,χ.v,I (O ⟨yb,yo,H⟩) oo oc,ψ.v,ω.v,Γ.v,Δ.v,Θ.v]/\Bx u wr.1.size #[G C qt,G C qv.t,G C qv.k]) (λu=>Bx u (w.1.size+1) (bM {l with na:=na,nn:=s.names.length+1+k,nc:=nc,va:=va,vn:=l.vn+k,vc:=vc})/\u.cell? ⟨yb,yo+qt,H⟩=O (.string ⟨y.toArray⟩)) ay ay (⟨f.q.b0.alloc _,Bx.new1 rfl⟩) (⟨f.q.b1.alloc _,bU _ z1.q⟩) ?_;refine qC ?_;refine aF rfl rfl (λK j=>?_);go_simp;refine j _ _ ⟨⟨(f.q.b0.alloc _).alloc _,(Bx.new1 rfl).alloc _⟩,(f.q.b1.alloc _).alloc _,bU _ (bU _ z1.q)⟩ ?_;clear j K;refine aF rfl rfl (λK j=>?_);refine kM _ _ 22 rfl i z 16 underlying22 HI.q.1 HI.q.2.1 HI.q.2.2.1 HI.q.2.2.2.1 HI.q.2.2.2.2 rfl ((((f.q.on.alloc _).alloc _).drew)) (O ⟨wr.1.size+1,0,H⟩) 1 1 (s.names.length+1+k+1) [y] rfl (Row.drew (Row.IY ak y)) (by rw[x2.q]) ah (by unfold maxLen;omega) (by have:=f.q.be.size;simp;omega) ?_;intro a' c' R π r ρ;have h0:Bx R w.1.size #[ht.v,χ.v,I (O ⟨yb,yo,H⟩) oo oc,ψ.v,ω.v,Γ.v,Δ.v,Θ.v]:=by
    refine Bx.grown ?_ r (f.q.pn 0 aj);exact((f.q.b0.alloc _).alloc _).drew
   have m:Bx R (w.1.size+1) (bM {l with na:=na,nn:=s.names.length+1+k,nc:=nc,va:=va,vn:=l.vn+k,vc:=vc}):=by
    refine Bx.grown ?_ r (f.q.pn 1 aj);exact((f.q.b1.alloc _).alloc _).drew
   have h3:Bx R (w.1.size+3) #[G C 0,I H 0 0,G C 0,I H 0 0,.bool false,G C 0]:=by
    refine Bx.grown ?_ r (f.q.pn 3 aj);exact((f.q.b3.alloc _).alloc _).drew
   have h4:Bx R wr.1.size #[G C qt,G C qv.t,G C qv.k]:=by
    refine Bx.grown ?_ r (λe=>by have:=(f.q.on.lt _ e).2;omega);exact((Bx.new1 rfl).alloc _).drew
   have h5:R.cell? ⟨yb,yo+qt,H⟩=O (.string ⟨y.toArray⟩):=r.cell (bU _ (bU _ z1.q)) (f.q.on.far (.inl x0.q));have z2:=J ((((f.q.ov.alloc _).alloc _).drew).grown r (λg d e=>(f.q.ov.apart f.q.on aj) g d e));have ι:=J (below_app (aA (aA f.q.be _) _).drew (((f.q.on.alloc _).alloc _).drew) (aB _) (by have:=f.q.be.size;simp;omega) r);have η:Hid (wr.1.size+2<=R.1.size/\∀i,i<w.1.size->O i≠(Value.slice l.na l.nn l.nc).ownBlock->O i≠(Value.slice l.va l.vn l.vc).ownBlock->R.1[i]?=w.1[i]?):=J ⟨by have:=r.size;simpa using this,λi A S g2=>(r.block i (by simp;omega) (λe=>by
    rcases f.q.gr.1 i e.symm with g3|g3
    .exact S g3.symm
    .omega)).trans ((Below.heap_alloc _ _ _ (by simp;omega)).trans ((Below.heap_alloc _ _ _ ah).trans (f.q.kw.block i A S g2)))⟩
   have z3:Hid (∀g,(Value.slice a' (s.names.length+1+k+1) c').ownBlock=O g->(g<w.1.size\/w.1.size+4<=g)/\((Value.slice l.na l.nn l.nc).ownBlock=O g\/w.1.size<=g)):=J (λg d=>by
    rcases ρ with S|S
    .exact⟨f.q.fn g (S.symm.trans d),f.q.gr.1 g (S.symm.trans d)⟩
    .have g2:=S.symm.trans d;simp at g2;omega)
   have x6:=J π;have H0:=J h0;have H1:=J m;have H3:=J h3;have H4:=J h4;have H5:=J h5;refine j _ _ ⟨⟨h0,h4⟩,m,h5⟩ ?_;clear j K π ρ r h0 m h3 h4 h5;refine qC ?_;refine aF rfl rfl (λK j=>?_);go_simp;refine(Cj ⟨ht,χ,⟨O ⟨yb,yo,H⟩,oo,oc⟩,ψ,ω,Γ,Δ,Θ⟩ qv tn _ (f1.q.below ι.q rfl) (IZ g4.q)).mono ?_;rintro en Y2 ⟨rfl,κ⟩;rw[<-g0.q];have W:=J κ;refine j _ _ ⟨⟨H0.q.keep κ,H4.q.keep κ⟩,H1.q.keep κ,bq κ rfl H5.q⟩ ?_;clear j K κ;refine aF rfl rfl (λK j=>?_);go_simp;refine j _ _ ⟨⟨(H0.q.keep W.q).alloc _,(H4.q.keep W.q).alloc _⟩,(H1.q.keep W.q).alloc _,bU _ (bq W.q rfl H5.q)⟩ ?_;clear j K;refine aF rfl rfl (λK j=>?_);refine kM _ _ 75 rfl iv zv 24 underlying75 ν.q.1 ν.q.2.1 ν.q.2.2.1 ν.q.2.2.2.1 ν.q.2.2.2.2 rfl (((z2.q.below W.q rfl).alloc _)) (O ⟨Y2.1.size,0,H⟩) 1 1 (l.vn+k+1) [to] rfl (Row.toN rfl to) (by rw[x3.q]) (by have:=q3.q;omega) (by have:=q3.q;unfold maxLen;omega) (by have:=W.q.size;have:=ι.q.size;simp;omega) ?_;intro a3 c3 w3 x7 γ x8;have h0:Bx w3 w.1.size #[ht.v,χ.v,I (O ⟨yb,yo,H⟩) oo oc,ψ.v,ω.v,Γ.v,Δ.v,Θ.v]:=by
    refine Bx.grown ?_ γ (f.q.pv 0 aj);exact(H0.q.keep W.q).alloc _
   have m:Bx w3 (w.1.size+1) (bM {l with na:=na,nn:=s.names.length+1+k,nc:=nc,va:=va,vn:=l.vn+k,vc:=vc}):=by
    refine Bx.grown ?_ γ (f.q.pv 1 aj);exact(H1.q.keep W.q).alloc _
   have h3:Bx w3 (w.1.size+3) #[G C 0,I H 0 0,G C 0,I H 0 0,.bool false,G C 0]:=by
    refine Bx.grown ?_ γ (f.q.pv 3 aj);exact(H3.q.keep W.q).alloc _
   have h4:Bx w3 wr.1.size #[G C qt,G C qv.t,G C qv.k]:=by
    refine Bx.grown ?_ γ (λe=>by have:=(f.q.ov.lt _ e).2;omega);exact(H4.q.keep W.q).alloc _
   have g5:R.1.size<=Y2.1.size:=W.q.size;have z4:=((x6.q.below W.q rfl).alloc (N #[.string ⟨to.name.toArray⟩,G C to.k] 130)).grown γ (λg d e=>(x6.q.apart z2.q aj) g d e);have z5:Below Q.1.size Q w3:=below_app ((ι.q.trans (W.q.mono ι.q.size)).alloc (bI ι.q.size g5) _) ((z2.q.below W.q rfl).alloc _) (aB _) (by have:=ι.q.size;simp;omega) γ;have q6:Kept w l w3:=⟨by have:=γ.size;have:=η.q.1;simp at*;omega,λi A S g2=>(γ.block i (by have:=η.q.1;simp;omega) (λe=>by
    rcases f.q.gr.2 i e.symm with g3|g3
    .exact g2 g3.symm
    .omega)).trans ((Below.heap_alloc _ _ _ (by have:=η.q.1;omega)).trans ((W.q.block i (by have:=η.q.1;omega)).trans (η.q.2 i A S g2)))⟩
   have q7:∀g,(Value.slice a3 (l.vn+k+1) c3).ownBlock=O g->(g<w.1.size\/w.1.size+4<=g)/\((Value.slice l.va l.vn l.vc).ownBlock=O g\/w.1.size<=g):=λg d=>by
    rcases x8 with S|S
    .exact⟨f.q.fv g (S.symm.trans d),f.q.gr.2 g (S.symm.trans d)⟩
    .have g2:=S.symm.trans d;have:=η.q.1;simp at g2;omega
   have x9:w.1.size+4<=w3.1.size:=by have:=γ.size;have:=η.q.1;simp at*;omega
   rw[x4.q] at z4;have z6:=x7;rw[x5.q] at z6;have g6:Hid (∀u,Same (λi=>i≠w.1.size+1) w3 u->Bx u (w.1.size+1) (bM {l with na:=a',nn:=s.names.length+1+(k+1),nc:=c',va:=a3,vn:=l.vn+(k+1),vc:=c3})->wU ⟨ht,χ,⟨O ⟨yb,yo,H⟩,oo,oc⟩,ψ,ω,Γ,Δ,Θ⟩ l Q w {l with na:=a',nn:=s.names.length+1+(k+1),nc:=c',va:=a3,vn:=l.vn+(k+1),vc:=c3} (s.names++[x]++(t.take (k+1)).map (λq=>nameOf on q.obj)) (s.aN++(t.take (k+1)).map (λq=>lK tn q.v)) u):=J (λu F j6=>
    ⟨F.bx h0 ak,j6,F.bx h3 ak,z4.same F (λg d=>by rcases(z3.q g d).1 with S|S <;> simp <;> omega),z6.same F (λg d=>by rcases(q7 g d).1 with S|S <;> simp <;> omega),λg d=>(z3.q g d).1,λg d=>(q7 g d).1,
     F.below z5 (λi A=>by have:=HB.q.size;simp;omega) z5.size,⟨bI q6.size F.size,λi A S g2=>(F.block i (by simp;omega) (bP A q6.size)).trans (q6.block i A S g2)⟩,⟨λg d=>(z3.q g d).2,λg d=>(q7 g d).2⟩,bI x9 F.size⟩)
   have j7:=J m;have b0:=J h0;have b1:=J h4;have j3:=m.1;have k1:=m.2.1;have k2:=m.2.2;refine j _ _ ⟨⟨h0,h4⟩,m,γ.cell (bU _ (bq W.q rfl H5.q)) (f.q.ov.far (.inl x0.q))⟩ ?_;clear j K x7 x8 γ h0 m h3 h4 z4 z6 z5 q6 q7 x9;refine aW rfl rfl rfl (λK j=>?_);go_simp;refine j _ _ ⟨b0.q.setOther _ _ _ ah,b1.q.setOther _ _ _ ah⟩ ?_;clear j K;refine qC ?_;refine aW rfl rfl rfl (λK j=>?_);go_simp;refine j _ _ ⟨(b0.q.setOther _ _ _ ah).setOther _ _ _ ah,(b1.q.setOther _ _ _ ah).setOther _ _ _ ah⟩ ?_;clear j K;refine aO ?_;go_wp2_with fail;go_roundw
   case rel=>exact⟨k+1,a',c',a3,c3,by omega,by go_num,g6.q _ (Same.setTail (Same.setTail (Same.refl' _) ak) ak) ((j7.q.bB 1 ak _).bB 3 ak _)⟩
   case measure=>simp[RowKit.intOf];omega
  .obtain rfl:k=δ:=by omega
   have b2:t.take k=t:=gF (by rw[ζ.q.len];exact aB _);rw[b2] at P;have j3:=P.b1.1;have j4:=P.b3.1;have k3:=P.b3.2.1;have k4:=P.b3.2.2;have υ:s.names.length+1+k=(s.names++[x]++t.map (λq=>nameOf on q.obj)).length:=by simp[ζ.q.len];omega
   have φ:l.vn+k=(s.aN++t.map (λq=>lK tn q.v)).length:=by simp[ζ.q.len,q3.q]
   have g7:Hid (∀u,Same (λi=>i≠w.1.size+3) wr u->vH Q w l {s with names:=s.names++[x]++t.map (λq=>nameOf on q.obj),aN:=s.aN++t.map (λq=>lK tn q.v)} (.returned (dU {l with na:=na,nn:=s.names.length+1+k,nc:=nc,va:=va,vn:=l.vn+k,vc:=vc})) u):=J (λu F=>
    ⟨_,rfl,⟨⟨μ.q.1,μ.q.2.1,μ.q.2.2.1,μ.q.2.2.2.1,υ,φ⟩,P.on.same F (λg d=>λe=>P.pn 3 aj (e▸d)),P.ov.same F (λg d=>λe=>P.pv 3 aj (e▸d))⟩,
     F.below P.be (λi A=>by have:=HB.q.size;simp;omega) P.be.size,⟨bI P.kw.size F.size,λi A m h2=>(F.block i (by simp;omega) (bP A P.kw.size)).trans (P.kw.block i A m h2)⟩,P.gr⟩)
   clear P b2 υ φ;go_wp2_with fail;refine bodyPost_ret (v:=dU {l with na:=na,nn:=s.names.length+1+k,nc:=nc,va:=va,vn:=l.vn+k,vc:=vc}) (by simp[results,results47,go_sem,j4]) rfl (g7.q _ ?_)
   repeat(first|(refine Same.setTail ?_ ak)|(with_reducible exact Same.refl' _))
def tH (b d:U Bs)(x:aG)(e:U Int):aJ:=⟨7,[nameOf b x.obj]++e.map (nameOf d),0,[],false,0⟩
def tJ (b d e:U Bs)(x:aK)(f:U Int):aJ:=⟨8,[nameOf b x.pred,nameOf d x.obj]++f.map (nameOf e),0,[],x.first,0⟩
def vW (b:U Bs)(x:Wa):aJ:=⟨9,[nameOf b x.eH],0,[],false,x.bits⟩
theorem Own.strs (d:X.1.size=g)(l:U Bs)(b:l.length<=maxLen):Own (X.alloc (N (l.map (λs=>Value.string ⟨s.toArray⟩)).toArray 9)) g 9 1 encStr (I (O ⟨g,0,H⟩) l.length l.length) l:=by
 subst d;exact Own.new (hc:=eX) X X.1.size 9 _ l (aB _) (by
  show l.map (λs=>Value.string ⟨s.toArray⟩)=l.flatMap encStr
  induction l with
  |nil=>rfl
  |cons a l e=>rw[dX,gZ,e (by simp at b;omega)];rfl) b
theorem VJ (h:HC)(on m:U Bs)(x:aG)(b:U Int)(F:V)(w:World)(hH:Bx w F (aD h))(δ:Row w 1 encStr h.o.a h.o.n h.o.c on)(ξ:Row w 1 encStr h.t.a h.t.n h.t.c m)(ε:Row w 1 aS x.sa x.sn x.sc b)(P:fu h.t.n b=true)(ο:aY x.obj h.o.n=true):
  Calls Tryz.prog 50 #[uV x,.pointer (O ⟨F,0,H⟩)] w (sw (tH on m x b) w):=by
 obtain⟨Γ,Δ⟩:=lX ο;obtain⟨d,ζ⟩:∃kk:V,x.obj=kk:=⟨x.obj.toNat,by omega⟩;obtain⟨l,y,z,π,ρ,p⟩:=δ.at_ (i:=d) ah;have η:=p 0 _ rfl;simp only[gJ,dB] at η;have Θ:=J η;have Ξ:d<h.o.n:=by omega
 have Φ:=δ.le;rw[show tH on m x b=⟨7,[l]++b.map (nameOf m),0,[],false,0⟩ by simp[tH,ζ,mX π]];simp only[fu,aM,aV,dZ] at P;have σ:=J ξ;have τ:=J ε;have υ:=J P;have Ψ:=P.1;have Ω:=ε.len;have φ:Hid (x.sn<=300):=J ah;have HH:=J hH;have q5:=hH.2.2;obtain⟨q6,e,f,j⟩:=x;simp only at ζ τ φ;subst ζ;obtain⟨ht,t,⟨qo,no,co⟩,hp,he,hd,hm,hw⟩:=h;simp only at ρ Ξ Φ HH σ υ;subst ρ;clear hH Γ Δ π p δ ο η ξ ε P Ψ Ω;go_enter func50,ntmps50;go_wp2_with fail;have Q:Bx ((w.alloc (N #[G C d,I e f j] 57)).alloc (N #[G C 0,I H 0 0,G C 0,I H 0 0,.bool false,G C 0] 77)) F #[ht.v,t.v,I (O ⟨y,z,H⟩) no co,hp.v,he.v,hd.v,hm.v,hw.v]:=(HH.q.alloc _).alloc _;have R:Bx ((w.alloc (N #[G C d,I e f j] 57)).alloc (N #[G C 0,I H 0 0,G C 0,I H 0 0,.bool false,G C 0] 77)) w.1.size #[G C d,I e f j]:=(Bx.new1 rfl).alloc _;have S:Bx ((w.alloc (N #[G C d,I e f j] 57)).alloc (N #[G C 0,I H 0 0,G C 0,I H 0 0,.bool false,G C 0] 77)) (w.1.size+1) #[G C 0,I H 0 0,G C 0,I H 0 0,.bool false,G C 0]:=Bx.new1 ak;have p:((w.alloc (N #[G C d,I e f j] 57)).alloc (N #[G C 0,I H 0 0,G C 0,I H 0 0,.bool false,G C 0] 77)).cell? ⟨y,z+d,H⟩=O (.string ⟨l.toArray⟩):=bU _ (bU _ Θ.q);have W:Below w.1.size w ((w.alloc (N #[G C d,I e f j] 57)).alloc (N #[G C 0,I H 0 0,G C 0,I H 0 0,.bool false,G C 0] 77)):=aA (aA (Below.refl _ _) _) _;have Z:((w.alloc (N #[G C d,I e f j] 57)).alloc (N #[G C 0,I H 0 0,G C 0,I H 0 0,.bool false,G C 0] 77)).1.size=w.1.size+2:=by simp
 revert Q R S p W Z;generalize((w.alloc (N #[G C d,I e f j] 57)).alloc (N #[G C 0,I H 0 0,G C 0,I H 0 0,.bool false,G C 0] 77))=q;intro Q R S p W Z;have χ:=J Z;clear Z;have γ:=J W;have θ:=J Q;have ι:=J R;have q0:=J S;have κ:=J p;clear Q R S W p;refine aC 13 [(0,0),(1,0),(2,0),(3,0),(4,0),(5,0),(6,0),(7,0),(8,0),(9,0),(10,2),(11,2),(12,0),(13,2)] (λ_=>True) (λr=>Bx r F #[ht.v,t.v,I (O ⟨y,z,H⟩) no co,hp.v,he.v,hd.v,hm.v,hw.v]/\Bx r w.1.size #[G C d,I e f j]/\r.cell? ⟨y,z+d,H⟩=O (.string ⟨l.toArray⟩)) ay ay (trivial) (⟨θ.q.drew,ι.q.drew,κ.q⟩) ?_;refine qC ?_;refine aF rfl rfl (λK o=>?_);go_simp;refine o _ _ ⟨trivial,θ.q.drew.alloc _,ι.q.drew.alloc _,bU _ κ.q⟩ ?_;clear o K;refine aF rfl rfl (λK o=>?_);go_simp;refine(Hl ⟨ht,t,⟨O ⟨y,z,H⟩,no,co⟩,hp,he,hd,hm,hw⟩ m e f j b (O ⟨q.1.size,0,H⟩) 1 [l] q.drew _ (aA (Below.refl q.drew.1.size q.drew) (N #[.string ⟨l.toArray⟩] 9)) ((τ.q.below γ.q rfl).drew) ((σ.q.below γ.q rfl).drew) υ.q.2 (Own.strs (X:=q.drew) rfl [l] (by simp[maxLen])) (by have:=φ.q;simp;omega)).mono ?_;rintro en w2 ⟨a',c',rfl,ψ,u⟩;have ω:=J u;have q1:=J ψ;have A:=q0.q.drew.keep u;have q2:=A.1;have q7:=A.2.1;have q8:=A.2.2;refine o _ _ ⟨trivial,θ.q.drew.keep u,ι.q.drew.keep u,bq u rfl κ.q⟩ ?_;have q9:=J A;clear o K u ψ A;refine qC ?_;refine aW rfl rfl rfl (λK o=>?_);go_simp;refine o _ _ trivial ?_;clear o K;refine aO ?_;have μ:Own w2 q.1.size 9 1 encStr (I a' (b.length+1) c') ([l]++b.map (nameOf m)):=by
  have h1:=q1.q;have h2:([l]++b.map (nameOf m)).length=b.length+1:=by simp
  rw[h2] at h1;exact h1
 have ν:Below w.1.size w w2:=γ.q.drew.trans (ω.q.mono γ.q.size);have q3:q.1.size<=w2.1.size:=ω.q.size;have q4:Hid (∀r,Same (λi=>i≠w.1.size+1) w2 r->sw ⟨7,[l]++b.map (nameOf m),0,[],false,0⟩ w (.returned (dU ⟨7,a',b.length+1,c',0,H,0,0,false,0⟩)) r):=J (λr t=>
  ⟨_,rfl,⟨⟨rfl,rfl,rfl,rfl,by simp,rfl⟩,(μ.same t (λg hg=>by have:=(μ.lt g hg).1;have:=χ.q;simp;omega)).mono (by have:=χ.q;omega),Own.jv _ _ _ _ _⟩,t.below ν (λi hi=>by simp;omega) ν.size⟩)
 clear μ ν q3;go_wp2_with fail;refine bodyPost_ret (v:=dU ⟨7,a',b.length+1,c',0,H,0,0,false,0⟩) (by simp[results,results50,go_sem,q2]) rfl (q4.q _ ?_)
 repeat(first|(refine Same.setTail ?_ ak)|(refine Same.l6 ?_)|(with_reducible exact Same.refl' _))
theorem VL (h:HC)(m:U Bs)(x:Wa)(g:V)(w:World)(o:Bx w g (aD h))(p:Row w 1 encStr h.s.a h.s.n h.s.c m)(u:aY x.eH h.s.n=true):
  Calls Tryz.prog 52 #[uX x,.pointer (O ⟨g,0,H⟩)] w (sw (vW m x) w):=by
 obtain⟨μ,ν⟩:=lX u;obtain⟨b,q⟩:∃kk:V,x.eH=kk:=⟨x.eH.toNat,by omega⟩;obtain⟨ys,j,l,y,z,e⟩:=p.at_ (i:=b) ah;have r:=e 0 _ rfl;simp only[gJ,dB] at r;have ξ:=J r;have ο:b<h.s.n:=by omega
 have π:=p.le;rw[show vW m x=⟨9,[ys],0,[],false,x.bits⟩ by simp[vW,q,mX y]];have A:=J o;have ρ:=o.2.2;obtain⟨σ,d⟩:=x;simp only at q;subst q;obtain⟨F,⟨qs,P,Q⟩,R,S,W,Z,hm,hw⟩:=h;simp only at z ο π A;subst z;clear o μ ν y e p u r;go_enter func52,ntmps52;go_wp2_with fail;have γ:Bx ((w.alloc (N #[G C b,G C d] 63)).alloc (N #[G C 0,I H 0 0,G C 0,I H 0 0,.bool false,G C 0] 77)) g #[F.v,I (O ⟨j,l,H⟩) P Q,R.v,S.v,W.v,Z.v,hm.v,hw.v]:=(A.q.alloc _).alloc _;have δ:Bx ((w.alloc (N #[G C b,G C d] 63)).alloc (N #[G C 0,I H 0 0,G C 0,I H 0 0,.bool false,G C 0] 77)) w.1.size #[G C b,G C d]:=(Bx.new1 rfl).alloc _;have ε:Bx ((w.alloc (N #[G C b,G C d] 63)).alloc (N #[G C 0,I H 0 0,G C 0,I H 0 0,.bool false,G C 0] 77)) (w.1.size+1) #[G C 0,I H 0 0,G C 0,I H 0 0,.bool false,G C 0]:=Bx.new1 ak;have e:((w.alloc (N #[G C b,G C d] 63)).alloc (N #[G C 0,I H 0 0,G C 0,I H 0 0,.bool false,G C 0] 77)).cell? ⟨j,l+b,H⟩=O (.string ⟨ys.toArray⟩):=bU _ (bU _ ξ.q);have ζ:Below w.1.size w ((w.alloc (N #[G C b,G C d] 63)).alloc (N #[G C 0,I H 0 0,G C 0,I H 0 0,.bool false,G C 0] 77)):=aA (aA (Below.refl _ _) _) _;have η:((w.alloc (N #[G C b,G C d] 63)).alloc (N #[G C 0,I H 0 0,G C 0,I H 0 0,.bool false,G C 0] 77)).1.size=w.1.size+2:=by simp
 have τ:=J η;clear η;have υ:=J ζ;have θ:=J γ;have ι:=J δ;have φ:=J ε;have κ:=J e;clear γ δ ε ζ e;refine aC 11 [(0,0),(1,0),(2,0),(3,0),(4,0),(5,0),(6,0),(8,0),(9,0),(7,2),(10,0),(11,2)] (λ_=>True) (λt=>Bx t g #[F.v,I (O ⟨j,l,H⟩) P Q,R.v,S.v,W.v,Z.v,hm.v,hw.v]/\Bx t w.1.size #[G C b,G C d]/\t.cell? ⟨j,l+b,H⟩=O (.string ⟨ys.toArray⟩)) ay ay (trivial) (⟨θ.q.drew,ι.q.drew,κ.q⟩) ?_;refine qC ?_;refine aF rfl rfl (λK f=>?_);go_simp;refine f _ _ ⟨trivial,θ.q.drew.alloc _,ι.q.drew.alloc _,bU _ κ.q⟩ ?_;clear f K;refine qC ?_;refine aW rfl rfl rfl (λK f=>?_);go_simp;refine f _ _ trivial ?_;clear f K;refine aO ?_;go_wp2_with fail;refine bodyPost_ret (v:=dU ⟨9,(O ⟨w.1.size+2,0,H⟩),1,1,0,H,0,0,false,d⟩) (by simp[results,results52,go_sem]) rfl ⟨_,rfl,⟨⟨rfl,rfl,rfl,rfl,rfl,rfl⟩,?_,Own.jv _ _ _ _ _⟩,?_⟩
 .exact((Own.strs ak [ys] (by simp[maxLen])).drew).mono ah
 .exact(aA (aA (aA (Below.refl _ _) _) _) _).drew
theorem VK (h:HC)(pn on p:U Bs)(x:aK)(e:U Int)(W:V)(w:World)(hH:Bx w W (aD h))(ι:Row w 1 encStr h.p.a h.p.n h.p.c pn)(κ:Row w 1 encStr h.o.a h.o.n h.o.c on)(ψ:Row w 1 encStr h.t.a h.t.n h.t.c p)(μ:Row w 1 aS x.sa x.sn x.sc e)(Z:fu h.t.n e=true)(ω:aY x.pred h.p.n=true)(Γ:aY x.obj h.o.n=true):
  Calls Tryz.prog 51 #[uW x,.pointer (O ⟨W,0,H⟩)] w (sw (tJ pn on p x e) w):=by
 obtain⟨q5,q6⟩:=lX ω;obtain⟨b,ν⟩:∃kk:V,x.pred=kk:=⟨x.pred.toNat,by omega⟩;obtain⟨m,F,P,Δ,Θ,t⟩:=ι.at_ (i:=b) ah;have ξ:=t 0 _ rfl;simp only[gJ,dB] at ξ;have q7:=J ξ;have q8:b<h.p.n:=by omega
 have q9:=ι.le;obtain⟨j0,j1⟩:=lX Γ;obtain⟨d,ο⟩:∃kk:V,x.obj=kk:=⟨x.obj.toNat,by omega⟩;obtain⟨o,Q,R,Ξ,Φ,u⟩:=κ.at_ (i:=d) ah;have π:=u 0 _ rfl;simp only[gJ,dB] at π;have j2:=J π;have j3:d<h.o.n:=by omega
 have j4:=κ.le;rw[show tJ pn on p x e=⟨8,[m,o]++e.map (nameOf p),0,[],x.first,0⟩ by simp[tJ,ν,mX Δ,ο,mX Ξ]];simp only[fu,aM,aV,dZ] at Z;have Ψ:=J ψ;have Ω:=J μ;have q0:=J Z;have j5:=Z.1;have j6:=μ.len;have q1:Hid (x.sn<=300):=J ah;have HH:=J hH;have z2:=hH.2.2;obtain⟨z3,z4,first,f,j,l⟩:=x;simp only at ν ο Ω q1;subst ν;subst ο;obtain⟨ht,A,⟨qo,no,co⟩,⟨qp,np,cp⟩,he,hd,hm,hw⟩:=h;simp only at Θ q8 q9 Φ j3 j4 HH Ψ q0;subst Θ;subst Φ;clear hH q5 q6 Δ t ι ω ξ j0 j1 Ξ u κ Γ π ψ μ Z j5 j6;go_enter func51,ntmps51;go_wp2_with fail;have γ:Bx ((w.alloc (N #[G C b,G C d,.bool first,I f j l] 60)).alloc (N #[G C 0,I H 0 0,G C 0,I H 0 0,.bool false,G C 0] 77)) W #[ht.v,A.v,I (O ⟨Q,R,H⟩) no co,I (O ⟨F,P,H⟩) np cp,he.v,hd.v,hm.v,hw.v]:=(HH.q.alloc _).alloc _;have δ:Bx ((w.alloc (N #[G C b,G C d,.bool first,I f j l] 60)).alloc (N #[G C 0,I H 0 0,G C 0,I H 0 0,.bool false,G C 0] 77)) w.1.size #[G C b,G C d,.bool first,I f j l]:=(Bx.new1 rfl).alloc _;have ε:Bx ((w.alloc (N #[G C b,G C d,.bool first,I f j l] 60)).alloc (N #[G C 0,I H 0 0,G C 0,I H 0 0,.bool false,G C 0] 77)) (w.1.size+1) #[G C 0,I H 0 0,G C 0,I H 0 0,.bool false,G C 0]:=Bx.new1 ak;have t:((w.alloc (N #[G C b,G C d,.bool first,I f j l] 60)).alloc (N #[G C 0,I H 0 0,G C 0,I H 0 0,.bool false,G C 0] 77)).cell? ⟨F,P+b,H⟩=O (.string ⟨m.toArray⟩):=bU _ (bU _ q7.q);have u:((w.alloc (N #[G C b,G C d,.bool first,I f j l] 60)).alloc (N #[G C 0,I H 0 0,G C 0,I H 0 0,.bool false,G C 0] 77)).cell? ⟨Q,R+d,H⟩=O (.string ⟨o.toArray⟩):=bU _ (bU _ j2.q);have ζ:Below w.1.size w ((w.alloc (N #[G C b,G C d,.bool first,I f j l] 60)).alloc (N #[G C 0,I H 0 0,G C 0,I H 0 0,.bool false,G C 0] 77)):=aA (aA (Below.refl _ _) _) _;have η:((w.alloc (N #[G C b,G C d,.bool first,I f j l] 60)).alloc (N #[G C 0,I H 0 0,G C 0,I H 0 0,.bool false,G C 0] 77)).1.size=w.1.size+2:=by simp
 revert γ δ ε t u ζ η;generalize((w.alloc (N #[G C b,G C d,.bool first,I f j l] 60)).alloc (N #[G C 0,I H 0 0,G C 0,I H 0 0,.bool false,G C 0] 77))=y;intro γ δ ε t u ζ η;have q2:=J η;clear η;have θ:=J ζ;have ρ:=J γ;have σ:=J δ;have j7:=J ε;have τ:=J t;have υ:=J u;clear γ δ ε ζ t u;refine aC 22 [(0,0),(1,0),(2,0),(3,0),(4,0),(5,0),(6,0),(7,0),(8,0),(9,0),(10,0),(11,0),(12,0),(13,0),(14,0),(15,0),(16,0),(17,0),(18,0),(19,2),(20,2),(21,0),(22,2)] (λ_=>True) (λq=>Bx q W #[ht.v,A.v,I (O ⟨Q,R,H⟩) no co,I (O ⟨F,P,H⟩) np cp,he.v,hd.v,hm.v,hw.v]/\Bx q w.1.size #[G C b,G C d,.bool first,I f j l]/\q.cell? ⟨F,P+b,H⟩=O (.string ⟨m.toArray⟩)/\q.cell? ⟨Q,R+d,H⟩=O (.string ⟨o.toArray⟩)) ay ay (trivial) (⟨ρ.q.drew,σ.q.drew,τ.q,υ.q⟩) ?_;refine qC ?_;refine aF rfl rfl (λK r=>?_);go_simp;refine r _ _ ⟨trivial,ρ.q.drew.alloc _,σ.q.drew.alloc _,bU _ τ.q,bU _ υ.q⟩ ?_;clear r K;refine aF rfl rfl (λK r=>?_);go_simp;refine(Hl ⟨ht,A,⟨O ⟨Q,R,H⟩,no,co⟩,⟨O ⟨F,P,H⟩,np,cp⟩,he,hd,hm,hw⟩ p f j l e (O ⟨y.1.size,0,H⟩) 2 [m,o] y.drew _ (aA (Below.refl y.drew.1.size y.drew) (N #[.string ⟨m.toArray⟩,.string ⟨o.toArray⟩] 9)) ((Ω.q.below θ.q rfl).drew) ((Ψ.q.below θ.q rfl).drew) q0.q.2 (Own.strs (X:=y.drew) rfl [m,o] (by simp[maxLen])) (by have:=q1.q;simp;omega)).mono ?_;rintro en w2 ⟨a',c',rfl,q3,z⟩;have q4:=J z;have j8:=J q3;have S:=j7.q.drew.keep z;have j9:=S.1;have z5:=S.2.1;have z6:=S.2.2;refine r _ _ ⟨trivial,ρ.q.drew.keep z,σ.q.drew.keep z,bq z rfl τ.q,bq z rfl υ.q⟩ ?_;have z7:=J S;clear r K z q3 S;refine qC ?_;refine aW rfl rfl rfl (λK r=>?_);go_simp;refine r _ _ trivial ?_;clear r K;refine aO ?_;have φ:Own w2 y.1.size 9 1 encStr (I a' (e.length+2) c') ([m,o]++e.map (nameOf p)):=by
  have h1:=j8.q;have h2:([m,o]++e.map (nameOf p)).length=e.length+2:=by simp
  rw[h2] at h1;exact h1
 have χ:Below w.1.size w w2:=θ.q.drew.trans (q4.q.mono θ.q.size);have z0:y.1.size<=w2.1.size:=q4.q.size;have z1:Hid (∀q,Same (λi=>i≠w.1.size+1) w2 q->sw ⟨8,[m,o]++e.map (nameOf p),0,[],first,0⟩ w (.returned (dU ⟨8,a',e.length+2,c',0,H,0,0,first,0⟩)) q):=J (λq A=>
  ⟨_,rfl,⟨⟨rfl,rfl,rfl,rfl,by simp,rfl⟩,(φ.same A (λg hg=>by have:=(φ.lt g hg).1;have:=q2.q;simp;omega)).mono (by have:=q2.q;omega),Own.jv _ _ _ _ _⟩,A.below χ (λi hi=>by simp;omega) χ.size⟩)
 clear φ χ z0;go_wp2_with fail;refine bodyPost_ret (v:=dU ⟨8,a',e.length+2,c',0,H,0,0,first,0⟩) (by simp[results,results51,go_sem,j9]) rfl (z1.q _ ?_)
 repeat(first|(refine Same.setTail ?_ ak)|(refine Same.l6 ?_)|(with_reducible exact Same.refl' _))
def nQ (b:Int):V->U Bs
 |0=>[]
 |j+1=>nQ b j++if b / 2 ^ j % 2=1 then [jZ j] else []
def mY (b:Int):U Bs:=nQ b 4
theorem Cm (b:Int):∀j,(nQ b j).length<=j
 |0=>aB _
 |j+1=>by
  have:=Cm b j;simp only[nQ,bO]
  split <;> simp <;> omega
theorem Cn {b:Int}{x:Bs}:∀{j:V},x∈nQ b j->∃i,x=jZ i
 |0,h=>by simp[nQ] at h
 |j+1,h=>by
  simp only[nQ,cu] at h;rcases h with h|h
  .exact Cn h
  .split at h
   .exact⟨j,by simpa using h⟩
   .cases h
def lG (s:aJ):U Bs:=
 let k:=s.kind.toNat
 let b:=(bY k).toNat
 let r:=dD k
 bF k::s.names.take b++
  ((if r=108 then [jQ s.lvl.toNat] else if r=118 then s.aN.take 1|>.map fU else if r=103 then mY s.bits else if r=109/\s.first=true then [[45]] else [])++
  if r=115 then(s.names.drop b).zip s.aN|>.flatMap (λp=>[p.1,fU p.2]) else s.names.drop b)
def lC (s:aJ):Bs:=Lib.join (lG s) [32]++[10]
theorem Row.takeN {f:Type}{enc:f->U Value}{o n c:V}{xs:U f}(d:Row w k enc (O ⟨b,o,H⟩) n c xs){m c':V}(g:m<=n)(hc:m<=c'):Row w k enc (O ⟨b,o,H⟩) m c' (xs.take m):=by
 refine⟨by rw[fB,d.len];omega,hc,bI g d.le,λd=>(by cases d),λi x e=>?_⟩;rw[uT] at e
 split at e
 .exact d.2.2.2.2 i x e
 .cases e
theorem Own.len {b:Type}{enc:b->U Value}{n c:V}{d:TypeId}{xs:U b}(f:Own w B d k enc (I a n c) xs):n=xs.length:=by
 obtain⟨g,i,e,_⟩:=f.shape;injection e
structure qR (w w1:World)(c0 c1:Array Value)(X:World)(a:Option Addr)(n c:V)(ws:U Bs):Prop where
 x:Bx X w.1.size c0
 y:Bx X w1.1.size c1
 o:Own X (w1.1.size+1) 9 1 encStr (I a n c) ws
 b:Below w.1.size w X
 s:w1.1.size+1<=X.1.size
variable{d:World}
theorem qR.snoc {i:World}{f l:Array Value}{o:Option Addr}{n c c':V}{j:U Bs}{s:Bs}(b:qR w d f l X a n c j)(p:w.1.size<d.1.size)
  (m:Own i (d.1.size+1) 9 1 encStr (I o (n+1) c') (j++[s])) (g:(X.alloc (N #[.string ⟨s.toArray⟩] 9)).grownBy i (Value.slice a n c).ownBlock):qR w d f l i o (n+1) c' (j++[s]):=
 ⟨(b.x.alloc _).grown g (λe=>by have:=(b.o.lt _ e).1;omega),(b.y.alloc _).grown g (λe=>by have:=(b.o.lt _ e).1;omega),m,
  below_app (b.b.alloc b.b.size _) (b.o.alloc _) ah (by have:=b.s;simp;omega) g,by have:=g.size;have:=b.s;simp at*;omega⟩
theorem qR.call {e g:World}{f i:Array Value}{n c:V}{j:U Bs}(b:qR w e f i X a n c j)(d:Below X.1.size X g):qR w e f i g a n c j:=
 ⟨b.x.keep d,b.y.keep d,b.o.below d rfl,b.b.trans (d.mono b.b.size),bI b.s d.size⟩
theorem CZ (d:U Bs)(e:∀x∈d,x.length<=40):(Lib.join d [32]).length<=41*d.length:=by
 show([32].intercalate d:Bs).length<=_
 induction d with
 |nil=>simp
 |cons a l f=>
  have i:=e a fQ;have j:=f (λx g=>e x (d9 _ g))
  cases l with
  |nil=>simp;omega
  |cons b r=>
   rw[List.intercalate_cons_cons];simp only[bO,dK,gY] at*;omega
theorem Rv (a:Option Addr)(n c:V)(d:U Bs)(w:World)(f:Row w 1 encStr a n c d)(p:0<n)(q:∀x∈d,x.length<=40)(F:n<=100000):
  Calls Tryz.prog 61 #[I a n c,.string ⟨#[32]⟩] w (cO (.string ⟨(Lib.join d [32]).toArray⟩) w):=by
 obtain⟨_,b,o,_,rfl,r⟩:=f.at_ p;have t:=f.len;subst t;have l:(d.map (λs=>(⟨s.toArray⟩:ByteArray))).map (·.data.toList)=d:=by
  rw[iF]
  conv=>rhs;rw[<-List.map_id d]
  exact lN (λx _=>rfl)
 have K:=CZ d q;have u:b<w.1.size:=by
  have:=r 0 _ rfl;exact dQ this
 have:=Tryz.strings_Join b o c (d.map (λs=>(⟨s.toArray⟩:ByteArray))) ⟨#[32]⟩ w (λj x e=>by
  rw[nS] at e
  cases g:d[j]? with
  |none=>rw[g] at e;cases e
  |some y=>
   rw[g] at e;simp only[Option.map_some,Option.some.injEq] at e;subst e;obtain⟨_,P,Q,m,z,A⟩:=f.at_ (i:=j) (bK.1 g).1
   cases z
   rw[g] at m;cases m;have:=A 0 _ rfl
   rwa[gJ,dB] at this) u (by rw[bg];omega) (by rw[bg];exact f.cap) (by rw[l];show(Lib.join d [32]).length<=_;omega)
 rw[l,bg] at this;exact this
theorem I5 {t:To}(b:jK t):(fU t).length<=40:=by
 unfold fU;rcases b with rfl|⟨d,e,f⟩
 .decide
 .rw[au ah]
  have:=sS d;have:=CY 3 t.k.toNat ah;simp;omega
theorem Pn {t:To}(b:jK t):0<=t.k/\t.k<=999/\t.name.length<=100000:=by
 rcases b with rfl|⟨d,f,e⟩
 .decide
 .have:=sS d
  exact⟨by omega,e,by omega⟩
theorem Po (i:V):(jQ i).length<=40:=by unfold jQ;split <;> decide
theorem Rw (i:V):(bF i).length<=40:=by unfold bF;split <;> decide
theorem Pp (i:V):(jZ i).length<=40:=by unfold jZ;split <;> decide
theorem FZ (s:aJ)(f:∀x∈s.names,bG ⟨x.toArray⟩=true)(e:∀t∈s.aN,jK t):∀x∈lG s,x.length<=40:=by
 have d:∀x∈s.names,x.length<=40:=λx b=>by have:=sS (f x b);omega
 intro x b;simp only[lG,fA,dO,cu] at b;rcases b with rfl|b|b|b
 .exact Rw _
 .exact d x (vT b)
 .split at b
  .simp only[bX] at b;subst b;exact Po _
  .split at b
   .obtain⟨t,g,rfl⟩:=bS.1 b
    exact I5 (e t (vT g))
   .split at b
    .obtain⟨i,rfl⟩:=Cn b
     exact Pp _
    .split at b
     .simp only[bX] at b;subst b;decide
     .cases b
 .split at b
  .obtain⟨p,j,b⟩:=kH.1 b
   obtain⟨l,m⟩:=BF j;simp only[dO,BN,or_false] at b;rcases b with rfl|rfl
   .exact d _ (wh l)
   .exact I5 (e _ m)
  .exact d x (wh b)
theorem Rx (W:World):(Instr.index 131 (.agg #[.string ⟨#[114,121,119]⟩,.string ⟨#[109,114]⟩,.string ⟨#[109,119]⟩,.string ⟨#[119,102,114]⟩]) (G C 0)).run Tryz.prog W= .ok (.string ⟨#[114,121,119]⟩) W:=ay
theorem Ry (W:World):(Instr.index 131 (.agg #[.string ⟨#[114,121,119]⟩,.string ⟨#[109,114]⟩,.string ⟨#[109,119]⟩,.string ⟨#[119,102,114]⟩]) (G C 1)).run Tryz.prog W= .ok (.string ⟨#[109,114]⟩) W:=ay
theorem Rz (W:World):(Instr.index 131 (.agg #[.string ⟨#[114,121,119]⟩,.string ⟨#[109,114]⟩,.string ⟨#[109,119]⟩,.string ⟨#[119,102,114]⟩]) (G C 2)).run Tryz.prog W= .ok (.string ⟨#[109,119]⟩) W:=ay
theorem RA (W:World):(Instr.index 131 (.agg #[.string ⟨#[114,121,119]⟩,.string ⟨#[109,114]⟩,.string ⟨#[109,119]⟩,.string ⟨#[119,102,114]⟩]) (G C 3)).run Tryz.prog W= .ok (.string ⟨#[119,102,114]⟩) W:=ay
theorem RB:∀b:Fin 16,∀j:Fin 4,(Go.bits .and C ((b.val:Int) / 2 ^ j.val) 1==1)=decide ((b.val:Int) / 2 ^ j.val % 2=1):=by decide
theorem RD (b j:V)(e:b<=15)(d:j<4):(Go.bits .and C ((b:Int) / 2 ^ j) 1==1)=decide ((b:Int) / 2 ^ j % 2=1):=RB ⟨b,by omega⟩ ⟨j,d⟩
abbrev Er:=Bs × Int
def iC (c:UInt8):Bool:=c==32||c==9
def bL (l:Bs):Bs:=l.dropWhile iC
def dR (l:Bs):Bool:=l.head?==H||l.head?==O 10||l.head?==O 35
def dM (l:Bs):Except Er (Bool × Bs):=
 if dR (bL l)=true then .ok (false,bL l) else if(bL l).length=l.length then .error (bL l,220) else .ok (true,bL l)
def eD (l:Bs):Except Er Bs:=
 match dM l with
 | .error x=> .error x
 | .ok (true,r)=> .ok r
 | .ok (false,r)=> .error (r,220)
def nD (c:UInt8):Bool:=(c==46||c==95)||(decide (48<=c) && decide (c<=57))||(decide (97<=c) && decide (c<=122))||(decide (65<=c) && decide (c<=90))
def fw (l:Bs):Bs:=l.takeWhile nD
def mG (l:Bs):Bs:=match(l.drop (fw l).length).head? with
 |some c=>if 128<=c then fw l++[128] else fw l
 |none=>fw l
def jl:Bs->Bs->V
 |a::x,b::y=>if a=b then jl x y+1 else 0
 |_,_=>0
def uw (b:U Bs)(t:Bs):V:=b.foldl (λm s=>max m (jl s t)) 0
def fo (b:U Bs)(l:Bs):Except Er (V × Bs):=
 match b.findIdx? (λs=>s==mG l) with
 |some i=> .ok (i,l.drop (fw l).length)
 |none=> .error (l.drop (uw b (fw l)),220)
def dW (l:Bs):V:=gK ⟨l.toArray⟩ jo
def dH (l:Bs):Bool:=!l.isEmpty && (okB ⟨l.toArray⟩ 0 && jV (Utf8.decode ⟨l.toArray⟩ 0).1)
def ru (l:Bs):V:=(((cK ⟨l.toArray⟩ l.length 0).filter (λi=>decide (i<=24))).getLast?).getD 0
def dF (l:Bs):Except Er (Bs × Bs):=
 if(dR l||!dH l)=true then .error (l,220)
 else if 24<dW l then .error (l.drop (ru (l.take (dW l))),220)
 else .ok (l.take (dW l),l.drop (dW l))
def iO (c:UInt8):Bool:=decide (48<=c) && decide (c<=57)
def oz (l:Bs):V:=l.foldl (λn c=>n*10+(c.toNat - 48)) 0
def sH (b:Bs)(l:Bs):Except Er (To × Bs):=
 let ds:=l.takeWhile iO
 if ds.head?=H\/ds.head?=O 48 then .error (l,220)
 else if 999<oz ds then .error (l,3)
 else .ok (⟨b,oz ds⟩,l.drop ds.length)
def gG (l:Bs):Except Er (To × Bs):=
 if l.head?=O 45 then .ok (⟨[],0⟩,l.tail)
 else match dF l with
  | .error x=> .error x
  | .ok (b,r)=>if r.head?=O 46 then sH b r.tail else .error (r,220)
def jk:V->U Bs->Bs->Except Er (U Bs × Bs)
 |0,b,l=> .ok (b,l)
 |k+1,b,l=>
  match eD l with
  | .error x=> .error x
  | .ok r=>match dF r with
   | .error x=> .error x
   | .ok (d,e)=>jk k (b++[d]) e
def jR:U Bs:=[jZ 0,jZ 1,jZ 2,jZ 3]
def mF:U Bs:=[jQ 1,jQ 2,jQ 3,jQ 4]
def lM:U Bs:=[bF 1,bF 2,bF 3,bF 4,bF 5,bF 6,bF 7,bF 8,bF 9]
def iW:V->V->Int->Bs->Except Er (Int × Bs)
 |0,_,b,l=> .ok (b,l)
 |f+1,k,b,l=>
  match dM l with
  | .error x=> .error x
  | .ok (false,r)=> .ok (b,r)
  | .ok (true,r)=>match fo (jR.drop k) r with
   | .error x=> .error x
   | .ok (i,d)=>iW f (k+i+1) (b+2 ^ (k+i)) d
def bN (e:Bool)(g:V):V->V->U Bs->U To->Bs->Except Er ((U Bs × U To) × Bs)
 |0,_,b,d,l=> .ok ((b,d),l)
 |f+1,i,b,d,l=>
  match dM l with
  | .error x=> .error x
  | .ok (false,r)=> .ok ((b,d),r)
  | .ok (true,r)=>
   if i=g/\dH r=true then .error (r,3)
   else match dF r with
    | .error x=> .error x
    | .ok (j,m)=>
     if e=true then match eD m with
      | .error x=> .error x
      | .ok o=>match gG o with
       | .error x=> .error x
       | .ok (v,p)=>bN e g f (i+1) (b++[j]) (d++[v]) p
     else bN e g f (i+1) (b++[j]) d m
def jJ (l:Bs):Except Er (Bool × Bs):=
 match dM l with
 | .error x=> .error x
 | .ok (true,r)=>if r.head?=O 45 then .ok (true,r.tail) else .ok (false,l)
 | .ok (false,_)=> .ok (false,l)
def jE (k:V)(ns:U Bs)(l:Bs):Except Er (aJ × Bs):=
 if k=1 then match eD l with
  | .error x=> .error x
  | .ok r=>match fo mF r with
   | .error x=> .error x
   | .ok (i,d)=> .ok (⟨k,ns,1+i,[],false,0⟩,d)
 else if k=3 then match eD l with
  | .error x=> .error x
  | .ok r=>match gG r with
   | .error x=> .error x
   | .ok (v,d)=> .ok (⟨k,ns,0,[v],false,0⟩,d)
 else if k=9 then match iW 5 0 0 l with
  | .error x=> .error x
  | .ok (b,r)=> .ok (⟨k,ns,0,[],false,b⟩,r)
 else if k=8 then match jJ l with
  | .error x=> .error x
  | .ok (f,r)=>match bN false 300 301 0 ns [] r with
   | .error x=> .error x
   | .ok ((e,g),d)=> .ok (⟨k,e,0,g,f,0⟩,d)
 else if k=4 then match bN true 40 41 0 ns [] l with
   | .error x=> .error x
   | .ok ((e,g),d)=> .ok (⟨k,e,0,g,false,0⟩,d)
 else if k=7 then match bN false 300 301 0 ns [] l with
   | .error x=> .error x
   | .ok ((e,g),d)=> .ok (⟨k,e,0,g,false,0⟩,d)
 else .ok (⟨k,ns,0,[],false,0⟩,l)
def iX (l:Bs):Except Er (aJ × Bs):=
 if dR (bL l)=true then .ok (⟨0,[],0,[],false,0⟩,bL l)
 else match fo lM (bL l) with
  | .error x=> .error x
  | .ok (i,r)=>match jk (bY (i+1)).toNat [] r with
   | .error x=> .error x
   | .ok (d,e)=>match jE (i+1) d e with
    | .error x=> .error x
    | .ok (s,f)=>match dM f with
     | .error x=> .error x
     | .ok (true,b)=> .error (b,220)
     | .ok (false,b)=> .ok (s,b)
def CQ (r:Int):Bool:=decide (32<=r)||r==9
def jF (l:Bs):Bs:=if l.head?=O 35 then l.drop (gK ⟨l.toArray⟩ CQ) else l
def oH (l:Bs):Except Er (aJ × Bs):=
 match iX l with
 | .error x=> .error x
 | .ok (s,r)=>
  if(jF r).head?=H then .ok (s,[]) else if(jF r).head?=O 10 then .ok (s,(jF r).tail) else .error (jF r,220)
@[reducible] def qj (s:Bs)(p:V)(c:bH):Array Value:=#[.string ⟨s.toArray⟩,G C p,G C c.kind,I c.na c.nn c.nc,G C c.lvl,I c.va c.vn c.vc,.bool c.first,G C c.bits]
structure eT (w:World)(R:V)(s:Bs)(p:V)(l:Bs)(c:bH)(n:aJ):Prop where
 x:Bx w R (qj s p c)
 n:fV w (R+1) c n
 d:s.drop p=l
 le:p<=s.length
 lim:s.length<=1000000
def mW (R:V)(c:bH)(i:V):Prop:=i≠R/\(Value.slice c.na c.nn c.nc).ownBlock≠O i/\(Value.slice c.va c.vn c.vc).ownBlock≠O i
structure Mv (R:V)(c c':bH)(w w':World):Prop where
 same:Same (mW R c) w w'
 na:∀g,(Value.slice c'.na c'.nn c'.nc).ownBlock=O g->(Value.slice c.na c.nn c.nc).ownBlock=O g\/w.1.size<=g
 va:∀g,(Value.slice c'.va c'.vn c'.vc).ownBlock=O g->(Value.slice c.va c.vn c.vc).ownBlock=O g\/w.1.size<=g
theorem Mv.refl (R:V)(c:bH)(w:World):Mv R c c w w:=⟨Same.refl' _,λ_ h=> .inl h,λ_ h=> .inl h⟩
theorem Mv.of_below {c:bH}(b:Below w.1.size w d):Mv R c c w d:=⟨Same.of_below b (λ_ _ b=>b),λ_ b=> .inl b,λ_ b=> .inl b⟩
variable{c':bH}
theorem Mv.ZA {c:bH}{f:World}(d:Mv R c c' w f)(b:mW R c i)(g:i<w.1.size):mW R c' i:=
 ⟨b.1,λe=>(d.na i e).elim b.2.1 (λk=>by omega),λe=>(d.va i e).elim b.2.2 (λk=>by omega)⟩
theorem Mv.jB {c:bH}{e f:World}(b:Mv R c c' w e)(k:Same (mW R c') e f):Same (mW R c) w f:=
 ⟨k.os.trans b.same.os,k.tape.trans b.same.tape,k.output.trans b.same.output,bI b.same.size k.size,λi g d=>(k.block i (b.ZA g d) (bP d b.same.size)).trans (b.same.block i g d)⟩
theorem Mv.trans {c e:bH}{i j:World}(d:Mv R c c' w i)(k:Mv R c' e i j):Mv R c e w j:=
 ⟨d.jB k.same,λg f=>(k.na g f).elim (λb=>d.na g b) (λb=> .inr (bI d.same.size b)),λg f=>(k.va g f).elim (λb=>d.va g b) (λb=> .inr (bI d.same.size b))⟩
theorem Mv.bx {c:bH}(e:Mv R c c' w d)(f:Bx w b cs)(g:mW R c b):Bx d b cs:=e.same.bx f g
variable{p:V}{l:Bs}
theorem eT.new {s:Bs}{c:bH}{n:aJ}(b:eT w R s p l c n)(d:w.1.size<=i):mW R c i:=
 ⟨by have:=b.x.2.2;omega,b.n.2.1.far' (.inr d),b.n.2.2.far' (.inr d)⟩
theorem eT.old {s:Bs}{c:bH}{n:aJ}(b:eT w R s p l c n)(d:i<R):mW R c i:=
 ⟨by omega,b.n.2.1.far' (.inl ah),b.n.2.2.far' (.inl ah)⟩
theorem eT.below {s:Bs}{c:bH}{n:aJ}(b:eT w R s p l c n)(e:Below w.1.size w d):eT d R s p l c n:=
 ⟨b.x.keep e,b.n.below e,b.d,b.le,b.lim⟩
theorem eT.len {s:Bs}{c:bH}{n:aJ}(b:eT w R s p l c n):p+l.length=s.length:=by
 have:=b.le;rw[<-b.d,gI];omega
theorem eT.go {s:Bs}{c:bH}{n:aJ}(b:eT w R s p l c n)(k:V)(j:k<=l.length):
  eT (w.setCell ⟨R,1,H⟩ (G C ((p+k:V):Int))) R s (p+k) (l.drop k) c n/\Mv R c c w (w.setCell ⟨R,1,H⟩ (G C ((p+k:V):Int))):=by
 have f:=b.x.bB 1 ak (G C ((p+k:V):Int));have i:Same (mW R c) w (w.setCell ⟨R,1,H⟩ (G C ((p+k:V):Int))):=Same.setCell _ _ _ _ (λe=>e.1 rfl);refine⟨⟨f,⟨b.n.1,b.n.2.1.block λg d=>?_,b.n.2.2.block λg d=>?_⟩,?_,?_,b.lim⟩,i,λ_ b=> .inl b,λ_ b=> .inl b⟩
 .exact Below.heap_setCell _ _ _ _ (by have:=(b.n.2.1.lt g d).1;simp;omega)
 .exact Below.heap_setCell _ _ _ _ (by have:=(b.n.2.2.lt g d).1;simp;omega)
 .rw[<-b.d,uS]
 .have:=b.len;omega
theorem gN (l:Bs):ByteArray.size ⟨l.toArray⟩=l.length:=by simp[ByteArray.size]
theorem C8 (s:Bs)(p:V):(⟨s.toArray⟩:ByteArray).extract p s.length=⟨(s.drop p).toArray⟩:=by
 apply ByteArray.ext
 rw[ByteArray.data_extract]
 apply Array.ext'
 simp[gF]
theorem ow (s:Bs)(p:V):(⟨s.toArray⟩:ByteArray).extract 0 p=⟨(s.take p).toArray⟩:=by
 apply ByteArray.ext
 rw[ByteArray.data_extract]
 apply Array.ext'
 simp
theorem pW (l:Bs)(p:V):Utf8.decode ⟨l.toArray⟩ p=Utf8.decode ⟨(l.drop p).toArray⟩ 0:=by
 rw[<-C8];have:=Lib.tail_decode ⟨l.toArray⟩ p 0;rw[gN] at this;rw[this,dB]
theorem I6 (l:Bs)(p:V):okB ⟨l.toArray⟩ p=okB ⟨(l.drop p).toArray⟩ 0:=by unfold okB;rw[pW]
theorem nU (b:UInt8)(t:Bs)(d:b.toNat<128):Utf8.decode ⟨(b::t).toArray⟩ 0=(b.toNat,1):=decode_ascii ⟨(b::t).toArray⟩ 0 (by rw[gN];simp) d
theorem vw (b:UInt8)(t:Bs)(d:128<=b.toNat):128<=(Utf8.decode ⟨(b::t).toArray⟩ 0).1/\1<=(Utf8.decode ⟨(b::t).toArray⟩ 0).2:=decode_high ⟨(b::t).toArray⟩ 0 (by rw[gN];simp) d
theorem vV (l:Bs)(e:l≠[]):1<=(Utf8.decode ⟨l.toArray⟩ 0).2:=by
 cases l with
 |nil=>exact absurd rfl e
 |cons b t=>
  rcases iM b.toNat 128 with d|d
  .rw[nU b t d];exact aB _
  .exact(vw b t d).2
theorem Gx (b:UInt8)(t:Bs)(d:b.toNat<128):okB ⟨(b::t).toArray⟩ 0=true:=by
 unfold okB;rw[nU b t d];rw[show((b.toNat:Int)==65533)=false from aX.2 ah];rfl
theorem yB (l:Bs)(d:V):∀(n p:V),cK ⟨l.toArray⟩ n (d+p)=(cK ⟨(l.drop d).toArray⟩ n p).map (d+ ·)
 |0,_=>rfl
 |n+1,p=>by
  simp only[cK,gN,gI];have e:Utf8.decode ⟨l.toArray⟩ (d+p)=Utf8.decode ⟨(l.drop d).toArray⟩ p:=by
   rw[pW l (d+p),pW (l.drop d) p,uS]
  by_cases h:d+p<l.length
  .rw[av h,av ah,e,Nat.add_assoc,yB l d n];rfl
  .rw[au h,au ah];rfl
theorem wV (s:ByteArray):∀(n m p:V),s.size<=p+n->s.size<=p+m->cK s n p=cK s m p
 |0,m,p,b,_=>by cases m <;> simp only[cK];rw[au ah]
 |n+1,0,p,_,d=>by simp only[cK];rw[au ah]
 |n+1,m+1,p,b,d=>by
  simp only[cK];by_cases h:p<s.size
  .rw[av h,av h]
   have:=width_pos s p h;rw[wV s n m _ ah ah]
  .rw[au h,au h]
theorem vz (l:Bs)(e:l≠[]):(Utf8.decode ⟨l.toArray⟩ 0).2<=l.length:=by
 have d:1<=l.length:=by
  cases l with
  |nil=>exact absurd rfl e
  |cons b t=>simp
 unfold Utf8.decode;simp only[gN]
 split
 .exact d
 split
 .rename_i g
  simp only[aM,aV] at g
  split
  .show 2<=_;omega
  .exact d
 split
 .rename_i g
  simp only[aM,aV] at g
  split
  .show 3<=_;omega
  .exact d
 split
 .rename_i g
  simp only[aM,aV] at g
  split
  .show 4<=_;omega
  .exact d
 .exact d
theorem MN (l:Bs)(p:Int->Bool)(d q:V):qF ⟨l.toArray⟩ p (d+q)=qF ⟨(l.drop d).toArray⟩ p q:=by
 unfold qF;rw[I6 l (d+q),I6 (l.drop d) q,pW l (d+q),pW (l.drop d) q,uS]
theorem iH (l:Bs)(p:Int->Bool)(f:l≠[]):gK ⟨l.toArray⟩ p=
  if(okB ⟨l.toArray⟩ 0 && p ((Utf8.decode ⟨l.toArray⟩ 0).1:Int))=true then(Utf8.decode ⟨l.toArray⟩ 0).2+gK ⟨(l.drop (Utf8.decode ⟨l.toArray⟩ 0).2).toArray⟩ p else 0:=by
 obtain⟨d,g⟩:∃d,d=(Utf8.decode ⟨l.toArray⟩ 0).2:=⟨_,rfl⟩;have i:=vV l f;rw[<-g] at i ⊢;obtain⟨n,j⟩:∃n,l.length=n+1:=⟨l.length - 1,by have:l.length≠0:=λe=>f (vU e);omega⟩;have m:cK ⟨l.toArray⟩ l.length 0=0::(cK ⟨(l.drop d).toArray⟩ (l.drop d).length 0).map (d+ ·):=by
  rw[j];simp only[cK,gN];rw[av ah,<-g,bD,<-dB d,yB,dB,wV ⟨(l.drop d).toArray⟩ n (l.drop d).length 0 (by rw[gN,gI];omega) (by rw[gN];omega)]
 unfold gK;rw[gN,gN,m];simp only[List.find?_cons,List.find?_map];unfold qF
 cases r:(okB ⟨l.toArray⟩ 0 && p ((Utf8.decode ⟨l.toArray⟩ 0).1:Int))
 .simp
 .simp only[Bool.not_true,bR]
  have e:((λb=>!(okB ⟨l.toArray⟩ b && p ((Utf8.decode ⟨l.toArray⟩ b).1:Int)))∘λx=>d+x)=qF ⟨(l.drop d).toArray⟩ p:=by
   funext q
   exact MN l p d q
  have o:(λb=>!(okB ⟨(l.drop d).toArray⟩ b && p ((Utf8.decode ⟨(l.drop d).toArray⟩ b).1:Int)))=qF ⟨(l.drop d).toArray⟩ p:=rfl;rw[e,o]
  cases t:List.find? (qF ⟨(l.drop d).toArray⟩ p) (cK ⟨(l.drop d).toArray⟩ (l.drop d).length 0) with
  |none=>
   simp only[Option.map_none,Option.getD_none];have u:d<=l.length:=by rw[g];exact vz l f
   rw[gI];omega
  |some q=>simp
theorem A9 (p:Int->Bool)(q:UInt8->Bool)(e:∀b:UInt8,b.toNat<128->p (b.toNat:Int)=q b)(f:∀r:V,128<=r->p (r:Int)=false)(g:∀b:UInt8,128<=b.toNat->q b=false):
  ∀l:Bs,gK ⟨l.toArray⟩ p=(l.takeWhile q).length
 |[]=>rfl
 |b::t=>by
  rw[iH (b::t) p ak];rcases iM b.toNat 128 with d|d
  .rw[nU b t d,Gx b t d,qZ,e b d]
   cases i:q b
   .rw[lV,i];rfl
   .rw[av rfl,lV,i,av rfl]
    show 1+gK ⟨t.toArray⟩ p=_;rw[A9 p q e f g t,dK];omega
  .rw[f _ (vw b t d).1,Bool.and_false,lV,g b d];rfl
theorem Ab (p:V->Bool)(q:UInt8->Bool)(i:∀b:UInt8,b.toNat<128->p b.toNat=q b)(j:∀r:V,128<=r->p r=false)(m:∀b:UInt8,128<=b.toNat->q b=false)(l:Bs):
  ∀f pos:V,l.length<=pos+f->pos<=l.length->Lib.idxFuncFrom p false ⟨l.toArray⟩ f pos=if pos+((l.drop pos).takeWhile q).length<l.length then((pos+((l.drop pos).takeWhile q).length:V):Int) else -1
 |0,pos,x,y=>by
  have e:pos=l.length:=by omega
  subst e;rw[au ah];rfl
 |f+1,pos,x,y=>by
  unfold Lib.idxFuncFrom;rw[gN];by_cases d:pos<l.length
  .rw[av d]
   obtain⟨b,t,o⟩:∃b t,l.drop pos=b::t:=⟨_,_,lW d⟩;rw[pW l pos,o];rcases iM b.toNat 128 with g|g
   .rw[nU b t g]
    simp only[i b g]
    cases u:q b
    .rw[av rfl,lV,u]
     simp only[yV,fG,gY,dB];rw[av d]
    .rw[au ak,Ab p q i j m l f (pos+1) ah ah]
     have z:l.drop (pos+1)=t:=by rw[<-uS,o];rfl
     rw[z,lV,u,av rfl,dK,show pos+1+(t.takeWhile q).length=pos+((t.takeWhile q).length+1) by omega]
   .rw[av (j _ (vw b t g).1),lV,m b g]
    simp only[yV,fG,gY,dB];rw[av d]
  .rw[au d,au ah]
theorem rA {d:Type}(q:d->Bool)(l:U d):l.drop (l.takeWhile q).length=l.dropWhile q:=by
 induction l with
 |nil=>rfl
 |cons b t e=>
  rw[lV,zA]
  cases q b
  .rfl
  .simpa using e
theorem nN {b:Type}(q:b->Bool)(l:U b):(l.takeWhile q).length+(l.dropWhile q).length=l.length:=by
 rw[<-bO,List.takeWhile_append_dropWhile]
theorem MO (p:V->Bool)(q:UInt8->Bool)(e:∀b:UInt8,b.toNat<128->p b.toNat=q b)(f:∀r:V,128<=r->p r=false)(g:∀b:UInt8,128<=b.toNat->q b=false)(l:Bs):
  Lib.trimLeftF p ⟨l.toArray⟩=⟨(l.dropWhile q).toArray⟩:=by
 have i:=nN q l;unfold Lib.trimLeftF Lib.idxFunc;rw[gN,Ab p q e f g l l.length 0 ah ah];simp only[List.drop_zero,bD];by_cases d:(l.takeWhile q).length<l.length
 .rw[av d,au ah,jL,C8,rA]
 .rw[au d,av rfl,vU (l:=l.dropWhile q) ah]
def vD (r:Int):Bool:=r==32||r==9
theorem AB (b:UInt8):vD (b.toNat:Int)=iC b:=by
 have d:∀n:V,(((b.toNat:Int)==(n:Int))=decide (b.toNat=n)):=λn=>by
  by_cases h:b.toNat=n
  .simp[h]
  .rw[aX.2 ah];simp[h]
 have f:∀c:UInt8,(b==c)=decide (b.toNat=c.toNat):=λc=>by
  by_cases h:b=c
  .simp[h]
  .rw[aX.2 h,bE (λe=>h (iV.1 e))]
 unfold vD iC;rw[f 32,f 9,show(32:Int)=((32:V):Int) from rfl,show(9:Int)=((9:V):Int) from rfl,d,d];rfl
theorem I7 (r:V)(b:128<=r):vD (r:Int)=false:=by
 unfold vD;rw[aX.2 ah,aX.2 ah];rfl
theorem Pq (b:UInt8)(d:128<=b.toNat):iC b=false:=by rw[<-AB];exact I7 _ d
theorem RF (l:Bs):gK ⟨l.toArray⟩ vD=(l.takeWhile iC).length:=A9 vD iC (λb _=>AB b) I7 Pq l
theorem UU (l:Bs):Lib.trimLeftF (λr=>vD (r:Int)) ⟨l.toArray⟩=⟨(bL l).toArray⟩:=MO _ iC (λb _=>AB b) I7 Pq l
theorem FX (l:Bs):(bL l).length<=l.length:=by have:=nN iC l;unfold bL;omega
theorem Ed (l:Bs):l.drop (l.length - (bL l).length)=bL l:=by
 have:=nN iC l;unfold bL at*;rw[show l.length - (l.dropWhile iC).length=(l.takeWhile iC).length by omega,rA]
theorem UW (l:Bs)(i:V)(b:UInt8)(d:l[i]?=O b):∃e:i<ByteArray.size ⟨l.toArray⟩,(⟨l.toArray⟩:ByteArray)[i]'e=b:=by
 obtain⟨f,g⟩:=bK.1 d;exact⟨by rw[gN];exact f,by rw[<-g];rfl⟩
variable{P:Program}{t:TypeId}
theorem jA (d:P.underlying t=O .string)(l:Bs)(i:V)(b:UInt8)(e:l[i]?=O b)(W:World):(Instr.index t (.string ⟨l.toArray⟩) (G C (i:Int))).run P W= .ok (.int .u8 (b.toNat:Int)) W:=by
 obtain⟨g,f⟩:=UW l i b e;rw[run_index_string W t _ C i d,dif_pos ⟨by omega,by omega⟩];simp only[jL,f]
theorem nk (b:P.underlying t=O .string)(l:Bs)(i:V)(d:i<=l.length)(W:World):(Instr.slice t (.string ⟨l.toArray⟩) (O (G C (i:Int))) H H).run P W= .ok (.string ⟨(l.drop i).toArray⟩) W:=by
 rw[run_slice_string_l W t _ b C i ah (by rw[gN];omega),jL,gN,C8]
theorem wz (b:P.underlying t=O .string)(l:Bs)(i:V)(d:i<=l.length)(W:World):(Instr.slice t (.string ⟨l.toArray⟩) H (O (G C (i:Int))) H).run P W= .ok (.string ⟨(l.take i).toArray⟩) W:=by
 rw[run_slice_string_h W t _ b C i ah (by rw[gN];omega),jL,ow]
theorem MP (b c:UInt8):(b==c)=((b.toNat:Int)==(c.toNat:Int)):=by
 by_cases h:b=c
 .simp[h]
 .rw[aX.2 h,aX.2 (λe=>h (iV.1 ah))]
theorem jg (b:UInt8)(t:Bs):dR (b::t)=(((b.toNat:Int)==10)||((b.toNat:Int)==35)):=by
 unfold dR;simp only[qG];rw[show((O b==H):Bool)=false from rfl,Bool.false_or];show((b==10)||(b==35))=_;rw[MP b 10,MP b 35];rfl
def nu (p:V)(m:Int):U PanicEntry:=[⟨.iface 209 (.agg #[G C p,G C m]),false,false⟩]
theorem lH (p:V)(m:Int)(w:World):Calls Tryz.prog 148 #[G C p,G C m] w λe b=>e= .panicked (nu p m)/\b=w:=by
 go_enter func148,ntmps148
 go_wp2
 exact⟨rfl,rfl,rfl⟩
theorem RG (r:Int)(w:World):Calls Tryz.prog 160 #[.int .i32 r] w λe b=>e= .returned (.bool (vD r))/\∃q,b=w.drewN q:=by
 unfold vD
 cases d:r==32 <;> cases f:r==9
 all_goals
  go_enter func160,ntmps160
  go_wp2
  go_ret;exact⟨rfl,0,rfl⟩
theorem MQ:∀args w,(callFunc 160 args).run Tryz.prog w= .ok (.enter 160 args) w:=enters_of func160 ay rfl
theorem KV (l:Bs)(w:World):Calls Tryz.prog 159 #[.string ⟨l.toArray⟩,.func (.func 160) #[] #[]] w (cO (.string ⟨(bL l).toArray⟩) w):=by
 have:=Tryz.strings_TrimLeftFunc 160 #[] MQ (λr=>vD (r:Int)) ⟨l.toArray⟩ w (λW r _=>by unfold FnGives;exact RG (r:Int) W);rw[UU] at this;exact this
theorem eT.c0 {s:Bs}{c:bH}{n:aJ}(b:eT w R s p l c n):w.cell? ⟨R,0,H⟩=O (.string ⟨s.toArray⟩):=b.x.1 0
theorem eT.c1 {s:Bs}{c:bH}{n:aJ}(b:eT w R s p l c n):w.cell? ⟨R,1,H⟩=O (G C p):=b.x.1 1
variable{t:Bs}
theorem eT.at_ {s:Bs}{b:UInt8}{c:bH}{n:aJ}(d:eT w R s p (b::t) c n):s[p]?=O b:=by
 have:=bJ (λl=>l[0]?) d.d
 simpa using this
theorem Bw {s:Bs}{c:bH}{n:aJ}(w:World)(d:eT w R s p l c n):Calls Tryz.prog 161 #[.pointer (O ⟨R,0,H⟩)] w (cO (.bool (dR l)) w):=by
 have o:=d.c0;have q:=d.c1;have e:=d.len;have r:=d.lim
 cases g:l with
 |nil=>
  obtain rfl:p=s.length:=by rw[g] at e;simpa using e
  have i:=gN s;clear d e;go_enter func161,ntmps161
  go_wp2_with (go_quiet (fail))
  go_ret;exact⟨rfl,gu (Below.refl _ _) _⟩
 |cons b t=>
  subst g;have u:=λW=>jA Tryz.underlying9 s p b d.at_ W
  have x:p<s.length:=by simp at e;omega
  have i:=gN s;have y:((p:Int)==(s.length:Int))=false:=aX.2 ah;clear d e;by_cases j:b.toNat=10
  .have f:((b.toNat:Int)==10)=true:=by simp[j]
   go_enter func161,ntmps161
   go_wp2_with (go_quiet (fail))
   go_ret;exact⟨by rw[jg,f];rfl,gu (Below.refl _ _) _⟩
  .have f:((b.toNat:Int)==10)=false:=aX.2 ah
   cases m:((b.toNat:Int)==35)
   all_goals
    go_enter func161,ntmps161
    go_wp2_with (go_quiet (fail))
    go_ret;exact⟨by rw[jg,f,m];rfl,gu (Below.refl _ _) _⟩
def dP {d:Type}(R:V)(s:Bs)(c:bH)(w:World)(val:d->Value)(x:Except Er (d × aJ × Bs))(e:Ending)(b:World):Prop:=
 match x with
 | .error (r,m)=>e= .panicked (nu (s.length - r.length) m)/\Same (mW R c) w b
 | .ok (a,g,r)=>e= .returned (val a)/\∃i f,eT b R s i r f g/\Mv R c f w b
def mQ {d:Type}(R:V)(s:Bs)(c:bH)(n:aJ)(w:World)(val:d->Value)(x:Except Er (d × Bs))(e:Ending)(b:World):Prop:=
 match x with
 | .error (r,m)=>e= .panicked (nu (s.length - r.length) m)/\Same (mW R c) w b
 | .ok (a,r)=>e= .returned (val a)/\∃f,eT b R s f r c n/\Mv R c c w b
theorem eT.to {s r:Bs}{c:bH}{n:aJ}(b:eT w R s p l c n)(k:V)(d:l.drop k=r)(e:k<=l.length)(q:V)(f:q=p+k):
  eT (w.setCell ⟨R,1,H⟩ (G C (q:Int))) R s q r c n/\Mv R c c w (w.setCell ⟨R,1,H⟩ (G C (q:Int))):=by
 subst f d;exact b.go k e
theorem eT.drew {s:Bs}{c:bH}{n:aJ}(b:eT w R s p l c n):eT w.drew R s p l c n:=⟨b.x,b.n,b.d,b.le,b.lim⟩
theorem f1 {s:Bs}{c:bH}{n:aJ}(b:eT w R s p l c n)(i:V):w.frozen? ⟨R,i,H⟩=false:=b.x.2.1 i
theorem yQ {s:Bs}{c:bH}{n:aJ}(w:World)(h:eT w R s p l c n):
  Calls Tryz.prog 171 #[.pointer (O ⟨R,0,H⟩)] w (mQ R s c n w (λb:Bool=> .bool b) (dM l)):=by
 have o:=h.c0;have f:=h.c1;have r:=f1 h 1;have S:=h.len;have ζ:=h.lim;have δ:=λW=>nk Tryz.underlying9 s p ah W
 rw[h.d] at δ;have hz:=gN s;have η:=gN (bL l);have Z:=FX l;have t:=J h;have u:=J S;have x:=J Z;clear h S Z;go_enter func171,ntmps171;go_wp2_with fail;refine aC 11 [(0,0),(1,0),(2,0),(3,0),(4,0),(5,0),(6,0),(7,0),(8,0),(9,2),(10,0)] (λ_=>True) (λW'=>W'.cell? ⟨R,0,H⟩=O (.string ⟨s.toArray⟩)/\W'.cell? ⟨R,1,H⟩=O (G C p)) ay ay (trivial) (⟨t.q.c0,t.q.c1⟩) ?_;refine qC ?_;refine aF rfl rfl (λK hK=>?_);go_simp;refine(KV l _).mono ?_;rintro e w2 ⟨rfl,d⟩;have g:=t.q.drew.below d;refine hK _ _ ⟨trivial,g.c0,g.c1⟩ ?_;have i:=J g;have ε:=J d;clear hK K d g o f r;refine qC ?_;refine aO ?_;have d:Below w.1.size w w2:=(Below.refl _ _).drew.trans ε.q;obtain⟨q,hq⟩:∃q:V,q=s.length - (bL l).length:=⟨_,rfl⟩;have θ:wrap64 ((s.length:Int) - ((bL l).length:Int))=(q:Int):=by
  have:=u.q;have:=x.q;rw[show(s.length:Int) - ((bL l).length:Int)=(q:Int) by omega];exact IntWalk.wrap64_in _ ah
 have y:=i.q.to (l.length - (bL l).length) (Ed l) ah q (by have:=u.q;have:=x.q;omega);have HT:=J y.1;have HM:=J ((Mv.of_below (R:=R) (c:=c) d).trans y.2);have HQ:=J hq;have o:=i.q.c0;have f:=i.q.c1;have r:=f1 i.q 1;have γ:dM l=if dR (bL l)=true then .ok (false,bL l) else if q=p then .error (bL l,220) else .ok (true,bL l):=by
  unfold dM;have:=u.q;have:=x.q;by_cases j:dR (bL l)=true
  .rw[av j,av j]
  .rw[au j,au j]
   by_cases h2:q=p
   .rw[av h2,av ah]
   .rw[au h2,au ah]
 have z:=J γ;clear y hq d γ;go_wp2_with fail;refine(Bw _ HT.q).mono ?_;rintro e w3 ⟨rfl,A⟩;have F:=J (HT.q.below A);have P:=J (HM.q.trans (Mv.of_below A));clear A o f r;have f:=F.q.c1
 cases Q:dR (bL l)
 .by_cases m:q=p
  .have hb:((q:Int)==(p:Int))=true:=by simp[m]
   go_wp2_with fail;refine(lH p 220 _).mono ?_;rintro e w4 ⟨rfl,rfl⟩;refine⟨rfl,?_⟩;show mQ R s c n w _ _ _ _;rw[z.q,Q,au ak,av m];exact⟨by rw[<-HQ.q,m],P.q.same⟩
  .have hb:((q:Int)==(p:Int))=false:=aX.2 ah
   go_wp2_with fail;go_ret;show mQ R s c n w _ _ _ _;rw[z.q,Q,au ak,au m];exact⟨rfl,q,F.q,P.q⟩
 .go_wp2_with fail
  go_ret;show mQ R s c n w _ _ _ _;rw[z.q,Q,av rfl];exact⟨rfl,q,F.q,P.q⟩
theorem KT {s:Bs}{c:bH}{n:aJ}(w:World)(m:eT w R s p l c n):
  Calls Tryz.prog 184 #[.pointer (O ⟨R,0,H⟩)] w (mQ R s c n w (λ_:Unit=> .tuple #[]) (match eD l with| .error x=> .error x| .ok r=> .ok ((),r))):=by
 have y:=J (yQ w m);clear m;obtain⟨X,g⟩:∃X:Except Er (Unit × Bs),X=(match eD l with| .error x=> .error x| .ok r=> .ok ((),r)):=⟨_,rfl⟩;rw[<-g];have i:=J g;clear g;go_enter func184,ntmps184;go_wp2_with fail;refine y.q.mono ?_;rintro e F f
 cases d:dM l with
 |error x=>
  rw[d] at f;obtain⟨rfl,z⟩:=f;refine⟨rfl,?_⟩;show mQ R s c n w _ _ _ _;rw[i.q,show eD l= .error x by unfold eD;rw[d]];exact⟨rfl,z⟩
 |ok A=>
  obtain⟨b,r⟩:=A;rw[d] at f;obtain⟨rfl,q,j,o⟩:=f;have t:=J j;have u:=J o;have K:=j.c1;clear j o
  cases b
  .go_wp2_with fail
   refine(lH q 220 _).mono ?_;rintro e P ⟨rfl,rfl⟩;refine⟨rfl,?_⟩;show mQ R s c n w _ _ _ _;rw[i.q,show eD l= .error (r,220) by unfold eD;rw[d]];have:=t.q.len;exact⟨by rw[show s.length - r.length=q by omega],u.q.same⟩
  .go_wp2_with fail
   refine bodyPost_end (results_none rfl _ _ _) rfl ?_;show mQ R s c n w _ _ _ _;rw[i.q,show eD l= .ok r by unfold eD;rw[d]];exact⟨rfl,q,t.q,u.q⟩
def Eg (b:V)(l:Bs):V:=l.foldl (λn c=>n*10+(c.toNat - 48)) b
theorem K3:∀(l:Bs)(b:V),b<=Eg b l
 |[],_=>aB _
 |c::r,b=>bI ah (K3 r (b*10+(c.toNat - 48)))
theorem Co:∀(l:Bs)(b:V),(∀c∈l,iO c=true)->Lib.parseUint10 b l= .ok (Eg b l)\/(Lib.parseUint10 b l= .range/\1000000<=Eg b l)
 |[],_,_=> .inl rfl
 |c::r,b,h=>by
  have d:=h c ak;have f:48<=c.toNat/\c.toNat<=57:=by
   unfold iO at d;simp only[aM,aV] at d;exact d
  have e:=K3 r (b*10+(c.toNat - 48));unfold Lib.parseUint10;rw[av f]
  split
  .exact .inr ⟨rfl,bI ah e⟩
  .split
   .exact .inr ⟨rfl,bI ah e⟩
   .exact Co r _ (λx g=>h x (by simp[g]))
theorem J3 (l:Bs)(g:l≠[])(d:∀c∈l,iO c=true):Lib.atoiAll l= .ok (oz l:Int)\/(Lib.atoiAll l= .range/\1000000<=oz l):=by
 cases l with
 |nil=>exact absurd rfl g
 |cons c r=>
  have b:=d c ak;unfold iO at b;simp only[aM,aV] at b;have m:48<=c.toNat:=b.1;unfold Lib.atoiAll;simp only[];rw[au ah];unfold Lib.parseMag;rw[au ak];have f:oz (c::r)=Eg 0 (c::r):=rfl;rcases Co (c::r) 0 d with e|⟨e,i⟩
  .rw[e]
   simp only[];by_cases j:9223372036854775808<=Eg 0 (c::r)
   .rw[av ⟨by omega,j⟩];exact .inr ⟨rfl,by rw[f];omega⟩
   .rw[au ah,au ah,au ah];exact .inl (by rw[f])
  .rw[e];exact .inr ⟨rfl,i⟩
def vR (w:World):Prop:=∃b,w.cell? ⟨9,0,H⟩=O b/\(b= .nilIface\/∃d e,b= .iface d e)
theorem vR.below {b:World}(d:vR w)(e:Below w.1.size w b):vR b:=let⟨f,g,i⟩:=d;⟨f,bq e rfl g,i⟩
theorem TY (l:Bs)(f:l≠[])(g:∀c∈l,iO c=true)(u:l.length<=1000000)(w:World)(i:vR w):
  Calls Tryz.prog 183 #[.string ⟨l.toArray⟩] w λe b=>∃(k:Int)(d:Value),e= .returned (.tuple #[G C k,d])/\Below w.1.size w b/\((d= .nilIface/\k=(oz l:Int)/\oz l<=9223372036854775807)\/(999<oz l/\∃T p,d= .iface T p)):=by
 obtain⟨j,m,o⟩:=i;rcases J3 l f g with e|⟨e,x⟩
 .refine(Tryz.strconv_Atoi_ok ⟨l.toArray⟩ (by rw[gN];omega) (oz l) e w).mono ?_
  rintro e b ⟨rfl,q⟩;refine⟨_,_,rfl,?_,.inl ⟨rfl,rfl,?_⟩⟩
  .rcases q with rfl|⟨t,rfl⟩
   .exact Below.refl _ _
   .exact Lib.bytesWorld_below _ _ _
  .have:=(Lib.atoiAll_bounds e).2;omega
 .refine(Tryz.strconv_Atoi_range ⟨l.toArray⟩ (by rw[gN];omega) e j w m o).mono ?_
  rintro e b ⟨y,rfl,_,_,r⟩;exact⟨_,_,rfl,r,.inr ⟨by omega,_,_,rfl⟩⟩
theorem CR (r:Int)(w:World):Calls Tryz.prog 173 #[.int .i32 r] w (cO (.bool (vD r)) w):=by
 unfold vD
 cases b:r==32 <;> cases d:r==9
 all_goals
  go_enter func173,ntmps173
  go_wp2
  go_ret;exact⟨rfl,Below.refl _ _⟩
theorem I8:∀args w,(callFunc 173 args).run Tryz.prog w= .ok (.enter 173 args) w:=enters_of func173 ay rfl
theorem Xg (r:Int)(w:World):Calls Tryz.prog 186 #[.int .i32 r] w (cO (.bool (CQ r)) w):=by
 unfold CQ;by_cases b:32<=r <;> cases d:r==9
 all_goals
  go_enter func186,ntmps186
  go_wp2
  go_ret;exact⟨by simp[b],Below.refl _ _⟩
theorem MR:∀args w,(callFunc 186 args).run Tryz.prog w= .ok (.enter 186 args) w:=enters_of func186 ay rfl
theorem qN (p:Int->Bool):∀(n:V)(l:Bs),l.length<=n->gK ⟨l.toArray⟩ p<=l.length
 |0,l,h=>by rw[vU (l:=l) ah];exact aB _
 |n+1,l,h=>by
  by_cases b:l=[]
  .subst b;exact aB _
  .rw[iH l p b]
   split
   .have d:=vV l b;have e:=vz l b
    have:=qN p n (l.drop (Utf8.decode ⟨l.toArray⟩ 0).2) (by rw[gI];omega);rw[gI] at this;omega
   .exact bn _
def nM (l:Bs):V:=(l.takeWhile iC).length+if(bL l).head?=O 35 then gK ⟨(bL l).toArray⟩ CQ else 0
def sP (l:Bs):Bool:=!((bL l).head?==O 35)||((l.drop (nM l)).head?==H||(l.drop (nM l)).head?==O 10)
theorem KF (l:Bs):(l.takeWhile iC).length+(bL l).length=l.length:=nN iC l
theorem qi (s:Bs)(p:V)(l:Bs)(R:s.drop p=l)(hp:p<=s.length)(υ:s.length<=1000000)(w:World)(hT:Lib.Utf8Tabs 6 7 w):
  Calls Tryz.prog 172 #[.string ⟨s.toArray⟩,G C p] w (pz (G C ((p+nM l:V):Int)) (.bool (sP l)) w):=by
 have φ:p+l.length=s.length:=by rw[<-R,gI];omega
 obtain⟨q,o⟩:∃q,q=p+(l.takeWhile iC).length:=⟨_,rfl⟩;have S:=KF l;have χ:q<=s.length:=by omega
 have x:s.drop q=bL l:=by rw[o,<-uS,R,rA];rfl
 have ξ:=λW=>nk Tryz.underlying9 s p ah W
 rw[R] at ξ;have hz:=gN s;have ψ:(p:Int)+((l.takeWhile iC).length:Int)=(q:Int):=by omega
 have HT:=J hT;have A:=λW (i:Below w.1.size w W)=>J (sQ ⟨l.toArray⟩ 173 #[] I8 vD W (λr W' _=>CR r W') (Utf8Tabs_below hT i))
 rw[RF] at A;clear hT
 cases j:bL l with
 |nil=>
  have y:q=s.length:=by have:=bJ List.length x;rw[gI,j] at this;simp at this;omega
  have u:Hid (nM l=(l.takeWhile iC).length/\sP l=true):=J (by unfold sP nM;rw[j];simp);have ο:((q:Int)==(s.length:Int))=true:=by simp[y]
  have HQ:=J o;have HE:=J y;clear x j S y o;go_enter func172,ntmps172;go_wp2_with fail;refine(A _ (Below.refl _ _)).q.mono ?_;rintro e w1 ⟨rfl,f⟩;have g:=J f;clear f;go_wp2_with fail
  go_ret2
  refine⟨?_,g.q⟩;rw[u.q.1,u.q.2,<-HQ.q];rfl
 |cons b t=>
  have F:s[q]?=O b:=by
   have:=bJ (λl=>l[0]?) x;rw[j] at this
   simpa using this
  have ω:q<s.length:=(bK.1 F).1;have Γ:=λW=>jA Tryz.underlying9 s q b F W
  have ο:((q:Int)==(s.length:Int))=false:=aX.2 ah;by_cases i:b.toNat=35
  .have Z:b=35:=iV.1 i
   have π:((b.toNat:Int)==35)=true:=by simp[i]
   obtain⟨m,K⟩:∃m,m=gK ⟨(bL l).toArray⟩ CQ:=⟨_,rfl⟩;have ε:nM l=(l.takeWhile iC).length+m:=by unfold nM;rw[av (by rw[j,Z];rfl),<-K]
   have κ:m<=(bL l).length:=by rw[K];exact qN _ _ _ (aB _)
   obtain⟨d,ζ⟩:∃d,d=q+m:=⟨_,rfl⟩;have Δ:(q:Int)+(m:Int)=(d:Int):=by omega
   have Θ:d<=s.length:=by omega
   have γ:s.drop d=l.drop (nM l):=by
    have e:nM l=(l.takeWhile iC).length+m:=ε;rw[e,ζ,o,<-R,uS,Nat.add_assoc]
   have u:Hid (p+nM l=d):=J ah;have ρ:=λW=>nk Tryz.underlying9 s q ah W
   rw[x] at ρ;have η:=λW (i:Below w.1.size w W)=>J (sQ ⟨(bL l).toArray⟩ 186 #[] MR CQ W (λr W' _=>Xg r W') (Utf8Tabs_below HT.q i))
   rw[<-K] at η;have μ:Hid (sP l=((l.drop (nM l)).head?==H||(l.drop (nM l)).head?==O 10)):=J (by unfold sP;rw[j,Z];rfl)
   cases z:l.drop (nM l) with
   |nil=>
    have y:d=s.length:=by have:=bJ List.length γ;rw[gI,z] at this;simp at this;omega
    have σ:((d:Int)==(s.length:Int))=true:=by simp[y]
    have δ:Hid (sP l=true):=J (by rw[μ.q,z];rfl);clear ε x j S o F i Z K κ ζ γ y z;go_enter func172,ntmps172;go_wp2_with fail;refine(A _ (Below.refl _ _)).q.mono ?_;rintro e w1 ⟨rfl,f⟩;have g:=J f;clear f;go_wp2_with fail;refine(η _ g.q).q.mono ?_;rintro e w2 ⟨rfl,P⟩;have θ:=J (g.q.bQ P);clear P
    go_wp2_with (go_quiet (fail))
    go_ret2
    exact⟨by rw[u.q,δ.q];rfl,gu θ.q _⟩
   |cons Q t2=>
    have ι:s[d]?=O Q:=by
     have:=bJ (λl=>l[0]?) γ;rw[z] at this
     simpa using this
    have Ξ:d<s.length:=(bK.1 ι).1;have Φ:=λW=>jA Tryz.underlying9 s d Q ι W
    have σ:((d:Int)==(s.length:Int))=false:=aX.2 ah;have δ:Hid (sP l=((Q.toNat:Int)==10)):=J (by rw[μ.q,z];show(Q==10)=_;rw[MP];rfl);clear ε x j S o F i Z K κ ζ γ z ι
    cases τ:((Q.toNat:Int)==10)
    all_goals
     rw[τ] at δ;go_enter func172,ntmps172;go_wp2_with fail;refine(A _ (Below.refl _ _)).q.mono ?_;rintro e w1 ⟨rfl,f⟩;have g:=J f;clear f;go_wp2_with fail;refine(η _ g.q).q.mono ?_;rintro e w2 ⟨rfl,P⟩;have θ:=J (g.q.bQ P);clear P
     go_wp2_with (go_quiet (fail))
     go_ret2
     exact⟨by rw[u.q,δ.q];rfl,gu θ.q _⟩
  .have π:((b.toNat:Int)==35)=false:=aX.2 ah
   have ν:¬b=35:=λe=>i (by rw[e];rfl)
   have u:Hid (nM l=(l.takeWhile iC).length/\sP l=true):=J (by unfold sP nM;rw[j];simp[ν]);have HQ:=J o;clear x j S o F i ν;go_enter func172,ntmps172;go_wp2_with fail;refine(A _ (Below.refl _ _)).q.mono ?_;rintro e w1 ⟨rfl,f⟩;have g:=J f;clear f;go_wp2_with fail
   go_ret2
   refine⟨?_,g.q⟩;rw[u.q.1,u.q.2,<-HQ.q];rfl
theorem Eh (s:ByteArray):∀(n p:V),∀x∈cK s n p,p<=x
 |0,_,_,h=>by simp[cK] at h
 |n+1,p,x,h=>by
  simp only[cK] at h
  split at h
  .rcases dO.1 h with rfl|h
   .exact aB _
   .exact bI (Nat.le_add_right _ _) (Eh s n _ x h)
  .cases h
theorem filter_all {b:Type}(p:b->Bool)(l:U b)(d:∀x∈l,p x=true):l.filter p=l:=List.filter_eq_self.2 d
theorem F3 {b:Type}(p:b->Bool)(l:U b)(d:∀x∈l,p x=false):l.filter p=[]:=List.filter_eq_nil_iff.2 (λx e=>by rw[d x e];simp)
theorem UY (u:Bs)(ζ:u.length<=1000000)(w:World):Calls Tryz.prog 175 #[.string ⟨u.toArray⟩] w (cO (G C (ru u:Int)) w):=by
 obtain⟨X,A⟩:∃X,X=ru u:=⟨_,rfl⟩;rw[<-A];have o:=gN u;have K:Hid (X=(((cK ⟨u.toArray⟩ u.length 0).filter (λi=>decide (i<=24))).getLast?).getD 0):=J A;clear A;go_enter func175,ntmps175;go_wp2_with fail
 go_loopw [3] (λv wr=>∃(b l:V)(j:U V),v= G C (j.getLast?.getD 0:V)/\j++cK ⟨u.toArray⟩ l b=cK ⟨u.toArray⟩ u.length 0/\(∀x∈j,x<=24)/\u.length<=b+l/\b<=2000000/\wr.1[w.1.size]?=O (.stringIter ⟨u.toArray⟩ b)/\Below w.1.size w wr) (λ_ wr=>u.length - wr.iterPos w.1.size)
 case atStart=>exact⟨0,u.length,[],rfl,rfl,by simp,by omega,by omega,World.iter_heap w ⟨u.toArray⟩ 0,jD w ⟨u.toArray⟩⟩
 case round=>
  obtain⟨b,l,j,rfl,r,t,η,θ,p,y⟩:=hrel;by_cases q:b<u.length
  .have P:∀m,(Instr.next (.pointer (O ⟨w.1.size,0,H⟩)) true m).run Tryz.prog wr=_:=λm=>Lib.run_next_any_at wr w.1.size ⟨u.toArray⟩ b m p (by rw[o];exact q)
   have δ:=width_pos ⟨u.toArray⟩ b (by rw[o];exact q);obtain⟨d,z⟩:∃d,d=(Utf8.decode ⟨u.toArray⟩ b).2:=⟨_,rfl⟩;have ι:d<=u.length - b:=by
    have:=vz (u.drop b) (by intro e;have:=bJ List.length e;rw[gI] at this;simp at this;omega);rw[<-pW,<-z,gI] at this;exact this
   rw[<-z] at P δ;obtain⟨f,rfl⟩:∃f,l=f+1:=⟨l - 1,by omega⟩;have Q:cK ⟨u.toArray⟩ (f+1) b=b::cK ⟨u.toArray⟩ f (b+d):=by simp[cK,o,q,z]
   have R:=Lib.iterAt_heap wr w.1.size ⟨u.toArray⟩ b (b+d) p;have S:=Lib.below_iterAt y (k:=w.1.size) (aB _) ⟨u.toArray⟩ (b+d);have HI:=J p;have W:=J R;have Z:=J S;have HP:=J (Q▸r);have HA:=J t;clear p R y S Q r t z;by_cases γ:b<=24
   .have ε:decide ((24:Int)<(b:Int))=false:=bE ah
    go_wp2_with fail;go_roundw
    case rel=>exact⟨b+d,f,j++[b],by simp,by rw[<-HP.q];simp,λx g=>by
     rcases cu.1 g with g|g
     .exact HA.q x g
     .obtain rfl:x=b:=by simpa using g
      exact γ,by omega,by omega,W.q,Z.q⟩
    case measure=>rw[iterPos_of W.q,iterPos_of HI.q];omega
   .have ε:decide ((24:Int)<(b:Int))=true:=bT ah
    have F:Hid (X=j.getLast?.getD 0):=J (by
     rw[K.q,<-HP.q,List.filter_append,filter_all _ j (λx g=>by simpa using HA.q x g),F3 _ _ (λx g=>?_),dm];rcases dO.1 g with rfl|g
     .simpa using γ
     .have:=Eh _ _ _ x g;simp;omega)
    go_wp2_with fail;go_ret;exact⟨by rw[F.q];rfl,Z.q⟩
  .have P:∀m,(Instr.next (.pointer (O ⟨w.1.size,0,H⟩)) true m).run Tryz.prog wr=_:=λm=>Lib.run_next_end_at wr w.1.size ⟨u.toArray⟩ b m p (by rw[o];exact q)
   have F:Hid (X=j.getLast?.getD 0):=J (by
    have e:cK ⟨u.toArray⟩ l b=[]:=by cases l <;> simp[cK,o,q]
    rw[K.q,<-r,e,dm,filter_all _ j (λx g=>by simpa using t x g)])
   have HB:=J y;clear r t y;go_wp2_with fail;go_ret;exact⟨by rw[F.q];rfl,HB.q⟩
theorem aar (a b c:UInt8)(r:U UInt8):ByteArray.extract ⟨⟨a::b::c::r⟩⟩ 0 3=⟨#[a,b,c]⟩:=by
 apply ByteArray.ext
 simp[ByteArray.data_extract]
theorem ZK (s:ByteArray)(e:3<=s.size)(d:(Utf8.decode s 0).1=65533):(Utf8.decode s 0).2=3↔s.extract 0 3=⟨#[239,191,189]⟩:=by
 obtain⟨⟨l⟩⟩:=s
 match l,e with
 |a::b::c::r,_=>
  have ha:ByteArray.get! ⟨⟨a::b::c::r⟩⟩ (0+0)=a:=rfl;have j:ByteArray.get! ⟨⟨a::b::c::r⟩⟩ (0+1)=b:=rfl;have m:ByteArray.get! ⟨⟨a::b::c::r⟩⟩ (0+2)=c:=rfl;have A:=a.toNat_lt;have F:=b.toNat_lt;have K:=c.toNat_lt;have o:ByteArray.size ⟨⟨a::b::c::r⟩⟩=r.length+3:=rfl;rw[aar];have p:((⟨#[a,b,c]⟩:ByteArray)=⟨#[239,191,189]⟩)↔(a.toNat=239/\b.toNat=191/\c.toNat=189):=by
   constructor
   .intro h
    injection h with h;simp at h;obtain⟨rfl,rfl,rfl⟩:=h
    decide
   .rintro⟨f,g,e⟩
    have q:a=239:=iV.1 f;have t:b=191:=iV.1 g;have u:c=189:=iV.1 e;rw[q,t,u]
  rw[p]
  constructor
  .intro h
   unfold Utf8.decode at h d;simp only[ha,j,m] at h d
   split at h
   .simp at h
   rename_i x
   rw[au x] at d
   split at h
   .split at h <;> simp at h
   rename_i y
   rw[au y] at d
   split at h
   .rename_i i
    rw[av i] at d
    split at h
    .rename_i z
     rw[av z] at d;simp only[aM,aV,oJ] at i d;omega
    .simp at h
   rename_i i
   split at h
   .split at h <;> simp at h
   .simp at h
  .rintro⟨f,g,e⟩
   unfold Utf8.decode;simp only[ha,j,m,f,g,e,o];simp[Utf8.valid]
theorem Ei (c:V)(hc:c<=1114111)(i:¬(55296<=c/\c<=57343)):Utf8.encode (c:Int)=⟨(Lib.encodeRune (c:Int)).toArray⟩:=by
 have g:Utf8.valid (c:Int)=true:=by simp[Utf8.valid];omega
 unfold Utf8.encode Lib.encodeRune;simp only[g,bR,jL];have b:∀(z:Int)(n:V),z=(n:Int)->z.toNat.toUInt8=UInt8.ofNat n:=λz n h=>by subst h;simp
 by_cases d:c<128
 .rw[av d,Lib.encodeRuneZ_one ah ah]
  simp only[dX,jN,b _ c rfl]
 rw[au d];by_cases e:c<2048
 .rw[av e,Lib.encodeRuneZ_two ah ah]
  simp only[dX,jN,b (192+(c:Int) / 64) (192+c / 64) ah,b (128+(c:Int) % 64) (128+c % 64) ah]
 rw[au e];by_cases f:c<65536
 .rw[av f,Lib.encodeRuneZ_three ah]
  simp only[dX,jN,b (224+(c:Int) / 4096) (224+c / 4096) ah,b (128+(c:Int) / 64 % 64) (128+c / 64 % 64) ah,b (128+(c:Int) % 64) (128+c % 64) ah]
 .rw[au f,Lib.encodeRuneZ_four ah ah]
  simp only[dX,jN,b (240+(c:Int) / 262144) (240+c / 262144) ah,b (128+(c:Int) / 4096 % 64) (128+c / 4096 % 64) ah,b (128+(c:Int) / 64 % 64) (128+c / 64 % 64) ah,b (128+(c:Int) % 64) (128+c % 64) ah]
theorem I9 (b:okB ⟨l.toArray⟩ 0=true):¬((Utf8.decode ⟨l.toArray⟩ 0).1=65533/\(Utf8.decode ⟨l.toArray⟩ 0).2=1):=by
 rintro⟨d,e⟩;unfold okB at b;rw[d,e] at b;simp at b
theorem LG (l:Bs)(o:l≠[])(m:okB ⟨l.toArray⟩ 0=true):
  Utf8.encode ((Utf8.decode ⟨l.toArray⟩ 0).1:Int)=⟨(l.take (Utf8.decode ⟨l.toArray⟩ 0).2).toArray⟩/\Utf8.decode ⟨(l.take (Utf8.decode ⟨l.toArray⟩ 0).2).toArray⟩ 0=Utf8.decode ⟨l.toArray⟩ 0/\(Utf8.decode ⟨l.toArray⟩ 0).2<=4:=by
 have A:0<l.length:=xP.2 o;have f:=vz l o;have g:=Lib.encode_decode l o (I9 m);have x:Utf8.decode ⟨l.toArray⟩ 0=Lib.decodeL l:=rfl;have y:∀u:Bs,Utf8.decode ⟨u.toArray⟩ 0=Lib.decodeL u:=λ_=>rfl
 have b:∀(n k:V),k<n->(l.take n).getD k 0=l.getD k 0:=λn k m=>by simp[List.getD,m]
 have q:=I9 m;rw[x] at f q ⊢;rw[y];rw[Lib.decodeL_N (l.take _)];have d:=Lib.decodeL_N l;rcases Lib.decodeN_shape l.length (l.getD 0 0).toNat (l.getD 1 0).toNat (l.getD 2 0).toNat (l.getD 3 0).toNat with⟨c,e⟩|⟨i,r,j,t,e⟩|⟨i,r,j,p,t,F,e⟩|⟨i,r,j,p,z,t,K,e⟩|e
 .rw[e] at d
  rw[d] at f g ⊢;refine⟨by rw[Ei _ (by simp only[];omega) (by simp only[];omega),g],?_,by simp⟩;simp only[fB];rw[b 1 0 ah];unfold Lib.decodeN;rw[av c]
 .rw[e] at d
  rw[d] at f g ⊢;simp only at f;refine⟨by rw[Ei _ (by simp only[];omega) (by simp only[];omega),g],?_,by simp⟩;simp only[fB];rw[b 2 0 ah,b 2 1 ah,nX ah];unfold Lib.decodeN;rw[au ah,av ⟨i,by omega,j⟩,av ah]
 .rw[e] at d
  rw[d] at f g ⊢;simp only at f;refine⟨by rw[Ei _ (by simp only[];omega) (by simp only[];omega),g],?_,by simp⟩;simp only[fB];rw[b 3 0 ah,b 3 1 ah,b 3 2 ah,nX ah];unfold Lib.decodeN;rw[au ah,au ah,av ⟨i,⟨by omega,j⟩,⟨by omega,p⟩⟩,av ah]
 .rw[e] at d
  rw[d] at f g ⊢;simp only at f;refine⟨by rw[Ei _ (by simp only[];omega) (by simp only[];omega),g],?_,by simp⟩;simp only[fB];rw[b 4 0 ah,b 4 1 ah,b 4 2 ah,b 4 3 ah,nX ah];unfold Lib.decodeN;rw[au ah,au ah,au ah,av ⟨i,⟨by omega,j⟩,⟨by omega,p⟩,⟨by omega,z⟩⟩,av ah]
 .exfalso
  rw[e] at d;exact q (by rw[d];exact⟨rfl,rfl⟩)
@[reducible] def aH (k a:Int)(t:Bs)(g:Bool):Array Value:=#[G C k,G C a,.string ⟨t.toArray⟩,.bool g]
variable{b:UInt8}
theorem J4 (d:dH (b::t)=true):b.toNat≠32/\b.toNat≠9/\b.toNat≠10/\b.toNat≠35/\b.toNat≠46/\b.toNat≠45/\¬(48<=b.toNat/\b.toNat<=57):=by
 rcases iM b.toNat 128 with e|e
 .unfold dH at d
  rw[nU b t e] at d;simp only[jV,aM,rV,aV] at d;have:=d.2.2;omega
 .omega
theorem MS (b:dH l=true):1<=dW l/\l≠[]:=by
 unfold dH at b;simp only[aM] at b;obtain⟨f,g,i⟩:=b;have d:l≠[]:=by intro e;rw[e] at f;simp at f
 refine⟨?_,d⟩;unfold dW;rw[iH l jo d,av (by simp[g,jo,i])];have:=vV l d;omega
def Gw (k a:Int)(t:Bs)(b:V)(d:Int)(w:World)(e:Ending)(f:World):Prop:=∃g:Bool,e= .returned (.tuple #[.agg (aH k a t g),G C b,G C d])/\Below w.1.size w f
theorem Ar (d:iC b=false)(f:b.toNat≠35):nM (b::t)=0/\sP (b::t)=true:=by
 have e:bL (b::t)=b::t:=by unfold bL;rw[zA,d];rfl
 have g:(b::t).takeWhile iC=[]:=by rw[lV,d];rfl
 have i:¬b=35:=λe=>f (by rw[e];rfl)
 unfold sP nM;rw[e,g];simp[i]
theorem G8 (d:b.toNat≠32)(e:b.toNat≠9):iC b=false:=by
 rw[<-AB];unfold vD;rw[aX.2 ah,aX.2 ah];rfl
theorem G9 (u:Bs):ru u<=24:=by
 unfold ru
 cases h:(List.filter (λi=>decide (i<=24)) (cK ⟨u.toArray⟩ u.length 0)).getLast? with
 |none=>simp
 |some x=>
  have:=List.mem_of_getLast? h
  simpa using(List.mem_filter.1 this).2
theorem Ki (s:Bs)(p:V)(l:Bs)(S:s.drop p=l)(hp:p<=s.length)(ω:s.length<=1000000)(P:dH l=true)(w:World)(hT:Lib.Utf8Tabs 6 7 w):
  Calls Tryz.prog 147 #[.string ⟨s.toArray⟩,G C p] w (λe w'=>if 24<dW l then Gw 0 0 [] (p+ru (l.take (dW l))) 120 w e w' else Gw 1 p (l.take (dW l)) (p+dW l) 0 w e w'):=by
 obtain⟨Γ,ρ⟩:=MS P;obtain⟨b,t,rfl⟩:∃b t,l=b::t:=by cases l with
  |nil=>exact absurd rfl ρ
  |cons b t=>exact⟨b,t,rfl⟩
 obtain⟨σ,n9,Δ,τ,Θ,Ξ,Φ⟩:=J4 P;have υ:p+(b::t).length=s.length:=by rw[<-S,gI];omega
 have δ:=J (Ar (t:=t) (G8 σ n9) τ);have HS:=λW (P:Below w.1.size w W)=>J (qi s p (b::t) S hp ω W (Utf8Tabs_below hT P))
 have Ψ:=λW=>nk Tryz.underlying9 s p hp W
 rw[S] at Ψ;obtain⟨n,hn⟩:∃n,n=dW (b::t):=⟨_,rfl⟩;have HW:=λW (P:Below w.1.size w W)=>J (sQ ⟨(b::t).toArray⟩ 101 #[] Ez jo W (λr W' _=>zi r W') (Utf8Tabs_below hT P))
 rw[show gK ⟨(b::t).toArray⟩ jo=n from hn.symm] at HW;have Ω:n<=(b::t).length:=by rw[hn];exact qN _ _ _ (aB _)
 have j4:=λW=>wz Tryz.underlying9 (b::t) n Ω W
 have j5:∀W,(Instr.index 9 (.string ⟨(b::t).toArray⟩) (G C 0)).run Tryz.prog W= .ok (.int .u8 (b.toNat:Int)) W:=λW=>jA Tryz.underlying9 (b::t) 0 b rfl W
 have hz:=gN s;have j6:=gN (b::t);rw[<-hn] at Γ ⊢;have j7:((b.toNat:Int)==10)=false:=aX.2 ah;have j8:((b.toNat:Int)==46)=false:=aX.2 ah;have j9:((b.toNat:Int)==45)=false:=aX.2 ah;have e0:((n:Int)==0)=false:=aX.2 ah;have z0:wrap32 (b.toNat:Int)=(b.toNat:Int):=IntWalk.wrap32_in _ (by have:=b.toNat_lt;omega);have ε:kJ (b.toNat:Int)=false:=by unfold kJ;simp;omega
 have z1:((b::t)==([]:Bs))=false:=rfl;have HT:=J hT;have HD:=J S;have HN:=J hn;have q0:=J υ;clear hT S hn ρ P σ n9 Δ τ Θ Ξ Φ υ;by_cases ζ:24<n
 case' pos=>
  have q1:decide ((24:Int)<(n:Int))=true:=bT ah;simp only[av ζ];obtain⟨q,hq⟩:∃q,q=p+ru ((b::t).take n):=⟨_,rfl⟩;have q2:=G9 ((b::t).take n);have q3:(p:Int)+(ru ((b::t).take n):Int)=(q:Int):=by omega
  have q4:q<=2000000:=by omega
  rw[<-hq];clear hq q2 ζ
 case' neg=>
  have q1:decide ((24:Int)<(n:Int))=false:=bE ah;simp only[au ζ];obtain⟨q,hq⟩:∃q,q=p+n:=⟨_,rfl⟩;have q3:(p:Int)+(n:Int)=(q:Int):=by omega
  have q4:q<=2000000:=by omega
  have z2:ByteArray.size ⟨((b::t).take n).toArray⟩=n:=by rw[gN,fB];omega
  rw[<-hq];clear hq ζ
 all_goals
  by_cases φ:p=0
  case' pos=>
   have q5:decide ((0:Int)<(p:Int))=false:=bE ah;have q6:decide (0<p)=false:=bE ah;clear φ;go_enter func147,ntmps147;go_wp2_with fail;refine(HS _ (aA (Below.refl _ _) _)).q.mono ?_;rintro e w1 ⟨rfl,Q⟩;have g:=J ((aA (Below.refl w.1.size w) (N (aH 0 0 [] false) 214)).trans (Q.mono ak));have i:=J ((Bx.new w (aH 0 0 [] false) 214).keep Q);clear Q;rw[δ.q.1,δ.q.2,dB];go_wp2_with fail;refine(mP _ _).mono ?_;rintro e w3 ⟨rfl,f⟩;rw[ε];obtain⟨m,u⟩:∃m:Bool,false=m:=⟨_,rfl⟩;have o:=J ((Bx.new w1 (aH 0 p [] false) 214).keep f);rw[u] at o;have j:=J (show w.1.size<w1.1.size from i.q.2.2);have R:=J ((aA g.q (N (aH 0 p [] false) 214)).trans (f.mono (by have:=g.q.size;simp;omega)));have γ:=J ((i.q.alloc (N (aH 0 p [] false) 214)).keep f);obtain⟨d,x⟩:∃d,d=w1.1.size:=⟨_,rfl⟩;rw[<-x] at o j ⊢;clear f x u
  case' neg=>
   have q5:decide ((0:Int)<(p:Int))=true:=bT ah;have q6:decide (0<p)=true:=bT ah;obtain⟨y,χ⟩:∃y,s[p - 1]?=O y:=⟨_,cB ah⟩;have q7:=λW=>jA Tryz.underlying9 s (p - 1) y χ W
   rw[show((p - 1:V):Int)=(p:Int) - 1 by omega] at q7;have z3:wrap32 (y.toNat:Int)=(y.toNat:Int):=IntWalk.wrap32_in _ (by have:=y.toNat_lt;omega);clear χ φ;go_enter func147,ntmps147;go_wp2_with fail;refine(HS _ (aA (Below.refl _ _) _)).q.mono ?_;rintro e w1 ⟨rfl,Q⟩;have g:=J ((aA (Below.refl w.1.size w) (N (aH 0 0 [] false) 214)).trans (Q.mono ak));have i:=J ((Bx.new w (aH 0 0 [] false) 214).keep Q);clear Q;rw[δ.q.1,δ.q.2,dB];go_wp2_with fail;refine(CR _ _).mono ?_;rintro e z ⟨rfl,A⟩
   cases z4:vD (y.toNat:Int)
   case' false=>
    cases ψ:((y.toNat:Int)==10)
    case' false=>
     have q8:((y.toNat:Int)!=10)=true:=by rw[bne,ψ];rfl
     replace g:=J (g.q.bQ A);replace i:=J (i.q.keep A)
     clear A;go_wp2_with fail;refine(mP _ _).mono ?_;rintro e w3 ⟨rfl,f⟩;rw[ε];obtain⟨m,u⟩:∃m:Bool,true=m:=⟨_,rfl⟩;have o:=J ((Bx.new z (aH 0 p [] true) 214).keep f);rw[u] at o;have j:=J (show w.1.size<z.1.size from i.q.2.2);have R:=J ((aA g.q (N (aH 0 p [] true) 214)).trans (f.mono (by have:=g.q.size;simp;omega)));have γ:=J ((i.q.alloc (N (aH 0 p [] true) 214)).keep f);obtain⟨d,x⟩:∃d,d=z.1.size:=⟨_,rfl⟩;rw[<-x] at o j ⊢;clear f x u
    case' true=>
     have q8:((y.toNat:Int)!=10)=false:=by rw[bne,ψ];rfl
     replace g:=J (g.q.bQ A);replace i:=J (i.q.keep A)
     clear A;go_wp2_with fail;refine(mP _ _).mono ?_;rintro e w3 ⟨rfl,f⟩;rw[ε];obtain⟨m,u⟩:∃m:Bool,false=m:=⟨_,rfl⟩;have o:=J ((Bx.new z (aH 0 p [] false) 214).keep f);rw[u] at o;have j:=J (show w.1.size<z.1.size from i.q.2.2);have R:=J ((aA g.q (N (aH 0 p [] false) 214)).trans (f.mono (by have:=g.q.size;simp;omega)));have γ:=J ((i.q.alloc (N (aH 0 p [] false) 214)).keep f);obtain⟨d,x⟩:∃d,d=z.1.size:=⟨_,rfl⟩;rw[<-x] at o j ⊢;clear f x u
   case' true=>
    replace g:=J (g.q.bQ A);replace i:=J (i.q.keep A)
    clear A;go_wp2_with fail;refine(mP _ _).mono ?_;rintro e w3 ⟨rfl,f⟩;rw[ε];obtain⟨m,u⟩:∃m:Bool,false=m:=⟨_,rfl⟩;have o:=J ((Bx.new z (aH 0 p [] false) 214).keep f);rw[u] at o;have j:=J (show w.1.size<z.1.size from i.q.2.2);have R:=J ((aA g.q (N (aH 0 p [] false) 214)).trans (f.mono (by have:=g.q.size;simp;omega)));have γ:=J ((i.q.alloc (N (aH 0 p [] false) 214)).keep f);obtain⟨d,x⟩:∃d,d=z.1.size:=⟨_,rfl⟩;rw[<-x] at o j ⊢;clear f x u
 all_goals
  go_wp2_with fail;refine(HW _ R.q).q.mono ?_;rintro e w4 ⟨rfl,η⟩;have θ:=J (R.q.bQ η);have μ:=J (γ.q.keep η);have ι:=J (o.q.keep η);clear η R γ o
  first
  |go_wp2_with fail
   refine(UY _ (by rw[fB];have:=q0.q;omega) _).mono ?_;rintro e w5 ⟨rfl,ν⟩;have ξ:=μ.q.keep ν;have κ:=J (θ.q.bQ ν);have q9:=ξ.1;have z5:=ξ.2.1;clear ξ ν;go_wp2_with fail;refine bodyPost_ret (v:= .tuple #[.agg (aH 0 0 [] false),G C (q:Int),G C 120]) (by simp[results,results147,go_sem,q9]) rfl ⟨false,rfl,?_⟩;exact(((κ.q.setCell (p:=⟨w.1.size,0,H⟩) (aB _) _).setCell (p:=⟨w.1.size,1,H⟩) (aB _) _).setCell (p:=⟨w.1.size,2,H⟩) (aB _) _).setCell (p:=⟨w.1.size,3,H⟩) (aB _) _
  |have j0:=ι.q.1;have j1:=ι.q.2.1
   go_wp2_with fail;refine aC 99 [(0,0),(1,0),(2,0),(3,0),(4,2),(5,0),(6,2)] (λ_=>True) (λ_=>True) ay ay (trivial) (trivial) ?_;refine qC ?_;refine aF rfl rfl (λK F=>?_);go_simp;refine F _ _ ⟨trivial,trivial⟩ ?_;clear F K;refine qC ?_;refine aF rfl rfl (λK F=>?_);go_simp;refine F _ _ ⟨trivial,trivial⟩ ?_;clear F K;refine aO ?_;have ο:=J (((ι.q.bB 0 ak (G C 1)).bB 2 ak (.string ⟨((b::t).take n).toArray⟩)).drew);have π:=J (((μ.q.setOther d 0 (G C 1) (by have:=j.q;omega)).setOther d 2 (.string ⟨((b::t).take n).toArray⟩) (by have:=j.q;omega)).drew);have κ:=J (((θ.q.setCell (p:=⟨d,0,H⟩) (by have:=j.q;show _<=d;omega) (G C 1)).setCell (p:=⟨d,2,H⟩) (by have:=j.q;show _<=d;omega) (.string ⟨((b::t).take n).toArray⟩)).drew);generalize((w4.setCell ⟨d,0,H⟩ (G C 1)).setCell ⟨d,2,H⟩ (.string ⟨((b::t).take n).toArray⟩)).drew=Z at ο π κ ⊢;clear j0 j1 μ ι θ;have j2:=π.q.1;have z6:=π.q.2.1;go_wp2_with fail;refine aC 99 [(0,0),(1,0),(2,0),(3,0),(4,0),(5,0),(6,2),(7,0),(8,0)] (λ_=>True) (λW'=>Bx W' d (aH 1 p ((b::t).take n) m)) ay ay (trivial) (ο.q.drew) ?_;refine qC ?_;refine aF rfl rfl (λK F=>?_);go_simp;refine F _ _ ⟨trivial,(((ο.q.drew.setOther w.1.size 0 _ (by have:=j.q;omega)).setOther w.1.size 1 _ (by have:=j.q;omega)).setOther w.1.size 2 _ (by have:=j.q;omega)).setOther w.1.size 3 _ (by have:=j.q;omega)⟩ ?_;clear F K;refine qC ?_;refine aO ?_;go_wp2_with fail;have j3:IntKind.i64.wrap (q:Int)=(q:Int):=Go.IntWalk.i64_in (q:Int) ah;refine bodyPost_ret (v:= .tuple #[.agg (aH 1 p ((b::t).take n) m),G C (q:Int),G C 0]) (by simp[results,results147,go_sem,j2,j3]) rfl ⟨m,rfl,?_⟩;exact((((κ.q.drew).setCell (p:=⟨w.1.size,0,H⟩) (aB _) _).setCell (p:=⟨w.1.size,1,H⟩) (aB _) _).setCell (p:=⟨w.1.size,2,H⟩) (aB _) _).setCell (p:=⟨w.1.size,3,H⟩) (aB _) _
theorem ET (q:UInt8->Bool):∀(l:Bs)(k:V)(b:UInt8),(∀x∈l.take k,q x=true)->l[k]?=O b->q b=false->l.takeWhile q=l.take k
 |[],_,_,_,h,_=>by simp at h
 |a::t,0,b,_,h,d=>by
  obtain rfl:a=b:=by simpa using h
  rw[lV,d];rfl
 |a::t,k+1,b,ha,h,d=>by
  rw[lV,ha a ak,av rfl,List.take_succ_cons,ET q t k b (λx e=>ha x (by simp[e])) (by simpa using h) d]
theorem Pt (q:UInt8->Bool)(l:Bs)(b:∀x∈l,q x=true):l.takeWhile q=l:=by
 induction l with
 |nil=>rfl
 |cons a t d=>rw[lV,b a ak,av rfl,d (λx e=>b x (by simp[e]))]
theorem K4 (b:UInt8):nD b=((decide (b.toNat=46)||decide (b.toNat=95))||(decide (48<=b.toNat) && decide (b.toNat<=57))||(decide (97<=b.toNat) && decide (b.toNat<=122))||(decide (65<=b.toNat) && decide (b.toNat<=90))):=by
 have e:∀c:UInt8,(b==c)=decide (b.toNat=c.toNat):=λc=>by
  by_cases h:b=c
  .simp[h]
  .rw[aX.2 h,bE (λe=>h (iV.1 e))]
 unfold nD;rw[e 46,e 95];rfl
theorem L8 {s:Bs}{c:bH}{n:aJ}(w:World)(m:eT w R s p l c n):
  Calls Tryz.prog 179 #[.pointer (O ⟨R,0,H⟩)] w (cO (.string ⟨(fw l).toArray⟩) w):=by
 have c0:=m.c0;have c1:=m.c1;have ρ:=m.len;have σ:=m.lim;have θ:=λW=>nk Tryz.underlying9 s p ah W
 rw[m.d] at θ;have φ:l.length<=1000000:=by omega
 clear m ρ σ;go_enter func179,ntmps179
 go_wp2_with (go_quiet (fail))
 clear θ c0 c1
 go_loopw [] (λwr=>∃k:V,k<=l.length/\wr.1[w.1.size]?=O (.stringIter ⟨l.toArray⟩ k)/\Below w.1.size w wr/\∀x∈l.take k,nD x=true) (λwr=>l.length - wr.iterPos w.1.size)
 case atStart=>exact⟨0,bn _,World.iter_heap (w.drewN _) ⟨l.toArray⟩ 0,gu (Below.refl _ _) _|>.trans (jD (w.drewN _) ⟨l.toArray⟩),by simp⟩
 case round=>
  obtain⟨k,hk,S,γ,Z⟩:=hrel;by_cases hp:k<l.length
  .obtain⟨b,t,δ⟩:∃b t,l.drop k=b::t:=⟨_,_,lW hp⟩
   have ε:∀g,(Instr.next (.pointer (O ⟨w.1.size,0,H⟩)) true g).run Tryz.prog wr=_:=λg=>Lib.run_next_any_at wr w.1.size ⟨l.toArray⟩ k g S (by rw[gN];exact hp)
   have ζ:=pW l k;rw[δ] at ζ;rw[ζ] at ε;have ι:l[k]?=O b:=by
    have:=bJ (λl=>l[0]?) δ
    simpa using this
   obtain⟨r,d,i,hd⟩:∃(r:Int)(d:V),r=((Utf8.decode ⟨(b::t).toArray⟩ 0).1:Int)/\d=(Utf8.decode ⟨(b::t).toArray⟩ 0).2:=⟨_,_,rfl,rfl⟩;have κ:(b.toNat<128/\r=b.toNat/\d=1)\/(128<=b.toNat/\128<=r):=by
    rcases iM b.toNat 128 with e|e
    .rw[nU b t e] at i hd;exact .inl ⟨e,i,hd⟩
    .have:=(vw b t e).1;exact .inr ⟨e,by omega⟩
   rw[<-i,<-hd] at ε;have μ:=Lib.iterAt_heap wr w.1.size ⟨l.toArray⟩ k (k+d) S;have ν:=Lib.below_iterAt γ (k:=w.1.size) (aB _) ⟨l.toArray⟩ (k+d);have η:=J κ;have ξ:=J Z;have ο:=J ι;have j:=J ν;have π:=J μ;have τ:=J S;have χ:=λW=>wz Tryz.underlying9 l k ah W
   have υ:r=46\/r=95\/(48<=r/\r<=57)\/(97<=r/\r<=122)\/(65<=r/\r<=90)\/r<46\/r=47\/(57<r/\r<65)\/(90<r/\r<95)\/r=96\/122<r:=by omega
   clear κ Z ι ν μ γ ζ i hd δ S;have GO:Hid ((r=46\/r=95\/(48<=r/\r<=57)\/(97<=r/\r<=122)\/(65<=r/\r<=90))->∃k':V,k'<=l.length/\(wr.iterAt w.1.size ⟨l.toArray⟩ (k+d)).1[w.1.size]?=O (.stringIter ⟨l.toArray⟩ k')/\Below w.1.size w (wr.iterAt w.1.size ⟨l.toArray⟩ (k+d))/\∀x∈l.take k',nD x=true):=J (λi=>by
    rcases η.q with⟨e,f,h3⟩|⟨e,f⟩
    .refine⟨k+d,by omega,π.q,j.q,λx o=>?_⟩
     rw[h3,ig,ο.q] at o;rcases cu.1 o with o|o
     .exact ξ.q x o
     .obtain rfl:x=b:=by simpa using o
      rw[K4];simp only[rV,aM,aV];omega
    .exfalso;omega)
   have ME:Hid ((r=46\/r=95\/(48<=r/\r<=57)\/(97<=r/\r<=122)\/(65<=r/\r<=90))->l.length - (wr.iterAt w.1.size ⟨l.toArray⟩ (k+d)).iterPos w.1.size<l.length - wr.iterPos w.1.size):=J (λi=>by
    rcases η.q with⟨e,f,h3⟩|⟨e,f⟩
    .rw[iterPos_of π.q,iterPos_of τ.q];omega
    .exfalso;omega)
   have q:Hid (¬(r=46\/r=95\/(48<=r/\r<=57)\/(97<=r/\r<=122)\/(65<=r/\r<=90))->fw l=l.take k):=J (λi=>by
    refine ET nD l k b ξ.q ο.q ?_;rw[K4];simp only[Bool.or_eq_false_iff,Bool.and_eq_false_iff,decide_eq_false_iff_not];rcases η.q with⟨e,f,h3⟩|⟨e,f⟩ <;> omega)
   rcases υ with e|e|⟨e,f⟩|⟨e,f⟩|⟨e,f⟩|e|e|⟨e,f⟩|⟨e,f⟩|e|e
   .subst e
    go_wp2_with fail;go_roundw
    case rel=>exact GO.q aj
    case measure=>exact ME.q aj
   .subst e
    go_wp2_with fail;go_roundw
    case rel=>exact GO.q aj
    case measure=>exact ME.q aj
   .have u:(r !=46)=true:=lF.2 ah
    have y:(r !=95)=true:=lF.2 ah;have z:decide (r<48)=false:=bE ah;have A:decide (57<r)=false:=bE ah;have F:decide (r<97)=true:=bT ah;have K:decide (122<r)=false:=bE ah;have P:decide (r<65)=true:=bT ah;have Q:decide (90<r)=false:=bE ah;go_wp2_with fail;go_roundw
    case rel=>exact GO.q ah
    case measure=>exact ME.q ah
   .have u:(r !=46)=true:=lF.2 ah
    have y:(r !=95)=true:=lF.2 ah;have z:decide (r<48)=false:=bE ah;have A:decide (57<r)=true:=bT ah;have F:decide (r<97)=false:=bE ah;have K:decide (122<r)=false:=bE ah;have P:decide (r<65)=false:=bE ah;have Q:decide (90<r)=true:=bT ah;go_wp2_with fail;go_roundw
    case rel=>exact GO.q ah
    case measure=>exact ME.q ah
   .have u:(r !=46)=true:=lF.2 ah
    have y:(r !=95)=true:=lF.2 ah;have z:decide (r<48)=false:=bE ah;have A:decide (57<r)=true:=bT ah;have F:decide (r<97)=true:=bT ah;have K:decide (122<r)=false:=bE ah;have P:decide (r<65)=false:=bE ah;have Q:decide (90<r)=false:=bE ah;go_wp2_with fail;go_roundw
    case rel=>exact GO.q ah
    case measure=>exact ME.q ah
   .have u:(r !=46)=true:=lF.2 ah
    have y:(r !=95)=true:=lF.2 ah;have z:decide (r<48)=true:=bT ah;have A:decide (57<r)=false:=bE ah;have F:decide (r<97)=true:=bT ah;have K:decide (122<r)=false:=bE ah;have P:decide (r<65)=true:=bT ah;have Q:decide (90<r)=false:=bE ah;go_wp2_with fail;go_ret;exact⟨by rw[q.q ah];rfl,j.q⟩
   .subst e
    go_wp2_with fail;go_ret;exact⟨by rw[q.q aj];rfl,j.q⟩
   .have u:(r !=46)=true:=lF.2 ah
    have y:(r !=95)=true:=lF.2 ah;have z:decide (r<48)=false:=bE ah;have A:decide (57<r)=true:=bT ah;have F:decide (r<97)=true:=bT ah;have K:decide (122<r)=false:=bE ah;have P:decide (r<65)=true:=bT ah;have Q:decide (90<r)=false:=bE ah;go_wp2_with fail;go_ret;exact⟨by rw[q.q ah];rfl,j.q⟩
   .have u:(r !=46)=true:=lF.2 ah
    have y:(r !=95)=true:=lF.2 ah;have z:decide (r<48)=false:=bE ah;have A:decide (57<r)=true:=bT ah;have F:decide (r<97)=true:=bT ah;have K:decide (122<r)=false:=bE ah;have P:decide (r<65)=false:=bE ah;have Q:decide (90<r)=true:=bT ah;go_wp2_with fail;go_ret;exact⟨by rw[q.q ah];rfl,j.q⟩
   .subst e
    go_wp2_with fail;go_ret;exact⟨by rw[q.q aj];rfl,j.q⟩
   .have u:(r !=46)=true:=lF.2 ah
    have y:(r !=95)=true:=lF.2 ah;have z:decide (r<48)=false:=bE ah;have A:decide (57<r)=true:=bT ah;have F:decide (r<97)=false:=bE ah;have K:decide (122<r)=true:=bT ah;have P:decide (r<65)=false:=bE ah;have Q:decide (90<r)=true:=bT ah;go_wp2_with fail;go_ret;exact⟨by rw[q.q ah];rfl,j.q⟩
  .have ε:∀g,(Instr.next (.pointer (O ⟨w.1.size,0,H⟩)) true g).run Tryz.prog wr=_:=λg=>Lib.run_next_end_at wr w.1.size ⟨l.toArray⟩ k g S (by rw[gN];exact hp)
   have HX:Hid (fw l=l):=J (Pt nD l (by rw[gF ah] at Z;exact Z));have HB:=J γ;clear Z γ;go_wp2_with fail;go_ret;exact⟨by rw[HX.q];rfl,HB.q⟩
theorem zP (r:Int)(w:World):Calls Tryz.prog 193 #[.int .i32 r] w (cO (.bool (kJ r)) w):=by
 by_cases b:48<=r <;> by_cases d:r<=57
 all_goals
  go_enter func193,ntmps193;go_wp2_with fail;go_ret;exact⟨by simp[kJ,b,d],Below.refl _ _⟩
def lD (l:Bs):Bs:=if l.head?=O 45 then(if(l.tail.takeWhile iO).length=0 then [] else l.take ((l.tail.takeWhile iO).length+1)) else l.takeWhile iO
theorem CG (b:UInt8):iO b=(decide (48<=b.toNat) && decide (b.toNat<=57)):=rfl
def hz (l:Bs):V:=if l.head?=O 45 then 1 else 0
def Ba (l:Bs)(k e:V):Prop:=(k=0/\e=0)\/(hz l<=k/\(∀x∈(l.take k).drop (hz l),iO x=true)/\e=(if k=hz l then 0 else k))
theorem Pv {q:UInt8->Bool}(d:∀x∈l.take k,q x=true)(e:k=l.length\/∃b,l[k]?=O b/\q b=false)(i:k<=l.length):(l.takeWhile q).length=k/\l.takeWhile q=l.take k:=by
 rcases e with rfl|⟨b,f,g⟩
 .rw[List.take_length] at d ⊢
  rw[Pt q l d];exact⟨rfl,rfl⟩
 .rw[ET q l k b d f g]
  exact⟨by rw[fB];omega,rfl⟩
variable{e:V}
theorem EU (d:Ba l k e)(i:k<=l.length)(o:k=l.length\/∃b,l[k]?=O b/\iO b=false/\¬(k=0/\b=45)):lD l=l.take e/\e<=l.length:=by
 unfold lD;by_cases f:l.head?=O 45
 .rw[av f]
  obtain⟨t,rfl⟩:∃t,l=45::t:=by cases l with
   |nil=>simp at f
   |cons a t=>exact⟨t,by simpa using f⟩
  have y:hz (45::t)=1:=rfl;unfold Ba at d;rw[y] at d;rcases d with⟨rfl,rfl⟩|⟨K,p,m⟩
  .exfalso
   rcases o with d|⟨b,g,_,z⟩
   .simp at d
   .exact z ⟨rfl,by simpa using g.symm⟩
  .obtain⟨j,rfl⟩:∃j,k=j+1:=⟨k - 1,by omega⟩
   have A:((45::t:Bs).tail.takeWhile iO).length=j/\_:=Pv (l:=t) (k:=j) (by simpa using p) (by
    rcases o with d|⟨b,g,q,_⟩
    .exact .inl (by simpa using d)
    .exact .inr ⟨b,by simpa using g,q⟩) (by simpa using i)
   rw[A.1];by_cases r:j=0
   .subst r;rw[av rfl,m,av rfl];exact⟨rfl,bn _⟩
   .rw[au r,m,au ah];exact⟨rfl,i⟩
 .rw[au f]
  have F:hz l=0:=au f;unfold Ba at d;rw[F] at d;have u:e=k/\∀x∈l.take k,iO x=true:=by
   rcases d with⟨rfl,rfl⟩|⟨_,p,m⟩
   .exact⟨rfl,by simp⟩
   .exact⟨by rw[m];split <;> omega,by simpa using p⟩
  rw[u.1];exact⟨(Pv u.2 (by
   rcases o with d|⟨b,g,q,_⟩
   .exact .inl d
   .exact .inr ⟨b,g,q⟩) i).2,i⟩
theorem Ze (g:Ba l k e)(f:l[k]?=O b)(i:iO b=true):Ba l (k+1) (k+1):=by
 have p:hz l<=k:=by
  rcases g with⟨rfl,_⟩|⟨j,_⟩
  .unfold hz
   split
   .rename_i m
    exfalso
    cases l with
    |nil=>simp at f
    |cons a t=>
     obtain rfl:a=b:=by simpa using f
     obtain rfl:a=45:=by simpa using m
     exact absurd i aj
   .omega
  .exact j
 refine .inr ⟨by omega,λx d=>?_,by rw[au ah]⟩;rw[ig,f,List.drop_append_of_le_length (by rw[fB];have:=(bK.1 f).1;omega)] at d;rcases cu.1 d with d|d
 .rcases g with⟨rfl,_⟩|⟨_,o,_⟩
  .simp at d
  .exact o x d
 .obtain rfl:x=b:=by simpa using d
  exact i
theorem UZ (b:Ba l 0 e)(f:l[0]?=O 45):e=0/\Ba l 1 0:=by
 have i:l.head?=O 45:=by cases l with
  |nil=>simp at f
  |cons a t=>simpa using f
 have g:hz l=1:=av i;refine⟨?_,.inr ⟨by omega,λx d=>?_,by rw[g,av rfl]⟩⟩
 .rcases b with⟨_,b⟩|⟨j,_⟩
  .exact b
  .omega
 .rw[g] at d
  cases l with
  |nil=>simp at d
  |cons a t=>simp at d
theorem Kj (l:Bs)(ω:l.length<=1000000)(w:World):Calls Tryz.prog 182 #[.string ⟨l.toArray⟩] w (pz (.string ⟨(lD l).toArray⟩) (.string ⟨(l.drop (lD l).length).toArray⟩) w):=by
 obtain⟨X,hX⟩:∃X,X=lD l:=⟨_,rfl⟩;rw[<-hX];have HX:=J hX;have Γ:=gN l;clear hX;go_enter func182,ntmps182;go_wp2_with fail
 go_step3
 go_wp2_with fail
 go_step3
 go_wp2_with fail
 go_loopw [4] (λv wr=>∃k e:V,v= G C e/\k<=l.length/\e<=l.length/\wr.1[w.1.size]?=O (.stringIter ⟨l.toArray⟩ k)/\Below w.1.size w wr/\Ba l k e) (λ_ wr=>l.length - wr.iterPos w.1.size)
 case atStart=>exact⟨0,0,rfl,bn _,bn _,World.iter_heap w ⟨l.toArray⟩ 0,jD w ⟨l.toArray⟩,.inl ⟨rfl,rfl⟩⟩
 case round=>
  obtain⟨k,e,rfl,hk,Δ,x,K,P⟩:=hrel;by_cases hp:k<l.length
  .obtain⟨b,t,δ⟩:∃b t,l.drop k=b::t:=⟨_,_,lW hp⟩
   have ε:∀q,(Instr.next (.pointer (O ⟨w.1.size,0,H⟩)) true q).run Tryz.prog wr=_:=λq=>Lib.run_next_any_at wr w.1.size ⟨l.toArray⟩ k q x (by rw[gN];exact hp)
   have ζ:=pW l k;rw[δ] at ζ;rw[ζ] at ε;have μ:l[k]?=O b:=by
    have:=bJ (λl=>l[0]?) δ
    simpa using this
   obtain⟨r,d,Q,R⟩:∃(r:Int)(d:V),r=((Utf8.decode ⟨(b::t).toArray⟩ 0).1:Int)/\d=(Utf8.decode ⟨(b::t).toArray⟩ 0).2:=⟨_,_,rfl,rfl⟩;have η:(b.toNat<128/\r=b.toNat/\d=1)\/(128<=b.toNat/\128<=r):=by
    rcases iM b.toNat 128 with f|f
    .rw[nU b t f] at Q R;exact .inl ⟨f,Q,R⟩
    .have:=(vw b t f).1;exact .inr ⟨f,by omega⟩
   rw[<-Q,<-R] at ε;have ν:=Lib.iterAt_heap wr w.1.size ⟨l.toArray⟩ k (k+d) x;have ξ:=Lib.below_iterAt K (k:=w.1.size) (aB _) ⟨l.toArray⟩ (k+d);have θ:=J η;have S:=J P;have Z:=J μ;have j:=J ξ;have γ:=J ν;have ο:=J x;have π:iO b=kJ r:=by
    rw[CG];unfold kJ;rcases η with⟨f,m,y⟩|⟨f,m⟩
    .rw[m];congr 1 <;> exact decide_eq_decide.2 ah
    .rw[bE (show ¬b.toNat<=57 by omega),bE (show ¬r<=57 by omega),Bool.and_false,Bool.and_false]
   have ι:=J π;clear η P μ ξ ν K ζ Q R δ x π
   cases o:kJ r
   .by_cases z:k=0/\r=45
    .obtain⟨rfl,rfl⟩:=z
     have τ:b=45/\d=1:=by
      rcases θ.q with⟨f,m,y⟩|⟨f,m⟩
      .exact⟨iV.1 (by show b.toNat=45;omega),y⟩
      .exfalso;omega
     obtain⟨rfl,rfl⟩:=τ;obtain⟨h0,f⟩:=UZ S.q Z.q;have H1:=J f;have υ:Hid ((wr.iterAt w.1.size ⟨l.toArray⟩ (0+1)).1[w.1.size]?=O (.stringIter ⟨l.toArray⟩ 1)):=γ;clear f
     go_wp2_with (first|(go_at_call 193;refine(zP _ _).mono ?_;rintro e w3 ⟨rfl,i⟩;rw[o];have u:=J (j.q.bQ i);have A:=J ((i.block w.1.size (by have:=(dS.1 γ.q).1;exact this)).trans υ.q);clear i)|fail)
     go_roundw
     case rel=>exact⟨1,0,rfl,by omega,bn _,A.q,u.q,H1.q⟩
     case measure=>rw[iterPos_of A.q,iterPos_of ο.q];omega
    .by_cases κ:k=0
     .subst κ
      rw[bD] at j;have Θ:(r !=45)=true:=lF.2 (λe=>z ⟨rfl,e⟩);have φ:=J z;clear z;have g:=J (EU S.q ah (.inr ⟨b,Z.q,by rw[ι.q,o],λe=>φ.q ⟨rfl,by rcases θ.q with⟨f,m,y⟩|⟨f,m⟩ <;> (rw[e.2] at f;simp at f);rw[m,e.2];rfl⟩⟩));have ρ:=λW=>wz Tryz.underlying9 l e g.q.2 W
      have σ:=λW=>nk Tryz.underlying9 l e g.q.2 W
      have p:(l.take e).length=e:=by rw[fB];have:=g.q.2;omega
      have F:=J p;clear p
      go_wp2_with (first|(go_at_call 193;refine(zP _ _).mono ?_;rintro e w3 ⟨rfl,i⟩;rw[o];have u:=J (j.q.bQ i);clear i)|go_quiet (fail))
      change bodyPost _ _ _ Exit.ret _ _
      go_ret2
      exact⟨by rw[HX.q,g.q.1,F.q];rfl,gu u.q _⟩
     .have Ξ:decide ((0:Int)<(k:Int))=true:=bT ah
      have Φ:decide (0<k)=true:=bT ah;have χ:=J κ;clear κ z;have g:=J (EU S.q ah (.inr ⟨b,Z.q,by rw[ι.q,o],λe=>χ.q e.1⟩));have ρ:=λW=>wz Tryz.underlying9 l e g.q.2 W
      have σ:=λW=>nk Tryz.underlying9 l e g.q.2 W
      have p:(l.take e).length=e:=by rw[fB];have:=g.q.2;omega
      have F:=J p;clear p
      go_wp2_with (first|(go_at_call 193;refine(zP _ _).mono ?_;rintro e w3 ⟨rfl,i⟩;rw[o];have u:=J (j.q.bQ i);clear i)|go_quiet (fail))
      change bodyPost _ _ _ Exit.ret _ _
      go_ret2
      exact⟨by rw[HX.q,g.q.1,F.q];rfl,gu u.q _⟩
   .have ψ:d=1:=by
     rcases θ.q with⟨f,m,y⟩|⟨f,m⟩
     .exact y
     .simp[kJ] at o;omega
    subst ψ;have H1:=J (Ze S.q Z.q (by rw[ι.q,o]))
    go_wp2_with (first|(go_at_call 193;refine(zP _ _).mono ?_;rintro e w3 ⟨rfl,i⟩;rw[o];have u:=J (j.q.bQ i);have A:=J ((i.block w.1.size (by have:=(dS.1 γ.q).1;exact this)).trans γ.q);clear i)|fail)
    go_roundw
    case rel=>exact⟨k+1,k+1,by go_num,by omega,by omega,A.q,u.q,H1.q⟩
    case measure=>rw[iterPos_of A.q,iterPos_of ο.q];omega
  .have ε:∀q,(Instr.next (.pointer (O ⟨w.1.size,0,H⟩)) true q).run Tryz.prog wr=_:=λq=>Lib.run_next_end_at wr w.1.size ⟨l.toArray⟩ k q x (by rw[gN];exact hp)
   have g:=J (EU P hk (.inl ah));have ρ:=λW=>wz Tryz.underlying9 l e g.q.2 W
   have σ:=λW=>nk Tryz.underlying9 l e g.q.2 W
   have p:(l.take e).length=e:=by rw[fB];have:=g.q.2;omega
   have F:=J p;have HB:=J K;clear p K P
   go_wp2_with (go_quiet (fail))
   change bodyPost _ _ _ Exit.ret _ _
   go_ret2
   exact⟨by rw[HX.q,g.q.1,F.q];rfl,gu HB.q _⟩
theorem U0 (i:V)(b:i<=9)(W:World):(callFunc 197 #[.int .u64 0,.int .u64 (i:Int),.int .u64 0]).run Tryz.prog W= .ok (.value (.tuple #[.int .u64 (i:Int),.int .u64 0])) W:=by
 rw[run_callFunc_extern (e:=add64Entry) func197 ay ay ay ay,run_add64 0 i 0 ah ah ah ah];rw[show(0+(i:Int)+0) % 18446744073709551616=(i:Int) by omega,show(0+(i:Int)+0) / 18446744073709551616=0 by omega];rfl
theorem U1 (i:V)(b:i<=9)(w:World):Calls Tryz.prog 187 #[.agg #[.int .u64 0,.bool false,.bool false],.int .i32 ((48+i:V):Int)] w (cO (.agg #[.int .u64 i,.bool false,.bool false]) w):=by
 have d:=λW=>J (Tryz.bits_Mul64 0 10 aj aj W)
 have g:=J (aA (aA (Below.refl w.1.size w) (N #[.int .u64 0,.bool false,.bool false] 250)) (N #[.int .u64 0,.bool false,.bool false] 250));have f:=λW=>U0 i b W
 have j:=J ((Bx.new w #[.int .u64 0,.bool false,.bool false] 250).alloc (N #[.int .u64 0,.bool false,.bool false] 250));rcases(by omega:i=0\/i=1\/i=2\/i=3\/i=4\/i=5\/i=6\/i=7\/i=8\/i=9) with rfl|rfl|rfl|rfl|rfl|rfl|rfl|rfl|rfl|rfl
 all_goals
  simp only[Int.cast_ofNat_Int] at f;go_enter func187,ntmps187;go_wp2_with fail;refine(d _).q.mono ?_;rintro e l ⟨rfl,rfl⟩;go_wp2_with fail;refine bodyPost_ret (v:=_) ?_ rfl ⟨rfl,aA (aA (Below.refl _ _) _) _⟩;simp[results,results187,go_sem]
theorem Pw (i:V)(b:i<=9)(w:World):Calls Tryz.prog 188 #[.agg #[.int .u64 i,.bool false,.bool false]] w (pz (G C i) (.bool true) w):=by
 rcases(by omega:i=0\/i=1\/i=2\/i=3\/i=4\/i=5\/i=6\/i=7\/i=8\/i=9) with rfl|rfl|rfl|rfl|rfl|rfl|rfl|rfl|rfl|rfl
 all_goals
  go_enter func188,ntmps188;go_wp2_with fail
  go_ret2
  exact⟨rfl,aA (Below.refl _ _) _⟩
theorem RH (b:UInt8)(d:iO b=true)(e:b≠45):lD [b]=[b]:=by
 unfold lD;rw[au (by simp[e])];simp[d]
theorem TW (b:UInt8)(l:48<=b.toNat)(y:b.toNat<=57)(w:World):Calls Tryz.prog 174 #[.string ⟨#[b]⟩] w (pz (G C ((b.toNat - 48:V):Int)) (G C 0) w):=by
 obtain⟨i,z⟩:∃i,i=b.toNat - 48:=⟨_,rfl⟩;rw[<-z];have A:48+i=b.toNat:=by omega
 have F:=λW=>J (Kj [b] ak W)
 rw[RH b (by rw[CG];simp[l,y]) (λe=>by rw[e] at l;exact absurd l aj)] at F;have K:=λW=>J (U1 i ah W)
 have HN:=λW=>J (Pw i ah W)
 rw[A] at K;have φ:∀W,(Instr.index 9 (.string ⟨#[b]⟩) (G C 0)).run Tryz.prog W= .ok (.int .u8 (b.toNat:Int)) W:=λW=>jA Tryz.underlying9 [b] 0 b rfl W
 have χ:((b.toNat:Int)==45)=false:=aX.2 ah;have ψ:(([b]:Bs)==([]:Bs))=false:=rfl;have HD:=J (nU b [] ah);clear l y z A
 cases h0:((b.toNat:Int)==48)
 all_goals
  go_enter func174,ntmps174;go_wp2_with fail;refine(F _).q.mono ?_;rintro e d ⟨rfl,m⟩;have η:=J ((aA m (N #[.int .u64 0,.bool false,.bool false] 250)).trans (jD _ ⟨#[b]⟩|>.mono (by have:=m.size;simp;omega)));have θ:=J (((Bx.new d #[.int .u64 0,.bool false,.bool false] 250)).keep (jD _ ⟨#[b]⟩));have Q:Hid (w.1.size<=d.1.size):=J m.size;clear m;go_wp2_with fail
  go_loopw [] (λwr=>∃(W:World)(k v:V),W=wr/\((k=0/\v=0)\/(k=1/\v=i))/\wr.1[d.1.size+1]?=O (.stringIter ⟨#[b]⟩ k)/\Bx wr d.1.size #[.int .u64 v,.bool false,.bool false]/\Below w.1.size w wr) (λwr=>2 - wr.iterPos (d.1.size+1))
  case atStart=>exact⟨_,0,0,rfl,.inl ⟨rfl,rfl⟩,(by have:=World.iter_heap (d.alloc (N #[.int .u64 0,.bool false,.bool false] 250)) ⟨#[b]⟩ 0;rwa[World.size_alloc] at this),θ.q,η.q⟩
  case round=>
   obtain⟨W,k,v,rfl,ι,g,o,R⟩:=hrel;have κ:=J g;have μ:=J o;have r:=J R;have ν:=o.1;have ξ:=o.2.1;clear o R;rcases ι with⟨rfl,rfl⟩|⟨rfl,rfl⟩
   .have ο:∀f,(Instr.next (.pointer (O ⟨d.1.size+1,0,H⟩)) true f).run Tryz.prog W= .ok (.tuple #[.bool true,G C 0,.int .i32 (b.toNat:Int)]) (W.iterAt (d.1.size+1) ⟨#[b]⟩ 1):=λf=>by
     have h:=Lib.run_next_any_at (P:=Tryz.prog) W (d.1.size+1) ⟨#[b]⟩ 0 f g (by simp[ByteArray.size]);rw[show Utf8.decode ⟨#[b]⟩ 0=(b.toNat,1) from HD.q] at h;exact h
    have S:=J (Lib.iterAt_heap W (d.1.size+1) ⟨#[b]⟩ 0 1 g);have Z:=J (Lib.below_iterAt r.q (k:=d.1.size+1) (by have:=Q.q;omega) ⟨#[b]⟩ 1);clear g;have t:=μ.q.of_eq (Y:=W.iterAt (d.1.size+1) ⟨#[b]⟩ 1) (by rw[Lib.iterAt_size];exact aB _) (Lib.iterAt_other W _ _ _ _ ah);have π:=t.1;have ρ:=J t;clear t ν ξ;go_wp2_with fail;refine(K _).q.mono ?_;rintro e u ⟨rfl,p⟩;have γ:=J (Z.q.bQ p);have q:=ρ.q.keep p;have σ:=J q;have ω:=q.1;have Γ:=q.2.1;have δ:=J ((p.block (d.1.size+1) (dS.1 S.q).1).trans S.q);clear p q π;go_wp2_with fail;have x:Same (λj=>j≠d.1.size) u (((u.setCell ⟨d.1.size,0,H⟩ (.int .u64 i)).setCell ⟨d.1.size,1,H⟩ (.bool false)).setCell ⟨d.1.size,2,H⟩ (.bool false)):=(((Same.refl' u).setTail (λh=>h rfl)).setTail (λh=>h rfl)).setTail (λh=>h rfl);have ε:=J ((x.block (d.1.size+1) ah (dS.1 δ.q).1).trans δ.q);have τ:=J (x.below γ.q (λj hj=>by have:=Q.q;omega) γ.q.size);clear x;go_roundw
    case rel=>exact⟨_,1,i,rfl,.inr ⟨rfl,rfl⟩,ε.q,((σ.q.bB 0 ak (.int .u64 i)).bB 1 ak (.bool false)).bB 2 ak (.bool false),τ.q⟩
    case measure=>rw[iterPos_of ε.q,iterPos_of κ.q];omega
   .have ο:∀f,(Instr.next (.pointer (O ⟨d.1.size+1,0,H⟩)) true f).run Tryz.prog W=_:=λf=>Lib.run_next_end_at W (d.1.size+1) ⟨#[b]⟩ 1 f g (by simp[ByteArray.size])
    clear g;go_wp2_with fail;refine(HN _).q.mono ?_;rintro e w3 ⟨rfl,ζ⟩;have υ:=J (r.q.bQ ζ);clear ζ;go_wp2_with fail
    go_ret2
    exact⟨rfl,υ.q⟩
def eF (s:aJ):Prop:=(∀x∈s.names,bG ⟨x.toArray⟩=true)/\(∀t∈s.aN,jK t)/\
 ((s.kind=1/\s.names.length=2/\s.aN=[]/\(∃d:V,s.lvl=d/\1<=d/\d<=4)/\s.first=false/\s.bits=0)\/
 (s.kind=2/\s.names.length=2/\s.aN=[]/\s.lvl=0/\s.first=false/\s.bits=0)\/
 (s.kind=3/\s.names.length=2/\s.aN.length=1/\s.lvl=0/\s.first=false/\s.bits=0)\/
 (s.kind=4/\(∃c:V,s.names.length=c+2/\s.aN.length=c/\c<=40)/\True/\s.lvl=0/\s.first=false/\s.bits=0)\/
 (s.kind=5/\s.names.length=1/\s.aN=[]/\s.lvl=0/\s.first=false/\s.bits=0)\/
 (s.kind=6/\s.names.length=1/\s.aN=[]/\s.lvl=0/\s.first=false/\s.bits=0)\/
 (s.kind=7/\(∃c:V,s.names.length=c+1/\c<=300)/\s.aN=[]/\s.lvl=0/\s.first=false/\s.bits=0)\/
 (s.kind=8/\(∃c:V,s.names.length=c+2/\c<=300)/\s.aN=[]/\s.lvl=0/\True/\s.bits=0)\/
 (s.kind=9/\s.names.length=1/\s.aN=[]/\s.lvl=0/\s.first=false/\(∃b:V,s.bits=b/\b<=15)))
theorem eF.len {s:aJ}(f:eF s):s.names.length<=1000/\s.aN.length<=1000:=by
 rcases f.2.2 with⟨_,d,b,_⟩|⟨_,d,b,_⟩|⟨_,d,b,_⟩|⟨_,d,b,_⟩|⟨_,d,b,_⟩|⟨_,d,b,_⟩|⟨_,d,b,_⟩|⟨_,d,b,_⟩|⟨_,d,b,_⟩
 .rw[b];exact⟨by omega,by decide⟩
 .rw[b];exact⟨by omega,by decide⟩
 .omega
 .obtain⟨c,d,b,e⟩:=d;omega
 .rw[b];exact⟨by omega,by decide⟩
 .rw[b];exact⟨by omega,by decide⟩
 .obtain⟨c,d,e⟩:=d;rw[b];exact⟨by omega,by decide⟩
 .obtain⟨c,d,e⟩:=d;rw[b];exact⟨by omega,by decide⟩
 .rw[b];exact⟨by omega,by decide⟩
theorem Px (l:U (Bs × To)):(l.flatMap (λp=>[p.1,fU p.2])).length=2*l.length:=by
 induction l with
 |nil=>rfl
 |cons a l b=>rw[gZ,bO,b,dK];simp only[dK,gY];omega
theorem J5 {s:aJ}(b:s.names.length<=1000)(d:s.aN.length<=1000):(lG s).length<=5000:=by
 have ha:(if dD s.kind.toNat=108 then [jQ s.lvl.toNat] else if dD s.kind.toNat=118 then(s.aN.take 1).map fU else if dD s.kind.toNat=103 then mY s.bits else if dD s.kind.toNat=109/\s.first=true then [[45]] else([]:U Bs)).length<=4:=by
  split
  .simp
  .split
   .rw[bg,fB];omega
   .split
    .exact Cm _ 4
    .split <;> decide
 have e:(if dD s.kind.toNat=115 then((s.names.drop (bY s.kind.toNat).toNat).zip s.aN).flatMap (λp=>[p.1,fU p.2]) else s.names.drop (bY s.kind.toNat).toNat).length<=2000:=by
  split
  .rw[Px,xD];omega
  .rw[gI];omega
 have f:(s.names.take (bY s.kind.toNat).toNat).length<=1000:=by rw[fB];omega
 simp only[lG,fA,dK,bO] at*;omega
theorem Py {s:aJ}(b:eF s):(lC s).length<=300000:=by
 have d:=J5 b.len.1 b.len.2;have e:=CZ _ (FZ s b.1 b.2.1);simp only[lC,bO,dK,gY];omega
def toB (t:To):Bool:=if t.k=0 then decide (t=⟨[],0⟩) else bG ⟨t.name.toArray⟩ && (decide (0<t.k) && decide (t.k<=999))
theorem Pz (t:To):toB t=true↔jK t:=by
 unfold toB jK;by_cases h:t.k=0
 .rw[av h]
  simp only[aV];exact⟨.inl,λk=>k.elim id λk=>by omega⟩
 .rw[au h]
  simp only[aM,aV];exact⟨.inr,λk=>k.elim (λk=>absurd (by rw[k]) h) id⟩
def kI (r b:Int):Int:=if r=118 then 1 else if r=115 then b else 0
def vv (k:V)(s:aJ):Bool:=
 (decide (bY k<=(s.names.length:Int)) && decide ((s.names.length:Int) - bY k<=iT (dD k)) && decide ((s.aN.length:Int)=kI (dD k) ((s.names.length:Int) - bY k)) && s.aN.all toB)
 && s.names.all (λx=>bG ⟨x.toArray⟩)
 && (((dD k==108)==(s.lvl !=0)) && (!s.first||dD k==109) && (s.bits==0||(dD k==103 && (decide (0<s.bits) && decide (s.bits<=15)))))
 && (s.lvl==0||fO s.lvl)
def jP (s:aJ):Bool:=decide (0<=s.kind) && decide (s.kind<10) && vv s.kind.toNat s
theorem U2 (t:To)(w:World)(l:Lib.Utf8Tabs 6 7 w):Calls Tryz.prog 91 #[pR t] w (cO (.bool (toB t)) w):=by
 obtain⟨n,k⟩:=t;have u:=O3 ⟨n,k⟩ ⟨[],0⟩;by_cases i:k=0
 .subst i
  have o:toB ⟨n,0⟩=decide ((⟨n,0⟩:To)=⟨[],0⟩):=by unfold toB;rw[av rfl]
  rw[o];clear o l;go_enter func91,ntmps91;go_wp2_with fail;go_ret;exact⟨by simp,aA (Below.refl _ _) _⟩
 .have m:=aA (Below.refl w.1.size w) (N #[.string ⟨n.toArray⟩,G C k] 130)
  have f:=J (yw n _ (Utf8Tabs_below l m));have d:=J m;have p:=J (Bx.new w #[.string ⟨n.toArray⟩,G C k] 130);have y:(k==0)=false:=aX.2 i;have q:toB ⟨n,k⟩=(bG ⟨n.toArray⟩ && (decide (0<k) && decide (k<=999))):=by unfold toB;rw[au i]
  rw[q];clear l m i q u
  cases j:bG ⟨n.toArray⟩
  .rw[j] at f
   clear j;go_enter func91,ntmps91;go_wp2_with fail;refine f.q.mono ?_;rintro e r ⟨rfl,b⟩;have g:=J (d.q.bQ b);clear b;simp only[yV,fG];go_wp2_with fail;go_ret;exact⟨rfl,g.q⟩
  .rw[j] at f
   clear j
   cases z:decide (0<k)
   .go_enter func91,ntmps91
    go_wp2_with fail;refine f.q.mono ?_;rintro e r ⟨rfl,b⟩;have x:=(p.q.keep b).1;have g:=J (d.q.bQ b);clear b;simp only[bR];go_wp2_with fail;go_ret;exact⟨rfl,g.q⟩
   .cases A:decide (k<=999)
    all_goals
     go_enter func91,ntmps91;go_wp2_with fail;refine f.q.mono ?_;rintro e r ⟨rfl,b⟩;have x:=(p.q.keep b).1;have g:=J (d.q.bQ b);clear b;simp only[bR];go_wp2_with fail;go_ret;exact⟨rfl,g.q⟩
theorem MU (t:To)(w:World)(d:Lib.Utf8Tabs 6 7 w):Calls Tryz.prog 90 #[pR t] w (cO (.bool (!toB t)) w):=by
 have b:=aA (Below.refl w.1.size w) (N (KR t) 130);have i:=J (U2 t _ (Utf8Tabs_below d b));have f:=J b;clear d b;go_enter func90,ntmps90;go_wp2_with fail;refine i.q.mono ?_;rintro e l ⟨rfl,g⟩;have j:=J (f.q.bQ g);clear g;go_wp2_with fail;go_ret;exact⟨rfl,j.q⟩
theorem PD (l:Int)(w:World)(f:jM w):Calls Tryz.prog 59 #[G C l] w (λe g=>(∃t:Bs,e= .returned (.tuple #[.string ⟨t.toArray⟩,G C (if fO l=true then 0 else 190)]))/\Below w.1.size w g):=by
 cases d:fO l
 .have i:=J (Bb d)
  clear d f;go_enter func59,ntmps59;go_wp2_with fail;refine(yx _ _).mono ?_;rintro e j ⟨rfl,b⟩;rw[i.q];have m:=J b;clear b;go_wp2_with fail
  go_ret2
  exact⟨⟨[],rfl⟩,m.q⟩
 .have h:=d
  simp only[fO,aM,aV] at h;obtain⟨n,rfl⟩:∃n:V,l=(n:Int):=⟨l.toNat,by omega⟩;refine(FP n ah ah w f).mono ?_;rintro e j ⟨rfl,b⟩;exact⟨⟨_,rfl⟩,b⟩
theorem fV.RI {l:bH}{s:aJ}(b:fV w B l s)(f:s.names.length<=1000000)(d:Lib.Utf8Tabs 6 7 w):
  Calls Tryz.prog 92 #[I l.na l.nn l.nc,.func (.func 93) #[] #[]] w (cO (.bool (!s.names.all (λx=>bG ⟨x.toArray⟩))) w):=by
 have:=KZ l.na l.nn l.nc 93 #[] s.names (λs=>!bG ⟨s.toArray⟩) w (b.2.1.row ah) KY (λx _ W e=>by simpa using Ea x W (Utf8Tabs_below d e))
 rwa[show s.names.any (λs=>!bG ⟨s.toArray⟩)=!s.names.all (λx=>bG ⟨x.toArray⟩) by simp[List.any_eq_not_all_not]] at this
theorem fV.U3 {l:bH}{s:aJ}(b:fV w B l s)(f:s.aN.length<=1000000)(d:Lib.Utf8Tabs 6 7 w):
  Calls Tryz.prog 89 #[I l.va l.vn l.vc,.func (.func 90) #[] #[]] w (cO (.bool (!s.aN.all toB)) w):=by
 have:=Pm l.va l.vn l.vc 90 #[] s.aN (λt=>!toB t) w (b.2.2.row ah) KX (λx g W e=>by simpa using MU x W (Utf8Tabs_below d e))
 rwa[show s.aN.any (λt=>!toB t)=!s.aN.all toB by simp[List.any_eq_not_all_not]] at this
theorem K5 {b:U To}(d:b.all toB=true):∀t∈b,jK t:=λt e=>(Pz t).1 (dZ.1 d t e)
theorem wO {s:aJ}(i:jP s=true):s.kind=0\/eF s:=by
 obtain⟨Q,j,A,K,first,y⟩:=s;unfold jP vv at i;simp only[aM,aV] at i;obtain⟨⟨P,γ⟩,⟨⟨⟨⟨⟨l,m⟩,g⟩,R⟩,S⟩,⟨e,f⟩,d⟩,c⟩:=i;obtain⟨k,rfl⟩:∃k:V,Q=(k:Int):=⟨Q.toNat,by omega⟩;simp only[jL] at l m g e f d;have o:∀x∈j,bG ⟨x.toArray⟩=true:=dZ.1 S;have p:=K5 R;have z:(K.length:Int)=0->K=[]:=λi=>vU ah
 have q:∀(r:Int),(y==0||(r==103 && (decide (0<y) && decide (y<=15))))=true->r≠103->y=0:=λr i F=>by
  rw[aX.2 F] at i;simpa using i
 have t:∀(r:Int),(!first||r==109)=true->r≠109->first=false:=λr i F=>by
  rw[aX.2 F] at i;simpa using i
 have u:∀(r:Int),((r==108)==(A !=0))=true->r≠108->A=0:=λr i F=>by
  rw[aX.2 F] at i;simpa using i
 rcases(by omega:k=0\/k=1\/k=2\/k=3\/k=4\/k=5\/k=6\/k=7\/k=8\/k=9) with rfl|rfl|rfl|rfl|rfl|rfl|rfl|rfl|rfl|rfl
 .exact .inl rfl
 .right
  simp only[bY,dD,kI,iT,Int.reduceEq,fG,or_self] at l m g e f d;have W:A≠0:=by simpa using e
  have Z:fO A=true:=by
   rw[aX.2 W] at c;simpa using c
  simp only[fO,aM,aV] at Z;exact⟨o,p,.inl ⟨rfl,by show j.length=2;omega,z g,⟨A.toNat,by show A=_;omega,by omega,by omega⟩,t _ f aj,q _ d aj⟩⟩
 .right
  simp only[bY,dD,kI,iT,Int.reduceEq,fG,or_self] at l m g e f d;exact⟨o,p,.inr (.inl ⟨rfl,by show j.length=2;omega,z g,u _ e aj,t _ f aj,q _ d aj⟩)⟩
 .right
  simp only[bY,dD,kI,iT,Int.reduceEq,fG,bR,or_self] at l m g e f d;exact⟨o,p,.inr (.inr (.inl ⟨rfl,by show j.length=2;omega,by show K.length=1;omega,u _ e aj,t _ f aj,q _ d aj⟩))⟩
 .right
  simp only[bY,dD,kI,iT,Int.reduceEq,fG,bR,or_self] at l m g e f d;exact⟨o,p,.inr (.inr (.inr (.inl ⟨rfl,⟨j.length - 2,by show j.length=_;omega,by show K.length=_;omega,by omega⟩,trivial,u _ e aj,t _ f aj,q _ d aj⟩)))⟩
 .right
  simp only[bY,dD,kI,iT,Int.reduceEq,fG,or_self] at l m g e f d;exact⟨o,p,.inr (.inr (.inr (.inr (.inl ⟨rfl,by show j.length=1;omega,z g,u _ e aj,t _ f aj,q _ d aj⟩))))⟩
 .right
  simp only[bY,dD,kI,iT,Int.reduceEq,fG,or_self] at l m g e f d;exact⟨o,p,.inr (.inr (.inr (.inr (.inr (.inl ⟨rfl,by show j.length=1;omega,z g,u _ e aj,t _ f aj,q _ d aj⟩)))))⟩
 .right
  simp only[bY,dD,kI,iT,Int.reduceEq,fG,bR,or_false] at l m g e f d;exact⟨o,p,.inr (.inr (.inr (.inr (.inr (.inr (.inl ⟨rfl,⟨j.length - 1,by show j.length=_;omega,by omega⟩,z g,u _ e aj,t _ f aj,q _ d aj⟩))))))⟩
 .right
  simp only[bY,dD,kI,iT,Int.reduceEq,fG,bR,or_true] at l m g e f d;exact⟨o,p,.inr (.inr (.inr (.inr (.inr (.inr (.inr (.inl ⟨rfl,⟨j.length - 2,by show j.length=_;omega,by omega⟩,z g,u _ e aj,trivial,q _ d aj⟩)))))))⟩
 .right
  simp only[bY,dD,kI,iT,Int.reduceEq,fG,or_self] at l m g e f d;have hb:∃b:V,y=b/\b<=15:=by
   by_cases P:y=0
   .exact⟨0,P,by omega⟩
   .rw[aX.2 P] at d
    simp at d;exact⟨y.toNat,by omega,by omega⟩
  exact⟨o,p,.inr (.inr (.inr (.inr (.inr (.inr (.inr (.inr ⟨rfl,by show j.length=1;omega,z g,u _ e aj,t _ f aj,hb⟩)))))))⟩
theorem Cy {s:aJ}(m:eF s):jP s=true:=by
 obtain⟨y,o,z,p,A,F⟩:=s;obtain⟨f,g,i⟩:=m;simp only at f g i;have q:o.all (λx=>bG ⟨x.toArray⟩)=true:=dZ.2 f;have r:p.all toB=true:=dZ.2 (λt u=>(Pz t).2 (g t u));unfold jP vv;rw[q,r];rcases i with⟨rfl,b,rfl,⟨d,rfl,K,P⟩,rfl,rfl⟩|⟨rfl,b,rfl,rfl,rfl,rfl⟩|⟨rfl,b,e,rfl,rfl,rfl⟩|⟨rfl,⟨j,b,e,l⟩,_,rfl,rfl,rfl⟩|⟨rfl,b,rfl,rfl,rfl,rfl⟩|⟨rfl,b,rfl,rfl,rfl,rfl⟩|⟨rfl,⟨j,b,l⟩,rfl,rfl,rfl,rfl⟩|⟨rfl,⟨j,b,l⟩,rfl,rfl,_,rfl⟩|⟨rfl,b,rfl,rfl,rfl,⟨Q,rfl,R⟩⟩
 .have:d=1\/d=2\/d=3\/d=4:=by omega
  rcases this with rfl|rfl|rfl|rfl <;> simp[bY,dD,iT,kI,b,fO]
 .simp[bY,dD,iT,kI,b,fO]
 .simp[bY,dD,iT,kI,b,e,fO]
 .simp[bY,dD,iT,kI,b,e,fO];omega
 .simp[bY,dD,iT,kI,b,fO]
 .simp[bY,dD,iT,kI,b,fO]
 .simp[bY,dD,iT,kI,b,fO];omega
 .simp[bY,dD,iT,kI,b,fO];omega
 .simp[bY,dD,iT,kI,b,fO];omega
def mM (s:aJ):Bs:=if s.kind=0 then [10] else lC s
def Cont.put (c:Cont)(i:V)(s:Bs):Cont:={c with nl:=λj=>if j=i then dJ (c.nl i) s else c.nl j}
def Cont.no (c:Cont)(i:V)(s:Bs):Int:=(qd (c.nl i) s:Int)
def Cont.dh (c:Cont)(v:To):Cont × kg:=if v.k=0 then(c,⟨0,0⟩) else(c.put 0 v.name,⟨c.no 0 v.name,v.k⟩)
def Cont.ts (c:Cont):U Bs->Cont × U Int
 |[]=>(c,[])
 |s::r=>(((c.put 0 s).ts r).1,c.no 0 s::((c.put 0 s).ts r).2)
def Cont.sc (c:Cont):U (Bs × To)->Cont × U Sn
 |[]=>(c,[])
 |p::r=>((((c.put 2 p.1).dh p.2).1.sc r).1,⟨c.no 2 p.1,((c.put 2 p.1).dh p.2).2⟩::(((c.put 2 p.1).dh p.2).1.sc r).2)
@[reducible] def zZ:EvC:=⟨0,0,0,0,0,⟨0,0⟩,0,H,0,0⟩
def Cont.ev (c:Cont)(e:EvC)(s:U Sn):Cont:={c with E:=c.E++[e],SE:=c.SE++[s]}
def fC (b:U EvC)(t x:Int):V:=b.countP (λe=>e.kind==2 && (e.t==t && e.obj==x))
def aT (c:Cont)(l:aJ):Cont:=
 let b:=l.names.getD 0 []
 let d:=l.names.getD 1 []
 if l.kind=1 then((c.put 0 b).put 1 d).ev {zZ with kind:=1,t:=c.no 0 b,eH:=(c.put 0 b).no 1 d,lvl:=l.lvl} []
 else if l.kind=2 then((c.put 0 b).put 2 d).ev {zZ with kind:=2,t:=c.no 0 b,obj:=(c.put 0 b).no 2 d,v:=⟨c.no 0 b,(fC c.E (c.no 0 b) ((c.put 0 b).no 2 d):Int)+1⟩} []
 else if l.kind=3 then(((c.put 0 b).put 2 d).dh (l.aN.getD 0 ⟨[],0⟩)).1.ev {zZ with kind:=3,t:=c.no 0 b,obj:=(c.put 0 b).no 2 d,v:=(((c.put 0 b).put 2 d).dh (l.aN.getD 0 ⟨[],0⟩)).2} []
 else if l.kind=4 then(((c.put 0 b).put 3 d).sc ((l.names.drop 2).zip l.aN)).1.ev {zZ with kind:=4,t:=c.no 0 b,pred:=(c.put 0 b).no 3 d} (((c.put 0 b).put 3 d).sc ((l.names.drop 2).zip l.aN)).2
 else if l.kind=5\/l.kind=6 then(c.put 0 b).ev {zZ with kind:=l.kind,t:=c.no 0 b} []
 else if l.kind=7 then {((c.put 2 b).ts (l.names.drop 1)).1 with D:=c.D++[⟨c.no 2 b,H,0,0⟩],SD:=c.SD++[((c.put 2 b).ts (l.names.drop 1)).2]}
 else if l.kind=8 then {(((c.put 3 b).put 2 d).ts (l.names.drop 2)).1 with M:=c.M++[⟨c.no 3 b,(c.put 3 b).no 2 d,l.first,H,0,0⟩],SM:=c.SM++[(((c.put 3 b).put 2 d).ts (l.names.drop 2)).2]}
 else if l.kind=9 then {c.put 1 b with Q:=c.Q++[⟨c.no 1 b,l.bits⟩]}
 else c
def aI (c:Cont):Prop:=(∀i,i<4->(c.nl i).length<=jU i)/\c.E.length<=3000/\c.D.length<=3000/\c.M.length<=3000/\c.Q.length<=3000/\∀e∈c.E,e.kind=2->e.v.k<=999
structure Gr (c z:Cont):Prop where
 n:∀i,c.nl i<+:z.nl i
 e:c.E<+:z.E
 d:c.D<+:z.D
 m:c.M<+:z.M
 q:c.Q<+:z.Q
theorem Gr.refl (c:Cont):Gr c c:=⟨λ_=>gH _,gH _,gH _,gH _,gH _⟩
theorem Gr.trans {a b c:Cont}(d:Gr a b)(k:Gr b c):Gr a c:=⟨λi=>(d.n i).trans (k.n i),d.e.trans k.e,d.d.trans k.d,d.m.trans k.m,d.q.trans k.q⟩
theorem Gr.fits {c d:Cont}(b:Gr c d)(k:aI d):aI c:=
 ⟨λi f=>bI (b.n i).length_le (k.1 i f),bI b.e.length_le k.2.1,bI b.d.length_le k.2.2.1,bI b.m.length_le k.2.2.2.1,bI b.q.length_le k.2.2.2.2.1,λe g=>k.2.2.2.2.2 e (b.e.subset g)⟩
theorem Gr.put (c:Cont)(i:V)(s:Bs):Gr c (c.put i s):=
 ⟨λj=>by
  show c.nl j<+:(if j=i then dJ (c.nl i) s else c.nl j)
  split
  .rename_i h;subst h;exact CW _ _
  .exact gH _,gH _,gH _,gH _,gH _⟩
theorem Gr.dh (c:Cont)(v:To):Gr c (c.dh v).1:=by
 unfold Cont.dh
 split
 .exact Gr.refl c
 .exact Gr.put c 0 v.name
theorem Gr.ts:∀(l:U Bs)(c:Cont),Gr c (c.ts l).1
 |[],c=>Gr.refl c
 |s::r,c=>(Gr.put c 0 s).trans (Gr.ts r _)
theorem Gr.sc:∀(l:U (Bs × To))(c:Cont),Gr c (c.sc l).1
 |[],c=>Gr.refl c
 |p::r,c=>((Gr.put c 2 p.1).trans (Gr.dh _ p.2)).trans (Gr.sc r _)
theorem Gr.ev (c:Cont)(e:EvC)(s:U Sn):Gr c (c.ev e s):=⟨λ_=>gH _,eu _ _,gH _,gH _,gH _⟩
structure Nm (c z:Cont):Prop where
 e:z.E=c.E
 se:z.SE=c.SE
 d:z.D=c.D
 sd:z.SD=c.SD
 m:z.M=c.M
 sm:z.SM=c.SM
 q:z.Q=c.Q
theorem Nm.refl (c:Cont):Nm c c:=⟨rfl,rfl,rfl,rfl,rfl,rfl,rfl⟩
theorem Nm.trans {a b c:Cont}(d:Nm a b)(k:Nm b c):Nm a c:=⟨k.e.trans d.e,k.se.trans d.se,k.d.trans d.d,k.sd.trans d.sd,k.m.trans d.m,k.sm.trans d.sm,k.q.trans d.q⟩
theorem Nm.put (c:Cont)(i:V)(s:Bs):Nm c (c.put i s):=⟨rfl,rfl,rfl,rfl,rfl,rfl,rfl⟩
theorem Nm.dh (c:Cont)(v:To):Nm c (c.dh v).1:=by
 unfold Cont.dh
 split
 .exact Nm.refl c
 .exact Nm.put c 0 v.name
theorem Nm.ts:∀(l:U Bs)(c:Cont),Nm c (c.ts l).1
 |[],c=>Nm.refl c
 |s::r,c=>(Nm.put c 0 s).trans (Nm.ts r _)
theorem Nm.sc:∀(l:U (Bs × To))(c:Cont),Nm c (c.sc l).1
 |[],c=>Nm.refl c
 |p::r,c=>((Nm.put c 2 p.1).trans (Nm.dh _ p.2)).trans (Nm.sc r _)
theorem Gr.add (c:Cont)(l:aJ):Gr c (aT c l):=by
 unfold aT;simp only[]
 split
 .exact((Gr.put c 0 _).trans (Gr.put _ 1 _)).trans (Gr.ev _ _ _)
 .split
  .exact((Gr.put c 0 _).trans (Gr.put _ 2 _)).trans (Gr.ev _ _ _)
  .split
   .exact(((Gr.put c 0 _).trans (Gr.put _ 2 _)).trans (Gr.dh _ _)).trans (Gr.ev _ _ _)
   .split
    .exact(((Gr.put c 0 _).trans (Gr.put _ 3 _)).trans (Gr.sc _ _)).trans (Gr.ev _ _ _)
    .split
     .exact(Gr.put c 0 _).trans (Gr.ev _ _ _)
     .split
      .have h:=(Gr.put c 2 (l.names.getD 0 [])).trans (Gr.ts (l.names.drop 1) _)
       exact⟨h.n,h.e,eu _ _,h.m,h.q⟩
      .split
       .have h:=((Gr.put c 3 (l.names.getD 0 [])).trans (Gr.put _ 2 (l.names.getD 1 []))).trans (Gr.ts (l.names.drop 2) _)
        exact⟨h.n,h.e,h.d,eu _ _,h.q⟩
       .split
        .have h:=Gr.put c 1 (l.names.getD 0 [])
         exact⟨h.n,h.e,h.d,h.m,eu _ _⟩
        .exact Gr.refl c
def eZ:Cont:=⟨λ_=>[],[],[],[],[],[],[],[]⟩
theorem Xh (c:Cont)(i:V)(s:Bs):(c.put i s).nl=sM c.nl i s:=rfl
theorem Gy:∀(l:U Bs)(c:Cont),(c.ts l).1.nl=(kR c.nl l).1/\(c.ts l).2=(kR c.nl l).2
 |[],_=>⟨rfl,rfl⟩
 |s::r,c=>by
  obtain⟨b,d⟩:=Gy r (c.put 0 s);exact⟨b,bJ (c.no 0 s:: ·) d⟩
theorem K6 {c d:Cont}(b:aI c)(e:Nm c d):aI d↔∀i,i<4->(d.nl i).length<=jU i:=
 ⟨λk=>k.1,λk=>⟨k,by rw[e.e];exact b.2.1,by rw[e.d];exact b.2.2.1,by rw[e.m];exact b.2.2.2.1,by rw[e.q];exact b.2.2.2.2.1,by rw[e.e];exact b.2.2.2.2.2⟩⟩
theorem H6 {c:Cont}{s:Bs}(b:aI c)(d:k<4):aI (c.put k s)↔(dJ (c.nl k) s).length<=jU k:=by
 rw[K6 b (Nm.put c k s),Xh]
 constructor
 .intro h
  have:=h k d;unfold sM at this
  rwa[av rfl] at this
 .intro h i f
  unfold sM
  split
  .rename_i e;subst e;exact h
  .exact b.1 i f
theorem QJ {c:Cont}{v:To}(b:aI c):aI (c.dh v).1↔v.k=0\/(dJ (c.nl 0) v.name).length<=jU 0:=by
 unfold Cont.dh
 split
 .rename_i h;exact⟨λ_=> .inl h,λ_=>b⟩
 .rename_i h
  rw[H6 b ah];exact⟨.inr,λk=>k.resolve_left h⟩
theorem F4:∀(l:U Bs)(b:V->U Bs)(j:V),j≠0->(kR b l).1 j=b j
 |[],_,_,_=>rfl
 |s::r,b,j,d=>(F4 r (sM b 0 s) j d).trans (au d)
theorem Ug {c:Cont}{l:U Bs}(b:aI c):aI (c.ts l).1↔((kR c.nl l).1 0).length<=jU 0:=by
 rw[K6 b (Nm.ts l c),(Gy l c).1]
 constructor
 .exact λh=>h 0 ah
 .intro h i e
  by_cases d:i=0
  .subst d;exact h
  .rw[F4 l c.nl i d];exact b.1 i e
theorem Kv {c:Cont}{e:EvC}{l:U Sn}(b:aI c):aI (c.ev e l)↔c.E.length<3000/\(e.kind=2->e.v.k<=999):=by
 constructor
 .intro h
  have d:=h.2.1;have g:=h.2.2.2.2.2;have i:(c.ev e l).E=c.E++[e]:=rfl;rw[i] at d g;rw[bO,kG] at d;exact⟨d,g e ak⟩
 .rintro⟨d,g⟩
  refine⟨b.1,?_,b.2.2.1,b.2.2.2.1,b.2.2.2.2.1,?_⟩
  .show(c.E++[e]).length<=3000
   rw[bO,kG];exact d
  .intro x f
   rcases cu.1 (show x∈c.E++[e] from f) with f|f
   .exact b.2.2.2.2.2 x f
   .rw[bX.1 f];exact g
theorem EG:∀(l:U (Bs × To))(c:Cont)(p:Bs × To),c.sc (l++[p])=(((((c.sc l).1.put 2 p.1).dh p.2).1),(c.sc l).2++[⟨(c.sc l).1.no 2 p.1,(((c.sc l).1.put 2 p.1).dh p.2).2⟩])
 |[],_,_=>rfl
 |q::l,c,p=>by
  have h:=EG l ((c.put 2 q.1).dh q.2).1 p;show(((((c.put 2 q.1).dh q.2).1).sc (l++[p])).1,_::((((c.put 2 q.1).dh q.2).1).sc (l++[p])).2)=_;rw[h];rfl
theorem PE:∀(l m:U (Bs × To))(c:Cont),(c.sc (l++m)).1=((c.sc l).1.sc m).1
 |[],_,_=>rfl
 |q::l,m,c=>PE l m ((c.put 2 q.1).dh q.2).1
theorem Oi:∀(l:U (Bs × To))(c:Cont),(c.sc l).2.length=l.length
 |[],_=>rfl
 |q::l,c=>bJ (·+1) (Oi l ((c.put 2 q.1).dh q.2).1)
theorem Uh {l:U (Bs × To)}{c:Cont}{p:Bs × To}(f:l[i]?=O p)(b:aI (c.sc l).1):aI ((c.sc (l.take i)).1.put 2 p.1)/\aI (((c.sc (l.take i)).1.put 2 p.1).dh p.2).1:=by
 obtain⟨g,j⟩:=bK.1 f;have e:l=(l.take i++[p])++l.drop (i+1):=by
  rw[<-j,dw,BI,<-lW g,qA]
 rw[e,PE,EG] at b;have d:=(Gr.sc (l.drop (i+1)) _).fits b;exact⟨(Gr.dh _ p.2).fits d,d⟩
theorem rT (b:U EvC)(e:EvC)(t x:Int):fC (b++[e]) t x=fC b t x+(if e.kind=2/\e.t=t/\e.obj=x then 1 else 0):=by
 unfold fC;rw[List.countP_append,List.countP_singleton]
 congr 1
 by_cases h:e.kind=2/\e.t=t/\e.obj=x
 .rw[av h,av (by simp[h])]
 .rw[au h,au (by simpa using h)]
theorem Fz (b:U EvC)(t x:Int):fC b t x<=b.length:=List.countP_le_length
def qY (w:World):Prop:=Lib.Utf8Tabs 6 7 w/\∀i,i<4->w.cell? ⟨4,i,H⟩=O (G C (jU i:Int))
def Ja (R k:V)(cs:Array Value)(b:U Bs)(s:Bs)(w:World)(e:Ending)(d:World):Prop:=
 Same (λi=>i≠R) w d/\
 if(s∈b\/b.length<300)/\(dJ b s).length<=jU k then e= .returned (G C (qd b s:Int))/\∃f g,Own d w.1.size 9 1 encStr (I f (dJ b s).length g) (dJ b s)/\Bx d R (cs.setIfInBounds (8+k) (I f (dJ b s).length g))
 else e= .panicked jT
theorem U4 (k:V)(hk:k<4)(R:V)(b:U Bs)(a:Option Addr)(c:V)(s:Bs)(w:World)(cs:Array Value)(Q:Bx w R cs)(S:cs[(8+k)]?=O (I a b.length c))(o:Row w 1 encStr a b.length c b)(hL:zw b)(hs:bG ⟨s.toArray⟩=true)(W:qY w):
  Calls Tryz.prog 150 #[.pointer (O ⟨R,0,H⟩),G C (k:Int),.string ⟨s.toArray⟩] w (Ja R k cs b s w):=by
 have HK:=J hk;have κ:(k:Int)<4:=by omega
 have HP:=J (Ou b a c s w o hL hs W.1);have HG:=J W;have t:=J Q;have HC:=J S;have hx:w.cell? ⟨R,8+k,H⟩=O (I a b.length c):=(Q.1 (8+k)).trans S;clear o hL hs W Q S hk;go_enter func150,ntmps150;go_wp2_with fail;refine HP.q.mono ?_;rintro e d ⟨m,u⟩;have μ:=J m;by_cases r:s∈b\/b.length<300
 .rw[av r] at u
  obtain⟨f,j,rfl,Z⟩:=u;have HO:=J Z;have θ:=J r;have x:=bq m rfl (HG.q.2 k HK.q);have γ:((d.alloc (N #[I f (dJ b s).length j] 163)).drew).cell? ⟨4,k,H⟩=O (G C (jU k:Int)):=by
   have:=bq (aA (Below.refl d.1.size d) (N #[I f (dJ b s).length j] 163)) rfl x;exact this
  have y:((d.alloc (N #[I f (dJ b s).length j] 163)).drew).cell? ⟨d.1.size,0,H⟩=O (I f (dJ b s).length j):=(Bx.new d #[I f (dJ b s).length j] 163).1 0;have ζ:=J (m.trans ((aA (Below.refl d.1.size d) (N #[I f (dJ b s).length j] 163)).mono m.size));have η:=J (Z.below (aA (Below.refl d.1.size d) (N #[I f (dJ b s).length j] 163)) rfl);have z:Below w.1.size w _:=m.trans ((aA (Below.refl d.1.size d) (N #[I f (dJ b s).length j] 163)).mono m.size);have ν:(d.alloc (N #[I f (dJ b s).length j] 163)).cell? ⟨R,8+k,H⟩=O (I a b.length c):=((t.q.keep z).1 (8+k)).trans HC.q;have ξ:(d.alloc (N #[I f (dJ b s).length j] 163)).frozen? ⟨R,8+k,H⟩=false:=(t.q.keep z).2.1 (8+k);have ι:=J z;clear m Z r x z;go_wp2_with fail;by_cases F:(dJ b s).length<=jU k
  .have HF:=J F
   have δ:decide (((dJ b s).length:Int)<=(jU k:Int))=true:=bT ah;clear F;refine dz 99 [(0,0),(1,0),(2,0),(3,0),(4,0),(5,0),(6,0),(7,0),(8,0),(9,0),(10,0),(11,2)] (λ_=>True) (λp=>p.cell? ⟨d.1.size,0,H⟩=O (I f (dJ b s).length j)/\p.cell? ⟨4,k,H⟩=O (G C (jU k:Int))) (λ_ _=>False) ay ay (λl a1 d P o=>o.elim) (trivial) (⟨y,γ⟩) ?_;refine qC ?_;refine aF rfl rfl (λK q=>?_);go_simp;refine(lI _ _).mono ?_;rintro e w2 ⟨rfl,rfl⟩;rw[av (by simpa using δ)];refine q _ _ ⟨trivial,y,γ⟩ ?_;clear q K;refine ja ?_;go_wp2_with fail;refine aC 6 [(0,1),(1,1),(2,0),(3,1),(4,1),(5,1),(6,2)] (λ_=>True) (λp=>p.cell? ⟨d.1.size,0,H⟩=O (I f (dJ b s).length j)) ay ay (trivial) (y) ?_;refine qC ?_;refine aW rfl rfl rfl (λK q=>?_);go_simp;go_simp;refine q _ _ trivial ?_;clear q K;refine aO ?_;go_wp2_with fail;go_ret;refine⟨((Same.of_below ζ.q (λ_ _ h=>h)).setTail (λh=>h rfl)).l6.l6,?_⟩;rw[av ⟨θ.q,HF.q⟩];refine⟨rfl,f,j,?_,?_⟩
   .refine η.q.same (A:=λi=>i≠R) (((Same.refl' _).setTail (λh=>h rfl)).l6.l6) (λg x e=>?_)
    have h1:=(η.q.lt g x).1;have h2:=t.q.2.2;omega
   .have h1:(8+k)<cs.size:=(dS.1 HC.q).1
    exact(((t.q.keep ι.q).bB (8+k) h1 _).drew).drew
  .have HF:=J F
   have δ:decide (((dJ b s).length:Int)<=(jU k:Int))=false:=bE ah;have ε:Hid (∀l w',(l=jT/\w'=(d.alloc (N #[I f (dJ b s).length j] 163)).drew)->Ja R k cs b s w (.panicked l) w'):=J (by
    rintro l w' ⟨rfl,rfl⟩;refine⟨(Same.of_below ζ.q (λ_ _ h=>h)).l6,?_⟩;rw[au (λh=>HF.q h.2)])
   clear F;refine dz 99 [(0,0),(1,0),(2,0),(3,0),(4,0),(5,0),(6,0),(7,0),(8,0),(9,0),(10,0),(11,2)] (λ_=>True) (λp=>p.cell? ⟨d.1.size,0,H⟩=O (I f (dJ b s).length j)/\p.cell? ⟨4,k,H⟩=O (G C (jU k:Int))) (λl w'=>l=jT/\w'=(d.alloc (N #[I f (dJ b s).length j] 163)).drew) ay ay (λl a1 d P o=>⟨P,ε.q l d o⟩) (trivial) (⟨y,γ⟩) ?_;refine qC ?_;refine aF rfl rfl (λK q=>?_);go_simp;refine(lI _ _).mono ?_;rintro e w2 ⟨rfl,rfl⟩;rw[au (by simpa using δ)];exact⟨rfl,rfl,rfl⟩
 .rw[au r] at u
  subst u;have ε:Hid (∀l w',(l=jT/\w'=(d.alloc (N #[I H 0 0] 163)).drew)->Ja R k cs b s w (.panicked l) w'):=J (by
   rintro l w' ⟨rfl,rfl⟩;refine⟨(Same.of_below (m.trans ((aA (Below.refl d.1.size d) _).mono m.size)) (λ_ _ h=>h)).l6,?_⟩;rw[au (λh=>r h.1)])
  clear m r;go_wp2_with fail;refine dz 99 [(0,0),(1,0),(2,0),(3,0),(4,0),(5,0),(6,0),(7,0),(8,0),(9,0),(10,0),(11,2)] (λ_=>True) (λ_=>True) (λl w'=>l=jT/\w'=(d.alloc (N #[I H 0 0] 163)).drew) ay ay (λl a1 d P o=>⟨P,ε.q l d o⟩) (trivial) (trivial) ?_;refine qC ?_;refine aF rfl rfl (λK q=>?_);go_simp;refine(lI _ _).mono ?_;rintro e w2 ⟨rfl,rfl⟩;rw[au ak];exact⟨rfl,rfl,rfl⟩
structure Ac (d:V)(P:(V->U Bs)->Prop)(w:World)(R:V)(cs:Array Value)(nl:V->U Bs):Prop where
 b:Bx w R cs
 t:∀k,k<4->∃v,cs[8*d+k]?=O v/\Own w (R+1) 9 1 encStr v (nl k)
 n:P nl
abbrev Xi (b:V->U Bs):Prop:=∀k,k<4->zw (b k)/\(b k).length<=jU k
abbrev DV:=Ac 1 Xi
theorem BA (k:V):jU k<=300:=by unfold jU;split <;> omega
theorem U5 {d:U Bs}{s:Bs}(e:zw d)(f:bG ⟨s.toArray⟩=true)(g:(dJ d s).length<=300):zw (dJ d s):=
 ⟨λx b=>by
  unfold dJ at b
  split at b
  .exact e.w x b
  .rcases cu.1 b with b|b
   .exact e.w x b
   .rw[bX.1 b];exact f,zB e.n,g⟩
theorem Aw {b:V->U Bs}(k:V)(r:k<4)(s:Bs)(w:World)(d:DV w R cs b)(x:bG ⟨s.toArray⟩=true)(F:qY w):
  Calls Tryz.prog 150 #[.pointer (O ⟨R,0,H⟩),G C (k:Int),.string ⟨s.toArray⟩] w (λe t=>Same (λi=>i≠R) w t/\
   if(dJ (b k) s).length<=jU k then e= .returned (G C (qd (b k) s:Int))/\∃u,DV t R u (λj=>if j=k then dJ (b k) s else b j)/\u.size=cs.size/\∀j,j≠8+k->u[j]?=cs[j]?
   else e= .panicked jT):=by
 obtain⟨v,p,l⟩:=d.t k r;obtain⟨y,hn⟩:=d.n k r;have γ:=BA k;obtain⟨a,c,rfl,_,_⟩:=l.shape;have K:Row w 1 encStr a (b k).length c (b k):=l.row ah;refine(U4 k r R (b k) a c s w cs d.b p K y x F).mono ?_;rintro e t ⟨z,q⟩;refine⟨z,?_⟩;by_cases f:(dJ (b k) s).length<=jU k
 .have P:s∈b k\/(b k).length<300:=by
   by_cases A:s∈b k
   .exact .inl A
   .rw[zx A,bO,kG] at f
    exact .inr ah
  rw[av ⟨P,f⟩] at q;obtain⟨rfl,a',c',Q,S⟩:=q;rw[av f];have δ:=d.b.2.2;have W:8+k<cs.size:=(dS.1 p).1;refine⟨rfl,_,⟨S,λj m=>?_,λj m=>?_⟩,by simp,λj m=>by rw[qx (λe=>m e.symm)]⟩
  .by_cases o:j=k
   .subst o
    simp only[bR];exact⟨_,yX W,Q.mono ah⟩
   .rw[au o]
    obtain⟨v,p,l⟩:=d.t j m;refine⟨v,(qx ah).trans p,l.same z (λg Z e=>?_)⟩;have:=(l.lt g Z).1;omega
  .by_cases o:j=k
   .subst o
    simp only[bR];exact⟨U5 y x ah,f⟩
   .rw[au o];exact d.n j m
 .rw[au (λd=>f d.2)] at q
  rw[au f];exact q
variable{P:(V->U Bs)->Prop}
theorem Ac.below {b:V}{e:World}{f:V->U Bs}(d:Ac b P w R cs f)(g:Below w.1.size w e):Ac b P e R cs f:=
 ⟨d.b.keep g,λk i=>(let⟨v,j,l⟩:=d.t k i;⟨v,j,l.below g rfl⟩),d.n⟩
theorem Ac.apart {b:V}{e:V->U Bs}(d:Ac b P X R cs e)(j:∃cs l,X.1[g]?=O (N cs T l))(m:9≠T)(o:R≠g)(f:Same (λi=>i≠g) X Y):Ac b P Y R cs e:=
 ⟨f.bx d.b o,λk p=>(let⟨v,q,r⟩:=d.t k p;⟨v,q,r.aQ j m f⟩),d.n⟩
theorem qY.below {b:World}(d:qY w)(e:Below w.1.size w b):qY b:=⟨Utf8Tabs_below d.1 e,λi f=>bq e rfl (d.2 i f)⟩
def SX (b:V->U Bs)(v:To):V->U Bs:=if v.k=0 then b else λj=>if j=0 then dJ (b 0) v.name else b j
def Tz (R:V)(cs:Array Value)(b:V->U Bs)(v:To)(w:World)(e:Ending)(f:World):Prop:=
 Same (λi=>i≠R) w f/\
 if v.k=0\/(dJ (b 0) v.name).length<=jU 0 then e= .returned (.agg #[G C (if v.k=0 then 0 else(qd (b 0) v.name:Int)),G C v.k])/\∃d,DV f R d (SX b v)/\d.size=cs.size/\∀j,j≠8->d[j]?=cs[j]?
 else e= .panicked jT
theorem LJ {b:V->U Bs}(v:To)(u:jK v)(w:World)(h:DV w R cs b)(x:qY w):
  Calls Tryz.prog 152 #[.pointer (O ⟨R,0,H⟩),pR v] w (Tz R cs b v w):=by
 obtain⟨n,k⟩:=v;have y:=J (((aA (aA (Below.refl w.1.size w) (N #[.string ⟨n.toArray⟩,G C k] 130)) (N #[G C 0,G C 0] 46)).drew));have o:=(Bx.new w #[.string ⟨n.toArray⟩,G C k] 130).alloc (N #[G C 0,G C 0] 46);have HH:=J h;have ψ:=J x;have HV:=J u;have κ:=J o;by_cases p:k=0
 .subst p
  clear o h x u;go_enter func152,ntmps152;go_wp2_with fail;refine bodyPost_ret (v:= .agg #[G C 0,G C 0]) (by simp[results,results152,go_sem]) rfl ?_;have γ:Below w.1.size w ((w.alloc (N #[.string ⟨n.toArray⟩,G C 0] 130)).alloc (N #[G C 0,G C 0] 46)):=aA (aA (Below.refl w.1.size w) _) _;refine⟨Same.of_below γ (λ_ _ h=>h),?_⟩;have e:SX b ⟨n,0⟩=b:=av rfl;rw[av (.inl rfl),e];exact⟨rfl,cs,HH.q.below γ,rfl,λ_ _=>rfl⟩
 .have hk:(k==0)=false:=aX.2 p
  have P:=J p;have hw:bG ⟨n.toArray⟩=true:=by
   rcases u with e|e
   .injection e with _ e;exact absurd e p
   .exact e.1
  have HN:=J (Aw 0 ah n _ (h.below y.q) hw (x.below y.q));have δ:=(Bx.new (w.alloc (N #[.string ⟨n.toArray⟩,G C k] 130)) #[G C 0,G C 0] 46);have μ:=J δ;have Q:=J h.b.2.2;have ε:=o.1 0;have ζ:=o.1 1;clear h x u p o hw δ;go_enter func152,ntmps152;by_cases q:(dJ (b 0) n).length<=jU 0
  .have z:=J q
   clear q;go_wp2_with fail;refine dz 7 [(0,0),(1,0),(2,0),(4,0),(5,0),(3,2),(6,0),(7,2)] (λ_=>True) (λr=>r.cell? ⟨w.1.size,0,H⟩=O (.string ⟨n.toArray⟩)/\r.cell? ⟨w.1.size,1,H⟩=O (G C k)) (λ_ _=>False) ay ay (λd a1 w1 hd S=>S.elim) (trivial) (⟨ε,ζ⟩) ?_;refine qC ?_;refine aF rfl rfl (λK g=>?_);go_simp;refine HN.q.mono ?_;rintro e A ⟨hS,t⟩;rw[av z.q] at t;obtain⟨rfl,ν,hT,η,ho⟩:=t;have HT:=J hT;have θ:=J hS;have HO:=J (⟨η,ho⟩:_/\_);have W:=hS.bx κ.q.drew (by have:=Q.q;omega);have l:=hS.bx μ.q.drew (by have:=Q.q;simp;omega);refine g _ _ ⟨trivial,W.1 0,W.1 1⟩ ?_;have ξ:=l.1 0;have ο:=l.1 1;have π:=l.2.1 0;have ρ:=l.2.1 1;have σ:=J l;rw[World.size_alloc] at ξ ο π ρ;clear g K hT hS η ho W l;refine qC ?_;refine aW rfl rfl rfl (λK g=>?_);go_simp;go_simp;refine g _ _ trivial ?_;clear g K;refine ja ?_;go_wp2_with fail;have Z:=(σ.q.bB 0 ak (G C (qd (b 0) n:Int))).bB 1 ak (G C k);rw[World.size_alloc] at Z;have τ:=Z.1 0;have υ:=Z.1 1;refine bodyPost_ret (v:= .agg #[G C (qd (b 0) n:Int),G C k]) (by simp[results,results152,go_sem,τ,υ]) rfl ?_;have ω:=Q.q;have f:Same (λi=>i≠R/\i<w.1.size) w A:=((Same.of_below y.q (λ_ _ h=>h)).tr (θ.q.mono (λi m _=>m.1)));have φ:w.1.size+1<((w.alloc (N #[.string ⟨n.toArray⟩,G C k] 130)).alloc (N #[G C 0,G C 0] 46)).drew.1.size:=by
    show w.1.size+1<((w.alloc (N #[.string ⟨n.toArray⟩,G C k] 130)).alloc (N #[G C 0,G C 0] 46)).1.size;rw[World.size_alloc,World.size_alloc];omega
   have ι:=World.alloc_heap_new (w.alloc (N #[.string ⟨n.toArray⟩,G C k] 130)) (N #[G C 0,G C 0] 46);rw[World.size_alloc] at ι;have ht:∃cs fz,A.1[w.1.size+1]?=O (N cs 46 fz):=⟨_,_,(θ.q.block (w.1.size+1) ah φ).trans ι⟩;refine⟨((f.setTail (λh=>by have:=h.2;omega)).setTail (λh=>by have:=h.2;omega)).mono (λi m F=>⟨m,F⟩),?_⟩;rw[av (.inr z.q)];have e1:(if k=0 then(0:Int) else(qd (b 0) n:Int))=(qd (b 0) n:Int):=au P.q;have e2:SX b ⟨n,k⟩=λj=>if j=0 then dJ (b 0) n else b j:=au P.q
   rw[e2];refine⟨by rw[e1],ν,HT.q.apart ht aj ah (((Same.refl' A).setTail (λh=>h rfl)).setTail (λh=>h rfl)),HO.q.1,HO.q.2⟩
  .have z:=J q
   have χ:Hid (∀d w',(d=jT/\Same (λi=>i≠R) ((w.alloc (N #[.string ⟨n.toArray⟩,G C k] 130)).alloc (N #[G C 0,G C 0] 46)).drew w')->Tz R cs b ⟨n,k⟩ w (.panicked d) w'):=J (by
    rintro d w' ⟨rfl,hS⟩;have f:Same (λi=>i≠R) w ((w.alloc (N #[.string ⟨n.toArray⟩,G C k] 130)).alloc (N #[G C 0,G C 0] 46)).drew:=Same.of_below y.q (λ_ _ h=>h);refine⟨⟨hS.os.trans f.os,hS.tape.trans f.tape,hS.output.trans f.output,bI f.size hS.size,λi m F=>(hS.block i m (bP F f.size)).trans (f.block i m F)⟩,?_⟩;rw[au (λh=>h.elim P.q q)])
   clear q;go_wp2_with fail;refine dz 7 [(0,0),(1,0),(2,0),(4,0),(5,0),(3,2),(6,0),(7,2)] (λ_=>True) (λr=>r.cell? ⟨w.1.size,0,H⟩=O (.string ⟨n.toArray⟩)/\r.cell? ⟨w.1.size,1,H⟩=O (G C k)) (λd w'=>d=jT/\Same (λi=>i≠R) ((w.alloc (N #[.string ⟨n.toArray⟩,G C k] 130)).alloc (N #[G C 0,G C 0] 46)).drew w') ay ay (λd a1 w1 hd S=>⟨hd,χ.q d w1 S⟩) (trivial) (⟨ε,ζ⟩) ?_;refine qC ?_;refine aF rfl rfl (λK g=>?_);go_simp;refine HN.q.mono ?_;rintro e A ⟨hS,t⟩;rw[au z.q] at t;subst t;exact⟨rfl,rfl,hS⟩
def zn (R:V)(w:World):Prop:=∀W,Same (λi=>i≠R) w W->qY W
theorem zn.same (b:zn R w)(s:Same (λi=>i≠R) w X):zn R X:=λW k=>b W (s.tr k)
theorem zn.here (b:zn R w):qY w:=b w (Same.refl' w)
variable{b:V}{row:Option V}
theorem Ac.grown {f:V->U Bs}(d:Ac b P X R cs f)(i:X.grownBy Y row)(j:∀g,row=O g->g≠R/\∃cs o,X.1[g]?=O (N cs T o))(p:9≠T):Ac b P Y R cs f:=
 ⟨d.b.grown i (λe=>(j R e).1 rfl),λk q=>(let⟨v,r,l⟩:=d.t k q;⟨v,r,l.grown i (λg t e=>by
  obtain⟨_,x,y,u⟩:=j g e;obtain⟨z,A,m⟩:=l.tag t;rw[u] at m
  cases m
  exact p rfl)⟩),d.n⟩
def TA (R:V)(cs:Array Value)(b:V->U Bs)(l:U Bs)(w:World)(e:Ending)(d:World):Prop:=
 Same (λi=>i≠R) w d/\
 if((kR b l).1 0).length<=jU 0 then ∃a c f,e= .returned (I a l.length c)/\Own d w.1.size 3 1 aS (I a l.length c) (kR b l).2/\DV d R f (kR b l).1/\f.size=cs.size/\∀j,j≠8->f[j]?=cs[j]?
 else e= .panicked jT
theorem Row.i1 (w:World)(s:Int):Row (w.alloc (N #[G C s] 3)) 1 aS (O ⟨w.1.size,0,H⟩) 1 1 [s]:=
 (Own.new (hc:=eP) w w.1.size 3 #[G C s] [s] (aB _) rfl (by simp[maxLen])).row ak
theorem K7:∀(l:U Bs)(b:V->U Bs),(kR b l).2.length=l.length
 |[],_=>rfl
 |_::l,b=>bJ (·+1) (K7 l (sM b 0 _))
theorem MV (b:X.grownBy Y row)(d:∀g,row=O g->B<=g):Same (λi=>i≠R/\i<B) X Y:=
 ⟨b.os,b.tape,b.output,b.size,λi f j=>b.block i j (λe=>by have:=d i e.symm;have:=f.2;omega)⟩
theorem Yy {d:V->U Bs}(l:U Bs)(ta:Option Addr)(n tc:V)(w:World)(f:DV w R cs d)(P:Row w 1 encStr ta n tc l)(ν:∀b o,ta=O ⟨b,o,H⟩->b≠R)(hw:∀s∈l,bG ⟨s.toArray⟩=true)(hn:n<=100000)(hG:zn R w):
  Calls Tryz.prog 153 #[.pointer (O ⟨R,0,H⟩),I ta n tc] w (TA R cs d l w):=by
 have HH:=J f;have HR:=J P;have χ:=J ν;have HW:=J hw;have HG:=J hG;have ξ:=J f.b.2.2;obtain⟨i,z,m⟩:=Cw;have t:=J m;have q3:=P.le;have δ:=J P.len;clear f P ν hw hG m;go_enter func153,ntmps153;go_wp2_with fail
 go_loopw [5,10] (λv i wr=>∃(k:V)(u:Option Addr)(x:V)(y:Array Value),k<=n/\v= I u k x/\i= G C k/\Own wr w.1.size 3 1 aS (I u k x) (kR d (l.take k)).2/\
   DV wr R y (kR d (l.take k)).1/\y.size=cs.size/\(∀j,j≠8->y[j]?=cs[j]?)/\Same (λi=>i≠R) w wr) (λ_ i _=>n - (RowKit.intOf i).toNat)
 case atStart=>
  exact⟨0,H,0,cs,bn _,rfl,rfl,Own.jv _ _ _ _ _,HH.q,rfl,λ_ _=>rfl,Same.refl' _⟩
 case round=>
  obtain⟨k,u,x,y,hk,rfl,rfl,A,p,Q,S,q⟩:=hrel;by_cases ψ:k<n
  .obtain⟨s,b,o,hx,rfl,hc⟩:=HR.q.at_ ψ
   have W:=hc 0 _ rfl;simp only[gJ,dB] at W;have q4:wr.cell? ⟨b,o+k,H⟩=O (.string ⟨s.toArray⟩):=(World.cell?_of_block (a:=⟨b,o+k,H⟩) (q.block b (χ.q b o rfl) (dQ W))).trans W;have ο:=Aw 0 ah s wr p (HW.q s (dA hx)) (HG.q.same q).here;have ω:=J ο;have Z:=J A;have ε:=J p;have ζ:=J Q;have η:=J S;have F:=J q;have HX:=J hx;clear A p Q S q ο hc W hx;go_wp2_with fail;refine ω.q.mono ?_;rintro e r ⟨K,he⟩;have e1:l.take (k+1)=l.take k++[s]:=by rw[ig,HX.q];rfl
   by_cases hf:(dJ ((kR d (l.take k)).1 0) s).length<=jU 0
   .rw[av hf] at he
    obtain⟨rfl,Γ,π,ρ,σ⟩:=he;have Δ:=J π;have Θ:=J ρ;have Ξ:=J σ;have Φ:=J K;have γ:Hid (Own r w.1.size 3 1 aS (I u k x) (kR d (l.take k)).2):=J (Z.q.same K (λg hg e=>by have:=(Z.q.lt g hg).1;have:=ξ.q;omega));have HE:Hid ((kR d (l.take (k+1))).1=(λj=>if j=0 then dJ ((kR d (l.take k)).1 0) s else(kR d (l.take k)).1 j)/\(kR d (l.take k)).2++[(qd ((kR d (l.take k)).1 0) s:Int)]=(kR d (l.take (k+1))).2):=J (by rw[e1,C9];exact⟨rfl,rfl⟩);have Ψ:Hid ((kR d (l.take k)).2.length+1=k+1):=J (by rw[K7,fB,δ.q,nX hk]);have Ω:Hid ((k+1)*8<=140737488355328):=J ah;have q0:Hid (k+1<=maxLen):=J (by unfold maxLen;omega);have q1:Hid (w.1.size<=(r.alloc (N #[G C (qd ((kR d (l.take k)).1 0) s:Int)] 3)).1.size):=J (by have h1:=F.q.size;have h2:=K.size;simp;omega);clear π ρ σ K hf e1
    go_wp2_with (at_builtin;refine iP rfl _ _ 55 rfl i z 8 underlying55 t.q.1 t.q.2.1 t.q.2.2.1 t.q.2.2.2.1 t.q.2.2.2.2 rfl (γ.q.alloc _) (O ⟨r.1.size,0,H⟩) 1 1 (k+1) [(qd ((kR d (l.take k)).1 0) s:Int)] rfl (Row.i1 r _) Ψ.q Ω.q q0.q q1.q ?_;intro a' c' w2 θ ι q2)
    rw[HE.q.2] at θ;have κ:=aA (Below.refl r.1.size r) (N #[G C (qd ((kR d (l.take k)).1 0) s:Int)] 3);have τ:Same (λi=>i≠R/\i<w.1.size) w w2:=((F.q.tr Φ.q).mono (λi m _=>m.1)).tr ((Same.of_below κ (λ_ _ f=>f)).tr (MV ι (λg e=>(γ.q.lt g e).1)));have υ:=(Δ.q.below κ).grown (T:=3) ι (λg e=>⟨by have:=(γ.q.lt g e).1;have:=ξ.q;omega,(γ.q.alloc _).tag e⟩) aj;have μ:=J (⟨θ,υ,τ.mono (λi m hl=>⟨m,hl⟩)⟩:_/\_/\_);clear θ ι q2 κ τ υ;go_roundw
    case rel=>
     refine⟨k+1,a',c',Γ,by omega,rfl,by go_num,μ.q.1,?_,Θ.q.trans ζ.q,λj hj=>(Ξ.q j hj).trans (η.q j hj),μ.q.2.2⟩;rw[HE.q.1];exact μ.q.2.1
    case measure=>simp[RowKit.intOf];omega
   .rw[au hf] at he
    subst he;refine⟨rfl,?_⟩;show TA R cs d l w _ _;refine⟨F.q.tr K,?_⟩;rw[au (λf=>hf (RJ HX.q f))]
  .obtain rfl:k=n:=by omega
   have φ:l.take k=l:=gF (by rw[δ.q];exact aB _);rw[φ] at A p;have Z:=J A;have ε:=J p;have ζ:=J Q;have η:=J S;have F:=J q;clear A p Q S q φ;go_wp2_with fail;go_ret;refine⟨F.q,?_⟩;rw[av (ε.q.n 0 ah).2,δ.q];exact⟨u,x,y,rfl,Z.q,ε.q,ζ.q,η.q⟩
theorem Row.ev1 (w:World)(b:EvC):Row (w.alloc (N (aR b) 49)) 9 dx (O ⟨w.1.size,0,H⟩) 1 1 [b]:=
 (Own.new (hc:=jI) w w.1.size 49 (enc:=dx) (aR b) [b] (aB _) rfl (by simp[maxLen])).row (hc:=jI) ak
def MW (R:V)(cs:Array Value)(f:Value)(es:U EvC)(g:EvC)(w:World)(e:Ending)(b:World):Prop:=
 Same (λi=>i≠R/\f.ownBlock≠O i) w b/\
 if es.length<3000 then e= .returned (.tuple #[])/\∃d,Own b (R+1) 49 9 dx d (es++[g])/\Bx b R (cs.setIfInBounds 4 d)
 else e= .panicked jT
theorem H8 (Q:EvC)(w:World)(S:Bx w R cs)(h4:cs[4]?=O u)(hO:Own w (R+1) 49 9 dx u es)(hl:es.length<=3000):
  Calls Tryz.prog 149 #[.pointer (O ⟨R,0,H⟩),fT Q] w (MW R cs u es Q w):=by
 obtain⟨a,c,rfl,_,ψ⟩:=hO.shape;obtain⟨i,z,hi⟩:=K8;have W:=J hi;have hx:w.cell? ⟨R,4,H⟩=O (I a es.length c):=(S.1 4).trans h4;have ε:=aA (Below.refl w.1.size w) (N (aR Q) 49);have Z:=J ε;have η:=J S;have HO:=J hO;have H4:=J h4;have ω:(w.alloc (N (aR Q) 49)).cell? ⟨R,4,H⟩=O (I a es.length c):=((S.keep ε).1 4).trans h4;have Γ:(w.alloc (N (aR Q) 49)).frozen? ⟨R,4,H⟩=false:=(S.keep ε).2.1 4;clear S h4 hO hi ε;obtain⟨b,d,f,j,l,⟨m,o⟩,p,q,r,t⟩:=Q;by_cases hf:es.length<3000
 .have HF:=J hf
  have hd:decide ((es.length:Int)<3000)=true:=bT ah;clear hf;have x:Hid (Bx (w.alloc (N (aR ⟨b,d,f,j,l,⟨m,o⟩,p,q,r,t⟩) 49)) w.1.size (aR ⟨b,d,f,j,l,⟨m,o⟩,p,q,r,t⟩)):=J (Bx.new w _ _);have θ:Hid (Bx ((w.alloc (N (aR ⟨b,d,f,j,l,⟨m,o⟩,p,q,r,t⟩) 49)).drew.alloc (N (aR ⟨b,d,f,j,l,⟨m,o⟩,p,q,r,t⟩) 49)) R cs):=J ((η.q.keep Z.q).drew.alloc _);have μ:Hid (Bx ((w.alloc (N (aR ⟨b,d,f,j,l,⟨m,o⟩,p,q,r,t⟩) 49)).drew.alloc (N (aR ⟨b,d,f,j,l,⟨m,o⟩,p,q,r,t⟩) 49)) w.1.size (aR ⟨b,d,f,j,l,⟨m,o⟩,p,q,r,t⟩)):=J (x.q.drew.alloc _);have ν:Hid (Own ((w.alloc (N (aR ⟨b,d,f,j,l,⟨m,o⟩,p,q,r,t⟩) 49)).drew.alloc (N (aR ⟨b,d,f,j,l,⟨m,o⟩,p,q,r,t⟩) 49)) (R+1) 49 9 dx (I a es.length c) es):=J ((HO.q.alloc _).drew.alloc _);have ξ:Hid (Row ((w.alloc (N (aR ⟨b,d,f,j,l,⟨m,o⟩,p,q,r,t⟩) 49)).drew.alloc (N (aR ⟨b,d,f,j,l,⟨m,o⟩,p,q,r,t⟩) 49)) 9 dx (O ⟨w.1.size+1,0,H⟩) 1 1 [⟨b,d,f,j,l,⟨m,o⟩,p,q,r,t⟩]):=J (by
   have:=Row.ev1 (w.alloc (N (aR ⟨b,d,f,j,l,⟨m,o⟩,p,q,r,t⟩) 49)).drew ⟨b,d,f,j,l,⟨m,o⟩,p,q,r,t⟩;have e:(w.alloc (N (aR ⟨b,d,f,j,l,⟨m,o⟩,p,q,r,t⟩) 49)).drew.1.size=w.1.size+1:=World.size_alloc _ _;rw[e] at this;exact this)
  have ο:Hid ((es.length+1)*88<=140737488355328):=J ah;have π:Hid (es.length+1<=maxLen):=J (by unfold maxLen;omega);have ρ:Hid (R+1<=((w.alloc (N (aR ⟨b,d,f,j,l,⟨m,o⟩,p,q,r,t⟩) 49)).drew.alloc (N (aR ⟨b,d,f,j,l,⟨m,o⟩,p,q,r,t⟩) 49)).1.size):=J (by have:=θ.q.2.2;omega);have σ:Hid ((Value.slice a es.length c).ownBlock≠O R):=J (λe=>by have:=(HO.q.lt R e).1;omega);have τ:Hid ((Value.slice a es.length c).ownBlock≠O w.1.size):=J (λe=>by have:=(HO.q.lt _ e).2;omega);go_enter func149,ntmps149;go_wp2_with fail;refine(lI _ _).mono ?_;rintro e w2 ⟨rfl,rfl⟩;rw[av rfl];go_wp2_with fail;refine aC 12 [(0,0),(1,0),(2,0),(3,0),(4,0),(5,0),(6,0),(7,2),(8,2),(9,1),(10,1),(11,0),(12,2)] (λ_=>True) (λy=>y.cell? ⟨R,4,H⟩=O (I a es.length c)/\y.cell? ⟨w.1.size,0,H⟩=O (G C b)/\y.cell? ⟨w.1.size,1,H⟩=O (G C d)/\y.cell? ⟨w.1.size,2,H⟩=O (G C f)/\y.cell? ⟨w.1.size,3,H⟩=O (G C j)/\y.cell? ⟨w.1.size,4,H⟩=O (G C l)/\y.cell? ⟨w.1.size,5,H⟩=O (G C m)/\y.cell? ⟨w.1.size,6,H⟩=O (G C o)/\y.cell? ⟨w.1.size,7,H⟩=O (G C p)/\y.cell? ⟨w.1.size,8,H⟩=O (I q r t)) ay ay (trivial) (⟨((η.q.keep Z.q).1 4).trans H4.q,(x.q).1 0,(x.q).1 1,(x.q).1 2,(x.q).1 3,(x.q).1 4,(x.q).1 5,(x.q).1 6,(x.q).1 7,(x.q).1 8⟩) ?_;refine qC ?_;refine aF rfl rfl (λK P=>?_);go_simp;refine P _ _ ⟨trivial,(((η.q.keep Z.q).alloc _).1 4).trans H4.q,(x.q.alloc _).1 0,(x.q.alloc _).1 1,(x.q.alloc _).1 2,(x.q.alloc _).1 3,(x.q.alloc _).1 4,(x.q.alloc _).1 5,(x.q.alloc _).1 6,(x.q.alloc _).1 7,(x.q.alloc _).1 8⟩ ?_;clear P K;refine aF rfl rfl (λK P=>?_);refine kM _ _ 23 rfl i z 88 underlying23 W.q.1 W.q.2.1 W.q.2.2.1 W.q.2.2.2.1 W.q.2.2.2.2 rfl ν.q (O ⟨w.1.size+1,0,H⟩) 1 1 (es.length+1) [⟨b,d,f,j,l,⟨m,o⟩,p,q,r,t⟩] rfl ξ.q rfl ο.q π.q ρ.q ?_;intro a' c' w3 ι ζ υ;have γ:=θ.q.grown ζ σ.q;have F:=μ.q.grown ζ τ.q;refine P _ _ ⟨trivial,((γ).1 4).trans H4.q,(F).1 0,(F).1 1,(F).1 2,(F).1 3,(F).1 4,(F).1 5,(F).1 6,(F).1 7,(F).1 8⟩ ?_;have Δ:=(γ.1 4).trans H4.q;have Θ:=γ.2.1 4;have φ:=J γ;have κ:=J ι;have δ:=J ζ;clear P K γ F ι ζ υ;refine qC ?_;refine aW rfl rfl rfl (λK P=>?_);go_simp;refine P _ _ trivial ?_;clear P K;refine aO ?_;go_wp2_with fail;refine bodyPost_end (results_none rfl _ _ _) rfl ?_;show MW R cs _ es _ w _ _;have χ:=aA Z.q.drew (N (aR ⟨b,d,f,j,l,⟨m,o⟩,p,q,r,t⟩) 49);have h1:Same (λi=>i≠R/\(Value.slice a es.length c).ownBlock≠O i) w w3:=(Same.of_below χ (λ_ _ h=>h)).tr ⟨δ.q.os,δ.q.tape,δ.q.output,δ.q.size,λi hi hl=>δ.q.block i hl (λe=>hi.2 e.symm)⟩;refine⟨h1.setTail (λh=>h.1 rfl),?_⟩;rw[av HF.q];refine⟨rfl,I a' (es.length+1) c',κ.q.same (A:=λi=>i≠R) ((Same.refl' _).setTail (λh=>h rfl)) (λg hg e=>by have:=(κ.q.lt g hg).1;omega),φ.q.bB 4 (dS.1 H4.q).1 _⟩
 .have HF:=J hf
  have hd:decide ((es.length:Int)<3000)=false:=bE ah;clear hf;go_enter func149,ntmps149;go_wp2_with fail;refine(lI _ _).mono ?_;rintro e w2 ⟨rfl,rfl⟩;rw[au ak];refine⟨rfl,?_⟩;show MW R cs _ es _ w _ _;refine⟨Same.of_below Z.q (λ_ _ h=>h),?_⟩;rw[au HF.q]
def EvC.val (e:EvC):Value:= I e.sa e.sn e.sc
def aG.val (e:aG):Value:= I e.sa e.sn e.sc
def aK.val (e:aK):Value:= I e.sa e.sn e.sc
def uF {b d:Type}(w:World)(R:V)(T:TypeId)(k:V)(enc:d->U Value)(val:b->Value)(xs:U b)(e:U (U d)):Prop:=
 xs.length=e.length/\∀(i:V)(x:b)(L:U d),xs[i]?=O x->e[i]?=O L->Own w (R+1) T k enc (val x) L
theorem uF.imp {b d:Type}{e:World}{enc:d->U Value}{val:b->Value}{xs:U b}{f:U (U d)}(g:uF w R T k enc val xs f)(j:∀v L,Own w (R+1) T k enc v L->Own e (R+1) T k enc v L):uF e R T k enc val xs f:=
 ⟨g.1,λi x L l m=>j _ _ (g.2 i x L l m)⟩
theorem uF.snoc {g l:Type}{enc:l->U Value}{val:g->Value}{xs:U g}{m:U (U l)}(e:uF w R T k enc val xs m){x:g}{o:U l}(p:Own w (R+1) T k enc (val x) o):uF w R T k enc val (xs++[x]) (m++[o]):=by
 refine⟨by rw[bO,bO,e.1];rfl,λi y q b d=>?_⟩;rcases iM i xs.length with f|f
 .rw[rX f] at b
  rw[rX (by rw[<-e.1];exact f)] at d;exact e.2 i y q b d
 .rw[pG f] at b
  rw[pG (by rw[<-e.1];exact f),<-e.1] at d;obtain⟨j,r⟩:∃j,j=i - xs.length:=⟨_,rfl⟩;rw[<-r] at b d
  cases j with
  |zero=>
   injection b with b;injection d with d;subst b d;exact p
  |succ j=>cases b
structure tV (d:V)(P:(V->U Bs)->Prop)(w:World)(R:V)(cs:Array Value)(c:Cont)(es:U EvC)(ds:U aG)(ms:U aK):Prop where
 t:Ac d P w R cs c.nl
 e:∃v,cs[4]?=O v/\Own w (R+1) 49 9 dx v es
 d:∃v,cs[5]?=O v/\Own w (R+1) 57 2 dV v ds
 m:∃v,cs[6]?=O v/\Own w (R+1) 60 4 eB v ms
 q:∃v,cs[7]?=O v/\Own w (R+1) 63 2 fE v c.Q
 be:es.map EvC.base=c.E
 bd:ds.map aG.base=c.D
 bm:ms.map aK.base=c.M
 se:uF w R 53 3 cZ EvC.val es c.SE
 sd:uF w R 3 1 aS aG.val ds c.SD
 sm:uF w R 3 1 aS aK.val ms c.SM
abbrev zY:=tV 1 Xi
theorem Own.iR {b:Type}{enc:b->U Value}{d:U b}(f:Own X (R+1) T k enc v d)(j:Same (λi=>i≠R) X Y):Own Y (R+1) T k enc v d:=
 f.same j (λg l e=>by have:=(f.lt g l).1;omega)
variable{i:U aG}{j:U aK}
theorem tV.tN {f:Array Value}{c:Cont}{nl:V->U Bs}(d:tV b P X R cs c es i j)(e:Same (λp=>p≠R) X Y)(q:Ac b P Y R f nl)(m:∀o,4<=o->o<8->f[o]?=cs[o]?):
  tV b P Y R f {c with nl:=nl} es i j:=
 ⟨q,(let⟨v,g,l⟩:=d.e;⟨v,(m 4 ah ah).trans g,l.iR e⟩),(let⟨v,g,l⟩:=d.d;⟨v,(m 5 ah ah).trans g,l.iR e⟩),(let⟨v,g,l⟩:=d.m;⟨v,(m 6 ah ah).trans g,l.iR e⟩),
 (let⟨v,g,l⟩:=d.q;⟨v,(m 7 ah ah).trans g,l.iR e⟩),d.be,d.bd,d.bm,d.se.imp (λ_ _ d=>d.iR e),d.sd.imp (λ_ _ d=>d.iR e),d.sm.imp (λ_ _ d=>d.iR e)⟩
theorem zY.tN {f:Array Value}{c:Cont}{nl:V->U Bs}(d:zY X R cs c es i j)(e:Same (λg=>g≠R) X Y)(l:DV Y R f nl)(m:∀b,b<8->f[b]?=cs[b]?):
  zY Y R f {c with nl:=nl} es i j:=tV.tN d e l (λb _ o=>m b o)
theorem Own.iU {f γ:Type}{j:TypeId}{enc:f->U Value}{p:γ->U Value}{l:U f}{q:U γ}(d:Own X (R+1) T k enc v l)(r:Own X (R+1) j b p u q)(t:T≠j)(x:Same (λi=>i≠R/\u.ownBlock≠O i) X Y):Own Y (R+1) T k enc v l:=
 d.same x (λg m=>⟨λe=>by have:=(d.lt g m).1;omega,λe=>by
  obtain⟨z,A,y⟩:=d.tag m;obtain⟨F,K,o⟩:=r.tag e;rw[y] at o
  cases o
  exact t rfl⟩)
variable{o:Value}
theorem tV.event {c:Cont}(d:tV b P X R cs c es i j)(t:cs[4]?=O u)(e:Same (λy=>y≠R/\u.ownBlock≠O y) X Y){x:EvC}{l:U Sn}
  (z:Own Y (R+1) 49 9 dx o (es++[x])) (A:Bx Y R (cs.setIfInBounds 4 o)) (F:Own X (R+1) 53 3 cZ x.val l):tV b P Y R (cs.setIfInBounds 4 o) (c.ev x.base l) (es++[x]) i j:=by
 obtain⟨K,p,f⟩:=d.e;obtain rfl:K=u:=by rw[t] at p;injection p with p;exact p.symm
 have Q:4<cs.size:=(dS.1 t).1;have q:∀r,4≠r->(cs.setIfInBounds 4 o)[r]?=cs[r]?:=λr S=>qx S
 refine⟨⟨A,λk W=>?_,d.t.n⟩,⟨o,yX Q,z⟩,?_,?_,?_,?_,d.bd,d.bm,?_,?_,?_⟩
 .obtain⟨v,g,m⟩:=d.t.t k W
  exact⟨v,(q _ ah).trans g,m.iU f aj e⟩
 .obtain⟨v,g,m⟩:=d.d
  exact⟨v,(q _ ah).trans g,m.iU f aj e⟩
 .obtain⟨v,g,m⟩:=d.m
  exact⟨v,(q _ ah).trans g,m.iU f aj e⟩
 .obtain⟨v,g,m⟩:=d.q
  exact⟨v,(q _ ah).trans g,m.iU f aj e⟩
 .show(es++[x]).map EvC.base=c.E++[x.base]
  rw[eY,d.be];rfl
 .exact(d.se.imp (λ_ _ d=>d.iU f aj e)).snoc (F.iU f aj e)
 .exact d.sd.imp (λ_ _ d=>d.iU f aj e)
 .exact d.sm.imp (λ_ _ d=>d.iU f aj e)
theorem tV.order {c:Cont}(d:tV b P X R cs c es i j)(t:cs[5]?=O u)(e:Same (λy=>y≠R/\u.ownBlock≠O y) X Y){x:aG}{l:U Int}
  (z:Own Y (R+1) 57 2 dV o (i++[x])) (A:Bx Y R (cs.setIfInBounds 5 o)) (F:Own X (R+1) 3 1 aS x.val l):tV b P Y R (cs.setIfInBounds 5 o) {c with D:=c.D++[x.base],SD:=c.SD++[l]} es (i++[x]) j:=by
 obtain⟨K,p,f⟩:=d.d;obtain rfl:K=u:=by rw[t] at p;injection p with p;exact p.symm
 have Q:5<cs.size:=(dS.1 t).1;have q:∀r,5≠r->(cs.setIfInBounds 5 o)[r]?=cs[r]?:=λr S=>qx S
 refine⟨⟨A,λk W=>?_,d.t.n⟩,?_,?_,?_,?_,d.be,(by show(i++[x]).map aG.base=c.D++[x.base];rw[eY,d.bd];rfl),d.bm,?_,?_,?_⟩
 .obtain⟨v,g,m⟩:=d.t.t k W
  exact⟨v,(q _ ah).trans g,m.iU f aj e⟩
 .obtain⟨v,g,m⟩:=d.e
  exact⟨v,(q _ ah).trans g,m.iU f aj e⟩
 .exact⟨o,yX Q,z⟩
 .obtain⟨v,g,m⟩:=d.m
  exact⟨v,(q _ ah).trans g,m.iU f aj e⟩
 .obtain⟨v,g,m⟩:=d.q
  exact⟨v,(q _ ah).trans g,m.iU f aj e⟩
 .exact d.se.imp (λ_ _ d=>d.iU f aj e)
 .exact(d.sd.imp (λ_ _ d=>d.iU f aj e)).snoc (F.iU f aj e)
 .exact d.sm.imp (λ_ _ d=>d.iU f aj e)
theorem tV.Oe {c:Cont}(d:tV b P X R cs c es i j)(t:cs[6]?=O u)(e:Same (λy=>y≠R/\u.ownBlock≠O y) X Y){x:aK}{l:U Int}
  (z:Own Y (R+1) 60 4 eB o (j++[x])) (A:Bx Y R (cs.setIfInBounds 6 o)) (F:Own X (R+1) 3 1 aS x.val l):tV b P Y R (cs.setIfInBounds 6 o) {c with M:=c.M++[x.base],SM:=c.SM++[l]} es i (j++[x]):=by
 obtain⟨K,p,f⟩:=d.m;obtain rfl:K=u:=by rw[t] at p;injection p with p;exact p.symm
 have Q:6<cs.size:=(dS.1 t).1;have q:∀r,6≠r->(cs.setIfInBounds 6 o)[r]?=cs[r]?:=λr S=>qx S
 refine⟨⟨A,λk W=>?_,d.t.n⟩,?_,?_,?_,?_,d.be,d.bd,(by show(j++[x]).map aK.base=c.M++[x.base];rw[eY,d.bm];rfl),?_,?_,?_⟩
 .obtain⟨v,g,m⟩:=d.t.t k W
  exact⟨v,(q _ ah).trans g,m.iU f aj e⟩
 .obtain⟨v,g,m⟩:=d.e
  exact⟨v,(q _ ah).trans g,m.iU f aj e⟩
 .obtain⟨v,g,m⟩:=d.d
  exact⟨v,(q _ ah).trans g,m.iU f aj e⟩
 .exact⟨o,yX Q,z⟩
 .obtain⟨v,g,m⟩:=d.q
  exact⟨v,(q _ ah).trans g,m.iU f aj e⟩
 .exact d.se.imp (λ_ _ d=>d.iU f aj e)
 .exact d.sd.imp (λ_ _ d=>d.iU f aj e)
 .exact(d.sm.imp (λ_ _ d=>d.iU f aj e)).snoc (F.iU f aj e)
theorem tV.want {c:Cont}(d:tV b P X R cs c es i j){m:Value}(r:cs[7]?=O u)(e:Same (λt=>t≠R/\u.ownBlock≠O t) X Y){x:Wa}
  (y:Own Y (R+1) 63 2 fE m (c.Q++[x])) (z:Bx Y R (cs.setIfInBounds 7 m)):tV b P Y R (cs.setIfInBounds 7 m) {c with Q:=c.Q++[x]} es i j:=by
 obtain⟨A,o,f⟩:=d.q;obtain rfl:A=u:=by rw[r] at o;injection o with o;exact o.symm
 have F:7<cs.size:=(dS.1 r).1;have p:∀q,7≠q->(cs.setIfInBounds 7 m)[q]?=cs[q]?:=λq K=>qx K
 refine⟨⟨z,λk S=>?_,d.t.n⟩,?_,?_,?_,?_,d.be,d.bd,d.bm,?_,?_,?_⟩
 .obtain⟨v,g,l⟩:=d.t.t k S
  exact⟨v,(p _ ah).trans g,l.iU f aj e⟩
 .obtain⟨v,g,l⟩:=d.e
  exact⟨v,(p _ ah).trans g,l.iU f aj e⟩
 .obtain⟨v,g,l⟩:=d.d
  exact⟨v,(p _ ah).trans g,l.iU f aj e⟩
 .obtain⟨v,g,l⟩:=d.m
  exact⟨v,(p _ ah).trans g,l.iU f aj e⟩
 .exact⟨m,yX F,y⟩
 .exact d.se.imp (λ_ _ d=>d.iU f aj e)
 .exact d.sd.imp (λ_ _ d=>d.iU f aj e)
 .exact d.sm.imp (λ_ _ d=>d.iU f aj e)
def Any {b d:Type}(X:World)(B:V)(T:TypeId)(k:V)(enc:d->U Value)(sl:b->Sl)(xs:U b):Prop:=∀x∈xs,∃L:U d,L.length<=2000000/\Own X B T k enc (sl x).v L
section
variable {α β:Type}{X Y:World}{B:V}{T:TypeId}{k:V}{enc:β->U Value}{sl:α->Sl}{xs:U α}
theorem Any.same (d:Any X B T k enc sl xs){b:V × V}(e:X.1[g]?=O (N cs T' b))(f:T≠T')(j:Same (λi=>i≠g) X Y):Any Y B T k enc sl xs:=λx l=>by
 obtain⟨L,m,o⟩:=d x l;exact⟨L,m,o.aQ ⟨cs,b,e⟩ f j⟩
theorem Any.below (b:Any X B T k enc sl xs)(d:Below X.1.size X Y):Any Y B T k enc sl xs:=λx e=>by
 obtain⟨L,f,g⟩:=b x e;exact⟨L,f,g.below d rfl⟩
theorem Any.set (d:Any X B T k enc sl xs){i:V}{x y:α}(e:xs[i]?=O x)(f:sl y=sl x):Any X B T k enc sl (xs.set i y):=λz b=>by
 rcases List.mem_or_eq_of_mem_set b with b|rfl
 .exact d z b
 .rw[f];exact d x (dA e)
end
end Yd
