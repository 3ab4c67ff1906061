import Derived.Test.YtpeojoobplpcoaaGreatDoorPSpD
import Derived.RangeFuncBound
import Derived.Test.YtpeojoobplpcoaaGreatDoorPIk
import Derived.IntWalk
import Derived.Test.YtpeojoobplpcoaaGreatDoorPLineC
import Derived.Laws.BytesArg
import Derived.Lib.Join
import Derived.Laws.RangeAny
import Derived.WalkSmall
set_option linter.all false
set_option maxRecDepth 200000
set_option maxHeartbeats 8000000
namespace Yd
open List renaming range->Q
open Option renaming none->z,some->E
open Go Go.RowKit Go.Proofs Tryz
open Below renaming heap_setCell->G
open Go.IntKind renaming i64->r
open Go.Obj renaming cells->L
open Go.Value renaming int->f,pointer->H
open Tryz renaming prog->R
open World renaming cell?_of_block->O,setCell->U,size_alloc->Z
open Yd renaming hid->I
open _root_ renaming List->u,Int->F,Nat->N,trivial->P
def fH (w:World)(ps:u (F × Addr))(xs:u (F × F)):Prop:=ps.map (iF w)=xs/\∀p∈ps,∃b o n,p.2=⟨b,o,z⟩/\w.cell? p.2=E (f r n)
section
variable {w:World}{ps qs:u (F × Addr)}{xs ys:u (F × F)}{a:Option Addr}{n c:N}
theorem fH.nil:fH w [] []:=⟨rfl,λp hp=>by cases hp⟩
theorem fH.cons {s:F}{b o:N}{n:F}(hc:w.cell? ⟨b,o,z⟩=E (f r n))(h:fH w ps xs):fH w ((s,⟨b,o,z⟩)::ps) ((s,n)::xs):=
 ⟨by rw[eu,h.1];show(s,p9 w _)::xs=_;rw[kX hc],λp hp=>by
  rcases dU.1 hp with rfl|hp
  .exact⟨b,o,n,rfl,hc⟩
  .exact h.2 p hp⟩
theorem fH.app (h:fH w ps xs)(k:fH w qs ys):fH w (ps++qs) (xs++ys):=⟨by rw[eU,h.1,k.1],λp hp=>(dm.1 hp).elim (h.2 p) (k.2 p)⟩
theorem fH.gr {α:Type}{hd:N->α->u (F × Addr)}{sub:α->u (F × Addr)}(g:α->u (F × F)):∀(l:u α)(i:N),(∀j x,l[j]?=E x->fH w (hd (i+j) x++sub x) (g x))->fH w (Yd.gr hd sub i l) (l.flatMap g)
 |[],_,_=>fH.nil
 |x::l,i,h=>by
  show fH w (hd i x++(sub x++Yd.gr hd sub (i+1) l)) _;rw[<-dD,gY];exact(h 0 x rfl).app (fH.gr g l (i+1) λj y hy=>by rw[show i+1+j=i+(j+1) by omega];exact h (j+1) y hy)
theorem fH.dz {b o:N}{v:lK}(hc:w.cell? ⟨b,o,z⟩=E (f r v.t)):fH w (kr ⟨b,o,z⟩ v) (jN v):=by
 unfold kr jN;by_cases h:0<v.k
 .rw[av h,av h];exact fH.cons hc fH.nil
 .rw[au h,au h];exact fH.nil
theorem yT {α:Type}{k:N}{enc:α->u Value}{l:u α}(hr:Row w k enc a n c l){j:N}{x:α}(hx:l[j]?=E x):∃b o,a=E ⟨b,o,z⟩/\∀i v,(enc x)[i]?=E v->w.cell? ⟨b,o+(j*k+i),z⟩=E v:=
 let⟨b,o,ha,hc⟩:=hr.2.2.2.2 j x hx;⟨b,o,ha,λi v hv=>by rw[<-Nat.add_assoc];exact hc i v hv⟩
theorem aeY {l:u Sn}(hr:Row w 3 dV a n c l):fH w (rE a 0 l) (l.flatMap (λs=>(2,s.obj)::jN s.v)):=fH.gr _ l 0 λj x hx=>by
 obtain⟨b,o,rfl,hc⟩:=yT hr hx;rw[bA,dB];exact fH.cons (hc 0 _ rfl) (fH.dz (hc 1 _ rfl))
theorem Tz {l:u F}(hr:Row w 1 aX a n c l):fH w (nO a 0 l) (l.map (λd=>(0,d))):=by
 rw[List.map_eq_flatMap];exact fH.gr _ l 0 λj x hx=>by
  obtain⟨b,o,rfl,hc⟩:=yT hr hx;have h:=hc 0 _ rfl;rw[gT] at h;rw[bA,dB];exact fH.cons h fH.nil
theorem X6 {h:HC}{es:u EvC}{ds:u aM}{ms:u aN}{qs:u Wa}{scan:EvC->u Sn}{dn:aM->u F}{mn:aN->u F}(hd:Deep w h es ds ms qs scan dn mn):fH w (aT h es ds ms qs scan dn mn) (lu es ds ms qs scan dn mn):=by
 obtain⟨hE,hD,hM,hQ,hS,hT,hU⟩:=hd;unfold aT lu;rw[dD,dD];refine fH.app (fH.gr _ es 0 λj x hx=>?_) (fH.app (fH.gr _ ds 0 λj x hx=>?_) (fH.app (fH.gr _ ms 0 λj x hx=>?_) (fH.gr _ qs 0 λj x hx=>?_)))
 .obtain⟨b,o,ha,hc⟩:=yT hE hx
  rw[ha,bA];refine fH.cons (hc 1 _ rfl) (fH.app ?_ (aeY (hS x (dP hx))));by_cases h1:x.kind=1
  .rw[av h1,av h1];exact fH.cons (hc 2 _ rfl) fH.nil
  rw[au h1,au h1];by_cases h2:x.kind=2\/x.kind=3
  .rw[av h2,av h2];exact fH.cons (hc 4 _ rfl) (fH.dz (hc 5 _ rfl))
  rw[au h2,au h2];by_cases h4:x.kind=4
  .rw[av h4,av h4];exact fH.cons (hc 7 _ rfl) fH.nil
  rw[au h4,au h4];exact fH.nil
 .obtain⟨b,o,ha,hc⟩:=yT hD hx
  rw[ha,bA];exact fH.cons (hc 0 _ rfl) (Tz (hT x (dP hx)))
 .obtain⟨b,o,ha,hc⟩:=yT hM hx
  rw[ha,bA];exact fH.cons (hc 0 _ rfl) (fH.cons (hc 1 _ rfl) (Tz (hU x (dP hx))))
 .obtain⟨b,o,ha,hc⟩:=yT hQ hx
  rw[ha,bA];exact fH.cons (hc 0 _ rfl) fH.nil
end
theorem RS (h:HC)(es:u EvC)(ds:u aM)(ms:u aN)(qs:u Wa)(scan:EvC->u Sn)(dn:aM->u F)(mn:aN->u F)(bh bp:N)(D:N->Prop)(w W:World)
  (hd:Deep w h es ds ms qs scan dn mn) (hb:Below w.1.size w W) (hH:Bx W bh (aD h)) (hP:Bx W bp #[H (E ⟨bh,0,z⟩)]) (Oa:∀i,i<w.1.size->D i) (TA:D bh) (TB:D bp)
  (R9:∀i,W.1.size<=i->i<W.1.size+3->D i):
  Iter R 84 #[H (E ⟨bp,0,z⟩)] (Xx w.1.size) 3 D (lu es ds ms qs scan dn mn) W:=by
 intro n l J Jx hJ hJx hY h0;have hv:=X6 hd;have T:∀{p:Prop},p->p:=id;have hS:∀(J:u (F × F)->World->Prop),(∀s X Y,J s X->Same (λi=>i<W.1.size\/W.1.size+3<=i) X Y->J s Y)->∀(s:u (F × Addr)) X Y,(J (s.map (iF w)) X/\sW (λ_=>True) w X/\w.1.size<=X.1.size)->Same (λi=>i<W.1.size\/W.1.size+3<=i) X Y->(J (s.map (iF w)) Y/\sW (λ_=>True) w Y/\w.1.size<=Y.1.size):=
  λJ hJ s X Y hx hs=>⟨hJ _ _ _ hx.1 hs,λa v hC hc=>(O (hs.block a.block (.inl (bM (dR hc) hb.size)) (bM (dR hc) hx.2.2))).trans (hx.2.1 a v hC hc),bX hx.2.2 hs.size⟩
 refine(F7 h es ds ms qs scan dn mn bh bp D (λ_=>True) w W hd hH hP (λa v _ hc=>bn hb rfl hc) hb.size TA TB (λ_ _ _ _ _ _ _=>P) (λ_ _ _ _ _ _ _=>P) (λ_ _ _ _ _=>P) (λ_ _ _ _ _=>P) R9 n l
  (λpre X=>J (pre.map (iF w)) X/\sW (λ_=>True) w X/\w.1.size<=X.1.size) (λpre X=>Jx (pre.map (iF w)) X/\sW (λ_=>True) w X/\w.1.size<=X.1.size) (hS J hJ) (hS Jx hJx) (λ_ _ h=>h.2.1) (λ_ _ h=>h.2.1) ?_ ⟨h0,λa v _ hc=>bn hb rfl hc,hb.size⟩).mono ?_
 .rintro pre x args X ⟨h1,h2,h3⟩ hp rfl hsz m
  obtain⟨b,o,k,hx,hc⟩:=hv.2 x (hp.subset ak);have hval:iF w x=(x.1,k):=by show(x.1,p9 w x.2)=_;rw[kX hc]
  have hk:∀Y,aQ D X Y->sW (λ_=>True) w Y/\w.1.size<=Y.1.size:=λY hk=>⟨λa v hC hc=>(O (hk.2 a.block (Oa _ (dR hc)) (bM (dR hc) h3))).trans (h2 a v hC hc),bX h3 hk.1⟩
  refine(hY (pre.map (iF w)) (iF w x) _ X h1 (by rw[<-hv.1];simpa using hp.map (iF w)) ⟨b,o,by rw[hx] at hc;exact dR hc,by rw[hval,hx],by rw[hval,<-hx];exact h2 _ _ P hc⟩ hsz m).mono ?_;rintro e Y (⟨he,hj,hq⟩|⟨he,hj,hq⟩)
  .exact .inl ⟨he,⟨by rw[eU];exact hj,hk Y hq⟩,hq⟩
  .exact .inr ⟨he,⟨by rw[eU];exact hj,hk Y hq⟩,hq⟩
 .rintro e Y ⟨v,he,hr⟩
  refine⟨v,he,?_⟩;rcases hr with hr|⟨pre,hp,hr⟩
  .left;rw[<-hv.1];exact hr.1
  .right;exact⟨_,by rw[<-hv.1];exact hp.map _,hr.1⟩
attribute [local go_sem] Oper.semAt_some
theorem MC (p:Addr)(w:World):Calls R 43 #[H (E p)] w λe w'=>
  e= .returned (.func (.func 84) #[] #[H (E ⟨w.1.size,0,z⟩)])/\w'=w.alloc (L #[H (E p)] 108):=by
 go_enter Tryz.func43,Tryz.ntmps43;go_wp2_with fail;go_ret;exact⟨rfl,rfl⟩
theorem F6:∀args w,(callFunc 84 args).run R w= .ok (.enter 84 args) w:=enters_of func84 ay rfl
@[reducible] def Gj (m:N->F):Array Value:=#[f r (m 0),f r (m 1),f r (m 2),f r (m 3)]
theorem xB (m:N->F){s:N}(hs:s<4):(Gj m)[s]?=E (f r (m s)):=by
 match s,hs with
 |0,_=>rfl
 |1,_=>rfl
 |2,_=>rfl
 |3,_=>rfl
theorem Bx.aob {X:World}{b:N}{m:N->F}(h:Bx X b (Gj m)){s:N}(hs:s<4)(v:F):Bx (X.setCell ⟨b,s,z⟩ (f r v)) b (Gj λi=>if i=s then v else m i):=by
 refine⟨λi=>?_,λi=>by rw[World.frozen?_setCell];exact h.2.1 i,by have:=h.2.2;simpa[U] using this⟩;by_cases hi:i=s
 .subst hi
  rw[World.cell?_setCell_same' _ _ _ (by rw[h.1 i,xB m hs];rfl),xB _ hs,av rfl]
 .rw[World.cell?_setCell_other _ _ _ _ (λe=>by cases e;exact hi rfl),h.1 i]
  rcases gP i 4 with h4|h4
  .rw[xB m h4,xB _ h4,au hi]
  .rw[Ef (by simpa using h4),Ef (by simpa using h4)]
theorem Bx.putObj {X:World}{b:N}{cs:Array Value}(h:Bx X b cs){l:N}(o:Obj)(hl:b≠l):Bx (X.putObj l o) b cs:=(Same.putObj (A:=λi=>i≠l) X o ak).bx h hl
theorem Deep.below {w w':World}{h:HC}{es:u EvC}{ds:u aM}{ms:u aN}{qs:u Wa}{scan:EvC->u Sn}{dn:aM->u F}{mn:aN->u F}(hd:Deep w h es ds ms qs scan dn mn){B:N}
  (hb:Below B w w') (hB:B=w.1.size):Deep w' h es ds ms qs scan dn mn:=
 ⟨hd.1.below hb hB,hd.2.1.below hb hB,hd.2.2.1.below hb hB,hd.2.2.2.1.below hb hB,λx hx=>(hd.2.2.2.2.1 x hx).below hb hB,λx hx=>(hd.2.2.2.2.2.1 x hx).below hb hB,λx hx=>(hd.2.2.2.2.2.2 x hx).below hb hB⟩
theorem max2 (a b:F)(w:World):(Builtin.max_ #[3,3] 3 #[f r a,f r b]).run R w= .ok (f r (if b>a then b else a)) w:=by
 simp[Builtin.max_,Builtin.max2]
def nS (h:HC)(nl:N->u Bs)(es:u EvC)(ds:u aM)(ms:u aN)(qs:u Wa)(scan:EvC->u Sn)(dn:aM->u F)(mn:aN->u F):Bool:=
 jq h nl es ds ms qs scan dn mn && (jg (lu es ds ms qs scan dn mn)).2 && (Q 4).all (λi=>decide ((jg (lu es ds ms qs scan dn mn)).1 i=(h.nm i).n))
def F3 (b:Bool):F:=if b=true then 0 else 210
theorem FZ (h:HC)(nl:N->u Bs)(es:u EvC)(ds:u aM)(ms:u aN)(qs:u Wa)(scan:EvC->u Sn)(dn:aM->u F)(mn:aN->u F)(w:World)(hg:wz w)
  (hn:∀i,i<4->Row w 1 encStr (h.nm i).a (h.nm i).n (h.nm i).c (nl i)) (hd:Deep w h es ds ms qs scan dn mn):
  Calls R 11 #[bG h] w (dw (f r (F3 (nS h nl es ds ms qs scan dn mn))) w):=by
 refine(callsIn_wide (n:=3)).1 ?_;refine callsIn_of_wp_marks Tryz.func11 rfl P ?_ rfl;simp only[Tryz.ntmps11,p8,dO,iy,Nat.reduceAdd,Nat.reduceSub,rX,rY,oz,oC,fJ,fu];refine wpIn_wide.2 ?_;obtain⟨S,hS⟩:∃S:Bool,S=jq h nl es ds ms qs scan dn mn:=⟨_,rfl⟩;obtain⟨C,hC⟩:∃C:Bool,C=nS h nl es ds ms qs scan dn mn:=⟨_,rfl⟩;obtain⟨xs,hxs⟩:∃xs,xs=lu es ds ms qs scan dn mn:=⟨_,rfl⟩;rw[<-hC];have HC:Hid (C=(S && (jg xs).2 && (Q 4).all (λi=>decide ((jg xs).1 i=(h.nm i).n)))):=by rw[hC,hS,hxs];exact I rfl
 have CY:Hid (S=true->∀x∈xs,xI x):=λhh=>by rw[hxs];exact Ma (by rw[<-hS];exact hh) (λi hi=>(hn i hi).len)
 have F5:=I hxs;have hb0:Below w.1.size w ((w.alloc (L (aD h) 29)).alloc (L #[f r 0] 30)):=((Below.refl _ _).alloc (aB _) _).alloc ak _;have zR:=I (Kk h nl es ds ms qs scan dn mn _ (hg.below hb0) (λi hi=>(hn i hi).below hb0 rfl) (hd.below hb0 rfl));rw[<-hS] at zR;have fQ:=I ((Bx.new w (aD h) 29).alloc (L #[f r 0] 30));have hbr:=Bx.new (w.alloc (L (aD h) 29)) #[f r 0] 30;rw[Z] at hbr;have uH:=I hbr;have HB0:=I hb0;have HD:=I hd;clear hC hS hxs hb0 hbr hd hg hn;go_wp2_with fail;refine zR.q.mono ?_;rintro e w1 ⟨rfl,hb1⟩;have HB1:=I (HB0.q.bZ hb1);have eX:=I (fQ.q.keep hb1);have HR1:=I (uH.q.keep hb1);have Ej:=eX.q.1;have aoc:=HR1.q.1;have aod:=HR1.q.2.1;have aoe:=HR1.q.2.2;clear hb1
 cases S
 .go_wp2_with fail
  have hc:=(HR1.q.set1 (f r 210)).1 0;refine⟨f r 210,by simp[results,results11,go_sem,hc],?_,HB1.q.setCell (p:=⟨w.1.size+1,0,z⟩) ak _⟩;rw[HC.q];rfl
 go_wp2_with (go_at_call 43;refine(MC _ _).mono ?_;rintro e w' ⟨rfl,rfl⟩)
 have hz1:w.1.size+2<=w1.1.size:=by omega
 have vE:((w1.alloc (L #[f r 0,f r 0,f r 0,f r 0] 104)).alloc (L #[H (E ⟨w.1.size,0,z⟩)] 108)).1.size=w1.1.size+2:=by simp
 have E5:Below w1.1.size w1 ((w1.alloc (L #[f r 0,f r 0,f r 0,f r 0] 104)).alloc (L #[H (E ⟨w.1.size,0,z⟩)] 108)):=
  ((Below.refl _ _).alloc (aB _) _).alloc ak _
 have Kl:Bx ((w1.alloc (L #[f r 0,f r 0,f r 0,f r 0] 104)).alloc (L #[H (E ⟨w.1.size,0,z⟩)] 108)) w1.1.size (Gj λ_=>0):=(Bx.new w1 _ _).alloc _;have Km:Bx ((w1.alloc (L #[f r 0,f r 0,f r 0,f r 0] 104)).alloc (L #[H (E ⟨w.1.size,0,z⟩)] 108)) (w1.1.size+1) #[H (E ⟨w.1.size,0,z⟩)]:=by
  have:=Bx.new (w1.alloc (L #[f r 0,f r 0,f r 0,f r 0] 104)) #[H (E ⟨w.1.size,0,z⟩)] 108;rw[Z] at this;exact this
 clear Ej aoc aod aoe fQ uH zR;revert vE E5 Kl Km;generalize(w1.alloc (L #[f r 0,f r 0,f r 0,f r 0] 104)).alloc (L #[H (E ⟨w.1.size,0,z⟩)] 108)=V;intro vE E5 Kl Km;have wY:=HB1.q.bZ E5;have hVH:=eX.q.keep E5;have hVR:=HR1.q.keep E5;rw[F5.q] at HC CY;refine wpIn_wide.1 (BS (n:=3) (gf:=84) (lb:=#[H (E ⟨w1.1.size+1,0,z⟩)]) (by simp[go_sem]) F6
  (qP:=Xx w.1.size) (k:=3) (D:=λi=>i<w.1.size\/i=w.1.size\/i=w1.1.size+1\/(w1.1.size+4<=i/\i<w1.1.size+7)) (xs:=lu es ds ms qs scan dn mn)
  (λW hW hWs=>RS h es ds ms qs scan dn mn w.1.size (w1.1.size+1) _ w W HD.q (wY.trans (hW.mono wY.size)) (hVH.keep hW) (Km.keep hW) (λi hi=> .inl hi) (.inr (.inl rfl)) (.inr (.inr (.inl rfl)))
   (λi h1 h2=> .inr (.inr (.inr ⟨by omega,by omega⟩)))) ah
  (λx args X hx=>by obtain⟨_,_,_,rfl,_⟩:=hx;rfl)
  (λpre X=>Below w.1.size w X/\Bx X w.1.size (aD h)/\Bx X (w.1.size+1) #[f r 0]/\Bx X w1.1.size (Gj (jg pre).1)/\(jg pre).2=true)
  (λc pre X=>c= .ret/\Below w.1.size w X/\Bx X (w.1.size+1) #[f r 210]/\(jg pre).2=false)
  (λpre X Y hh k=>⟨k.below hh.1 (λi hi=> .inl ah) hh.1.size,k.bx hh.2.1 (.inl ah),k.bx hh.2.2.1 (.inl ah),k.bx hh.2.2.2.1 (.inl ah),hh.2.2.2.2⟩)
  (λc pre X Y hh k=>⟨hh.1,k.below hh.2.1 (λi hi=> .inl ah) hh.2.1.size,k.bx hh.2.2.1 (.inl ah),hh.2.2.2⟩)
  ⟨wY,hVH,hVR,Kl,rfl⟩ ?round ?done ?stop)
 case stop=>
  rintro c pre X hpre ⟨rfl,hb,hr,hno⟩ hdef;refine wpIn_wide.2 ?_;go_wp2_with fail;have hp:=hr.putObj (l:=V.1.size) (.deferred z) ah;have hc:=hp.1 0;refine⟨by simp,.inl ⟨_,_,rfl,run_takeDeferred hdef,?_⟩⟩;refine⟨f r 210,by simp[results,results11,go_sem,hc],?_,(Same.putObj (A:=λi=>i<w.1.size) X _ ah).below hb (λi hi=>hi) hb.size⟩;rw[HC.q,aeZ hpre hno];rfl
 case round=>
  rintro pre ⟨x1,x2⟩ args X ⟨hb,hH,hR,hM,hno⟩ hpre ⟨b,o,hlt,rfl,hc⟩ hsz m;simp only at hc;have hmem:(x1,x2)∈lu es ds ms qs scan dn mn:=hpre.subset ak;obtain⟨⟨hx0,hx4⟩,hn0,MU⟩:=CY.q P _ hmem;simp only at hx0 hx4 hn0 MU;obtain⟨s,rfl⟩:∃s:N,x1=s:=⟨x1.toNat,by omega⟩;have hs4:s<4:=by omega
  have akI:=hmem
  gi_wp2
  refine⟨Below.refl _ _,λX2 hk=>?_⟩;have aof:b<X.1.size:=by have:=hb.size;omega
  have hc2:X2.cell? ⟨b,o,z⟩=E (f r x2):=(O (a:=⟨b,o,z⟩) (hk.block b (by simp;omega) aof)).trans hc;have hb2:Below w.1.size w X2:=hk.below hb (λi hi=>by simp;omega) hb.size;have hH2:=hk.bx hH (by simp;omega);have hR2:=hk.bx hR (by simp;omega);have hM2:=hk.bx hM (by simp;omega);have hcm:X2.cell? ⟨w1.1.size,s,z⟩=E (f r ((jg pre).1 s)):=(hM2.1 s).trans (xB _ hs4);have hz2:V.1.size+2<=X2.1.size:=by have:=hk.size;omega
  have Dn:=I (BZ pre (((s:N):F),x2));obtain⟨mm,hmm⟩:∃mm:F,mm=(jg pre).1 s:=⟨_,rfl⟩;rw[<-hmm] at hcm;have Ap:=I hmm;have HB2:=I hb2;have IB:=I hH2;have HR2:=I hR2;have lM:=I hM2;have WU:=I hno;have HP:=I hpre;have anN:=I hmem;clear hmm hb2 hH2 hR2 hM2 hno hpre hmem akI hb hH hR hM hk hc;have hmx:=max2 mm (x2+1);by_cases hgt:mm<x2
  .have hfr:=HR2.q.2.1;have hcr:=HR2.q.1
   gi_wp2
   refine pQ 7 [(0,0),(1,0),(2,0),(3,0),(4,0),(5,0),(6,0)] (λ_=>True) (λW'=>W'.cell? ⟨b,o,z⟩=E (f r x2)/\W'.cell? ⟨w1.1.size,s,z⟩=E (f r mm)) ay ay ay (trivial) (⟨hc2,hcm⟩) ?_;refine qC ?_;refine aP ?_
   gi_wp2
   exact⟨⟨G _ _ _ _ (by simp;omega),G _ _ _ _ (by simp;omega)⟩,aQ.setCell X2 (w.1.size+1) 0 _ (by simp;omega),rfl,(HB2.q.setCell (p:=⟨w.1.size+1,0,z⟩) ak _).drew,
    (HR2.q.set1 _).drew,by rw[Dn.q];exact Sv (by simp only[jB];rw[<-Ap.q];omega)⟩
  .have hfm:=lM.q.2.1
   have hle:x2<=(jg pre).1 s:=by rw[<-Ap.q];omega
   have hfe:(λi=>if i=s then(if x2+1>(jg pre).1 i then x2+1 else(jg pre).1 i) else(jg pre).1 i)=(λi=>if i=s then(if x2+1>mm then x2+1 else mm) else(jg pre).1 i):=by
    funext i
    by_cases hi:i=s
    .subst hi;rw[Ap.q]
    .simp[hi]
   have ahH:=I (show jg (pre++[((s:F),x2)])=(λi=>if i=s then(if x2+1>mm then x2+1 else mm) else(jg pre).1 i,true) by rw[Dn.q,<-hfe];exact Ol WU.q hle);clear hfe hle
   gi_wp2
   refine pQ 7 [(0,0),(1,0),(2,0),(3,0),(4,0),(5,0),(6,0)] (λ_=>True) (λW'=>W'.cell? ⟨b,o,z⟩=E (f r x2)/\W'.cell? ⟨w1.1.size,s,z⟩=E (f r mm)) ay ay ay (trivial) (⟨hc2,hcm⟩) ?_;refine qC ?_;refine aP ?_
   gi_wp2
   refine pQ 10 [(0,0),(1,0),(2,0),(3,0),(4,0),(5,0),(6,0),(7,0),(8,0),(9,0),(10,2)] (λ_=>True) (λW'=>W'.cell? ⟨b,o,z⟩=E (f r x2)/\W'.cell? ⟨w1.1.size,s,z⟩=E (f r mm)) ay ay ay (trivial) (⟨hc2,hcm⟩) ?_;refine qC ?_;refine bC rfl rfl rfl (λK hK=>?_);go_simp;refine hK _ _ P ?_;clear hK K;refine aP ?_
   gi_wp2
   refine⟨⟨G _ _ _ _ (by simp;omega),G _ _ _ _ (by simp;omega)⟩,aQ.setCell X2 w1.1.size s _ (by simp;omega),(HB2.q.setCell (p:=⟨w1.1.size,s,z⟩) (by simp;omega) _).drew.drew,
    (IB.q.setOther _ _ _ ah).drew.drew,(HR2.q.setOther _ _ _ ah).drew.drew,?_,by rw[ahH.q]⟩
   have hval:max mm (IntKind.i64.wrap (x2+1))=(if x2+1>mm then x2+1 else mm):=by
    rw[IntWalk.i64_in _ ah];split <;> omega
   rw[ahH.q,hval];exact((lM.q.aob hs4 _).drew).drew
 case done=>
  rintro X ⟨hb,hH,hR,hM,hno⟩ hdef;rw[vE] at hdef;obtain⟨M,hMM⟩:∃M,M=(jg (lu es ds ms qs scan dn mn)).1:=⟨_,rfl⟩;rw[<-hMM] at hM HC;rw[hno] at HC;have hbx:=hH.1;have HH:=I hH;have HR:=I hR;have HM:=I hM;have HB:=I hb;have CW:=I hdef;clear hH hR hM hb hdef hMM hno E5 Kl Km wY hVH hVR;simp only[Exit.inBlock,Exit.then]
  go_wp2_with (go_at_call 22;refine(lF h _).mono ?_;rintro e w2 ⟨rfl,hb2⟩)
  have HB2:=I (HB.q.bZ hb2);have HR2:=I (HR.q.keep hb2);have lM:=I (HM.q.keep hb2);have hlm:=HM.q.2.2;have Vi:=I ((hb2.block _ (dh.1 CW.q).1).trans CW.q);have hlV:=(dh.1 Vi.q).1;clear hb2 hbx
  go_loop [33] (λi=>∃k:N,k<=4/\i= f r k/\(Q k).all (λi=>decide (M i=(h.nm i).n))=true) (λi=>4 - (RowKit.intOf i).toNat)
  case atStart=>exact⟨0,by omega,rfl,rfl⟩
  case round=>
   obtain⟨k,hk,rfl,hall⟩:=hrel;have DX:=I hall;clear hall;by_cases hlt:k<4
   .have hix:=λW=>Qb h k hlt W
    have hcm:=(lM.q.1 k).trans (xB M hlt);have hstep:Hid ((Q (k+1)).all (λi=>decide (M i=(h.nm i).n))=decide (M k=(h.nm k).n)):=by
     rw[List.range_succ,List.all_append,DX.q];exact I ak
    have hsub:Hid (M k≠(h.nm k).n->(Q 4).all (λi=>decide (M i=(h.nm i).n))=false):=I (λhne=>by
     rw[List.all_eq_false];exact⟨k,by simpa using hlt,by simpa using hne⟩)
    obtain⟨sl,hsl⟩:∃sl,sl=h.nm k:=⟨_,rfl⟩;obtain⟨mk,hmk⟩:∃mk:F,mk=M k:=⟨_,rfl⟩;rw[<-hsl] at hix hstep hsub;rw[<-hmk] at hcm hstep hsub;obtain⟨sa,sn,sc⟩:=sl;clear hsl hmk;by_cases hq:mk=(sn:F)
    .have hq1:(mk==(sn:F))=true:=vV.2 hq
     have hq2:(mk !=(sn:F))=false:=by simp[hq]
     have HQ:=I hq;clear hq;go_wp2_with fail
     go_round
     case rel=>exact⟨k+1,by omega,by go_num,by rw[hstep.q];simpa using HQ.q⟩
     case measure=>simp[RowKit.intOf];omega
    .have hq1:(mk==(sn:F))=false:=aU.2 hq
     have hq2:(mk !=(sn:F))=true:=by simp[hq]
     have HQ:=I hq;clear hq;have hfr:=HR2.q.2.1;have hcr:=HR2.q.1;have hlr:=HR2.q.2.2;go_wp2_with fail;have hp:=(HR2.q.set1 (f r 210)).putObj (l:=w1.1.size+2) (.deferred z) ah;have hc:=hp.1 0;have hdf:(w2.setCell ⟨w.1.size+1,0,z⟩ (f r 210)).1[w1.1.size+2]?=E (.deferred (E [])):=(G _ _ _ _ (by simp;omega)).trans Vi.q;refine⟨by simp,.inl ⟨_,_,rfl,run_takeDeferred hdf,?_⟩⟩;refine⟨f r 210,by simp[results,results11,go_sem,hc],?_,(Same.putObj (A:=λi=>i<w.1.size) _ _ ah).below (HB2.q.setCell (p:=⟨w.1.size+1,0,z⟩) ak _) (λi hi=>hi) (by simp[U];omega)⟩;rw[HC.q,hsub.q HQ.q];rfl
   .obtain rfl:k=4:=by omega
    have hfr:=HR2.q.2.1;have hcr:=HR2.q.1;have hlr:=HR2.q.2.2;go_wp2_with fail;have hp:=(HR2.q.set1 (f r 0)).putObj (l:=w1.1.size+2) (.deferred z) ah;have hc:=hp.1 0;have hdf:(w2.setCell ⟨w.1.size+1,0,z⟩ (f r 0)).1[w1.1.size+2]?=E (.deferred (E [])):=(G _ _ _ _ (by simp;omega)).trans Vi.q;refine⟨by simp,.inl ⟨_,_,rfl,run_takeDeferred hdf,?_⟩⟩;refine⟨f r 0,by simp[results,results11,go_sem,hc],?_,(Same.putObj (A:=λi=>i<w.1.size) _ _ ah).below (HB2.q.setCell (p:=⟨w.1.size+1,0,z⟩) ak _) (λi hi=>hi) (by simp[U];omega)⟩;rw[HC.q,DX.q];rfl
end Yd
namespace Yd
open Bool renaming false->Z
open Option renaming none->F,some->I
open Go Go.RowKit Go.Proofs Tryz
open Go renaming World->U
open Go.IntKind renaming i64->G
open Go.Obj renaming cells->J
open Go.Value renaming slice->C,int->H
open Yd renaming hid->N
open _root_ renaming Nat->O,List->S
structure aH where
 kind:Int
 names:S Bs
 lvl:Int
 aG:S To
 first:Bool
 bits:Int
 deriving DecidableEq
def gD (w:U)(B:O)(l:bE)(s:aH):Prop:=
 (l.kind=s.kind/\l.lvl=s.lvl/\l.first=s.first/\l.bits=s.bits/\l.nn=s.names.length/\l.vn=s.aG.length)/\
 Own w B 9 1 encStr (C l.na l.nn l.nc) s.names/\Own w B 144 2 sI (C l.va l.vn l.vc) s.aG
theorem gD.below {w w':U}{B:O}{l:bE}{s:aH}(h:gD w B l s)(hb:Below w.1.size w w'):gD w' B l s:=⟨h.1,h.2.1.below hb rfl,h.2.2.below hb rfl⟩
theorem gD.mono {w:U}{B B':O}{l:bE}{s:aH}(h:gD w B l s)(hB:B'<=B):gD w B' l s:=⟨h.1,h.2.1.mono hB,h.2.2.mono hB⟩
def wC (s:aH)(w:U)(e:Ending)(w':U):Prop:=∃l,e= .returned (dY l)/\gD w' w.1.size l s/\Below w.1.size w w'
def y9 (B:O)(x:aH)(args:Array Value)(X:U):Prop:=∃l:bE,args=#[dY l]/\gD X B l x
theorem Bx.new1 {X:U}{b:O}{cs:Array Value}{T:TypeId}(h:X.1.size=b):Bx (X.alloc (J cs T)) b cs:=h▸Bx.new X cs T
theorem Row.str1 (w:U)(s:Bs):Row (w.alloc (J #[.string ⟨s.toArray⟩] 9)) 1 encStr (I ⟨w.1.size,0,F⟩) 1 1 [s]:=
 (Own.new (hc:=ku) w w.1.size 9 #[.string ⟨s.toArray⟩] [s] (aB _) rfl (by simp[maxLen])).row ak
theorem Row.PO {X:U}{g:O}(h:X.1.size=g)(s:Bs):Row (X.alloc (J #[.string ⟨s.toArray⟩] 9)) 1 encStr (I ⟨g,0,F⟩) 1 1 [s]:=h▸Row.str1 X s
theorem Row.drew {α:Type}{w:U}{k:O}{enc:α->S Value}{a:Option Addr}{n c:O}{xs:S α}(h:Row w k enc a n c xs):Row w.drew k enc a n c xs:=h
def nameOf (ns:S Bs)(t:Int):Bs:=ns.getD t.toNat []
theorem oV {ns:S Bs}{k:O}{s:Bs}(h:ns[k]?=I s):nameOf ns (k:Int)=s:=by
 unfold nameOf;rw[jB,List.getD_eq_getElem?_getD,h];rfl
def nk (tn:S Bs)(v:lK):To:=if v.k=0 then⟨[],0⟩ else⟨nameOf tn v.t,v.k⟩
theorem IC (h:HC)(v:lK)(tn:S Bs)(w:U)(hr:Row w 1 encStr h.t.a h.t.n h.t.c tn)(hv:v.k=0\/(0<=v.t/\v.t<h.t.n)):
  Calls Tryz.prog 109 #[bG h,.agg #[H G v.t,H G v.k]] w (dw (rV (nk tn v)) w):=by
 by_cases hk:v.k=0
 .have hq:nk tn v=⟨[],0⟩:=by unfold nk;rw[av hk]
  rw[hq];obtain⟨vt,vk⟩:=v;simp only at hk;subst hk;clear hq hv hr;go_enter func109,ntmps109;go_wp2_with fail;refine bodyPost_ret (v:=rV ⟨[],0⟩) (by simp[results,results109,go_sem]) rfl ⟨rfl,(((Below.refl _ _).alloc (aB _) _).alloc ak _).alloc (by simp;omega) _⟩
 .have hv':=hv.resolve_left hk
  obtain⟨tt,X7⟩:∃tt:O,v.t=tt:=⟨v.t.toNat,by omega⟩;obtain⟨s,b,o,hx,hab,hc⟩:=hr.at_ (i:=tt) ah;have hq:nk tn v=⟨s,v.k⟩:=by unfold nk;rw[au hk,X7,oV hx]
  rw[hq];have hc0:=hc 0 _ rfl;simp only[gT,dM] at hc0;have hle:=hr.le;clear hq hc hv hx hr;obtain⟨vt,vk⟩:=v;simp only at X7 hk hv';subst X7;have hlt:(tt:Int)<h.t.n:=hv'.2;have hkb:(vk==0)=Z:=aU.2 hk;clear hv' hk;have hb:=dR hc0;simp only at hb;have mZ:=N hab;clear hab;go_enter func109,ntmps109;go_wp2_with fail;have hcs:(((w.alloc (J (aD h) 62)).alloc (J #[H G tt,H G vk] 47)).alloc (J #[.string ByteArray.empty,H G 0] 144)).cell? ⟨b,o+tt,F⟩=I (.string ⟨s.toArray⟩):=
   ((((Below.refl w.1.size w).alloc (aB _) _).alloc ak _).alloc (by simp;omega) _).cell (p:=⟨b,o+tt,F⟩) hb▸hc0
  refine aC 10 [(0,0),(1,0),(2,0),(3,0),(4,0),(5,0),(6,0),(7,0),(8,0),(9,0),(10,2)] (λ_=>True) (λW'=>W'.cell? ⟨w.1.size,0,F⟩=I (C (I ⟨b,o,F⟩) h.t.n h.t.c)/\W'.cell? ⟨w.1.size+1,0,F⟩=I (H G tt)/\W'.cell? ⟨w.1.size+1,1,F⟩=I (H G vk)/\W'.cell? ⟨b,o+tt,F⟩=I (.string ⟨s.toArray⟩)) ay ay (trivial) (⟨((((Bx.new1 rfl).alloc _).alloc _).1 0).trans (by rw[<-mZ.q];rfl),((Bx.new1 ak).alloc _).1 0,((Bx.new1 ak).alloc _).1 1,hcs⟩) ?_;refine qC ?_;refine bC rfl rfl rfl (λK hK=>?_);go_simp;refine hK _ _ trivial ?_;clear hK K;refine aP ?_;go_wp2_with fail;refine bodyPost_ret (v:=rV ⟨s,vk⟩) (by simp[results,results109,go_sem]) rfl ⟨rfl,((((Below.refl _ _).alloc (aB _) _).alloc ak _).alloc (by simp;omega) _).drew⟩
def O3 (w0:U)(ns:S Bs)(e:Ending)(w':U):Prop:=∃a c,e= .returned (C a ns.length c)/\Own w' w0.1.size 9 1 encStr (C a ns.length c) ns/\Below w0.1.size w0 w'
theorem O4 (h:HC)(tn:S Bs)(a:Option Addr)(n c:O)(ts:S Int)(na:Option Addr)(nc:O)(names:S Bs)(w0 w:U)(hb:Below w0.1.size w0 w)
  (hr:Row w0 1 aX a n c ts) (ht:Row w0 1 encStr h.t.a h.t.n h.t.c tn) (hts:∀t∈ts,aV t h.t.n=true)
  (ho:Own w w0.1.size 9 1 encStr (C na names.length nc) names) (hl:names.length+n<=100000):
  Calls Tryz.prog 54 #[bG h,C a n c,C na names.length nc] w (O3 w0 (names++ts.map (nameOf tn))):=by
 have HB:=N hb;have HR:=N hr;have HT:=N ht;have HTS:=N hts;have HO:=N ho;have HL:=N hl;obtain⟨i,z,hi,hz,hsize,dx,hzs⟩:=nL;have HI:=N (⟨hi,hz,hsize,dx,hzs⟩:_/\_/\_/\_/\_);have hle:=hr.le;have arB:=ht.le;clear hb hr ht hts ho hl hi hz hsize dx hzs;go_enter func54,ntmps54;go_wp2_with fail
 go_loopw [2,11] (λv i wr=>∃(k:O)(a0:Option Addr)(c0:O),k<=n/\v= C a0 (names.length+k) c0/\i= H G k/\Own wr w0.1.size 9 1 encStr (C a0 (names.length+k) c0) (names++(ts.take k).map (nameOf tn))/\
   Below w0.1.size w0 wr/\Bx wr w.1.size (aD h)/\(Value.slice a0 (names.length+k) c0).ownBlock≠I w.1.size) (λ_ i _=>n - (RowKit.intOf i).toNat)
 case atStart=>
  exact⟨0,na,nc,aZ _,rfl,rfl,by simpa using HO.q.alloc _,HB.q.alloc HB.q.size _,Bx.new1 rfl,λe=>absurd (HO.q.lt _ e).2 (Nat.lt_irrefl _)⟩
 case round=>
  obtain⟨k,a0,c0,hk,rfl,rfl,how,hbw,hbx,hne⟩:=hrel;by_cases hlt:k<n
  .obtain⟨t,b,o,hx,rfl,hc⟩:=(HR.q.below hbw rfl).at_ hlt
   have hc0:=hc 0 _ rfl;simp only[gT,dM] at hc0;obtain⟨ht0,htn⟩:=nI (HTS.q t (dP hx));obtain⟨tt,rfl⟩:∃tt:O,t=tt:=⟨t.toNat,by omega⟩;have X7:tt<h.t.n:=by omega
   obtain⟨s,b2,o2,hx2,Bz,hc2⟩:=(HT.q.below hbw rfl).at_ X7;have hc3:=hc2 0 _ rfl;simp only[gT,dM] at hc3;have hch:wr.cell? ⟨w.1.size,0,F⟩=I (C (I ⟨b2,o2,F⟩) h.t.n h.t.c):=(hbx.1 0).trans (by rw[<-Bz];rfl);have hmap:Hid ((names++(ts.take k).map (nameOf tn))++[s]=names++(ts.take (k+1)).map (nameOf tn)):=by
    rw[jd,hx];exact N (by simp[oV hx2])
   have hkl:k<=ts.length:=by rw[HR.q.len];omega
   have jU:Hid ((names++(ts.take k).map (nameOf tn)).length+1=names.length+k+1):=N (by rw[bL,bH,fE,qY hkl]);have iU:Hid ((names.length+k+1)*16<=140737488355328):=N (by have:=HL.q;omega);have iM:Hid (names.length+k+1<=maxLen):=N (by have:=HL.q;unfold maxLen;omega);have sO:Hid (w0.1.size<=(wr.alloc (J #[.string ⟨s.toArray⟩] 9)).1.size):=N (by have:=hbw.size;simp;omega);have hlw:=hbx.2.2;have HOW:=N how;have cZ:=N hbw;have fQ:=N hbx;have kP:=N hne;clear hc hc2 hx hx2 Bz how hbw hbx hne ht0 htn hkl
   go_wp2_with (at_builtin;refine je rfl _ _ 23 rfl i z 16 underlying23 HI.q.1 HI.q.2.1 HI.q.2.2.1 HI.q.2.2.2.1 HI.q.2.2.2.2 rfl (HOW.q.alloc _) (I ⟨wr.1.size,0,F⟩) 1 1 (names.length+k+1) [s] rfl (Row.str1 wr s) jU.q iU.q iM.q sO.q ?_;intro a' c' w1 hown1 hg1 vQ)
   have hne1:(Value.slice a' (names.length+k+1) c').ownBlock≠I w.1.size:=by
    rcases vQ with h1|h1
    .rw[h1];exact kP.q
    .rw[h1];simp;omega
   rw[hmap.q] at hown1;have HR1:=N (⟨hown1,below_app (cZ.q.alloc cZ.q.size _) (HOW.q.alloc _) (aB _) sO.q hg1,(fQ.q.alloc _).grown hg1 kP.q,hne1⟩:_/\_/\_/\_);clear hown1 hg1 vQ hne1;go_roundw
   case rel=>exact⟨k+1,a',c',by omega,rfl,by go_num,HR1.q⟩
   case measure=>simp[RowKit.intOf];omega
  .obtain rfl:k=n:=by omega
   have htk:ts.take k=ts:=iH (by rw[HR.q.len];exact aB _);rw[htk] at how;have hln:names.length+k=(names++ts.map (nameOf tn)).length:=by rw[bL,bH,HR.q.len]
   have HOW:=N how;have cZ:=N hbw;have oU:=N hln;clear how hbw hbx hne htk hln;go_wp2_with fail;go_ret;rw[oU.q];exact⟨a0,c0,rfl,by rw[<-oU.q];exact HOW.q,cZ.q⟩
theorem bP {X:U}{p:Addr}{v:Value}(o:Obj)(h:X.cell? p=I v):(X.alloc o).cell? p=I v:=(((Below.refl X.1.size X).alloc (aB _) o).cell (dR h)).trans h
theorem cellS {X:U}{p:Addr}{v u:Value}{b o:O}(h:X.cell? p=I v)(hb:p.block≠b):(X.setCell ⟨b,o,F⟩ u).cell? p=I v:=by
 rw[World.cell?_setCell_other _ _ _ _ (λe=>hb (by rw[<-e]))];exact h
theorem Same.refl' {A:O->Prop}(X:U):Same A X X:=⟨rfl,rfl,rfl,aB _,λ_ _ _=>rfl⟩
theorem Same.setTail {A:O->Prop}{X Y:U}{b o:O}{v:Value}(h:Same A X Y)(hb:¬A b):Same A X (Y.setCell ⟨b,o,F⟩ v):=
 ⟨h.os,h.tape,h.output,by have:=h.size;simpa[World.setCell] using this,λi hi hl=>(Below.heap_setCell _ _ _ _ (λe=>by have e':i=b:=e;rw[e'] at hi;exact hb hi)).trans (h.block i hi hl)⟩
theorem Same.nQ {A:O->Prop}{X Y:U}(h:Same A X Y):Same A X Y.drew:=⟨h.os,h.tape,h.output,h.size,h.block⟩
section
variable {α:Type}{enc:α->S Value}{k:O}{w w':U}{B:O}{E:TypeId}{v:Value}{xs:S α}
theorem Own.grown (h:Own w B E k enc v xs){row:Option O}(hg:w.grownBy w' row)(hne:∀g,v.ownBlock=I g->row≠I g):Own w' B E k enc v xs:=
 h.block λg hg'=>hg.block g (h.lt g hg').2 (λe=>hne g hg' e.symm)
theorem Own.same (h:Own w B E k enc v xs){A:O->Prop}(hs:Same A w w')(hA:∀g,v.ownBlock=I g->A g):Own w' B E k enc v xs:=h.block λg hg=>hs.block g (hA g hg) (h.lt g hg).2
theorem Own.tag (h:Own w B E k enc v xs){g:O}(hg:v.ownBlock=I g):∃cs fz,w.1[g]?=I (J cs E fz):=by
 rcases h.2 with⟨rfl,_⟩|⟨g',cap,cur,rfl,_,hh,_⟩
 .cases hg
 .obtain rfl:g'=g:=by simpa[Value.ownBlock] using hg
  exact⟨_,_,hh⟩
theorem Own.apart {β:Type}{enc':β->S Value}{k' B':O}{E':TypeId}{v':Value}{ys:S β}(h:Own w B E k enc v xs)(h':Own w B' E' k' enc' v' ys)(hE:E≠E'):∀g,v.ownBlock=I g->v'.ownBlock≠I g:=λg hg hg'=>by
 obtain⟨cs,fz,e1⟩:=h.tag hg;obtain⟨cs',X8,e2⟩:=h'.tag hg';rw[e1] at e2
 cases e2
 exact hE rfl
theorem Own.far (h:Own w B E k enc v xs){i:O}(hi:i<B\/w.1.size<=i):I i≠v.ownBlock:=λe=>by
 have:=h.lt i e.symm;omega
theorem Own.far' (h:Own w B E k enc v xs){i:O}(hi:i<B\/w.1.size<=i):v.ownBlock≠I i:=λe=>by
 have:=h.lt i e;omega
end
structure Kept (w:U)(l:bE)(w':U):Prop where
 size:w.1.size<=w'.1.size
 block:∀i,i<w.1.size->I i≠(Value.slice l.na l.nn l.nc).ownBlock->I i≠(Value.slice l.va l.vn l.vc).ownBlock->w'.1[i]?=w.1[i]?
def LF (w:U)(l l':bE):Prop:=
 (∀g,(Value.slice l'.na l'.nn l'.nc).ownBlock=I g->(Value.slice l.na l.nn l.nc).ownBlock=I g\/w.1.size<=g)/\(∀g,(Value.slice l'.va l'.vn l'.vc).ownBlock=I g->(Value.slice l.va l.vn l.vc).ownBlock=I g\/w.1.size<=g)
def zU (w0 w:U)(l:bE)(s:aH)(e:Ending)(w':U):Prop:=∃l',e= .returned (dY l')/\gD w' w0.1.size l' s/\Below w0.1.size w0 w'/\Kept w l w'/\LF w l l'
theorem O5 (h:HC)(sn:S Bs)(l:bE)(s:aH)(e:EvC)(w0 w:U)(hb:Below w0.1.size w0 w)(hr:Row w0 1 encStr h.s.a h.s.n h.s.c sn)(he:aV e.bW h.s.n=true)(hl:gD w w0.1.size l s)(hlen:s.names.length<=1000):
  Calls Tryz.prog 49 #[bG h,dY l,fZ e] w (zU w0 w l {s with names:=s.names++[nameOf sn e.bW],lvl:=e.lvl}):=by
 obtain⟨hk0,hkn⟩:=nI he;obtain⟨kk,hkk⟩:∃kk:O,e.bW=kk:=⟨e.bW.toNat,by omega⟩;obtain⟨x,b,o,hx,hab,hc⟩:=hr.at_ (i:=kk) ah;have hcw:=hc 0 _ rfl;simp only[gT,dM] at hcw;have Qc:=N (show b<w0.1.size from dR hcw);have hcb:=bn hb rfl hcw;rw[show nameOf sn e.bW=x by rw[hkk,oV hx]];have hkl:kk<h.s.n:=by omega
 have hle:=hr.le;obtain⟨eqs,hon,hov⟩:=hl;obtain⟨i,z,hi,hz,hsize,dx,hzs⟩:=nL;have HI:=N (⟨hi,hz,hsize,dx,hzs⟩:_/\_/\_/\_/\_);have mZ:=N hab;have yH:=N eqs;have zS:=N hon;have KM:=N hov;have HB:=N hb;have iU:Hid ((s.names.length+1)*16<=140737488355328):=N ah;have iM:Hid (s.names.length+1<=maxLen):=N (by unfold maxLen;omega);have HF:Hid (∀i,(i<w0.1.size\/w.1.size<=i)->I i≠(Value.slice l.na l.nn l.nc).ownBlock):=N (λi hi=>hon.far hi);have yC:=N (hov.apart hon aj);obtain⟨ek,et,es,el,eo,ev,ep,rP,pO,esc⟩:=e;simp only at hkk;subst hkk;clear hb hr he hon hov eqs hx hab hc hcw hi hz hsize dx hzs hk0 hkn;go_enter func49,ntmps49;go_wp2_with fail;have gB:=N (show((((w.alloc (J (aD h) 62)).alloc (J (bJ l) 66)).alloc (J (aS ⟨ek,et,kk,el,eo,ev,ep,rP,pO,esc⟩) 50)).alloc (J #[H G 0,C F 0 0,H G 0,C F 0 0,.bool Z,H G 0] 66)).cell? ⟨w.1.size+1,1,F⟩=I (C l.na l.nn l.nc) from(((Bx.new1 ak).alloc _).alloc _).1 1);have HS2:=N (show((((w.alloc (J (aD h) 62)).alloc (J (bJ l) 66)).alloc (J (aS ⟨ek,et,kk,el,eo,ev,ep,rP,pO,esc⟩) 50)).alloc (J #[H G 0,C F 0 0,H G 0,C F 0 0,.bool Z,H G 0] 66)).cell? ⟨w.1.size,1,F⟩=I (C (I ⟨b,o,F⟩) h.s.n h.s.c) from(((((Bx.new1 rfl).alloc _).alloc _).alloc _).1 1).trans (by rw[<-mZ.q];rfl));have iW:=N (show((((w.alloc (J (aD h) 62)).alloc (J (bJ l) 66)).alloc (J (aS ⟨ek,et,kk,el,eo,ev,ep,rP,pO,esc⟩) 50)).alloc (J #[H G 0,C F 0 0,H G 0,C F 0 0,.bool Z,H G 0] 66)).cell? ⟨w.1.size+2,2,F⟩=I (H G kk) from((Bx.new1 ak).alloc _).1 2);have uf:=N (show((((w.alloc (J (aD h) 62)).alloc (J (bJ l) 66)).alloc (J (aS ⟨ek,et,kk,el,eo,ev,ep,rP,pO,esc⟩) 50)).alloc (J #[H G 0,C F 0 0,H G 0,C F 0 0,.bool Z,H G 0] 66)).cell? ⟨b,o+kk,F⟩=I (.string ⟨x.toArray⟩) from bP _ (bP _ (bP _ (bP _ hcb))));have vK:=N (show((((w.alloc (J (aD h) 62)).alloc (J (bJ l) 66)).alloc (J (aS ⟨ek,et,kk,el,eo,ev,ep,rP,pO,esc⟩) 50)).alloc (J #[H G 0,C F 0 0,H G 0,C F 0 0,.bool Z,H G 0] 66)).cell? ⟨w.1.size+2,3,F⟩=I (H G el) from((Bx.new1 ak).alloc _).1 3);refine aC 13 [(0,0),(1,0),(2,0),(3,0),(4,0),(5,0),(6,0),(7,0),(8,0),(11,1),(12,1),(9,2),(10,2),(13,1),(14,2),(15,1),(16,2)] (λW'=>W'.cell? ⟨w.1.size+2,3,F⟩=I (H G el)) (λW'=>W'.cell? ⟨w.1.size+1,1,F⟩=I (C l.na l.nn l.nc)/\W'.cell? ⟨w.1.size,1,F⟩=I (C (I ⟨b,o,F⟩) h.s.n h.s.c)/\W'.cell? ⟨w.1.size+2,2,F⟩=I (H G kk)/\W'.cell? ⟨b,o+kk,F⟩=I (.string ⟨x.toArray⟩)) ay ay (vK.q) (⟨gB.q,HS2.q,iW.q,uf.q⟩) ?_;refine qC ?_;refine aF rfl rfl (λK hK=>?_);go_simp;refine hK _ _ ⟨bP _ vK.q,⟨bP _ gB.q,bP _ HS2.q,bP _ iW.q,bP _ uf.q⟩⟩ ?_;clear hK K;refine aF rfl rfl (λK hK=>?_);refine lX _ _ 23 rfl i z 16 underlying23 HI.q.1 HI.q.2.1 HI.q.2.2.1 HI.q.2.2.2.1 HI.q.2.2.2.2 rfl (((((((zS.q.alloc _).alloc _).alloc _).alloc _).alloc _).drew)) (I ⟨w.1.size+4,0,F⟩) 1 1 (s.names.length+1) [x] rfl (Row.drew (Row.PO ak x)) (rfl) (iU.q) (iM.q) (by have:=HB.q.size;simp;omega) ?_;intro a' c' w2 hown2 hg2 vR;have HG:=N hg2;have HA:=N vR;have HW:=N hown2;refine hK _ _ ⟨hg2.cell (bP _ vK.q) (HF.q _ (.inr ak)),⟨hg2.cell (bP _ gB.q) (HF.q _ (.inr ak)),hg2.cell (bP _ HS2.q) (HF.q _ (.inr ak)),hg2.cell (bP _ iW.q) (HF.q _ (.inr ak)),hg2.cell (bP _ uf.q) (HF.q _ (.inl Qc.q))⟩⟩ ?_;clear hK K hown2 vR;have hbl:Bx w2 (w.1.size+1) (bJ l):=by
  refine Bx.grown ?_ hg2 (λe=>HF.q _ (.inr ak) e.symm);exact((((Bx.new1 ak).alloc _).alloc _).alloc _).drew
 have hbr:Bx w2 (w.1.size+3) #[H G 0,C F 0 0,H G 0,C F 0 0,.bool Z,H G 0]:=by
  refine Bx.grown ?_ hg2 (λe=>HF.q _ (.inr ak) e.symm);exact((Bx.new1 ak).alloc _).drew
 have hc1:=hbl.1;have hf1:=hbl.2.1;have hl1:=hbl.2.2;have hc3:=hbr.1;have hf3:=hbr.2.1;have hl3:=hbr.2.2;have hA1:∀g,(Value.slice a' (s.names.length+1) c').ownBlock=I g->g≠w.1.size+1/\g≠w.1.size+3:=by
  intro g hg;rcases HA.q with h1|h1
  .have:=(zS.q.lt g (h1.symm.trans hg)).2
   omega
  .rw[h1] at hg;simp at hg;omega
 have Gl:Own w2 w0.1.size 144 2 sI (C l.va l.vn l.vc) s.aG:=(((((((KM.q.alloc _).alloc _).alloc _).alloc _).alloc _).drew)).grown hg2 (λg hg e=>yC.q g hg e);have hbe:Below w0.1.size w0 w2:=below_app (aA (aA (aA (aA (aA HB.q _) _) _) _) _).drew ((((((zS.q.alloc _).alloc _).alloc _).alloc _).alloc _).drew) (aB _) (by have:=HB.q.size;simp;omega) hg2;have hsz:w.1.size<=w2.1.size/\∀i,i<w.1.size->I i≠(Value.slice l.na l.nn l.nc).ownBlock->w2.1[i]?=w.1[i]?:=⟨bX (aA (aA (aA (aA (aA (Below.refl w.1.size w) _) _) _) _) _).drew.size hg2.size,λi hi h1=>(hg2.block i (bM hi (aA (aA (aA (aA (aA (Below.refl w.1.size w) _) _) _) _) _).drew.size) h1).trans ((aA (aA (aA (aA (aA (Below.refl w.1.size w) _) _) _) _) _).drew.block i hi)⟩;have hgr:LF w l {l with na:=a',nn:=s.names.length+1,nc:=c',lvl:=el}:=⟨λg hg=>by
  rcases HA.q with h1|h1
  .exact .inl (h1.symm.trans hg)
  .right;have h2:=h1.symm.trans hg;simp at h2;omega,λg hg=> .inl hg⟩
 have FIN:Hid (∀W',Same (λi=>i≠w.1.size+1/\i≠w.1.size+3) w2 W'->zU w0 w l {s with names:=s.names++[x],lvl:=el} (.returned (dY {l with na:=a',nn:=s.names.length+1,nc:=c',lvl:=el})) W'):=N (λW' hs=>
  ⟨_,rfl,⟨⟨yH.q.1,rfl,yH.q.2.2.1,yH.q.2.2.2.1,by simp,yH.q.2.2.2.2.2⟩,HW.q.same hs hA1,Gl.same hs (λg hg=>by have:=(KM.q.lt g hg).2;constructor <;> omega)⟩,hs.below hbe (λi hi=>by have:=HB.q.size;constructor <;> omega) hbe.size,⟨bX hsz.1 hs.size,λi hi h1 _=>(hs.block i (by constructor <;> omega) (bM hi hsz.1)).trans (hsz.2 i hi h1)⟩,hgr⟩)
 have yg:=N hbl;have uH:=N hbr;clear hbl hbr hg2 hA1 Gl hbe hsz hgr;refine qC ?_;refine bC rfl rfl rfl (λK hK=>?_);go_simp;refine hK _ _ (cellS (HG.q.cell (bP _ vK.q) (HF.q _ (.inr ak))) ak) ?_;clear hK K;refine qC ?_;refine bC rfl rfl rfl (λK hK=>?_);go_simp;refine hK _ _ (cellS (cellS (HG.q.cell (bP _ vK.q) (HF.q _ (.inr ak))) ak) ak) ?_;clear hK K;refine aP ?_;go_wp2_with fail;refine bodyPost_ret (v:=dY {l with na:=a',nn:=s.names.length+1,nc:=c',lvl:=el}) (by simp[results,results49,go_sem,hc3]) rfl (FIN.q _ ?_)
 repeat(first|(refine Same.setTail ?_ ak)|(with_reducible exact Same.refl' _))
theorem FX (h:HC)(on:S Bs)(l:bE)(s:aH)(e:EvC)(w0 w:U)(hb:Below w0.1.size w0 w)(hr:Row w0 1 encStr h.o.a h.o.n h.o.c on)(he:aV e.obj h.o.n=true)(hl:gD w w0.1.size l s)(hlen:s.names.length<=1000):
  Calls Tryz.prog 50 #[bG h,dY l,fZ e] w (zU w0 w l {s with names:=s.names++[nameOf on e.obj]}):=by
 obtain⟨hk0,hkn⟩:=nI he;obtain⟨kk,hkk⟩:∃kk:O,e.obj=kk:=⟨e.obj.toNat,by omega⟩;obtain⟨x,b,o,hx,hab,hc⟩:=hr.at_ (i:=kk) ah;have hcw:=hc 0 _ rfl;simp only[gT,dM] at hcw;have Qc:=N (show b<w0.1.size from dR hcw);have hcb:=bn hb rfl hcw;rw[show nameOf on e.obj=x by rw[hkk,oV hx]];have hkl:kk<h.o.n:=by omega
 have hle:=hr.le;obtain⟨eqs,hon,hov⟩:=hl;obtain⟨i,z,hi,hz,hsize,dx,hzs⟩:=nL;have HI:=N (⟨hi,hz,hsize,dx,hzs⟩:_/\_/\_/\_/\_);have mZ:=N hab;have yH:=N eqs;have zS:=N hon;have KM:=N hov;have HB:=N hb;have iU:Hid ((s.names.length+1)*16<=140737488355328):=N ah;have iM:Hid (s.names.length+1<=maxLen):=N (by unfold maxLen;omega);have HF:Hid (∀i,(i<w0.1.size\/w.1.size<=i)->I i≠(Value.slice l.na l.nn l.nc).ownBlock):=N (λi hi=>hon.far hi);have yC:=N (hov.apart hon aj);obtain⟨ek,et,es,el,eo,ev,ep,rP,pO,esc⟩:=e;simp only at hkk;subst hkk;clear hb hr he hon hov eqs hx hab hc hcw hi hz hsize dx hzs hk0 hkn;go_enter func50,ntmps50;go_wp2_with fail;have gB:=N (show((((w.alloc (J (aD h) 62)).alloc (J (bJ l) 66)).alloc (J (aS ⟨ek,et,es,el,kk,ev,ep,rP,pO,esc⟩) 50)).alloc (J #[H G 0,C F 0 0,H G 0,C F 0 0,.bool Z,H G 0] 66)).cell? ⟨w.1.size+1,1,F⟩=I (C l.na l.nn l.nc) from(((Bx.new1 ak).alloc _).alloc _).1 1);have HS2:=N (show((((w.alloc (J (aD h) 62)).alloc (J (bJ l) 66)).alloc (J (aS ⟨ek,et,es,el,kk,ev,ep,rP,pO,esc⟩) 50)).alloc (J #[H G 0,C F 0 0,H G 0,C F 0 0,.bool Z,H G 0] 66)).cell? ⟨w.1.size,2,F⟩=I (C (I ⟨b,o,F⟩) h.o.n h.o.c) from(((((Bx.new1 rfl).alloc _).alloc _).alloc _).1 2).trans (by rw[<-mZ.q];rfl));have iW:=N (show((((w.alloc (J (aD h) 62)).alloc (J (bJ l) 66)).alloc (J (aS ⟨ek,et,es,el,kk,ev,ep,rP,pO,esc⟩) 50)).alloc (J #[H G 0,C F 0 0,H G 0,C F 0 0,.bool Z,H G 0] 66)).cell? ⟨w.1.size+2,4,F⟩=I (H G kk) from((Bx.new1 ak).alloc _).1 4);have uf:=N (show((((w.alloc (J (aD h) 62)).alloc (J (bJ l) 66)).alloc (J (aS ⟨ek,et,es,el,kk,ev,ep,rP,pO,esc⟩) 50)).alloc (J #[H G 0,C F 0 0,H G 0,C F 0 0,.bool Z,H G 0] 66)).cell? ⟨b,o+kk,F⟩=I (.string ⟨x.toArray⟩) from bP _ (bP _ (bP _ (bP _ hcb))));refine aC 11 [(0,0),(1,0),(2,0),(3,0),(4,0),(5,0),(6,0),(7,0),(8,0),(9,2),(10,2),(11,1),(12,2)] (λ_=>True) (λW'=>W'.cell? ⟨w.1.size+1,1,F⟩=I (C l.na l.nn l.nc)/\W'.cell? ⟨w.1.size,2,F⟩=I (C (I ⟨b,o,F⟩) h.o.n h.o.c)/\W'.cell? ⟨w.1.size+2,4,F⟩=I (H G kk)/\W'.cell? ⟨b,o+kk,F⟩=I (.string ⟨x.toArray⟩)) ay ay (trivial) (⟨gB.q,HS2.q,iW.q,uf.q⟩) ?_;refine qC ?_;refine aF rfl rfl (λK hK=>?_);go_simp;refine hK _ _ ⟨trivial,⟨bP _ gB.q,bP _ HS2.q,bP _ iW.q,bP _ uf.q⟩⟩ ?_;clear hK K;refine aF rfl rfl (λK hK=>?_);refine lX _ _ 23 rfl i z 16 underlying23 HI.q.1 HI.q.2.1 HI.q.2.2.1 HI.q.2.2.2.1 HI.q.2.2.2.2 rfl (((((((zS.q.alloc _).alloc _).alloc _).alloc _).alloc _).drew)) (I ⟨w.1.size+4,0,F⟩) 1 1 (s.names.length+1) [x] rfl (Row.drew (Row.PO ak x)) (rfl) (iU.q) (iM.q) (by have:=HB.q.size;simp;omega) ?_;intro a' c' w2 hown2 hg2 vR;have HG:=N hg2;have HA:=N vR;have HW:=N hown2;refine hK _ _ ⟨trivial,⟨hg2.cell (bP _ gB.q) (HF.q _ (.inr ak)),hg2.cell (bP _ HS2.q) (HF.q _ (.inr ak)),hg2.cell (bP _ iW.q) (HF.q _ (.inr ak)),hg2.cell (bP _ uf.q) (HF.q _ (.inl Qc.q))⟩⟩ ?_;clear hK K hown2 vR;have hbl:Bx w2 (w.1.size+1) (bJ l):=by
  refine Bx.grown ?_ hg2 (λe=>HF.q _ (.inr ak) e.symm);exact((((Bx.new1 ak).alloc _).alloc _).alloc _).drew
 have hbr:Bx w2 (w.1.size+3) #[H G 0,C F 0 0,H G 0,C F 0 0,.bool Z,H G 0]:=by
  refine Bx.grown ?_ hg2 (λe=>HF.q _ (.inr ak) e.symm);exact((Bx.new1 ak).alloc _).drew
 have hc1:=hbl.1;have hf1:=hbl.2.1;have hl1:=hbl.2.2;have hc3:=hbr.1;have hf3:=hbr.2.1;have hl3:=hbr.2.2;have hA1:∀g,(Value.slice a' (s.names.length+1) c').ownBlock=I g->g≠w.1.size+1/\g≠w.1.size+3:=by
  intro g hg;rcases HA.q with h1|h1
  .have:=(zS.q.lt g (h1.symm.trans hg)).2
   omega
  .rw[h1] at hg;simp at hg;omega
 have Gl:Own w2 w0.1.size 144 2 sI (C l.va l.vn l.vc) s.aG:=(((((((KM.q.alloc _).alloc _).alloc _).alloc _).alloc _).drew)).grown hg2 (λg hg e=>yC.q g hg e);have hbe:Below w0.1.size w0 w2:=below_app (aA (aA (aA (aA (aA HB.q _) _) _) _) _).drew ((((((zS.q.alloc _).alloc _).alloc _).alloc _).alloc _).drew) (aB _) (by have:=HB.q.size;simp;omega) hg2;have hsz:w.1.size<=w2.1.size/\∀i,i<w.1.size->I i≠(Value.slice l.na l.nn l.nc).ownBlock->w2.1[i]?=w.1[i]?:=⟨bX (aA (aA (aA (aA (aA (Below.refl w.1.size w) _) _) _) _) _).drew.size hg2.size,λi hi h1=>(hg2.block i (bM hi (aA (aA (aA (aA (aA (Below.refl w.1.size w) _) _) _) _) _).drew.size) h1).trans ((aA (aA (aA (aA (aA (Below.refl w.1.size w) _) _) _) _) _).drew.block i hi)⟩;have hgr:LF w l {l with na:=a',nn:=s.names.length+1,nc:=c'}:=⟨λg hg=>by
  rcases HA.q with h1|h1
  .exact .inl (h1.symm.trans hg)
  .right;have h2:=h1.symm.trans hg;simp at h2;omega,λg hg=> .inl hg⟩
 have FIN:Hid (∀W',Same (λi=>i≠w.1.size+1/\i≠w.1.size+3) w2 W'->zU w0 w l {s with names:=s.names++[x]} (.returned (dY {l with na:=a',nn:=s.names.length+1,nc:=c'})) W'):=N (λW' hs=>
  ⟨_,rfl,⟨⟨yH.q.1,yH.q.2.1,yH.q.2.2.1,yH.q.2.2.2.1,by simp,yH.q.2.2.2.2.2⟩,HW.q.same hs hA1,Gl.same hs (λg hg=>by have:=(KM.q.lt g hg).2;constructor <;> omega)⟩,hs.below hbe (λi hi=>by have:=HB.q.size;constructor <;> omega) hbe.size,⟨bX hsz.1 hs.size,λi hi h1 _=>(hs.block i (by constructor <;> omega) (bM hi hsz.1)).trans (hsz.2 i hi h1)⟩,hgr⟩)
 have yg:=N hbl;have uH:=N hbr;clear hbl hbr hg2 hA1 Gl hbe hsz hgr;refine qC ?_;refine bC rfl rfl rfl (λK hK=>?_);go_simp;refine hK _ _ trivial ?_;clear hK K;refine aP ?_;go_wp2_with fail;refine bodyPost_ret (v:=dY {l with na:=a',nn:=s.names.length+1,nc:=c'}) (by simp[results,results50,go_sem,hc3]) rfl (FIN.q _ ?_)
 repeat(first|(refine Same.setTail ?_ ak)|(with_reducible exact Same.refl' _))
theorem Bx.bf {X:U}{b:O}{cs:Array Value}(h:Bx X b cs)(i:O)(hi:i<cs.size)(v:Value):Bx (X.setCell ⟨b,i,F⟩ v) b (cs.setIfInBounds i v):=by
 refine⟨λj=>?_,λj=>by rw[World.frozen?_setCell];exact h.2.1 j,by have:=h.2.2;simpa[World.setCell] using this⟩;by_cases hj:j=i
 .subst hj
  rw[World.cell?_setCell_same' _ _ _ (by rw[h.1 j,Py hi];rfl),Es hi]
 .rw[World.cell?_setCell_other _ _ _ _ (λe=>by cases e;exact hj rfl),h.1 j,tJ (λe=>hj e.symm)]
theorem Bx.aag {X:U}{b:O}{l l':bE}(h:Bx X b (bJ l)):
  Bx ((((((X.setCell ⟨b,0,F⟩ (H G l'.kind)).setCell ⟨b,1,F⟩ (C l'.na l'.nn l'.nc)).setCell ⟨b,2,F⟩ (H G l'.lvl)).setCell ⟨b,3,F⟩ (C l'.va l'.vn l'.vc)).setCell ⟨b,4,F⟩ (.bool l'.first)).setCell ⟨b,5,F⟩ (H G l'.bits)) b (bJ l'):=
 ((((((h.bf 0 ak _).bf 1 ak _).bf 2 ak _).bf 3 ak _).bf 4 ak _).bf 5 ak _)
theorem Row.toN {X:U}{g:O}(h:X.1.size=g)(s:To):Row (X.alloc (J #[.string ⟨s.name.toArray⟩,H G s.k] 144)) 2 sI (I ⟨g,0,F⟩) 1 1 [s]:=
 h▸(Own.new (hc:=X9) X X.1.size 144 #[.string ⟨s.name.toArray⟩,H G s.k] [s] (aB _) rfl (by simp[maxLen])).row ak
theorem qB {X:U}{o:Obj}{g:O}(h:X.1.size=g):(X.alloc o).1[g]?=I o:=h▸World.alloc_heap_new X o
theorem jF {X:U}{b:O}{o':Obj}(o:Obj)(h:X.1[b]?=I o'):(X.alloc o).1[b]?=I o':=(Below.heap_alloc _ _ _ (dh.1 h).1).trans h
theorem Own.zQ {α:Type}{enc:α->S Value}{k:O}{w:U}{B:O}{E:TypeId}{v:Value}{xs:S α}(h:Own w B E k enc v xs){b:O}{cs:Array Value}{T:TypeId}{fz:O × O}(hb:w.1[b]?=I (J cs T fz))(hE:E≠T):v.ownBlock≠I b:=λe=>by
 obtain⟨cs',X8,e1⟩:=h.tag e;rw[hb] at e1
 cases e1
 exact hE rfl
theorem Qd {v:lK}{nt:O}(h:gI v nt=true):v.k=0\/(0<=v.t/\v.t<nt):=by
 unfold gI at h;by_cases hk:v.k=0
 .exact .inl hk
 .rw[au hk] at h;simp only[aO] at h;exact .inr (nI h.1.1)
theorem Ry (h:HC)(on tn:S Bs)(l:bE)(s:aH)(e:EvC)(w0 w:U)(hb:Below w0.1.size w0 w)(hro:Row w0 1 encStr h.o.a h.o.n h.o.c on)(hrt:Row w0 1 encStr h.t.a h.t.n h.t.c tn)
  (he:aV e.obj h.o.n=true) (hv:gI e.v h.t.n=true) (hl:gD w w0.1.size l s) (hlen:s.names.length<=1000) (hlv:s.aG.length<=1000):
  Calls Tryz.prog 51 #[bG h,dY l,fZ e] w (zU w0 w l {s with names:=s.names++[nameOf on e.obj],aG:=s.aG++[nk tn e.v]}):=by
 have Du:Below w.1.size w ((((w.alloc (J (aD h) 62)).alloc (J (bJ l) 66)).alloc (J (aS e) 50)).alloc (J #[H G 0,C F 0 0,H G 0,C F 0 0,.bool Z,H G 0] 66)):=aA (aA (aA (aA (Below.refl _ _) _) _) _) _;have HWR:=N (FX h on l s e w0 _ (hb.trans (Du.mono hb.size)) hro he (hl.below Du) hlen);have HB:=N hb;have Dv:=N hrt;have HV:=N hv;have HL:=N hl;have uI:=N Du;have Td:=N hlv;have nW:Hid (∀i,w.1.size<=i->I i≠(Value.slice l.na l.nn l.nc).ownBlock):=N (λi hi=>hl.2.1.far (.inr hi));have nH:Hid (∀i,w.1.size<=i->I i≠(Value.slice l.va l.vn l.vc).ownBlock):=N (λi hi=>hl.2.2.far (.inr hi));obtain⟨i,z,hi,hz,hsize,dx,hzs⟩:=LG;have HI:=N (⟨hi,hz,hsize,dx,hzs⟩:_/\_/\_/\_/\_);obtain⟨to,hto⟩:∃to,to=nk tn e.v:=⟨_,rfl⟩;rw[<-hto];obtain⟨x,hxo⟩:∃x,x=nameOf on e.obj:=⟨_,rfl⟩;rw[<-hxo] at HWR ⊢;have HTO:=N hto;have iU:Hid ((s.aG.length+1)*24<=140737488355328):=N ah;have iM:Hid (s.aG.length+1<=maxLen):=N (by unfold maxLen;omega);clear hto hxo hi hz hsize dx hzs hb hrt hv hl hlv hro he;go_enter func51,ntmps51;go_wp2_with fail;refine HWR.q.mono ?_;rintro en w1 ⟨l1,rfl,hl1,hb1,hk1,aaZ⟩;have hbx0:Bx w1 w.1.size (aD h):=Bx.of_eq (X:=((((w.alloc (J (aD h) 62)).alloc (J (bJ l) 66)).alloc (J (aS e) 50)).alloc (J #[H G 0,C F 0 0,H G 0,C F 0 0,.bool Z,H G 0] 66))) ((((Bx.new1 rfl).alloc _).alloc _).alloc _) hk1.size (hk1.block _ (by simp <;> omega) (nW.q _ ah) (nH.q _ ah));have Ej:Bx w1 (w.1.size+1) (bJ l):=Bx.of_eq (X:=((((w.alloc (J (aD h) 62)).alloc (J (bJ l) 66)).alloc (J (aS e) 50)).alloc (J #[H G 0,C F 0 0,H G 0,C F 0 0,.bool Z,H G 0] 66))) (((Bx.new1 ak).alloc _).alloc _) hk1.size (hk1.block _ (by simp <;> omega) (nW.q _ ah) (nH.q _ ah));have ahJ:Bx w1 (w.1.size+2) (aS e):=Bx.of_eq (X:=((((w.alloc (J (aD h) 62)).alloc (J (bJ l) 66)).alloc (J (aS e) 50)).alloc (J #[H G 0,C F 0 0,H G 0,C F 0 0,.bool Z,H G 0] 66))) ((Bx.new1 ak).alloc _) hk1.size (hk1.block _ ak (nW.q _ ah) (nH.q _ ah));have Jj:Bx w1 (w.1.size+3) #[H G 0,C F 0 0,H G 0,C F 0 0,.bool Z,H G 0]:=Bx.of_eq (X:=((((w.alloc (J (aD h) 62)).alloc (J (bJ l) 66)).alloc (J (aS e) 50)).alloc (J #[H G 0,C F 0 0,H G 0,C F 0 0,.bool Z,H G 0] 66))) (Bx.new1 ak) hk1.size (hk1.block _ ak (nW.q _ ah) (nH.q _ ah));have ahK:w1.1[w.1.size+1]?=I (J (bJ l) 66 (0,0)):=(hk1.block _ (by simp <;> omega) (nW.q _ ah) (nH.q _ ah)).trans (jF _ (jF _ (qB ak)));have ahL:w1.1[w.1.size]?=I (J (aD h) 62 (0,0)):=(hk1.block _ (by simp <;> omega) (nW.q _ ah) (nH.q _ ah)).trans (jF _ (jF _ (jF _ (qB rfl))));have ahM:w1.1[w.1.size+2]?=I (J (aS e) 50 (0,0)):=(hk1.block _ (by simp <;> omega) (nW.q _ ah) (nH.q _ ah)).trans (jF _ (qB ak));have ahN:w1.1[w.1.size+3]?=I (J #[H G 0,C F 0 0,H G 0,C F 0 0,.bool Z,H G 0] 66 (0,0)):=(hk1.block _ ak (nW.q _ ah) (nH.q _ ah)).trans (qB ak);have HGR:Hid (∀g,(Value.slice l1.va l1.vn l1.vc).ownBlock=I g->(Value.slice l.va l.vn l.vc).ownBlock=I g\/w.1.size<=g):=N (λg hg=>(aaZ.2 g hg).imp id (λh=>bX uI.q.size h));have HGN:Hid (∀g,(Value.slice l1.na l1.nn l1.nc).ownBlock=I g->(Value.slice l.na l.nn l.nc).ownBlock=I g\/w.1.size<=g):=N (λg hg=>(aaZ.1 g hg).imp id (λh=>bX uI.q.size h));have hfr:=Ej.2.1;have hcr:=Ej.1;have hlr:=Ej.2.2;have hz1:w.1.size+4<=w1.1.size:=by have:=hk1.size;simp at this;omega
 have qg:Hid (∀i,i<w.1.size->I i≠(Value.slice l.na l.nn l.nc).ownBlock->I i≠(Value.slice l.va l.vn l.vc).ownBlock->w1.1[i]?=w.1[i]?):=N (λi hi h1 h2=>(hk1.block i (bM hi uI.q.size) h1 h2).trans (uI.q.block i hi));have rQ:=N hl1;have HB1:=N hb1;have HX0:=N hbx0;have eX:=N Ej;have fw:=N ahJ;have kZ:=N Jj;have aa0:=N ahK;have aa1:=N ahN;have ahO:=N ahL;have ahP:=N ahM;clear aaZ hl1 hb1 hk1 hbx0 Ej ahJ Jj ahK ahN ahL ahM;go_wp2_with fail;clear hfr hcr hlr;have hsm:Same (λi=>i≠w.1.size+1) w1 ((((((w1.setCell ⟨w.1.size+1,0,F⟩ (H G l1.kind)).setCell ⟨w.1.size+1,1,F⟩ (C l1.na l1.nn l1.nc)).setCell ⟨w.1.size+1,2,F⟩ (H G l1.lvl)).setCell ⟨w.1.size+1,3,F⟩ (C l1.va l1.vn l1.vc)).setCell ⟨w.1.size+1,4,F⟩ (.bool l1.first)).setCell ⟨w.1.size+1,5,F⟩ (H G l1.bits)):=by
  repeat(first|(refine Same.setTail ?_ ak)|(with_reducible exact Same.refl' _))
 have hy1:=Bx.aag (l':=l1) eX.q;revert hsm hy1;generalize((((((w1.setCell ⟨w.1.size+1,0,F⟩ (H G l1.kind)).setCell ⟨w.1.size+1,1,F⟩ (C l1.na l1.nn l1.nc)).setCell ⟨w.1.size+1,2,F⟩ (H G l1.lvl)).setCell ⟨w.1.size+1,3,F⟩ (C l1.va l1.vn l1.vc)).setCell ⟨w.1.size+1,4,F⟩ (.bool l1.first)).setCell ⟨w.1.size+1,5,F⟩ (H G l1.bits))=Y;intro hsm hy1;have hy0:=hsm.bx HX0.q ak;have hy2:=hsm.bx fw.q ak;have hy3:=hsm.bx kZ.q ak;have hn1:=rQ.q.2.1.zQ aa0.q aj;have MU:=rQ.q.2.1.zQ aa1.q aj;have hv1:=rQ.q.2.2.zQ aa0.q aj;have hv3:=rQ.q.2.2.zQ aa1.q aj;have hv0:=rQ.q.2.2.zQ ahO.q aj;have hv2:=rQ.q.2.2.zQ ahP.q aj;have Qe:=N (rQ.q.2.1.same hsm (λg hg=>by rintro rfl;exact hn1 hg));have HYV:=N (rQ.q.2.2.same hsm (λg hg=>by rintro rfl;exact hv1 hg));have Gm:=N (hsm.below HB1.q (λi hi=>by have:=HB.q.size;simp;omega) HB1.q.size);have HYW:Hid (w1.1.size<=Y.1.size/\∀i,i<w.1.size->I i≠(Value.slice l.na l.nn l.nc).ownBlock->I i≠(Value.slice l.va l.vn l.vc).ownBlock->Y.1[i]?=w.1[i]?):=N ⟨hsm.size,λi hi h1 h2=>(hsm.block i (by simp;omega) ah).trans (qg.q i hi h1 h2)⟩;have Xr:=N hy0;have qQ:=N hy1;have yG:=N hy2;have yB:=N hy3;have xG:=N (⟨hn1,MU,hv1,hv3,hv0,hv2⟩:_/\_/\_/\_/\_/\_);have hzY:w.1.size+4<=Y.1.size:=by have:=hsm.size;omega
 have aog:=N (Dv.q.below Gm.q rfl);have MV:l1.vn=s.aG.length:=rQ.q.1.2.2.2.2.2;have MW:=N MV;clear hsm hy0 hy1 hy2 hy3 hn1 MU hv1 hv3 hv0 hv2 HX0 eX fw kZ qg HB1 ahO aa0 ahP aa1 MV;refine aC 8 [(0,0),(1,0),(2,0),(3,0),(4,0),(5,2),(6,2),(7,2),(8,1),(9,2)] (λ_=>True) (λW'=>Bx W' w.1.size (aD h)/\Bx W' (w.1.size+1) (bJ l1)/\Bx W' (w.1.size+2) (aS e)) ay ay (trivial) (⟨Xr.q.drew,qQ.q.drew,yG.q.drew⟩) ?_;refine qC ?_;refine aF rfl rfl (λK hK=>?_);go_simp;refine(IC h e.v tn _ aog.q.drew (Qd HV.q)).mono ?_;rintro en Y2 ⟨rfl,hbt⟩;rw[<-HTO.q];have mY:=N hbt;refine hK _ _ ⟨trivial,Xr.q.drew.keep hbt,qQ.q.drew.keep hbt,yG.q.drew.keep hbt⟩ ?_;clear hK K hbt;refine aF rfl rfl (λK hK=>?_);go_simp;refine hK _ _ ⟨trivial,(Xr.q.drew.keep mY.q).alloc _,(qQ.q.drew.keep mY.q).alloc _,(yG.q.drew.keep mY.q).alloc _⟩ ?_;clear hK K;refine aF rfl rfl (λK hK=>?_);refine lX _ _ 64 rfl i z 24 underlying64 HI.q.1 HI.q.2.1 HI.q.2.2.1 HI.q.2.2.2.1 HI.q.2.2.2.2 rfl (((HYV.q.drew.below mY.q rfl).alloc _)) (I ⟨Y2.1.size,0,F⟩) 1 1 (s.aG.length+1) [to] rfl (Row.toN rfl to) (rfl) (iU.q) (iM.q) (by have:=mY.q.size;have:=Gm.q.size;simp;simp at*;omega) ?_;intro a' c' w2 hown2 hg2 vR;have HA:=N vR;have HG:=N hg2;have HW:=N hown2;refine hK _ _ ⟨trivial,((Xr.q.drew.keep mY.q).alloc _).grown hg2 (xG.q.2.2.2.2.1),((qQ.q.drew.keep mY.q).alloc _).grown hg2 (xG.q.2.2.1),((yG.q.drew.keep mY.q).alloc _).grown hg2 (xG.q.2.2.2.2.2)⟩ ?_;clear hK K hown2 vR;have hbl:Bx w2 (w.1.size+1) (bJ l1):=by
  refine Bx.grown ?_ hg2 xG.q.2.2.1;exact(qQ.q.drew.keep mY.q).alloc _
 have hbr:Bx w2 (w.1.size+3) #[H G 0,C F 0 0,H G 0,C F 0 0,.bool Z,H G 0]:=by
  refine Bx.grown ?_ hg2 xG.q.2.2.2.1;exact(yB.q.drew.keep mY.q).alloc _
 have hc1:=hbl.1;have hf1:=hbl.2.1;have hl1:=hbl.2.2;have hc3:=hbr.1;have hf3:=hbr.2.1;have hl3:=hbr.2.2;have hY2:Y.1.size<=Y2.1.size:=mY.q.size;have ahR:Own w2 w0.1.size 9 1 encStr (C l1.na l1.nn l1.nc) (s.names++[x]):=((Qe.q.drew.below mY.q rfl).alloc _).grown hg2 (λg hg e=>(Qe.q.apart HYV.q aj) g hg e);have hAv:∀g,(Value.slice a' (s.aG.length+1) c').ownBlock=I g->g≠w.1.size+1/\g≠w.1.size+3:=by
  intro g hg;rcases HA.q with h1|h1
  .have h2:=h1.symm.trans hg
   exact⟨λe=>xG.q.2.2.1 (e▸h2),λe=>xG.q.2.2.2.1 (e▸h2)⟩
  .have h2:=h1.symm.trans hg;simp at h2;omega
 have hbe:Below w0.1.size w0 w2:=below_app ((Gm.q.drew.trans (mY.q.mono Gm.q.size)).alloc (bX Gm.q.size hY2) _) ((HYV.q.drew.below mY.q rfl).alloc _) (aB _) (by have:=Gm.q.size;simp;omega) hg2;have hkw:Kept w l w2:=⟨bX (by simp;omega) hg2.size,λi hi h1 h2=>(hg2.block i (by simp;omega) (λe=>by
  rcases HGR.q i e.symm with h3|h3
  .exact h2 h3.symm
  .omega)).trans ((Below.heap_alloc _ _ _ ah).trans ((mY.q.block i (by show i<Y.1.size;omega)).trans (HYW.q.2 i hi h1 h2)))⟩
 have hgr:LF w l {l1 with va:=a',vn:=s.aG.length+1,vc:=c'}:=⟨λg hg=>HGN.q g hg,λg hg=>by
  rcases HA.q with h1|h1
  .exact HGR.q g (h1.symm.trans hg)
  .right;have h2:=h1.symm.trans hg;simp at h2;omega⟩
 have FIN:Hid (∀W',Same (λi=>i≠w.1.size+1/\i≠w.1.size+3) w2 W'->zU w0 w l {s with names:=s.names++[x],aG:=s.aG++[to]} (.returned (dY {l1 with va:=a',vn:=s.aG.length+1,vc:=c'})) W'):=N (λW' hs=>
  ⟨_,rfl,⟨⟨rQ.q.1.1,rQ.q.1.2.1,rQ.q.1.2.2.1,rQ.q.1.2.2.2.1,rQ.q.1.2.2.2.2.1,by simp⟩,ahR.same hs (λg hg=>⟨λe=>xG.q.1 (e▸hg),λe=>xG.q.2.1 (e▸hg)⟩),HW.q.same hs hAv⟩,hs.below hbe (λi hi=>by have:=HB.q.size;constructor <;> omega) hbe.size,
   ⟨bX hkw.size hs.size,λi hi h1 h2=>(hs.block i (by constructor <;> omega) (bM hi hkw.size)).trans (hkw.block i hi h1 h2)⟩,hgr⟩)
 have yg:=N hbl;have uH:=N hbr;clear hbl hbr hg2 ahR hAv hbe hkw hgr;refine qC ?_;refine bC rfl rfl rfl (λK hK=>?_);go_simp;refine hK _ _ trivial ?_;clear hK K;refine aP ?_;go_wp2_with fail;refine bodyPost_ret (v:=dY {l1 with va:=a',vn:=s.aG.length+1,vc:=c'}) (by simp[results,results51,go_sem,hc3]) rfl (FIN.q _ ?_)
 repeat(first|(refine Same.setTail ?_ ak)|(with_reducible exact Same.refl' _))
theorem bR {w:U}{b i:O}{cs:Array Value}{T:TypeId}{fr:O × O}(hb:w.1[b]?=I (J cs T fr))(v:Value):(w.setCell ⟨b,i,F⟩ v).1[b]?=I (J (cs.setIfInBounds i v) T fr):=by
 simp[World.setCell,Array.getElem?_modify,hb]
section
variable {α:Type}{enc:α->S Value}{k:O}
theorem Qf [hc:Cells enc k]:∀(xs:S α)(i j:O)(x y:α)(v:Value),xs[i]?=I x->j<k->(enc x).set j v=enc y->(xs.flatMap enc).set (i*k+j) v=(xs.set i y).flatMap enc
 |[],i,j,x,y,v,h,_,_=>by simp at h
 |a::xs,0,j,x,y,v,h,hj,he=>by
  obtain rfl:a=x:=by simpa using h
  rw[gY,lZ,gY,Nat.zero_mul,bA,List.set_append_left _ _ (by rw[hc.len];exact hj),he]
 |a::xs,i+1,j,x,y,v,h,hj,he=>by
  have ih:=Qf xs i j x y v (by simpa using h) hj he;rw[gY,l5,gY,List.set_append_right _ _ (by rw[hc.len,Nat.succ_mul];omega),hc.len,<-ih]
  congr 2
  rw[Nat.succ_mul];omega
theorem Own.put [hc:Cells enc k]{w:U}{B g n c i j:O}{E:TypeId}{xs:S α}{x y:α}{v:Value}(h:Own w B E k enc (C (I ⟨g,0,F⟩) n c) xs)(hx:xs[i]?=I x)(hj:j<k)(he:(enc x).set j v=enc y):
  Own (w.setCell ⟨g,i*k+j,F⟩ v) B E k enc (C (I ⟨g,0,F⟩) n c) (xs.set i y):=by
 obtain⟨h1,h2⟩:=h;refine⟨yS _,?_⟩;rcases h2 with⟨e,_⟩|⟨g',cap,cur,e,hB,hh,hn,hm,hs,ht⟩
 .cases e
 .injection e with e1 e2 e3
  injection e1 with e1;injection e1 with e1;subst e1;refine .inr ⟨g,cap,cur.setIfInBounds (i*k+j) v,?_,hB,bR hh v,by rw[Eu];exact hn,hm,by rw[Array.size_setIfInBounds];exact hs,?_⟩
  .rw[Eu,e2,e3]
  .rw[Eu,Array.toList_setIfInBounds,List.take_set,ht]
   exact Qf xs i j x y v hx hj he
end
theorem Row.uniq {α:Type}{enc:α->S Value}{k:O}[hc:Cells enc k](hinj:∀x y,enc x=enc y->x=y){w:U}{a:Option Addr}{n c:O}{xs ys:S α}(h:Row w k enc a n c xs)(h':Row w k enc a n c ys):xs=ys:=by
 apply Ce
 intro i;rcases gP i n with hi|hi
 .obtain⟨x,b,o,hx,ha,hx'⟩:=h.at_ hi
  obtain⟨y,b',o',hy,ha',hy'⟩:=h'.at_ hi;rw[ha] at ha';injection ha' with ha';injection ha' with e1 e2;subst e1 e2;rw[hx,hy];refine bU I (hinj x y (Ce λj=>?_));have hlx:=hc.len x;have hly:=hc.len y;rcases gP j k with hj|hj
  .have h1:(enc x)[j]?=I ((enc x)[j]' ah):=fK _
   have h2:(enc y)[j]?=I ((enc y)[j]' ah):=fK _;have g1:=hx' j _ h1;have g2:=hy' j _ h2;rw[h1,h2,<-g1,<-g2]
  .rw[xY ah,xY ah]
 .rw[xY (by rw[h.len];omega),xY (by rw[h'.len];omega)]
def ng {β:Type}(w X:U)(T:TypeId)(k:O)(enc:β->S Value)(s:Sl)(L:S β):Prop:=
 L.length<=2000000/\(Row w k enc s.a s.n s.c L\/Own X w.1.size T k enc s.v L)
section
variable {β:Type}{w X Y:U}{T:TypeId}{k:O}{enc:β->S Value}{s:Sl}{L:S β}
theorem ng.same (h:ng w X T k enc s L){g:O}{cs:Array Value}{T':TypeId}{fz:O × O}(hg:X.1[g]?=I (J cs T' fz))(hT:T≠T')(hs:Same (λi=>i≠g) X Y):ng w Y T k enc s L:=by
 obtain⟨hL,h|h⟩:=h
 .exact⟨hL,.inl h⟩
 .refine⟨hL,.inr (h.same hs (λi hi e=>?_))⟩
  subst e;obtain⟨cs',X8,e'⟩:=h.tag hi;rw[hg] at e'
  cases e'
  exact hT rfl
theorem ng.below (h:ng w X T k enc s L)(hb:Below X.1.size X Y):ng w Y T k enc s L:=by
 obtain⟨hL,h|h⟩:=h
 .exact⟨hL,.inl h⟩
 .exact⟨hL,.inr (h.below hb rfl)⟩
theorem ng.row [hc:Cells enc k](h:ng w X T k enc s L)(hb:Below w.1.size w X):Row X k enc s.a s.n s.c L:=by
 obtain⟨hL,h|h⟩:=h
 .exact h.below hb rfl
 .obtain⟨a,c,e,_,_⟩:=h.shape
  obtain⟨sa,sn,sc⟩:=s;injection e with e1 e2 e3;subst e1 e2 e3;exact h.row ah
theorem ng.own (h:Own X w.1.size T k enc s.v L)(hL:L.length<=2000000):ng w X T k enc s L:=⟨hL,.inr h⟩
end
theorem Own.bD {β:Type}{X Y:U}{B:O}{T T':TypeId}{k:O}{enc:β->S Value}{v:Value}{L:S β}(h:Own X B T k enc v L){g:O}(hg:∃cs fz,X.1[g]?=I (J cs T' fz))(hT:T≠T')(hs:Same (λi=>i≠g) X Y):Own Y B T k enc v L:=by
 obtain⟨cs,fz,hg⟩:=hg;exact h.same hs (λi hi e=>by
  subst e;obtain⟨cs',X8,e'⟩:=h.tag hi;rw[hg] at e'
  cases e'
  exact hT rfl)
def uD {α β:Type}(w X:U)(T:TypeId)(k:O)(enc:β->S Value)(sl:α->Sl)(xs:S α)(Ls:S (S β)):Prop:=
 xs.length=Ls.length/\∀(i:O)(x:α)(L:S β),xs[i]?=I x->Ls[i]?=I L->ng w X T k enc (sl x) L
section
variable {α β:Type}{w X Y:U}{T:TypeId}{k:O}{enc:β->S Value}{sl:α->Sl}{xs:S α}{Ls:S (S β)}
theorem uD.same (h:uD w X T k enc sl xs Ls){g:O}{cs:Array Value}{T':TypeId}{fz:O × O}(hg:X.1[g]?=I (J cs T' fz))(hT:T≠T')(hs:Same (λi=>i≠g) X Y):uD w Y T k enc sl xs Ls:=
 ⟨h.1,λi x L h1 h2=>(h.2 i x L h1 h2).same hg hT hs⟩
theorem uD.below (h:uD w X T k enc sl xs Ls)(hb:Below X.1.size X Y):uD w Y T k enc sl xs Ls:=⟨h.1,λi x L h1 h2=>(h.2 i x L h1 h2).below hb⟩
theorem uD.set (h:uD w X T k enc sl xs Ls){i:O}{y:α}{L:S β}(hL:Ls[i]?=I L)(hy:ng w X T k enc (sl y) L):uD w X T k enc sl (xs.set i y) Ls:=by
 refine⟨by rw[Eu];exact h.1,λj x L' h1 h2=>?_⟩;rw[List.getElem?_set] at h1
 split at h1
 .rename_i e
  subst e
  split at h1
  .injection h1 with h1
   subst h1;rw[hL] at h2;injection h2 with h2;subst h2;exact hy
  .cases h1
 .exact h.2 j x L' h1 h2
theorem uD.rows [hc:Cells enc k](h:uD w X T k enc sl xs Ls)(hb:Below w.1.size w X)(i:O)(x:α)(hx:xs[i]?=I x):∃L,Ls[i]?=I L/\Row X k enc (sl x).a (sl x).n (sl x).c L:=by
 have hi:i<Ls.length:=by rw[<-h.1];exact(bO.1 hx).1
 exact⟨Ls[i],fK hi,(h.2 i x _ hx (fK hi)).row hb⟩
end
@[reducible] def EvC.sl (x:EvC):Sl:=⟨x.sa,x.sn,x.sc⟩
@[reducible] def aM.sl (x:aM):Sl:=⟨x.sa,x.sn,x.sc⟩
@[reducible] def aN.sl (x:aN):Sl:=⟨x.sa,x.sn,x.sc⟩
@[reducible] def EvC.wi (x:EvC)(s:Sl):EvC:={x with sa:=s.a,sn:=s.n,sc:=s.c}
@[reducible] def aM.wi (x:aM)(s:Sl):aM:={x with sa:=s.a,sn:=s.n,sc:=s.c}
@[reducible] def aN.wi (x:aN)(s:Sl):aN:={x with sa:=s.a,sn:=s.n,sc:=s.c}
def EvC.base (x:EvC):EvC:=x.wi ⟨F,0,0⟩
def aM.base (x:aM):aM:=x.wi ⟨F,0,0⟩
def aN.base (x:aN):aN:=x.wi ⟨F,0,0⟩
theorem BA {α γ:Type}{f:α->γ}{xs:S α}{i:O}{x y:α}(hx:xs[i]?=I x)(he:f y=f x):(xs.set i y).map f=xs.map f:=by
 apply Ce
 intro j;rw[ug,ug,List.getElem?_set]
 split
 .rename_i e
  subst e;rw[hx,av (bO.1 hx).1];simp[he]
 .rfl
structure Cont where
 nl:O->S Bs
 E:S EvC
 SE:S (S Sn)
 D:S aM
 SD:S (S Int)
 M:S aN
 SM:S (S Int)
 Q:S Wa
structure St (w X:U)(h:HC)(es:S EvC)(ds:S aM)(ms:S aN)(c:Cont):Prop where
 b:Below w.1.size w X
 bx:Bx X w.1.size (aD h)
 tg:∃cs fz,X.1[w.1.size]?=I (J cs 29 fz)
 b2:Bx X (w.1.size+1) (Array.replicate 8 (C F 0 0))
 t2:∃cs fz,X.1[w.1.size+1]?=I (J cs 29 fz)
 e:ng w X 50 9 eB h.e es
 d:ng w X 79 2 fB h.d ds
 m:ng w X 84 4 fD h.m ms
 q:ng w X 88 2 gH h.w c.Q
 n:∀i,i<4->ng w X 9 1 encStr (h.nm i) (c.nl i)
 be:es.map EvC.base=c.E
 bd:ds.map aM.base=c.D
 bm:ms.map aN.base=c.M
 se:uD w X 98 3 dV EvC.sl es c.SE
 sd:uD w X 3 1 aX aM.sl ds c.SD
 sm:uD w X 3 1 aX aN.sl ms c.SM
section
variable {w X Y:U}{h:HC}{es:S EvC}{ds:S aM}{ms:S aN}{c:Cont}
theorem St.below (s:St w X h es ds ms c)(hb:Below X.1.size X Y):St w Y h es ds ms c:=by
 obtain⟨cs,fz,ht⟩:=s.tg;obtain⟨cs',X8,ht'⟩:=s.t2;exact⟨s.b.trans (hb.mono s.b.size),s.bx.keep hb,⟨cs,fz,(hb.block _ s.bx.2.2).trans ht⟩,s.b2.keep hb,⟨cs',X8,(hb.block _ s.b2.2.2).trans ht'⟩,s.e.below hb,s.d.below hb,s.m.below hb,s.q.below hb,λi hi=>(s.n i hi).below hb,s.be,s.bd,s.bm,s.se.below hb,s.sd.below hb,s.sm.below hb⟩
theorem St.drew (s:St w X h es ds ms c):St w X.drew h es ds ms c:=s.below (Below.refl _ _).drew
theorem sameBox (_s:St w X h es ds ms c)(j:O)(v:Value):Same (λi=>i≠w.1.size) X (X.setCell ⟨w.1.size,j,F⟩ v):=(Same.refl' X).setTail (λhn=>hn rfl)
theorem rU (s:St w X h es ds ms c)(j:O)(v:Value):Below w.1.size w (X.setCell ⟨w.1.size,j,F⟩ v):=(sameBox s j v).below s.b (λi hi=>by omega) s.b.size
theorem St.anu (s:St w X h es ds ms c)(sl:Sl)(es':S EvC){E' SE'}(h1:ng w X 50 9 eB sl es')(h2:es'.map EvC.base=E')(h3:uD w X 98 3 dV EvC.sl es' SE'):
  St w (X.setCell ⟨w.1.size,4,F⟩ sl.v) {h with e:=sl} es' ds ms {c with E:=E',SE:=SE'}:=by
 obtain⟨cs,fz,ht⟩:=s.tg;have hs:=sameBox s 4 sl.v;exact⟨rU s _ _,s.bx.bf 4 ak _,⟨_,_,bR ht _⟩,hs.bx s.b2 ah,⟨_,_,(hs.block _ ah s.b2.2.2).trans s.t2.choose_spec.choose_spec⟩,h1.same ht aj hs,s.d.same ht aj hs,s.m.same ht aj hs,s.q.same ht aj hs,λi hi=>(show ng w X 9 1 encStr (({h with e:=sl}:HC).nm i) (c.nl i) from(match i,hi with|0,_=>s.n 0 aj|1,_=>s.n 1 aj|2,_=>s.n 2 aj|3,_=>s.n 3 aj)).same ht aj hs,h2,s.bd,s.bm,h3.same ht aj hs,s.sd.same ht aj hs,s.sm.same ht aj hs⟩
theorem St.ZT (s:St w X h es ds ms c){g i:O}{x:EvC}{L}(ho:Own X w.1.size 50 9 eB h.e.v es)(ha:h.e.a=I ⟨g,0,F⟩)(hx:es[i]?=I x)(hL:c.SE[i]?=I L)(sl:Sl)(hy:ng w X 98 3 dV sl L):
  St w (X.setCell ⟨g,i*9+8,F⟩ sl.v) h (es.set i (x.wi sl)) ds ms c/\Own (X.setCell ⟨g,i*9+8,F⟩ sl.v) w.1.size 50 9 eB h.e.v (es.set i (x.wi sl)):=by
 have sP:h.e.v.ownBlock=I g:=by simp only[Sl.v,ha];rfl
 obtain⟨cs,fz,ht⟩:=ho.tag sP;have hlt:=ho.lt g sP;have hs:Same (λi=>i≠g) X (X.setCell ⟨g,i*9+8,F⟩ sl.v):=(Same.refl' X).setTail (λhn=>hn rfl);have ho':Own (X.setCell ⟨g,i*9+8,F⟩ sl.v) w.1.size 50 9 eB h.e.v (es.set i (x.wi sl)):=by
  have e:h.e.v= C (I ⟨g,0,F⟩) h.e.n h.e.c:=by simp only[Sl.v,ha]
  rw[e] at ho ⊢;exact ho.put hx aj rfl
 obtain⟨cs0,fz0,ht0⟩:=s.tg;have hg:w.1.size≠g:=λe=>by
  rw[e,ht] at ht0
  cases ht0
 obtain⟨cs2,fz2,ht2⟩:=s.t2;have hg2:w.1.size+1≠g:=λe=>by
  rw[e,ht] at ht2
  cases ht2
 exact⟨⟨hs.below s.b (λi hi=>by omega) s.b.size,hs.bx s.bx hg,⟨_,_,(hs.block _ hg s.bx.2.2).trans ht0⟩,hs.bx s.b2 hg2,⟨_,_,(hs.block _ hg2 s.b2.2.2).trans ht2⟩,⟨by rw[Eu];exact s.e.1,.inr ho'⟩,s.d.same ht aj hs,s.m.same ht aj hs,s.q.same ht aj hs,λj hj=>(s.n j hj).same ht aj hs,(BA (f:=EvC.base) (y:=x.wi sl) hx rfl).trans s.be,s.bd,s.bm,(s.se.same ht aj hs).set hL (hy.same ht aj hs),s.sd.same ht aj hs,s.sm.same ht aj hs⟩,ho'⟩
theorem St.anv (s:St w X h es ds ms c)(sl:Sl)(ds':S aM){D' SD'}(h1:ng w X 79 2 fB sl ds')(h2:ds'.map aM.base=D')(h3:uD w X 3 1 aX aM.sl ds' SD'):
  St w (X.setCell ⟨w.1.size,5,F⟩ sl.v) {h with d:=sl} es ds' ms {c with D:=D',SD:=SD'}:=by
 obtain⟨cs,fz,ht⟩:=s.tg;have hs:=sameBox s 5 sl.v;exact⟨rU s _ _,s.bx.bf 5 ak _,⟨_,_,bR ht _⟩,hs.bx s.b2 ah,⟨_,_,(hs.block _ ah s.b2.2.2).trans s.t2.choose_spec.choose_spec⟩,s.e.same ht aj hs,h1.same ht aj hs,s.m.same ht aj hs,s.q.same ht aj hs,λi hi=>(show ng w X 9 1 encStr (({h with d:=sl}:HC).nm i) (c.nl i) from(match i,hi with|0,_=>s.n 0 aj|1,_=>s.n 1 aj|2,_=>s.n 2 aj|3,_=>s.n 3 aj)).same ht aj hs,s.be,h2,s.bm,s.se.same ht aj hs,h3.same ht aj hs,s.sm.same ht aj hs⟩
theorem St.ZU (s:St w X h es ds ms c){g i:O}{x:aM}{L}(ho:Own X w.1.size 79 2 fB h.d.v ds)(ha:h.d.a=I ⟨g,0,F⟩)(hx:ds[i]?=I x)(hL:c.SD[i]?=I L)(sl:Sl)(hy:ng w X 3 1 aX sl L):
  St w (X.setCell ⟨g,i*2+1,F⟩ sl.v) h es (ds.set i (x.wi sl)) ms c/\Own (X.setCell ⟨g,i*2+1,F⟩ sl.v) w.1.size 79 2 fB h.d.v (ds.set i (x.wi sl)):=by
 have sP:h.d.v.ownBlock=I g:=by simp only[Sl.v,ha];rfl
 obtain⟨cs,fz,ht⟩:=ho.tag sP;have hlt:=ho.lt g sP;have hs:Same (λi=>i≠g) X (X.setCell ⟨g,i*2+1,F⟩ sl.v):=(Same.refl' X).setTail (λhn=>hn rfl);have ho':Own (X.setCell ⟨g,i*2+1,F⟩ sl.v) w.1.size 79 2 fB h.d.v (ds.set i (x.wi sl)):=by
  have e:h.d.v= C (I ⟨g,0,F⟩) h.d.n h.d.c:=by simp only[Sl.v,ha]
  rw[e] at ho ⊢;exact ho.put hx aj rfl
 obtain⟨cs0,fz0,ht0⟩:=s.tg;have hg:w.1.size≠g:=λe=>by
  rw[e,ht] at ht0
  cases ht0
 obtain⟨cs2,fz2,ht2⟩:=s.t2;have hg2:w.1.size+1≠g:=λe=>by
  rw[e,ht] at ht2
  cases ht2
 exact⟨⟨hs.below s.b (λi hi=>by omega) s.b.size,hs.bx s.bx hg,⟨_,_,(hs.block _ hg s.bx.2.2).trans ht0⟩,hs.bx s.b2 hg2,⟨_,_,(hs.block _ hg2 s.b2.2.2).trans ht2⟩,s.e.same ht aj hs,⟨by rw[Eu];exact s.d.1,.inr ho'⟩,s.m.same ht aj hs,s.q.same ht aj hs,λj hj=>(s.n j hj).same ht aj hs,s.be,(BA (f:=aM.base) (y:=x.wi sl) hx rfl).trans s.bd,s.bm,s.se.same ht aj hs,(s.sd.same ht aj hs).set hL (hy.same ht aj hs),s.sm.same ht aj hs⟩,ho'⟩
theorem St.anw (s:St w X h es ds ms c)(sl:Sl)(ms':S aN){M' SM'}(h1:ng w X 84 4 fD sl ms')(h2:ms'.map aN.base=M')(h3:uD w X 3 1 aX aN.sl ms' SM'):
  St w (X.setCell ⟨w.1.size,6,F⟩ sl.v) {h with m:=sl} es ds ms' {c with M:=M',SM:=SM'}:=by
 obtain⟨cs,fz,ht⟩:=s.tg;have hs:=sameBox s 6 sl.v;exact⟨rU s _ _,s.bx.bf 6 ak _,⟨_,_,bR ht _⟩,hs.bx s.b2 ah,⟨_,_,(hs.block _ ah s.b2.2.2).trans s.t2.choose_spec.choose_spec⟩,s.e.same ht aj hs,s.d.same ht aj hs,h1.same ht aj hs,s.q.same ht aj hs,λi hi=>(show ng w X 9 1 encStr (({h with m:=sl}:HC).nm i) (c.nl i) from(match i,hi with|0,_=>s.n 0 aj|1,_=>s.n 1 aj|2,_=>s.n 2 aj|3,_=>s.n 3 aj)).same ht aj hs,s.be,s.bd,h2,s.se.same ht aj hs,s.sd.same ht aj hs,h3.same ht aj hs⟩
theorem St.ZV (s:St w X h es ds ms c){g i:O}{x:aN}{L}(ho:Own X w.1.size 84 4 fD h.m.v ms)(ha:h.m.a=I ⟨g,0,F⟩)(hx:ms[i]?=I x)(hL:c.SM[i]?=I L)(sl:Sl)(hy:ng w X 3 1 aX sl L):
  St w (X.setCell ⟨g,i*4+3,F⟩ sl.v) h es ds (ms.set i (x.wi sl)) c/\Own (X.setCell ⟨g,i*4+3,F⟩ sl.v) w.1.size 84 4 fD h.m.v (ms.set i (x.wi sl)):=by
 have sP:h.m.v.ownBlock=I g:=by simp only[Sl.v,ha];rfl
 obtain⟨cs,fz,ht⟩:=ho.tag sP;have hlt:=ho.lt g sP;have hs:Same (λi=>i≠g) X (X.setCell ⟨g,i*4+3,F⟩ sl.v):=(Same.refl' X).setTail (λhn=>hn rfl);have ho':Own (X.setCell ⟨g,i*4+3,F⟩ sl.v) w.1.size 84 4 fD h.m.v (ms.set i (x.wi sl)):=by
  have e:h.m.v= C (I ⟨g,0,F⟩) h.m.n h.m.c:=by simp only[Sl.v,ha]
  rw[e] at ho ⊢;exact ho.put hx aj rfl
 obtain⟨cs0,fz0,ht0⟩:=s.tg;have hg:w.1.size≠g:=λe=>by
  rw[e,ht] at ht0
  cases ht0
 obtain⟨cs2,fz2,ht2⟩:=s.t2;have hg2:w.1.size+1≠g:=λe=>by
  rw[e,ht] at ht2
  cases ht2
 exact⟨⟨hs.below s.b (λi hi=>by omega) s.b.size,hs.bx s.bx hg,⟨_,_,(hs.block _ hg s.bx.2.2).trans ht0⟩,hs.bx s.b2 hg2,⟨_,_,(hs.block _ hg2 s.b2.2.2).trans ht2⟩,s.e.same ht aj hs,s.d.same ht aj hs,⟨by rw[Eu];exact s.m.1,.inr ho'⟩,s.q.same ht aj hs,λj hj=>(s.n j hj).same ht aj hs,s.be,s.bd,(BA (f:=aN.base) (y:=x.wi sl) hx rfl).trans s.bm,s.se.same ht aj hs,s.sd.same ht aj hs,(s.sm.same ht aj hs).set hL (hy.same ht aj hs)⟩,ho'⟩
theorem St.anx (s:St w X h es ds ms c)(sl:Sl){Q'}(h1:ng w X 88 2 gH sl Q'):
  St w (X.setCell ⟨w.1.size,7,F⟩ sl.v) {h with w:=sl} es ds ms {c with Q:=Q'}:=by
 obtain⟨cs,fz,ht⟩:=s.tg;have hs:=sameBox s 7 sl.v;exact⟨rU s _ _,s.bx.bf 7 ak _,⟨_,_,bR ht _⟩,hs.bx s.b2 ah,⟨_,_,(hs.block _ ah s.b2.2.2).trans s.t2.choose_spec.choose_spec⟩,s.e.same ht aj hs,s.d.same ht aj hs,s.m.same ht aj hs,h1.same ht aj hs,λi hi=>(show ng w X 9 1 encStr (({h with w:=sl}:HC).nm i) (c.nl i) from(match i,hi with|0,_=>s.n 0 aj|1,_=>s.n 1 aj|2,_=>s.n 2 aj|3,_=>s.n 3 aj)).same ht aj hs,s.be,s.bd,s.bm,s.se.same ht aj hs,s.sd.same ht aj hs,s.sm.same ht aj hs⟩
theorem St.aj8 (s:St w X h es ds ms c)(sl:Sl)(h1:ng w X 9 1 encStr sl (c.nl 0)):
  St w (X.setCell ⟨w.1.size,0,F⟩ sl.v) {h with t:=sl} es ds ms c:=by
 obtain⟨cs,fz,ht⟩:=s.tg;have hs:=sameBox s 0 sl.v;exact⟨rU s _ _,s.bx.bf 0 ak _,⟨_,_,bR ht _⟩,hs.bx s.b2 ah,⟨_,_,(hs.block _ ah s.b2.2.2).trans s.t2.choose_spec.choose_spec⟩,s.e.same ht aj hs,s.d.same ht aj hs,s.m.same ht aj hs,s.q.same ht aj hs,λi hi=>(show ng w X 9 1 encStr (({h with t:=sl}:HC).nm i) (c.nl i) from(match i,hi with|0,_=>h1|1,_=>s.n 1 aj|2,_=>s.n 2 aj|3,_=>s.n 3 aj)).same ht aj hs,s.be,s.bd,s.bm,s.se.same ht aj hs,s.sd.same ht aj hs,s.sm.same ht aj hs⟩
theorem St.aj9 (s:St w X h es ds ms c)(sl:Sl)(h1:ng w X 9 1 encStr sl (c.nl 1)):
  St w (X.setCell ⟨w.1.size,1,F⟩ sl.v) {h with s:=sl} es ds ms c:=by
 obtain⟨cs,fz,ht⟩:=s.tg;have hs:=sameBox s 1 sl.v;exact⟨rU s _ _,s.bx.bf 1 ak _,⟨_,_,bR ht _⟩,hs.bx s.b2 ah,⟨_,_,(hs.block _ ah s.b2.2.2).trans s.t2.choose_spec.choose_spec⟩,s.e.same ht aj hs,s.d.same ht aj hs,s.m.same ht aj hs,s.q.same ht aj hs,λi hi=>(show ng w X 9 1 encStr (({h with s:=sl}:HC).nm i) (c.nl i) from(match i,hi with|0,_=>s.n 0 aj|1,_=>h1|2,_=>s.n 2 aj|3,_=>s.n 3 aj)).same ht aj hs,s.be,s.bd,s.bm,s.se.same ht aj hs,s.sd.same ht aj hs,s.sm.same ht aj hs⟩
theorem St.aj' (s:St w X h es ds ms c)(sl:Sl)(h1:ng w X 9 1 encStr sl (c.nl 2)):
  St w (X.setCell ⟨w.1.size,2,F⟩ sl.v) {h with o:=sl} es ds ms c:=by
 obtain⟨cs,fz,ht⟩:=s.tg;have hs:=sameBox s 2 sl.v;exact⟨rU s _ _,s.bx.bf 2 ak _,⟨_,_,bR ht _⟩,hs.bx s.b2 ah,⟨_,_,(hs.block _ ah s.b2.2.2).trans s.t2.choose_spec.choose_spec⟩,s.e.same ht aj hs,s.d.same ht aj hs,s.m.same ht aj hs,s.q.same ht aj hs,λi hi=>(show ng w X 9 1 encStr (({h with o:=sl}:HC).nm i) (c.nl i) from(match i,hi with|0,_=>s.n 0 aj|1,_=>s.n 1 aj|2,_=>h1|3,_=>s.n 3 aj)).same ht aj hs,s.be,s.bd,s.bm,s.se.same ht aj hs,s.sd.same ht aj hs,s.sm.same ht aj hs⟩
theorem St.akb (s:St w X h es ds ms c)(sl:Sl)(h1:ng w X 9 1 encStr sl (c.nl 3)):
  St w (X.setCell ⟨w.1.size,3,F⟩ sl.v) {h with p:=sl} es ds ms c:=by
 obtain⟨cs,fz,ht⟩:=s.tg;have hs:=sameBox s 3 sl.v;exact⟨rU s _ _,s.bx.bf 3 ak _,⟨_,_,bR ht _⟩,hs.bx s.b2 ah,⟨_,_,(hs.block _ ah s.b2.2.2).trans s.t2.choose_spec.choose_spec⟩,s.e.same ht aj hs,s.d.same ht aj hs,s.m.same ht aj hs,s.q.same ht aj hs,λi hi=>(show ng w X 9 1 encStr (({h with p:=sl}:HC).nm i) (c.nl i) from(match i,hi with|0,_=>s.n 0 aj|1,_=>s.n 1 aj|2,_=>s.n 2 aj|3,_=>h1)).same ht aj hs,s.be,s.bd,s.bm,s.se.same ht aj hs,s.sd.same ht aj hs,s.sm.same ht aj hs⟩
end
theorem Dq {β:Type}{X:U}{k:O}{enc:β->S Value}[hc:Cells enc k](hinj:∀x y,enc x=enc y->x=y){a:Option Addr}{n c:O}{L:S β}(h:Row X k enc a n c L):Classical.epsilon (λL=>Row X k enc a n c L)=L:=
 Row.uniq (hc:=hc) hinj (Classical.epsilon_spec ⟨L,h⟩) h
theorem Ka (x y:Sn)(h:dV x=dV y):x=y:=by
 obtain⟨a,b,c⟩:=x;obtain⟨d,e,f⟩:=y;simp[dV] at h;simp[h]
theorem xw (x y:Int)(h:aX x=aX y):x=y:=by simpa[aX] using h
theorem uD.eps {α β:Type}{w X:U}{T:TypeId}{k:O}{enc:β->S Value}[hc:Cells enc k]{sl:α->Sl}{xs:S α}{Ls:S (S β)}(hinj:∀x y,enc x=enc y->x=y)(h:uD w X T k enc sl xs Ls)(hb:Below w.1.size w X):
  (∀x∈xs,Row X k enc (sl x).a (sl x).n (sl x).c (Classical.epsilon (λL=>Row X k enc (sl x).a (sl x).n (sl x).c L)))/\xs.map (λx=>Classical.epsilon (λL=>Row X k enc (sl x).a (sl x).n (sl x).c L))=Ls:=by
 constructor
 .intro x hx
  obtain⟨i,hi⟩:=zi.1 hx;obtain⟨L,_,hr⟩:=h.rows (hc:=hc) hb i x hi;rw[Dq (hc:=hc) hinj hr];exact hr
 .apply Ce
  intro i;rw[ug]
  cases hx:xs[i]? with
  |none=>rw[Option.map_none,xY (by rw[<-h.1];exact List.getElem?_eq_none_iff.1 hx)]
  |some x=>
   obtain⟨L,hL,hr⟩:=h.rows (hc:=hc) hb i x hx;rw[Option.map_some,Dq (hc:=hc) hinj hr,hL]
def aoh (w:U)(c:Cont)(e:Ending)(X:U):Prop:=
 ∃h es ds ms,∃scan:EvC->S Sn,∃dn:aM->S Int,∃mn:aN->S Int,e= .returned (bG h)/\Deep X h es ds ms c.Q scan dn mn/\(∀i,i<4->Row X 1 encStr (h.nm i).a (h.nm i).n (h.nm i).c (c.nl i))/\
  es.map EvC.base=c.E/\ds.map aM.base=c.D/\ms.map aN.base=c.M/\es.map scan=c.SE/\ds.map dn=c.SD/\ms.map mn=c.SM/\Below w.1.size w X
section
variable {w X Y:U}{h:HC}{es:S EvC}{ds:S aM}{ms:S aN}{c:Cont}
theorem St.cast {c':Cont}(s:St w X h es ds ms c)(e:c=c'):St w X h es ds ms c':=e▸s
end
theorem St.ret {w X:U}{h:HC}{es:S EvC}{ds:S aM}{ms:S aN}{c:Cont}(s:St w X h es ds ms c):aoh w c (.returned (bG h)) X:=by
 obtain⟨h1,h2⟩:=s.se.eps (hc:=pJ) Ka s.b;obtain⟨h3,h4⟩:=s.sd.eps (hc:=iP) xw s.b;obtain⟨h5,h6⟩:=s.sm.eps (hc:=iP) xw s.b;exact⟨h,es,ds,ms,_,_,_,rfl,⟨s.e.row (hc:=rA) s.b,s.d.row (hc:=rC) s.b,s.m.row (hc:=rD) s.b,s.q.row (hc:=sQ) s.b,h1,h3,h5⟩,λi hi=>(s.n i hi).row (hc:=ku) s.b,s.be,s.bd,s.bm,h2,h4,h6,s.b⟩
theorem uD.start {α β:Type}{w X:U}{T:TypeId}{k:O}{enc:β->S Value}{sl:α->Sl}{xs:S α}(f:α->S β)(h:∀x∈xs,(f x).length<=2000000/\Row w k enc (sl x).a (sl x).n (sl x).c (f x)):uD w X T k enc sl xs (xs.map f):=by
 refine⟨by rw[bH],λi x L hx hL=>?_⟩;rw[ug,hx] at hL;injection hL with hL;subst hL;have:=h x (dP hx);exact⟨this.1,.inl this.2⟩
def NN (nl:O->S Bs)(es:S EvC)(ds:S aM)(ms:S aN)(qs:S Wa)(scan:EvC->S Sn)(dn:aM->S Int)(mn:aN->S Int):Prop:=
 es.length<=2000000/\ds.length<=2000000/\ms.length<=2000000/\qs.length<=2000000/\(∀i,i<4->(nl i).length<=2000000)/\(∀x∈es,(scan x).length<=2000000)/\(∀x∈ds,(dn x).length<=2000000)/\(∀x∈ms,(mn x).length<=2000000)
def zK (m:O)(nl:O->S Bs)(es:S EvC)(ds:S aM)(ms:S aN)(qs:S Wa)(scan:EvC->S Sn)(dn:aM->S Int)(mn:aN->S Int):Cont:=
 ⟨nl,(es.take m).map EvC.base,(es.take m).map scan,ds.map aM.base,ds.map dn,ms.map aN.base,ms.map mn,qs⟩
theorem St.start {h:HC}{nl:O->S Bs}{es:S EvC}{ds:S aM}{ms:S aN}{qs:S Wa}{scan:EvC->S Sn}{dn:aM->S Int}{mn:aN->S Int}{w:U}(hn:∀i,i<4->Row w 1 encStr (h.nm i).a (h.nm i).n (h.nm i).c (nl i))
  (hd:Deep w h es ds ms qs scan dn mn) (hB:NN nl es ds ms qs scan dn mn) (m:O) (hm:h.e.n<=m):
  St w ((w.alloc (J (aD h) 29)).alloc (J (Array.replicate 8 (C F 0 0)) 29)) h es ds ms (zK m nl es ds ms qs scan dn mn):=by
 obtain⟨b1,b2,b3,b4,b5,b6,b7,b8⟩:=hB;have hl:=hd.1.len;have ht:es.take m=es:=iH ah;refine⟨aA (aA (Below.refl w.1.size w) _) _,Bx.alloc (Bx.new w (aD h) 29) _,⟨_,_,jF _ (gX w _)⟩,Bx.new1 ak,⟨_,_,qB ak⟩,⟨b1,.inl hd.1⟩,⟨b2,.inl hd.2.1⟩,⟨b3,.inl hd.2.2.1⟩,⟨b4,.inl hd.2.2.2.1⟩,λi hi=>⟨b5 i hi,.inl (hn i hi)⟩,?_,rfl,rfl,?_,uD.start dn (λx hx=>⟨b7 x hx,hd.2.2.2.2.2.1 x hx⟩),uD.start mn (λx hx=>⟨b8 x hx,hd.2.2.2.2.2.2 x hx⟩)⟩
 .simp only[zK,ht]
 .simp only[zK,ht]
  exact uD.start scan (λx hx=>⟨b6 x hx,hd.2.2.2.2.1 x hx⟩)
theorem Own.open_ {α:Type}{enc:α->S Value}{k:O}[hc:Cells enc k]{X:U}{B:O}{E:TypeId}{a:Option Addr}{n c:O}{xs:S α}(h:Own X B E k enc (C a n c) xs)(hn:0<n):
  ∃g cur,a=I ⟨g,0,F⟩/\Bx X g cur/\xs.length=n/\n<=c/\B<=g/\(∀i x j v,xs[i]?=I x->(enc x)[j]?=I v->cur[i*k+j]?=I v):=by
 obtain⟨h1,h2⟩:=h;rcases h2 with⟨he,h0⟩|⟨g,cap,cur,he,hB,hh,hn',_,hs,ht⟩
 .injection he with _ e2 _
  omega
 .injection he with e1 e2 e3
  subst e1 e2 e3;refine⟨g,cur,rfl,⟨λi=>?_,λi=>?_,(dh.1 hh).1⟩,rfl,hn',hB,λi x j v hx hv=>?_⟩
  .simp[World.cell?,hh]
  .simp[World.frozen?,hh]
  .have hf:=flat_get (hc:=hc) xs i x j v hx hv
   have hlt:i*k+j<xs.length*k:=by rw[<-h1];exact(bO.1 hf).1
   rw[<-ht,AO,av hlt] at hf
   simpa using hf
def ji (r:Int):Int:=if r=115 then 40 else if r=116\/r=109 then 300 else 0
structure Ev (w:U)(na:Option Addr)(nn nc:O)(va:Option Addr)(vn vc:O)(names:S Bs)(aG:S To):Prop where
 rn:Row w 1 encStr na nn nc names
 rv:Row w 2 sI va vn vc aG
 wn:∀s∈names,bF ⟨s.toArray⟩=true
 wv:∀t∈aG,j5 t
 g:kg w
 T:Lib.Utf8Tabs 6 7 w
theorem Ev.below {w w':U}{na:Option Addr}{nn nc:O}{va:Option Addr}{vn vc:O}{names:S Bs}{aG:S To}(h:Ev w na nn nc va vn vc names aG)(hb:Below w.1.size w w'):Ev w' na nn nc va vn vc names aG:=
 ⟨h.rn.below hb rfl,h.rv.below hb rfl,h.wn,h.wv,h.g.below hb,Utf8Tabs_below h.T hb⟩
theorem TD:∀args w,(callFunc 93 args).run Tryz.prog w= .ok (.enter 93 args) w:=enters_of func93 ay rfl
theorem TF:∀args w,(callFunc 96 args).run Tryz.prog w= .ok (.enter 96 args) w:=enters_of func96 ay rfl
theorem Ev.names {w:U}{na:Option Addr}{nn nc:O}{va:Option Addr}{vn vc:O}{names:S Bs}{aG:S To}(h:Ev w na nn nc va vn vc names aG):
  Calls Tryz.prog 95 #[C na nn nc,.func (.func 96) #[] #[]] w (dw (.bool Z) w):=by
 have:=TG na nn nc 96 #[] names (λs=>!bF ⟨s.toArray⟩) w h.rn TF (λx _ W hb=>by simpa using JZ x W (Utf8Tabs_below h.T hb))
 rwa[List.any_eq_false.2 (λs hs=>by simp[h.wn s hs])] at this
theorem Ev.aG {w:U}{na:Option Addr}{nn nc:O}{va:Option Addr}{vn vc:O}{names:S Bs}{aG:S To}(h:Ev w na nn nc va vn vc names aG):
  Calls Tryz.prog 92 #[C va vn vc,.func (.func 93) #[] #[]] w (dw (.bool Z) w):=by
 have:=Ya va vn vc 93 #[] aG (λ_=>Z) w h.rv TD (λx hx W hb=>by simpa using Wq x W (Utf8Tabs_below h.T hb) (h.wv x hx))
 rwa[List.any_eq_false.2 (λs hs=>by simp)] at this
theorem PI (r:Int)(w:U):Calls Tryz.prog 91 #[.int .i32 r] w (dw (H G (ji r)) w):=by
 by_cases h1:r=115
 .subst h1
  go_enter func91,ntmps91;go_wp2_with fail;go_ret;exact⟨rfl,Below.refl _ _⟩
 .have e1:(r==115)=Z:=aU.2 h1
  by_cases h2:r=116
  .subst h2
   go_enter func91,ntmps91;go_wp2_with fail;go_ret;exact⟨rfl,Below.refl _ _⟩
  .have e2:(r==116)=Z:=aU.2 h2
   by_cases h3:r=109
   .subst h3
    go_enter func91,ntmps91;go_wp2_with fail;go_ret;exact⟨rfl,Below.refl _ _⟩
   .have e3:(r==109)=Z:=aU.2 h3
    have hm:ji r=0:=by unfold ji;rw[au h1,au ah]
    rw[hm];go_enter func91,ntmps91;go_wp2_with fail;go_ret;exact⟨rfl,Below.refl _ _⟩
def KN (b:UInt8):S Value:=[.int .u8 (b.toNat:Int)]
instance ahT:Cells KN 1:=⟨λ_=>rfl,by decide,λx u h=>by simp[KN] at h;subst h;rfl⟩
theorem ahU:(Tryz.prog.info? 5).map (λi=>(i.zero.map (·.cells.size),i.size,i.bytes))=I (I 1,1,1):=ay
theorem ae0:∃i z,Tryz.prog.info? 5=I i/\i.zero=I z/\i.size=1/\i.bytes=1/\z.cells.size=1:=pV ahU
def BB:O->O->Bs
 |0,_=>[]
 |f+1,n=>if n=0 then [] else BB f (n / 10)++[UInt8.ofNat (48+n % 10)]
theorem IE:∀(f g n:O),n<=f->n<=g->BB f n=BB g n
 |0,0,_,_,_=>rfl
 |0,g+1,n,hf,_=>by
   obtain rfl:n=0:=by omega
   simp[BB]
 |f+1,0,n,_,hg=>by
   obtain rfl:n=0:=by omega
   simp[BB]
 |f+1,g+1,n,hf,hg=>by
  simp only[BB]
  split
  .rfl
  .rw[IE f g (n / 10) ah ah]
def jR (n:O):Bs:=BB n n
theorem Ct {n:O}(h:0<n):jR n=jR (n / 10)++[UInt8.ofNat (48+n % 10)]:=by
 obtain⟨m,rfl⟩:∃m,n=m+1:=⟨n - 1,by omega⟩;show BB (m+1) (m+1)=_;simp only[BB];rw[au ah,IE m ((m+1) / 10) _ ah (aB _)]
 rfl
theorem Jy:∀(d n:O),n<10 ^ d->(jR n).length<=d
 |d,0,_=>by simp[jR,BB]
 |0,n+1,h=>by simp at h
 |d+1,n+1,h=>by
  rw[Ct ah,bL,kN];have:=Jy d ((n+1) / 10) (by rw[Nat.pow_succ] at h;omega);omega
theorem Own.akJ (X:U)(B m:O)(hB:B<=X.1.size):Own (X.alloc (J #[.int .u8 (48+(m:Int) % 10)] 5)) B 5 1 KN (C (I ⟨X.1.size,0,F⟩) 1 1) [UInt8.ofNat (48+m % 10)]:=
 Own.new (hc:=ahT) X B 5 #[.int .u8 (48+(m:Int) % 10)] [UInt8.ofNat (48+m % 10)] hB (by
  simp[KN];omega) (by simp[maxLen])
theorem Vj (n:O)(h1:1<=n)(hn:n<=100000)(w:U):Calls Tryz.prog 111 #[H G n] w (dw (.string ⟨(jR n).toArray⟩) w):=by
 obtain⟨i,z,hi,hz,hsize,dx,hzs⟩:=ae0;have HI:=N (⟨hi,hz,hsize,dx,hzs⟩:_/\_/\_/\_/\_);clear hi hz hsize dx hzs;go_enter func111,ntmps111;go_wp2_with fail
 go_loopw [3,4,5] (λv o b wr=>∃(m:O)(a0:Option Addr)(c0:O)(ds:Bs)(f:Bool),v= .int .u64 m/\o= C a0 ds.length c0/\b= .bool f/\jR n=jR m++ds/\(f=true->0<m)/\m<=n/\ds.length<=n/\ds.length+m<=n/\
   Own wr w.1.size 5 1 KN (C a0 ds.length c0) ds/\Below w.1.size w wr) (λv _ _ _=>(RowKit.intOf v).toNat)
 case atStart=>exact⟨n,F,0,[],true,rfl,rfl,rfl,by simp,λ_=>by omega,aB _,aZ _,by simp,Own.jY _ _ _ _ _,Below.refl _ _⟩
 case round=>
  obtain⟨m,a0,c0,ds,f,rfl,rfl,rfl,hd,hf,hm,hl,hlm,how,hbw⟩:=hrel;by_cases h0:0<m
  .have HOW:=N how;have cZ:=N hbw;have HD:=N hd
   have HGT:((10:Int)>0):=by decide
   clear how hbw hd;have hm0:((m:Int)>0):=by omega
   have TH:=N (Own.akJ wr w.1.size m cZ.q.size);have pU:=N ((HOW.q.below (aA (Below.refl _ _) (J #[.int .u8 (48+(m:Int) % 10)] 5)) rfl).row ah);have jU:Hid ([UInt8.ofNat (48+m % 10)].length+ds.length=1+ds.length):=N rfl;have iU:Hid ((1+ds.length)*1<=140737488355328):=N ah;have iM:Hid (1+ds.length<=maxLen):=N (by unfold maxLen;omega);have sO:Hid (w.1.size<=(wr.alloc (J #[.int .u8 (48+(m:Int) % 10)] 5)).1.size):=N (by have:=cZ.q.size;simp;omega);have HB2:=N ((cZ.q).alloc cZ.q.size (J #[.int .u8 (48+(m:Int) % 10)] 5));have HD2:Hid (jR n=jR (m / 10)++(UInt8.ofNat (48+m % 10)::ds)):=N (by rw[HD.q,Ct h0,dD];rfl);clear hf
   cases f
   .go_wp2_with (at_builtin;refine je rfl _ _ 56 rfl i z 1 underlying56 HI.q.1 HI.q.2.1 HI.q.2.2.1 HI.q.2.2.2.1 HI.q.2.2.2.2 rfl TH.q a0 ds.length c0 (1+ds.length) ds rfl pU.q jU.q iU.q iM.q sO.q ?_;intro a' c' w1 hown1 hg1 vQ)
    have HR1:=N (⟨hown1,below_app HB2.q TH.q (aB _) sO.q hg1⟩:_/\_);clear hown1 hg1 vQ;go_roundw
    case rel=>exact⟨m / 10,a',c',UInt8.ofNat (48+m % 10)::ds,Z,by go_num,by rw[dO,Nat.add_comm],rfl,HD2.q,λh=>(by cases h),by omega,by rw[dO];omega,by rw[dO];omega,by rw[dO,Nat.add_comm];exact HR1.q.1,HR1.q.2⟩
    case measure=>simp[RowKit.intOf];omega
   .go_wp2_with (at_builtin;refine je rfl _ _ 56 rfl i z 1 underlying56 HI.q.1 HI.q.2.1 HI.q.2.2.1 HI.q.2.2.2.1 HI.q.2.2.2.2 rfl TH.q a0 ds.length c0 (1+ds.length) ds rfl pU.q jU.q iU.q iM.q sO.q ?_;intro a' c' w1 hown1 hg1 vQ)
    have HR1:=N (⟨hown1,below_app HB2.q TH.q (aB _) sO.q hg1⟩:_/\_);clear hown1 hg1 vQ;go_roundw
    case rel=>exact⟨m / 10,a',c',UInt8.ofNat (48+m % 10)::ds,Z,by go_num,by rw[dO,Nat.add_comm],rfl,HD2.q,λh=>(by cases h),by omega,by rw[dO];omega,by rw[dO];omega,by rw[dO,Nat.add_comm];exact HR1.q.1,HR1.q.2⟩
    case measure=>simp[RowKit.intOf];omega
  .obtain rfl:m=0:=by omega
   obtain rfl:f=Z:=by cases f;rfl;exact absurd (hf rfl) ah
   obtain rfl:ds=jR n:=by simpa[jR,BB] using hd.symm
   have hpos:0<(jR n).length:=by rw[Ct ah];simp
   have hrow:=how.row ah;obtain⟨_,bb,oo,_,rfl,_⟩:=hrow.at_ hpos;have hcv:(convert 56 9 (C (I ⟨bb,oo,F⟩) (jR n).length c0)).run Tryz.prog wr= .ok (.string (strOfNums ((jR n).map (λu=>(u.toNat:Int))))) wr:=
    run_convert_bytes_arg wr 56 5 underlying56 Tryz.underlying5 bb oo _ c0 ((jR n).map (λu=>(u.toNat:Int))) ak (λi hi=>by
     obtain⟨x,b',o',hx,hab,hc⟩:=hrow.at_ hi
     cases hab
     have:=hc 0 _ rfl;rw[gT,dM] at this;rw[this,List.getD_eq_getElem?_getD,ug,hx];rfl) 9 Tryz.underlying9
   have hst:strOfNums ((jR n).map (λu=>(u.toNat:Int)))=⟨(jR n).toArray⟩:=by
    unfold strOfNums;rw[iV]
    congr 2
    conv=>rhs;rw[<-List.map_id (jR n)]
    apply ni
    intro u _;simp
   rw[hst] at hcv;have cZ:=N hbw;clear how hbw hd hrow hst hpos;go_wp2_with fail;go_ret;exact⟨rfl,cZ.q⟩
theorem Ut (a b:Bs):(⟨a.toArray⟩++⟨b.toArray⟩:ByteArray)=⟨(a++b).toArray⟩:=by
 apply ByteArray.ext;simp
theorem aoi (a b c:Bs):(⟨a.toArray⟩++⟨b.toArray⟩++⟨c.toArray⟩:ByteArray)=⟨(a++(b++c)).toArray⟩:=by
 rw[Ut,Ut,dD]
def gq (t:To):Bs:=if t.k=0 then [45] else t.name++46::jR t.k.toNat
theorem ML (t:To)(h0:0<=t.k)(h9:t.k<=999)(hn:t.name.length<=100000)(w:U):Calls Tryz.prog 64 #[rV t] w (dw (.string ⟨(gq t).toArray⟩) w):=by
 obtain⟨n,k⟩:=t;simp only at h0 h9 hn;obtain⟨m,rfl⟩:∃m:O,k=m:=⟨k.toNat,by omega⟩;by_cases hm:m=0
 .subst hm
  go_enter func64,ntmps64;go_wp2_with fail;go_ret;exact⟨rfl,aA (Below.refl _ _) _⟩
 .have hk:((m:Int)==0)=Z:=aU.2 ah
  have hq:gq ⟨n,m⟩=n++46::jR m:=by
   unfold gq;rw[au (by simpa using hm),jB]
  rw[hq];have HD:=λW=>N (Vj m ah ah W)
  have HB:=N (aA (Below.refl w.1.size w) (J #[.string ⟨n.toArray⟩,H G m] 144));have HX:=N (Bx.new w #[.string ⟨n.toArray⟩,H G m] 144);have hd3:(jR m).length<=3:=Jy 3 m ah;have hN1:¬(9223372036854775807<n.length+1):=by omega
  have hN2:¬(9223372036854775807<n.length+1+(jR m).length):=by omega
  clear hq h0 h9;go_enter func64,ntmps64;go_wp2_with fail;refine aC 8 [(0,0),(1,0),(2,0),(3,0),(4,0),(5,2),(6,0),(7,0)] (λ_=>True) (λW'=>W'.cell? ⟨w.1.size,0,F⟩=I (.string ⟨n.toArray⟩)/\W'.cell? ⟨w.1.size,1,F⟩=I (H G m)) ay ay (trivial) (⟨HX.q.1 0,HX.q.1 1⟩) ?_;refine qC ?_;refine aF rfl rfl (λK hK=>?_);go_simp;refine(HD _).q.mono ?_;rintro en w2 ⟨rfl,hb2⟩;have HB2:=N (HB.q.drew.trans (hb2.mono HB.q.drew.size));refine hK _ _ ⟨trivial,(HX.q.drew.keep hb2).1 0,(HX.q.drew.keep hb2).1 1⟩ ?_;clear hK K hb2;refine qC ?_;refine aP ?_;go_wp2_with fail;go_ret;exact⟨bU (λs=>Ending.returned (.string s)) (aoi n [46] (jR m)),HB2.q⟩
structure BD (h:HC)(l:bE)(w0 w:U)(Lk:bE)(ns:S Bs)(vs:S To)(X:U):Prop where
 b0:Bx X w.1.size (aD h)
 b1:Bx X (w.1.size+1) (bJ Lk)
 b3:Bx X (w.1.size+3) #[H G 0,C F 0 0,H G 0,C F 0 0,.bool Z,H G 0]
 on:Own X w0.1.size 9 1 encStr (C Lk.na Lk.nn Lk.nc) ns
 ov:Own X w0.1.size 144 2 sI (C Lk.va Lk.vn Lk.vc) vs
 fn:∀g,(Value.slice Lk.na Lk.nn Lk.nc).ownBlock=I g->g<w.1.size\/w.1.size+4<=g
 fv:∀g,(Value.slice Lk.va Lk.vn Lk.vc).ownBlock=I g->g<w.1.size\/w.1.size+4<=g
 be:Below w0.1.size w0 X
 kw:Kept w l X
 gr:LF w l Lk
 sz:w.1.size+4<=X.1.size
theorem BD.pn {h:HC}{l:bE}{w0 w:U}{Lk:bE}{ns:S Bs}{vs:S To}{X:U}(s:BD h l w0 w Lk ns vs X)(j:O)(hj:j<4):(Value.slice Lk.na Lk.nn Lk.nc).ownBlock≠I (w.1.size+j):=λe=>by have:=s.fn _ e;omega
theorem BD.pv {h:HC}{l:bE}{w0 w:U}{Lk:bE}{ns:S Bs}{vs:S To}{X:U}(s:BD h l w0 w Lk ns vs X)(j:O)(hj:j<4):(Value.slice Lk.va Lk.vn Lk.vc).ownBlock≠I (w.1.size+j):=λe=>by have:=s.fv _ e;omega
theorem Rz (h:HC)(pn on tn:S Bs)(l:bE)(s:aH)(e:EvC)(scan:S Sn)(w0 w:U)(hb:Below w0.1.size w0 w)(hr:Row w0 1 encStr h.p.a h.p.n h.p.c pn)(hro:Row w0 1 encStr h.o.a h.o.n h.o.c on)(hrt:Row w0 1 encStr h.t.a h.t.n h.t.c tn)
  (he:aV e.pred h.p.n=true) (hrs:Row w0 3 dV e.sa e.sn e.sc scan) (hsc:∀q∈scan,jW h.t.n h.o.n q=true) (hl:gD w w0.1.size l s) (hlen:s.names.length<=1000) (hlv:s.aG.length<=1000) (aoj:e.sn<=40):
  Calls Tryz.prog 52 #[bG h,dY l,fZ e] w (zU w0 w l {s with names:=s.names++[nameOf pn e.pred]++scan.map (λq=>nameOf on q.obj),aG:=s.aG++scan.map (λq=>nk tn q.v)}):=by
 obtain⟨hk0,hkn⟩:=nI he;obtain⟨kk,hkk⟩:∃kk:O,e.pred=kk:=⟨e.pred.toNat,by omega⟩;obtain⟨x,b,o,hx,hab,hc⟩:=hr.at_ (i:=kk) ah;have hcw:=hc 0 _ rfl;simp only[gT,dM] at hcw;have Qc:=N (show b<w0.1.size from dR hcw);have hcb:=bn hb rfl hcw;rw[show nameOf pn e.pred=x by rw[hkk,oV hx]];have hkl:kk<h.p.n:=by omega
 have hle:=hr.le;obtain⟨eqs,hon,hov⟩:=hl;obtain⟨i,z,hi,hz,hsize,dx,hzs⟩:=nL;have HI:=N (⟨hi,hz,hsize,dx,hzs⟩:_/\_/\_/\_/\_);have mZ:=N hab;have yH:=N eqs;have zS:=N hon;have KM:=N hov;have HB:=N hb;have iU:Hid ((s.names.length+1)*16<=140737488355328):=N ah;have iM:Hid (s.names.length+1<=maxLen):=N (by unfold maxLen;omega);have HF:Hid (∀i,(i<w0.1.size\/w.1.size<=i)->I i≠(Value.slice l.na l.nn l.nc).ownBlock):=N (λi hi=>hon.far hi);have yC:=N (hov.apart hon aj);obtain⟨iv,zv,hiv,hzv,Yb,ahV,ahW⟩:=LG;have Qg:=N (⟨hiv,hzv,Yb,ahV,ahW⟩:_/\_/\_/\_/\_);have Xj:=N hro;have Dv:=N hrt;have xq:=N hrs;have HSC:=N hsc;have aok:=hrs.le;have hole:=hro.le;obtain⟨ek,et,es,el,eo,ev,ep,rP,pO,esc⟩:=e;simp only at hkk aoj aok xq;subst hkk;clear hb hr he hon hov eqs hx hab hc hcw hi hz hsize dx hzs hk0 hkn hiv hzv Yb ahV ahW hro hrt hrs hsc;go_enter func52,ntmps52;go_wp2_with fail;have gB:=N (show((((w.alloc (J (aD h) 62)).alloc (J (bJ l) 66)).alloc (J (aS ⟨ek,et,es,el,eo,ev,kk,rP,pO,esc⟩) 50)).alloc (J #[H G 0,C F 0 0,H G 0,C F 0 0,.bool Z,H G 0] 66)).cell? ⟨w.1.size+1,1,F⟩=I (C l.na l.nn l.nc) from(((Bx.new1 ak).alloc _).alloc _).1 1);have HS2:=N (show((((w.alloc (J (aD h) 62)).alloc (J (bJ l) 66)).alloc (J (aS ⟨ek,et,es,el,eo,ev,kk,rP,pO,esc⟩) 50)).alloc (J #[H G 0,C F 0 0,H G 0,C F 0 0,.bool Z,H G 0] 66)).cell? ⟨w.1.size,3,F⟩=I (C (I ⟨b,o,F⟩) h.p.n h.p.c) from(((((Bx.new1 rfl).alloc _).alloc _).alloc _).1 3).trans (by rw[<-mZ.q];rfl));have iW:=N (show((((w.alloc (J (aD h) 62)).alloc (J (bJ l) 66)).alloc (J (aS ⟨ek,et,es,el,eo,ev,kk,rP,pO,esc⟩) 50)).alloc (J #[H G 0,C F 0 0,H G 0,C F 0 0,.bool Z,H G 0] 66)).cell? ⟨w.1.size+2,7,F⟩=I (H G kk) from((Bx.new1 ak).alloc _).1 7);have uf:=N (show((((w.alloc (J (aD h) 62)).alloc (J (bJ l) 66)).alloc (J (aS ⟨ek,et,es,el,eo,ev,kk,rP,pO,esc⟩) 50)).alloc (J #[H G 0,C F 0 0,H G 0,C F 0 0,.bool Z,H G 0] 66)).cell? ⟨b,o+kk,F⟩=I (.string ⟨x.toArray⟩) from bP _ (bP _ (bP _ (bP _ hcb))));refine aC 11 [(0,0),(1,0),(2,0),(3,0),(4,0),(5,0),(6,0),(7,0),(8,0),(9,2),(10,2),(11,1),(12,2)] (λ_=>True) (λW'=>W'.cell? ⟨w.1.size+1,1,F⟩=I (C l.na l.nn l.nc)/\W'.cell? ⟨w.1.size,3,F⟩=I (C (I ⟨b,o,F⟩) h.p.n h.p.c)/\W'.cell? ⟨w.1.size+2,7,F⟩=I (H G kk)/\W'.cell? ⟨b,o+kk,F⟩=I (.string ⟨x.toArray⟩)) ay ay (trivial) (⟨gB.q,HS2.q,iW.q,uf.q⟩) ?_;refine qC ?_;refine aF rfl rfl (λK hK=>?_);go_simp;refine hK _ _ ⟨trivial,⟨bP _ gB.q,bP _ HS2.q,bP _ iW.q,bP _ uf.q⟩⟩ ?_;clear hK K;refine aF rfl rfl (λK hK=>?_);refine lX _ _ 23 rfl i z 16 underlying23 HI.q.1 HI.q.2.1 HI.q.2.2.1 HI.q.2.2.2.1 HI.q.2.2.2.2 rfl (((((((zS.q.alloc _).alloc _).alloc _).alloc _).alloc _).drew)) (I ⟨w.1.size+4,0,F⟩) 1 1 (s.names.length+1) [x] rfl (Row.drew (Row.PO ak x)) (rfl) (iU.q) (iM.q) (by have:=HB.q.size;simp;omega) ?_;intro a' c' w2 hown2 hg2 vR;have HG:=N hg2;have HA:=N vR;have HW:=N hown2;refine hK _ _ ⟨trivial,⟨hg2.cell (bP _ gB.q) (HF.q _ (.inr ak)),hg2.cell (bP _ HS2.q) (HF.q _ (.inr ak)),hg2.cell (bP _ iW.q) (HF.q _ (.inr ak)),hg2.cell (bP _ uf.q) (HF.q _ (.inl Qc.q))⟩⟩ ?_;clear hK K hown2 vR;have hbl:Bx w2 (w.1.size+1) (bJ l):=by
  refine Bx.grown ?_ hg2 (λe=>HF.q _ (.inr ak) e.symm);exact((((Bx.new1 ak).alloc _).alloc _).alloc _).drew
 have hbr:Bx w2 (w.1.size+3) #[H G 0,C F 0 0,H G 0,C F 0 0,.bool Z,H G 0]:=by
  refine Bx.grown ?_ hg2 (λe=>HF.q _ (.inr ak) e.symm);exact((Bx.new1 ak).alloc _).drew
 have hc1:=hbl.1;have hf1:=hbl.2.1;have hl1:=hbl.2.2;have hc3:=hbr.1;have hf3:=hbr.2.1;have hl3:=hbr.2.2;have hA1:∀g,(Value.slice a' (s.names.length+1) c').ownBlock=I g->g≠w.1.size+1/\g≠w.1.size+3:=by
  intro g hg;rcases HA.q with h1|h1
  .have:=(zS.q.lt g (h1.symm.trans hg)).2
   omega
  .rw[h1] at hg;simp at hg;omega
 have Gl:Own w2 w0.1.size 144 2 sI (C l.va l.vn l.vc) s.aG:=(((((((KM.q.alloc _).alloc _).alloc _).alloc _).alloc _).drew)).grown hg2 (λg hg e=>yC.q g hg e);have hbe:Below w0.1.size w0 w2:=below_app (aA (aA (aA (aA (aA HB.q _) _) _) _) _).drew ((((((zS.q.alloc _).alloc _).alloc _).alloc _).alloc _).drew) (aB _) (by have:=HB.q.size;simp;omega) hg2;have hsz:w.1.size<=w2.1.size/\∀i,i<w.1.size->I i≠(Value.slice l.na l.nn l.nc).ownBlock->w2.1[i]?=w.1[i]?:=⟨bX (aA (aA (aA (aA (aA (Below.refl w.1.size w) _) _) _) _) _).drew.size hg2.size,λi hi h1=>(hg2.block i (bM hi (aA (aA (aA (aA (aA (Below.refl w.1.size w) _) _) _) _) _).drew.size) h1).trans ((aA (aA (aA (aA (aA (Below.refl w.1.size w) _) _) _) _) _).drew.block i hi)⟩;have hb0:Bx w2 w.1.size (aD h):=by
  refine Bx.grown ?_ hg2 (λe=>HF.q _ (.inr ak) e.symm);exact(((((Bx.new1 rfl).alloc _).alloc _).alloc _).alloc _).drew
 have hb2:Bx w2 (w.1.size+2) (aS ⟨ek,et,es,el,eo,ev,kk,rP,pO,esc⟩):=by
  refine Bx.grown ?_ hg2 (λe=>HF.q _ (.inr ak) e.symm);exact(((Bx.new1 ak).alloc _).alloc _).drew
 have hz2:w.1.size+4<=w2.1.size:=by have:=hg2.size;simp at this;omega
 have hhn:∀g,(Value.slice a' (s.names.length+1) c').ownBlock=I g->g<w.1.size\/w.1.size+4<=g:=by
  intro g hg;rcases HA.q with h1|h1
  .exact .inl (zS.q.lt g (h1.symm.trans hg)).2
  .right;have h2:=h1.symm.trans hg;simp at h2;omega
 have hgr:LF w l {l with na:=a',nn:=s.names.length+1,nc:=c'}:=⟨λg hg=>by
  rcases HA.q with h1|h1
  .exact .inl (h1.symm.trans hg)
  .right;have h2:=h1.symm.trans hg;simp at h2;omega,λg hg=> .inl hg⟩
 have adF:Hid (∀W',Same (λi=>i≠w.1.size+1) w2 W'->Bx W' (w.1.size+1) (bJ {l with na:=a',nn:=s.names.length+1,nc:=c'})->BD h l w0 w {l with na:=a',nn:=s.names.length+1,nc:=c'} (s.names++[x]) s.aG W'):=N (λW' hs hbx=>
  ⟨hs.bx hb0 ak,hbx,hs.bx hbr ak,HW.q.same hs (λg hg=>(hA1 g hg).1),Gl.same hs (λg hg=>by have:=(KM.q.lt g hg).2;simp;omega),hhn,λg hg=> .inl (KM.q.lt g hg).2,
   hs.below hbe (λi hi=>by have:=HB.q.size;simp;omega) hbe.size,⟨bX hsz.1 hs.size,λi hi h1 _=>(hs.block i (by simp;omega) (bM hi hsz.1)).trans (hsz.2 i hi h1)⟩,hgr,bX hz2 hs.size⟩)
 have hc2:=hb2.1;have yg:=N hbl;have uH:=N hbr;clear hbl hbr hg2 hA1 Gl hbe hsz hgr hb0 hb2 hz2 hhn;refine qC ?_;refine bC rfl rfl rfl (λK hK=>?_);go_simp;refine hK _ _ trivial ?_;clear hK K;refine aP ?_;go_wp2_with fail;have HST:=N (adF.q (w2.setCell ⟨w.1.size+1,1,F⟩ (C a' (s.names.length+1) c')) (Same.setTail (Same.refl' _) ak) (yg.q.bf 1 ak _));clear hc1 hf1 hl1 hc3 hf3 hl3 hc2 gB HS2 iW uf HA HG HW adF yC mZ;have hvl:l.vn=s.aG.length:=yH.q.2.2.2.2.2;have yD:=N hvl;clear hvl
 go_loopw [24] (λi wr=>∃(k:O)(na:Option Addr)(nc:O)(va:Option Addr)(vc:O),k<=pO/\i= H G k/\BD h l w0 w {l with na:=na,nn:=s.names.length+1+k,nc:=nc,va:=va,vn:=l.vn+k,vc:=vc} (s.names++[x]++(scan.take k).map (λq=>nameOf on q.obj)) (s.aG++(scan.take k).map (λq=>nk tn q.v)) wr) (λi _=>pO - (RowKit.intOf i).toNat)
 case atStart=>exact⟨0,a',c',l.va,l.vc,aZ _,rfl,by simpa using HST.q⟩
 case round=>
  obtain⟨k,na,nc,va,vc,hk,rfl,hsa⟩:=hrel;by_cases hlt:k<pO
  .obtain⟨q,qb,qo,hq,rfl,hqc⟩:=(xq.q.below hsa.be rfl).at_ hlt
   have hq0:=hqc 0 _ rfl;have hq1:=hqc 1 _ rfl;have hq2:=hqc 2 _ rfl;simp only[dM] at hq0;have adG:=HSC.q q (dP hq);simp only[jW,aO] at adG;obtain⟨hqo,hqv⟩:=adG;obtain⟨ho0,hon⟩:=nI hqo;obtain⟨⟨qt,qv⟩,hqe⟩:∃p:O × lK,q=⟨p.1,p.2⟩:=⟨(q.obj.toNat,q.v),by obtain⟨a,b⟩:=q;simp only at ho0 ⊢;rw[Int.toNat_of_nonneg ho0]⟩;subst hqe;simp only at hq0 hq1 hq2 hqv hon;have hqn:qt<h.o.n:=by omega
   obtain⟨y,yb,yo,hy,hyb,hyc⟩:=Xj.q.at_ hqn;have hyw:=hyc 0 _ rfl;simp only[gT,dM] at hyw;have ahY:=N (show yb<w0.1.size from dR hyw);have hyr:=bn hsa.be rfl hyw;have ahZ:Hid ((s.names++[x]++(scan.take k).map (λq=>nameOf on q.obj)).length=s.names.length+1+k):=by
    have hkl:k<=scan.length:=by rw[xq.q.len];omega
    exact N (by simp only[bL,bH,fE,qY hkl,dO,iy])
   have ah0:Hid ((s.aG++(scan.take k).map (λq=>nk tn q.v)).length=l.vn+k):=by
    have hkl:k<=scan.length:=by rw[xq.q.len];omega
    exact N (by simp only[bL,bH,fE,qY hkl];rw[yD.q])
   have ah1:Hid ((s.names++[x]++(scan.take k).map (λq=>nameOf on q.obj))++[y]=s.names++[x]++(scan.take (k+1)).map (λq=>nameOf on q.obj)):=by
    rw[jd,hq];exact N (by simp[oV hy])
   obtain⟨to,hto⟩:∃to,to=nk tn qv:=⟨_,rfl⟩;have ah2:Hid ((s.aG++(scan.take k).map (λq=>nk tn q.v))++[to]=s.aG++(scan.take (k+1)).map (λq=>nk tn q.v)):=by
    rw[jd,hq];exact N (by simp[hto])
   obtain⟨ns,hns⟩:∃ns,ns=(s.names++[x]++(scan.take k).map (λq=>nameOf on q.obj)):=⟨_,rfl⟩;obtain⟨vs,hvs⟩:∃vs,vs=(s.aG++(scan.take k).map (λq=>nk tn q.v)):=⟨_,rfl⟩;rw[<-hns] at ahZ ah1 hsa;rw[<-hvs] at ah0 ah2 hsa;have nZ:=N hsa;have HTO:=N hto;have HQV:=N hqv;obtain⟨ht,hs_,⟨oa,oo,oc⟩,Yc,Ye,Yf,Yg,Yh⟩:=h;simp only at hyb hqn;subst hyb;have hsz:=hsa.sz;clear hqc hq hqo ho0 hon hyc hyw hy hns hvs hsa hto hqv;have HYR:=N hyr;clear hyr;go_wp2_with fail;refine aC 19 [(0,0),(1,0),(2,0),(3,0),(4,0),(5,0),(6,0),(7,0),(8,0),(11,0),(12,0),(13,1),(14,1),(15,1),(9,2),(10,2),(19,1),(16,2),(17,2),(18,2),(20,2),(21,1),(22,2)] (λW'=>Bx W' w.1.size #[ht.v,hs_.v,C (I ⟨yb,yo,F⟩) oo oc,Yc.v,Ye.v,Yf.v,Yg.v,Yh.v]/\Bx W' wr.1.size #[H G qt,H G qv.t,H G qv.k]) (λW'=>Bx W' (w.1.size+1) (bJ {l with na:=na,nn:=s.names.length+1+k,nc:=nc,va:=va,vn:=l.vn+k,vc:=vc})/\W'.cell? ⟨yb,yo+qt,F⟩=I (.string ⟨y.toArray⟩)) ay ay (⟨nZ.q.b0.alloc _,Bx.new1 rfl⟩) (⟨nZ.q.b1.alloc _,bP _ HYR.q⟩) ?_;refine qC ?_;refine aF rfl rfl (λK hK=>?_);go_simp;refine hK _ _ ⟨⟨(nZ.q.b0.alloc _).alloc _,(Bx.new1 rfl).alloc _⟩,(nZ.q.b1.alloc _).alloc _,bP _ (bP _ HYR.q)⟩ ?_;clear hK K;refine aF rfl rfl (λK hK=>?_);refine lX _ _ 23 rfl i z 16 underlying23 HI.q.1 HI.q.2.1 HI.q.2.2.1 HI.q.2.2.2.1 HI.q.2.2.2.2 rfl ((((nZ.q.on.alloc _).alloc _).drew)) (I ⟨wr.1.size+1,0,F⟩) 1 1 (s.names.length+1+k+1) [y] rfl (Row.drew (Row.PO ak y)) (by rw[ahZ.q]) ah (by unfold maxLen;omega) (by have:=nZ.q.be.size;simp;omega) ?_;intro a' c' w2 hown2 hg2 vR;have h0:Bx w2 w.1.size #[ht.v,hs_.v,C (I ⟨yb,yo,F⟩) oo oc,Yc.v,Ye.v,Yf.v,Yg.v,Yh.v]:=by
    refine Bx.grown ?_ hg2 (nZ.q.pn 0 aj);exact((nZ.q.b0.alloc _).alloc _).drew
   have h1:Bx w2 (w.1.size+1) (bJ {l with na:=na,nn:=s.names.length+1+k,nc:=nc,va:=va,vn:=l.vn+k,vc:=vc}):=by
    refine Bx.grown ?_ hg2 (nZ.q.pn 1 aj);exact((nZ.q.b1.alloc _).alloc _).drew
   have h3:Bx w2 (w.1.size+3) #[H G 0,C F 0 0,H G 0,C F 0 0,.bool Z,H G 0]:=by
    refine Bx.grown ?_ hg2 (nZ.q.pn 3 aj);exact((nZ.q.b3.alloc _).alloc _).drew
   have h4:Bx w2 wr.1.size #[H G qt,H G qv.t,H G qv.k]:=by
    refine Bx.grown ?_ hg2 (λe=>by have:=(nZ.q.on.lt _ e).2;omega);exact((Bx.new1 rfl).alloc _).drew
   have h5:w2.cell? ⟨yb,yo+qt,F⟩=I (.string ⟨y.toArray⟩):=hg2.cell (bP _ (bP _ HYR.q)) (nZ.q.on.far (.inl ahY.q));have aa2:=N ((((nZ.q.ov.alloc _).alloc _).drew).grown hg2 (λg hg e=>(nZ.q.ov.apart nZ.q.on aj) g hg e));have LH:=N (below_app (aA (aA nZ.q.be _) _).drew (((nZ.q.on.alloc _).alloc _).drew) (aB _) (by have:=nZ.q.be.size;simp;omega) hg2);have Ed:Hid (wr.1.size+2<=w2.1.size/\∀i,i<w.1.size->I i≠(Value.slice l.na l.nn l.nc).ownBlock->I i≠(Value.slice l.va l.vn l.vc).ownBlock->w2.1[i]?=w.1[i]?):=N ⟨by have:=hg2.size;simpa using this,λi hi g1 g2=>(hg2.block i (by simp;omega) (λe=>by
    rcases nZ.q.gr.1 i e.symm with g3|g3
    .exact g1 g3.symm
    .omega)).trans ((Below.heap_alloc _ _ _ (by simp;omega)).trans ((Below.heap_alloc _ _ _ ah).trans (nZ.q.kw.block i hi g1 g2)))⟩
   have aa3:Hid (∀g,(Value.slice a' (s.names.length+1+k+1) c').ownBlock=I g->(g<w.1.size\/w.1.size+4<=g)/\((Value.slice l.na l.nn l.nc).ownBlock=I g\/w.1.size<=g)):=N (λg hg=>by
    rcases vR with g1|g1
    .exact⟨nZ.q.fn g (g1.symm.trans hg),nZ.q.gr.1 g (g1.symm.trans hg)⟩
    .have g2:=g1.symm.trans hg;simp at g2;omega)
   have HW2:=N hown2;have H0:=N h0;have H1:=N h1;have H3:=N h3;have H4:=N h4;have H5:=N h5;refine hK _ _ ⟨⟨h0,h4⟩,h1,h5⟩ ?_;clear hK K hown2 vR hg2 h0 h1 h3 h4 h5;refine qC ?_;refine aF rfl rfl (λK hK=>?_);go_simp;refine(IC ⟨ht,hs_,⟨I ⟨yb,yo,F⟩,oo,oc⟩,Yc,Ye,Yf,Yg,Yh⟩ qv tn _ (Dv.q.below LH.q rfl) (Qd HQV.q)).mono ?_;rintro en Y2 ⟨rfl,hbt⟩;rw[<-HTO.q];have mY:=N hbt;refine hK _ _ ⟨⟨H0.q.keep hbt,H4.q.keep hbt⟩,H1.q.keep hbt,bn hbt rfl H5.q⟩ ?_;clear hK K hbt;refine aF rfl rfl (λK hK=>?_);go_simp;refine hK _ _ ⟨⟨(H0.q.keep mY.q).alloc _,(H4.q.keep mY.q).alloc _⟩,(H1.q.keep mY.q).alloc _,bP _ (bn mY.q rfl H5.q)⟩ ?_;clear hK K;refine aF rfl rfl (λK hK=>?_);refine lX _ _ 64 rfl iv zv 24 underlying64 Qg.q.1 Qg.q.2.1 Qg.q.2.2.1 Qg.q.2.2.2.1 Qg.q.2.2.2.2 rfl (((aa2.q.below mY.q rfl).alloc _)) (I ⟨Y2.1.size,0,F⟩) 1 1 (l.vn+k+1) [to] rfl (Row.toN rfl to) (by rw[ah0.q]) (by have:=yD.q;omega) (by have:=yD.q;unfold maxLen;omega) (by have:=mY.q.size;have:=LH.q.size;simp;omega) ?_;intro a3 c3 w3 hown3 hg3 zY;have h0:Bx w3 w.1.size #[ht.v,hs_.v,C (I ⟨yb,yo,F⟩) oo oc,Yc.v,Ye.v,Yf.v,Yg.v,Yh.v]:=by
    refine Bx.grown ?_ hg3 (nZ.q.pv 0 aj);exact(H0.q.keep mY.q).alloc _
   have h1:Bx w3 (w.1.size+1) (bJ {l with na:=na,nn:=s.names.length+1+k,nc:=nc,va:=va,vn:=l.vn+k,vc:=vc}):=by
    refine Bx.grown ?_ hg3 (nZ.q.pv 1 aj);exact(H1.q.keep mY.q).alloc _
   have h3:Bx w3 (w.1.size+3) #[H G 0,C F 0 0,H G 0,C F 0 0,.bool Z,H G 0]:=by
    refine Bx.grown ?_ hg3 (nZ.q.pv 3 aj);exact(H3.q.keep mY.q).alloc _
   have h4:Bx w3 wr.1.size #[H G qt,H G qv.t,H G qv.k]:=by
    refine Bx.grown ?_ hg3 (λe=>by have:=(nZ.q.ov.lt _ e).2;omega);exact(H4.q.keep mY.q).alloc _
   have hs2:w2.1.size<=Y2.1.size:=mY.q.size;have Ew:=((HW2.q.below mY.q rfl).alloc (J #[.string ⟨to.name.toArray⟩,H G to.k] 144)).grown hg3 (λg hg e=>(HW2.q.apart aa2.q aj) g hg e);have aa4:Below w0.1.size w0 w3:=below_app ((LH.q.trans (mY.q.mono LH.q.size)).alloc (bX LH.q.size hs2) _) ((aa2.q.below mY.q rfl).alloc _) (aB _) (by have:=LH.q.size;simp;omega) hg3;have Vk:Kept w l w3:=⟨by have:=hg3.size;have:=Ed.q.1;simp at*;omega,λi hi g1 g2=>(hg3.block i (by have:=Ed.q.1;simp;omega) (λe=>by
    rcases nZ.q.gr.2 i e.symm with g3|g3
    .exact g2 g3.symm
    .omega)).trans ((Below.heap_alloc _ _ _ (by have:=Ed.q.1;omega)).trans ((mY.q.block i (by have:=Ed.q.1;omega)).trans (Ed.q.2 i hi g1 g2)))⟩
   have Vl:∀g,(Value.slice a3 (l.vn+k+1) c3).ownBlock=I g->(g<w.1.size\/w.1.size+4<=g)/\((Value.slice l.va l.vn l.vc).ownBlock=I g\/w.1.size<=g):=λg hg=>by
    rcases zY with g1|g1
    .exact⟨nZ.q.fv g (g1.symm.trans hg),nZ.q.gr.2 g (g1.symm.trans hg)⟩
    .have g2:=g1.symm.trans hg;have:=Ed.q.1;simp at g2;omega
   have ah4:w.1.size+4<=w3.1.size:=by have:=hg3.size;have:=Ed.q.1;simp at*;omega
   rw[ah1.q] at Ew;have aa5:=hown3;rw[ah2.q] at aa5;have NEXT:Hid (∀W',Same (λi=>i≠w.1.size+1) w3 W'->Bx W' (w.1.size+1) (bJ {l with na:=a',nn:=s.names.length+1+(k+1),nc:=c',va:=a3,vn:=l.vn+(k+1),vc:=c3})->BD ⟨ht,hs_,⟨I ⟨yb,yo,F⟩,oo,oc⟩,Yc,Ye,Yf,Yg,Yh⟩ l w0 w {l with na:=a',nn:=s.names.length+1+(k+1),nc:=c',va:=a3,vn:=l.vn+(k+1),vc:=c3} (s.names++[x]++(scan.take (k+1)).map (λq=>nameOf on q.obj)) (s.aG++(scan.take (k+1)).map (λq=>nk tn q.v)) W'):=N (λW' hs hbx=>
    ⟨hs.bx h0 ak,hbx,hs.bx h3 ak,Ew.same hs (λg hg=>by rcases(aa3.q g hg).1 with g1|g1 <;> simp <;> omega),aa5.same hs (λg hg=>by rcases(Vl g hg).1 with g1|g1 <;> simp <;> omega),λg hg=>(aa3.q g hg).1,λg hg=>(Vl g hg).1,
     hs.below aa4 (λi hi=>by have:=HB.q.size;simp;omega) aa4.size,⟨bX Vk.size hs.size,λi hi g1 g2=>(hs.block i (by simp;omega) (bM hi Vk.size)).trans (Vk.block i hi g1 g2)⟩,⟨λg hg=>(aa3.q g hg).2,λg hg=>(Vl g hg).2⟩,bX ah4 hs.size⟩)
   have yg:=N h1;have L6:=N h0;have H43:=N h4;have hc1:=h1.1;have hf1:=h1.2.1;have hl1:=h1.2.2;refine hK _ _ ⟨⟨h0,h4⟩,h1,hg3.cell (bP _ (bn mY.q rfl H5.q)) (nZ.q.ov.far (.inl ahY.q))⟩ ?_;clear hK K hown3 zY hg3 h0 h1 h3 h4 Ew aa5 aa4 Vk Vl ah4;refine bC rfl rfl rfl (λK hK=>?_);go_simp;refine hK _ _ ⟨L6.q.setOther _ _ _ ah,H43.q.setOther _ _ _ ah⟩ ?_;clear hK K;refine qC ?_;refine bC rfl rfl rfl (λK hK=>?_);go_simp;refine hK _ _ ⟨(L6.q.setOther _ _ _ ah).setOther _ _ _ ah,(H43.q.setOther _ _ _ ah).setOther _ _ _ ah⟩ ?_;clear hK K;refine aP ?_;go_wp2_with fail;go_roundw
   case rel=>exact⟨k+1,a',c',a3,c3,by omega,by go_num,NEXT.q _ (Same.setTail (Same.setTail (Same.refl' _) ak) ak) ((yg.q.bf 1 ak _).bf 3 ak _)⟩
   case measure=>simp[RowKit.intOf];omega
  .obtain rfl:k=pO:=by omega
   have htk:scan.take k=scan:=iH (by rw[xq.q.len];exact aB _);rw[htk] at hsa;have hc1:=hsa.b1.1;have hc3:=hsa.b3.1;have hf3:=hsa.b3.2.1;have hl3:=hsa.b3.2.2;have hns:s.names.length+1+k=(s.names++[x]++scan.map (λq=>nameOf on q.obj)).length:=by simp[xq.q.len];omega
   have hvs:l.vn+k=(s.aG++scan.map (λq=>nk tn q.v)).length:=by simp[xq.q.len,yD.q]
   have FIN:Hid (∀W',Same (λi=>i≠w.1.size+3) wr W'->zU w0 w l {s with names:=s.names++[x]++scan.map (λq=>nameOf on q.obj),aG:=s.aG++scan.map (λq=>nk tn q.v)} (.returned (dY {l with na:=na,nn:=s.names.length+1+k,nc:=nc,va:=va,vn:=l.vn+k,vc:=vc})) W'):=N (λW' hs=>
    ⟨_,rfl,⟨⟨yH.q.1,yH.q.2.1,yH.q.2.2.1,yH.q.2.2.2.1,hns,hvs⟩,hsa.on.same hs (λg hg=>λe=>hsa.pn 3 aj (e▸hg)),hsa.ov.same hs (λg hg=>λe=>hsa.pv 3 aj (e▸hg))⟩,
     hs.below hsa.be (λi hi=>by have:=HB.q.size;simp;omega) hsa.be.size,⟨bX hsa.kw.size hs.size,λi hi h1 h2=>(hs.block i (by simp;omega) (bM hi hsa.kw.size)).trans (hsa.kw.block i hi h1 h2)⟩,hsa.gr⟩)
   clear hsa htk hns hvs;go_wp2_with fail;refine bodyPost_ret (v:=dY {l with na:=na,nn:=s.names.length+1+k,nc:=nc,va:=va,vn:=l.vn+k,vc:=vc}) (by simp[results,results52,go_sem,hc3]) rfl (FIN.q _ ?_)
   repeat(first|(refine Same.setTail ?_ ak)|(with_reducible exact Same.refl' _))
def x9 (on tn:S Bs)(x:aM)(ds:S Int):aH:=⟨7,[nameOf on x.obj]++ds.map (nameOf tn),0,[],Z,0⟩
def yc (pn on tn:S Bs)(x:aN)(ds:S Int):aH:=⟨8,[nameOf pn x.pred,nameOf on x.obj]++ds.map (nameOf tn),0,[],x.first,0⟩
def AB (sn:S Bs)(x:Wa):aH:=⟨9,[nameOf sn x.bW],0,[],Z,x.bits⟩
theorem Own.strs {X:U}{g:O}(h:X.1.size=g)(l:S Bs)(hl:l.length<=maxLen):Own (X.alloc (J (l.map (λs=>Value.string ⟨s.toArray⟩)).toArray 9)) g 9 1 encStr (C (I ⟨g,0,F⟩) l.length l.length) l:=by
 subst h;exact Own.new (hc:=ku) X X.1.size 9 _ l (aB _) (by
  show l.map (λs=>Value.string ⟨s.toArray⟩)=l.flatMap encStr
  induction l with
  |nil=>rfl
  |cons a l ih=>rw[eu,gY,ih (by simp at hl;omega)];rfl) hl
theorem agy (h:HC)(on tn:S Bs)(x:aM)(ds:S Int)(b1:O)(w:U)(hH:Bx w b1 (aD h))(hro:Row w 1 encStr h.o.a h.o.n h.o.c on)(hrt:Row w 1 encStr h.t.a h.t.n h.t.c tn)(hrs:Row w 1 aX x.sa x.sn x.sc ds)(hds:eZ h.t.n ds=true)(hxo:aV x.obj h.o.n=true):
  Calls Tryz.prog 55 #[za x,.pointer (I ⟨b1,0,F⟩)] w (wC (x9 on tn x ds) w):=by
 obtain⟨hko,hno⟩:=nI hxo;obtain⟨ko,Jz⟩:∃kk:O,x.obj=kk:=⟨x.obj.toNat,by omega⟩;obtain⟨yo,bo,oo,Yi,Qh,hco⟩:=hro.at_ (i:=ko) ah;have JA:=hco 0 _ rfl;simp only[gT,dM] at JA;have aa6:=N JA;have hlo:ko<h.o.n:=by omega
 have aa7:=hro.le;rw[show x9 on tn x ds=⟨7,[yo]++ds.map (nameOf tn),0,[],Z,0⟩ by simp[x9,Jz,oV Yi]];simp only[eZ,aO,aW,fA] at hds;have Dv:=N hrt;have xq:=N hrs;have Yj:=N hds;have hdl:=hds.1;have hdn:=hrs.len;have Yk:Hid (x.sn<=300):=N ah;have HH:=N hH;have hblt:=hH.2.2;obtain⟨obj,sa,sn,sc⟩:=x;simp only at Jz xq Yk;subst Jz;obtain⟨ht,hs,⟨qo,no,co⟩,hp,he,hd,hm,hw⟩:=h;simp only at Qh hlo aa7 HH Dv Yj;subst Qh;clear hH hko hno Yi hco hro hxo JA hrt hrs hds hdl hdn;go_enter func55,ntmps55;go_wp2_with fail;have Ad:Bx ((w.alloc (J #[H G ko,C sa sn sc] 79)).alloc (J #[H G 0,C F 0 0,H G 0,C F 0 0,.bool Z,H G 0] 66)) b1 #[ht.v,hs.v,C (I ⟨bo,oo,F⟩) no co,hp.v,he.v,hd.v,hm.v,hw.v]:=(HH.q.alloc _).alloc _;have Ae:Bx ((w.alloc (J #[H G ko,C sa sn sc] 79)).alloc (J #[H G 0,C F 0 0,H G 0,C F 0 0,.bool Z,H G 0] 66)) w.1.size #[H G ko,C sa sn sc]:=(Bx.new1 rfl).alloc _;have Af:Bx ((w.alloc (J #[H G ko,C sa sn sc] 79)).alloc (J #[H G 0,C F 0 0,H G 0,C F 0 0,.bool Z,H G 0] 66)) (w.1.size+1) #[H G 0,C F 0 0,H G 0,C F 0 0,.bool Z,H G 0]:=Bx.new1 ak;have hco:((w.alloc (J #[H G ko,C sa sn sc] 79)).alloc (J #[H G 0,C F 0 0,H G 0,C F 0 0,.bool Z,H G 0] 66)).cell? ⟨bo,oo+ko,F⟩=I (.string ⟨yo.toArray⟩):=bP _ (bP _ aa6.q);have Ag:Below w.1.size w ((w.alloc (J #[H G ko,C sa sn sc] 79)).alloc (J #[H G 0,C F 0 0,H G 0,C F 0 0,.bool Z,H G 0] 66)):=aA (aA (Below.refl _ _) _) _;have Ah:((w.alloc (J #[H G ko,C sa sn sc] 79)).alloc (J #[H G 0,C F 0 0,H G 0,C F 0 0,.bool Z,H G 0] 66)).1.size=w.1.size+2:=by simp
 revert Ad Ae Af hco Ag Ah;generalize((w.alloc (J #[H G ko,C sa sn sc] 79)).alloc (J #[H G 0,C F 0 0,H G 0,C F 0 0,.bool Z,H G 0] 66))=V;intro Ad Ae Af hco Ag Ah;have uV:=N Ah;clear Ah;have IG:=N Ag;have HB1:=N Ad;have fQ:=N Ae;have uH:=N Af;have Qi:=N hco;clear Ad Ae Af Ag hco;refine aC 13 [(0,0),(1,0),(2,0),(3,0),(4,0),(5,0),(6,0),(7,0),(8,0),(9,0),(10,2),(11,2),(12,0),(13,2)] (λ_=>True) (λW'=>Bx W' b1 #[ht.v,hs.v,C (I ⟨bo,oo,F⟩) no co,hp.v,he.v,hd.v,hm.v,hw.v]/\Bx W' w.1.size #[H G ko,C sa sn sc]/\W'.cell? ⟨bo,oo+ko,F⟩=I (.string ⟨yo.toArray⟩)) ay ay (trivial) (⟨HB1.q.drew,fQ.q.drew,Qi.q⟩) ?_;refine qC ?_;refine aF rfl rfl (λK hK=>?_);go_simp;refine hK _ _ ⟨trivial,HB1.q.drew.alloc _,fQ.q.drew.alloc _,bP _ Qi.q⟩ ?_;clear hK K;refine aF rfl rfl (λK hK=>?_);go_simp;refine(O4 ⟨ht,hs,⟨I ⟨bo,oo,F⟩,no,co⟩,hp,he,hd,hm,hw⟩ tn sa sn sc ds (I ⟨V.1.size,0,F⟩) 1 [yo] V.drew _ (aA (Below.refl V.drew.1.size V.drew) (J #[.string ⟨yo.toArray⟩] 9)) ((xq.q.below IG.q rfl).drew) ((Dv.q.below IG.q rfl).drew) Yj.q.2 (Own.strs (X:=V.drew) rfl [yo] (by simp[maxLen])) (by have:=Yk.q;simp;omega)).mono ?_;rintro en w2 ⟨a',c',rfl,hown,hb2⟩;have HB2:=N hb2;have HOW:=N hown;have BF:=uH.q.drew.keep hb2;have hc3:=BF.1;have hf3:=BF.2.1;have hl3:=BF.2.2;refine hK _ _ ⟨trivial,HB1.q.drew.keep hb2,fQ.q.drew.keep hb2,bn hb2 rfl Qi.q⟩ ?_;have FM:=N BF;clear hK K hb2 hown BF;refine qC ?_;refine bC rfl rfl rfl (λK hK=>?_);go_simp;refine hK _ _ trivial ?_;clear hK K;refine aP ?_;have hown':Own w2 V.1.size 9 1 encStr (C a' (ds.length+1) c') ([yo]++ds.map (nameOf tn)):=by
  have h1:=HOW.q;have h2:([yo]++ds.map (nameOf tn)).length=ds.length+1:=by simp
  rw[h2] at h1;exact h1
 have JB:Below w.1.size w w2:=IG.q.drew.trans (HB2.q.mono IG.q.size);have hle2:V.1.size<=w2.1.size:=HB2.q.size;have FIN:Hid (∀W',Same (λi=>i≠w.1.size+1) w2 W'->wC ⟨7,[yo]++ds.map (nameOf tn),0,[],Z,0⟩ w (.returned (dY ⟨7,a',ds.length+1,c',0,F,0,0,Z,0⟩)) W'):=N (λW' hs=>
  ⟨_,rfl,⟨⟨rfl,rfl,rfl,rfl,by simp,rfl⟩,(hown'.same hs (λg hg=>by have:=(hown'.lt g hg).1;have:=uV.q;simp;omega)).mono (by have:=uV.q;omega),Own.jY _ _ _ _ _⟩,hs.below JB (λi hi=>by simp;omega) JB.size⟩)
 clear hown' JB hle2;go_wp2_with fail;refine bodyPost_ret (v:=dY ⟨7,a',ds.length+1,c',0,F,0,0,Z,0⟩) (by simp[results,results55,go_sem,hc3]) rfl (FIN.q _ ?_)
 repeat(first|(refine Same.setTail ?_ ak)|(refine Same.nQ ?_)|(with_reducible exact Same.refl' _))
theorem agA (h:HC)(sn:S Bs)(x:Wa)(b1:O)(w:U)(hH:Bx w b1 (aD h))(hrs:Row w 1 encStr h.s.a h.s.n h.s.c sn)(hxs:aV x.bW h.s.n=true):
  Calls Tryz.prog 57 #[zf x,.pointer (I ⟨b1,0,F⟩)] w (wC (AB sn x) w):=by
 obtain⟨hks,hns⟩:=nI hxs;obtain⟨ks,aa8⟩:∃kk:O,x.bW=kk:=⟨x.bW.toNat,by omega⟩;obtain⟨ys,bs,os,hys,habs,hcs⟩:=hrs.at_ (i:=ks) ah;have aa9:=hcs 0 _ rfl;simp only[gT,dM] at aa9;have aol:=N aa9;have hls:ks<h.s.n:=by omega
 have aom:=hrs.le;rw[show AB sn x=⟨9,[ys],0,[],Z,x.bits⟩ by simp[AB,aa8,oV hys]];have HH:=N hH;have hblt:=hH.2.2;obtain⟨bW,bits⟩:=x;simp only at aa8;subst aa8;obtain⟨ht,⟨qs,ns,cs⟩,ho,hp,he,hd,hm,hw⟩:=h;simp only at habs hls aom HH;subst habs;clear hH hks hns hys hcs hrs hxs aa9;go_enter func57,ntmps57;go_wp2_with fail;have Ad:Bx ((w.alloc (J #[H G ks,H G bits] 88)).alloc (J #[H G 0,C F 0 0,H G 0,C F 0 0,.bool Z,H G 0] 66)) b1 #[ht.v,C (I ⟨bs,os,F⟩) ns cs,ho.v,hp.v,he.v,hd.v,hm.v,hw.v]:=(HH.q.alloc _).alloc _;have Ae:Bx ((w.alloc (J #[H G ks,H G bits] 88)).alloc (J #[H G 0,C F 0 0,H G 0,C F 0 0,.bool Z,H G 0] 66)) w.1.size #[H G ks,H G bits]:=(Bx.new1 rfl).alloc _;have Af:Bx ((w.alloc (J #[H G ks,H G bits] 88)).alloc (J #[H G 0,C F 0 0,H G 0,C F 0 0,.bool Z,H G 0] 66)) (w.1.size+1) #[H G 0,C F 0 0,H G 0,C F 0 0,.bool Z,H G 0]:=Bx.new1 ak;have hcs:((w.alloc (J #[H G ks,H G bits] 88)).alloc (J #[H G 0,C F 0 0,H G 0,C F 0 0,.bool Z,H G 0] 66)).cell? ⟨bs,os+ks,F⟩=I (.string ⟨ys.toArray⟩):=bP _ (bP _ aol.q);have Ag:Below w.1.size w ((w.alloc (J #[H G ks,H G bits] 88)).alloc (J #[H G 0,C F 0 0,H G 0,C F 0 0,.bool Z,H G 0] 66)):=aA (aA (Below.refl _ _) _) _;have Ah:((w.alloc (J #[H G ks,H G bits] 88)).alloc (J #[H G 0,C F 0 0,H G 0,C F 0 0,.bool Z,H G 0] 66)).1.size=w.1.size+2:=by simp
 have uV:=N Ah;clear Ah;have IG:=N Ag;have HB1:=N Ad;have fQ:=N Ae;have uH:=N Af;have HCs:=N hcs;clear Ad Ae Af Ag hcs;refine aC 11 [(0,0),(1,0),(2,0),(3,0),(4,0),(5,0),(6,0),(8,0),(9,0),(7,2),(10,0),(11,2)] (λ_=>True) (λW'=>Bx W' b1 #[ht.v,C (I ⟨bs,os,F⟩) ns cs,ho.v,hp.v,he.v,hd.v,hm.v,hw.v]/\Bx W' w.1.size #[H G ks,H G bits]/\W'.cell? ⟨bs,os+ks,F⟩=I (.string ⟨ys.toArray⟩)) ay ay (trivial) (⟨HB1.q.drew,fQ.q.drew,HCs.q⟩) ?_;refine qC ?_;refine aF rfl rfl (λK hK=>?_);go_simp;refine hK _ _ ⟨trivial,HB1.q.drew.alloc _,fQ.q.drew.alloc _,bP _ HCs.q⟩ ?_;clear hK K;refine qC ?_;refine bC rfl rfl rfl (λK hK=>?_);go_simp;refine hK _ _ trivial ?_;clear hK K;refine aP ?_;go_wp2_with fail;refine bodyPost_ret (v:=dY ⟨9,(I ⟨w.1.size+2,0,F⟩),1,1,0,F,0,0,Z,bits⟩) (by simp[results,results57,go_sem]) rfl ⟨_,rfl,⟨⟨rfl,rfl,rfl,rfl,rfl,rfl⟩,?_,Own.jY _ _ _ _ _⟩,?_⟩
 .exact((Own.strs ak [ys] (by simp[maxLen])).drew).mono ah
 .exact(aA (aA (aA (Below.refl _ _) _) _) _).drew
theorem agz (h:HC)(pn on tn:S Bs)(x:aN)(ds:S Int)(b1:O)(w:U)(hH:Bx w b1 (aD h))(um:Row w 1 encStr h.p.a h.p.n h.p.c pn)(hro:Row w 1 encStr h.o.a h.o.n h.o.c on)(hrt:Row w 1 encStr h.t.a h.t.n h.t.c tn)(hrs:Row w 1 aX x.sa x.sn x.sc ds)(hds:eZ h.t.n ds=true)(hxp:aV x.pred h.p.n=true)(hxo:aV x.obj h.o.n=true):
  Calls Tryz.prog 56 #[ze x,.pointer (I ⟨b1,0,F⟩)] w (wC (yc pn on tn x ds) w):=by
 obtain⟨hkp,hnp⟩:=nI hxp;obtain⟨kp,aa'⟩:∃kk:O,x.pred=kk:=⟨x.pred.toNat,by omega⟩;obtain⟨yp,bp,op,hyp,ah5,hcp⟩:=um.at_ (i:=kp) ah;have abb:=hcp 0 _ rfl;simp only[gT,dM] at abb;have aon:=N abb;have hlp:kp<h.p.n:=by omega
 have aoo:=um.le;obtain⟨hko,hno⟩:=nI hxo;obtain⟨ko,Jz⟩:∃kk:O,x.obj=kk:=⟨x.obj.toNat,by omega⟩;obtain⟨yo,bo,oo,Yi,Qh,hco⟩:=hro.at_ (i:=ko) ah;have JA:=hco 0 _ rfl;simp only[gT,dM] at JA;have aa6:=N JA;have hlo:ko<h.o.n:=by omega
 have aa7:=hro.le;rw[show yc pn on tn x ds=⟨8,[yp,yo]++ds.map (nameOf tn),0,[],x.first,0⟩ by simp[yc,aa',oV hyp,Jz,oV Yi]];simp only[eZ,aO,aW,fA] at hds;have Dv:=N hrt;have xq:=N hrs;have Yj:=N hds;have hdl:=hds.1;have hdn:=hrs.len;have Yk:Hid (x.sn<=300):=N ah;have HH:=N hH;have hblt:=hH.2.2;obtain⟨pred,obj,first,sa,sn,sc⟩:=x;simp only at aa' Jz xq Yk;subst aa';subst Jz;obtain⟨ht,hs,⟨qo,no,co⟩,⟨qp,np,cp⟩,he,hd,hm,hw⟩:=h;simp only at ah5 hlp aoo Qh hlo aa7 HH Dv Yj;subst ah5;subst Qh;clear hH hkp hnp hyp hcp um hxp abb hko hno Yi hco hro hxo JA hrt hrs hds hdl hdn;go_enter func56,ntmps56;go_wp2_with fail;have Ad:Bx ((w.alloc (J #[H G kp,H G ko,.bool first,C sa sn sc] 84)).alloc (J #[H G 0,C F 0 0,H G 0,C F 0 0,.bool Z,H G 0] 66)) b1 #[ht.v,hs.v,C (I ⟨bo,oo,F⟩) no co,C (I ⟨bp,op,F⟩) np cp,he.v,hd.v,hm.v,hw.v]:=(HH.q.alloc _).alloc _;have Ae:Bx ((w.alloc (J #[H G kp,H G ko,.bool first,C sa sn sc] 84)).alloc (J #[H G 0,C F 0 0,H G 0,C F 0 0,.bool Z,H G 0] 66)) w.1.size #[H G kp,H G ko,.bool first,C sa sn sc]:=(Bx.new1 rfl).alloc _;have Af:Bx ((w.alloc (J #[H G kp,H G ko,.bool first,C sa sn sc] 84)).alloc (J #[H G 0,C F 0 0,H G 0,C F 0 0,.bool Z,H G 0] 66)) (w.1.size+1) #[H G 0,C F 0 0,H G 0,C F 0 0,.bool Z,H G 0]:=Bx.new1 ak;have hcp:((w.alloc (J #[H G kp,H G ko,.bool first,C sa sn sc] 84)).alloc (J #[H G 0,C F 0 0,H G 0,C F 0 0,.bool Z,H G 0] 66)).cell? ⟨bp,op+kp,F⟩=I (.string ⟨yp.toArray⟩):=bP _ (bP _ aon.q);have hco:((w.alloc (J #[H G kp,H G ko,.bool first,C sa sn sc] 84)).alloc (J #[H G 0,C F 0 0,H G 0,C F 0 0,.bool Z,H G 0] 66)).cell? ⟨bo,oo+ko,F⟩=I (.string ⟨yo.toArray⟩):=bP _ (bP _ aa6.q);have Ag:Below w.1.size w ((w.alloc (J #[H G kp,H G ko,.bool first,C sa sn sc] 84)).alloc (J #[H G 0,C F 0 0,H G 0,C F 0 0,.bool Z,H G 0] 66)):=aA (aA (Below.refl _ _) _) _;have Ah:((w.alloc (J #[H G kp,H G ko,.bool first,C sa sn sc] 84)).alloc (J #[H G 0,C F 0 0,H G 0,C F 0 0,.bool Z,H G 0] 66)).1.size=w.1.size+2:=by simp
 revert Ad Ae Af hcp hco Ag Ah;generalize((w.alloc (J #[H G kp,H G ko,.bool first,C sa sn sc] 84)).alloc (J #[H G 0,C F 0 0,H G 0,C F 0 0,.bool Z,H G 0] 66))=V;intro Ad Ae Af hcp hco Ag Ah;have uV:=N Ah;clear Ah;have IG:=N Ag;have HB1:=N Ad;have fQ:=N Ae;have uH:=N Af;have HCp:=N hcp;have Qi:=N hco;clear Ad Ae Af Ag hcp hco;refine aC 22 [(0,0),(1,0),(2,0),(3,0),(4,0),(5,0),(6,0),(7,0),(8,0),(9,0),(10,0),(11,0),(12,0),(13,0),(14,0),(15,0),(16,0),(17,0),(18,0),(19,2),(20,2),(21,0),(22,2)] (λ_=>True) (λW'=>Bx W' b1 #[ht.v,hs.v,C (I ⟨bo,oo,F⟩) no co,C (I ⟨bp,op,F⟩) np cp,he.v,hd.v,hm.v,hw.v]/\Bx W' w.1.size #[H G kp,H G ko,.bool first,C sa sn sc]/\W'.cell? ⟨bp,op+kp,F⟩=I (.string ⟨yp.toArray⟩)/\W'.cell? ⟨bo,oo+ko,F⟩=I (.string ⟨yo.toArray⟩)) ay ay (trivial) (⟨HB1.q.drew,fQ.q.drew,HCp.q,Qi.q⟩) ?_;refine qC ?_;refine aF rfl rfl (λK hK=>?_);go_simp;refine hK _ _ ⟨trivial,HB1.q.drew.alloc _,fQ.q.drew.alloc _,bP _ HCp.q,bP _ Qi.q⟩ ?_;clear hK K;refine aF rfl rfl (λK hK=>?_);go_simp;refine(O4 ⟨ht,hs,⟨I ⟨bo,oo,F⟩,no,co⟩,⟨I ⟨bp,op,F⟩,np,cp⟩,he,hd,hm,hw⟩ tn sa sn sc ds (I ⟨V.1.size,0,F⟩) 2 [yp,yo] V.drew _ (aA (Below.refl V.drew.1.size V.drew) (J #[.string ⟨yp.toArray⟩,.string ⟨yo.toArray⟩] 9)) ((xq.q.below IG.q rfl).drew) ((Dv.q.below IG.q rfl).drew) Yj.q.2 (Own.strs (X:=V.drew) rfl [yp,yo] (by simp[maxLen])) (by have:=Yk.q;simp;omega)).mono ?_;rintro en w2 ⟨a',c',rfl,hown,hb2⟩;have HB2:=N hb2;have HOW:=N hown;have BF:=uH.q.drew.keep hb2;have hc3:=BF.1;have hf3:=BF.2.1;have hl3:=BF.2.2;refine hK _ _ ⟨trivial,HB1.q.drew.keep hb2,fQ.q.drew.keep hb2,bn hb2 rfl HCp.q,bn hb2 rfl Qi.q⟩ ?_;have FM:=N BF;clear hK K hb2 hown BF;refine qC ?_;refine bC rfl rfl rfl (λK hK=>?_);go_simp;refine hK _ _ trivial ?_;clear hK K;refine aP ?_;have hown':Own w2 V.1.size 9 1 encStr (C a' (ds.length+2) c') ([yp,yo]++ds.map (nameOf tn)):=by
  have h1:=HOW.q;have h2:([yp,yo]++ds.map (nameOf tn)).length=ds.length+2:=by simp
  rw[h2] at h1;exact h1
 have JB:Below w.1.size w w2:=IG.q.drew.trans (HB2.q.mono IG.q.size);have hle2:V.1.size<=w2.1.size:=HB2.q.size;have FIN:Hid (∀W',Same (λi=>i≠w.1.size+1) w2 W'->wC ⟨8,[yp,yo]++ds.map (nameOf tn),0,[],first,0⟩ w (.returned (dY ⟨8,a',ds.length+2,c',0,F,0,0,first,0⟩)) W'):=N (λW' hs=>
  ⟨_,rfl,⟨⟨rfl,rfl,rfl,rfl,by simp,rfl⟩,(hown'.same hs (λg hg=>by have:=(hown'.lt g hg).1;have:=uV.q;simp;omega)).mono (by have:=uV.q;omega),Own.jY _ _ _ _ _⟩,hs.below JB (λi hi=>by simp;omega) JB.size⟩)
 clear hown' JB hle2;go_wp2_with fail;refine bodyPost_ret (v:=dY ⟨8,a',ds.length+2,c',0,F,0,0,first,0⟩) (by simp[results,results56,go_sem,hc3]) rfl (FIN.q _ ?_)
 repeat(first|(refine Same.setTail ?_ ak)|(refine Same.nQ ?_)|(with_reducible exact Same.refl' _))
def qj (b:Int):O->S Bs
 |0=>[]
 |j+1=>qj b j++if b / 2 ^ j % 2=1 then [lg j] else []
def oW (b:Int):S Bs:=qj b 4
theorem II (b:Int):∀j,(qj b j).length<=j
 |0=>aB _
 |j+1=>by
  have:=II b j;simp only[qj,bL]
  split <;> simp <;> omega
theorem IJ {b:Int}{x:Bs}:∀{j:O},x∈qj b j->∃i,x=lg i
 |0,h=>by simp[qj] at h
 |j+1,h=>by
  simp only[qj,dm] at h;rcases h with h|h
  .exact IJ h
  .split at h
   .exact⟨j,by simpa using h⟩
   .cases h
def iE (s:aH):S Bs:=
 let k:=s.kind.toNat
 let fn:=(bS k).toNat
 let r:=dG k
 bB k::s.names.take fn++
  ((if r=108 then [kG s.lvl.toNat] else if r=118 then s.aG.take 1|>.map gq else if r=103 then oW s.bits else if r=109/\s.first=true then [[45]] else [])++
  if r=115 then(s.names.drop fn).zip s.aG|>.flatMap (λp=>[p.1,gq p.2]) else s.names.drop fn)
def jL (s:aH):Bs:=Lib.join (iE s) [32]++[10]
theorem Row.takeN {α:Type}{enc:α->S Value}{w:U}{k:O}{b o n c:O}{xs:S α}(h:Row w k enc (I ⟨b,o,F⟩) n c xs){m c':O}(hm:m<=n)(hc:m<=c'):Row w k enc (I ⟨b,o,F⟩) m c' (xs.take m):=by
 refine⟨by rw[fE,h.len];omega,hc,bX hm h.le,λh=>(by cases h),λi x hx=>?_⟩;rw[AO] at hx
 split at hx
 .exact h.2.2.2.2 i x hx
 .cases hx
theorem Own.len {α:Type}{enc:α->S Value}{w:U}{B k n c:O}{E:TypeId}{a:Option Addr}{xs:S α}(h:Own w B E k enc (C a n c) xs):n=xs.length:=by
 obtain⟨a',c',e,_⟩:=h.shape;injection e
structure uW (w w1:U)(c0 c1:Array Value)(X:U)(a:Option Addr)(n c:O)(ws:S Bs):Prop where
 x:Bx X w.1.size c0
 y:Bx X w1.1.size c1
 o:Own X (w1.1.size+1) 9 1 encStr (C a n c) ws
 b:Below w.1.size w X
 s:w1.1.size+1<=X.1.size
theorem uW.snoc {w w1 X X':U}{c0 c1:Array Value}{a a':Option Addr}{n c c':O}{ws:S Bs}{s:Bs}(h:uW w w1 c0 c1 X a n c ws)(hlt:w.1.size<w1.1.size)
  (hown:Own X' (w1.1.size+1) 9 1 encStr (C a' (n+1) c') (ws++[s])) (hg:(X.alloc (J #[.string ⟨s.toArray⟩] 9)).grownBy X' (Value.slice a n c).ownBlock):uW w w1 c0 c1 X' a' (n+1) c' (ws++[s]):=
 ⟨(h.x.alloc _).grown hg (λe=>by have:=(h.o.lt _ e).1;omega),(h.y.alloc _).grown hg (λe=>by have:=(h.o.lt _ e).1;omega),hown,
  below_app (h.b.alloc h.b.size _) (h.o.alloc _) ah (by have:=h.s;simp;omega) hg,by have:=hg.size;have:=h.s;simp at*;omega⟩
theorem uW.call {w w1 X X':U}{c0 c1:Array Value}{a:Option Addr}{n c:O}{ws:S Bs}(h:uW w w1 c0 c1 X a n c ws)(hb:Below X.1.size X X'):uW w w1 c0 c1 X' a n c ws:=
 ⟨h.x.keep hb,h.y.keep hb,h.o.below hb rfl,h.b.trans (hb.mono h.b.size),bX h.s hb.size⟩
theorem En (ws:S Bs)(h:∀x∈ws,x.length<=40):(Lib.join ws [32]).length<=41*ws.length:=by
 show([32].intercalate ws:Bs).length<=_
 induction ws with
 |nil=>simp
 |cons a l ih=>
  have h1:=h a fM;have h2:=ih (λx hx=>h x (eD _ hx))
  cases l with
  |nil=>simp;omega
  |cons b r=>
   rw[List.intercalate_cons_cons];simp only[bL,dO,iy] at*;omega
theorem aaP (a:Option Addr)(n c:O)(ws:S Bs)(w:U)(hr:Row w 1 encStr a n c ws)(hn:0<n)(hw:∀x∈ws,x.length<=40)(hl:n<=100000):
  Calls Tryz.prog 65 #[C a n c,.string ⟨#[32]⟩] w (dw (.string ⟨(Lib.join ws [32]).toArray⟩) w):=by
 obtain⟨_,b,o,_,rfl,hc⟩:=hr.at_ hn;have hlen:=hr.len;subst hlen;have hm:(ws.map (λs=>(⟨s.toArray⟩:ByteArray))).map (·.data.toList)=ws:=by
  rw[iV]
  conv=>rhs;rw[<-List.map_id ws]
  exact ni (λx _=>rfl)
 have hj:=En ws hw;have hbk:b<w.1.size:=by
  have:=hc 0 _ rfl;exact dR this
 have:=Tryz.strings_Join b o c (ws.map (λs=>(⟨s.toArray⟩:ByteArray))) ⟨#[32]⟩ w (λj x hx=>by
  rw[ug] at hx
  cases hy:ws[j]? with
  |none=>rw[hy] at hx;cases hx
  |some y=>
   rw[hy] at hx;simp only[Option.map_some,Option.some.injEq] at hx;subst hx;obtain⟨_,b',o',hx',hab,hc'⟩:=hr.at_ (i:=j) (bO.1 hy).1
   cases hab
   rw[hy] at hx';cases hx';have:=hc' 0 _ rfl
   rwa[gT,dM] at this) hbk (by rw[bH];omega) (by rw[bH];exact hr.cap) (by rw[hm];show(Lib.join ws [32]).length<=_;omega)
 rw[hm,bH] at this;exact this
theorem Qj {t:To}(h:j5 t):(gq t).length<=40:=by
 unfold gq;rcases h with rfl|⟨h1,h2,h3⟩
 .decide
 .rw[au ah]
  have:=wZ h1;have:=Jy 3 t.k.toNat ah;simp;omega
theorem XO {t:To}(h:j5 t):0<=t.k/\t.k<=999/\t.name.length<=100000:=by
 rcases h with rfl|⟨h1,h2,h3⟩
 .decide
 .have:=wZ h1
  exact⟨by omega,h3,by omega⟩
theorem Yl (i:O):(kG i).length<=40:=by unfold kG;split <;> decide
theorem abd (i:O):(bB i).length<=40:=by unfold bB;split <;> decide
theorem Ym (i:O):(lg i).length<=40:=by unfold lg;split <;> decide
theorem Gh (s:aH)(hn:∀x∈s.names,bF ⟨x.toArray⟩=true)(hv:∀t∈s.aG,j5 t):∀x∈iE s,x.length<=40:=by
 have hn':∀x∈s.names,x.length<=40:=λx hx=>by have:=wZ (hn x hx);omega
 intro x hx;simp only[iE,fu,dU,dm] at hx;rcases hx with rfl|hx|hx|hx
 .exact abd _
 .exact hn' x (Hq hx)
 .split at hx
  .simp only[bT] at hx;subst hx;exact Yl _
  .split at hx
   .obtain⟨t,ht,rfl⟩:=dI.1 hx
    exact Qj (hv t (Hq ht))
   .split at hx
    .obtain⟨i,rfl⟩:=IJ hx
     exact Ym _
    .split at hx
     .simp only[bT] at hx;subst hx;decide
     .cases hx
 .split at hx
  .obtain⟨p,hp,hx⟩:=lH.1 hx
   obtain⟨h1,h2⟩:=G5 hp;simp only[dU,Hl,or_false] at hx;rcases hx with rfl|rfl
   .exact hn' _ (AP h1)
   .exact Qj (hv _ h2)
  .exact hn' x (AP hx)
theorem aaK (W:U):(Instr.index 145 (.agg #[.string ⟨#[114,121,119]⟩,.string ⟨#[109,114]⟩,.string ⟨#[109,119]⟩,.string ⟨#[119,102,114]⟩]) (H G 0)).run Tryz.prog W= .ok (.string ⟨#[114,121,119]⟩) W:=ay
theorem aaL (W:U):(Instr.index 145 (.agg #[.string ⟨#[114,121,119]⟩,.string ⟨#[109,114]⟩,.string ⟨#[109,119]⟩,.string ⟨#[119,102,114]⟩]) (H G 1)).run Tryz.prog W= .ok (.string ⟨#[109,114]⟩) W:=ay
theorem aaM (W:U):(Instr.index 145 (.agg #[.string ⟨#[114,121,119]⟩,.string ⟨#[109,114]⟩,.string ⟨#[109,119]⟩,.string ⟨#[119,102,114]⟩]) (H G 2)).run Tryz.prog W= .ok (.string ⟨#[109,119]⟩) W:=ay
theorem aaN (W:U):(Instr.index 145 (.agg #[.string ⟨#[114,121,119]⟩,.string ⟨#[109,114]⟩,.string ⟨#[109,119]⟩,.string ⟨#[119,102,114]⟩]) (H G 3)).run Tryz.prog W= .ok (.string ⟨#[119,102,114]⟩) W:=ay
theorem abe:∀b:Fin 16,∀j:Fin 4,(Go.bits .and G ((b.val:Int) / 2 ^ j.val) 1==1)=decide ((b.val:Int) / 2 ^ j.val % 2=1):=by decide
theorem aaO (b j:O)(hb:b<=15)(hj:j<4):(Go.bits .and G ((b:Int) / 2 ^ j) 1==1)=decide ((b:Int) / 2 ^ j % 2=1):=abe ⟨b,by omega⟩ ⟨j,hj⟩
abbrev Er:=Bs × Int
def iQ (c:UInt8):Bool:=c==32||c==9
def bI (l:Bs):Bs:=l.dropWhile iQ
def dS (l:Bs):Bool:=l.head?==F||l.head?==I 10||l.head?==I 35
def dN (l:Bs):Except Er (Bool × Bs):=
 if dS (bI l)=true then .ok (Z,bI l) else if(bI l).length=l.length then .error (bI l,220) else .ok (true,bI l)
def d9 (l:Bs):Except Er Bs:=
 match dN l with
 | .error x=> .error x
 | .ok (true,r)=> .ok r
 | .ok (Z,r)=> .error (r,220)
def o8 (c:UInt8):Bool:=(c==46||c==95)||(decide (48<=c) && decide (c<=57))||(decide (97<=c) && decide (c<=122))||(decide (65<=c) && decide (c<=90))
def fq (l:Bs):Bs:=l.takeWhile o8
def nR (l:Bs):Bs:=match(l.drop (fq l).length).head? with
 |some c=>if 128<=c then fq l++[128] else fq l
 |none=>fq l
def jC:Bs->Bs->O
 |a::x,b::y=>if a=b then jC x y+1 else 0
 |_,_=>0
def yI (ws:S Bs)(t:Bs):O:=ws.foldl (λm s=>max m (jC s t)) 0
def eY (ws:S Bs)(l:Bs):Except Er (O × Bs):=
 match ws.findIdx? (λs=>s==nR l) with
 |some i=> .ok (i,l.drop (fq l).length)
 |none=> .error (l.drop (yI ws (fq l)),220)
def dX (l:Bs):O:=gN ⟨l.toArray⟩ jJ
def dJ (l:Bs):Bool:=!l.isEmpty && (okB ⟨l.toArray⟩ 0 && kC (Utf8.decode ⟨l.toArray⟩ 0).1)
def u7 (l:Bs):O:=(((cK ⟨l.toArray⟩ l.length 0).filter (λi=>decide (i<=24))).getLast?).getD 0
def dF (l:Bs):Except Er (Bs × Bs):=
 if(dS l||!dJ l)=true then .error (l,220)
 else if 24<dX l then .error (l.drop (u7 (l.take (dX l))),220)
 else .ok (l.take (dX l),l.drop (dX l))
def jf (c:UInt8):Bool:=decide (48<=c) && decide (c<=57)
def qJ (l:Bs):O:=l.foldl (λn c=>n*10+(c.toNat - 48)) 0
def wQ (nm:Bs)(l:Bs):Except Er (To × Bs):=
 let ds:=l.takeWhile jf
 if ds.head?=F\/ds.head?=I 48 then .error (l,220)
 else if 999<qJ ds then .error (l,3)
 else .ok (⟨nm,qJ ds⟩,l.drop ds.length)
def gM (l:Bs):Except Er (To × Bs):=
 if l.head?=I 45 then .ok (⟨[],0⟩,l.tail)
 else match dF l with
  | .error x=> .error x
  | .ok (nm,r)=>if r.head?=I 46 then wQ nm r.tail else .error (r,220)
def jH:O->S Bs->Bs->Except Er (S Bs × Bs)
 |0,acc,l=> .ok (acc,l)
 |k+1,acc,l=>
  match d9 l with
  | .error x=> .error x
  | .ok r=>match dF r with
   | .error x=> .error x
   | .ok (nm,r')=>jH k (acc++[nm]) r'
def kJ:S Bs:=[lg 0,lg 1,lg 2,lg 3]
def og:S Bs:=[kG 1,kG 2,kG 3,kG 4]
def nu:S Bs:=[bB 1,bB 2,bB 3,bB 4,bB 5,bB 6,bB 7,bB 8,bB 9]
def jo:O->O->Int->Bs->Except Er (Int × Bs)
 |0,_,b,l=> .ok (b,l)
 |f+1,k,b,l=>
  match dN l with
  | .error x=> .error x
  | .ok (Z,r)=> .ok (b,r)
  | .ok (true,r)=>match eY (kJ.drop k) r with
   | .error x=> .error x
   | .ok (i,r')=>jo f (k+i+1) (b+2 ^ (k+i)) r'
def bK (pairs:Bool)(most:O):O->O->S Bs->S To->Bs->Except Er ((S Bs × S To) × Bs)
 |0,_,ns,vs,l=> .ok ((ns,vs),l)
 |f+1,many,ns,vs,l=>
  match dN l with
  | .error x=> .error x
  | .ok (Z,r)=> .ok ((ns,vs),r)
  | .ok (true,r)=>
   if many=most/\dJ r=true then .error (r,3)
   else match dF r with
    | .error x=> .error x
    | .ok (nm,r1)=>
     if pairs=true then match d9 r1 with
      | .error x=> .error x
      | .ok r2=>match gM r2 with
       | .error x=> .error x
       | .ok (v,r3)=>bK pairs most f (many+1) (ns++[nm]) (vs++[v]) r3
     else bK pairs most f (many+1) (ns++[nm]) vs r1
def j4 (l:Bs):Except Er (Bool × Bs):=
 match dN l with
 | .error x=> .error x
 | .ok (true,r)=>if r.head?=I 45 then .ok (true,r.tail) else .ok (Z,l)
 | .ok (Z,_)=> .ok (Z,l)
def jZ (k:O)(ns:S Bs)(l:Bs):Except Er (aH × Bs):=
 if k=1 then match d9 l with
  | .error x=> .error x
  | .ok r=>match eY og r with
   | .error x=> .error x
   | .ok (i,r')=> .ok (⟨k,ns,1+i,[],Z,0⟩,r')
 else if k=3 then match d9 l with
  | .error x=> .error x
  | .ok r=>match gM r with
   | .error x=> .error x
   | .ok (v,r')=> .ok (⟨k,ns,0,[v],Z,0⟩,r')
 else if k=9 then match jo 5 0 0 l with
  | .error x=> .error x
  | .ok (b,r)=> .ok (⟨k,ns,0,[],Z,b⟩,r)
 else if k=8 then match j4 l with
  | .error x=> .error x
  | .ok (f,r)=>match bK Z 300 301 0 ns [] r with
   | .error x=> .error x
   | .ok ((ns',vs'),r')=> .ok (⟨k,ns',0,vs',f,0⟩,r')
 else if k=4 then match bK true 40 41 0 ns [] l with
   | .error x=> .error x
   | .ok ((ns',vs'),r')=> .ok (⟨k,ns',0,vs',Z,0⟩,r')
 else if k=7 then match bK Z 300 301 0 ns [] l with
   | .error x=> .error x
   | .ok ((ns',vs'),r')=> .ok (⟨k,ns',0,vs',Z,0⟩,r')
 else .ok (⟨k,ns,0,[],Z,0⟩,l)
def jh (l:Bs):Except Er (aH × Bs):=
 if dS (bI l)=true then .ok (⟨0,[],0,[],Z,0⟩,bI l)
 else match eY nu (bI l) with
  | .error x=> .error x
  | .ok (i,r)=>match jH (bS (i+1)).toNat [] r with
   | .error x=> .error x
   | .ok (ns,r1)=>match jZ (i+1) ns r1 with
    | .error x=> .error x
    | .ok (s,r2)=>match dN r2 with
     | .error x=> .error x
     | .ok (true,r3)=> .error (r3,220)
     | .ok (Z,r3)=> .ok (s,r3)
def JC (r:Int):Bool:=decide (32<=r)||r==9
def jl (l:Bs):Bs:=if l.head?=I 35 then l.drop (gN ⟨l.toArray⟩ JC) else l
def mJ (l:Bs):Except Er (aH × Bs):=
 match jh l with
 | .error x=> .error x
 | .ok (s,r)=>
  if(jl r).head?=F then .ok (s,[]) else if(jl r).head?=I 10 then .ok (s,(jl r).tail) else .error (jl r,220)
@[reducible] def tC (s:Bs)(p:O)(c:bE):Array Value:=#[.string ⟨s.toArray⟩,H G p,H G c.kind,C c.na c.nn c.nc,H G c.lvl,C c.va c.vn c.vc,.bool c.first,H G c.bits]
structure eP (w:U)(R:O)(s:Bs)(p:O)(l:Bs)(c:bE)(n:aH):Prop where
 x:Bx w R (tC s p c)
 n:gD w (R+1) c n
 d:s.drop p=l
 le:p<=s.length
 lim:s.length<=1000000
def oO (R:O)(c:bE)(i:O):Prop:=i≠R/\(Value.slice c.na c.nn c.nc).ownBlock≠I i/\(Value.slice c.va c.vn c.vc).ownBlock≠I i
structure Mv (R:O)(c c':bE)(w w':U):Prop where
 same:Same (oO R c) w w'
 na:∀g,(Value.slice c'.na c'.nn c'.nc).ownBlock=I g->(Value.slice c.na c.nn c.nc).ownBlock=I g\/w.1.size<=g
 va:∀g,(Value.slice c'.va c'.vn c'.vc).ownBlock=I g->(Value.slice c.va c.vn c.vc).ownBlock=I g\/w.1.size<=g
theorem Mv.refl (R:O)(c:bE)(w:U):Mv R c c w w:=⟨Same.refl' _,λ_ h=> .inl h,λ_ h=> .inl h⟩
theorem Mv.of_below {R:O}{c:bE}{w w':U}(h:Below w.1.size w w'):Mv R c c w w':=⟨Same.of_below h (λ_ _ h=>h),λ_ h=> .inl h,λ_ h=> .inl h⟩
theorem Mv.rda {R:O}{c c':bE}{w w':U}(h:Mv R c c' w w'){i:O}(hi:oO R c i)(hl:i<w.1.size):oO R c' i:=
 ⟨hi.1,λe=>(h.na i e).elim hi.2.1 (λk=>by omega),λe=>(h.va i e).elim hi.2.2 (λk=>by omega)⟩
theorem Mv.jS {R:O}{c c':bE}{w w' w'':U}(h:Mv R c c' w w')(k:Same (oO R c') w' w''):Same (oO R c) w w'':=
 ⟨k.os.trans h.same.os,k.tape.trans h.same.tape,k.output.trans h.same.output,bX h.same.size k.size,λi hi hl=>(k.block i (h.rda hi hl) (bM hl h.same.size)).trans (h.same.block i hi hl)⟩
theorem Mv.trans {R:O}{c c' c'':bE}{w w' w'':U}(h:Mv R c c' w w')(k:Mv R c' c'' w' w''):Mv R c c'' w w'':=
 ⟨h.jS k.same,λg hg=>(k.na g hg).elim (λe=>h.na g e) (λe=> .inr (bX h.same.size e)),λg hg=>(k.va g hg).elim (λe=>h.va g e) (λe=> .inr (bX h.same.size e))⟩
theorem Mv.bx {R:O}{c c':bE}{w w':U}(h:Mv R c c' w w'){b:O}{cs:Array Value}(hb:Bx w b cs)(hA:oO R c b):Bx w' b cs:=h.same.bx hb hA
theorem eP.new {w:U}{R p:O}{s l:Bs}{c:bE}{n:aH}(h:eP w R s p l c n){i:O}(hi:w.1.size<=i):oO R c i:=
 ⟨by have:=h.x.2.2;omega,h.n.2.1.far' (.inr hi),h.n.2.2.far' (.inr hi)⟩
theorem eP.old {w:U}{R p:O}{s l:Bs}{c:bE}{n:aH}(h:eP w R s p l c n){i:O}(hi:i<R):oO R c i:=
 ⟨by omega,h.n.2.1.far' (.inl ah),h.n.2.2.far' (.inl ah)⟩
theorem eP.below {w w':U}{R p:O}{s l:Bs}{c:bE}{n:aH}(h:eP w R s p l c n)(hb:Below w.1.size w w'):eP w' R s p l c n:=
 ⟨h.x.keep hb,h.n.below hb,h.d,h.le,h.lim⟩
theorem eP.len {w:U}{R p:O}{s l:Bs}{c:bE}{n:aH}(h:eP w R s p l c n):p+l.length=s.length:=by
 have:=h.le;rw[<-h.d,gG];omega
theorem eP.go {w:U}{R p:O}{s l:Bs}{c:bE}{n:aH}(h:eP w R s p l c n)(k:O)(hk:k<=l.length):
  eP (w.setCell ⟨R,1,F⟩ (H G ((p+k:O):Int))) R s (p+k) (l.drop k) c n/\Mv R c c w (w.setCell ⟨R,1,F⟩ (H G ((p+k:O):Int))):=by
 have hx:=h.x.bf 1 ak (H G ((p+k:O):Int));have hs:Same (oO R c) w (w.setCell ⟨R,1,F⟩ (H G ((p+k:O):Int))):=Same.setCell _ _ _ _ (λe=>e.1 rfl);refine⟨⟨hx,⟨h.n.1,h.n.2.1.block λg hg=>?_,h.n.2.2.block λg hg=>?_⟩,?_,?_,h.lim⟩,hs,λ_ h=> .inl h,λ_ h=> .inl h⟩
 .exact Below.heap_setCell _ _ _ _ (by have:=(h.n.2.1.lt g hg).1;simp;omega)
 .exact Below.heap_setCell _ _ _ _ (by have:=(h.n.2.2.lt g hg).1;simp;omega)
 .rw[<-h.d,zq]
 .have:=h.len;omega
theorem gQ (l:Bs):ByteArray.size ⟨l.toArray⟩=l.length:=by simp[ByteArray.size]
theorem JD (s:Bs)(p:O):(⟨s.toArray⟩:ByteArray).extract p s.length=⟨(s.drop p).toArray⟩:=by
 apply ByteArray.ext
 rw[ByteArray.data_extract]
 apply Array.ext'
 simp[iH]
theorem qI (s:Bs)(p:O):(⟨s.toArray⟩:ByteArray).extract 0 p=⟨(s.take p).toArray⟩:=by
 apply ByteArray.ext
 rw[ByteArray.data_extract]
 apply Array.ext'
 simp
theorem rZ (l:Bs)(p:O):Utf8.decode ⟨l.toArray⟩ p=Utf8.decode ⟨(l.drop p).toArray⟩ 0:=by
 rw[<-JD];have:=Lib.tail_decode ⟨l.toArray⟩ p 0;rw[gQ] at this;rw[this,dM]
theorem Qk (l:Bs)(p:O):okB ⟨l.toArray⟩ p=okB ⟨(l.drop p).toArray⟩ 0:=by unfold okB;rw[rZ]
theorem qm (b:UInt8)(t:Bs)(h:b.toNat<128):Utf8.decode ⟨(b::t).toArray⟩ 0=(b.toNat,1):=decode_ascii ⟨(b::t).toArray⟩ 0 (by rw[gQ];simp) h
theorem zx (b:UInt8)(t:Bs)(h:128<=b.toNat):128<=(Utf8.decode ⟨(b::t).toArray⟩ 0).1/\1<=(Utf8.decode ⟨(b::t).toArray⟩ 0).2:=decode_high ⟨(b::t).toArray⟩ 0 (by rw[gQ];simp) h
theorem Aw (l:Bs)(h:l≠[]):1<=(Utf8.decode ⟨l.toArray⟩ 0).2:=by
 cases l with
 |nil=>exact absurd rfl h
 |cons b t=>
  rcases gP b.toNat 128 with h1|h1
  .rw[qm b t h1];exact aB _
  .exact(zx b t h1).2
theorem NK (b:UInt8)(t:Bs)(h:b.toNat<128):okB ⟨(b::t).toArray⟩ 0=true:=by
 unfold okB;rw[qm b t h];rw[show((b.toNat:Int)==65533)=Z from aU.2 ah];rfl
theorem C8 (l:Bs)(d:O):∀(n p:O),cK ⟨l.toArray⟩ n (d+p)=(cK ⟨(l.drop d).toArray⟩ n p).map (d+ ·)
 |0,_=>rfl
 |n+1,p=>by
  simp only[cK,gQ,gG];have e:Utf8.decode ⟨l.toArray⟩ (d+p)=Utf8.decode ⟨(l.drop d).toArray⟩ p:=by
   rw[rZ l (d+p),rZ (l.drop d) p,zq]
  by_cases h:d+p<l.length
  .rw[av h,av ah,e,Nat.add_assoc,C8 l d n];rfl
  .rw[au h,au ah];rfl
theorem BG (s:ByteArray):∀(n m p:O),s.size<=p+n->s.size<=p+m->cK s n p=cK s m p
 |0,m,p,h1,_=>by cases m <;> simp only[cK];rw[au ah]
 |n+1,0,p,_,h2=>by simp only[cK];rw[au ah]
 |n+1,m+1,p,h1,h2=>by
  simp only[cK];by_cases h:p<s.size
  .rw[av h,av h]
   have:=width_pos s p h;rw[BG s n m _ ah ah]
  .rw[au h,au h]
theorem zy (l:Bs)(h:l≠[]):(Utf8.decode ⟨l.toArray⟩ 0).2<=l.length:=by
 have h1:1<=l.length:=by
  cases l with
  |nil=>exact absurd rfl h
  |cons b t=>simp
 unfold Utf8.decode;simp only[gQ]
 split
 .exact h1
 split
 .rename_i g
  simp only[aO,aW] at g
  split
  .show 2<=_;omega
  .exact h1
 split
 .rename_i g
  simp only[aO,aW] at g
  split
  .show 3<=_;omega
  .exact h1
 split
 .rename_i g
  simp only[aO,aW] at g
  split
  .show 4<=_;omega
  .exact h1
 .exact h1
theorem Vm (l:Bs)(p:Int->Bool)(d q:O):tK ⟨l.toArray⟩ p (d+q)=tK ⟨(l.drop d).toArray⟩ p q:=by
 unfold tK;rw[Qk l (d+q),Qk (l.drop d) q,rZ l (d+q),rZ (l.drop d) q,zq]
theorem iR (l:Bs)(p:Int->Bool)(h:l≠[]):gN ⟨l.toArray⟩ p=
  if(okB ⟨l.toArray⟩ 0 && p ((Utf8.decode ⟨l.toArray⟩ 0).1:Int))=true then(Utf8.decode ⟨l.toArray⟩ 0).2+gN ⟨(l.drop (Utf8.decode ⟨l.toArray⟩ 0).2).toArray⟩ p else 0:=by
 obtain⟨d,hd⟩:∃d,d=(Utf8.decode ⟨l.toArray⟩ 0).2:=⟨_,rfl⟩;have hw:=Aw l h;rw[<-hd] at hw ⊢;obtain⟨n,hn⟩:∃n,l.length=n+1:=⟨l.length - 1,by have:l.length≠0:=λe=>h (Av e);omega⟩;have hp:cK ⟨l.toArray⟩ l.length 0=0::(cK ⟨(l.drop d).toArray⟩ (l.drop d).length 0).map (d+ ·):=by
  rw[hn];simp only[cK,gQ];rw[av ah,<-hd,bA,<-dM d,C8,dM,BG ⟨(l.drop d).toArray⟩ n (l.drop d).length 0 (by rw[gQ,gG];omega) (by rw[gQ];omega)]
 unfold gN;rw[gQ,gQ,hp];simp only[List.find?_cons,List.find?_map];unfold tK
 cases hk:(okB ⟨l.toArray⟩ 0 && p ((Utf8.decode ⟨l.toArray⟩ 0).1:Int))
 .simp
 .simp only[Bool.not_true,bY]
  have e:((λpos=>!(okB ⟨l.toArray⟩ pos && p ((Utf8.decode ⟨l.toArray⟩ pos).1:Int)))∘λx=>d+x)=tK ⟨(l.drop d).toArray⟩ p:=by
   funext q
   exact Vm l p d q
  have e2:(λpos=>!(okB ⟨(l.drop d).toArray⟩ pos && p ((Utf8.decode ⟨(l.drop d).toArray⟩ pos).1:Int)))=tK ⟨(l.drop d).toArray⟩ p:=rfl;rw[e,e2]
  cases hf:List.find? (tK ⟨(l.drop d).toArray⟩ p) (cK ⟨(l.drop d).toArray⟩ (l.drop d).length 0) with
  |none=>
   simp only[Option.map_none,Option.getD_none];have hx:d<=l.length:=by rw[hd];exact zy l h
   rw[gG];omega
  |some q=>simp
theorem Gn (p:Int->Bool)(q:UInt8->Bool)(h:∀b:UInt8,b.toNat<128->p (b.toNat:Int)=q b)(hh:∀r:O,128<=r->p (r:Int)=Z)(hq:∀b:UInt8,128<=b.toNat->q b=Z):
  ∀l:Bs,gN ⟨l.toArray⟩ p=(l.takeWhile q).length
 |[]=>rfl
 |b::t=>by
  rw[iR (b::t) p ak];rcases gP b.toNat 128 with h1|h1
  .rw[qm b t h1,NK b t h1,Ay,h b h1]
   cases hb:q b
   .rw[nE,hb];rfl
   .rw[av rfl,nE,hb,av rfl]
    show 1+gN ⟨t.toArray⟩ p=_;rw[Gn p q h hh hq t,dO];omega
  .rw[hh _ (zx b t h1).1,Bool.and_false,nE,hq b h1];rfl
theorem Fh (p:O->Bool)(q:UInt8->Bool)(h:∀b:UInt8,b.toNat<128->p b.toNat=q b)(hh:∀r:O,128<=r->p r=Z)(hq:∀b:UInt8,128<=b.toNat->q b=Z)(l:Bs):
  ∀f pos:O,l.length<=pos+f->pos<=l.length->Lib.idxFuncFrom p Z ⟨l.toArray⟩ f pos=if pos+((l.drop pos).takeWhile q).length<l.length then((pos+((l.drop pos).takeWhile q).length:O):Int) else -1
 |0,pos,h1,h2=>by
  have e:pos=l.length:=by omega
  subst e;rw[au ah];rfl
 |f+1,pos,h1,h2=>by
  unfold Lib.idxFuncFrom;rw[gQ];by_cases hp:pos<l.length
  .rw[av hp]
   obtain⟨b,t,hbt⟩:∃b t,l.drop pos=b::t:=⟨_,_,oD hp⟩;rw[rZ l pos,hbt];rcases gP b.toNat 128 with h3|h3
   .rw[qm b t h3]
    simp only[h b h3]
    cases hb:q b
    .rw[av rfl,nE,hb]
     simp only[DT,fF,iy,dM];rw[av hp]
    .rw[au ak,Fh p q h hh hq l f (pos+1) ah ah]
     have ht:l.drop (pos+1)=t:=by rw[<-zq,hbt];rfl
     rw[ht,nE,hb,av rfl,dO,show pos+1+(t.takeWhile q).length=pos+((t.takeWhile q).length+1) by omega]
   .rw[av (hh _ (zx b t h3).1),nE,hq b h3]
    simp only[DT,fF,iy,dM];rw[av hp]
  .rw[au hp,au ah]
theorem vC {α:Type}(q:α->Bool)(l:S α):l.drop (l.takeWhile q).length=l.dropWhile q:=by
 induction l with
 |nil=>rfl
 |cons b t ih=>
  rw[nE,Ey]
  cases q b
  .rfl
  .simpa using ih
theorem qi {α:Type}(q:α->Bool)(l:S α):(l.takeWhile q).length+(l.dropWhile q).length=l.length:=by
 rw[<-bL,List.takeWhile_append_dropWhile]
theorem Vn (p:O->Bool)(q:UInt8->Bool)(h:∀b:UInt8,b.toNat<128->p b.toNat=q b)(hh:∀r:O,128<=r->p r=Z)(hq:∀b:UInt8,128<=b.toNat->q b=Z)(l:Bs):
  Lib.trimLeftF p ⟨l.toArray⟩=⟨(l.dropWhile q).toArray⟩:=by
 have hl:=qi q l;unfold Lib.trimLeftF Lib.idxFunc;rw[gQ,Fh p q h hh hq l l.length 0 ah ah];simp only[Ez,bA];by_cases hp:(l.takeWhile q).length<l.length
 .rw[av hp,au ah,jB,JD,vC]
 .rw[au hp,av rfl,Av (l:=l.dropWhile q) ah]
def zV (r:Int):Bool:=r==32||r==9
theorem Gp (b:UInt8):zV (b.toNat:Int)=iQ b:=by
 have hx:∀n:O,(((b.toNat:Int)==(n:Int))=decide (b.toNat=n)):=λn=>by
  by_cases h:b.toNat=n
  .simp[h]
  .rw[aU.2 ah];simp[h]
 have hy:∀c:UInt8,(b==c)=decide (b.toNat=c.toNat):=λc=>by
  by_cases h:b=c
  .simp[h]
  .rw[aU.2 h,bq (λe=>h (jm.1 e))]
 unfold zV iQ;rw[hy 32,hy 9,show(32:Int)=((32:O):Int) from rfl,show(9:Int)=((9:O):Int) from rfl,hx,hx];rfl
theorem Ql (r:O)(h:128<=r):zV (r:Int)=Z:=by
 unfold zV;rw[aU.2 ah,aU.2 ah];rfl
theorem Yn (b:UInt8)(h:128<=b.toNat):iQ b=Z:=by rw[<-Gp];exact Ql _ h
theorem abf (l:Bs):gN ⟨l.toArray⟩ zV=(l.takeWhile iQ).length:=Gn zV iQ (λb _=>Gp b) Ql Yn l
theorem ae1 (l:Bs):Lib.trimLeftF (λr=>zV (r:Int)) ⟨l.toArray⟩=⟨(bI l).toArray⟩:=Vn _ iQ (λb _=>Gp b) Ql Yn l
theorem MX (l:Bs):(bI l).length<=l.length:=by have:=qi iQ l;unfold bI;omega
theorem KO (l:Bs):l.drop (l.length - (bI l).length)=bI l:=by
 have:=qi iQ l;unfold bI at*;rw[show l.length - (l.dropWhile iQ).length=(l.takeWhile iQ).length by omega,vC]
theorem ae2 (l:Bs)(i:O)(b:UInt8)(h:l[i]?=I b):∃hi:i<ByteArray.size ⟨l.toArray⟩,(⟨l.toArray⟩:ByteArray)[i]'hi=b:=by
 obtain⟨h1,h2⟩:=bO.1 h;exact⟨by rw[gQ];exact h1,by rw[<-h2];rfl⟩
theorem jM {P:Program}{t:TypeId}(ht:P.underlying t=I .string)(l:Bs)(i:O)(b:UInt8)(h:l[i]?=I b)(W:U):(Instr.index t (.string ⟨l.toArray⟩) (H G (i:Int))).run P W= .ok (.int .u8 (b.toNat:Int)) W:=by
 obtain⟨hi,hx⟩:=ae2 l i b h;rw[run_index_string W t _ G i ht,dif_pos ⟨by omega,by omega⟩];simp only[jB,hx]
theorem oZ {P:Program}{t:TypeId}(ht:P.underlying t=I .string)(l:Bs)(i:O)(h:i<=l.length)(W:U):(Instr.slice t (.string ⟨l.toArray⟩) (I (H G (i:Int))) F F).run P W= .ok (.string ⟨(l.drop i).toArray⟩) W:=by
 rw[run_slice_string_l W t _ ht G i ah (by rw[gQ];omega),jB,gQ,JD]
theorem AV {P:Program}{t:TypeId}(ht:P.underlying t=I .string)(l:Bs)(i:O)(h:i<=l.length)(W:U):(Instr.slice t (.string ⟨l.toArray⟩) F (I (H G (i:Int))) F).run P W= .ok (.string ⟨(l.take i).toArray⟩) W:=by
 rw[run_slice_string_h W t _ ht G i ah (by rw[gQ];omega),jB,qI]
theorem Vo (b c:UInt8):(b==c)=((b.toNat:Int)==(c.toNat:Int)):=by
 by_cases h:b=c
 .simp[h]
 .rw[aU.2 h,aU.2 (λe=>h (jm.1 ah))]
theorem jI (b:UInt8)(t:Bs):dS (b::t)=(((b.toNat:Int)==10)||((b.toNat:Int)==35)):=by
 unfold dS;simp only[tV];rw[show((I b==F):Bool)=Z from rfl,Bool.false_or];show((b==10)||(b==35))=_;rw[Vo b 10,Vo b 35];rfl
def o9 (p:O)(m:Int):S PanicEntry:=[⟨.iface 197 (.agg #[H G p,H G m]),Z,Z⟩]
theorem mR (p:O)(m:Int)(w:U):Calls Tryz.prog 138 #[H G p,H G m] w λe w'=>e= .panicked (o9 p m)/\w'=w:=by
 go_enter func138,ntmps138
 go_wp2
 exact⟨rfl,rfl,rfl⟩
theorem abg (r:Int)(w:U):Calls Tryz.prog 156 #[.int .i32 r] w λe w'=>e= .returned (.bool (zV r))/\∃q,w'=w.drewN q:=by
 unfold zV
 cases h1:r==32 <;> cases h2:r==9
 all_goals
  go_enter func156,ntmps156
  go_wp2
  go_ret;exact⟨rfl,0,rfl⟩
theorem Vp:∀args w,(callFunc 156 args).run Tryz.prog w= .ok (.enter 156 args) w:=enters_of func156 ay rfl
theorem TI (l:Bs)(w:U):Calls Tryz.prog 155 #[.string ⟨l.toArray⟩,.func (.func 156) #[] #[]] w (dw (.string ⟨(bI l).toArray⟩) w):=by
 have:=Tryz.strings_TrimLeftFunc 156 #[] Vp (λr=>zV (r:Int)) ⟨l.toArray⟩ w (λW r _=>by unfold FnGives;exact abg (r:Int) W);rw[ae1] at this;exact this
theorem eP.c0 {w:U}{R p:O}{s l:Bs}{c:bE}{n:aH}(h:eP w R s p l c n):w.cell? ⟨R,0,F⟩=I (.string ⟨s.toArray⟩):=h.x.1 0
theorem eP.c1 {w:U}{R p:O}{s l:Bs}{c:bE}{n:aH}(h:eP w R s p l c n):w.cell? ⟨R,1,F⟩=I (H G p):=h.x.1 1
theorem eP.at_ {w:U}{R p:O}{s t:Bs}{b:UInt8}{c:bE}{n:aH}(h:eP w R s p (b::t) c n):s[p]?=I b:=by
 have:=bU (λl=>l[0]?) h.d
 simpa using this
theorem GR {R p:O}{s l:Bs}{c:bE}{n:aH}(w:U)(h:eP w R s p l c n):Calls Tryz.prog 157 #[.pointer (I ⟨R,0,F⟩)] w (dw (.bool (dS l)) w):=by
 have c0:=h.c0;have c1:=h.c1;have hlen:=h.len;have hlim:=h.lim
 cases hl:l with
 |nil=>
  obtain rfl:p=s.length:=by rw[hl] at hlen;simpa using hlen
  have hz:=gQ s;clear h hlen;go_enter func157,ntmps157
  go_wp2_with (go_quiet (fail))
  go_ret;exact⟨rfl,gu (Below.refl _ _) _⟩
 |cons b t=>
  subst hl;have hix:=λW=>jM Tryz.underlying9 s p b h.at_ W
  have hlt:p<s.length:=by simp at hlen;omega
  have hz:=gQ s;have hne:((p:Int)==(s.length:Int))=Z:=aU.2 ah;clear h hlen;by_cases h10:b.toNat=10
  .have hb:((b.toNat:Int)==10)=true:=by simp[h10]
   go_enter func157,ntmps157
   go_wp2_with (go_quiet (fail))
   go_ret;exact⟨by rw[jI,hb];rfl,gu (Below.refl _ _) _⟩
  .have hb:((b.toNat:Int)==10)=Z:=aU.2 ah
   cases Qm:((b.toNat:Int)==35)
   all_goals
    go_enter func157,ntmps157
    go_wp2_with (go_quiet (fail))
    go_ret;exact⟨by rw[jI,hb,Qm];rfl,gu (Below.refl _ _) _⟩
def dQ {α:Type}(R:O)(s:Bs)(c:bE)(w:U)(val:α->Value)(x:Except Er (α × aH × Bs))(e:Ending)(w':U):Prop:=
 match x with
 | .error (r,m)=>e= .panicked (o9 (s.length - r.length) m)/\Same (oO R c) w w'
 | .ok (a,n',r)=>e= .returned (val a)/\∃p' c',eP w' R s p' r c' n'/\Mv R c c' w w'
def ou {α:Type}(R:O)(s:Bs)(c:bE)(n:aH)(w:U)(val:α->Value)(x:Except Er (α × Bs))(e:Ending)(w':U):Prop:=
 match x with
 | .error (r,m)=>e= .panicked (o9 (s.length - r.length) m)/\Same (oO R c) w w'
 | .ok (a,r)=>e= .returned (val a)/\∃p',eP w' R s p' r c n/\Mv R c c w w'
theorem eP.to {w:U}{R p:O}{s l r:Bs}{c:bE}{n:aH}(h:eP w R s p l c n)(k:O)(hk:l.drop k=r)(hle:k<=l.length)(q:O)(hq:q=p+k):
  eP (w.setCell ⟨R,1,F⟩ (H G (q:Int))) R s q r c n/\Mv R c c w (w.setCell ⟨R,1,F⟩ (H G (q:Int))):=by
 subst hq hk;exact h.go k hle
theorem eP.drew {w:U}{R p:O}{s l:Bs}{c:bE}{n:aH}(h:eP w R s p l c n):eP w.drew R s p l c n:=⟨h.x,h.n,h.d,h.le,h.lim⟩
theorem f1 {w:U}{R p:O}{s l:Bs}{c:bE}{n:aH}(h:eP w R s p l c n)(i:O):w.frozen? ⟨R,i,F⟩=Z:=h.x.2.1 i
theorem DI {R p:O}{s l:Bs}{c:bE}{n:aH}(w:U)(h:eP w R s p l c n):
  Calls Tryz.prog 167 #[.pointer (I ⟨R,0,F⟩)] w (ou R s c n w (λb:Bool=> .bool b) (dN l)):=by
 have c0:=h.c0;have c1:=h.c1;have z1:=f1 h 1;have hlen:=h.len;have hlim:=h.lim;have hsl:=λW=>oZ Tryz.underlying9 s p ah W
 rw[h.d] at hsl;have hz:=gQ s;have hz2:=gQ (bI l);have hsk:=MX l;have HH:=N h;have HLEN:=N hlen;have fO:=N hsk;clear h hlen hsk;go_enter func167,ntmps167;go_wp2_with fail;refine aC 11 [(0,0),(1,0),(2,0),(3,0),(4,0),(5,0),(6,0),(7,0),(8,0),(9,2),(10,0)] (λ_=>True) (λW'=>W'.cell? ⟨R,0,F⟩=I (.string ⟨s.toArray⟩)/\W'.cell? ⟨R,1,F⟩=I (H G p)) ay ay (trivial) (⟨HH.q.c0,HH.q.c1⟩) ?_;refine qC ?_;refine aF rfl rfl (λK hK=>?_);go_simp;refine(TI l _).mono ?_;rintro e w2 ⟨rfl,hb2⟩;have KP:=HH.q.drew.below hb2;refine hK _ _ ⟨trivial,KP.c0,KP.c1⟩ ?_;have IB:=N KP;have HB2:=N hb2;clear hK K hb2 KP c0 c1 z1;refine qC ?_;refine aP ?_;have hb2:Below w.1.size w w2:=(Below.refl _ _).drew.trans HB2.q;obtain⟨q,hq⟩:∃q:O,q=s.length - (bI l).length:=⟨_,rfl⟩;have hwq:wrap64 ((s.length:Int) - ((bI l).length:Int))=(q:Int):=by
  have:=HLEN.q;have:=fO.q;rw[show(s.length:Int) - ((bI l).length:Int)=(q:Int) by omega];exact IntWalk.wrap64_in _ ah
 have ht:=IB.q.to (l.length - (bI l).length) (KO l) ah q (by have:=HLEN.q;have:=fO.q;omega);have HT:=N ht.1;have HM:=N ((Mv.of_below (R:=R) (c:=c) hb2).trans ht.2);have HQ:=N hq;have c0:=IB.q.c0;have c1:=IB.q.c1;have z1:=f1 IB.q 1;have hMS:dN l=if dS (bI l)=true then .ok (Z,bI l) else if q=p then .error (bI l,220) else .ok (true,bI l):=by
  unfold dN;have:=HLEN.q;have:=fO.q;by_cases h1:dS (bI l)=true
  .rw[av h1,av h1]
  .rw[au h1,au h1]
   by_cases h2:q=p
   .rw[av h2,av ah]
   .rw[au h2,au ah]
 have HMS:=N hMS;clear ht hq hb2 hMS;go_wp2_with fail;refine(GR _ HT.q).mono ?_;rintro e w3 ⟨rfl,hb3⟩;have HT3:=N (HT.q.below hb3);have tQ:=N (HM.q.trans (Mv.of_below hb3));clear hb3 c0 c1 z1;have c1:=HT3.q.c1
 cases hE:dS (bI l)
 .by_cases hpq:q=p
  .have hb:((q:Int)==(p:Int))=true:=by simp[hpq]
   go_wp2_with fail;refine(mR p 220 _).mono ?_;rintro e w4 ⟨rfl,rfl⟩;refine⟨rfl,?_⟩;show ou R s c n w _ _ _ _;rw[HMS.q,hE,au ak,av hpq];exact⟨by rw[<-HQ.q,hpq],tQ.q.same⟩
  .have hb:((q:Int)==(p:Int))=Z:=aU.2 ah
   go_wp2_with fail;go_ret;show ou R s c n w _ _ _ _;rw[HMS.q,hE,au ak,au hpq];exact⟨rfl,q,HT3.q,tQ.q⟩
 .go_wp2_with fail
  go_ret;show ou R s c n w _ _ _ _;rw[HMS.q,hE,av rfl];exact⟨rfl,q,HT3.q,tQ.q⟩
theorem TJ {R p:O}{s l:Bs}{c:bE}{n:aH}(w:U)(h:eP w R s p l c n):
  Calls Tryz.prog 184 #[.pointer (I ⟨R,0,F⟩)] w (ou R s c n w (λ_:Unit=> .tuple #[]) (match d9 l with| .error x=> .error x| .ok r=> .ok ((),r))):=by
 have HR:=N (DI w h);clear h;obtain⟨X,hX⟩:∃X:Except Er (Unit × Bs),X=(match d9 l with| .error x=> .error x| .ok r=> .ok ((),r)):=⟨_,rfl⟩;rw[<-hX];have HX:=N hX;clear hX;go_enter func184,ntmps184;go_wp2_with fail;refine HR.q.mono ?_;rintro e w1 he
 cases hm:dN l with
 |error x=>
  rw[hm] at he;obtain⟨rfl,hs⟩:=he;refine⟨rfl,?_⟩;show ou R s c n w _ _ _ _;rw[HX.q,show d9 l= .error x by unfold d9;rw[hm]];exact⟨rfl,hs⟩
 |ok br=>
  obtain⟨b,r⟩:=br;rw[hm] at he;obtain⟨rfl,q,hc,hmv⟩:=he;have HC:=N hc;have HM:=N hmv;have c1:=hc.c1;clear hc hmv
  cases b
  .go_wp2_with fail
   refine(mR q 220 _).mono ?_;rintro e w4 ⟨rfl,rfl⟩;refine⟨rfl,?_⟩;show ou R s c n w _ _ _ _;rw[HX.q,show d9 l= .error (r,220) by unfold d9;rw[hm]];have:=HC.q.len;exact⟨by rw[show s.length - r.length=q by omega],HM.q.same⟩
  .go_wp2_with fail
   refine bodyPost_end (results_none rfl _ _ _) rfl ?_;show ou R s c n w _ _ _ _;rw[HX.q,show d9 l= .ok r by unfold d9;rw[hm]];exact⟨rfl,q,HC.q,HM.q⟩
theorem JE (r:Int)(w:U):Calls Tryz.prog 169 #[.int .i32 r] w (dw (.bool (zV r)) w):=by
 unfold zV
 cases h1:r==32 <;> cases h2:r==9
 all_goals
  go_enter func169,ntmps169
  go_wp2
  go_ret;exact⟨rfl,Below.refl _ _⟩
theorem Qn:∀args w,(callFunc 169 args).run Tryz.prog w= .ok (.enter 169 args) w:=enters_of func169 ay rfl
theorem ah8 (r:Int)(w:U):Calls Tryz.prog 186 #[.int .i32 r] w (dw (.bool (JC r)) w):=by
 unfold JC;by_cases h1:32<=r <;> cases h2:r==9
 all_goals
  go_enter func186,ntmps186
  go_wp2
  go_ret;exact⟨by simp[h1],Below.refl _ _⟩
theorem Vq:∀args w,(callFunc 186 args).run Tryz.prog w= .ok (.enter 186 args) w:=enters_of func186 ay rfl
theorem uE (p:Int->Bool):∀(n:O)(l:Bs),l.length<=n->gN ⟨l.toArray⟩ p<=l.length
 |0,l,h=>by rw[Av (l:=l) ah];exact aB _
 |n+1,l,h=>by
  by_cases h0:l=[]
  .subst h0;exact aB _
  .rw[iR l p h0]
   split
   .have h1:=Aw l h0;have h2:=zy l h0
    have:=uE p n (l.drop (Utf8.decode ⟨l.toArray⟩ 0).2) (by rw[gG];omega);rw[gG] at this;omega
   .exact aZ _
def qd (l:Bs):O:=(l.takeWhile iQ).length+if(bI l).head?=I 35 then gN ⟨(bI l).toArray⟩ JC else 0
def wV (l:Bs):Bool:=!((bI l).head?==I 35)||((l.drop (qd l)).head?==F||(l.drop (qd l)).head?==I 10)
theorem TK (l:Bs):(l.takeWhile iQ).length+(bI l).length=l.length:=qi iQ l
theorem tq (s:Bs)(p:O)(l:Bs)(hd:s.drop p=l)(hp:p<=s.length)(hlim:s.length<=1000000)(w:U)(hT:Lib.Utf8Tabs 6 7 w):
  Calls Tryz.prog 168 #[.string ⟨s.toArray⟩,H G p] w (uF (H G ((p+qd l:O):Int)) (.bool (wV l)) w):=by
 have hll:p+l.length=s.length:=by rw[<-hd,gG];omega
 obtain⟨q,hq⟩:∃q,q=p+(l.takeWhile iQ).length:=⟨_,rfl⟩;have hst:=TK l;have Dy:q<=s.length:=by omega
 have IK:s.drop q=bI l:=by rw[hq,<-zq,hd,vC];rfl
 have hsl:=λW=>oZ Tryz.underlying9 s p ah W
 rw[hd] at hsl;have hz:=gQ s;have hqi:(p:Int)+((l.takeWhile iQ).length:Int)=(q:Int):=by omega
 have HT:=N hT;have HW:=λW (hb:Below w.1.size w W)=>N (wW ⟨l.toArray⟩ 169 #[] Qn zV W (λr W' _=>JE r W') (Utf8Tabs_below hT hb))
 rw[abf] at HW;clear hT
 cases hk:bI l with
 |nil=>
  have hqe:q=s.length:=by have:=bU List.length IK;rw[gG,hk] at this;simp at this;omega
  have HN:Hid (qd l=(l.takeWhile iQ).length/\wV l=true):=N (by unfold wV qd;rw[hk];simp);have hd1:((q:Int)==(s.length:Int))=true:=by simp[hqe]
  have HQ:=N hq;have HE:=N hqe;clear IK hk hst hqe hq;go_enter func168,ntmps168;go_wp2_with fail;refine(HW _ (Below.refl _ _)).q.mono ?_;rintro e w1 ⟨rfl,hb1⟩;have HB1:=N hb1;clear hb1;go_wp2_with fail
  go_ret2
  refine⟨?_,HB1.q⟩;rw[HN.q.1,HN.q.2,<-HQ.q];rfl
 |cons b t=>
  have Ii:s[q]?=I b:=by
   have:=bU (λl=>l[0]?) IK;rw[hk] at this
   simpa using this
  have arC:q<s.length:=(bO.1 Ii).1;have hix:=λW=>jM Tryz.underlying9 s q b Ii W
  have hd1:((q:Int)==(s.length:Int))=Z:=aU.2 ah;by_cases hb:b.toNat=35
  .have Vr:b=35:=jm.1 hb
   have hd2:((b.toNat:Int)==35)=true:=by simp[hb]
   obtain⟨m,hm⟩:∃m,m=gN ⟨(bI l).toArray⟩ JC:=⟨_,rfl⟩;have hsk:qd l=(l.takeWhile iQ).length+m:=by unfold qd;rw[av (by rw[hk,Vr];rfl),<-hm]
   have hml:m<=(bI l).length:=by rw[hm];exact uE _ _ _ (aB _)
   obtain⟨q2,hq2⟩:∃q2,q2=q+m:=⟨_,rfl⟩;have arD:(q:Int)+(m:Int)=(q2:Int):=by omega
   have arE:q2<=s.length:=by omega
   have Vs:s.drop q2=l.drop (qd l):=by
    have e:qd l=(l.takeWhile iQ).length+m:=hsk;rw[e,hq2,hq,<-hd,zq,Nat.add_assoc]
   have HN:Hid (p+qd l=q2):=N ah;have hsl2:=λW=>oZ Tryz.underlying9 s q ah W
   rw[IK] at hsl2;have HW2:=λW (hb:Below w.1.size w W)=>N (wW ⟨(bI l).toArray⟩ 186 #[] Vq JC W (λr W' _=>ah8 r W') (Utf8Tabs_below HT.q hb))
   rw[<-hm] at HW2;have HSO:Hid (wV l=((l.drop (qd l)).head?==F||(l.drop (qd l)).head?==I 10)):=N (by unfold wV;rw[hk,Vr];rfl)
   cases hk2:l.drop (qd l) with
   |nil=>
    have hqe:q2=s.length:=by have:=bU List.length Vs;rw[gG,hk2] at this;simp at this;omega
    have hd3:((q2:Int)==(s.length:Int))=true:=by simp[hqe]
    have iW:Hid (wV l=true):=N (by rw[HSO.q,hk2];rfl);clear hsk IK hk hst hq Ii hb Vr hm hml hq2 Vs hqe hk2;go_enter func168,ntmps168;go_wp2_with fail;refine(HW _ (Below.refl _ _)).q.mono ?_;rintro e w1 ⟨rfl,hb1⟩;have HB1:=N hb1;clear hb1;go_wp2_with fail;refine(HW2 _ HB1.q).q.mono ?_;rintro e w2 ⟨rfl,hb2⟩;have HB2:=N (HB1.q.bZ hb2);clear hb2
    go_wp2_with (go_quiet (fail))
    go_ret2
    exact⟨by rw[HN.q,iW.q];rfl,gu HB2.q _⟩
   |cons b2 t2=>
    have abh:s[q2]?=I b2:=by
     have:=bU (λl=>l[0]?) Vs;rw[hk2] at this
     simpa using this
    have arb:q2<s.length:=(bO.1 abh).1;have Qo:=λW=>jM Tryz.underlying9 s q2 b2 abh W
    have hd3:((q2:Int)==(s.length:Int))=Z:=aU.2 ah;have iW:Hid (wV l=((b2.toNat:Int)==10)):=N (by rw[HSO.q,hk2];show(b2==10)=_;rw[Vo];rfl);clear hsk IK hk hst hq Ii hb Vr hm hml hq2 Vs hk2 abh
    cases hd4:((b2.toNat:Int)==10)
    all_goals
     rw[hd4] at iW;go_enter func168,ntmps168;go_wp2_with fail;refine(HW _ (Below.refl _ _)).q.mono ?_;rintro e w1 ⟨rfl,hb1⟩;have HB1:=N hb1;clear hb1;go_wp2_with fail;refine(HW2 _ HB1.q).q.mono ?_;rintro e w2 ⟨rfl,hb2⟩;have HB2:=N (HB1.q.bZ hb2);clear hb2
     go_wp2_with (go_quiet (fail))
     go_ret2
     exact⟨by rw[HN.q,iW.q];rfl,gu HB2.q _⟩
  .have hd2:((b.toNat:Int)==35)=Z:=aU.2 ah
   have hb':¬b=35:=λe=>hb (by rw[e];rfl)
   have HN:Hid (qd l=(l.takeWhile iQ).length/\wV l=true):=N (by unfold wV qd;rw[hk];simp[hb']);have HQ:=N hq;clear IK hk hst hq Ii hb hb';go_enter func168,ntmps168;go_wp2_with fail;refine(HW _ (Below.refl _ _)).q.mono ?_;rintro e w1 ⟨rfl,hb1⟩;have HB1:=N hb1;clear hb1;go_wp2_with fail
   go_ret2
   refine⟨?_,HB1.q⟩;rw[HN.q.1,HN.q.2,<-HQ.q];rfl
theorem KQ (s:ByteArray):∀(n p:O),∀x∈cK s n p,p<=x
 |0,_,_,h=>by simp[cK] at h
 |n+1,p,x,h=>by
  simp only[cK] at h
  split at h
  .rcases dU.1 h with rfl|h
   .exact aB _
   .exact bX (Nat.le_add_right _ _) (KQ s n _ x h)
  .cases h
theorem filter_all {α:Type}(p:α->Bool)(l:S α)(h:∀x∈l,p x=true):l.filter p=l:=List.filter_eq_self.2 h
theorem MZ {α:Type}(p:α->Bool)(l:S α)(h:∀x∈l,p x=Z):l.filter p=[]:=List.filter_eq_nil_iff.2 (λx hx=>by rw[h x hx];simp)
theorem ae3 (u:Bs)(hlim:u.length<=1000000)(w:U):Calls Tryz.prog 171 #[.string ⟨u.toArray⟩] w (dw (H G (u7 u:Int)) w):=by
 obtain⟨X,hX⟩:∃X,X=u7 u:=⟨_,rfl⟩;rw[<-hX];have hbz:=gQ u;have HX:Hid (X=(((cK ⟨u.toArray⟩ u.length 0).filter (λi=>decide (i<=24))).getLast?).getD 0):=N hX;clear hX;go_enter func171,ntmps171;go_wp2_with fail
 go_loopw [3] (λv wr=>∃(pos fuel:O)(pre:S O),v= H G (pre.getLast?.getD 0:O)/\pre++cK ⟨u.toArray⟩ fuel pos=cK ⟨u.toArray⟩ u.length 0/\(∀x∈pre,x<=24)/\u.length<=pos+fuel/\pos<=2000000/\wr.1[w.1.size]?=I (.stringIter ⟨u.toArray⟩ pos)/\Below w.1.size w wr) (λ_ wr=>u.length - wr.iterPos w.1.size)
 case atStart=>exact⟨0,u.length,[],rfl,rfl,by simp,by omega,by omega,World.iter_heap w ⟨u.toArray⟩ 0,jV w ⟨u.toArray⟩⟩
 case round=>
  obtain⟨pos,fuel,pre,rfl,hpre,hall,hfu,hpb,hit,hbw⟩:=hrel;by_cases hp:pos<u.length
  .have hnx:∀ty,(Instr.next (.pointer (I ⟨w.1.size,0,F⟩)) true ty).run Tryz.prog wr=_:=λty=>Lib.run_next_any_at wr w.1.size ⟨u.toArray⟩ pos ty hit (by rw[hbz];exact hp)
   have hwd:=width_pos ⟨u.toArray⟩ pos (by rw[hbz];exact hp);obtain⟨d,hd⟩:∃d,d=(Utf8.decode ⟨u.toArray⟩ pos).2:=⟨_,rfl⟩;have hw4:d<=u.length - pos:=by
    have:=zy (u.drop pos) (by intro e;have:=bU List.length e;rw[gG] at this;simp at this;omega);rw[<-rZ,<-hd,gG] at this;exact this
   rw[<-hd] at hnx hwd;obtain⟨f,rfl⟩:∃f,fuel=f+1:=⟨fuel - 1,by omega⟩;have J3:cK ⟨u.toArray⟩ (f+1) pos=pos::cK ⟨u.toArray⟩ f (pos+d):=by simp[cK,hbz,hp,hd]
   have hit2:=Lib.iterAt_heap wr w.1.size ⟨u.toArray⟩ pos (pos+d) hit;have hbw2:=Lib.below_iterAt hbw (k:=w.1.size) (aB _) ⟨u.toArray⟩ (pos+d);have HI:=N hit;have HI2:=N hit2;have HB2:=N hbw2;have HP:=N (J3▸hpre);have HA:=N hall;clear hit hit2 hbw hbw2 J3 hpre hall hd;by_cases xE:pos<=24
   .have hd1:decide ((24:Int)<(pos:Int))=Z:=bq ah
    go_wp2_with fail;go_roundw
    case rel=>exact⟨pos+d,f,pre++[pos],by simp,by rw[<-HP.q];simp,λx hx=>by
     rcases dm.1 hx with hx|hx
     .exact HA.q x hx
     .obtain rfl:x=pos:=by simpa using hx
      exact xE,by omega,by omega,HI2.q,HB2.q⟩
    case measure=>rw[iterPos_of HI2.q,iterPos_of HI.q];omega
   .have hd1:decide ((24:Int)<(pos:Int))=true:=bN ah
    have HE:Hid (X=pre.getLast?.getD 0):=N (by
     rw[HX.q,<-HP.q,List.filter_append,filter_all _ pre (λx hx=>by simpa using HA.q x hx),MZ _ _ (λx hx=>?_),dB];rcases dU.1 hx with rfl|hx
     .simpa using xE
     .have:=KQ _ _ _ x hx;simp;omega)
    go_wp2_with fail;go_ret;exact⟨by rw[HE.q];rfl,HB2.q⟩
  .have hnx:∀ty,(Instr.next (.pointer (I ⟨w.1.size,0,F⟩)) true ty).run Tryz.prog wr=_:=λty=>Lib.run_next_end_at wr w.1.size ⟨u.toArray⟩ pos ty hit (by rw[hbz];exact hp)
   have HE:Hid (X=pre.getLast?.getD 0):=N (by
    have e:cK ⟨u.toArray⟩ fuel pos=[]:=by cases fuel <;> simp[cK,hbz,hp]
    rw[HX.q,<-hpre,e,dB,filter_all _ pre (λx hx=>by simpa using hall x hx)])
   have HB:=N hbw;clear hpre hall hbw;go_wp2_with fail;go_ret;exact⟨by rw[HE.q];rfl,HB.q⟩
def dW (s:aH):Prop:=(∀x∈s.names,bF ⟨x.toArray⟩=true)/\(∀t∈s.aG,j5 t)/\
 ((s.kind=1/\s.names.length=2/\s.aG=[]/\(∃lv:O,s.lvl=lv/\1<=lv/\lv<=4)/\s.first=Z/\s.bits=0)\/
 (s.kind=2/\s.names.length=2/\s.aG=[]/\s.lvl=0/\s.first=Z/\s.bits=0)\/
 (s.kind=3/\s.names.length=2/\s.aG.length=1/\s.lvl=0/\s.first=Z/\s.bits=0)\/
 (s.kind=4/\(∃c:O,s.names.length=c+2/\s.aG.length=c/\c<=40)/\True/\s.lvl=0/\s.first=Z/\s.bits=0)\/
 (s.kind=5/\s.names.length=1/\s.aG=[]/\s.lvl=0/\s.first=Z/\s.bits=0)\/
 (s.kind=6/\s.names.length=1/\s.aG=[]/\s.lvl=0/\s.first=Z/\s.bits=0)\/
 (s.kind=7/\(∃c:O,s.names.length=c+1/\c<=300)/\s.aG=[]/\s.lvl=0/\s.first=Z/\s.bits=0)\/
 (s.kind=8/\(∃c:O,s.names.length=c+2/\c<=300)/\s.aG=[]/\s.lvl=0/\True/\s.bits=0)\/
 (s.kind=9/\s.names.length=1/\s.aG=[]/\s.lvl=0/\s.first=Z/\(∃b:O,s.bits=b/\b<=15)))
theorem dW.len {s:aH}(h:dW s):s.names.length<=1000/\s.aG.length<=1000:=by
 rcases h.2.2 with⟨_,h1,h2,_⟩|⟨_,h1,h2,_⟩|⟨_,h1,h2,_⟩|⟨_,h1,h2,_⟩|⟨_,h1,h2,_⟩|⟨_,h1,h2,_⟩|⟨_,h1,h2,_⟩|⟨_,h1,h2,_⟩|⟨_,h1,h2,_⟩
 .rw[h2];exact⟨by omega,by decide⟩
 .rw[h2];exact⟨by omega,by decide⟩
 .omega
 .obtain⟨c,h1,h2,h3⟩:=h1;omega
 .rw[h2];exact⟨by omega,by decide⟩
 .rw[h2];exact⟨by omega,by decide⟩
 .obtain⟨c,h1,h3⟩:=h1;rw[h2];exact⟨by omega,by decide⟩
 .obtain⟨c,h1,h3⟩:=h1;rw[h2];exact⟨by omega,by decide⟩
 .rw[h2];exact⟨by omega,by decide⟩
theorem Yo (l:S (Bs × To)):(l.flatMap (λp=>[p.1,gq p.2])).length=2*l.length:=by
 induction l with
 |nil=>rfl
 |cons a l ih=>rw[gY,bL,ih,dO];simp only[dO,iy];omega
theorem RU {s:aH}(h1:s.names.length<=1000)(h2:s.aG.length<=1000):(iE s).length<=5000:=by
 have ha:(if dG s.kind.toNat=108 then [kG s.lvl.toNat] else if dG s.kind.toNat=118 then(s.aG.take 1).map gq else if dG s.kind.toNat=103 then oW s.bits else if dG s.kind.toNat=109/\s.first=true then [[45]] else([]:S Bs)).length<=4:=by
  split
  .simp
  .split
   .rw[bH,fE];omega
   .split
    .exact II _ 4
    .split <;> decide
 have hb:(if dG s.kind.toNat=115 then((s.names.drop (bS s.kind.toNat).toNat).zip s.aG).flatMap (λp=>[p.1,gq p.2]) else s.names.drop (bS s.kind.toNat).toNat).length<=2000:=by
  split
  .rw[Yo,Ck];omega
  .rw[gG];omega
 have hc:(s.names.take (bS s.kind.toNat).toNat).length<=1000:=by rw[fE];omega
 simp only[iE,fu,dO,bL] at*;omega
theorem XD {s:aH}(h:dW s):(jL s).length<=300000:=by
 have h1:=RU h.len.1 h.len.2;have h2:=En _ (Gh s h.1 h.2.1);simp only[jL,bL,dO,iy];omega
def toB (t:To):Bool:=if t.k=0 then decide (t=⟨[],0⟩) else bF ⟨t.name.toArray⟩ && (decide (0<t.k) && decide (t.k<=999))
theorem Yp (t:To):toB t=true↔j5 t:=by
 unfold toB j5;by_cases h:t.k=0
 .rw[av h]
  simp only[aW];exact⟨.inl,λk=>k.elim id λk=>by omega⟩
 .rw[au h]
  simp only[aO,aW];exact⟨.inr,λk=>k.elim (λk=>absurd (by rw[k]) h) id⟩
def lI (r more:Int):Int:=if r=118 then 1 else if r=115 then more else 0
def zo (k:O)(s:aH):Bool:=
 (decide (bS k<=(s.names.length:Int)) && decide ((s.names.length:Int) - bS k<=ji (dG k)) && decide ((s.aG.length:Int)=lI (dG k) ((s.names.length:Int) - bS k)) && s.aG.all toB)
 && s.names.all (λx=>bF ⟨x.toArray⟩)
 && (((dG k==108)==(s.lvl !=0)) && (!s.first||dG k==109) && (s.bits==0||(dG k==103 && (decide (0<s.bits) && decide (s.bits<=15)))))
 && (s.lvl==0||fP s.lvl)
def iX (s:aH):Bool:=decide (0<=s.kind) && decide (s.kind<10) && zo s.kind.toNat s
theorem ae4 (t:To)(w:U)(hT:Lib.Utf8Tabs 6 7 w):Calls Tryz.prog 94 #[rV t] w (dw (.bool (toB t)) w):=by
 obtain⟨n,k⟩:=t;have hq:=Wp ⟨n,k⟩ ⟨[],0⟩;by_cases h0:k=0
 .subst h0
  have hb:toB ⟨n,0⟩=decide ((⟨n,0⟩:To)=⟨[],0⟩):=by unfold toB;rw[av rfl]
  rw[hb];clear hb hT;go_enter func94,ntmps94;go_wp2_with fail;go_ret;exact⟨by simp,aA (Below.refl _ _) _⟩
 .have hb0:=aA (Below.refl w.1.size w) (J #[.string ⟨n.toArray⟩,H G k] 144)
  have HW:=N (CR n _ (Utf8Tabs_below hT hb0));have HB:=N hb0;have HX:=N (Bx.new w #[.string ⟨n.toArray⟩,H G k] 144);have hk:(k==0)=Z:=aU.2 h0;have hB:toB ⟨n,k⟩=(bF ⟨n.toArray⟩ && (decide (0<k) && decide (k<=999))):=by unfold toB;rw[au h0]
  rw[hB];clear hT hb0 h0 hB hq
  cases hw:bF ⟨n.toArray⟩
  .rw[hw] at HW
   clear hw;go_enter func94,ntmps94;go_wp2_with fail;refine HW.q.mono ?_;rintro e w1 ⟨rfl,hb1⟩;have HB1:=N (HB.q.bZ hb1);clear hb1;simp only[DT,fF];go_wp2_with fail;go_ret;exact⟨rfl,HB1.q⟩
  .rw[hw] at HW
   clear hw
   cases h1:decide (0<k)
   .go_enter func94,ntmps94
    go_wp2_with fail;refine HW.q.mono ?_;rintro e w1 ⟨rfl,hb1⟩;have hx:=(HX.q.keep hb1).1;have HB1:=N (HB.q.bZ hb1);clear hb1;simp only[bY];go_wp2_with fail;go_ret;exact⟨rfl,HB1.q⟩
   .cases h2:decide (k<=999)
    all_goals
     go_enter func94,ntmps94;go_wp2_with fail;refine HW.q.mono ?_;rintro e w1 ⟨rfl,hb1⟩;have hx:=(HX.q.keep hb1).1;have HB1:=N (HB.q.bZ hb1);clear hb1;simp only[bY];go_wp2_with fail;go_ret;exact⟨rfl,HB1.q⟩
theorem Vt (t:To)(w:U)(hT:Lib.Utf8Tabs 6 7 w):Calls Tryz.prog 93 #[rV t] w (dw (.bool (!toB t)) w):=by
 have hb0:=aA (Below.refl w.1.size w) (J (R7 t) 144);have HW:=N (ae4 t _ (Utf8Tabs_below hT hb0));have HB:=N hb0;clear hT hb0;go_enter func93,ntmps93;go_wp2_with fail;refine HW.q.mono ?_;rintro e w1 ⟨rfl,hb1⟩;have HB1:=N (HB.q.bZ hb1);clear hb1;go_wp2_with fail;go_ret;exact⟨rfl,HB1.q⟩
theorem XF (l:Int)(w:U)(hg:kg w):Calls Tryz.prog 63 #[H G l] w (λe w'=>(∃t:Bs,e= .returned (.tuple #[.string ⟨t.toArray⟩,H G (if fP l=true then 0 else 190)]))/\Below w.1.size w w'):=by
 cases hb:fP l
 .have HL:=N (Gq hb)
  clear hb hg;go_enter func63,ntmps63;go_wp2_with fail;refine(CS _ _).mono ?_;rintro e w1 ⟨rfl,hb1⟩;rw[HL.q];have HB:=N hb1;clear hb1;go_wp2_with fail
  go_ret2
  exact⟨⟨[],rfl⟩,HB.q⟩
 .have h:=hb
  simp only[fP,aO,aW] at h;obtain⟨n,rfl⟩:∃n:O,l=(n:Int):=⟨l.toNat,by omega⟩;refine(LY n ah ah w hg).mono ?_;rintro e w1 ⟨rfl,hb1⟩;exact⟨⟨_,rfl⟩,hb1⟩
theorem gD.aaB {w:U}{B:O}{l:bE}{s:aH}(h:gD w B l s)(hn:s.names.length<=1000000)(hT:Lib.Utf8Tabs 6 7 w):
  Calls Tryz.prog 95 #[C l.na l.nn l.nc,.func (.func 96) #[] #[]] w (dw (.bool (!s.names.all (λx=>bF ⟨x.toArray⟩))) w):=by
 have:=TG l.na l.nn l.nc 96 #[] s.names (λs=>!bF ⟨s.toArray⟩) w (h.2.1.row ah) TF (λx _ W hb=>by simpa using JZ x W (Utf8Tabs_below hT hb))
 rwa[show s.names.any (λs=>!bF ⟨s.toArray⟩)=!s.names.all (λx=>bF ⟨x.toArray⟩) by simp[List.any_eq_not_all_not]] at this
theorem gD.aeN {w:U}{B:O}{l:bE}{s:aH}(h:gD w B l s)(hn:s.aG.length<=1000000)(hT:Lib.Utf8Tabs 6 7 w):
  Calls Tryz.prog 92 #[C l.va l.vn l.vc,.func (.func 93) #[] #[]] w (dw (.bool (!s.aG.all toB)) w):=by
 have:=Ya l.va l.vn l.vc 93 #[] s.aG (λt=>!toB t) w (h.2.2.row ah) TD (λx hx W hb=>by simpa using Vt x W (Utf8Tabs_below hT hb))
 rwa[show s.aG.any (λt=>!toB t)=!s.aG.all toB by simp[List.any_eq_not_all_not]] at this
theorem Tg {vs:S To}(h:vs.all toB=true):∀t∈vs,j5 t:=λt ht=>(Yp t).1 (fA.1 h t ht)
theorem yN {s:aH}(h:iX s=true):s.kind=0\/dW s:=by
 obtain⟨kd,names,lvl,aG,first,bits⟩:=s;unfold iX zo at h;simp only[aO,aW] at h;obtain⟨⟨h0,h10⟩,⟨⟨⟨⟨⟨a1,a2⟩,a3⟩,a4⟩,a5⟩,⟨b1,b2⟩,b3⟩,c⟩:=h;obtain⟨k,rfl⟩:∃k:O,kd=(k:Int):=⟨kd.toNat,by omega⟩;simp only[jB] at a1 a2 a3 b1 b2 b3;have hw:∀x∈names,bF ⟨x.toArray⟩=true:=fA.1 a5;have ht:=Tg a4;have hv0:(aG.length:Int)=0->aG=[]:=λh=>Av ah
 have Cu:∀(r:Int),(bits==0||(r==103 && (decide (0<bits) && decide (bits<=15))))=true->r≠103->bits=0:=λr h hr=>by
  rw[aU.2 hr] at h;simpa using h
 have Gs:∀(r:Int),(!first||r==109)=true->r≠109->first=Z:=λr h hr=>by
  rw[aU.2 hr] at h;simpa using h
 have Gt:∀(r:Int),((r==108)==(lvl !=0))=true->r≠108->lvl=0:=λr h hr=>by
  rw[aU.2 hr] at h;simpa using h
 rcases(by omega:k=0\/k=1\/k=2\/k=3\/k=4\/k=5\/k=6\/k=7\/k=8\/k=9) with rfl|rfl|rfl|rfl|rfl|rfl|rfl|rfl|rfl|rfl
 .exact .inl rfl
 .right
  simp only[bS,dG,lI,ji,Int.reduceEq,fF,or_self] at a1 a2 a3 b1 b2 b3;have hl:lvl≠0:=by simpa using b1
  have hc:fP lvl=true:=by
   rw[aU.2 hl] at c;simpa using c
  simp only[fP,aO,aW] at hc;exact⟨hw,ht,.inl ⟨rfl,by show names.length=2;omega,hv0 a3,⟨lvl.toNat,by show lvl=_;omega,by omega,by omega⟩,Gs _ b2 aj,Cu _ b3 aj⟩⟩
 .right
  simp only[bS,dG,lI,ji,Int.reduceEq,fF,or_self] at a1 a2 a3 b1 b2 b3;exact⟨hw,ht,.inr (.inl ⟨rfl,by show names.length=2;omega,hv0 a3,Gt _ b1 aj,Gs _ b2 aj,Cu _ b3 aj⟩)⟩
 .right
  simp only[bS,dG,lI,ji,Int.reduceEq,fF,bY,or_self] at a1 a2 a3 b1 b2 b3;exact⟨hw,ht,.inr (.inr (.inl ⟨rfl,by show names.length=2;omega,by show aG.length=1;omega,Gt _ b1 aj,Gs _ b2 aj,Cu _ b3 aj⟩))⟩
 .right
  simp only[bS,dG,lI,ji,Int.reduceEq,fF,bY,or_self] at a1 a2 a3 b1 b2 b3;exact⟨hw,ht,.inr (.inr (.inr (.inl ⟨rfl,⟨names.length - 2,by show names.length=_;omega,by show aG.length=_;omega,by omega⟩,trivial,Gt _ b1 aj,Gs _ b2 aj,Cu _ b3 aj⟩)))⟩
 .right
  simp only[bS,dG,lI,ji,Int.reduceEq,fF,or_self] at a1 a2 a3 b1 b2 b3;exact⟨hw,ht,.inr (.inr (.inr (.inr (.inl ⟨rfl,by show names.length=1;omega,hv0 a3,Gt _ b1 aj,Gs _ b2 aj,Cu _ b3 aj⟩))))⟩
 .right
  simp only[bS,dG,lI,ji,Int.reduceEq,fF,or_self] at a1 a2 a3 b1 b2 b3;exact⟨hw,ht,.inr (.inr (.inr (.inr (.inr (.inl ⟨rfl,by show names.length=1;omega,hv0 a3,Gt _ b1 aj,Gs _ b2 aj,Cu _ b3 aj⟩)))))⟩
 .right
  simp only[bS,dG,lI,ji,Int.reduceEq,fF,bY,or_false] at a1 a2 a3 b1 b2 b3;exact⟨hw,ht,.inr (.inr (.inr (.inr (.inr (.inr (.inl ⟨rfl,⟨names.length - 1,by show names.length=_;omega,by omega⟩,hv0 a3,Gt _ b1 aj,Gs _ b2 aj,Cu _ b3 aj⟩))))))⟩
 .right
  simp only[bS,dG,lI,ji,Int.reduceEq,fF,bY,or_true] at a1 a2 a3 b1 b2 b3;exact⟨hw,ht,.inr (.inr (.inr (.inr (.inr (.inr (.inr (.inl ⟨rfl,⟨names.length - 2,by show names.length=_;omega,by omega⟩,hv0 a3,Gt _ b1 aj,trivial,Cu _ b3 aj⟩)))))))⟩
 .right
  simp only[bS,dG,lI,ji,Int.reduceEq,fF,or_self] at a1 a2 a3 b1 b2 b3;have hb:∃b:O,bits=b/\b<=15:=by
   by_cases h0:bits=0
   .exact⟨0,h0,by omega⟩
   .rw[aU.2 h0] at b3
    simp at b3;exact⟨bits.toNat,by omega,by omega⟩
  exact⟨hw,ht,.inr (.inr (.inr (.inr (.inr (.inr (.inr (.inr ⟨rfl,by show names.length=1;omega,hv0 a3,Gt _ b1 aj,Gs _ b2 aj,hb⟩)))))))⟩
theorem Eo {s:aH}(hs:dW s):iX s=true:=by
 obtain⟨kd,ns,lv,vs,fi,bt⟩:=s;obtain⟨hw,hv,hc⟩:=hs;simp only at hw hv hc;have hA:ns.all (λx=>bF ⟨x.toArray⟩)=true:=fA.2 hw;have hB:vs.all toB=true:=fA.2 (λt ht=>(Yp t).2 (hv t ht));unfold iX zo;rw[hA,hB];rcases hc with⟨rfl,hl,rfl,⟨lw,rfl,h1,h4⟩,rfl,rfl⟩|⟨rfl,hl,rfl,rfl,rfl,rfl⟩|⟨rfl,hl,hvl,rfl,rfl,rfl⟩|⟨rfl,⟨cc,hl,hvl,hcc⟩,_,rfl,rfl,rfl⟩|⟨rfl,hl,rfl,rfl,rfl,rfl⟩|⟨rfl,hl,rfl,rfl,rfl,rfl⟩|⟨rfl,⟨cc,hl,hcc⟩,rfl,rfl,rfl,rfl⟩|⟨rfl,⟨cc,hl,hcc⟩,rfl,rfl,_,rfl⟩|⟨rfl,hl,rfl,rfl,rfl,⟨bb,rfl,hbb⟩⟩
 .have:lw=1\/lw=2\/lw=3\/lw=4:=by omega
  rcases this with rfl|rfl|rfl|rfl <;> simp[bS,dG,ji,lI,hl,fP]
 .simp[bS,dG,ji,lI,hl,fP]
 .simp[bS,dG,ji,lI,hl,hvl,fP]
 .simp[bS,dG,ji,lI,hl,hvl,fP];omega
 .simp[bS,dG,ji,lI,hl,fP]
 .simp[bS,dG,ji,lI,hl,fP]
 .simp[bS,dG,ji,lI,hl,fP];omega
 .simp[bS,dG,ji,lI,hl,fP];omega
 .simp[bS,dG,ji,lI,hl,fP];omega
def oJ (s:aH):Bs:=if s.kind=0 then [10] else jL s
def vB (w:U):Prop:=Lib.Utf8Tabs 6 7 w/\∀i,i<4->w.cell? ⟨4,i,F⟩=I (H G (mD i:Int))
def Qp (R k:O)(cs:Array Value)(L:S Bs)(s:Bs)(w:U)(e:Ending)(w':U):Prop:=
 Same (λi=>i≠R) w w'/\
 if(s∈L\/L.length<300)/\(dL L s).length<=mD k then e= .returned (H G (sN L s:Int))/\∃a' c',Own w' w.1.size 9 1 encStr (C a' (dL L s).length c') (dL L s)/\Bx w' R (cs.setIfInBounds (8+k) (C a' (dL L s).length c'))
 else e= .panicked kK
theorem aeW (k:O)(hk:k<4)(R:O)(L:S Bs)(a:Option Addr)(c:O)(s:Bs)(w:U)(cs:Array Value)(hB:Bx w R cs)(hC:cs[(8+k)]?=I (C a L.length c))(hr:Row w 1 encStr a L.length c L)(hL:DU L)(hs:bF ⟨s.toArray⟩=true)(hG:vB w):
  Calls Tryz.prog 142 #[.pointer (I ⟨R,0,F⟩),H G (k:Int),.string ⟨s.toArray⟩] w (Qp R k cs L s w):=by
 have HK:=N hk;have hk4:(k:Int)<4:=by omega
 have HP:=N (Ww L a c s w hr hL hs hG.1);have HG:=N hG;have fQ:=N hB;have HC:=N hC;have hx:w.cell? ⟨R,8+k,F⟩=I (C a L.length c):=(hB.1 (8+k)).trans hC;clear hr hL hs hG hB hC hk;go_enter func142,ntmps142;go_wp2_with fail;refine HP.q.mono ?_;rintro e w1 ⟨hb1,he⟩;have HB1:=N hb1;by_cases hput:s∈L\/L.length<300
 .rw[av hput] at he
  obtain⟨a',c',rfl,hown⟩:=he;have HO:=N hown;have Jh:=N hput;have hg:=bn hb1 rfl (HG.q.2 k HK.q);have hcG:((w1.alloc (J #[C a' (dL L s).length c'] 120)).drew).cell? ⟨4,k,F⟩=I (H G (mD k:Int)):=by
   have:=bn (aA (Below.refl w1.1.size w1) (J #[C a' (dL L s).length c'] 120)) rfl hg;exact this
  have hcT:((w1.alloc (J #[C a' (dL L s).length c'] 120)).drew).cell? ⟨w1.1.size,0,F⟩=I (C a' (dL L s).length c'):=(Bx.new w1 #[C a' (dL L s).length c'] 120).1 0;have HB2:=N (hb1.trans ((aA (Below.refl w1.1.size w1) (J #[C a' (dL L s).length c'] 120)).mono hb1.size));have l8:=N (hown.below (aA (Below.refl w1.1.size w1) (J #[C a' (dL L s).length c'] 120)) rfl);have hb2:Below w.1.size w _:=hb1.trans ((aA (Below.refl w1.1.size w1) (J #[C a' (dL L s).length c'] 120)).mono hb1.size);have hcR:(w1.alloc (J #[C a' (dL L s).length c'] 120)).cell? ⟨R,8+k,F⟩=I (C a L.length c):=((fQ.q.keep hb2).1 (8+k)).trans HC.q;have IL:(w1.alloc (J #[C a' (dL L s).length c'] 120)).frozen? ⟨R,8+k,F⟩=Z:=(fQ.q.keep hb2).2.1 (8+k);have aop:=N hb2;clear hb1 hown hput hg hb2;go_wp2_with fail;by_cases hfit:(dL L s).length<=mD k
  .have HF:=N hfit
   have hdec:decide (((dL L s).length:Int)<=(mD k:Int))=true:=bN ah;clear hfit;refine dA 99 [(0,0),(1,0),(2,0),(3,0),(4,0),(5,0),(6,0),(7,0),(8,0),(9,0),(10,0),(11,2)] (λ_=>True) (λW'=>W'.cell? ⟨w1.1.size,0,F⟩=I (C a' (dL L s).length c')/\W'.cell? ⟨4,k,F⟩=I (H G (mD k:Int))) (λ_ _=>False) ay ay (λch a1 w1 hd hr=>hr.elim) (trivial) (⟨hcT,hcG⟩) ?_;refine qC ?_;refine aF rfl rfl (λK hK=>?_);go_simp;refine(mU _ _).mono ?_;rintro e w2 ⟨rfl,rfl⟩;rw[av (by simpa using hdec)];refine hK _ _ ⟨trivial,hcT,hcG⟩ ?_;clear hK K;refine jA ?_;go_wp2_with fail;refine aC 6 [(0,1),(1,1),(2,0),(3,1),(4,1),(5,1),(6,2)] (λ_=>True) (λW'=>W'.cell? ⟨w1.1.size,0,F⟩=I (C a' (dL L s).length c')) ay ay (trivial) (hcT) ?_;refine qC ?_;refine bC rfl rfl rfl (λK hK=>?_);go_simp;go_simp;refine hK _ _ trivial ?_;clear hK K;refine aP ?_;go_wp2_with fail;go_ret;refine⟨((Same.of_below HB2.q (λ_ _ h=>h)).setTail (λh=>h rfl)).nQ.nQ,?_⟩;rw[av ⟨Jh.q,HF.q⟩];refine⟨rfl,a',c',?_,?_⟩
   .refine l8.q.same (A:=λi=>i≠R) (((Same.refl' _).setTail (λh=>h rfl)).nQ.nQ) (λg hg e=>?_)
    have h1:=(l8.q.lt g hg).1;have h2:=fQ.q.2.2;omega
   .have h1:(8+k)<cs.size:=(dh.1 HC.q).1
    exact(((fQ.q.keep aop.q).bf (8+k) h1 _).drew).drew
  .have HF:=N hfit
   have hdec:decide (((dL L s).length:Int)<=(mD k:Int))=Z:=bq ah;have RES:Hid (∀ch w',(ch=kK/\w'=(w1.alloc (J #[C a' (dL L s).length c'] 120)).drew)->Qp R k cs L s w (.panicked ch) w'):=N (by
    rintro ch w' ⟨rfl,rfl⟩;refine⟨(Same.of_below HB2.q (λ_ _ h=>h)).nQ,?_⟩;rw[au (λh=>HF.q h.2)])
   clear hfit;refine dA 99 [(0,0),(1,0),(2,0),(3,0),(4,0),(5,0),(6,0),(7,0),(8,0),(9,0),(10,0),(11,2)] (λ_=>True) (λW'=>W'.cell? ⟨w1.1.size,0,F⟩=I (C a' (dL L s).length c')/\W'.cell? ⟨4,k,F⟩=I (H G (mD k:Int))) (λch w'=>ch=kK/\w'=(w1.alloc (J #[C a' (dL L s).length c'] 120)).drew) ay ay (λch a1 w1 hd hr=>⟨hd,RES.q ch w1 hr⟩) (trivial) (⟨hcT,hcG⟩) ?_;refine qC ?_;refine aF rfl rfl (λK hK=>?_);go_simp;refine(mU _ _).mono ?_;rintro e w2 ⟨rfl,rfl⟩;rw[au (by simpa using hdec)];exact⟨rfl,rfl,rfl⟩
 .rw[au hput] at he
  subst he;have RES:Hid (∀ch w',(ch=kK/\w'=(w1.alloc (J #[C F 0 0] 120)).drew)->Qp R k cs L s w (.panicked ch) w'):=N (by
   rintro ch w' ⟨rfl,rfl⟩;refine⟨(Same.of_below (hb1.trans ((aA (Below.refl w1.1.size w1) _).mono hb1.size)) (λ_ _ h=>h)).nQ,?_⟩;rw[au (λh=>hput h.1)])
  clear hb1 hput;go_wp2_with fail;refine dA 99 [(0,0),(1,0),(2,0),(3,0),(4,0),(5,0),(6,0),(7,0),(8,0),(9,0),(10,0),(11,2)] (λ_=>True) (λ_=>True) (λch w'=>ch=kK/\w'=(w1.alloc (J #[C F 0 0] 120)).drew) ay ay (λch a1 w1 hd hr=>⟨hd,RES.q ch w1 hr⟩) (trivial) (trivial) ?_;refine qC ?_;refine aF rfl rfl (λK hK=>?_);go_simp;refine(mU _ _).mono ?_;rintro e w2 ⟨rfl,rfl⟩;rw[au ak];exact⟨rfl,rfl,rfl⟩
end Yd
