import Derived.Test.YtddiadcpokbpoabGreatDoorKPoke
import Derived.Test.YtddiadcpokbpoabGreatDoorKMp
import Derived.DeepKeys4
import Derived.Recover
import Derived.Defers
set_option linter.all false
set_option maxRecDepth 200000
set_option maxHeartbeats 8000000
namespace Yd
open Option renaming some->J
open Go Go.RowKit Go.Proofs Go.Maps Tryz
open Go renaming World->C,Value->N
open Go.IntKind renaming i64->D
open Go.Value renaming int->L,pointer->O
open Tryz renaming prog->G
open _root_ renaming List->H,Nat->I,absurd->M
theorem Kq:221<Tryz.prog.types.size:=rJ ay
theorem QG:(match Tryz.prog.underlying 221 with|some (.array _ _)|some (.struct _)=>true|_=>false)=true:=ay
theorem Uf:laidOutB G=true:=ay
theorem VO:Tryz.prog.keyTypeAt 3 221=true:=ay
theorem Kr:WideMaps.KeyLaw G 221:=deep_law_laid Uf (m:=3) ah Kq VO QG
theorem QH:Tryz.prog.keyType 221=true:=ay
theorem Fy:Tryz.prog.cellsOf 221=2:=ay
theorem Oa:Tryz.prog.cellsOf 3=1:=ay
theorem Kt (u:C):(zeroValue 3).run G u= .ok (L D 0) u:=ay
def Yw (t x:Int):Lit:= .string (keyBytes [.int .i64 t,.int .i64 x])
theorem QI (t x:Int)(a:(Lit.int D t).wf=true)(b:(Lit.int D x).wf=true)(n:I):Tryz.prog.keyLits (n+2) 221 [L D t,L D x]=J [.int .i64 t,.int .i64 x]:=by
 have d:Tryz.prog.keyLits (n+1) 3 [L D t]=J [.int .i64 t]:=by
  unfold Program.keyLits;rw[underlying3];simp[a]
 have e:Tryz.prog.keyLits (n+1) 3 [L D x]=J [.int .i64 x]:=by
  unfold Program.keyLits;rw[underlying3];simp[b]
 unfold Program.keyLits;rw[underlying221];simp[Fy,Oa,List.mapM_cons,d,e]
theorem Hz {t x:Int}(a:(Lit.int D t).wf=true)(b:(Lit.int D x).wf=true):keyOf G 221 (mI t x)=J (Yw t x):=by
 have d:Tryz.prog.types.size+1=(Tryz.prog.types.size - 1)+2:=by have:=Kq;omega
 unfold keyOf;rw[underlying221];simp only[QH,d];rw[av (by simp[Value.formed,underlying221,Fy])];rw[show(mI t x).cells.toList=[L D t,L D x] from rfl,QI t x a b]
 rfl
def jW (W:C)(b:I)(E:H EvC):Prop:=∃n f,n<=E.length/\l5 G 221 3 W b n f/\∀t x,(f t x).getD 0=(fC E t x:Int)
theorem jW.new (w:C):jW (w.alloc (.map #[] 0)) w.1.size []:=⟨0,_,bn _,l5.new w,λ_ _=>rfl⟩
variable{W X:C}{b:I}{E:H EvC}
theorem jW.of_eq (h:jW W b E)(q:X.1[b]?=W.1[b]?):jW X b E:=(let⟨n,f,a,d,e⟩:=h;⟨n,f,a,d.of_eq q,e⟩)
theorem jW.obj (h:jW W b E):∃es a,W.1[b]?=J (.map es a):=(let⟨_,_,_,d,_⟩:=h;d.obj)
theorem jW.lt (h:jW W b E):b<W.1.size:=(let⟨_,_,_,a,_⟩:=h;a.lt)
theorem jW.same {A:I->Prop}(h:jW W b E)(s:Same A W X)(a:A b):jW X b E:=h.of_eq (s.block b a h.lt)
theorem jW.other {e:EvC}(h:jW W b E)(a:e.kind≠2):jW W b (E++[e]):=
 (let⟨n,f,i,d,g⟩:=h;⟨n,f,by rw[bO];omega,d,λt x=>by rw[g,rT,au (λk=>a k.1)];rfl⟩)
theorem jW.look (h:jW W b E){t x:Int}(a:(Lit.int D t).wf=true)(d:(Lit.int D x).wf=true):
  (Instr.lookup 161 (.map (J b)) (.agg #[L D t,L D x]) false).run G W= .ok (L D (fC E t x:Int)) W:=by
 obtain⟨n,f,_,e,g⟩:=h;rw[<-g];exact e.look Kr underlying161 underlying3 (Kt W) (Hz a d)
theorem jW.bump (h:jW W b E)(Y:E.length<=3000)(e:EvC)(s:e.kind=2)(u:(Lit.int D e.t).wf=true)(w:(Lit.int D e.obj).wf=true):
  ∃(l:N)(j:I)(a g:C),(Instr.mapEntry 161 (.map (J b)) (.agg #[L D e.t,L D e.obj])).run G W= .ok (.tuple #[l,L D j]) a/\
   (Instr.lookup 161 (.map (J b)) (.agg #[L D e.t,L D e.obj]) false).run G a= .ok (L D (fC E e.t e.obj:Int)) a/\
   (Instr.entryStore 161 (.map (J b)) (L D j) (L D ((fC E e.t e.obj:Int)+1))).run G a= .ok () g/\Same (λi=>i≠b) W a/\Same (λi=>i≠b) W g/\jW g b (E++[e]):=by
 obtain⟨n,f,Z,y,m⟩:=h;have hl:=Fz E e.t e.obj;obtain⟨l,j,a,g,z,p,A,⟨F,P⟩,⟨Q,S⟩,T⟩:=y.entry Kr underlying161 underlying3 Kt (by unfold maxLen;omega) (Hz u w) (v:=(fC E e.t e.obj:Int)+1) (WalkArith.wf_i64 ah);rw[m] at p;have r:∀o,Same (λi=>i≠b) W (ChangeMaps.setBlock W b o):=λo=>⟨rfl,rfl,rfl,by simp[ChangeMaps.setBlock],λi X _=>by
  show(W.1.setIfInBounds b o)[i]?=_;rw[qx (λq=>X q.symm)]⟩
 refine⟨l,j,a,g,z,p,A,P▸r F,S▸r Q,n+1,_,by rw[bO,kG];omega,T,λt x=>?_⟩;rw[rT];show((if t=e.t/\x=e.obj then J _ else f t x:Option Int)).getD 0=_;by_cases d:t=e.t/\x=e.obj
 .rw[av d,av ⟨s,d.1.symm,d.2.symm⟩,d.1,d.2];rfl
 .rw[au d,au (λk=>d ⟨k.2.1.symm,k.2.2.symm⟩),m];rfl
variable{c:Cont}
theorem Yx {d:Cont}{n:I->H Bs}(h:Nm c d)(a:d.nl=n):{c with nl:=n}=d:=by
 obtain⟨l,m,o,p,q,r,s,t⟩:=d;obtain⟨b,e,f,g,i,j,k⟩:=h;simp only at a b e f g i j k;subst a b e f g i j k
 rfl
structure ji (B:I)(w:C)(R:I)(cs:Array N)(c:Cont)(es:H EvC)(ds:H aG)(ms:H aK):Prop where
 s:zY w R cs c es ds ms
 m:∃mb,cs[12]?=J (.map (J mb))/\jW w mb c.E/\B<=mb
 b:B<=R
variable{w:C}
theorem Bx.wG {R:I}{cs:Array N}{v:N}{j:I}(h:Bx w R cs)(f:cs[j]?=J v)(a:∃es d,w.1[b]?=J (.map es d)):b≠R:=λe=>by
 obtain⟨es,d,a⟩:=a;subst e;have:=(h.1 j).trans f;unfold World.cell? at this;simp[a] at this
theorem ji.tN {B:I}{Y:C}{R:I}{cs f:Array N}{es:H EvC}{i:H aG}{j:H aK}{nl:I->H Bs}(h:ji B X R cs c es i j)(b:Same (λk=>k≠R) X Y)(l:DV Y R f nl)(d:∀a,a<8\/a=12->f[a]?=cs[a]?):
  ji B Y R f {c with nl:=nl} es i j:=
 ⟨h.s.tN b l (λa m=>d a (.inl m)),(let⟨n,e,g,o⟩:=h.m;⟨n,(d 12 (.inr rfl)).trans e,g.same b (h.s.t.b.wG e g.obj),o⟩),h.b⟩
theorem ji.below {B:I}{Y:C}{R:I}{cs:Array N}{es:H EvC}{i:H aG}{j:H aK}(h:ji B X R cs c es i j)(a:Below X.1.size X Y):ji B Y R cs c es i j:=
 h.tN (Same.of_below a (λ_ _ h=>h)) (h.s.t.below a) (λ_ _=>rfl)
def zm (T:TypeId):Prop:=T≠49/\T≠57/\T≠60/\T≠63/\T≠53
def nA (w:C)(a:I):Prop:=∀i,a<=i->i<a+3->∃q T b,w.1[i]?=J (.cells q T b)/\zm T
def lY (B a:I)(w:C):Prop:=∀W,Same (λi=>i<B\/(a<=i/\i<a+3)) w W->qY W
theorem lY.same {B:I}(h:lY B b w)(s:Same (λi=>i<B\/(b<=i/\i<b+3)) w X):lY B b X:=λW k=>h W (s.tr k)
theorem lY.r {B R:I}(h:lY B b w)(a:B<=R)(d:R<b):zn R w:=λW k=>h W (k.mono (λi e _=>by omega))
theorem lY.here {B:I}(h:lY B b w):qY w:=h w (Same.refl' w)
theorem Same.CK {B:I}(s:Same (λi=>i<B\/(b<=i/\i<b+3)) w X)(h:nA w b):nA X b:=
 λi a d=>(let⟨q,T,f,e,g⟩:=h i a d;⟨q,T,f,(s.block i (.inr ⟨a,d⟩) (dS.1 e).1).trans e,g⟩)
def gL (B a R:I)(d:Cont)(w:C)(e:Ending)(b:C):Prop:=
 Same (λi=>i<B\/(a<=i/\i<a+3)) w b/\(aI d->e= .returned (.tuple #[])/\∃cs es ds ms,ji B b R cs d es ds ms)/\(¬aI d->e= .panicked jT)
section
variable {B K R:I}{cs:Array N}{c:Cont}{es:H EvC}{ds:H aG}{ms:H aK}
theorem iB (k:I)(l:k<4)(s:Bs)(w:C)(h:ji B w R cs c es ds ms)(o:aI c)(p:bG ⟨s.toArray⟩=true)(q:lY B K w):
  Calls G 150 #[O (J ⟨R,0,none⟩),L D (k:Int),.string ⟨s.toArray⟩] w (λe f=>Same (λi=>i≠R) w f/\
   (aI (c.put k s)->e= .returned (L D (c.no k s))/\∃a,ji B f R a (c.put k s) es ds ms/\a.size=cs.size/\∀j,j<8\/j=12->a[j]?=cs[j]?)/\(¬aI (c.put k s)->e= .panicked jT)):=by
 refine(Aw k l s w h.s.t p q.here).mono ?_;rintro e f ⟨m,b⟩;refine⟨m,?_⟩;rw[H6 o l];by_cases d:(dJ (c.nl k) s).length<=jU k
 .rw[av d] at b
  obtain⟨rfl,a,r,t,n⟩:=b;exact⟨λ_=>⟨rfl,a,h.tN m r (λj u=>n j ah),t,λj u=>n j ah⟩,λg=>M d g⟩
 .rw[au d] at b
  exact⟨λg=>M g d,λ_=>b⟩
theorem Ku (v:To)(w:C)(h:ji B w R cs c es ds ms)(n:aI c)(o:jK v)(p:lY B K w):
  Calls G 152 #[O (J ⟨R,0,none⟩),pR v] w (λe g=>Same (λi=>i≠R) w g/\
   (aI (c.dh v).1->e= .returned (.agg #[L D (c.dh v).2.t,L D (c.dh v).2.k])/\∃b,ji B g R b (c.dh v).1 es ds ms/\b.size=cs.size/\∀j,j<8\/j=12->b[j]?=cs[j]?)/\(¬aI (c.dh v).1->e= .panicked jT)):=by
 refine(LJ v o w h.s.t p.here).mono ?_;rintro e g ⟨l,d⟩;refine⟨l,?_⟩;rw[QJ n];by_cases f:v.k=0\/(dJ (c.nl 0) v.name).length<=jU 0
 .rw[av f] at d
  obtain⟨rfl,b,q,r,m⟩:=d;refine⟨λ_=>⟨?_,b,?_,r,λj s=>m j ah⟩,λk=>M f k⟩
  .unfold Cont.dh
   by_cases a:v.k=0
   .rw[av a,av a,a]
   .rw[au a,au a];rfl
  .have:=h.tN l q (λj s=>m j ah)
   unfold Cont.dh;unfold SX at this;by_cases a:v.k=0
   .rw[av a] at this ⊢;exact this
   .rw[au a] at this ⊢;exact this
 .rw[au f] at d
  exact⟨λk=>M k f,λ_=>d⟩
theorem Ob (l:H Bs)(g:Option Addr)(n r:I)(w:C)(h:ji B w R cs c es ds ms)(v:aI c)(x:Row w 1 encStr g n r l)(y:∀b o,g=J ⟨b,o,none⟩->b≠R)(z:∀s∈l,bG ⟨s.toArray⟩=true)(d:n<=100000)(A:lY B K w)(E:R<K):
  Calls G 153 #[O (J ⟨R,0,none⟩),.slice g n r] w (λe k=>Same (λi=>i≠R) w k/\
   (aI (c.ts l).1->∃a q,e= .returned (.slice a l.length q)/\Own k w.1.size 3 1 aS (.slice a l.length q) (c.ts l).2/\∃f,ji B k R f (c.ts l).1 es ds ms/\f.size=cs.size/\∀j,j<8\/j=12->f[j]?=cs[j]?)/\(¬aI (c.ts l).1->e= .panicked jT)):=by
 refine(Yy l g n r w h.s.t x y z d (A.r h.b E)).mono ?_;rintro e k ⟨t,m⟩;refine⟨t,?_⟩;rw[Ug v];by_cases p:((kR c.nl l).1 0).length<=jU 0
 .rw[av p] at m
  obtain⟨a,q,f,rfl,F,P,Q,u⟩:=m;have S:{c with nl:=(kR c.nl l).1}=(c.ts l).1:=Yx (Nm.ts l c) (Gy l c).1;refine⟨λ_=>⟨a,q,rfl,by rw[(Gy l c).2];exact F,f,?_,Q,λj T=>u j ah⟩,λd=>M p d⟩;rw[<-S];exact h.tN t P (λj T=>u j ah)
 .rw[au p] at m
  exact⟨λd=>M d p,λ_=>m⟩
theorem DW (a:EvC)(l:H Sn)(w:C)(h:zY w R cs c es ds ms)(F:∃b,cs[12]?=J (.map (J b))/\jW w b (c.E++[a.base])/\B<=b)(P:B<=R)(u:aI c)(Q:Own w (R+1) 53 3 cZ a.val l)(S:a.kind=2->a.v.k<=999)(W:nA w K)(γ:R<K):
  Calls G 149 #[O (J ⟨R,0,none⟩),fT a] w (λe n=>(∀g q T v,w.1[g]?=J (.cells q T v)->T≠49->g≠R->n.1[g]?=w.1[g]?)/\gL B K R (c.ev a.base l) w e n):=by
 obtain⟨v4,x,d⟩:=h.e;have y:es.length=c.E.length:=by rw[<-h.be,bg]
 refine(H8 a w h.t.b x d (by rw[y];exact u.2.1)).mono ?_;rintro e n ⟨j,k⟩;refine⟨λg q T v o p X=>j.block g ⟨X,λq=>by
  obtain⟨Y,Z,r⟩:=d.tag q;rw[r] at o
  cases o
  exact p rfl⟩ (dS.1 o).1,j.mono (λi f _=>⟨by omega,λq=>by
  rcases f with f|f
  .have:=(d.lt i q).1;omega
  .obtain⟨_,_,q1⟩:=d.tag q
   obtain⟨_,T,_,z,p⟩:=W i f.1 f.2;rw[q1] at z
   cases z
   exact p.1 rfl⟩),?_⟩
 rw[Kv u,<-y];by_cases m:es.length<3000
 .rw[av m] at k
  obtain⟨rfl,v',α,β⟩:=k;obtain⟨b,A,s,m3⟩:=F;refine⟨λ_=>⟨rfl,_,_,_,_,h.event x j α β Q,⟨b,?_,?_,m3⟩,P⟩,λt=>M ⟨m,S⟩ t⟩
  .rw[qx ah];exact A
  .refine s.same j ⟨h.t.b.wG A s.obj,λq=>?_⟩
   obtain⟨Y,Z,r⟩:=d.tag q;obtain⟨_,_,E⟩:=s.obj;rw[r] at E;cases E
 .rw[au m] at k
  exact⟨λt=>M t.1 m,λ_=>k⟩
end
end Yd
namespace Yd
open Option renaming none->I,some->L
open Go Go.RowKit Go.Proofs Tryz
open Go.IntKind renaming i64->H
open Go.Obj renaming cells->U
open Go.RowKit renaming Hid->N
open Go.Value renaming int->G,slice->J
open Same renaming of_below->O
open World renaming cell?_of_block->V
open Yd renaming hid->C
structure tO (w:World)(B:Nat)(l:bH)(s:aJ):Prop where
 k:l.kind=s.kind/\l.lvl=s.lvl/\l.first=s.first/\l.bits=s.bits/\l.nn=s.names.length/\l.vn=s.aN.length
 n:Row w 1 encStr l.na l.nn l.nc s.names
 v:Row w 2 pQ l.va l.vn l.vc s.aN
 na:∀b o,l.na=L ⟨b,o,I⟩->b<B
 va:∀b o,l.va=L ⟨b,o,I⟩->b<B
variable{X Y:World}
theorem Same.row {α:Type}{A:Nat->Prop}{k n c:Nat}{enc:α->List Value}{a:Option Addr}{xs:List α}(s:Same A X Y)(h:Row X k enc a n c xs)(ha:∀b o,a=L ⟨b,o,I⟩->A b):Row Y k enc a n c xs:=
 ⟨h.1,h.2.1,h.2.2.1,h.2.2.2.1,λi x g=>(let⟨b,o,d,e⟩:=h.2.2.2.2 i x g;⟨b,o,d,λj v f=>(V (a:=⟨b,o+i*k+j,I⟩) (s.block b (ha b o d) (dQ (e j v f)))).trans (e j v f)⟩)⟩
variable{v:Value}
theorem Same.cell {A:Nat->Prop}{b o:Nat}(s:Same A X Y)(h:X.cell? ⟨b,o,I⟩=L v)(ha:A b):Y.cell? ⟨b,o,I⟩=L v:=
 (V (a:=⟨b,o,I⟩) (s.block b ha (dQ h))).trans h
variable{s:aJ}
theorem Oc (b:eF s)(f:s.kind=5\/s.kind=6\/s.kind=9):∃d,s.names=[d]:=by
 have e:s.names.length=1:=by
  rcases b.2.2 with h|h|h|h|h|h|h|h|h <;> (first|exact h.2.1|(exfalso;have:=h.1;omega))
 match s.names,e with
 |[a],_=>exact⟨a,rfl⟩
theorem names2 (d:eF s)(i:s.kind=1\/s.kind=2\/s.kind=3):∃e f,s.names=[e,f]:=by
 have g:s.names.length=2:=by
  rcases d.2.2 with h|h|h|h|h|h|h|h|h <;> (first|exact h.2.1|(exfalso;have:=h.1;omega))
 match s.names,g with
 |[a,b],_=>exact⟨a,b,rfl⟩
theorem Yz (b:eF s)(f:s.kind=3):∃d,s.aN=[d]:=by
 have e:s.aN.length=1:=by
  rcases b.2.2 with h|h|h|h|h|h|h|h|h <;> (first|exact h.2.2.1|(exfalso;have:=h.1;omega))
 match s.aN,e with
 |[a],_=>exact⟨a,rfl⟩
theorem tO.dh {w:World}{B:Nat}{l:bH}(h:tO w B l s){i:Nat}{x:To}(f:s.aN[i]?=L x):∃a d,l.va=L ⟨a,d,I⟩/\a<B/\w.cell? ⟨a,d+i*2,I⟩=L (.string ⟨x.name.toArray⟩)/\w.cell? ⟨a,d+i*2+1,I⟩=L (G H x.k):=by
 obtain⟨b,o,ha,e⟩:=h.v.2.2.2.2 i x f;exact⟨b,o,ha,h.va b o ha,e 0 _ rfl,e 1 _ rfl⟩
theorem tO.name {w:World}{B:Nat}{l:bH}(h:tO w B l s){i:Nat}{x:Bs}(e:s.names[i]?=L x):∃a d,l.na=L ⟨a,d,I⟩/\a<B/\w.cell? ⟨a,d+i,I⟩=L (.string ⟨x.toArray⟩):=by
 obtain⟨b,o,ha,f⟩:=h.n.2.2.2.2 i x e;exact⟨b,o,ha,h.na b o ha,by have:=f 0 _ rfl;simpa using this⟩
section
variable {B K R:Nat}{cs:Array Value}{c:Cont}{es:List EvC}{ds:List aG}{ms:List aK}
theorem Od (l:bH)(s:aJ)(w:World)(h:ji B w R cs c es ds ms)(b:aI c)(v:tO w B l s)(F:s.kind=1)(P:eF s)(hG:lY B K w)(γ:nA w K)(μ:R<K):
  Calls Tryz.prog 125 #[.pointer (L ⟨R,0,I⟩),dU l] w (gL B K R (aT c s) w):=by
 obtain⟨d,m,o⟩:=names2 P (.inl F);have ν:l.nn=2:=by rw[v.k.2.2.2.2.1,o];rfl
 obtain⟨p,r,δ,χ,ξ⟩:=v.name (i:=0) (x:=d) (by rw[o];rfl);obtain⟨q8,q9,ο,ψ,π⟩:=v.name (i:=1) (x:=m) (by rw[o];rfl);rw[δ] at ο;injection ο with q;injection q with q1 q2;subst q1 q2;obtain⟨lk,la,ln,y,u,va,vn,vc,lf,ε⟩:=l;obtain⟨k1,k2,k3,k4,k5,k6⟩:=v.k;simp only at k1 k2 k3 k4 k5 k6 δ ν;rw[F] at k1;subst k1;have Q:N (aT c s=((c.put 0 d).put 1 m).ev ⟨1,c.no 0 d,(c.put 0 d).no 1 m,u,0,⟨0,0⟩,0,I,0,0⟩ []):=C (by unfold aT;simp only[F,o,<-k2,<-k3,<-k4];rfl);subst δ ν;have ω:=C γ;have S:=C μ;have ζ:N (K+3<=w.1.size):=C (let⟨q,T,fz,e,_⟩:=γ (K+2) ah ah;(dS.1 e).1);clear γ μ;have X:=C h.b;have Y:N (R<w.1.size):=C h.s.t.b.2.2;obtain⟨f,z⟩:∃f,f=w.alloc (U #[G H 1,J (L ⟨p,r,I⟩) 2 y,G H u,J va vn vc,.bool lf,G H ε] 77):=⟨_,rfl⟩;have ρ:N (Below w.1.size w f):=C (by rw[z];exact aA (Below.refl w.1.size w) _);have A:N (Bx f w.1.size #[G H 1,J (L ⟨p,r,I⟩) 2 y,G H u,J va vn vc,.bool lf,G H ε]):=C (by rw[z];exact Bx.new w _ _);have Γ:N (f.1[w.1.size]?=L (U #[G H 1,J (L ⟨p,r,I⟩) 2 y,G H u,J va vn vc,.bool lf,G H ε] 77 (0,0))):=C (by rw[z];exact gM w _);have Z:N (∀W,W.1[w.1.size]?=f.1[w.1.size]?->Same (λi=>i<B\/(K<=i/\i<K+3)) w W->(λg=>g.cell? ⟨w.1.size,0,I⟩=L (G H 1)/\g.cell? ⟨w.1.size,1,I⟩=L (J (L ⟨p,r,I⟩) 2 y)/\g.cell? ⟨w.1.size,2,I⟩=L (G H u)/\g.cell? ⟨p,r,I⟩=L (.string ⟨d.toArray⟩)/\g.cell? ⟨p,r+1,I⟩=L (.string ⟨m.toArray⟩)) W):=C (λW hb hs=>⟨(V (a:=⟨w.1.size,0,I⟩) hb).trans (A.q.1 0),(V (a:=⟨w.1.size,1,I⟩) hb).trans (A.q.1 1),(V (a:=⟨w.1.size,2,I⟩) hb).trans (A.q.1 2),hs.cell ξ ah,hs.cell π ah⟩);have η:N (∀W,Same (λi=>i<B\/(K<=i/\i<K+3)) w W->¬aI (aT c s)->gL B K R (aT c s) w (.panicked jT) W):=C (λW hs o=>⟨hs,λk=>absurd k o,λ_=>rfl⟩);have σ:N (True/\(aI (aT c s)->aI ((c.put 0 d)))/\(aI (aT c s)->aI (((c.put 0 d).put 1 m)))):=C (by rw[Q.q];exact⟨trivial,λk=>((Gr.put _ 1 _).trans (Gr.ev _ _ _)).fits k,λk=>(Gr.ev _ _ _).fits k⟩);have Δ:N (Same (λi=>i≠R) f f.drew):=C (O (Below.refl _ _).drew (λ_ _ h=>h));have θ:N (Same (λi=>i<B\/(K<=i/\i<K+3)) w f.drew):=C (O ρ.q.drew (λi hi v=>by have:=X.q;have:=S.q;have:=ζ.q;have:=Y.q;omega));have Θ:=C (h.below ρ.q.drew);have Ξ:=C b;have HG:=C hG;have HW:=C ((⟨P.1 d (by rw[o];simp),P.1 m (by rw[o];simp)⟩:_/\_));have Φ:N (f.drew.1[w.1.size]?=f.1[w.1.size]?):=C rfl;clear k2 k3 k4 k5 k6 F o;clear h b hG v P χ ξ ψ π;go_enter func125,ntmps125;go_wp2_with fail;rw[<-z];clear z;refine dz 99 [(0,0),(1,0),(2,0),(3,0),(4,0),(5,0),(6,0),(7,0),(9,0),(10,0),(11,0),(12,0),(13,0),(15,0),(16,0),(8,2),(14,2),(17,0),(18,2)] (λ_=>True) (λg=>g.cell? ⟨w.1.size,0,I⟩=L (G H 1)/\g.cell? ⟨w.1.size,1,I⟩=L (J (L ⟨p,r,I⟩) 2 y)/\g.cell? ⟨w.1.size,2,I⟩=L (G H u)/\g.cell? ⟨p,r,I⟩=L (.string ⟨d.toArray⟩)/\g.cell? ⟨p,r+1,I⟩=L (.string ⟨m.toArray⟩)) (λch w'=>gL B K R (aT c s) w (.panicked ch) w') ay ay (λch a1 w1 hd n=>⟨hd,n⟩) (trivial) (Z.q _ Φ.q θ.q) ?_;refine qC ?_;refine aF rfl rfl (λK t=>?_);go_simp;refine(iB 0 ah d _ Θ.q Ξ.q HW.q.1 (HG.q.same θ.q)).mono ?_;rintro e w1 ⟨hS,j⟩;have τ:=C (Δ.q.tr hS);have α:=C (θ.q.tr (hS.mono (λi hi _=>by have:=X.q;have:=S.q;have:=ζ.q;omega)));rcases iy (aI (c.put 0 d)) with b|b;rotate_left
 .obtain rfl:=j.2 b
  exact⟨rfl,η.q _ α.q (λk=>b (σ.q.2.1 k))⟩
 obtain⟨rfl,j0,n,hz,E⟩:=j.1 b;have Ψ:=C n;have Ω:=C b;have j1:=C E;have q0:=C (τ.q.block w.1.size (by have:=Y.q;omega) A.q.2.2);refine t _ _ ⟨trivial,Z.q _ q0.q α.q⟩ ?_;clear t K n hz E b j hS;refine aF rfl rfl (λK t=>?_);go_simp;refine(iB 1 ah m _ Ψ.q Ω.q HW.q.2 (HG.q.same α.q)).mono ?_;rintro e w2 ⟨hS,j⟩;have q3:=C (τ.q.tr hS);have β:=C (α.q.tr (hS.mono (λi hi _=>by have:=X.q;have:=S.q;have:=ζ.q;omega)));rcases iy (aI ((c.put 0 d).put 1 m)) with b|b;rotate_left
 .obtain rfl:=j.2 b
  exact⟨rfl,η.q _ β.q (λk=>b (σ.q.2.2 k))⟩
 obtain⟨rfl,j2,n,hz,E⟩:=j.1 b;have υ:=C n;have q4:=C b;have j3:=C E;have ι:=C (q3.q.block w.1.size (by have:=Y.q;omega) A.q.2.2);refine t _ _ ⟨trivial,Z.q _ ι.q β.q⟩ ?_;clear t K n hz E b j hS;refine qC ?_;refine aF rfl rfl (λK t=>?_);go_simp;refine(DW ⟨1,c.no 0 d,(c.put 0 d).no 1 m,u,0,⟨0,0⟩,0,I,0,0⟩ [] _ υ.q.s (let⟨mb,m1,m2,m3⟩:=υ.q.m;⟨mb,m1,m2.other (by show(1:Int)≠2;decide),m3⟩) X.q q4.q (Own.jv _ _ _ _ _) (λk=>absurd k (by show(1:Int)≠2;decide)) (β.q.CK ω.q) S.q).mono ?_;rintro e w3 ⟨φ,hS,j⟩;have κ:=C (β.q.tr hS);have q5:=C ((φ w.1.size _ _ _ (ι.q.trans Γ.q) aj (by have:=Y.q;omega)).trans ι.q);rcases iy (aI (aT c s)) with b|b;rotate_left
 .obtain rfl:=j.2 (by rw[Q.q] at b;exact b)
  exact⟨rfl,η.q _ κ.q b⟩
 obtain⟨rfl,n⟩:=j.1 (by rw[Q.q] at b;exact b);have q6:=C n;have q7:=C b;refine t _ _ ⟨trivial,Z.q _ q5.q κ.q⟩ ?_;clear t K n b j hS φ;refine ja ?_;go_wp2_with fail;refine bodyPost_end (results_none rfl _ _ _) rfl ?_;exact⟨κ.q,λ_=>⟨rfl,by rw[Q.q];exact q6.q⟩,λk=>absurd q7.q k⟩
theorem Kw (l:bH)(s:aJ)(w:World)(h:ji B w R cs c es ds ms)(b:aI c)(t:tO w B l s)(F:s.kind=5\/s.kind=6)(P:eF s)(hG:lY B K w)(Q:nA w K)(θ:R<K):
  Calls Tryz.prog 129 #[.pointer (L ⟨R,0,I⟩),dU l] w (gL B K R (aT c s) w):=by
 obtain⟨f,j⟩:=Oc P ah;have ι:l.nn=1:=by rw[t.k.2.2.2.2.1,j];rfl
 obtain⟨m,n,κ,τ,μ⟩:=t.name (i:=0) (x:=f) (by rw[j];rfl);obtain⟨g,la,ln,u,S,X,Y,Z,lf,α⟩:=l;obtain⟨z,k2,k3,k4,k5,k6⟩:=t.k;simp only at z k2 k3 k4 k5 k6 κ ι;rw[<-z] at F;have A:N (aT c s=(c.put 0 f).ev ⟨g,c.no 0 f,0,0,0,⟨0,0⟩,0,I,0,0⟩ []):=C (by unfold aT;rw[<-z];simp only[j];rcases F with rfl|rfl <;> rfl);have ν:N (g≠2):=C ah;subst κ ι;have υ:=C Q;have β:=C θ;have ξ:N (K+3<=w.1.size):=C (let⟨q,T,fz,e,_⟩:=Q (K+2) ah ah;(dS.1 e).1);clear Q θ;have HB:=C h.b;have γ:N (R<w.1.size):=C h.s.t.b.2.2;obtain⟨d,v⟩:∃d,d=w.alloc (U #[G H g,J (L ⟨m,n,I⟩) 1 u,G H S,J X Y Z,.bool lf,G H α] 77):=⟨_,rfl⟩;have ο:N (Below w.1.size w d):=C (by rw[v];exact aA (Below.refl w.1.size w) _);have HX:N (Bx d w.1.size #[G H g,J (L ⟨m,n,I⟩) 1 u,G H S,J X Y Z,.bool lf,G H α]):=C (by rw[v];exact Bx.new w _ _);have φ:N (d.1[w.1.size]?=L (U #[G H g,J (L ⟨m,n,I⟩) 1 u,G H S,J X Y Z,.bool lf,G H α] 77 (0,0))):=C (by rw[v];exact gM w _);have δ:N (∀W,W.1[w.1.size]?=d.1[w.1.size]?->Same (λi=>i<B\/(K<=i/\i<K+3)) w W->(λo=>o.cell? ⟨w.1.size,0,I⟩=L (G H g)/\o.cell? ⟨w.1.size,1,I⟩=L (J (L ⟨m,n,I⟩) 1 u)/\o.cell? ⟨m,n,I⟩=L (.string ⟨f.toArray⟩)) W):=C (λW hb hs=>⟨(V (a:=⟨w.1.size,0,I⟩) hb).trans (HX.q.1 0),(V (a:=⟨w.1.size,1,I⟩) hb).trans (HX.q.1 1),hs.cell μ ah⟩);have π:N (∀W,Same (λi=>i<B\/(K<=i/\i<K+3)) w W->¬aI (aT c s)->gL B K R (aT c s) w (.panicked jT) W):=C (λW hs j=>⟨hs,λk=>absurd k j,λ_=>rfl⟩);have χ:N (True/\(aI (aT c s)->aI ((c.put 0 f)))):=C (by rw[A.q];exact⟨trivial,λk=>(Gr.ev _ _ _).fits k⟩);have ψ:N (Same (λi=>i≠R) d d.drew):=C (O (Below.refl _ _).drew (λ_ _ h=>h));have ε:N (Same (λi=>i<B\/(K<=i/\i<K+3)) w d.drew):=C (O ο.q.drew (λi hi t=>by have:=HB.q;have:=β.q;have:=ξ.q;have:=γ.q;omega));have ω:=C (h.below ο.q.drew);have Γ:=C b;have HG:=C hG;have HW:=C (P.1 f (by rw[j];simp));have Δ:N (d.drew.1[w.1.size]?=d.1[w.1.size]?):=C rfl;clear z k2 k3 k4 k5 k6 F j;clear h b hG t P τ μ;go_enter func129,ntmps129;go_wp2_with fail;rw[<-v];clear v;refine dz 99 [(0,0),(1,0),(2,0),(3,0),(4,0),(5,0),(6,0),(7,0),(8,2),(9,0),(10,2)] (λ_=>True) (λo=>o.cell? ⟨w.1.size,0,I⟩=L (G H g)/\o.cell? ⟨w.1.size,1,I⟩=L (J (L ⟨m,n,I⟩) 1 u)/\o.cell? ⟨m,n,I⟩=L (.string ⟨f.toArray⟩)) (λch w'=>gL B K R (aT c s) w (.panicked ch) w') ay ay (λch a1 w1 hd p=>⟨hd,p⟩) (trivial) (δ.q _ Δ.q ε.q) ?_;refine qC ?_;refine aF rfl rfl (λK y=>?_);go_simp;refine(iB 0 ah f _ ω.q Γ.q HW.q (HG.q.same ε.q)).mono ?_;rintro e w1 ⟨hS,r⟩;have Θ:=C (ψ.q.tr hS);have E:=C (ε.q.tr (hS.mono (λi hi _=>by have:=HB.q;have:=β.q;have:=ξ.q;omega)));rcases iy (aI (c.put 0 f)) with b|b;rotate_left
 .obtain rfl:=r.2 b
  exact⟨rfl,π.q _ E.q (λk=>b (χ.q.2 k))⟩
 obtain⟨rfl,q0,p,hz,ho⟩:=r.1 b;have ρ:=C p;have Ξ:=C b;have q1:=C ho;have ζ:=C (Θ.q.block w.1.size (by have:=γ.q;omega) HX.q.2.2);refine y _ _ ⟨trivial,δ.q _ ζ.q E.q⟩ ?_;clear y K p hz ho b r hS;refine qC ?_;refine aF rfl rfl (λK y=>?_);go_simp;refine(DW ⟨g,c.no 0 f,0,0,0,⟨0,0⟩,0,I,0,0⟩ [] _ ρ.q.s (let⟨mb,m1,m2,m3⟩:=ρ.q.m;⟨mb,m1,m2.other ν.q,m3⟩) HB.q Ξ.q (Own.jv _ _ _ _ _) (λk=>absurd k ν.q) (E.q.CK υ.q) β.q).mono ?_;rintro e w2 ⟨σ,hS,r⟩;have η:=C (E.q.tr hS);have Φ:=C ((σ w.1.size _ _ _ (ζ.q.trans φ.q) aj (by have:=γ.q;omega)).trans ζ.q);rcases iy (aI (aT c s)) with b|b;rotate_left
 .obtain rfl:=r.2 (by rw[A.q] at b;exact b)
  exact⟨rfl,π.q _ η.q b⟩
 obtain⟨rfl,p⟩:=r.1 (by rw[A.q] at b;exact b);have Ψ:=C p;have Ω:=C b;refine y _ _ ⟨trivial,δ.q _ Φ.q η.q⟩ ?_;clear y K p b r hS σ;refine ja ?_;go_wp2_with fail;refine bodyPost_end (results_none rfl _ _ _) rfl ?_;exact⟨η.q,λ_=>⟨rfl,by rw[A.q];exact Ψ.q⟩,λk=>absurd Ω.q k⟩
theorem QK (l:bH)(s:aJ)(w:World)(h:ji B w R cs c es ds ms)(b:aI c)(z:tO w B l s)(Z:s.kind=3)(F:eF s)(hG:lY B K w)(θ:nA w K)(τ:R<K):
  Calls Tryz.prog 127 #[.pointer (L ⟨R,0,I⟩),dU l] w (gL B K R (aT c s) w):=by
 obtain⟨f,g,y⟩:=names2 F (.inr (.inr Z));obtain⟨n,hv⟩:=Yz F Z;have υ:l.vn=1:=by rw[z.k.2.2.2.2.2,hv];rfl
 obtain⟨o,p,φ,q4,χ,ψ⟩:=z.dh (i:=0) (x:=n) (by rw[hv];rfl);have ω:l.nn=2:=by rw[z.k.2.2.2.2.1,y];rfl
 obtain⟨r,t,ι,q5,Γ⟩:=z.name (i:=0) (x:=f) (by rw[y];rfl);obtain⟨z7,z8,Δ,q6,Θ⟩:=z.name (i:=1) (x:=g) (by rw[y];rfl);rw[ι] at Δ;injection Δ with q;injection q with q1 q2;subst q1 q2;obtain⟨lk,la,ln,P,κ,va,vn,Q,lf,μ⟩:=l;simp only at φ υ;subst φ υ;obtain⟨k1,k2,k3,k4,k5,k6⟩:=z.k;simp only at k1 k2 k3 k4 k5 k6 ι ω;rw[Z] at k1;subst k1;have γ:N (aT c s=(((c.put 0 f).put 2 g).dh n).1.ev ⟨3,c.no 0 f,0,0,(c.put 0 f).no 2 g,(((c.put 0 f).put 2 g).dh n).2,0,I,0,0⟩ []):=C (by unfold aT;simp only[Z,y,hv,<-k2,<-k3,<-k4];rfl);subst ι ω;have q7:=C θ;have α:=C τ;have δ:N (K+3<=w.1.size):=C (let⟨q,T,fz,e,_⟩:=θ (K+2) ah ah;(dS.1 e).1);clear θ τ;have HB:=C h.b;have β:N (R<w.1.size):=C h.s.t.b.2.2;obtain⟨u,hV⟩:∃u,u=w.alloc (U #[G H 3,J (L ⟨r,t,I⟩) 2 P,G H κ,J (L ⟨o,p,I⟩) 1 Q,.bool lf,G H μ] 77):=⟨_,rfl⟩;have Ξ:N (Below w.1.size w u):=C (by rw[hV];exact aA (Below.refl w.1.size w) _);have S:N (Bx u w.1.size #[G H 3,J (L ⟨r,t,I⟩) 2 P,G H κ,J (L ⟨o,p,I⟩) 1 Q,.bool lf,G H μ]):=C (by rw[hV];exact Bx.new w _ _);have q8:N (u.1[w.1.size]?=L (U #[G H 3,J (L ⟨r,t,I⟩) 2 P,G H κ,J (L ⟨o,p,I⟩) 1 Q,.bool lf,G H μ] 77 (0,0))):=C (by rw[hV];exact gM w _);have X:N (∀W,W.1[w.1.size]?=u.1[w.1.size]?->Same (λi=>i<B\/(K<=i/\i<K+3)) w W->(λd=>d.cell? ⟨w.1.size,1,I⟩=L (J (L ⟨r,t,I⟩) 2 P)/\d.cell? ⟨r,t,I⟩=L (.string ⟨f.toArray⟩)/\d.cell? ⟨r,t+1,I⟩=L (.string ⟨g.toArray⟩)/\d.cell? ⟨w.1.size,0,I⟩=L (G H 3)/\d.cell? ⟨w.1.size,3,I⟩=L (J (L ⟨o,p,I⟩) 1 Q)/\d.cell? ⟨o,p,I⟩=L (.string ⟨n.name.toArray⟩)/\d.cell? ⟨o,p+1,I⟩=L (G H n.k)) W):=C (λW hb Y=>⟨(V (a:=⟨w.1.size,1,I⟩) hb).trans (S.q.1 1),Y.cell Γ ah,Y.cell Θ ah,(V (a:=⟨w.1.size,0,I⟩) hb).trans (S.q.1 0),(V (a:=⟨w.1.size,3,I⟩) hb).trans (S.q.1 3),Y.cell χ ah,Y.cell ψ ah⟩);have ε:N (∀W,Same (λi=>i<B\/(K<=i/\i<K+3)) w W->¬aI (aT c s)->gL B K R (aT c s) w (.panicked jT) W):=C (λW Y y=>⟨Y,λk=>absurd k y,λ_=>rfl⟩);have ν:N (True/\(aI (aT c s)->aI ((c.put 0 f)))/\(aI (aT c s)->aI (((c.put 0 f).put 2 g)))/\(aI (aT c s)->aI ((((c.put 0 f).put 2 g).dh n).1))):=C (by rw[γ.q];exact⟨trivial,λk=>((Gr.put _ 2 _).trans ((Gr.dh _ _).trans (Gr.ev _ _ _))).fits k,λk=>((Gr.dh _ _).trans (Gr.ev _ _ _)).fits k,λk=>(Gr.ev _ _ _).fits k⟩);have q9:N (Same (λi=>i≠R) u u.drew):=C (O (Below.refl _ _).drew (λ_ _ h=>h));have ξ:N (Same (λi=>i<B\/(K<=i/\i<K+3)) w u.drew):=C (O Ξ.q.drew (λi hi z=>by have:=HB.q;have:=α.q;have:=δ.q;have:=β.q;omega));have j0:=C (h.below Ξ.q.drew);have j1:=C b;have HG:=C hG;have HW:=C ((⟨F.1 f (by rw[y];simp),F.1 g (by rw[y];simp),F.2.1 n (by rw[hv];simp)⟩:_/\_/\_));have j2:N (u.drew.1[w.1.size]?=u.1[w.1.size]?):=C rfl;clear k2 k3 k4 k5 k6 Z y;clear h b hG z F q4 χ ψ q5 Γ q6 Θ;go_enter func127,ntmps127;go_wp2_with fail;rw[<-hV];clear hV;refine dz 99 [(0,0),(1,0),(2,0),(3,0),(4,0),(6,0),(7,0),(8,0),(9,0),(10,0),(5,2),(11,2),(12,0),(13,0)] (λ_=>True) (λd=>d.cell? ⟨w.1.size,1,I⟩=L (J (L ⟨r,t,I⟩) 2 P)/\d.cell? ⟨r,t,I⟩=L (.string ⟨f.toArray⟩)/\d.cell? ⟨r,t+1,I⟩=L (.string ⟨g.toArray⟩)/\d.cell? ⟨w.1.size,0,I⟩=L (G H 3)/\d.cell? ⟨w.1.size,3,I⟩=L (J (L ⟨o,p,I⟩) 1 Q)/\d.cell? ⟨o,p,I⟩=L (.string ⟨n.name.toArray⟩)/\d.cell? ⟨o,p+1,I⟩=L (G H n.k)) (λch w'=>gL B K R (aT c s) w (.panicked ch) w') ay ay (λch a1 w1 hd j=>⟨hd,j⟩) (trivial) (X.q _ j2.q ξ.q) ?_;refine qC ?_;refine aF rfl rfl (λK v=>?_);go_simp;refine(iB 0 ah f _ j0.q j1.q HW.q.1 (HG.q.same ξ.q)).mono ?_;rintro e w1 ⟨hS,m⟩;have Φ:=C (q9.q.tr hS);have ζ:=C (ξ.q.tr (hS.mono (λi hi _=>by have:=HB.q;have:=α.q;have:=δ.q;omega)));rcases iy (aI (c.put 0 f)) with b|b;rotate_left
 .obtain rfl:=m.2 b
  exact⟨rfl,ε.q _ ζ.q (λk=>b (ν.q.2.1 k))⟩
 obtain⟨rfl,z9,j,hz,A⟩:=m.1 b;have j3:=C j;have j4:=C b;have v1:=C A;have j5:=C (Φ.q.block w.1.size (by have:=β.q;omega) S.q.2.2);refine v _ _ ⟨trivial,X.q _ j5.q ζ.q⟩ ?_;clear v K j hz A b m hS;refine aF rfl rfl (λK v=>?_);go_simp;refine(iB 2 ah g _ j3.q j4.q HW.q.2.1 (HG.q.same ζ.q)).mono ?_;rintro e E ⟨hS,m⟩;have Ψ:=C (Φ.q.tr hS);have ο:=C (ζ.q.tr (hS.mono (λi hi _=>by have:=HB.q;have:=α.q;have:=δ.q;omega)));rcases iy (aI ((c.put 0 f).put 2 g)) with b|b;rotate_left
 .obtain rfl:=m.2 b
  exact⟨rfl,ε.q _ ο.q (λk=>b (ν.q.2.2.1 k))⟩
 obtain⟨rfl,v2,j,hz,A⟩:=m.1 b;have j6:=C j;have j7:=C b;have v3:=C A;have Ω:=C (Ψ.q.block w.1.size (by have:=β.q;omega) S.q.2.2);refine v _ _ ⟨trivial,X.q _ Ω.q ο.q⟩ ?_;clear v K j hz A b m hS;refine qC ?_;refine ja ?_;have j8:=C (Ψ.q.tr (O (Below.refl E.1.size E).drew (λ_ _ h=>h)));have π:=C (ο.q.tr (O (Below.refl E.1.size E).drew (λ_ _ h=>h)));have j9:=C (j6.q.below (Below.refl E.1.size E).drew);have z0:=j7;have z1:N (E.drew.1[w.1.size]?=u.1[w.1.size]?):=C Ω.q;go_wp2_with fail;refine dz 99 [(0,0),(1,0),(2,0),(3,0),(4,0),(5,0),(6,0),(7,0),(8,0),(9,0),(10,2),(11,0),(12,2)] (λ_=>True) (λd=>d.cell? ⟨w.1.size,1,I⟩=L (J (L ⟨r,t,I⟩) 2 P)/\d.cell? ⟨r,t,I⟩=L (.string ⟨f.toArray⟩)/\d.cell? ⟨r,t+1,I⟩=L (.string ⟨g.toArray⟩)/\d.cell? ⟨w.1.size,0,I⟩=L (G H 3)/\d.cell? ⟨w.1.size,3,I⟩=L (J (L ⟨o,p,I⟩) 1 Q)/\d.cell? ⟨o,p,I⟩=L (.string ⟨n.name.toArray⟩)/\d.cell? ⟨o,p+1,I⟩=L (G H n.k)) (λch w'=>gL B K R (aT c s) w (.panicked ch) w') ay ay (λch a1 w1 hd j=>⟨hd,j⟩) (trivial) (X.q _ z1.q π.q) ?_;refine qC ?_;refine aF rfl rfl (λK v=>?_);go_simp;refine(Ku n _ j9.q z0.q HW.q.2.2 (HG.q.same π.q)).mono ?_;rintro e w4 ⟨hS,m⟩;have z2:=C (j8.q.tr hS);have η:=C (π.q.tr (hS.mono (λi hi _=>by have:=HB.q;have:=α.q;have:=δ.q;omega)));rcases iy (aI (((c.put 0 f).put 2 g).dh n).1) with b|b;rotate_left
 .obtain rfl:=m.2 b
  exact⟨rfl,ε.q _ η.q (λk=>b (ν.q.2.2.2 k))⟩
 obtain⟨rfl,v4,j,hz,A⟩:=m.1 b;have q0:=C j;have z3:=C b;have v5:=C A;have ρ:=C (z2.q.block w.1.size (by have:=β.q;omega) S.q.2.2);refine v _ _ ⟨trivial,X.q _ ρ.q η.q⟩ ?_;clear v K j hz A b m hS;refine qC ?_;refine aF rfl rfl (λK v=>?_);go_simp;refine(DW ⟨3,c.no 0 f,0,0,(c.put 0 f).no 2 g,(((c.put 0 f).put 2 g).dh n).2,0,I,0,0⟩ [] _ q0.q.s (let⟨mb,m1,m2,m3⟩:=q0.q.m;⟨mb,m1,m2.other (by show(3:Int)≠2;decide),m3⟩) HB.q z3.q (Own.jv _ _ _ _ _) (λk=>absurd k (by show(3:Int)≠2;decide)) (η.q.CK q7.q) α.q).mono ?_;rintro e w5 ⟨q3,hS,m⟩;have σ:=C (η.q.tr hS);have z4:=C ((q3 w.1.size _ _ _ (ρ.q.trans q8.q) aj (by have:=β.q;omega)).trans ρ.q);rcases iy (aI (aT c s)) with b|b;rotate_left
 .obtain rfl:=m.2 (by rw[γ.q] at b;exact b)
  exact⟨rfl,ε.q _ σ.q b⟩
 obtain⟨rfl,j⟩:=m.1 (by rw[γ.q] at b;exact b);have z5:=C j;have z6:=C b;refine v _ _ ⟨trivial,X.q _ z4.q σ.q⟩ ?_;clear v K j b m hS q3;refine ja ?_;go_wp2_with fail;refine bodyPost_end (results_none rfl _ _ _) rfl ?_;exact⟨σ.q,λ_=>⟨rfl,by rw[γ.q];exact z5.q⟩,λk=>absurd z6.q k⟩
end
variable{c:Cont}{i:List aG}{j:List aK}{u:Value}
theorem ji.want {B R:Nat}{cs:Array Value}{es:List EvC}(h:ji B X R cs c es i j)(g:cs[7]?=L v)(k:Own X (R+1) 63 2 fE v c.Q)(b:Same (λd=>d≠R/\v.ownBlock≠L d) X Y){x:Wa}
  (l:Own Y (R+1) 63 2 fE u (c.Q++[x])) (m:Bx Y R (cs.setIfInBounds 7 u)):ji B Y R (cs.setIfInBounds 7 u) {c with Q:=c.Q++[x]} es i j:=
 ⟨h.s.want g b l m,(let⟨n,e,a,o⟩:=h.m;⟨n,by rw[qx ah];exact e,a.same b ⟨h.s.t.b.wG e a.obj,λq=>by
  obtain⟨r,s,p⟩:=k.tag q;obtain⟨_,_,f⟩:=a.obj;rw[p] at f;cases f⟩,o⟩),h.b⟩
theorem ji.order {B R:Nat}{cs:Array Value}{es:List EvC}(h:ji B X R cs c es i j)(g:cs[5]?=L v)(k:Own X (R+1) 57 2 dV v i)(b:Same (λd=>d≠R/\v.ownBlock≠L d) X Y){x:aG}{l:List Int}
  (m:Own Y (R+1) 57 2 dV u (i++[x])) (n:Bx Y R (cs.setIfInBounds 5 u)) (o:Own X (R+1) 3 1 aS x.val l):ji B Y R (cs.setIfInBounds 5 u) {c with D:=c.D++[x.base],SD:=c.SD++[l]} es (i++[x]) j:=
 ⟨h.s.order g b m n o,(let⟨p,e,a,r⟩:=h.m;⟨p,by rw[qx ah];exact e,a.same b ⟨h.s.t.b.wG e a.obj,λq=>by
  obtain⟨t,w,s⟩:=k.tag q;obtain⟨_,_,f⟩:=a.obj;rw[s] at f;cases f⟩,r⟩),h.b⟩
theorem ji.Oe {B R:Nat}{cs:Array Value}{es:List EvC}(h:ji B X R cs c es i j)(g:cs[6]?=L v)(k:Own X (R+1) 60 4 eB v j)(b:Same (λd=>d≠R/\v.ownBlock≠L d) X Y){x:aK}{l:List Int}
  (m:Own Y (R+1) 60 4 eB u (j++[x])) (n:Bx Y R (cs.setIfInBounds 6 u)) (o:Own X (R+1) 3 1 aS x.val l):ji B Y R (cs.setIfInBounds 6 u) {c with M:=c.M++[x.base],SM:=c.SM++[l]} es i (j++[x]):=
 ⟨h.s.Oe g b m n o,(let⟨p,e,a,r⟩:=h.m;⟨p,by rw[qx ah];exact e,a.same b ⟨h.s.t.b.wG e a.obj,λq=>by
  obtain⟨t,w,s⟩:=k.tag q;obtain⟨_,_,f⟩:=a.obj;rw[s] at f;cases f⟩,r⟩),h.b⟩
theorem Row.wa1 (w:World)(x:Wa):Row (w.alloc (U #[G H x.eH,G H x.bits] 63)) 2 fE (L ⟨w.1.size,0,I⟩) 1 1 [x]:=
 (Own.new (hc:=lQ) w w.1.size 63 (enc:=fE) #[G H x.eH,G H x.bits] [x] (aB _) rfl (by simp[maxLen])).row (hc:=lQ) ak
theorem Row.or1 (w:World)(x:aG):Row (w.alloc (U #[G H x.obj,J x.sa x.sn x.sc] 57)) 2 dV (L ⟨w.1.size,0,I⟩) 1 1 [x]:=
 (Own.new (hc:=kr) w w.1.size 57 (enc:=dV) #[G H x.obj,J x.sa x.sn x.sc] [x] (aB _) rfl (by simp[maxLen])).row (hc:=kr) ak
theorem Row.ma1 (w:World)(x:aK):Row (w.alloc (U #[G H x.pred,G H x.obj,.bool x.first,J x.sa x.sn x.sc] 60)) 4 eB (L ⟨w.1.size,0,I⟩) 1 1 [x]:=
 (Own.new (hc:=ku) w w.1.size 60 (enc:=eB) #[G H x.pred,G H x.obj,.bool x.first,J x.sa x.sn x.sc] [x] (aB _) rfl (by simp[maxLen])).row (hc:=ku) ak
section
variable {B K R:Nat}{cs:Array Value}{c:Cont}{es:List EvC}{ds:List aG}{ms:List aK}
theorem QL (l:bH)(s:aJ)(w:World)(h:ji B w R cs c es ds ms)(m:aI c)(f:tO w B l s)(hk:s.kind=9)(ο:eF s)(hG:lY B K w)(π:nA w K)(φ:R<K):
  Calls Tryz.prog 132 #[.pointer (L ⟨R,0,I⟩),dU l] w (gL B K R (aT c s) w):=by
 obtain⟨d,P⟩:=Oc ο ah;have χ:l.nn=1:=by rw[f.k.2.2.2.2.1,P];rfl
 obtain⟨v,y,ψ,q6,ω⟩:=f.name (i:=0) (x:=d) (by rw[P];rfl);obtain⟨v7,h7,ρ⟩:=h.s.q;obtain⟨o,p,rfl,_,v3⟩:=ρ.shape;obtain⟨i,z,r⟩:=Ky;have HI:=C r;clear r;obtain⟨lk,la,ln,S,η,va,vn,vc,lf,j⟩:=l;obtain⟨k1,k2,k3,k4,k5,k6⟩:=f.k;simp only at k1 k2 k3 k4 k5 k6 ψ χ;rw[hk] at k1;subst k1;have θ:N (aT c s={c.put 1 d with Q:=c.Q++[⟨c.no 1 d,j⟩]}):=C (by unfold aT;simp only[hk,P,<-k4];rfl);subst ψ χ;have q7:=C π;have β:=C φ;have X:N (K+3<=w.1.size):=C (let⟨q,T,fz,e,_⟩:=π (K+2) ah ah;(dS.1 e).1);clear π φ;have HB:=C h.b;have σ:N (R<w.1.size):=C h.s.t.b.2.2;obtain⟨b,E⟩:∃b,b=w.alloc (U #[G H 9,J (L ⟨v,y,I⟩) 1 S,G H η,J va vn vc,.bool lf,G H j] 77):=⟨_,rfl⟩;have Y:N (Below w.1.size w b):=C (by rw[E];exact aA (Below.refl w.1.size w) _);have HX:N (Bx b w.1.size #[G H 9,J (L ⟨v,y,I⟩) 1 S,G H η,J va vn vc,.bool lf,G H j]):=C (by rw[E];exact Bx.new w _ _);have q8:N (b.1[w.1.size]?=L (U #[G H 9,J (L ⟨v,y,I⟩) 1 S,G H η,J va vn vc,.bool lf,G H j] 77 (0,0))):=C (by rw[E];exact gM w _);have ι:N (∀W,W.1[w.1.size]?=b.1[w.1.size]?->Same (λi=>i<B\/(K<=i/\i<K+3)) w W->W.cell? ⟨R,7,I⟩=L (J o c.Q.length p)->(λt=>t.cell? ⟨w.1.size,1,I⟩=L (J (L ⟨v,y,I⟩) 1 S)/\t.cell? ⟨w.1.size,5,I⟩=L (G H j)/\t.cell? ⟨v,y,I⟩=L (.string ⟨d.toArray⟩)/\t.cell? ⟨R,7,I⟩=L (J o c.Q.length p)) W):=C (λW hb hs Z=>⟨(V (a:=⟨w.1.size,1,I⟩) hb).trans (HX.q.1 1),(V (a:=⟨w.1.size,5,I⟩) hb).trans (HX.q.1 5),hs.cell ω ah,Z⟩);have Γ:N (∀W,Same (λi=>i<B\/(K<=i/\i<K+3)) w W->¬aI (aT c s)->gL B K R (aT c s) w (.panicked jT) W):=C (λW hs P=>⟨hs,λk=>absurd k P,λ_=>rfl⟩);have q9:N (True/\(aI (aT c s)->aI (c.put 1 d))):=C ⟨trivial,by rw[θ.q];exact λk=>(show Gr (c.put 1 d) {c.put 1 d with Q:=c.Q++[⟨c.no 1 d,j⟩]} from⟨λ_=>gH _,gH _,gH _,gH _,eu _ _⟩).fits k⟩;have j0:N (b.drew.1.size=w.1.size+1):=C (by show b.1.size=_;rw[E];exact World.size_alloc _ _);have j1:N (Same (λi=>i≠R) b b.drew):=C (O (Below.refl _ _).drew (λ_ _ h=>h));have τ:N (Same (λi=>i<B\/(K<=i/\i<K+3)) w b.drew):=C (O Y.q.drew (λi r f=>by have:=HB.q;have:=β.q;have:=X.q;have:=σ.q;omega));have j2:=C (h.below Y.q.drew);have j3:=C m;have HG:=C hG;have HW:=C (ο.1 d (by rw[P];simp));have j4:N (b.drew.1[w.1.size]?=b.1[w.1.size]?):=C rfl;have H7:=C h7;have γ:=C (ρ.below Y.q rfl);have Δ:b.cell? ⟨R,7,I⟩=L (J o c.Q.length p):=((h.s.t.b.keep Y.q).1 7).trans h7;have j5:=C Δ;have j6:(w.alloc (U #[G H 9,J (L ⟨v,y,I⟩) 1 S,G H η,J va vn vc,.bool lf,G H j] 77)).cell? ⟨R,7,I⟩=L (J o c.Q.length p):=by rw[<-E];exact Δ
 have κ:N (∀g,(Value.slice o c.Q.length p).ownBlock=L g->g≠w.1.size/\g≠R/\R+1<=g/\¬(K<=g/\g<K+3)):=C (λg hg=>⟨λe=>(by obtain⟨_,_,q⟩:=γ.q.tag hg;rw[e,q8.q] at q;cases q),λe=>(by have:=(γ.q.lt g hg).1;omega),(γ.q.lt g hg).1,λe=>(by obtain⟨_,_,q⟩:=γ.q.tag hg;obtain⟨_,T,_,q2,hT⟩:=q7.q g e.1 e.2;rw[Y.q.block g (by have:=X.q;omega),q2] at q;cases q;simp[zm] at hT)⟩);clear k2 k3 k4 k5 k6 hk P;have j7:N ((c.Q.length+1)*16<=140737488355328):=C (by have:=m.2.2.2.2.1;omega);have j8:N (c.Q.length+1<=maxLen):=C (by have:=m.2.2.2.2.1;unfold maxLen;omega);have j9:N (cs[7]?=L (J o c.Q.length p)):=H7;have z0:N (Own b.drew (R+1) 63 2 fE (J o c.Q.length p) c.Q):=γ;have z1:N (w.1.size<b.drew.1.size):=C (by have:=j0.q;omega);clear h m hG f ο q6 ω h7 ρ;by_cases μ:c.Q.length<3000;rotate_left
 .have hd:decide ((c.Q.length:Int)<3000)=false:=bE ah
  have z2:N (¬aI (aT c s)):=C (λk=>μ (by rw[θ.q] at k;have:=k.2.2.2.2.1;rw[bO,kG] at this;exact this));have HT:=C (O (A:=λi=>i<B\/(K<=i/\i<K+3)) Y.q (λi r f=>by have:=HB.q;have:=β.q;have:=X.q;have:=σ.q;omega));clear μ;go_enter func132,ntmps132;go_wp2_with fail;refine(lI _ _).mono ?_;rintro e w2 ⟨rfl,rfl⟩;rw[au ak];rw[<-E];exact⟨rfl,Γ.q _ HT.q z2.q⟩
 have z3:=C μ;have hd:decide ((c.Q.length:Int)<3000)=true:=bT ah;clear μ;go_enter func132,ntmps132;go_wp2_with fail;refine(lI _ _).mono ?_;rintro e w2 ⟨rfl,rfl⟩;rw[av rfl];rw[<-E];clear E j6;go_wp2_with fail;refine dz 20 [(0,0),(1,0),(2,0),(3,0),(4,0),(5,0),(6,0),(7,0),(8,0),(9,0),(10,0),(12,0),(13,0),(11,2),(14,0),(15,2),(16,2),(17,1),(18,1),(19,0),(20,2)] (λ_=>True) (λt=>t.cell? ⟨w.1.size,1,I⟩=L (J (L ⟨v,y,I⟩) 1 S)/\t.cell? ⟨w.1.size,5,I⟩=L (G H j)/\t.cell? ⟨v,y,I⟩=L (.string ⟨d.toArray⟩)/\t.cell? ⟨R,7,I⟩=L (J o c.Q.length p)) (λch w'=>gL B K R (aT c s) w (.panicked ch) w') ay ay (λch a1 F hd Z=>⟨hd,Z⟩) (trivial) (ι.q _ j4.q τ.q j5.q) ?_;refine qC ?_;refine aF rfl rfl (λK n=>?_);go_simp;refine(iB 1 ah d _ j2.q j3.q HW.q (HG.q.same τ.q)).mono ?_;rintro e F ⟨hS,he⟩;have Θ:=C hS;have z4:=C (j1.q.tr hS);have υ:=C (τ.q.tr (hS.mono (λi r _=>by have:=HB.q;have:=β.q;have:=X.q;omega)));rcases iy (aI (c.put 1 d)) with m|m;rotate_left
 .obtain rfl:=he.2 m
  exact⟨rfl,Γ.q _ υ.q (λk=>m (q9.q.2 k))⟩
 obtain⟨rfl,z5,Z,hz,ho⟩:=he.1 m;have ν:=C Z;have z6:=C m;have z7:=C ho;have Ξ:=C (z4.q.block w.1.size (by have:=σ.q;omega) HX.q.2.2);have α:N (z5[7]?=_):=C ((z7.q 7 (.inl ah)).trans j9.q);have Φ:=C (z0.q.iR Θ.q);have Ψ:N (w.1.size<F.1.size):=C (bP z1.q Θ.q.size);refine n _ _ ⟨trivial,ι.q _ Ξ.q υ.q ((ν.q.s.t.b.1 7).trans α.q)⟩ ?_;clear n K Z hz ho m he hS;refine qC ?_;refine aF rfl rfl (λK n=>?_);go_simp;have δ:=aA (Below.refl F.1.size F) (U #[G H (c.no 1 d),G H j] 63);have ξ:=C δ;have Ω:=C (υ.q.tr (O δ (λi r f=>f)));have q0:N ((F.alloc (U #[G H (c.no 1 d),G H j] 63)).1[w.1.size]?=b.1[w.1.size]?):=C ((δ.block _ (by have:=Ψ.q;omega)).trans Ξ.q);have q1:=C (ν.q.s.t.b.keep δ);refine n _ _ ⟨trivial,ι.q _ q0.q Ω.q ((q1.q.1 7).trans α.q)⟩ ?_;clear n K δ;refine aF rfl rfl (λK n=>?_);refine kM _ _ 26 rfl i z 16 underlying26 HI.q.1 HI.q.2.1 HI.q.2.2.1 HI.q.2.2.2.1 HI.q.2.2.2.2 rfl (Φ.q.below ξ.q rfl) (L ⟨F.1.size,0,I⟩) 1 1 (c.Q.length+1) [⟨c.no 1 d,j⟩] rfl (Row.wa1 F _) rfl j7.q j8.q (bI (Nat.succ_le_of_lt ν.q.s.t.b.2.2) ξ.q.size) ?_;intro a' c' w9 q3 u z8;have q4:=C (Ω.q.tr ⟨u.os,u.tape,u.output,u.size,λi r f=>u.block i f (λe=>by have:=(κ.q i e.symm).2.2.1;have:=(κ.q i e.symm).2.2.2;have:=HB.q;have:=β.q;have:=X.q;omega)⟩);have z9:N (w9.1[w.1.size]?=b.1[w.1.size]?):=C ((u.block w.1.size (bP Ψ.q ξ.q.size) (λe=>(κ.q _ e.symm).1 rfl)).trans q0.q);have ε:=q1.q.grown u (λe=>(κ.q _ e).2.1 rfl);refine n _ _ ⟨trivial,ι.q _ z9.q q4.q ((ε.1 7).trans α.q)⟩ ?_;have v4:=(ε.1 7).trans α.q;have v5:=ε.2.1 7;have v0:=C ε;have q5:=C q3;have ζ:=C u;clear n K ε q3 u z8;refine qC ?_;refine aW rfl rfl rfl (λK n=>?_);go_simp;refine n _ _ trivial ?_;clear n K;refine ja ?_;have v1:N (aI (aT c s)):=C (by rw[θ.q];have k:=z6.q;exact⟨k.1,k.2.1,k.2.2.1,k.2.2.2.1,by show(c.Q++[_]).length<=3000;rw[bO,kG];have:=z3.q;omega,k.2.2.2.2.2⟩);go_wp2_with fail;refine bodyPost_end (results_none rfl _ _ _) rfl ?_;refine⟨q4.q.setTail (λh=>by have:=HB.q;have:=β.q;have:=X.q;omega),λ_=>⟨rfl,?_⟩,λk=>absurd v1.q k⟩;rw[θ.q];have v2:Same (λi=>i≠R/\(Value.slice o c.Q.length p).ownBlock≠L i) F (w9.setCell ⟨R,7,I⟩ (J a' (c.Q.length+1) c')):=
  ((O ξ.q (λ_ _ h=>h)).tr ⟨ζ.q.os,ζ.q.tape,ζ.q.output,ζ.q.size,λi r f=>ζ.q.block i f (λe=>r.2 e.symm)⟩).setTail (λh=>h.1 rfl)
 exact⟨_,_,_,_,ν.q.want (x:=(⟨c.no 1 d,j⟩:Wa)) α.q Φ.q v2 (q5.q.same (A:=λi=>i≠R) ((Same.refl' _).setTail (λh=>h rfl)) (λg hg e=>by have:=(q5.q.lt g hg).1;omega)) (v0.q.bB 7 (dS.1 α.q).1 _)⟩
end
theorem names7 (e:eF s)(i:s.kind=7):∃f d,s.names=f::d/\d.length<=300:=by
 have g:∃c:Nat,s.names.length=c+1/\c<=300:=by
  rcases e.2.2 with h|h|h|h|h|h|h|h|h <;> (first|exact h.2.1|(exfalso;have:=h.1;omega))
 obtain⟨q,b,j⟩:=g
 match k:s.names,b with
 |a::l,b=>exact⟨a,l,rfl,by simp at b;omega⟩
section
variable {B K R:Nat}{cs:Array Value}{c:Cont}{es:List EvC}{ds:List aG}{ms:List aK}
theorem Og (l:bH)(s:aJ)(w:World)(h:ji B w R cs c es ds ms)(m:aI c)(n:tO w B l s)(hk:s.kind=7)(η:eF s)(hG:lY B K w)(υ:nA w K)(Ψ:R<K):
  Calls Tryz.prog 130 #[.pointer (L ⟨R,0,I⟩),dU l] w (gL B K R (aT c s) w):=by
 obtain⟨f,d,E,Ω⟩:=names7 η hk;have q0:l.nn=d.length+1:=by rw[n.k.2.2.2.2.1,E];rfl
 obtain⟨v,y,φ,q1,q3⟩:=n.name (i:=0) (x:=f) (by rw[E];rfl);obtain⟨ra,χ,ψ,θ,q4⟩:=CO n.n 1 ah;have q5:∀b o,ra=L ⟨b,o,I⟩->b<B:=λb o e=>(let⟨q,e1,e2⟩:=q4 b o e;by rw[φ] at e1;injection e1 with e1;subst e1;subst e2;exact q1)
 obtain⟨v7,h7,ω⟩:=h.s.d;obtain⟨F,P,rfl,_,b6⟩:=ω.shape;obtain⟨i,z,r⟩:=Kz;have HI:=C r;clear r;obtain⟨lk,la,ln,p,ι,va,vn,vc,lf,κ⟩:=l;obtain⟨k1,k2,k3,k4,k5,k6⟩:=n.k;simp only at k1 k2 k3 k4 k5 k6 φ q0 χ ψ θ;rw[hk] at k1;subst k1;have μ:N (aT c s={((c.put 2 f).ts d).1 with D:=((c.put 2 f).ts d).1.D++[⟨c.no 2 f,I,0,0⟩],SD:=((c.put 2 f).ts d).1.SD++[((c.put 2 f).ts d).2]}):=C (by unfold aT;simp only[hk,E];rw[(Nm.ts d (c.put 2 f)).d,(Nm.ts d (c.put 2 f)).sd];rfl);subst φ q0;have b7:∀W,(Instr.slice 22 (J (L ⟨v,y,I⟩) (d.length+1) p) (L (G H 1)) I I).run Tryz.prog W= .ok (J ra d.length (p - 1)) W:=χ;have b8:∀W,(Instr.sliceAt 22 (J (L ⟨v,y,I⟩) (d.length+1) p) (L (G H 1)) I I).run Tryz.prog W= .ok (J ra d.length (p - 1)) W:=ψ;clear χ ψ;have z5:=C υ;have Y:=C Ψ;have Z:N (K+3<=w.1.size):=C (let⟨q,T,fz,e,_⟩:=υ (K+2) ah ah;(dS.1 e).1);clear υ Ψ;have HB:=C h.b;have ν:N (R<w.1.size):=C h.s.t.b.2.2;obtain⟨j,hV⟩:∃j,j=w.alloc (U #[G H 7,J (L ⟨v,y,I⟩) (d.length+1) p,G H ι,J va vn vc,.bool lf,G H κ] 77):=⟨_,rfl⟩;have α:N (Below w.1.size w j):=C (by rw[hV];exact aA (Below.refl w.1.size w) _);have HX:N (Bx j w.1.size #[G H 7,J (L ⟨v,y,I⟩) (d.length+1) p,G H ι,J va vn vc,.bool lf,G H κ]):=C (by rw[hV];exact Bx.new w _ _);have z6:N (j.1[w.1.size]?=L (U #[G H 7,J (L ⟨v,y,I⟩) (d.length+1) p,G H ι,J va vn vc,.bool lf,G H κ] 77 (0,0))):=C (by rw[hV];exact gM w _);have ξ:N (∀W,W.1[w.1.size]?=j.1[w.1.size]?->Same (λi=>i<B\/(K<=i/\i<K+3)) w W->W.cell? ⟨R,5,I⟩=L (J F ds.length P)->(λW'=>W'.cell? ⟨w.1.size,1,I⟩=L (J (L ⟨v,y,I⟩) (d.length+1) p)/\W'.cell? ⟨R,5,I⟩=L (J F ds.length P)) W):=C (λW hb hs Q=>⟨(V (a:=⟨w.1.size,1,I⟩) hb).trans (HX.q.1 1),Q⟩);have Γ:N (∀W,Same (λi=>i<B\/(K<=i/\i<K+3)) w W->¬aI (aT c s)->gL B K R (aT c s) w (.panicked jT) W):=C (λW hs E=>⟨hs,λk=>absurd k E,λ_=>rfl⟩);have q6:N (True/\(aI (aT c s)->aI (c.put 2 f))/\(aI (aT c s)->aI ((c.put 2 f).ts d).1)):=C (by rw[μ.q];have S:Gr ((c.put 2 f).ts d).1 {((c.put 2 f).ts d).1 with D:=((c.put 2 f).ts d).1.D++[⟨c.no 2 f,I,0,0⟩],SD:=((c.put 2 f).ts d).1.SD++[((c.put 2 f).ts d).2]}:=⟨λ_=>gH _,gH _,eu _ _,gH _,gH _⟩;exact⟨trivial,λk=>((Gr.ts d _).trans S).fits k,λk=>S.fits k⟩);have q7:N (((c.put 2 f).ts d).1.D.length=ds.length):=C (by rw[(Nm.ts d (c.put 2 f)).d];show c.D.length=_;rw[<-h.s.bd,bg]);have z7:N (j.1.size=w.1.size+1):=C (by show j.1.size=_;rw[hV];exact World.size_alloc _ _);have z8:N (Same (λi=>i≠R) j j):=C (O (Below.refl _ _) (λ_ _ h=>h));have Δ:N (Same (λi=>i<B\/(K<=i/\i<K+3)) w j):=C (O α.q (λi r n=>by have:=HB.q;have:=Y.q;have:=Z.q;have:=ν.q;omega));have z9:=C (h.below α.q);have v0:=C m;have HG:=C hG;have HW:=C ((⟨η.1 f (by rw[E];simp),λs' v1=>η.1 s' (by rw[E];exact d9 _ v1)⟩:_/\_));have b9:N (j.1[w.1.size]?=j.1[w.1.size]?):=C rfl;have H7:=C h7;have γ:=C (ω.below α.q rfl);have Θ:j.cell? ⟨R,5,I⟩=L (J F ds.length P):=((h.s.t.b.keep α.q).1 5).trans h7;have f0:=C Θ;have v2:(w.alloc (U #[G H 7,J (L ⟨v,y,I⟩) (d.length+1) p,G H ι,J va vn vc,.bool lf,G H κ] 77)).cell? ⟨R,5,I⟩=L (J F ds.length P):=by rw[<-hV];exact Θ
 have ο:N (∀g,(Value.slice F ds.length P).ownBlock=L g->g≠w.1.size/\g≠R/\R+1<=g/\¬(K<=g/\g<K+3)):=C (λg S=>⟨λe=>(by obtain⟨_,_,q⟩:=γ.q.tag S;rw[e,z6.q] at q;cases q),λe=>(by have:=(γ.q.lt g S).1;omega),(γ.q.lt g S).1,λe=>(by obtain⟨_,_,q⟩:=γ.q.tag S;obtain⟨_,T,_,q2,hT⟩:=z5.q g e.1 e.2;rw[α.q.block g (by have:=Z.q;omega),q2] at q;cases q;simp[zm] at hT)⟩);rw[E] at θ;have v3:N (Row w 1 encStr ra d.length (p - 1) d):=C θ;have q8:=C q5;have v4:=C Ω;clear k2 k3 k4 k5 k6 hk E;have v5:ds.length<=3000:=by have:=m.2.2.1;rw[<-h.s.bd,bg] at this;exact this
 have v6:N ((ds.length+1)*32<=140737488355328):=C ah;have v8:N (ds.length+1<=maxLen):=C (by unfold maxLen;omega);have v9:N (cs[5]?=L (J F ds.length P)):=H7;have k0:N (Own j (R+1) 57 2 dV (J F ds.length P) ds):=γ;have k7:N (w.1.size<j.1.size):=C (by have:=z7.q;omega);have k8:j.cell? ⟨w.1.size,1,I⟩=L (J (L ⟨v,y,I⟩) (d.length+1) p):=HX.q.1 1;have k9:j.cell? ⟨v,y,I⟩=L (.string ⟨f.toArray⟩):=Δ.q.cell q3 ah;clear h m hG n η q1 q3 h7 ω θ q5 q4 Ω v5;by_cases π:ds.length<3000;rotate_left
 .have hd:decide ((ds.length:Int)<3000)=false:=bE ah
  have y0:N (¬aI (aT c s)):=C (λk=>π (by rw[μ.q] at k;have:=k.2.2.1;rw[bO,kG,q7.q] at this;exact this));have HT:=C (O (A:=λi=>i<B\/(K<=i/\i<K+3)) α.q (λi r n=>by have:=HB.q;have:=Y.q;have:=Z.q;have:=ν.q;omega));clear π;go_enter func130,ntmps130;go_wp2_with fail;refine(lI _ _).mono ?_;rintro e w2 ⟨rfl,rfl⟩;rw[au ak];rw[<-hV];exact⟨rfl,Γ.q _ HT.q y0.q⟩
 have y1:=C π;have hd:decide ((ds.length:Int)<3000)=true:=bT ah;clear π;go_enter func130,ntmps130;go_wp2_with fail;refine(lI _ _).mono ?_;rintro e w2 ⟨rfl,rfl⟩;rw[av rfl];rw[<-hV];clear hV v2;go_wp2_with fail;refine(iB 2 ah f _ z9.q v0.q HW.q.1 (HG.q.same Δ.q)).mono ?_;rintro e t ⟨hS,he⟩;have q9:=C hS;have j0:=C (z8.q.tr hS);have j1:=C (Δ.q.tr (hS.mono (λi r _=>by have:=HB.q;have:=Y.q;have:=Z.q;omega)));rcases iy (aI (c.put 2 f)) with m|m;rotate_left
 .obtain rfl:=he.2 m
  exact⟨rfl,Γ.q _ j1.q (λk=>m (q6.q.2.1 k))⟩
 obtain⟨rfl,y2,Q,hz,ho⟩:=he.1 m;have y3:=C Q;have y4:=C m;have y5:=C ho;have y6:=C (j0.q.block w.1.size (by have:=ν.q;omega) HX.q.2.2);have y7:N (y2[5]?=_):=C ((y5.q 5 (.inl ah)).trans v9.q);have y8:=C (k0.q.iR q9.q);have y9:N (w.1.size<t.1.size):=C (bP k7.q q9.q.size);clear Q hz ho m he hS Θ k8 k9;go_wp2_with fail;have j2:=C (O (A:=λi=>i≠R) (Below.refl t.1.size t).drew (λ_ _ h=>h));have x0:=C (j0.q.tr j2.q);have ρ:=C (j1.q.tr (O (Below.refl t.1.size t).drew (λi r n=>n)));have Ξ:=C (y3.q.below (Below.refl t.1.size t).drew);have x1:=y4;have x2:N (t.drew.1[w.1.size]?=j.1[w.1.size]?):=C y6.q;have j3:=y7;have x3:=C (y8.q.iR j2.q);have x4:N (w.1.size<t.drew.1.size):=C y9.q;have x5:N (Row t.drew 1 encStr ra d.length (p - 1) d):=C (ρ.q.row v3.q (λb o e=> .inl (q8.q b o e)));refine dz 18 [(0,0),(1,0),(2,0),(3,0),(4,0),(5,0),(6,0),(7,0),(8,0),(9,0),(10,0),(11,2),(12,0),(13,2),(14,2),(15,1),(16,1),(17,0),(18,2)] (λ_=>True) (λW'=>W'.cell? ⟨w.1.size,1,I⟩=L (J (L ⟨v,y,I⟩) (d.length+1) p)/\W'.cell? ⟨R,5,I⟩=L (J F ds.length P)) (λch w'=>gL B K R (aT c s) w (.panicked ch) w') ay ay (λch a1 t hd Q=>⟨hd,Q⟩) (trivial) (ξ.q _ x2.q ρ.q ((Ξ.q.s.t.b.1 5).trans j3.q)) ?_;refine qC ?_;refine aF rfl rfl (λK u=>?_);go_simp;refine(Ob d ra d.length _ _ Ξ.q x1.q x5.q (λb o e=>by have:=q8.q b o e;have:=HB.q;have:=Y.q;have:=Z.q;omega) HW.q.2 (by have:=v4.q;omega) (HG.q.same ρ.q) Y.q).mono ?_;rintro e w3 ⟨hS,he⟩;have j4:=C hS;have x6:=C (x0.q.tr hS);have Φ:=C (ρ.q.tr (hS.mono (λi r _=>by have:=HB.q;have:=Y.q;have:=Z.q;omega)));rcases iy (aI ((c.put 2 f).ts d).1) with m|m;rotate_left
 .obtain rfl:=he.2 m
  exact⟨rfl,Γ.q _ Φ.q (λk=>m (q6.q.2.2 k))⟩
 obtain⟨a2,q2,rfl,j5,x7,Q,hz,ho⟩:=he.1 m;have σ:=C Q;have x8:=C m;have x9:=C ho;have j6:=C (x6.q.block w.1.size (by have:=ν.q;omega) HX.q.2.2);have b0:=C (j5.mono (B':=R+1) (by have:=Ξ.q.s.t.b.2.2;omega));have β:N (x7[5]?=_):=C ((x9.q 5 (.inl ah)).trans j3.q);have j7:=C (x3.q.iR j4.q);have j8:N (w.1.size<w3.1.size):=C (bP x4.q j4.q.size);refine u _ _ ⟨trivial,ξ.q _ j6.q Φ.q ((σ.q.s.t.b.1 5).trans β.q)⟩ ?_;clear u K Q hz ho m he hS j5;refine qC ?_;refine aF rfl rfl (λK u=>?_);go_simp;have δ:=aA (Below.refl w3.1.size w3) (U #[G H (c.no 2 f),J a2 d.length q2] 57);have τ:=C δ;have j9:=C (Φ.q.tr (O δ (λi r n=>n)));have z0:N ((w3.alloc (U #[G H (c.no 2 f),J a2 d.length q2] 57)).1[w.1.size]?=j.1[w.1.size]?):=C ((δ.block _ (by have:=j8.q;omega)).trans j6.q);have z1:=C (σ.q.s.t.b.keep δ);refine u _ _ ⟨trivial,ξ.q _ z0.q j9.q ((z1.q.1 5).trans β.q)⟩ ?_;clear u K δ;refine aF rfl rfl (λK u=>?_);refine kM _ _ 24 rfl i z 32 underlying24 HI.q.1 HI.q.2.1 HI.q.2.2.1 HI.q.2.2.2.1 HI.q.2.2.2.2 rfl (j7.q.below τ.q rfl) (L ⟨w3.1.size,0,I⟩) 1 1 (ds.length+1) [⟨c.no 2 f,a2,d.length,q2⟩] rfl (Row.or1 w3 _) rfl v6.q v8.q (bI (Nat.succ_le_of_lt σ.q.s.t.b.2.2) τ.q.size) ?_;intro a' c' w9 z2 X b1;have z3:=C (j9.q.tr ⟨X.os,X.tape,X.output,X.size,λi r n=>X.block i n (λe=>by have:=(ο.q i e.symm).2.2.1;have:=(ο.q i e.symm).2.2.2;have:=HB.q;have:=Y.q;have:=Z.q;omega)⟩);have b2:N (w9.1[w.1.size]?=j.1[w.1.size]?):=C ((X.block w.1.size (bP j8.q τ.q.size) (λe=>(ο.q _ e.symm).1 rfl)).trans z0.q);have ε:=z1.q.grown X (λe=>(ο.q _ e).2.1 rfl);refine u _ _ ⟨trivial,ξ.q _ b2.q z3.q ((ε.1 5).trans β.q)⟩ ?_;have f1:=(ε.1 5).trans β.q;have f2:=ε.2.1 5;have b3:=C ε;have z4:=C z2;have ζ:=C X;clear u K ε z2 X b1;refine qC ?_;refine aW rfl rfl rfl (λK u=>?_);go_simp;refine u _ _ trivial ?_;clear u K;refine ja ?_;have b4:N (aI (aT c s)):=C (by rw[μ.q];have k:=x8.q;exact⟨k.1,k.2.1,by show(((c.put 2 f).ts d).1.D++[_]).length<=3000;rw[bO,kG,q7.q];exact y1.q,k.2.2.2.1,k.2.2.2.2.1,k.2.2.2.2.2⟩);go_wp2_with fail;refine bodyPost_end (results_none rfl _ _ _) rfl ?_;refine⟨z3.q.setTail (λh=>by have:=HB.q;have:=Y.q;have:=Z.q;omega),λ_=>⟨rfl,?_⟩,λk=>absurd b4.q k⟩;rw[μ.q];have b5:Same (λi=>i≠R/\(Value.slice F ds.length P).ownBlock≠L i) w3 (w9.setCell ⟨R,5,I⟩ (J a' (ds.length+1) c')):=
  ((O τ.q (λ_ _ h=>h)).tr ⟨ζ.q.os,ζ.q.tape,ζ.q.output,ζ.q.size,λi r n=>ζ.q.block i n (λe=>r.2 e.symm)⟩).setTail (λh=>h.1 rfl)
 exact⟨_,_,_,_,σ.q.order (x:=(⟨c.no 2 f,a2,d.length,q2⟩:aG)) β.q j7.q b5 (z4.q.same (A:=λi=>i≠R) ((Same.refl' _).setTail (λh=>h rfl)) (λg S e=>by have:=(z4.q.lt g S).1;omega)) (b3.q.bB 5 (dS.1 β.q).1 _) b0.q⟩
end
theorem ji.box {B R g:Nat}{cs:Array Value}{es:List EvC}{T:TypeId}(h:ji B X R cs c es i j)(b:∃cs n,X.1[g]?=L (U cs T n))
  (u:9≠T) (w:57≠T) (x:63≠T) (y:53≠T) (p:3≠T) (k:49≠T\/∀v,cs[4]?=L v->v.ownBlock≠L g) (l:60≠T\/∀v,cs[6]?=L v->v.ownBlock≠L g) (z:R≠g) (a:Same (λA=>A≠g) X Y):ji B Y R cs c es i j:=by
 have s:=h.s;refine⟨⟨s.t.apart b u z a,?_,?_,?_,?_,s.be,s.bd,s.bm,s.se.imp (λ_ _ o=>o.aQ b y a),s.sd.imp (λ_ _ o=>o.aQ b p a),s.sm.imp (λ_ _ o=>o.aQ b p a)⟩,?_,h.b⟩
 .obtain⟨v,d,f⟩:=s.e
  refine⟨v,d,?_⟩;rcases k with k|k
  .exact f.aQ b k a
  .exact f.same a (λq m e=>k v d (by rw[m,e]))
 .obtain⟨v,d,f⟩:=s.d
  exact⟨v,d,f.aQ b w a⟩
 .obtain⟨v,d,f⟩:=s.m
  refine⟨v,d,?_⟩;rcases l with l|l
  .exact f.aQ b l a
  .exact f.same a (λq m e=>l v d (by rw[m,e]))
 .obtain⟨v,d,f⟩:=s.q
  exact⟨v,d,f.aQ b x a⟩
 .obtain⟨E,F,r,P⟩:=h.m
  refine⟨E,F,r.same a (λe=>?_),P⟩;obtain⟨q,n,m⟩:=b;obtain⟨_,_,t⟩:=r.obj;rw[e,m] at t
  cases t
theorem names8 (f:eF s)(k:s.kind=8):∃g i e,s.names=g::i::e/\e.length<=300:=by
 have j:∃c:Nat,s.names.length=c+2/\c<=300:=by
  rcases f.2.2 with h|h|h|h|h|h|h|h|h <;> (first|exact h.2.1|(exfalso;have:=h.1;omega))
 obtain⟨q,d,m⟩:=j
 match n:s.names,d with
 |[],d=>simp at d
 |[_],d=>simp at d
 |a::b::l,d=>exact⟨a,b,l,rfl,by simp at d;omega⟩
section
variable {B K R:Nat}{cs:Array Value}{c:Cont}{es:List EvC}{ds:List aG}{ms:List aK}
theorem Oh (l:bH)(s:aJ)(w:World)(h:ji B w R cs c es ds ms)(j:aI c)(u:tO w B l s)(hk:s.kind=8)(j1:eF s)(hG:lY B K w)(k8:nA w K)(x5:R<K):
  Calls Tryz.prog 131 #[.pointer (L ⟨R,0,I⟩),dU l] w (gL B K R (aT c s) w):=by
 obtain⟨d,m,f,hn,x6⟩:=names8 j1 hk;have x7:l.nn=f.length+2:=by rw[u.k.2.2.2.2.1,hn];rfl
 obtain⟨nb,no,z1,x8,x9⟩:=u.name (i:=0) (x:=d) (by rw[hn];rfl);obtain⟨w7,w8,b0,m1,b1⟩:=u.name (i:=1) (x:=m) (by rw[hn];rfl);rw[z1] at b0;injection b0 with q;injection q with q1 q2;subst q1 q2;obtain⟨ra,k9,y0,z2,b2⟩:=CO u.n 2 ah;have b3:∀b o,ra=L ⟨b,o,I⟩->b<B:=λb o e=>(let⟨q,e1,e2⟩:=b2 b o e;by rw[z1] at e1;injection e1 with e1;subst e1;subst e2;exact x8)
 obtain⟨v7,h7,y1⟩:=h.s.m;obtain⟨a7,c7,rfl,_,ZL⟩:=y1.shape;obtain⟨i,z,t⟩:=KA;have HI:=C t;clear t;obtain⟨lk,la,ln,nc,z3,va,vn,vc,P,z4⟩:=l;obtain⟨k1,k2,k3,k4,k5,k6⟩:=u.k;simp only at k1 k2 k3 k4 k5 k6 z1 x7 k9 y0 z2;rw[hk] at k1;subst k1;have z5:N (aT c s={(((c.put 3 d).put 2 m).ts f).1 with M:=(((c.put 3 d).put 2 m).ts f).1.M++[⟨c.no 3 d,(c.put 3 d).no 2 m,P,I,0,0⟩],SM:=(((c.put 3 d).put 2 m).ts f).1.SM++[(((c.put 3 d).put 2 m).ts f).2]}):=C (by unfold aT;simp only[hk,hn,<-k3];rw[(Nm.ts f ((c.put 3 d).put 2 m)).m,(Nm.ts f ((c.put 3 d).put 2 m)).sm];rfl);subst z1 x7;have hsl1:∀W,(Instr.slice 22 (J (L ⟨nb,no,I⟩) (f.length+2) nc) (L (G H 2)) I I).run Tryz.prog W= .ok (J ra f.length (nc - 2)) W:=k9;have acA:∀W,(Instr.sliceAt 22 (J (L ⟨nb,no,I⟩) (f.length+2) nc) (L (G H 2)) I I).run Tryz.prog W= .ok (J ra f.length (nc - 2)) W:=y0;clear k9 y0;have m2:=C k8;have β:=C x5;have γ:N (K+3<=w.1.size):=C (let⟨q,T,fz,e,_⟩:=k8 (K+2) ah ah;(dS.1 e).1);clear k8 x5;have HB:=C h.b;have ζ:N (R<w.1.size):=C h.s.t.b.2.2;obtain⟨r,hV⟩:∃r,r=w.alloc (U #[G H 8,J (L ⟨nb,no,I⟩) (f.length+2) nc,G H z3,J va vn vc,.bool P,G H z4] 77):=⟨_,rfl⟩;have Ω:N (Below w.1.size w r):=C (by rw[hV];exact aA (Below.refl w.1.size w) _);have HX:N (Bx r w.1.size #[G H 8,J (L ⟨nb,no,I⟩) (f.length+2) nc,G H z3,J va vn vc,.bool P,G H z4]):=C (by rw[hV];exact Bx.new w _ _);have m3:N (r.1[w.1.size]?=L (U #[G H 8,J (L ⟨nb,no,I⟩) (f.length+2) nc,G H z3,J va vn vc,.bool P,G H z4] 77 (0,0))):=C (by rw[hV];exact gM w _);have ν:N (∀W,W.1[w.1.size]?=r.1[w.1.size]?->Same (λi=>i<B\/(K<=i/\i<K+3)) w W->(λY=>Y.cell? ⟨w.1.size,1,I⟩=L (J (L ⟨nb,no,I⟩) (f.length+2) nc)/\Y.cell? ⟨w.1.size,4,I⟩=L (.bool P)/\Y.cell? ⟨nb,no,I⟩=L (.string ⟨d.toArray⟩)/\Y.cell? ⟨nb,no+1,I⟩=L (.string ⟨m.toArray⟩)) W):=C (λW hb hs=>⟨(V (a:=⟨w.1.size,1,I⟩) hb).trans (HX.q.1 1),(V (a:=⟨w.1.size,4,I⟩) hb).trans (HX.q.1 4),hs.cell x9 ah,hs.cell b1 ah⟩);have φ:N (∀W,Same (λi=>i<B\/(K<=i/\i<K+3)) w W->¬aI (aT c s)->gL B K R (aT c s) w (.panicked jT) W):=C (λW hs hn=>⟨hs,λk=>absurd k hn,λ_=>rfl⟩);have q0:N (True/\(aI (aT c s)->aI (c.put 3 d))/\(aI (aT c s)->aI ((c.put 3 d).put 2 m))/\(aI (aT c s)->aI (((c.put 3 d).put 2 m).ts f).1)):=C (by rw[z5.q];have hg:Gr (((c.put 3 d).put 2 m).ts f).1 {(((c.put 3 d).put 2 m).ts f).1 with M:=(((c.put 3 d).put 2 m).ts f).1.M++[⟨c.no 3 d,(c.put 3 d).no 2 m,P,I,0,0⟩],SM:=(((c.put 3 d).put 2 m).ts f).1.SM++[(((c.put 3 d).put 2 m).ts f).2]}:=⟨λ_=>gH _,gH _,gH _,eu _ _,gH _⟩;exact⟨trivial,λk=>((Gr.put _ 2 _).trans ((Gr.ts f _).trans hg)).fits k,λk=>((Gr.ts f _).trans hg).fits k,λk=>hg.fits k⟩);have b4:N ((((c.put 3 d).put 2 m).ts f).1.M.length=ms.length):=C (by rw[(Nm.ts f ((c.put 3 d).put 2 m)).m];show c.M.length=_;rw[<-h.s.bm,bg]);have b5:N (r.drew.1.size=w.1.size+1):=C (by show r.1.size=_;rw[hV];exact World.size_alloc _ _);have z6:N (Same (λi=>i≠R) r r.drew):=C (O (Below.refl _ _).drew (λ_ _ h=>h));have j2:N (Same (λi=>i<B\/(K<=i/\i<K+3)) w r.drew):=C (O Ω.q.drew (λi t u=>by have:=HB.q;have:=β.q;have:=γ.q;have:=ζ.q;omega));have z7:=C (h.below Ω.q.drew);have b6:=C j;have HG:=C hG;have HW:=C ((⟨j1.1 d (by rw[hn];simp),j1.1 m (by rw[hn];simp),λs' m4=>j1.1 s' (by rw[hn];exact d9 _ (d9 _ m4))⟩:_/\_/\_));have b7:N (r.drew.1[w.1.size]?=r.1[w.1.size]?):=C rfl;have H7:=C h7;have j3:=C (y1.below Ω.q rfl);have y2:r.cell? ⟨R,6,I⟩=L (J a7 ms.length c7):=((h.s.t.b.keep Ω.q).1 6).trans h7;have HX7:=C y2;have m5:(w.alloc (U #[G H 8,J (L ⟨nb,no,I⟩) (f.length+2) nc,G H z3,J va vn vc,.bool P,G H z4] 77)).cell? ⟨R,6,I⟩=L (J a7 ms.length c7):=by rw[<-hV];exact y2
 have q3:N (∀g,(Value.slice a7 ms.length c7).ownBlock=L g->g≠w.1.size/\g≠R/\R+1<=g/\¬(K<=g/\g<K+3)):=C (λg hg=>⟨λe=>(by obtain⟨_,_,q⟩:=j3.q.tag hg;rw[e,m3.q] at q;cases q),λe=>(by have:=(j3.q.lt g hg).1;omega),(j3.q.lt g hg).1,λe=>(by obtain⟨_,_,q⟩:=j3.q.tag hg;obtain⟨_,T,_,q2,hT⟩:=m2.q g e.1 e.2;rw[Ω.q.block g (by have:=γ.q;omega),q2] at q;cases q;simp[zm] at hT)⟩);rw[hn] at z2;have m6:N (Row w 1 encStr ra f.length (nc - 2) f):=C z2;have b8:=C b3;have m7:=C x6;clear k2 k3 k4 k5 k6 hk hn;have m8:ms.length<=3000:=by have:=j.2.2.2.1;rw[<-h.s.bm,bg] at this;exact this
 have m9:N ((ms.length+1)*48<=140737488355328):=C ah;have p0:N (ms.length+1<=maxLen):=C (by unfold maxLen;omega);have b9:N (cs[6]?=L (J a7 ms.length c7)):=H7;have ξ:N (Own r.drew (R+1) 60 4 eB (J a7 ms.length c7) ms):=j3;have z8:N (w.1.size<r.drew.1.size):=C (by have:=b5.q;omega);have q3:=q3;clear h j hG u j1 x8 x9 m1 b1 h7 y1 z2 b3 b2 x6 m8;by_cases z9:ms.length<3000;rotate_left
 .have hd:decide ((ms.length:Int)<3000)=false:=bE ah
  have p1:N (¬aI (aT c s)):=C (λk=>z9 (by rw[z5.q] at k;have:=k.2.2.2.1;rw[bO,kG,b4.q] at this;exact this));have HT:=C (O (A:=λi=>i<B\/(K<=i/\i<K+3)) Ω.q (λi t u=>by have:=HB.q;have:=β.q;have:=γ.q;have:=ζ.q;omega));clear z9;go_enter func131,ntmps131;go_wp2_with fail;refine(lI _ _).mono ?_;rintro e Q ⟨rfl,rfl⟩;rw[au ak];rw[<-hV];exact⟨rfl,φ.q _ HT.q p1.q⟩
 have p2:=C z9;have hd:decide ((ms.length:Int)<3000)=true:=bT ah;clear z9;go_enter func131,ntmps131;go_wp2_with fail;refine(lI _ _).mono ?_;rintro e Q ⟨rfl,rfl⟩;rw[av rfl];rw[<-hV];clear hV m5;go_wp2_with fail;clear y2;have hp0:(0:Int)<(f.length:Int)+2:=by omega
 have hp1:(1:Int)<(f.length:Int)+2:=by omega
 refine qz 99 (.q 0 0 (.q 1 0 (.q 2 0 (.q 3 0 (.q 4 0 (.q 6 0 (.q 7 0 (.q 8 0 (.q 9 0 (.q 10 0 (.q 12 0 (.q 13 0 (.alt 5 (.alt 11 (.q 14 0 (.l 15 (.l 16 .nil))) 15 (.l 11 (.q 14 0 (.l 16 .nil)))) 15 (.l 5 (.l 11 (.q 14 0 (.l 16 .nil))))))))))))))))) (λ_=>True) (λY=>Y.cell? ⟨w.1.size,1,I⟩=L (J (L ⟨nb,no,I⟩) (f.length+2) nc)/\Y.cell? ⟨w.1.size,4,I⟩=L (.bool P)/\Y.cell? ⟨nb,no,I⟩=L (.string ⟨d.toArray⟩)/\Y.cell? ⟨nb,no+1,I⟩=L (.string ⟨m.toArray⟩)) (λch w'=>gL B K R (aT c s) w (.panicked ch) w') ay ay (λch a1 X hd E=>⟨hd,E⟩) trivial (ν.q _ b7.q j2.q) ?_;refine qC ?_;obtain⟨Z,y3⟩:∃Z:World,Z=r.drew:=⟨_,rfl⟩;rw[<-y3] at z6 j2 z7 b7 ξ z8 b5 ⊢;have ι:N (Z.1.size=r.1.size):=C (by rw[y3];rfl);clear y3;refine⟨?g1,?g2⟩
 case' g1=>
  refine gP rfl rfl (λK p=>?_);go_simp;refine(iB 3 ah d _ z7.q b6.q HW.q.1 (HG.q.same j2.q)).mono ?_;rintro e X ⟨hS,y⟩;have χ:=C hS;have τ:=C (z6.q.tr hS);have ο:=C (j2.q.tr (hS.mono (λi t _=>by have:=HB.q;have:=β.q;have:=γ.q;omega)));rcases iy (aI (c.put 3 d)) with j|j;rotate_left
  .obtain rfl:=y.2 j
   exact⟨rfl,φ.q _ ο.q (λk=>j (q0.q.2.1 k))⟩
  obtain⟨rfl,p3,E,hz,S⟩:=y.1 j;have q4:=C E;have v0:=C j;have p4:=C S;have v1:=C (τ.q.block w.1.size (by have:=ζ.q;omega) HX.q.2.2);have v2:N (p3[6]?=_):=C ((p4.q 6 (.inl ah)).trans b9.q);have j4:=C (ξ.q.iR χ.q);have q5:N (w.1.size<X.1.size):=C (bP z8.q χ.q.size);refine p _ _ ⟨trivial,ν.q _ v1.q ο.q⟩ ?_;clear p K E hz S j y hS;refine⟨?g3,?g4⟩
  case' g3=>
   refine gP rfl rfl (λK p=>?_);go_simp;refine(iB 2 ah m _ q4.q v0.q HW.q.2.1 (HG.q.same ο.q)).mono ?_;rintro e Q ⟨hS,y⟩;have κ:=C hS;have π:=C (τ.q.tr hS);have η:=C (ο.q.tr (hS.mono (λi t _=>by have:=HB.q;have:=β.q;have:=γ.q;omega)));rcases iy (aI ((c.put 3 d).put 2 m)) with j|j;rotate_left
   .obtain rfl:=y.2 j
    exact⟨rfl,φ.q _ η.q (λk=>j (q0.q.2.2.1 k))⟩
   obtain⟨rfl,y4,E,hz,S⟩:=y.1 j;have ψ:=C E;have j5:=C j;have y5:=C S;have q6:=C (π.q.block w.1.size (by have:=ζ.q;omega) HX.q.2.2);have j6:N (y4[6]?=_):=C ((y5.q 6 (.inl ah)).trans v2.q);have q7:=C (j4.q.iR κ.q);have ω:N (w.1.size<Q.1.size):=C (bP q5.q κ.q.size);refine p _ _ ⟨trivial,ν.q _ q6.q η.q⟩ ?_;clear p K E hz S j y hS;refine qC ?_;refine aF rfl rfl (λK p=>?_);go_simp;have F:=aA (Below.refl Q.1.size Q) (U #[G H 0,G H 0,.bool false,J I 0 0] 60);have δ:N (Same (λi=>i≠R) (Q) (Q.alloc (U #[G H 0,G H 0,.bool false,J I 0 0] 60))):=C (O F (λ_ _ h=>h));have Γ:=C (π.q.tr δ.q);have ρ:=C (η.q.tr (O F (λi t u=>u)));have v3:=C (ψ.q.below F);have y6:=j5;have Δ:=C (Γ.q.block w.1.size (by have:=ζ.q;omega) HX.q.2.2);have v4:=j6;have v5:=C (q7.q.iR δ.q);have j7:N (w.1.size<(Q.alloc (U #[G H 0,G H 0,.bool false,J I 0 0] 60)).1.size):=C (bP ω.q δ.q.size);have ε:N (r.1.size<=Q.1.size):=C (by have:=π.q.size;have:=ι.q;omega);have Θ:=C (Bx.new Q #[G H 0,G H 0,.bool false,J I 0 0] 60);have q8:=C (gM Q (U #[G H 0,G H 0,.bool false,J I 0 0] 60));have α:N (Q.1.size≠R):=C (λe=>by have:=ψ.q.s.t.b.2.2;omega);have σ:N (w.1.size<Q.1.size):=C ω.q;refine p _ _ ⟨trivial,ν.q _ Δ.q ρ.q⟩ ?_;obtain⟨n,υ⟩:∃n,n=Q.1.size:=⟨_,rfl⟩;rw[<-υ] at Θ q8 α σ ε ⊢;generalize Q.alloc (U #[G H 0,G H 0,.bool false,J I 0 0] 60)=w3 at δ Γ ρ v3 Δ j7 Θ q8 v5 ⊢;clear p K F υ
  case' g4=>
   refine gP rfl rfl (λK p=>?_);go_simp;have F:=aA (Below.refl X.1.size X) (U #[G H 0,G H 0,.bool false,J I 0 0] 60);have κ:N (Same (λi=>i≠R) (X) (X.alloc (U #[G H 0,G H 0,.bool false,J I 0 0] 60))):=C (O F (λ_ _ h=>h));have π:=C (τ.q.tr κ.q);have η:=C (ο.q.tr (O F (λi t u=>u)));have ψ:=C (q4.q.below F);have j5:=v0;have q6:=C (π.q.block w.1.size (by have:=ζ.q;omega) HX.q.2.2);have j6:=v2;have q7:=C (j4.q.iR κ.q);have ω:N (w.1.size<(X.alloc (U #[G H 0,G H 0,.bool false,J I 0 0] 60)).1.size):=C (bP q5.q κ.q.size);have ε:N (r.1.size<=X.1.size):=C (by have:=τ.q.size;have:=ι.q;omega);have Ξ:=C (Bx.new X #[G H 0,G H 0,.bool false,J I 0 0] 60);have j8:=C (gM X (U #[G H 0,G H 0,.bool false,J I 0 0] 60));have α:N (X.1.size≠R):=C (λe=>by have:=q4.q.s.t.b.2.2;omega);have σ:N (w.1.size<X.1.size):=C q5.q;refine p _ _ ⟨trivial,ν.q _ q6.q η.q⟩ ?_;obtain⟨n,υ⟩:∃n,n=X.1.size:=⟨_,rfl⟩;rw[<-υ] at Ξ j8 α σ ε ⊢;generalize X.alloc (U #[G H 0,G H 0,.bool false,J I 0 0] 60)=Q at κ π η ψ q6 ω Ξ j8 q7 ⊢;clear p K F υ;refine aF rfl rfl (λK p=>?_);go_simp;refine(iB 2 ah m _ ψ.q j5.q HW.q.2.1 (HG.q.same η.q)).mono ?_;rintro e w3 ⟨hS,y⟩;have δ:=C hS;have Γ:=C (π.q.tr hS);have ρ:=C (η.q.tr (hS.mono (λi t _=>by have:=HB.q;have:=β.q;have:=γ.q;omega)));rcases iy (aI ((c.put 3 d).put 2 m)) with j|j;rotate_left
   .obtain rfl:=y.2 j
    exact⟨rfl,φ.q _ ρ.q (λk=>j (q0.q.2.2.1 k))⟩
   obtain⟨rfl,y7,E,hz,S⟩:=y.1 j;have v3:=C E;have y6:=C j;have y8:=C S;have Δ:=C (Γ.q.block w.1.size (by have:=ζ.q;omega) HX.q.2.2);have v4:N (y7[6]?=_):=C ((y8.q 6 (.inl ah)).trans j6.q);have v5:=C (q7.q.iR δ.q);have j7:N (w.1.size<w3.1.size):=C (bP ω.q δ.q.size);have Θ:=C (δ.q.bx Ξ.q α.q);have q8:=C ((δ.q.block n α.q Ξ.q.2.2).trans j8.q);refine p _ _ ⟨trivial,ν.q _ Δ.q ρ.q⟩ ?_;clear p K E hz S j y hS;refine qC ?_
 case' g2=>
  refine gP rfl rfl (λK p=>?_);go_simp;have F:=aA (Below.refl Z.1.size Z) (U #[G H 0,G H 0,.bool false,J I 0 0] 60);have χ:N (Same (λi=>i≠R) (Z) (Z.alloc (U #[G H 0,G H 0,.bool false,J I 0 0] 60))):=C (O F (λ_ _ h=>h));have τ:=C (z6.q.tr χ.q);have ο:=C (j2.q.tr (O F (λi t u=>u)));have q4:=C (z7.q.below F);have v0:=b6;have v1:=C (τ.q.block w.1.size (by have:=ζ.q;omega) HX.q.2.2);have v2:=b9;have j4:=C (ξ.q.iR χ.q);have q5:N (w.1.size<(Z.alloc (U #[G H 0,G H 0,.bool false,J I 0 0] 60)).1.size):=C (bP z8.q χ.q.size);have ε:N (r.1.size<=Z.1.size):=C (by have:=z6.q.size;have:=ι.q;omega);have v6:=C (Bx.new Z #[G H 0,G H 0,.bool false,J I 0 0] 60);have y9:=C (gM Z (U #[G H 0,G H 0,.bool false,J I 0 0] 60));have α:N (Z.1.size≠R):=C (λe=>by have:=z7.q.s.t.b.2.2;omega);have σ:N (w.1.size<Z.1.size):=C z8.q;refine p _ _ ⟨trivial,ν.q _ v1.q ο.q⟩ ?_;obtain⟨n,υ⟩:∃n,n=Z.1.size:=⟨_,rfl⟩;rw[<-υ] at v6 y9 α σ ε ⊢;generalize Z.alloc (U #[G H 0,G H 0,.bool false,J I 0 0] 60)=X at χ τ ο q4 v1 q5 v6 y9 j4 ⊢;clear p K F υ;refine aF rfl rfl (λK p=>?_);go_simp;refine(iB 3 ah d _ q4.q v0.q HW.q.1 (HG.q.same ο.q)).mono ?_;rintro e Q ⟨hS,y⟩;have κ:=C hS;have π:=C (τ.q.tr hS);have η:=C (ο.q.tr (hS.mono (λi t _=>by have:=HB.q;have:=β.q;have:=γ.q;omega)));rcases iy (aI (c.put 3 d)) with j|j;rotate_left
  .obtain rfl:=y.2 j
   exact⟨rfl,φ.q _ η.q (λk=>j (q0.q.2.1 k))⟩
  obtain⟨rfl,y4,E,hz,S⟩:=y.1 j;have ψ:=C E;have j5:=C j;have y5:=C S;have q6:=C (π.q.block w.1.size (by have:=ζ.q;omega) HX.q.2.2);have j6:N (y4[6]?=_):=C ((y5.q 6 (.inl ah)).trans v2.q);have q7:=C (j4.q.iR κ.q);have ω:N (w.1.size<Q.1.size):=C (bP q5.q κ.q.size);have Ξ:=C (κ.q.bx v6.q α.q);have j8:=C ((κ.q.block n α.q v6.q.2.2).trans y9.q);refine p _ _ ⟨trivial,ν.q _ q6.q η.q⟩ ?_;clear p K E hz S j y hS;refine aF rfl rfl (λK p=>?_);go_simp;refine(iB 2 ah m _ ψ.q j5.q HW.q.2.1 (HG.q.same η.q)).mono ?_;rintro e w3 ⟨hS,y⟩;have δ:=C hS;have Γ:=C (π.q.tr hS);have ρ:=C (η.q.tr (hS.mono (λi t _=>by have:=HB.q;have:=β.q;have:=γ.q;omega)));rcases iy (aI ((c.put 3 d).put 2 m)) with j|j;rotate_left
  .obtain rfl:=y.2 j
   exact⟨rfl,φ.q _ ρ.q (λk=>j (q0.q.2.2.1 k))⟩
  obtain⟨rfl,y7,E,hz,S⟩:=y.1 j;have v3:=C E;have y6:=C j;have y8:=C S;have Δ:=C (Γ.q.block w.1.size (by have:=ζ.q;omega) HX.q.2.2);have v4:N (y7[6]?=_):=C ((y8.q 6 (.inl ah)).trans j6.q);have v5:=C (q7.q.iR δ.q);have j7:N (w.1.size<w3.1.size):=C (bP ω.q δ.q.size);have Θ:=C (δ.q.bx Ξ.q α.q);have q8:=C ((δ.q.block n α.q Ξ.q.2.2).trans j8.q);refine p _ _ ⟨trivial,ν.q _ Δ.q ρ.q⟩ ?_;clear p K E hz S j y hS;refine qC ?_
 all_goals
  have x0:=Θ.q.1;have x1:=Θ.q.2.1;refine aF rfl rfl (λK p=>?_);go_simp;have Φ:N (Same (λi=>i≠n) w3 ((((w3.setCell ⟨n,0,I⟩ (G H (c.no 3 d))).setCell ⟨n,1,I⟩ (G H ((c.put 3 d).no 2 m))).setCell ⟨n,2,I⟩ (.bool P)).setCell ⟨n,3,I⟩ (J I 0 0))):=C (((((Same.refl' w3).setTail (λh=>h rfl)).setTail (λh=>h rfl)).setTail (λh=>h rfl)).setTail (λh=>h rfl));have x2:=C ((((Θ.q.bB 0 ak (G H (c.no 3 d))).bB 1 ak (G H ((c.put 3 d).no 2 m))).bB 2 ak (.bool P)).bB 3 ak (J I 0 0));have f0:=C (bW (i:=3) (bW (i:=2) (bW (i:=1) (bW (i:=0) (q8.q) (G H (c.no 3 d))) (G H ((c.put 3 d).no 2 m))) (.bool P)) (J I 0 0));have x3:=C (v3.q.box (T:=60) ⟨_,_,q8.q⟩ aj aj aj aj aj (.inl aj) (.inr (λv hv e=>by rw[v4.q] at hv;injection hv with hv;subst hv;have:=(ξ.q.lt n e).2;have:=ε.q;have:=ι.q;omega)) (λe=>α.q e.symm) Φ.q);have p5:=y6;have f1:N (Same (λi=>i≠R) r ((((w3.setCell ⟨n,0,I⟩ (G H (c.no 3 d))).setCell ⟨n,1,I⟩ (G H ((c.put 3 d).no 2 m))).setCell ⟨n,2,I⟩ (.bool P)).setCell ⟨n,3,I⟩ (J I 0 0))):=C (((Γ.q.mono (A':=λi=>i≠R/\i<r.1.size) (λi t _=>t.1)).tr (Φ.q.mono (λi t _=>by have:=ε.q;have:=ι.q;omega))).mono (λi t u=>⟨t,u⟩));have q9:=C (ρ.q.tr (Φ.q.mono (λi t _=>by have:=σ.q;have:=ζ.q;have:=HB.q;have:=β.q;have:=γ.q;omega)));have x4:=C ((Φ.q.block w.1.size (by have:=σ.q;omega) j7.q).trans Δ.q);have f2:=C (bP j7.q Φ.q.size);have p6:=v4;have f3:=C (v5.q.same Φ.q (λg hg e=>by have:=(ξ.q.lt g hg).2;have:=ε.q;have:=ι.q;omega));refine p _ _ ⟨trivial,ν.q _ x4.q q9.q⟩ ?_;generalize((((w3.setCell ⟨n,0,I⟩ (G H (c.no 3 d))).setCell ⟨n,1,I⟩ (G H ((c.put 3 d).no 2 m))).setCell ⟨n,2,I⟩ (.bool P)).setCell ⟨n,3,I⟩ (J I 0 0))=w4 at Φ x2 f0 x3 f1 q9 x4 f2 f3 ⊢;clear p K x0 x1;refine ja ?_;have p7:w4.cell? ⟨w.1.size,1,I⟩=L (J (L ⟨nb,no,I⟩) (f.length+2) nc):=(ν.q _ x4.q q9.q).1;go_wp2_with fail;have p8:N (Row w4 1 encStr ra f.length (nc - 2) f):=C (q9.q.row m6.q (λb o e=> .inl (b8.q b o e)));refine(Ob f ra f.length _ _ x3.q p5.q p8.q (λb o e=>by have:=b8.q b o e;have:=HB.q;have:=β.q;have:=γ.q;omega) HW.q.2.2 (by have:=m7.q;omega) (HG.q.same q9.q) β.q).mono ?_;rintro e w5 ⟨hS,y⟩;have v8:=C hS;have p9:=C (f1.q.tr hS);have f4:=C (q9.q.tr (hS.mono (λi t _=>by have:=HB.q;have:=β.q;have:=γ.q;omega)));rcases iy (aI (((c.put 3 d).put 2 m).ts f).1) with j|j;rotate_left
  .obtain rfl:=y.2 j
   exact⟨rfl,φ.q _ f4.q (λk=>j (q0.q.2.2.2 k))⟩
  obtain⟨a2,q2,rfl,f5,r0,E,hz,S⟩:=y.1 j;have r1:=C E;have r2:=C j;have r3:=C S;have r4:=C (p9.q.block w.1.size (by have:=ζ.q;omega) HX.q.2.2);have r5:=C (f5.mono (B':=R+1) (by have:=x3.q.s.t.b.2.2;omega));have f6:N (r0[6]?=_):=C ((r3.q 6 (.inl ah)).trans p6.q);have r6:=C (f3.q.iR v8.q);have f7:N (w.1.size<w5.1.size):=C (bP f2.q v8.q.size);have v9:=C (v8.q.bx x2.q α.q);have f8:=C ((v8.q.block n α.q x2.q.2.2).trans f0.q);clear E hz S j y hS f5 p7;have x0:=v9.q.1 3;have x1:=v9.q.2.1 3;have r7:=v9.q.2.2;go_wp2_with fail;have Ψ:N (Same (λi=>i≠n) w5 (w5.setCell ⟨n,3,I⟩ (J a2 f.length q2))):=C ((Same.refl' w5).setTail (λh=>h rfl));have f9:=C (v9.q.bB 3 ak (J a2 f.length q2));have g0:=C (r1.q.box (T:=60) ⟨_,_,f8.q⟩ aj aj aj aj aj (.inl aj) (.inr (λv hv e=>by rw[f6.q] at hv;injection hv with hv;subst hv;have:=(ξ.q.lt n e).2;have:=ε.q;have:=ι.q;omega)) (λe=>α.q e.symm) Ψ.q);have r8:=r2;have g1:=C (f4.q.tr (Ψ.q.mono (λi t _=>by have:=σ.q;have:=ζ.q;have:=HB.q;have:=β.q;have:=γ.q;omega)));have g2:=C ((Ψ.q.block w.1.size (by have:=σ.q;omega) f7.q).trans r4.q);have g3:=C (bP f7.q Ψ.q.size);have r9:=f6;have g4:=C (r6.q.same Ψ.q (λg hg e=>by have:=(ξ.q.lt g hg).2;have:=ε.q;have:=ι.q;omega));have g5:=C (r5.q.aQ ⟨_,_,f8.q⟩ aj Ψ.q);generalize(w5.setCell ⟨n,3,I⟩ (J a2 f.length q2))=w6 at Ψ f9 g0 g1 g2 g3 g4 g5 ⊢;clear x0 x1 r7;have k0:=C (g0.q.below (Below.refl w6.1.size w6).drew);have u0:=r8;have u1:=C (g1.q.tr (O (Below.refl w6.1.size w6).drew (λi t u=>u)));have u2:N (w6.drew.1[w.1.size]?=r.1[w.1.size]?):=C g2.q;have g6:N (w.1.size<w6.drew.1.size):=C g3.q;have j0:=r9;have g7:N (Own w6.drew (R+1) 60 4 eB (J a7 ms.length c7) ms):=C g4.q;have u3:N (Own w6.drew (R+1) 3 1 aS (J a2 f.length q2) _):=C g5.q;have μ:N (Bx w6.drew n _):=C f9.q.drew;refine dz 12 [(0,0),(1,0),(2,0),(3,0),(4,0),(5,0),(6,0),(7,2),(8,2),(9,1),(10,1),(11,0),(12,2)] (λ_=>True) (λY=>Y.cell? ⟨R,6,I⟩=L (J a7 ms.length c7)/\Y.cell? ⟨n,0,I⟩=L (G H (c.no 3 d))/\Y.cell? ⟨n,1,I⟩=L (G H ((c.put 3 d).no 2 m))/\Y.cell? ⟨n,2,I⟩=L (.bool P)/\Y.cell? ⟨n,3,I⟩=L (J a2 f.length q2)) (λch w'=>gL B K R (aT c s) w (.panicked ch) w') ay ay (λch a1 X hd E=>⟨hd,E⟩) (trivial) (⟨(k0.q.s.t.b.1 6).trans j0.q,μ.q.1 0,μ.q.1 1,μ.q.1 2,μ.q.1 3⟩) ?_;refine qC ?_;refine aF rfl rfl (λK p=>?_);go_simp;have F:=aA (Below.refl w6.drew.1.size w6.drew) (U #[G H (c.no 3 d),G H ((c.put 3 d).no 2 m),.bool P,J a2 f.length q2] 60);have k7:=C F;have u4:=C (u1.q.tr (O F (λi t u=>u)));have u5:N ((w6.drew.alloc (U #[G H (c.no 3 d),G H ((c.put 3 d).no 2 m),.bool P,J a2 f.length q2] 60)).1[w.1.size]?=r.1[w.1.size]?):=C ((F.block _ (by have:=g6.q;omega)).trans u2.q);have g8:=C (k0.q.s.t.b.keep F);refine p _ _ ⟨trivial,(g8.q.1 6).trans j0.q,(μ.q.alloc _).1 0,(μ.q.alloc _).1 1,(μ.q.alloc _).1 2,(μ.q.alloc _).1 3⟩ ?_;clear p K F;refine aF rfl rfl (λK p=>?_);refine kM _ _ 25 rfl i z 48 underlying25 HI.q.1 HI.q.2.1 HI.q.2.2.1 HI.q.2.2.2.1 HI.q.2.2.2.2 rfl (g7.q.below k7.q rfl) (L ⟨w6.drew.1.size,0,I⟩) 1 1 (ms.length+1) [⟨c.no 3 d,(c.put 3 d).no 2 m,P,a2,f.length,q2⟩] rfl (Row.ma1 w6.drew _) rfl m9.q p0.q (bI (Nat.succ_le_of_lt k0.q.s.t.b.2.2) k7.q.size) ?_;intro a' c' w9 g9 θ u6;have u7:=C (u4.q.tr ⟨θ.os,θ.tape,θ.output,θ.size,λi t u=>θ.block i u (λe=>by have:=(q3.q i e.symm).2.2.1;have:=(q3.q i e.symm).2.2.2;have:=HB.q;have:=β.q;have:=γ.q;omega)⟩);have acC:N (w9.1[w.1.size]?=r.1[w.1.size]?):=C ((θ.block w.1.size (bP g6.q k7.q.size) (λe=>(q3.q _ e.symm).1 rfl)).trans u5.q);have j9:=g8.q.grown θ (λe=>(q3.q _ e).2.1 rfl);refine p _ _ ⟨trivial,(j9.1 6).trans j0.q,((μ.q.alloc _).grown θ (λe=>by have:=(ξ.q.lt n e).2;have:=ε.q;have:=ι.q;omega)).1 0,((μ.q.alloc _).grown θ (λe=>by have:=(ξ.q.lt n e).2;have:=ε.q;have:=ι.q;omega)).1 1,((μ.q.alloc _).grown θ (λe=>by have:=(ξ.q.lt n e).2;have:=ε.q;have:=ι.q;omega)).1 2,((μ.q.alloc _).grown θ (λe=>by have:=(ξ.q.lt n e).2;have:=ε.q;have:=ι.q;omega)).1 3⟩ ?_;have SY:=(j9.1 6).trans j0.q;have VP:=j9.2.1 6;have u8:=C j9;have m0:=C g9;have z0:=C θ;clear p K j9 g9 θ u6;refine qC ?_;refine aW rfl rfl rfl (λK p=>?_);go_simp;refine p _ _ trivial ?_;clear p K;refine ja ?_;have u9:N (aI (aT c s)):=C (by rw[z5.q];have k:=u0.q;exact⟨k.1,k.2.1,k.2.2.1,by show((((c.put 3 d).put 2 m).ts f).1.M++[_]).length<=3000;rw[bO,kG,b4.q];exact p2.q,k.2.2.2.2.1,k.2.2.2.2.2⟩);go_wp2_with fail;refine bodyPost_end (results_none rfl _ _ _) rfl ?_;refine⟨u7.q.setTail (λh=>by have:=HB.q;have:=β.q;have:=γ.q;omega),λ_=>⟨rfl,?_⟩,λk=>absurd u9.q k⟩;rw[z5.q];have w0:Same (λi=>i≠R/\(Value.slice a7 ms.length c7).ownBlock≠L i) w6.drew (w9.setCell ⟨R,6,I⟩ (J a' (ms.length+1) c')):=
   ((O k7.q (λ_ _ h=>h)).tr ⟨z0.q.os,z0.q.tape,z0.q.output,z0.q.size,λi t u=>z0.q.block i u (λe=>t.2 e.symm)⟩).setTail (λh=>h.1 rfl)
  exact⟨_,_,_,_,k0.q.Oe (x:=(⟨c.no 3 d,(c.put 3 d).no 2 m,P,a2,f.length,q2⟩:aK)) j0.q g7.q w0 (m0.q.same (A:=λi=>i≠R) ((Same.refl' _).setTail (λh=>h rfl)) (λg hg e=>by have:=(m0.q.lt g hg).1;omega)) (u8.q.bB 6 (dS.1 j0.q).1 _) u3.q⟩
end
theorem VQ (f:eF s)(k:s.kind=4):∃g i e,s.names=g::i::e/\s.aN.length=e.length/\e.length<=40:=by
 have j:∃c:Nat,s.names.length=c+2/\s.aN.length=c/\c<=40:=by
  rcases f.2.2 with h|h|h|h|h|h|h|h|h <;> (first|exact h.2.1|(exfalso;have:=h.1;omega))
 obtain⟨q,d,m,n⟩:=j
 match o:s.names,d with
 |[],d=>simp at d
 |[_],d=>simp at d
 |a::b::l,d=>exact⟨a,b,l,rfl,by simp at d;omega,by simp at d;omega⟩
theorem Row.sn1 (w:World)(x:Sn):Row (w.alloc (U #[G H x.obj,G H x.v.t,G H x.v.k] 53)) 3 cZ (L ⟨w.1.size,0,I⟩) 1 1 [x]:=
 (Own.new (hc:=ko) w w.1.size 53 (enc:=cZ) #[G H x.obj,G H x.v.t,G H x.v.k] [x] (aB _) rfl (by simp[maxLen])).row (hc:=ko) ak
theorem ji.all {B R:Nat}{cs:Array Value}{es:List EvC}(h:ji B X R cs c es i j)(a:Same (λ_=>True) X Y):ji B Y R cs c es i j:=
 h.tN (a.mono (λ_ _ _=>trivial)) ⟨a.bx h.s.t.b trivial,λk b=>(let⟨v,d,e⟩:=h.s.t.t k b;⟨v,d,e.same a (λ_ _=>trivial)⟩),h.s.t.n⟩ (λ_ _=>rfl)
theorem ji.seen {B R:Nat}{cs:Array Value}{es:List EvC}{t:List Sn}(h:ji B X R cs c es i j)(m:Own X (R+1) 53 3 cZ v t)(w:∀x∈es,∀g,v.ownBlock=L g->x.val.ownBlock≠L g)(a:X.grownBy Y v.ownBlock):ji B Y R cs c es i j:=by
 cases k:v.ownBlock with
 |none=>
  rw[k] at a;exact h.all ⟨a.os,a.tape,a.output,a.size,λf _ l=>a.block f l (λe=>by cases e)⟩
 |some g=>
  rw[k] at a;have b:Same (λf=>f≠g) X Y:=⟨a.os,a.tape,a.output,a.size,λf y l=>a.block f l (λe=>y (by injection e))⟩;have d:=m.tag k;have z:R≠g:=λe=>by have:=(m.lt g k).1;omega
  have s:=h.s;refine⟨⟨s.t.apart d aj z b,?_,?_,?_,?_,s.be,s.bd,s.bm,⟨s.se.1,λf x A n E=>(s.se.2 f x A n E).same b (λW F e=>w x (dA n) g k (by rw[F,e]))⟩,s.sd.imp (λ_ _ o=>o.aQ d aj b),s.sm.imp (λ_ _ o=>o.aQ d aj b)⟩,?_,h.b⟩
  .obtain⟨u,u1,u2⟩:=s.e
   exact⟨u,u1,u2.aQ d aj b⟩
  .obtain⟨u,u1,u2⟩:=s.d
   exact⟨u,u1,u2.aQ d aj b⟩
  .obtain⟨u,u1,u2⟩:=s.m
   exact⟨u,u1,u2.aQ d aj b⟩
  .obtain⟨u,u1,u2⟩:=s.q
   exact⟨u,u1,u2.aQ d aj b⟩
  .obtain⟨P,Q,p,S⟩:=h.m
   refine⟨P,Q,p.same b (λe=>?_),S⟩;obtain⟨q,Z,T⟩:=d;obtain⟨_,_,r⟩:=p.obj;rw[e,T] at r
   cases r
theorem VR {α β:Type}{l:List α}{m:List β}{i:Nat}{a:α}{b:β}(d:l[i]?=L a)(e:m[i]?=L b):(l.zip m)[i]?=L (a,b):=by rw[List.getElem?_zip_eq_some];exact⟨d,e⟩
section
variable {B K R:Nat}{cs:Array Value}{c:Cont}{es:List EvC}{ds:List aG}{ms:List aK}
theorem QM (l:bH)(s:aJ)(w:World)(h:ji B w R cs c es ds ms)(d:aI c)(u:tO w B l s)(hk:s.kind=4)(q3:eF s)(hG:lY B K w)(y8:nA w K)(g2:R<K):
  Calls Tryz.prog 128 #[.pointer (L ⟨R,0,I⟩),dU l] w (gL B K R (aT c s) w):=by
 obtain⟨j,m,f,hn,y9,g3⟩:=VQ q3 hk;have g4:l.nn=f.length+2:=by rw[u.k.2.2.2.2.1,hn];rfl
 have g5:l.vn=f.length:=by rw[u.k.2.2.2.2.2,y9]
 obtain⟨X,no,v1,g6,g7⟩:=u.name (i:=0) (x:=j) (by rw[hn];rfl);obtain⟨nb',no',g8,u8,g9⟩:=u.name (i:=1) (x:=m) (by rw[hn];rfl);rw[v1] at g8;injection g8 with q;injection q with q1 q2;subst q1 q2;have j5:∀k x,f[k]?=L x->w.cell? ⟨X,no+(2+k),I⟩=L (.string ⟨x.toArray⟩)/\bG ⟨x.toArray⟩=true:=λk x hx=>by
  obtain⟨b',o',v2,_,u9⟩:=u.name (i:=2+k) (x:=x) (by rw[hn,show 2+k=k+1+1 by omega,List.getElem?_cons_succ,List.getElem?_cons_succ];exact hx);rw[v1] at v2;injection v2 with v2;injection v2 with q1 q2;subst q1 q2;exact⟨u9,q3.1 x (by rw[hn];exact d9 _ (d9 _ (dA hx)))⟩
 have x0:∀k x,s.aN[k]?=L x->∃vb vo,l.va=L ⟨vb,vo,I⟩/\vb<B/\w.cell? ⟨vb,vo+k*2,I⟩=L (.string ⟨x.name.toArray⟩)/\w.cell? ⟨vb,vo+k*2+1,I⟩=L (G H x.k)/\jK x:=λk x hx=>(let⟨vb,vo,h1,h2,h3,h4⟩:=u.dh hx;⟨vb,vo,h1,h2,h3,h4,q3.2.1 x (dA hx)⟩)
 obtain⟨v7,h7,x1⟩:=h.s.e;obtain⟨a7,c7,rfl,_,ZL⟩:=x1.shape;obtain⟨i,z,o⟩:=EF;have HI:=C o;clear o;obtain⟨lk,la,ln,nc,v3,va,vn,vc,lf,v4⟩:=l;obtain⟨k1,k2,k3,k4,k5,k6⟩:=u.k;simp only at k1 k2 k3 k4 k5 k6 v1 g4;rw[hk] at k1;subst k1;have v5:N (aT c s=(((c.put 0 j).put 3 m).sc (f.zip s.aN)).1.ev ⟨4,c.no 0 j,0,0,0,⟨0,0⟩,(c.put 0 j).no 3 m,I,0,0⟩ (((c.put 0 j).put 3 m).sc (f.zip s.aN)).2):=C (by unfold aT;simp only[hk,hn];rfl);subst v1 g4;simp only at g5 x0;subst g5;have x2:=C y8;have ζ:=C g2;have η:N (K+3<=w.1.size):=C (let⟨q,T,y,e,_⟩:=y8 (K+2) ah ah;(dS.1 e).1);clear y8 g2;have HB:=C h.b;have γ:N (R<w.1.size):=C h.s.t.b.2.2;obtain⟨r,hV⟩:∃r,r=w.alloc (U #[G H 4,J (L ⟨X,no,I⟩) (f.length+2) nc,G H v3,J va f.length vc,.bool lf,G H v4] 77):=⟨_,rfl⟩;have q4:N (Below w.1.size w r):=C (by rw[hV];exact aA (Below.refl w.1.size w) _);have HX:N (Bx r w.1.size #[G H 4,J (L ⟨X,no,I⟩) (f.length+2) nc,G H v3,J va f.length vc,.bool lf,G H v4]):=C (by rw[hV];exact Bx.new w _ _);have w0:N (r.1[w.1.size]?=L (U #[G H 4,J (L ⟨X,no,I⟩) (f.length+2) nc,G H v3,J va f.length vc,.bool lf,G H v4] 77 (0,0))):=C (by rw[hV];exact gM w _);have ι:N (∀W,W.1[w.1.size]?=r.1[w.1.size]?->Same (λi=>i<B\/(K<=i/\i<K+3)) w W->(λW'=>W'.cell? ⟨w.1.size,0,I⟩=L (G H 4)/\W'.cell? ⟨w.1.size,1,I⟩=L (J (L ⟨X,no,I⟩) (f.length+2) nc)/\W'.cell? ⟨X,no,I⟩=L (.string ⟨j.toArray⟩)/\W'.cell? ⟨X,no+1,I⟩=L (.string ⟨m.toArray⟩)) W):=C (λW hb hs=>⟨(V (a:=⟨w.1.size,0,I⟩) hb).trans (HX.q.1 0),(V (a:=⟨w.1.size,1,I⟩) hb).trans (HX.q.1 1),hs.cell g7 ah,hs.cell g9 ah⟩);have σ:N (∀W,Same (λi=>i<B\/(K<=i/\i<K+3)) w W->¬aI (aT c s)->gL B K R (aT c s) w (.panicked jT) W):=C (λW hs hn=>⟨hs,λk=>absurd k hn,λ_=>rfl⟩);have φ:N (True/\(aI (aT c s)->aI (c.put 0 j))/\(aI (aT c s)->aI ((c.put 0 j).put 3 m))/\(aI (aT c s)->aI (((c.put 0 j).put 3 m).sc (f.zip s.aN)).1)):=C (by rw[v5.q];exact⟨trivial,λk=>((Gr.put _ 3 _).trans ((Gr.sc _ _).trans (Gr.ev _ _ _))).fits k,λk=>((Gr.sc _ _).trans (Gr.ev _ _ _)).fits k,λk=>(Gr.ev _ _ _).fits k⟩);have x3:N (r.drew.1.size=w.1.size+1):=C (by show r.1.size=_;rw[hV];exact World.size_alloc _ _);have v6:N (Same (λi=>i≠R) r r.drew):=C (O (Below.refl _ _).drew (λ_ _ h=>h));have j6:N (Same (λi=>i<B\/(K<=i/\i<K+3)) w r.drew):=C (O q4.q.drew (λi o u=>by have:=HB.q;have:=ζ.q;have:=η.q;have:=γ.q;omega));have v8:=C (h.below q4.q.drew);have m0:=C d;have HG:=C hG;have HW:=C ((⟨q3.1 j (by rw[hn];simp),q3.1 m (by rw[hn];simp)⟩:_/\_));have m4:N (r.drew.1[w.1.size]?=r.1[w.1.size]?):=C rfl;have H7:=C h7;have j7:=C (x1.below q4.q rfl);have x4:r.cell? ⟨R,4,I⟩=L (J a7 es.length c7):=((h.s.t.b.keep q4.q).1 4).trans h7;have HX7:=C x4;have w8:(w.alloc (U #[G H 4,J (L ⟨X,no,I⟩) (f.length+2) nc,G H v3,J va f.length vc,.bool lf,G H v4] 77)).cell? ⟨R,4,I⟩=L (J a7 es.length c7):=by rw[<-hV];exact x4
 have HNL:N (∀g,(Value.slice a7 es.length c7).ownBlock=L g->g≠w.1.size/\g≠R/\R+1<=g/\¬(K<=g/\g<K+3)):=C (λg Q=>⟨λe=>(by obtain⟨_,_,q⟩:=j7.q.tag Q;rw[e,w0.q] at q;cases q),λe=>(by have:=(j7.q.lt g Q).1;omega),(j7.q.lt g Q).1,λe=>(by obtain⟨_,_,q⟩:=j7.q.tag Q;obtain⟨_,T,_,q2,hT⟩:=x2.q g e.1 e.2;rw[q4.q.block g (by have:=η.q;omega),q2] at q;cases q;simp[zm] at hT)⟩);have VT:=C j5;have HVR:=C x0;have HLE:=C g3;have x5:=C y9;clear k2 k3 k4 k5 k6 hk hn;have m5:N (cs[4]?=L (J a7 es.length c7)):=H7;have q5:N (Own r.drew (R+1) 49 9 dx (J a7 es.length c7) es):=j7;have v9:N (w.1.size<r.drew.1.size):=C (by have:=x3.q;omega);have HSB:N (∀x∈es,∀g,x.val.ownBlock=L g->g<r.1.size):=C (λx hx g Q=>by
  obtain⟨i,o⟩:=pO.1 hx;obtain⟨M,hM⟩:∃M,c.SE[i]?=L M:=⟨_,cB (by have:=(bK.1 o).1;have:=h.s.se.1;omega)⟩;exact bP ((h.s.se.2 i x M o hM).lt g Q).2 q4.q.size)
 have HNB:N (X<B):=C g6;clear h d hG u q3 g6 g7 u8 g9 h7 x1 j5 x0 g3 y9 x4 w8;have hp0:(0:Int)<(f.length:Int)+2:=by omega
 have hp1:(1:Int)<(f.length:Int)+2:=by omega
 go_enter func128,ntmps128;go_wp2_with fail;rw[<-hV];clear hV;refine qz 99 (.q 0 0 (.q 1 0 (.q 2 0 (.q 3 0 (.q 4 0 (.q 5 0 (.q 6 0 (.q 8 0 (.q 9 0 (.q 10 0 (.q 11 0 (.q 12 0 (.alt 7 (.alt 13 (.q 14 0 (.l 15 (.l 16 .nil))) 15 (.l 13 (.q 14 0 (.l 16 .nil)))) 15 (.l 7 (.l 13 (.q 14 0 (.l 16 .nil))))))))))))))))) (λ_=>True) (λW'=>W'.cell? ⟨w.1.size,0,I⟩=L (G H 4)/\W'.cell? ⟨w.1.size,1,I⟩=L (J (L ⟨X,no,I⟩) (f.length+2) nc)/\W'.cell? ⟨X,no,I⟩=L (.string ⟨j.toArray⟩)/\W'.cell? ⟨X,no+1,I⟩=L (.string ⟨m.toArray⟩)) (λch w'=>gL B K R (aT c s) w (.panicked ch) w') ay ay (λch a1 Y hd t=>⟨hd,t⟩) trivial (ι.q _ m4.q j6.q) ?_;refine qC ?_;obtain⟨V0,x6⟩:∃V0:World,V0=r.drew:=⟨_,rfl⟩;rw[<-x6] at v6 j6 v8 m4 q5 v9 x3 ⊢;have τ:N (V0.1.size=r.1.size):=C (by rw[x6];rfl);clear x6;refine⟨?g5,?g6⟩
 case' g5=>
  refine gP rfl rfl (λK n=>?_);go_simp;refine(iB 0 ah j _ v8.q m0.q HW.q.1 (HG.q.same j6.q)).mono ?_;rintro e Y ⟨hS,p⟩;have χ:=C hS;have υ:=C (v6.q.tr hS);have κ:=C (j6.q.tr (hS.mono (λi o _=>by have:=HB.q;have:=ζ.q;have:=η.q;omega)));rcases iy (aI (c.put 0 j)) with d|d;rotate_left
  .obtain rfl:=p.2 d
   exact⟨rfl,σ.q _ κ.q (λk=>d (φ.q.2.1 k))⟩
  obtain⟨rfl,cs1,t,hz,P⟩:=p.1 d;have q6:=C t;have k0:=C d;have HO1:=C P;have k7:=C (υ.q.block w.1.size (by have:=γ.q;omega) HX.q.2.2);have k8:N (cs1[4]?=_):=C ((HO1.q 4 (.inl ah)).trans m5.q);have j8:=C (q5.q.iR χ.q);have q7:N (w.1.size<Y.1.size):=C (bP v9.q χ.q.size);refine n _ _ ⟨trivial,ι.q _ k7.q κ.q⟩ ?_;clear n K t hz P d p hS;refine⟨?g7,?g8⟩
  case' g7=>
   refine gP rfl rfl (λK n=>?_);go_simp;refine(iB 3 ah m _ q6.q k0.q HW.q.2 (HG.q.same κ.q)).mono ?_;rintro e Z ⟨hS,p⟩;have ε:=C hS;have μ:=C (υ.q.tr hS);have δ:=C (κ.q.tr (hS.mono (λi o _=>by have:=HB.q;have:=ζ.q;have:=η.q;omega)));rcases iy (aI ((c.put 0 j).put 3 m)) with d|d;rotate_left
   .obtain rfl:=p.2 d
    exact⟨rfl,σ.q _ δ.q (λk=>d (φ.q.2.2.1 k))⟩
   obtain⟨rfl,x7,t,hz,P⟩:=p.1 d;have ψ:=C t;have j9:=C d;have x8:=C P;have q8:=C (μ.q.block w.1.size (by have:=γ.q;omega) HX.q.2.2);have z0:N (x7[4]?=_):=C ((x8.q 4 (.inl ah)).trans k8.q);have q9:=C (j8.q.iR ε.q);have ω:N (w.1.size<Z.1.size):=C (bP q7.q ε.q.size);refine n _ _ ⟨trivial,ι.q _ q8.q δ.q⟩ ?_;clear n K t hz P d p hS;refine qC ?_;refine aF rfl rfl (λK n=>?_);go_simp;have A:=aA (Below.refl Z.1.size Z) (U #[G H 0,G H 0,G H 0,G H 0,G H 0,G H 0,G H 0,G H 0,J I 0 0] 49);have α:N (Same (λi=>i≠R) (Z) (Z.alloc (U #[G H 0,G H 0,G H 0,G H 0,G H 0,G H 0,G H 0,G H 0,J I 0 0] 49))):=C (O A (λ_ _ h=>h));have Γ:=C (μ.q.tr α.q);have ξ:=C (δ.q.tr (O A (λi o u=>u)));have k9:=C (ψ.q.below A);have x9:=j9;have Δ:=C (Γ.q.block w.1.size (by have:=γ.q;omega) HX.q.2.2);have y0:=z0;have y1:=C (q9.q.iR α.q);have z1:N (w.1.size<(Z.alloc (U #[G H 0,G H 0,G H 0,G H 0,G H 0,G H 0,G H 0,G H 0,J I 0 0] 49)).1.size):=C (bP ω.q α.q.size);have ν:N (r.1.size<=Z.1.size):=C (by have:=μ.q.size;have:=τ.q;omega);have Θ:=C (Bx.new Z #[G H 0,G H 0,G H 0,G H 0,G H 0,G H 0,G H 0,G H 0,J I 0 0] 49);have j0:=C (gM Z (U #[G H 0,G H 0,G H 0,G H 0,G H 0,G H 0,G H 0,G H 0,J I 0 0] 49));have S:N (Z.1.size≠R):=C (λe=>by have:=ψ.q.s.t.b.2.2;omega);have ο:N (w.1.size<Z.1.size):=C ω.q;refine n _ _ ⟨trivial,ι.q _ Δ.q ξ.q⟩ ?_;obtain⟨b,β⟩:∃b,b=Z.1.size:=⟨_,rfl⟩;rw[<-β] at Θ j0 S ο ν ⊢;generalize Z.alloc (U #[G H 0,G H 0,G H 0,G H 0,G H 0,G H 0,G H 0,G H 0,J I 0 0] 49)=w3 at α Γ ξ k9 Δ z1 Θ j0 y1 ⊢;clear n K A β
  case' g8=>
   refine gP rfl rfl (λK n=>?_);go_simp;have A:=aA (Below.refl Y.1.size Y) (U #[G H 0,G H 0,G H 0,G H 0,G H 0,G H 0,G H 0,G H 0,J I 0 0] 49);have ε:N (Same (λi=>i≠R) (Y) (Y.alloc (U #[G H 0,G H 0,G H 0,G H 0,G H 0,G H 0,G H 0,G H 0,J I 0 0] 49))):=C (O A (λ_ _ h=>h));have μ:=C (υ.q.tr ε.q);have δ:=C (κ.q.tr (O A (λi o u=>u)));have ψ:=C (q6.q.below A);have j9:=k0;have q8:=C (μ.q.block w.1.size (by have:=γ.q;omega) HX.q.2.2);have z0:=k8;have q9:=C (j8.q.iR ε.q);have ω:N (w.1.size<(Y.alloc (U #[G H 0,G H 0,G H 0,G H 0,G H 0,G H 0,G H 0,G H 0,J I 0 0] 49)).1.size):=C (bP q7.q ε.q.size);have ν:N (r.1.size<=Y.1.size):=C (by have:=υ.q.size;have:=τ.q;omega);have Ξ:=C (Bx.new Y #[G H 0,G H 0,G H 0,G H 0,G H 0,G H 0,G H 0,G H 0,J I 0 0] 49);have z2:=C (gM Y (U #[G H 0,G H 0,G H 0,G H 0,G H 0,G H 0,G H 0,G H 0,J I 0 0] 49));have S:N (Y.1.size≠R):=C (λe=>by have:=q6.q.s.t.b.2.2;omega);have ο:N (w.1.size<Y.1.size):=C q7.q;refine n _ _ ⟨trivial,ι.q _ q8.q δ.q⟩ ?_;obtain⟨b,β⟩:∃b,b=Y.1.size:=⟨_,rfl⟩;rw[<-β] at Ξ z2 S ο ν ⊢;generalize Y.alloc (U #[G H 0,G H 0,G H 0,G H 0,G H 0,G H 0,G H 0,G H 0,J I 0 0] 49)=Z at ε μ δ ψ q8 ω Ξ z2 q9 ⊢;clear n K A β;refine aF rfl rfl (λK n=>?_);go_simp;refine(iB 3 ah m _ ψ.q j9.q HW.q.2 (HG.q.same δ.q)).mono ?_;rintro e w3 ⟨hS,p⟩;have α:=C hS;have Γ:=C (μ.q.tr hS);have ξ:=C (δ.q.tr (hS.mono (λi o _=>by have:=HB.q;have:=ζ.q;have:=η.q;omega)));rcases iy (aI ((c.put 0 j).put 3 m)) with d|d;rotate_left
   .obtain rfl:=p.2 d
    exact⟨rfl,σ.q _ ξ.q (λk=>d (φ.q.2.2.1 k))⟩
   obtain⟨rfl,b0,t,hz,P⟩:=p.1 d;have k9:=C t;have x9:=C d;have b1:=C P;have Δ:=C (Γ.q.block w.1.size (by have:=γ.q;omega) HX.q.2.2);have y0:N (b0[4]?=_):=C ((b1.q 4 (.inl ah)).trans z0.q);have y1:=C (q9.q.iR α.q);have z1:N (w.1.size<w3.1.size):=C (bP ω.q α.q.size);have Θ:=C (α.q.bx Ξ.q S.q);have j0:=C ((α.q.block b S.q Ξ.q.2.2).trans z2.q);refine n _ _ ⟨trivial,ι.q _ Δ.q ξ.q⟩ ?_;clear n K t hz P d p hS;refine qC ?_
 case' g6=>
  refine gP rfl rfl (λK n=>?_);go_simp;have A:=aA (Below.refl V0.1.size V0) (U #[G H 0,G H 0,G H 0,G H 0,G H 0,G H 0,G H 0,G H 0,J I 0 0] 49);have χ:N (Same (λi=>i≠R) (V0) (V0.alloc (U #[G H 0,G H 0,G H 0,G H 0,G H 0,G H 0,G H 0,G H 0,J I 0 0] 49))):=C (O A (λ_ _ h=>h));have υ:=C (v6.q.tr χ.q);have κ:=C (j6.q.tr (O A (λi o u=>u)));have q6:=C (v8.q.below A);have k0:=m0;have k7:=C (υ.q.block w.1.size (by have:=γ.q;omega) HX.q.2.2);have k8:=m5;have j8:=C (q5.q.iR χ.q);have q7:N (w.1.size<(V0.alloc (U #[G H 0,G H 0,G H 0,G H 0,G H 0,G H 0,G H 0,G H 0,J I 0 0] 49)).1.size):=C (bP v9.q χ.q.size);have ν:N (r.1.size<=V0.1.size):=C (by have:=v6.q.size;have:=τ.q;omega);have y2:=C (Bx.new V0 #[G H 0,G H 0,G H 0,G H 0,G H 0,G H 0,G H 0,G H 0,J I 0 0] 49);have b2:=C (gM V0 (U #[G H 0,G H 0,G H 0,G H 0,G H 0,G H 0,G H 0,G H 0,J I 0 0] 49));have S:N (V0.1.size≠R):=C (λe=>by have:=v8.q.s.t.b.2.2;omega);have ο:N (w.1.size<V0.1.size):=C v9.q;refine n _ _ ⟨trivial,ι.q _ k7.q κ.q⟩ ?_;obtain⟨b,β⟩:∃b,b=V0.1.size:=⟨_,rfl⟩;rw[<-β] at y2 b2 S ο ν ⊢;generalize V0.alloc (U #[G H 0,G H 0,G H 0,G H 0,G H 0,G H 0,G H 0,G H 0,J I 0 0] 49)=Y at χ υ κ q6 k7 q7 y2 b2 j8 ⊢;clear n K A β;refine aF rfl rfl (λK n=>?_);go_simp;refine(iB 0 ah j _ q6.q k0.q HW.q.1 (HG.q.same κ.q)).mono ?_;rintro e Z ⟨hS,p⟩;have ε:=C hS;have μ:=C (υ.q.tr hS);have δ:=C (κ.q.tr (hS.mono (λi o _=>by have:=HB.q;have:=ζ.q;have:=η.q;omega)));rcases iy (aI (c.put 0 j)) with d|d;rotate_left
  .obtain rfl:=p.2 d
   exact⟨rfl,σ.q _ δ.q (λk=>d (φ.q.2.1 k))⟩
  obtain⟨rfl,x7,t,hz,P⟩:=p.1 d;have ψ:=C t;have j9:=C d;have x8:=C P;have q8:=C (μ.q.block w.1.size (by have:=γ.q;omega) HX.q.2.2);have z0:N (x7[4]?=_):=C ((x8.q 4 (.inl ah)).trans k8.q);have q9:=C (j8.q.iR ε.q);have ω:N (w.1.size<Z.1.size):=C (bP q7.q ε.q.size);have Ξ:=C (ε.q.bx y2.q S.q);have z2:=C ((ε.q.block b S.q y2.q.2.2).trans b2.q);refine n _ _ ⟨trivial,ι.q _ q8.q δ.q⟩ ?_;clear n K t hz P d p hS;refine aF rfl rfl (λK n=>?_);go_simp;refine(iB 3 ah m _ ψ.q j9.q HW.q.2 (HG.q.same δ.q)).mono ?_;rintro e w3 ⟨hS,p⟩;have α:=C hS;have Γ:=C (μ.q.tr hS);have ξ:=C (δ.q.tr (hS.mono (λi o _=>by have:=HB.q;have:=ζ.q;have:=η.q;omega)));rcases iy (aI ((c.put 0 j).put 3 m)) with d|d;rotate_left
  .obtain rfl:=p.2 d
   exact⟨rfl,σ.q _ ξ.q (λk=>d (φ.q.2.2.1 k))⟩
  obtain⟨rfl,b0,t,hz,P⟩:=p.1 d;have k9:=C t;have x9:=C d;have b1:=C P;have Δ:=C (Γ.q.block w.1.size (by have:=γ.q;omega) HX.q.2.2);have y0:N (b0[4]?=_):=C ((b1.q 4 (.inl ah)).trans z0.q);have y1:=C (q9.q.iR α.q);have z1:N (w.1.size<w3.1.size):=C (bP ω.q α.q.size);have Θ:=C (α.q.bx Ξ.q S.q);have j0:=C ((α.q.block b S.q Ξ.q.2.2).trans z2.q);refine n _ _ ⟨trivial,ι.q _ Δ.q ξ.q⟩ ?_;clear n K t hz P d p hS;refine qC ?_
 all_goals
  have b3:=Θ.q.1;have hfK:=Θ.q.2.1;refine aF rfl rfl (λK n=>?_);go_simp;have Φ:N (Same (λi=>i≠b) w3 (((((((((w3.setCell ⟨b,0,I⟩ (G H 4)).setCell ⟨b,1,I⟩ (G H (c.no 0 j))).setCell ⟨b,2,I⟩ (G H 0)).setCell ⟨b,3,I⟩ (G H 0)).setCell ⟨b,4,I⟩ (G H 0)).setCell ⟨b,5,I⟩ (G H 0)).setCell ⟨b,6,I⟩ (G H 0)).setCell ⟨b,7,I⟩ (G H ((c.put 0 j).no 3 m))).setCell ⟨b,8,I⟩ (J I 0 0))):=C ((((((((((Same.refl' w3).setTail (λh=>h rfl)).setTail (λh=>h rfl)).setTail (λh=>h rfl)).setTail (λh=>h rfl)).setTail (λh=>h rfl)).setTail (λh=>h rfl)).setTail (λh=>h rfl)).setTail (λh=>h rfl)).setTail (λh=>h rfl));have b4:=C (((((((((Θ.q.bB 0 ak (G H 4)).bB 1 ak (G H (c.no 0 j))).bB 2 ak (G H 0)).bB 3 ak (G H 0)).bB 4 ak (G H 0)).bB 5 ak (G H 0)).bB 6 ak (G H 0)).bB 7 ak (G H ((c.put 0 j).no 3 m))).bB 8 ak (J I 0 0));have m6:=C (bW (i:=8) (bW (i:=7) (bW (i:=6) (bW (i:=5) (bW (i:=4) (bW (i:=3) (bW (i:=2) (bW (i:=1) (bW (i:=0) (j0.q) (G H 4)) (G H (c.no 0 j))) (G H 0)) (G H 0)) (G H 0)) (G H 0)) (G H 0)) (G H ((c.put 0 j).no 3 m))) (J I 0 0));have m7:=C (k9.q.box (T:=49) ⟨_,_,j0.q⟩ aj aj aj aj aj (.inr (λv hv e=>by rw[y0.q] at hv;injection hv with hv;subst hv;have:=(q5.q.lt b e).2;have:=ν.q;have:=τ.q;omega)) (.inl aj) (λe=>S.q e.symm) Φ.q);have HF4:=x9;have HS4:N (Same (λi=>i≠R) r (((((((((w3.setCell ⟨b,0,I⟩ (G H 4)).setCell ⟨b,1,I⟩ (G H (c.no 0 j))).setCell ⟨b,2,I⟩ (G H 0)).setCell ⟨b,3,I⟩ (G H 0)).setCell ⟨b,4,I⟩ (G H 0)).setCell ⟨b,5,I⟩ (G H 0)).setCell ⟨b,6,I⟩ (G H 0)).setCell ⟨b,7,I⟩ (G H ((c.put 0 j).no 3 m))).setCell ⟨b,8,I⟩ (J I 0 0))):=C (((Γ.q.mono (A':=λi=>i≠R/\i<r.1.size) (λi o _=>o.1)).tr (Φ.q.mono (λi o _=>by have:=ν.q;have:=τ.q;omega))).mono (λi o u=>⟨o,u⟩));have b5:=C (ξ.q.tr (Φ.q.mono (λi o _=>by have:=ο.q;have:=γ.q;have:=HB.q;have:=ζ.q;have:=η.q;omega)));have y3:=C ((Φ.q.block w.1.size (by have:=ο.q;omega) z1.q).trans Δ.q);have Ψ:=C (bP z1.q Φ.q.size);have YA:=y0;have YB:=C (y1.q.same Φ.q (λg Q e=>by have:=(q5.q.lt g Q).2;have:=ν.q;have:=τ.q;omega));refine n _ _ ⟨trivial,ι.q _ y3.q b5.q⟩ ?_;generalize(((((((((w3.setCell ⟨b,0,I⟩ (G H 4)).setCell ⟨b,1,I⟩ (G H (c.no 0 j))).setCell ⟨b,2,I⟩ (G H 0)).setCell ⟨b,3,I⟩ (G H 0)).setCell ⟨b,4,I⟩ (G H 0)).setCell ⟨b,5,I⟩ (G H 0)).setCell ⟨b,6,I⟩ (G H 0)).setCell ⟨b,7,I⟩ (G H ((c.put 0 j).no 3 m))).setCell ⟨b,8,I⟩ (J I 0 0))=w4 at Φ b4 m6 m7 HS4 b5 y3 Ψ YB ⊢;clear n K b3 hfK;refine ja ?_;have hcv:w4.cell? ⟨w.1.size,3,I⟩=L (J va f.length vc):=(V (a:=⟨w.1.size,3,I⟩) y3.q).trans (HX.q.1 3);go_wp2_with fail;clear hcv;have YC:N (∃q y,w4.1[b]?=L (U q 49 y)):=C ⟨_,_,m6.q⟩
  go_loopw [26] (λi wr=>∃(k:Nat)(a0:Option Addr)(c0:Nat)(m8:Array Value),k<=f.length/\i= G H k/\ji B wr R m8 (((c.put 0 j).put 3 m).sc ((f.zip s.aN).take k)).1 es ds ms/\aI (((c.put 0 j).put 3 m).sc ((f.zip s.aN).take k)).1/\m8[4]?=L (J a7 es.length c7)/\Bx wr b #[G H 4,G H (c.no 0 j),G H 0,G H 0,G H 0,G H 0,G H 0,G H ((c.put 0 j).no 3 m),J a0 k c0]/\(∃q y,wr.1[b]?=L (U q 49 y))/\Own wr (R+1) 53 3 cZ (J a0 k c0) (((c.put 0 j).put 3 m).sc ((f.zip s.aN).take k)).2/\(∀g,(Value.slice a0 k c0).ownBlock=L g->r.1.size<=g)/\Same (λi=>i<B\/(K<=i/\i<K+3)) w wr/\wr.1[w.1.size]?=r.1[w.1.size]?/\w4.1.size<=wr.1.size) (λi _=>f.length - (RowKit.intOf i).toNat)
  case atStart=>exact⟨0,I,0,_,bn _,rfl,m7.q,HF4.q,YA.q,b4.q,YC.q,Own.jv _ _ _ _ _,(λ_ h=>by cases h),b5.q,y3.q,aB _⟩
  case round=>
   obtain⟨k,a0,c0,cs5,hk,rfl,j1,z3,b6,β,b7,j2,b8,Ω,y4,y5⟩:=hrel;by_cases m9:k<f.length
   .obtain⟨E,j5⟩:∃E,f[k]?=L E:=⟨_,cB m9⟩
    obtain⟨F,p0⟩:∃F,s.aN[k]?=L F:=⟨_,cB (by rw[x5.q];exact m9)⟩;obtain⟨p1,p2⟩:=VT.q k E j5;obtain⟨vb,vo,hva,b9,p3,p4,p5⟩:=HVR.q k F p0;subst hva;have HZ:=C (VR j5 p0);have HTK:N ((f.zip s.aN).take (k+1)=(f.zip s.aN).take k++[(E,F)]):=C (by rw[ig,HZ.q];rfl);have p6:N (aI (((c.put 0 j).put 3 m).sc (f.zip s.aN)).1->aI ((((c.put 0 j).put 3 m).sc ((f.zip s.aN).take k)).1.put 2 E)/\aI (((((c.put 0 j).put 3 m).sc ((f.zip s.aN).take k)).1.put 2 E).dh F).1):=C (λhq=>Uh HZ.q hq);have f0:N ((((c.put 0 j).put 3 m).sc ((f.zip s.aN).take (k+1)))=((((((c.put 0 j).put 3 m).sc ((f.zip s.aN).take k)).1.put 2 E).dh F).1,(((c.put 0 j).put 3 m).sc ((f.zip s.aN).take k)).2++[⟨(((c.put 0 j).put 3 m).sc ((f.zip s.aN).take k)).1.no 2 E,(((((c.put 0 j).put 3 m).sc ((f.zip s.aN).take k)).1.put 2 E).dh F).2⟩])):=C (by rw[HTK.q,EG]);have HLN:N ((((c.put 0 j).put 3 m).sc ((f.zip s.aN).take k)).2.length+1=k+1):=C (by rw[Oi,fB,xD,x5.q];omega);have z4:N (k<40):=C (by have:=HLE.q;omega);have h1:wr.cell? ⟨w.1.size,1,I⟩=L (J (L ⟨X,no,I⟩) (f.length+2) nc):=(V (a:=⟨w.1.size,1,I⟩) y4).trans (HX.q.1 1);have p7:wr.cell? ⟨X,no+(2+k),I⟩=L (.string ⟨E.toArray⟩):=Ω.cell p1 (by have:=HNB.q;omega);have hv1:wr.cell? ⟨vb,vo+k*2,I⟩=L (.string ⟨F.name.toArray⟩):=Ω.cell p3 (.inl b9);have hv2:wr.cell? ⟨vb,vo+k*2+1,I⟩=L (G H F.k):=Ω.cell p4 (.inl b9);have hlt2:(2:Int)+(k:Int)<(f.length:Int)+2:=by omega
    have hlt3:¬((2:Int)+(k:Int)<0):=by omega
    obtain⟨wa,z5⟩:∃W,W=wr.alloc (U #[.string ⟨F.name.toArray⟩,G H F.k] 130):=⟨_,rfl⟩;have θ:Below wr.1.size wr wa:=by rw[z5];exact aA (Below.refl _ _) _
    have HVX:N (Bx wa wr.1.size #[.string ⟨F.name.toArray⟩,G H F.k]):=C (by rw[z5];exact Bx.new wr _ _);have HRA:=C (j1.below θ);have HFA:=C z3;have p8:=C (Ω.tr (O θ (λi o u=>u)));have HSA:=C θ.size;have HKA:=C (β.keep θ);have HOA:=C (j2.below θ rfl);have HVA:=C ((θ.block _ (by have:=Ψ.q;omega)).trans y4);have ZM:N (∃q y,wa.1[b]?=L (U q 49 y)):=C (let⟨q,y,e⟩:=b7;⟨q,y,(θ.block _ (dS.1 e).1).trans e⟩);have p9:wa.cell? ⟨w.1.size,1,I⟩=L (J (L ⟨X,no,I⟩) (f.length+2) nc):=bq θ rfl h1;have r0:wa.cell? ⟨X,no+(wrap64 (2+(k:Int))).toNat,I⟩=L (.string ⟨E.toArray⟩):=by rw[show(wrap64 (2+(k:Int))).toNat=2+k from by rw[show wrap64 (2+(k:Int))=2+k from by have:=z4.q;unfold wrap64;omega];omega];exact bq θ rfl p7
    have f1:wrap64 (2+(k:Int))=2+k:=by have:=z4.q;unfold wrap64;omega
    have ZN:wrap64 (2+(k:Int))<(f.length:Int)+2:=by rw[f1];omega
    have ZO:(0:Int)<=wrap64 (2+(k:Int)):=by rw[f1];omega
    clear f1;have ZP:N (∀g,(Value.slice a0 k c0).ownBlock=L g->g<wr.1.size):=C (λg Q=>(j2.lt g Q).2);have r1:N (R<wr.1.size/\b<wr.1.size):=C ⟨j1.s.t.b.2.2,β.2.2⟩;have ZQ:=C (iB 2 ah E wa HRA.q HFA.q p2 (HG.q.same p8.q));have HC4:=C b6;have f2:=C b8;have ZR:=C p5;have HSZ:=C y5;have f3:N (w4.1.size<=wa.1.size):=C (bI y5 θ.size);clear j1 z3 b6 β b7 j2 b8 Ω y4 y5 p1 p2 p3 p4 p5 θ b9 h1 p7;rw[z5] at p9 r0;go_wp2_with fail;rw[<-z5];clear z5 hv1 hv2;refine ZQ.q.mono ?_;rintro e w5 ⟨hS,p⟩;have q0:=C hS;have r2:=C (p8.q.tr (hS.mono (λi o _=>by have:=HB.q;have:=ζ.q;have:=η.q;omega)));rcases iy (aI ((((c.put 0 j).put 3 m).sc ((f.zip s.aN).take k)).1.put 2 E)) with d|d;rotate_left
    .obtain rfl:=p.2 d
     refine⟨rfl,?_⟩;exact σ.q _ r2.q (λq=>d (p6.q (φ.q.2.2.2 q)).1)
    obtain⟨rfl,cs6,t,hz,P⟩:=p.1 d;have HR5:=C t;have HF5:=C d;have HO5:=C P;clear t hz P d p hS p9 r0 hlt2 hlt3 ZN ZO;go_wp2_with fail;have y6:N (Below w5.1.size w5 w5.drew):=C (Below.refl w5.1.size w5).drew;have r3:=C ((q0.q.bx HKA.q S.q).drew);have f4:=C ((q0.q.bx HVX.q (by have:=r1.q;omega)).drew);have r4:=C ((HOA.q.iR q0.q).drew);have ZT:N (∃q y,w5.drew.1[b]?=L (U q 49 y)):=C (let⟨q,y,e⟩:=ZM.q;⟨q,y,(q0.q.block b S.q (dS.1 e).1).trans e⟩);have ZU:N (w5.drew.1[w.1.size]?=r.1[w.1.size]?):=C ((q0.q.block w.1.size (by have:=γ.q;omega) (by have:=Ψ.q;have:=f3.q;omega)).trans HVA.q);have HR6:=C (HR5.q.below y6.q);have f5:=C (r2.q.tr (O y6.q (λi o u=>u)));have HC6:N (cs6[4]?=_):=C ((HO5.q 4 (.inl ah)).trans HC4.q);have HNQ:N (∀g,(Value.slice a0 k c0).ownBlock=L g->¬(K<=g/\g<K+3)):=C (λg e h=>by obtain⟨_,_,q1⟩:=r4.q.tag e;obtain⟨_,T,_,q2,hT⟩:=(f5.q.CK x2.q) g h.1 h.2;rw[q1] at q2;cases q2;simp[zm] at hT);have ZV:N ((Value.slice a0 k c0).ownBlock≠L wr.1.size):=C (λe=>by have:=(ZP.q _ e);omega);refine dz 10 [(0,0),(1,0),(2,0),(3,0),(4,0),(5,2),(6,0),(7,2),(8,2),(9,0),(10,2)] (λ_=>True) (λW'=>W'.cell? ⟨b,8,I⟩=L (J a0 k c0)/\W'.cell? ⟨wr.1.size,0,I⟩=L (.string ⟨F.name.toArray⟩)/\W'.cell? ⟨wr.1.size,1,I⟩=L (G H F.k)) (λch w'=>gL B K R (aT c s) w (.panicked ch) w') ay ay (λch a1 Y hd t=>⟨hd,t⟩) (trivial) (⟨r3.q.1 8,f4.q.1 0,f4.q.1 1⟩) ?_;refine qC ?_;refine aF rfl rfl (λK n=>?_);go_simp;refine(Ku F _ HR6.q HF5.q ZR.q (HG.q.same f5.q)).mono ?_;rintro e w7 ⟨hS,p⟩;have j3:=C hS;have r5:=C (f5.q.tr (hS.mono (λi o _=>by have:=HB.q;have:=ζ.q;have:=η.q;omega)));rcases iy (aI (((((c.put 0 j).put 3 m).sc ((f.zip s.aN).take k)).1.put 2 E).dh F).1) with d|d;rotate_left
    .obtain rfl:=p.2 d
     exact⟨rfl,σ.q _ r5.q (λq=>d (p6.q (φ.q.2.2.2 q)).2)⟩
    obtain⟨rfl,r6,t,hz,P⟩:=p.1 d;have r7:=C t;have HF7:=C d;have r8:N (r6[4]?=_):=C ((P 4 (.inl ah)).trans HC6.q);have y7:=C (j3.q.bx r3.q S.q);have f6:=C (j3.q.bx f4.q (by have:=r1.q;omega));have r9:=C (r4.q.iR j3.q);have u0:N (∃q y,w7.1[b]?=L (U q 49 y)):=C (let⟨q,y,e⟩:=ZT.q;⟨q,y,(j3.q.block b S.q (dS.1 e).1).trans e⟩);have ZW:N (w7.1[w.1.size]?=r.1[w.1.size]?):=C ((j3.q.block w.1.size (by have:=γ.q;omega) (by have:=Ψ.q;have:=f3.q;have:=q0.q.size;have:=y6.q.size;omega)).trans ZU.q);have z6:N (w4.1.size<=w7.1.size):=C (by have:=f3.q;have:=q0.q.size;have:=y6.q.size;have:=j3.q.size;omega);refine n _ _ ⟨trivial,y7.q.1 8,f6.q.1 0,f6.q.1 1⟩ ?_;clear n K t hz P d p hS;refine qC ?_;refine aF rfl rfl (λK n=>?_);go_simp;have A:=aA (Below.refl w7.1.size w7) (U #[G H ((((c.put 0 j).put 3 m).sc ((f.zip s.aN).take k)).1.no 2 E),G H (((((c.put 0 j).put 3 m).sc ((f.zip s.aN).take k)).1.put 2 E).dh F).2.t,G H (((((c.put 0 j).put 3 m).sc ((f.zip s.aN).take k)).1.put 2 E).dh F).2.k] 53);have π:=C A;have f7:=C (y7.q.keep A);have f8:=C (f6.q.keep A);have f9:=C (r7.q.below A);have z7:=C (r9.q.below A rfl);refine n _ _ ⟨trivial,f7.q.1 8,f8.q.1 0,f8.q.1 1⟩ ?_;clear n K A;refine aF rfl rfl (λK n=>?_);refine kM _ _ 47 rfl i z 24 underlying47 HI.q.1 HI.q.2.1 HI.q.2.2.1 HI.q.2.2.2.1 HI.q.2.2.2.2 rfl z7.q (L ⟨w7.1.size,0,I⟩) 1 1 (k+1) [⟨(((c.put 0 j).put 3 m).sc ((f.zip s.aN).take k)).1.no 2 E,(((((c.put 0 j).put 3 m).sc ((f.zip s.aN).take k)).1.put 2 E).dh F).2⟩] rfl (Row.sn1 w7 ⟨(((c.put 0 j).put 3 m).sc ((f.zip s.aN).take k)).1.no 2 E,(((((c.put 0 j).put 3 m).sc ((f.zip s.aN).take k)).1.put 2 E).dh F).2⟩) HLN.q (by have:=z4.q;omega) (by have:=z4.q;unfold maxLen;omega) (bI (Nat.succ_le_of_lt r7.q.s.t.b.2.2) π.q.size) ?_;intro a' c' w9 u1 z8 u2;have u3:N ((Value.slice a0 k c0).ownBlock≠L b):=C (λe=>by obtain⟨_,_,q1⟩:=z7.q.tag e;obtain⟨_,_,q2⟩:=u0.q;rw[π.q.block b y7.q.2.2] at q1;rw[q2] at q1;cases q1);have HNW:N ((Value.slice a0 k c0).ownBlock≠L w.1.size):=C (λe=>by have:=f2.q _ e;have:=x3.q;have:=τ.q;omega);have HNV:N ((Value.slice a0 k c0).ownBlock≠L wr.1.size):=C (λe=>by obtain⟨_,_,q1⟩:=z7.q.tag e;have:=(r9.q.lt _ e).1;exact ZV.q e);have j4:=f7.q.grown z8 u3.q;have g0:=f8.q.grown z8 HNV.q;have HK9:=C j4;have ρ:=C z8;have HO9:=C u1;have QN:=C u2;have HR9:=C (f9.q.seen z7.q (λx hx g Q e=>by have:=HSB.q x hx g e;have:=f2.q g Q;omega) z8);refine n _ _ ⟨trivial,j4.1 8,g0.1 0,g0.1 1⟩ ?_;have SY:=j4.1 8;have VP:=j4.2.1 8;have hl9:=j4.2.2;clear n K j4 g0 u1 z8 u2;refine qC ?_;refine aW rfl rfl rfl (λK n=>?_);go_simp;refine n _ _ trivial ?_;clear n K;refine ja ?_;have z9:N (Same (λi=>i≠b) w9 (w9.setCell ⟨b,8,I⟩ (J a' (k+1) c'))):=C ((Same.refl' w9).setTail (λh=>h rfl));have g1:N (∃q y,w9.1[b]?=L (U q 49 y)):=C (let⟨q,y,e⟩:=u0.q;⟨q,y,(ρ.q.block b (by have:=f7.q.2.2;exact this) (λe=>u3.q e.symm)).trans ((π.q.block b y7.q.2.2).trans e)⟩);have HRZ:=C (HR9.q.box (T:=49) g1.q aj aj aj aj aj (.inr (λv hv e=>by rw[r8.q] at hv;injection hv with hv;subst hv;have:=(q5.q.lt b e).2;have:=ν.q;have:=τ.q;omega)) (.inl aj) (λe=>S.q e.symm) z9.q);have HT9:N (Same (λi=>i<B\/(K<=i/\i<K+3)) w (w9.setCell ⟨b,8,I⟩ (J a' (k+1) c'))):=C (((r5.q.tr (O π.q (λi o u=>u))).tr ⟨ρ.q.os,ρ.q.tape,ρ.q.output,ρ.q.size,λi o u=>ρ.q.block i u (λe=>by rcases o with o|o;(have:=(z7.q.lt i e.symm).1;have:=HB.q;omega);(exact HNQ.q i e.symm o))⟩).tr (z9.q.mono (λi o _=>by have:=ο.q;have:=γ.q;have:=HB.q;have:=ζ.q;have:=η.q;omega)));have HV9:N ((w9.setCell ⟨b,8,I⟩ (J a' (k+1) c')).1[w.1.size]?=r.1[w.1.size]?):=C ((z9.q.block w.1.size (by have:=ο.q;omega) (by have:=ρ.q.size;have:=π.q.size;have:=z6.q;have:=Ψ.q;omega)).trans ((ρ.q.block w.1.size (by have:=π.q.size;have:=z6.q;have:=Ψ.q;omega) (λe=>HNW.q e.symm)).trans ((π.q.block w.1.size (by have:=z6.q;have:=Ψ.q;omega)).trans ZW.q)));have HZZ:N (w4.1.size<=(w9.setCell ⟨b,8,I⟩ (J a' (k+1) c')).1.size):=C (by have:=z9.q.size;have:=ρ.q.size;have:=π.q.size;have:=z6.q;omega);have HKZ:=C (HK9.q.bB 8 ak (J a' (k+1) c'));have ZX:N (∃q y,(w9.setCell ⟨b,8,I⟩ (J a' (k+1) c')).1[b]?=L (U q 49 y)):=C (let⟨q,y,e⟩:=g1.q;⟨_,y,bW e _⟩);have HOZ:=C (HO9.q.aQ g1.q aj z9.q);have ZY:N (∀g,(Value.slice a' (k+1) c').ownBlock=L g->r.1.size<=g):=C (λg Q=>by
     rcases QN.q with e|e
     .exact f2.q g (e.symm.trans Q)
     .rw[e] at Q;injection Q with Q;have:=π.q.size;have:=z6.q;have:=ν.q;have:=b4.q.2.2;omega)
    clear SY VP hl9;have acD:=z4.q;go_wp2_with fail;go_roundw
    case rel=>
     refine⟨k+1,a',c',r6,by omega,by go_num,?_,?_,r8.q,HKZ.q,ZX.q,?_,ZY.q,HT9.q,HV9.q,HZZ.q⟩
     .rw[f0.q];exact HRZ.q
     .rw[f0.q];exact HF7.q
     .rw[f0.q];exact HOZ.q
    case measure=>simp[RowKit.intOf];omega
   .obtain rfl:k=f.length:=by omega
    have u4:(f.zip s.aN).take f.length=(f.zip s.aN):=gF (by rw[xD,x5.q];omega);rw[u4] at j1 z3 j2;have u5:=C j1;have HFK:=C z3;have HOW:=C j2;have u6:=C Ω;have b3:=β.1;clear j1 z3 j2 Ω u4 b6 b8 y4 y5 b7 β;go_wp2_with fail;refine(DW ⟨4,c.no 0 j,0,0,0,⟨0,0⟩,(c.put 0 j).no 3 m,a0,f.length,c0⟩ (((c.put 0 j).put 3 m).sc (f.zip s.aN)).2 _ u5.q.s (let⟨mb,m1,m2,m3⟩:=u5.q.m;⟨mb,m1,m2.other (by show(4:Int)≠2;decide),m3⟩) HB.q HFK.q HOW.q (λk=>absurd k (by show(4:Int)≠2;decide)) (u6.q.CK x2.q) ζ.q).mono ?_;rintro e w6 ⟨hfr,hS,p⟩;have u7:=C (u6.q.tr hS);rcases iy (aI (aT c s)) with d|d;rotate_left
    .obtain rfl:=p.2 (by rw[v5.q] at d;exact d)
     refine⟨rfl,?_⟩;exact σ.q _ u7.q d
    obtain⟨rfl,t⟩:=p.1 (by rw[v5.q] at d;exact d);have f9:=C t;have HFX:=C d;clear t d p hS hfr b3;go_wp2_with fail;refine bodyPost_end (results_none rfl _ _ _) rfl ?_;exact⟨u7.q,λ_=>⟨rfl,by rw[v5.q];exact f9.q⟩,λk=>absurd HFX.q k⟩
end
end Yd
namespace Yd
open Option renaming some->H,none->I
open Go Go.RowKit Go.Proofs Go.Maps
open Below renaming refl->M
open Go.IntKind renaming i64->D
open Go.Obj renaming cells->N
open Go.RowKit renaming Hid->J
open Go.Value renaming int->G
open Same renaming of_below->L
open Tryz renaming prog->U
open Yd renaming hid->C
open _root_ renaming trivial->O,Int->V
theorem zY.map {R b:Nat}{cs:Array Value}{c:Cont}{es:List EvC}{i:List aG}{j:List aK}{X Y:World}(h:zY X R cs c es i j)(r:∃q k,X.1[b]?=H (.map q k))(s:b≠R)(l:Same (λt=>t≠b) X Y):zY Y R cs c es i j:=by
 have f:∀{β:Type}{T:TypeId}{k:Nat}{m:β->List Value}{v:Value}{n:List β},Own X (R+1) T k m v n->Own Y (R+1) T k m v n:=λo=>o.same l (λg u e=>by
  obtain⟨_,_,p⟩:=o.tag u;obtain⟨_,_,w⟩:=r;rw[e,w] at p
  cases p)
 exact⟨⟨l.bx h.t.b (λe=>s e.symm),λk x=>(let⟨v,a,d⟩:=h.t.t k x;⟨v,a,f d⟩),h.t.n⟩,(let⟨v,a,d⟩:=h.e;⟨v,a,f d⟩),(let⟨v,a,d⟩:=h.d;⟨v,a,f d⟩),(let⟨v,a,d⟩:=h.m;⟨v,a,f d⟩),(let⟨v,a,d⟩:=h.q;⟨v,a,f d⟩),h.be,h.bd,h.bm,h.se.imp (λ_ _ o=>f o),h.sd.imp (λ_ _ o=>f o),h.sm.imp (λ_ _ o=>f o)⟩
theorem S9 {c:Cont}{k:Nat}{s:Bs}(a:k<4)(b:aI (c.put k s)):(Lit.int D (c.no k s)).wf=true:=by
 have d:=b.1 k a;have f:=Oj (c.nl k) s;have g:=BA k;have e:(c.put k s).nl k=dJ (c.nl k) s:=av rfl;rw[e] at d;exact WalkArith.wf_i64 (by show _/\_;unfold Cont.no;omega)
section
variable {B K R:Nat}{cs:Array Value}{c:Cont}{es:List EvC}{ds:List aG}{ms:List aK}
theorem Ui (b:EvC)(l:List Sn)(w:World)(h:zY w R cs c es ds ms)(S:∃d,cs[12]?=H (.map (H d))/\jW w d (c.E++[b.base])/\B<=d)(W:B<=R)(y:aI c)(X:Own w (R+1) 53 3 cZ b.val l)(Y:b.kind=2->b.v.k<=999)(Z:nA w K)(δ:R<K):
  Calls U 149 #[.pointer (H ⟨R,0,I⟩),fT b] w (λe n=>((∀g q T z,w.1[g]?=H (N q T z)->T≠49->g≠R->n.1[g]?=w.1[g]?)/\(∀(g:Nat)(q:Array MapEntry)(k:Nat),w.1[g]?=H (Obj.map q k)->n.1[g]?=w.1[g]?)/\(aI (c.ev b.base l)->∀j,j≠4->n.cell? ⟨R,j,I⟩=w.cell? ⟨R,j,I⟩))/\gL B K R (c.ev b.base l) w e n):=by
 obtain⟨v4,s,o⟩:=h.e;have A:es.length=c.E.length:=by rw[<-h.be,bg]
 refine(H8 b w h.t.b s o (by rw[A];exact y.2.1)).mono ?_;rintro e n ⟨p,f⟩;have E:∀g,(∃q k,w.1[g]?=H (.map q k))->g≠R/\v4.ownBlock≠H g:=λg a=>⟨h.t.b.wG s a,λq=>by
  obtain⟨α,f1,t⟩:=o.tag q;obtain⟨_,_,F⟩:=a;rw[t] at F;cases F⟩
 rw[gL,Kv y,<-A];refine⟨⟨λg q T z a u β=>p.block g ⟨β,λq=>by
  obtain⟨α,f1,t⟩:=o.tag q;rw[t] at a
  cases a
  exact u rfl⟩ (dS.1 a).1,λg q k a=>p.block g (E g ⟨q,k,a⟩) (dS.1 a).1,λm j hj=>?_⟩,p.mono (λi r _=>⟨by omega,λq=>by
  rcases r with r|r
  .have:=(o.lt i q).1;omega
  .obtain⟨_,_,q1⟩:=o.tag q
   obtain⟨_,T,_,P,u⟩:=Z i r.1 r.2;rw[q1] at P
   cases P
   exact u.1 rfl⟩),?_⟩
 .rw[av m.1] at f
  obtain⟨_,v',_,v⟩:=f;rw[v.1 j,h.t.b.1 j,qx (λq=>hj q.symm)]
 .by_cases m:es.length<3000
  .rw[av m] at f
   obtain⟨rfl,v',γ,v⟩:=f;obtain⟨d,m1,Q,m3⟩:=S;refine⟨λ_=>⟨rfl,_,_,_,_,h.event s p γ v X,⟨d,?_,?_,m3⟩,W⟩,λx=>absurd ⟨m,Y⟩ x⟩
   .rw[qx ah];exact m1
   .exact Q.same p (E d Q.obj)
  .rw[au m] at f
   exact⟨λx=>absurd x.1 m,λ_=>f⟩
theorem Ol (l:bH)(s:aJ)(w:World)(h:ji B w R cs c es ds ms)(f:aI c)(y:tO w B l s)(hk:s.kind=2)(j7:eF s)(hG:lY B K w)(v8:nA w K)(x7:R<K):
  Calls U 126 #[.pointer (H ⟨R,0,I⟩),dU l] w (gL B K R (aT c s) w):=by
 obtain⟨b,d,hn⟩:=names2 j7 (.inr (.inl hk));have x8:l.nn=2:=by rw[y.k.2.2.2.2.1,hn];rfl
 obtain⟨nb,no,v9,g7,x9⟩:=y.name (i:=0) (x:=b) (by rw[hn];rfl);obtain⟨r5,r6,b0,g8,b1⟩:=y.name (i:=1) (x:=d) (by rw[hn];rfl);rw[v9] at b0;injection b0 with q;injection q with q1 q2;subst q1 q2;obtain⟨v7,h7,k0⟩:=h.s.e;obtain⟨a7,c7,rfl,_,g9⟩:=k0.shape;obtain⟨i,z,A⟩:=EF;have HI:=C A;clear A;obtain⟨lk,la,ln,nc,j8,va,vn,vc,lf,j9⟩:=l;obtain⟨k1,k2,k3,k4,k5,k6⟩:=y.k;simp only at k1 k2 k3 k4 k5 k6 v9 x8;rw[hk] at k1;subst k1;have k7:J (aT c s=((c.put 0 b).put 2 d).ev ⟨2,c.no 0 b,0,0,(c.put 0 b).no 2 d,⟨c.no 0 b,(fC c.E (c.no 0 b) ((c.put 0 b).no 2 d):V)+1⟩,0,I,0,0⟩ []):=C (by unfold aT;simp only[hk,hn];rfl);subst v9 x8;have k8:=C v8;have ν:=C x7;have ξ:J (K+3<=w.1.size):=C (let⟨q,T,fz,e,_⟩:=v8 (K+2) ah ah;(dS.1 e).1);clear v8 x7;have HB:=C h.b;have γ:J (R<w.1.size):=C h.s.t.b.2.2;obtain⟨u,hV⟩:∃u,u=w.alloc (N #[G D 2,.slice (H ⟨nb,no,I⟩) 2 nc,G D j8,.slice va vn vc,.bool lf,G D j9] 77):=⟨_,rfl⟩;have q6:J (Below w.1.size w u):=C (by rw[hV];exact aA (M w.1.size w) _);have HX:J (Bx u w.1.size #[G D 2,.slice (H ⟨nb,no,I⟩) 2 nc,G D j8,.slice va vn vc,.bool lf,G D j9]):=C (by rw[hV];exact Bx.new w _ _);have k9:J (u.1[w.1.size]?=H (N #[G D 2,.slice (H ⟨nb,no,I⟩) 2 nc,G D j8,.slice va vn vc,.bool lf,G D j9] 77 (0,0))):=C (by rw[hV];exact gM w _);have ζ:J (∀W,W.1[w.1.size]?=u.1[w.1.size]?->Same (λi=>i<B\/(K<=i/\i<K+3)) w W->(λo=>o.cell? ⟨w.1.size,0,I⟩=H (G D 2)/\o.cell? ⟨w.1.size,1,I⟩=H (.slice (H ⟨nb,no,I⟩) 2 nc)/\o.cell? ⟨nb,no,I⟩=H (.string ⟨b.toArray⟩)/\o.cell? ⟨nb,no+1,I⟩=H (.string ⟨d.toArray⟩)) W):=C (λW hb hs=>⟨(World.cell?_of_block (a:=⟨w.1.size,0,I⟩) hb).trans (HX.q.1 0),(World.cell?_of_block (a:=⟨w.1.size,1,I⟩) hb).trans (HX.q.1 1),hs.cell x9 ah,hs.cell b1 ah⟩);have σ:J (∀W,Same (λi=>i<B\/(K<=i/\i<K+3)) w W->¬aI (aT c s)->gL B K R (aT c s) w (.panicked jT) W):=C (λW hs hn=>⟨hs,λk=>absurd k hn,λ_=>rfl⟩);have Δ:J (True/\(aI (aT c s)->aI (c.put 0 b))/\(aI (aT c s)->aI ((c.put 0 b).put 2 d))/\(aI (aT c s)->(fC c.E (c.no 0 b) ((c.put 0 b).no 2 d):V)+1<=999)):=C (by rw[k7.q];exact⟨O,λk=>((Gr.put _ 2 _).trans (Gr.ev _ _ _)).fits k,λk=>(Gr.ev _ _ _).fits k,λk=>k.2.2.2.2.2 ⟨2,c.no 0 b,0,0,(c.put 0 b).no 2 d,⟨c.no 0 b,(fC c.E (c.no 0 b) ((c.put 0 b).no 2 d):V)+1⟩,0,I,0,0⟩ (jq _ (bX.2 rfl)) rfl⟩);have b2:J (u.drew.1.size=w.1.size+1):=C (by show u.1.size=_;rw[hV];exact World.size_alloc _ _);have z0:J (Same (λi=>i≠R) u u.drew):=C (L (M _ _).drew (λ_ _ h=>h));have q7:J (Same (λi=>i<B\/(K<=i/\i<K+3)) w u.drew):=C (L q6.q.drew (λi A y=>by have:=HB.q;have:=ν.q;have:=ξ.q;have:=γ.q;omega));have z1:=C (h.below q6.q.drew);have b3:=C f;have HG:=C hG;have HW:=C ((⟨j7.1 b (by rw[hn];simp),j7.1 d (by rw[hn];simp)⟩:_/\_));have b4:J (u.drew.1[w.1.size]?=u.1[w.1.size]?):=C rfl;have H7:=C h7;have q8:=C (k0.below q6.q rfl);have y0:u.cell? ⟨R,4,I⟩=H (.slice a7 es.length c7):=((h.s.t.b.keep q6.q).1 4).trans h7;have m0:=C y0;have m1:(w.alloc (N #[G D 2,.slice (H ⟨nb,no,I⟩) 2 nc,G D j8,.slice va vn vc,.bool lf,G D j9] 77)).cell? ⟨R,4,I⟩=H (.slice a7 es.length c7):=by rw[<-hV];exact y0
 have m2:J (∀g,(Value.slice a7 es.length c7).ownBlock=H g->g≠w.1.size/\g≠R/\R+1<=g/\¬(K<=g/\g<K+3)):=C (λg hg=>⟨λe=>(by obtain⟨_,_,q⟩:=q8.q.tag hg;rw[e,k9.q] at q;cases q),λe=>(by have:=(q8.q.lt g hg).1;omega),(q8.q.lt g hg).1,λe=>(by obtain⟨_,_,q⟩:=q8.q.tag hg;obtain⟨_,T,_,q2,hT⟩:=k8.q g e.1 e.2;rw[q6.q.block g (by have:=ξ.q;omega),q2] at q;cases q;simp[zm] at hT)⟩);clear k2 k3 k4 k5 k6 hk hn;have q9:J (w.1.size<u.drew.1.size):=C (by have:=b2.q;omega);clear h f hG y j7 g7 x9 g8 b1 h7 k0 y0 m1 HI q8 H7 m0 m2 g9;go_enter Tryz.func126,Tryz.ntmps126;go_wp2_with fail;rw[<-hV];clear hV;refine qz 99 (.q 0 0 (.q 1 0 (.q 2 0 (.q 3 0 (.q 4 0 (.q 6 0 (.q 7 0 (.q 8 0 (.q 9 0 (.q 10 0 (.alt 5 (.alt 11 (.q 12 0 (.l 13 (.l 14 .nil))) 13 (.l 11 (.q 12 0 (.l 14 .nil)))) 13 (.l 5 (.l 11 (.q 12 0 (.l 14 .nil))))))))))))))) (λ_=>True) (λo=>o.cell? ⟨w.1.size,0,I⟩=H (G D 2)/\o.cell? ⟨w.1.size,1,I⟩=H (.slice (H ⟨nb,no,I⟩) 2 nc)/\o.cell? ⟨nb,no,I⟩=H (.string ⟨b.toArray⟩)/\o.cell? ⟨nb,no+1,I⟩=H (.string ⟨d.toArray⟩)) (λQ w'=>gL B K R (aT c s) w (.panicked Q) w') ay ay (λQ a1 E hd r=>⟨hd,r⟩) O (ζ.q _ b4.q q7.q) ?_;refine qC ?_;obtain⟨P,y1⟩:∃P:World,P=u.drew:=⟨_,rfl⟩;rw[<-y1] at z0 q7 z1 b4 q9 b2 ⊢;have z2:J (P.1.size=u.1.size):=C (by rw[y1];rfl);clear y1;refine⟨?g9,?g10⟩
 case' g9=>
  refine gP rfl rfl (λK m=>?_);go_simp;refine(iB 0 ah b _ z1.q b3.q HW.q.1 (HG.q.same q7.q)).mono ?_;rintro e E ⟨hS,v⟩;have Θ:=C hS;have ο:=C (z0.q.tr hS);have η:=C (q7.q.tr (hS.mono (λi A _=>by have:=HB.q;have:=ν.q;have:=ξ.q;omega)));rcases iy (aI (c.put 0 b)) with f|f;rotate_left
  .obtain rfl:=v.2 f
   exact⟨rfl,σ.q _ η.q (λk=>f (Δ.q.2.1 k))⟩
  obtain⟨rfl,r7,r,hz,S⟩:=v.1 f;have Ξ:=C r;have z3:=C f;have r8:=C S;have z4:=C (ο.q.block w.1.size (by have:=γ.q;omega) HX.q.2.2);have ι:J (w.1.size<E.1.size):=C (bP q9.q Θ.q.size);have ι:J (w.1.size<E.1.size):=C (bP q9.q Θ.q.size);refine m _ _ ⟨O,ζ.q _ z4.q η.q⟩ ?_;clear m K r hz S f v hS;refine⟨?g11,?g12⟩
  case' g11=>
   refine gP rfl rfl (λK m=>?_);go_simp;refine(iB 2 ah d _ Ξ.q z3.q HW.q.2 (HG.q.same η.q)).mono ?_;rintro e F ⟨hS,v⟩;have δ:=C hS;have θ:=C (ο.q.tr hS);have Y:=C (η.q.tr (hS.mono (λi A _=>by have:=HB.q;have:=ν.q;have:=ξ.q;omega)));rcases iy (aI ((c.put 0 b).put 2 d)) with f|f;rotate_left
   .obtain rfl:=v.2 f
    exact⟨rfl,σ.q _ Y.q (λk=>f (Δ.q.2.2.1 k))⟩
   obtain⟨rfl,m3,r,hz,S⟩:=v.1 f;have κ:=C r;have j0:=C f;have m4:=C S;have Φ:=C (θ.q.block w.1.size (by have:=γ.q;omega) HX.q.2.2);have ε:J (w.1.size<F.1.size):=C (bP ι.q δ.q.size);have ε:J (w.1.size<F.1.size):=C (bP ι.q δ.q.size);refine m _ _ ⟨O,ζ.q _ Φ.q Y.q⟩ ?_;clear m K r hz S f v hS;refine qC ?_;refine aF rfl rfl (λK m=>?_);go_simp;have X:=aA (M F.1.size F) (N #[G D 0,G D 0] 221);have Z:J (Same (λi=>i≠R) (F) (F.alloc (N #[G D 0,G D 0] 221))):=C (L X (λ_ _ h=>h));have τ:=C (θ.q.tr Z.q);have β:=C (Y.q.tr (L X (λi A y=>y)));have z5:=C (κ.q.below X);have y2:=j0;have υ:=C (τ.q.block w.1.size (by have:=γ.q;omega) HX.q.2.2);have φ:J (w.1.size<(F.alloc (N #[G D 0,G D 0] 221)).1.size):=C (bP ε.q Z.q.size);have Ψ:J (u.1.size<=F.1.size):=C (by have:=θ.q.size;have:=z2.q;omega);have χ:=C (Bx.new F #[G D 0,G D 0] 221);have Ω:=C (gM F (N #[G D 0,G D 0] 221));have α:J (F.1.size≠R):=C (λe=>by have:=κ.q.s.t.b.2.2;omega);have ψ:J (w.1.size<F.1.size):=C ε.q;refine m _ _ ⟨O,ζ.q _ υ.q β.q⟩ ?_;obtain⟨n,π⟩:∃n,n=F.1.size:=⟨_,rfl⟩;rw[<-π] at χ Ω α ψ Ψ ⊢;generalize F.alloc (N #[G D 0,G D 0] 221)=w3 at Z τ β z5 υ φ χ Ω ⊢;clear m K X π
  case' g12=>
   refine gP rfl rfl (λK m=>?_);go_simp;have X:=aA (M E.1.size E) (N #[G D 0,G D 0] 221);have δ:J (Same (λi=>i≠R) (E) (E.alloc (N #[G D 0,G D 0] 221))):=C (L X (λ_ _ h=>h));have θ:=C (ο.q.tr δ.q);have Y:=C (η.q.tr (L X (λi A y=>y)));have κ:=C (Ξ.q.below X);have j0:=z3;have Φ:=C (θ.q.block w.1.size (by have:=γ.q;omega) HX.q.2.2);have ε:J (w.1.size<(E.alloc (N #[G D 0,G D 0] 221)).1.size):=C (bP ι.q δ.q.size);have Ψ:J (u.1.size<=E.1.size):=C (by have:=ο.q.size;have:=z2.q;omega);have ω:=C (Bx.new E #[G D 0,G D 0] 221);have j1:=C (gM E (N #[G D 0,G D 0] 221));have α:J (E.1.size≠R):=C (λe=>by have:=Ξ.q.s.t.b.2.2;omega);have ψ:J (w.1.size<E.1.size):=C ι.q;refine m _ _ ⟨O,ζ.q _ Φ.q Y.q⟩ ?_;obtain⟨n,π⟩:∃n,n=E.1.size:=⟨_,rfl⟩;rw[<-π] at ω j1 α ψ Ψ ⊢;generalize E.alloc (N #[G D 0,G D 0] 221)=F at δ θ Y κ Φ ε ω j1 ⊢;clear m K X π;refine aF rfl rfl (λK m=>?_);go_simp;refine(iB 2 ah d _ κ.q j0.q HW.q.2 (HG.q.same Y.q)).mono ?_;rintro e w3 ⟨hS,v⟩;have Z:=C hS;have τ:=C (θ.q.tr hS);have β:=C (Y.q.tr (hS.mono (λi A _=>by have:=HB.q;have:=ν.q;have:=ξ.q;omega)));rcases iy (aI ((c.put 0 b).put 2 d)) with f|f;rotate_left
   .obtain rfl:=v.2 f
    exact⟨rfl,σ.q _ β.q (λk=>f (Δ.q.2.2.1 k))⟩
   obtain⟨rfl,m5,r,hz,S⟩:=v.1 f;have z5:=C r;have y2:=C f;have m6:=C S;have υ:=C (τ.q.block w.1.size (by have:=γ.q;omega) HX.q.2.2);have φ:J (w.1.size<w3.1.size):=C (bP ε.q Z.q.size);have φ:J (w.1.size<w3.1.size):=C (bP ε.q Z.q.size);have χ:=C (Z.q.bx ω.q α.q);have Ω:=C ((Z.q.block n α.q ω.q.2.2).trans j1.q);refine m _ _ ⟨O,ζ.q _ υ.q β.q⟩ ?_;clear m K r hz S f v hS;refine qC ?_
 case' g10=>
  refine gP rfl rfl (λK m=>?_);go_simp;have X:=aA (M P.1.size P) (N #[G D 0,G D 0] 221);have Θ:J (Same (λi=>i≠R) (P) (P.alloc (N #[G D 0,G D 0] 221))):=C (L X (λ_ _ h=>h));have ο:=C (z0.q.tr Θ.q);have η:=C (q7.q.tr (L X (λi A y=>y)));have Ξ:=C (z1.q.below X);have z3:=b3;have z4:=C (ο.q.block w.1.size (by have:=γ.q;omega) HX.q.2.2);have ι:J (w.1.size<(P.alloc (N #[G D 0,G D 0] 221)).1.size):=C (bP q9.q Θ.q.size);have Ψ:J (u.1.size<=P.1.size):=C (by have:=z0.q.size;have:=z2.q;omega);have z6:=C (Bx.new P #[G D 0,G D 0] 221);have y3:=C (gM P (N #[G D 0,G D 0] 221));have α:J (P.1.size≠R):=C (λe=>by have:=z1.q.s.t.b.2.2;omega);have ψ:J (w.1.size<P.1.size):=C q9.q;refine m _ _ ⟨O,ζ.q _ z4.q η.q⟩ ?_;obtain⟨n,π⟩:∃n,n=P.1.size:=⟨_,rfl⟩;rw[<-π] at z6 y3 α ψ Ψ ⊢;generalize P.alloc (N #[G D 0,G D 0] 221)=E at Θ ο η Ξ z4 ι z6 y3 ⊢;clear m K X π;refine aF rfl rfl (λK m=>?_);go_simp;refine(iB 0 ah b _ Ξ.q z3.q HW.q.1 (HG.q.same η.q)).mono ?_;rintro e F ⟨hS,v⟩;have δ:=C hS;have θ:=C (ο.q.tr hS);have Y:=C (η.q.tr (hS.mono (λi A _=>by have:=HB.q;have:=ν.q;have:=ξ.q;omega)));rcases iy (aI (c.put 0 b)) with f|f;rotate_left
  .obtain rfl:=v.2 f
   exact⟨rfl,σ.q _ Y.q (λk=>f (Δ.q.2.1 k))⟩
  obtain⟨rfl,m3,r,hz,S⟩:=v.1 f;have κ:=C r;have j0:=C f;have m4:=C S;have Φ:=C (θ.q.block w.1.size (by have:=γ.q;omega) HX.q.2.2);have ε:J (w.1.size<F.1.size):=C (bP ι.q δ.q.size);have ε:J (w.1.size<F.1.size):=C (bP ι.q δ.q.size);have ω:=C (δ.q.bx z6.q α.q);have j1:=C ((δ.q.block n α.q z6.q.2.2).trans y3.q);refine m _ _ ⟨O,ζ.q _ Φ.q Y.q⟩ ?_;clear m K r hz S f v hS;refine aF rfl rfl (λK m=>?_);go_simp;refine(iB 2 ah d _ κ.q j0.q HW.q.2 (HG.q.same Y.q)).mono ?_;rintro e w3 ⟨hS,v⟩;have Z:=C hS;have τ:=C (θ.q.tr hS);have β:=C (Y.q.tr (hS.mono (λi A _=>by have:=HB.q;have:=ν.q;have:=ξ.q;omega)));rcases iy (aI ((c.put 0 b).put 2 d)) with f|f;rotate_left
  .obtain rfl:=v.2 f
   exact⟨rfl,σ.q _ β.q (λk=>f (Δ.q.2.2.1 k))⟩
  obtain⟨rfl,m5,r,hz,S⟩:=v.1 f;have z5:=C r;have y2:=C f;have m6:=C S;have υ:=C (τ.q.block w.1.size (by have:=γ.q;omega) HX.q.2.2);have φ:J (w.1.size<w3.1.size):=C (bP ε.q Z.q.size);have φ:J (w.1.size<w3.1.size):=C (bP ε.q Z.q.size);have χ:=C (Z.q.bx ω.q α.q);have Ω:=C ((Z.q.block n α.q ω.q.2.2).trans j1.q);refine m _ _ ⟨O,ζ.q _ υ.q β.q⟩ ?_;clear m K r hz S f v hS;refine qC ?_
 all_goals
  have m7:=χ.q.1;have m8:=χ.q.2.1;refine aF rfl rfl (λK m=>?_);go_simp;have q0:J (Same (λi=>i≠n) w3 ((w3.setCell ⟨n,0,I⟩ (G D (c.no 0 b))).setCell ⟨n,1,I⟩ (G D ((c.put 0 b).no 2 d)))):=C (((Same.refl' w3).setTail (λh=>h rfl)).setTail (λh=>h rfl));have q3:=C ((χ.q.bB 0 ak (G D (c.no 0 b))).bB 1 ak (G D ((c.put 0 b).no 2 d)));have y4:=C (bW (i:=1) (bW (i:=0) (Ω.q) (G D (c.no 0 b))) (G D ((c.put 0 b).no 2 d)));have z7:=C (z5.q.box (T:=221) ⟨_,_,Ω.q⟩ aj aj aj aj aj (.inl aj) (.inl aj) (λe=>α.q e.symm) q0.q);have z8:=y2;have m9:J (Same (λi=>i≠R) u ((w3.setCell ⟨n,0,I⟩ (G D (c.no 0 b))).setCell ⟨n,1,I⟩ (G D ((c.put 0 b).no 2 d)))):=C (((τ.q.mono (A':=λi=>i≠R/\i<u.1.size) (λi A _=>A.1)).tr (q0.q.mono (λi A _=>by have:=Ψ.q;have:=z2.q;omega))).mono (λi A y=>⟨A,y⟩));have z9:=C (β.q.tr (q0.q.mono (λi A _=>by have:=ψ.q;have:=γ.q;have:=HB.q;have:=ν.q;have:=ξ.q;omega)));have v1:=C ((q0.q.block w.1.size (by have:=ψ.q;omega) φ.q).trans υ.q);have b5:=C (bP φ.q q0.q.size);refine m _ _ ⟨O,ζ.q _ v1.q z9.q⟩ ?_;generalize((w3.setCell ⟨n,0,I⟩ (G D (c.no 0 b))).setCell ⟨n,1,I⟩ (G D ((c.put 0 b).no 2 d)))=w4 at q0 q3 y4 z7 m9 z9 v1 b5 ⊢;clear m K m7 m8;refine ja ?_;go_wp2_with fail;have j2:=S9 ah ((Gr.put (c.put 0 b) 2 d).fits z8.q);have j3:=S9 (c:=(c.put 0 b)) (k:=2) ah z8.q;have b6:=C j2;have b7:=C j3;obtain⟨t,v2,q4,b8⟩:=z7.q.m;have v3:jW w4.drew t c.E:=q4.of_eq rfl;obtain⟨p,j4⟩:∃p:Nat,p=fC c.E (c.no 0 b) ((c.put 0 b).no 2 d):=⟨_,rfl⟩;have j5:=C j4;have y5:c.E.length<=3000:=z8.q.2.1;have p0:p<=3000:=by rw[j4];exact bI (Fz _ _ _) y5
  obtain⟨v0,st,W1,W2,r1,r2,r3,s1,s2,y6⟩:=v3.bump y5 ⟨2,c.no 0 b,0,0,(c.put 0 b).no 2 d,⟨c.no 0 b,((p:V)+1)⟩,0,I,0,0⟩ rfl j2 j3;have v4:=v3.look j2 j3;have v5:=y6.look j2 j3;have b9:fC (c.E++[⟨2,c.no 0 b,0,0,(c.put 0 b).no 2 d,⟨c.no 0 b,((p:V)+1)⟩,0,I,0,0⟩]) (c.no 0 b) ((c.put 0 b).no 2 d)=p+1:=by rw[rT,av ⟨rfl,rfl,rfl⟩,j4]
  rw[b9] at v5;simp only at r1 r2 r3;rw[<-j4] at r2 r3 v4;have f0:IntKind.i64.wrap ((p:V)+1)=(p:V)+1:=by rw[IntWalk.i64_left];unfold wrap64;omega
  rw[<-f0] at r3;have f1:((p+1:Nat):V)=(p:V)+1:=by omega
  rw[f1] at v5;have y7:=C (z7.q.below (M w4.1.size w4).drew);have v6:t≠R:=z7.q.s.t.b.wG v2 q4.obj;have j6:t≠n:=λe=>(by obtain⟨_,_,q⟩:=q4.obj;rw[e,y4.q] at q;cases q)
  have y8:t≠w.1.size:=λe=>(by obtain⟨_,_,q⟩:=q4.obj;rw[e,v1.q,k9.q] at q;cases q)
  have p1:¬(K<=t/\t<K+3):=λe=>(by obtain⟨_,_,q⟩:=q4.obj;obtain⟨_,T,_,q2,hT⟩:=(z9.q.CK k8.q) t e.1 e.2;rw[q2] at q;cases q)
  have p2:=C (⟨v6,j6,y8,b8⟩:_/\_/\_/\_);have Γ:=C v2;have y9:J (Bx W1 R _/\Bx W1 n _):=C ⟨s1.bx y7.q.s.t.b v6.symm,s1.bx q3.q.drew j6.symm⟩;have μ:J (Bx W2 n _):=C (s2.bx q3.q.drew j6.symm);have f2:J (zY W2 R _ ((c.put 0 b).put 2 d) es ds ms):=C (y7.q.s.map v3.obj v6 s2);have f3:J (Same (λi=>i<B\/(K<=i/\i<K+3)) w W2):=C ((z9.q.tr (L (M w4.1.size w4).drew (λi A y=>y))).tr (s2.mono (λi A _=>by omega)));have f4:J (W2.1[w.1.size]?=u.1[w.1.size]?):=C ((s2.block w.1.size y8.symm (by have:=b5.q;exact this)).trans v1.q);have p3:J (W2.1[n]?=H (N #[G D (c.no 0 b),G D ((c.put 0 b).no 2 d)] 221 (0,0))):=C ((s2.block n j6.symm q3.q.2.2).trans y4.q);have x0:=C y6;have r9:=C v4;have κ:=C r2;have u0:=C v5;have u1:=C p0;have f5:w4.drew.cell? ⟨R,12,I⟩=H (.map (H t)):=(y7.q.s.t.b.1 12).trans v2;have p4:J (_/\_/\_/\_):=C (⟨f5,q3.q.drew.1 0,q3.q.drew.1 1,v4⟩:(w4.drew.cell? ⟨R,12,I⟩=H (.map (H t)))/\(w4.drew.cell? ⟨n,0,I⟩=H (G D (c.no 0 b)))/\(w4.drew.cell? ⟨n,1,I⟩=H (G D ((c.put 0 b).no 2 d)))/\((Instr.lookup 161 (.map (H t)) (.agg #[G D (c.no 0 b),G D ((c.put 0 b).no 2 d)]) false).run U w4.drew= .ok (G D (p:V)) w4.drew));clear j2 j3 q4 v3 j4 y5 s1 s2 y6 v4 v5 r2 b9 f0 f1 v6 j6 y8 b8 p1 v2 f5;refine dz 9 [(0,0),(1,0),(2,0),(3,0),(4,0),(5,0),(6,0),(7,2),(8,0),(9,2)] (λ_=>True) (λo=>o.cell? ⟨R,12,I⟩=H (.map (H t))/\o.cell? ⟨n,0,I⟩=H (G D (c.no 0 b))/\o.cell? ⟨n,1,I⟩=H (G D ((c.put 0 b).no 2 d))/\(Instr.lookup 161 (.map (H t)) (.agg #[G D (c.no 0 b),G D ((c.put 0 b).no 2 d)]) false).run U o= .ok (G D (p:V)) o) (λQ w'=>gL B K R (aT c s) w (.panicked Q) w') ay ay (λQ a1 E hd r=>⟨hd,r⟩) (trivial) (p4.q) ?_;refine qC ?_;refine aF rfl rfl (λK m=>?_);go_simp;refine m _ _ ⟨O,(y9.q.1.1 12).trans Γ.q,y9.q.2.1 0,y9.q.2.1 1,κ.q⟩ ?_;clear m K r1;refine qC ?_;refine aW rfl rfl rfl (λK m=>?_);go_simp;refine m _ _ O ?_;clear m K r3;refine ja ?_;go_wp2_with fail;have u2:J (∀W:World,W.1=W2.1->True):=C (λ_ _=>O);have q5:J (zY W2.drew R _ ((c.put 0 b).put 2 d) es ds ms):=C (f2.q.tN (L (M _ _).drew (λ_ _ h=>h)) (f2.q.t.below (M _ _).drew) (λ_ _=>rfl));have p5:J (jW W2.drew t _):=C (x0.q.of_eq rfl);have f6:(Instr.lookup 161 (.map (H t)) (.agg #[G D (c.no 0 b),G D ((c.put 0 b).no 2 d)]) false).run U W2.drew= .ok (G D ((p:V)+1)) W2.drew:=by have:=p5.q.look b6.q b7.q;rw[show fC (c.E++[⟨2,c.no 0 b,0,0,(c.put 0 b).no 2 d,⟨c.no 0 b,((p:V)+1)⟩,0,I,0,0⟩]) (c.no 0 b) ((c.put 0 b).no 2 d)=p+1 from by rw[rT,av ⟨rfl,rfl,rfl⟩,j5.q]] at this;rw[show((p+1:Nat):V)=(p:V)+1 by omega] at this;exact this
  have x1:=C f6;clear f6;by_cases x2:p+1<=999;rotate_left
  .have hq:decide ((p:V)+1<=999)=false:=bE ah
   have p6:J (¬aI (aT c s)):=C (λk=>by have:=Δ.q.2.2.2 k;rw[<-j5.q] at this;omega);have p7:J (Same (λi=>i<B\/(K<=i/\i<K+3)) w W2.drew):=C (f3.q.tr (L (M _ _).drew (λi A y=>y)));clear x2;refine dz 99 [(0,0),(1,0),(2,0),(3,0),(4,0),(5,0),(6,0),(7,2)] (λ_=>True) (λo=>o.cell? ⟨R,12,I⟩=H (.map (H t))/\o.cell? ⟨n,0,I⟩=H (G D (c.no 0 b))/\o.cell? ⟨n,1,I⟩=H (G D ((c.put 0 b).no 2 d))/\(Instr.lookup 161 (.map (H t)) (.agg #[G D (c.no 0 b),G D ((c.put 0 b).no 2 d)]) false).run U o= .ok (G D ((p:V)+1)) o) (λQ w'=>gL B K R (aT c s) w (.panicked Q) w') ay ay (λQ a1 E hd r=>⟨hd,r⟩) (trivial) (⟨(q5.q.t.b.1 12).trans Γ.q,μ.q.drew.1 0,μ.q.drew.1 1,x1.q⟩) ?_;refine qC ?_;refine aF rfl rfl (λK m=>?_);go_simp;refine(lI _ _).mono ?_;rintro e w' ⟨rfl,rfl⟩;rw[au ak];exact⟨rfl,σ.q _ p7.q p6.q⟩
  have hq:decide ((p:V)+1<=999)=true:=bT ah;have p8:=C x2;clear x2;refine dz 99 [(0,0),(1,0),(2,0),(3,0),(4,0),(5,0),(6,0),(7,2)] (λ_=>True) (λo=>o.cell? ⟨R,12,I⟩=H (.map (H t))/\o.cell? ⟨n,0,I⟩=H (G D (c.no 0 b))/\o.cell? ⟨n,1,I⟩=H (G D ((c.put 0 b).no 2 d))/\(Instr.lookup 161 (.map (H t)) (.agg #[G D (c.no 0 b),G D ((c.put 0 b).no 2 d)]) false).run U o= .ok (G D ((p:V)+1)) o) (λQ w'=>gL B K R (aT c s) w (.panicked Q) w') ay ay (λQ a1 E hd r=>⟨hd,r⟩) (trivial) (⟨(q5.q.t.b.1 12).trans Γ.q,μ.q.drew.1 0,μ.q.drew.1 1,x1.q⟩) ?_;refine qC ?_;refine aF rfl rfl (λK m=>?_);go_simp;refine(lI _ _).mono ?_;rintro e w' ⟨rfl,rfl⟩;rw[av rfl];refine m _ _ ⟨O,(q5.q.t.b.1 12).trans Γ.q,μ.q.drew.1 0,μ.q.drew.1 1,x1.q⟩ ?_;clear m K hq;refine ja ?_;go_wp2_with fail;obtain⟨W3,ρ⟩:∃W:World,W=W2.drew.drew:=⟨_,rfl⟩;have f7:J (zY W3 R _ ((c.put 0 b).put 2 d) es ds ms):=C (by rw[ρ];exact q5.q.tN (L (M _ _).drew (λ_ _ h=>h)) (q5.q.t.below (M _ _).drew) (λ_ _=>rfl));have x3:J (jW W3 t _):=C (by rw[ρ];exact x0.q.of_eq rfl);have β:J (Same (λi=>i<B\/(K<=i/\i<K+3)) w W3):=C (by rw[ρ];exact(f3.q.tr (L (M _ _).drew (λi A y=>y))).tr (L (M _ _).drew (λi A y=>y)));have f8:J (W3.1[w.1.size]?=u.1[w.1.size]?):=C (by rw[ρ];exact f4.q);have p9:J (W3.1[n]?=H (N #[G D (c.no 0 b),G D ((c.put 0 b).no 2 d)] 221 (0,0))):=C (by rw[ρ];exact p3.q);have f9:J (Bx W3 n _):=C (by rw[ρ];exact μ.q.drew.drew);have g0:J (∀W:World,jW W t (c.E++[⟨2,c.no 0 b,0,0,(c.put 0 b).no 2 d,⟨c.no 0 b,((p:V)+1)⟩,0,I,0,0⟩])->(Instr.lookup 161 (.map (H t)) (.agg #[G D (c.no 0 b),G D ((c.put 0 b).no 2 d)]) false).run U W= .ok (G D ((p:V)+1)) W):=C (λW hW=>by have:=hW.look b6.q b7.q;rw[show fC (c.E++[⟨2,c.no 0 b,0,0,(c.put 0 b).no 2 d,⟨c.no 0 b,((p:V)+1)⟩,0,I,0,0⟩]) (c.no 0 b) ((c.put 0 b).no 2 d)=p+1 from by rw[rT,av ⟨rfl,rfl,rfl⟩,j5.q]] at this;rw[show((p+1:Nat):V)=(p:V)+1 by omega] at this;exact this);have g1:J (∀W:World,W.1[w.1.size]?=u.1[w.1.size]?->W.cell? ⟨w.1.size,0,I⟩=H (G D 2)):=C (λW hb=>(World.cell?_of_block (a:=⟨w.1.size,0,I⟩) hb).trans (HX.q.1 0));refine dz 99 [(0,0),(1,0),(2,0),(3,0),(4,0),(5,0),(6,0),(7,0),(8,0),(9,0),(10,0),(11,0),(12,0),(13,0),(14,0),(15,0),(16,0),(17,2)] (λ_=>True) (λo=>o.cell? ⟨w.1.size,0,I⟩=H (G D 2)/\o.cell? ⟨R,12,I⟩=H (.map (H t))/\o.cell? ⟨n,0,I⟩=H (G D (c.no 0 b))/\o.cell? ⟨n,1,I⟩=H (G D ((c.put 0 b).no 2 d))/\(Instr.lookup 161 (.map (H t)) (.agg #[G D (c.no 0 b),G D ((c.put 0 b).no 2 d)]) false).run U o= .ok (G D ((p:V)+1)) o) (λQ w'=>gL B K R (aT c s) w (.panicked Q) w') ay ay (λQ a1 E hd r=>⟨hd,r⟩) (trivial) (⟨g1.q _ (by exact f4.q),(q5.q.t.b.1 12).trans Γ.q,μ.q.drew.drew.1 0,μ.q.drew.drew.1 1,g0.q _ (x0.q.of_eq rfl)⟩) ?_;refine qC ?_;refine aF rfl rfl (λK m=>?_);go_simp;rw[<-ρ];clear ρ;refine(Ui ⟨2,c.no 0 b,0,0,(c.put 0 b).no 2 d,⟨c.no 0 b,((p:V)+1)⟩,0,I,0,0⟩ [] _ f7.q ⟨t,Γ.q,x3.q,p2.q.2.2.2⟩ HB.q z8.q (Own.jv _ _ _ _ _) (λ_=>by have:=p8.q;show(p:V)+1<=999;omega) (β.q.CK k8.q) ν.q).mono ?_;rintro e w5 ⟨⟨x4,g2,g3⟩,hS,v⟩;have g4:=C (β.q.tr hS);have x5:J (aT c s=_):=C (by rw[k7.q,<-j5.q]);rcases iy (aI (aT c s)) with f|f;rotate_left
  .obtain rfl:=v.2 (by rw[x5.q] at f;exact f)
   exact⟨rfl,σ.q _ g4.q f⟩
  obtain⟨rfl,r⟩:=v.1 (by rw[x5.q] at f;exact f);have r0:=C r;have r4:=C f;have g5:=(x4 w.1.size _ _ _ (f8.q.trans k9.q) aj (by have:=γ.q;omega)).trans f8.q;have x6:∀j,w5.cell? ⟨n,j,I⟩=W3.cell? ⟨n,j,I⟩:=λj=>World.cell?_of_block (a:=⟨n,j,I⟩) (x4 n _ _ _ p9.q aj α.q)
  have g6:jW w5 t _:=x3.q.of_eq (let⟨q,k,e⟩:=x3.q.obj;g2 t q k e);refine m _ _ ⟨O,g1.q _ g5,((g3 (by rw[x5.q] at f;exact f) 12 ah).trans ((f7.q.t.b.1 12).trans Γ.q)),(x6 0).trans (f9.q.1 0),(x6 1).trans (f9.q.1 1),g0.q _ g6⟩ ?_;clear m K r f v hS x4 g2 g3 g5 x6 g6;refine ja ?_;go_wp2_with fail;refine bodyPost_end (results_none rfl _ _ _) rfl ?_;exact⟨g4.q,λ_=>⟨rfl,by rw[k7.q,<-j5.q];exact r0.q⟩,λk=>absurd r4.q k⟩
end
end Yd
namespace Yd
open Bool renaming true->N,false->O
open Option renaming none->C,some->H
open Go Go.RowKit Go.Proofs Tryz
open Go renaming World->M
open Go.Value renaming pointer->G,bool->J,slice->L
open Tryz renaming prog->D
open Yd renaming hid->I
open _root_ renaming List->U
theorem QO (W:M):(binOp .neq 20 (.iface 31 (.int .i64 6)) (.iface 31 (.int .i64 6))).run D W= .ok (J O) W:=ay
theorem LK (b:Nat)(d:Value)(w:M)(a:Bx w b #[d]):
  CallsD D 123 #[G (H ⟨b,0,C⟩)] (.panicking ({v:= .iface 31 (.int .i64 6),recovered:=false}::[])) w λe f g=>
   e= .returned (.tuple #[])/\f= .panicking ({v:= .iface 31 (.int .i64 6),recovered:=true}::[])/\g=w.setCell ⟨b,0,C⟩ (J O):=by
 refine callsD_of_wpS func123 rfl λh cs i=>?_
 apply wpS_seq
 apply wpS_region
 simp[wpOpsS,go_sem,recoverD,i,ntmps123,Exit.thenS];refine wpS_of_wp ?_;have j:=a.1 0;have k:=a.2.1 0;have l:=QO w;simp only[pE,pF,mJ,mK,fK,fA,lu,kF,kK];go_wp2_with fail
 cases h
 simp_all[bodyPostS,results,results123]
theorem Om (b:Nat)(w:M):
  CallsD D 123 #[G (H ⟨b,0,C⟩)] .returning w λe a d=>e= .returned (.tuple #[])/\a= .returning/\d=w:=by
 refine callsD_of_wpS func123 rfl λf cs g=>?_
 apply wpS_seq
 apply wpS_region
 simp[wpOpsS,go_sem,recoverD,g,ntmps123,Exit.thenS];refine wpS_of_wp ?_;go_wp2_with fail
 cases f
 simp_all[bodyPostS,results,results123]
def LM (B:Nat)(w:M):Prop:=∀W,Same (λi=>i<B) w W->qY W
def wH (B R:Nat)(d:Cont)(w:M)(e:Ending)(a:M):Prop:=
 Same (λi=>i<B) w a/\(aI d->e= .returned (J N)/\∃cs es ds ms,ji B a R cs d es ds ms)/\(¬aI d->e= .returned (J O))
theorem QS (l:bH)(w:M):Calls D 124 #[dU l] w λe a=>e= .returned (.tuple #[])/\Below w.1.size w a:=by
 have b:=I (aA (Below.refl w.1.size w) (.cells (bM l) 77));obtain⟨d,f,g,h,i,j,k,m,n,o⟩:=l;go_enter func124,ntmps124;go_wp2_with fail;refine bodyPost_end (results_none rfl _ _ _) rfl ?_;exact⟨rfl,b.q⟩
theorem H9 {B R:Nat}{d:Cont}{b:Bool}(e:Array Value)(w a:M)(f:e[4]?.getD undef= G (H ⟨w.1.size+1,0,C⟩))(g:Bx a (w.1.size+1) #[J b])(h:wH B R d w (.returned (J b)) a):
  Leaves D Tryz.f82 e (wH B R d w) [] .returning a:=by
 have i:=g.1 0;refine⟨J b,?_,h⟩;simp[results,results82,go_sem,f,i]
theorem tO.below {w X:M}{B:Nat}{l:bH}{s:aJ}(h:tO w B l s)(a:Below w.1.size w X):tO X B l s:=⟨h.k,h.n.below a rfl,h.v.below a rfl,h.na,h.va⟩
section
variable {B R:Nat}{cs:Array Value}{c:Cont}{es:U EvC}{ds:U aG}{ms:U aK}
@[reducible] def adds (R:Nat):Array Value:=#[.func (.func 124) #[] #[],.func (.func 125) #[G (H ⟨R,0,C⟩)] #[],.func (.func 126) #[G (H ⟨R,0,C⟩)] #[],.func (.func 127) #[G (H ⟨R,0,C⟩)] #[],.func (.func 128) #[G (H ⟨R,0,C⟩)] #[],.func (.func 129) #[G (H ⟨R,0,C⟩)] #[],.func (.func 129) #[G (H ⟨R,0,C⟩)] #[],.func (.func 130) #[G (H ⟨R,0,C⟩)] #[],.func (.func 131) #[G (H ⟨R,0,C⟩)] #[],.func (.func 132) #[G (H ⟨R,0,C⟩)] #[]]
theorem oC (l:bH)(s:aJ)(w:M)(k F:Nat)(fa:Array Value)(h:ji B w R cs c es ds ms)(m:tO w B l s)(hG:LM B w)(hk:s.kind=(k:Int))(π:k<10)(hF:(adds R)[k]?=H (.func (.func F) fa #[]))
  (eg:∀θ w,(callFunc F θ).run D w= .ok (.enter F θ) w)
  (hS:∀W K,ji B W R cs c es ds ms->tO W B l s->lY B K W->nA W K->R<K->Calls D F (fa++#[dU l]) W (gL B K R (aT c s) W)):
  Calls D 82 #[G (H ⟨R,0,C⟩),dU l] w (wH B R (aT c s) w):=by
 have ρ:∀(fn:Fn)(first cap:Array Value)(w:M),(Instr.makeFunc fn first cap).run D w= .ok (.func fn first cap) w:=λ_ _ _ _=>rfl
 have ε:=m.k.1;rw[hk] at ε;obtain⟨kd,u,x,y,z,A,E,P,Q,S⟩:=l;simp only at ε;subst ε;have g0:¬((k:Int)<0):=by omega
 have g1:(k:Int)<10:=by omega
 obtain⟨X,r⟩:∃W,W=w.alloc (.cells #[.int .i64 (k:Int),L u x y,.int .i64 z,L A E P,J Q,.int .i64 S] 77):=⟨_,rfl⟩;obtain⟨Y,j⟩:∃W,W=X.alloc (.cells #[J O] 4):=⟨_,rfl⟩;obtain⟨b,g⟩:∃W,W=Y.alloc (.cells (adds R) 194):=⟨_,rfl⟩;have α:X.1.size=w.1.size+1:=by rw[r];simp
 have ζ:Y.1.size=w.1.size+2:=by rw[j,World.size_alloc,α]
 have ι:Below w.1.size w X:=by rw[r];exact aA (Below.refl _ _) _
 have κ:Below w.1.size w Y:=by rw[j];exact aA ι _
 have n:Below w.1.size w b:=by rw[g];exact aA κ _
 have o:Bx b w.1.size #[.int .i64 (k:Int),L u x y,.int .i64 z,L A E P,J Q,.int .i64 S]/\Bx b (w.1.size+1) #[J O]/\Bx b (w.1.size+2) (adds R):=by
  refine⟨?_,?_,?_⟩
  .rw[g,j,r];exact((Bx.new w _ _).alloc _).alloc _
  .rw[g,j,<-α];exact(Bx.new X _ _).alloc _
  .rw[g,<-ζ];exact Bx.new Y _ _
 have β:b.1[w.1.size+1]?=H (.cells #[J O] 4 (0,0)):=by rw[g,j,<-α];exact(Below.heap_alloc _ _ _ ak).trans (World.alloc_heap_new X _)
 have μ:nA b w.1.size:=λi h1 h2=>by
  rcases(by omega:i=w.1.size\/i=w.1.size+1\/i=w.1.size+2) with e|e|e
  .exact⟨_,_,_,by rw[e,g,j,r];exact(Below.heap_alloc _ _ _ (by simp;omega)).trans ((Below.heap_alloc _ _ _ ak).trans (World.alloc_heap_new w _)),by decide,by decide,by decide,by decide,by decide⟩
  .exact⟨_,_,_,by rw[e];exact β,by decide,by decide,by decide,by decide,by decide⟩
  .exact⟨_,_,_,by rw[e,g,<-ζ];exact World.alloc_heap_new Y _,by decide,by decide,by decide,by decide,by decide⟩
 have HB:=I n;have HX:=I o;have Ω:=I β;have σ:Hid (nA b.drew w.1.size):=I μ;have q0:Hid (Below w.1.size w b.drew):=I n.drew;have τ:=I (h.below n.drew);have υ:=I (m.below n.drew);have ν:R<w.1.size:=h.s.t.b.2.2;have φ:=I ν;have q5:=I h.b;have χ:Hid (lY B w.1.size b.drew):=I (λW d=>hG W ((Same.of_below n.drew (λi Z m=>m)).tr (d.mono (λi Z _=> .inl Z))));have γ:Hid (∀W,Same (λi=>i<B\/(w.1.size<=i/\i<w.1.size+3)) b.drew W->Bx W w.1.size #[.int .i64 (k:Int),L u x y,.int .i64 z,L A E P,J Q,.int .i64 S]/\Bx W (w.1.size+1) #[J O]/\Bx W (w.1.size+2) (adds R)/\W.1[w.1.size+1]?=H (.cells #[J O] 4 (0,0))):=I (λW d=>
  ⟨d.bx o.1.drew ah,d.bx o.2.1.drew ah,d.bx o.2.2.drew ah,(d.block (w.1.size+1) ah o.2.1.2.2).trans β⟩)
 have q6:Hid (w.1.size+3<=b.drew.1.size):=I o.2.2.2.2;have ξ:Hid (∀W,Same (λi=>i<B\/(w.1.size<=i/\i<w.1.size+3)) b.drew W->∀v,Same (λi=>i<B) w (W.setCell ⟨w.1.size+1,0,C⟩ v)):=I (λW d v=>((Same.of_below n.drew (λi Z m=>m)).tr (d.mono (λi Z _=> .inl Z))).setTail (λhh=>by have:=h.b;omega));have ψ:Hid (∀W,Same (λi=>i<B\/(w.1.size<=i/\i<w.1.size+3)) b.drew W->aI (aT c s)->(∃cs es ds ms,ji B W R cs (aT c s) es ds ms)->wH B R (aT c s) w (.returned (J N)) (W.setCell ⟨w.1.size+1,0,C⟩ (J N))):=I (λW d ω η=>by
  obtain⟨q1,q2,q3,q4,η⟩:=η;refine⟨ξ.q W d _,λ_=>⟨rfl,q1,q2,q3,q4,η.box (T:=4) ⟨_,_,(γ.q W d).2.2.2⟩ aj aj aj aj aj (.inl aj) (.inl aj) ah ((Same.refl' W).setTail (λh=>h rfl))⟩,λk=>absurd ω k⟩)
 have Γ:Hid (∀W,Same (λi=>i<B\/(w.1.size<=i/\i<w.1.size+3)) b.drew W->¬aI (aT c s)->wH B R (aT c s) w (.returned (J O)) (W.setCell ⟨w.1.size+1,0,C⟩ (J O))):=I (λW d hn=>⟨ξ.q W d _,λk=>absurd k hn,λ_=>rfl⟩);clear h m hG ι κ n o β μ ν α ζ;have ο:Hid (∀W,Same (λi=>i<B\/(w.1.size<=i/\i<w.1.size+3)) b.drew W->True/\W.cell? ⟨w.1.size,0,C⟩=H (.int .i64 (k:Int))/\W.cell? ⟨w.1.size,1,C⟩=H (L u x y)/\W.cell? ⟨w.1.size,2,C⟩=H (.int .i64 z)/\W.cell? ⟨w.1.size,3,C⟩=H (L A E P)/\W.cell? ⟨w.1.size,4,C⟩=H (J Q)/\W.cell? ⟨w.1.size,5,C⟩=H (.int .i64 S)/\W.cell? ⟨w.1.size+2,k,C⟩=H (.func (.func F) fa #[])):=I (λW d=>have a:=γ.q W d;⟨trivial,a.1.1 0,a.1.1 1,a.1.1 2,a.1.1 3,a.1.1 4,a.1.1 5,(a.2.2.1.1 k).trans hF⟩);have Δ:=I (hS b.drew w.1.size τ.q υ.q χ.q σ.q φ.q);clear hS hk hF π
 go_enter_defers func82,ntmps82
 go_wp2_with fail;rw[<-r,<-j,<-g];clear r j g ρ;refine Dw 4 (G (H ⟨w.1.size+1,0,C⟩)) 99 [(0,0),(1,0),(2,0),(3,0),(4,0),(5,2)] (λ_=>True) (λp=>p.cell? ⟨w.1.size,0,C⟩=H (.int .i64 (k:Int))/\p.cell? ⟨w.1.size,1,C⟩=H (L u x y)/\p.cell? ⟨w.1.size,2,C⟩=H (.int .i64 z)/\p.cell? ⟨w.1.size,3,C⟩=H (L A E P)/\p.cell? ⟨w.1.size,4,C⟩=H (J Q)/\p.cell? ⟨w.1.size,5,C⟩=H (.int .i64 S)/\p.cell? ⟨w.1.size+2,k,C⟩=H (.func (.func F) fa #[])) (λch w'=>ch=jT/\Same (λi=>i<B\/(w.1.size<=i/\i<w.1.size+3)) b.drew w'/\¬aI (aT c s)) ay ay ay (by
   intro ch a1 w1 hd hx hr;obtain⟨rfl,d,hn⟩:=hr;obtain⟨tm,df⟩:=a1;simp only at hd hx;subst hd;have q:=γ.q w1 d;have Θ:=Γ.q w1 d hn;refine leaves_cons (f:=123) (args:=#[G (H ⟨w.1.size+1,0,C⟩)]) ak (by simp[go_sem]) ?_;refine(LK (w.1.size+1) _ w1 q.2.1).mono ?_;rintro e u' w6 ⟨rfl,rfl,rfl⟩;exact H9 _ w _ (by show(tm[4]?).getD undef=_;rw[hx];rfl) (q.2.1.bB 0 ak (J O)) Θ) trivial (ο.q b.drew (Same.refl' _)).2 ?_
 refine qC ?_;refine aF rfl rfl (λK hK=>?_);go_simp;refine Δ.q.mono ?_;rintro e1 w3 ⟨hS,he⟩;have δ:=I hS;rcases iy (aI (aT c s)) with t|t;rotate_left
 .obtain rfl:=he.2 t
  exact⟨rfl,rfl,rfl,δ.q,t⟩
 obtain⟨rfl,hr⟩:=he.1 t;have Ξ:=I hr;have Φ:=I t;clear hr t he hS;refine hK _ _ (ο.q w3 δ.q) ?_;clear hK K;refine Nu ?_;have q:=γ.q w3 δ.q;have q7:=q.2.1.1 0;have q8:=q.2.1.2.1 0;have Ψ:=I q.2.1;clear q;go_wp2_with fail;refine leaves_cons (f:=123) (args:=#[G (H ⟨w.1.size+1,0,C⟩)]) ak (by simp[go_sem]) ?_;refine(Om (w.1.size+1) _).mono ?_;rintro e u' w6 ⟨rfl,rfl,rfl⟩;exact H9 _ w _ rfl (Ψ.q.bB 0 ak (J N)) (ψ.q w3 δ.q Φ.q Ξ.q)
theorem JL (args:Array Value)(w:M):(callFunc 125 args).run D w= .ok (.enter 125 args) w:=by go_simp
theorem FB (args:Array Value)(w:M):(callFunc 129 args).run D w= .ok (.enter 129 args) w:=by go_simp
theorem JM (args:Array Value)(w:M):(callFunc 131 args).run D w= .ok (.enter 131 args) w:=by go_simp
theorem JN (args:Array Value)(w:M):(callFunc 130 args).run D w= .ok (.enter 130 args) w:=by go_simp
theorem LP (args:Array Value)(w:M):(callFunc 127 args).run D w= .ok (.enter 127 args) w:=by go_simp
theorem LQ (args:Array Value)(w:M):(callFunc 128 args).run D w= .ok (.enter 128 args) w:=by go_simp
theorem LU (args:Array Value)(w:M):(callFunc 132 args).run D w= .ok (.enter 132 args) w:=by go_simp
theorem JO (args:Array Value)(w:M):(callFunc 126 args).run D w= .ok (.enter 126 args) w:=by go_simp
theorem Uj (args:Array Value)(w:M):(callFunc 124 args).run D w= .ok (.enter 124 args) w:=by go_simp
theorem VU (l:bH)(s:aJ)(w:M)(h:ji B w R cs c es ds ms)(j:aI c)(g:tO w B l s)(q:s.kind=0\/eF s)(m:LM B w):
  Calls D 82 #[G (H ⟨R,0,C⟩),dU l] w (wH B R (aT c s) w):=by
 by_cases o:s.kind=0
 .have r:aT c s=c:=by unfold aT;simp only[o];rfl
  refine oC l s w 0 _ #[] h g m o ah rfl Uj (λW K a _ _ _ _=>?_);rw[r];refine(QS l W).mono ?_;rintro e u ⟨rfl,p⟩;exact⟨Same.of_below p (λi v g=>g),λ_=>⟨rfl,_,_,_,_,a.below p⟩,λk=>absurd j k⟩
 have n:=q.resolve_left o;have t:s.kind=1\/s.kind=2\/s.kind=3\/s.kind=4\/s.kind=5\/s.kind=6\/s.kind=7\/s.kind=8\/s.kind=9:=by
  rcases n.2.2 with h|h|h|h|h|h|h|h|h <;> (have:=h.1;omega)
 rcases t with e|e|e|e|e|e|e|e|e
 .exact oC l s w 1 _ _ h g m e ah rfl JL (λW K a b c d f=>Od _ s W a j b e n c d f)
 .exact oC l s w 2 _ _ h g m e ah rfl JO (λW K a b c d f=>Ol _ s W a j b e n c d f)
 .exact oC l s w 3 _ _ h g m e ah rfl LP (λW K a b c d f=>QK _ s W a j b e n c d f)
 .exact oC l s w 4 _ _ h g m e ah rfl LQ (λW K a b c d f=>QM _ s W a j b e n c d f)
 .exact oC l s w 5 _ _ h g m e ah rfl FB (λW K a b c d f=>Kw _ s W a j b (.inl e) n c d f)
 .exact oC l s w 6 _ _ h g m e ah rfl FB (λW K a b c d f=>Kw _ s W a j b (.inr e) n c d f)
 .exact oC l s w 7 _ _ h g m e ah rfl JN (λW K a b c d f=>Og _ s W a j b e n c d f)
 .exact oC l s w 8 _ _ h g m e ah rfl JM (λW K a b c d f=>Oh _ s W a j b e n c d f)
 .exact oC l s w 9 _ _ h g m e ah rfl LU (λW K a b c d f=>QL _ s W a j b e n c d f)
end
theorem zo {α β:Type}{p:α->α->Bool}{f g:α->β}:∀{xs ys:U α},(∀x∈xs,∀y∈ys,(p x y=N↔f x=g y))->(nC p xs ys=N↔xs.map f=ys.map g)
 |[],[],_=>by simp[nC]
 |[],_::_,_=>by simp[nC]
 |_::_,[],_=>by simp[nC]
 |x::xs,y::ys,h=>by
  have d:=zo (xs:=xs) (ys:=ys) (λa ha b i=>h a (d9 _ ha) b (d9 _ i));have j:=h x fQ y fQ;have e:nC p (x::xs) (y::ys)=(p x y && nC p xs ys):=by
   unfold nC;simp only[dK,List.zip_cons_cons,List.all_cons,Nat.add_right_cancel_iff]
   cases p x y <;> simp
  rw[e,aM,d,j,dX,dX,List.cons.injEq]
def Ia (a b:aG->U Int)(p q:aG):Bool:=decide (p.obj=q.obj) && decide (a p=b q)
def Ib (a b:aK->U Int)(p q:aK):Bool:=decide (p.pred=q.pred) && (decide (p.obj=q.obj) && (decide (p.first=q.first) && decide (a p=b q)))
theorem VW {e f:aG->U Int}{p q:aG}:Ia e f p q=N↔(p.base,e p)=(q.base,f q):=by
 obtain⟨a,b,c,d⟩:=p;obtain⟨g,h,i,j⟩:=q;simp[Ia,aG.base]
theorem VX {g h:aK->U Int}{p q:aK}:Ib g h p q=N↔(p.base,g p)=(q.base,h q):=by
 obtain⟨a,b,f,c,d,e⟩:=p;obtain⟨i,j,k,l,m,n⟩:=q;simp[Ib,aK.base,and_assoc]
theorem VY {k l:EvC->U Sn}{p q:EvC}:(gy p q && decide (k p=l q))=N↔(p.base,k p)=(q.base,l q):=by
 obtain⟨a,b,c,d,e,f,g,h,i,j⟩:=p;obtain⟨m,n,o,r,s,t,u,v,w,x⟩:=q;simp[gy,EvC.base,and_assoc]
theorem Uk (p q:aG)(xs ys:U Int)(w:M)(i:Row w 1 aS p.sa p.sn p.sc xs)(j:Row w 1 aS q.sa q.sn q.sc ys):Calls D 34 #[uV p,uV q] w (cO (J (decide (p.obj=q.obj) && decide (xs=ys))) w):=by
 obtain⟨R,b⟩:∃R:Bool,R=(decide (p.obj=q.obj) && decide (xs=ys)):=⟨_,rfl⟩;rw[<-b];obtain⟨a,k,l,m⟩:=p;obtain⟨f,n,o,r⟩:=q;have d:=I (((Below.refl w.1.size w).alloc (aB _) (.cells #[.int .i64 a,L k l m] 57)).alloc ak (.cells #[.int .i64 f,L n o r] 57));have s:=I (Ta k n l m o r xs ys _ (i.below d.q rfl) (j.below d.q rfl));clear i j;by_cases h:a=f
 .subst h
  have g:R=decide (xs=ys):=by rw[b];simp
  subst g;clear b;go_enter Tryz.func34,Tryz.ntmps34
  go_wp2_with (go_at_call 35;refine s.q.mono ?_;rintro e u ⟨rfl,t⟩)
  go_ret;exact⟨rfl,d.q.trans (t.mono (by simp;omega))⟩
 .have g:R=O:=by rw[b];simp[h]
  subst g;have v:(a==f)=O:=aX.2 h;clear h b;go_enter Tryz.func34,Tryz.ntmps34;go_wp2_with fail;go_ret;exact⟨rfl,d.q⟩
theorem Ul (p q:aK)(xs ys:U Int)(w:M)(l:Row w 1 aS p.sa p.sn p.sc xs)(m:Row w 1 aS q.sa q.sn q.sc ys):
  Calls D 37 #[uW p,uW q] w (cO (J (decide (p.pred=q.pred) && (decide (p.obj=q.obj) && (decide (p.first=q.first) && decide (xs=ys))))) w):=by
 obtain⟨R,g⟩:∃R:Bool,R=(decide (p.pred=q.pred) && (decide (p.obj=q.obj) && (decide (p.first=q.first) && decide (xs=ys)))):=⟨_,rfl⟩;rw[<-g];obtain⟨a,b,f,n,o,r⟩:=p;obtain⟨d,h,i,s,t,u⟩:=q;have j:=I (((Below.refl w.1.size w).alloc (aB _) (.cells #[.int .i64 a,.int .i64 b,J f,L n o r] 60)).alloc ak (.cells #[.int .i64 d,.int .i64 h,J i,L s t u] 60));have x:=I (Ta n s o r t u xs ys _ (l.below j.q rfl) (m.below j.q rfl));clear l m;rcases(by by_cases y:a=d <;> by_cases z:b=h <;> by_cases A:f=i <;> simp[y,z,A]:(a=d/\b=h/\f=i)\/(a==d)=O\/((a==d)=N/\(b==h)=O)\/((a==d)=N/\(b==h)=N/\(f==i)=O)) with⟨rfl,rfl,rfl⟩|v|⟨v,E⟩|⟨v,E,P⟩
 .have k:R=decide (xs=ys):=by rw[g];simp
  subst k;clear g;go_enter Tryz.func37,Tryz.ntmps37
  go_wp2_with (go_at_call 35;refine x.q.mono ?_;rintro e Q ⟨rfl,F⟩)
  go_ret;exact⟨rfl,j.q.trans (F.mono (by simp;omega))⟩
 all_goals
  have k:R=O:=by rw[g];simp_all
  subst k;clear g;go_enter Tryz.func37,Tryz.ntmps37;go_wp2_with fail;go_ret;exact⟨rfl,j.q⟩
theorem LV:∀args w,(callFunc 34 args).run D w= .ok (.enter 34 args) w:=enters_of Tryz.func34 ay rfl
theorem LW:∀args w,(callFunc 37 args).run D w= .ok (.enter 37 args) w:=enters_of Tryz.func37 ay rfl
theorem LX:∀args w,(callFunc 40 args).run D w= .ok (.enter 40 args) w:=enters_of Tryz.func40 ay rfl
def nO (h:HC):Array Value:=#[h.t.v,h.s.v,h.o.v,h.p.v]
theorem DX (h:HC){k:Nat}(a:k<4):(nO h)[k]?=H (h.nm k).v:=by
 rcases(by omega:k=0\/k=1\/k=2\/k=3) with rfl|rfl|rfl|rfl <;> rfl
def wI:Array Value:=#[L C 0 0,L C 0 0,L C 0 0,L C 0 0]
theorem Bx.Tc {X:M}{b:Nat}(h:HC)(a:Bx X b wI):Bx ((((X.setCell ⟨b,0,C⟩ h.t.v).setCell ⟨b,1,C⟩ h.s.v).setCell ⟨b,2,C⟩ h.o.v).setCell ⟨b,3,C⟩ h.p.v) b (nO h):=
 (((a.bB 0 (by simp[wI]) _).bB 1 (by simp[wI]) _).bB 2 (by simp[wI]) _).bB 3 (by simp[wI]) _
def Gv (a b:Nat->U Bs)(es d:U EvC)(e f:U aG)(g h:U aK)(i j:U Wa)(l m:EvC->U Sn)(n o:aG->U Int)(p q:aK->U Int):Prop:=
 (∀k,k<4->a k=b k)/\e.map (λx=>(x.base,n x))=f.map (λx=>(x.base,o x))/\g.map (λx=>(x.base,p x))=h.map (λx=>(x.base,q x))/\i=j/\es.map (λx=>(x.base,l x))=d.map (λx=>(x.base,m x))
theorem G7 {h h':HC}{es E:U EvC}{i θ:U aG}{j ι:U aK}{qs κ:U Wa}{μ ν:EvC->U Sn}{dn ξ:aG->U Int}{mn ο:aK->U Int}{nl ε:Nat->U Bs}(w:M)
  (d:Deep w h es i j qs μ dn mn) (d':Deep w h' E θ ι κ ν ξ ο) (hn:∀f,f<4->Row w 1 encStr (h.nm f).a (h.nm f).n (h.nm f).c (nl f)) (Ψ:∀f,f<4->Row w 1 encStr (h'.nm f).a (h'.nm f).n (h'.nm f).c (ε f)):
  Calls D 10 #[bC h,bC h'] w (λe W=>∃b:Bool,e= .returned (J b)/\(b=N↔Gv nl ε es E i θ j ι qs κ μ ν dn ξ mn ο)/\Below w.1.size w W):=by
 have q6:Hid (∀k,k<4->∀W,Below w.1.size w W->Calls D 32 #[(h.nm k).v,(h'.nm k).v] W (cO (J (decide (nl k=ε k))) W)):=
  I (λk hk W a=>YD _ _ _ _ _ _ _ _ W ((hn k hk).below a rfl) ((Ψ k hk).below a rfl))
 obtain⟨bo,χ⟩:∃b,b=nC (Ia dn ξ) i θ:=⟨_,rfl⟩;obtain⟨bm,ψ⟩:∃b,b=nC (Ib mn ο) j ι:=⟨_,rfl⟩;obtain⟨be,ω⟩:∃b,b=nC (λx y=>gy x y && decide (μ x=ν y)) es E:=⟨_,rfl⟩;obtain⟨bw,Γ⟩:∃b,b=decide (qs=κ):=⟨_,rfl⟩;have HO:Hid (∀W,Below w.1.size w W->Calls D 33 #[h.d.v,h'.d.v,.func (.func 34) #[] #[]] W (cO (J bo) W)):=I (λW a=>by
  rw[χ];exact YE _ _ _ _ _ _ _ _ _ _ _ W (d.2.1.below a rfl) (d'.2.1.below a rfl) LV (λx l y hy V hV=>Uk x y _ _ V ((d.2.2.2.2.2.1 x l).below (a.trans (hV.mono a.size)) rfl) ((d'.2.2.2.2.2.1 y hy).below (a.trans (hV.mono a.size)) rfl)))
 have HM:Hid (∀W,Below w.1.size w W->Calls D 36 #[h.m.v,h'.m.v,.func (.func 37) #[] #[]] W (cO (J bm) W)):=I (λW a=>by
  rw[ψ];exact YF _ _ _ _ _ _ _ _ _ _ _ W (d.2.2.1.below a rfl) (d'.2.2.1.below a rfl) LW (λx l y hy V hV=>Ul x y _ _ V ((d.2.2.2.2.2.2 x l).below (a.trans (hV.mono a.size)) rfl) ((d'.2.2.2.2.2.2 y hy).below (a.trans (hV.mono a.size)) rfl)))
 have HE:Hid (∀W,Below w.1.size w W->Calls D 39 #[h.e.v,h'.e.v,.func (.func 40) #[] #[]] W (cO (J be) W)):=I (λW a=>by
  rw[ω];exact YG _ _ _ _ _ _ _ _ _ _ _ W (d.1.below a rfl) (d'.1.below a rfl) LX (λx l y hy V hV=>KC x y _ _ V ((d.2.2.2.2.1 x l).below (a.trans (hV.mono a.size)) rfl) ((d'.2.2.2.2.1 y hy).below (a.trans (hV.mono a.size)) rfl)))
 have HW:Hid (∀W,Below w.1.size w W->Calls D 38 #[h.w.v,h'.w.v] W (cO (J bw) W)):=I (λW a=>by
  rw[Γ];exact Z4 _ _ _ _ _ _ _ _ W (d.2.2.2.1.below a rfl) (d'.2.2.2.1.below a rfl))
 have π:Hid (((∀k,k<4->nl k=ε k)/\bo=N/\bm=N/\bw=N/\be=N)↔Gv nl ε es E i θ j ι qs κ μ ν dn ξ mn ο):=I (by
  unfold Gv;rw[χ,ψ,Γ,ω,zo (λ_ _ _ _=>VW),zo (λ_ _ _ _=>VX),zo (λ_ _ _ _=>VY),aV])
 clear χ ψ ω Γ d d' hn Ψ;have HB:=I (((Below.refl w.1.size w).alloc (aB _) (.cells (aD h) 28)).alloc ak (.cells (aD h') 28));have HX:=I ((Bx.new w (aD h) 28).alloc (.cells (aD h') 28));have Δ:=I (show Bx ((w.alloc (.cells (aD h) 28)).alloc (.cells (aD h') 28)) (w.1.size+1) (aD h') from(by have:=Bx.new (w.alloc (.cells (aD h) 28)) (aD h') 28;rwa[World.size_alloc] at this));go_enter Tryz.func10,Tryz.ntmps10;go_wp2_with fail;have l:=HX.q;have r:=Δ.q;refine Et [0,2] (λW'=>Bx W' w.1.size (aD h)/\Bx W' (w.1.size+1) (aD h')) (λ_ _=>False) ay ay (λ_ _ _ _ h=>h.elim) ⟨l.drew,r.drew⟩ ?_;clear l r;refine GX rfl rfl ⟨bC h,λW' hR=>?_,?_⟩
 .have hc:=hR.1.1;go_simp
 refine GX rfl rfl ⟨bC h',λW' hR=>?_,?_⟩
 .have hc:=hR.2.1;go_simp
 simp only[Act.put,lu,kF,kK];refine Nv (F:=λA o a' W=>∃x5 x6 α β b c,a'=rW A [(5,x5),(6,x6),(11,α),(13,β)]/\(o 1=N->α= .agg (nO h))/\(o 3=N->β= .agg (nO h'))/\(o 4=N->x5= G (H ⟨b,0,C⟩)/\w.1.size+2<=b/\Bx W b (bif o 6 then nO h else wI))/\(o 5=N->x6= G (H ⟨c,0,C⟩)/\w.1.size+2<=c/\Bx W c (bif o 7 then nO h' else wI))/\(o 4=N->o 5=N->b≠c)/\(o 0=N/\o 2=N)/\(o 6=N->o 4=N/\o 5=N)/\(o 7=N->o 6=N)/\Bx W w.1.size (aD h)/\Bx W (w.1.size+1) (aD h')/\Below w.1.size w W) ?_ ?_ ?_ ?_
 .rintro o a' W ⟨x5,x6,α,β,b,c,_,_,_,_,_,_,_,_,_,h1,h2,_⟩
  exact⟨h1,h2⟩
 .exact⟨undef,undef,undef,undef,0,0,rfl,(λh=>by cases h),(λh=>by cases h),(λh=>by cases h),(λh=>by cases h),(λh=>by cases h),⟨rfl,rfl⟩,(λh=>by cases h),(λh=>by cases h),HX.q.drew,Δ.q.drew,HB.q.drew⟩
 .rintro o a' W p ⟨x5,x6,α,β,b,c,rfl,u,v,m,n,z,_,_,_,l,r,a⟩
  obtain⟨rfl,ρ,Y⟩:=m (p 4);obtain⟨rfl,σ,Z⟩:=n (p 5);rw[p 6] at Y;rw[p 7] at Z;obtain rfl:=u (p 1);obtain rfl:=v (p 3);refine ZF ?_;simp only[rW,Act.put,lu,kF,kK];have HS:=I (⟨ρ,Y,σ,Z,l,r,a⟩:_/\_/\_/\_/\_/\_/\_);clear u v m n z p ρ Y σ Z l r a HB HX Δ;go_wp2_with fail
  go_loopw [14] (λf X=>∃k:Nat,k<=4/\f= .int .i64 k/\(∀δ,δ<k->nl δ=ε δ)/\Below W.1.size W X) (λf _=>4 - (RowKit.intOf f).toNat)
  case atStart=>exact⟨0,bn _,rfl,λδ hj=>absurd hj ah,Below.refl _ _⟩
  case round=>
   obtain⟨k,hk,rfl,τ,a⟩:=hrel;by_cases υ:k<4
   .have ζ:=HS.q.2.2.2.2.2.2.trans (a.mono HS.q.2.2.2.2.2.2.size)
    have q7:wr.cell? ⟨b,k,C⟩=H (h.nm k).v:=(((HS.q.2.1).keep a).1 k).trans (DX h υ);have q8:wr.cell? ⟨c,k,C⟩=H (h'.nm k).v:=(((HS.q.2.2.2.1).keep a).1 k).trans (DX h' υ);have Θ:=I (⟨q7,q8⟩:_/\_);have HK:=I υ;have q9:=I τ;have Ω:=I a;have γ:=I ζ
    cases hq:decide (nl k=ε k)
    all_goals
     have HC:=I (λW hW=>(by have:=q6.q k HK.q W hW;rw[hq] at this;exact this:Calls D 32 #[(h.nm k).v,(h'.nm k).v] W (cO _ W)));have HQ:=I hq;clear hq τ ζ;go_wp2_with fail;refine aC 99 [(0,0),(1,0),(2,0),(3,0),(4,0),(5,0),(6,2),(7,0)] (λ_=>True) (λW'=>W'.cell? ⟨b,(k:Nat),C⟩=H (h.nm k).v/\W'.cell? ⟨c,(k:Nat),C⟩=H (h'.nm k).v) ay ay (trivial) (Θ.q) ?_;refine qC ?_;refine aF rfl rfl (λK Q=>?_);go_simp;refine(HC.q _ γ.q.drew).mono ?_;rintro e w1 ⟨rfl,g⟩;go_simp;refine Q _ _ ⟨trivial,bq g rfl Θ.q.1,bq g rfl Θ.q.2⟩ ?_;have η:=I g;clear Q K g;refine qC ?_;refine aO ?_;go_wp2_with fail
    .go_ret
     exact⟨O,rfl,⟨λh=>(by cases h),λT=>absurd (T.1 k HK.q) (of_decide_eq_false HQ.q)⟩,γ.q.drew.trans (η.q.mono γ.q.size)⟩
    .go_roundw
     case rel=>exact⟨k+1,by omega,by go_num,λδ hj=>(by
      rcases iM δ k with h|h
      .exact q9.q δ h
      .rw[show δ=k by omega];exact rJ HQ.q),Ω.q.drew.trans (η.q.mono Ω.q.size)⟩
     case measure=>simp[RowKit.intOf];omega
   .have j0:k=4:=by omega
    subst j0;have j1:=I τ;have Ξ:=I (HS.q.2.2.2.2.2.2.trans (a.mono HS.q.2.2.2.2.2.2.size));have q0:=I (HS.q.2.2.2.2.1.keep a);have q1:=I (HS.q.2.2.2.2.2.1.keep a);have j2:=q0.q.1;have j3:=q1.q.1;clear υ hk τ a;go_wp2_with fail;refine(HO.q _ Ξ.q).mono ?_;rintro e w1 ⟨rfl,g⟩;have Φ:=I (Ξ.q.bQ g);have q2:=I (q0.q.keep g);have q3:=I (q1.q.keep g);clear j2 j3 g;have j4:=q2.q.1;have j5:=q3.q.1;go_wp2_with fail;refine(HM.q _ Φ.q).mono ?_;rintro e w2 ⟨rfl,ζ⟩;have γ:=I (Φ.q.bQ ζ);have q4:=I (q2.q.keep ζ);have q5:=I (q3.q.keep ζ);clear j4 j5 ζ;have j6:=q4.q.1;have j7:=q5.q.1
    cases bo
    .go_wp2_with fail
     go_ret;exact⟨O,rfl,(by rw[<-π.q];simp),γ.q⟩
    cases bm
    .go_wp2_with fail
     go_ret;exact⟨O,rfl,(by rw[<-π.q];simp),γ.q⟩
    go_wp2_with fail;refine(HW.q _ γ.q).mono ?_;rintro e w3 ⟨rfl,φ⟩;have η:=I (γ.q.bQ φ);have j8:=I (q4.q.keep φ);have j9:=I (q5.q.keep φ);clear j6 j7 φ;have z3:=j8.q.1;have z4:=j9.q.1
    cases bw
    .go_wp2_with fail
     go_ret;exact⟨O,rfl,(by rw[<-π.q];simp),η.q⟩
    go_wp2_with fail;refine(HE.q _ η.q).mono ?_;rintro e w4 ⟨rfl,z0⟩;go_wp2_with fail;go_ret;exact⟨be,rfl,(by rw[<-π.q];simp only[true_and];exact⟨λq=>⟨j1.q,q⟩,λq=>q.2⟩),η.q.bQ z0⟩
 .rintro f o a' W hi p t ⟨x5,x6,α,β,b,c,rfl,u,v,m,n,z,s,P,S,l,r,a⟩
  have HF:=I (⟨u,v,m,n,z,s,P,S,l,r,a,p,t⟩:_/\_/\_/\_/\_/\_/\_/\_/\_/\_/\_/\_/\_);clear u v m n z s P S l r a p t;rcases(by have:f<8:=hi;omega:f=0\/f=1\/f=2\/f=3\/f=4\/f=5\/f=6\/f=7) with rfl|rfl|rfl|rfl|rfl|rfl|rfl|rfl
  .obtain⟨_,_,_,_,_,s,_,_,_,_,_,p,_⟩:=HF.q
   cases p.symm.trans s.1
  rotate_left
  .obtain⟨_,_,_,_,_,s,_,_,_,_,_,p,_⟩:=HF.q
   cases p.symm.trans s.2
  rotate_left 5
  .refine uh rfl rfl (λK Q=>?_)
   simp only[rW,Act.put,lu,kF,kK];go_simp;refine(kC h W).mono ?_;rintro e w1 ⟨rfl,g⟩;go_simp;obtain⟨u,v,m,n,z,s,P,S,l,r,a,p,t⟩:=HF.q;refine Q _ _ ⟨x5,x6,.agg (nO h),β,b,c,rfl,λ_=>rfl,v,(λq=>⟨(m q).1,(m q).2.1,(m q).2.2.keep g⟩),(λq=>⟨(n q).1,(n q).2.1,(n q).2.2.keep g⟩),z,s,P,S,l.keep g,r.keep g,a.trans (g.mono a.size)⟩
  .obtain⟨u,v,m,n,z,s,P,S,l,r,a,p,t⟩:=HF.q
   refine uh rfl rfl (λK Q=>?_);simp only[rW,Act.put,lu,kF,kK];go_simp;refine(kC h' W).mono ?_;rintro e w1 ⟨rfl,g⟩;go_simp;refine Q _ _ ⟨x5,x6,α,.agg (nO h'),b,c,rfl,u,λ_=>rfl,(λq=>⟨(m q).1,(m q).2.1,(m q).2.2.keep g⟩),(λq=>⟨(n q).1,(n q).2.1,(n q).2.2.keep g⟩),z,s,P,S,l.keep g,r.keep g,a.trans (g.mono a.size)⟩
  .refine uh rfl rfl (λK Q=>?_)
   simp only[rW,Act.put,lu,kF,kK];go_simp;obtain⟨u,v,m,n,z,s,P,S,l,r,a,p,t⟩:=HF.q;have h6:o 6=O:=by
    cases q:o 6 with
    |false=>rfl
    |true=>cases p.symm.trans (P q).1
   have g:=aA (Below.refl W.1.size W) (.cells wI 91);refine Q _ _ ⟨G (H ⟨W.1.size,0,C⟩),x6,α,β,W.1.size,c,rfl,u,v,(λ_=>⟨rfl,by have:=r.2.2;omega,by show Bx _ _ (bif o 6 then _ else _);rw[h6];exact Bx.new W wI _⟩),(λq=>⟨(n q).1,(n q).2.1,(n q).2.2.keep g⟩),(λ_ q e=>by have:=(n q).2.2.2.2;omega),s,(λq=>⟨rfl,(P q).2⟩),S,l.keep g,r.keep g,a.trans (g.mono a.size)⟩
  .refine uh rfl rfl (λK Q=>?_)
   simp only[rW,Act.put,lu,kF,kK];go_simp;obtain⟨u,v,m,n,z,s,P,S,l,r,a,p,t⟩:=HF.q;have h7:o 7=O:=by
    cases q:o 7 with
    |false=>rfl
    |true=>cases p.symm.trans (P (S q)).2
   have g:=aA (Below.refl W.1.size W) (.cells wI 91);refine Q _ _ ⟨x5,G (H ⟨W.1.size,0,C⟩),α,β,b,W.1.size,rfl,u,v,(λq=>⟨(m q).1,(m q).2.1,(m q).2.2.keep g⟩),(λ_=>⟨rfl,by have:=r.2.2;omega,by show Bx _ _ (bif o 7 then _ else _);rw[h7];exact Bx.new W wI _⟩),(λq _ e=>by have:=(m q).2.2.2.2;omega),s,(λq=>⟨(P q).1,rfl⟩),S,l.keep g,r.keep g,a.trans (g.mono a.size)⟩
  .obtain⟨u,v,m,n,z,s,P,S,l,r,a,p,t⟩:=HF.q
   obtain rfl:=u (t 1 ay);obtain⟨rfl,ρ,Y⟩:=m (t 4 ay);rw[p] at Y;have z1:=I Y;have hc:∀f,W.cell? ⟨b,f,C⟩=(#[L C 0 0,L C 0 0,L C 0 0,L C 0 0]:Array Value)[f]?:=Y.1;have hf:=Y.2.1;have hz:=Y.2.2;clear Y;refine uh rfl rfl (λK Q=>?_);simp only[rW,Act.put,lu,kF,kK,nO];go_simp;have T:Same (λf=>f≠b) W ((((W.setCell ⟨b,0,C⟩ h.t.v).setCell ⟨b,1,C⟩ h.s.v).setCell ⟨b,2,C⟩ h.o.v).setCell ⟨b,3,C⟩ h.p.v):=((((Same.refl' W).setTail (λh=>h rfl)).setTail (λh=>h rfl)).setTail (λh=>h rfl)).setTail (λh=>h rfl);refine Q _ _ ⟨G (H ⟨b,0,C⟩),x6,.agg (nO h),β,b,c,rfl,λ_=>rfl,v,(λq=>⟨rfl,ρ,Bx.Tc h z1.q⟩),(λq=>⟨(n q).1,(n q).2.1,T.bx (n q).2.2 (λe=>z (t 4 ay) q e.symm)⟩),z,s,(λ_=>⟨t 4 ay,t 5 ay⟩),(λq=>rfl),T.bx l ah,T.bx r ah,T.below a (λf hi=>by omega) a.size⟩
  .obtain⟨u,v,m,n,z,s,P,S,l,r,a,p,t⟩:=HF.q
   obtain rfl:=v (t 3 ay);obtain⟨rfl,σ,Z⟩:=n (t 5 ay);rw[p] at Z;have z2:=I Z;have hc:∀f,W.cell? ⟨c,f,C⟩=(#[L C 0 0,L C 0 0,L C 0 0,L C 0 0]:Array Value)[f]?:=Z.1;have hf:=Z.2.1;have hz:=Z.2.2;clear Z;refine uh rfl rfl (λK Q=>?_);simp only[rW,Act.put,lu,kF,kK,nO];go_simp;have T:Same (λf=>f≠c) W ((((W.setCell ⟨c,0,C⟩ h'.t.v).setCell ⟨c,1,C⟩ h'.s.v).setCell ⟨c,2,C⟩ h'.o.v).setCell ⟨c,3,C⟩ h'.p.v):=((((Same.refl' W).setTail (λh=>h rfl)).setTail (λh=>h rfl)).setTail (λh=>h rfl)).setTail (λh=>h rfl);refine Q _ _ ⟨x5,G (H ⟨c,0,C⟩),α,.agg (nO h'),b,c,rfl,u,λ_=>rfl,(λq=>⟨(m q).1,(m q).2.1,T.bx (m q).2.2 (λe=>z q (t 5 ay) e)⟩),(λq=>⟨rfl,σ,Bx.Tc h' z2.q⟩),z,s,P,(λ_=>t 6 ay),T.bx l ah,T.bx r ah,T.below a (λf hi=>by omega) a.size⟩
end Yd
