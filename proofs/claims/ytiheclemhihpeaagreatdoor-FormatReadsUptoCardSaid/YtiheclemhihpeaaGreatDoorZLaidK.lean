import Derived.Test.YtiheclemhihpeaaGreatDoorZTell3
import Derived.Test.YtiheclemhihpeaaGreatDoorRows
import Derived.ProofKit
import Derived.OpenShut
import Derived.Deep.Slices
import Derived.Laws.RangeString
import Derived.Test.YtiheclemhihpeaaGreatDoorZMp
import Derived.DeepKeys4
import Derived.Test.YtiheclemhihpeaaGreatDoorCards
import Derived.Test.YtiheclemhihpeaaGreatDoorTie
import Derived.Deep.DeepHandedRow
import Derived.Lib.LaidU8
import Derived.LaidMore
import Derived.Test.YtiheclemhihpeaaGreatDoorZRSame
set_option linter.all false
set_option maxRecDepth 200000
set_option maxHeartbeats 8000000
namespace Yd
open Classical renaming epsilon->O
open Option renaming none->G,some->H
open Go Go.RowKit Go.Proofs
open Go renaming Value->J,World->K,TypeId->N
open _root_ renaming List->C,Nat->I
theorem fZ {w:K}{b i:I}{cs:Array J}{T:N}{a:I × I}(d:w.1[b]?=H (.cells cs T a))(v:J):(w.setCell ⟨b,i,G⟩ v).1[b]?=H (.cells (cs.setIfInBounds i v) T a):=by
 simp[World.setCell,Array.getElem?_modify,d]
section
variable {α:Type}{enc:α->C J}{k:I}
theorem Fj [hc:Cells enc k]:∀(xs:C α)(i j:I)(x y:α)(v:J),xs[i]?=H x->j<k->(enc x).set j v=enc y->(xs.flatMap enc).set (i*k+j) v=(xs.set i y).flatMap enc
 |[],i,j,x,y,v,h,_,_=>by simp at h
 |a::xs,0,j,x,y,v,h,b,d=>by
  obtain rfl:a=x:=by simpa using h
  rw[og,ng,og,Nat.zero_mul,bQ,List.set_append_left _ _ (by rw[hc.len];exact b),d]
 |a::xs,i+1,j,x,y,v,h,b,d=>by
  have e:=Fj xs i j x y v (by simpa using h) b d;rw[og,ni,og,List.set_append_right _ _ (by rw[hc.len,Nat.succ_mul];omega),hc.len,<-e]
  congr 2
  rw[Nat.succ_mul];omega
theorem Own.put [hc:Cells enc k]{w:K}{B g n c i j:I}{t:N}{xs:C α}{x y:α}{v:J}(h:Own w B t k enc (.slice (H ⟨g,0,G⟩) n c) xs)(b:xs[i]?=H x)(d:j<k)(f:(enc x).set j v=enc y):
  Own (w.setCell ⟨g,i*k+j,G⟩ v) B t k enc (.slice (H ⟨g,0,G⟩) n c) (xs.set i y):=by
 obtain⟨P,l⟩:=h;refine⟨sS _,?_⟩;rcases l with⟨e,_⟩|⟨Q,m,o,e,p,q,r,u,z,A⟩
 .cases e
 .injection e with a E F
  injection a with a;injection a with a;subst a;refine .inr ⟨g,m,o.setIfInBounds (i*k+j) v,?_,p,fZ q v,by rw[yJ];exact r,u,by rw[Array.size_setIfInBounds];exact z,?_⟩
  .rw[yJ,E,F]
  .rw[yJ,Array.toList_setIfInBounds,List.take_set,A]
   exact Fj xs i j x y v b d f
end
variable{a:Option Addr}{n:I}
theorem Row.uniq {f:Type}{enc:f->C J}{k:I}[hc:Cells enc k](m:∀x y,enc x=enc y->x=y){w:K}{c:I}{xs l:C f}(h:Row w k enc a n c xs)(h':Row w k enc a n c l):xs=l:=by
 apply yK
 intro i;rcases jk i n with e|e
 .obtain⟨x,b,o,p,ha,u⟩:=h.at_ e
  obtain⟨y,v,z,q,d,A⟩:=h'.at_ e;rw[ha] at d;injection d with d;injection d with r t;subst r t;rw[p,q];refine cZ H (m x y (yK λj=>?_));have E:=hc.len x;have F:=hc.len y
  grind
 .rw[wG (by rw[h.len];omega),wG (by rw[h'.len];omega)]
def jT {b:Type}(w X:K)(T:N)(k:I)(enc:b->C J)(s:Sl)(a:C b):Prop:=
 a.length<=2000000/\(Row w k enc s.a s.n s.c a\/Own X w.1.size T k enc s.v a)
section
variable {β:Type}{w X Y:K}{T:N}{k:I}{enc:β->C J}{s:Sl}{L:C β}
theorem jT.same (h:jT w X T k enc s L){g:I}{cs:Array J}{t:N}{b:I × I}(l:X.1[g]?=H (.cells cs t b))(m:T≠t)(d:Same (λi=>i≠g) X Y):jT w Y T k enc s L:=by
 obtain⟨a,h|h⟩:=h
 .exact⟨a,.inl h⟩
 .refine⟨a,.inr (h.same d (λi f e=>?_))⟩
  subst e;obtain⟨n,o,p⟩:=h.tag f
  grind
theorem jT.below (h:jT w X T k enc s L)(b:Below X.1.size X Y):jT w Y T k enc s L:=by
 obtain⟨a,h|h⟩:=h
 .exact⟨a,.inl h⟩
 .exact⟨a,.inr (h.below b rfl)⟩
theorem jT.row [hc:Cells enc k](h:jT w X T k enc s L)(b:Below w.1.size w X):Row X k enc s.a s.n s.c L:=by
 obtain⟨m,h|h⟩:=h
 .exact h.below b rfl
 .obtain⟨a,c,e,_,_⟩:=h.shape
  obtain⟨n,o,p⟩:=s;injection e with d f l;subst d f l;exact h.row ah
theorem jT.own (h:Own X w.1.size T k enc s.v L)(a:L.length<=2000000):jT w X T k enc s L:=⟨a,.inr h⟩
end
variable{t:N}
theorem Own.aJ {b:Type}{X Y:K}{B:I}{T:N}{k:I}{enc:b->C J}{v:J}{d:C b}(h:Own X B T k enc v d){g:I}(a:∃cs f,X.1[g]?=H (.cells cs t f))(m:T≠t)(n:Same (λi=>i≠g) X Y):Own Y B T k enc v d:=by
 obtain⟨cs,f,a⟩:=a;exact h.same n (λi o e=>by
  subst e;obtain⟨p,q,l⟩:=h.tag o;rw[a] at l
  cases l
  exact m rfl)
def pI {a b:Type}(w X:K)(T:N)(k:I)(enc:b->C J)(sl:a->Sl)(xs:C a)(d:C (C b)):Prop:=
 xs.length=d.length/\∀(i:I)(x:a)(L:C b),xs[i]?=H x->d[i]?=H L->jT w X T k enc (sl x) L
section
variable {α β:Type}{w X Y:K}{T:N}{k:I}{enc:β->C J}{sl:α->Sl}{xs:C α}{Ls:C (C β)}
theorem pI.same (h:pI w X T k enc sl xs Ls){g:I}{cs:Array J}{a:I × I}(b:X.1[g]?=H (.cells cs t a))(d:T≠t)(e:Same (λi=>i≠g) X Y):pI w Y T k enc sl xs Ls:=
 ⟨h.1,λi x L f l=>(h.2 i x L f l).same b d e⟩
theorem pI.below (h:pI w X T k enc sl xs Ls)(a:Below X.1.size X Y):pI w Y T k enc sl xs Ls:=⟨h.1,λi x L b d=>(h.2 i x L b d).below a⟩
theorem pI.set (h:pI w X T k enc sl xs Ls){i:I}{y:α}{b:C β}(f:Ls[i]?=H b)(l:jT w X T k enc (sl y) b):pI w X T k enc sl (xs.set i y) Ls:=by
 refine⟨by rw[yJ];exact h.1,λj x d a e=>?_⟩;rw[List.getElem?_set] at a
 split at a
 .grind
 .exact h.2 j x d a e
theorem pI.rows [hc:Cells enc k](h:pI w X T k enc sl xs Ls)(e:Below w.1.size w X)(i:I)(x:α)(a:xs[i]?=H x):∃b,Ls[i]?=H b/\Row X k enc (sl x).a (sl x).n (sl x).c b:=by
 have d:i<Ls.length:=by rw[<-h.1];exact(bq.1 a).1
 exact⟨Ls[i],dM d,(h.2 i x _ a (dM d)).row e⟩
end
@[reducible] def EvC.sl (x:EvC):Sl:=⟨x.sa,x.sn,x.sc⟩
@[reducible] def aO.sl (x:aO):Sl:=⟨x.sa,x.sn,x.sc⟩
@[reducible] def aP.sl (x:aP):Sl:=⟨x.sa,x.sn,x.sc⟩
@[reducible] def EvC.wi (x:EvC)(s:Sl):EvC:={x with sa:=s.a,sn:=s.n,sc:=s.c}
@[reducible] def aO.wi (x:aO)(s:Sl):aO:={x with sa:=s.a,sn:=s.n,sc:=s.c}
@[reducible] def aP.wi (x:aP)(s:Sl):aP:={x with sa:=s.a,sn:=s.n,sc:=s.c}
def EvC.base (x:EvC):EvC:=x.wi ⟨G,0,0⟩
def aO.base (x:aO):aO:=x.wi ⟨G,0,0⟩
def aP.base (x:aP):aP:=x.wi ⟨G,0,0⟩
theorem vC {a γ:Type}{f:a->γ}{xs:C a}{i:I}{x y:a}(b:xs[i]?=H x)(d:f y=f x):(xs.set i y).map f=xs.map f:=by
 apply yK
 grind
structure Cont where
 nl:I->C Bs
 E:C EvC
 SE:C (C Sn)
 D:C aO
 SD:C (C Int)
 M:C aP
 SM:C (C Int)
 Q:C Wa
structure St (w X:K)(h:HC)(es:C EvC)(ds:C aO)(ms:C aP)(c:Cont):Prop where
 b:Below w.1.size w X
 bx:Bx X w.1.size (aI h)
 tg:∃cs fz,X.1[w.1.size]?=H (.cells cs 41 fz)
 b2:Bx X (w.1.size+1) (Array.replicate 8 (.slice G 0 0))
 t2:∃cs fz,X.1[w.1.size+1]?=H (.cells cs 41 fz)
 e:jT w X 50 9 dK h.e es
 d:jT w X 65 2 dU h.d ds
 m:jT w X 67 4 dV h.m ms
 q:jT w X 69 2 eY h.w c.Q
 n:∀i,i<4->jT w X 9 1 encStr (h.nm i) (c.nl i)
 be:es.map EvC.base=c.E
 bd:ds.map aO.base=c.D
 bm:ms.map aP.base=c.M
 se:pI w X 148 3 bI EvC.sl es c.SE
 sd:pI w X 3 1 aQ aO.sl ds c.SD
 sm:pI w X 3 1 aQ aP.sl ms c.SM
section
variable {w X Y:K}{h:HC}{es:C EvC}{ds:C aO}{ms:C aP}{c:Cont}
theorem St.below (s:St w X h es ds ms c)(a:Below X.1.size X Y):St w Y h es ds ms c:=by
 obtain⟨cs,b,d⟩:=s.tg;obtain⟨e,f,l⟩:=s.t2;exact⟨s.b.trans (a.mono s.b.size),s.bx.keep a,⟨cs,b,(a.block _ s.bx.2.2).trans d⟩,s.b2.keep a,⟨e,f,(a.block _ s.b2.2.2).trans l⟩,s.e.below a,s.d.below a,s.m.below a,s.q.below a,λi m=>(s.n i m).below a,s.be,s.bd,s.bm,s.se.below a,s.sd.below a,s.sm.below a⟩
theorem St.drew (s:St w X h es ds ms c):St w X.drew h es ds ms c:=s.below (Below.refl _ _).drew
theorem sameBox (_s:St w X h es ds ms c)(j:I)(v:J):Same (λi=>i≠w.1.size) X (X.setCell ⟨w.1.size,j,G⟩ v):=(Same.refl' X).setTail (λa=>a rfl)
theorem nS (s:St w X h es ds ms c)(j:I)(v:J):Below w.1.size w (X.setCell ⟨w.1.size,j,G⟩ v):=(sameBox s j v).below s.b (λi a=>by omega) s.b.size
theorem St.Xv (s:St w X h es ds ms c)(sl:Sl)(d:C EvC){E' Xe}(f:jT w X 50 9 dK sl d)(l:d.map EvC.base=E')(m:pI w X 148 3 bI EvC.sl d Xe):
  St w (X.setCell ⟨w.1.size,4,G⟩ sl.v) {h with e:=sl} d ds ms {c with E:=E',SE:=Xe}:=by
 obtain⟨cs,o,b⟩:=s.tg;have a:=sameBox s 4 sl.v;exact⟨nS s _ _,s.bx.aX 4 ak _,⟨_,_,fZ b _⟩,a.bx s.b2 ah,⟨_,_,(a.block _ ah s.b2.2.2).trans s.t2.choose_spec.choose_spec⟩,f.same b aj a,s.d.same b aj a,s.m.same b aj a,s.q.same b aj a,λi n=>(show jT w X 9 1 encStr (({h with e:=sl}:HC).nm i) (c.nl i) from(match i,n with|0,_=>s.n 0 aj|1,_=>s.n 1 aj|2,_=>s.n 2 aj|3,_=>s.n 3 aj)).same b aj a,l,s.bd,s.bm,m.same b aj a,s.sd.same b aj a,s.sm.same b aj a⟩
theorem St.Nv (s:St w X h es ds ms c){g i:I}{x:EvC}{L}(d:Own X w.1.size 50 9 dK h.e.v es)(ha:h.e.a=H ⟨g,0,G⟩)(n:es[i]?=H x)(t:c.SE[i]?=H L)(sl:Sl)(u:jT w X 148 3 bI sl L):
  St w (X.setCell ⟨g,i*9+8,G⟩ sl.v) h (es.set i (x.wi sl)) ds ms c/\Own (X.setCell ⟨g,i*9+8,G⟩ sl.v) w.1.size 50 9 dK h.e.v (es.set i (x.wi sl)):=by
 have o:h.e.v.ownBlock=H g:=by simp only[Sl.v,ha];rfl
 obtain⟨cs,A,b⟩:=d.tag o;have E:=d.lt g o;have a:Same (λi=>i≠g) X (X.setCell ⟨g,i*9+8,G⟩ sl.v):=(Same.refl' X).setTail (λv=>v rfl);have p:Own (X.setCell ⟨g,i*9+8,G⟩ sl.v) w.1.size 50 9 dK h.e.v (es.set i (x.wi sl)):=by
  have e:h.e.v= .slice (H ⟨g,0,G⟩) h.e.n h.e.c:=by simp only[Sl.v,ha]
  rw[e] at d ⊢;exact d.put n aj rfl
 obtain⟨F,P,l⟩:=s.tg;have q:w.1.size≠g:=λe=>by
  rw[e,b] at l
  cases l
 obtain⟨Q,S,m⟩:=s.t2;have r:w.1.size+1≠g:=λe=>by
  rw[e,b] at m
  cases m
 exact⟨⟨a.below s.b (λi Z=>by omega) s.b.size,a.bx s.bx q,⟨_,_,(a.block _ q s.bx.2.2).trans l⟩,a.bx s.b2 r,⟨_,_,(a.block _ r s.b2.2.2).trans m⟩,⟨by rw[yJ];exact s.e.1,.inr p⟩,s.d.same b aj a,s.m.same b aj a,s.q.same b aj a,λj z=>(s.n j z).same b aj a,(vC (f:=EvC.base) (y:=x.wi sl) n rfl).trans s.be,s.bd,s.bm,(s.se.same b aj a).set t (u.same b aj a),s.sd.same b aj a,s.sm.same b aj a⟩,p⟩
theorem St.Xw (s:St w X h es ds ms c)(sl:Sl)(e:C aO){D' Xf}(f:jT w X 65 2 dU sl e)(l:e.map aO.base=D')(m:pI w X 3 1 aQ aO.sl e Xf):
  St w (X.setCell ⟨w.1.size,5,G⟩ sl.v) {h with d:=sl} es e ms {c with D:=D',SD:=Xf}:=by
 obtain⟨cs,o,b⟩:=s.tg;have a:=sameBox s 5 sl.v;exact⟨nS s _ _,s.bx.aX 5 ak _,⟨_,_,fZ b _⟩,a.bx s.b2 ah,⟨_,_,(a.block _ ah s.b2.2.2).trans s.t2.choose_spec.choose_spec⟩,s.e.same b aj a,f.same b aj a,s.m.same b aj a,s.q.same b aj a,λi n=>(show jT w X 9 1 encStr (({h with d:=sl}:HC).nm i) (c.nl i) from(match i,n with|0,_=>s.n 0 aj|1,_=>s.n 1 aj|2,_=>s.n 2 aj|3,_=>s.n 3 aj)).same b aj a,s.be,l,s.bm,s.se.same b aj a,m.same b aj a,s.sm.same b aj a⟩
theorem St.Nw (s:St w X h es ds ms c){g i:I}{x:aO}{L}(d:Own X w.1.size 65 2 dU h.d.v ds)(ha:h.d.a=H ⟨g,0,G⟩)(n:ds[i]?=H x)(t:c.SD[i]?=H L)(sl:Sl)(u:jT w X 3 1 aQ sl L):
  St w (X.setCell ⟨g,i*2+1,G⟩ sl.v) h es (ds.set i (x.wi sl)) ms c/\Own (X.setCell ⟨g,i*2+1,G⟩ sl.v) w.1.size 65 2 dU h.d.v (ds.set i (x.wi sl)):=by
 have o:h.d.v.ownBlock=H g:=by simp only[Sl.v,ha];rfl
 obtain⟨cs,A,b⟩:=d.tag o;have E:=d.lt g o;have a:Same (λi=>i≠g) X (X.setCell ⟨g,i*2+1,G⟩ sl.v):=(Same.refl' X).setTail (λv=>v rfl);have p:Own (X.setCell ⟨g,i*2+1,G⟩ sl.v) w.1.size 65 2 dU h.d.v (ds.set i (x.wi sl)):=by
  have e:h.d.v= .slice (H ⟨g,0,G⟩) h.d.n h.d.c:=by simp only[Sl.v,ha]
  rw[e] at d ⊢;exact d.put n aj rfl
 obtain⟨F,P,l⟩:=s.tg;have q:w.1.size≠g:=λe=>by
  rw[e,b] at l
  cases l
 obtain⟨Q,S,m⟩:=s.t2;have r:w.1.size+1≠g:=λe=>by
  rw[e,b] at m
  cases m
 exact⟨⟨a.below s.b (λi Z=>by omega) s.b.size,a.bx s.bx q,⟨_,_,(a.block _ q s.bx.2.2).trans l⟩,a.bx s.b2 r,⟨_,_,(a.block _ r s.b2.2.2).trans m⟩,s.e.same b aj a,⟨by rw[yJ];exact s.d.1,.inr p⟩,s.m.same b aj a,s.q.same b aj a,λj z=>(s.n j z).same b aj a,s.be,(vC (f:=aO.base) (y:=x.wi sl) n rfl).trans s.bd,s.bm,s.se.same b aj a,(s.sd.same b aj a).set t (u.same b aj a),s.sm.same b aj a⟩,p⟩
theorem St.Xx (s:St w X h es ds ms c)(sl:Sl)(d:C aP){M' Xg}(e:jT w X 67 4 dV sl d)(f:d.map aP.base=M')(l:pI w X 3 1 aQ aP.sl d Xg):
  St w (X.setCell ⟨w.1.size,6,G⟩ sl.v) {h with m:=sl} es ds d {c with M:=M',SM:=Xg}:=by
 obtain⟨cs,o,b⟩:=s.tg;have a:=sameBox s 6 sl.v;exact⟨nS s _ _,s.bx.aX 6 ak _,⟨_,_,fZ b _⟩,a.bx s.b2 ah,⟨_,_,(a.block _ ah s.b2.2.2).trans s.t2.choose_spec.choose_spec⟩,s.e.same b aj a,s.d.same b aj a,e.same b aj a,s.q.same b aj a,λi n=>(show jT w X 9 1 encStr (({h with m:=sl}:HC).nm i) (c.nl i) from(match i,n with|0,_=>s.n 0 aj|1,_=>s.n 1 aj|2,_=>s.n 2 aj|3,_=>s.n 3 aj)).same b aj a,s.be,s.bd,f,s.se.same b aj a,s.sd.same b aj a,l.same b aj a⟩
theorem St.Ny (s:St w X h es ds ms c){g i:I}{x:aP}{L}(d:Own X w.1.size 67 4 dV h.m.v ms)(ha:h.m.a=H ⟨g,0,G⟩)(n:ms[i]?=H x)(t:c.SM[i]?=H L)(sl:Sl)(u:jT w X 3 1 aQ sl L):
  St w (X.setCell ⟨g,i*4+3,G⟩ sl.v) h es ds (ms.set i (x.wi sl)) c/\Own (X.setCell ⟨g,i*4+3,G⟩ sl.v) w.1.size 67 4 dV h.m.v (ms.set i (x.wi sl)):=by
 have o:h.m.v.ownBlock=H g:=by simp only[Sl.v,ha];rfl
 obtain⟨cs,A,b⟩:=d.tag o;have E:=d.lt g o;have a:Same (λi=>i≠g) X (X.setCell ⟨g,i*4+3,G⟩ sl.v):=(Same.refl' X).setTail (λv=>v rfl);have p:Own (X.setCell ⟨g,i*4+3,G⟩ sl.v) w.1.size 67 4 dV h.m.v (ms.set i (x.wi sl)):=by
  have e:h.m.v= .slice (H ⟨g,0,G⟩) h.m.n h.m.c:=by simp only[Sl.v,ha]
  rw[e] at d ⊢;exact d.put n aj rfl
 obtain⟨F,P,l⟩:=s.tg;have q:w.1.size≠g:=λe=>by
  rw[e,b] at l
  cases l
 obtain⟨Q,S,m⟩:=s.t2;have r:w.1.size+1≠g:=λe=>by
  rw[e,b] at m
  cases m
 exact⟨⟨a.below s.b (λi Z=>by omega) s.b.size,a.bx s.bx q,⟨_,_,(a.block _ q s.bx.2.2).trans l⟩,a.bx s.b2 r,⟨_,_,(a.block _ r s.b2.2.2).trans m⟩,s.e.same b aj a,s.d.same b aj a,⟨by rw[yJ];exact s.m.1,.inr p⟩,s.q.same b aj a,λj z=>(s.n j z).same b aj a,s.be,s.bd,(vC (f:=aP.base) (y:=x.wi sl) n rfl).trans s.bm,s.se.same b aj a,s.sd.same b aj a,(s.sm.same b aj a).set t (u.same b aj a)⟩,p⟩
theorem St.Xy (s:St w X h es ds ms c)(sl:Sl){Q'}(d:jT w X 69 2 eY sl Q'):
  St w (X.setCell ⟨w.1.size,7,G⟩ sl.v) {h with w:=sl} es ds ms {c with Q:=Q'}:=by
 obtain⟨cs,f,b⟩:=s.tg;have a:=sameBox s 7 sl.v;exact⟨nS s _ _,s.bx.aX 7 ak _,⟨_,_,fZ b _⟩,a.bx s.b2 ah,⟨_,_,(a.block _ ah s.b2.2.2).trans s.t2.choose_spec.choose_spec⟩,s.e.same b aj a,s.d.same b aj a,s.m.same b aj a,d.same b aj a,λi e=>(show jT w X 9 1 encStr (({h with w:=sl}:HC).nm i) (c.nl i) from(match i,e with|0,_=>s.n 0 aj|1,_=>s.n 1 aj|2,_=>s.n 2 aj|3,_=>s.n 3 aj)).same b aj a,s.be,s.bd,s.bm,s.se.same b aj a,s.sd.same b aj a,s.sm.same b aj a⟩
theorem St.V3 (s:St w X h es ds ms c)(sl:Sl)(d:jT w X 9 1 encStr sl (c.nl 0)):
  St w (X.setCell ⟨w.1.size,0,G⟩ sl.v) {h with t:=sl} es ds ms c:=by
 obtain⟨cs,f,b⟩:=s.tg;have a:=sameBox s 0 sl.v;exact⟨nS s _ _,s.bx.aX 0 ak _,⟨_,_,fZ b _⟩,a.bx s.b2 ah,⟨_,_,(a.block _ ah s.b2.2.2).trans s.t2.choose_spec.choose_spec⟩,s.e.same b aj a,s.d.same b aj a,s.m.same b aj a,s.q.same b aj a,λi e=>(show jT w X 9 1 encStr (({h with t:=sl}:HC).nm i) (c.nl i) from(match i,e with|0,_=>d|1,_=>s.n 1 aj|2,_=>s.n 2 aj|3,_=>s.n 3 aj)).same b aj a,s.be,s.bd,s.bm,s.se.same b aj a,s.sd.same b aj a,s.sm.same b aj a⟩
theorem St.V5 (s:St w X h es ds ms c)(sl:Sl)(d:jT w X 9 1 encStr sl (c.nl 1)):
  St w (X.setCell ⟨w.1.size,1,G⟩ sl.v) {h with s:=sl} es ds ms c:=by
 obtain⟨cs,f,b⟩:=s.tg;have a:=sameBox s 1 sl.v;exact⟨nS s _ _,s.bx.aX 1 ak _,⟨_,_,fZ b _⟩,a.bx s.b2 ah,⟨_,_,(a.block _ ah s.b2.2.2).trans s.t2.choose_spec.choose_spec⟩,s.e.same b aj a,s.d.same b aj a,s.m.same b aj a,s.q.same b aj a,λi e=>(show jT w X 9 1 encStr (({h with s:=sl}:HC).nm i) (c.nl i) from(match i,e with|0,_=>s.n 0 aj|1,_=>d|2,_=>s.n 2 aj|3,_=>s.n 3 aj)).same b aj a,s.be,s.bd,s.bm,s.se.same b aj a,s.sd.same b aj a,s.sm.same b aj a⟩
theorem St.V6 (s:St w X h es ds ms c)(sl:Sl)(d:jT w X 9 1 encStr sl (c.nl 2)):
  St w (X.setCell ⟨w.1.size,2,G⟩ sl.v) {h with o:=sl} es ds ms c:=by
 obtain⟨cs,f,b⟩:=s.tg;have a:=sameBox s 2 sl.v;exact⟨nS s _ _,s.bx.aX 2 ak _,⟨_,_,fZ b _⟩,a.bx s.b2 ah,⟨_,_,(a.block _ ah s.b2.2.2).trans s.t2.choose_spec.choose_spec⟩,s.e.same b aj a,s.d.same b aj a,s.m.same b aj a,s.q.same b aj a,λi e=>(show jT w X 9 1 encStr (({h with o:=sl}:HC).nm i) (c.nl i) from(match i,e with|0,_=>s.n 0 aj|1,_=>s.n 1 aj|2,_=>d|3,_=>s.n 3 aj)).same b aj a,s.be,s.bd,s.bm,s.se.same b aj a,s.sd.same b aj a,s.sm.same b aj a⟩
theorem St.V7 (s:St w X h es ds ms c)(sl:Sl)(d:jT w X 9 1 encStr sl (c.nl 3)):
  St w (X.setCell ⟨w.1.size,3,G⟩ sl.v) {h with p:=sl} es ds ms c:=by
 obtain⟨cs,f,b⟩:=s.tg;have a:=sameBox s 3 sl.v;exact⟨nS s _ _,s.bx.aX 3 ak _,⟨_,_,fZ b _⟩,a.bx s.b2 ah,⟨_,_,(a.block _ ah s.b2.2.2).trans s.t2.choose_spec.choose_spec⟩,s.e.same b aj a,s.d.same b aj a,s.m.same b aj a,s.q.same b aj a,λi e=>(show jT w X 9 1 encStr (({h with p:=sl}:HC).nm i) (c.nl i) from(match i,e with|0,_=>s.n 0 aj|1,_=>s.n 1 aj|2,_=>s.n 2 aj|3,_=>d)).same b aj a,s.be,s.bd,s.bm,s.se.same b aj a,s.sd.same b aj a,s.sm.same b aj a⟩
end
theorem xJ {d:Type}{X:K}{k:I}{enc:d->C J}[hc:Cells enc k](e:∀x y,enc x=enc y->x=y){c:I}{b:C d}(h:Row X k enc a n c b):O (λb=>Row X k enc a n c b)=b:=
 Row.uniq (hc:=hc) e (Classical.epsilon_spec ⟨b,h⟩) h
theorem Ck (x y:Sn)(h:bI x=bI y):x=y:=by
 obtain⟨a,b,c⟩:=x;obtain⟨d,e,f⟩:=y
 grind [bI]
theorem rM (x y:Int)(h:aQ x=aQ y):x=y:=by grind [aQ]
theorem pI.TB {d e:Type}{w X:K}{T:N}{k:I}{enc:e->C J}[hc:Cells enc k]{sl:d->Sl}{xs:C d}{f:C (C e)}(o:∀x y,enc x=enc y->x=y)(h:pI w X T k enc sl xs f)(l:Below w.1.size w X):
  (∀x∈xs,Row X k enc (sl x).a (sl x).n (sl x).c (O (λa=>Row X k enc (sl x).a (sl x).n (sl x).c a)))/\xs.map (λx=>O (λa=>Row X k enc (sl x).a (sl x).n (sl x).c a))=f:=by
 constructor
 .intro x b
  obtain⟨i,m⟩:=qi.1 b;obtain⟨a,_,n⟩:=h.rows (hc:=hc) l i x m
  grind [xJ]
 .apply yK
  intro i;rw[kY]
  cases b:xs[i]? with
  |none=>rw[Option.map_none,wG (by rw[<-h.1];exact List.getElem?_eq_none_iff.1 b)]
  |some x=>
   obtain⟨a,p,n⟩:=h.rows (hc:=hc) l i x b
   grind [xJ]
def Xz (w:K)(c:Cont)(e:Ending)(X:K):Prop:=
 ∃h es ds ms,∃a:EvC->C Sn,∃b:aO->C Int,∃d:aP->C Int,e= .returned (fB h)/\Deep X h es ds ms c.Q a b d/\(∀i,i<4->Row X 1 encStr (h.nm i).a (h.nm i).n (h.nm i).c (c.nl i))/\
  es.map EvC.base=c.E/\ds.map aO.base=c.D/\ms.map aP.base=c.M/\es.map a=c.SE/\ds.map b=c.SD/\ms.map d=c.SM/\Below w.1.size w X
section
variable {w X Y:K}{h:HC}{es:C EvC}{ds:C aO}{ms:C aP}{c:Cont}
theorem St.cast {c':Cont}(s:St w X h es ds ms c)(e:c=c'):St w X h es ds ms c':=e▸s
end
theorem St.ret {w X:K}{h:HC}{E:C EvC}{a:C aO}{b:C aP}{c:Cont}(s:St w X h E a b c):Xz w c (.returned (fB h)) X:=by
 obtain⟨d,e⟩:=s.se.TB (hc:=lK) Ck s.b;obtain⟨f,l⟩:=s.sd.TB (hc:=fA) rM s.b;obtain⟨m,n⟩:=s.sm.TB (hc:=fA) rM s.b;exact⟨h,E,a,b,_,_,_,rfl,⟨s.e.row (hc:=oG) s.b,s.d.row (hc:=pX) s.b,s.m.row (hc:=nG) s.b,s.q.row (hc:=qH) s.b,d,f,m⟩,λi o=>(s.n i o).row (hc:=gy) s.b,s.be,s.bd,s.bm,e,l,n,s.b⟩
theorem pI.start {b d:Type}{w X:K}{T:N}{k:I}{enc:d->C J}{sl:b->Sl}{xs:C b}(f:b->C d)(h:∀x∈xs,(f x).length<=2000000/\Row w k enc (sl x).a (sl x).n (sl x).c (f x)):pI w X T k enc sl xs (xs.map f):=by
 refine⟨by rw[bC],λi x L e a=>?_⟩;rw[kY,e] at a;injection a with a;subst a;have:=h x (bS e);exact⟨this.1,.inl this.2⟩
def EH (nl:I->C Bs)(a:C EvC)(b:C aO)(d:C aP)(e:C Wa)(f:EvC->C Sn)(l:aO->C Int)(m:aP->C Int):Prop:=
 a.length<=2000000/\b.length<=2000000/\d.length<=2000000/\e.length<=2000000/\(∀i,i<4->(nl i).length<=2000000)/\(∀x∈a,(f x).length<=2000000)/\(∀x∈b,(l x).length<=2000000)/\(∀x∈d,(m x).length<=2000000)
def uj (m:I)(nl:I->C Bs)(a:C EvC)(b:C aO)(d:C aP)(e:C Wa)(f:EvC->C Sn)(l:aO->C Int)(n:aP->C Int):Cont:=
 ⟨nl,(a.take m).map EvC.base,(a.take m).map f,b.map aO.base,b.map l,d.map aP.base,d.map n,e⟩
theorem St.start {h:HC}{nl:I->C Bs}{E:C EvC}{d:C aO}{e:C aP}{o:C Wa}{f:EvC->C Sn}{l:aO->C Int}{n:aP->C Int}{w:K}(r:∀i,i<4->Row w 1 encStr (h.nm i).a (h.nm i).n (h.nm i).c (nl i))
  (a:Deep w h E d e o f l n) (t:EH nl E d e o f l n) (m:I) (S:h.e.n<=m):
  St w ((w.alloc (.cells (aI h) 41)).alloc (.cells (Array.replicate 8 (.slice G 0 0)) 41)) h E d e (uj m nl E d e o f l n):=by
 obtain⟨u,v,y,z,A,F,P,Q⟩:=t;have Z:=a.1.len;have p:E.take m=E:=eF ah;refine⟨aB (aB (Below.refl w.1.size w) _) _,Bx.alloc (Bx.new w (aI h) 41) _,⟨_,_,V8 _ (nR w _)⟩,Bx.new1 ak,⟨_,_,V9 ak⟩,⟨u,.inl a.1⟩,⟨v,.inl a.2.1⟩,⟨y,.inl a.2.2.1⟩,⟨z,.inl a.2.2.2.1⟩,λi q=>⟨A i q,.inl (r i q)⟩,?_,rfl,rfl,?_,pI.start l (λx b=>⟨P x b,a.2.2.2.2.2.1 x b⟩),pI.start n (λx b=>⟨Q x b,a.2.2.2.2.2.2 x b⟩)⟩
 .simp only[uj,p]
 .simp only[uj,p]
  exact pI.start f (λx b=>⟨F x b,a.2.2.2.2.1 x b⟩)
theorem Own.open_ {e:Type}{enc:e->C J}{k:I}[hc:Cells enc k]{X:K}{B:I}{c:I}{xs:C e}(h:Own X B t k enc (.slice a n c) xs)(z:0<n):
  ∃g b,a=H ⟨g,0,G⟩/\Bx X g b/\xs.length=n/\n<=c/\B<=g/\(∀i x j v,xs[i]?=H x->(enc x)[j]?=H v->b[i*k+j]?=H v):=by
 obtain⟨A,l⟩:=h;rcases l with⟨f,E⟩|⟨g,F,b,f,m,d,o,_,P,Q⟩
 .grind
 .injection f with p q r
  subst p q r;refine⟨g,b,rfl,⟨λi=>?_,λi=>?_,(fH.1 d).1⟩,rfl,o,m,λi x j v u y=>?_⟩
  .simp[World.cell?,d]
  .simp[World.frozen?,d]
  .have S:=flat_get (hc:=hc) xs i x j v u y
   grind
end Yd
namespace Yd
open Go Go.RowKit Go.Proofs Go.ChangeShapes Go.WideShapes Go.ChangeAt
open Go.Proofs.YtiheclemhihpeaaGreatDoor.Rows (uptoBulk uptoBulkAll)
section
variable {H:Type}{enc:TypeId × Value->H}{w:World}{base:Nat}{spare:Nat->Bool}{held:Bool}
theorem Nz {d:DataW H}{l:List (DataW H)}(h:d∈l):uptoBulk d<=uptoBulkAll l:=by
 induction l with
 |nil=>cases h
 |cons x r a=>
  simp only[uptoBulkAll]
  cases dP.1 h with
  |inl e=>subst e;omega
  |inr e=>have:=a e;omega
theorem NA (d:DataW H):1<=uptoBulk d:=by
 cases d with
 |lit l=>cases l <;> simp[uptoBulk]
 |nil=>simp[uptoBulk]
 |ptr d=>simp[uptoBulk]
 |slice a spare=>simp[uptoBulk]
 |agg parts=>simp[uptoBulk]
 |iface t d=>simp[uptoBulk]
 |map entries=>simp[uptoBulk]
 |held h=>simp[uptoBulk]
theorem NC (l:List (DataW H)):l.length<=uptoBulkAll l:=by
 induction l with
 |nil=>simp[uptoBulkAll]
 |cons x r a=>have:=NA x;simp only[uptoBulkAll,iC];omega
def TD {a:Type}(enc:TypeId × Value->H)(w:World)(b:Nat)(d:Nat->Bool)(f:Bool)(N:Nat)(e:TypeId)(l:a->List Value)(Q:a->Prop):Prop:=
 ∀n cs y,DataW.trod enc Tryz.prog w b d f n e cs=some y->uptoBulk y.1<=N->∃x,cs=l x/\Q x
theorem DY {b:Type}{p:Nat->b->Prop}:∀(m:Nat),(∀i,i<m->∃x,p i x)->∃xs:List b,xs.length=m/\∀i x,xs[i]?=some x->p i x
 |0,_=>⟨[],rfl,λi x h=>by simp at h⟩
 |m+1,h=>by
  obtain⟨xs,d,l⟩:=DY m (λi e=>h i ah);obtain⟨x,n⟩:=h m ah;refine⟨xs++[x],by simp[d],λi y a=>?_⟩;rcases jk i m with e|e
  .rw[uM ah] at a
   exact l i y a
  .rw[su ah,d] at a
   have:i=m:=by
    rcases jk (i - m) 1 with f|f
    .omega
    .rw[wG (by simpa using f)] at a;cases a
   subst this;simp at a;subst a;exact n
theorem KR {w:World}{a:Addr}{v:Value}(h:w.cell? a=some v):a.spot=none:=by
 unfold World.cell? at h
 split at h
 .split at h
  .cases h
  .rename_i b
   cases d:a.spot with
   |none=>rfl
   |some x=>rw[d] at b;exact absurd rfl b
 .cases h
theorem Jm {r:Type}{F:r->List Value}{k:Nat}[hc:Cells F k]{t e:TypeId}{Q:r->Prop}{N:Nat}(Z:N<=140737488355328)(ht:Tryz.prog.underlying t=some (.slice e))(A:Tryz.prog.cellsOf e=k)(hr:TD enc w base spare held N e F Q)
  {n:Nat} {cs:List Value} {y:DataW H × List MemPlace} (h:DataW.trod enc Tryz.prog w base spare held n t cs=some y) (hb:uptoBulk y.1<=N):
  ∃s:Sl,∃xs:List r,cs=[s.v]/\Row w k F s.a s.n s.c xs/\xs.length<=N/\∀x∈xs,Q x:=by
 rcases DataW.trod_slice ht h with⟨rfl,rfl⟩|⟨a,u,γ,E,ξ,n',rfl,rfl,rfl,ο,hl,hm,δ,ε,_,_⟩
 .exact⟨⟨none,0,0⟩,[],rfl,Row.eH,aS _,λx d=>by cases d⟩
 .have ζ:uptoBulkAll (E.map (·.1))<=N:=by simp only[uptoBulk] at hb;omega
  have η:u<=N:=by
   have:=NC (E.map (·.1));rw[bC,δ] at this;omega
  obtain⟨xs,θ,d⟩:=DY (p:=λi x=>(∀j v,(F x)[j]?=some v->w.cell? (a.add (i*k+j))=some v)/\Q x) u (λi f=>by
   have P:=ε i f;rw[dM ah] at P;obtain⟨π,h1,h2⟩:=Option.bind_eq_some_iff.1 P;obtain⟨x,rfl,hq⟩:=hr _ _ _ h2 (cO (Nz (eZ.2 ⟨_,List.getElem_mem ah,rfl⟩)) ζ);obtain⟨_,ρ,ι⟩:=World.cells?_some h1;refine⟨x,λj v l=>?_,hq⟩;have hj:j<k:=by have:=(bq.1 l).1;rw[hc.len] at this;exact this
   have:=ι j (by rw[A];exact hj);rw[Go.Deep.add_add,A,l] at this;exact this)
  refine⟨⟨some a,u,γ⟩,xs,rfl,⟨θ,hl,cO η Z,λh=>(by cases h),λi x S=>?_⟩,by omega,λx κ=>?_⟩
  .have f:i<xs.length:=(bq.1 S).1
   have m:a.spot=none:=by
    obtain⟨q,μ⟩:∃q,xs[0]?=some q:=⟨_,dM ah⟩;have hp:=hc.pos;obtain⟨z,ν⟩:∃z,(F q)[0]?=some z:=⟨_,dM (by rw[hc.len];exact hp)⟩;have:=(d 0 q μ).1 0 z ν;rw[Nat.zero_mul,bK] at this;exact KR this
   refine⟨a.block,a.off,by obtain⟨b,o,s⟩:=a;simp only at m;rw[m],λj v l=>?_⟩;have:=(d i x S).1 j v l;unfold Addr.add at this
   split at this
   .rename_i h0
    rw[show a.off+i*k+j=a.off by omega];obtain⟨b,o,s⟩:=a;simp only at m;rw[m] at this;exact this
   .rw[Nat.add_assoc];exact this
  .obtain⟨i,f⟩:=qi.1 κ
   exact(d i x f).2
variable {N:Nat}
theorem TF:TD enc w base spare held N 9 encStr (λ_=>True):=λn cs y h _=>by
 obtain⟨s,rfl,_,_⟩:=DataW.trod_string Tryz.underlying9 h;exact⟨s.data.toList,by simp[encStr],trivial⟩
theorem PL:Tryz.prog.cellsOf 3=1:=au
theorem Jo:Tryz.prog.cellsOf 9=1:=au
end
end Yd
namespace Yd
open Bool renaming false->B,true->D
open Go Go.RowKit Go.Proofs Tryz
open Below renaming refl->C
open Tryz renaming prog->I
open Utf8 renaming decode->c,valid->G,encode->H
open _root_ renaming ByteArray->j,Int->k
attribute [local go_sem] Oper.semAt_some
theorem uO (r:k)(w:World):Calls I 55 #[.int .i32 r] w (bT (.bool (fF r)) w):=by
 by_cases a:r=95
 .subst a
  go_enter func55,ntmps55;go_wp2_with fail;go_ret;exact⟨by simp[fF],C _ _⟩
 have m:(r==95)=B:=aN.2 a;by_cases b:97<=r <;> by_cases d:r<=122 <;> by_cases e:65<=r <;> by_cases f:r<=90 <;> by_cases l:128<=r
 all_goals first
  |(exfalso;omega)
  |(go_enter func55,ntmps55;go_wp2_with fail;go_ret;exact⟨by simp[fF,a,b,d,e,f,l],C _ _⟩)
theorem rO (r:k)(w:World):Calls I 53 #[.int .i32 r] w (bT (.bool (eu r)) w):=by
 by_cases a:48<=r <;> by_cases b:r<=57
 all_goals
  go_enter func53,ntmps53;go_wp2_with fail;go_ret;exact⟨by simp[eu,a,b],C _ _⟩
def sU (s:j):k:=if 0<s.size then(if okB s 0=D then((c s 0).1:k) else -1) else -1
def sV (s:j):k:=if 0<s.size then(if okB s 0=D then((c s 0).2:k) else 1) else 0
theorem Fp (w:World)(s:j)(a:TypeId)(h:0<s.size):
  (Instr.next (.pointer (some ⟨w.1.size,0,none⟩)) D a).run I (w.iter s 0)= .ok (.tuple #[.bool D,.int .i64 0,.int .i32 ((c s 0).1:k)]) (w.iter s (c s 0).2):=by
 simp only[Instr.next,getObj,setObj,Sem.run_bind,Sem.run,World.iter_heap,Result.andThen,h,dG,World.iter_set];simp[goInt]
theorem zw (s:j)(i:Nat):c s i=(65533,1)\/((c s i).1<128/\(c s i).2=1)\/(128<=(c s i).1/\(c s i).1<2048/\(c s i).2=2)\/
  (2048<=(c s i).1/\(c s i).1<65536/\G ((c s i).1:k)=D/\(c s i).2=3)\/(65536<=(c s i).1/\G ((c s i).1:k)=D/\(c s i).2=4):=by
 unfold c;simp only[];have a:=(s.get! (i+0)).toNat_lt
 split
 .right;left;simp;omega
 split
 .split
  .right;right;left;refine⟨by simpa using ‹_›,?_,rfl⟩;simp only[];omega
  .left;rfl
 split
 .split
  .rename_i h
   simp only[bD,bO,ge_iff_le] at h
   right;right;right;left;refine⟨h.1,?_,h.2,rfl⟩;simp only[];omega
  .left;rfl
 split
 .split
  .rename_i h
   simp only[bD,bO,ge_iff_le] at h
   right;right;right;right;exact⟨h.1,h.2,rfl⟩
  .left;rfl
 .left;rfl
theorem Fq {s:j}{i:Nat}(h:okB s i=D):(H ((c s i).1:k)).size=(c s i).2:=by
 unfold okB at h;rcases zw s i with e|⟨d,a⟩|⟨d,a,b⟩|⟨d,a,b,l⟩|⟨d,a,b⟩
 .rw[e] at h;simp at h
 .have f:G ((c s i).1:k)=D:=by simp[G];omega
  unfold H;simp only[f,dG,gF];rw[aA ah,a];rfl
 .have f:G ((c s i).1:k)=D:=by simp[G];omega
  unfold H;simp only[f,dG,gF];rw[ay ah,aA ah,b];rfl
 .unfold H
  simp only[b,dG,gF];rw[ay ah,ay ah,aA ah,l];rfl
 .unfold H
  simp only[a,dG,gF];rw[ay ah,ay ah,ay ah,b];rfl
theorem KS (s:j)(h:(c s 0).2=3):3<=s.size:=by
 unfold c at h;simp only[] at h
 split at h
 .simp at h
 split at h
 .split at h <;> simp at h
 split at h
 .rename_i g
  simp only[bD,bO] at g;omega
 split at h
 .split at h <;> simp at h
 .simp at h
theorem zx (s:j)(w:World):Calls I 52 #[.string s] w λe w'=>e= .returned (.tuple #[.int .i32 (sU s),.int .i64 (sV s)])/\Below w.1.size w w':=by
 by_cases d:0<s.size
 .obtain⟨r,f⟩:∃r:k,r=((c s 0).1:k):=⟨_,rfl⟩
  have u:=Fp w s 0 d;rw[<-f] at u;have n:Hid (Below w.1.size w (w.iter s (c s 0).2)):=hid ((C _ _).alloc (aC _) _);by_cases x:r=65533
  .subst x
   have m:(c s 0).1=65533:=by omega
   by_cases l:(c s 0).2=3
   .have y:=KS s l
    have z:=(ND s y m).1 l;have b:okB s 0=D:=by unfold okB;rw[m,l];decide
    have o:=Fq b;rw[<-f,l] at o;have a:Hid (sU s=65533/\sV s=3):=hid (by simp[sU,sV,d,b,m,l]);have S:¬((s.size:k)<3):=by omega
    clear f b m l d;go_enter func52,ntmps52;go_wp2_with fail
    go_loopw [3] (λv wr=>v= .int .i64 0/\wr=w.iter s 0) (λ_ _=>0)
    case atStart=>exact⟨rfl,rfl⟩
    case round=>
     obtain⟨rfl,rfl⟩:=hrel;go_wp2_with fail
     go_ret2
     refine⟨?_,n.q⟩;rw[a.q.1,a.q.2]
     rfl
   .have q:(c s 0).2=1:=by
     rcases zw s 0 with e|⟨t,p⟩|⟨t,p,A⟩|⟨t,p,A,Z⟩|⟨t,p,A⟩
     .rw[e]
     .exact p
     .omega
     .omega
     .omega
    have b:okB s 0=B:=by unfold okB;rw[m,q];decide
    have a:Hid (sU s= -1/\sV s=1):=hid (by simp[sU,sV,d,b]);by_cases y:(s.size:k)<3
    .skip
     clear f b m l q d;go_enter func52,ntmps52;go_wp2_with fail
     go_loopw [3] (λv wr=>v= .int .i64 0/\wr=w.iter s 0) (λ_ _=>0)
     case atStart=>exact⟨rfl,rfl⟩
     case round=>
      obtain⟨rfl,rfl⟩:=hrel;go_wp2_with fail
      go_ret2
      refine⟨?_,n.q⟩;rw[a.q.1,a.q.2]
      rfl
    .have z:¬s.extract 0 3=⟨#[239,191,189]⟩:=λe=>l ((ND s ah m).2 e)
     have F:3<=s.size:=by omega
     have γ:=QC s F z;clear f b m l q d;go_enter func52,ntmps52;go_wp2_with fail
     go_loopw [3] (λv wr=>v= .int .i64 0/\wr=w.iter s 0) (λ_ _=>0)
     case atStart=>exact⟨rfl,rfl⟩
     case round=>
      obtain⟨rfl,rfl⟩:=hrel;go_wp2_with fail
      go_ret2
      refine⟨?_,n.q⟩;rw[a.q.1,a.q.2]
      rfl
  .have P:(r==65533)=B:=aN.2 x
   have b:okB s 0=D:=by unfold okB;rw[<-f,P];rfl
   have o:=Fq b;rw[<-f] at o;have a:Hid (sU s=r/\sV s=((c s 0).2:k)):=hid (by simp[sU,sV,d,b,f]);have Q:=hid o;clear f b o d;go_enter func52,ntmps52;go_wp2_with fail
   go_loopw [3] (λv wr=>v= .int .i64 0/\wr=w.iter s 0) (λ_ _=>0)
   case atStart=>exact⟨rfl,rfl⟩
   case round=>
    obtain⟨rfl,rfl⟩:=hrel;go_wp2_with fail
    go_ret2
    refine⟨?_,n.q⟩;rw[a.q.1,a.q.2];rw[<-Q.q];rfl
 .have E:s.size=0:=by omega
  have u:(Instr.next (.pointer (some ⟨w.1.size,0,none⟩)) D 0).run I (w.iter s 0)= .ok (.tuple #[.bool B]) (w.iter s 0):=run_next_end w s 0 0 d;have a:Hid (sU s= -1/\sV s=0):=hid (by simp[sU,sV,E]);have n:Hid (Below w.1.size w (w.iter s 0)):=hid ((C _ _).alloc (aC _) _);clear E d;go_enter func52,ntmps52;go_wp2_with fail
  go_loopw [3] (λv wr=>v= .int .i64 0/\wr=w.iter s 0) (λ_ _=>0)
  case atStart=>exact⟨rfl,rfl⟩
  case round=>
   obtain⟨rfl,rfl⟩:=hrel;go_wp2_with fail
   go_ret2
   refine⟨?_,n.q⟩;rw[a.q.1,a.q.2]
   rfl
def DZ (s:j)(pos:Nat):Bool:=okB s pos && (fF ((c s pos).1:k)||(!decide (pos=0) && eu ((c s pos).1:k)))
def rW (s:j):Nat->Nat->Bool
 |0,_=>D
 |n+1,a=>if a<s.size then DZ s a && rW s n (a+(c s a).2) else D
def qj (s:j):Bool:=decide (0<s.size) && decide (s.size<=24) && rW s s.size 0
theorem Aq (s:j)(i:Nat):1<=(c s i).2/\(c s i).2<=4:=by
 rcases zw s i with e|⟨a,b⟩|⟨a,b,d⟩|⟨a,b,d,f⟩|⟨a,b,d⟩
 .rw[e];decide
 .omega
 .omega
 .omega
 .omega
theorem QD (s:j)(n pos:Nat)(h:s.size<=pos):rW s n pos=D:=by
 cases n with
 |zero=>rfl
 |succ n=>simp only[rW];rw[ay ah]
theorem QE (s:j)(pos:Nat):okB (s.extract pos s.size) 0=okB s pos:=by unfold okB;rw[Lib.tail_decode,bK]
theorem NE (s:j)(pos:Nat)(h:pos<s.size):sU (s.extract pos s.size)=(if okB s pos=D then((c s pos).1:k) else -1)/\sV (s.extract pos s.size)=(if okB s pos=D then((c s pos).2:k) else 1):=by
 have a:0<(s.extract pos s.size).size:=by rw[Lib.tail_size];omega
 unfold sU sV;rw[aA a,aA a,QE,Lib.tail_decode,bK];exact⟨rfl,rfl⟩
theorem Fu (s:j):∀(n i:Nat)(a:List UInt8),s.size - i=n->(ByteArray.toList.loop s i a).length=a.length+n
 |0,i,a,h=>by rw[ByteArray.toList.loop,ay ah];simp
 |n+1,i,a,h=>by rw[ByteArray.toList.loop,aA ah,Fu s n (i+1) _ ah];simp;omega
theorem yL (s:j):s.toList.length=s.size:=by
 unfold ByteArray.toList;rw[Fu s s.size 0 [] ah];simp
theorem Fv (s:j)(w:World):Calls I 80 #[.string s] w (bT (.bool (qj s)) w):=by
 by_cases h0:s.toList=[]
 .have v:¬0<s.size:=by rw[<-yL,h0];simp
  have q:qj s=B:=by simp[qj,v]
  rw[q];clear q v;go_enter func80,ntmps80;go_wp2_with fail;go_ret;exact⟨rfl,C _ _⟩
 have h1:s.toList.isEmpty=B:=by simp[h0]
 have hs:=zi s h0;by_cases η:(s.size:k)<=24
 .obtain⟨R,hR⟩:∃R:Bool,R=rW s s.size 0:=⟨_,rfl⟩
  have q:qj s=R:=by rw[qj,<-hR];simp[hs,show s.size<=24 by omega]
  rw[q];have HR:=hid hR;clear q hR;go_enter func80,ntmps80;go_wp2_with fail
  go_loopw [3] (λi wr=>∃a n:Nat,i= .int .i64 a/\a<=28/\s.size<=a+n/\R=rW s n a/\Below w.1.size w wr) (λi _=>40 - (RowKit.intOf i).toNat)
  case atStart=>exact⟨0,s.size,rfl,by decide,by omega,HR.q,C _ _⟩
  case round=>
   obtain⟨a,n,rfl,ι,hn,l,A⟩:=hrel;by_cases ζ:a<s.size
   .obtain⟨m,rfl⟩:∃m,n=m+1:=⟨n - 1,by omega⟩
    have κ:(a:k)<s.size:=by omega
    obtain⟨d,E⟩:∃d,d=(c s a).2:=⟨_,rfl⟩;obtain⟨d1,d4⟩:=Aq s a;rw[<-E] at d1 d4;simp only[rW] at l;rw[aA ζ,<-E] at l;obtain⟨o,p⟩:=NE s a ζ;have x:=hid A;have μ:(s.size:k) - a<=24:=by omega
    cases y:okB s a
    .have F:DZ s a=B:=by simp[DZ,y]
     rw[y] at o p;simp only[xw,ku] at o p;have b:Hid (R=B):=hid (by rw[l,F];rfl);have P:=hid (⟨o,p⟩:_/\_);clear l E o p y F A
     go_wp2_with (go_at_call 52;refine(zx _ _).mono ?_;rintro e w1 ⟨rfl,Q⟩;rw[P.q.1,P.q.2];have S:=hid (x.q.bL Q);clear Q)
     refine(uO _ _).mono ?_;rintro e w2 ⟨rfl,Z⟩;have f:=hid (S.q.bL Z);clear Z;rw[show fF (-1)=B from by decide];by_cases v:a=0
     .subst v
      go_wp2_with fail;go_ret;exact⟨by rw[b.q];rfl,f.q⟩
     .have θ:((a:k)==0)=B:=aN.2 ah
      go_wp2_with (go_at_call 53;refine(rO _ _).mono ?_;rintro e w3 ⟨rfl,t⟩;rw[show eu (-1)=B from by decide];have γ:=hid (f.q.bL t);clear t)
      go_ret;exact⟨by rw[b.q];rfl,γ.q⟩
    .rw[y] at o p
     simp only[dG] at o p;rw[<-E] at p;obtain⟨r,hr⟩:∃r:k,r=((c s a).1:k):=⟨_,rfl⟩;rw[<-hr] at o;have F:DZ s a=(fF r||(!decide (a=0) && eu r)):=by simp[DZ,y,hr]
     rw[F] at l;have P:=hid (⟨o,p⟩:_/\_);have δ:=hid l;clear l E o p y F A hr
     go_wp2_with (go_at_call 52;refine(zx _ _).mono ?_;rintro e w1 ⟨rfl,Q⟩;rw[P.q.1,P.q.2];have S:=hid (x.q.bL Q);clear Q)
     refine(uO _ _).mono ?_;rintro e w2 ⟨rfl,Z⟩;have f:=hid (S.q.bL Z);clear Z
     cases u:fF r
     .by_cases v:a=0
      .subst v
       have b:Hid (R=B):=hid (by rw[δ.q,u];simp);clear u;go_wp2_with fail;go_ret;exact⟨by rw[b.q];rfl,f.q⟩
      .have θ:((a:k)==0)=B:=aN.2 ah
       cases z:eu r
       .have b:Hid (R=B):=hid (by rw[δ.q,u,z];simp)
        have ε:=hid z;clear u z
        go_wp2_with (go_at_call 53;refine(rO _ _).mono ?_;rintro e w3 ⟨rfl,t⟩;rw[ε.q];have γ:=hid (f.q.bL t);clear t)
        go_ret;exact⟨by rw[b.q];rfl,γ.q⟩
       .have b:Hid (R=rW s m (a+d)):=hid (by rw[δ.q,u,z];simp[v])
        have ε:=hid z;clear u z
        go_wp2_with (go_at_call 53;refine(rO _ _).mono ?_;rintro e w3 ⟨rfl,t⟩;rw[ε.q];have γ:=hid (f.q.bL t);clear t)
        go_roundw
        case rel=>exact⟨a+d,m,by go_num,by omega,by omega,b.q,γ.q⟩
        case measure=>simp[RowKit.intOf];omega
     .have b:Hid (R=rW s m (a+d)):=hid (by rw[δ.q,u];simp)
      clear u;go_wp2_with fail;go_roundw
      case rel=>exact⟨a+d,m,by go_num,by omega,by omega,b.q,f.q⟩
      case measure=>simp[RowKit.intOf];omega
   .have ν:¬((a:k)<s.size):=by omega
    have b:Hid (R=D):=hid (by rw[l];exact QD s n a ah);have x:=hid A;clear l A;go_wp2_with fail;go_ret;exact⟨by rw[b.q];rfl,x.q⟩
 .have q:qj s=B:=by simp[qj,show ¬s.size<=24 by omega]
  rw[q];clear q;have ξ:24<(s.size:k):=by omega
  clear η;go_enter func80,ntmps80;go_wp2_with fail;go_ret;exact⟨rfl,C _ _⟩
theorem QF (s:j)(h:128<=(s.get! (0+0)).toNat):128<=(c s 0).1:=by
 unfold c;simp only[];rw[ay ah]
 split
 .split
  .simpa using ‹_›
  .decide
 split
 .split
  .rename_i g
   simp only[bD,bO,ge_iff_le] at g;simp only[];omega
  .decide
 split
 .split
  .rename_i g
   simp only[bD,bO,ge_iff_le] at g;simp only[];omega
  .decide
 .decide
theorem H9 (r:k):fF r=(!eu r && iA r):=by
 have h:fF r=D->eu r=B:=by
  simp only[fF,eu,tZ,bD,bO,Bool.and_eq_false_iff,decide_eq_false_iff_not];omega
 unfold iA
 cases a:fF r
 .cases eu r <;> rfl
 .rw[h a];rfl
theorem KT (s:j):∀(n pos:Nat),0<pos->rW s n pos=(bH s n pos).all (λp=>okB s p && iA ((c s p).1:k))
 |0,_,_=>rfl
 |n+1,pos,h=>by
  simp only[rW,bH]
  split
  .rw[List.all_cons,KT s n _ (by have:=Aq s pos;omega),DZ]
   simp[show pos≠0 by omega,iA]
  .rfl
theorem KU (s:j):∀(n pos:Nat),∀p∈bH s n pos,p<s.size
 |0,_,_,h=>by simp[bH] at h
 |n+1,pos,p,h=>by
  simp only[bH] at h
  split at h
  .rcases dP.1 h with rfl|h
   .assumption
   .exact KU s n _ p h
  .simp at h
theorem KV (s:j)(p:k->Bool):decide (gB s p=s.size)=(bH s s.size 0).all (λq=>okB s q && p ((c s q).1:k)):=by
 unfold gB
 cases a:(bH s s.size 0).find? (mE s p) with
 |none=>
  rw[List.find?_eq_none] at a;simp only[Option.getD_none,decide_true]
  symm
  rw[jW];intro q b;have:=a q b
  simpa[mE] using this
 |some q=>
  have b:=List.mem_of_find?_eq_some a;have d:=List.find?_some a;have e:=KU s _ _ q b;simp only[Option.getD_some];rw[show decide (q=s.size)=B from bn ah]
  symm
  rw[<-Bool.not_eq_true,jW];intro h;have:=h q b;unfold mE at d;rw[this] at d
  cases d
theorem Cm (s:j):qj s=bW s:=by
 unfold qj bW;rw[KV];have e:(!s.toList.isEmpty)=decide (0<s.size):=by
  rw[<-yL]
  cases s.toList <;> simp
 rw[e,show decide ((s.size:k)<=24)=decide (s.size<=24) from decide_eq_decide.2 ah];by_cases a:0<s.size
 .obtain⟨m,f⟩:∃m,s.size=m+1:=⟨s.size - 1,by omega⟩
  have l:rW s s.size 0=(!eu (sw s) && (bH s s.size 0).all (λq=>okB s q && iA ((c s q).1:k))):=by
   rw[f];simp only[rW,bH];rw[aA a,aA a,List.all_cons,KT s m _ (by have:=Aq s 0;omega)];have n:DZ s 0=(!eu (sw s) && (okB s 0 && iA ((c s 0).1:k))):=by
    have o:s.get! (0+0)=s[0]'a:=by
     show s.get! 0=_;simp[ByteArray.get!,getElem!_pos,a]
     rfl
    have t:=(s[0]'a).toNat_lt;have b:sw s=((s[0]'a).toNat:k):=by
     unfold sw;rw[dif_pos a];unfold wrap32;omega
    unfold DZ;simp only[decide_true,Bool.not_true,Bool.false_and,Bool.or_false];by_cases ha:(s[0]'a).toNat<128
    .have d:=decode_ascii s 0 a ha
     rw[d,b,H9];simp only[]
     cases okB s 0 <;> cases eu ((s[0]'a).toNat:k) <;> rfl
    .have d:=QF s (by rw[o];omega)
     have p:eu (sw s)=B:=by rw[b];simp[eu];omega
     have r:eu ((c s 0).1:k)=B:=by simp[eu];omega
     rw[p,H9,r]
     cases okB s 0 <;> rfl
   rw[n];simp only[vD]
  rw[l];simp only[vD]
 .simp[a]
end Yd
namespace Yd
open Option renaming some->I
open Go Go.RowKit Go.Proofs Tryz
open Go renaming Value->V
open Go.IntKind renaming i64->O
open Go.Obj renaming cells->G
open Go.Value renaming int->N,slice->U
open Yd renaming hid->J
open _root_ renaming List->C,Nat->H
def Cont.put (c:Cont)(i:H)(s:Bs):Cont:={c with nl:=λj=>if j=i then bV (c.nl i) s else c.nl j}
def Cont.no (c:Cont)(i:H)(s:Bs):Int:=(lQ (c.nl i) s:Int)
def Cont.bF (c:Cont)(v:To):Cont × je:=if v.k=0 then(c,⟨0,0⟩) else(c.put 0 v.name,⟨c.no 0 v.name,v.k⟩)
def Cont.ts (c:Cont):C Bs->Cont × C Int
 |[]=>(c,[])
 |s::r=>(((c.put 0 s).ts r).1,c.no 0 s::((c.put 0 s).ts r).2)
def Cont.sc (c:Cont):C (Bs × To)->Cont × C Sn
 |[]=>(c,[])
 |p::r=>((((c.put 2 p.1).bF p.2).1.sc r).1,⟨c.no 2 p.1,((c.put 2 p.1).bF p.2).2⟩::(((c.put 2 p.1).bF p.2).1.sc r).2)
@[reducible] def wH:EvC:=⟨0,0,0,0,0,⟨0,0⟩,0,none,0,0⟩
def Cont.ev (c:Cont)(e:EvC)(s:C Sn):Cont:={c with E:=c.E++[e],SE:=c.SE++[s]}
def fI (E:C EvC)(t x:Int):H:=E.countP (λe=>e.kind==2 && (e.t==t && e.obj==x))
def aT (c:Cont)(l:aK):Cont:=
 let a:=l.names.getD 0 []
 let b:=l.names.getD 1 []
 if l.kind=1 then((c.put 0 a).put 1 b).ev {wH with kind:=1,t:=c.no 0 a,gG:=(c.put 0 a).no 1 b,lvl:=l.lvl} []
 else if l.kind=2 then((c.put 0 a).put 2 b).ev {wH with kind:=2,t:=c.no 0 a,obj:=(c.put 0 a).no 2 b,v:=⟨c.no 0 a,(fI c.E (c.no 0 a) ((c.put 0 a).no 2 b):Int)+1⟩} []
 else if l.kind=3 then(((c.put 0 a).put 2 b).bF (l.aM.getD 0 ⟨[],0⟩)).1.ev {wH with kind:=3,t:=c.no 0 a,obj:=(c.put 0 a).no 2 b,v:=(((c.put 0 a).put 2 b).bF (l.aM.getD 0 ⟨[],0⟩)).2} []
 else if l.kind=4 then(((c.put 0 a).put 3 b).sc ((l.names.drop 2).zip l.aM)).1.ev {wH with kind:=4,t:=c.no 0 a,pred:=(c.put 0 a).no 3 b} (((c.put 0 a).put 3 b).sc ((l.names.drop 2).zip l.aM)).2
 else if l.kind=5\/l.kind=6 then(c.put 0 a).ev {wH with kind:=l.kind,t:=c.no 0 a} []
 else if l.kind=7 then {((c.put 2 a).ts (l.names.drop 1)).1 with D:=c.D++[⟨c.no 2 a,none,0,0⟩],SD:=c.SD++[((c.put 2 a).ts (l.names.drop 1)).2]}
 else if l.kind=8 then {(((c.put 3 a).put 2 b).ts (l.names.drop 2)).1 with M:=c.M++[⟨c.no 3 a,(c.put 3 a).no 2 b,l.first,none,0,0⟩],SM:=c.SM++[(((c.put 3 a).put 2 b).ts (l.names.drop 2)).2]}
 else if l.kind=9 then {c.put 1 a with Q:=c.Q++[⟨c.no 1 a,l.bits⟩]}
 else c
def aR (c:Cont):Prop:=(∀i,i<4->(c.nl i).length<=iF i)/\c.E.length<=3000/\c.D.length<=3000/\c.M.length<=3000/\c.Q.length<=3000/\∀e∈c.E,e.kind=2->e.v.k<=999
structure Gr (c z:Cont):Prop where
 n:∀i,c.nl i<+:z.nl i
 e:c.E<+:z.E
 d:c.D<+:z.D
 m:c.M<+:z.M
 q:c.Q<+:z.Q
theorem Gr.refl (c:Cont):Gr c c:=⟨λ_=>gH _,gH _,gH _,gH _,gH _⟩
variable{c:Cont}
theorem Gr.trans {a b:Cont}(h:Gr a b)(k:Gr b c):Gr a c:=⟨λi=>(h.n i).trans (k.n i),h.e.trans k.e,h.d.trans k.d,h.m.trans k.m,h.q.trans k.q⟩
theorem Gr.fits {d:Cont}(h:Gr c d)(k:aR d):aR c:=
 ⟨λi a=>cO (h.n i).length_le (k.1 i a),cO h.e.length_le k.2.1,cO h.d.length_le k.2.2.1,cO h.m.length_le k.2.2.2.1,cO h.q.length_le k.2.2.2.2.1,λe b=>k.2.2.2.2.2 e (h.e.subset b)⟩
theorem Gr.put (c:Cont)(i:H)(s:Bs):Gr c (c.put i s):=
 ⟨λj=>by
  show c.nl j<+:(if j=i then bV (c.nl i) s else c.nl j)
  split
  .rename_i h;subst h;exact Bp _ _
  .exact gH _,gH _,gH _,gH _,gH _⟩
theorem Gr.bF (c:Cont)(v:To):Gr c (c.bF v).1:=by
 grind [Cont.bF,Gr.refl,Gr.put]
theorem Gr.ts:∀(l:C Bs)(c:Cont),Gr c (c.ts l).1
 |[],c=>Gr.refl c
 |s::r,c=>(Gr.put c 0 s).trans (Gr.ts r _)
theorem Gr.sc:∀(l:C (Bs × To))(c:Cont),Gr c (c.sc l).1
 |[],c=>Gr.refl c
 |p::r,c=>((Gr.put c 2 p.1).trans (Gr.bF _ p.2)).trans (Gr.sc r _)
theorem Gr.ev (c:Cont)(e:EvC)(s:C Sn):Gr c (c.ev e s):=⟨λ_=>gH _,fq _ _,gH _,gH _,gH _⟩
structure Nm (c z:Cont):Prop where
 e:z.E=c.E
 se:z.SE=c.SE
 d:z.D=c.D
 sd:z.SD=c.SD
 m:z.M=c.M
 sm:z.SM=c.SM
 q:z.Q=c.Q
theorem Nm.refl (c:Cont):Nm c c:=⟨rfl,rfl,rfl,rfl,rfl,rfl,rfl⟩
theorem Nm.trans {a b:Cont}(h:Nm a b)(k:Nm b c):Nm a c:=⟨k.e.trans h.e,k.se.trans h.se,k.d.trans h.d,k.sd.trans h.sd,k.m.trans h.m,k.sm.trans h.sm,k.q.trans h.q⟩
theorem Nm.put (c:Cont)(i:H)(s:Bs):Nm c (c.put i s):=⟨rfl,rfl,rfl,rfl,rfl,rfl,rfl⟩
theorem Nm.bF (c:Cont)(v:To):Nm c (c.bF v).1:=by
 grind [Cont.bF,Nm.refl,Nm.put]
theorem Nm.ts:∀(l:C Bs)(c:Cont),Nm c (c.ts l).1
 |[],c=>Nm.refl c
 |s::r,c=>(Nm.put c 0 s).trans (Nm.ts r _)
theorem Nm.sc:∀(l:C (Bs × To))(c:Cont),Nm c (c.sc l).1
 |[],c=>Nm.refl c
 |p::r,c=>((Nm.put c 2 p.1).trans (Nm.bF _ p.2)).trans (Nm.sc r _)
theorem Gr.add (c:Cont)(l:aK):Gr c (aT c l):=by
 unfold aT;simp only[]
 split
 .exact((Gr.put c 0 _).trans (Gr.put _ 1 _)).trans (Gr.ev _ _ _)
 .split
  .exact((Gr.put c 0 _).trans (Gr.put _ 2 _)).trans (Gr.ev _ _ _)
  .split
   .exact(((Gr.put c 0 _).trans (Gr.put _ 2 _)).trans (Gr.bF _ _)).trans (Gr.ev _ _ _)
   .split
    .exact(((Gr.put c 0 _).trans (Gr.put _ 3 _)).trans (Gr.sc _ _)).trans (Gr.ev _ _ _)
    .split
     .exact(Gr.put c 0 _).trans (Gr.ev _ _ _)
     .split
      .have h:=(Gr.put c 2 (l.names.getD 0 [])).trans (Gr.ts (l.names.drop 1) _)
       exact⟨h.n,h.e,fq _ _,h.m,h.q⟩
      .split
       .have h:=((Gr.put c 3 (l.names.getD 0 [])).trans (Gr.put _ 2 (l.names.getD 1 []))).trans (Gr.ts (l.names.drop 2) _)
        exact⟨h.n,h.e,h.d,fq _ _,h.q⟩
       .split
        .have h:=Gr.put c 1 (l.names.getD 0 [])
         exact⟨h.n,h.e,h.d,h.m,fq _ _⟩
        grind [Gr.refl]
def iD:Cont:=⟨λ_=>[],[],[],[],[],[],[],[]⟩
theorem TG (c:Cont)(i:H)(s:Bs):(c.put i s).nl=kX c.nl i s:=rfl
theorem Ar:∀(l:C Bs)(c:Cont),(c.ts l).1.nl=(fU c.nl l).1/\(c.ts l).2=(fU c.nl l).2
 |[],_=>⟨rfl,rfl⟩
 |s::r,c=>by
  obtain⟨a,b⟩:=Ar r (c.put 0 s);exact⟨a,cZ (c.no 0 s:: ·) b⟩
theorem Ia {d:Cont}(a:aR c)(h:Nm c d):aR d↔∀i,i<4->(d.nl i).length<=iF i:=
 ⟨λk=>k.1,λk=>⟨k,by rw[h.e];exact a.2.1,by rw[h.d];exact a.2.2.1,by rw[h.m];exact a.2.2.2.1,by rw[h.q];exact a.2.2.2.2.1,by rw[h.e];exact a.2.2.2.2.2⟩⟩
theorem Fw {k:H}{s:Bs}(a:aR c)(d:k<4):aR (c.put k s)↔(bV (c.nl k) s).length<=iF k:=by
 rw[Ia a (Nm.put c k s),TG]
 constructor
 .grind [kX]
 .intro h i b
  unfold kX
  split
  .grind
  .exact a.1 i b
theorem NG {v:To}(a:aR c):aR (c.bF v).1↔v.k=0\/(bV (c.nl 0) v.name).length<=iF 0:=by
 grind [Cont.bF,Fw]
theorem D5:∀(l:C Bs)(nl:H->C Bs)(j:H),j≠0->(fU nl l).1 j=nl j
 |[],_,_,_=>rfl
 |s::r,nl,j,a=>(D5 r (kX nl 0 s) j a).trans (ay a)
theorem QG {l:C Bs}(a:aR c):aR (c.ts l).1↔((fU c.nl l).1 0).length<=iF 0:=by
 rw[Ia a (Nm.ts l c),(Ar l c).1]
 constructor
 .grind
 .intro h i b
  by_cases d:i=0
  .grind
  .rw[D5 l c.nl i d];exact a.1 i b
theorem Ib {e:EvC}{l:C Sn}(a:aR c):aR (c.ev e l)↔c.E.length<3000/\(e.kind=2->e.v.k<=999):=by
 constructor
 .intro h
  have d:=h.2.1;have f:=h.2.2.2.2.2;have m:(c.ev e l).E=c.E++[e]:=rfl
  grind
 .rintro⟨d,f⟩
  refine⟨a.1,?_,a.2.2.1,a.2.2.2.1,a.2.2.2.2.1,?_⟩
  .show(c.E++[e]).length<=3000
   grind
  .intro x b
   rcases cu.1 (show x∈c.E++[e] from b) with b|b
   .exact a.2.2.2.2.2 x b
   grind
theorem Ah:∀(l:C (Bs × To))(c:Cont)(p:Bs × To),c.sc (l++[p])=(((((c.sc l).1.put 2 p.1).bF p.2).1),(c.sc l).2++[⟨(c.sc l).1.no 2 p.1,(((c.sc l).1.put 2 p.1).bF p.2).2⟩])
 |[],_,_=>rfl
 |q::l,c,p=>by
  have h:=Ah l ((c.put 2 q.1).bF q.2).1 p;show(((((c.put 2 q.1).bF q.2).1).sc (l++[p])).1,_::((((c.put 2 q.1).bF q.2).1).sc (l++[p])).2)=_;rw[h];rfl
theorem KW:∀(l m:C (Bs × To))(c:Cont),(c.sc (l++m)).1=((c.sc l).1.sc m).1
 |[],_,_=>rfl
 |q::l,m,c=>KW l m ((c.put 2 q.1).bF q.2).1
theorem ER:∀(l:C (Bs × To))(c:Cont),(c.sc l).2.length=l.length
 |[],_=>rfl
 |q::l,c=>cZ (·+1) (ER l ((c.put 2 q.1).bF q.2).1)
theorem Ql {l:C (Bs × To)}{i:H}{p:Bs × To}(b:l[i]?=I p)(h:aR (c.sc l).1):aR ((c.sc (l.take i)).1.put 2 p.1)/\aR (((c.sc (l.take i)).1.put 2 p.1).bF p.2).1:=by
 obtain⟨d,f⟩:=bq.1 b;have e:l=(l.take i++[p])++l.drop (i+1):=by
  rw[<-f,fP,List.singleton_append,<-jV d,Cj]
 rw[e,KW,Ah] at h;have a:=(Gr.sc (l.drop (i+1)) _).fits h;exact⟨(Gr.bF _ p.2).fits a,a⟩
theorem lF (E:C EvC)(e:EvC)(t x:Int):fI (E++[e]) t x=fI E t x+(if e.kind=2/\e.t=t/\e.obj=x then 1 else 0):=by
 grind [fI]
theorem zy (E:C EvC)(t x:Int):fI E t x<=E.length:=List.countP_le_length
def ql (w:World):Prop:=Lib.Utf8Tabs 7 8 w/\∀i,i<4->w.cell? ⟨4,i,none⟩=I (N O (iF i:Int))
def Fx (R k:H)(cs:Array V)(a:C Bs)(s:Bs)(w:World)(e:Ending)(w':World):Prop:=
 Same (λi=>i≠R) w w'/\
 if(s∈a\/a.length<300)/\(bV a s).length<=iF k then e= .returned (N O (lQ a s:Int))/\∃b d,Own w' w.1.size 9 1 encStr (U b (bV a s).length d) (bV a s)/\Bx w' R (cs.setIfInBounds (8+k) (U b (bV a s).length d))
 else e= .panicked kz
theorem QH (k:H)(hk:k<4)(R:H)(b:C Bs)(a:Option Addr)(c:H)(s:Bs)(w:World)(cs:Array V)(S:Bx w R cs)(Z:cs[(8+k)]?=I (U a b.length c))(p:Row w 1 encStr a b.length c b)(hL:yM b)(hs:bW ⟨s.toArray⟩=true)(hG:ql w):
  Calls Tryz.prog 119 #[.pointer (I ⟨R,0,none⟩),N O (k:Int),.string ⟨s.toArray⟩] w (Fx R k cs b s w):=by
 have HK:=J hk;have ι:(k:Int)<4:=by omega
 have HP:=J (KX b a c s w p hL hs hG.1);have HG:=J hG;have r:=J S;have HC:=J Z;have hx:w.cell? ⟨R,8+k,none⟩=I (U a b.length c):=(S.1 (8+k)).trans Z;go_enter func119,ntmps119;go_wp2_with fail;refine HP.q.mono ?_;rintro e d ⟨o,t⟩;have κ:=J o;by_cases u:s∈b\/b.length<300
 .rw[aA u] at t
  obtain⟨f,l,rfl,γ⟩:=t;have HO:=J γ;have η:=J u;have y:=aZ o rfl (HG.2 k HK);have z:((d.alloc (G #[U f (bV b s).length l] 85)).drew).cell? ⟨4,k,none⟩=I (N O (iF k:Int)):=by
   have:=aZ (aB (Below.refl d.1.size d) (G #[U f (bV b s).length l] 85)) rfl y;exact this
  have v:((d.alloc (G #[U f (bV b s).length l] 85)).drew).cell? ⟨d.1.size,0,none⟩=I (U f (bV b s).length l):=(Bx.new d #[U f (bV b s).length l] 85).1 0;have δ:=J (o.trans ((aB (Below.refl d.1.size d) (G #[U f (bV b s).length l] 85)).mono o.size));have ε:=J (γ.below (aB (Below.refl d.1.size d) (G #[U f (bV b s).length l] 85)) rfl);have E:Below w.1.size w _:=o.trans ((aB (Below.refl d.1.size d) (G #[U f (bV b s).length l] 85)).mono o.size);have μ:(d.alloc (G #[U f (bV b s).length l] 85)).cell? ⟨R,8+k,none⟩=I (U a b.length c):=((r.keep E).1 (8+k)).trans HC;have ν:(d.alloc (G #[U f (bV b s).length l] 85)).frozen? ⟨R,8+k,none⟩=false:=(r.keep E).2.1 (8+k);have θ:=J E
  go_wp2
  by_cases ζ:(bV b s).length<=iF k
  .have F:=J ζ
   have P:decide (((bV b s).length:Int)<=(iF k:Int))=true:=bG ah
   apply cK 99 [(0,0),(1,0),(2,0),(3,0),(4,0),(5,0),(6,0),(7,0),(8,0),(9,0),(10,0),(11,2)] (λ_=>True) (λq=>q.cell? ⟨d.1.size,0,none⟩=I (U f (bV b s).length l)/\q.cell? ⟨4,k,none⟩=I (N O (iF k:Int))) (λ_ _=>False) au au (λm a1 d x p=>p.elim) (trivial) (⟨v,z⟩)
   refine qL λK hK=>?_
   apply(oh _ _).mono
   rintro e w2 ⟨rfl,rfl⟩;rw[aA (by simpa using P)]
   apply hK _ _ ⟨trivial,v,z⟩
   apply eP
   go_wp2
   refine aD 6 [(0,1),(1,1),(2,0),(3,1),(4,1),(5,1),(6,2)] (λ_=>True) (λq=>q.cell? ⟨d.1.size,0,none⟩=I (U f (bV b s).length l)) au au (trivial) (v) ?_;refine qM λK hK=>?_
   go_simp
   apply hK _ _ trivial
   apply aH
   go_wp2
   go_ret;refine⟨((Same.of_below δ (λ_ _ h=>h)).setTail (λh=>h rfl)).mU.mU,?_⟩;rw[aA ⟨η.q,F.q⟩];refine⟨rfl,f,l,?_,?_⟩
   .refine ε.same (A:=λi=>i≠R) (((Same.refl' _).setTail (λh=>h rfl)).mU.mU) (λg y e=>?_)
    have h1:=(ε.lt g y).1;have h2:=r.2.2;omega
   .have h1:(8+k)<cs.size:=(fH.1 HC).1
    exact(((r.keep θ).aX (8+k) h1 _).drew).drew
  .have F:=J ζ
   have P:decide (((bV b s).length:Int)<=(iF k:Int))=false:=bn ah;have Q:Hid (∀m n,(m=kz/\n=(d.alloc (G #[U f (bV b s).length l] 85)).drew)->Fx R k cs b s w (.panicked m) n):=J (by
    rintro m n ⟨rfl,rfl⟩;refine⟨(Same.of_below δ (λ_ _ h=>h)).mU,?_⟩;rw[ay (λh=>F.q h.2)])
   apply cK 99 [(0,0),(1,0),(2,0),(3,0),(4,0),(5,0),(6,0),(7,0),(8,0),(9,0),(10,0),(11,2)] (λ_=>True) (λq=>q.cell? ⟨d.1.size,0,none⟩=I (U f (bV b s).length l)/\q.cell? ⟨4,k,none⟩=I (N O (iF k:Int))) (λm n=>m=kz/\n=(d.alloc (G #[U f (bV b s).length l] 85)).drew) au au (λm a1 d x p=>⟨x,Q m d p⟩) (trivial) (⟨v,z⟩)
   refine qL λK hK=>?_
   apply(oh _ _).mono
   rintro e w2 ⟨rfl,rfl⟩;rw[ay (by simpa using P)];exact⟨rfl,rfl,rfl⟩
 .rw[ay u] at t
  subst t;have Q:Hid (∀m n,(m=kz/\n=(d.alloc (G #[U none 0 0] 85)).drew)->Fx R k cs b s w (.panicked m) n):=J (by
   rintro m n ⟨rfl,rfl⟩;refine⟨(Same.of_below (o.trans ((aB (Below.refl d.1.size d) _).mono o.size)) (λ_ _ h=>h)).mU,?_⟩;rw[ay (λh=>u h.1)])
  go_wp2
  apply cK 99 [(0,0),(1,0),(2,0),(3,0),(4,0),(5,0),(6,0),(7,0),(8,0),(9,0),(10,0),(11,2)] (λ_=>True) (λ_=>True) (λm n=>m=kz/\n=(d.alloc (G #[U none 0 0] 85)).drew) au au (λm a1 d x p=>⟨x,Q m d p⟩) (trivial) (trivial)
  refine qL λK hK=>?_
  apply(oh _ _).mono
  rintro e w2 ⟨rfl,rfl⟩;rw[ay ak];exact⟨rfl,rfl,rfl⟩
structure wI (d:H)(P:(H->C Bs)->Prop)(w:World)(R:H)(cs:Array V)(nl:H->C Bs):Prop where
 b:Bx w R cs
 t:∀k,k<4->∃v,cs[8*d+k]?=I v/\Own w (R+1) 9 1 encStr v (nl k)
 n:P nl
abbrev TH (nl:H->C Bs):Prop:=∀k,k<4->yM (nl k)/\(nl k).length<=iF k
abbrev Cn:=wI 1 TH
theorem qo (k:H):iF k<=300:=by unfold iF;split <;> omega
theorem QI {b:C Bs}{s:Bs}(h:yM b)(d:bW ⟨s.toArray⟩=true)(e:(bV b s).length<=300):yM (bV b s):=
 ⟨λx a=>by
  unfold bV at a
  split at a
  .exact h.w x a
  .rcases cu.1 a with a|a
   .exact h.w x a
   .rw[dw.1 a];exact d,yF h.n,e⟩
variable{nl:H->C Bs}
theorem zA {R:H}{cs:Array V}(k:H)(o:k<4)(s:Bs)(w:World)(h:Cn w R cs nl)(q:bW ⟨s.toArray⟩=true)(x:ql w):
  Calls Tryz.prog 119 #[.pointer (I ⟨R,0,none⟩),N O (k:Int),.string ⟨s.toArray⟩] w (λe w'=>Same (λi=>i≠R) w w'/\
   if(bV (nl k) s).length<=iF k then e= .returned (N O (lQ (nl k) s:Int))/\∃p,Cn w' R p (λj=>if j=k then bV (nl k) s else nl j)/\p.size=cs.size/\∀j,j≠8+k->p[j]?=cs[j]?
   else e= .panicked kz):=by
 obtain⟨v,m,d⟩:=h.t k o;obtain⟨r,Q⟩:=h.n k o;have S:=qo k;obtain⟨a,c,rfl,_,_⟩:=d.shape;have y:Row w 1 encStr a (nl k).length c (nl k):=d.row ah
 apply(QH k o R (nl k) a c s w cs h.b m y r q x).mono
 rintro e w' ⟨t,n⟩;refine⟨t,?_⟩;by_cases b:(bV (nl k) s).length<=iF k
 .have z:s∈nl k\/(nl k).length<300:=by
   by_cases u:s∈nl k
   .exact .inl u
   .rw[kF u,eX,pJ] at b
    exact .inr ah
  rw[aA ⟨z,b⟩] at n;obtain⟨rfl,Z,c',A,E⟩:=n;rw[aA b];have γ:=h.b.2.2;have F:8+k<cs.size:=(fH.1 m).1;refine⟨rfl,_,⟨E,λj f=>?_,λj f=>?_⟩,by simp,λj f=>by rw[iQ (λe=>f e.symm)]⟩
  .by_cases l:j=k
   .subst l
    simp only[dG];exact⟨_,ru F,A.mono ah⟩
   .rw[ay l]
    obtain⟨v,m,d⟩:=h.t j f;refine⟨v,(iQ ah).trans m,d.same t (λg P e=>?_)⟩;have:=(d.lt g P).1;omega
  .by_cases l:j=k
   .subst l
    simp only[dG];exact⟨QI r q ah,b⟩
   .rw[ay l];exact h.n j f
 .rw[ay (λh=>b h.2)] at n
  rw[ay b];exact n
variable{d:H}{P:(H->C Bs)->Prop}{w':World}
theorem wI.below {w:World}{R:H}{cs:Array V}(h:wI d P w R cs nl)(a:Below w.1.size w w'):wI d P w' R cs nl:=
 ⟨h.b.keep a,λk b=>(let⟨v,e,f⟩:=h.t k b;⟨v,e,f.below a rfl⟩),h.n⟩
theorem wI.apart {X Y:World}{R g:H}{cs:Array V}{T:TypeId}(h:wI d P X R cs nl)(b:∃cs e,X.1[g]?=I (G cs T e))(f:9≠T)(l:R≠g)(a:Same (λi=>i≠g) X Y):wI d P Y R cs nl:=
 ⟨a.bx h.b l,λk m=>(let⟨v,n,o⟩:=h.t k m;⟨v,n,o.aJ b f a⟩),h.n⟩
theorem ql.below {w:World}(h:ql w)(a:Below w.1.size w w'):ql w':=⟨Utf8Tabs_below h.1 a,λi b=>aZ a rfl (h.2 i b)⟩
def PN (nl:H->C Bs)(v:To):H->C Bs:=if v.k=0 then nl else λj=>if j=0 then bV (nl 0) v.name else nl j
def PO (R:H)(cs:Array V)(nl:H->C Bs)(v:To)(w:World)(e:Ending)(w':World):Prop:=
 Same (λi=>i≠R) w w'/\
 if v.k=0\/(bV (nl 0) v.name).length<=iF 0 then e= .returned (.agg #[N O (if v.k=0 then 0 else(lQ (nl 0) v.name:Int)),N O v.k])/\∃a,Cn w' R a (PN nl v)/\a.size=cs.size/\∀j,j≠8->a[j]?=cs[j]?
 else e= .panicked kz
theorem Jp {R:H}{cs:Array V}(v:To)(P:nW v)(w:World)(h:Cn w R cs nl)(Q:ql w):
  Calls Tryz.prog 121 #[.pointer (I ⟨R,0,none⟩),iZ v] w (PO R cs nl v w):=by
 obtain⟨n,k⟩:=v;have p:=J (((aB (aB (Below.refl w.1.size w) (G #[.string ⟨n.toArray⟩,N O k] 61)) (G #[N O 0,N O 0] 47)).drew));have x:=(Bx.new w #[.string ⟨n.toArray⟩,N O k] 61).alloc (G #[N O 0,N O 0] 47);have HH:=J h;have ψ:=J Q;have HV:=J P;have θ:=J x;by_cases q:k=0
 .subst q
  go_enter func121,ntmps121
  go_wp2
  apply bodyPost_ret (v:= .agg #[N O 0,N O 0]) (by simp[results,results121,go_sem]) rfl
  have S:Below w.1.size w ((w.alloc (G #[.string ⟨n.toArray⟩,N O 0] 61)).alloc (G #[N O 0,N O 0] 47)):=aB (aB (Below.refl w.1.size w) _) _;refine⟨Same.of_below S (λ_ _ h=>h),?_⟩;have e:PN nl ⟨n,0⟩=nl:=aA rfl;rw[aA (.inl rfl),e];exact⟨rfl,cs,HH.below S,rfl,λ_ _=>rfl⟩
 .have hk:(k==0)=false:=aN.2 q
  have y:=J q;have hw:bW ⟨n.toArray⟩=true:=by
   rcases P with e|e
   .injection e with _ e;exact absurd e q
   .exact e.1
  have Z:=J (zA 0 ah n _ (h.below p) hw (Q.below p));have ι:=(Bx.new (w.alloc (G #[.string ⟨n.toArray⟩,N O k] 61)) #[N O 0,N O 0] 47);have κ:=J ι;have z:=J h.b.2.2;have γ:=x.1 0;have δ:=x.1 1;go_enter func121,ntmps121;by_cases A:(bV (nl 0) n).length<=iF 0
  .have r:=J A
   go_wp2
   refine cK 7 [(0,0),(1,0),(2,0),(4,0),(5,0),(3,2),(6,0),(7,2)] (λ_=>True) (λf=>f.cell? ⟨w.1.size,0,none⟩=I (.string ⟨n.toArray⟩)/\f.cell? ⟨w.1.size,1,none⟩=I (N O k)) (λ_ _=>False) au au (λa a1 w1 hd E=>E.elim) (trivial) (⟨γ,δ⟩) ?_;refine qL λK hK=>?_
   apply Z.mono
   rintro e t ⟨hS,l⟩;rw[aA r.q] at l;obtain⟨rfl,μ,hT,ν,ho⟩:=l;have HT:=J hT;have ε:=J hS;have HO:=J (⟨ν,ho⟩:_/\_);have ζ:=hS.bx θ.drew (by have:=z.q;omega);have m:=hS.bx κ.drew (by have:=z.q;simp;omega)
   apply hK _ _ ⟨trivial,ζ.1 0,ζ.1 1⟩
   have ξ:=m.1 0;have ο:=m.1 1;have π:=m.2.1 0;have ρ:=m.2.1 1;have σ:=J m;rw[World.size_alloc] at ξ ο π ρ;refine qM λK hK=>?_
   go_simp
   apply hK _ _ trivial
   apply eP
   go_wp2
   have F:=(σ.aX 0 ak (N O (lQ (nl 0) n:Int))).aX 1 ak (N O k);rw[World.size_alloc] at F;have τ:=F.1 0;have υ:=F.1 1
   apply bodyPost_ret (v:= .agg #[N O (lQ (nl 0) n:Int),N O k]) (by simp[results,results121,go_sem,τ,υ]) rfl
   have ω:=z.q;have b:Same (λi=>i≠R/\i<w.1.size) w t:=((Same.of_below p.q (λ_ _ h=>h)).tr (ε.q.mono (λi d _=>d.1)));have φ:w.1.size+1<((w.alloc (G #[.string ⟨n.toArray⟩,N O k] 61)).alloc (G #[N O 0,N O 0] 47)).drew.1.size:=by
    show w.1.size+1<((w.alloc (G #[.string ⟨n.toArray⟩,N O k] 61)).alloc (G #[N O 0,N O 0] 47)).1.size;rw[World.size_alloc,World.size_alloc];omega
   have η:=World.alloc_heap_new (w.alloc (G #[.string ⟨n.toArray⟩,N O k] 61)) (G #[N O 0,N O 0] 47);rw[World.size_alloc] at η;have ht:∃cs fz,t.1[w.1.size+1]?=I (G cs 47 fz):=⟨_,_,(ε.q.block (w.1.size+1) ah φ).trans η⟩;refine⟨((b.setTail (λh=>by have:=h.2;omega)).setTail (λh=>by have:=h.2;omega)).mono (λi d u=>⟨d,u⟩),?_⟩;rw[aA (.inr r.q)];have e1:(if k=0 then(0:Int) else(lQ (nl 0) n:Int))=(lQ (nl 0) n:Int):=ay y.q;have e2:PN nl ⟨n,k⟩=λj=>if j=0 then bV (nl 0) n else nl j:=ay y.q
   rw[e2];refine⟨by rw[e1],μ,HT.q.apart ht aj ah (((Same.refl' t).setTail (λh=>h rfl)).setTail (λh=>h rfl)),HO.q.1,HO.q.2⟩
  .have r:=J A
   have χ:Hid (∀a o,(a=kz/\Same (λi=>i≠R) ((w.alloc (G #[.string ⟨n.toArray⟩,N O k] 61)).alloc (G #[N O 0,N O 0] 47)).drew o)->PO R cs nl ⟨n,k⟩ w (.panicked a) o):=J (by
    rintro a o ⟨rfl,hS⟩;have b:Same (λi=>i≠R) w ((w.alloc (G #[.string ⟨n.toArray⟩,N O k] 61)).alloc (G #[N O 0,N O 0] 47)).drew:=Same.of_below p (λ_ _ h=>h);refine⟨⟨hS.os.trans b.os,hS.tape.trans b.tape,hS.output.trans b.output,cO b.size hS.size,λi d u=>(hS.block i d (kS u b.size)).trans (b.block i d u)⟩,?_⟩;rw[ay (λh=>h.elim y.q A)])
   go_wp2
   refine cK 7 [(0,0),(1,0),(2,0),(4,0),(5,0),(3,2),(6,0),(7,2)] (λ_=>True) (λf=>f.cell? ⟨w.1.size,0,none⟩=I (.string ⟨n.toArray⟩)/\f.cell? ⟨w.1.size,1,none⟩=I (N O k)) (λa o=>a=kz/\Same (λi=>i≠R) ((w.alloc (G #[.string ⟨n.toArray⟩,N O k] 61)).alloc (G #[N O 0,N O 0] 47)).drew o) au au (λa a1 w1 hd E=>⟨hd,χ.q a w1 E⟩) (trivial) (⟨γ,δ⟩) ?_;refine qL λK hK=>?_
   apply Z.mono
   rintro e t ⟨hS,l⟩;rw[ay r.q] at l;subst l;exact⟨rfl,rfl,hS⟩
def yN (R:H)(w:World):Prop:=∀W,Same (λi=>i≠R) w W->ql W
theorem yN.same {R:H}{w X:World}(h:yN R w)(s:Same (λi=>i≠R) w X):yN R X:=λW k=>h W (s.tr k)
theorem yN.here {R:H}{w:World}(h:yN R w):ql w:=h w (Same.refl' w)
variable{row:Option H}
theorem wI.grown {X Y:World}{R:H}{cs:Array V}{T:TypeId}(h:wI d P X R cs nl)(a:X.grownBy Y row)(b:∀g,row=I g->g≠R/\∃cs m,X.1[g]?=I (G cs T m))(n:9≠T):wI d P Y R cs nl:=
 ⟨h.b.grown a (λe=>(b R e).1 rfl),λk o=>(let⟨v,p,f⟩:=h.t k o;⟨v,p,f.grown a (λg q e=>by
  obtain⟨_,t,u,r⟩:=b g e;obtain⟨x,y,l⟩:=f.tag q;rw[r] at l
  cases l
  exact n rfl)⟩),h.n⟩
def PS (R:H)(cs:Array V)(nl:H->C Bs)(l:C Bs)(w:World)(e:Ending)(w':World):Prop:=
 Same (λi=>i≠R) w w'/\
 if((fU nl l).1 0).length<=iF 0 then ∃a c b,e= .returned (U a l.length c)/\Own w' w.1.size 3 1 aQ (U a l.length c) (fU nl l).2/\Cn w' R b (fU nl l).1/\b.size=cs.size/\∀j,j≠8->b[j]?=cs[j]?
 else e= .panicked kz
theorem Row.i1 (w:World)(s:Int):Row (w.alloc (G #[N O s] 3)) 1 aQ (I ⟨w.1.size,0,none⟩) 1 1 [s]:=
 (Own.new (hc:=fA) w w.1.size 3 #[N O s] [s] (aC _) rfl (by simp[maxLen])).row ak
theorem Dm:∀(l:C Bs)(nl:H->C Bs),(fU nl l).2.length=l.length
 |[],_=>rfl
 |_::l,nl=>cZ (·+1) (Dm l (kX nl 0 _))
theorem Co {X Y:World}{R:H}{B:H}(a:X.grownBy Y row)(b:∀g,row=I g->B<=g):Same (λi=>i≠R/\i<B) X Y:=
 ⟨a.os,a.tape,a.output,a.size,λi d f=>a.block i f (λe=>by have:=b i e.symm;have:=d.2;omega)⟩
theorem Wd {R:H}{cs:Array V}(l:C Bs)(P:Option Addr)(n tc:H)(w:World)(h:Cn w R cs nl)(Q:Row w 1 encStr P n tc l)(ο:∀b o,P=I ⟨b,o,none⟩->b≠R)(hw:∀s∈l,bW ⟨s.toArray⟩=true)(hn:n<=100000)(hG:yN R w):
  Calls Tryz.prog 122 #[.pointer (I ⟨R,0,none⟩),U P n tc] w (PS R cs nl l w):=by
 have HH:=J h;have HR:=J Q;have π:=J ο;have HW:=J hw;have HG:=J hG;have θ:=J h.b.2.2;obtain⟨i,z,f,hz,ρ,σ,τ⟩:=qZ;have m:=J (⟨f,hz,ρ,σ,τ⟩:_/\_/\_/\_/\_);have q6:=Q.le;have S:=J Q.len;go_enter func122,ntmps122
 go_wp2
 go_loopw [5,10] (λv i wr=>∃(k:H)(p:Option Addr)(q:H)(r:Array V),k<=n/\v= U p k q/\i= N O k/\Own wr w.1.size 3 1 aQ (U p k q) (fU nl (l.take k)).2/\
   Cn wr R r (fU nl (l.take k)).1/\r.size=cs.size/\(∀j,j≠8->r[j]?=cs[j]?)/\Same (λi=>i≠R) w wr) (λ_ i _=>n - (RowKit.intOf i).toNat)
 case atStart=>
  exact⟨0,none,0,cs,aS _,rfl,rfl,Own.eH _ _ _ _ _,HH,rfl,λ_ _=>rfl,Same.refl' _⟩
 case round=>
  obtain⟨k,p,q,r,hk,rfl,rfl,Z,u,ι,κ,x⟩:=hrel;by_cases υ:k<n
  .obtain⟨s,b,o,hx,rfl,hc⟩:=HR.at_ υ
   have γ:=hc 0 _ rfl;simp only[gP,bK] at γ;have q7:wr.cell? ⟨b,o+k,none⟩=I (.string ⟨s.toArray⟩):=(World.cell?_of_block (a:=⟨b,o+k,none⟩) (x.block b (π b o rfl) (iw γ))).trans γ;have φ:=zA 0 ah s wr u (HW s (bS hx)) (HG.same x).here;have χ:=J φ;have y:=J Z;have δ:=J u;have ε:=J ι;have ζ:=J κ;have t:=J x;have HX:=J hx;go_wp2_with fail;refine χ.q.mono ?_;rintro e d ⟨A,E⟩;have e1:l.take (k+1)=l.take k++[s]:=by rw[eD,HX.q];rfl
   by_cases hf:(bV ((fU nl (l.take k)).1 0) s).length<=iF 0
   .rw[aA hf] at E
    obtain⟨rfl,ψ,ω,Γ,Δ⟩:=E;have Θ:=J ω;have Ξ:=J Γ;have Φ:=J Δ;have Ψ:=J A;have F:Hid (Own d w.1.size 3 1 aQ (U p k q) (fU nl (l.take k)).2):=J (y.same A (λg hg e=>by have:=(y.lt g hg).1;have:=θ.q;omega));have HE:Hid ((fU nl (l.take (k+1))).1=(λj=>if j=0 then bV ((fU nl (l.take k)).1 0) s else(fU nl (l.take k)).1 j)/\(fU nl (l.take k)).2++[(lQ ((fU nl (l.take k)).1 0) s:Int)]=(fU nl (l.take (k+1))).2):=J (by rw[e1,yI];exact⟨rfl,rfl⟩);have Ω:Hid ((fU nl (l.take k)).2.length+1=k+1):=J (by rw[Dm,dJ,S.q,wJ hk]);have q0:Hid ((k+1)*8<=140737488355328):=J ah;have q1:Hid (k+1<=maxLen):=J (by unfold maxLen;omega);have q2:Hid (w.1.size<=(d.alloc (G #[N O (lQ ((fU nl (l.take k)).1 0) s:Int)] 3)).1.size):=J (by have h1:=t.size;have h2:=A.size;simp;omega)
    go_wp2_with (at_builtin;refine dx rfl _ _ 26 rfl i z 8 underlying26 m.1 m.2.1 m.2.2.1 m.2.2.2.1 m.2.2.2.2 rfl (F.alloc _) (I ⟨d.1.size,0,none⟩) 1 1 (k+1) [(lQ ((fU nl (l.take k)).1 0) s:Int)] rfl (Row.i1 d _) Ω q0 q1 q2 ?_;intro a' c' w2 μ ν q8)
    rw[HE.q.2] at μ;have ξ:=aB (Below.refl d.1.size d) (G #[N O (lQ ((fU nl (l.take k)).1 0) s:Int)] 3);have q3:Same (λi=>i≠R/\i<w.1.size) w w2:=((t.tr Ψ).mono (λi f _=>f.1)).tr ((Same.of_below ξ (λ_ _ h=>h)).tr (Co ν (λg e=>(F.lt g e).1)));have q4:=(Θ.below ξ).grown (T:=3) ν (λg e=>⟨by have:=(F.lt g e).1;have:=θ.q;omega,(F.alloc _).tag e⟩) aj;have η:=J (⟨μ,q4,q3.mono (λi f hl=>⟨f,hl⟩)⟩:_/\_/\_);go_roundw
    case rel=>
     refine⟨k+1,a',c',ψ,by omega,rfl,by go_num,η.1,?_,Ξ.trans ε,λj hj=>(Φ j hj).trans (ζ j hj),η.2.2⟩;rw[HE.q.1];exact η.2.1
    case measure=>simp[RowKit.intOf];omega
   .rw[ay hf] at E
    subst E;refine⟨rfl,?_⟩;show PS R cs nl l w _ _;refine⟨t.tr A,?_⟩;rw[ay (λh=>hf (Nu HX.q h))]
  .obtain rfl:k=n:=by omega
   have q5:l.take k=l:=eF (by rw[S.q];exact aC _);rw[q5] at Z u;have y:=J Z;have δ:=J u;have ε:=J ι;have ζ:=J κ;have t:=J x
   go_wp2
   go_ret;refine⟨t,?_⟩;rw[aA (δ.q.n 0 ah).2,S.q];exact⟨p,q,r,rfl,y,δ,ε,ζ⟩
theorem Row.TI (w:World)(ev:EvC):Row (w.alloc (G (aY ev) 50)) 9 dK (I ⟨w.1.size,0,none⟩) 1 1 [ev]:=
 (Own.new (hc:=oG) w w.1.size 50 (enc:=dK) (aY ev) [ev] (aC _) rfl (by simp[maxLen])).row (hc:=oG) ak
def Jq (R:H)(cs:Array V)(d:V)(a:C EvC)(ev:EvC)(w:World)(e:Ending)(w':World):Prop:=
 Same (λi=>i≠R/\d.ownBlock≠I i) w w'/\
 if a.length<3000 then e= .returned (.tuple #[])/\∃b,Own w' (R+1) 50 9 dK b (a++[ev])/\Bx w' R (cs.setIfInBounds 4 b)
 else e= .panicked kz
variable{v:V}{E:C EvC}
theorem Fy {R:H}{cs:Array V}(ev:EvC)(w:World)(Z:Bx w R cs)(h4:cs[4]?=I v)(hO:Own w (R+1) 50 9 dK v E)(hl:E.length<=3000):
  Calls Tryz.prog 118 #[.pointer (I ⟨R,0,none⟩),gQ ev] w (Jq R cs v E ev w):=by
 obtain⟨a,c,rfl,_,ω⟩:=hO.shape;obtain⟨i,z,hi,hz,ι,κ,μ⟩:=Al;have F:=J (⟨hi,hz,ι,κ,μ⟩:_/\_/\_/\_/\_);have hx:w.cell? ⟨R,4,none⟩=I (U a E.length c):=(Z.1 4).trans h4;have ζ:=aB (Below.refl w.1.size w) (G (aY ev) 50);have P:=J ζ;have γ:=J Z;have HO:=J hO;have Q:=J h4;have Γ:(w.alloc (G (aY ev) 50)).cell? ⟨R,4,none⟩=I (U a E.length c):=((Z.keep ζ).1 4).trans h4;obtain⟨b,d,f,l,m,⟨n,o⟩,p,q,r,t⟩:=ev;by_cases hf:E.length<3000
 .have HF:=J hf
  have hd:decide ((E.length:Int)<3000)=true:=bG ah;have u:Hid (Bx (w.alloc (G (aY ⟨b,d,f,l,m,⟨n,o⟩,p,q,r,t⟩) 50)) w.1.size (aY ⟨b,d,f,l,m,⟨n,o⟩,p,q,r,t⟩)):=J (Bx.new w _ _);have η:Hid (Bx ((w.alloc (G (aY ⟨b,d,f,l,m,⟨n,o⟩,p,q,r,t⟩) 50)).drew.alloc (G (aY ⟨b,d,f,l,m,⟨n,o⟩,p,q,r,t⟩) 50)) R cs):=J ((γ.keep P).drew.alloc _);have ν:Hid (Bx ((w.alloc (G (aY ⟨b,d,f,l,m,⟨n,o⟩,p,q,r,t⟩) 50)).drew.alloc (G (aY ⟨b,d,f,l,m,⟨n,o⟩,p,q,r,t⟩) 50)) w.1.size (aY ⟨b,d,f,l,m,⟨n,o⟩,p,q,r,t⟩)):=J (u.drew.alloc _);have ξ:Hid (Own ((w.alloc (G (aY ⟨b,d,f,l,m,⟨n,o⟩,p,q,r,t⟩) 50)).drew.alloc (G (aY ⟨b,d,f,l,m,⟨n,o⟩,p,q,r,t⟩) 50)) (R+1) 50 9 dK (U a E.length c) E):=J ((HO.alloc _).drew.alloc _);have ο:Hid (Row ((w.alloc (G (aY ⟨b,d,f,l,m,⟨n,o⟩,p,q,r,t⟩) 50)).drew.alloc (G (aY ⟨b,d,f,l,m,⟨n,o⟩,p,q,r,t⟩) 50)) 9 dK (I ⟨w.1.size+1,0,none⟩) 1 1 [⟨b,d,f,l,m,⟨n,o⟩,p,q,r,t⟩]):=J (by
   have:=Row.TI (w.alloc (G (aY ⟨b,d,f,l,m,⟨n,o⟩,p,q,r,t⟩) 50)).drew ⟨b,d,f,l,m,⟨n,o⟩,p,q,r,t⟩;have e:(w.alloc (G (aY ⟨b,d,f,l,m,⟨n,o⟩,p,q,r,t⟩) 50)).drew.1.size=w.1.size+1:=World.size_alloc _ _;rw[e] at this;exact this)
  have π:Hid ((E.length+1)*88<=140737488355328):=J ah;have ρ:Hid (E.length+1<=maxLen):=J (by unfold maxLen;omega);have σ:Hid (R+1<=((w.alloc (G (aY ⟨b,d,f,l,m,⟨n,o⟩,p,q,r,t⟩) 50)).drew.alloc (G (aY ⟨b,d,f,l,m,⟨n,o⟩,p,q,r,t⟩) 50)).1.size):=J (by have:=η.q.2.2;omega);have τ:Hid ((Value.slice a E.length c).ownBlock≠I R):=J (λe=>by have:=(HO.lt R e).1;omega);have υ:Hid ((Value.slice a E.length c).ownBlock≠I w.1.size):=J (λe=>by have:=(HO.lt _ e).2;omega);go_enter func118,ntmps118;go_wp2_with fail;refine(oh _ _).mono ?_;rintro e w2 ⟨rfl,rfl⟩;rw[aA rfl]
  go_wp2
  refine aD 12 [(0,0),(1,0),(2,0),(3,0),(4,0),(5,0),(6,0),(7,2),(8,2),(9,1),(10,1),(11,0),(12,2)] (λ_=>True) (λx=>x.cell? ⟨R,4,none⟩=I (U a E.length c)/\x.cell? ⟨w.1.size,0,none⟩=I (N O b)/\x.cell? ⟨w.1.size,1,none⟩=I (N O d)/\x.cell? ⟨w.1.size,2,none⟩=I (N O f)/\x.cell? ⟨w.1.size,3,none⟩=I (N O l)/\x.cell? ⟨w.1.size,4,none⟩=I (N O m)/\x.cell? ⟨w.1.size,5,none⟩=I (N O n)/\x.cell? ⟨w.1.size,6,none⟩=I (N O o)/\x.cell? ⟨w.1.size,7,none⟩=I (N O p)/\x.cell? ⟨w.1.size,8,none⟩=I (U q r t)) au au (trivial) (⟨((γ.q.keep P.q).1 4).trans Q.q,(u.q).1 0,(u.q).1 1,(u.q).1 2,(u.q).1 3,(u.q).1 4,(u.q).1 5,(u.q).1 6,(u.q).1 7,(u.q).1 8⟩) ?_;refine qL λK hK=>?_
  refine hK _ _ ⟨trivial,(((γ.q.keep P.q).alloc _).1 4).trans Q.q,(u.q.alloc _).1 0,(u.q.alloc _).1 1,(u.q.alloc _).1 2,(u.q.alloc _).1 3,(u.q.alloc _).1 4,(u.q.alloc _).1 5,(u.q.alloc _).1 6,(u.q.alloc _).1 7,(u.q.alloc _).1 8⟩ ?_;refine aG rfl rfl (λK hK=>?_);refine gK _ _ 36 rfl i z 88 underlying36 F.q.1 F.q.2.1 F.q.2.2.1 F.q.2.2.2.1 F.q.2.2.2.2 rfl ξ.q (I ⟨w.1.size+1,0,none⟩) 1 1 (E.length+1) [⟨b,d,f,l,m,⟨n,o⟩,p,q,r,t⟩] rfl ο.q rfl π.q ρ.q σ.q ?_;intro a' c' w3 φ δ Δ;have ε:=η.grown δ τ;have y:=ν.grown δ υ
  apply hK _ _ ⟨trivial,((ε).1 4).trans Q,(y).1 0,(y).1 1,(y).1 2,(y).1 3,(y).1 4,(y).1 5,(y).1 6,(y).1 7,(y).1 8⟩
  have Θ:=(ε.1 4).trans Q.q;have χ:=J ε;have θ:=J φ;have S:=J δ;refine qM λK hK=>?_
  apply hK _ _ trivial
  apply aH
  go_wp2
  apply bodyPost_end (results_none rfl _ _ _) rfl
  show Jq R cs _ E _ w _ _;have ψ:=aB P.drew (G (aY ⟨b,d,f,l,m,⟨n,o⟩,p,q,r,t⟩) 50);have h1:Same (λi=>i≠R/\(Value.slice a E.length c).ownBlock≠I i) w w3:=(Same.of_below ψ (λ_ _ h=>h)).tr ⟨S.os,S.tape,S.output,S.size,λi hi hl=>S.block i hl (λe=>hi.2 e.symm)⟩;refine⟨h1.setTail (λh=>h.1 rfl),?_⟩;rw[aA HF.q];refine⟨rfl,U a' (E.length+1) c',θ.same (A:=λi=>i≠R) ((Same.refl' _).setTail (λh=>h rfl)) (λg hg e=>by have:=(θ.lt g hg).1;omega),χ.aX 4 (fH.1 Q).1 _⟩
 .have HF:=J hf
  have hd:decide ((E.length:Int)<3000)=false:=bn ah;go_enter func118,ntmps118;go_wp2_with fail;refine(oh _ _).mono ?_;rintro e w2 ⟨rfl,rfl⟩;rw[ay ak];refine⟨rfl,?_⟩;show Jq R cs _ E _ w _ _;refine⟨Same.of_below P (λ_ _ h=>h),?_⟩;rw[ay HF.q]
def EvC.val (e:EvC):V:= U e.sa e.sn e.sc
def aO.val (e:aO):V:= U e.sa e.sn e.sc
def aP.val (e:aP):V:= U e.sa e.sn e.sc
def pu {a b:Type}(w:World)(R:H)(T:TypeId)(k:H)(enc:b->C V)(val:a->V)(xs:C a)(d:C (C b)):Prop:=
 xs.length=d.length/\∀(i:H)(x:a)(L:C b),xs[i]?=I x->d[i]?=I L->Own w (R+1) T k enc (val x) L
theorem pu.imp {a b:Type}{w:World}{R:H}{T:TypeId}{k:H}{enc:b->C V}{val:a->V}{xs:C a}{d:C (C b)}(h:pu w R T k enc val xs d)(e:∀v L,Own w (R+1) T k enc v L->Own w' (R+1) T k enc v L):pu w' R T k enc val xs d:=
 ⟨h.1,λi x L f l=>e _ _ (h.2 i x L f l)⟩
theorem pu.snoc {b d:Type}{w:World}{R:H}{T:TypeId}{k:H}{enc:d->C V}{val:b->V}{xs:C b}{l:C (C d)}(h:pu w R T k enc val xs l){x:b}{m:C d}(o:Own w (R+1) T k enc (val x) m):pu w R T k enc val (xs++[x]) (l++[m]):=by
 refine⟨by rw[eX,eX,h.1];rfl,λi y n e f=>?_⟩;rcases jk i xs.length with a|a
 .rw[uM a] at e
  rw[uM (by rw[<-h.1];exact a)] at f;exact h.2 i y n e f
 .rw[su a] at e
  rw[su (by rw[<-h.1];exact a),<-h.1] at f
  grind
structure rP (d:H)(P:(H->C Bs)->Prop)(w:World)(R:H)(cs:Array V)(c:Cont)(es:C EvC)(ds:C aO)(ms:C aP):Prop where
 t:wI d P w R cs c.nl
 e:∃v,cs[4]?=I v/\Own w (R+1) 50 9 dK v es
 d:∃v,cs[5]?=I v/\Own w (R+1) 65 2 dU v ds
 m:∃v,cs[6]?=I v/\Own w (R+1) 67 4 dV v ms
 q:∃v,cs[7]?=I v/\Own w (R+1) 69 2 eY v c.Q
 be:es.map EvC.base=c.E
 bd:ds.map aO.base=c.D
 bm:ms.map aP.base=c.M
 se:pu w R 148 3 bI EvC.val es c.SE
 sd:pu w R 3 1 aQ aO.val ds c.SD
 sm:pu w R 3 1 aQ aP.val ms c.SM
abbrev zB:=rP 1 TH
theorem Own.pK {a:Type}{X Y:World}{R:H}{T:TypeId}{k:H}{enc:a->C V}{b:C a}(h:Own X (R+1) T k enc v b)(d:Same (λi=>i≠R) X Y):Own Y (R+1) T k enc v b:=
 h.same d (λg f e=>by have:=(h.lt g f).1;omega)
theorem rP.nV {X Y:World}{R:H}{cs l:Array V}{m:C aO}{n:C aP}(h:rP d P X R cs c E m n)(a:Same (λi=>i≠R) X Y)(o:wI d P Y R l nl)(f:∀j,4<=j->j<8->l[j]?=cs[j]?):
  rP d P Y R l {c with nl:=nl} E m n:=
 ⟨o,(let⟨v,b,e⟩:=h.e;⟨v,(f 4 ah ah).trans b,e.pK a⟩),(let⟨v,b,e⟩:=h.d;⟨v,(f 5 ah ah).trans b,e.pK a⟩),(let⟨v,b,e⟩:=h.m;⟨v,(f 6 ah ah).trans b,e.pK a⟩),
 (let⟨v,b,e⟩:=h.q;⟨v,(f 7 ah ah).trans b,e.pK a⟩),h.be,h.bd,h.bm,h.se.imp (λ_ _ h=>h.pK a),h.sd.imp (λ_ _ h=>h.pK a),h.sm.imp (λ_ _ h=>h.pK a)⟩
theorem zB.nV {X Y:World}{R:H}{cs a:Array V}{b:C aO}{d:C aP}(h:zB X R cs c E b d)(e:Same (λi=>i≠R) X Y)(f:Cn Y R a nl)(l:∀j,j<8->a[j]?=cs[j]?):
  zB Y R a {c with nl:=nl} E b d:=by grind [rP.nV]
theorem Own.gT {a γ:Type}{X Y:World}{R:H}{T t:TypeId}{k b:H}{enc:a->C V}{m:γ->C V}{x:V}{d:C a}{n:C γ}(h:Own X (R+1) T k enc v d)(o:Own X (R+1) t b m x n)(p:T≠t)(q:Same (λi=>i≠R/\x.ownBlock≠I i) X Y):Own Y (R+1) T k enc v d:=
 h.same q (λg f=>⟨λe=>by have:=(h.lt g f).1;omega,λe=>by
  obtain⟨u,y,r⟩:=h.tag f;obtain⟨z,A,l⟩:=o.tag e;rw[r] at l
  cases l
  exact p rfl⟩)
theorem rP.event {X Y:World}{R:H}{cs:Array V}{p:C aO}{q:C aP}(h:rP d P X R cs c E p q){x:V}(r:cs[4]?=I v)(a:Same (λi=>i≠R/\v.ownBlock≠I i) X Y){ev:EvC}{l:C Sn}
  (t:Own Y (R+1) 50 9 dK x (E++[ev])) (u:Bx Y R (cs.setIfInBounds 4 x)) (y:Own X (R+1) 148 3 bI ev.val l):rP d P Y R (cs.setIfInBounds 4 x) (c.ev ev.base l) (E++[ev]) p q:=by
 obtain⟨z,n,b⟩:=h.e;obtain rfl:z=v:=by rw[r] at n;injection n with n;exact n.symm
 have A:4<cs.size:=(fH.1 r).1;have o:∀j,4≠j->(cs.setIfInBounds 4 x)[j]?=cs[j]?:=λj F=>iQ F
 refine⟨⟨u,λk Q=>?_,h.t.n⟩,⟨x,ru A,t⟩,?_,?_,?_,?_,h.bd,h.bm,?_,?_,?_⟩
 .obtain⟨e,f,m⟩:=h.t.t k Q
  exact⟨e,(o _ ah).trans f,m.gT b aj a⟩
 .obtain⟨e,f,m⟩:=h.d
  exact⟨e,(o _ ah).trans f,m.gT b aj a⟩
 .obtain⟨e,f,m⟩:=h.m
  exact⟨e,(o _ ah).trans f,m.gT b aj a⟩
 .obtain⟨e,f,m⟩:=h.q
  exact⟨e,(o _ ah).trans f,m.gT b aj a⟩
 .show(E++[ev]).map EvC.base=c.E++[ev.base]
  rw[fV,h.be];rfl
 .exact(h.se.imp (λ_ _ h=>h.gT b aj a)).snoc (y.gT b aj a)
 .exact h.sd.imp (λ_ _ h=>h.gT b aj a)
 .exact h.sm.imp (λ_ _ h=>h.gT b aj a)
theorem rP.order {X Y:World}{R:H}{cs:Array V}{o:C aO}{r:C aP}(h:rP d P X R cs c E o r){n:V}(t:cs[5]?=I v)(a:Same (λi=>i≠R/\v.ownBlock≠I i) X Y){x:aO}{l:C Int}
  (u:Own Y (R+1) 65 2 dU n (o++[x])) (y:Bx Y R (cs.setIfInBounds 5 n)) (z:Own X (R+1) 3 1 aQ x.val l):rP d P Y R (cs.setIfInBounds 5 n) {c with D:=c.D++[x.base],SD:=c.SD++[l]} E (o++[x]) r:=by
 obtain⟨A,p,b⟩:=h.d;obtain rfl:A=v:=by rw[t] at p;injection p with p;exact p.symm
 have F:5<cs.size:=(fH.1 t).1;have q:∀j,5≠j->(cs.setIfInBounds 5 n)[j]?=cs[j]?:=λj Q=>iQ Q
 refine⟨⟨y,λk S=>?_,h.t.n⟩,?_,?_,?_,?_,h.be,(by show(o++[x]).map aO.base=c.D++[x.base];rw[fV,h.bd];rfl),h.bm,?_,?_,?_⟩
 .obtain⟨e,f,m⟩:=h.t.t k S
  exact⟨e,(q _ ah).trans f,m.gT b aj a⟩
 .obtain⟨e,f,m⟩:=h.e
  exact⟨e,(q _ ah).trans f,m.gT b aj a⟩
 .exact⟨n,ru F,u⟩
 .obtain⟨e,f,m⟩:=h.m
  exact⟨e,(q _ ah).trans f,m.gT b aj a⟩
 .obtain⟨e,f,m⟩:=h.q
  exact⟨e,(q _ ah).trans f,m.gT b aj a⟩
 .exact h.se.imp (λ_ _ h=>h.gT b aj a)
 .exact(h.sd.imp (λ_ _ h=>h.gT b aj a)).snoc (z.gT b aj a)
 .exact h.sm.imp (λ_ _ h=>h.gT b aj a)
theorem rP.Cq {X Y:World}{R:H}{cs:Array V}{r:C aO}{o:C aP}(h:rP d P X R cs c E r o){n:V}(t:cs[6]?=I v)(a:Same (λi=>i≠R/\v.ownBlock≠I i) X Y){x:aP}{l:C Int}
  (u:Own Y (R+1) 67 4 dV n (o++[x])) (y:Bx Y R (cs.setIfInBounds 6 n)) (z:Own X (R+1) 3 1 aQ x.val l):rP d P Y R (cs.setIfInBounds 6 n) {c with M:=c.M++[x.base],SM:=c.SM++[l]} E r (o++[x]):=by
 obtain⟨A,p,b⟩:=h.m;obtain rfl:A=v:=by rw[t] at p;injection p with p;exact p.symm
 have F:6<cs.size:=(fH.1 t).1;have q:∀j,6≠j->(cs.setIfInBounds 6 n)[j]?=cs[j]?:=λj Q=>iQ Q
 refine⟨⟨y,λk S=>?_,h.t.n⟩,?_,?_,?_,?_,h.be,h.bd,(by show(o++[x]).map aP.base=c.M++[x.base];rw[fV,h.bm];rfl),?_,?_,?_⟩
 .obtain⟨e,f,m⟩:=h.t.t k S
  exact⟨e,(q _ ah).trans f,m.gT b aj a⟩
 .obtain⟨e,f,m⟩:=h.e
  exact⟨e,(q _ ah).trans f,m.gT b aj a⟩
 .obtain⟨e,f,m⟩:=h.d
  exact⟨e,(q _ ah).trans f,m.gT b aj a⟩
 .exact⟨n,ru F,u⟩
 .obtain⟨e,f,m⟩:=h.q
  exact⟨e,(q _ ah).trans f,m.gT b aj a⟩
 .exact h.se.imp (λ_ _ h=>h.gT b aj a)
 .exact h.sd.imp (λ_ _ h=>h.gT b aj a)
 .exact(h.sm.imp (λ_ _ h=>h.gT b aj a)).snoc (z.gT b aj a)
theorem rP.want {X Y:World}{R:H}{cs:Array V}{p:C aO}{q:C aP}(h:rP d P X R cs c E p q){m:V}(r:cs[7]?=I v)(a:Same (λi=>i≠R/\v.ownBlock≠I i) X Y){x:Wa}
  (t:Own Y (R+1) 69 2 eY m (c.Q++[x])) (u:Bx Y R (cs.setIfInBounds 7 m)):rP d P Y R (cs.setIfInBounds 7 m) {c with Q:=c.Q++[x]} E p q:=by
 obtain⟨y,n,b⟩:=h.q;obtain rfl:y=v:=by rw[r] at n;injection n with n;exact n.symm
 have z:7<cs.size:=(fH.1 r).1;have o:∀j,7≠j->(cs.setIfInBounds 7 m)[j]?=cs[j]?:=λj A=>iQ A
 refine⟨⟨u,λk F=>?_,h.t.n⟩,?_,?_,?_,?_,h.be,h.bd,h.bm,?_,?_,?_⟩
 .obtain⟨e,f,l⟩:=h.t.t k F
  exact⟨e,(o _ ah).trans f,l.gT b aj a⟩
 .obtain⟨e,f,l⟩:=h.e
  exact⟨e,(o _ ah).trans f,l.gT b aj a⟩
 .obtain⟨e,f,l⟩:=h.d
  exact⟨e,(o _ ah).trans f,l.gT b aj a⟩
 .obtain⟨e,f,l⟩:=h.m
  exact⟨e,(o _ ah).trans f,l.gT b aj a⟩
 .exact⟨m,ru z,t⟩
 .exact h.se.imp (λ_ _ h=>h.gT b aj a)
 .exact h.sd.imp (λ_ _ h=>h.gT b aj a)
 .exact h.sm.imp (λ_ _ h=>h.gT b aj a)
end Yd
namespace Yd
open Option renaming some->J
open Go Go.RowKit Go.Proofs Go.Maps Tryz
open Go renaming World->C,Value->N
open Go.IntKind renaming i64->D
open Go.Value renaming int->L,pointer->O
open Tryz renaming prog->G
open _root_ renaming List->H,Nat->I,absurd->M
theorem Ic:170<Tryz.prog.types.size:=oH au
theorem NH:(match Tryz.prog.underlying 170 with|some (.array _ _)|some (.struct _)=>true|_=>false)=true:=au
theorem QJ:laidOutB G=true:=au
theorem TJ:Tryz.prog.keyTypeAt 3 170=true:=au
theorem Ie:WideMaps.KeyLaw G 170:=deep_law_laid QJ (m:=3) ah Ic TJ NH
theorem NJ:Tryz.prog.keyType 170=true:=au
theorem D6:Tryz.prog.cellsOf 170=2:=au
theorem KY:Tryz.prog.cellsOf 3=1:=au
theorem Ig (u:C):(zeroValue 3).run G u= .ok (L D 0) u:=au
def Wh (t x:Int):Lit:= .string (keyBytes [.int .i64 t,.int .i64 x])
theorem NK (t x:Int)(a:(Lit.int D t).wf=true)(b:(Lit.int D x).wf=true)(n:I):Tryz.prog.keyLits (n+2) 170 [L D t,L D x]=J [.int .i64 t,.int .i64 x]:=by
 have d:Tryz.prog.keyLits (n+1) 3 [L D t]=J [.int .i64 t]:=by
  unfold Program.keyLits;rw[underlying3];simp[a]
 have e:Tryz.prog.keyLits (n+1) 3 [L D x]=J [.int .i64 x]:=by
  unfold Program.keyLits;rw[underlying3];simp[b]
 unfold Program.keyLits;rw[underlying170];simp[D6,KY,List.mapM_cons,d,e]
theorem Fz {t x:Int}(a:(Lit.int D t).wf=true)(b:(Lit.int D x).wf=true):keyOf G 170 (lX t x)=J (Wh t x):=by
 have d:Tryz.prog.types.size+1=(Tryz.prog.types.size - 1)+2:=by have:=Ic;omega
 unfold keyOf;rw[underlying170];simp only[NJ,d];rw[aA (by simp[Value.formed,underlying170,D6])];rw[show(lX t x).cells.toList=[L D t,L D x] from rfl,NK t x a b]
 rfl
def jm (a:C)(b:I)(E:H EvC):Prop:=∃n f,n<=E.length/\kH G 170 3 a b n f/\∀t x,(f t x).getD 0=(fI E t x:Int)
theorem jm.new (w:C):jm (w.alloc (.map #[] 0)) w.1.size []:=⟨0,_,aS _,kH.new w,λ_ _=>rfl⟩
variable{a:C}{b:I}{E:H EvC}
theorem jm.of_eq {d:C}(h:jm a b E)(q:d.1[b]?=a.1[b]?):jm d b E:=(let⟨n,f,e,l,m⟩:=h;⟨n,f,e,l.of_eq q,m⟩)
theorem jm.obj (h:jm a b E):∃d e,a.1[b]?=J (.map d e):=(let⟨_,_,_,f,_⟩:=h;f.obj)
theorem jm.lt (h:jm a b E):b<a.1.size:=(let⟨_,_,_,d,_⟩:=h;d.lt)
theorem jm.same {A:I->Prop}{d:C}(h:jm a b E)(s:Same A a d)(e:A b):jm d b E:=h.of_eq (s.block b e h.lt)
theorem jm.other {e:EvC}(h:jm a b E)(d:e.kind≠2):jm a b (E++[e]):=
 (let⟨n,f,o,l,m⟩:=h;⟨n,f,by rw[eX];omega,l,λt x=>by rw[m,lF,ay (λk=>d k.1)];rfl⟩)
theorem jm.look (h:jm a b E){t x:Int}(d:(Lit.int D t).wf=true)(e:(Lit.int D x).wf=true):
  (Instr.lookup 83 (.map (J b)) (.agg #[L D t,L D x]) false).run G a= .ok (L D (fI E t x:Int)) a:=by
 obtain⟨n,f,_,l,m⟩:=h;rw[<-m];exact l.look Ie underlying83 underlying3 (Ig a) (Fz d e)
theorem jm.bump (h:jm a b E)(hE:E.length<=3000)(e:EvC)(A:e.kind=2)(F:(Lit.int D e.t).wf=true)(P:(Lit.int D e.obj).wf=true):
  ∃(r:N)(p:I)(d m:C),(Instr.mapEntry 83 (.map (J b)) (.agg #[L D e.t,L D e.obj])).run G a= .ok (.tuple #[r,L D p]) d/\
   (Instr.lookup 83 (.map (J b)) (.agg #[L D e.t,L D e.obj]) false).run G d= .ok (L D (fI E e.t e.obj:Int)) d/\
   (Instr.entryStore 83 (.map (J b)) (L D p) (L D ((fI E e.t e.obj:Int)+1))).run G d= .ok () m/\Same (λi=>i≠b) a d/\Same (λi=>i≠b) a m/\jm m b (E++[e]):=by
 obtain⟨n,f,hn,Q,u⟩:=h;have hl:=zy E e.t e.obj;obtain⟨r,p,d,m,S,y,Z,⟨o1,e1⟩,⟨o2,e2⟩,γ⟩:=Q.entry Ie underlying83 underlying3 Ig (by unfold maxLen;omega) (Fz F P) (v:=(fI E e.t e.obj:Int)+1) (WalkArith.wf_i64 ah);rw[u] at y;have z:∀o,Same (λi=>i≠b) a (ChangeMaps.setBlock a b o):=λo=>⟨rfl,rfl,rfl,by simp[ChangeMaps.setBlock],λi hi _=>by
  show(a.1.setIfInBounds b o)[i]?=_;rw[iQ (λq=>hi q.symm)]⟩
 refine⟨r,p,d,m,S,y,Z,e1▸z o1,e2▸z o2,n+1,_,by rw[eX,pJ];omega,γ,λt x=>?_⟩;rw[lF];show((if t=e.t/\x=e.obj then J _ else f t x:Option Int)).getD 0=_;by_cases l:t=e.t/\x=e.obj
 .rw[aA l,aA ⟨A,l.1.symm,l.2.symm⟩,l.1,l.2];rfl
 .rw[ay l,ay (λk=>l ⟨k.2.1.symm,k.2.2.symm⟩),u];rfl
variable{c:Cont}
theorem PU {d:Cont}{n:I->H Bs}(h:Nm c d)(a:d.nl=n):{c with nl:=n}=d:=by
 obtain⟨b,e,f,l,m,o,p,q⟩:=d;obtain⟨r,t,u,v,x,y,z⟩:=h
 grind
structure gZ (B:I)(w:C)(R:I)(cs:Array N)(c:Cont)(es:H EvC)(ds:H aO)(ms:H aP):Prop where
 s:zB w R cs c es ds ms
 m:∃mb,cs[12]?=J (.map (J mb))/\jm w mb c.E/\B<=mb
 b:B<=R
theorem Bx.vE {w:C}{R:I}{cs:Array N}{v:N}{j:I}(h:Bx w R cs)(f:cs[j]?=J v)(a:∃es d,w.1[b]?=J (.map es d)):b≠R:=λe=>by
 obtain⟨es,d,a⟩:=a;subst e;have:=(h.1 j).trans f;unfold World.cell? at this;simp[a] at this
theorem gZ.nV {B:I}{X Y:C}{R:I}{cs a:Array N}{b:H aO}{d:H aP}{nl:I->H Bs}(h:gZ B X R cs c E b d)(e:Same (λi=>i≠R) X Y)(n:Cn Y R a nl)(f:∀j,j<8\/j=12->a[j]?=cs[j]?):
  gZ B Y R a {c with nl:=nl} E b d:=
 ⟨h.s.nV e n (λj o=>f j (.inl o)),(let⟨p,l,m,q⟩:=h.m;⟨p,(f 12 (.inr rfl)).trans l,m.same e (h.s.t.b.vE l m.obj),q⟩),h.b⟩
theorem gZ.below {B:I}{X Y:C}{R:I}{cs:Array N}{a:H aO}{b:H aP}(h:gZ B X R cs c E a b)(d:Below X.1.size X Y):gZ B Y R cs c E a b:=
 h.nV (Same.of_below d (λ_ _ h=>h)) (h.s.t.below d) (λ_ _=>rfl)
def EI (T:TypeId):Prop:=T≠50/\T≠65/\T≠67/\T≠69/\T≠148
def jX (w:C)(a:I):Prop:=∀i,a<=i->i<a+3->∃q T b,w.1[i]?=J (.cells q T b)/\EI T
def jJ (B a:I)(w:C):Prop:=∀W,Same (λi=>i<B\/(a<=i/\i<a+3)) w W->ql W
theorem jJ.same {B:I}{w X:C}(h:jJ B b w)(s:Same (λi=>i<B\/(b<=i/\i<b+3)) w X):jJ B b X:=λW k=>h W (s.tr k)
theorem jJ.r {B R:I}{w:C}(h:jJ B b w)(a:B<=R)(d:R<b):yN R w:=λW k=>h W (k.mono (λi e _=>by omega))
theorem jJ.here {B:I}{w:C}(h:jJ B b w):ql w:=h w (Same.refl' w)
theorem Same.Jr {B:I}{w X:C}(s:Same (λi=>i<B\/(b<=i/\i<b+3)) w X)(h:jX w b):jX X b:=
 λi a d=>(let⟨q,T,f,e,l⟩:=h i a d;⟨q,T,f,(s.block i (.inr ⟨a,d⟩) (fH.1 e).1).trans e,l⟩)
def fC (B a R:I)(d:Cont)(w:C)(e:Ending)(w':C):Prop:=
 Same (λi=>i<B\/(a<=i/\i<a+3)) w w'/\(aR d->e= .returned (.tuple #[])/\∃cs es ds ms,gZ B w' R cs d es ds ms)/\(¬aR d->e= .panicked kz)
section
variable {B K R:I}{cs:Array N}{c:Cont}{es:H EvC}{ds:H aO}{ms:H aP}
theorem QK (k:I)(l:k<4)(s:Bs)(w:C)(h:gZ B w R cs c es ds ms)(o:aR c)(p:bW ⟨s.toArray⟩=true)(q:jJ B K w):
  Calls G 119 #[O (J ⟨R,0,none⟩),L D (k:Int),.string ⟨s.toArray⟩] w (λe w'=>Same (λi=>i≠R) w w'/\
   (aR (c.put k s)->e= .returned (L D (c.no k s))/\∃a,gZ B w' R a (c.put k s) es ds ms/\a.size=cs.size/\∀j,j<8\/j=12->a[j]?=cs[j]?)/\(¬aR (c.put k s)->e= .panicked kz)):=by
 refine(zA k l s w h.s.t p q.here).mono ?_;rintro e w' ⟨m,b⟩;refine⟨m,?_⟩;rw[Fw o l];by_cases d:(bV (c.nl k) s).length<=iF k
 .rw[aA d] at b
  obtain⟨rfl,a,r,t,n⟩:=b;exact⟨λ_=>⟨rfl,a,h.nV m r (λj u=>n j ah),t,λj u=>n j ah⟩,λf=>M d f⟩
 .rw[ay d] at b
  exact⟨λf=>M f d,λ_=>b⟩
theorem QL (v:To)(w:C)(h:gZ B w R cs c es ds ms)(o:aR c)(p:nW v)(q:jJ B K w):
  Calls G 121 #[O (J ⟨R,0,none⟩),iZ v] w (λe w'=>Same (λi=>i≠R) w w'/\
   (aR (c.bF v).1->e= .returned (.agg #[L D (c.bF v).2.t,L D (c.bF v).2.k])/\∃b,gZ B w' R b (c.bF v).1 es ds ms/\b.size=cs.size/\∀j,j<8\/j=12->b[j]?=cs[j]?)/\(¬aR (c.bF v).1->e= .panicked kz)):=by
 refine(Jp v p w h.s.t q.here).mono ?_;rintro e w' ⟨m,d⟩;refine⟨m,?_⟩;rw[NG o];by_cases f:v.k=0\/(bV (c.nl 0) v.name).length<=iF 0
 .rw[aA f] at d
  obtain⟨rfl,b,r,t,n⟩:=d;refine⟨λ_=>⟨?_,b,?_,t,λj u=>n j ah⟩,λl=>M f l⟩
  .unfold Cont.bF
   by_cases a:v.k=0
   .rw[aA a,aA a,a]
   .rw[ay a,ay a];rfl
  .have:=h.nV m r (λj u=>n j ah)
   unfold Cont.bF;unfold PN at this;by_cases a:v.k=0
   .rw[aA a] at this ⊢;exact this
   .rw[ay a] at this ⊢;exact this
 .rw[ay f] at d
  exact⟨λl=>M l f,λ_=>d⟩
theorem TK (l:H Bs)(m:Option Addr)(n t:I)(w:C)(h:gZ B w R cs c es ds ms)(x:aR c)(y:Row w 1 encStr m n t l)(z:∀b o,m=J ⟨b,o,none⟩->b≠R)(A:∀s∈l,bW ⟨s.toArray⟩=true)(d:n<=100000)(E:jJ B K w)(F:R<K):
  Calls G 122 #[O (J ⟨R,0,none⟩),.slice m n t] w (λe w'=>Same (λi=>i≠R) w w'/\
   (aR (c.ts l).1->∃a q,e= .returned (.slice a l.length q)/\Own w' w.1.size 3 1 aQ (.slice a l.length q) (c.ts l).2/\∃f,gZ B w' R f (c.ts l).1 es ds ms/\f.size=cs.size/\∀j,j<8\/j=12->f[j]?=cs[j]?)/\(¬aR (c.ts l).1->e= .panicked kz)):=by
 refine(Wd l m n t w h.s.t y z A d (E.r h.b F)).mono ?_;rintro e w' ⟨u,p⟩;refine⟨u,?_⟩;rw[QG x];by_cases r:((fU c.nl l).1 0).length<=iF 0
 .rw[aA r] at p
  obtain⟨a,q,f,rfl,P,Q,S,v⟩:=p;have Z:{c with nl:=(fU c.nl l).1}=(c.ts l).1:=PU (Nm.ts l c) (Ar l c).1;refine⟨λ_=>⟨a,q,rfl,by rw[(Ar l c).2];exact P,f,?_,S,λj hj=>v j ah⟩,λd=>M r d⟩;rw[<-Z];exact h.nV u Q (λj hj=>v j ah)
 .rw[ay r] at p
  exact⟨λd=>M d r,λ_=>p⟩
theorem TL (ev:EvC)(l:H Sn)(w:C)(h:zB w R cs c es ds ms)(P:∃a,cs[12]?=J (.map (J a))/\jm w a (c.E++[ev.base])/\B<=a)(Q:B<=R)(v:aR c)(S:Own w (R+1) 148 3 bI ev.val l)(Z:ev.kind=2->ev.v.k<=999)(hK:jX w K)(η:R<K):
  Calls G 118 #[O (J ⟨R,0,none⟩),gQ ev] w (λe w'=>(∀g q T x,w.1[g]?=J (.cells q T x)->T≠50->g≠R->w'.1[g]?=w.1[g]?)/\fC B K R (c.ev ev.base l) w e w'):=by
 obtain⟨v4,y,b⟩:=h.e;have z:es.length=c.E.length:=by rw[<-h.be,bC]
 refine(Fy ev w h.t.b y b (by rw[z];exact v.2.1)).mono ?_;rintro e w' ⟨f,m⟩;refine⟨λg q T x o p γ=>f.block g ⟨γ,λq=>by
  obtain⟨δ,f1,r⟩:=b.tag q;rw[r] at o
  cases o
  exact p rfl⟩ (fH.1 o).1,f.mono (λi d _=>⟨by omega,λq=>by
  rcases d with d|d
  .have:=(b.lt i q).1;omega
  .obtain⟨_,_,q1⟩:=b.tag q
   obtain⟨_,T,_,A,p⟩:=hK i d.1 d.2;rw[q1] at A
   cases A
   exact p.1 rfl⟩),?_⟩
 rw[Ib v,<-z];by_cases n:es.length<3000
 .rw[aA n] at m
  obtain⟨rfl,v',ε,ζ⟩:=m;obtain⟨a,E,t,m3⟩:=P;refine⟨λ_=>⟨rfl,_,_,_,_,h.event y f ε ζ S,⟨a,?_,?_,m3⟩,Q⟩,λu=>M ⟨n,Z⟩ u⟩
  .rw[iQ ah];exact E
  .refine t.same f ⟨h.t.b.vE E t.obj,λq=>?_⟩
   obtain⟨δ,f1,r⟩:=b.tag q;obtain⟨_,_,F⟩:=t.obj;rw[r] at F;cases F
 .rw[ay n] at m
  exact⟨λu=>M u.1 n,λ_=>m⟩
end
end Yd
namespace Yd
open List renaming getElem?_set_ne->N,getElem?_set_self->R
open Option renaming some->H,none->U
open Go Go.RowKit Go.Proofs Tryz
open Below renaming refl->O
open Go.Value renaming slice->G
open RowKit renaming intOf->V
open Yd renaming hid->C
open _root_ renaming trivial->I,List->J
def jH {a b:Type}(B:Nat)(X:World)(T:TypeId)(d:Nat)(enc:b->J Value)(val:a->Value)(xs:J a)(e:J (J b))(k:Nat):Prop:=
 (∀i x L,i<k->xs[i]?=H x->e[i]?=H L->Own X B T d enc (val x) L)/\∀i j x y,i<j->j<k->xs[i]?=H x->xs[j]?=H y->∀g,(val x).ownBlock=H g->(val y).ownBlock≠H g
section
variable {α β:Type}{B:Nat}{X Y:World}{T:TypeId}{ek k:Nat}{enc:β->J Value}{val:α->Value}{xs:J α}{Ls:J (J β)}
theorem jH.zero:jH B X T ek enc val xs Ls 0:=⟨λ_ _ _ h=>absurd h (Nat.not_lt_zero _),λ_ _ _ _ _ h=>absurd h (Nat.not_lt_zero _)⟩
theorem jH.imp (h:jH B X T ek enc val xs Ls k)(a:∀v L,Own X B T ek enc v L->Own Y B T ek enc v L):jH B Y T ek enc val xs Ls k:=⟨λi x L b d e=>a _ _ (h.1 i x L b d e),h.2⟩
theorem jH.step {y:α}{l:J β}(u:jH B X T ek enc val xs Ls k)(m:jH B Y T ek enc val xs Ls k)(E:xs.length=Ls.length)(n:k<xs.length)(v:Ls[k]?=H l)(o:Own Y X.1.size T ek enc (val y) l)(A:B<=X.1.size):jH B Y T ek enc val (xs.set k y) Ls (k+1):=by
 refine⟨λi x f F a b=>?_,λi j x z p P a d g r t=>?_⟩
 .by_cases e:i=k
  .subst e
   rw[R n] at a;injection a with a;rw[v] at b;injection b with b;subst a b;exact o.mono A
  .rw[N (λq=>e q.symm)] at a
   exact m.1 i x f ah a b
 .rw[N ah] at a
  by_cases e:j=k
  .subst e
   rw[R n] at d;injection d with d;subst d;obtain⟨f,b⟩:∃f,Ls[i]?=H f:=⟨_,dM (by have:=(bq.1 a).1;omega)⟩;have Q:=((u.1 i x f p a b).lt g r).2;have S:=(o.lt g t).1;omega
  .rw[N (λq=>e q.symm)] at d
   exact m.2 i j x z p ah a d g r t
end
structure HO (w X:World)(h:HC)(es:J EvC)(ds:J aO)(ms:J aP)(c:Cont)(i j k:Nat):Prop where
 st:St w X h es ds ms c
 oe:Own X w.1.size 50 9 dK h.e.v es
 od:Own X w.1.size 65 2 dU h.d.v ds
 om:Own X w.1.size 67 4 dV h.m.v ms
 oq:Own X w.1.size 69 2 eY h.w.v c.Q
 on:∀q,q<4->Own X w.1.size 9 1 encStr (h.nm q).v (c.nl q)
 fe:jH w.1.size X 148 3 bI EvC.val es c.SE i
 fd:jH w.1.size X 3 1 aQ aO.val ds c.SD j
 fm:jH w.1.size X 3 1 aQ aP.val ms c.SM k
 fx:∀i' j' x y,i'<j->j'<k->ds[i']?=H x->ms[j']?=H y->∀g,(aO.val x).ownBlock=H g->(aP.val y).ownBlock≠H g
section
variable {w X Y:World}{h:HC}{es:J EvC}{ds:J aO}{ms:J aP}{c:Cont}{i j k:Nat}
theorem HO.below (s:HO w X h es ds ms c i j k)(a:Below X.1.size X Y):HO w Y h es ds ms c i j k:=
 ⟨s.st.below a,s.oe.below a rfl,s.od.below a rfl,s.om.below a rfl,s.oq.below a rfl,λq b=>(s.on q b).below a rfl,s.fe.imp (λ_ _ o=>o.below a rfl),s.fd.imp (λ_ _ o=>o.below a rfl),s.fm.imp (λ_ _ o=>o.below a rfl),s.fx⟩
theorem HO.Nv {g:Nat}{x:EvC}{y:J Sn}(s:HO w X h es ds ms c i j k)(ha:h.e.a=H ⟨g,0,U⟩)(e:es[i]?=H x)(f:c.SE[i]?=H y)(n:Below X.1.size X Y)(sl:Sl)(p:y.length<=2000000)(l:Own Y X.1.size 148 3 bI sl.v y):
  HO w (Y.setCell ⟨g,i*9+8,U⟩ sl.v) h (es.set i (x.wi sl)) ds ms c (i+1) j k:=by
 have a:=s.below n;have r:h.e.v.ownBlock=H g:=by simp only[Sl.v,ha];rfl
 have b:=a.oe.tag r;have d:Same (λq=>q≠g) Y (Y.setCell ⟨g,i*9+8,U⟩ sl.v):=(Same.refl' Y).setTail (λq=>q rfl);have m:w.1.size<=X.1.size:=s.st.b.size;obtain⟨t,u⟩:=a.st.Nv a.oe ha e f sl ⟨p,.inr (l.mono m)⟩;refine⟨t,u,a.od.aJ b aj d,a.om.aJ b aj d,a.oq.aJ b aj d,λq v=>(a.on q v).aJ b aj d,jH.step s.fe (a.fe.imp (λ_ _ o=>o.aJ b aj d)) s.st.se.1 (bq.1 e).1 f (l.aJ b aj d) m,a.fd.imp (λ_ _ o=>o.aJ b aj d),a.fm.imp (λ_ _ o=>o.aJ b aj d),s.fx⟩
theorem HO.Nw {g:Nat}{x:aO}{p:J Int}(s:HO w X h es ds ms c i j k)(ha:h.d.a=H ⟨g,0,U⟩)(l:ds[j]?=H x)(v:c.SD[j]?=H p)(Q:Below X.1.size X Y)(sl:Sl)(S:p.length<=2000000)(m:Own Y X.1.size 3 1 aQ sl.v p):
  HO w (Y.setCell ⟨g,j*2+1,U⟩ sl.v) h es (ds.set j (x.wi sl)) ms c i (j+1) k:=by
 have a:=s.below Q;have Z:h.d.v.ownBlock=H g:=by simp only[Sl.v,ha];rfl
 have b:=a.od.tag Z;have d:Same (λq=>q≠g) Y (Y.setCell ⟨g,j*2+1,U⟩ sl.v):=(Same.refl' Y).setTail (λq=>q rfl);have y:w.1.size<=X.1.size:=s.st.b.size;obtain⟨h1,h2⟩:=a.st.Nw a.od ha l v sl ⟨S,.inr (m.mono y)⟩;refine⟨h1,a.oe.aJ b aj d,h2,a.om.aJ b aj d,a.oq.aJ b aj d,λq hq=>(a.on q hq).aJ b aj d,a.fe.imp (λ_ _ o=>o.aJ b aj d),jH.step s.fd (a.fd.imp (λ_ _ o=>o.aJ b aj d)) s.st.sd.1 (bq.1 l).1 v (m.aJ b aj d) y,a.fm.imp (λ_ _ o=>o.aJ b aj d),λz n x' A hi E f r t F P=>?_⟩;by_cases e:z=j
 .subst e
  rw[R (bq.1 l).1] at f;injection f with f;subst f;obtain⟨u,hM⟩:∃u,c.SM[n]?=H u:=⟨_,dM (by have:=(bq.1 r).1;have:=s.st.sm.1;omega)⟩;have h3:=((s.fm.1 n A u E r hM).lt t P).2;have h4:=(m.lt t F).1;omega
 .rw[N (λq=>e q.symm)] at f
  exact s.fx z n x' A ah E f r t F P
theorem HO.Ny {g:Nat}{x:aP}{p:J Int}(s:HO w X h es ds ms c i j k)(ha:h.m.a=H ⟨g,0,U⟩)(l:ms[k]?=H x)(v:c.SM[k]?=H p)(Q:Below X.1.size X Y)(sl:Sl)(S:p.length<=2000000)(m:Own Y X.1.size 3 1 aQ sl.v p):
  HO w (Y.setCell ⟨g,k*4+3,U⟩ sl.v) h es ds (ms.set k (x.wi sl)) c i j (k+1):=by
 have a:=s.below Q;have Z:h.m.v.ownBlock=H g:=by simp only[Sl.v,ha];rfl
 have b:=a.om.tag Z;have d:Same (λq=>q≠g) Y (Y.setCell ⟨g,k*4+3,U⟩ sl.v):=(Same.refl' Y).setTail (λq=>q rfl);have y:w.1.size<=X.1.size:=s.st.b.size;obtain⟨h1,h2⟩:=a.st.Ny a.om ha l v sl ⟨S,.inr (m.mono y)⟩;refine⟨h1,a.oe.aJ b aj d,a.od.aJ b aj d,h2,a.oq.aJ b aj d,λq hq=>(a.on q hq).aJ b aj d,a.fe.imp (λ_ _ o=>o.aJ b aj d),a.fd.imp (λ_ _ o=>o.aJ b aj d),jH.step s.fm (a.fm.imp (λ_ _ o=>o.aJ b aj d)) s.st.sm.1 (bq.1 l).1 v (m.aJ b aj d) y,λn z A y' E hj r f t F P=>?_⟩;by_cases e:z=k
 .subst e
  rw[R (bq.1 l).1] at f;injection f with f;subst f;obtain⟨u,hM⟩:∃u,c.SD[n]?=H u:=⟨_,dM (by have:=(bq.1 r).1;have:=s.st.sd.1;omega)⟩;have h3:=((s.fd.1 n A u E r hM).lt t F).2;have h4:=(m.lt t P).1;omega
 .rw[N (λq=>e q.symm)] at f
  exact s.fx n z A y' E ah r f t F P
theorem Own.box {a:Type}{T:TypeId}{n:Nat}{enc:a->J Value}{v:Value}{xs:J a}(b:Own X w.1.size T n enc v xs)(s:St w X h es ds ms c)(d:T≠41)(q:Nat)(u:Value):Own (X.setCell ⟨w.1.size,q,U⟩ u) w.1.size T n enc v xs:=b.aJ s.tg d (sameBox s q u)
end
structure NM (w X:World)(h:HC)(es:J EvC)(ds:J aO)(ms:J aP)(c:Cont):Prop where
 b:Below w.1.size w X
 oe:Own X w.1.size 50 9 dK h.e.v es
 od:Own X w.1.size 65 2 dU h.d.v ds
 om:Own X w.1.size 67 4 dV h.m.v ms
 oq:Own X w.1.size 69 2 eY h.w.v c.Q
 on:∀q,q<4->Own X w.1.size 9 1 encStr (h.nm q).v (c.nl q)
 fe:jH w.1.size X 148 3 bI EvC.val es c.SE es.length
 fd:jH w.1.size X 3 1 aQ aO.val ds c.SD ds.length
 fm:jH w.1.size X 3 1 aQ aP.val ms c.SM ms.length
 be:es.map EvC.base=c.E
 bd:ds.map aO.base=c.D
 bm:ms.map aP.base=c.M
 fx:∀x∈ds,∀y∈ms,∀g,(aO.val x).ownBlock=H g->(aP.val y).ownBlock≠H g
 le:es.length=c.SE.length
 ld:ds.length=c.SD.length
 lm:ms.length=c.SM.length
def EJ (w:World)(c:Cont)(e:Ending)(X:World):Prop:=∃h es ds ms,e= .returned (fB h)/\NM w X h es ds ms c
theorem HO.fin {w X Y:World}{h:HC}{E:J EvC}{d:J aO}{e:J aP}{c:Cont}(s:HO w X h E d e c E.length d.length e.length)(a:Same (λi=>i≠w.1.size+1) X Y):EJ w c (.returned (fB h)) Y:=by
 have b:=s.st.t2;exact⟨h,E,d,e,rfl,a.below s.st.b (λi f=>by omega) s.st.b.size,s.oe.aJ b aj a,s.od.aJ b aj a,s.om.aJ b aj a,s.oq.aJ b aj a,λq m=>(s.on q m).aJ b aj a,
  s.fe.imp (λ_ _ o=>o.aJ b aj a),s.fd.imp (λ_ _ o=>o.aJ b aj a),s.fm.imp (λ_ _ o=>o.aJ b aj a),s.st.be,s.st.bd,s.st.bm,λx n y p g r t=>(let⟨i,f⟩:=qi.1 n;let⟨j,l⟩:=qi.1 p;s.fx i j x y (bq.1 f).1 (bq.1 l).1 f l g r t),s.st.se.1,s.st.sd.1,s.st.sm.1⟩
theorem GH (h:HC)(nl:Nat->J Bs)(e:J EvC)(l:J aO)(m:J aP)(p:J Wa)(v1:EvC->J Sn)(dn:aO->J Int)(mn:aP->J Int)(w:World)
  (hn:∀i,i<4->Row w 1 encStr (h.nm i).a (h.nm i).n (h.nm i).c (nl i)) (hd:Deep w h e l m p v1 dn mn) (hB:EH nl e l m p v1 dn mn):
  Calls Tryz.prog 76 #[fB h] w (EJ w (uj e.length nl e l m p v1 dn mn)):=by
 have o:=St.start hn hd hB e.length (by rw[hd.1.len];exact aC _);obtain⟨a,hC⟩:∃a,a=uj e.length nl e l m p v1 dn mn:=⟨_,rfl⟩;rw[<-hC] at o ⊢;have v2:=C o;have v5:Hid (a.Q=p):=C (by rw[hC];rfl);have b4:=o.e.1;have b5:=o.d.1;have b6:=o.m.1;clear hn hd hB hC o;obtain⟨ht,hs,ho,hp,he,j2,j3,j4⟩:=h;have f:=v2.q.bx;have n:=v2.q.b2;have t:=f.1;have γ:=f.2.1;have δ:=f.2.2;have μ:=n.1;have χ:=n.2.1;have ψ:=n.2.2;go_enter func76,ntmps76;go_wp2_with fail;refine aD 12 [(0,0),(1,0),(3,0),(4,0),(6,0),(7,0),(9,0),(10,0),(2,2),(12,1),(5,2),(8,2),(11,2),(13,2),(14,1),(15,2),(16,1),(17,2),(18,1),(19,2)] (λ_=>True) (λW'=>Bx W' w.1.size (aI ⟨ht,hs,ho,hp,he,j2,j3,j4⟩)) au au (trivial) (v2.q.bx) ?_;refine qC ?_;refine aG rfl rfl (λK b=>?_);go_simp;have j5:=C (v2.q.drew);clear f n t γ δ μ χ ψ;have d:=(j5.q.n 0 aj).row (hc:=gy) j5.q.b;have r:=(j5.q.n 0 aj).1;refine(show Calls _ _ _ _ (jf 9 1 encStr (a.nl 0) _) from by have:=vB ht.a ht.c (a.nl 0) _ (by rw[d.len];exact d) ah;rw[show(a.nl 0).length=ht.n from d.len] at this;exact this).mono ?_;rintro en Y0 ⟨n0,d0,rfl,j6,Ψ⟩;have Ω:=C (j5.q.below Ψ);have k1:=C (j6.mono (j5.q.b.size));have b7:=C Ψ;have y9:=C r;refine b _ _ ⟨I,Ω.q.bx⟩ ?_;clear b K j6 Ψ d r;refine qC ?_;refine aG rfl rfl (λK b=>?_);go_simp;have d:=(Ω.q.n 1 aj).row (hc:=gy) Ω.q.b;have r:=(Ω.q.n 1 aj).1;refine(show Calls _ _ _ _ (jf 9 1 encStr (a.nl 1) _) from by have:=vB hs.a hs.c (a.nl 1) _ (by rw[d.len];exact d) ah;rw[show(a.nl 1).length=hs.n from d.len] at this;exact this).mono ?_;rintro en Y1 ⟨n1,d1,rfl,j7,q0⟩;have q1:=C (Ω.q.below q0);have k2:=C (j7.mono (Ω.q.b.size));have x0:=C q0;have x1:=C r;refine b _ _ ⟨I,q1.q.bx⟩ ?_;clear b K j7 q0 d r;refine aG rfl rfl (λK b=>?_);go_simp;have d:=(q1.q.n 2 aj).row (hc:=gy) q1.q.b;have r:=(q1.q.n 2 aj).1;refine(show Calls _ _ _ _ (jf 9 1 encStr (a.nl 2) _) from by have:=vB ho.a ho.c (a.nl 2) _ (by rw[d.len];exact d) ah;rw[show(a.nl 2).length=ho.n from d.len] at this;exact this).mono ?_;rintro en Y2 ⟨n2,d2,rfl,j8,n⟩;have q2:=C (q1.q.below n);have k3:=C (j8.mono (q1.q.b.size));have k4:=C n;have x2:=C r;refine b _ _ ⟨I,q2.q.bx⟩ ?_;clear b K j8 n d r;refine aG rfl rfl (λK b=>?_);go_simp;have d:=(q2.q.n 3 aj).row (hc:=gy) q2.q.b;have r:=(q2.q.n 3 aj).1;refine(show Calls _ _ _ _ (jf 9 1 encStr (a.nl 3) _) from by have:=vB hp.a hp.c (a.nl 3) _ (by rw[d.len];exact d) ah;rw[show(a.nl 3).length=hp.n from d.len] at this;exact this).mono ?_;rintro en Y3 ⟨n3,d3,rfl,j9,q3⟩;have Γ:=C (q2.q.below q3);have k5:=C (j9.mono (q2.q.b.size));have v6:=C q3;have x3:=C r;refine b _ _ ⟨I,Γ.q.bx⟩ ?_;clear b K j9 q3 d r;have f:=Γ.q.bx;have t:=f.1;have γ:=f.2.1;have δ:=f.2.2;refine bA rfl rfl rfl (λK b=>?_);go_simp;refine b _ _ I ?_;clear b K;refine qC ?_;refine bA rfl rfl rfl (λK b=>?_);go_simp;refine b _ _ I ?_;clear b K;refine qC ?_;refine bA rfl rfl rfl (λK b=>?_);go_simp;refine b _ _ I ?_;clear b K;refine qC ?_;refine bA rfl rfl rfl (λK b=>?_);go_simp;refine b _ _ I ?_;clear b K;refine aH ?_;have y:=C (((k1.q.below x0.q rfl).below k4.q rfl).below v6.q rfl);have z:=C ((k2.q.below k4.q rfl).below v6.q rfl);have A:=C (k3.q.below v6.q rfl);have E:=C k5.q;have q8:=Γ.q.V3 ⟨n0,(a.nl 0).length,d0⟩ ⟨y9.q,.inr y.q⟩;have y:=C (y.q.box Γ.q aj 0 (Sl.v ⟨n0,(a.nl 0).length,d0⟩));have z:=C (z.q.box Γ.q aj 0 (Sl.v ⟨n0,(a.nl 0).length,d0⟩));have A:=C (A.q.box Γ.q aj 0 (Sl.v ⟨n0,(a.nl 0).length,d0⟩));have E:=C (E.q.box Γ.q aj 0 (Sl.v ⟨n0,(a.nl 0).length,d0⟩));have q9:=q8.V5 ⟨n1,(a.nl 1).length,d1⟩ ⟨x1.q,.inr z.q⟩;have y:=C (y.q.box q8 aj 1 (Sl.v ⟨n1,(a.nl 1).length,d1⟩));have z:=C (z.q.box q8 aj 1 (Sl.v ⟨n1,(a.nl 1).length,d1⟩));have A:=C (A.q.box q8 aj 1 (Sl.v ⟨n1,(a.nl 1).length,d1⟩));have E:=C (E.q.box q8 aj 1 (Sl.v ⟨n1,(a.nl 1).length,d1⟩));have j0:=q9.V6 ⟨n2,(a.nl 2).length,d2⟩ ⟨x2.q,.inr A.q⟩;have y:=C (y.q.box q9 aj 2 (Sl.v ⟨n2,(a.nl 2).length,d2⟩));have z:=C (z.q.box q9 aj 2 (Sl.v ⟨n2,(a.nl 2).length,d2⟩));have A:=C (A.q.box q9 aj 2 (Sl.v ⟨n2,(a.nl 2).length,d2⟩));have E:=C (E.q.box q9 aj 2 (Sl.v ⟨n2,(a.nl 2).length,d2⟩));have k6:=j0.V7 ⟨n3,(a.nl 3).length,d3⟩ ⟨x3.q,.inr E.q⟩;have y:=C (y.q.box j0 aj 3 (Sl.v ⟨n3,(a.nl 3).length,d3⟩));have z:=C (z.q.box j0 aj 3 (Sl.v ⟨n3,(a.nl 3).length,d3⟩));have A:=C (A.q.box j0 aj 3 (Sl.v ⟨n3,(a.nl 3).length,d3⟩));have E:=C (E.q.box j0 aj 3 (Sl.v ⟨n3,(a.nl 3).length,d3⟩));have v3:=C k6;clear q8 q9 j0 k6 f t γ δ Ω q1 q2 Γ k1 k2 k3 k5;have f:=v3.q.bx;have n:=v3.q.b2;have t:=f.1;have γ:=f.2.1;have δ:=f.2.2;have μ:=n.1;have χ:=n.2.1;have ψ:=n.2.2;go_wp2_with fail;refine aD 12 [(0,0),(1,0),(3,0),(4,0),(6,0),(7,0),(9,0),(10,0),(2,2),(12,1),(5,2),(8,2),(11,2),(13,2),(14,1),(15,2),(16,1),(17,2),(18,1),(19,2)] (λ_=>True) (λW'=>Bx W' w.1.size (aI ⟨⟨n0,(a.nl 0).length,d0⟩,⟨n1,(a.nl 1).length,d1⟩,⟨n2,(a.nl 2).length,d2⟩,⟨n3,(a.nl 3).length,d3⟩,he,j2,j3,j4⟩)) au au (trivial) (v3.q.bx) ?_;refine qC ?_;refine aG rfl rfl (λK b=>?_);go_simp;have z0:=C (v3.q.drew);clear f n t γ δ μ χ ψ;have d:=z0.q.e.row (hc:=oG) z0.q.b;have r:=z0.q.e.1;refine(show Calls _ _ _ _ (jf 50 _ dK e _) from by have:=Qx he.a he.c e _ (by rw[d.len];exact d) ah;rw[show e.length=he.n from d.len] at this;exact this).mono ?_;rintro en Z0 ⟨S,F,rfl,j6,Ψ⟩;have q4:=C (z0.q.below Ψ);have k7:=C (j6.mono (z0.q.b.size));have v4:=C Ψ;have x4:=C r;refine b _ _ ⟨I,q4.q.bx⟩ ?_;clear b K j6 Ψ d r;refine qC ?_;refine aG rfl rfl (λK b=>?_);go_simp;have d:=q4.q.d.row (hc:=pX) q4.q.b;have r:=q4.q.d.1;refine(show Calls _ _ _ _ (jf 65 _ dU l _) from by have:=Qz j2.a j2.c l _ (by rw[d.len];exact d) ah;rw[show l.length=j2.n from d.len] at this;exact this).mono ?_;rintro en Z1 ⟨Z,P,rfl,j7,q0⟩;have q5:=C (q4.q.below q0);have k8:=C (j7.mono (q4.q.b.size));have z1:=C q0;have x5:=C r;refine b _ _ ⟨I,q5.q.bx⟩ ?_;clear b K j7 q0 d r;refine aG rfl rfl (λK b=>?_);go_simp;have d:=q5.q.m.row (hc:=nG) q5.q.b;have r:=q5.q.m.1;refine(show Calls _ _ _ _ (jf 67 _ dV m _) from by have:=QA j3.a j3.c m _ (by rw[d.len];exact d) ah;rw[show m.length=j3.n from d.len] at this;exact this).mono ?_;rintro en Z2 ⟨am,Q,rfl,j8,n⟩;have q6:=C (q5.q.below n);have k9:=C (j8.mono (q5.q.b.size));have j1:=C n;have x6:=C r;refine b _ _ ⟨I,q6.q.bx⟩ ?_;clear b K j8 n d r;refine aG rfl rfl (λK b=>?_);go_simp;have d:=q6.q.q.row (hc:=qH) q6.q.b;have r:=q6.q.q.1;rw[v5.q] at d r;refine(show Calls _ _ _ _ (jf 69 _ eY p _) from by have:=QB j4.a j4.c p _ (by rw[d.len];exact d) ah;rw[show p.length=j4.n from d.len] at this;exact this).mono ?_;rintro en Z3 ⟨aq,cq,rfl,j9,q3⟩;have ε:=C (q6.q.below q3);have y0:=C (j9.mono (q6.q.b.size));have q7:=C q3;have x7:=C r;refine b _ _ ⟨I,ε.q.bx⟩ ?_;clear b K j9 q3 d r;have f:=ε.q.bx;have t:=f.1;have γ:=f.2.1;have δ:=f.2.2;refine bA rfl rfl rfl (λK b=>?_);go_simp;refine b _ _ I ?_;clear b K;refine qC ?_;refine bA rfl rfl rfl (λK b=>?_);go_simp;refine b _ _ I ?_;clear b K;refine qC ?_;refine bA rfl rfl rfl (λK b=>?_);go_simp;refine b _ _ I ?_;clear b K;refine qC ?_;refine bA rfl rfl rfl (λK b=>?_);go_simp;refine b _ _ I ?_;clear b K;refine aH ?_;have ν:=C (((k7.q.below z1.q rfl).below j1.q rfl).below q7.q rfl);have ξ:=C ((k8.q.below j1.q rfl).below q7.q rfl);have ο:=C (k9.q.below q7.q rfl);have π:=C y0.q;have y:=C (((((y.q.below (O _ _).drew rfl).below v4.q rfl).below z1.q rfl).below j1.q rfl).below q7.q rfl);have z:=C (((((z.q.below (O _ _).drew rfl).below v4.q rfl).below z1.q rfl).below j1.q rfl).below q7.q rfl);have A:=C (((((A.q.below (O _ _).drew rfl).below v4.q rfl).below z1.q rfl).below j1.q rfl).below q7.q rfl);have E:=C (((((E.q.below (O _ _).drew rfl).below v4.q rfl).below z1.q rfl).below j1.q rfl).below q7.q rfl);have ι:=ε.q.Xv ⟨S,e.length,F⟩ e ⟨x4.q,.inr ν.q⟩ ε.q.be ε.q.se;have ν:=C (ν.q.box ε.q aj 4 (Sl.v ⟨S,e.length,F⟩));have y:=C (y.q.box ε.q aj 4 (Sl.v ⟨S,e.length,F⟩));have ξ:=C (ξ.q.box ε.q aj 4 (Sl.v ⟨S,e.length,F⟩));have z:=C (z.q.box ε.q aj 4 (Sl.v ⟨S,e.length,F⟩));have ο:=C (ο.q.box ε.q aj 4 (Sl.v ⟨S,e.length,F⟩));have A:=C (A.q.box ε.q aj 4 (Sl.v ⟨S,e.length,F⟩));have π:=C (π.q.box ε.q aj 4 (Sl.v ⟨S,e.length,F⟩));have E:=C (E.q.box ε.q aj 4 (Sl.v ⟨S,e.length,F⟩));have κ:=ι.Xw ⟨Z,l.length,P⟩ l ⟨x5.q,.inr ξ.q⟩ ι.bd ι.sd;have ν:=C (ν.q.box ι aj 5 (Sl.v ⟨Z,l.length,P⟩));have y:=C (y.q.box ι aj 5 (Sl.v ⟨Z,l.length,P⟩));have ξ:=C (ξ.q.box ι aj 5 (Sl.v ⟨Z,l.length,P⟩));have z:=C (z.q.box ι aj 5 (Sl.v ⟨Z,l.length,P⟩));have ο:=C (ο.q.box ι aj 5 (Sl.v ⟨Z,l.length,P⟩));have A:=C (A.q.box ι aj 5 (Sl.v ⟨Z,l.length,P⟩));have π:=C (π.q.box ι aj 5 (Sl.v ⟨Z,l.length,P⟩));have E:=C (E.q.box ι aj 5 (Sl.v ⟨Z,l.length,P⟩));have ω:=κ.Xx ⟨am,m.length,Q⟩ m ⟨x6.q,.inr ο.q⟩ κ.bm κ.sm;have ν:=C (ν.q.box κ aj 6 (Sl.v ⟨am,m.length,Q⟩));have y:=C (y.q.box κ aj 6 (Sl.v ⟨am,m.length,Q⟩));have ξ:=C (ξ.q.box κ aj 6 (Sl.v ⟨am,m.length,Q⟩));have z:=C (z.q.box κ aj 6 (Sl.v ⟨am,m.length,Q⟩));have ο:=C (ο.q.box κ aj 6 (Sl.v ⟨am,m.length,Q⟩));have A:=C (A.q.box κ aj 6 (Sl.v ⟨am,m.length,Q⟩));have π:=C (π.q.box κ aj 6 (Sl.v ⟨am,m.length,Q⟩));have E:=C (E.q.box κ aj 6 (Sl.v ⟨am,m.length,Q⟩));have y1:=ω.Xy ⟨aq,p.length,cq⟩ ⟨x7.q,.inr π.q⟩;have ν:=C (ν.q.box ω aj 7 (Sl.v ⟨aq,p.length,cq⟩));have y:=C (y.q.box ω aj 7 (Sl.v ⟨aq,p.length,cq⟩));have ξ:=C (ξ.q.box ω aj 7 (Sl.v ⟨aq,p.length,cq⟩));have z:=C (z.q.box ω aj 7 (Sl.v ⟨aq,p.length,cq⟩));have ο:=C (ο.q.box ω aj 7 (Sl.v ⟨aq,p.length,cq⟩));have A:=C (A.q.box ω aj 7 (Sl.v ⟨aq,p.length,cq⟩));have π:=C (π.q.box ω aj 7 (Sl.v ⟨aq,p.length,cq⟩));have E:=C (E.q.box ω aj 7 (Sl.v ⟨aq,p.length,cq⟩));have y2:=C (y1.cast (c':=a) (by have:=v5.q;subst this;rfl));have v7:Hid (HO w _ ⟨⟨n0,(a.nl 0).length,d0⟩,⟨n1,(a.nl 1).length,d1⟩,⟨n2,(a.nl 2).length,d2⟩,⟨n3,(a.nl 3).length,d3⟩,⟨S,e.length,F⟩,⟨Z,l.length,P⟩,⟨am,m.length,Q⟩,⟨aq,p.length,cq⟩⟩ e l m a 0 0 0):=C ⟨y2.q,ν.q,ξ.q,ο.q,by rw[v5.q];exact π.q,λq hq=>(match q,hq with|0,_=>y.q|1,_=>z.q|2,_=>A.q|3,_=>E.q),jH.zero,jH.zero,jH.zero,λ_ _ _ _ h=>absurd h (Nat.not_lt_zero _)⟩;clear ι κ ω y1 f t γ δ q4 q5 q6 ε k7 k8 k9 y0 y2 ν ξ ο π y z A E;have f:=v7.q.st.bx;have n:=v7.q.st.b2;have t:=f.1;have γ:=f.2.1;have δ:=f.2.2;have μ:=n.1;have χ:=n.2.1;have ψ:=n.2.2;go_wp2_with fail;clear f n t γ δ μ χ ψ
 go_loopw [41] (λi wr=>∃(k:Nat)(xe:J EvC),k<=e.length/\i= .int .i64 k/\HO w wr ⟨⟨n0,(a.nl 0).length,d0⟩,⟨n1,(a.nl 1).length,d1⟩,⟨n2,(a.nl 2).length,d2⟩,⟨n3,(a.nl 3).length,d3⟩,⟨S,e.length,F⟩,⟨Z,l.length,P⟩,⟨am,m.length,Q⟩,⟨aq,p.length,cq⟩⟩ xe l m a k 0 0) (λi _=>e.length - (V i).toNat)
 case atStart=>exact⟨0,e,aS _,rfl,v7.q⟩
 case round=>
  obtain⟨k,xe,hk,rfl,u⟩:=hrel;have o:=u.st;have ρ:Own wr w.1.size 50 9 dK (G S e.length F) xe:=u.oe;by_cases y3:k<e.length
  .obtain⟨g,y4,rfl,σ,y5,y6,y7,τ⟩:=ρ.open_ (hc:=oG) ah
   obtain⟨x,hx⟩:∃x,xe[k]?=H x:=⟨_,dM ah⟩;have Δ:k<a.SE.length:=by rw[<-o.se.1];omega
   obtain⟨L,hL⟩:∃L,a.SE[k]?=H L:=⟨_,dM Δ⟩;have ζ:=o.se.2 k x L hx hL;have υ:=ζ.row (hc:=lK) o.b;have t:=(σ.1 (k*9+8)).trans (τ k x 8 _ hx rfl);have z2:Hid (∀W,Below wr.1.size wr W->Calls Tryz.prog 141 #[G x.sa x.sn x.sc] W (jf 148 3 bI L W)):=by
    refine C (λW hW=>?_);have hr:Row W 3 bI x.sa x.sn x.sc L:=υ.below hW rfl;rw[show x.sn=L.length from υ.len.symm] at hr ⊢;exact Qy x.sa x.sc L W hr (by have:=ζ.1;omega)
   have φ:=C u;have z3:=C σ;have HX:=C hx;have HL:=C hL;have z4:=C ζ.1;have Θ:=C t;have z5:=C (τ k x 8 _ hx rfl);have y8:k<2000000:=by have:=o.e.1;omega
   clear u o ρ σ hx hL ζ υ t τ Δ;go_wp2_with fail;refine aD 10 [(0,0),(1,0),(2,0),(3,0),(4,0),(5,0),(6,0),(7,0),(8,0),(9,2),(10,1),(11,1),(12,2)] (λ_=>True) (λW'=>Bx W' w.1.size #[(G n0 (a.nl 0).length d0),(G n1 (a.nl 1).length d1),(G n2 (a.nl 2).length d2),(G n3 (a.nl 3).length d3),(G (H ⟨g,0,U⟩) e.length F),(G Z l.length P),(G am m.length Q),(G aq p.length cq)]/\W'.cell? ⟨g,k*9+8,U⟩=H (G x.sa x.sn x.sc)) au au (trivial) (⟨φ.q.st.bx,Θ.q⟩) ?_;refine qC ?_;refine aG rfl rfl (λK b=>?_);go_simp;refine(z2.q _ (O _ _).drew).mono ?_;rintro en Y ⟨a',c',rfl,Ξ,Φ⟩;have z6:=C Ξ;have η:=C (show Below wr.1.size wr Y from(O _ _).drew.trans Φ);refine b _ _ ⟨I,φ.q.st.bx.keep η.q,aZ η.q rfl Θ.q⟩ ?_;clear b K Ξ Φ;have θ:=z3.q.keep η.q;have z7:=θ.2.1;have z8:=θ.2.2;have z9:Y.cell? ⟨g,k*9+8,U⟩=H (G x.sa x.sn x.sc):=(θ.1 _).trans z5.q;clear θ;refine qC ?_;refine bA rfl rfl rfl (λK b=>?_);go_simp;refine b _ _ I ?_;clear b K;refine aH ?_;have v0:=C (φ.q.Nv rfl HX.q HL.q η.q ⟨a',L.length,c'⟩ z4.q z6.q);clear z7 z8 z9;go_wp2_with fail;go_roundw
   case rel=>exact⟨k+1,_,by omega,by go_num,v0.q⟩
   case measure=>simp[V];omega
  .obtain rfl:k=e.length:=by omega
   have x8:=C (show xe.length=e.length from by obtain⟨_,_,q,_⟩:=u.oe.shape;simp only[Sl.v,Value.slice.injEq] at q;exact q.2.1.symm);have v8:=C u;clear u o ρ;have f:=v8.q.st.bx;have n:=v8.q.st.b2;have t:=f.1;have γ:=f.2.1;have δ:=f.2.2;have μ:=n.1;have χ:=n.2.1;have ψ:=n.2.2;go_wp2_with fail;have x9:=v8;clear f n t γ δ μ χ ψ
   go_loopw [60] (λi wr=>∃(k:Nat)(xd:J aO),k<=l.length/\i= .int .i64 k/\HO w wr ⟨⟨n0,(a.nl 0).length,d0⟩,⟨n1,(a.nl 1).length,d1⟩,⟨n2,(a.nl 2).length,d2⟩,⟨n3,(a.nl 3).length,d3⟩,⟨S,e.length,F⟩,⟨Z,l.length,P⟩,⟨am,m.length,Q⟩,⟨aq,p.length,cq⟩⟩ xe xd m a e.length k 0) (λi _=>l.length - (V i).toNat)
   case atStart=>exact⟨0,l,aS _,rfl,x9.q⟩
   case round=>
    obtain⟨k,xd,hk,rfl,u⟩:=hrel;have o:=u.st;have ρ:Own wr w.1.size 65 2 dU (G Z l.length P) xd:=u.od;by_cases y3:k<l.length
    .obtain⟨g,y4,rfl,σ,y5,y6,y7,τ⟩:=ρ.open_ (hc:=pX) ah
     obtain⟨x,hx⟩:∃x,xd[k]?=H x:=⟨_,dM ah⟩;have Δ:k<a.SD.length:=by rw[<-o.sd.1];omega
     obtain⟨L,hL⟩:∃L,a.SD[k]?=H L:=⟨_,dM Δ⟩;have ζ:=o.sd.2 k x L hx hL;have υ:=ζ.row (hc:=fA) o.b;have t:=(σ.1 (k*2+1)).trans (τ k x 1 _ hx rfl);have z2:Hid (∀W,Below wr.1.size wr W->Calls Tryz.prog 142 #[G x.sa x.sn x.sc] W (jf 3 1 aQ L W)):=by
      refine C (λW hW=>?_);have hr:Row W 1 aQ x.sa x.sn x.sc L:=υ.below hW rfl;rw[show x.sn=L.length from υ.len.symm] at hr ⊢;exact Fe x.sa x.sc L W hr (by have:=ζ.1;omega)
     have φ:=C u;have z3:=C σ;have HX:=C hx;have HL:=C hL;have z4:=C ζ.1;have Θ:=C t;have z5:=C (τ k x 1 _ hx rfl);have y8:k<2000000:=by have:=o.d.1;omega
     clear u o ρ σ hx hL ζ υ t τ Δ;go_wp2_with fail;refine aD 10 [(0,0),(1,0),(2,0),(3,0),(4,0),(5,0),(6,0),(7,0),(8,0),(9,2),(10,1),(11,1),(12,2)] (λ_=>True) (λW'=>Bx W' w.1.size #[(G n0 (a.nl 0).length d0),(G n1 (a.nl 1).length d1),(G n2 (a.nl 2).length d2),(G n3 (a.nl 3).length d3),(G S e.length F),(G (H ⟨g,0,U⟩) l.length P),(G am m.length Q),(G aq p.length cq)]/\W'.cell? ⟨g,k*2+1,U⟩=H (G x.sa x.sn x.sc)) au au (trivial) (⟨φ.q.st.bx,Θ.q⟩) ?_;refine qC ?_;refine aG rfl rfl (λK b=>?_);go_simp;refine(z2.q _ (O _ _).drew).mono ?_;rintro en Y ⟨a',c',rfl,Ξ,Φ⟩;have z6:=C Ξ;have η:=C (show Below wr.1.size wr Y from(O _ _).drew.trans Φ);refine b _ _ ⟨I,φ.q.st.bx.keep η.q,aZ η.q rfl Θ.q⟩ ?_;clear b K Ξ Φ;have θ:=z3.q.keep η.q;have z7:=θ.2.1;have z8:=θ.2.2;have z9:Y.cell? ⟨g,k*2+1,U⟩=H (G x.sa x.sn x.sc):=(θ.1 _).trans z5.q;clear θ;refine qC ?_;refine bA rfl rfl rfl (λK b=>?_);go_simp;refine b _ _ I ?_;clear b K;refine aH ?_;have v0:=C (φ.q.Nw rfl HX.q HL.q η.q ⟨a',L.length,c'⟩ z4.q z6.q);clear z7 z8 z9;go_wp2_with fail;go_roundw
     case rel=>exact⟨k+1,_,by omega,by go_num,v0.q⟩
     case measure=>simp[V];omega
    .obtain rfl:k=l.length:=by omega
     have b0:=C (show xd.length=l.length from by obtain⟨_,_,q,_⟩:=u.od.shape;simp only[Sl.v,Value.slice.injEq] at q;exact q.2.1.symm);have v9:=C u;clear u o ρ;have f:=v9.q.st.bx;have n:=v9.q.st.b2;have t:=f.1;have γ:=f.2.1;have δ:=f.2.2;have μ:=n.1;have χ:=n.2.1;have ψ:=n.2.2;go_wp2_with fail;have b1:=v9;clear f n t γ δ μ χ ψ
     go_loopw [79] (λi wr=>∃(k:Nat)(xm:J aP),k<=m.length/\i= .int .i64 k/\HO w wr ⟨⟨n0,(a.nl 0).length,d0⟩,⟨n1,(a.nl 1).length,d1⟩,⟨n2,(a.nl 2).length,d2⟩,⟨n3,(a.nl 3).length,d3⟩,⟨S,e.length,F⟩,⟨Z,l.length,P⟩,⟨am,m.length,Q⟩,⟨aq,p.length,cq⟩⟩ xe xd xm a e.length l.length k) (λi _=>m.length - (V i).toNat)
     case atStart=>exact⟨0,m,aS _,rfl,b1.q⟩
     case round=>
      obtain⟨k,xm,hk,rfl,u⟩:=hrel;have o:=u.st;have ρ:Own wr w.1.size 67 4 dV (G am m.length Q) xm:=u.om;by_cases y3:k<m.length
      .obtain⟨g,y4,rfl,σ,y5,y6,y7,τ⟩:=ρ.open_ (hc:=nG) ah
       obtain⟨x,hx⟩:∃x,xm[k]?=H x:=⟨_,dM ah⟩;have Δ:k<a.SM.length:=by rw[<-o.sm.1];omega
       obtain⟨L,hL⟩:∃L,a.SM[k]?=H L:=⟨_,dM Δ⟩;have ζ:=o.sm.2 k x L hx hL;have υ:=ζ.row (hc:=fA) o.b;have t:=(σ.1 (k*4+3)).trans (τ k x 3 _ hx rfl);have z2:Hid (∀W,Below wr.1.size wr W->Calls Tryz.prog 142 #[G x.sa x.sn x.sc] W (jf 3 1 aQ L W)):=by
        refine C (λW hW=>?_);have hr:Row W 1 aQ x.sa x.sn x.sc L:=υ.below hW rfl;rw[show x.sn=L.length from υ.len.symm] at hr ⊢;exact Fe x.sa x.sc L W hr (by have:=ζ.1;omega)
       have φ:=C u;have z3:=C σ;have HX:=C hx;have HL:=C hL;have z4:=C ζ.1;have Θ:=C t;have z5:=C (τ k x 3 _ hx rfl);have y8:k<2000000:=by have:=o.m.1;omega
       clear u o ρ σ hx hL ζ υ t τ Δ;go_wp2_with fail;refine aD 10 [(0,0),(1,0),(2,0),(3,0),(4,0),(5,0),(6,0),(7,0),(8,0),(9,2),(10,1),(11,1),(12,2)] (λ_=>True) (λW'=>Bx W' w.1.size #[(G n0 (a.nl 0).length d0),(G n1 (a.nl 1).length d1),(G n2 (a.nl 2).length d2),(G n3 (a.nl 3).length d3),(G S e.length F),(G Z l.length P),(G (H ⟨g,0,U⟩) m.length Q),(G aq p.length cq)]/\W'.cell? ⟨g,k*4+3,U⟩=H (G x.sa x.sn x.sc)) au au (trivial) (⟨φ.q.st.bx,Θ.q⟩) ?_;refine qC ?_;refine aG rfl rfl (λK b=>?_);go_simp;refine(z2.q _ (O _ _).drew).mono ?_;rintro en Y ⟨a',c',rfl,Ξ,Φ⟩;have z6:=C Ξ;have η:=C (show Below wr.1.size wr Y from(O _ _).drew.trans Φ);refine b _ _ ⟨I,φ.q.st.bx.keep η.q,aZ η.q rfl Θ.q⟩ ?_;clear b K Ξ Φ;have θ:=z3.q.keep η.q;have z7:=θ.2.1;have z8:=θ.2.2;have z9:Y.cell? ⟨g,k*4+3,U⟩=H (G x.sa x.sn x.sc):=(θ.1 _).trans z5.q;clear θ;refine qC ?_;refine bA rfl rfl rfl (λK b=>?_);go_simp;refine b _ _ I ?_;clear b K;refine aH ?_;have v0:=C (φ.q.Ny rfl HX.q HL.q η.q ⟨a',L.length,c'⟩ z4.q z6.q);clear z7 z8 z9;go_wp2_with fail;go_roundw
       case rel=>exact⟨k+1,_,by omega,by go_num,v0.q⟩
       case measure=>simp[V];omega
      .obtain rfl:k=m.length:=by omega
       have b2:=C (show xm.length=m.length from by obtain⟨_,_,q,_⟩:=u.om.shape;simp only[Sl.v,Value.slice.injEq] at q;exact q.2.1.symm);have k0:=C u;clear u o ρ;have f:=k0.q.st.bx;have n:=k0.q.st.b2;have t:=f.1;have γ:=f.2.1;have δ:=f.2.2;have μ:=n.1;have χ:=n.2.1;have ψ:=n.2.2;go_wp2_with fail;have b3:Hid (∀Y,Same (λi=>i≠w.1.size+1) wr Y->EJ w a (.returned (fB ⟨⟨n0,(a.nl 0).length,d0⟩,⟨n1,(a.nl 1).length,d1⟩,⟨n2,(a.nl 2).length,d2⟩,⟨n3,(a.nl 3).length,d3⟩,⟨S,e.length,F⟩,⟨Z,l.length,P⟩,⟨am,m.length,Q⟩,⟨aq,p.length,cq⟩⟩)) Y):=C (λY hs=>HO.fin (by rw[x8.q,b0.q,b2.q];exact k0.q) hs);refine bodyPost_ret (v:=fB ⟨⟨n0,(a.nl 0).length,d0⟩,⟨n1,(a.nl 1).length,d1⟩,⟨n2,(a.nl 2).length,d2⟩,⟨n3,(a.nl 3).length,d3⟩,⟨S,e.length,F⟩,⟨Z,l.length,P⟩,⟨am,m.length,Q⟩,⟨aq,p.length,cq⟩⟩) (by simp[results,results76,go_sem,μ]) rfl (b3.q _ ?_)
       repeat(first|(with_reducible exact Same.refl' _)|(refine Same.setTail ?_ (λhn=>hn rfl)))
end Yd
namespace Yd
open Go Go.RowKit Go.Proofs Go.Lib Tryz
open Tryz renaming prog->c,underlying9->j
open Go.Proofs.YtiheclemhihpeaaGreatDoor
theorem NN:Rows.laid_unicode_utf8_first=firstData:=au
theorem KZ:(Rows.laid_unicode_utf8_acceptRanges:DataW Unit)=acceptData:=au
theorem Yl:U8Extra c Tryz.lays260_ren:=⟨by kernel_rfl,by kernel_rfl,by kernel_rfl,by kernel_rfl,by kernel_rfl,by kernel_rfl,by kernel_rfl⟩
section
variable {W:World}
variable{t:TypeId}{p:List MemPlace}
theorem K3 {n r:Nat}{cs:List Value}{e:List (DataW Unit)}(u:Tryz.prog.underlying t=some (.array n 9))(h:DataW.trod (λ_=>()) c W 0 (λ_=>true) false r t cs=some (.agg e,p))
  (i:Nat) (v:i<n) {b:Bs} (x:e[i]?=some (.lit (.string b))):cs[i]?=some (.string ⟨b.toArray⟩):=by
 obtain⟨z,d,q,f,m⟩:=array_elem u h i v;rw[x] at f
 cases f
 rw[show Tryz.prog.cellsOf 9=1 from Jo] at m;obtain⟨s,y,a,_⟩:=DataW.trod_string j m;simp only[Prod.mk.injEq,DataW.lit.injEq,Lit.string.injEq] at a;have o:=cZ (·[0]?) y;simp only[Cb,rZ] at o;have:s=⟨b.toArray⟩:=by
  obtain⟨⟨l⟩⟩:=s;simp at a;rw[a.1]
 rw[<-this]
 simpa using o
theorem K4 {n o:Nat}{cs:List Value}{a:List (DataW Unit)}(r:Tryz.prog.underlying t=some (.array n 3))(h:DataW.trod (λ_=>()) c W 0 (λ_=>true) false o t cs=some (.agg a,p))
  (i:Nat) (u:i<n) {b:Int} (v:a[i]?=some (.lit (.int .i64 b))):cs[i]?=some (.int .i64 b):=by
 obtain⟨y,d,q,e,f⟩:=array_elem r h i u;rw[v] at e
 cases e
 rw[show Tryz.prog.cellsOf 3=1 from PL] at f;obtain⟨s,x,l,_⟩:=DataW.trod_int underlying3 f;simp only[Prod.mk.injEq,DataW.lit.injEq,Lit.int.injEq,true_and] at l;have m:=cZ (·[0]?) x;simp only[Cb,rZ] at m;rw[l.1]
 simpa using m
theorem Wi:Tryz.prog.cellsOf 21=1:=au
theorem K5:Tryz.prog.cellsOf 118=3:=au
theorem QM {Q:Nat}{cs:List Value}{u:List (DataW Unit)}(h:DataW.trod (λ_=>()) c W 0 (λ_=>true) false Q 119 cs=some (.agg u,p))
  (k:Nat) (S:k<10) {b:Bs} {n r:Int} (Z:u[k]?=some (.agg [.lit (.string b),.lit (.int .i64 n),.lit (.int .i32 r)])):
  cs[3*k]?=some (.string ⟨b.toArray⟩)/\cs[3*k+1]?=some (.int .i64 n)/\cs[3*k+2]?=some (.int .i32 r):=by
 obtain⟨f',d,q,v,x⟩:=array_elem underlying119 h k S;rw[Z] at v
 cases v
 rw[K5] at x;obtain⟨xs,n',_,e,t,γ,f⟩:=DataW.trod_struct underlying118 x;rw[K5] at t;obtain⟨m,o⟩:=kP ((cs.drop (k*3)).take 3);rw[<-o] at t f;have g0:cs[3*k]?=m[0]?:=by rw[o];simp[rZ,yO]
 have g1:cs[3*k+1]?=m[1]?:=by rw[o];simp[rZ,yO]
 have g2:cs[3*k+2]?=m[2]?:=by rw[o];simp[rZ,yO]
 rw[g0,g1,g2]
 match xs,γ,m,t,e with
 |[y0,y1,y2],_,[c0,c1,c2],_,e=>
  simp only[kW,lW,Prod.mk.injEq,DataW.agg.injEq,List.cons.injEq,and_true] at e;have y:=f 0 _ rfl;have z:=f 1 _ rfl;have A:=f 2 _ rfl;simp[PL,Jo,Wi] at y z A;obtain⟨s,E,q0,_⟩:=DataW.trod_string j y;obtain⟨a,F,q1,_⟩:=DataW.trod_int underlying3 z;obtain⟨a2,P,q2,_⟩:=DataW.trod_int Tryz.underlying21 A;rw[q0,q1,q2] at e;simp only[DataW.lit.injEq,Lit.string.injEq,Lit.int.injEq,true_and] at e;have:s=⟨b.toArray⟩:=by
   obtain⟨⟨l⟩⟩:=s;simp at e;rw[e.1.1]
  simp at E F P;rw[E,F,P,e.1.2.1,e.1.2.2,this];exact⟨rfl,rfl,rfl⟩
theorem sW {b:String}{d:DataW Unit}{g:Nat}(h:VarReads c W b d)(e:Tryz.prog.globalNamed b=some g)(f:(Tryz.prog.globals[g]?).map (·.type)=some t):
  ∃cs:Array Value,∃a p,DataW.trod (λ_=>()) c W 0 (λ_=>true) false a t cs.toList=some (d,p)/\∀i,W.cell? ⟨g,i,none⟩=cs.toList[i]?:=by
 obtain⟨q,r,cs,a,p,l,m,n,o⟩:=h;obtain rfl:=qQ (e.symm.trans l);obtain rfl:=qQ (f.symm.trans m);exact⟨cs,a,p,o,λi=>by rw[Array.getElem?_toList];exact World.var?_cell e n i⟩
end
end Yd
namespace Yd
open Go Go.RowKit Go.Proofs
attribute [local go_sem] Oper.semAt_some
theorem QN (n:Int)(w:World):Calls Tryz.prog 82 #[.int .i64 n] w (bT (.bool (iG n)) w):=by
 by_cases a:1<=n <;> by_cases b:n<=4
 all_goals
  go_enter Tryz.func82,Tryz.ntmps82
  go_wp2
  go_ret;exact⟨by simp[iG,a,b],Below.refl _ _⟩
end Yd
namespace Yd
open Go Go.RowKit Go.Proofs
attribute [local go_sem] Oper.semAt_some
end Yd
namespace Yd
open Go Go.RowKit Go.Proofs Tryz
attribute [local go_sem] Oper.semAt_some
theorem D7 {b:Type}[BEq b][LawfulBEq b]{a:List b}{x:b}{i:Nat}(h:a[i]?=some x)(e:x∉a.take i):a.idxOf x=i/\x∈a:=by
 obtain⟨m,f⟩:=bq.1 h;have l:a=a.take i++x::a.drop (i+1):=by rw[<-f,List.getElem_cons_drop,Cj]
 have d:(a.take i++x::a.drop (i+1)).idxOf x=i:=by
  rw[List.idxOf_append,ay e,List.idxOf_cons_self,dJ];omega
 rw[<-l] at d;exact⟨d,bS h⟩
def Wj (a:Option Addr)(c:Nat)(b:List Bs)(s:Bs)(m:Int)(w:World)(e:Ending)(w':World):Prop:=
 Below w.1.size w w'/\
 if s∈b then e= .returned (.tuple #[.slice a b.length c,.int .i64 (b.idxOf s:Int),.bool true])
 else ∃d f,e= .returned (.tuple #[.slice d (b.length+1) f,.int .i64 (b.length:Int),.bool (decide ((b.length:Int)<m))])/\Own w' w.1.size 9 1 encStr (.slice d (b.length+1) f) (b++[s])
theorem EK (d:List Bs)(a:Option Addr)(c:Nat)(s:Bs)(m:Int)(w:World)(E:Row w 1 encStr a d.length c d)(hl:d.length<=1000000):
  Calls Tryz.prog 146 #[.slice a d.length c,.string ⟨s.toArray⟩,.int .i64 m] w (Wj a c d s m w):=by
 have ι:=E.le;have F:=hid E;have HL:=hid hl;obtain⟨P,z,Q,hz,κ,μ,ν⟩:=mQ;have e:=hid (⟨Q,hz,κ,μ,ν⟩:_/\_/\_/\_/\_);obtain⟨n,u⟩:=kP (d.length);have f:=hid u;rw[<-u] at ι ⊢;clear u;go_enter func146,ntmps146
 go_wp2
 go_loopw [13] (λv wr=>∃i:Nat,v= .int .i64 i/\i<=n/\s∉d.take i/\wr=w) (λv _=>n - (RowKit.intOf v).toNat)
 case atStart=>exact⟨0,rfl,aS _,by simp,rfl⟩
 case round=>
  obtain⟨i,rfl,Q,l,rfl⟩:=hrel;by_cases ξ:i<n
  .obtain⟨x,b,o,S,rfl,hc⟩:=F.at_ (by rw[<-f.q];exact ξ)
   have h0:=hc 0 _ rfl;simp only[gP,bK] at h0;have q:=hid l;have Z:=hid S;clear S l hc;by_cases r:x=s
   .subst r
    have γ:=D7 Z q;have δ:=hid γ;clear γ
    go_wp2
    apply bodyPost_ret (v:= .tuple #[.slice (some ⟨b,o,none⟩) n c,.int .i64 (i:Int),.bool true]) (by simp[results,results146,go_sem]) rfl
    refine⟨Below.refl _ _,?_⟩;rw[aA δ.q.2,δ.q.1,f.q]
   .have ψ:(x==s)=false:=aN.2 r
    have ε:s∉d.take (i+1):=by
     rw[eD,Z.q];intro p;rcases cu.1 p with p|p
     .exact q p
     .have:s=x:=by simpa using p
      exact r this.symm
    have ο:=hid ε;clear r ε
    go_wp2
    go_roundw
    case rel=>exact⟨i+1,by go_num,by omega,ο,trivial⟩
    case measure=>simp[RowKit.intOf];omega
  .have π:i=n:=by omega
   subst π;have q:Hid (s∉d):=hid (by rw[f.q,List.take_length] at l;exact l);have HO:=hid (Own.new (hc:=gy) wr wr.1.size 9 (enc:=encStr) #[] [] (aC _) rfl (aS _));have ρ:=hid (F.below (aB (Below.refl wr.1.size wr) (.cells #[] 9)) rfl);have y:=hid (aB (Below.refl wr.1.size wr) (.cells #[] 9));have t:Hid (i<=1000000):=hid (by have:=HL.q;rw[f.q];exact this);have σ:Hid (Row (wr.alloc (.cells #[] 9)) 1 encStr a i c d):=hid (by rw[f.q];exact ρ);have τ:Hid (([]:List Bs).length+i=i):=hid ak;clear l
   go_wp2_with (first
    |(at_builtin;refine dx rfl _ _ 22 rfl P z 16 underlying22 e.1 e.2.1 e.2.2.1 e.2.2.2.1 e.2.2.2.2 rfl HO a i c i d rfl σ τ (by have:=t.q;omega) (by have:=t.q;unfold maxLen;omega) y.size ?_;intro a' c' w1 ζ η υ;have A:=hid (below_app y HO (aC _) y.size η);have θ:=hid ζ;clear ζ η υ)
    |(at_builtin;refine dx rfl _ _ 22 rfl P z 16 underlying22 e.1 e.2.1 e.2.2.1 e.2.2.2.1 e.2.2.2.2 rfl (θ.alloc _) (some ⟨w1.1.size,0,none⟩) 1 1 (i+1) [s] rfl (Row.str1 w1 s) (by have:=f.q;simp;omega) (by have:=t.q;omega) (by have:=t.q;unfold maxLen;omega) (cO A.size ak) ?_;intro a2 c2 w2 φ χ ω))
   apply bodyPost_ret (v:= .tuple #[.slice a2 (i+1) c2,.int .i64 (i:Int),.bool (decide ((i:Int)<m))]) (by simp[results,results146,go_sem]) rfl
   refine⟨below_app (aB A _) (θ.alloc _) (aC _) (cO A.size ak) χ,?_⟩;rw[ay q.q];exact⟨a2,c2,by rw[f.q],by rw[<-f.q];exact φ⟩
end Yd
namespace Yd
open Array renaming size_setIfInBounds->D
open Bool renaming false_or->K,true_or->L
open List renaming idxOf_append->J
open Option renaming none->G
open Go Go.RowKit Go.Proofs Tryz
open Go.IntKind renaming i64->C
open Go.Value renaming int->B,bool->I,slice->M,pointer->N,string->O
open Yd renaming hid->H
attribute [local go_sem] Oper.semAt_some
def nH (nl:Nat->List Bs):Bool:=(List.range 4).all (λi=>decide ((nl i).length<=iF i))
theorem sZ (nl:Nat->List Bs):nH nl=true↔∀i,i<4->(nl i).length<=iF i:=by
 unfold nH;simp only[jW,uN,bO]
theorem TM (nl:Nat->List Bs){k:Nat}(d:k<4)(s:Bs):nH (kX nl k s)=(nH nl && (decide (s∈nl k)||decide ((nl k).length<iF k))):=by
 have h:∀i,(kX nl k s i).length=if i=k/\s∉nl k then(nl i).length+1 else(nl i).length:=λi=>by
  unfold kX bV;by_cases b:i=k
  .subst b
   by_cases a:s∈nl i
   .simp[a]
   .simp[a]
  .simp[b]
 rw[Bool.eq_iff_iff,bD,tZ,sZ,sZ,bO,bO]
 constructor
 .intro q
  refine⟨λi b=>?_,?_⟩
  .have:=q i b
   rw[h] at this
   split at this <;> omega
  .by_cases a:s∈nl k
   .exact .inl a
   .have:=q k d
    rw[h,aA ⟨rfl,a⟩] at this;exact .inr ah
 .rintro⟨q,r⟩ i b
  rw[h];have:=q i b
  split
  .rename_i e
   obtain⟨rfl,a⟩:=e;rcases r with r|r
   .exact absurd r a
   .omega
  .exact this
structure jo (w:World)(R:Nat)(cs:Array Value)(c:Cont)(es:List EvC)(ds:List aO)(ms:List aP)(g:Bool):Prop where
 s:rP 0 (λ_=>True) w R cs c es ds ms
 z:cs.size=9
 k:cs[8]?=some (I (g && nH c.nl))
def jw (R:Nat)(cs:Array Value)(c:Cont)(b:List EvC)(d:List aO)(f:List aP)(g:Bool)(v:Value)(w:World)(e:Ending)(w':World):Prop:=
 e= .returned v/\Same (λi=>i≠R) w w'/\∃a,jo w' R a c b d f g/\∀j,4<=j->j<8->a[j]?=cs[j]?
theorem jo.below {X Y:World}{R:Nat}{cs:Array Value}{c:Cont}{E:List EvC}{a:List aO}{b:List aP}{g:Bool}(h:jo X R cs c E a b g)(d:Below X.1.size X Y):jo Y R cs c E a b g:=
 ⟨h.s.nV (Same.of_below d (λ_ _ h=>h)) (h.s.t.below d) (λ_ _ _=>rfl),h.z,h.k⟩
theorem jo.put {w a:World}{R k:Nat}{cs:Array Value}{c:Cont}{E:List EvC}{p:List aO}{q:List aP}{g b:Bool}{s:Bs}{v:Value}(h:jo w R cs c E p q g)(x:k<4)(r:Below w.1.size w a)
  (y:Own a (R+1) 9 1 encStr v (bV (c.nl k) s)) (z:b=((g && nH c.nl) && (decide (s∈c.nl k)||decide ((c.nl k).length<iF k)))):
  jw R cs (c.put k s) E p q g (B C (c.no k s)) w (.returned (B C (c.no k s))) ((a.setCell ⟨R,k,G⟩ v).setCell ⟨R,8,G⟩ (I b)):=by
 have d:=h.below r;have A:=d.z;have f:Same (λi=>i≠R) a ((a.setCell ⟨R,k,G⟩ v).setCell ⟨R,8,G⟩ (I b)):=((Same.refl' a).setTail (λh=>h rfl)).setTail (λh=>h rfl);have l:∀j,j≠k->j≠8->((cs.setIfInBounds k v).setIfInBounds 8 (I b))[j]?=cs[j]?:=λj m n=>by rw[iQ (λe=>n e.symm),iQ (λe=>m e.symm)]
 refine⟨rfl,(Same.of_below r (λ_ _ h=>h)).tr f,(cs.setIfInBounds k v).setIfInBounds 8 (I b),⟨d.s.nV f ⟨(d.s.t.b.aX k ah v).aX 8 (by rw[D];omega) _,λj F=>?_,trivial⟩ (λj m n=>l j ah ah),by rw[D,D];exact A,?_⟩,λj m n=>l j ah ah⟩
 .have t:8*0+j=j:=by omega
  rw[t];by_cases o:j=k
  .subst o
   refine⟨v,?_,?_⟩
   .rw[iQ ah,ru ah]
   .show Own _ _ _ _ _ _ (if j=j then bV (c.nl j) s else c.nl j)
    rw[aA rfl];exact y.pK f
  .obtain⟨P,u,Q⟩:=d.s.t.t j F
   rw[t] at u;refine⟨P,by rw[l j o ah];exact u,?_⟩;show Own _ _ _ _ _ _ (if j=k then bV (c.nl k) s else c.nl j);rw[ay o];exact Q.pK f
 .rw[ru (by rw[D];omega)]
  show some (Value.bool b)=some (I (g && nH (kX c.nl k s)));rw[TM _ x,<-vD,<-z]
section
variable {R:Nat}{cs:Array Value}{c:Cont}{es:List EvC}{ds:List aO}{ms:List aP}{g:Bool}
theorem Cr (s:Bs)(w:World)(h:jo w R cs c es ds ms g)(E:(c.nl 0).length<=1000000):
  Calls Tryz.prog 147 #[N (some ⟨R,0,G⟩),O ⟨s.toArray⟩] w (jw R cs (c.put 0 s) es ds ms g (B C (c.no 0 s)) w):=by
 obtain⟨v,F,p⟩:=h.s.t.t 0 aj;obtain⟨a,q,rfl,_,_⟩:=p.shape;have HP:=H (EK (c.nl 0) a q s 300 w (p.row (hc:=gy) ah) E);have m:=H h;have HO:=H p;have P:=(h.s.t.b.1 0).trans F;have t:=(h.s.t.b.1 8).trans h.k;obtain⟨b,u⟩:∃b,b=(g && nH c.nl):=⟨_,rfl⟩;rw[<-u] at t;have Q:=H u;have H8:=H t;clear h F p u E;go_enter func147,ntmps147;go_wp2_with fail;refine HP.q.mono ?_;rintro e S ⟨f,r⟩;have t:=aZ f rfl H8.q;have hf:=(m.q.s.t.b.keep f).2.1 0;have δ:=(m.q.s.t.b.keep f).2.1 8;have ε:=(m.q.s.t.b.keep f).2.2;have ζ:=aZ f rfl P;have x:=H f;clear P f;by_cases d:s∈c.nl 0
 .rw[aA d] at r
  obtain rfl:=r;have n:c.no 0 s=((c.nl 0).idxOf s:Int):=by unfold Cont.no lQ;rw[mq d]
  have y:Hid (∀l,l=(b && true)->jw R cs (c.put 0 s) es ds ms g (B C (c.no 0 s)) w (.returned (B C ((c.nl 0).idxOf s:Int))) ((S.setCell ⟨R,0,G⟩ (M a (c.nl 0).length q)).setCell ⟨R,8,G⟩ (I l))):=H (λl z=>
   (show jw R cs (c.put 0 s) es ds ms g (B C (c.no 0 s)) w (.returned (B C ((c.nl 0).idxOf s:Int))) _ from by rw[<-n];exact m.q.put aj x.q (by rw[mq d];exact HO.q.below x.q rfl) (by rw[z,Q.q,bG d,L])))
  clear d n
  cases b
  all_goals
   go_wp2_with fail;go_ret;exact y.q _ (by rfl)
 .rw[ay d] at r
  obtain⟨a',q',rfl,Z⟩:=r;obtain⟨o,A⟩:∃o,o=decide (((c.nl 0).length:Int)<300):=⟨_,rfl⟩;have γ:o=decide ((c.nl 0).length<iF 0):=by rw[A];exact decide_eq_decide.2 (by show _↔_<300;omega)
  rw[<-A];have n:c.no 0 s=((c.nl 0).length:Int):=by
   unfold Cont.no lQ;rw[kF d,J,ay d];simp
  have y:Hid (∀l,l=(b && o)->jw R cs (c.put 0 s) es ds ms g (B C (c.no 0 s)) w (.returned (B C ((c.nl 0).length:Int))) ((S.setCell ⟨R,0,G⟩ (M a' ((c.nl 0).length+1) q')).setCell ⟨R,8,G⟩ (I l))):=H (λl z=>
   (show jw R cs (c.put 0 s) es ds ms g (B C (c.no 0 s)) w (.returned (B C ((c.nl 0).length:Int))) _ from by rw[<-n];exact m.q.put aj x.q (by rw[kF d];exact Z.mono (m.q.s.t.b.2.2)) (by rw[z,Q.q,bn d,K,γ])))
  clear d n A γ Z
  cases b <;> cases o
  all_goals
   go_wp2_with fail;go_ret;exact y.q _ (by rfl)
theorem K6 (s:Bs)(w:World)(h:jo w R cs c es ds ms g)(E:(c.nl 1).length<=1000000):
  Calls Tryz.prog 86 #[N (some ⟨R,0,G⟩),O ⟨s.toArray⟩] w (jw R cs (c.put 1 s) es ds ms g (B C (c.no 1 s)) w):=by
 obtain⟨v,F,p⟩:=h.s.t.t 1 aj;obtain⟨a,q,rfl,_,_⟩:=p.shape;have HP:=H (EK (c.nl 1) a q s 60 w (p.row (hc:=gy) ah) E);have m:=H h;have HO:=H p;have P:=(h.s.t.b.1 1).trans F;have t:=(h.s.t.b.1 8).trans h.k;obtain⟨b,u⟩:∃b,b=(g && nH c.nl):=⟨_,rfl⟩;rw[<-u] at t;have Q:=H u;have H8:=H t;clear h F p u E;go_enter func86,ntmps86;go_wp2_with fail;refine HP.q.mono ?_;rintro e S ⟨f,r⟩;have t:=aZ f rfl H8.q;have hf:=(m.q.s.t.b.keep f).2.1 1;have δ:=(m.q.s.t.b.keep f).2.1 8;have ε:=(m.q.s.t.b.keep f).2.2;have ζ:=aZ f rfl P;have x:=H f;clear P f;by_cases d:s∈c.nl 1
 .rw[aA d] at r
  obtain rfl:=r;have n:c.no 1 s=((c.nl 1).idxOf s:Int):=by unfold Cont.no lQ;rw[mq d]
  have y:Hid (∀l,l=(b && true)->jw R cs (c.put 1 s) es ds ms g (B C (c.no 1 s)) w (.returned (B C ((c.nl 1).idxOf s:Int))) ((S.setCell ⟨R,1,G⟩ (M a (c.nl 1).length q)).setCell ⟨R,8,G⟩ (I l))):=H (λl z=>
   (show jw R cs (c.put 1 s) es ds ms g (B C (c.no 1 s)) w (.returned (B C ((c.nl 1).idxOf s:Int))) _ from by rw[<-n];exact m.q.put aj x.q (by rw[mq d];exact HO.q.below x.q rfl) (by rw[z,Q.q,bG d,L])))
  clear d n
  cases b
  all_goals
   go_wp2_with fail;go_ret;exact y.q _ (by rfl)
 .rw[ay d] at r
  obtain⟨a',q',rfl,Z⟩:=r;obtain⟨o,A⟩:∃o,o=decide (((c.nl 1).length:Int)<60):=⟨_,rfl⟩;have γ:o=decide ((c.nl 1).length<iF 1):=by rw[A];exact decide_eq_decide.2 (by show _↔_<60;omega)
  rw[<-A];have n:c.no 1 s=((c.nl 1).length:Int):=by
   unfold Cont.no lQ;rw[kF d,J,ay d];simp
  have y:Hid (∀l,l=(b && o)->jw R cs (c.put 1 s) es ds ms g (B C (c.no 1 s)) w (.returned (B C ((c.nl 1).length:Int))) ((S.setCell ⟨R,1,G⟩ (M a' ((c.nl 1).length+1) q')).setCell ⟨R,8,G⟩ (I l))):=H (λl z=>
   (show jw R cs (c.put 1 s) es ds ms g (B C (c.no 1 s)) w (.returned (B C ((c.nl 1).length:Int))) _ from by rw[<-n];exact m.q.put aj x.q (by rw[kF d];exact Z.mono (m.q.s.t.b.2.2)) (by rw[z,Q.q,bn d,K,γ])))
  clear d n A γ Z
  cases b <;> cases o
  all_goals
   go_wp2_with fail;go_ret;exact y.q _ (by rfl)
theorem zC (s:Bs)(w:World)(h:jo w R cs c es ds ms g)(E:(c.nl 2).length<=1000000):
  Calls Tryz.prog 83 #[N (some ⟨R,0,G⟩),O ⟨s.toArray⟩] w (jw R cs (c.put 2 s) es ds ms g (B C (c.no 2 s)) w):=by
 obtain⟨v,F,p⟩:=h.s.t.t 2 aj;obtain⟨a,q,rfl,_,_⟩:=p.shape;have HP:=H (EK (c.nl 2) a q s 300 w (p.row (hc:=gy) ah) E);have m:=H h;have HO:=H p;have P:=(h.s.t.b.1 2).trans F;have t:=(h.s.t.b.1 8).trans h.k;obtain⟨b,u⟩:∃b,b=(g && nH c.nl):=⟨_,rfl⟩;rw[<-u] at t;have Q:=H u;have H8:=H t;clear h F p u E;go_enter func83,ntmps83;go_wp2_with fail;refine HP.q.mono ?_;rintro e S ⟨f,r⟩;have t:=aZ f rfl H8.q;have hf:=(m.q.s.t.b.keep f).2.1 2;have δ:=(m.q.s.t.b.keep f).2.1 8;have ε:=(m.q.s.t.b.keep f).2.2;have ζ:=aZ f rfl P;have x:=H f;clear P f;by_cases d:s∈c.nl 2
 .rw[aA d] at r
  obtain rfl:=r;have n:c.no 2 s=((c.nl 2).idxOf s:Int):=by unfold Cont.no lQ;rw[mq d]
  have y:Hid (∀l,l=(b && true)->jw R cs (c.put 2 s) es ds ms g (B C (c.no 2 s)) w (.returned (B C ((c.nl 2).idxOf s:Int))) ((S.setCell ⟨R,2,G⟩ (M a (c.nl 2).length q)).setCell ⟨R,8,G⟩ (I l))):=H (λl z=>
   (show jw R cs (c.put 2 s) es ds ms g (B C (c.no 2 s)) w (.returned (B C ((c.nl 2).idxOf s:Int))) _ from by rw[<-n];exact m.q.put aj x.q (by rw[mq d];exact HO.q.below x.q rfl) (by rw[z,Q.q,bG d,L])))
  clear d n
  cases b
  all_goals
   go_wp2_with fail;go_ret;exact y.q _ (by rfl)
 .rw[ay d] at r
  obtain⟨a',q',rfl,Z⟩:=r;obtain⟨o,A⟩:∃o,o=decide (((c.nl 2).length:Int)<300):=⟨_,rfl⟩;have γ:o=decide ((c.nl 2).length<iF 2):=by rw[A];exact decide_eq_decide.2 (by show _↔_<300;omega)
  rw[<-A];have n:c.no 2 s=((c.nl 2).length:Int):=by
   unfold Cont.no lQ;rw[kF d,J,ay d];simp
  have y:Hid (∀l,l=(b && o)->jw R cs (c.put 2 s) es ds ms g (B C (c.no 2 s)) w (.returned (B C ((c.nl 2).length:Int))) ((S.setCell ⟨R,2,G⟩ (M a' ((c.nl 2).length+1) q')).setCell ⟨R,8,G⟩ (I l))):=H (λl z=>
   (show jw R cs (c.put 2 s) es ds ms g (B C (c.no 2 s)) w (.returned (B C ((c.nl 2).length:Int))) _ from by rw[<-n];exact m.q.put aj x.q (by rw[kF d];exact Z.mono (m.q.s.t.b.2.2)) (by rw[z,Q.q,bn d,K,γ])))
  clear d n A γ Z
  cases b <;> cases o
  all_goals
   go_wp2_with fail;go_ret;exact y.q _ (by rfl)
theorem K7 (s:Bs)(w:World)(h:jo w R cs c es ds ms g)(E:(c.nl 3).length<=1000000):
  Calls Tryz.prog 85 #[N (some ⟨R,0,G⟩),O ⟨s.toArray⟩] w (jw R cs (c.put 3 s) es ds ms g (B C (c.no 3 s)) w):=by
 obtain⟨v,F,p⟩:=h.s.t.t 3 aj;obtain⟨a,q,rfl,_,_⟩:=p.shape;have HP:=H (EK (c.nl 3) a q s 60 w (p.row (hc:=gy) ah) E);have m:=H h;have HO:=H p;have P:=(h.s.t.b.1 3).trans F;have t:=(h.s.t.b.1 8).trans h.k;obtain⟨b,u⟩:∃b,b=(g && nH c.nl):=⟨_,rfl⟩;rw[<-u] at t;have Q:=H u;have H8:=H t;clear h F p u E;go_enter func85,ntmps85;go_wp2_with fail;refine HP.q.mono ?_;rintro e S ⟨f,r⟩;have t:=aZ f rfl H8.q;have hf:=(m.q.s.t.b.keep f).2.1 3;have δ:=(m.q.s.t.b.keep f).2.1 8;have ε:=(m.q.s.t.b.keep f).2.2;have ζ:=aZ f rfl P;have x:=H f;clear P f;by_cases d:s∈c.nl 3
 .rw[aA d] at r
  obtain rfl:=r;have n:c.no 3 s=((c.nl 3).idxOf s:Int):=by unfold Cont.no lQ;rw[mq d]
  have y:Hid (∀l,l=(b && true)->jw R cs (c.put 3 s) es ds ms g (B C (c.no 3 s)) w (.returned (B C ((c.nl 3).idxOf s:Int))) ((S.setCell ⟨R,3,G⟩ (M a (c.nl 3).length q)).setCell ⟨R,8,G⟩ (I l))):=H (λl z=>
   (show jw R cs (c.put 3 s) es ds ms g (B C (c.no 3 s)) w (.returned (B C ((c.nl 3).idxOf s:Int))) _ from by rw[<-n];exact m.q.put aj x.q (by rw[mq d];exact HO.q.below x.q rfl) (by rw[z,Q.q,bG d,L])))
  clear d n
  cases b
  all_goals
   go_wp2_with fail;go_ret;exact y.q _ (by rfl)
 .rw[ay d] at r
  obtain⟨a',q',rfl,Z⟩:=r;obtain⟨o,A⟩:∃o,o=decide (((c.nl 3).length:Int)<60):=⟨_,rfl⟩;have γ:o=decide ((c.nl 3).length<iF 3):=by rw[A];exact decide_eq_decide.2 (by show _↔_<60;omega)
  rw[<-A];have n:c.no 3 s=((c.nl 3).length:Int):=by
   unfold Cont.no lQ;rw[kF d,J,ay d];simp
  have y:Hid (∀l,l=(b && o)->jw R cs (c.put 3 s) es ds ms g (B C (c.no 3 s)) w (.returned (B C ((c.nl 3).length:Int))) ((S.setCell ⟨R,3,G⟩ (M a' ((c.nl 3).length+1) q')).setCell ⟨R,8,G⟩ (I l))):=H (λl z=>
   (show jw R cs (c.put 3 s) es ds ms g (B C (c.no 3 s)) w (.returned (B C ((c.nl 3).length:Int))) _ from by rw[<-n];exact m.q.put aj x.q (by rw[kF d];exact Z.mono (m.q.s.t.b.2.2)) (by rw[z,Q.q,bn d,K,γ])))
  clear d n A γ Z
  cases b <;> cases o
  all_goals
   go_wp2_with fail;go_ret;exact y.q _ (by rfl)
end
end Yd
namespace Yd
open Go Go.RowKit Go.Proofs Tryz
open Go.IntKind renaming i64->C
open Go.Obj renaming cells->G
open Go.Value renaming int->B,string->I,slice->J
open World renaming size_alloc->H
open Yd renaming hid->D
section
variable {R:Nat}{cs:Array Value}{c:Cont}{es:List EvC}{ds:List aO}{ms:List aP}{g:Bool}{X Y:World}
theorem jo.names {a:Array Value}{nl:Nat->List Bs}(h:jo X R cs c es ds ms g)(b:Same (λi=>i≠R) X Y)(d:wI 0 (λ_=>True) Y R a nl)(e:∀j,4<=j->j<8->a[j]?=cs[j]?)(f:a.size=9)(l:a[8]?=some (.bool (g && nH nl))):jo Y R a {c with nl:=nl} es ds ms g:=
 ⟨h.s.nV b d e,f,l⟩
theorem jo.off {b:Nat}{T:TypeId}(h:jo X R cs c es ds ms g)(a:∃cs m,X.1[b]?=some (G cs T m))(n:R≠b)(o:9≠T)(p:50≠T)(r:65≠T)(t:67≠T)(u:69≠T)(x:148≠T)(l:3≠T)(d:Same (λi=>i≠b) X Y):jo Y R cs c es ds ms g:=
 ⟨⟨h.s.t.apart a o n d,(let⟨v,e,f⟩:=h.s.e;⟨v,e,f.aJ a p d⟩),(let⟨v,e,f⟩:=h.s.d;⟨v,e,f.aJ a r d⟩),(let⟨v,e,f⟩:=h.s.m;⟨v,e,f.aJ a t d⟩),(let⟨v,e,f⟩:=h.s.q;⟨v,e,f.aJ a u d⟩),
  h.s.be,h.s.bd,h.s.bm,h.s.se.imp (λ_ _ q=>q.aJ a x d),h.s.sd.imp (λ_ _ q=>q.aJ a l d),h.s.sm.imp (λ_ _ q=>q.aJ a l d)⟩,h.z,h.k⟩
end
theorem D8 {R:Nat}{cs:Array Value}{c:Cont}{E:List EvC}{q:List aO}{r:List aP}{g:Bool}(v:To)(w:World)(h:jo w R cs c E q r g)(d:(c.nl 0).length<=1000000):
  Calls Tryz.prog 148 #[.pointer (some ⟨R,0,none⟩),iZ v] w (jw R cs (c.bF v).1 E q r g (.agg #[B C (c.bF v).2.t,B C (c.bF v).2.k]) w):=by
 obtain⟨n,k⟩:=v;have t:=D (((aB (aB (Below.refl w.1.size w) (G #[I ⟨n.toArray⟩,B C k] 61)) (G #[B C 0,B C 0] 47)).drew));have f:=(Bx.new w #[I ⟨n.toArray⟩,B C k] 61).alloc (G #[B C 0,B C 0] 47);have F:=D h;have P:=D f;by_cases b:k=0
 .subst b
  go_enter func148,ntmps148
  go_wp2
  apply bodyPost_ret (v:= .agg #[B C 0,B C 0]) (by simp[results,results148,go_sem]) rfl
  have u:Below w.1.size w ((w.alloc (G #[I ⟨n.toArray⟩,B C 0] 61)).alloc (G #[B C 0,B C 0] 47)):=aB (aB (Below.refl w.1.size w) _) _;exact⟨rfl,Same.of_below u (λ_ _ h=>h),cs,F.below u,λ_ _ _=>rfl⟩
 .have hk:(k==0)=false:=aN.2 b
  have H0:=D b;have Q:=D (Cr n _ (h.below t) d);have S:=(Bx.new (w.alloc (G #[I ⟨n.toArray⟩,B C k] 61)) #[B C 0,B C 0] 47);have Z:=D S;have l:=D h.s.t.b.2.2;have γ:=f.1 0;have δ:=f.1 1;have HV:Hid (c.bF ⟨n,k⟩=(c.put 0 n,⟨c.no 0 n,k⟩)):=D (ay b);rw[HV.q];go_enter func148,ntmps148
  go_wp2
  refine aD 7 [(0,0),(1,0),(2,0),(4,0),(5,0),(3,2),(6,0),(7,2)] (λ_=>True) (λx=>x.cell? ⟨w.1.size,0,none⟩=some (I ⟨n.toArray⟩)/\x.cell? ⟨w.1.size,1,none⟩=some (B C k)) au au (trivial) (⟨γ,δ⟩) ?_;refine qL λK hK=>?_
  apply Q.mono
  rintro e m ⟨rfl,hS,ε,hT,ho⟩;have HT:=D hT;have y:=D hS;have HO:=D ho;have z:=hS.bx P.drew (by have:=l.q;omega);have a:=hS.bx Z.drew (by have:=l.q;simp;omega)
  apply hK _ _ ⟨trivial,z.1 0,z.1 1⟩
  have ζ:=a.1 0;have η:=a.1 1;have θ:=a.2.1 0;have ι:=a.2.1 1;have κ:=D a;rw[H] at ζ η θ ι;refine qM λK hK=>?_
  go_simp
  apply hK _ _ trivial
  apply aH
  go_wp2
  have o:=(κ.aX 0 ak (B C (c.no 0 n))).aX 1 ak (B C k);rw[H] at o;have μ:=o.1 0;have ν:=o.1 1
  apply bodyPost_ret (v:= .agg #[B C (c.no 0 n),B C k]) (by simp[results,results148,go_sem,μ,ν]) rfl
  have ο:=l.q;have h1:Same (λi=>i≠R/\i<w.1.size) w m:=((Same.of_below t.q (λ_ _ h=>h)).tr (y.q.mono (λi p _=>p.1)));have ξ:w.1.size+1<((w.alloc (G #[I ⟨n.toArray⟩,B C k] 61)).alloc (G #[B C 0,B C 0] 47)).drew.1.size:=by
   show w.1.size+1<((w.alloc (G #[I ⟨n.toArray⟩,B C k] 61)).alloc (G #[B C 0,B C 0] 47)).1.size;rw[H,H];omega
  have A:=World.alloc_heap_new (w.alloc (G #[I ⟨n.toArray⟩,B C k] 61)) (G #[B C 0,B C 0] 47);rw[H] at A;have ht:∃cs fz,m.1[w.1.size+1]?=some (G cs 47 fz):=⟨_,_,(y.q.block (w.1.size+1) ah ξ).trans A⟩;exact⟨rfl,((h1.setTail (λh=>by have:=h.2;omega)).setTail (λh=>by have:=h.2;omega)).mono (λi p d=>⟨p,d⟩),ε,
   HT.q.off ht ah aj aj aj aj aj aj aj (((Same.refl' m).setTail (λh=>h rfl)).setTail (λh=>h rfl)),HO.q⟩
theorem FB:∀(l:List Bs)(nl:Nat->List Bs)(i:Nat),((fU nl l).1 i).length<=(nl i).length+l.length
 |[],_,_=>aC _
 |s::r,nl,i=>by
  have a:=FB r (kX nl 0 s) i;have b:(kX nl 0 s i).length<=(nl i).length+1:=by
   unfold kX
   split
   .rename_i h;subst h;unfold bV;split <;> simp
   .omega
  show((fU (kX nl 0 s) r).1 i).length<=_;rw[iC];omega
theorem K8 (c:Cont)(l:List Bs):(c.ts l).1={c with nl:=(fU c.nl l).1}/\(c.ts l).2=(fU c.nl l).2:=⟨(PU (Nm.ts l c) (Ar l c).1).symm,(Ar l c).2⟩
theorem TN {R:Nat}{cs:Array Value}{c:Cont}{E:List EvC}{ds:List aO}{ms:List aP}{g:Bool}(l:List Bs)(Z:Option Addr)(n tc:Nat)(w:World)(h:jo w R cs c E ds ms g)(hr:Row w 1 encStr Z n tc l)(π:∀b o,Z=some ⟨b,o,none⟩->b≠R)(hn:n<=100000)(hl:(c.nl 0).length<=100000):
  Calls Tryz.prog 84 #[.pointer (some ⟨R,0,none⟩),J Z n tc] w (λe w'=>∃a cc,jw R cs (c.ts l).1 E ds ms g (J a l.length cc) w e w'/\Own w' w.1.size 3 1 aQ (J a l.length cc) (c.ts l).2):=by
 rw[(K8 c l).1,(K8 c l).2];have q:=D h;have HR:=D hr;have ρ:=D π;have HL:=D hl;have ι:=D h.s.t.b.2.2;obtain⟨i,z,r,hz,σ,τ,υ⟩:=qZ;have t:=D (⟨r,hz,σ,τ,υ⟩:_/\_/\_/\_/\_);have q3:=hr.le;have γ:=D hr.len;go_enter func84,ntmps84
 go_wp2
 go_loopw [5,10] (λv i wr=>∃(k:Nat)(u:Option Addr)(x:Nat)(d:Array Value),k<=n/\v= J u k x/\i= B C k/\Own wr w.1.size 3 1 aQ (J u k x) (fU c.nl (l.take k)).2/\
   wI 0 (λ_=>True) wr R d (fU c.nl (l.take k)).1/\(d.size=9/\d[8]?=some (.bool (g && nH (fU c.nl (l.take k)).1))/\∀j,4<=j->j<8->d[j]?=cs[j]?)/\Same (λi=>i≠R) w wr) (λ_ i _=>n - (RowKit.intOf i).toNat)
 case atStart=>
  exact⟨0,none,0,cs,aS _,rfl,rfl,Own.eH _ _ _ _ _,q.s.t,⟨q.z,q.k,λ_ _ _=>rfl⟩,Same.refl' _⟩
 case round=>
  obtain⟨k,u,x,d,hk,rfl,rfl,δ,ε,f,A⟩:=hrel;by_cases φ:k<n
  .obtain⟨s,b,o,hx,rfl,hc⟩:=HR.at_ φ
   have ζ:=hc 0 _ rfl;simp only[gP,bK] at ζ;have q4:wr.cell? ⟨b,o+k,none⟩=some (I ⟨s.toArray⟩):=(World.cell?_of_block (a:=⟨b,o+k,none⟩) (A.block b (ρ b o rfl) (iw ζ))).trans ζ;have χ:=Cr (c:={c with nl:=(fU c.nl (l.take k)).1}) s wr (q.names A ε f.2.2 f.1 f.2.1) (by have:=FB (l.take k) c.nl 0;rw[dJ] at this;have:=HL.q;show((fU c.nl (l.take k)).1 0).length<=_;omega);have ψ:=D χ;have F:=D δ;have m:=D f;have y:=D A;have HX:=D hx;go_wp2_with fail;refine ψ.q.mono ?_;rintro e p ⟨rfl,P,ω,κ,μ⟩;have e1:l.take (k+1)=l.take k++[s]:=by rw[eD,HX.q];rfl
   have η:=D κ;have Γ:=D μ;have Δ:=D P;have Q:Hid (Own p w.1.size 3 1 aQ (J u k x) (fU c.nl (l.take k)).2):=D (F.same P (λg hg e=>by have:=(F.lt g hg).1;have:=ι.q;omega));have S:Hid ((fU c.nl (l.take (k+1))).1=kX (fU c.nl (l.take k)).1 0 s/\(fU c.nl (l.take k)).2++[Cont.no {c with nl:=(fU c.nl (l.take k)).1} 0 s]=(fU c.nl (l.take (k+1))).2):=D (by rw[e1,yI];exact⟨rfl,rfl⟩);have Θ:Hid ((fU c.nl (l.take k)).2.length+1=k+1):=D (by rw[Dm,dJ,γ.q,wJ hk]);have Ξ:Hid ((k+1)*8<=140737488355328):=D ah;have Φ:Hid (k+1<=maxLen):=D (by unfold maxLen;omega);obtain⟨N,hN⟩:∃N,N=Cont.no {c with nl:=(fU c.nl (l.take k)).1} 0 s:=⟨_,rfl⟩;rw[<-hN] at S ⊢;have Ψ:Hid (w.1.size<=(p.alloc (G #[B C N] 3)).1.size):=D (by have h1:=y.size;have h2:=P.size;simp;omega);clear κ μ P e1 hN
   go_wp2_with (at_builtin;refine dx rfl _ _ 26 rfl i z 8 underlying26 t.1 t.2.1 t.2.2.1 t.2.2.2.1 t.2.2.2.2 rfl (Q.alloc _) (some ⟨p.1.size,0,none⟩) 1 1 (k+1) [N] rfl (Row.i1 p _) Θ Ξ Φ Ψ ?_;intro a' c' w2 ν ξ q5)
   rw[S.q.2] at ν;have ο:=aB (Below.refl p.1.size p) (G #[B C N] 3);have Ω:Same (λi=>i≠R/\i<w.1.size) w w2:=((y.tr Δ).mono (λi r _=>r.1)).tr ((Same.of_below ο (λ_ _ h=>h)).tr (Co ξ (λg e=>(Q.lt g e).1)));have q0:=(η.s.t.below ο).grown (T:=3) ξ (λg e=>⟨by have:=(Q.lt g e).1;have:=ι.q;omega,(Q.alloc _).tag e⟩) aj;have θ:=D (⟨ν,q0,Ω.mono (λi r hl=>⟨r,hl⟩)⟩:_/\_/\_);go_roundw
   case rel=>
    refine⟨k+1,a',c',ω,by omega,rfl,by go_num,θ.1,?_,⟨η.z,?_,λj h1 h2=>(Γ j h1 h2).trans (m.2.2 j h1 h2)⟩,θ.2.2⟩
    .rw[S.q.1];exact θ.2.1
    .rw[S.q.1];exact η.k
   case measure=>simp[RowKit.intOf];omega
  .obtain rfl:k=n:=by omega
   have q1:l.take k=l:=eF (by rw[γ.q];exact aC _);rw[q1] at δ ε f;have F:=D δ;have q2:=D ε;have m:=D f;have y:=D A
   go_wp2
   go_ret;rw[γ.q];exact⟨u,x,⟨rfl,y,d,q.names y q2 m.2.2 m.1 m.2.1,m.2.2⟩,F⟩
end Yd
