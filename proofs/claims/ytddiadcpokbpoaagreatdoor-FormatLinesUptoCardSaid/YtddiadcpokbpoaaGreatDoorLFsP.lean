import Derived.Test.YtddiadcpokbpoaaGreatDoorLA0
import Derived.WalkKit
import Derived.Deep.Draws
import Derived.Test.YtddiadcpokbpoaaGreatDoorProg
import Derived.Maps.AppendAt
import Derived.Laws.OwnMore
import Derived.Lib.SliceRun
import Derived.Laws.StructEq
import Derived.RangeFuncNested
import Derived.RangeFuncCalls
import Derived.RangeFuncLeaves
import Derived.RangeFuncSeq
import Derived.Laws.Slices
set_option linter.all false
set_option maxRecDepth 200000
set_option maxHeartbeats 8000000
namespace Yd
open Go Go.RowKit
theorem hid {p:Prop}(h:p):Hid p:=h
end Yd
namespace Go.RowKit
theorem Hid.q {p:Prop}(h:Hid p):p:=h
theorem Below.bO {a b c:World}(h:Below a.1.size a b)(k:Below b.1.size b c):Below a.1.size a c:=h.trans (k.mono h.size)
end Go.RowKit
namespace Yd
open Go Go.RowKit
def cK (v:Value)(w:World)(e:Ending)(w':World):Prop:=e= .returned v/\Below w.1.size w w'
theorem jC {w:World}{p:Addr}{v:Value}(h:w.cell? p=some v):p.block<w.1.size:=by
 unfold World.cell? at h;rcases jP p.block w.1.size with h1|h1
 .exact h1
 .rw[D9 h1] at h;cases h
theorem bn {B:Nat}{w w':World}(hb:Below B w w')(hB:B=w.1.size){p:Addr}{v:Value}(h:w.cell? p=some v):w'.cell? p=some v:=by
 subst hB;exact(hb.cell (jC h)).trans h
theorem fA {B:Nat}{a w:World}(h:Below B a w)(n:Nat):Below B a (w.drewN n):=⟨h.os,h.tape,h.output,h.size,h.block⟩
theorem ace {B:Nat}{W w1:World}(hb:Below B W w1):(∀b o,b<B->w1.cell? ⟨b,o,none⟩=W.cell? ⟨b,o,none⟩)/\(∀b o,b<B->w1.frozen? ⟨b,o,none⟩=W.frozen? ⟨b,o,none⟩):=
 ⟨λb o h=>hb.cell (p:=⟨b,o,none⟩) h,λb o h=>hb.frozen (p:=⟨b,o,none⟩) h⟩
theorem aB {a w:World}(h:Below a.1.size a w)(o:Obj):Below a.1.size a (w.alloc o):=h.alloc h.size o
def Row {α:Type}(w:World)(k:Nat)(enc:α->List Value)(a:Option Addr)(n c:Nat)(xs:List α):Prop:=
 xs.length=n/\n<=c/\n<=140737488355328/\(a=none->c=0)/\∀i x,xs[i]?=some x->∃b o,a=some ⟨b,o,none⟩/\∀j v,(enc x)[j]?=some v->w.cell? ⟨b,o+i*k+j,none⟩=some v
section
variable {α:Type}{w w':World}{k:Nat}{enc:α->List Value}{a:Option Addr}{n c:Nat}{xs:List α}
theorem Row.ext (h:Row w k enc a n c xs)(hb:∀p v,w.cell? p=some v->w'.cell? p=some v):Row w' k enc a n c xs:=
 ⟨h.1,h.2.1,h.2.2.1,h.2.2.2.1,λi x hx=>let⟨b,o,ha,hc⟩:=h.2.2.2.2 i x hx;⟨b,o,ha,λj v hv=>hb _ _ (hc j v hv)⟩⟩
theorem Row.below {B:Nat}(h:Row w k enc a n c xs)(hb:Below B w w')(hB:B=w.1.size):Row w' k enc a n c xs:=h.ext λ_ _=>bn hb hB
theorem Row.le (h:Row w k enc a n c xs):n<=140737488355328:=h.2.2.1
theorem Row.len (h:Row w k enc a n c xs):xs.length=n:=h.1
theorem Row.cap (h:Row w k enc a n c xs):n<=c:=h.2.1
theorem Row.none_ (h:Row w k enc none n c xs):c=0/\n=0/\xs=[]:=by
 have h0:=h.2.2.2.1 rfl;have h1:=h.2.1;exact⟨h0,by omega,AA (by rw[h.1];omega)⟩
theorem Row.at_ (h:Row w k enc a n c xs){i:Nat}(hi:i<n):∃x b o,xs[i]?=some x/\a=some ⟨b,o,none⟩/\∀j v,(enc x)[j]?=some v->w.cell? ⟨b,o+i*k+j,none⟩=some v:=by
 have hl:i<xs.length:=by rw[h.1];exact hi
 obtain⟨b,o,ha,hc⟩:=h.2.2.2.2 i xs[i] (eu hl);exact⟨xs[i],b,o,eu hl,ha,hc⟩
theorem Row.fJ:Row w k enc none 0 0 ([]:List α):=⟨rfl,aA _,by decide,λ_=>rfl,λi x h=>by simp at h⟩
end
abbrev Bs:=List UInt8
structure kZ where
 t:Int
 k:Int
 deriving DecidableEq,Inhabited
structure Sn where
 obj:Int
 v:kZ
 deriving DecidableEq,Inhabited
structure Wa where
 dG:Int
 bits:Int
 deriving DecidableEq,Inhabited
structure To where
 name:Bs
 k:Int
 deriving DecidableEq
structure EvC where
 kind:Int
 t:Int
 dG:Int
 lvl:Int
 obj:Int
 v:kZ
 pred:Int
 sa:Option Addr
 sn:Nat
 sc:Nat
structure aM where
 obj:Int
 sa:Option Addr
 sn:Nat
 sc:Nat
structure aN where
 pred:Int
 obj:Int
 first:Bool
 sa:Option Addr
 sn:Nat
 sc:Nat
structure bB where
 kind:Int
 na:Option Addr
 nn:Nat
 nc:Nat
 lvl:Int
 va:Option Addr
 vn:Nat
 vc:Nat
 first:Bool
 bits:Int
def aQ (n:Int):List Value:=[.int .i64 n]
@[reducible] def KJ (n:Int):Value:= .int .i64 n
def encStr (s:Bs):List Value:=[.string ⟨s.toArray⟩]
@[reducible] def valStr (s:Bs):Value:= .string ⟨s.toArray⟩
def bS (s:Sn):List Value:=[.int .i64 s.obj,.int .i64 s.v.t,.int .i64 s.v.k]
@[reducible] def CQ (s:Sn):Value:= .agg #[.int .i64 s.obj,.int .i64 s.v.t,.int .i64 s.v.k]
def fQ (s:Wa):List Value:=[.int .i64 s.dG,.int .i64 s.bits]
@[reducible] def Ci (s:Wa):Value:= .agg #[.int .i64 s.dG,.int .i64 s.bits]
def pE (s:To):List Value:=[.string ⟨s.name.toArray⟩,.int .i64 s.k]
@[reducible] def vB (s:To):Value:= .agg #[.string ⟨s.name.toArray⟩,.int .i64 s.k]
def dO (e:EvC):List Value:=[.int .i64 e.kind,.int .i64 e.t,.int .i64 e.dG,.int .i64 e.lvl,.int .i64 e.obj,.int .i64 e.v.t,.int .i64 e.v.k,.int .i64 e.pred,.slice e.sa e.sn e.sc]
@[reducible] def je (e:EvC):Value:= .agg #[.int .i64 e.kind,.int .i64 e.t,.int .i64 e.dG,.int .i64 e.lvl,.int .i64 e.obj,.int .i64 e.v.t,.int .i64 e.v.k,.int .i64 e.pred,.slice e.sa e.sn e.sc]
def eZ (s:aM):List Value:=[.int .i64 s.obj,.slice s.sa s.sn s.sc]
@[reducible] def JU (s:aM):Value:= .agg #[.int .i64 s.obj,.slice s.sa s.sn s.sc]
def eP (s:aN):List Value:=[.int .i64 s.pred,.int .i64 s.obj,.bool s.first,.slice s.sa s.sn s.sc]
@[reducible] def JW (s:aN):Value:= .agg #[.int .i64 s.pred,.int .i64 s.obj,.bool s.first,.slice s.sa s.sn s.sc]
def mh (l:bB):List Value:=[.int .i64 l.kind,.slice l.na l.nn l.nc,.int .i64 l.lvl,.slice l.va l.vn l.vc,.bool l.first,.int .i64 l.bits]
@[reducible] def jg (l:bB):Value:= .agg #[.int .i64 l.kind,.slice l.na l.nn l.nc,.int .i64 l.lvl,.slice l.va l.vn l.vc,.bool l.first,.int .i64 l.bits]
def PN {α:Type}(P:Program)(f:Nat)(cap:Array Value)(val:α->Value)(p:α->Bool)(xs:List α)(w:World):Prop:=
 ∀x∈xs,∀W,Below w.1.size w W->Calls P f (#[val x]++cap) W (cK (.bool (p x)) W)
def idx {α:Type}(p:α->Bool)(xs:List α):Int:=match xs.findIdx? p with|some i=>(i:Int)|none=> -1
theorem PO {α:Type}{p:α->Bool}{xs:List α}{i:Nat}(h:xs.findIdx? p=some i):idx p xs=i:=by unfold idx;rw[h]
theorem PS {α:Type}{p:α->Bool}{xs:List α}(h:xs.findIdx? p=none):idx p xs= -1:=by unfold idx;rw[h]
theorem xP {α:Type}(p:α->Bool)(xs:List α):decide (0<=idx p xs)=xs.any p:=by
 cases h:xs.findIdx? p with
 |none=>
  rw[PS h];rw[Ec] at h
  symm;simp only[show decide ((0:Int)<= -1)=false from rfl,List.any_eq_false]
  intro x hx;simp[h x hx]
 |some i=>
  rw[PO h];rw[GQ] at h;obtain⟨hl,hp,_⟩:=h
  symm
  simp only[show decide ((0:Int)<=(i:Int))=true by simp,List.any_eq_true];exact⟨xs[i],List.getElem_mem hl,hp⟩
theorem findIdx?_take {α:Type}(p:α->Bool)(xs:List α)(i:Nat)(h:(xs.take i).findIdx? p=none)(x:α)(hx:xs[i]?=some x)(hp:p x=true):xs.findIdx? p=some i:=by
 rw[GQ];have hl:i<xs.length:=by
  rcases jP i xs.length with h'|h'
  .exact h'
  .rw[wP h'] at hx;cases hx
 refine⟨hl,?_,?_⟩
 .rw[eu hl] at hx
  have e:xs[i]=x:=xW hx;rw[e];exact hp
 .intro j hj
  rw[Ec] at h;have:=h xs[j] (by
   rw[u6];exact⟨j,by rw[AB,ay hj];exact eu ah⟩)
  simpa using this
theorem M0 {α:Type}(p:α->Bool)(xs:List α)(i:Nat)(h:(xs.take i).findIdx? p=none)(x:α)(hx:xs[i]?=some x)(hp:p x=false):(xs.take (i+1)).findIdx? p=none:=by
 rw[eO,hx];simp[List.findIdx?_append,h,hp]
end Yd
namespace Yd
open Option renaming some->a
open Go Go.RowKit Go.Proofs
theorem qE {P:Program}{T:TypeId}{k by_:Nat}(h:(P.info? T).map (λi=>(i.zero.map (·.cells.size),i.size,i.bytes))=a (a k,k,by_)):
  ∃i z,P.info? T=a i/\i.zero=a z/\i.size=k/\i.bytes=by_/\z.cells.size=k:=by
 cases hi:P.info? T with
 |none=>rw[hi] at h;cases h
 |some i=>
  rw[hi] at h;simp only[Option.map_some,Option.some.injEq,Prod.mk.injEq] at h;obtain⟨h1,h2,h3⟩:=h
  cases hz:i.zero with
  |none=>rw[hz] at h1;cases h1
  |some z=>rw[hz] at h1;exact⟨i,z,rfl,hz,h2,h3,by simpa using h1⟩
theorem agU:(Tryz.prog.info? 47).map (λi=>(i.zero.map (·.cells.size),i.size,i.bytes))=a (a 9,9,88):=av
theorem G8:∃i z,Tryz.prog.info? 47=a i/\i.zero=a z/\i.size=9/\i.bytes=88/\z.cells.size=9:=qE agU
theorem agV:(Tryz.prog.info? 52).map (λi=>(i.zero.map (·.cells.size),i.size,i.bytes))=a (a 2,2,24):=av
theorem Rt:∃i z,Tryz.prog.info? 52=a i/\i.zero=a z/\i.size=2/\i.bytes=24/\z.cells.size=2:=qE agV
theorem ad2:(Tryz.prog.info? 9).map (λi=>(i.zero.map (·.cells.size),i.size,i.bytes))=a (a 1,1,16):=av
theorem uw:∃i z,Tryz.prog.info? 9=a i/\i.zero=a z/\i.size=1/\i.bytes=16/\z.cells.size=1:=qE ad2
theorem ad3:(Tryz.prog.info? 3).map (λi=>(i.zero.map (·.cells.size),i.size,i.bytes))=a (a 1,1,8):=av
theorem yZ:∃i z,Tryz.prog.info? 3=a i/\i.zero=a z/\i.size=1/\i.bytes=8/\z.cells.size=1:=qE ad3
theorem agW:(Tryz.prog.info? 74).map (λi=>(i.zero.map (·.cells.size),i.size,i.bytes))=a (a 2,2,32):=av
theorem G9:∃i z,Tryz.prog.info? 74=a i/\i.zero=a z/\i.size=2/\i.bytes=32/\z.cells.size=2:=qE agW
theorem agX:(Tryz.prog.info? 77).map (λi=>(i.zero.map (·.cells.size),i.size,i.bytes))=a (a 4,4,48):=av
theorem He:∃i z,Tryz.prog.info? 77=a i/\i.zero=a z/\i.size=4/\i.bytes=48/\z.cells.size=4:=qE agX
theorem agY:(Tryz.prog.info? 79).map (λi=>(i.zero.map (·.cells.size),i.size,i.bytes))=a (a 2,2,16):=av
theorem Hf:∃i z,Tryz.prog.info? 79=a i/\i.zero=a z/\i.size=2/\i.bytes=16/\z.cells.size=2:=qE agY
theorem agZ:(Tryz.prog.info? 117).map (λi=>(i.zero.map (·.cells.size),i.size,i.bytes))=a (a 3,3,24):=av
theorem Dt:∃i z,Tryz.prog.info? 117=a i/\i.zero=a z/\i.size=3/\i.bytes=24/\z.cells.size=3:=qE agZ
theorem ag0:(Tryz.prog.info? 30).map (λi=>(i.zero.map (·.cells.size),i.size,i.bytes))=a (a 6,6,80):=av
theorem GZ:∃i z,Tryz.prog.info? 30=a i/\i.zero=a z/\i.size=6/\i.bytes=80/\z.cells.size=6:=qE ag0
end Yd
namespace Yd
open Option renaming some->d
open Go Go.RowKit
open Go renaming Value->p,World->A,TypeId->C
open Go.Value renaming slice->f
open Value renaming slice->l
theorem eH (w:A)(o:Obj):(w.alloc o).1[w.1.size]?=d o:=by
 show(w.1.push o)[w.1.size]?=d o;simp
def Own {α:Type}(w:A)(B:Nat)(E:C)(k:Nat)(enc:α->List p)(v:p)(xs:List α):Prop:=
 w.ownsRow B E k v xs.length (xs.flatMap enc)
class Cells {α:Type} (enc:α->List p) (k:Nat):Prop where
 len:∀x,(enc x).length=k
 pos:0<k
 one:∀x,∀u∈enc x,u.oneCell'=true
instance ig:Cells aQ 1:=⟨λ_=>rfl,by decide,λx u h=>by simp[aQ] at h;subst h;rfl⟩
instance jQ:Cells encStr 1:=⟨λ_=>rfl,by decide,λx u h=>by simp[encStr] at h;subst h;rfl⟩
instance oJ:Cells bS 3:=⟨λ_=>rfl,by decide,λx u h=>by simp[bS] at h;rcases h with rfl|rfl|rfl <;> rfl⟩
instance wC:Cells fQ 2:=⟨λ_=>rfl,by decide,λx u h=>by simp[fQ] at h;rcases h with rfl|rfl <;> rfl⟩
instance Ke:Cells pE 2:=⟨λ_=>rfl,by decide,λx u h=>by simp[pE] at h;rcases h with rfl|rfl <;> rfl⟩
instance uJ:Cells eZ 2:=⟨λ_=>rfl,by decide,λx u h=>by simp[eZ] at h;rcases h with rfl|rfl <;> rfl⟩
instance rJ:Cells eP 4:=⟨λ_=>rfl,by decide,λx u h=>by simp[eP] at h;rcases h with rfl|rfl|rfl|rfl <;> rfl⟩
instance Bq:Cells mh 6:=⟨λ_=>rfl,by decide,λx u h=>by simp[mh] at h;rcases h with rfl|rfl|rfl|rfl|rfl|rfl <;> rfl⟩
instance sP:Cells dO 9:=⟨λ_=>rfl,by decide,λx u h=>by simp[dO] at h;rcases h with rfl|rfl|rfl|rfl|rfl|rfl|rfl|rfl|rfl <;> rfl⟩
section
variable {α:Type}{enc:α->List p}{k:Nat}
theorem zk [hc:Cells enc k](xs:List α):(xs.flatMap enc).length=xs.length*k:=by
 induction xs with
 |nil=>simp
 |cons x xs ih=>simp[qP,ih,hc.len x,Nat.add_mul,Nat.add_comm]
theorem flat_get [hc:Cells enc k](xs:List α):∀(i:Nat)(x:α)(j:Nat)(v:p),xs[i]?=d x->(enc x)[j]?=d v->(xs.flatMap enc)[i*k+j]?=d v:=by
 induction xs with
 |nil=>intro i x j v h;simp at h
 |cons y ys ih=>
  intro i x j v hx hv;have hj:j<k:=by
   have:=(bG.1 hv).1;rw[hc.len x] at this;exact this
  rw[qP]
  cases i with
  |zero=>
   have e:y=x:=by simpa using hx
   subst e;rw[Nat.zero_mul,bU,wO (by rw[hc.len y];exact hj)];exact hv
  |succ i=>
   rw[uZ (by rw[hc.len y,Nat.succ_mul];omega),hc.len y,show(i+1)*k+j - k=i*k+j by rw[Nat.succ_mul];omega];exact ih i x j v (by simpa using hx) hv
theorem aan [hc:Cells enc k](xs:List α):∀(q:Nat)(v:p),(xs.flatMap enc)[q]?=d v->∃i x j,xs[i]?=d x/\(enc x)[j]?=d v/\q=i*k+j:=by
 induction xs with
 |nil=>intro q v h;simp at h
 |cons y ys ih=>
  intro q v h;rw[qP] at h;rcases jP q k with hq|hq
  .rw[wO (by rw[hc.len y];exact hq)] at h
   exact⟨0,y,q,rfl,h,by omega⟩
  .rw[uZ (by rw[hc.len y];exact hq),hc.len y] at h
   obtain⟨i,x,j,hx,hv,he⟩:=ih _ _ h;exact⟨i+1,x,j,by simpa using hx,hv,by rw[Nat.succ_mul];omega⟩
theorem aao [hc:Cells enc k](xs:List α):∀u∈xs.flatMap enc,u.oneCell'=true:=by
 intro u hu;obtain⟨x,_,h⟩:=ni.1 hu;exact hc.one x u h
variable {w w':A}{B:Nat}{E:C}{v:p}{xs:List α}
theorem Own.fJ (w:A)(B:Nat)(E:C)(k:Nat)(enc:α->List p):Own w B E k enc (f none 0 0) []:=World.ownsRow_nil w B E k
theorem Own.shape (h:Own w B E k enc v xs):∃a c,v= f a xs.length c/\(a=none->c=0)/\xs.length<=c:=by
 rcases h.2 with⟨rfl,h0⟩|⟨g,cap,cur,rfl,_,_,hn,_⟩
 .exact⟨none,0,by rw[h0],λ_=>rfl,by omega⟩
 .exact⟨_,cap,rfl,(λh=>by cases h),hn⟩
theorem Own.row [hc:Cells enc k]{a:Option Addr}{n c:Nat}(h:Own w B E k enc (f a n c) xs)(hle:xs.length<=140737488355328):Row w k enc a n c xs:=by
 obtain⟨h1,h2⟩:=h;rcases h2 with⟨he,h0⟩|⟨g,cap,cur,he,_,hh,hn,_,hs,ht⟩
 .injection he with e1 e2 e3
  subst e1 e2 e3;have hx:xs=[]:=AA h0;subst hx;exact Row.fJ
 .injection he with e1 e2 e3
  subst e1 e2 e3;refine⟨rfl,hn,hle,(λh=>by cases h),λi x hx=>⟨g,0,rfl,λj v hv=>?_⟩⟩;have hf:=flat_get (hc:=hc) xs i x j v hx hv;have hlt:i*k+j<xs.length*k:=by rw[<-h1];exact(bG.1 hf).1
  rw[<-ht,AB,ay hlt] at hf;simp only[bU];unfold World.cell?;simp[hh]
  simpa using hf
theorem Own.lt (h:Own w B E k enc v xs):∀g,v.ownBlock=d g->B<=g/\g<w.1.size:=World.ownsRow.lt h
theorem Own.alloc (h:Own w B E k enc v xs)(o:Obj):Own (w.alloc o) B E k enc v xs:=World.ownsRow.alloc h o
theorem Own.drew (h:Own w B E k enc v xs):Own w.drew B E k enc v xs:=h
theorem Own.block (h:Own w B E k enc v xs)(hk:∀g,v.ownBlock=d g->w'.1[g]?=w.1[g]?):Own w' B E k enc v xs:=by
 obtain⟨h1,h2⟩:=h;refine⟨h1,?_⟩;rcases h2 with h2|⟨g,cap,cur,rfl,hB,hh,r⟩
 .exact .inl h2
 .exact .inr ⟨g,cap,cur,rfl,hB,by rw[hk g rfl];exact hh,r⟩
theorem Own.below {D:Nat}(h:Own w B E k enc v xs)(hb:Below D w w')(hD:D=w.1.size):Own w' B E k enc v xs:=
 h.block λg hg=>hb.block g (by rw[hD];exact(h.lt g hg).2)
theorem Own.mono {B':Nat}(h:Own w B E k enc v xs)(hB:B'<=B):Own w B' E k enc v xs:=by
 obtain⟨h1,h2⟩:=h;refine⟨h1,?_⟩;rcases h2 with h2|⟨g,cap,cur,rfl,hB',r⟩
 .exact .inl h2
 .exact .inr ⟨g,cap,cur,rfl,by omega,r⟩
theorem Own.new (w:A)(B:Nat)(E:C)[hc:Cells enc k](cs:Array p)(xs:List α)(hB:B<=w.1.size)(he:cs.toList=xs.flatMap enc)(hle:xs.length<=maxLen):
  Own (w.alloc (.cells cs E)) B E k enc (f (d ⟨w.1.size,0,none⟩) xs.length xs.length) xs:=by
 have hs:cs.size=xs.length*k:=by rw[<-Array.length_toList,he,zk (hc:=hc)]
 refine⟨zk xs,.inr ⟨w.1.size,xs.length,cs,rfl,hB,eH w _,aA _,hle,hs,?_⟩⟩;rw[dR (by rw[Array.length_toList,hs];exact aA _),he]
theorem ad4 [hc:Cells enc k]{P:Program}(t ty:C)(i:TypeInfo)(z:p)(bytes:Nat)(ht:P.underlying t=d (.slice E))(hi:P.info? E=d i)(hz:i.zero=d z)
  (hsize:i.size=k) (hby:i.bytes=bytes) (hzs:z.cells.size=k) (hown:Own w B E k enc v xs)
  {a:Option Addr} {m c:Nat} {ys:List α} (hr:Row w k enc a m c ys) (hbytes:(xs.length+m)*bytes<=140737488355328) (h63:xs.length+m<=maxLen) (hbase:B<=w.1.size):
  ∃a' c' w',(Builtin.append_ #[t,t] ty #[v,f a m c]).run P w= .ok (f a' (xs++ys).length c') w'/\Own w' B E k enc (f a' (xs++ys).length c') (xs++ys)/\w.grownBy w' v.ownBlock/\
   ((l a' (xs++ys).length c').ownBlock=v.ownBlock\/(l a' (xs++ys).length c').ownBlock=d w.1.size):=by
 cases a with
 |none=>
  obtain⟨rfl,rfl,rfl⟩:=hr.none_;obtain⟨a,c,rfl,_,_⟩:=hown.shape;refine⟨a,c,w,?_,?_,World.grownBy.refl w _,.inl ?_⟩
  .simpa using run_append_owned_none (P:=P) (w:=w) B t ty E i k ht hi _ _ _ hown
  .simpa using hown
  .rw[fw]
 |some ad=>
  have hm:ys.length=m:=hr.len;have hcells:∀j u,(ys.flatMap enc)[j]?=d u->w.cell? (ad.add j)=d u:=by
   intro j u hu;obtain⟨i',x,j',hx,hv,he⟩:=aan (hc:=hc) ys j u hu;obtain⟨b,o,ha,hcell⟩:=hr.2.2.2.2 i' x hx;injection ha with ha;subst ha;have h:=hcell j' u hv;rw[he];unfold Addr.add
   split
   .rename_i h0
    rw[show o+i'*k+j'=o by omega] at h;exact h
   .rw[<-Nat.add_assoc];exact h
  obtain⟨v',w',hrun,h1,h2,_,h4⟩:=run_append_own_at (P:=P) w B t ty E i z k bytes ht hi hz hsize hby hzs hc.pos v xs.length (xs.flatMap enc) hown ad m c (ys.flatMap enc) (by rw[zk (hc:=hc),hm]) hcells (aao (hc:=hc) ys) h63 hbytes hbase;have hown':Own w' B E k enc v' (xs++ys):=by
   unfold Own;rw[List.flatMap_append,dH,hm];exact h1
  obtain⟨a',c',rfl,_,_⟩:=hown'.shape;exact⟨a',c',w',hrun,hown',h2,h4⟩
theorem ko [hc:Cells enc k]{P:Program}{o:Oper}{ac:Act}{K:Act->A->Prop}{Q:Exit->Act->A->Prop}(s x:Operand)(t:C)
  (ho:o.op= .call {callee:= .builtin .append,args:=#[s,x],argTypes:=#[t,t]}) (i:TypeInfo) (z:p) (bytes:Nat) (ht:P.underlying t=d (.slice E)) (hi:P.info? E=d i) (hz:i.zero=d z)
  (hsize:i.size=k) (hby:i.bytes=bytes) (hzs:z.cells.size=k) (hs:ac.eval s=v) (hown:Own w B E k enc v xs)
  (a:Option Addr) (m c N:Nat) (ys:List α) (hx:ac.eval x= f a m c) (hr:Row w k enc a m c ys) (hN:xs.length+m=N) (hbytes:N*bytes<=140737488355328) (h63:N<=maxLen) (hbase:B<=w.1.size)
  (h:∀a' c' w',Own w' B E k enc (f a' N c') (xs++ys)->w.grownBy w' v.ownBlock->((l a' N c').ownBlock=v.ownBlock\/(l a' N c').ownBlock=d w.1.size)->K (ac.put o.dst (f a' N c')) w'):o.wp P ac w K Q:=by
 subst hN;obtain⟨a',c',w',hrun,h2,h3,h4⟩:=ad4 (P:=P) t o.type i z bytes ht hi hz hsize hby hzs hown hr hbytes h63 hbase;have hl:(xs++ys).length=xs.length+m:=by rw[dH,hr.len]
 rw[hl] at hrun h2 h4;unfold Oper.wp execOp;simp only[ho,resolve,invoke,builtin,Sem.run_bind,Sem.run_pure,Result.andThen_ok,List.map_toArray,lD,mU,hs,hx,hrun];exact h a' c' w' h2 h3 h4
theorem eB [hc:Cells enc k]{P:Program}{ops:Array Oper}{rest:List Oper}{o:Oper}{ac:Act}{Q:Exit->Act->A->Prop}(hgd:o.guard=none)(s x:Operand)(t:C)
  (ho:o.op= .call {callee:= .builtin .append,args:=#[s,x],argTypes:=#[t,t]}) (i:TypeInfo) (z:p) (bytes:Nat) (ht:P.underlying t=d (.slice E)) (hi:P.info? E=d i) (hz:i.zero=d z)
  (hsize:i.size=k) (hby:i.bytes=bytes) (hzs:z.cells.size=k) (hs:ac.eval s=v) (hown:Own w B E k enc v xs)
  (a:Option Addr) (m c N:Nat) (ys:List α) (hx:ac.eval x= f a m c) (hr:Row w k enc a m c ys) (hN:xs.length+m=N) (hbytes:N*bytes<=140737488355328) (h63:N<=maxLen) (hbase:B<=w.1.size)
  (h:∀a' c' w',Own w' B E k enc (f a' N c') (xs++ys)->w.grownBy w' v.ownBlock->((l a' N c').ownBlock=v.ownBlock\/(l a' N c').ownBlock=d w.1.size)->wpList P ops Q rest (ac.put o.dst (f a' N c')) w'):
  wpList P ops Q (o::rest) ac w:=
 wpList_plain hgd λ_ hK=>ko s x t ho i z bytes ht hi hz hsize hby hzs hs hown a m c N ys hx hr hN hbytes h63 hbase λa' c' w' h2 h3 h4=>hK _ _ (h a' c' w' h2 h3 h4)
theorem below_app {D:Nat}{a0:A}(hb:Below D a0 w)(hown:Own w B E k enc v xs)(hD:D<=B)(hsz:D<=w.1.size)(hg:w.grownBy w' v.ownBlock):Below D a0 w':=
 hb.grown hg hsz λg e=>dL hD (hown.lt g e).1
def kQ (E:C)(k:Nat)(enc:α->List p)(xs:List α)(w:A)(e:Ending)(w':A):Prop:=
 ∃a c,e= .returned (f a xs.length c)/\Own w' w.1.size E k enc (f a xs.length c) xs/\Below w.1.size w w'
end
end Yd
namespace Yd
open Go Go.RowKit Go.Proofs Tryz
open Below renaming refl->b
open Go renaming World->f,Calls->g,Addr->h
open Go.Obj renaming cells->e
open Tryz renaming prog->d,ntmps12->j,ntmps13->k,func12->l,func13->m
theorem adv (a:Option h)(c:Nat)(cs:List EvC)(w:f)(hr:Row w 9 dO a cs.length c cs)(hby:cs.length*88<=140737488355328):
  g d 86 #[.slice a cs.length c] w (kQ 47 9 dO cs w):=by
 have hm:cs.length<=maxLen:=by have:=hr.le;unfold maxLen;omega
 have hsn:=λ(w:f)(n c:Nat)=> @Lib.run_eql_slice_nil d w 31 47 a n c 0 0 underlying31
 cases a with
 |none=>
  obtain⟨rfl,_,rfl⟩:=hr.none_;go_enter func86,ntmps86;go_wp2_with fail;go_ret;exact⟨none,0,rfl,Own.fJ _ _ _ _ _,b _ _⟩
 |some ad=>
  obtain⟨i,z,hi,hz,hsize,uT,hzs⟩:=G8;have hr1:Row (w.alloc (e #[] 47)) 9 dO (some ad) cs.length c cs:=hr.below ((b _ _).alloc (aA _) _) rfl;have HO:=Own.new (hc:=sP) w w.1.size 47 (enc:=dO) #[] [] (aA _) rfl (aV _);have HB:Below w.1.size w (w.alloc (e #[] 47)):=(b _ _).alloc (aA _) _;have HR:=hid hr1;have HC:=hid hr;have mI:=hid HO;have rP:=hid HB;clear hr hr1 HO HB;go_enter func86,ntmps86
  go_wp2_with (at_builtin;refine eB rfl _ _ 31 rfl i z 88 underlying31 hi hz hsize uT hzs rfl mI.q (some ad) cs.length c cs.length cs rfl HR.q au hby hm au ?_;intro a' c' w1 hown1 hg1 rz)
  go_ret;exact⟨a',c',rfl,hown1,below_app rP.q mI.q (aA _) au hg1⟩
theorem adz (a:Option h)(c:Nat)(cs:List Sn)(w:f)(hr:Row w 3 bS a cs.length c cs)(hby:cs.length*24<=140737488355328):
  g d 90 #[.slice a cs.length c] w (kQ 117 3 bS cs w):=by
 have hm:cs.length<=maxLen:=by have:=hr.le;unfold maxLen;omega
 have hsn:=λ(w:f)(n c:Nat)=> @Lib.run_eql_slice_nil d w 45 117 a n c 0 0 underlying45
 cases a with
 |none=>
  obtain⟨rfl,_,rfl⟩:=hr.none_;go_enter func90,ntmps90;go_wp2_with fail;go_ret;exact⟨none,0,rfl,Own.fJ _ _ _ _ _,b _ _⟩
 |some ad=>
  obtain⟨i,z,hi,hz,hsize,uT,hzs⟩:=Dt;have hr1:Row (w.alloc (e #[] 117)) 3 bS (some ad) cs.length c cs:=hr.below ((b _ _).alloc (aA _) _) rfl;have HO:=Own.new (hc:=oJ) w w.1.size 117 (enc:=bS) #[] [] (aA _) rfl (aV _);have HB:Below w.1.size w (w.alloc (e #[] 117)):=(b _ _).alloc (aA _) _;have HR:=hid hr1;have HC:=hid hr;have mI:=hid HO;have rP:=hid HB;clear hr hr1 HO HB;go_enter func90,ntmps90
  go_wp2_with (at_builtin;refine eB rfl _ _ 45 rfl i z 24 underlying45 hi hz hsize uT hzs rfl mI.q (some ad) cs.length c cs.length cs rfl HR.q au hby hm au ?_;intro a' c' w1 hown1 hg1 rz)
  go_ret;exact⟨a',c',rfl,hown1,below_app rP.q mI.q (aA _) au hg1⟩
theorem adw (a:Option h)(c:Nat)(cs:List aM)(w:f)(hr:Row w 2 eZ a cs.length c cs)(hby:cs.length*32<=140737488355328):
  g d 87 #[.slice a cs.length c] w (kQ 74 2 eZ cs w):=by
 have hm:cs.length<=maxLen:=by have:=hr.le;unfold maxLen;omega
 have hsn:=λ(w:f)(n c:Nat)=> @Lib.run_eql_slice_nil d w 32 74 a n c 0 0 underlying32
 cases a with
 |none=>
  obtain⟨rfl,_,rfl⟩:=hr.none_;go_enter func87,ntmps87;go_wp2_with fail;go_ret;exact⟨none,0,rfl,Own.fJ _ _ _ _ _,b _ _⟩
 |some ad=>
  obtain⟨i,z,hi,hz,hsize,uT,hzs⟩:=G9;have hr1:Row (w.alloc (e #[] 74)) 2 eZ (some ad) cs.length c cs:=hr.below ((b _ _).alloc (aA _) _) rfl;have HO:=Own.new (hc:=uJ) w w.1.size 74 (enc:=eZ) #[] [] (aA _) rfl (aV _);have HB:Below w.1.size w (w.alloc (e #[] 74)):=(b _ _).alloc (aA _) _;have HR:=hid hr1;have HC:=hid hr;have mI:=hid HO;have rP:=hid HB;clear hr hr1 HO HB;go_enter func87,ntmps87
  go_wp2_with (at_builtin;refine eB rfl _ _ 32 rfl i z 32 underlying32 hi hz hsize uT hzs rfl mI.q (some ad) cs.length c cs.length cs rfl HR.q au hby hm au ?_;intro a' c' w1 hown1 hg1 rz)
  go_ret;exact⟨a',c',rfl,hown1,below_app rP.q mI.q (aA _) au hg1⟩
theorem adx (a:Option h)(c:Nat)(cs:List aN)(w:f)(hr:Row w 4 eP a cs.length c cs)(hby:cs.length*48<=140737488355328):
  g d 88 #[.slice a cs.length c] w (kQ 77 4 eP cs w):=by
 have hm:cs.length<=maxLen:=by have:=hr.le;unfold maxLen;omega
 have hsn:=λ(w:f)(n c:Nat)=> @Lib.run_eql_slice_nil d w 33 77 a n c 0 0 underlying33
 cases a with
 |none=>
  obtain⟨rfl,_,rfl⟩:=hr.none_;go_enter func88,ntmps88;go_wp2_with fail;go_ret;exact⟨none,0,rfl,Own.fJ _ _ _ _ _,b _ _⟩
 |some ad=>
  obtain⟨i,z,hi,hz,hsize,uT,hzs⟩:=He;have hr1:Row (w.alloc (e #[] 77)) 4 eP (some ad) cs.length c cs:=hr.below ((b _ _).alloc (aA _) _) rfl;have HO:=Own.new (hc:=rJ) w w.1.size 77 (enc:=eP) #[] [] (aA _) rfl (aV _);have HB:Below w.1.size w (w.alloc (e #[] 77)):=(b _ _).alloc (aA _) _;have HR:=hid hr1;have HC:=hid hr;have mI:=hid HO;have rP:=hid HB;clear hr hr1 HO HB;go_enter func88,ntmps88
  go_wp2_with (at_builtin;refine eB rfl _ _ 33 rfl i z 48 underlying33 hi hz hsize uT hzs rfl mI.q (some ad) cs.length c cs.length cs rfl HR.q au hby hm au ?_;intro a' c' w1 hown1 hg1 rz)
  go_ret;exact⟨a',c',rfl,hown1,below_app rP.q mI.q (aA _) au hg1⟩
theorem ady (a:Option h)(c:Nat)(cs:List Wa)(w:f)(hr:Row w 2 fQ a cs.length c cs)(hby:cs.length*16<=140737488355328):
  g d 89 #[.slice a cs.length c] w (kQ 79 2 fQ cs w):=by
 have hm:cs.length<=maxLen:=by have:=hr.le;unfold maxLen;omega
 have hsn:=λ(w:f)(n c:Nat)=> @Lib.run_eql_slice_nil d w 34 79 a n c 0 0 underlying34
 cases a with
 |none=>
  obtain⟨rfl,_,rfl⟩:=hr.none_;go_enter func89,ntmps89;go_wp2_with fail;go_ret;exact⟨none,0,rfl,Own.fJ _ _ _ _ _,b _ _⟩
 |some ad=>
  obtain⟨i,z,hi,hz,hsize,uT,hzs⟩:=Hf;have hr1:Row (w.alloc (e #[] 79)) 2 fQ (some ad) cs.length c cs:=hr.below ((b _ _).alloc (aA _) _) rfl;have HO:=Own.new (hc:=wC) w w.1.size 79 (enc:=fQ) #[] [] (aA _) rfl (aV _);have HB:Below w.1.size w (w.alloc (e #[] 79)):=(b _ _).alloc (aA _) _;have HR:=hid hr1;have HC:=hid hr;have mI:=hid HO;have rP:=hid HB;clear hr hr1 HO HB;go_enter func89,ntmps89
  go_wp2_with (at_builtin;refine eB rfl _ _ 34 rfl i z 16 underlying34 hi hz hsize uT hzs rfl mI.q (some ad) cs.length c cs.length cs rfl HR.q au hby hm au ?_;intro a' c' w1 hown1 hg1 rz)
  go_ret;exact⟨a',c',rfl,hown1,below_app rP.q mI.q (aA _) au hg1⟩
theorem OZ (a:Option h)(c:Nat)(cs:List Int)(w:f)(hr:Row w 1 aQ a cs.length c cs)(hby:cs.length*8<=140737488355328):
  g d 91 #[.slice a cs.length c] w (kQ 3 1 aQ cs w):=by
 have hm:cs.length<=maxLen:=by have:=hr.le;unfold maxLen;omega
 have hsn:=λ(w:f)(n c:Nat)=> @Lib.run_eql_slice_nil d w 72 3 a n c 0 0 underlying72
 cases a with
 |none=>
  obtain⟨rfl,_,rfl⟩:=hr.none_;go_enter func91,ntmps91;go_wp2_with fail;go_ret;exact⟨none,0,rfl,Own.fJ _ _ _ _ _,b _ _⟩
 |some ad=>
  obtain⟨i,z,hi,hz,hsize,uT,hzs⟩:=yZ;have hr1:Row (w.alloc (e #[] 3)) 1 aQ (some ad) cs.length c cs:=hr.below ((b _ _).alloc (aA _) _) rfl;have HO:=Own.new (hc:=ig) w w.1.size 3 (enc:=aQ) #[] [] (aA _) rfl (aV _);have HB:Below w.1.size w (w.alloc (e #[] 3)):=(b _ _).alloc (aA _) _;have HR:=hid hr1;have HC:=hid hr;have mI:=hid HO;have rP:=hid HB;clear hr hr1 HO HB;go_enter func91,ntmps91
  go_wp2_with (at_builtin;refine eB rfl _ _ 72 rfl i z 8 underlying72 hi hz hsize uT hzs rfl mI.q (some ad) cs.length c cs.length cs rfl HR.q au hby hm au ?_;intro a' c' w1 hown1 hg1 rz)
  go_ret;exact⟨a',c',rfl,hown1,below_app rP.q mI.q (aA _) au hg1⟩
theorem zo (a:Option h)(c:Nat)(cs:List Bs)(w:f)(hr:Row w 1 encStr a cs.length c cs)(hby:cs.length*16<=140737488355328):
  g d 12 #[.slice a cs.length c] w (kQ 9 1 encStr cs w):=by
 have hm:cs.length<=maxLen:=by have:=hr.le;unfold maxLen;omega
 have hsn:=λ(w:f)(n c:Nat)=> @Lib.run_eql_slice_nil d w 27 9 a n c 0 0 underlying27
 cases a with
 |none=>
  obtain⟨rfl,_,rfl⟩:=hr.none_;go_enter l,j;go_wp2_with fail;go_ret;exact⟨none,0,rfl,Own.fJ _ _ _ _ _,b _ _⟩
 |some ad=>
  obtain⟨i,z,hi,hz,hsize,uT,hzs⟩:=uw;have hr1:Row (w.alloc (e #[] 9)) 1 encStr (some ad) cs.length c cs:=hr.below ((b _ _).alloc (aA _) _) rfl;have HO:=Own.new (hc:=jQ) w w.1.size 9 (enc:=encStr) #[] [] (aA _) rfl (aV _);have HB:Below w.1.size w (w.alloc (e #[] 9)):=(b _ _).alloc (aA _) _;have HR:=hid hr1;have HC:=hid hr;have mI:=hid HO;have rP:=hid HB;clear hr hr1 HO HB;go_enter l,j
  go_wp2_with (at_builtin;refine eB rfl _ _ 27 rfl i z 16 underlying27 hi hz hsize uT hzs rfl mI.q (some ad) cs.length c cs.length cs rfl HR.q au hby hm au ?_;intro a' c' w1 hown1 hg1 rz)
  go_ret;exact⟨a',c',rfl,hown1,below_app rP.q mI.q (aA _) au hg1⟩
theorem ad5 (a:Option h)(c:Nat)(cs:List To)(w:f)(hr:Row w 2 pE a cs.length c cs)(hby:cs.length*24<=140737488355328):
  g d 13 #[.slice a cs.length c] w (kQ 52 2 pE cs w):=by
 have hm:cs.length<=maxLen:=by have:=hr.le;unfold maxLen;omega
 have hsn:=λ(w:f)(n c:Nat)=> @Lib.run_eql_slice_nil d w 28 52 a n c 0 0 underlying28
 cases a with
 |none=>
  obtain⟨rfl,_,rfl⟩:=hr.none_;go_enter m,k;go_wp2_with fail;go_ret;exact⟨none,0,rfl,Own.fJ _ _ _ _ _,b _ _⟩
 |some ad=>
  obtain⟨i,z,hi,hz,hsize,uT,hzs⟩:=Rt;have hr1:Row (w.alloc (e #[] 52)) 2 pE (some ad) cs.length c cs:=hr.below ((b _ _).alloc (aA _) _) rfl;have HO:=Own.new (hc:=Ke) w w.1.size 52 (enc:=pE) #[] [] (aA _) rfl (aV _);have HB:Below w.1.size w (w.alloc (e #[] 52)):=(b _ _).alloc (aA _) _;have HR:=hid hr1;have HC:=hid hr;have mI:=hid HO;have rP:=hid HB;clear hr hr1 HO HB;go_enter m,k
  go_wp2_with (at_builtin;refine eB rfl _ _ 28 rfl i z 24 underlying28 hi hz hsize uT hzs rfl mI.q (some ad) cs.length c cs.length cs rfl HR.q au hby hm au ?_;intro a' c' w1 hown1 hg1 rz)
  go_ret;exact⟨a',c',rfl,hown1,below_app rP.q mI.q (aA _) au hg1⟩
end Yd
namespace Yd
open Go Go.RowKit
def jB (i:Nat):Nat:=if i=0\/i=2 then 300 else 60
def cZ (l:List Bs)(s:Bs):List Bs:=if s∈l then l else l++[s]
def nK (l:List Bs)(s:Bs):Nat:=(cZ l s).idxOf s
theorem EN (l:List Bs)(s:Bs):s∈cZ l s:=by
 unfold cZ
 split
 .assumption
 .simp
theorem Jl (l:List Bs)(s:Bs):l<+:cZ l s:=by
 unfold cZ
 split
 .exact iK _
 .exact fP _ _
theorem pU {l:List Bs}{s:Bs}(h:s∈l):cZ l s=l:=by unfold cZ;rw[ay h]
theorem nE {l:List Bs}{s:Bs}(h:s∉l):cZ l s=l++[s]:=by unfold cZ;rw[ak h]
theorem WX {l:List Bs}{s:Bs}(h:s∈l):nK l s=l.idxOf s:=by unfold nK;rw[pU h]
theorem Sm {l:List Bs}{s:Bs}(h:s∉l):nK l s=l.length:=by
 unfold nK;rw[nE h,List.idxOf_append,ak h];simp
theorem WB (l:List Bs)(s:Bs):nK l s<(cZ l s).length:=GU (EN l s)
theorem Ev {l:List Bs}{s:Bs}(h:l.Nodup):(cZ l s).Nodup:=by
 unfold cZ
 split
 .exact h
 .rename_i hs
  refine zC.2 ⟨h,by simp,λp hp q hq e=>?_⟩;rw[bF.1 hq] at e;exact hs (e▸hp)
end Yd
namespace Yd
open Go Go.RowKit Go.Proofs Tryz
open Tryz renaming prog->d
theorem V6 (x y:To)(w:World):(Op.equalIn 10000 52 (vB x) (vB y)).run d w= .ok (decide (x=y)) w:=by
 simp[vB,go_sem]
 cases x;cases y;simp;(repeat' split) <;> simp_all
theorem ag1 (x y:Wa)(w:World):(Op.equalIn 10000 79 (Ci x) (Ci y)).run d w= .ok (decide (x=y)) w:=by
 simp[Ci,go_sem]
 cases x;cases y;simp;(repeat' split) <;> simp_all
theorem Q8 (x y:kZ)(w:World):(Op.equalIn 10000 44 (.agg #[.int .i64 x.t,.int .i64 x.k]) (.agg #[.int .i64 y.t,.int .i64 y.k])).run d w= .ok (decide (x=y)) w:=by
 simp[go_sem]
 cases x;cases y;simp;(repeat' split) <;> simp_all
theorem Vh (x y:Sn)(w:World):(Op.equalIn 10000 117 (CQ x) (CQ y)).run d w= .ok (decide (x=y)) w:=by
 simp[CQ,go_sem];obtain⟨_,⟨_,_⟩⟩:=x;obtain⟨_,⟨_,_⟩⟩:=y;simp;(repeat' split) <;> simp_all
def Gt {α:Type}(F k:Nat)(en:α->List Value)(val:α->Value):Prop:=∀(a:Option Addr)(n c f:Nat)(cap:Array Value)(cs:List α)(p:α->Bool)(w:World),Row w k en a n c cs->
  (∀args w,(callFunc f args).run d w= .ok (.enter f args) w)->PN d f cap val p cs w->Calls d F #[.slice a n c,.func (.func f) #[] cap] w (cK (.int .i64 (idx p cs)) w)
def CR {α:Type}(F k:Nat)(en:α->List Value)(val:α->Value):Prop:=∀(a:Option Addr)(n c f:Nat)(cap:Array Value)(cs:List α)(p:α->Bool)(w:World),Row w k en a n c cs->
  (∀args w,(callFunc f args).run d w= .ok (.enter f args) w)->PN d f cap val p cs w->Calls d F #[.slice a n c,.func (.func f) #[] cap] w (cK (.bool (cs.any p)) w)
theorem Gu {p:Prop}(h:p:=by
 have hn:=HR.q.le;go_wp2_with fail
 go_loopw [8] (λi wr=>∃k:Nat,k<=n/\i= .int .i64 k/\(cs.take k).findIdx? p=none/\Below w.1.size w wr) (λi _=>n - (RowKit.intOf i).toNat)
 case atStart=>exact⟨0,aV _,rfl,rfl,Below.refl _ _⟩
 case round=>
  obtain⟨k,hk,rfl,hf,hb⟩:=hrel;by_cases hlt:k<n
  .obtain⟨x,b,o,hx,rfl,hc⟩:=HR.q.at_ hlt
   have h0:=bn hb rfl (hc 0 _ rfl)
   try have h1:=bn hb rfl (hc 1 _ rfl)
   try have h2:=bn hb rfl (hc 2 _ rfl)
   try have h3:=bn hb rfl (hc 3 _ rfl)
   try have h4:=bn hb rfl (hc 4 _ rfl)
   try have h5:=bn hb rfl (hc 5 _ rfl)
   try have h6:=bn hb rfl (hc 6 _ rfl)
   try have h7:=bn hb rfl (hc 7 _ rfl)
   try have h8:=bn hb rfl (hc 8 _ rfl)
   rw[bM] at h0
   try rw[jo] at h0
   have hcall:=H.q x (bQ hx) wr hb;have HX:=hid hx;have HF:=hid hf;clear hc hx hf
   cases hpx:p x
   all_goals
    rw[hpx] at hcall;have HC:=hid hcall;have HP:=hid hpx;clear hcall hpx;go_wp2_with fail;refine HC.q.mono ?_;rintro e w1 ⟨rfl,hb1⟩;go_wp2_with fail
   .go_roundw
    case rel=>exact⟨k+1,by omega,by go_num,M0 p cs k HF.q x HX.q HP.q,hb.trans (hb1.mono hb.size)⟩
    case measure=>simp[RowKit.intOf];omega
   .go_ret
    refine⟨?_,hb.trans (hb1.mono hb.size)⟩;rw[PO (findIdx?_take p cs k HF.q x HX.q HP.q)];rfl
  .have hkn:k=n:=by omega
   have HF:=hid hf;clear hf;go_wp2_with fail;go_ret;refine⟨?_,hb⟩;have e:cs.take k=cs:=dR (by rw[HR.q.len];omega);rw[PS (xs:=cs) (by rw[<-e];exact HF.q)];rfl):p:=h
theorem ajJ:Gt 139 9 dO je:=λa n c f cap cs p w hr eg hp=>by
 have H:=hid hp;have HR:=hid hr;clear hp hr;go_enter func139,ntmps139;exact Gu
theorem ajK:Gt 64 2 pE vB:=λa n c f cap cs p w hr eg hp=>by
 have H:=hid hp;have HR:=hid hr;clear hp hr;go_enter func64,ntmps64;exact Gu
theorem ag2:Gt 65 1 encStr valStr:=λa n c f cap cs p w hr eg hp=>by
 have H:=hid hp;have HR:=hid hr;clear hp hr;go_enter func65,ntmps65;exact Gu
theorem ag3:Gt 138 1 aQ KJ:=λa n c f cap cs p w hr eg hp=>by
 have H:=hid hp;have HR:=hid hr;clear hp hr;go_enter func138,ntmps138;exact Gu
theorem ajL:Gt 143 2 eZ JU:=λa n c f cap cs p w hr eg hp=>by
 have H:=hid hp;have HR:=hid hr;clear hp hr;go_enter func143,ntmps143;exact Gu
theorem ajM:Gt 144 4 eP JW:=λa n c f cap cs p w hr eg hp=>by
 have H:=hid hp;have HR:=hid hr;clear hp hr;go_enter func144,ntmps144;exact Gu
theorem ajN:Gt 145 2 fQ Ci:=λa n c f cap cs p w hr eg hp=>by
 have H:=hid hp;have HR:=hid hr;clear hp hr;go_enter func145,ntmps145;exact Gu
theorem ajO:Gt 168 3 bS CQ:=λa n c f cap cs p w hr eg hp=>by
 have H:=hid hp;have HR:=hid hr;clear hp hr;go_enter func168,ntmps168;exact Gu
theorem ag4:CR 112 9 dO je:=λa n c f cap cs p w hr eg hp=>by
 have H:=hid (ajJ a n c f cap cs p w hr eg hp);clear hp hr;go_enter func112,ntmps112
 go_wp2_with (go_at_call 139;refine H.q.mono ?_;rintro e w1 ⟨rfl,hb1⟩)
 go_ret;exact⟨by rw[<-xP];rfl,hb1⟩
theorem Wq:CR 26 2 pE vB:=λa n c f cap cs p w hr eg hp=>by
 have H:=hid (ajK a n c f cap cs p w hr eg hp);clear hp hr;go_enter Tryz.func26,Tryz.ntmps26
 go_wp2_with (go_at_call 64;refine H.q.mono ?_;rintro e w1 ⟨rfl,hb1⟩)
 go_ret;exact⟨by rw[<-xP];rfl,hb1⟩
theorem RU:CR 29 1 encStr valStr:=λa n c f cap cs p w hr eg hp=>by
 have H:=hid (ag2 a n c f cap cs p w hr eg hp);clear hp hr;go_enter Tryz.func29,Tryz.ntmps29
 go_wp2_with (go_at_call 65;refine H.q.mono ?_;rintro e w1 ⟨rfl,hb1⟩)
 go_ret;exact⟨by rw[<-xP];rfl,hb1⟩
theorem ad6:CR 110 1 aQ KJ:=λa n c f cap cs p w hr eg hp=>by
 have H:=hid (ag3 a n c f cap cs p w hr eg hp);clear hp hr;go_enter func110,ntmps110
 go_wp2_with (go_at_call 138;refine H.q.mono ?_;rintro e w1 ⟨rfl,hb1⟩)
 go_ret;exact⟨by rw[<-xP];rfl,hb1⟩
theorem ag5:CR 124 2 eZ JU:=λa n c f cap cs p w hr eg hp=>by
 have H:=hid (ajL a n c f cap cs p w hr eg hp);clear hp hr;go_enter func124,ntmps124
 go_wp2_with (go_at_call 143;refine H.q.mono ?_;rintro e w1 ⟨rfl,hb1⟩)
 go_ret;exact⟨by rw[<-xP];rfl,hb1⟩
theorem ag6:CR 126 4 eP JW:=λa n c f cap cs p w hr eg hp=>by
 have H:=hid (ajM a n c f cap cs p w hr eg hp);clear hp hr;go_enter func126,ntmps126
 go_wp2_with (go_at_call 144;refine H.q.mono ?_;rintro e w1 ⟨rfl,hb1⟩)
 go_ret;exact⟨by rw[<-xP];rfl,hb1⟩
theorem ag7:CR 128 2 fQ Ci:=λa n c f cap cs p w hr eg hp=>by
 have H:=hid (ajN a n c f cap cs p w hr eg hp);clear hp hr;go_enter func128,ntmps128
 go_wp2_with (go_at_call 145;refine H.q.mono ?_;rintro e w1 ⟨rfl,hb1⟩)
 go_ret;exact⟨by rw[<-xP];rfl,hb1⟩
theorem ag8:CR 140 3 bS CQ:=λa n c f cap cs p w hr eg hp=>by
 have H:=hid (ajO a n c f cap cs p w hr eg hp);clear hp hr;go_enter func140,ntmps140
 go_wp2_with (go_at_call 168;refine H.q.mono ?_;rintro e w1 ⟨rfl,hb1⟩)
 go_ret;exact⟨by rw[<-xP];rfl,hb1⟩
end Yd
namespace Yd
open Go Go.RowKit
open Go renaming Value->f,World->m
open _root_ renaming Array->j
@[reducible] def Bx (W:m)(b:Nat)(cs:j f):Prop:=(∀i,W.cell? ⟨b,i,none⟩=cs[i]?)/\(∀i,W.frozen? ⟨b,i,none⟩=false)/\b<W.1.size
theorem Bx.below {X w':m}{b B:Nat}{cs:j f}(h:Bx X b cs)(hb:Below B X w')(hB:b<B):Bx w' b cs:=
 ⟨λi=>(hb.cell (p:=⟨b,i,none⟩) hB).trans (h.1 i),λi=>(hb.frozen (p:=⟨b,i,none⟩) hB).trans (h.2.1 i),dz h.2.2 hb.size⟩
theorem Bx.keep {X w':m}{b:Nat}{cs:j f}(h:Bx X b cs)(hb:Below X.1.size X w'):Bx w' b cs:=h.below hb h.2.2
theorem Bx.drew {X:m}{b:Nat}{cs:j f}(h:Bx X b cs):Bx X.drew b cs:=h
theorem Bx.drewN {X:m}{b:Nat}{cs:j f}(h:Bx X b cs)(n:Nat):Bx (X.drewN n) b cs:=h
theorem Bx.alloc {X:m}{b:Nat}{cs:j f}(h:Bx X b cs)(o:Obj):Bx (X.alloc o) b cs:=h.keep ((Below.refl _ _).alloc (aA _) _)
theorem Bx.new (X:m)(cs:j f)(T:TypeId):Bx (X.alloc (.cells cs T)) X.1.size cs:=
 ⟨λi=>World.cell?_alloc_new X cs T i,λi=>by
  have h:(X.alloc (.cells cs T)).1[X.1.size]?=some (.cells cs T (0,0)):=by show(X.1.push _)[_]?=_;simp
  unfold World.frozen?;simp only[h];simp,by simp⟩
theorem Bx.other {X:m}{b:Nat}{cs:j f}(h:Bx X b cs){p:Addr}(hp:b≠p.block)(v:f):Bx (X.setCell p v) b cs:=by
 have e:=Below.heap_setCell X p v b hp;refine⟨λi=>(World.cell?_of_block (a:=⟨b,i,none⟩) e).trans (h.1 i),λi=>(World.frozen?_of_block (a:=⟨b,i,none⟩) e).trans (h.2.1 i),?_⟩;have:=h.2.2
 simpa[World.setCell] using this
theorem AL {X w':m}{a b:Nat}{c d:j f}(h:Bx X a c/\Bx X b d)(hb:Below X.1.size X w'):Bx w' a c/\Bx w' b d:=⟨h.1.keep hb,h.2.keep hb⟩
theorem M7 {X w':m}{a b g:Nat}{c d e:j f}(h:Bx X a c/\Bx X b d/\Bx X g e)(hb:Below X.1.size X w'):Bx w' a c/\Bx w' b d/\Bx w' g e:=⟨h.1.keep hb,AL h.2 hb⟩
@[reducible] def Rb (s:Wa):j f:=#[.int .i64 s.dG,.int .i64 s.bits]
@[reducible] def tq (s:To):j f:=#[.string ⟨s.name.toArray⟩,.int .i64 s.k]
@[reducible] def aY (e:EvC):j f:=#[.int .i64 e.kind,.int .i64 e.t,.int .i64 e.dG,.int .i64 e.lvl,.int .i64 e.obj,.int .i64 e.v.t,.int .i64 e.v.k,.int .i64 e.pred,.slice e.sa e.sn e.sc]
@[reducible] def Q9 (s:aM):j f:=#[.int .i64 s.obj,.slice s.sa s.sn s.sc]
@[reducible] def Ra (s:aN):j f:=#[.int .i64 s.pred,.int .i64 s.obj,.bool s.first,.slice s.sa s.sn s.sc]
@[reducible] def kg (l:bB):j f:=#[.int .i64 l.kind,.slice l.na l.nn l.nc,.int .i64 l.lvl,.slice l.va l.vn l.vc,.bool l.first,.int .i64 l.bits]
def sH (v u:f)(w:m)(e:Ending)(w':m):Prop:=e= .returned (.tuple #[v,u])/\Below w.1.size w w'
end Yd
namespace Yd
open Bool renaming false->K
open Option renaming some->E,none->V
open Go Go.RowKit Go.Proofs Tryz
open Below renaming refl->d
open Go renaming World->j,Calls->N,Value->O
open Go.Value renaming bool->L,pointer->U
open Tryz renaming prog->z
open World renaming putObj_heap_other->u
open _root_ renaming Nat->G,Int->M,List->S
def bg (D:G->Prop)(W W':j):Prop:=W.1.size<=W'.1.size/\∀i,D i->i<W.1.size->W'.1[i]?=W.1[i]?
theorem bg.trans {D:G->Prop}{A B C:j}(h:bg D A B)(k:bg D B C):bg D A C:=
 ⟨dL h.1 k.1,λi hi hl=>(k.2 i hi (dz hl h.1)).trans (h.2 i hi hl)⟩
theorem bg.refl {D:G->Prop}(A:j):bg D A A:=⟨aA _,λ_ _ _=>rfl⟩
theorem bg.mono {D D':G->Prop}{A B:j}(h:bg D A B)(hd:∀i,D' i->i<A.1.size->D i):bg D' A B:=⟨h.1,λi hi hl=>h.2 i (hd i hi hl) hl⟩
theorem bg.putObj {D:G->Prop}(A:j){l:G}(o:Obj)(hl:¬D l):bg D A (A.putObj l o):=
 ⟨Nat.le_of_eq World.putObj_size.symm,λ_i hi _=>u (λe=>hl (e▸hi))⟩
theorem bg.of_below {D:G->Prop}{B:G}{X Y:j}(h:Below B X Y)(hd:∀i,D i->i<X.1.size->i<B):bg D X Y:=⟨h.size,λi hi hl=>h.block i (hd i hi hl)⟩
structure Same (A:G->Prop)(X Y:j):Prop where
 os:Y.os=X.os
 tape:Y.tape=X.tape
 output:Y.output=X.output
 size:X.1.size<=Y.1.size
 block:∀i,A i->i<X.1.size->Y.1[i]?=X.1[i]?
theorem Same.of_below {A:G->Prop}{B:G}{X Y:j}(h:Below B X Y)(hd:∀i,A i->i<X.1.size->i<B):Same A X Y:=⟨h.os,h.tape,h.output,h.size,λi hi hl=>h.block i (hd i hi hl)⟩
theorem Same.mono {A A':G->Prop}{X Y:j}(h:Same A X Y)(hd:∀i,A' i->i<X.1.size->A i):Same A' X Y:=⟨h.os,h.tape,h.output,h.size,λi hi hl=>h.block i (hd i hi hl) hl⟩
theorem Same.tr {A:G->Prop}{X Y Z:j}(h:Same A X Y)(k:Same A Y Z):Same A X Z:=
 ⟨k.os.trans h.os,k.tape.trans h.tape,k.output.trans h.output,dL h.size k.size,λi hi hl=>(k.block i hi (dz hl h.size)).trans (h.block i hi hl)⟩
theorem Same.below {A:G->Prop}{B:G}{w X Y:j}(h:Below B w X)(k:Same A X Y)(hd:∀i,i<B->A i)(hB:B<=X.1.size):Below B w Y:=
 ⟨k.os.trans h.os,k.tape.trans h.tape,k.output.trans h.output,dL h.size k.size,λi hi=>(k.block i (hd i hi) ah).trans (h.block i hi)⟩
theorem Same.bx {A:G->Prop}{X Y:j}{b:G}{cs:Array O}(k:Same A X Y)(h:Bx X b cs)(ha:A b):Bx Y b cs:=
 ⟨λi=>(World.cell?_of_block (a:=⟨b,i,V⟩) (k.block b ha h.2.2)).trans (h.1 i),λi=>(World.frozen?_of_block (a:=⟨b,i,V⟩) (k.block b ha h.2.2)).trans (h.2.1 i),dz h.2.2 k.size⟩
theorem Same.putObj {A:G->Prop}(X:j){l:G}(o:Obj)(hl:¬A l):Same A X (X.putObj l o):=
 ⟨rfl,rfl,rfl,Nat.le_of_eq World.putObj_size.symm,λ_i hi _=>u (λe=>hl (e▸hi))⟩
def XE (l:G)(r:Loop)(R:Ending->j->Prop):Exit->Act->j->Prop
 | .normal,_,W=>W.1[l]?=E (.loop {r with state:= .busy})/\R (.returned (L true)) (W.putObj l (.loop {r with state:= .ready,pending:=none}))
 | .ret,_,W=>W.1[l]?=E (.loop {r with state:= .busy})/\R (.returned (L K)) (W.putObj l (.loop {r with state:= .done,pending:=some .ret}))
 | .exit id,_,W=>W.1[l]?=E (.loop {r with state:= .busy})/\R (.returned (L K)) (W.putObj l (.loop {r with state:= .done,pending:=some (.exit id)}))
 | .goto t,_,W=>W.1[l]?=E (.loop {r with state:= .busy})/\R (.returned (L K)) (W.putObj l (.loop {r with state:= .done,pending:=some (.goto t)}))
 | .panic _,_,_=>False
 | .outgrown,_,_=>False
theorem Es {F:Fence}{n:G}{P:Program}{l:G}{r:Loop}{args:Array O}{W:j}{R:Ending->j->Prop}
  (hl:W.1[l]?=E (.loop r)) (hr:r.state= .ready) (hF:F.fn r.fn) (hs:args.size=r.params.size)
  (h:r.assign.wpIn (F.inRound l) n P (Exit.then (λa₁ W₁=>W₁.1[l]?=E (.loop r)/\r.body.wpIn (F.inRound l) n P (XE l r R) a₁ (W₁.putObj l (.loop {r with state:= .busy}))) (λ_ _ _=>False))
   {tmps:=(r.params.zip args).foldl (λt (p,v)=>t.setIfInBounds p v) r.tmps,defers:=[]} W):YieldAt F n P l args W R:=by
 refine⟨r.fn,_,r.assign,r.body,run_yield hl hs,roundIn_of_wpIn hF ?_⟩;refine wpIn_mono h ?_;rintro e a₁ W₁ hp
 cases e with
 |normal=>
  obtain⟨hl1,hb⟩:=hp;refine⟨_,run_beginRound hl1 hr,wpIn_mono hb ?_⟩;rintro e a₂ W₂ hq
  cases e with
  |normal=>exact⟨_,_,run_endRound V hq.1,hq.2⟩
  |ret=>exact⟨_,_,run_endRound (E .ret) hq.1,hq.2⟩
  |exit id=>exact⟨_,_,run_endRound (E (.exit id)) hq.1,hq.2⟩
  |goto t=>exact⟨_,_,run_endRound (E (.goto t)) hq.1,hq.2⟩
  |panic _=>exact hq.elim
  |outgrown=>exact hq.elim
 |_=>exact hp.elim
def Iter (P:Program)(gf:G)(lb:Array O){α:Type}(vS:α->Array O->j->Prop)(k:G)(D:G->Prop)(xs:S α)(W:j):Prop:=
 ∀(n l:G)(J Jx:S α->j->Prop),
  (∀s X Y,J s X->Same (λi=>i<W.1.size\/W.1.size+k<=i) X Y->J s Y)->
  (∀s X Y,Jx s X->Same (λi=>i<W.1.size\/W.1.size+k<=i) X Y->Jx s Y)->
  (∀pre x args X,J pre X->pre++[x]<+:xs->vS x args X->W.1.size+k<=X.1.size->∀m,YieldAt Fence.wide m P l args X λe Y=>
   (e= .returned (L true)/\J (pre++[x]) Y/\bg D X Y)\/(e= .returned (L K)/\Jx (pre++[x]) Y/\bg D X Y))->
  J [] W->
  CallsIn Fence.wide n P gf (#[.func (.yield l) #[] #[]]++lb) W λe Y=>∃v,e= .returned v/\(J xs Y\/∃pre,pre<+:xs/\Jx pre Y)
def Ki {α:Type}(l:G)(D:G->Prop)(I:S α->j->Prop)(Ix:Code->S α->j->Prop)(xs:S α)(X:j):Exit->Act->j->Prop
 | .normal,_,Y=>(Y.1[l]?=X.1[l]?/\Y.1[l+1]?=X.1[l+1]?)/\bg D X Y/\I xs Y
 | .ret,_,Y=>(Y.1[l]?=X.1[l]?/\Y.1[l+1]?=X.1[l+1]?)/\bg D X Y/\Ix .ret xs Y
 | .exit id,_,Y=>(Y.1[l]?=X.1[l]?/\Y.1[l+1]?=X.1[l+1]?)/\bg D X Y/\Ix (.exit id) xs Y
 | .goto t,_,Y=>(Y.1[l]?=X.1[l]?/\Y.1[l+1]?=X.1[l+1]?)/\bg D X Y/\Ix (.goto t) xs Y
 | .panic _,_,_=>False
 | .outgrown,_,_=>False
theorem Mj {P:Program}{α:Type}{g:Operand}{ps:Array Tmp}{assign body:Code}{Q:Exit->Act->j->Prop}{a:Act}{w:j}{n:G}
  {gf:G} {lb:Array O} (hg:a.eval g= .func (.func gf) #[] lb) (eg:∀args w,(callFunc gf args).run P w= .ok (.enter gf args) w)
  {vS:α->Array O->j->Prop} {k:G} {D:G->Prop} {xs:S α}
  (hseq:∀W,Below w.1.size w W->W.1.size=w.1.size+2->Iter P gf lb vS k D xs W)
  (hD:¬D (w.1.size+1)) (hps:∀x args X,vS x args X->args.size=ps.size)
  (I:S α->j->Prop) (Ix:Code->S α->j->Prop)
  (hI:∀s X Y,I s X->Same (λi=>i<w.1.size\/w.1.size+2+k<=i) X Y->I s Y)
  (hIx:∀c s X Y,Ix c s X->Same (λi=>i<w.1.size\/w.1.size+2+k<=i) X Y->Ix c s Y)
  (h0:I [] w)
  (F4:∀pre x args X,I pre X->pre++[x]<+:xs->vS x args X->w.1.size+2+k<=X.1.size->∀m,
   assign.wpIn (Fence.wide.inRound (w.1.size+1)) m P (Exit.then (λa₁ X₁=>Below X.1.size X X₁/\∀X₂:j,Same (λi=>i≠w.1.size+1) X₁ X₂->
     body.wpIn (Fence.wide.inRound (w.1.size+1)) m P (Ki w.1.size D I Ix (pre++[x]) X₂) a₁ X₂) (λ_ _ _=>False))
    {tmps:=(ps.zip args).foldl (λt (p,v)=>t.setIfInBounds p v) a.tmps,defers:=[]} X)
  (hdone:∀X,I xs X->X.1[w.1.size]?=E (.deferred (E []))->Q .normal {a with defers:={target:= .collected w.1.size,args:=#[]}::a.defers} X)
  (hstop:∀c pre X,pre<+:xs->Ix c pre X->X.1[w.1.size]?=E (.deferred (E []))->c.wpIn Fence.wide n P Q {a with defers:={target:= .collected w.1.size,args:=#[]}::a.defers} X):
  (Code.rangeFunc g ps assign body).wpIn Fence.wide n P Q a w:=by
 refine wpIn_rangeFunc ?_;intro fn hfn;obtain⟨r,hr⟩:∃r:Loop,r={state:= .ready,pending:=none,fn,tmps:=a.tmps,params:=ps,assign,body,defers:=w.1.size}:=⟨_,rfl⟩;obtain⟨W1,hW1⟩:∃W1,(w.alloc (.deferred (E []))).alloc (.loop r)=W1:=⟨_,rfl⟩;have hs1:W1.1.size=w.1.size+2:=by rw[<-hW1];simp
 have hL1:W1.1[w.1.size+1]?=E (.loop r):=by
  rw[<-hW1];have:=World.alloc_heap_new (w.alloc (.deferred (E []))) (.loop r);rwa[World.size_alloc] at this
 have hK1:W1.1[w.1.size]?=E (.deferred (E [])):=by
  rw[<-hW1];exact(Below.heap_alloc _ _ _ au).trans (World.alloc_heap_new w _)
 have hb1:Below w.1.size w W1:=by rw[<-hW1];exact((d _ w).alloc (aA _) _).alloc au _
 have hI1:I [] W1:=hI _ _ _ h0 (.of_below hb1 (λi _ hi=>hi));refine⟨w.1.size+1,[{target:= .collected w.1.size,args:=#[]}],W1,{target:= .fn (.func gf) lb,args:=#[.func (.yield (w.1.size+1)) #[] #[]]},W1,gf,
  #[.func (.yield (w.1.size+1)) #[] #[]]++lb,W1,?_,?_,λ_ _=>trivial,?_,λh=>(by cases h),?_⟩
 .rw[<-hW1,hr];exact run_enterLoop_outer _ _ _ _ _
 .simp only[resolve,hg]
  simp[go_sem]
 .simp[invoke,go_sem,eg]
 have hput:∀(s:S α)(X:j)(o:Obj),I s X->I s (X.putObj (w.1.size+1) o):=λs X o h=>hI s _ _ h (.putObj X o ah)
 have tZ:∀(c:Code)(s:S α)(X:j)(o:Obj),Ix c s X->Ix c s (X.putObj (w.1.size+1) o):=λc s X o h=>hIx c s _ _ h (.putObj X o ah)
 refine(hseq W1 hb1 hs1 (n - 1) (w.1.size+1)
  (λpre X=>I pre X/\X.1[w.1.size+1]?=E (.loop r)/\X.1[w.1.size]?=E (.deferred (E [])))
  (λpre X=>∃c,Ix c pre X/\X.1[w.1.size+1]?=E (.loop {r with state:= .done,pending:=some c})/\X.1[w.1.size]?=E (.deferred (E [])))
  ?_ ?_ ?_ ⟨hI1,hL1,hK1⟩).mono ?_
 .rintro s X Y ⟨h1,h2,h3⟩ hsame
  have e2:=(dI.1 h2).1;exact⟨hI s X Y h1 (hsame.mono (λi hi hl=>by omega)),(hsame.block _ ah e2).trans h2,(hsame.block _ ah ah).trans h3⟩
 .rintro s X Y ⟨c,h1,h2,h3⟩ hsame
  have e2:=(dI.1 h2).1;exact⟨c,hIx c s X Y h1 (hsame.mono (λi hi hl=>by omega)),(hsame.block _ ah e2).trans h2,(hsame.block _ ah ah).trans h3⟩
 .rintro pre x args X ⟨hi,hl,hk⟩ hpx hrep hsz m
  have hra:r.assign=assign:=by rw[hr]
  have hrb:r.body=body:=by rw[hr]
  have Cr:r.params=ps:=by rw[hr]
  have hrt:r.tmps=a.tmps:=by rw[hr]
  have hrs:r.state= .ready:=by rw[hr]
  have hrn:r.pending=V:=by rw[hr]
  have hrr:({r with state:= .ready,pending:=none}:Loop)=r:=by rw[hr]
  refine Es hl hrs trivial (by rw[Cr];exact hps x args X hrep) ?_;have hR:=F4 pre x args X hi hpx hrep ah m;rw[<-hra,<-hrb,<-Cr,<-hrt] at hR;refine wpIn_mono hR ?_;rintro e a1 X1 hp
  cases e with
  |normal=>
   obtain⟨hb,hbody⟩:=hp;have Wd:=(dI.1 hl).1;have hl1:X1.1[w.1.size+1]?=E (.loop r):=(hb.block _ ah).trans hl;have hk1:X1.1[w.1.size]?=E (.deferred (E [])):=(hb.block _ ah).trans hk;have hlt1:=(dI.1 hl1).1;refine⟨hl1,wpIn_mono (hbody _ (.putObj X1 _ ah)) ?_⟩;have hl2:(X1.putObj (w.1.size+1) (.loop {r with state:= .busy})).1[w.1.size+1]?=E (.loop {r with state:= .busy}):=World.putObj_heap_same hlt1;have hk2:(X1.putObj (w.1.size+1) (.loop {r with state:= .busy})).1[w.1.size]?=E (.deferred (E [])):=(u ah).trans hk1;rintro e a3 X3 hq;have fin:∀o,X3.1[w.1.size+1]?=(X1.putObj (w.1.size+1) (.loop {r with state:= .busy})).1[w.1.size+1]?->(X3.putObj (w.1.size+1) o).1[w.1.size+1]?=E o:=λo h=>
    World.putObj_heap_same ((dI.1 (h.trans hl2)).1)
   have keep:∀o,bg D (X1.putObj (w.1.size+1) (.loop {r with state:= .busy})) X3->bg D X (X3.putObj (w.1.size+1) o):=λo hC=>
    (bg.of_below hb (λi _ hi=>hi)).trans (((bg.putObj X1 _ hD).trans hC).trans (bg.putObj X3 _ hD))
   cases e with
   |normal=>
    obtain⟨⟨hA,hB⟩,hC,hE⟩:=hq;refine⟨hB.trans hl2,.inl ⟨rfl,⟨hput _ _ _ hE,(fin _ hB).trans (by rw[hrr]),(u ah).trans (hA.trans hk2)⟩,?_⟩⟩;exact(bg.of_below hb (λi _ hi=>hi)).trans (((bg.putObj X1 _ hD).trans hC).trans (bg.putObj X3 _ hD))
   |ret=>
    obtain⟨⟨hA,hB⟩,hC,hE⟩:=hq;exact⟨hB.trans hl2,.inr ⟨rfl,⟨.ret,tZ _ _ _ _ hE,fin _ hB,(u ah).trans (hA.trans hk2)⟩,keep _ hC⟩⟩
   |exit id=>
    obtain⟨⟨hA,hB⟩,hC,hE⟩:=hq;exact⟨hB.trans hl2,.inr ⟨rfl,⟨.exit id,tZ _ _ _ _ hE,fin _ hB,(u ah).trans (hA.trans hk2)⟩,keep _ hC⟩⟩
   |goto t=>
    obtain⟨⟨hA,hB⟩,hC,hE⟩:=hq;exact⟨hB.trans hl2,.inr ⟨rfl,⟨.goto t,tZ _ _ _ _ hE,fin _ hB,(u ah).trans (hA.trans hk2)⟩,keep _ hC⟩⟩
   |panic _=>exact hq.elim
   |outgrown=>exact hq.elim
  |_=>exact hp.elim
 .rintro e X2 ⟨v,rfl,(⟨hi,hl,hk⟩|⟨pre,hpre,c,hi,hl,hk⟩)⟩
  .exact⟨V,_,by have:=run_endLoop (P:=P) hl (by rw[hr];simp);rwa[hr] at this,hdone _ (hput _ _ _ hi) ((u ah).trans hk)⟩
  .exact⟨E c,_,run_endLoop (P:=P) hl au,hstop c pre _ hpre (tZ _ _ _ _ hi) ((u ah).trans hk)⟩
def gq (r:M):Bool:=decide (48<=r) && decide (r<=57)
theorem nV (r:M)(w:j):N z 106 #[.int .i32 r] w (cK (L (gq r)) w):=by
 by_cases h1:48<=r
 .by_cases h2:r<=57
  .have hq:gq r=true:=by simp[gq,h1,h2]
   rw[hq];clear hq;go_enter func106,ntmps106;go_wp2_with fail;go_ret;exact⟨rfl,d _ _⟩
  .have hq:gq r=K:=by simp[gq,h2]
   rw[hq];clear hq;go_enter func106,ntmps106;go_wp2_with fail;go_ret;exact⟨rfl,d _ _⟩
 .have hq:gq r=K:=by simp[gq,h1]
  rw[hq];clear hq;go_enter func106,ntmps106;go_wp2_with fail;go_ret;exact⟨rfl,d _ _⟩
def iQ (r:M):Bool:=decide (r=95)||(decide (97<=r) && decide (r<=122))||(decide (65<=r) && decide (r<=90))||decide (128<=r)
theorem aap (r:M)(w:j)(h0:r=95)(_h1:¬97<=r)(_h2:r<=122)(_h3:65<=r)(_h4:¬r<=90)(_h5:¬128<=r):N z 135 #[.int .i32 r] w (cK (L true) w):=by
 skip;go_enter func135,ntmps135;go_wp2_with fail;go_ret;exact⟨rfl,d _ _⟩
theorem aaq (r:M)(w:j)(h0:¬r=95)(h1:97<=r)(h2:r<=122)(_h3:65<=r)(_h4:¬r<=90)(_h5:¬128<=r):N z 135 #[.int .i32 r] w (cK (L true) w):=by
 have hb:(r==95)=K:=aR.2 h0;go_enter func135,ntmps135;go_wp2_with fail;go_ret;exact⟨rfl,d _ _⟩
theorem aar (r:M)(w:j)(h0:¬r=95)(h1:97<=r)(h2:¬r<=122)(h3:65<=r)(h4:¬r<=90)(h5:¬128<=r):N z 135 #[.int .i32 r] w (cK (L K) w):=by
 have hb:(r==95)=K:=aR.2 h0;go_enter func135,ntmps135;go_wp2_with fail;go_ret;exact⟨rfl,d _ _⟩
theorem aas (r:M)(w:j)(h0:¬r=95)(h1:97<=r)(h2:¬r<=122)(h3:65<=r)(h4:¬r<=90)(h5:128<=r):N z 135 #[.int .i32 r] w (cK (L true) w):=by
 have hb:(r==95)=K:=aR.2 h0;go_enter func135,ntmps135;go_wp2_with fail;go_ret;exact⟨rfl,d _ _⟩
theorem aat (r:M)(w:j)(h0:¬r=95)(h1:¬97<=r)(_h2:r<=122)(h3:65<=r)(h4:r<=90)(_h5:¬128<=r):N z 135 #[.int .i32 r] w (cK (L true) w):=by
 have hb:(r==95)=K:=aR.2 h0;go_enter func135,ntmps135;go_wp2_with fail;go_ret;exact⟨rfl,d _ _⟩
theorem aau (r:M)(w:j)(h0:¬r=95)(h1:¬97<=r)(_h2:r<=122)(h3:65<=r)(h4:¬r<=90)(h5:¬128<=r):N z 135 #[.int .i32 r] w (cK (L K) w):=by
 have hb:(r==95)=K:=aR.2 h0;go_enter func135,ntmps135;go_wp2_with fail;go_ret;exact⟨rfl,d _ _⟩
theorem aav (r:M)(w:j)(h0:¬r=95)(h1:¬97<=r)(_h2:r<=122)(h3:¬65<=r)(_h4:r<=90)(h5:¬128<=r):N z 135 #[.int .i32 r] w (cK (L K) w):=by
 have hb:(r==95)=K:=aR.2 h0;go_enter func135,ntmps135;go_wp2_with fail;go_ret;exact⟨rfl,d _ _⟩
theorem UI (r:M)(w:j):N z 135 #[.int .i32 r] w (cK (L (iQ r)) w):=by
 by_cases h0:r=95
 .have hq:iQ r=true:=by simp[iQ,h0]
  rw[hq];exact aap r w h0 ah ah ah ah ah
 by_cases h1:97<=r
 .by_cases h2:r<=122
  .have hq:iQ r=true:=by simp[iQ,h1,h2]
   rw[hq];exact aaq r w h0 h1 h2 ah ah ah
  .by_cases h5:128<=r
   .have hq:iQ r=true:=by simp[iQ,h5]
    rw[hq];exact aas r w h0 h1 h2 ah ah h5
   .have hq:iQ r=K:=by simp[iQ];omega
    rw[hq];exact aar r w h0 h1 h2 ah ah h5
 .by_cases h3:65<=r
  .by_cases h4:r<=90
   .have hq:iQ r=true:=by simp[iQ,h3,h4]
    rw[hq];exact aat r w h0 h1 ah h3 h4 ah
   .have hq:iQ r=K:=by simp[iQ];omega
    rw[hq];exact aau r w h0 h1 ah h3 h4 ah
  .have hq:iQ r=K:=by simp[iQ];omega
   rw[hq];exact aav r w h0 h1 ah h3 ah ah
def jY (r:M):Bool:=iQ r||gq r
theorem EC (r:M)(w:j):N z 108 #[.int .i32 r] w (cK (L (jY r)) w):=by
 cases hl:iQ r
 all_goals
  have HL:=hid hl;clear hl;go_enter func108,ntmps108;go_wp2_with fail;refine(UI r w).mono ?_;rintro e w1 ⟨rfl,hb1⟩;rw[HL.q];have HB:=hid hb1;clear hb1;go_wp2_with fail
 .refine(nV r w1).mono ?_
  rintro e w2 ⟨rfl,hb2⟩;go_wp2_with fail;go_ret;exact⟨by simp[jY,HL.q],HB.q.bO hb2⟩
 .go_ret
  exact⟨by simp[jY,HL.q],HB.q⟩
def JB {α:Type}(F:G)(val:α->O):Prop:=∀(x:α)(f:G)(cap:Array O)(p:α->Bool)(bp:G)(W:j),W.cell? ⟨bp,0,V⟩=E (.func (.func f) #[] cap)->
  (∀args w,(callFunc f args).run z w= .ok (.enter f args) w)->(∀W',Below W.1.size W W'->N z f (#[val x]++cap) W' (cK (L (p x)) W'))->N z F #[val x,U (E ⟨bp,0,V⟩)] W (cK (L (!p x)) W)
def Le {α:Type}(F k:G)(en:α->S O)(val:α->O):Prop:=∀(a:Option Addr)(n c f:G)(cap:Array O)(cs:S α)(p:α->Bool)(w:j),Row w k en a n c cs->
  (∀args w,(callFunc f args).run z w= .ok (.enter f args) w)->PN z f cap val p cs w->N z F #[.slice a n c,.func (.func f) #[] cap] w (cK (L (cs.all p)) w)
theorem zu {α:Type}{F:G}{val:α->O}(hN:JB F val){f:G}{cap:Array O}{p:α->Bool}{cs:S α}{w:j}(T:TypeId)(eg:∀args w,(callFunc f args).run z w= .ok (.enter f args) w)
  (hp:PN z f cap val p cs w):PN z F #[U (E ⟨w.1.size,0,V⟩)] val (λx=>!p x) cs (w.alloc (.cells #[.func (.func f) #[] cap] T)):=λx hx W hW=>
 hN x f cap p w.1.size W (by rw[hW.cell (p:=⟨w.1.size,0,V⟩) au];simp) eg
  (λW' hW'=>hp x hx W' (((d _ _).alloc (aA _) _).trans ((hW.mono au).trans (hW'.mono (by have:=hW.size;simp at this;omega)))))
theorem AY {α:Type}(cs:S α)(p:α->Bool):cs.all p=!cs.any (λx=>!p x):=by simp[List.any_eq_not_all_not]
theorem Lf {p:Prop}(h:p:=by
 go_wp2_with fail
 first|refine(H.q _ ((d _ _).alloc (aA _) _)).mono ?_|refine(H.q _ (d _ _)).mono ?_
 rintro e w1 ⟨rfl,hb1⟩;go_wp2_with fail;go_ret
 first|exact⟨rfl,hb1⟩|exact⟨rfl,((d _ _).alloc (aA _) _).trans (hb1.mono au)⟩):p:=h
theorem ag9:JB 111 KJ:=λx f cap p bp W hc eg hcall=>by
 have H:=hid hcall;clear hcall;have hbp:bp<W.1.size:=jC hc;go_enter func111,ntmps111;exact Lf
theorem aeQ:Le 74 1 aQ KJ:=λa n c f cap cs p w hr eg hp=>by
 have HB:=(d w.1.size w).alloc (aA _) (.cells #[.func (.func f) #[] cap] 108);have H:=hid (ad6 a n c 111 #[U (E ⟨w.1.size,0,V⟩)] cs (λx=>!p x) _ (hr.below HB rfl) call111 (zu ag9 _ eg hp));have rP:=hid HB;clear HB hp hr;go_enter func74,ntmps74
 go_wp2_with (go_at_call 110;refine H.q.mono ?_;rintro e w1 ⟨rfl,hb1⟩)
 go_ret;exact⟨by rw[AY];rfl,rP.q.trans (hb1.mono au)⟩
theorem ajP:JB 113 je:=λx f cap p bp W hc eg hcall=>by
 have H:=hid hcall;clear hcall;have hbp:bp<W.1.size:=jC hc;go_enter func113,ntmps113;exact Lf
theorem ajj:Le 77 9 dO je:=λa n c f cap cs p w hr eg hp=>by
 have HB:=(d w.1.size w).alloc (aA _) (.cells #[.func (.func f) #[] cap] 142);have H:=hid (ag4 a n c 113 #[U (E ⟨w.1.size,0,V⟩)] cs (λx=>!p x) _ (hr.below HB rfl) call113 (zu ajP _ eg hp));have rP:=hid HB;clear HB hp hr;go_enter func77,ntmps77
 go_wp2_with (go_at_call 112;refine H.q.mono ?_;rintro e w1 ⟨rfl,hb1⟩)
 go_ret;exact⟨by rw[AY];rfl,rP.q.trans (hb1.mono au)⟩
theorem ajQ:JB 125 JU:=λx f cap p bp W hc eg hcall=>by
 have H:=hid hcall;clear hcall;have hbp:bp<W.1.size:=jC hc;go_enter func125,ntmps125;exact Lf
theorem ajk:Le 80 2 eZ JU:=λa n c f cap cs p w hr eg hp=>by
 have HB:=(d w.1.size w).alloc (aA _) (.cells #[.func (.func f) #[] cap] 144);have H:=hid (ag5 a n c 125 #[U (E ⟨w.1.size,0,V⟩)] cs (λx=>!p x) _ (hr.below HB rfl) call125 (zu ajQ _ eg hp));have rP:=hid HB;clear HB hp hr;go_enter func80,ntmps80
 go_wp2_with (go_at_call 124;refine H.q.mono ?_;rintro e w1 ⟨rfl,hb1⟩)
 go_ret;exact⟨by rw[AY];rfl,rP.q.trans (hb1.mono au)⟩
theorem ajR:JB 127 JW:=λx f cap p bp W hc eg hcall=>by
 have H:=hid hcall;clear hcall;have hbp:bp<W.1.size:=jC hc;go_enter func127,ntmps127;exact Lf
theorem ajl:Le 82 4 eP JW:=λa n c f cap cs p w hr eg hp=>by
 have HB:=(d w.1.size w).alloc (aA _) (.cells #[.func (.func f) #[] cap] 146);have H:=hid (ag6 a n c 127 #[U (E ⟨w.1.size,0,V⟩)] cs (λx=>!p x) _ (hr.below HB rfl) call127 (zu ajR _ eg hp));have rP:=hid HB;clear HB hp hr;go_enter func82,ntmps82
 go_wp2_with (go_at_call 126;refine H.q.mono ?_;rintro e w1 ⟨rfl,hb1⟩)
 go_ret;exact⟨by rw[AY];rfl,rP.q.trans (hb1.mono au)⟩
theorem ajS:JB 129 Ci:=λx f cap p bp W hc eg hcall=>by
 have H:=hid hcall;clear hcall;have hbp:bp<W.1.size:=jC hc;go_enter func129,ntmps129;exact Lf
theorem ajm:Le 84 2 fQ Ci:=λa n c f cap cs p w hr eg hp=>by
 have HB:=(d w.1.size w).alloc (aA _) (.cells #[.func (.func f) #[] cap] 148);have H:=hid (ag7 a n c 129 #[U (E ⟨w.1.size,0,V⟩)] cs (λx=>!p x) _ (hr.below HB rfl) call129 (zu ajS _ eg hp));have rP:=hid HB;clear HB hp hr;go_enter func84,ntmps84
 go_wp2_with (go_at_call 128;refine H.q.mono ?_;rintro e w1 ⟨rfl,hb1⟩)
 go_ret;exact⟨by rw[AY];rfl,rP.q.trans (hb1.mono au)⟩
theorem ajT:JB 141 CQ:=λx f cap p bp W hc eg hcall=>by
 have H:=hid hcall;clear hcall;have hbp:bp<W.1.size:=jC hc;go_enter func141,ntmps141;exact Lf
theorem ajU:Le 120 3 bS CQ:=λa n c f cap cs p w hr eg hp=>by
 have HB:=(d w.1.size w).alloc (aA _) (.cells #[.func (.func f) #[] cap] 177);have H:=hid (ag8 a n c 141 #[U (E ⟨w.1.size,0,V⟩)] cs (λx=>!p x) _ (hr.below HB rfl) call141 (zu ajT _ eg hp));have rP:=hid HB;clear HB hp hr;go_enter func120,ntmps120
 go_wp2_with (go_at_call 140;refine H.q.mono ?_;rintro e w1 ⟨rfl,hb1⟩)
 go_ret;exact⟨by rw[AY];rfl,rP.q.trans (hb1.mono au)⟩
theorem ajI (a a':Option Addr)(n c n' c':G)(xs ys:S Bs)(w:j)(hr:Row w 1 encStr a n c xs)(hr':Row w 1 encStr a' n' c' ys):
  N z 11 #[.slice a n c,.slice a' n' c'] w (cK (L (decide (xs=ys))) w):=by
 have hn:=hr.le;have hn':=hr'.le;have HR:=hid hr;have HR':=hid hr';clear hr hr';by_cases hl:n=n'
 .subst hl
  clear hn';go_enter Tryz.func11,Tryz.ntmps11;go_wp2_with fail
  go_loopw [13] (λi wr=>∃k:G,k<=n/\i= .int .i64 k/\xs.take k=ys.take k/\Below w.1.size w wr) (λi _=>n - (RowKit.intOf i).toNat)
  case atStart=>exact⟨0,aV _,rfl,rfl,d _ _⟩
  case round=>
   obtain⟨k,hk,rfl,hf,hb⟩:=hrel;have HF:=hid hf;clear hf;by_cases hlt:k<n
   .have hi1:(0:M)<=(k:M):=by omega
    have hi2:(k:M)<(n:M):=by omega
    obtain⟨x,b,o,hx,rfl,hc⟩:=HR.q.at_ hlt;obtain⟨y,b',o',hy,rfl,hc'⟩:=HR'.q.at_ hlt;have h0:=bn hb rfl (hc 0 _ rfl);simp only[jo,bM] at h0;have JX:=bn hb rfl (hc' 0 _ rfl);simp only[jo,bM] at JX;have HX:=hid hx;have HY:=hid hy;clear hc hc' hx hy;by_cases he:x=y
    .subst he
     go_wp2_with fail
     go_quiet (fail)
     go_wp2_with fail;refine⟨⟨k+1,by omega,by go_num,?_,fA hb _⟩,by simp[RowKit.intOf];omega⟩;rw[eO,eO,HF.q,HX.q,HY.q]
    .have ht:(x==y)=K:=by simpa using he
     have HE:=hid he;clear he;go_wp2_with fail
     go_quiet (fail)
     go_wp2_with fail;go_ret;refine⟨?_,fA hb _⟩;have hne:xs≠ys:=λe=>HE.q (by have h1:=HX.q;have h2:=HY.q;rw[e,h2] at h1;exact(xW h1).symm)
     rw[aX hne];rfl
   .have hkn:k=n:=by omega
    go_wp2_with fail;go_ret;refine⟨?_,hb⟩;have e:xs=ys:=by
     have h:=HF.q
     rwa[dR (by rw[HR.q.len];omega),dR (by rw[HR'.q.len];omega)] at h
    rw[bA e];rfl
 .have hne:xs≠ys:=λe=>hl (by rw[<-HR.q.len,<-HR'.q.len,e])
  have hl':((n:M)==(n':M))=K:=aR.2 ah;have HN:=hid hne;clear hne hl;go_enter Tryz.func11,Tryz.ntmps11;go_wp2_with fail;go_ret;refine⟨?_,d _ _⟩;rw[aX HN.q];rfl
theorem ank (a a':Option Addr)(n c n' c':G)(xs ys:S Sn)(w:j)(hr:Row w 3 bS a n c xs)(hr':Row w 3 bS a' n' c' ys):
  N z 142 #[.slice a n c,.slice a' n' c'] w (cK (L (decide (xs=ys))) w):=by
 have hn:=hr.le;have hn':=hr'.le;have HR:=hid hr;have HR':=hid hr';clear hr hr';by_cases hl:n=n'
 .subst hl
  clear hn';go_enter func142,ntmps142;go_wp2_with fail
  go_loopw [13] (λi wr=>∃k:G,k<=n/\i= .int .i64 k/\xs.take k=ys.take k/\Below w.1.size w wr) (λi _=>n - (RowKit.intOf i).toNat)
  case atStart=>exact⟨0,aV _,rfl,rfl,d _ _⟩
  case round=>
   obtain⟨k,hk,rfl,hf,hb⟩:=hrel;have HF:=hid hf;clear hf;by_cases hlt:k<n
   .have hi1:(0:M)<=(k:M):=by omega
    have hi2:(k:M)<(n:M):=by omega
    obtain⟨x,b,o,hx,rfl,hc⟩:=HR.q.at_ hlt;obtain⟨y,b',o',hy,rfl,hc'⟩:=HR'.q.at_ hlt;have h0:=bn hb rfl (hc 0 _ rfl);have h1:=bn hb rfl (hc 1 _ rfl);have h2:=bn hb rfl (hc 2 _ rfl);simp only[bM] at h0;have JX:=bn hb rfl (hc' 0 _ rfl);have h'1:=bn hb rfl (hc' 1 _ rfl);have h'2:=bn hb rfl (hc' 2 _ rfl);simp only[bM] at JX;have HX:=hid hx;have HY:=hid hy;clear hc hc' hx hy;by_cases he:x=y
    .subst he
     go_wp2_with fail
     go_quiet (fail)
     go_wp2_with fail;refine⟨⟨k+1,by omega,by go_num,?_,fA hb _⟩,by simp[RowKit.intOf];omega⟩;rw[eO,eO,HF.q,HX.q,HY.q]
    .have ht:=Vh x y;rw[aX he] at ht
     have HE:=hid he;clear he;go_wp2_with fail
     go_quiet (fail)
     go_wp2_with fail;go_ret;refine⟨?_,fA hb _⟩;have hne:xs≠ys:=λe=>HE.q (by have h1:=HX.q;have h2:=HY.q;rw[e,h2] at h1;exact(xW h1).symm)
     rw[aX hne];rfl
   .have hkn:k=n:=by omega
    go_wp2_with fail;go_ret;refine⟨?_,hb⟩;have e:xs=ys:=by
     have h:=HF.q
     rwa[dR (by rw[HR.q.len];omega),dR (by rw[HR'.q.len];omega)] at h
    rw[bA e];rfl
 .have hne:xs≠ys:=λe=>hl (by rw[<-HR.q.len,<-HR'.q.len,e])
  have hl':((n:M)==(n':M))=K:=aR.2 ah;have HN:=hid hne;clear hne hl;go_enter func142,ntmps142;go_wp2_with fail;go_ret;refine⟨?_,d _ _⟩;rw[aX HN.q];rfl
end Yd
namespace Yd
open Go
def nQ (nl:Nat->List Bs)(i:Nat)(s:Bs):Nat->List Bs:=λj=>if j=i then cZ (nl i) s else nl j
def iC (nl:Nat->List Bs):List Bs->(Nat->List Bs) × List Int
 |[]=>(nl,[])
 |s::r=>((iC (nQ nl 0 s) r).1,(nK (nl 0) s:Int)::(iC (nQ nl 0 s) r).2)
theorem Ez:∀(l:List Bs)(nl:Nat->List Bs)(s:Bs),iC nl (l++[s])=(nQ (iC nl l).1 0 s,(iC nl l).2++[(nK ((iC nl l).1 0) s:Int)])
 |[],_,_=>rfl
 |t::l,nl,s=>by
  have h:=Ez l (nQ nl 0 t) s;show((iC (nQ nl 0 t) (l++[s])).1,_::(iC (nQ nl 0 t) (l++[s])).2)=_;rw[h];rfl
theorem SK:∀(l:List Bs)(nl:Nat->List Bs)(j:Nat),nl j<+:(iC nl l).1 j
 |[],_,_=>iK _
 |s::r,nl,j=>by
  refine List.IsPrefix.trans ?_ (SK r (nQ nl 0 s) j);unfold nQ
  split
  .rename_i h;subst h;exact Jl _ _
  .exact iK _
theorem SL:∀(l m:List Bs)(nl:Nat->List Bs),(iC nl (l++m)).1=(iC (iC nl l).1 m).1
 |[],_,_=>rfl
 |_::l,m,nl=>SL l m (nQ nl 0 _)
theorem Ze {l:List Bs}{nl:Nat->List Bs}{i:Nat}{s:Bs}{n:Nat}(hs:l[i]?=some s)(h:((iC nl l).1 0).length<=n):(cZ ((iC nl (l.take i)).1 0) s).length<=n:=by
 obtain⟨hi,he⟩:=bG.1 hs;have e:l=(l.take i++[s])++l.drop (i+1):=by
  rw[<-he,eG,List.singleton_append,<-nN hi,Cg]
 rw[e,SL,Ez] at h;have h2:=(SK (l.drop (i+1)) (nQ (iC nl (l.take i)).1 0 s) 0).length_le;exact dL h2 h
end Yd
namespace Yd
open Go Go.RowKit
def mO (xs:List Int)(x:Int):List Int:=if x∈xs then xs else xs++[x]
def PU (xs:List Int)(v:kZ):List Int:=if v.k=0 then xs else mO xs v.t
def bK (xs:List (Int × Int))(s:Int):List Int:=xs.foldl (λl x=>if x.1=s then mO l x.2 else l) []
theorem nH (xs:List (Int × Int))(x:Int × Int)(s:Int):bK (xs++[x]) s=if x.1=s then mO (bK xs s) x.2 else bK xs s:=by simp[bK]
theorem KL {l:List Int}{x:Int}(h:l.Nodup):(mO l x).Nodup:=by
 unfold mO
 split
 .exact h
 .refine zC.2 ⟨h,by simp,λp hp q hq e=>?_⟩
  simp at hq;subst hq e
  contradiction
theorem EO {α:Type}{P:List α->Prop}(h0:P [])(h1:∀xs x,P xs->P (xs++[x]))(xs:List α):P xs:=by
 have h:∀ys:List α,P ys.reverse:=by
  intro ys
  induction ys with
  |nil=>exact h0
  |cons y ys ih=>rw[List.reverse_cons];exact h1 _ _ ih
 simpa using h xs.reverse
def up (n:Nat):List Int:=(List.range n).map λi:Nat=>(i:Int)
theorem BO (n:Nat):(up n).length=n:=by simp[up]
theorem ag' {n i:Nat}(h:i<n):(up n)[i]?=some (i:Int):=by simp[up,h]
theorem XF {n:Nat}{x:Int}(h0:0<=x):x∈up n↔x<n:=by
 unfold up;simp only[dQ,wT]
 constructor
 .rintro⟨a,h,rfl⟩;omega
 .intro h;exact⟨x.toNat,by omega,by omega⟩
theorem QU (l:List Int)(x:Int):l<+:mO l x:=by
 unfold mO
 split
 .exact iK _
 .exact fP _ _
theorem KM (xs:List (Int × Int))(x:Int × Int)(s:Int):bK xs s<+:bK (xs++[x]) s:=by
 rw[nH]
 split
 .exact QU _ _
 .exact iK _
end Yd
namespace Yd
open Go Go.RowKit Go.Proofs
open Tryz renaming prog->d
theorem XG:Tryz.prog.elem 27=9:=av
theorem XH:Tryz.prog.underlying 27=some (.slice (Tryz.prog.elem 27)):=by rw[XG];exact Tryz.underlying27
theorem aha (W:World):(Go.sizeOf (Tryz.prog.elem 27)).run d W=Result.ok 1 W:=by
 rw[XG]
 kernel_rfl
theorem Ej {w:World}{a:Option Addr}{n c:Nat}{xs:List Bs}(h:Row w 1 encStr a n c xs)(k:Nat)(hk:k<=n):∃a':Option Addr,(∀W:World,(Instr.slice 27 (.slice a n c) (some (.int .i64 (k:Int))) none none).run d W= .ok (.slice a' (n - k) (c - k)) W)/\
  (∀W:World,(Instr.sliceAt 27 (.slice a n c) (some (.int .i64 (k:Int))) none none).run d W= .ok (.slice a' (n - k) (c - k)) W)/\Row w 1 encStr a' (n - k) (c - k) (xs.drop k)/\∀b o,a'=some ⟨b,o,none⟩->∃q,a=some q/\q.block=b:=by
 have hs:∀W:World,(Instr.slice 27 (.slice a n c) (some (.int .i64 (k:Int))) none none).run d W= .ok (.slice (if c=k then a else a.map (·.add (k*1))) (n - k) (c - k)) W:=λW=>by
  rw[run_slice_l (P:=d) W 27 a n c XH .i64 (k:Int) ah (by have:=h.cap;omega),aha];simp[Result.andThen,sliced]
 refine⟨if c=k then a else a.map (·.add (k*1)),hs,λW=>(run_sliceAt_slice (P:=d) W 27 _ _ _ _ XH).trans (hs W),?_,?_⟩
 .obtain⟨h1,h2,h3,h4,h5⟩:=h
  refine⟨by rw[kz,h1],by omega,by omega,λe=>?_,λi x hx=>?_⟩
  .by_cases hc:c=k
   .omega
   .rw[ak hc] at e
    cases a with
    |none=>rw[h4 rfl];omega
    |some ad=>cases e
  .rw[Ed] at hx
   obtain⟨b,o,ha,hcell⟩:=h5 _ x hx;have hlt:=(bG.1 hx).1;rw[ak ah,ha];refine⟨b,o+k,?_,λj v hv=>?_⟩
   .show some (Addr.add ⟨b,o,none⟩ (k*1))=_
    unfold Addr.add;rw[jo];by_cases h0:k=0
    .rw[ay h0,h0];rfl
    .rw[ak h0]
   .rw[show o+k+i*1+j=o+(k+i)*1+j by omega];exact hcell j v hv
 .intro b o e
  split at e
  .exact⟨_,e,rfl⟩
  .cases a with
   |none=>cases e
   |some ad=>
    refine⟨ad,rfl,?_⟩;have e2:ad.add (k*1)=⟨b,o,none⟩:=by simpa using e
    have e3:(ad.add (k*1)).block=ad.block:=by
     unfold Addr.add
     split <;> rfl
    rw[e2] at e3;exact e3.symm
end Yd
