import Derived.Test.YtiheclemhihpeaaGreatDoorZA0
import Derived.WalkKit
import Derived.Deep.Draws
import Derived.Test.YtiheclemhihpeaaGreatDoorProg
import Derived.Laws.StructEq
import Derived.RangeFuncNested
import Derived.RangeFuncCalls
import Derived.RangeFuncLeaves
import Derived.RangeFuncSeq
import Derived.RangeFuncBound
import Derived.Maps.AppendAt
import Derived.Laws.OwnMore
import Derived.Lib.SliceRun
import Derived.Laws.Slices
set_option linter.all false
set_option maxRecDepth 200000
set_option maxHeartbeats 8000000
namespace Yd
open Go Go.RowKit
theorem hid {p:Prop}(h:p):Hid p:=h
end Yd
namespace Go.RowKit
theorem Hid.q {p:Prop}(h:Hid p):p:=h
theorem Below.bL {a b c:World}(h:Below a.1.size a b)(k:Below b.1.size b c):Below a.1.size a c:=h.trans (k.mono h.size)
end Go.RowKit
namespace Yd
open Go Go.RowKit
variable{β:Type}
theorem kP (x:β):∃y,y=x:=by grind
def bT (v:Value)(w:World)(e:Ending)(w':World):Prop:=e= .returned v/\Below w.1.size w w'
theorem iw {w:World}{p:Addr}{v:Value}(h:w.cell? p=some v):p.block<w.1.size:=by
 unfold World.cell? at h
 grind
theorem aZ {B:Nat}{w w':World}(b:Below B w w')(d:B=w.1.size){p:Addr}{v:Value}(h:w.cell? p=some v):w'.cell? p=some v:=by
 subst d;exact(b.cell (iw h)).trans h
theorem dm {B:Nat}{a w:World}(h:Below B a w)(n:Nat):Below B a (w.drewN n):=⟨h.os,h.tape,h.output,h.size,h.block⟩
theorem PK {B:Nat}{X d:World}(e:Below B X d):(∀b o,b<B->d.cell? ⟨b,o,none⟩=X.cell? ⟨b,o,none⟩)/\(∀b o,b<B->d.frozen? ⟨b,o,none⟩=X.frozen? ⟨b,o,none⟩):=
 ⟨λb o h=>e.cell (p:=⟨b,o,none⟩) h,λb o h=>e.frozen (p:=⟨b,o,none⟩) h⟩
theorem aB {a w:World}(h:Below a.1.size a w)(o:Obj):Below a.1.size a (w.alloc o):=h.alloc h.size o
def Row {d:Type}(w:World)(k:Nat)(enc:d->List Value)(a:Option Addr)(n c:Nat)(xs:List d):Prop:=
 xs.length=n/\n<=c/\n<=140737488355328/\(a=none->c=0)/\∀i x,xs[i]?=some x->∃b o,a=some ⟨b,o,none⟩/\∀j v,(enc x)[j]?=some v->w.cell? ⟨b,o+i*k+j,none⟩=some v
section
variable {α:Type}{w w':World}{k:Nat}{enc:α->List Value}{a:Option Addr}{n c:Nat}{xs:List α}
theorem Row.ext (h:Row w k enc a n c xs)(d:∀p v,w.cell? p=some v->w'.cell? p=some v):Row w' k enc a n c xs:=
 ⟨h.1,h.2.1,h.2.2.1,h.2.2.2.1,λi x e=>let⟨b,o,ha,f⟩:=h.2.2.2.2 i x e;⟨b,o,ha,λj v g=>d _ _ (f j v g)⟩⟩
theorem Row.below {B:Nat}(h:Row w k enc a n c xs)(b:Below B w w')(d:B=w.1.size):Row w' k enc a n c xs:=h.ext λ_ _=>aZ b d
theorem Row.le (h:Row w k enc a n c xs):n<=140737488355328:=h.2.2.1
theorem Row.len (h:Row w k enc a n c xs):xs.length=n:=h.1
theorem Row.cap (h:Row w k enc a n c xs):n<=c:=h.2.1
theorem Row.none_ (h:Row w k enc none n c xs):c=0/\n=0/\xs=[]:=by
 have b:=h.2.2.2.1 rfl;have d:=h.2.1;exact⟨b,by omega,yw (by rw[h.1];omega)⟩
theorem Row.at_ (h:Row w k enc a n c xs){i:Nat}(e:i<n):∃x b o,xs[i]?=some x/\a=some ⟨b,o,none⟩/\∀j v,(enc x)[j]?=some v->w.cell? ⟨b,o+i*k+j,none⟩=some v:=by
 have d:i<xs.length:=by rw[h.1];exact e
 obtain⟨b,o,ha,f⟩:=h.2.2.2.2 i xs[i] (dM d);exact⟨xs[i],b,o,dM d,ha,f⟩
theorem Row.eH:Row w k enc none 0 0 ([]:List α):=⟨rfl,aC _,by decide,λ_=>rfl,λi x h=>by simp at h⟩
end
abbrev Bs:=List UInt8
structure je where
 t:Int
 k:Int
 deriving DecidableEq,Inhabited
structure Sn where
 obj:Int
 v:je
 deriving DecidableEq,Inhabited
structure Wa where
 gG:Int
 bits:Int
 deriving DecidableEq,Inhabited
structure To where
 name:Bs
 k:Int
 deriving DecidableEq
structure EvC where
 kind:Int
 t:Int
 gG:Int
 lvl:Int
 obj:Int
 v:je
 pred:Int
 sa:Option Addr
 sn:Nat
 sc:Nat
structure aO where
 obj:Int
 sa:Option Addr
 sn:Nat
 sc:Nat
structure aP where
 pred:Int
 obj:Int
 first:Bool
 sa:Option Addr
 sn:Nat
 sc:Nat
structure aW where
 kind:Int
 na:Option Addr
 nn:Nat
 nc:Nat
 lvl:Int
 va:Option Addr
 vn:Nat
 vc:Nat
 first:Bool
 bits:Int
def aQ (n:Int):List Value:=[.int .i64 n]
@[reducible] def BX (n:Int):Value:= .int .i64 n
def encStr (s:Bs):List Value:=[.string ⟨s.toArray⟩]
@[reducible] def valStr (s:Bs):Value:= .string ⟨s.toArray⟩
def bI (s:Sn):List Value:=[.int .i64 s.obj,.int .i64 s.v.t,.int .i64 s.v.k]
@[reducible] def wC (s:Sn):Value:= .agg #[.int .i64 s.obj,.int .i64 s.v.t,.int .i64 s.v.k]
def eY (s:Wa):List Value:=[.int .i64 s.gG,.int .i64 s.bits]
@[reducible] def wD (s:Wa):Value:= .agg #[.int .i64 s.gG,.int .i64 s.bits]
def pG (s:To):List Value:=[.string ⟨s.name.toArray⟩,.int .i64 s.k]
@[reducible] def iZ (s:To):Value:= .agg #[.string ⟨s.name.toArray⟩,.int .i64 s.k]
def dK (e:EvC):List Value:=[.int .i64 e.kind,.int .i64 e.t,.int .i64 e.gG,.int .i64 e.lvl,.int .i64 e.obj,.int .i64 e.v.t,.int .i64 e.v.k,.int .i64 e.pred,.slice e.sa e.sn e.sc]
@[reducible] def gQ (e:EvC):Value:= .agg #[.int .i64 e.kind,.int .i64 e.t,.int .i64 e.gG,.int .i64 e.lvl,.int .i64 e.obj,.int .i64 e.v.t,.int .i64 e.v.k,.int .i64 e.pred,.slice e.sa e.sn e.sc]
def dU (s:aO):List Value:=[.int .i64 s.obj,.slice s.sa s.sn s.sc]
@[reducible] def BZ (s:aO):Value:= .agg #[.int .i64 s.obj,.slice s.sa s.sn s.sc]
def dV (s:aP):List Value:=[.int .i64 s.pred,.int .i64 s.obj,.bool s.first,.slice s.sa s.sn s.sc]
@[reducible] def Ca (s:aP):Value:= .agg #[.int .i64 s.pred,.int .i64 s.obj,.bool s.first,.slice s.sa s.sn s.sc]
def mZ (l:aW):List Value:=[.int .i64 l.kind,.slice l.na l.nn l.nc,.int .i64 l.lvl,.slice l.va l.vn l.vc,.bool l.first,.int .i64 l.bits]
@[reducible] def dH (l:aW):Value:= .agg #[.int .i64 l.kind,.slice l.na l.nn l.nc,.int .i64 l.lvl,.slice l.va l.vn l.vc,.bool l.first,.int .i64 l.bits]
def E5 {b:Type}(P:Program)(f:Nat)(d:Array Value)(val:b->Value)(p:b->Bool)(xs:List b)(w:World):Prop:=
 ∀x∈xs,∀W,Below w.1.size w W->Calls P f (#[val x]++d) W (bT (.bool (p x)) W)
def idx {b:Type}(p:b->Bool)(xs:List b):Int:=match xs.findIdx? p with|some i=>(i:Int)|none=> -1
theorem E8 {β:Type}{p:β->Bool}{xs:List β}{i:Nat}(h:xs.findIdx? p=some i):idx p xs=i:=by grind [idx]
theorem E9 {β:Type}{p:β->Bool}{xs:List β}(h:xs.findIdx? p=none):idx p xs= -1:=by grind [idx]
theorem rJ (p:β->Bool)(xs:List β):decide (0<=idx p xs)=xs.any p:=by
 cases h:xs.findIdx? p with
 |none=>
  grind [E9]
 |some i=>
  grind [E8,List.findIdx?_eq_some_iff_getElem,List.any_eq_true,List.getElem_mem]
theorem findIdx?_take (p:β->Bool)(xs:List β)(i:Nat)(h:(xs.take i).findIdx? p=none)(x:β)(e:xs[i]?=some x)(f:p x=true):xs.findIdx? p=some i:=by
 rw[BO];have b:i<xs.length:=by
  grind
 refine⟨b,?_,?_⟩
 .grind
 .intro j d
  rw[wE] at h;have:=h xs[j] (by
   rw[qi];exact⟨j,by rw[Cb,aA d];exact dM ah⟩)
  grind
theorem Ey (p:β->Bool)(xs:List β)(i:Nat)(h:(xs.take i).findIdx? p=none)(x:β)(b:xs[i]?=some x)(d:p x=false):(xs.take (i+1)).findIdx? p=none:=by
 grind [List.take_add_one]
end Yd
namespace Yd
open Go Go.RowKit Go.Proofs Tryz
open Tryz renaming prog->r
theorem Fa (x y:To)(w:World):(Op.equalIn 10000 61 (iZ x) (iZ y)).run r w= .ok (decide (x=y)) w:=by
 simp[iZ,go_sem]
 cases x;cases y;simp;(repeat' split) <;> simp_all
theorem S9 (x y:Wa)(w:World):(Op.equalIn 10000 69 (wD x) (wD y)).run r w= .ok (decide (x=y)) w:=by
 simp[wD,go_sem]
 cases x;cases y;simp;(repeat' split) <;> simp_all
theorem Hl (x y:je)(w:World):(Op.equalIn 10000 47 (.agg #[.int .i64 x.t,.int .i64 x.k]) (.agg #[.int .i64 y.t,.int .i64 y.k])).run r w= .ok (decide (x=y)) w:=by
 simp[go_sem]
 cases x;cases y;simp;(repeat' split) <;> simp_all
theorem KH (x y:Sn)(w:World):(Op.equalIn 10000 148 (wC x) (wC y)).run r w= .ok (decide (x=y)) w:=by
 simp[wC,go_sem];obtain⟨_,⟨_,_⟩⟩:=x;obtain⟨_,⟨_,_⟩⟩:=y;simp;(repeat' split) <;> simp_all
def zq {b:Type}(F k:Nat)(h:b->List Value)(val:b->Value):Prop:=∀(a:Option Addr)(n c f:Nat)(e:Array Value)(d:List b)(p:b->Bool)(w:World),Row w k h a n c d->
  (∀g w,(callFunc f g).run r w= .ok (.enter f g) w)->E5 r f e val p d w->Calls r F #[.slice a n c,.func (.func f) #[] e] w (bT (.int .i64 (idx p d)) w)
def wF {b:Type}(F k:Nat)(h:b->List Value)(val:b->Value):Prop:=∀(a:Option Addr)(n c f:Nat)(e:Array Value)(d:List b)(p:b->Bool)(w:World),Row w k h a n c d->
  (∀g w,(callFunc f g).run r w= .ok (.enter f g) w)->E5 r f e val p d w->Calls r F #[.slice a n c,.func (.func f) #[] e] w (bT (.bool (d.any p)) w)
theorem zu {p:Prop}(h:p:=by
 have hn:=HR.q.le;go_wp2_with fail
 go_loopw [8] (λi wr=>∃k:Nat,k<=n/\i= .int .i64 k/\(cs.take k).findIdx? p=none/\Below w.1.size w wr) (λi _=>n - (RowKit.intOf i).toNat)
 case atStart=>exact⟨0,aS _,rfl,rfl,Below.refl _ _⟩
 case round=>
  obtain⟨k,hk,rfl,hf,hb⟩:=hrel;by_cases hlt:k<n
  .obtain⟨x,b,o,hx,rfl,hc⟩:=HR.q.at_ hlt
   have h0:=aZ hb rfl (hc 0 _ rfl)
   try have h1:=aZ hb rfl (hc 1 _ rfl)
   try have h2:=aZ hb rfl (hc 2 _ rfl)
   try have h3:=aZ hb rfl (hc 3 _ rfl)
   try have h4:=aZ hb rfl (hc 4 _ rfl)
   try have h5:=aZ hb rfl (hc 5 _ rfl)
   try have h6:=aZ hb rfl (hc 6 _ rfl)
   try have h7:=aZ hb rfl (hc 7 _ rfl)
   try have h8:=aZ hb rfl (hc 8 _ rfl)
   rw[bK] at h0
   try rw[gP] at h0
   have hcall:=H.q x (bS hx) wr hb;have HX:=hid hx;have HF:=hid hf;clear hc hx hf
   cases hpx:p x
   all_goals
    rw[hpx] at hcall;have HC:=hid hcall;have HP:=hid hpx;clear hcall hpx;go_wp2_with fail;refine HC.q.mono ?_;rintro e w1 ⟨rfl,hb1⟩;go_wp2_with fail
   .go_roundw
    case rel=>exact⟨k+1,by omega,by go_num,Ey p cs k HF.q x HX.q HP.q,hb.trans (hb1.mono hb.size)⟩
    case measure=>simp[RowKit.intOf];omega
   .go_ret
    refine⟨?_,hb.trans (hb1.mono hb.size)⟩;rw[E8 (findIdx?_take p cs k HF.q x HX.q HP.q)];rfl
  .have hkn:k=n:=by omega
   have HF:=hid hf;clear hf;go_wp2_with fail;go_ret;refine⟨?_,hb⟩;have e:cs.take k=cs:=eF (by rw[HR.q.len];omega);rw[E9 (xs:=cs) (by rw[<-e];exact HF.q)];rfl):p:=h
theorem VE:zq 199 9 dK gQ:=λa n c f h cs p w d j g=>by
 have H:=hid g;have HR:=hid d;clear g d;go_enter func199,ntmps199;exact zu
theorem VF:zq 114 2 pG iZ:=λa n c f h cs p w d j g=>by
 have H:=hid g;have HR:=hid d;clear g d;go_enter func114,ntmps114;exact zu
theorem Ta:zq 115 1 encStr valStr:=λa n c f h cs p w d j g=>by
 have H:=hid g;have HR:=hid d;clear g d;go_enter func115,ntmps115;exact zu
theorem Tc:zq 198 1 aQ BX:=λa n c f h cs p w d j g=>by
 have H:=hid g;have HR:=hid d;clear g d;go_enter func198,ntmps198;exact zu
theorem VG:zq 203 2 dU BZ:=λa n c f h cs p w d j g=>by
 have H:=hid g;have HR:=hid d;clear g d;go_enter func203,ntmps203;exact zu
theorem VH:zq 204 4 dV Ca:=λa n c f h cs p w d j g=>by
 have H:=hid g;have HR:=hid d;clear g d;go_enter func204,ntmps204;exact zu
theorem VI:zq 205 2 eY wD:=λa n c f h cs p w d j g=>by
 have H:=hid g;have HR:=hid d;clear g d;go_enter func205,ntmps205;exact zu
theorem VJ:zq 215 3 bI wC:=λa n c f h cs p w d j g=>by
 have H:=hid g;have HR:=hid d;clear g d;go_enter func215,ntmps215;exact zu
theorem Td:wF 168 9 dK gQ:=λa n c f g h p w b i d=>by
 have j:=hid (VE a n c f g h p w b i d);clear d b;go_enter func168,ntmps168
 go_wp2_with (go_at_call 199;refine j.q.mono ?_;rintro e m ⟨rfl,l⟩)
 go_ret;exact⟨by rw[<-rJ];rfl,l⟩
theorem KJ:wF 58 2 pG iZ:=λa n c f g h p w b i d=>by
 have j:=hid (VF a n c f g h p w b i d);clear d b;go_enter func58,ntmps58
 go_wp2_with (go_at_call 114;refine j.q.mono ?_;rintro e m ⟨rfl,l⟩)
 go_ret;exact⟨by rw[<-rJ];rfl,l⟩
theorem Hq:wF 61 1 encStr valStr:=λa n c f g h p w b i d=>by
 have j:=hid (Ta a n c f g h p w b i d);clear d b;go_enter func61,ntmps61
 go_wp2_with (go_at_call 115;refine j.q.mono ?_;rintro e m ⟨rfl,l⟩)
 go_ret;exact⟨by rw[<-rJ];rfl,l⟩
theorem Qt:wF 166 1 aQ BX:=λa n c f g h p w b i d=>by
 have j:=hid (Tc a n c f g h p w b i d);clear d b;go_enter func166,ntmps166
 go_wp2_with (go_at_call 198;refine j.q.mono ?_;rintro e m ⟨rfl,l⟩)
 go_ret;exact⟨by rw[<-rJ];rfl,l⟩
theorem Te:wF 180 2 dU BZ:=λa n c f g h p w b i d=>by
 have j:=hid (VG a n c f g h p w b i d);clear d b;go_enter func180,ntmps180
 go_wp2_with (go_at_call 203;refine j.q.mono ?_;rintro e m ⟨rfl,l⟩)
 go_ret;exact⟨by rw[<-rJ];rfl,l⟩
theorem Tf:wF 182 4 dV Ca:=λa n c f g h p w b i d=>by
 have j:=hid (VH a n c f g h p w b i d);clear d b;go_enter func182,ntmps182
 go_wp2_with (go_at_call 204;refine j.q.mono ?_;rintro e m ⟨rfl,l⟩)
 go_ret;exact⟨by rw[<-rJ];rfl,l⟩
theorem Tg:wF 184 2 eY wD:=λa n c f g h p w b i d=>by
 have j:=hid (VI a n c f g h p w b i d);clear d b;go_enter func184,ntmps184
 go_wp2_with (go_at_call 205;refine j.q.mono ?_;rintro e m ⟨rfl,l⟩)
 go_ret;exact⟨by rw[<-rJ];rfl,l⟩
theorem Ti:wF 200 3 bI wC:=λa n c f g h p w b i d=>by
 have j:=hid (VJ a n c f g h p w b i d);clear d b;go_enter func200,ntmps200
 go_wp2_with (go_at_call 215;refine j.q.mono ?_;rintro e m ⟨rfl,l⟩)
 go_ret;exact⟨by rw[<-rJ];rfl,l⟩
end Yd
namespace Yd
open Go Go.RowKit
open Go renaming Value->j,World->q
open _root_ renaming Array->m
@[reducible] def Bx (W:q)(b:Nat)(cs:m j):Prop:=(∀i,W.cell? ⟨b,i,none⟩=cs[i]?)/\(∀i,W.frozen? ⟨b,i,none⟩=false)/\b<W.1.size
variable{X:q}{b:Nat}{cs:m j}
theorem Bx.below {w':q}{B:Nat}(h:Bx X b cs)(d:Below B X w')(e:b<B):Bx w' b cs:=
 ⟨λi=>(d.cell (p:=⟨b,i,none⟩) e).trans (h.1 i),λi=>(d.frozen (p:=⟨b,i,none⟩) e).trans (h.2.1 i),kS h.2.2 d.size⟩
theorem Bx.keep {w':q}(h:Bx X b cs)(d:Below X.1.size X w'):Bx w' b cs:=h.below d h.2.2
theorem Bx.drew (h:Bx X b cs):Bx X.drew b cs:=h
theorem Bx.drewN (h:Bx X b cs)(n:Nat):Bx (X.drewN n) b cs:=h
theorem Bx.alloc (h:Bx X b cs)(o:Obj):Bx (X.alloc o) b cs:=h.keep ((Below.refl _ _).alloc (aC _) _)
theorem Bx.new (X:q)(cs:m j)(T:TypeId):Bx (X.alloc (.cells cs T)) X.1.size cs:=
 ⟨λi=>World.cell?_alloc_new X cs T i,λi=>by
  have h:(X.alloc (.cells cs T)).1[X.1.size]?=some (.cells cs T (0,0)):=by show(X.1.push _)[_]?=_;simp
  unfold World.frozen?;simp only[h];simp,by simp⟩
theorem Bx.other (h:Bx X b cs){p:Addr}(d:b≠p.block)(v:j):Bx (X.setCell p v) b cs:=by
 have e:=Below.heap_setCell X p v b d;refine⟨λi=>(World.cell?_of_block (a:=⟨b,i,none⟩) e).trans (h.1 i),λi=>(World.frozen?_of_block (a:=⟨b,i,none⟩) e).trans (h.2.1 i),?_⟩
 grind
theorem tX {w':q}{a:Nat}{c d:m j}(h:Bx X a c/\Bx X b d)(e:Below X.1.size X w'):Bx w' a c/\Bx w' b d:=⟨h.1.keep e,h.2.keep e⟩
theorem EF {w':q}{a g:Nat}{c d e:m j}(h:Bx X a c/\Bx X b d/\Bx X g e)(f:Below X.1.size X w'):Bx w' a c/\Bx w' b d/\Bx w' g e:=⟨h.1.keep f,tX h.2 f⟩
@[reducible] def Hr (s:Wa):m j:=#[.int .i64 s.gG,.int .i64 s.bits]
@[reducible] def dX (s:To):m j:=#[.string ⟨s.name.toArray⟩,.int .i64 s.k]
@[reducible] def aY (e:EvC):m j:=#[.int .i64 e.kind,.int .i64 e.t,.int .i64 e.gG,.int .i64 e.lvl,.int .i64 e.obj,.int .i64 e.v.t,.int .i64 e.v.k,.int .i64 e.pred,.slice e.sa e.sn e.sc]
@[reducible] def Ht (s:aO):m j:=#[.int .i64 s.obj,.slice s.sa s.sn s.sc]
@[reducible] def Hu (s:aP):m j:=#[.int .i64 s.pred,.int .i64 s.obj,.bool s.first,.slice s.sa s.sn s.sc]
@[reducible] def bJ (l:aW):m j:=#[.int .i64 l.kind,.slice l.na l.nn l.nc,.int .i64 l.lvl,.slice l.va l.vn l.vc,.bool l.first,.int .i64 l.bits]
def nE (v u:j)(w:q)(e:Ending)(w':q):Prop:=e= .returned (.tuple #[v,u])/\Below w.1.size w w'
end Yd
namespace Yd
open Bool renaming false->N
open Option renaming some->G
open Go Go.RowKit Go.Proofs Tryz
open Below renaming refl->I
open Go renaming World->E,Value->V
open Go.Value renaming bool->O
open Tryz renaming prog->L
open World renaming putObj_heap_other->J
open _root_ renaming Nat->M,List->U
def bM (D:M->Prop)(W b:E):Prop:=W.1.size<=b.1.size/\∀i,D i->i<W.1.size->b.1[i]?=W.1[i]?
variable{D:M->Prop}
theorem bM.trans {A B C:E}(h:bM D A B)(k:bM D B C):bM D A C:=
 ⟨cO h.1 k.1,λi b d=>(k.2 i b (kS d h.1)).trans (h.2 i b d)⟩
theorem bM.refl (A:E):bM D A A:=⟨aC _,λ_ _ _=>rfl⟩
theorem bM.mono {b:M->Prop}{A B:E}(h:bM D A B)(e:∀i,b i->i<A.1.size->D i):bM b A B:=⟨h.1,λi f d=>h.2 i (e i f d) d⟩
variable{l:M}
theorem bM.putObj (A:E)(o:Obj)(b:¬D l):bM D A (A.putObj l o):=
 ⟨Nat.le_of_eq World.putObj_size.symm,λ_i d _=>J (λe=>b (e▸d))⟩
variable{X Y:E}
theorem bM.of_below {B:M}(h:Below B X Y)(b:∀i,D i->i<X.1.size->i<B):bM D X Y:=⟨h.size,λi d e=>h.block i (b i d e)⟩
structure Same (A:M->Prop)(X Y:E):Prop where
 os:Y.os=X.os
 tape:Y.tape=X.tape
 output:Y.output=X.output
 size:X.1.size<=Y.1.size
 block:∀i,A i->i<X.1.size->Y.1[i]?=X.1[i]?
variable{A:M->Prop}
theorem Same.of_below {B:M}(h:Below B X Y)(b:∀i,A i->i<X.1.size->i<B):Same A X Y:=⟨h.os,h.tape,h.output,h.size,λi d e=>h.block i (b i d e)⟩
theorem Same.mono {A':M->Prop}(h:Same A X Y)(d:∀i,A' i->i<X.1.size->A i):Same A' X Y:=⟨h.os,h.tape,h.output,h.size,λi e b=>h.block i (d i e b) b⟩
theorem Same.tr {Z:E}(h:Same A X Y)(k:Same A Y Z):Same A X Z:=
 ⟨k.os.trans h.os,k.tape.trans h.tape,k.output.trans h.output,cO h.size k.size,λi b d=>(k.block i b (kS d h.size)).trans (h.block i b d)⟩
theorem Same.below {B:M}{w:E}(h:Below B w X)(k:Same A X Y)(d:∀i,i<B->A i)(e:B<=X.1.size):Below B w Y:=
 ⟨k.os.trans h.os,k.tape.trans h.tape,k.output.trans h.output,cO h.size k.size,λi b=>(k.block i (d i b) ah).trans (h.block i b)⟩
theorem Same.bx {b:M}{cs:Array V}(k:Same A X Y)(h:Bx X b cs)(ha:A b):Bx Y b cs:=
 ⟨λi=>(World.cell?_of_block (a:=⟨b,i,none⟩) (k.block b ha h.2.2)).trans (h.1 i),λi=>(World.frozen?_of_block (a:=⟨b,i,none⟩) (k.block b ha h.2.2)).trans (h.2.1 i),kS h.2.2 k.size⟩
theorem Same.putObj (X:E)(o:Obj)(b:¬A l):Same A X (X.putObj l o):=
 ⟨rfl,rfl,rfl,Nat.le_of_eq World.putObj_size.symm,λ_i d _=>J (λe=>b (e▸d))⟩
def KL (l:M)(r:Loop)(R:Ending->E->Prop):Exit->Act->E->Prop
 | .normal,_,W=>W.1[l]?=G (.loop {r with state:= .busy})/\R (.returned (O true)) (W.putObj l (.loop {r with state:= .ready,pending:=none}))
 | .ret,_,W=>W.1[l]?=G (.loop {r with state:= .busy})/\R (.returned (O N)) (W.putObj l (.loop {r with state:= .done,pending:=some .ret}))
 | .exit b,_,W=>W.1[l]?=G (.loop {r with state:= .busy})/\R (.returned (O N)) (W.putObj l (.loop {r with state:= .done,pending:=some (.exit b)}))
 | .goto t,_,W=>W.1[l]?=G (.loop {r with state:= .busy})/\R (.returned (O N)) (W.putObj l (.loop {r with state:= .done,pending:=some (.goto t)}))
 | .panic _,_,_=>False
 | .outgrown,_,_=>False
variable{P:Program}
theorem Jk {F:Fence}{n:M}{r:Loop}{args:Array V}{R:Ending->E->Prop}
  (i:X.1[l]?=G (.loop r)) (j:r.state= .ready) (m:F.fn r.fn) (o:args.size=r.params.size)
  (h:r.assign.wpIn (F.inRound l) n P (Exit.then (λf d=>d.1[l]?=G (.loop r)/\r.body.wpIn (F.inRound l) n P (KL l r R) f (d.putObj l (.loop {r with state:= .busy}))) (λ_ _ _=>False))
   {tmps:=(r.params.zip args).foldl (λt (p,v)=>t.setIfInBounds p v) r.tmps,defers:=[]} X):YieldAt F n P l args X R:=by
 refine⟨r.fn,_,r.assign,r.body,run_yield i o,roundIn_of_wpIn m ?_⟩
 apply wpIn_mono h
 rintro e f d g
 cases e with
 |normal=>
  obtain⟨q,s⟩:=g;refine⟨_,run_beginRound q j,wpIn_mono s ?_⟩;rintro e x y b
  cases e with
  |normal=>exact⟨_,_,run_endRound none b.1,b.2⟩
  |ret=>exact⟨_,_,run_endRound (G .ret) b.1,b.2⟩
  |exit u=>exact⟨_,_,run_endRound (G (.exit u)) b.1,b.2⟩
  |goto t=>exact⟨_,_,run_endRound (G (.goto t)) b.1,b.2⟩
  |panic _=>exact b.elim
  |outgrown=>exact b.elim
 |_=>exact g.elim
def Iter (P:Program)(gf:M)(lb:Array V){g:Type}(lN:g->Array V->E->Prop)(k:M)(D:M->Prop)(xs:U g)(W:E):Prop:=
 ∀(n l:M)(d f:U g->E->Prop),
  (∀s X Y,d s X->Same (λi=>i<W.1.size\/W.1.size+k<=i) X Y->d s Y)->
  (∀s X Y,f s X->Same (λi=>i<W.1.size\/W.1.size+k<=i) X Y->f s Y)->
  (∀b x h X,d b X->b++[x]<+:xs->lN x h X->W.1.size+k<=X.1.size->∀m,YieldAt Fence.wide m P l h X λe Y=>
   (e= .returned (O true)/\d (b++[x]) Y/\bM D X Y)\/(e= .returned (O N)/\f (b++[x]) Y/\bM D X Y))->
  d [] W->
  CallsIn Fence.wide n P gf (#[.func (.yield l) #[] #[]]++lb) W λe Y=>∃v,e= .returned v/\(d xs Y\/∃b,b<+:xs/\f b Y)
def yx {b:Type}(l:M)(D:M->Prop)(e:U b->E->Prop)(d:Code->U b->E->Prop)(xs:U b)(X:E):Exit->Act->E->Prop
 | .normal,_,Y=>(Y.1[l]?=X.1[l]?/\Y.1[l+1]?=X.1[l+1]?)/\bM D X Y/\e xs Y
 | .ret,_,Y=>(Y.1[l]?=X.1[l]?/\Y.1[l+1]?=X.1[l+1]?)/\bM D X Y/\d .ret xs Y
 | .exit f,_,Y=>(Y.1[l]?=X.1[l]?/\Y.1[l+1]?=X.1[l+1]?)/\bM D X Y/\d (.exit f) xs Y
 | .goto t,_,Y=>(Y.1[l]?=X.1[l]?/\Y.1[l+1]?=X.1[l+1]?)/\bM D X Y/\d (.goto t) xs Y
 | .panic _,_,_=>False
 | .outgrown,_,_=>False
def Cc (P:Program)(gf:M)(lb:Array V){g:Type}(lN:g->Array V->E->Prop)(k:M)(D:M->Prop)(R:E->Prop)(Kp:g->Array V->E->Prop)(xs:U g)(W:E):Prop:=
 ∀(n l:M)(b f:U g->E->Prop),
  (∀s X Y,b s X->Same (λi=>i<W.1.size\/W.1.size+k<=i) X Y->b s Y)->
  (∀s X Y,f s X->Same (λi=>i<W.1.size\/W.1.size+k<=i) X Y->f s Y)->
  (∀s X,b s X->R X)->(∀s X,f s X->R X)->
  (∀d x h X,b d X->d++[x]<+:xs->lN x h X->W.1.size+k<=X.1.size->∀m,YieldAt Fence.wide m P l h X λe Y=>
   (e= .returned (O true)/\b (d++[x]) Y/\bM D X Y/\Kp x h Y)\/(e= .returned (O N)/\f (d++[x]) Y/\bM D X Y))->
  b [] W->
  CallsIn Fence.wide n P gf (#[.func (.yield l) #[] #[]]++lb) W λe Y=>∃v,e= .returned v/\(b xs Y\/∃d,d<+:xs/\f d Y)
def yA {b:Type}(l:M)(D:M->Prop)(e:U b->E->Prop)(d:Code->U b->E->Prop)(f:E->Prop)(xs:U b)(X:E):Exit->Act->E->Prop
 | .normal,_,Y=>(Y.1[l]?=X.1[l]?/\Y.1[l+1]?=X.1[l+1]?)/\bM D X Y/\e xs Y/\f Y
 | .ret,_,Y=>(Y.1[l]?=X.1[l]?/\Y.1[l+1]?=X.1[l+1]?)/\bM D X Y/\d .ret xs Y
 | .exit g,_,Y=>(Y.1[l]?=X.1[l]?/\Y.1[l+1]?=X.1[l+1]?)/\bM D X Y/\d (.exit g) xs Y
 | .goto t,_,Y=>(Y.1[l]?=X.1[l]?/\Y.1[l+1]?=X.1[l+1]?)/\bM D X Y/\d (.goto t) xs Y
 | .panic _,_,_=>False
 | .outgrown,_,_=>False
variable{β:Type}{gf:M}{lb:Array V}
theorem yB {g:Operand}{ps:Array Tmp}{assign body:Code}{Q:Exit->Act->E->Prop}{a:Act}{w:E}{n:M}
    (hg:a.eval g= .func (.func gf) #[] lb) (eg:∀args w,(callFunc gf args).run P w= .ok (.enter gf args) w)
  {lN:β->Array V->E->Prop} {k:M}  {R:E->Prop} {Kp:β->Array V->E->Prop} {xs:U β}
  (ρ:∀W,Below w.1.size w W->W.1.size=w.1.size+2->Cc P gf lb lN k D R Kp xs W)
  (hD:¬D (w.1.size+1)) (σ:∀x args X,lN x args X->args.size=ps.size)
  (d:U β->E->Prop) (y:Code->U β->E->Prop)
  (hI:∀s X Y,d s X->Same (λi=>i<w.1.size\/w.1.size+2+k<=i) X Y->d s Y)
  (ι:∀c s X Y,y c s X->Same (λi=>i<w.1.size\/w.1.size+2+k<=i) X Y->y c s Y)
  (τ:∀s X,d s X->R X) (υ:∀c s X,y c s X->R X)
  (φ:∀x args X Y,Kp x args X->Same (λi=>i<w.1.size\/w.1.size+2+k<=i) X Y->Kp x args Y)
  (h0:d [] w)
  (χ:∀b x args X,d b X->b++[x]<+:xs->lN x args X->w.1.size+2+k<=X.1.size->∀m,
   assign.wpIn (Fence.wide.inRound (w.1.size+1)) m P (Exit.then (λψ κ=>Below X.1.size X κ/\∀γ:E,Same (λi=>i≠w.1.size+1) κ γ->γ.1[w.1.size]?=G (.deferred (G []))->(∃o,γ.1[w.1.size+1]?=G (.loop o))->
     body.wpIn (Fence.wide.inRound (w.1.size+1)) m P (yA w.1.size D d y (Kp x args) (b++[x]) γ) ψ γ) (λ_ _ _=>False))
    {tmps:=(ps.zip args).foldl (λt (p,v)=>t.setIfInBounds p v) a.tmps,defers:=[]} X)
  (ω:∀X,d xs X->X.1[w.1.size]?=G (.deferred (G []))->Q .normal {a with defers:={target:= .collected w.1.size,args:=#[]}::a.defers} X)
  (Γ:∀c b X,b<+:xs->y c b X->X.1[w.1.size]?=G (.deferred (G []))->c.wpIn Fence.wide n P Q {a with defers:={target:= .collected w.1.size,args:=#[]}::a.defers} X):
  (Code.rangeFunc g ps assign body).wpIn Fence.wide n P Q a w:=by
 apply wpIn_rangeFunc
 intro fn q9;obtain⟨r,q⟩:∃r:Loop,r={state:= .ready,pending:=none,fn,tmps:=a.tmps,params:=ps,assign,body,defers:=w.1.size}:=⟨_,rfl⟩;obtain⟨f,δ⟩:∃f,(w.alloc (.deferred (G []))).alloc (.loop r)=f:=⟨_,rfl⟩;have Δ:f.1.size=w.1.size+2:=by rw[<-δ];simp
 have Θ:f.1[w.1.size+1]?=G (.loop r):=by
  rw[<-δ];have:=World.alloc_heap_new (w.alloc (.deferred (G []))) (.loop r);rwa[World.size_alloc] at this
 have Ξ:f.1[w.1.size]?=G (.deferred (G [])):=by
  rw[<-δ];exact(Below.heap_alloc _ _ _ ak).trans (World.alloc_heap_new w _)
 have μ:Below w.1.size w f:=by rw[<-δ];exact((I _ w).alloc (aC _) _).alloc ak _
 have Φ:d [] f:=hI _ _ _ h0 (.of_below μ (λi _ j=>j));refine⟨w.1.size+1,[{target:= .collected w.1.size,args:=#[]}],f,{target:= .fn (.func gf) lb,args:=#[.func (.yield (w.1.size+1)) #[] #[]]},f,gf,
  #[.func (.yield (w.1.size+1)) #[] #[]]++lb,f,?_,?_,λ_ _=>trivial,?_,λh=>(by cases h),?_⟩
 .rw[<-δ,q];exact run_enterLoop_outer _ _ _ _ _
 .simp only[resolve,hg]
  simp[go_sem]
 .simp[invoke,go_sem,eg]
 have ν:∀(s:U β)(X:E)(o:Obj),d s X->d s (X.putObj (w.1.size+1) o):=λs X o h=>hI s _ _ h (.putObj X o ah)
 have ζ:∀(c:Code)(s:U β)(X:E)(o:Obj),y c s X->y c s (X.putObj (w.1.size+1) o):=λc s X o h=>ι c s _ _ h (.putObj X o ah)
 refine(ρ f μ Δ (n - 1) (w.1.size+1)
  (λb X=>d b X/\X.1[w.1.size+1]?=G (.loop r)/\X.1[w.1.size]?=G (.deferred (G [])))
  (λb X=>∃c,y c b X/\X.1[w.1.size+1]?=G (.loop {r with state:= .done,pending:=some c})/\X.1[w.1.size]?=G (.deferred (G [])))
  ?_ ?_ (λs X h=>τ s X h.1) (λs X h=>(let⟨c,hc,_⟩:=h;υ c s X hc)) ?_ ⟨Φ,Θ,Ξ⟩).mono ?_
 .rintro s X Y ⟨h1,h2,h3⟩ F
  have e2:=(fH.1 h2).1;exact⟨hI s X Y h1 (F.mono (λi j z=>by omega)),(F.block _ ah e2).trans h2,(F.block _ ah ah).trans h3⟩
 .rintro s X Y ⟨c,h1,h2,h3⟩ F
  have e2:=(fH.1 h2).1;exact⟨c,ι c s X Y h1 (F.mono (λi j z=>by omega)),(F.block _ ah e2).trans h2,(F.block _ ah ah).trans h3⟩
 .rintro b x args X ⟨j,z,hk⟩ Ψ ξ j0 m
  have Ω:r.assign=assign:=by rw[q]
  have q0:r.body=body:=by rw[q]
  have ο:r.params=ps:=by rw[q]
  have q1:r.tmps=a.tmps:=by rw[q]
  have q2:r.state= .ready:=by rw[q]
  have j1:r.pending=none:=by rw[q]
  have q3:({r with state:= .ready,pending:=none}:Loop)=r:=by rw[q]
  apply Jk z q2 trivial (by rw[ο];exact σ x args X ξ)
  have hR:=χ b x args X j Ψ ξ ah m;rw[<-Ω,<-q0,<-ο,<-q1] at hR
  apply wpIn_mono hR
  rintro e a1 A hp
  cases e with
  |normal=>
   obtain⟨hb,q4⟩:=hp;have π:A.1[w.1.size+1]?=G (.loop r):=(hb.block _ ah).trans z;have q5:A.1[w.1.size]?=G (.deferred (G [])):=(hb.block _ ah).trans hk;have q6:=(fH.1 π).1;have T:(A.putObj (w.1.size+1) (.loop {r with state:= .busy})).1[w.1.size+1]?=G (.loop {r with state:= .busy}):=World.putObj_heap_same q6;have ε:(A.putObj (w.1.size+1) (.loop {r with state:= .busy})).1[w.1.size]?=G (.deferred (G [])):=(J ah).trans q5;refine⟨π,wpIn_mono (q4 _ (.putObj A _ ah) ε ⟨_,T⟩) ?_⟩;rintro e a3 Z hq;have η:∀o,Z.1[w.1.size+1]?=(A.putObj (w.1.size+1) (.loop {r with state:= .busy})).1[w.1.size+1]?->(Z.putObj (w.1.size+1) o).1[w.1.size+1]?=G o:=λo h=>
    World.putObj_heap_same ((fH.1 (h.trans T)).1)
   have θ:∀o,bM D (A.putObj (w.1.size+1) (.loop {r with state:= .busy})) Z->bM D X (Z.putObj (w.1.size+1) o):=λo u=>
    (bM.of_below hb (λi _ j=>j)).trans (((bM.putObj A _ hD).trans u).trans (bM.putObj Z _ hD))
   cases e with
   |normal=>
    obtain⟨⟨K,l⟩,u,S,q7⟩:=hq;refine⟨l.trans T,.inl ⟨rfl,⟨ν _ _ _ S,(η _ l).trans (by rw[q3]),(J ah).trans (K.trans ε)⟩,θ _ u,φ _ _ _ _ q7 (.putObj Z _ ah)⟩⟩
   |ret=>
    obtain⟨⟨K,l⟩,u,S⟩:=hq;exact⟨l.trans T,.inr ⟨rfl,⟨.ret,ζ _ _ _ _ S,η _ l,(J ah).trans (K.trans ε)⟩,θ _ u⟩⟩
   |exit id=>
    obtain⟨⟨K,l⟩,u,S⟩:=hq;exact⟨l.trans T,.inr ⟨rfl,⟨.exit id,ζ _ _ _ _ S,η _ l,(J ah).trans (K.trans ε)⟩,θ _ u⟩⟩
   |goto t=>
    obtain⟨⟨K,l⟩,u,S⟩:=hq;exact⟨l.trans T,.inr ⟨rfl,⟨.goto t,ζ _ _ _ _ S,η _ l,(J ah).trans (K.trans ε)⟩,θ _ u⟩⟩
   |panic _=>exact hq.elim
   |outgrown=>exact hq.elim
  |_=>exact hp.elim
 .rintro e X2 ⟨v,rfl,(⟨j,z,hk⟩|⟨b,q8,c,j,z,hk⟩)⟩
  .exact⟨none,_,by have:=run_endLoop (P:=P) z (by rw[q];simp);rwa[q] at this,ω _ (ν _ _ _ j) ((J ah).trans hk)⟩
  .exact⟨G c,_,run_endLoop (P:=P) z ak,Γ c b _ q8 (ζ _ _ _ _ j) ((J ah).trans hk)⟩
theorem Iter.Tj {β:Type}{lN:β->Array V->E->Prop}{k:M}{xs:U β}(h:Iter P gf lb lN k D xs X):Cc P gf lb lN k D (λ_=>True) (λ_ _ _=>True) xs X:=
 λn l e f g i _ _ j o=>h n l e f g i (λp x r s a b c d m=>(j p x r s a b c d m).mono (λ_ _ q=>q.imp (λq=>⟨q.1,q.2.1,q.2.2.1⟩) id)) o
theorem Hw {β:Type}{b:U β->E->Prop}{d:Code->U β->E->Prop}{xs:U β}{e:Exit}{a:Act}(h:yx l D b d xs X e a Y):yA l D b d (λ_=>True) xs X e a Y:=by
 cases e <;> first|exact⟨h.1,h.2.1,h.2.2,trivial⟩|exact h
theorem yC {F:Fence}{m:M}{c b:Code}{a:Act}{S:E->E->Prop}{l o:E->Prop}{i j:E->Exit->Act->E->Prop}
  (h:c.wpIn F m P (Exit.then (λg f=>Below X.1.size X f/\∀d:E,S f d->b.wpIn F m P (i d) g d) (λ_ _ _=>False)) a X) (p:∀Z e a Y,i Z e a Y->j Z e a Y):
  c.wpIn F m P (Exit.then (λg f=>Below X.1.size X f/\∀d:E,S f d->l d->o d->b.wpIn F m P (j d) g d) (λ_ _ _=>False)) a X:=
 wpIn_mono h λe g f q=>by
  cases e <;> first|exact⟨q.1,λd s _ _=>wpIn_mono (q.2 d s) (λ_ _ _ h=>p _ _ _ _ h)⟩|exact q
theorem DX {g:Operand}{j:Array Tmp}{o q:Code}{Q:Exit->Act->E->Prop}{a:Act}{w:E}{n:M}
    (u:a.eval g= .func (.func gf) #[] lb) (y:∀args w,(callFunc gf args).run P w= .ok (.enter gf args) w)
  {lN:β->Array V->E->Prop} {k:M}  {xs:U β}
  (z:∀W,Below w.1.size w W->W.1.size=w.1.size+2->Iter P gf lb lN k D xs W)
  (A:¬D (w.1.size+1)) (F:∀x args X,lN x args X->args.size=j.size)
  (f:U β->E->Prop) (h:Code->U β->E->Prop)
  (K:∀s X Y,f s X->Same (λi=>i<w.1.size\/w.1.size+2+k<=i) X Y->f s Y)
  (R:∀c s X Y,h c s X->Same (λi=>i<w.1.size\/w.1.size+2+k<=i) X Y->h c s Y)
  (S:f [] w)
  (T:∀e x args X,f e X->e++[x]<+:xs->lN x args X->w.1.size+2+k<=X.1.size->∀m,
   o.wpIn (Fence.wide.inRound (w.1.size+1)) m P (Exit.then (λZ r=>Below X.1.size X r/\∀l:E,Same (λi=>i≠w.1.size+1) r l->
     q.wpIn (Fence.wide.inRound (w.1.size+1)) m P (yx w.1.size D f h (e++[x]) l) Z l) (λ_ _ _=>False))
    {tmps:=(j.zip args).foldl (λt (p,v)=>t.setIfInBounds p v) a.tmps,defers:=[]} X)
  (γ:∀X,f xs X->X.1[w.1.size]?=G (.deferred (G []))->Q .normal {a with defers:={target:= .collected w.1.size,args:=#[]}::a.defers} X)
  (δ:∀c e X,e<+:xs->h c e X->X.1[w.1.size]?=G (.deferred (G []))->c.wpIn Fence.wide n P Q {a with defers:={target:= .collected w.1.size,args:=#[]}::a.defers} X):
  (Code.rangeFunc g j o q).wpIn Fence.wide n P Q a w:=
 yB u y (λW h1 h2=>(z W h1 h2).Tj) A F f h K R (λ_ _ _=>trivial) (λ_ _ _ _=>trivial) (λ_ _ _ _ _ _=>trivial) S (λe x args X a b c d m=>yC (T e x args X a b c d m) (λ_ _ _ _=>Hw)) γ δ
def eu (r:Int):Bool:=decide (48<=r) && decide (r<=57)
theorem kT (r:Int)(w:E):Calls L 108 #[.int .i32 r] w (bT (O (eu r)) w):=by
 by_cases d:48<=r
 .by_cases e:r<=57
  .have b:eu r=true:=by simp[eu,d,e]
   rw[b];go_enter func108,ntmps108
   go_wp2
   go_ret;exact⟨rfl,I _ _⟩
  .have b:eu r=N:=by simp[eu,e]
   rw[b];go_enter func108,ntmps108
   go_wp2
   go_ret;exact⟨rfl,I _ _⟩
 .have b:eu r=N:=by simp[eu,d]
  rw[b];go_enter func108,ntmps108
  go_wp2
  go_ret;exact⟨rfl,I _ _⟩
def fF (r:Int):Bool:=decide (r=95)||(decide (97<=r) && decide (r<=122))||(decide (65<=r) && decide (r<=90))||decide (128<=r)
theorem Nj (r:Int)(w:E)(b:r=95)(_h1:¬97<=r)(_h2:r<=122)(_h3:65<=r)(_h4:¬r<=90)(_h5:¬128<=r):Calls L 163 #[.int .i32 r] w (bT (O true) w):=by
 skip;go_enter func163,ntmps163
 go_wp2
 go_ret;exact⟨rfl,I _ _⟩
theorem Nk (r:Int)(w:E)(b:¬r=95)(d:97<=r)(e:r<=122)(_h3:65<=r)(_h4:¬r<=90)(_h5:¬128<=r):Calls L 163 #[.int .i32 r] w (bT (O true) w):=by
 have f:(r==95)=N:=aN.2 b;go_enter func163,ntmps163
 go_wp2
 go_ret;exact⟨rfl,I _ _⟩
theorem Nl (r:Int)(w:E)(b:¬r=95)(d:97<=r)(e:¬r<=122)(f:65<=r)(g:¬r<=90)(h:¬128<=r):Calls L 163 #[.int .i32 r] w (bT (O N) w):=by
 have i:(r==95)=N:=aN.2 b;go_enter func163,ntmps163
 go_wp2
 go_ret;exact⟨rfl,I _ _⟩
theorem Nn (r:Int)(w:E)(b:¬r=95)(d:97<=r)(e:¬r<=122)(f:65<=r)(g:¬r<=90)(h:128<=r):Calls L 163 #[.int .i32 r] w (bT (O true) w):=by
 have i:(r==95)=N:=aN.2 b;go_enter func163,ntmps163
 go_wp2
 go_ret;exact⟨rfl,I _ _⟩
theorem Np (r:Int)(w:E)(b:¬r=95)(d:¬97<=r)(_h2:r<=122)(e:65<=r)(f:r<=90)(_h5:¬128<=r):Calls L 163 #[.int .i32 r] w (bT (O true) w):=by
 have g:(r==95)=N:=aN.2 b;go_enter func163,ntmps163
 go_wp2
 go_ret;exact⟨rfl,I _ _⟩
theorem Nq (r:Int)(w:E)(b:¬r=95)(d:¬97<=r)(_h2:r<=122)(e:65<=r)(f:¬r<=90)(g:¬128<=r):Calls L 163 #[.int .i32 r] w (bT (O N) w):=by
 have h:(r==95)=N:=aN.2 b;go_enter func163,ntmps163
 go_wp2
 go_ret;exact⟨rfl,I _ _⟩
theorem Nr (r:Int)(w:E)(b:¬r=95)(d:¬97<=r)(_h2:r<=122)(e:¬65<=r)(_h4:r<=90)(f:¬128<=r):Calls L 163 #[.int .i32 r] w (bT (O N) w):=by
 have g:(r==95)=N:=aN.2 b;go_enter func163,ntmps163
 go_wp2
 go_ret;exact⟨rfl,I _ _⟩
theorem Jl (r:Int)(w:E):Calls L 163 #[.int .i32 r] w (bT (O (fF r)) w):=by
 by_cases d:r=95
 .have b:fF r=true:=by simp[fF,d]
  rw[b];exact Nj r w d ah ah ah ah ah
 by_cases e:97<=r
 .by_cases f:r<=122
  .have b:fF r=true:=by simp[fF,e,f]
   rw[b];exact Nk r w d e f ah ah ah
  .by_cases h:128<=r
   .have b:fF r=true:=by simp[fF,h]
    rw[b];exact Nn r w d e f ah ah h
   .have b:fF r=N:=by simp[fF];omega
    rw[b];exact Nl r w d e f ah ah h
 .by_cases g:65<=r
  .by_cases i:r<=90
   .have b:fF r=true:=by simp[fF,g,i]
    rw[b];exact Np r w d e ah g i ah
   .have b:fF r=N:=by simp[fF];omega
    rw[b];exact Nq r w d e ah g i ah
  .have b:fF r=N:=by simp[fF];omega
   rw[b];exact Nr r w d e ah g ah ah
def iA (r:Int):Bool:=fF r||eu r
theorem yD (r:Int)(w:E):Calls L 111 #[.int .i32 r] w (bT (O (iA r)) w):=by
 cases f:fF r
 all_goals
  have b:=hid f;go_enter func111,ntmps111;go_wp2_with fail;refine(Jl r w).mono ?_;rintro e g ⟨rfl,h⟩;rw[b.q];have d:=hid h;go_wp2_with fail
 .refine(kT r g).mono ?_
  rintro e j ⟨rfl,i⟩
  go_wp2
  go_ret;exact⟨by simp[iA,b.q],d.trans (i.mono d.size)⟩
 .go_ret
  exact⟨by simp[iA,b.q],d.q⟩
def Bo {b:Type}(F:M)(val:b->V):Prop:=∀(x:b)(f:M)(e:Array V)(p:b->Bool)(g:M)(W:E),W.cell? ⟨g,0,none⟩=G (.func (.func f) #[] e)->
  (∀h w,(callFunc f h).run L w= .ok (.enter f h) w)->(∀d,Below W.1.size W d->Calls L f (#[val x]++e) d (bT (O (p x)) d))->Calls L F #[val x,.pointer (G ⟨g,0,none⟩)] W (bT (O (!p x)) W)
def Dk {b:Type}(F k:M)(h:b->U V)(val:b->V):Prop:=∀(a:Option Addr)(n c f:M)(e:Array V)(d:U b)(p:b->Bool)(w:E),Row w k h a n c d->
  (∀g w,(callFunc f g).run L w= .ok (.enter f g) w)->E5 L f e val p d w->Calls L F #[.slice a n c,.func (.func f) #[] e] w (bT (O (d.all p)) w)
theorem sQ {β:Type}{F:M}{val:β->V}(e:Bo F val){f:M}{g:Array V}{p:β->Bool}{cs:U β}{w:E}(T:TypeId)(h:∀d w,(callFunc f d).run L w= .ok (.enter f d) w)
  (i:E5 L f g val p cs w):E5 L F #[.pointer (G ⟨w.1.size,0,none⟩)] val (λx=>!p x) cs (w.alloc (.cells #[.func (.func f) #[] g] T)):=λx j W b=>
 e x f g p w.1.size W (by rw[b.cell (p:=⟨w.1.size,0,none⟩) ak];simp) h
  (λl m=>i x j l (((I _ _).alloc (aC _) _).trans ((b.mono ak).trans (m.mono (by have:=b.size;simp at this;omega)))))
theorem uX (cs:U β)(p:β->Bool):cs.all p=!cs.any (λx=>!p x):=by simp[List.any_eq_not_all_not]
theorem Dl {p:Prop}(h:p:=by
 go_wp2_with fail
 first|refine(H.q _ ((I _ _).alloc (aC _) _)).mono ?_|refine(H.q _ (I _ _)).mono ?_
 rintro e w1 ⟨rfl,hb1⟩;go_wp2_with fail;go_ret
 first|exact⟨rfl,hb1⟩|exact⟨rfl,((I _ _).alloc (aC _) _).trans (hb1.mono ak)⟩):p:=h
theorem Tk:Bo 167 BX:=λx f h p d W g i b=>by
 have H:=hid b;clear b;have j:d<W.1.size:=iw g;go_enter func167,ntmps167;exact Dl
theorem Tm:Dk 124 1 aQ BX:=λa n c f h i p w d j g=>by
 have b:=(I w.1.size w).alloc (aC _) (.cells #[.func (.func f) #[] h] 139);have l:=hid (Qt a n c 167 #[.pointer (G ⟨w.1.size,0,none⟩)] i (λx=>!p x) _ (d.below b rfl) call167 (sQ Tk _ j g));have m:=hid b;clear b g d;go_enter func124,ntmps124
 go_wp2_with (go_at_call 166;refine l.q.mono ?_;rintro e q ⟨rfl,o⟩)
 go_ret;exact⟨by rw[uX];rfl,m.q.trans (o.mono ak)⟩
theorem VL:Bo 169 gQ:=λx f h p d W g i b=>by
 have H:=hid b;clear b;have j:d<W.1.size:=iw g;go_enter func169,ntmps169;exact Dl
theorem VN:Dk 127 9 dK gQ:=λa n c f h i p w d j g=>by
 have b:=(I w.1.size w).alloc (aC _) (.cells #[.func (.func f) #[] h] 180);have l:=hid (Td a n c 169 #[.pointer (G ⟨w.1.size,0,none⟩)] i (λx=>!p x) _ (d.below b rfl) call169 (sQ VL _ j g));have m:=hid b;clear b g d;go_enter func127,ntmps127
 go_wp2_with (go_at_call 168;refine l.q.mono ?_;rintro e q ⟨rfl,o⟩)
 go_ret;exact⟨by rw[uX];rfl,m.q.trans (o.mono ak)⟩
theorem VO:Bo 181 BZ:=λx f h p d W g i b=>by
 have H:=hid b;clear b;have j:d<W.1.size:=iw g;go_enter func181,ntmps181;exact Dl
theorem VP:Dk 130 2 dU BZ:=λa n c f h i p w d j g=>by
 have b:=(I w.1.size w).alloc (aC _) (.cells #[.func (.func f) #[] h] 182);have l:=hid (Te a n c 181 #[.pointer (G ⟨w.1.size,0,none⟩)] i (λx=>!p x) _ (d.below b rfl) call181 (sQ VO _ j g));have m:=hid b;clear b g d;go_enter func130,ntmps130
 go_wp2_with (go_at_call 180;refine l.q.mono ?_;rintro e q ⟨rfl,o⟩)
 go_ret;exact⟨by rw[uX];rfl,m.q.trans (o.mono ak)⟩
theorem VQ:Bo 183 Ca:=λx f h p d W g i b=>by
 have H:=hid b;clear b;have j:d<W.1.size:=iw g;go_enter func183,ntmps183;exact Dl
theorem VR:Dk 132 4 dV Ca:=λa n c f h i p w d j g=>by
 have b:=(I w.1.size w).alloc (aC _) (.cells #[.func (.func f) #[] h] 184);have l:=hid (Tf a n c 183 #[.pointer (G ⟨w.1.size,0,none⟩)] i (λx=>!p x) _ (d.below b rfl) call183 (sQ VQ _ j g));have m:=hid b;clear b g d;go_enter func132,ntmps132
 go_wp2_with (go_at_call 182;refine l.q.mono ?_;rintro e q ⟨rfl,o⟩)
 go_ret;exact⟨by rw[uX];rfl,m.q.trans (o.mono ak)⟩
theorem VU:Bo 185 wD:=λx f h p d W g i b=>by
 have H:=hid b;clear b;have j:d<W.1.size:=iw g;go_enter func185,ntmps185;exact Dl
theorem VW:Dk 134 2 eY wD:=λa n c f h i p w d j g=>by
 have b:=(I w.1.size w).alloc (aC _) (.cells #[.func (.func f) #[] h] 186);have l:=hid (Tg a n c 185 #[.pointer (G ⟨w.1.size,0,none⟩)] i (λx=>!p x) _ (d.below b rfl) call185 (sQ VU _ j g));have m:=hid b;clear b g d;go_enter func134,ntmps134
 go_wp2_with (go_at_call 184;refine l.q.mono ?_;rintro e q ⟨rfl,o⟩)
 go_ret;exact⟨by rw[uX];rfl,m.q.trans (o.mono ak)⟩
theorem VX:Bo 201 wC:=λx f h p d W g i b=>by
 have H:=hid b;clear b;have j:d<W.1.size:=iw g;go_enter func201,ntmps201;exact Dl
theorem VD:Dk 176 3 bI wC:=λa n c f h i p w d j g=>by
 have b:=(I w.1.size w).alloc (aC _) (.cells #[.func (.func f) #[] h] 230);have l:=hid (Ti a n c 201 #[.pointer (G ⟨w.1.size,0,none⟩)] i (λx=>!p x) _ (d.below b rfl) call201 (sQ VX _ j g));have m:=hid b;clear b g d;go_enter func176,ntmps176
 go_wp2_with (go_at_call 200;refine l.q.mono ?_;rintro e q ⟨rfl,o⟩)
 go_ret;exact⟨by rw[uX];rfl,m.q.trans (o.mono ak)⟩
theorem VY (a q:Option Addr)(n c g c':M)(xs d:U Int)(w:E)(r:Row w 1 aQ a n c xs)(s:Row w 1 aQ q g c' d):
  Calls L 8 #[.slice a n c,.slice q g c'] w (bT (O (decide (xs=d))) w):=by
 have hn:=r.le;have β:=s.le;have j:=hid r;have l:=hid s;by_cases t:n=g
 .subst t
  go_enter Tryz.func8,Tryz.ntmps8
  go_wp2
  go_loopw [13] (λi wr=>∃k:M,k<=n/\i= .int .i64 k/\xs.take k=d.take k/\Below w.1.size w wr) (λi _=>n - (RowKit.intOf i).toNat)
  case atStart=>exact⟨0,aS _,rfl,rfl,I _ _⟩
  case round=>
   obtain⟨k,hk,rfl,P,f⟩:=hrel;have u:=hid P;by_cases z:k<n
   .have γ:(0:Int)<=(k:Int):=by omega
    have δ:(k:Int)<(n:Int):=by omega
    obtain⟨x,b,o,Q,rfl,R⟩:=j.at_ z;obtain⟨y,b',o',S,rfl,T⟩:=l.at_ z;have W:=aZ f rfl (R 0 _ rfl);simp only[gP,bK] at W;have X:=aZ f rfl (T 0 _ rfl);simp only[gP,bK] at X;have A:=hid Q;have F:=hid S;by_cases m:x=y
    .subst m
     go_wp2
     go_quiet (fail)
     go_wp2
     refine⟨⟨k+1,by omega,by go_num,?_,dm f _⟩,by simp[RowKit.intOf];omega⟩;rw[eD,eD,u.q,A.q,F.q]
    .have ht:(x==y)=N:=by simpa using m
     have Y:=hid m
     go_wp2
     go_quiet (fail)
     go_wp2
     go_ret;refine⟨?_,dm f _⟩;have p:xs≠d:=λe=>Y (by have K:=A;have Z:=F;rw[e,Z] at K;exact(qQ K).symm)
     rw[bn p];rfl
   .have ε:k=n:=by omega
    go_wp2
    go_ret;refine⟨?_,f⟩;have e:xs=d:=by
     have h:=u
     rwa[eF (by rw[j.q.len];omega),eF (by rw[l.q.len];omega)] at h
    rw[bG e];rfl
 .have p:xs≠d:=λe=>t (by rw[<-j.q.len,<-l.q.len,e])
  have ζ:((n:Int)==(g:Int))=N:=aN.2 ah;have HN:=hid p;go_enter Tryz.func8,Tryz.ntmps8
  go_wp2
  go_ret;refine⟨?_,I _ _⟩;rw[bn HN.q];rfl
theorem VZ (a q:Option Addr)(n c g c':M)(xs d:U Bs)(w:E)(r:Row w 1 encStr a n c xs)(s:Row w 1 encStr q g c' d):
  Calls L 14 #[.slice a n c,.slice q g c'] w (bT (O (decide (xs=d))) w):=by
 have hn:=r.le;have β:=s.le;have j:=hid r;have l:=hid s;by_cases t:n=g
 .subst t
  go_enter Tryz.func14,Tryz.ntmps14
  go_wp2
  go_loopw [13] (λi wr=>∃k:M,k<=n/\i= .int .i64 k/\xs.take k=d.take k/\Below w.1.size w wr) (λi _=>n - (RowKit.intOf i).toNat)
  case atStart=>exact⟨0,aS _,rfl,rfl,I _ _⟩
  case round=>
   obtain⟨k,hk,rfl,P,f⟩:=hrel;have u:=hid P;by_cases z:k<n
   .have γ:(0:Int)<=(k:Int):=by omega
    have δ:(k:Int)<(n:Int):=by omega
    obtain⟨x,b,o,Q,rfl,R⟩:=j.at_ z;obtain⟨y,b',o',S,rfl,T⟩:=l.at_ z;have W:=aZ f rfl (R 0 _ rfl);simp only[gP,bK] at W;have X:=aZ f rfl (T 0 _ rfl);simp only[gP,bK] at X;have A:=hid Q;have F:=hid S;by_cases m:x=y
    .subst m
     go_wp2
     go_quiet (fail)
     go_wp2
     refine⟨⟨k+1,by omega,by go_num,?_,dm f _⟩,by simp[RowKit.intOf];omega⟩;rw[eD,eD,u.q,A.q,F.q]
    .have ht:(x==y)=N:=by simpa using m
     have Y:=hid m
     go_wp2
     go_quiet (fail)
     go_wp2
     go_ret;refine⟨?_,dm f _⟩;have p:xs≠d:=λe=>Y (by have K:=A;have Z:=F;rw[e,Z] at K;exact(qQ K).symm)
     rw[bn p];rfl
   .have ε:k=n:=by omega
    go_wp2
    go_ret;refine⟨?_,f⟩;have e:xs=d:=by
     have h:=u
     rwa[eF (by rw[j.q.len];omega),eF (by rw[l.q.len];omega)] at h
    rw[bG e];rfl
 .have p:xs≠d:=λe=>t (by rw[<-j.q.len,<-l.q.len,e])
  have ζ:((n:Int)==(g:Int))=N:=aN.2 ah;have HN:=hid p;go_enter Tryz.func14,Tryz.ntmps14
  go_wp2
  go_ret;refine⟨?_,I _ _⟩;rw[bn HN.q];rfl
theorem Xu (a t:Option Addr)(n c g c':M)(xs f:U Sn)(w:E)(u:Row w 3 bI a n c xs)(z:Row w 3 bI t g c' f):
  Calls L 202 #[.slice a n c,.slice t g c'] w (bT (O (decide (xs=f))) w):=by
 have hn:=u.le;have β:=z.le;have j:=hid u;have l:=hid z;by_cases A:n=g
 .subst A
  go_enter func202,ntmps202
  go_wp2
  go_loopw [13] (λi wr=>∃k:M,k<=n/\i= .int .i64 k/\xs.take k=f.take k/\Below w.1.size w wr) (λi _=>n - (RowKit.intOf i).toNat)
  case atStart=>exact⟨0,aS _,rfl,rfl,I _ _⟩
  case round=>
   obtain⟨k,hk,rfl,S,d⟩:=hrel;have F:=hid S;by_cases K:k<n
   .have γ:(0:Int)<=(k:Int):=by omega
    have δ:(k:Int)<(n:Int):=by omega
    obtain⟨x,b,o,T,rfl,m⟩:=j.at_ K;obtain⟨y,b',o',W,rfl,p⟩:=l.at_ K;have X:=aZ d rfl (m 0 _ rfl);have q:=aZ d rfl (m 1 _ rfl);have P:=aZ d rfl (m 2 _ rfl);simp only[bK] at X;have Y:=aZ d rfl (p 0 _ rfl);have ε:=aZ d rfl (p 1 _ rfl);have ζ:=aZ d rfl (p 2 _ rfl);simp only[bK] at Y;have Q:=hid T;have R:=hid W;by_cases r:x=y
    .subst r
     go_wp2
     go_quiet (fail)
     go_wp2
     refine⟨⟨k+1,by omega,by go_num,?_,dm d _⟩,by simp[RowKit.intOf];omega⟩;rw[eD,eD,F.q,Q.q,R.q]
    .have Z:=KH x y;rw[bn r] at Z
     have HE:=hid r
     go_wp2
     go_quiet (fail)
     go_wp2
     go_ret;refine⟨?_,dm d _⟩;have s:xs≠f:=λe=>HE (by have q:=Q;have P:=R;rw[e,P] at q;exact(qQ q).symm)
     rw[bn s];rfl
   .have η:k=n:=by omega
    go_wp2
    go_ret;refine⟨?_,d⟩;have e:xs=f:=by
     have h:=F
     rwa[eF (by rw[j.q.len];omega),eF (by rw[l.q.len];omega)] at h
    rw[bG e];rfl
 .have s:xs≠f:=λe=>A (by rw[<-j.q.len,<-l.q.len,e])
  have θ:((n:Int)==(g:Int))=N:=aN.2 ah;have HN:=hid s;go_enter func202,ntmps202
  go_wp2
  go_ret;refine⟨?_,I _ _⟩;rw[bn HN.q];rfl
theorem mR {T:TypeId}{k R:M}(h:(P.info? T).map (λi=>(i.zero.map (·.cells.size),i.size,i.bytes))=G (G k,k,R)):
  ∃i z,P.info? T=G i/\i.zero=G z/\i.size=k/\i.bytes=R/\z.cells.size=k:=by
 cases e:P.info? T with
 |none=>rw[e] at h;cases h
 |some i=>
  rw[e] at h;simp only[Option.map_some,Option.some.injEq,Prod.mk.injEq] at h;obtain⟨b,f,g⟩:=h
  cases d:i.zero with
  |none=>rw[d] at b;cases b
  |some z=>rw[d] at b;exact⟨i,z,rfl,d,f,g,by simpa using b⟩
theorem Tn:(Tryz.prog.info? 50).map (λi=>(i.zero.map (·.cells.size),i.size,i.bytes))=G (G 9,9,88):=au
theorem Al:∃i z,Tryz.prog.info? 50=G i/\i.zero=G z/\i.size=9/\i.bytes=88/\z.cells.size=9:=mR Tn
theorem Tp:(Tryz.prog.info? 61).map (λi=>(i.zero.map (·.cells.size),i.size,i.bytes))=G (G 2,2,24):=au
theorem Dj:∃i z,Tryz.prog.info? 61=G i/\i.zero=G z/\i.size=2/\i.bytes=24/\z.cells.size=2:=mR Tp
theorem Qu:(Tryz.prog.info? 9).map (λi=>(i.zero.map (·.cells.size),i.size,i.bytes))=G (G 1,1,16):=au
theorem mQ:∃i z,Tryz.prog.info? 9=G i/\i.zero=G z/\i.size=1/\i.bytes=16/\z.cells.size=1:=mR Qu
theorem Qv:(Tryz.prog.info? 3).map (λi=>(i.zero.map (·.cells.size),i.size,i.bytes))=G (G 1,1,8):=au
theorem qZ:∃i z,Tryz.prog.info? 3=G i/\i.zero=G z/\i.size=1/\i.bytes=8/\z.cells.size=1:=mR Qv
theorem Tq:(Tryz.prog.info? 65).map (λi=>(i.zero.map (·.cells.size),i.size,i.bytes))=G (G 2,2,32):=au
theorem Am:∃i z,Tryz.prog.info? 65=G i/\i.zero=G z/\i.size=2/\i.bytes=32/\z.cells.size=2:=mR Tq
theorem Tt:(Tryz.prog.info? 67).map (λi=>(i.zero.map (·.cells.size),i.size,i.bytes))=G (G 4,4,48):=au
theorem Ao:∃i z,Tryz.prog.info? 67=G i/\i.zero=G z/\i.size=4/\i.bytes=48/\z.cells.size=4:=mR Tt
theorem Tv:(Tryz.prog.info? 69).map (λi=>(i.zero.map (·.cells.size),i.size,i.bytes))=G (G 2,2,16):=au
theorem Ap:∃i z,Tryz.prog.info? 69=G i/\i.zero=G z/\i.size=2/\i.bytes=16/\z.cells.size=2:=mR Tv
theorem Tw:(Tryz.prog.info? 148).map (λi=>(i.zero.map (·.cells.size),i.size,i.bytes))=G (G 3,3,24):=au
theorem Ag:∃i z,Tryz.prog.info? 148=G i/\i.zero=G z/\i.size=3/\i.bytes=24/\z.cells.size=3:=mR Tw
theorem Tx:(Tryz.prog.info? 34).map (λi=>(i.zero.map (·.cells.size),i.size,i.bytes))=G (G 6,6,80):=au
theorem Hg:∃i z,Tryz.prog.info? 34=G i/\i.zero=G z/\i.size=6/\i.bytes=80/\z.cells.size=6:=mR Tx
end Yd
namespace Yd
open Option renaming some->G
open Go Go.RowKit
open Go renaming Value->M,World->O,TypeId->U
open Go.Value renaming slice->I
open Value renaming slice->L
open _root_ renaming List->C,Nat->H,Int->J
theorem nR (w:O)(o:Obj):(w.alloc o).1[w.1.size]?=G o:=by
 show(w.1.push o)[w.1.size]?=G o;simp
def Own {b:Type}(w:O)(B:H)(d:U)(k:H)(enc:b->C M)(v:M)(xs:C b):Prop:=
 w.ownsRow B d k v xs.length (xs.flatMap enc)
class Cells {b:Type} (enc:b->C M) (k:H):Prop where
 len:∀x,(enc x).length=k
 pos:0<k
 one:∀x,∀u∈enc x,u.oneCell'=true
instance fA:Cells aQ 1:=⟨λ_=>rfl,by decide,λx u h=>by simp[aQ] at h;subst h;rfl⟩
instance gy:Cells encStr 1:=⟨λ_=>rfl,by decide,λx u h=>by simp[encStr] at h;subst h;rfl⟩
instance lK:Cells bI 3:=⟨λ_=>rfl,by decide,λx u h=>by simp[bI] at h;rcases h with rfl|rfl|rfl <;> rfl⟩
instance qH:Cells eY 2:=⟨λ_=>rfl,by decide,λx u h=>by simp[eY] at h;rcases h with rfl|rfl <;> rfl⟩
instance Ce:Cells pG 2:=⟨λ_=>rfl,by decide,λx u h=>by simp[pG] at h;rcases h with rfl|rfl <;> rfl⟩
instance pX:Cells dU 2:=⟨λ_=>rfl,by decide,λx u h=>by simp[dU] at h;rcases h with rfl|rfl <;> rfl⟩
instance nG:Cells dV 4:=⟨λ_=>rfl,by decide,λx u h=>by simp[dV] at h;rcases h with rfl|rfl|rfl|rfl <;> rfl⟩
instance Cg:Cells mZ 6:=⟨λ_=>rfl,by decide,λx u h=>by simp[mZ] at h;rcases h with rfl|rfl|rfl|rfl|rfl|rfl <;> rfl⟩
instance oG:Cells dK 9:=⟨λ_=>rfl,by decide,λx u h=>by simp[dK] at h;rcases h with rfl|rfl|rfl|rfl|rfl|rfl|rfl|rfl|rfl <;> rfl⟩
section
variable {α:Type}{enc:α->C M}{k:H}
theorem sS [hc:Cells enc k](xs:C α):(xs.flatMap enc).length=xs.length*k:=by
 induction xs with
 |nil=>simp
 |cons x xs b=>simp[og,b,hc.len x,Nat.add_mul,Nat.add_comm]
theorem flat_get [hc:Cells enc k](xs:C α):∀(i:H)(x:α)(j:H)(v:M),xs[i]?=G x->(enc x)[j]?=G v->(xs.flatMap enc)[i*k+j]?=G v:=by
 induction xs with
 |nil=>grind
 |cons y d e=>
  intro i x j v f b;have g:j<k:=by
   have:=(bq.1 b).1;rw[hc.len x] at this;exact this
  rw[og]
  cases i with
  |zero=>
   grind
  |succ i=>
   rw[su (by rw[hc.len y,Nat.succ_mul];omega),hc.len y,show(i+1)*k+j - k=i*k+j by rw[Nat.succ_mul];omega]
   grind
theorem Ns [hc:Cells enc k](xs:C α):∀(q:H)(v:M),(xs.flatMap enc)[q]?=G v->∃i x j,xs[i]?=G x/\(enc x)[j]?=G v/\q=i*k+j:=by
 induction xs with
 |nil=>grind
 |cons y g d=>
  intro q v h;rw[og] at h;rcases jk q k with b|b
  .rw[uM (by rw[hc.len y];exact b)] at h
   exact⟨0,y,q,rfl,h,by omega⟩
  .rw[su (by rw[hc.len y];exact b),hc.len y] at h
   obtain⟨i,x,j,e,f,l⟩:=d _ _ h;exact⟨i+1,x,j,by simpa using e,f,by rw[Nat.succ_mul];omega⟩
theorem Nt [hc:Cells enc k](xs:C α):∀u∈xs.flatMap enc,u.oneCell'=true:=by
 intro u b;obtain⟨x,_,h⟩:=kU.1 b;exact hc.one x u h
variable {w w':O}{B:H}{E:U}{v:M}{xs:C α}
theorem Own.eH (w:O)(B:H)(b:U)(k:H)(enc:α->C M):Own w B b k enc (I none 0 0) []:=World.ownsRow_nil w B b k
theorem Own.shape (h:Own w B E k enc v xs):∃a c,v= I a xs.length c/\(a=none->c=0)/\xs.length<=c:=by
 rcases h.2 with⟨rfl,b⟩|⟨g,d,f,rfl,_,_,e,_⟩
 .exact⟨none,0,by rw[b],λ_=>rfl,by omega⟩
 .exact⟨_,d,rfl,(λh=>by cases h),e⟩
theorem Own.row [hc:Cells enc k]{a:Option Addr}{n c:H}(h:Own w B E k enc (I a n c) xs)(e:xs.length<=140737488355328):Row w k enc a n c xs:=by
 obtain⟨f,l⟩:=h;rcases l with⟨b,y⟩|⟨g,z,A,b,_,F,m,_,K,o⟩
 .grind [Row.eH]
 .injection b with p q r
  subst p q r;refine⟨rfl,m,e,(λh=>by cases h),λi x s=>⟨g,0,rfl,λj v t=>?_⟩⟩;have d:=flat_get (hc:=hc) xs i x j v s t;have u:i*k+j<xs.length*k:=by rw[<-f];exact(bq.1 d).1
  rw[<-o,Cb,aA u] at d;simp only[bQ];unfold World.cell?
  grind
theorem Own.lt (h:Own w B E k enc v xs):∀g,v.ownBlock=G g->B<=g/\g<w.1.size:=World.ownsRow.lt h
theorem Own.alloc (h:Own w B E k enc v xs)(o:Obj):Own (w.alloc o) B E k enc v xs:=World.ownsRow.alloc h o
theorem Own.drew (h:Own w B E k enc v xs):Own w.drew B E k enc v xs:=h
theorem Own.block (h:Own w B E k enc v xs)(d:∀g,v.ownBlock=G g->w'.1[g]?=w.1[g]?):Own w' B E k enc v xs:=by
 obtain⟨e,b⟩:=h;refine⟨e,?_⟩;rcases b with b|⟨g,f,i,rfl,j,l,r⟩
 .grind
 .exact .inr ⟨g,f,i,rfl,j,by rw[d g rfl];exact l,r⟩
theorem Own.below {D:H}(h:Own w B E k enc v xs)(b:Below D w w')(d:D=w.1.size):Own w' B E k enc v xs:=
 h.block λg e=>b.block g (by rw[d];exact(h.lt g e).2)
theorem Own.mono {B':H}(h:Own w B E k enc v xs)(i:B'<=B):Own w B' E k enc v xs:=by
 obtain⟨d,b⟩:=h;refine⟨d,?_⟩;rcases b with b|⟨g,e,f,rfl,j,r⟩
 .grind
 .exact .inr ⟨g,e,f,rfl,by omega,r⟩
theorem Own.new (w:O)(B:H)(b:U)[hc:Cells enc k](cs:Array M)(xs:C α)(d:B<=w.1.size)(e:cs.toList=xs.flatMap enc)(f:xs.length<=maxLen):
  Own (w.alloc (.cells cs b)) B b k enc (I (G ⟨w.1.size,0,none⟩) xs.length xs.length) xs:=by
 have g:cs.size=xs.length*k:=by rw[<-Array.length_toList,e,sS (hc:=hc)]
 refine⟨sS xs,.inr ⟨w.1.size,xs.length,cs,rfl,d,nR w _,aC _,f,g,?_⟩⟩
 grind [List.take_of_length_le,Array.length_toList]
variable{P:Program}
theorem Qw [hc:Cells enc k](t f:U)(i:TypeInfo)(z:M)(g:H)(q:P.underlying t=G (.slice E))(r:P.info? E=G i)(Q:i.zero=G z)
  (R:i.size=k) (S:i.bytes=g) (T:z.cells.size=k) (e:Own w B E k enc v xs)
  {a:Option Addr} {m c:H} {h:C α} (l:Row w k enc a m c h) (W:(xs.length+m)*g<=140737488355328) (X:xs.length+m<=maxLen) (Y:B<=w.1.size):
  ∃d c' w',(Builtin.append_ #[t,t] f #[v,I a m c]).run P w= .ok (I d (xs++h).length c') w'/\Own w' B E k enc (I d (xs++h).length c') (xs++h)/\w.grownBy w' v.ownBlock/\
   ((L d (xs++h).length c').ownBlock=v.ownBlock\/(L d (xs++h).length c').ownBlock=G w.1.size):=by
 cases a with
 |none=>
  obtain⟨rfl,rfl,rfl⟩:=l.none_;obtain⟨a,c,rfl,_,_⟩:=e.shape;refine⟨a,c,w,?_,?_,World.grownBy.refl w _,.inl ?_⟩
  .simpa using run_append_owned_none (P:=P) (w:=w) B t f E i k q r _ _ _ e
  .simpa using e
  .rw[eG]
 |some s=>
  have y:h.length=m:=l.len;have Z:∀j u,(h.flatMap enc)[j]?=G u->w.cell? (s.add j)=G u:=by
   intro j u hu;obtain⟨A,x,F,hx,hv,he⟩:=Ns (hc:=hc) h j u hu;obtain⟨b,o,ha,β⟩:=l.2.2.2.2 A x hx;injection ha with ha;subst ha;have p:=β F u hv;rw[he];unfold Addr.add
   split
   .rename_i h0
    rw[show o+A*k+F=o by omega] at p;exact p
   .rw[<-Nat.add_assoc];exact p
  obtain⟨v',w',γ,h1,h2,_,h4⟩:=run_append_own_at (P:=P) w B t f E i z k g q r Q R S T hc.pos v xs.length (xs.flatMap enc) e s m c (h.flatMap enc) (by rw[sS (hc:=hc),y]) Z (Nt (hc:=hc) h) X W Y;have K:Own w' B E k enc v' (xs++h):=by
   unfold Own;rw[List.flatMap_append,eX,y];exact h1
  obtain⟨d,c',rfl,_,_⟩:=K.shape;exact⟨d,c',w',γ,K,h2,h4⟩
theorem gK [hc:Cells enc k]{o:Oper}{e:Act}{K:Act->O->Prop}{Q:Exit->Act->O->Prop}(s x:Operand)(t:U)
  (r:o.op= .call {callee:= .builtin .append,args:=#[s,x],argTypes:=#[t,t]}) (i:TypeInfo) (z:M) (f:H) (u:P.underlying t=G (.slice E)) (y:P.info? E=G i) (A:i.zero=G z)
  (F:i.size=k) (R:i.bytes=f) (S:z.cells.size=k) (T:e.eval s=v) (W:Own w B E k enc v xs)
  (a:Option Addr) (m c N:H) (g:C α) (X:e.eval x= I a m c) (j:Row w k enc a m c g) (Y:xs.length+m=N) (Z:N*f<=140737488355328) (β:N<=maxLen) (γ:B<=w.1.size)
  (h:∀b d w',Own w' B E k enc (I b N d) (xs++g)->w.grownBy w' v.ownBlock->((L b N d).ownBlock=v.ownBlock\/(L b N d).ownBlock=G w.1.size)->K (e.put o.dst (I b N d)) w'):o.wp P e w K Q:=by
 subst Y;obtain⟨b,d,w',l,p,h3,q⟩:=Qw (P:=P) t o.type i z f u y A F R S W j Z β γ;have hl:(xs++g).length=xs.length+m:=by rw[eX,j.len]
 rw[hl] at l p q;unfold Oper.wp execOp;simp only[r,resolve,invoke,builtin,Sem.run_bind,Sem.run_pure,Result.andThen_ok,List.map_toArray,kW,lW,T,X,l];exact h b d w' p h3 q
theorem dx [hc:Cells enc k]{j:Array Oper}{l:C Oper}{o:Oper}{e:Act}{Q:Exit->Act->O->Prop}(p:o.guard=none)(s x:Operand)(t:U)
  (q:o.op= .call {callee:= .builtin .append,args:=#[s,x],argTypes:=#[t,t]}) (i:TypeInfo) (z:M) (f:H) (r:P.underlying t=G (.slice E)) (u:P.info? E=G i) (y:i.zero=G z)
  (A:i.size=k) (F:i.bytes=f) (K:z.cells.size=k) (R:e.eval s=v) (S:Own w B E k enc v xs)
  (a:Option Addr) (m c N:H) (g:C α) (T:e.eval x= I a m c) (W:Row w k enc a m c g) (X:xs.length+m=N) (Y:N*f<=140737488355328) (Z:N<=maxLen) (β:B<=w.1.size)
  (h:∀b d w',Own w' B E k enc (I b N d) (xs++g)->w.grownBy w' v.ownBlock->((L b N d).ownBlock=v.ownBlock\/(L b N d).ownBlock=G w.1.size)->wpList P j Q l (e.put o.dst (I b N d)) w'):
  wpList P j Q (o::l) e w:=
 wpList_plain p λ_ hK=>gK s x t q i z f r u y A F K R S a m c N g T W X Y Z β λb d w' h2 h3 h4=>hK _ _ (h b d w' h2 h3 h4)
theorem below_app {D:H}{X:O}(b:Below D X w)(d:Own w B E k enc v xs)(f:D<=B)(h:D<=w.1.size)(i:w.grownBy w' v.ownBlock):Below D X w':=
 b.grown i h λg e=>cO f (d.lt g e).1
def jf (b:U)(k:H)(enc:α->C M)(xs:C α)(w:O)(e:Ending)(w':O):Prop:=
 ∃a c,e= .returned (I a xs.length c)/\Own w' w.1.size b k enc (I a xs.length c) xs/\Below w.1.size w w'
end
def iF (i:H):H:=if i=0\/i=2 then 300 else 60
def bV (l:C Bs)(s:Bs):C Bs:=if s∈l then l else l++[s]
def lQ (l:C Bs)(s:Bs):H:=(bV l s).idxOf s
theorem yE (l:C Bs)(s:Bs):s∈bV l s:=by
 unfold bV
 split
 .assumption
 .simp
theorem Bp (l:C Bs)(s:Bs):l<+:bV l s:=by
 unfold bV
 split
 .exact gH _
 .exact fq _ _
variable{l:C Bs}{s:Bs}
theorem mq (h:s∈l):bV l s=l:=by unfold bV;rw[aA h]
theorem kF (h:s∉l):bV l s=l++[s]:=by unfold bV;rw[ay h]
theorem KM (h:s∈l):lQ l s=l.idxOf s:=by unfold lQ;rw[mq h]
theorem Hy (h:s∉l):lQ l s=l.length:=by
 unfold lQ;rw[kF h,List.idxOf_append,ay h];simp
theorem KN (l:C Bs)(s:Bs):lQ l s<(bV l s).length:=EG (yE l s)
theorem yF (h:l.Nodup):(bV l s).Nodup:=by
 unfold bV
 split
 .exact h
 .rename_i b
  refine tY.2 ⟨h,by simp,λp d q f e=>?_⟩;rw[dw.1 f] at e;exact b (e▸d)
def jQ (xs:C J)(x:J):C J:=if x∈xs then xs else xs++[x]
def Fb (xs:C J)(v:je):C J:=if v.k=0 then xs else jQ xs v.t
def bZ (xs:C (J × J))(s:J):C J:=xs.foldl (λl x=>if x.1=s then jQ l x.2 else l) []
theorem kG (xs:C (J × J))(x:J × J)(s:J):bZ (xs++[x]) s=if x.1=s then jQ (bZ xs s) x.2 else bZ xs s:=by simp[bZ]
theorem Ch {l:C J}{x:J}(h:l.Nodup):(jQ l x).Nodup:=by
 unfold jQ
 split
 .exact h
 .refine tY.2 ⟨h,by simp,λp d q b e=>?_⟩
  simp at b;subst b e
  contradiction
theorem yG {β:Type}{P:C β->Prop}(d:P [])(e:∀xs x,P xs->P (xs++[x]))(xs:C β):P xs:=by
 have h:∀b:C β,P b.reverse:=by
  intro b
  induction b with
  |nil=>exact d
  |cons y b f=>rw[List.reverse_cons];exact e _ _ f
 simpa using h xs.reverse
def up (n:H):C J:=(List.range n).map λi:H=>(i:J)
theorem vz (n:H):(up n).length=n:=by simp[up]
theorem Tz {n i:H}(h:i<n):(up n)[i]?=G (i:J):=by simp[up,h]
theorem KO {n:H}{x:J}(b:0<=x):x∈up n↔x<n:=by
 unfold up;simp only[eZ,uN]
 constructor
 .rintro⟨a,h,rfl⟩;omega
 .intro h;exact⟨x.toNat,by omega,by omega⟩
theorem GD (l:C J)(x:J):l<+:jQ l x:=by
 unfold jQ
 split
 .exact gH _
 .exact fq _ _
theorem Ci (xs:C (J × J))(x:J × J)(s:J):bZ xs s<+:bZ (xs++[x]) s:=by
 rw[kG]
 split
 .exact GD _ _
 .exact gH _
end Yd
namespace Yd
open Go Go.RowKit Go.Proofs
open Tryz renaming prog->B
theorem KP:Tryz.prog.elem 22=9:=au
theorem KQ:Tryz.prog.underlying 22=some (.slice (Tryz.prog.elem 22)):=by rw[KP];exact Tryz.underlying22
theorem TA (W:World):(Go.sizeOf (Tryz.prog.elem 22)).run B W=Result.ok 1 W:=by
 rw[KP]
 kernel_rfl
theorem yH {w:World}{a:Option Addr}{n c:Nat}{xs:List Bs}(h:Row w 1 encStr a n c xs)(k:Nat)(F:k<=n):∃f:Option Addr,(∀W:World,(Instr.slice 22 (.slice a n c) (some (.int .i64 (k:Int))) none none).run B W= .ok (.slice f (n - k) (c - k)) W)/\
  (∀W:World,(Instr.sliceAt 22 (.slice a n c) (some (.int .i64 (k:Int))) none none).run B W= .ok (.slice f (n - k) (c - k)) W)/\Row w 1 encStr f (n - k) (c - k) (xs.drop k)/\∀b o,f=some ⟨b,o,none⟩->∃q,a=some q/\q.block=b:=by
 have m:∀W:World,(Instr.slice 22 (.slice a n c) (some (.int .i64 (k:Int))) none none).run B W= .ok (.slice (if c=k then a else a.map (·.add (k*1))) (n - k) (c - k)) W:=λW=>by
  rw[run_slice_l (P:=B) W 22 a n c KQ .i64 (k:Int) ah (by have:=h.cap;omega),TA];simp[Result.andThen,sliced]
 refine⟨if c=k then a else a.map (·.add (k*1)),m,λW=>(run_sliceAt_slice (P:=B) W 22 _ _ _ _ KQ).trans (m W),?_,?_⟩
 .obtain⟨r,K,Q,s,t⟩:=h
  refine⟨by rw[dY,r],by omega,by omega,λe=>?_,λi x g=>?_⟩
  .by_cases u:c=k
   .omega
   .rw[ay u] at e
    cases a with
    |none=>rw[s rfl];omega
    |some d=>cases e
  .rw[rZ] at g
   obtain⟨b,o,ha,y⟩:=t _ x g;have R:=(bq.1 g).1;rw[ay ah,ha];refine⟨b,o+k,?_,λj v z=>?_⟩
   .show some (Addr.add ⟨b,o,none⟩ (k*1))=_
    unfold Addr.add;rw[gP];by_cases l:k=0
    .rw[aA l,l];rfl
    .rw[ay l]
   .rw[show o+k+i*1+j=o+(k+i)*1+j by omega];exact y j v z
 .intro b o e
  split at e
  .exact⟨_,e,rfl⟩
  .cases a with
   |none=>cases e
   |some d=>
    refine⟨d,rfl,?_⟩;have A:d.add (k*1)=⟨b,o,none⟩:=by simpa using e
    have p:(d.add (k*1)).block=d.block:=by
     unfold Addr.add
     split <;> rfl
    rw[A] at p;exact p.symm
end Yd
namespace Yd
open Go
def kX (nl:Nat->List Bs)(i:Nat)(s:Bs):Nat->List Bs:=λj=>if j=i then bV (nl i) s else nl j
def fU (nl:Nat->List Bs):List Bs->(Nat->List Bs) × List Int
 |[]=>(nl,[])
 |s::r=>((fU (kX nl 0 s) r).1,(lQ (nl 0) s:Int)::(fU (kX nl 0 s) r).2)
theorem yI:∀(l:List Bs)(nl:Nat->List Bs)(s:Bs),fU nl (l++[s])=(kX (fU nl l).1 0 s,(fU nl l).2++[(lQ ((fU nl l).1 0) s:Int)])
 |[],_,_=>rfl
 |t::l,nl,s=>by
  have h:=yI l (kX nl 0 t) s;show((fU (kX nl 0 t) (l++[s])).1,_::(fU (kX nl 0 t) (l++[s])).2)=_;rw[h];rfl
theorem Hz:∀(l:List Bs)(nl:Nat->List Bs)(j:Nat),nl j<+:(fU nl l).1 j
 |[],_,_=>gH _
 |s::r,nl,j=>by
  refine List.IsPrefix.trans ?_ (Hz r (kX nl 0 s) j);unfold kX
  split
  .rename_i h;subst h;exact Bp _ _
  .exact gH _
theorem H6:∀(l m:List Bs)(nl:Nat->List Bs),(fU nl (l++m)).1=(fU (fU nl l).1 m).1
 |[],_,_=>rfl
 |_::l,m,nl=>H6 l m (kX nl 0 _)
theorem Nu {l:List Bs}{nl:Nat->List Bs}{i:Nat}{s:Bs}{n:Nat}(b:l[i]?=some s)(h:((fU nl l).1 0).length<=n):(bV ((fU nl (l.take i)).1 0) s).length<=n:=by
 obtain⟨d,f⟩:=bq.1 b;have e:l=(l.take i++[s])++l.drop (i+1):=by
  rw[<-f,fP,List.singleton_append,<-jV d,Cj]
 rw[e,H6,yI] at h;have g:=(Hz (l.drop (i+1)) (kX (fU nl (l.take i)).1 0 s) 0).length_le;exact cO g h
end Yd
namespace Yd
open Go Go.RowKit Go.Proofs Tryz
open Below renaming refl->k
open Go renaming World->C,Calls->D
open Go.Obj renaming cells->B
open Tryz renaming prog->v
theorem Qx (a:Option Addr)(c:Nat)(cs:List EvC)(w:C)(b:Row w 9 dK a cs.length c cs)(f:cs.length*88<=140737488355328):
  D v 137 #[.slice a cs.length c] w (jf 50 9 dK cs w):=by
 have g:cs.length<=maxLen:=by have:=b.le;unfold maxLen;omega
 have F:=λ(w:C)(n c:Nat)=> @Lib.run_eql_slice_nil v w 36 50 a n c 0 0 underlying36
 cases a with
 |none=>
  obtain⟨rfl,_,rfl⟩:=b.none_;go_enter func137,ntmps137
  go_wp2
  go_ret;exact⟨none,0,rfl,Own.eH _ _ _ _ _,k _ _⟩
 |some d=>
  obtain⟨i,z,h,j,l,m,o⟩:=Al;have p:Row (w.alloc (B #[] 50)) 9 dK (some d) cs.length c cs:=b.below ((k _ _).alloc (aC _) _) rfl;have q:=Own.new (hc:=oG) w w.1.size 50 (enc:=dK) #[] [] (aC _) rfl (aS _);have r:Below w.1.size w (w.alloc (B #[] 50)):=(k _ _).alloc (aC _) _;have s:=hid p;have K:=hid b;have e:=hid q;have t:=hid r;go_enter func137,ntmps137
  go_wp2_with (at_builtin;refine dx rfl _ _ 36 rfl i z 88 underlying36 h j l m o rfl e (some d) cs.length c cs.length cs rfl s ak f g ak ?_;intro u x P y A Q)
  go_ret;exact⟨u,x,rfl,y,below_app t e (aC _) ak A⟩
theorem Qy (a:Option Addr)(c:Nat)(cs:List Sn)(w:C)(b:Row w 3 bI a cs.length c cs)(f:cs.length*24<=140737488355328):
  D v 141 #[.slice a cs.length c] w (jf 148 3 bI cs w):=by
 have g:cs.length<=maxLen:=by have:=b.le;unfold maxLen;omega
 have F:=λ(w:C)(n c:Nat)=> @Lib.run_eql_slice_nil v w 48 148 a n c 0 0 underlying48
 cases a with
 |none=>
  obtain⟨rfl,_,rfl⟩:=b.none_;go_enter func141,ntmps141
  go_wp2
  go_ret;exact⟨none,0,rfl,Own.eH _ _ _ _ _,k _ _⟩
 |some d=>
  obtain⟨i,z,h,j,l,m,o⟩:=Ag;have p:Row (w.alloc (B #[] 148)) 3 bI (some d) cs.length c cs:=b.below ((k _ _).alloc (aC _) _) rfl;have q:=Own.new (hc:=lK) w w.1.size 148 (enc:=bI) #[] [] (aC _) rfl (aS _);have r:Below w.1.size w (w.alloc (B #[] 148)):=(k _ _).alloc (aC _) _;have s:=hid p;have K:=hid b;have e:=hid q;have t:=hid r;go_enter func141,ntmps141
  go_wp2_with (at_builtin;refine dx rfl _ _ 48 rfl i z 24 underlying48 h j l m o rfl e (some d) cs.length c cs.length cs rfl s ak f g ak ?_;intro u x P y A Q)
  go_ret;exact⟨u,x,rfl,y,below_app t e (aC _) ak A⟩
theorem Qz (a:Option Addr)(c:Nat)(cs:List aO)(w:C)(b:Row w 2 dU a cs.length c cs)(f:cs.length*32<=140737488355328):
  D v 138 #[.slice a cs.length c] w (jf 65 2 dU cs w):=by
 have g:cs.length<=maxLen:=by have:=b.le;unfold maxLen;omega
 have F:=λ(w:C)(n c:Nat)=> @Lib.run_eql_slice_nil v w 37 65 a n c 0 0 underlying37
 cases a with
 |none=>
  obtain⟨rfl,_,rfl⟩:=b.none_;go_enter func138,ntmps138
  go_wp2
  go_ret;exact⟨none,0,rfl,Own.eH _ _ _ _ _,k _ _⟩
 |some d=>
  obtain⟨i,z,h,j,l,m,o⟩:=Am;have p:Row (w.alloc (B #[] 65)) 2 dU (some d) cs.length c cs:=b.below ((k _ _).alloc (aC _) _) rfl;have q:=Own.new (hc:=pX) w w.1.size 65 (enc:=dU) #[] [] (aC _) rfl (aS _);have r:Below w.1.size w (w.alloc (B #[] 65)):=(k _ _).alloc (aC _) _;have s:=hid p;have K:=hid b;have e:=hid q;have t:=hid r;go_enter func138,ntmps138
  go_wp2_with (at_builtin;refine dx rfl _ _ 37 rfl i z 32 underlying37 h j l m o rfl e (some d) cs.length c cs.length cs rfl s ak f g ak ?_;intro u x P y A Q)
  go_ret;exact⟨u,x,rfl,y,below_app t e (aC _) ak A⟩
theorem QA (a:Option Addr)(c:Nat)(cs:List aP)(w:C)(b:Row w 4 dV a cs.length c cs)(f:cs.length*48<=140737488355328):
  D v 139 #[.slice a cs.length c] w (jf 67 4 dV cs w):=by
 have g:cs.length<=maxLen:=by have:=b.le;unfold maxLen;omega
 have F:=λ(w:C)(n c:Nat)=> @Lib.run_eql_slice_nil v w 38 67 a n c 0 0 underlying38
 cases a with
 |none=>
  obtain⟨rfl,_,rfl⟩:=b.none_;go_enter func139,ntmps139
  go_wp2
  go_ret;exact⟨none,0,rfl,Own.eH _ _ _ _ _,k _ _⟩
 |some d=>
  obtain⟨i,z,h,j,l,m,o⟩:=Ao;have p:Row (w.alloc (B #[] 67)) 4 dV (some d) cs.length c cs:=b.below ((k _ _).alloc (aC _) _) rfl;have q:=Own.new (hc:=nG) w w.1.size 67 (enc:=dV) #[] [] (aC _) rfl (aS _);have r:Below w.1.size w (w.alloc (B #[] 67)):=(k _ _).alloc (aC _) _;have s:=hid p;have K:=hid b;have e:=hid q;have t:=hid r;go_enter func139,ntmps139
  go_wp2_with (at_builtin;refine dx rfl _ _ 38 rfl i z 48 underlying38 h j l m o rfl e (some d) cs.length c cs.length cs rfl s ak f g ak ?_;intro u x P y A Q)
  go_ret;exact⟨u,x,rfl,y,below_app t e (aC _) ak A⟩
theorem QB (a:Option Addr)(c:Nat)(cs:List Wa)(w:C)(b:Row w 2 eY a cs.length c cs)(f:cs.length*16<=140737488355328):
  D v 140 #[.slice a cs.length c] w (jf 69 2 eY cs w):=by
 have g:cs.length<=maxLen:=by have:=b.le;unfold maxLen;omega
 have F:=λ(w:C)(n c:Nat)=> @Lib.run_eql_slice_nil v w 39 69 a n c 0 0 underlying39
 cases a with
 |none=>
  obtain⟨rfl,_,rfl⟩:=b.none_;go_enter func140,ntmps140
  go_wp2
  go_ret;exact⟨none,0,rfl,Own.eH _ _ _ _ _,k _ _⟩
 |some d=>
  obtain⟨i,z,h,j,l,m,o⟩:=Ap;have p:Row (w.alloc (B #[] 69)) 2 eY (some d) cs.length c cs:=b.below ((k _ _).alloc (aC _) _) rfl;have q:=Own.new (hc:=qH) w w.1.size 69 (enc:=eY) #[] [] (aC _) rfl (aS _);have r:Below w.1.size w (w.alloc (B #[] 69)):=(k _ _).alloc (aC _) _;have s:=hid p;have K:=hid b;have e:=hid q;have t:=hid r;go_enter func140,ntmps140
  go_wp2_with (at_builtin;refine dx rfl _ _ 39 rfl i z 16 underlying39 h j l m o rfl e (some d) cs.length c cs.length cs rfl s ak f g ak ?_;intro u x P y A Q)
  go_ret;exact⟨u,x,rfl,y,below_app t e (aC _) ak A⟩
theorem Fe (a:Option Addr)(c:Nat)(cs:List Int)(w:C)(b:Row w 1 aQ a cs.length c cs)(f:cs.length*8<=140737488355328):
  D v 142 #[.slice a cs.length c] w (jf 3 1 aQ cs w):=by
 have g:cs.length<=maxLen:=by have:=b.le;unfold maxLen;omega
 have F:=λ(w:C)(n c:Nat)=> @Lib.run_eql_slice_nil v w 26 3 a n c 0 0 underlying26
 cases a with
 |none=>
  obtain⟨rfl,_,rfl⟩:=b.none_;go_enter func142,ntmps142
  go_wp2
  go_ret;exact⟨none,0,rfl,Own.eH _ _ _ _ _,k _ _⟩
 |some d=>
  obtain⟨i,z,h,j,l,m,o⟩:=qZ;have p:Row (w.alloc (B #[] 3)) 1 aQ (some d) cs.length c cs:=b.below ((k _ _).alloc (aC _) _) rfl;have q:=Own.new (hc:=fA) w w.1.size 3 (enc:=aQ) #[] [] (aC _) rfl (aS _);have r:Below w.1.size w (w.alloc (B #[] 3)):=(k _ _).alloc (aC _) _;have s:=hid p;have K:=hid b;have e:=hid q;have t:=hid r;go_enter func142,ntmps142
  go_wp2_with (at_builtin;refine dx rfl _ _ 26 rfl i z 8 underlying26 h j l m o rfl e (some d) cs.length c cs.length cs rfl s ak f g ak ?_;intro u x P y A Q)
  go_ret;exact⟨u,x,rfl,y,below_app t e (aC _) ak A⟩
theorem vB (a:Option Addr)(c:Nat)(cs:List Bs)(w:C)(b:Row w 1 encStr a cs.length c cs)(f:cs.length*16<=140737488355328):
  D v 136 #[.slice a cs.length c] w (jf 9 1 encStr cs w):=by
 have g:cs.length<=maxLen:=by have:=b.le;unfold maxLen;omega
 have F:=λ(w:C)(n c:Nat)=> @Lib.run_eql_slice_nil v w 22 9 a n c 0 0 underlying22
 cases a with
 |none=>
  obtain⟨rfl,_,rfl⟩:=b.none_;go_enter func136,ntmps136
  go_wp2
  go_ret;exact⟨none,0,rfl,Own.eH _ _ _ _ _,k _ _⟩
 |some d=>
  obtain⟨i,z,h,j,l,m,o⟩:=mQ;have p:Row (w.alloc (B #[] 9)) 1 encStr (some d) cs.length c cs:=b.below ((k _ _).alloc (aC _) _) rfl;have q:=Own.new (hc:=gy) w w.1.size 9 (enc:=encStr) #[] [] (aC _) rfl (aS _);have r:Below w.1.size w (w.alloc (B #[] 9)):=(k _ _).alloc (aC _) _;have s:=hid p;have K:=hid b;have e:=hid q;have t:=hid r;go_enter func136,ntmps136
  go_wp2_with (at_builtin;refine dx rfl _ _ 22 rfl i z 16 underlying22 h j l m o rfl e (some d) cs.length c cs.length cs rfl s ak f g ak ?_;intro u x P y A Q)
  go_ret;exact⟨u,x,rfl,y,below_app t e (aC _) ak A⟩
end Yd
