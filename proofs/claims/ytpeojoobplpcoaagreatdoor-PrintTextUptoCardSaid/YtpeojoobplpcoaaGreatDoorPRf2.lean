import Derived.Test.YtpeojoobplpcoaaGreatDoorPA0
import Derived.WalkKit
import Derived.Deep.Draws
import Derived.Test.YtpeojoobplpcoaaGreatDoorProg
import Derived.Laws.StructEq
import Derived.RangeFuncNested
import Derived.RangeFuncCalls
import Derived.RangeFuncLeaves
import Derived.RangeFuncSeq
import Derived.Maps.AppendAt
import Derived.Laws.OwnMore
import Derived.Lib.SliceRun
import Derived.Laws.Slices
set_option linter.all false
set_option maxRecDepth 200000
set_option maxHeartbeats 8000000
namespace Yd
open Go Go.RowKit
theorem hid {p:Prop}(h:p):Hid p:=h
end Yd
namespace Go.RowKit
theorem Hid.q {p:Prop}(h:Hid p):p:=h
theorem Below.bZ {a b c:World}(h:Below a.1.size a b)(k:Below b.1.size b c):Below a.1.size a c:=h.trans (k.mono h.size)
end Go.RowKit
namespace Yd
open Go Go.RowKit
def dw (v:Value)(w:World)(e:Ending)(w':World):Prop:=e= .returned v/\Below w.1.size w w'
theorem dR {w:World}{p:Addr}{v:Value}(h:w.cell? p=some v):p.block<w.1.size:=by
 unfold World.cell? at h;rcases gP p.block w.1.size with h1|h1
 .exact h1
 .rw[Ef h1] at h;cases h
theorem bn {B:Nat}{w w':World}(hb:Below B w w')(hB:B=w.1.size){p:Addr}{v:Value}(h:w.cell? p=some v):w'.cell? p=some v:=by
 subst hB;exact(hb.cell (dR h)).trans h
theorem gu {B:Nat}{a w:World}(h:Below B a w)(n:Nat):Below B a (w.drewN n):=⟨h.os,h.tape,h.output,h.size,h.block⟩
theorem adR {B:Nat}{W w1:World}(hb:Below B W w1):(∀b o,b<B->w1.cell? ⟨b,o,none⟩=W.cell? ⟨b,o,none⟩)/\(∀b o,b<B->w1.frozen? ⟨b,o,none⟩=W.frozen? ⟨b,o,none⟩):=
 ⟨λb o h=>hb.cell (p:=⟨b,o,none⟩) h,λb o h=>hb.frozen (p:=⟨b,o,none⟩) h⟩
theorem aA {a w:World}(h:Below a.1.size a w)(o:Obj):Below a.1.size a (w.alloc o):=h.alloc h.size o
def Row {α:Type}(w:World)(k:Nat)(enc:α->List Value)(a:Option Addr)(n c:Nat)(xs:List α):Prop:=
 xs.length=n/\n<=c/\n<=140737488355328/\(a=none->c=0)/\∀i x,xs[i]?=some x->∃b o,a=some ⟨b,o,none⟩/\∀j v,(enc x)[j]?=some v->w.cell? ⟨b,o+i*k+j,none⟩=some v
section
variable {α:Type}{w w':World}{k:Nat}{enc:α->List Value}{a:Option Addr}{n c:Nat}{xs:List α}
theorem Row.ext (h:Row w k enc a n c xs)(hb:∀p v,w.cell? p=some v->w'.cell? p=some v):Row w' k enc a n c xs:=
 ⟨h.1,h.2.1,h.2.2.1,h.2.2.2.1,λi x hx=>let⟨b,o,ha,hc⟩:=h.2.2.2.2 i x hx;⟨b,o,ha,λj v hv=>hb _ _ (hc j v hv)⟩⟩
theorem Row.below {B:Nat}(h:Row w k enc a n c xs)(hb:Below B w w')(hB:B=w.1.size):Row w' k enc a n c xs:=h.ext λ_ _=>bn hb hB
theorem Row.le (h:Row w k enc a n c xs):n<=140737488355328:=h.2.2.1
theorem Row.len (h:Row w k enc a n c xs):xs.length=n:=h.1
theorem Row.cap (h:Row w k enc a n c xs):n<=c:=h.2.1
theorem Row.none_ (h:Row w k enc none n c xs):c=0/\n=0/\xs=[]:=by
 have h0:=h.2.2.2.1 rfl;have h1:=h.2.1;exact⟨h0,by omega,Av (by rw[h.1];omega)⟩
theorem Row.at_ (h:Row w k enc a n c xs){i:Nat}(hi:i<n):∃x b o,xs[i]?=some x/\a=some ⟨b,o,none⟩/\∀j v,(enc x)[j]?=some v->w.cell? ⟨b,o+i*k+j,none⟩=some v:=by
 have hl:i<xs.length:=by rw[h.1];exact hi
 obtain⟨b,o,ha,hc⟩:=h.2.2.2.2 i xs[i] (fK hl);exact⟨xs[i],b,o,fK hl,ha,hc⟩
theorem Row.jY:Row w k enc none 0 0 ([]:List α):=⟨rfl,aB _,by decide,λ_=>rfl,λi x h=>by simp at h⟩
end
abbrev Bs:=List UInt8
structure lK where
 t:Int
 k:Int
 deriving DecidableEq,Inhabited
structure Sn where
 obj:Int
 v:lK
 deriving DecidableEq,Inhabited
structure Wa where
 bW:Int
 bits:Int
 deriving DecidableEq,Inhabited
structure To where
 name:Bs
 k:Int
 deriving DecidableEq
structure EvC where
 kind:Int
 t:Int
 bW:Int
 lvl:Int
 obj:Int
 v:lK
 pred:Int
 sa:Option Addr
 sn:Nat
 sc:Nat
structure aM where
 obj:Int
 sa:Option Addr
 sn:Nat
 sc:Nat
structure aN where
 pred:Int
 obj:Int
 first:Bool
 sa:Option Addr
 sn:Nat
 sc:Nat
structure bE where
 kind:Int
 na:Option Addr
 nn:Nat
 nc:Nat
 lvl:Int
 va:Option Addr
 vn:Nat
 vc:Nat
 first:Bool
 bits:Int
def aX (n:Int):List Value:=[.int .i64 n]
@[reducible] def K9 (n:Int):Value:= .int .i64 n
def encStr (s:Bs):List Value:=[.string ⟨s.toArray⟩]
@[reducible] def valStr (s:Bs):Value:= .string ⟨s.toArray⟩
def dV (s:Sn):List Value:=[.int .i64 s.obj,.int .i64 s.v.t,.int .i64 s.v.k]
@[reducible] def CG (s:Sn):Value:= .agg #[.int .i64 s.obj,.int .i64 s.v.t,.int .i64 s.v.k]
def gH (s:Wa):List Value:=[.int .i64 s.bW,.int .i64 s.bits]
@[reducible] def zf (s:Wa):Value:= .agg #[.int .i64 s.bW,.int .i64 s.bits]
def sI (s:To):List Value:=[.string ⟨s.name.toArray⟩,.int .i64 s.k]
@[reducible] def rV (s:To):Value:= .agg #[.string ⟨s.name.toArray⟩,.int .i64 s.k]
def eB (e:EvC):List Value:=[.int .i64 e.kind,.int .i64 e.t,.int .i64 e.bW,.int .i64 e.lvl,.int .i64 e.obj,.int .i64 e.v.t,.int .i64 e.v.k,.int .i64 e.pred,.slice e.sa e.sn e.sc]
@[reducible] def fZ (e:EvC):Value:= .agg #[.int .i64 e.kind,.int .i64 e.t,.int .i64 e.bW,.int .i64 e.lvl,.int .i64 e.obj,.int .i64 e.v.t,.int .i64 e.v.k,.int .i64 e.pred,.slice e.sa e.sn e.sc]
def fB (s:aM):List Value:=[.int .i64 s.obj,.slice s.sa s.sn s.sc]
@[reducible] def za (s:aM):Value:= .agg #[.int .i64 s.obj,.slice s.sa s.sn s.sc]
def fD (s:aN):List Value:=[.int .i64 s.pred,.int .i64 s.obj,.bool s.first,.slice s.sa s.sn s.sc]
@[reducible] def ze (s:aN):Value:= .agg #[.int .i64 s.pred,.int .i64 s.obj,.bool s.first,.slice s.sa s.sn s.sc]
def vw (l:bE):List Value:=[.int .i64 l.kind,.slice l.na l.nn l.nc,.int .i64 l.lvl,.slice l.va l.vn l.vc,.bool l.first,.int .i64 l.bits]
@[reducible] def dY (l:bE):Value:= .agg #[.int .i64 l.kind,.slice l.na l.nn l.nc,.int .i64 l.lvl,.slice l.va l.vn l.vc,.bool l.first,.int .i64 l.bits]
def Rf {α:Type}(P:Program)(f:Nat)(cap:Array Value)(val:α->Value)(p:α->Bool)(xs:List α)(w:World):Prop:=
 ∀x∈xs,∀W,Below w.1.size w W->Calls P f (#[val x]++cap) W (dw (.bool (p x)) W)
def idx {α:Type}(p:α->Bool)(xs:List α):Int:=match xs.findIdx? p with|some i=>(i:Int)|none=> -1
theorem Rh {α:Type}{p:α->Bool}{xs:List α}{i:Nat}(h:xs.findIdx? p=some i):idx p xs=i:=by unfold idx;rw[h]
theorem Ri {α:Type}{p:α->Bool}{xs:List α}(h:xs.findIdx? p=none):idx p xs= -1:=by unfold idx;rw[h]
theorem xD {α:Type}(p:α->Bool)(xs:List α):decide (0<=idx p xs)=xs.any p:=by
 cases h:xs.findIdx? p with
 |none=>
  rw[Ri h];rw[DZ] at h
  symm;simp only[show decide ((0:Int)<= -1)=false from rfl,List.any_eq_false]
  intro x hx;simp[h x hx]
 |some i=>
  rw[Rh h];rw[Hz] at h;obtain⟨hl,hp,_⟩:=h
  symm
  simp only[show decide ((0:Int)<=(i:Int))=true by simp,List.any_eq_true];exact⟨xs[i],List.getElem_mem hl,hp⟩
theorem findIdx?_take {α:Type}(p:α->Bool)(xs:List α)(i:Nat)(h:(xs.take i).findIdx? p=none)(x:α)(hx:xs[i]?=some x)(hp:p x=true):xs.findIdx? p=some i:=by
 rw[Hz];have hl:i<xs.length:=by
  rcases gP i xs.length with h'|h'
  .exact h'
  .rw[xY h'] at hx;cases hx
 refine⟨hl,?_,?_⟩
 .rw[fK hl] at hx
  have e:xs[i]=x:=uX hx;rw[e];exact hp
 .intro j hj
  rw[DZ] at h;have:=h xs[j] (by
   rw[zi];exact⟨j,by rw[AO,av hj];exact fK ah⟩)
  simpa using this
theorem NG {α:Type}(p:α->Bool)(xs:List α)(i:Nat)(h:(xs.take i).findIdx? p=none)(x:α)(hx:xs[i]?=some x)(hp:p x=false):(xs.take (i+1)).findIdx? p=none:=by
 rw[jd,hx];simp[List.findIdx?_append,h,hp]
end Yd
namespace Yd
open Go Go.RowKit Go.Proofs Tryz
open Tryz renaming prog->d
theorem Wp (x y:To)(w:World):(Op.equalIn 10000 144 (rV x) (rV y)).run d w= .ok (decide (x=y)) w:=by
 simp[rV,go_sem]
 cases x;cases y;simp;(repeat' split) <;> simp_all
theorem ajf (x y:Wa)(w:World):(Op.equalIn 10000 88 (zf x) (zf y)).run d w= .ok (decide (x=y)) w:=by
 simp[zf,go_sem]
 cases x;cases y;simp;(repeat' split) <;> simp_all
theorem aeJ (x y:lK)(w:World):(Op.equalIn 10000 47 (.agg #[.int .i64 x.t,.int .i64 x.k]) (.agg #[.int .i64 y.t,.int .i64 y.k])).run d w= .ok (decide (x=y)) w:=by
 simp[go_sem]
 cases x;cases y;simp;(repeat' split) <;> simp_all
theorem ajg (x y:Sn)(w:World):(Op.equalIn 10000 98 (CG x) (CG y)).run d w= .ok (decide (x=y)) w:=by
 simp[CG,go_sem];obtain⟨_,⟨_,_⟩⟩:=x;obtain⟨_,⟨_,_⟩⟩:=y;simp;(repeat' split) <;> simp_all
def GI {α:Type}(F k:Nat)(en:α->List Value)(val:α->Value):Prop:=∀(a:Option Addr)(n c f:Nat)(cap:Array Value)(cs:List α)(p:α->Bool)(w:World),Row w k en a n c cs->
  (∀args w,(callFunc f args).run d w= .ok (.enter f args) w)->Rf d f cap val p cs w->Calls d F #[.slice a n c,.func (.func f) #[] cap] w (dw (.int .i64 (idx p cs)) w)
def CK {α:Type}(F k:Nat)(en:α->List Value)(val:α->Value):Prop:=∀(a:Option Addr)(n c f:Nat)(cap:Array Value)(cs:List α)(p:α->Bool)(w:World),Row w k en a n c cs->
  (∀args w,(callFunc f args).run d w= .ok (.enter f args) w)->Rf d f cap val p cs w->Calls d F #[.slice a n c,.func (.func f) #[] cap] w (dw (.bool (cs.any p)) w)
theorem GJ {p:Prop}(h:p:=by
 have hn:=HR.q.le;go_wp2_with fail
 go_loopw [8] (λi wr=>∃k:Nat,k<=n/\i= .int .i64 k/\(cs.take k).findIdx? p=none/\Below w.1.size w wr) (λi _=>n - (RowKit.intOf i).toNat)
 case atStart=>exact⟨0,aZ _,rfl,rfl,Below.refl _ _⟩
 case round=>
  obtain⟨k,hk,rfl,hf,hb⟩:=hrel;by_cases hlt:k<n
  .obtain⟨x,b,o,hx,rfl,hc⟩:=HR.q.at_ hlt
   have h0:=bn hb rfl (hc 0 _ rfl)
   try have h1:=bn hb rfl (hc 1 _ rfl)
   try have h2:=bn hb rfl (hc 2 _ rfl)
   try have h3:=bn hb rfl (hc 3 _ rfl)
   try have h4:=bn hb rfl (hc 4 _ rfl)
   try have h5:=bn hb rfl (hc 5 _ rfl)
   try have h6:=bn hb rfl (hc 6 _ rfl)
   try have h7:=bn hb rfl (hc 7 _ rfl)
   try have h8:=bn hb rfl (hc 8 _ rfl)
   rw[dM] at h0
   try rw[gT] at h0
   have hcall:=H.q x (dP hx) wr hb;have HX:=hid hx;have HF:=hid hf;clear hc hx hf
   cases hpx:p x
   all_goals
    rw[hpx] at hcall;have HC:=hid hcall;have HP:=hid hpx;clear hcall hpx;go_wp2_with fail;refine HC.q.mono ?_;rintro e w1 ⟨rfl,hb1⟩;go_wp2_with fail
   .go_roundw
    case rel=>exact⟨k+1,by omega,by go_num,NG p cs k HF.q x HX.q HP.q,hb.trans (hb1.mono hb.size)⟩
    case measure=>simp[RowKit.intOf];omega
   .go_ret
    refine⟨?_,hb.trans (hb1.mono hb.size)⟩;rw[Rh (findIdx?_take p cs k HF.q x HX.q HP.q)];rfl
  .have hkn:k=n:=by omega
   have HF:=hid hf;clear hf;go_wp2_with fail;go_ret;refine⟨?_,hb⟩;have e:cs.take k=cs:=iH (by rw[HR.q.len];omega);rw[Ri (xs:=cs) (by rw[<-e];exact HF.q)];rfl):p:=h
theorem ak4:GI 69 9 eB fZ:=λa n c f cap cs p w hr eg hp=>by
 have H:=hid hp;have HR:=hid hr;clear hp hr;go_enter func69,ntmps69;exact GJ
theorem ak5:GI 139 2 sI rV:=λa n c f cap cs p w hr eg hp=>by
 have H:=hid hp;have HR:=hid hr;clear hp hr;go_enter func139,ntmps139;exact GJ
theorem ajh:GI 140 1 encStr valStr:=λa n c f cap cs p w hr eg hp=>by
 have H:=hid hp;have HR:=hid hr;clear hp hr;go_enter func140,ntmps140;exact GJ
theorem aji:GI 149 1 aX K9:=λa n c f cap cs p w hr eg hp=>by
 have H:=hid hp;have HR:=hid hr;clear hp hr;go_enter func149,ntmps149;exact GJ
theorem ak6:GI 152 2 fB za:=λa n c f cap cs p w hr eg hp=>by
 have H:=hid hp;have HR:=hid hr;clear hp hr;go_enter func152,ntmps152;exact GJ
theorem ak7:GI 153 4 fD ze:=λa n c f cap cs p w hr eg hp=>by
 have H:=hid hp;have HR:=hid hr;clear hp hr;go_enter func153,ntmps153;exact GJ
theorem ak8:GI 154 2 gH zf:=λa n c f cap cs p w hr eg hp=>by
 have H:=hid hp;have HR:=hid hr;clear hp hr;go_enter func154,ntmps154;exact GJ
theorem ak9:GI 177 3 dV CG:=λa n c f cap cs p w hr eg hp=>by
 have H:=hid hp;have HR:=hid hr;clear hp hr;go_enter func177,ntmps177;exact GJ
theorem ajj:CK 33 9 eB fZ:=λa n c f cap cs p w hr eg hp=>by
 have H:=hid (ak4 a n c f cap cs p w hr eg hp);clear hp hr;go_enter Tryz.func33,Tryz.ntmps33
 go_wp2_with (go_at_call 69;refine H.q.mono ?_;rintro e w1 ⟨rfl,hb1⟩)
 go_ret;exact⟨by rw[<-xD];rfl,hb1⟩
theorem Ya:CK 92 2 sI rV:=λa n c f cap cs p w hr eg hp=>by
 have H:=hid (ak5 a n c f cap cs p w hr eg hp);clear hp hr;go_enter func92,ntmps92
 go_wp2_with (go_at_call 139;refine H.q.mono ?_;rintro e w1 ⟨rfl,hb1⟩)
 go_ret;exact⟨by rw[<-xD];rfl,hb1⟩
theorem TG:CK 95 1 encStr valStr:=λa n c f cap cs p w hr eg hp=>by
 have H:=hid (ajh a n c f cap cs p w hr eg hp);clear hp hr;go_enter func95,ntmps95
 go_wp2_with (go_at_call 140;refine H.q.mono ?_;rintro e w1 ⟨rfl,hb1⟩)
 go_ret;exact⟨by rw[<-xD];rfl,hb1⟩
theorem afg:CK 117 1 aX K9:=λa n c f cap cs p w hr eg hp=>by
 have H:=hid (aji a n c f cap cs p w hr eg hp);clear hp hr;go_enter func117,ntmps117
 go_wp2_with (go_at_call 149;refine H.q.mono ?_;rintro e w1 ⟨rfl,hb1⟩)
 go_ret;exact⟨by rw[<-xD];rfl,hb1⟩
theorem ajk:CK 129 2 fB za:=λa n c f cap cs p w hr eg hp=>by
 have H:=hid (ak6 a n c f cap cs p w hr eg hp);clear hp hr;go_enter func129,ntmps129
 go_wp2_with (go_at_call 152;refine H.q.mono ?_;rintro e w1 ⟨rfl,hb1⟩)
 go_ret;exact⟨by rw[<-xD];rfl,hb1⟩
theorem ajl:CK 131 4 fD ze:=λa n c f cap cs p w hr eg hp=>by
 have H:=hid (ak7 a n c f cap cs p w hr eg hp);clear hp hr;go_enter func131,ntmps131
 go_wp2_with (go_at_call 153;refine H.q.mono ?_;rintro e w1 ⟨rfl,hb1⟩)
 go_ret;exact⟨by rw[<-xD];rfl,hb1⟩
theorem ajm:CK 133 2 gH zf:=λa n c f cap cs p w hr eg hp=>by
 have H:=hid (ak8 a n c f cap cs p w hr eg hp);clear hp hr;go_enter func133,ntmps133
 go_wp2_with (go_at_call 154;refine H.q.mono ?_;rintro e w1 ⟨rfl,hb1⟩)
 go_ret;exact⟨by rw[<-xD];rfl,hb1⟩
theorem ajn:CK 150 3 dV CG:=λa n c f cap cs p w hr eg hp=>by
 have H:=hid (ak9 a n c f cap cs p w hr eg hp);clear hp hr;go_enter func150,ntmps150
 go_wp2_with (go_at_call 177;refine H.q.mono ?_;rintro e w1 ⟨rfl,hb1⟩)
 go_ret;exact⟨by rw[<-xD];rfl,hb1⟩
end Yd
namespace Yd
open Go Go.RowKit
open Go renaming Value->f,World->m
open _root_ renaming Array->j
@[reducible] def Bx (W:m)(b:Nat)(cs:j f):Prop:=(∀i,W.cell? ⟨b,i,none⟩=cs[i]?)/\(∀i,W.frozen? ⟨b,i,none⟩=false)/\b<W.1.size
theorem Bx.below {X w':m}{b B:Nat}{cs:j f}(h:Bx X b cs)(hb:Below B X w')(hB:b<B):Bx w' b cs:=
 ⟨λi=>(hb.cell (p:=⟨b,i,none⟩) hB).trans (h.1 i),λi=>(hb.frozen (p:=⟨b,i,none⟩) hB).trans (h.2.1 i),bM h.2.2 hb.size⟩
theorem Bx.keep {X w':m}{b:Nat}{cs:j f}(h:Bx X b cs)(hb:Below X.1.size X w'):Bx w' b cs:=h.below hb h.2.2
theorem Bx.drew {X:m}{b:Nat}{cs:j f}(h:Bx X b cs):Bx X.drew b cs:=h
theorem Bx.drewN {X:m}{b:Nat}{cs:j f}(h:Bx X b cs)(n:Nat):Bx (X.drewN n) b cs:=h
theorem Bx.alloc {X:m}{b:Nat}{cs:j f}(h:Bx X b cs)(o:Obj):Bx (X.alloc o) b cs:=h.keep ((Below.refl _ _).alloc (aB _) _)
theorem Bx.new (X:m)(cs:j f)(T:TypeId):Bx (X.alloc (.cells cs T)) X.1.size cs:=
 ⟨λi=>World.cell?_alloc_new X cs T i,λi=>by
  have h:(X.alloc (.cells cs T)).1[X.1.size]?=some (.cells cs T (0,0)):=by show(X.1.push _)[_]?=_;simp
  unfold World.frozen?;simp only[h];simp,by simp⟩
theorem Bx.other {X:m}{b:Nat}{cs:j f}(h:Bx X b cs){p:Addr}(hp:b≠p.block)(v:f):Bx (X.setCell p v) b cs:=by
 have e:=Below.heap_setCell X p v b hp;refine⟨λi=>(World.cell?_of_block (a:=⟨b,i,none⟩) e).trans (h.1 i),λi=>(World.frozen?_of_block (a:=⟨b,i,none⟩) e).trans (h.2.1 i),?_⟩;have:=h.2.2
 simpa[World.setCell] using this
theorem adi {X w':m}{a b:Nat}{c d:j f}(h:Bx X a c/\Bx X b d)(hb:Below X.1.size X w'):Bx w' a c/\Bx w' b d:=⟨h.1.keep hb,h.2.keep hb⟩
theorem NU {X w':m}{a b g:Nat}{c d e:j f}(h:Bx X a c/\Bx X b d/\Bx X g e)(hb:Below X.1.size X w'):Bx w' a c/\Bx w' b d/\Bx w' g e:=⟨h.1.keep hb,adi h.2 hb⟩
@[reducible] def Lj (s:Wa):j f:=#[.int .i64 s.bW,.int .i64 s.bits]
@[reducible] def R7 (s:To):j f:=#[.string ⟨s.name.toArray⟩,.int .i64 s.k]
@[reducible] def aS (e:EvC):j f:=#[.int .i64 e.kind,.int .i64 e.t,.int .i64 e.bW,.int .i64 e.lvl,.int .i64 e.obj,.int .i64 e.v.t,.int .i64 e.v.k,.int .i64 e.pred,.slice e.sa e.sn e.sc]
@[reducible] def Lh (s:aM):j f:=#[.int .i64 s.obj,.slice s.sa s.sn s.sc]
@[reducible] def Li (s:aN):j f:=#[.int .i64 s.pred,.int .i64 s.obj,.bool s.first,.slice s.sa s.sn s.sc]
@[reducible] def bJ (l:bE):j f:=#[.int .i64 l.kind,.slice l.na l.nn l.nc,.int .i64 l.lvl,.slice l.va l.vn l.vc,.bool l.first,.int .i64 l.bits]
def uF (v u:f)(w:m)(e:Ending)(w':m):Prop:=e= .returned (.tuple #[v,u])/\Below w.1.size w w'
end Yd
namespace Yd
open Bool renaming false->L
open Option renaming some->d
open Go Go.RowKit Go.Proofs Tryz
open Below renaming refl->j
open Go renaming World->u,Calls->S,Value->V
open Go.Value renaming bool->M
open RowKit renaming intOf->O
open Tryz renaming prog->G
open World renaming putObj_heap_other->E
open _root_ renaming Nat->K,Int->N,List->U
def aQ (D:K->Prop)(W W':u):Prop:=W.1.size<=W'.1.size/\∀i,D i->i<W.1.size->W'.1[i]?=W.1[i]?
theorem aQ.trans {D:K->Prop}{A B C:u}(h:aQ D A B)(k:aQ D B C):aQ D A C:=
 ⟨bX h.1 k.1,λi hi hl=>(k.2 i hi (bM hl h.1)).trans (h.2 i hi hl)⟩
theorem aQ.refl {D:K->Prop}(A:u):aQ D A A:=⟨aB _,λ_ _ _=>rfl⟩
theorem aQ.mono {D D':K->Prop}{A B:u}(h:aQ D A B)(hd:∀i,D' i->i<A.1.size->D i):aQ D' A B:=⟨h.1,λi hi hl=>h.2 i (hd i hi hl) hl⟩
theorem aQ.putObj {D:K->Prop}(A:u){l:K}(o:Obj)(hl:¬D l):aQ D A (A.putObj l o):=
 ⟨Nat.le_of_eq World.putObj_size.symm,λ_i hi _=>E (λe=>hl (e▸hi))⟩
theorem aQ.of_below {D:K->Prop}{B:K}{X Y:u}(h:Below B X Y)(hd:∀i,D i->i<X.1.size->i<B):aQ D X Y:=⟨h.size,λi hi hl=>h.block i (hd i hi hl)⟩
structure Same (A:K->Prop)(X Y:u):Prop where
 os:Y.os=X.os
 tape:Y.tape=X.tape
 output:Y.output=X.output
 size:X.1.size<=Y.1.size
 block:∀i,A i->i<X.1.size->Y.1[i]?=X.1[i]?
theorem Same.of_below {A:K->Prop}{B:K}{X Y:u}(h:Below B X Y)(hd:∀i,A i->i<X.1.size->i<B):Same A X Y:=⟨h.os,h.tape,h.output,h.size,λi hi hl=>h.block i (hd i hi hl)⟩
theorem Same.mono {A A':K->Prop}{X Y:u}(h:Same A X Y)(hd:∀i,A' i->i<X.1.size->A i):Same A' X Y:=⟨h.os,h.tape,h.output,h.size,λi hi hl=>h.block i (hd i hi hl) hl⟩
theorem Same.tr {A:K->Prop}{X Y Z:u}(h:Same A X Y)(k:Same A Y Z):Same A X Z:=
 ⟨k.os.trans h.os,k.tape.trans h.tape,k.output.trans h.output,bX h.size k.size,λi hi hl=>(k.block i hi (bM hl h.size)).trans (h.block i hi hl)⟩
theorem Same.below {A:K->Prop}{B:K}{w X Y:u}(h:Below B w X)(k:Same A X Y)(hd:∀i,i<B->A i)(hB:B<=X.1.size):Below B w Y:=
 ⟨k.os.trans h.os,k.tape.trans h.tape,k.output.trans h.output,bX h.size k.size,λi hi=>(k.block i (hd i hi) ah).trans (h.block i hi)⟩
theorem Same.bx {A:K->Prop}{X Y:u}{b:K}{cs:Array V}(k:Same A X Y)(h:Bx X b cs)(ha:A b):Bx Y b cs:=
 ⟨λi=>(World.cell?_of_block (a:=⟨b,i,none⟩) (k.block b ha h.2.2)).trans (h.1 i),λi=>(World.frozen?_of_block (a:=⟨b,i,none⟩) (k.block b ha h.2.2)).trans (h.2.1 i),bM h.2.2 k.size⟩
theorem Same.putObj {A:K->Prop}(X:u){l:K}(o:Obj)(hl:¬A l):Same A X (X.putObj l o):=
 ⟨rfl,rfl,rfl,Nat.le_of_eq World.putObj_size.symm,λ_i hi _=>E (λe=>hl (e▸hi))⟩
def Ze (l:K)(r:Loop)(R:Ending->u->Prop):Exit->Act->u->Prop
 | .normal,_,W=>W.1[l]?=d (.loop {r with state:= .busy})/\R (.returned (M true)) (W.putObj l (.loop {r with state:= .ready,pending:=none}))
 | .ret,_,W=>W.1[l]?=d (.loop {r with state:= .busy})/\R (.returned (M L)) (W.putObj l (.loop {r with state:= .done,pending:=some .ret}))
 | .exit id,_,W=>W.1[l]?=d (.loop {r with state:= .busy})/\R (.returned (M L)) (W.putObj l (.loop {r with state:= .done,pending:=some (.exit id)}))
 | .goto t,_,W=>W.1[l]?=d (.loop {r with state:= .busy})/\R (.returned (M L)) (W.putObj l (.loop {r with state:= .done,pending:=some (.goto t)}))
 | .panic _,_,_=>False
 | .outgrown,_,_=>False
theorem AU {F:Fence}{n:K}{P:Program}{l:K}{r:Loop}{args:Array V}{W:u}{R:Ending->u->Prop}
  (hl:W.1[l]?=d (.loop r)) (hr:r.state= .ready) (hF:F.fn r.fn) (hs:args.size=r.params.size)
  (h:r.assign.wpIn (F.inRound l) n P (Exit.then (λa₁ W₁=>W₁.1[l]?=d (.loop r)/\r.body.wpIn (F.inRound l) n P (Ze l r R) a₁ (W₁.putObj l (.loop {r with state:= .busy}))) (λ_ _ _=>False))
   {tmps:=(r.params.zip args).foldl (λt (p,v)=>t.setIfInBounds p v) r.tmps,defers:=[]} W):YieldAt F n P l args W R:=by
 refine⟨r.fn,_,r.assign,r.body,run_yield hl hs,roundIn_of_wpIn hF ?_⟩;refine wpIn_mono h ?_;rintro e a₁ W₁ hp
 cases e with
 |normal=>
  obtain⟨hl1,hb⟩:=hp;refine⟨_,run_beginRound hl1 hr,wpIn_mono hb ?_⟩;rintro e a₂ W₂ hq
  cases e with
  |normal=>exact⟨_,_,run_endRound none hq.1,hq.2⟩
  |ret=>exact⟨_,_,run_endRound (d .ret) hq.1,hq.2⟩
  |exit id=>exact⟨_,_,run_endRound (d (.exit id)) hq.1,hq.2⟩
  |goto t=>exact⟨_,_,run_endRound (d (.goto t)) hq.1,hq.2⟩
  |panic _=>exact hq.elim
  |outgrown=>exact hq.elim
 |_=>exact hp.elim
def Iter (P:Program)(gf:K)(lb:Array V){α:Type}(qP:α->Array V->u->Prop)(k:K)(D:K->Prop)(xs:U α)(W:u):Prop:=
 ∀(n l:K)(J Jx:U α->u->Prop),
  (∀s X Y,J s X->Same (λi=>i<W.1.size\/W.1.size+k<=i) X Y->J s Y)->
  (∀s X Y,Jx s X->Same (λi=>i<W.1.size\/W.1.size+k<=i) X Y->Jx s Y)->
  (∀pre x args X,J pre X->pre++[x]<+:xs->qP x args X->W.1.size+k<=X.1.size->∀m,YieldAt Fence.wide m P l args X λe Y=>
   (e= .returned (M true)/\J (pre++[x]) Y/\aQ D X Y)\/(e= .returned (M L)/\Jx (pre++[x]) Y/\aQ D X Y))->
  J [] W->
  CallsIn Fence.wide n P gf (#[.func (.yield l) #[] #[]]++lb) W λe Y=>∃v,e= .returned v/\(J xs Y\/∃pre,pre<+:xs/\Jx pre Y)
def EQ {α:Type}(l:K)(D:K->Prop)(I:U α->u->Prop)(Ix:Code->U α->u->Prop)(xs:U α)(X:u):Exit->Act->u->Prop
 | .normal,_,Y=>(Y.1[l]?=X.1[l]?/\Y.1[l+1]?=X.1[l+1]?)/\aQ D X Y/\I xs Y
 | .ret,_,Y=>(Y.1[l]?=X.1[l]?/\Y.1[l+1]?=X.1[l+1]?)/\aQ D X Y/\Ix .ret xs Y
 | .exit id,_,Y=>(Y.1[l]?=X.1[l]?/\Y.1[l+1]?=X.1[l+1]?)/\aQ D X Y/\Ix (.exit id) xs Y
 | .goto t,_,Y=>(Y.1[l]?=X.1[l]?/\Y.1[l+1]?=X.1[l+1]?)/\aQ D X Y/\Ix (.goto t) xs Y
 | .panic _,_,_=>False
 | .outgrown,_,_=>False
theorem BS {P:Program}{α:Type}{g:Operand}{ps:Array Tmp}{assign body:Code}{Q:Exit->Act->u->Prop}{a:Act}{w:u}{n:K}
  {gf:K} {lb:Array V} (hg:a.eval g= .func (.func gf) #[] lb) (eg:∀args w,(callFunc gf args).run P w= .ok (.enter gf args) w)
  {qP:α->Array V->u->Prop} {k:K} {D:K->Prop} {xs:U α}
  (hseq:∀W,Below w.1.size w W->W.1.size=w.1.size+2->Iter P gf lb qP k D xs W)
  (hD:¬D (w.1.size+1)) (hps:∀x args X,qP x args X->args.size=ps.size)
  (I:U α->u->Prop) (Ix:Code->U α->u->Prop)
  (hI:∀s X Y,I s X->Same (λi=>i<w.1.size\/w.1.size+2+k<=i) X Y->I s Y)
  (hIx:∀c s X Y,Ix c s X->Same (λi=>i<w.1.size\/w.1.size+2+k<=i) X Y->Ix c s Y)
  (h0:I [] w)
  (BM:∀pre x args X,I pre X->pre++[x]<+:xs->qP x args X->w.1.size+2+k<=X.1.size->∀m,
   assign.wpIn (Fence.wide.inRound (w.1.size+1)) m P (Exit.then (λa₁ X₁=>Below X.1.size X X₁/\∀X₂:u,Same (λi=>i≠w.1.size+1) X₁ X₂->
     body.wpIn (Fence.wide.inRound (w.1.size+1)) m P (EQ w.1.size D I Ix (pre++[x]) X₂) a₁ X₂) (λ_ _ _=>False))
    {tmps:=(ps.zip args).foldl (λt (p,v)=>t.setIfInBounds p v) a.tmps,defers:=[]} X)
  (hdone:∀X,I xs X->X.1[w.1.size]?=d (.deferred (d []))->Q .normal {a with defers:={target:= .collected w.1.size,args:=#[]}::a.defers} X)
  (hstop:∀c pre X,pre<+:xs->Ix c pre X->X.1[w.1.size]?=d (.deferred (d []))->c.wpIn Fence.wide n P Q {a with defers:={target:= .collected w.1.size,args:=#[]}::a.defers} X):
  (Code.rangeFunc g ps assign body).wpIn Fence.wide n P Q a w:=by
 refine wpIn_rangeFunc ?_;intro fn hfn;obtain⟨r,hr⟩:∃r:Loop,r={state:= .ready,pending:=none,fn,tmps:=a.tmps,params:=ps,assign,body,defers:=w.1.size}:=⟨_,rfl⟩;obtain⟨W1,hW1⟩:∃W1,(w.alloc (.deferred (d []))).alloc (.loop r)=W1:=⟨_,rfl⟩;have hs1:W1.1.size=w.1.size+2:=by rw[<-hW1];simp
 have hL1:W1.1[w.1.size+1]?=d (.loop r):=by
  rw[<-hW1];have:=World.alloc_heap_new (w.alloc (.deferred (d []))) (.loop r);rwa[World.size_alloc] at this
 have hK1:W1.1[w.1.size]?=d (.deferred (d [])):=by
  rw[<-hW1];exact(Below.heap_alloc _ _ _ ak).trans (World.alloc_heap_new w _)
 have hb1:Below w.1.size w W1:=by rw[<-hW1];exact((j _ w).alloc (aB _) _).alloc ak _
 have hI1:I [] W1:=hI _ _ _ h0 (.of_below hb1 (λi _ hi=>hi));refine⟨w.1.size+1,[{target:= .collected w.1.size,args:=#[]}],W1,{target:= .fn (.func gf) lb,args:=#[.func (.yield (w.1.size+1)) #[] #[]]},W1,gf,
  #[.func (.yield (w.1.size+1)) #[] #[]]++lb,W1,?_,?_,λ_ _=>trivial,?_,λh=>(by cases h),?_⟩
 .rw[<-hW1,hr];exact run_enterLoop_outer _ _ _ _ _
 .simp only[resolve,hg]
  simp[go_sem]
 .simp[invoke,go_sem,eg]
 have hput:∀(s:U α)(X:u)(o:Obj),I s X->I s (X.putObj (w.1.size+1) o):=λs X o h=>hI s _ _ h (.putObj X o ah)
 have oK:∀(c:Code)(s:U α)(X:u)(o:Obj),Ix c s X->Ix c s (X.putObj (w.1.size+1) o):=λc s X o h=>hIx c s _ _ h (.putObj X o ah)
 refine(hseq W1 hb1 hs1 (n - 1) (w.1.size+1)
  (λpre X=>I pre X/\X.1[w.1.size+1]?=d (.loop r)/\X.1[w.1.size]?=d (.deferred (d [])))
  (λpre X=>∃c,Ix c pre X/\X.1[w.1.size+1]?=d (.loop {r with state:= .done,pending:=some c})/\X.1[w.1.size]?=d (.deferred (d [])))
  ?_ ?_ ?_ ⟨hI1,hL1,hK1⟩).mono ?_
 .rintro s X Y ⟨h1,h2,h3⟩ hsame
  have e2:=(dh.1 h2).1;exact⟨hI s X Y h1 (hsame.mono (λi hi hl=>by omega)),(hsame.block _ ah e2).trans h2,(hsame.block _ ah ah).trans h3⟩
 .rintro s X Y ⟨c,h1,h2,h3⟩ hsame
  have e2:=(dh.1 h2).1;exact⟨c,hIx c s X Y h1 (hsame.mono (λi hi hl=>by omega)),(hsame.block _ ah e2).trans h2,(hsame.block _ ah ah).trans h3⟩
 .rintro pre x args X ⟨hi,hl,hk⟩ hpx hrep hsz m
  have hra:r.assign=assign:=by rw[hr]
  have hrb:r.body=body:=by rw[hr]
  have um:r.params=ps:=by rw[hr]
  have hrt:r.tmps=a.tmps:=by rw[hr]
  have hrs:r.state= .ready:=by rw[hr]
  have hrn:r.pending=none:=by rw[hr]
  have hrr:({r with state:= .ready,pending:=none}:Loop)=r:=by rw[hr]
  refine AU hl hrs trivial (by rw[um];exact hps x args X hrep) ?_;have hR:=BM pre x args X hi hpx hrep ah m;rw[<-hra,<-hrb,<-um,<-hrt] at hR;refine wpIn_mono hR ?_;rintro e a1 X1 hp
  cases e with
  |normal=>
   obtain⟨hb,hbody⟩:=hp;have TU:=(dh.1 hl).1;have hl1:X1.1[w.1.size+1]?=d (.loop r):=(hb.block _ ah).trans hl;have hk1:X1.1[w.1.size]?=d (.deferred (d [])):=(hb.block _ ah).trans hk;have hlt1:=(dh.1 hl1).1;refine⟨hl1,wpIn_mono (hbody _ (.putObj X1 _ ah)) ?_⟩;have hl2:(X1.putObj (w.1.size+1) (.loop {r with state:= .busy})).1[w.1.size+1]?=d (.loop {r with state:= .busy}):=World.putObj_heap_same hlt1;have hk2:(X1.putObj (w.1.size+1) (.loop {r with state:= .busy})).1[w.1.size]?=d (.deferred (d [])):=(E ah).trans hk1;rintro e a3 X3 hq;have fin:∀o,X3.1[w.1.size+1]?=(X1.putObj (w.1.size+1) (.loop {r with state:= .busy})).1[w.1.size+1]?->(X3.putObj (w.1.size+1) o).1[w.1.size+1]?=d o:=λo h=>
    World.putObj_heap_same ((dh.1 (h.trans hl2)).1)
   have keep:∀o,aQ D (X1.putObj (w.1.size+1) (.loop {r with state:= .busy})) X3->aQ D X (X3.putObj (w.1.size+1) o):=λo hC=>
    (aQ.of_below hb (λi _ hi=>hi)).trans (((aQ.putObj X1 _ hD).trans hC).trans (aQ.putObj X3 _ hD))
   cases e with
   |normal=>
    obtain⟨⟨hA,hB⟩,hC,hE⟩:=hq;refine⟨hB.trans hl2,.inl ⟨rfl,⟨hput _ _ _ hE,(fin _ hB).trans (by rw[hrr]),(E ah).trans (hA.trans hk2)⟩,?_⟩⟩;exact(aQ.of_below hb (λi _ hi=>hi)).trans (((aQ.putObj X1 _ hD).trans hC).trans (aQ.putObj X3 _ hD))
   |ret=>
    obtain⟨⟨hA,hB⟩,hC,hE⟩:=hq;exact⟨hB.trans hl2,.inr ⟨rfl,⟨.ret,oK _ _ _ _ hE,fin _ hB,(E ah).trans (hA.trans hk2)⟩,keep _ hC⟩⟩
   |exit id=>
    obtain⟨⟨hA,hB⟩,hC,hE⟩:=hq;exact⟨hB.trans hl2,.inr ⟨rfl,⟨.exit id,oK _ _ _ _ hE,fin _ hB,(E ah).trans (hA.trans hk2)⟩,keep _ hC⟩⟩
   |goto t=>
    obtain⟨⟨hA,hB⟩,hC,hE⟩:=hq;exact⟨hB.trans hl2,.inr ⟨rfl,⟨.goto t,oK _ _ _ _ hE,fin _ hB,(E ah).trans (hA.trans hk2)⟩,keep _ hC⟩⟩
   |panic _=>exact hq.elim
   |outgrown=>exact hq.elim
  |_=>exact hp.elim
 .rintro e X2 ⟨v,rfl,(⟨hi,hl,hk⟩|⟨pre,hpre,c,hi,hl,hk⟩)⟩
  .exact⟨none,_,by have:=run_endLoop (P:=P) hl (by rw[hr];simp);rwa[hr] at this,hdone _ (hput _ _ _ hi) ((E ah).trans hk)⟩
  .exact⟨d c,_,run_endLoop (P:=P) hl ak,hstop c pre _ hpre (oK _ _ _ _ hi) ((E ah).trans hk)⟩
def kS (r:N):Bool:=decide (48<=r) && decide (r<=57)
theorem oh (r:N)(w:u):S G 114 #[.int .i32 r] w (dw (M (kS r)) w):=by
 by_cases h1:48<=r
 .by_cases h2:r<=57
  .have hq:kS r=true:=by simp[kS,h1,h2]
   rw[hq];clear hq;go_enter func114,ntmps114;go_wp2_with fail;go_ret;exact⟨rfl,j _ _⟩
  .have hq:kS r=L:=by simp[kS,h2]
   rw[hq];clear hq;go_enter func114,ntmps114;go_wp2_with fail;go_ret;exact⟨rfl,j _ _⟩
 .have hq:kS r=L:=by simp[kS,h1]
  rw[hq];clear hq;go_enter func114,ntmps114;go_wp2_with fail;go_ret;exact⟨rfl,j _ _⟩
def kC (r:N):Bool:=decide (r=95)||(decide (97<=r) && decide (r<=122))||(decide (65<=r) && decide (r<=90))||decide (128<=r)
theorem ab4 (r:N)(w:u)(h0:r=95)(_h1:¬97<=r)(_h2:r<=122)(_h3:65<=r)(_h4:¬r<=90)(_h5:¬128<=r):S G 148 #[.int .i32 r] w (dw (M true) w):=by
 skip;go_enter func148,ntmps148;go_wp2_with fail;go_ret;exact⟨rfl,j _ _⟩
theorem ab5 (r:N)(w:u)(h0:¬r=95)(h1:97<=r)(h2:r<=122)(_h3:65<=r)(_h4:¬r<=90)(_h5:¬128<=r):S G 148 #[.int .i32 r] w (dw (M true) w):=by
 have hb:(r==95)=L:=aU.2 h0;go_enter func148,ntmps148;go_wp2_with fail;go_ret;exact⟨rfl,j _ _⟩
theorem ab6 (r:N)(w:u)(h0:¬r=95)(h1:97<=r)(h2:¬r<=122)(h3:65<=r)(h4:¬r<=90)(h5:¬128<=r):S G 148 #[.int .i32 r] w (dw (M L) w):=by
 have hb:(r==95)=L:=aU.2 h0;go_enter func148,ntmps148;go_wp2_with fail;go_ret;exact⟨rfl,j _ _⟩
theorem ab7 (r:N)(w:u)(h0:¬r=95)(h1:97<=r)(h2:¬r<=122)(h3:65<=r)(h4:¬r<=90)(h5:128<=r):S G 148 #[.int .i32 r] w (dw (M true) w):=by
 have hb:(r==95)=L:=aU.2 h0;go_enter func148,ntmps148;go_wp2_with fail;go_ret;exact⟨rfl,j _ _⟩
theorem ab8 (r:N)(w:u)(h0:¬r=95)(h1:¬97<=r)(_h2:r<=122)(h3:65<=r)(h4:r<=90)(_h5:¬128<=r):S G 148 #[.int .i32 r] w (dw (M true) w):=by
 have hb:(r==95)=L:=aU.2 h0;go_enter func148,ntmps148;go_wp2_with fail;go_ret;exact⟨rfl,j _ _⟩
theorem ab9 (r:N)(w:u)(h0:¬r=95)(h1:¬97<=r)(_h2:r<=122)(h3:65<=r)(h4:¬r<=90)(h5:¬128<=r):S G 148 #[.int .i32 r] w (dw (M L) w):=by
 have hb:(r==95)=L:=aU.2 h0;go_enter func148,ntmps148;go_wp2_with fail;go_ret;exact⟨rfl,j _ _⟩
theorem ab' (r:N)(w:u)(h0:¬r=95)(h1:¬97<=r)(_h2:r<=122)(h3:¬65<=r)(_h4:r<=90)(h5:¬128<=r):S G 148 #[.int .i32 r] w (dw (M L) w):=by
 have hb:(r==95)=L:=aU.2 h0;go_enter func148,ntmps148;go_wp2_with fail;go_ret;exact⟨rfl,j _ _⟩
theorem V7 (r:N)(w:u):S G 148 #[.int .i32 r] w (dw (M (kC r)) w):=by
 by_cases h0:r=95
 .have hq:kC r=true:=by simp[kC,h0]
  rw[hq];exact ab4 r w h0 ah ah ah ah ah
 by_cases h1:97<=r
 .by_cases h2:r<=122
  .have hq:kC r=true:=by simp[kC,h1,h2]
   rw[hq];exact ab5 r w h0 h1 h2 ah ah ah
  .by_cases h5:128<=r
   .have hq:kC r=true:=by simp[kC,h5]
    rw[hq];exact ab7 r w h0 h1 h2 ah ah h5
   .have hq:kC r=L:=by simp[kC];omega
    rw[hq];exact ab6 r w h0 h1 h2 ah ah h5
 .by_cases h3:65<=r
  .by_cases h4:r<=90
   .have hq:kC r=true:=by simp[kC,h3,h4]
    rw[hq];exact ab8 r w h0 h1 ah h3 h4 ah
   .have hq:kC r=L:=by simp[kC];omega
    rw[hq];exact ab9 r w h0 h1 ah h3 h4 ah
  .have hq:kC r=L:=by simp[kC];omega
   rw[hq];exact ab' r w h0 h1 ah h3 ah ah
def jJ (r:N):Bool:=kC r||kS r
theorem DR (r:N)(w:u):S G 116 #[.int .i32 r] w (dw (M (jJ r)) w):=by
 cases hl:kC r
 all_goals
  have HL:=hid hl;clear hl;go_enter func116,ntmps116;go_wp2_with fail;refine(V7 r w).mono ?_;rintro e w1 ⟨rfl,hb1⟩;rw[HL.q];have HB:=hid hb1;clear hb1;go_wp2_with fail
 .refine(oh r w1).mono ?_
  rintro e w2 ⟨rfl,hb2⟩;go_wp2_with fail;go_ret;exact⟨by simp[jJ,HL.q],HB.q.bZ hb2⟩
 .go_ret
  exact⟨by simp[jJ,HL.q],HB.q⟩
def JR {α:Type}(F:K)(val:α->V):Prop:=∀(x:α)(f:K)(cap:Array V)(p:α->Bool)(bp:K)(W:u),W.cell? ⟨bp,0,none⟩=d (.func (.func f) #[] cap)->
  (∀args w,(callFunc f args).run G w= .ok (.enter f args) w)->(∀W',Below W.1.size W W'->S G f (#[val x]++cap) W' (dw (M (p x)) W'))->S G F #[val x,.pointer (d ⟨bp,0,none⟩)] W (dw (M (!p x)) W)
def LQ {α:Type}(F k:K)(en:α->U V)(val:α->V):Prop:=∀(a:Option Addr)(n c f:K)(cap:Array V)(cs:U α)(p:α->Bool)(w:u),Row w k en a n c cs->
  (∀args w,(callFunc f args).run G w= .ok (.enter f args) w)->Rf G f cap val p cs w->S G F #[.slice a n c,.func (.func f) #[] cap] w (dw (M (cs.all p)) w)
theorem yY {α:Type}{F:K}{val:α->V}(hN:JR F val){f:K}{cap:Array V}{p:α->Bool}{cs:U α}{w:u}(T:TypeId)(eg:∀args w,(callFunc f args).run G w= .ok (.enter f args) w)
  (hp:Rf G f cap val p cs w):Rf G F #[.pointer (d ⟨w.1.size,0,none⟩)] val (λx=>!p x) cs (w.alloc (.cells #[.func (.func f) #[] cap] T)):=λx hx W hW=>
 hN x f cap p w.1.size W (by rw[hW.cell (p:=⟨w.1.size,0,none⟩) ak];simp) eg
  (λW' hW'=>hp x hx W' (((j _ _).alloc (aB _) _).trans ((hW.mono ak).trans (hW'.mono (by have:=hW.size;simp at this;omega)))))
theorem AY {α:Type}(cs:U α)(p:α->Bool):cs.all p=!cs.any (λx=>!p x):=by simp[List.any_eq_not_all_not]
theorem LU {p:Prop}(h:p:=by
 go_wp2_with fail
 first|refine(H.q _ ((j _ _).alloc (aB _) _)).mono ?_|refine(H.q _ (j _ _)).mono ?_
 rintro e w1 ⟨rfl,hb1⟩;go_wp2_with fail;go_ret
 first|exact⟨rfl,hb1⟩|exact⟨rfl,((j _ _).alloc (aB _) _).trans (hb1.mono ak)⟩):p:=h
theorem ajo:JR 118 K9:=λx f cap p bp W hc eg hcall=>by
 have H:=hid hcall;clear hcall;have hbp:bp<W.1.size:=dR hc;go_enter func118,ntmps118;exact LU
theorem ag8:LQ 72 1 aX K9:=λa n c f cap cs p w hr eg hp=>by
 have HB:=(j w.1.size w).alloc (aB _) (.cells #[.func (.func f) #[] cap] 154);have H:=hid (afg a n c 118 #[.pointer (d ⟨w.1.size,0,none⟩)] cs (λx=>!p x) _ (hr.below HB rfl) call118 (yY ajo _ eg hp));have sZ:=hid HB;clear HB hp hr;go_enter func72,ntmps72
 go_wp2_with (go_at_call 117;refine H.q.mono ?_;rintro e w1 ⟨rfl,hb1⟩)
 go_ret;exact⟨by rw[AY];rfl,sZ.q.trans (hb1.mono ak)⟩
theorem ak':JR 119 fZ:=λx f cap p bp W hc eg hcall=>by
 have H:=hid hcall;clear hcall;have hbp:bp<W.1.size:=dR hc;go_enter func119,ntmps119;exact LU
theorem akZ:LQ 75 9 eB fZ:=λa n c f cap cs p w hr eg hp=>by
 have HB:=(j w.1.size w).alloc (aB _) (.cells #[.func (.func f) #[] cap] 94);have H:=hid (ajj a n c 119 #[.pointer (d ⟨w.1.size,0,none⟩)] cs (λx=>!p x) _ (hr.below HB rfl) call119 (yY ak' _ eg hp));have sZ:=hid HB;clear HB hp hr;go_enter func75,ntmps75
 go_wp2_with (go_at_call 33;refine H.q.mono ?_;rintro e w1 ⟨rfl,hb1⟩)
 go_ret;exact⟨by rw[AY];rfl,sZ.q.trans (hb1.mono ak)⟩
theorem ala:JR 130 za:=λx f cap p bp W hc eg hcall=>by
 have H:=hid hcall;clear hcall;have hbp:bp<W.1.size:=dR hc;go_enter func130,ntmps130;exact LU
theorem ak0:LQ 78 2 fB za:=λa n c f cap cs p w hr eg hp=>by
 have HB:=(j w.1.size w).alloc (aB _) (.cells #[.func (.func f) #[] cap] 158);have H:=hid (ajk a n c 130 #[.pointer (d ⟨w.1.size,0,none⟩)] cs (λx=>!p x) _ (hr.below HB rfl) call130 (yY ala _ eg hp));have sZ:=hid HB;clear HB hp hr;go_enter func78,ntmps78
 go_wp2_with (go_at_call 129;refine H.q.mono ?_;rintro e w1 ⟨rfl,hb1⟩)
 go_ret;exact⟨by rw[AY];rfl,sZ.q.trans (hb1.mono ak)⟩
theorem alb:JR 132 ze:=λx f cap p bp W hc eg hcall=>by
 have H:=hid hcall;clear hcall;have hbp:bp<W.1.size:=dR hc;go_enter func132,ntmps132;exact LU
theorem ak1:LQ 80 4 fD ze:=λa n c f cap cs p w hr eg hp=>by
 have HB:=(j w.1.size w).alloc (aB _) (.cells #[.func (.func f) #[] cap] 160);have H:=hid (ajl a n c 132 #[.pointer (d ⟨w.1.size,0,none⟩)] cs (λx=>!p x) _ (hr.below HB rfl) call132 (yY alb _ eg hp));have sZ:=hid HB;clear HB hp hr;go_enter func80,ntmps80
 go_wp2_with (go_at_call 131;refine H.q.mono ?_;rintro e w1 ⟨rfl,hb1⟩)
 go_ret;exact⟨by rw[AY];rfl,sZ.q.trans (hb1.mono ak)⟩
theorem alc:JR 134 zf:=λx f cap p bp W hc eg hcall=>by
 have H:=hid hcall;clear hcall;have hbp:bp<W.1.size:=dR hc;go_enter func134,ntmps134;exact LU
theorem ak2:LQ 82 2 gH zf:=λa n c f cap cs p w hr eg hp=>by
 have HB:=(j w.1.size w).alloc (aB _) (.cells #[.func (.func f) #[] cap] 162);have H:=hid (ajm a n c 134 #[.pointer (d ⟨w.1.size,0,none⟩)] cs (λx=>!p x) _ (hr.below HB rfl) call134 (yY alc _ eg hp));have sZ:=hid HB;clear HB hp hr;go_enter func82,ntmps82
 go_wp2_with (go_at_call 133;refine H.q.mono ?_;rintro e w1 ⟨rfl,hb1⟩)
 go_ret;exact⟨by rw[AY];rfl,sZ.q.trans (hb1.mono ak)⟩
theorem ald:JR 151 CG:=λx f cap p bp W hc eg hcall=>by
 have H:=hid hcall;clear hcall;have hbp:bp<W.1.size:=dR hc;go_enter func151,ntmps151;exact LU
theorem akw:LQ 126 3 dV CG:=λa n c f cap cs p w hr eg hp=>by
 have HB:=(j w.1.size w).alloc (aB _) (.cells #[.func (.func f) #[] cap] 192);have H:=hid (ajn a n c 151 #[.pointer (d ⟨w.1.size,0,none⟩)] cs (λx=>!p x) _ (hr.below HB rfl) call151 (yY ald _ eg hp));have sZ:=hid HB;clear HB hp hr;go_enter func126,ntmps126
 go_wp2_with (go_at_call 150;refine H.q.mono ?_;rintro e w1 ⟨rfl,hb1⟩)
 go_ret;exact⟨by rw[AY];rfl,sZ.q.trans (hb1.mono ak)⟩
theorem adL (a a':Option Addr)(n c n' c':K)(xs ys:U N)(w:u)(hr:Row w 1 aX a n c xs)(hr':Row w 1 aX a' n' c' ys):
  S G 26 #[.slice a n c,.slice a' n' c'] w (dw (M (decide (xs=ys))) w):=by
 have hn:=hr.le;have hn':=hr'.le;have HR:=hid hr;have HR':=hid hr';clear hr hr';by_cases hl:n=n'
 .subst hl
  clear hn';go_enter Tryz.func26,Tryz.ntmps26;go_wp2_with fail
  go_loopw [13] (λi wr=>∃k:K,k<=n/\i= .int .i64 k/\xs.take k=ys.take k/\Below w.1.size w wr) (λi _=>n - (O i).toNat)
  case atStart=>exact⟨0,aZ _,rfl,rfl,j _ _⟩
  case round=>
   obtain⟨k,hk,rfl,hf,hb⟩:=hrel;have HF:=hid hf;clear hf;by_cases hlt:k<n
   .have hi1:(0:N)<=(k:N):=by omega
    have hi2:(k:N)<(n:N):=by omega
    obtain⟨x,b,o,hx,rfl,hc⟩:=HR.q.at_ hlt;obtain⟨y,b',o',hy,rfl,hc'⟩:=HR'.q.at_ hlt;have h0:=bn hb rfl (hc 0 _ rfl);simp only[gT,dM] at h0;have Au:=bn hb rfl (hc' 0 _ rfl);simp only[gT,dM] at Au;have HX:=hid hx;have HY:=hid hy;clear hc hc' hx hy;by_cases he:x=y
    .subst he
     go_wp2_with fail
     go_quiet (fail)
     go_wp2_with fail;refine⟨⟨k+1,by omega,by go_num,?_,gu hb _⟩,by simp[O];omega⟩;rw[jd,jd,HF.q,HX.q,HY.q]
    .have ht:(x==y)=L:=by simpa using he
     have HE:=hid he;clear he;go_wp2_with fail
     go_quiet (fail)
     go_wp2_with fail;go_ret;refine⟨?_,gu hb _⟩;have hne:xs≠ys:=λe=>HE.q (by have h1:=HX.q;have h2:=HY.q;rw[e,h2] at h1;exact(uX h1).symm)
     rw[bq hne];rfl
   .have hkn:k=n:=by omega
    go_wp2_with fail;go_ret;refine⟨?_,hb⟩;have e:xs=ys:=by
     have h:=HF.q
     rwa[iH (by rw[HR.q.len];omega),iH (by rw[HR'.q.len];omega)] at h
    rw[bN e];rfl
 .have hne:xs≠ys:=λe=>hl (by rw[<-HR.q.len,<-HR'.q.len,e])
  have hl':((n:N)==(n':N))=L:=aU.2 ah;have HN:=hid hne;clear hne hl;go_enter Tryz.func26,Tryz.ntmps26;go_wp2_with fail;go_ret;refine⟨?_,j _ _⟩;rw[bq HN.q];rfl
theorem akP (a a':Option Addr)(n c n' c':K)(xs ys:U Bs)(w:u)(hr:Row w 1 encStr a n c xs)(hr':Row w 1 encStr a' n' c' ys):
  S G 23 #[.slice a n c,.slice a' n' c'] w (dw (M (decide (xs=ys))) w):=by
 have hn:=hr.le;have hn':=hr'.le;have HR:=hid hr;have HR':=hid hr';clear hr hr';by_cases hl:n=n'
 .subst hl
  clear hn';go_enter func23,ntmps23;go_wp2_with fail
  go_loopw [13] (λi wr=>∃k:K,k<=n/\i= .int .i64 k/\xs.take k=ys.take k/\Below w.1.size w wr) (λi _=>n - (O i).toNat)
  case atStart=>exact⟨0,aZ _,rfl,rfl,j _ _⟩
  case round=>
   obtain⟨k,hk,rfl,hf,hb⟩:=hrel;have HF:=hid hf;clear hf;by_cases hlt:k<n
   .have hi1:(0:N)<=(k:N):=by omega
    have hi2:(k:N)<(n:N):=by omega
    obtain⟨x,b,o,hx,rfl,hc⟩:=HR.q.at_ hlt;obtain⟨y,b',o',hy,rfl,hc'⟩:=HR'.q.at_ hlt;have h0:=bn hb rfl (hc 0 _ rfl);simp only[gT,dM] at h0;have Au:=bn hb rfl (hc' 0 _ rfl);simp only[gT,dM] at Au;have HX:=hid hx;have HY:=hid hy;clear hc hc' hx hy;by_cases he:x=y
    .subst he
     go_wp2_with fail
     go_quiet (fail)
     go_wp2_with fail;refine⟨⟨k+1,by omega,by go_num,?_,gu hb _⟩,by simp[O];omega⟩;rw[jd,jd,HF.q,HX.q,HY.q]
    .have ht:(x==y)=L:=by simpa using he
     have HE:=hid he;clear he;go_wp2_with fail
     go_quiet (fail)
     go_wp2_with fail;go_ret;refine⟨?_,gu hb _⟩;have hne:xs≠ys:=λe=>HE.q (by have h1:=HX.q;have h2:=HY.q;rw[e,h2] at h1;exact(uX h1).symm)
     rw[bq hne];rfl
   .have hkn:k=n:=by omega
    go_wp2_with fail;go_ret;refine⟨?_,hb⟩;have e:xs=ys:=by
     have h:=HF.q
     rwa[iH (by rw[HR.q.len];omega),iH (by rw[HR'.q.len];omega)] at h
    rw[bN e];rfl
 .have hne:xs≠ys:=λe=>hl (by rw[<-HR.q.len,<-HR'.q.len,e])
  have hl':((n:N)==(n':N))=L:=aU.2 ah;have HN:=hid hne;clear hne hl;go_enter func23,ntmps23;go_wp2_with fail;go_ret;refine⟨?_,j _ _⟩;rw[bq HN.q];rfl
theorem aos (a a':Option Addr)(n c n' c':K)(xs ys:U Wa)(w:u)(hr:Row w 2 gH a n c xs)(hr':Row w 2 gH a' n' c' ys):
  S G 29 #[.slice a n c,.slice a' n' c'] w (dw (M (decide (xs=ys))) w):=by
 have hn:=hr.le;have hn':=hr'.le;have HR:=hid hr;have HR':=hid hr';clear hr hr';by_cases hl:n=n'
 .subst hl
  clear hn';go_enter Tryz.func29,Tryz.ntmps29;go_wp2_with fail
  go_loopw [13] (λi wr=>∃k:K,k<=n/\i= .int .i64 k/\xs.take k=ys.take k/\Below w.1.size w wr) (λi _=>n - (O i).toNat)
  case atStart=>exact⟨0,aZ _,rfl,rfl,j _ _⟩
  case round=>
   obtain⟨k,hk,rfl,hf,hb⟩:=hrel;have HF:=hid hf;clear hf;by_cases hlt:k<n
   .have hi1:(0:N)<=(k:N):=by omega
    have hi2:(k:N)<(n:N):=by omega
    obtain⟨x,b,o,hx,rfl,hc⟩:=HR.q.at_ hlt;obtain⟨y,b',o',hy,rfl,hc'⟩:=HR'.q.at_ hlt;have h0:=bn hb rfl (hc 0 _ rfl);have h1:=bn hb rfl (hc 1 _ rfl);simp only[dM] at h0;have Au:=bn hb rfl (hc' 0 _ rfl);have h'1:=bn hb rfl (hc' 1 _ rfl);simp only[dM] at Au;have HX:=hid hx;have HY:=hid hy;clear hc hc' hx hy;by_cases he:x=y
    .subst he
     go_wp2_with fail
     go_quiet (fail)
     go_wp2_with fail;refine⟨⟨k+1,by omega,by go_num,?_,gu hb _⟩,by simp[O];omega⟩;rw[jd,jd,HF.q,HX.q,HY.q]
    .have ht:=ajf x y;rw[bq he] at ht
     have HE:=hid he;clear he;go_wp2_with fail
     go_quiet (fail)
     go_wp2_with fail;go_ret;refine⟨?_,gu hb _⟩;have hne:xs≠ys:=λe=>HE.q (by have h1:=HX.q;have h2:=HY.q;rw[e,h2] at h1;exact(uX h1).symm)
     rw[bq hne];rfl
   .have hkn:k=n:=by omega
    go_wp2_with fail;go_ret;refine⟨?_,hb⟩;have e:xs=ys:=by
     have h:=HF.q
     rwa[iH (by rw[HR.q.len];omega),iH (by rw[HR'.q.len];omega)] at h
    rw[bN e];rfl
 .have hne:xs≠ys:=λe=>hl (by rw[<-HR.q.len,<-HR'.q.len,e])
  have hl':((n:N)==(n':N))=L:=aU.2 ah;have HN:=hid hne;clear hne hl;go_enter Tryz.func29,Tryz.ntmps29;go_wp2_with fail;go_ret;refine⟨?_,j _ _⟩;rw[bq HN.q];rfl
theorem anV (a a':Option Addr)(n c n' c':K)(xs ys:U Sn)(w:u)(hr:Row w 3 dV a n c xs)(hr':Row w 3 dV a' n' c' ys):
  S G 67 #[.slice a n c,.slice a' n' c'] w (dw (M (decide (xs=ys))) w):=by
 have hn:=hr.le;have hn':=hr'.le;have HR:=hid hr;have HR':=hid hr';clear hr hr';by_cases hl:n=n'
 .subst hl
  clear hn';go_enter func67,ntmps67;go_wp2_with fail
  go_loopw [13] (λi wr=>∃k:K,k<=n/\i= .int .i64 k/\xs.take k=ys.take k/\Below w.1.size w wr) (λi _=>n - (O i).toNat)
  case atStart=>exact⟨0,aZ _,rfl,rfl,j _ _⟩
  case round=>
   obtain⟨k,hk,rfl,hf,hb⟩:=hrel;have HF:=hid hf;clear hf;by_cases hlt:k<n
   .have hi1:(0:N)<=(k:N):=by omega
    have hi2:(k:N)<(n:N):=by omega
    obtain⟨x,b,o,hx,rfl,hc⟩:=HR.q.at_ hlt;obtain⟨y,b',o',hy,rfl,hc'⟩:=HR'.q.at_ hlt;have h0:=bn hb rfl (hc 0 _ rfl);have h1:=bn hb rfl (hc 1 _ rfl);have h2:=bn hb rfl (hc 2 _ rfl);simp only[dM] at h0;have Au:=bn hb rfl (hc' 0 _ rfl);have h'1:=bn hb rfl (hc' 1 _ rfl);have h'2:=bn hb rfl (hc' 2 _ rfl);simp only[dM] at Au;have HX:=hid hx;have HY:=hid hy;clear hc hc' hx hy;by_cases he:x=y
    .subst he
     go_wp2_with fail
     go_quiet (fail)
     go_wp2_with fail;refine⟨⟨k+1,by omega,by go_num,?_,gu hb _⟩,by simp[O];omega⟩;rw[jd,jd,HF.q,HX.q,HY.q]
    .have ht:=ajg x y;rw[bq he] at ht
     have HE:=hid he;clear he;go_wp2_with fail
     go_quiet (fail)
     go_wp2_with fail;go_ret;refine⟨?_,gu hb _⟩;have hne:xs≠ys:=λe=>HE.q (by have h1:=HX.q;have h2:=HY.q;rw[e,h2] at h1;exact(uX h1).symm)
     rw[bq hne];rfl
   .have hkn:k=n:=by omega
    go_wp2_with fail;go_ret;refine⟨?_,hb⟩;have e:xs=ys:=by
     have h:=HF.q
     rwa[iH (by rw[HR.q.len];omega),iH (by rw[HR'.q.len];omega)] at h
    rw[bN e];rfl
 .have hne:xs≠ys:=λe=>hl (by rw[<-HR.q.len,<-HR'.q.len,e])
  have hl':((n:N)==(n':N))=L:=aU.2 ah;have HN:=hid hne;clear hne hl;go_enter func67,ntmps67;go_wp2_with fail;go_ret;refine⟨?_,j _ _⟩;rw[bq HN.q];rfl
theorem pV {P:Program}{T:TypeId}{k by_:K}(h:(P.info? T).map (λi=>(i.zero.map (·.cells.size),i.size,i.bytes))=d (d k,k,by_)):
  ∃i z,P.info? T=d i/\i.zero=d z/\i.size=k/\i.bytes=by_/\z.cells.size=k:=by
 cases hi:P.info? T with
 |none=>rw[hi] at h;cases h
 |some i=>
  rw[hi] at h;simp only[Option.map_some,Option.some.injEq,Prod.mk.injEq] at h;obtain⟨h1,h2,h3⟩:=h
  cases hz:i.zero with
  |none=>rw[hz] at h1;cases h1
  |some z=>rw[hz] at h1;exact⟨i,z,rfl,hz,h2,h3,by simpa using h1⟩
theorem ajp:(Tryz.prog.info? 50).map (λi=>(i.zero.map (·.cells.size),i.size,i.bytes))=d (d 9,9,88):=ay
theorem Tm:∃i z,Tryz.prog.info? 50=d i/\i.zero=d z/\i.size=9/\i.bytes=88/\z.cells.size=9:=pV ajp
theorem ajq:(Tryz.prog.info? 144).map (λi=>(i.zero.map (·.cells.size),i.size,i.bytes))=d (d 2,2,24):=ay
theorem LG:∃i z,Tryz.prog.info? 144=d i/\i.zero=d z/\i.size=2/\i.bytes=24/\z.cells.size=2:=pV ajq
theorem afh:(Tryz.prog.info? 9).map (λi=>(i.zero.map (·.cells.size),i.size,i.bytes))=d (d 1,1,16):=ay
theorem nL:∃i z,Tryz.prog.info? 9=d i/\i.zero=d z/\i.size=1/\i.bytes=16/\z.cells.size=1:=pV afh
theorem afi:(Tryz.prog.info? 3).map (λi=>(i.zero.map (·.cells.size),i.size,i.bytes))=d (d 1,1,8):=ay
theorem Jt:∃i z,Tryz.prog.info? 3=d i/\i.zero=d z/\i.size=1/\i.bytes=8/\z.cells.size=1:=pV afi
theorem ajr:(Tryz.prog.info? 79).map (λi=>(i.zero.map (·.cells.size),i.size,i.bytes))=d (d 2,2,32):=ay
theorem Tw:∃i z,Tryz.prog.info? 79=d i/\i.zero=d z/\i.size=2/\i.bytes=32/\z.cells.size=2:=pV ajr
theorem ajs:(Tryz.prog.info? 84).map (λi=>(i.zero.map (·.cells.size),i.size,i.bytes))=d (d 4,4,48):=ay
theorem Tx:∃i z,Tryz.prog.info? 84=d i/\i.zero=d z/\i.size=4/\i.bytes=48/\z.cells.size=4:=pV ajs
theorem ajt:(Tryz.prog.info? 88).map (λi=>(i.zero.map (·.cells.size),i.size,i.bytes))=d (d 2,2,16):=ay
theorem Tv:∃i z,Tryz.prog.info? 88=d i/\i.zero=d z/\i.size=2/\i.bytes=16/\z.cells.size=2:=pV ajt
theorem aju:(Tryz.prog.info? 98).map (λi=>(i.zero.map (·.cells.size),i.size,i.bytes))=d (d 3,3,24):=ay
theorem Lm:∃i z,Tryz.prog.info? 98=d i/\i.zero=d z/\i.size=3/\i.bytes=24/\z.cells.size=3:=pV aju
theorem ajv:(Tryz.prog.info? 66).map (λi=>(i.zero.map (·.cells.size),i.size,i.bytes))=d (d 6,6,80):=ay
theorem SL:∃i z,Tryz.prog.info? 66=d i/\i.zero=d z/\i.size=6/\i.bytes=80/\z.cells.size=6:=pV ajv
end Yd
namespace Yd
open Option renaming some->d
open Go Go.RowKit
open Go renaming Value->p,World->A,TypeId->C
open Go.Value renaming slice->f
open Value renaming slice->l
theorem gX (w:A)(o:Obj):(w.alloc o).1[w.1.size]?=d o:=by
 show(w.1.push o)[w.1.size]?=d o;simp
def Own {α:Type}(w:A)(B:Nat)(E:C)(k:Nat)(enc:α->List p)(v:p)(xs:List α):Prop:=
 w.ownsRow B E k v xs.length (xs.flatMap enc)
class Cells {α:Type} (enc:α->List p) (k:Nat):Prop where
 len:∀x,(enc x).length=k
 pos:0<k
 one:∀x,∀u∈enc x,u.oneCell'=true
instance iP:Cells aX 1:=⟨λ_=>rfl,by decide,λx u h=>by simp[aX] at h;subst h;rfl⟩
instance ku:Cells encStr 1:=⟨λ_=>rfl,by decide,λx u h=>by simp[encStr] at h;subst h;rfl⟩
instance pJ:Cells dV 3:=⟨λ_=>rfl,by decide,λx u h=>by simp[dV] at h;rcases h with rfl|rfl|rfl <;> rfl⟩
instance sQ:Cells gH 2:=⟨λ_=>rfl,by decide,λx u h=>by simp[gH] at h;rcases h with rfl|rfl <;> rfl⟩
instance X9:Cells sI 2:=⟨λ_=>rfl,by decide,λx u h=>by simp[sI] at h;rcases h with rfl|rfl <;> rfl⟩
instance rC:Cells fB 2:=⟨λ_=>rfl,by decide,λx u h=>by simp[fB] at h;rcases h with rfl|rfl <;> rfl⟩
instance rD:Cells fD 4:=⟨λ_=>rfl,by decide,λx u h=>by simp[fD] at h;rcases h with rfl|rfl|rfl|rfl <;> rfl⟩
instance Pb:Cells vw 6:=⟨λ_=>rfl,by decide,λx u h=>by simp[vw] at h;rcases h with rfl|rfl|rfl|rfl|rfl|rfl <;> rfl⟩
instance rA:Cells eB 9:=⟨λ_=>rfl,by decide,λx u h=>by simp[eB] at h;rcases h with rfl|rfl|rfl|rfl|rfl|rfl|rfl|rfl|rfl <;> rfl⟩
section
variable {α:Type}{enc:α->List p}{k:Nat}
theorem yS [hc:Cells enc k](xs:List α):(xs.flatMap enc).length=xs.length*k:=by
 induction xs with
 |nil=>simp
 |cons x xs ih=>simp[gY,ih,hc.len x,Nat.add_mul,Nat.add_comm]
theorem flat_get [hc:Cells enc k](xs:List α):∀(i:Nat)(x:α)(j:Nat)(v:p),xs[i]?=d x->(enc x)[j]?=d v->(xs.flatMap enc)[i*k+j]?=d v:=by
 induction xs with
 |nil=>intro i x j v h;simp at h
 |cons y ys ih=>
  intro i x j v hx hv;have hj:j<k:=by
   have:=(bO.1 hv).1;rw[hc.len x] at this;exact this
  rw[gY]
  cases i with
  |zero=>
   have e:y=x:=by simpa using hx
   subst e;rw[Nat.zero_mul,bA,y8 (by rw[hc.len y];exact hj)];exact hv
  |succ i=>
   rw[xJ (by rw[hc.len y,Nat.succ_mul];omega),hc.len y,show(i+1)*k+j - k=i*k+j by rw[Nat.succ_mul];omega];exact ih i x j v (by simpa using hx) hv
theorem acd [hc:Cells enc k](xs:List α):∀(q:Nat)(v:p),(xs.flatMap enc)[q]?=d v->∃i x j,xs[i]?=d x/\(enc x)[j]?=d v/\q=i*k+j:=by
 induction xs with
 |nil=>intro q v h;simp at h
 |cons y ys ih=>
  intro q v h;rw[gY] at h;rcases gP q k with hq|hq
  .rw[y8 (by rw[hc.len y];exact hq)] at h
   exact⟨0,y,q,rfl,h,by omega⟩
  .rw[xJ (by rw[hc.len y];exact hq),hc.len y] at h
   obtain⟨i,x,j,hx,hv,he⟩:=ih _ _ h;exact⟨i+1,x,j,by simpa using hx,hv,by rw[Nat.succ_mul];omega⟩
theorem ace [hc:Cells enc k](xs:List α):∀u∈xs.flatMap enc,u.oneCell'=true:=by
 intro u hu;obtain⟨x,_,h⟩:=lH.1 hu;exact hc.one x u h
variable {w w':A}{B:Nat}{E:C}{v:p}{xs:List α}
theorem Own.jY (w:A)(B:Nat)(E:C)(k:Nat)(enc:α->List p):Own w B E k enc (f none 0 0) []:=World.ownsRow_nil w B E k
theorem Own.shape (h:Own w B E k enc v xs):∃a c,v= f a xs.length c/\(a=none->c=0)/\xs.length<=c:=by
 rcases h.2 with⟨rfl,h0⟩|⟨g,cap,cur,rfl,_,_,hn,_⟩
 .exact⟨none,0,by rw[h0],λ_=>rfl,by omega⟩
 .exact⟨_,cap,rfl,(λh=>by cases h),hn⟩
theorem Own.row [hc:Cells enc k]{a:Option Addr}{n c:Nat}(h:Own w B E k enc (f a n c) xs)(hle:xs.length<=140737488355328):Row w k enc a n c xs:=by
 obtain⟨h1,h2⟩:=h;rcases h2 with⟨he,h0⟩|⟨g,cap,cur,he,_,hh,hn,_,hs,ht⟩
 .injection he with e1 e2 e3
  subst e1 e2 e3;have hx:xs=[]:=Av h0;subst hx;exact Row.jY
 .injection he with e1 e2 e3
  subst e1 e2 e3;refine⟨rfl,hn,hle,(λh=>by cases h),λi x hx=>⟨g,0,rfl,λj v hv=>?_⟩⟩;have hf:=flat_get (hc:=hc) xs i x j v hx hv;have hlt:i*k+j<xs.length*k:=by rw[<-h1];exact(bO.1 hf).1
  rw[<-ht,AO,av hlt] at hf;simp only[bA];unfold World.cell?;simp[hh]
  simpa using hf
theorem Own.lt (h:Own w B E k enc v xs):∀g,v.ownBlock=d g->B<=g/\g<w.1.size:=World.ownsRow.lt h
theorem Own.alloc (h:Own w B E k enc v xs)(o:Obj):Own (w.alloc o) B E k enc v xs:=World.ownsRow.alloc h o
theorem Own.drew (h:Own w B E k enc v xs):Own w.drew B E k enc v xs:=h
theorem Own.block (h:Own w B E k enc v xs)(hk:∀g,v.ownBlock=d g->w'.1[g]?=w.1[g]?):Own w' B E k enc v xs:=by
 obtain⟨h1,h2⟩:=h;refine⟨h1,?_⟩;rcases h2 with h2|⟨g,cap,cur,rfl,hB,hh,r⟩
 .exact .inl h2
 .exact .inr ⟨g,cap,cur,rfl,hB,by rw[hk g rfl];exact hh,r⟩
theorem Own.below {D:Nat}(h:Own w B E k enc v xs)(hb:Below D w w')(hD:D=w.1.size):Own w' B E k enc v xs:=
 h.block λg hg=>hb.block g (by rw[hD];exact(h.lt g hg).2)
theorem Own.mono {B':Nat}(h:Own w B E k enc v xs)(hB:B'<=B):Own w B' E k enc v xs:=by
 obtain⟨h1,h2⟩:=h;refine⟨h1,?_⟩;rcases h2 with h2|⟨g,cap,cur,rfl,hB',r⟩
 .exact .inl h2
 .exact .inr ⟨g,cap,cur,rfl,by omega,r⟩
theorem Own.new (w:A)(B:Nat)(E:C)[hc:Cells enc k](cs:Array p)(xs:List α)(hB:B<=w.1.size)(he:cs.toList=xs.flatMap enc)(hle:xs.length<=maxLen):
  Own (w.alloc (.cells cs E)) B E k enc (f (d ⟨w.1.size,0,none⟩) xs.length xs.length) xs:=by
 have hs:cs.size=xs.length*k:=by rw[<-Array.length_toList,he,yS (hc:=hc)]
 refine⟨yS xs,.inr ⟨w.1.size,xs.length,cs,rfl,hB,gX w _,aB _,hle,hs,?_⟩⟩;rw[iH (by rw[Array.length_toList,hs];exact aB _),he]
theorem SK [hc:Cells enc k]{P:Program}(t ty:C)(i:TypeInfo)(z:p)(bytes:Nat)(ht:P.underlying t=d (.slice E))(hi:P.info? E=d i)(hz:i.zero=d z)
  (hsize:i.size=k) (hby:i.bytes=bytes) (hzs:z.cells.size=k) (hown:Own w B E k enc v xs)
  {a:Option Addr} {m c:Nat} {ys:List α} (hr:Row w k enc a m c ys) (hbytes:(xs.length+m)*bytes<=140737488355328) (h63:xs.length+m<=maxLen) (hbase:B<=w.1.size):
  ∃a' c' w',(Builtin.append_ #[t,t] ty #[v,f a m c]).run P w= .ok (f a' (xs++ys).length c') w'/\Own w' B E k enc (f a' (xs++ys).length c') (xs++ys)/\w.grownBy w' v.ownBlock/\
   ((l a' (xs++ys).length c').ownBlock=v.ownBlock\/(l a' (xs++ys).length c').ownBlock=d w.1.size):=by
 cases a with
 |none=>
  obtain⟨rfl,rfl,rfl⟩:=hr.none_;obtain⟨a,c,rfl,_,_⟩:=hown.shape;refine⟨a,c,w,?_,?_,World.grownBy.refl w _,.inl ?_⟩
  .simpa using run_append_owned_none (P:=P) (w:=w) B t ty E i k ht hi _ _ _ hown
  .simpa using hown
  .rw[dB]
 |some ad=>
  have hm:ys.length=m:=hr.len;have hcells:∀j u,(ys.flatMap enc)[j]?=d u->w.cell? (ad.add j)=d u:=by
   intro j u hu;obtain⟨i',x,j',hx,hv,he⟩:=acd (hc:=hc) ys j u hu;obtain⟨b,o,ha,hcell⟩:=hr.2.2.2.2 i' x hx;injection ha with ha;subst ha;have h:=hcell j' u hv;rw[he];unfold Addr.add
   split
   .rename_i h0
    rw[show o+i'*k+j'=o by omega] at h;exact h
   .rw[<-Nat.add_assoc];exact h
  obtain⟨v',w',hrun,h1,h2,_,h4⟩:=run_append_own_at (P:=P) w B t ty E i z k bytes ht hi hz hsize hby hzs hc.pos v xs.length (xs.flatMap enc) hown ad m c (ys.flatMap enc) (by rw[yS (hc:=hc),hm]) hcells (ace (hc:=hc) ys) h63 hbytes hbase;have hown':Own w' B E k enc v' (xs++ys):=by
   unfold Own;rw[List.flatMap_append,bL,hm];exact h1
  obtain⟨a',c',rfl,_,_⟩:=hown'.shape;exact⟨a',c',w',hrun,hown',h2,h4⟩
theorem lX [hc:Cells enc k]{P:Program}{o:Oper}{ac:Act}{K:Act->A->Prop}{Q:Exit->Act->A->Prop}(s x:Operand)(t:C)
  (ho:o.op= .call {callee:= .builtin .append,args:=#[s,x],argTypes:=#[t,t]}) (i:TypeInfo) (z:p) (bytes:Nat) (ht:P.underlying t=d (.slice E)) (hi:P.info? E=d i) (hz:i.zero=d z)
  (hsize:i.size=k) (hby:i.bytes=bytes) (hzs:z.cells.size=k) (hs:ac.eval s=v) (hown:Own w B E k enc v xs)
  (a:Option Addr) (m c N:Nat) (ys:List α) (hx:ac.eval x= f a m c) (hr:Row w k enc a m c ys) (hN:xs.length+m=N) (hbytes:N*bytes<=140737488355328) (h63:N<=maxLen) (hbase:B<=w.1.size)
  (h:∀a' c' w',Own w' B E k enc (f a' N c') (xs++ys)->w.grownBy w' v.ownBlock->((l a' N c').ownBlock=v.ownBlock\/(l a' N c').ownBlock=d w.1.size)->K (ac.put o.dst (f a' N c')) w'):o.wp P ac w K Q:=by
 subst hN;obtain⟨a',c',w',hrun,h2,h3,h4⟩:=SK (P:=P) t o.type i z bytes ht hi hz hsize hby hzs hown hr hbytes h63 hbase;have hl:(xs++ys).length=xs.length+m:=by rw[bL,hr.len]
 rw[hl] at hrun h2 h4;unfold Oper.wp execOp;simp only[ho,resolve,invoke,builtin,Sem.run_bind,Sem.run_pure,Result.andThen_ok,List.map_toArray,eu,mE,hs,hx,hrun];exact h a' c' w' h2 h3 h4
theorem je [hc:Cells enc k]{P:Program}{ops:Array Oper}{rest:List Oper}{o:Oper}{ac:Act}{Q:Exit->Act->A->Prop}(hgd:o.guard=none)(s x:Operand)(t:C)
  (ho:o.op= .call {callee:= .builtin .append,args:=#[s,x],argTypes:=#[t,t]}) (i:TypeInfo) (z:p) (bytes:Nat) (ht:P.underlying t=d (.slice E)) (hi:P.info? E=d i) (hz:i.zero=d z)
  (hsize:i.size=k) (hby:i.bytes=bytes) (hzs:z.cells.size=k) (hs:ac.eval s=v) (hown:Own w B E k enc v xs)
  (a:Option Addr) (m c N:Nat) (ys:List α) (hx:ac.eval x= f a m c) (hr:Row w k enc a m c ys) (hN:xs.length+m=N) (hbytes:N*bytes<=140737488355328) (h63:N<=maxLen) (hbase:B<=w.1.size)
  (h:∀a' c' w',Own w' B E k enc (f a' N c') (xs++ys)->w.grownBy w' v.ownBlock->((l a' N c').ownBlock=v.ownBlock\/(l a' N c').ownBlock=d w.1.size)->wpList P ops Q rest (ac.put o.dst (f a' N c')) w'):
  wpList P ops Q (o::rest) ac w:=
 wpList_plain hgd λ_ hK=>lX s x t ho i z bytes ht hi hz hsize hby hzs hs hown a m c N ys hx hr hN hbytes h63 hbase λa' c' w' h2 h3 h4=>hK _ _ (h a' c' w' h2 h3 h4)
theorem below_app {D:Nat}{a0:A}(hb:Below D a0 w)(hown:Own w B E k enc v xs)(hD:D<=B)(hsz:D<=w.1.size)(hg:w.grownBy w' v.ownBlock):Below D a0 w':=
 hb.grown hg hsz λg e=>bX hD (hown.lt g e).1
def mO (E:C)(k:Nat)(enc:α->List p)(xs:List α)(w:A)(e:Ending)(w':A):Prop:=
 ∃a c,e= .returned (f a xs.length c)/\Own w' w.1.size E k enc (f a xs.length c) xs/\Below w.1.size w w'
end
end Yd
namespace Yd
open Go Go.RowKit Go.Proofs Tryz
open Below renaming refl->b
open Go renaming World->f,Calls->g
open Go.Obj renaming cells->e
open Tryz renaming prog->d,ntmps35->h,ntmps36->j,ntmps37->k,ntmps38->l,ntmps39->m,ntmps40->o,ntmps41->p,func35->r,func36->s,func37->t,func38->u,func39->v,func40->x,func41->y
theorem ael (a:Option Addr)(c:Nat)(cs:List EvC)(w:f)(hr:Row w 9 eB a cs.length c cs)(hby:cs.length*88<=140737488355328):
  g d 35 #[.slice a cs.length c] w (mO 50 9 eB cs w):=by
 have hm:cs.length<=maxLen:=by have:=hr.le;unfold maxLen;omega
 have hsn:=λ(w:f)(n c:Nat)=> @Lib.run_eql_slice_nil d w 24 50 a n c 0 0 underlying24
 cases a with
 |none=>
  obtain⟨rfl,_,rfl⟩:=hr.none_;go_enter r,h;go_wp2_with fail;go_ret;exact⟨none,0,rfl,Own.jY _ _ _ _ _,b _ _⟩
 |some ad=>
  obtain⟨i,z,hi,hz,hsize,dx,hzs⟩:=Tm;have hr1:Row (w.alloc (e #[] 50)) 9 eB (some ad) cs.length c cs:=hr.below ((b _ _).alloc (aB _) _) rfl;have HO:=Own.new (hc:=rA) w w.1.size 50 (enc:=eB) #[] [] (aB _) rfl (aZ _);have HB:Below w.1.size w (w.alloc (e #[] 50)):=(b _ _).alloc (aB _) _;have HR:=hid hr1;have HC:=hid hr;have nJ:=hid HO;have sZ:=hid HB;clear hr hr1 HO HB;go_enter r,h
  go_wp2_with (at_builtin;refine je rfl _ _ 24 rfl i z 88 underlying24 hi hz hsize dx hzs rfl nJ.q (some ad) cs.length c cs.length cs rfl HR.q ak hby hm ak ?_;intro a' c' w1 hown1 hg1 vQ)
  go_ret;exact⟨a',c',rfl,hown1,below_app sZ.q nJ.q (aB _) ak hg1⟩
theorem aep (a:Option Addr)(c:Nat)(cs:List Sn)(w:f)(hr:Row w 3 dV a cs.length c cs)(hby:cs.length*24<=140737488355328):
  g d 36 #[.slice a cs.length c] w (mO 98 3 dV cs w):=by
 have hm:cs.length<=maxLen:=by have:=hr.le;unfold maxLen;omega
 have hsn:=λ(w:f)(n c:Nat)=> @Lib.run_eql_slice_nil d w 48 98 a n c 0 0 underlying48
 cases a with
 |none=>
  obtain⟨rfl,_,rfl⟩:=hr.none_;go_enter s,j;go_wp2_with fail;go_ret;exact⟨none,0,rfl,Own.jY _ _ _ _ _,b _ _⟩
 |some ad=>
  obtain⟨i,z,hi,hz,hsize,dx,hzs⟩:=Lm;have hr1:Row (w.alloc (e #[] 98)) 3 dV (some ad) cs.length c cs:=hr.below ((b _ _).alloc (aB _) _) rfl;have HO:=Own.new (hc:=pJ) w w.1.size 98 (enc:=dV) #[] [] (aB _) rfl (aZ _);have HB:Below w.1.size w (w.alloc (e #[] 98)):=(b _ _).alloc (aB _) _;have HR:=hid hr1;have HC:=hid hr;have nJ:=hid HO;have sZ:=hid HB;clear hr hr1 HO HB;go_enter s,j
  go_wp2_with (at_builtin;refine je rfl _ _ 48 rfl i z 24 underlying48 hi hz hsize dx hzs rfl nJ.q (some ad) cs.length c cs.length cs rfl HR.q ak hby hm ak ?_;intro a' c' w1 hown1 hg1 vQ)
  go_ret;exact⟨a',c',rfl,hown1,below_app sZ.q nJ.q (aB _) ak hg1⟩
theorem aem (a:Option Addr)(c:Nat)(cs:List aM)(w:f)(hr:Row w 2 fB a cs.length c cs)(hby:cs.length*32<=140737488355328):
  g d 37 #[.slice a cs.length c] w (mO 79 2 fB cs w):=by
 have hm:cs.length<=maxLen:=by have:=hr.le;unfold maxLen;omega
 have hsn:=λ(w:f)(n c:Nat)=> @Lib.run_eql_slice_nil d w 25 79 a n c 0 0 underlying25
 cases a with
 |none=>
  obtain⟨rfl,_,rfl⟩:=hr.none_;go_enter t,k;go_wp2_with fail;go_ret;exact⟨none,0,rfl,Own.jY _ _ _ _ _,b _ _⟩
 |some ad=>
  obtain⟨i,z,hi,hz,hsize,dx,hzs⟩:=Tw;have hr1:Row (w.alloc (e #[] 79)) 2 fB (some ad) cs.length c cs:=hr.below ((b _ _).alloc (aB _) _) rfl;have HO:=Own.new (hc:=rC) w w.1.size 79 (enc:=fB) #[] [] (aB _) rfl (aZ _);have HB:Below w.1.size w (w.alloc (e #[] 79)):=(b _ _).alloc (aB _) _;have HR:=hid hr1;have HC:=hid hr;have nJ:=hid HO;have sZ:=hid HB;clear hr hr1 HO HB;go_enter t,k
  go_wp2_with (at_builtin;refine je rfl _ _ 25 rfl i z 32 underlying25 hi hz hsize dx hzs rfl nJ.q (some ad) cs.length c cs.length cs rfl HR.q ak hby hm ak ?_;intro a' c' w1 hown1 hg1 vQ)
  go_ret;exact⟨a',c',rfl,hown1,below_app sZ.q nJ.q (aB _) ak hg1⟩
theorem aen (a:Option Addr)(c:Nat)(cs:List aN)(w:f)(hr:Row w 4 fD a cs.length c cs)(hby:cs.length*48<=140737488355328):
  g d 38 #[.slice a cs.length c] w (mO 84 4 fD cs w):=by
 have hm:cs.length<=maxLen:=by have:=hr.le;unfold maxLen;omega
 have hsn:=λ(w:f)(n c:Nat)=> @Lib.run_eql_slice_nil d w 26 84 a n c 0 0 underlying26
 cases a with
 |none=>
  obtain⟨rfl,_,rfl⟩:=hr.none_;go_enter u,l;go_wp2_with fail;go_ret;exact⟨none,0,rfl,Own.jY _ _ _ _ _,b _ _⟩
 |some ad=>
  obtain⟨i,z,hi,hz,hsize,dx,hzs⟩:=Tx;have hr1:Row (w.alloc (e #[] 84)) 4 fD (some ad) cs.length c cs:=hr.below ((b _ _).alloc (aB _) _) rfl;have HO:=Own.new (hc:=rD) w w.1.size 84 (enc:=fD) #[] [] (aB _) rfl (aZ _);have HB:Below w.1.size w (w.alloc (e #[] 84)):=(b _ _).alloc (aB _) _;have HR:=hid hr1;have HC:=hid hr;have nJ:=hid HO;have sZ:=hid HB;clear hr hr1 HO HB;go_enter u,l
  go_wp2_with (at_builtin;refine je rfl _ _ 26 rfl i z 48 underlying26 hi hz hsize dx hzs rfl nJ.q (some ad) cs.length c cs.length cs rfl HR.q ak hby hm ak ?_;intro a' c' w1 hown1 hg1 vQ)
  go_ret;exact⟨a',c',rfl,hown1,below_app sZ.q nJ.q (aB _) ak hg1⟩
theorem aeo (a:Option Addr)(c:Nat)(cs:List Wa)(w:f)(hr:Row w 2 gH a cs.length c cs)(hby:cs.length*16<=140737488355328):
  g d 39 #[.slice a cs.length c] w (mO 88 2 gH cs w):=by
 have hm:cs.length<=maxLen:=by have:=hr.le;unfold maxLen;omega
 have hsn:=λ(w:f)(n c:Nat)=> @Lib.run_eql_slice_nil d w 27 88 a n c 0 0 underlying27
 cases a with
 |none=>
  obtain⟨rfl,_,rfl⟩:=hr.none_;go_enter v,m;go_wp2_with fail;go_ret;exact⟨none,0,rfl,Own.jY _ _ _ _ _,b _ _⟩
 |some ad=>
  obtain⟨i,z,hi,hz,hsize,dx,hzs⟩:=Tv;have hr1:Row (w.alloc (e #[] 88)) 2 gH (some ad) cs.length c cs:=hr.below ((b _ _).alloc (aB _) _) rfl;have HO:=Own.new (hc:=sQ) w w.1.size 88 (enc:=gH) #[] [] (aB _) rfl (aZ _);have HB:Below w.1.size w (w.alloc (e #[] 88)):=(b _ _).alloc (aB _) _;have HR:=hid hr1;have HC:=hid hr;have nJ:=hid HO;have sZ:=hid HB;clear hr hr1 HO HB;go_enter v,m
  go_wp2_with (at_builtin;refine je rfl _ _ 27 rfl i z 16 underlying27 hi hz hsize dx hzs rfl nJ.q (some ad) cs.length c cs.length cs rfl HR.q ak hby hm ak ?_;intro a' c' w1 hown1 hg1 vQ)
  go_ret;exact⟨a',c',rfl,hown1,below_app sZ.q nJ.q (aB _) ak hg1⟩
theorem OO (a:Option Addr)(c:Nat)(cs:List Int)(w:f)(hr:Row w 1 aX a cs.length c cs)(hby:cs.length*8<=140737488355328):
  g d 40 #[.slice a cs.length c] w (mO 3 1 aX cs w):=by
 have hm:cs.length<=maxLen:=by have:=hr.le;unfold maxLen;omega
 have hsn:=λ(w:f)(n c:Nat)=> @Lib.run_eql_slice_nil d w 51 3 a n c 0 0 underlying51
 cases a with
 |none=>
  obtain⟨rfl,_,rfl⟩:=hr.none_;go_enter x,o;go_wp2_with fail;go_ret;exact⟨none,0,rfl,Own.jY _ _ _ _ _,b _ _⟩
 |some ad=>
  obtain⟨i,z,hi,hz,hsize,dx,hzs⟩:=Jt;have hr1:Row (w.alloc (e #[] 3)) 1 aX (some ad) cs.length c cs:=hr.below ((b _ _).alloc (aB _) _) rfl;have HO:=Own.new (hc:=iP) w w.1.size 3 (enc:=aX) #[] [] (aB _) rfl (aZ _);have HB:Below w.1.size w (w.alloc (e #[] 3)):=(b _ _).alloc (aB _) _;have HR:=hid hr1;have HC:=hid hr;have nJ:=hid HO;have sZ:=hid HB;clear hr hr1 HO HB;go_enter x,o
  go_wp2_with (at_builtin;refine je rfl _ _ 51 rfl i z 8 underlying51 hi hz hsize dx hzs rfl nJ.q (some ad) cs.length c cs.length cs rfl HR.q ak hby hm ak ?_;intro a' c' w1 hown1 hg1 vQ)
  go_ret;exact⟨a',c',rfl,hown1,below_app sZ.q nJ.q (aB _) ak hg1⟩
theorem A8 (a:Option Addr)(c:Nat)(cs:List Bs)(w:f)(hr:Row w 1 encStr a cs.length c cs)(hby:cs.length*16<=140737488355328):
  g d 41 #[.slice a cs.length c] w (mO 9 1 encStr cs w):=by
 have hm:cs.length<=maxLen:=by have:=hr.le;unfold maxLen;omega
 have hsn:=λ(w:f)(n c:Nat)=> @Lib.run_eql_slice_nil d w 23 9 a n c 0 0 underlying23
 cases a with
 |none=>
  obtain⟨rfl,_,rfl⟩:=hr.none_;go_enter y,p;go_wp2_with fail;go_ret;exact⟨none,0,rfl,Own.jY _ _ _ _ _,b _ _⟩
 |some ad=>
  obtain⟨i,z,hi,hz,hsize,dx,hzs⟩:=nL;have hr1:Row (w.alloc (e #[] 9)) 1 encStr (some ad) cs.length c cs:=hr.below ((b _ _).alloc (aB _) _) rfl;have HO:=Own.new (hc:=ku) w w.1.size 9 (enc:=encStr) #[] [] (aB _) rfl (aZ _);have HB:Below w.1.size w (w.alloc (e #[] 9)):=(b _ _).alloc (aB _) _;have HR:=hid hr1;have HC:=hid hr;have nJ:=hid HO;have sZ:=hid HB;clear hr hr1 HO HB;go_enter y,p
  go_wp2_with (at_builtin;refine je rfl _ _ 23 rfl i z 16 underlying23 hi hz hsize dx hzs rfl nJ.q (some ad) cs.length c cs.length cs rfl HR.q ak hby hm ak ?_;intro a' c' w1 hown1 hg1 vQ)
  go_ret;exact⟨a',c',rfl,hown1,below_app sZ.q nJ.q (aB _) ak hg1⟩
end Yd
namespace Yd
open Go Go.RowKit
open _root_ renaming List->b,Int->c
def mD (i:Nat):Nat:=if i=0\/i=2 then 300 else 60
def dL (l:b Bs)(s:Bs):b Bs:=if s∈l then l else l++[s]
def sN (l:b Bs)(s:Bs):Nat:=(dL l s).idxOf s
theorem D8 (l:b Bs)(s:Bs):s∈dL l s:=by
 unfold dL
 split
 .assumption
 .simp
theorem Ji (l:b Bs)(s:Bs):l<+:dL l s:=by
 unfold dL
 split
 .exact gU _
 .exact eG _ _
theorem GV {l:b Bs}{s:Bs}(h:s∈l):dL l s=l:=by unfold dL;rw[av h]
theorem DW {l:b Bs}{s:Bs}(h:s∉l):dL l s=l++[s]:=by unfold dL;rw[au h]
theorem Wx {l:b Bs}{s:Bs}(h:s∈l):sN l s=l.idxOf s:=by unfold sN;rw[GV h]
theorem Sd {l:b Bs}{s:Bs}(h:s∉l):sN l s=l.length:=by
 unfold sN;rw[DW h,List.idxOf_append,au h];simp
theorem WQ (l:b Bs)(s:Bs):sN l s<(dL l s).length:=Ca (D8 l s)
theorem Eh {l:b Bs}{s:Bs}(h:l.Nodup):(dL l s).Nodup:=by
 unfold dL
 split
 .exact h
 .rename_i hs
  refine zk.2 ⟨h,by simp,λp hp q hq e=>?_⟩;rw[bT.1 hq] at e;exact hs (e▸hp)
def ny (xs:b c)(x:c):b c:=if x∈xs then xs else xs++[x]
def cu (xs:b (c × c))(s:c):b c:=xs.foldl (λl x=>if x.1=s then ny l x.2 else l) []
theorem lQ (xs:b (c × c))(x:c × c)(s:c):cu (xs++[x]) s=if x.1=s then ny (cu xs s) x.2 else cu xs s:=by simp[cu]
theorem Uu {l:b c}{x:c}(h:l.Nodup):(ny l x).Nodup:=by
 unfold ny
 split
 .exact h
 .refine zk.2 ⟨h,by simp,λp hp q hq e=>?_⟩
  simp at hq;subst hq e
  contradiction
theorem yJ {α:Type}{P:b α->Prop}(h0:P [])(h1:∀xs x,P xs->P (xs++[x]))(xs:b α):P xs:=by
 have h:∀ys:b α,P ys.reverse:=by
  intro ys
  induction ys with
  |nil=>exact h0
  |cons y ys ih=>rw[List.reverse_cons];exact h1 _ _ ih
 simpa using h xs.reverse
def up (n:Nat):b c:=(List.range n).map λi:Nat=>(i:c)
theorem pu (n:Nat):(up n).length=n:=by simp[up]
theorem Sr (n:Nat):up (n+1)=up n++[(n:c)]:=by simp[up,List.range_succ]
theorem WH {n i:Nat}(h:i<n):(up n)[i]?=some (i:c):=by simp[up,h]
theorem A9 {n:Nat}{x:c}(h0:0<=x):x∈up n↔x<n:=by
 unfold up;simp only[dI,xL]
 constructor
 .rintro⟨a,h,rfl⟩;omega
 .intro h;exact⟨x.toNat,by omega,by omega⟩
theorem afK {n m:Nat}(h:up n=up m):n=m:=by have:=bU List.length h;rwa[pu,pu] at this
theorem R3 (l:b c)(x:c):l<+:ny l x:=by
 unfold ny
 split
 .exact gU _
 .exact eG _ _
theorem AA (xs:b (c × c))(x:c × c)(s:c):cu xs s<+:cu (xs++[x]) s:=by
 rw[lQ]
 split
 .exact R3 _ _
 .exact gU _
end Yd
namespace Yd
open Go Go.RowKit Go.Proofs
open Tryz renaming prog->d
theorem Zf:Tryz.prog.elem 23=9:=ay
theorem Zg:Tryz.prog.underlying 23=some (.slice (Tryz.prog.elem 23)):=by rw[Zf];exact Tryz.underlying23
theorem ajw (W:World):(Go.sizeOf (Tryz.prog.elem 23)).run d W=Result.ok 1 W:=by
 rw[Zf]
 kernel_rfl
theorem Js {w:World}{a:Option Addr}{n c:Nat}{xs:List Bs}(h:Row w 1 encStr a n c xs)(k:Nat)(hk:k<=n):∃a':Option Addr,(∀W:World,(Instr.slice 23 (.slice a n c) (some (.int .i64 (k:Int))) none none).run d W= .ok (.slice a' (n - k) (c - k)) W)/\
  (∀W:World,(Instr.sliceAt 23 (.slice a n c) (some (.int .i64 (k:Int))) none none).run d W= .ok (.slice a' (n - k) (c - k)) W)/\Row w 1 encStr a' (n - k) (c - k) (xs.drop k)/\∀b o,a'=some ⟨b,o,none⟩->∃q,a=some q/\q.block=b:=by
 have hs:∀W:World,(Instr.slice 23 (.slice a n c) (some (.int .i64 (k:Int))) none none).run d W= .ok (.slice (if c=k then a else a.map (·.add (k*1))) (n - k) (c - k)) W:=λW=>by
  rw[run_slice_l (P:=d) W 23 a n c Zg .i64 (k:Int) ah (by have:=h.cap;omega),ajw];simp[Result.andThen,sliced]
 refine⟨if c=k then a else a.map (·.add (k*1)),hs,λW=>(run_sliceAt_slice (P:=d) W 23 _ _ _ _ Zg).trans (hs W),?_,?_⟩
 .obtain⟨h1,h2,h3,h4,h5⟩:=h
  refine⟨by rw[gG,h1],by omega,by omega,λe=>?_,λi x hx=>?_⟩
  .by_cases hc:c=k
   .omega
   .rw[au hc] at e
    cases a with
    |none=>rw[h4 rfl];omega
    |some ad=>cases e
  .rw[EI] at hx
   obtain⟨b,o,ha,hcell⟩:=h5 _ x hx;have hlt:=(bO.1 hx).1;rw[au ah,ha];refine⟨b,o+k,?_,λj v hv=>?_⟩
   .show some (Addr.add ⟨b,o,none⟩ (k*1))=_
    unfold Addr.add;rw[gT];by_cases h0:k=0
    .rw[av h0,h0];rfl
    .rw[au h0]
   .rw[show o+k+i*1+j=o+(k+i)*1+j by omega];exact hcell j v hv
 .intro b o e
  split at e
  .exact⟨_,e,rfl⟩
  .cases a with
   |none=>cases e
   |some ad=>
    refine⟨ad,rfl,?_⟩;have e2:ad.add (k*1)=⟨b,o,none⟩:=by simpa using e
    have e3:(ad.add (k*1)).block=ad.block:=by
     unfold Addr.add
     split <;> rfl
    rw[e2] at e3;exact e3.symm
end Yd
namespace Yd
open Go
def wP (nl:Nat->List Bs)(i:Nat)(s:Bs):Nat->List Bs:=λj=>if j=i then dL (nl i) s else nl j
def l6 (nl:Nat->List Bs):List Bs->(Nat->List Bs) × List Int
 |[]=>(nl,[])
 |s::r=>((l6 (wP nl 0 s) r).1,(sN (nl 0) s:Int)::(l6 (wP nl 0 s) r).2)
theorem Ju:∀(l:List Bs)(nl:Nat->List Bs)(s:Bs),l6 nl (l++[s])=(wP (l6 nl l).1 0 s,(l6 nl l).2++[(sN ((l6 nl l).1 0) s:Int)])
 |[],_,_=>rfl
 |t::l,nl,s=>by
  have h:=Ju l (wP nl 0 t) s;show((l6 (wP nl 0 t) (l++[s])).1,_::(l6 (wP nl 0 t) (l++[s])).2)=_;rw[h];rfl
theorem T9:∀(l:List Bs)(nl:Nat->List Bs)(j:Nat),nl j<+:(l6 nl l).1 j
 |[],_,_=>gU _
 |s::r,nl,j=>by
  refine List.IsPrefix.trans ?_ (T9 r (wP nl 0 s) j);unfold wP
  split
  .rename_i h;subst h;exact Ji _ _
  .exact gU _
theorem Ua:∀(l m:List Bs)(nl:Nat->List Bs),(l6 nl (l++m)).1=(l6 (l6 nl l).1 m).1
 |[],_,_=>rfl
 |_::l,m,nl=>Ua l m (wP nl 0 _)
theorem aaU {l:List Bs}{nl:Nat->List Bs}{i:Nat}{s:Bs}{n:Nat}(hs:l[i]?=some s)(h:((l6 nl l).1 0).length<=n):(dL ((l6 nl (l.take i)).1 0) s).length<=n:=by
 obtain⟨hi,he⟩:=bO.1 hs;have e:l=(l.take i++[s])++l.drop (i+1):=by
  rw[<-he,dD,GZ,<-oD hi,tT]
 rw[e,Ua,Ju] at h;have h2:=(T9 (l.drop (i+1)) (wP (l6 nl (l.take i)).1 0 s) 0).length_le;exact bX h2 h
end Yd
namespace Yd
open Option renaming some->d
open Go Go.RowKit Go.Proofs
open World renaming putObj_heap_other->b,putObj_heap_same->f,alloc_heap_new->j
theorem UR {P:Program}{α:Type}{g:Operand}{ps:Array Tmp}{assign body:Code}{Q:Exit->Act->World->Prop}{a:Act}{w:World}{n:Nat}
  {gf:Nat} {lb:Array Value} (hg:a.eval g= .func (.func gf) #[] lb) (eg:∀args w,(callFunc gf args).run P w= .ok (.enter gf args) w)
  {qP:α->Array Value->World->Prop} {k:Nat} {D:Nat->Prop} {xs:List α}
  (hseq:∀W,Below w.1.size w W->W.1.size=w.1.size+2->Iter P gf lb qP k D xs W)
  (hD:¬D (w.1.size+1)) (hps:∀x args X,qP x args X->args.size=ps.size)
  (I:List α->World->Prop) (Ix:Code->List α->World->Prop)
  (hI:∀s X Y,I s X->Same (λi=>i<w.1.size\/w.1.size+2+k<=i) X Y->I s Y)
  (hIx:∀c s X Y,Ix c s X->Same (λi=>i<w.1.size\/w.1.size+2+k<=i) X Y->Ix c s Y)
  (h0:I [] w)
  (BM:∀pre x args X,I pre X->pre++[x]<+:xs->qP x args X->w.1.size+2+k<=X.1.size->∀m,
   assign.wpIn (Fence.wide.inRound (w.1.size+1)) m P (Exit.then (λa₁ X₁=>Below X.1.size X X₁/\∀X₂:World,Same (λi=>i≠w.1.size+1) X₁ X₂->X₂.1[w.1.size]?=d (.deferred (d []))->(∃o,X₂.1[w.1.size+1]?=d (.loop o))->
     body.wpIn (Fence.wide.inRound (w.1.size+1)) m P (EQ w.1.size D I Ix (pre++[x]) X₂) a₁ X₂) (λ_ _ _=>False))
    {tmps:=(ps.zip args).foldl (λt (p,v)=>t.setIfInBounds p v) a.tmps,defers:=[]} X)
  (hdone:∀X,I xs X->X.1[w.1.size]?=d (.deferred (d []))->Q .normal {a with defers:={target:= .collected w.1.size,args:=#[]}::a.defers} X)
  (hstop:∀c pre X,pre<+:xs->Ix c pre X->X.1[w.1.size]?=d (.deferred (d []))->c.wpIn Fence.wide n P Q {a with defers:={target:= .collected w.1.size,args:=#[]}::a.defers} X):
  (Code.rangeFunc g ps assign body).wpIn Fence.wide n P Q a w:=by
 refine wpIn_rangeFunc ?_;intro fn hfn;obtain⟨r,hr⟩:∃r:Loop,r={state:= .ready,pending:=none,fn,tmps:=a.tmps,params:=ps,assign,body,defers:=w.1.size}:=⟨_,rfl⟩;obtain⟨W1,hW1⟩:∃W1,(w.alloc (.deferred (d []))).alloc (.loop r)=W1:=⟨_,rfl⟩;have hs1:W1.1.size=w.1.size+2:=by rw[<-hW1];simp
 have hL1:W1.1[w.1.size+1]?=d (.loop r):=by
  rw[<-hW1];have:=j (w.alloc (.deferred (d []))) (.loop r);rwa[World.size_alloc] at this
 have hK1:W1.1[w.1.size]?=d (.deferred (d [])):=by
  rw[<-hW1];exact(Below.heap_alloc _ _ _ ak).trans (j w _)
 have hb1:Below w.1.size w W1:=by rw[<-hW1];exact((Below.refl _ w).alloc (aB _) _).alloc ak _
 have hI1:I [] W1:=hI _ _ _ h0 (.of_below hb1 (λi _ hi=>hi));refine⟨w.1.size+1,[{target:= .collected w.1.size,args:=#[]}],W1,{target:= .fn (.func gf) lb,args:=#[.func (.yield (w.1.size+1)) #[] #[]]},W1,gf,
  #[.func (.yield (w.1.size+1)) #[] #[]]++lb,W1,?_,?_,λ_ _=>trivial,?_,λh=>(by cases h),?_⟩
 .rw[<-hW1,hr];exact run_enterLoop_outer _ _ _ _ _
 .simp only[resolve,hg]
  simp[go_sem]
 .simp[invoke,go_sem,eg]
 have hput:∀(s:List α)(X:World)(o:Obj),I s X->I s (X.putObj (w.1.size+1) o):=λs X o h=>hI s _ _ h (.putObj X o ah)
 have oK:∀(c:Code)(s:List α)(X:World)(o:Obj),Ix c s X->Ix c s (X.putObj (w.1.size+1) o):=λc s X o h=>hIx c s _ _ h (.putObj X o ah)
 refine(hseq W1 hb1 hs1 (n - 1) (w.1.size+1)
  (λpre X=>I pre X/\X.1[w.1.size+1]?=d (.loop r)/\X.1[w.1.size]?=d (.deferred (d [])))
  (λpre X=>∃c,Ix c pre X/\X.1[w.1.size+1]?=d (.loop {r with state:= .done,pending:=some c})/\X.1[w.1.size]?=d (.deferred (d [])))
  ?_ ?_ ?_ ⟨hI1,hL1,hK1⟩).mono ?_
 .rintro s X Y ⟨h1,h2,h3⟩ hsame
  have e2:=(dh.1 h2).1;exact⟨hI s X Y h1 (hsame.mono (λi hi hl=>by omega)),(hsame.block _ ah e2).trans h2,(hsame.block _ ah ah).trans h3⟩
 .rintro s X Y ⟨c,h1,h2,h3⟩ hsame
  have e2:=(dh.1 h2).1;exact⟨c,hIx c s X Y h1 (hsame.mono (λi hi hl=>by omega)),(hsame.block _ ah e2).trans h2,(hsame.block _ ah ah).trans h3⟩
 .rintro pre x args X ⟨hi,hl,hk⟩ hpx hrep hsz m
  have hra:r.assign=assign:=by rw[hr]
  have hrb:r.body=body:=by rw[hr]
  have um:r.params=ps:=by rw[hr]
  have hrt:r.tmps=a.tmps:=by rw[hr]
  have hrs:r.state= .ready:=by rw[hr]
  have hrn:r.pending=none:=by rw[hr]
  have hrr:({r with state:= .ready,pending:=none}:Loop)=r:=by rw[hr]
  refine AU hl hrs trivial (by rw[um];exact hps x args X hrep) ?_;have hR:=BM pre x args X hi hpx hrep ah m;rw[<-hra,<-hrb,<-um,<-hrt] at hR;refine wpIn_mono hR ?_;rintro e a1 X1 hp
  cases e with
  |normal=>
   obtain⟨hb,hbody⟩:=hp;have TU:=(dh.1 hl).1;have hl1:X1.1[w.1.size+1]?=d (.loop r):=(hb.block _ ah).trans hl;have hk1:X1.1[w.1.size]?=d (.deferred (d [])):=(hb.block _ ah).trans hk;have hlt1:=(dh.1 hl1).1;have hl2:(X1.putObj (w.1.size+1) (.loop {r with state:= .busy})).1[w.1.size+1]?=d (.loop {r with state:= .busy}):=f hlt1;have hk2:(X1.putObj (w.1.size+1) (.loop {r with state:= .busy})).1[w.1.size]?=d (.deferred (d [])):=(b ah).trans hk1;refine⟨hl1,wpIn_mono (hbody _ (.putObj X1 _ ah) hk2 ⟨_,hl2⟩) ?_⟩;rintro e a3 X3 hq;have fin:∀o,X3.1[w.1.size+1]?=(X1.putObj (w.1.size+1) (.loop {r with state:= .busy})).1[w.1.size+1]?->(X3.putObj (w.1.size+1) o).1[w.1.size+1]?=d o:=λo h=>
    f ((dh.1 (h.trans hl2)).1)
   have keep:∀o,aQ D (X1.putObj (w.1.size+1) (.loop {r with state:= .busy})) X3->aQ D X (X3.putObj (w.1.size+1) o):=λo hC=>
    (aQ.of_below hb (λi _ hi=>hi)).trans (((aQ.putObj X1 _ hD).trans hC).trans (aQ.putObj X3 _ hD))
   cases e with
   |normal=>
    obtain⟨⟨hA,hB⟩,hC,hE⟩:=hq;refine⟨hB.trans hl2,.inl ⟨rfl,⟨hput _ _ _ hE,(fin _ hB).trans (by rw[hrr]),(b ah).trans (hA.trans hk2)⟩,?_⟩⟩;exact(aQ.of_below hb (λi _ hi=>hi)).trans (((aQ.putObj X1 _ hD).trans hC).trans (aQ.putObj X3 _ hD))
   |ret=>
    obtain⟨⟨hA,hB⟩,hC,hE⟩:=hq;exact⟨hB.trans hl2,.inr ⟨rfl,⟨.ret,oK _ _ _ _ hE,fin _ hB,(b ah).trans (hA.trans hk2)⟩,keep _ hC⟩⟩
   |exit id=>
    obtain⟨⟨hA,hB⟩,hC,hE⟩:=hq;exact⟨hB.trans hl2,.inr ⟨rfl,⟨.exit id,oK _ _ _ _ hE,fin _ hB,(b ah).trans (hA.trans hk2)⟩,keep _ hC⟩⟩
   |goto t=>
    obtain⟨⟨hA,hB⟩,hC,hE⟩:=hq;exact⟨hB.trans hl2,.inr ⟨rfl,⟨.goto t,oK _ _ _ _ hE,fin _ hB,(b ah).trans (hA.trans hk2)⟩,keep _ hC⟩⟩
   |panic _=>exact hq.elim
   |outgrown=>exact hq.elim
  |_=>exact hp.elim
 .rintro e X2 ⟨v,rfl,(⟨hi,hl,hk⟩|⟨pre,hpre,c,hi,hl,hk⟩)⟩
  .exact⟨none,_,by have:=run_endLoop (P:=P) hl (by rw[hr];simp);rwa[hr] at this,hdone _ (hput _ _ _ hi) ((b ah).trans hk)⟩
  .exact⟨d c,_,run_endLoop (P:=P) hl ak,hstop c pre _ hpre (oK _ _ _ _ hi) ((b ah).trans hk)⟩
end Yd
