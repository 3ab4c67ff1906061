import Derived.Test.YtnhnhmeogckgpaaGreatDoorA0
import Derived.WalkKit
import Derived.Deep.Draws
import Derived.Test.YtnhnhmeogckgpaaGreatDoorProg
import Derived.Laws.StructEq
import Derived.RangeFuncNested
import Derived.RangeFuncCalls
import Derived.RangeFuncLeaves
import Derived.RangeFuncSeq
import Derived.Maps.AppendAt
import Derived.Laws.OwnMore
import Derived.Lib.SliceRun
set_option linter.all false
set_option maxRecDepth 200000
set_option maxHeartbeats 8000000
namespace Yd
open Go Go.RowKit
theorem hid {p:Prop} (h:p):Hid p:=h
end Yd
namespace Go.RowKit
theorem Hid.q {p:Prop} (h:Hid p):p:=h
theorem Below.bD {a b c:World} (h:Below a.heap.size a b) (k:Below b.heap.size b c):Below a.heap.size a c:=h.trans (k.mono h.size)
end Go.RowKit
namespace Yd
open Go Go.RowKit
def bC (v:Value) (w:World) (e:Ending) (w':World):Prop:=e= .returned v∧Below w.heap.size w w'
theorem fw {w:World} {p:Addr} {v:Value} (h:w.cell? p=some v):p.block<w.heap.size:=by
 unfold World.cell? at h;rcases Nat.lt_or_ge p.block w.heap.size with h1|h1
 ·exact h1
 ·rw[Array.getElem?_eq_none h1] at h;cases h
theorem aT {B:Nat} {w w':World} (hb:Below B w w') (hB:B=w.heap.size) {p:Addr} {v:Value} (h:w.cell? p=some v):w'.cell? p=some v:=by
 subst hB;exact(hb.cell (fw h)).trans h
theorem dM {B:Nat} {a w:World} (h:Below B a w) (n:Nat):Below B a (w.drewN n):=⟨h.os,h.tape,h.output,h.size,h.block⟩
theorem WU {B:Nat} {W w1:World} (hb:Below B W w1):(∀b o,b<B→w1.cell? ⟨b,o,none⟩=W.cell? ⟨b,o,none⟩)∧(∀b o,b<B→w1.frozen? ⟨b,o,none⟩=W.frozen? ⟨b,o,none⟩):=
 ⟨fun b o h=>hb.cell (p:=⟨b,o,none⟩) h,fun b o h=>hb.frozen (p:=⟨b,o,none⟩) h⟩
theorem av {a w:World} (h:Below a.heap.size a w) (o:Obj):Below a.heap.size a (w.alloc o):=h.alloc h.size o
def Row {α:Type} (w:World) (k:Nat) (enc:α→List Value) (a:Option Addr) (n c:Nat) (xs:List α):Prop:=
 xs.length=n∧n≤c∧n≤140737488355328∧(a=none→c=0)∧∀i x,xs[i]?=some x→∃b o,a=some ⟨b,o,none⟩∧∀j v,(enc x)[j]?=some v→w.cell? ⟨b,o+i*k+j,none⟩=some v
section
variable {α:Type} {w w':World} {k:Nat} {enc:α→List Value} {a:Option Addr} {n c:Nat} {xs:List α}
theorem Row.ext (h:Row w k enc a n c xs) (hb:∀p v,w.cell? p=some v→w'.cell? p=some v):Row w' k enc a n c xs:=
 ⟨h.1,h.2.1,h.2.2.1,h.2.2.2.1,fun i x hx=>let⟨b,o,ha,hc⟩:=h.2.2.2.2 i x hx;⟨b,o,ha,fun j v hv=>hb _ _ (hc j v hv)⟩⟩
theorem Row.below {B:Nat} (h:Row w k enc a n c xs) (hb:Below B w w') (hB:B=w.heap.size):Row w' k enc a n c xs:=h.ext fun _ _=>aT hb hB
theorem Row.le (h:Row w k enc a n c xs):n≤140737488355328:=h.2.2.1
theorem Row.len (h:Row w k enc a n c xs):xs.length=n:=h.1
theorem Row.cap (h:Row w k enc a n c xs):n≤c:=h.2.1
theorem Row.none_ (h:Row w k enc none n c xs):c=0∧n=0∧xs=[]:=by
 have h0:=h.2.2.2.1 rfl;have h1:=h.2.1;exact⟨h0,by omega,List.eq_nil_of_length_eq_zero (by rw[h.1];omega)⟩
theorem Row.at_ (h:Row w k enc a n c xs) {i:Nat} (hi:i<n):∃x b o,xs[i]?=some x∧a=some ⟨b,o,none⟩∧∀j v,(enc x)[j]?=some v→w.cell? ⟨b,o+i*k+j,none⟩=some v:=by
 have hl:i<xs.length:=by rw[h.1];exact hi
 obtain⟨b,o,ha,hc⟩:=h.2.2.2.2 i xs[i] (List.getElem?_eq_getElem hl);exact⟨xs[i],b,o,List.getElem?_eq_getElem hl,ha,hc⟩
theorem Row.iJ:Row w k enc none 0 0 ([]:List α):=⟨rfl,Nat.le_refl _,by decide,fun _=>rfl,fun i x h=>by simp at h⟩
end
abbrev Bs:=List UInt8
structure kT where
 t:Int
 k:Int
 deriving DecidableEq,Inhabited
structure Sn where
 obj:Int
 v:kT
 deriving DecidableEq,Inhabited
structure Wa where
 bR:Int
 bits:Int
 deriving DecidableEq,Inhabited
structure To where
 name:Bs
 k:Int
 deriving DecidableEq
structure EvC where
 kind:Int
 t:Int
 bR:Int
 lvl:Int
 obj:Int
 v:kT
 pred:Int
 sa:Option Addr
 sn:Nat
 sc:Nat
structure aK where
 obj:Int
 sa:Option Addr
 sn:Nat
 sc:Nat
structure aM where
 pred:Int
 obj:Int
 first:Bool
 sa:Option Addr
 sn:Nat
 sc:Nat
structure bf where
 kind:Int
 na:Option Addr
 nn:Nat
 nc:Nat
 lvl:Int
 va:Option Addr
 vn:Nat
 vc:Nat
 first:Bool
 bits:Int
def aZ (n:Int):List Value:=[.int .i64 n]
@[reducible] def Cb (n:Int):Value:= .int .i64 n
def encStr (s:Bs):List Value:=[.string ⟨s.toArray⟩]
@[reducible] def valStr (s:Bs):Value:= .string ⟨s.toArray⟩
def dB (s:Sn):List Value:=[.int .i64 s.obj,.int .i64 s.v.t,.int .i64 s.v.k]
@[reducible] def xJ (s:Sn):Value:= .agg #[.int .i64 s.obj,.int .i64 s.v.t,.int .i64 s.v.k]
def fK (s:Wa):List Value:=[.int .i64 s.bR,.int .i64 s.bits]
@[reducible] def xK (s:Wa):Value:= .agg #[.int .i64 s.bR,.int .i64 s.bits]
def mR (s:To):List Value:=[.string ⟨s.name.toArray⟩,.int .i64 s.k]
@[reducible] def uJ (s:To):Value:= .agg #[.string ⟨s.name.toArray⟩,.int .i64 s.k]
def dP (e:EvC):List Value:=[.int .i64 e.kind,.int .i64 e.t,.int .i64 e.bR,.int .i64 e.lvl,.int .i64 e.obj,.int .i64 e.v.t,.int .i64 e.v.k,.int .i64 e.pred,.slice e.sa e.sn e.sc]
@[reducible] def gW (e:EvC):Value:= .agg #[.int .i64 e.kind,.int .i64 e.t,.int .i64 e.bR,.int .i64 e.lvl,.int .i64 e.obj,.int .i64 e.v.t,.int .i64 e.v.k,.int .i64 e.pred,.slice e.sa e.sn e.sc]
def eu (s:aK):List Value:=[.int .i64 s.obj,.slice s.sa s.sn s.sc]
@[reducible] def xL (s:aK):Value:= .agg #[.int .i64 s.obj,.slice s.sa s.sn s.sc]
def dW (s:aM):List Value:=[.int .i64 s.pred,.int .i64 s.obj,.bool s.first,.slice s.sa s.sn s.sc]
@[reducible] def xM (s:aM):Value:= .agg #[.int .i64 s.pred,.int .i64 s.obj,.bool s.first,.slice s.sa s.sn s.sc]
def iG (l:bf):List Value:=[.int .i64 l.kind,.slice l.na l.nn l.nc,.int .i64 l.lvl,.slice l.va l.vn l.vc,.bool l.first,.int .i64 l.bits]
@[reducible] def kG (l:bf):Value:= .agg #[.int .i64 l.kind,.slice l.na l.nn l.nc,.int .i64 l.lvl,.slice l.va l.vn l.vc,.bool l.first,.int .i64 l.bits]
def mW {α:Type} (P:Program) (f:Nat) (cap:Array Value) (val:α→Value) (p:α→Bool) (xs:List α) (w:World):Prop:=
 ∀x∈xs,∀W,Below w.heap.size w W→Calls P f (#[val x]++cap) W (bC (.bool (p x)) W)
def idx {α:Type} (p:α→Bool) (xs:List α):Int:=match xs.findIdx? p with|some i=>(i:Int)|none=> -1
theorem pI {α:Type} {p:α→Bool} {xs:List α} {i:Nat} (h:xs.findIdx? p=some i):idx p xs=i:=by unfold idx;rw[h]
theorem pJ {α:Type} {p:α→Bool} {xs:List α} (h:xs.findIdx? p=none):idx p xs= -1:=by unfold idx;rw[h]
theorem tQ {α:Type} (p:α→Bool) (xs:List α):decide (0≤idx p xs)=xs.any p:=by
 cases h:xs.findIdx? p with
 |none=>
  rw[pJ h];rw[List.findIdx?_eq_none_iff] at h
  symm;simp only[show decide ((0:Int)≤ -1)=false from rfl,List.any_eq_false]
  intro x hx;simp[h x hx]
 |some i=>
  rw[pI h];rw[List.findIdx?_eq_some_iff_getElem] at h;obtain⟨hl,hp,_⟩:=h
  symm
  simp only[show decide ((0:Int)≤(i:Int))=true by simp,List.any_eq_true];exact⟨xs[i],List.getElem_mem hl,hp⟩
theorem findIdx?_take {α:Type} (p:α→Bool) (xs:List α) (i:Nat) (h:(xs.take i).findIdx? p=none) (x:α) (hx:xs[i]?=some x) (hp:p x=true):xs.findIdx? p=some i:=by
 rw[List.findIdx?_eq_some_iff_getElem];have hl:i<xs.length:=by
  rcases Nat.lt_or_ge i xs.length with h'|h'
  ·exact h'
  ·rw[List.getElem?_eq_none h'] at hx;cases hx
 refine⟨hl,?_,?_⟩
 ·rw[List.getElem?_eq_getElem hl] at hx
  have e:xs[i]=x:=Option.some.inj hx;rw[e];exact hp
 ·intro j hj
  rw[List.findIdx?_eq_none_iff] at h;have:=h xs[j] (by
   rw[List.mem_iff_getElem?];exact⟨j,by rw[List.getElem?_take,if_pos hj];exact List.getElem?_eq_getElem ah⟩)
  simpa using this
theorem ku {α:Type} (p:α→Bool) (xs:List α) (i:Nat) (h:(xs.take i).findIdx? p=none) (x:α) (hx:xs[i]?=some x) (hp:p x=false):(xs.take (i+1)).findIdx? p=none:=by
 rw[List.take_add_one,hx];simp[List.findIdx?_append,h,hp]
end Yd
namespace Yd
open List renaming take_of_length_le→h,mem_of_getElem?→j
open Nat renaming add_zero→r,zero_le→v,mul_one→K
open Go Go.RowKit Go.Proofs Tryz
open Below renaming refl→z
open Go renaming callFunc→l,World→m,Value→B,Calls→C,Addr→F
open Go.Value renaming slice→u,int→D,bool→J
open RowKit renaming intOf→g
open Tryz renaming prog→d
open _root_ renaming Option→s,Array→A,Nat→E,List→G,Bool→I
theorem Rc (x y:To) (w:m):(Op.equalIn 10000 76 (uJ x) (uJ y)).run d w= .ok (decide (x=y)) w:=by
 simp[uJ,go_sem]
 cases x;cases y;simp;(repeat' split) <;> simp_all
theorem aaL (x y:Wa) (w:m):(Op.equalIn 10000 83 (xK x) (xK y)).run d w= .ok (decide (x=y)) w:=by
 simp[xK,go_sem]
 cases x;cases y;simp;(repeat' split) <;> simp_all
theorem YB (x y:kT) (w:m):(Op.equalIn 10000 62 (.agg #[D .i64 x.t,D .i64 x.k]) (.agg #[D .i64 y.t,D .i64 y.k])).run d w= .ok (decide (x=y)) w:=by
 simp[go_sem]
 cases x;cases y;simp;(repeat' split) <;> simp_all
theorem aaM (x y:Sn) (w:m):(Op.equalIn 10000 148 (xJ x) (xJ y)).run d w= .ok (decide (x=y)) w:=by
 simp[xJ,go_sem];obtain⟨_,⟨_,_⟩⟩:=x;obtain⟨_,⟨_,_⟩⟩:=y;simp;(repeat' split) <;> simp_all
theorem ael (a:s F) (n c f:E) (cap:A B) (cs:G EvC) (p:EvC→I) (w:m) (hr:Row w 9 dP a n c cs)
  (eg:∀args w,(l f args).run d w= .ok (.enter f args) w) (hp:mW d f cap gW p cs w):
  C d 160 #[u a n c,.func (.func f) #[] cap] w (bC (D .i64 (idx p cs)) w):=by
 have hn:=hr.le;have H:=hid hp;clear hp;have HR:=hid hr;clear hr;go_enter func160,ntmps160;go_wp2_with fail
 go_loopw [8] (fun i wr=>∃k:E,k≤n∧i= D .i64 k∧(cs.take k).findIdx? p=none∧Below w.heap.size w wr) (fun i _=>n - (g i).toNat)
 case atStart=>exact⟨0,v _,rfl,rfl,z _ _⟩
 case round=>
  obtain⟨k,hk,rfl,hf,hb⟩:=hrel;by_cases hlt:k<n
  ·obtain⟨x,b,o,hx,rfl,hc⟩:=HR.q.at_ hlt
   have h0:=aT hb rfl (hc 0 _ rfl);have h1:=aT hb rfl (hc 1 _ rfl);have h2:=aT hb rfl (hc 2 _ rfl);have h3:=aT hb rfl (hc 3 _ rfl);have h4:=aT hb rfl (hc 4 _ rfl);have h5:=aT hb rfl (hc 5 _ rfl);have h6:=aT hb rfl (hc 6 _ rfl);have h7:=aT hb rfl (hc 7 _ rfl);have h8:=aT hb rfl (hc 8 _ rfl);simp only[r] at h0;have hcall:=H.q x (j hx) wr hb;have HX:=hid hx;have HF:=hid hf;clear hc hx hf
   cases hpx:p x
   all_goals
    rw[hpx] at hcall;have HC:=hid hcall;have HP:=hid hpx;clear hcall hpx;go_wp2_with fail;refine HC.q.mono ?_;rintro e w1 ⟨rfl,hb1⟩;go_wp2_with fail
   ·go_roundw
    case rel=>exact⟨k+1,by omega,by go_num,ku p cs k HF.q x HX.q HP.q,hb.trans (hb1.mono hb.size)⟩
    case measure=>simp[g];omega
   ·go_ret
    refine⟨?_,hb.trans (hb1.mono hb.size)⟩;rw[pI (findIdx?_take p cs k HF.q x HX.q HP.q)];rfl
  ·have hkn:k=n:=by omega
   have HF:=hid hf;clear hf;go_wp2_with fail;go_ret;refine⟨?_,hb⟩;have e:cs.take k=cs:=h (by rw[HR.q.len];omega);rw[pJ (xs:=cs) (by rw[←e];exact HF.q)];rfl
theorem aem (a:s F) (n c f:E) (cap:A B) (cs:G To) (p:To→I) (w:m) (hr:Row w 2 mR a n c cs)
  (eg:∀args w,(l f args).run d w= .ok (.enter f args) w) (hp:mW d f cap uJ p cs w):
  C d 177 #[u a n c,.func (.func f) #[] cap] w (bC (D .i64 (idx p cs)) w):=by
 have hn:=hr.le;have H:=hid hp;clear hp;have HR:=hid hr;clear hr;go_enter func177,ntmps177;go_wp2_with fail
 go_loopw [8] (fun i wr=>∃k:E,k≤n∧i= D .i64 k∧(cs.take k).findIdx? p=none∧Below w.heap.size w wr) (fun i _=>n - (g i).toNat)
 case atStart=>exact⟨0,v _,rfl,rfl,z _ _⟩
 case round=>
  obtain⟨k,hk,rfl,hf,hb⟩:=hrel;by_cases hlt:k<n
  ·obtain⟨x,b,o,hx,rfl,hc⟩:=HR.q.at_ hlt
   have h0:=aT hb rfl (hc 0 _ rfl);have h1:=aT hb rfl (hc 1 _ rfl);simp only[r] at h0;have hcall:=H.q x (j hx) wr hb;have HX:=hid hx;have HF:=hid hf;clear hc hx hf
   cases hpx:p x
   all_goals
    rw[hpx] at hcall;have HC:=hid hcall;have HP:=hid hpx;clear hcall hpx;go_wp2_with fail;refine HC.q.mono ?_;rintro e w1 ⟨rfl,hb1⟩;go_wp2_with fail
   ·go_roundw
    case rel=>exact⟨k+1,by omega,by go_num,ku p cs k HF.q x HX.q HP.q,hb.trans (hb1.mono hb.size)⟩
    case measure=>simp[g];omega
   ·go_ret
    refine⟨?_,hb.trans (hb1.mono hb.size)⟩;rw[pI (findIdx?_take p cs k HF.q x HX.q HP.q)];rfl
  ·have hkn:k=n:=by omega
   have HF:=hid hf;clear hf;go_wp2_with fail;go_ret;refine⟨?_,hb⟩;have e:cs.take k=cs:=h (by rw[HR.q.len];omega);rw[pJ (xs:=cs) (by rw[←e];exact HF.q)];rfl
theorem aaN (a:s F) (n c f:E) (cap:A B) (cs:G Bs) (p:Bs→I) (w:m) (hr:Row w 1 encStr a n c cs)
  (eg:∀args w,(l f args).run d w= .ok (.enter f args) w) (hp:mW d f cap valStr p cs w):
  C d 178 #[u a n c,.func (.func f) #[] cap] w (bC (D .i64 (idx p cs)) w):=by
 have hn:=hr.le;have H:=hid hp;clear hp;have HR:=hid hr;clear hr;go_enter func178,ntmps178;go_wp2_with fail
 go_loopw [8] (fun i wr=>∃k:E,k≤n∧i= D .i64 k∧(cs.take k).findIdx? p=none∧Below w.heap.size w wr) (fun i _=>n - (g i).toNat)
 case atStart=>exact⟨0,v _,rfl,rfl,z _ _⟩
 case round=>
  obtain⟨k,hk,rfl,hf,hb⟩:=hrel;by_cases hlt:k<n
  ·obtain⟨x,b,o,hx,rfl,hc⟩:=HR.q.at_ hlt
   have h0:=aT hb rfl (hc 0 _ rfl);simp only[K,r] at h0;have hcall:=H.q x (j hx) wr hb;have HX:=hid hx;have HF:=hid hf;clear hc hx hf
   cases hpx:p x
   all_goals
    rw[hpx] at hcall;have HC:=hid hcall;have HP:=hid hpx;clear hcall hpx;go_wp2_with fail;refine HC.q.mono ?_;rintro e w1 ⟨rfl,hb1⟩;go_wp2_with fail
   ·go_roundw
    case rel=>exact⟨k+1,by omega,by go_num,ku p cs k HF.q x HX.q HP.q,hb.trans (hb1.mono hb.size)⟩
    case measure=>simp[g];omega
   ·go_ret
    refine⟨?_,hb.trans (hb1.mono hb.size)⟩;rw[pI (findIdx?_take p cs k HF.q x HX.q HP.q)];rfl
  ·have hkn:k=n:=by omega
   have HF:=hid hf;clear hf;go_wp2_with fail;go_ret;refine⟨?_,hb⟩;have e:cs.take k=cs:=h (by rw[HR.q.len];omega);rw[pJ (xs:=cs) (by rw[←e];exact HF.q)];rfl
theorem aaO (a:s F) (n c f:E) (cap:A B) (cs:G Int) (p:Int→I) (w:m) (hr:Row w 1 aZ a n c cs)
  (eg:∀args w,(l f args).run d w= .ok (.enter f args) w) (hp:mW d f cap Cb p cs w):
  C d 235 #[u a n c,.func (.func f) #[] cap] w (bC (D .i64 (idx p cs)) w):=by
 have hn:=hr.le;have H:=hid hp;clear hp;have HR:=hid hr;clear hr;go_enter func235,ntmps235;go_wp2_with fail
 go_loopw [8] (fun i wr=>∃k:E,k≤n∧i= D .i64 k∧(cs.take k).findIdx? p=none∧Below w.heap.size w wr) (fun i _=>n - (g i).toNat)
 case atStart=>exact⟨0,v _,rfl,rfl,z _ _⟩
 case round=>
  obtain⟨k,hk,rfl,hf,hb⟩:=hrel;by_cases hlt:k<n
  ·obtain⟨x,b,o,hx,rfl,hc⟩:=HR.q.at_ hlt
   have h0:=aT hb rfl (hc 0 _ rfl);simp only[K,r] at h0;have hcall:=H.q x (j hx) wr hb;have HX:=hid hx;have HF:=hid hf;clear hc hx hf
   cases hpx:p x
   all_goals
    rw[hpx] at hcall;have HC:=hid hcall;have HP:=hid hpx;clear hcall hpx;go_wp2_with fail;refine HC.q.mono ?_;rintro e w1 ⟨rfl,hb1⟩;go_wp2_with fail
   ·go_roundw
    case rel=>exact⟨k+1,by omega,by go_num,ku p cs k HF.q x HX.q HP.q,hb.trans (hb1.mono hb.size)⟩
    case measure=>simp[g];omega
   ·go_ret
    refine⟨?_,hb.trans (hb1.mono hb.size)⟩;rw[pI (findIdx?_take p cs k HF.q x HX.q HP.q)];rfl
  ·have hkn:k=n:=by omega
   have HF:=hid hf;clear hf;go_wp2_with fail;go_ret;refine⟨?_,hb⟩;have e:cs.take k=cs:=h (by rw[HR.q.len];omega);rw[pJ (xs:=cs) (by rw[←e];exact HF.q)];rfl
theorem aen (a:s F) (n c f:E) (cap:A B) (cs:G aK) (p:aK→I) (w:m) (hr:Row w 2 eu a n c cs)
  (eg:∀args w,(l f args).run d w= .ok (.enter f args) w) (hp:mW d f cap xL p cs w):
  C d 238 #[u a n c,.func (.func f) #[] cap] w (bC (D .i64 (idx p cs)) w):=by
 have hn:=hr.le;have H:=hid hp;clear hp;have HR:=hid hr;clear hr;go_enter func238,ntmps238;go_wp2_with fail
 go_loopw [8] (fun i wr=>∃k:E,k≤n∧i= D .i64 k∧(cs.take k).findIdx? p=none∧Below w.heap.size w wr) (fun i _=>n - (g i).toNat)
 case atStart=>exact⟨0,v _,rfl,rfl,z _ _⟩
 case round=>
  obtain⟨k,hk,rfl,hf,hb⟩:=hrel;by_cases hlt:k<n
  ·obtain⟨x,b,o,hx,rfl,hc⟩:=HR.q.at_ hlt
   have h0:=aT hb rfl (hc 0 _ rfl);have h1:=aT hb rfl (hc 1 _ rfl);simp only[r] at h0;have hcall:=H.q x (j hx) wr hb;have HX:=hid hx;have HF:=hid hf;clear hc hx hf
   cases hpx:p x
   all_goals
    rw[hpx] at hcall;have HC:=hid hcall;have HP:=hid hpx;clear hcall hpx;go_wp2_with fail;refine HC.q.mono ?_;rintro e w1 ⟨rfl,hb1⟩;go_wp2_with fail
   ·go_roundw
    case rel=>exact⟨k+1,by omega,by go_num,ku p cs k HF.q x HX.q HP.q,hb.trans (hb1.mono hb.size)⟩
    case measure=>simp[g];omega
   ·go_ret
    refine⟨?_,hb.trans (hb1.mono hb.size)⟩;rw[pI (findIdx?_take p cs k HF.q x HX.q HP.q)];rfl
  ·have hkn:k=n:=by omega
   have HF:=hid hf;clear hf;go_wp2_with fail;go_ret;refine⟨?_,hb⟩;have e:cs.take k=cs:=h (by rw[HR.q.len];omega);rw[pJ (xs:=cs) (by rw[←e];exact HF.q)];rfl
theorem aeo (a:s F) (n c f:E) (cap:A B) (cs:G aM) (p:aM→I) (w:m) (hr:Row w 4 dW a n c cs)
  (eg:∀args w,(l f args).run d w= .ok (.enter f args) w) (hp:mW d f cap xM p cs w):
  C d 239 #[u a n c,.func (.func f) #[] cap] w (bC (D .i64 (idx p cs)) w):=by
 have hn:=hr.le;have H:=hid hp;clear hp;have HR:=hid hr;clear hr;go_enter func239,ntmps239;go_wp2_with fail
 go_loopw [8] (fun i wr=>∃k:E,k≤n∧i= D .i64 k∧(cs.take k).findIdx? p=none∧Below w.heap.size w wr) (fun i _=>n - (g i).toNat)
 case atStart=>exact⟨0,v _,rfl,rfl,z _ _⟩
 case round=>
  obtain⟨k,hk,rfl,hf,hb⟩:=hrel;by_cases hlt:k<n
  ·obtain⟨x,b,o,hx,rfl,hc⟩:=HR.q.at_ hlt
   have h0:=aT hb rfl (hc 0 _ rfl);have h1:=aT hb rfl (hc 1 _ rfl);have h2:=aT hb rfl (hc 2 _ rfl);have h3:=aT hb rfl (hc 3 _ rfl);simp only[r] at h0;have hcall:=H.q x (j hx) wr hb;have HX:=hid hx;have HF:=hid hf;clear hc hx hf
   cases hpx:p x
   all_goals
    rw[hpx] at hcall;have HC:=hid hcall;have HP:=hid hpx;clear hcall hpx;go_wp2_with fail;refine HC.q.mono ?_;rintro e w1 ⟨rfl,hb1⟩;go_wp2_with fail
   ·go_roundw
    case rel=>exact⟨k+1,by omega,by go_num,ku p cs k HF.q x HX.q HP.q,hb.trans (hb1.mono hb.size)⟩
    case measure=>simp[g];omega
   ·go_ret
    refine⟨?_,hb.trans (hb1.mono hb.size)⟩;rw[pI (findIdx?_take p cs k HF.q x HX.q HP.q)];rfl
  ·have hkn:k=n:=by omega
   have HF:=hid hf;clear hf;go_wp2_with fail;go_ret;refine⟨?_,hb⟩;have e:cs.take k=cs:=h (by rw[HR.q.len];omega);rw[pJ (xs:=cs) (by rw[←e];exact HF.q)];rfl
theorem aep (a:s F) (n c f:E) (cap:A B) (cs:G Wa) (p:Wa→I) (w:m) (hr:Row w 2 fK a n c cs)
  (eg:∀args w,(l f args).run d w= .ok (.enter f args) w) (hp:mW d f cap xK p cs w):
  C d 240 #[u a n c,.func (.func f) #[] cap] w (bC (D .i64 (idx p cs)) w):=by
 have hn:=hr.le;have H:=hid hp;clear hp;have HR:=hid hr;clear hr;go_enter func240,ntmps240;go_wp2_with fail
 go_loopw [8] (fun i wr=>∃k:E,k≤n∧i= D .i64 k∧(cs.take k).findIdx? p=none∧Below w.heap.size w wr) (fun i _=>n - (g i).toNat)
 case atStart=>exact⟨0,v _,rfl,rfl,z _ _⟩
 case round=>
  obtain⟨k,hk,rfl,hf,hb⟩:=hrel;by_cases hlt:k<n
  ·obtain⟨x,b,o,hx,rfl,hc⟩:=HR.q.at_ hlt
   have h0:=aT hb rfl (hc 0 _ rfl);have h1:=aT hb rfl (hc 1 _ rfl);simp only[r] at h0;have hcall:=H.q x (j hx) wr hb;have HX:=hid hx;have HF:=hid hf;clear hc hx hf
   cases hpx:p x
   all_goals
    rw[hpx] at hcall;have HC:=hid hcall;have HP:=hid hpx;clear hcall hpx;go_wp2_with fail;refine HC.q.mono ?_;rintro e w1 ⟨rfl,hb1⟩;go_wp2_with fail
   ·go_roundw
    case rel=>exact⟨k+1,by omega,by go_num,ku p cs k HF.q x HX.q HP.q,hb.trans (hb1.mono hb.size)⟩
    case measure=>simp[g];omega
   ·go_ret
    refine⟨?_,hb.trans (hb1.mono hb.size)⟩;rw[pI (findIdx?_take p cs k HF.q x HX.q HP.q)];rfl
  ·have hkn:k=n:=by omega
   have HF:=hid hf;clear hf;go_wp2_with fail;go_ret;refine⟨?_,hb⟩;have e:cs.take k=cs:=h (by rw[HR.q.len];omega);rw[pJ (xs:=cs) (by rw[←e];exact HF.q)];rfl
theorem aer (a:s F) (n c f:E) (cap:A B) (cs:G Sn) (p:Sn→I) (w:m) (hr:Row w 3 dB a n c cs)
  (eg:∀args w,(l f args).run d w= .ok (.enter f args) w) (hp:mW d f cap xJ p cs w):
  C d 259 #[u a n c,.func (.func f) #[] cap] w (bC (D .i64 (idx p cs)) w):=by
 have hn:=hr.le;have H:=hid hp;clear hp;have HR:=hid hr;clear hr;go_enter func259,ntmps259;go_wp2_with fail
 go_loopw [8] (fun i wr=>∃k:E,k≤n∧i= D .i64 k∧(cs.take k).findIdx? p=none∧Below w.heap.size w wr) (fun i _=>n - (g i).toNat)
 case atStart=>exact⟨0,v _,rfl,rfl,z _ _⟩
 case round=>
  obtain⟨k,hk,rfl,hf,hb⟩:=hrel;by_cases hlt:k<n
  ·obtain⟨x,b,o,hx,rfl,hc⟩:=HR.q.at_ hlt
   have h0:=aT hb rfl (hc 0 _ rfl);have h1:=aT hb rfl (hc 1 _ rfl);have h2:=aT hb rfl (hc 2 _ rfl);simp only[r] at h0;have hcall:=H.q x (j hx) wr hb;have HX:=hid hx;have HF:=hid hf;clear hc hx hf
   cases hpx:p x
   all_goals
    rw[hpx] at hcall;have HC:=hid hcall;have HP:=hid hpx;clear hcall hpx;go_wp2_with fail;refine HC.q.mono ?_;rintro e w1 ⟨rfl,hb1⟩;go_wp2_with fail
   ·go_roundw
    case rel=>exact⟨k+1,by omega,by go_num,ku p cs k HF.q x HX.q HP.q,hb.trans (hb1.mono hb.size)⟩
    case measure=>simp[g];omega
   ·go_ret
    refine⟨?_,hb.trans (hb1.mono hb.size)⟩;rw[pI (findIdx?_take p cs k HF.q x HX.q HP.q)];rfl
  ·have hkn:k=n:=by omega
   have HF:=hid hf;clear hf;go_wp2_with fail;go_ret;refine⟨?_,hb⟩;have e:cs.take k=cs:=h (by rw[HR.q.len];omega);rw[pJ (xs:=cs) (by rw[←e];exact HF.q)];rfl
theorem aaP (a:s F) (n c f:E) (cap:A B) (cs:G EvC) (p:EvC→I) (w:m) (hr:Row w 9 dP a n c cs)
  (eg:∀args w,(l f args).run d w= .ok (.enter f args) w) (hp:mW d f cap gW p cs w):
  C d 69 #[u a n c,.func (.func f) #[] cap] w (bC (J (cs.any p)) w):=by
 have HC:=ael a n c f cap cs p w hr eg hp;have H:=hid HC;clear HC hp hr;go_enter func69,ntmps69
 go_wp2_with (go_at_call 160;refine H.q.mono ?_;rintro e w1 ⟨rfl,hb1⟩)
 go_ret;exact⟨by rw[←tQ];rfl,hb1⟩
theorem Rf (a:s F) (n c f:E) (cap:A B) (cs:G To) (p:To→I) (w:m) (hr:Row w 2 mR a n c cs)
  (eg:∀args w,(l f args).run d w= .ok (.enter f args) w) (hp:mW d f cap uJ p cs w):
  C d 90 #[u a n c,.func (.func f) #[] cap] w (bC (J (cs.any p)) w):=by
 have HC:=aem a n c f cap cs p w hr eg hp;have H:=hid HC;clear HC hp hr;go_enter func90,ntmps90
 go_wp2_with (go_at_call 177;refine H.q.mono ?_;rintro e w1 ⟨rfl,hb1⟩)
 go_ret;exact⟨by rw[←tQ];rfl,hb1⟩
theorem Nf (a:s F) (n c f:E) (cap:A B) (cs:G Bs) (p:Bs→I) (w:m) (hr:Row w 1 encStr a n c cs)
  (eg:∀args w,(l f args).run d w= .ok (.enter f args) w) (hp:mW d f cap valStr p cs w):
  C d 93 #[u a n c,.func (.func f) #[] cap] w (bC (J (cs.any p)) w):=by
 have HC:=aaN a n c f cap cs p w hr eg hp;have H:=hid HC;clear HC hp hr;go_enter func93,ntmps93
 go_wp2_with (go_at_call 178;refine H.q.mono ?_;rintro e w1 ⟨rfl,hb1⟩)
 go_ret;exact⟨by rw[←tQ];rfl,hb1⟩
theorem YC (a:s F) (n c f:E) (cap:A B) (cs:G Int) (p:Int→I) (w:m) (hr:Row w 1 aZ a n c cs)
  (eg:∀args w,(l f args).run d w= .ok (.enter f args) w) (hp:mW d f cap Cb p cs w):
  C d 192 #[u a n c,.func (.func f) #[] cap] w (bC (J (cs.any p)) w):=by
 have HC:=aaO a n c f cap cs p w hr eg hp;have H:=hid HC;clear HC hp hr;go_enter func192,ntmps192
 go_wp2_with (go_at_call 235;refine H.q.mono ?_;rintro e w1 ⟨rfl,hb1⟩)
 go_ret;exact⟨by rw[←tQ];rfl,hb1⟩
theorem aaQ (a:s F) (n c f:E) (cap:A B) (cs:G aK) (p:aK→I) (w:m) (hr:Row w 2 eu a n c cs)
  (eg:∀args w,(l f args).run d w= .ok (.enter f args) w) (hp:mW d f cap xL p cs w):
  C d 204 #[u a n c,.func (.func f) #[] cap] w (bC (J (cs.any p)) w):=by
 have HC:=aen a n c f cap cs p w hr eg hp;have H:=hid HC;clear HC hp hr;go_enter func204,ntmps204
 go_wp2_with (go_at_call 238;refine H.q.mono ?_;rintro e w1 ⟨rfl,hb1⟩)
 go_ret;exact⟨by rw[←tQ];rfl,hb1⟩
theorem aaR (a:s F) (n c f:E) (cap:A B) (cs:G aM) (p:aM→I) (w:m) (hr:Row w 4 dW a n c cs)
  (eg:∀args w,(l f args).run d w= .ok (.enter f args) w) (hp:mW d f cap xM p cs w):
  C d 206 #[u a n c,.func (.func f) #[] cap] w (bC (J (cs.any p)) w):=by
 have HC:=aeo a n c f cap cs p w hr eg hp;have H:=hid HC;clear HC hp hr;go_enter func206,ntmps206
 go_wp2_with (go_at_call 239;refine H.q.mono ?_;rintro e w1 ⟨rfl,hb1⟩)
 go_ret;exact⟨by rw[←tQ];rfl,hb1⟩
theorem aaS (a:s F) (n c f:E) (cap:A B) (cs:G Wa) (p:Wa→I) (w:m) (hr:Row w 2 fK a n c cs)
  (eg:∀args w,(l f args).run d w= .ok (.enter f args) w) (hp:mW d f cap xK p cs w):
  C d 208 #[u a n c,.func (.func f) #[] cap] w (bC (J (cs.any p)) w):=by
 have HC:=aep a n c f cap cs p w hr eg hp;have H:=hid HC;clear HC hp hr;go_enter func208,ntmps208
 go_wp2_with (go_at_call 240;refine H.q.mono ?_;rintro e w1 ⟨rfl,hb1⟩)
 go_ret;exact⟨by rw[←tQ];rfl,hb1⟩
theorem aaT (a:s F) (n c f:E) (cap:A B) (cs:G Sn) (p:Sn→I) (w:m) (hr:Row w 3 dB a n c cs)
  (eg:∀args w,(l f args).run d w= .ok (.enter f args) w) (hp:mW d f cap xJ p cs w):
  C d 236 #[u a n c,.func (.func f) #[] cap] w (bC (J (cs.any p)) w):=by
 have HC:=aer a n c f cap cs p w hr eg hp;have H:=hid HC;clear HC hp hr;go_enter func236,ntmps236
 go_wp2_with (go_at_call 259;refine H.q.mono ?_;rintro e w1 ⟨rfl,hb1⟩)
 go_ret;exact⟨by rw[←tQ];rfl,hb1⟩
end Yd
namespace Yd
open Go Go.RowKit
open Go renaming Value→f,World→m
open _root_ renaming Array→j
@[reducible] def Bx (W:m) (b:Nat) (cs:j f):Prop:=(∀i,W.cell? ⟨b,i,none⟩=cs[i]?)∧(∀i,W.frozen? ⟨b,i,none⟩=false)∧b<W.heap.size
theorem Bx.below {X w':m} {b B:Nat} {cs:j f} (h:Bx X b cs) (hb:Below B X w') (hB:b<B):Bx w' b cs:=
 ⟨fun i=>(hb.cell (p:=⟨b,i,none⟩) hB).trans (h.1 i),fun i=>(hb.frozen (p:=⟨b,i,none⟩) hB).trans (h.2.1 i),Nat.lt_of_lt_of_le h.2.2 hb.size⟩
theorem Bx.keep {X w':m} {b:Nat} {cs:j f} (h:Bx X b cs) (hb:Below X.heap.size X w'):Bx w' b cs:=h.below hb h.2.2
theorem Bx.drew {X:m} {b:Nat} {cs:j f} (h:Bx X b cs):Bx X.drew b cs:=h
theorem Bx.drewN {X:m} {b:Nat} {cs:j f} (h:Bx X b cs) (n:Nat):Bx (X.drewN n) b cs:=h
theorem Bx.alloc {X:m} {b:Nat} {cs:j f} (h:Bx X b cs) (o:Obj):Bx (X.alloc o) b cs:=h.keep ((Below.refl _ _).alloc (Nat.le_refl _) _)
theorem Bx.new (X:m) (cs:j f) (T:TypeId):Bx (X.alloc (.cells cs T)) X.heap.size cs:=
 ⟨fun i=>World.cell?_alloc_new X cs T i,fun i=>by
  have h:(X.alloc (.cells cs T)).heap[X.heap.size]?=some (.cells cs T (0,0)):=by show(X.heap.push _)[_]?=_;simp
  unfold World.frozen?;simp only[h];simp,by simp⟩
theorem Bx.other {X:m} {b:Nat} {cs:j f} (h:Bx X b cs) {p:Addr} (hp:b≠p.block) (v:f):Bx (X.setCell p v) b cs:=by
 have e:=Below.heap_setCell X p v b hp;refine⟨fun i=>(World.cell?_of_block (a:=⟨b,i,none⟩) e).trans (h.1 i),fun i=>(World.frozen?_of_block (a:=⟨b,i,none⟩) e).trans (h.2.1 i),?_⟩;have:=h.2.2
 simpa[World.setCell] using this
theorem WV {X w':m} {a b:Nat} {c d:j f} (h:Bx X a c∧Bx X b d) (hb:Below X.heap.size X w'):Bx w' a c∧Bx w' b d:=⟨h.1.keep hb,h.2.keep hb⟩
theorem I9 {X w':m} {a b g:Nat} {c d e:j f} (h:Bx X a c∧Bx X b d∧Bx X g e) (hb:Below X.heap.size X w'):Bx w' a c∧Bx w' b d∧Bx w' g e:=⟨h.1.keep hb,WV h.2 hb⟩
@[reducible] def Ng (s:Wa):j f:=#[.int .i64 s.bR,.int .i64 s.bits]
@[reducible] def Nh (s:To):j f:=#[.string ⟨s.name.toArray⟩,.int .i64 s.k]
@[reducible] def bG (e:EvC):j f:=#[.int .i64 e.kind,.int .i64 e.t,.int .i64 e.bR,.int .i64 e.lvl,.int .i64 e.obj,.int .i64 e.v.t,.int .i64 e.v.k,.int .i64 e.pred,.slice e.sa e.sn e.sc]
@[reducible] def Ni (s:aK):j f:=#[.int .i64 s.obj,.slice s.sa s.sn s.sc]
@[reducible] def Nj (s:aM):j f:=#[.int .i64 s.pred,.int .i64 s.obj,.bool s.first,.slice s.sa s.sn s.sc]
@[reducible] def jE (l:bf):j f:=#[.int .i64 l.kind,.slice l.na l.nn l.nc,.int .i64 l.lvl,.slice l.va l.vn l.vc,.bool l.first,.int .i64 l.bits]
def uF (v u:f) (w:m) (e:Ending) (w':m):Prop:=e= .returned (.tuple #[v,u])∧Below w.heap.size w w'
end Yd
namespace Yd
open Array renaming getElem?_eq_some_iff→L
open List renaming any_eq_not_all_not→K
open Nat renaming le_refl→z
open Option renaming some→y,none→N
open Go Go.RowKit Go.Proofs Tryz
open Below renaming refl→E
open Go renaming World→j,callFunc→O,Value→V
open Go.RowKit renaming Below→T
open Go.Value renaming bool→M,pointer→S
open Tryz renaming prog→d
open World renaming putObj_heap_other→u
open _root_ renaming Nat→G,Array→U
def aO (D:G→Prop) (W W':j):Prop:=W.heap.size≤W'.heap.size∧∀i,D i→i<W.heap.size→W'.heap[i]?=W.heap[i]?
theorem aO.trans {D:G→Prop} {A B C:j} (h:aO D A B) (k:aO D B C):aO D A C:=
 ⟨Nat.le_trans h.1 k.1,fun i hi hl=>(k.2 i hi (Nat.lt_of_lt_of_le hl h.1)).trans (h.2 i hi hl)⟩
theorem aO.refl {D:G→Prop} (A:j):aO D A A:=⟨z _,fun _ _ _=>rfl⟩
theorem aO.mono {D D':G→Prop} {A B:j} (h:aO D A B) (hd:∀i,D' i→i<A.heap.size→D i):aO D' A B:=⟨h.1,fun i hi hl=>h.2 i (hd i hi hl) hl⟩
theorem aO.putObj {D:G→Prop} (A:j) {l:G} (o:Obj) (hl:¬D l):aO D A (A.putObj l o):=
 ⟨Nat.le_of_eq World.putObj_size.symm,fun _i hi _=>u (fun e=>hl (e▸hi))⟩
theorem aO.of_below {D:G→Prop} {B:G} {X Y:j} (h:T B X Y) (hd:∀i,D i→i<X.heap.size→i<B):aO D X Y:=⟨h.size,fun i hi hl=>h.block i (hd i hi hl)⟩
structure Same (A:G→Prop) (X Y:j):Prop where
 os:Y.os=X.os
 tape:Y.tape=X.tape
 output:Y.output=X.output
 size:X.heap.size≤Y.heap.size
 block:∀i,A i→i<X.heap.size→Y.heap[i]?=X.heap[i]?
theorem Same.of_below {A:G→Prop} {B:G} {X Y:j} (h:T B X Y) (hd:∀i,A i→i<X.heap.size→i<B):Same A X Y:=⟨h.os,h.tape,h.output,h.size,fun i hi hl=>h.block i (hd i hi hl)⟩
theorem Same.mono {A A':G→Prop} {X Y:j} (h:Same A X Y) (hd:∀i,A' i→i<X.heap.size→A i):Same A' X Y:=⟨h.os,h.tape,h.output,h.size,fun i hi hl=>h.block i (hd i hi hl) hl⟩
theorem Same.tr {A:G→Prop} {X Y Z:j} (h:Same A X Y) (k:Same A Y Z):Same A X Z:=
 ⟨k.os.trans h.os,k.tape.trans h.tape,k.output.trans h.output,Nat.le_trans h.size k.size,fun i hi hl=>(k.block i hi (Nat.lt_of_lt_of_le hl h.size)).trans (h.block i hi hl)⟩
theorem Same.below {A:G→Prop} {B:G} {w X Y:j} (h:T B w X) (k:Same A X Y) (hd:∀i,i<B→A i) (hB:B≤X.heap.size):T B w Y:=
 ⟨k.os.trans h.os,k.tape.trans h.tape,k.output.trans h.output,Nat.le_trans h.size k.size,fun i hi=>(k.block i (hd i hi) ah).trans (h.block i hi)⟩
theorem Same.bx {A:G→Prop} {X Y:j} {b:G} {cs:U V} (k:Same A X Y) (h:Bx X b cs) (ha:A b):Bx Y b cs:=
 ⟨fun i=>(World.cell?_of_block (a:=⟨b,i,N⟩) (k.block b ha h.2.2)).trans (h.1 i),fun i=>(World.frozen?_of_block (a:=⟨b,i,N⟩) (k.block b ha h.2.2)).trans (h.2.1 i),Nat.lt_of_lt_of_le h.2.2 k.size⟩
theorem Same.putObj {A:G→Prop} (X:j) {l:G} (o:Obj) (hl:¬A l):Same A X (X.putObj l o):=
 ⟨rfl,rfl,rfl,Nat.le_of_eq World.putObj_size.symm,fun _i hi _=>u (fun e=>hl (e▸hi))⟩
def Rh (l:G) (r:Loop) (R:Ending→j→Prop):Exit→Act→j→Prop
 | .normal,_,W=>W.heap[l]?=y (.loop {r with state:= .busy})∧R (.returned (M true)) (W.putObj l (.loop {r with state:= .ready,pending:=none}))
 | .ret,_,W=>W.heap[l]?=y (.loop {r with state:= .busy})∧R (.returned (M false)) (W.putObj l (.loop {r with state:= .done,pending:=some .ret}))
 | .exit id,_,W=>W.heap[l]?=y (.loop {r with state:= .busy})∧R (.returned (M false)) (W.putObj l (.loop {r with state:= .done,pending:=some (.exit id)}))
 | .goto t,_,W=>W.heap[l]?=y (.loop {r with state:= .busy})∧R (.returned (M false)) (W.putObj l (.loop {r with state:= .done,pending:=some (.goto t)}))
 | .panic _,_,_=>False
 | .outgrown,_,_=>False
theorem Ay {F:Fence} {n:G} {P:Program} {l:G} {r:Loop} {args:U V} {W:j} {R:Ending→j→Prop}
  (hl:W.heap[l]?=y (.loop r)) (hr:r.state= .ready) (hF:F.fn r.fn) (hs:args.size=r.params.size)
  (h:r.assign.wpIn (F.inRound l) n P (Exit.then (fun a₁ W₁=>W₁.heap[l]?=y (.loop r)∧r.body.wpIn (F.inRound l) n P (Rh l r R) a₁ (W₁.putObj l (.loop {r with state:= .busy}))) (fun _ _ _=>False))
   {tmps:=(r.params.zip args).foldl (fun t (p,v)=>t.setIfInBounds p v) r.tmps,defers:=[]} W):YieldAt F n P l args W R:=by
 refine⟨r.fn,_,r.assign,r.body,run_yield hl hs,roundIn_of_wpIn hF ?_⟩;refine wpIn_mono h ?_;rintro e a₁ W₁ hp
 cases e with
 |normal=>
  obtain⟨hl1,hb⟩:=hp;refine⟨_,run_beginRound hl1 hr,wpIn_mono hb ?_⟩;rintro e a₂ W₂ hq
  cases e with
  |normal=>exact⟨_,_,run_endRound N hq.1,hq.2⟩
  |ret=>exact⟨_,_,run_endRound (y .ret) hq.1,hq.2⟩
  |exit id=>exact⟨_,_,run_endRound (y (.exit id)) hq.1,hq.2⟩
  |goto t=>exact⟨_,_,run_endRound (y (.goto t)) hq.1,hq.2⟩
  |panic _=>exact hq.elim
  |outgrown=>exact hq.elim
 |_=>exact hp.elim
def Iter (P:Program) (gf:G) (lb:U V) {α:Type} (rT:α→U V→j→Prop) (k:G) (D:G→Prop) (xs:List α) (W:j):Prop:=
 ∀(n l:G) (J Jx:List α→j→Prop),
  (∀s X Y,J s X→Same (fun i=>i<W.heap.size∨W.heap.size+k≤i) X Y→J s Y)→
  (∀s X Y,Jx s X→Same (fun i=>i<W.heap.size∨W.heap.size+k≤i) X Y→Jx s Y)→
  (∀pre x args X,J pre X→pre++[x]<+:xs→rT x args X→W.heap.size+k≤X.heap.size→∀m,YieldAt Fence.wide m P l args X fun e Y=>
   (e= .returned (M true)∧J (pre++[x]) Y∧aO D X Y)∨(e= .returned (M false)∧Jx (pre++[x]) Y∧aO D X Y))→
  J [] W→
  CallsIn Fence.wide n P gf (#[.func (.yield l) #[] #[]]++lb) W fun e Y=>∃v,e= .returned v∧(J xs Y∨∃pre,pre<+:xs∧Jx pre Y)
def Fb {α:Type} (l:G) (D:G→Prop) (I:List α→j→Prop) (Ix:Code→List α→j→Prop) (xs:List α) (X:j):Exit→Act→j→Prop
 | .normal,_,Y=>(Y.heap[l]?=X.heap[l]?∧Y.heap[l+1]?=X.heap[l+1]?)∧aO D X Y∧I xs Y
 | .ret,_,Y=>(Y.heap[l]?=X.heap[l]?∧Y.heap[l+1]?=X.heap[l+1]?)∧aO D X Y∧Ix .ret xs Y
 | .exit id,_,Y=>(Y.heap[l]?=X.heap[l]?∧Y.heap[l+1]?=X.heap[l+1]?)∧aO D X Y∧Ix (.exit id) xs Y
 | .goto t,_,Y=>(Y.heap[l]?=X.heap[l]?∧Y.heap[l+1]?=X.heap[l+1]?)∧aO D X Y∧Ix (.goto t) xs Y
 | .panic _,_,_=>False
 | .outgrown,_,_=>False
theorem BP {P:Program} {α:Type} {g:Operand} {ps:U Tmp} {assign body:Code} {Q:Exit→Act→j→Prop} {a:Act} {w:j} {n:G}
  {gf:G} {lb:U V} (hg:a.eval g= .func (.func gf) #[] lb) (eg:∀args w,(O gf args).run P w= .ok (.enter gf args) w)
  {rT:α→U V→j→Prop} {k:G} {D:G→Prop} {xs:List α}
  (hseq:∀W,T w.heap.size w W→W.heap.size=w.heap.size+2→Iter P gf lb rT k D xs W)
  (hD:¬D (w.heap.size+1)) (hps:∀x args X,rT x args X→args.size=ps.size)
  (I:List α→j→Prop) (Ix:Code→List α→j→Prop)
  (hI:∀s X Y,I s X→Same (fun i=>i<w.heap.size∨w.heap.size+2+k≤i) X Y→I s Y)
  (hIx:∀c s X Y,Ix c s X→Same (fun i=>i<w.heap.size∨w.heap.size+2+k≤i) X Y→Ix c s Y)
  (h0:I [] w)
  (Cc:∀pre x args X,I pre X→pre++[x]<+:xs→rT x args X→w.heap.size+2+k≤X.heap.size→∀m,
   assign.wpIn (Fence.wide.inRound (w.heap.size+1)) m P (Exit.then (fun a₁ X₁=>T X.heap.size X X₁∧∀X₂:j,Same (fun i=>i≠w.heap.size+1) X₁ X₂→
     body.wpIn (Fence.wide.inRound (w.heap.size+1)) m P (Fb w.heap.size D I Ix (pre++[x]) X₂) a₁ X₂) (fun _ _ _=>False))
    {tmps:=(ps.zip args).foldl (fun t (p,v)=>t.setIfInBounds p v) a.tmps,defers:=[]} X)
  (hdone:∀X,I xs X→X.heap[w.heap.size]?=y (.deferred (y []))→Q .normal {a with defers:={target:= .collected w.heap.size,args:=#[]}::a.defers} X)
  (hstop:∀c pre X,pre<+:xs→Ix c pre X→X.heap[w.heap.size]?=y (.deferred (y []))→c.wpIn Fence.wide n P Q {a with defers:={target:= .collected w.heap.size,args:=#[]}::a.defers} X):
  (Code.rangeFunc g ps assign body).wpIn Fence.wide n P Q a w:=by
 refine wpIn_rangeFunc ?_;intro fn hfn;obtain⟨r,hr⟩:∃r:Loop,r={state:= .ready,pending:=none,fn,tmps:=a.tmps,params:=ps,assign,body,defers:=w.heap.size}:=⟨_,rfl⟩;obtain⟨W1,hW1⟩:∃W1,(w.alloc (.deferred (y []))).alloc (.loop r)=W1:=⟨_,rfl⟩;have hs1:W1.heap.size=w.heap.size+2:=by rw[←hW1];simp
 have hL1:W1.heap[w.heap.size+1]?=y (.loop r):=by
  rw[←hW1];have:=World.alloc_heap_new (w.alloc (.deferred (y []))) (.loop r);rwa[World.size_alloc] at this
 have hK1:W1.heap[w.heap.size]?=y (.deferred (y [])):=by
  rw[←hW1];exact(Below.heap_alloc _ _ _ ak).trans (World.alloc_heap_new w _)
 have hb1:T w.heap.size w W1:=by rw[←hW1];exact((E _ w).alloc (z _) _).alloc ak _
 have hI1:I [] W1:=hI _ _ _ h0 (.of_below hb1 (fun i _ hi=>hi));refine⟨w.heap.size+1,[{target:= .collected w.heap.size,args:=#[]}],W1,{target:= .fn (.func gf) lb,args:=#[.func (.yield (w.heap.size+1)) #[] #[]]},W1,gf,
  #[.func (.yield (w.heap.size+1)) #[] #[]]++lb,W1,?_,?_,fun _ _=>trivial,?_,fun h=>(by cases h),?_⟩
 ·rw[←hW1,hr];exact run_enterLoop_outer _ _ _ _ _
 ·simp only[resolve,hg]
  simp[go_sem]
 ·simp[invoke,go_sem,eg]
 have hput:∀(s:List α) (X:j) (o:Obj),I s X→I s (X.putObj (w.heap.size+1) o):=fun s X o h=>hI s _ _ h (.putObj X o ah)
 have qB:∀(c:Code) (s:List α) (X:j) (o:Obj),Ix c s X→Ix c s (X.putObj (w.heap.size+1) o):=fun c s X o h=>hIx c s _ _ h (.putObj X o ah)
 refine(hseq W1 hb1 hs1 (n - 1) (w.heap.size+1)
  (fun pre X=>I pre X∧X.heap[w.heap.size+1]?=y (.loop r)∧X.heap[w.heap.size]?=y (.deferred (y [])))
  (fun pre X=>∃c,Ix c pre X∧X.heap[w.heap.size+1]?=y (.loop {r with state:= .done,pending:=some c})∧X.heap[w.heap.size]?=y (.deferred (y [])))
  ?_ ?_ ?_ ⟨hI1,hL1,hK1⟩).mono ?_
 ·rintro s X Y ⟨h1,h2,h3⟩ hsame
  have e2:=(L.1 h2).1;exact⟨hI s X Y h1 (hsame.mono (fun i hi hl=>by omega)),(hsame.block _ ah e2).trans h2,(hsame.block _ ah ah).trans h3⟩
 ·rintro s X Y ⟨c,h1,h2,h3⟩ hsame
  have e2:=(L.1 h2).1;exact⟨c,hIx c s X Y h1 (hsame.mono (fun i hi hl=>by omega)),(hsame.block _ ah e2).trans h2,(hsame.block _ ah ah).trans h3⟩
 ·rintro pre x args X ⟨hi,hl,hk⟩ hpx hrep hsz m
  have hra:r.assign=assign:=by rw[hr]
  have hrb:r.body=body:=by rw[hr]
  have yZ:r.params=ps:=by rw[hr]
  have hrt:r.tmps=a.tmps:=by rw[hr]
  have hrs:r.state= .ready:=by rw[hr]
  have hrn:r.pending=N:=by rw[hr]
  have hrr:({r with state:= .ready,pending:=none}:Loop)=r:=by rw[hr]
  refine Ay hl hrs trivial (by rw[yZ];exact hps x args X hrep) ?_;have hR:=Cc pre x args X hi hpx hrep ah m;rw[←hra,←hrb,←yZ,←hrt] at hR;refine wpIn_mono hR ?_;rintro e a1 X1 hp
  cases e with
  |normal=>
   obtain⟨hb,hbody⟩:=hp;have Ri:=(L.1 hl).1;have hl1:X1.heap[w.heap.size+1]?=y (.loop r):=(hb.block _ ah).trans hl;have hk1:X1.heap[w.heap.size]?=y (.deferred (y [])):=(hb.block _ ah).trans hk;have hlt1:=(L.1 hl1).1;refine⟨hl1,wpIn_mono (hbody _ (.putObj X1 _ ah)) ?_⟩;have hl2:(X1.putObj (w.heap.size+1) (.loop {r with state:= .busy})).heap[w.heap.size+1]?=y (.loop {r with state:= .busy}):=World.putObj_heap_same hlt1;have hk2:(X1.putObj (w.heap.size+1) (.loop {r with state:= .busy})).heap[w.heap.size]?=y (.deferred (y [])):=(u ah).trans hk1;rintro e a3 X3 hq;have fin:∀o,X3.heap[w.heap.size+1]?=(X1.putObj (w.heap.size+1) (.loop {r with state:= .busy})).heap[w.heap.size+1]?→(X3.putObj (w.heap.size+1) o).heap[w.heap.size+1]?=y o:=fun o h=>
    World.putObj_heap_same ((L.1 (h.trans hl2)).1)
   have keep:∀o,aO D (X1.putObj (w.heap.size+1) (.loop {r with state:= .busy})) X3→aO D X (X3.putObj (w.heap.size+1) o):=fun o hC=>
    (aO.of_below hb (fun i _ hi=>hi)).trans (((aO.putObj X1 _ hD).trans hC).trans (aO.putObj X3 _ hD))
   cases e with
   |normal=>
    obtain⟨⟨hA,hB⟩,hC,hE⟩:=hq;refine⟨hB.trans hl2,.inl ⟨rfl,⟨hput _ _ _ hE,(fin _ hB).trans (by rw[hrr]),(u ah).trans (hA.trans hk2)⟩,?_⟩⟩;exact(aO.of_below hb (fun i _ hi=>hi)).trans (((aO.putObj X1 _ hD).trans hC).trans (aO.putObj X3 _ hD))
   |ret=>
    obtain⟨⟨hA,hB⟩,hC,hE⟩:=hq;exact⟨hB.trans hl2,.inr ⟨rfl,⟨.ret,qB _ _ _ _ hE,fin _ hB,(u ah).trans (hA.trans hk2)⟩,keep _ hC⟩⟩
   |exit id=>
    obtain⟨⟨hA,hB⟩,hC,hE⟩:=hq;exact⟨hB.trans hl2,.inr ⟨rfl,⟨.exit id,qB _ _ _ _ hE,fin _ hB,(u ah).trans (hA.trans hk2)⟩,keep _ hC⟩⟩
   |goto t=>
    obtain⟨⟨hA,hB⟩,hC,hE⟩:=hq;exact⟨hB.trans hl2,.inr ⟨rfl,⟨.goto t,qB _ _ _ _ hE,fin _ hB,(u ah).trans (hA.trans hk2)⟩,keep _ hC⟩⟩
   |panic _=>exact hq.elim
   |outgrown=>exact hq.elim
  |_=>exact hp.elim
 ·rintro e X2 ⟨v,rfl,(⟨hi,hl,hk⟩|⟨pre,hpre,c,hi,hl,hk⟩)⟩
  ·exact⟨N,_,by have:=run_endLoop (P:=P) hl (by rw[hr];simp);rwa[hr] at this,hdone _ (hput _ _ _ hi) ((u ah).trans hk)⟩
  ·exact⟨y c,_,run_endLoop (P:=P) hl ak,hstop c pre _ hpre (qB _ _ _ _ hi) ((u ah).trans hk)⟩
theorem aaU (x:Int) (f:G) (cap:U V) (p:Int→Bool) (bp:G) (W:j) (hc:W.cell? ⟨bp,0,N⟩=y (.func (.func f) #[] cap))
  (eg:∀args w,(O f args).run d w= .ok (.enter f args) w) (hcall:∀W',T W.heap.size W W'→Calls d f (#[Cb x]++cap) W' (bC (M (p x)) W')):
  Calls d 193 #[Cb x,S (y ⟨bp,0,N⟩)] W (bC (M (!p x)) W):=by
 have H:=hid hcall;clear hcall;have hbp:bp<W.heap.size:=fw hc;go_enter func193,ntmps193;go_wp2_with fail;refine(H.q _ (E _ _)).mono ?_;rintro e w1 ⟨rfl,hb1⟩;go_wp2_with fail;go_ret;exact⟨rfl,hb1⟩
theorem aaV (a:Option Addr) (n c f:G) (cap:U V) (cs:List Int) (p:Int→Bool) (w:j) (hr:Row w 1 aZ a n c cs)
  (eg:∀args w,(O f args).run d w= .ok (.enter f args) w) (hp:mW d f cap Cb p cs w):
  Calls d 125 #[.slice a n c,.func (.func f) #[] cap] w (bC (M (cs.all p)) w):=by
 have HB:T w.heap.size w (w.alloc (.cells #[.func (.func f) #[] cap] 177)):=(E _ _).alloc (z _) _;have HC:=YC a n c 193 #[S (y ⟨w.heap.size,0,N⟩)] cs (fun x=>!p x) _ (hr.below HB rfl) call193
  (fun x hx W hW=>aaU x f cap p w.heap.size W (by rw[hW.cell (p:=⟨w.heap.size,0,N⟩) ak];simp) eg
   (fun W' hW'=>hp x hx W' (HB.trans ((hW.mono ak).trans (hW'.mono (by have:=hW.size;simp at this;omega))))))
 have H:=hid HC;have oz:=hid HB;clear HC HB hp hr;go_enter func125,ntmps125
 go_wp2_with (go_at_call 192;refine H.q.mono ?_;rintro e w1 ⟨rfl,hb1⟩)
 go_ret;refine⟨?_,oz.q.trans (hb1.mono ak)⟩;have e:cs.all p=!cs.any (fun x=>!p x):=by simp[K]
 rw[e];rfl
theorem aes (x:EvC) (f:G) (cap:U V) (p:EvC→Bool) (bp:G) (W:j) (hc:W.cell? ⟨bp,0,N⟩=y (.func (.func f) #[] cap))
  (eg:∀args w,(O f args).run d w= .ok (.enter f args) w) (hcall:∀W',T W.heap.size W W'→Calls d f (#[gW x]++cap) W' (bC (M (p x)) W')):
  Calls d 194 #[gW x,S (y ⟨bp,0,N⟩)] W (bC (M (!p x)) W):=by
 have H:=hid hcall;clear hcall;have hbp:bp<W.heap.size:=fw hc;go_enter func194,ntmps194;go_wp2_with fail;refine(H.q _ ((E _ _).alloc (z _) _)).mono ?_;rintro e w1 ⟨rfl,hb1⟩;go_wp2_with fail;go_ret;exact⟨rfl,((E _ _).alloc (z _) _).trans (hb1.mono ak)⟩
theorem aeu (a:Option Addr) (n c f:G) (cap:U V) (cs:List EvC) (p:EvC→Bool) (w:j) (hr:Row w 9 dP a n c cs)
  (eg:∀args w,(O f args).run d w= .ok (.enter f args) w) (hp:mW d f cap gW p cs w):
  Calls d 128 #[.slice a n c,.func (.func f) #[] cap] w (bC (M (cs.all p)) w):=by
 have HB:T w.heap.size w (w.alloc (.cells #[.func (.func f) #[] cap] 144)):=(E _ _).alloc (z _) _;have HC:=aaP a n c 194 #[S (y ⟨w.heap.size,0,N⟩)] cs (fun x=>!p x) _ (hr.below HB rfl) call194
  (fun x hx W hW=>aes x f cap p w.heap.size W (by rw[hW.cell (p:=⟨w.heap.size,0,N⟩) ak];simp) eg
   (fun W' hW'=>hp x hx W' (HB.trans ((hW.mono ak).trans (hW'.mono (by have:=hW.size;simp at this;omega))))))
 have H:=hid HC;have oz:=hid HB;clear HC HB hp hr;go_enter func128,ntmps128
 go_wp2_with (go_at_call 69;refine H.q.mono ?_;rintro e w1 ⟨rfl,hb1⟩)
 go_ret;refine⟨?_,oz.q.trans (hb1.mono ak)⟩;have e:cs.all p=!cs.any (fun x=>!p x):=by simp[K]
 rw[e];rfl
theorem aev (x:aK) (f:G) (cap:U V) (p:aK→Bool) (bp:G) (W:j) (hc:W.cell? ⟨bp,0,N⟩=y (.func (.func f) #[] cap))
  (eg:∀args w,(O f args).run d w= .ok (.enter f args) w) (hcall:∀W',T W.heap.size W W'→Calls d f (#[xL x]++cap) W' (bC (M (p x)) W')):
  Calls d 205 #[xL x,S (y ⟨bp,0,N⟩)] W (bC (M (!p x)) W):=by
 have H:=hid hcall;clear hcall;have hbp:bp<W.heap.size:=fw hc;go_enter func205,ntmps205;go_wp2_with fail;refine(H.q _ ((E _ _).alloc (z _) _)).mono ?_;rintro e w1 ⟨rfl,hb1⟩;go_wp2_with fail;go_ret;exact⟨rfl,((E _ _).alloc (z _) _).trans (hb1.mono ak)⟩
theorem aew (a:Option Addr) (n c f:G) (cap:U V) (cs:List aK) (p:aK→Bool) (w:j) (hr:Row w 2 eu a n c cs)
  (eg:∀args w,(O f args).run d w= .ok (.enter f args) w) (hp:mW d f cap xL p cs w):
  Calls d 131 #[.slice a n c,.func (.func f) #[] cap] w (bC (M (cs.all p)) w):=by
 have HB:T w.heap.size w (w.alloc (.cells #[.func (.func f) #[] cap] 192)):=(E _ _).alloc (z _) _;have HC:=aaQ a n c 205 #[S (y ⟨w.heap.size,0,N⟩)] cs (fun x=>!p x) _ (hr.below HB rfl) call205
  (fun x hx W hW=>aev x f cap p w.heap.size W (by rw[hW.cell (p:=⟨w.heap.size,0,N⟩) ak];simp) eg
   (fun W' hW'=>hp x hx W' (HB.trans ((hW.mono ak).trans (hW'.mono (by have:=hW.size;simp at this;omega))))))
 have H:=hid HC;have oz:=hid HB;clear HC HB hp hr;go_enter func131,ntmps131
 go_wp2_with (go_at_call 204;refine H.q.mono ?_;rintro e w1 ⟨rfl,hb1⟩)
 go_ret;refine⟨?_,oz.q.trans (hb1.mono ak)⟩;have e:cs.all p=!cs.any (fun x=>!p x):=by simp[K]
 rw[e];rfl
theorem aex (x:aM) (f:G) (cap:U V) (p:aM→Bool) (bp:G) (W:j) (hc:W.cell? ⟨bp,0,N⟩=y (.func (.func f) #[] cap))
  (eg:∀args w,(O f args).run d w= .ok (.enter f args) w) (hcall:∀W',T W.heap.size W W'→Calls d f (#[xM x]++cap) W' (bC (M (p x)) W')):
  Calls d 207 #[xM x,S (y ⟨bp,0,N⟩)] W (bC (M (!p x)) W):=by
 have H:=hid hcall;clear hcall;have hbp:bp<W.heap.size:=fw hc;go_enter func207,ntmps207;go_wp2_with fail;refine(H.q _ ((E _ _).alloc (z _) _)).mono ?_;rintro e w1 ⟨rfl,hb1⟩;go_wp2_with fail;go_ret;exact⟨rfl,((E _ _).alloc (z _) _).trans (hb1.mono ak)⟩
theorem aey (a:Option Addr) (n c f:G) (cap:U V) (cs:List aM) (p:aM→Bool) (w:j) (hr:Row w 4 dW a n c cs)
  (eg:∀args w,(O f args).run d w= .ok (.enter f args) w) (hp:mW d f cap xM p cs w):
  Calls d 133 #[.slice a n c,.func (.func f) #[] cap] w (bC (M (cs.all p)) w):=by
 have HB:T w.heap.size w (w.alloc (.cells #[.func (.func f) #[] cap] 194)):=(E _ _).alloc (z _) _;have HC:=aaR a n c 207 #[S (y ⟨w.heap.size,0,N⟩)] cs (fun x=>!p x) _ (hr.below HB rfl) call207
  (fun x hx W hW=>aex x f cap p w.heap.size W (by rw[hW.cell (p:=⟨w.heap.size,0,N⟩) ak];simp) eg
   (fun W' hW'=>hp x hx W' (HB.trans ((hW.mono ak).trans (hW'.mono (by have:=hW.size;simp at this;omega))))))
 have H:=hid HC;have oz:=hid HB;clear HC HB hp hr;go_enter func133,ntmps133
 go_wp2_with (go_at_call 206;refine H.q.mono ?_;rintro e w1 ⟨rfl,hb1⟩)
 go_ret;refine⟨?_,oz.q.trans (hb1.mono ak)⟩;have e:cs.all p=!cs.any (fun x=>!p x):=by simp[K]
 rw[e];rfl
theorem aez (x:Wa) (f:G) (cap:U V) (p:Wa→Bool) (bp:G) (W:j) (hc:W.cell? ⟨bp,0,N⟩=y (.func (.func f) #[] cap))
  (eg:∀args w,(O f args).run d w= .ok (.enter f args) w) (hcall:∀W',T W.heap.size W W'→Calls d f (#[xK x]++cap) W' (bC (M (p x)) W')):
  Calls d 209 #[xK x,S (y ⟨bp,0,N⟩)] W (bC (M (!p x)) W):=by
 have H:=hid hcall;clear hcall;have hbp:bp<W.heap.size:=fw hc;go_enter func209,ntmps209;go_wp2_with fail;refine(H.q _ ((E _ _).alloc (z _) _)).mono ?_;rintro e w1 ⟨rfl,hb1⟩;go_wp2_with fail;go_ret;exact⟨rfl,((E _ _).alloc (z _) _).trans (hb1.mono ak)⟩
theorem aeA (a:Option Addr) (n c f:G) (cap:U V) (cs:List Wa) (p:Wa→Bool) (w:j) (hr:Row w 2 fK a n c cs)
  (eg:∀args w,(O f args).run d w= .ok (.enter f args) w) (hp:mW d f cap xK p cs w):
  Calls d 135 #[.slice a n c,.func (.func f) #[] cap] w (bC (M (cs.all p)) w):=by
 have HB:T w.heap.size w (w.alloc (.cells #[.func (.func f) #[] cap] 196)):=(E _ _).alloc (z _) _;have HC:=aaS a n c 209 #[S (y ⟨w.heap.size,0,N⟩)] cs (fun x=>!p x) _ (hr.below HB rfl) call209
  (fun x hx W hW=>aez x f cap p w.heap.size W (by rw[hW.cell (p:=⟨w.heap.size,0,N⟩) ak];simp) eg
   (fun W' hW'=>hp x hx W' (HB.trans ((hW.mono ak).trans (hW'.mono (by have:=hW.size;simp at this;omega))))))
 have H:=hid HC;have oz:=hid HB;clear HC HB hp hr;go_enter func135,ntmps135
 go_wp2_with (go_at_call 208;refine H.q.mono ?_;rintro e w1 ⟨rfl,hb1⟩)
 go_ret;refine⟨?_,oz.q.trans (hb1.mono ak)⟩;have e:cs.all p=!cs.any (fun x=>!p x):=by simp[K]
 rw[e];rfl
theorem aeB (x:Sn) (f:G) (cap:U V) (p:Sn→Bool) (bp:G) (W:j) (hc:W.cell? ⟨bp,0,N⟩=y (.func (.func f) #[] cap))
  (eg:∀args w,(O f args).run d w= .ok (.enter f args) w) (hcall:∀W',T W.heap.size W W'→Calls d f (#[xJ x]++cap) W' (bC (M (p x)) W')):
  Calls d 237 #[xJ x,S (y ⟨bp,0,N⟩)] W (bC (M (!p x)) W):=by
 have H:=hid hcall;clear hcall;have hbp:bp<W.heap.size:=fw hc;go_enter func237,ntmps237;go_wp2_with fail;refine(H.q _ ((E _ _).alloc (z _) _)).mono ?_;rintro e w1 ⟨rfl,hb1⟩;go_wp2_with fail;go_ret;exact⟨rfl,((E _ _).alloc (z _) _).trans (hb1.mono ak)⟩
theorem aeC (a:Option Addr) (n c f:G) (cap:U V) (cs:List Sn) (p:Sn→Bool) (w:j) (hr:Row w 3 dB a n c cs)
  (eg:∀args w,(O f args).run d w= .ok (.enter f args) w) (hp:mW d f cap xJ p cs w):
  Calls d 201 #[.slice a n c,.func (.func f) #[] cap] w (bC (M (cs.all p)) w):=by
 have HB:T w.heap.size w (w.alloc (.cells #[.func (.func f) #[] cap] 251)):=(E _ _).alloc (z _) _;have HC:=aaT a n c 237 #[S (y ⟨w.heap.size,0,N⟩)] cs (fun x=>!p x) _ (hr.below HB rfl) call237
  (fun x hx W hW=>aeB x f cap p w.heap.size W (by rw[hW.cell (p:=⟨w.heap.size,0,N⟩) ak];simp) eg
   (fun W' hW'=>hp x hx W' (HB.trans ((hW.mono ak).trans (hW'.mono (by have:=hW.size;simp at this;omega))))))
 have H:=hid HC;have oz:=hid HB;clear HC HB hp hr;go_enter func201,ntmps201
 go_wp2_with (go_at_call 236;refine H.q.mono ?_;rintro e w1 ⟨rfl,hb1⟩)
 go_ret;refine⟨?_,oz.q.trans (hb1.mono ak)⟩;have e:cs.all p=!cs.any (fun x=>!p x):=by simp[K]
 rw[e];rfl
end Yd
namespace Yd
open List renaming flatMap_cons→C,getElem?_eq_some_iff→F,getElem?_append_left→G,length_append→I
open Option renaming some→d
open Go Go.RowKit
open Go renaming Value→p,World→A,TypeId→H
open Go.Value renaming slice→f
open Value renaming slice→l
theorem fu (w:A) (o:Obj):(w.alloc o).heap[w.heap.size]?=d o:=by
 show(w.heap.push o)[w.heap.size]?=d o;simp
def Own {α:Type} (w:A) (B:Nat) (E:H) (k:Nat) (enc:α→List p) (v:p) (xs:List α):Prop:=
 w.ownsRow B E k v xs.length (xs.flatMap enc)
class Cells {α:Type} (enc:α→List p) (k:Nat):Prop where
 len:∀x,(enc x).length=k
 pos:0<k
 one:∀x,∀u∈enc x,u.oneCell'=true
instance gZ:Cells aZ 1:=⟨fun _=>rfl,by decide,fun x u h=>by simp[aZ] at h;subst h;rfl⟩
instance kQ:Cells encStr 1:=⟨fun _=>rfl,by decide,fun x u h=>by simp[encStr] at h;subst h;rfl⟩
instance l9:Cells dB 3:=⟨fun _=>rfl,by decide,fun x u h=>by simp[dB] at h;rcases h with rfl|rfl|rfl <;> rfl⟩
instance sH:Cells fK 2:=⟨fun _=>rfl,by decide,fun x u h=>by simp[fK] at h;rcases h with rfl|rfl <;> rfl⟩
instance Fe:Cells mR 2:=⟨fun _=>rfl,by decide,fun x u h=>by simp[mR] at h;rcases h with rfl|rfl <;> rfl⟩
instance qJ:Cells eu 2:=⟨fun _=>rfl,by decide,fun x u h=>by simp[eu] at h;rcases h with rfl|rfl <;> rfl⟩
instance oo:Cells dW 4:=⟨fun _=>rfl,by decide,fun x u h=>by simp[dW] at h;rcases h with rfl|rfl|rfl|rfl <;> rfl⟩
instance wH:Cells iG 6:=⟨fun _=>rfl,by decide,fun x u h=>by simp[iG] at h;rcases h with rfl|rfl|rfl|rfl|rfl|rfl <;> rfl⟩
instance sO:Cells dP 9:=⟨fun _=>rfl,by decide,fun x u h=>by simp[dP] at h;rcases h with rfl|rfl|rfl|rfl|rfl|rfl|rfl|rfl|rfl <;> rfl⟩
section
variable {α:Type} {enc:α→List p} {k:Nat}
theorem vQ [hc:Cells enc k] (xs:List α):(xs.flatMap enc).length=xs.length*k:=by
 induction xs with
 |nil=>simp
 |cons x xs ih=>simp[C,ih,hc.len x,Nat.add_mul,Nat.add_comm]
theorem flat_get [hc:Cells enc k] (xs:List α):∀(i:Nat) (x:α) (j:Nat) (v:p),xs[i]?=d x→(enc x)[j]?=d v→(xs.flatMap enc)[i*k+j]?=d v:=by
 induction xs with
 |nil=>intro i x j v h;simp at h
 |cons y ys ih=>
  intro i x j v hx hv;have hj:j<k:=by
   have:=(F.1 hv).1;rw[hc.len x] at this;exact this
  rw[C]
  cases i with
  |zero=>
   have e:y=x:=by simpa using hx
   subst e;rw[Nat.zero_mul,Nat.zero_add,G (by rw[hc.len y];exact hj)];exact hv
  |succ i=>
   rw[List.getElem?_append_right (by rw[hc.len y,Nat.succ_mul];omega),hc.len y,show(i+1)*k+j - k=i*k+j by rw[Nat.succ_mul];omega];exact ih i x j v (by simpa using hx) hv
theorem UH [hc:Cells enc k] (xs:List α):∀(q:Nat) (v:p),(xs.flatMap enc)[q]?=d v→∃i x j,xs[i]?=d x∧(enc x)[j]?=d v∧q=i*k+j:=by
 induction xs with
 |nil=>intro q v h;simp at h
 |cons y ys ih=>
  intro q v h;rw[C] at h;rcases Nat.lt_or_ge q k with hq|hq
  ·rw[G (by rw[hc.len y];exact hq)] at h
   exact⟨0,y,q,rfl,h,by omega⟩
  ·rw[List.getElem?_append_right (by rw[hc.len y];exact hq),hc.len y] at h
   obtain⟨i,x,j,hx,hv,he⟩:=ih _ _ h;exact⟨i+1,x,j,by simpa using hx,hv,by rw[Nat.succ_mul];omega⟩
theorem UI [hc:Cells enc k] (xs:List α):∀u∈xs.flatMap enc,u.oneCell'=true:=by
 intro u hu;obtain⟨x,_,h⟩:=List.mem_flatMap.1 hu;exact hc.one x u h
variable {w w':A} {B:Nat} {E:H} {v:p} {xs:List α}
theorem Own.iJ (w:A) (B:Nat) (E:H) (k:Nat) (enc:α→List p):Own w B E k enc (f none 0 0) []:=World.ownsRow_nil w B E k
theorem Own.shape (h:Own w B E k enc v xs):∃a c,v= f a xs.length c∧(a=none→c=0)∧xs.length≤c:=by
 rcases h.2 with⟨rfl,h0⟩|⟨g,cap,cur,rfl,_,_,hn,_⟩
 ·exact⟨none,0,by rw[h0],fun _=>rfl,by omega⟩
 ·exact⟨_,cap,rfl,(fun h=>by cases h),hn⟩
theorem Own.row [hc:Cells enc k] {a:Option Addr} {n c:Nat} (h:Own w B E k enc (f a n c) xs) (hle:xs.length≤140737488355328):Row w k enc a n c xs:=by
 obtain⟨h1,h2⟩:=h;rcases h2 with⟨he,h0⟩|⟨g,cap,cur,he,_,hh,hn,_,hs,ht⟩
 ·injection he with e1 e2 e3
  subst e1 e2 e3;have hx:xs=[]:=List.eq_nil_of_length_eq_zero h0;subst hx;exact Row.iJ
 ·injection he with e1 e2 e3
  subst e1 e2 e3;refine⟨rfl,hn,hle,(fun h=>by cases h),fun i x hx=>⟨g,0,rfl,fun j v hv=>?_⟩⟩;have hf:=flat_get (hc:=hc) xs i x j v hx hv;have hlt:i*k+j<xs.length*k:=by rw[←h1];exact(F.1 hf).1
  rw[←ht,List.getElem?_take,if_pos hlt] at hf;simp only[Nat.zero_add];unfold World.cell?;simp[hh]
  simpa using hf
theorem Own.lt (h:Own w B E k enc v xs):∀g,v.ownBlock=d g→B≤g∧g<w.heap.size:=World.ownsRow.lt h
theorem Own.alloc (h:Own w B E k enc v xs) (o:Obj):Own (w.alloc o) B E k enc v xs:=World.ownsRow.alloc h o
theorem Own.drew (h:Own w B E k enc v xs):Own w.drew B E k enc v xs:=h
theorem Own.block (h:Own w B E k enc v xs) (hk:∀g,v.ownBlock=d g→w'.heap[g]?=w.heap[g]?):Own w' B E k enc v xs:=by
 obtain⟨h1,h2⟩:=h;refine⟨h1,?_⟩;rcases h2 with h2|⟨g,cap,cur,rfl,hB,hh,r⟩
 ·exact .inl h2
 ·exact .inr ⟨g,cap,cur,rfl,hB,by rw[hk g rfl];exact hh,r⟩
theorem Own.below {D:Nat} (h:Own w B E k enc v xs) (hb:Below D w w') (hD:D=w.heap.size):Own w' B E k enc v xs:=
 h.block fun g hg=>hb.block g (by rw[hD];exact(h.lt g hg).2)
theorem Own.mono {B':Nat} (h:Own w B E k enc v xs) (hB:B'≤B):Own w B' E k enc v xs:=by
 obtain⟨h1,h2⟩:=h;refine⟨h1,?_⟩;rcases h2 with h2|⟨g,cap,cur,rfl,hB',r⟩
 ·exact .inl h2
 ·exact .inr ⟨g,cap,cur,rfl,by omega,r⟩
theorem Own.new (w:A) (B:Nat) (E:H) [hc:Cells enc k] (cs:Array p) (xs:List α) (hB:B≤w.heap.size) (he:cs.toList=xs.flatMap enc) (hle:xs.length≤maxLen):
  Own (w.alloc (.cells cs E)) B E k enc (f (d ⟨w.heap.size,0,none⟩) xs.length xs.length) xs:=by
 have hs:cs.size=xs.length*k:=by rw[←Array.length_toList,he,vQ (hc:=hc)]
 refine⟨vQ xs,.inr ⟨w.heap.size,xs.length,cs,rfl,hB,fu w _,Nat.le_refl _,hle,hs,?_⟩⟩;rw[List.take_of_length_le (by rw[Array.length_toList,hs];exact Nat.le_refl _),he]
theorem YD [hc:Cells enc k] {P:Program} (t ty:H) (i:TypeInfo) (z:p) (bytes:Nat) (ht:P.underlying t=d (.slice E)) (hi:P.info? E=d i) (hz:i.zero=d z)
  (hsize:i.size=k) (hby:i.bytes=bytes) (hzs:z.cells.size=k) (hown:Own w B E k enc v xs)
  {a:Option Addr} {m c:Nat} {ys:List α} (hr:Row w k enc a m c ys) (hbytes:(xs.length+m)*bytes≤140737488355328) (h63:xs.length+m≤maxLen) (hbase:B≤w.heap.size):
  ∃a' c' w',(Builtin.append_ #[t,t] ty #[v,f a m c]).run P w= .ok (f a' (xs++ys).length c') w'∧Own w' B E k enc (f a' (xs++ys).length c') (xs++ys)∧w.grownBy w' v.ownBlock∧
   ((l a' (xs++ys).length c').ownBlock=v.ownBlock∨(l a' (xs++ys).length c').ownBlock=d w.heap.size):=by
 cases a with
 |none=>
  obtain⟨rfl,rfl,rfl⟩:=hr.none_;obtain⟨a,c,rfl,_,_⟩:=hown.shape;refine⟨a,c,w,?_,?_,World.grownBy.refl w _,.inl ?_⟩
  ·simpa using run_append_owned_none (P:=P) (w:=w) B t ty E i k ht hi _ _ _ hown
  ·simpa using hown
  ·rw[List.append_nil]
 |some ad=>
  have hm:ys.length=m:=hr.len;have hcells:∀j u,(ys.flatMap enc)[j]?=d u→w.cell? (ad.add j)=d u:=by
   intro j u hu;obtain⟨i',x,j',hx,hv,he⟩:=UH (hc:=hc) ys j u hu;obtain⟨b,o,ha,hcell⟩:=hr.2.2.2.2 i' x hx;injection ha with ha;subst ha;have h:=hcell j' u hv;rw[he];unfold Addr.add
   split
   ·rename_i h0
    rw[show o+i'*k+j'=o by omega] at h;exact h
   ·rw[←Nat.add_assoc];exact h
  obtain⟨v',w',hrun,h1,h2,_,h4⟩:=run_append_own_at (P:=P) w B t ty E i z k bytes ht hi hz hsize hby hzs hc.pos v xs.length (xs.flatMap enc) hown ad m c (ys.flatMap enc) (by rw[vQ (hc:=hc),hm]) hcells (UI (hc:=hc) ys) h63 hbytes hbase;have hown':Own w' B E k enc v' (xs++ys):=by
   unfold Own;rw[List.flatMap_append,I,hm];exact h1
  obtain⟨a',c',rfl,_,_⟩:=hown'.shape;exact⟨a',c',w',hrun,hown',h2,h4⟩
theorem og [hc:Cells enc k] {P:Program} {o:Oper} {ac:Act} {K:Act→A→Prop} {Q:Exit→Act→A→Prop} (s x:Operand) (t:H)
  (ho:o.op= .call {callee:= .builtin .append,args:=#[s,x],argTypes:=#[t,t]}) (i:TypeInfo) (z:p) (bytes:Nat) (ht:P.underlying t=d (.slice E)) (hi:P.info? E=d i) (hz:i.zero=d z)
  (hsize:i.size=k) (hby:i.bytes=bytes) (hzs:z.cells.size=k) (hs:ac.eval s=v) (hown:Own w B E k enc v xs)
  (a:Option Addr) (m c N:Nat) (ys:List α) (hx:ac.eval x= f a m c) (hr:Row w k enc a m c ys) (hN:xs.length+m=N) (hbytes:N*bytes≤140737488355328) (h63:N≤maxLen) (hbase:B≤w.heap.size)
  (h:∀a' c' w',Own w' B E k enc (f a' N c') (xs++ys)→w.grownBy w' v.ownBlock→((l a' N c').ownBlock=v.ownBlock∨(l a' N c').ownBlock=d w.heap.size)→K (ac.put o.dst (f a' N c')) w'):o.wp P ac w K Q:=by
 subst hN;obtain⟨a',c',w',hrun,h2,h3,h4⟩:=YD (P:=P) t o.type i z bytes ht hi hz hsize hby hzs hown hr hbytes h63 hbase;have hl:(xs++ys).length=xs.length+m:=by rw[I,hr.len]
 rw[hl] at hrun h2 h4;unfold Oper.wp execOp;simp only[ho,resolve,invoke,builtin,Sem.run_bind,Sem.run_pure,Result.andThen_ok,List.map_toArray,List.map_cons,List.map_nil,hs,hx,hrun];exact h a' c' w' h2 h3 h4
theorem dO [hc:Cells enc k] {P:Program} {ops:Array Oper} {rest:List Oper} {o:Oper} {ac:Act} {Q:Exit→Act→A→Prop} (hgd:o.guard=none) (s x:Operand) (t:H)
  (ho:o.op= .call {callee:= .builtin .append,args:=#[s,x],argTypes:=#[t,t]}) (i:TypeInfo) (z:p) (bytes:Nat) (ht:P.underlying t=d (.slice E)) (hi:P.info? E=d i) (hz:i.zero=d z)
  (hsize:i.size=k) (hby:i.bytes=bytes) (hzs:z.cells.size=k) (hs:ac.eval s=v) (hown:Own w B E k enc v xs)
  (a:Option Addr) (m c N:Nat) (ys:List α) (hx:ac.eval x= f a m c) (hr:Row w k enc a m c ys) (hN:xs.length+m=N) (hbytes:N*bytes≤140737488355328) (h63:N≤maxLen) (hbase:B≤w.heap.size)
  (h:∀a' c' w',Own w' B E k enc (f a' N c') (xs++ys)→w.grownBy w' v.ownBlock→((l a' N c').ownBlock=v.ownBlock∨(l a' N c').ownBlock=d w.heap.size)→wpList P ops Q rest (ac.put o.dst (f a' N c')) w'):
  wpList P ops Q (o::rest) ac w:=
 wpList_plain hgd fun _ hK=>og s x t ho i z bytes ht hi hz hsize hby hzs hs hown a m c N ys hx hr hN hbytes h63 hbase fun a' c' w' h2 h3 h4=>hK _ _ (h a' c' w' h2 h3 h4)
theorem below_app {D:Nat} {a0:A} (hb:Below D a0 w) (hown:Own w B E k enc v xs) (hD:D≤B) (hsz:D≤w.heap.size) (hg:w.grownBy w' v.ownBlock):Below D a0 w':=
 hb.grown hg hsz fun g e=>Nat.le_trans hD (hown.lt g e).1
def jD (E:H) (k:Nat) (enc:α→List p) (xs:List α) (w:A) (e:Ending) (w':A):Prop:=
 ∃a c,e= .returned (f a xs.length c)∧Own w' w.heap.size E k enc (f a xs.length c) xs∧Below w.heap.size w w'
end
end Yd
