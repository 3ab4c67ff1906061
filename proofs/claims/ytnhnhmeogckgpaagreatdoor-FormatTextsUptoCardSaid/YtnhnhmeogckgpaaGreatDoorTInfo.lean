import Derived.Test.YtnhnhmeogckgpaaGreatDoorTA0
import Derived.WalkKit
import Derived.Deep.Draws
import Derived.Test.YtnhnhmeogckgpaaGreatDoorProg
import Derived.Laws.StructEq
import Derived.RangeFuncNested
import Derived.RangeFuncCalls
import Derived.RangeFuncLeaves
import Derived.RangeFuncSeq
import Derived.Maps.AppendAt
import Derived.Laws.OwnMore
import Derived.Lib.SliceRun
set_option linter.all false
set_option maxRecDepth 200000
set_option maxHeartbeats 8000000
namespace Yd
open Go Go.RowKit
theorem hid {p:Prop} (h:p):Hid p:=h
end Yd
namespace Go.RowKit
theorem Hid.q {p:Prop} (h:Hid p):p:=h
theorem Below.bq {a b c:World} (h:Below a.heap.size a b) (k:Below b.heap.size b c):Below a.heap.size a c:=h.trans (k.mono h.size)
end Go.RowKit
namespace Yd
open Go Go.RowKit
def aW (v:Value) (w:World) (e:Ending) (w':World):Prop:=e= .returned v∧Below w.heap.size w w'
theorem dS {w:World} {p:Addr} {v:Value} (h:w.cell? p=some v):p.block<w.heap.size:=by
 unfold World.cell? at h;rcases Nat.lt_or_ge p.block w.heap.size with h1|h1
 ·exact h1
 ·rw[Array.getElem?_eq_none h1] at h;cases h
theorem aM {B:Nat} {w w':World} (hb:Below B w w') (hB:B=w.heap.size) {p:Addr} {v:Value} (h:w.cell? p=some v):w'.cell? p=some v:=by
 subst hB;exact(hb.cell (dS h)).trans h
theorem dA {B:Nat} {a w:World} (h:Below B a w) (n:Nat):Below B a (w.drewN n):=⟨h.os,h.tape,h.output,h.size,h.block⟩
theorem Xr {B:Nat} {W w1:World} (hb:Below B W w1):(∀b o,b<B→w1.cell? ⟨b,o,none⟩=W.cell? ⟨b,o,none⟩)∧(∀b o,b<B→w1.frozen? ⟨b,o,none⟩=W.frozen? ⟨b,o,none⟩):=
 ⟨fun b o h=>hb.cell (p:=⟨b,o,none⟩) h,fun b o h=>hb.frozen (p:=⟨b,o,none⟩) h⟩
theorem av {a w:World} (h:Below a.heap.size a w) (o:Obj):Below a.heap.size a (w.alloc o):=h.alloc h.size o
def Row {α:Type} (w:World) (k:Nat) (enc:α→List Value) (a:Option Addr) (n c:Nat) (xs:List α):Prop:=
 xs.length=n∧n≤c∧n≤140737488355328∧(a=none→c=0)∧∀i x,xs[i]?=some x→∃b o,a=some ⟨b,o,none⟩∧∀j v,(enc x)[j]?=some v→w.cell? ⟨b,o+i*k+j,none⟩=some v
section
variable {α:Type} {w w':World} {k:Nat} {enc:α→List Value} {a:Option Addr} {n c:Nat} {xs:List α}
theorem Row.ext (h:Row w k enc a n c xs) (hb:∀p v,w.cell? p=some v→w'.cell? p=some v):Row w' k enc a n c xs:=
 ⟨h.1,h.2.1,h.2.2.1,h.2.2.2.1,fun i x hx=>let⟨b,o,ha,hc⟩:=h.2.2.2.2 i x hx;⟨b,o,ha,fun j v hv=>hb _ _ (hc j v hv)⟩⟩
theorem Row.below {B:Nat} (h:Row w k enc a n c xs) (hb:Below B w w') (hB:B=w.heap.size):Row w' k enc a n c xs:=h.ext fun _ _=>aM hb hB
theorem Row.le (h:Row w k enc a n c xs):n≤140737488355328:=h.2.2.1
theorem Row.len (h:Row w k enc a n c xs):xs.length=n:=h.1
theorem Row.cap (h:Row w k enc a n c xs):n≤c:=h.2.1
theorem Row.none_ (h:Row w k enc none n c xs):c=0∧n=0∧xs=[]:=by
 have h0:=h.2.2.2.1 rfl;have h1:=h.2.1;exact⟨h0,by omega,List.eq_nil_of_length_eq_zero (by rw[h.1];omega)⟩
theorem Row.at_ (h:Row w k enc a n c xs) {i:Nat} (hi:i<n):∃x b o,xs[i]?=some x∧a=some ⟨b,o,none⟩∧∀j v,(enc x)[j]?=some v→w.cell? ⟨b,o+i*k+j,none⟩=some v:=by
 have hl:i<xs.length:=by rw[h.1];exact hi
 obtain⟨b,o,ha,hc⟩:=h.2.2.2.2 i xs[i] (List.getElem?_eq_getElem hl);exact⟨xs[i],b,o,List.getElem?_eq_getElem hl,ha,hc⟩
theorem Row.iE:Row w k enc none 0 0 ([]:List α):=⟨rfl,Nat.le_refl _,by decide,fun _=>rfl,fun i x h=>by simp at h⟩
end
abbrev Bs:=List UInt8
structure lg where
 t:Int
 k:Int
 deriving DecidableEq,Inhabited
structure Sn where
 obj:Int
 v:lg
 deriving DecidableEq,Inhabited
structure Wa where
 bU:Int
 bits:Int
 deriving DecidableEq,Inhabited
structure To where
 name:Bs
 k:Int
 deriving DecidableEq
structure EvC where
 kind:Int
 t:Int
 bU:Int
 lvl:Int
 obj:Int
 v:lg
 pred:Int
 sa:Option Addr
 sn:Nat
 sc:Nat
structure aH where
 obj:Int
 sa:Option Addr
 sn:Nat
 sc:Nat
structure aI where
 pred:Int
 obj:Int
 first:Bool
 sa:Option Addr
 sn:Nat
 sc:Nat
structure aV where
 kind:Int
 na:Option Addr
 nn:Nat
 nc:Nat
 lvl:Int
 va:Option Addr
 vn:Nat
 vc:Nat
 first:Bool
 bits:Int
def aQ (n:Int):List Value:=[.int .i64 n]
@[reducible] def AX (n:Int):Value:= .int .i64 n
def encStr (s:Bs):List Value:=[.string ⟨s.toArray⟩]
@[reducible] def valStr (s:Bs):Value:= .string ⟨s.toArray⟩
def bV (s:Sn):List Value:=[.int .i64 s.obj,.int .i64 s.v.t,.int .i64 s.v.k]
@[reducible] def vV (s:Sn):Value:= .agg #[.int .i64 s.obj,.int .i64 s.v.t,.int .i64 s.v.k]
def eu (s:Wa):List Value:=[.int .i64 s.bU,.int .i64 s.bits]
@[reducible] def vU (s:Wa):Value:= .agg #[.int .i64 s.bU,.int .i64 s.bits]
def j3 (s:To):List Value:=[.string ⟨s.name.toArray⟩,.int .i64 s.k]
@[reducible] def qQ (s:To):Value:= .agg #[.string ⟨s.name.toArray⟩,.int .i64 s.k]
def cZ (e:EvC):List Value:=[.int .i64 e.kind,.int .i64 e.t,.int .i64 e.bU,.int .i64 e.lvl,.int .i64 e.obj,.int .i64 e.v.t,.int .i64 e.v.k,.int .i64 e.pred,.slice e.sa e.sn e.sc]
@[reducible] def fO (e:EvC):Value:= .agg #[.int .i64 e.kind,.int .i64 e.t,.int .i64 e.bU,.int .i64 e.lvl,.int .i64 e.obj,.int .i64 e.v.t,.int .i64 e.v.k,.int .i64 e.pred,.slice e.sa e.sn e.sc]
def dD (s:aH):List Value:=[.int .i64 s.obj,.slice s.sa s.sn s.sc]
@[reducible] def vS (s:aH):Value:= .agg #[.int .i64 s.obj,.slice s.sa s.sn s.sc]
def dx (s:aI):List Value:=[.int .i64 s.pred,.int .i64 s.obj,.bool s.first,.slice s.sa s.sn s.sc]
@[reducible] def vT (s:aI):Value:= .agg #[.int .i64 s.pred,.int .i64 s.obj,.bool s.first,.slice s.sa s.sn s.sc]
def mU (l:aV):List Value:=[.int .i64 l.kind,.slice l.na l.nn l.nc,.int .i64 l.lvl,.slice l.va l.vn l.vc,.bool l.first,.int .i64 l.bits]
@[reducible] def gu (l:aV):Value:= .agg #[.int .i64 l.kind,.slice l.na l.nn l.nc,.int .i64 l.lvl,.slice l.va l.vn l.vc,.bool l.first,.int .i64 l.bits]
def lW {α:Type} (P:Program) (f:Nat) (cap:Array Value) (val:α→Value) (p:α→Bool) (xs:List α) (w:World):Prop:=
 ∀x∈xs,∀W,Below w.heap.size w W→Calls P f (#[val x]++cap) W (aW (.bool (p x)) W)
def idx {α:Type} (p:α→Bool) (xs:List α):Int:=match xs.findIdx? p with|some i=>(i:Int)|none=> -1
theorem nN {α:Type} {p:α→Bool} {xs:List α} {i:Nat} (h:xs.findIdx? p=some i):idx p xs=i:=by unfold idx;rw[h]
theorem nO {α:Type} {p:α→Bool} {xs:List α} (h:xs.findIdx? p=none):idx p xs= -1:=by unfold idx;rw[h]
theorem rP {α:Type} (p:α→Bool) (xs:List α):decide (0≤idx p xs)=xs.any p:=by
 cases h:xs.findIdx? p with
 |none=>
  rw[nO h];rw[List.findIdx?_eq_none_iff] at h
  symm;simp only[show decide ((0:Int)≤ -1)=false from rfl,List.any_eq_false]
  intro x hx;simp[h x hx]
 |some i=>
  rw[nN h];rw[List.findIdx?_eq_some_iff_getElem] at h;obtain⟨hl,hp,_⟩:=h
  symm
  simp only[show decide ((0:Int)≤(i:Int))=true by simp,List.any_eq_true];exact⟨xs[i],List.getElem_mem hl,hp⟩
theorem findIdx?_take {α:Type} (p:α→Bool) (xs:List α) (i:Nat) (h:(xs.take i).findIdx? p=none) (x:α) (hx:xs[i]?=some x) (hp:p x=true):xs.findIdx? p=some i:=by
 rw[List.findIdx?_eq_some_iff_getElem];have hl:i<xs.length:=by
  rcases Nat.lt_or_ge i xs.length with h'|h'
  ·exact h'
  ·rw[List.getElem?_eq_none h'] at hx;cases hx
 refine⟨hl,?_,?_⟩
 ·rw[List.getElem?_eq_getElem hl] at hx
  have e:xs[i]=x:=Option.some.inj hx;rw[e];exact hp
 ·intro j hj
  rw[List.findIdx?_eq_none_iff] at h;have:=h xs[j] (by
   rw[List.mem_iff_getElem?];exact⟨j,by rw[List.getElem?_take,if_pos hj];exact List.getElem?_eq_getElem ah⟩)
  simpa using this
theorem jD {α:Type} (p:α→Bool) (xs:List α) (i:Nat) (h:(xs.take i).findIdx? p=none) (x:α) (hx:xs[i]?=some x) (hp:p x=false):(xs.take (i+1)).findIdx? p=none:=by
 rw[List.take_add_one,hx];simp[List.findIdx?_append,h,hp]
end Yd
namespace Yd
open List renaming take_of_length_le→h,mem_of_getElem?→j
open Nat renaming add_zero→r,zero_le→v,mul_one→K
open Go Go.RowKit Go.Proofs Tryz
open Below renaming refl→z
open Go renaming callFunc→l,World→m,Value→B,Calls→C,Addr→F
open Go.Value renaming slice→u,int→D,bool→J
open RowKit renaming intOf→g
open Tryz renaming prog→d
open _root_ renaming Option→s,Array→A,Nat→E,List→G,Bool→I
theorem Jo (x y:To) (w:m):(Op.equalIn 10000 76 (qQ x) (qQ y)).run d w= .ok (decide (x=y)) w:=by
 simp[qQ,go_sem]
 cases x;cases y;simp;(repeat' split) <;> simp_all
theorem aaX (x y:Wa) (w:m):(Op.equalIn 10000 83 (vU x) (vU y)).run d w= .ok (decide (x=y)) w:=by
 simp[vU,go_sem]
 cases x;cases y;simp;(repeat' split) <;> simp_all
theorem YN (x y:lg) (w:m):(Op.equalIn 10000 62 (.agg #[D .i64 x.t,D .i64 x.k]) (.agg #[D .i64 y.t,D .i64 y.k])).run d w= .ok (decide (x=y)) w:=by
 simp[go_sem]
 cases x;cases y;simp;(repeat' split) <;> simp_all
theorem aaY (x y:Sn) (w:m):(Op.equalIn 10000 148 (vV x) (vV y)).run d w= .ok (decide (x=y)) w:=by
 simp[vV,go_sem];obtain⟨_,⟨_,_⟩⟩:=x;obtain⟨_,⟨_,_⟩⟩:=y;simp;(repeat' split) <;> simp_all
theorem aeJ (a:s F) (n c f:E) (cap:A B) (cs:G EvC) (p:EvC→I) (w:m) (hr:Row w 9 cZ a n c cs)
  (eg:∀args w,(l f args).run d w= .ok (.enter f args) w) (hp:lW d f cap fO p cs w):
  C d 160 #[u a n c,.func (.func f) #[] cap] w (aW (D .i64 (idx p cs)) w):=by
 have hn:=hr.le;have H:=hid hp;clear hp;have HR:=hid hr;clear hr;go_enter func160,ntmps160;go_wp2_with fail
 go_loopw [8] (fun i wr=>∃k:E,k≤n∧i= D .i64 k∧(cs.take k).findIdx? p=none∧Below w.heap.size w wr) (fun i _=>n - (g i).toNat)
 case atStart=>exact⟨0,v _,rfl,rfl,z _ _⟩
 case round=>
  obtain⟨k,hk,rfl,hf,hb⟩:=hrel;by_cases hlt:k<n
  ·obtain⟨x,b,o,hx,rfl,hc⟩:=HR.q.at_ hlt
   have h0:=aM hb rfl (hc 0 _ rfl);have h1:=aM hb rfl (hc 1 _ rfl);have h2:=aM hb rfl (hc 2 _ rfl);have h3:=aM hb rfl (hc 3 _ rfl);have h4:=aM hb rfl (hc 4 _ rfl);have h5:=aM hb rfl (hc 5 _ rfl);have h6:=aM hb rfl (hc 6 _ rfl);have h7:=aM hb rfl (hc 7 _ rfl);have h8:=aM hb rfl (hc 8 _ rfl);simp only[r] at h0;have hcall:=H.q x (j hx) wr hb;have HX:=hid hx;have HF:=hid hf;clear hc hx hf
   cases hpx:p x
   all_goals
    rw[hpx] at hcall;have HC:=hid hcall;have HP:=hid hpx;clear hcall hpx;go_wp2_with fail;refine HC.q.mono ?_;rintro e w1 ⟨rfl,hb1⟩;go_wp2_with fail
   ·go_roundw
    case rel=>exact⟨k+1,by omega,by go_num,jD p cs k HF.q x HX.q HP.q,hb.trans (hb1.mono hb.size)⟩
    case measure=>simp[g];omega
   ·go_ret
    refine⟨?_,hb.trans (hb1.mono hb.size)⟩;rw[nN (findIdx?_take p cs k HF.q x HX.q HP.q)];rfl
  ·have hkn:k=n:=by omega
   have HF:=hid hf;clear hf;go_wp2_with fail;go_ret;refine⟨?_,hb⟩;have e:cs.take k=cs:=h (by rw[HR.q.len];omega);rw[nO (xs:=cs) (by rw[←e];exact HF.q)];rfl
theorem aeK (a:s F) (n c f:E) (cap:A B) (cs:G To) (p:To→I) (w:m) (hr:Row w 2 j3 a n c cs)
  (eg:∀args w,(l f args).run d w= .ok (.enter f args) w) (hp:lW d f cap qQ p cs w):
  C d 177 #[u a n c,.func (.func f) #[] cap] w (aW (D .i64 (idx p cs)) w):=by
 have hn:=hr.le;have H:=hid hp;clear hp;have HR:=hid hr;clear hr;go_enter func177,ntmps177;go_wp2_with fail
 go_loopw [8] (fun i wr=>∃k:E,k≤n∧i= D .i64 k∧(cs.take k).findIdx? p=none∧Below w.heap.size w wr) (fun i _=>n - (g i).toNat)
 case atStart=>exact⟨0,v _,rfl,rfl,z _ _⟩
 case round=>
  obtain⟨k,hk,rfl,hf,hb⟩:=hrel;by_cases hlt:k<n
  ·obtain⟨x,b,o,hx,rfl,hc⟩:=HR.q.at_ hlt
   have h0:=aM hb rfl (hc 0 _ rfl);have h1:=aM hb rfl (hc 1 _ rfl);simp only[r] at h0;have hcall:=H.q x (j hx) wr hb;have HX:=hid hx;have HF:=hid hf;clear hc hx hf
   cases hpx:p x
   all_goals
    rw[hpx] at hcall;have HC:=hid hcall;have HP:=hid hpx;clear hcall hpx;go_wp2_with fail;refine HC.q.mono ?_;rintro e w1 ⟨rfl,hb1⟩;go_wp2_with fail
   ·go_roundw
    case rel=>exact⟨k+1,by omega,by go_num,jD p cs k HF.q x HX.q HP.q,hb.trans (hb1.mono hb.size)⟩
    case measure=>simp[g];omega
   ·go_ret
    refine⟨?_,hb.trans (hb1.mono hb.size)⟩;rw[nN (findIdx?_take p cs k HF.q x HX.q HP.q)];rfl
  ·have hkn:k=n:=by omega
   have HF:=hid hf;clear hf;go_wp2_with fail;go_ret;refine⟨?_,hb⟩;have e:cs.take k=cs:=h (by rw[HR.q.len];omega);rw[nO (xs:=cs) (by rw[←e];exact HF.q)];rfl
theorem aaZ (a:s F) (n c f:E) (cap:A B) (cs:G Bs) (p:Bs→I) (w:m) (hr:Row w 1 encStr a n c cs)
  (eg:∀args w,(l f args).run d w= .ok (.enter f args) w) (hp:lW d f cap valStr p cs w):
  C d 178 #[u a n c,.func (.func f) #[] cap] w (aW (D .i64 (idx p cs)) w):=by
 have hn:=hr.le;have H:=hid hp;clear hp;have HR:=hid hr;clear hr;go_enter func178,ntmps178;go_wp2_with fail
 go_loopw [8] (fun i wr=>∃k:E,k≤n∧i= D .i64 k∧(cs.take k).findIdx? p=none∧Below w.heap.size w wr) (fun i _=>n - (g i).toNat)
 case atStart=>exact⟨0,v _,rfl,rfl,z _ _⟩
 case round=>
  obtain⟨k,hk,rfl,hf,hb⟩:=hrel;by_cases hlt:k<n
  ·obtain⟨x,b,o,hx,rfl,hc⟩:=HR.q.at_ hlt
   have h0:=aM hb rfl (hc 0 _ rfl);simp only[K,r] at h0;have hcall:=H.q x (j hx) wr hb;have HX:=hid hx;have HF:=hid hf;clear hc hx hf
   cases hpx:p x
   all_goals
    rw[hpx] at hcall;have HC:=hid hcall;have HP:=hid hpx;clear hcall hpx;go_wp2_with fail;refine HC.q.mono ?_;rintro e w1 ⟨rfl,hb1⟩;go_wp2_with fail
   ·go_roundw
    case rel=>exact⟨k+1,by omega,by go_num,jD p cs k HF.q x HX.q HP.q,hb.trans (hb1.mono hb.size)⟩
    case measure=>simp[g];omega
   ·go_ret
    refine⟨?_,hb.trans (hb1.mono hb.size)⟩;rw[nN (findIdx?_take p cs k HF.q x HX.q HP.q)];rfl
  ·have hkn:k=n:=by omega
   have HF:=hid hf;clear hf;go_wp2_with fail;go_ret;refine⟨?_,hb⟩;have e:cs.take k=cs:=h (by rw[HR.q.len];omega);rw[nO (xs:=cs) (by rw[←e];exact HF.q)];rfl
theorem aa0 (a:s F) (n c f:E) (cap:A B) (cs:G Int) (p:Int→I) (w:m) (hr:Row w 1 aQ a n c cs)
  (eg:∀args w,(l f args).run d w= .ok (.enter f args) w) (hp:lW d f cap AX p cs w):
  C d 235 #[u a n c,.func (.func f) #[] cap] w (aW (D .i64 (idx p cs)) w):=by
 have hn:=hr.le;have H:=hid hp;clear hp;have HR:=hid hr;clear hr;go_enter func235,ntmps235;go_wp2_with fail
 go_loopw [8] (fun i wr=>∃k:E,k≤n∧i= D .i64 k∧(cs.take k).findIdx? p=none∧Below w.heap.size w wr) (fun i _=>n - (g i).toNat)
 case atStart=>exact⟨0,v _,rfl,rfl,z _ _⟩
 case round=>
  obtain⟨k,hk,rfl,hf,hb⟩:=hrel;by_cases hlt:k<n
  ·obtain⟨x,b,o,hx,rfl,hc⟩:=HR.q.at_ hlt
   have h0:=aM hb rfl (hc 0 _ rfl);simp only[K,r] at h0;have hcall:=H.q x (j hx) wr hb;have HX:=hid hx;have HF:=hid hf;clear hc hx hf
   cases hpx:p x
   all_goals
    rw[hpx] at hcall;have HC:=hid hcall;have HP:=hid hpx;clear hcall hpx;go_wp2_with fail;refine HC.q.mono ?_;rintro e w1 ⟨rfl,hb1⟩;go_wp2_with fail
   ·go_roundw
    case rel=>exact⟨k+1,by omega,by go_num,jD p cs k HF.q x HX.q HP.q,hb.trans (hb1.mono hb.size)⟩
    case measure=>simp[g];omega
   ·go_ret
    refine⟨?_,hb.trans (hb1.mono hb.size)⟩;rw[nN (findIdx?_take p cs k HF.q x HX.q HP.q)];rfl
  ·have hkn:k=n:=by omega
   have HF:=hid hf;clear hf;go_wp2_with fail;go_ret;refine⟨?_,hb⟩;have e:cs.take k=cs:=h (by rw[HR.q.len];omega);rw[nO (xs:=cs) (by rw[←e];exact HF.q)];rfl
theorem aeL (a:s F) (n c f:E) (cap:A B) (cs:G aH) (p:aH→I) (w:m) (hr:Row w 2 dD a n c cs)
  (eg:∀args w,(l f args).run d w= .ok (.enter f args) w) (hp:lW d f cap vS p cs w):
  C d 238 #[u a n c,.func (.func f) #[] cap] w (aW (D .i64 (idx p cs)) w):=by
 have hn:=hr.le;have H:=hid hp;clear hp;have HR:=hid hr;clear hr;go_enter func238,ntmps238;go_wp2_with fail
 go_loopw [8] (fun i wr=>∃k:E,k≤n∧i= D .i64 k∧(cs.take k).findIdx? p=none∧Below w.heap.size w wr) (fun i _=>n - (g i).toNat)
 case atStart=>exact⟨0,v _,rfl,rfl,z _ _⟩
 case round=>
  obtain⟨k,hk,rfl,hf,hb⟩:=hrel;by_cases hlt:k<n
  ·obtain⟨x,b,o,hx,rfl,hc⟩:=HR.q.at_ hlt
   have h0:=aM hb rfl (hc 0 _ rfl);have h1:=aM hb rfl (hc 1 _ rfl);simp only[r] at h0;have hcall:=H.q x (j hx) wr hb;have HX:=hid hx;have HF:=hid hf;clear hc hx hf
   cases hpx:p x
   all_goals
    rw[hpx] at hcall;have HC:=hid hcall;have HP:=hid hpx;clear hcall hpx;go_wp2_with fail;refine HC.q.mono ?_;rintro e w1 ⟨rfl,hb1⟩;go_wp2_with fail
   ·go_roundw
    case rel=>exact⟨k+1,by omega,by go_num,jD p cs k HF.q x HX.q HP.q,hb.trans (hb1.mono hb.size)⟩
    case measure=>simp[g];omega
   ·go_ret
    refine⟨?_,hb.trans (hb1.mono hb.size)⟩;rw[nN (findIdx?_take p cs k HF.q x HX.q HP.q)];rfl
  ·have hkn:k=n:=by omega
   have HF:=hid hf;clear hf;go_wp2_with fail;go_ret;refine⟨?_,hb⟩;have e:cs.take k=cs:=h (by rw[HR.q.len];omega);rw[nO (xs:=cs) (by rw[←e];exact HF.q)];rfl
theorem aeM (a:s F) (n c f:E) (cap:A B) (cs:G aI) (p:aI→I) (w:m) (hr:Row w 4 dx a n c cs)
  (eg:∀args w,(l f args).run d w= .ok (.enter f args) w) (hp:lW d f cap vT p cs w):
  C d 239 #[u a n c,.func (.func f) #[] cap] w (aW (D .i64 (idx p cs)) w):=by
 have hn:=hr.le;have H:=hid hp;clear hp;have HR:=hid hr;clear hr;go_enter func239,ntmps239;go_wp2_with fail
 go_loopw [8] (fun i wr=>∃k:E,k≤n∧i= D .i64 k∧(cs.take k).findIdx? p=none∧Below w.heap.size w wr) (fun i _=>n - (g i).toNat)
 case atStart=>exact⟨0,v _,rfl,rfl,z _ _⟩
 case round=>
  obtain⟨k,hk,rfl,hf,hb⟩:=hrel;by_cases hlt:k<n
  ·obtain⟨x,b,o,hx,rfl,hc⟩:=HR.q.at_ hlt
   have h0:=aM hb rfl (hc 0 _ rfl);have h1:=aM hb rfl (hc 1 _ rfl);have h2:=aM hb rfl (hc 2 _ rfl);have h3:=aM hb rfl (hc 3 _ rfl);simp only[r] at h0;have hcall:=H.q x (j hx) wr hb;have HX:=hid hx;have HF:=hid hf;clear hc hx hf
   cases hpx:p x
   all_goals
    rw[hpx] at hcall;have HC:=hid hcall;have HP:=hid hpx;clear hcall hpx;go_wp2_with fail;refine HC.q.mono ?_;rintro e w1 ⟨rfl,hb1⟩;go_wp2_with fail
   ·go_roundw
    case rel=>exact⟨k+1,by omega,by go_num,jD p cs k HF.q x HX.q HP.q,hb.trans (hb1.mono hb.size)⟩
    case measure=>simp[g];omega
   ·go_ret
    refine⟨?_,hb.trans (hb1.mono hb.size)⟩;rw[nN (findIdx?_take p cs k HF.q x HX.q HP.q)];rfl
  ·have hkn:k=n:=by omega
   have HF:=hid hf;clear hf;go_wp2_with fail;go_ret;refine⟨?_,hb⟩;have e:cs.take k=cs:=h (by rw[HR.q.len];omega);rw[nO (xs:=cs) (by rw[←e];exact HF.q)];rfl
theorem aeN (a:s F) (n c f:E) (cap:A B) (cs:G Wa) (p:Wa→I) (w:m) (hr:Row w 2 eu a n c cs)
  (eg:∀args w,(l f args).run d w= .ok (.enter f args) w) (hp:lW d f cap vU p cs w):
  C d 240 #[u a n c,.func (.func f) #[] cap] w (aW (D .i64 (idx p cs)) w):=by
 have hn:=hr.le;have H:=hid hp;clear hp;have HR:=hid hr;clear hr;go_enter func240,ntmps240;go_wp2_with fail
 go_loopw [8] (fun i wr=>∃k:E,k≤n∧i= D .i64 k∧(cs.take k).findIdx? p=none∧Below w.heap.size w wr) (fun i _=>n - (g i).toNat)
 case atStart=>exact⟨0,v _,rfl,rfl,z _ _⟩
 case round=>
  obtain⟨k,hk,rfl,hf,hb⟩:=hrel;by_cases hlt:k<n
  ·obtain⟨x,b,o,hx,rfl,hc⟩:=HR.q.at_ hlt
   have h0:=aM hb rfl (hc 0 _ rfl);have h1:=aM hb rfl (hc 1 _ rfl);simp only[r] at h0;have hcall:=H.q x (j hx) wr hb;have HX:=hid hx;have HF:=hid hf;clear hc hx hf
   cases hpx:p x
   all_goals
    rw[hpx] at hcall;have HC:=hid hcall;have HP:=hid hpx;clear hcall hpx;go_wp2_with fail;refine HC.q.mono ?_;rintro e w1 ⟨rfl,hb1⟩;go_wp2_with fail
   ·go_roundw
    case rel=>exact⟨k+1,by omega,by go_num,jD p cs k HF.q x HX.q HP.q,hb.trans (hb1.mono hb.size)⟩
    case measure=>simp[g];omega
   ·go_ret
    refine⟨?_,hb.trans (hb1.mono hb.size)⟩;rw[nN (findIdx?_take p cs k HF.q x HX.q HP.q)];rfl
  ·have hkn:k=n:=by omega
   have HF:=hid hf;clear hf;go_wp2_with fail;go_ret;refine⟨?_,hb⟩;have e:cs.take k=cs:=h (by rw[HR.q.len];omega);rw[nO (xs:=cs) (by rw[←e];exact HF.q)];rfl
theorem aeO (a:s F) (n c f:E) (cap:A B) (cs:G Sn) (p:Sn→I) (w:m) (hr:Row w 3 bV a n c cs)
  (eg:∀args w,(l f args).run d w= .ok (.enter f args) w) (hp:lW d f cap vV p cs w):
  C d 259 #[u a n c,.func (.func f) #[] cap] w (aW (D .i64 (idx p cs)) w):=by
 have hn:=hr.le;have H:=hid hp;clear hp;have HR:=hid hr;clear hr;go_enter func259,ntmps259;go_wp2_with fail
 go_loopw [8] (fun i wr=>∃k:E,k≤n∧i= D .i64 k∧(cs.take k).findIdx? p=none∧Below w.heap.size w wr) (fun i _=>n - (g i).toNat)
 case atStart=>exact⟨0,v _,rfl,rfl,z _ _⟩
 case round=>
  obtain⟨k,hk,rfl,hf,hb⟩:=hrel;by_cases hlt:k<n
  ·obtain⟨x,b,o,hx,rfl,hc⟩:=HR.q.at_ hlt
   have h0:=aM hb rfl (hc 0 _ rfl);have h1:=aM hb rfl (hc 1 _ rfl);have h2:=aM hb rfl (hc 2 _ rfl);simp only[r] at h0;have hcall:=H.q x (j hx) wr hb;have HX:=hid hx;have HF:=hid hf;clear hc hx hf
   cases hpx:p x
   all_goals
    rw[hpx] at hcall;have HC:=hid hcall;have HP:=hid hpx;clear hcall hpx;go_wp2_with fail;refine HC.q.mono ?_;rintro e w1 ⟨rfl,hb1⟩;go_wp2_with fail
   ·go_roundw
    case rel=>exact⟨k+1,by omega,by go_num,jD p cs k HF.q x HX.q HP.q,hb.trans (hb1.mono hb.size)⟩
    case measure=>simp[g];omega
   ·go_ret
    refine⟨?_,hb.trans (hb1.mono hb.size)⟩;rw[nN (findIdx?_take p cs k HF.q x HX.q HP.q)];rfl
  ·have hkn:k=n:=by omega
   have HF:=hid hf;clear hf;go_wp2_with fail;go_ret;refine⟨?_,hb⟩;have e:cs.take k=cs:=h (by rw[HR.q.len];omega);rw[nO (xs:=cs) (by rw[←e];exact HF.q)];rfl
theorem aa1 (a:s F) (n c f:E) (cap:A B) (cs:G EvC) (p:EvC→I) (w:m) (hr:Row w 9 cZ a n c cs)
  (eg:∀args w,(l f args).run d w= .ok (.enter f args) w) (hp:lW d f cap fO p cs w):
  C d 69 #[u a n c,.func (.func f) #[] cap] w (aW (J (cs.any p)) w):=by
 have HC:=aeJ a n c f cap cs p w hr eg hp;have H:=hid HC;clear HC hp hr;go_enter func69,ntmps69
 go_wp2_with (go_at_call 160;refine H.q.mono ?_;rintro e w1 ⟨rfl,hb1⟩)
 go_ret;exact⟨by rw[←rP];rfl,hb1⟩
theorem QE (a:s F) (n c f:E) (cap:A B) (cs:G To) (p:To→I) (w:m) (hr:Row w 2 j3 a n c cs)
  (eg:∀args w,(l f args).run d w= .ok (.enter f args) w) (hp:lW d f cap qQ p cs w):
  C d 90 #[u a n c,.func (.func f) #[] cap] w (aW (J (cs.any p)) w):=by
 have HC:=aeK a n c f cap cs p w hr eg hp;have H:=hid HC;clear HC hp hr;go_enter func90,ntmps90
 go_wp2_with (go_at_call 177;refine H.q.mono ?_;rintro e w1 ⟨rfl,hb1⟩)
 go_ret;exact⟨by rw[←rP];rfl,hb1⟩
theorem Ms (a:s F) (n c f:E) (cap:A B) (cs:G Bs) (p:Bs→I) (w:m) (hr:Row w 1 encStr a n c cs)
  (eg:∀args w,(l f args).run d w= .ok (.enter f args) w) (hp:lW d f cap valStr p cs w):
  C d 93 #[u a n c,.func (.func f) #[] cap] w (aW (J (cs.any p)) w):=by
 have HC:=aaZ a n c f cap cs p w hr eg hp;have H:=hid HC;clear HC hp hr;go_enter func93,ntmps93
 go_wp2_with (go_at_call 178;refine H.q.mono ?_;rintro e w1 ⟨rfl,hb1⟩)
 go_ret;exact⟨by rw[←rP];rfl,hb1⟩
theorem YO (a:s F) (n c f:E) (cap:A B) (cs:G Int) (p:Int→I) (w:m) (hr:Row w 1 aQ a n c cs)
  (eg:∀args w,(l f args).run d w= .ok (.enter f args) w) (hp:lW d f cap AX p cs w):
  C d 192 #[u a n c,.func (.func f) #[] cap] w (aW (J (cs.any p)) w):=by
 have HC:=aa0 a n c f cap cs p w hr eg hp;have H:=hid HC;clear HC hp hr;go_enter func192,ntmps192
 go_wp2_with (go_at_call 235;refine H.q.mono ?_;rintro e w1 ⟨rfl,hb1⟩)
 go_ret;exact⟨by rw[←rP];rfl,hb1⟩
theorem aa2 (a:s F) (n c f:E) (cap:A B) (cs:G aH) (p:aH→I) (w:m) (hr:Row w 2 dD a n c cs)
  (eg:∀args w,(l f args).run d w= .ok (.enter f args) w) (hp:lW d f cap vS p cs w):
  C d 204 #[u a n c,.func (.func f) #[] cap] w (aW (J (cs.any p)) w):=by
 have HC:=aeL a n c f cap cs p w hr eg hp;have H:=hid HC;clear HC hp hr;go_enter func204,ntmps204
 go_wp2_with (go_at_call 238;refine H.q.mono ?_;rintro e w1 ⟨rfl,hb1⟩)
 go_ret;exact⟨by rw[←rP];rfl,hb1⟩
theorem aa3 (a:s F) (n c f:E) (cap:A B) (cs:G aI) (p:aI→I) (w:m) (hr:Row w 4 dx a n c cs)
  (eg:∀args w,(l f args).run d w= .ok (.enter f args) w) (hp:lW d f cap vT p cs w):
  C d 206 #[u a n c,.func (.func f) #[] cap] w (aW (J (cs.any p)) w):=by
 have HC:=aeM a n c f cap cs p w hr eg hp;have H:=hid HC;clear HC hp hr;go_enter func206,ntmps206
 go_wp2_with (go_at_call 239;refine H.q.mono ?_;rintro e w1 ⟨rfl,hb1⟩)
 go_ret;exact⟨by rw[←rP];rfl,hb1⟩
theorem aa4 (a:s F) (n c f:E) (cap:A B) (cs:G Wa) (p:Wa→I) (w:m) (hr:Row w 2 eu a n c cs)
  (eg:∀args w,(l f args).run d w= .ok (.enter f args) w) (hp:lW d f cap vU p cs w):
  C d 208 #[u a n c,.func (.func f) #[] cap] w (aW (J (cs.any p)) w):=by
 have HC:=aeN a n c f cap cs p w hr eg hp;have H:=hid HC;clear HC hp hr;go_enter func208,ntmps208
 go_wp2_with (go_at_call 240;refine H.q.mono ?_;rintro e w1 ⟨rfl,hb1⟩)
 go_ret;exact⟨by rw[←rP];rfl,hb1⟩
theorem aa5 (a:s F) (n c f:E) (cap:A B) (cs:G Sn) (p:Sn→I) (w:m) (hr:Row w 3 bV a n c cs)
  (eg:∀args w,(l f args).run d w= .ok (.enter f args) w) (hp:lW d f cap vV p cs w):
  C d 236 #[u a n c,.func (.func f) #[] cap] w (aW (J (cs.any p)) w):=by
 have HC:=aeO a n c f cap cs p w hr eg hp;have H:=hid HC;clear HC hp hr;go_enter func236,ntmps236
 go_wp2_with (go_at_call 259;refine H.q.mono ?_;rintro e w1 ⟨rfl,hb1⟩)
 go_ret;exact⟨by rw[←rP];rfl,hb1⟩
end Yd
namespace Yd
open Go Go.RowKit
open Go renaming Value→f,World→m
open _root_ renaming Array→j
@[reducible] def Bx (W:m) (b:Nat) (cs:j f):Prop:=(∀i,W.cell? ⟨b,i,none⟩=cs[i]?)∧(∀i,W.frozen? ⟨b,i,none⟩=false)∧b<W.heap.size
theorem Bx.below {X w':m} {b B:Nat} {cs:j f} (h:Bx X b cs) (hb:Below B X w') (hB:b<B):Bx w' b cs:=
 ⟨fun i=>(hb.cell (p:=⟨b,i,none⟩) hB).trans (h.1 i),fun i=>(hb.frozen (p:=⟨b,i,none⟩) hB).trans (h.2.1 i),Nat.lt_of_lt_of_le h.2.2 hb.size⟩
theorem Bx.keep {X w':m} {b:Nat} {cs:j f} (h:Bx X b cs) (hb:Below X.heap.size X w'):Bx w' b cs:=h.below hb h.2.2
theorem Bx.drew {X:m} {b:Nat} {cs:j f} (h:Bx X b cs):Bx X.drew b cs:=h
theorem Bx.drewN {X:m} {b:Nat} {cs:j f} (h:Bx X b cs) (n:Nat):Bx (X.drewN n) b cs:=h
theorem Bx.alloc {X:m} {b:Nat} {cs:j f} (h:Bx X b cs) (o:Obj):Bx (X.alloc o) b cs:=h.keep ((Below.refl _ _).alloc (Nat.le_refl _) _)
theorem Bx.new (X:m) (cs:j f) (T:TypeId):Bx (X.alloc (.cells cs T)) X.heap.size cs:=
 ⟨fun i=>World.cell?_alloc_new X cs T i,fun i=>by
  have h:(X.alloc (.cells cs T)).heap[X.heap.size]?=some (.cells cs T (0,0)):=by show(X.heap.push _)[_]?=_;simp
  unfold World.frozen?;simp only[h];simp,by simp⟩
theorem Bx.other {X:m} {b:Nat} {cs:j f} (h:Bx X b cs) {p:Addr} (hp:b≠p.block) (v:f):Bx (X.setCell p v) b cs:=by
 have e:=Below.heap_setCell X p v b hp;refine⟨fun i=>(World.cell?_of_block (a:=⟨b,i,none⟩) e).trans (h.1 i),fun i=>(World.frozen?_of_block (a:=⟨b,i,none⟩) e).trans (h.2.1 i),?_⟩;have:=h.2.2
 simpa[World.setCell] using this
theorem Oc {X w':m} {a b:Nat} {c d:j f} (h:Bx X a c∧Bx X b d) (hb:Below X.heap.size X w'):Bx w' a c∧Bx w' b d:=⟨h.1.keep hb,h.2.keep hb⟩
theorem Io {X w':m} {a b g:Nat} {c d e:j f} (h:Bx X a c∧Bx X b d∧Bx X g e) (hb:Below X.heap.size X w'):Bx w' a c∧Bx w' b d∧Bx w' g e:=⟨h.1.keep hb,Oc h.2 hb⟩
@[reducible] def Mr (s:Wa):j f:=#[.int .i64 s.bU,.int .i64 s.bits]
@[reducible] def Mt (s:To):j f:=#[.string ⟨s.name.toArray⟩,.int .i64 s.k]
@[reducible] def bg (e:EvC):j f:=#[.int .i64 e.kind,.int .i64 e.t,.int .i64 e.bU,.int .i64 e.lvl,.int .i64 e.obj,.int .i64 e.v.t,.int .i64 e.v.k,.int .i64 e.pred,.slice e.sa e.sn e.sc]
@[reducible] def Ml (s:aH):j f:=#[.int .i64 s.obj,.slice s.sa s.sn s.sc]
@[reducible] def Mq (s:aI):j f:=#[.int .i64 s.pred,.int .i64 s.obj,.bool s.first,.slice s.sa s.sn s.sc]
@[reducible] def gI (l:aV):j f:=#[.int .i64 l.kind,.slice l.na l.nn l.nc,.int .i64 l.lvl,.slice l.va l.vn l.vc,.bool l.first,.int .i64 l.bits]
def pG (v u:f) (w:m) (e:Ending) (w':m):Prop:=e= .returned (.tuple #[v,u])∧Below w.heap.size w w'
end Yd
namespace Yd
open Array renaming getElem?_eq_some_iff→M
open List renaming any_eq_not_all_not→L
open Nat renaming le_refl→E
open Option renaming some→d,none→O
open Go Go.RowKit Go.Proofs Tryz
open Below renaming refl→G
open Go renaming World→u,callFunc→S
open Go.RowKit renaming Below→V
open Go.Value renaming bool→N,pointer→U
open Tryz renaming prog→j
open World renaming putObj_heap_other→y
open _root_ renaming Nat→K
def aP (D:K→Prop) (W W':u):Prop:=W.heap.size≤W'.heap.size∧∀i,D i→i<W.heap.size→W'.heap[i]?=W.heap[i]?
theorem aP.trans {D:K→Prop} {A B C:u} (h:aP D A B) (k:aP D B C):aP D A C:=
 ⟨Nat.le_trans h.1 k.1,fun i hi hl=>(k.2 i hi (Nat.lt_of_lt_of_le hl h.1)).trans (h.2 i hi hl)⟩
theorem aP.refl {D:K→Prop} (A:u):aP D A A:=⟨E _,fun _ _ _=>rfl⟩
theorem aP.mono {D D':K→Prop} {A B:u} (h:aP D A B) (hd:∀i,D' i→i<A.heap.size→D i):aP D' A B:=⟨h.1,fun i hi hl=>h.2 i (hd i hi hl) hl⟩
theorem aP.putObj {D:K→Prop} (A:u) {l:K} (o:Obj) (hl:¬D l):aP D A (A.putObj l o):=
 ⟨Nat.le_of_eq World.putObj_size.symm,fun _i hi _=>y (fun e=>hl (e▸hi))⟩
theorem aP.of_below {D:K→Prop} {B:K} {X Y:u} (h:V B X Y) (hd:∀i,D i→i<X.heap.size→i<B):aP D X Y:=⟨h.size,fun i hi hl=>h.block i (hd i hi hl)⟩
structure Same (A:K→Prop) (X Y:u):Prop where
 os:Y.os=X.os
 tape:Y.tape=X.tape
 output:Y.output=X.output
 size:X.heap.size≤Y.heap.size
 block:∀i,A i→i<X.heap.size→Y.heap[i]?=X.heap[i]?
theorem Same.of_below {A:K→Prop} {B:K} {X Y:u} (h:V B X Y) (hd:∀i,A i→i<X.heap.size→i<B):Same A X Y:=⟨h.os,h.tape,h.output,h.size,fun i hi hl=>h.block i (hd i hi hl)⟩
theorem Same.mono {A A':K→Prop} {X Y:u} (h:Same A X Y) (hd:∀i,A' i→i<X.heap.size→A i):Same A' X Y:=⟨h.os,h.tape,h.output,h.size,fun i hi hl=>h.block i (hd i hi hl) hl⟩
theorem Same.tr {A:K→Prop} {X Y Z:u} (h:Same A X Y) (k:Same A Y Z):Same A X Z:=
 ⟨k.os.trans h.os,k.tape.trans h.tape,k.output.trans h.output,Nat.le_trans h.size k.size,fun i hi hl=>(k.block i hi (Nat.lt_of_lt_of_le hl h.size)).trans (h.block i hi hl)⟩
theorem Same.below {A:K→Prop} {B:K} {w X Y:u} (h:V B w X) (k:Same A X Y) (hd:∀i,i<B→A i) (hB:B≤X.heap.size):V B w Y:=
 ⟨k.os.trans h.os,k.tape.trans h.tape,k.output.trans h.output,Nat.le_trans h.size k.size,fun i hi=>(k.block i (hd i hi) ah).trans (h.block i hi)⟩
theorem Same.bx {A:K→Prop} {X Y:u} {b:K} {cs:Array Value} (k:Same A X Y) (h:Bx X b cs) (ha:A b):Bx Y b cs:=
 ⟨fun i=>(World.cell?_of_block (a:=⟨b,i,O⟩) (k.block b ha h.2.2)).trans (h.1 i),fun i=>(World.frozen?_of_block (a:=⟨b,i,O⟩) (k.block b ha h.2.2)).trans (h.2.1 i),Nat.lt_of_lt_of_le h.2.2 k.size⟩
theorem Same.putObj {A:K→Prop} (X:u) {l:K} (o:Obj) (hl:¬A l):Same A X (X.putObj l o):=
 ⟨rfl,rfl,rfl,Nat.le_of_eq World.putObj_size.symm,fun _i hi _=>y (fun e=>hl (e▸hi))⟩
def QF (l:K) (r:Loop) (R:Ending→u→Prop):Exit→Act→u→Prop
 | .normal,_,W=>W.heap[l]?=d (.loop {r with state:= .busy})∧R (.returned (N true)) (W.putObj l (.loop {r with state:= .ready,pending:=none}))
 | .ret,_,W=>W.heap[l]?=d (.loop {r with state:= .busy})∧R (.returned (N false)) (W.putObj l (.loop {r with state:= .done,pending:=some .ret}))
 | .exit id,_,W=>W.heap[l]?=d (.loop {r with state:= .busy})∧R (.returned (N false)) (W.putObj l (.loop {r with state:= .done,pending:=some (.exit id)}))
 | .goto t,_,W=>W.heap[l]?=d (.loop {r with state:= .busy})∧R (.returned (N false)) (W.putObj l (.loop {r with state:= .done,pending:=some (.goto t)}))
 | .panic _,_,_=>False
 | .outgrown,_,_=>False
theorem zD {F:Fence} {n:K} {P:Program} {l:K} {r:Loop} {args:Array Value} {W:u} {R:Ending→u→Prop}
  (hl:W.heap[l]?=d (.loop r)) (hr:r.state= .ready) (hF:F.fn r.fn) (hs:args.size=r.params.size)
  (h:r.assign.wpIn (F.inRound l) n P (Exit.then (fun a₁ W₁=>W₁.heap[l]?=d (.loop r)∧r.body.wpIn (F.inRound l) n P (QF l r R) a₁ (W₁.putObj l (.loop {r with state:= .busy}))) (fun _ _ _=>False))
   {tmps:=(r.params.zip args).foldl (fun t (p,v)=>t.setIfInBounds p v) r.tmps,defers:=[]} W):YieldAt F n P l args W R:=by
 refine⟨r.fn,_,r.assign,r.body,run_yield hl hs,roundIn_of_wpIn hF ?_⟩;refine wpIn_mono h ?_;rintro e a₁ W₁ hp
 cases e with
 |normal=>
  obtain⟨hl1,hb⟩:=hp;refine⟨_,run_beginRound hl1 hr,wpIn_mono hb ?_⟩;rintro e a₂ W₂ hq
  cases e with
  |normal=>exact⟨_,_,run_endRound O hq.1,hq.2⟩
  |ret=>exact⟨_,_,run_endRound (d .ret) hq.1,hq.2⟩
  |exit id=>exact⟨_,_,run_endRound (d (.exit id)) hq.1,hq.2⟩
  |goto t=>exact⟨_,_,run_endRound (d (.goto t)) hq.1,hq.2⟩
  |panic _=>exact hq.elim
  |outgrown=>exact hq.elim
 |_=>exact hp.elim
def Iter (P:Program) (gf:K) (lb:Array Value) {α:Type} (qD:α→Array Value→u→Prop) (k:K) (D:K→Prop) (xs:List α) (W:u):Prop:=
 ∀(n l:K) (J Jx:List α→u→Prop),
  (∀s X Y,J s X→Same (fun i=>i<W.heap.size∨W.heap.size+k≤i) X Y→J s Y)→
  (∀s X Y,Jx s X→Same (fun i=>i<W.heap.size∨W.heap.size+k≤i) X Y→Jx s Y)→
  (∀pre x args X,J pre X→pre++[x]<+:xs→qD x args X→W.heap.size+k≤X.heap.size→∀m,YieldAt Fence.wide m P l args X fun e Y=>
   (e= .returned (N true)∧J (pre++[x]) Y∧aP D X Y)∨(e= .returned (N false)∧Jx (pre++[x]) Y∧aP D X Y))→
  J [] W→
  CallsIn Fence.wide n P gf (#[.func (.yield l) #[] #[]]++lb) W fun e Y=>∃v,e= .returned v∧(J xs Y∨∃pre,pre<+:xs∧Jx pre Y)
def Eu {α:Type} (l:K) (D:K→Prop) (I:List α→u→Prop) (Ix:Code→List α→u→Prop) (xs:List α) (X:u):Exit→Act→u→Prop
 | .normal,_,Y=>(Y.heap[l]?=X.heap[l]?∧Y.heap[l+1]?=X.heap[l+1]?)∧aP D X Y∧I xs Y
 | .ret,_,Y=>(Y.heap[l]?=X.heap[l]?∧Y.heap[l+1]?=X.heap[l+1]?)∧aP D X Y∧Ix .ret xs Y
 | .exit id,_,Y=>(Y.heap[l]?=X.heap[l]?∧Y.heap[l+1]?=X.heap[l+1]?)∧aP D X Y∧Ix (.exit id) xs Y
 | .goto t,_,Y=>(Y.heap[l]?=X.heap[l]?∧Y.heap[l+1]?=X.heap[l+1]?)∧aP D X Y∧Ix (.goto t) xs Y
 | .panic _,_,_=>False
 | .outgrown,_,_=>False
theorem Ga {P:Program} {α:Type} {g:Operand} {ps:Array Tmp} {assign body:Code} {Q:Exit→Act→u→Prop} {a:Act} {w:u} {n:K}
  {gf:K} {lb:Array Value} (hg:a.eval g= .func (.func gf) #[] lb) (eg:∀args w,(S gf args).run P w= .ok (.enter gf args) w)
  {qD:α→Array Value→u→Prop} {k:K} {D:K→Prop} {xs:List α}
  (hseq:∀W,V w.heap.size w W→W.heap.size=w.heap.size+2→Iter P gf lb qD k D xs W)
  (hD:¬D (w.heap.size+1)) (hps:∀x args X,qD x args X→args.size=ps.size)
  (I:List α→u→Prop) (Ix:Code→List α→u→Prop)
  (hI:∀s X Y,I s X→Same (fun i=>i<w.heap.size∨w.heap.size+2+k≤i) X Y→I s Y)
  (hIx:∀c s X Y,Ix c s X→Same (fun i=>i<w.heap.size∨w.heap.size+2+k≤i) X Y→Ix c s Y)
  (h0:I [] w)
  (AY:∀pre x args X,I pre X→pre++[x]<+:xs→qD x args X→w.heap.size+2+k≤X.heap.size→∀m,
   assign.wpIn (Fence.wide.inRound (w.heap.size+1)) m P (Exit.then (fun a₁ X₁=>V X.heap.size X X₁∧∀X₂:u,Same (fun i=>i≠w.heap.size+1) X₁ X₂→
     body.wpIn (Fence.wide.inRound (w.heap.size+1)) m P (Eu w.heap.size D I Ix (pre++[x]) X₂) a₁ X₂) (fun _ _ _=>False))
    {tmps:=(ps.zip args).foldl (fun t (p,v)=>t.setIfInBounds p v) a.tmps,defers:=[]} X)
  (hdone:∀X,I xs X→X.heap[w.heap.size]?=d (.deferred (d []))→Q .normal {a with defers:={target:= .collected w.heap.size,args:=#[]}::a.defers} X)
  (hstop:∀c pre X,pre<+:xs→Ix c pre X→X.heap[w.heap.size]?=d (.deferred (d []))→c.wpIn Fence.wide n P Q {a with defers:={target:= .collected w.heap.size,args:=#[]}::a.defers} X):
  (Code.rangeFunc g ps assign body).wpIn Fence.wide n P Q a w:=by
 refine wpIn_rangeFunc ?_;intro fn hfn;obtain⟨r,hr⟩:∃r:Loop,r={state:= .ready,pending:=none,fn,tmps:=a.tmps,params:=ps,assign,body,defers:=w.heap.size}:=⟨_,rfl⟩;obtain⟨W1,hW1⟩:∃W1,(w.alloc (.deferred (d []))).alloc (.loop r)=W1:=⟨_,rfl⟩;have hs1:W1.heap.size=w.heap.size+2:=by rw[←hW1];simp
 have hL1:W1.heap[w.heap.size+1]?=d (.loop r):=by
  rw[←hW1];have:=World.alloc_heap_new (w.alloc (.deferred (d []))) (.loop r);rwa[World.size_alloc] at this
 have hK1:W1.heap[w.heap.size]?=d (.deferred (d [])):=by
  rw[←hW1];exact(Below.heap_alloc _ _ _ ak).trans (World.alloc_heap_new w _)
 have hb1:V w.heap.size w W1:=by rw[←hW1];exact((G _ w).alloc (E _) _).alloc ak _
 have hI1:I [] W1:=hI _ _ _ h0 (.of_below hb1 (fun i _ hi=>hi));refine⟨w.heap.size+1,[{target:= .collected w.heap.size,args:=#[]}],W1,{target:= .fn (.func gf) lb,args:=#[.func (.yield (w.heap.size+1)) #[] #[]]},W1,gf,
  #[.func (.yield (w.heap.size+1)) #[] #[]]++lb,W1,?_,?_,fun _ _=>trivial,?_,fun h=>(by cases h),?_⟩
 ·rw[←hW1,hr];exact run_enterLoop_outer _ _ _ _ _
 ·simp only[resolve,hg]
  simp[go_sem]
 ·simp[invoke,go_sem,eg]
 have hput:∀(s:List α) (X:u) (o:Obj),I s X→I s (X.putObj (w.heap.size+1) o):=fun s X o h=>hI s _ _ h (.putObj X o ah)
 have oK:∀(c:Code) (s:List α) (X:u) (o:Obj),Ix c s X→Ix c s (X.putObj (w.heap.size+1) o):=fun c s X o h=>hIx c s _ _ h (.putObj X o ah)
 refine(hseq W1 hb1 hs1 (n - 1) (w.heap.size+1)
  (fun pre X=>I pre X∧X.heap[w.heap.size+1]?=d (.loop r)∧X.heap[w.heap.size]?=d (.deferred (d [])))
  (fun pre X=>∃c,Ix c pre X∧X.heap[w.heap.size+1]?=d (.loop {r with state:= .done,pending:=some c})∧X.heap[w.heap.size]?=d (.deferred (d [])))
  ?_ ?_ ?_ ⟨hI1,hL1,hK1⟩).mono ?_
 ·rintro s X Y ⟨h1,h2,h3⟩ hsame
  have e2:=(M.1 h2).1;exact⟨hI s X Y h1 (hsame.mono (fun i hi hl=>by omega)),(hsame.block _ ah e2).trans h2,(hsame.block _ ah ah).trans h3⟩
 ·rintro s X Y ⟨c,h1,h2,h3⟩ hsame
  have e2:=(M.1 h2).1;exact⟨c,hIx c s X Y h1 (hsame.mono (fun i hi hl=>by omega)),(hsame.block _ ah e2).trans h2,(hsame.block _ ah ah).trans h3⟩
 ·rintro pre x args X ⟨hi,hl,hk⟩ hpx hrep hsz m
  have hra:r.assign=assign:=by rw[hr]
  have hrb:r.body=body:=by rw[hr]
  have xJ:r.params=ps:=by rw[hr]
  have hrt:r.tmps=a.tmps:=by rw[hr]
  have hrs:r.state= .ready:=by rw[hr]
  have hrn:r.pending=O:=by rw[hr]
  have hrr:({r with state:= .ready,pending:=none}:Loop)=r:=by rw[hr]
  refine zD hl hrs trivial (by rw[xJ];exact hps x args X hrep) ?_;have hR:=AY pre x args X hi hpx hrep ah m;rw[←hra,←hrb,←xJ,←hrt] at hR;refine wpIn_mono hR ?_;rintro e a1 X1 hp
  cases e with
  |normal=>
   obtain⟨hb,hbody⟩:=hp;have QG:=(M.1 hl).1;have hl1:X1.heap[w.heap.size+1]?=d (.loop r):=(hb.block _ ah).trans hl;have hk1:X1.heap[w.heap.size]?=d (.deferred (d [])):=(hb.block _ ah).trans hk;have hlt1:=(M.1 hl1).1;refine⟨hl1,wpIn_mono (hbody _ (.putObj X1 _ ah)) ?_⟩;have hl2:(X1.putObj (w.heap.size+1) (.loop {r with state:= .busy})).heap[w.heap.size+1]?=d (.loop {r with state:= .busy}):=World.putObj_heap_same hlt1;have hk2:(X1.putObj (w.heap.size+1) (.loop {r with state:= .busy})).heap[w.heap.size]?=d (.deferred (d [])):=(y ah).trans hk1;rintro e a3 X3 hq;have fin:∀o,X3.heap[w.heap.size+1]?=(X1.putObj (w.heap.size+1) (.loop {r with state:= .busy})).heap[w.heap.size+1]?→(X3.putObj (w.heap.size+1) o).heap[w.heap.size+1]?=d o:=fun o h=>
    World.putObj_heap_same ((M.1 (h.trans hl2)).1)
   have keep:∀o,aP D (X1.putObj (w.heap.size+1) (.loop {r with state:= .busy})) X3→aP D X (X3.putObj (w.heap.size+1) o):=fun o hC=>
    (aP.of_below hb (fun i _ hi=>hi)).trans (((aP.putObj X1 _ hD).trans hC).trans (aP.putObj X3 _ hD))
   cases e with
   |normal=>
    obtain⟨⟨hA,hB⟩,hC,hE⟩:=hq;refine⟨hB.trans hl2,.inl ⟨rfl,⟨hput _ _ _ hE,(fin _ hB).trans (by rw[hrr]),(y ah).trans (hA.trans hk2)⟩,?_⟩⟩;exact(aP.of_below hb (fun i _ hi=>hi)).trans (((aP.putObj X1 _ hD).trans hC).trans (aP.putObj X3 _ hD))
   |ret=>
    obtain⟨⟨hA,hB⟩,hC,hE⟩:=hq;exact⟨hB.trans hl2,.inr ⟨rfl,⟨.ret,oK _ _ _ _ hE,fin _ hB,(y ah).trans (hA.trans hk2)⟩,keep _ hC⟩⟩
   |exit id=>
    obtain⟨⟨hA,hB⟩,hC,hE⟩:=hq;exact⟨hB.trans hl2,.inr ⟨rfl,⟨.exit id,oK _ _ _ _ hE,fin _ hB,(y ah).trans (hA.trans hk2)⟩,keep _ hC⟩⟩
   |goto t=>
    obtain⟨⟨hA,hB⟩,hC,hE⟩:=hq;exact⟨hB.trans hl2,.inr ⟨rfl,⟨.goto t,oK _ _ _ _ hE,fin _ hB,(y ah).trans (hA.trans hk2)⟩,keep _ hC⟩⟩
   |panic _=>exact hq.elim
   |outgrown=>exact hq.elim
  |_=>exact hp.elim
 ·rintro e X2 ⟨v,rfl,(⟨hi,hl,hk⟩|⟨pre,hpre,c,hi,hl,hk⟩)⟩
  ·exact⟨O,_,by have:=run_endLoop (P:=P) hl (by rw[hr];simp);rwa[hr] at this,hdone _ (hput _ _ _ hi) ((y ah).trans hk)⟩
  ·exact⟨d c,_,run_endLoop (P:=P) hl ak,hstop c pre _ hpre (oK _ _ _ _ hi) ((y ah).trans hk)⟩
theorem aa6 (x:Int) (f:K) (cap:Array Value) (p:Int→Bool) (bp:K) (W:u) (hc:W.cell? ⟨bp,0,O⟩=d (.func (.func f) #[] cap))
  (eg:∀args w,(S f args).run j w= .ok (.enter f args) w) (hcall:∀W',V W.heap.size W W'→Calls j f (#[AX x]++cap) W' (aW (N (p x)) W')):
  Calls j 193 #[AX x,U (d ⟨bp,0,O⟩)] W (aW (N (!p x)) W):=by
 have H:=hid hcall;clear hcall;have hbp:bp<W.heap.size:=dS hc;go_enter func193,ntmps193;go_wp2_with fail;refine(H.q _ (G _ _)).mono ?_;rintro e w1 ⟨rfl,hb1⟩;go_wp2_with fail;go_ret;exact⟨rfl,hb1⟩
theorem aaL (a:Option Addr) (n c f:K) (cap:Array Value) (cs:List Int) (p:Int→Bool) (w:u) (hr:Row w 1 aQ a n c cs)
  (eg:∀args w,(S f args).run j w= .ok (.enter f args) w) (hp:lW j f cap AX p cs w):
  Calls j 125 #[.slice a n c,.func (.func f) #[] cap] w (aW (N (cs.all p)) w):=by
 have HB:V w.heap.size w (w.alloc (.cells #[.func (.func f) #[] cap] 177)):=(G _ _).alloc (E _) _;have HC:=YO a n c 193 #[U (d ⟨w.heap.size,0,O⟩)] cs (fun x=>!p x) _ (hr.below HB rfl) call193
  (fun x hx W hW=>aa6 x f cap p w.heap.size W (by rw[hW.cell (p:=⟨w.heap.size,0,O⟩) ak];simp) eg
   (fun W' hW'=>hp x hx W' (HB.trans ((hW.mono ak).trans (hW'.mono (by have:=hW.size;simp at this;omega))))))
 have H:=hid HC;have nu:=hid HB;clear HC HB hp hr;go_enter func125,ntmps125
 go_wp2_with (go_at_call 192;refine H.q.mono ?_;rintro e w1 ⟨rfl,hb1⟩)
 go_ret;refine⟨?_,nu.q.trans (hb1.mono ak)⟩;have e:cs.all p=!cs.any (fun x=>!p x):=by simp[L]
 rw[e];rfl
theorem aeP (x:EvC) (f:K) (cap:Array Value) (p:EvC→Bool) (bp:K) (W:u) (hc:W.cell? ⟨bp,0,O⟩=d (.func (.func f) #[] cap))
  (eg:∀args w,(S f args).run j w= .ok (.enter f args) w) (hcall:∀W',V W.heap.size W W'→Calls j f (#[fO x]++cap) W' (aW (N (p x)) W')):
  Calls j 194 #[fO x,U (d ⟨bp,0,O⟩)] W (aW (N (!p x)) W):=by
 have H:=hid hcall;clear hcall;have hbp:bp<W.heap.size:=dS hc;go_enter func194,ntmps194;go_wp2_with fail;refine(H.q _ ((G _ _).alloc (E _) _)).mono ?_;rintro e w1 ⟨rfl,hb1⟩;go_wp2_with fail;go_ret;exact⟨rfl,((G _ _).alloc (E _) _).trans (hb1.mono ak)⟩
theorem aeF (a:Option Addr) (n c f:K) (cap:Array Value) (cs:List EvC) (p:EvC→Bool) (w:u) (hr:Row w 9 cZ a n c cs)
  (eg:∀args w,(S f args).run j w= .ok (.enter f args) w) (hp:lW j f cap fO p cs w):
  Calls j 128 #[.slice a n c,.func (.func f) #[] cap] w (aW (N (cs.all p)) w):=by
 have HB:V w.heap.size w (w.alloc (.cells #[.func (.func f) #[] cap] 144)):=(G _ _).alloc (E _) _;have HC:=aa1 a n c 194 #[U (d ⟨w.heap.size,0,O⟩)] cs (fun x=>!p x) _ (hr.below HB rfl) call194
  (fun x hx W hW=>aeP x f cap p w.heap.size W (by rw[hW.cell (p:=⟨w.heap.size,0,O⟩) ak];simp) eg
   (fun W' hW'=>hp x hx W' (HB.trans ((hW.mono ak).trans (hW'.mono (by have:=hW.size;simp at this;omega))))))
 have H:=hid HC;have nu:=hid HB;clear HC HB hp hr;go_enter func128,ntmps128
 go_wp2_with (go_at_call 69;refine H.q.mono ?_;rintro e w1 ⟨rfl,hb1⟩)
 go_ret;refine⟨?_,nu.q.trans (hb1.mono ak)⟩;have e:cs.all p=!cs.any (fun x=>!p x):=by simp[L]
 rw[e];rfl
theorem aeQ (x:aH) (f:K) (cap:Array Value) (p:aH→Bool) (bp:K) (W:u) (hc:W.cell? ⟨bp,0,O⟩=d (.func (.func f) #[] cap))
  (eg:∀args w,(S f args).run j w= .ok (.enter f args) w) (hcall:∀W',V W.heap.size W W'→Calls j f (#[vS x]++cap) W' (aW (N (p x)) W')):
  Calls j 205 #[vS x,U (d ⟨bp,0,O⟩)] W (aW (N (!p x)) W):=by
 have H:=hid hcall;clear hcall;have hbp:bp<W.heap.size:=dS hc;go_enter func205,ntmps205;go_wp2_with fail;refine(H.q _ ((G _ _).alloc (E _) _)).mono ?_;rintro e w1 ⟨rfl,hb1⟩;go_wp2_with fail;go_ret;exact⟨rfl,((G _ _).alloc (E _) _).trans (hb1.mono ak)⟩
theorem aeG (a:Option Addr) (n c f:K) (cap:Array Value) (cs:List aH) (p:aH→Bool) (w:u) (hr:Row w 2 dD a n c cs)
  (eg:∀args w,(S f args).run j w= .ok (.enter f args) w) (hp:lW j f cap vS p cs w):
  Calls j 131 #[.slice a n c,.func (.func f) #[] cap] w (aW (N (cs.all p)) w):=by
 have HB:V w.heap.size w (w.alloc (.cells #[.func (.func f) #[] cap] 192)):=(G _ _).alloc (E _) _;have HC:=aa2 a n c 205 #[U (d ⟨w.heap.size,0,O⟩)] cs (fun x=>!p x) _ (hr.below HB rfl) call205
  (fun x hx W hW=>aeQ x f cap p w.heap.size W (by rw[hW.cell (p:=⟨w.heap.size,0,O⟩) ak];simp) eg
   (fun W' hW'=>hp x hx W' (HB.trans ((hW.mono ak).trans (hW'.mono (by have:=hW.size;simp at this;omega))))))
 have H:=hid HC;have nu:=hid HB;clear HC HB hp hr;go_enter func131,ntmps131
 go_wp2_with (go_at_call 204;refine H.q.mono ?_;rintro e w1 ⟨rfl,hb1⟩)
 go_ret;refine⟨?_,nu.q.trans (hb1.mono ak)⟩;have e:cs.all p=!cs.any (fun x=>!p x):=by simp[L]
 rw[e];rfl
theorem aeR (x:aI) (f:K) (cap:Array Value) (p:aI→Bool) (bp:K) (W:u) (hc:W.cell? ⟨bp,0,O⟩=d (.func (.func f) #[] cap))
  (eg:∀args w,(S f args).run j w= .ok (.enter f args) w) (hcall:∀W',V W.heap.size W W'→Calls j f (#[vT x]++cap) W' (aW (N (p x)) W')):
  Calls j 207 #[vT x,U (d ⟨bp,0,O⟩)] W (aW (N (!p x)) W):=by
 have H:=hid hcall;clear hcall;have hbp:bp<W.heap.size:=dS hc;go_enter func207,ntmps207;go_wp2_with fail;refine(H.q _ ((G _ _).alloc (E _) _)).mono ?_;rintro e w1 ⟨rfl,hb1⟩;go_wp2_with fail;go_ret;exact⟨rfl,((G _ _).alloc (E _) _).trans (hb1.mono ak)⟩
theorem aeH (a:Option Addr) (n c f:K) (cap:Array Value) (cs:List aI) (p:aI→Bool) (w:u) (hr:Row w 4 dx a n c cs)
  (eg:∀args w,(S f args).run j w= .ok (.enter f args) w) (hp:lW j f cap vT p cs w):
  Calls j 133 #[.slice a n c,.func (.func f) #[] cap] w (aW (N (cs.all p)) w):=by
 have HB:V w.heap.size w (w.alloc (.cells #[.func (.func f) #[] cap] 194)):=(G _ _).alloc (E _) _;have HC:=aa3 a n c 207 #[U (d ⟨w.heap.size,0,O⟩)] cs (fun x=>!p x) _ (hr.below HB rfl) call207
  (fun x hx W hW=>aeR x f cap p w.heap.size W (by rw[hW.cell (p:=⟨w.heap.size,0,O⟩) ak];simp) eg
   (fun W' hW'=>hp x hx W' (HB.trans ((hW.mono ak).trans (hW'.mono (by have:=hW.size;simp at this;omega))))))
 have H:=hid HC;have nu:=hid HB;clear HC HB hp hr;go_enter func133,ntmps133
 go_wp2_with (go_at_call 206;refine H.q.mono ?_;rintro e w1 ⟨rfl,hb1⟩)
 go_ret;refine⟨?_,nu.q.trans (hb1.mono ak)⟩;have e:cs.all p=!cs.any (fun x=>!p x):=by simp[L]
 rw[e];rfl
theorem aeS (x:Wa) (f:K) (cap:Array Value) (p:Wa→Bool) (bp:K) (W:u) (hc:W.cell? ⟨bp,0,O⟩=d (.func (.func f) #[] cap))
  (eg:∀args w,(S f args).run j w= .ok (.enter f args) w) (hcall:∀W',V W.heap.size W W'→Calls j f (#[vU x]++cap) W' (aW (N (p x)) W')):
  Calls j 209 #[vU x,U (d ⟨bp,0,O⟩)] W (aW (N (!p x)) W):=by
 have H:=hid hcall;clear hcall;have hbp:bp<W.heap.size:=dS hc;go_enter func209,ntmps209;go_wp2_with fail;refine(H.q _ ((G _ _).alloc (E _) _)).mono ?_;rintro e w1 ⟨rfl,hb1⟩;go_wp2_with fail;go_ret;exact⟨rfl,((G _ _).alloc (E _) _).trans (hb1.mono ak)⟩
theorem aeI (a:Option Addr) (n c f:K) (cap:Array Value) (cs:List Wa) (p:Wa→Bool) (w:u) (hr:Row w 2 eu a n c cs)
  (eg:∀args w,(S f args).run j w= .ok (.enter f args) w) (hp:lW j f cap vU p cs w):
  Calls j 135 #[.slice a n c,.func (.func f) #[] cap] w (aW (N (cs.all p)) w):=by
 have HB:V w.heap.size w (w.alloc (.cells #[.func (.func f) #[] cap] 196)):=(G _ _).alloc (E _) _;have HC:=aa4 a n c 209 #[U (d ⟨w.heap.size,0,O⟩)] cs (fun x=>!p x) _ (hr.below HB rfl) call209
  (fun x hx W hW=>aeS x f cap p w.heap.size W (by rw[hW.cell (p:=⟨w.heap.size,0,O⟩) ak];simp) eg
   (fun W' hW'=>hp x hx W' (HB.trans ((hW.mono ak).trans (hW'.mono (by have:=hW.size;simp at this;omega))))))
 have H:=hid HC;have nu:=hid HB;clear HC HB hp hr;go_enter func135,ntmps135
 go_wp2_with (go_at_call 208;refine H.q.mono ?_;rintro e w1 ⟨rfl,hb1⟩)
 go_ret;refine⟨?_,nu.q.trans (hb1.mono ak)⟩;have e:cs.all p=!cs.any (fun x=>!p x):=by simp[L]
 rw[e];rfl
theorem aeT (x:Sn) (f:K) (cap:Array Value) (p:Sn→Bool) (bp:K) (W:u) (hc:W.cell? ⟨bp,0,O⟩=d (.func (.func f) #[] cap))
  (eg:∀args w,(S f args).run j w= .ok (.enter f args) w) (hcall:∀W',V W.heap.size W W'→Calls j f (#[vV x]++cap) W' (aW (N (p x)) W')):
  Calls j 237 #[vV x,U (d ⟨bp,0,O⟩)] W (aW (N (!p x)) W):=by
 have H:=hid hcall;clear hcall;have hbp:bp<W.heap.size:=dS hc;go_enter func237,ntmps237;go_wp2_with fail;refine(H.q _ ((G _ _).alloc (E _) _)).mono ?_;rintro e w1 ⟨rfl,hb1⟩;go_wp2_with fail;go_ret;exact⟨rfl,((G _ _).alloc (E _) _).trans (hb1.mono ak)⟩
theorem aeU (a:Option Addr) (n c f:K) (cap:Array Value) (cs:List Sn) (p:Sn→Bool) (w:u) (hr:Row w 3 bV a n c cs)
  (eg:∀args w,(S f args).run j w= .ok (.enter f args) w) (hp:lW j f cap vV p cs w):
  Calls j 201 #[.slice a n c,.func (.func f) #[] cap] w (aW (N (cs.all p)) w):=by
 have HB:V w.heap.size w (w.alloc (.cells #[.func (.func f) #[] cap] 251)):=(G _ _).alloc (E _) _;have HC:=aa5 a n c 237 #[U (d ⟨w.heap.size,0,O⟩)] cs (fun x=>!p x) _ (hr.below HB rfl) call237
  (fun x hx W hW=>aeT x f cap p w.heap.size W (by rw[hW.cell (p:=⟨w.heap.size,0,O⟩) ak];simp) eg
   (fun W' hW'=>hp x hx W' (HB.trans ((hW.mono ak).trans (hW'.mono (by have:=hW.size;simp at this;omega))))))
 have H:=hid HC;have nu:=hid HB;clear HC HB hp hr;go_enter func201,ntmps201
 go_wp2_with (go_at_call 236;refine H.q.mono ?_;rintro e w1 ⟨rfl,hb1⟩)
 go_ret;refine⟨?_,nu.q.trans (hb1.mono ak)⟩;have e:cs.all p=!cs.any (fun x=>!p x):=by simp[L]
 rw[e];rfl
theorem lD {P:Program} {T:TypeId} {k by_:K} (h:(P.info? T).map (fun i=>(i.zero.map (·.cells.size),i.size,i.bytes))=d (d k,k,by_)):
  ∃i z,P.info? T=d i∧i.zero=d z∧i.size=k∧i.bytes=by_∧z.cells.size=k:=by
 cases hi:P.info? T with
 |none=>rw[hi] at h;cases h
 |some i=>
  rw[hi] at h;simp only[Option.map_some,Option.some.injEq,Prod.mk.injEq] at h;obtain⟨h1,h2,h3⟩:=h
  cases hz:i.zero with
  |none=>rw[hz] at h1;cases h1
  |some z=>rw[hz] at h1;exact⟨i,z,rfl,hz,h2,h3,by simpa using h1⟩
theorem aa7:(Tryz.prog.info? 65).map (fun i=>(i.zero.map (·.cells.size),i.size,i.bytes))=d (d 9,9,88):=au
theorem Mw:∃i z,Tryz.prog.info? 65=d i∧i.zero=d z∧i.size=9∧i.bytes=88∧z.cells.size=9:=lD aa7
theorem aa8:(Tryz.prog.info? 76).map (fun i=>(i.zero.map (·.cells.size),i.size,i.bytes))=d (d 2,2,24):=au
theorem Mx:∃i z,Tryz.prog.info? 76=d i∧i.zero=d z∧i.size=2∧i.bytes=24∧z.cells.size=2:=lD aa8
theorem YP:(Tryz.prog.info? 9).map (fun i=>(i.zero.map (·.cells.size),i.size,i.bytes))=d (d 1,1,16):=au
theorem oZ:∃i z,Tryz.prog.info? 9=d i∧i.zero=d z∧i.size=1∧i.bytes=16∧z.cells.size=1:=lD YP
theorem YQ:(Tryz.prog.info? 3).map (fun i=>(i.zero.map (·.cells.size),i.size,i.bytes))=d (d 1,1,8):=au
theorem zF:∃i z,Tryz.prog.info? 3=d i∧i.zero=d z∧i.size=1∧i.bytes=8∧z.cells.size=1:=lD YQ
theorem aa9:(Tryz.prog.info? 79).map (fun i=>(i.zero.map (·.cells.size),i.size,i.bytes))=d (d 2,2,32):=au
theorem MB:∃i z,Tryz.prog.info? 79=d i∧i.zero=d z∧i.size=2∧i.bytes=32∧z.cells.size=2:=lD aa9
theorem aa':(Tryz.prog.info? 81).map (fun i=>(i.zero.map (·.cells.size),i.size,i.bytes))=d (d 4,4,48):=au
theorem MC:∃i z,Tryz.prog.info? 81=d i∧i.zero=d z∧i.size=4∧i.bytes=48∧z.cells.size=4:=lD aa'
theorem abb:(Tryz.prog.info? 83).map (fun i=>(i.zero.map (·.cells.size),i.size,i.bytes))=d (d 2,2,16):=au
theorem MF:∃i z,Tryz.prog.info? 83=d i∧i.zero=d z∧i.size=2∧i.bytes=16∧z.cells.size=2:=lD abb
theorem abd:(Tryz.prog.info? 148).map (fun i=>(i.zero.map (·.cells.size),i.size,i.bytes))=d (d 3,3,24):=au
theorem Fz:∃i z,Tryz.prog.info? 148=d i∧i.zero=d z∧i.size=3∧i.bytes=24∧z.cells.size=3:=lD abd
theorem abe:(Tryz.prog.info? 34).map (fun i=>(i.zero.map (·.cells.size),i.size,i.bytes))=d (d 6,6,80):=au
theorem MG:∃i z,Tryz.prog.info? 34=d i∧i.zero=d z∧i.size=6∧i.bytes=80∧z.cells.size=6:=lD abe
end Yd
namespace Yd
open List renaming flatMap_cons→C,getElem?_eq_some_iff→F,getElem?_append_left→G,length_append→I
open Option renaming some→d
open Go Go.RowKit
open Go renaming Value→p,World→A,TypeId→H
open Go.Value renaming slice→f
open Value renaming slice→l
theorem dW (w:A) (o:Obj):(w.alloc o).heap[w.heap.size]?=d o:=by
 show(w.heap.push o)[w.heap.size]?=d o;simp
def Own {α:Type} (w:A) (B:Nat) (E:H) (k:Nat) (enc:α→List p) (v:p) (xs:List α):Prop:=
 w.ownsRow B E k v xs.length (xs.flatMap enc)
class Cells {α:Type} (enc:α→List p) (k:Nat):Prop where
 len:∀x,(enc x).length=k
 pos:0<k
 one:∀x,∀u∈enc x,u.oneCell'=true
instance eG:Cells aQ 1:=⟨fun _=>rfl,by decide,fun x u h=>by simp[aQ] at h;subst h;rfl⟩
instance iM:Cells encStr 1:=⟨fun _=>rfl,by decide,fun x u h=>by simp[encStr] at h;subst h;rfl⟩
instance kV:Cells bV 3:=⟨fun _=>rfl,by decide,fun x u h=>by simp[bV] at h;rcases h with rfl|rfl|rfl <;> rfl⟩
instance qE:Cells eu 2:=⟨fun _=>rfl,by decide,fun x u h=>by simp[eu] at h;rcases h with rfl|rfl <;> rfl⟩
instance yP:Cells j3 2:=⟨fun _=>rfl,by decide,fun x u h=>by simp[j3] at h;rcases h with rfl|rfl <;> rfl⟩
instance pI:Cells dD 2:=⟨fun _=>rfl,by decide,fun x u h=>by simp[dD] at h;rcases h with rfl|rfl <;> rfl⟩
instance ny:Cells dx 4:=⟨fun _=>rfl,by decide,fun x u h=>by simp[dx] at h;rcases h with rfl|rfl|rfl|rfl <;> rfl⟩
instance uT:Cells mU 6:=⟨fun _=>rfl,by decide,fun x u h=>by simp[mU] at h;rcases h with rfl|rfl|rfl|rfl|rfl|rfl <;> rfl⟩
instance qF:Cells cZ 9:=⟨fun _=>rfl,by decide,fun x u h=>by simp[cZ] at h;rcases h with rfl|rfl|rfl|rfl|rfl|rfl|rfl|rfl|rfl <;> rfl⟩
section
variable {α:Type} {enc:α→List p} {k:Nat}
theorem ug [hc:Cells enc k] (xs:List α):(xs.flatMap enc).length=xs.length*k:=by
 induction xs with
 |nil=>simp
 |cons x xs ih=>simp[C,ih,hc.len x,Nat.add_mul,Nat.add_comm]
theorem flat_get [hc:Cells enc k] (xs:List α):∀(i:Nat) (x:α) (j:Nat) (v:p),xs[i]?=d x→(enc x)[j]?=d v→(xs.flatMap enc)[i*k+j]?=d v:=by
 induction xs with
 |nil=>intro i x j v h;simp at h
 |cons y ys ih=>
  intro i x j v hx hv;have hj:j<k:=by
   have:=(F.1 hv).1;rw[hc.len x] at this;exact this
  rw[C]
  cases i with
  |zero=>
   have e:y=x:=by simpa using hx
   subst e;rw[Nat.zero_mul,Nat.zero_add,G (by rw[hc.len y];exact hj)];exact hv
  |succ i=>
   rw[List.getElem?_append_right (by rw[hc.len y,Nat.succ_mul];omega),hc.len y,show(i+1)*k+j - k=i*k+j by rw[Nat.succ_mul];omega];exact ih i x j v (by simpa using hx) hv
theorem Ul [hc:Cells enc k] (xs:List α):∀(q:Nat) (v:p),(xs.flatMap enc)[q]?=d v→∃i x j,xs[i]?=d x∧(enc x)[j]?=d v∧q=i*k+j:=by
 induction xs with
 |nil=>intro q v h;simp at h
 |cons y ys ih=>
  intro q v h;rw[C] at h;rcases Nat.lt_or_ge q k with hq|hq
  ·rw[G (by rw[hc.len y];exact hq)] at h
   exact⟨0,y,q,rfl,h,by omega⟩
  ·rw[List.getElem?_append_right (by rw[hc.len y];exact hq),hc.len y] at h
   obtain⟨i,x,j,hx,hv,he⟩:=ih _ _ h;exact⟨i+1,x,j,by simpa using hx,hv,by rw[Nat.succ_mul];omega⟩
theorem Um [hc:Cells enc k] (xs:List α):∀u∈xs.flatMap enc,u.oneCell'=true:=by
 intro u hu;obtain⟨x,_,h⟩:=List.mem_flatMap.1 hu;exact hc.one x u h
variable {w w':A} {B:Nat} {E:H} {v:p} {xs:List α}
theorem Own.iE (w:A) (B:Nat) (E:H) (k:Nat) (enc:α→List p):Own w B E k enc (f none 0 0) []:=World.ownsRow_nil w B E k
theorem Own.shape (h:Own w B E k enc v xs):∃a c,v= f a xs.length c∧(a=none→c=0)∧xs.length≤c:=by
 rcases h.2 with⟨rfl,h0⟩|⟨g,cap,cur,rfl,_,_,hn,_⟩
 ·exact⟨none,0,by rw[h0],fun _=>rfl,by omega⟩
 ·exact⟨_,cap,rfl,(fun h=>by cases h),hn⟩
theorem Own.row [hc:Cells enc k] {a:Option Addr} {n c:Nat} (h:Own w B E k enc (f a n c) xs) (hle:xs.length≤140737488355328):Row w k enc a n c xs:=by
 obtain⟨h1,h2⟩:=h;rcases h2 with⟨he,h0⟩|⟨g,cap,cur,he,_,hh,hn,_,hs,ht⟩
 ·injection he with e1 e2 e3
  subst e1 e2 e3;have hx:xs=[]:=List.eq_nil_of_length_eq_zero h0;subst hx;exact Row.iE
 ·injection he with e1 e2 e3
  subst e1 e2 e3;refine⟨rfl,hn,hle,(fun h=>by cases h),fun i x hx=>⟨g,0,rfl,fun j v hv=>?_⟩⟩;have hf:=flat_get (hc:=hc) xs i x j v hx hv;have hlt:i*k+j<xs.length*k:=by rw[←h1];exact(F.1 hf).1
  rw[←ht,List.getElem?_take,if_pos hlt] at hf;simp only[Nat.zero_add];unfold World.cell?;simp[hh]
  simpa using hf
theorem Own.lt (h:Own w B E k enc v xs):∀g,v.ownBlock=d g→B≤g∧g<w.heap.size:=World.ownsRow.lt h
theorem Own.alloc (h:Own w B E k enc v xs) (o:Obj):Own (w.alloc o) B E k enc v xs:=World.ownsRow.alloc h o
theorem Own.drew (h:Own w B E k enc v xs):Own w.drew B E k enc v xs:=h
theorem Own.block (h:Own w B E k enc v xs) (hk:∀g,v.ownBlock=d g→w'.heap[g]?=w.heap[g]?):Own w' B E k enc v xs:=by
 obtain⟨h1,h2⟩:=h;refine⟨h1,?_⟩;rcases h2 with h2|⟨g,cap,cur,rfl,hB,hh,r⟩
 ·exact .inl h2
 ·exact .inr ⟨g,cap,cur,rfl,hB,by rw[hk g rfl];exact hh,r⟩
theorem Own.below {D:Nat} (h:Own w B E k enc v xs) (hb:Below D w w') (hD:D=w.heap.size):Own w' B E k enc v xs:=
 h.block fun g hg=>hb.block g (by rw[hD];exact(h.lt g hg).2)
theorem Own.mono {B':Nat} (h:Own w B E k enc v xs) (hB:B'≤B):Own w B' E k enc v xs:=by
 obtain⟨h1,h2⟩:=h;refine⟨h1,?_⟩;rcases h2 with h2|⟨g,cap,cur,rfl,hB',r⟩
 ·exact .inl h2
 ·exact .inr ⟨g,cap,cur,rfl,by omega,r⟩
theorem Own.new (w:A) (B:Nat) (E:H) [hc:Cells enc k] (cs:Array p) (xs:List α) (hB:B≤w.heap.size) (he:cs.toList=xs.flatMap enc) (hle:xs.length≤maxLen):
  Own (w.alloc (.cells cs E)) B E k enc (f (d ⟨w.heap.size,0,none⟩) xs.length xs.length) xs:=by
 have hs:cs.size=xs.length*k:=by rw[←Array.length_toList,he,ug (hc:=hc)]
 refine⟨ug xs,.inr ⟨w.heap.size,xs.length,cs,rfl,hB,dW w _,Nat.le_refl _,hle,hs,?_⟩⟩;rw[List.take_of_length_le (by rw[Array.length_toList,hs];exact Nat.le_refl _),he]
theorem YR [hc:Cells enc k] {P:Program} (t ty:H) (i:TypeInfo) (z:p) (bytes:Nat) (ht:P.underlying t=d (.slice E)) (hi:P.info? E=d i) (hz:i.zero=d z)
  (hsize:i.size=k) (hby:i.bytes=bytes) (hzs:z.cells.size=k) (hown:Own w B E k enc v xs)
  {a:Option Addr} {m c:Nat} {ys:List α} (hr:Row w k enc a m c ys) (hbytes:(xs.length+m)*bytes≤140737488355328) (h63:xs.length+m≤maxLen) (hbase:B≤w.heap.size):
  ∃a' c' w',(Builtin.append_ #[t,t] ty #[v,f a m c]).run P w= .ok (f a' (xs++ys).length c') w'∧Own w' B E k enc (f a' (xs++ys).length c') (xs++ys)∧w.grownBy w' v.ownBlock∧
   ((l a' (xs++ys).length c').ownBlock=v.ownBlock∨(l a' (xs++ys).length c').ownBlock=d w.heap.size):=by
 cases a with
 |none=>
  obtain⟨rfl,rfl,rfl⟩:=hr.none_;obtain⟨a,c,rfl,_,_⟩:=hown.shape;refine⟨a,c,w,?_,?_,World.grownBy.refl w _,.inl ?_⟩
  ·simpa using run_append_owned_none (P:=P) (w:=w) B t ty E i k ht hi _ _ _ hown
  ·simpa using hown
  ·rw[List.append_nil]
 |some ad=>
  have hm:ys.length=m:=hr.len;have hcells:∀j u,(ys.flatMap enc)[j]?=d u→w.cell? (ad.add j)=d u:=by
   intro j u hu;obtain⟨i',x,j',hx,hv,he⟩:=Ul (hc:=hc) ys j u hu;obtain⟨b,o,ha,hcell⟩:=hr.2.2.2.2 i' x hx;injection ha with ha;subst ha;have h:=hcell j' u hv;rw[he];unfold Addr.add
   split
   ·rename_i h0
    rw[show o+i'*k+j'=o by omega] at h;exact h
   ·rw[←Nat.add_assoc];exact h
  obtain⟨v',w',hrun,h1,h2,_,h4⟩:=run_append_own_at (P:=P) w B t ty E i z k bytes ht hi hz hsize hby hzs hc.pos v xs.length (xs.flatMap enc) hown ad m c (ys.flatMap enc) (by rw[ug (hc:=hc),hm]) hcells (Um (hc:=hc) ys) h63 hbytes hbase;have hown':Own w' B E k enc v' (xs++ys):=by
   unfold Own;rw[List.flatMap_append,I,hm];exact h1
  obtain⟨a',c',rfl,_,_⟩:=hown'.shape;exact⟨a',c',w',hrun,hown',h2,h4⟩
theorem nk [hc:Cells enc k] {P:Program} {o:Oper} {ac:Act} {K:Act→A→Prop} {Q:Exit→Act→A→Prop} (s x:Operand) (t:H)
  (ho:o.op= .call {callee:= .builtin .append,args:=#[s,x],argTypes:=#[t,t]}) (i:TypeInfo) (z:p) (bytes:Nat) (ht:P.underlying t=d (.slice E)) (hi:P.info? E=d i) (hz:i.zero=d z)
  (hsize:i.size=k) (hby:i.bytes=bytes) (hzs:z.cells.size=k) (hs:ac.eval s=v) (hown:Own w B E k enc v xs)
  (a:Option Addr) (m c N:Nat) (ys:List α) (hx:ac.eval x= f a m c) (hr:Row w k enc a m c ys) (hN:xs.length+m=N) (hbytes:N*bytes≤140737488355328) (h63:N≤maxLen) (hbase:B≤w.heap.size)
  (h:∀a' c' w',Own w' B E k enc (f a' N c') (xs++ys)→w.grownBy w' v.ownBlock→((l a' N c').ownBlock=v.ownBlock∨(l a' N c').ownBlock=d w.heap.size)→K (ac.put o.dst (f a' N c')) w'):o.wp P ac w K Q:=by
 subst hN;obtain⟨a',c',w',hrun,h2,h3,h4⟩:=YR (P:=P) t o.type i z bytes ht hi hz hsize hby hzs hown hr hbytes h63 hbase;have hl:(xs++ys).length=xs.length+m:=by rw[I,hr.len]
 rw[hl] at hrun h2 h4;unfold Oper.wp execOp;simp only[ho,resolve,invoke,builtin,Sem.run_bind,Sem.run_pure,Result.andThen_ok,List.map_toArray,List.map_cons,List.map_nil,hs,hx,hrun];exact h a' c' w' h2 h3 h4
theorem dV [hc:Cells enc k] {P:Program} {ops:Array Oper} {rest:List Oper} {o:Oper} {ac:Act} {Q:Exit→Act→A→Prop} (hgd:o.guard=none) (s x:Operand) (t:H)
  (ho:o.op= .call {callee:= .builtin .append,args:=#[s,x],argTypes:=#[t,t]}) (i:TypeInfo) (z:p) (bytes:Nat) (ht:P.underlying t=d (.slice E)) (hi:P.info? E=d i) (hz:i.zero=d z)
  (hsize:i.size=k) (hby:i.bytes=bytes) (hzs:z.cells.size=k) (hs:ac.eval s=v) (hown:Own w B E k enc v xs)
  (a:Option Addr) (m c N:Nat) (ys:List α) (hx:ac.eval x= f a m c) (hr:Row w k enc a m c ys) (hN:xs.length+m=N) (hbytes:N*bytes≤140737488355328) (h63:N≤maxLen) (hbase:B≤w.heap.size)
  (h:∀a' c' w',Own w' B E k enc (f a' N c') (xs++ys)→w.grownBy w' v.ownBlock→((l a' N c').ownBlock=v.ownBlock∨(l a' N c').ownBlock=d w.heap.size)→wpList P ops Q rest (ac.put o.dst (f a' N c')) w'):
  wpList P ops Q (o::rest) ac w:=
 wpList_plain hgd fun _ hK=>nk s x t ho i z bytes ht hi hz hsize hby hzs hs hown a m c N ys hx hr hN hbytes h63 hbase fun a' c' w' h2 h3 h4=>hK _ _ (h a' c' w' h2 h3 h4)
theorem below_app {D:Nat} {a0:A} (hb:Below D a0 w) (hown:Own w B E k enc v xs) (hD:D≤B) (hsz:D≤w.heap.size) (hg:w.grownBy w' v.ownBlock):Below D a0 w':=
 hb.grown hg hsz fun g e=>Nat.le_trans hD (hown.lt g e).1
def jk (E:H) (k:Nat) (enc:α→List p) (xs:List α) (w:A) (e:Ending) (w':A):Prop:=
 ∃a c,e= .returned (f a xs.length c)∧Own w' w.heap.size E k enc (f a xs.length c) xs∧Below w.heap.size w w'
end
end Yd
