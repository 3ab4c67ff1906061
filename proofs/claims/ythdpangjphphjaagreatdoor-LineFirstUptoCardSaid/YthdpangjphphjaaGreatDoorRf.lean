import Derived.WalkKit
import Derived.Deep.Draws
import Derived.Test.YthdpangjphphjaaGreatDoorProg
import Derived.Laws.StructEq
import Derived.BigQuiet
import Derived.RangeFuncNested
import Derived.RangeFuncCalls
import Derived.RangeFuncLeaves
import Derived.RangeFuncSeq
set_option maxRecDepth 200000
set_option maxHeartbeats 8000000
namespace Yd
open Go Go.RowKit

theorem hid {p : Prop} (h : p) : Hid p := h

def Ret (v : Value) (w : World) (e : Ending) (w' : World) : Prop := e = .returned v ∧ Below w.heap.size w w'

theorem cell_lt {w : World} {p : Addr} {v : Value} (h : w.cell? p = some v) : p.block < w.heap.size := by
 unfold World.cell? at h
 rcases Nat.lt_or_ge p.block w.heap.size with h1 | h1
 · exact h1
 · rw [Array.getElem?_eq_none h1] at h; cases h

theorem bget {B : Nat} {w w' : World} (hb : Below B w w') (hB : B = w.heap.size) {p : Addr} {v : Value} (h : w.cell? p = some v) : w'.cell? p = some v := by
 subst hB; exact (hb.cell (cell_lt h)).trans h

theorem belowN {B : Nat} {a w : World} (h : Below B a w) (n : Nat) : Below B a (w.drewN n) := ⟨h.os, h.tape, h.output, h.size, h.block⟩

theorem belowA {a w : World} (h : Below a.heap.size a w) (o : Obj) : Below a.heap.size a (w.alloc o) := h.alloc h.size o
def Row {α : Type} (w : World) (k : Nat) (enc : α → List Value) (a : Option Addr) (n c : Nat) (xs : List α) : Prop :=
 xs.length = n ∧ n ≤ c ∧ n ≤ 140737488355328 ∧ (a = none → c = 0) ∧ ∀ i x, xs[i]? = some x → ∃ b o, a = some ⟨b, o, none⟩ ∧ ∀ j v, (enc x)[j]? = some v → w.cell? ⟨b, o + i * k + j, none⟩ = some v

section
variable {α : Type} {w w' : World} {k : Nat} {enc : α → List Value} {a : Option Addr} {n c : Nat} {xs : List α}
theorem Row.ext (h : Row w k enc a n c xs) (hb : ∀ p v, w.cell? p = some v → w'.cell? p = some v) : Row w' k enc a n c xs :=
 ⟨h.1, h.2.1, h.2.2.1, h.2.2.2.1, fun i x hx => let ⟨b, o, ha, hc⟩ := h.2.2.2.2 i x hx; ⟨b, o, ha, fun j v hv => hb _ _ (hc j v hv)⟩⟩
theorem Row.below {B : Nat} (h : Row w k enc a n c xs) (hb : Below B w w') (hB : B = w.heap.size) : Row w' k enc a n c xs := h.ext fun _ _ => bget hb hB
theorem Row.le (h : Row w k enc a n c xs) : n ≤ 140737488355328 := h.2.2.1
theorem Row.len (h : Row w k enc a n c xs) : xs.length = n := h.1
theorem Row.cap (h : Row w k enc a n c xs) : n ≤ c := h.2.1
theorem Row.none_ (h : Row w k enc none n c xs) : c = 0 ∧ n = 0 ∧ xs = [] := by
 have h0 := h.2.2.2.1 rfl
 have h1 := h.2.1
 exact ⟨h0, by omega, List.eq_nil_of_length_eq_zero (by rw [h.1]; omega)⟩
theorem Row.at_ (h : Row w k enc a n c xs) {i : Nat} (hi : i < n) : ∃ x b o, xs[i]? = some x ∧ a = some ⟨b, o, none⟩ ∧ ∀ j v, (enc x)[j]? = some v → w.cell? ⟨b, o + i * k + j, none⟩ = some v := by
 have hl : i < xs.length := by rw [h.1]; exact hi
 obtain ⟨b, o, ha, hc⟩ := h.2.2.2.2 i xs[i] (List.getElem?_eq_getElem hl)
 exact ⟨xs[i], b, o, List.getElem?_eq_getElem hl, ha, hc⟩
theorem Row.nil_ : Row w k enc none 0 0 ([] : List α) := ⟨rfl, Nat.le_refl _, by decide, fun _ => rfl, fun i x h => by simp at h⟩
end

abbrev Bs := List UInt8

structure Ver where
 t : Int
 k : Int
 deriving DecidableEq, Inhabited

structure Sn where
 obj : Int
 v : Ver
 deriving DecidableEq, Inhabited
structure Wa where
 ses : Int
 bits : Int
 deriving DecidableEq, Inhabited
structure To where
 name : Bs
 k : Int
 deriving DecidableEq
structure EvC where
 kind : Int
 t : Int
 ses : Int
 lvl : Int
 obj : Int
 v : Ver
 pred : Int
 sa : Option Addr
 sn : Nat
 sc : Nat
structure OrC where
 obj : Int
 sa : Option Addr
 sn : Nat
 sc : Nat
structure MaC where
 pred : Int
 obj : Int
 first : Bool
 sa : Option Addr
 sn : Nat
 sc : Nat
structure LnC where
 kind : Int
 na : Option Addr
 nn : Nat
 nc : Nat
 lvl : Int
 va : Option Addr
 vn : Nat
 vc : Nat
 first : Bool
 bits : Int

def encInt (n : Int) : List Value := [.int .i64 n]
def encStr (s : Bs) : List Value := [.string ⟨s.toArray⟩]
@[reducible] def valStr (s : Bs) : Value := .string ⟨s.toArray⟩
def encSn (s : Sn) : List Value := [.int .i64 s.obj, .int .i64 s.v.t, .int .i64 s.v.k]
def encWa (s : Wa) : List Value := [.int .i64 s.ses, .int .i64 s.bits]
def encTo (s : To) : List Value := [.string ⟨s.name.toArray⟩, .int .i64 s.k]
@[reducible] def valTo (s : To) : Value := .agg #[.string ⟨s.name.toArray⟩, .int .i64 s.k]
def encEv (e : EvC) : List Value := [.int .i64 e.kind, .int .i64 e.t, .int .i64 e.ses, .int .i64 e.lvl, .int .i64 e.obj, .int .i64 e.v.t, .int .i64 e.v.k, .int .i64 e.pred, .slice e.sa e.sn e.sc]
def encOr (s : OrC) : List Value := [.int .i64 s.obj, .slice s.sa s.sn s.sc]
def encMa (s : MaC) : List Value := [.int .i64 s.pred, .int .i64 s.obj, .bool s.first, .slice s.sa s.sn s.sc]
def encLn (l : LnC) : List Value := [.int .i64 l.kind, .slice l.na l.nn l.nc, .int .i64 l.lvl, .slice l.va l.vn l.vc, .bool l.first, .int .i64 l.bits]
@[reducible] def valLn (l : LnC) : Value := .agg #[.int .i64 l.kind, .slice l.na l.nn l.nc, .int .i64 l.lvl, .slice l.va l.vn l.vc, .bool l.first, .int .i64 l.bits]

def Asks {α : Type} (P : Program) (f : Nat) (cap : Array Value) (val : α → Value) (p : α → Bool) (xs : List α) (w : World) : Prop :=
 ∀ x ∈ xs, ∀ W, Below w.heap.size w W → Calls P f (#[val x] ++ cap) W (Ret (.bool (p x)) W)

def idx {α : Type} (p : α → Bool) (xs : List α) : Int := match xs.findIdx? p with | some i => (i : Int) | none => -1

theorem idx_some {α : Type} {p : α → Bool} {xs : List α} {i : Nat} (h : xs.findIdx? p = some i) : idx p xs = i := by unfold idx; rw [h]
theorem idx_none {α : Type} {p : α → Bool} {xs : List α} (h : xs.findIdx? p = none) : idx p xs = -1 := by unfold idx; rw [h]
theorem idx_any {α : Type} (p : α → Bool) (xs : List α) : decide (0 ≤ idx p xs) = xs.any p := by
 cases h : xs.findIdx? p with
 | none =>
   rw [idx_none h]
   rw [List.findIdx?_eq_none_iff] at h
   symm; simp only [show decide ((0:Int) ≤ -1) = false from rfl, List.any_eq_false]
   intro x hx; simp [h x hx]
 | some i =>
   rw [idx_some h]
   rw [List.findIdx?_eq_some_iff_getElem] at h
   obtain ⟨hl, hp, _⟩ := h
   symm
   simp only [show decide ((0:Int) ≤ (i : Int)) = true by simp, List.any_eq_true]
   exact ⟨xs[i], List.getElem_mem hl, hp⟩

theorem findIdx?_take {α : Type} (p : α → Bool) (xs : List α) (i : Nat) (h : (xs.take i).findIdx? p = none) (x : α) (hx : xs[i]? = some x) (hp : p x = true) : xs.findIdx? p = some i := by
 rw [List.findIdx?_eq_some_iff_getElem]
 have hl : i < xs.length := by
   rcases Nat.lt_or_ge i xs.length with h' | h'
   · exact h'
   · rw [List.getElem?_eq_none h'] at hx; cases hx
 refine ⟨hl, ?_, ?_⟩
 · rw [List.getElem?_eq_getElem hl] at hx
   have e : xs[i] = x := Option.some.inj hx
   rw [e]; exact hp
 · intro j hj
   rw [List.findIdx?_eq_none_iff] at h
   have := h xs[j] (by
     rw [List.mem_iff_getElem?]
     exact ⟨j, by rw [List.getElem?_take, if_pos hj]; exact List.getElem?_eq_getElem (by omega)⟩)
   simpa using this
theorem findIdx?_snoc {α : Type} (p : α → Bool) (xs : List α) (i : Nat) (h : (xs.take i).findIdx? p = none) (x : α) (hx : xs[i]? = some x) (hp : p x = false) : (xs.take (i + 1)).findIdx? p = none := by
 rw [List.take_add_one, hx]
 simp [List.findIdx?_append, h, hp]
end Yd


namespace Yd
open Go Go.RowKit Go.Proofs
theorem eqInTo (x y : To) (w : World) : (Op.equalIn 10000 67 (valTo x) (valTo y)).run Tryz.prog w = .ok (decide (x = y)) w := by
 simp [valTo, go_sem]
 cases x; cases y; simp; (repeat' split) <;> simp_all
end Yd


namespace Yd
open Go Go.RowKit Go.Proofs

theorem idxTo (a : Option Addr) (n c f : Nat) (cap : Array Value) (cs : List To) (p : To → Bool) (w : World) (hr : Row w 2 encTo a n c cs)
   (eg : ∀ args w, (callFunc f args).run Tryz.prog w = .ok (.enter f args) w) (hp : Asks Tryz.prog f cap valTo p cs w) :
   Calls Tryz.prog 105 #[.slice a n c, .func (.func f) #[] cap] w (Ret (.int .i64 (idx p cs)) w) := by
 have hn := hr.le
 have H := hid hp; clear hp
 have HR := hid hr; clear hr
 go_enter Tryz.func105, Tryz.ntmps105
 go_wp2_with fail
 go_loopw [8] (fun i wr => ∃ k : Nat, k ≤ n ∧ i = .int .i64 k ∧ (cs.take k).findIdx? p = none ∧ Below w.heap.size w wr) (fun i _ => n - (RowKit.intOf i).toNat)
 case atStart => exact ⟨0, Nat.zero_le _, rfl, rfl, Below.refl _ _⟩
 case round =>
   obtain ⟨k, hk, rfl, hf, hb⟩ := hrel
   by_cases hlt : k < n
   · obtain ⟨x, b, o, hx, rfl, hc⟩ := HR.out.at_ hlt
     have h0 := bget hb rfl (hc 0 _ rfl)
     have h1 := bget hb rfl (hc 1 _ rfl)
     simp only [Nat.add_zero] at h0
     have hcall := H.out x (List.mem_of_getElem? hx) wr hb
     have HX := hid hx; have HF := hid hf
     clear hc hx hf
     cases hpx : p x
     all_goals
       rw [hpx] at hcall
       have HC := hid hcall; have HP := hid hpx
       clear hcall hpx
       go_wp2_with fail
       refine HC.out.mono ?_
       rintro e w1 ⟨rfl, hb1⟩
       go_wp2_with fail
     · go_roundw
       case rel => exact ⟨k + 1, by omega, by go_num, findIdx?_snoc p cs k HF.out x HX.out HP.out, hb.trans (hb1.mono hb.size)⟩
       case measure => simp [RowKit.intOf]; omega
     · go_ret
       refine ⟨?_, hb.trans (hb1.mono hb.size)⟩
       rw [idx_some (findIdx?_take p cs k HF.out x HX.out HP.out)]; rfl
   · have hkn : k = n := by omega
     have HF := hid hf; clear hf
     go_wp2_with fail
     go_ret
     refine ⟨?_, hb⟩
     have e : cs.take k = cs := List.take_of_length_le (by rw [HR.out.len]; omega)
     rw [idx_none (xs := cs) (by rw [← e]; exact HF.out)]; rfl

theorem idxStr (a : Option Addr) (n c f : Nat) (cap : Array Value) (cs : List Bs) (p : Bs → Bool) (w : World) (hr : Row w 1 encStr a n c cs)
   (eg : ∀ args w, (callFunc f args).run Tryz.prog w = .ok (.enter f args) w) (hp : Asks Tryz.prog f cap valStr p cs w) :
   Calls Tryz.prog 106 #[.slice a n c, .func (.func f) #[] cap] w (Ret (.int .i64 (idx p cs)) w) := by
 have hn := hr.le
 have H := hid hp; clear hp
 have HR := hid hr; clear hr
 go_enter Tryz.func106, Tryz.ntmps106
 go_wp2_with fail
 go_loopw [8] (fun i wr => ∃ k : Nat, k ≤ n ∧ i = .int .i64 k ∧ (cs.take k).findIdx? p = none ∧ Below w.heap.size w wr) (fun i _ => n - (RowKit.intOf i).toNat)
 case atStart => exact ⟨0, Nat.zero_le _, rfl, rfl, Below.refl _ _⟩
 case round =>
   obtain ⟨k, hk, rfl, hf, hb⟩ := hrel
   by_cases hlt : k < n
   · obtain ⟨x, b, o, hx, rfl, hc⟩ := HR.out.at_ hlt
     have h0 := bget hb rfl (hc 0 _ rfl)
     simp only [Nat.mul_one, Nat.add_zero] at h0
     have hcall := H.out x (List.mem_of_getElem? hx) wr hb
     have HX := hid hx; have HF := hid hf
     clear hc hx hf
     cases hpx : p x
     all_goals
       rw [hpx] at hcall
       have HC := hid hcall; have HP := hid hpx
       clear hcall hpx
       go_wp2_with fail
       refine HC.out.mono ?_
       rintro e w1 ⟨rfl, hb1⟩
       go_wp2_with fail
     · go_roundw
       case rel => exact ⟨k + 1, by omega, by go_num, findIdx?_snoc p cs k HF.out x HX.out HP.out, hb.trans (hb1.mono hb.size)⟩
       case measure => simp [RowKit.intOf]; omega
     · go_ret
       refine ⟨?_, hb.trans (hb1.mono hb.size)⟩
       rw [idx_some (findIdx?_take p cs k HF.out x HX.out HP.out)]; rfl
   · have hkn : k = n := by omega
     have HF := hid hf; clear hf
     go_wp2_with fail
     go_ret
     refine ⟨?_, hb⟩
     have e : cs.take k = cs := List.take_of_length_le (by rw [HR.out.len]; omega)
     rw [idx_none (xs := cs) (by rw [← e]; exact HF.out)]; rfl

theorem contTo (a : Option Addr) (n c f : Nat) (cap : Array Value) (cs : List To) (p : To → Bool) (w : World) (hr : Row w 2 encTo a n c cs)
   (eg : ∀ args w, (callFunc f args).run Tryz.prog w = .ok (.enter f args) w) (hp : Asks Tryz.prog f cap valTo p cs w) :
   Calls Tryz.prog 49 #[.slice a n c, .func (.func f) #[] cap] w (Ret (.bool (cs.any p)) w) := by
 have HC := idxTo a n c f cap cs p w hr eg hp
 have H := hid HC; clear HC hp hr
 go_enter Tryz.func49, Tryz.ntmps49
 go_wp2_with (go_at_call 105; refine H.out.mono ?_; rintro e w1 ⟨rfl, hb1⟩)
 go_ret
 exact ⟨by rw [← idx_any]; rfl, hb1⟩

theorem contStr (a : Option Addr) (n c f : Nat) (cap : Array Value) (cs : List Bs) (p : Bs → Bool) (w : World) (hr : Row w 1 encStr a n c cs)
   (eg : ∀ args w, (callFunc f args).run Tryz.prog w = .ok (.enter f args) w) (hp : Asks Tryz.prog f cap valStr p cs w) :
   Calls Tryz.prog 52 #[.slice a n c, .func (.func f) #[] cap] w (Ret (.bool (cs.any p)) w) := by
 have HC := idxStr a n c f cap cs p w hr eg hp
 have H := hid HC; clear HC hp hr
 go_enter Tryz.func52, Tryz.ntmps52
 go_wp2_with (go_at_call 106; refine H.out.mono ?_; rintro e w1 ⟨rfl, hb1⟩)
 go_ret
 exact ⟨by rw [← idx_any]; rfl, hb1⟩

end Yd


namespace Yd
open Go Go.RowKit
@[reducible] def Bx (W : World) (b : Nat) (cs : Array Value) : Prop := (∀ i, W.cell? ⟨b, i, none⟩ = cs[i]?) ∧ (∀ i, W.frozen? ⟨b, i, none⟩ = false) ∧ b < W.heap.size
theorem Bx.below {X w' : World} {b B : Nat} {cs : Array Value} (h : Bx X b cs) (hb : Below B X w') (hB : b < B) : Bx w' b cs :=
 ⟨fun i => (hb.cell (p := ⟨b, i, none⟩) hB).trans (h.1 i), fun i => (hb.frozen (p := ⟨b, i, none⟩) hB).trans (h.2.1 i), Nat.lt_of_lt_of_le h.2.2 hb.size⟩
theorem Bx.keep {X w' : World} {b : Nat} {cs : Array Value} (h : Bx X b cs) (hb : Below X.heap.size X w') : Bx w' b cs := h.below hb h.2.2
theorem Bx.drew {X : World} {b : Nat} {cs : Array Value} (h : Bx X b cs) : Bx X.drew b cs := h
theorem Bx.drewN {X : World} {b : Nat} {cs : Array Value} (h : Bx X b cs) (n : Nat) : Bx (X.drewN n) b cs := h
theorem Bx.alloc {X : World} {b : Nat} {cs : Array Value} (h : Bx X b cs) (o : Obj) : Bx (X.alloc o) b cs := h.keep ((Below.refl _ _).alloc (Nat.le_refl _) _)
theorem Bx.new (X : World) (cs : Array Value) (T : TypeId) : Bx (X.alloc (.cells cs T)) X.heap.size cs :=
 ⟨fun i => World.cell?_alloc_new X cs T i, fun i => by
   have h : (X.alloc (.cells cs T)).heap[X.heap.size]? = some (.cells cs T (0, 0)) := by show (X.heap.push _)[_]? = _; simp
   unfold World.frozen?
   simp only [h]
   simp, by simp⟩
theorem Bx.other {X : World} {b : Nat} {cs : Array Value} (h : Bx X b cs) {p : Addr} (hp : b ≠ p.block) (v : Value) : Bx (X.setCell p v) b cs := by
 have e := Below.heap_setCell X p v b hp
 refine ⟨fun i => (World.cell?_of_block (a := ⟨b, i, none⟩) e).trans (h.1 i), fun i => (World.frozen?_of_block (a := ⟨b, i, none⟩) e).trans (h.2.1 i), ?_⟩
 have := h.2.2
 simpa [World.setCell] using this
theorem keep2 {X w' : World} {a b : Nat} {c d : Array Value} (h : Bx X a c ∧ Bx X b d) (hb : Below X.heap.size X w') : Bx w' a c ∧ Bx w' b d := ⟨h.1.keep hb, h.2.keep hb⟩
theorem keep3 {X w' : World} {a b g : Nat} {c d e : Array Value} (h : Bx X a c ∧ Bx X b d ∧ Bx X g e) (hb : Below X.heap.size X w') : Bx w' a c ∧ Bx w' b d ∧ Bx w' g e := ⟨h.1.keep hb, keep2 h.2 hb⟩
@[reducible] def cellsTo (s : To) : Array Value := #[.string ⟨s.name.toArray⟩, .int .i64 s.k]
@[reducible] def cellsLn (l : LnC) : Array Value := #[.int .i64 l.kind, .slice l.na l.nn l.nc, .int .i64 l.lvl, .slice l.va l.vn l.vc, .bool l.first, .int .i64 l.bits]
def Ret2 (v u : Value) (w : World) (e : Ending) (w' : World) : Prop := e = .returned (.tuple #[v, u]) ∧ Below w.heap.size w w'
end Yd


namespace Yd
open Go Go.RowKit Go.Proofs

def KeepOn (D : Nat → Prop) (W W' : World) : Prop := W.heap.size ≤ W'.heap.size ∧ ∀ i, D i → i < W.heap.size → W'.heap[i]? = W.heap[i]?
theorem KeepOn.trans {D : Nat → Prop} {A B C : World} (h : KeepOn D A B) (k : KeepOn D B C) : KeepOn D A C :=
 ⟨Nat.le_trans h.1 k.1, fun i hi hl => (k.2 i hi (Nat.lt_of_lt_of_le hl h.1)).trans (h.2 i hi hl)⟩
theorem KeepOn.refl {D : Nat → Prop} (A : World) : KeepOn D A A := ⟨Nat.le_refl _, fun _ _ _ => rfl⟩
theorem KeepOn.mono {D D' : Nat → Prop} {A B : World} (h : KeepOn D A B) (hd : ∀ i, D' i → i < A.heap.size → D i) : KeepOn D' A B := ⟨h.1, fun i hi hl => h.2 i (hd i hi hl) hl⟩
theorem KeepOn.putObj {D : Nat → Prop} (A : World) {l : Nat} (o : Obj) (hl : ¬ D l) : KeepOn D A (A.putObj l o) :=
 ⟨Nat.le_of_eq World.putObj_size.symm, fun _i hi _ => World.putObj_heap_other (fun e => hl (e ▸ hi))⟩
theorem KeepOn.of_below {D : Nat → Prop} {B : Nat} {X Y : World} (h : Below B X Y) (hd : ∀ i, D i → i < X.heap.size → i < B) : KeepOn D X Y := ⟨h.size, fun i hi hl => h.block i (hd i hi hl)⟩

structure Same (A : Nat → Prop) (X Y : World) : Prop where
 os : Y.os = X.os
 tape : Y.tape = X.tape
 output : Y.output = X.output
 size : X.heap.size ≤ Y.heap.size
 block : ∀ i, A i → i < X.heap.size → Y.heap[i]? = X.heap[i]?
theorem Same.of_below {A : Nat → Prop} {B : Nat} {X Y : World} (h : Below B X Y) (hd : ∀ i, A i → i < X.heap.size → i < B) : Same A X Y := ⟨h.os, h.tape, h.output, h.size, fun i hi hl => h.block i (hd i hi hl)⟩
theorem Same.mono {A A' : Nat → Prop} {X Y : World} (h : Same A X Y) (hd : ∀ i, A' i → i < X.heap.size → A i) : Same A' X Y := ⟨h.os, h.tape, h.output, h.size, fun i hi hl => h.block i (hd i hi hl) hl⟩
theorem Same.below {A : Nat → Prop} {B : Nat} {w X Y : World} (h : Below B w X) (k : Same A X Y) (hd : ∀ i, i < B → A i) (hB : B ≤ X.heap.size) : Below B w Y :=
 ⟨k.os.trans h.os, k.tape.trans h.tape, k.output.trans h.output, Nat.le_trans h.size k.size, fun i hi => (k.block i (hd i hi) (by omega)).trans (h.block i hi)⟩
theorem Same.bx {A : Nat → Prop} {X Y : World} {b : Nat} {cs : Array Value} (k : Same A X Y) (h : Bx X b cs) (ha : A b) : Bx Y b cs :=
 ⟨fun i => (World.cell?_of_block (a := ⟨b, i, none⟩) (k.block b ha h.2.2)).trans (h.1 i), fun i => (World.frozen?_of_block (a := ⟨b, i, none⟩) (k.block b ha h.2.2)).trans (h.2.1 i), Nat.lt_of_lt_of_le h.2.2 k.size⟩
theorem Same.putObj {A : Nat → Prop} (X : World) {l : Nat} (o : Obj) (hl : ¬ A l) : Same A X (X.putObj l o) :=
 ⟨rfl, rfl, rfl, Nat.le_of_eq World.putObj_size.symm, fun _i hi _ => World.putObj_heap_other (fun e => hl (e ▸ hi))⟩

def endsRound (l : Nat) (r : Loop) (R : Ending → World → Prop) : Exit → Act → World → Prop
 | .normal, _, W => W.heap[l]? = some (.loop { r with state := .busy }) ∧ R (.returned (.bool true)) (W.putObj l (.loop { r with state := .ready, pending := none }))
 | .ret, _, W => W.heap[l]? = some (.loop { r with state := .busy }) ∧ R (.returned (.bool false)) (W.putObj l (.loop { r with state := .done, pending := some .ret }))
 | .exit id, _, W => W.heap[l]? = some (.loop { r with state := .busy }) ∧ R (.returned (.bool false)) (W.putObj l (.loop { r with state := .done, pending := some (.exit id) }))
 | .goto t, _, W => W.heap[l]? = some (.loop { r with state := .busy }) ∧ R (.returned (.bool false)) (W.putObj l (.loop { r with state := .done, pending := some (.goto t) }))
 | .panic _, _, _ => False
 | .outgrown, _, _ => False

theorem yieldAt_of {F : Fence} {n : Nat} {P : Program} {l : Nat} {r : Loop} {args : Array Value} {W : World} {R : Ending → World → Prop}
   (hl : W.heap[l]? = some (.loop r)) (hr : r.state = .ready) (hF : F.fn r.fn) (hs : args.size = r.params.size)
   (h : r.assign.wpIn (F.inRound l) n P (Exit.then (fun a₁ W₁ => W₁.heap[l]? = some (.loop r) ∧ r.body.wpIn (F.inRound l) n P (endsRound l r R) a₁ (W₁.putObj l (.loop { r with state := .busy }))) (fun _ _ _ => False))
     { tmps := (r.params.zip args).foldl (fun t (p, v) => t.setIfInBounds p v) r.tmps, defers := [] } W) : YieldAt F n P l args W R := by
 refine ⟨r.fn, _, r.assign, r.body, run_yield hl hs, roundIn_of_wpIn hF ?_⟩
 refine wpIn_mono h ?_
 rintro e a₁ W₁ hp
 cases e with
 | normal =>
   obtain ⟨hl1, hb⟩ := hp
   refine ⟨_, run_beginRound hl1 hr, wpIn_mono hb ?_⟩
   rintro e a₂ W₂ hq
   cases e with
   | normal => exact ⟨_, _, run_endRound none hq.1, hq.2⟩
   | ret => exact ⟨_, _, run_endRound (some .ret) hq.1, hq.2⟩
   | exit id => exact ⟨_, _, run_endRound (some (.exit id)) hq.1, hq.2⟩
   | goto t => exact ⟨_, _, run_endRound (some (.goto t)) hq.1, hq.2⟩
   | panic _ => exact hq.elim
   | outgrown => exact hq.elim
 | _ => exact hp.elim

def Iter (P : Program) (gf : Nat) (lb : Array Value) {α : Type} (Rep : α → Array Value → World → Prop) (k : Nat) (D : Nat → Prop) (xs : List α) (W : World) : Prop :=
 ∀ (n l : Nat) (J Jx : List α → World → Prop),
   (∀ s X Y, J s X → Same (fun i => i < W.heap.size ∨ W.heap.size + k ≤ i) X Y → J s Y) →
   (∀ s X Y, Jx s X → Same (fun i => i < W.heap.size ∨ W.heap.size + k ≤ i) X Y → Jx s Y) →
   (∀ pre x args X, J pre X → pre ++ [x] <+: xs → Rep x args X → W.heap.size + k ≤ X.heap.size → ∀ m, YieldAt Fence.wide m P l args X fun e Y =>
     (e = .returned (.bool true) ∧ J (pre ++ [x]) Y ∧ KeepOn D X Y) ∨ (e = .returned (.bool false) ∧ Jx (pre ++ [x]) Y ∧ KeepOn D X Y)) →
   J [] W →
   CallsIn Fence.wide n P gf (#[.func (.yield l) #[] #[]] ++ lb) W fun e Y => ∃ v, e = .returned v ∧ (J xs Y ∨ ∃ pre, pre <+: xs ∧ Jx pre Y)

def roundPostY {α : Type} (l : Nat) (D : Nat → Prop) (I : List α → World → Prop) (Ix : Code → List α → World → Prop) (xs : List α) (X : World) : Exit → Act → World → Prop
 | .normal, _, Y => (Y.heap[l]? = X.heap[l]? ∧ Y.heap[l + 1]? = X.heap[l + 1]?) ∧ KeepOn D X Y ∧ I xs Y
 | .ret, _, Y => (Y.heap[l]? = X.heap[l]? ∧ Y.heap[l + 1]? = X.heap[l + 1]?) ∧ KeepOn D X Y ∧ Ix .ret xs Y
 | .exit id, _, Y => (Y.heap[l]? = X.heap[l]? ∧ Y.heap[l + 1]? = X.heap[l + 1]?) ∧ KeepOn D X Y ∧ Ix (.exit id) xs Y
 | .goto t, _, Y => (Y.heap[l]? = X.heap[l]? ∧ Y.heap[l + 1]? = X.heap[l + 1]?) ∧ KeepOn D X Y ∧ Ix (.goto t) xs Y
 | .panic _, _, _ => False
 | .outgrown, _, _ => False

theorem wpIn_iter {P : Program} {α : Type} {g : Operand} {ps : Array Tmp} {assign body : Code} {Q : Exit → Act → World → Prop} {a : Act} {w : World} {n : Nat}
   {gf : Nat} {lb : Array Value} (hg : a.eval g = .func (.func gf) #[] lb) (eg : ∀ args w, (callFunc gf args).run P w = .ok (.enter gf args) w)
   {Rep : α → Array Value → World → Prop} {k : Nat} {D : Nat → Prop} {xs : List α}
   (hseq : ∀ W, Below w.heap.size w W → W.heap.size = w.heap.size + 2 → Iter P gf lb Rep k D xs W)
   (hD : ¬ D (w.heap.size + 1)) (hps : ∀ x args X, Rep x args X → args.size = ps.size)
   (I : List α → World → Prop) (Ix : Code → List α → World → Prop)
   (hI : ∀ s X Y, I s X → Same (fun i => i < w.heap.size ∨ w.heap.size + 2 + k ≤ i) X Y → I s Y)
   (hIx : ∀ c s X Y, Ix c s X → Same (fun i => i < w.heap.size ∨ w.heap.size + 2 + k ≤ i) X Y → Ix c s Y)
   (h0 : I [] w)
   (hround : ∀ pre x args X, I pre X → pre ++ [x] <+: xs → Rep x args X → w.heap.size + 2 + k ≤ X.heap.size → ∀ m,
     assign.wpIn (Fence.wide.inRound (w.heap.size + 1)) m P (Exit.then (fun a₁ X₁ => Below X.heap.size X X₁ ∧ ∀ X₂ : World, Same (fun i => i ≠ w.heap.size + 1) X₁ X₂ →
         body.wpIn (Fence.wide.inRound (w.heap.size + 1)) m P (roundPostY w.heap.size D I Ix (pre ++ [x]) X₂) a₁ X₂) (fun _ _ _ => False))
       { tmps := (ps.zip args).foldl (fun t (p, v) => t.setIfInBounds p v) a.tmps, defers := [] } X)
   (hdone : ∀ X, I xs X → X.heap[w.heap.size]? = some (.deferred (some [])) → Q .normal { a with defers := { target := .collected w.heap.size, args := #[] } :: a.defers } X)
   (hstop : ∀ c pre X, pre <+: xs → Ix c pre X → X.heap[w.heap.size]? = some (.deferred (some [])) → c.wpIn Fence.wide n P Q { a with defers := { target := .collected w.heap.size, args := #[] } :: a.defers } X) :
   (Code.rangeFunc g ps assign body).wpIn Fence.wide n P Q a w := by
 refine wpIn_rangeFunc ?_
 intro fn hfn
 obtain ⟨r, hr⟩ : ∃ r : Loop, r = { state := .ready, pending := none, fn, tmps := a.tmps, params := ps, assign, body, defers := w.heap.size } := ⟨_, rfl⟩
 obtain ⟨W1, hW1⟩ : ∃ W1, (w.alloc (.deferred (some []))).alloc (.loop r) = W1 := ⟨_, rfl⟩
 have hs1 : W1.heap.size = w.heap.size + 2 := by rw [← hW1]; simp
 have hL1 : W1.heap[w.heap.size + 1]? = some (.loop r) := by
   rw [← hW1]; have := World.alloc_heap_new (w.alloc (.deferred (some []))) (.loop r); rwa [World.size_alloc] at this
 have hK1 : W1.heap[w.heap.size]? = some (.deferred (some [])) := by
   rw [← hW1]; exact (Below.heap_alloc _ _ _ (by simp)).trans (World.alloc_heap_new w _)
 have hb1 : Below w.heap.size w W1 := by rw [← hW1]; exact ((Below.refl _ w).alloc (Nat.le_refl _) _).alloc (by simp) _
 have hI1 : I [] W1 := hI _ _ _ h0 (.of_below hb1 (fun i _ hi => hi))
 refine ⟨w.heap.size + 1, [{ target := .collected w.heap.size, args := #[] }], W1, { target := .fn (.func gf) lb, args := #[.func (.yield (w.heap.size + 1)) #[] #[]] }, W1, gf,
   #[.func (.yield (w.heap.size + 1)) #[] #[]] ++ lb, W1, ?_, ?_, fun _ _ => trivial, ?_, fun h => (by cases h), ?_⟩
 · rw [← hW1, hr]; exact run_enterLoop_outer _ _ _ _ _
 · simp only [resolve, hg]
   simp [go_sem]
 · simp [invoke, go_sem, eg]
 have hput : ∀ (s : List α) (X : World) (o : Obj), I s X → I s (X.putObj (w.heap.size + 1) o) := fun s X o h => hI s _ _ h (.putObj X o (by omega))
 have hputx : ∀ (c : Code) (s : List α) (X : World) (o : Obj), Ix c s X → Ix c s (X.putObj (w.heap.size + 1) o) := fun c s X o h => hIx c s _ _ h (.putObj X o (by omega))
 refine (hseq W1 hb1 hs1 (n - 1) (w.heap.size + 1)
   (fun pre X => I pre X ∧ X.heap[w.heap.size + 1]? = some (.loop r) ∧ X.heap[w.heap.size]? = some (.deferred (some [])))
   (fun pre X => ∃ c, Ix c pre X ∧ X.heap[w.heap.size + 1]? = some (.loop { r with state := .done, pending := some c }) ∧ X.heap[w.heap.size]? = some (.deferred (some [])))
   ?_ ?_ ?_ ⟨hI1, hL1, hK1⟩).mono ?_
 · rintro s X Y ⟨h1, h2, h3⟩ hsame
   have e2 := (Array.getElem?_eq_some_iff.1 h2).1
   exact ⟨hI s X Y h1 (hsame.mono (fun i hi hl => by omega)), (hsame.block _ (by omega) e2).trans h2, (hsame.block _ (by omega) (by omega)).trans h3⟩
 · rintro s X Y ⟨c, h1, h2, h3⟩ hsame
   have e2 := (Array.getElem?_eq_some_iff.1 h2).1
   exact ⟨c, hIx c s X Y h1 (hsame.mono (fun i hi hl => by omega)), (hsame.block _ (by omega) e2).trans h2, (hsame.block _ (by omega) (by omega)).trans h3⟩
 · rintro pre x args X ⟨hi, hl, hk⟩ hpx hrep hsz m
   have hra : r.assign = assign := by rw [hr]
   have hrb : r.body = body := by rw [hr]
   have hrp : r.params = ps := by rw [hr]
   have hrt : r.tmps = a.tmps := by rw [hr]
   have hrs : r.state = .ready := by rw [hr]
   have hrn : r.pending = none := by rw [hr]
   have hrr : ({ r with state := .ready, pending := none } : Loop) = r := by rw [hr]
   refine yieldAt_of hl hrs trivial (by rw [hrp]; exact hps x args X hrep) ?_
   have hR := hround pre x args X hi hpx hrep (by omega) m
   rw [← hra, ← hrb, ← hrp, ← hrt] at hR
   refine wpIn_mono hR ?_
   rintro e a1 X1 hp
   cases e with
   | normal =>
     obtain ⟨hb, hbody⟩ := hp
     have hlX := (Array.getElem?_eq_some_iff.1 hl).1
     have hl1 : X1.heap[w.heap.size + 1]? = some (.loop r) := (hb.block _ (by omega)).trans hl
     have hk1 : X1.heap[w.heap.size]? = some (.deferred (some [])) := (hb.block _ (by omega)).trans hk
     have hlt1 := (Array.getElem?_eq_some_iff.1 hl1).1
     refine ⟨hl1, wpIn_mono (hbody _ (.putObj X1 _ (by omega))) ?_⟩
     have hl2 : (X1.putObj (w.heap.size + 1) (.loop { r with state := .busy })).heap[w.heap.size + 1]? = some (.loop { r with state := .busy }) := World.putObj_heap_same hlt1
     have hk2 : (X1.putObj (w.heap.size + 1) (.loop { r with state := .busy })).heap[w.heap.size]? = some (.deferred (some [])) := (World.putObj_heap_other (by omega)).trans hk1
     rintro e a3 X3 hq
     have fin : ∀ o, X3.heap[w.heap.size + 1]? = (X1.putObj (w.heap.size + 1) (.loop { r with state := .busy })).heap[w.heap.size + 1]? → (X3.putObj (w.heap.size + 1) o).heap[w.heap.size + 1]? = some o := fun o h =>
       World.putObj_heap_same ((Array.getElem?_eq_some_iff.1 (h.trans hl2)).1)
     have keep : ∀ o, KeepOn D (X1.putObj (w.heap.size + 1) (.loop { r with state := .busy })) X3 → KeepOn D X (X3.putObj (w.heap.size + 1) o) := fun o hC =>
       (KeepOn.of_below hb (fun i _ hi => hi)).trans (((KeepOn.putObj X1 _ hD).trans hC).trans (KeepOn.putObj X3 _ hD))
     cases e with
     | normal =>
       obtain ⟨⟨hA, hB⟩, hC, hE⟩ := hq
       refine ⟨hB.trans hl2, .inl ⟨rfl, ⟨hput _ _ _ hE, (fin _ hB).trans (by rw [hrr]), (World.putObj_heap_other (by omega)).trans (hA.trans hk2)⟩, ?_⟩⟩
       exact (KeepOn.of_below hb (fun i _ hi => hi)).trans (((KeepOn.putObj X1 _ hD).trans hC).trans (KeepOn.putObj X3 _ hD))
     | ret =>
       obtain ⟨⟨hA, hB⟩, hC, hE⟩ := hq
       exact ⟨hB.trans hl2, .inr ⟨rfl, ⟨.ret, hputx _ _ _ _ hE, fin _ hB, (World.putObj_heap_other (by omega)).trans (hA.trans hk2)⟩, keep _ hC⟩⟩
     | exit id =>
       obtain ⟨⟨hA, hB⟩, hC, hE⟩ := hq
       exact ⟨hB.trans hl2, .inr ⟨rfl, ⟨.exit id, hputx _ _ _ _ hE, fin _ hB, (World.putObj_heap_other (by omega)).trans (hA.trans hk2)⟩, keep _ hC⟩⟩
     | goto t =>
       obtain ⟨⟨hA, hB⟩, hC, hE⟩ := hq
       exact ⟨hB.trans hl2, .inr ⟨rfl, ⟨.goto t, hputx _ _ _ _ hE, fin _ hB, (World.putObj_heap_other (by omega)).trans (hA.trans hk2)⟩, keep _ hC⟩⟩
     | panic _ => exact hq.elim
     | outgrown => exact hq.elim
   | _ => exact hp.elim
 · rintro e X2 ⟨v, rfl, (⟨hi, hl, hk⟩ | ⟨pre, hpre, c, hi, hl, hk⟩)⟩
   · exact ⟨none, _, by have := run_endLoop (P := P) hl (by rw [hr]; simp); rwa [hr] at this, hdone _ (hput _ _ _ hi) ((World.putObj_heap_other (by omega)).trans hk)⟩
   · exact ⟨some c, _, run_endLoop (P := P) hl (by simp), hstop c pre _ hpre (hputx _ _ _ _ hi) ((World.putObj_heap_other (by omega)).trans hk)⟩
end Yd
