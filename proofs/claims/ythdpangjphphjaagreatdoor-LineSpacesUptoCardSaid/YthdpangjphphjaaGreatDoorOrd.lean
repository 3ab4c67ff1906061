import Derived.WalkKit
import Derived.Deep.Draws
import Derived.Test.YthdpangjphphjaaGreatDoorProg
import Derived.Laws.StructEq
import Derived.BigQuiet
import Derived.OrdersHeld
import Derived.Still
import Derived.Tactics
import Derived.Tactics2
set_option maxRecDepth 200000
set_option maxHeartbeats 8000000
namespace Yd
open Go Go.RowKit

theorem hid {p : Prop} (h : p) : Hid p := h

def Ret (v : Value) (w : World) (e : Ending) (w' : World) : Prop := e = .returned v ∧ Below w.heap.size w w'

theorem cell_lt {w : World} {p : Addr} {v : Value} (h : w.cell? p = some v) : p.block < w.heap.size := by
 unfold World.cell? at h
 rcases Nat.lt_or_ge p.block w.heap.size with h1 | h1
 · exact h1
 · rw [Array.getElem?_eq_none h1] at h; cases h

theorem bget {B : Nat} {w w' : World} (hb : Below B w w') (hB : B = w.heap.size) {p : Addr} {v : Value} (h : w.cell? p = some v) : w'.cell? p = some v := by
 subst hB; exact (hb.cell (cell_lt h)).trans h

theorem belowN {B : Nat} {a w : World} (h : Below B a w) (n : Nat) : Below B a (w.drewN n) := ⟨h.os, h.tape, h.output, h.size, h.block⟩

def Row {α : Type} (w : World) (k : Nat) (enc : α → List Value) (a : Option Addr) (n c : Nat) (xs : List α) : Prop :=
 xs.length = n ∧ n ≤ c ∧ n ≤ 140737488355328 ∧ (a = none → c = 0) ∧ ∀ i x, xs[i]? = some x → ∃ b o, a = some ⟨b, o, none⟩ ∧ ∀ j v, (enc x)[j]? = some v → w.cell? ⟨b, o + i * k + j, none⟩ = some v

section
variable {α : Type} {w w' : World} {k : Nat} {enc : α → List Value} {a : Option Addr} {n c : Nat} {xs : List α}
theorem Row.ext (h : Row w k enc a n c xs) (hb : ∀ p v, w.cell? p = some v → w'.cell? p = some v) : Row w' k enc a n c xs :=
 ⟨h.1, h.2.1, h.2.2.1, h.2.2.2.1, fun i x hx => let ⟨b, o, ha, hc⟩ := h.2.2.2.2 i x hx; ⟨b, o, ha, fun j v hv => hb _ _ (hc j v hv)⟩⟩
theorem Row.below {B : Nat} (h : Row w k enc a n c xs) (hb : Below B w w') (hB : B = w.heap.size) : Row w' k enc a n c xs := h.ext fun _ _ => bget hb hB
theorem Row.le (h : Row w k enc a n c xs) : n ≤ 140737488355328 := h.2.2.1
theorem Row.len (h : Row w k enc a n c xs) : xs.length = n := h.1
theorem Row.cap (h : Row w k enc a n c xs) : n ≤ c := h.2.1
theorem Row.none_ (h : Row w k enc none n c xs) : c = 0 ∧ n = 0 ∧ xs = [] := by
 have h0 := h.2.2.2.1 rfl
 have h1 := h.2.1
 exact ⟨h0, by omega, List.eq_nil_of_length_eq_zero (by rw [h.1]; omega)⟩
theorem Row.at_ (h : Row w k enc a n c xs) {i : Nat} (hi : i < n) : ∃ x b o, xs[i]? = some x ∧ a = some ⟨b, o, none⟩ ∧ ∀ j v, (enc x)[j]? = some v → w.cell? ⟨b, o + i * k + j, none⟩ = some v := by
 have hl : i < xs.length := by rw [h.1]; exact hi
 obtain ⟨b, o, ha, hc⟩ := h.2.2.2.2 i xs[i] (List.getElem?_eq_getElem hl)
 exact ⟨xs[i], b, o, List.getElem?_eq_getElem hl, ha, hc⟩
theorem Row.nil_ : Row w k enc none 0 0 ([] : List α) := ⟨rfl, Nat.le_refl _, by decide, fun _ => rfl, fun i x h => by simp at h⟩
end

abbrev Bs := List UInt8

structure Ver where
 t : Int
 k : Int
 deriving DecidableEq, Inhabited

structure Sn where
 obj : Int
 v : Ver
 deriving DecidableEq, Inhabited
structure Wa where
 ses : Int
 bits : Int
 deriving DecidableEq, Inhabited
structure To where
 name : Bs
 k : Int
 deriving DecidableEq
structure EvC where
 kind : Int
 t : Int
 ses : Int
 lvl : Int
 obj : Int
 v : Ver
 pred : Int
 sa : Option Addr
 sn : Nat
 sc : Nat
structure OrC where
 obj : Int
 sa : Option Addr
 sn : Nat
 sc : Nat
structure MaC where
 pred : Int
 obj : Int
 first : Bool
 sa : Option Addr
 sn : Nat
 sc : Nat
structure LnC where
 kind : Int
 na : Option Addr
 nn : Nat
 nc : Nat
 lvl : Int
 va : Option Addr
 vn : Nat
 vc : Nat
 first : Bool
 bits : Int

def encInt (n : Int) : List Value := [.int .i64 n]
def encStr (s : Bs) : List Value := [.string ⟨s.toArray⟩]
@[reducible] def valStr (s : Bs) : Value := .string ⟨s.toArray⟩
def encSn (s : Sn) : List Value := [.int .i64 s.obj, .int .i64 s.v.t, .int .i64 s.v.k]
def encWa (s : Wa) : List Value := [.int .i64 s.ses, .int .i64 s.bits]
def encTo (s : To) : List Value := [.string ⟨s.name.toArray⟩, .int .i64 s.k]
@[reducible] def valTo (s : To) : Value := .agg #[.string ⟨s.name.toArray⟩, .int .i64 s.k]
def encEv (e : EvC) : List Value := [.int .i64 e.kind, .int .i64 e.t, .int .i64 e.ses, .int .i64 e.lvl, .int .i64 e.obj, .int .i64 e.v.t, .int .i64 e.v.k, .int .i64 e.pred, .slice e.sa e.sn e.sc]
def encOr (s : OrC) : List Value := [.int .i64 s.obj, .slice s.sa s.sn s.sc]
def encMa (s : MaC) : List Value := [.int .i64 s.pred, .int .i64 s.obj, .bool s.first, .slice s.sa s.sn s.sc]
def encLn (l : LnC) : List Value := [.int .i64 l.kind, .slice l.na l.nn l.nc, .int .i64 l.lvl, .slice l.va l.vn l.vc, .bool l.first, .int .i64 l.bits]
@[reducible] def valLn (l : LnC) : Value := .agg #[.int .i64 l.kind, .slice l.na l.nn l.nc, .int .i64 l.lvl, .slice l.va l.vn l.vc, .bool l.first, .int .i64 l.bits]

def Asks {α : Type} (P : Program) (f : Nat) (cap : Array Value) (val : α → Value) (p : α → Bool) (xs : List α) (w : World) : Prop :=
 ∀ x ∈ xs, ∀ W, Below w.heap.size w W → Calls P f (#[val x] ++ cap) W (Ret (.bool (p x)) W)

def idx {α : Type} (p : α → Bool) (xs : List α) : Int := match xs.findIdx? p with | some i => (i : Int) | none => -1

theorem idx_some {α : Type} {p : α → Bool} {xs : List α} {i : Nat} (h : xs.findIdx? p = some i) : idx p xs = i := by unfold idx; rw [h]
theorem idx_none {α : Type} {p : α → Bool} {xs : List α} (h : xs.findIdx? p = none) : idx p xs = -1 := by unfold idx; rw [h]
theorem idx_any {α : Type} (p : α → Bool) (xs : List α) : decide (0 ≤ idx p xs) = xs.any p := by
 cases h : xs.findIdx? p with
 | none =>
   rw [idx_none h]
   rw [List.findIdx?_eq_none_iff] at h
   symm; simp only [show decide ((0:Int) ≤ -1) = false from rfl, List.any_eq_false]
   intro x hx; simp [h x hx]
 | some i =>
   rw [idx_some h]
   rw [List.findIdx?_eq_some_iff_getElem] at h
   obtain ⟨hl, hp, _⟩ := h
   symm
   simp only [show decide ((0:Int) ≤ (i : Int)) = true by simp, List.any_eq_true]
   exact ⟨xs[i], List.getElem_mem hl, hp⟩

theorem findIdx?_take {α : Type} (p : α → Bool) (xs : List α) (i : Nat) (h : (xs.take i).findIdx? p = none) (x : α) (hx : xs[i]? = some x) (hp : p x = true) : xs.findIdx? p = some i := by
 rw [List.findIdx?_eq_some_iff_getElem]
 have hl : i < xs.length := by
   rcases Nat.lt_or_ge i xs.length with h' | h'
   · exact h'
   · rw [List.getElem?_eq_none h'] at hx; cases hx
 refine ⟨hl, ?_, ?_⟩
 · rw [List.getElem?_eq_getElem hl] at hx
   have e : xs[i] = x := Option.some.inj hx
   rw [e]; exact hp
 · intro j hj
   rw [List.findIdx?_eq_none_iff] at h
   have := h xs[j] (by
     rw [List.mem_iff_getElem?]
     exact ⟨j, by rw [List.getElem?_take, if_pos hj]; exact List.getElem?_eq_getElem (by omega)⟩)
   simpa using this
theorem findIdx?_snoc {α : Type} (p : α → Bool) (xs : List α) (i : Nat) (h : (xs.take i).findIdx? p = none) (x : α) (hx : xs[i]? = some x) (hp : p x = false) : (xs.take (i + 1)).findIdx? p = none := by
 rw [List.take_add_one, hx]
 simp [List.findIdx?_append, h, hp]
end Yd


namespace Yd
open Go Go.RowKit Go.Proofs
theorem eqInTo (x y : To) (w : World) : (Op.equalIn 10000 67 (valTo x) (valTo y)).run Tryz.prog w = .ok (decide (x = y)) w := by
 simp [valTo, go_sem]
 cases x; cases y; simp; (repeat' split) <;> simp_all
end Yd


namespace Yd
open Go Go.RowKit Go.Proofs

theorem idxTo (a : Option Addr) (n c f : Nat) (cap : Array Value) (cs : List To) (p : To → Bool) (w : World) (hr : Row w 2 encTo a n c cs)
   (eg : ∀ args w, (callFunc f args).run Tryz.prog w = .ok (.enter f args) w) (hp : Asks Tryz.prog f cap valTo p cs w) :
   Calls Tryz.prog 105 #[.slice a n c, .func (.func f) #[] cap] w (Ret (.int .i64 (idx p cs)) w) := by
 have hn := hr.le
 have H := hid hp; clear hp
 have HR := hid hr; clear hr
 go_enter Tryz.func105, Tryz.ntmps105
 go_wp2_with fail
 go_loopw [8] (fun i wr => ∃ k : Nat, k ≤ n ∧ i = .int .i64 k ∧ (cs.take k).findIdx? p = none ∧ Below w.heap.size w wr) (fun i _ => n - (RowKit.intOf i).toNat)
 case atStart => exact ⟨0, Nat.zero_le _, rfl, rfl, Below.refl _ _⟩
 case round =>
   obtain ⟨k, hk, rfl, hf, hb⟩ := hrel
   by_cases hlt : k < n
   · obtain ⟨x, b, o, hx, rfl, hc⟩ := HR.out.at_ hlt
     have h0 := bget hb rfl (hc 0 _ rfl)
     have h1 := bget hb rfl (hc 1 _ rfl)
     simp only [Nat.add_zero] at h0
     have hcall := H.out x (List.mem_of_getElem? hx) wr hb
     have HX := hid hx; have HF := hid hf
     clear hc hx hf
     cases hpx : p x
     all_goals
       rw [hpx] at hcall
       have HC := hid hcall; have HP := hid hpx
       clear hcall hpx
       go_wp2_with fail
       refine HC.out.mono ?_
       rintro e w1 ⟨rfl, hb1⟩
       go_wp2_with fail
     · go_roundw
       case rel => exact ⟨k + 1, by omega, by go_num, findIdx?_snoc p cs k HF.out x HX.out HP.out, hb.trans (hb1.mono hb.size)⟩
       case measure => simp [RowKit.intOf]; omega
     · go_ret
       refine ⟨?_, hb.trans (hb1.mono hb.size)⟩
       rw [idx_some (findIdx?_take p cs k HF.out x HX.out HP.out)]; rfl
   · have hkn : k = n := by omega
     have HF := hid hf; clear hf
     go_wp2_with fail
     go_ret
     refine ⟨?_, hb⟩
     have e : cs.take k = cs := List.take_of_length_le (by rw [HR.out.len]; omega)
     rw [idx_none (xs := cs) (by rw [← e]; exact HF.out)]; rfl

theorem idxStr (a : Option Addr) (n c f : Nat) (cap : Array Value) (cs : List Bs) (p : Bs → Bool) (w : World) (hr : Row w 1 encStr a n c cs)
   (eg : ∀ args w, (callFunc f args).run Tryz.prog w = .ok (.enter f args) w) (hp : Asks Tryz.prog f cap valStr p cs w) :
   Calls Tryz.prog 106 #[.slice a n c, .func (.func f) #[] cap] w (Ret (.int .i64 (idx p cs)) w) := by
 have hn := hr.le
 have H := hid hp; clear hp
 have HR := hid hr; clear hr
 go_enter Tryz.func106, Tryz.ntmps106
 go_wp2_with fail
 go_loopw [8] (fun i wr => ∃ k : Nat, k ≤ n ∧ i = .int .i64 k ∧ (cs.take k).findIdx? p = none ∧ Below w.heap.size w wr) (fun i _ => n - (RowKit.intOf i).toNat)
 case atStart => exact ⟨0, Nat.zero_le _, rfl, rfl, Below.refl _ _⟩
 case round =>
   obtain ⟨k, hk, rfl, hf, hb⟩ := hrel
   by_cases hlt : k < n
   · obtain ⟨x, b, o, hx, rfl, hc⟩ := HR.out.at_ hlt
     have h0 := bget hb rfl (hc 0 _ rfl)
     simp only [Nat.mul_one, Nat.add_zero] at h0
     have hcall := H.out x (List.mem_of_getElem? hx) wr hb
     have HX := hid hx; have HF := hid hf
     clear hc hx hf
     cases hpx : p x
     all_goals
       rw [hpx] at hcall
       have HC := hid hcall; have HP := hid hpx
       clear hcall hpx
       go_wp2_with fail
       refine HC.out.mono ?_
       rintro e w1 ⟨rfl, hb1⟩
       go_wp2_with fail
     · go_roundw
       case rel => exact ⟨k + 1, by omega, by go_num, findIdx?_snoc p cs k HF.out x HX.out HP.out, hb.trans (hb1.mono hb.size)⟩
       case measure => simp [RowKit.intOf]; omega
     · go_ret
       refine ⟨?_, hb.trans (hb1.mono hb.size)⟩
       rw [idx_some (findIdx?_take p cs k HF.out x HX.out HP.out)]; rfl
   · have hkn : k = n := by omega
     have HF := hid hf; clear hf
     go_wp2_with fail
     go_ret
     refine ⟨?_, hb⟩
     have e : cs.take k = cs := List.take_of_length_le (by rw [HR.out.len]; omega)
     rw [idx_none (xs := cs) (by rw [← e]; exact HF.out)]; rfl

theorem contTo (a : Option Addr) (n c f : Nat) (cap : Array Value) (cs : List To) (p : To → Bool) (w : World) (hr : Row w 2 encTo a n c cs)
   (eg : ∀ args w, (callFunc f args).run Tryz.prog w = .ok (.enter f args) w) (hp : Asks Tryz.prog f cap valTo p cs w) :
   Calls Tryz.prog 49 #[.slice a n c, .func (.func f) #[] cap] w (Ret (.bool (cs.any p)) w) := by
 have HC := idxTo a n c f cap cs p w hr eg hp
 have H := hid HC; clear HC hp hr
 go_enter Tryz.func49, Tryz.ntmps49
 go_wp2_with (go_at_call 105; refine H.out.mono ?_; rintro e w1 ⟨rfl, hb1⟩)
 go_ret
 exact ⟨by rw [← idx_any]; rfl, hb1⟩

theorem contStr (a : Option Addr) (n c f : Nat) (cap : Array Value) (cs : List Bs) (p : Bs → Bool) (w : World) (hr : Row w 1 encStr a n c cs)
   (eg : ∀ args w, (callFunc f args).run Tryz.prog w = .ok (.enter f args) w) (hp : Asks Tryz.prog f cap valStr p cs w) :
   Calls Tryz.prog 52 #[.slice a n c, .func (.func f) #[] cap] w (Ret (.bool (cs.any p)) w) := by
 have HC := idxStr a n c f cap cs p w hr eg hp
 have H := hid HC; clear HC hp hr
 go_enter Tryz.func52, Tryz.ntmps52
 go_wp2_with (go_at_call 106; refine H.out.mono ?_; rintro e w1 ⟨rfl, hb1⟩)
 go_ret
 exact ⟨by rw [← idx_any]; rfl, hb1⟩

end Yd


namespace Yd
open Go Go.RowKit Go.Proofs

end Yd


namespace Yd
open Go Go.RowKit
@[reducible] def Bx (W : World) (b : Nat) (cs : Array Value) : Prop := (∀ i, W.cell? ⟨b, i, none⟩ = cs[i]?) ∧ (∀ i, W.frozen? ⟨b, i, none⟩ = false) ∧ b < W.heap.size
theorem Bx.below {X w' : World} {b B : Nat} {cs : Array Value} (h : Bx X b cs) (hb : Below B X w') (hB : b < B) : Bx w' b cs :=
 ⟨fun i => (hb.cell (p := ⟨b, i, none⟩) hB).trans (h.1 i), fun i => (hb.frozen (p := ⟨b, i, none⟩) hB).trans (h.2.1 i), Nat.lt_of_lt_of_le h.2.2 hb.size⟩
theorem Bx.keep {X w' : World} {b : Nat} {cs : Array Value} (h : Bx X b cs) (hb : Below X.heap.size X w') : Bx w' b cs := h.below hb h.2.2
theorem Bx.drew {X : World} {b : Nat} {cs : Array Value} (h : Bx X b cs) : Bx X.drew b cs := h
theorem Bx.drewN {X : World} {b : Nat} {cs : Array Value} (h : Bx X b cs) (n : Nat) : Bx (X.drewN n) b cs := h
theorem Bx.alloc {X : World} {b : Nat} {cs : Array Value} (h : Bx X b cs) (o : Obj) : Bx (X.alloc o) b cs := h.keep ((Below.refl _ _).alloc (Nat.le_refl _) _)
theorem Bx.new (X : World) (cs : Array Value) (T : TypeId) : Bx (X.alloc (.cells cs T)) X.heap.size cs :=
 ⟨fun i => World.cell?_alloc_new X cs T i, fun i => by
   have h : (X.alloc (.cells cs T)).heap[X.heap.size]? = some (.cells cs T (0, 0)) := by show (X.heap.push _)[_]? = _; simp
   unfold World.frozen?
   simp only [h]
   simp, by simp⟩
theorem Bx.other {X : World} {b : Nat} {cs : Array Value} (h : Bx X b cs) {p : Addr} (hp : b ≠ p.block) (v : Value) : Bx (X.setCell p v) b cs := by
 have e := Below.heap_setCell X p v b hp
 refine ⟨fun i => (World.cell?_of_block (a := ⟨b, i, none⟩) e).trans (h.1 i), fun i => (World.frozen?_of_block (a := ⟨b, i, none⟩) e).trans (h.2.1 i), ?_⟩
 have := h.2.2
 simpa [World.setCell] using this
theorem keep2 {X w' : World} {a b : Nat} {c d : Array Value} (h : Bx X a c ∧ Bx X b d) (hb : Below X.heap.size X w') : Bx w' a c ∧ Bx w' b d := ⟨h.1.keep hb, h.2.keep hb⟩
theorem keep3 {X w' : World} {a b g : Nat} {c d e : Array Value} (h : Bx X a c ∧ Bx X b d ∧ Bx X g e) (hb : Below X.heap.size X w') : Bx w' a c ∧ Bx w' b d ∧ Bx w' g e := ⟨h.1.keep hb, keep2 h.2 hb⟩
@[reducible] def cellsTo (s : To) : Array Value := #[.string ⟨s.name.toArray⟩, .int .i64 s.k]
@[reducible] def cellsLn (l : LnC) : Array Value := #[.int .i64 l.kind, .slice l.na l.nn l.nc, .int .i64 l.lvl, .slice l.va l.vn l.vc, .bool l.first, .int .i64 l.bits]
def Ret2 (v u : Value) (w : World) (e : Ending) (w' : World) : Prop := e = .returned (.tuple #[v, u]) ∧ Below w.heap.size w w'
end Yd


namespace Yd
open Go Go.RowKit Go.Proofs

theorem eqStr (a a' : Option Addr) (n c n' c' : Nat) (xs ys : List Bs) (w : World) (hr : Row w 1 encStr a n c xs) (hr' : Row w 1 encStr a' n' c' ys) :
   Calls Tryz.prog 55 #[.slice a n c, .slice a' n' c'] w (Ret (.bool (decide (xs = ys))) w) := by
 have hn := hr.le
 have hn' := hr'.le
 have HR := hid hr; have HR' := hid hr'
 clear hr hr'
 by_cases hl : n = n'
 · subst hl
   clear hn'
   go_enter Tryz.func55, Tryz.ntmps55
   go_wp2_with fail
   go_loopw [13] (fun i wr => ∃ k : Nat, k ≤ n ∧ i = .int .i64 k ∧ xs.take k = ys.take k ∧ Below w.heap.size w wr) (fun i _ => n - (RowKit.intOf i).toNat)
   case atStart => exact ⟨0, Nat.zero_le _, rfl, rfl, Below.refl _ _⟩
   case round =>
     obtain ⟨k, hk, rfl, hf, hb⟩ := hrel
     have HF := hid hf; clear hf
     by_cases hlt : k < n
     · have hi1 : (0 : Int) ≤ (k : Int) := by omega
       have hi2 : (k : Int) < (n : Int) := by omega
       obtain ⟨x, b, o, hx, rfl, hc⟩ := HR.out.at_ hlt
       obtain ⟨y, b', o', hy, rfl, hc'⟩ := HR'.out.at_ hlt
       have h0 := bget hb rfl (hc 0 _ rfl)
       simp only [Nat.mul_one, Nat.add_zero] at h0
       have h'0 := bget hb rfl (hc' 0 _ rfl)
       simp only [Nat.mul_one, Nat.add_zero] at h'0
       have HX := hid hx; have HY := hid hy
       clear hc hc' hx hy
       by_cases he : x = y
       · subst he
         go_wp2_with fail
         go_quiet (fail)
         go_wp2_with fail
         refine ⟨⟨k + 1, by omega, by go_num, ?_, belowN hb _⟩, by simp [RowKit.intOf]; omega⟩
         rw [List.take_add_one, List.take_add_one, HF.out, HX.out, HY.out]
       · have ht : (x == y) = false := by simpa using he
         have HE := hid he; clear he
         go_wp2_with fail
         go_quiet (fail)
         go_wp2_with fail
         go_ret
         refine ⟨?_, belowN hb _⟩
         have hne : xs ≠ ys := fun e => HE.out (by have h1 := HX.out; have h2 := HY.out; rw [e, h2] at h1; exact (Option.some.inj h1).symm)
         rw [decide_eq_false hne]; rfl
     · have hkn : k = n := by omega
       go_wp2_with fail
       go_ret
       refine ⟨?_, hb⟩
       have e : xs = ys := by
         have h := HF.out
         rwa [List.take_of_length_le (by rw [HR.out.len]; omega), List.take_of_length_le (by rw [HR'.out.len]; omega)] at h
       rw [decide_eq_true e]; rfl
 · have hne : xs ≠ ys := fun e => hl (by rw [← HR.out.len, ← HR'.out.len, e])
   have hl' : ((n : Int) == (n' : Int)) = false := beq_eq_false_iff_ne.2 (by omega)
   have HN := hid hne
   clear hne hl
   go_enter Tryz.func55, Tryz.ntmps55
   go_wp2_with fail
   go_ret
   refine ⟨?_, Below.refl _ _⟩
   rw [decide_eq_false HN.out]; rfl

theorem eqTo (a a' : Option Addr) (n c n' c' : Nat) (xs ys : List To) (w : World) (hr : Row w 2 encTo a n c xs) (hr' : Row w 2 encTo a' n' c' ys) :
   Calls Tryz.prog 56 #[.slice a n c, .slice a' n' c'] w (Ret (.bool (decide (xs = ys))) w) := by
 have hn := hr.le
 have hn' := hr'.le
 have HR := hid hr; have HR' := hid hr'
 clear hr hr'
 by_cases hl : n = n'
 · subst hl
   clear hn'
   go_enter Tryz.func56, Tryz.ntmps56
   go_wp2_with fail
   go_loopw [13] (fun i wr => ∃ k : Nat, k ≤ n ∧ i = .int .i64 k ∧ xs.take k = ys.take k ∧ Below w.heap.size w wr) (fun i _ => n - (RowKit.intOf i).toNat)
   case atStart => exact ⟨0, Nat.zero_le _, rfl, rfl, Below.refl _ _⟩
   case round =>
     obtain ⟨k, hk, rfl, hf, hb⟩ := hrel
     have HF := hid hf; clear hf
     by_cases hlt : k < n
     · have hi1 : (0 : Int) ≤ (k : Int) := by omega
       have hi2 : (k : Int) < (n : Int) := by omega
       obtain ⟨x, b, o, hx, rfl, hc⟩ := HR.out.at_ hlt
       obtain ⟨y, b', o', hy, rfl, hc'⟩ := HR'.out.at_ hlt
       have h0 := bget hb rfl (hc 0 _ rfl)
       have h1 := bget hb rfl (hc 1 _ rfl)
       simp only [Nat.add_zero] at h0
       have h'0 := bget hb rfl (hc' 0 _ rfl)
       have h'1 := bget hb rfl (hc' 1 _ rfl)
       simp only [Nat.add_zero] at h'0
       have HX := hid hx; have HY := hid hy
       clear hc hc' hx hy
       by_cases he : x = y
       · subst he
         go_wp2_with fail
         go_quiet (fail)
         go_wp2_with fail
         refine ⟨⟨k + 1, by omega, by go_num, ?_, belowN hb _⟩, by simp [RowKit.intOf]; omega⟩
         rw [List.take_add_one, List.take_add_one, HF.out, HX.out, HY.out]
       · have ht := eqInTo x y; rw [decide_eq_false he] at ht
         have HE := hid he; clear he
         go_wp2_with fail
         go_quiet (fail)
         go_wp2_with fail
         go_ret
         refine ⟨?_, belowN hb _⟩
         have hne : xs ≠ ys := fun e => HE.out (by have h1 := HX.out; have h2 := HY.out; rw [e, h2] at h1; exact (Option.some.inj h1).symm)
         rw [decide_eq_false hne]; rfl
     · have hkn : k = n := by omega
       go_wp2_with fail
       go_ret
       refine ⟨?_, hb⟩
       have e : xs = ys := by
         have h := HF.out
         rwa [List.take_of_length_le (by rw [HR.out.len]; omega), List.take_of_length_le (by rw [HR'.out.len]; omega)] at h
       rw [decide_eq_true e]; rfl
 · have hne : xs ≠ ys := fun e => hl (by rw [← HR.out.len, ← HR'.out.len, e])
   have hl' : ((n : Int) == (n' : Int)) = false := beq_eq_false_iff_ne.2 (by omega)
   have HN := hid hne
   clear hne hl
   go_enter Tryz.func56, Tryz.ntmps56
   go_wp2_with fail
   go_ret
   refine ⟨?_, Below.refl _ _⟩
   rw [decide_eq_false HN.out]; rfl

end Yd


namespace Yd
open Go
section
variable {P : Program} {ops : Array Oper} {Q : Exit → Act → World → Prop} {md : Region.Mode} {S : World → Prop}

def wpOrd (P : Program) (ops : Array Oper) (Q : Exit → Act → World → Prop) (S : World → Prop) : List (Nat × Bool) → Act → World → Prop
 | [], a, w => Q .normal a w
 | (i, true) :: r, a, w => ∃ o v, ops[i]? = some o ∧ YieldsIf P ops S o v a ∧ wpOrd P ops Q S r (a.put o.dst v) w
 | (i, false) :: r, a, w => wpOp P ops Q i (fun a' w' => S w' ∧ wpOrd P ops Q S r a' w') a w

def okOrd (md : Region.Mode) (ops : Array Oper) : List (Nat × Bool) → Array Bool → Bool
 | [], listed => (Region.ready md ops listed).isEmpty
 | (i, true) :: r, listed => (Region.ready md ops listed).contains i && Region.free md ops listed i && okOrd md ops r (listed.setIfInBounds i true)
 | (i, false) :: r, listed => decide (Region.ready md ops listed = [i]) && okOrd md ops r (listed.setIfInBounds i true)

theorem wpAnyH_of_ord (hs : Region.noSelect ops = true) (hQ : ∀ d v c a w, Q (.panic c) (Act.put a d v) w → Q (.panic c) a w) :
   ∀ (l : List (Nat × Bool)) (listed : Array Bool) (a : Act) (w : World), okOrd md ops l listed = true → S w → wpOrd P ops Q S l a w → wpAnyH P md ops Q S l.length listed a w
 | [], listed, a, w, hB, _, h => ⟨by simpa [okOrd] using hB, h⟩
 | (i, true) :: r, listed, a, w, hB, hS, h => by
   simp only [okOrd, Bool.and_eq_true] at hB
   obtain ⟨⟨hr, hf⟩, hB'⟩ := hB
   obtain ⟨o, v, ho, hy, hn⟩ := h
   exact wpAnyH_first ho (Region.noSelect_spec hs) (fun c a w => hQ _ _ c a w) r.length listed a w (Region.free_spec ho hf) (by simpa using hr) hy hS
     (wpAnyH_of_ord hs hQ r _ _ _ hB' hS hn)
 | (i, false) :: r, listed, a, w, hB, hS, h => by
   simp only [okOrd, Bool.and_eq_true, decide_eq_true_eq] at hB
   obtain ⟨hr, hB'⟩ := hB
   refine ⟨fun h0 => (by rw [hr] at h0; cases h0), fun j hj => ?_⟩
   rw [hr] at hj
   obtain rfl : j = i := by simpa using hj
   exact wpOp_mono (fun a' w' hh => ⟨hh.1, wpAnyH_of_ord hs hQ r _ a' w' hB' hh.1 hh.2⟩) h

def opAt : List Oper → Nat → Option Oper
 | [], _ => none
 | o :: _, 0 => some o
 | _ :: l, i + 1 => opAt l i
theorem opAt_get : ∀ (l : List Oper) (i : Nat) (o : Oper), opAt l i = some o → l.toArray[i]? = some o
 | [], _, _, h => by cases h
 | x :: _, 0, o, h => by simpa [opAt] using h
 | _ :: l, i + 1, o, h => by have := opAt_get l i o h; simpa using this

variable {l : List Oper} {a : Act} {w : World} {r : List (Nat × Bool)} {i : Nat} {o : Oper}
end
end Yd
