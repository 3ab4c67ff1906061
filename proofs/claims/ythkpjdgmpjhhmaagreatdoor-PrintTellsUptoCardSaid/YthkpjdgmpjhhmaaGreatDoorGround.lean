import Derived.WalkKit
import Derived.Deep.Draws
import Derived.Test.YthkpjdgmpjhhmaaGreatDoorProg
import Derived.Laws.StructEq
import Derived.OrdersHeld
import Derived.Still
import Derived.Tactics
import Derived.Tactics2
import Derived.BigQuiet
import Derived.CallsIn
import Derived.OrdersIn
import Derived.TacticsIn
import Derived.RangeFuncCalls
import Derived.Maps.AppendAt
import Derived.Laws.OwnMore
import Derived.Lib.SliceRun
set_option maxRecDepth 200000
set_option maxHeartbeats 8000000
namespace Yd
open Go Go.RowKit

theorem hid {p : Prop} (h : p) : Hid p := h

def Ret (v : Value) (w : World) (e : Ending) (w' : World) : Prop := e = .returned v ∧ Below w.heap.size w w'

theorem cell_lt {w : World} {p : Addr} {v : Value} (h : w.cell? p = some v) : p.block < w.heap.size := by
 unfold World.cell? at h
 rcases Nat.lt_or_ge p.block w.heap.size with h1 | h1
 · exact h1
 · rw [Array.getElem?_eq_none h1] at h; cases h

theorem bget {B : Nat} {w w' : World} (hb : Below B w w') (hB : B = w.heap.size) {p : Addr} {v : Value} (h : w.cell? p = some v) : w'.cell? p = some v := by
 subst hB; exact (hb.cell (cell_lt h)).trans h

theorem belowN {B : Nat} {a w : World} (h : Below B a w) (n : Nat) : Below B a (w.drewN n) := ⟨h.os, h.tape, h.output, h.size, h.block⟩

theorem bcell {B : Nat} {W w1 : World} (hb : Below B W w1) : (∀ b o, b < B → w1.cell? ⟨b, o, none⟩ = W.cell? ⟨b, o, none⟩) ∧ (∀ b o, b < B → w1.frozen? ⟨b, o, none⟩ = W.frozen? ⟨b, o, none⟩) :=
 ⟨fun b o h => hb.cell (p := ⟨b, o, none⟩) h, fun b o h => hb.frozen (p := ⟨b, o, none⟩) h⟩

def Row {α : Type} (w : World) (k : Nat) (enc : α → List Value) (a : Option Addr) (n c : Nat) (xs : List α) : Prop :=
 xs.length = n ∧ n ≤ c ∧ n ≤ 140737488355328 ∧ (a = none → c = 0) ∧ ∀ i x, xs[i]? = some x → ∃ b o, a = some ⟨b, o, none⟩ ∧ ∀ j v, (enc x)[j]? = some v → w.cell? ⟨b, o + i * k + j, none⟩ = some v

section
variable {α : Type} {w w' : World} {k : Nat} {enc : α → List Value} {a : Option Addr} {n c : Nat} {xs : List α}
theorem Row.ext (h : Row w k enc a n c xs) (hb : ∀ p v, w.cell? p = some v → w'.cell? p = some v) : Row w' k enc a n c xs :=
 ⟨h.1, h.2.1, h.2.2.1, h.2.2.2.1, fun i x hx => let ⟨b, o, ha, hc⟩ := h.2.2.2.2 i x hx; ⟨b, o, ha, fun j v hv => hb _ _ (hc j v hv)⟩⟩
theorem Row.below {B : Nat} (h : Row w k enc a n c xs) (hb : Below B w w') (hB : B = w.heap.size) : Row w' k enc a n c xs := h.ext fun _ _ => bget hb hB
theorem Row.le (h : Row w k enc a n c xs) : n ≤ 140737488355328 := h.2.2.1
theorem Row.len (h : Row w k enc a n c xs) : xs.length = n := h.1
theorem Row.cap (h : Row w k enc a n c xs) : n ≤ c := h.2.1
theorem Row.none_ (h : Row w k enc none n c xs) : c = 0 ∧ n = 0 ∧ xs = [] := by
 have h0 := h.2.2.2.1 rfl
 have h1 := h.2.1
 exact ⟨h0, by omega, List.eq_nil_of_length_eq_zero (by rw [h.1]; omega)⟩
theorem Row.at_ (h : Row w k enc a n c xs) {i : Nat} (hi : i < n) : ∃ x b o, xs[i]? = some x ∧ a = some ⟨b, o, none⟩ ∧ ∀ j v, (enc x)[j]? = some v → w.cell? ⟨b, o + i * k + j, none⟩ = some v := by
 have hl : i < xs.length := by rw [h.1]; exact hi
 obtain ⟨b, o, ha, hc⟩ := h.2.2.2.2 i xs[i] (List.getElem?_eq_getElem hl)
 exact ⟨xs[i], b, o, List.getElem?_eq_getElem hl, ha, hc⟩
theorem Row.nil_ : Row w k enc none 0 0 ([] : List α) := ⟨rfl, Nat.le_refl _, by decide, fun _ => rfl, fun i x h => by simp at h⟩
end

abbrev Bs := List UInt8

structure Ver where
 t : Int
 k : Int
 deriving DecidableEq, Inhabited

structure Sn where
 obj : Int
 v : Ver
 deriving DecidableEq, Inhabited
structure Wa where
 ses : Int
 bits : Int
 deriving DecidableEq, Inhabited
structure To where
 name : Bs
 k : Int
 deriving DecidableEq
structure EvC where
 kind : Int
 t : Int
 ses : Int
 lvl : Int
 obj : Int
 v : Ver
 pred : Int
 sa : Option Addr
 sn : Nat
 sc : Nat
structure OrC where
 obj : Int
 sa : Option Addr
 sn : Nat
 sc : Nat
structure MaC where
 pred : Int
 obj : Int
 first : Bool
 sa : Option Addr
 sn : Nat
 sc : Nat
structure LnC where
 kind : Int
 na : Option Addr
 nn : Nat
 nc : Nat
 lvl : Int
 va : Option Addr
 vn : Nat
 vc : Nat
 first : Bool
 bits : Int

def encInt (n : Int) : List Value := [.int .i64 n]
@[reducible] def valInt (n : Int) : Value := .int .i64 n
def encStr (s : Bs) : List Value := [.string ⟨s.toArray⟩]
@[reducible] def valStr (s : Bs) : Value := .string ⟨s.toArray⟩
def encSn (s : Sn) : List Value := [.int .i64 s.obj, .int .i64 s.v.t, .int .i64 s.v.k]
@[reducible] def valSn (s : Sn) : Value := .agg #[.int .i64 s.obj, .int .i64 s.v.t, .int .i64 s.v.k]
def encWa (s : Wa) : List Value := [.int .i64 s.ses, .int .i64 s.bits]
@[reducible] def valWa (s : Wa) : Value := .agg #[.int .i64 s.ses, .int .i64 s.bits]
def encTo (s : To) : List Value := [.string ⟨s.name.toArray⟩, .int .i64 s.k]
@[reducible] def valTo (s : To) : Value := .agg #[.string ⟨s.name.toArray⟩, .int .i64 s.k]
def encEv (e : EvC) : List Value := [.int .i64 e.kind, .int .i64 e.t, .int .i64 e.ses, .int .i64 e.lvl, .int .i64 e.obj, .int .i64 e.v.t, .int .i64 e.v.k, .int .i64 e.pred, .slice e.sa e.sn e.sc]
@[reducible] def valEv (e : EvC) : Value := .agg #[.int .i64 e.kind, .int .i64 e.t, .int .i64 e.ses, .int .i64 e.lvl, .int .i64 e.obj, .int .i64 e.v.t, .int .i64 e.v.k, .int .i64 e.pred, .slice e.sa e.sn e.sc]
def encOr (s : OrC) : List Value := [.int .i64 s.obj, .slice s.sa s.sn s.sc]
@[reducible] def valOr (s : OrC) : Value := .agg #[.int .i64 s.obj, .slice s.sa s.sn s.sc]
def encMa (s : MaC) : List Value := [.int .i64 s.pred, .int .i64 s.obj, .bool s.first, .slice s.sa s.sn s.sc]
@[reducible] def valMa (s : MaC) : Value := .agg #[.int .i64 s.pred, .int .i64 s.obj, .bool s.first, .slice s.sa s.sn s.sc]
def encLn (l : LnC) : List Value := [.int .i64 l.kind, .slice l.na l.nn l.nc, .int .i64 l.lvl, .slice l.va l.vn l.vc, .bool l.first, .int .i64 l.bits]
@[reducible] def valLn (l : LnC) : Value := .agg #[.int .i64 l.kind, .slice l.na l.nn l.nc, .int .i64 l.lvl, .slice l.va l.vn l.vc, .bool l.first, .int .i64 l.bits]

def Asks {α : Type} (P : Program) (f : Nat) (cap : Array Value) (val : α → Value) (p : α → Bool) (xs : List α) (w : World) : Prop :=
 ∀ x ∈ xs, ∀ W, Below w.heap.size w W → Calls P f (#[val x] ++ cap) W (Ret (.bool (p x)) W)

def idx {α : Type} (p : α → Bool) (xs : List α) : Int := match xs.findIdx? p with | some i => (i : Int) | none => -1

theorem idx_some {α : Type} {p : α → Bool} {xs : List α} {i : Nat} (h : xs.findIdx? p = some i) : idx p xs = i := by unfold idx; rw [h]
theorem idx_none {α : Type} {p : α → Bool} {xs : List α} (h : xs.findIdx? p = none) : idx p xs = -1 := by unfold idx; rw [h]
theorem idx_any {α : Type} (p : α → Bool) (xs : List α) : decide (0 ≤ idx p xs) = xs.any p := by
 cases h : xs.findIdx? p with
 | none =>
   rw [idx_none h]
   rw [List.findIdx?_eq_none_iff] at h
   symm; simp only [show decide ((0:Int) ≤ -1) = false from rfl, List.any_eq_false]
   intro x hx; simp [h x hx]
 | some i =>
   rw [idx_some h]
   rw [List.findIdx?_eq_some_iff_getElem] at h
   obtain ⟨hl, hp, _⟩ := h
   symm
   simp only [show decide ((0:Int) ≤ (i : Int)) = true by simp, List.any_eq_true]
   exact ⟨xs[i], List.getElem_mem hl, hp⟩

theorem findIdx?_take {α : Type} (p : α → Bool) (xs : List α) (i : Nat) (h : (xs.take i).findIdx? p = none) (x : α) (hx : xs[i]? = some x) (hp : p x = true) : xs.findIdx? p = some i := by
 rw [List.findIdx?_eq_some_iff_getElem]
 have hl : i < xs.length := by
   rcases Nat.lt_or_ge i xs.length with h' | h'
   · exact h'
   · rw [List.getElem?_eq_none h'] at hx; cases hx
 refine ⟨hl, ?_, ?_⟩
 · rw [List.getElem?_eq_getElem hl] at hx
   have e : xs[i] = x := Option.some.inj hx
   rw [e]; exact hp
 · intro j hj
   rw [List.findIdx?_eq_none_iff] at h
   have := h xs[j] (by
     rw [List.mem_iff_getElem?]
     exact ⟨j, by rw [List.getElem?_take, if_pos hj]; exact List.getElem?_eq_getElem (by omega)⟩)
   simpa using this
theorem findIdx?_snoc {α : Type} (p : α → Bool) (xs : List α) (i : Nat) (h : (xs.take i).findIdx? p = none) (x : α) (hx : xs[i]? = some x) (hp : p x = false) : (xs.take (i + 1)).findIdx? p = none := by
 rw [List.take_add_one, hx]
 simp [List.findIdx?_append, h, hp]
end Yd


namespace Yd
open Go Go.RowKit Go.Proofs
theorem eqInTo (x y : To) (w : World) : (Op.equalIn 10000 98 (valTo x) (valTo y)).run Tryz.prog w = .ok (decide (x = y)) w := by
 simp [valTo, go_sem]
 cases x; cases y; simp; (repeat' split) <;> simp_all
theorem eqInWa (x y : Wa) (w : World) : (Op.equalIn 10000 82 (valWa x) (valWa y)).run Tryz.prog w = .ok (decide (x = y)) w := by
 simp [valWa, go_sem]
 cases x; cases y; simp; (repeat' split) <;> simp_all
theorem eqInVer (x y : Ver) (w : World) : (Op.equalIn 10000 46 (.agg #[.int .i64 x.t, .int .i64 x.k]) (.agg #[.int .i64 y.t, .int .i64 y.k])).run Tryz.prog w = .ok (decide (x = y)) w := by
 simp [go_sem]
 cases x; cases y; simp; (repeat' split) <;> simp_all
theorem eqInSn (x y : Sn) (w : World) : (Op.equalIn 10000 69 (valSn x) (valSn y)).run Tryz.prog w = .ok (decide (x = y)) w := by
 simp [valSn, go_sem]
 obtain ⟨_, ⟨_, _⟩⟩ := x; obtain ⟨_, ⟨_, _⟩⟩ := y; simp; (repeat' split) <;> simp_all
end Yd


namespace Yd
open Go Go.RowKit
@[reducible] def Bx (W : World) (b : Nat) (cs : Array Value) : Prop := (∀ i, W.cell? ⟨b, i, none⟩ = cs[i]?) ∧ (∀ i, W.frozen? ⟨b, i, none⟩ = false) ∧ b < W.heap.size
theorem Bx.below {X w' : World} {b B : Nat} {cs : Array Value} (h : Bx X b cs) (hb : Below B X w') (hB : b < B) : Bx w' b cs :=
 ⟨fun i => (hb.cell (p := ⟨b, i, none⟩) hB).trans (h.1 i), fun i => (hb.frozen (p := ⟨b, i, none⟩) hB).trans (h.2.1 i), Nat.lt_of_lt_of_le h.2.2 hb.size⟩
theorem Bx.keep {X w' : World} {b : Nat} {cs : Array Value} (h : Bx X b cs) (hb : Below X.heap.size X w') : Bx w' b cs := h.below hb h.2.2
theorem Bx.drew {X : World} {b : Nat} {cs : Array Value} (h : Bx X b cs) : Bx X.drew b cs := h
theorem Bx.drewN {X : World} {b : Nat} {cs : Array Value} (h : Bx X b cs) (n : Nat) : Bx (X.drewN n) b cs := h
theorem Bx.alloc {X : World} {b : Nat} {cs : Array Value} (h : Bx X b cs) (o : Obj) : Bx (X.alloc o) b cs := h.keep ((Below.refl _ _).alloc (Nat.le_refl _) _)
theorem Bx.new (X : World) (cs : Array Value) (T : TypeId) : Bx (X.alloc (.cells cs T)) X.heap.size cs :=
 ⟨fun i => World.cell?_alloc_new X cs T i, fun i => by
   have h : (X.alloc (.cells cs T)).heap[X.heap.size]? = some (.cells cs T (0, 0)) := by show (X.heap.push _)[_]? = _; simp
   unfold World.frozen?
   simp only [h]
   simp, by simp⟩
theorem Bx.other {X : World} {b : Nat} {cs : Array Value} (h : Bx X b cs) {p : Addr} (hp : b ≠ p.block) (v : Value) : Bx (X.setCell p v) b cs := by
 have e := Below.heap_setCell X p v b hp
 refine ⟨fun i => (World.cell?_of_block (a := ⟨b, i, none⟩) e).trans (h.1 i), fun i => (World.frozen?_of_block (a := ⟨b, i, none⟩) e).trans (h.2.1 i), ?_⟩
 have := h.2.2
 simpa [World.setCell] using this
theorem keep2 {X w' : World} {a b : Nat} {c d : Array Value} (h : Bx X a c ∧ Bx X b d) (hb : Below X.heap.size X w') : Bx w' a c ∧ Bx w' b d := ⟨h.1.keep hb, h.2.keep hb⟩
theorem keep3 {X w' : World} {a b g : Nat} {c d e : Array Value} (h : Bx X a c ∧ Bx X b d ∧ Bx X g e) (hb : Below X.heap.size X w') : Bx w' a c ∧ Bx w' b d ∧ Bx w' g e := ⟨h.1.keep hb, keep2 h.2 hb⟩
@[reducible] def cellsWa (s : Wa) : Array Value := #[.int .i64 s.ses, .int .i64 s.bits]
@[reducible] def cellsTo (s : To) : Array Value := #[.string ⟨s.name.toArray⟩, .int .i64 s.k]
@[reducible] def cellsEv (e : EvC) : Array Value := #[.int .i64 e.kind, .int .i64 e.t, .int .i64 e.ses, .int .i64 e.lvl, .int .i64 e.obj, .int .i64 e.v.t, .int .i64 e.v.k, .int .i64 e.pred, .slice e.sa e.sn e.sc]
@[reducible] def cellsOr (s : OrC) : Array Value := #[.int .i64 s.obj, .slice s.sa s.sn s.sc]
@[reducible] def cellsMa (s : MaC) : Array Value := #[.int .i64 s.pred, .int .i64 s.obj, .bool s.first, .slice s.sa s.sn s.sc]
@[reducible] def cellsLn (l : LnC) : Array Value := #[.int .i64 l.kind, .slice l.na l.nn l.nc, .int .i64 l.lvl, .slice l.va l.vn l.vc, .bool l.first, .int .i64 l.bits]
def Ret2 (v u : Value) (w : World) (e : Ending) (w' : World) : Prop := e = .returned (.tuple #[v, u]) ∧ Below w.heap.size w w'
end Yd


namespace Yd
open Go
section
variable {P : Program} {ops : Array Oper} {Q : Exit → Act → World → Prop} {md : Region.Mode} {S : World → Prop}

def wpOrd (P : Program) (ops : Array Oper) (Q : Exit → Act → World → Prop) (S : World → Prop) : List (Nat × Bool) → Act → World → Prop
 | [], a, w => Q .normal a w
 | (i, true) :: r, a, w => ∃ o v, ops[i]? = some o ∧ YieldsIf P ops S o v a ∧ wpOrd P ops Q S r (a.put o.dst v) w
 | (i, false) :: r, a, w => wpOp P ops Q i (fun a' w' => S w' ∧ wpOrd P ops Q S r a' w') a w

def okOrd (md : Region.Mode) (ops : Array Oper) : List (Nat × Bool) → Array Bool → Bool
 | [], listed => (Region.ready md ops listed).isEmpty
 | (i, true) :: r, listed => (Region.ready md ops listed).contains i && Region.free md ops listed i && okOrd md ops r (listed.setIfInBounds i true)
 | (i, false) :: r, listed => decide (Region.ready md ops listed = [i]) && okOrd md ops r (listed.setIfInBounds i true)

theorem wpAnyH_of_ord (hs : Region.noSelect ops = true) (hQ : ∀ d v c a w, Q (.panic c) (Act.put a d v) w → Q (.panic c) a w) :
   ∀ (l : List (Nat × Bool)) (listed : Array Bool) (a : Act) (w : World), okOrd md ops l listed = true → S w → wpOrd P ops Q S l a w → wpAnyH P md ops Q S l.length listed a w
 | [], listed, a, w, hB, _, h => ⟨by simpa [okOrd] using hB, h⟩
 | (i, true) :: r, listed, a, w, hB, hS, h => by
   simp only [okOrd, Bool.and_eq_true] at hB
   obtain ⟨⟨hr, hf⟩, hB'⟩ := hB
   obtain ⟨o, v, ho, hy, hn⟩ := h
   exact wpAnyH_first ho (Region.noSelect_spec hs) (fun c a w => hQ _ _ c a w) r.length listed a w (Region.free_spec ho hf) (by simpa using hr) hy hS
     (wpAnyH_of_ord hs hQ r _ _ _ hB' hS hn)
 | (i, false) :: r, listed, a, w, hB, hS, h => by
   simp only [okOrd, Bool.and_eq_true, decide_eq_true_eq] at hB
   obtain ⟨hr, hB'⟩ := hB
   refine ⟨fun h0 => (by rw [hr] at h0; cases h0), fun j hj => ?_⟩
   rw [hr] at hj
   obtain rfl : j = i := by simpa using hj
   exact wpOp_mono (fun a' w' hh => ⟨hh.1, wpAnyH_of_ord hs hQ r _ a' w' hB' hh.1 hh.2⟩) h

def opAt : List Oper → Nat → Option Oper
 | [], _ => none
 | o :: _, 0 => some o
 | _ :: l, i + 1 => opAt l i
theorem opAt_get : ∀ (l : List Oper) (i : Nat) (o : Oper), opAt l i = some o → l.toArray[i]? = some o
 | [], _, _, h => by cases h
 | x :: _, 0, o, h => by simpa [opAt] using h
 | _ :: l, i + 1, o, h => by have := opAt_get l i o h; simpa using this

theorem wp_region_ord {id : Nat} {a : Act} {w : World} {l : List Oper} (ord : List (Nat × Bool)) (S : World → Prop) (hm : P.follows .mixedOrders = true)
   (hB : (Region.noSelect l.toArray && decide (ord.length = l.length) && okOrd .any l.toArray ord (Array.replicate l.toArray.size false)) = true)
   (hQ : ∀ d v c a w, Q (.panic c) (Act.put a d v) w → Q (.panic c) a w) (hS : S w.drew) (h : wpOrd P l.toArray Q S ord a w.drew) : (Code.region id l.toArray true).wp P Q a w := by
 simp only [Bool.and_eq_true, decide_eq_true_eq] at hB
 obtain ⟨⟨hs, hl⟩, ho⟩ := hB
 refine wp_region_any hm (wpAny_of_held (S := S) _ _ _ _ ?_)
 have := wpAnyH_of_ord (md := .any) hs hQ ord _ a _ ho hS h
 rw [hl] at this
 simpa using this

variable {l : List Oper} {a : Act} {w : World} {r : List (Nat × Bool)} {i : Nat} {o : Oper}
theorem ord_nil (h : Q .normal a w) : wpOrd P ops Q S [] a w := h
theorem ord_q (ho : opAt l i = some o) (hw : Region.wanted o (yielded l.toArray a.tmps) = true)
   (h : ∃ v, (∀ w, S w → (execOp a.eval o).run P w = .ok (.value v) w) ∧ wpOrd P l.toArray Q S r (a.put o.dst v) w) : wpOrd P l.toArray Q S ((i, true) :: r) a w :=
 let ⟨v, h1, h2⟩ := h
 ⟨o, v, opAt_get _ _ _ ho, .inl ⟨hw, h1⟩, h2⟩
theorem ord_skip (ho : opAt l i = some o) (hw : Region.wanted o (yielded l.toArray a.tmps) = false) (hn : wpOrd P l.toArray Q S r (a.put o.dst undef) w) : wpOrd P l.toArray Q S ((i, true) :: r) a w :=
 ⟨o, undef, opAt_get _ _ _ ho, .inr ⟨hw, rfl⟩, hn⟩
theorem ord_l (ho : opAt l i = some o) (hw : Region.wanted o (yielded l.toArray a.tmps) = true) (h : ∀ K : Act → World → Prop, (∀ a w, S w → wpOrd P l.toArray Q S r a w → K a w) → o.wp P a w K Q) :
   wpOrd P l.toArray Q S ((i, false) :: r) a w := by
 have ho' := opAt_get _ _ _ ho
 unfold wpOrd wpOp
 simp only [ho', hw, if_true]
 exact .inl (h _ fun _ _ h1 h2 => ⟨h1, h2⟩)
theorem ord_lskip (ho : opAt l i = some o) (hw : Region.wanted o (yielded l.toArray a.tmps) = false) (hS : S w) (hn : wpOrd P l.toArray Q S r (a.put o.dst undef) w) : wpOrd P l.toArray Q S ((i, false) :: r) a w := by
 have ho' := opAt_get _ _ _ ho
 unfold wpOrd wpOp
 simp only [ho', hw, Bool.false_eq_true, if_false]
 exact ⟨hS, hn⟩
end
end Yd


namespace Yd
open Go Go.RowKit Go.Proofs

theorem parts_of {P : Program} {T : TypeId} {k by_ : Nat} (h : (P.info? T).map (fun i => (i.zero.map (·.cells.size), i.size, i.bytes)) = some (some k, k, by_)) :
   ∃ i z, P.info? T = some i ∧ i.zero = some z ∧ i.size = k ∧ i.bytes = by_ ∧ z.cells.size = k := by
 cases hi : P.info? T with
 | none => rw [hi] at h; cases h
 | some i =>
   rw [hi] at h
   simp only [Option.map_some, Option.some.injEq, Prod.mk.injEq] at h
   obtain ⟨h1, h2, h3⟩ := h
   cases hz : i.zero with
   | none => rw [hz] at h1; cases h1
   | some z => rw [hz] at h1; exact ⟨i, z, rfl, hz, h2, h3, by simpa using h1⟩

theorem infoEv : (Tryz.prog.info? 49).map (fun i => (i.zero.map (·.cells.size), i.size, i.bytes)) = some (some 9, 9, 88) := by kernel_rfl
theorem partsEv : ∃ i z, Tryz.prog.info? 49 = some i ∧ i.zero = some z ∧ i.size = 9 ∧ i.bytes = 88 ∧ z.cells.size = 9 := parts_of infoEv

theorem infoTo : (Tryz.prog.info? 98).map (fun i => (i.zero.map (·.cells.size), i.size, i.bytes)) = some (some 2, 2, 24) := by kernel_rfl
theorem partsTo : ∃ i z, Tryz.prog.info? 98 = some i ∧ i.zero = some z ∧ i.size = 2 ∧ i.bytes = 24 ∧ z.cells.size = 2 := parts_of infoTo

theorem infoStr : (Tryz.prog.info? 9).map (fun i => (i.zero.map (·.cells.size), i.size, i.bytes)) = some (some 1, 1, 16) := by kernel_rfl
theorem partsStr : ∃ i z, Tryz.prog.info? 9 = some i ∧ i.zero = some z ∧ i.size = 1 ∧ i.bytes = 16 ∧ z.cells.size = 1 := parts_of infoStr

theorem infoInt : (Tryz.prog.info? 3).map (fun i => (i.zero.map (·.cells.size), i.size, i.bytes)) = some (some 1, 1, 8) := by kernel_rfl
theorem partsInt : ∃ i z, Tryz.prog.info? 3 = some i ∧ i.zero = some z ∧ i.size = 1 ∧ i.bytes = 8 ∧ z.cells.size = 1 := parts_of infoInt

theorem infoOr : (Tryz.prog.info? 72).map (fun i => (i.zero.map (·.cells.size), i.size, i.bytes)) = some (some 2, 2, 32) := by kernel_rfl
theorem partsOr : ∃ i z, Tryz.prog.info? 72 = some i ∧ i.zero = some z ∧ i.size = 2 ∧ i.bytes = 32 ∧ z.cells.size = 2 := parts_of infoOr

theorem infoMa : (Tryz.prog.info? 79).map (fun i => (i.zero.map (·.cells.size), i.size, i.bytes)) = some (some 4, 4, 48) := by kernel_rfl
theorem partsMa : ∃ i z, Tryz.prog.info? 79 = some i ∧ i.zero = some z ∧ i.size = 4 ∧ i.bytes = 48 ∧ z.cells.size = 4 := parts_of infoMa

theorem infoWa : (Tryz.prog.info? 82).map (fun i => (i.zero.map (·.cells.size), i.size, i.bytes)) = some (some 2, 2, 16) := by kernel_rfl
theorem partsWa : ∃ i z, Tryz.prog.info? 82 = some i ∧ i.zero = some z ∧ i.size = 2 ∧ i.bytes = 16 ∧ z.cells.size = 2 := parts_of infoWa

theorem infoSn : (Tryz.prog.info? 69).map (fun i => (i.zero.map (·.cells.size), i.size, i.bytes)) = some (some 3, 3, 24) := by kernel_rfl
theorem partsSn : ∃ i z, Tryz.prog.info? 69 = some i ∧ i.zero = some z ∧ i.size = 3 ∧ i.bytes = 24 ∧ z.cells.size = 3 := parts_of infoSn

theorem infoLn : (Tryz.prog.info? 41).map (fun i => (i.zero.map (·.cells.size), i.size, i.bytes)) = some (some 6, 6, 80) := by kernel_rfl
theorem partsLn : ∃ i z, Tryz.prog.info? 41 = some i ∧ i.zero = some z ∧ i.size = 6 ∧ i.bytes = 80 ∧ z.cells.size = 6 := parts_of infoLn

end Yd


namespace Yd
open Go
section
variable {P : Program} {ops : Array Oper} {Q : Exit → Act → World → Prop} {md : Region.Mode} {S : World → Prop}

theorem rowsIn_round {k n : Nat} {row : String} {args : Array Value} {w : World} {R : Value → World → Prop} (h : Rows P row args w R) : RowsIn (Fence.wide.inRound k) n P row args w R :=
 fun c cs _ => let ⟨v, w', r, s⟩ := h c cs; ⟨v, w', r, stepsIn_wide.2 s⟩

theorem wpOpsIn_of {k n : Nat} (hd : ∀ (i : Nat) o, ops[i]? = some o → ∀ c, o.op ≠ .defer c) (hq : ¬ LetsOut Q) :
   ∀ (is : List Nat) (a : Act) (w : World), wpOps P ops Q is a w → wpOpsIn (Fence.wide.inRound k) n P ops Q is a w := by
 intro is
 induction is with
 | nil => intro a w h; exact h
 | cons i rest ih =>
   intro a w h
   rw [wpOps_cons] at h
   rw [wpOpsIn_cons]
   unfold wpOp at h
   unfold wpOpIn
   cases ho : ops[i]? with
   | none => simp only [ho] at h ⊢; exact ih _ _ h
   | some o =>
     simp only [ho] at h ⊢
     by_cases hw : Region.wanted o (yielded ops a.tmps) = true
     · rw [if_pos hw] at h ⊢
       rcases h with h | ⟨_, h⟩
       · refine ⟨fun f _ => trivial, ?_⟩
         rw [Fence.inRound_round, Oper.semAt_some k _ _ (hd i o ho)]
         unfold Oper.wp at h
         revert h
         generalize (execOp a.eval o).run P w = r
         intro h
         cases r with
         | ok x w' =>
           cases x <;> simp only [Oper.upon, Oper.uponIn] at h ⊢
           all_goals first
             | exact ih _ _ h
             | exact ⟨fun h => (by cases h), (CallsIn.inRound k (callsIn_wide.2 h)).mono (fun e w'' he => by cases e <;> first | exact ih _ _ he | exact he)⟩
             | exact ⟨fun h => (by cases h), RowsIn.mono (rowsIn_round h) (fun _ _ he => ih _ _ he)⟩
             | exact h.elim
         | halt x w' => cases x <;> simp only [Oper.upon, Oper.uponIn] at h ⊢ <;> exact h
       · exact absurd h hq
     · rw [if_neg hw] at h ⊢
       exact ⟨fun _ _ => trivial, ih _ _ h⟩

def noDefer (l : List Oper) : Bool := l.all fun o => match o.op with | .defer _ => false | _ => true
theorem noDefer_spec {l : List Oper} (h : noDefer l = true) : ∀ (i : Nat) o, l.toArray[i]? = some o → ∀ c, o.op ≠ .defer c := by
 intro i o ho c hc
 have hm : o ∈ l := List.mem_of_getElem? (by simpa using ho)
 have := List.all_eq_true.1 h o hm
 rw [hc] at this
 cases this

end
end Yd


namespace Yd
open Go
section
variable {P : Program} {ops : Array Oper} {Q : Exit → Act → World → Prop} {md : Region.Mode} {S : World → Prop} {cut : Nat}

def wpAnyT (P : Program) (md : Region.Mode) (ops : Array Oper) (Q : Exit → Act → World → Prop) (T : Nat → World → World → Prop) : Nat → Array Bool → Act → World → Prop
 | 0, listed, a, w => Region.ready md ops listed = [] ∧ Q .normal a w
 | fuel + 1, listed, a, w => (Region.ready md ops listed = [] → Q .normal a w) ∧ ∀ i ∈ Region.ready md ops listed, wpOp P ops Q i (fun a' w' => T i w w' ∧ wpAnyT P md ops Q T fuel (listed.setIfInBounds i true) a' w') a w
theorem wpAny_of_T {T : Nat → World → World → Prop} : ∀ (fuel : Nat) (listed : Array Bool) (a : Act) (w : World), wpAnyT P md ops Q T fuel listed a w → wpAny P md ops Q fuel listed a w
 | 0, _, _, _, h => h
 | fuel + 1, _, _, _, h => ⟨h.1, fun i hi => wpOp_mono (fun _ _ h' => wpAny_of_T fuel _ _ _ h'.2) (h.2 i hi)⟩

theorem wpAnyT_first {T : Nat → World → World → Prop} {i : Nat} {oi : Oper} {v : Value} (hi : ops[i]? = some oi) (hsel : ∀ (j : Nat) (o : Oper) cs b, ops[j]? = some o → o.op ≠ .select cs b)
   (hQ : ∀ c a w, Q (.panic c) (a.put oi.dst v) w → Q (.panic c) a w) (hTi : ∀ w, S w → T i w w)
   (hT : ∀ j oj, ops[j]? = some oj → j ≠ i → (∀ e ∈ oj.after, Region.binds md e = true → e.on ≠ i) → ∀ w w', T j w w' → S w → S w') :
   ∀ (fuel : Nat) (listed : Array Bool) (a : Act) (w : World),
     (∀ j oj, ops[j]? = some oj → j ≠ i → listed.getD j true = false → (∀ e ∈ oj.after, Region.binds md e = true → e.on ≠ i) → oi.apart ops oj = true) →
     i ∈ Region.ready md ops listed → YieldsIf P ops S oi v a → S w →
     wpAnyT P md ops Q T fuel (listed.setIfInBounds i true) (a.put oi.dst v) w → wpAnyT P md ops Q T (fuel + 1) listed a w := by
 intro fuel
 induction fuel with
 | zero =>
   intro listed a w _ hr hy hS H
   refine ⟨fun h => (by rw [h] at hr; cases hr), fun j hj => ?_⟩
   rcases Decidable.em (j = i) with rfl | hne
   · exact hy.wpOp hi hS ⟨hTi _ hS, H⟩
   · have := ready_mono hj hne
     rw [H.1] at this; cases this
 | succ fuel ih =>
   intro listed a w hfree hr hy hS H
   refine ⟨fun h => (by rw [h] at hr; cases hr), fun j hj => ?_⟩
   rcases Decidable.em (j = i) with rfl | hne
   · exact hy.wpOp hi hS ⟨hTi _ hS, H⟩
   obtain ⟨hun, oj, hoj, hwait⟩ := mem_ready.1 hj
   have hiun := (mem_ready.1 hr).1
   have hno : ∀ e ∈ oj.after, Region.binds md e = true → e.on ≠ i := by
     intro e he hb heq
     have h1 := hwait e he hb
     rw [heq] at h1
     rcases Nat.lt_or_ge i listed.size with h' | h'
     · simp [h'] at hiun h1; rw [hiun] at h1; cases h1
     · simp [Array.getElem?_eq_none h'] at h1
   have hput := wpOp_putIf hoj (hfree j oj hoj hne hun hno) (fun cs b => hsel i oi cs b hi) (fun cs b => hsel j oj cs b hoj) hQ hy (H.2 j (ready_mono hj hne))
   refine wpOp_mono (fun a' w' h3 => ⟨h3.2.1, ih _ a' w' (fun k ok hk hki hku hkn => hfree k ok hk hki ?_ hkn) (ready_mono hr (Ne.symm hne)) h3.1 (hT j oj hoj hne hno _ _ h3.2.1 hS) ?_⟩) hput
   · rcases Decidable.em (j = k) with rfl | hjk
     · exact hun
     · rwa [getD_set_ne true hjk] at hku
   · rw [Array.setIfInBounds_comm _ _ hne]; exact h3.2.2

def ThenS (cut : Nat) (R S : World → Prop) (i : Nat) (w w' : World) : Prop := R w' ∧ (cut ≤ i ∨ (S w → S w'))

def wpOrdC (P : Program) (ops : Array Oper) (Q : Exit → Act → World → Prop) (R S : World → Prop) (cut : Nat) : List (Nat × Nat) → Act → World → Prop
 | [], a, w => Q .normal a w
 | (i, 0) :: r, a, w => ∃ o v, ops[i]? = some o ∧ YieldsIf P ops (fun w => R w ∧ S w) o v a ∧ wpOrdC P ops Q R S cut r (a.put o.dst v) w
 | (i, 1) :: r, a, w => ∃ o v, ops[i]? = some o ∧ YieldsIf P ops R o v a ∧ wpOrdC P ops Q R S cut r (a.put o.dst v) w
 | (i, _ + 2) :: r, a, w => wpOp P ops Q i (fun a' w' => ThenS cut R S i w w' ∧ wpOrdC P ops Q R S cut r a' w') a w

def waits (md : Region.Mode) (ops : Array Oper) (cut i : Nat) : Bool := (List.range ops.size).all fun j => decide (j < cut) || match ops[j]? with
 | some oj => oj.after.any (fun e => Region.binds md e && e.on == i)
 | none => true
theorem waits_spec {i : Nat} (h : waits md ops cut i = true) (j : Nat) (oj : Oper) (hj : ops[j]? = some oj) (hno : ∀ e ∈ oj.after, Region.binds md e = true → e.on ≠ i) : j < cut := by
 have hlt : j < ops.size := (Array.getElem?_eq_some_iff.1 hj).1
 have := List.all_eq_true.1 h j (List.mem_range.2 hlt)
 rw [hj] at this
 simp only [Bool.or_eq_true, decide_eq_true_eq, Array.any_eq_true] at this
 rcases this with h1 | ⟨k, hk, h1⟩
 · exact h1
 · simp only [Bool.and_eq_true, beq_iff_eq] at h1
   exact absurd h1.2 (hno _ (Array.getElem_mem hk) h1.1)
def okOrdC (md : Region.Mode) (ops : Array Oper) (cut : Nat) : List (Nat × Nat) → Bool → Array Bool → Bool
 | [], _, listed => (Region.ready md ops listed).isEmpty
 | (i, 0) :: r, held, listed => (Region.ready md ops listed).contains i && Region.free md ops listed i && (held && waits md ops cut i) && okOrdC md ops cut r held (listed.setIfInBounds i true)
 | (i, 1) :: r, held, listed => (Region.ready md ops listed).contains i && Region.free md ops listed i && okOrdC md ops cut r held (listed.setIfInBounds i true)
 | (i, _ + 2) :: r, held, listed => decide (Region.ready md ops listed = [i]) && okOrdC md ops cut r (held && decide (i < cut)) (listed.setIfInBounds i true)
variable {R : World → Prop}
theorem wpAnyT_of_ord (hs : Region.noSelect ops = true) (hQ : ∀ d v c a w, Q (.panic c) (Act.put a d v) w → Q (.panic c) a w) :
   ∀ (l : List (Nat × Nat)) (held : Bool) (listed : Array Bool) (a : Act) (w : World), okOrdC md ops cut l held listed = true → R w → (held = true → S w) → wpOrdC P ops Q R S cut l a w → wpAnyT P md ops Q (ThenS cut R S) l.length listed a w
 | [], _, listed, a, w, hB, _, _, h => ⟨by simpa [okOrdC] using hB, h⟩
 | (i, 0) :: r, held, listed, a, w, hB, hR, hS, h => by
   simp only [okOrdC, Bool.and_eq_true] at hB
   obtain ⟨⟨⟨hr, hf⟩, hh, hc⟩, hB'⟩ := hB
   obtain ⟨o, v, ho, hy, hn⟩ := h
   have hrest := wpAnyT_of_ord hs hQ r held _ _ _ hB' hR hS hn
   refine wpAnyT_first (S := fun w => R w ∧ S w) ho (Region.noSelect_spec hs) (fun c a w => hQ _ _ c a w) (fun _ h => ⟨h.1, .inr id⟩) (fun j oj hj hne hno w w' hw' hw => ⟨hw'.1, ?_⟩) r.length listed a w (Region.free_spec ho hf) (by simpa using hr) hy ⟨hR, hS hh⟩ hrest
   rcases hw'.2 with h1 | h1
   · exact absurd (waits_spec hc j oj hj hno) (by omega)
   · exact h1 hw.2
 | (i, 1) :: r, held, listed, a, w, hB, hR, hS, h => by
   simp only [okOrdC, Bool.and_eq_true] at hB
   obtain ⟨⟨hr, hf⟩, hB'⟩ := hB
   obtain ⟨o, v, ho, hy, hn⟩ := h
   have hrest := wpAnyT_of_ord hs hQ r held _ _ _ hB' hR hS hn
   exact wpAnyT_first (S := R) ho (Region.noSelect_spec hs) (fun c a w => hQ _ _ c a w) (fun _ h => ⟨h, .inr id⟩) (fun j oj hj hne hno w w' hw' _ => hw'.1) r.length listed a w (Region.free_spec ho hf) (by simpa using hr) hy hR hrest
 | (i, _ + 2) :: r, held, listed, a, w, hB, hR, hS, h => by
   simp only [okOrdC, Bool.and_eq_true, decide_eq_true_eq] at hB
   obtain ⟨hr, hB'⟩ := hB
   refine ⟨fun h0 => (by rw [hr] at h0; cases h0), fun j hj => ?_⟩
   rw [hr] at hj
   obtain rfl : j = i := by simpa using hj
   exact wpOp_mono (fun a' w' hh => ⟨hh.1, wpAnyT_of_ord hs hQ r _ _ a' w' hB' hh.1.1 (fun hh2 => by
     simp only [Bool.and_eq_true, decide_eq_true_eq] at hh2
     rcases hh.1.2 with h1 | h1
     · omega
     · exact h1 (hS hh2.1)) hh.2⟩) h

def strictQ (Q : Exit → Act → World → Prop) : Exit → Act → World → Prop
 | .outgrown, _, _ => False
 | .panic _, _, _ => False
 | .normal, a, w => Q .normal a w
 | .ret, a, w => Q .ret a w
 | .exit id, a, w => Q (.exit id) a w
 | .goto t, a, w => Q (.goto t) a w
theorem strictQ_no (Q : Exit → Act → World → Prop) : ¬ LetsOut (strictQ Q) := fun ⟨_, _, h⟩ => h
theorem strictQ_of {Q : Exit → Act → World → Prop} (e : Exit) (a : Act) (w : World) (h : strictQ Q e a w) : Q e a w := by
 cases e <;> first | exact h | exact h.elim
theorem strictQ_p (Q : Exit → Act → World → Prop) : ∀ d v c a w, strictQ Q (.panic c) (Act.put a d v) w → strictQ Q (.panic c) a w := fun _ _ _ _ _ h => h
theorem wp_region_ordC {id : Nat} {a : Act} {w : World} {l : List Oper} (cut : Nat) (ord : List (Nat × Nat)) (R S : World → Prop) (hm : P.follows .mixedOrders = true)
   (hB : (Region.noSelect l.toArray && decide (ord.length = l.length) && okOrdC .any l.toArray cut ord true (Array.replicate l.toArray.size false)) = true)
   (hR : R w.drew) (hS : S w.drew) (h : wpOrdC P l.toArray (strictQ Q) R S cut ord a w.drew) : (Code.region id l.toArray true).wp P Q a w := by
 simp only [Bool.and_eq_true, decide_eq_true_eq] at hB
 obtain ⟨⟨hs, hl⟩, ho⟩ := hB
 refine wp_mono (Q := strictQ Q) (wp_region_any hm (wpAny_of_T (T := ThenS cut R S) _ _ _ _ ?_)) strictQ_of
 have := wpAnyT_of_ord (md := .any) (Q := strictQ Q) hs (strictQ_p Q) ord true _ a _ ho hR (fun _ => hS) h
 rw [hl] at this
 simpa using this
theorem wpIn_region_ordC {k n id : Nat} {a : Act} {w : World} {l : List Oper} (cut : Nat) (ord : List (Nat × Nat)) (R S : World → Prop) (hm : P.follows .mixedOrders = true)
   (hB : (Region.noSelect l.toArray && decide (ord.length = l.length) && okOrdC .any l.toArray cut ord true (Array.replicate l.toArray.size false)) = true) (hd : noDefer l = true)
   (hR : R w.drew) (hS : S w.drew) (h : wpOrdC P l.toArray (strictQ Q) R S cut ord a w.drew) : (Code.region id l.toArray true).wpIn (Fence.wide.inRound k) n P Q a w := by
 simp only [Bool.and_eq_true, decide_eq_true_eq] at hB
 obtain ⟨⟨hs, hl⟩, ho⟩ := hB
 refine wpIn_mono (Q := strictQ Q) (wpIn_region_draw fun t => ?_) strictQ_of
 simp only [Region.schedule, hm, Bool.true_or, if_true]
 refine wpOpsIn_of (noDefer_spec hd) (strictQ_no Q) _ _ _ (wpAny_sound _ t _ a _ (wpAny_of_T (T := ThenS cut R S) _ _ _ _ ?_))
 have := wpAnyT_of_ord (md := .any) (Q := strictQ Q) hs (strictQ_p Q) ord true _ a _ ho hR (fun _ => hS) h
 rw [hl] at this
 simpa using this
theorem ordC_nil {a : Act} {w : World} (h : Q .normal a w) : wpOrdC P ops (strictQ Q) R S cut [] a w := h

variable {l : List Oper} {a : Act} {w : World} {r : List (Nat × Nat)} {i : Nat} {o : Oper}
theorem ordC_q (ho : opAt l i = some o) (hw : Region.wanted o (yielded l.toArray a.tmps) = true)
   (h : ∃ v, (∀ w, R w ∧ S w → (execOp a.eval o).run P w = .ok (.value v) w) ∧ wpOrdC P l.toArray Q R S cut r (a.put o.dst v) w) : wpOrdC P l.toArray Q R S cut ((i, 0) :: r) a w :=
 let ⟨v, h1, h2⟩ := h
 ⟨o, v, opAt_get _ _ _ ho, .inl ⟨hw, h1⟩, h2⟩
theorem ordC_p (ho : opAt l i = some o) (hw : Region.wanted o (yielded l.toArray a.tmps) = true)
   (h : ∃ v, (∀ w, R w → (execOp a.eval o).run P w = .ok (.value v) w) ∧ wpOrdC P l.toArray Q R S cut r (a.put o.dst v) w) : wpOrdC P l.toArray Q R S cut ((i, 1) :: r) a w :=
 let ⟨v, h1, h2⟩ := h
 ⟨o, v, opAt_get _ _ _ ho, .inl ⟨hw, h1⟩, h2⟩
theorem ordC_skip (ho : opAt l i = some o) (hw : Region.wanted o (yielded l.toArray a.tmps) = false) (hn : wpOrdC P l.toArray Q R S cut r (a.put o.dst undef) w) : wpOrdC P l.toArray Q R S cut ((i, 0) :: r) a w :=
 ⟨o, undef, opAt_get _ _ _ ho, .inr ⟨hw, rfl⟩, hn⟩
theorem ordC_skip1 (ho : opAt l i = some o) (hw : Region.wanted o (yielded l.toArray a.tmps) = false) (hn : wpOrdC P l.toArray Q R S cut r (a.put o.dst undef) w) : wpOrdC P l.toArray Q R S cut ((i, 1) :: r) a w :=
 ⟨o, undef, opAt_get _ _ _ ho, .inr ⟨hw, rfl⟩, hn⟩
theorem ordC_l (ho : opAt l i = some o) (hw : Region.wanted o (yielded l.toArray a.tmps) = true) (h : ∀ K : Act → World → Prop, (∀ a w, R w ∧ S w → wpOrdC P l.toArray Q R S cut r a w → K a w) → o.wp P a w K Q) :
   wpOrdC P l.toArray Q R S cut ((i, 2) :: r) a w := by
 have ho' := opAt_get _ _ _ ho
 show wpOp _ _ _ _ _ _ _
 unfold wpOp
 simp only [ho', hw, if_true]
 exact .inl (h _ fun _ _ h1 h2 => ⟨⟨h1.1, .inr fun _ => h1.2⟩, h2⟩)
theorem ordC_m (hc : decide (cut ≤ i) = true) (ho : opAt l i = some o) (hw : Region.wanted o (yielded l.toArray a.tmps) = true) (h : ∀ K : Act → World → Prop, (∀ a w, R w → wpOrdC P l.toArray Q R S cut r a w → K a w) → o.wp P a w K Q) :
   wpOrdC P l.toArray Q R S cut ((i, 2) :: r) a w := by
 have ho' := opAt_get _ _ _ ho
 show wpOp _ _ _ _ _ _ _
 unfold wpOp
 simp only [ho', hw, if_true]
 exact .inl (h _ fun _ _ h1 h2 => ⟨⟨h1, .inl (of_decide_eq_true hc)⟩, h2⟩)
end
end Yd


namespace Yd
open Go Go.RowKit

theorem alloc_new (w : World) (o : Obj) : (w.alloc o).heap[w.heap.size]? = some o := by
 show (w.heap.push o)[w.heap.size]? = some o
 simp

def Own {α : Type} (w : World) (B : Nat) (E : TypeId) (k : Nat) (enc : α → List Value) (v : Value) (xs : List α) : Prop :=
 w.ownsRow B E k v xs.length (xs.flatMap enc)

class Cells {α : Type} (enc : α → List Value) (k : Nat) : Prop where
 len : ∀ x, (enc x).length = k
 pos : 0 < k
 one : ∀ x, ∀ u ∈ enc x, u.oneCell' = true

instance cInsInt : Cells encInt 1 := ⟨fun _ => rfl, by decide, fun x u h => by simp [encInt] at h; subst h; rfl⟩
instance cInsStr : Cells encStr 1 := ⟨fun _ => rfl, by decide, fun x u h => by simp [encStr] at h; subst h; rfl⟩
instance cInsSn : Cells encSn 3 := ⟨fun _ => rfl, by decide, fun x u h => by simp [encSn] at h; rcases h with rfl | rfl | rfl <;> rfl⟩
instance cInsWa : Cells encWa 2 := ⟨fun _ => rfl, by decide, fun x u h => by simp [encWa] at h; rcases h with rfl | rfl <;> rfl⟩
instance cInsTo : Cells encTo 2 := ⟨fun _ => rfl, by decide, fun x u h => by simp [encTo] at h; rcases h with rfl | rfl <;> rfl⟩
instance cInsOr : Cells encOr 2 := ⟨fun _ => rfl, by decide, fun x u h => by simp [encOr] at h; rcases h with rfl | rfl <;> rfl⟩
instance cInsMa : Cells encMa 4 := ⟨fun _ => rfl, by decide, fun x u h => by simp [encMa] at h; rcases h with rfl | rfl | rfl | rfl <;> rfl⟩
instance cInsLn : Cells encLn 6 := ⟨fun _ => rfl, by decide, fun x u h => by simp [encLn] at h; rcases h with rfl | rfl | rfl | rfl | rfl | rfl <;> rfl⟩
instance cInsEv : Cells encEv 9 := ⟨fun _ => rfl, by decide, fun x u h => by simp [encEv] at h; rcases h with rfl | rfl | rfl | rfl | rfl | rfl | rfl | rfl | rfl <;> rfl⟩

section
variable {α : Type} {enc : α → List Value} {k : Nat}
theorem flat_len [hc : Cells enc k] (xs : List α) : (xs.flatMap enc).length = xs.length * k := by
 induction xs with
 | nil => simp
 | cons x xs ih => simp [List.flatMap_cons, ih, hc.len x, Nat.add_mul, Nat.add_comm]
theorem flat_get [hc : Cells enc k] (xs : List α) : ∀ (i : Nat) (x : α) (j : Nat) (v : Value), xs[i]? = some x → (enc x)[j]? = some v → (xs.flatMap enc)[i * k + j]? = some v := by
 induction xs with
 | nil => intro i x j v h; simp at h
 | cons y ys ih =>
   intro i x j v hx hv
   have hj : j < k := by
     have := (List.getElem?_eq_some_iff.1 hv).1
     rw [hc.len x] at this; exact this
   rw [List.flatMap_cons]
   cases i with
   | zero =>
     have e : y = x := by simpa using hx
     subst e
     rw [Nat.zero_mul, Nat.zero_add, List.getElem?_append_left (by rw [hc.len y]; exact hj)]
     exact hv
   | succ i =>
     rw [List.getElem?_append_right (by rw [hc.len y, Nat.succ_mul]; omega), hc.len y, show (i + 1) * k + j - k = i * k + j by rw [Nat.succ_mul]; omega]
     exact ih i x j v (by simpa using hx) hv
theorem get_flat [hc : Cells enc k] (xs : List α) : ∀ (q : Nat) (v : Value), (xs.flatMap enc)[q]? = some v → ∃ i x j, xs[i]? = some x ∧ (enc x)[j]? = some v ∧ q = i * k + j := by
 induction xs with
 | nil => intro q v h; simp at h
 | cons y ys ih =>
   intro q v h
   rw [List.flatMap_cons] at h
   rcases Nat.lt_or_ge q k with hq | hq
   · rw [List.getElem?_append_left (by rw [hc.len y]; exact hq)] at h
     exact ⟨0, y, q, rfl, h, by omega⟩
   · rw [List.getElem?_append_right (by rw [hc.len y]; exact hq), hc.len y] at h
     obtain ⟨i, x, j, hx, hv, he⟩ := ih _ _ h
     exact ⟨i + 1, x, j, by simpa using hx, hv, by rw [Nat.succ_mul]; omega⟩
theorem flat_one [hc : Cells enc k] (xs : List α) : ∀ u ∈ xs.flatMap enc, u.oneCell' = true := by
 intro u hu
 obtain ⟨x, _, h⟩ := List.mem_flatMap.1 hu
 exact hc.one x u h

variable {w w' : World} {B : Nat} {E : TypeId} {v : Value} {xs : List α}
theorem Own.nil_ (w : World) (B : Nat) (E : TypeId) (k : Nat) (enc : α → List Value) : Own w B E k enc (.slice none 0 0) [] := World.ownsRow_nil w B E k
theorem Own.shape (h : Own w B E k enc v xs) : ∃ a c, v = .slice a xs.length c ∧ (a = none → c = 0) ∧ xs.length ≤ c := by
 rcases h.2 with ⟨rfl, h0⟩ | ⟨g, cap, cur, rfl, _, _, hn, _⟩
 · exact ⟨none, 0, by rw [h0], fun _ => rfl, by omega⟩
 · exact ⟨_, cap, rfl, (fun h => by cases h), hn⟩
theorem Own.row [hc : Cells enc k] {a : Option Addr} {n c : Nat} (h : Own w B E k enc (.slice a n c) xs) (hle : xs.length ≤ 140737488355328) : Row w k enc a n c xs := by
 obtain ⟨h1, h2⟩ := h
 rcases h2 with ⟨he, h0⟩ | ⟨g, cap, cur, he, _, hh, hn, _, hs, ht⟩
 · injection he with e1 e2 e3
   subst e1 e2 e3
   have hx : xs = [] := List.eq_nil_of_length_eq_zero h0
   subst hx
   exact Row.nil_
 · injection he with e1 e2 e3
   subst e1 e2 e3
   refine ⟨rfl, hn, hle, (fun h => by cases h), fun i x hx => ⟨g, 0, rfl, fun j v hv => ?_⟩⟩
   have hf := flat_get (hc := hc) xs i x j v hx hv
   have hlt : i * k + j < xs.length * k := by rw [← h1]; exact (List.getElem?_eq_some_iff.1 hf).1
   rw [← ht, List.getElem?_take, if_pos hlt] at hf
   simp only [Nat.zero_add]
   unfold World.cell?
   simp [hh]
   simpa using hf
theorem Own.lt (h : Own w B E k enc v xs) : ∀ g, v.ownBlock = some g → B ≤ g ∧ g < w.heap.size := World.ownsRow.lt h
theorem Own.alloc (h : Own w B E k enc v xs) (o : Obj) : Own (w.alloc o) B E k enc v xs := World.ownsRow.alloc h o
theorem Own.drew (h : Own w B E k enc v xs) : Own w.drew B E k enc v xs := h
theorem Own.block (h : Own w B E k enc v xs) (hk : ∀ g, v.ownBlock = some g → w'.heap[g]? = w.heap[g]?) : Own w' B E k enc v xs := by
 obtain ⟨h1, h2⟩ := h
 refine ⟨h1, ?_⟩
 rcases h2 with h2 | ⟨g, cap, cur, rfl, hB, hh, r⟩
 · exact .inl h2
 · exact .inr ⟨g, cap, cur, rfl, hB, by rw [hk g rfl]; exact hh, r⟩
theorem Own.below {D : Nat} (h : Own w B E k enc v xs) (hb : Below D w w') (hD : D = w.heap.size) : Own w' B E k enc v xs :=
 h.block fun g hg => hb.block g (by rw [hD]; exact (h.lt g hg).2)
theorem Own.mono {B' : Nat} (h : Own w B E k enc v xs) (hB : B' ≤ B) : Own w B' E k enc v xs := by
 obtain ⟨h1, h2⟩ := h
 refine ⟨h1, ?_⟩
 rcases h2 with h2 | ⟨g, cap, cur, rfl, hB', r⟩
 · exact .inl h2
 · exact .inr ⟨g, cap, cur, rfl, by omega, r⟩
theorem Own.new (w : World) (B : Nat) (E : TypeId) [hc : Cells enc k] (cs : Array Value) (xs : List α) (hB : B ≤ w.heap.size) (he : cs.toList = xs.flatMap enc) (hle : xs.length ≤ maxLen) :
   Own (w.alloc (.cells cs E)) B E k enc (.slice (some ⟨w.heap.size, 0, none⟩) xs.length xs.length) xs := by
 have hs : cs.size = xs.length * k := by rw [← Array.length_toList, he, flat_len (hc := hc)]
 refine ⟨flat_len xs, .inr ⟨w.heap.size, xs.length, cs, rfl, hB, alloc_new w _, Nat.le_refl _, hle, hs, ?_⟩⟩
 rw [List.take_of_length_le (by rw [Array.length_toList, hs]; exact Nat.le_refl _), he]

theorem run_app [hc : Cells enc k] {P : Program} (t ty : TypeId) (i : TypeInfo) (z : Value) (bytes : Nat) (ht : P.underlying t = some (.slice E)) (hi : P.info? E = some i) (hz : i.zero = some z)
   (hsize : i.size = k) (hby : i.bytes = bytes) (hzs : z.cells.size = k) (hown : Own w B E k enc v xs)
   {a : Option Addr} {m c : Nat} {ys : List α} (hr : Row w k enc a m c ys) (hbytes : (xs.length + m) * bytes ≤ 140737488355328) (h63 : xs.length + m ≤ maxLen) (hbase : B ≤ w.heap.size) :
   ∃ a' c' w', (Builtin.append_ #[t, t] ty #[v, .slice a m c]).run P w = .ok (.slice a' (xs ++ ys).length c') w' ∧ Own w' B E k enc (.slice a' (xs ++ ys).length c') (xs ++ ys) ∧ w.grownBy w' v.ownBlock ∧
     ((Value.slice a' (xs ++ ys).length c').ownBlock = v.ownBlock ∨ (Value.slice a' (xs ++ ys).length c').ownBlock = some w.heap.size) := by
 cases a with
 | none =>
   obtain ⟨rfl, rfl, rfl⟩ := hr.none_
   obtain ⟨a, c, rfl, _, _⟩ := hown.shape
   refine ⟨a, c, w, ?_, ?_, World.grownBy.refl w _, .inl ?_⟩
   · simpa using run_append_owned_none (P := P) (w := w) B t ty E i k ht hi _ _ _ hown
   · simpa using hown
   · rw [List.append_nil]
 | some ad =>
   have hm : ys.length = m := hr.len
   have hcells : ∀ j u, (ys.flatMap enc)[j]? = some u → w.cell? (ad.add j) = some u := by
     intro j u hu
     obtain ⟨i', x, j', hx, hv, he⟩ := get_flat (hc := hc) ys j u hu
     obtain ⟨b, o, ha, hcell⟩ := hr.2.2.2.2 i' x hx
     injection ha with ha
     subst ha
     have h := hcell j' u hv
     rw [he]
     unfold Addr.add
     split
     · rename_i h0
       rw [show o + i' * k + j' = o by omega] at h; exact h
     · rw [← Nat.add_assoc]; exact h
   obtain ⟨v', w', hrun, h1, h2, _, h4⟩ := run_append_own_at (P := P) w B t ty E i z k bytes ht hi hz hsize hby hzs hc.pos v xs.length (xs.flatMap enc) hown ad m c (ys.flatMap enc) (by rw [flat_len (hc := hc), hm]) hcells (flat_one (hc := hc) ys) h63 hbytes hbase
   have hown' : Own w' B E k enc v' (xs ++ ys) := by
     unfold Own
     rw [List.flatMap_append, List.length_append, hm]; exact h1
   obtain ⟨a', c', rfl, _, _⟩ := hown'.shape
   exact ⟨a', c', w', hrun, hown', h2, h4⟩

theorem wp_app [hc : Cells enc k] {P : Program} {o : Oper} {ac : Act} {K : Act → World → Prop} {Q : Exit → Act → World → Prop} (s x : Operand) (t : TypeId)
   (ho : o.op = .call { callee := .builtin .append, args := #[s, x], argTypes := #[t, t] }) (i : TypeInfo) (z : Value) (bytes : Nat) (ht : P.underlying t = some (.slice E)) (hi : P.info? E = some i) (hz : i.zero = some z)
   (hsize : i.size = k) (hby : i.bytes = bytes) (hzs : z.cells.size = k) (hs : ac.eval s = v) (hown : Own w B E k enc v xs)
   (a : Option Addr) (m c N : Nat) (ys : List α) (hx : ac.eval x = .slice a m c) (hr : Row w k enc a m c ys) (hN : xs.length + m = N) (hbytes : N * bytes ≤ 140737488355328) (h63 : N ≤ maxLen) (hbase : B ≤ w.heap.size)
   (h : ∀ a' c' w', Own w' B E k enc (.slice a' N c') (xs ++ ys) → w.grownBy w' v.ownBlock → ((Value.slice a' N c').ownBlock = v.ownBlock ∨ (Value.slice a' N c').ownBlock = some w.heap.size) → K (ac.put o.dst (.slice a' N c')) w') : o.wp P ac w K Q := by
 subst hN
 obtain ⟨a', c', w', hrun, h2, h3, h4⟩ := run_app (P := P) t o.type i z bytes ht hi hz hsize hby hzs hown hr hbytes h63 hbase
 have hl : (xs ++ ys).length = xs.length + m := by rw [List.length_append, hr.len]
 rw [hl] at hrun h2 h4
 unfold Oper.wp execOp
 simp only [ho, resolve, invoke, builtin, Sem.run_bind, Sem.run_pure, Result.andThen_ok, List.map_toArray, List.map_cons, List.map_nil, hs, hx, hrun]
 exact h a' c' w' h2 h3 h4
theorem wpList_app [hc : Cells enc k] {P : Program} {ops : Array Oper} {rest : List Oper} {o : Oper} {ac : Act} {Q : Exit → Act → World → Prop} (hgd : o.guard = none) (s x : Operand) (t : TypeId)
   (ho : o.op = .call { callee := .builtin .append, args := #[s, x], argTypes := #[t, t] }) (i : TypeInfo) (z : Value) (bytes : Nat) (ht : P.underlying t = some (.slice E)) (hi : P.info? E = some i) (hz : i.zero = some z)
   (hsize : i.size = k) (hby : i.bytes = bytes) (hzs : z.cells.size = k) (hs : ac.eval s = v) (hown : Own w B E k enc v xs)
   (a : Option Addr) (m c N : Nat) (ys : List α) (hx : ac.eval x = .slice a m c) (hr : Row w k enc a m c ys) (hN : xs.length + m = N) (hbytes : N * bytes ≤ 140737488355328) (h63 : N ≤ maxLen) (hbase : B ≤ w.heap.size)
   (h : ∀ a' c' w', Own w' B E k enc (.slice a' N c') (xs ++ ys) → w.grownBy w' v.ownBlock → ((Value.slice a' N c').ownBlock = v.ownBlock ∨ (Value.slice a' N c').ownBlock = some w.heap.size) → wpList P ops Q rest (ac.put o.dst (.slice a' N c')) w') :
   wpList P ops Q (o :: rest) ac w :=
 wpList_plain hgd fun _ hK => wp_app s x t ho i z bytes ht hi hz hsize hby hzs hs hown a m c N ys hx hr hN hbytes h63 hbase fun a' c' w' h2 h3 h4 => hK _ _ (h a' c' w' h2 h3 h4)

theorem below_app {D : Nat} {a0 : World} (hb : Below D a0 w) (hown : Own w B E k enc v xs) (hD : D ≤ B) (hsz : D ≤ w.heap.size) (hg : w.grownBy w' v.ownBlock) : Below D a0 w' :=
 hb.grown hg hsz fun g e => Nat.le_trans hD (hown.lt g e).1
def RetOwn (E : TypeId) (k : Nat) (enc : α → List Value) (xs : List α) (w : World) (e : Ending) (w' : World) : Prop :=
 ∃ a c, e = .returned (.slice a xs.length c) ∧ Own w' w.heap.size E k enc (.slice a xs.length c) xs ∧ Below w.heap.size w w'
end
end Yd


namespace Yd
open Go
inductive OT where
 | nil
 | q (i c : Nat) (r : OT)
 | l (i : Nat) (r : OT)
 | alt (i : Nat) (r : OT) (j : Nat) (s : OT)
def OT.size : OT → Nat
 | .nil => 0
 | .q _ _ r => r.size + 1
 | .l _ r => r.size + 1
 | .alt _ r _ _ => r.size + 1
section
variable {P : Program} {ops : Array Oper} {Q : Exit → Act → World → Prop} {md : Region.Mode} {R S : World → Prop} {cut : Nat}
def wpOrdT (P : Program) (ops : Array Oper) (Q : Exit → Act → World → Prop) (R S : World → Prop) (cut : Nat) : OT → Act → World → Prop
 | .nil, a, w => Q .normal a w
 | .q i 0 r, a, w => ∃ o v, ops[i]? = some o ∧ YieldsIf P ops (fun w => R w ∧ S w) o v a ∧ wpOrdT P ops Q R S cut r (a.put o.dst v) w
 | .q i (_ + 1) r, a, w => ∃ o v, ops[i]? = some o ∧ YieldsIf P ops R o v a ∧ wpOrdT P ops Q R S cut r (a.put o.dst v) w
 | .l i r, a, w => wpOp P ops Q i (fun a' w' => ThenS cut R S i w w' ∧ wpOrdT P ops Q R S cut r a' w') a w
 | .alt i r j s, a, w => wpOp P ops Q i (fun a' w' => ThenS cut R S i w w' ∧ wpOrdT P ops Q R S cut r a' w') a w ∧ wpOp P ops Q j (fun a' w' => ThenS cut R S j w w' ∧ wpOrdT P ops Q R S cut s a' w') a w
def okOrdT (md : Region.Mode) (ops : Array Oper) (cut : Nat) : OT → Bool → Array Bool → Bool
 | .nil, _, listed => (Region.ready md ops listed).isEmpty
 | .q i 0 r, held, listed => (Region.ready md ops listed).contains i && Region.free md ops listed i && (held && waits md ops cut i) && okOrdT md ops cut r held (listed.setIfInBounds i true)
 | .q i (_ + 1) r, held, listed => (Region.ready md ops listed).contains i && Region.free md ops listed i && okOrdT md ops cut r held (listed.setIfInBounds i true)
 | .l i r, held, listed => decide (Region.ready md ops listed = [i]) && okOrdT md ops cut r (held && decide (i < cut)) (listed.setIfInBounds i true)
 | .alt i r j s, held, listed => decide (Region.ready md ops listed = [i, j]) && decide (r.size = s.size) && okOrdT md ops cut r (held && decide (i < cut)) (listed.setIfInBounds i true) && okOrdT md ops cut s (held && decide (j < cut)) (listed.setIfInBounds j true)
theorem held_step {i : Nat} {held : Bool} {w w' : World} (hS : held = true → S w) (h : ThenS cut R S i w w') (hh : (held && decide (i < cut)) = true) : S w' := by
 simp only [Bool.and_eq_true, decide_eq_true_eq] at hh
 rcases h.2 with h1 | h1
 · omega
 · exact h1 (hS hh.1)
theorem wpAnyT_of_ordT (hs : Region.noSelect ops = true) (hQ : ∀ d v c a w, Q (.panic c) (Act.put a d v) w → Q (.panic c) a w) :
   ∀ (l : OT) (held : Bool) (listed : Array Bool) (a : Act) (w : World), okOrdT md ops cut l held listed = true → R w → (held = true → S w) → wpOrdT P ops Q R S cut l a w → wpAnyT P md ops Q (ThenS cut R S) l.size listed a w
 | .nil, _, listed, a, w, hB, _, _, h => ⟨by simpa [okOrdT] using hB, h⟩
 | .q i 0 r, held, listed, a, w, hB, hR, hS, h => by
   simp only [okOrdT, Bool.and_eq_true] at hB
   obtain ⟨⟨⟨hr, hf⟩, hh, hc⟩, hB'⟩ := hB
   obtain ⟨o, v, ho, hy, hn⟩ := h
   have hrest := wpAnyT_of_ordT hs hQ r held _ _ _ hB' hR hS hn
   refine wpAnyT_first (S := fun w => R w ∧ S w) ho (Region.noSelect_spec hs) (fun c a w => hQ _ _ c a w) (fun _ h => ⟨h.1, .inr id⟩) (fun j oj hj hne hno w w' hw' hw => ⟨hw'.1, ?_⟩) r.size listed a w (Region.free_spec ho hf) (by simpa using hr) hy ⟨hR, hS hh⟩ hrest
   rcases hw'.2 with h1 | h1
   · exact absurd (waits_spec hc j oj hj hno) (by omega)
   · exact h1 hw.2
 | .q i (_ + 1) r, held, listed, a, w, hB, hR, hS, h => by
   simp only [okOrdT, Bool.and_eq_true] at hB
   obtain ⟨⟨hr, hf⟩, hB'⟩ := hB
   obtain ⟨o, v, ho, hy, hn⟩ := h
   have hrest := wpAnyT_of_ordT hs hQ r held _ _ _ hB' hR hS hn
   exact wpAnyT_first (S := R) ho (Region.noSelect_spec hs) (fun c a w => hQ _ _ c a w) (fun _ h => ⟨h, .inr id⟩) (fun j oj hj hne hno w w' hw' _ => hw'.1) r.size listed a w (Region.free_spec ho hf) (by simpa using hr) hy hR hrest
 | .l i r, held, listed, a, w, hB, hR, hS, h => by
   simp only [okOrdT, Bool.and_eq_true, decide_eq_true_eq] at hB
   obtain ⟨hr, hB'⟩ := hB
   refine ⟨fun h0 => (by rw [hr] at h0; cases h0), fun j hj => ?_⟩
   rw [hr] at hj
   obtain rfl : j = i := by simpa using hj
   exact wpOp_mono (fun a' w' hh => ⟨hh.1, wpAnyT_of_ordT hs hQ r _ _ a' w' hB' hh.1.1 (held_step hS hh.1) hh.2⟩) h
 | .alt i r k s, held, listed, a, w, hB, hR, hS, h => by
   simp only [okOrdT, Bool.and_eq_true, decide_eq_true_eq] at hB
   obtain ⟨⟨⟨hr, hz⟩, hB1⟩, hB2⟩ := hB
   refine ⟨fun h0 => (by rw [hr] at h0; cases h0), fun j hj => ?_⟩
   rw [hr] at hj
   rcases (by simpa using hj : j = i ∨ j = k) with rfl | rfl
   · exact wpOp_mono (fun a' w' hh => ⟨hh.1, wpAnyT_of_ordT hs hQ r _ _ a' w' hB1 hh.1.1 (held_step hS hh.1) hh.2⟩) h.1
   · refine wpOp_mono (fun a' w' hh => ⟨hh.1, ?_⟩) h.2
     have := wpAnyT_of_ordT hs hQ s _ _ a' w' hB2 hh.1.1 (held_step hS hh.1) hh.2
     show wpAnyT P md ops Q (ThenS cut R S) r.size _ a' w'
     rw [hz]; exact this
theorem wp_region_ordT {id : Nat} {a : Act} {w : World} {l : List Oper} (cut : Nat) (ord : OT) (R S : World → Prop) (hm : P.follows .mixedOrders = true)
   (hB : (Region.noSelect l.toArray && decide (ord.size = l.length) && okOrdT .any l.toArray cut ord true (Array.replicate l.toArray.size false)) = true)
   (hR : R w.drew) (hS : S w.drew) (h : wpOrdT P l.toArray (strictQ Q) R S cut ord a w.drew) : (Code.region id l.toArray true).wp P Q a w := by
 simp only [Bool.and_eq_true, decide_eq_true_eq] at hB
 obtain ⟨⟨hs, hl⟩, ho⟩ := hB
 refine wp_mono (Q := strictQ Q) (wp_region_any hm (wpAny_of_T (T := ThenS cut R S) _ _ _ _ ?_)) strictQ_of
 have := wpAnyT_of_ordT (md := .any) (Q := strictQ Q) hs (strictQ_p Q) ord true _ a _ ho hR (fun _ => hS) h
 rw [hl] at this
 simpa using this
theorem ordT_nil {a : Act} {w : World} (h : Q .normal a w) : wpOrdT P ops (strictQ Q) R S cut .nil a w := h
variable {l : List Oper} {a : Act} {w : World} {r s : OT} {i j : Nat} {o : Oper}
theorem ordT_q (ho : opAt l i = some o) (hw : Region.wanted o (yielded l.toArray a.tmps) = true)
   (h : ∃ v, (∀ w, R w ∧ S w → (execOp a.eval o).run P w = .ok (.value v) w) ∧ wpOrdT P l.toArray Q R S cut r (a.put o.dst v) w) : wpOrdT P l.toArray Q R S cut (.q i 0 r) a w :=
 let ⟨v, h1, h2⟩ := h
 ⟨o, v, opAt_get _ _ _ ho, .inl ⟨hw, h1⟩, h2⟩
theorem ordT_p (ho : opAt l i = some o) (hw : Region.wanted o (yielded l.toArray a.tmps) = true)
   (h : ∃ v, (∀ w, R w → (execOp a.eval o).run P w = .ok (.value v) w) ∧ wpOrdT P l.toArray Q R S cut r (a.put o.dst v) w) : wpOrdT P l.toArray Q R S cut (.q i 1 r) a w :=
 let ⟨v, h1, h2⟩ := h
 ⟨o, v, opAt_get _ _ _ ho, .inl ⟨hw, h1⟩, h2⟩
theorem ordT_one (ho : opAt l i = some o) (hw : Region.wanted o (yielded l.toArray a.tmps) = true) (h : ∀ K : Act → World → Prop, (∀ a w, R w ∧ S w → wpOrdT P l.toArray Q R S cut r a w → K a w) → o.wp P a w K Q) :
   wpOp P l.toArray Q i (fun a' w' => ThenS cut R S i w w' ∧ wpOrdT P l.toArray Q R S cut r a' w') a w := by
 have ho' := opAt_get _ _ _ ho
 unfold wpOp
 simp only [ho', hw, if_true]
 exact .inl (h _ fun _ _ h1 h2 => ⟨⟨h1.1, .inr fun _ => h1.2⟩, h2⟩)
theorem ordT_l (ho : opAt l i = some o) (hw : Region.wanted o (yielded l.toArray a.tmps) = true) (h : ∀ K : Act → World → Prop, (∀ a w, R w ∧ S w → wpOrdT P l.toArray Q R S cut r a w → K a w) → o.wp P a w K Q) :
   wpOrdT P l.toArray Q R S cut (.l i r) a w := ordT_one ho hw h
theorem ordT_m (hc : decide (cut ≤ i) = true) (ho : opAt l i = some o) (hw : Region.wanted o (yielded l.toArray a.tmps) = true) (h : ∀ K : Act → World → Prop, (∀ a w, R w → wpOrdT P l.toArray Q R S cut r a w → K a w) → o.wp P a w K Q) :
   wpOrdT P l.toArray Q R S cut (.l i r) a w := by
 have ho' := opAt_get _ _ _ ho
 show wpOp _ _ _ _ _ _ _
 unfold wpOp
 simp only [ho', hw, if_true]
 exact .inl (h _ fun _ _ h1 h2 => ⟨⟨h1, .inl (of_decide_eq_true hc)⟩, h2⟩)
end
end Yd
