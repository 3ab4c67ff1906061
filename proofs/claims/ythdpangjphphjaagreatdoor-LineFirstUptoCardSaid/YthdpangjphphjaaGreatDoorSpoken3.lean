import Derived.OrdersHeld
import Derived.Still
import Derived.Tactics
import Derived.Tactics2
import Derived.Test.YthdpangjphphjaaGreatDoorProg
import Derived.Test.YthdpangjphphjaaGreatDoorEq
import Derived.Test.YthdpangjphphjaaGreatDoorRf
import Derived.WalkSpells
import Derived.BigQuiet
import Derived.Laws.EntriesVeiled
import Derived.WalkMore
import Derived.ScopeJumps
import Derived.Scope
import Derived.LoopIn
import Derived.LoopNIn
import Derived.TacticsInMore
import Derived.OwnWalkIn
import Derived.Shelf.Abstract
import Derived.Shelf.RegionOpen
set_option maxRecDepth 200000
set_option maxHeartbeats 8000000
namespace Yd
open Go
section
variable {P : Program} {ops : Array Oper} {Q : Exit → Act → World → Prop} {md : Region.Mode} {S : World → Prop}

def wpOrd (P : Program) (ops : Array Oper) (Q : Exit → Act → World → Prop) (S : World → Prop) : List (Nat × Bool) → Act → World → Prop
 | [], a, w => Q .normal a w
 | (i, true) :: r, a, w => ∃ o v, ops[i]? = some o ∧ YieldsIf P ops S o v a ∧ wpOrd P ops Q S r (a.put o.dst v) w
 | (i, false) :: r, a, w => wpOp P ops Q i (fun a' w' => S w' ∧ wpOrd P ops Q S r a' w') a w

def okOrd (md : Region.Mode) (ops : Array Oper) : List (Nat × Bool) → Array Bool → Bool
 | [], listed => (Region.ready md ops listed).isEmpty
 | (i, true) :: r, listed => (Region.ready md ops listed).contains i && Region.free md ops listed i && okOrd md ops r (listed.setIfInBounds i true)
 | (i, false) :: r, listed => decide (Region.ready md ops listed = [i]) && okOrd md ops r (listed.setIfInBounds i true)

theorem wpAnyH_of_ord (hs : Region.noSelect ops = true) (hQ : ∀ d v c a w, Q (.panic c) (Act.put a d v) w → Q (.panic c) a w) :
   ∀ (l : List (Nat × Bool)) (listed : Array Bool) (a : Act) (w : World), okOrd md ops l listed = true → S w → wpOrd P ops Q S l a w → wpAnyH P md ops Q S l.length listed a w
 | [], listed, a, w, hB, _, h => ⟨by simpa [okOrd] using hB, h⟩
 | (i, true) :: r, listed, a, w, hB, hS, h => by
   simp only [okOrd, Bool.and_eq_true] at hB
   obtain ⟨⟨hr, hf⟩, hB'⟩ := hB
   obtain ⟨o, v, ho, hy, hn⟩ := h
   exact wpAnyH_first ho (Region.noSelect_spec hs) (fun c a w => hQ _ _ c a w) r.length listed a w (Region.free_spec ho hf) (by simpa using hr) hy hS
     (wpAnyH_of_ord hs hQ r _ _ _ hB' hS hn)
 | (i, false) :: r, listed, a, w, hB, hS, h => by
   simp only [okOrd, Bool.and_eq_true, decide_eq_true_eq] at hB
   obtain ⟨hr, hB'⟩ := hB
   refine ⟨fun h0 => (by rw [hr] at h0; cases h0), fun j hj => ?_⟩
   rw [hr] at hj
   obtain rfl : j = i := by simpa using hj
   exact wpOp_mono (fun a' w' hh => ⟨hh.1, wpAnyH_of_ord hs hQ r _ a' w' hB' hh.1 hh.2⟩) h

def opAt : List Oper → Nat → Option Oper
 | [], _ => none
 | o :: _, 0 => some o
 | _ :: l, i + 1 => opAt l i
theorem opAt_get : ∀ (l : List Oper) (i : Nat) (o : Oper), opAt l i = some o → l.toArray[i]? = some o
 | [], _, _, h => by cases h
 | x :: _, 0, o, h => by simpa [opAt] using h
 | _ :: l, i + 1, o, h => by have := opAt_get l i o h; simpa using this

variable {l : List Oper} {a : Act} {w : World} {r : List (Nat × Bool)} {i : Nat} {o : Oper}
end
end Yd


namespace Yd
open Go Go.RowKit Go.Proofs

structure Sl where
 a : Option Addr
 n : Nat
 c : Nat
@[reducible] def Sl.v (s : Sl) : Value := .slice s.a s.n s.c
structure HC where
 t : Sl
 s : Sl
 o : Sl
 p : Sl
 e : Sl
 d : Sl
 m : Sl
 w : Sl
@[reducible] def cellsH (h : HC) : Array Value := #[h.t.v, h.s.v, h.o.v, h.p.v, h.e.v, h.d.v, h.m.v, h.w.v]

def levelB (l : Int) : Bool := decide (1 ≤ l) && decide (l ≤ 4)
def levelE (l : Int) : Int := if levelB l = true then 0 else 190
theorem levelE_yes {l : Int} (h : levelB l = true) : levelE l = 0 := by simp [levelE, h]
theorem levelE_no {l : Int} (h : levelB l = false) : levelE l = 190 := by simp [levelE, h]
theorem level_Check (l : Int) (w : World) : Calls Tryz.prog 101 #[.int .i64 l] w (Ret (.int .i64 (levelE l)) w) := by
 by_cases h1 : 1 ≤ l
 · by_cases h2 : l ≤ 4
   · go_enter Tryz.func101, Tryz.ntmps101
     go_wp2
     go_ret
     exact ⟨by rw [levelE_yes (by simp [levelB, h1, h2])]; rfl, Below.refl _ _⟩
   · go_enter Tryz.func101, Tryz.ntmps101
     go_wp2
     go_ret
     exact ⟨by rw [levelE_no (by simp [levelB]; omega)]; rfl, Below.refl _ _⟩
 · go_enter Tryz.func101, Tryz.ntmps101
   go_wp2
   go_ret
   exact ⟨by rw [levelE_no (by simp [levelB]; omega)]; rfl, Below.refl _ _⟩


end Yd


namespace Yd
open Go Go.RowKit Go.Proofs

end Yd


namespace Yd
open Go Go.RowKit Go.Proofs

end Yd


namespace Yd
open Go Go.RowKit Go.Proofs

end Yd


namespace Yd
open Go Go.RowKit Go.Proofs

end Yd


namespace Yd
open Go Go.RowKit Go.Proofs

end Yd


namespace Yd
open Go Go.RowKit Go.Proofs Go.Maps

def GlobH (w : World) : Prop := Lib.Utf8Tabs 2 3 w ∧ True
theorem GlobH.below {w w' : World} (h : GlobH w) (hb : Below w.heap.size w w') : GlobH w' := ⟨Utf8Tabs_below h.1 hb, trivial⟩
def HC.nm (h : HC) : Nat → Sl
 | 0 => h.t
 | 1 => h.s
 | 2 => h.o
 | _ => h.p
def Deep (w : World) (h : HC) (es : List EvC) (ds : List OrC) (ms : List MaC) (qs : List Wa) (scan : EvC → List Sn) (dn : OrC → List Int) (mn : MaC → List Int) : Prop :=
 Row w 9 encEv h.e.a h.e.n h.e.c es ∧ Row w 2 encOr h.d.a h.d.n h.d.c ds ∧ Row w 4 encMa h.m.a h.m.n h.m.c ms ∧ Row w 2 encWa h.w.a h.w.n h.w.c qs ∧
 (∀ x ∈ es, Row w 3 encSn x.sa x.sn x.sc (scan x)) ∧ (∀ x ∈ ds, Row w 1 encInt x.sa x.sn x.sc (dn x)) ∧ (∀ x ∈ ms, Row w 1 encInt x.sa x.sn x.sc (mn x))
end Yd


namespace Yd
open Go Go.RowKit Go.Proofs

def formV : Nat → Bs
 | 0 => []
 | 1 => [98, 101, 103, 105, 110]
 | 2 => [119, 114, 105, 116, 101]
 | 3 => [114, 101, 97, 100]
 | 4 => [115, 99, 97, 110]
 | 5 => [99, 111, 109, 109, 105, 116]
 | 6 => [97, 98, 111, 114, 116]
 | 7 => [111, 114, 100, 101, 114]
 | 8 => [109, 97, 116, 99, 104]
 | _ => [119, 97, 110, 116]
def formN : Nat → Int
 | 0 => 0
 | 1 => 2
 | 2 => 2
 | 3 => 2
 | 4 => 2
 | 5 => 1
 | 6 => 1
 | 7 => 1
 | 8 => 2
 | _ => 1
def formR : Nat → Int
 | 0 => 0
 | 1 => 108
 | 2 => 0
 | 3 => 118
 | 4 => 115
 | 5 => 0
 | 6 => 0
 | 7 => 116
 | 8 => 109
 | _ => 103
def guardT : Nat → Bs
 | 0 => [114, 121, 119]
 | 1 => [109, 114]
 | 2 => [109, 119]
 | _ => [119, 102, 114]
def levelT : Nat → Bs
 | 0 => []
 | 1 => [49]
 | 2 => [50]
 | 3 => [50, 46, 57, 57]
 | _ => [51]

def GlobL (w : World) : Prop := GlobH w ∧ (∀ k, k < 10 → w.cell? ⟨0, 3 * k, none⟩ = some (.string ⟨(formV k).toArray⟩) ∧ w.cell? ⟨0, 3 * k + 1, none⟩ = some (.int .i64 (formN k)) ∧ w.cell? ⟨0, 3 * k + 2, none⟩ = some (.int .i32 (formR k))) ∧
 (∀ i, i < 4 → w.cell? ⟨1, i, none⟩ = some (.string ⟨(guardT i).toArray⟩)) ∧ (∀ i, i < 5 → w.cell? ⟨4, i, none⟩ = some (.string ⟨(levelT i).toArray⟩))
theorem GlobL.below {w w' : World} (h : GlobL w) (hb : Below w.heap.size w w') : GlobL w' :=
 ⟨h.1.below hb, fun k hk => ⟨bget hb rfl (h.2.1 k hk).1, bget hb rfl (h.2.1 k hk).2.1, bget hb rfl (h.2.1 k hk).2.2⟩, fun i hi => bget hb rfl (h.2.2.1 i hi), fun i hi => bget hb rfl (h.2.2.2 i hi)⟩

theorem names_Check (s : Bs) (w : World) (hT : Lib.Utf8Tabs 2 3 w) : Calls Tryz.prog 54 #[valStr s] w (Ret (.int .i64 (if wordB ⟨s.toArray⟩ = true then 0 else 200)) w) := by
 have HW := hid (word_any ⟨s.toArray⟩ w hT)
 clear hT
 cases hb : wordB ⟨s.toArray⟩
 all_goals
   rw [hb] at HW
   clear hb
   go_enter Tryz.func54, Tryz.ntmps54
   go_wp2_with fail
   refine HW.out.mono ?_
   rintro e w1 ⟨rfl, hb1⟩
   have HB := hid hb1; clear hb1
   go_wp2_with fail
   go_ret
   exact ⟨rfl, HB.out⟩
theorem check2_any (s : Bs) (w : World) (hT : Lib.Utf8Tabs 2 3 w) : Calls Tryz.prog 53 #[valStr s] w (Ret (.bool (!wordB ⟨s.toArray⟩)) w) := by
 have HW := hid (names_Check s w hT)
 clear hT
 cases hb : wordB ⟨s.toArray⟩
 all_goals
   rw [hb] at HW
   clear hb
   go_enter Tryz.func53, Tryz.ntmps53
   go_wp2_with fail
   refine HW.out.mono ?_
   rintro e w1 ⟨rfl, hb1⟩
   have HB := hid hb1; clear hb1
   simp only [if_true, Bool.false_eq_true, if_false]
   go_wp2_with fail
   go_ret
   exact ⟨rfl, HB.out⟩
def toOk (t : To) : Prop := t = ⟨[], 0⟩ ∨ (wordB ⟨t.name.toArray⟩ = true ∧ 0 < t.k ∧ t.k ≤ 999)
theorem may_ok (t : To) (w : World) (hT : Lib.Utf8Tabs 2 3 w) (ht : toOk t) : Calls Tryz.prog 51 #[valTo t] w (Ret (.bool true) w) := by
 rcases ht with rfl | ⟨hw, h0, h9⟩
 · have hq := eqInTo ⟨[], 0⟩ ⟨[], 0⟩
   go_enter Tryz.func51, Tryz.ntmps51
   go_wp2_with fail
   go_ret
   exact ⟨by simp, belowA (Below.refl _ _) _⟩
 · obtain ⟨n, k⟩ := t
   simp only at hw h0 h9
   have hb0 := belowA (Below.refl w.heap.size w) (.cells #[.string ⟨n.toArray⟩, .int .i64 k] 67)
   have HW := hid (names_Check n _ (Utf8Tabs_below hT hb0))
   rw [hw] at HW
   have HB := hid hb0
   have HX := hid (Bx.new w #[.string ⟨n.toArray⟩, .int .i64 k] 67)
   have hk : (k == 0) = false := beq_eq_false_iff_ne.2 (by omega)
   clear hT hw hb0
   go_enter Tryz.func51, Tryz.ntmps51
   go_wp2_with fail
   refine HW.out.mono ?_
   rintro e w1 ⟨rfl, hb1⟩
   have hx := (HX.out.keep hb1).1
   have HB1 := hid (HB.out.trans (hb1.mono HB.out.size)); clear hb1
   simp only [if_true]
   go_wp2_with fail
   go_ret
   exact ⟨by simp, HB1.out⟩
theorem check1_ok (t : To) (w : World) (hT : Lib.Utf8Tabs 2 3 w) (ht : toOk t) : Calls Tryz.prog 50 #[valTo t] w (Ret (.bool false) w) := by
 have hb0 := belowA (Below.refl w.heap.size w) (.cells (cellsTo t) 67)
 have HW := hid (may_ok t _ (Utf8Tabs_below hT hb0) ht)
 have HB := hid hb0
 clear hT hb0 ht
 go_enter Tryz.func50, Tryz.ntmps50
 go_wp2_with fail
 refine HW.out.mono ?_
 rintro e w1 ⟨rfl, hb1⟩
 have HB1 := hid (HB.out.trans (hb1.mono HB.out.size)); clear hb1
 go_wp2_with fail
 go_ret
 exact ⟨rfl, HB1.out⟩
theorem level_no (w : World) : Calls Tryz.prog 44 #[.int .i64 0] w (Ret2 (.string ⟨[].toArray⟩) (.int .i64 190) w) := by
 go_enter Tryz.func44, Tryz.ntmps44
 go_wp2_with (go_at_call 101; refine (level_Check _ _).mono ?_; rintro e w1 ⟨rfl, hb1⟩; rw [show levelE 0 = 190 from rfl])
 go_ret2
 exact ⟨rfl, hb1⟩
theorem level_yes (l : Nat) (h1 : 1 ≤ l) (h4 : l ≤ 4) (w : World) (hg : GlobL w) : Calls Tryz.prog 44 #[.int .i64 l] w (Ret2 (.string ⟨(levelT l).toArray⟩) (.int .i64 0) w) := by
 have hl : levelE (l : Int) = 0 := levelE_yes (by simp [levelB]; omega)
 have HL := hid hl; have HG := hid hg
 clear hl hg
 go_enter Tryz.func44, Tryz.ntmps44
 go_wp2_with fail
 refine (level_Check _ _).mono ?_
 rintro e w1 ⟨rfl, hb1⟩
 rw [HL.out]
 have hc := (HG.out.below hb1).2.2.2 l (by omega)
 have HB := hid hb1; clear hb1
 go_wp2_with fail
 go_ret2
 exact ⟨rfl, HB.out⟩
end Yd


namespace Yd
open Go Go.RowKit Go.Proofs

theorem parts_of {P : Program} {T : TypeId} {k by_ : Nat} (h : (P.info? T).map (fun i => (i.zero.map (·.cells.size), i.size, i.bytes)) = some (some k, k, by_)) :
   ∃ i z, P.info? T = some i ∧ i.zero = some z ∧ i.size = k ∧ i.bytes = by_ ∧ z.cells.size = k := by
 cases hi : P.info? T with
 | none => rw [hi] at h; cases h
 | some i =>
   rw [hi] at h
   simp only [Option.map_some, Option.some.injEq, Prod.mk.injEq] at h
   obtain ⟨h1, h2, h3⟩ := h
   cases hz : i.zero with
   | none => rw [hz] at h1; cases h1
   | some z => rw [hz] at h1; exact ⟨i, z, rfl, hz, h2, h3, by simpa using h1⟩

theorem infoTo : (Tryz.prog.info? 67).map (fun i => (i.zero.map (·.cells.size), i.size, i.bytes)) = some (some 2, 2, 24) := by kernel_rfl
theorem partsTo : ∃ i z, Tryz.prog.info? 67 = some i ∧ i.zero = some z ∧ i.size = 2 ∧ i.bytes = 24 ∧ z.cells.size = 2 := parts_of infoTo

theorem infoStr : (Tryz.prog.info? 9).map (fun i => (i.zero.map (·.cells.size), i.size, i.bytes)) = some (some 1, 1, 16) := by kernel_rfl
theorem partsStr : ∃ i z, Tryz.prog.info? 9 = some i ∧ i.zero = some z ∧ i.size = 1 ∧ i.bytes = 16 ∧ z.cells.size = 1 := parts_of infoStr

end Yd


namespace Yd
open Go Go.RowKit Go.Proofs

attribute [local go_sem] Oper.semAt_some

theorem Same.setCell {A : Nat → Prop} (X : World) (b o : Nat) (v : Value) (hb : ¬ A b) : Same A X (X.setCell ⟨b, o, none⟩ v) :=
 ⟨rfl, rfl, rfl, by simp [World.setCell], fun i hi _ => Below.heap_setCell _ _ _ _ (fun e => by have e' : i = b := e; rw [e'] at hi; exact hb hi)⟩
theorem KeepOn.setCell {A : Nat → Prop} (X : World) (b o : Nat) (v : Value) (hb : ¬ A b) : KeepOn A X (X.setCell ⟨b, o, none⟩ v) :=
 ⟨by simp [World.setCell], fun i hi _ => Below.heap_setCell _ _ _ _ (fun e => by have e' : i = b := e; rw [e'] at hi; exact hb hi)⟩
theorem KeepOn.bx {A : Nat → Prop} {X Y : World} {b : Nat} {cs : Array Value} (k : KeepOn A X Y) (h : Bx X b cs) (ha : A b) : Bx Y b cs :=
 ⟨fun i => (World.cell?_of_block (a := ⟨b, i, none⟩) (k.2 b ha h.2.2)).trans (h.1 i), fun i => (World.frozen?_of_block (a := ⟨b, i, none⟩) (k.2 b ha h.2.2)).trans (h.2.1 i), Nat.lt_of_lt_of_le h.2.2 k.1⟩
theorem Bx.setOther {X : World} {b : Nat} {cs : Array Value} (h : Bx X b cs) (c o : Nat) (v : Value) (hb : b ≠ c) : Bx (X.setCell ⟨c, o, none⟩ v) b cs :=
 (KeepOn.setCell (A := fun i => i ≠ c) X c o v (by simp)).bx h hb

section
variable (J Jx : List (Int × Int) → World → Prop) (D : Nat → Prop) (xs : List (Int × Int)) (B l bw : Nat)
end
end Yd


namespace Yd
open Go Go.RowKit Go.Proofs

variable (J Jx : List (Int × Int) → World → Prop) (D : Nat → Prop) (xs : List (Int × Int)) (B l bw : Nat)
end Yd


namespace Yd
open Go Go.RowKit Go.Proofs

def Reads (w X : World) : Prop := ∀ a v, w.cell? a = some v → X.cell? a = some v
theorem Reads.keep {w X Y : World} {D : Nat → Prop} (h : Reads w X) (k : KeepOn D X Y) (hd : ∀ i, i < w.heap.size → D i) (hs : w.heap.size ≤ X.heap.size) : Reads w Y := fun a v hc => by
 have hl := cell_lt hc
 rw [World.cell?_of_block (k.2 a.block (hd _ hl) (Nat.lt_of_lt_of_le hl hs))]
 exact h a v hc
theorem Row.reads {α : Type} {w X : World} {k : Nat} {enc : α → List Value} {a : Option Addr} {n c : Nat} {xs : List α} (h : Row w k enc a n c xs) (hr : Reads w X) : Row X k enc a n c xs := h.ext hr
end Yd
