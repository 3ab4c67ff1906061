import Derived.Test.YthkpjdgmpjhhmaaGreatDoorShaped
import Derived.Test.YthkpjdgmpjhhmaaGreatDoorIndex
import Derived.Test.YthkpjdgmpjhhmaaGreatDoorGround
import Derived.Test.YthkpjdgmpjhhmaaGreatDoorProg
set_option maxRecDepth 200000
set_option maxHeartbeats 8000000
namespace Yd
open Go Go.RowKit Go.Proofs

theorem belowA {a w : World} (h : Below a.heap.size a w) (o : Obj) : Below a.heap.size a (w.alloc o) := h.alloc h.size o
def formV : Nat → Bs
 | 0 => []
 | 1 => [98, 101, 103, 105, 110]
 | 2 => [119, 114, 105, 116, 101]
 | 3 => [114, 101, 97, 100]
 | 4 => [115, 99, 97, 110]
 | 5 => [99, 111, 109, 109, 105, 116]
 | 6 => [97, 98, 111, 114, 116]
 | 7 => [111, 114, 100, 101, 114]
 | 8 => [109, 97, 116, 99, 104]
 | _ => [119, 97, 110, 116]
def formN : Nat → Int
 | 0 => 0
 | 1 => 2
 | 2 => 2
 | 3 => 2
 | 4 => 2
 | 5 => 1
 | 6 => 1
 | 7 => 1
 | 8 => 2
 | _ => 1
def formR : Nat → Int
 | 0 => 0
 | 1 => 108
 | 2 => 0
 | 3 => 118
 | 4 => 115
 | 5 => 0
 | 6 => 0
 | 7 => 116
 | 8 => 109
 | _ => 103
def guardT : Nat → Bs
 | 0 => [114, 121, 119]
 | 1 => [109, 114]
 | 2 => [109, 119]
 | _ => [119, 102, 114]
def levelT : Nat → Bs
 | 0 => []
 | 1 => [49]
 | 2 => [50]
 | 3 => [50, 46, 57, 57]
 | _ => [51]

def GlobL (w : World) : Prop := GlobH w ∧ (∀ k, k < 10 → w.cell? ⟨0, 3 * k, none⟩ = some (.string ⟨(formV k).toArray⟩) ∧ w.cell? ⟨0, 3 * k + 1, none⟩ = some (.int .i64 (formN k)) ∧ w.cell? ⟨0, 3 * k + 2, none⟩ = some (.int .i32 (formR k))) ∧
 (∀ i, i < 4 → w.cell? ⟨1, i, none⟩ = some (.string ⟨(guardT i).toArray⟩)) ∧ (∀ i, i < 5 → w.cell? ⟨2, i, none⟩ = some (.string ⟨(levelT i).toArray⟩))
theorem GlobL.below {w w' : World} (h : GlobL w) (hb : Below w.heap.size w w') : GlobL w' :=
 ⟨h.1.below hb, fun k hk => ⟨bget hb rfl (h.2.1 k hk).1, bget hb rfl (h.2.1 k hk).2.1, bget hb rfl (h.2.1 k hk).2.2⟩, fun i hi => bget hb rfl (h.2.2.1 i hi), fun i hi => bget hb rfl (h.2.2.2 i hi)⟩

theorem names_Check (s : Bs) (w : World) (hT : Lib.Utf8Tabs 5 6 w) : Calls Tryz.prog 45 #[valStr s] w (Ret (.int .i64 (if wordB ⟨s.toArray⟩ = true then 0 else 200)) w) := by
 have HW := hid (word_any ⟨s.toArray⟩ w hT)
 clear hT
 cases hb : wordB ⟨s.toArray⟩
 all_goals
   rw [hb] at HW
   clear hb
   go_enter Tryz.func45, Tryz.ntmps45
   go_wp2_with fail
   refine HW.out.mono ?_
   rintro e w1 ⟨rfl, hb1⟩
   have HB := hid hb1; clear hb1
   go_wp2_with fail
   go_ret
   exact ⟨rfl, HB.out⟩
theorem check2_any (s : Bs) (w : World) (hT : Lib.Utf8Tabs 5 6 w) : Calls Tryz.prog 44 #[valStr s] w (Ret (.bool (!wordB ⟨s.toArray⟩)) w) := by
 have HW := hid (names_Check s w hT)
 clear hT
 cases hb : wordB ⟨s.toArray⟩
 all_goals
   rw [hb] at HW
   clear hb
   go_enter Tryz.func44, Tryz.ntmps44
   go_wp2_with fail
   refine HW.out.mono ?_
   rintro e w1 ⟨rfl, hb1⟩
   have HB := hid hb1; clear hb1
   simp only [if_true, Bool.false_eq_true, if_false]
   go_wp2_with fail
   go_ret
   exact ⟨rfl, HB.out⟩
def toOk (t : To) : Prop := t = ⟨[], 0⟩ ∨ (wordB ⟨t.name.toArray⟩ = true ∧ 0 < t.k ∧ t.k ≤ 999)
theorem may_ok (t : To) (w : World) (hT : Lib.Utf8Tabs 5 6 w) (ht : toOk t) : Calls Tryz.prog 42 #[valTo t] w (Ret (.bool true) w) := by
 rcases ht with rfl | ⟨hw, h0, h9⟩
 · have hq := eqInTo ⟨[], 0⟩ ⟨[], 0⟩
   go_enter Tryz.func42, Tryz.ntmps42
   go_wp2_with fail
   go_ret
   exact ⟨by simp, belowA (Below.refl _ _) _⟩
 · obtain ⟨n, k⟩ := t
   simp only at hw h0 h9
   have hb0 := belowA (Below.refl w.heap.size w) (.cells #[.string ⟨n.toArray⟩, .int .i64 k] 98)
   have HW := hid (names_Check n _ (Utf8Tabs_below hT hb0))
   rw [hw] at HW
   have HB := hid hb0
   have HX := hid (Bx.new w #[.string ⟨n.toArray⟩, .int .i64 k] 98)
   have hk : (k == 0) = false := beq_eq_false_iff_ne.2 (by omega)
   clear hT hw hb0
   go_enter Tryz.func42, Tryz.ntmps42
   go_wp2_with fail
   refine HW.out.mono ?_
   rintro e w1 ⟨rfl, hb1⟩
   have hx := (HX.out.keep hb1).1
   have HB1 := hid (HB.out.trans (hb1.mono HB.out.size)); clear hb1
   simp only [if_true]
   go_wp2_with fail
   go_ret
   exact ⟨by simp, HB1.out⟩
theorem check1_ok (t : To) (w : World) (hT : Lib.Utf8Tabs 5 6 w) (ht : toOk t) : Calls Tryz.prog 41 #[valTo t] w (Ret (.bool false) w) := by
 have hb0 := belowA (Below.refl w.heap.size w) (.cells (cellsTo t) 98)
 have HW := hid (may_ok t _ (Utf8Tabs_below hT hb0) ht)
 have HB := hid hb0
 clear hT hb0 ht
 go_enter Tryz.func41, Tryz.ntmps41
 go_wp2_with fail
 refine HW.out.mono ?_
 rintro e w1 ⟨rfl, hb1⟩
 have HB1 := hid (HB.out.trans (hb1.mono HB.out.size)); clear hb1
 go_wp2_with fail
 go_ret
 exact ⟨rfl, HB1.out⟩
theorem level_no (w : World) : Calls Tryz.prog 36 #[.int .i64 0] w (Ret2 (.string ⟨[].toArray⟩) (.int .i64 190) w) := by
 go_enter Tryz.func36, Tryz.ntmps36
 go_wp2_with (go_at_call 77; refine (level_Check _ _).mono ?_; rintro e w1 ⟨rfl, hb1⟩; rw [show levelE 0 = 190 from rfl])
 go_ret2
 exact ⟨rfl, hb1⟩
theorem level_yes (l : Nat) (h1 : 1 ≤ l) (h4 : l ≤ 4) (w : World) (hg : GlobL w) : Calls Tryz.prog 36 #[.int .i64 l] w (Ret2 (.string ⟨(levelT l).toArray⟩) (.int .i64 0) w) := by
 have hl : levelE (l : Int) = 0 := levelE_yes (by simp [levelB]; omega)
 have HL := hid hl; have HG := hid hg
 clear hl hg
 go_enter Tryz.func36, Tryz.ntmps36
 go_wp2_with fail
 refine (level_Check _ _).mono ?_
 rintro e w1 ⟨rfl, hb1⟩
 rw [HL.out]
 have hc := (HG.out.below hb1).2.2.2 l (by omega)
 have HB := hid hb1; clear hb1
 go_wp2_with fail
 go_ret2
 exact ⟨rfl, HB.out⟩
end Yd
