import Derived.Test.YthkpjdgmpjhhmaaGreatDoorHistA
import Derived.Test.YthkpjdgmpjhhmaaGreatDoorProg
import Derived.Test.YthkpjdgmpjhhmaaGreatDoorGround
import Derived.BigQuiet
namespace Yd
open Go Go.RowKit Go.Proofs

def sameFlat (a b : EvC) : Bool := decide (a.kind = b.kind) && decide (a.t = b.t) && decide (a.ses = b.ses) && decide (a.lvl = b.lvl) && decide (a.obj = b.obj) && decide (a.v = b.v) && decide (a.pred = b.pred)
set_option maxRecDepth 100000 in
set_option maxHeartbeats 2000000 in
theorem same_ev (a b : EvC) (xs ys : List Sn) (w : World) (hx : Row w 3 encSn a.sa a.sn a.sc xs) (hy : Row w 3 encSn b.sa b.sn b.sc ys) :
    Calls Tryz.prog 136 #[valEv a, valEv b] w (Ret (.bool (sameFlat a b && decide (xs = ys))) w) := by
  obtain ⟨R, hR0⟩ : ∃ R : Bool, R = (sameFlat a b && decide (xs = ys)) := ⟨_, rfl⟩
  rw [← hR0]
  have HF := hid hR0; have HX := hid hx; have HY := hid hy
  clear hR0 hx hy
  obtain ⟨kind, t, ses, lvl, obj, v, pred, sa, sn, sc⟩ := a
  obtain ⟨kind', t', ses', lvl', obj', v', pred', sa', sn', sc'⟩ := b
  by_cases h : ¬ kind = kind'
  · have hR : R = false := by rw [HF.out]; simp [sameFlat, h]
    subst hR
    have hne : (kind == kind') = false := beq_eq_false_iff_ne.2 h
    clear h
    go_enter Tryz.func136, Tryz.ntmps136
    go_wp2_with fail
    go_ret
    exact ⟨rfl, ((Below.refl _ _).alloc (Nat.le_refl _) _).alloc (by simp) _⟩
  have h := Decidable.not_not.1 h
  subst h
  by_cases h : ¬ t = t'
  · have hR : R = false := by rw [HF.out]; simp [sameFlat, h]
    subst hR
    have hne : (t == t') = false := beq_eq_false_iff_ne.2 h
    clear h
    go_enter Tryz.func136, Tryz.ntmps136
    go_wp2_with fail
    go_ret
    exact ⟨rfl, ((Below.refl _ _).alloc (Nat.le_refl _) _).alloc (by simp) _⟩
  have h := Decidable.not_not.1 h
  subst h
  by_cases h : ¬ ses = ses'
  · have hR : R = false := by rw [HF.out]; simp [sameFlat, h]
    subst hR
    have hne : (ses == ses') = false := beq_eq_false_iff_ne.2 h
    clear h
    go_enter Tryz.func136, Tryz.ntmps136
    go_wp2_with fail
    go_ret
    exact ⟨rfl, ((Below.refl _ _).alloc (Nat.le_refl _) _).alloc (by simp) _⟩
  have h := Decidable.not_not.1 h
  subst h
  by_cases h : ¬ lvl = lvl'
  · have hR : R = false := by rw [HF.out]; simp [sameFlat, h]
    subst hR
    have hne : (lvl == lvl') = false := beq_eq_false_iff_ne.2 h
    clear h
    go_enter Tryz.func136, Tryz.ntmps136
    go_wp2_with fail
    go_ret
    exact ⟨rfl, ((Below.refl _ _).alloc (Nat.le_refl _) _).alloc (by simp) _⟩
  have h := Decidable.not_not.1 h
  subst h
  by_cases h : ¬ obj = obj'
  · have hR : R = false := by rw [HF.out]; simp [sameFlat, h]
    subst hR
    have hne : (obj == obj') = false := beq_eq_false_iff_ne.2 h
    clear h
    go_enter Tryz.func136, Tryz.ntmps136
    go_wp2_with fail
    go_ret
    exact ⟨rfl, ((Below.refl _ _).alloc (Nat.le_refl _) _).alloc (by simp) _⟩
  have h := Decidable.not_not.1 h
  subst h
  by_cases h : ¬ v = v'
  · have hR : R = false := by rw [HF.out]; simp [sameFlat, h]
    subst hR
    have hne := eqInVer v v'; rw [decide_eq_false h] at hne
    clear h
    go_enter Tryz.func136, Tryz.ntmps136
    go_wp2_with fail
    go_ret
    exact ⟨rfl, ((Below.refl _ _).alloc (Nat.le_refl _) _).alloc (by simp) _⟩
  have h := Decidable.not_not.1 h
  subst h
  by_cases h : ¬ pred = pred'
  · have hR : R = false := by rw [HF.out]; simp [sameFlat, h]
    subst hR
    have hne : (pred == pred') = false := beq_eq_false_iff_ne.2 h
    clear h
    go_enter Tryz.func136, Tryz.ntmps136
    go_wp2_with fail
    go_ret
    exact ⟨rfl, ((Below.refl _ _).alloc (Nat.le_refl _) _).alloc (by simp) _⟩
  have h := Decidable.not_not.1 h
  subst h
  have hR : R = decide (xs = ys) := by rw [HF.out]; simp [sameFlat]
  subst hR
  have HB := hid (((Below.refl w.heap.size w).alloc (Nat.le_refl _) (.cells (cellsEv ⟨kind, t, ses, lvl, obj, v, pred, sa, sn, sc⟩) 49)).alloc (by simp) (.cells (cellsEv ⟨kind, t, ses, lvl, obj, v, pred, sa', sn', sc'⟩) 49))
  have HC := hid (eqSn sa sa' sn sc sn' sc' xs ys _ (HX.out.below HB.out rfl) (HY.out.below HB.out rfl))
  go_enter Tryz.func136, Tryz.ntmps136
  go_wp2_with (go_at_call 153; refine HC.out.mono ?_; rintro e w1 ⟨rfl, hb1⟩)
  go_ret
  exact ⟨rfl, HB.out.trans (hb1.mono (by simp; omega))⟩
end Yd
