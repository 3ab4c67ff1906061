import Derived.Test.YthkpjdgmpjhhmaaGreatDoorGround
import Derived.Test.YthkpjdgmpjhhmaaGreatDoorProg
import Derived.BigQuiet
namespace Yd
open Go Go.RowKit Go.Proofs

































































































































































































































































set_option maxRecDepth 100000 in
set_option maxHeartbeats 800000 in
theorem eqSn (a a' : Option Addr) (n c n' c' : Nat) (xs ys : List Sn) (w : World) (hr : Row w 3 encSn a n c xs) (hr' : Row w 3 encSn a' n' c' ys) :
    Calls Tryz.prog 153 #[.slice a n c, .slice a' n' c'] w (Ret (.bool (decide (xs = ys))) w) := by
  have hn := hr.le
  have hn' := hr'.le
  have HR := hid hr; have HR' := hid hr'
  clear hr hr'
  by_cases hl : n = n'
  · subst hl
    clear hn'
    go_enter Tryz.func153, Tryz.ntmps153
    go_wp2_with fail
    go_loopw [13] (fun i wr => ∃ k : Nat, k ≤ n ∧ i = .int .i64 k ∧ xs.take k = ys.take k ∧ Below w.heap.size w wr) (fun i _ => n - (intOf i).toNat)
    case atStart => exact ⟨0, Nat.zero_le _, rfl, rfl, Below.refl _ _⟩
    case round =>
      obtain ⟨k, hk, rfl, hf, hb⟩ := hrel
      have HF := hid hf; clear hf
      by_cases hlt : k < n
      · have hi1 : (0 : Int) ≤ (k : Int) := by omega
        have hi2 : (k : Int) < (n : Int) := by omega
        obtain ⟨x, b, o, hx, rfl, hc⟩ := HR.out.at_ hlt
        obtain ⟨y, b', o', hy, rfl, hc'⟩ := HR'.out.at_ hlt
        have h0 := bget hb rfl (hc 0 _ rfl)
        have h1 := bget hb rfl (hc 1 _ rfl)
        have h2 := bget hb rfl (hc 2 _ rfl)
        simp only [Nat.add_zero] at h0
        have h'0 := bget hb rfl (hc' 0 _ rfl)
        have h'1 := bget hb rfl (hc' 1 _ rfl)
        have h'2 := bget hb rfl (hc' 2 _ rfl)
        simp only [Nat.add_zero] at h'0
        have HX := hid hx; have HY := hid hy
        clear hc hc' hx hy
        by_cases he : x = y
        · subst he
          go_wp2_with fail
          go_quiet (fail)
          go_wp2_with fail
          refine ⟨⟨k + 1, by omega, by go_num, ?_, belowN hb _⟩, by simp [intOf]; omega⟩
          rw [List.take_add_one, List.take_add_one, HF.out, HX.out, HY.out]
        · have ht := eqInSn x y; rw [decide_eq_false he] at ht
          have HE := hid he; clear he
          go_wp2_with fail
          go_quiet (fail)
          go_wp2_with fail
          go_ret
          refine ⟨?_, belowN hb _⟩
          have hne : xs ≠ ys := fun e => HE.out (by have h1 := HX.out; have h2 := HY.out; rw [e, h2] at h1; exact (Option.some.inj h1).symm)
          rw [decide_eq_false hne]; rfl
      · have hkn : k = n := by omega
        go_wp2_with fail
        go_ret
        refine ⟨?_, hb⟩
        have e : xs = ys := by
          have h := HF.out
          rwa [List.take_of_length_le (by rw [HR.out.len]; omega), List.take_of_length_le (by rw [HR'.out.len]; omega)] at h
        rw [decide_eq_true e]; rfl
  · have hne : xs ≠ ys := fun e => hl (by rw [← HR.out.len, ← HR'.out.len, e])
    have hl' : ((n : Int) == (n' : Int)) = false := beq_eq_false_iff_ne.2 (by omega)
    have HN := hid hne
    clear hne hl
    go_enter Tryz.func153, Tryz.ntmps153
    go_wp2_with fail
    go_ret
    refine ⟨?_, Below.refl _ _⟩
    rw [decide_eq_false HN.out]; rfl

end Yd
