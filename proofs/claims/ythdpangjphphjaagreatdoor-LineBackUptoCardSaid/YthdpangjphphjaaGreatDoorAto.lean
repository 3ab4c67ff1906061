import Derived.Test.YthdpangjphphjaaGreatDoorCu14
import Derived.Test.YthdpangjphphjaaGreatDoorBk1
import Derived.Test.YthdpangjphphjaaGreatDoorProg
import Derived.Test.YthdpangjphphjaaGreatDoorRdB
import Derived.Test.YthdpangjphphjaaGreatDoorRdT
import Derived.Test.YthdpangjphphjaaGreatDoorShelf
import Derived.Lib.AtoiAllCases
import Derived.Lib.AtoiErrMem
set_option maxRecDepth 200000
set_option maxHeartbeats 8000000
namespace Yd
open Go Go.RowKit Go.Proofs

end Yd


namespace Yd
open Go Go.RowKit Go.Proofs
attribute [local go_sem] Oper.semAt_some

end Yd


namespace Yd
open Go Go.RowKit Go.Proofs

def foldD (acc : Nat) (l : Bs) : Nat := l.foldl (fun n c => n * 10 + (c.toNat - 48)) acc
theorem fold_ge : ∀ (l : Bs) (acc : Nat), acc ≤ foldD acc l
 | [], _ => Nat.le_refl _
 | c :: r, acc => Nat.le_trans (by omega) (fold_ge r (acc * 10 + (c.toNat - 48)))
theorem uint_digits : ∀ (l : Bs) (acc : Nat), (∀ c ∈ l, digB c = true) → Lib.parseUint10 acc l = .ok (foldD acc l) ∨ (Lib.parseUint10 acc l = .range ∧ 1000000 ≤ foldD acc l)
 | [], _, _ => .inl rfl
 | c :: r, acc, h => by
   have hc := h c (by simp)
   have hc' : 48 ≤ c.toNat ∧ c.toNat ≤ 57 := by
     unfold digB at hc
     simp only [Bool.and_eq_true, decide_eq_true_eq] at hc
     exact hc
   have hg := fold_ge r (acc * 10 + (c.toNat - 48))
   unfold Lib.parseUint10
   rw [if_pos hc']
   split
   · exact .inr ⟨rfl, Nat.le_trans (by omega) hg⟩
   · split
     · exact .inr ⟨rfl, Nat.le_trans (by omega) hg⟩
     · exact uint_digits r _ (fun x hx => h x (by simp [hx]))
theorem atoi_digits (l : Bs) (hne : l ≠ []) (h : ∀ c ∈ l, digB c = true) : Lib.atoiAll l = .ok (valD l : Int) ∨ (Lib.atoiAll l = .range ∧ 1000000 ≤ valD l) := by
 cases l with
 | nil => exact absurd rfl hne
 | cons c r =>
   have hc := h c (by simp)
   unfold digB at hc
   simp only [Bool.and_eq_true, decide_eq_true_eq] at hc
   have h1 : 48 ≤ c.toNat := hc.1
   unfold Lib.atoiAll
   simp only []
   rw [if_neg (by omega)]
   unfold Lib.parseMag
   rw [if_neg (by simp)]
   have hv : valD (c :: r) = foldD 0 (c :: r) := rfl
   rcases uint_digits (c :: r) 0 h with e | ⟨e, e2⟩
   · rw [e]
     simp only []
     by_cases hb : 9223372036854775808 ≤ foldD 0 (c :: r)
     · rw [if_pos ⟨by omega, hb⟩]; exact .inr ⟨rfl, by rw [hv]; omega⟩
     · rw [if_neg (by omega), if_neg (by omega), if_neg (by omega)]; exact .inl (by rw [hv])
   · rw [e]; exact .inr ⟨rfl, e2⟩
def GlobE (w : World) : Prop := ∃ ev, w.cell? ⟨7, 0, none⟩ = some ev ∧ (ev = .nilIface ∨ ∃ te pe, ev = .iface te pe)
theorem GlobE.below {w w' : World} (h : GlobE w) (hb : Below w.heap.size w w') : GlobE w' := let ⟨ev, h1, h2⟩ := h; ⟨ev, bget hb rfl h1, h2⟩
theorem ato_any (l : Bs) (hne : l ≠ []) (h : ∀ c ∈ l, digB c = true) (hlim : l.length ≤ 1000000) (w : World) (hE : GlobE w) :
   Calls Tryz.prog 120 #[.string ⟨l.toArray⟩] w fun e w' => ∃ (k : Int) (er : Value), e = .returned (.tuple #[.int .i64 k, er]) ∧ Below w.heap.size w w' ∧ ((er = .nilIface ∧ k = (valD l : Int) ∧ valD l ≤ 9223372036854775807) ∨ (999 < valD l ∧ ∃ T p, er = .iface T p)) := by
 obtain ⟨ev, hv, hev⟩ := hE
 rcases atoi_digits l hne h with e | ⟨e, e2⟩
 · refine (Tryz.strconv_Atoi_ok ⟨l.toArray⟩ (by rw [bsz]; omega) (valD l) e w).mono ?_
   rintro e w' ⟨rfl, hw⟩
   refine ⟨_, _, rfl, ?_, .inl ⟨rfl, rfl, ?_⟩⟩
   · rcases hw with rfl | ⟨t, rfl⟩
     · exact Below.refl _ _
     · exact Lib.bytesWorld_below _ _ _
   · have := (Lib.atoiAll_bounds e).2; omega
 · refine (Tryz.strconv_Atoi_range ⟨l.toArray⟩ (by rw [bsz]; omega) e ev w hv hev).mono ?_
   rintro e w' ⟨N, rfl, _, _, hb⟩
   exact ⟨_, _, rfl, hb, .inr ⟨by omega, _, _, rfl⟩⟩
end Yd
