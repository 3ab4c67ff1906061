import Derived.Test.YthdpangjphphjaaGreatDoorRdP
import Derived.Lib.MapLaws
set_option maxRecDepth 200000
set_option maxHeartbeats 8000000
namespace Yd
open Go Go.RowKit Go.Proofs

theorem enc_eq (c : Nat) (hc : c ≤ 1114111) (hs : ¬ (55296 ≤ c ∧ c ≤ 57343)) : Utf8.encode (c : Int) = ⟨(Lib.encodeRune (c : Int)).toArray⟩ := by
 have hv : Utf8.valid (c : Int) = true := by simp [Utf8.valid]; omega
 unfold Utf8.encode Lib.encodeRune
 simp only [hv, if_true, Int.toNat_natCast]
 have hb : ∀ (z : Int) (n : Nat), z = (n : Int) → z.toNat.toUInt8 = UInt8.ofNat n := fun z n h => by subst h; simp
 by_cases h1 : c < 128
 · rw [if_pos h1, Lib.encodeRuneZ_one (by omega) (by omega)]
   simp only [List.map_cons, List.map_nil, hb _ c rfl]
 rw [if_neg h1]
 by_cases h2 : c < 2048
 · rw [if_pos h2, Lib.encodeRuneZ_two (by omega) (by omega)]
   simp only [List.map_cons, List.map_nil, hb (192 + (c : Int) / 64) (192 + c / 64) (by omega), hb (128 + (c : Int) % 64) (128 + c % 64) (by omega)]
 rw [if_neg h2]
 by_cases h3 : c < 65536
 · rw [if_pos h3, Lib.encodeRuneZ_three (by omega)]
   simp only [List.map_cons, List.map_nil, hb (224 + (c : Int) / 4096) (224 + c / 4096) (by omega), hb (128 + (c : Int) / 64 % 64) (128 + c / 64 % 64) (by omega), hb (128 + (c : Int) % 64) (128 + c % 64) (by omega)]
 · rw [if_neg h3, Lib.encodeRuneZ_four (by omega) (by omega)]
   simp only [List.map_cons, List.map_nil, hb (240 + (c : Int) / 262144) (240 + c / 262144) (by omega), hb (128 + (c : Int) / 4096 % 64) (128 + c / 4096 % 64) (by omega), hb (128 + (c : Int) / 64 % 64) (128 + c / 64 % 64) (by omega), hb (128 + (c : Int) % 64) (128 + c % 64) (by omega)]
theorem ok_dec {l : Bs} (h : okB ⟨l.toArray⟩ 0 = true) : ¬ ((Utf8.decode ⟨l.toArray⟩ 0).1 = 65533 ∧ (Utf8.decode ⟨l.toArray⟩ 0).2 = 1) := by
 rintro ⟨h1, h2⟩
 unfold okB at h
 rw [h1, h2] at h
 simp at h
theorem first_rune (l : Bs) (hne : l ≠ []) (h : okB ⟨l.toArray⟩ 0 = true) :
   Utf8.encode ((Utf8.decode ⟨l.toArray⟩ 0).1 : Int) = ⟨(l.take (Utf8.decode ⟨l.toArray⟩ 0).2).toArray⟩ ∧ Utf8.decode ⟨(l.take (Utf8.decode ⟨l.toArray⟩ 0).2).toArray⟩ 0 = Utf8.decode ⟨l.toArray⟩ 0 ∧ (Utf8.decode ⟨l.toArray⟩ 0).2 ≤ 4 := by
 have hl : 0 < l.length := List.length_pos_iff.2 hne
 have hle := dec_le l hne
 have he := Lib.encode_decode l hne (ok_dec h)
 have hd : Utf8.decode ⟨l.toArray⟩ 0 = Lib.decodeL l := rfl
 have hd2 : ∀ u : Bs, Utf8.decode ⟨u.toArray⟩ 0 = Lib.decodeL u := fun _ => rfl
 have hg : ∀ (n k : Nat), k < n → (l.take n).getD k 0 = l.getD k 0 := fun n k h => by simp [List.getD, h]
 have hok := ok_dec h
 rw [hd] at hle hok ⊢
 rw [hd2]
 rw [Lib.decodeL_N (l.take _)]
 have hN := Lib.decodeL_N l
 rcases Lib.decodeN_shape l.length (l.getD 0 0).toNat (l.getD 1 0).toNat (l.getD 2 0).toNat (l.getD 3 0).toNat with ⟨c, e⟩ | ⟨c1, c2, c3, cv, e⟩ | ⟨c1, c2, c3, c4, cv, cs, e⟩ | ⟨c1, c2, c3, c4, c5, cv, cw, e⟩ | e
 · rw [e] at hN
   rw [hN] at hle he ⊢
   refine ⟨by rw [enc_eq _ (by simp only []; omega) (by simp only []; omega), he], ?_, by simp⟩
   simp only [List.length_take]
   rw [hg 1 0 (by omega)]
   unfold Lib.decodeN
   rw [if_pos c]
 · rw [e] at hN
   rw [hN] at hle he ⊢
   simp only at hle
   refine ⟨by rw [enc_eq _ (by simp only []; omega) (by simp only []; omega), he], ?_, by simp⟩
   simp only [List.length_take]
   rw [hg 2 0 (by omega), hg 2 1 (by omega), Nat.min_eq_left (by omega)]
   unfold Lib.decodeN
   rw [if_neg (by omega), if_pos ⟨c1, by omega, c3⟩, if_pos (by omega)]
 · rw [e] at hN
   rw [hN] at hle he ⊢
   simp only at hle
   refine ⟨by rw [enc_eq _ (by simp only []; omega) (by simp only []; omega), he], ?_, by simp⟩
   simp only [List.length_take]
   rw [hg 3 0 (by omega), hg 3 1 (by omega), hg 3 2 (by omega), Nat.min_eq_left (by omega)]
   unfold Lib.decodeN
   rw [if_neg (by omega), if_neg (by omega), if_pos ⟨c1, ⟨by omega, c3⟩, ⟨by omega, c4⟩⟩, if_pos (by omega)]
 · rw [e] at hN
   rw [hN] at hle he ⊢
   simp only at hle
   refine ⟨by rw [enc_eq _ (by simp only []; omega) (by simp only []; omega), he], ?_, by simp⟩
   simp only [List.length_take]
   rw [hg 4 0 (by omega), hg 4 1 (by omega), hg 4 2 (by omega), hg 4 3 (by omega), Nat.min_eq_left (by omega)]
   unfold Lib.decodeN
   rw [if_neg (by omega), if_neg (by omega), if_neg (by omega), if_pos ⟨c1, ⟨by omega, c3⟩, ⟨by omega, c4⟩, ⟨by omega, c5⟩⟩, if_pos (by omega)]
 · exfalso
   rw [e] at hN
   exact hok (by rw [hN]; exact ⟨rfl, rfl⟩)
end Yd
