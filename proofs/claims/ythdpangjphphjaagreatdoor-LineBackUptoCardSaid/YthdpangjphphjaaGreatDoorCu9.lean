import Derived.Test.YthdpangjphphjaaGreatDoorCu6
import Derived.Test.YthdpangjphphjaaGreatDoorProg
import Derived.Laws.Cover1
set_option maxRecDepth 200000
set_option maxHeartbeats 8000000
namespace Yd
open Go Go.RowKit Go.Proofs

theorem decN_take (n n' b0 b1 b2 b3 c1 c2 c3 r w : Nat) (hw : Lib.decodeN n b0 b1 b2 b3 = (r, w)) (hv : ¬ (r = 65533 ∧ w = 1)) (hn : w ≤ n') (h1 : 1 < w → c1 = b1) (h2 : 2 < w → c2 = b2) (h3 : 3 < w → c3 = b3) : Lib.decodeN n' b0 c1 c2 c3 = (r, w) := by
 unfold Lib.decodeN at hw
 split at hw
 · rename_i h
   unfold Lib.decodeN
   rw [if_pos h]; exact hw
 · rename_i hA
   split at hw
   · rename_i h
     split at hw
     · rename_i hk
       injection hw with e1 e2
       subst e2
       obtain rfl := h1 (by omega)
       unfold Lib.decodeN
       rw [if_neg hA, if_pos ⟨h.1, by omega, h.2.2⟩, if_pos hk, e1]
     · injection hw with e1 e2; exact absurd ⟨e1.symm, e2.symm⟩ hv
   · rename_i hB
     split at hw
     · rename_i h
       split at hw
       · rename_i hk
         injection hw with e1 e2
         subst e2
         obtain rfl := h1 (by omega)
         obtain rfl := h2 (by omega)
         unfold Lib.decodeN
         rw [if_neg hA, if_neg (by omega), if_pos ⟨h.1, ⟨by omega, h.2.1.2⟩, by omega, h.2.2.2⟩, if_pos hk, e1]
       · injection hw with e1 e2; exact absurd ⟨e1.symm, e2.symm⟩ hv
     · rename_i hC
       split at hw
       · rename_i h
         split at hw
         · rename_i hk
           injection hw with e1 e2
           subst e2
           obtain rfl := h1 (by omega)
           obtain rfl := h2 (by omega)
           obtain rfl := h3 (by omega)
           unfold Lib.decodeN
           rw [if_neg hA, if_neg (by omega), if_neg (by omega), if_pos ⟨h.1, ⟨by omega, h.2.1.2⟩, ⟨by omega, h.2.2.1.2⟩, by omega, h.2.2.2.2⟩, if_pos hk, e1]
         · injection hw with e1 e2; exact absurd ⟨e1.symm, e2.symm⟩ hv
       · injection hw with e1 e2; exact absurd ⟨e1.symm, e2.symm⟩ hv
theorem ok_ne {l : Bs} (h : okB ⟨l.toArray⟩ 0 = true) : ¬ ((Utf8.decode ⟨l.toArray⟩ 0).1 = 65533 ∧ (Utf8.decode ⟨l.toArray⟩ 0).2 = 1) := by
 rintro ⟨h1, h2⟩
 unfold okB at h
 rw [h1, h2] at h
 simp at h
theorem getD_take0 (l : Bs) (m k : Nat) (h : k < m) : (l.take m).getD k 0 = l.getD k 0 := by simp [List.getD, h]
theorem dec_nums (l : Bs) : Utf8.decode ⟨l.toArray⟩ 0 = Lib.decodeN l.length (l.getD 0 0).toNat (l.getD 1 0).toNat (l.getD 2 0).toNat (l.getD 3 0).toNat := by
 have := Lib.decode_N ⟨l.toArray⟩ 0
 simpa using this
theorem dec_take {l : Bs} {m : Nat} (h : okB ⟨l.toArray⟩ 0 = true) (hm : (Utf8.decode ⟨l.toArray⟩ 0).2 ≤ m) (hl : (Utf8.decode ⟨l.toArray⟩ 0).2 ≤ l.length) (h0 : 0 < m) : Utf8.decode ⟨(l.take m).toArray⟩ 0 = Utf8.decode ⟨l.toArray⟩ 0 := by
 have hv := ok_ne h
 have hx := dec_nums l
 obtain ⟨r, w, hq⟩ : ∃ r w, Utf8.decode ⟨l.toArray⟩ 0 = (r, w) := ⟨_, _, rfl⟩
 rw [hq] at hx hm hl hv ⊢
 simp only at hm hl hv
 rw [dec_nums (l.take m), getD_take0 l m 0 h0]
 refine decN_take l.length _ _ _ _ _ _ _ _ r w hx.symm hv (by rw [List.length_take]; omega) (fun h1 => ?_) (fun h1 => ?_) (fun h1 => ?_)
 · rw [getD_take0 l m 1 (by omega)]
 · rw [getD_take0 l m 2 (by omega)]
 · rw [getD_take0 l m 3 (by omega)]
theorem pos_cons (l : Bs) (h : l ≠ []) : posFrom ⟨l.toArray⟩ l.length 0 = 0 :: (posFrom ⟨(l.drop (Utf8.decode ⟨l.toArray⟩ 0).2).toArray⟩ (l.drop (Utf8.decode ⟨l.toArray⟩ 0).2).length 0).map ((Utf8.decode ⟨l.toArray⟩ 0).2 + ·) := by
 obtain ⟨d, hd⟩ : ∃ d, d = (Utf8.decode ⟨l.toArray⟩ 0).2 := ⟨_, rfl⟩
 have hw := dec_w l h
 rw [← hd] at hw ⊢
 obtain ⟨n, hn⟩ : ∃ n, l.length = n + 1 := ⟨l.length - 1, by have : l.length ≠ 0 := fun e => h (List.eq_nil_of_length_eq_zero e); omega⟩
 rw [hn]
 simp only [posFrom, bsz]
 rw [if_pos (by omega), ← hd, Nat.zero_add, ← Nat.add_zero d, posFrom_add, Nat.add_zero, posFrom_fuel ⟨(l.drop d).toArray⟩ n (l.drop d).length 0 (by rw [bsz, List.length_drop]; omega) (by rw [bsz]; omega)]
theorem runS_step {l : Bs} (h : l ≠ []) (hk : (okB ⟨l.toArray⟩ 0 && eitB ((Utf8.decode ⟨l.toArray⟩ 0).1 : Int)) = true) : runS l = (Utf8.decode ⟨l.toArray⟩ 0).2 + runS (l.drop (Utf8.decode ⟨l.toArray⟩ 0).2) := by
 unfold runS; rw [whileE_cons l eitB h, if_pos hk]
theorem runS_le (l : Bs) : runS l ≤ l.length := whileE_le eitB _ l (Nat.le_refl _)
def WordAt (l : Bs) (k : Nat) : Prop := k ≤ runS l ∧ k + runS (l.drop k) = runS l ∧
 ∃ pre : List Nat, posFrom ⟨(l.take (runS l)).toArray⟩ (l.take (runS l)).length 0 = pre ++ (posFrom ⟨((l.take (runS l)).drop k).toArray⟩ ((l.take (runS l)).drop k).length 0).map (k + ·) ∧ ∀ x ∈ pre, x < k
theorem WordAt.zero (l : Bs) : WordAt l 0 := ⟨Nat.zero_le _, by simp, [], by simp, by simp⟩
theorem take_drop_run {l : Bs} {k : Nat} (h : k + runS (l.drop k) = runS l) : (l.take (runS l)).drop k = (l.drop k).take (runS (l.drop k)) := by
 rw [← h, List.drop_take]; congr 1; omega
theorem WordAt.step {l : Bs} {k : Nat} (h : WordAt l k) (hne : l.drop k ≠ []) (hk : (okB ⟨(l.drop k).toArray⟩ 0 && eitB ((Utf8.decode ⟨(l.drop k).toArray⟩ 0).1 : Int)) = true) :
   WordAt l (k + (Utf8.decode ⟨(l.drop k).toArray⟩ 0).2) ∧ (24 < k + (Utf8.decode ⟨(l.drop k).toArray⟩ 0).2 → k ≤ 24 → 24 < runS l ∧ longS (l.take (runS l)) = k) := by
 obtain ⟨h1, h2, pre, hp, hx⟩ := h
 have hst := runS_step hne hk
 obtain ⟨n, hn⟩ : ∃ n, n = (Utf8.decode ⟨(l.drop k).toArray⟩ 0).2 := ⟨_, rfl⟩
 have hok : okB ⟨(l.drop k).toArray⟩ 0 = true := by
   revert hk; cases okB ⟨(l.drop k).toArray⟩ 0 <;> simp
 have hn1 := dec_w (l.drop k) hne
 have hn2 := dec_le (l.drop k) hne
 rw [← hn] at hst hn1 hn2 ⊢
 rw [List.drop_drop] at hst
 have htd := take_drop_run h2
 have hdec : Utf8.decode ⟨((l.take (runS l)).drop k).toArray⟩ 0 = Utf8.decode ⟨(l.drop k).toArray⟩ 0 := by
   rw [htd]; exact dec_take hok (by rw [← hn]; omega) (by rw [← hn]; exact hn2) (by omega)
 have hne2 : (l.take (runS l)).drop k ≠ [] := by
   rw [htd]; intro e
   have := congrArg List.length e
   rw [List.length_take] at this
   simp only [List.length_nil] at this
   have := List.length_pos_iff.2 hne
   omega
 have hpc := pos_cons _ hne2
 rw [hdec, ← hn, List.drop_drop] at hpc
 have hall : posFrom ⟨(l.take (runS l)).toArray⟩ (l.take (runS l)).length 0 = (pre ++ [k]) ++ (posFrom ⟨((l.take (runS l)).drop (k + n)).toArray⟩ ((l.take (runS l)).drop (k + n)).length 0).map ((k + n) + ·) := by
   rw [hp, hpc]
   simp [List.map_map, Function.comp_def, Nat.add_assoc]
 refine ⟨⟨by omega, by omega, pre ++ [k], hall, fun x hxm => ?_⟩, fun h24 hk24 => ⟨by omega, ?_⟩⟩
 · rcases List.mem_append.1 hxm with hxm | hxm
   · have := hx x hxm; omega
   · obtain rfl : x = k := by simpa using hxm
     omega
 · unfold longS
   rw [hall, List.filter_append, filter_all _ (pre ++ [k]) (fun x hxm => ?_), filter_no _ _ (fun x hxm => ?_)]
   · simp
   · obtain ⟨y, _, rfl⟩ := List.mem_map.1 hxm
     exact decide_eq_false (by omega)
   · rcases List.mem_append.1 hxm with hxm | hxm
     · have := hx x hxm; exact decide_eq_true (by omega)
     · obtain rfl : x = k := by simpa using hxm
       exact decide_eq_true hk24
end Yd


namespace Yd
open Go Go.RowKit Go.Proofs

end Yd


namespace Yd
open Go Go.RowKit Go.Proofs

end Yd
