import Derived.Test.YthdpangjphphjaaGreatDoorFi4
import Derived.Lib.ValidU
import Derived.Test.YthdpangjphphjaaGreatDoorProg
import Derived.Test.YthdpangjphphjaaGreatDoorSpoken3
import Derived.Test.YthdpangjphphjaaGreatDoorRf
import Derived.BigQuiet
import Derived.Test.YthdpangjphphjaaGreatDoorOwnPut
import Derived.Test.YthdpangjphphjaaGreatDoorEq
import Derived.Test.YthdpangjphphjaaGreatDoorCheck
import Derived.Test.YthdpangjphphjaaGreatDoorOrdP
set_option maxRecDepth 200000
set_option maxHeartbeats 8000000
namespace Yd
open Go Go.RowKit Go.Proofs

/-! A text that is valid ends within no rune. -/
theorem decodeL_eq (l : Bs) : Lib.decodeL l = Utf8.decode ⟨l.toArray⟩ 0 := rfl
theorem cont_no {b : UInt8} (t : Bs) (h : b.toNat / 64 = 2) : okB ⟨(b :: t).toArray⟩ 0 = false := by
 have hd : Utf8.decode ⟨(b :: t).toArray⟩ 0 = (65533, 1) := by
   rw [Lib.decode_at]
   have hb : ByteArray.get! ⟨(b :: t).toArray⟩ 0 = b := by rw [get_at (b :: t) 0 (by simp)]; rfl
   rw [hb]
   unfold Lib.decodeN
   rw [if_neg (by omega), if_neg (by omega), if_neg (by omega), if_neg (by omega)]
 unfold okB
 rw [hd]; rfl
theorem decN_cont (n b0 b1 b2 b3 : Nat) (hok : Lib.decodeN n b0 b1 b2 b3 ≠ (65533, 1)) :
   (1 < (Lib.decodeN n b0 b1 b2 b3).2 → b1 / 64 = 2) ∧ (2 < (Lib.decodeN n b0 b1 b2 b3).2 → b2 / 64 = 2) ∧ (3 < (Lib.decodeN n b0 b1 b2 b3).2 → b3 / 64 = 2) ∧ (Lib.decodeN n b0 b1 b2 b3).2 ≤ 4 := by
 unfold Lib.decodeN at hok ⊢
 by_cases a : b0 < 128
 · rw [if_pos a]; exact ⟨fun h => by omega, fun h => by omega, fun h => by omega, by omega⟩
 rw [if_neg a] at hok ⊢
 by_cases hA : b0 / 32 = 6 ∧ (1 < n ∧ b1 / 64 = 2)
 · rw [if_pos hA] at hok ⊢
   split at hok
   · rename_i hv; rw [if_pos hv]; exact ⟨fun _ => by omega, fun h => by omega, fun h => by omega, by omega⟩
   · exact absurd rfl hok
 rw [if_neg hA] at hok ⊢
 by_cases hB : b0 / 16 = 14 ∧ (1 < n ∧ b1 / 64 = 2) ∧ (2 < n ∧ b2 / 64 = 2)
 · rw [if_pos hB] at hok ⊢
   split at hok
   · rename_i hv; rw [if_pos hv]; exact ⟨fun _ => by omega, fun h => by omega, fun h => by omega, by omega⟩
   · exact absurd rfl hok
 rw [if_neg hB] at hok ⊢
 by_cases hC : b0 / 8 = 30 ∧ (1 < n ∧ b1 / 64 = 2) ∧ (2 < n ∧ b2 / 64 = 2) ∧ (3 < n ∧ b3 / 64 = 2)
 · rw [if_pos hC] at hok ⊢
   split at hok
   · rename_i hv; rw [if_pos hv]; exact ⟨fun _ => by omega, fun h => by omega, fun h => by omega, by omega⟩
   · exact absurd rfl hok
 rw [if_neg hC] at hok
 exact absurd rfl hok
theorem rune_cont {l : Bs} (hok : okB ⟨l.toArray⟩ 0 = true) {i : Nat} (h0 : 0 < i) (hi : i < (Utf8.decode ⟨l.toArray⟩ 0).2) (hl : i < l.length) : (l[i]'hl).toNat / 64 = 2 := by
 have hne := ok_ne1 hok
 rw [Lib.decode_at] at hne hi
 obtain ⟨h1, h2, h3, h4⟩ := decN_cont _ _ _ _ _ hne
 have hg : ∀ j, j = i → ByteArray.get! ⟨l.toArray⟩ j = l[i]'hl := fun j hj => by subst hj; exact get_at l j hl
 have hc : i = 1 ∨ i = 2 ∨ i = 3 := by omega
 rcases hc with hc | hc | hc
 · have := h1 (by omega); rw [hg (0 + 1) (by omega)] at this; exact this
 · have := h2 (by omega); rw [hg (0 + 2) (by omega)] at this; exact this
 · have := h3 (by omega); rw [hg (0 + 3) (by omega)] at this; exact this
theorem valid_nocut : ∀ (n : Nat) (l : Bs), l.length ≤ n → Lib.validGoD n l = true → NoCut l
 | 0, l, hn, _ => by
   have : l = [] := List.length_eq_zero_iff.1 (by omega)
   subst this; exact NoCut.nil
 | n + 1, l, hn, h => by
   by_cases h0 : l = []
   · subst h0; exact NoCut.nil
   · rw [Lib.validGoD, if_neg h0] at h
     split at h
     · cases h
     · rename_i hv
       rw [decodeL_eq] at hv h
       have h1 := dec_w l h0
       have hok : okB ⟨l.toArray⟩ 0 = true := by
         unfold okB
         by_cases ha : (Utf8.decode ⟨l.toArray⟩ 0).1 = 65533
         · have hb : (Utf8.decode ⟨l.toArray⟩ 0).2 ≠ 1 := fun e => hv ⟨ha, e⟩
           rw [decide_eq_true (by omega), Bool.or_true]
         · rw [beq_eq_false_iff_ne.2 (by omega)]; rfl
       have h2 := dec_le l h0
       have ih := valid_nocut n (l.drop (Utf8.decode ⟨l.toArray⟩ 0).2) (by rw [List.length_drop]; omega) h
       intro i hi x hx
       by_cases hi0 : i = 0
       · subst hi0
         rw [List.drop_zero] at hx ⊢
         rw [dec_app l x h0 hok]; exact h2
       · by_cases hid : i < (Utf8.decode ⟨l.toArray⟩ 0).2
         · exfalso
           have hc := rune_cont hok (by omega) hid hi
           rw [List.drop_eq_getElem_cons hi, List.cons_append, cont_no _ hc] at hx
           cases hx
         · obtain ⟨j, rfl⟩ : ∃ j, i = (Utf8.decode ⟨l.toArray⟩ 0).2 + j := ⟨i - (Utf8.decode ⟨l.toArray⟩ 0).2, by omega⟩
           have := ih j (by rw [List.length_drop]; omega) x (by rw [List.drop_drop]; exact hx)
           rw [List.drop_drop] at this
           exact this
theorem first_read (s : Bs) {n : LnS} {P : Int} (h : readLn s 0 = (n, P, 220)) : ∃ p : Nat, P = (p : Int) ∧ n = noLn ∧ p ≤ s.length ∧
   (∀ c, s[p]? = some c → c.toNat < 128 → ∀ x, readLn (s.take (p + 1) ++ x) 0 = (noLn, ((p : Nat) : Int), 220)) ∧
   ∀ k ≤ p, (k = 0 ∨ Lib.validD (s.take k) = true) → ∃ m e, readLn (s.take k) 0 = (m, ((k : Nat) : Int), e) ∧ (e = 0 ∨ e = 220) := by
 have hg : ∀ t : Bs, readLn t 0 = (match lineS t with | .ok (n, r) => (n, ((t.length - r.length : Nat) : Int), 0) | .error (r, m) => (noLn, ((t.length - r.length : Nat) : Int), m)) := fun t => by
   unfold readLn
   rw [if_neg (by omega)]; rfl
 rw [hg] at h
 cases hl : lineS s with
 | ok x =>
   obtain ⟨a, b⟩ := x
   rw [hl] at h
   have : (0 : Int) = 220 := congrArg (·.2.2) h
   exact absurd this (by decide)
 | error x =>
   obtain ⟨r, e⟩ := x
   rw [hl] at h
   simp only [Prod.mk.injEq] at h
   obtain ⟨hn, hP, he⟩ := h
   subst he
   obtain ⟨a, ha, hloc, hpre⟩ := first_law hl
   have hlen : s.length = a.length + r.length := by rw [ha, List.length_append]
   have hp : s.length - r.length = a.length := by omega
   rw [hp] at hP
   refine ⟨a.length, hP.symm, hn.symm, by omega, fun c hc hc2 x => ?_, fun k hk hv => ?_⟩
   · have hr : r.head? = some c := by rw [ha, List.getElem?_append_right (Nat.le_refl _), Nat.sub_self] at hc; rw [List.head?_eq_getElem?]; exact hc
     have ht : s.take (a.length + 1) = a ++ [c] := by
       cases r with
       | nil => cases hr
       | cons d z =>
         obtain rfl : d = c := Option.some.inj hr
         rw [ha, List.take_append, List.take_of_length_le (Nat.le_succ _)]
         simp
     rw [ht, List.append_assoc, hg]
     show (match lineS (a ++ c :: x) with | .ok (n, r) => (n, (((a ++ c :: x).length - r.length : Nat) : Int), 0) | .error (r, m) => (noLn, (((a ++ c :: x).length - r.length : Nat) : Int), m)) = _
     rw [hloc c x hr hc2]
     simp only [List.length_append, List.length_cons]
     rw [show a.length + (x.length + 1) - (x.length + 1) = a.length by omega]
   · have hb : s.take k <+: a := by
       rw [ha, List.take_append_of_le_length hk]; exact List.take_prefix _ _
     have hnc : NoCut (s.take k) := by
       rcases hv with rfl | hv
       · exact NoCut.nil
       · exact valid_nocut _ _ (Nat.le_refl _) hv
     have hkl : (s.take k).length = k := by rw [List.length_take]; omega
     rw [hg]
     rcases hpre _ hb hnc with ⟨m, hm⟩ | hm
     · rw [hm]
       simp only []
       exact ⟨m, 0, by rw [hkl]; rfl, .inl rfl⟩
     · rw [hm]
       simp only []
       exact ⟨noLn, 220, by rw [hkl]; rfl, .inr rfl⟩
end Yd


namespace Yd
open Go Go.RowKit Go.Proofs

end Yd


namespace Yd
open Go Go.RowKit Go.Proofs
attribute [local go_sem] Oper.semAt_some

end Yd
