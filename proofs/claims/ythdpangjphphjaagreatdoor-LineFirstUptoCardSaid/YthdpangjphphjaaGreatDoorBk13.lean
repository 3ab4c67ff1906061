import Derived.Test.YthdpangjphphjaaGreatDoorBk10
import Derived.Test.YthdpangjphphjaaGreatDoorProg
import Derived.Test.YthdpangjphphjaaGreatDoorTxB
import Derived.Test.YthdpangjphphjaaGreatDoorCut12
set_option maxRecDepth 200000
set_option maxHeartbeats 8000000
namespace Yd
open Go Go.RowKit Go.Proofs

theorem decN_bytes (n b0 b1 b2 b3 : Nat) (hok : Lib.decodeN n b0 b1 b2 b3 ≠ (65533, 1)) : (b0 < 128 ∧ Lib.decodeN n b0 b1 b2 b3 = (b0, 1)) ∨
   (128 ≤ b0 ∧ (1 < (Lib.decodeN n b0 b1 b2 b3).2 → 128 ≤ b1) ∧ (2 < (Lib.decodeN n b0 b1 b2 b3).2 → 128 ≤ b2) ∧ (3 < (Lib.decodeN n b0 b1 b2 b3).2 → 128 ≤ b3) ∧ (Lib.decodeN n b0 b1 b2 b3).2 ≤ 4) := by
 unfold Lib.decodeN at hok ⊢
 by_cases a : b0 < 128
 · rw [if_pos a]; exact .inl ⟨a, rfl⟩
 rw [if_neg a] at hok ⊢
 right
 refine ⟨by omega, ?_⟩
 by_cases hA : b0 / 32 = 6 ∧ (1 < n ∧ b1 / 64 = 2)
 · rw [if_pos hA] at hok ⊢
   split at hok
   · rename_i hv; rw [if_pos hv]; exact ⟨fun _ => by omega, fun h => by omega, fun h => by omega, by omega⟩
   · exact absurd rfl hok
 rw [if_neg hA] at hok ⊢
 by_cases hB : b0 / 16 = 14 ∧ (1 < n ∧ b1 / 64 = 2) ∧ (2 < n ∧ b2 / 64 = 2)
 · rw [if_pos hB] at hok ⊢
   split at hok
   · rename_i hv; rw [if_pos hv]; exact ⟨fun _ => by omega, fun h => by omega, fun h => by omega, by omega⟩
   · exact absurd rfl hok
 rw [if_neg hB] at hok ⊢
 by_cases hC : b0 / 8 = 30 ∧ (1 < n ∧ b1 / 64 = 2) ∧ (2 < n ∧ b2 / 64 = 2) ∧ (3 < n ∧ b3 / 64 = 2)
 · rw [if_pos hC] at hok ⊢
   split at hok
   · rename_i hv; rw [if_pos hv]; exact ⟨fun _ => by omega, fun h => by omega, fun h => by omega, by omega⟩
   · exact absurd rfl hok
 rw [if_neg hC] at hok
 exact absurd rfl hok
theorem get_at (l : Bs) (i : Nat) (h : i < l.length) : ByteArray.get! ⟨l.toArray⟩ i = l[i] := by
 simp only [ByteArray.get!]
 rw [getElem!_pos l.toArray i (by simpa using h)]
 simp
theorem while_no (p : Int → Bool) (b : UInt8) (hb : b.toNat < 128) (hp : p (b.toNat : Int) = false) : ∀ (n : Nat) (w : Bs), w.length ≤ n → whileE ⟨w.toArray⟩ p = w.length → ∀ c ∈ w, c ≠ b
 | 0, w, hn, _ => by
   have : w = [] := List.length_eq_zero_iff.1 (by omega)
   subst this; intro c hc; cases hc
 | n + 1, w, hn, hw => by
   by_cases h0 : w = []
   · subst h0; intro c hc; cases hc
   · have hpos : 0 < w.length := List.length_pos_iff.2 h0
     rw [whileE_cons w p h0] at hw
     by_cases hc : (okB ⟨w.toArray⟩ 0 && p ((Utf8.decode ⟨w.toArray⟩ 0).1 : Int)) = true
     · rw [if_pos hc] at hw
       rw [Bool.and_eq_true] at hc
       have h1 := dec_w w h0; have h2 := dec_le w h0
       have ih := while_no p b hb hp n (w.drop (Utf8.decode ⟨w.toArray⟩ 0).2) (by rw [List.length_drop]; omega) (by rw [List.length_drop]; omega)
       have hsh := decN_bytes _ _ _ _ _ (by have := ok_ne1 hc.1; rw [Lib.decode_at] at this; exact this)
       rw [← Lib.decode_at] at hsh
       intro c hcm
       rw [← List.take_append_drop (Utf8.decode ⟨w.toArray⟩ 0).2 w] at hcm
       rcases List.mem_append.1 hcm with hcm | hcm
       · obtain ⟨i, hi, hci⟩ := List.getElem_of_mem hcm
         rw [List.length_take] at hi
         have hiw : i < w.length := by omega
         rw [List.getElem_take] at hci
         have hg := get_at w i hiw
         rw [hci] at hg
         rcases hsh with ⟨hlo, he⟩ | ⟨hhi, k1, k2, k3, k4⟩
         · rw [he] at hi hc
           have hi0 : i = 0 := by have : min 1 w.length ≤ 1 := Nat.min_le_left _ _; omega
           subst hi0
           rw [hg] at hc
           intro e
           rw [e] at hc
           have := hc.2
           simp only [] at this
           rw [hp] at this; cases this
         · have hge : 128 ≤ (ByteArray.get! ⟨w.toArray⟩ i).toNat := by
             have : i = 0 ∨ i = 1 ∨ i = 2 ∨ i = 3 := by omega
             rcases this with rfl | rfl | rfl | rfl
             · exact hhi
             · exact k1 (by omega)
             · exact k2 (by omega)
             · exact k3 (by omega)
           rw [hg] at hge
           intro e; rw [e] at hge; omega
       · exact ih c hcm
     · rw [if_neg hc] at hw; omega
theorem guard_no10 (k : Nat) : ∀ c ∈ guardT k, c ≠ 10 := by
 match k with
 | 0 => decide
 | 1 => decide
 | 2 => decide
 | k + 3 => exact (by decide : ∀ c ∈ guardT 3, c ≠ 10)
theorem guards_no10 (b : Int) : ∀ j, ∀ x ∈ guardsN b j, ∀ c ∈ x, c ≠ 10
 | 0, x, hx => by cases hx
 | j + 1, x, hx => by
   rw [guardsN] at hx
   rcases List.mem_append.1 hx with hx | hx
   · exact guards_no10 b j x hx
   · split at hx
     · rw [List.mem_singleton.1 hx]; exact guard_no10 j
     · cases hx
theorem glue_no10 : ∀ (ws : List Bs), (∀ x ∈ ws, ∀ c ∈ x, c ≠ 10) → ∀ c ∈ Lib.joinTail [32] ws, c ≠ 10
 | [], _, c, hc => by simp [Lib.joinTail] at hc
 | x :: ws, h, c, hc => by
   have e : Lib.joinTail [32] (x :: ws) = [32] ++ (x ++ Lib.joinTail [32] ws) := by simp [Lib.joinTail]
   rw [e] at hc
   rcases List.mem_append.1 hc with hc | hc
   · rw [List.mem_singleton.1 hc]; decide
   · rcases List.mem_append.1 hc with hc | hc
     · exact h x List.mem_cons_self c hc
     · exact glue_no10 ws (fun y hy => h y (List.mem_cons_of_mem _ hy)) c hc
end Yd


namespace Yd
open Go Go.RowKit Go.Proofs

theorem bk_digs_len : ∀ (k n : Nat), n < 10 ^ k → (digs n).length ≤ k
 | 0, n, h => by
   have : n = 0 := by simpa using h
   subst this; exact Nat.le_refl _
 | k + 1, n, h => by
   rcases Nat.eq_zero_or_pos n with h0 | h0
   · subst h0; exact Nat.zero_le _
   · rw [digs_step h0, List.length_append, List.length_singleton]
     have := bk_digs_len k (n / 10) (by rw [Nat.pow_succ] at h; omega)
     omega
theorem bk_guard_len (k : Nat) : (guardT k).length ≤ 40 := by
 match k with
 | 0 => decide
 | 1 => decide
 | 2 => decide
 | k + 3 => exact (by decide : (guardT 3).length ≤ 40)
theorem guards_len (b : Int) : ∀ j, ∀ x ∈ guardsN b j, x.length ≤ 40
 | 0, x, hx => by cases hx
 | j + 1, x, hx => by
   rw [guardsN] at hx
   rcases List.mem_append.1 hx with hx | hx
   · exact guards_len b j x hx
   · split at hx
     · rw [List.mem_singleton.1 hx]; exact bk_guard_len j
     · cases hx
theorem bk_pairs_len : ∀ zs : List (Bs × To), (zs.flatMap (fun p => [p.1, toldT p.2])).length = 2 * zs.length
 | [] => rfl
 | z :: zs => by rw [List.flatMap_cons, List.length_append, bk_pairs_len zs, List.length_cons]; simp; omega
theorem bk_join_len : ∀ ws : List Bs, (∀ x ∈ ws, x.length ≤ 40) → (Lib.joinTail [32] ws).length ≤ 41 * ws.length
 | [], _ => by simp [Lib.joinTail]
 | x :: ws, h => by
   have e : Lib.joinTail [32] (x :: ws) = [32] ++ (x ++ Lib.joinTail [32] ws) := by simp [Lib.joinTail]
   have := bk_join_len ws (fun y hy => h y (List.mem_cons_of_mem _ hy))
   have := h x List.mem_cons_self
   rw [e, List.length_append, List.length_append, List.length_cons]
   simp
   omega
end Yd


namespace Yd
open Go Go.RowKit Go.Proofs

def Bad {α : Type} (x : Except Er α) : Prop := ∀ r m, x = .error (r, m) → m ≠ 0
theorem more_bad (l : Bs) : Bad (moreS l) := fun r m h => by
 unfold moreS at h
 split at h
 · cases h
 · split at h
   · injection h with h; injection h with _ h; subst h; decide
   · cases h
theorem must_bad (l : Bs) : Bad (mustS l) := fun r m h => by
 unfold mustS at h
 cases hm : moreS l with
 | error x => obtain ⟨r', m'⟩ := x; rw [hm] at h; injection h with h; injection h with _ h; subst h; exact more_bad l _ _ hm
 | ok y =>
   obtain ⟨b, r'⟩ := y
   rw [hm] at h
   cases b
   · injection h with h; injection h with _ h; subst h; decide
   · cases h
theorem name_bad (l : Bs) : Bad (nameS l) := fun r m h => by
 unfold nameS at h
 split at h
 · injection h with h; injection h with _ h; subst h; decide
 · split at h
   · injection h with h; injection h with _ h; subst h; decide
   · cases h
theorem word_bad (ws : List Bs) (l : Bs) : Bad (wordS ws l) := fun r m h => by
 unfold wordS at h
 split at h
 · cases h
 · injection h with h; injection h with _ h; subst h; decide
theorem vers_bad (l : Bs) : Bad (versS l) := fun r m h => by
 unfold versS at h
 split at h
 · cases h
 · cases hn : nameS l with
   | error x => obtain ⟨r', m'⟩ := x; rw [hn] at h; injection h with h; injection h with _ h; subst h; exact name_bad l _ _ hn
   | ok y =>
     obtain ⟨nm, r1⟩ := y
     rw [hn] at h
     simp only [] at h
     split at h
     · unfold numV at h
       simp only [] at h
       split at h
       · injection h with h; injection h with _ h; subst h; decide
       · split at h
         · injection h with h; injection h with _ h; subst h; decide
         · cases h
     · injection h with h; injection h with _ h; subst h; decide
theorem names_bad : ∀ (k : Nat) (acc : List Bs) (l : Bs), Bad (namesS k acc l)
 | 0, acc, l => fun r m h => by rw [namesS] at h; cases h
 | k + 1, acc, l => fun r m h => by
   rw [namesS] at h
   cases hm : mustS l with
   | error x => obtain ⟨r', m'⟩ := x; rw [hm] at h; injection h with h; injection h with _ h; subst h; exact must_bad l _ _ hm
   | ok r0 =>
     rw [hm] at h
     simp only [] at h
     cases hn : nameS r0 with
     | error x => obtain ⟨r', m'⟩ := x; rw [hn] at h; injection h with h; injection h with _ h; subst h; exact name_bad _ _ _ hn
     | ok y => obtain ⟨nm, r1⟩ := y; rw [hn] at h; exact names_bad k _ _ _ _ h
theorem others_bad (pairs : Bool) (most : Nat) : ∀ (f many : Nat) (ns : List Bs) (vs : List To) (l : Bs), Bad (othersS pairs most f many ns vs l)
 | 0, many, ns, vs, l => fun r m h => by rw [othersS] at h; cases h
 | f + 1, many, ns, vs, l => fun r m h => by
   rw [othersS] at h
   cases hmo : moreS l with
   | error x => obtain ⟨r', m'⟩ := x; rw [hmo] at h; injection h with h; injection h with _ h; subst h; exact more_bad l _ _ hmo
   | ok y =>
     obtain ⟨bo, r0⟩ := y
     rw [hmo] at h
     cases bo
     · cases h
     · simp only [] at h
       by_cases hb : many = most ∧ beginsS r0 = true
       · rw [if_pos hb] at h; injection h with h; injection h with _ h; subst h; decide
       · rw [if_neg hb] at h
         cases hn : nameS r0 with
         | error x => obtain ⟨r', m'⟩ := x; rw [hn] at h; injection h with h; injection h with _ h; subst h; exact name_bad _ _ _ hn
         | ok y =>
           obtain ⟨nm, r1⟩ := y
           rw [hn] at h
           simp only [] at h
           by_cases hp : pairs = true
           · rw [if_pos hp] at h
             cases hu : mustS r1 with
             | error x => obtain ⟨r', m'⟩ := x; rw [hu] at h; injection h with h; injection h with _ h; subst h; exact must_bad _ _ _ hu
             | ok r2 =>
               rw [hu] at h
               simp only [] at h
               cases hv : versS r2 with
               | error x => obtain ⟨r', m'⟩ := x; rw [hv] at h; injection h with h; injection h with _ h; subst h; exact vers_bad _ _ _ hv
               | ok y => obtain ⟨v, r3⟩ := y; rw [hv] at h; exact others_bad pairs most f _ _ _ _ _ _ h
           · rw [if_neg hp] at h
             exact others_bad pairs most f _ _ _ _ _ _ h
theorem guar_bad : ∀ (f k : Nat) (b : Int) (l : Bs), Bad (guarS f k b l)
 | 0, k, b, l => fun r m h => by rw [guarS] at h; cases h
 | f + 1, k, b, l => fun r m h => by
   rw [guarS] at h
   cases hmo : moreS l with
   | error x => obtain ⟨r', m'⟩ := x; rw [hmo] at h; injection h with h; injection h with _ h; subst h; exact more_bad l _ _ hmo
   | ok y =>
     obtain ⟨bo, r0⟩ := y
     rw [hmo] at h
     cases bo
     · cases h
     · simp only [] at h
       cases hw : wordS (guardL.drop k) r0 with
       | error x => obtain ⟨r', m'⟩ := x; rw [hw] at h; injection h with h; injection h with _ h; subst h; exact word_bad _ _ _ _ hw
       | ok y => obtain ⟨i, r1⟩ := y; rw [hw] at h; exact guar_bad f _ _ _ _ _ h
end Yd
