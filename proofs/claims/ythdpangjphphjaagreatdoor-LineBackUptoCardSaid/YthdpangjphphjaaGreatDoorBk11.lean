import Derived.Test.YthdpangjphphjaaGreatDoorRdL
import Derived.Test.YthdpangjphphjaaGreatDoorCuR
import Derived.Test.YthdpangjphphjaaGreatDoorProg
set_option maxRecDepth 200000
set_option maxHeartbeats 8000000
namespace Yd
open Go Go.RowKit Go.Proofs

theorem names_may : ∀ (k : Nat) (acc : List Bs) (l : Bs) {ns : List Bs} {r : Bs}, namesS k acc l = .ok (ns, r) → (∀ x ∈ acc, wordB ⟨x.toArray⟩ = true) → ns.length = acc.length + k ∧ ∀ x ∈ ns, wordB ⟨x.toArray⟩ = true
 | 0, acc, l, ns, r, h, ha => by rw [namesS] at h; injection h with h; injection h with h _; subst h; exact ⟨rfl, ha⟩
 | k + 1, acc, l, ns, r, h, ha => by
   rw [namesS] at h
   cases hm : mustS l with
   | error y => rw [hm] at h; cases h
   | ok r0 =>
     rw [hm] at h
     simp only [] at h
     cases hn : nameS r0 with
     | error y => rw [hn] at h; cases h
     | ok y =>
       obtain ⟨nm, r1⟩ := y
       rw [hn] at h
       have := names_may k _ _ h (fun x hx => by
         rcases List.mem_append.1 hx with hx | hx
         · exact ha x hx
         · rw [List.mem_singleton.1 hx]; exact name_word hn)
       simp only [List.length_append, List.length_singleton] at this
       exact ⟨by omega, this.2⟩
theorem others_may (pairs : Bool) (most : Nat) : ∀ (f many : Nat) (ns : List Bs) (vs : List To) (l : Bs) {a : List Bs} {b : List To} {r : Bs}, othersS pairs most f many ns vs l = .ok ((a, b), r) → most + 1 ≤ f + many → many ≤ most → (∀ x ∈ ns, wordB ⟨x.toArray⟩ = true) → (∀ v ∈ vs, toOk v) →
   ∃ c : Nat, a.length = ns.length + c ∧ b.length = vs.length + (if pairs = true then c else 0) ∧ many + c ≤ most ∧ (∀ x ∈ a, wordB ⟨x.toArray⟩ = true) ∧ ∀ v ∈ b, toOk v
 | 0, many, ns, vs, l, a, b, r, h, hf, hm, hns, hvs => by omega
 | f + 1, many, ns, vs, l, a, b, r, h, hf, hm, hns, hvs => by
   rw [othersS] at h
   cases hmo : moreS l with
   | error y => rw [hmo] at h; cases h
   | ok y =>
     obtain ⟨bo, r0⟩ := y
     rw [hmo] at h
     cases bo
     · injection h with h; injection h with h _; injection h with h1 h2; subst h1 h2
       exact ⟨0, rfl, by split <;> rfl, hm, hns, hvs⟩
     · simp only [] at h
       by_cases hb : many = most ∧ beginsS r0 = true
       · rw [if_pos hb] at h; cases h
       · rw [if_neg hb] at h
         cases hn : nameS r0 with
         | error y => rw [hn] at h; cases h
         | ok y =>
           obtain ⟨nm, r1⟩ := y
           rw [hn] at h
           simp only [] at h
           have hmn : many < most := by
             rcases Nat.lt_or_ge many most with h' | h'
             · exact h'
             · exfalso
               have hbe : beginsS r0 = false := by
                 cases hq : beginsS r0
                 · rfl
                 · exact absurd ⟨by omega, hq⟩ hb
               rw [nameS_nb hbe] at hn; cases hn
           have hns' : ∀ x ∈ ns ++ [nm], wordB ⟨x.toArray⟩ = true := fun x hx => by
             rcases List.mem_append.1 hx with hx | hx
             · exact hns x hx
             · rw [List.mem_singleton.1 hx]; exact name_word hn
           by_cases hp : pairs = true
           · rw [if_pos hp] at h
             cases hu : mustS r1 with
             | error y => rw [hu] at h; cases h
             | ok r2 =>
               rw [hu] at h
               simp only [] at h
               cases hv : versS r2 with
               | error y => rw [hv] at h; cases h
               | ok y =>
                 obtain ⟨v, r3⟩ := y
                 rw [hv] at h
                 obtain ⟨c, h1, h2, h3, h4, h5⟩ := others_may pairs most f (many + 1) _ _ _ h (by omega) (by omega) hns' (fun x hx => by
                   rcases List.mem_append.1 hx with hx | hx
                   · exact hvs x hx
                   · rw [List.mem_singleton.1 hx]; exact vers_ok hv)
                 rw [if_pos hp] at h2
                 simp only [List.length_append, List.length_singleton] at h1 h2
                 exact ⟨c + 1, by omega, by rw [if_pos hp]; omega, by omega, h4, h5⟩
           · rw [if_neg hp] at h
             obtain ⟨c, h1, h2, h3, h4, h5⟩ := others_may pairs most f (many + 1) _ _ _ h (by omega) (by omega) hns' hvs
             rw [if_neg hp] at h2
             simp only [List.length_append, List.length_singleton] at h1
             exact ⟨c + 1, by omega, by rw [if_neg hp]; omega, by omega, h4, h5⟩
theorem guar_may : ∀ (f k : Nat) (b : Int) (l : Bs) {x : Int} {r : Bs}, guarS f k b l = .ok (x, r) → (∃ m : Nat, b = m ∧ m < 2 ^ k ∧ k ≤ 4) → ∃ m : Nat, x = m ∧ m ≤ 15
 | 0, k, b, l, x, r, h, ⟨m, hm, hlt, hk⟩ => by
   rw [guarS] at h; injection h with h; injection h with h _; subst h
   refine ⟨m, hm, ?_⟩
   have : (2 : Nat) ^ k ≤ 2 ^ 4 := Nat.pow_le_pow_right (by decide) hk
   omega
 | f + 1, k, b, l, x, r, h, ⟨m, hm, hlt, hk⟩ => by
   rw [guarS] at h
   have h16 : (2 : Nat) ^ k ≤ 2 ^ 4 := Nat.pow_le_pow_right (by decide) hk
   cases hmo : moreS l with
   | error y => rw [hmo] at h; cases h
   | ok y =>
     obtain ⟨bo, r0⟩ := y
     rw [hmo] at h
     cases bo
     · injection h with h; injection h with h _; subst h
       exact ⟨m, hm, by omega⟩
     · simp only [] at h
       cases hw : wordS (guardL.drop k) r0 with
       | error y => rw [hw] at h; cases h
       | ok y =>
         obtain ⟨i, r1⟩ := y
         rw [hw] at h
         rw [← one_word _ _ (wc_guard k)] at hw
         have hi := one_lt hw
         rw [List.length_drop] at hi
         have h4 : guardL.length = 4 := rfl
         have hpw : (2 : Nat) ^ k ≤ 2 ^ (k + i) := Nat.pow_le_pow_right (by decide) (by omega)
         refine guar_may f (k + i + 1) _ _ h ⟨m + 2 ^ (k + i), ?_, ?_, by omega⟩
         · rw [hm]; push_cast; rfl
         · rw [Nat.pow_succ]; omega
theorem read_may {l r : Bs} {n : LnS} (h : readS l = .ok (n, r)) : n = ⟨0, [], 0, [], false, 0⟩ ∨ lineOk n := by
 unfold readS at h
 by_cases he : endsS (skipS l) = true
 · rw [if_pos he] at h; injection h with h; injection h with h _; exact .inl h.symm
 rw [if_neg he] at h
 right
 cases hw : wordS verbL (skipS l) with
 | error y => rw [hw] at h; cases h
 | ok y =>
   obtain ⟨i, r0⟩ := y
   rw [hw] at h
   simp only [] at h
   rw [← one_word _ _ wc_verb] at hw
   have hi : i < 9 := one_lt hw
   cases hn : namesS (formN (i + 1)).toNat [] r0 with
   | error y => rw [hn] at h; cases h
   | ok y =>
     obtain ⟨ns, r1⟩ := y
     rw [hn] at h
     simp only [] at h
     have h1 := names_may _ _ _ hn (by simp)
     cases ht : tailS (i + 1) ns r1 with
     | error y => rw [ht] at h; cases h
     | ok y =>
       obtain ⟨s, r2⟩ := y
       rw [ht] at h
       simp only [] at h
       have hs : s = n := by
         cases hm : moreS r2 with
         | error y => rw [hm] at h; cases h
         | ok y =>
           obtain ⟨b, r3⟩ := y
           rw [hm] at h
           cases b
           · injection h with h; injection h with h _
           · cases h
       subst hs
       clear h hn hw he
       have hk : i = 0 ∨ i = 1 ∨ i = 2 ∨ i = 3 ∨ i = 4 ∨ i = 5 ∨ i = 6 ∨ i = 7 ∨ i = 8 := by omega
       unfold tailS at ht
       rcases hk with rfl | rfl | rfl | rfl | rfl | rfl | rfl | rfl | rfl
       · rw [if_pos rfl] at ht
         cases hm : mustS r1 with
         | error y => rw [hm] at ht; cases ht
         | ok r0 =>
           rw [hm] at ht
           simp only [] at ht
           cases hq : wordS levelL r0 with
           | error y => rw [hq] at ht; cases ht
           | ok y =>
             obtain ⟨j, r3⟩ := y
             rw [hq] at ht
             injection ht with ht; injection ht with ht _; subst ht
             rw [← one_word _ _ wc_level] at hq
             have hj : j < 4 := one_lt hq
             exact ⟨h1.2, by simp, .inl ⟨rfl, h1.1.trans (by decide), rfl, ⟨1 + j, by push_cast; rfl, by omega, by omega⟩, rfl, rfl⟩⟩
       · injection ht with ht; injection ht with ht _; subst ht
         exact ⟨h1.2, by simp, .inr (.inl ⟨rfl, h1.1.trans (by decide), rfl, rfl, rfl, rfl⟩)⟩
       · rw [if_neg (by decide), if_pos rfl] at ht
         cases hm : mustS r1 with
         | error y => rw [hm] at ht; cases ht
         | ok r0 =>
           rw [hm] at ht
           simp only [] at ht
           cases hq : versS r0 with
           | error y => rw [hq] at ht; cases ht
           | ok y =>
             obtain ⟨v, r3⟩ := y
             rw [hq] at ht
             injection ht with ht; injection ht with ht _; subst ht
             exact ⟨h1.2, fun t ht => by rw [List.mem_singleton.1 ht]; exact vers_ok hq, .inr (.inr (.inl ⟨rfl, h1.1.trans (by decide), rfl, rfl, rfl, rfl⟩))⟩
       · rw [if_neg (by decide), if_neg (by decide), if_neg (by decide), if_neg (by decide), if_pos rfl] at ht
         cases ho : othersS true 40 41 0 ns [] r1 with
         | error y => rw [ho] at ht; cases ht
         | ok y =>
           obtain ⟨⟨a, b⟩, r3⟩ := y
           rw [ho] at ht
           injection ht with ht; injection ht with ht _; subst ht
           obtain ⟨c, e1, e2, e3, e4, e5⟩ := others_may _ _ _ _ _ _ _ ho (by omega) (by omega) h1.2 (by simp)
           have hl : ns.length = 2 := h1.1.trans (by decide)
           exact ⟨e4, e5, .inr (.inr (.inr (.inl ⟨rfl, ⟨c, by show a.length = _; omega, by show b.length = _; simpa using e2, by omega⟩, trivial, rfl, rfl, rfl⟩)))⟩
       · injection ht with ht; injection ht with ht _; subst ht
         exact ⟨h1.2, by simp, .inr (.inr (.inr (.inr (.inl ⟨rfl, h1.1.trans (by decide), rfl, rfl, rfl, rfl⟩))))⟩
       · injection ht with ht; injection ht with ht _; subst ht
         exact ⟨h1.2, by simp, .inr (.inr (.inr (.inr (.inr (.inl ⟨rfl, h1.1.trans (by decide), rfl, rfl, rfl, rfl⟩)))))⟩
       · rw [if_neg (by decide), if_neg (by decide), if_neg (by decide), if_neg (by decide), if_neg (by decide), if_pos rfl] at ht
         cases ho : othersS false 300 301 0 ns [] r1 with
         | error y => rw [ho] at ht; cases ht
         | ok y =>
           obtain ⟨⟨a, b⟩, r3⟩ := y
           rw [ho] at ht
           injection ht with ht; injection ht with ht _; subst ht
           obtain ⟨c, e1, e2, e3, e4, e5⟩ := others_may _ _ _ _ _ _ _ ho (by omega) (by omega) h1.2 (by simp)
           have hl : ns.length = 1 := h1.1.trans (by decide)
           have hb : b = [] := List.length_eq_zero_iff.1 (by simpa using e2)
           exact ⟨e4, e5, .inr (.inr (.inr (.inr (.inr (.inr (.inl ⟨rfl, ⟨c, by show a.length = _; omega, by omega⟩, hb, rfl, rfl, rfl⟩))))))⟩
       · rw [if_neg (by decide), if_neg (by decide), if_neg (by decide), if_pos rfl] at ht
         cases hf : firstS r1 with
         | error y => rw [hf] at ht; cases ht
         | ok y =>
           obtain ⟨fi, r0⟩ := y
           rw [hf] at ht
           simp only [] at ht
           cases ho : othersS false 300 301 0 ns [] r0 with
           | error y => rw [ho] at ht; cases ht
           | ok y =>
             obtain ⟨⟨a, b⟩, r3⟩ := y
             rw [ho] at ht
             injection ht with ht; injection ht with ht _; subst ht
             obtain ⟨c, e1, e2, e3, e4, e5⟩ := others_may _ _ _ _ _ _ _ ho (by omega) (by omega) h1.2 (by simp)
             have hl : ns.length = 2 := h1.1.trans (by decide)
             have hb : b = [] := List.length_eq_zero_iff.1 (by simpa using e2)
             exact ⟨e4, e5, .inr (.inr (.inr (.inr (.inr (.inr (.inr (.inl ⟨rfl, ⟨c, by show a.length = _; omega, by omega⟩, hb, rfl, trivial, rfl⟩)))))))⟩
       · rw [if_neg (by decide), if_neg (by decide), if_pos rfl] at ht
         cases hg : guarS 5 0 0 r1 with
         | error y => rw [hg] at ht; cases ht
         | ok y =>
           obtain ⟨b, r3⟩ := y
           rw [hg] at ht
           injection ht with ht; injection ht with ht _; subst ht
           obtain ⟨m, hm, h15⟩ := guar_may _ _ _ _ hg ⟨0, rfl, by decide, by decide⟩
           exact ⟨h1.2, by simp, .inr (.inr (.inr (.inr (.inr (.inr (.inr (.inr ⟨rfl, h1.1.trans (by decide), rfl, rfl, rfl, ⟨m, hm, h15⟩⟩)))))))⟩
end Yd


namespace Yd
open Go Go.RowKit Go.Proofs

theorem more_sfx {l r : Bs} {b : Bool} (h : moreS l = .ok (b, r)) : r <:+ l := by
 have hs : skipS l <:+ l := by unfold skipS; exact List.dropWhile_suffix _
 unfold moreS at h
 split at h
 · injection h with h; injection h with _ h; rw [← h]; exact hs
 · split at h
   · cases h
   · injection h with h; injection h with _ h; rw [← h]; exact hs
theorem must_suf {l r : Bs} (h : mustS l = .ok r) : r <:+ l := more_sfx (must_true h)
theorem name_suf {l r m : Bs} (h : nameS l = .ok (m, r)) : r <:+ l := by
 unfold nameS at h
 split at h
 · cases h
 · split at h
   · cases h
   · injection h with h; injection h with _ h; rw [← h]; exact List.drop_suffix _ _
theorem word_suf {ws : List Bs} {l r : Bs} {i : Nat} (h : wordS ws l = .ok (i, r)) : r <:+ l := by
 unfold wordS at h
 split at h
 · injection h with h; injection h with _ h; rw [← h]; exact List.drop_suffix _ _
 · cases h
theorem vers_suf {l r : Bs} {v : To} (h : versS l = .ok (v, r)) : r <:+ l := by
 unfold versS at h
 by_cases h0 : l.head? = some 45
 · rw [if_pos h0] at h; injection h with h; injection h with _ h; rw [← h]; exact List.tail_suffix _
 rw [if_neg h0] at h
 cases hn : nameS l with
 | error x => rw [hn] at h; cases h
 | ok y =>
   obtain ⟨nm, r1⟩ := y
   have h1 := name_suf hn
   rw [hn] at h
   simp only [] at h
   by_cases h46 : r1.head? = some 46
   · rw [if_pos h46] at h
     unfold numV at h
     simp only [] at h
     split at h
     · cases h
     · split at h
       · cases h
       · injection h with h; injection h with _ h; rw [← h]; exact ((List.drop_suffix _ _).trans (List.tail_suffix _)).trans h1
   · rw [if_neg h46] at h; cases h
theorem names_suf : ∀ (k : Nat) (acc : List Bs) (l : Bs) {ns : List Bs} {r : Bs}, namesS k acc l = .ok (ns, r) → r <:+ l
 | 0, acc, l, ns, r, h => by rw [namesS] at h; injection h with h; injection h with _ h; subst h; exact List.suffix_refl _
 | k + 1, acc, l, ns, r, h => by
   rw [namesS] at h
   cases hm : mustS l with
   | error y => rw [hm] at h; cases h
   | ok r0 =>
     rw [hm] at h
     simp only [] at h
     cases hn : nameS r0 with
     | error y => rw [hn] at h; cases h
     | ok y =>
       obtain ⟨nm, r1⟩ := y
       rw [hn] at h
       exact ((names_suf k _ _ h).trans (name_suf hn)).trans (must_suf hm)
theorem others_suf (pairs : Bool) (most : Nat) : ∀ (f many : Nat) (ns : List Bs) (vs : List To) (l : Bs) {x : List Bs × List To} {r : Bs}, othersS pairs most f many ns vs l = .ok (x, r) → r <:+ l
 | 0, many, ns, vs, l, x, r, h => by rw [othersS] at h; injection h with h; injection h with _ h; subst h; exact List.suffix_refl _
 | f + 1, many, ns, vs, l, x, r, h => by
   rw [othersS] at h
   cases hmo : moreS l with
   | error y => rw [hmo] at h; cases h
   | ok y =>
     obtain ⟨bo, r0⟩ := y
     have h0 := more_sfx hmo
     rw [hmo] at h
     cases bo
     · injection h with h; injection h with _ h; subst h; exact h0
     · simp only [] at h
       by_cases hb : many = most ∧ beginsS r0 = true
       · rw [if_pos hb] at h; cases h
       · rw [if_neg hb] at h
         cases hn : nameS r0 with
         | error y => rw [hn] at h; cases h
         | ok y =>
           obtain ⟨nm, r1⟩ := y
           have h1 := name_suf hn
           rw [hn] at h
           simp only [] at h
           by_cases hp : pairs = true
           · rw [if_pos hp] at h
             cases hu : mustS r1 with
             | error y => rw [hu] at h; cases h
             | ok r2 =>
               have h2 := must_suf hu
               rw [hu] at h
               simp only [] at h
               cases hv : versS r2 with
               | error y => rw [hv] at h; cases h
               | ok y =>
                 obtain ⟨v, r3⟩ := y
                 have h3 := vers_suf hv
                 rw [hv] at h
                 exact ((((others_suf pairs most f _ _ _ _ h).trans h3).trans h2).trans h1).trans h0
           · rw [if_neg hp] at h
             exact ((others_suf pairs most f _ _ _ _ h).trans h1).trans h0
theorem guar_suf : ∀ (f k : Nat) (b : Int) (l : Bs) {x : Int} {r : Bs}, guarS f k b l = .ok (x, r) → r <:+ l
 | 0, k, b, l, x, r, h => by rw [guarS] at h; injection h with h; injection h with _ h; subst h; exact List.suffix_refl _
 | f + 1, k, b, l, x, r, h => by
   rw [guarS] at h
   cases hmo : moreS l with
   | error y => rw [hmo] at h; cases h
   | ok y =>
     obtain ⟨bo, r0⟩ := y
     have h0 := more_sfx hmo
     rw [hmo] at h
     cases bo
     · injection h with h; injection h with _ h; subst h; exact h0
     · simp only [] at h
       cases hw : wordS (guardL.drop k) r0 with
       | error y => rw [hw] at h; cases h
       | ok y =>
         obtain ⟨i, r1⟩ := y
         have h1 := word_suf hw
         rw [hw] at h
         exact ((guar_suf f _ _ _ h).trans h1).trans h0
theorem first_suf {l r : Bs} {b : Bool} (h : firstS l = .ok (b, r)) : r <:+ l := by
 unfold firstS at h
 cases hmo : moreS l with
 | error y => rw [hmo] at h; cases h
 | ok y =>
   obtain ⟨bo, r0⟩ := y
   have h0 := more_sfx hmo
   rw [hmo] at h
   cases bo
   · injection h with h; injection h with _ h; subst h; exact List.suffix_refl _
   · simp only [] at h
     split at h
     · injection h with h; injection h with _ h; rw [← h]; exact (List.tail_suffix _).trans h0
     · injection h with h; injection h with _ h; subst h; exact List.suffix_refl _
theorem tail_suf {k : Nat} {ns : List Bs} {l r : Bs} {n : LnS} (h : tailS k ns l = .ok (n, r)) : r <:+ l := by
 unfold tailS at h
 by_cases h1 : k = 1
 · rw [if_pos h1] at h
   cases hm : mustS l with
   | error y => rw [hm] at h; cases h
   | ok r0 =>
     rw [hm] at h
     simp only [] at h
     cases hn : wordS levelL r0 with
     | error y => rw [hn] at h; cases h
     | ok y => obtain ⟨i, r1⟩ := y; rw [hn] at h; injection h with h; injection h with _ h; subst h; exact (word_suf hn).trans (must_suf hm)
 rw [if_neg h1] at h
 by_cases h3 : k = 3
 · rw [if_pos h3] at h
   cases hm : mustS l with
   | error y => rw [hm] at h; cases h
   | ok r0 =>
     rw [hm] at h
     simp only [] at h
     cases hn : versS r0 with
     | error y => rw [hn] at h; cases h
     | ok y => obtain ⟨i, r1⟩ := y; rw [hn] at h; injection h with h; injection h with _ h; subst h; exact (vers_suf hn).trans (must_suf hm)
 rw [if_neg h3] at h
 by_cases h9 : k = 9
 · rw [if_pos h9] at h
   cases hm : guarS 5 0 0 l with
   | error y => rw [hm] at h; cases h
   | ok y => obtain ⟨b, r1⟩ := y; rw [hm] at h; injection h with h; injection h with _ h; subst h; exact guar_suf _ _ _ _ hm
 rw [if_neg h9] at h
 by_cases h8 : k = 8
 · rw [if_pos h8] at h
   cases hm : firstS l with
   | error y => rw [hm] at h; cases h
   | ok y =>
     obtain ⟨f, r0⟩ := y
     rw [hm] at h
     simp only [] at h
     cases ho : othersS false 300 301 0 ns [] r0 with
     | error y => rw [ho] at h; cases h
     | ok y =>
       obtain ⟨⟨a, b⟩, r1⟩ := y
       rw [ho] at h; injection h with h; injection h with _ h; subst h; exact (others_suf _ _ _ _ _ _ _ ho).trans (first_suf hm)
 rw [if_neg h8] at h
 by_cases h4 : k = 4
 · rw [if_pos h4] at h
   cases ho : othersS true 40 41 0 ns [] l with
   | error y => rw [ho] at h; cases h
   | ok y => obtain ⟨⟨a, b⟩, r1⟩ := y; rw [ho] at h; injection h with h; injection h with _ h; subst h; exact others_suf _ _ _ _ _ _ _ ho
 rw [if_neg h4] at h
 by_cases h7 : k = 7
 · rw [if_pos h7] at h
   cases ho : othersS false 300 301 0 ns [] l with
   | error y => rw [ho] at h; cases h
   | ok y => obtain ⟨⟨a, b⟩, r1⟩ := y; rw [ho] at h; injection h with h; injection h with _ h; subst h; exact others_suf _ _ _ _ _ _ _ ho
 rw [if_neg h7] at h
 injection h with h; injection h with _ h; subst h; exact List.suffix_refl _
theorem read_suf {l r : Bs} {n : LnS} (h : readS l = .ok (n, r)) : r <:+ l := by
 have hs : skipS l <:+ l := by unfold skipS; exact List.dropWhile_suffix _
 unfold readS at h
 by_cases he : endsS (skipS l) = true
 · rw [if_pos he] at h; injection h with h; injection h with _ h; subst h; exact hs
 rw [if_neg he] at h
 cases hw : wordS verbL (skipS l) with
 | error y => rw [hw] at h; cases h
 | ok y =>
   obtain ⟨i, r0⟩ := y
   rw [hw] at h
   simp only [] at h
   cases hn : namesS (formN (i + 1)).toNat [] r0 with
   | error y => rw [hn] at h; cases h
   | ok y =>
     obtain ⟨ns, r1⟩ := y
     rw [hn] at h
     simp only [] at h
     cases ht : tailS (i + 1) ns r1 with
     | error y => rw [ht] at h; cases h
     | ok y =>
       obtain ⟨s, r2⟩ := y
       rw [ht] at h
       simp only [] at h
       cases hm : moreS r2 with
       | error y => rw [hm] at h; cases h
       | ok y =>
         obtain ⟨b, r3⟩ := y
         rw [hm] at h
         cases b
         · injection h with h; injection h with _ h; subst h
           exact ((((more_sfx hm).trans (tail_suf ht)).trans (names_suf _ _ _ hn)).trans (word_suf hw)).trans hs
         · cases h
theorem line_end {l r : Bs} {n : LnS} (h : lineS l = .ok (n, r)) : (n = ⟨0, [], 0, [], false, 0⟩ ∨ lineOk n) ∧ (r = [] ∨ (10 :: r) <:+ l) := by
 unfold lineS at h
 cases hr : readS l with
 | error y => rw [hr] at h; cases h
 | ok y =>
   obtain ⟨s, r0⟩ := y
   have h0 := read_suf hr
   have h1 := read_may hr
   have h2 : remS r0 <:+ r0 := by unfold remS; split; exact List.drop_suffix _ _; exact List.suffix_refl _
   rw [hr] at h
   simp only [] at h
   by_cases hn : (remS r0).head? = none
   · rw [if_pos hn] at h; injection h with h; injection h with h h'; subst h; exact ⟨h1, .inl h'.symm⟩
   · rw [if_neg hn] at h
     by_cases h10 : (remS r0).head? = some 10
     · rw [if_pos h10] at h; injection h with h; injection h with h h'; subst h
       refine ⟨h1, .inr ?_⟩
       have : 10 :: r = remS r0 := by
         cases hq : remS r0 with
         | nil => rw [hq] at h10; cases h10
         | cons c t => rw [hq] at h10 h'; rw [List.tail_cons] at h'; rw [List.head?_cons] at h10; rw [← Option.some.inj h10, h']
       rw [this]; exact h2.trans h0
     · rw [if_neg h10] at h; cases h
end Yd


namespace Yd
open Go Go.RowKit Go.Proofs

theorem decN_bytes (n b0 b1 b2 b3 : Nat) (hok : Lib.decodeN n b0 b1 b2 b3 ≠ (65533, 1)) : (b0 < 128 ∧ Lib.decodeN n b0 b1 b2 b3 = (b0, 1)) ∨
   (128 ≤ b0 ∧ (1 < (Lib.decodeN n b0 b1 b2 b3).2 → 128 ≤ b1) ∧ (2 < (Lib.decodeN n b0 b1 b2 b3).2 → 128 ≤ b2) ∧ (3 < (Lib.decodeN n b0 b1 b2 b3).2 → 128 ≤ b3) ∧ (Lib.decodeN n b0 b1 b2 b3).2 ≤ 4) := by
 unfold Lib.decodeN at hok ⊢
 by_cases a : b0 < 128
 · rw [if_pos a]; exact .inl ⟨a, rfl⟩
 rw [if_neg a] at hok ⊢
 right
 refine ⟨by omega, ?_⟩
 by_cases hA : b0 / 32 = 6 ∧ (1 < n ∧ b1 / 64 = 2)
 · rw [if_pos hA] at hok ⊢
   split at hok
   · rename_i hv; rw [if_pos hv]; exact ⟨fun _ => by omega, fun h => by omega, fun h => by omega, by omega⟩
   · exact absurd rfl hok
 rw [if_neg hA] at hok ⊢
 by_cases hB : b0 / 16 = 14 ∧ (1 < n ∧ b1 / 64 = 2) ∧ (2 < n ∧ b2 / 64 = 2)
 · rw [if_pos hB] at hok ⊢
   split at hok
   · rename_i hv; rw [if_pos hv]; exact ⟨fun _ => by omega, fun h => by omega, fun h => by omega, by omega⟩
   · exact absurd rfl hok
 rw [if_neg hB] at hok ⊢
 by_cases hC : b0 / 8 = 30 ∧ (1 < n ∧ b1 / 64 = 2) ∧ (2 < n ∧ b2 / 64 = 2) ∧ (3 < n ∧ b3 / 64 = 2)
 · rw [if_pos hC] at hok ⊢
   split at hok
   · rename_i hv; rw [if_pos hv]; exact ⟨fun _ => by omega, fun h => by omega, fun h => by omega, by omega⟩
   · exact absurd rfl hok
 rw [if_neg hC] at hok
 exact absurd rfl hok
theorem get_at (l : Bs) (i : Nat) (h : i < l.length) : ByteArray.get! ⟨l.toArray⟩ i = l[i] := by
 simp only [ByteArray.get!]
 rw [getElem!_pos l.toArray i (by simpa using h)]
 simp
theorem while_no (p : Int → Bool) (b : UInt8) (hb : b.toNat < 128) (hp : p (b.toNat : Int) = false) : ∀ (n : Nat) (w : Bs), w.length ≤ n → whileE ⟨w.toArray⟩ p = w.length → ∀ c ∈ w, c ≠ b
 | 0, w, hn, _ => by
   have : w = [] := List.length_eq_zero_iff.1 (by omega)
   subst this; intro c hc; cases hc
 | n + 1, w, hn, hw => by
   by_cases h0 : w = []
   · subst h0; intro c hc; cases hc
   · have hpos : 0 < w.length := List.length_pos_iff.2 h0
     rw [whileE_cons w p h0] at hw
     by_cases hc : (okB ⟨w.toArray⟩ 0 && p ((Utf8.decode ⟨w.toArray⟩ 0).1 : Int)) = true
     · rw [if_pos hc] at hw
       rw [Bool.and_eq_true] at hc
       have h1 := dec_w w h0; have h2 := dec_le w h0
       have ih := while_no p b hb hp n (w.drop (Utf8.decode ⟨w.toArray⟩ 0).2) (by rw [List.length_drop]; omega) (by rw [List.length_drop]; omega)
       have hsh := decN_bytes _ _ _ _ _ (by have := ok_ne1 hc.1; rw [Lib.decode_at] at this; exact this)
       rw [← Lib.decode_at] at hsh
       intro c hcm
       rw [← List.take_append_drop (Utf8.decode ⟨w.toArray⟩ 0).2 w] at hcm
       rcases List.mem_append.1 hcm with hcm | hcm
       · obtain ⟨i, hi, hci⟩ := List.getElem_of_mem hcm
         rw [List.length_take] at hi
         have hiw : i < w.length := by omega
         rw [List.getElem_take] at hci
         have hg := get_at w i hiw
         rw [hci] at hg
         rcases hsh with ⟨hlo, he⟩ | ⟨hhi, k1, k2, k3, k4⟩
         · rw [he] at hi hc
           have hi0 : i = 0 := by have : min 1 w.length ≤ 1 := Nat.min_le_left _ _; omega
           subst hi0
           rw [hg] at hc
           intro e
           rw [e] at hc
           have := hc.2
           simp only [] at this
           rw [hp] at this; cases this
         · have hge : 128 ≤ (ByteArray.get! ⟨w.toArray⟩ i).toNat := by
             have : i = 0 ∨ i = 1 ∨ i = 2 ∨ i = 3 := by omega
             rcases this with rfl | rfl | rfl | rfl
             · exact hhi
             · exact k1 (by omega)
             · exact k2 (by omega)
             · exact k3 (by omega)
           rw [hg] at hge
           intro e; rw [e] at hge; omega
       · exact ih c hcm
     · rw [if_neg hc] at hw; omega
theorem word_no10 {w : Bs} (h : wordB ⟨w.toArray⟩ = true) : ∀ c ∈ w, c ≠ 10 := while_no eitB 10 (by decide) (by decide) w.length w (Nat.le_refl _) (word_parts h).2.2.1
theorem digs_no10 (n : Nat) (h : 0 < n) : ∀ c ∈ digs n, c ≠ 10 := fun c hc e => by
 have := (digB_eq c).1 (List.all_eq_true.1 (digs_small n h).2.1 c hc)
 rw [e] at this
 exact absurd this.1 (by decide)
theorem told_no10 {v : To} (h : toOk v) : ∀ c ∈ toldT v, c ≠ 10 := fun c hc => by
 unfold toldT at hc
 rcases h with rfl | ⟨hw, h0, h9⟩
 · rw [if_pos rfl] at hc; rw [List.mem_singleton.1 hc]; decide
 · rw [if_neg (by omega)] at hc
   rcases List.mem_append.1 hc with hc | hc
   · exact word_no10 hw c hc
   · rcases List.mem_cons.1 hc with rfl | hc
     · decide
     · exact digs_no10 _ (by omega) c hc
theorem form_no10 (k : Nat) : ∀ c ∈ formV k, c ≠ 10 := by
 match k with
 | 0 => decide
 | 1 => decide
 | 2 => decide
 | 3 => decide
 | 4 => decide
 | 5 => decide
 | 6 => decide
 | 7 => decide
 | 8 => decide
 | k + 9 => exact (by decide : ∀ c ∈ formV 9, c ≠ 10)
theorem level_no10 (k : Nat) : ∀ c ∈ levelT k, c ≠ 10 := by
 match k with
 | 0 => decide
 | 1 => decide
 | 2 => decide
 | 3 => decide
 | k + 4 => exact (by decide : ∀ c ∈ levelT 4, c ≠ 10)
theorem guard_no10 (k : Nat) : ∀ c ∈ guardT k, c ≠ 10 := by
 match k with
 | 0 => decide
 | 1 => decide
 | 2 => decide
 | k + 3 => exact (by decide : ∀ c ∈ guardT 3, c ≠ 10)
theorem guards_no10 (b : Int) : ∀ j, ∀ x ∈ guardsN b j, ∀ c ∈ x, c ≠ 10
 | 0, x, hx => by cases hx
 | j + 1, x, hx => by
   rw [guardsN] at hx
   rcases List.mem_append.1 hx with hx | hx
   · exact guards_no10 b j x hx
   · split at hx
     · rw [List.mem_singleton.1 hx]; exact guard_no10 j
     · cases hx
theorem words_no10 {s : LnS} (hs : lineOk s) : ∀ x ∈ wordsS s, ∀ c ∈ x, c ≠ 10 := by
 intro x hx
 unfold wordsS at hx
 simp only [] at hx
 rcases List.mem_append.1 hx with hx | hx
 · rcases List.mem_cons.1 hx with rfl | hx
   · exact form_no10 _
   · exact word_no10 (hs.1 x (List.mem_of_mem_take hx))
 · rcases List.mem_append.1 hx with hx | hx
   · split at hx
     · rw [List.mem_singleton.1 hx]; exact level_no10 _
     · split at hx
       · obtain ⟨v, hv, rfl⟩ := List.mem_map.1 hx
         exact told_no10 (hs.2.1 v (List.mem_of_mem_take hv))
       · split at hx
         · exact guards_no10 _ _ x hx
         · split at hx
           · rw [List.mem_singleton.1 hx]; decide
           · cases hx
   · split at hx
     · obtain ⟨p, hp, hx⟩ := List.mem_flatMap.1 hx
       have hz := List.of_mem_zip hp
       simp only [List.mem_cons, List.not_mem_nil, or_false] at hx
       rcases hx with rfl | rfl
       · exact word_no10 (hs.1 _ (List.mem_of_mem_drop hz.1))
       · exact told_no10 (hs.2.1 _ hz.2)
     · exact word_no10 (hs.1 x (List.mem_of_mem_drop hx))
theorem glue_no10 : ∀ (ws : List Bs), (∀ x ∈ ws, ∀ c ∈ x, c ≠ 10) → ∀ c ∈ Lib.joinTail [32] ws, c ≠ 10
 | [], _, c, hc => by simp [Lib.joinTail] at hc
 | x :: ws, h, c, hc => by
   have e : Lib.joinTail [32] (x :: ws) = [32] ++ (x ++ Lib.joinTail [32] ws) := by simp [Lib.joinTail]
   rw [e] at hc
   rcases List.mem_append.1 hc with hc | hc
   · rw [List.mem_singleton.1 hc]; decide
   · rcases List.mem_append.1 hc with hc | hc
     · exact h x List.mem_cons_self c hc
     · exact glue_no10 ws (fun y hy => h y (List.mem_cons_of_mem _ hy)) c hc
theorem text_no10 {s : LnS} (hs : lineOk s) : ∃ u : Bs, textS s = u ++ [10] ∧ ∀ c ∈ u, c ≠ 10 := by
 refine ⟨Lib.join (wordsS s) [32], rfl, ?_⟩
 have h := words_no10 hs
 rw [words_cons s] at h ⊢
 rw [Lib.join_cons]
 intro c hc
 rcases List.mem_append.1 hc with hc | hc
 · exact h _ List.mem_cons_self c hc
 · exact glue_no10 _ (fun x hx => h x (List.mem_cons_of_mem _ hx)) c hc
end Yd
