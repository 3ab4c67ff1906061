import Derived.Test.YthdpangjphphjaaGreatDoorBk7
import Derived.Test.YthdpangjphphjaaGreatDoorRdV
import Derived.Test.YthdpangjphphjaaGreatDoorProg
set_option maxRecDepth 200000
set_option maxHeartbeats 8000000
namespace Yd
open Go Go.RowKit Go.Proofs

theorem decN_cut (n m b0 b1 b2 b3 c1 c2 c3 : Nat) (h1 : 1 < n → c1 = b1) (h2 : 2 < n → c2 = b2) (h3 : 3 < n → c3 = b3) (hok : Lib.decodeN (n + m) b0 c1 c2 c3 ≠ (65533, 1)) (hd : (Lib.decodeN (n + m) b0 c1 c2 c3).2 ≤ n) : Lib.decodeN n b0 b1 b2 b3 = Lib.decodeN (n + m) b0 c1 c2 c3 := by
 unfold Lib.decodeN at hok hd ⊢
 by_cases a : b0 < 128
 · rw [if_pos a, if_pos a]
 rw [if_neg a] at hok hd ⊢
 rw [if_neg a]
 by_cases hA : b0 / 32 = 6 ∧ (1 < n + m ∧ c1 / 64 = 2)
 · rw [if_pos hA] at hok hd ⊢
   by_cases hv : b0 % 32 * 64 + c1 % 64 ≥ 128
   · rw [if_pos hv] at hd ⊢
     have hn : 1 < n := hd
     rw [if_pos (by rw [← h1 hn]; exact ⟨hA.1, hn, hA.2.2⟩), ← h1 hn, if_pos hv]
   · rw [if_neg hv] at hok; exact absurd rfl hok
 rw [if_neg hA] at hok hd ⊢
 by_cases hB : b0 / 16 = 14 ∧ (1 < n + m ∧ c1 / 64 = 2) ∧ (2 < n + m ∧ c2 / 64 = 2)
 · rw [if_pos hB] at hok hd ⊢
   by_cases hv : b0 % 16 * 4096 + c1 % 64 * 64 + c2 % 64 ≥ 2048 ∧ (b0 % 16 * 4096 + c1 % 64 * 64 + c2 % 64 < 55296 ∨ (57344 ≤ b0 % 16 * 4096 + c1 % 64 * 64 + c2 % 64 ∧ b0 % 16 * 4096 + c1 % 64 * 64 + c2 % 64 ≤ 1114111))
   · rw [if_pos hv] at hd ⊢
     have hn : 2 < n := hd
     rw [if_neg (by omega), if_pos (by rw [← h1 (by omega), ← h2 hn]; exact ⟨hB.1, ⟨by omega, hB.2.1.2⟩, hn, hB.2.2.2⟩), ← h1 (by omega), ← h2 hn, if_pos hv]
   · rw [if_neg hv] at hok; exact absurd rfl hok
 rw [if_neg hB] at hok hd ⊢
 by_cases hC : b0 / 8 = 30 ∧ (1 < n + m ∧ c1 / 64 = 2) ∧ (2 < n + m ∧ c2 / 64 = 2) ∧ (3 < n + m ∧ c3 / 64 = 2)
 · rw [if_pos hC] at hok hd ⊢
   by_cases hv : b0 % 8 * 262144 + c1 % 64 * 4096 + c2 % 64 * 64 + c3 % 64 ≥ 65536 ∧ (b0 % 8 * 262144 + c1 % 64 * 4096 + c2 % 64 * 64 + c3 % 64 < 55296 ∨ (57344 ≤ b0 % 8 * 262144 + c1 % 64 * 4096 + c2 % 64 * 64 + c3 % 64 ∧ b0 % 8 * 262144 + c1 % 64 * 4096 + c2 % 64 * 64 + c3 % 64 ≤ 1114111))
   · rw [if_pos hv] at hd ⊢
     have hn : 3 < n := hd
     rw [if_neg (by omega), if_neg (by omega), if_pos (by rw [← h1 (by omega), ← h2 (by omega), ← h3 hn]; exact ⟨hC.1, ⟨by omega, hC.2.1.2⟩, ⟨by omega, hC.2.2.1.2⟩, hn, hC.2.2.2.2⟩), ← h1 (by omega), ← h2 (by omega), ← h3 hn, if_pos hv]
   · rw [if_neg hv] at hok; exact absurd rfl hok
 rw [if_neg hC] at hok
 exact absurd rfl hok
theorem dec_cut (w r : Bs) (hw : w ≠ []) (hok : okB ⟨(w ++ r).toArray⟩ 0 = true) (hd : (Utf8.decode ⟨(w ++ r).toArray⟩ 0).2 ≤ w.length) : Utf8.decode ⟨w.toArray⟩ 0 = Utf8.decode ⟨(w ++ r).toArray⟩ 0 := by
 have hne := ok_ne1 hok
 have hl : 0 < w.length := List.length_pos_iff.2 hw
 rw [Lib.decode_at, bsz, List.length_append, Nat.sub_zero] at hne hd
 rw [Lib.decode_at, Lib.decode_at, bsz, bsz, List.length_append, Nat.sub_zero, Nat.sub_zero]
 rw [get_app w r 0 hl] at hne hd ⊢
 refine decN_cut _ _ _ _ _ _ _ _ _ (fun h => ?_) (fun h => ?_) (fun h => ?_) hne hd
 · rw [get_app w r (0 + 1) (by omega)]
 · rw [get_app w r (0 + 2) (by omega)]
 · rw [get_app w r (0 + 3) (by omega)]
theorem whileE_take (p : Int → Bool) : ∀ (n : Nat) (l : Bs), l.length ≤ n → whileE ⟨(l.take (whileE ⟨l.toArray⟩ p)).toArray⟩ p = whileE ⟨l.toArray⟩ p
 | 0, l, hn => by
   have : l = [] := List.length_eq_zero_iff.1 (by omega)
   subst this; rfl
 | n + 1, l, hn => by
   by_cases h0 : l = []
   · subst h0; rfl
   · have hle := whileE_le p l.length l (Nat.le_refl _)
     have hw := whileE_cons l p h0
     by_cases hc : (okB ⟨l.toArray⟩ 0 && p ((Utf8.decode ⟨l.toArray⟩ 0).1 : Int)) = true
     · rw [if_pos hc] at hw
       rw [Bool.and_eq_true] at hc
       have h1 := dec_w l h0; have h2 := dec_le l h0
       obtain ⟨d, hd⟩ : ∃ d, d = (Utf8.decode ⟨l.toArray⟩ 0).2 := ⟨_, rfl⟩
       obtain ⟨k, hk⟩ : ∃ k, k = whileE ⟨(l.drop d).toArray⟩ p := ⟨_, rfl⟩
       rw [← hd] at hw h1 h2
       rw [← hk] at hw
       have ih := whileE_take p n (l.drop d) (by rw [List.length_drop]; omega)
       rw [← hk] at ih
       rw [hw] at hle ⊢
       have hsp : l = l.take (d + k) ++ l.drop (d + k) := (List.take_append_drop _ _).symm
       have htl : (l.take (d + k)).length = d + k := by rw [List.length_take]; omega
       have htn : l.take (d + k) ≠ [] := by intro e; rw [e] at htl; simp at htl; omega
       have hdec : Utf8.decode ⟨(l.take (d + k)).toArray⟩ 0 = Utf8.decode ⟨l.toArray⟩ 0 := by
         have := dec_cut (l.take (d + k)) (l.drop (d + k)) htn (by rw [← hsp]; exact hc.1) (by rw [← hsp, ← hd, htl]; omega)
         rw [← hsp] at this; exact this
       have hok2 : okB ⟨(l.take (d + k)).toArray⟩ 0 = true := by unfold okB; rw [hdec]; exact hc.1
       rw [whileE_cons _ p htn, hok2, hdec, hc.2, if_pos (show (true && true) = true from rfl), ← hd]
       have : (l.take (d + k)).drop d = (l.drop d).take k := by rw [List.drop_take]; congr 1; omega
       rw [this, ih]
     · rw [if_neg hc] at hw
       rw [hw]; rfl
theorem name_word {l m r : Bs} (h : nameS l = .ok (m, r)) : wordB ⟨m.toArray⟩ = true := by
 unfold nameS at h
 by_cases h1 : (endsS l || !beginsS l) = true
 · rw [if_pos h1] at h; cases h
 rw [if_neg h1] at h
 by_cases h2 : 24 < runS l
 · rw [if_pos h2] at h; cases h
 rw [if_neg h2] at h
 injection h with h; injection h with hm _
 have hb : beginsS l = true := by
   cases hq : beginsS l
   · rw [hq] at h1; simp at h1
   · rfl
 cases l with
 | nil => simp [beginsS] at hb
 | cons b t =>
   have hpos := run_pos hb
   have hrl := runS_le (b :: t)
   have hml : m.length = runS (b :: t) := by rw [← hm, List.length_take]; omega
   have hwm : whileE ⟨m.toArray⟩ eitB = m.length := by rw [hml, ← hm]; exact whileE_take eitB _ (b :: t) (Nat.le_refl _)
   have hmc : ∃ t', m = b :: t' := by
     rw [← hm]
     obtain ⟨k, hk⟩ : ∃ k, runS (b :: t) = k + 1 := ⟨runS (b :: t) - 1, by omega⟩
     rw [hk, List.take_succ_cons]; exact ⟨_, rfl⟩
   obtain ⟨t', rfl⟩ := hmc
   unfold wordB
   rw [bsz, hwm, Bool.and_eq_true, Bool.and_eq_true, Bool.and_eq_true]
   refine ⟨⟨⟨by simp, decide_eq_true (by omega)⟩, ?_⟩, by simp⟩
   have hle := begins_hd b t
   rw [hb] at hle
   have hf : firstR ⟨(b :: t').toArray⟩ = (b.toNat : Int) := by
     unfold firstR
     rw [dif_pos (by rw [bsz]; simp)]
     show wrap32 (b.toNat : Int) = _
     have := b.toNat_lt
     unfold wrap32; omega
   rw [hf]
   rcases Nat.lt_or_ge b.toNat 128 with hlo | hhi
   · rw [(hd_lo t hlo).1] at hle
     rw [let_no_num hle.symm]; rfl
   · unfold numB
     rw [Bool.not_eq_true', Bool.and_eq_false_iff]
     right
     exact decide_eq_false (by omega)
theorem val_pos : ∀ (l : Bs) (n : Nat), 0 < n → 0 < l.foldl (fun n (c : UInt8) => n * 10 + (c.toNat - 48)) n
 | [], _, h => h
 | c :: t, n, h => by rw [List.foldl_cons]; exact val_pos t _ (by omega)
theorem vers_ok {l r : Bs} {v : To} (h : versS l = .ok (v, r)) : toOk v := by
 unfold versS at h
 by_cases h0 : l.head? = some 45
 · rw [if_pos h0] at h; injection h with h; injection h with h _; subst h; exact .inl rfl
 rw [if_neg h0] at h
 cases hn : nameS l with
 | error x => rw [hn] at h; cases h
 | ok y =>
   obtain ⟨nm, r1⟩ := y
   rw [hn] at h
   simp only [] at h
   by_cases h46 : r1.head? = some 46
   · rw [if_pos h46] at h
     unfold numV at h
     simp only [] at h
     by_cases hd : (r1.tail.takeWhile digB).head? = none ∨ (r1.tail.takeWhile digB).head? = some 48
     · rw [if_pos hd] at h; cases h
     rw [if_neg hd] at h
     by_cases h9 : 999 < valD (r1.tail.takeWhile digB)
     · rw [if_pos h9] at h; cases h
     rw [if_neg h9] at h
     injection h with h; injection h with h _; subst h
     refine .inr ⟨name_word hn, ?_, by show ((valD _ : Nat) : Int) ≤ 999; omega⟩
     cases hq : r1.tail.takeWhile digB with
     | nil => rw [hq] at hd; exact absurd (.inl rfl) hd
     | cons c t =>
       rw [hq] at hd
       have hdg : digB c = true := tw_mem digB r1.tail c (by rw [hq]; exact List.mem_cons_self)
       have hc := (digB_eq c).1 hdg
       have hne : c.toNat ≠ 48 := fun e => hd (.inr (by rw [List.head?_cons]; exact congrArg some (UInt8.toNat_inj.1 e)))
       have := val_pos t (0 * 10 + (c.toNat - 48)) (by omega)
       show (0 : Int) < ((valD (c :: t) : Nat) : Int)
       unfold valD
       rw [List.foldl_cons]
       omega
   · rw [if_neg h46] at h; cases h
end Yd


namespace Yd
open Go Go.RowKit Go.Proofs

theorem names_may : ∀ (k : Nat) (acc : List Bs) (l : Bs) {ns : List Bs} {r : Bs}, namesS k acc l = .ok (ns, r) → (∀ x ∈ acc, wordB ⟨x.toArray⟩ = true) → ns.length = acc.length + k ∧ ∀ x ∈ ns, wordB ⟨x.toArray⟩ = true
 | 0, acc, l, ns, r, h, ha => by rw [namesS] at h; injection h with h; injection h with h _; subst h; exact ⟨rfl, ha⟩
 | k + 1, acc, l, ns, r, h, ha => by
   rw [namesS] at h
   cases hm : mustS l with
   | error y => rw [hm] at h; cases h
   | ok r0 =>
     rw [hm] at h
     simp only [] at h
     cases hn : nameS r0 with
     | error y => rw [hn] at h; cases h
     | ok y =>
       obtain ⟨nm, r1⟩ := y
       rw [hn] at h
       have := names_may k _ _ h (fun x hx => by
         rcases List.mem_append.1 hx with hx | hx
         · exact ha x hx
         · rw [List.mem_singleton.1 hx]; exact name_word hn)
       simp only [List.length_append, List.length_singleton] at this
       exact ⟨by omega, this.2⟩
theorem others_may (pairs : Bool) (most : Nat) : ∀ (f many : Nat) (ns : List Bs) (vs : List To) (l : Bs) {a : List Bs} {b : List To} {r : Bs}, othersS pairs most f many ns vs l = .ok ((a, b), r) → most + 1 ≤ f + many → many ≤ most → (∀ x ∈ ns, wordB ⟨x.toArray⟩ = true) → (∀ v ∈ vs, toOk v) →
   ∃ c : Nat, a.length = ns.length + c ∧ b.length = vs.length + (if pairs = true then c else 0) ∧ many + c ≤ most ∧ (∀ x ∈ a, wordB ⟨x.toArray⟩ = true) ∧ ∀ v ∈ b, toOk v
 | 0, many, ns, vs, l, a, b, r, h, hf, hm, hns, hvs => by omega
 | f + 1, many, ns, vs, l, a, b, r, h, hf, hm, hns, hvs => by
   rw [othersS] at h
   cases hmo : moreS l with
   | error y => rw [hmo] at h; cases h
   | ok y =>
     obtain ⟨bo, r0⟩ := y
     rw [hmo] at h
     cases bo
     · injection h with h; injection h with h _; injection h with h1 h2; subst h1 h2
       exact ⟨0, rfl, by split <;> rfl, hm, hns, hvs⟩
     · simp only [] at h
       by_cases hb : many = most ∧ beginsS r0 = true
       · rw [if_pos hb] at h; cases h
       · rw [if_neg hb] at h
         cases hn : nameS r0 with
         | error y => rw [hn] at h; cases h
         | ok y =>
           obtain ⟨nm, r1⟩ := y
           rw [hn] at h
           simp only [] at h
           have hmn : many < most := by
             rcases Nat.lt_or_ge many most with h' | h'
             · exact h'
             · exfalso
               have hbe : beginsS r0 = false := by
                 cases hq : beginsS r0
                 · rfl
                 · exact absurd ⟨by omega, hq⟩ hb
               rw [nameS_nb hbe] at hn; cases hn
           have hns' : ∀ x ∈ ns ++ [nm], wordB ⟨x.toArray⟩ = true := fun x hx => by
             rcases List.mem_append.1 hx with hx | hx
             · exact hns x hx
             · rw [List.mem_singleton.1 hx]; exact name_word hn
           by_cases hp : pairs = true
           · rw [if_pos hp] at h
             cases hu : mustS r1 with
             | error y => rw [hu] at h; cases h
             | ok r2 =>
               rw [hu] at h
               simp only [] at h
               cases hv : versS r2 with
               | error y => rw [hv] at h; cases h
               | ok y =>
                 obtain ⟨v, r3⟩ := y
                 rw [hv] at h
                 obtain ⟨c, h1, h2, h3, h4, h5⟩ := others_may pairs most f (many + 1) _ _ _ h (by omega) (by omega) hns' (fun x hx => by
                   rcases List.mem_append.1 hx with hx | hx
                   · exact hvs x hx
                   · rw [List.mem_singleton.1 hx]; exact vers_ok hv)
                 rw [if_pos hp] at h2
                 simp only [List.length_append, List.length_singleton] at h1 h2
                 exact ⟨c + 1, by omega, by rw [if_pos hp]; omega, by omega, h4, h5⟩
           · rw [if_neg hp] at h
             obtain ⟨c, h1, h2, h3, h4, h5⟩ := others_may pairs most f (many + 1) _ _ _ h (by omega) (by omega) hns' hvs
             rw [if_neg hp] at h2
             simp only [List.length_append, List.length_singleton] at h1
             exact ⟨c + 1, by omega, by rw [if_neg hp]; omega, by omega, h4, h5⟩
theorem guar_may : ∀ (f k : Nat) (b : Int) (l : Bs) {x : Int} {r : Bs}, guarS f k b l = .ok (x, r) → (∃ m : Nat, b = m ∧ m < 2 ^ k ∧ k ≤ 4) → ∃ m : Nat, x = m ∧ m ≤ 15
 | 0, k, b, l, x, r, h, ⟨m, hm, hlt, hk⟩ => by
   rw [guarS] at h; injection h with h; injection h with h _; subst h
   refine ⟨m, hm, ?_⟩
   have : (2 : Nat) ^ k ≤ 2 ^ 4 := Nat.pow_le_pow_right (by decide) hk
   omega
 | f + 1, k, b, l, x, r, h, ⟨m, hm, hlt, hk⟩ => by
   rw [guarS] at h
   have h16 : (2 : Nat) ^ k ≤ 2 ^ 4 := Nat.pow_le_pow_right (by decide) hk
   cases hmo : moreS l with
   | error y => rw [hmo] at h; cases h
   | ok y =>
     obtain ⟨bo, r0⟩ := y
     rw [hmo] at h
     cases bo
     · injection h with h; injection h with h _; subst h
       exact ⟨m, hm, by omega⟩
     · simp only [] at h
       cases hw : wordS (guardL.drop k) r0 with
       | error y => rw [hw] at h; cases h
       | ok y =>
         obtain ⟨i, r1⟩ := y
         rw [hw] at h
         rw [← one_word _ _ (wc_guard k)] at hw
         have hi := one_lt hw
         rw [List.length_drop] at hi
         have h4 : guardL.length = 4 := rfl
         have hpw : (2 : Nat) ^ k ≤ 2 ^ (k + i) := Nat.pow_le_pow_right (by decide) (by omega)
         refine guar_may f (k + i + 1) _ _ h ⟨m + 2 ^ (k + i), ?_, ?_, by omega⟩
         · rw [hm]; push_cast; rfl
         · rw [Nat.pow_succ]; omega
end Yd


namespace Yd
open Go Go.RowKit Go.Proofs

theorem more_sfx {l r : Bs} {b : Bool} (h : moreS l = .ok (b, r)) : r <:+ l := by
 have hs : skipS l <:+ l := by unfold skipS; exact List.dropWhile_suffix _
 unfold moreS at h
 split at h
 · injection h with h; injection h with _ h; rw [← h]; exact hs
 · split at h
   · cases h
   · injection h with h; injection h with _ h; rw [← h]; exact hs
theorem must_suf {l r : Bs} (h : mustS l = .ok r) : r <:+ l := more_sfx (must_true h)
theorem name_suf {l r m : Bs} (h : nameS l = .ok (m, r)) : r <:+ l := by
 unfold nameS at h
 split at h
 · cases h
 · split at h
   · cases h
   · injection h with h; injection h with _ h; rw [← h]; exact List.drop_suffix _ _
theorem word_suf {ws : List Bs} {l r : Bs} {i : Nat} (h : wordS ws l = .ok (i, r)) : r <:+ l := by
 unfold wordS at h
 split at h
 · injection h with h; injection h with _ h; rw [← h]; exact List.drop_suffix _ _
 · cases h
theorem vers_suf {l r : Bs} {v : To} (h : versS l = .ok (v, r)) : r <:+ l := by
 unfold versS at h
 by_cases h0 : l.head? = some 45
 · rw [if_pos h0] at h; injection h with h; injection h with _ h; rw [← h]; exact List.tail_suffix _
 rw [if_neg h0] at h
 cases hn : nameS l with
 | error x => rw [hn] at h; cases h
 | ok y =>
   obtain ⟨nm, r1⟩ := y
   have h1 := name_suf hn
   rw [hn] at h
   simp only [] at h
   by_cases h46 : r1.head? = some 46
   · rw [if_pos h46] at h
     unfold numV at h
     simp only [] at h
     split at h
     · cases h
     · split at h
       · cases h
       · injection h with h; injection h with _ h; rw [← h]; exact ((List.drop_suffix _ _).trans (List.tail_suffix _)).trans h1
   · rw [if_neg h46] at h; cases h
theorem names_suf : ∀ (k : Nat) (acc : List Bs) (l : Bs) {ns : List Bs} {r : Bs}, namesS k acc l = .ok (ns, r) → r <:+ l
 | 0, acc, l, ns, r, h => by rw [namesS] at h; injection h with h; injection h with _ h; subst h; exact List.suffix_refl _
 | k + 1, acc, l, ns, r, h => by
   rw [namesS] at h
   cases hm : mustS l with
   | error y => rw [hm] at h; cases h
   | ok r0 =>
     rw [hm] at h
     simp only [] at h
     cases hn : nameS r0 with
     | error y => rw [hn] at h; cases h
     | ok y =>
       obtain ⟨nm, r1⟩ := y
       rw [hn] at h
       exact ((names_suf k _ _ h).trans (name_suf hn)).trans (must_suf hm)
theorem others_suf (pairs : Bool) (most : Nat) : ∀ (f many : Nat) (ns : List Bs) (vs : List To) (l : Bs) {x : List Bs × List To} {r : Bs}, othersS pairs most f many ns vs l = .ok (x, r) → r <:+ l
 | 0, many, ns, vs, l, x, r, h => by rw [othersS] at h; injection h with h; injection h with _ h; subst h; exact List.suffix_refl _
 | f + 1, many, ns, vs, l, x, r, h => by
   rw [othersS] at h
   cases hmo : moreS l with
   | error y => rw [hmo] at h; cases h
   | ok y =>
     obtain ⟨bo, r0⟩ := y
     have h0 := more_sfx hmo
     rw [hmo] at h
     cases bo
     · injection h with h; injection h with _ h; subst h; exact h0
     · simp only [] at h
       by_cases hb : many = most ∧ beginsS r0 = true
       · rw [if_pos hb] at h; cases h
       · rw [if_neg hb] at h
         cases hn : nameS r0 with
         | error y => rw [hn] at h; cases h
         | ok y =>
           obtain ⟨nm, r1⟩ := y
           have h1 := name_suf hn
           rw [hn] at h
           simp only [] at h
           by_cases hp : pairs = true
           · rw [if_pos hp] at h
             cases hu : mustS r1 with
             | error y => rw [hu] at h; cases h
             | ok r2 =>
               have h2 := must_suf hu
               rw [hu] at h
               simp only [] at h
               cases hv : versS r2 with
               | error y => rw [hv] at h; cases h
               | ok y =>
                 obtain ⟨v, r3⟩ := y
                 have h3 := vers_suf hv
                 rw [hv] at h
                 exact ((((others_suf pairs most f _ _ _ _ h).trans h3).trans h2).trans h1).trans h0
           · rw [if_neg hp] at h
             exact ((others_suf pairs most f _ _ _ _ h).trans h1).trans h0
theorem guar_suf : ∀ (f k : Nat) (b : Int) (l : Bs) {x : Int} {r : Bs}, guarS f k b l = .ok (x, r) → r <:+ l
 | 0, k, b, l, x, r, h => by rw [guarS] at h; injection h with h; injection h with _ h; subst h; exact List.suffix_refl _
 | f + 1, k, b, l, x, r, h => by
   rw [guarS] at h
   cases hmo : moreS l with
   | error y => rw [hmo] at h; cases h
   | ok y =>
     obtain ⟨bo, r0⟩ := y
     have h0 := more_sfx hmo
     rw [hmo] at h
     cases bo
     · injection h with h; injection h with _ h; subst h; exact h0
     · simp only [] at h
       cases hw : wordS (guardL.drop k) r0 with
       | error y => rw [hw] at h; cases h
       | ok y =>
         obtain ⟨i, r1⟩ := y
         have h1 := word_suf hw
         rw [hw] at h
         exact ((guar_suf f _ _ _ h).trans h1).trans h0
end Yd
