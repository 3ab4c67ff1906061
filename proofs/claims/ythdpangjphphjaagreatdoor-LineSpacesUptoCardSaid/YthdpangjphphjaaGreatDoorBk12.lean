import Derived.Test.YthdpangjphphjaaGreatDoorBk9
import Derived.Test.YthdpangjphphjaaGreatDoorProg
import Derived.Test.YthdpangjphphjaaGreatDoorBk3
import Derived.Test.YthdpangjphphjaaGreatDoorCut12
set_option maxRecDepth 200000
set_option maxHeartbeats 8000000
namespace Yd
open Go Go.RowKit Go.Proofs

theorem more_sfx {l r : Bs} {b : Bool} (h : moreS l = .ok (b, r)) : r <:+ l := by
 have hs : skipS l <:+ l := by unfold skipS; exact List.dropWhile_suffix _
 unfold moreS at h
 split at h
 · injection h with h; injection h with _ h; rw [← h]; exact hs
 · split at h
   · cases h
   · injection h with h; injection h with _ h; rw [← h]; exact hs
theorem must_suf {l r : Bs} (h : mustS l = .ok r) : r <:+ l := more_sfx (must_true h)
theorem name_suf {l r m : Bs} (h : nameS l = .ok (m, r)) : r <:+ l := by
 unfold nameS at h
 split at h
 · cases h
 · split at h
   · cases h
   · injection h with h; injection h with _ h; rw [← h]; exact List.drop_suffix _ _
theorem word_suf {ws : List Bs} {l r : Bs} {i : Nat} (h : wordS ws l = .ok (i, r)) : r <:+ l := by
 unfold wordS at h
 split at h
 · injection h with h; injection h with _ h; rw [← h]; exact List.drop_suffix _ _
 · cases h
theorem vers_suf {l r : Bs} {v : To} (h : versS l = .ok (v, r)) : r <:+ l := by
 unfold versS at h
 by_cases h0 : l.head? = some 45
 · rw [if_pos h0] at h; injection h with h; injection h with _ h; rw [← h]; exact List.tail_suffix _
 rw [if_neg h0] at h
 cases hn : nameS l with
 | error x => rw [hn] at h; cases h
 | ok y =>
   obtain ⟨nm, r1⟩ := y
   have h1 := name_suf hn
   rw [hn] at h
   simp only [] at h
   by_cases h46 : r1.head? = some 46
   · rw [if_pos h46] at h
     unfold numV at h
     simp only [] at h
     split at h
     · cases h
     · split at h
       · cases h
       · injection h with h; injection h with _ h; rw [← h]; exact ((List.drop_suffix _ _).trans (List.tail_suffix _)).trans h1
   · rw [if_neg h46] at h; cases h
theorem names_suf : ∀ (k : Nat) (acc : List Bs) (l : Bs) {ns : List Bs} {r : Bs}, namesS k acc l = .ok (ns, r) → r <:+ l
 | 0, acc, l, ns, r, h => by rw [namesS] at h; injection h with h; injection h with _ h; subst h; exact List.suffix_refl _
 | k + 1, acc, l, ns, r, h => by
   rw [namesS] at h
   cases hm : mustS l with
   | error y => rw [hm] at h; cases h
   | ok r0 =>
     rw [hm] at h
     simp only [] at h
     cases hn : nameS r0 with
     | error y => rw [hn] at h; cases h
     | ok y =>
       obtain ⟨nm, r1⟩ := y
       rw [hn] at h
       exact ((names_suf k _ _ h).trans (name_suf hn)).trans (must_suf hm)
theorem others_suf (pairs : Bool) (most : Nat) : ∀ (f many : Nat) (ns : List Bs) (vs : List To) (l : Bs) {x : List Bs × List To} {r : Bs}, othersS pairs most f many ns vs l = .ok (x, r) → r <:+ l
 | 0, many, ns, vs, l, x, r, h => by rw [othersS] at h; injection h with h; injection h with _ h; subst h; exact List.suffix_refl _
 | f + 1, many, ns, vs, l, x, r, h => by
   rw [othersS] at h
   cases hmo : moreS l with
   | error y => rw [hmo] at h; cases h
   | ok y =>
     obtain ⟨bo, r0⟩ := y
     have h0 := more_sfx hmo
     rw [hmo] at h
     cases bo
     · injection h with h; injection h with _ h; subst h; exact h0
     · simp only [] at h
       by_cases hb : many = most ∧ beginsS r0 = true
       · rw [if_pos hb] at h; cases h
       · rw [if_neg hb] at h
         cases hn : nameS r0 with
         | error y => rw [hn] at h; cases h
         | ok y =>
           obtain ⟨nm, r1⟩ := y
           have h1 := name_suf hn
           rw [hn] at h
           simp only [] at h
           by_cases hp : pairs = true
           · rw [if_pos hp] at h
             cases hu : mustS r1 with
             | error y => rw [hu] at h; cases h
             | ok r2 =>
               have h2 := must_suf hu
               rw [hu] at h
               simp only [] at h
               cases hv : versS r2 with
               | error y => rw [hv] at h; cases h
               | ok y =>
                 obtain ⟨v, r3⟩ := y
                 have h3 := vers_suf hv
                 rw [hv] at h
                 exact ((((others_suf pairs most f _ _ _ _ h).trans h3).trans h2).trans h1).trans h0
           · rw [if_neg hp] at h
             exact ((others_suf pairs most f _ _ _ _ h).trans h1).trans h0
theorem guar_suf : ∀ (f k : Nat) (b : Int) (l : Bs) {x : Int} {r : Bs}, guarS f k b l = .ok (x, r) → r <:+ l
 | 0, k, b, l, x, r, h => by rw [guarS] at h; injection h with h; injection h with _ h; subst h; exact List.suffix_refl _
 | f + 1, k, b, l, x, r, h => by
   rw [guarS] at h
   cases hmo : moreS l with
   | error y => rw [hmo] at h; cases h
   | ok y =>
     obtain ⟨bo, r0⟩ := y
     have h0 := more_sfx hmo
     rw [hmo] at h
     cases bo
     · injection h with h; injection h with _ h; subst h; exact h0
     · simp only [] at h
       cases hw : wordS (guardL.drop k) r0 with
       | error y => rw [hw] at h; cases h
       | ok y =>
         obtain ⟨i, r1⟩ := y
         have h1 := word_suf hw
         rw [hw] at h
         exact ((guar_suf f _ _ _ h).trans h1).trans h0
end Yd


namespace Yd
open Go Go.RowKit Go.Proofs

theorem decN_bytes (n b0 b1 b2 b3 : Nat) (hok : Lib.decodeN n b0 b1 b2 b3 ≠ (65533, 1)) : (b0 < 128 ∧ Lib.decodeN n b0 b1 b2 b3 = (b0, 1)) ∨
   (128 ≤ b0 ∧ (1 < (Lib.decodeN n b0 b1 b2 b3).2 → 128 ≤ b1) ∧ (2 < (Lib.decodeN n b0 b1 b2 b3).2 → 128 ≤ b2) ∧ (3 < (Lib.decodeN n b0 b1 b2 b3).2 → 128 ≤ b3) ∧ (Lib.decodeN n b0 b1 b2 b3).2 ≤ 4) := by
 unfold Lib.decodeN at hok ⊢
 by_cases a : b0 < 128
 · rw [if_pos a]; exact .inl ⟨a, rfl⟩
 rw [if_neg a] at hok ⊢
 right
 refine ⟨by omega, ?_⟩
 by_cases hA : b0 / 32 = 6 ∧ (1 < n ∧ b1 / 64 = 2)
 · rw [if_pos hA] at hok ⊢
   split at hok
   · rename_i hv; rw [if_pos hv]; exact ⟨fun _ => by omega, fun h => by omega, fun h => by omega, by omega⟩
   · exact absurd rfl hok
 rw [if_neg hA] at hok ⊢
 by_cases hB : b0 / 16 = 14 ∧ (1 < n ∧ b1 / 64 = 2) ∧ (2 < n ∧ b2 / 64 = 2)
 · rw [if_pos hB] at hok ⊢
   split at hok
   · rename_i hv; rw [if_pos hv]; exact ⟨fun _ => by omega, fun h => by omega, fun h => by omega, by omega⟩
   · exact absurd rfl hok
 rw [if_neg hB] at hok ⊢
 by_cases hC : b0 / 8 = 30 ∧ (1 < n ∧ b1 / 64 = 2) ∧ (2 < n ∧ b2 / 64 = 2) ∧ (3 < n ∧ b3 / 64 = 2)
 · rw [if_pos hC] at hok ⊢
   split at hok
   · rename_i hv; rw [if_pos hv]; exact ⟨fun _ => by omega, fun h => by omega, fun h => by omega, by omega⟩
   · exact absurd rfl hok
 rw [if_neg hC] at hok
 exact absurd rfl hok
theorem get_at (l : Bs) (i : Nat) (h : i < l.length) : ByteArray.get! ⟨l.toArray⟩ i = l[i] := by
 simp only [ByteArray.get!]
 rw [getElem!_pos l.toArray i (by simpa using h)]
 simp
theorem while_no (p : Int → Bool) (b : UInt8) (hb : b.toNat < 128) (hp : p (b.toNat : Int) = false) : ∀ (n : Nat) (w : Bs), w.length ≤ n → whileE ⟨w.toArray⟩ p = w.length → ∀ c ∈ w, c ≠ b
 | 0, w, hn, _ => by
   have : w = [] := List.length_eq_zero_iff.1 (by omega)
   subst this; intro c hc; cases hc
 | n + 1, w, hn, hw => by
   by_cases h0 : w = []
   · subst h0; intro c hc; cases hc
   · have hpos : 0 < w.length := List.length_pos_iff.2 h0
     rw [whileE_cons w p h0] at hw
     by_cases hc : (okB ⟨w.toArray⟩ 0 && p ((Utf8.decode ⟨w.toArray⟩ 0).1 : Int)) = true
     · rw [if_pos hc] at hw
       rw [Bool.and_eq_true] at hc
       have h1 := dec_w w h0; have h2 := dec_le w h0
       have ih := while_no p b hb hp n (w.drop (Utf8.decode ⟨w.toArray⟩ 0).2) (by rw [List.length_drop]; omega) (by rw [List.length_drop]; omega)
       have hsh := decN_bytes _ _ _ _ _ (by have := ok_ne1 hc.1; rw [Lib.decode_at] at this; exact this)
       rw [← Lib.decode_at] at hsh
       intro c hcm
       rw [← List.take_append_drop (Utf8.decode ⟨w.toArray⟩ 0).2 w] at hcm
       rcases List.mem_append.1 hcm with hcm | hcm
       · obtain ⟨i, hi, hci⟩ := List.getElem_of_mem hcm
         rw [List.length_take] at hi
         have hiw : i < w.length := by omega
         rw [List.getElem_take] at hci
         have hg := get_at w i hiw
         rw [hci] at hg
         rcases hsh with ⟨hlo, he⟩ | ⟨hhi, k1, k2, k3, k4⟩
         · rw [he] at hi hc
           have hi0 : i = 0 := by have : min 1 w.length ≤ 1 := Nat.min_le_left _ _; omega
           subst hi0
           rw [hg] at hc
           intro e
           rw [e] at hc
           have := hc.2
           simp only [] at this
           rw [hp] at this; cases this
         · have hge : 128 ≤ (ByteArray.get! ⟨w.toArray⟩ i).toNat := by
             have : i = 0 ∨ i = 1 ∨ i = 2 ∨ i = 3 := by omega
             rcases this with rfl | rfl | rfl | rfl
             · exact hhi
             · exact k1 (by omega)
             · exact k2 (by omega)
             · exact k3 (by omega)
           rw [hg] at hge
           intro e; rw [e] at hge; omega
       · exact ih c hcm
     · rw [if_neg hc] at hw; omega
theorem word_no10 {w : Bs} (h : wordB ⟨w.toArray⟩ = true) : ∀ c ∈ w, c ≠ 10 := while_no eitB 10 (by decide) (by decide) w.length w (Nat.le_refl _) (word_parts h).2.2.1
theorem digs_no10 (n : Nat) (h : 0 < n) : ∀ c ∈ digs n, c ≠ 10 := fun c hc e => by
 have := (digB_eq c).1 (List.all_eq_true.1 (digs_small n h).2.1 c hc)
 rw [e] at this
 exact absurd this.1 (by decide)
theorem told_no10 {v : To} (h : toOk v) : ∀ c ∈ toldT v, c ≠ 10 := fun c hc => by
 unfold toldT at hc
 rcases h with rfl | ⟨hw, h0, h9⟩
 · rw [if_pos rfl] at hc; rw [List.mem_singleton.1 hc]; decide
 · rw [if_neg (by omega)] at hc
   rcases List.mem_append.1 hc with hc | hc
   · exact word_no10 hw c hc
   · rcases List.mem_cons.1 hc with rfl | hc
     · decide
     · exact digs_no10 _ (by omega) c hc
theorem form_no10 (k : Nat) : ∀ c ∈ formV k, c ≠ 10 := by
 match k with
 | 0 => decide
 | 1 => decide
 | 2 => decide
 | 3 => decide
 | 4 => decide
 | 5 => decide
 | 6 => decide
 | 7 => decide
 | 8 => decide
 | k + 9 => exact (by decide : ∀ c ∈ formV 9, c ≠ 10)
theorem level_no10 (k : Nat) : ∀ c ∈ levelT k, c ≠ 10 := by
 match k with
 | 0 => decide
 | 1 => decide
 | 2 => decide
 | 3 => decide
 | k + 4 => exact (by decide : ∀ c ∈ levelT 4, c ≠ 10)
theorem guard_no10 (k : Nat) : ∀ c ∈ guardT k, c ≠ 10 := by
 match k with
 | 0 => decide
 | 1 => decide
 | 2 => decide
 | k + 3 => exact (by decide : ∀ c ∈ guardT 3, c ≠ 10)
theorem guards_no10 (b : Int) : ∀ j, ∀ x ∈ guardsN b j, ∀ c ∈ x, c ≠ 10
 | 0, x, hx => by cases hx
 | j + 1, x, hx => by
   rw [guardsN] at hx
   rcases List.mem_append.1 hx with hx | hx
   · exact guards_no10 b j x hx
   · split at hx
     · rw [List.mem_singleton.1 hx]; exact guard_no10 j
     · cases hx
theorem words_no10 {s : LnS} (hs : lineOk s) : ∀ x ∈ wordsS s, ∀ c ∈ x, c ≠ 10 := by
 intro x hx
 unfold wordsS at hx
 simp only [] at hx
 rcases List.mem_append.1 hx with hx | hx
 · rcases List.mem_cons.1 hx with rfl | hx
   · exact form_no10 _
   · exact word_no10 (hs.1 x (List.mem_of_mem_take hx))
 · rcases List.mem_append.1 hx with hx | hx
   · split at hx
     · rw [List.mem_singleton.1 hx]; exact level_no10 _
     · split at hx
       · obtain ⟨v, hv, rfl⟩ := List.mem_map.1 hx
         exact told_no10 (hs.2.1 v (List.mem_of_mem_take hv))
       · split at hx
         · exact guards_no10 _ _ x hx
         · split at hx
           · rw [List.mem_singleton.1 hx]; decide
           · cases hx
   · split at hx
     · obtain ⟨p, hp, hx⟩ := List.mem_flatMap.1 hx
       have hz := List.of_mem_zip hp
       simp only [List.mem_cons, List.not_mem_nil, or_false] at hx
       rcases hx with rfl | rfl
       · exact word_no10 (hs.1 _ (List.mem_of_mem_drop hz.1))
       · exact told_no10 (hs.2.1 _ hz.2)
     · exact word_no10 (hs.1 x (List.mem_of_mem_drop hx))
theorem glue_no10 : ∀ (ws : List Bs), (∀ x ∈ ws, ∀ c ∈ x, c ≠ 10) → ∀ c ∈ Lib.joinTail [32] ws, c ≠ 10
 | [], _, c, hc => by simp [Lib.joinTail] at hc
 | x :: ws, h, c, hc => by
   have e : Lib.joinTail [32] (x :: ws) = [32] ++ (x ++ Lib.joinTail [32] ws) := by simp [Lib.joinTail]
   rw [e] at hc
   rcases List.mem_append.1 hc with hc | hc
   · rw [List.mem_singleton.1 hc]; decide
   · rcases List.mem_append.1 hc with hc | hc
     · exact h x List.mem_cons_self c hc
     · exact glue_no10 ws (fun y hy => h y (List.mem_cons_of_mem _ hy)) c hc
theorem text_no10 {s : LnS} (hs : lineOk s) : ∃ u : Bs, textS s = u ++ [10] ∧ ∀ c ∈ u, c ≠ 10 := by
 refine ⟨Lib.join (wordsS s) [32], rfl, ?_⟩
 have h := words_no10 hs
 rw [words_cons s] at h ⊢
 rw [Lib.join_cons]
 intro c hc
 rcases List.mem_append.1 hc with hc | hc
 · exact h _ List.mem_cons_self c hc
 · exact glue_no10 _ (fun x hx => h x (List.mem_cons_of_mem _ hx)) c hc
end Yd


namespace Yd
open Go Go.RowKit Go.Proofs

theorem lineB_zero {s : LnS} (h : lineB s = true) (hk : s.kind = 0) : s = noLn := by
 obtain ⟨kd, names, lvl, vers, first, bits⟩ := s
 simp only at hk
 subst hk
 unfold lineB bodyB at h
 simp only [Bool.and_eq_true, decide_eq_true_eq] at h
 obtain ⟨_, ⟨⟨⟨⟨⟨h1, h2⟩, h3⟩, _⟩, _⟩, ⟨h4, h5⟩, h6⟩, _⟩ := h
 have hn : names = [] := List.length_eq_zero_iff.1 (by
   have : ((names.length : Int) - 0 ≤ 0) := h2
   omega)
 subst hn
 have hv : vers = [] := List.length_eq_zero_iff.1 (by
   have : ((vers.length : Int) = 0) := h3
   omega)
 subst hv
 have hl : lvl = 0 := by
   have h4' : (false == (lvl != 0)) = true := h4
   simpa using h4'
 have hf : first = false := by
   have h5' : (!first || false) = true := h5
   simpa using h5'
 have hb : bits = 0 := by
   have h6' : (bits == 0 || (false && _)) = true := h6
   simpa using h6'
 subst hl hf hb
 rfl
theorem bk_digs_len : ∀ (k n : Nat), n < 10 ^ k → (digs n).length ≤ k
 | 0, n, h => by
   have : n = 0 := by simpa using h
   subst this; exact Nat.le_refl _
 | k + 1, n, h => by
   rcases Nat.eq_zero_or_pos n with h0 | h0
   · subst h0; exact Nat.zero_le _
   · rw [digs_step h0, List.length_append, List.length_singleton]
     have := bk_digs_len k (n / 10) (by rw [Nat.pow_succ] at h; omega)
     omega
theorem bk_told_len {v : To} (h : toOk v) : (toldT v).length ≤ 40 := by
 unfold toldT
 rcases h with rfl | ⟨hw, h0, h9⟩
 · rw [if_pos rfl]; decide
 · rw [if_neg (by omega), List.length_append, List.length_cons]
   have := (word_parts hw).2.1
   have := bk_digs_len 3 v.k.toNat (by omega)
   omega
theorem bk_form_len (k : Nat) : (formV k).length ≤ 40 := by
 match k with
 | 0 => decide
 | 1 => decide
 | 2 => decide
 | 3 => decide
 | 4 => decide
 | 5 => decide
 | 6 => decide
 | 7 => decide
 | 8 => decide
 | k + 9 => exact (by decide : (formV 9).length ≤ 40)
theorem bk_level_len (k : Nat) : (levelT k).length ≤ 40 := by
 match k with
 | 0 => decide
 | 1 => decide
 | 2 => decide
 | 3 => decide
 | k + 4 => exact (by decide : (levelT 4).length ≤ 40)
theorem bk_guard_len (k : Nat) : (guardT k).length ≤ 40 := by
 match k with
 | 0 => decide
 | 1 => decide
 | 2 => decide
 | k + 3 => exact (by decide : (guardT 3).length ≤ 40)
theorem guards_len (b : Int) : ∀ j, ∀ x ∈ guardsN b j, x.length ≤ 40
 | 0, x, hx => by cases hx
 | j + 1, x, hx => by
   rw [guardsN] at hx
   rcases List.mem_append.1 hx with hx | hx
   · exact guards_len b j x hx
   · split at hx
     · rw [List.mem_singleton.1 hx]; exact bk_guard_len j
     · cases hx
theorem bk_words_len {s : LnS} (hs : lineOk s) : ∀ x ∈ wordsS s, x.length ≤ 40 := by
 have hn : ∀ x ∈ s.names, x.length ≤ 40 := fun x hx => by have := (word_parts (hs.1 x hx)).2.1; omega
 intro x hx
 unfold wordsS at hx
 simp only [] at hx
 rcases List.mem_append.1 hx with hx | hx
 · rcases List.mem_cons.1 hx with rfl | hx
   · exact bk_form_len _
   · exact hn x (List.mem_of_mem_take hx)
 · rcases List.mem_append.1 hx with hx | hx
   · split at hx
     · rw [List.mem_singleton.1 hx]; exact bk_level_len _
     · split at hx
       · obtain ⟨v, hv, rfl⟩ := List.mem_map.1 hx
         exact bk_told_len (hs.2.1 v (List.mem_of_mem_take hv))
       · split at hx
         · exact guards_len _ _ x hx
         · split at hx
           · rw [List.mem_singleton.1 hx]; decide
           · cases hx
   · split at hx
     · obtain ⟨p, hp, hx⟩ := List.mem_flatMap.1 hx
       have hz := List.of_mem_zip hp
       simp only [List.mem_cons, List.not_mem_nil, or_false] at hx
       rcases hx with rfl | rfl
       · exact hn _ (List.mem_of_mem_drop hz.1)
       · exact bk_told_len (hs.2.1 _ hz.2)
     · exact hn x (List.mem_of_mem_drop hx)
theorem bk_pairs_len : ∀ zs : List (Bs × To), (zs.flatMap (fun p => [p.1, toldT p.2])).length = 2 * zs.length
 | [] => rfl
 | z :: zs => by rw [List.flatMap_cons, List.length_append, bk_pairs_len zs, List.length_cons]; simp; omega
theorem words_many {s : LnS} (hs : lineOk s) : (wordsS s).length ≤ 6000 := by
 obtain ⟨h1, h2⟩ := hs.len
 have hg := guardsN_len s.bits 4
 unfold wordsS
 simp only [List.length_append, List.length_cons, List.length_take]
 have hA : ∀ c1 c2 c3 c4 : Prop, [Decidable c1] → [Decidable c2] → [Decidable c3] → [Decidable c4] → (if c1 then [levelT s.lvl.toNat] else if c2 then (s.vers.take 1).map toldT else if c3 then guardsW s.bits else if c4 then [[45]] else []).length ≤ 1000 := fun c1 c2 c3 c4 _ _ _ _ => by
   split
   · simp
   · split
     · rw [List.length_map, List.length_take]; omega
     · split
       · unfold guardsW; omega
       · split <;> simp
 have hB : (if formR s.kind.toNat = 115 then ((s.names.drop (formN s.kind.toNat).toNat).zip s.vers).flatMap (fun p => [p.1, toldT p.2]) else s.names.drop (formN s.kind.toNat).toNat).length ≤ 2000 := by
   split
   · rw [bk_pairs_len, List.length_zip, List.length_drop]; omega
   · rw [List.length_drop]; omega
 have hA' := hA (formR s.kind.toNat = 108) (formR s.kind.toNat = 118) (formR s.kind.toNat = 103) (formR s.kind.toNat = 109 ∧ s.first = true)
 omega
theorem bk_join_len : ∀ ws : List Bs, (∀ x ∈ ws, x.length ≤ 40) → (Lib.joinTail [32] ws).length ≤ 41 * ws.length
 | [], _ => by simp [Lib.joinTail]
 | x :: ws, h => by
   have e : Lib.joinTail [32] (x :: ws) = [32] ++ (x ++ Lib.joinTail [32] ws) := by simp [Lib.joinTail]
   have := bk_join_len ws (fun y hy => h y (List.mem_cons_of_mem _ hy))
   have := h x List.mem_cons_self
   rw [e, List.length_append, List.length_append, List.length_cons]
   simp
   omega
theorem text_len {s : LnS} (hs : lineOk s) : (textS s).length ≤ 300000 := by
 have h1 := bk_words_len hs
 have h2 := words_many hs
 unfold textS
 rw [words_cons s] at h1 h2 ⊢
 rw [Lib.join_cons, List.length_append, List.length_append]
 have := bk_join_len _ (fun x hx => h1 x (List.mem_cons_of_mem _ hx))
 have := h1 _ List.mem_cons_self
 simp only [List.length_cons] at *
 simp
 omega
theorem textK_ok {s : LnS} (h : lineB s = true) : (textK s).length ≤ 300000 ∧ (textK s).count 10 = 1 ∧ lineS (textK s) = .ok (s, []) := by
 rcases lineB_ok h with h0 | hs
 · have := lineB_zero h h0
   subst this
   exact ⟨by decide, by decide, by rfl⟩
 · have hk : textK s = textS s := by
     unfold textK
     rw [if_neg]
     rcases hs.2.2 with h | h | h | h | h | h | h | h | h <;> rw [h.1] <;> decide
   rw [hk]
   refine ⟨text_len hs, ?_, by have := back_text hs []; rwa [List.append_nil] at this⟩
   obtain ⟨u, hu, hn⟩ := text_no10 hs
   rw [hu, List.count_append, List.count_eq_zero.2 (fun h => hn 10 h rfl)]
   rfl
end Yd
