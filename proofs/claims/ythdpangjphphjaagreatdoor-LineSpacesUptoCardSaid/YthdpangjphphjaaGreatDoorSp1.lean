import Derived.Test.YthdpangjphphjaaGreatDoorBk12
import Derived.Test.YthdpangjphphjaaGreatDoorProg
import Derived.Lib.Replace
import Derived.Test.YthdpangjphphjaaGreatDoorEnc
import Derived.Laws.Cover4
set_option maxRecDepth 200000
set_option maxHeartbeats 8000000
namespace Yd
open Go Go.RowKit Go.Proofs

def Bad {α : Type} (x : Except Er α) : Prop := ∀ r m, x = .error (r, m) → m ≠ 0
theorem more_bad (l : Bs) : Bad (moreS l) := fun r m h => by
 unfold moreS at h
 split at h
 · cases h
 · split at h
   · injection h with h; injection h with _ h; subst h; decide
   · cases h
theorem must_bad (l : Bs) : Bad (mustS l) := fun r m h => by
 unfold mustS at h
 cases hm : moreS l with
 | error x => obtain ⟨r', m'⟩ := x; rw [hm] at h; injection h with h; injection h with _ h; subst h; exact more_bad l _ _ hm
 | ok y =>
   obtain ⟨b, r'⟩ := y
   rw [hm] at h
   cases b
   · injection h with h; injection h with _ h; subst h; decide
   · cases h
theorem name_bad (l : Bs) : Bad (nameS l) := fun r m h => by
 unfold nameS at h
 split at h
 · injection h with h; injection h with _ h; subst h; decide
 · split at h
   · injection h with h; injection h with _ h; subst h; decide
   · cases h
theorem word_bad (ws : List Bs) (l : Bs) : Bad (wordS ws l) := fun r m h => by
 unfold wordS at h
 split at h
 · cases h
 · injection h with h; injection h with _ h; subst h; decide
theorem vers_bad (l : Bs) : Bad (versS l) := fun r m h => by
 unfold versS at h
 split at h
 · cases h
 · cases hn : nameS l with
   | error x => obtain ⟨r', m'⟩ := x; rw [hn] at h; injection h with h; injection h with _ h; subst h; exact name_bad l _ _ hn
   | ok y =>
     obtain ⟨nm, r1⟩ := y
     rw [hn] at h
     simp only [] at h
     split at h
     · unfold numV at h
       simp only [] at h
       split at h
       · injection h with h; injection h with _ h; subst h; decide
       · split at h
         · injection h with h; injection h with _ h; subst h; decide
         · cases h
     · injection h with h; injection h with _ h; subst h; decide
theorem names_bad : ∀ (k : Nat) (acc : List Bs) (l : Bs), Bad (namesS k acc l)
 | 0, acc, l => fun r m h => by rw [namesS] at h; cases h
 | k + 1, acc, l => fun r m h => by
   rw [namesS] at h
   cases hm : mustS l with
   | error x => obtain ⟨r', m'⟩ := x; rw [hm] at h; injection h with h; injection h with _ h; subst h; exact must_bad l _ _ hm
   | ok r0 =>
     rw [hm] at h
     simp only [] at h
     cases hn : nameS r0 with
     | error x => obtain ⟨r', m'⟩ := x; rw [hn] at h; injection h with h; injection h with _ h; subst h; exact name_bad _ _ _ hn
     | ok y => obtain ⟨nm, r1⟩ := y; rw [hn] at h; exact names_bad k _ _ _ _ h
theorem others_bad (pairs : Bool) (most : Nat) : ∀ (f many : Nat) (ns : List Bs) (vs : List To) (l : Bs), Bad (othersS pairs most f many ns vs l)
 | 0, many, ns, vs, l => fun r m h => by rw [othersS] at h; cases h
 | f + 1, many, ns, vs, l => fun r m h => by
   rw [othersS] at h
   cases hmo : moreS l with
   | error x => obtain ⟨r', m'⟩ := x; rw [hmo] at h; injection h with h; injection h with _ h; subst h; exact more_bad l _ _ hmo
   | ok y =>
     obtain ⟨bo, r0⟩ := y
     rw [hmo] at h
     cases bo
     · cases h
     · simp only [] at h
       by_cases hb : many = most ∧ beginsS r0 = true
       · rw [if_pos hb] at h; injection h with h; injection h with _ h; subst h; decide
       · rw [if_neg hb] at h
         cases hn : nameS r0 with
         | error x => obtain ⟨r', m'⟩ := x; rw [hn] at h; injection h with h; injection h with _ h; subst h; exact name_bad _ _ _ hn
         | ok y =>
           obtain ⟨nm, r1⟩ := y
           rw [hn] at h
           simp only [] at h
           by_cases hp : pairs = true
           · rw [if_pos hp] at h
             cases hu : mustS r1 with
             | error x => obtain ⟨r', m'⟩ := x; rw [hu] at h; injection h with h; injection h with _ h; subst h; exact must_bad _ _ _ hu
             | ok r2 =>
               rw [hu] at h
               simp only [] at h
               cases hv : versS r2 with
               | error x => obtain ⟨r', m'⟩ := x; rw [hv] at h; injection h with h; injection h with _ h; subst h; exact vers_bad _ _ _ hv
               | ok y => obtain ⟨v, r3⟩ := y; rw [hv] at h; exact others_bad pairs most f _ _ _ _ _ _ h
           · rw [if_neg hp] at h
             exact others_bad pairs most f _ _ _ _ _ _ h
theorem guar_bad : ∀ (f k : Nat) (b : Int) (l : Bs), Bad (guarS f k b l)
 | 0, k, b, l => fun r m h => by rw [guarS] at h; cases h
 | f + 1, k, b, l => fun r m h => by
   rw [guarS] at h
   cases hmo : moreS l with
   | error x => obtain ⟨r', m'⟩ := x; rw [hmo] at h; injection h with h; injection h with _ h; subst h; exact more_bad l _ _ hmo
   | ok y =>
     obtain ⟨bo, r0⟩ := y
     rw [hmo] at h
     cases bo
     · cases h
     · simp only [] at h
       cases hw : wordS (guardL.drop k) r0 with
       | error x => obtain ⟨r', m'⟩ := x; rw [hw] at h; injection h with h; injection h with _ h; subst h; exact word_bad _ _ _ _ hw
       | ok y => obtain ⟨i, r1⟩ := y; rw [hw] at h; exact guar_bad f _ _ _ _ _ h
end Yd


namespace Yd
open Go Go.RowKit Go.Proofs

/-! More blanks, and a remark. -/
theorem word_no32 {w : Bs} (h : wordB ⟨w.toArray⟩ = true) : ∀ c ∈ w, c ≠ 32 := while_no eitB 32 (by decide) (by decide) w.length w (Nat.le_refl _) (word_parts h).2.2.1
theorem told_no32 {v : To} (h : toOk v) : ∀ c ∈ toldT v, c ≠ 32 := fun c hc => by
 unfold toldT at hc
 rcases h with rfl | ⟨hw, h0, h9⟩
 · rw [if_pos rfl] at hc; rw [List.mem_singleton.1 hc]; decide
 · rw [if_neg (by omega)] at hc
   rcases List.mem_append.1 hc with hc | hc
   · exact word_no32 hw c hc
   · rcases List.mem_cons.1 hc with rfl | hc
     · decide
     · intro e
       have := (digB_eq c).1 (List.all_eq_true.1 (digs_small v.k.toNat (by omega)).2.1 c hc)
       rw [e] at this
       exact absurd this.1 (by decide)
theorem form_no32 (k : Nat) : ∀ c ∈ formV k, c ≠ 32 := by
 match k with
 | 0 => decide
 | 1 => decide
 | 2 => decide
 | 3 => decide
 | 4 => decide
 | 5 => decide
 | 6 => decide
 | 7 => decide
 | 8 => decide
 | k + 9 => exact (by decide : ∀ c ∈ formV 9, c ≠ 32)
theorem level_no32 (k : Nat) : ∀ c ∈ levelT k, c ≠ 32 := by
 match k with
 | 0 => decide
 | 1 => decide
 | 2 => decide
 | 3 => decide
 | k + 4 => exact (by decide : ∀ c ∈ levelT 4, c ≠ 32)
theorem guard_no32 (k : Nat) : ∀ c ∈ guardT k, c ≠ 32 := by
 match k with
 | 0 => decide
 | 1 => decide
 | 2 => decide
 | k + 3 => exact (by decide : ∀ c ∈ guardT 3, c ≠ 32)
theorem guards_no32 (b : Int) : ∀ j, ∀ x ∈ guardsN b j, ∀ c ∈ x, c ≠ 32
 | 0, x, hx => by cases hx
 | j + 1, x, hx => by
   rw [guardsN] at hx
   rcases List.mem_append.1 hx with hx | hx
   · exact guards_no32 b j x hx
   · split at hx
     · rw [List.mem_singleton.1 hx]; exact guard_no32 j
     · cases hx
theorem words_no32 {s : LnS} (hs : lineOk s) : ∀ x ∈ wordsS s, ∀ c ∈ x, c ≠ 32 := by
 intro x hx
 unfold wordsS at hx
 simp only [] at hx
 rcases List.mem_append.1 hx with hx | hx
 · rcases List.mem_cons.1 hx with rfl | hx
   · exact form_no32 _
   · exact word_no32 (hs.1 x (List.mem_of_mem_take hx))
 · rcases List.mem_append.1 hx with hx | hx
   · split at hx
     · rw [List.mem_singleton.1 hx]; exact level_no32 _
     · split at hx
       · obtain ⟨v, hv, rfl⟩ := List.mem_map.1 hx
         exact told_no32 (hs.2.1 v (List.mem_of_mem_take hv))
       · split at hx
         · exact guards_no32 _ _ x hx
         · split at hx
           · rw [List.mem_singleton.1 hx]; decide
           · cases hx
   · split at hx
     · obtain ⟨p, hp, hx⟩ := List.mem_flatMap.1 hx
       have hz := List.of_mem_zip hp
       simp only [List.mem_cons, List.not_mem_nil, or_false] at hx
       rcases hx with rfl | rfl
       · exact word_no32 (hs.1 _ (List.mem_of_mem_drop hz.1))
       · exact told_no32 (hs.2.1 _ hz.2)
     · exact word_no32 (hs.1 x (List.mem_of_mem_drop hx))
theorem index_hit : ∀ (w r : Bs), (∀ c ∈ w, c ≠ 32) → Lib.index (w ++ 32 :: r) [32] = (w.length : Int)
 | [], r, _ => by simp [Lib.index]
 | b :: w, r, h => by
   have hb := h b List.mem_cons_self
   have ih := index_hit w r (fun c hc => h c (List.mem_cons_of_mem _ hc))
   rw [List.cons_append, Lib.index, if_neg (by simp [List.isPrefixOf]; exact fun e => hb e.symm), ih, if_neg (by simp)]
   simp
theorem index_none : ∀ (w : Bs), (∀ c ∈ w, c ≠ 32) → Lib.index w [32] = -1
 | [], _ => rfl
 | b :: w, h => by
   have hb := h b List.mem_cons_self
   rw [Lib.index, if_neg (by simp [List.isPrefixOf]; exact fun e => hb e.symm), index_none w (fun c hc => h c (List.mem_cons_of_mem _ hc))]
   rfl
theorem joinTail_cons (sep x : Bs) (ws : List Bs) : Lib.joinTail sep (x :: ws) = sep ++ (x ++ Lib.joinTail sep ws) := by simp [Lib.joinTail]
theorem replaceK_words (bl : Bs) : ∀ (ws : List Bs) (w : Bs) (k : Nat), (∀ c ∈ w, c ≠ 32) → (∀ x ∈ ws, ∀ c ∈ x, c ≠ 32) → ws.length ≤ k → Lib.replaceK [32] bl k (w ++ Lib.joinTail [32] ws) = w ++ Lib.joinTail bl ws
 | [], w, k, hw, _, _ => by
   have e : ∀ sep : Bs, Lib.joinTail sep [] = [] := fun sep => by simp [Lib.joinTail]
   rw [e, e, List.append_nil]
   cases k with
   | zero => rfl
   | succ k => rw [Lib.replaceK, index_none w hw]; rfl
 | x :: ws, w, k, hw, hws, hk => by
   obtain ⟨g, rfl⟩ : ∃ g, k = g + 1 := ⟨k - 1, by simp at hk; omega⟩
   rw [joinTail_cons, joinTail_cons]
   have hi : Lib.index (w ++ ([32] ++ (x ++ Lib.joinTail [32] ws))) [32] = (w.length : Int) := index_hit w _ hw
   rw [Lib.replaceK_hit _ _ _ _ _ hi, List.take_left]
   have hd : (w ++ ([32] ++ (x ++ Lib.joinTail [32] ws))).drop (w.length + ([32] : Bs).length) = x ++ Lib.joinTail [32] ws := by
     rw [← List.append_assoc]
     exact List.drop_left' (by simp)
   rw [hd, replaceK_words bl ws x g (hws x List.mem_cons_self) (fun y hy => hws y (List.mem_cons_of_mem _ hy)) (by simp at hk; omega)]
   simp
theorem count_words : ∀ (ws : List Bs) (w : Bs), (∀ c ∈ w, c ≠ 32) → (∀ x ∈ ws, ∀ c ∈ x, c ≠ 32) → (w ++ Lib.joinTail [32] ws).count 32 = ws.length
 | [], w, hw, _ => by
   rw [List.count_append, List.count_eq_zero.2 (fun h => hw 32 h rfl)]; simp [Lib.joinTail]
 | x :: ws, w, hw, hws => by
   have ih := count_words ws x (hws x List.mem_cons_self) (fun y hy => hws y (List.mem_cons_of_mem _ hy))
   rw [joinTail_cons, List.count_append, List.count_eq_zero.2 (fun h => hw 32 h rfl), List.count_append, ih, List.length_cons]
   simp [Nat.add_comm]
theorem replace_words (w : Bs) (ws : List Bs) (bl : Bs) (hw : ∀ c ∈ w, c ≠ 32) (hws : ∀ x ∈ ws, ∀ c ∈ x, c ≠ 32) : Lib.replaceAll (Lib.join (w :: ws) [32]) [32] bl = w ++ Lib.joinTail bl ws := by
 rw [Lib.join_cons]
 unfold Lib.replaceAll Lib.replace
 by_cases h : ([32] == bl) = true
 · rw [if_pos h, ← eq_of_beq h]
 · rw [if_neg h]
   unfold Lib.replaceNum
   rw [if_pos (.inl (by decide)), Lib.count_one, count_words ws w hw hws]
   exact replaceK_words bl ws w ws.length hw hws (Nat.le_refl _)
theorem tail_glue2 (bl : Bs) : ∀ (ws : List Bs) (e : Bs), Lib.joinTail bl ws ++ e = glue (ws.map (fun x => (bl, x))) e
 | [], e => by simp [Lib.joinTail, glue]
 | x :: ws, e => by rw [List.map_cons, glue, ← tail_glue2 bl ws e, joinTail_cons]; simp
def PlainOk (pl : Bs) : Prop := whileE ⟨pl.toArray⟩ remB = pl.length
theorem rem_plain {pl : Bs} (h : PlainOk pl) (r : Bs) (hr : r = [] ∨ ∃ t, r = 10 :: t) : remS (35 :: (pl ++ r)) = r := by
 have hs : Stops remB r := by
   rcases hr with rfl | ⟨t, rfl⟩
   · exact .inl rfl
   · right; rw [dec_lo 10 t (by decide)]; rfl
 have hw : whileE ⟨(pl ++ r).toArray⟩ remB = pl.length := whileE_app remB pl.length pl r (Nat.le_refl _) h hs
 have h1 : whileE ⟨(35 :: (pl ++ r)).toArray⟩ remB = 1 + pl.length := by
   rw [whileE_cons _ remB (by simp), ok_lo 35 _ (by decide), dec_lo 35 _ (by decide), if_pos (by decide)]
   show 1 + whileE ⟨(pl ++ r).toArray⟩ remB = _
   rw [hw]
 unfold remS
 rw [if_pos (show (35 :: (pl ++ r) : Bs).head? = some 35 from rfl), h1, Nat.add_comm]
 show (pl ++ r).drop pl.length = r
 exact List.drop_left
def wideT (s : LnS) (bl pl : Bs) : Bs := bl ++ (if s.kind = 0 then [] else Lib.replaceAll (Lib.join (wordsS s) [32]) [32] bl) ++ bl ++ 35 :: pl
theorem wide_read {s : LnS} (h : lineB s = true) {bl pl : Bs} (hbl : Sp bl) (hpl : PlainOk pl) (r : Bs) (hr : r = [] ∨ ∃ t, r = 10 :: t) : lineS (wideT s bl pl ++ r) = .ok (s, r.tail) := by
 have hen : endsS (35 :: (pl ++ r)) = true := by rw [endsS_cons]; rfl
 have hrd : readS (wideT s bl pl ++ r) = .ok (s, 35 :: (pl ++ r)) := by
   rcases lineB_ok h with h0 | hs
   · have := lineB_zero h h0
     subst this
     have hw : wideT noLn bl pl ++ r = (bl ++ bl) ++ 35 :: (pl ++ r) := by
       show ((bl ++ [] ++ bl) ++ 35 :: pl) ++ r = _
       simp
     have hsk : skipS (wideT noLn bl pl ++ r) = 35 :: (pl ++ r) := by
       rw [hw, skipS_app _ _ (fun c hc => (List.mem_append.1 hc).elim (hbl.2 c) (hbl.2 c)), ends_stays hen]
     unfold readS
     rw [hsk, if_pos hen]
   · have hk : s.kind ≠ 0 := by
       rcases hs.2.2 with h | h | h | h | h | h | h | h | h <;> rw [h.1] <;> decide
     have hwn := words_no32 hs
     rw [words_cons s] at hwn
     have hw : wideT s bl pl ++ r = bl ++ (formV s.kind.toNat ++ glue ((wordsS s).tail.map (fun x => (bl, x))) (bl ++ 35 :: (pl ++ r))) := by
       unfold wideT
       rw [if_neg hk, words_cons s, replace_words _ _ bl (hwn _ List.mem_cons_self) (fun x hx => hwn x (List.mem_cons_of_mem _ hx)), ← tail_glue2]
       simp
     rw [hw]
     exact back_read hs bl bl _ hbl.2 hbl.2 hen _ (fun p hp => by
       obtain ⟨x, _, rfl⟩ := List.mem_map.1 hp
       exact hbl) (by rw [List.map_map]; exact List.map_id _)
 unfold lineS
 rw [hrd]
 simp only [rem_plain hpl r hr]
 rcases hr with rfl | ⟨t, rfl⟩
 · rfl
 · rfl
theorem trim_text {s : LnS} : Lib.trimSuffix (textK s) [10] = (if s.kind = 0 then [] else Lib.join (wordsS s) [32]) := by
 unfold textK
 by_cases h : s.kind = 0
 · rw [if_pos h, if_pos h]; rfl
 · rw [if_neg h, if_neg h]
   unfold textS Lib.trimSuffix
   rw [if_pos (by simp [Lib.hasSuffix, List.isSuffixOf, List.isPrefixOf])]
   simp
end Yd


namespace Yd
open Go Go.RowKit Go.Proofs

/-! A remark that is made of a text's runes. -/
theorem whileE_cat2 (p : Int → Bool) : ∀ (n : Nat) (w r : Bs), w.length ≤ n → whileE ⟨w.toArray⟩ p = w.length → whileE ⟨(w ++ r).toArray⟩ p = w.length + whileE ⟨r.toArray⟩ p
 | 0, w, r, hn, _ => by
   have : w = [] := List.length_eq_zero_iff.1 (by omega)
   subst this; simp
 | n + 1, w, r, hn, hw => by
   by_cases h0 : w = []
   · subst h0; simp
   · have hpos : 0 < w.length := List.length_pos_iff.2 h0
     rw [whileE_cons w p h0] at hw
     by_cases hc : (okB ⟨w.toArray⟩ 0 && p ((Utf8.decode ⟨w.toArray⟩ 0).1 : Int)) = true
     · rw [if_pos hc] at hw
       rw [Bool.and_eq_true] at hc
       have hd := dec_app w r h0 hc.1
       have h1 := dec_w w h0
       have h2 := dec_le w h0
       rw [whileE_cons (w ++ r) p (by simp [h0]), hd, ok_app w r h0 hc.1, hc.2, if_pos (show (true && true) = true from rfl), List.drop_append_of_le_length h2]
       rw [whileE_cat2 p n (w.drop (Utf8.decode ⟨w.toArray⟩ 0).2) r (by rw [List.length_drop]; omega) (by rw [List.length_drop]; omega), List.length_drop]
       omega
     · rw [if_neg hc] at hw; omega
theorem plain_app {a u : Bs} (ha : PlainOk a) (hu : PlainOk u) : PlainOk (a ++ u) := by
 unfold PlainOk at *
 rw [whileE_cat2 remB _ a u (Nat.le_refl _) ha, hu, List.length_append]
theorem plain_rune {l : Bs} (hl : l ≠ []) (hr : 32 ≤ (Utf8.decode ⟨l.toArray⟩ 0).1) (hne : (Utf8.decode ⟨l.toArray⟩ 0).1 ≠ 65533) :
   ∃ u : Bs, Utf8.encode ((Utf8.decode ⟨l.toArray⟩ 0).1 : Int) = ⟨u.toArray⟩ ∧ PlainOk u := by
 have hok : okB ⟨l.toArray⟩ 0 = true := by
   unfold okB
   rw [beq_eq_false_iff_ne.2 (by omega)]; rfl
 obtain ⟨h1, h2, _⟩ := first_rune l hl hok
 obtain ⟨d, hd⟩ : ∃ d, d = (Utf8.decode ⟨l.toArray⟩ 0).2 := ⟨_, rfl⟩
 have hw := dec_w l hl
 have hle := dec_le l hl
 rw [← hd] at h1 h2 hw hle
 have hlen : (l.take d).length = d := by rw [List.length_take]; omega
 have hn : l.take d ≠ [] := by intro e; rw [e] at hlen; simp at hlen; omega
 have hok2 : okB ⟨(l.take d).toArray⟩ 0 = true := by unfold okB; rw [h2]; exact hok
 have hrem : remB ((Utf8.decode ⟨l.toArray⟩ 0).1 : Int) = true := by
   unfold remB
   rw [decide_eq_true (by omega)]; rfl
 refine ⟨l.take d, h1, ?_⟩
 unfold PlainOk
 rw [whileE_cons _ remB hn, hok2, h2, hrem, if_pos (show (true && true) = true from rfl), ← hd, List.drop_eq_nil_of_le (by omega), hlen]
 rfl
theorem runes_snoc (acc : List Int) (n : Int) : runesBytes (acc ++ [n]) = runesBytes acc ++ Utf8.encode n := by simp [runesBytes, List.foldl_append]
def PlAt (p : Nat) (acc : List Int) : Prop := acc.length ≤ p ∧ ∃ u : Bs, runesBytes acc = ⟨u.toArray⟩ ∧ PlainOk u
theorem PlAt.zero : PlAt 0 [] := ⟨Nat.le_refl _, [], rfl, rfl⟩
theorem PlAt.skip {p q : Nat} {acc : List Int} (h : PlAt p acc) (hq : p ≤ q) : PlAt q acc := ⟨by have := h.1; omega, h.2⟩
theorem PlAt.step {s : Bs} {p : Nat} {acc : List Int} (h : PlAt p acc) (hp : p < s.length) (hr : 32 ≤ (Utf8.decode ⟨s.toArray⟩ p).1) (hne : (Utf8.decode ⟨s.toArray⟩ p).1 ≠ 65533) :
   PlAt (p + (Utf8.decode ⟨s.toArray⟩ p).2) (acc ++ [((Utf8.decode ⟨s.toArray⟩ p).1 : Int)]) := by
 have hn : s.drop p ≠ [] := by intro e; have := congrArg List.length e; rw [List.length_drop] at this; simp only [List.length_nil] at this; omega
 rw [dec_drop] at hr hne ⊢
 obtain ⟨u, hu, hpu⟩ := plain_rune hn hr hne
 obtain ⟨h1, v, hv, hpv⟩ := h
 refine ⟨?_, v ++ u, ?_, plain_app hpv hpu⟩
 · have := dec_w (s.drop p) hn
   rw [List.length_append, List.length_singleton]; omega
 · rw [runes_snoc, hv, hu]
   apply ByteArray.ext
   simp
theorem PlAt.small {p : Nat} {acc : List Int} {u : Bs} (h : PlAt p acc) (hu : runesBytes acc = ⟨u.toArray⟩) : u.length ≤ 4 * p := by
 have h1 := runesBytes_size_le acc
 rw [hu, bsz] at h1
 have := h.1
 omega
theorem trim_le (t : Bs) : (Lib.trimSuffix t [10]).length ≤ t.length := by
 unfold Lib.trimSuffix
 split
 · rw [List.length_take]; omega
 · exact Nat.le_refl _
theorem replace_nil (bl : Bs) : Lib.replaceAll [] [32] bl = [] := by
 have := replace_words [] [] bl (by simp) (by simp)
 rw [Lib.join_cons] at this
 simpa [Lib.joinTail] using this
theorem joinTail_len (bl : Bs) : ∀ ws : List Bs, (∀ x ∈ ws, x.length ≤ 40) → (Lib.joinTail bl ws).length ≤ (40 + bl.length) * ws.length
 | [], _ => by simp [Lib.joinTail]
 | x :: ws, h => by
   have := joinTail_len bl ws (fun y hy => h y (List.mem_cons_of_mem _ hy))
   have := h x List.mem_cons_self
   rw [joinTail_cons, List.length_append, List.length_append, List.length_cons, Nat.mul_succ]
   omega
theorem wide_len {s : LnS} (h : lineB s = true) {bl pl : Bs} (hb : bl.length ≤ 6) (hp : pl.length ≤ 240) : (wideT s bl pl).length ≤ 290000 := by
 unfold wideT
 rcases lineB_ok h with h0 | hs
 · rw [if_pos h0]
   simp only [List.length_append, List.length_cons, List.length_nil]
   omega
 · have hk : s.kind ≠ 0 := by
     rcases hs.2.2 with h | h | h | h | h | h | h | h | h <;> rw [h.1] <;> decide
   have hwn := words_no32 hs
   have h1 := bk_words_len hs
   have h2 := words_many hs
   rw [words_cons s] at hwn h1 h2
   rw [if_neg hk, words_cons s, replace_words _ _ bl (hwn _ List.mem_cons_self) (fun x hx => hwn x (List.mem_cons_of_mem _ hx))]
   have h3 := joinTail_len bl _ (fun x hx => h1 x (List.mem_cons_of_mem _ hx))
   have h4 := h1 _ List.mem_cons_self
   rw [List.length_cons] at h2
   have h5 : (40 + bl.length) * (wordsS s).tail.length ≤ 46 * 6000 := Nat.mul_le_mul (by omega) (by omega)
   simp only [List.length_append, List.length_cons]
   omega
theorem wide_readK {s : LnS} (h : lineB s = true) {bl pl : Bs} (hbl : Sp bl) (hpl : PlainOk pl) : readLn (wideT s bl pl) 0 = (s, ((wideT s bl pl).length : Int), 0) := by
 have hw := wide_read h hbl hpl [] (.inl rfl)
 rw [List.append_nil] at hw
 unfold readLn
 rw [if_neg (by omega), show (0 : Int).toNat = 0 from rfl, List.drop_zero, hw]
 show (s, (((wideT s bl pl).length - ([] : Bs).length : Nat) : Int), (0 : Int)) = _
 rw [List.length_nil, Nat.sub_zero]
theorem wide_readN {s : LnS} (h : lineB s = true) {bl pl : Bs} (hbl : Sp bl) (hpl : PlainOk pl) (t : Bs) : readLn (t ++ wideT s bl pl ++ [10] ++ t) (t.length : Int) = (s, ((t.length + (wideT s bl pl).length + 1 : Nat) : Int), 0) := by
 have hw := wide_read h hbl hpl (10 :: t) (.inr ⟨t, rfl⟩)
 have hd : (t ++ wideT s bl pl ++ [10] ++ t).drop t.length = wideT s bl pl ++ 10 :: t := by
   rw [List.append_assoc, List.append_assoc, List.drop_left]; simp
 unfold readLn
 rw [if_neg (by simp only [List.length_append]; omega), Int.toNat_natCast, hd, hw]
 show (s, (((t ++ wideT s bl pl ++ [10] ++ t).length - t.length : Nat) : Int), (0 : Int)) = _
 simp only [List.length_append, List.length_singleton]
 rw [show t.length + (wideT s bl pl).length + 1 + t.length - t.length = t.length + (wideT s bl pl).length + 1 by omega]
end Yd
