import Derived.Test.YthdpangjphphjaaGreatDoorCuK
import Derived.Test.YthdpangjphphjaaGreatDoorProg
import Derived.Test.YthdpangjphphjaaGreatDoorLx
set_option maxRecDepth 200000
set_option maxHeartbeats 8000000
namespace Yd
open Go Go.RowKit Go.Proofs

theorem get_app (w r : Bs) (i : Nat) (h : i < w.length) : ByteArray.get! ⟨(w ++ r).toArray⟩ i = ByteArray.get! ⟨w.toArray⟩ i := by
 simp only [ByteArray.get!]
 rw [getElem!_pos (w ++ r).toArray i (by simp; omega), getElem!_pos w.toArray i (by simpa using h)]
 simp [List.getElem_append_left h]
theorem decN_app (n m b0 b1 b2 b3 c1 c2 c3 : Nat) (h1 : 1 < n → c1 = b1) (h2 : 2 < n → c2 = b2) (h3 : 3 < n → c3 = b3) (hok : Lib.decodeN n b0 b1 b2 b3 ≠ (65533, 1)) : Lib.decodeN (n + m) b0 c1 c2 c3 = Lib.decodeN n b0 b1 b2 b3 := by
 unfold Lib.decodeN at hok ⊢
 by_cases a : b0 < 128
 · rw [if_pos a, if_pos a]
 rw [if_neg a] at hok ⊢
 rw [if_neg a]
 by_cases hA : b0 / 32 = 6 ∧ (1 < n ∧ b1 / 64 = 2)
 · rw [if_pos hA]
   rw [if_pos (by rw [h1 hA.2.1]; omega), h1 hA.2.1]
 rw [if_neg hA] at hok ⊢
 by_cases hB : b0 / 16 = 14 ∧ (1 < n ∧ b1 / 64 = 2) ∧ (2 < n ∧ b2 / 64 = 2)
 · rw [if_pos hB]
   rw [if_neg (by omega), if_pos (by rw [h1 (by omega), h2 (by omega)]; omega), h1 (by omega), h2 (by omega)]
 rw [if_neg hB] at hok ⊢
 by_cases hC : b0 / 8 = 30 ∧ (1 < n ∧ b1 / 64 = 2) ∧ (2 < n ∧ b2 / 64 = 2) ∧ (3 < n ∧ b3 / 64 = 2)
 · rw [if_pos hC]
   rw [if_neg (by omega), if_neg (by omega), if_pos (by rw [h1 (by omega), h2 (by omega), h3 (by omega)]; omega), h1 (by omega), h2 (by omega), h3 (by omega)]
 rw [if_neg hC] at hok
 exact absurd rfl hok
theorem ok_ne1 {s : ByteArray} (h : okB s 0 = true) : Utf8.decode s 0 ≠ (65533, 1) := fun e => by
 unfold okB at h
 rw [e] at h
 simp at h
theorem dec_app (w r : Bs) (hw : w ≠ []) (hok : okB ⟨w.toArray⟩ 0 = true) : Utf8.decode ⟨(w ++ r).toArray⟩ 0 = Utf8.decode ⟨w.toArray⟩ 0 := by
 have hne := ok_ne1 hok
 have hl : 0 < w.length := List.length_pos_iff.2 hw
 rw [Lib.decode_at, Lib.decode_at, bsz, bsz, List.length_append, Nat.sub_zero, Nat.sub_zero] at *
 rw [get_app w r 0 hl]
 refine decN_app _ _ _ _ _ _ _ _ _ (fun h => ?_) (fun h => ?_) (fun h => ?_) hne
 · rw [get_app w r (0 + 1) (by omega)]
 · rw [get_app w r (0 + 2) (by omega)]
 · rw [get_app w r (0 + 3) (by omega)]
theorem ok_app (w r : Bs) (hw : w ≠ []) (hok : okB ⟨w.toArray⟩ 0 = true) : okB ⟨(w ++ r).toArray⟩ 0 = true := by
 unfold okB at hok ⊢
 rw [dec_app w r hw hok]; exact hok
def Stops (p : Int → Bool) (r : Bs) : Prop := r = [] ∨ (okB ⟨r.toArray⟩ 0 && p ((Utf8.decode ⟨r.toArray⟩ 0).1 : Int)) = false
theorem whileE_stops {p : Int → Bool} {r : Bs} (h : Stops p r) : whileE ⟨r.toArray⟩ p = 0 := by
 rcases h with rfl | h
 · rfl
 · by_cases hr : r = []
   · subst hr; rfl
   · rw [whileE_cons r p hr, h]; rfl
theorem whileE_app (p : Int → Bool) : ∀ (n : Nat) (w r : Bs), w.length ≤ n → whileE ⟨w.toArray⟩ p = w.length → Stops p r → whileE ⟨(w ++ r).toArray⟩ p = w.length
 | 0, w, r, hn, _, hs => by
   have : w = [] := List.length_eq_zero_iff.1 (by omega)
   subst this
   exact whileE_stops hs
 | n + 1, w, r, hn, hw, hs => by
   by_cases h0 : w = []
   · subst h0; exact whileE_stops hs
   · have hpos : 0 < w.length := List.length_pos_iff.2 h0
     rw [whileE_cons w p h0] at hw
     by_cases hc : (okB ⟨w.toArray⟩ 0 && p ((Utf8.decode ⟨w.toArray⟩ 0).1 : Int)) = true
     · rw [if_pos hc] at hw
       rw [Bool.and_eq_true] at hc
       have hd := dec_app w r h0 hc.1
       have h1 := dec_w w h0
       have h2 := dec_le w h0
       rw [whileE_cons (w ++ r) p (by simp [h0]), hd, ok_app w r h0 hc.1, hc.2, if_pos (show (true && true) = true from rfl), List.drop_append_of_le_length h2]
       rw [whileE_app p n (w.drop (Utf8.decode ⟨w.toArray⟩ 0).2) r (by rw [List.length_drop]; omega) (by rw [List.length_drop]; omega) hs, List.length_drop]
       omega
     · rw [if_neg hc] at hw; omega
theorem stops_byte {c : UInt8} (t : Bs) (h : c.toNat < 128) (he : eitB (c.toNat : Int) = false) : Stops eitB (c :: t) := .inr (by rw [dec_lo c t h]; show (_ && eitB (c.toNat : Int)) = false; rw [he, Bool.and_false])
theorem word_parts {w : Bs} (h : wordB ⟨w.toArray⟩ = true) : w ≠ [] ∧ w.length ≤ 24 ∧ runS w = w.length ∧ beginsS w = true := by
 unfold wordB at h
 simp only [Bool.and_eq_true, decide_eq_true_eq, Bool.not_eq_true'] at h
 obtain ⟨⟨⟨h1, h2⟩, h3⟩, h4⟩ := h
 have hne : w ≠ [] := by rintro rfl; simp at h1
 have hpos : 0 < w.length := List.length_pos_iff.2 hne
 rw [bsz] at h2 h4
 refine ⟨hne, by omega, h4, ?_⟩
 have hc : (okB ⟨w.toArray⟩ 0 && eitB ((Utf8.decode ⟨w.toArray⟩ 0).1 : Int)) = true := by
   apply Classical.byContradiction
   intro hno
   rw [whileE_cons w eitB hne, if_neg hno] at h4
   omega
 rw [Bool.and_eq_true] at hc
 unfold beginsS
 rw [hc.1, Bool.true_and]
 cases w with
 | nil => exact absurd rfl hne
 | cons b t =>
   show (true && letB _) = true
   rw [Bool.true_and]
   have hc2 := hc.2
   unfold eitB at hc2
   rcases Bool.or_eq_true _ _ ▸ hc2 with h | h
   · exact h
   · exfalso
     rcases Nat.lt_or_ge b.toNat 128 with hb | hb
     · rw [dec_lo b t hb] at h
       have : firstR ⟨(b :: t).toArray⟩ = (b.toNat : Int) := by
         unfold firstR
         rw [dif_pos (by rw [bsz]; simp)]
         show wrap32 (b.toNat : Int) = _
         unfold wrap32; omega
       rw [this] at h3
       rw [h3] at h; cases h
     · have := (dec_hi b t hb).1
       unfold numB at h
       simp only [Bool.and_eq_true, decide_eq_true_eq] at h
       omega
theorem begins_app {w r : Bs} (hw : w ≠ []) (h : beginsS w = true) : beginsS (w ++ r) = true := by
 unfold beginsS at h ⊢
 simp only [Bool.and_eq_true, Bool.not_eq_true'] at h ⊢
 have hok := h.2.1
 refine ⟨by cases w with | nil => exact absurd rfl hw | cons b t => rfl, ok_app w r hw hok, ?_⟩
 rw [dec_app w r hw hok]; exact h.2.2
theorem begins_ends {b : UInt8} {t : Bs} (h : beginsS (b :: t) = true) : endsS (b :: t) = false ∧ blB b = false ∧ b ≠ 45 := by
 have hl := begins_hd b t
 rw [h] at hl
 have hb : ∀ k : Nat, k < 128 → letB (k : Int) = false → b.toNat ≠ k := fun k hk hf e => by
   rw [(hd_is b t k hk).2 e, hf] at hl; cases hl
 refine ⟨?_, ?_, fun e => hb 45 (by decide) rfl (by rw [e]; rfl)⟩
 · rw [endsS_cons]
   have h1 := hb 10 (by decide) rfl; have h2 := hb 35 (by decide) rfl
   rw [beq_eq_false_iff_ne.2 (by omega), beq_eq_false_iff_ne.2 (by omega)]; rfl
 · unfold blB
   rw [beq_eq_false_iff_ne.2 (fun e => hb 32 (by decide) rfl (by rw [e]; rfl)), beq_eq_false_iff_ne.2 (fun e => hb 9 (by decide) rfl (by rw [e]; rfl))]; rfl
theorem nameS_app {w r : Bs} (hw : wordB ⟨w.toArray⟩ = true) (hs : Stops eitB r) : nameS (w ++ r) = .ok (w, r) := by
 obtain ⟨hne, hl, hr, hb⟩ := word_parts hw
 have hB := begins_app (r := r) hne hb
 have hrun : runS (w ++ r) = w.length := whileE_app eitB w.length w r (Nat.le_refl _) hr hs
 have hE : endsS (w ++ r) = false := by
   cases w with
   | nil => exact absurd rfl hne
   | cons b t => exact (begins_ends hB).1
 rw [nameS_ok hE hB (by omega), hrun, List.take_left, List.drop_left]
end Yd


namespace Yd
open Go Go.RowKit Go.Proofs

def Sp (b : Bs) : Prop := b ≠ [] ∧ ∀ c ∈ b, blB c = true
def Cut (r : Bs) : Prop := ∀ c t, r = c :: t → blB c = true ∨ c = 10 ∨ c = 35
theorem skipS_app : ∀ (b r : Bs), (∀ c ∈ b, blB c = true) → skipS (b ++ r) = skipS r
 | [], r, _ => rfl
 | c :: b, r, h => by
   rw [List.cons_append, skipS_cons_yes (h c List.mem_cons_self)]
   exact skipS_app b r (fun x hx => h x (List.mem_cons_of_mem _ hx))
theorem skip_stays {r : Bs} (h : ∀ c t, r = c :: t → blB c = false) : skipS r = r := by
 cases r with
 | nil => rfl
 | cons c t => exact skipS_cons_no (h c t rfl)
theorem ends_stays {e : Bs} (h : endsS e = true) : skipS e = e := skip_stays fun c t hc => by
 subst hc
 rw [endsS_cons] at h
 unfold blB
 rcases Bool.or_eq_true _ _ ▸ h with h | h
 · have : c = 10 := UInt8.toNat_inj.1 (by have := eq_of_beq h; show c.toNat = 10; omega)
   rw [this]; rfl
 · have : c = 35 := UInt8.toNat_inj.1 (by have := eq_of_beq h; show c.toNat = 35; omega)
   rw [this]; rfl
theorem more_app {b : Bs} (hb : Sp b) {c : UInt8} {t : Bs} (hc : blB c = false) (he : endsS (c :: t) = false) : moreS (b ++ c :: t) = .ok (true, c :: t) := by
 unfold moreS
 rw [skipS_app b _ hb.2, skipS_cons_no hc, if_neg (by rw [he]; simp), if_neg]
 have h0 := List.length_pos_iff.2 hb.1
 intro e
 rw [List.length_append] at e
 omega
theorem more_end {b e : Bs} (hb : ∀ c ∈ b, blB c = true) (he : endsS e = true) : moreS (b ++ e) = .ok (false, e) := by
 unfold moreS
 rw [skipS_app b _ hb, ends_stays he, if_pos he]
theorem must_app {b : Bs} (hb : Sp b) {c : UInt8} {t : Bs} (hc : blB c = false) (he : endsS (c :: t) = false) : mustS (b ++ c :: t) = .ok (c :: t) := by
 unfold mustS
 rw [more_app hb hc he]
theorem Cut.stops {r : Bs} (h : Cut r) : Stops eitB r := by
 cases r with
 | nil => exact .inl rfl
 | cons c t =>
   have hk := h c t rfl
   have hc : c = 32 ∨ c = 9 ∨ c = 10 ∨ c = 35 := by
     rcases hk with hk | hk | hk
     · unfold blB at hk
       rcases Bool.or_eq_true _ _ ▸ hk with hk | hk
       · exact .inl (eq_of_beq hk)
       · exact .inr (.inl (eq_of_beq hk))
     · exact .inr (.inr (.inl hk))
     · exact .inr (.inr (.inr hk))
   rcases hc with rfl | rfl | rfl | rfl
   · exact stops_byte t (by decide) (by decide)
   · exact stops_byte t (by decide) (by decide)
   · exact stops_byte t (by decide) (by decide)
   · exact stops_byte t (by decide) (by decide)
theorem Cut.byte {c : UInt8} {t : Bs} (h : Cut (c :: t)) : wcB c = false ∧ ¬ (128 ≤ c) ∧ digB c = false := by
 have hc : c = 32 ∨ c = 9 ∨ c = 10 ∨ c = 35 := by
   rcases h c t rfl with hk | hk | hk
   · unfold blB at hk
     rcases Bool.or_eq_true _ _ ▸ hk with hk | hk
     · exact .inl (eq_of_beq hk)
     · exact .inr (.inl (eq_of_beq hk))
   · exact .inr (.inr (.inl hk))
   · exact .inr (.inr (.inr hk))
 rcases hc with rfl | rfl | rfl | rfl <;> exact ⟨by decide, by decide, by decide⟩
theorem Cut.ends {e : Bs} (he : endsS e = true) : Cut e := fun c t hc => by
 subst hc
 rw [endsS_cons] at he
 rcases Bool.or_eq_true _ _ ▸ he with h | h
 · exact .inr (.inl (UInt8.toNat_inj.1 (by have := eq_of_beq h; show c.toNat = 10; omega)))
 · exact .inr (.inr (UInt8.toNat_inj.1 (by have := eq_of_beq h; show c.toNat = 35; omega)))
theorem Cut.sp {b r : Bs} (hb : Sp b) : Cut (b ++ r) := fun c t hc => by
 cases b with
 | nil => exact absurd rfl hb.1
 | cons x b => rw [List.cons_append] at hc; injection hc with h1 _; subst h1; exact .inl (hb.2 _ List.mem_cons_self)
theorem Cut.blanks {b e : Bs} (hb : ∀ c ∈ b, blB c = true) (he : endsS e = true) : Cut (b ++ e) := fun c t hc => by
 cases b with
 | nil => exact Cut.ends he c t hc
 | cons x b => rw [List.cons_append] at hc; injection hc with h1 _; subst h1; exact .inl (hb _ List.mem_cons_self)
def glue : List (Bs × Bs) → Bs → Bs
 | [], e => e
 | p :: ps, e => p.1 ++ (p.2 ++ glue ps e)
theorem glue_app : ∀ (ps qs : List (Bs × Bs)) (e : Bs), glue (ps ++ qs) e = glue ps (glue qs e)
 | [], _, _ => rfl
 | p :: ps, qs, e => by rw [List.cons_append, glue, glue, glue_app ps qs e]
theorem glue_cut : ∀ (ps : List (Bs × Bs)) (e : Bs), (∀ p ∈ ps, Sp p.1) → Cut e → Cut (glue ps e)
 | [], _, _, h => h
 | p :: _ps, _e, hs, _ => Cut.sp (hs p List.mem_cons_self)
theorem word_cons {w r : Bs} (hw : wordB ⟨w.toArray⟩ = true) : ∃ c t, w ++ r = c :: t ∧ blB c = false ∧ endsS (c :: t) = false ∧ beginsS (c :: t) = true ∧ c ≠ 45 := by
 obtain ⟨hne, _, _, hb⟩ := word_parts hw
 have hB := begins_app (r := r) hne hb
 cases w with
 | nil => exact absurd rfl hne
 | cons c t =>
   have h := begins_ends hB
   exact ⟨c, t ++ r, rfl, h.2.1, h.1, hB, h.2.2⟩
theorem must_word {b w r : Bs} (hb : Sp b) (hw : wordB ⟨w.toArray⟩ = true) : mustS (b ++ (w ++ r)) = .ok (w ++ r) := by
 obtain ⟨c, t, h1, h2, h3, _⟩ := word_cons (r := r) hw
 rw [h1]; exact must_app hb h2 h3
theorem more_word {b w r : Bs} (hb : Sp b) (hw : wordB ⟨w.toArray⟩ = true) : moreS (b ++ (w ++ r)) = .ok (true, w ++ r) := by
 obtain ⟨c, t, h1, h2, h3, _⟩ := word_cons (r := r) hw
 rw [h1]; exact more_app hb h2 h3
theorem names_glue : ∀ (ps : List (Bs × Bs)) (acc : List Bs) (e : Bs), (∀ p ∈ ps, Sp p.1 ∧ wordB ⟨p.2.toArray⟩ = true) → Cut e → namesS ps.length acc (glue ps e) = .ok (acc ++ ps.map (·.2), e)
 | [], acc, e, _, _ => by rw [List.map_nil, List.append_nil]; rfl
 | p :: ps, acc, e, h, he => by
   have hp := h p List.mem_cons_self
   rw [List.length_cons, namesS, glue, must_word hp.1 hp.2]
   simp only []
   rw [nameS_app hp.2 (glue_cut ps e (fun q hq => (h q (List.mem_cons_of_mem _ hq)).1) he).stops]
   show namesS ps.length (acc ++ [p.2]) (glue ps e) = _
   rw [names_glue ps (acc ++ [p.2]) e (fun q hq => h q (List.mem_cons_of_mem _ hq)) he, List.map_cons, List.append_assoc]; rfl
theorem others_glue (most : Nat) (tb e : Bs) (htb : ∀ c ∈ tb, blB c = true) (he : endsS e = true) : ∀ (ps : List (Bs × Bs)) (f many : Nat) (ns : List Bs) (vs : List To), (∀ p ∈ ps, Sp p.1 ∧ wordB ⟨p.2.toArray⟩ = true) → ps.length < f → many + ps.length ≤ most →
   othersS false most f many ns vs (glue ps (tb ++ e)) = .ok ((ns ++ ps.map (·.2), vs), e)
 | [], f, many, ns, vs, _, hf, _ => by
   obtain ⟨g, rfl⟩ : ∃ g, f = g + 1 := ⟨f - 1, by simp at hf; omega⟩
   rw [othersS, glue, more_end htb he, List.map_nil, List.append_nil]
 | p :: ps, f, many, ns, vs, h, hf, hm => by
   obtain ⟨g, rfl⟩ : ∃ g, f = g + 1 := ⟨f - 1, by simp at hf; omega⟩
   have hp := h p List.mem_cons_self
   rw [othersS, glue, more_word hp.1 hp.2]
   simp only []
   rw [if_neg (by simp at hm; omega), nameS_app hp.2 (glue_cut ps _ (fun q hq => (h q (List.mem_cons_of_mem _ hq)).1) (Cut.blanks htb he)).stops]
   simp only [Bool.false_eq_true, if_false]
   rw [others_glue most tb e htb he ps g (many + 1) (ns ++ [p.2]) vs (fun q hq => h q (List.mem_cons_of_mem _ hq)) (by simp at hf; omega) (by simp at hm; omega), List.map_cons, List.append_assoc]; rfl
theorem wordS_app {ws : List Bs} {w r : Bs} {i : Nat} (hi : ws.findIdx? (fun s => s == w) = some i) (hw : ∀ c ∈ w, wcB c = true) (hr : Cut r) : wordS ws (w ++ r) = .ok (i, r) := by
 have hst : stretchS (w ++ r) = w := by
   unfold stretchS
   rw [List.takeWhile_append_of_pos hw]
   cases r with
   | nil => simp
   | cons c t => rw [List.takeWhile_cons, hr.byte.1]; simp
 have hwh : wholeS (w ++ r) = w := by
   unfold wholeS
   rw [hst, List.drop_left]
   cases r with
   | nil => rfl
   | cons c t => simp only [List.head?_cons]; rw [if_neg hr.byte.2.1]
 unfold wordS
 rw [hwh, hst, hi, List.drop_left]
end Yd


namespace Yd
open Go Go.RowKit Go.Proofs

def textK (s : LnS) : Bs := if s.kind = 0 then [10] else textS s
theorem all_toB {vs : List To} (h : vs.all toB = true) : ∀ t ∈ vs, toOk t := fun t ht => (toB_ok t).1 (List.all_eq_true.1 h t ht)
theorem lineB_ok {s : LnS} (h : lineB s = true) : s.kind = 0 ∨ lineOk s := by
 obtain ⟨kd, names, lvl, vers, first, bits⟩ := s
 unfold lineB bodyB at h
 simp only [Bool.and_eq_true, decide_eq_true_eq] at h
 obtain ⟨⟨h0, h10⟩, ⟨⟨⟨⟨⟨a1, a2⟩, a3⟩, a4⟩, a5⟩, ⟨b1, b2⟩, b3⟩, c⟩ := h
 obtain ⟨k, rfl⟩ : ∃ k : Nat, kd = (k : Int) := ⟨kd.toNat, by omega⟩
 simp only [Int.toNat_natCast] at a1 a2 a3 b1 b2 b3
 have hw : ∀ x ∈ names, wordB ⟨x.toArray⟩ = true := List.all_eq_true.1 a5
 have ht := all_toB a4
 have hv0 : (vers.length : Int) = 0 → vers = [] := fun h => List.eq_nil_of_length_eq_zero (by omega)
 have hbits : ∀ (r : Int), (bits == 0 || (r == 103 && (decide (0 < bits) && decide (bits ≤ 15)))) = true → r ≠ 103 → bits = 0 := fun r h hr => by
   rw [beq_eq_false_iff_ne.2 hr] at h; simpa using h
 have hfst : ∀ (r : Int), (!first || r == 109) = true → r ≠ 109 → first = false := fun r h hr => by
   rw [beq_eq_false_iff_ne.2 hr] at h; simpa using h
 have hlvl : ∀ (r : Int), ((r == 108) == (lvl != 0)) = true → r ≠ 108 → lvl = 0 := fun r h hr => by
   rw [beq_eq_false_iff_ne.2 hr] at h; simpa using h
 rcases (by omega : k = 0 ∨ k = 1 ∨ k = 2 ∨ k = 3 ∨ k = 4 ∨ k = 5 ∨ k = 6 ∨ k = 7 ∨ k = 8 ∨ k = 9) with rfl | rfl | rfl | rfl | rfl | rfl | rfl | rfl | rfl | rfl
 · exact .inl rfl
 · right
   simp only [formN, formR, manyR, mostR, Int.reduceEq, if_false, or_self] at a1 a2 a3 b1 b2 b3
   have hl : lvl ≠ 0 := by simpa using b1
   have hc : levelB lvl = true := by
     rw [beq_eq_false_iff_ne.2 hl] at c; simpa using c
   simp only [levelB, Bool.and_eq_true, decide_eq_true_eq] at hc
   exact ⟨hw, ht, .inl ⟨rfl, by show names.length = 2; omega, hv0 a3, ⟨lvl.toNat, by show lvl = _; omega, by omega, by omega⟩, hfst _ b2 (by decide), hbits _ b3 (by decide)⟩⟩
 · right
   simp only [formN, formR, manyR, mostR, Int.reduceEq, if_false, or_self] at a1 a2 a3 b1 b2 b3
   exact ⟨hw, ht, .inr (.inl ⟨rfl, by show names.length = 2; omega, hv0 a3, hlvl _ b1 (by decide), hfst _ b2 (by decide), hbits _ b3 (by decide)⟩)⟩
 · right
   simp only [formN, formR, manyR, mostR, Int.reduceEq, if_false, if_true, or_self] at a1 a2 a3 b1 b2 b3
   exact ⟨hw, ht, .inr (.inr (.inl ⟨rfl, by show names.length = 2; omega, by show vers.length = 1; omega, hlvl _ b1 (by decide), hfst _ b2 (by decide), hbits _ b3 (by decide)⟩))⟩
 · right
   simp only [formN, formR, manyR, mostR, Int.reduceEq, if_false, if_true, or_self] at a1 a2 a3 b1 b2 b3
   exact ⟨hw, ht, .inr (.inr (.inr (.inl ⟨rfl, ⟨names.length - 2, by show names.length = _; omega, by show vers.length = _; omega, by omega⟩, trivial, hlvl _ b1 (by decide), hfst _ b2 (by decide), hbits _ b3 (by decide)⟩)))⟩
 · right
   simp only [formN, formR, manyR, mostR, Int.reduceEq, if_false, or_self] at a1 a2 a3 b1 b2 b3
   exact ⟨hw, ht, .inr (.inr (.inr (.inr (.inl ⟨rfl, by show names.length = 1; omega, hv0 a3, hlvl _ b1 (by decide), hfst _ b2 (by decide), hbits _ b3 (by decide)⟩))))⟩
 · right
   simp only [formN, formR, manyR, mostR, Int.reduceEq, if_false, or_self] at a1 a2 a3 b1 b2 b3
   exact ⟨hw, ht, .inr (.inr (.inr (.inr (.inr (.inl ⟨rfl, by show names.length = 1; omega, hv0 a3, hlvl _ b1 (by decide), hfst _ b2 (by decide), hbits _ b3 (by decide)⟩)))))⟩
 · right
   simp only [formN, formR, manyR, mostR, Int.reduceEq, if_false, if_true, or_false] at a1 a2 a3 b1 b2 b3
   exact ⟨hw, ht, .inr (.inr (.inr (.inr (.inr (.inr (.inl ⟨rfl, ⟨names.length - 1, by show names.length = _; omega, by omega⟩, hv0 a3, hlvl _ b1 (by decide), hfst _ b2 (by decide), hbits _ b3 (by decide)⟩))))))⟩
 · right
   simp only [formN, formR, manyR, mostR, Int.reduceEq, if_false, if_true, or_true] at a1 a2 a3 b1 b2 b3
   exact ⟨hw, ht, .inr (.inr (.inr (.inr (.inr (.inr (.inr (.inl ⟨rfl, ⟨names.length - 2, by show names.length = _; omega, by omega⟩, hv0 a3, hlvl _ b1 (by decide), trivial, hbits _ b3 (by decide)⟩)))))))⟩
 · right
   simp only [formN, formR, manyR, mostR, Int.reduceEq, if_false, or_self] at a1 a2 a3 b1 b2 b3
   have hb : ∃ b : Nat, bits = b ∧ b ≤ 15 := by
     by_cases h0 : bits = 0
     · exact ⟨0, h0, by omega⟩
     · rw [beq_eq_false_iff_ne.2 h0] at b3
       simp at b3
       exact ⟨bits.toNat, by omega, by omega⟩
   exact ⟨hw, ht, .inr (.inr (.inr (.inr (.inr (.inr (.inr (.inr ⟨rfl, by show names.length = 1; omega, hv0 a3, hlvl _ b1 (by decide), hfst _ b2 (by decide), hb⟩)))))))⟩
theorem text_any_line {w : World} {B : Nat} {l : LnC} {s : LnS} (h : LnAt w B l s) (hn : s.names.length ≤ 1000) (hv : s.vers.length ≤ 1000) (hg : GlobL w) :
   Calls Tryz.prog 15 #[valLn l] w (Ret2 (.string ⟨(if lineB s = true then textK s else []).toArray⟩) (.int .i64 (if lineB s = true then 0 else 220)) w) := by
 cases hb : lineB s
 · have hba := belowA (Below.refl w.heap.size w) (.cells (cellsLn l) 28)
   have HCK := hid (check_any_line (h.below hba) hn hv (hg.below hba))
   rw [hb] at HCK
   have HB := hid hba
   clear h hn hv hg hb hba
   go_enter Tryz.func15, Tryz.ntmps15
   go_wp2_with fail
   refine HCK.out.mono ?_
   rintro e w1 ⟨rfl, hb1⟩
   have HB1 := hid (HB.out.trans (hb1.mono HB.out.size))
   clear hb1
   simp only [Bool.false_eq_true, if_false]
   go_wp2_with fail
   go_ret2
   exact ⟨rfl, HB1.out⟩
 · simp only [if_true]
   rcases lineB_ok hb with h0 | hok
   · have hba := belowA (Below.refl w.heap.size w) (.cells (cellsLn l) 28)
     have HCK := hid (check_any_line (h.below hba) hn hv (hg.below hba))
     rw [hb] at HCK
     have HB := hid hba
     have HX := hid (Bx.new w (cellsLn l) 28)
     have hk : l.kind = 0 := by rw [h.1.1]; exact h0
     have ht : textK s = [10] := by unfold textK; rw [if_pos h0]
     rw [ht]
     clear h hn hv hg hb hba h0 ht
     obtain ⟨lk, na, nn, nc, lvl, va, vn, vc, lf, bits⟩ := l
     simp only at hk
     subst hk
     go_enter Tryz.func15, Tryz.ntmps15
     go_wp2_with fail
     refine HCK.out.mono ?_
     rintro e w1 ⟨rfl, hb1⟩
     have hx1 := (HX.out.keep hb1).1
     have HB1 := hid (HB.out.trans (hb1.mono HB.out.size))
     clear hb1
     simp only [if_true]
     go_wp2_with fail
     go_ret2
     exact ⟨rfl, HB1.out⟩
   · have hk : s.kind ≠ 0 := by
       intro h0
       rcases hok.2.2 with ⟨e, _⟩ | ⟨e, _⟩ | ⟨e, _⟩ | ⟨e, _⟩ | ⟨e, _⟩ | ⟨e, _⟩ | ⟨e, _⟩ | ⟨e, _⟩ | ⟨e, _⟩ <;> omega
     rw [show textK s = textS s by unfold textK; rw [if_neg hk]]
     exact text_all h hok hg
end Yd


namespace Yd
open Go Go.RowKit Go.Proofs

theorem valD_snoc (l : Bs) (c : UInt8) : valD (l ++ [c]) = valD l * 10 + (c.toNat - 48) := by unfold valD; rw [List.foldl_append]; rfl
theorem digs_small (n : Nat) : 0 < n → valD (digs n) = n ∧ (digs n).all digB = true ∧ (digs n).head? ≠ some 48 ∧ (digs n).head? ≠ none := by
 induction n using Nat.strongRecOn with
 | _ n ih =>
   intro h
   have hc : (UInt8.ofNat (48 + n % 10)).toNat = 48 + n % 10 := by simp; omega
   have hdg : digB (UInt8.ofNat (48 + n % 10)) = true := (digB_eq _).2 (by omega)
   rw [digs_step h]
   rcases Nat.eq_zero_or_pos (n / 10) with h0 | h0
   · have hd : digs (n / 10) = [] := by rw [h0]; rfl
     rw [hd, List.nil_append]
     refine ⟨?_, by rw [List.all_cons, hdg]; rfl, ?_, by simp⟩
     · show valD ([] ++ [_]) = n
       rw [valD_snoc, hc]
       show 0 * 10 + _ = n
       omega
     · rw [List.head?_cons]
       intro e
       have := congrArg UInt8.toNat (Option.some.inj e)
       rw [hc] at this
       have h48 : (48 : UInt8).toNat = 48 := rfl
       omega
   · obtain ⟨h1, h2, h3, h4⟩ := ih (n / 10) (by omega) h0
     cases hq : digs (n / 10) with
     | nil => rw [hq] at h4; exact absurd rfl h4
     | cons a t =>
       rw [hq] at h1 h2 h3
       refine ⟨?_, ?_, ?_, by simp⟩
       · rw [valD_snoc, hc, h1]; omega
       · rw [List.all_append, h2, List.all_cons, hdg]; rfl
       · simpa using h3
theorem numV_app {nm r : Bs} {k : Nat} (h0 : 0 < k) (h9 : k ≤ 999) (hr : Cut r) : numV nm (digs k ++ r) = .ok (⟨nm, k⟩, r) := by
 obtain ⟨h1, h2, h3, h4⟩ := digs_small k h0
 have hall : ∀ c ∈ digs k, digB c = true := List.all_eq_true.1 h2
 have ht : (digs k ++ r).takeWhile digB = digs k := by
   rw [List.takeWhile_append_of_pos hall]
   cases r with
   | nil => simp
   | cons c t => rw [List.takeWhile_cons, hr.byte.2.2]; simp
 unfold numV
 simp only [ht]
 rw [if_neg (fun e => e.elim h4 h3), h1, if_neg (by omega), List.drop_left]
theorem vers_app {v : To} {r : Bs} (hv : toOk v) (hr : Cut r) : versS (toldT v ++ r) = .ok (v, r) := by
 unfold toldT
 rcases hv with rfl | ⟨hw, h0, h9⟩
 · rw [if_pos rfl]; rfl
 · rw [if_neg (by omega), List.append_assoc, List.cons_append]
   obtain ⟨c, t, hc, _, _, _, hne⟩ := word_cons (r := 46 :: (digs v.k.toNat ++ r)) hw
   unfold versS
   rw [hc, List.head?_cons, if_neg (by simp; exact hne), ← hc, nameS_app hw (stops_byte _ (by decide) (by decide))]
   simp only [List.head?_cons, if_true, List.tail_cons]
   rw [numV_app (by omega) (by omega) hr]
   obtain ⟨n, k⟩ := v
   simp only at h0 ⊢
   rw [show ((k.toNat : Nat) : Int) = k by omega]
theorem told_cons {v : To} {r : Bs} (hv : toOk v) : ∃ c t, toldT v ++ r = c :: t ∧ blB c = false ∧ endsS (c :: t) = false := by
 unfold toldT
 rcases hv with rfl | ⟨hw, h0, h9⟩
 · rw [if_pos rfl]; exact ⟨45, r, rfl, by decide, by rw [endsS_cons]; decide⟩
 · rw [if_neg (by omega), List.append_assoc]
   obtain ⟨c, t, h1, h2, h3, _⟩ := word_cons (r := 46 :: digs v.k.toNat ++ r) hw
   exact ⟨c, t, h1, h2, h3⟩
theorem must_told {b r : Bs} {v : To} (hb : Sp b) (hv : toOk v) : mustS (b ++ (toldT v ++ r)) = .ok (toldT v ++ r) := by
 obtain ⟨c, t, h1, h2, h3⟩ := told_cons (r := r) hv
 rw [h1]; exact must_app hb h2 h3
theorem pairs_glue (most : Nat) (tb e : Bs) (htb : ∀ c ∈ tb, blB c = true) (he : endsS e = true) : ∀ (ps : List ((Bs × Bs) × (Bs × To))) (f many : Nat) (ns : List Bs) (vs : List To), (∀ p ∈ ps, (Sp p.1.1 ∧ wordB ⟨p.1.2.toArray⟩ = true) ∧ Sp p.2.1 ∧ toOk p.2.2) → ps.length < f → many + ps.length ≤ most →
   othersS true most f many ns vs (glue (ps.flatMap fun p => [p.1, (p.2.1, toldT p.2.2)]) (tb ++ e)) = .ok ((ns ++ ps.map (·.1.2), vs ++ ps.map (·.2.2)), e)
 | [], f, many, ns, vs, _, hf, _ => by
   obtain ⟨g, rfl⟩ : ∃ g, f = g + 1 := ⟨f - 1, by simp at hf; omega⟩
   rw [othersS, List.flatMap_nil, glue, more_end htb he]
   simp
 | p :: ps, f, many, ns, vs, h, hf, hm => by
   obtain ⟨g, rfl⟩ : ∃ g, f = g + 1 := ⟨f - 1, by simp at hf; omega⟩
   have hp := h p List.mem_cons_self
   have hcut : Cut (glue (ps.flatMap fun p => [p.1, (p.2.1, toldT p.2.2)]) (tb ++ e)) := glue_cut _ _ (fun q hq => by
     obtain ⟨x, hx, hq⟩ := List.mem_flatMap.1 hq
     have hx' := h x (List.mem_cons_of_mem _ hx)
     simp at hq
     rcases hq with rfl | rfl
     · exact hx'.1.1
     · exact hx'.2.1) (Cut.blanks htb he)
   rw [othersS, List.flatMap_cons]
   show (match moreS (p.1.1 ++ (p.1.2 ++ (p.2.1 ++ (toldT p.2.2 ++ glue (ps.flatMap fun p => [p.1, (p.2.1, toldT p.2.2)]) (tb ++ e))))) with | .error x => _ | .ok (false, r) => _ | .ok (true, r) => _) = _
   rw [more_word hp.1.1 hp.1.2]
   simp only []
   rw [if_neg (by simp at hm; omega), nameS_app hp.1.2 (Cut.sp hp.2.1).stops]
   simp only [if_true]
   rw [must_told hp.2.1 hp.2.2]
   simp only []
   rw [vers_app hp.2.2 hcut]
   simp only []
   rw [pairs_glue most tb e htb he ps g (many + 1) (ns ++ [p.1.2]) (vs ++ [p.2.2]) (fun q hq => h q (List.mem_cons_of_mem _ hq)) (by simp at hf; omega) (by simp at hm; omega), List.map_cons, List.map_cons, List.append_assoc, List.append_assoc]; rfl
end Yd
