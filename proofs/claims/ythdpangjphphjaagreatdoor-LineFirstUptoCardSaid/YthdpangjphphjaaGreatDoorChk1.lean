import Derived.Test.YthdpangjphphjaaGreatDoorCuK
import Derived.Test.YthdpangjphphjaaGreatDoorProg
import Derived.Test.YthdpangjphphjaaGreatDoorDigit
set_option maxRecDepth 200000
set_option maxHeartbeats 8000000
namespace Yd
open Go Go.RowKit Go.Proofs

theorem get_app (w r : Bs) (i : Nat) (h : i < w.length) : ByteArray.get! ⟨(w ++ r).toArray⟩ i = ByteArray.get! ⟨w.toArray⟩ i := by
 simp only [ByteArray.get!]
 rw [getElem!_pos (w ++ r).toArray i (by simp; omega), getElem!_pos w.toArray i (by simpa using h)]
 simp [List.getElem_append_left h]
theorem decN_app (n m b0 b1 b2 b3 c1 c2 c3 : Nat) (h1 : 1 < n → c1 = b1) (h2 : 2 < n → c2 = b2) (h3 : 3 < n → c3 = b3) (hok : Lib.decodeN n b0 b1 b2 b3 ≠ (65533, 1)) : Lib.decodeN (n + m) b0 c1 c2 c3 = Lib.decodeN n b0 b1 b2 b3 := by
 unfold Lib.decodeN at hok ⊢
 by_cases a : b0 < 128
 · rw [if_pos a, if_pos a]
 rw [if_neg a] at hok ⊢
 rw [if_neg a]
 by_cases hA : b0 / 32 = 6 ∧ (1 < n ∧ b1 / 64 = 2)
 · rw [if_pos hA]
   rw [if_pos (by rw [h1 hA.2.1]; omega), h1 hA.2.1]
 rw [if_neg hA] at hok ⊢
 by_cases hB : b0 / 16 = 14 ∧ (1 < n ∧ b1 / 64 = 2) ∧ (2 < n ∧ b2 / 64 = 2)
 · rw [if_pos hB]
   rw [if_neg (by omega), if_pos (by rw [h1 (by omega), h2 (by omega)]; omega), h1 (by omega), h2 (by omega)]
 rw [if_neg hB] at hok ⊢
 by_cases hC : b0 / 8 = 30 ∧ (1 < n ∧ b1 / 64 = 2) ∧ (2 < n ∧ b2 / 64 = 2) ∧ (3 < n ∧ b3 / 64 = 2)
 · rw [if_pos hC]
   rw [if_neg (by omega), if_neg (by omega), if_pos (by rw [h1 (by omega), h2 (by omega), h3 (by omega)]; omega), h1 (by omega), h2 (by omega), h3 (by omega)]
 rw [if_neg hC] at hok
 exact absurd rfl hok
theorem ok_ne1 {s : ByteArray} (h : okB s 0 = true) : Utf8.decode s 0 ≠ (65533, 1) := fun e => by
 unfold okB at h
 rw [e] at h
 simp at h
theorem dec_app (w r : Bs) (hw : w ≠ []) (hok : okB ⟨w.toArray⟩ 0 = true) : Utf8.decode ⟨(w ++ r).toArray⟩ 0 = Utf8.decode ⟨w.toArray⟩ 0 := by
 have hne := ok_ne1 hok
 have hl : 0 < w.length := List.length_pos_iff.2 hw
 rw [Lib.decode_at, Lib.decode_at, bsz, bsz, List.length_append, Nat.sub_zero, Nat.sub_zero] at *
 rw [get_app w r 0 hl]
 refine decN_app _ _ _ _ _ _ _ _ _ (fun h => ?_) (fun h => ?_) (fun h => ?_) hne
 · rw [get_app w r (0 + 1) (by omega)]
 · rw [get_app w r (0 + 2) (by omega)]
 · rw [get_app w r (0 + 3) (by omega)]
theorem ok_app (w r : Bs) (hw : w ≠ []) (hok : okB ⟨w.toArray⟩ 0 = true) : okB ⟨(w ++ r).toArray⟩ 0 = true := by
 unfold okB at hok ⊢
 rw [dec_app w r hw hok]; exact hok
def Stops (p : Int → Bool) (r : Bs) : Prop := r = [] ∨ (okB ⟨r.toArray⟩ 0 && p ((Utf8.decode ⟨r.toArray⟩ 0).1 : Int)) = false
theorem whileE_stops {p : Int → Bool} {r : Bs} (h : Stops p r) : whileE ⟨r.toArray⟩ p = 0 := by
 rcases h with rfl | h
 · rfl
 · by_cases hr : r = []
   · subst hr; rfl
   · rw [whileE_cons r p hr, h]; rfl
theorem whileE_app (p : Int → Bool) : ∀ (n : Nat) (w r : Bs), w.length ≤ n → whileE ⟨w.toArray⟩ p = w.length → Stops p r → whileE ⟨(w ++ r).toArray⟩ p = w.length
 | 0, w, r, hn, _, hs => by
   have : w = [] := List.length_eq_zero_iff.1 (by omega)
   subst this
   exact whileE_stops hs
 | n + 1, w, r, hn, hw, hs => by
   by_cases h0 : w = []
   · subst h0; exact whileE_stops hs
   · have hpos : 0 < w.length := List.length_pos_iff.2 h0
     rw [whileE_cons w p h0] at hw
     by_cases hc : (okB ⟨w.toArray⟩ 0 && p ((Utf8.decode ⟨w.toArray⟩ 0).1 : Int)) = true
     · rw [if_pos hc] at hw
       rw [Bool.and_eq_true] at hc
       have hd := dec_app w r h0 hc.1
       have h1 := dec_w w h0
       have h2 := dec_le w h0
       rw [whileE_cons (w ++ r) p (by simp [h0]), hd, ok_app w r h0 hc.1, hc.2, if_pos (show (true && true) = true from rfl), List.drop_append_of_le_length h2]
       rw [whileE_app p n (w.drop (Utf8.decode ⟨w.toArray⟩ 0).2) r (by rw [List.length_drop]; omega) (by rw [List.length_drop]; omega) hs, List.length_drop]
       omega
     · rw [if_neg hc] at hw; omega
theorem stops_byte {c : UInt8} (t : Bs) (h : c.toNat < 128) (he : eitB (c.toNat : Int) = false) : Stops eitB (c :: t) := .inr (by rw [dec_lo c t h]; show (_ && eitB (c.toNat : Int)) = false; rw [he, Bool.and_false])
theorem word_parts {w : Bs} (h : wordB ⟨w.toArray⟩ = true) : w ≠ [] ∧ w.length ≤ 24 ∧ runS w = w.length ∧ beginsS w = true := by
 unfold wordB at h
 simp only [Bool.and_eq_true, decide_eq_true_eq, Bool.not_eq_true'] at h
 obtain ⟨⟨⟨h1, h2⟩, h3⟩, h4⟩ := h
 have hne : w ≠ [] := by rintro rfl; simp at h1
 have hpos : 0 < w.length := List.length_pos_iff.2 hne
 rw [bsz] at h2 h4
 refine ⟨hne, by omega, h4, ?_⟩
 have hc : (okB ⟨w.toArray⟩ 0 && eitB ((Utf8.decode ⟨w.toArray⟩ 0).1 : Int)) = true := by
   apply Classical.byContradiction
   intro hno
   rw [whileE_cons w eitB hne, if_neg hno] at h4
   omega
 rw [Bool.and_eq_true] at hc
 unfold beginsS
 rw [hc.1, Bool.true_and]
 cases w with
 | nil => exact absurd rfl hne
 | cons b t =>
   show (true && letB _) = true
   rw [Bool.true_and]
   have hc2 := hc.2
   unfold eitB at hc2
   rcases Bool.or_eq_true _ _ ▸ hc2 with h | h
   · exact h
   · exfalso
     rcases Nat.lt_or_ge b.toNat 128 with hb | hb
     · rw [dec_lo b t hb] at h
       have : firstR ⟨(b :: t).toArray⟩ = (b.toNat : Int) := by
         unfold firstR
         rw [dif_pos (by rw [bsz]; simp)]
         show wrap32 (b.toNat : Int) = _
         unfold wrap32; omega
       rw [this] at h3
       rw [h3] at h; cases h
     · have := (dec_hi b t hb).1
       unfold numB at h
       simp only [Bool.and_eq_true, decide_eq_true_eq] at h
       omega
theorem begins_app {w r : Bs} (hw : w ≠ []) (h : beginsS w = true) : beginsS (w ++ r) = true := by
 unfold beginsS at h ⊢
 simp only [Bool.and_eq_true, Bool.not_eq_true'] at h ⊢
 have hok := h.2.1
 refine ⟨by cases w with | nil => exact absurd rfl hw | cons b t => rfl, ok_app w r hw hok, ?_⟩
 rw [dec_app w r hw hok]; exact h.2.2
theorem begins_ends {b : UInt8} {t : Bs} (h : beginsS (b :: t) = true) : endsS (b :: t) = false ∧ blB b = false ∧ b ≠ 45 := by
 have hl := begins_hd b t
 rw [h] at hl
 have hb : ∀ k : Nat, k < 128 → letB (k : Int) = false → b.toNat ≠ k := fun k hk hf e => by
   rw [(hd_is b t k hk).2 e, hf] at hl; cases hl
 refine ⟨?_, ?_, fun e => hb 45 (by decide) rfl (by rw [e]; rfl)⟩
 · rw [endsS_cons]
   have h1 := hb 10 (by decide) rfl; have h2 := hb 35 (by decide) rfl
   rw [beq_eq_false_iff_ne.2 (by omega), beq_eq_false_iff_ne.2 (by omega)]; rfl
 · unfold blB
   rw [beq_eq_false_iff_ne.2 (fun e => hb 32 (by decide) rfl (by rw [e]; rfl)), beq_eq_false_iff_ne.2 (fun e => hb 9 (by decide) rfl (by rw [e]; rfl))]; rfl
theorem nameS_app {w r : Bs} (hw : wordB ⟨w.toArray⟩ = true) (hs : Stops eitB r) : nameS (w ++ r) = .ok (w, r) := by
 obtain ⟨hne, hl, hr, hb⟩ := word_parts hw
 have hB := begins_app (r := r) hne hb
 have hrun : runS (w ++ r) = w.length := whileE_app eitB w.length w r (Nat.le_refl _) hr hs
 have hE : endsS (w ++ r) = false := by
   cases w with
   | nil => exact absurd rfl hne
   | cons b t => exact (begins_ends hB).1
 rw [nameS_ok hE hB (by omega), hrun, List.take_left, List.drop_left]
end Yd


namespace Yd
open Go Go.RowKit Go.Proofs

def Sp (b : Bs) : Prop := b ≠ [] ∧ ∀ c ∈ b, blB c = true
def Cut (r : Bs) : Prop := ∀ c t, r = c :: t → blB c = true ∨ c = 10 ∨ c = 35
theorem skipS_app : ∀ (b r : Bs), (∀ c ∈ b, blB c = true) → skipS (b ++ r) = skipS r
 | [], r, _ => rfl
 | c :: b, r, h => by
   rw [List.cons_append, skipS_cons_yes (h c List.mem_cons_self)]
   exact skipS_app b r (fun x hx => h x (List.mem_cons_of_mem _ hx))
theorem skip_stays {r : Bs} (h : ∀ c t, r = c :: t → blB c = false) : skipS r = r := by
 cases r with
 | nil => rfl
 | cons c t => exact skipS_cons_no (h c t rfl)
theorem ends_stays {e : Bs} (h : endsS e = true) : skipS e = e := skip_stays fun c t hc => by
 subst hc
 rw [endsS_cons] at h
 unfold blB
 rcases Bool.or_eq_true _ _ ▸ h with h | h
 · have : c = 10 := UInt8.toNat_inj.1 (by have := eq_of_beq h; show c.toNat = 10; omega)
   rw [this]; rfl
 · have : c = 35 := UInt8.toNat_inj.1 (by have := eq_of_beq h; show c.toNat = 35; omega)
   rw [this]; rfl
theorem more_app {b : Bs} (hb : Sp b) {c : UInt8} {t : Bs} (hc : blB c = false) (he : endsS (c :: t) = false) : moreS (b ++ c :: t) = .ok (true, c :: t) := by
 unfold moreS
 rw [skipS_app b _ hb.2, skipS_cons_no hc, if_neg (by rw [he]; simp), if_neg]
 have h0 := List.length_pos_iff.2 hb.1
 intro e
 rw [List.length_append] at e
 omega
theorem more_end {b e : Bs} (hb : ∀ c ∈ b, blB c = true) (he : endsS e = true) : moreS (b ++ e) = .ok (false, e) := by
 unfold moreS
 rw [skipS_app b _ hb, ends_stays he, if_pos he]
theorem must_app {b : Bs} (hb : Sp b) {c : UInt8} {t : Bs} (hc : blB c = false) (he : endsS (c :: t) = false) : mustS (b ++ c :: t) = .ok (c :: t) := by
 unfold mustS
 rw [more_app hb hc he]
theorem Cut.stops {r : Bs} (h : Cut r) : Stops eitB r := by
 cases r with
 | nil => exact .inl rfl
 | cons c t =>
   have hk := h c t rfl
   have hc : c = 32 ∨ c = 9 ∨ c = 10 ∨ c = 35 := by
     rcases hk with hk | hk | hk
     · unfold blB at hk
       rcases Bool.or_eq_true _ _ ▸ hk with hk | hk
       · exact .inl (eq_of_beq hk)
       · exact .inr (.inl (eq_of_beq hk))
     · exact .inr (.inr (.inl hk))
     · exact .inr (.inr (.inr hk))
   rcases hc with rfl | rfl | rfl | rfl
   · exact stops_byte t (by decide) (by decide)
   · exact stops_byte t (by decide) (by decide)
   · exact stops_byte t (by decide) (by decide)
   · exact stops_byte t (by decide) (by decide)
theorem Cut.byte {c : UInt8} {t : Bs} (h : Cut (c :: t)) : wcB c = false ∧ ¬ (128 ≤ c) ∧ digB c = false := by
 have hc : c = 32 ∨ c = 9 ∨ c = 10 ∨ c = 35 := by
   rcases h c t rfl with hk | hk | hk
   · unfold blB at hk
     rcases Bool.or_eq_true _ _ ▸ hk with hk | hk
     · exact .inl (eq_of_beq hk)
     · exact .inr (.inl (eq_of_beq hk))
   · exact .inr (.inr (.inl hk))
   · exact .inr (.inr (.inr hk))
 rcases hc with rfl | rfl | rfl | rfl <;> exact ⟨by decide, by decide, by decide⟩
theorem Cut.ends {e : Bs} (he : endsS e = true) : Cut e := fun c t hc => by
 subst hc
 rw [endsS_cons] at he
 rcases Bool.or_eq_true _ _ ▸ he with h | h
 · exact .inr (.inl (UInt8.toNat_inj.1 (by have := eq_of_beq h; show c.toNat = 10; omega)))
 · exact .inr (.inr (UInt8.toNat_inj.1 (by have := eq_of_beq h; show c.toNat = 35; omega)))
theorem Cut.sp {b r : Bs} (hb : Sp b) : Cut (b ++ r) := fun c t hc => by
 cases b with
 | nil => exact absurd rfl hb.1
 | cons x b => rw [List.cons_append] at hc; injection hc with h1 _; subst h1; exact .inl (hb.2 _ List.mem_cons_self)
theorem Cut.blanks {b e : Bs} (hb : ∀ c ∈ b, blB c = true) (he : endsS e = true) : Cut (b ++ e) := fun c t hc => by
 cases b with
 | nil => exact Cut.ends he c t hc
 | cons x b => rw [List.cons_append] at hc; injection hc with h1 _; subst h1; exact .inl (hb _ List.mem_cons_self)
def glue : List (Bs × Bs) → Bs → Bs
 | [], e => e
 | p :: ps, e => p.1 ++ (p.2 ++ glue ps e)
theorem glue_app : ∀ (ps qs : List (Bs × Bs)) (e : Bs), glue (ps ++ qs) e = glue ps (glue qs e)
 | [], _, _ => rfl
 | p :: ps, qs, e => by rw [List.cons_append, glue, glue, glue_app ps qs e]
theorem glue_cut : ∀ (ps : List (Bs × Bs)) (e : Bs), (∀ p ∈ ps, Sp p.1) → Cut e → Cut (glue ps e)
 | [], _, _, h => h
 | p :: _ps, _e, hs, _ => Cut.sp (hs p List.mem_cons_self)
theorem word_cons {w r : Bs} (hw : wordB ⟨w.toArray⟩ = true) : ∃ c t, w ++ r = c :: t ∧ blB c = false ∧ endsS (c :: t) = false ∧ beginsS (c :: t) = true ∧ c ≠ 45 := by
 obtain ⟨hne, _, _, hb⟩ := word_parts hw
 have hB := begins_app (r := r) hne hb
 cases w with
 | nil => exact absurd rfl hne
 | cons c t =>
   have h := begins_ends hB
   exact ⟨c, t ++ r, rfl, h.2.1, h.1, hB, h.2.2⟩
theorem must_word {b w r : Bs} (hb : Sp b) (hw : wordB ⟨w.toArray⟩ = true) : mustS (b ++ (w ++ r)) = .ok (w ++ r) := by
 obtain ⟨c, t, h1, h2, h3, _⟩ := word_cons (r := r) hw
 rw [h1]; exact must_app hb h2 h3
theorem more_word {b w r : Bs} (hb : Sp b) (hw : wordB ⟨w.toArray⟩ = true) : moreS (b ++ (w ++ r)) = .ok (true, w ++ r) := by
 obtain ⟨c, t, h1, h2, h3, _⟩ := word_cons (r := r) hw
 rw [h1]; exact more_app hb h2 h3
theorem names_glue : ∀ (ps : List (Bs × Bs)) (acc : List Bs) (e : Bs), (∀ p ∈ ps, Sp p.1 ∧ wordB ⟨p.2.toArray⟩ = true) → Cut e → namesS ps.length acc (glue ps e) = .ok (acc ++ ps.map (·.2), e)
 | [], acc, e, _, _ => by rw [List.map_nil, List.append_nil]; rfl
 | p :: ps, acc, e, h, he => by
   have hp := h p List.mem_cons_self
   rw [List.length_cons, namesS, glue, must_word hp.1 hp.2]
   simp only []
   rw [nameS_app hp.2 (glue_cut ps e (fun q hq => (h q (List.mem_cons_of_mem _ hq)).1) he).stops]
   show namesS ps.length (acc ++ [p.2]) (glue ps e) = _
   rw [names_glue ps (acc ++ [p.2]) e (fun q hq => h q (List.mem_cons_of_mem _ hq)) he, List.map_cons, List.append_assoc]; rfl
theorem others_glue (most : Nat) (tb e : Bs) (htb : ∀ c ∈ tb, blB c = true) (he : endsS e = true) : ∀ (ps : List (Bs × Bs)) (f many : Nat) (ns : List Bs) (vs : List To), (∀ p ∈ ps, Sp p.1 ∧ wordB ⟨p.2.toArray⟩ = true) → ps.length < f → many + ps.length ≤ most →
   othersS false most f many ns vs (glue ps (tb ++ e)) = .ok ((ns ++ ps.map (·.2), vs), e)
 | [], f, many, ns, vs, _, hf, _ => by
   obtain ⟨g, rfl⟩ : ∃ g, f = g + 1 := ⟨f - 1, by simp at hf; omega⟩
   rw [othersS, glue, more_end htb he, List.map_nil, List.append_nil]
 | p :: ps, f, many, ns, vs, h, hf, hm => by
   obtain ⟨g, rfl⟩ : ∃ g, f = g + 1 := ⟨f - 1, by simp at hf; omega⟩
   have hp := h p List.mem_cons_self
   rw [othersS, glue, more_word hp.1 hp.2]
   simp only []
   rw [if_neg (by simp at hm; omega), nameS_app hp.2 (glue_cut ps _ (fun q hq => (h q (List.mem_cons_of_mem _ hq)).1) (Cut.blanks htb he)).stops]
   simp only [Bool.false_eq_true, if_false]
   rw [others_glue most tb e htb he ps g (many + 1) (ns ++ [p.2]) vs (fun q hq => h q (List.mem_cons_of_mem _ hq)) (by simp at hf; omega) (by simp at hm; omega), List.map_cons, List.append_assoc]; rfl
theorem wordS_app {ws : List Bs} {w r : Bs} {i : Nat} (hi : ws.findIdx? (fun s => s == w) = some i) (hw : ∀ c ∈ w, wcB c = true) (hr : Cut r) : wordS ws (w ++ r) = .ok (i, r) := by
 have hst : stretchS (w ++ r) = w := by
   unfold stretchS
   rw [List.takeWhile_append_of_pos hw]
   cases r with
   | nil => simp
   | cons c t => rw [List.takeWhile_cons, hr.byte.1]; simp
 have hwh : wholeS (w ++ r) = w := by
   unfold wholeS
   rw [hst, List.drop_left]
   cases r with
   | nil => rfl
   | cons c t => simp only [List.head?_cons]; rw [if_neg hr.byte.2.1]
 unfold wordS
 rw [hwh, hst, hi, List.drop_left]
end Yd


namespace Yd
open Go Go.RowKit Go.Proofs
theorem check_k1 (na : Option Addr) (nc : Nat) (va : Option Addr) (vc : Nat) (lv : Nat) (h1 : 1 ≤ lv) (h4 : lv ≤ 4) (names : List Bs) (vers : List To) (w : World) (hl : LineW w na 2 nc va 0 vc names vers) :
   Calls Tryz.prog 17 #[valLn ⟨1, na, 2, nc, lv, va, 0, vc, false, 0⟩] w (Ret (.int .i64 0) w) := by
 have HL := hid hl
 have hf := hl.g.2.1 1 (by decide)
 have hf1 := hf.1; have hf2 := hf.2.1; have hf3 := hf.2.2
 simp only [formV, formN, formR] at hf1 hf2 hf3
 have hb0 := cell_lt hf1
 simp only at hb0
 have HB0 := hid (belowA (belowA (Below.refl w.heap.size w) (.cells #[.int .i64 1, .slice na 2 nc, .int .i64 lv, .slice va 0 vc, .bool false, .int .i64 0] 28)) (.cells #[.string ⟨#[98, 101, 103, 105, 110]⟩, .int .i64 2, .int .i32 108] 76))
 have HX0 := hid ((Bx.new w #[.int .i64 1, .slice na 2 nc, .int .i64 lv, .slice va 0 vc, .bool false, .int .i64 0] 28).alloc (.cells #[.string ⟨#[98, 101, 103, 105, 110]⟩, .int .i64 2, .int .i32 108] 76))
 have HY0 : Hid (Bx ((w.alloc (.cells #[.int .i64 1, .slice na 2 nc, .int .i64 lv, .slice va 0 vc, .bool false, .int .i64 0] 28)).alloc (.cells #[.string ⟨#[98, 101, 103, 105, 110]⟩, .int .i64 2, .int .i32 108] 76)) (w.heap.size + 1) #[.string ⟨#[98, 101, 103, 105, 110]⟩, .int .i64 2, .int .i32 108]) := hid (Bx.new1 (by simp))
 have hlv : ((lv : Int) != 0) = true := by simp; omega
 clear hl hf
 go_enter Tryz.func17, Tryz.ntmps17
 go_wp2_with fail
 refine (most_any _ _).mono ?_
 rintro e w1 ⟨rfl, hb1⟩
 have hy1 := HX0.out.keep hb1; have hz1 := HY0.out.keep hb1
 have HX1 := hid hy1; have HY1 := hid hz1; have HB1 := hid (HB0.out.trans (hb1.mono HB0.out.size))
 have hcx1 := hy1.1; have hcy1 := hz1.1
 clear hb1 hy1 hz1
 simp only [mostR, Int.reduceEq, if_false]
 go_wp2_with fail
 refine (HL.out.below HB1.out).vers.mono ?_
 rintro e w2 ⟨rfl, hb2⟩
 have hy2 := HX1.out.keep hb2; have hz2 := HY1.out.keep hb2
 have HX2 := hid hy2; have HY2 := hid hz2; have HB2 := hid (HB1.out.trans (hb2.mono HB1.out.size))
 have hcx2 := hy2.1; have hcy2 := hz2.1
 clear hb2 hy2 hz2
 go_wp2_with fail
 refine (HL.out.below HB2.out).names.mono ?_
 rintro e w3 ⟨rfl, hb3⟩
 have hy3 := HX2.out.keep hb3; have hz3 := HY2.out.keep hb3
 have HX3 := hid hy3; have HY3 := hid hz3; have HB3 := hid (HB2.out.trans (hb3.mono HB2.out.size))
 have hcx3 := hy3.1; have hcy3 := hz3.1
 clear hb3 hy3 hz3
 go_wp2_with fail
 refine (level_yes lv h1 h4 _ (HL.out.below HB3.out).g).mono ?_
 rintro e w4 ⟨rfl, hb4⟩
 have hy4 := HX3.out.keep hb4; have hz4 := HY3.out.keep hb4
 have HX4 := hid hy4; have HY4 := hid hz4; have HB4 := hid (HB3.out.trans (hb4.mono HB3.out.size))
 have hcx4 := hy4.1; have hcy4 := hz4.1
 clear hb4 hy4 hz4
 go_wp2_with fail
 go_ret
 exact ⟨rfl, HB4.out⟩
end Yd
