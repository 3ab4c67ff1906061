import Derived.Test.YthdpangjphphjaaGreatDoorRFffd
import Derived.Test.YthdpangjphphjaaGreatDoorProg
set_option maxRecDepth 200000
set_option maxHeartbeats 8000000
namespace Yd
open Go Go.RowKit Go.Proofs

@[reducible] def cellsTk (k a : Int) (t : Bs) (g : Bool) : Array Value := #[.int .i64 k, .int .i64 a, .string ⟨t.toArray⟩, .bool g]
theorem begins_head {b : UInt8} {t : Bs} (h : beginsS (b :: t) = true) : b.toNat ≠ 32 ∧ b.toNat ≠ 9 ∧ b.toNat ≠ 10 ∧ b.toNat ≠ 35 ∧ b.toNat ≠ 46 ∧ b.toNat ≠ 45 ∧ ¬ (48 ≤ b.toNat ∧ b.toNat ≤ 57) := by
 rcases Nat.lt_or_ge b.toNat 128 with h1 | h1
 · unfold beginsS at h
   rw [dec_lo b t h1] at h
   simp only [letB, Bool.and_eq_true, Bool.or_eq_true, decide_eq_true_eq] at h
   have := h.2.2
   omega
 · omega
theorem begins_run {l : Bs} (h : beginsS l = true) : 1 ≤ runS l ∧ l ≠ [] := by
 unfold beginsS at h
 simp only [Bool.and_eq_true] at h
 obtain ⟨h1, h2, h3⟩ := h
 have h0 : l ≠ [] := by intro e; rw [e] at h1; simp at h1
 refine ⟨?_, h0⟩
 unfold runS
 rw [whileE_cons l eitB h0, if_pos (by simp [h2, eitB, h3])]
 have := dec_w l h0
 omega
def RetTk (k a : Int) (t : Bs) (nx : Nat) (er : Int) (w : World) (e : Ending) (w' : World) : Prop := ∃ g : Bool, e = .returned (.tuple #[.agg (cellsTk k a t g), .int .i64 nx, .int .i64 er]) ∧ Below w.heap.size w w'
theorem skip_head {b : UInt8} {t : Bs} (h : blB b = false) (h35 : b.toNat ≠ 35) : skN (b :: t) = 0 ∧ skO (b :: t) = true := by
 have e : skipS (b :: t) = b :: t := by unfold skipS; rw [List.dropWhile_cons, h]; rfl
 have e2 : (b :: t).takeWhile blB = [] := by rw [List.takeWhile_cons, h]; rfl
 have h' : ¬ b = 35 := fun e => h35 (by rw [e]; rfl)
 unfold skO skN
 rw [e, e2]
 simp [h']
theorem blB_no {b : UInt8} (h1 : b.toNat ≠ 32) (h2 : b.toNat ≠ 9) : blB b = false := by
 rw [← blR_lo]; unfold blR
 rw [beq_eq_false_iff_ne.2 (by omega), beq_eq_false_iff_ne.2 (by omega)]; rfl
theorem longS_le (u : Bs) : longS u ≤ 24 := by
 unfold longS
 cases h : (List.filter (fun i => decide (i ≤ 24)) (posFrom ⟨u.toArray⟩ u.length 0)).getLast? with
 | none => simp
 | some x =>
   have := List.mem_of_getLast? h
   simpa using (List.mem_filter.1 this).2
theorem lx_word (s : Bs) (p : Nat) (l : Bs) (hd : s.drop p = l) (hp : p ≤ s.length) (hlim : s.length ≤ 1000000) (hb : beginsS l = true) (w : World) (hT : Lib.Utf8Tabs 2 3 w) :
   Calls Tryz.prog 26 #[.string ⟨s.toArray⟩, .int .i64 p] w (fun e w' => if 24 < runS l then RetTk 0 0 [] (p + longS (l.take (runS l))) 120 w e w' else RetTk 1 p (l.take (runS l)) (p + runS l) 0 w e w') := by
 obtain ⟨hr1, hne⟩ := begins_run hb
 obtain ⟨b, t, rfl⟩ : ∃ b t, l = b :: t := by cases l with
   | nil => exact absurd rfl hne
   | cons b t => exact ⟨b, t, rfl⟩
 obtain ⟨n32, n9, n10, n35, n46, n45, nnum⟩ := begins_head hb
 have hll : p + (b :: t).length = s.length := by rw [← hd, List.length_drop]; omega
 have HSK := hid (skip_head (t := t) (blB_no n32 n9) n35)
 have HS := fun W (hb : Below w.heap.size w W) => hid (lx_skip s p (b :: t) hd hp hlim W (Utf8Tabs_below hT hb))
 have hsl := fun W => run_sl Tryz.underlying9 s p hp W
 rw [hd] at hsl
 obtain ⟨n, hn⟩ : ∃ n, n = runS (b :: t) := ⟨_, rfl⟩
 have HW := fun W (hb : Below w.heap.size w W) => hid (while_any ⟨(b :: t).toArray⟩ 87 #[] call190 eitB W (fun r W' _ => either_any r W') (Utf8Tabs_below hT hb))
 rw [show whileE ⟨(b :: t).toArray⟩ eitB = n from hn.symm] at HW
 have hnl : n ≤ (b :: t).length := by rw [hn]; exact whileE_le _ _ _ (Nat.le_refl _)
 have hsh := fun W => run_slh Tryz.underlying9 (b :: t) n hnl W
 have hi0 : ∀ W, (Instr.index 9 (.string ⟨(b :: t).toArray⟩) (.int .i64 0)).run Tryz.prog W = .ok (.int .u8 (b.toNat : Int)) W := fun W => run_ix Tryz.underlying9 (b :: t) 0 b rfl W
 have hz := bsz s; have hz1 := bsz (b :: t)
 rw [← hn] at hr1 ⊢
 have e10 : ((b.toNat : Int) == 10) = false := beq_eq_false_iff_ne.2 (by omega)
 have e46 : ((b.toNat : Int) == 46) = false := beq_eq_false_iff_ne.2 (by omega)
 have e45 : ((b.toNat : Int) == 45) = false := beq_eq_false_iff_ne.2 (by omega)
 have e0 : ((n : Int) == 0) = false := beq_eq_false_iff_ne.2 (by omega)
 have hw32 : wrap32 (b.toNat : Int) = (b.toNat : Int) := IntWalk.wrap32_in _ (by have := b.toNat_lt; omega)
 have hnum : numB (b.toNat : Int) = false := by unfold numB; simp; omega
 have hempty : ((b :: t) == ([] : Bs)) = false := rfl
 have HT := hid hT; have HD := hid hd; have HN := hid hn; have HLL := hid hll
 clear hT hd hn hne hb n32 n9 n10 n35 n46 n45 nnum hll
 by_cases h24 : 24 < n
 · have hdn : decide ((24 : Int) < (n : Int)) = true := decide_eq_true (by omega)
   simp only [if_pos h24]
   obtain ⟨q, hq⟩ : ∃ q, q = p + longS ((b :: t).take n) := ⟨_, rfl⟩
   have hl24 := longS_le ((b :: t).take n)
   have hqi : (p : Int) + (longS ((b :: t).take n) : Int) = (q : Int) := by omega
   have hqb : q ≤ 2000000 := by omega
   rw [← hq]
   clear hq hl24 h24
   by_cases hp0 : p = 0
   · have hdp : decide ((0 : Int) < (p : Int)) = false := decide_eq_false (by omega)
     have hdp2 : decide (0 < p) = false := decide_eq_false (by omega)
     clear hp0
     go_enter Tryz.func26, Tryz.ntmps26
     go_wp2_with fail
     refine (HS _ (belowA (Below.refl _ _) _)).out.mono ?_
     rintro e w1 ⟨rfl, hb1⟩
     have HB1 := hid ((belowA (Below.refl w.heap.size w) (.cells (cellsTk 0 0 [] false) 56)).trans (hb1.mono (by simp)))
     have HX1 := hid ((Bx.new w (cellsTk 0 0 [] false) 56).keep hb1)
     clear hb1
     rw [HSK.out.1, HSK.out.2, Nat.add_zero]
     go_wp2_with fail
     refine (number_any _ _).mono ?_
     rintro e w3 ⟨rfl, hb3⟩
     rw [hnum]
     have HB3 := hid ((belowA HB1.out (.cells (cellsTk 0 p [] false) 56)).trans (hb3.mono (by have := HB1.out.size; simp; omega)))
     have HX3 := hid ((HX1.out.alloc (.cells (cellsTk 0 p [] false) 56)).keep hb3); have HY3 := hid ((Bx.new w1 (cellsTk 0 p [] false) 56).keep hb3)
     have HZ3 := hid (show w.heap.size < w1.heap.size from HX1.out.2.2)
     clear hb3
     go_wp2_with fail
     refine (HW _ HB3.out).out.mono ?_
     rintro e w4 ⟨rfl, hb4⟩
     have HB4 := hid (HB3.out.trans (hb4.mono HB3.out.size)); have HX4 := hid (HX3.out.keep hb4); have HY4 := hid (HY3.out.keep hb4)
     clear hb4 HB3 HX3 HY3
     obtain ⟨tb, htb⟩ : ∃ tb, tb = w1.heap.size := ⟨_, rfl⟩
     rw [← htb] at HY4 HZ3 ⊢
     clear htb
     go_wp2_with fail
     refine (lx_long _ (by rw [List.length_take]; have := HLL.out; omega) _).mono ?_
     rintro e w5 ⟨rfl, hb5⟩
     have hx5 := HX4.out.keep hb5; have HB5 := hid (HB4.out.trans (hb5.mono HB4.out.size))
     have hc5 := hx5.1; have hf5 := hx5.2.1
     clear hx5 hb5
     go_wp2_with fail
     refine bodyPost_ret (v := .tuple #[.agg (cellsTk 0 0 [] false), .int .i64 (q : Int), .int .i64 120]) (by simp [results, Tryz.results26, go_sem, hc5]) rfl ⟨false, rfl, ?_⟩
     exact (((HB5.out.setCell (p := ⟨w.heap.size, 0, none⟩) (Nat.le_refl _) _).setCell (p := ⟨w.heap.size, 1, none⟩) (Nat.le_refl _) _).setCell (p := ⟨w.heap.size, 2, none⟩) (Nat.le_refl _) _).setCell (p := ⟨w.heap.size, 3, none⟩) (Nat.le_refl _) _
   · have hdp : decide ((0 : Int) < (p : Int)) = true := decide_eq_true (by omega)
     have hdp2 : decide (0 < p) = true := decide_eq_true (by omega)
     obtain ⟨b0, hb0⟩ : ∃ b0, s[p - 1]? = some b0 := ⟨_, List.getElem?_eq_getElem (by omega)⟩
     have hi1 := fun W => run_ix Tryz.underlying9 s (p - 1) b0 hb0 W
     rw [show ((p - 1 : Nat) : Int) = (p : Int) - 1 by omega] at hi1
     have hw32b : wrap32 (b0.toNat : Int) = (b0.toNat : Int) := IntWalk.wrap32_in _ (by have := b0.toNat_lt; omega)
     clear hb0 hp0
     cases hbl : blR (b0.toNat : Int)
     · cases hb10 : ((b0.toNat : Int) == 10)
       · have hb10' : ((b0.toNat : Int) != 10) = true := by rw [bne, hb10]; rfl
         go_enter Tryz.func26, Tryz.ntmps26
         go_wp2_with fail
         refine (HS _ (belowA (Below.refl _ _) _)).out.mono ?_
         rintro e w1 ⟨rfl, hb1⟩
         have HB1 := hid ((belowA (Below.refl w.heap.size w) (.cells (cellsTk 0 0 [] false) 56)).trans (hb1.mono (by simp)))
         have HX1 := hid ((Bx.new w (cellsTk 0 0 [] false) 56).keep hb1)
         clear hb1
         rw [HSK.out.1, HSK.out.2, Nat.add_zero]
         go_wp2_with fail
         refine (lx_blank _ _).mono ?_
         rintro e w2 ⟨rfl, hb2⟩
         rw [hbl]
         have HB2 := hid (HB1.out.trans (hb2.mono HB1.out.size)); have HX2 := hid (HX1.out.keep hb2)
         clear hb2
         go_wp2_with fail
         refine (number_any _ _).mono ?_
         rintro e w3 ⟨rfl, hb3⟩
         rw [hnum]
         have HB3 := hid ((belowA HB2.out (.cells (cellsTk 0 p [] true) 56)).trans (hb3.mono (by have := HB2.out.size; simp; omega)))
         have HX3 := hid ((HX2.out.alloc (.cells (cellsTk 0 p [] true) 56)).keep hb3); have HY3 := hid ((Bx.new w2 (cellsTk 0 p [] true) 56).keep hb3)
         have HZ3 := hid (show w.heap.size < w2.heap.size from HX2.out.2.2)
         clear hb3
         go_wp2_with fail
         refine (HW _ HB3.out).out.mono ?_
         rintro e w4 ⟨rfl, hb4⟩
         have HB4 := hid (HB3.out.trans (hb4.mono HB3.out.size)); have HX4 := hid (HX3.out.keep hb4); have HY4 := hid (HY3.out.keep hb4)
         clear hb4 HB3 HX3 HY3
         obtain ⟨tb, htb⟩ : ∃ tb, tb = w2.heap.size := ⟨_, rfl⟩
         rw [← htb] at HY4 HZ3 ⊢
         clear htb
         go_wp2_with fail
         refine (lx_long _ (by rw [List.length_take]; have := HLL.out; omega) _).mono ?_
         rintro e w5 ⟨rfl, hb5⟩
         have hx5 := HX4.out.keep hb5; have HB5 := hid (HB4.out.trans (hb5.mono HB4.out.size))
         have hc5 := hx5.1; have hf5 := hx5.2.1
         clear hx5 hb5
         go_wp2_with fail
         refine bodyPost_ret (v := .tuple #[.agg (cellsTk 0 0 [] false), .int .i64 (q : Int), .int .i64 120]) (by simp [results, Tryz.results26, go_sem, hc5]) rfl ⟨false, rfl, ?_⟩
         exact (((HB5.out.setCell (p := ⟨w.heap.size, 0, none⟩) (Nat.le_refl _) _).setCell (p := ⟨w.heap.size, 1, none⟩) (Nat.le_refl _) _).setCell (p := ⟨w.heap.size, 2, none⟩) (Nat.le_refl _) _).setCell (p := ⟨w.heap.size, 3, none⟩) (Nat.le_refl _) _
       · have hb10' : ((b0.toNat : Int) != 10) = false := by rw [bne, hb10]; rfl
         go_enter Tryz.func26, Tryz.ntmps26
         go_wp2_with fail
         refine (HS _ (belowA (Below.refl _ _) _)).out.mono ?_
         rintro e w1 ⟨rfl, hb1⟩
         have HB1 := hid ((belowA (Below.refl w.heap.size w) (.cells (cellsTk 0 0 [] false) 56)).trans (hb1.mono (by simp)))
         have HX1 := hid ((Bx.new w (cellsTk 0 0 [] false) 56).keep hb1)
         clear hb1
         rw [HSK.out.1, HSK.out.2, Nat.add_zero]
         go_wp2_with fail
         refine (lx_blank _ _).mono ?_
         rintro e w2 ⟨rfl, hb2⟩
         rw [hbl]
         have HB2 := hid (HB1.out.trans (hb2.mono HB1.out.size)); have HX2 := hid (HX1.out.keep hb2)
         clear hb2
         go_wp2_with fail
         refine (number_any _ _).mono ?_
         rintro e w3 ⟨rfl, hb3⟩
         rw [hnum]
         have HB3 := hid ((belowA HB2.out (.cells (cellsTk 0 p [] false) 56)).trans (hb3.mono (by have := HB2.out.size; simp; omega)))
         have HX3 := hid ((HX2.out.alloc (.cells (cellsTk 0 p [] false) 56)).keep hb3); have HY3 := hid ((Bx.new w2 (cellsTk 0 p [] false) 56).keep hb3)
         have HZ3 := hid (show w.heap.size < w2.heap.size from HX2.out.2.2)
         clear hb3
         go_wp2_with fail
         refine (HW _ HB3.out).out.mono ?_
         rintro e w4 ⟨rfl, hb4⟩
         have HB4 := hid (HB3.out.trans (hb4.mono HB3.out.size)); have HX4 := hid (HX3.out.keep hb4); have HY4 := hid (HY3.out.keep hb4)
         clear hb4 HB3 HX3 HY3
         obtain ⟨tb, htb⟩ : ∃ tb, tb = w2.heap.size := ⟨_, rfl⟩
         rw [← htb] at HY4 HZ3 ⊢
         clear htb
         go_wp2_with fail
         refine (lx_long _ (by rw [List.length_take]; have := HLL.out; omega) _).mono ?_
         rintro e w5 ⟨rfl, hb5⟩
         have hx5 := HX4.out.keep hb5; have HB5 := hid (HB4.out.trans (hb5.mono HB4.out.size))
         have hc5 := hx5.1; have hf5 := hx5.2.1
         clear hx5 hb5
         go_wp2_with fail
         refine bodyPost_ret (v := .tuple #[.agg (cellsTk 0 0 [] false), .int .i64 (q : Int), .int .i64 120]) (by simp [results, Tryz.results26, go_sem, hc5]) rfl ⟨false, rfl, ?_⟩
         exact (((HB5.out.setCell (p := ⟨w.heap.size, 0, none⟩) (Nat.le_refl _) _).setCell (p := ⟨w.heap.size, 1, none⟩) (Nat.le_refl _) _).setCell (p := ⟨w.heap.size, 2, none⟩) (Nat.le_refl _) _).setCell (p := ⟨w.heap.size, 3, none⟩) (Nat.le_refl _) _
     · skip
       go_enter Tryz.func26, Tryz.ntmps26
       go_wp2_with fail
       refine (HS _ (belowA (Below.refl _ _) _)).out.mono ?_
       rintro e w1 ⟨rfl, hb1⟩
       have HB1 := hid ((belowA (Below.refl w.heap.size w) (.cells (cellsTk 0 0 [] false) 56)).trans (hb1.mono (by simp)))
       have HX1 := hid ((Bx.new w (cellsTk 0 0 [] false) 56).keep hb1)
       clear hb1
       rw [HSK.out.1, HSK.out.2, Nat.add_zero]
       go_wp2_with fail
       refine (lx_blank _ _).mono ?_
       rintro e w2 ⟨rfl, hb2⟩
       rw [hbl]
       have HB2 := hid (HB1.out.trans (hb2.mono HB1.out.size)); have HX2 := hid (HX1.out.keep hb2)
       clear hb2
       go_wp2_with fail
       refine (number_any _ _).mono ?_
       rintro e w3 ⟨rfl, hb3⟩
       rw [hnum]
       have HB3 := hid ((belowA HB2.out (.cells (cellsTk 0 p [] false) 56)).trans (hb3.mono (by have := HB2.out.size; simp; omega)))
       have HX3 := hid ((HX2.out.alloc (.cells (cellsTk 0 p [] false) 56)).keep hb3); have HY3 := hid ((Bx.new w2 (cellsTk 0 p [] false) 56).keep hb3)
       have HZ3 := hid (show w.heap.size < w2.heap.size from HX2.out.2.2)
       clear hb3
       go_wp2_with fail
       refine (HW _ HB3.out).out.mono ?_
       rintro e w4 ⟨rfl, hb4⟩
       have HB4 := hid (HB3.out.trans (hb4.mono HB3.out.size)); have HX4 := hid (HX3.out.keep hb4); have HY4 := hid (HY3.out.keep hb4)
       clear hb4 HB3 HX3 HY3
       obtain ⟨tb, htb⟩ : ∃ tb, tb = w2.heap.size := ⟨_, rfl⟩
       rw [← htb] at HY4 HZ3 ⊢
       clear htb
       go_wp2_with fail
       refine (lx_long _ (by rw [List.length_take]; have := HLL.out; omega) _).mono ?_
       rintro e w5 ⟨rfl, hb5⟩
       have hx5 := HX4.out.keep hb5; have HB5 := hid (HB4.out.trans (hb5.mono HB4.out.size))
       have hc5 := hx5.1; have hf5 := hx5.2.1
       clear hx5 hb5
       go_wp2_with fail
       refine bodyPost_ret (v := .tuple #[.agg (cellsTk 0 0 [] false), .int .i64 (q : Int), .int .i64 120]) (by simp [results, Tryz.results26, go_sem, hc5]) rfl ⟨false, rfl, ?_⟩
       exact (((HB5.out.setCell (p := ⟨w.heap.size, 0, none⟩) (Nat.le_refl _) _).setCell (p := ⟨w.heap.size, 1, none⟩) (Nat.le_refl _) _).setCell (p := ⟨w.heap.size, 2, none⟩) (Nat.le_refl _) _).setCell (p := ⟨w.heap.size, 3, none⟩) (Nat.le_refl _) _
 · have hdn : decide ((24 : Int) < (n : Int)) = false := decide_eq_false (by omega)
   simp only [if_neg h24]
   obtain ⟨q, hq⟩ : ∃ q, q = p + n := ⟨_, rfl⟩
   have hqi : (p : Int) + (n : Int) = (q : Int) := by omega
   have hqb : q ≤ 2000000 := by omega
   have hzn : ByteArray.size ⟨((b :: t).take n).toArray⟩ = n := by rw [bsz, List.length_take]; omega
   rw [← hq]
   clear hq h24
   by_cases hp0 : p = 0
   · have hdp : decide ((0 : Int) < (p : Int)) = false := decide_eq_false (by omega)
     have hdp2 : decide (0 < p) = false := decide_eq_false (by omega)
     clear hp0
     go_enter Tryz.func26, Tryz.ntmps26
     go_wp2_with fail
     refine (HS _ (belowA (Below.refl _ _) _)).out.mono ?_
     rintro e w1 ⟨rfl, hb1⟩
     have HB1 := hid ((belowA (Below.refl w.heap.size w) (.cells (cellsTk 0 0 [] false) 56)).trans (hb1.mono (by simp)))
     have HX1 := hid ((Bx.new w (cellsTk 0 0 [] false) 56).keep hb1)
     clear hb1
     rw [HSK.out.1, HSK.out.2, Nat.add_zero]
     go_wp2_with fail
     refine (number_any _ _).mono ?_
     rintro e w3 ⟨rfl, hb3⟩
     rw [hnum]
     have HB3 := hid ((belowA HB1.out (.cells (cellsTk 0 p [] false) 56)).trans (hb3.mono (by have := HB1.out.size; simp; omega)))
     have HX3 := hid ((HX1.out.alloc (.cells (cellsTk 0 p [] false) 56)).keep hb3); have HY3 := hid ((Bx.new w1 (cellsTk 0 p [] false) 56).keep hb3)
     have HZ3 := hid (show w.heap.size < w1.heap.size from HX1.out.2.2)
     clear hb3
     go_wp2_with fail
     refine (HW _ HB3.out).out.mono ?_
     rintro e w4 ⟨rfl, hb4⟩
     have HB4 := hid (HB3.out.trans (hb4.mono HB3.out.size)); have HX4 := hid (HX3.out.keep hb4); have HY4 := hid (HY3.out.keep hb4)
     clear hb4 HB3 HX3 HY3
     obtain ⟨tb, htb⟩ : ∃ tb, tb = w1.heap.size := ⟨_, rfl⟩
     rw [← htb] at HY4 HZ3 ⊢
     clear htb
     have hcy := HY4.out.1; have hfy := HY4.out.2.1
     go_wp2_with fail
     refine wp_region_ordC 99 [(0, 0), (1, 0), (2, 0), (3, 0), (4, 2), (5, 0), (6, 2)] (fun _ => True) (fun _ => True) (by kernel_rfl) (by kernel_rfl) (trivial) (trivial) ?_
     repeat ((first | refine ordC_skip rfl rfl ?_ | refine ordC_skip1 rfl rfl ?_ | ((first | refine ordC_q rfl rfl ?_ | refine ordC_p rfl rfl ?_); apply Exists.intro; refine ⟨fun wS hS => ?_, ?_⟩; (go_simp; try with_reducible rfl))); simp only [Act.put, List.setIfInBounds_toArray, List.set_cons_zero, List.set_cons_succ])
     refine ordC_l rfl rfl (fun K hK => ?_)
     go_simp
     refine hK _ _ ⟨trivial, trivial⟩ ?_
     clear hK K
     repeat ((first | refine ordC_skip rfl rfl ?_ | refine ordC_skip1 rfl rfl ?_ | ((first | refine ordC_q rfl rfl ?_ | refine ordC_p rfl rfl ?_); apply Exists.intro; refine ⟨fun wS hS => ?_, ?_⟩; (go_simp; try with_reducible rfl))); simp only [Act.put, List.setIfInBounds_toArray, List.set_cons_zero, List.set_cons_succ])
     refine ordC_l rfl rfl (fun K hK => ?_)
     go_simp
     refine hK _ _ ⟨trivial, trivial⟩ ?_
     clear hK K
     refine ordC_nil ?_
     have HY5 := hid (((HY4.out.setC 0 (by simp) (.int .i64 1)).setC 2 (by simp) (.string ⟨((b :: t).take n).toArray⟩)).drew)
     have HX5 := hid (((HX4.out.setOther tb 0 (.int .i64 1) (by have := HZ3.out; omega)).setOther tb 2 (.string ⟨((b :: t).take n).toArray⟩) (by have := HZ3.out; omega)).drew)
     have HB5 := hid (((HB4.out.setCell (p := ⟨tb, 0, none⟩) (by have := HZ3.out; show _ ≤ tb; omega) (.int .i64 1)).setCell (p := ⟨tb, 2, none⟩) (by have := HZ3.out; show _ ≤ tb; omega) (.string ⟨((b :: t).take n).toArray⟩)).drew)
     generalize ((w4.setCell ⟨tb, 0, none⟩ (.int .i64 1)).setCell ⟨tb, 2, none⟩ (.string ⟨((b :: t).take n).toArray⟩)).drew = Z at HY5 HX5 HB5 ⊢
     clear hcy hfy HX4 HY4 HB4
     have hcz := HX5.out.1; have hfz := HX5.out.2.1
     go_wp2_with fail
     refine wp_region_ordC 99 [(0, 0), (1, 0), (2, 0), (3, 0), (4, 0), (5, 0), (6, 2), (7, 0), (8, 0)] (fun _ => True) (fun W' => Bx W' tb (cellsTk 1 p ((b :: t).take n) false)) (by kernel_rfl) (by kernel_rfl) (trivial) (HY5.out.drew) ?_
     repeat ((first | refine ordC_skip rfl rfl ?_ | refine ordC_skip1 rfl rfl ?_ | ((first | refine ordC_q rfl rfl ?_ | refine ordC_p rfl rfl ?_); apply Exists.intro; refine ⟨fun wS hS => ?_, ?_⟩; (go_simp; try with_reducible rfl))); simp only [Act.put, List.setIfInBounds_toArray, List.set_cons_zero, List.set_cons_succ])
     refine ordC_l rfl rfl (fun K hK => ?_)
     go_simp
     refine hK _ _ ⟨trivial, (((HY5.out.drew.setOther w.heap.size 0 _ (by have := HZ3.out; omega)).setOther w.heap.size 1 _ (by have := HZ3.out; omega)).setOther w.heap.size 2 _ (by have := HZ3.out; omega)).setOther w.heap.size 3 _ (by have := HZ3.out; omega)⟩ ?_
     clear hK K
     repeat ((first | refine ordC_skip rfl rfl ?_ | refine ordC_skip1 rfl rfl ?_ | ((first | refine ordC_q rfl rfl ?_ | refine ordC_p rfl rfl ?_); apply Exists.intro; refine ⟨fun wS hS => ?_, ?_⟩; (go_simp; try with_reducible rfl))); simp only [Act.put, List.setIfInBounds_toArray, List.set_cons_zero, List.set_cons_succ])
     refine ordC_nil ?_
     go_wp2_with fail
     have hwq : IntKind.i64.wrap (q : Int) = (q : Int) := Go.IntWalk.i64_in (q : Int) (by omega)
     refine bodyPost_ret (v := .tuple #[.agg (cellsTk 1 p ((b :: t).take n) false), .int .i64 (q : Int), .int .i64 0]) (by simp [results, Tryz.results26, go_sem, hcz, hwq]) rfl ⟨false, rfl, ?_⟩
     exact ((((HB5.out.drew).setCell (p := ⟨w.heap.size, 0, none⟩) (Nat.le_refl _) _).setCell (p := ⟨w.heap.size, 1, none⟩) (Nat.le_refl _) _).setCell (p := ⟨w.heap.size, 2, none⟩) (Nat.le_refl _) _).setCell (p := ⟨w.heap.size, 3, none⟩) (Nat.le_refl _) _
   · have hdp : decide ((0 : Int) < (p : Int)) = true := decide_eq_true (by omega)
     have hdp2 : decide (0 < p) = true := decide_eq_true (by omega)
     obtain ⟨b0, hb0⟩ : ∃ b0, s[p - 1]? = some b0 := ⟨_, List.getElem?_eq_getElem (by omega)⟩
     have hi1 := fun W => run_ix Tryz.underlying9 s (p - 1) b0 hb0 W
     rw [show ((p - 1 : Nat) : Int) = (p : Int) - 1 by omega] at hi1
     have hw32b : wrap32 (b0.toNat : Int) = (b0.toNat : Int) := IntWalk.wrap32_in _ (by have := b0.toNat_lt; omega)
     clear hb0 hp0
     cases hbl : blR (b0.toNat : Int)
     · cases hb10 : ((b0.toNat : Int) == 10)
       · have hb10' : ((b0.toNat : Int) != 10) = true := by rw [bne, hb10]; rfl
         go_enter Tryz.func26, Tryz.ntmps26
         go_wp2_with fail
         refine (HS _ (belowA (Below.refl _ _) _)).out.mono ?_
         rintro e w1 ⟨rfl, hb1⟩
         have HB1 := hid ((belowA (Below.refl w.heap.size w) (.cells (cellsTk 0 0 [] false) 56)).trans (hb1.mono (by simp)))
         have HX1 := hid ((Bx.new w (cellsTk 0 0 [] false) 56).keep hb1)
         clear hb1
         rw [HSK.out.1, HSK.out.2, Nat.add_zero]
         go_wp2_with fail
         refine (lx_blank _ _).mono ?_
         rintro e w2 ⟨rfl, hb2⟩
         rw [hbl]
         have HB2 := hid (HB1.out.trans (hb2.mono HB1.out.size)); have HX2 := hid (HX1.out.keep hb2)
         clear hb2
         go_wp2_with fail
         refine (number_any _ _).mono ?_
         rintro e w3 ⟨rfl, hb3⟩
         rw [hnum]
         have HB3 := hid ((belowA HB2.out (.cells (cellsTk 0 p [] true) 56)).trans (hb3.mono (by have := HB2.out.size; simp; omega)))
         have HX3 := hid ((HX2.out.alloc (.cells (cellsTk 0 p [] true) 56)).keep hb3); have HY3 := hid ((Bx.new w2 (cellsTk 0 p [] true) 56).keep hb3)
         have HZ3 := hid (show w.heap.size < w2.heap.size from HX2.out.2.2)
         clear hb3
         go_wp2_with fail
         refine (HW _ HB3.out).out.mono ?_
         rintro e w4 ⟨rfl, hb4⟩
         have HB4 := hid (HB3.out.trans (hb4.mono HB3.out.size)); have HX4 := hid (HX3.out.keep hb4); have HY4 := hid (HY3.out.keep hb4)
         clear hb4 HB3 HX3 HY3
         obtain ⟨tb, htb⟩ : ∃ tb, tb = w2.heap.size := ⟨_, rfl⟩
         rw [← htb] at HY4 HZ3 ⊢
         clear htb
         have hcy := HY4.out.1; have hfy := HY4.out.2.1
         go_wp2_with fail
         refine wp_region_ordC 99 [(0, 0), (1, 0), (2, 0), (3, 0), (4, 2), (5, 0), (6, 2)] (fun _ => True) (fun _ => True) (by kernel_rfl) (by kernel_rfl) (trivial) (trivial) ?_
         repeat ((first | refine ordC_skip rfl rfl ?_ | refine ordC_skip1 rfl rfl ?_ | ((first | refine ordC_q rfl rfl ?_ | refine ordC_p rfl rfl ?_); apply Exists.intro; refine ⟨fun wS hS => ?_, ?_⟩; (go_simp; try with_reducible rfl))); simp only [Act.put, List.setIfInBounds_toArray, List.set_cons_zero, List.set_cons_succ])
         refine ordC_l rfl rfl (fun K hK => ?_)
         go_simp
         refine hK _ _ ⟨trivial, trivial⟩ ?_
         clear hK K
         repeat ((first | refine ordC_skip rfl rfl ?_ | refine ordC_skip1 rfl rfl ?_ | ((first | refine ordC_q rfl rfl ?_ | refine ordC_p rfl rfl ?_); apply Exists.intro; refine ⟨fun wS hS => ?_, ?_⟩; (go_simp; try with_reducible rfl))); simp only [Act.put, List.setIfInBounds_toArray, List.set_cons_zero, List.set_cons_succ])
         refine ordC_l rfl rfl (fun K hK => ?_)
         go_simp
         refine hK _ _ ⟨trivial, trivial⟩ ?_
         clear hK K
         refine ordC_nil ?_
         have HY5 := hid (((HY4.out.setC 0 (by simp) (.int .i64 1)).setC 2 (by simp) (.string ⟨((b :: t).take n).toArray⟩)).drew)
         have HX5 := hid (((HX4.out.setOther tb 0 (.int .i64 1) (by have := HZ3.out; omega)).setOther tb 2 (.string ⟨((b :: t).take n).toArray⟩) (by have := HZ3.out; omega)).drew)
         have HB5 := hid (((HB4.out.setCell (p := ⟨tb, 0, none⟩) (by have := HZ3.out; show _ ≤ tb; omega) (.int .i64 1)).setCell (p := ⟨tb, 2, none⟩) (by have := HZ3.out; show _ ≤ tb; omega) (.string ⟨((b :: t).take n).toArray⟩)).drew)
         generalize ((w4.setCell ⟨tb, 0, none⟩ (.int .i64 1)).setCell ⟨tb, 2, none⟩ (.string ⟨((b :: t).take n).toArray⟩)).drew = Z at HY5 HX5 HB5 ⊢
         clear hcy hfy HX4 HY4 HB4
         have hcz := HX5.out.1; have hfz := HX5.out.2.1
         go_wp2_with fail
         refine wp_region_ordC 99 [(0, 0), (1, 0), (2, 0), (3, 0), (4, 0), (5, 0), (6, 2), (7, 0), (8, 0)] (fun _ => True) (fun W' => Bx W' tb (cellsTk 1 p ((b :: t).take n) true)) (by kernel_rfl) (by kernel_rfl) (trivial) (HY5.out.drew) ?_
         repeat ((first | refine ordC_skip rfl rfl ?_ | refine ordC_skip1 rfl rfl ?_ | ((first | refine ordC_q rfl rfl ?_ | refine ordC_p rfl rfl ?_); apply Exists.intro; refine ⟨fun wS hS => ?_, ?_⟩; (go_simp; try with_reducible rfl))); simp only [Act.put, List.setIfInBounds_toArray, List.set_cons_zero, List.set_cons_succ])
         refine ordC_l rfl rfl (fun K hK => ?_)
         go_simp
         refine hK _ _ ⟨trivial, (((HY5.out.drew.setOther w.heap.size 0 _ (by have := HZ3.out; omega)).setOther w.heap.size 1 _ (by have := HZ3.out; omega)).setOther w.heap.size 2 _ (by have := HZ3.out; omega)).setOther w.heap.size 3 _ (by have := HZ3.out; omega)⟩ ?_
         clear hK K
         repeat ((first | refine ordC_skip rfl rfl ?_ | refine ordC_skip1 rfl rfl ?_ | ((first | refine ordC_q rfl rfl ?_ | refine ordC_p rfl rfl ?_); apply Exists.intro; refine ⟨fun wS hS => ?_, ?_⟩; (go_simp; try with_reducible rfl))); simp only [Act.put, List.setIfInBounds_toArray, List.set_cons_zero, List.set_cons_succ])
         refine ordC_nil ?_
         go_wp2_with fail
         have hwq : IntKind.i64.wrap (q : Int) = (q : Int) := Go.IntWalk.i64_in (q : Int) (by omega)
         refine bodyPost_ret (v := .tuple #[.agg (cellsTk 1 p ((b :: t).take n) true), .int .i64 (q : Int), .int .i64 0]) (by simp [results, Tryz.results26, go_sem, hcz, hwq]) rfl ⟨true, rfl, ?_⟩
         exact ((((HB5.out.drew).setCell (p := ⟨w.heap.size, 0, none⟩) (Nat.le_refl _) _).setCell (p := ⟨w.heap.size, 1, none⟩) (Nat.le_refl _) _).setCell (p := ⟨w.heap.size, 2, none⟩) (Nat.le_refl _) _).setCell (p := ⟨w.heap.size, 3, none⟩) (Nat.le_refl _) _
       · have hb10' : ((b0.toNat : Int) != 10) = false := by rw [bne, hb10]; rfl
         go_enter Tryz.func26, Tryz.ntmps26
         go_wp2_with fail
         refine (HS _ (belowA (Below.refl _ _) _)).out.mono ?_
         rintro e w1 ⟨rfl, hb1⟩
         have HB1 := hid ((belowA (Below.refl w.heap.size w) (.cells (cellsTk 0 0 [] false) 56)).trans (hb1.mono (by simp)))
         have HX1 := hid ((Bx.new w (cellsTk 0 0 [] false) 56).keep hb1)
         clear hb1
         rw [HSK.out.1, HSK.out.2, Nat.add_zero]
         go_wp2_with fail
         refine (lx_blank _ _).mono ?_
         rintro e w2 ⟨rfl, hb2⟩
         rw [hbl]
         have HB2 := hid (HB1.out.trans (hb2.mono HB1.out.size)); have HX2 := hid (HX1.out.keep hb2)
         clear hb2
         go_wp2_with fail
         refine (number_any _ _).mono ?_
         rintro e w3 ⟨rfl, hb3⟩
         rw [hnum]
         have HB3 := hid ((belowA HB2.out (.cells (cellsTk 0 p [] false) 56)).trans (hb3.mono (by have := HB2.out.size; simp; omega)))
         have HX3 := hid ((HX2.out.alloc (.cells (cellsTk 0 p [] false) 56)).keep hb3); have HY3 := hid ((Bx.new w2 (cellsTk 0 p [] false) 56).keep hb3)
         have HZ3 := hid (show w.heap.size < w2.heap.size from HX2.out.2.2)
         clear hb3
         go_wp2_with fail
         refine (HW _ HB3.out).out.mono ?_
         rintro e w4 ⟨rfl, hb4⟩
         have HB4 := hid (HB3.out.trans (hb4.mono HB3.out.size)); have HX4 := hid (HX3.out.keep hb4); have HY4 := hid (HY3.out.keep hb4)
         clear hb4 HB3 HX3 HY3
         obtain ⟨tb, htb⟩ : ∃ tb, tb = w2.heap.size := ⟨_, rfl⟩
         rw [← htb] at HY4 HZ3 ⊢
         clear htb
         have hcy := HY4.out.1; have hfy := HY4.out.2.1
         go_wp2_with fail
         refine wp_region_ordC 99 [(0, 0), (1, 0), (2, 0), (3, 0), (4, 2), (5, 0), (6, 2)] (fun _ => True) (fun _ => True) (by kernel_rfl) (by kernel_rfl) (trivial) (trivial) ?_
         repeat ((first | refine ordC_skip rfl rfl ?_ | refine ordC_skip1 rfl rfl ?_ | ((first | refine ordC_q rfl rfl ?_ | refine ordC_p rfl rfl ?_); apply Exists.intro; refine ⟨fun wS hS => ?_, ?_⟩; (go_simp; try with_reducible rfl))); simp only [Act.put, List.setIfInBounds_toArray, List.set_cons_zero, List.set_cons_succ])
         refine ordC_l rfl rfl (fun K hK => ?_)
         go_simp
         refine hK _ _ ⟨trivial, trivial⟩ ?_
         clear hK K
         repeat ((first | refine ordC_skip rfl rfl ?_ | refine ordC_skip1 rfl rfl ?_ | ((first | refine ordC_q rfl rfl ?_ | refine ordC_p rfl rfl ?_); apply Exists.intro; refine ⟨fun wS hS => ?_, ?_⟩; (go_simp; try with_reducible rfl))); simp only [Act.put, List.setIfInBounds_toArray, List.set_cons_zero, List.set_cons_succ])
         refine ordC_l rfl rfl (fun K hK => ?_)
         go_simp
         refine hK _ _ ⟨trivial, trivial⟩ ?_
         clear hK K
         refine ordC_nil ?_
         have HY5 := hid (((HY4.out.setC 0 (by simp) (.int .i64 1)).setC 2 (by simp) (.string ⟨((b :: t).take n).toArray⟩)).drew)
         have HX5 := hid (((HX4.out.setOther tb 0 (.int .i64 1) (by have := HZ3.out; omega)).setOther tb 2 (.string ⟨((b :: t).take n).toArray⟩) (by have := HZ3.out; omega)).drew)
         have HB5 := hid (((HB4.out.setCell (p := ⟨tb, 0, none⟩) (by have := HZ3.out; show _ ≤ tb; omega) (.int .i64 1)).setCell (p := ⟨tb, 2, none⟩) (by have := HZ3.out; show _ ≤ tb; omega) (.string ⟨((b :: t).take n).toArray⟩)).drew)
         generalize ((w4.setCell ⟨tb, 0, none⟩ (.int .i64 1)).setCell ⟨tb, 2, none⟩ (.string ⟨((b :: t).take n).toArray⟩)).drew = Z at HY5 HX5 HB5 ⊢
         clear hcy hfy HX4 HY4 HB4
         have hcz := HX5.out.1; have hfz := HX5.out.2.1
         go_wp2_with fail
         refine wp_region_ordC 99 [(0, 0), (1, 0), (2, 0), (3, 0), (4, 0), (5, 0), (6, 2), (7, 0), (8, 0)] (fun _ => True) (fun W' => Bx W' tb (cellsTk 1 p ((b :: t).take n) false)) (by kernel_rfl) (by kernel_rfl) (trivial) (HY5.out.drew) ?_
         repeat ((first | refine ordC_skip rfl rfl ?_ | refine ordC_skip1 rfl rfl ?_ | ((first | refine ordC_q rfl rfl ?_ | refine ordC_p rfl rfl ?_); apply Exists.intro; refine ⟨fun wS hS => ?_, ?_⟩; (go_simp; try with_reducible rfl))); simp only [Act.put, List.setIfInBounds_toArray, List.set_cons_zero, List.set_cons_succ])
         refine ordC_l rfl rfl (fun K hK => ?_)
         go_simp
         refine hK _ _ ⟨trivial, (((HY5.out.drew.setOther w.heap.size 0 _ (by have := HZ3.out; omega)).setOther w.heap.size 1 _ (by have := HZ3.out; omega)).setOther w.heap.size 2 _ (by have := HZ3.out; omega)).setOther w.heap.size 3 _ (by have := HZ3.out; omega)⟩ ?_
         clear hK K
         repeat ((first | refine ordC_skip rfl rfl ?_ | refine ordC_skip1 rfl rfl ?_ | ((first | refine ordC_q rfl rfl ?_ | refine ordC_p rfl rfl ?_); apply Exists.intro; refine ⟨fun wS hS => ?_, ?_⟩; (go_simp; try with_reducible rfl))); simp only [Act.put, List.setIfInBounds_toArray, List.set_cons_zero, List.set_cons_succ])
         refine ordC_nil ?_
         go_wp2_with fail
         have hwq : IntKind.i64.wrap (q : Int) = (q : Int) := Go.IntWalk.i64_in (q : Int) (by omega)
         refine bodyPost_ret (v := .tuple #[.agg (cellsTk 1 p ((b :: t).take n) false), .int .i64 (q : Int), .int .i64 0]) (by simp [results, Tryz.results26, go_sem, hcz, hwq]) rfl ⟨false, rfl, ?_⟩
         exact ((((HB5.out.drew).setCell (p := ⟨w.heap.size, 0, none⟩) (Nat.le_refl _) _).setCell (p := ⟨w.heap.size, 1, none⟩) (Nat.le_refl _) _).setCell (p := ⟨w.heap.size, 2, none⟩) (Nat.le_refl _) _).setCell (p := ⟨w.heap.size, 3, none⟩) (Nat.le_refl _) _
     · skip
       go_enter Tryz.func26, Tryz.ntmps26
       go_wp2_with fail
       refine (HS _ (belowA (Below.refl _ _) _)).out.mono ?_
       rintro e w1 ⟨rfl, hb1⟩
       have HB1 := hid ((belowA (Below.refl w.heap.size w) (.cells (cellsTk 0 0 [] false) 56)).trans (hb1.mono (by simp)))
       have HX1 := hid ((Bx.new w (cellsTk 0 0 [] false) 56).keep hb1)
       clear hb1
       rw [HSK.out.1, HSK.out.2, Nat.add_zero]
       go_wp2_with fail
       refine (lx_blank _ _).mono ?_
       rintro e w2 ⟨rfl, hb2⟩
       rw [hbl]
       have HB2 := hid (HB1.out.trans (hb2.mono HB1.out.size)); have HX2 := hid (HX1.out.keep hb2)
       clear hb2
       go_wp2_with fail
       refine (number_any _ _).mono ?_
       rintro e w3 ⟨rfl, hb3⟩
       rw [hnum]
       have HB3 := hid ((belowA HB2.out (.cells (cellsTk 0 p [] false) 56)).trans (hb3.mono (by have := HB2.out.size; simp; omega)))
       have HX3 := hid ((HX2.out.alloc (.cells (cellsTk 0 p [] false) 56)).keep hb3); have HY3 := hid ((Bx.new w2 (cellsTk 0 p [] false) 56).keep hb3)
       have HZ3 := hid (show w.heap.size < w2.heap.size from HX2.out.2.2)
       clear hb3
       go_wp2_with fail
       refine (HW _ HB3.out).out.mono ?_
       rintro e w4 ⟨rfl, hb4⟩
       have HB4 := hid (HB3.out.trans (hb4.mono HB3.out.size)); have HX4 := hid (HX3.out.keep hb4); have HY4 := hid (HY3.out.keep hb4)
       clear hb4 HB3 HX3 HY3
       obtain ⟨tb, htb⟩ : ∃ tb, tb = w2.heap.size := ⟨_, rfl⟩
       rw [← htb] at HY4 HZ3 ⊢
       clear htb
       have hcy := HY4.out.1; have hfy := HY4.out.2.1
       go_wp2_with fail
       refine wp_region_ordC 99 [(0, 0), (1, 0), (2, 0), (3, 0), (4, 2), (5, 0), (6, 2)] (fun _ => True) (fun _ => True) (by kernel_rfl) (by kernel_rfl) (trivial) (trivial) ?_
       repeat ((first | refine ordC_skip rfl rfl ?_ | refine ordC_skip1 rfl rfl ?_ | ((first | refine ordC_q rfl rfl ?_ | refine ordC_p rfl rfl ?_); apply Exists.intro; refine ⟨fun wS hS => ?_, ?_⟩; (go_simp; try with_reducible rfl))); simp only [Act.put, List.setIfInBounds_toArray, List.set_cons_zero, List.set_cons_succ])
       refine ordC_l rfl rfl (fun K hK => ?_)
       go_simp
       refine hK _ _ ⟨trivial, trivial⟩ ?_
       clear hK K
       repeat ((first | refine ordC_skip rfl rfl ?_ | refine ordC_skip1 rfl rfl ?_ | ((first | refine ordC_q rfl rfl ?_ | refine ordC_p rfl rfl ?_); apply Exists.intro; refine ⟨fun wS hS => ?_, ?_⟩; (go_simp; try with_reducible rfl))); simp only [Act.put, List.setIfInBounds_toArray, List.set_cons_zero, List.set_cons_succ])
       refine ordC_l rfl rfl (fun K hK => ?_)
       go_simp
       refine hK _ _ ⟨trivial, trivial⟩ ?_
       clear hK K
       refine ordC_nil ?_
       have HY5 := hid (((HY4.out.setC 0 (by simp) (.int .i64 1)).setC 2 (by simp) (.string ⟨((b :: t).take n).toArray⟩)).drew)
       have HX5 := hid (((HX4.out.setOther tb 0 (.int .i64 1) (by have := HZ3.out; omega)).setOther tb 2 (.string ⟨((b :: t).take n).toArray⟩) (by have := HZ3.out; omega)).drew)
       have HB5 := hid (((HB4.out.setCell (p := ⟨tb, 0, none⟩) (by have := HZ3.out; show _ ≤ tb; omega) (.int .i64 1)).setCell (p := ⟨tb, 2, none⟩) (by have := HZ3.out; show _ ≤ tb; omega) (.string ⟨((b :: t).take n).toArray⟩)).drew)
       generalize ((w4.setCell ⟨tb, 0, none⟩ (.int .i64 1)).setCell ⟨tb, 2, none⟩ (.string ⟨((b :: t).take n).toArray⟩)).drew = Z at HY5 HX5 HB5 ⊢
       clear hcy hfy HX4 HY4 HB4
       have hcz := HX5.out.1; have hfz := HX5.out.2.1
       go_wp2_with fail
       refine wp_region_ordC 99 [(0, 0), (1, 0), (2, 0), (3, 0), (4, 0), (5, 0), (6, 2), (7, 0), (8, 0)] (fun _ => True) (fun W' => Bx W' tb (cellsTk 1 p ((b :: t).take n) false)) (by kernel_rfl) (by kernel_rfl) (trivial) (HY5.out.drew) ?_
       repeat ((first | refine ordC_skip rfl rfl ?_ | refine ordC_skip1 rfl rfl ?_ | ((first | refine ordC_q rfl rfl ?_ | refine ordC_p rfl rfl ?_); apply Exists.intro; refine ⟨fun wS hS => ?_, ?_⟩; (go_simp; try with_reducible rfl))); simp only [Act.put, List.setIfInBounds_toArray, List.set_cons_zero, List.set_cons_succ])
       refine ordC_l rfl rfl (fun K hK => ?_)
       go_simp
       refine hK _ _ ⟨trivial, (((HY5.out.drew.setOther w.heap.size 0 _ (by have := HZ3.out; omega)).setOther w.heap.size 1 _ (by have := HZ3.out; omega)).setOther w.heap.size 2 _ (by have := HZ3.out; omega)).setOther w.heap.size 3 _ (by have := HZ3.out; omega)⟩ ?_
       clear hK K
       repeat ((first | refine ordC_skip rfl rfl ?_ | refine ordC_skip1 rfl rfl ?_ | ((first | refine ordC_q rfl rfl ?_ | refine ordC_p rfl rfl ?_); apply Exists.intro; refine ⟨fun wS hS => ?_, ?_⟩; (go_simp; try with_reducible rfl))); simp only [Act.put, List.setIfInBounds_toArray, List.set_cons_zero, List.set_cons_succ])
       refine ordC_nil ?_
       go_wp2_with fail
       have hwq : IntKind.i64.wrap (q : Int) = (q : Int) := Go.IntWalk.i64_in (q : Int) (by omega)
       refine bodyPost_ret (v := .tuple #[.agg (cellsTk 1 p ((b :: t).take n) false), .int .i64 (q : Int), .int .i64 0]) (by simp [results, Tryz.results26, go_sem, hcz, hwq]) rfl ⟨false, rfl, ?_⟩
       exact ((((HB5.out.drew).setCell (p := ⟨w.heap.size, 0, none⟩) (Nat.le_refl _) _).setCell (p := ⟨w.heap.size, 1, none⟩) (Nat.le_refl _) _).setCell (p := ⟨w.heap.size, 2, none⟩) (Nat.le_refl _) _).setCell (p := ⟨w.heap.size, 3, none⟩) (Nat.le_refl _) _
end Yd
