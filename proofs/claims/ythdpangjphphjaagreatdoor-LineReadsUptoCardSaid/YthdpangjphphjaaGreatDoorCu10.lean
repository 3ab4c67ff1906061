import Derived.Test.YthdpangjphphjaaGreatDoorCu9
import Derived.Test.YthdpangjphphjaaGreatDoorLxN
import Derived.Test.YthdpangjphphjaaGreatDoorProg
set_option maxRecDepth 200000
set_option maxHeartbeats 8000000
namespace Yd
open Go Go.RowKit Go.Proofs

theorem glued_cases (s : Bs) (p : Nat) (hp : p ≤ s.length) : (decide ((0 : Int) < (p : Int)) = false ∧ decide (0 < p) = false) ∨
   (∃ b0 : UInt8, decide ((0 : Int) < (p : Int)) = true ∧ decide (0 < p) = true ∧ (∀ W : World, (Instr.index 9 (.string ⟨s.toArray⟩) (.int .i64 ((p : Int) - 1))).run Tryz.prog W = .ok (.int .u8 b0.toNat) W) ∧ ((b0.toNat : Int) == 32) = true ∧ ((b0.toNat : Int) != 32) = false) ∨
   (∃ b0 : UInt8, decide ((0 : Int) < (p : Int)) = true ∧ decide (0 < p) = true ∧ (∀ W : World, (Instr.index 9 (.string ⟨s.toArray⟩) (.int .i64 ((p : Int) - 1))).run Tryz.prog W = .ok (.int .u8 b0.toNat) W) ∧ ((b0.toNat : Int) == 32) = false ∧ ((b0.toNat : Int) != 32) = true ∧ ((b0.toNat : Int) == 9) = true ∧ ((b0.toNat : Int) != 9) = false) ∨
   (∃ b0 : UInt8, decide ((0 : Int) < (p : Int)) = true ∧ decide (0 < p) = true ∧ (∀ W : World, (Instr.index 9 (.string ⟨s.toArray⟩) (.int .i64 ((p : Int) - 1))).run Tryz.prog W = .ok (.int .u8 b0.toNat) W) ∧ ((b0.toNat : Int) == 32) = false ∧ ((b0.toNat : Int) != 32) = true ∧ ((b0.toNat : Int) == 9) = false ∧ ((b0.toNat : Int) != 9) = true ∧ ((b0.toNat : Int) == 10) = true ∧ ((b0.toNat : Int) != 10) = false) ∨
   (∃ b0 : UInt8, decide ((0 : Int) < (p : Int)) = true ∧ decide (0 < p) = true ∧ (∀ W : World, (Instr.index 9 (.string ⟨s.toArray⟩) (.int .i64 ((p : Int) - 1))).run Tryz.prog W = .ok (.int .u8 b0.toNat) W) ∧ ((b0.toNat : Int) == 32) = false ∧ ((b0.toNat : Int) != 32) = true ∧ ((b0.toNat : Int) == 9) = false ∧ ((b0.toNat : Int) != 9) = true ∧ ((b0.toNat : Int) == 10) = false ∧ ((b0.toNat : Int) != 10) = true) := by
 by_cases hp0 : p = 0
 · exact .inl ⟨decide_eq_false (by omega), decide_eq_false (by omega)⟩
 · right
   have hdp : decide ((0 : Int) < (p : Int)) = true := decide_eq_true (by omega)
   have hdp2 : decide (0 < p) = true := decide_eq_true (by omega)
   obtain ⟨b0, hb0⟩ : ∃ b0, s[p - 1]? = some b0 := ⟨_, List.getElem?_eq_getElem (by omega)⟩
   have hi1 := fun W => run_ix Tryz.underlying9 s (p - 1) b0 hb0 W
   rw [show ((p - 1 : Nat) : Int) = (p : Int) - 1 by omega] at hi1
   cases h32 : ((b0.toNat : Int) == 32)
   · have k32 : ((b0.toNat : Int) != 32) = true := by rw [bne, h32]; rfl
     cases h9 : ((b0.toNat : Int) == 9)
     · have k9 : ((b0.toNat : Int) != 9) = true := by rw [bne, h9]; rfl
       cases h10 : ((b0.toNat : Int) == 10)
       · exact .inr (.inr (.inr ⟨b0, hdp, hdp2, hi1, h32, k32, h9, k9, h10, by rw [bne, h10]; rfl⟩))
       · exact .inr (.inr (.inl ⟨b0, hdp, hdp2, hi1, h32, k32, h9, k9, h10, by rw [bne, h10]; rfl⟩))
     · exact .inr (.inl ⟨b0, hdp, hdp2, hi1, h32, k32, h9, by rw [bne, h9]; rfl⟩)
   · exact .inl ⟨b0, hdp, hdp2, hi1, h32, by rw [bne, h32]; rfl⟩
theorem head_no {b : UInt8} {t : Bs} (hbl : blB b = false) (hen : endsS (b :: t) = false) : b.toNat ≠ 32 ∧ b.toNat ≠ 9 ∧ b.toNat ≠ 10 ∧ b.toNat ≠ 35 := by
 refine ⟨fun h => ?_, fun h => ?_, fun h => ?_, fun h => ?_⟩
 · rw [show b = 32 from UInt8.toNat_inj.1 h] at hbl; revert hbl; decide
 · rw [show b = 9 from UInt8.toNat_inj.1 h] at hbl; revert hbl; decide
 · rw [show b = 10 from UInt8.toNat_inj.1 h] at hen; simp [endsS] at hen
 · rw [show b = 35 from UInt8.toNat_inj.1 h] at hen; simp [endsS] at hen
theorem nx_err (s : Bs) (p : Nat) (b : UInt8) (t : Bs) (hd : s.drop p = b :: t) (hp : p ≤ s.length) (hlim : s.length ≤ 1000000) (hbl : blB b = false) (hen : endsS (b :: t) = false) (h46 : (hdR (b :: t) == 46) = false) (h45 : (hdR (b :: t) == 45) = false) (hnu : numB (hdR (b :: t)) = false) (hle : letB (hdR (b :: t)) = false) (w : World) :
   Calls Tryz.prog 35 #[.string ⟨s.toArray⟩, .int .i64 (p : Int)] w (RetTk 0 0 [] p 120 w) := by
 have hz := bsz s
 have hpb : p ≤ 1000000 := by omega
 have hll : p + (b :: t).length = s.length := by rw [← hd, List.length_drop]; omega
 have hlt : p < s.length := by simp at hll; omega
 have hne : ((p : Int) == (s.length : Int)) = false := beq_eq_false_iff_ne.2 (by omega)
 have hne2 : (p == s.length) = false := beq_eq_false_iff_ne.2 (by omega)
 have hsl := fun W => run_sl Tryz.underlying9 s p hp W
 rw [hd] at hsl
 have HF := hid (fun W => first_at s (b :: t) W (by simp))
 obtain ⟨k32, k9, k10, k35⟩ := head_no hbl hen
 have HSK := hid (fun W => r_skip_no s p b t hd hp hlim k10 k32 k9 k35 W)
 have hc10 : (hdR (b :: t) == 10) = false := by
   have := hd_is b t 10 (by omega)
   exact beq_eq_false_iff_ne.2 (fun e => k10 (this.1 e))
 obtain ⟨c, hc⟩ : ∃ c, c = hdR (b :: t) := ⟨_, rfl⟩
 obtain ⟨n, hn⟩ : ∃ n, n = hdN (b :: t) := ⟨_, rfl⟩
 rw [← hc, ← hn] at HF
 rw [← hc] at hc10 h46 h45 hnu hle
 have HDG := hid (fun W => ref_digit c W); have HLT := hid (fun W => ref_letter c W)
 rw [hnu] at HDG; rw [hle] at HLT
 clear hll hd hc hn hnu hle hen hbl k32 k9 k10 k35
 · skip
   rcases glued_cases s p hp with ⟨hdp, hdp2⟩ | ⟨b0, hdp, hdp2, hi1, h32, h32'⟩ | ⟨b0, hdp, hdp2, hi1, h32, h32', h9, h9'⟩ | ⟨b0, hdp, hdp2, hi1, h32, h32', h9, h9', h10b, h10b'⟩ | ⟨b0, hdp, hdp2, hi1, h32, h32', h9, h9', h10b, h10b'⟩
   rotate_right 1
   · skip
     go_enter Tryz.func35, Tryz.ntmps35
     go_wp2_with fail
     refine (HSK.out _).mono ?_
     rintro e w1 ⟨rfl, hb1⟩
     have HB1 := hid ((belowA (Below.refl w.heap.size w) (.cells (cellsTk 0 0 [] false) 56)).trans (hb1.mono (by simp)))
     have HX1 := hid ((Bx.new w (cellsTk 0 0 [] false) 56).keep hb1)
     clear hb1
     go_wp2_with fail
     refine (HF.out _).mono ?_
     rintro e w2 ⟨rfl, hb2⟩
     have HB2 := hid ((belowA HB1.out (.cells (cellsTk 0 p [] true) 56)).trans (hb2.mono (by have := HB1.out.size; simp; omega)))
     have HX2 := hid ((HX1.out.alloc (.cells (cellsTk 0 p [] true) 56)).keep hb2); have HY2 := hid ((Bx.new w1 (cellsTk 0 p [] true) 56).keep hb2)
     have HZ := hid (show w.heap.size < w1.heap.size from HX1.out.2.2)
     clear hb2 HB1 HX1
     obtain ⟨tb, htb⟩ : ∃ tb, tb = w1.heap.size := ⟨_, rfl⟩
     rw [← htb] at HY2 HZ ⊢
     clear htb
     go_wp2_with fail
     refine (HDG.out _).mono ?_
     rintro e w3 ⟨rfl, hb⟩
     have HB3 := hid (HB2.out.trans (hb.mono HB2.out.size)); have HX3 := hid (HX2.out.keep hb); have HY3 := hid (HY2.out.keep hb)
     clear hb HB2 HX2 HY2
     go_wp2_with fail
     refine (HLT.out _).mono ?_
     rintro e w4 ⟨rfl, hb⟩
     have HB4 := hid (HB3.out.trans (hb.mono HB3.out.size)); have HX4 := hid (HX3.out.keep hb); have HY4 := hid (HY3.out.keep hb)
     clear hb HB3 HX3 HY3
     have hcx := HX4.out.1; have hfx := HX4.out.2.1
     go_wp2_with fail
     refine bodyPost_ret (v := .tuple #[.agg (cellsTk 0 0 [] false), .int .i64 (p : Int), .int .i64 (120)]) (by simp [results, Tryz.results35, go_sem, hcx]) rfl ⟨false, rfl, ?_⟩
     exact (((HB4.out.setCell (p := ⟨w.heap.size, 0, none⟩) (Nat.le_refl _) _).setCell (p := ⟨w.heap.size, 1, none⟩) (Nat.le_refl _) _).setCell (p := ⟨w.heap.size, 2, none⟩) (Nat.le_refl _) _).setCell (p := ⟨w.heap.size, 3, none⟩) (Nat.le_refl _) _
   all_goals
     go_enter Tryz.func35, Tryz.ntmps35
     go_wp2_with fail
     refine (HSK.out _).mono ?_
     rintro e w1 ⟨rfl, hb1⟩
     have HB1 := hid ((belowA (Below.refl w.heap.size w) (.cells (cellsTk 0 0 [] false) 56)).trans (hb1.mono (by simp)))
     have HX1 := hid ((Bx.new w (cellsTk 0 0 [] false) 56).keep hb1)
     clear hb1
     go_wp2_with fail
     refine (HF.out _).mono ?_
     rintro e w2 ⟨rfl, hb2⟩
     have HB2 := hid ((belowA HB1.out (.cells (cellsTk 0 p [] false) 56)).trans (hb2.mono (by have := HB1.out.size; simp; omega)))
     have HX2 := hid ((HX1.out.alloc (.cells (cellsTk 0 p [] false) 56)).keep hb2); have HY2 := hid ((Bx.new w1 (cellsTk 0 p [] false) 56).keep hb2)
     have HZ := hid (show w.heap.size < w1.heap.size from HX1.out.2.2)
     clear hb2 HB1 HX1
     obtain ⟨tb, htb⟩ : ∃ tb, tb = w1.heap.size := ⟨_, rfl⟩
     rw [← htb] at HY2 HZ ⊢
     clear htb
     go_wp2_with fail
     refine (HDG.out _).mono ?_
     rintro e w3 ⟨rfl, hb⟩
     have HB3 := hid (HB2.out.trans (hb.mono HB2.out.size)); have HX3 := hid (HX2.out.keep hb); have HY3 := hid (HY2.out.keep hb)
     clear hb HB2 HX2 HY2
     go_wp2_with fail
     refine (HLT.out _).mono ?_
     rintro e w4 ⟨rfl, hb⟩
     have HB4 := hid (HB3.out.trans (hb.mono HB3.out.size)); have HX4 := hid (HX3.out.keep hb); have HY4 := hid (HY3.out.keep hb)
     clear hb HB3 HX3 HY3
     have hcx := HX4.out.1; have hfx := HX4.out.2.1
     go_wp2_with fail
     refine bodyPost_ret (v := .tuple #[.agg (cellsTk 0 0 [] false), .int .i64 (p : Int), .int .i64 (120)]) (by simp [results, Tryz.results35, go_sem, hcx]) rfl ⟨false, rfl, ?_⟩
     exact (((HB4.out.setCell (p := ⟨w.heap.size, 0, none⟩) (Nat.le_refl _) _).setCell (p := ⟨w.heap.size, 1, none⟩) (Nat.le_refl _) _).setCell (p := ⟨w.heap.size, 2, none⟩) (Nat.le_refl _) _).setCell (p := ⟨w.heap.size, 3, none⟩) (Nat.le_refl _) _
theorem nx_sign (s : Bs) (p : Nat) (b : UInt8) (t : Bs) (hd : s.drop p = b :: t) (hp : p ≤ s.length) (hlim : s.length ≤ 1000000) (hbl : blB b = false) (hen : endsS (b :: t) = false) (hs : (hdR (b :: t) == 46) = true ∨ ((hdR (b :: t) == 46) = false ∧ (hdR (b :: t) == 45) = true)) (w : World) :
   Calls Tryz.prog 35 #[.string ⟨s.toArray⟩, .int .i64 (p : Int)] w (RetTk 3 p [b] (p + 1) 0 w) := by
 have hz := bsz s
 have hpb : p ≤ 1000000 := by omega
 have hll : p + (b :: t).length = s.length := by rw [← hd, List.length_drop]; omega
 have hlt : p < s.length := by simp at hll; omega
 have hne : ((p : Int) == (s.length : Int)) = false := beq_eq_false_iff_ne.2 (by omega)
 have hne2 : (p == s.length) = false := beq_eq_false_iff_ne.2 (by omega)
 have hsl := fun W => run_sl Tryz.underlying9 s p hp W
 rw [hd] at hsl
 have HF := hid (fun W => first_at s (b :: t) W (by simp))
 obtain ⟨k32, k9, k10, k35⟩ := head_no hbl hen
 have HSK := hid (fun W => r_skip_no s p b t hd hp hlim k10 k32 k9 k35 W)
 have hc10 : (hdR (b :: t) == 10) = false := by
   have := hd_is b t 10 (by omega)
   exact beq_eq_false_iff_ne.2 (fun e => k10 (this.1 e))
 have hn1 : hdN (b :: t) = 1 := by
   rcases hs with h | ⟨_, h⟩
   · exact (hd_lo t (by have := (hd_is b t 46 (by omega)).1 (by simpa using h); omega)).2
   · exact (hd_lo t (by have := (hd_is b t 45 (by omega)).1 (by simpa using h); omega)).2
 have hsb := fun W => run_slb Tryz.underlying9 s p (p + 1) (by omega) (by omega) W
 rw [hd, Nat.add_sub_cancel_left, Int.natCast_add, List.take_succ_cons, List.take_zero] at hsb
 rw [hn1] at HF
 obtain ⟨q, hq⟩ : ∃ q, q = p + 1 := ⟨_, rfl⟩
 have hqi : (p : Int) + 1 = (q : Int) := by omega
 have hqb : q ≤ 2000000 := by omega
 have hsb' : ∀ W, (Instr.slice 9 (.string ⟨s.toArray⟩) (some (.int .i64 (p : Int))) (some (.int .i64 (q : Int))) none).run Tryz.prog W = .ok (.string ⟨[b].toArray⟩) W := fun W => by have := hsb W; rw [show ((1 : Nat) : Int) = 1 from rfl, hqi] at this; exact this
 have hwq0 : IntKind.i64.wrap (q : Int) = (q : Int) := Go.IntWalk.i64_in (q : Int) (by omega)
 rw [← hq]
 obtain ⟨c, hc⟩ : ∃ c, c = hdR (b :: t) := ⟨_, rfl⟩
 rw [← hc] at HF hs hc10
 clear hll hd hc hn1 hen hbl k32 k9 k10 k35 hq hsb
 rcases hs with h46 | ⟨h46, h45⟩
 · skip
   rcases glued_cases s p hp with ⟨hdp, hdp2⟩ | ⟨b0, hdp, hdp2, hi1, h32, h32'⟩ | ⟨b0, hdp, hdp2, hi1, h32, h32', h9, h9'⟩ | ⟨b0, hdp, hdp2, hi1, h32, h32', h9, h9', h10b, h10b'⟩ | ⟨b0, hdp, hdp2, hi1, h32, h32', h9, h9', h10b, h10b'⟩
   rotate_right 1
   · skip
     go_enter Tryz.func35, Tryz.ntmps35
     go_wp2_with fail
     refine (HSK.out _).mono ?_
     rintro e w1 ⟨rfl, hb1⟩
     have HB1 := hid ((belowA (Below.refl w.heap.size w) (.cells (cellsTk 0 0 [] false) 56)).trans (hb1.mono (by simp)))
     have HX1 := hid ((Bx.new w (cellsTk 0 0 [] false) 56).keep hb1)
     clear hb1
     go_wp2_with fail
     refine (HF.out _).mono ?_
     rintro e w2 ⟨rfl, hb2⟩
     have HB2 := hid ((belowA HB1.out (.cells (cellsTk 0 p [] true) 56)).trans (hb2.mono (by have := HB1.out.size; simp; omega)))
     have HX2 := hid ((HX1.out.alloc (.cells (cellsTk 0 p [] true) 56)).keep hb2); have HY2 := hid ((Bx.new w1 (cellsTk 0 p [] true) 56).keep hb2)
     have HZ := hid (show w.heap.size < w1.heap.size from HX1.out.2.2)
     clear hb2 HB1 HX1
     obtain ⟨tb, htb⟩ : ∃ tb, tb = w1.heap.size := ⟨_, rfl⟩
     rw [← htb] at HY2 HZ ⊢
     clear htb
     have hcy := HY2.out.1; have hfy := HY2.out.2.1
     go_wp2_with fail
     refine wp_region_ordC 99 [(0, 0), (1, 0), (2, 0), (3, 0), (4, 0), (5, 0), (6, 0), (7, 2), (8, 0), (9, 2)] (fun _ => True) (fun _ => True) (by kernel_rfl) (by kernel_rfl) (trivial) (trivial) ?_
     repeat ((first | refine ordC_skip rfl rfl ?_ | refine ordC_skip1 rfl rfl ?_ | ((first | refine ordC_q rfl rfl ?_ | refine ordC_p rfl rfl ?_); apply Exists.intro; refine ⟨fun wS hS => ?_, ?_⟩; (go_simp; try with_reducible rfl))); simp only [Act.put, List.setIfInBounds_toArray, List.set_cons_zero, List.set_cons_succ])
     refine ordC_l rfl rfl (fun K hK => ?_)
     go_simp
     refine hK _ _ ⟨trivial, trivial⟩ ?_
     clear hK K
     repeat ((first | refine ordC_skip rfl rfl ?_ | refine ordC_skip1 rfl rfl ?_ | ((first | refine ordC_q rfl rfl ?_ | refine ordC_p rfl rfl ?_); apply Exists.intro; refine ⟨fun wS hS => ?_, ?_⟩; (go_simp; try with_reducible rfl))); simp only [Act.put, List.setIfInBounds_toArray, List.set_cons_zero, List.set_cons_succ])
     refine ordC_l rfl rfl (fun K hK => ?_)
     go_simp
     refine hK _ _ ⟨trivial, trivial⟩ ?_
     clear hK K
     refine ordC_nil ?_
     have HY3 := hid (((HY2.out.setC 0 (by simp) (.int .i64 3)).setC 2 (by simp) (.string ⟨[b].toArray⟩)).drew)
     have HX3 := hid (((HX2.out.setOther tb 0 (.int .i64 3) (by have := HZ.out; omega)).setOther tb 2 (.string ⟨[b].toArray⟩) (by have := HZ.out; omega)).drew)
     have HB3 := hid (((HB2.out.setCell (p := ⟨tb, 0, none⟩) (by have := HZ.out; show _ ≤ tb; omega) (.int .i64 3)).setCell (p := ⟨tb, 2, none⟩) (by have := HZ.out; show _ ≤ tb; omega) (.string ⟨[b].toArray⟩)).drew)
     generalize ((w2.setCell ⟨tb, 0, none⟩ (.int .i64 3)).setCell ⟨tb, 2, none⟩ (.string ⟨[b].toArray⟩)).drew = Z at HY3 HX3 HB3 ⊢
     clear hcy hfy HX2 HY2 HB2
     have hcz := HX3.out.1; have hfz := HX3.out.2.1
     go_wp2_with fail
     refine wp_region_ordC 99 [(0, 0), (1, 0), (2, 0), (3, 0), (4, 0), (5, 0), (6, 2), (7, 0), (8, 0)] (fun _ => True) (fun W' => Bx W' tb (cellsTk 3 p [b] true)) (by kernel_rfl) (by kernel_rfl) (trivial) (HY3.out.drew) ?_
     repeat ((first | refine ordC_skip rfl rfl ?_ | refine ordC_skip1 rfl rfl ?_ | ((first | refine ordC_q rfl rfl ?_ | refine ordC_p rfl rfl ?_); apply Exists.intro; refine ⟨fun wS hS => ?_, ?_⟩; (go_simp; try with_reducible rfl))); simp only [Act.put, List.setIfInBounds_toArray, List.set_cons_zero, List.set_cons_succ])
     refine ordC_l rfl rfl (fun K hK => ?_)
     go_simp
     refine hK _ _ ⟨trivial, (((HY3.out.drew.setOther w.heap.size 0 _ (by have := HZ.out; omega)).setOther w.heap.size 1 _ (by have := HZ.out; omega)).setOther w.heap.size 2 _ (by have := HZ.out; omega)).setOther w.heap.size 3 _ (by have := HZ.out; omega)⟩ ?_
     clear hK K
     repeat ((first | refine ordC_skip rfl rfl ?_ | refine ordC_skip1 rfl rfl ?_ | ((first | refine ordC_q rfl rfl ?_ | refine ordC_p rfl rfl ?_); apply Exists.intro; refine ⟨fun wS hS => ?_, ?_⟩; (go_simp; try with_reducible rfl))); simp only [Act.put, List.setIfInBounds_toArray, List.set_cons_zero, List.set_cons_succ])
     refine ordC_nil ?_
     go_wp2_with fail
     have hwq : IntKind.i64.wrap (q : Int) = (q : Int) := Go.IntWalk.i64_in (q : Int) (by omega)
     refine bodyPost_ret (v := .tuple #[.agg (cellsTk 3 p [b] true), .int .i64 (q : Int), .int .i64 0]) (by simp [results, Tryz.results35, go_sem, hcz]) rfl ⟨true, rfl, ?_⟩
     exact ((((HB3.out.drew).setCell (p := ⟨w.heap.size, 0, none⟩) (Nat.le_refl _) _).setCell (p := ⟨w.heap.size, 1, none⟩) (Nat.le_refl _) _).setCell (p := ⟨w.heap.size, 2, none⟩) (Nat.le_refl _) _).setCell (p := ⟨w.heap.size, 3, none⟩) (Nat.le_refl _) _
   all_goals
     go_enter Tryz.func35, Tryz.ntmps35
     go_wp2_with fail
     refine (HSK.out _).mono ?_
     rintro e w1 ⟨rfl, hb1⟩
     have HB1 := hid ((belowA (Below.refl w.heap.size w) (.cells (cellsTk 0 0 [] false) 56)).trans (hb1.mono (by simp)))
     have HX1 := hid ((Bx.new w (cellsTk 0 0 [] false) 56).keep hb1)
     clear hb1
     go_wp2_with fail
     refine (HF.out _).mono ?_
     rintro e w2 ⟨rfl, hb2⟩
     have HB2 := hid ((belowA HB1.out (.cells (cellsTk 0 p [] false) 56)).trans (hb2.mono (by have := HB1.out.size; simp; omega)))
     have HX2 := hid ((HX1.out.alloc (.cells (cellsTk 0 p [] false) 56)).keep hb2); have HY2 := hid ((Bx.new w1 (cellsTk 0 p [] false) 56).keep hb2)
     have HZ := hid (show w.heap.size < w1.heap.size from HX1.out.2.2)
     clear hb2 HB1 HX1
     obtain ⟨tb, htb⟩ : ∃ tb, tb = w1.heap.size := ⟨_, rfl⟩
     rw [← htb] at HY2 HZ ⊢
     clear htb
     have hcy := HY2.out.1; have hfy := HY2.out.2.1
     go_wp2_with fail
     refine wp_region_ordC 99 [(0, 0), (1, 0), (2, 0), (3, 0), (4, 0), (5, 0), (6, 0), (7, 2), (8, 0), (9, 2)] (fun _ => True) (fun _ => True) (by kernel_rfl) (by kernel_rfl) (trivial) (trivial) ?_
     repeat ((first | refine ordC_skip rfl rfl ?_ | refine ordC_skip1 rfl rfl ?_ | ((first | refine ordC_q rfl rfl ?_ | refine ordC_p rfl rfl ?_); apply Exists.intro; refine ⟨fun wS hS => ?_, ?_⟩; (go_simp; try with_reducible rfl))); simp only [Act.put, List.setIfInBounds_toArray, List.set_cons_zero, List.set_cons_succ])
     refine ordC_l rfl rfl (fun K hK => ?_)
     go_simp
     refine hK _ _ ⟨trivial, trivial⟩ ?_
     clear hK K
     repeat ((first | refine ordC_skip rfl rfl ?_ | refine ordC_skip1 rfl rfl ?_ | ((first | refine ordC_q rfl rfl ?_ | refine ordC_p rfl rfl ?_); apply Exists.intro; refine ⟨fun wS hS => ?_, ?_⟩; (go_simp; try with_reducible rfl))); simp only [Act.put, List.setIfInBounds_toArray, List.set_cons_zero, List.set_cons_succ])
     refine ordC_l rfl rfl (fun K hK => ?_)
     go_simp
     refine hK _ _ ⟨trivial, trivial⟩ ?_
     clear hK K
     refine ordC_nil ?_
     have HY3 := hid (((HY2.out.setC 0 (by simp) (.int .i64 3)).setC 2 (by simp) (.string ⟨[b].toArray⟩)).drew)
     have HX3 := hid (((HX2.out.setOther tb 0 (.int .i64 3) (by have := HZ.out; omega)).setOther tb 2 (.string ⟨[b].toArray⟩) (by have := HZ.out; omega)).drew)
     have HB3 := hid (((HB2.out.setCell (p := ⟨tb, 0, none⟩) (by have := HZ.out; show _ ≤ tb; omega) (.int .i64 3)).setCell (p := ⟨tb, 2, none⟩) (by have := HZ.out; show _ ≤ tb; omega) (.string ⟨[b].toArray⟩)).drew)
     generalize ((w2.setCell ⟨tb, 0, none⟩ (.int .i64 3)).setCell ⟨tb, 2, none⟩ (.string ⟨[b].toArray⟩)).drew = Z at HY3 HX3 HB3 ⊢
     clear hcy hfy HX2 HY2 HB2
     have hcz := HX3.out.1; have hfz := HX3.out.2.1
     go_wp2_with fail
     refine wp_region_ordC 99 [(0, 0), (1, 0), (2, 0), (3, 0), (4, 0), (5, 0), (6, 2), (7, 0), (8, 0)] (fun _ => True) (fun W' => Bx W' tb (cellsTk 3 p [b] false)) (by kernel_rfl) (by kernel_rfl) (trivial) (HY3.out.drew) ?_
     repeat ((first | refine ordC_skip rfl rfl ?_ | refine ordC_skip1 rfl rfl ?_ | ((first | refine ordC_q rfl rfl ?_ | refine ordC_p rfl rfl ?_); apply Exists.intro; refine ⟨fun wS hS => ?_, ?_⟩; (go_simp; try with_reducible rfl))); simp only [Act.put, List.setIfInBounds_toArray, List.set_cons_zero, List.set_cons_succ])
     refine ordC_l rfl rfl (fun K hK => ?_)
     go_simp
     refine hK _ _ ⟨trivial, (((HY3.out.drew.setOther w.heap.size 0 _ (by have := HZ.out; omega)).setOther w.heap.size 1 _ (by have := HZ.out; omega)).setOther w.heap.size 2 _ (by have := HZ.out; omega)).setOther w.heap.size 3 _ (by have := HZ.out; omega)⟩ ?_
     clear hK K
     repeat ((first | refine ordC_skip rfl rfl ?_ | refine ordC_skip1 rfl rfl ?_ | ((first | refine ordC_q rfl rfl ?_ | refine ordC_p rfl rfl ?_); apply Exists.intro; refine ⟨fun wS hS => ?_, ?_⟩; (go_simp; try with_reducible rfl))); simp only [Act.put, List.setIfInBounds_toArray, List.set_cons_zero, List.set_cons_succ])
     refine ordC_nil ?_
     go_wp2_with fail
     have hwq : IntKind.i64.wrap (q : Int) = (q : Int) := Go.IntWalk.i64_in (q : Int) (by omega)
     refine bodyPost_ret (v := .tuple #[.agg (cellsTk 3 p [b] false), .int .i64 (q : Int), .int .i64 0]) (by simp [results, Tryz.results35, go_sem, hcz]) rfl ⟨false, rfl, ?_⟩
     exact ((((HB3.out.drew).setCell (p := ⟨w.heap.size, 0, none⟩) (Nat.le_refl _) _).setCell (p := ⟨w.heap.size, 1, none⟩) (Nat.le_refl _) _).setCell (p := ⟨w.heap.size, 2, none⟩) (Nat.le_refl _) _).setCell (p := ⟨w.heap.size, 3, none⟩) (Nat.le_refl _) _
 · skip
   rcases glued_cases s p hp with ⟨hdp, hdp2⟩ | ⟨b0, hdp, hdp2, hi1, h32, h32'⟩ | ⟨b0, hdp, hdp2, hi1, h32, h32', h9, h9'⟩ | ⟨b0, hdp, hdp2, hi1, h32, h32', h9, h9', h10b, h10b'⟩ | ⟨b0, hdp, hdp2, hi1, h32, h32', h9, h9', h10b, h10b'⟩
   rotate_right 1
   · skip
     go_enter Tryz.func35, Tryz.ntmps35
     go_wp2_with fail
     refine (HSK.out _).mono ?_
     rintro e w1 ⟨rfl, hb1⟩
     have HB1 := hid ((belowA (Below.refl w.heap.size w) (.cells (cellsTk 0 0 [] false) 56)).trans (hb1.mono (by simp)))
     have HX1 := hid ((Bx.new w (cellsTk 0 0 [] false) 56).keep hb1)
     clear hb1
     go_wp2_with fail
     refine (HF.out _).mono ?_
     rintro e w2 ⟨rfl, hb2⟩
     have HB2 := hid ((belowA HB1.out (.cells (cellsTk 0 p [] true) 56)).trans (hb2.mono (by have := HB1.out.size; simp; omega)))
     have HX2 := hid ((HX1.out.alloc (.cells (cellsTk 0 p [] true) 56)).keep hb2); have HY2 := hid ((Bx.new w1 (cellsTk 0 p [] true) 56).keep hb2)
     have HZ := hid (show w.heap.size < w1.heap.size from HX1.out.2.2)
     clear hb2 HB1 HX1
     obtain ⟨tb, htb⟩ : ∃ tb, tb = w1.heap.size := ⟨_, rfl⟩
     rw [← htb] at HY2 HZ ⊢
     clear htb
     have hcy := HY2.out.1; have hfy := HY2.out.2.1
     go_wp2_with fail
     refine wp_region_ordC 99 [(0, 0), (1, 0), (2, 0), (3, 0), (4, 0), (5, 0), (6, 0), (7, 2), (8, 0), (9, 2)] (fun _ => True) (fun _ => True) (by kernel_rfl) (by kernel_rfl) (trivial) (trivial) ?_
     repeat ((first | refine ordC_skip rfl rfl ?_ | refine ordC_skip1 rfl rfl ?_ | ((first | refine ordC_q rfl rfl ?_ | refine ordC_p rfl rfl ?_); apply Exists.intro; refine ⟨fun wS hS => ?_, ?_⟩; (go_simp; try with_reducible rfl))); simp only [Act.put, List.setIfInBounds_toArray, List.set_cons_zero, List.set_cons_succ])
     refine ordC_l rfl rfl (fun K hK => ?_)
     go_simp
     refine hK _ _ ⟨trivial, trivial⟩ ?_
     clear hK K
     repeat ((first | refine ordC_skip rfl rfl ?_ | refine ordC_skip1 rfl rfl ?_ | ((first | refine ordC_q rfl rfl ?_ | refine ordC_p rfl rfl ?_); apply Exists.intro; refine ⟨fun wS hS => ?_, ?_⟩; (go_simp; try with_reducible rfl))); simp only [Act.put, List.setIfInBounds_toArray, List.set_cons_zero, List.set_cons_succ])
     refine ordC_l rfl rfl (fun K hK => ?_)
     go_simp
     refine hK _ _ ⟨trivial, trivial⟩ ?_
     clear hK K
     refine ordC_nil ?_
     have HY3 := hid (((HY2.out.setC 0 (by simp) (.int .i64 3)).setC 2 (by simp) (.string ⟨[b].toArray⟩)).drew)
     have HX3 := hid (((HX2.out.setOther tb 0 (.int .i64 3) (by have := HZ.out; omega)).setOther tb 2 (.string ⟨[b].toArray⟩) (by have := HZ.out; omega)).drew)
     have HB3 := hid (((HB2.out.setCell (p := ⟨tb, 0, none⟩) (by have := HZ.out; show _ ≤ tb; omega) (.int .i64 3)).setCell (p := ⟨tb, 2, none⟩) (by have := HZ.out; show _ ≤ tb; omega) (.string ⟨[b].toArray⟩)).drew)
     generalize ((w2.setCell ⟨tb, 0, none⟩ (.int .i64 3)).setCell ⟨tb, 2, none⟩ (.string ⟨[b].toArray⟩)).drew = Z at HY3 HX3 HB3 ⊢
     clear hcy hfy HX2 HY2 HB2
     have hcz := HX3.out.1; have hfz := HX3.out.2.1
     go_wp2_with fail
     refine wp_region_ordC 99 [(0, 0), (1, 0), (2, 0), (3, 0), (4, 0), (5, 0), (6, 2), (7, 0), (8, 0)] (fun _ => True) (fun W' => Bx W' tb (cellsTk 3 p [b] true)) (by kernel_rfl) (by kernel_rfl) (trivial) (HY3.out.drew) ?_
     repeat ((first | refine ordC_skip rfl rfl ?_ | refine ordC_skip1 rfl rfl ?_ | ((first | refine ordC_q rfl rfl ?_ | refine ordC_p rfl rfl ?_); apply Exists.intro; refine ⟨fun wS hS => ?_, ?_⟩; (go_simp; try with_reducible rfl))); simp only [Act.put, List.setIfInBounds_toArray, List.set_cons_zero, List.set_cons_succ])
     refine ordC_l rfl rfl (fun K hK => ?_)
     go_simp
     refine hK _ _ ⟨trivial, (((HY3.out.drew.setOther w.heap.size 0 _ (by have := HZ.out; omega)).setOther w.heap.size 1 _ (by have := HZ.out; omega)).setOther w.heap.size 2 _ (by have := HZ.out; omega)).setOther w.heap.size 3 _ (by have := HZ.out; omega)⟩ ?_
     clear hK K
     repeat ((first | refine ordC_skip rfl rfl ?_ | refine ordC_skip1 rfl rfl ?_ | ((first | refine ordC_q rfl rfl ?_ | refine ordC_p rfl rfl ?_); apply Exists.intro; refine ⟨fun wS hS => ?_, ?_⟩; (go_simp; try with_reducible rfl))); simp only [Act.put, List.setIfInBounds_toArray, List.set_cons_zero, List.set_cons_succ])
     refine ordC_nil ?_
     go_wp2_with fail
     have hwq : IntKind.i64.wrap (q : Int) = (q : Int) := Go.IntWalk.i64_in (q : Int) (by omega)
     refine bodyPost_ret (v := .tuple #[.agg (cellsTk 3 p [b] true), .int .i64 (q : Int), .int .i64 0]) (by simp [results, Tryz.results35, go_sem, hcz]) rfl ⟨true, rfl, ?_⟩
     exact ((((HB3.out.drew).setCell (p := ⟨w.heap.size, 0, none⟩) (Nat.le_refl _) _).setCell (p := ⟨w.heap.size, 1, none⟩) (Nat.le_refl _) _).setCell (p := ⟨w.heap.size, 2, none⟩) (Nat.le_refl _) _).setCell (p := ⟨w.heap.size, 3, none⟩) (Nat.le_refl _) _
   all_goals
     go_enter Tryz.func35, Tryz.ntmps35
     go_wp2_with fail
     refine (HSK.out _).mono ?_
     rintro e w1 ⟨rfl, hb1⟩
     have HB1 := hid ((belowA (Below.refl w.heap.size w) (.cells (cellsTk 0 0 [] false) 56)).trans (hb1.mono (by simp)))
     have HX1 := hid ((Bx.new w (cellsTk 0 0 [] false) 56).keep hb1)
     clear hb1
     go_wp2_with fail
     refine (HF.out _).mono ?_
     rintro e w2 ⟨rfl, hb2⟩
     have HB2 := hid ((belowA HB1.out (.cells (cellsTk 0 p [] false) 56)).trans (hb2.mono (by have := HB1.out.size; simp; omega)))
     have HX2 := hid ((HX1.out.alloc (.cells (cellsTk 0 p [] false) 56)).keep hb2); have HY2 := hid ((Bx.new w1 (cellsTk 0 p [] false) 56).keep hb2)
     have HZ := hid (show w.heap.size < w1.heap.size from HX1.out.2.2)
     clear hb2 HB1 HX1
     obtain ⟨tb, htb⟩ : ∃ tb, tb = w1.heap.size := ⟨_, rfl⟩
     rw [← htb] at HY2 HZ ⊢
     clear htb
     have hcy := HY2.out.1; have hfy := HY2.out.2.1
     go_wp2_with fail
     refine wp_region_ordC 99 [(0, 0), (1, 0), (2, 0), (3, 0), (4, 0), (5, 0), (6, 0), (7, 2), (8, 0), (9, 2)] (fun _ => True) (fun _ => True) (by kernel_rfl) (by kernel_rfl) (trivial) (trivial) ?_
     repeat ((first | refine ordC_skip rfl rfl ?_ | refine ordC_skip1 rfl rfl ?_ | ((first | refine ordC_q rfl rfl ?_ | refine ordC_p rfl rfl ?_); apply Exists.intro; refine ⟨fun wS hS => ?_, ?_⟩; (go_simp; try with_reducible rfl))); simp only [Act.put, List.setIfInBounds_toArray, List.set_cons_zero, List.set_cons_succ])
     refine ordC_l rfl rfl (fun K hK => ?_)
     go_simp
     refine hK _ _ ⟨trivial, trivial⟩ ?_
     clear hK K
     repeat ((first | refine ordC_skip rfl rfl ?_ | refine ordC_skip1 rfl rfl ?_ | ((first | refine ordC_q rfl rfl ?_ | refine ordC_p rfl rfl ?_); apply Exists.intro; refine ⟨fun wS hS => ?_, ?_⟩; (go_simp; try with_reducible rfl))); simp only [Act.put, List.setIfInBounds_toArray, List.set_cons_zero, List.set_cons_succ])
     refine ordC_l rfl rfl (fun K hK => ?_)
     go_simp
     refine hK _ _ ⟨trivial, trivial⟩ ?_
     clear hK K
     refine ordC_nil ?_
     have HY3 := hid (((HY2.out.setC 0 (by simp) (.int .i64 3)).setC 2 (by simp) (.string ⟨[b].toArray⟩)).drew)
     have HX3 := hid (((HX2.out.setOther tb 0 (.int .i64 3) (by have := HZ.out; omega)).setOther tb 2 (.string ⟨[b].toArray⟩) (by have := HZ.out; omega)).drew)
     have HB3 := hid (((HB2.out.setCell (p := ⟨tb, 0, none⟩) (by have := HZ.out; show _ ≤ tb; omega) (.int .i64 3)).setCell (p := ⟨tb, 2, none⟩) (by have := HZ.out; show _ ≤ tb; omega) (.string ⟨[b].toArray⟩)).drew)
     generalize ((w2.setCell ⟨tb, 0, none⟩ (.int .i64 3)).setCell ⟨tb, 2, none⟩ (.string ⟨[b].toArray⟩)).drew = Z at HY3 HX3 HB3 ⊢
     clear hcy hfy HX2 HY2 HB2
     have hcz := HX3.out.1; have hfz := HX3.out.2.1
     go_wp2_with fail
     refine wp_region_ordC 99 [(0, 0), (1, 0), (2, 0), (3, 0), (4, 0), (5, 0), (6, 2), (7, 0), (8, 0)] (fun _ => True) (fun W' => Bx W' tb (cellsTk 3 p [b] false)) (by kernel_rfl) (by kernel_rfl) (trivial) (HY3.out.drew) ?_
     repeat ((first | refine ordC_skip rfl rfl ?_ | refine ordC_skip1 rfl rfl ?_ | ((first | refine ordC_q rfl rfl ?_ | refine ordC_p rfl rfl ?_); apply Exists.intro; refine ⟨fun wS hS => ?_, ?_⟩; (go_simp; try with_reducible rfl))); simp only [Act.put, List.setIfInBounds_toArray, List.set_cons_zero, List.set_cons_succ])
     refine ordC_l rfl rfl (fun K hK => ?_)
     go_simp
     refine hK _ _ ⟨trivial, (((HY3.out.drew.setOther w.heap.size 0 _ (by have := HZ.out; omega)).setOther w.heap.size 1 _ (by have := HZ.out; omega)).setOther w.heap.size 2 _ (by have := HZ.out; omega)).setOther w.heap.size 3 _ (by have := HZ.out; omega)⟩ ?_
     clear hK K
     repeat ((first | refine ordC_skip rfl rfl ?_ | refine ordC_skip1 rfl rfl ?_ | ((first | refine ordC_q rfl rfl ?_ | refine ordC_p rfl rfl ?_); apply Exists.intro; refine ⟨fun wS hS => ?_, ?_⟩; (go_simp; try with_reducible rfl))); simp only [Act.put, List.setIfInBounds_toArray, List.set_cons_zero, List.set_cons_succ])
     refine ordC_nil ?_
     go_wp2_with fail
     have hwq : IntKind.i64.wrap (q : Int) = (q : Int) := Go.IntWalk.i64_in (q : Int) (by omega)
     refine bodyPost_ret (v := .tuple #[.agg (cellsTk 3 p [b] false), .int .i64 (q : Int), .int .i64 0]) (by simp [results, Tryz.results35, go_sem, hcz]) rfl ⟨false, rfl, ?_⟩
     exact ((((HB3.out.drew).setCell (p := ⟨w.heap.size, 0, none⟩) (Nat.le_refl _) _).setCell (p := ⟨w.heap.size, 1, none⟩) (Nat.le_refl _) _).setCell (p := ⟨w.heap.size, 2, none⟩) (Nat.le_refl _) _).setCell (p := ⟨w.heap.size, 3, none⟩) (Nat.le_refl _) _
theorem nx_word (s : Bs) (p : Nat) (b : UInt8) (t : Bs) (hd : s.drop p = b :: t) (hp : p ≤ s.length) (hlim : s.length ≤ 1000000) (hbl : blB b = false) (hen : endsS (b :: t) = false) (h46 : (hdR (b :: t) == 46) = false) (h45 : (hdR (b :: t) == 45) = false) (hnu : numB (hdR (b :: t)) = false) (hle : letB (hdR (b :: t)) = true) (w : World) :
   Calls Tryz.prog 35 #[.string ⟨s.toArray⟩, .int .i64 (p : Int)] w (if 24 < runS (b :: t) then RetTk 0 0 [] (p + longS ((b :: t).take (runS (b :: t)))) 120 w else RetTk 1 p ((b :: t).take (runS (b :: t))) (p + runS (b :: t)) 0 w) := by
 have hz := bsz s
 have hpb : p ≤ 1000000 := by omega
 have hll : p + (b :: t).length = s.length := by rw [← hd, List.length_drop]; omega
 have hlt : p < s.length := by simp at hll; omega
 have hne : ((p : Int) == (s.length : Int)) = false := beq_eq_false_iff_ne.2 (by omega)
 have hne2 : (p == s.length) = false := beq_eq_false_iff_ne.2 (by omega)
 have hsl := fun W => run_sl Tryz.underlying9 s p hp W
 rw [hd] at hsl
 have HF := hid (fun W => first_at s (b :: t) W (by simp))
 obtain ⟨k32, k9, k10, k35⟩ := head_no hbl hen
 have HSK := hid (fun W => r_skip_no s p b t hd hp hlim k10 k32 k9 k35 W)
 have hc10 : (hdR (b :: t) == 10) = false := by
   have := hd_is b t 10 (by omega)
   exact beq_eq_false_iff_ne.2 (fun e => k10 (this.1 e))
 obtain ⟨c, hc⟩ : ∃ c, c = hdR (b :: t) := ⟨_, rfl⟩
 obtain ⟨n, hn⟩ : ∃ n, n = hdN (b :: t) := ⟨_, rfl⟩
 rw [← hc, ← hn] at HF
 rw [← hc] at hc10 h46 h45 hnu hle
 have HDG := hid (fun W => ref_digit c W); have HLT := hid (fun W => ref_letter c W)
 rw [hnu] at HDG; rw [hle] at HLT
 have HW := hid (fun W => r_word2 s p (b :: t) hd hp hlim W)
 have hru := runS_le (b :: t)
 have hsb := fun W => run_slb Tryz.underlying9 s p (p + runS (b :: t)) (by omega) (by omega) W
 rw [hd, Nat.add_sub_cancel_left] at hsb
 have hzl : ((b :: t).take (runS (b :: t))).length = runS (b :: t) := by rw [List.length_take]; omega
 obtain ⟨r, hr⟩ : ∃ r, r = runS (b :: t) := ⟨_, rfl⟩
 rw [← hr] at HW hsb hzl hru
 rw [← hr]
 have hrb : r ≤ 1000000 := by omega
 have HPR := hid (show p + r ≤ 1000000 by omega)
 clear hd hc hn hnu hle hen hbl k32 k9 k10 k35 hr hll hru
 by_cases h24 : 24 < r
 · have hok : (!decide (24 < r)) = false := by simp [h24]
   rw [if_pos h24]
   rw [if_pos h24, hok] at HW
   have hl24 := longS_le ((b :: t).take r)
   obtain ⟨q, hq⟩ : ∃ q, q = p + longS ((b :: t).take r) := ⟨_, rfl⟩
   rw [← hq] at HW ⊢
   have hqb : q ≤ 2000000 := by omega
   clear hq hl24 h24 hok hzl hsb
   rcases glued_cases s p hp with ⟨hdp, hdp2⟩ | ⟨b0, hdp, hdp2, hi1, h32, h32'⟩ | ⟨b0, hdp, hdp2, hi1, h32, h32', h9, h9'⟩ | ⟨b0, hdp, hdp2, hi1, h32, h32', h9, h9', h10b, h10b'⟩ | ⟨b0, hdp, hdp2, hi1, h32, h32', h9, h9', h10b, h10b'⟩
   rotate_right 1
   · skip
     go_enter Tryz.func35, Tryz.ntmps35
     go_wp2_with fail
     refine (HSK.out _).mono ?_
     rintro e w1 ⟨rfl, hb1⟩
     have HB1 := hid ((belowA (Below.refl w.heap.size w) (.cells (cellsTk 0 0 [] false) 56)).trans (hb1.mono (by simp)))
     have HX1 := hid ((Bx.new w (cellsTk 0 0 [] false) 56).keep hb1)
     clear hb1
     go_wp2_with fail
     refine (HF.out _).mono ?_
     rintro e w2 ⟨rfl, hb2⟩
     have HB2 := hid ((belowA HB1.out (.cells (cellsTk 0 p [] true) 56)).trans (hb2.mono (by have := HB1.out.size; simp; omega)))
     have HX2 := hid ((HX1.out.alloc (.cells (cellsTk 0 p [] true) 56)).keep hb2); have HY2 := hid ((Bx.new w1 (cellsTk 0 p [] true) 56).keep hb2)
     have HZ := hid (show w.heap.size < w1.heap.size from HX1.out.2.2)
     clear hb2 HB1 HX1
     obtain ⟨tb, htb⟩ : ∃ tb, tb = w1.heap.size := ⟨_, rfl⟩
     rw [← htb] at HY2 HZ ⊢
     clear htb
     go_wp2_with fail
     refine (HDG.out _).mono ?_
     rintro e w3 ⟨rfl, hb⟩
     have HB3 := hid (HB2.out.trans (hb.mono HB2.out.size)); have HX3 := hid (HX2.out.keep hb); have HY3 := hid (HY2.out.keep hb)
     clear hb HB2 HX2 HY2
     go_wp2_with fail
     refine (HLT.out _).mono ?_
     rintro e w4 ⟨rfl, hb⟩
     have HB4 := hid (HB3.out.trans (hb.mono HB3.out.size)); have HX4 := hid (HX3.out.keep hb); have HY4 := hid (HY3.out.keep hb)
     clear hb HB3 HX3 HY3
     go_wp2_with fail
     refine (HW.out _).mono ?_
     rintro e w5 ⟨rfl, hb⟩
     have HB5 := hid (HB4.out.trans (hb.mono HB4.out.size)); have HX5 := hid (HX4.out.keep hb); have HY5 := hid (HY4.out.keep hb)
     clear hb HB4 HX4 HY4
     have hcx := HX5.out.1; have hfx := HX5.out.2.1
     go_wp2_with fail
     refine bodyPost_ret (v := .tuple #[.agg (cellsTk 0 0 [] false), .int .i64 (q : Int), .int .i64 (120)]) (by simp [results, Tryz.results35, go_sem, hcx]) rfl ⟨false, rfl, ?_⟩
     exact (((HB5.out.setCell (p := ⟨w.heap.size, 0, none⟩) (Nat.le_refl _) _).setCell (p := ⟨w.heap.size, 1, none⟩) (Nat.le_refl _) _).setCell (p := ⟨w.heap.size, 2, none⟩) (Nat.le_refl _) _).setCell (p := ⟨w.heap.size, 3, none⟩) (Nat.le_refl _) _
   all_goals
     go_enter Tryz.func35, Tryz.ntmps35
     go_wp2_with fail
     refine (HSK.out _).mono ?_
     rintro e w1 ⟨rfl, hb1⟩
     have HB1 := hid ((belowA (Below.refl w.heap.size w) (.cells (cellsTk 0 0 [] false) 56)).trans (hb1.mono (by simp)))
     have HX1 := hid ((Bx.new w (cellsTk 0 0 [] false) 56).keep hb1)
     clear hb1
     go_wp2_with fail
     refine (HF.out _).mono ?_
     rintro e w2 ⟨rfl, hb2⟩
     have HB2 := hid ((belowA HB1.out (.cells (cellsTk 0 p [] false) 56)).trans (hb2.mono (by have := HB1.out.size; simp; omega)))
     have HX2 := hid ((HX1.out.alloc (.cells (cellsTk 0 p [] false) 56)).keep hb2); have HY2 := hid ((Bx.new w1 (cellsTk 0 p [] false) 56).keep hb2)
     have HZ := hid (show w.heap.size < w1.heap.size from HX1.out.2.2)
     clear hb2 HB1 HX1
     obtain ⟨tb, htb⟩ : ∃ tb, tb = w1.heap.size := ⟨_, rfl⟩
     rw [← htb] at HY2 HZ ⊢
     clear htb
     go_wp2_with fail
     refine (HDG.out _).mono ?_
     rintro e w3 ⟨rfl, hb⟩
     have HB3 := hid (HB2.out.trans (hb.mono HB2.out.size)); have HX3 := hid (HX2.out.keep hb); have HY3 := hid (HY2.out.keep hb)
     clear hb HB2 HX2 HY2
     go_wp2_with fail
     refine (HLT.out _).mono ?_
     rintro e w4 ⟨rfl, hb⟩
     have HB4 := hid (HB3.out.trans (hb.mono HB3.out.size)); have HX4 := hid (HX3.out.keep hb); have HY4 := hid (HY3.out.keep hb)
     clear hb HB3 HX3 HY3
     go_wp2_with fail
     refine (HW.out _).mono ?_
     rintro e w5 ⟨rfl, hb⟩
     have HB5 := hid (HB4.out.trans (hb.mono HB4.out.size)); have HX5 := hid (HX4.out.keep hb); have HY5 := hid (HY4.out.keep hb)
     clear hb HB4 HX4 HY4
     have hcx := HX5.out.1; have hfx := HX5.out.2.1
     go_wp2_with fail
     refine bodyPost_ret (v := .tuple #[.agg (cellsTk 0 0 [] false), .int .i64 (q : Int), .int .i64 (120)]) (by simp [results, Tryz.results35, go_sem, hcx]) rfl ⟨false, rfl, ?_⟩
     exact (((HB5.out.setCell (p := ⟨w.heap.size, 0, none⟩) (Nat.le_refl _) _).setCell (p := ⟨w.heap.size, 1, none⟩) (Nat.le_refl _) _).setCell (p := ⟨w.heap.size, 2, none⟩) (Nat.le_refl _) _).setCell (p := ⟨w.heap.size, 3, none⟩) (Nat.le_refl _) _
 · have hok : (!decide (24 < r)) = true := by simp; omega
   rw [if_neg h24]
   rw [if_neg h24, hok] at HW
   obtain ⟨q, hq⟩ : ∃ q, q = p + r := ⟨_, rfl⟩
   rw [← hq] at HW hsb ⊢
   obtain ⟨T, hT⟩ : ∃ T, T = (b :: t).take r := ⟨_, rfl⟩
   rw [← hT] at hsb hzl ⊢
   have hqi : (p : Int) + (r : Int) = (q : Int) := by omega
   have hzn : ByteArray.size ⟨T.toArray⟩ = r := by rw [bsz, hzl]
   have hqb : q ≤ 2000000 := by have := HPR.out; omega
   have hwq0 : IntKind.i64.wrap (q : Int) = (q : Int) := Go.IntWalk.i64_in (q : Int) (by omega)
   clear hq h24 hok hT hzl
   rcases glued_cases s p hp with ⟨hdp, hdp2⟩ | ⟨b0, hdp, hdp2, hi1, h32, h32'⟩ | ⟨b0, hdp, hdp2, hi1, h32, h32', h9, h9'⟩ | ⟨b0, hdp, hdp2, hi1, h32, h32', h9, h9', h10b, h10b'⟩ | ⟨b0, hdp, hdp2, hi1, h32, h32', h9, h9', h10b, h10b'⟩
   rotate_right 1
   · skip
     go_enter Tryz.func35, Tryz.ntmps35
     go_wp2_with fail
     refine (HSK.out _).mono ?_
     rintro e w1 ⟨rfl, hb1⟩
     have HB1 := hid ((belowA (Below.refl w.heap.size w) (.cells (cellsTk 0 0 [] false) 56)).trans (hb1.mono (by simp)))
     have HX1 := hid ((Bx.new w (cellsTk 0 0 [] false) 56).keep hb1)
     clear hb1
     go_wp2_with fail
     refine (HF.out _).mono ?_
     rintro e w2 ⟨rfl, hb2⟩
     have HB2 := hid ((belowA HB1.out (.cells (cellsTk 0 p [] true) 56)).trans (hb2.mono (by have := HB1.out.size; simp; omega)))
     have HX2 := hid ((HX1.out.alloc (.cells (cellsTk 0 p [] true) 56)).keep hb2); have HY2 := hid ((Bx.new w1 (cellsTk 0 p [] true) 56).keep hb2)
     have HZ := hid (show w.heap.size < w1.heap.size from HX1.out.2.2)
     clear hb2 HB1 HX1
     obtain ⟨tb, htb⟩ : ∃ tb, tb = w1.heap.size := ⟨_, rfl⟩
     rw [← htb] at HY2 HZ ⊢
     clear htb
     go_wp2_with fail
     refine (HDG.out _).mono ?_
     rintro e w3 ⟨rfl, hb⟩
     have HB3 := hid (HB2.out.trans (hb.mono HB2.out.size)); have HX3 := hid (HX2.out.keep hb); have HY3 := hid (HY2.out.keep hb)
     clear hb HB2 HX2 HY2
     go_wp2_with fail
     refine (HLT.out _).mono ?_
     rintro e w4 ⟨rfl, hb⟩
     have HB4 := hid (HB3.out.trans (hb.mono HB3.out.size)); have HX4 := hid (HX3.out.keep hb); have HY4 := hid (HY3.out.keep hb)
     clear hb HB3 HX3 HY3
     go_wp2_with fail
     refine (HW.out _).mono ?_
     rintro e w5 ⟨rfl, hb⟩
     have HB5 := hid (HB4.out.trans (hb.mono HB4.out.size)); have HX5 := hid (HX4.out.keep hb); have HY5 := hid (HY4.out.keep hb)
     clear hb HB4 HX4 HY4
     have hcy := HY5.out.1; have hfy := HY5.out.2.1
     go_wp2_with fail
     refine wp_region_ordC 99 [(0, 0), (1, 0), (2, 0), (3, 0), (4, 0), (5, 2), (6, 0), (7, 2)] (fun _ => True) (fun _ => True) (by kernel_rfl) (by kernel_rfl) (trivial) (trivial) ?_
     repeat ((first | refine ordC_skip rfl rfl ?_ | refine ordC_skip1 rfl rfl ?_ | ((first | refine ordC_q rfl rfl ?_ | refine ordC_p rfl rfl ?_); apply Exists.intro; refine ⟨fun wS hS => ?_, ?_⟩; (go_simp; try with_reducible rfl))); simp only [Act.put, List.setIfInBounds_toArray, List.set_cons_zero, List.set_cons_succ])
     refine ordC_l rfl rfl (fun K hK => ?_)
     go_simp
     refine hK _ _ ⟨trivial, trivial⟩ ?_
     clear hK K
     repeat ((first | refine ordC_skip rfl rfl ?_ | refine ordC_skip1 rfl rfl ?_ | ((first | refine ordC_q rfl rfl ?_ | refine ordC_p rfl rfl ?_); apply Exists.intro; refine ⟨fun wS hS => ?_, ?_⟩; (go_simp; try with_reducible rfl))); simp only [Act.put, List.setIfInBounds_toArray, List.set_cons_zero, List.set_cons_succ])
     refine ordC_l rfl rfl (fun K hK => ?_)
     go_simp
     refine hK _ _ ⟨trivial, trivial⟩ ?_
     clear hK K
     refine ordC_nil ?_
     have HY6 := hid (((HY5.out.setC 0 (by simp) (.int .i64 1)).setC 2 (by simp) (.string ⟨T.toArray⟩)).drew)
     have HX6 := hid (((HX5.out.setOther tb 0 (.int .i64 1) (by have := HZ.out; omega)).setOther tb 2 (.string ⟨T.toArray⟩) (by have := HZ.out; omega)).drew)
     have HB6 := hid (((HB5.out.setCell (p := ⟨tb, 0, none⟩) (by have := HZ.out; show _ ≤ tb; omega) (.int .i64 1)).setCell (p := ⟨tb, 2, none⟩) (by have := HZ.out; show _ ≤ tb; omega) (.string ⟨T.toArray⟩)).drew)
     generalize ((w5.setCell ⟨tb, 0, none⟩ (.int .i64 1)).setCell ⟨tb, 2, none⟩ (.string ⟨T.toArray⟩)).drew = Z at HY6 HX6 HB6 ⊢
     clear hcy hfy HX5 HY5 HB5
     have hcz := HX6.out.1; have hfz := HX6.out.2.1
     go_wp2_with fail
     refine wp_region_ordC 99 [(0, 0), (1, 0), (2, 0), (3, 0), (4, 0), (5, 0), (6, 2), (7, 0), (8, 0)] (fun _ => True) (fun W' => Bx W' tb (cellsTk 1 p T true)) (by kernel_rfl) (by kernel_rfl) (trivial) (HY6.out.drew) ?_
     repeat ((first | refine ordC_skip rfl rfl ?_ | refine ordC_skip1 rfl rfl ?_ | ((first | refine ordC_q rfl rfl ?_ | refine ordC_p rfl rfl ?_); apply Exists.intro; refine ⟨fun wS hS => ?_, ?_⟩; (go_simp; try with_reducible rfl))); simp only [Act.put, List.setIfInBounds_toArray, List.set_cons_zero, List.set_cons_succ])
     refine ordC_l rfl rfl (fun K hK => ?_)
     go_simp
     refine hK _ _ ⟨trivial, (((HY6.out.drew.setOther w.heap.size 0 _ (by have := HZ.out; omega)).setOther w.heap.size 1 _ (by have := HZ.out; omega)).setOther w.heap.size 2 _ (by have := HZ.out; omega)).setOther w.heap.size 3 _ (by have := HZ.out; omega)⟩ ?_
     clear hK K
     repeat ((first | refine ordC_skip rfl rfl ?_ | refine ordC_skip1 rfl rfl ?_ | ((first | refine ordC_q rfl rfl ?_ | refine ordC_p rfl rfl ?_); apply Exists.intro; refine ⟨fun wS hS => ?_, ?_⟩; (go_simp; try with_reducible rfl))); simp only [Act.put, List.setIfInBounds_toArray, List.set_cons_zero, List.set_cons_succ])
     refine ordC_nil ?_
     go_wp2_with fail
     have hwq : IntKind.i64.wrap (q : Int) = (q : Int) := Go.IntWalk.i64_in (q : Int) (by omega)
     refine bodyPost_ret (v := .tuple #[.agg (cellsTk 1 p T true), .int .i64 (q : Int), .int .i64 0]) (by simp [results, Tryz.results35, go_sem, hcz]) rfl ⟨true, rfl, ?_⟩
     exact ((((HB6.out.drew).setCell (p := ⟨w.heap.size, 0, none⟩) (Nat.le_refl _) _).setCell (p := ⟨w.heap.size, 1, none⟩) (Nat.le_refl _) _).setCell (p := ⟨w.heap.size, 2, none⟩) (Nat.le_refl _) _).setCell (p := ⟨w.heap.size, 3, none⟩) (Nat.le_refl _) _
   all_goals
     go_enter Tryz.func35, Tryz.ntmps35
     go_wp2_with fail
     refine (HSK.out _).mono ?_
     rintro e w1 ⟨rfl, hb1⟩
     have HB1 := hid ((belowA (Below.refl w.heap.size w) (.cells (cellsTk 0 0 [] false) 56)).trans (hb1.mono (by simp)))
     have HX1 := hid ((Bx.new w (cellsTk 0 0 [] false) 56).keep hb1)
     clear hb1
     go_wp2_with fail
     refine (HF.out _).mono ?_
     rintro e w2 ⟨rfl, hb2⟩
     have HB2 := hid ((belowA HB1.out (.cells (cellsTk 0 p [] false) 56)).trans (hb2.mono (by have := HB1.out.size; simp; omega)))
     have HX2 := hid ((HX1.out.alloc (.cells (cellsTk 0 p [] false) 56)).keep hb2); have HY2 := hid ((Bx.new w1 (cellsTk 0 p [] false) 56).keep hb2)
     have HZ := hid (show w.heap.size < w1.heap.size from HX1.out.2.2)
     clear hb2 HB1 HX1
     obtain ⟨tb, htb⟩ : ∃ tb, tb = w1.heap.size := ⟨_, rfl⟩
     rw [← htb] at HY2 HZ ⊢
     clear htb
     go_wp2_with fail
     refine (HDG.out _).mono ?_
     rintro e w3 ⟨rfl, hb⟩
     have HB3 := hid (HB2.out.trans (hb.mono HB2.out.size)); have HX3 := hid (HX2.out.keep hb); have HY3 := hid (HY2.out.keep hb)
     clear hb HB2 HX2 HY2
     go_wp2_with fail
     refine (HLT.out _).mono ?_
     rintro e w4 ⟨rfl, hb⟩
     have HB4 := hid (HB3.out.trans (hb.mono HB3.out.size)); have HX4 := hid (HX3.out.keep hb); have HY4 := hid (HY3.out.keep hb)
     clear hb HB3 HX3 HY3
     go_wp2_with fail
     refine (HW.out _).mono ?_
     rintro e w5 ⟨rfl, hb⟩
     have HB5 := hid (HB4.out.trans (hb.mono HB4.out.size)); have HX5 := hid (HX4.out.keep hb); have HY5 := hid (HY4.out.keep hb)
     clear hb HB4 HX4 HY4
     have hcy := HY5.out.1; have hfy := HY5.out.2.1
     go_wp2_with fail
     refine wp_region_ordC 99 [(0, 0), (1, 0), (2, 0), (3, 0), (4, 0), (5, 2), (6, 0), (7, 2)] (fun _ => True) (fun _ => True) (by kernel_rfl) (by kernel_rfl) (trivial) (trivial) ?_
     repeat ((first | refine ordC_skip rfl rfl ?_ | refine ordC_skip1 rfl rfl ?_ | ((first | refine ordC_q rfl rfl ?_ | refine ordC_p rfl rfl ?_); apply Exists.intro; refine ⟨fun wS hS => ?_, ?_⟩; (go_simp; try with_reducible rfl))); simp only [Act.put, List.setIfInBounds_toArray, List.set_cons_zero, List.set_cons_succ])
     refine ordC_l rfl rfl (fun K hK => ?_)
     go_simp
     refine hK _ _ ⟨trivial, trivial⟩ ?_
     clear hK K
     repeat ((first | refine ordC_skip rfl rfl ?_ | refine ordC_skip1 rfl rfl ?_ | ((first | refine ordC_q rfl rfl ?_ | refine ordC_p rfl rfl ?_); apply Exists.intro; refine ⟨fun wS hS => ?_, ?_⟩; (go_simp; try with_reducible rfl))); simp only [Act.put, List.setIfInBounds_toArray, List.set_cons_zero, List.set_cons_succ])
     refine ordC_l rfl rfl (fun K hK => ?_)
     go_simp
     refine hK _ _ ⟨trivial, trivial⟩ ?_
     clear hK K
     refine ordC_nil ?_
     have HY6 := hid (((HY5.out.setC 0 (by simp) (.int .i64 1)).setC 2 (by simp) (.string ⟨T.toArray⟩)).drew)
     have HX6 := hid (((HX5.out.setOther tb 0 (.int .i64 1) (by have := HZ.out; omega)).setOther tb 2 (.string ⟨T.toArray⟩) (by have := HZ.out; omega)).drew)
     have HB6 := hid (((HB5.out.setCell (p := ⟨tb, 0, none⟩) (by have := HZ.out; show _ ≤ tb; omega) (.int .i64 1)).setCell (p := ⟨tb, 2, none⟩) (by have := HZ.out; show _ ≤ tb; omega) (.string ⟨T.toArray⟩)).drew)
     generalize ((w5.setCell ⟨tb, 0, none⟩ (.int .i64 1)).setCell ⟨tb, 2, none⟩ (.string ⟨T.toArray⟩)).drew = Z at HY6 HX6 HB6 ⊢
     clear hcy hfy HX5 HY5 HB5
     have hcz := HX6.out.1; have hfz := HX6.out.2.1
     go_wp2_with fail
     refine wp_region_ordC 99 [(0, 0), (1, 0), (2, 0), (3, 0), (4, 0), (5, 0), (6, 2), (7, 0), (8, 0)] (fun _ => True) (fun W' => Bx W' tb (cellsTk 1 p T false)) (by kernel_rfl) (by kernel_rfl) (trivial) (HY6.out.drew) ?_
     repeat ((first | refine ordC_skip rfl rfl ?_ | refine ordC_skip1 rfl rfl ?_ | ((first | refine ordC_q rfl rfl ?_ | refine ordC_p rfl rfl ?_); apply Exists.intro; refine ⟨fun wS hS => ?_, ?_⟩; (go_simp; try with_reducible rfl))); simp only [Act.put, List.setIfInBounds_toArray, List.set_cons_zero, List.set_cons_succ])
     refine ordC_l rfl rfl (fun K hK => ?_)
     go_simp
     refine hK _ _ ⟨trivial, (((HY6.out.drew.setOther w.heap.size 0 _ (by have := HZ.out; omega)).setOther w.heap.size 1 _ (by have := HZ.out; omega)).setOther w.heap.size 2 _ (by have := HZ.out; omega)).setOther w.heap.size 3 _ (by have := HZ.out; omega)⟩ ?_
     clear hK K
     repeat ((first | refine ordC_skip rfl rfl ?_ | refine ordC_skip1 rfl rfl ?_ | ((first | refine ordC_q rfl rfl ?_ | refine ordC_p rfl rfl ?_); apply Exists.intro; refine ⟨fun wS hS => ?_, ?_⟩; (go_simp; try with_reducible rfl))); simp only [Act.put, List.setIfInBounds_toArray, List.set_cons_zero, List.set_cons_succ])
     refine ordC_nil ?_
     go_wp2_with fail
     have hwq : IntKind.i64.wrap (q : Int) = (q : Int) := Go.IntWalk.i64_in (q : Int) (by omega)
     refine bodyPost_ret (v := .tuple #[.agg (cellsTk 1 p T false), .int .i64 (q : Int), .int .i64 0]) (by simp [results, Tryz.results35, go_sem, hcz]) rfl ⟨false, rfl, ?_⟩
     exact ((((HB6.out.drew).setCell (p := ⟨w.heap.size, 0, none⟩) (Nat.le_refl _) _).setCell (p := ⟨w.heap.size, 1, none⟩) (Nat.le_refl _) _).setCell (p := ⟨w.heap.size, 2, none⟩) (Nat.le_refl _) _).setCell (p := ⟨w.heap.size, 3, none⟩) (Nat.le_refl _) _
end Yd
