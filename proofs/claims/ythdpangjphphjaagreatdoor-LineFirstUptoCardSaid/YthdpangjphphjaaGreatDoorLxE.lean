import Derived.Test.YthdpangjphphjaaGreatDoorLxN
import Derived.Test.YthdpangjphphjaaGreatDoorProg
set_option maxRecDepth 200000
set_option maxHeartbeats 8000000
namespace Yd
open Go Go.RowKit Go.Proofs

def endR (l : Bs) : Nat × Int := if (remS l).head? = none then (l.length, 0) else if (remS l).head? = some 10 then (l.length - (remS l).length + 1, 0) else (l.length - (remS l).length, 120)
theorem ends_skip {l : Bs} (h : endsS l = true) : skipS l = l := by
 cases l with
 | nil => rfl
 | cons b t =>
   rw [endsS_cons] at h
   have : blB b = false := by
     rw [← blR_lo]; unfold blR
     simp only [Bool.or_eq_true, beq_iff_eq] at h
     rw [beq_eq_false_iff_ne.2 (by omega), beq_eq_false_iff_ne.2 (by omega)]; rfl
   unfold skipS; rw [List.dropWhile_cons, this]; rfl
theorem ends_sk {l : Bs} (h : endsS l = true) : l.drop (skN l) = remS l ∧ skN l = l.length - (remS l).length ∧ (remS l).length ≤ l.length ∧ skO l = ((remS l).head? == none || (remS l).head? == some 10) := by
 have e := ends_skip h
 have e0 : (l.takeWhile blB).length = 0 := by have := skip_tw l; rw [e] at this; omega
 have h1 : l.drop (skN l) = remS l := by
   unfold skN remS
   rw [e0, e, Nat.zero_add]
   split <;> simp
 have hle : skN l ≤ l.length := by
   unfold skN
   rw [e0, e]
   split
   · have := whileE_le remB _ l (Nat.le_refl _); omega
   · omega
 refine ⟨h1, by rw [← h1, List.length_drop]; omega, by rw [← h1, List.length_drop]; omega, ?_⟩
 unfold skO
 rw [h1, e]
 by_cases h35 : l.head? = some 35
 · rw [h35]; rfl
 · have hr : remS l = l := by unfold remS; rw [if_neg h35]
   rw [hr]
   have he : (l.head? == none || l.head? == some 10) = true := by
     unfold endsS at h
     simp only [Bool.or_eq_true, beq_iff_eq] at h ⊢
     rcases h with (h | h) | h
     · exact .inl h
     · exact .inr h
     · exact absurd h h35
   rw [he]; simp
def RetEnd (nx : Nat) (er : Int) (w : World) (e : Ending) (w' : World) : Prop := ∃ k a t, RetTk k a t nx er w e w'
theorem lx_end (s : Bs) (p : Nat) (l : Bs) (hd : s.drop p = l) (hp : p ≤ s.length) (hlim : s.length ≤ 1000000) (he : endsS l = true) (w : World) (hT : Lib.Utf8Tabs 2 3 w) :
   Calls Tryz.prog 26 #[.string ⟨s.toArray⟩, .int .i64 p] w (RetEnd (p + (endR l).1) (endR l).2 w) := by
 have hll : p + l.length = s.length := by rw [← hd, List.length_drop]; omega
 obtain ⟨k1, k2, k3, k4⟩ := ends_sk he
 obtain ⟨q, hq⟩ : ∃ q, q = p + skN l := ⟨_, rfl⟩
 obtain ⟨r, hr⟩ : ∃ r, r = remS l := ⟨_, rfl⟩
 have hqd : s.drop q = r := by rw [hq, hr, ← k1, ← List.drop_drop, hd]
 have hqs : q ≤ s.length := by omega
 have hER : endR l = if r.head? = none then (l.length, 0) else if r.head? = some 10 then (l.length - r.length + 1, 0) else (l.length - r.length, 120) := by unfold endR; rw [hr]
 rw [← hr] at k1 k2 k3 k4
 have HSK : Hid (skO l = (r.head? == none || r.head? == some 10)) := hid k4
 have HS := fun W (hb : Below w.heap.size w W) => hid (lx_skip s p l hd hp hlim W (Utf8Tabs_below hT hb))
 rw [← hq] at HS
 have hsl := fun W => run_sl Tryz.underlying9 s q hqs W
 rw [hqd] at hsl
 have hz := bsz s
 have hqp : p ≤ q := by omega
 have HQ : Hid (q + r.length = s.length ∧ p + l.length = s.length ∧ q = p + (l.length - r.length)) := hid (by omega)
 clear k1 k2 k3 k4 hd he hT hr hll hq
 cases hrr : r with
 | nil =>
   subst hrr
   have HK : Hid (((([] : Bs).head? == none || ([] : Bs).head? == some 10) : Bool) = true) := hid rfl
   have HE : Hid (p + (endR l).1 = q ∧ (endR l).2 = 0) := hid (by rw [hER, if_pos (show ([] : Bs).head? = none from rfl)]; exact ⟨by have := HQ.out; simp at this; simp only []; omega, rfl⟩)
   clear hER hqd
   by_cases hpq : p = q
   · subst hpq
     by_cases hp0 : p = 0
     · have hdp : decide ((0 : Int) < (p : Int)) = false := decide_eq_false (by omega)
       have hdp2 : decide (0 < p) = false := decide_eq_false (by omega)
       clear hp0
       go_enter Tryz.func26, Tryz.ntmps26
       go_wp2_with fail
       refine (HS _ (belowA (Below.refl _ _) _)).out.mono ?_
       rintro e w1 ⟨rfl, hb1⟩
       have HB1 := hid ((belowA (Below.refl w.heap.size w) (.cells (cellsTk 0 0 [] false) 56)).trans (hb1.mono (by simp)))
       have HX1 := hid ((Bx.new w (cellsTk 0 0 [] false) 56).keep hb1)
       clear hb1
       rw [HSK.out, HK.out]
       have hcx := (HX1.out.alloc (.cells (cellsTk 0 p [] false) 56)).1; have hfx := (HX1.out.alloc (.cells (cellsTk 0 p [] false) 56)).2.1
       have HBZ := hid (belowA HB1.out (.cells (cellsTk 0 p [] false) 56))
       go_wp2_with fail
       refine bodyPost_ret (v := .tuple #[.agg (cellsTk 5 p [] false), .int .i64 (p : Int), .int .i64 0]) (by simp [results, Tryz.results26, go_sem, hcx]) rfl ⟨5, p, [], false, ?_, ?_⟩
       · rw [HE.out.1, HE.out.2] <;> rfl
       · exact (((HBZ.out.setCell (p := ⟨w.heap.size, 0, none⟩) (Nat.le_refl _) _).setCell (p := ⟨w.heap.size, 1, none⟩) (Nat.le_refl _) _).setCell (p := ⟨w.heap.size, 2, none⟩) (Nat.le_refl _) _).setCell (p := ⟨w.heap.size, 3, none⟩) (Nat.le_refl _) _
     · have hdp : decide ((0 : Int) < (p : Int)) = true := decide_eq_true (by omega)
       have hdp2 : decide (0 < p) = true := decide_eq_true (by omega)
       obtain ⟨b0, hb0⟩ : ∃ b0, s[p - 1]? = some b0 := ⟨_, List.getElem?_eq_getElem (by omega)⟩
       have hi1 := fun W => run_ix Tryz.underlying9 s (p - 1) b0 hb0 W
       rw [show ((p - 1 : Nat) : Int) = (p : Int) - 1 by omega] at hi1
       have hw32b : wrap32 (b0.toNat : Int) = (b0.toNat : Int) := IntWalk.wrap32_in _ (by have := b0.toNat_lt; omega)
       clear hb0 hp0
       cases hbl : blR (b0.toNat : Int)
       · cases hb10 : ((b0.toNat : Int) == 10)
         · have hb10' : ((b0.toNat : Int) != 10) = true := by rw [bne, hb10]; rfl
           go_enter Tryz.func26, Tryz.ntmps26
           go_wp2_with fail
           refine (HS _ (belowA (Below.refl _ _) _)).out.mono ?_
           rintro e w1 ⟨rfl, hb1⟩
           have HB1 := hid ((belowA (Below.refl w.heap.size w) (.cells (cellsTk 0 0 [] false) 56)).trans (hb1.mono (by simp)))
           have HX1 := hid ((Bx.new w (cellsTk 0 0 [] false) 56).keep hb1)
           clear hb1
           rw [HSK.out, HK.out]
           go_wp2_with fail
           refine (lx_blank _ _).mono ?_
           rintro e w2 ⟨rfl, hb2⟩
           rw [hbl]
           have HB2 := hid (HB1.out.trans (hb2.mono HB1.out.size)); have HX2 := hid (HX1.out.keep hb2)
           clear hb2
           have hcx := (HX2.out.alloc (.cells (cellsTk 0 p [] true) 56)).1; have hfx := (HX2.out.alloc (.cells (cellsTk 0 p [] true) 56)).2.1
           have HBZ := hid (belowA HB2.out (.cells (cellsTk 0 p [] true) 56))
           go_wp2_with fail
           refine bodyPost_ret (v := .tuple #[.agg (cellsTk 5 p [] false), .int .i64 (p : Int), .int .i64 0]) (by simp [results, Tryz.results26, go_sem, hcx]) rfl ⟨5, p, [], false, ?_, ?_⟩
           · rw [HE.out.1, HE.out.2] <;> rfl
           · exact (((HBZ.out.setCell (p := ⟨w.heap.size, 0, none⟩) (Nat.le_refl _) _).setCell (p := ⟨w.heap.size, 1, none⟩) (Nat.le_refl _) _).setCell (p := ⟨w.heap.size, 2, none⟩) (Nat.le_refl _) _).setCell (p := ⟨w.heap.size, 3, none⟩) (Nat.le_refl _) _
         · have hb10' : ((b0.toNat : Int) != 10) = false := by rw [bne, hb10]; rfl
           go_enter Tryz.func26, Tryz.ntmps26
           go_wp2_with fail
           refine (HS _ (belowA (Below.refl _ _) _)).out.mono ?_
           rintro e w1 ⟨rfl, hb1⟩
           have HB1 := hid ((belowA (Below.refl w.heap.size w) (.cells (cellsTk 0 0 [] false) 56)).trans (hb1.mono (by simp)))
           have HX1 := hid ((Bx.new w (cellsTk 0 0 [] false) 56).keep hb1)
           clear hb1
           rw [HSK.out, HK.out]
           go_wp2_with fail
           refine (lx_blank _ _).mono ?_
           rintro e w2 ⟨rfl, hb2⟩
           rw [hbl]
           have HB2 := hid (HB1.out.trans (hb2.mono HB1.out.size)); have HX2 := hid (HX1.out.keep hb2)
           clear hb2
           have hcx := (HX2.out.alloc (.cells (cellsTk 0 p [] false) 56)).1; have hfx := (HX2.out.alloc (.cells (cellsTk 0 p [] false) 56)).2.1
           have HBZ := hid (belowA HB2.out (.cells (cellsTk 0 p [] false) 56))
           go_wp2_with fail
           refine bodyPost_ret (v := .tuple #[.agg (cellsTk 5 p [] false), .int .i64 (p : Int), .int .i64 0]) (by simp [results, Tryz.results26, go_sem, hcx]) rfl ⟨5, p, [], false, ?_, ?_⟩
           · rw [HE.out.1, HE.out.2] <;> rfl
           · exact (((HBZ.out.setCell (p := ⟨w.heap.size, 0, none⟩) (Nat.le_refl _) _).setCell (p := ⟨w.heap.size, 1, none⟩) (Nat.le_refl _) _).setCell (p := ⟨w.heap.size, 2, none⟩) (Nat.le_refl _) _).setCell (p := ⟨w.heap.size, 3, none⟩) (Nat.le_refl _) _
       · skip
         go_enter Tryz.func26, Tryz.ntmps26
         go_wp2_with fail
         refine (HS _ (belowA (Below.refl _ _) _)).out.mono ?_
         rintro e w1 ⟨rfl, hb1⟩
         have HB1 := hid ((belowA (Below.refl w.heap.size w) (.cells (cellsTk 0 0 [] false) 56)).trans (hb1.mono (by simp)))
         have HX1 := hid ((Bx.new w (cellsTk 0 0 [] false) 56).keep hb1)
         clear hb1
         rw [HSK.out, HK.out]
         go_wp2_with fail
         refine (lx_blank _ _).mono ?_
         rintro e w2 ⟨rfl, hb2⟩
         rw [hbl]
         have HB2 := hid (HB1.out.trans (hb2.mono HB1.out.size)); have HX2 := hid (HX1.out.keep hb2)
         clear hb2
         have hcx := (HX2.out.alloc (.cells (cellsTk 0 p [] false) 56)).1; have hfx := (HX2.out.alloc (.cells (cellsTk 0 p [] false) 56)).2.1
         have HBZ := hid (belowA HB2.out (.cells (cellsTk 0 p [] false) 56))
         go_wp2_with fail
         refine bodyPost_ret (v := .tuple #[.agg (cellsTk 5 p [] false), .int .i64 (p : Int), .int .i64 0]) (by simp [results, Tryz.results26, go_sem, hcx]) rfl ⟨5, p, [], false, ?_, ?_⟩
         · rw [HE.out.1, HE.out.2] <;> rfl
         · exact (((HBZ.out.setCell (p := ⟨w.heap.size, 0, none⟩) (Nat.le_refl _) _).setCell (p := ⟨w.heap.size, 1, none⟩) (Nat.le_refl _) _).setCell (p := ⟨w.heap.size, 2, none⟩) (Nat.le_refl _) _).setCell (p := ⟨w.heap.size, 3, none⟩) (Nat.le_refl _) _
   · have hne : ((q : Int) == (p : Int)) = false := beq_eq_false_iff_ne.2 (by omega)
     clear hpq
     go_enter Tryz.func26, Tryz.ntmps26
     go_wp2_with fail
     refine (HS _ (belowA (Below.refl _ _) _)).out.mono ?_
     rintro e w1 ⟨rfl, hb1⟩
     have HB1 := hid ((belowA (Below.refl w.heap.size w) (.cells (cellsTk 0 0 [] false) 56)).trans (hb1.mono (by simp)))
     have HX1 := hid ((Bx.new w (cellsTk 0 0 [] false) 56).keep hb1)
     clear hb1
     rw [HSK.out, HK.out]
     have hcx := (HX1.out.alloc (.cells (cellsTk 0 q [] false) 56)).1; have hfx := (HX1.out.alloc (.cells (cellsTk 0 q [] false) 56)).2.1
     have HBZ := hid (belowA HB1.out (.cells (cellsTk 0 q [] false) 56))
     go_wp2_with fail
     refine bodyPost_ret (v := .tuple #[.agg (cellsTk 5 q [] false), .int .i64 (q : Int), .int .i64 0]) (by simp [results, Tryz.results26, go_sem, hcx]) rfl ⟨5, q, [], false, ?_, ?_⟩
     · rw [HE.out.1, HE.out.2] <;> rfl
     · exact (((HBZ.out.setCell (p := ⟨w.heap.size, 0, none⟩) (Nat.le_refl _) _).setCell (p := ⟨w.heap.size, 1, none⟩) (Nat.le_refl _) _).setCell (p := ⟨w.heap.size, 2, none⟩) (Nat.le_refl _) _).setCell (p := ⟨w.heap.size, 3, none⟩) (Nat.le_refl _) _
 | cons b t =>
   subst hrr
   have hi0 : ∀ W, (Instr.index 9 (.string ⟨(b :: t).toArray⟩) (.int .i64 0)).run Tryz.prog W = .ok (.int .u8 (b.toNat : Int)) W := fun W => run_ix Tryz.underlying9 (b :: t) 0 b rfl W
   have hsh : ∀ W, (Instr.slice 9 (.string ⟨(b :: t).toArray⟩) none (some (.int .i64 1)) none).run Tryz.prog W = .ok (.string ⟨[b].toArray⟩) W := fun W => run_slh Tryz.underlying9 (b :: t) 1 (by simp) W
   have hempty : ((b :: t) == ([] : Bs)) = false := rfl
   by_cases hb10 : b = 10
   · subst hb10
     have HK : Hid (((((10 :: t : Bs).head?) == none || ((10 :: t : Bs).head?) == some 10) : Bool) = true) := hid rfl
     have HE : Hid (p + (endR l).1 = q + 1 ∧ (endR l).2 = 0) := hid (by rw [hER, if_neg (by simp), if_pos (show (10 :: t : Bs).head? = some 10 from rfl)]; exact ⟨by have := HQ.out; simp only [] at this ⊢; omega, rfl⟩)
     have hq2 : q + 1 ≤ s.length := by have := HQ.out; simp at this; omega
     clear hER hqd
     by_cases hpq : p = q
     · subst hpq
       by_cases hp0 : p = 0
       · have hdp : decide ((0 : Int) < (p : Int)) = false := decide_eq_false (by omega)
         have hdp2 : decide (0 < p) = false := decide_eq_false (by omega)
         clear hp0
         go_enter Tryz.func26, Tryz.ntmps26
         go_wp2_with fail
         refine (HS _ (belowA (Below.refl _ _) _)).out.mono ?_
         rintro e w1 ⟨rfl, hb1⟩
         have HB1 := hid ((belowA (Below.refl w.heap.size w) (.cells (cellsTk 0 0 [] false) 56)).trans (hb1.mono (by simp)))
         have HX1 := hid ((Bx.new w (cellsTk 0 0 [] false) 56).keep hb1)
         clear hb1
         rw [HSK.out, HK.out]
         have hcx := (HX1.out.alloc (.cells (cellsTk 0 p [] false) 56)).1; have hfx := (HX1.out.alloc (.cells (cellsTk 0 p [] false) 56)).2.1
         have HBZ := hid (belowA HB1.out (.cells (cellsTk 0 p [] false) 56))
         go_wp2_with fail
         have hwq : IntKind.i64.wrap ((p : Int) + 1) = (p : Int) + 1 := Go.IntWalk.i64_in _ (by omega)
         refine bodyPost_ret (v := .tuple #[.agg (cellsTk 4 p [10] false), .int .i64 ((p : Int) + 1), .int .i64 0]) (by simp [results, Tryz.results26, go_sem, hcx]) rfl ⟨4, p, [10], false, ?_, ?_⟩
         · rw [HE.out.1, HE.out.2] <;> rfl
         · exact (((HBZ.out.setCell (p := ⟨w.heap.size, 0, none⟩) (Nat.le_refl _) _).setCell (p := ⟨w.heap.size, 1, none⟩) (Nat.le_refl _) _).setCell (p := ⟨w.heap.size, 2, none⟩) (Nat.le_refl _) _).setCell (p := ⟨w.heap.size, 3, none⟩) (Nat.le_refl _) _
       · have hdp : decide ((0 : Int) < (p : Int)) = true := decide_eq_true (by omega)
         have hdp2 : decide (0 < p) = true := decide_eq_true (by omega)
         obtain ⟨b0, hb0⟩ : ∃ b0, s[p - 1]? = some b0 := ⟨_, List.getElem?_eq_getElem (by omega)⟩
         have hi1 := fun W => run_ix Tryz.underlying9 s (p - 1) b0 hb0 W
         rw [show ((p - 1 : Nat) : Int) = (p : Int) - 1 by omega] at hi1
         have hw32b : wrap32 (b0.toNat : Int) = (b0.toNat : Int) := IntWalk.wrap32_in _ (by have := b0.toNat_lt; omega)
         clear hb0 hp0
         cases hbl : blR (b0.toNat : Int)
         · cases hb10 : ((b0.toNat : Int) == 10)
           · have hb10' : ((b0.toNat : Int) != 10) = true := by rw [bne, hb10]; rfl
             go_enter Tryz.func26, Tryz.ntmps26
             go_wp2_with fail
             refine (HS _ (belowA (Below.refl _ _) _)).out.mono ?_
             rintro e w1 ⟨rfl, hb1⟩
             have HB1 := hid ((belowA (Below.refl w.heap.size w) (.cells (cellsTk 0 0 [] false) 56)).trans (hb1.mono (by simp)))
             have HX1 := hid ((Bx.new w (cellsTk 0 0 [] false) 56).keep hb1)
             clear hb1
             rw [HSK.out, HK.out]
             go_wp2_with fail
             refine (lx_blank _ _).mono ?_
             rintro e w2 ⟨rfl, hb2⟩
             rw [hbl]
             have HB2 := hid (HB1.out.trans (hb2.mono HB1.out.size)); have HX2 := hid (HX1.out.keep hb2)
             clear hb2
             have hcx := (HX2.out.alloc (.cells (cellsTk 0 p [] true) 56)).1; have hfx := (HX2.out.alloc (.cells (cellsTk 0 p [] true) 56)).2.1
             have HBZ := hid (belowA HB2.out (.cells (cellsTk 0 p [] true) 56))
             go_wp2_with fail
             have hwq : IntKind.i64.wrap ((p : Int) + 1) = (p : Int) + 1 := Go.IntWalk.i64_in _ (by omega)
             refine bodyPost_ret (v := .tuple #[.agg (cellsTk 4 p [10] false), .int .i64 ((p : Int) + 1), .int .i64 0]) (by simp [results, Tryz.results26, go_sem, hcx]) rfl ⟨4, p, [10], false, ?_, ?_⟩
             · rw [HE.out.1, HE.out.2] <;> rfl
             · exact (((HBZ.out.setCell (p := ⟨w.heap.size, 0, none⟩) (Nat.le_refl _) _).setCell (p := ⟨w.heap.size, 1, none⟩) (Nat.le_refl _) _).setCell (p := ⟨w.heap.size, 2, none⟩) (Nat.le_refl _) _).setCell (p := ⟨w.heap.size, 3, none⟩) (Nat.le_refl _) _
           · have hb10' : ((b0.toNat : Int) != 10) = false := by rw [bne, hb10]; rfl
             go_enter Tryz.func26, Tryz.ntmps26
             go_wp2_with fail
             refine (HS _ (belowA (Below.refl _ _) _)).out.mono ?_
             rintro e w1 ⟨rfl, hb1⟩
             have HB1 := hid ((belowA (Below.refl w.heap.size w) (.cells (cellsTk 0 0 [] false) 56)).trans (hb1.mono (by simp)))
             have HX1 := hid ((Bx.new w (cellsTk 0 0 [] false) 56).keep hb1)
             clear hb1
             rw [HSK.out, HK.out]
             go_wp2_with fail
             refine (lx_blank _ _).mono ?_
             rintro e w2 ⟨rfl, hb2⟩
             rw [hbl]
             have HB2 := hid (HB1.out.trans (hb2.mono HB1.out.size)); have HX2 := hid (HX1.out.keep hb2)
             clear hb2
             have hcx := (HX2.out.alloc (.cells (cellsTk 0 p [] false) 56)).1; have hfx := (HX2.out.alloc (.cells (cellsTk 0 p [] false) 56)).2.1
             have HBZ := hid (belowA HB2.out (.cells (cellsTk 0 p [] false) 56))
             go_wp2_with fail
             have hwq : IntKind.i64.wrap ((p : Int) + 1) = (p : Int) + 1 := Go.IntWalk.i64_in _ (by omega)
             refine bodyPost_ret (v := .tuple #[.agg (cellsTk 4 p [10] false), .int .i64 ((p : Int) + 1), .int .i64 0]) (by simp [results, Tryz.results26, go_sem, hcx]) rfl ⟨4, p, [10], false, ?_, ?_⟩
             · rw [HE.out.1, HE.out.2] <;> rfl
             · exact (((HBZ.out.setCell (p := ⟨w.heap.size, 0, none⟩) (Nat.le_refl _) _).setCell (p := ⟨w.heap.size, 1, none⟩) (Nat.le_refl _) _).setCell (p := ⟨w.heap.size, 2, none⟩) (Nat.le_refl _) _).setCell (p := ⟨w.heap.size, 3, none⟩) (Nat.le_refl _) _
         · skip
           go_enter Tryz.func26, Tryz.ntmps26
           go_wp2_with fail
           refine (HS _ (belowA (Below.refl _ _) _)).out.mono ?_
           rintro e w1 ⟨rfl, hb1⟩
           have HB1 := hid ((belowA (Below.refl w.heap.size w) (.cells (cellsTk 0 0 [] false) 56)).trans (hb1.mono (by simp)))
           have HX1 := hid ((Bx.new w (cellsTk 0 0 [] false) 56).keep hb1)
           clear hb1
           rw [HSK.out, HK.out]
           go_wp2_with fail
           refine (lx_blank _ _).mono ?_
           rintro e w2 ⟨rfl, hb2⟩
           rw [hbl]
           have HB2 := hid (HB1.out.trans (hb2.mono HB1.out.size)); have HX2 := hid (HX1.out.keep hb2)
           clear hb2
           have hcx := (HX2.out.alloc (.cells (cellsTk 0 p [] false) 56)).1; have hfx := (HX2.out.alloc (.cells (cellsTk 0 p [] false) 56)).2.1
           have HBZ := hid (belowA HB2.out (.cells (cellsTk 0 p [] false) 56))
           go_wp2_with fail
           have hwq : IntKind.i64.wrap ((p : Int) + 1) = (p : Int) + 1 := Go.IntWalk.i64_in _ (by omega)
           refine bodyPost_ret (v := .tuple #[.agg (cellsTk 4 p [10] false), .int .i64 ((p : Int) + 1), .int .i64 0]) (by simp [results, Tryz.results26, go_sem, hcx]) rfl ⟨4, p, [10], false, ?_, ?_⟩
           · rw [HE.out.1, HE.out.2] <;> rfl
           · exact (((HBZ.out.setCell (p := ⟨w.heap.size, 0, none⟩) (Nat.le_refl _) _).setCell (p := ⟨w.heap.size, 1, none⟩) (Nat.le_refl _) _).setCell (p := ⟨w.heap.size, 2, none⟩) (Nat.le_refl _) _).setCell (p := ⟨w.heap.size, 3, none⟩) (Nat.le_refl _) _
     · have hne : ((q : Int) == (p : Int)) = false := beq_eq_false_iff_ne.2 (by omega)
       clear hpq
       go_enter Tryz.func26, Tryz.ntmps26
       go_wp2_with fail
       refine (HS _ (belowA (Below.refl _ _) _)).out.mono ?_
       rintro e w1 ⟨rfl, hb1⟩
       have HB1 := hid ((belowA (Below.refl w.heap.size w) (.cells (cellsTk 0 0 [] false) 56)).trans (hb1.mono (by simp)))
       have HX1 := hid ((Bx.new w (cellsTk 0 0 [] false) 56).keep hb1)
       clear hb1
       rw [HSK.out, HK.out]
       have hcx := (HX1.out.alloc (.cells (cellsTk 0 q [] false) 56)).1; have hfx := (HX1.out.alloc (.cells (cellsTk 0 q [] false) 56)).2.1
       have HBZ := hid (belowA HB1.out (.cells (cellsTk 0 q [] false) 56))
       go_wp2_with fail
       have hwq : IntKind.i64.wrap ((q : Int) + 1) = (q : Int) + 1 := Go.IntWalk.i64_in _ (by omega)
       refine bodyPost_ret (v := .tuple #[.agg (cellsTk 4 q [10] false), .int .i64 ((q : Int) + 1), .int .i64 0]) (by simp [results, Tryz.results26, go_sem, hcx]) rfl ⟨4, q, [10], false, ?_, ?_⟩
       · rw [HE.out.1, HE.out.2] <;> rfl
       · exact (((HBZ.out.setCell (p := ⟨w.heap.size, 0, none⟩) (Nat.le_refl _) _).setCell (p := ⟨w.heap.size, 1, none⟩) (Nat.le_refl _) _).setCell (p := ⟨w.heap.size, 2, none⟩) (Nat.le_refl _) _).setCell (p := ⟨w.heap.size, 3, none⟩) (Nat.le_refl _) _
   · have HK : Hid (((((b :: t : Bs).head?) == none || ((b :: t : Bs).head?) == some 10) : Bool) = false) := hid (by simp [hb10])
     have HE : Hid (p + (endR l).1 = q ∧ (endR l).2 = 120) := hid (by rw [hER, if_neg (by simp), if_neg (by simpa using hb10)]; exact ⟨by have := HQ.out; simp only [] at this ⊢; omega, rfl⟩)
     clear hER hqd
     by_cases hpq : p = q
     · subst hpq
       by_cases hp0 : p = 0
       · have hdp : decide ((0 : Int) < (p : Int)) = false := decide_eq_false (by omega)
         have hdp2 : decide (0 < p) = false := decide_eq_false (by omega)
         clear hp0
         go_enter Tryz.func26, Tryz.ntmps26
         go_wp2_with fail
         refine (HS _ (belowA (Below.refl _ _) _)).out.mono ?_
         rintro e w1 ⟨rfl, hb1⟩
         have HB1 := hid ((belowA (Below.refl w.heap.size w) (.cells (cellsTk 0 0 [] false) 56)).trans (hb1.mono (by simp)))
         have HX1 := hid ((Bx.new w (cellsTk 0 0 [] false) 56).keep hb1)
         clear hb1
         rw [HSK.out, HK.out]
         have hcx := (HX1.out.alloc (.cells (cellsTk 0 p [] false) 56)).1; have hfx := (HX1.out.alloc (.cells (cellsTk 0 p [] false) 56)).2.1
         have HBZ := hid (belowA HB1.out (.cells (cellsTk 0 p [] false) 56))
         go_wp2_with fail
         refine bodyPost_ret (v := .tuple #[.agg (cellsTk 0 0 [] false), .int .i64 (p : Int), .int .i64 120]) (by simp [results, Tryz.results26, go_sem, hcx]) rfl ⟨0, 0, [], false, ?_, ?_⟩
         · rw [HE.out.1, HE.out.2] <;> rfl
         · exact (((HBZ.out.setCell (p := ⟨w.heap.size, 0, none⟩) (Nat.le_refl _) _).setCell (p := ⟨w.heap.size, 1, none⟩) (Nat.le_refl _) _).setCell (p := ⟨w.heap.size, 2, none⟩) (Nat.le_refl _) _).setCell (p := ⟨w.heap.size, 3, none⟩) (Nat.le_refl _) _
       · have hdp : decide ((0 : Int) < (p : Int)) = true := decide_eq_true (by omega)
         have hdp2 : decide (0 < p) = true := decide_eq_true (by omega)
         obtain ⟨b0, hb0⟩ : ∃ b0, s[p - 1]? = some b0 := ⟨_, List.getElem?_eq_getElem (by omega)⟩
         have hi1 := fun W => run_ix Tryz.underlying9 s (p - 1) b0 hb0 W
         rw [show ((p - 1 : Nat) : Int) = (p : Int) - 1 by omega] at hi1
         have hw32b : wrap32 (b0.toNat : Int) = (b0.toNat : Int) := IntWalk.wrap32_in _ (by have := b0.toNat_lt; omega)
         clear hb0 hp0
         cases hbl : blR (b0.toNat : Int)
         · cases hb10 : ((b0.toNat : Int) == 10)
           · have hb10' : ((b0.toNat : Int) != 10) = true := by rw [bne, hb10]; rfl
             go_enter Tryz.func26, Tryz.ntmps26
             go_wp2_with fail
             refine (HS _ (belowA (Below.refl _ _) _)).out.mono ?_
             rintro e w1 ⟨rfl, hb1⟩
             have HB1 := hid ((belowA (Below.refl w.heap.size w) (.cells (cellsTk 0 0 [] false) 56)).trans (hb1.mono (by simp)))
             have HX1 := hid ((Bx.new w (cellsTk 0 0 [] false) 56).keep hb1)
             clear hb1
             rw [HSK.out, HK.out]
             go_wp2_with fail
             refine (lx_blank _ _).mono ?_
             rintro e w2 ⟨rfl, hb2⟩
             rw [hbl]
             have HB2 := hid (HB1.out.trans (hb2.mono HB1.out.size)); have HX2 := hid (HX1.out.keep hb2)
             clear hb2
             have hcx := (HX2.out.alloc (.cells (cellsTk 0 p [] true) 56)).1; have hfx := (HX2.out.alloc (.cells (cellsTk 0 p [] true) 56)).2.1
             have HBZ := hid (belowA HB2.out (.cells (cellsTk 0 p [] true) 56))
             go_wp2_with fail
             refine bodyPost_ret (v := .tuple #[.agg (cellsTk 0 0 [] false), .int .i64 (p : Int), .int .i64 120]) (by simp [results, Tryz.results26, go_sem, hcx]) rfl ⟨0, 0, [], false, ?_, ?_⟩
             · rw [HE.out.1, HE.out.2] <;> rfl
             · exact (((HBZ.out.setCell (p := ⟨w.heap.size, 0, none⟩) (Nat.le_refl _) _).setCell (p := ⟨w.heap.size, 1, none⟩) (Nat.le_refl _) _).setCell (p := ⟨w.heap.size, 2, none⟩) (Nat.le_refl _) _).setCell (p := ⟨w.heap.size, 3, none⟩) (Nat.le_refl _) _
           · have hb10' : ((b0.toNat : Int) != 10) = false := by rw [bne, hb10]; rfl
             go_enter Tryz.func26, Tryz.ntmps26
             go_wp2_with fail
             refine (HS _ (belowA (Below.refl _ _) _)).out.mono ?_
             rintro e w1 ⟨rfl, hb1⟩
             have HB1 := hid ((belowA (Below.refl w.heap.size w) (.cells (cellsTk 0 0 [] false) 56)).trans (hb1.mono (by simp)))
             have HX1 := hid ((Bx.new w (cellsTk 0 0 [] false) 56).keep hb1)
             clear hb1
             rw [HSK.out, HK.out]
             go_wp2_with fail
             refine (lx_blank _ _).mono ?_
             rintro e w2 ⟨rfl, hb2⟩
             rw [hbl]
             have HB2 := hid (HB1.out.trans (hb2.mono HB1.out.size)); have HX2 := hid (HX1.out.keep hb2)
             clear hb2
             have hcx := (HX2.out.alloc (.cells (cellsTk 0 p [] false) 56)).1; have hfx := (HX2.out.alloc (.cells (cellsTk 0 p [] false) 56)).2.1
             have HBZ := hid (belowA HB2.out (.cells (cellsTk 0 p [] false) 56))
             go_wp2_with fail
             refine bodyPost_ret (v := .tuple #[.agg (cellsTk 0 0 [] false), .int .i64 (p : Int), .int .i64 120]) (by simp [results, Tryz.results26, go_sem, hcx]) rfl ⟨0, 0, [], false, ?_, ?_⟩
             · rw [HE.out.1, HE.out.2] <;> rfl
             · exact (((HBZ.out.setCell (p := ⟨w.heap.size, 0, none⟩) (Nat.le_refl _) _).setCell (p := ⟨w.heap.size, 1, none⟩) (Nat.le_refl _) _).setCell (p := ⟨w.heap.size, 2, none⟩) (Nat.le_refl _) _).setCell (p := ⟨w.heap.size, 3, none⟩) (Nat.le_refl _) _
         · skip
           go_enter Tryz.func26, Tryz.ntmps26
           go_wp2_with fail
           refine (HS _ (belowA (Below.refl _ _) _)).out.mono ?_
           rintro e w1 ⟨rfl, hb1⟩
           have HB1 := hid ((belowA (Below.refl w.heap.size w) (.cells (cellsTk 0 0 [] false) 56)).trans (hb1.mono (by simp)))
           have HX1 := hid ((Bx.new w (cellsTk 0 0 [] false) 56).keep hb1)
           clear hb1
           rw [HSK.out, HK.out]
           go_wp2_with fail
           refine (lx_blank _ _).mono ?_
           rintro e w2 ⟨rfl, hb2⟩
           rw [hbl]
           have HB2 := hid (HB1.out.trans (hb2.mono HB1.out.size)); have HX2 := hid (HX1.out.keep hb2)
           clear hb2
           have hcx := (HX2.out.alloc (.cells (cellsTk 0 p [] false) 56)).1; have hfx := (HX2.out.alloc (.cells (cellsTk 0 p [] false) 56)).2.1
           have HBZ := hid (belowA HB2.out (.cells (cellsTk 0 p [] false) 56))
           go_wp2_with fail
           refine bodyPost_ret (v := .tuple #[.agg (cellsTk 0 0 [] false), .int .i64 (p : Int), .int .i64 120]) (by simp [results, Tryz.results26, go_sem, hcx]) rfl ⟨0, 0, [], false, ?_, ?_⟩
           · rw [HE.out.1, HE.out.2] <;> rfl
           · exact (((HBZ.out.setCell (p := ⟨w.heap.size, 0, none⟩) (Nat.le_refl _) _).setCell (p := ⟨w.heap.size, 1, none⟩) (Nat.le_refl _) _).setCell (p := ⟨w.heap.size, 2, none⟩) (Nat.le_refl _) _).setCell (p := ⟨w.heap.size, 3, none⟩) (Nat.le_refl _) _
     · have hne : ((q : Int) == (p : Int)) = false := beq_eq_false_iff_ne.2 (by omega)
       clear hpq
       go_enter Tryz.func26, Tryz.ntmps26
       go_wp2_with fail
       refine (HS _ (belowA (Below.refl _ _) _)).out.mono ?_
       rintro e w1 ⟨rfl, hb1⟩
       have HB1 := hid ((belowA (Below.refl w.heap.size w) (.cells (cellsTk 0 0 [] false) 56)).trans (hb1.mono (by simp)))
       have HX1 := hid ((Bx.new w (cellsTk 0 0 [] false) 56).keep hb1)
       clear hb1
       rw [HSK.out, HK.out]
       have hcx := (HX1.out.alloc (.cells (cellsTk 0 q [] false) 56)).1; have hfx := (HX1.out.alloc (.cells (cellsTk 0 q [] false) 56)).2.1
       have HBZ := hid (belowA HB1.out (.cells (cellsTk 0 q [] false) 56))
       go_wp2_with fail
       refine bodyPost_ret (v := .tuple #[.agg (cellsTk 0 0 [] false), .int .i64 (q : Int), .int .i64 120]) (by simp [results, Tryz.results26, go_sem, hcx]) rfl ⟨0, 0, [], false, ?_, ?_⟩
       · rw [HE.out.1, HE.out.2] <;> rfl
       · exact (((HBZ.out.setCell (p := ⟨w.heap.size, 0, none⟩) (Nat.le_refl _) _).setCell (p := ⟨w.heap.size, 1, none⟩) (Nat.le_refl _) _).setCell (p := ⟨w.heap.size, 2, none⟩) (Nat.le_refl _) _).setCell (p := ⟨w.heap.size, 3, none⟩) (Nat.le_refl _) _
end Yd
