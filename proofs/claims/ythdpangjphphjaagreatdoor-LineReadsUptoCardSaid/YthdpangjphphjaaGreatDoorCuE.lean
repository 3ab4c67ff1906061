import Derived.Test.YthdpangjphphjaaGreatDoorCu9
import Derived.Test.YthdpangjphphjaaGreatDoorLxN
import Derived.Test.YthdpangjphphjaaGreatDoorProg
set_option maxRecDepth 200000
set_option maxHeartbeats 8000000
namespace Yd
open Go Go.RowKit Go.Proofs

def EndN (s l : Bs) (nx er : Int) : Prop :=
 ((remS l).head? = none ∧ nx = (s.length : Int) ∧ er = 0) ∨ ((remS l).head? = some 10 ∧ nx = ((s.length - (remS l).length + 1 : Nat) : Int) ∧ er = 0) ∨ ((remS l).head? ≠ none ∧ (remS l).head? ≠ some 10 ∧ nx = ((s.length - (remS l).length : Nat) : Int) ∧ er ≠ 0)
def NxEnd (s l : Bs) (w : World) (e : Ending) (w' : World) : Prop :=
 ∃ (k a : Int) (tx : Bs) (g : Bool) (nx er : Int), e = .returned (.tuple #[.agg (cellsTk k a tx g), .int .i64 nx, .int .i64 er]) ∧ Below w.heap.size w w' ∧ EndN s l nx er
theorem rem_drop (l : Bs) : l.drop (l.length - (remS l).length) = remS l := by
 unfold remS
 by_cases h : l.head? = some 35
 · rw [if_pos h, List.length_drop]
   rcases Nat.lt_or_ge (whileE ⟨l.toArray⟩ remB) l.length with h | h
   · rw [show l.length - (l.length - whileE ⟨l.toArray⟩ remB) = whileE ⟨l.toArray⟩ remB by omega]
   · rw [List.drop_eq_nil_of_le h, List.drop_eq_nil_of_le (by omega)]
 · rw [if_neg h, Nat.sub_self]; rfl
theorem r_next_end (s : Bs) (p : Nat) (l : Bs) (hd : s.drop p = l) (hp : p ≤ s.length) (hlim : s.length ≤ 1000000) (he : endsS l = true) (w : World) :
   Calls Tryz.prog 35 #[.string ⟨s.toArray⟩, .int .i64 (p : Int)] w (NxEnd s l w) := by
 have hz := bsz s
 have hpb : p ≤ 1000000 := by omega
 have hll : p + l.length = s.length := by rw [← hd, List.length_drop]; omega
 have hrl : (remS l).length ≤ l.length := by unfold remS; split <;> simp
 have hsk := r_skip_end s p l hd hp hlim he
 have hrd := rem_drop l
 obtain ⟨q, hq⟩ : ∃ q : Nat, q = p + (endsR l).1 := ⟨_, rfl⟩
 rw [← hq] at hsk
 have hq1 : q = s.length - (remS l).length := by rw [hq]; show p + (l.length - (remS l).length) = _; omega
 have hdq : s.drop q = remS l := by rw [← hrd, ← hd, List.drop_drop, hd]; congr 1
 have hok : (endsR l).2 = ((remS l).head? == none || (remS l).head? == some 10) := rfl
 have hqs : q + (remS l).length = s.length := by omega
 have hqb : q ≤ 1000000 := by omega
 have hql : q ≤ s.length := by omega
 have hpq : p ≤ q := by omega
 unfold NxEnd EndN
 have HQ1 := hid hq1
 obtain ⟨R, hR⟩ : ∃ R, R = remS l := ⟨_, rfl⟩
 rw [← hR] at hdq hok hqs HQ1 ⊢
 clear hq hq1 hrd hR hrl he hll hd
 cases R with
 | nil =>
   have hqe : ((q : Int) == (s.length : Int)) = true := by simp at hqs; simp; omega
   have hqe2 : (q == s.length) = true := by simp at hqs; simp; omega
   have HQS := hid (show (q : Int) = (s.length : Int) by simp at hqs; omega)
   have HSK := hid (fun W => hsk W)
   rw [hok] at HSK
   have hsk1 := HSK.out
   simp only [List.head?_nil, beq_self_eq_true, Bool.true_or] at hsk1
   clear HSK
   have HSK := hid hsk1
   clear hsk hsk1 hok hdq hqs HQ1
   by_cases hqp : q = p
   rotate_left
   · have hqpb : ((q : Int) == (p : Int)) = false := beq_eq_false_iff_ne.2 (by omega)
     have hqpn : (q == p) = false := beq_eq_false_iff_ne.2 hqp
     clear hqp hpq
     go_enter Tryz.func35, Tryz.ntmps35
     go_wp2_with fail
     refine (HSK.out _).mono ?_
     rintro e w1 ⟨rfl, hb1⟩
     have HB1 := hid ((belowA (Below.refl w.heap.size w) (.cells (cellsTk 0 0 [] false) 56)).trans (hb1.mono (by simp)))
     have HX1 := hid ((Bx.new w (cellsTk 0 0 [] false) 56).keep hb1)
     clear hb1
     have hcx := (HX1.out.alloc (.cells (cellsTk 0 q [] false) 56)).1; have hfx := (HX1.out.alloc (.cells (cellsTk 0 q [] false) 56)).2.1
     have HB2 := hid (belowA HB1.out (.cells (cellsTk 0 q [] false) 56))
     go_wp2_with fail
     refine bodyPost_ret (v := .tuple #[.agg (cellsTk 5 (q : Int) [] false), .int .i64 (q : Int), .int .i64 0]) (by simp [results, Tryz.results35, go_sem, hcx]) rfl ⟨5, (q : Int), [], false, (q : Int), 0, rfl, ?_, .inl ⟨rfl, HQS.out, rfl⟩⟩
     exact (((HB2.out.setCell (p := ⟨w.heap.size, 0, none⟩) (Nat.le_refl _) _).setCell (p := ⟨w.heap.size, 1, none⟩) (Nat.le_refl _) _).setCell (p := ⟨w.heap.size, 2, none⟩) (Nat.le_refl _) _).setCell (p := ⟨w.heap.size, 3, none⟩) (Nat.le_refl _) _
   · have hqpb : ((q : Int) == (p : Int)) = true := by simp [hqp]
     have hqpn : (q == p) = true := by simp [hqp]
     clear hqp hpq
     by_cases hp0 : q = 0
     · have hdp : decide ((0 : Int) < (q : Int)) = false := decide_eq_false (by omega)
       have hdp2 : decide (0 < q) = false := decide_eq_false (by omega)
       clear hp0
       go_enter Tryz.func35, Tryz.ntmps35
       go_wp2_with fail
       refine (HSK.out _).mono ?_
       rintro e w1 ⟨rfl, hb1⟩
       have HB1 := hid ((belowA (Below.refl w.heap.size w) (.cells (cellsTk 0 0 [] false) 56)).trans (hb1.mono (by simp)))
       have HX1 := hid ((Bx.new w (cellsTk 0 0 [] false) 56).keep hb1)
       clear hb1
       have hcx := (HX1.out.alloc (.cells (cellsTk 0 q [] false) 56)).1; have hfx := (HX1.out.alloc (.cells (cellsTk 0 q [] false) 56)).2.1
       have HB2 := hid (belowA HB1.out (.cells (cellsTk 0 q [] false) 56))
       go_wp2_with fail
       refine bodyPost_ret (v := .tuple #[.agg (cellsTk 5 (q : Int) [] false), .int .i64 (q : Int), .int .i64 0]) (by simp [results, Tryz.results35, go_sem, hcx]) rfl ⟨5, (q : Int), [], false, (q : Int), 0, rfl, ?_, .inl ⟨rfl, HQS.out, rfl⟩⟩
       exact (((HB2.out.setCell (p := ⟨w.heap.size, 0, none⟩) (Nat.le_refl _) _).setCell (p := ⟨w.heap.size, 1, none⟩) (Nat.le_refl _) _).setCell (p := ⟨w.heap.size, 2, none⟩) (Nat.le_refl _) _).setCell (p := ⟨w.heap.size, 3, none⟩) (Nat.le_refl _) _
     · have hdp : decide ((0 : Int) < (q : Int)) = true := decide_eq_true (by omega)
       have hdp2 : decide (0 < q) = true := decide_eq_true (by omega)
       obtain ⟨b0, hb0⟩ : ∃ b0, s[q - 1]? = some b0 := ⟨_, List.getElem?_eq_getElem (by omega)⟩
       have hi1 := fun W => run_ix Tryz.underlying9 s (q - 1) b0 hb0 W
       rw [show ((q - 1 : Nat) : Int) = (q : Int) - 1 by omega] at hi1
       clear hb0 hp0
       cases h32 : ((b0.toNat : Int) == 32)
       rotate_left
       · have h32' : ((b0.toNat : Int) != 32) = false := by rw [bne, h32]; rfl
         go_enter Tryz.func35, Tryz.ntmps35
         go_wp2_with fail
         refine (HSK.out _).mono ?_
         rintro e w1 ⟨rfl, hb1⟩
         have HB1 := hid ((belowA (Below.refl w.heap.size w) (.cells (cellsTk 0 0 [] false) 56)).trans (hb1.mono (by simp)))
         have HX1 := hid ((Bx.new w (cellsTk 0 0 [] false) 56).keep hb1)
         clear hb1
         have hcx := (HX1.out.alloc (.cells (cellsTk 0 q [] false) 56)).1; have hfx := (HX1.out.alloc (.cells (cellsTk 0 q [] false) 56)).2.1
         have HB2 := hid (belowA HB1.out (.cells (cellsTk 0 q [] false) 56))
         go_wp2_with fail
         refine bodyPost_ret (v := .tuple #[.agg (cellsTk 5 (q : Int) [] false), .int .i64 (q : Int), .int .i64 0]) (by simp [results, Tryz.results35, go_sem, hcx]) rfl ⟨5, (q : Int), [], false, (q : Int), 0, rfl, ?_, .inl ⟨rfl, HQS.out, rfl⟩⟩
         exact (((HB2.out.setCell (p := ⟨w.heap.size, 0, none⟩) (Nat.le_refl _) _).setCell (p := ⟨w.heap.size, 1, none⟩) (Nat.le_refl _) _).setCell (p := ⟨w.heap.size, 2, none⟩) (Nat.le_refl _) _).setCell (p := ⟨w.heap.size, 3, none⟩) (Nat.le_refl _) _
       · have h32' : ((b0.toNat : Int) != 32) = true := by rw [bne, h32]; rfl
         cases h9 : ((b0.toNat : Int) == 9)
         rotate_left
         · have h9' : ((b0.toNat : Int) != 9) = false := by rw [bne, h9]; rfl
           go_enter Tryz.func35, Tryz.ntmps35
           go_wp2_with fail
           refine (HSK.out _).mono ?_
           rintro e w1 ⟨rfl, hb1⟩
           have HB1 := hid ((belowA (Below.refl w.heap.size w) (.cells (cellsTk 0 0 [] false) 56)).trans (hb1.mono (by simp)))
           have HX1 := hid ((Bx.new w (cellsTk 0 0 [] false) 56).keep hb1)
           clear hb1
           have hcx := (HX1.out.alloc (.cells (cellsTk 0 q [] false) 56)).1; have hfx := (HX1.out.alloc (.cells (cellsTk 0 q [] false) 56)).2.1
           have HB2 := hid (belowA HB1.out (.cells (cellsTk 0 q [] false) 56))
           go_wp2_with fail
           refine bodyPost_ret (v := .tuple #[.agg (cellsTk 5 (q : Int) [] false), .int .i64 (q : Int), .int .i64 0]) (by simp [results, Tryz.results35, go_sem, hcx]) rfl ⟨5, (q : Int), [], false, (q : Int), 0, rfl, ?_, .inl ⟨rfl, HQS.out, rfl⟩⟩
           exact (((HB2.out.setCell (p := ⟨w.heap.size, 0, none⟩) (Nat.le_refl _) _).setCell (p := ⟨w.heap.size, 1, none⟩) (Nat.le_refl _) _).setCell (p := ⟨w.heap.size, 2, none⟩) (Nat.le_refl _) _).setCell (p := ⟨w.heap.size, 3, none⟩) (Nat.le_refl _) _
         · have h9' : ((b0.toNat : Int) != 9) = true := by rw [bne, h9]; rfl
           cases h10b : ((b0.toNat : Int) == 10)
           rotate_left
           · have h10b' : ((b0.toNat : Int) != 10) = false := by rw [bne, h10b]; rfl
             go_enter Tryz.func35, Tryz.ntmps35
             go_wp2_with fail
             refine (HSK.out _).mono ?_
             rintro e w1 ⟨rfl, hb1⟩
             have HB1 := hid ((belowA (Below.refl w.heap.size w) (.cells (cellsTk 0 0 [] false) 56)).trans (hb1.mono (by simp)))
             have HX1 := hid ((Bx.new w (cellsTk 0 0 [] false) 56).keep hb1)
             clear hb1
             have hcx := (HX1.out.alloc (.cells (cellsTk 0 q [] false) 56)).1; have hfx := (HX1.out.alloc (.cells (cellsTk 0 q [] false) 56)).2.1
             have HB2 := hid (belowA HB1.out (.cells (cellsTk 0 q [] false) 56))
             go_wp2_with fail
             refine bodyPost_ret (v := .tuple #[.agg (cellsTk 5 (q : Int) [] false), .int .i64 (q : Int), .int .i64 0]) (by simp [results, Tryz.results35, go_sem, hcx]) rfl ⟨5, (q : Int), [], false, (q : Int), 0, rfl, ?_, .inl ⟨rfl, HQS.out, rfl⟩⟩
             exact (((HB2.out.setCell (p := ⟨w.heap.size, 0, none⟩) (Nat.le_refl _) _).setCell (p := ⟨w.heap.size, 1, none⟩) (Nat.le_refl _) _).setCell (p := ⟨w.heap.size, 2, none⟩) (Nat.le_refl _) _).setCell (p := ⟨w.heap.size, 3, none⟩) (Nat.le_refl _) _
           · have h10b' : ((b0.toNat : Int) != 10) = true := by rw [bne, h10b]; rfl
             go_enter Tryz.func35, Tryz.ntmps35
             go_wp2_with fail
             refine (HSK.out _).mono ?_
             rintro e w1 ⟨rfl, hb1⟩
             have HB1 := hid ((belowA (Below.refl w.heap.size w) (.cells (cellsTk 0 0 [] false) 56)).trans (hb1.mono (by simp)))
             have HX1 := hid ((Bx.new w (cellsTk 0 0 [] false) 56).keep hb1)
             clear hb1
             have hcx := (HX1.out.alloc (.cells (cellsTk 0 q [] true) 56)).1; have hfx := (HX1.out.alloc (.cells (cellsTk 0 q [] true) 56)).2.1
             have HB2 := hid (belowA HB1.out (.cells (cellsTk 0 q [] true) 56))
             go_wp2_with fail
             refine bodyPost_ret (v := .tuple #[.agg (cellsTk 5 (q : Int) [] false), .int .i64 (q : Int), .int .i64 0]) (by simp [results, Tryz.results35, go_sem, hcx]) rfl ⟨5, (q : Int), [], false, (q : Int), 0, rfl, ?_, .inl ⟨rfl, HQS.out, rfl⟩⟩
             exact (((HB2.out.setCell (p := ⟨w.heap.size, 0, none⟩) (Nat.le_refl _) _).setCell (p := ⟨w.heap.size, 1, none⟩) (Nat.le_refl _) _).setCell (p := ⟨w.heap.size, 2, none⟩) (Nat.le_refl _) _).setCell (p := ⟨w.heap.size, 3, none⟩) (Nat.le_refl _) _
 | cons x t =>
   have hlt : q < s.length := by simp at hqs; omega
   have hne : ((q : Int) == (s.length : Int)) = false := beq_eq_false_iff_ne.2 (by omega)
   have hne2 : (q == s.length) = false := beq_eq_false_iff_ne.2 (by omega)
   by_cases h10 : x = 10
   · subst h10
     have hsl := fun W => run_sl Tryz.underlying9 s q hql W
     rw [hdq] at hsl
     have hf := fun W => first_at s (10 :: t) W (by simp)
     have hh := hd_lo (b := 10) t (by decide)
     rw [hh.1, hh.2] at hf
     have HF := hid hf
     obtain ⟨q1, hqq⟩ : ∃ q1 : Nat, q1 = q + 1 := ⟨_, rfl⟩
     have hqi : (q : Int) + 1 = (q1 : Int) := by omega
     have hq1b : q1 ≤ 2000000 := by omega
     have HQ11 := hid (show (q1 : Int) = ((s.length - (10 :: t).length + 1 : Nat) : Int) by rw [hqq, HQ1.out])
     rw [hok] at hsk
     simp only [List.head?_cons, beq_self_eq_true, Bool.or_true] at hsk
     have HSK := hid hsk
     clear hsk hok hdq hqs HQ1 hqq hf hh
     by_cases hqp : q = p
     rotate_left
     · have hqpb : ((q : Int) == (p : Int)) = false := beq_eq_false_iff_ne.2 (by omega)
       have hqpn : (q == p) = false := beq_eq_false_iff_ne.2 hqp
       clear hqp hpq
       go_enter Tryz.func35, Tryz.ntmps35
       go_wp2_with fail
       refine (HSK.out _).mono ?_
       rintro e w1 ⟨rfl, hb1⟩
       have HB1 := hid ((belowA (Below.refl w.heap.size w) (.cells (cellsTk 0 0 [] false) 56)).trans (hb1.mono (by simp)))
       have HX1 := hid ((Bx.new w (cellsTk 0 0 [] false) 56).keep hb1)
       clear hb1
       go_wp2_with fail
       refine (HF.out _).mono ?_
       rintro e w2 ⟨rfl, hb2⟩
       have HB2 := hid ((belowA HB1.out (.cells (cellsTk 0 q [] false) 56)).trans (hb2.mono (by have := HB1.out.size; simp; omega)))
       have HX2 := hid ((HX1.out.alloc (.cells (cellsTk 0 q [] false) 56)).keep hb2)
       clear hb2
       have hcx := HX2.out.1; have hfx := HX2.out.2.1
       go_wp2_with fail
       refine bodyPost_ret (v := .tuple #[.agg (cellsTk 4 (q : Int) [10] false), .int .i64 (q1 : Int), .int .i64 0]) (by simp [results, Tryz.results35, go_sem, hcx]) rfl ⟨4, (q : Int), [10], false, (q1 : Int), 0, rfl, ?_, .inr (.inl ⟨rfl, HQ11.out, rfl⟩)⟩
       exact (((HB2.out.setCell (p := ⟨w.heap.size, 0, none⟩) (Nat.le_refl _) _).setCell (p := ⟨w.heap.size, 1, none⟩) (Nat.le_refl _) _).setCell (p := ⟨w.heap.size, 2, none⟩) (Nat.le_refl _) _).setCell (p := ⟨w.heap.size, 3, none⟩) (Nat.le_refl _) _
     · have hqpb : ((q : Int) == (p : Int)) = true := by simp [hqp]
       have hqpn : (q == p) = true := by simp [hqp]
       clear hqp hpq
       by_cases hp0 : q = 0
       · have hdp : decide ((0 : Int) < (q : Int)) = false := decide_eq_false (by omega)
         have hdp2 : decide (0 < q) = false := decide_eq_false (by omega)
         clear hp0
         go_enter Tryz.func35, Tryz.ntmps35
         go_wp2_with fail
         refine (HSK.out _).mono ?_
         rintro e w1 ⟨rfl, hb1⟩
         have HB1 := hid ((belowA (Below.refl w.heap.size w) (.cells (cellsTk 0 0 [] false) 56)).trans (hb1.mono (by simp)))
         have HX1 := hid ((Bx.new w (cellsTk 0 0 [] false) 56).keep hb1)
         clear hb1
         go_wp2_with fail
         refine (HF.out _).mono ?_
         rintro e w2 ⟨rfl, hb2⟩
         have HB2 := hid ((belowA HB1.out (.cells (cellsTk 0 q [] false) 56)).trans (hb2.mono (by have := HB1.out.size; simp; omega)))
         have HX2 := hid ((HX1.out.alloc (.cells (cellsTk 0 q [] false) 56)).keep hb2)
         clear hb2
         have hcx := HX2.out.1; have hfx := HX2.out.2.1
         go_wp2_with fail
         refine bodyPost_ret (v := .tuple #[.agg (cellsTk 4 (q : Int) [10] false), .int .i64 (q1 : Int), .int .i64 0]) (by simp [results, Tryz.results35, go_sem, hcx]) rfl ⟨4, (q : Int), [10], false, (q1 : Int), 0, rfl, ?_, .inr (.inl ⟨rfl, HQ11.out, rfl⟩)⟩
         exact (((HB2.out.setCell (p := ⟨w.heap.size, 0, none⟩) (Nat.le_refl _) _).setCell (p := ⟨w.heap.size, 1, none⟩) (Nat.le_refl _) _).setCell (p := ⟨w.heap.size, 2, none⟩) (Nat.le_refl _) _).setCell (p := ⟨w.heap.size, 3, none⟩) (Nat.le_refl _) _
       · have hdp : decide ((0 : Int) < (q : Int)) = true := decide_eq_true (by omega)
         have hdp2 : decide (0 < q) = true := decide_eq_true (by omega)
         obtain ⟨b0, hb0⟩ : ∃ b0, s[q - 1]? = some b0 := ⟨_, List.getElem?_eq_getElem (by omega)⟩
         have hi1 := fun W => run_ix Tryz.underlying9 s (q - 1) b0 hb0 W
         rw [show ((q - 1 : Nat) : Int) = (q : Int) - 1 by omega] at hi1
         clear hb0 hp0
         cases h32 : ((b0.toNat : Int) == 32)
         rotate_left
         · have h32' : ((b0.toNat : Int) != 32) = false := by rw [bne, h32]; rfl
           go_enter Tryz.func35, Tryz.ntmps35
           go_wp2_with fail
           refine (HSK.out _).mono ?_
           rintro e w1 ⟨rfl, hb1⟩
           have HB1 := hid ((belowA (Below.refl w.heap.size w) (.cells (cellsTk 0 0 [] false) 56)).trans (hb1.mono (by simp)))
           have HX1 := hid ((Bx.new w (cellsTk 0 0 [] false) 56).keep hb1)
           clear hb1
           go_wp2_with fail
           refine (HF.out _).mono ?_
           rintro e w2 ⟨rfl, hb2⟩
           have HB2 := hid ((belowA HB1.out (.cells (cellsTk 0 q [] false) 56)).trans (hb2.mono (by have := HB1.out.size; simp; omega)))
           have HX2 := hid ((HX1.out.alloc (.cells (cellsTk 0 q [] false) 56)).keep hb2)
           clear hb2
           have hcx := HX2.out.1; have hfx := HX2.out.2.1
           go_wp2_with fail
           refine bodyPost_ret (v := .tuple #[.agg (cellsTk 4 (q : Int) [10] false), .int .i64 (q1 : Int), .int .i64 0]) (by simp [results, Tryz.results35, go_sem, hcx]) rfl ⟨4, (q : Int), [10], false, (q1 : Int), 0, rfl, ?_, .inr (.inl ⟨rfl, HQ11.out, rfl⟩)⟩
           exact (((HB2.out.setCell (p := ⟨w.heap.size, 0, none⟩) (Nat.le_refl _) _).setCell (p := ⟨w.heap.size, 1, none⟩) (Nat.le_refl _) _).setCell (p := ⟨w.heap.size, 2, none⟩) (Nat.le_refl _) _).setCell (p := ⟨w.heap.size, 3, none⟩) (Nat.le_refl _) _
         · have h32' : ((b0.toNat : Int) != 32) = true := by rw [bne, h32]; rfl
           cases h9 : ((b0.toNat : Int) == 9)
           rotate_left
           · have h9' : ((b0.toNat : Int) != 9) = false := by rw [bne, h9]; rfl
             go_enter Tryz.func35, Tryz.ntmps35
             go_wp2_with fail
             refine (HSK.out _).mono ?_
             rintro e w1 ⟨rfl, hb1⟩
             have HB1 := hid ((belowA (Below.refl w.heap.size w) (.cells (cellsTk 0 0 [] false) 56)).trans (hb1.mono (by simp)))
             have HX1 := hid ((Bx.new w (cellsTk 0 0 [] false) 56).keep hb1)
             clear hb1
             go_wp2_with fail
             refine (HF.out _).mono ?_
             rintro e w2 ⟨rfl, hb2⟩
             have HB2 := hid ((belowA HB1.out (.cells (cellsTk 0 q [] false) 56)).trans (hb2.mono (by have := HB1.out.size; simp; omega)))
             have HX2 := hid ((HX1.out.alloc (.cells (cellsTk 0 q [] false) 56)).keep hb2)
             clear hb2
             have hcx := HX2.out.1; have hfx := HX2.out.2.1
             go_wp2_with fail
             refine bodyPost_ret (v := .tuple #[.agg (cellsTk 4 (q : Int) [10] false), .int .i64 (q1 : Int), .int .i64 0]) (by simp [results, Tryz.results35, go_sem, hcx]) rfl ⟨4, (q : Int), [10], false, (q1 : Int), 0, rfl, ?_, .inr (.inl ⟨rfl, HQ11.out, rfl⟩)⟩
             exact (((HB2.out.setCell (p := ⟨w.heap.size, 0, none⟩) (Nat.le_refl _) _).setCell (p := ⟨w.heap.size, 1, none⟩) (Nat.le_refl _) _).setCell (p := ⟨w.heap.size, 2, none⟩) (Nat.le_refl _) _).setCell (p := ⟨w.heap.size, 3, none⟩) (Nat.le_refl _) _
           · have h9' : ((b0.toNat : Int) != 9) = true := by rw [bne, h9]; rfl
             cases h10b : ((b0.toNat : Int) == 10)
             rotate_left
             · have h10b' : ((b0.toNat : Int) != 10) = false := by rw [bne, h10b]; rfl
               go_enter Tryz.func35, Tryz.ntmps35
               go_wp2_with fail
               refine (HSK.out _).mono ?_
               rintro e w1 ⟨rfl, hb1⟩
               have HB1 := hid ((belowA (Below.refl w.heap.size w) (.cells (cellsTk 0 0 [] false) 56)).trans (hb1.mono (by simp)))
               have HX1 := hid ((Bx.new w (cellsTk 0 0 [] false) 56).keep hb1)
               clear hb1
               go_wp2_with fail
               refine (HF.out _).mono ?_
               rintro e w2 ⟨rfl, hb2⟩
               have HB2 := hid ((belowA HB1.out (.cells (cellsTk 0 q [] false) 56)).trans (hb2.mono (by have := HB1.out.size; simp; omega)))
               have HX2 := hid ((HX1.out.alloc (.cells (cellsTk 0 q [] false) 56)).keep hb2)
               clear hb2
               have hcx := HX2.out.1; have hfx := HX2.out.2.1
               go_wp2_with fail
               refine bodyPost_ret (v := .tuple #[.agg (cellsTk 4 (q : Int) [10] false), .int .i64 (q1 : Int), .int .i64 0]) (by simp [results, Tryz.results35, go_sem, hcx]) rfl ⟨4, (q : Int), [10], false, (q1 : Int), 0, rfl, ?_, .inr (.inl ⟨rfl, HQ11.out, rfl⟩)⟩
               exact (((HB2.out.setCell (p := ⟨w.heap.size, 0, none⟩) (Nat.le_refl _) _).setCell (p := ⟨w.heap.size, 1, none⟩) (Nat.le_refl _) _).setCell (p := ⟨w.heap.size, 2, none⟩) (Nat.le_refl _) _).setCell (p := ⟨w.heap.size, 3, none⟩) (Nat.le_refl _) _
             · have h10b' : ((b0.toNat : Int) != 10) = true := by rw [bne, h10b]; rfl
               go_enter Tryz.func35, Tryz.ntmps35
               go_wp2_with fail
               refine (HSK.out _).mono ?_
               rintro e w1 ⟨rfl, hb1⟩
               have HB1 := hid ((belowA (Below.refl w.heap.size w) (.cells (cellsTk 0 0 [] false) 56)).trans (hb1.mono (by simp)))
               have HX1 := hid ((Bx.new w (cellsTk 0 0 [] false) 56).keep hb1)
               clear hb1
               go_wp2_with fail
               refine (HF.out _).mono ?_
               rintro e w2 ⟨rfl, hb2⟩
               have HB2 := hid ((belowA HB1.out (.cells (cellsTk 0 q [] true) 56)).trans (hb2.mono (by have := HB1.out.size; simp; omega)))
               have HX2 := hid ((HX1.out.alloc (.cells (cellsTk 0 q [] true) 56)).keep hb2)
               clear hb2
               have hcx := HX2.out.1; have hfx := HX2.out.2.1
               go_wp2_with fail
               refine bodyPost_ret (v := .tuple #[.agg (cellsTk 4 (q : Int) [10] false), .int .i64 (q1 : Int), .int .i64 0]) (by simp [results, Tryz.results35, go_sem, hcx]) rfl ⟨4, (q : Int), [10], false, (q1 : Int), 0, rfl, ?_, .inr (.inl ⟨rfl, HQ11.out, rfl⟩)⟩
               exact (((HB2.out.setCell (p := ⟨w.heap.size, 0, none⟩) (Nat.le_refl _) _).setCell (p := ⟨w.heap.size, 1, none⟩) (Nat.le_refl _) _).setCell (p := ⟨w.heap.size, 2, none⟩) (Nat.le_refl _) _).setCell (p := ⟨w.heap.size, 3, none⟩) (Nat.le_refl _) _
   · skip
     have HQQ := hid (show (q : Int) = ((s.length - (x :: t).length : Nat) : Int) by rw [HQ1.out])
     have hof : (endsR l).2 = false := by rw [hok]; simp [h10]
     rw [hof] at hsk
     have HSK := hid hsk
     clear hsk hok hdq hqs HQ1 hof hne hne2
     go_enter Tryz.func35, Tryz.ntmps35
     go_wp2_with fail
     refine (HSK.out _).mono ?_
     rintro e w1 ⟨rfl, hb1⟩
     have HB1 := hid ((belowA (Below.refl w.heap.size w) (.cells (cellsTk 0 0 [] false) 56)).trans (hb1.mono (by simp)))
     have HX1 := hid ((Bx.new w (cellsTk 0 0 [] false) 56).keep hb1)
     clear hb1
     have hcx := HX1.out.1; have hfx := HX1.out.2.1
     go_wp2_with fail
     refine bodyPost_ret (v := .tuple #[.agg (cellsTk 0 (0) [] false), .int .i64 (q : Int), .int .i64 120]) (by simp [results, Tryz.results35, go_sem, hcx]) rfl ⟨0, (0), [], false, (q : Int), 120, rfl, ?_, .inr (.inr ⟨by simp, by rw [List.head?_cons]; exact fun e => h10 (Option.some.inj e), HQQ.out, by decide⟩)⟩
     exact (((HB1.out.setCell (p := ⟨w.heap.size, 0, none⟩) (Nat.le_refl _) _).setCell (p := ⟨w.heap.size, 1, none⟩) (Nat.le_refl _) _).setCell (p := ⟨w.heap.size, 2, none⟩) (Nat.le_refl _) _).setCell (p := ⟨w.heap.size, 3, none⟩) (Nat.le_refl _) _
end Yd
