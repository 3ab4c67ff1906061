import Derived.Test.YthdpangjphphjaaGreatDoorRdA
import Derived.Test.YthdpangjphphjaaGreatDoorAto
import Derived.Test.YthdpangjphphjaaGreatDoorHd
import Derived.Test.YthdpangjphphjaaGreatDoorSpoken3
import Derived.Test.YthdpangjphphjaaGreatDoorProg
set_option maxRecDepth 200000
set_option maxHeartbeats 8000000
namespace Yd
open Go Go.RowKit Go.Proofs

def GlR (R : Nat) (w : World) : Prop := ∃ w0 : World, w0.heap.size ≤ R ∧ Below w0.heap.size w0 w ∧ Lib.Utf8Tabs 2 3 w0 ∧ GlobE w0 ∧ GlobL w0
theorem GlR.tabs {R : Nat} {w : World} (h : GlR R w) : Lib.Utf8Tabs 2 3 w := let ⟨_, _, h2, h3, _⟩ := h; Utf8Tabs_below h3 h2
theorem GlR.e {R : Nat} {w : World} (h : GlR R w) : GlobE w := let ⟨_, _, h2, _, h4, _⟩ := h; h4.below h2
theorem GlR.l {R : Nat} {w : World} (h : GlR R w) : GlobL w := let ⟨_, _, h2, _, _, h5⟩ := h; h5.below h2
theorem GlR.below {R : Nat} {w w' : World} (h : GlR R w) (hb : Below w.heap.size w w') : GlR R w' := let ⟨w0, h1, h2, h3⟩ := h; ⟨w0, h1, h2.trans (hb.mono h2.size), h3⟩
theorem GlR.mv {R p : Nat} {w w' : World} {s l : Bs} {c : LnC} {n : LnS} (h : GlR R w) (hc : RdC w R s p l c n) (hs : Same (RdA R c) w w') : GlR R w' :=
 let ⟨w0, h1, h2, h3⟩ := h; ⟨w0, h1, hs.below h2 (fun i hi => hc.old (by omega)) h2.size, h3⟩
theorem RdC.put {w : World} {R p : Nat} {s l : Bs} {c : LnC} {n : LnS} (h : RdC w R s p l c n) (b i : Nat) (v : Value) (hb : RdA R c b) : RdC (w.setCell ⟨b, i, none⟩ v) R s p l c n :=
 ⟨h.x.setOther b i v (Ne.symm hb.1), ⟨h.n.1, h.n.2.1.block fun g hg => Below.heap_setCell _ _ _ _ (by rintro rfl; exact hb.2.1 hg), h.n.2.2.block fun g hg => Below.heap_setCell _ _ _ _ (by rintro rfl; exact hb.2.2 hg)⟩, h.d, h.le, h.lim⟩
theorem Mv.put {R : Nat} {c c' : LnC} {w Y : World} (h : Mv R c c' w Y) (b i : Nat) (v : Value) (hb : w.heap.size ≤ b) : Mv R c c' w (Y.setCell ⟨b, i, none⟩ v) :=
 ⟨⟨h.same.os, h.same.tape, h.same.output, Nat.le_trans h.same.size (by simp [World.setCell]), fun j hj hl => (Below.heap_setCell _ _ _ _ (by simp; omega)).trans (h.same.block j hj hl)⟩, h.na, h.va⟩
theorem tw_mem (q : UInt8 → Bool) : ∀ l : Bs, ∀ c ∈ l.takeWhile q, q c = true
 | [], _, h => by simp at h
 | a :: t, c, h => by
   rw [List.takeWhile_cons] at h
   cases hq : q a
   · rw [hq] at h; simp at h
   · rw [hq, if_pos rfl] at h
     rcases List.mem_cons.1 h with rfl | h
     · exact hq
     · exact tw_mem q t c h
theorem num_head (nm : Bs) (l : Bs) : ((headS l).head? = none ∨ (headS l).head? = some 45 ∨ (headS l).head? = some 48) ∧ numV nm l = .error (l, 220) ∨
   (∃ b t, headS l = b :: t ∧ b.toNat ≠ 45 ∧ b.toNat ≠ 48) ∧ headS l = l.takeWhile digB ∧ (∀ c ∈ headS l, digB c = true) ∧ numV nm l = (if 999 < valD (headS l) then .error (l, 3) else .ok (⟨nm, valD (headS l)⟩, l.drop (headS l).length)) := by
 by_cases h45 : l.head? = some 45
 · obtain ⟨t, rfl⟩ : ∃ t, l = 45 :: t := by cases l with
     | nil => simp at h45
     | cons a t => exact ⟨t, by simpa using h45⟩
   have hds : (45 :: t : Bs).takeWhile digB = [] := by rw [List.takeWhile_cons]; rfl
   left
   constructor
   · unfold headS
     rw [if_pos (show (45 :: t : Bs).head? = some 45 from rfl)]
     split
     · exact .inl rfl
     · exact .inr (.inl rfl)
   · unfold numV
     simp only [hds]
     rw [if_pos (.inl rfl)]
 · have hh : headS l = l.takeWhile digB := by unfold headS; rw [if_neg h45]
   rw [hh]
   have hall : ∀ c ∈ l.takeWhile digB, digB c = true := tw_mem digB l
   cases hd : l.takeWhile digB with
   | nil =>
     left
     refine ⟨.inl rfl, ?_⟩
     unfold numV
     simp only [hd]
     rw [if_pos (.inl rfl)]
   | cons b t =>
     by_cases h48 : b = 48
     · left
       subst h48
       refine ⟨.inr (.inr rfl), ?_⟩
       unfold numV
       simp only [hd]
       rw [if_pos (.inr rfl)]
     · right
       rw [hd] at hall
       refine ⟨⟨b, t, rfl, ?_, fun e => h48 (UInt8.toNat_inj.1 e)⟩, rfl, hall, ?_⟩
       · intro e
         have := hall b (by simp)
         rw [digB_nat, e] at this
         exact absurd this (by decide)
       · unfold numV
         simp only [hd]
         rw [if_neg (by simpa using h48)]
theorem RdC.drewN {w : World} {R p : Nat} {s l : Bs} {c : LnC} {n : LnS} (h : RdC w R s p l c n) (k : Nat) : RdC (w.drewN k) R s p l c n := ⟨h.x, h.n, h.d, h.le, h.lim⟩
theorem Same.drewN_ {A : Nat → Prop} (X : World) (n : Nat) : Same A X (X.drewN n) := ⟨rfl, rfl, rfl, Nat.le_refl _, fun _ _ _ => rfl⟩
theorem rd_version {R p : Nat} {s l : Bs} {c : LnC} {n : LnS} (w : World) (h : RdC w R s p l c n) (hG : GlR R w) (hl : n.vers.length ≤ 1000) :
   Calls Tryz.prog 76 #[.pointer (some ⟨R, 0, none⟩)] w (RdRes R s c w (fun _ : Unit => .tuple #[]) (match versS l with | .error x => .error x | .ok (v, r) => .ok ((), addV n v, r))) := by
 obtain ⟨X, hX⟩ : ∃ X : Except Er (Unit × LnS × Bs), X = (match versS l with | .error x => .error x | .ok (v, r) => .ok ((), addV n v, r)) := ⟨_, rfl⟩
 rw [← hX]
 have HX := hid hX
 clear hX
 have HEN := hid (fun W (hb : Below w.heap.size w W) => rd_ends W (h.below hb))
 have HNM := hid (fun W (hb : Below w.heap.size w W) => rd_name W (h.below hb) (hG.below hb).tabs)
 have HG := hid hG
 obtain ⟨i, z, hi, hz, hsize, hby', hzs⟩ := partsTo
 have HI := hid (⟨hi, hz, hsize, hby', hzs⟩ : _ ∧ _ ∧ _ ∧ _ ∧ _)
 have HH := hid h
 have HB0 : Hid (Below w.heap.size w w.drew) := hid ((Below.refl _ _).drew)
 have HNR : Hid ((Value.slice c.va c.vn c.vc).ownBlock ≠ some R) := hid (h.n.2.2.far' (.inl (by omega)))
 have hcn := h.n.1.2.2.2.2.2
 have HN1 : Hid (n.vers.length + 1 = c.vn + 1) := hid (by omega)
 have HN2 : Hid ((c.vn + 1) * 24 ≤ 140737488355328) := hid (by omega)
 have HN3 : Hid (c.vn + 1 ≤ maxLen) := hid (by unfold maxLen; omega)
 have hlim := h.lim; have hlen := h.len
 clear hcn h hG hi hz hsize hby' hzs
 by_cases hsg : ∃ t, l = 45 :: t
 · obtain ⟨t, rfl⟩ := hsg
   have HEE : Hid (endsS (45 :: t) = false) := hid (by rw [endsS_cons]; rfl)
   have hix := fun W => run_ix Tryz.underlying9 s p 45 HH.out.at_ W
   have hlt : p < s.length := by simp at hlen; omega
   have HSP : Hid (X = .ok ((), addV n ⟨[], 0⟩, t)) := hid (by rw [HX.out]; unfold versS; rw [if_pos (show (45 :: t : Bs).head? = some 45 from rfl)]; rfl)
   go_enter Tryz.func76, Tryz.ntmps76
   go_wp2_with fail
   refine wp_region_ordC 99 [(0, 0), (1, 2), (2, 0), (3, 0), (4, 0), (5, 0), (6, 0), (7, 0), (8, 0), (9, 0), (10, 0), (11, 0), (12, 0), (13, 0), (14, 0)] (fun _ => True) (fun W' => W'.cell? ⟨R, 0, none⟩ = some (.string ⟨s.toArray⟩) ∧ W'.cell? ⟨R, 1, none⟩ = some (.int .i64 p)) (by kernel_rfl) (by kernel_rfl) (trivial) (⟨HH.out.drew.c0, HH.out.drew.c1⟩) ?_
   repeat ((first | refine ordC_skip rfl rfl ?_ | refine ordC_skip1 rfl rfl ?_ | ((first | refine ordC_q rfl rfl ?_ | refine ordC_p rfl rfl ?_); apply Exists.intro; refine ⟨fun wS hS => ?_, ?_⟩; (go_simp; try with_reducible rfl))); simp only [Act.put, List.setIfInBounds_toArray, List.set_cons_zero, List.set_cons_succ])
   refine ordC_l rfl rfl (fun K hK => ?_)
   go_simp
   refine (HEN.out _ HB0.out).mono ?_
   rintro e w1 ⟨rfl, hb1⟩
   have hc1 := HH.out.drew.below hb1
   have HC1 := hid hc1; have HB1 := hid (HB0.out.trans (hb1.mono HB0.out.size))
   rw [HEE.out]
   refine hK _ _ ⟨trivial, hc1.c0, hc1.c1⟩ ?_
   clear hK K hb1 hc1
   repeat ((first | refine ordC_skip rfl rfl ?_ | refine ordC_skip1 rfl rfl ?_ | ((first | refine ordC_q rfl rfl ?_ | refine ordC_p rfl rfl ?_); apply Exists.intro; refine ⟨fun wS hS => ?_, ?_⟩; (go_simp; try with_reducible rfl))); simp only [Act.put, List.setIfInBounds_toArray, List.set_cons_zero, List.set_cons_succ])
   refine ordC_nil ?_
   have HT1 := HC1.out.to 1 rfl (by simp) (p + 1) rfl
   have HT := hid HT1.1; have HM := hid HT1.2
   rw [Int.natCast_add] at HT HM
   have c1 := HC1.out.c1; have z1 := f1 HC1.out 1; have c5 := HC1.out.c5
   clear HT1
   have HVS : Hid ((w1.setCell ⟨R, 1, none⟩ (.int .i64 ((p : Int) + 1))).heap.size = w1.heap.size) := hid (by simp)
   have HN4 : Hid (R + 1 ≤ ((w1.setCell ⟨R, 1, none⟩ (.int .i64 ((p : Int) + 1))).alloc (.cells #[.string ⟨([] : Bs).toArray⟩, .int .i64 0] 67)).heap.size) := hid (by have := HT.out.x.2.2; simp at *; omega)
   go_wp2_with (at_builtin; refine wpList_app rfl _ _ 26 rfl i z 24 Tryz.underlying26 HI.out.1 HI.out.2.1 HI.out.2.2.1 HI.out.2.2.2.1 HI.out.2.2.2.2 rfl (HT.out.n.2.2.alloc _) (some ⟨w1.heap.size, 0, none⟩) 1 1 (c.vn + 1) [⟨[], 0⟩] rfl (Row.toN HVS.out ⟨[], 0⟩) HN1.out HN2.out HN3.out HN4.out ?_; intro a' c' w3 hown3 hg3 hat3; have hx3 := (HT.out.x.keep (belowA (Below.refl _ _) (.cells #[.string ⟨([] : Bs).toArray⟩, .int .i64 0] 67))).grown hg3 HNR.out; have HAD := hid (HT.out.addV (belowA (Below.refl _ _) (.cells #[.string ⟨([] : Bs).toArray⟩, .int .i64 0] 67)) a' c' hown3 hg3 hat3); have hc3 := hx3.1 5; have hf3 := hx3.2.1 5; clear hown3 hg3 hat3 hx3)
   refine bodyPost_ret (results_none rfl _ _ _) rfl ?_
   show RdRes R s c w _ _ _ _
   rw [HSP.out]
   exact ⟨rfl, p + 1, _, HAD.out.1, (Mv.of_below HB1.out).trans (HM.out.trans HAD.out.2)⟩
 · have h45 : ¬ l.head? = some 45 := fun e => hsg (by cases l with
     | nil => simp at e
     | cons a t => exact ⟨t, by simp at e; rw [e]⟩)
   have HVE : Hid (∀ x, nameS l = .error x → (match versS l with | .error x => .error x | .ok (v, r) => .ok ((), addV n v, r) : Except Er (Unit × LnS × Bs)) = .error x) := hid (fun x hx => by unfold versS; rw [if_neg h45, hx])
   have HVO : Hid (∀ m r, nameS l = .ok (m, r) → versS l = if r.head? = some 46 then numV m r.tail else .error (r, 220)) := hid (fun m r hx => by unfold versS; rw [if_neg h45, hx])
   clear h45
   cases hee : endsS l
   · obtain ⟨b0, t0, rfl⟩ : ∃ b0 t0, l = b0 :: t0 := by cases l with
       | nil => exact absurd hee (by decide)
       | cons a t => exact ⟨a, t, rfl⟩
     have HEE : Hid (endsS (b0 :: t0) = false) := hid hee
     have hix0 := fun W => run_ix Tryz.underlying9 s p b0 HH.out.at_ W
     have hlt0 : p < s.length := by simp at hlen; omega
     have hb45 : ((b0.toNat : Int) == 45) = false := beq_eq_false_iff_ne.2 (fun e => hsg ⟨t0, by rw [show b0 = 45 from UInt8.toNat_inj.1 (by show b0.toNat = 45; omega)]⟩)
     clear hee hsg
     go_enter Tryz.func76, Tryz.ntmps76
     go_wp2_with fail
     refine wp_region_ordC 99 [(0, 0), (1, 2), (2, 0), (3, 0), (4, 0), (5, 0), (6, 0), (7, 0), (8, 0), (9, 0), (10, 0), (11, 0), (12, 0), (13, 0), (14, 0)] (fun _ => True) (fun W' => W'.cell? ⟨R, 0, none⟩ = some (.string ⟨s.toArray⟩) ∧ W'.cell? ⟨R, 1, none⟩ = some (.int .i64 p)) (by kernel_rfl) (by kernel_rfl) (trivial) (⟨HH.out.drew.c0, HH.out.drew.c1⟩) ?_
     repeat ((first | refine ordC_skip rfl rfl ?_ | refine ordC_skip1 rfl rfl ?_ | ((first | refine ordC_q rfl rfl ?_ | refine ordC_p rfl rfl ?_); apply Exists.intro; refine ⟨fun wS hS => ?_, ?_⟩; (go_simp; try with_reducible rfl))); simp only [Act.put, List.setIfInBounds_toArray, List.set_cons_zero, List.set_cons_succ])
     refine ordC_l rfl rfl (fun K hK => ?_)
     go_simp
     refine (HEN.out _ HB0.out).mono ?_
     rintro e w1 ⟨rfl, hb1⟩
     have hc1 := HH.out.drew.below hb1
     have HC1 := hid hc1; have HB1 := hid (HB0.out.trans (hb1.mono HB0.out.size))
     rw [HEE.out]
     refine hK _ _ ⟨trivial, hc1.c0, hc1.c1⟩ ?_
     clear hK K hb1 hc1
     repeat ((first | refine ordC_skip rfl rfl ?_ | refine ordC_skip1 rfl rfl ?_ | ((first | refine ordC_q rfl rfl ?_ | refine ordC_p rfl rfl ?_); apply Exists.intro; refine ⟨fun wS hS => ?_, ?_⟩; (go_simp; try with_reducible rfl))); simp only [Act.put, List.setIfInBounds_toArray, List.set_cons_zero, List.set_cons_succ])
     refine ordC_nil ?_
     go_wp2_with fail
     refine (HNM.out _ HB1.out).mono ?_
     intro e w2 he
     cases hnm : nameS (b0 :: t0) with
     | error x =>
       rw [hnm] at he
       obtain ⟨rfl, hs⟩ := he
       refine ⟨rfl, ?_⟩
       show RdRes R s c w _ _ _ _
       rw [HX.out, HVE.out x hnm]
       exact ⟨rfl, (Same.of_below HB1.out (fun _ _ h => h)).tr hs⟩
     | ok mr =>
     obtain ⟨m, r⟩ := mr
     rw [hnm] at he
     obtain ⟨rfl, p2, hc2, hm2⟩ := he
     have HVR := hid (HVO.out m r hnm)
     have HC2 := hid hc2; have HM2 := hid ((Mv.of_below HB1.out).trans hm2)
     have hcA := hc2.below (belowA (Below.refl _ _) (.cells #[.string ⟨m.toArray⟩, .int .i64 0] 67))
     have HCA := hid hcA; have HMA := hid (HM2.out.trans (Mv.of_below (belowA (Below.refl w2.heap.size w2) (.cells #[.string ⟨m.toArray⟩, .int .i64 0] 67))))
     have HYA := hid (Bx.new w2 #[.string ⟨m.toArray⟩, .int .i64 0] 67); have HAP := hid (hc2.new (Nat.le_refl _))
     have hlen2 := hc2.len
     have c0 := hcA.c0; have c1 := hcA.c1; have z1 := f1 hcA 1
     have hz := bsz s
     clear hc2 hm2 hcA hnm
     cases hr : r with
     | nil =>
       have hd1 : ((p2 : Int) == (s.length : Int)) = true := by rw [hr] at hlen2; simp at hlen2; simp [hlen2]
       have HSP : Hid (versS (b0 :: t0) = .error ([], 220)) := hid (by rw [HVR.out, hr]; rfl)
       have HQ : Hid (s.length - ([] : Bs).length = p2) := hid (by rw [hr] at hlen2; simp at hlen2 ⊢; omega)
       clear hr hlen2
       go_wp2_with (go_quiet (fail))
       refine (rd_fail p2 220 _).mono ?_
       rintro e w9 ⟨rfl, rfl⟩
       refine ⟨rfl, ?_⟩
       show RdRes R s c w _ _ _ _
       rw [HX.out, HSP.out]
       exact ⟨by rw [HQ.out], HMA.out.same.tr (Same.drewN_ _ _)⟩
     | cons b2 t2 =>
     subst hr
     have hd1 : ((p2 : Int) == (s.length : Int)) = false := beq_eq_false_iff_ne.2 (by simp at hlen2; omega)
     have hix2 := fun W => run_ix Tryz.underlying9 s p2 b2 HCA.out.at_ W
     have HL2 := hid hlen2
     by_cases h46 : b2 = 46
     · subst h46
       have hb46 : (((46 : UInt8).toNat : Int) != 46) = false := rfl
       have HSP : Hid (versS (b0 :: t0) = numV m t2) := hid (by rw [HVR.out]; rfl)
       have hp2 : p2 + 1 ≤ s.length := by have := HL2.out; simp at this; omega
       have hd3 : s.drop (p2 + 1) = t2 := by rw [← List.drop_drop, HCA.out.d]; rfl
       have hsl2 : ∀ W, (Instr.slice 9 (.string ⟨s.toArray⟩) (some (.int .i64 ((p2 : Int) + 1))) none none).run Tryz.prog W = .ok (.string ⟨t2.toArray⟩) W := fun W => by have := run_sl Tryz.underlying9 s (p2 + 1) hp2 W; rw [hd3] at this; exact this
       have HHE := fun W => hid (hd_Head t2 (by have := HL2.out; simp at this; omega) W)
       clear hd3
       have hnum := num_head m t2
       have hDl : (headS t2).length ≤ t2.length := by unfold headS; split; split; exact Nat.zero_le _; rw [List.length_take]; exact Nat.min_le_right _ _; have := len_takeWhile digB t2; omega
       revert HHE hnum hDl
       generalize headS t2 = D
       intro HHE hnum hDl
       have HDL := hid hDl; have HNUM := hid hnum
       clear hDl hnum
       go_wp2_with (go_quiet (fail))
       have HT1 := (HCA.out.drewN nq).to 1 rfl (by simp) (p2 + 1) rfl
       have HTC : Hid (RdC (((w2.alloc (.cells #[.string ⟨m.toArray⟩, .int .i64 0] 67)).drewN nq).setCell ⟨R, 1, none⟩ (.int .i64 ((p2 : Int) + 1))) R s (p2 + 1) t2 c n) := hid HT1.1
       have HTM : Hid (Mv R c c w (((w2.alloc (.cells #[.string ⟨m.toArray⟩, .int .i64 0] 67)).drewN nq).setCell ⟨R, 1, none⟩ (.int .i64 ((p2 : Int) + 1)))) := hid ((HMA.out.trans (Mv.of_below (belowN (Below.refl _ _) nq))).trans HT1.2)
       have HYB : Hid (Bx (((w2.alloc (.cells #[.string ⟨m.toArray⟩, .int .i64 0] 67)).drewN nq).setCell ⟨R, 1, none⟩ (.int .i64 ((p2 : Int) + 1))) w2.heap.size #[.string ⟨m.toArray⟩, .int .i64 0]) := hid ((HYA.out.drewN nq).setOther R 1 (.int .i64 ((p2 : Int) + 1)) (by have := HC2.out.x.2.2; omega))
       clear HT1 c0 c1 z1 hd1
       revert HTC HTM HYB
       generalize (((w2.alloc (.cells #[.string ⟨m.toArray⟩, .int .i64 0] 67)).drewN nq).setCell ⟨R, 1, none⟩ (.int .i64 ((p2 : Int) + 1))) = V
       intro HTC HTM HYB
       obtain ⟨tb, htb⟩ : ∃ tb, tb = w2.heap.size := ⟨_, rfl⟩
       rw [← htb] at HYB HAP ⊢
       have HTB : Hid (tb ≠ R) := hid (fun e => HAP.out.1 e)
       have HTW : Hid (w.heap.size ≤ tb) := hid (by rw [htb]; exact HM2.out.same.size)
       clear htb
       refine wp_region_ordC 99 [(0, 0), (1, 0), (2, 0), (3, 0), (4, 0), (5, 0), (6, 0), (7, 0), (8, 0), (9, 2), (10, 0), (11, 0), (12, 0), (13, 0), (14, 0)] (fun _ => True) (fun W' => W'.cell? ⟨R, 0, none⟩ = some (.string ⟨s.toArray⟩) ∧ W'.cell? ⟨R, 1, none⟩ = some (.int .i64 ((p2 : Int) + 1))) (by kernel_rfl) (by kernel_rfl) (trivial) (⟨HTC.out.drew.c0, HTC.out.drew.c1⟩) ?_
       repeat ((first | refine ordC_skip rfl rfl ?_ | refine ordC_skip1 rfl rfl ?_ | ((first | refine ordC_q rfl rfl ?_ | refine ordC_p rfl rfl ?_); apply Exists.intro; refine ⟨fun wS hS => ?_, ?_⟩; (go_simp; try with_reducible rfl))); simp only [Act.put, List.setIfInBounds_toArray, List.set_cons_zero, List.set_cons_succ])
       refine ordC_l rfl rfl (fun K hK => ?_)
       go_simp
       refine (HHE _).out.mono ?_
       rintro e w4 ⟨rfl, hb4⟩
       have hc4 := HTC.out.drew.below hb4
       have HC4 := hid hc4; have HM4 := hid ((HTM.out.trans (Mv.of_below (Below.refl _ _).drew)).trans (Mv.of_below hb4)); have HY4 := hid (HYB.out.drew.keep hb4)
       refine hK _ _ ⟨trivial, hc4.c0, hc4.c1⟩ ?_
       clear hK K hb4 hc4
       repeat ((first | refine ordC_skip rfl rfl ?_ | refine ordC_skip1 rfl rfl ?_ | ((first | refine ordC_q rfl rfl ?_ | refine ordC_p rfl rfl ?_); apply Exists.intro; refine ⟨fun wS hS => ?_, ?_⟩; (go_simp; try with_reducible rfl))); simp only [Act.put, List.setIfInBounds_toArray, List.set_cons_zero, List.set_cons_succ])
       refine ordC_nil ?_
       have c0 := HC4.out.c0; have z1 := f1 HC4.out 1
       have c1 : w4.cell? ⟨R, 1, none⟩ = some (.int .i64 ((p2 : Int) + 1)) := HC4.out.c1
       clear hsl2
       rcases HNUM.out with ⟨hbad, hnv⟩ | ⟨⟨b3, t3, hh, h45, h48⟩, hht, hal, hnv⟩
       · have HNV := hid hnv
         have HQ : Hid (s.length - t2.length = p2 + 1) := hid (by have := HL2.out; simp at this; omega)
         have HF : Hid (∀ W, Calls Tryz.prog 27 #[.int .i64 ((p2 : Int) + 1), .int .i64 220] W fun e w' => e = .panicked (wrongP (p2 + 1) 220) ∧ w' = W) := hid (fun W => rd_fail (p2 + 1) 220 W)
         clear hnv
         cases D with
         | nil =>
           go_wp2_with fail
           refine (HF.out _).mono ?_
           rintro e w9 ⟨rfl, rfl⟩
           refine ⟨rfl, ?_⟩
           show RdRes R s c w _ _ _ _
           rw [HX.out, HSP.out, HNV.out]
           exact ⟨by rw [HQ.out], HM4.out.same⟩
         | cons b3 t3 =>
           have hbb : b3 = 45 ∨ b3 = 48 := by simpa using hbad
           have hi0 : ∀ W, (Instr.index 9 (.string ⟨(b3 :: t3).toArray⟩) (.int .i64 0)).run Tryz.prog W = .ok (.int .u8 (b3.toNat : Int)) W := fun W => run_ix Tryz.underlying9 (b3 :: t3) 0 b3 rfl W
           have hem : ((b3 :: t3) == ([] : Bs)) = false := rfl
           clear hbad
           by_cases h45 : b3.toNat = 45
           · have e45 : ((b3.toNat : Int) == 45) = true := by simp [h45]
             clear hbb h45
             go_wp2_with fail
             refine (HF.out _).mono ?_
             rintro e w9 ⟨rfl, rfl⟩
             refine ⟨rfl, ?_⟩
             show RdRes R s c w _ _ _ _
             rw [HX.out, HSP.out, HNV.out]
             exact ⟨by rw [HQ.out], HM4.out.same⟩
           · have h48 : b3.toNat = 48 := by rcases hbb with rfl | rfl; exact absurd rfl h45; rfl
             have e45 : ((b3.toNat : Int) == 45) = false := beq_eq_false_iff_ne.2 (by omega)
             have e48 : ((b3.toNat : Int) == 48) = true := by simp [h48]
             clear hbb h45 h48
             go_wp2_with fail
             refine (HF.out _).mono ?_
             rintro e w9 ⟨rfl, rfl⟩
             refine ⟨rfl, ?_⟩
             show RdRes R s c w _ _ _ _
             rw [HX.out, HSP.out, HNV.out]
             exact ⟨by rw [HQ.out], HM4.out.same⟩
       · skip
         clear hht
         subst hh
         have hne : (b3 :: t3 : Bs) ≠ [] := by simp
         have hi0 : ∀ W, (Instr.index 9 (.string ⟨(b3 :: t3).toArray⟩) (.int .i64 0)).run Tryz.prog W = .ok (.int .u8 (b3.toNat : Int)) W := fun W => run_ix Tryz.underlying9 (b3 :: t3) 0 b3 rfl W
         have e45 : ((b3.toNat : Int) == 45) = false := beq_eq_false_iff_ne.2 (by omega)
         have e48 : ((b3.toNat : Int) == 48) = false := beq_eq_false_iff_ne.2 (by omega)
         have hem : ((b3 :: t3) == ([] : Bs)) = false := rfl
         have hzd := bsz (b3 :: t3)
         have hle3 := HC4.out.len; have hdl := HDL.out
         have HAT := hid (ato_any (b3 :: t3) hne hal (by omega) w4 ((HG.out.mv HH.out HM4.out.same).e))
         obtain ⟨V, hV⟩ : ∃ V, V = valD (b3 :: t3) := ⟨_, rfl⟩
         rw [← hV] at HAT hnv
         have HNV := hid hnv; have HL3 := hid hle3
         clear hal hnv h45 h48 hV hle3 hne
         go_wp2_with fail
         refine HAT.out.mono ?_
         rintro e w5 ⟨kk, er, rfl, hb5, hkr⟩
         have HC5 := hid (HC4.out.below hb5); have HM5 := hid (HM4.out.trans (Mv.of_below hb5)); have HY5 := hid (HY4.out.keep hb5)
         have z1 := f1 HC5.out 1
         have c1 : w5.cell? ⟨R, 1, none⟩ = some (.int .i64 ((p2 : Int) + 1)) := HC5.out.c1
         have HF3 : Hid (∀ W, Calls Tryz.prog 27 #[.int .i64 ((p2 : Int) + 1), .int .i64 3] W fun e w' => e = .panicked (wrongP (p2 + 1) 3) ∧ w' = W) := hid (fun W => rd_fail (p2 + 1) 3 W)
         have HQ : Hid (s.length - t2.length = p2 + 1) := hid (by have := HL2.out; simp at this; omega)
         clear hb5
         rcases hkr with ⟨rfl, rfl, hmx⟩ | ⟨h9, T, pp, rfl⟩
         · by_cases h9 : 999 < V
           · have HV9 := hid h9
             have hd9 : decide ((999 : Int) < (V : Int)) = true := decide_eq_true (by omega)
             clear h9
             go_wp2_with fail
             refine (HF3.out _).mono ?_
             rintro e w9 ⟨rfl, rfl⟩
             refine ⟨rfl, ?_⟩
             show RdRes R s c w _ _ _ _
             rw [HX.out, HSP.out, HNV.out, if_pos HV9.out]
             exact ⟨by rw [HQ.out], HM5.out.same⟩
           · have HV9 := hid h9
             have hd9 : decide ((999 : Int) < (V : Int)) = false := decide_eq_false (by omega)
             obtain ⟨q, hq⟩ : ∃ q, q = p2 + 1 + (b3 :: t3).length := ⟨_, rfl⟩
             have hqi : (p2 : Int) + 1 + ((b3 :: t3).length : Int) = (q : Int) := by omega
             have hqi2 : (p2 : Int) + 1 + ((t3.length : Int) + 1) = (q : Int) := by simp at hq; omega
             have hqb : q ≤ 2000000 := by have := HL3.out; omega
             have HT6 := HC5.out.to (b3 :: t3).length rfl HDL.out q hq
             have hcy := HY5.out.1; have hfy := HY5.out.2.1
             have hn1 : ¬ tb = R := HTB.out
             have hn2 : ¬ R = tb := fun e => HTB.out e.symm
             have HC6 := hid (HT6.1.put tb 1 (.int .i64 (V : Int)) HAP.out); have HM6 := hid ((HM5.out.trans HT6.2).put tb 1 (.int .i64 (V : Int)) HTW.out)
             have HY6 : Hid (Bx ((w5.setCell ⟨R, 1, none⟩ (.int .i64 (q : Int))).setCell ⟨tb, 1, none⟩ (.int .i64 (V : Int))) tb #[.string ⟨m.toArray⟩, .int .i64 (V : Int)]) := hid ((HY5.out.setOther R 1 (.int .i64 (q : Int)) hn1).setC 1 (by simp) (.int .i64 (V : Int)))
             clear h9 hq HT6
             go_wp2_with fail
             revert HC6 HM6 HY6
             generalize ((w5.setCell ⟨R, 1, none⟩ (.int .i64 (q : Int))).setCell ⟨tb, 1, none⟩ (.int .i64 (V : Int))) = Z
             intro HC6 HM6 HY6
             clear hcy hfy z1 c1
             have HN4 : Hid (R + 1 ≤ (Z.drew.alloc (.cells #[.string ⟨m.toArray⟩, .int .i64 (V : Int)] 67)).heap.size) := hid (by have := HC6.out.x.2.2; simp; omega)
             refine wp_region_ordC 12 [(0, 1), (1, 1), (2, 1), (3, 1), (4, 1), (5, 0), (6, 0), (7, 2), (8, 2), (9, 1), (10, 1), (11, 1), (12, 2)] (fun _ => True) (fun W' => W'.cell? ⟨R, 5, none⟩ = some (.slice c.va c.vn c.vc) ∧ W'.cell? ⟨tb, 0, none⟩ = some (.string ⟨m.toArray⟩) ∧ W'.cell? ⟨tb, 1, none⟩ = some (.int .i64 (V : Int))) (by kernel_rfl) (by kernel_rfl) (trivial) (⟨HC6.out.drew.c5, HY6.out.drew.1 0, HY6.out.drew.1 1⟩) ?_
             repeat ((first | refine ordC_skip rfl rfl ?_ | refine ordC_skip1 rfl rfl ?_ | ((first | refine ordC_q rfl rfl ?_ | refine ordC_p rfl rfl ?_); apply Exists.intro; refine ⟨fun wS hS => ?_, ?_⟩; (go_simp; try with_reducible rfl))); simp only [Act.put, List.setIfInBounds_toArray, List.set_cons_zero, List.set_cons_succ])
             refine ordC_l rfl rfl (fun K hK => ?_)
             go_simp
             refine hK _ _ ⟨trivial, (HC6.out.drew.below (belowA (Below.refl _ _) _)).c5, (HY6.out.drew.alloc _).1 0, (HY6.out.drew.alloc _).1 1⟩ ?_
             clear hK K
             refine ordC_l rfl rfl (fun K hK => ?_)
             refine wp_app _ _ 26 rfl i z 24 Tryz.underlying26 HI.out.1 HI.out.2.1 HI.out.2.2.1 HI.out.2.2.2.1 HI.out.2.2.2.2 rfl (HC6.out.drew.n.2.2.alloc _) (some ⟨Z.heap.size, 0, none⟩) 1 1 (c.vn + 1) [⟨m, V⟩] rfl (Row.toN rfl ⟨m, V⟩) HN1.out HN2.out HN3.out HN4.out ?_
             intro a' c' w7 hown7 hg7 hat7
             have hx7 := (HC6.out.drew.x.keep (belowA (Below.refl _ _) (.cells #[.string ⟨m.toArray⟩, .int .i64 (V : Int)] 67))).grown hg7 HNR.out
             have HAD := hid (HC6.out.drew.addV (belowA (Below.refl _ _) (.cells #[.string ⟨m.toArray⟩, .int .i64 (V : Int)] 67)) a' c' hown7 hg7 hat7)
             have hy7 : Bx w7 tb #[.string ⟨m.toArray⟩, .int .i64 (V : Int)] := (HY6.out.drew.alloc _).grown hg7 HAP.out.2.2
             refine hK _ _ ⟨trivial, hx7.1 5, hy7.1 0, hy7.1 1⟩ ?_
             have hc7 := hx7.1 5; have hf7 := hx7.2.1 5
             clear hK K hown7 hg7 hat7 hx7 hy7
             repeat ((first | refine ordC_skip rfl rfl ?_ | refine ordC_skip1 rfl rfl ?_ | ((first | refine ordC_q rfl rfl ?_ | refine ordC_p rfl rfl ?_); apply Exists.intro; refine ⟨fun wS hS => ?_, ?_⟩; (go_simp; try with_reducible rfl))); simp only [Act.put, List.setIfInBounds_toArray, List.set_cons_zero, List.set_cons_succ])
             refine ordC_m rfl rfl rfl (fun K hK => ?_)
             go_simp
             refine hK _ _ trivial ?_
             clear hK K
             refine ordC_nil ?_
             go_wp2_with fail
             refine bodyPost_end (results_none rfl _ _ _) rfl ?_
             show RdRes R s c w _ _ _ _
             rw [HX.out, HSP.out, HNV.out, if_neg HV9.out]
             exact ⟨rfl, q, _, HAD.out.1, (HM6.out.trans (Mv.of_below (Below.refl _ _).drew)).trans HAD.out.2⟩
         · have HV9 := hid h9
           clear h9
           go_wp2_with fail
           refine (HF3.out _).mono ?_
           rintro e w9 ⟨rfl, rfl⟩
           refine ⟨rfl, ?_⟩
           show RdRes R s c w _ _ _ _
           rw [HX.out, HSP.out, HNV.out, if_pos HV9.out]
           exact ⟨by rw [HQ.out], HM5.out.same⟩
     · have hb46 : ((b2.toNat : Int) != 46) = true := bne_iff_ne.2 (fun e => h46 (UInt8.toNat_inj.1 (by show b2.toNat = 46; omega)))
       have HSP : Hid (versS (b0 :: t0) = .error (b2 :: t2, 220)) := hid (by rw [HVR.out, if_neg (by simpa using h46)])
       have HQ : Hid (s.length - (b2 :: t2).length = p2) := hid (by omega)
       clear h46
       go_wp2_with (go_quiet (fail))
       refine (rd_fail p2 220 _).mono ?_
       rintro e w9 ⟨rfl, rfl⟩
       refine ⟨rfl, ?_⟩
       show RdRes R s c w _ _ _ _
       rw [HX.out, HSP.out]
       exact ⟨by rw [HQ.out], HMA.out.same.tr (Same.drewN_ _ _)⟩
   · have HEE : Hid (endsS l = true) := hid hee
     clear hee hsg
     go_enter Tryz.func76, Tryz.ntmps76
     go_wp2_with fail
     refine wp_region_ordC 99 [(0, 0), (1, 2), (2, 0), (3, 0), (4, 0), (5, 0), (6, 0), (7, 0), (8, 0), (9, 0), (10, 0), (11, 0), (12, 0), (13, 0), (14, 0)] (fun _ => True) (fun W' => W'.cell? ⟨R, 0, none⟩ = some (.string ⟨s.toArray⟩) ∧ W'.cell? ⟨R, 1, none⟩ = some (.int .i64 p)) (by kernel_rfl) (by kernel_rfl) (trivial) (⟨HH.out.drew.c0, HH.out.drew.c1⟩) ?_
     repeat ((first | refine ordC_skip rfl rfl ?_ | refine ordC_skip1 rfl rfl ?_ | ((first | refine ordC_q rfl rfl ?_ | refine ordC_p rfl rfl ?_); apply Exists.intro; refine ⟨fun wS hS => ?_, ?_⟩; (go_simp; try with_reducible rfl))); simp only [Act.put, List.setIfInBounds_toArray, List.set_cons_zero, List.set_cons_succ])
     refine ordC_l rfl rfl (fun K hK => ?_)
     go_simp
     refine (HEN.out _ HB0.out).mono ?_
     rintro e w1 ⟨rfl, hb1⟩
     have hc1 := HH.out.drew.below hb1
     have HC1 := hid hc1; have HB1 := hid (HB0.out.trans (hb1.mono HB0.out.size))
     rw [HEE.out]
     refine hK _ _ ⟨trivial, hc1.c0, hc1.c1⟩ ?_
     clear hK K hb1 hc1
     repeat ((first | refine ordC_skip rfl rfl ?_ | refine ordC_skip1 rfl rfl ?_ | ((first | refine ordC_q rfl rfl ?_ | refine ordC_p rfl rfl ?_); apply Exists.intro; refine ⟨fun wS hS => ?_, ?_⟩; (go_simp; try with_reducible rfl))); simp only [Act.put, List.setIfInBounds_toArray, List.set_cons_zero, List.set_cons_succ])
     refine ordC_nil ?_
     go_wp2_with fail
     refine (HNM.out _ HB1.out).mono ?_
     intro e w2 he
     cases hnm : nameS l with
     | error x =>
       rw [hnm] at he
       obtain ⟨rfl, hs⟩ := he
       refine ⟨rfl, ?_⟩
       show RdRes R s c w _ _ _ _
       rw [HX.out, HVE.out x hnm]
       exact ⟨rfl, (Same.of_below HB1.out (fun _ _ h => h)).tr hs⟩
     | ok mr =>
     obtain ⟨m, r⟩ := mr
     rw [hnm] at he
     obtain ⟨rfl, p2, hc2, hm2⟩ := he
     have HVR := hid (HVO.out m r hnm)
     have HC2 := hid hc2; have HM2 := hid ((Mv.of_below HB1.out).trans hm2)
     have hcA := hc2.below (belowA (Below.refl _ _) (.cells #[.string ⟨m.toArray⟩, .int .i64 0] 67))
     have HCA := hid hcA; have HMA := hid (HM2.out.trans (Mv.of_below (belowA (Below.refl w2.heap.size w2) (.cells #[.string ⟨m.toArray⟩, .int .i64 0] 67))))
     have HYA := hid (Bx.new w2 #[.string ⟨m.toArray⟩, .int .i64 0] 67); have HAP := hid (hc2.new (Nat.le_refl _))
     have hlen2 := hc2.len
     have c0 := hcA.c0; have c1 := hcA.c1; have z1 := f1 hcA 1
     have hz := bsz s
     clear hc2 hm2 hcA hnm
     cases hr : r with
     | nil =>
       have hd1 : ((p2 : Int) == (s.length : Int)) = true := by rw [hr] at hlen2; simp at hlen2; simp [hlen2]
       have HSP : Hid (versS l = .error ([], 220)) := hid (by rw [HVR.out, hr]; rfl)
       have HQ : Hid (s.length - ([] : Bs).length = p2) := hid (by rw [hr] at hlen2; simp at hlen2 ⊢; omega)
       clear hr hlen2
       go_wp2_with (go_quiet (fail))
       refine (rd_fail p2 220 _).mono ?_
       rintro e w9 ⟨rfl, rfl⟩
       refine ⟨rfl, ?_⟩
       show RdRes R s c w _ _ _ _
       rw [HX.out, HSP.out]
       exact ⟨by rw [HQ.out], HMA.out.same.tr (Same.drewN_ _ _)⟩
     | cons b2 t2 =>
     subst hr
     have hd1 : ((p2 : Int) == (s.length : Int)) = false := beq_eq_false_iff_ne.2 (by simp at hlen2; omega)
     have hix2 := fun W => run_ix Tryz.underlying9 s p2 b2 HCA.out.at_ W
     have HL2 := hid hlen2
     by_cases h46 : b2 = 46
     · subst h46
       have hb46 : (((46 : UInt8).toNat : Int) != 46) = false := rfl
       have HSP : Hid (versS l = numV m t2) := hid (by rw [HVR.out]; rfl)
       have hp2 : p2 + 1 ≤ s.length := by have := HL2.out; simp at this; omega
       have hd3 : s.drop (p2 + 1) = t2 := by rw [← List.drop_drop, HCA.out.d]; rfl
       have hsl2 : ∀ W, (Instr.slice 9 (.string ⟨s.toArray⟩) (some (.int .i64 ((p2 : Int) + 1))) none none).run Tryz.prog W = .ok (.string ⟨t2.toArray⟩) W := fun W => by have := run_sl Tryz.underlying9 s (p2 + 1) hp2 W; rw [hd3] at this; exact this
       have HHE := fun W => hid (hd_Head t2 (by have := HL2.out; simp at this; omega) W)
       clear hd3
       have hnum := num_head m t2
       have hDl : (headS t2).length ≤ t2.length := by unfold headS; split; split; exact Nat.zero_le _; rw [List.length_take]; exact Nat.min_le_right _ _; have := len_takeWhile digB t2; omega
       revert HHE hnum hDl
       generalize headS t2 = D
       intro HHE hnum hDl
       have HDL := hid hDl; have HNUM := hid hnum
       clear hDl hnum
       go_wp2_with (go_quiet (fail))
       have HT1 := (HCA.out.drewN nq).to 1 rfl (by simp) (p2 + 1) rfl
       have HTC : Hid (RdC (((w2.alloc (.cells #[.string ⟨m.toArray⟩, .int .i64 0] 67)).drewN nq).setCell ⟨R, 1, none⟩ (.int .i64 ((p2 : Int) + 1))) R s (p2 + 1) t2 c n) := hid HT1.1
       have HTM : Hid (Mv R c c w (((w2.alloc (.cells #[.string ⟨m.toArray⟩, .int .i64 0] 67)).drewN nq).setCell ⟨R, 1, none⟩ (.int .i64 ((p2 : Int) + 1)))) := hid ((HMA.out.trans (Mv.of_below (belowN (Below.refl _ _) nq))).trans HT1.2)
       have HYB : Hid (Bx (((w2.alloc (.cells #[.string ⟨m.toArray⟩, .int .i64 0] 67)).drewN nq).setCell ⟨R, 1, none⟩ (.int .i64 ((p2 : Int) + 1))) w2.heap.size #[.string ⟨m.toArray⟩, .int .i64 0]) := hid ((HYA.out.drewN nq).setOther R 1 (.int .i64 ((p2 : Int) + 1)) (by have := HC2.out.x.2.2; omega))
       clear HT1 c0 c1 z1 hd1
       revert HTC HTM HYB
       generalize (((w2.alloc (.cells #[.string ⟨m.toArray⟩, .int .i64 0] 67)).drewN nq).setCell ⟨R, 1, none⟩ (.int .i64 ((p2 : Int) + 1))) = V
       intro HTC HTM HYB
       obtain ⟨tb, htb⟩ : ∃ tb, tb = w2.heap.size := ⟨_, rfl⟩
       rw [← htb] at HYB HAP ⊢
       have HTB : Hid (tb ≠ R) := hid (fun e => HAP.out.1 e)
       have HTW : Hid (w.heap.size ≤ tb) := hid (by rw [htb]; exact HM2.out.same.size)
       clear htb
       refine wp_region_ordC 99 [(0, 0), (1, 0), (2, 0), (3, 0), (4, 0), (5, 0), (6, 0), (7, 0), (8, 0), (9, 2), (10, 0), (11, 0), (12, 0), (13, 0), (14, 0)] (fun _ => True) (fun W' => W'.cell? ⟨R, 0, none⟩ = some (.string ⟨s.toArray⟩) ∧ W'.cell? ⟨R, 1, none⟩ = some (.int .i64 ((p2 : Int) + 1))) (by kernel_rfl) (by kernel_rfl) (trivial) (⟨HTC.out.drew.c0, HTC.out.drew.c1⟩) ?_
       repeat ((first | refine ordC_skip rfl rfl ?_ | refine ordC_skip1 rfl rfl ?_ | ((first | refine ordC_q rfl rfl ?_ | refine ordC_p rfl rfl ?_); apply Exists.intro; refine ⟨fun wS hS => ?_, ?_⟩; (go_simp; try with_reducible rfl))); simp only [Act.put, List.setIfInBounds_toArray, List.set_cons_zero, List.set_cons_succ])
       refine ordC_l rfl rfl (fun K hK => ?_)
       go_simp
       refine (HHE _).out.mono ?_
       rintro e w4 ⟨rfl, hb4⟩
       have hc4 := HTC.out.drew.below hb4
       have HC4 := hid hc4; have HM4 := hid ((HTM.out.trans (Mv.of_below (Below.refl _ _).drew)).trans (Mv.of_below hb4)); have HY4 := hid (HYB.out.drew.keep hb4)
       refine hK _ _ ⟨trivial, hc4.c0, hc4.c1⟩ ?_
       clear hK K hb4 hc4
       repeat ((first | refine ordC_skip rfl rfl ?_ | refine ordC_skip1 rfl rfl ?_ | ((first | refine ordC_q rfl rfl ?_ | refine ordC_p rfl rfl ?_); apply Exists.intro; refine ⟨fun wS hS => ?_, ?_⟩; (go_simp; try with_reducible rfl))); simp only [Act.put, List.setIfInBounds_toArray, List.set_cons_zero, List.set_cons_succ])
       refine ordC_nil ?_
       have c0 := HC4.out.c0; have z1 := f1 HC4.out 1
       have c1 : w4.cell? ⟨R, 1, none⟩ = some (.int .i64 ((p2 : Int) + 1)) := HC4.out.c1
       clear hsl2
       rcases HNUM.out with ⟨hbad, hnv⟩ | ⟨⟨b3, t3, hh, h45, h48⟩, hht, hal, hnv⟩
       · have HNV := hid hnv
         have HQ : Hid (s.length - t2.length = p2 + 1) := hid (by have := HL2.out; simp at this; omega)
         have HF : Hid (∀ W, Calls Tryz.prog 27 #[.int .i64 ((p2 : Int) + 1), .int .i64 220] W fun e w' => e = .panicked (wrongP (p2 + 1) 220) ∧ w' = W) := hid (fun W => rd_fail (p2 + 1) 220 W)
         clear hnv
         cases D with
         | nil =>
           go_wp2_with fail
           refine (HF.out _).mono ?_
           rintro e w9 ⟨rfl, rfl⟩
           refine ⟨rfl, ?_⟩
           show RdRes R s c w _ _ _ _
           rw [HX.out, HSP.out, HNV.out]
           exact ⟨by rw [HQ.out], HM4.out.same⟩
         | cons b3 t3 =>
           have hbb : b3 = 45 ∨ b3 = 48 := by simpa using hbad
           have hi0 : ∀ W, (Instr.index 9 (.string ⟨(b3 :: t3).toArray⟩) (.int .i64 0)).run Tryz.prog W = .ok (.int .u8 (b3.toNat : Int)) W := fun W => run_ix Tryz.underlying9 (b3 :: t3) 0 b3 rfl W
           have hem : ((b3 :: t3) == ([] : Bs)) = false := rfl
           clear hbad
           by_cases h45 : b3.toNat = 45
           · have e45 : ((b3.toNat : Int) == 45) = true := by simp [h45]
             clear hbb h45
             go_wp2_with fail
             refine (HF.out _).mono ?_
             rintro e w9 ⟨rfl, rfl⟩
             refine ⟨rfl, ?_⟩
             show RdRes R s c w _ _ _ _
             rw [HX.out, HSP.out, HNV.out]
             exact ⟨by rw [HQ.out], HM4.out.same⟩
           · have h48 : b3.toNat = 48 := by rcases hbb with rfl | rfl; exact absurd rfl h45; rfl
             have e45 : ((b3.toNat : Int) == 45) = false := beq_eq_false_iff_ne.2 (by omega)
             have e48 : ((b3.toNat : Int) == 48) = true := by simp [h48]
             clear hbb h45 h48
             go_wp2_with fail
             refine (HF.out _).mono ?_
             rintro e w9 ⟨rfl, rfl⟩
             refine ⟨rfl, ?_⟩
             show RdRes R s c w _ _ _ _
             rw [HX.out, HSP.out, HNV.out]
             exact ⟨by rw [HQ.out], HM4.out.same⟩
       · skip
         clear hht
         subst hh
         have hne : (b3 :: t3 : Bs) ≠ [] := by simp
         have hi0 : ∀ W, (Instr.index 9 (.string ⟨(b3 :: t3).toArray⟩) (.int .i64 0)).run Tryz.prog W = .ok (.int .u8 (b3.toNat : Int)) W := fun W => run_ix Tryz.underlying9 (b3 :: t3) 0 b3 rfl W
         have e45 : ((b3.toNat : Int) == 45) = false := beq_eq_false_iff_ne.2 (by omega)
         have e48 : ((b3.toNat : Int) == 48) = false := beq_eq_false_iff_ne.2 (by omega)
         have hem : ((b3 :: t3) == ([] : Bs)) = false := rfl
         have hzd := bsz (b3 :: t3)
         have hle3 := HC4.out.len; have hdl := HDL.out
         have HAT := hid (ato_any (b3 :: t3) hne hal (by omega) w4 ((HG.out.mv HH.out HM4.out.same).e))
         obtain ⟨V, hV⟩ : ∃ V, V = valD (b3 :: t3) := ⟨_, rfl⟩
         rw [← hV] at HAT hnv
         have HNV := hid hnv; have HL3 := hid hle3
         clear hal hnv h45 h48 hV hle3 hne
         go_wp2_with fail
         refine HAT.out.mono ?_
         rintro e w5 ⟨kk, er, rfl, hb5, hkr⟩
         have HC5 := hid (HC4.out.below hb5); have HM5 := hid (HM4.out.trans (Mv.of_below hb5)); have HY5 := hid (HY4.out.keep hb5)
         have z1 := f1 HC5.out 1
         have c1 : w5.cell? ⟨R, 1, none⟩ = some (.int .i64 ((p2 : Int) + 1)) := HC5.out.c1
         have HF3 : Hid (∀ W, Calls Tryz.prog 27 #[.int .i64 ((p2 : Int) + 1), .int .i64 3] W fun e w' => e = .panicked (wrongP (p2 + 1) 3) ∧ w' = W) := hid (fun W => rd_fail (p2 + 1) 3 W)
         have HQ : Hid (s.length - t2.length = p2 + 1) := hid (by have := HL2.out; simp at this; omega)
         clear hb5
         rcases hkr with ⟨rfl, rfl, hmx⟩ | ⟨h9, T, pp, rfl⟩
         · by_cases h9 : 999 < V
           · have HV9 := hid h9
             have hd9 : decide ((999 : Int) < (V : Int)) = true := decide_eq_true (by omega)
             clear h9
             go_wp2_with fail
             refine (HF3.out _).mono ?_
             rintro e w9 ⟨rfl, rfl⟩
             refine ⟨rfl, ?_⟩
             show RdRes R s c w _ _ _ _
             rw [HX.out, HSP.out, HNV.out, if_pos HV9.out]
             exact ⟨by rw [HQ.out], HM5.out.same⟩
           · have HV9 := hid h9
             have hd9 : decide ((999 : Int) < (V : Int)) = false := decide_eq_false (by omega)
             obtain ⟨q, hq⟩ : ∃ q, q = p2 + 1 + (b3 :: t3).length := ⟨_, rfl⟩
             have hqi : (p2 : Int) + 1 + ((b3 :: t3).length : Int) = (q : Int) := by omega
             have hqi2 : (p2 : Int) + 1 + ((t3.length : Int) + 1) = (q : Int) := by simp at hq; omega
             have hqb : q ≤ 2000000 := by have := HL3.out; omega
             have HT6 := HC5.out.to (b3 :: t3).length rfl HDL.out q hq
             have hcy := HY5.out.1; have hfy := HY5.out.2.1
             have hn1 : ¬ tb = R := HTB.out
             have hn2 : ¬ R = tb := fun e => HTB.out e.symm
             have HC6 := hid (HT6.1.put tb 1 (.int .i64 (V : Int)) HAP.out); have HM6 := hid ((HM5.out.trans HT6.2).put tb 1 (.int .i64 (V : Int)) HTW.out)
             have HY6 : Hid (Bx ((w5.setCell ⟨R, 1, none⟩ (.int .i64 (q : Int))).setCell ⟨tb, 1, none⟩ (.int .i64 (V : Int))) tb #[.string ⟨m.toArray⟩, .int .i64 (V : Int)]) := hid ((HY5.out.setOther R 1 (.int .i64 (q : Int)) hn1).setC 1 (by simp) (.int .i64 (V : Int)))
             clear h9 hq HT6
             go_wp2_with fail
             revert HC6 HM6 HY6
             generalize ((w5.setCell ⟨R, 1, none⟩ (.int .i64 (q : Int))).setCell ⟨tb, 1, none⟩ (.int .i64 (V : Int))) = Z
             intro HC6 HM6 HY6
             clear hcy hfy z1 c1
             have HN4 : Hid (R + 1 ≤ (Z.drew.alloc (.cells #[.string ⟨m.toArray⟩, .int .i64 (V : Int)] 67)).heap.size) := hid (by have := HC6.out.x.2.2; simp; omega)
             refine wp_region_ordC 12 [(0, 1), (1, 1), (2, 1), (3, 1), (4, 1), (5, 0), (6, 0), (7, 2), (8, 2), (9, 1), (10, 1), (11, 1), (12, 2)] (fun _ => True) (fun W' => W'.cell? ⟨R, 5, none⟩ = some (.slice c.va c.vn c.vc) ∧ W'.cell? ⟨tb, 0, none⟩ = some (.string ⟨m.toArray⟩) ∧ W'.cell? ⟨tb, 1, none⟩ = some (.int .i64 (V : Int))) (by kernel_rfl) (by kernel_rfl) (trivial) (⟨HC6.out.drew.c5, HY6.out.drew.1 0, HY6.out.drew.1 1⟩) ?_
             repeat ((first | refine ordC_skip rfl rfl ?_ | refine ordC_skip1 rfl rfl ?_ | ((first | refine ordC_q rfl rfl ?_ | refine ordC_p rfl rfl ?_); apply Exists.intro; refine ⟨fun wS hS => ?_, ?_⟩; (go_simp; try with_reducible rfl))); simp only [Act.put, List.setIfInBounds_toArray, List.set_cons_zero, List.set_cons_succ])
             refine ordC_l rfl rfl (fun K hK => ?_)
             go_simp
             refine hK _ _ ⟨trivial, (HC6.out.drew.below (belowA (Below.refl _ _) _)).c5, (HY6.out.drew.alloc _).1 0, (HY6.out.drew.alloc _).1 1⟩ ?_
             clear hK K
             refine ordC_l rfl rfl (fun K hK => ?_)
             refine wp_app _ _ 26 rfl i z 24 Tryz.underlying26 HI.out.1 HI.out.2.1 HI.out.2.2.1 HI.out.2.2.2.1 HI.out.2.2.2.2 rfl (HC6.out.drew.n.2.2.alloc _) (some ⟨Z.heap.size, 0, none⟩) 1 1 (c.vn + 1) [⟨m, V⟩] rfl (Row.toN rfl ⟨m, V⟩) HN1.out HN2.out HN3.out HN4.out ?_
             intro a' c' w7 hown7 hg7 hat7
             have hx7 := (HC6.out.drew.x.keep (belowA (Below.refl _ _) (.cells #[.string ⟨m.toArray⟩, .int .i64 (V : Int)] 67))).grown hg7 HNR.out
             have HAD := hid (HC6.out.drew.addV (belowA (Below.refl _ _) (.cells #[.string ⟨m.toArray⟩, .int .i64 (V : Int)] 67)) a' c' hown7 hg7 hat7)
             have hy7 : Bx w7 tb #[.string ⟨m.toArray⟩, .int .i64 (V : Int)] := (HY6.out.drew.alloc _).grown hg7 HAP.out.2.2
             refine hK _ _ ⟨trivial, hx7.1 5, hy7.1 0, hy7.1 1⟩ ?_
             have hc7 := hx7.1 5; have hf7 := hx7.2.1 5
             clear hK K hown7 hg7 hat7 hx7 hy7
             repeat ((first | refine ordC_skip rfl rfl ?_ | refine ordC_skip1 rfl rfl ?_ | ((first | refine ordC_q rfl rfl ?_ | refine ordC_p rfl rfl ?_); apply Exists.intro; refine ⟨fun wS hS => ?_, ?_⟩; (go_simp; try with_reducible rfl))); simp only [Act.put, List.setIfInBounds_toArray, List.set_cons_zero, List.set_cons_succ])
             refine ordC_m rfl rfl rfl (fun K hK => ?_)
             go_simp
             refine hK _ _ trivial ?_
             clear hK K
             refine ordC_nil ?_
             go_wp2_with fail
             refine bodyPost_end (results_none rfl _ _ _) rfl ?_
             show RdRes R s c w _ _ _ _
             rw [HX.out, HSP.out, HNV.out, if_neg HV9.out]
             exact ⟨rfl, q, _, HAD.out.1, (HM6.out.trans (Mv.of_below (Below.refl _ _).drew)).trans HAD.out.2⟩
         · have HV9 := hid h9
           clear h9
           go_wp2_with fail
           refine (HF3.out _).mono ?_
           rintro e w9 ⟨rfl, rfl⟩
           refine ⟨rfl, ?_⟩
           show RdRes R s c w _ _ _ _
           rw [HX.out, HSP.out, HNV.out, if_pos HV9.out]
           exact ⟨by rw [HQ.out], HM5.out.same⟩
     · have hb46 : ((b2.toNat : Int) != 46) = true := bne_iff_ne.2 (fun e => h46 (UInt8.toNat_inj.1 (by show b2.toNat = 46; omega)))
       have HSP : Hid (versS l = .error (b2 :: t2, 220)) := hid (by rw [HVR.out, if_neg (by simpa using h46)])
       have HQ : Hid (s.length - (b2 :: t2).length = p2) := hid (by omega)
       clear h46
       go_wp2_with (go_quiet (fail))
       refine (rd_fail p2 220 _).mono ?_
       rintro e w9 ⟨rfl, rfl⟩
       refine ⟨rfl, ?_⟩
       show RdRes R s c w _ _ _ _
       rw [HX.out, HSP.out]
       exact ⟨by rw [HQ.out], HMA.out.same.tr (Same.drewN_ _ _)⟩
end Yd
