import Derived.Test.YthdpangjphphjaaGreatDoorRRi
import Derived.Test.YthdpangjphphjaaGreatDoorProg
set_option maxRecDepth 200000
set_option maxHeartbeats 8000000
namespace Yd
open Go Go.RowKit Go.Proofs
attribute [local go_sem] Oper.semAt_some
theorem r_Right_0 {w : World} {B : Nat} {l : LnC} {s : LnS} (k : Nat) (hk : k < 10) (he1 : ((k : Int) == 1) = false) (he8 : ((k : Int) == 8) = false) (he9 : ((k : Int) == 9) = false) (h : LnAt w B l s) (hkd : s.kind = (k : Int)) (hn : s.names.length ≤ 1000) (hv : s.vers.length ≤ 1000) :
   Calls Tryz.prog 14 #[valLn l] w (Ret (.bool (bodyB k s)) w) := by
 have HNR := hid (h.2.1.row (by omega)); have HVR := hid (h.2.2.row (by omega))
 obtain ⟨⟨q1, q2, q3, q4, q5, q6⟩, -, -⟩ := h
 obtain ⟨lk, na, nn, nc, lvl, va, vn, vc, lf, bits⟩ := l
 obtain ⟨sk, names, slv, vers, first, sbt⟩ := s
 simp only at q1 q2 q3 q4 q5 q6 hkd hn hv HNR HVR
 subst q1 q2 q3 q4 hkd
 obtain ⟨N, hN⟩ : ∃ N : Int, formN k = N := ⟨_, rfl⟩
 obtain ⟨M, hM⟩ : ∃ M : Int, formN k + mostR (formR k) = M := ⟨_, rfl⟩
 obtain ⟨V, hV⟩ : ∃ V : Int, manyR (formR k) ((nn : Int) - formN k) = V := ⟨_, rfl⟩
 have HFW : Hid (∀ W, Calls Tryz.prog 39 #[.int .i64 (k : Int)] W (Ret2 (.int .i64 N) (.int .i64 M) W)) := hid (fun W => by have := r_few k hk W; rw [hM, hN] at this; exact this)
 have HVW : Hid (∀ W, Calls Tryz.prog 40 #[.int .i64 (k : Int), .int .i64 (nn : Int)] W (Ret (.int .i64 V) W)) := hid (fun W => by have := r_versions k hk nn (by omega) W; rw [hV] at this; exact this)
 have HBODY : Hid (bodyB k ⟨(k : Int), names, lvl, vers, lf, bits⟩ = ((!decide ((nn : Int) < N) && !decide (M < (nn : Int)) && ((vn : Int) == V) && vers.all toB) && names.all (fun x => wordB ⟨x.toArray⟩) && ((lvl == 0) && (!lf || false) && (bits == 0 || (false && (decide (0 < bits) && decide (bits < 16))))))) := hid (by
   have hr : formR k ≠ 108 ∧ formR k ≠ 109 ∧ formR k ≠ 103 := by
     have h1 := he1; have h8 := he8; have h9 := he9
     simp only [beq_eq_false_iff_ne, ne_eq] at h1 h8 h9
     rcases (by omega : k = 0 ∨ k = 1 ∨ k = 2 ∨ k = 3 ∨ k = 4 ∨ k = 5 ∨ k = 6 ∨ k = 7 ∨ k = 8 ∨ k = 9) with rfl | rfl | rfl | rfl | rfl | rfl | rfl | rfl | rfl | rfl <;> first | decide | omega
   unfold bodyB
   simp only []
   rw [← q5, ← q6, hV, hN]
   rw [show decide (N ≤ (nn : Int)) = !decide ((nn : Int) < N) by rw [← decide_not]; exact decide_eq_decide.2 (by omega), show decide ((nn : Int) - N ≤ mostR (formR k)) = !decide (M < (nn : Int)) by rw [← decide_not]; exact decide_eq_decide.2 (by omega), show decide ((vn : Int) = V) = ((vn : Int) == V) from rfl]
   rw [show (formR k == 108) = false from beq_eq_false_iff_ne.2 hr.1, show (formR k == 109) = false from beq_eq_false_iff_ne.2 hr.2.1, show (formR k == 103) = false from beq_eq_false_iff_ne.2 hr.2.2]
   have hl : ((lvl != 0)) = !(lvl == 0) := rfl
   rw [hl]
   rw [show decide (bits ≤ 15) = decide (bits < 16) from decide_eq_decide.2 (by omega)]
   generalize (!decide ((nn : Int) < N) && !decide (M < (nn : Int)) && ((vn : Int) == V) && vers.all toB) = a1
   generalize names.all (fun x => wordB ⟨x.toArray⟩) = a2
   generalize levelB lvl = a3
   generalize (lvl == 0) = a4
   generalize (bits == 0) = a5
   generalize decide (0 < bits) = a6; generalize decide (bits < 16) = a7
   revert a1 a2 a3 a4 a5 a6 a7 lf; decide)
 obtain ⟨out, hO⟩ : ∃ out : Bool, out = bodyB k ⟨(k : Int), names, lvl, vers, lf, bits⟩ := ⟨_, rfl⟩
 rw [← hO]
 have HOUT := hid (hO.trans HBODY.out)
 have hle : nn ≤ 1000 := by omega
 have hle2 : vn ≤ 1000 := by omega
 have h10 : (k : Int) < 10 := by omega
 have h09 : decide (9 < (k : Int)) = false := by simp; omega
 have HQ := hid (⟨q5, q6⟩ : _ ∧ _)
 clear hO hN hM hV HBODY q5 q6 hn hv
 have hn1 : ((k : Int) != 1) = true := by unfold bne; rw [he1]; rfl
 have HX0 := hid (Bx.new w #[.int .i64 (k : Int), .slice na nn nc, .int .i64 lvl, .slice va vn vc, .bool lf, .int .i64 bits] 28)
 have HB0 := hid (belowA (Below.refl w.heap.size w) (.cells #[.int .i64 (k : Int), .slice na nn nc, .int .i64 lvl, .slice va vn vc, .bool lf, .int .i64 bits] 28))
 go_enter Tryz.func14, Tryz.ntmps14
 have hcx := HX0.out.1
 go_wp2_with fail
 refine (HFW.out _).mono ?_
 rintro e w1 ⟨rfl, hb1⟩
 have HX1 := hid (HX0.out.keep hb1); have HB1 := hid (HB0.out.trans (hb1.mono HB0.out.size))
 clear hb1 hcx
 have hcx := HX1.out.1
 cases h1 : decide ((nn : Int) < N)
 case true =>
   have H1 := hid h1
   go_wp2_with fail
   refine wp_region_ordC 99 [(0, 0), (1, 0), (2, 0), (3, 0), (4, 0), (5, 0), (6, 0), (7, 0), (8, 0), (9, 0), (10, 0), (11, 0), (12, 0), (13, 0), (14, 0), (15, 0), (16, 0), (17, 0), (18, 0), (19, 0), (20, 0), (21, 0), (22, 0), (23, 0)] (fun _ => True) (fun W' => Bx W' w.heap.size #[.int .i64 (k : Int), .slice na nn nc, .int .i64 lvl, .slice va vn vc, .bool lf, .int .i64 bits]) (by kernel_rfl) (by kernel_rfl) (trivial) (HX1.out.drew) ?_
   repeat ((first | refine ordC_skip rfl rfl ?_ | refine ordC_skip1 rfl rfl ?_ | ((first | refine ordC_q rfl rfl ?_ | refine ordC_p rfl rfl ?_); apply Exists.intro; refine ⟨fun wS hS => ?_, ?_⟩; (go_simp; try with_reducible rfl))); simp only [Act.put, List.setIfInBounds_toArray, List.set_cons_zero, List.set_cons_succ])
   refine ordC_nil ?_
   have hout : out = false := by rw [HOUT.out]; simp [H1.out]
   go_wp2_with fail
   go_ret
   rw [hout]
   exact ⟨rfl, HB1.out.drew⟩
 have H1 := hid h1
 cases h2 : decide (M < (nn : Int))
 case true =>
   have H2 := hid h2
   go_wp2_with fail
   refine wp_region_ordC 99 [(0, 0), (1, 0), (2, 0), (3, 0), (4, 0), (5, 0), (6, 0), (7, 0), (8, 0), (9, 0), (10, 0), (11, 0), (12, 0), (13, 0), (14, 0), (15, 0), (16, 0), (17, 0), (18, 0), (19, 0), (20, 0), (21, 0), (22, 0), (23, 0)] (fun _ => True) (fun W' => Bx W' w.heap.size #[.int .i64 (k : Int), .slice na nn nc, .int .i64 lvl, .slice va vn vc, .bool lf, .int .i64 bits]) (by kernel_rfl) (by kernel_rfl) (trivial) (HX1.out.drew) ?_
   repeat ((first | refine ordC_skip rfl rfl ?_ | refine ordC_skip1 rfl rfl ?_ | ((first | refine ordC_q rfl rfl ?_ | refine ordC_p rfl rfl ?_); apply Exists.intro; refine ⟨fun wS hS => ?_, ?_⟩; (go_simp; try with_reducible rfl))); simp only [Act.put, List.setIfInBounds_toArray, List.set_cons_zero, List.set_cons_succ])
   refine ordC_nil ?_
   have hout : out = false := by rw [HOUT.out]; simp [H1.out, H2.out]
   go_wp2_with fail
   go_ret
   rw [hout]
   exact ⟨rfl, HB1.out.drew⟩
 have H2 := hid h2
 cases h3 : ((vn : Int) == V)
 case false =>
   have h3n : ((vn : Int) != V) = true := by unfold bne; rw [h3]; rfl
   have H3 := hid h3
   clear h3
   go_wp2_with fail
   refine wp_region_ordC 99 [(0, 0), (1, 0), (2, 0), (3, 0), (4, 0), (5, 0), (6, 0), (7, 0), (8, 0), (9, 0), (10, 0), (11, 0), (12, 0), (13, 0), (14, 0), (15, 0), (16, 0), (17, 0), (18, 0), (19, 0), (20, 0), (21, 2), (22, 0), (23, 0)] (fun _ => True) (fun W' => Bx W' w.heap.size #[.int .i64 (k : Int), .slice na nn nc, .int .i64 lvl, .slice va vn vc, .bool lf, .int .i64 bits]) (by kernel_rfl) (by kernel_rfl) (trivial) (HX1.out.drew) ?_
   repeat ((first | refine ordC_skip rfl rfl ?_ | refine ordC_skip1 rfl rfl ?_ | ((first | refine ordC_q rfl rfl ?_ | refine ordC_p rfl rfl ?_); apply Exists.intro; refine ⟨fun wS hS => ?_, ?_⟩; (go_simp; try with_reducible rfl))); simp only [Act.put, List.setIfInBounds_toArray, List.set_cons_zero, List.set_cons_succ])
   refine ordC_l rfl rfl (fun K hK => ?_)
   go_simp
   refine (HVW.out _).mono ?_
   rintro e w2 ⟨rfl, hb2⟩
   have HX2 := hid (HX1.out.drew.keep hb2); have HB2 := hid (HB1.out.drew.trans (hb2.mono HB1.out.drew.size))
   refine hK _ _ ⟨trivial, HX2.out⟩ ?_
   clear hK K hb2 hcx
   have hcx := HX2.out.1
   repeat ((first | refine ordC_skip rfl rfl ?_ | refine ordC_skip1 rfl rfl ?_ | ((first | refine ordC_q rfl rfl ?_ | refine ordC_p rfl rfl ?_); apply Exists.intro; refine ⟨fun wS hS => ?_, ?_⟩; (go_simp; try with_reducible rfl))); simp only [Act.put, List.setIfInBounds_toArray, List.set_cons_zero, List.set_cons_succ])
   refine ordC_nil ?_
   have hout : out = false := by rw [HOUT.out]; simp [H1.out, H2.out, H3.out]
   go_wp2_with fail
   go_ret
   rw [hout]
   exact ⟨rfl, HB2.out⟩
 case true =>
   have h3n : ((vn : Int) != V) = false := by unfold bne; rw [h3]; rfl
   have H3 := hid h3
   clear h3
   go_wp2_with fail
   refine wp_region_ordC 99 [(0, 0), (1, 0), (2, 0), (3, 0), (4, 0), (5, 0), (6, 0), (7, 0), (8, 0), (9, 0), (10, 0), (11, 0), (12, 0), (13, 0), (14, 0), (15, 0), (16, 0), (17, 0), (18, 0), (19, 0), (20, 0), (21, 2), (22, 0), (23, 0)] (fun _ => True) (fun W' => Bx W' w.heap.size #[.int .i64 (k : Int), .slice na nn nc, .int .i64 lvl, .slice va vn vc, .bool lf, .int .i64 bits]) (by kernel_rfl) (by kernel_rfl) (trivial) (HX1.out.drew) ?_
   repeat ((first | refine ordC_skip rfl rfl ?_ | refine ordC_skip1 rfl rfl ?_ | ((first | refine ordC_q rfl rfl ?_ | refine ordC_p rfl rfl ?_); apply Exists.intro; refine ⟨fun wS hS => ?_, ?_⟩; (go_simp; try with_reducible rfl))); simp only [Act.put, List.setIfInBounds_toArray, List.set_cons_zero, List.set_cons_succ])
   refine ordC_l rfl rfl (fun K hK => ?_)
   go_simp
   refine (HVW.out _).mono ?_
   rintro e w2 ⟨rfl, hb2⟩
   have HX2 := hid (HX1.out.drew.keep hb2); have HB2 := hid (HB1.out.drew.trans (hb2.mono HB1.out.drew.size))
   refine hK _ _ ⟨trivial, HX2.out⟩ ?_
   clear hK K hb2 hcx
   have hcx := HX2.out.1
   repeat ((first | refine ordC_skip rfl rfl ?_ | refine ordC_skip1 rfl rfl ?_ | ((first | refine ordC_q rfl rfl ?_ | refine ordC_p rfl rfl ?_); apply Exists.intro; refine ⟨fun wS hS => ?_, ?_⟩; (go_simp; try with_reducible rfl))); simp only [Act.put, List.setIfInBounds_toArray, List.set_cons_zero, List.set_cons_succ])
   refine ordC_nil ?_
   go_wp2_with fail
   clear hcx h1 h2 h3n
   go_loopw [51] (fun i wr => ∃ j : Nat, j ≤ nn ∧ i = .int .i64 j ∧ Below w.heap.size w wr ∧ Bx wr w.heap.size #[.int .i64 (k : Int), .slice na nn nc, .int .i64 lvl, .slice va vn vc, .bool lf, .int .i64 bits] ∧ (names.take j).all (fun x => wordB ⟨x.toArray⟩) = true) (fun i _ => nn - (RowKit.intOf i).toNat)
   case atStart => exact ⟨0, Nat.zero_le _, rfl, HB2.out, HX2.out, rfl⟩
   case round =>
     obtain ⟨j, hj, rfl, hbw, hxw, hall⟩ := hrel
     have HBW := hid hbw; have HXW := hid hxw; have HALL := hid hall
     clear hbw hxw hall
     by_cases hlt : j < nn
     · obtain ⟨x, b, o, hx, rfl, hc⟩ := (HNR.out.below HBW.out rfl).at_ hlt
       have e0 := hc 0 _ rfl
       simp only [Nat.mul_one, Nat.add_zero] at e0
       have HXE := hid hx
       clear hx hc
       go_wp2_with fail
       refine (ref_Word ⟨x.toArray⟩ _).mono ?_
       rintro e w3 ⟨rfl, hb3⟩
       rw [refWord_eq]
       have HX3 := hid (HXW.out.keep hb3); have HB3 := hid (HBW.out.trans (hb3.mono HBW.out.size))
       clear hb3 e0
       cases hw : wordB ⟨x.toArray⟩
       · have HW := hid hw
         clear hw
         have hal : names.all (fun x => wordB ⟨x.toArray⟩) = false := List.all_eq_false.2 ⟨x, List.mem_of_getElem? HXE.out, by rw [HW.out]; simp⟩
         have HAL := hid hal
         clear hal
         have hout : out = false := by rw [HOUT.out]; simp [HAL.out]
         go_wp2_with fail
         go_ret
         rw [hout]
         exact ⟨rfl, HB3.out⟩
       · have HW := hid hw
         clear hw
         go_wp2_with fail
         go_roundw
         case rel => exact ⟨j + 1, by omega, by go_num, HB3.out, HX3.out, by rw [List.take_add_one, HXE.out, List.all_append, HALL.out]; simp [HW.out]⟩
         case measure => simp [RowKit.intOf]; omega
     · obtain rfl : nn = j := by omega
       have HAL : Hid (names.all (fun x => wordB ⟨x.toArray⟩) = true) := hid (by have := HALL.out; rwa [List.take_of_length_le (by have := HQ.out; omega)] at this)
       have hcx := HXW.out.1
       go_wp2_with fail
       clear hcx
       go_loopw [62] (fun i wr => ∃ j : Nat, j ≤ vn ∧ i = .int .i64 j ∧ Below w.heap.size w wr ∧ Bx wr w.heap.size #[.int .i64 (k : Int), .slice na nn nc, .int .i64 lvl, .slice va vn vc, .bool lf, .int .i64 bits] ∧ (vers.take j).all toB = true) (fun i _ => vn - (RowKit.intOf i).toNat)
       case atStart => exact ⟨0, Nat.zero_le _, rfl, HBW.out, HXW.out, rfl⟩
       case round =>
         obtain ⟨j, hj, rfl, hbw, hxw, hall⟩ := hrel
         have HBV := hid hbw; have HXV := hid hxw; have HALV := hid hall
         clear hbw hxw hall
         by_cases hlt : j < vn
         · obtain ⟨x, b, o, hx, rfl, hc⟩ := (HVR.out.below HBV.out rfl).at_ hlt
           have e0 := hc 0 _ rfl; have e1 := hc 1 _ rfl
           simp only [Nat.add_zero] at e0
           have HXE := hid hx
           clear hx hc
           have HXZ := hid (HXV.out.alloc (.cells (cellsTo x) 67)); have HBZ := hid (belowA HBV.out (.cells (cellsTo x) 67))
           go_wp2_with fail
           refine (r_rightTold x _).mono ?_
           rintro e w3 ⟨rfl, hb3⟩
           have HX3 := hid (HXZ.out.keep hb3); have HB3 := hid (HBZ.out.trans (hb3.mono HBZ.out.size))
           clear hb3 e0 e1
           cases hw : toB x
           · have HW := hid hw
             clear hw
             have hal : vers.all toB = false := List.all_eq_false.2 ⟨x, List.mem_of_getElem? HXE.out, by rw [HW.out]; simp⟩
             have HVL := hid hal
             clear hal
             have hout : out = false := by rw [HOUT.out]; simp [HVL.out]
             go_wp2_with fail
             go_ret
             rw [hout]
             exact ⟨rfl, HB3.out⟩
           · have HW := hid hw
             clear hw
             go_wp2_with fail
             go_roundw
             case rel => exact ⟨j + 1, by omega, by go_num, HB3.out, HX3.out, by rw [List.take_add_one, HXE.out, List.all_append, HALV.out]; simp [HW.out]⟩
             case measure => simp [RowKit.intOf]; omega
         · obtain rfl : vn = j := by omega
           have HVL : Hid (vers.all toB = true) := hid (by have := HALV.out; rwa [List.take_of_length_le (by have := HQ.out; omega)] at this)
           have hcx := HXV.out.1
           cases h6 : (lvl == 0)
           · skip
             go_wp2_with fail
             go_ret
             have hout : out = false := by rw [HOUT.out]; simp [H1.out, H2.out, H3.out, HAL.out, HVL.out, h6]
             rw [hout]
             exact ⟨rfl, HBV.out⟩
           · skip
             cases lf
             · skip
               cases h8 : (bits == 0)
               · skip
                 go_wp2_with fail
                 go_ret
                 have hout : out = false := by rw [HOUT.out]; simp [H1.out, H2.out, H3.out, HAL.out, HVL.out, h6, h8]
                 rw [hout]
                 exact ⟨rfl, HBV.out⟩
               · skip
                 go_wp2_with fail
                 go_ret
                 have hout : out = true := by rw [HOUT.out]; simp [H1.out, H2.out, H3.out, HAL.out, HVL.out, h6, h8]
                 rw [hout]
                 exact ⟨rfl, HBV.out⟩
             · skip
               go_wp2_with fail
               go_ret
               have hout : out = false := by rw [HOUT.out]; simp [H1.out, H2.out, H3.out, HAL.out, HVL.out, h6]
               rw [hout]
               exact ⟨rfl, HBV.out⟩
end Yd
