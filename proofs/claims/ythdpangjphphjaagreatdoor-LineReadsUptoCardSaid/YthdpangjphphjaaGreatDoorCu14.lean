import Derived.Test.YthdpangjphphjaaGreatDoorCu13
import Derived.Test.YthdpangjphphjaaGreatDoorProg
set_option maxRecDepth 200000
set_option maxHeartbeats 8000000
namespace Yd
open Go Go.RowKit Go.Proofs

theorem CuC.oth {w : World} {B p : Nat} {s l : Bs} {e : Int} (h : CuC w B s p l e) (b i : Nat) (v : Value) (hb : b ≠ B) : CuC (w.setCell ⟨b, i, none⟩ v) B s p l e :=
 ⟨h.x.setOther b i v (Ne.symm hb), h.d, h.le, h.lim⟩
theorem cs_new {B b : Nat} {w w1 : World} (h : Cs B w w1) (hb : w.heap.size ≤ b) (i : Nat) (v : Value) : Cs B w (w1.setCell ⟨b, i, none⟩ v) := by
 have h1 : Same (fun i => i ≠ B ∧ i < w.heap.size) w1 (w1.setCell ⟨b, i, none⟩ v) := Same.setCell _ _ _ _ (fun e => by have : b < w.heap.size := e.2; omega)
 have h0 : Same (fun i => i ≠ B ∧ i < w.heap.size) w w1 := ⟨h.os, h.tape, h.output, h.size, fun i hi hl => h.block i hi.1 hl⟩
 have h2 := h0.tr h1
 exact ⟨h2.os, h2.tape, h2.output, h2.size, fun i hi hl => h2.block i ⟨hi, hl⟩ hl⟩
theorem versS_dash (t : Bs) : versS (45 :: t) = .ok (⟨[], 0⟩, t) := by unfold versS; rw [if_pos (by rfl)]; rfl
theorem versS_no {b : UInt8} (t : Bs) (h : b ≠ 45) : versS (b :: t) = match nameS (b :: t) with
   | .error x => .error x
   | .ok (nm, r) => if r.head? = some 46 then numV nm r.tail else .error (r, 220) := by
 unfold versS; rw [if_neg (by simpa using h)]; rfl
theorem cu_told {B p : Nat} {s t : Bs} {b : UInt8} (w : World) (h : CuC w B s p (b :: t) 0) (hbl : blB b = false) (hen : endsS (b :: t) = false) :
   Calls Tryz.prog 92 #[.pointer (some ⟨B, 0, none⟩)] w (CuRes B s w (fun v : To => valTo v) (versS (b :: t))) := by
 have HEN := hid (fun W (hb : Below w.heap.size w W) => cu_ends W (h.below hb))
 rw [hen] at HEN
 have hix := fun W => run_ix Tryz.underlying9 s p b h.at_ W
 have HNA := hid (fun W (hc : CuC W B s p (b :: t) 0) => cu_name W hc hbl hen)
 have hpb : p ≤ 1000000 := Nat.le_trans h.le h.lim
 have HH := hid h
 have HB0 := hid (belowA (Below.refl w.heap.size w) (.cells (cellsTo ⟨[], 0⟩) 67))
 have HX0 := hid (Bx.new w (cellsTo ⟨[], 0⟩) 67)
 have HBL := hid (show w.heap.size ≠ B from fun e => by have := h.lt; omega)
 have c0 := (h.below HB0.out).x.1 0; have c1 := (h.below HB0.out).x.1 1; have c2 := (h.below HB0.out).x.1 2
 clear h hbl hen
 go_enter Tryz.func92, Tryz.ntmps92
 go_wp2_with fail
 cases h45 : ((b.toNat : Int) == 45)
 · skip
   refine wp_region_ordC 99 [(0, 0), (1, 0), (2, 0), (3, 0), (4, 0), (5, 0), (6, 0), (7, 2), (8, 0), (9, 0), (10, 0), (11, 0), (12, 0), (13, 0), (14, 0), (15, 0), (16, 0), (17, 0), (18, 0), (19, 0), (20, 0), (21, 0)] (fun _ => True) (fun W' => W'.cell? ⟨B, 0, none⟩ = some (.string ⟨s.toArray⟩) ∧ W'.cell? ⟨B, 1, none⟩ = some (.int .i64 (p : Int)) ∧ W'.cell? ⟨B, 2, none⟩ = some (.int .i64 0)) (by kernel_rfl) (by kernel_rfl) (trivial) (⟨c0, c1, c2⟩) ?_
   repeat ((first | refine ordC_skip rfl rfl ?_ | refine ordC_skip1 rfl rfl ?_ | ((first | refine ordC_q rfl rfl ?_ | refine ordC_p rfl rfl ?_); apply Exists.intro; refine ⟨fun wS hS => ?_, ?_⟩; (go_simp; try with_reducible rfl))); simp only [Act.put, List.setIfInBounds_toArray, List.set_cons_zero, List.set_cons_succ])
   refine ordC_l rfl rfl (fun K hK => ?_)
   go_simp
   refine (HEN.out _ (HB0.out.drew)).mono ?_
   rintro e w1 ⟨rfl, hb1⟩
   have HB1 := hid (HB0.out.drew.trans (hb1.mono HB0.out.drew.size)); have HX1 := hid ((HX0.out.drew).keep hb1)
   have HC1 := hid (HH.out.below HB1.out)
   refine hK _ _ ⟨trivial, HC1.out.x.1 0, HC1.out.x.1 1, HC1.out.x.1 2⟩ ?_
   clear hK K hb1 c0 c1 c2
   repeat ((first | refine ordC_skip rfl rfl ?_ | refine ordC_skip1 rfl rfl ?_ | ((first | refine ordC_q rfl rfl ?_ | refine ordC_p rfl rfl ?_); apply Exists.intro; refine ⟨fun wS hS => ?_, ?_⟩; (go_simp; try with_reducible rfl))); simp only [Act.put, List.setIfInBounds_toArray, List.set_cons_zero, List.set_cons_succ])
   refine ordC_nil ?_
   have HVN := hid (versS_no (b := b) t (fun e => by rw [e] at h45; cases h45))
   go_wp2_with fail
   refine (HNA.out _ HC1.out).mono ?_
   rintro e w2 ⟨nm, p2, l2, er, rfl, hc, hs, hx⟩
   have HVP := hid (show w.heap.size ≤ w2.heap.size from Nat.le_trans HB1.out.size hs.size)
   have HVB := hid (show w2.heap.size ≠ B from fun e => by have := hc.lt; omega)
   have HVT := hid (show w.heap.size ≠ w2.heap.size from fun e => by have := hs.size; have := HX1.out.2.2; omega)
   have hv := Bx.new w2 (cellsTo ⟨nm, 0⟩) 67
   have ha : Below w2.heap.size w2 (w2.alloc (.cells (cellsTo ⟨nm, 0⟩) 67)) := belowA (Below.refl w2.heap.size w2) (.cells (cellsTo ⟨nm, 0⟩) 67)
   have hcv := hc.below ha
   have hsv := ((Cs.of_below (B := B) HB1.out).tr hs).tr (Cs.of_below ha)
   have hxv := (hs.bx HX1.out HBL.out).keep ha
   have HV := hid hv; have HCV := hid hcv; have HSV := hid hsv; have HXV := hid hxv
   have hcb := hv.1; have hfb := hv.2.1; have c2 := hcv.x.1 2; have hct := hxv.1; have hft := hxv.2.1
   clear hv hcv hsv hxv ha hs hc
   obtain ⟨X, hX⟩ : ∃ X, X = nameS (b :: t) := ⟨_, rfl⟩
   rw [← hX] at HVN hx
   clear hX
   cases X with
   | error x =>
     obtain ⟨r, m⟩ := x
     obtain ⟨rfl, rfl, hm⟩ := hx
     have hmb : (er != 0) = true := by rw [bne, beq_eq_false_iff_ne.2 hm]; rfl
     have HM := hid hm
     clear hm
     go_wp2_with fail
     have HCZ := hid ((HCV.out.oth w.heap.size 0 (.string ⟨nm.toArray⟩) HBL.out).oth w.heap.size 1 (.int .i64 0) HBL.out)
     refine bodyPost_ret (v := valTo ⟨nm, 0⟩) (by simp [results, Tryz.results92, go_sem, hct]) rfl ?_
     refine ⟨⟨nm, 0⟩, p2, _, er, rfl, HCZ.out, cs_new (cs_new HSV.out (Nat.le_refl _) 0 _) (Nat.le_refl _) 1 _, ?_⟩
     rw [HVN.out]
     exact ⟨rfl, rfl, HM.out⟩
   | ok y =>
     obtain ⟨nm', r⟩ := y
     obtain ⟨hn, hl, he⟩ := hx
     subst hn hl he
     have c0 := HCV.out.x.1 0; have c1 := HCV.out.x.1 1; have z1 := HCV.out.x.2.1 1
     have hlen := HCV.out.len
     have hz := bsz s
     have hpb2 : p2 ≤ 1000000 := Nat.le_trans HCV.out.le HCV.out.lim
     cases l2 with
     | nil =>
       have heq : ((p2 : Int) == (s.length : Int)) = true := by simp at hlen; simp; omega
       have HVE : Hid (versS (b :: t) = .error ([], 220)) := hid (by rw [HVN.out]; rfl)
       clear hlen
       go_wp2_with (go_quiet (fail))
       refine (cu_fails _ (HCV.out.drewN nq) 0 (Nat.zero_le _) p2 rfl 220).mono ?_
       rintro e w4 ⟨rfl, hc4, hs4⟩
       have hv4 : Bx w4 w2.heap.size (cellsTo ⟨nm, 0⟩) := hs4.bx (show Bx (World.drewN _ nq) _ _ from HV.out) HVB.out
       have hx4 : Bx w4 w.heap.size (cellsTo ⟨[], 0⟩) := hs4.bx (show Bx (World.drewN _ nq) _ _ from HXV.out) HBL.out
       have HC4 := hid hc4; have HS4 := hid ((HSV.out.tr (Cs.drewN B _ nq)).tr hs4)
       clear hcb hfb c2 hct hft c0 c1 z1
       have hcb := hv4.1; have hfb := hv4.2.1; have hct := hx4.1; have hft := hx4.2.1
       clear hc4 hs4 hv4 hx4
       go_wp2_with fail
       refine bodyPost_ret (v := valTo ⟨nm, 0⟩) (by simp [results, Tryz.results92, go_sem, hct]) rfl ?_
       refine ⟨⟨nm, 0⟩, p2, _, 220, rfl, (HC4.out.oth _ 0 _ HBL.out).oth _ 1 _ HBL.out, cs_new (cs_new HS4.out (Nat.le_refl _) 0 _) (Nat.le_refl _) 1 _, ?_⟩
       rw [HVE.out]
       exact ⟨rfl, rfl, by decide⟩
     | cons c r =>
       have hneq : ((p2 : Int) == (s.length : Int)) = false := beq_eq_false_iff_ne.2 (by simp at hlen; omega)
       have hix2 := fun W => run_ix Tryz.underlying9 s p2 c HCV.out.at_ W
       cases h46 : ((c.toNat : Int) == 46)
       · have h46' : ((c.toNat : Int) != 46) = true := by rw [bne, h46]; rfl
         have HVE : Hid (versS (b :: t) = .error (c :: r, 220)) := hid (by rw [HVN.out]; exact if_neg (by intro e; rw [List.head?_cons, Option.some.injEq] at e; rw [e] at h46; cases h46))
         clear hlen
         go_wp2_with (go_quiet (fail))
         refine (cu_fails _ (HCV.out.drewN nq) 0 (Nat.zero_le _) p2 rfl 220).mono ?_
         rintro e w4 ⟨rfl, hc4, hs4⟩
         have hv4 : Bx w4 w2.heap.size (cellsTo ⟨nm, 0⟩) := hs4.bx (show Bx (World.drewN _ nq) _ _ from HV.out) HVB.out
         have hx4 : Bx w4 w.heap.size (cellsTo ⟨[], 0⟩) := hs4.bx (show Bx (World.drewN _ nq) _ _ from HXV.out) HBL.out
         have HC4 := hid hc4; have HS4 := hid ((HSV.out.tr (Cs.drewN B _ nq)).tr hs4)
         clear hcb hfb c2 hct hft c0 c1 z1
         have hcb := hv4.1; have hfb := hv4.2.1; have hct := hx4.1; have hft := hx4.2.1
         clear hc4 hs4 hv4 hx4
         go_wp2_with fail
         refine bodyPost_ret (v := valTo ⟨nm, 0⟩) (by simp [results, Tryz.results92, go_sem, hct]) rfl ?_
         refine ⟨⟨nm, 0⟩, p2, _, 220, rfl, (HC4.out.oth _ 0 _ HBL.out).oth _ 1 _ HBL.out, cs_new (cs_new HS4.out (Nat.le_refl _) 0 _) (Nat.le_refl _) 1 _, ?_⟩
         rw [HVE.out]
         exact ⟨rfl, rfl, by decide⟩
       · have h46' : ((c.toNat : Int) != 46) = false := by rw [bne, h46]; rfl
         have HVD : Hid (versS (b :: t) = numV nm r) := hid (by
           rw [HVN.out]; exact if_pos (by rw [List.head?_cons]; exact congrArg some (UInt8.toNat_inj.1 (by have := eq_of_beq h46; show c.toNat = 46; omega))))
         obtain ⟨f, hf⟩ : ∃ f, f = p2 + 1 := ⟨_, rfl⟩
         have hfi : (p2 : Int) + 1 = (f : Int) := by omega
         have hfb : f ≤ 1000001 := by omega
         have HGO := hid (fun nq => ((HCV.out.drewN nq).go 1 (by simp) f hf))
         have HFL := hid (show f + r.length = s.length by simp at hlen; omega)
         clear hlen hf
         go_wp2_with (go_quiet (fail))
         have hv5 : Bx _ w2.heap.size (cellsTo ⟨nm, 0⟩) := (show Bx ((w2.alloc (.cells (cellsTo ⟨nm, 0⟩) 67)).drewN nq) _ _ from HV.out).setOther B 1 (.int .i64 (f : Int)) HVB.out
         have hx5 : Bx _ w.heap.size (cellsTo ⟨[], 0⟩) := (show Bx ((w2.alloc (.cells (cellsTo ⟨nm, 0⟩) 67)).drewN nq) _ _ from HXV.out).setOther B 1 (.int .i64 (f : Int)) HBL.out
         have hc5 := (HGO.out nq).1
         have hs5 := (HSV.out.tr (Cs.drewN B _ nq)).tr (HGO.out nq).2
         have HV5 := hid hv5; have HX5 := hid hx5; have HC5 := hid hc5; have HS5 := hid hs5
         clear hv5 hx5 hc5 hs5 c0 c1 c2 z1 hcb hfb hct hft
         go_loopw [] (fun wr => ∃ (W : World) (k : Nat), W = wr ∧ CuC W B s (f + k) (r.drop k) 0 ∧ Cs B w W ∧ Bx W w2.heap.size (cellsTo ⟨nm, capV (r.take k)⟩) ∧ Bx W w.heap.size (cellsTo ⟨[], 0⟩) ∧ DigAt r k) (fun wr => (match wr.cell? ⟨B, 1, none⟩ with | some (.int _ q) => s.length - q.toNat | _ => 0))
         case atStart => exact ⟨_, 0, rfl, HC5.out, HS5.out, HV5.out, HX5.out, DigAt.zero r⟩
         case round =>
           obtain ⟨W, k, rfl, hc, hs, hv, hx, hda⟩ := hrel
           have HC := hid hc; have HS := hid hs; have HV6 := hid hv; have HX6 := hid hx; have HDA := hid hda
           obtain ⟨K, hK⟩ : ∃ K, K = capV (r.take k) := ⟨_, rfl⟩
           rw [← hK] at HV6 hv
           have hkb : K ≤ 10000 := by rw [hK]; exact capV_le _ 0 (by omega) hda.all
           obtain ⟨q, hq⟩ : ∃ q, q = f + k := ⟨_, rfl⟩
           rw [← hq] at HC hc
           have HQ := hid hq; have HKK := hid hK
           have c0 := hc.x.1 0; have c1 := hc.x.1 1; have c2 := hc.x.1 2; have z1 := hc.x.2.1 1; have hcb := hv.1; have hfb := hv.2.1; have hct := hx.1; have hft := hx.2.1
           have hkr := hda.le
           have hqb : q ≤ 1000001 := by have := hc.le; have := hc.lim; omega
           have HIX := hid (fun x (hx : r[k]? = some x) => (show s[q]? = some x by have := congrArg (fun l => l[0]?) hc.d; simp only [List.getElem?_drop, Nat.add_zero] at this; rw [this]; exact hx))
           clear hc hs hv hx hda hK hq
           cases hrk : r[k]? with
           | none =>
             have hlt : decide ((q : Int) < (s.length : Int)) = false := by have := HFL.out; have := HQ.out; have := List.getElem?_eq_none_iff.1 hrk; simp; omega
             have hltn : decide (q < s.length) = false := by have := HFL.out; have := HQ.out; have := List.getElem?_eq_none_iff.1 hrk; simp; omega
             have HRK := hid hrk
             clear hrk
             have HNV := hid (numV_eq nm r k HDA.out (fun x hx => by rw [HRK.out] at hx; cases hx))
             rcases Nat.eq_zero_or_pos k with hk0 | hk1
             · have HK0 := hid hk0
               clear hk0
               have hqf : ((q : Int) == (f : Int)) = true := by have := HQ.out; have := HK0.out; simp; omega
               have HVE : Hid (versS (b :: t) = .error (r, 220)) := hid (by rw [HVD.out, HNV.out, if_pos HK0.out])
               go_wp2_with fail
               refine wp_region_ordC 99 [(0, 0), (1, 0), (2, 0), (3, 0), (4, 0), (5, 0), (6, 0), (7, 0), (8, 0), (9, 0), (10, 0), (11, 0), (12, 0), (13, 0), (14, 0), (15, 0), (16, 0), (17, 0), (18, 0), (19, 0), (20, 0), (21, 0), (22, 0), (23, 0), (24, 0), (25, 0), (26, 0), (27, 0), (28, 0), (29, 0), (30, 0), (31, 0), (32, 0), (33, 0), (34, 0), (35, 0), (36, 0), (37, 0), (38, 0), (39, 0), (40, 0), (41, 0), (42, 0), (43, 0), (44, 0), (45, 0), (46, 0), (47, 0), (48, 0), (49, 0), (50, 0), (51, 0), (52, 0), (53, 0)] (fun _ => True) (fun W' => W'.cell? ⟨B, 0, none⟩ = some (.string ⟨s.toArray⟩) ∧ W'.cell? ⟨B, 1, none⟩ = some (.int .i64 (q : Int))) (by kernel_rfl) (by kernel_rfl) (trivial) (⟨c0, c1⟩) ?_
               repeat ((first | refine ordC_skip rfl rfl ?_ | refine ordC_skip1 rfl rfl ?_ | ((first | refine ordC_q rfl rfl ?_ | refine ordC_p rfl rfl ?_); apply Exists.intro; refine ⟨fun wS hS => ?_, ?_⟩; (go_simp; try with_reducible rfl))); simp only [Act.put, List.setIfInBounds_toArray, List.set_cons_zero, List.set_cons_succ])
               refine ordC_nil ?_
               go_wp2_with fail
               refine (cu_fails _ (HC.out.drew) 0 (Nat.zero_le _) q rfl 220).mono ?_
               rintro e w4 ⟨rfl, hc4, hs4⟩
               have hv4 : Bx w4 w2.heap.size (cellsTo ⟨nm, K⟩) := hs4.bx (show Bx (W.drew) _ _ from HV6.out) HVB.out
               have hx4 : Bx w4 w.heap.size (cellsTo ⟨[], 0⟩) := hs4.bx (show Bx (W.drew) _ _ from HX6.out) HBL.out
               have HC4 := hid hc4; have HS4 := hid ((HS.out.tr (Cs.of_below (Below.refl _ _).drew)).tr hs4)
               clear hcb hfb c2 hct hft c0 c1 z1
               have hcb := hv4.1; have hfb := hv4.2.1; have hct := hx4.1; have hft := hx4.2.1
               clear hc4 hs4 hv4 hx4
               go_wp2_with fail
               refine bodyPost_ret (v := valTo ⟨nm, K⟩) (by simp [results, Tryz.results92, go_sem, hct]) rfl ?_
               refine ⟨⟨nm, K⟩, q, _, 220, rfl, (HC4.out.oth _ 0 _ HBL.out).oth _ 1 _ HBL.out, cs_new (cs_new HS4.out (Nat.le_refl _) 0 _) (Nat.le_refl _) 1 _, ?_⟩
               rw [HVE.out]
               exact ⟨by rw [HK0.out]; rfl, rfl, by decide⟩
             · have HK1 := hid hk1
               clear hk1
               have hqf : ((q : Int) == (f : Int)) = false := beq_eq_false_iff_ne.2 (by have := HQ.out; have := HK1.out; omega)
               by_cases h9 : 999 < K
               · skip
                 have d9 : decide ((999 : Int) < (K : Int)) = true := by simp; omega
                 have d9n : decide (999 < K) = true := by simp; omega
                 have HVE : Hid (versS (b :: t) = .error (r, 3)) := hid (by rw [HVD.out, HNV.out, if_neg (by have := HK1.out; omega), ← HKK.out, if_pos h9])
                 clear h9
                 go_wp2_with fail
                 refine wp_region_ordC 99 [(0, 0), (1, 0), (2, 0), (3, 0), (4, 0), (5, 0), (6, 0), (7, 0), (8, 0), (9, 0), (10, 0), (11, 0), (12, 0), (13, 0), (14, 0), (15, 0), (16, 0), (17, 0), (18, 0), (19, 0), (20, 0), (21, 0), (22, 0), (23, 0), (24, 0), (25, 0), (26, 0), (27, 0), (28, 0), (29, 0), (30, 0), (31, 0), (32, 0), (33, 0), (34, 0), (35, 0), (36, 0), (37, 0), (38, 0), (39, 0), (40, 0), (41, 0), (42, 0), (43, 0), (44, 0), (45, 0), (46, 0), (47, 0), (48, 0), (49, 0), (50, 0), (51, 0), (52, 0), (53, 0)] (fun _ => True) (fun W' => W'.cell? ⟨B, 0, none⟩ = some (.string ⟨s.toArray⟩) ∧ W'.cell? ⟨B, 1, none⟩ = some (.int .i64 (q : Int))) (by kernel_rfl) (by kernel_rfl) (trivial) (⟨c0, c1⟩) ?_
                 repeat ((first | refine ordC_skip rfl rfl ?_ | refine ordC_skip1 rfl rfl ?_ | ((first | refine ordC_q rfl rfl ?_ | refine ordC_p rfl rfl ?_); apply Exists.intro; refine ⟨fun wS hS => ?_, ?_⟩; (go_simp; try with_reducible rfl))); simp only [Act.put, List.setIfInBounds_toArray, List.set_cons_zero, List.set_cons_succ])
                 refine ordC_nil ?_
                 go_wp2_with fail
                 refine (cu_fails_at _ (HC.out.drew) f (by have := HFL.out; omega) 3).mono ?_
                 rintro e w4 ⟨rfl, hc4, hs4⟩
                 have hv4 : Bx w4 w2.heap.size (cellsTo ⟨nm, K⟩) := hs4.bx (show Bx (W.drew) _ _ from HV6.out) HVB.out
                 have hx4 : Bx w4 w.heap.size (cellsTo ⟨[], 0⟩) := hs4.bx (show Bx (W.drew) _ _ from HX6.out) HBL.out
                 have HC4 := hid hc4; have HS4 := hid ((HS.out.tr (Cs.of_below (Below.refl _ _).drew)).tr hs4)
                 clear hcb hfb c2 hct hft c0 c1 z1
                 have hcb := hv4.1; have hfb := hv4.2.1; have hct := hx4.1; have hft := hx4.2.1
                 clear hc4 hs4 hv4 hx4
                 go_wp2_with fail
                 refine bodyPost_ret (v := valTo ⟨nm, K⟩) (by simp [results, Tryz.results92, go_sem, hct]) rfl ?_
                 refine ⟨⟨nm, K⟩, f, _, 3, rfl, (HC4.out.oth _ 0 _ HBL.out).oth _ 1 _ HBL.out, cs_new (cs_new HS4.out (Nat.le_refl _) 0 _) (Nat.le_refl _) 1 _, ?_⟩
                 rw [HVE.out]
                 exact ⟨HC5.out.d, rfl, by decide⟩
               · skip
                 have d9 : decide ((999 : Int) < (K : Int)) = false := by simp; omega
                 have d9n : decide (999 < K) = false := by simp; omega
                 have HVE : Hid (versS (b :: t) = .ok (⟨nm, K⟩, r.drop k)) := hid (by rw [HVD.out, HNV.out, if_neg (by have := HK1.out; omega), ← HKK.out, if_neg h9])
                 clear h9
                 go_wp2_with fail
                 refine wp_region_ordC 99 [(0, 0), (1, 0), (2, 0), (3, 0), (4, 0), (5, 0), (6, 0), (7, 0), (8, 0), (9, 0), (10, 0), (11, 0), (12, 0), (13, 0), (14, 0), (15, 0), (16, 0), (17, 0), (18, 0), (19, 0), (20, 0), (21, 0), (22, 0), (23, 0), (24, 0), (25, 0), (26, 0), (27, 0), (28, 0), (29, 0), (30, 0), (31, 0), (32, 0), (33, 0), (34, 0), (35, 0), (36, 0), (37, 0), (38, 0), (39, 0), (40, 0), (41, 0), (42, 0), (43, 0), (44, 0), (45, 0), (46, 0), (47, 0), (48, 0), (49, 0), (50, 0), (51, 0), (52, 0), (53, 0)] (fun _ => True) (fun W' => W'.cell? ⟨B, 0, none⟩ = some (.string ⟨s.toArray⟩) ∧ W'.cell? ⟨B, 1, none⟩ = some (.int .i64 (q : Int))) (by kernel_rfl) (by kernel_rfl) (trivial) (⟨c0, c1⟩) ?_
                 repeat ((first | refine ordC_skip rfl rfl ?_ | refine ordC_skip1 rfl rfl ?_ | ((first | refine ordC_q rfl rfl ?_ | refine ordC_p rfl rfl ?_); apply Exists.intro; refine ⟨fun wS hS => ?_, ?_⟩; (go_simp; try with_reducible rfl))); simp only [Act.put, List.setIfInBounds_toArray, List.set_cons_zero, List.set_cons_succ])
                 refine ordC_nil ?_
                 go_wp2_with fail
                 refine bodyPost_ret (v := valTo ⟨nm, K⟩) (by simp [results, Tryz.results92, go_sem, hct]) rfl ?_
                 refine ⟨⟨nm, K⟩, q, _, 0, rfl, ((HC.out.drew).oth _ 0 _ HBL.out).oth _ 1 _ HBL.out, cs_new (cs_new (HS.out.tr (Cs.of_below (Below.refl _ _).drew)) (Nat.le_refl _) 0 _) (Nat.le_refl _) 1 _, ?_⟩
                 rw [HVE.out]
                 exact ⟨rfl, rfl, rfl⟩
           | some x =>
             have hix2 := fun W' => run_ix Tryz.underlying9 s q x (HIX.out x hrk) W'
             have hlt : decide ((q : Int) < (s.length : Int)) = true := by have := HFL.out; have := HQ.out; have := (List.getElem?_eq_some_iff.1 hrk).1; simp; omega
             have hltn : decide (q < s.length) = true := by have := HFL.out; have := HQ.out; have := (List.getElem?_eq_some_iff.1 hrk).1; simp; omega
             have HRK := hid hrk
             clear hrk
             by_cases h48 : 48 ≤ x.toNat
             · by_cases h57 : x.toNat ≤ 57
               · skip
                 have HXD : Hid (digB x = true) := hid ((digB_eq x).2 ⟨h48, h57⟩)
                 have d1i : decide ((48 : Int) ≤ (x.toNat : Int)) = true := by simp; omega
                 have d1n : decide (48 ≤ x.toNat) = true := by simp; omega
                 have d2i : decide ((x.toNat : Int) ≤ 57) = true := by simp; omega
                 have d2n : decide (x.toNat ≤ 57) = true := by simp; omega
                 clear h48 h57
                 rcases Nat.eq_zero_or_pos k with hk0 | hk1
                 · skip
                   have dg : decide ((f : Int) < (q : Int)) = false := by have := HQ.out; simp; omega
                   have dgn : decide (f < q) = false := by have := HQ.out; simp; omega
                   by_cases hx48 : x = 48
                   · skip
                     have hxe : ((x.toNat : Int) != 48) = false := by rw [hx48]; rfl
                     have HNV := hid (numV_eq nm r k HDA.out (fun y hy => by rw [HRK.out] at hy; cases hy; exact .inr ⟨hk0, hx48⟩))
                     have HK0 := hid hk0
                     clear hk0 hx48
                     have hqf : ((q : Int) == (f : Int)) = true := by have := HQ.out; have := HK0.out; simp; omega
                     have HVE : Hid (versS (b :: t) = .error (r, 220)) := hid (by rw [HVD.out, HNV.out, if_pos HK0.out])
                     go_wp2_with fail
                     refine wp_region_ordC 99 [(0, 0), (1, 0), (2, 0), (3, 0), (4, 0), (5, 0), (6, 0), (7, 0), (8, 0), (9, 0), (10, 0), (11, 0), (12, 0), (13, 0), (14, 0), (15, 0), (16, 0), (17, 0), (18, 0), (19, 0), (20, 0), (21, 0), (22, 0), (23, 0), (24, 0), (25, 0), (26, 0), (27, 0), (28, 0), (29, 0), (30, 0), (31, 0), (32, 0), (33, 0), (34, 0), (35, 0), (36, 0), (37, 0), (38, 0), (39, 0), (40, 0), (41, 0), (42, 0), (43, 0), (44, 0), (45, 0), (46, 0), (47, 0), (48, 0), (49, 0), (50, 0), (51, 0), (52, 0), (53, 0)] (fun _ => True) (fun W' => W'.cell? ⟨B, 0, none⟩ = some (.string ⟨s.toArray⟩) ∧ W'.cell? ⟨B, 1, none⟩ = some (.int .i64 (q : Int))) (by kernel_rfl) (by kernel_rfl) (trivial) (⟨c0, c1⟩) ?_
                     repeat ((first | refine ordC_skip rfl rfl ?_ | refine ordC_skip1 rfl rfl ?_ | ((first | refine ordC_q rfl rfl ?_ | refine ordC_p rfl rfl ?_); apply Exists.intro; refine ⟨fun wS hS => ?_, ?_⟩; (go_simp; try with_reducible rfl))); simp only [Act.put, List.setIfInBounds_toArray, List.set_cons_zero, List.set_cons_succ])
                     refine ordC_nil ?_
                     go_wp2_with fail
                     refine (cu_fails _ (HC.out.drew) 0 (Nat.zero_le _) q rfl 220).mono ?_
                     rintro e w4 ⟨rfl, hc4, hs4⟩
                     have hv4 : Bx w4 w2.heap.size (cellsTo ⟨nm, K⟩) := hs4.bx (show Bx (W.drew) _ _ from HV6.out) HVB.out
                     have hx4 : Bx w4 w.heap.size (cellsTo ⟨[], 0⟩) := hs4.bx (show Bx (W.drew) _ _ from HX6.out) HBL.out
                     have HC4 := hid hc4; have HS4 := hid ((HS.out.tr (Cs.of_below (Below.refl _ _).drew)).tr hs4)
                     clear hcb hfb c2 hct hft c0 c1 z1
                     have hcb := hv4.1; have hfb := hv4.2.1; have hct := hx4.1; have hft := hx4.2.1
                     clear hc4 hs4 hv4 hx4
                     go_wp2_with fail
                     refine bodyPost_ret (v := valTo ⟨nm, K⟩) (by simp [results, Tryz.results92, go_sem, hct]) rfl ?_
                     refine ⟨⟨nm, K⟩, q, _, 220, rfl, (HC4.out.oth _ 0 _ HBL.out).oth _ 1 _ HBL.out, cs_new (cs_new HS4.out (Nat.le_refl _) 0 _) (Nat.le_refl _) 1 _, ?_⟩
                     rw [HVE.out]
                     exact ⟨by rw [HK0.out]; rfl, rfl, by decide⟩
                   · skip
                     have hxe : ((x.toNat : Int) != 48) = true := by rw [bne, beq_eq_false_iff_ne.2 (fun e => hx48 (UInt8.toNat_inj.1 (by show x.toNat = 48; omega)))]; rfl
                     have H0 : Hid (k = 0 → x ≠ 48) := hid (fun _ => hx48)
                     clear hk0 hx48
                     have HST := hid (HDA.out.step HRK.out HXD.out H0.out)
                     obtain ⟨q1, hq1⟩ : ∃ q1, q1 = q + 1 := ⟨_, rfl⟩
                     have hqi : (q : Int) + 1 = (q1 : Int) := by omega
                     have HQ1 := hid hq1
                     clear hq1
                     by_cases h9 : K ≤ 999
                     · skip
                       obtain ⟨d, hd⟩ : ∃ d : Nat, d = x.toNat - 48 := ⟨_, rfl⟩
                       have hx1 := (digB_eq x).1 HXD.out
                       have hxd : (x.toNat : Int) - 48 = (d : Int) := by omega
                       have hdw : IntKind.u8.wrap (d : Int) = (d : Int) := Go.IntWalk.u8_in _ (by omega)
                       have hdw2 : IntKind.i64.wrap (d : Int) = (d : Int) := Go.IntWalk.i64_in _ (by omega)
                       obtain ⟨m, hm⟩ : ∃ m : Nat, m = 10 * K := ⟨_, rfl⟩
                       have hmm : (10 : Int) * (K : Int) = (m : Int) := by omega
                       have hmw : IntKind.i64.wrap (m : Int) = (m : Int) := Go.IntWalk.i64_in _ (by omega)
                       obtain ⟨K2, hK2⟩ : ∃ K2 : Nat, K2 = m + d := ⟨_, rfl⟩
                       have hKd : (m : Int) + (d : Int) = (K2 : Int) := by omega
                       have hKw : IntKind.i64.wrap (K2 : Int) = (K2 : Int) := Go.IntWalk.i64_in _ (by omega)
                       have HCF := hid (show capV (r.take (k + 1)) = K2 by rw [HST.out.2, ← HKK.out]; unfold capF; rw [if_pos h9]; omega)
                       clear hd hx1 hm hK2
                       have d9 : decide ((K : Int) ≤ 999) = true := by simp; omega
                       have d9n : decide (K ≤ 999) = true := by simp; omega
                       clear h9
                       have hcb1 := HV6.out.1 1
                       go_wp2_with fail
                       refine wp_region_ordC 99 [(0, 0), (1, 0), (2, 0), (3, 0), (4, 0), (5, 0), (6, 0), (7, 0), (8, 0), (9, 0), (10, 0), (11, 0), (12, 0), (13, 0), (14, 0), (15, 0), (16, 0), (17, 0), (18, 0), (19, 0), (20, 0), (21, 0), (22, 0), (23, 0), (24, 0), (25, 0), (26, 0), (27, 0), (28, 0), (29, 0), (30, 0), (31, 0), (32, 0), (33, 0), (34, 0), (35, 0), (36, 0), (37, 0), (38, 0), (39, 0), (40, 0), (41, 0), (42, 0), (43, 0), (44, 0), (45, 0), (46, 0), (47, 0), (48, 0), (49, 0), (50, 0), (51, 0), (52, 0), (53, 0)] (fun _ => True) (fun W' => W'.cell? ⟨B, 0, none⟩ = some (.string ⟨s.toArray⟩) ∧ W'.cell? ⟨B, 1, none⟩ = some (.int .i64 (q : Int))) (by kernel_rfl) (by kernel_rfl) (trivial) (⟨c0, c1⟩) ?_
                       repeat ((first | refine ordC_skip rfl rfl ?_ | refine ordC_skip1 rfl rfl ?_ | ((first | refine ordC_q rfl rfl ?_ | refine ordC_p rfl rfl ?_); apply Exists.intro; refine ⟨fun wS hS => ?_, ?_⟩; (go_simp; try with_reducible rfl))); simp only [Act.put, List.setIfInBounds_toArray, List.set_cons_zero, List.set_cons_succ])
                       refine ordC_nil ?_
                       go_wp2_with fail
                       refine wp_region_ordC 16 [(0, 1), (1, 0), (2, 1), (3, 1), (4, 1), (5, 1), (6, 0), (7, 1), (8, 1), (9, 1), (10, 0), (11, 1), (12, 1), (13, 1), (14, 1), (15, 1), (16, 2)] (fun _ => True) (fun W' => (W'.cell? ⟨B, 0, none⟩ = some (.string ⟨s.toArray⟩) ∧ W'.cell? ⟨B, 1, none⟩ = some (.int .i64 (q : Int))) ∧ W'.cell? ⟨w2.heap.size, 1, none⟩ = some (.int .i64 (K : Int))) (by kernel_rfl) (by kernel_rfl) (trivial) (⟨⟨c0, c1⟩, hcb1⟩) ?_
                       repeat ((first | refine ordC_skip rfl rfl ?_ | refine ordC_skip1 rfl rfl ?_ | ((first | refine ordC_q rfl rfl ?_ | refine ordC_p rfl rfl ?_); apply Exists.intro; refine ⟨fun wS hS => ?_, ?_⟩; (go_simp; try with_reducible rfl))); simp only [Act.put, List.setIfInBounds_toArray, List.set_cons_zero, List.set_cons_succ])
                       refine ordC_m rfl rfl rfl (fun K hK => ?_)
                       go_simp
                       refine hK _ _ trivial ?_
                       clear hK
                       refine ordC_nil ?_
                       obtain ⟨Z, hZ⟩ : ∃ Z : World, Z = (W.setCell ⟨w2.heap.size, 1, none⟩ (.int .i64 (K2 : Int))).drew.drew := ⟨_, rfl⟩
                       have HV7 : Hid (Bx Z w2.heap.size (cellsTo ⟨nm, K2⟩)) := hid (by rw [hZ]; exact HV6.out.setC 1 (by simp) (.int .i64 (K2 : Int)))
                       have HX7 : Hid (Bx Z w.heap.size (cellsTo ⟨[], 0⟩)) := hid (by rw [hZ]; exact HX6.out.setOther w2.heap.size 1 (.int .i64 (K2 : Int)) HVT.out)
                       have HC7 : Hid (CuC Z B s q (r.drop k) 0) := hid (by rw [hZ]; exact ((HC.out.oth w2.heap.size 1 (.int .i64 (K2 : Int)) HVB.out).drew).drew)
                       have HS7 : Hid (Cs B w Z) := hid (by rw [hZ]; exact ((cs_new HS.out HVP.out 1 (.int .i64 (K2 : Int))).tr (Cs.of_below (Below.refl _ _).drew)).tr (Cs.of_below (Below.refl _ _).drew))
                       rw [← hZ]
                       clear hZ c0 c1 c2 z1 hcb hfb hct hft
                       have c0 := HC7.out.x.1 0; have c1 := HC7.out.x.1 1; have z1 := HC7.out.x.2.1 1; have hcb := HV7.out.1
                       have HRL := hid (show 1 ≤ (r.drop k).length by rw [List.length_drop]; have := (List.getElem?_eq_some_iff.1 HRK.out).1; omega)
                       have HGO7 := hid (HC7.out.go 1 HRL.out q1 HQ1.out)
                       go_wp2_with fail
                       go_roundw
                       case rel => exact ⟨_, k + 1, rfl, (by have h := HGO7.out.1; rw [List.drop_drop] at h; rw [show f + (k + 1) = q1 by have := HQ.out; have := HQ1.out; omega]; exact h), HS7.out.tr HGO7.out.2, (by rw [HCF.out]; exact HV7.out.setOther B 1 _ HVB.out), HX7.out.setOther B 1 _ HBL.out, HST.out.1⟩
                       case measure =>
                         have e1 : (Z.setCell ⟨B, 1, none⟩ (.int .i64 (q1 : Int))).cell? ⟨B, 1, none⟩ = some (.int .i64 (q1 : Int)) := HGO7.out.1.x.1 1
                         have e0 : W.cell? ⟨B, 1, none⟩ = some (.int .i64 (q : Int)) := HC.out.x.1 1
                         have := HC.out.len; have := HRL.out; have := HQ1.out
                         simp only [e1, e0, Int.toNat_natCast]
                         omega
                     · skip
                       have d9 : decide ((K : Int) ≤ 999) = false := by simp; omega
                       have d9n : decide (K ≤ 999) = false := by simp; omega
                       have HCF := hid (show capV (r.take (k + 1)) = K by rw [HST.out.2, ← HKK.out]; unfold capF; rw [if_neg h9])
                       clear h9
                       go_wp2_with fail
                       refine wp_region_ordC 99 [(0, 0), (1, 0), (2, 0), (3, 0), (4, 0), (5, 0), (6, 0), (7, 0), (8, 0), (9, 0), (10, 0), (11, 0), (12, 0), (13, 0), (14, 0), (15, 0), (16, 0), (17, 0), (18, 0), (19, 0), (20, 0), (21, 0), (22, 0), (23, 0), (24, 0), (25, 0), (26, 0), (27, 0), (28, 0), (29, 0), (30, 0), (31, 0), (32, 0), (33, 0), (34, 0), (35, 0), (36, 0), (37, 0), (38, 0), (39, 0), (40, 0), (41, 0), (42, 0), (43, 0), (44, 0), (45, 0), (46, 0), (47, 0), (48, 0), (49, 0), (50, 0), (51, 0), (52, 0), (53, 0)] (fun _ => True) (fun W' => W'.cell? ⟨B, 0, none⟩ = some (.string ⟨s.toArray⟩) ∧ W'.cell? ⟨B, 1, none⟩ = some (.int .i64 (q : Int))) (by kernel_rfl) (by kernel_rfl) (trivial) (⟨c0, c1⟩) ?_
                       repeat ((first | refine ordC_skip rfl rfl ?_ | refine ordC_skip1 rfl rfl ?_ | ((first | refine ordC_q rfl rfl ?_ | refine ordC_p rfl rfl ?_); apply Exists.intro; refine ⟨fun wS hS => ?_, ?_⟩; (go_simp; try with_reducible rfl))); simp only [Act.put, List.setIfInBounds_toArray, List.set_cons_zero, List.set_cons_succ])
                       refine ordC_nil ?_
                       obtain ⟨Z, hZ⟩ : ∃ Z : World, Z = W.drew := ⟨_, rfl⟩
                       have HV7 : Hid (Bx Z w2.heap.size (cellsTo ⟨nm, K⟩)) := hid (by rw [hZ]; exact HV6.out)
                       have HX7 : Hid (Bx Z w.heap.size (cellsTo ⟨[], 0⟩)) := hid (by rw [hZ]; exact HX6.out)
                       have HC7 : Hid (CuC Z B s q (r.drop k) 0) := hid (by rw [hZ]; exact HC.out.drew)
                       have HS7 : Hid (Cs B w Z) := hid (by rw [hZ]; exact HS.out.tr (Cs.of_below (Below.refl _ _).drew))
                       rw [← hZ]
                       clear hZ c0 c1 c2 z1 hcb hfb hct hft
                       have c0 := HC7.out.x.1 0; have c1 := HC7.out.x.1 1; have z1 := HC7.out.x.2.1 1; have hcb := HV7.out.1
                       have HRL := hid (show 1 ≤ (r.drop k).length by rw [List.length_drop]; have := (List.getElem?_eq_some_iff.1 HRK.out).1; omega)
                       have HGO7 := hid (HC7.out.go 1 HRL.out q1 HQ1.out)
                       go_wp2_with fail
                       go_roundw
                       case rel => exact ⟨_, k + 1, rfl, (by have h := HGO7.out.1; rw [List.drop_drop] at h; rw [show f + (k + 1) = q1 by have := HQ.out; have := HQ1.out; omega]; exact h), HS7.out.tr HGO7.out.2, (by rw [HCF.out]; exact HV7.out.setOther B 1 _ HVB.out), HX7.out.setOther B 1 _ HBL.out, HST.out.1⟩
                       case measure =>
                         have e1 : (Z.setCell ⟨B, 1, none⟩ (.int .i64 (q1 : Int))).cell? ⟨B, 1, none⟩ = some (.int .i64 (q1 : Int)) := HGO7.out.1.x.1 1
                         have e0 : W.cell? ⟨B, 1, none⟩ = some (.int .i64 (q : Int)) := HC.out.x.1 1
                         have := HC.out.len; have := HRL.out; have := HQ1.out
                         simp only [e1, e0, Int.toNat_natCast]
                         omega
                 · skip
                   have dg : decide ((f : Int) < (q : Int)) = true := by have := HQ.out; simp; omega
                   have dgn : decide (f < q) = true := by have := HQ.out; simp; omega
                   have H0 : Hid (k = 0 → x ≠ 48) := hid (fun h => by omega)
                   clear hk1
                   have HST := hid (HDA.out.step HRK.out HXD.out H0.out)
                   obtain ⟨q1, hq1⟩ : ∃ q1, q1 = q + 1 := ⟨_, rfl⟩
                   have hqi : (q : Int) + 1 = (q1 : Int) := by omega
                   have HQ1 := hid hq1
                   clear hq1
                   by_cases h9 : K ≤ 999
                   · skip
                     obtain ⟨d, hd⟩ : ∃ d : Nat, d = x.toNat - 48 := ⟨_, rfl⟩
                     have hx1 := (digB_eq x).1 HXD.out
                     have hxd : (x.toNat : Int) - 48 = (d : Int) := by omega
                     have hdw : IntKind.u8.wrap (d : Int) = (d : Int) := Go.IntWalk.u8_in _ (by omega)
                     have hdw2 : IntKind.i64.wrap (d : Int) = (d : Int) := Go.IntWalk.i64_in _ (by omega)
                     obtain ⟨m, hm⟩ : ∃ m : Nat, m = 10 * K := ⟨_, rfl⟩
                     have hmm : (10 : Int) * (K : Int) = (m : Int) := by omega
                     have hmw : IntKind.i64.wrap (m : Int) = (m : Int) := Go.IntWalk.i64_in _ (by omega)
                     obtain ⟨K2, hK2⟩ : ∃ K2 : Nat, K2 = m + d := ⟨_, rfl⟩
                     have hKd : (m : Int) + (d : Int) = (K2 : Int) := by omega
                     have hKw : IntKind.i64.wrap (K2 : Int) = (K2 : Int) := Go.IntWalk.i64_in _ (by omega)
                     have HCF := hid (show capV (r.take (k + 1)) = K2 by rw [HST.out.2, ← HKK.out]; unfold capF; rw [if_pos h9]; omega)
                     clear hd hx1 hm hK2
                     have d9 : decide ((K : Int) ≤ 999) = true := by simp; omega
                     have d9n : decide (K ≤ 999) = true := by simp; omega
                     clear h9
                     have hcb1 := HV6.out.1 1
                     go_wp2_with fail
                     refine wp_region_ordC 99 [(0, 0), (1, 0), (2, 0), (3, 0), (4, 0), (5, 0), (6, 0), (7, 0), (8, 0), (9, 0), (10, 0), (11, 0), (12, 0), (13, 0), (14, 0), (15, 0), (16, 0), (17, 0), (18, 0), (19, 0), (20, 0), (21, 0), (22, 0), (23, 0), (24, 0), (25, 0), (26, 0), (27, 0), (28, 0), (29, 0), (30, 0), (31, 0), (32, 0), (33, 0), (34, 0), (35, 0), (36, 0), (37, 0), (38, 0), (39, 0), (40, 0), (41, 0), (42, 0), (43, 0), (44, 0), (45, 0), (46, 0), (47, 0), (48, 0), (49, 0), (50, 0), (51, 0), (52, 0), (53, 0)] (fun _ => True) (fun W' => W'.cell? ⟨B, 0, none⟩ = some (.string ⟨s.toArray⟩) ∧ W'.cell? ⟨B, 1, none⟩ = some (.int .i64 (q : Int))) (by kernel_rfl) (by kernel_rfl) (trivial) (⟨c0, c1⟩) ?_
                     repeat ((first | refine ordC_skip rfl rfl ?_ | refine ordC_skip1 rfl rfl ?_ | ((first | refine ordC_q rfl rfl ?_ | refine ordC_p rfl rfl ?_); apply Exists.intro; refine ⟨fun wS hS => ?_, ?_⟩; (go_simp; try with_reducible rfl))); simp only [Act.put, List.setIfInBounds_toArray, List.set_cons_zero, List.set_cons_succ])
                     refine ordC_nil ?_
                     go_wp2_with fail
                     refine wp_region_ordC 16 [(0, 1), (1, 0), (2, 1), (3, 1), (4, 1), (5, 1), (6, 0), (7, 1), (8, 1), (9, 1), (10, 0), (11, 1), (12, 1), (13, 1), (14, 1), (15, 1), (16, 2)] (fun _ => True) (fun W' => (W'.cell? ⟨B, 0, none⟩ = some (.string ⟨s.toArray⟩) ∧ W'.cell? ⟨B, 1, none⟩ = some (.int .i64 (q : Int))) ∧ W'.cell? ⟨w2.heap.size, 1, none⟩ = some (.int .i64 (K : Int))) (by kernel_rfl) (by kernel_rfl) (trivial) (⟨⟨c0, c1⟩, hcb1⟩) ?_
                     repeat ((first | refine ordC_skip rfl rfl ?_ | refine ordC_skip1 rfl rfl ?_ | ((first | refine ordC_q rfl rfl ?_ | refine ordC_p rfl rfl ?_); apply Exists.intro; refine ⟨fun wS hS => ?_, ?_⟩; (go_simp; try with_reducible rfl))); simp only [Act.put, List.setIfInBounds_toArray, List.set_cons_zero, List.set_cons_succ])
                     refine ordC_m rfl rfl rfl (fun K hK => ?_)
                     go_simp
                     refine hK _ _ trivial ?_
                     clear hK
                     refine ordC_nil ?_
                     obtain ⟨Z, hZ⟩ : ∃ Z : World, Z = (W.setCell ⟨w2.heap.size, 1, none⟩ (.int .i64 (K2 : Int))).drew.drew := ⟨_, rfl⟩
                     have HV7 : Hid (Bx Z w2.heap.size (cellsTo ⟨nm, K2⟩)) := hid (by rw [hZ]; exact HV6.out.setC 1 (by simp) (.int .i64 (K2 : Int)))
                     have HX7 : Hid (Bx Z w.heap.size (cellsTo ⟨[], 0⟩)) := hid (by rw [hZ]; exact HX6.out.setOther w2.heap.size 1 (.int .i64 (K2 : Int)) HVT.out)
                     have HC7 : Hid (CuC Z B s q (r.drop k) 0) := hid (by rw [hZ]; exact ((HC.out.oth w2.heap.size 1 (.int .i64 (K2 : Int)) HVB.out).drew).drew)
                     have HS7 : Hid (Cs B w Z) := hid (by rw [hZ]; exact ((cs_new HS.out HVP.out 1 (.int .i64 (K2 : Int))).tr (Cs.of_below (Below.refl _ _).drew)).tr (Cs.of_below (Below.refl _ _).drew))
                     rw [← hZ]
                     clear hZ c0 c1 c2 z1 hcb hfb hct hft
                     have c0 := HC7.out.x.1 0; have c1 := HC7.out.x.1 1; have z1 := HC7.out.x.2.1 1; have hcb := HV7.out.1
                     have HRL := hid (show 1 ≤ (r.drop k).length by rw [List.length_drop]; have := (List.getElem?_eq_some_iff.1 HRK.out).1; omega)
                     have HGO7 := hid (HC7.out.go 1 HRL.out q1 HQ1.out)
                     go_wp2_with fail
                     go_roundw
                     case rel => exact ⟨_, k + 1, rfl, (by have h := HGO7.out.1; rw [List.drop_drop] at h; rw [show f + (k + 1) = q1 by have := HQ.out; have := HQ1.out; omega]; exact h), HS7.out.tr HGO7.out.2, (by rw [HCF.out]; exact HV7.out.setOther B 1 _ HVB.out), HX7.out.setOther B 1 _ HBL.out, HST.out.1⟩
                     case measure =>
                       have e1 : (Z.setCell ⟨B, 1, none⟩ (.int .i64 (q1 : Int))).cell? ⟨B, 1, none⟩ = some (.int .i64 (q1 : Int)) := HGO7.out.1.x.1 1
                       have e0 : W.cell? ⟨B, 1, none⟩ = some (.int .i64 (q : Int)) := HC.out.x.1 1
                       have := HC.out.len; have := HRL.out; have := HQ1.out
                       simp only [e1, e0, Int.toNat_natCast]
                       omega
                   · skip
                     have d9 : decide ((K : Int) ≤ 999) = false := by simp; omega
                     have d9n : decide (K ≤ 999) = false := by simp; omega
                     have HCF := hid (show capV (r.take (k + 1)) = K by rw [HST.out.2, ← HKK.out]; unfold capF; rw [if_neg h9])
                     clear h9
                     go_wp2_with fail
                     refine wp_region_ordC 99 [(0, 0), (1, 0), (2, 0), (3, 0), (4, 0), (5, 0), (6, 0), (7, 0), (8, 0), (9, 0), (10, 0), (11, 0), (12, 0), (13, 0), (14, 0), (15, 0), (16, 0), (17, 0), (18, 0), (19, 0), (20, 0), (21, 0), (22, 0), (23, 0), (24, 0), (25, 0), (26, 0), (27, 0), (28, 0), (29, 0), (30, 0), (31, 0), (32, 0), (33, 0), (34, 0), (35, 0), (36, 0), (37, 0), (38, 0), (39, 0), (40, 0), (41, 0), (42, 0), (43, 0), (44, 0), (45, 0), (46, 0), (47, 0), (48, 0), (49, 0), (50, 0), (51, 0), (52, 0), (53, 0)] (fun _ => True) (fun W' => W'.cell? ⟨B, 0, none⟩ = some (.string ⟨s.toArray⟩) ∧ W'.cell? ⟨B, 1, none⟩ = some (.int .i64 (q : Int))) (by kernel_rfl) (by kernel_rfl) (trivial) (⟨c0, c1⟩) ?_
                     repeat ((first | refine ordC_skip rfl rfl ?_ | refine ordC_skip1 rfl rfl ?_ | ((first | refine ordC_q rfl rfl ?_ | refine ordC_p rfl rfl ?_); apply Exists.intro; refine ⟨fun wS hS => ?_, ?_⟩; (go_simp; try with_reducible rfl))); simp only [Act.put, List.setIfInBounds_toArray, List.set_cons_zero, List.set_cons_succ])
                     refine ordC_nil ?_
                     obtain ⟨Z, hZ⟩ : ∃ Z : World, Z = W.drew := ⟨_, rfl⟩
                     have HV7 : Hid (Bx Z w2.heap.size (cellsTo ⟨nm, K⟩)) := hid (by rw [hZ]; exact HV6.out)
                     have HX7 : Hid (Bx Z w.heap.size (cellsTo ⟨[], 0⟩)) := hid (by rw [hZ]; exact HX6.out)
                     have HC7 : Hid (CuC Z B s q (r.drop k) 0) := hid (by rw [hZ]; exact HC.out.drew)
                     have HS7 : Hid (Cs B w Z) := hid (by rw [hZ]; exact HS.out.tr (Cs.of_below (Below.refl _ _).drew))
                     rw [← hZ]
                     clear hZ c0 c1 c2 z1 hcb hfb hct hft
                     have c0 := HC7.out.x.1 0; have c1 := HC7.out.x.1 1; have z1 := HC7.out.x.2.1 1; have hcb := HV7.out.1
                     have HRL := hid (show 1 ≤ (r.drop k).length by rw [List.length_drop]; have := (List.getElem?_eq_some_iff.1 HRK.out).1; omega)
                     have HGO7 := hid (HC7.out.go 1 HRL.out q1 HQ1.out)
                     go_wp2_with fail
                     go_roundw
                     case rel => exact ⟨_, k + 1, rfl, (by have h := HGO7.out.1; rw [List.drop_drop] at h; rw [show f + (k + 1) = q1 by have := HQ.out; have := HQ1.out; omega]; exact h), HS7.out.tr HGO7.out.2, (by rw [HCF.out]; exact HV7.out.setOther B 1 _ HVB.out), HX7.out.setOther B 1 _ HBL.out, HST.out.1⟩
                     case measure =>
                       have e1 : (Z.setCell ⟨B, 1, none⟩ (.int .i64 (q1 : Int))).cell? ⟨B, 1, none⟩ = some (.int .i64 (q1 : Int)) := HGO7.out.1.x.1 1
                       have e0 : W.cell? ⟨B, 1, none⟩ = some (.int .i64 (q : Int)) := HC.out.x.1 1
                       have := HC.out.len; have := HRL.out; have := HQ1.out
                       simp only [e1, e0, Int.toNat_natCast]
                       omega
               · have HXD : Hid (digB x = false) := hid (by rw [Bool.eq_false_iff]; intro e; exact h57 ((digB_eq x).1 e).2)
                 have d1i : decide ((48 : Int) ≤ (x.toNat : Int)) = true := by simp; omega
                 have d1n : decide (48 ≤ x.toNat) = true := by simp; omega
                 have d2i : decide ((x.toNat : Int) ≤ 57) = false := by simp; omega
                 have d2n : decide (x.toNat ≤ 57) = false := by simp; omega
                 clear h48 h57
                 have HNV := hid (numV_eq nm r k HDA.out (fun y hy => by rw [HRK.out] at hy; cases hy; exact .inl HXD.out))
                 rcases Nat.eq_zero_or_pos k with hk0 | hk1
                 · have HK0 := hid hk0
                   clear hk0
                   have hqf : ((q : Int) == (f : Int)) = true := by have := HQ.out; have := HK0.out; simp; omega
                   have HVE : Hid (versS (b :: t) = .error (r, 220)) := hid (by rw [HVD.out, HNV.out, if_pos HK0.out])
                   go_wp2_with fail
                   refine wp_region_ordC 99 [(0, 0), (1, 0), (2, 0), (3, 0), (4, 0), (5, 0), (6, 0), (7, 0), (8, 0), (9, 0), (10, 0), (11, 0), (12, 0), (13, 0), (14, 0), (15, 0), (16, 0), (17, 0), (18, 0), (19, 0), (20, 0), (21, 0), (22, 0), (23, 0), (24, 0), (25, 0), (26, 0), (27, 0), (28, 0), (29, 0), (30, 0), (31, 0), (32, 0), (33, 0), (34, 0), (35, 0), (36, 0), (37, 0), (38, 0), (39, 0), (40, 0), (41, 0), (42, 0), (43, 0), (44, 0), (45, 0), (46, 0), (47, 0), (48, 0), (49, 0), (50, 0), (51, 0), (52, 0), (53, 0)] (fun _ => True) (fun W' => W'.cell? ⟨B, 0, none⟩ = some (.string ⟨s.toArray⟩) ∧ W'.cell? ⟨B, 1, none⟩ = some (.int .i64 (q : Int))) (by kernel_rfl) (by kernel_rfl) (trivial) (⟨c0, c1⟩) ?_
                   repeat ((first | refine ordC_skip rfl rfl ?_ | refine ordC_skip1 rfl rfl ?_ | ((first | refine ordC_q rfl rfl ?_ | refine ordC_p rfl rfl ?_); apply Exists.intro; refine ⟨fun wS hS => ?_, ?_⟩; (go_simp; try with_reducible rfl))); simp only [Act.put, List.setIfInBounds_toArray, List.set_cons_zero, List.set_cons_succ])
                   refine ordC_nil ?_
                   go_wp2_with fail
                   refine (cu_fails _ (HC.out.drew) 0 (Nat.zero_le _) q rfl 220).mono ?_
                   rintro e w4 ⟨rfl, hc4, hs4⟩
                   have hv4 : Bx w4 w2.heap.size (cellsTo ⟨nm, K⟩) := hs4.bx (show Bx (W.drew) _ _ from HV6.out) HVB.out
                   have hx4 : Bx w4 w.heap.size (cellsTo ⟨[], 0⟩) := hs4.bx (show Bx (W.drew) _ _ from HX6.out) HBL.out
                   have HC4 := hid hc4; have HS4 := hid ((HS.out.tr (Cs.of_below (Below.refl _ _).drew)).tr hs4)
                   clear hcb hfb c2 hct hft c0 c1 z1
                   have hcb := hv4.1; have hfb := hv4.2.1; have hct := hx4.1; have hft := hx4.2.1
                   clear hc4 hs4 hv4 hx4
                   go_wp2_with fail
                   refine bodyPost_ret (v := valTo ⟨nm, K⟩) (by simp [results, Tryz.results92, go_sem, hct]) rfl ?_
                   refine ⟨⟨nm, K⟩, q, _, 220, rfl, (HC4.out.oth _ 0 _ HBL.out).oth _ 1 _ HBL.out, cs_new (cs_new HS4.out (Nat.le_refl _) 0 _) (Nat.le_refl _) 1 _, ?_⟩
                   rw [HVE.out]
                   exact ⟨by rw [HK0.out]; rfl, rfl, by decide⟩
                 · have HK1 := hid hk1
                   clear hk1
                   have hqf : ((q : Int) == (f : Int)) = false := beq_eq_false_iff_ne.2 (by have := HQ.out; have := HK1.out; omega)
                   by_cases h9 : 999 < K
                   · skip
                     have d9 : decide ((999 : Int) < (K : Int)) = true := by simp; omega
                     have d9n : decide (999 < K) = true := by simp; omega
                     have HVE : Hid (versS (b :: t) = .error (r, 3)) := hid (by rw [HVD.out, HNV.out, if_neg (by have := HK1.out; omega), ← HKK.out, if_pos h9])
                     clear h9
                     go_wp2_with fail
                     refine wp_region_ordC 99 [(0, 0), (1, 0), (2, 0), (3, 0), (4, 0), (5, 0), (6, 0), (7, 0), (8, 0), (9, 0), (10, 0), (11, 0), (12, 0), (13, 0), (14, 0), (15, 0), (16, 0), (17, 0), (18, 0), (19, 0), (20, 0), (21, 0), (22, 0), (23, 0), (24, 0), (25, 0), (26, 0), (27, 0), (28, 0), (29, 0), (30, 0), (31, 0), (32, 0), (33, 0), (34, 0), (35, 0), (36, 0), (37, 0), (38, 0), (39, 0), (40, 0), (41, 0), (42, 0), (43, 0), (44, 0), (45, 0), (46, 0), (47, 0), (48, 0), (49, 0), (50, 0), (51, 0), (52, 0), (53, 0)] (fun _ => True) (fun W' => W'.cell? ⟨B, 0, none⟩ = some (.string ⟨s.toArray⟩) ∧ W'.cell? ⟨B, 1, none⟩ = some (.int .i64 (q : Int))) (by kernel_rfl) (by kernel_rfl) (trivial) (⟨c0, c1⟩) ?_
                     repeat ((first | refine ordC_skip rfl rfl ?_ | refine ordC_skip1 rfl rfl ?_ | ((first | refine ordC_q rfl rfl ?_ | refine ordC_p rfl rfl ?_); apply Exists.intro; refine ⟨fun wS hS => ?_, ?_⟩; (go_simp; try with_reducible rfl))); simp only [Act.put, List.setIfInBounds_toArray, List.set_cons_zero, List.set_cons_succ])
                     refine ordC_nil ?_
                     go_wp2_with fail
                     refine (cu_fails_at _ (HC.out.drew) f (by have := HFL.out; omega) 3).mono ?_
                     rintro e w4 ⟨rfl, hc4, hs4⟩
                     have hv4 : Bx w4 w2.heap.size (cellsTo ⟨nm, K⟩) := hs4.bx (show Bx (W.drew) _ _ from HV6.out) HVB.out
                     have hx4 : Bx w4 w.heap.size (cellsTo ⟨[], 0⟩) := hs4.bx (show Bx (W.drew) _ _ from HX6.out) HBL.out
                     have HC4 := hid hc4; have HS4 := hid ((HS.out.tr (Cs.of_below (Below.refl _ _).drew)).tr hs4)
                     clear hcb hfb c2 hct hft c0 c1 z1
                     have hcb := hv4.1; have hfb := hv4.2.1; have hct := hx4.1; have hft := hx4.2.1
                     clear hc4 hs4 hv4 hx4
                     go_wp2_with fail
                     refine bodyPost_ret (v := valTo ⟨nm, K⟩) (by simp [results, Tryz.results92, go_sem, hct]) rfl ?_
                     refine ⟨⟨nm, K⟩, f, _, 3, rfl, (HC4.out.oth _ 0 _ HBL.out).oth _ 1 _ HBL.out, cs_new (cs_new HS4.out (Nat.le_refl _) 0 _) (Nat.le_refl _) 1 _, ?_⟩
                     rw [HVE.out]
                     exact ⟨HC5.out.d, rfl, by decide⟩
                   · skip
                     have d9 : decide ((999 : Int) < (K : Int)) = false := by simp; omega
                     have d9n : decide (999 < K) = false := by simp; omega
                     have HVE : Hid (versS (b :: t) = .ok (⟨nm, K⟩, r.drop k)) := hid (by rw [HVD.out, HNV.out, if_neg (by have := HK1.out; omega), ← HKK.out, if_neg h9])
                     clear h9
                     go_wp2_with fail
                     refine wp_region_ordC 99 [(0, 0), (1, 0), (2, 0), (3, 0), (4, 0), (5, 0), (6, 0), (7, 0), (8, 0), (9, 0), (10, 0), (11, 0), (12, 0), (13, 0), (14, 0), (15, 0), (16, 0), (17, 0), (18, 0), (19, 0), (20, 0), (21, 0), (22, 0), (23, 0), (24, 0), (25, 0), (26, 0), (27, 0), (28, 0), (29, 0), (30, 0), (31, 0), (32, 0), (33, 0), (34, 0), (35, 0), (36, 0), (37, 0), (38, 0), (39, 0), (40, 0), (41, 0), (42, 0), (43, 0), (44, 0), (45, 0), (46, 0), (47, 0), (48, 0), (49, 0), (50, 0), (51, 0), (52, 0), (53, 0)] (fun _ => True) (fun W' => W'.cell? ⟨B, 0, none⟩ = some (.string ⟨s.toArray⟩) ∧ W'.cell? ⟨B, 1, none⟩ = some (.int .i64 (q : Int))) (by kernel_rfl) (by kernel_rfl) (trivial) (⟨c0, c1⟩) ?_
                     repeat ((first | refine ordC_skip rfl rfl ?_ | refine ordC_skip1 rfl rfl ?_ | ((first | refine ordC_q rfl rfl ?_ | refine ordC_p rfl rfl ?_); apply Exists.intro; refine ⟨fun wS hS => ?_, ?_⟩; (go_simp; try with_reducible rfl))); simp only [Act.put, List.setIfInBounds_toArray, List.set_cons_zero, List.set_cons_succ])
                     refine ordC_nil ?_
                     go_wp2_with fail
                     refine bodyPost_ret (v := valTo ⟨nm, K⟩) (by simp [results, Tryz.results92, go_sem, hct]) rfl ?_
                     refine ⟨⟨nm, K⟩, q, _, 0, rfl, ((HC.out.drew).oth _ 0 _ HBL.out).oth _ 1 _ HBL.out, cs_new (cs_new (HS.out.tr (Cs.of_below (Below.refl _ _).drew)) (Nat.le_refl _) 0 _) (Nat.le_refl _) 1 _, ?_⟩
                     rw [HVE.out]
                     exact ⟨rfl, rfl, rfl⟩
             · have HXD : Hid (digB x = false) := hid (by rw [Bool.eq_false_iff]; intro e; exact h48 ((digB_eq x).1 e).1)
               have d1i : decide ((48 : Int) ≤ (x.toNat : Int)) = false := by simp; omega
               have d1n : decide (48 ≤ x.toNat) = false := by simp; omega
               clear h48
               have HNV := hid (numV_eq nm r k HDA.out (fun y hy => by rw [HRK.out] at hy; cases hy; exact .inl HXD.out))
               rcases Nat.eq_zero_or_pos k with hk0 | hk1
               · have HK0 := hid hk0
                 clear hk0
                 have hqf : ((q : Int) == (f : Int)) = true := by have := HQ.out; have := HK0.out; simp; omega
                 have HVE : Hid (versS (b :: t) = .error (r, 220)) := hid (by rw [HVD.out, HNV.out, if_pos HK0.out])
                 go_wp2_with fail
                 refine wp_region_ordC 99 [(0, 0), (1, 0), (2, 0), (3, 0), (4, 0), (5, 0), (6, 0), (7, 0), (8, 0), (9, 0), (10, 0), (11, 0), (12, 0), (13, 0), (14, 0), (15, 0), (16, 0), (17, 0), (18, 0), (19, 0), (20, 0), (21, 0), (22, 0), (23, 0), (24, 0), (25, 0), (26, 0), (27, 0), (28, 0), (29, 0), (30, 0), (31, 0), (32, 0), (33, 0), (34, 0), (35, 0), (36, 0), (37, 0), (38, 0), (39, 0), (40, 0), (41, 0), (42, 0), (43, 0), (44, 0), (45, 0), (46, 0), (47, 0), (48, 0), (49, 0), (50, 0), (51, 0), (52, 0), (53, 0)] (fun _ => True) (fun W' => W'.cell? ⟨B, 0, none⟩ = some (.string ⟨s.toArray⟩) ∧ W'.cell? ⟨B, 1, none⟩ = some (.int .i64 (q : Int))) (by kernel_rfl) (by kernel_rfl) (trivial) (⟨c0, c1⟩) ?_
                 repeat ((first | refine ordC_skip rfl rfl ?_ | refine ordC_skip1 rfl rfl ?_ | ((first | refine ordC_q rfl rfl ?_ | refine ordC_p rfl rfl ?_); apply Exists.intro; refine ⟨fun wS hS => ?_, ?_⟩; (go_simp; try with_reducible rfl))); simp only [Act.put, List.setIfInBounds_toArray, List.set_cons_zero, List.set_cons_succ])
                 refine ordC_nil ?_
                 go_wp2_with fail
                 refine (cu_fails _ (HC.out.drew) 0 (Nat.zero_le _) q rfl 220).mono ?_
                 rintro e w4 ⟨rfl, hc4, hs4⟩
                 have hv4 : Bx w4 w2.heap.size (cellsTo ⟨nm, K⟩) := hs4.bx (show Bx (W.drew) _ _ from HV6.out) HVB.out
                 have hx4 : Bx w4 w.heap.size (cellsTo ⟨[], 0⟩) := hs4.bx (show Bx (W.drew) _ _ from HX6.out) HBL.out
                 have HC4 := hid hc4; have HS4 := hid ((HS.out.tr (Cs.of_below (Below.refl _ _).drew)).tr hs4)
                 clear hcb hfb c2 hct hft c0 c1 z1
                 have hcb := hv4.1; have hfb := hv4.2.1; have hct := hx4.1; have hft := hx4.2.1
                 clear hc4 hs4 hv4 hx4
                 go_wp2_with fail
                 refine bodyPost_ret (v := valTo ⟨nm, K⟩) (by simp [results, Tryz.results92, go_sem, hct]) rfl ?_
                 refine ⟨⟨nm, K⟩, q, _, 220, rfl, (HC4.out.oth _ 0 _ HBL.out).oth _ 1 _ HBL.out, cs_new (cs_new HS4.out (Nat.le_refl _) 0 _) (Nat.le_refl _) 1 _, ?_⟩
                 rw [HVE.out]
                 exact ⟨by rw [HK0.out]; rfl, rfl, by decide⟩
               · have HK1 := hid hk1
                 clear hk1
                 have hqf : ((q : Int) == (f : Int)) = false := beq_eq_false_iff_ne.2 (by have := HQ.out; have := HK1.out; omega)
                 by_cases h9 : 999 < K
                 · skip
                   have d9 : decide ((999 : Int) < (K : Int)) = true := by simp; omega
                   have d9n : decide (999 < K) = true := by simp; omega
                   have HVE : Hid (versS (b :: t) = .error (r, 3)) := hid (by rw [HVD.out, HNV.out, if_neg (by have := HK1.out; omega), ← HKK.out, if_pos h9])
                   clear h9
                   go_wp2_with fail
                   refine wp_region_ordC 99 [(0, 0), (1, 0), (2, 0), (3, 0), (4, 0), (5, 0), (6, 0), (7, 0), (8, 0), (9, 0), (10, 0), (11, 0), (12, 0), (13, 0), (14, 0), (15, 0), (16, 0), (17, 0), (18, 0), (19, 0), (20, 0), (21, 0), (22, 0), (23, 0), (24, 0), (25, 0), (26, 0), (27, 0), (28, 0), (29, 0), (30, 0), (31, 0), (32, 0), (33, 0), (34, 0), (35, 0), (36, 0), (37, 0), (38, 0), (39, 0), (40, 0), (41, 0), (42, 0), (43, 0), (44, 0), (45, 0), (46, 0), (47, 0), (48, 0), (49, 0), (50, 0), (51, 0), (52, 0), (53, 0)] (fun _ => True) (fun W' => W'.cell? ⟨B, 0, none⟩ = some (.string ⟨s.toArray⟩) ∧ W'.cell? ⟨B, 1, none⟩ = some (.int .i64 (q : Int))) (by kernel_rfl) (by kernel_rfl) (trivial) (⟨c0, c1⟩) ?_
                   repeat ((first | refine ordC_skip rfl rfl ?_ | refine ordC_skip1 rfl rfl ?_ | ((first | refine ordC_q rfl rfl ?_ | refine ordC_p rfl rfl ?_); apply Exists.intro; refine ⟨fun wS hS => ?_, ?_⟩; (go_simp; try with_reducible rfl))); simp only [Act.put, List.setIfInBounds_toArray, List.set_cons_zero, List.set_cons_succ])
                   refine ordC_nil ?_
                   go_wp2_with fail
                   refine (cu_fails_at _ (HC.out.drew) f (by have := HFL.out; omega) 3).mono ?_
                   rintro e w4 ⟨rfl, hc4, hs4⟩
                   have hv4 : Bx w4 w2.heap.size (cellsTo ⟨nm, K⟩) := hs4.bx (show Bx (W.drew) _ _ from HV6.out) HVB.out
                   have hx4 : Bx w4 w.heap.size (cellsTo ⟨[], 0⟩) := hs4.bx (show Bx (W.drew) _ _ from HX6.out) HBL.out
                   have HC4 := hid hc4; have HS4 := hid ((HS.out.tr (Cs.of_below (Below.refl _ _).drew)).tr hs4)
                   clear hcb hfb c2 hct hft c0 c1 z1
                   have hcb := hv4.1; have hfb := hv4.2.1; have hct := hx4.1; have hft := hx4.2.1
                   clear hc4 hs4 hv4 hx4
                   go_wp2_with fail
                   refine bodyPost_ret (v := valTo ⟨nm, K⟩) (by simp [results, Tryz.results92, go_sem, hct]) rfl ?_
                   refine ⟨⟨nm, K⟩, f, _, 3, rfl, (HC4.out.oth _ 0 _ HBL.out).oth _ 1 _ HBL.out, cs_new (cs_new HS4.out (Nat.le_refl _) 0 _) (Nat.le_refl _) 1 _, ?_⟩
                   rw [HVE.out]
                   exact ⟨HC5.out.d, rfl, by decide⟩
                 · skip
                   have d9 : decide ((999 : Int) < (K : Int)) = false := by simp; omega
                   have d9n : decide (999 < K) = false := by simp; omega
                   have HVE : Hid (versS (b :: t) = .ok (⟨nm, K⟩, r.drop k)) := hid (by rw [HVD.out, HNV.out, if_neg (by have := HK1.out; omega), ← HKK.out, if_neg h9])
                   clear h9
                   go_wp2_with fail
                   refine wp_region_ordC 99 [(0, 0), (1, 0), (2, 0), (3, 0), (4, 0), (5, 0), (6, 0), (7, 0), (8, 0), (9, 0), (10, 0), (11, 0), (12, 0), (13, 0), (14, 0), (15, 0), (16, 0), (17, 0), (18, 0), (19, 0), (20, 0), (21, 0), (22, 0), (23, 0), (24, 0), (25, 0), (26, 0), (27, 0), (28, 0), (29, 0), (30, 0), (31, 0), (32, 0), (33, 0), (34, 0), (35, 0), (36, 0), (37, 0), (38, 0), (39, 0), (40, 0), (41, 0), (42, 0), (43, 0), (44, 0), (45, 0), (46, 0), (47, 0), (48, 0), (49, 0), (50, 0), (51, 0), (52, 0), (53, 0)] (fun _ => True) (fun W' => W'.cell? ⟨B, 0, none⟩ = some (.string ⟨s.toArray⟩) ∧ W'.cell? ⟨B, 1, none⟩ = some (.int .i64 (q : Int))) (by kernel_rfl) (by kernel_rfl) (trivial) (⟨c0, c1⟩) ?_
                   repeat ((first | refine ordC_skip rfl rfl ?_ | refine ordC_skip1 rfl rfl ?_ | ((first | refine ordC_q rfl rfl ?_ | refine ordC_p rfl rfl ?_); apply Exists.intro; refine ⟨fun wS hS => ?_, ?_⟩; (go_simp; try with_reducible rfl))); simp only [Act.put, List.setIfInBounds_toArray, List.set_cons_zero, List.set_cons_succ])
                   refine ordC_nil ?_
                   go_wp2_with fail
                   refine bodyPost_ret (v := valTo ⟨nm, K⟩) (by simp [results, Tryz.results92, go_sem, hct]) rfl ?_
                   refine ⟨⟨nm, K⟩, q, _, 0, rfl, ((HC.out.drew).oth _ 0 _ HBL.out).oth _ 1 _ HBL.out, cs_new (cs_new (HS.out.tr (Cs.of_below (Below.refl _ _).drew)) (Nat.le_refl _) 0 _) (Nat.le_refl _) 1 _, ?_⟩
                   rw [HVE.out]
                   exact ⟨rfl, rfl, rfl⟩
 · skip
   refine wp_region_ordC 99 [(0, 0), (1, 0), (2, 0), (3, 0), (4, 0), (5, 0), (6, 0), (7, 2), (8, 0), (9, 0), (10, 0), (11, 0), (12, 0), (13, 0), (14, 0), (15, 0), (16, 0), (17, 0), (18, 0), (19, 0), (20, 0), (21, 0)] (fun _ => True) (fun W' => W'.cell? ⟨B, 0, none⟩ = some (.string ⟨s.toArray⟩) ∧ W'.cell? ⟨B, 1, none⟩ = some (.int .i64 (p : Int)) ∧ W'.cell? ⟨B, 2, none⟩ = some (.int .i64 0)) (by kernel_rfl) (by kernel_rfl) (trivial) (⟨c0, c1, c2⟩) ?_
   repeat ((first | refine ordC_skip rfl rfl ?_ | refine ordC_skip1 rfl rfl ?_ | ((first | refine ordC_q rfl rfl ?_ | refine ordC_p rfl rfl ?_); apply Exists.intro; refine ⟨fun wS hS => ?_, ?_⟩; (go_simp; try with_reducible rfl))); simp only [Act.put, List.setIfInBounds_toArray, List.set_cons_zero, List.set_cons_succ])
   refine ordC_l rfl rfl (fun K hK => ?_)
   go_simp
   refine (HEN.out _ (HB0.out.drew)).mono ?_
   rintro e w1 ⟨rfl, hb1⟩
   have HB1 := hid (HB0.out.drew.trans (hb1.mono HB0.out.drew.size)); have HX1 := hid ((HX0.out.drew).keep hb1)
   have HC1 := hid (HH.out.below HB1.out)
   refine hK _ _ ⟨trivial, HC1.out.x.1 0, HC1.out.x.1 1, HC1.out.x.1 2⟩ ?_
   clear hK K hb1 c0 c1 c2
   repeat ((first | refine ordC_skip rfl rfl ?_ | refine ordC_skip1 rfl rfl ?_ | ((first | refine ordC_q rfl rfl ?_ | refine ordC_p rfl rfl ?_); apply Exists.intro; refine ⟨fun wS hS => ?_, ?_⟩; (go_simp; try with_reducible rfl))); simp only [Act.put, List.setIfInBounds_toArray, List.set_cons_zero, List.set_cons_succ])
   refine ordC_nil ?_
   have HV : Hid (versS (b :: t) = .ok (⟨[], 0⟩, t)) := hid (by rw [show b = 45 from UInt8.toNat_inj.1 (by have := eq_of_beq h45; show b.toNat = 45; omega)]; exact versS_dash t)
   have c0 := HC1.out.x.1 0; have c1 := HC1.out.x.1 1; have z1 := HC1.out.x.2.1 1
   have hgo := HC1.out.go 1 (by simp) (p + 1) rfl
   have HGO := hid hgo
   have hx2 := HX1.out.setOther B 1 (.int .i64 ((p : Int) + 1)) HBL.out
   have hct := hx2.1; have hft := hx2.2.1
   clear hx2 hgo
   go_wp2_with fail
   refine bodyPost_ret (v := valTo ⟨[], 0⟩) (by simp [results, Tryz.results92, go_sem, hct]) rfl ?_
   refine ⟨⟨[], 0⟩, p + 1, t, 0, rfl, (HGO.out.1.oth _ 0 _ HBL.out).oth _ 1 _ HBL.out, cs_new (cs_new ((Cs.of_below HB1.out).tr HGO.out.2) (Nat.le_refl _) 0 _) (Nat.le_refl _) 1 _, ?_⟩
   rw [HV.out]
   exact ⟨rfl, rfl, rfl⟩
end Yd
