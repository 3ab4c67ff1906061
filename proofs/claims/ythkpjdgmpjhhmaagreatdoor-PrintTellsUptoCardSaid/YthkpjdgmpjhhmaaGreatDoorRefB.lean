import Derived.Test.YthkpjdgmpjhhmaaGreatDoorRefA
import Derived.Test.YthkpjdgmpjhhmaaGreatDoorTellB
import Derived.Test.YthkpjdgmpjhhmaaGreatDoorProg
import Derived.Test.YthkpjdgmpjhhmaaGreatDoorLinesC
set_option maxRecDepth 200000
set_option maxHeartbeats 8000000
namespace Yd
open Go Go.RowKit Go.Proofs
attribute [local go_sem] Oper.semAt_some

theorem r_event_1 (h : HC) (et ses lvl obj vt vk pred : Int) (sa : Option Addr) (sn sc : Nat) (scan : List Sn) (w : World) (hr : Row w 3 encSn sa sn sc scan) (ht : toldB et h.t.n = true) :
   Calls Tryz.prog 85 #[valH h, valEv ⟨1, et, ses, lvl, obj, ⟨vt, vk⟩, pred, sa, sn, sc⟩] w (Ret (.bool (evB h.t.n h.s.n h.o.n h.p.n ⟨1, et, ses, lvl, obj, ⟨vt, vk⟩, pred, sa, sn, sc⟩ scan)) w) := by
 obtain ⟨R, hR0⟩ : ∃ R : Bool, R = evB h.t.n h.s.n h.o.n h.p.n ⟨1, et, ses, lvl, obj, ⟨vt, vk⟩, pred, sa, sn, sc⟩ scan := ⟨_, rfl⟩
 rw [← hR0]
 have HR := hid hr; have HT := hid ht
 have HF : Hid (R = ((sameFlat ⟨1, et, ses, lvl, 0, ⟨0, 0⟩, 0, none, 0, 0⟩ ⟨1, et, ses, lvl, obj, ⟨vt, vk⟩, pred, sa, sn, sc⟩ && decide ([] = scan)) && (toldB ses h.s.n && levelB lvl))) := hid (by rw [hR0]; simp [evB, hasB, bareB, sameFlat, HT.out, eq_comm (a := (0 : Int)), eq_comm (a := (⟨0, 0⟩ : Ver)), eq_comm (a := ([] : List Sn)), Bool.and_assoc]; try (cases toldB ses h.s.n <;> cases levelB lvl <;> simp))
 have hb2 := belowA (belowA (Below.refl w.heap.size w) (.cells (cellsH h) 28)) (.cells (cellsEv ⟨1, et, ses, lvl, obj, ⟨vt, vk⟩, pred, sa, sn, sc⟩) 49)
 have hx0 := (Bx.new w (cellsH h) 28).alloc (.cells (cellsEv ⟨1, et, ses, lvl, obj, ⟨vt, vk⟩, pred, sa, sn, sc⟩) 49)
 have hx1 : Bx ((w.alloc (.cells (cellsH h) 28)).alloc (.cells (cellsEv ⟨1, et, ses, lvl, obj, ⟨vt, vk⟩, pred, sa, sn, sc⟩) 49)) (w.heap.size + 1) (cellsEv ⟨1, et, ses, lvl, obj, ⟨vt, vk⟩, pred, sa, sn, sc⟩) := Bx.new1 (by simp)
 have HB := hid hb2; have HX := hid (⟨hx0, hx1⟩ : _ ∧ _)
 clear hR0 hr ht hb2 hx0 hx1
 go_enter Tryz.func85, Tryz.ntmps85
 go_wp2_with fail
 refine (r_Is et h.t.n _).mono ?_
 rintro e w1 ⟨rfl, hb1⟩
 rw [HT.out]
 have hx := keep2 HX.out hb1
 have HB1 := hid (HB.out.trans (hb1.mono HB.out.size))
 have HX1 := hid hx
 have hc0 := hx.1.1; have hl0 := hx.1.2.2; have hc1 := hx.2.1; have hl1 := hx.2.2.2
 clear hb1 hx
 go_wp2_with fail
 clear hc0 hl0 hc1 hl1
 refine wp_region_ord [(0, true), (1, true), (2, true), (3, true), (4, true), (5, false), (6, true), (7, false)] (fun W' => Bx W' (w.heap.size + 1) (cellsEv ⟨1, et, ses, lvl, obj, ⟨vt, vk⟩, pred, sa, sn, sc⟩)) (by kernel_rfl) (by kernel_rfl) (by intro d v c a w h; cases d <;> exact h) (HX1.out.2.alloc _) ?_
 repeat ((first | refine ord_skip rfl rfl ?_ | (refine ord_q rfl rfl ?_; apply Exists.intro; refine ⟨fun wS hS => ?_, ?_⟩; (go_simp; try with_reducible rfl))); simp only [Act.put, List.setIfInBounds_toArray, List.set_cons_zero, List.set_cons_succ])
 refine ord_l rfl rfl (fun K hK => ?_)
 go_simp
 refine hK _ _ (HX1.out.2.alloc _) ?_
 clear hK K
 repeat ((first | refine ord_skip rfl rfl ?_ | (refine ord_q rfl rfl ?_; apply Exists.intro; refine ⟨fun wS hS => ?_, ?_⟩; (go_simp; try with_reducible rfl))); simp only [Act.put, List.setIfInBounds_toArray, List.set_cons_zero, List.set_cons_succ])
 refine ord_l rfl rfl (fun K hK => ?_)
 go_simp
 refine hK _ _ (HX1.out.2.alloc _) ?_
 clear hK K
 refine ord_nil ?_
 have hx2 := HX1.out.2.alloc (.cells (cellsEv ⟨1, et, ses, lvl, 0, ⟨0, 0⟩, 0, none, 0, 0⟩) 49)
 have hx20 := HX1.out.1.alloc (.cells (cellsEv ⟨1, et, ses, lvl, 0, ⟨0, 0⟩, 0, none, 0, 0⟩) 49)
 have hz2 : Bx (w1.alloc (.cells (cellsEv ⟨1, et, ses, lvl, 0, ⟨0, 0⟩, 0, none, 0, 0⟩) 49)) w1.heap.size (cellsEv ⟨1, et, ses, lvl, 0, ⟨0, 0⟩, 0, none, 0, 0⟩) := Bx.new1 rfl
 have hbz := belowA HB1.out (.cells (cellsEv ⟨1, et, ses, lvl, 0, ⟨0, 0⟩, 0, none, 0, 0⟩) 49)
 have HXZ := hid (⟨hx2, hx20⟩ : _ ∧ _); have HBZ := hid hbz
 have hc1 := hx2.1; have hl1 := hx2.2.2; have hcz := hz2.1; have hlz := hz2.2.2; have hc20 := hx20.1; have hl20 := hx20.2.2
 clear hx2 hx20 hz2
 have HSM := hid (r_same_ev ⟨1, et, ses, lvl, 0, ⟨0, 0⟩, 0, none, 0, 0⟩ ⟨1, et, ses, lvl, obj, ⟨vt, vk⟩, pred, sa, sn, sc⟩ [] scan (w1.alloc (.cells (cellsEv ⟨1, et, ses, lvl, 0, ⟨0, 0⟩, 0, none, 0, 0⟩) 49)).drew Row.nil_ (HR.out.below hbz.drew rfl))
 clear hbz hc20 hl20
 go_wp2_with fail
 refine HSM.out.mono ?_
 rintro e w2 ⟨rfl, hb2⟩
 have HX2 := hid (⟨(HXZ.out.1.drew).keep hb2, (HXZ.out.2.drew).keep hb2⟩ : _ ∧ _)
 have HB2 := hid ((HBZ.out.drew).trans (hb2.mono HBZ.out.size))
 clear hb2 hcz hlz hc1 hl1
 cases hsm : (sameFlat ⟨1, et, ses, lvl, 0, ⟨0, 0⟩, 0, none, 0, 0⟩ ⟨1, et, ses, lvl, obj, ⟨vt, vk⟩, pred, sa, sn, sc⟩ && decide ([] = scan))
 · have HQ : Hid (R = false) := hid (by rw [HF.out, hsm]; simp)
   clear hsm
   go_wp2_with fail
   go_ret
   exact ⟨by rw [HQ.out]; rfl, HB2.out⟩
 have HSE := hid hsm
 clear hsm
 have hc1 := HX2.out.1.1; have hl1 := HX2.out.1.2.2; have hc0 := HX2.out.2.1; have hl0 := HX2.out.2.2.2
 go_wp2_with fail
 refine (r_Is ses h.s.n _).mono ?_
 rintro e w3 ⟨rfl, hb3⟩
 have HX3 := hid (⟨HX2.out.1.keep hb3, HX2.out.2.keep hb3⟩ : _ ∧ _)
 have HB3 := hid (HB2.out.trans (hb3.mono HB2.out.size))
 clear hb3 hc1 hl1 hc0 hl0
 cases hto : toldB ses h.s.n
 · have HQ : Hid (R = false) := hid (by rw [HF.out, hto]; simp)
   clear hto
   go_wp2_with fail
   go_ret
   exact ⟨by rw [HQ.out]; rfl, HB3.out⟩
 have HTO := hid hto
 clear hto
 have hc1 := HX3.out.1.1; have hl1 := HX3.out.1.2.2; have hc0 := HX3.out.2.1; have hl0 := HX3.out.2.2.2
 have HQ : Hid (R = levelB lvl) := hid (by rw [HF.out, HSE.out, HTO.out]; simp)
 go_wp2_with fail
 refine (r_Level lvl _).mono ?_
 rintro e w4 ⟨rfl, hb4⟩
 have HB4 := hid (HB3.out.trans (hb4.mono HB3.out.size))
 clear hb4 hc1 hl1 hc0 hl0
 go_wp2_with fail
 go_ret
 exact ⟨by rw [HQ.out]; rfl, HB4.out⟩

theorem r_event_3 (h : HC) (et ses lvl obj vt vk pred : Int) (sa : Option Addr) (sn sc : Nat) (scan : List Sn) (w : World) (hr : Row w 3 encSn sa sn sc scan) (ht : toldB et h.t.n = true) :
   Calls Tryz.prog 85 #[valH h, valEv ⟨3, et, ses, lvl, obj, ⟨vt, vk⟩, pred, sa, sn, sc⟩] w (Ret (.bool (evB h.t.n h.s.n h.o.n h.p.n ⟨3, et, ses, lvl, obj, ⟨vt, vk⟩, pred, sa, sn, sc⟩ scan)) w) := by
 obtain ⟨R, hR0⟩ : ∃ R : Bool, R = evB h.t.n h.s.n h.o.n h.p.n ⟨3, et, ses, lvl, obj, ⟨vt, vk⟩, pred, sa, sn, sc⟩ scan := ⟨_, rfl⟩
 rw [← hR0]
 have HR := hid hr; have HT := hid ht
 have HF : Hid (R = ((sameFlat ⟨3, et, 0, 0, obj, ⟨vt, vk⟩, 0, none, 0, 0⟩ ⟨3, et, ses, lvl, obj, ⟨vt, vk⟩, pred, sa, sn, sc⟩ && decide ([] = scan)) && (toldB obj h.o.n && verB ⟨vt, vk⟩ h.t.n))) := hid (by rw [hR0]; simp [evB, hasB, bareB, sameFlat, HT.out, eq_comm (a := (0 : Int)), eq_comm (a := ([] : List Sn)), Bool.and_assoc]; try (cases toldB obj h.o.n <;> cases verB ⟨vt, vk⟩ h.t.n <;> simp))
 have hb2 := belowA (belowA (Below.refl w.heap.size w) (.cells (cellsH h) 28)) (.cells (cellsEv ⟨3, et, ses, lvl, obj, ⟨vt, vk⟩, pred, sa, sn, sc⟩) 49)
 have hx0 := (Bx.new w (cellsH h) 28).alloc (.cells (cellsEv ⟨3, et, ses, lvl, obj, ⟨vt, vk⟩, pred, sa, sn, sc⟩) 49)
 have hx1 : Bx ((w.alloc (.cells (cellsH h) 28)).alloc (.cells (cellsEv ⟨3, et, ses, lvl, obj, ⟨vt, vk⟩, pred, sa, sn, sc⟩) 49)) (w.heap.size + 1) (cellsEv ⟨3, et, ses, lvl, obj, ⟨vt, vk⟩, pred, sa, sn, sc⟩) := Bx.new1 (by simp)
 have HB := hid hb2; have HX := hid (⟨hx0, hx1⟩ : _ ∧ _)
 clear hR0 hr ht hb2 hx0 hx1
 go_enter Tryz.func85, Tryz.ntmps85
 go_wp2_with fail
 refine (r_Is et h.t.n _).mono ?_
 rintro e w1 ⟨rfl, hb1⟩
 rw [HT.out]
 have hx := keep2 HX.out hb1
 have HB1 := hid (HB.out.trans (hb1.mono HB.out.size))
 have HX1 := hid hx
 have hc0 := hx.1.1; have hl0 := hx.1.2.2; have hc1 := hx.2.1; have hl1 := hx.2.2.2
 clear hb1 hx
 go_wp2_with fail
 clear hc0 hl0 hc1 hl1
 refine wp_region_ord [(0, true), (1, true), (2, true), (3, true), (4, true), (5, false), (6, true), (7, false)] (fun W' => Bx W' (w.heap.size + 1) (cellsEv ⟨3, et, ses, lvl, obj, ⟨vt, vk⟩, pred, sa, sn, sc⟩)) (by kernel_rfl) (by kernel_rfl) (by intro d v c a w h; cases d <;> exact h) (HX1.out.2.alloc _) ?_
 repeat ((first | refine ord_skip rfl rfl ?_ | (refine ord_q rfl rfl ?_; apply Exists.intro; refine ⟨fun wS hS => ?_, ?_⟩; (go_simp; try with_reducible rfl))); simp only [Act.put, List.setIfInBounds_toArray, List.set_cons_zero, List.set_cons_succ])
 refine ord_l rfl rfl (fun K hK => ?_)
 go_simp
 refine hK _ _ (HX1.out.2.alloc _) ?_
 clear hK K
 repeat ((first | refine ord_skip rfl rfl ?_ | (refine ord_q rfl rfl ?_; apply Exists.intro; refine ⟨fun wS hS => ?_, ?_⟩; (go_simp; try with_reducible rfl))); simp only [Act.put, List.setIfInBounds_toArray, List.set_cons_zero, List.set_cons_succ])
 refine ord_l rfl rfl (fun K hK => ?_)
 go_simp
 refine hK _ _ (HX1.out.2.alloc _) ?_
 clear hK K
 refine ord_nil ?_
 have hx2 := HX1.out.2.alloc (.cells (cellsEv ⟨3, et, 0, 0, obj, ⟨vt, vk⟩, 0, none, 0, 0⟩) 49)
 have hx20 := HX1.out.1.alloc (.cells (cellsEv ⟨3, et, 0, 0, obj, ⟨vt, vk⟩, 0, none, 0, 0⟩) 49)
 have hz2 : Bx (w1.alloc (.cells (cellsEv ⟨3, et, 0, 0, obj, ⟨vt, vk⟩, 0, none, 0, 0⟩) 49)) w1.heap.size (cellsEv ⟨3, et, 0, 0, obj, ⟨vt, vk⟩, 0, none, 0, 0⟩) := Bx.new1 rfl
 have hbz := belowA HB1.out (.cells (cellsEv ⟨3, et, 0, 0, obj, ⟨vt, vk⟩, 0, none, 0, 0⟩) 49)
 have HXZ := hid (⟨hx2, hx20⟩ : _ ∧ _); have HBZ := hid hbz
 have hc1 := hx2.1; have hl1 := hx2.2.2; have hcz := hz2.1; have hlz := hz2.2.2; have hc20 := hx20.1; have hl20 := hx20.2.2
 clear hx2 hx20 hz2
 have HSM := hid (r_same_ev ⟨3, et, 0, 0, obj, ⟨vt, vk⟩, 0, none, 0, 0⟩ ⟨3, et, ses, lvl, obj, ⟨vt, vk⟩, pred, sa, sn, sc⟩ [] scan (w1.alloc (.cells (cellsEv ⟨3, et, 0, 0, obj, ⟨vt, vk⟩, 0, none, 0, 0⟩) 49)).drew Row.nil_ (HR.out.below hbz.drew rfl))
 clear hbz hc20 hl20
 go_wp2_with fail
 refine HSM.out.mono ?_
 rintro e w2 ⟨rfl, hb2⟩
 have HX2 := hid (⟨(HXZ.out.1.drew).keep hb2, (HXZ.out.2.drew).keep hb2⟩ : _ ∧ _)
 have HB2 := hid ((HBZ.out.drew).trans (hb2.mono HBZ.out.size))
 clear hb2 hcz hlz hc1 hl1
 cases hsm : (sameFlat ⟨3, et, 0, 0, obj, ⟨vt, vk⟩, 0, none, 0, 0⟩ ⟨3, et, ses, lvl, obj, ⟨vt, vk⟩, pred, sa, sn, sc⟩ && decide ([] = scan))
 · have HQ : Hid (R = false) := hid (by rw [HF.out, hsm]; simp)
   clear hsm
   go_wp2_with fail
   go_ret
   exact ⟨by rw [HQ.out]; rfl, HB2.out⟩
 have HSE := hid hsm
 clear hsm
 have hc1 := HX2.out.1.1; have hl1 := HX2.out.1.2.2; have hc0 := HX2.out.2.1; have hl0 := HX2.out.2.2.2
 go_wp2_with fail
 refine (r_Is obj h.o.n _).mono ?_
 rintro e w3 ⟨rfl, hb3⟩
 have HX3 := hid (⟨HX2.out.1.keep hb3, HX2.out.2.keep hb3⟩ : _ ∧ _)
 have HB3 := hid (HB2.out.trans (hb3.mono HB2.out.size))
 clear hb3 hc1 hl1 hc0 hl0
 cases hto : toldB obj h.o.n
 · have HQ : Hid (R = false) := hid (by rw [HF.out, hto]; simp)
   clear hto
   go_wp2_with fail
   go_ret
   exact ⟨by rw [HQ.out]; rfl, HB3.out⟩
 have HTO := hid hto
 clear hto
 have hc1 := HX3.out.1.1; have hl1 := HX3.out.1.2.2; have hc0 := HX3.out.2.1; have hl0 := HX3.out.2.2.2
 have HQ : Hid (R = verB ⟨vt, vk⟩ h.t.n) := hid (by rw [HF.out, HSE.out, HTO.out]; simp)
 go_wp2_with fail
 refine (r_Version ⟨vt, vk⟩ h.t.n _).mono ?_
 rintro e w4 ⟨rfl, hb4⟩
 have HB4 := hid (HB3.out.trans (hb4.mono HB3.out.size))
 clear hb4 hc1 hl1 hc0 hl0
 go_wp2_with fail
 go_ret
 exact ⟨by rw [HQ.out]; rfl, HB4.out⟩

theorem r_event_2 (h : HC) (et ses lvl obj vt vk pred : Int) (sa : Option Addr) (sn sc : Nat) (scan : List Sn) (w : World) (hr : Row w 3 encSn sa sn sc scan) (ht : toldB et h.t.n = true) :
   Calls Tryz.prog 85 #[valH h, valEv ⟨2, et, ses, lvl, obj, ⟨vt, vk⟩, pred, sa, sn, sc⟩] w (Ret (.bool (evB h.t.n h.s.n h.o.n h.p.n ⟨2, et, ses, lvl, obj, ⟨vt, vk⟩, pred, sa, sn, sc⟩ scan)) w) := by
 obtain ⟨R, hR0⟩ : ∃ R : Bool, R = evB h.t.n h.s.n h.o.n h.p.n ⟨2, et, ses, lvl, obj, ⟨vt, vk⟩, pred, sa, sn, sc⟩ scan := ⟨_, rfl⟩
 rw [← hR0]
 have HR := hid hr; have HT := hid ht
 have HF : Hid (R = (decide (1 ≤ vk) && decide (vt = et) && ((sameFlat ⟨2, et, 0, 0, obj, ⟨vt, vk⟩, 0, none, 0, 0⟩ ⟨2, et, ses, lvl, obj, ⟨vt, vk⟩, pred, sa, sn, sc⟩ && decide ([] = scan)) && (toldB obj h.o.n && verB ⟨vt, vk⟩ h.t.n)))) := hid (by rw [hR0]; simp [evB, hasB, bareB, sameFlat, HT.out, eq_comm (a := (0 : Int)), eq_comm (a := ([] : List Sn)), Bool.and_assoc]; try (rw [show decide (0 < vk) = decide (1 ≤ vk) from decide_eq_decide.2 (by omega)]); try (cases toldB obj h.o.n <;> cases verB ⟨vt, vk⟩ h.t.n <;> cases decide (1 ≤ vk) <;> cases decide (vt = et) <;> simp))
 have hb2 := belowA (belowA (Below.refl w.heap.size w) (.cells (cellsH h) 28)) (.cells (cellsEv ⟨2, et, ses, lvl, obj, ⟨vt, vk⟩, pred, sa, sn, sc⟩) 49)
 have hx0 := (Bx.new w (cellsH h) 28).alloc (.cells (cellsEv ⟨2, et, ses, lvl, obj, ⟨vt, vk⟩, pred, sa, sn, sc⟩) 49)
 have hx1 : Bx ((w.alloc (.cells (cellsH h) 28)).alloc (.cells (cellsEv ⟨2, et, ses, lvl, obj, ⟨vt, vk⟩, pred, sa, sn, sc⟩) 49)) (w.heap.size + 1) (cellsEv ⟨2, et, ses, lvl, obj, ⟨vt, vk⟩, pred, sa, sn, sc⟩) := Bx.new1 (by simp)
 have HB := hid hb2; have HX := hid (⟨hx0, hx1⟩ : _ ∧ _)
 clear hR0 hr ht hb2 hx0 hx1
 go_enter Tryz.func85, Tryz.ntmps85
 go_wp2_with fail
 refine (r_Is et h.t.n _).mono ?_
 rintro e w1 ⟨rfl, hb1⟩
 rw [HT.out]
 have hx := keep2 HX.out hb1
 have HB1 := hid (HB.out.trans (hb1.mono HB.out.size))
 have HX1 := hid hx
 have hc0 := hx.1.1; have hl0 := hx.1.2.2; have hc1 := hx.2.1; have hl1 := hx.2.2.2
 clear hb1 hx
 go_wp2_with fail
 clear hc0 hl0 hc1 hl1
 refine wp_region_ord [(0, true), (1, true), (2, true), (3, true), (4, true), (5, false), (6, true), (7, false)] (fun W' => Bx W' (w.heap.size + 1) (cellsEv ⟨2, et, ses, lvl, obj, ⟨vt, vk⟩, pred, sa, sn, sc⟩)) (by kernel_rfl) (by kernel_rfl) (by intro d v c a w h; cases d <;> exact h) (HX1.out.2.alloc _) ?_
 repeat ((first | refine ord_skip rfl rfl ?_ | (refine ord_q rfl rfl ?_; apply Exists.intro; refine ⟨fun wS hS => ?_, ?_⟩; (go_simp; try with_reducible rfl))); simp only [Act.put, List.setIfInBounds_toArray, List.set_cons_zero, List.set_cons_succ])
 refine ord_l rfl rfl (fun K hK => ?_)
 go_simp
 refine hK _ _ (HX1.out.2.alloc _) ?_
 clear hK K
 repeat ((first | refine ord_skip rfl rfl ?_ | (refine ord_q rfl rfl ?_; apply Exists.intro; refine ⟨fun wS hS => ?_, ?_⟩; (go_simp; try with_reducible rfl))); simp only [Act.put, List.setIfInBounds_toArray, List.set_cons_zero, List.set_cons_succ])
 refine ord_l rfl rfl (fun K hK => ?_)
 go_simp
 refine hK _ _ (HX1.out.2.alloc _) ?_
 clear hK K
 refine ord_nil ?_
 have hx2 := HX1.out.2.alloc (.cells (cellsEv ⟨2, et, 0, 0, obj, ⟨vt, vk⟩, 0, none, 0, 0⟩) 49)
 have hx20 := HX1.out.1.alloc (.cells (cellsEv ⟨2, et, 0, 0, obj, ⟨vt, vk⟩, 0, none, 0, 0⟩) 49)
 have hz2 : Bx (w1.alloc (.cells (cellsEv ⟨2, et, 0, 0, obj, ⟨vt, vk⟩, 0, none, 0, 0⟩) 49)) w1.heap.size (cellsEv ⟨2, et, 0, 0, obj, ⟨vt, vk⟩, 0, none, 0, 0⟩) := Bx.new1 rfl
 have hbz := belowA HB1.out (.cells (cellsEv ⟨2, et, 0, 0, obj, ⟨vt, vk⟩, 0, none, 0, 0⟩) 49)
 have HXZ := hid (⟨hx2, hx20⟩ : _ ∧ _); have HBZ := hid hbz
 have hc1 := hx2.1; have hl1 := hx2.2.2; have hcz := hz2.1; have hlz := hz2.2.2; have hc20 := hx20.1; have hl20 := hx20.2.2
 clear hx2 hx20 hz2
 by_cases hvk : 1 ≤ vk
 · by_cases hvt : vt = et
   · have hvtb : (vt == et) = true := beq_iff_eq.2 hvt
     have HF2 : Hid (R = ((sameFlat ⟨2, et, 0, 0, obj, ⟨vt, vk⟩, 0, none, 0, 0⟩ ⟨2, et, ses, lvl, obj, ⟨vt, vk⟩, pred, sa, sn, sc⟩ && decide ([] = scan)) && (toldB obj h.o.n && verB ⟨vt, vk⟩ h.t.n))) := hid (by rw [HF.out, decide_eq_true hvk, decide_eq_true hvt]; rfl)
     have hvkb : decide (vk < 1) = false := decide_eq_false (by omega)
     clear HF hvk hvt
     have HF := HF2
     clear HF2
     have HSM := hid (r_same_ev ⟨2, et, 0, 0, obj, ⟨vt, vk⟩, 0, none, 0, 0⟩ ⟨2, et, ses, lvl, obj, ⟨vt, vk⟩, pred, sa, sn, sc⟩ [] scan (w1.alloc (.cells (cellsEv ⟨2, et, 0, 0, obj, ⟨vt, vk⟩, 0, none, 0, 0⟩) 49)).drew Row.nil_ (HR.out.below hbz.drew rfl))
     clear hbz hc20 hl20
     go_wp2_with fail
     refine HSM.out.mono ?_
     rintro e w2 ⟨rfl, hb2⟩
     have HX2 := hid (⟨(HXZ.out.1.drew).keep hb2, (HXZ.out.2.drew).keep hb2⟩ : _ ∧ _)
     have HB2 := hid ((HBZ.out.drew).trans (hb2.mono HBZ.out.size))
     clear hb2 hcz hlz hc1 hl1
     cases hsm : (sameFlat ⟨2, et, 0, 0, obj, ⟨vt, vk⟩, 0, none, 0, 0⟩ ⟨2, et, ses, lvl, obj, ⟨vt, vk⟩, pred, sa, sn, sc⟩ && decide ([] = scan))
     · have HQ : Hid (R = false) := hid (by rw [HF.out, hsm]; simp)
       clear hsm
       go_wp2_with fail
       go_ret
       exact ⟨by rw [HQ.out]; rfl, HB2.out⟩
     have HSE := hid hsm
     clear hsm
     have hc1 := HX2.out.1.1; have hl1 := HX2.out.1.2.2; have hc0 := HX2.out.2.1; have hl0 := HX2.out.2.2.2
     go_wp2_with fail
     refine (r_Is obj h.o.n _).mono ?_
     rintro e w3 ⟨rfl, hb3⟩
     have HX3 := hid (⟨HX2.out.1.keep hb3, HX2.out.2.keep hb3⟩ : _ ∧ _)
     have HB3 := hid (HB2.out.trans (hb3.mono HB2.out.size))
     clear hb3 hc1 hl1 hc0 hl0
     cases hto : toldB obj h.o.n
     · have HQ : Hid (R = false) := hid (by rw [HF.out, hto]; simp)
       clear hto
       go_wp2_with fail
       go_ret
       exact ⟨by rw [HQ.out]; rfl, HB3.out⟩
     have HTO := hid hto
     clear hto
     have hc1 := HX3.out.1.1; have hl1 := HX3.out.1.2.2; have hc0 := HX3.out.2.1; have hl0 := HX3.out.2.2.2
     have HQ : Hid (R = verB ⟨vt, vk⟩ h.t.n) := hid (by rw [HF.out, HSE.out, HTO.out]; simp)
     go_wp2_with fail
     refine (r_Version ⟨vt, vk⟩ h.t.n _).mono ?_
     rintro e w4 ⟨rfl, hb4⟩
     have HB4 := hid (HB3.out.trans (hb4.mono HB3.out.size))
     clear hb4 hc1 hl1 hc0 hl0
     go_wp2_with fail
     go_ret
     exact ⟨by rw [HQ.out]; rfl, HB4.out⟩
   · have hvtb : (vt == et) = false := beq_eq_false_iff_ne.2 hvt
     have HQ : Hid (R = false) := hid (by rw [HF.out, decide_eq_false hvt]; simp)
     have hvkb : decide (vk < 1) = false := decide_eq_false (by omega)
     clear hbz hvt hvk
     go_wp2_with fail
     go_ret
     exact ⟨by rw [HQ.out]; rfl, HBZ.out.drew⟩
 · have HQ : Hid (R = false) := hid (by rw [HF.out, decide_eq_false hvk]; simp)
   have hvkb : decide (vk < 1) = true := decide_eq_true (by omega)
   clear hbz hvk
   go_wp2_with fail
   go_ret
   exact ⟨by rw [HQ.out]; rfl, HBZ.out.drew⟩

theorem r_event_4 (h : HC) (et ses lvl obj vt vk pred : Int) (sa : Option Addr) (sn sc : Nat) (scan : List Sn) (w : World) (hr : Row w 3 encSn sa sn sc scan) (ht : toldB et h.t.n = true) :
   Calls Tryz.prog 85 #[valH h, valEv ⟨4, et, ses, lvl, obj, ⟨vt, vk⟩, pred, sa, sn, sc⟩] w (Ret (.bool (evB h.t.n h.s.n h.o.n h.p.n ⟨4, et, ses, lvl, obj, ⟨vt, vk⟩, pred, sa, sn, sc⟩ scan)) w) := by
 obtain ⟨R, hR0⟩ : ∃ R : Bool, R = evB h.t.n h.s.n h.o.n h.p.n ⟨4, et, ses, lvl, obj, ⟨vt, vk⟩, pred, sa, sn, sc⟩ scan := ⟨_, rfl⟩
 rw [← hR0]
 have HR := hid hr; have HT := hid ht
 have HF : Hid (R = (scan.all (seenB h.t.n h.o.n) && ((sameFlat ⟨4, et, 0, 0, 0, ⟨0, 0⟩, pred, sa, sn, sc⟩ ⟨4, et, ses, lvl, obj, ⟨vt, vk⟩, pred, sa, sn, sc⟩ && decide (scan = scan)) && (toldB pred h.p.n && decide (scan.length ≤ 40))))) := hid (by rw [hR0]; simp [evB, hasB, bareB, sameFlat, HT.out, eq_comm (a := (0 : Int)), eq_comm (a := (⟨0, 0⟩ : Ver)), Bool.and_assoc]; try (cases toldB pred h.p.n <;> cases scan.all (seenB h.t.n h.o.n) <;> cases decide (scan.length ≤ 40) <;> simp))
 have hb2 := belowA (belowA (Below.refl w.heap.size w) (.cells (cellsH h) 28)) (.cells (cellsEv ⟨4, et, ses, lvl, obj, ⟨vt, vk⟩, pred, sa, sn, sc⟩) 49)
 have hx0 := (Bx.new w (cellsH h) 28).alloc (.cells (cellsEv ⟨4, et, ses, lvl, obj, ⟨vt, vk⟩, pred, sa, sn, sc⟩) 49)
 have hx1 : Bx ((w.alloc (.cells (cellsH h) 28)).alloc (.cells (cellsEv ⟨4, et, ses, lvl, obj, ⟨vt, vk⟩, pred, sa, sn, sc⟩) 49)) (w.heap.size + 1) (cellsEv ⟨4, et, ses, lvl, obj, ⟨vt, vk⟩, pred, sa, sn, sc⟩) := Bx.new1 (by simp)
 have HB := hid hb2; have HX := hid (⟨hx0, hx1⟩ : _ ∧ _)
 clear hR0 hr ht hb2 hx0 hx1
 go_enter Tryz.func85, Tryz.ntmps85
 go_wp2_with fail
 refine (r_Is et h.t.n _).mono ?_
 rintro e w1 ⟨rfl, hb1⟩
 rw [HT.out]
 have hx := keep2 HX.out hb1
 have HB1 := hid (HB.out.trans (hb1.mono HB.out.size))
 have HX1 := hid hx
 have hc0 := hx.1.1; have hl0 := hx.1.2.2; have hc1 := hx.2.1; have hl1 := hx.2.2.2
 clear hb1 hx
 go_wp2_with fail
 clear hc0 hl0 hc1 hl1
 refine wp_region_ord [(0, true), (1, true), (2, true), (3, true), (4, true), (5, false), (6, true), (7, false)] (fun W' => Bx W' (w.heap.size + 1) (cellsEv ⟨4, et, ses, lvl, obj, ⟨vt, vk⟩, pred, sa, sn, sc⟩)) (by kernel_rfl) (by kernel_rfl) (by intro d v c a w h; cases d <;> exact h) (HX1.out.2.alloc _) ?_
 repeat ((first | refine ord_skip rfl rfl ?_ | (refine ord_q rfl rfl ?_; apply Exists.intro; refine ⟨fun wS hS => ?_, ?_⟩; (go_simp; try with_reducible rfl))); simp only [Act.put, List.setIfInBounds_toArray, List.set_cons_zero, List.set_cons_succ])
 refine ord_l rfl rfl (fun K hK => ?_)
 go_simp
 refine hK _ _ (HX1.out.2.alloc _) ?_
 clear hK K
 repeat ((first | refine ord_skip rfl rfl ?_ | (refine ord_q rfl rfl ?_; apply Exists.intro; refine ⟨fun wS hS => ?_, ?_⟩; (go_simp; try with_reducible rfl))); simp only [Act.put, List.setIfInBounds_toArray, List.set_cons_zero, List.set_cons_succ])
 refine ord_l rfl rfl (fun K hK => ?_)
 go_simp
 refine hK _ _ (HX1.out.2.alloc _) ?_
 clear hK K
 refine ord_nil ?_
 have hx2 := HX1.out.2.alloc (.cells (cellsEv ⟨4, et, 0, 0, 0, ⟨0, 0⟩, pred, sa, sn, sc⟩) 49)
 have hx20 := HX1.out.1.alloc (.cells (cellsEv ⟨4, et, 0, 0, 0, ⟨0, 0⟩, pred, sa, sn, sc⟩) 49)
 have hz2 : Bx (w1.alloc (.cells (cellsEv ⟨4, et, 0, 0, 0, ⟨0, 0⟩, pred, sa, sn, sc⟩) 49)) w1.heap.size (cellsEv ⟨4, et, 0, 0, 0, ⟨0, 0⟩, pred, sa, sn, sc⟩) := Bx.new1 rfl
 have hbz := belowA HB1.out (.cells (cellsEv ⟨4, et, 0, 0, 0, ⟨0, 0⟩, pred, sa, sn, sc⟩) 49)
 have HXZ := hid (⟨hx2, hx20⟩ : _ ∧ _); have HBZ := hid hbz
 have hc1 := hx2.1; have hl1 := hx2.2.2; have hcz := hz2.1; have hlz := hz2.2.2; have hc20 := hx20.1; have hl20 := hx20.2.2
 clear hx2 hx20 hz2
 have hle := HR.out.le
 clear hbz
 go_wp2_with fail
 clear hc1 hl1 hcz hlz hc20 hl20
 have hz2 : Bx (w1.alloc (.cells (cellsEv ⟨4, et, 0, 0, 0, ⟨0, 0⟩, pred, sa, sn, sc⟩) 49)) w1.heap.size (cellsEv ⟨4, et, 0, 0, 0, ⟨0, 0⟩, pred, sa, sn, sc⟩) := Bx.new1 rfl
 have HZ2 := hid hz2
 clear hz2
 go_loopw [102] (fun i wr => ∃ k : Nat, k ≤ sn ∧ i = .int .i64 k ∧ (scan.take k).all (seenB h.t.n h.o.n) = true ∧ Below (w1.heap.size + 1) (w1.alloc (.cells (cellsEv ⟨4, et, 0, 0, 0, ⟨0, 0⟩, pred, sa, sn, sc⟩) 49)).drew wr) (fun i _ => sn - (RowKit.intOf i).toNat)
 case atStart => exact ⟨0, Nat.zero_le _, rfl, rfl, Below.refl _ _⟩
 case round =>
   obtain ⟨k, hk, rfl, hall, hb⟩ := hrel
   have hsz : ((w1.alloc (.cells (cellsEv ⟨4, et, 0, 0, 0, ⟨0, 0⟩, pred, sa, sn, sc⟩) 49)).drew).heap.size = w1.heap.size + 1 := by simp
   rw [← hsz] at hb
   have hbw := HBZ.out.drew.trans (hb.mono HBZ.out.size)
   have hx1 := (HXZ.out.1.drew).keep hb; have hx0 := (HXZ.out.2.drew).keep hb; have hxz := (HZ2.out.drew).keep hb
   have HXR := hid (⟨hx1, hx0, hxz⟩ : _ ∧ _ ∧ _)
   have hc1 := hx1.1; have hl1 := hx1.2.2; have hc0 := hx0.1; have hl0 := hx0.2.2; have hcz := hxz.1; have hlz := hxz.2.2
   have HBW := hid hbw
   by_cases hlt : k < sn
   · obtain ⟨q, qb, qo, hq, rfl, hqc⟩ := (HR.out.below hbw rfl).at_ hlt
     have hq0 := hqc 0 _ rfl; have hq1 := hqc 1 _ rfl; have hq2 := hqc 2 _ rfl
     simp only [Nat.add_zero] at hq0
     obtain ⟨qo_, ⟨qt, qk⟩⟩ := q
     have HQ0 := hid hq; have HALL := hid hall; have HBB := hid hb
     have hyx : Bx (wr.alloc (.cells #[.int .i64 qo_, .int .i64 qt, .int .i64 qk] 69)) wr.heap.size #[.int .i64 qo_, .int .i64 qt, .int .i64 qk] := Bx.new1 rfl
     have HYX := hid hyx
     have HYO := hid (hx0.alloc (.cells #[.int .i64 qo_, .int .i64 qt, .int .i64 qk] 69))
     clear hq hqc hall hb hbw hx1 hx0 hxz hyx hsz
     cases hto : toldB qo_ h.o.n
     · have HTO := hid hto
       have HQ : Hid (R = false) := hid (by
         rw [HF.out]
         have : scan.all (seenB h.t.n h.o.n) = false := by
           rw [← Bool.not_eq_true, List.all_eq_true]
           intro hh
           have := hh _ (List.mem_of_getElem? HQ0.out)
           simp [seenB, hto] at this
         rw [this, Bool.false_and])
       clear hto
       go_wp2_with (go_at_call 86; refine (r_Is qo_ h.o.n _).mono ?_; rintro e w3 ⟨rfl, hb3⟩; rw [HTO.out])
       go_ret
       exact ⟨by rw [HQ.out]; rfl, (belowA HBW.out _).trans (hb3.mono (by have := HBW.out.size; simp; omega))⟩
     · have HTO := hid hto
       clear hto
       cases hve : verB ⟨qt, qk⟩ h.t.n
       · have HVE := hid hve
         have HQ : Hid (R = false) := hid (by
           rw [HF.out]
           have : scan.all (seenB h.t.n h.o.n) = false := by
             rw [← Bool.not_eq_true, List.all_eq_true]
             intro hh
             have := hh _ (List.mem_of_getElem? HQ0.out)
             simp [seenB, hve] at this
           rw [this, Bool.false_and])
         clear hve
         go_wp2_with (first | (go_at_call 86; refine (r_Is qo_ h.o.n _).mono ?_; rintro e w3 ⟨rfl, hb3⟩; rw [HTO.out]; have hy3 := HYX.out.keep hb3; have hcy := hy3.1; have hly := hy3.2.2; have HB3 := hid ((belowA HBW.out _).trans (hb3.mono (by have := HBW.out.size; simp; omega))); clear hb3 hy3) | (go_at_call 118; refine (r_Version ⟨qt, qk⟩ h.t.n _).mono ?_; rintro e w4 ⟨rfl, hb4⟩; rw [HVE.out]))
         go_ret
         exact ⟨by rw [HQ.out]; rfl, HB3.out.trans (hb4.mono HB3.out.size)⟩
       · have HVE := hid hve
         clear hve
         go_wp2_with (first | (go_at_call 86; refine (r_Is qo_ h.o.n _).mono ?_; rintro e w3 ⟨rfl, hb3⟩; rw [HTO.out]; have hy3 := HYX.out.keep hb3; have hcy := hy3.1; have hly := hy3.2.2; have HB3 := hid ((belowA (Below.refl wr.heap.size wr) _).trans (hb3.mono (by simp))); clear hb3 hy3) | (go_at_call 118; refine (r_Version ⟨qt, qk⟩ h.t.n _).mono ?_; rintro e w4 ⟨rfl, hb4⟩; rw [HVE.out]))
         have HB4 := hid (HBB.out.trans ((HB3.out.trans (hb4.mono HB3.out.size)).mono HBB.out.size))
         clear hb4 hcy hly
         go_roundw
         case rel => exact ⟨k + 1, by omega, by go_num, by rw [List.take_add_one, HQ0.out, List.all_append, HALL.out]; simp [seenB, HTO.out, HVE.out], by simpa using HB4.out⟩
         case measure => simp [RowKit.intOf]; omega
   · obtain rfl : k = sn := by omega
     have htk : scan.take k = scan := List.take_of_length_le (by rw [HR.out.len]; exact Nat.le_refl _)
     rw [htk] at hall
     have HFF : Hid (R = (sameFlat ⟨4, et, 0, 0, 0, ⟨0, 0⟩, pred, sa, k, sc⟩ ⟨4, et, ses, lvl, obj, ⟨vt, vk⟩, pred, sa, k, sc⟩ && (toldB pred h.p.n && decide ((k : Int) ≤ 40)))) := hid (by rw [HF.out, hall, HR.out.len, show decide (k ≤ 40) = decide ((k : Int) ≤ 40) from decide_eq_decide.2 (by omega)]; simp [sameFlat])
     have HSM := hid (r_same_ev ⟨4, et, 0, 0, 0, ⟨0, 0⟩, pred, sa, k, sc⟩ ⟨4, et, ses, lvl, obj, ⟨vt, vk⟩, pred, sa, k, sc⟩ scan scan wr (HR.out.below hbw rfl) (HR.out.below hbw rfl))
     clear hall htk hb hbw hx1 hx0 hxz hsz
     go_wp2_with fail
     refine HSM.out.mono ?_
     rintro e w2 ⟨rfl, hb2⟩
     rw [show decide True = true from rfl, Bool.and_true]
     have HX2 := hid (⟨HXR.out.1.keep hb2, HXR.out.2.1.keep hb2⟩ : _ ∧ _)
     have HB2 := hid (HBW.out.trans (hb2.mono HBW.out.size))
     clear hb2 hcz hlz hc1 hl1 hc0 hl0
     have hc1 := HX2.out.1.1; have hl1 := HX2.out.1.2.2; have hc0 := HX2.out.2.1; have hl0 := HX2.out.2.2.2
     cases hsm : sameFlat ⟨4, et, 0, 0, 0, ⟨0, 0⟩, pred, sa, k, sc⟩ ⟨4, et, ses, lvl, obj, ⟨vt, vk⟩, pred, sa, k, sc⟩
     · have HQ : Hid (R = false) := hid (by rw [HFF.out, hsm]; simp)
       clear hsm
       go_wp2_with fail
       go_ret
       exact ⟨by rw [HQ.out]; rfl, HB2.out⟩
     · have HSE := hid hsm
       clear hsm
       cases hto : toldB pred h.p.n
       · have HQ : Hid (R = false) := hid (by rw [HFF.out, hto]; simp)
         have HTO := hid hto
         clear hto
         go_wp2_with (go_at_call 86; refine (r_Is pred h.p.n _).mono ?_; rintro e w3 ⟨rfl, hb3⟩; rw [HTO.out])
         go_ret
         exact ⟨by rw [HQ.out]; rfl, HB2.out.trans (hb3.mono HB2.out.size)⟩
       · have HQ : Hid (R = decide ((k : Int) ≤ 40)) := hid (by rw [HFF.out, HSE.out, hto]; simp)
         have HTO := hid hto
         clear hto
         go_wp2_with (go_at_call 86; refine (r_Is pred h.p.n _).mono ?_; rintro e w3 ⟨rfl, hb3⟩; rw [HTO.out]; have hx3 := HX2.out.1.keep hb3; have hc3 := hx3.1; have hl3 := hx3.2.2; have HB3 := hid (HB2.out.trans (hb3.mono HB2.out.size)); clear hb3 hx3)
         go_ret
         exact ⟨by rw [HQ.out]; rfl, HB3.out⟩

theorem r_event_x (h : HC) (et ses lvl obj vt vk pred ek : Int) (sa : Option Addr) (sn sc : Nat) (scan : List Sn) (w : World) (hr : Row w 3 encSn sa sn sc scan) (ht : toldB et h.t.n = true) (hk : ek ≠ 1 ∧ ek ≠ 2 ∧ ek ≠ 3 ∧ ek ≠ 4) :
   Calls Tryz.prog 85 #[valH h, valEv ⟨ek, et, ses, lvl, obj, ⟨vt, vk⟩, pred, sa, sn, sc⟩] w (Ret (.bool (evB h.t.n h.s.n h.o.n h.p.n ⟨ek, et, ses, lvl, obj, ⟨vt, vk⟩, pred, sa, sn, sc⟩ scan)) w) := by
 obtain ⟨R, hR0⟩ : ∃ R : Bool, R = evB h.t.n h.s.n h.o.n h.p.n ⟨ek, et, ses, lvl, obj, ⟨vt, vk⟩, pred, sa, sn, sc⟩ scan := ⟨_, rfl⟩
 rw [← hR0]
 have HR := hid hr; have HT := hid ht
 have HF : Hid (R = ((sameFlat ⟨ek, et, 0, 0, 0, ⟨0, 0⟩, 0, none, 0, 0⟩ ⟨ek, et, ses, lvl, obj, ⟨vt, vk⟩, pred, sa, sn, sc⟩ && decide ([] = scan)) && (decide (ek = 5) || decide (ek = 6)))) := hid (by rw [hR0]; have q1 : ¬ ek = 1 := hk.1; have q2 : ¬ ek = 2 := hk.2.1; have q3 : ¬ ek = 3 := hk.2.2.1; have q4 : ¬ ek = 4 := hk.2.2.2; have q5 : (decide (1 ≤ ek) && decide (ek < 7)) = (decide (ek = 5) || decide (ek = 6)) := (by rw [← Bool.decide_and, ← Bool.decide_or]; exact decide_eq_decide.2 (by omega)); simp only [evB]; rw [q5]; simp [hasB, bareB, sameFlat, q1, q2, q3, q4, HT.out, eq_comm (a := (0 : Int)), eq_comm (a := (⟨0, 0⟩ : Ver)), eq_comm (a := ([] : List Sn)), Bool.and_assoc]; try (cases (decide (ek = 5) || decide (ek = 6)) <;> simp))
 have hb2 := belowA (belowA (Below.refl w.heap.size w) (.cells (cellsH h) 28)) (.cells (cellsEv ⟨ek, et, ses, lvl, obj, ⟨vt, vk⟩, pred, sa, sn, sc⟩) 49)
 have hx0 := (Bx.new w (cellsH h) 28).alloc (.cells (cellsEv ⟨ek, et, ses, lvl, obj, ⟨vt, vk⟩, pred, sa, sn, sc⟩) 49)
 have hx1 : Bx ((w.alloc (.cells (cellsH h) 28)).alloc (.cells (cellsEv ⟨ek, et, ses, lvl, obj, ⟨vt, vk⟩, pred, sa, sn, sc⟩) 49)) (w.heap.size + 1) (cellsEv ⟨ek, et, ses, lvl, obj, ⟨vt, vk⟩, pred, sa, sn, sc⟩) := Bx.new1 (by simp)
 have HB := hid hb2; have HX := hid (⟨hx0, hx1⟩ : _ ∧ _)
 clear hR0 hr ht hb2 hx0 hx1
 have hn1 : (ek == 1) = false := beq_eq_false_iff_ne.2 hk.1; have hn2 : (ek == 2) = false := beq_eq_false_iff_ne.2 hk.2.1; have hn3 : (ek == 3) = false := beq_eq_false_iff_ne.2 hk.2.2.1; have hn4 : (ek == 4) = false := beq_eq_false_iff_ne.2 hk.2.2.2
 clear hk
 go_enter Tryz.func85, Tryz.ntmps85
 go_wp2_with fail
 refine (r_Is et h.t.n _).mono ?_
 rintro e w1 ⟨rfl, hb1⟩
 rw [HT.out]
 have hx := keep2 HX.out hb1
 have HB1 := hid (HB.out.trans (hb1.mono HB.out.size))
 have HX1 := hid hx
 have hc0 := hx.1.1; have hl0 := hx.1.2.2; have hc1 := hx.2.1; have hl1 := hx.2.2.2
 clear hb1 hx
 go_wp2_with fail
 have hx2 := HX1.out.2.alloc (.cells (cellsEv ⟨ek, et, 0, 0, 0, ⟨0, 0⟩, 0, none, 0, 0⟩) 49)
 have hbz := belowA HB1.out (.cells (cellsEv ⟨ek, et, 0, 0, 0, ⟨0, 0⟩, 0, none, 0, 0⟩) 49)
 refine (r_same_ev ⟨ek, et, 0, 0, 0, ⟨0, 0⟩, 0, none, 0, 0⟩ ⟨ek, et, ses, lvl, obj, ⟨vt, vk⟩, pred, sa, sn, sc⟩ [] scan (w1.alloc (.cells (cellsEv ⟨ek, et, 0, 0, 0, ⟨0, 0⟩, 0, none, 0, 0⟩) 49)) Row.nil_ (HR.out.below hbz rfl)).mono ?_
 rintro e w2 ⟨rfl, hb2⟩
 have hx3 := hx2.keep hb2
 have HB2 := hid (hbz.trans (hb2.mono hbz.size))
 have HX3 := hid hx3
 clear hb2 hx2 hbz hc0 hl0 hc1 hl1 hx3
 have hc1 := HX3.out.1; have hl1 := HX3.out.2.2
 cases hsm : (sameFlat ⟨ek, et, 0, 0, 0, ⟨0, 0⟩, 0, none, 0, 0⟩ ⟨ek, et, ses, lvl, obj, ⟨vt, vk⟩, pred, sa, sn, sc⟩ && decide ([] = scan))
 · have HQ : Hid (R = false) := hid (by rw [HF.out, hsm]; simp)
   clear hsm
   go_wp2_with fail
   go_ret
   exact ⟨by rw [HQ.out]; rfl, HB2.out⟩
 · by_cases h5 : ek = 5
   · have HQ : Hid (R = true) := hid (by rw [HF.out, hsm, h5]; rfl)
     have hb5 : (ek == 5) = true := beq_iff_eq.2 h5
     clear hsm h5
     go_wp2_with fail
     go_ret
     exact ⟨by rw [HQ.out]; rfl, HB2.out⟩
   · have hb5 : (ek == 5) = false := beq_eq_false_iff_ne.2 h5
     by_cases h6 : ek = 6
     · have HQ : Hid (R = true) := hid (by rw [HF.out, hsm, h6]; rfl)
       have hb6 : (ek == 6) = true := beq_iff_eq.2 h6
       clear hsm h5 h6
       go_wp2_with fail
       go_ret
       exact ⟨by rw [HQ.out]; rfl, HB2.out⟩
     · have HQ : Hid (R = false) := hid (by rw [HF.out, decide_eq_false h5, decide_eq_false h6]; simp)
       have hb6 : (ek == 6) = false := beq_eq_false_iff_ne.2 h6
       clear hsm h5 h6
       go_wp2_with fail
       go_ret
       exact ⟨by rw [HQ.out]; rfl, HB2.out⟩

theorem r_event (h : HC) (e : EvC) (scan : List Sn) (w : World) (hr : Row w 3 encSn e.sa e.sn e.sc scan) :
   Calls Tryz.prog 85 #[valH h, valEv e] w (Ret (.bool (evB h.t.n h.s.n h.o.n h.p.n e scan)) w) := by
 cases ht : toldB e.t h.t.n
 · have HQ : Hid (evB h.t.n h.s.n h.o.n h.p.n e scan = false) := hid (by simp [evB, ht])
   have HT := hid ht
   have hb2 := belowA (belowA (Below.refl w.heap.size w) (.cells (cellsH h) 28)) (.cells (cellsEv e) 49)
   have HB := hid hb2
   clear hr ht hb2
   go_enter Tryz.func85, Tryz.ntmps85
   go_wp2_with fail
   refine (r_Is e.t h.t.n _).mono ?_
   rintro en w1 ⟨rfl, hb1⟩
   rw [HT.out]
   have HB1 := hid (HB.out.trans (hb1.mono HB.out.size))
   clear hb1
   go_wp2_with fail
   go_ret
   exact ⟨by rw [HQ.out]; rfl, HB1.out⟩
 · obtain ⟨ek, et, ses, lvl, obj, ⟨vt, vk⟩, pred, sa, sn, sc⟩ := e
   by_cases h1 : ek = 1
   · subst h1; exact r_event_1 h et ses lvl obj vt vk pred sa sn sc scan w hr ht
   by_cases h2 : ek = 2
   · subst h2; exact r_event_2 h et ses lvl obj vt vk pred sa sn sc scan w hr ht
   by_cases h3 : ek = 3
   · subst h3; exact r_event_3 h et ses lvl obj vt vk pred sa sn sc scan w hr ht
   by_cases h4 : ek = 4
   · subst h4; exact r_event_4 h et ses lvl obj vt vk pred sa sn sc scan w hr ht
   exact r_event_x h et ses lvl obj vt vk pred ek sa sn sc scan w hr ht ⟨h1, h2, h3, h4⟩

end Yd


namespace Yd
open Go Go.RowKit Go.Proofs
attribute [local go_sem] Oper.semAt_some

section
variable {h : HC} {nl : Nat → List Bs} {es : List EvC} {ds : List OrC} {ms : List MaC} {qs : List Wa} {scan : EvC → List Sn} {dn : OrC → List Int} {mn : MaC → List Int}
theorem all_no {α : Type} {xs : List α} {p : α → Bool} {k : Nat} {x : α} (hx : xs[k]? = some x) (hp : p x = false) : xs.all p = false := by
 rw [← Bool.not_eq_true, List.all_eq_true]
 intro hh
 have := hh x (List.mem_of_getElem? hx)
 rw [hp] at this; cases this
theorem all_step {α : Type} {xs : List α} {p : α → Bool} {k : Nat} {x : α} (h : (xs.take k).all p = true) (hx : xs[k]? = some x) (hp : p x = true) : (xs.take (k + 1)).all p = true := by
 rw [List.take_add_one, hx, List.all_append, h]; simp [hp]
theorem sh_names {i : Nat} (hi : i < 4) (hf : listB nl i = false) : shapedB h nl es ds ms qs scan dn mn = false := by
 have : (List.range 4).all (listB nl) = false := all_no (k := i) (x := i) (by simp [hi]) hf
 simp [shapedB, namesB, this]
theorem sh_ev (hf : es.all (fun e => evB h.t.n h.s.n h.o.n h.p.n e (scan e)) = false) : shapedB h nl es ds ms qs scan dn mn = false := by unfold shapedB; rw [hf]; simp
theorem sh_or (hf : ds.all (ordB h dn) = false) : shapedB h nl es ds ms qs scan dn mn = false := by unfold shapedB; rw [hf]; simp
theorem sh_ma (hf : ms.all (matB h mn) = false) : shapedB h nl es ds ms qs scan dn mn = false := by unfold shapedB; rw [hf]; simp
theorem sh_wa (hf : qs.all (wantB h) = false) : shapedB h nl es ds ms qs scan dn mn = false := by unfold shapedB; rw [hf]; simp
theorem many_eq : manyB h = (decide ((h.e.n : Int) ≤ 3000) && (decide ((h.d.n : Int) ≤ 3000) && (decide ((h.m.n : Int) ≤ 3000) && decide ((h.w.n : Int) ≤ 3000)))) := by
 unfold manyB
 rw [← Bool.decide_and, ← Bool.decide_and, ← Bool.decide_and, ← Bool.decide_and]
 refine decide_eq_decide.2 ?_
 split <;> split <;> omega
theorem sh_all (h0 : listB nl 0 = true) (h1 : listB nl 1 = true) (h2 : listB nl 2 = true) (h3 : listB nl 3 = true) (he : es.all (fun e => evB h.t.n h.s.n h.o.n h.p.n e (scan e)) = true) (hd : ds.all (ordB h dn) = true) (hm : ms.all (matB h mn) = true) (hw : qs.all (wantB h) = true) :
   shapedB h nl es ds ms qs scan dn mn = manyB h := by
 have : (List.range 4).all (listB nl) = true := by
   rw [List.all_eq_true]
   intro i hi
   have : i < 4 := by simpa using hi
   match i, this with
   | 0, _ => exact h0
   | 1, _ => exact h1
   | 2, _ => exact h2
   | 3, _ => exact h3
 unfold shapedB namesB
 rw [this, he, hd, hm, hw]; simp
theorem want_eq (x : Wa) : wantB h x = (toldB x.ses h.s.n && toldB x.bits 16) := by
 unfold wantB
 rw [Bool.and_assoc]
 congr 1
 unfold toldB
 rw [← Bool.decide_and, ← Bool.decide_and]
 exact decide_eq_decide.2 (by omega)
end
theorem r_Shaped (h : HC) (nl : Nat → List Bs) (es : List EvC) (ds : List OrC) (ms : List MaC) (qs : List Wa) (scan : EvC → List Sn) (dn : OrC → List Int) (mn : MaC → List Int) (w : World)
   (hn : ∀ i, i < 4 → Row w 1 encStr (h.nm i).a (h.nm i).n (h.nm i).c (nl i)) (hd : Deep w h es ds ms qs scan dn mn) :
   Calls Tryz.prog 47 #[valH h] w (Ret (.bool (shapedB h nl es ds ms qs scan dn mn)) w) := by
 obtain ⟨R, hR⟩ : ∃ R : Bool, R = shapedB h nl es ds ms qs scan dn mn := ⟨_, rfl⟩
 rw [← hR]
 have HF := hid hR; have HN := hid hn; have HD := hid hd
 have HB0 := hid (belowA (Below.refl w.heap.size w) (.cells (cellsH h) 28))
 have HX00 := hid (Bx.new w (cellsH h) 28)
 have hle := hd.1.le; have hld := hd.2.1.le; have hlm := hd.2.2.1.le; have hlw := hd.2.2.2.1.le
 have hlim : Hid (∀ i, i < 4 → ∀ m : Nat, limH i = m → (nameB (nl i) && decide ((nl i).length ≤ m)) = listB nl i) := hid (fun i hi m hm => by
   unfold listB
   rw [hm, Bool.and_comm]
   congr 1
   exact decide_eq_decide.2 (by omega))
 clear hR hn hd
 obtain ⟨ht, hs, ho, hp, ⟨ea, en, ec⟩, ⟨da, dn_, dc⟩, ⟨ma, mn_, mc⟩, ⟨wa, wn, wc⟩⟩ := h
 simp only at hle hld hlm hlw
 have HX0 : Hid (Bx (w.alloc (.cells #[ht.v, hs.v, ho.v, hp.v, .slice ea en ec, .slice da dn_ dc, .slice ma mn_ mc, .slice wa wn wc] 28)) w.heap.size #[ht.v, hs.v, ho.v, hp.v, .slice ea en ec, .slice da dn_ dc, .slice ma mn_ mc, .slice wa wn wc]) := hid HX00.out
 go_enter Tryz.func47, Tryz.ntmps47
 have hx0 := HX0.out
 have hc0 := hx0.1; have hl0 := hx0.2.2
 go_wp2_with fail
 refine (r_Names ht.a ht.n ht.c (nl 0) 300 _ ((HN.out 0 (by decide)).below HB0.out rfl)).mono ?_
 rintro e w1 ⟨rfl, hb1⟩
 rw [hlim.out 0 (by decide) 300 rfl]
 have HX1 := hid (HX0.out.keep hb1)
 have HB1 := hid (HB0.out.trans (hb1.mono HB0.out.size))
 clear hb1 hx0 hc0 hl0
 cases hv0 : listB nl 0
 · have HQ : Hid (R = false) := hid (by rw [HF.out, sh_names (i := 0) (by decide) hv0])
   clear hv0
   go_wp2_with fail
   go_ret
   exact ⟨by rw [HQ.out]; rfl, HB1.out⟩
 have HV0 := hid hv0
 clear hv0
 have hx0 := HX1.out
 have hc0 := hx0.1; have hl0 := hx0.2.2
 go_wp2_with fail
 refine (r_Names hs.a hs.n hs.c (nl 1) 60 _ ((HN.out 1 (by decide)).below HB1.out rfl)).mono ?_
 rintro e w2 ⟨rfl, hb2⟩
 rw [hlim.out 1 (by decide) 60 rfl]
 have HX2 := hid (HX1.out.keep hb2)
 have HB2 := hid (HB1.out.trans (hb2.mono HB1.out.size))
 clear hb2 hx0 hc0 hl0
 cases hv1 : listB nl 1
 · have HQ : Hid (R = false) := hid (by rw [HF.out, sh_names (i := 1) (by decide) hv1])
   clear hv1
   go_wp2_with fail
   go_ret
   exact ⟨by rw [HQ.out]; rfl, HB2.out⟩
 have HV1 := hid hv1
 clear hv1
 have hx0 := HX2.out
 have hc0 := hx0.1; have hl0 := hx0.2.2
 go_wp2_with fail
 refine (r_Names ho.a ho.n ho.c (nl 2) 300 _ ((HN.out 2 (by decide)).below HB2.out rfl)).mono ?_
 rintro e w3 ⟨rfl, hb3⟩
 rw [hlim.out 2 (by decide) 300 rfl]
 have HX3 := hid (HX2.out.keep hb3)
 have HB3 := hid (HB2.out.trans (hb3.mono HB2.out.size))
 clear hb3 hx0 hc0 hl0
 cases hv2 : listB nl 2
 · have HQ : Hid (R = false) := hid (by rw [HF.out, sh_names (i := 2) (by decide) hv2])
   clear hv2
   go_wp2_with fail
   go_ret
   exact ⟨by rw [HQ.out]; rfl, HB3.out⟩
 have HV2 := hid hv2
 clear hv2
 have hx0 := HX3.out
 have hc0 := hx0.1; have hl0 := hx0.2.2
 go_wp2_with fail
 refine (r_Names hp.a hp.n hp.c (nl 3) 60 _ ((HN.out 3 (by decide)).below HB3.out rfl)).mono ?_
 rintro e w4 ⟨rfl, hb4⟩
 rw [hlim.out 3 (by decide) 60 rfl]
 have HX4 := hid (HX3.out.keep hb4)
 have HB4 := hid (HB3.out.trans (hb4.mono HB3.out.size))
 clear hb4 hx0 hc0 hl0
 cases hv3 : listB nl 3
 · have HQ : Hid (R = false) := hid (by rw [HF.out, sh_names (i := 3) (by decide) hv3])
   clear hv3
   go_wp2_with fail
   go_ret
   exact ⟨by rw [HQ.out]; rfl, HB4.out⟩
 have HV3 := hid hv3
 clear hv3
 have hx0 := HX4.out
 have hc0 := hx0.1; have hl0 := hx0.2.2
 go_wp2_with fail
 clear hc0 hl0
 have HXW := HX4; have HBW := HB4
 go_loopw [36] (fun i wr => ∃ k : Nat, k ≤ en ∧ i = .int .i64 k ∧ (es.take k).all (fun e => evB ht.n hs.n ho.n hp.n e (scan e)) = true ∧ Below w.heap.size w wr ∧ Bx wr w.heap.size #[ht.v, hs.v, ho.v, hp.v, .slice ea en ec, .slice da dn_ dc, .slice ma mn_ mc, .slice wa wn wc]) (fun i _ => en - (RowKit.intOf i).toNat)
 case atStart => exact ⟨0, Nat.zero_le _, rfl, rfl, HBW.out, HXW.out⟩
 case round =>
   clear HBW HXW
   obtain ⟨k, hk, rfl, hall, hbw, hxw⟩ := hrel
   have HBW := hid hbw; have HXW := hid hxw; have HALL := hid hall
   clear hbw hxw hall
   by_cases hlt : k < en
   · obtain ⟨x, b, o, hx, rfl, hc⟩ := (HD.out.1.below HBW.out rfl).at_ hlt
     have e0 := hc 0 _ rfl
     have e1 := hc 1 _ rfl
     have e2 := hc 2 _ rfl
     have e3 := hc 3 _ rfl
     have e4 := hc 4 _ rfl
     have e5 := hc 5 _ rfl
     have e6 := hc 6 _ rfl
     have e7 := hc 7 _ rfl
     have e8 := hc 8 _ rfl
     simp only [Nat.add_zero] at e0
     have HXK := hid hx
     have HE0 := hid (⟨(Bx.new1 rfl : Bx (wr.alloc (.cells #[.int .i64 x.kind, .int .i64 x.t, .int .i64 x.ses, .int .i64 x.lvl, .int .i64 x.obj, .int .i64 x.v.t, .int .i64 x.v.k, .int .i64 x.pred, .slice x.sa x.sn x.sc] 49)) wr.heap.size #[.int .i64 x.kind, .int .i64 x.t, .int .i64 x.ses, .int .i64 x.lvl, .int .i64 x.obj, .int .i64 x.v.t, .int .i64 x.v.k, .int .i64 x.pred, .slice x.sa x.sn x.sc]), HXW.out.alloc (.cells #[.int .i64 x.kind, .int .i64 x.t, .int .i64 x.ses, .int .i64 x.lvl, .int .i64 x.obj, .int .i64 x.v.t, .int .i64 x.v.k, .int .i64 x.pred, .slice x.sa x.sn x.sc] 49)⟩ : _ ∧ _)
     have HC0 := hid (belowA HBW.out (.cells #[.int .i64 x.kind, .int .i64 x.t, .int .i64 x.ses, .int .i64 x.lvl, .int .i64 x.obj, .int .i64 x.v.t, .int .i64 x.v.k, .int .i64 x.pred, .slice x.sa x.sn x.sc] 49))
     have hc0 := HE0.out.2.1; have hl0 := HE0.out.2.2.2
     clear hc hx
     go_wp2_with fail
     refine (r_event ⟨ht, hs, ho, hp, ⟨some ⟨b, o, none⟩, en, ec⟩, ⟨da, dn_, dc⟩, ⟨ma, mn_, mc⟩, ⟨wa, wn, wc⟩⟩ x (scan x) _ ((HD.out.2.2.2.2.1 x (List.mem_of_getElem? HXK.out)).below HC0.out rfl)).mono ?_
     rintro e v1 ⟨rfl, hb1⟩
     have HE1 := hid (keep2 HE0.out hb1)
     have HC1 := hid (HC0.out.trans (hb1.mono HC0.out.size))
     clear hb1 hc0 hl0 e0 e1 e2 e3 e4 e5 e6 e7 e8
     cases hv : evB ht.n hs.n ho.n hp.n x (scan x)
     · have HQ : Hid (R = false) := hid (by rw [HF.out]; exact sh_ev (all_no HXK.out (by exact hv)))
       clear hv
       go_wp2_with fail
       go_ret
       exact ⟨by rw [HQ.out]; rfl, HC1.out⟩
     have HW1 := hid hv
     clear hv
     have hcx := HE1.out.1.1; have hlx := HE1.out.1.2.2; have hc0 := HE1.out.2.1; have hl0 := HE1.out.2.2.2
     clear hcx hlx hc0 hl0
     go_wp2_with fail
     go_roundw
     case rel => exact ⟨k + 1, by omega, by go_num, all_step HALL.out HXK.out (by exact HW1.out), HC1.out, HE1.out.2⟩
     case measure => simp [RowKit.intOf]; omega
   · obtain rfl : en = k := by omega
     have HT1 := hid (show es.all (fun e => evB ht.n hs.n ho.n hp.n e (scan e)) = true from by have := HALL.out; rwa [List.take_of_length_le (by rw [HD.out.1.len]; exact Nat.le_refl _)] at this)
     have hc0 := HXW.out.1; have hl0 := HXW.out.2.2
     go_wp2_with fail
     clear hc0 hl0
     go_loopw [48] (fun i wr => ∃ k : Nat, k ≤ dn_ ∧ i = .int .i64 k ∧ (ds.take k).all (ordB ⟨ht, hs, ho, hp, ⟨ea, en, ec⟩, ⟨da, dn_, dc⟩, ⟨ma, mn_, mc⟩, ⟨wa, wn, wc⟩⟩ dn) = true ∧ Below w.heap.size w wr ∧ Bx wr w.heap.size #[ht.v, hs.v, ho.v, hp.v, .slice ea en ec, .slice da dn_ dc, .slice ma mn_ mc, .slice wa wn wc]) (fun i _ => dn_ - (RowKit.intOf i).toNat)
     case atStart => exact ⟨0, Nat.zero_le _, rfl, rfl, HBW.out, HXW.out⟩
     case round =>
       clear HBW HXW
       obtain ⟨k, hk, rfl, hall, hbw, hxw⟩ := hrel
       have HBW := hid hbw; have HXW := hid hxw; have HALL := hid hall
       clear hbw hxw hall
       by_cases hlt : k < dn_
       · obtain ⟨x, b, o, hx, rfl, hc⟩ := (HD.out.2.1.below HBW.out rfl).at_ hlt
         have e0 := hc 0 _ rfl
         have e1 := hc 1 _ rfl
         simp only [Nat.add_zero] at e0
         have HXK := hid hx
         have HE0 := hid (⟨(Bx.new1 rfl : Bx (wr.alloc (.cells #[.int .i64 x.obj, .slice x.sa x.sn x.sc] 72)) wr.heap.size #[.int .i64 x.obj, .slice x.sa x.sn x.sc]), HXW.out.alloc (.cells #[.int .i64 x.obj, .slice x.sa x.sn x.sc] 72)⟩ : _ ∧ _)
         have HC0 := hid (belowA HBW.out (.cells #[.int .i64 x.obj, .slice x.sa x.sn x.sc] 72))
         have hc0 := HE0.out.2.1; have hl0 := HE0.out.2.2.2
         clear hc hx
         go_wp2_with fail
         refine (r_Is x.obj ho.n _).mono ?_
         rintro e v1 ⟨rfl, hb1⟩
         have HE1 := hid (keep2 HE0.out hb1)
         have HC1 := hid (HC0.out.trans (hb1.mono HC0.out.size))
         clear hb1 hc0 hl0 e0 e1
         cases hv : toldB x.obj ho.n
         · have HQ : Hid (R = false) := hid (by rw [HF.out]; exact sh_or (all_no HXK.out (by unfold ordB; simp only [hv, Bool.false_and])))
           clear hv
           go_wp2_with fail
           go_ret
           exact ⟨by rw [HQ.out]; rfl, HC1.out⟩
         have HW1 := hid hv
         clear hv
         have hcx := HE1.out.1.1; have hlx := HE1.out.1.2.2; have hc0 := HE1.out.2.1; have hl0 := HE1.out.2.2.2
         go_wp2_with fail
         refine (r_Ts ⟨ht, hs, ho, hp, ⟨ea, en, ec⟩, ⟨some ⟨b, o, none⟩, dn_, dc⟩, ⟨ma, mn_, mc⟩, ⟨wa, wn, wc⟩⟩ x.sa x.sn x.sc (dn x) _ ((HD.out.2.2.2.2.2.1 x (List.mem_of_getElem? HXK.out)).below HC1.out rfl)).mono ?_
         rintro e v2 ⟨rfl, hb2⟩
         have HE2 := hid (keep2 HE1.out hb2)
         have HC2 := hid (HC1.out.trans (hb2.mono HC1.out.size))
         clear hb2 hc0 hl0 hcx hlx
         cases hv : allowB ht.n (dn x)
         · have HQ : Hid (R = false) := hid (by rw [HF.out]; exact sh_or (all_no HXK.out (by unfold ordB; simp only [hv, Bool.and_false])))
           clear hv
           go_wp2_with fail
           go_ret
           exact ⟨by rw [HQ.out]; rfl, HC2.out⟩
         have HW2 := hid hv
         clear hv
         have hcx := HE2.out.1.1; have hlx := HE2.out.1.2.2; have hc0 := HE2.out.2.1; have hl0 := HE2.out.2.2.2
         clear hcx hlx hc0 hl0
         go_wp2_with fail
         go_roundw
         case rel => exact ⟨k + 1, by omega, by go_num, all_step HALL.out HXK.out (by unfold ordB; simp only [HW1.out, HW2.out, Bool.and_self]), HC2.out, HE2.out.2⟩
         case measure => simp [RowKit.intOf]; omega
       · obtain rfl : dn_ = k := by omega
         have HT21 := hid (show ds.all (ordB ⟨ht, hs, ho, hp, ⟨ea, en, ec⟩, ⟨da, dn_, dc⟩, ⟨ma, mn_, mc⟩, ⟨wa, wn, wc⟩⟩ dn) = true from by have := HALL.out; rwa [List.take_of_length_le (by rw [HD.out.2.1.len]; exact Nat.le_refl _)] at this)
         have hc0 := HXW.out.1; have hl0 := HXW.out.2.2
         go_wp2_with fail
         clear hc0 hl0
         go_loopw [70] (fun i wr => ∃ k : Nat, k ≤ mn_ ∧ i = .int .i64 k ∧ (ms.take k).all (matB ⟨ht, hs, ho, hp, ⟨ea, en, ec⟩, ⟨da, dn_, dc⟩, ⟨ma, mn_, mc⟩, ⟨wa, wn, wc⟩⟩ mn) = true ∧ Below w.heap.size w wr ∧ Bx wr w.heap.size #[ht.v, hs.v, ho.v, hp.v, .slice ea en ec, .slice da dn_ dc, .slice ma mn_ mc, .slice wa wn wc]) (fun i _ => mn_ - (RowKit.intOf i).toNat)
         case atStart => exact ⟨0, Nat.zero_le _, rfl, rfl, HBW.out, HXW.out⟩
         case round =>
           clear HBW HXW
           obtain ⟨k, hk, rfl, hall, hbw, hxw⟩ := hrel
           have HBW := hid hbw; have HXW := hid hxw; have HALL := hid hall
           clear hbw hxw hall
           by_cases hlt : k < mn_
           · obtain ⟨x, b, o, hx, rfl, hc⟩ := (HD.out.2.2.1.below HBW.out rfl).at_ hlt
             have e0 := hc 0 _ rfl
             have e1 := hc 1 _ rfl
             have e2 := hc 2 _ rfl
             have e3 := hc 3 _ rfl
             simp only [Nat.add_zero] at e0
             have HXK := hid hx
             have HE0 := hid (⟨(Bx.new1 rfl : Bx (wr.alloc (.cells #[.int .i64 x.pred, .int .i64 x.obj, .bool x.first, .slice x.sa x.sn x.sc] 79)) wr.heap.size #[.int .i64 x.pred, .int .i64 x.obj, .bool x.first, .slice x.sa x.sn x.sc]), HXW.out.alloc (.cells #[.int .i64 x.pred, .int .i64 x.obj, .bool x.first, .slice x.sa x.sn x.sc] 79)⟩ : _ ∧ _)
             have HC0 := hid (belowA HBW.out (.cells #[.int .i64 x.pred, .int .i64 x.obj, .bool x.first, .slice x.sa x.sn x.sc] 79))
             have hc0 := HE0.out.2.1; have hl0 := HE0.out.2.2.2
             clear hc hx
             go_wp2_with fail
             refine (r_Is x.pred hp.n _).mono ?_
             rintro e v1 ⟨rfl, hb1⟩
             have HE1 := hid (keep2 HE0.out hb1)
             have HC1 := hid (HC0.out.trans (hb1.mono HC0.out.size))
             clear hb1 hc0 hl0 e0 e1 e2 e3
             cases hv : toldB x.pred hp.n
             · have HQ : Hid (R = false) := hid (by rw [HF.out]; exact sh_ma (all_no HXK.out (by unfold matB; simp only [hv, Bool.false_and])))
               clear hv
               go_wp2_with fail
               go_ret
               exact ⟨by rw [HQ.out]; rfl, HC1.out⟩
             have HW1 := hid hv
             clear hv
             have hcx := HE1.out.1.1; have hlx := HE1.out.1.2.2; have hc0 := HE1.out.2.1; have hl0 := HE1.out.2.2.2
             go_wp2_with fail
             refine (r_Is x.obj ho.n _).mono ?_
             rintro e v2 ⟨rfl, hb2⟩
             have HE2 := hid (keep2 HE1.out hb2)
             have HC2 := hid (HC1.out.trans (hb2.mono HC1.out.size))
             clear hb2 hc0 hl0 hcx hlx
             cases hv : toldB x.obj ho.n
             · have HQ : Hid (R = false) := hid (by rw [HF.out]; exact sh_ma (all_no HXK.out (by unfold matB; simp only [hv, Bool.and_false, Bool.false_and])))
               clear hv
               go_wp2_with fail
               go_ret
               exact ⟨by rw [HQ.out]; rfl, HC2.out⟩
             have HW2 := hid hv
             clear hv
             have hcx := HE2.out.1.1; have hlx := HE2.out.1.2.2; have hc0 := HE2.out.2.1; have hl0 := HE2.out.2.2.2
             go_wp2_with fail
             refine (r_Ts ⟨ht, hs, ho, hp, ⟨ea, en, ec⟩, ⟨da, dn_, dc⟩, ⟨some ⟨b, o, none⟩, mn_, mc⟩, ⟨wa, wn, wc⟩⟩ x.sa x.sn x.sc (mn x) _ ((HD.out.2.2.2.2.2.2 x (List.mem_of_getElem? HXK.out)).below HC2.out rfl)).mono ?_
             rintro e v3 ⟨rfl, hb3⟩
             have HE3 := hid (keep2 HE2.out hb3)
             have HC3 := hid (HC2.out.trans (hb3.mono HC2.out.size))
             clear hb3 hc0 hl0 hcx hlx
             cases hv : allowB ht.n (mn x)
             · have HQ : Hid (R = false) := hid (by rw [HF.out]; exact sh_ma (all_no HXK.out (by unfold matB; simp only [hv, Bool.and_false])))
               clear hv
               go_wp2_with fail
               go_ret
               exact ⟨by rw [HQ.out]; rfl, HC3.out⟩
             have HW3 := hid hv
             clear hv
             have hcx := HE3.out.1.1; have hlx := HE3.out.1.2.2; have hc0 := HE3.out.2.1; have hl0 := HE3.out.2.2.2
             clear hcx hlx hc0 hl0
             go_wp2_with fail
             go_roundw
             case rel => exact ⟨k + 1, by omega, by go_num, all_step HALL.out HXK.out (by unfold matB; simp only [HW1.out, HW2.out, HW3.out, Bool.and_self]), HC3.out, HE3.out.2⟩
             case measure => simp [RowKit.intOf]; omega
           · obtain rfl : mn_ = k := by omega
             have HT221 := hid (show ms.all (matB ⟨ht, hs, ho, hp, ⟨ea, en, ec⟩, ⟨da, dn_, dc⟩, ⟨ma, mn_, mc⟩, ⟨wa, wn, wc⟩⟩ mn) = true from by have := HALL.out; rwa [List.take_of_length_le (by rw [HD.out.2.2.1.len]; exact Nat.le_refl _)] at this)
             have hc0 := HXW.out.1; have hl0 := HXW.out.2.2
             go_wp2_with fail
             clear hc0 hl0
             go_loopw [101] (fun i wr => ∃ k : Nat, k ≤ wn ∧ i = .int .i64 k ∧ (qs.take k).all (wantB ⟨ht, hs, ho, hp, ⟨ea, en, ec⟩, ⟨da, dn_, dc⟩, ⟨ma, mn_, mc⟩, ⟨wa, wn, wc⟩⟩) = true ∧ Below w.heap.size w wr ∧ Bx wr w.heap.size #[ht.v, hs.v, ho.v, hp.v, .slice ea en ec, .slice da dn_ dc, .slice ma mn_ mc, .slice wa wn wc]) (fun i _ => wn - (RowKit.intOf i).toNat)
             case atStart => exact ⟨0, Nat.zero_le _, rfl, rfl, HBW.out, HXW.out⟩
             case round =>
               clear HBW HXW
               obtain ⟨k, hk, rfl, hall, hbw, hxw⟩ := hrel
               have HBW := hid hbw; have HXW := hid hxw; have HALL := hid hall
               clear hbw hxw hall
               by_cases hlt : k < wn
               · obtain ⟨x, b, o, hx, rfl, hc⟩ := (HD.out.2.2.2.1.below HBW.out rfl).at_ hlt
                 have e0 := hc 0 _ rfl
                 have e1 := hc 1 _ rfl
                 simp only [Nat.add_zero] at e0
                 have HXK := hid hx
                 have HE0 := hid (⟨(Bx.new1 rfl : Bx (wr.alloc (.cells #[.int .i64 x.ses, .int .i64 x.bits] 82)) wr.heap.size #[.int .i64 x.ses, .int .i64 x.bits]), HXW.out.alloc (.cells #[.int .i64 x.ses, .int .i64 x.bits] 82)⟩ : _ ∧ _)
                 have HC0 := hid (belowA HBW.out (.cells #[.int .i64 x.ses, .int .i64 x.bits] 82))
                 have hc0 := HE0.out.2.1; have hl0 := HE0.out.2.2.2
                 clear hc hx
                 go_wp2_with fail
                 refine (r_Is x.ses hs.n _).mono ?_
                 rintro e v1 ⟨rfl, hb1⟩
                 have HE1 := hid (keep2 HE0.out hb1)
                 have HC1 := hid (HC0.out.trans (hb1.mono HC0.out.size))
                 clear hb1 hc0 hl0 e0 e1
                 cases hv : toldB x.ses hs.n
                 · have HQ : Hid (R = false) := hid (by rw [HF.out]; exact sh_wa (all_no HXK.out (by rw [want_eq]; simp only [hv, Bool.false_and])))
                   clear hv
                   go_wp2_with fail
                   go_ret
                   exact ⟨by rw [HQ.out]; rfl, HC1.out⟩
                 have HW1 := hid hv
                 clear hv
                 have hcx := HE1.out.1.1; have hlx := HE1.out.1.2.2; have hc0 := HE1.out.2.1; have hl0 := HE1.out.2.2.2
                 go_wp2_with fail
                 refine (r_Is x.bits 16 _).mono ?_
                 rintro e v2 ⟨rfl, hb2⟩
                 have HE2 := hid (keep2 HE1.out hb2)
                 have HC2 := hid (HC1.out.trans (hb2.mono HC1.out.size))
                 clear hb2 hc0 hl0 hcx hlx
                 cases hv : toldB x.bits 16
                 · have HQ : Hid (R = false) := hid (by rw [HF.out]; exact sh_wa (all_no HXK.out (by rw [want_eq, hv, Bool.and_false])))
                   clear hv
                   go_wp2_with fail
                   go_ret
                   exact ⟨by rw [HQ.out]; rfl, HC2.out⟩
                 have HW2 := hid hv
                 clear hv
                 have hcx := HE2.out.1.1; have hlx := HE2.out.1.2.2; have hc0 := HE2.out.2.1; have hl0 := HE2.out.2.2.2
                 clear hcx hlx hc0 hl0
                 go_wp2_with fail
                 go_roundw
                 case rel => exact ⟨k + 1, by omega, by go_num, all_step HALL.out HXK.out (by rw [want_eq, HW2.out, Bool.and_true]; exact HW1.out), HC2.out, HE2.out.2⟩
                 case measure => simp [RowKit.intOf]; omega
               · obtain rfl : wn = k := by omega
                 have HT2221 := hid (show qs.all (wantB ⟨ht, hs, ho, hp, ⟨ea, en, ec⟩, ⟨da, dn_, dc⟩, ⟨ma, mn_, mc⟩, ⟨wa, wn, wc⟩⟩) = true from by have := HALL.out; rwa [List.take_of_length_le (by rw [HD.out.2.2.2.1.len]; exact Nat.le_refl _)] at this)
                 have hc0 := HXW.out.1; have hl0 := HXW.out.2.2
                 have HQ : Hid (R = (decide ((en : Int) ≤ 3000) && (decide ((dn_ : Int) ≤ 3000) && (decide ((mn_ : Int) ≤ 3000) && decide ((wn : Int) ≤ 3000))))) := hid (by rw [HF.out, sh_all HV0.out HV1.out HV2.out HV3.out HT1.out HT21.out HT221.out HT2221.out, many_eq])
                 rcases hg0 : decide ((en : Int) ≤ 3000) with _ | _
                 · have HQ2 : Hid (R = false) := hid (by rw [HQ.out, hg0]; simp)
                   go_wp2_with fail
                   go_ret
                   exact ⟨by rw [HQ2.out]; rfl, HBW.out⟩
                 rcases hg1 : decide ((dn_ : Int) ≤ 3000) with _ | _
                 · have HQ2 : Hid (R = false) := hid (by rw [HQ.out, hg0, hg1]; simp)
                   go_wp2_with fail
                   go_ret
                   exact ⟨by rw [HQ2.out]; rfl, HBW.out⟩
                 rcases hg2 : decide ((mn_ : Int) ≤ 3000) with _ | _
                 · have HQ2 : Hid (R = false) := hid (by rw [HQ.out, hg0, hg1, hg2]; simp)
                   go_wp2_with fail
                   go_ret
                   exact ⟨by rw [HQ2.out]; rfl, HBW.out⟩
                 have HQ2 : Hid (R = decide ((wn : Int) ≤ 3000)) := hid (by rw [HQ.out, hg0, hg1, hg2]; simp)
                 go_wp2_with fail
                 go_ret
                 exact ⟨by rw [HQ2.out]; rfl, HBW.out⟩
end Yd
