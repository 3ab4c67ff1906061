import Derived.Test.YthdpangjphphjaaGreatDoorRdN
import Derived.Test.YthdpangjphphjaaGreatDoorEnc
import Derived.Test.YthdpangjphphjaaGreatDoorProg
import Derived.Test.YthdpangjphphjaaGreatDoorOrdIn
set_option maxRecDepth 200000
set_option maxHeartbeats 8000000
namespace Yd
open Go Go.RowKit Go.Proofs

theorem RdC.apart {w : World} {R p : Nat} {s l : Bs} {c : LnC} {n : LnS} (h : RdC w R s p l c n) (b : Nat) (hb : RdA R c b) (k a : Int) (t : Bs) (g : Bool) :
   RdC ((((w.setCell ⟨b, 0, none⟩ (.int .i64 k)).setCell ⟨b, 1, none⟩ (.int .i64 a)).setCell ⟨b, 2, none⟩ (.string ⟨t.toArray⟩)).setCell ⟨b, 3, none⟩ (.bool g)) R s p l c n := by
 have hs : ∀ {w : World} (h : RdC w R s p l c n) (i : Nat) (v : Value), RdC (w.setCell ⟨b, i, none⟩ v) R s p l c n := fun {w} h i v =>
   ⟨h.x.setOther b i v (Ne.symm hb.1), ⟨h.n.1, h.n.2.1.block fun g hg => Below.heap_setCell _ _ _ _ (by rintro rfl; exact hb.2.1 hg), h.n.2.2.block fun g hg => Below.heap_setCell _ _ _ _ (by rintro rfl; exact hb.2.2 hg)⟩, h.d, h.le, h.lim⟩
 exact hs (hs (hs (hs h 0 _) 1 _) 2 _) 3 _
theorem rd_name {R p : Nat} {s l : Bs} {c : LnC} {n : LnS} (w : World) (h : RdC w R s p l c n) (hT : Lib.Utf8Tabs 2 3 w) :
   Calls Tryz.prog 118 #[.pointer (some ⟨R, 0, none⟩)] w (RdRet R s c n w (fun m : Bs => .string ⟨m.toArray⟩) (nameS l)) := by
 obtain ⟨X, hX⟩ : ∃ X, X = nameS l := ⟨_, rfl⟩
 rw [← hX]
 have HX := hid hX
 have hlen := h.len; have hlim := h.lim; have hle := h.le
 have HE := hid (rd_ends w h)
 have HBG := fun W (hb : Below w.heap.size w W) => hid (rd_begins W (h.below hb) (Utf8Tabs_below hT hb))
 have HH := hid h
 clear hX h
 by_cases hb : endsS l = false ∧ beginsS l = true
 · obtain ⟨he, hg⟩ := hb
   have hLW := fun W (hb : Below w.heap.size w W) => lx_word s p l HH.out.d hle hlim hg W (Utf8Tabs_below hT hb)
   have hrl : runS l ≤ l.length := whileE_le _ _ _ (Nat.le_refl _)
   by_cases h24 : 24 < runS l
   · simp only [if_pos h24] at hLW
     have hl24 := longS_le (l.take (runS l))
     obtain ⟨q, hq⟩ : ∃ q, q = p + longS (l.take (runS l)) := ⟨_, rfl⟩
     rw [← hq] at hLW
     have HL := hid hLW
     have HSP : Hid (nameS l = .error (l.drop (longS (l.take (runS l))), 220)) := hid (by unfold nameS; rw [if_neg (by rw [he, hg]; decide), if_pos h24])
     have HQ : Hid (s.length - (l.drop (longS (l.take (runS l)))).length = q) := hid (by rw [List.length_drop]; omega)
     rw [he] at HE
     have HG := hid hg
     clear hLW he hg h24 hl24 hq hT hrl
     go_enter Tryz.func118, Tryz.ntmps118
     go_wp2_with fail
     refine HE.out.mono ?_
     rintro e w1 ⟨rfl, hb1⟩
     have HB1 := hid hb1
     clear hb1
     go_wp2_with fail
     refine (HBG _ HB1.out).out.mono ?_
     rintro e w2 ⟨rfl, hb2⟩
     rw [HG.out]
     have HB2 := hid (HB1.out.trans (hb2.mono HB1.out.size))
     have HC2 := hid (HH.out.below HB2.out)
     have HAP := hid (HC2.out.new (Nat.le_refl _))
     have c0 := HC2.out.c0; have c1 := HC2.out.c1; have z1 := f1 HC2.out 1
     clear hb2
     go_wp2_with fail
     refine wp_region_ordT 99 (.q 0 0 (.q 1 0 (.q 2 0 (.q 3 0 (.q 4 0 (.q 5 0 (.q 6 0 (.q 7 0 (.alt 8 (.q 9 0 (.q 10 0 (.q 11 0 (.q 12 0 (.l 13 (.l 14 (.q 15 0 (.q 16 0 .nil)))))))) 13 (.l 8 (.q 9 0 (.q 10 0 (.q 11 0 (.q 12 0 (.l 14 (.q 15 0 (.q 16 0 .nil))))))))))))))))) (fun _ => True) (fun W' => W'.cell? ⟨R, 0, none⟩ = some (.string ⟨s.toArray⟩) ∧ W'.cell? ⟨R, 1, none⟩ = some (.int .i64 p)) (by kernel_rfl) (by kernel_rfl) trivial ⟨HC2.out.drew.c0, HC2.out.drew.c1⟩ ?_
     repeat ((first | refine ordT_q rfl rfl ?_ | refine ordT_p rfl rfl ?_); apply Exists.intro; refine ⟨fun wS hS => ?_, ?_⟩; (go_simp; try with_reducible rfl); simp only [Act.put, List.setIfInBounds_toArray, List.set_cons_zero, List.set_cons_succ])
     refine ⟨?_, ?_⟩
     · refine ordT_one rfl rfl (fun K hK => ?_)
       go_simp
       refine (HL.out _ HB2.out.drew).mono ?_
       rintro e w4 ⟨g, rfl, hb4⟩
       have hc4 := HC2.out.drew.below hb4
       have HC4 := hid hc4; have HB4 := hid (HB2.out.drew.trans (hb4.mono HB2.out.size))
       refine hK _ _ ⟨trivial, hc4.c0, hc4.c1⟩ ?_
       clear hK K hb4 hc4 c0 c1 z1
       repeat ((first | refine ordT_q rfl rfl ?_ | refine ordT_p rfl rfl ?_); apply Exists.intro; refine ⟨fun wS hS => ?_, ?_⟩; (go_simp; try with_reducible rfl); simp only [Act.put, List.setIfInBounds_toArray, List.set_cons_zero, List.set_cons_succ])
       refine ordT_l rfl rfl (fun K hK => ?_)
       go_simp
       refine hK _ _ ⟨trivial, (HC4.out.below (belowA (Below.refl _ _) _)).c0, (HC4.out.below (belowA (Below.refl _ _) _)).c1⟩ ?_
       clear hK K
       refine ordT_l rfl rfl (fun K hK => ?_)
       go_simp
       refine hK _ _ ⟨trivial, (HC4.out.below (belowA (Below.refl _ _) _)).c0, (HC4.out.below (belowA (Below.refl _ _) _)).c1⟩ ?_
       clear hK K
       repeat ((first | refine ordT_q rfl rfl ?_ | refine ordT_p rfl rfl ?_); apply Exists.intro; refine ⟨fun wS hS => ?_, ?_⟩; (go_simp; try with_reducible rfl); simp only [Act.put, List.setIfInBounds_toArray, List.set_cons_zero, List.set_cons_succ])
       have HC5 := hid (HC4.out.below (belowA (Below.refl w4.heap.size w4) (.cells (cellsTk 0 0 [] g) 56)))
       have HB5 := hid (belowA HB4.out (.cells (cellsTk 0 0 [] g) 56))
       have HY5 := hid (Bx.new w4 (cellsTk 0 0 [] g) 56)
       have HNE : Hid (w4.heap.size ≠ R) := hid (by have := HC4.out.x.2.2; omega)
       refine ordT_nil ?_
       have c0 := HC5.out.c0; have c1 := HC5.out.c1; have z1 := f1 HC5.out 1; have hty := HY5.out.1
       have HM5 := hid (Mv.of_below (R := R) (c := c) HB5.out)
       go_wp2_with fail
       refine (rd_fail q 220 _).mono ?_
       rintro e w6 ⟨rfl, rfl⟩
       refine ⟨rfl, ?_⟩
       show RdRet R s c n w _ _ _ _
       rw [HX.out, HSP.out]
       exact ⟨by rw [HQ.out], HM5.out.same⟩
     · refine ordT_one rfl rfl (fun K hK => ?_)
       go_simp
       refine hK _ _ ⟨trivial, (HC2.out.drew.below (belowA (Below.refl _ _) _)).c0, (HC2.out.drew.below (belowA (Below.refl _ _) _)).c1⟩ ?_
       clear hK K
       refine ordT_l rfl rfl (fun K hK => ?_)
       go_simp
       refine (HL.out _ (belowA HB2.out.drew (.cells (cellsTk 0 0 [] false) 56))).mono ?_
       rintro e w4 ⟨g, rfl, hb4⟩
       have hc4 := (HC2.out.drew.below (belowA (Below.refl _ _) (.cells (cellsTk 0 0 [] false) 56))).below hb4
       have HC4 := hid hc4; have HB4 := hid ((belowA HB2.out.drew (.cells (cellsTk 0 0 [] false) 56)).trans (hb4.mono (belowA HB2.out.drew (.cells (cellsTk 0 0 [] false) 56)).size))
       have hy4 : Bx w4 w2.heap.size (cellsTk 0 0 [] false) := (Bx.new w2.drew (cellsTk 0 0 [] false) 56).keep hb4
       have HY4 := hid hy4
       have HNE : Hid (w2.heap.size ≠ R) := hid (by have := HC2.out.x.2.2; omega)
       have HWB : Hid (w.heap.size ≤ w2.heap.size) := hid HB2.out.size
       refine hK _ _ ⟨trivial, hc4.c0, hc4.c1⟩ ?_
       clear hK K hb4 hc4 c0 c1 z1 hy4
       have hcy := HY4.out.1; have hfy := HY4.out.2.1
       repeat ((first | refine ordT_q rfl rfl ?_ | refine ordT_p rfl rfl ?_); apply Exists.intro; refine ⟨fun wS hS => ?_, ?_⟩; (go_simp; try with_reducible rfl); simp only [Act.put, List.setIfInBounds_toArray, List.set_cons_zero, List.set_cons_succ])
       refine ordT_l rfl rfl (fun K hK => ?_)
       go_simp
       refine hK _ _ ⟨trivial, ((((HC4.out.x.other (p := ⟨w2.heap.size, 0, none⟩) HNE.out.symm _).other (p := ⟨w2.heap.size, 1, none⟩) HNE.out.symm _).other (p := ⟨w2.heap.size, 2, none⟩) HNE.out.symm _).other (p := ⟨w2.heap.size, 3, none⟩) HNE.out.symm _).1 0, ((((HC4.out.x.other (p := ⟨w2.heap.size, 0, none⟩) HNE.out.symm _).other (p := ⟨w2.heap.size, 1, none⟩) HNE.out.symm _).other (p := ⟨w2.heap.size, 2, none⟩) HNE.out.symm _).other (p := ⟨w2.heap.size, 3, none⟩) HNE.out.symm _).1 1⟩ ?_
       clear hK K hcy hfy
       repeat ((first | refine ordT_q rfl rfl ?_ | refine ordT_p rfl rfl ?_); apply Exists.intro; refine ⟨fun wS hS => ?_, ?_⟩; (go_simp; try with_reducible rfl); simp only [Act.put, List.setIfInBounds_toArray, List.set_cons_zero, List.set_cons_succ])
       have HC5 := hid (HC4.out.apart w2.heap.size HAP.out 0 0 [] g)
       have HB5 := hid ((((HB4.out.setCell (p := ⟨w2.heap.size, 0, none⟩) HWB.out (.int .i64 0)).setCell (p := ⟨w2.heap.size, 1, none⟩) HWB.out (.int .i64 0)).setCell (p := ⟨w2.heap.size, 2, none⟩) HWB.out (.string ⟨[].toArray⟩)).setCell (p := ⟨w2.heap.size, 3, none⟩) HWB.out (.bool g))
       have HY5 := hid ((((HY4.out.setC 0 (by simp) (.int .i64 0)).setC 1 (by simp) (.int .i64 0)).setC 2 (by simp) (.string ⟨[].toArray⟩)).setC 3 (by simp) (.bool g))
       refine ordT_nil ?_
       have c0 := HC5.out.c0; have c1 := HC5.out.c1; have z1 := f1 HC5.out 1; have hty := HY5.out.1
       have HM5 := hid (Mv.of_below (R := R) (c := c) HB5.out)
       go_wp2_with fail
       refine (rd_fail q 220 _).mono ?_
       rintro e w6 ⟨rfl, rfl⟩
       refine ⟨rfl, ?_⟩
       show RdRet R s c n w _ _ _ _
       rw [HX.out, HSP.out]
       exact ⟨by rw [HQ.out], HM5.out.same⟩
   · simp only [if_neg h24] at hLW
     obtain ⟨q, hq⟩ : ∃ q, q = p + runS l := ⟨_, rfl⟩
     rw [← hq] at hLW
     have HL := hid hLW
     have HSP : Hid (nameS l = .ok (l.take (runS l), l.drop (runS l))) := hid (by unfold nameS; rw [if_neg (by rw [he, hg]; decide), if_neg h24])
     have HQ := hid hq; have HLE := hid hrl
     rw [he] at HE
     have HG := hid hg
     clear hLW he hg h24 hq hT hrl
     go_enter Tryz.func118, Tryz.ntmps118
     go_wp2_with fail
     refine HE.out.mono ?_
     rintro e w1 ⟨rfl, hb1⟩
     have HB1 := hid hb1
     clear hb1
     go_wp2_with fail
     refine (HBG _ HB1.out).out.mono ?_
     rintro e w2 ⟨rfl, hb2⟩
     rw [HG.out]
     have HB2 := hid (HB1.out.trans (hb2.mono HB1.out.size))
     have HC2 := hid (HH.out.below HB2.out)
     have HAP := hid (HC2.out.new (Nat.le_refl _))
     have c0 := HC2.out.c0; have c1 := HC2.out.c1; have z1 := f1 HC2.out 1
     clear hb2
     go_wp2_with fail
     refine wp_region_ordT 99 (.q 0 0 (.q 1 0 (.q 2 0 (.q 3 0 (.q 4 0 (.q 5 0 (.q 6 0 (.q 7 0 (.alt 8 (.q 9 0 (.q 10 0 (.q 11 0 (.q 12 0 (.l 13 (.l 14 (.q 15 0 (.q 16 0 .nil)))))))) 13 (.l 8 (.q 9 0 (.q 10 0 (.q 11 0 (.q 12 0 (.l 14 (.q 15 0 (.q 16 0 .nil))))))))))))))))) (fun _ => True) (fun W' => W'.cell? ⟨R, 0, none⟩ = some (.string ⟨s.toArray⟩) ∧ W'.cell? ⟨R, 1, none⟩ = some (.int .i64 p)) (by kernel_rfl) (by kernel_rfl) trivial ⟨HC2.out.drew.c0, HC2.out.drew.c1⟩ ?_
     repeat ((first | refine ordT_q rfl rfl ?_ | refine ordT_p rfl rfl ?_); apply Exists.intro; refine ⟨fun wS hS => ?_, ?_⟩; (go_simp; try with_reducible rfl); simp only [Act.put, List.setIfInBounds_toArray, List.set_cons_zero, List.set_cons_succ])
     refine ⟨?_, ?_⟩
     · refine ordT_one rfl rfl (fun K hK => ?_)
       go_simp
       refine (HL.out _ HB2.out.drew).mono ?_
       rintro e w4 ⟨g, rfl, hb4⟩
       have hc4 := HC2.out.drew.below hb4
       have HC4 := hid hc4; have HB4 := hid (HB2.out.drew.trans (hb4.mono HB2.out.size))
       refine hK _ _ ⟨trivial, hc4.c0, hc4.c1⟩ ?_
       clear hK K hb4 hc4 c0 c1 z1
       repeat ((first | refine ordT_q rfl rfl ?_ | refine ordT_p rfl rfl ?_); apply Exists.intro; refine ⟨fun wS hS => ?_, ?_⟩; (go_simp; try with_reducible rfl); simp only [Act.put, List.setIfInBounds_toArray, List.set_cons_zero, List.set_cons_succ])
       refine ordT_l rfl rfl (fun K hK => ?_)
       go_simp
       refine hK _ _ ⟨trivial, (HC4.out.below (belowA (Below.refl _ _) _)).c0, (HC4.out.below (belowA (Below.refl _ _) _)).c1⟩ ?_
       clear hK K
       refine ordT_l rfl rfl (fun K hK => ?_)
       go_simp
       refine hK _ _ ⟨trivial, (HC4.out.below (belowA (Below.refl _ _) _)).c0, (HC4.out.below (belowA (Below.refl _ _) _)).c1⟩ ?_
       clear hK K
       repeat ((first | refine ordT_q rfl rfl ?_ | refine ordT_p rfl rfl ?_); apply Exists.intro; refine ⟨fun wS hS => ?_, ?_⟩; (go_simp; try with_reducible rfl); simp only [Act.put, List.setIfInBounds_toArray, List.set_cons_zero, List.set_cons_succ])
       have HC5 := hid (HC4.out.below (belowA (Below.refl w4.heap.size w4) (.cells (cellsTk 1 p (l.take (runS l)) g) 56)))
       have HB5 := hid (belowA HB4.out (.cells (cellsTk 1 p (l.take (runS l)) g) 56))
       have HY5 := hid (Bx.new w4 (cellsTk 1 p (l.take (runS l)) g) 56)
       have HNE : Hid (w4.heap.size ≠ R) := hid (by have := HC4.out.x.2.2; omega)
       refine ordT_nil ?_
       have c0 := HC5.out.c0; have c1 := HC5.out.c1; have z1 := f1 HC5.out 1; have hty := HY5.out.1
       have HM5 := hid (Mv.of_below (R := R) (c := c) HB5.out)
       have ht := HC5.out.to (runS l) rfl HLE.out q HQ.out
       have HT2 := hid ht.1; have HM2 := hid (HM5.out.trans ht.2); have HY6 := hid (HY5.out.setOther R 1 (.int .i64 (q : Int)) HNE.out)
       have hty6 := HY6.out.1
       clear ht
       go_wp2_with fail
       go_ret
       show RdRet R s c n w _ _ _ _
       rw [HX.out, HSP.out]
       exact ⟨rfl, q, HT2.out, HM2.out⟩
     · refine ordT_one rfl rfl (fun K hK => ?_)
       go_simp
       refine hK _ _ ⟨trivial, (HC2.out.drew.below (belowA (Below.refl _ _) _)).c0, (HC2.out.drew.below (belowA (Below.refl _ _) _)).c1⟩ ?_
       clear hK K
       refine ordT_l rfl rfl (fun K hK => ?_)
       go_simp
       refine (HL.out _ (belowA HB2.out.drew (.cells (cellsTk 0 0 [] false) 56))).mono ?_
       rintro e w4 ⟨g, rfl, hb4⟩
       have hc4 := (HC2.out.drew.below (belowA (Below.refl _ _) (.cells (cellsTk 0 0 [] false) 56))).below hb4
       have HC4 := hid hc4; have HB4 := hid ((belowA HB2.out.drew (.cells (cellsTk 0 0 [] false) 56)).trans (hb4.mono (belowA HB2.out.drew (.cells (cellsTk 0 0 [] false) 56)).size))
       have hy4 : Bx w4 w2.heap.size (cellsTk 0 0 [] false) := (Bx.new w2.drew (cellsTk 0 0 [] false) 56).keep hb4
       have HY4 := hid hy4
       have HNE : Hid (w2.heap.size ≠ R) := hid (by have := HC2.out.x.2.2; omega)
       have HWB : Hid (w.heap.size ≤ w2.heap.size) := hid HB2.out.size
       refine hK _ _ ⟨trivial, hc4.c0, hc4.c1⟩ ?_
       clear hK K hb4 hc4 c0 c1 z1 hy4
       have hcy := HY4.out.1; have hfy := HY4.out.2.1
       repeat ((first | refine ordT_q rfl rfl ?_ | refine ordT_p rfl rfl ?_); apply Exists.intro; refine ⟨fun wS hS => ?_, ?_⟩; (go_simp; try with_reducible rfl); simp only [Act.put, List.setIfInBounds_toArray, List.set_cons_zero, List.set_cons_succ])
       refine ordT_l rfl rfl (fun K hK => ?_)
       go_simp
       refine hK _ _ ⟨trivial, ((((HC4.out.x.other (p := ⟨w2.heap.size, 0, none⟩) HNE.out.symm _).other (p := ⟨w2.heap.size, 1, none⟩) HNE.out.symm _).other (p := ⟨w2.heap.size, 2, none⟩) HNE.out.symm _).other (p := ⟨w2.heap.size, 3, none⟩) HNE.out.symm _).1 0, ((((HC4.out.x.other (p := ⟨w2.heap.size, 0, none⟩) HNE.out.symm _).other (p := ⟨w2.heap.size, 1, none⟩) HNE.out.symm _).other (p := ⟨w2.heap.size, 2, none⟩) HNE.out.symm _).other (p := ⟨w2.heap.size, 3, none⟩) HNE.out.symm _).1 1⟩ ?_
       clear hK K hcy hfy
       repeat ((first | refine ordT_q rfl rfl ?_ | refine ordT_p rfl rfl ?_); apply Exists.intro; refine ⟨fun wS hS => ?_, ?_⟩; (go_simp; try with_reducible rfl); simp only [Act.put, List.setIfInBounds_toArray, List.set_cons_zero, List.set_cons_succ])
       have HC5 := hid (HC4.out.apart w2.heap.size HAP.out 1 p (l.take (runS l)) g)
       have HB5 := hid ((((HB4.out.setCell (p := ⟨w2.heap.size, 0, none⟩) HWB.out (.int .i64 1)).setCell (p := ⟨w2.heap.size, 1, none⟩) HWB.out (.int .i64 p)).setCell (p := ⟨w2.heap.size, 2, none⟩) HWB.out (.string ⟨(l.take (runS l)).toArray⟩)).setCell (p := ⟨w2.heap.size, 3, none⟩) HWB.out (.bool g))
       have HY5 := hid ((((HY4.out.setC 0 (by simp) (.int .i64 1)).setC 1 (by simp) (.int .i64 p)).setC 2 (by simp) (.string ⟨(l.take (runS l)).toArray⟩)).setC 3 (by simp) (.bool g))
       refine ordT_nil ?_
       have c0 := HC5.out.c0; have c1 := HC5.out.c1; have z1 := f1 HC5.out 1; have hty := HY5.out.1
       have HM5 := hid (Mv.of_below (R := R) (c := c) HB5.out)
       have ht := HC5.out.to (runS l) rfl HLE.out q HQ.out
       have HT2 := hid ht.1; have HM2 := hid (HM5.out.trans ht.2); have HY6 := hid (HY5.out.setOther R 1 (.int .i64 (q : Int)) HNE.out)
       have hty6 := HY6.out.1
       clear ht
       go_wp2_with fail
       go_ret
       show RdRet R s c n w _ _ _ _
       rw [HX.out, HSP.out]
       exact ⟨rfl, q, HT2.out, HM2.out⟩
 · have HSP : Hid (nameS l = .error (l, 220)) := hid (by
     unfold nameS
     rw [if_pos]
     · cases h1 : endsS l
       · cases h2 : beginsS l
         · rfl
         · exact absurd ⟨h1, h2⟩ hb
       · rfl)
   have HN := hid hb
   have HQ : Hid (s.length - l.length = p) := hid (by omega)
   clear hb hT
   go_enter Tryz.func118, Tryz.ntmps118
   go_wp2_with fail
   refine HE.out.mono ?_
   rintro e w1 ⟨rfl, hb1⟩
   have HB1 := hid hb1
   have c1 := (HH.out.below hb1).c1
   clear hb1
   cases he : endsS l
   · go_wp2_with fail
     refine (HBG _ HB1.out).out.mono ?_
     rintro e w2 ⟨rfl, hb2⟩
     rw [show beginsS l = false by cases h2 : beginsS l; rfl; exact absurd ⟨he, h2⟩ HN.out]
     have HB2 := hid (HB1.out.trans (hb2.mono HB1.out.size))
     have c1 := (HH.out.below HB2.out).c1
     clear hb2
     go_wp2_with fail
     refine (rd_fail p 220 _).mono ?_
     rintro e w6 ⟨rfl, rfl⟩
     refine ⟨rfl, ?_⟩
     show RdRet R s c n w _ _ _ _
     rw [HX.out, HSP.out]
     exact ⟨by rw [HQ.out], Same.of_below HB2.out (fun _ _ h => h)⟩
   · go_wp2_with fail
     refine (rd_fail p 220 _).mono ?_
     rintro e w6 ⟨rfl, rfl⟩
     refine ⟨rfl, ?_⟩
     show RdRet R s c n w _ _ _ _
     rw [HX.out, HSP.out]
     exact ⟨by rw [HQ.out], Same.of_below HB1.out (fun _ _ h => h)⟩
end Yd


namespace Yd
open Go Go.RowKit Go.Proofs

@[reducible] def addN (n : LnS) (m : Bs) : LnS := { n with names := n.names ++ [m] }
@[reducible] def withN (c : LnC) (a : Option Addr) (k cc : Nat) : LnC := { c with na := a, nn := k, nc := cc }
theorem RdC.c3 {w : World} {R p : Nat} {s l : Bs} {c : LnC} {n : LnS} (h : RdC w R s p l c n) : w.cell? ⟨R, 3, none⟩ = some (.slice c.na c.nn c.nc) := h.x.1 3
theorem RdC.c5 {w : World} {R p : Nat} {s l : Bs} {c : LnC} {n : LnS} (h : RdC w R s p l c n) : w.cell? ⟨R, 5, none⟩ = some (.slice c.va c.vn c.vc) := h.x.1 5
theorem RdC.addN {w X Y : World} {R p : Nat} {s l m : Bs} {c : LnC} {n : LnS} (h : RdC w R s p l c n) (hX : Below w.heap.size w X) (a' : Option Addr) (c' : Nat)
   (hown : Own Y (R + 1) 9 1 encStr (.slice a' (c.nn + 1) c') (n.names ++ [m])) (hg : X.grownBy Y (Value.slice c.na c.nn c.nc).ownBlock)
   (hat : (Value.slice a' (c.nn + 1) c').ownBlock = (Value.slice c.na c.nn c.nc).ownBlock ∨ (Value.slice a' (c.nn + 1) c').ownBlock = some X.heap.size) :
   RdC (Y.setCell ⟨R, 3, none⟩ (.slice a' (c.nn + 1) c')) R s p l (withN c a' (c.nn + 1) c') (addN n m) ∧ Mv R c (withN c a' (c.nn + 1) c') w (Y.setCell ⟨R, 3, none⟩ (.slice a' (c.nn + 1) c')) := by
 have hRw := h.x.2.2
 have hsz := hX.size
 have hn1 : (Value.slice c.na c.nn c.nc).ownBlock ≠ some R := h.n.2.1.far' (.inl (by omega))
 have hap := h.n.2.2.apart h.n.2.1 (by decide)
 have hxX := h.x.keep hX
 have hxY : Bx Y R (cellsRd s p c) := hxX.grown hg hn1
 have hv : Own Y (R + 1) 67 2 encTo (.slice c.va c.vn c.vc) n.vers := (h.n.2.2.below hX rfl).grown hg (fun g hg => hap g hg)
 obtain ⟨⟨e1, e2, e3, e4, e5, e6⟩, _, _⟩ := h.n
 have hXY : Same (RdA R c) X Y := ⟨hg.os, hg.tape, hg.output, hg.size, fun i hi hl => hg.block i hl (fun e => hi.2.1 e.symm)⟩
 refine ⟨⟨?_, ⟨⟨e1, e2, e3, e4, by simp [e5], e6⟩, ?_, ?_⟩, h.d, h.le, h.lim⟩, ((Same.of_below hX (fun _ _ h => h)).tr hXY).tr (Same.setCell _ _ _ _ (fun e => e.1 rfl)), ?_, fun _ h => .inl h⟩
 · exact hxY.setC 3 (by simp) _
 · exact hown.block fun g hg => Below.heap_setCell _ _ _ _ (by have := (hown.lt g hg).1; simp; omega)
 · exact hv.block fun g hg => Below.heap_setCell _ _ _ _ (by have := (hv.lt g hg).1; simp; omega)
 · intro g hgg
   rcases hat with e | e
   · exact .inl (e ▸ hgg)
   · right
     have : some g = some X.heap.size := hgg.symm.trans e
     injection this with this
     omega
@[reducible] def addV (n : LnS) (v : To) : LnS := { n with vers := n.vers ++ [v] }
@[reducible] def withV (c : LnC) (a : Option Addr) (k cc : Nat) : LnC := { c with va := a, vn := k, vc := cc }
theorem RdC.addV {w X Y : World} {R p : Nat} {s l : Bs} {v : To} {c : LnC} {n : LnS} (h : RdC w R s p l c n) (hX : Below w.heap.size w X) (a' : Option Addr) (c' : Nat)
   (hown : Own Y (R + 1) 67 2 encTo (.slice a' (c.vn + 1) c') (n.vers ++ [v])) (hg : X.grownBy Y (Value.slice c.va c.vn c.vc).ownBlock)
   (hat : (Value.slice a' (c.vn + 1) c').ownBlock = (Value.slice c.va c.vn c.vc).ownBlock ∨ (Value.slice a' (c.vn + 1) c').ownBlock = some X.heap.size) :
   RdC (Y.setCell ⟨R, 5, none⟩ (.slice a' (c.vn + 1) c')) R s p l (withV c a' (c.vn + 1) c') (addV n v) ∧ Mv R c (withV c a' (c.vn + 1) c') w (Y.setCell ⟨R, 5, none⟩ (.slice a' (c.vn + 1) c')) := by
 have hRw := h.x.2.2
 have hsz := hX.size
 have hn1 : (Value.slice c.va c.vn c.vc).ownBlock ≠ some R := h.n.2.2.far' (.inl (by omega))
 have hap := h.n.2.1.apart h.n.2.2 (by decide)
 have hxX := h.x.keep hX
 have hxY : Bx Y R (cellsRd s p c) := hxX.grown hg hn1
 have hv : Own Y (R + 1) 9 1 encStr (.slice c.na c.nn c.nc) n.names := (h.n.2.1.below hX rfl).grown hg (fun g hg => hap g hg)
 obtain ⟨⟨e1, e2, e3, e4, e5, e6⟩, _, _⟩ := h.n
 have hXY : Same (RdA R c) X Y := ⟨hg.os, hg.tape, hg.output, hg.size, fun i hi hl => hg.block i hl (fun e => hi.2.2 e.symm)⟩
 refine ⟨⟨?_, ⟨⟨e1, e2, e3, e4, e5, by simp [e6]⟩, ?_, ?_⟩, h.d, h.le, h.lim⟩, ((Same.of_below hX (fun _ _ h => h)).tr hXY).tr (Same.setCell _ _ _ _ (fun e => e.1 rfl)), fun _ h => .inl h, ?_⟩
 · exact hxY.setC 5 (by simp) _
 · exact hv.block fun g hg => Below.heap_setCell _ _ _ _ (by have := (hv.lt g hg).1; simp; omega)
 · exact hown.block fun g hg => Below.heap_setCell _ _ _ _ (by have := (hown.lt g hg).1; simp; omega)
 · intro g hgg
   rcases hat with e | e
   · exact .inl (e ▸ hgg)
   · right
     have : some g = some X.heap.size := hgg.symm.trans e
     injection this with this
     omega
theorem rd_takeName {R p : Nat} {s l : Bs} {c : LnC} {n : LnS} (w : World) (h : RdC w R s p l c n) (hT : Lib.Utf8Tabs 2 3 w) (hl : n.names.length ≤ 1000) :
   Calls Tryz.prog 74 #[.pointer (some ⟨R, 0, none⟩)] w (RdRes R s c w (fun _ : Unit => .tuple #[]) (match nameS l with | .error x => .error x | .ok (m, r) => .ok ((), addN n m, r))) := by
 obtain ⟨X, hX⟩ : ∃ X : Except Er (Unit × LnS × Bs), X = (match nameS l with | .error x => .error x | .ok (m, r) => .ok ((), addN n m, r)) := ⟨_, rfl⟩
 rw [← hX]
 have RES : Hid (∀ ch w', (∃ (r : Bs) (m : Int), nameS l = .error (r, m) ∧ ch = wrongP (s.length - r.length) m ∧ Same (RdA R c) w.drew w') → RdRes R s c w (fun _ : Unit => .tuple #[]) X (.panicked ch) w') := hid (by
   rintro ch w' ⟨r, m, h1, rfl, h2⟩
   rw [hX, h1]
   exact ⟨rfl, h2.os, h2.tape, h2.output, h2.size, h2.block⟩)
 have HX := hid hX
 clear hX
 have HNM := hid (fun W (hb : Below w.heap.size w W) => rd_name W (h.below hb) (Utf8Tabs_below hT hb))
 obtain ⟨i, z, hi, hz, hsize, hby', hzs⟩ := partsStr
 have HI := hid (⟨hi, hz, hsize, hby', hzs⟩ : _ ∧ _ ∧ _ ∧ _ ∧ _)
 have HH := hid h
 have HB0 : Hid (Below w.heap.size w w.drew) := hid ((Below.refl _ _).drew)
 have HNR : Hid ((Value.slice c.na c.nn c.nc).ownBlock ≠ some R) := hid (h.n.2.1.far' (.inl (by omega)))
 have hcn := h.n.1.2.2.2.2.1
 have HN1 : Hid (n.names.length + 1 = c.nn + 1) := hid (by omega)
 have HN2 : Hid ((c.nn + 1) * 16 ≤ 140737488355328) := hid (by omega)
 have HN3 : Hid (c.nn + 1 ≤ maxLen) := hid (by unfold maxLen; omega)
 clear hcn
 clear h hT hi hz hsize hby' hzs
 go_enter Tryz.func74, Tryz.ntmps74
 go_wp2_with fail
 refine wp_region_ordP 13 [(0, 1), (1, 1), (2, 1), (3, 1), (4, 1), (5, 0), (6, 1), (7, 2), (8, 2), (9, 2), (10, 1), (11, 1), (12, 1), (13, 2)] (fun _ => True) (fun W' => W'.cell? ⟨R, 3, none⟩ = some (.slice c.na c.nn c.nc)) (fun ch w' => ∃ (r : Bs) (m : Int), nameS l = .error (r, m) ∧ ch = wrongP (s.length - r.length) m ∧ Same (RdA R c) w.drew w') (by kernel_rfl) (by kernel_rfl) (fun ch a1 w1 hd hr => ⟨hd, RES.out ch w1 hr⟩) (trivial) (HH.out.drew.c3) ?_
 repeat ((first | refine ordC_skip rfl rfl ?_ | refine ordC_skip1 rfl rfl ?_ | ((first | refine ordC_q rfl rfl ?_ | refine ordC_p rfl rfl ?_); apply Exists.intro; refine ⟨fun wS hS => ?_, ?_⟩; (go_simp; try with_reducible rfl))); simp only [Act.put, List.setIfInBounds_toArray, List.set_cons_zero, List.set_cons_succ])
 refine ordC_l rfl rfl (fun K hK => ?_)
 go_simp
 refine (HNM.out _ HB0.out).mono ?_
 intro e w2 he
 cases hnm : nameS l with
 | error x =>
   rw [hnm] at he
   obtain ⟨rfl, hs⟩ := he
   exact ⟨rfl, x.1, x.2, rfl, rfl, hs⟩
 | ok mr =>
 obtain ⟨m, r⟩ := mr
 rw [hnm] at he
 obtain ⟨rfl, p2, hc2, hm2⟩ := he
 have HC2 := hid hc2; have HM2 := hid hm2; have HNX := hid hnm
 refine hK _ _ ⟨trivial, hc2.c3⟩ ?_
 have HN4 : Hid (R + 1 ≤ (w2.alloc (.cells #[.string ⟨m.toArray⟩] 9)).heap.size) := hid (by have := hc2.x.2.2; simp; omega)
 clear hK K hc2 hm2 hnm
 refine ordC_l rfl rfl (fun K hK => ?_)
 go_simp
 refine hK _ _ ⟨trivial, (HC2.out.below (belowA (Below.refl _ _) _)).c3⟩ ?_
 clear hK K
 refine ordC_l rfl rfl (fun K hK => ?_)
 refine wp_app _ _ 25 rfl i z 16 Tryz.underlying25 HI.out.1 HI.out.2.1 HI.out.2.2.1 HI.out.2.2.2.1 HI.out.2.2.2.2 rfl (HC2.out.n.2.1.alloc _) (some ⟨w2.heap.size, 0, none⟩) 1 1 (c.nn + 1) [m] rfl (Row.str1 w2 m) HN1.out HN2.out HN3.out HN4.out ?_
 intro a' c' w3 hown3 hg3 hat3
 have hx3 := (HC2.out.x.keep (belowA (Below.refl _ _) (.cells #[.string ⟨m.toArray⟩] 9))).grown hg3 HNR.out
 have HAD := hid (HC2.out.addN (belowA (Below.refl _ _) (.cells #[.string ⟨m.toArray⟩] 9)) a' c' hown3 hg3 hat3)
 refine hK _ _ ⟨trivial, hx3.1 3⟩ ?_
 have hc3 := hx3.1 3; have hf3 := hx3.2.1 3
 clear hK K hown3 hg3 hat3 hx3
 repeat ((first | refine ordC_skip rfl rfl ?_ | refine ordC_skip1 rfl rfl ?_ | ((first | refine ordC_q rfl rfl ?_ | refine ordC_p rfl rfl ?_); apply Exists.intro; refine ⟨fun wS hS => ?_, ?_⟩; (go_simp; try with_reducible rfl))); simp only [Act.put, List.setIfInBounds_toArray, List.set_cons_zero, List.set_cons_succ])
 refine ordC_m rfl rfl rfl (fun K hK => ?_)
 go_simp
 refine hK _ _ trivial ?_
 clear hK K
 refine ordP_nil ?_
 go_wp2_with fail
 refine bodyPost_end (results_none rfl _ _ _) rfl ?_
 show RdRes R s c w _ _ _ _
 rw [HX.out, HNX.out]
 exact ⟨rfl, p2, _, HAD.out.1, (Mv.of_below HB0.out).trans (HM2.out.trans HAD.out.2)⟩
end Yd
