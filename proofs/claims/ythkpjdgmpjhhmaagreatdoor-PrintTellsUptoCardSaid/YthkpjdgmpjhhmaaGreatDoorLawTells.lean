import Derived.Test.YthkpjdgmpjhhmaaGreatDoorRLsB
import Derived.Test.YthkpjdgmpjhhmaaGreatDoorRLnA
import Derived.Test.YthkpjdgmpjhhmaaGreatDoorTextA
import Derived.Test.YthkpjdgmpjhhmaaGreatDoorLawOwn
import Derived.Test.YthkpjdgmpjhhmaaGreatDoorRefD
import Derived.Test.YthkpjdgmpjhhmaaGreatDoorRST
import Derived.Test.YthkpjdgmpjhhmaaGreatDoorProg
set_option maxRecDepth 200000
set_option maxHeartbeats 8000000
namespace Yd
open Go Go.RowKit Go.Proofs
attribute [local go_sem] Oper.semAt_some

theorem law_tells (h : HC) (nl : Nat → List Bs) (es : List EvC) (ds : List OrC) (ms : List MaC) (qs : List Wa) (scan : EvC → List Sn) (dn : OrC → List Int) (mn : MaC → List Int) (w : World) (hg : GlobL w)
   (hn : ∀ i, i < 4 → Row w 1 encStr (h.nm i).a (h.nm i).n (h.nm i).c (nl i)) (hd : Deep w h es ds ms qs scan dn mn) (hB : BulkH nl es ds ms qs scan dn mn)
   (hwk : ∀ W, GlobL W → Calls Tryz.prog 6 #[] W (Ret (.bool true) W)) :
   Calls Tryz.prog 4 #[valH h] w (Ret (.bool true) w) := by
 have hb0 := belowA (Below.refl w.heap.size w) (.cells (cellsH h) 28)
 have HWK := hid (hwk _ (hg.below hb0)); have HB := hid hb0; have HG := hid hg
 have HX0 := hid (Bx.new w (cellsH h) 28)
 obtain ⟨c, hc⟩ : ∃ c, c = contOf 120 nl es ds ms qs scan dn mn := ⟨_, rfl⟩
 have HOWN : Hid (∀ W, Below w.heap.size w W → Calls Tryz.prog 7 #[valH h] W (RetH W c)) := hid (fun W hW => by rw [hc]; exact law_own h nl es ds ms qs scan dn mn W (fun i hi => (hn i hi).below hW rfl) (hd.below hW rfl) hB)
 clear hg hn hd hB hwk hb0 hc
 go_enter Tryz.func4, Tryz.ntmps4
 go_wp2_with fail
 refine HWK.out.mono ?_
 rintro e w1 ⟨rfl, hb1⟩
 have HB1 := hid (HB.out.trans (hb1.mono HB.out.size))
 have hx1 := HX0.out.keep hb1
 have hcx := hx1.1; have hfx := hx1.2.1; have hlx := hx1.2.2
 have HX1 := hid hx1
 clear hb1 hx1
 go_wp2_with fail
 clear hcx hfx hlx
 refine (HOWN.out _ HB1.out).mono ?_
 rintro e w2 ⟨h', es', ds', ms', scan', dn', mn', rfl, hd2, hn2, p1, p2, p3, p4, p5, p6, hb2⟩
 have HB2 := hid (HB1.out.trans (hb2.mono HB1.out.size))
 have HS2 := hid (⟨hd2, hn2, p1, p2, p3, p4, p5, p6⟩ : Says w2 h' c es' ds' ms' scan' dn' mn')
 have HX2 := hid (HX1.out.keep hb2)
 clear hd2 hn2 p1 p2 p3 p4 p5 p6 hb2
 obtain ⟨ht, hs, ho, hp, ⟨ea, en, ec⟩, ⟨da, dn_, dc⟩, ⟨ma, mn_, mc⟩, ⟨wa, wn, wc⟩⟩ := h'
 go_wp2_with fail
 have hb3 := belowA (Below.refl w2.heap.size w2) (.cells #[ht.v, hs.v, ho.v, hp.v, .slice ea en ec, .slice da dn_ dc, .slice ma mn_ mc, .slice wa wn wc] 28)
 have HX3 : Hid (Bx (w2.alloc (.cells #[ht.v, hs.v, ho.v, hp.v, .slice ea en ec, .slice da dn_ dc, .slice ma mn_ mc, .slice wa wn wc] 28)) w2.heap.size #[ht.v, hs.v, ho.v, hp.v, .slice ea en ec, .slice da dn_ dc, .slice ma mn_ mc, .slice wa wn wc]) := hid (Bx.new1 rfl)
 have HS3 := hid (HS2.out.below hb3); have HB3 := hid (HB2.out.trans (hb3.mono HB2.out.size)); have HG3 := hid (HG.out.below HB3.out)
 have HY3 := hid (HX2.out.alloc (.cells #[ht.v, hs.v, ho.v, hp.v, .slice ea en ec, .slice da dn_ dc, .slice ma mn_ mc, .slice wa wn wc] 28))
 obtain ⟨w3, hw3⟩ : ∃ w3, w3 = w2.alloc (.cells #[ht.v, hs.v, ho.v, hp.v, .slice ea en ec, .slice da dn_ dc, .slice ma mn_ mc, .slice wa wn wc] 28) := ⟨_, rfl⟩
 rw [← hw3] at HX3 HS3 HB3 HG3 HY3 ⊢
 clear hb3 hw3
 have HK := hid (fun W (hW : Below w3.heap.size w3 W) => (⟨HX3.out.keep hW, HY3.out.keep hW, HS3.out.below hW, HB3.out.trans (hW.mono HB3.out.size)⟩ : _ ∧ _ ∧ _ ∧ _))
 cases hck : checkB ⟨ht, hs, ho, hp, ⟨ea, en, ec⟩, ⟨da, dn_, dc⟩, ⟨ma, mn_, mc⟩, ⟨wa, wn, wc⟩⟩ c.nl es' ds' ms' c.Q scan' dn' mn' with
 | false =>
   have HRT := hid (fun W (hW : Below w3.heap.size w3 W) => r_Right ⟨ht, hs, ho, hp, ⟨ea, en, ec⟩, ⟨da, dn_, dc⟩, ⟨ma, mn_, mc⟩, ⟨wa, wn, wc⟩⟩ c.nl es' ds' ms' c.Q scan' dn' mn' W (fun i hi => (HS3.out.n i hi).below hW rfl) (HS3.out.d.below hW rfl))
   rw [hck] at HRT
   have HPL := hid (plines_no ⟨ht, hs, ho, hp, ⟨ea, en, ec⟩, ⟨da, dn_, dc⟩, ⟨ma, mn_, mc⟩, ⟨wa, wn, wc⟩⟩ c.nl es' ds' ms' c.Q scan' dn' mn' w3 HG3.out.1 HS3.out.n HS3.out.d hck)
   have HPT := hid (fun W (hW : Below w3.heap.size w3 W) => ptext_no ⟨ht, hs, ho, hp, ⟨ea, en, ec⟩, ⟨da, dn_, dc⟩, ⟨ma, mn_, mc⟩, ⟨wa, wn, wc⟩⟩ c.nl es' ds' ms' c.Q scan' dn' mn' W (HG3.out.below hW).1 (fun i hi => (HS3.out.n i hi).below hW rfl) (HS3.out.d.below hW rfl) hck)
   clear hck
   refine HPL.out.mono ?_
   rintro e w4 ⟨rfl, hb4⟩
   have HB4 := hid hb4
   clear hb4
   have hx := (HK.out _ HB4.out).1
   have hcx := hx.1; have hfx := hx.2.1; have hlx := hx.2.2
   clear hx
   go_wp2_with fail
   clear hcx hfx hlx
   refine (HPT.out _ HB4.out).mono ?_
   rintro e w5 ⟨rfl, hb5⟩
   have HB5 := hid (HB4.out.trans (hb5.mono HB4.out.size))
   clear hb5
   have hx := (HK.out _ HB5.out).1
   have hcx := hx.1; have hfx := hx.2.1; have hlx := hx.2.2
   clear hx
   go_wp2_with fail
   clear hcx hfx hlx
   refine (HRT.out _ HB5.out).mono ?_
   rintro e w6 ⟨rfl, hb6⟩
   have HB6 := hid (HB5.out.trans (hb6.mono HB5.out.size))
   clear hb6
   go_wp2_with fail
   refine wp_region_ordC 25 [(0, 0), (1, 0), (2, 0), (3, 0), (4, 0), (5, 0), (6, 0), (7, 0), (8, 0), (9, 0), (10, 0), (11, 0), (12, 0), (13, 0), (14, 0), (15, 0), (16, 2), (17, 0), (18, 0), (19, 0), (20, 0), (21, 2), (22, 2), (23, 0), (24, 0)] (fun _ => True) (fun W' => Bx W' w2.heap.size #[ht.v, hs.v, ho.v, hp.v, .slice ea en ec, .slice da dn_ dc, .slice ma mn_ mc, .slice wa wn wc] ∧ Bx W' w.heap.size (cellsH h)) (by kernel_rfl) (by kernel_rfl) (trivial) (⟨(HK.out _ HB6.out).1, (HK.out _ HB6.out).2.1⟩) ?_
   repeat ((first | refine ordC_skip rfl rfl ?_ | refine ordC_skip1 rfl rfl ?_ | ((first | refine ordC_q rfl rfl ?_ | refine ordC_p rfl rfl ?_); apply Exists.intro; refine ⟨fun wS hS => ?_, ?_⟩; (go_simp; try with_reducible rfl))); simp only [Act.put, List.setIfInBounds_toArray, List.set_cons_zero, List.set_cons_succ])
   refine ordC_l rfl rfl (fun K hK => ?_)
   go_simp
   refine (r_EqLines _ _ _ _ _ _ 0 0 [] [] [] _ Row.nil_ Row.nil_ ⟨rfl, fun i l hl => by simp at hl⟩ ⟨rfl, fun i l hl => by simp at hl⟩ (fun s hs => by simp at hs)).mono ?_
   rintro e Z1 ⟨rfl, hz1⟩
   have HZ1 := hid (HB6.out.drew.trans (hz1.mono HB6.out.size))
   refine hK _ _ ⟨trivial, (HK.out _ HZ1.out).1, (HK.out _ HZ1.out).2.1⟩ ?_
   clear hK K hz1
   repeat ((first | refine ordC_skip rfl rfl ?_ | refine ordC_skip1 rfl rfl ?_ | ((first | refine ordC_q rfl rfl ?_ | refine ordC_p rfl rfl ?_); apply Exists.intro; refine ⟨fun wS hS => ?_, ?_⟩; (go_simp; try with_reducible rfl))); simp only [Act.put, List.setIfInBounds_toArray, List.set_cons_zero, List.set_cons_succ])
   refine ordC_l rfl rfl (fun K hK => ?_)
   go_simp
   refine (HOWN.out _ (HK.out _ HZ1.out).2.2.2).mono ?_
   rintro en_ Z2 ⟨h3, es3, ds3, ms3, scan3, dn3, mn3, rfl, hd3, hn3, p1, p2, p3, p4, p5, p6, hb3⟩
   have HS9 := hid (⟨hd3, hn3, p1, p2, p3, p4, p5, p6⟩ : Says Z2 h3 c es3 ds3 ms3 scan3 dn3 mn3)
   have HZ2 := hid (HZ1.out.trans (hb3.mono HZ1.out.size))
   refine hK _ _ ⟨trivial, (HK.out _ HZ2.out).1, (HK.out _ HZ2.out).2.1⟩ ?_
   clear hK K hd3 hn3 p1 p2 p3 p4 p5 p6 hb3
   refine ordC_l rfl rfl (fun K hK => ?_)
   go_simp
   refine (r_SameT ⟨ht, hs, ho, hp, ⟨ea, en, ec⟩, ⟨da, dn_, dc⟩, ⟨ma, mn_, mc⟩, ⟨wa, wn, wc⟩⟩ h3 c es' ds' ms' scan' dn' mn' es3 ds3 ms3 scan3 dn3 mn3 Z2 (HK.out _ HZ2.out).2.2.1 HS9.out).mono ?_
   rintro en_ Z3 ⟨rfl, hb3⟩
   have HZ3 := hid (HZ2.out.trans (hb3.mono HZ2.out.size))
   refine hK _ _ ⟨trivial, (HK.out _ HZ3.out).1, (HK.out _ HZ3.out).2.1⟩ ?_
   clear hK K hb3
   repeat ((first | refine ordC_skip rfl rfl ?_ | refine ordC_skip1 rfl rfl ?_ | ((first | refine ordC_q rfl rfl ?_ | refine ordC_p rfl rfl ?_); apply Exists.intro; refine ⟨fun wS hS => ?_, ?_⟩; (go_simp; try with_reducible rfl))); simp only [Act.put, List.setIfInBounds_toArray, List.set_cons_zero, List.set_cons_succ])
   refine ordC_nil ?_
   go_wp2_with fail
   go_ret
   exact ⟨rfl, (HK.out _ HZ3.out).2.2.2⟩
 | true =>
   have HRT := hid (fun W (hW : Below w3.heap.size w3 W) => r_Right ⟨ht, hs, ho, hp, ⟨ea, en, ec⟩, ⟨da, dn_, dc⟩, ⟨ma, mn_, mc⟩, ⟨wa, wn, wc⟩⟩ c.nl es' ds' ms' c.Q scan' dn' mn' W (fun i hi => (HS3.out.n i hi).below hW rfl) (HS3.out.d.below hW rfl))
   rw [hck] at HRT
   have hsh : shapedB ⟨ht, hs, ho, hp, ⟨ea, en, ec⟩, ⟨da, dn_, dc⟩, ⟨ma, mn_, mc⟩, ⟨wa, wn, wc⟩⟩ c.nl es' ds' ms' c.Q scan' dn' mn' = true := by have h1 := hck; simp only [checkB, Bool.and_eq_true] at h1; exact h1.1.1
   have HPL := hid (plines_yes ⟨ht, hs, ho, hp, ⟨ea, en, ec⟩, ⟨da, dn_, dc⟩, ⟨ma, mn_, mc⟩, ⟨wa, wn, wc⟩⟩ c.nl es' ds' ms' c.Q scan' dn' mn' w3 HG3.out.1 HS3.out.n HS3.out.d hck)
   have HPT := hid (fun W (hW : Below w3.heap.size w3 W) => ptext_yes ⟨ht, hs, ho, hp, ⟨ea, en, ec⟩, ⟨da, dn_, dc⟩, ⟨ma, mn_, mc⟩, ⟨wa, wn, wc⟩⟩ c.nl es' ds' ms' c.Q scan' dn' mn' W (HG3.out.below hW) (fun i hi => (HS3.out.n i hi).below hW rfl) (HS3.out.d.below hW rfl) hck)
   have HRL := hid (fun W (hW : Below w3.heap.size w3 W) => r_Lines14 ⟨ht, hs, ho, hp, ⟨ea, en, ec⟩, ⟨da, dn_, dc⟩, ⟨ma, mn_, mc⟩, ⟨wa, wn, wc⟩⟩ c.nl es' ds' ms' c.Q scan' dn' mn' W (fun i hi => (HS3.out.n i hi).below hW rfl) (HS3.out.d.below hW rfl) hsh)
   have HRX := hid (fun W (hW : Below w3.heap.size w3 W) => r_Text14 ⟨ht, hs, ho, hp, ⟨ea, en, ec⟩, ⟨da, dn_, dc⟩, ⟨ma, mn_, mc⟩, ⟨wa, wn, wc⟩⟩ c.nl es' ds' ms' c.Q scan' dn' mn' W (fun i hi => (HS3.out.n i hi).below hW rfl) (HS3.out.d.below hW rfl) hsh)
   have hok := lines_ok hsh (fun i hi => (HS3.out.n i hi).len)
   have hll := lines_len HS3.out.d hsh
   obtain ⟨ls, hls⟩ : ∃ ls, ls = linesS c.nl es' ds' ms' c.Q scan' dn' mn' := ⟨_, rfl⟩
   rw [← hls] at HPL HPT HRL HRX hok hll
   have HOK : Hid (∀ s ∈ ls, s.names.length ≤ 1000000 ∧ s.vers.length ≤ 1000000) := hid (fun s hs => by have := (hok s hs).len; omega)
   have HLL := hid hll
   clear hck hsh hok hll hls
   refine HPL.out.mono ?_
   rintro e w4 ⟨la, lc, lcs, rfl, hol, hln, hb4⟩
   have HB4 := hid hb4; have HOL := hid hol; have HLN := hid hln
   have HCL : Hid (lcs.length ≤ 12000) := hid (by rw [hln.1]; exact HLL.out)
   clear hb4 hol hln
   have hx := (HK.out _ HB4.out).1
   have hcx := hx.1; have hfx := hx.2.1; have hlx := hx.2.2
   clear hx
   obtain ⟨m, hm⟩ : ∃ m, m = lcs.length := ⟨_, rfl⟩
   rw [← hm]
   have HM := hid hm
   clear hm
   go_wp2_with fail
   clear hcx hfx hlx
   refine (HPT.out _ HB4.out).mono ?_
   rintro e w5 ⟨rfl, hb5⟩
   have HB45 := hid hb5; have HB5 := hid (HB4.out.trans (hb5.mono HB4.out.size))
   clear hb5
   by_cases hle : (textA ls).length ≤ 131072
   · rw [if_pos hle]
     have HLE := hid hle
     clear hle
     obtain ⟨tx, htx⟩ : ∃ tx : ByteArray, tx = ⟨(textA ls).toArray⟩ := ⟨_, rfl⟩
     rw [← htx]
     have HTX := hid htx
     clear htx
     have hx := (HK.out _ HB5.out).1
     have hcx := hx.1; have hfx := hx.2.1; have hlx := hx.2.2
     clear hx
     go_wp2_with fail
     clear hcx hfx hlx
     refine (HRT.out _ HB5.out).mono ?_
     rintro e w6 ⟨rfl, hb6⟩
     have HB56 := hid hb6; have HB6 := hid (HB5.out.trans (hb6.mono HB5.out.size))
     clear hb6
     have hx := (HK.out _ HB6.out).1
     have hcx := hx.1; have hfx := hx.2.1; have hlx := hx.2.2
     clear hx
     go_wp2_with fail
     clear hcx hfx hlx
     refine (HRL.out _ HB6.out).mono ?_
     rintro e w7 ⟨ra, rc, rcs, rfl, hor, hrn, hb7⟩
     have HB67 := hid hb7; have HB7 := hid (HB6.out.trans (hb7.mono HB6.out.size)); have HOR := hid hor; have HRN := hid hrn
     clear hb7 hor hrn
     have hmr : rcs.length = m := by rw [HM.out, HRN.out.1, HLN.out.1]
     rw [hmr]
     have HMR := hid hmr
     clear hmr
     have hx := (HK.out _ HB7.out).1
     have hcx := hx.1; have hfx := hx.2.1; have hlx := hx.2.2
     clear hx
     go_wp2_with fail
     clear hcx hfx hlx
     refine (HRX.out _ HB7.out).mono ?_
     intro e w8 hx8
     unfold RetT14 at hx8
     rw [if_pos HLE.out] at hx8
     obtain ⟨rfl, hb8⟩ := hx8
     rw [← HTX.out]
     have HB78 := hid hb8; have HB8 := hid (HB7.out.trans (hb8.mono HB7.out.size))
     clear hb8
     have HB48 := hid (HB45.out.trans ((HB56.out.trans ((HB67.out.trans (HB78.out.mono HB67.out.size)).mono HB56.out.size)).mono HB45.out.size))
     have HR1 : Hid (Row w8 6 encLn la m lc lcs) := hid (by have h1 := (HOL.out.row (hc := cInsLn) (by have := HCL.out; omega)).below HB48.out rfl; rw [HM.out]; exact h1)
     have HR2 : Hid (Row w8 6 encLn ra m rc rcs) := hid (by have h1 := (HOR.out.row (hc := cInsLn) (by have := HMR.out; have := HM.out; have := HCL.out; omega)).below HB78.out rfl; rw [← HMR.out]; exact h1)
     have HL1 := hid (HLN.out.below HB48.out); have HL2 := hid (HRN.out.below HB78.out)
     go_wp2_with fail
     refine wp_region_ordC 25 [(0, 0), (1, 0), (2, 0), (3, 0), (4, 0), (5, 0), (6, 0), (7, 0), (8, 0), (9, 0), (10, 0), (11, 0), (12, 0), (13, 0), (14, 0), (15, 0), (16, 2), (17, 0), (18, 0), (19, 0), (20, 0), (21, 2), (22, 2), (23, 0), (24, 0)] (fun _ => True) (fun W' => Bx W' w2.heap.size #[ht.v, hs.v, ho.v, hp.v, .slice ea en ec, .slice da dn_ dc, .slice ma mn_ mc, .slice wa wn wc] ∧ Bx W' w.heap.size (cellsH h)) (by kernel_rfl) (by kernel_rfl) (trivial) (⟨(HK.out _ HB8.out).1, (HK.out _ HB8.out).2.1⟩) ?_
     repeat ((first | refine ordC_skip rfl rfl ?_ | refine ordC_skip1 rfl rfl ?_ | ((first | refine ordC_q rfl rfl ?_ | refine ordC_p rfl rfl ?_); apply Exists.intro; refine ⟨fun wS hS => ?_, ?_⟩; (go_simp; try with_reducible rfl))); simp only [Act.put, List.setIfInBounds_toArray, List.set_cons_zero, List.set_cons_succ])
     refine ordC_l rfl rfl (fun K hK => ?_)
     go_simp
     refine (r_EqLines _ _ _ _ _ _ _ _ lcs rcs ls _ HR1.out.drew HR2.out.drew (HL1.out.below (Below.refl _ _).drew) (HL2.out.below (Below.refl _ _).drew) HOK.out).mono ?_
     rintro e Z1 ⟨rfl, hz1⟩
     have HZ1 := hid (HB8.out.drew.trans (hz1.mono HB8.out.size))
     refine hK _ _ ⟨trivial, (HK.out _ HZ1.out).1, (HK.out _ HZ1.out).2.1⟩ ?_
     clear hK K hz1
     repeat ((first | refine ordC_skip rfl rfl ?_ | refine ordC_skip1 rfl rfl ?_ | ((first | refine ordC_q rfl rfl ?_ | refine ordC_p rfl rfl ?_); apply Exists.intro; refine ⟨fun wS hS => ?_, ?_⟩; (go_simp; try with_reducible rfl))); simp only [Act.put, List.setIfInBounds_toArray, List.set_cons_zero, List.set_cons_succ])
     refine ordC_l rfl rfl (fun K hK => ?_)
     go_simp
     refine (HOWN.out _ (HK.out _ HZ1.out).2.2.2).mono ?_
     rintro en_ Z2 ⟨h3, es3, ds3, ms3, scan3, dn3, mn3, rfl, hd3, hn3, p1, p2, p3, p4, p5, p6, hb3⟩
     have HS9 := hid (⟨hd3, hn3, p1, p2, p3, p4, p5, p6⟩ : Says Z2 h3 c es3 ds3 ms3 scan3 dn3 mn3)
     have HZ2 := hid (HZ1.out.trans (hb3.mono HZ1.out.size))
     refine hK _ _ ⟨trivial, (HK.out _ HZ2.out).1, (HK.out _ HZ2.out).2.1⟩ ?_
     clear hK K hd3 hn3 p1 p2 p3 p4 p5 p6 hb3
     refine ordC_l rfl rfl (fun K hK => ?_)
     go_simp
     refine (r_SameT ⟨ht, hs, ho, hp, ⟨ea, en, ec⟩, ⟨da, dn_, dc⟩, ⟨ma, mn_, mc⟩, ⟨wa, wn, wc⟩⟩ h3 c es' ds' ms' scan' dn' mn' es3 ds3 ms3 scan3 dn3 mn3 Z2 (HK.out _ HZ2.out).2.2.1 HS9.out).mono ?_
     rintro en_ Z3 ⟨rfl, hb3⟩
     have HZ3 := hid (HZ2.out.trans (hb3.mono HZ2.out.size))
     refine hK _ _ ⟨trivial, (HK.out _ HZ3.out).1, (HK.out _ HZ3.out).2.1⟩ ?_
     clear hK K hb3
     repeat ((first | refine ordC_skip rfl rfl ?_ | refine ordC_skip1 rfl rfl ?_ | ((first | refine ordC_q rfl rfl ?_ | refine ordC_p rfl rfl ?_); apply Exists.intro; refine ⟨fun wS hS => ?_, ?_⟩; (go_simp; try with_reducible rfl))); simp only [Act.put, List.setIfInBounds_toArray, List.set_cons_zero, List.set_cons_succ])
     refine ordC_nil ?_
     go_wp2_with fail
     go_ret
     exact ⟨rfl, (HK.out _ HZ3.out).2.2.2⟩
   · rw [if_neg hle]
     have HLE := hid hle
     clear hle
     obtain ⟨tx, htx⟩ : ∃ tx : ByteArray, tx = ⟨(textA ls).toArray⟩ := ⟨_, rfl⟩
     skip
     have HTX := hid htx
     clear htx
     have hx := (HK.out _ HB5.out).1
     have hcx := hx.1; have hfx := hx.2.1; have hlx := hx.2.2
     clear hx
     go_wp2_with fail
     clear hcx hfx hlx
     refine (HRT.out _ HB5.out).mono ?_
     rintro e w6 ⟨rfl, hb6⟩
     have HB56 := hid hb6; have HB6 := hid (HB5.out.trans (hb6.mono HB5.out.size))
     clear hb6
     have hx := (HK.out _ HB6.out).1
     have hcx := hx.1; have hfx := hx.2.1; have hlx := hx.2.2
     clear hx
     go_wp2_with fail
     clear hcx hfx hlx
     refine (HRL.out _ HB6.out).mono ?_
     rintro e w7 ⟨ra, rc, rcs, rfl, hor, hrn, hb7⟩
     have HB67 := hid hb7; have HB7 := hid (HB6.out.trans (hb7.mono HB6.out.size)); have HOR := hid hor; have HRN := hid hrn
     clear hb7 hor hrn
     have hmr : rcs.length = m := by rw [HM.out, HRN.out.1, HLN.out.1]
     rw [hmr]
     have HMR := hid hmr
     clear hmr
     have hx := (HK.out _ HB7.out).1
     have hcx := hx.1; have hfx := hx.2.1; have hlx := hx.2.2
     clear hx
     go_wp2_with fail
     clear hcx hfx hlx
     refine (HRX.out _ HB7.out).mono ?_
     intro e w8 hx8
     unfold RetT14 at hx8
     rw [if_neg HLE.out] at hx8
     obtain ⟨rfl, hb8⟩ := hx8
     skip
     have HB78 := hid hb8; have HB8 := hid (HB7.out.trans (hb8.mono HB7.out.size))
     clear hb8
     have HB48 := hid (HB45.out.trans ((HB56.out.trans ((HB67.out.trans (HB78.out.mono HB67.out.size)).mono HB56.out.size)).mono HB45.out.size))
     have HR1 : Hid (Row w8 6 encLn la m lc lcs) := hid (by have h1 := (HOL.out.row (hc := cInsLn) (by have := HCL.out; omega)).below HB48.out rfl; rw [HM.out]; exact h1)
     have HR2 : Hid (Row w8 6 encLn ra m rc rcs) := hid (by have h1 := (HOR.out.row (hc := cInsLn) (by have := HMR.out; have := HM.out; have := HCL.out; omega)).below HB78.out rfl; rw [← HMR.out]; exact h1)
     have HL1 := hid (HLN.out.below HB48.out); have HL2 := hid (HRN.out.below HB78.out)
     go_wp2_with fail
     refine wp_region_ordC 25 [(0, 0), (1, 0), (2, 0), (3, 0), (4, 0), (5, 0), (6, 0), (7, 0), (8, 0), (9, 0), (10, 0), (11, 0), (12, 0), (13, 0), (14, 0), (15, 0), (16, 2), (17, 0), (18, 0), (19, 0), (20, 0), (21, 2), (22, 2), (23, 0), (24, 0)] (fun _ => True) (fun W' => Bx W' w2.heap.size #[ht.v, hs.v, ho.v, hp.v, .slice ea en ec, .slice da dn_ dc, .slice ma mn_ mc, .slice wa wn wc] ∧ Bx W' w.heap.size (cellsH h)) (by kernel_rfl) (by kernel_rfl) (trivial) (⟨(HK.out _ HB8.out).1, (HK.out _ HB8.out).2.1⟩) ?_
     repeat ((first | refine ordC_skip rfl rfl ?_ | refine ordC_skip1 rfl rfl ?_ | ((first | refine ordC_q rfl rfl ?_ | refine ordC_p rfl rfl ?_); apply Exists.intro; refine ⟨fun wS hS => ?_, ?_⟩; (go_simp; try with_reducible rfl))); simp only [Act.put, List.setIfInBounds_toArray, List.set_cons_zero, List.set_cons_succ])
     refine ordC_l rfl rfl (fun K hK => ?_)
     go_simp
     refine (r_EqLines _ _ _ _ _ _ _ _ lcs rcs ls _ HR1.out.drew HR2.out.drew (HL1.out.below (Below.refl _ _).drew) (HL2.out.below (Below.refl _ _).drew) HOK.out).mono ?_
     rintro e Z1 ⟨rfl, hz1⟩
     have HZ1 := hid (HB8.out.drew.trans (hz1.mono HB8.out.size))
     refine hK _ _ ⟨trivial, (HK.out _ HZ1.out).1, (HK.out _ HZ1.out).2.1⟩ ?_
     clear hK K hz1
     repeat ((first | refine ordC_skip rfl rfl ?_ | refine ordC_skip1 rfl rfl ?_ | ((first | refine ordC_q rfl rfl ?_ | refine ordC_p rfl rfl ?_); apply Exists.intro; refine ⟨fun wS hS => ?_, ?_⟩; (go_simp; try with_reducible rfl))); simp only [Act.put, List.setIfInBounds_toArray, List.set_cons_zero, List.set_cons_succ])
     refine ordC_l rfl rfl (fun K hK => ?_)
     go_simp
     refine (HOWN.out _ (HK.out _ HZ1.out).2.2.2).mono ?_
     rintro en_ Z2 ⟨h3, es3, ds3, ms3, scan3, dn3, mn3, rfl, hd3, hn3, p1, p2, p3, p4, p5, p6, hb3⟩
     have HS9 := hid (⟨hd3, hn3, p1, p2, p3, p4, p5, p6⟩ : Says Z2 h3 c es3 ds3 ms3 scan3 dn3 mn3)
     have HZ2 := hid (HZ1.out.trans (hb3.mono HZ1.out.size))
     refine hK _ _ ⟨trivial, (HK.out _ HZ2.out).1, (HK.out _ HZ2.out).2.1⟩ ?_
     clear hK K hd3 hn3 p1 p2 p3 p4 p5 p6 hb3
     refine ordC_l rfl rfl (fun K hK => ?_)
     go_simp
     refine (r_SameT ⟨ht, hs, ho, hp, ⟨ea, en, ec⟩, ⟨da, dn_, dc⟩, ⟨ma, mn_, mc⟩, ⟨wa, wn, wc⟩⟩ h3 c es' ds' ms' scan' dn' mn' es3 ds3 ms3 scan3 dn3 mn3 Z2 (HK.out _ HZ2.out).2.2.1 HS9.out).mono ?_
     rintro en_ Z3 ⟨rfl, hb3⟩
     have HZ3 := hid (HZ2.out.trans (hb3.mono HZ2.out.size))
     refine hK _ _ ⟨trivial, (HK.out _ HZ3.out).1, (HK.out _ HZ3.out).2.1⟩ ?_
     clear hK K hb3
     repeat ((first | refine ordC_skip rfl rfl ?_ | refine ordC_skip1 rfl rfl ?_ | ((first | refine ordC_q rfl rfl ?_ | refine ordC_p rfl rfl ?_); apply Exists.intro; refine ⟨fun wS hS => ?_, ?_⟩; (go_simp; try with_reducible rfl))); simp only [Act.put, List.setIfInBounds_toArray, List.set_cons_zero, List.set_cons_succ])
     refine ordC_nil ?_
     go_wp2_with fail
     go_ret
     exact ⟨rfl, (HK.out _ HZ3.out).2.2.2⟩
end Yd
