import Derived.Test.YthkpjdgmpjhhmaaGreatDoorOwnSt
import Derived.Test.YthkpjdgmpjhhmaaGreatDoorEqC
import Derived.Test.YthkpjdgmpjhhmaaGreatDoorGround
import Derived.Test.YthkpjdgmpjhhmaaGreatDoorProg
set_option maxRecDepth 200000
set_option maxHeartbeats 8000000
namespace Yd
open Go Go.RowKit Go.Proofs

theorem Row.takeA {α : Type} {enc : α → List Value} {w : World} {k : Nat} {a : Option Addr} {n c : Nat} {xs : List α} (h : Row w k enc a n c xs) {m : Nat} (hm : m ≤ n) : Row w k enc a m c (xs.take m) := by
 refine ⟨by rw [List.length_take, h.len]; omega, Nat.le_trans hm h.cap, Nat.le_trans hm h.le, h.2.2.2.1, fun i x hx => ?_⟩
 rw [List.getElem?_take] at hx
 split at hx
 · exact h.2.2.2.2 i x hx
 · cases hx
theorem law_own (h : HC) (nl : Nat → List Bs) (es : List EvC) (ds : List OrC) (ms : List MaC) (qs : List Wa) (scan : EvC → List Sn) (dn : OrC → List Int) (mn : MaC → List Int) (w : World)
   (hn : ∀ i, i < 4 → Row w 1 encStr (h.nm i).a (h.nm i).n (h.nm i).c (nl i)) (hd : Deep w h es ds ms qs scan dn mn) (hB : BulkH nl es ds ms qs scan dn mn) :
   Calls Tryz.prog 7 #[valH h] w (RetH w (contOf 120 nl es ds ms qs scan dn mn)) := by
 have hst := St.start hn hd hB h.e.n (Nat.le_refl _)
 have hr0 := hd.1.takeA (m := min h.e.n 120) (by omega)
 obtain ⟨es0, hes0⟩ : ∃ es0, es0 = es.take (min h.e.n 120) := ⟨_, rfl⟩
 have hes1 : es0 = es.take 120 := by
   rw [hes0]
   by_cases hle : h.e.n ≤ 120
   · rw [Nat.min_eq_left hle, List.take_of_length_le (by rw [hd.1.len]; exact Nat.le_refl _), List.take_of_length_le (by rw [hd.1.len]; exact hle)]
   · rw [Nat.min_eq_right (by omega)]
 rw [← hes0] at hr0
 have hl0 := hr0.len
 rw [← hl0] at hr0
 have hmin : min (h.e.n : Int) 120 = (es0.length : Int) := by omega
 have hlE : es0.length ≤ 120 := by omega
 have hcapE : (es0.length : Int) ≤ (h.e.c : Int) := by have := hr0.cap; omega
 have hsub : ∀ x ∈ es0, x ∈ es := fun x hx => List.mem_of_mem_take (by rw [← hes1]; exact hx)
 have HSE := hid (fun X => Sls.start (X := X) (T := 69) (sl := EvC.sl) scan (fun x (hx : x ∈ es0) => ⟨hB.2.2.2.2.2.1 x (hsub x hx), hd.2.2.2.2.1 x (hsub x hx)⟩))
 obtain ⟨C, hC⟩ : ∃ C, C = contOf 120 nl es ds ms qs scan dn mn := ⟨_, rfl⟩
 have HC := hid hC
 rw [← hC]
 have HCE : Hid (∀ {X h' es1 ds1 ms1}, St w X h' es1 ds1 ms1 { contOf h.e.n nl es ds ms qs scan dn mn with E := es0.map EvC.base, SE := es0.map scan } → St w X h' es1 ds1 ms1 C) := by
   rw [hC, hes1]; exact hid (fun h => h)
 have hw0 : w.heap.size ≤ ((w.alloc (.cells (cellsH h) 28)).alloc (.cells (Array.replicate 8 (.slice none 0 0)) 28)).heap.size := by simp; omega
 have HCL := hid (cloneEv h.e.a h.e.c es0 _ (hr0.below hst.b rfl) (by omega))
 have HST := hid hst; have HW0 := hid hw0
 have hbx := hst.bx; have hb2 := hst.b2
 have hcx := hbx.1; have hfx := hbx.2.1; have hlx := hbx.2.2
 have HQS : Hid (C.Q = qs) := hid (by rw [hC]; rfl)
 clear hn hd hr0 hes0 hes1 hl0 hst hsub hC hB hw0 hbx hb2
 obtain ⟨ht, hs, ho, hp, ⟨ea, en, ec⟩, hdd, hmm, hww⟩ := h
 go_enter Tryz.func7, Tryz.ntmps7
 go_wp2_with fail
 refine HCL.out.mono ?_
 rintro e w1 ⟨ae, ce, rfl, hown1, hb1⟩
 have HS1 := hid (HST.out.below hb1); have HO1 := hid (hown1.mono HW0.out)
 have hlo : ∀ g, (Value.slice ae es0.length ce).ownBlock = some g → g ≠ w.heap.size := fun g hg => by have := (hown1.lt g hg).1; simp at this; omega
 have HLO := hid hlo
 clear hb1 hown1 hlo hcx hfx hlx
 have hbx := HS1.out.bx; have hb2 := HS1.out.b2
 have hcx := hbx.1; have hfx := hbx.2.1; have hlx := hbx.2.2; have hc2 := hb2.1; have hf2 := hb2.2.1; have hl2 := hb2.2.2
 go_wp2_with fail
 have HSe := hid (HCE.out (HS1.out.boxE ⟨ae, es0.length, ce⟩ es0 ⟨by omega, .inr HO1.out⟩ rfl (HSE.out w1)))
 have HOe := hid (HO1.out.same (sameBox HS1.out 4 (.slice ae es0.length ce)) (fun g hg => HLO.out g hg))
 clear hbx hb2 hcx hfx hlx hc2 hf2 hl2
 go_loopw [18] (fun i wr => ∃ (k : Nat) (xe : List EvC), k ≤ es0.length ∧ i = .int .i64 k ∧ St w wr ⟨ht, hs, ho, hp, ⟨ae, es0.length, ce⟩, hdd, hmm, hww⟩ xe ds ms C ∧ Own wr w.heap.size 49 9 encEv (.slice ae es0.length ce) xe) (fun i _ => es0.length - (RowKit.intOf i).toNat)
 case atStart => exact ⟨0, es0, Nat.zero_le _, rfl, HSe.out, HOe.out⟩
 case round =>
   obtain ⟨k, xe, hk, rfl, hst, hown⟩ := hrel
   skip
   by_cases hlt : k < es0.length
   · obtain ⟨g, cur, rfl, hbg, hxl, hcap, hBg, hcur⟩ := hown.open_ (hc := cInsEv) (by omega)
     obtain ⟨x, hx⟩ : ∃ x, xe[k]? = some x := ⟨_, List.getElem?_eq_getElem (by omega)⟩
     have hsl : k < C.SE.length := by rw [← hst.se.1]; omega
     obtain ⟨L, hL⟩ : ∃ L, C.SE[k]? = some L := ⟨_, List.getElem?_eq_getElem hsl⟩
     have hLst := hst.se.2 k x L hx hL
     have hrow := hLst.row (hc := cInsSn) hst.b
     have hcx := (hbg.1 (k * 9 + 8)).trans (hcur k x 8 _ hx rfl)
     have HCL : Hid (∀ W, Below wr.heap.size wr W → Calls Tryz.prog 27 #[.slice x.sa x.sn x.sc] W (RetOwn 69 3 encSn L W)) := by
       refine hid (fun W hW => ?_)
       have hr : Row W 3 encSn x.sa x.sn x.sc L := hrow.below hW rfl
       rw [show x.sn = L.length from hrow.len.symm] at hr ⊢
       exact cloneSn x.sa x.sc L W hr (by have := hLst.1; omega)
     have HST := hid hst; have HOW := hid hown; have HBG := hid hbg; have HX := hid hx; have HL := hid hL; have HLL := hid hLst.1; have HCX := hid hcx; have HCUR := hid (hcur k x 8 _ hx rfl)
     have hle1 : k < 2000000 := by have := hst.e.1; omega
     clear hst hown hbg hx hL hLst hrow hcx hcur hsl
     go_wp2_with fail
     refine wp_region_ordC 10 [(0, 0), (1, 0), (2, 0), (3, 0), (4, 0), (5, 0), (6, 0), (7, 0), (8, 0), (9, 2), (10, 1), (11, 1), (12, 2)] (fun _ => True) (fun W' => Bx W' w.heap.size #[ht.v, hs.v, ho.v, hp.v, (.slice (some ⟨g, 0, none⟩) es0.length ce), hdd.v, hmm.v, hww.v] ∧ W'.cell? ⟨g, k * 9 + 8, none⟩ = some (.slice x.sa x.sn x.sc)) (by kernel_rfl) (by kernel_rfl) (trivial) (⟨HST.out.bx, HCX.out⟩) ?_
     repeat ((first | refine ordC_skip rfl rfl ?_ | refine ordC_skip1 rfl rfl ?_ | ((first | refine ordC_q rfl rfl ?_ | refine ordC_p rfl rfl ?_); apply Exists.intro; refine ⟨fun wS hS => ?_, ?_⟩; (go_simp; try with_reducible rfl))); simp only [Act.put, List.setIfInBounds_toArray, List.set_cons_zero, List.set_cons_succ])
     refine ordC_l rfl rfl (fun K hK => ?_)
     go_simp
     refine (HCL.out _ (Below.refl _ _).drew).mono ?_
     rintro en Y ⟨a', c', rfl, hoY, hbY⟩
     have HOY := hid hoY; have HBY := hid (show Below wr.heap.size wr Y from (Below.refl _ _).drew.trans hbY)
     refine hK _ _ ⟨trivial, HST.out.bx.keep HBY.out, bget HBY.out rfl HCX.out⟩ ?_
     clear hK K hoY hbY
     have hbY2 := HBG.out.keep HBY.out
     have hfY := hbY2.2.1; have hlY := hbY2.2.2
     have hcY1 : Y.cell? ⟨g, k * 9 + 8, none⟩ = some (.slice x.sa x.sn x.sc) := (hbY2.1 _).trans HCUR.out
     clear hbY2
     repeat ((first | refine ordC_skip rfl rfl ?_ | refine ordC_skip1 rfl rfl ?_ | ((first | refine ordC_q rfl rfl ?_ | refine ordC_p rfl rfl ?_); apply Exists.intro; refine ⟨fun wS hS => ?_, ?_⟩; (go_simp; try with_reducible rfl))); simp only [Act.put, List.setIfInBounds_toArray, List.set_cons_zero, List.set_cons_succ])
     refine ordC_m rfl rfl rfl (fun K hK => ?_)
     go_simp
     refine hK _ _ trivial ?_
     clear hK K
     refine ordC_nil ?_
     have hput := (HST.out.below HBY.out).putE (i := k) (HOW.out.below HBY.out rfl) rfl HX.out HL.out ⟨a', L.length, c'⟩ ⟨HLL.out, .inr (HOY.out.mono (by have := HST.out.b.size; simpa using this))⟩
     have HS1 := hid hput.1; have HO1 := hid hput.2
     clear hput hfY hlY hcY1
     go_wp2_with fail
     go_roundw
     case rel => exact ⟨k + 1, _, by omega, by go_num, HS1.out, HO1.out⟩
     case measure => simp [RowKit.intOf]; omega
   · obtain rfl : k = es0.length := by omega
     have HSe' := hid hst; have HOe' := hid hown
     clear hst hown
     have hbx := HSe'.out.bx; have hb2 := HSe'.out.b2
     have hcx := hbx.1; have hfx := hbx.2.1; have hlx := hbx.2.2; have hc2 := hb2.1; have hf2 := hb2.2.1; have hl2 := hb2.2.2
     go_wp2_with fail
     refine wp_region_ordC 9 [(0, 0), (1, 0), (3, 0), (4, 0), (6, 0), (7, 0), (2, 2), (9, 1), (5, 2), (8, 2), (10, 2), (11, 1), (12, 2), (13, 1), (14, 2)] (fun _ => True) (fun W' => Bx W' w.heap.size (cellsH ⟨ht, hs, ho, hp, ⟨ae, es0.length, ce⟩, hdd, hmm, hww⟩)) (by kernel_rfl) (by kernel_rfl) (trivial) (HSe'.out.bx) ?_
     repeat ((first | refine ordC_skip rfl rfl ?_ | refine ordC_skip1 rfl rfl ?_ | ((first | refine ordC_q rfl rfl ?_ | refine ordC_p rfl rfl ?_); apply Exists.intro; refine ⟨fun wS hS => ?_, ?_⟩; (go_simp; try with_reducible rfl))); simp only [Act.put, List.setIfInBounds_toArray, List.set_cons_zero, List.set_cons_succ])
     refine ordC_l rfl rfl (fun K hK => ?_)
     go_simp
     have HD0 := hid (HSe'.out.drew); clear hbx hb2 hcx hfx hlx hc2 hf2 hl2
     have hrw := HD0.out.d.row (hc := cInsOr) HD0.out.b
     have hLn := HD0.out.d.1
     refine (show Calls _ _ _ _ (RetOwn 72 2 encOr ds _) from by have := cloneOr hdd.a hdd.c ds _ (by rw [hrw.len]; exact hrw) (by omega); rw [show ds.length = hdd.n from hrw.len] at this; exact this).mono ?_
     rintro en Y1 ⟨ad, cd, rfl, ho1, hb1⟩
     have HY1 := hid (HD0.out.below hb1); have HOD := hid (ho1.mono HD0.out.b.size); have HLD := hid hLn
     refine hK _ _ ⟨trivial, HY1.out.bx⟩ ?_
     clear hK K ho1 hb1 hrw hLn
     repeat ((first | refine ordC_skip rfl rfl ?_ | refine ordC_skip1 rfl rfl ?_ | ((first | refine ordC_q rfl rfl ?_ | refine ordC_p rfl rfl ?_); apply Exists.intro; refine ⟨fun wS hS => ?_, ?_⟩; (go_simp; try with_reducible rfl))); simp only [Act.put, List.setIfInBounds_toArray, List.set_cons_zero, List.set_cons_succ])
     refine ordC_l rfl rfl (fun K hK => ?_)
     go_simp
     have hrw := HY1.out.m.row (hc := cInsMa) HY1.out.b
     have hLn := HY1.out.m.1
     refine (show Calls _ _ _ _ (RetOwn 79 4 encMa ms _) from by have := cloneMa hmm.a hmm.c ms _ (by rw [hrw.len]; exact hrw) (by omega); rw [show ms.length = hmm.n from hrw.len] at this; exact this).mono ?_
     rintro en Y2 ⟨am, cm, rfl, ho2, hb2'⟩
     have HY2 := hid (HY1.out.below hb2'); have HOM := hid (ho2.mono HY1.out.b.size); have HLM := hid hLn; have HOD2 := hid (HOD.out.below hb2' rfl)
     refine hK _ _ ⟨trivial, HY2.out.bx⟩ ?_
     clear hK K ho2 hb2' hrw hLn
     refine ordC_l rfl rfl (fun K hK => ?_)
     go_simp
     have hrw := HY2.out.q.row (hc := cInsWa) HY2.out.b
     have hLn := HY2.out.q.1
     rw [HQS.out] at hrw hLn
     refine (show Calls _ _ _ _ (RetOwn 82 2 encWa qs _) from by have := cloneWa hww.a hww.c qs _ (by rw [hrw.len]; exact hrw) (by omega); rw [show qs.length = hww.n from hrw.len] at this; exact this).mono ?_
     rintro en Y3 ⟨aq, cq, rfl, ho3, hb3⟩
     have HY3 := hid (HY2.out.below hb3); have HOQ := hid (ho3.mono HY2.out.b.size); have HLQ := hid hLn; have HOM3 := hid (HOM.out.below hb3 rfl); have HOD3 := hid (HOD2.out.below hb3 rfl)
     refine hK _ _ ⟨trivial, HY3.out.bx⟩ ?_
     clear hK K ho3 hb3 hrw hLn
     have hbx := HY3.out.bx; have hcx := hbx.1; have hfx := hbx.2.1; have hlx := hbx.2.2
     refine ordC_m rfl rfl rfl (fun K hK => ?_)
     go_simp
     refine hK _ _ trivial ?_
     clear hK K
     repeat ((first | refine ordC_skip rfl rfl ?_ | refine ordC_skip1 rfl rfl ?_ | ((first | refine ordC_q rfl rfl ?_ | refine ordC_p rfl rfl ?_); apply Exists.intro; refine ⟨fun wS hS => ?_, ?_⟩; (go_simp; try with_reducible rfl))); simp only [Act.put, List.setIfInBounds_toArray, List.set_cons_zero, List.set_cons_succ])
     refine ordC_m rfl rfl rfl (fun K hK => ?_)
     go_simp
     refine hK _ _ trivial ?_
     clear hK K
     repeat ((first | refine ordC_skip rfl rfl ?_ | refine ordC_skip1 rfl rfl ?_ | ((first | refine ordC_q rfl rfl ?_ | refine ordC_p rfl rfl ?_); apply Exists.intro; refine ⟨fun wS hS => ?_, ?_⟩; (go_simp; try with_reducible rfl))); simp only [Act.put, List.setIfInBounds_toArray, List.set_cons_zero, List.set_cons_succ])
     refine ordC_m rfl rfl rfl (fun K hK => ?_)
     go_simp
     refine hK _ _ trivial ?_
     clear hK K
     refine ordC_nil ?_
     have HT5 := hid HY3.out.tg; have HSB5 := hid (sameBox HY3.out 5 (Sl.v ⟨ad, ds.length, cd⟩))
     have hs5 := HY3.out.boxD ⟨ad, ds.length, cd⟩ ds ⟨HLD.out, .inr HOD3.out⟩ HY3.out.bd HY3.out.sd
     have HT6 := hid hs5.tg; have HSB6 := hid (sameBox hs5 6 (Sl.v ⟨am, ms.length, cm⟩))
     have hs6 := hs5.boxM ⟨am, ms.length, cm⟩ ms (Lst.same ⟨HLM.out, .inr HOM3.out⟩ HT5.out.choose_spec.choose_spec (by decide) HSB5.out) hs5.bm hs5.sm
     have HSB7 := hid (sameBox hs6 7 (Sl.v ⟨aq, qs.length, cq⟩)); have HT7 := hid hs6.tg
     have hs7 := hs6.boxQ ⟨aq, qs.length, cq⟩ (Lst.same (Lst.same ⟨HLQ.out, .inr HOQ.out⟩ HT5.out.choose_spec.choose_spec (by decide) HSB5.out) HT6.out.choose_spec.choose_spec (by decide) HSB6.out)
     have HOd := hid (((HOD3.out.apartBox HT5.out (by decide) HSB5.out).apartBox HT6.out (by decide) HSB6.out).apartBox HT7.out (by decide) HSB7.out)
     have HOx := hid (((HOM3.out.apartBox HT5.out (by decide) HSB5.out).apartBox HT6.out (by decide) HSB6.out).apartBox HT7.out (by decide) HSB7.out)
     have HSd := hid (hs7.cast (c' := C) (by have := HQS.out; subst this; rfl))
     clear hs5 hs6 hs7 hbx hcx hfx hlx
     have hbx := HSd.out.bx; have hb2 := HSd.out.b2
     have hcx := hbx.1; have hfx := hbx.2.1; have hlx := hbx.2.2; have hc2 := hb2.1; have hf2 := hb2.2.1; have hl2 := hb2.2.2
     go_wp2_with fail
     clear hbx hb2 hcx hfx hlx hc2 hf2 hl2
     go_loopw [49] (fun i wr => ∃ (k : Nat) (xd : List OrC), k ≤ ds.length ∧ i = .int .i64 k ∧ St w wr ⟨ht, hs, ho, hp, ⟨ae, es0.length, ce⟩, ⟨ad, ds.length, cd⟩, ⟨am, ms.length, cm⟩, ⟨aq, qs.length, cq⟩⟩ xe xd ms C ∧ Own wr w.heap.size 72 2 encOr (.slice ad ds.length cd) xd ∧ Own wr w.heap.size 79 4 encMa (.slice am ms.length cm) ms) (fun i _ => ds.length - (RowKit.intOf i).toNat)
     case atStart => exact ⟨0, ds, Nat.zero_le _, rfl, HSd.out, HOd.out, HOx.out⟩
     case round =>
       obtain ⟨k, xd, hk, rfl, hst, hown, hex⟩ := hrel
       have HEX := hid hex; clear hex
       by_cases hlt : k < ds.length
       · obtain ⟨g, cur, rfl, hbg, hxl, hcap, hBg, hcur⟩ := hown.open_ (hc := cInsOr) (by omega)
         obtain ⟨x, hx⟩ : ∃ x, xd[k]? = some x := ⟨_, List.getElem?_eq_getElem (by omega)⟩
         have hsl : k < C.SD.length := by rw [← hst.sd.1]; omega
         obtain ⟨L, hL⟩ : ∃ L, C.SD[k]? = some L := ⟨_, List.getElem?_eq_getElem hsl⟩
         have hLst := hst.sd.2 k x L hx hL
         have hrow := hLst.row (hc := cInsInt) hst.b
         have hcx := (hbg.1 (k * 2 + 1)).trans (hcur k x 1 _ hx rfl)
         have HCL : Hid (∀ W, Below wr.heap.size wr W → Calls Tryz.prog 31 #[.slice x.sa x.sn x.sc] W (RetOwn 3 1 encInt L W)) := by
           refine hid (fun W hW => ?_)
           have hr : Row W 1 encInt x.sa x.sn x.sc L := hrow.below hW rfl
           rw [show x.sn = L.length from hrow.len.symm] at hr ⊢
           exact cloneInt x.sa x.sc L W hr (by have := hLst.1; omega)
         have HST := hid hst; have HOW := hid hown; have HBG := hid hbg; have HX := hid hx; have HL := hid hL; have HLL := hid hLst.1; have HCX := hid hcx; have HCUR := hid (hcur k x 1 _ hx rfl)
         have hle1 : k < 2000000 := by have := hst.d.1; omega
         clear hst hown hbg hx hL hLst hrow hcx hcur hsl
         go_wp2_with fail
         refine wp_region_ordC 10 [(0, 0), (1, 0), (2, 0), (3, 0), (4, 0), (5, 0), (6, 0), (7, 0), (8, 0), (9, 2), (10, 1), (11, 1), (12, 2)] (fun _ => True) (fun W' => Bx W' w.heap.size #[ht.v, hs.v, ho.v, hp.v, (.slice ae es0.length ce), (.slice (some ⟨g, 0, none⟩) ds.length cd), (.slice am ms.length cm), (.slice aq qs.length cq)] ∧ W'.cell? ⟨g, k * 2 + 1, none⟩ = some (.slice x.sa x.sn x.sc)) (by kernel_rfl) (by kernel_rfl) (trivial) (⟨HST.out.bx, HCX.out⟩) ?_
         repeat ((first | refine ordC_skip rfl rfl ?_ | refine ordC_skip1 rfl rfl ?_ | ((first | refine ordC_q rfl rfl ?_ | refine ordC_p rfl rfl ?_); apply Exists.intro; refine ⟨fun wS hS => ?_, ?_⟩; (go_simp; try with_reducible rfl))); simp only [Act.put, List.setIfInBounds_toArray, List.set_cons_zero, List.set_cons_succ])
         refine ordC_l rfl rfl (fun K hK => ?_)
         go_simp
         refine (HCL.out _ (Below.refl _ _).drew).mono ?_
         rintro en Y ⟨a', c', rfl, hoY, hbY⟩
         have HOY := hid hoY; have HBY := hid (show Below wr.heap.size wr Y from (Below.refl _ _).drew.trans hbY)
         refine hK _ _ ⟨trivial, HST.out.bx.keep HBY.out, bget HBY.out rfl HCX.out⟩ ?_
         clear hK K hoY hbY
         have hbY2 := HBG.out.keep HBY.out
         have hfY := hbY2.2.1; have hlY := hbY2.2.2
         have hcY1 : Y.cell? ⟨g, k * 2 + 1, none⟩ = some (.slice x.sa x.sn x.sc) := (hbY2.1 _).trans HCUR.out
         clear hbY2
         repeat ((first | refine ordC_skip rfl rfl ?_ | refine ordC_skip1 rfl rfl ?_ | ((first | refine ordC_q rfl rfl ?_ | refine ordC_p rfl rfl ?_); apply Exists.intro; refine ⟨fun wS hS => ?_, ?_⟩; (go_simp; try with_reducible rfl))); simp only [Act.put, List.setIfInBounds_toArray, List.set_cons_zero, List.set_cons_succ])
         refine ordC_m rfl rfl rfl (fun K hK => ?_)
         go_simp
         refine hK _ _ trivial ?_
         clear hK K
         refine ordC_nil ?_
         have hput := (HST.out.below HBY.out).putD (i := k) (HOW.out.below HBY.out rfl) rfl HX.out HL.out ⟨a', L.length, c'⟩ ⟨HLL.out, .inr (HOY.out.mono (by have := HST.out.b.size; simpa using this))⟩
         have HS1 := hid hput.1; have HO1 := hid hput.2
         have HEX1 := hid ((HEX.out.below HBY.out rfl).apartBox ((HOW.out.below HBY.out rfl).tag rfl) (by decide) ((Same.refl' Y).setTail (b := g) (o := k * 2 + 1) (v := .slice a' L.length c') (fun hn => hn rfl)))
         clear hput hfY hlY hcY1
         go_wp2_with fail
         go_roundw
         case rel => exact ⟨k + 1, _, by omega, by go_num, HS1.out, HO1.out, HEX1.out⟩
         case measure => simp [RowKit.intOf]; omega
       · obtain rfl : k = ds.length := by omega
         have HSd' := hid hst; have HOd' := hid hown
         clear hst hown
         have hbx := HSd'.out.bx; have hb2 := HSd'.out.b2
         have hcx := hbx.1; have hfx := hbx.2.1; have hlx := hbx.2.2; have hc2 := hb2.1; have hf2 := hb2.2.1; have hl2 := hb2.2.2
         go_wp2_with fail
         have HSm := HSd'; have HOm := HEX
         clear hbx hb2 hcx hfx hlx hc2 hf2 hl2
         go_loopw [68] (fun i wr => ∃ (k : Nat) (xm : List MaC), k ≤ ms.length ∧ i = .int .i64 k ∧ St w wr ⟨ht, hs, ho, hp, ⟨ae, es0.length, ce⟩, ⟨ad, ds.length, cd⟩, ⟨am, ms.length, cm⟩, ⟨aq, qs.length, cq⟩⟩ xe xd xm C ∧ Own wr w.heap.size 79 4 encMa (.slice am ms.length cm) xm) (fun i _ => ms.length - (RowKit.intOf i).toNat)
         case atStart => exact ⟨0, ms, Nat.zero_le _, rfl, HSm.out, HOm.out⟩
         case round =>
           obtain ⟨k, xm, hk, rfl, hst, hown⟩ := hrel
           skip
           by_cases hlt : k < ms.length
           · obtain ⟨g, cur, rfl, hbg, hxl, hcap, hBg, hcur⟩ := hown.open_ (hc := cInsMa) (by omega)
             obtain ⟨x, hx⟩ : ∃ x, xm[k]? = some x := ⟨_, List.getElem?_eq_getElem (by omega)⟩
             have hsl : k < C.SM.length := by rw [← hst.sm.1]; omega
             obtain ⟨L, hL⟩ : ∃ L, C.SM[k]? = some L := ⟨_, List.getElem?_eq_getElem hsl⟩
             have hLst := hst.sm.2 k x L hx hL
             have hrow := hLst.row (hc := cInsInt) hst.b
             have hcx := (hbg.1 (k * 4 + 3)).trans (hcur k x 3 _ hx rfl)
             have HCL : Hid (∀ W, Below wr.heap.size wr W → Calls Tryz.prog 31 #[.slice x.sa x.sn x.sc] W (RetOwn 3 1 encInt L W)) := by
               refine hid (fun W hW => ?_)
               have hr : Row W 1 encInt x.sa x.sn x.sc L := hrow.below hW rfl
               rw [show x.sn = L.length from hrow.len.symm] at hr ⊢
               exact cloneInt x.sa x.sc L W hr (by have := hLst.1; omega)
             have HST := hid hst; have HOW := hid hown; have HBG := hid hbg; have HX := hid hx; have HL := hid hL; have HLL := hid hLst.1; have HCX := hid hcx; have HCUR := hid (hcur k x 3 _ hx rfl)
             have hle1 : k < 2000000 := by have := hst.m.1; omega
             clear hst hown hbg hx hL hLst hrow hcx hcur hsl
             go_wp2_with fail
             refine wp_region_ordC 10 [(0, 0), (1, 0), (2, 0), (3, 0), (4, 0), (5, 0), (6, 0), (7, 0), (8, 0), (9, 2), (10, 1), (11, 1), (12, 2)] (fun _ => True) (fun W' => Bx W' w.heap.size #[ht.v, hs.v, ho.v, hp.v, (.slice ae es0.length ce), (.slice ad ds.length cd), (.slice (some ⟨g, 0, none⟩) ms.length cm), (.slice aq qs.length cq)] ∧ W'.cell? ⟨g, k * 4 + 3, none⟩ = some (.slice x.sa x.sn x.sc)) (by kernel_rfl) (by kernel_rfl) (trivial) (⟨HST.out.bx, HCX.out⟩) ?_
             repeat ((first | refine ordC_skip rfl rfl ?_ | refine ordC_skip1 rfl rfl ?_ | ((first | refine ordC_q rfl rfl ?_ | refine ordC_p rfl rfl ?_); apply Exists.intro; refine ⟨fun wS hS => ?_, ?_⟩; (go_simp; try with_reducible rfl))); simp only [Act.put, List.setIfInBounds_toArray, List.set_cons_zero, List.set_cons_succ])
             refine ordC_l rfl rfl (fun K hK => ?_)
             go_simp
             refine (HCL.out _ (Below.refl _ _).drew).mono ?_
             rintro en Y ⟨a', c', rfl, hoY, hbY⟩
             have HOY := hid hoY; have HBY := hid (show Below wr.heap.size wr Y from (Below.refl _ _).drew.trans hbY)
             refine hK _ _ ⟨trivial, HST.out.bx.keep HBY.out, bget HBY.out rfl HCX.out⟩ ?_
             clear hK K hoY hbY
             have hbY2 := HBG.out.keep HBY.out
             have hfY := hbY2.2.1; have hlY := hbY2.2.2
             have hcY1 : Y.cell? ⟨g, k * 4 + 3, none⟩ = some (.slice x.sa x.sn x.sc) := (hbY2.1 _).trans HCUR.out
             clear hbY2
             repeat ((first | refine ordC_skip rfl rfl ?_ | refine ordC_skip1 rfl rfl ?_ | ((first | refine ordC_q rfl rfl ?_ | refine ordC_p rfl rfl ?_); apply Exists.intro; refine ⟨fun wS hS => ?_, ?_⟩; (go_simp; try with_reducible rfl))); simp only [Act.put, List.setIfInBounds_toArray, List.set_cons_zero, List.set_cons_succ])
             refine ordC_m rfl rfl rfl (fun K hK => ?_)
             go_simp
             refine hK _ _ trivial ?_
             clear hK K
             refine ordC_nil ?_
             have hput := (HST.out.below HBY.out).putM (i := k) (HOW.out.below HBY.out rfl) rfl HX.out HL.out ⟨a', L.length, c'⟩ ⟨HLL.out, .inr (HOY.out.mono (by have := HST.out.b.size; simpa using this))⟩
             have HS1 := hid hput.1; have HO1 := hid hput.2
             clear hput hfY hlY hcY1
             go_wp2_with fail
             go_roundw
             case rel => exact ⟨k + 1, _, by omega, by go_num, HS1.out, HO1.out⟩
             case measure => simp [RowKit.intOf]; omega
           · obtain rfl : k = ms.length := by omega
             have HSm' := hid hst; have HOm' := hid hown
             clear hst hown
             have hbx := HSm'.out.bx; have hb2 := HSm'.out.b2
             have hcx := hbx.1; have hfx := hbx.2.1; have hlx := hbx.2.2; have hc2 := hb2.1; have hf2 := hb2.2.1; have hl2 := hb2.2.2
             go_wp2_with fail
             refine wp_region_ordC 12 [(0, 0), (1, 0), (3, 0), (4, 0), (6, 0), (7, 0), (9, 0), (10, 0), (2, 2), (12, 1), (5, 2), (8, 2), (11, 2), (13, 2), (14, 1), (15, 2), (16, 1), (17, 2), (18, 1), (19, 2)] (fun _ => True) (fun W' => Bx W' w.heap.size (cellsH ⟨ht, hs, ho, hp, ⟨ae, es0.length, ce⟩, ⟨ad, ds.length, cd⟩, ⟨am, ms.length, cm⟩, ⟨aq, qs.length, cq⟩⟩)) (by kernel_rfl) (by kernel_rfl) (trivial) (HSm'.out.bx) ?_
             repeat ((first | refine ordC_skip rfl rfl ?_ | refine ordC_skip1 rfl rfl ?_ | ((first | refine ordC_q rfl rfl ?_ | refine ordC_p rfl rfl ?_); apply Exists.intro; refine ⟨fun wS hS => ?_, ?_⟩; (go_simp; try with_reducible rfl))); simp only [Act.put, List.setIfInBounds_toArray, List.set_cons_zero, List.set_cons_succ])
             refine ordC_l rfl rfl (fun K hK => ?_)
             go_simp
             have HD0 := hid (HSm'.out.drew); clear hbx hb2 hcx hfx hlx hc2 hf2 hl2
             have hrw := (HD0.out.n 0 (by decide)).row (hc := cInsStr) HD0.out.b
             have hLn := (HD0.out.n 0 (by decide)).1
             refine (show Calls _ _ _ _ (RetOwn 9 1 encStr (C.nl 0) _) from by have := cloneStr ht.a ht.c (C.nl 0) _ (by rw [hrw.len]; exact hrw) (by omega); rw [show (C.nl 0).length = ht.n from hrw.len] at this; exact this).mono ?_
             rintro en Y0 ⟨n0, d0, rfl, ho0, hb0⟩
             have HN0 := hid (HD0.out.below hb0); have HON0 := hid (ho0.mono (HD0.out.b.size)); have HBN0 := hid hb0; have HLN0 := hid hLn
             refine hK _ _ ⟨trivial, HN0.out.bx⟩ ?_
             clear hK K ho0 hb0 hrw hLn
             repeat ((first | refine ordC_skip rfl rfl ?_ | refine ordC_skip1 rfl rfl ?_ | ((first | refine ordC_q rfl rfl ?_ | refine ordC_p rfl rfl ?_); apply Exists.intro; refine ⟨fun wS hS => ?_, ?_⟩; (go_simp; try with_reducible rfl))); simp only [Act.put, List.setIfInBounds_toArray, List.set_cons_zero, List.set_cons_succ])
             refine ordC_l rfl rfl (fun K hK => ?_)
             go_simp
             have hrw := (HN0.out.n 1 (by decide)).row (hc := cInsStr) HN0.out.b
             have hLn := (HN0.out.n 1 (by decide)).1
             refine (show Calls _ _ _ _ (RetOwn 9 1 encStr (C.nl 1) _) from by have := cloneStr hs.a hs.c (C.nl 1) _ (by rw [hrw.len]; exact hrw) (by omega); rw [show (C.nl 1).length = hs.n from hrw.len] at this; exact this).mono ?_
             rintro en Y1 ⟨n1, d1, rfl, ho1, hb1⟩
             have HN1 := hid (HN0.out.below hb1); have HON1 := hid (ho1.mono (HN0.out.b.size)); have HBN1 := hid hb1; have HLN1 := hid hLn
             refine hK _ _ ⟨trivial, HN1.out.bx⟩ ?_
             clear hK K ho1 hb1 hrw hLn
             refine ordC_l rfl rfl (fun K hK => ?_)
             go_simp
             have hrw := (HN1.out.n 2 (by decide)).row (hc := cInsStr) HN1.out.b
             have hLn := (HN1.out.n 2 (by decide)).1
             refine (show Calls _ _ _ _ (RetOwn 9 1 encStr (C.nl 2) _) from by have := cloneStr ho.a ho.c (C.nl 2) _ (by rw [hrw.len]; exact hrw) (by omega); rw [show (C.nl 2).length = ho.n from hrw.len] at this; exact this).mono ?_
             rintro en Y2 ⟨n2, d2, rfl, ho2, hb2⟩
             have HN2 := hid (HN1.out.below hb2); have HON2 := hid (ho2.mono (HN1.out.b.size)); have HBN2 := hid hb2; have HLN2 := hid hLn
             refine hK _ _ ⟨trivial, HN2.out.bx⟩ ?_
             clear hK K ho2 hb2 hrw hLn
             refine ordC_l rfl rfl (fun K hK => ?_)
             go_simp
             have hrw := (HN2.out.n 3 (by decide)).row (hc := cInsStr) HN2.out.b
             have hLn := (HN2.out.n 3 (by decide)).1
             refine (show Calls _ _ _ _ (RetOwn 9 1 encStr (C.nl 3) _) from by have := cloneStr hp.a hp.c (C.nl 3) _ (by rw [hrw.len]; exact hrw) (by omega); rw [show (C.nl 3).length = hp.n from hrw.len] at this; exact this).mono ?_
             rintro en Y3 ⟨n3, d3, rfl, ho3, hb3⟩
             have HN3 := hid (HN2.out.below hb3); have HON3 := hid (ho3.mono (HN2.out.b.size)); have HBN3 := hid hb3; have HLN3 := hid hLn
             refine hK _ _ ⟨trivial, HN3.out.bx⟩ ?_
             clear hK K ho3 hb3 hrw hLn
             have hbx := HN3.out.bx; have hcx := hbx.1; have hfx := hbx.2.1; have hlx := hbx.2.2
             refine ordC_m rfl rfl rfl (fun K hK => ?_)
             go_simp
             refine hK _ _ trivial ?_
             clear hK K
             repeat ((first | refine ordC_skip rfl rfl ?_ | refine ordC_skip1 rfl rfl ?_ | ((first | refine ordC_q rfl rfl ?_ | refine ordC_p rfl rfl ?_); apply Exists.intro; refine ⟨fun wS hS => ?_, ?_⟩; (go_simp; try with_reducible rfl))); simp only [Act.put, List.setIfInBounds_toArray, List.set_cons_zero, List.set_cons_succ])
             refine ordC_m rfl rfl rfl (fun K hK => ?_)
             go_simp
             refine hK _ _ trivial ?_
             clear hK K
             repeat ((first | refine ordC_skip rfl rfl ?_ | refine ordC_skip1 rfl rfl ?_ | ((first | refine ordC_q rfl rfl ?_ | refine ordC_p rfl rfl ?_); apply Exists.intro; refine ⟨fun wS hS => ?_, ?_⟩; (go_simp; try with_reducible rfl))); simp only [Act.put, List.setIfInBounds_toArray, List.set_cons_zero, List.set_cons_succ])
             refine ordC_m rfl rfl rfl (fun K hK => ?_)
             go_simp
             refine hK _ _ trivial ?_
             clear hK K
             repeat ((first | refine ordC_skip rfl rfl ?_ | refine ordC_skip1 rfl rfl ?_ | ((first | refine ordC_q rfl rfl ?_ | refine ordC_p rfl rfl ?_); apply Exists.intro; refine ⟨fun wS hS => ?_, ?_⟩; (go_simp; try with_reducible rfl))); simp only [Act.put, List.setIfInBounds_toArray, List.set_cons_zero, List.set_cons_succ])
             refine ordC_m rfl rfl rfl (fun K hK => ?_)
             go_simp
             refine hK _ _ trivial ?_
             clear hK K
             refine ordC_nil ?_
             have hL0 : Lst w Y3 9 1 encStr ⟨n0, (C.nl 0).length, d0⟩ (C.nl 0) := ⟨HLN0.out, .inr (((HON0.out.below HBN1.out rfl).below HBN2.out rfl).below HBN3.out rfl)⟩
             have hL1 : Lst w Y3 9 1 encStr ⟨n1, (C.nl 1).length, d1⟩ (C.nl 1) := ⟨HLN1.out, .inr ((HON1.out.below HBN2.out rfl).below HBN3.out rfl)⟩
             have hL2 : Lst w Y3 9 1 encStr ⟨n2, (C.nl 2).length, d2⟩ (C.nl 2) := ⟨HLN2.out, .inr (HON2.out.below HBN3.out rfl)⟩
             have hL3 : Lst w Y3 9 1 encStr ⟨n3, (C.nl 3).length, d3⟩ (C.nl 3) := ⟨HLN3.out, .inr HON3.out⟩
             have HT0 := hid (HN3.out.tg); have HSB0 := hid (sameBox HN3.out 0 (Sl.v ⟨n0, (C.nl 0).length, d0⟩))
             have hs0 := HN3.out.boxN0 ⟨n0, (C.nl 0).length, d0⟩ hL0
             have HT1 := hid (hs0.tg); have HSB1 := hid (sameBox hs0 1 (Sl.v ⟨n1, (C.nl 1).length, d1⟩))
             have hs1 := hs0.boxN1 ⟨n1, (C.nl 1).length, d1⟩ (hL1.same HT0.out.choose_spec.choose_spec (by decide) HSB0.out)
             have HT2 := hid (hs1.tg); have HSB2 := hid (sameBox hs1 2 (Sl.v ⟨n2, (C.nl 2).length, d2⟩))
             have hs2 := hs1.boxN2 ⟨n2, (C.nl 2).length, d2⟩ ((hL2.same HT0.out.choose_spec.choose_spec (by decide) HSB0.out).same HT1.out.choose_spec.choose_spec (by decide) HSB1.out)
             have hs3 := hs2.boxN3 ⟨n3, (C.nl 3).length, d3⟩ (((hL3.same HT0.out.choose_spec.choose_spec (by decide) HSB0.out).same HT1.out.choose_spec.choose_spec (by decide) HSB1.out).same HT2.out.choose_spec.choose_spec (by decide) HSB2.out)
             have HSF := hid hs3; have HBF := hid hs3.b
             clear hs0 hs1 hs2 hs3 hL0 hL1 hL2 hL3 hbx hcx hfx hlx
             have hbx := HSF.out.bx; have hb2 := HSF.out.b2
             have hcx := hbx.1; have hfx := hbx.2.1; have hlx := hbx.2.2; have hc2 := hb2.1; have hf2 := hb2.2.1; have hl2 := hb2.2.2
             go_wp2_with fail
             have hFIN : Hid (∀ Y, Same (fun i => i ≠ w.heap.size + 1) _ Y → RetH w C (.returned (valH ⟨⟨n0, (C.nl 0).length, d0⟩, ⟨n1, (C.nl 1).length, d1⟩, ⟨n2, (C.nl 2).length, d2⟩, ⟨n3, (C.nl 3).length, d3⟩, ⟨ae, es0.length, ce⟩, ⟨ad, ds.length, cd⟩, ⟨am, ms.length, cm⟩, ⟨aq, qs.length, cq⟩⟩)) Y) := hid (fun Y hs => HSF.out.own2 hs (hs.below HSF.out.b (fun i hi => by omega) HSF.out.b.size))
             refine bodyPost_ret (v := valH ⟨⟨n0, (C.nl 0).length, d0⟩, ⟨n1, (C.nl 1).length, d1⟩, ⟨n2, (C.nl 2).length, d2⟩, ⟨n3, (C.nl 3).length, d3⟩, ⟨ae, es0.length, ce⟩, ⟨ad, ds.length, cd⟩, ⟨am, ms.length, cm⟩, ⟨aq, qs.length, cq⟩⟩) (by simp [results, Tryz.results7, go_sem, hc2]) rfl (hFIN.out _ ?_)
             repeat (first | (with_reducible exact Same.refl' _) | (refine Same.setTail ?_ (fun hn => hn rfl)))
end Yd
