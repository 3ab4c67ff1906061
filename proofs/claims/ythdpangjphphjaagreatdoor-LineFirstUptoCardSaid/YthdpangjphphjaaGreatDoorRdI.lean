import Derived.Test.YthdpangjphphjaaGreatDoorRdG
import Derived.Test.YthdpangjphphjaaGreatDoorDigit
import Derived.Test.YthdpangjphphjaaGreatDoorProg
import Derived.Test.YthdpangjphphjaaGreatDoorShelf
set_option maxRecDepth 200000
set_option maxHeartbeats 8000000
namespace Yd
open Go Go.RowKit Go.Proofs
theorem rd_others {R p : Nat} {s l : Bs} {c : LnC} {n : LnS} (w : World) (h : RdC w R s p l c n) (hG : GlR R w) (rr : Int) (most : Nat) (pairs : Bool) (hmr : mostR rr = (most : Int)) (hrp : (rr == 115) = pairs) (hml : most ≤ 300) (hn : n.names.length ≤ 600) (hv : n.vers.length ≤ 600) :
   Calls Tryz.prog 80 #[.pointer (some ⟨R, 0, none⟩), .int .i32 rr] w (RdRes R s c w (fun _ : Unit => .tuple #[]) (match othersS pairs most (most + 1) 0 n.names n.vers l with | .error x => .error x | .ok (b, r) => .ok ((), { n with names := b.1, vers := b.2 }, r))) := by
 obtain ⟨Y, hY⟩ : ∃ Y : Except Er (Unit × LnS × Bs), Y = (match othersS pairs most (most + 1) 0 n.names n.vers l with | .error x => .error x | .ok (b, r) => .ok ((), { n with names := b.1, vers := b.2 }, r)) := ⟨_, rfl⟩
 rw [← hY]
 obtain ⟨X, hX⟩ : ∃ X : Except Er ((List Bs × List To) × Bs), X = othersS pairs most (most + 1) 0 n.names n.vers l := ⟨_, rfl⟩
 rw [← hX] at hY
 have HY1 : Hid (∀ x, X = .error x → Y = .error x) := hid (fun x hx => by rw [hY, hx])
 have HY2 : Hid (∀ b r, X = .ok (b, r) → Y = .ok ((), { n with names := b.1, vers := b.2 }, r)) := hid (fun b r hx => by rw [hY, hx])
 clear hY
 obtain ⟨i, z, hi, hz, hsize, hby', hzs⟩ := partsStr
 have HI := hid (⟨hi, hz, hsize, hby', hzs⟩ : _ ∧ _ ∧ _ ∧ _ ∧ _)
 have HX := hid hX; have HH := hid h; have HG := hid hG; have HN := hid (⟨hn, hv⟩ : _ ∧ _); have HMR := hid hmr; have HML := hid hml
 clear hX h hG hn hv hi hz hsize hby' hzs hml
 have HMO0 := hid (fun W => most_any rr W)
 clear hmr
 go_enter Tryz.func80, Tryz.ntmps80
 go_wp2_with fail
 go_loopw [4] (fun i wr => ∃ (W : World) (k f q : Nat) (l1 : Bs) (c1 : LnC) (n1 : LnS), W = wr ∧ i = .int .i64 k ∧ k ≤ most ∧ most + 1 ≤ f + k ∧ RdC W R s q l1 c1 n1 ∧ Mv R c c1 w W ∧ GlR R W ∧ othersS pairs most f k n1.names n1.vers l1 = X ∧ (∀ ns vs, { n1 with names := ns, vers := vs } = { n with names := ns, vers := vs }) ∧ n1.names.length ≤ 600 + k ∧ n1.vers.length ≤ 600 + k) (fun i _ => most - (RowKit.intOf i).toNat)
 case atStart => exact ⟨_, 0, most + 1, p, l, c, n, rfl, rfl, by omega, by omega, HH.out, Mv.refl _ _ _, HG.out, HX.out.symm, fun _ _ => rfl, HN.out.1, HN.out.2⟩
 case round =>
   obtain ⟨W, k, f, q, l1, c1, n1, rfl, rfl, hk, hf, hc, hm, hg, hx, hq, h1, h2⟩ := hrel
   obtain ⟨f, rfl⟩ : ∃ f', f = f' + 1 := ⟨f - 1, by omega⟩
   simp only [othersS] at hx
   have HC := hid hc; have HM := hid hm; have HGW := hid hg; have HXX := hid hx; have HQ := hid hq; have H12 := hid (⟨h1, h2⟩ : _ ∧ _); have HF := hid hf; have HK := hid hk
   have HMO := hid (rd_more W hc)
   clear hc hm hg hx hq h1 h2 hf
   go_wp2_with fail
   refine HMO.out.mono ?_
   intro e w2 he
   cases hmo : moreS l1 with
   | error x =>
     rw [hmo] at he
     obtain ⟨rfl, hs⟩ := he
     refine ⟨rfl, ?_⟩
     show RdRes R s c w _ _ _ _
     rw [HY1.out x (by have := HXX.out; rw [hmo] at this; exact this.symm)]
     exact ⟨rfl, HM.out.sameTrans hs⟩
   | ok br =>
     obtain ⟨bb, r⟩ := br
     rw [hmo] at he
     obtain ⟨rfl, q2, hc2, hm2⟩ := he
     have HC2 := hid hc2; have HM2 := hid (HM.out.trans hm2); have HG2 := hid (HGW.out.mv HC.out hm2.same)
     cases bb
     · have HX2 : Hid (X = .ok ((n1.names, n1.vers), r)) := hid (by have := HXX.out; rw [hmo] at this; exact this.symm)
       clear hc2 hm2 hmo
       go_wp2_with fail
       refine bodyPost_end (results_none rfl _ _ _) rfl ?_
       show RdRes R s c w _ _ _ _
       rw [HY2.out _ _ HX2.out, ← HQ.out]
       exact ⟨rfl, q2, c1, HC2.out, HM2.out⟩
     · have HX2 : Hid ((if k = most ∧ beginsS r = true then .error (r, 3) else match nameS r with
         | .error x => .error x
         | .ok (nm, r1) =>
           if pairs = true then match mustS r1 with
             | .error x => .error x
             | .ok r2 => match versS r2 with
               | .error x => .error x
               | .ok (v, r3) => othersS pairs most f (k + 1) (n1.names ++ [nm]) (n1.vers ++ [v]) r3
           else othersS pairs most f (k + 1) (n1.names ++ [nm]) n1.vers r1) = X) := hid (by have := HXX.out; rw [hmo] at this; exact this)
       have HNR : Hid ((Value.slice c1.na c1.nn c1.nc).ownBlock ≠ some R) := hid (hc2.n.2.1.far' (.inl (by omega)))
       have hcn := hc2.n.1.2.2.2.2.1
       have HN1 : Hid (n1.names.length + 1 = c1.nn + 1) := hid (by omega)
       have HN2 : Hid ((c1.nn + 1) * 16 ≤ 140737488355328) := hid (by have := H12.out; have := HML.out; omega)
       have HN3 : Hid (c1.nn + 1 ≤ maxLen) := hid (by have := H12.out; have := HML.out; unfold maxLen; omega)
       clear hcn
       by_cases hkm : k = most
       · have hev : ((k : Int) == mostR rr) = true := by rw [HMR.out, hkm]; exact beq_self_eq_true _
         have HKM := hid hkm
         clear hkm
         have HBG := hid (fun W (hb : Below w2.heap.size w2 W) => rd_begins W (hc2.below hb) (Utf8Tabs_below HG2.out.tabs hb))
         clear hc2 hm2 hmo
         go_wp2_with fail
         refine (HMO0.out w2).mono ?_
         rintro e w3' ⟨rfl, hb3'⟩
         have HB3' := hid hb3'
         clear hb3'
         go_wp2_with fail
         refine (HBG.out w3' HB3'.out).mono ?_
         rintro e w3 ⟨rfl, hb3⟩
         have HBW := hid (HB3'.out.trans (hb3.mono HB3'.out.size))
         clear hb3
         cases hbe : beginsS r
         · have HE : Hid (∀ x, nameS r = .error x → X = .error x) := hid (fun x hx => by rw [← HX2.out, if_neg (by rw [hbe]; simp), hx])
           have HNB : Hid (∀ mr, nameS r ≠ .ok mr) := hid (fun mr hx => by simp [nameS, hbe] at hx)
           have HC3 := hid (HC2.out.below HBW.out)
           have HM3 := hid (HM2.out.trans (Mv.of_below HBW.out))
           have HG3 := hid (HG2.out.mv HC2.out (Mv.of_below HBW.out : Mv R c1 c1 w2 w3).same)
           have HNM := hid (fun W (hb : Below w3.heap.size w3 W) => rd_name W (HC3.out.below hb) (Utf8Tabs_below HG3.out.tabs hb))
           have HB0 : Hid (Below w3.heap.size w3 w3.drew) := hid ((Below.refl _ _).drew)
           have RES : Hid (∀ ch w', (∃ (r' : Bs) (m : Int), nameS r = .error (r', m) ∧ ch = wrongP (s.length - r'.length) m ∧ Same (RdA R c1) w3.drew w') → RdRes R s c w (fun _ : Unit => .tuple #[]) Y (.panicked ch) w') := hid (by
             rintro ch w' ⟨r', m, h1, rfl, h2⟩
             rw [HY1.out _ (HE.out _ h1)]
             exact ⟨rfl, (HM3.out.trans (Mv.of_below HB0.out)).sameTrans h2⟩)
           go_wp2_with fail
           refine wp_region_ordP 13 [(0, 1), (1, 1), (2, 1), (3, 1), (4, 1), (5, 0), (6, 1), (7, 2), (8, 2), (9, 2), (10, 1), (11, 1), (12, 1), (13, 2)] (fun _ => True) (fun W' => W'.cell? ⟨R, 3, none⟩ = some (.slice c1.na c1.nn c1.nc)) (fun ch w' => ∃ (r' : Bs) (m : Int), nameS r = .error (r', m) ∧ ch = wrongP (s.length - r'.length) m ∧ Same (RdA R c1) w3.drew w') (by kernel_rfl) (by kernel_rfl) (fun ch a1 w1 hd hr => ⟨hd, RES.out ch w1 hr⟩) (trivial) (HC3.out.drew.c3) ?_
           repeat ((first | refine ordC_skip rfl rfl ?_ | refine ordC_skip1 rfl rfl ?_ | ((first | refine ordC_q rfl rfl ?_ | refine ordC_p rfl rfl ?_); apply Exists.intro; refine ⟨fun wS hS => ?_, ?_⟩; (go_simp; try with_reducible rfl))); simp only [Act.put, List.setIfInBounds_toArray, List.set_cons_zero, List.set_cons_succ])
           refine ordC_l rfl rfl (fun K hK => ?_)
           go_simp
           refine (HNM.out _ HB0.out).mono ?_
           intro e w4 he
           cases hnm : nameS r with
           | error x =>
             rw [hnm] at he
             obtain ⟨rfl, hs⟩ := he
             exact ⟨rfl, x.1, x.2, rfl, rfl, hs⟩
           | ok mr =>
           exact absurd hnm (HNB.out mr)
         · have HE : Hid (X = .error (r, 3)) := hid (by rw [← HX2.out, if_pos ⟨HKM.out, hbe⟩])
           have HC3 := hid (HC2.out.below HBW.out)
           have hc1 := HC3.out.x.1 1
           go_wp2_with fail
           refine (rd_fail q2 3 _).mono ?_
           rintro e w4 ⟨rfl, rfl⟩
           refine ⟨rfl, ?_⟩
           show RdRes R s c w _ _ _ _
           rw [HY1.out _ HE.out]
           have hlen := HC3.out.len
           exact ⟨by rw [show s.length - r.length = q2 by omega], (HM2.out.trans (Mv.of_below HBW.out)).same⟩
       · have hev : ((k : Int) == mostR rr) = false := by rw [HMR.out]; exact beq_eq_false_iff_ne.2 (by omega)
         have HE : Hid (∀ x, nameS r = .error x → X = .error x) := hid (fun x hx => by rw [← HX2.out, if_neg (fun e => hkm e.1), hx])
         clear hc2 hm2 hmo
         go_wp2_with fail
         refine (HMO0.out w2).mono ?_
         rintro e w3 ⟨rfl, hb3⟩
         have HBW := hid hb3
         clear hb3
         have HC3 := hid (HC2.out.below HBW.out)
         have HM3 := hid (HM2.out.trans (Mv.of_below HBW.out))
         have HG3 := hid (HG2.out.mv HC2.out (Mv.of_below HBW.out : Mv R c1 c1 w2 w3).same)
         have HNM := hid (fun W (hb : Below w3.heap.size w3 W) => rd_name W (HC3.out.below hb) (Utf8Tabs_below HG3.out.tabs hb))
         have HB0 : Hid (Below w3.heap.size w3 w3.drew) := hid ((Below.refl _ _).drew)
         have RES : Hid (∀ ch w', (∃ (r' : Bs) (m : Int), nameS r = .error (r', m) ∧ ch = wrongP (s.length - r'.length) m ∧ Same (RdA R c1) w3.drew w') → RdRes R s c w (fun _ : Unit => .tuple #[]) Y (.panicked ch) w') := hid (by
           rintro ch w' ⟨r', m, h1, rfl, h2⟩
           rw [HY1.out _ (HE.out _ h1)]
           exact ⟨rfl, (HM3.out.trans (Mv.of_below HB0.out)).sameTrans h2⟩)
         go_wp2_with fail
         refine wp_region_ordP 13 [(0, 1), (1, 1), (2, 1), (3, 1), (4, 1), (5, 0), (6, 1), (7, 2), (8, 2), (9, 2), (10, 1), (11, 1), (12, 1), (13, 2)] (fun _ => True) (fun W' => W'.cell? ⟨R, 3, none⟩ = some (.slice c1.na c1.nn c1.nc)) (fun ch w' => ∃ (r' : Bs) (m : Int), nameS r = .error (r', m) ∧ ch = wrongP (s.length - r'.length) m ∧ Same (RdA R c1) w3.drew w') (by kernel_rfl) (by kernel_rfl) (fun ch a1 w1 hd hr => ⟨hd, RES.out ch w1 hr⟩) (trivial) (HC3.out.drew.c3) ?_
         repeat ((first | refine ordC_skip rfl rfl ?_ | refine ordC_skip1 rfl rfl ?_ | ((first | refine ordC_q rfl rfl ?_ | refine ordC_p rfl rfl ?_); apply Exists.intro; refine ⟨fun wS hS => ?_, ?_⟩; (go_simp; try with_reducible rfl))); simp only [Act.put, List.setIfInBounds_toArray, List.set_cons_zero, List.set_cons_succ])
         refine ordC_l rfl rfl (fun K hK => ?_)
         go_simp
         refine (HNM.out _ HB0.out).mono ?_
         intro e w4 he
         cases hnm : nameS r with
         | error x =>
           rw [hnm] at he
           obtain ⟨rfl, hs⟩ := he
           exact ⟨rfl, x.1, x.2, rfl, rfl, hs⟩
         | ok mr =>
         obtain ⟨m, r4⟩ := mr
         rw [hnm] at he
         obtain ⟨rfl, p4, hc4, hm4⟩ := he
         have HC4 := hid hc4; have HM4 := hid ((HM3.out.trans (Mv.of_below HB0.out)).trans hm4); have HNX := hid hnm
         refine hK _ _ ⟨trivial, hc4.c3⟩ ?_
         have HN4 : Hid (R + 1 ≤ (w4.alloc (.cells #[.string ⟨m.toArray⟩] 9)).heap.size) := hid (by have := hc4.x.2.2; simp; omega)
         have HG4 := hid (HG3.out.mv HC3.out ((Mv.of_below HB0.out : Mv R c1 c1 w3 w3.drew).trans hm4).same)
         clear hK K hc4 hm4 hnm
         refine ordC_l rfl rfl (fun K hK => ?_)
         go_simp
         refine hK _ _ ⟨trivial, (HC4.out.below (belowA (Below.refl _ _) _)).c3⟩ ?_
         clear hK K
         refine ordC_l rfl rfl (fun K hK => ?_)
         refine wp_app _ _ 25 rfl i z 16 Tryz.underlying25 HI.out.1 HI.out.2.1 HI.out.2.2.1 HI.out.2.2.2.1 HI.out.2.2.2.2 rfl (HC4.out.n.2.1.alloc _) (some ⟨w4.heap.size, 0, none⟩) 1 1 (c1.nn + 1) [m] rfl (Row.str1 w4 m) HN1.out HN2.out HN3.out HN4.out ?_
         intro a' c' w5 hown5 hg5 hat5
         have hx5 := (HC4.out.x.keep (belowA (Below.refl _ _) (.cells #[.string ⟨m.toArray⟩] 9))).grown hg5 HNR.out
         have HAD := hid (HC4.out.addN (belowA (Below.refl _ _) (.cells #[.string ⟨m.toArray⟩] 9)) a' c' hown5 hg5 hat5)
         refine hK _ _ ⟨trivial, hx5.1 3⟩ ?_
         have hc3 := hx5.1 3; have hf3 := hx5.2.1 3
         clear hK K hown5 hg5 hat5 hx5
         repeat ((first | refine ordC_skip rfl rfl ?_ | refine ordC_skip1 rfl rfl ?_ | ((first | refine ordC_q rfl rfl ?_ | refine ordC_p rfl rfl ?_); apply Exists.intro; refine ⟨fun wS hS => ?_, ?_⟩; (go_simp; try with_reducible rfl))); simp only [Act.put, List.setIfInBounds_toArray, List.set_cons_zero, List.set_cons_succ])
         refine ordC_m rfl rfl rfl (fun K hK => ?_)
         go_simp
         refine hK _ _ trivial ?_
         clear hK K
         refine ordP_nil ?_
         have HK1 : Hid (k + 1 ≤ most) := hid (by have := HK.out; omega)
         have HX4 : Hid ((if pairs = true then match mustS r4 with
             | .error x => .error x
             | .ok r2 => match versS r2 with
               | .error x => .error x
               | .ok (v, r3) => othersS pairs most f (k + 1) (n1.names ++ [m]) (n1.vers ++ [v]) r3
           else othersS pairs most f (k + 1) (n1.names ++ [m]) n1.vers r4) = X) := hid (by have := HX2.out; rw [if_neg (fun e => hkm e.1), HNX.out] at this; exact this)
         have HA := hid HAD.out.1
         have HMA := hid (HM4.out.trans HAD.out.2)
         have HGA := hid (HG4.out.mv HC4.out HAD.out.2.same)
         have hwk : wrap64 ((k : Int) + 1) = ((k + 1 : Nat) : Int) := by have := HK1.out; have := HML.out; unfold wrap64; omega
         cases pairs
         · go_wp2_with fail
           go_roundw
           case rel => exact ⟨_, k + 1, f, p4, r4, _, _, rfl, by first | rfl | rw [hwk] | go_num, HK1.out, by have := HF.out; omega, HA.out, HMA.out, HGA.out, HX4.out, fun ns vs => HQ.out ns vs, by have := H12.out.1; simp; omega, by have := H12.out.2; show n1.vers.length ≤ _; omega⟩
           case measure => have := HK1.out; (try rw [hwk]); simp [RowKit.intOf] <;> omega
         · have HMU := hid (rd_must _ HA.out)
           go_wp2_with fail
           refine HMU.out.mono ?_
           intro e w6 he
           cases hmu : mustS r4 with
           | error x =>
             rw [hmu] at he
             obtain ⟨rfl, hs⟩ := he
             refine ⟨rfl, ?_⟩
             show RdRes R s c w _ _ _ _
             rw [HY1.out x (by have := HX4.out; rw [hmu] at this; exact this.symm)]
             exact ⟨rfl, HMA.out.sameTrans hs⟩
           | ok r6 =>
             rw [hmu] at he
             obtain ⟨rfl, q6, hc6, hm6⟩ := he
             have HX6 : Hid ((match versS r6 with
               | .error x => .error x
               | .ok (v, r3) => othersS true most f (k + 1) (n1.names ++ [m]) (n1.vers ++ [v]) r3) = X) := hid (by have := HX4.out; rw [hmu] at this; exact this)
             have HC6 := hid hc6; have HM6 := hid (HMA.out.trans hm6); have HG6 := hid (HGA.out.mv HA.out hm6.same)
             have HVE := hid (rd_version w6 hc6 HG6.out (by have := H12.out.2; have := HK1.out; have := HML.out; show n1.vers.length ≤ 1000; omega))
             clear hc6 hm6 hmu
             go_wp2_with fail
             refine HVE.out.mono ?_
             intro e w7 he
             cases hve : versS r6 with
             | error x =>
               rw [hve] at he
               obtain ⟨rfl, hs⟩ := he
               refine ⟨rfl, ?_⟩
               show RdRes R s c w _ _ _ _
               rw [HY1.out x (by have := HX6.out; rw [hve] at this; exact this.symm)]
               exact ⟨rfl, HM6.out.sameTrans hs⟩
             | ok vr =>
               obtain ⟨v, r7⟩ := vr
               rw [hve] at he
               obtain ⟨rfl, q7, c7, hc7, hm7⟩ := he
               have HX7 : Hid (othersS true most f (k + 1) (n1.names ++ [m]) (n1.vers ++ [v]) r7 = X) := hid (by have := HX6.out; rw [hve] at this; exact this)
               have HC7 := hid hc7; have HM7 := hid (HM6.out.trans hm7); have HG7 := hid (HG6.out.mv HC6.out hm7.same)
               clear hc7 hm7 hve
               go_wp2_with fail
               go_roundw
               case rel => exact ⟨_, k + 1, f, q7, r7, _, _, rfl, by first | rfl | rw [hwk] | go_num, HK1.out, by have := HF.out; omega, HC7.out, HM7.out, HG7.out, HX7.out, fun ns vs => HQ.out ns vs, by have := H12.out.1; simp; omega, by have := H12.out.2; simp; omega⟩
               case measure => have := HK1.out; (try rw [hwk]); simp [RowKit.intOf] <;> omega
end Yd


namespace Yd
open Go Go.RowKit Go.Proofs

theorem mkF1 (W : World) : (Instr.makeSlice 114 (.int .i64 1) (.int .i64 1)).run Tryz.prog W = .ok (.slice (some ⟨W.heap.size, 0, none⟩) 1 1) (W.alloc (.cells #[.nilFunc] 1)) := by kernel_rfl
theorem mkF2 (W : World) : (Instr.makeSlice 114 (.int .i64 2) (.int .i64 2)).run Tryz.prog W = .ok (.slice (some ⟨W.heap.size, 0, none⟩) 2 2) (W.alloc (.cells #[.nilFunc, .nilFunc] 1)) := by kernel_rfl
theorem cp1 (W : World) (b B i n m c c' : Nat) (v : Value) (hs : W.cell? ⟨b, 0, none⟩ = some v) (h1 : v.oneCell' = true) (hc : (W.cell? ⟨B, i, none⟩).isSome = true) (hf : W.frozen? ⟨B, i, none⟩ = false) (hn : 1 = Nat.min m n) :
   (Builtin.copy_ #[114, 114] 3 #[.slice (some ⟨B, i, none⟩) n c, .slice (some ⟨b, 0, none⟩) m c']).run Tryz.prog W = .ok (goInt 1) (W.setCell ⟨B, i, none⟩ v) := by
 have h := run_copy_cells (P := Tryz.prog) W 114 114 3 1 B i n c ⟨b, 0, none⟩ m c' [v] (by kernel_rfl) (by kernel_rfl) hn (fun j u hj => by
   obtain rfl : j = 0 := by have := (List.getElem?_eq_some_iff.1 hj).1; simpa using this
   simpa [Addr.add] using hs.trans hj) (fun j hj => by obtain rfl : j = 0 := by simpa using hj
                                                       exact hc) (fun j hj => by obtain rfl : j = 0 := by simpa using hj
                                                                                 exact hf) (fun u hu => by simp at hu; subst hu; exact h1)
 simp only [World.setCells] at h
 exact h
theorem rd_rep1 (w : World) (b : Nat) (v : Value) (hb : b < w.heap.size) (hv : w.cell? ⟨b, 0, none⟩ = some v) (h1 : v.oneCell' = true) :
   Calls Tryz.prog 73 #[.slice (some ⟨b, 0, none⟩) 1 1, .int .i64 1] w (fun e w' => e = .returned (.slice (some ⟨w.heap.size, 0, none⟩) 1 1) ∧ Below w.heap.size w w' ∧ Bx w' w.heap.size #[v]) := by
 have hmk := mkF1
 have HMUL := hid (fun W => Tryz.bits_Mul 1 1 (by decide) (by decide) W)
 go_enter Tryz.func73, Tryz.ntmps73
 go_wp2_with fail
 refine (HMUL.out w).mono ?_
 rintro e w2 ⟨rfl, rfl⟩
 have HBX := Bx.new w2 #[.nilFunc] 1
 have hcell : (w2.alloc (.cells #[.nilFunc] 1)).cell? ⟨b, 0, none⟩ = some v := by
   have := (belowA (Below.refl w2.heap.size w2) (.cells #[.nilFunc] 1)).cell (p := ⟨b, 0, none⟩) hb
   rw [this]; exact hv
 have hcp := cp1 (w2.alloc (.cells #[.nilFunc] 1)) b w2.heap.size 0 1 1 1 1 v hcell h1 (by rw [HBX.1 0]; rfl) (HBX.2.1 0) rfl
 obtain ⟨W, hW⟩ : ∃ W, W = (w2.alloc (.cells #[.nilFunc] 1)).setCell ⟨w2.heap.size, 0, none⟩ v := ⟨_, rfl⟩
 have HEND : Hid (Below w2.heap.size w2 W ∧ Bx W w2.heap.size #[v]) := hid (by
   rw [hW]
   exact ⟨(belowA (Below.refl w2.heap.size w2) _).setCell (p := ⟨w2.heap.size, 0, none⟩) (Nat.le_refl w2.heap.size) _, HBX.setC 0 (by simp) v⟩)
 rw [← hW] at hcp
 clear hW
 go_wp2_with fail
 go_loopw [8] (fun i wr => wr = W ∧ i = .int .i64 1) (fun i _ => 0)
 case atStart => exact ⟨rfl, rfl⟩
 case round =>
   obtain ⟨rfl, rfl⟩ := hrel
   go_wp2_with fail
   go_ret
   exact ⟨rfl, HEND.out.1, HEND.out.2⟩
theorem rd_rep2 (w : World) (b : Nat) (v : Value) (hb : b < w.heap.size) (hv : w.cell? ⟨b, 0, none⟩ = some v) (h1 : v.oneCell' = true) :
   Calls Tryz.prog 73 #[.slice (some ⟨b, 0, none⟩) 1 1, .int .i64 2] w (fun e w' => e = .returned (.slice (some ⟨w.heap.size, 0, none⟩) 2 2) ∧ Below w.heap.size w w' ∧ Bx w' w.heap.size #[v, v]) := by
 have hmk := mkF2
 have HMUL := hid (fun W => Tryz.bits_Mul 1 2 (by decide) (by decide) W)
 go_enter Tryz.func73, Tryz.ntmps73
 go_wp2_with fail
 refine (HMUL.out w).mono ?_
 rintro e w2 ⟨rfl, rfl⟩
 have HBX := Bx.new w2 #[.nilFunc, .nilFunc] 1
 have hcell : (w2.alloc (.cells #[.nilFunc, .nilFunc] 1)).cell? ⟨b, 0, none⟩ = some v := by
   have := (belowA (Below.refl w2.heap.size w2) (.cells #[.nilFunc, .nilFunc] 1)).cell (p := ⟨b, 0, none⟩) hb
   rw [this]; exact hv
 have hcp := cp1 (w2.alloc (.cells #[.nilFunc, .nilFunc] 1)) b w2.heap.size 0 2 1 2 1 v hcell h1 (by rw [HBX.1 0]; rfl) (HBX.2.1 0) rfl
 obtain ⟨W, hW⟩ : ∃ W, W = (w2.alloc (.cells #[.nilFunc, .nilFunc] 1)).setCell ⟨w2.heap.size, 0, none⟩ v := ⟨_, rfl⟩
 have HEND : Hid (Below w2.heap.size w2 W ∧ Bx W w2.heap.size #[v, .nilFunc]) := hid (by
   rw [hW]
   exact ⟨(belowA (Below.refl w2.heap.size w2) _).setCell (p := ⟨w2.heap.size, 0, none⟩) (Nat.le_refl w2.heap.size) _, HBX.setC 0 (by simp) v⟩)
 rw [← hW] at hcp
 clear hW
 go_wp2_with fail
 go_loopw [8] (fun i wr => (wr = W ∧ i = .int .i64 1) ∨ (i = .int .i64 2 ∧ Below w2.heap.size w2 wr ∧ Bx wr w2.heap.size #[v, v])) (fun i _ => 2 - (RowKit.intOf i).toNat)
 case atStart => exact .inl ⟨rfl, rfl⟩
 case round =>
   rcases hrel with ⟨rfl, rfl⟩ | ⟨rfl, hb2, hx2⟩
   · have HD : Hid (Bx wr.drew w2.heap.size #[v, .nilFunc]) := hid ⟨HEND.out.2.1, HEND.out.2.2.1, HEND.out.2.2.2⟩
     have hcp2 := cp1 wr.drew w2.heap.size w2.heap.size 1 1 1 1 2 v (HD.out.1 0) h1 (by rw [HD.out.1 1]; rfl) (HD.out.2.1 1) rfl
     have HE2 : Hid (Below w2.heap.size w2 (wr.drew.setCell ⟨w2.heap.size, 1, none⟩ v) ∧ Bx (wr.drew.setCell ⟨w2.heap.size, 1, none⟩ v) w2.heap.size #[v, v]) := hid ⟨HEND.out.1.drew.setCell (p := ⟨w2.heap.size, 1, none⟩) (Nat.le_refl w2.heap.size) _, HD.out.setC 1 (by simp) v⟩
     go_wp2_with fail
     refine wp_region_ordC 7 [(0, 1), (1, 1), (2, 1), (3, 1), (4, 1), (5, 1), (6, 1), (7, 2), (8, 1), (9, 1)] (fun _ => True) (fun _ => True) (by kernel_rfl) (by kernel_rfl) (trivial) (trivial) ?_
     repeat ((first | refine ordC_skip rfl rfl ?_ | refine ordC_skip1 rfl rfl ?_ | ((first | refine ordC_q rfl rfl ?_ | refine ordC_p rfl rfl ?_); apply Exists.intro; refine ⟨fun wS hS => ?_, ?_⟩; (go_simp; try with_reducible rfl))); simp only [Act.put, List.setIfInBounds_toArray, List.set_cons_zero, List.set_cons_succ])
     refine ordC_m rfl rfl rfl (fun K hK => ?_)
     go_simp
     refine hK _ _ trivial ?_
     clear hK K
     repeat ((first | refine ordC_skip rfl rfl ?_ | refine ordC_skip1 rfl rfl ?_ | ((first | refine ordC_q rfl rfl ?_ | refine ordC_p rfl rfl ?_); apply Exists.intro; refine ⟨fun wS hS => ?_, ?_⟩; (go_simp; try with_reducible rfl))); simp only [Act.put, List.setIfInBounds_toArray, List.set_cons_zero, List.set_cons_succ])
     refine ordC_nil ?_
     go_wp2_with fail
     go_roundw
     case rel => exact .inr ⟨rfl, HE2.out.1, HE2.out.2⟩
     case measure => decide
   · have HE2 := hid (⟨hb2, hx2⟩ : _ ∧ _)
     go_wp2_with fail
     go_ret
     exact ⟨rfl, HE2.out.1, HE2.out.2⟩
end Yd
