import Derived.Test.YthdpangjphphjaaGreatDoorRdO
import Derived.Test.YthdpangjphphjaaGreatDoorProg
import Derived.Test.YthdpangjphphjaaGreatDoorLines
set_option maxRecDepth 200000
set_option maxHeartbeats 8000000
namespace Yd
open Go Go.RowKit Go.Proofs

theorem or_tab : ∀ k : Fin 4, ∀ b : Fin 8, b.val < 2 ^ k.val → Go.bits .or .i64 (b.val : Int) (2 ^ k.val : Int) = (b.val : Int) + 2 ^ k.val := by decide
theorem or_bit (k b : Nat) (hk : k < 4) (hb : b < 2 ^ k) : Go.bits .or .i64 (b : Int) (2 ^ k : Int) = (b : Int) + 2 ^ k := by
 have h8 : b < 8 := Nat.lt_of_lt_of_le hb (by
   have : k ≤ 3 := by omega
   exact Nat.le_trans (Nat.pow_le_pow_right (by decide) this) (by decide))
 exact or_tab ⟨k, hk⟩ ⟨b, h8⟩ hb
theorem wrap_bit (k i : Nat) (h : k + i < 4) : wrap64 ((k : Int) + (i : Int)) = ((k + i : Nat) : Int) := by
 unfold wrap64; omega
theorem wrap_bit1 (k i : Nat) (h : k + i < 4) : wrap64 ((k : Int) + (i : Int) + 1) = ((k + i + 1 : Nat) : Int) := by
 unfold wrap64; omega
theorem shl_tab (m : Nat) (h : m < 4) (W : World) : (Go.Op.shift .shl .i64 1 .i64 (m : Int)).run Tryz.prog W = .ok (.int .i64 (2 ^ m)) W := by
 rcases (by omega : m = 0 ∨ m = 1 ∨ m = 2 ∨ m = 3) with rfl | rfl | rfl | rfl <;> rfl
theorem shl_bit (k i : Nat) (h : k + i < 4) (W : World) : (Go.Op.shift .shl .i64 1 .i64 ((k : Int) + (i : Int))).run Tryz.prog W = .ok (.int .i64 (2 ^ (k + i))) W := by
 have := shl_tab (k + i) h W
 simpa using this
theorem guard_row {w : World} (hg : GlobL w) (k : Nat) (hk : k ≤ 4) : Row w 1 encStr (some ⟨1, k, none⟩) (4 - k) (4 - k) (guardL.drop k) := by
 refine ⟨by simp [guardL], Nat.le_refl _, by omega, fun h => (by cases h), fun i x hx => ⟨1, k, rfl, fun j v hv => ?_⟩⟩
 rw [List.getElem?_drop] at hx
 have hi : k + i < 4 := by
   have := (List.getElem?_eq_some_iff.1 hx).1
   simpa [guardL] using this
 obtain rfl : j = 0 := by
   have := (List.getElem?_eq_some_iff.1 hv).1
   simpa [encStr] using this
 have hv' : v = .string ⟨x.toArray⟩ := by simpa [encStr] using hv.symm
 have hx' : x = guardT (k + i) := by
   have h4 : ∀ m, m < 4 → guardL[m]? = some (guardT m) := fun m hm => by
     rcases (by omega : m = 0 ∨ m = 1 ∨ m = 2 ∨ m = 3) with rfl | rfl | rfl | rfl <;> rfl
   rw [h4 _ hi] at hx
   injection hx with hx; exact hx.symm
 have := hg.2.2.1 (k + i) hi
 rw [hv', hx']
 simpa using this
def gOff (k : Nat) : Nat := if k = 4 then 0 else k
theorem sl_guards (k : Nat) (hk : k ≤ 4) (W : World) : (Instr.sliceAt 80 (.pointer (some ⟨1, 0, none⟩)) (some (.int .i64 (k : Int))) none none).run Tryz.prog W = .ok (.slice (some ⟨1, gOff k, none⟩) (4 - k) (4 - k)) W := by
 rcases (by omega : k = 0 ∨ k = 1 ∨ k = 2 ∨ k = 3 ∨ k = 4) with rfl | rfl | rfl | rfl | rfl <;> kernel_rfl
theorem guard_row2 {w : World} (hg : GlobL w) (k : Nat) (hk : k ≤ 4) : Row w 1 encStr (some ⟨1, gOff k, none⟩) (4 - k) (4 - k) (guardL.drop k) := by
 by_cases h4 : k = 4
 · subst h4
   exact ⟨rfl, Nat.le_refl _, by omega, fun h => (by cases h), fun i x hx => by simp [guardL] at hx⟩
 · unfold gOff; rw [if_neg h4]; exact guard_row hg k hk
theorem guardL_ok : (∀ x ∈ guardL, x.length ≤ 100) ∧ (∀ x ∈ guardL, (128 : UInt8) ∉ x) := by decide
theorem rd_guarantees {R p : Nat} {s l : Bs} {c : LnC} {n : LnS} (w : World) (h : RdC w R s p l c n) (hG : GlR R w) (hb : n.bits = 0) :
   Calls Tryz.prog 78 #[.pointer (some ⟨R, 0, none⟩)] w (RdRes R s c w (fun _ : Unit => .tuple #[]) (match guarS 5 0 0 l with | .error x => .error x | .ok (b, r) => .ok ((), { n with bits := b }, r))) := by
 obtain ⟨Y, hY⟩ : ∃ Y : Except Er (Unit × LnS × Bs), Y = (match guarS 5 0 0 l with | .error x => .error x | .ok (b, r) => .ok ((), { n with bits := b }, r)) := ⟨_, rfl⟩
 rw [← hY]
 have HY1 : Hid (∀ x, guarS 5 0 0 l = .error x → Y = .error x) := hid (fun x hx => by rw [hY, hx])
 have HY2 : Hid (∀ b r, guarS 5 0 0 l = .ok (b, r) → Y = .ok ((), { n with bits := b }, r)) := hid (fun b r hx => by rw [hY, hx])
 clear hY
 obtain ⟨X, hX⟩ : ∃ X : Except Er (Int × Bs), X = guarS 5 0 0 l := ⟨_, rfl⟩
 rw [← hX] at HY1 HY2
 have HX := hid hX; have HH := hid h; have HG := hid hG; have HN : Hid (n = { n with bits := 0 }) := hid (by cases n; simp at hb; subst hb; rfl)
 clear hX h hG hb
 go_enter Tryz.func78, Tryz.ntmps78
 go_wp2_with fail
 go_loopw [2] (fun i wr => ∃ (W : World) (k f q b : Nat) (l1 : Bs) (c1 : LnC), W = wr ∧ i = .int .i64 k ∧ k ≤ 4 ∧ 5 ≤ f + k ∧ b < 2 ^ k ∧ RdC W R s q l1 c1 { n with bits := b } ∧ Mv R c c1 w W ∧ GlR R W ∧ guarS f k b l1 = X) (fun i _ => 4 - (RowKit.intOf i).toNat)
 case atStart => exact ⟨_, 0, 5, p, 0, l, c, rfl, rfl, by omega, by omega, by decide, by have := HH.out; rw [HN.out] at this; exact this, Mv.refl _ _ _, HG.out, HX.out.symm⟩
 case round =>
   obtain ⟨W, k, f, q, b, l1, c1, rfl, rfl, hk, hf, hbk, hc, hm, hg, hx⟩ := hrel
   obtain ⟨f, rfl⟩ : ∃ f', f = f' + 1 := ⟨f - 1, by omega⟩
   simp only [guarS] at hx
   have HC := hid hc; have HM := hid hm; have HGW := hid hg; have HXX := hid hx; have HBK := hid hbk; have HF := hid hf
   have HMO := hid (rd_more W hc)
   clear hc hm hg hx hbk
   go_wp2_with fail
   refine HMO.out.mono ?_
   intro e w2 he
   cases hmo : moreS l1 with
   | error x =>
     rw [hmo] at he
     obtain ⟨rfl, hs⟩ := he
     refine ⟨rfl, ?_⟩
     show RdRes R s c w _ _ _ _
     rw [HY1.out x (by have := HXX.out; rw [hmo] at this; exact this.symm)]
     exact ⟨rfl, HM.out.sameTrans hs⟩
   | ok br =>
     obtain ⟨bb, r⟩ := br
     rw [hmo] at he
     obtain ⟨rfl, q2, hc2, hm2⟩ := he
     have HC2 := hid hc2; have HM2 := hid (HM.out.trans hm2); have HG2 := hid (HGW.out.mv HC.out hm2.same)
     cases bb
     · have HX2 : Hid (X = .ok ((b : Int), r)) := hid (by have := HXX.out; rw [hmo] at this; exact this.symm)
       clear hc2 hm2 hmo
       go_wp2_with fail
       refine bodyPost_end (results_none rfl _ _ _) rfl ?_
       show RdRes R s c w _ _ _ _
       rw [HY2.out _ _ HX2.out]
       exact ⟨rfl, q2, c1, HC2.out, HM2.out⟩
     · have HX2 : Hid ((match wordS (guardL.drop k) r with | .error x => .error x | .ok (i, r') => guarS f (k + i + 1) ((b : Int) + 2 ^ (k + i)) r') = X) := hid (by have := HXX.out; rw [hmo] at this; exact this)
       have hsg := fun W => sl_guards k hk W
       have HW := hid (rd_word w2 hc2 (some ⟨1, gOff k, none⟩) (4 - k) (4 - k) (guardL.drop k) (guard_row2 HG2.out.l k hk) (by omega) (fun x hx => guardL_ok.1 x (List.mem_of_mem_drop hx)) (fun x hx => guardL_ok.2 x (List.mem_of_mem_drop hx)))
       clear hc2 hm2 hmo
       go_wp2_with fail
       refine HW.out.mono ?_
       intro e w3 he
       cases hwo : wordS (guardL.drop k) r with
       | error x =>
         rw [hwo] at he
         obtain ⟨rfl, hs⟩ := he
         refine ⟨rfl, ?_⟩
         show RdRes R s c w _ _ _ _
         rw [HY1.out x (by have := HX2.out; rw [hwo] at this; exact this.symm)]
         exact ⟨rfl, HM2.out.sameTrans hs⟩
       | ok ir =>
         obtain ⟨i, r3⟩ := ir
         rw [hwo] at he
         obtain ⟨rfl, q3, hc3, hm3⟩ := he
         have hi : k + i < 4 := by
           unfold wordS at hwo
           split at hwo
           · rename_i j hj
             injection hwo with hwo
             injection hwo with hwo _
             have := (List.findIdx?_eq_some_iff_getElem.1 hj).1
             subst hwo
             simp [guardL] at this
             omega
           · cases hwo
         have HX3 : Hid (guarS f (k + i + 1) ((b : Int) + 2 ^ (k + i)) r3 = X) := hid (by have := HX2.out; rw [hwo] at this; exact this)
         have hor := or_bit (k + i) b hi (Nat.lt_of_lt_of_le HBK.out (Nat.pow_le_pow_right (by decide) (by omega)))
         have HC3 := hid hc3; have HM3 := hid (HM2.out.trans hm3); have HG3 := hid (HG2.out.mv HC2.out hm3.same); have HI := hid hi; have HOR := hid hor
         clear hc3 hm3 hwo hi hor
         have H7 : Hid (w3.cell? ⟨R, 7, none⟩ = some (.int .i64 (b : Int))) := hid (by have h := HC3.out.x.1 7; have hb : c1.bits = (b : Int) := HC3.out.n.1.2.2.2.1; rw [← hb]; exact h)
         have hc7 := H7.out; have hf7 := f1 HC3.out 7; have hsh := fun W => shl_bit k i HI.out W; have hor := HOR.out
         go_wp2_with fail
         rw [wrap_bit k i HI.out]
         refine wp_region_ordC 11 [(0, 1), (1, 1), (2, 1), (3, 1), (4, 0), (5, 1), (6, 1), (7, 0), (8, 1), (9, 1), (10, 1), (11, 2)] (fun _ => True) (fun W' => W'.cell? ⟨R, 7, none⟩ = some (.int .i64 (b : Int))) (by kernel_rfl) (by kernel_rfl) (trivial) (H7.out) ?_
         repeat ((first | refine ordC_skip rfl rfl ?_ | refine ordC_skip1 rfl rfl ?_ | ((first | refine ordC_q rfl rfl ?_ | refine ordC_p rfl rfl ?_); apply Exists.intro; refine ⟨fun wS hS => ?_, ?_⟩; (go_simp; try with_reducible rfl))); simp only [Act.put, List.setIfInBounds_toArray, List.set_cons_zero, List.set_cons_succ])
         refine ordC_m rfl rfl rfl (fun K hK => ?_)
         go_simp
         refine hK _ _ trivial ?_
         clear hK K
         refine ordC_nil ?_
         have h4 := HC3.out.setCellR 7 (.int .i64 ((b : Int) + 2 ^ (k + i))) { c1 with bits := (b : Int) + 2 ^ (k + i) } { n with bits := (b : Int) + 2 ^ (k + i) } (by decide) rfl ⟨rfl, rfl, rfl, rfl, rfl, rfl⟩ ⟨rfl, rfl⟩ ⟨HC3.out.n.1.1, HC3.out.n.1.2.1, HC3.out.n.1.2.2.1, rfl⟩
         have HC4 := hid h4.1.drew; have HM4 := hid (HM3.out.trans (h4.2.trans (Mv.of_below (Below.refl _ _).drew))); have HG4 := hid (HG3.out.mv HC3.out (h4.2.trans (Mv.of_below (Below.refl _ _).drew)).same)
         clear h4
         go_wp2_with fail
         go_roundw
         case rel => exact ⟨_, k + i + 1, f, q3, b + 2 ^ (k + i), r3, _, rfl, by rw [wrap_bit1 k i HI.out], by have := HI.out; omega, by have := HF.out; omega, by have := HBK.out; have : 2 ^ k ≤ 2 ^ (k + i) := Nat.pow_le_pow_right (by decide) (by omega); rw [Nat.pow_succ]; omega, by have := HC4.out; simpa using this, HM4.out, HG4.out, by have := HX3.out; simpa using this⟩
         case measure => have := HI.out; rw [wrap_bit1 k i HI.out]; simp [RowKit.intOf] <;> omega
end Yd


namespace Yd
open Go Go.RowKit Go.Proofs
theorem rd_others {R p : Nat} {s l : Bs} {c : LnC} {n : LnS} (w : World) (h : RdC w R s p l c n) (hG : GlR R w) (rr : Int) (most : Nat) (pairs : Bool) (hmr : mostR rr = (most : Int)) (hrp : (rr == 115) = pairs) (hml : most ≤ 300) (hn : n.names.length ≤ 600) (hv : n.vers.length ≤ 600) :
   Calls Tryz.prog 80 #[.pointer (some ⟨R, 0, none⟩), .int .i32 rr] w (RdRes R s c w (fun _ : Unit => .tuple #[]) (match othersS pairs most (most + 1) 0 n.names n.vers l with | .error x => .error x | .ok (b, r) => .ok ((), { n with names := b.1, vers := b.2 }, r))) := by
 obtain ⟨Y, hY⟩ : ∃ Y : Except Er (Unit × LnS × Bs), Y = (match othersS pairs most (most + 1) 0 n.names n.vers l with | .error x => .error x | .ok (b, r) => .ok ((), { n with names := b.1, vers := b.2 }, r)) := ⟨_, rfl⟩
 rw [← hY]
 obtain ⟨X, hX⟩ : ∃ X : Except Er ((List Bs × List To) × Bs), X = othersS pairs most (most + 1) 0 n.names n.vers l := ⟨_, rfl⟩
 rw [← hX] at hY
 have HY1 : Hid (∀ x, X = .error x → Y = .error x) := hid (fun x hx => by rw [hY, hx])
 have HY2 : Hid (∀ b r, X = .ok (b, r) → Y = .ok ((), { n with names := b.1, vers := b.2 }, r)) := hid (fun b r hx => by rw [hY, hx])
 clear hY
 obtain ⟨i, z, hi, hz, hsize, hby', hzs⟩ := partsStr
 have HI := hid (⟨hi, hz, hsize, hby', hzs⟩ : _ ∧ _ ∧ _ ∧ _ ∧ _)
 have HX := hid hX; have HH := hid h; have HG := hid hG; have HN := hid (⟨hn, hv⟩ : _ ∧ _); have HMR := hid hmr; have HML := hid hml
 clear hX h hG hn hv hi hz hsize hby' hzs hml
 have HMO0 := hid (fun W => most_any rr W)
 clear hmr
 go_enter Tryz.func80, Tryz.ntmps80
 go_wp2_with fail
 go_loopw [4] (fun i wr => ∃ (W : World) (k f q : Nat) (l1 : Bs) (c1 : LnC) (n1 : LnS), W = wr ∧ i = .int .i64 k ∧ k ≤ most ∧ most + 1 ≤ f + k ∧ RdC W R s q l1 c1 n1 ∧ Mv R c c1 w W ∧ GlR R W ∧ othersS pairs most f k n1.names n1.vers l1 = X ∧ (∀ ns vs, { n1 with names := ns, vers := vs } = { n with names := ns, vers := vs }) ∧ n1.names.length ≤ 600 + k ∧ n1.vers.length ≤ 600 + k) (fun i _ => most - (RowKit.intOf i).toNat)
 case atStart => exact ⟨_, 0, most + 1, p, l, c, n, rfl, rfl, by omega, by omega, HH.out, Mv.refl _ _ _, HG.out, HX.out.symm, fun _ _ => rfl, HN.out.1, HN.out.2⟩
 case round =>
   obtain ⟨W, k, f, q, l1, c1, n1, rfl, rfl, hk, hf, hc, hm, hg, hx, hq, h1, h2⟩ := hrel
   obtain ⟨f, rfl⟩ : ∃ f', f = f' + 1 := ⟨f - 1, by omega⟩
   simp only [othersS] at hx
   have HC := hid hc; have HM := hid hm; have HGW := hid hg; have HXX := hid hx; have HQ := hid hq; have H12 := hid (⟨h1, h2⟩ : _ ∧ _); have HF := hid hf; have HK := hid hk
   have HMO := hid (rd_more W hc)
   clear hc hm hg hx hq h1 h2 hf
   go_wp2_with fail
   refine HMO.out.mono ?_
   intro e w2 he
   cases hmo : moreS l1 with
   | error x =>
     rw [hmo] at he
     obtain ⟨rfl, hs⟩ := he
     refine ⟨rfl, ?_⟩
     show RdRes R s c w _ _ _ _
     rw [HY1.out x (by have := HXX.out; rw [hmo] at this; exact this.symm)]
     exact ⟨rfl, HM.out.sameTrans hs⟩
   | ok br =>
     obtain ⟨bb, r⟩ := br
     rw [hmo] at he
     obtain ⟨rfl, q2, hc2, hm2⟩ := he
     have HC2 := hid hc2; have HM2 := hid (HM.out.trans hm2); have HG2 := hid (HGW.out.mv HC.out hm2.same)
     cases bb
     · have HX2 : Hid (X = .ok ((n1.names, n1.vers), r)) := hid (by have := HXX.out; rw [hmo] at this; exact this.symm)
       clear hc2 hm2 hmo
       go_wp2_with fail
       refine bodyPost_end (results_none rfl _ _ _) rfl ?_
       show RdRes R s c w _ _ _ _
       rw [HY2.out _ _ HX2.out, ← HQ.out]
       exact ⟨rfl, q2, c1, HC2.out, HM2.out⟩
     · have HX2 : Hid ((if k = most ∧ beginsS r = true then .error (r, 3) else match nameS r with
         | .error x => .error x
         | .ok (nm, r1) =>
           if pairs = true then match mustS r1 with
             | .error x => .error x
             | .ok r2 => match versS r2 with
               | .error x => .error x
               | .ok (v, r3) => othersS pairs most f (k + 1) (n1.names ++ [nm]) (n1.vers ++ [v]) r3
           else othersS pairs most f (k + 1) (n1.names ++ [nm]) n1.vers r1) = X) := hid (by have := HXX.out; rw [hmo] at this; exact this)
       have HNR : Hid ((Value.slice c1.na c1.nn c1.nc).ownBlock ≠ some R) := hid (hc2.n.2.1.far' (.inl (by omega)))
       have hcn := hc2.n.1.2.2.2.2.1
       have HN1 : Hid (n1.names.length + 1 = c1.nn + 1) := hid (by omega)
       have HN2 : Hid ((c1.nn + 1) * 16 ≤ 140737488355328) := hid (by have := H12.out; have := HML.out; omega)
       have HN3 : Hid (c1.nn + 1 ≤ maxLen) := hid (by have := H12.out; have := HML.out; unfold maxLen; omega)
       clear hcn
       by_cases hkm : k = most
       · have hev : ((k : Int) == mostR rr) = true := by rw [HMR.out, hkm]; exact beq_self_eq_true _
         have HKM := hid hkm
         clear hkm
         have HBG := hid (fun W (hb : Below w2.heap.size w2 W) => rd_begins W (hc2.below hb) (Utf8Tabs_below HG2.out.tabs hb))
         clear hc2 hm2 hmo
         go_wp2_with fail
         refine (HMO0.out w2).mono ?_
         rintro e w3' ⟨rfl, hb3'⟩
         have HB3' := hid hb3'
         clear hb3'
         go_wp2_with fail
         refine (HBG.out w3' HB3'.out).mono ?_
         rintro e w3 ⟨rfl, hb3⟩
         have HBW := hid (HB3'.out.trans (hb3.mono HB3'.out.size))
         clear hb3
         cases hbe : beginsS r
         · have HE : Hid (∀ x, nameS r = .error x → X = .error x) := hid (fun x hx => by rw [← HX2.out, if_neg (by rw [hbe]; simp), hx])
           have HNB : Hid (∀ mr, nameS r ≠ .ok mr) := hid (fun mr hx => by simp [nameS, hbe] at hx)
           have HC3 := hid (HC2.out.below HBW.out)
           have HM3 := hid (HM2.out.trans (Mv.of_below HBW.out))
           have HG3 := hid (HG2.out.mv HC2.out (Mv.of_below HBW.out : Mv R c1 c1 w2 w3).same)
           have HNM := hid (fun W (hb : Below w3.heap.size w3 W) => rd_name W (HC3.out.below hb) (Utf8Tabs_below HG3.out.tabs hb))
           have HB0 : Hid (Below w3.heap.size w3 w3.drew) := hid ((Below.refl _ _).drew)
           have RES : Hid (∀ ch w', (∃ (r' : Bs) (m : Int), nameS r = .error (r', m) ∧ ch = wrongP (s.length - r'.length) m ∧ Same (RdA R c1) w3.drew w') → RdRes R s c w (fun _ : Unit => .tuple #[]) Y (.panicked ch) w') := hid (by
             rintro ch w' ⟨r', m, h1, rfl, h2⟩
             rw [HY1.out _ (HE.out _ h1)]
             exact ⟨rfl, (HM3.out.trans (Mv.of_below HB0.out)).sameTrans h2⟩)
           go_wp2_with fail
           refine wp_region_ordP 13 [(0, 1), (1, 1), (2, 1), (3, 1), (4, 1), (5, 0), (6, 1), (7, 2), (8, 2), (9, 2), (10, 1), (11, 1), (12, 1), (13, 2)] (fun _ => True) (fun W' => W'.cell? ⟨R, 3, none⟩ = some (.slice c1.na c1.nn c1.nc)) (fun ch w' => ∃ (r' : Bs) (m : Int), nameS r = .error (r', m) ∧ ch = wrongP (s.length - r'.length) m ∧ Same (RdA R c1) w3.drew w') (by kernel_rfl) (by kernel_rfl) (fun ch a1 w1 hd hr => ⟨hd, RES.out ch w1 hr⟩) (trivial) (HC3.out.drew.c3) ?_
           repeat ((first | refine ordC_skip rfl rfl ?_ | refine ordC_skip1 rfl rfl ?_ | ((first | refine ordC_q rfl rfl ?_ | refine ordC_p rfl rfl ?_); apply Exists.intro; refine ⟨fun wS hS => ?_, ?_⟩; (go_simp; try with_reducible rfl))); simp only [Act.put, List.setIfInBounds_toArray, List.set_cons_zero, List.set_cons_succ])
           refine ordC_l rfl rfl (fun K hK => ?_)
           go_simp
           refine (HNM.out _ HB0.out).mono ?_
           intro e w4 he
           cases hnm : nameS r with
           | error x =>
             rw [hnm] at he
             obtain ⟨rfl, hs⟩ := he
             exact ⟨rfl, x.1, x.2, rfl, rfl, hs⟩
           | ok mr =>
           exact absurd hnm (HNB.out mr)
         · have HE : Hid (X = .error (r, 3)) := hid (by rw [← HX2.out, if_pos ⟨HKM.out, hbe⟩])
           have HC3 := hid (HC2.out.below HBW.out)
           have hc1 := HC3.out.x.1 1
           go_wp2_with fail
           refine (rd_fail q2 3 _).mono ?_
           rintro e w4 ⟨rfl, rfl⟩
           refine ⟨rfl, ?_⟩
           show RdRes R s c w _ _ _ _
           rw [HY1.out _ HE.out]
           have hlen := HC3.out.len
           exact ⟨by rw [show s.length - r.length = q2 by omega], (HM2.out.trans (Mv.of_below HBW.out)).same⟩
       · have hev : ((k : Int) == mostR rr) = false := by rw [HMR.out]; exact beq_eq_false_iff_ne.2 (by omega)
         have HE : Hid (∀ x, nameS r = .error x → X = .error x) := hid (fun x hx => by rw [← HX2.out, if_neg (fun e => hkm e.1), hx])
         clear hc2 hm2 hmo
         go_wp2_with fail
         refine (HMO0.out w2).mono ?_
         rintro e w3 ⟨rfl, hb3⟩
         have HBW := hid hb3
         clear hb3
         have HC3 := hid (HC2.out.below HBW.out)
         have HM3 := hid (HM2.out.trans (Mv.of_below HBW.out))
         have HG3 := hid (HG2.out.mv HC2.out (Mv.of_below HBW.out : Mv R c1 c1 w2 w3).same)
         have HNM := hid (fun W (hb : Below w3.heap.size w3 W) => rd_name W (HC3.out.below hb) (Utf8Tabs_below HG3.out.tabs hb))
         have HB0 : Hid (Below w3.heap.size w3 w3.drew) := hid ((Below.refl _ _).drew)
         have RES : Hid (∀ ch w', (∃ (r' : Bs) (m : Int), nameS r = .error (r', m) ∧ ch = wrongP (s.length - r'.length) m ∧ Same (RdA R c1) w3.drew w') → RdRes R s c w (fun _ : Unit => .tuple #[]) Y (.panicked ch) w') := hid (by
           rintro ch w' ⟨r', m, h1, rfl, h2⟩
           rw [HY1.out _ (HE.out _ h1)]
           exact ⟨rfl, (HM3.out.trans (Mv.of_below HB0.out)).sameTrans h2⟩)
         go_wp2_with fail
         refine wp_region_ordP 13 [(0, 1), (1, 1), (2, 1), (3, 1), (4, 1), (5, 0), (6, 1), (7, 2), (8, 2), (9, 2), (10, 1), (11, 1), (12, 1), (13, 2)] (fun _ => True) (fun W' => W'.cell? ⟨R, 3, none⟩ = some (.slice c1.na c1.nn c1.nc)) (fun ch w' => ∃ (r' : Bs) (m : Int), nameS r = .error (r', m) ∧ ch = wrongP (s.length - r'.length) m ∧ Same (RdA R c1) w3.drew w') (by kernel_rfl) (by kernel_rfl) (fun ch a1 w1 hd hr => ⟨hd, RES.out ch w1 hr⟩) (trivial) (HC3.out.drew.c3) ?_
         repeat ((first | refine ordC_skip rfl rfl ?_ | refine ordC_skip1 rfl rfl ?_ | ((first | refine ordC_q rfl rfl ?_ | refine ordC_p rfl rfl ?_); apply Exists.intro; refine ⟨fun wS hS => ?_, ?_⟩; (go_simp; try with_reducible rfl))); simp only [Act.put, List.setIfInBounds_toArray, List.set_cons_zero, List.set_cons_succ])
         refine ordC_l rfl rfl (fun K hK => ?_)
         go_simp
         refine (HNM.out _ HB0.out).mono ?_
         intro e w4 he
         cases hnm : nameS r with
         | error x =>
           rw [hnm] at he
           obtain ⟨rfl, hs⟩ := he
           exact ⟨rfl, x.1, x.2, rfl, rfl, hs⟩
         | ok mr =>
         obtain ⟨m, r4⟩ := mr
         rw [hnm] at he
         obtain ⟨rfl, p4, hc4, hm4⟩ := he
         have HC4 := hid hc4; have HM4 := hid ((HM3.out.trans (Mv.of_below HB0.out)).trans hm4); have HNX := hid hnm
         refine hK _ _ ⟨trivial, hc4.c3⟩ ?_
         have HN4 : Hid (R + 1 ≤ (w4.alloc (.cells #[.string ⟨m.toArray⟩] 9)).heap.size) := hid (by have := hc4.x.2.2; simp; omega)
         have HG4 := hid (HG3.out.mv HC3.out ((Mv.of_below HB0.out : Mv R c1 c1 w3 w3.drew).trans hm4).same)
         clear hK K hc4 hm4 hnm
         refine ordC_l rfl rfl (fun K hK => ?_)
         go_simp
         refine hK _ _ ⟨trivial, (HC4.out.below (belowA (Below.refl _ _) _)).c3⟩ ?_
         clear hK K
         refine ordC_l rfl rfl (fun K hK => ?_)
         refine wp_app _ _ 25 rfl i z 16 Tryz.underlying25 HI.out.1 HI.out.2.1 HI.out.2.2.1 HI.out.2.2.2.1 HI.out.2.2.2.2 rfl (HC4.out.n.2.1.alloc _) (some ⟨w4.heap.size, 0, none⟩) 1 1 (c1.nn + 1) [m] rfl (Row.str1 w4 m) HN1.out HN2.out HN3.out HN4.out ?_
         intro a' c' w5 hown5 hg5 hat5
         have hx5 := (HC4.out.x.keep (belowA (Below.refl _ _) (.cells #[.string ⟨m.toArray⟩] 9))).grown hg5 HNR.out
         have HAD := hid (HC4.out.addN (belowA (Below.refl _ _) (.cells #[.string ⟨m.toArray⟩] 9)) a' c' hown5 hg5 hat5)
         refine hK _ _ ⟨trivial, hx5.1 3⟩ ?_
         have hc3 := hx5.1 3; have hf3 := hx5.2.1 3
         clear hK K hown5 hg5 hat5 hx5
         repeat ((first | refine ordC_skip rfl rfl ?_ | refine ordC_skip1 rfl rfl ?_ | ((first | refine ordC_q rfl rfl ?_ | refine ordC_p rfl rfl ?_); apply Exists.intro; refine ⟨fun wS hS => ?_, ?_⟩; (go_simp; try with_reducible rfl))); simp only [Act.put, List.setIfInBounds_toArray, List.set_cons_zero, List.set_cons_succ])
         refine ordC_m rfl rfl rfl (fun K hK => ?_)
         go_simp
         refine hK _ _ trivial ?_
         clear hK K
         refine ordP_nil ?_
         have HK1 : Hid (k + 1 ≤ most) := hid (by have := HK.out; omega)
         have HX4 : Hid ((if pairs = true then match mustS r4 with
             | .error x => .error x
             | .ok r2 => match versS r2 with
               | .error x => .error x
               | .ok (v, r3) => othersS pairs most f (k + 1) (n1.names ++ [m]) (n1.vers ++ [v]) r3
           else othersS pairs most f (k + 1) (n1.names ++ [m]) n1.vers r4) = X) := hid (by have := HX2.out; rw [if_neg (fun e => hkm e.1), HNX.out] at this; exact this)
         have HA := hid HAD.out.1
         have HMA := hid (HM4.out.trans HAD.out.2)
         have HGA := hid (HG4.out.mv HC4.out HAD.out.2.same)
         have hwk : wrap64 ((k : Int) + 1) = ((k + 1 : Nat) : Int) := by have := HK1.out; have := HML.out; unfold wrap64; omega
         cases pairs
         · go_wp2_with fail
           go_roundw
           case rel => exact ⟨_, k + 1, f, p4, r4, _, _, rfl, by first | rfl | rw [hwk] | go_num, HK1.out, by have := HF.out; omega, HA.out, HMA.out, HGA.out, HX4.out, fun ns vs => HQ.out ns vs, by have := H12.out.1; simp; omega, by have := H12.out.2; show n1.vers.length ≤ _; omega⟩
           case measure => have := HK1.out; (try rw [hwk]); simp [RowKit.intOf] <;> omega
         · have HMU := hid (rd_must _ HA.out)
           go_wp2_with fail
           refine HMU.out.mono ?_
           intro e w6 he
           cases hmu : mustS r4 with
           | error x =>
             rw [hmu] at he
             obtain ⟨rfl, hs⟩ := he
             refine ⟨rfl, ?_⟩
             show RdRes R s c w _ _ _ _
             rw [HY1.out x (by have := HX4.out; rw [hmu] at this; exact this.symm)]
             exact ⟨rfl, HMA.out.sameTrans hs⟩
           | ok r6 =>
             rw [hmu] at he
             obtain ⟨rfl, q6, hc6, hm6⟩ := he
             have HX6 : Hid ((match versS r6 with
               | .error x => .error x
               | .ok (v, r3) => othersS true most f (k + 1) (n1.names ++ [m]) (n1.vers ++ [v]) r3) = X) := hid (by have := HX4.out; rw [hmu] at this; exact this)
             have HC6 := hid hc6; have HM6 := hid (HMA.out.trans hm6); have HG6 := hid (HGA.out.mv HA.out hm6.same)
             have HVE := hid (rd_version w6 hc6 HG6.out (by have := H12.out.2; have := HK1.out; have := HML.out; show n1.vers.length ≤ 1000; omega))
             clear hc6 hm6 hmu
             go_wp2_with fail
             refine HVE.out.mono ?_
             intro e w7 he
             cases hve : versS r6 with
             | error x =>
               rw [hve] at he
               obtain ⟨rfl, hs⟩ := he
               refine ⟨rfl, ?_⟩
               show RdRes R s c w _ _ _ _
               rw [HY1.out x (by have := HX6.out; rw [hve] at this; exact this.symm)]
               exact ⟨rfl, HM6.out.sameTrans hs⟩
             | ok vr =>
               obtain ⟨v, r7⟩ := vr
               rw [hve] at he
               obtain ⟨rfl, q7, c7, hc7, hm7⟩ := he
               have HX7 : Hid (othersS true most f (k + 1) (n1.names ++ [m]) (n1.vers ++ [v]) r7 = X) := hid (by have := HX6.out; rw [hve] at this; exact this)
               have HC7 := hid hc7; have HM7 := hid (HM6.out.trans hm7); have HG7 := hid (HG6.out.mv HC6.out hm7.same)
               clear hc7 hm7 hve
               go_wp2_with fail
               go_roundw
               case rel => exact ⟨_, k + 1, f, q7, r7, _, _, rfl, by first | rfl | rw [hwk] | go_num, HK1.out, by have := HF.out; omega, HC7.out, HM7.out, HG7.out, HX7.out, fun ns vs => HQ.out ns vs, by have := H12.out.1; simp; omega, by have := H12.out.2; simp; omega⟩
               case measure => have := HK1.out; (try rw [hwk]); simp [RowKit.intOf] <;> omega
end Yd
