import Derived.Test.YthdpangjphphjaaGreatDoorCut12
import Derived.Test.YthdpangjphphjaaGreatDoorChB0
import Derived.Test.YthdpangjphphjaaGreatDoorProg
import Derived.Test.YthdpangjphphjaaGreatDoorSam
import Derived.Test.YthdpangjphphjaaGreatDoorShelfV
import Derived.Test.YthdpangjphphjaaGreatDoorDigit
import Derived.Test.YthdpangjphphjaaGreatDoorSpoken3
import Derived.Test.YthdpangjphphjaaGreatDoorCards
import Derived.Test.YthdpangjphphjaaGreatDoorTie
import Derived.WalkKit
import Derived.Deep.DeepHandedRow
import Derived.Lib.LaidU8
import Derived.LaidMore
import Derived.Test.YthdpangjphphjaaGreatDoorAto
set_option maxRecDepth 200000
set_option maxHeartbeats 8000000
namespace Yd
open Go Go.RowKit Go.Proofs

@[reducible] def lnW : LnS := ⟨4, [[84], [80], [120], [121]], 0, [⟨[], 0⟩, ⟨[97], 1⟩], false, 0⟩
theorem wk1 : readLn [115, 99, 97, 110, 32, 84, 32, 80, 32, 120, 32, 45, 32, 121, 32, 97, 46, 49, 32, 35, 32, 122, 10] 0 = (lnW, 23, 0) := by kernel_rfl
theorem wk2 : readLn [98, 101, 103, 105, 110, 32, 84, 32, 115, 32, 50, 46, 57, 56] 0 = (noLn, 13, 220) := by kernel_rfl
theorem wk3 : readLn [114, 101, 97, 100, 32, 84, 32, 120, 32, 84, 46, 49, 48, 48, 48] 0 = (noLn, 11, 3) := by kernel_rfl
theorem wk4 : textS lnW = [115, 99, 97, 110, 32, 84, 32, 80, 32, 120, 32, 45, 32, 121, 32, 97, 46, 49, 10] := by kernel_rfl
theorem wk5 : lineOk lnW := by
 refine ⟨?_, ?_, .inr (.inr (.inr (.inl ⟨rfl, ⟨2, rfl, rfl, by omega⟩, trivial, rfl, rfl, rfl⟩)))⟩
 · intro x hx
   simp only [List.mem_cons, List.not_mem_nil, or_false] at hx
   rcases hx with rfl | rfl | rfl | rfl <;> kernel_rfl
 · intro x hx
   simp only [List.mem_cons, List.not_mem_nil, or_false] at hx
   rcases hx with rfl | rfl
   · exact .inl rfl
   · exact .inr ⟨by kernel_rfl, by decide, by decide⟩
theorem wakes12 (w : World) (hT : Lib.Utf8Tabs 2 3 w) (hE : GlobE w) (hL : GlobL w) : Calls Tryz.prog 8 #[] w (Ret (.bool true) w) := by
 have HR := hid (fun (s : Bs) (hs : s.length ≤ 1000) (W : World) (hb : Below w.heap.size w W) => line_Read s 0 (by omega) W (Utf8Tabs_below hT hb) (hE.below hb) (hL.below hb))
 have HTX := hid (fun (W : World) (hb : Below w.heap.size w W) (B : Nat) (l : LnC) (h : LnAt W B l lnW) => text_all h wk5 (hL.below hb))
 clear hT hE hL
 go_enter Tryz.func8, Tryz.ntmps8
 go_wp2_with fail
 refine (HR.out [115, 99, 97, 110, 32, 84, 32, 80, 32, 120, 32, 45, 32, 121, 32, 97, 46, 49, 32, 35, 32, 122, 10] (by decide) w (Below.refl _ _)).mono ?_
 rw [wk1]
 rintro e w1 ⟨c, rfl, hl1, hb1⟩
 have hv : c.vn = 2 := hl1.1.2.2.2.2.2
 have hba := belowA (Below.refl w1.heap.size w1) (.cells (cellsLn c) 28)
 have HX := hid (Bx.new w1 (cellsLn c) 28)
 have HL1 := hid (hl1.below hba)
 have HBA := hid (hb1.trans (hba.mono hb1.size))
 have HVN := hid hv
 clear hl1 hb1 hba hv
 go_wp2_with fail
 refine (HTX.out _ HBA.out _ c HL1.out).mono ?_
 rintro e w2 ⟨rfl, hb2⟩
 rw [wk4]
 have HX2 := hid (HX.out.keep hb2)
 have HB2 := hid (HBA.out.trans (hb2.mono HBA.out.size))
 clear hb2
 go_wp2_with fail
 refine (HR.out [98, 101, 103, 105, 110, 32, 84, 32, 115, 32, 50, 46, 57, 56] (by decide) w2 HB2.out).mono ?_
 rw [wk2]
 rintro e w3 ⟨c3, rfl, hl3, hb3⟩
 have HX3 := hid ((HX2.out.keep hb3).alloc (.cells (cellsLn c3) 28))
 have HB3 := hid ((HB2.out.trans (hb3.mono HB2.out.size)).alloc (Nat.le_trans HB2.out.size hb3.size) (.cells (cellsLn c3) 28))
 clear hl3 hb3
 go_wp2_with fail
 refine (HR.out [114, 101, 97, 100, 32, 84, 32, 120, 32, 84, 46, 49, 48, 48, 48] (by decide) _ HB3.out).mono ?_
 rw [wk3]
 rintro e w4 ⟨c4, rfl, hl4, hb4⟩
 have hx4 := (HX3.out.keep hb4).alloc (.cells (cellsLn c4) 28)
 have HB4 := hid ((HB3.out.trans (hb4.mono HB3.out.size)).alloc (Nat.le_trans HB3.out.size hb4.size) (.cells (cellsLn c4) 28))
 have hv3 := hx4.1 3
 rw [show (cellsLn c)[3]? = some (.slice c.va c.vn c.vc) from rfl, HVN.out] at hv3
 clear hl4 hb4 hx4
 go_wp2_with fail
 go_ret
 exact ⟨rfl, HB4.out⟩
end Yd


namespace Yd
open Go Go.RowKit Go.Proofs

theorem cut_run (cutAt : Int) (p : Nat) (hp : p ≤ 9000) : ∃ k : Nat, k ≤ p ∧ wrap64 ((IntKind.u64.wrap cutAt).tmod ((p : Int) + 1)) = (k : Int) := by
 obtain ⟨q, hq⟩ : ∃ q : Nat, IntKind.u64.wrap cutAt = (q : Int) := ⟨_, (Int.toNat_of_nonneg (wrap_u64_nonneg cutAt)).symm⟩
 have h1 : ((q : Int)).tmod ((p : Int) + 1) = ((q % (p + 1) : Nat) : Int) := rfl
 have h2 : q % (p + 1) < p + 1 := Nat.mod_lt _ (by omega)
 refine ⟨q % (p + 1), by omega, ?_⟩
 rw [hq, h1]
 generalize q % (p + 1) = r at *
 unfold wrap64
 omega
theorem cat_bytes (x y : Bs) : (⟨x.toArray⟩ : ByteArray) ++ ⟨y.toArray⟩ = ⟨(x ++ y).toArray⟩ := by
 apply ByteArray.ext
 simp
theorem law_first (sx bx : Bs) (cutAt : Int) (w : World) (hT : Lib.Utf8Tabs 2 3 w) (hE : GlobE w) (hL : GlobL w) :
   Calls Tryz.prog 5 #[.string ⟨sx.toArray⟩, .string ⟨bx.toArray⟩, .int .i64 cutAt] w (Ret (.bool true) w) := by
 have HWK := hid (wakes12 _ hT hE hL)
 have HRD := hid (fun (t : Bs) (ht : t.length ≤ 1000000) (W : World) (hb : Below w.heap.size w W) => line_Read t 0 ht W (Utf8Tabs_below hT hb) (hE.below hb) (hL.below hb))
 have HVA := hid (fun (t : Bs) (ht : t.length ≤ 1000000) (W : World) (hb : Below w.heap.size w W) => Tryz.utf8_ValidString ⟨t.toArray⟩ W (by rw [bsz]; omega) (Utf8Tabs_below hT hb))
 obtain ⟨s, hs⟩ : ∃ s, s = sx.take 9000 := ⟨_, rfl⟩
 have hsl : s.length ≤ 9000 := by rw [hs, List.length_take]; omega
 obtain ⟨b, hb⟩ : ∃ b, b = bx.take 9000 := ⟨_, rfl⟩
 have hbl : b.length ≤ 9000 := by rw [hb, List.length_take]; omega
 have HCS := hid (fun W => cut12 sx W)
 have HCB := hid (fun W => cut12 bx W)
 rw [← hs] at HCS
 rw [← hb] at HCB
 have HSL := hid hsl; have HBL0 := hid hbl
 have hzs := bsz s
 clear hT hE hL hs hsl hb hbl
 go_enter Tryz.func5, Tryz.ntmps5
 go_wp2_with fail
 refine HWK.out.mono ?_
 rintro e w1 ⟨rfl, hb1⟩
 have HB1 := hid hb1
 clear hb1
 go_wp2_with fail
 refine (HCS.out _).mono ?_
 rintro e w2 ⟨rfl, hb2⟩
 have HB2 := hid (HB1.out.trans (hb2.mono HB1.out.size))
 clear hb2
 go_wp2_with fail
 refine (HCB.out _).mono ?_
 rintro e w3 ⟨rfl, hb3⟩
 have HB3 := hid (HB2.out.trans (hb3.mono HB2.out.size))
 clear hb3
 go_wp2_with fail
 have hrd := HRD.out s (by have := HSL.out; omega) _ HB3.out
 obtain ⟨n, P, er, hR⟩ : ∃ n P er, readLn s 0 = (n, P, er) := ⟨_, _, _, rfl⟩
 rw [hR] at hrd
 refine hrd.mono ?_
 rintro e w4 ⟨c4, rfl, _, hb4⟩
 have HBA := hid ((HB3.out.trans (hb4.mono HB3.out.size)).alloc (Nat.le_trans HB3.out.size hb4.size) (.cells (cellsLn c4) 28))
 clear hrd hb4
 by_cases her : er = 220
 · subst her
   have hF := first_read s hR
   obtain ⟨p, rfl, hn, hps, hloc, hpre⟩ := hF
   subst hn
   have HLOC := hid hloc; have HPRE := hid hpre
   have HPS := hid hps
   clear hloc hpre hR
   have hwp : wrap64 ((p : Int) + 1) = (p : Int) + 1 := by have := HSL.out; unfold wrap64; omega
   have HWP := hid hwp
   clear hwp
   by_cases hpl : p < s.length
   · have hexc : ∃ c, s[p]? = some c := ⟨_, List.getElem?_eq_getElem hpl⟩
     obtain ⟨c, hc1⟩ := hexc
     have hix := fun W => run_ix Tryz.underlying9 s p c hc1 W
     have hd1 : decide ((p : Int) < (s.length : Int)) = true := decide_eq_true (by omega)
     have hd1n : decide (p < s.length) = true := decide_eq_true (by omega)
     by_cases hc2 : c.toNat < 128
     · skip
       have hd2 : decide ((c.toNat : Int) < 128) = true := decide_eq_true (by omega)
       have hd2n : decide (c.toNat < 128) = true := decide_eq_true (by omega)
       have hwp := HWP.out
       have hsl2 : (p : Int) + 1 ≤ (s.length : Int) := by omega
       have HLC := hid (HLOC.out c hc1 hc2 b)
       obtain ⟨st, hst⟩ : ∃ st, st = s.take (p + 1) := ⟨_, rfl⟩
       have hex : (⟨s.toArray⟩ : ByteArray).extract 0 (p + 1) = ⟨st.toArray⟩ := by rw [hst]; exact ext_take s (p + 1)
       have hzst := bsz st; have hzb := bsz b
       have hstl : st.length ≤ 9000 := by rw [hst, List.length_take]; have := HSL.out; omega
       have HST := hid hstl
       have hN : ¬ (9223372036854775807 < st.length + b.length) := by have := HBL0.out; omega
       rw [← hst] at HLC
       clear hc1 hc2 hpl hst hstl
       go_wp2_with fail
       rw [cat_bytes]
       have hrd := HRD.out (st ++ b) (by have := HST.out; have := HBL0.out; rw [List.length_append]; omega) _ HBA.out
       rw [HLC.out] at hrd
       refine hrd.mono ?_
       rintro e w5 ⟨c5, rfl, _, hb5⟩
       have HBX := hid ((HBA.out.trans (hb5.mono HBA.out.size)).alloc (Nat.le_trans HBA.out.size hb5.size) (.cells (cellsLn c5) 28))
       clear hrd hb5 hix hd1 hd1n hd2 hd2n hwp hsl2 hex hzst hzb hN
       have hpp : ((p : Int) != (p : Int)) = false := by simp
       have HBL := HBX
       have hu1 : IntKind.u64.wrap ((p : Int) + 1) = (p : Int) + 1 := IntWalk.u64_in _ (by have := HPS.out; have := HSL.out; omega)
       have hz1 : ((p : Int) + 1 == 0) = false := beq_eq_false_iff_ne.2 (by omega)
       have hwp := HWP.out
       go_wp2_with fail
       clear hu1 hz1 hwp
       go_loopw [13] (fun v wr => ∃ k : Nat, v = .int .i64 k ∧ k ≤ p ∧ Below w.heap.size w wr) (fun v _ => (RowKit.intOf v).toNat)
       case atStart => exact (cut_run cutAt p (by have := HPS.out; have := HSL.out; omega)).elim fun k h => ⟨k, by rw [h.2], h.1, HBL.out⟩
       case round =>
         obtain ⟨k, rfl, hkp, hbw⟩ := hrel
         have HBR := hid hbw
         have HKP := hid hkp
         have hks : (k : Int) ≤ (s.length : Int) := by have := HPS.out; omega
         obtain ⟨sk, hsk⟩ : ∃ sk, sk = s.take k := ⟨_, rfl⟩
         have hexk : (⟨s.toArray⟩ : ByteArray).extract 0 k = ⟨sk.toArray⟩ := by rw [hsk]; exact ext_take s k
         have hskl : sk.length ≤ 9000 := by rw [hsk, List.length_take]; have := HSL.out; omega
         have HSKL := hid hskl
         have HPK := hid (fun h => HPRE.out k hkp h)
         rw [← hsk] at HPK
         clear hbw hskl hsk hkp
         by_cases hk : k = 0
         · skip
           have HKK := hid (HPK.out (.inl hk))
           have HBW := HBR
           have hdk : decide ((0 : Int) < (k : Int)) = false := decide_eq_false (by omega)
           have hdkn : decide (0 < k) = false := decide_eq_false (by omega)
           clear hk
           go_wp2_with fail
           obtain ⟨m, er, hrk, her⟩ := HKK.out
           have hrd := HRD.out sk (by have := HSKL.out; omega) _ HBW.out
           rw [hrk] at hrd
           have HKE := hid her
           clear hrk her
           refine hrd.mono ?_
           rintro e w9 ⟨c9, rfl, _, hb9⟩
           have HBZ := hid ((HBW.out.trans (hb9.mono HBW.out.size)).alloc (Nat.le_trans HBW.out.size hb9.size) (.cells (cellsLn c9) 28))
           clear hrd hb9
           have hkk : ((k : Int) == (k : Int)) = true := beq_self_eq_true _
           rcases HKE.out with rfl | rfl
           · go_wp2_with fail
             go_ret
             exact ⟨rfl, HBZ.out⟩
           · go_wp2_with fail
             go_ret
             exact ⟨rfl, HBZ.out⟩
         · skip
           have hdk : decide ((0 : Int) < (k : Int)) = true := decide_eq_true (by omega)
           have hdkn : decide (0 < k) = true := decide_eq_true (by omega)
           have HK0 := hid hk
           clear hk
           go_wp2_with fail
           refine (HVA.out sk (by have := HSKL.out; omega) _ HBR.out).mono ?_
           rintro e w6 ⟨rfl, hb6⟩
           have HBW := hid (HBR.out.trans (hb6.mono HBR.out.size))
           clear hb6
           cases hv : Lib.validD sk
           · have hsub : wrap64 ((k : Int) - 1) = ((k - 1 : Nat) : Int) := by have := HSL.out; have := HPS.out; have := HKP.out; have := HK0.out; unfold wrap64; omega
             have HSB := hid hsub
             clear hsub hv
             go_wp2_with fail
             rw [HSB.out]
             go_roundw
             case rel => exact ⟨k - 1, rfl, by have := HKP.out; omega, HBW.out⟩
             case measure => show (k - 1 : Nat) < k; have := HK0.out; omega
           · have HKK := hid (HPK.out (.inr hv))
             clear hv hdk hdkn
             go_wp2_with fail
             obtain ⟨m, er, hrk, her⟩ := HKK.out
             have hrd := HRD.out sk (by have := HSKL.out; omega) _ HBW.out
             rw [hrk] at hrd
             have HKE := hid her
             clear hrk her
             refine hrd.mono ?_
             rintro e w9 ⟨c9, rfl, _, hb9⟩
             have HBZ := hid ((HBW.out.trans (hb9.mono HBW.out.size)).alloc (Nat.le_trans HBW.out.size hb9.size) (.cells (cellsLn c9) 28))
             clear hrd hb9
             have hkk : ((k : Int) == (k : Int)) = true := beq_self_eq_true _
             rcases HKE.out with rfl | rfl
             · go_wp2_with fail
               go_ret
               exact ⟨rfl, HBZ.out⟩
             · go_wp2_with fail
               go_ret
               exact ⟨rfl, HBZ.out⟩
     · skip
       have hd2 : decide ((c.toNat : Int) < 128) = false := decide_eq_false (by omega)
       have hd2n : decide (c.toNat < 128) = false := decide_eq_false (by omega)
       clear hc1 hc2 hpl
       have HBL := HBA
       have hu1 : IntKind.u64.wrap ((p : Int) + 1) = (p : Int) + 1 := IntWalk.u64_in _ (by have := HPS.out; have := HSL.out; omega)
       have hz1 : ((p : Int) + 1 == 0) = false := beq_eq_false_iff_ne.2 (by omega)
       have hwp := HWP.out
       go_wp2_with fail
       clear hu1 hz1 hwp
       go_loopw [13] (fun v wr => ∃ k : Nat, v = .int .i64 k ∧ k ≤ p ∧ Below w.heap.size w wr) (fun v _ => (RowKit.intOf v).toNat)
       case atStart => exact (cut_run cutAt p (by have := HPS.out; have := HSL.out; omega)).elim fun k h => ⟨k, by rw [h.2], h.1, HBL.out⟩
       case round =>
         obtain ⟨k, rfl, hkp, hbw⟩ := hrel
         have HBR := hid hbw
         have HKP := hid hkp
         have hks : (k : Int) ≤ (s.length : Int) := by have := HPS.out; omega
         obtain ⟨sk, hsk⟩ : ∃ sk, sk = s.take k := ⟨_, rfl⟩
         have hexk : (⟨s.toArray⟩ : ByteArray).extract 0 k = ⟨sk.toArray⟩ := by rw [hsk]; exact ext_take s k
         have hskl : sk.length ≤ 9000 := by rw [hsk, List.length_take]; have := HSL.out; omega
         have HSKL := hid hskl
         have HPK := hid (fun h => HPRE.out k hkp h)
         rw [← hsk] at HPK
         clear hbw hskl hsk hkp
         by_cases hk : k = 0
         · skip
           have HKK := hid (HPK.out (.inl hk))
           have HBW := HBR
           have hdk : decide ((0 : Int) < (k : Int)) = false := decide_eq_false (by omega)
           have hdkn : decide (0 < k) = false := decide_eq_false (by omega)
           clear hk
           go_wp2_with fail
           obtain ⟨m, er, hrk, her⟩ := HKK.out
           have hrd := HRD.out sk (by have := HSKL.out; omega) _ HBW.out
           rw [hrk] at hrd
           have HKE := hid her
           clear hrk her
           refine hrd.mono ?_
           rintro e w9 ⟨c9, rfl, _, hb9⟩
           have HBZ := hid ((HBW.out.trans (hb9.mono HBW.out.size)).alloc (Nat.le_trans HBW.out.size hb9.size) (.cells (cellsLn c9) 28))
           clear hrd hb9
           have hkk : ((k : Int) == (k : Int)) = true := beq_self_eq_true _
           rcases HKE.out with rfl | rfl
           · go_wp2_with fail
             go_ret
             exact ⟨rfl, HBZ.out⟩
           · go_wp2_with fail
             go_ret
             exact ⟨rfl, HBZ.out⟩
         · skip
           have hdk : decide ((0 : Int) < (k : Int)) = true := decide_eq_true (by omega)
           have hdkn : decide (0 < k) = true := decide_eq_true (by omega)
           have HK0 := hid hk
           clear hk
           go_wp2_with fail
           refine (HVA.out sk (by have := HSKL.out; omega) _ HBR.out).mono ?_
           rintro e w6 ⟨rfl, hb6⟩
           have HBW := hid (HBR.out.trans (hb6.mono HBR.out.size))
           clear hb6
           cases hv : Lib.validD sk
           · have hsub : wrap64 ((k : Int) - 1) = ((k - 1 : Nat) : Int) := by have := HSL.out; have := HPS.out; have := HKP.out; have := HK0.out; unfold wrap64; omega
             have HSB := hid hsub
             clear hsub hv
             go_wp2_with fail
             rw [HSB.out]
             go_roundw
             case rel => exact ⟨k - 1, rfl, by have := HKP.out; omega, HBW.out⟩
             case measure => show (k - 1 : Nat) < k; have := HK0.out; omega
           · have HKK := hid (HPK.out (.inr hv))
             clear hv hdk hdkn
             go_wp2_with fail
             obtain ⟨m, er, hrk, her⟩ := HKK.out
             have hrd := HRD.out sk (by have := HSKL.out; omega) _ HBW.out
             rw [hrk] at hrd
             have HKE := hid her
             clear hrk her
             refine hrd.mono ?_
             rintro e w9 ⟨c9, rfl, _, hb9⟩
             have HBZ := hid ((HBW.out.trans (hb9.mono HBW.out.size)).alloc (Nat.le_trans HBW.out.size hb9.size) (.cells (cellsLn c9) 28))
             clear hrd hb9
             have hkk : ((k : Int) == (k : Int)) = true := beq_self_eq_true _
             rcases HKE.out with rfl | rfl
             · go_wp2_with fail
               go_ret
               exact ⟨rfl, HBZ.out⟩
             · go_wp2_with fail
               go_ret
               exact ⟨rfl, HBZ.out⟩
   · skip
     have hd1 : decide ((p : Int) < (s.length : Int)) = false := decide_eq_false (by omega)
     have hd1n : decide (p < s.length) = false := decide_eq_false (by omega)
     clear hpl
     have HBL := HBA
     have hu1 : IntKind.u64.wrap ((p : Int) + 1) = (p : Int) + 1 := IntWalk.u64_in _ (by have := HPS.out; have := HSL.out; omega)
     have hz1 : ((p : Int) + 1 == 0) = false := beq_eq_false_iff_ne.2 (by omega)
     have hwp := HWP.out
     go_wp2_with fail
     clear hu1 hz1 hwp
     go_loopw [13] (fun v wr => ∃ k : Nat, v = .int .i64 k ∧ k ≤ p ∧ Below w.heap.size w wr) (fun v _ => (RowKit.intOf v).toNat)
     case atStart => exact (cut_run cutAt p (by have := HPS.out; have := HSL.out; omega)).elim fun k h => ⟨k, by rw [h.2], h.1, HBL.out⟩
     case round =>
       obtain ⟨k, rfl, hkp, hbw⟩ := hrel
       have HBR := hid hbw
       have HKP := hid hkp
       have hks : (k : Int) ≤ (s.length : Int) := by have := HPS.out; omega
       obtain ⟨sk, hsk⟩ : ∃ sk, sk = s.take k := ⟨_, rfl⟩
       have hexk : (⟨s.toArray⟩ : ByteArray).extract 0 k = ⟨sk.toArray⟩ := by rw [hsk]; exact ext_take s k
       have hskl : sk.length ≤ 9000 := by rw [hsk, List.length_take]; have := HSL.out; omega
       have HSKL := hid hskl
       have HPK := hid (fun h => HPRE.out k hkp h)
       rw [← hsk] at HPK
       clear hbw hskl hsk hkp
       by_cases hk : k = 0
       · skip
         have HKK := hid (HPK.out (.inl hk))
         have HBW := HBR
         have hdk : decide ((0 : Int) < (k : Int)) = false := decide_eq_false (by omega)
         have hdkn : decide (0 < k) = false := decide_eq_false (by omega)
         clear hk
         go_wp2_with fail
         obtain ⟨m, er, hrk, her⟩ := HKK.out
         have hrd := HRD.out sk (by have := HSKL.out; omega) _ HBW.out
         rw [hrk] at hrd
         have HKE := hid her
         clear hrk her
         refine hrd.mono ?_
         rintro e w9 ⟨c9, rfl, _, hb9⟩
         have HBZ := hid ((HBW.out.trans (hb9.mono HBW.out.size)).alloc (Nat.le_trans HBW.out.size hb9.size) (.cells (cellsLn c9) 28))
         clear hrd hb9
         have hkk : ((k : Int) == (k : Int)) = true := beq_self_eq_true _
         rcases HKE.out with rfl | rfl
         · go_wp2_with fail
           go_ret
           exact ⟨rfl, HBZ.out⟩
         · go_wp2_with fail
           go_ret
           exact ⟨rfl, HBZ.out⟩
       · skip
         have hdk : decide ((0 : Int) < (k : Int)) = true := decide_eq_true (by omega)
         have hdkn : decide (0 < k) = true := decide_eq_true (by omega)
         have HK0 := hid hk
         clear hk
         go_wp2_with fail
         refine (HVA.out sk (by have := HSKL.out; omega) _ HBR.out).mono ?_
         rintro e w6 ⟨rfl, hb6⟩
         have HBW := hid (HBR.out.trans (hb6.mono HBR.out.size))
         clear hb6
         cases hv : Lib.validD sk
         · have hsub : wrap64 ((k : Int) - 1) = ((k - 1 : Nat) : Int) := by have := HSL.out; have := HPS.out; have := HKP.out; have := HK0.out; unfold wrap64; omega
           have HSB := hid hsub
           clear hsub hv
           go_wp2_with fail
           rw [HSB.out]
           go_roundw
           case rel => exact ⟨k - 1, rfl, by have := HKP.out; omega, HBW.out⟩
           case measure => show (k - 1 : Nat) < k; have := HK0.out; omega
         · have HKK := hid (HPK.out (.inr hv))
           clear hv hdk hdkn
           go_wp2_with fail
           obtain ⟨m, er, hrk, her⟩ := HKK.out
           have hrd := HRD.out sk (by have := HSKL.out; omega) _ HBW.out
           rw [hrk] at hrd
           have HKE := hid her
           clear hrk her
           refine hrd.mono ?_
           rintro e w9 ⟨c9, rfl, _, hb9⟩
           have HBZ := hid ((HBW.out.trans (hb9.mono HBW.out.size)).alloc (Nat.le_trans HBW.out.size hb9.size) (.cells (cellsLn c9) 28))
           clear hrd hb9
           have hkk : ((k : Int) == (k : Int)) = true := beq_self_eq_true _
           rcases HKE.out with rfl | rfl
           · go_wp2_with fail
             go_ret
             exact ⟨rfl, HBZ.out⟩
           · go_wp2_with fail
             go_ret
             exact ⟨rfl, HBZ.out⟩
 · have hbn : (er != 220) = true := by rw [bne, beq_eq_false_iff_ne.2 her]; rfl
   clear hR her
   go_wp2_with fail
   go_ret
   exact ⟨rfl, HBA.out⟩
end Yd


namespace Yd
open Go Go.RowKit Go.Proofs Go.Lib
open Go.Proofs.YthdpangjphphjaaGreatDoor

theorem first_eq : Rows.laid_unicode_utf8_first = firstData := by kernel_rfl
theorem accept_eq : (Rows.laid_unicode_utf8_acceptRanges : DataW Unit) = acceptData := by kernel_rfl
theorem u8x : U8Extra Tryz.prog Tryz.lays260_ren := ⟨by kernel_rfl, by kernel_rfl, by kernel_rfl, by kernel_rfl, by kernel_rfl, by kernel_rfl, by kernel_rfl⟩
section
variable {W : World}
theorem str_at {n fuel : Nat} {t : TypeId} {cs : List Value} {ds : List (DataW Unit)} {p : List MemPlace} (ht : Tryz.prog.underlying t = some (.array n 9)) (h : DataW.trod (fun _ => ()) Tryz.prog W 0 (fun _ => true) false fuel t cs = some (.agg ds, p))
   (i : Nat) (hi : i < n) {b : Bs} (hd : ds[i]? = some (.lit (.string b))) : cs[i]? = some (.string ⟨b.toArray⟩) := by
 obtain ⟨f', d, q, h1, h2⟩ := array_elem ht h i hi
 rw [hd] at h1
 injection h1 with h1
 subst h1
 rw [show Tryz.prog.cellsOf 9 = 1 from c_str] at h2
 obtain ⟨s, e1, e2, _⟩ := DataW.trod_string Tryz.underlying9 h2
 simp only [Prod.mk.injEq, DataW.lit.injEq, Lit.string.injEq] at e2
 have e3 := congrArg (·[0]?) e1
 simp only [List.getElem?_take, List.getElem?_drop] at e3
 have : s = ⟨b.toArray⟩ := by
   obtain ⟨⟨l⟩⟩ := s
   simp at e2
   rw [e2.1]
 rw [← this]
 simpa using e3
theorem c_i32 : Tryz.prog.cellsOf 21 = 1 := by kernel_rfl
theorem c_form : Tryz.prog.cellsOf 76 = 3 := by kernel_rfl
theorem form_at {fuel : Nat} {cs : List Value} {ds : List (DataW Unit)} {p : List MemPlace} (h : DataW.trod (fun _ => ()) Tryz.prog W 0 (fun _ => true) false fuel 77 cs = some (.agg ds, p))
   (k : Nat) (hk : k < 10) {b : Bs} {n r : Int} (hd : ds[k]? = some (.agg [.lit (.string b), .lit (.int .i64 n), .lit (.int .i32 r)])) :
   cs[3 * k]? = some (.string ⟨b.toArray⟩) ∧ cs[3 * k + 1]? = some (.int .i64 n) ∧ cs[3 * k + 2]? = some (.int .i32 r) := by
 obtain ⟨f', d, q, h1, h2⟩ := array_elem Tryz.underlying77 h k hk
 rw [hd] at h1
 injection h1 with h1
 subst h1
 rw [c_form] at h2
 obtain ⟨xs, n', _, e, hl, hlen, hf⟩ := DataW.trod_struct Tryz.underlying76 h2
 rw [c_form] at hl
 obtain ⟨cs', hcs⟩ : ∃ cs', cs' = (cs.drop (k * 3)).take 3 := ⟨_, rfl⟩
 rw [← hcs] at hl hf
 have g0 : cs[3 * k]? = cs'[0]? := by rw [hcs]; simp [List.getElem?_drop, Nat.mul_comm]
 have g1 : cs[3 * k + 1]? = cs'[1]? := by rw [hcs]; simp [List.getElem?_drop, Nat.mul_comm]
 have g2 : cs[3 * k + 2]? = cs'[2]? := by rw [hcs]; simp [List.getElem?_drop, Nat.mul_comm]
 rw [g0, g1, g2]
 clear g0 g1 g2 hcs
 match xs, hlen, cs', hl, e with
 | [y0, y1, y2], _, [c0, c1, c2], _, e =>
   simp only [List.map_cons, List.map_nil, Prod.mk.injEq, DataW.agg.injEq, List.cons.injEq, and_true] at e
   have f0 := hf 0 _ rfl
   have f1 := hf 1 _ rfl
   have f2 := hf 2 _ rfl
   simp [c_int, c_str, c_i32] at f0 f1 f2
   obtain ⟨s, e0, q0, _⟩ := DataW.trod_string Tryz.underlying9 f0
   obtain ⟨a, e1, q1, _⟩ := DataW.trod_int Tryz.underlying3 f1
   obtain ⟨a2, e2, q2, _⟩ := DataW.trod_int Tryz.underlying21 f2
   rw [q0, q1, q2] at e
   simp only [DataW.lit.injEq, Lit.string.injEq, Lit.int.injEq, true_and] at e
   have : s = ⟨b.toArray⟩ := by
     obtain ⟨⟨l⟩⟩ := s
     simp at e
     rw [e.1.1]
   simp at e0 e1 e2
   rw [e0, e1, e2, e.1.2.1, e.1.2.2, this]
   exact ⟨rfl, rfl, rfl⟩
theorem reads_at {name : String} {d : DataW Unit} {g : Nat} {t : TypeId} (h : VarReads Tryz.prog W name d) (hg : Tryz.prog.globalNamed name = some g) (hy : (Tryz.prog.globals[g]?).map (·.type) = some t) :
   ∃ cs : Array Value, ∃ fuel p, DataW.trod (fun _ => ()) Tryz.prog W 0 (fun _ => true) false fuel t cs.toList = some (d, p) ∧ ∀ i, W.cell? ⟨g, i, none⟩ = cs.toList[i]? := by
 obtain ⟨g', t', cs, fuel, p, hg', hy', hv, hd⟩ := h
 obtain rfl := Option.some.inj (hg.symm.trans hg')
 obtain rfl := Option.some.inj (hy.symm.trans hy')
 exact ⟨cs, fuel, p, hd, fun i => by rw [Array.getElem?_toList]; exact World.var?_cell hg hv i⟩
end
end Yd


namespace Yd
open Go Go.RowKit Go.Proofs Go.Lib
open Go.Proofs.YthdpangjphphjaaGreatDoor

section
variable {W : World}
theorem iface_at {fuel : Nat} {ms : Array (String × TypeId)} {t : TypeId} {cs : List Value} {y : DataW Unit × List MemPlace} (ht : Tryz.prog.underlying t = some (.interface ms)) (h : DataW.trod (fun _ => ()) Tryz.prog W 0 (fun _ => true) false fuel t cs = some y) :
   ∃ ev, cs = [ev] ∧ (ev = .nilIface ∨ ∃ te pe, ev = .iface te pe) := by
 cases fuel with
 | zero => simp [DataW.trod] at h
 | succ fuel =>
   simp only [DataW.trod, ht] at h
   split at h <;> first | exact ⟨_, rfl, .inl rfl⟩ | exact ⟨_, rfl, .inr ⟨_, _, rfl⟩⟩ | (rename_i heq; cases heq; done) | (cases h; done) | (rename_i heq; simp at heq; done) | skip
theorem globE_of (h : VarReads Tryz.prog W "strconv.ErrRange" (Rows.laid_strconv_ErrRange : DataW Unit)) : GlobE W := by
 obtain ⟨c, _, _, t, a⟩ := reads_at (g := 7) (t := 104) h (by kernel_rfl) (by kernel_rfl)
 obtain ⟨ev, h1, h2⟩ := iface_at Tryz.underlying104 t
 exact ⟨ev, by rw [a, h1]; rfl, h2⟩
theorem globL_of (hu1 : VarReads Tryz.prog W "unicode/utf8.first" Rows.laid_unicode_utf8_first) (hu2 : VarReads Tryz.prog W "unicode/utf8.acceptRanges" Rows.laid_unicode_utf8_acceptRanges)
   (hf : VarReads Tryz.prog W "yardarm/line.forms" Rows.laid_yardarm_line_forms) (hgd : VarReads Tryz.prog W "yardarm/line.guards" Rows.laid_yardarm_line_guards) (hlv : VarReads Tryz.prog W "yardarm/level.texts" Rows.laid_yardarm_level_texts) : GlobL W := by
 have hu := utf8Tabs_of_reads Tryz.lays260 u8x (first_eq ▸ hu1) (accept_eq ▸ hu2)
 obtain ⟨c2, _, _, t2, a2⟩ := reads_at (g := 0) (t := 77) hf (by kernel_rfl) (by kernel_rfl)
 obtain ⟨c3, _, _, t3, a3⟩ := reads_at (g := 1) (t := 80) hgd (by kernel_rfl) (by kernel_rfl)
 obtain ⟨c4, _, _, t4, a4⟩ := reads_at (g := 4) (t := 131) hlv (by kernel_rfl) (by kernel_rfl)
 refine ⟨⟨hu, trivial⟩, fun k hk => ?_, fun i hi => ?_, fun i hi => ?_⟩
 · rw [a2, a2, a2]
   exact form_at t2 k hk (by match k, hk with | 0, _ => rfl | 1, _ => rfl | 2, _ => rfl | 3, _ => rfl | 4, _ => rfl | 5, _ => rfl | 6, _ => rfl | 7, _ => rfl | 8, _ => rfl | 9, _ => rfl)
 · rw [a3]
   exact str_at Tryz.underlying80 t3 i hi (by match i, hi with | 0, _ => rfl | 1, _ => rfl | 2, _ => rfl | 3, _ => rfl)
 · rw [a4]
   exact str_at Tryz.underlying131 t4 i hi (by match i, hi with | 0, _ => rfl | 1, _ => rfl | 2, _ => rfl | 3, _ => rfl | 4, _ => rfl)
end
def cellsD : Nat → DataW Unit → List Value
 | _, .lit (.int k i) => [.int k i]
 | _, .lit (.string b) => [.string ⟨b.toArray⟩]
 | f + 1, .agg l => l.flatMap (cellsD f)
 | _, _ => []
def layIn (cs : Array Value) : Obj → Obj
 | .cells _ t frozen => .cells cs t frozen
 | o => o
noncomputable def low12 : Nat := (World.holding Tryz.prog default ⟨#[], #[], []⟩).heap.size
noncomputable def world12 (os : Os) : World :=
 let w0 := World.holding Tryz.prog os ⟨#[.cells #[.string ⟨#[118, 97, 108, 117, 101, 32, 111, 117, 116, 32, 111, 102, 32, 114, 97, 110, 103, 101]⟩] 180, .cells #[.string ⟨#[105, 110, 118, 97, 108, 105, 100, 32, 115, 121, 110, 116, 97, 120]⟩] 180], #[], []⟩
 { w0 with heap := (((((((((w0.heap.modify 2 (layIn ((Lib.firstTab.map (fun z => Value.int .u8 z)).toArray))).modify 3 (layIn (((List.range 16).flatMap (fun i => [Value.int .u8 (Lib.accLo i : Int), Value.int .u8 (Lib.accHi i : Int)])).toArray))).modify
     0 (layIn (((List.range 10).flatMap (fun k => [Value.string ⟨(formV k).toArray⟩, Value.int .i64 (formN k), Value.int .i32 (formR k)])).toArray))).modify
     1 (layIn (((List.range 4).map (fun i => Value.string ⟨(guardT i).toArray⟩)).toArray))).modify 4 (layIn (((List.range 5).map (fun i => Value.string ⟨(levelT i).toArray⟩)).toArray))).modify
     9 (layIn (cellsD 2 Rows.laid_math_bits_deBruijn32tab).toArray)).modify 10 (layIn (cellsD 2 Rows.laid_math_bits_deBruijn64tab).toArray)).modify
     8 (layIn (cellsD 2 Rows.laid_internal_strconv_uint64pow10).toArray)).modify 7 (layIn #[.iface 178 (.pointer (some ⟨low12, 0, none⟩))])).modify 6 (layIn #[.iface 178 (.pointer (some ⟨low12 + 1, 0, none⟩))]) }
end Yd
