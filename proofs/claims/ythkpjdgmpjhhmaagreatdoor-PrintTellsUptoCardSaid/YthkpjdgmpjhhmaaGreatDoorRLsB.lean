import Derived.Test.YthkpjdgmpjhhmaaGreatDoorRLsA
import Derived.Test.YthkpjdgmpjhhmaaGreatDoorLinesC
import Derived.Test.YthkpjdgmpjhhmaaGreatDoorLineO
import Derived.Test.YthkpjdgmpjhhmaaGreatDoorPrIter
import Derived.Test.YthkpjdgmpjhhmaaGreatDoorProg
import Derived.Test.YthkpjdgmpjhhmaaGreatDoorRWdC
import Derived.Test.YthkpjdgmpjhhmaaGreatDoorPtext2
import Derived.Lib.AppendStr
set_option maxRecDepth 200000
set_option maxHeartbeats 8000000
namespace Yd
open Go Go.RowKit Go.Proofs
attribute [local go_sem] Oper.semAt_some

structure LsAt (w X : World) (cl : Array Value) (a : Option Addr) (n c : Nat) (lcs : List LnC) (ls : List LnS) : Prop where
 x : Bx X w.heap.size cl
 o : Own X (w.heap.size + 1) 41 6 encLn (.slice a n c) lcs
 l : LnsAt X (w.heap.size + 1) lcs ls
 b : Below w.heap.size w X
 s : w.heap.size + 1 ≤ X.heap.size
theorem LsAt.call {w X Y : World} {cl : Array Value} {a : Option Addr} {n c : Nat} {lcs : List LnC} {ls : List LnS} (h : LsAt w X cl a n c lcs ls) (hb : Below X.heap.size X Y) : LsAt w Y cl a n c lcs ls :=
 ⟨h.x.keep hb, h.o.below hb rfl, h.l.below hb, h.b.trans (hb.mono h.b.size), Nat.le_trans h.s hb.size⟩
theorem LsAt.snoc {w X Y : World} {cl : Array Value} {a a' : Option Addr} {n c c' : Nat} {lcs : List LnC} {ls : List LnS} {l : LnC} {s : LnS} (h : LsAt w X cl a n c lcs ls) (hl : LnAt X (w.heap.size + 1) l s)
   (hown : Own Y (w.heap.size + 1) 41 6 encLn (.slice a' (n + 1) c') (lcs ++ [l])) (hg : (X.alloc (.cells (cellsLn l) 41)).grownBy Y (Value.slice a n c).ownBlock) : LsAt w Y cl a' (n + 1) c' (lcs ++ [l]) (ls ++ [s]) :=
 ⟨(h.x.alloc _).grown hg (fun e => by have := (h.o.lt _ e).1; omega), hown,
   ((h.l.snoc hl).below (belowA (Below.refl _ _) _)).grown hg (fun g e => (h.o.alloc (.cells (cellsLn l) 41)).tag e),
   below_app (h.b.alloc h.b.size _) (h.o.alloc _) (by omega) (by have := h.s; simp; omega) hg, by have := hg.size; have := h.s; simp at *; omega⟩
theorem LsAt.ret {w X : World} {cl : Array Value} {a : Option Addr} {n c : Nat} {lcs : List LnC} {ls : List LnS} (h : LsAt w X cl a n c lcs ls) : RetLns ls w (.returned (.slice a n c)) X := by
 have hn := h.o.len
 subst hn
 exact ⟨a, c, lcs, rfl, h.o.mono (by omega), ⟨h.l.1, fun i l hl => by obtain ⟨s, h1, h2⟩ := h.l.2 i l hl; exact ⟨s, h1, h2.mono (by omega)⟩⟩, h.b⟩
theorem r_Lines14 (h : HC) (nl : Nat → List Bs) (es : List EvC) (ds : List OrC) (ms : List MaC) (qs : List Wa) (scan : EvC → List Sn) (dn : OrC → List Int) (mn : MaC → List Int) (w : World)
   (hn : ∀ i, i < 4 → Row w 1 encStr (h.nm i).a (h.nm i).n (h.nm i).c (nl i)) (hd : Deep w h es ds ms qs scan dn mn) (hsh : shapedB h nl es ds ms qs scan dn mn = true) :
   Calls Tryz.prog 16 #[valH h] w (RetLns (linesS nl es ds ms qs scan dn mn) w) := by
 have hmany : manyB h = true := by
   have h1 := hsh
   simp only [shapedB, namesB, Bool.and_eq_true] at h1
   exact h1.1.1.1.1.1
 have HMN := hid (many_le hmany)
 simp only [shapedB, Bool.and_eq_true, List.all_eq_true] at hsh
 obtain ⟨⟨⟨⟨_, hse⟩, hsd⟩, hsm⟩, hsw⟩ := hsh
 obtain ⟨LE, hLE⟩ : ∃ LE, LE = es.map (fun e => eventS (nl 0) (nl 1) (nl 2) (nl 3) e (scan e)) := ⟨_, rfl⟩
 obtain ⟨LD, hLD⟩ : ∃ LD, LD = ds.map (fun x => orderS (nl 2) (nl 0) x (dn x)) := ⟨_, rfl⟩
 obtain ⟨LM, hLM⟩ : ∃ LM, LM = ms.map (fun x => matchS (nl 3) (nl 2) (nl 0) x (mn x)) := ⟨_, rfl⟩
 obtain ⟨LW, hLW⟩ : ∃ LW, LW = qs.map (wantS (nl 1)) := ⟨_, rfl⟩
 have HLS : Hid (linesS nl es ds ms qs scan dn mn = LE ++ LD ++ LM ++ LW) := hid (by rw [hLE, hLD, hLM, hLW]; rfl)
 have HLE := hid hLE; have HLD := hid hLD; have HLM := hid hLM; have HLW := hid hLW
 have HSE := hid hse; have HSD := hid hsd; have HSM := hid hsm; have HSW := hid hsw; have HN := hid hn; have HD := hid hd
 obtain ⟨i, z, hi, hz, hsize, hby', hzs⟩ := partsLn
 have HI := hid (⟨hi, hz, hsize, hby', hzs⟩ : _ ∧ _ ∧ _ ∧ _ ∧ _)
 clear hmany hse hsd hsm hsw hLE hLD hLM hLW hi hz hsize hby' hzs hn hd
 obtain ⟨⟨ta, tn_, tc⟩, ⟨sa, sn_, sc⟩, ⟨oa, on_, oc⟩, ⟨pa, pn_, pc⟩, ⟨ea, en, ec⟩, ⟨da, dn_, dc⟩, ⟨ma, mn_, mc⟩, ⟨wa, wn, wc⟩⟩ := h
 have HRT : Hid (Row w 1 encStr ta tn_ tc (nl 0)) := hid (HN.out 0 (by decide))
 have HRS : Hid (Row w 1 encStr sa sn_ sc (nl 1)) := hid (HN.out 1 (by decide))
 have HRO : Hid (Row w 1 encStr oa on_ oc (nl 2)) := hid (HN.out 2 (by decide))
 have HRP : Hid (Row w 1 encStr pa pn_ pc (nl 3)) := hid (HN.out 3 (by decide))
 have HRE : Hid (Row w 9 encEv ea en ec es) := hid HD.out.1
 have HRD : Hid (Row w 2 encOr da dn_ dc ds) := hid HD.out.2.1
 have HRM : Hid (Row w 4 encMa ma mn_ mc ms) := hid HD.out.2.2.1
 have HRW : Hid (Row w 2 encWa wa wn wc qs) := hid HD.out.2.2.2.1
 obtain ⟨m1, m2, m3, m4⟩ := HMN.out
 simp only at m1 m2 m3 m4
 have HB3 : Hid (en ≤ 3000 ∧ dn_ ≤ 3000 ∧ mn_ ≤ 3000 ∧ wn ≤ 3000) := hid ⟨m1, m2, m3, m4⟩
 clear HN m1 m2 m3 m4
 have HL0 : Hid (LsAt w (w.alloc (.cells #[.slice ta tn_ tc, .slice sa sn_ sc, .slice oa on_ oc, .slice pa pn_ pc, .slice ea en ec, .slice da dn_ dc, .slice ma mn_ mc, .slice wa wn wc] 28)) #[.slice ta tn_ tc, .slice sa sn_ sc, .slice oa on_ oc, .slice pa pn_ pc, .slice ea en ec, .slice da dn_ dc, .slice ma mn_ mc, .slice wa wn wc] none 0 0 [] []) := hid ⟨Bx.new w _ _, Own.nil_ _ _ _ _ _, ⟨rfl, fun i l hl => by simp at hl⟩, belowA (Below.refl _ _) _, by simp⟩
 have hcx := HL0.out.x.1; have hlx := HL0.out.x.2.2
 go_enter Tryz.func16, Tryz.ntmps16
 go_wp2_with fail
 clear hcx hlx
 go_loopw [3, 15] (fun v j wr => ∃ (k n : Nat) (a : Option Addr) (c : Nat) (lcs : List LnC), k ≤ en ∧ j = .int .i64 k ∧ v = .slice a n c ∧ n = 0 + k ∧ LsAt w wr #[.slice ta tn_ tc, .slice sa sn_ sc, .slice oa on_ oc, .slice pa pn_ pc, .slice ea en ec, .slice da dn_ dc, .slice ma mn_ mc, .slice wa wn wc] a n c lcs (LE.take k)) (fun _ j _ => en - (RowKit.intOf j).toNat)
 case atStart => exact ⟨0, 0, _, _, _, Nat.zero_le _, rfl, rfl, by omega, by simpa using HL0.out⟩
 case round =>
   obtain ⟨k, n, a, c, lcs, hk, rfl, rfl, hnn, hL⟩ := hrel
   have HL := hid hL; have HNN := hid hnn
   clear hL hnn
   have hkb : k ≤ 3000 := by have := HB3.out; omega
   by_cases hlt : k < en
   · obtain ⟨x, rb, ro, hx, rfl, hc⟩ := (HRE.out.below HL.out.b rfl).at_ hlt
     have HX := hid hx; have hmem := List.mem_of_getElem? hx
     have HNA : Hid (lcs.length + 1 = n + 1 ∧ (n + 1) * 80 ≤ 140737488355328 ∧ n + 1 ≤ maxLen) := hid ⟨by have := HL.out.o.len; omega, by have := HNN.out; have := HB3.out; omega, by have := HNN.out; have := HB3.out; unfold maxLen; omega⟩
     have HLX : Hid (LE[k]? = some (eventS (nl 0) (nl 1) (nl 2) (nl 3) x (scan x))) := hid (by rw [HLE.out, List.getElem?_map, hx]; rfl)
     have hev := HSE.out x hmem
     have hsc := HD.out.2.2.2.2.1 x hmem
     have e0 := hc 0 _ rfl
     have e1 := hc 1 _ rfl
     have e2 := hc 2 _ rfl
     have e3 := hc 3 _ rfl
     have e4 := hc 4 _ rfl
     have e5 := hc 5 _ rfl
     have e6 := hc 6 _ rfl
     have e7 := hc 7 _ rfl
     have e8 := hc 8 _ rfl
     simp only [Nat.add_zero] at e0
     have HEV := hid (fun W (hW : Below w.heap.size w W) => r_event14 ⟨⟨ta, tn_, tc⟩, ⟨sa, sn_, sc⟩, ⟨oa, on_, oc⟩, ⟨pa, pn_, pc⟩, ⟨(some ⟨rb, ro, none⟩), en, ec⟩, ⟨da, dn_, dc⟩, ⟨ma, mn_, mc⟩, ⟨wa, wn, wc⟩⟩ (nl 0) (nl 1) (nl 2) (nl 3) x (scan x) W (HRT.out.below hW rfl) (HRS.out.below hW rfl) (HRO.out.below hW rfl) (HRP.out.below hW rfl) (hsc.below hW rfl) hev)
     have hcx := HL.out.x.1; have hlx := HL.out.x.2.2
     clear hc hx hmem hev hsc
     go_wp2_with fail
     clear hcx hlx e0 e1 e2 e3 e4 e5 e6 e7 e8
     refine (HEV.out _ (HL.out.b.alloc HL.out.b.size _)).mono ?_
     rintro en_ X2 ⟨l, rfl, hln, hb2⟩
     have HL2 := hid (HL.out.call ((belowA (Below.refl _ _) _).trans (hb2.mono (by simp))))
     have HLN : Hid (LnAt X2 (w.heap.size + 1) l _) := hid (hln.mono (by have := HL.out.s; simp; omega))
     clear hb2 hln
     obtain ⟨lk, la, lnn, lnc, ll, lva, lvn, lvc, lf, lb⟩ := l
     go_wp2_with (at_builtin; refine wpList_app rfl _ _ 31 rfl i z 80 Tryz.underlying31 HI.out.1 HI.out.2.1 HI.out.2.2.1 HI.out.2.2.2.1 HI.out.2.2.2.2 rfl (HL2.out.o.alloc _) (some ⟨X2.heap.size, 0, none⟩) 1 1 (n + 1) [⟨lk, la, lnn, lnc, ll, lva, lvn, lvc, lf, lb⟩] rfl (Row.lnN rfl ⟨lk, la, lnn, lnc, ll, lva, lvn, lvc, lf, lb⟩) HNA.out.1 HNA.out.2.1 HNA.out.2.2 (by have := HL2.out.s; simp; omega) ?_; intro a9 c9 X9 hown hg hat; have HL9 := hid (HL2.out.snoc HLN.out hown hg); clear hown hg hat)
     go_roundw
     case rel => exact ⟨k + 1, n + 1, _, _, _, by omega, by go_num, rfl, by have := HNN.out; omega, by have h9 := HL9.out; rw [List.take_add_one, HLX.out]; simpa using h9⟩
     case measure => simp [RowKit.intOf]; omega
   · obtain rfl : en = k := by omega
     have HTK : Hid (LE.take en = LE) := hid (List.take_of_length_le (by rw [HLE.out, List.length_map, HRE.out.len]; exact Nat.le_refl _))
     have HLP := hid HL.out
     rw [HTK.out] at HLP
     clear HL
     have hcx := HLP.out.x.1; have hlx := HLP.out.x.2.2
     go_wp2_with fail
     clear hcx hlx
     go_loopw [3, 29] (fun v j wr => ∃ (k n : Nat) (a : Option Addr) (c : Nat) (lcs : List LnC), k ≤ dn_ ∧ j = .int .i64 k ∧ v = .slice a n c ∧ n = en + k ∧ LsAt w wr #[.slice ta tn_ tc, .slice sa sn_ sc, .slice oa on_ oc, .slice pa pn_ pc, .slice ea en ec, .slice da dn_ dc, .slice ma mn_ mc, .slice wa wn wc] a n c lcs (LE ++ LD.take k)) (fun _ j _ => dn_ - (RowKit.intOf j).toNat)
     case atStart => exact ⟨0, n, _, _, _, Nat.zero_le _, rfl, rfl, by have := HNN.out; omega, by simpa using HLP.out⟩
     case round =>
       obtain ⟨k, n, a, c, lcs, hk, rfl, rfl, hnn, hL⟩ := hrel
       have HL := hid hL; have HNN := hid hnn
       clear hL hnn
       have hkb : k ≤ 3000 := by have := HB3.out; omega
       by_cases hlt : k < dn_
       · obtain ⟨x, rb, ro, hx, rfl, hc⟩ := (HRD.out.below HL.out.b rfl).at_ hlt
         have HX := hid hx; have hmem := List.mem_of_getElem? hx
         have HNA : Hid (lcs.length + 1 = n + 1 ∧ (n + 1) * 80 ≤ 140737488355328 ∧ n + 1 ≤ maxLen) := hid ⟨by have := HL.out.o.len; omega, by have := HNN.out; have := HB3.out; omega, by have := HNN.out; have := HB3.out; unfold maxLen; omega⟩
         have HLX := hid (show LD[k]? = some (orderS (nl 2) (nl 0) x (dn x)) from by rw [HLD.out, List.getElem?_map, hx]; rfl)
         have ho := HSD.out x hmem
         simp only [ordB, Bool.and_eq_true] at ho
         have hds := HD.out.2.2.2.2.2.1 x hmem
         obtain ⟨xob, xsa, xsn, xsc⟩ := x
         have f0 := hc 0 _ rfl; have f1 := hc 1 _ rfl
         simp only [Nat.add_zero] at f0
         have HAL : Hid ((∀ t ∈ _, toldB t tn_ = true) ∧ _) := hid (by have h1 := ho.2; simp only [allowB, Bool.and_eq_true, List.all_eq_true, decide_eq_true_eq] at h1; exact ⟨h1.2, h1.1⟩)
         have HDS := hid hds
         have hq : toldB xob on_ = true := ho.1
         obtain ⟨p0, p1⟩ := told_bd hq
         obtain ⟨q0, rfl⟩ : ∃ q : Nat, xob = q := ⟨xob.toNat, by omega⟩
         obtain ⟨y0, yb0, yo0, hy, rfl, hyc⟩ := HRO.out.at_ (i := q0) (by omega)
         have hy0 := hyc 0 _ rfl
         simp only [Nat.mul_one, Nat.add_zero] at hy0
         have HYN0 := hid (nameOf_at hy)
         have HY0 : Hid (∀ X, Below w.heap.size w X → X.cell? ⟨yb0, yo0 + q0, none⟩ = some (.string ⟨y0.toArray⟩)) := hid (fun X hX => bget hX rfl hy0)
         have hyl0 : q0 < on_ := by omega
         have hycap0 := HRO.out.cap
         clear hy hyc hy0 p0 p1 hq
         have R := hid (HL.out.call (belowA (Below.refl _ _) (.cells #[.int .i64 (q0 : Nat), .slice xsa xsn xsc] 72)))
         have HQ := hid (Bx.new wr #[.int .i64 (q0 : Nat), .slice xsa xsn xsc] 72)
         have hcx := HL.out.x.1; have hlx := HL.out.x.2.2
         clear hc hx hmem ho hds
         go_wp2_with fail
         clear hcx hlx f0 f1
         refine wp_region_ordC 15 [(0, 0), (1, 0), (2, 0), (3, 0), (4, 0), (5, 0), (6, 0), (7, 0), (9, 0), (10, 0), (8, 2), (11, 2), (12, 0), (13, 2), (14, 2), (15, 1)] (fun _ => True) (fun W' => Bx W' w.heap.size #[.slice ta tn_ tc, .slice sa sn_ sc, .slice (some ⟨yb0, yo0, none⟩) on_ oc, .slice pa pn_ pc, .slice ea en ec, .slice (some ⟨rb, ro, none⟩) dn_ dc, .slice ma mn_ mc, .slice wa wn wc] ∧ Bx W' wr.heap.size #[.int .i64 (q0 : Nat), .slice xsa xsn xsc] ∧ W'.cell? ⟨yb0, yo0 + q0, none⟩ = some (.string ⟨y0.toArray⟩)) (by kernel_rfl) (by kernel_rfl) (trivial) (⟨R.out.x, HQ.out, HY0.out _ R.out.b.drew⟩) ?_
         repeat ((first | refine ordC_skip rfl rfl ?_ | refine ordC_skip1 rfl rfl ?_ | ((first | refine ordC_q rfl rfl ?_ | refine ordC_p rfl rfl ?_); apply Exists.intro; refine ⟨fun wS hS => ?_, ?_⟩; (go_simp; try with_reducible rfl))); simp only [Act.put, List.setIfInBounds_toArray, List.set_cons_zero, List.set_cons_succ])
         refine ordC_l rfl rfl (fun K hK => ?_)
         go_simp
         refine hK _ _ ⟨trivial, R.out.x.drew.alloc _, HQ.out.drew.alloc _, cellA _ (HY0.out _ R.out.b)⟩ ?_
         clear hK K
         refine ordC_l rfl rfl (fun K hK => ?_)
         go_simp
         refine (r_names14 ⟨⟨ta, tn_, tc⟩, ⟨sa, sn_, sc⟩, ⟨(some ⟨yb0, yo0, none⟩), on_, oc⟩, ⟨pa, pn_, pc⟩, ⟨ea, en, ec⟩, ⟨(some ⟨rb, ro, none⟩), dn_, dc⟩, ⟨ma, mn_, mc⟩, ⟨wa, wn, wc⟩⟩ (nl 0) xsa xsn xsc (dn ⟨(q0 : Nat), xsa, xsn, xsc⟩) (some ⟨wr.heap.size + 1, 0, none⟩) 1 [y0] (wr.alloc (.cells #[.int .i64 (q0 : Nat), .slice xsa xsn xsc] 72)) _ (belowA (Below.refl _ _) _).drew (HDS.out.below R.out.b rfl) (HRT.out.below R.out.b rfl) HAL.out.1 (Own.drew ((Own.strs (X := (wr.alloc (.cells #[.int .i64 (q0 : Nat), .slice xsa xsn xsc] 72))) (by simp) [y0] (by simp [maxLen])).mono (by simp))) (by have h1 : (dn ⟨(q0 : Nat), xsa, xsn, xsc⟩).length = xsn := HDS.out.len; have h2 : (dn ⟨(q0 : Nat), xsa, xsn, xsc⟩).length ≤ 300 := HAL.out.2; simp; omega)).mono ?_
         rintro en_ X2 ⟨na, nc, rfl, hno, hb2⟩
         obtain ⟨nn, hnn⟩ : ∃ nn, nn = ([y0] ++ (dn ⟨(q0 : Nat), xsa, xsn, xsc⟩).map (nameOf (nl 0))).length := ⟨_, rfl⟩
         rw [← hnn] at hno ⊢
         have HN2 := hid hnn
         clear hnn
         have R2 := hid (R.out.call hb2); have HQ2 := hid (HQ.out.keep hb2)
         skip
         have HLN : Hid (LnAt X2 (w.heap.size + 1) ⟨7, na, nn, nc, 0, none, 0, 0, false, 0⟩ (orderS (nl 2) (nl 0) ⟨(q0 : Nat), xsa, xsn, xsc⟩ (dn ⟨(q0 : Nat), xsa, xsn, xsc⟩))) := hid (by
           unfold orderS
           simp only [HYN0.out]
           exact ⟨⟨rfl, rfl, rfl, rfl, HN2.out, rfl⟩, hno.mono (by have := HL.out.s; simp; omega), Own.nil_ _ _ _ _ _⟩)
         refine hK _ _ ⟨trivial, R2.out.x, HQ2.out, HY0.out _ R2.out.b⟩ ?_
         clear hK K hno hb2
         repeat ((first | refine ordC_skip rfl rfl ?_ | refine ordC_skip1 rfl rfl ?_ | ((first | refine ordC_q rfl rfl ?_ | refine ordC_p rfl rfl ?_); apply Exists.intro; refine ⟨fun wS hS => ?_, ?_⟩; (go_simp; try with_reducible rfl))); simp only [Act.put, List.setIfInBounds_toArray, List.set_cons_zero, List.set_cons_succ])
         refine ordC_l rfl rfl (fun K hK => ?_)
         go_simp
         refine hK _ _ ⟨trivial, R2.out.x.alloc _, HQ2.out.alloc _, cellA _ (HY0.out _ R2.out.b)⟩ ?_
         clear hK K
         refine ordC_l rfl rfl (fun K hK => ?_)
         refine wp_app _ _ 31 rfl i z 80 Tryz.underlying31 HI.out.1 HI.out.2.1 HI.out.2.2.1 HI.out.2.2.2.1 HI.out.2.2.2.2 (v := .slice a n c) rfl (R2.out.o.alloc _) (some ⟨X2.heap.size, 0, none⟩) 1 1 (n + 1) [⟨7, na, nn, nc, 0, none, 0, 0, false, 0⟩] rfl (Row.lnN rfl ⟨7, na, nn, nc, 0, none, 0, 0, false, 0⟩) HNA.out.1 HNA.out.2.1 HNA.out.2.2 (by have := R2.out.s; simp; omega) ?_
         intro a9 c9 X9 hown hg hat
         have HL9 := hid (R2.out.snoc HLN.out hown hg)
         have HQ9 := hid ((HQ2.out.alloc _).grown hg (fun e => by have := (HL.out.o.lt _ e).2; omega))
         refine hK _ _ ⟨trivial, HL9.out.x, HQ9.out, HY0.out _ HL9.out.b⟩ ?_
         clear hK K hown hg hat
         repeat ((first | refine ordC_skip rfl rfl ?_ | refine ordC_skip1 rfl rfl ?_ | ((first | refine ordC_q rfl rfl ?_ | refine ordC_p rfl rfl ?_); apply Exists.intro; refine ⟨fun wS hS => ?_, ?_⟩; (go_simp; try with_reducible rfl))); simp only [Act.put, List.setIfInBounds_toArray, List.set_cons_zero, List.set_cons_succ])
         refine ordC_nil ?_
         have hcx := HL9.out.x.1; have hlx := HL9.out.x.2.2
         go_wp2_with fail
         go_roundw
         case rel => exact ⟨k + 1, n + 1, _, _, _, by omega, by go_num, rfl, by have := HNN.out; omega, by have h9 := HL9.out; rw [List.append_assoc] at h9; rw [List.take_add_one, HLX.out]; simpa using h9⟩
         case measure => simp [RowKit.intOf]; omega
       · obtain rfl : dn_ = k := by omega
         have HTK : Hid (LD.take dn_ = LD) := hid (List.take_of_length_le (by rw [HLD.out, List.length_map, HRD.out.len]; exact Nat.le_refl _))
         have HLP := hid HL.out
         rw [HTK.out] at HLP
         clear HL
         have hcx := HLP.out.x.1; have hlx := HLP.out.x.2.2
         go_wp2_with fail
         clear hcx hlx
         go_loopw [3, 52] (fun v j wr => ∃ (k n : Nat) (a : Option Addr) (c : Nat) (lcs : List LnC), k ≤ mn_ ∧ j = .int .i64 k ∧ v = .slice a n c ∧ n = en + dn_ + k ∧ LsAt w wr #[.slice ta tn_ tc, .slice sa sn_ sc, .slice oa on_ oc, .slice pa pn_ pc, .slice ea en ec, .slice da dn_ dc, .slice ma mn_ mc, .slice wa wn wc] a n c lcs ((LE ++ LD) ++ LM.take k)) (fun _ j _ => mn_ - (RowKit.intOf j).toNat)
         case atStart => exact ⟨0, n, _, _, _, Nat.zero_le _, rfl, rfl, by have := HNN.out; omega, by simpa using HLP.out⟩
         case round =>
           obtain ⟨k, n, a, c, lcs, hk, rfl, rfl, hnn, hL⟩ := hrel
           have HL := hid hL; have HNN := hid hnn
           clear hL hnn
           have hkb : k ≤ 3000 := by have := HB3.out; omega
           by_cases hlt : k < mn_
           · obtain ⟨x, rb, ro, hx, rfl, hc⟩ := (HRM.out.below HL.out.b rfl).at_ hlt
             have HX := hid hx; have hmem := List.mem_of_getElem? hx
             have HNA : Hid (lcs.length + 1 = n + 1 ∧ (n + 1) * 80 ≤ 140737488355328 ∧ n + 1 ≤ maxLen) := hid ⟨by have := HL.out.o.len; omega, by have := HNN.out; have := HB3.out; omega, by have := HNN.out; have := HB3.out; unfold maxLen; omega⟩
             have HLX := hid (show LM[k]? = some (matchS (nl 3) (nl 2) (nl 0) x (mn x)) from by rw [HLM.out, List.getElem?_map, hx]; rfl)
             have ho := HSM.out x hmem
             simp only [matB, Bool.and_eq_true] at ho
             have hds := HD.out.2.2.2.2.2.2 x hmem
             obtain ⟨xpr, xob, xfi, xsa, xsn, xsc⟩ := x
             have f0 := hc 0 _ rfl; have f1 := hc 1 _ rfl; have f2 := hc 2 _ rfl; have f3 := hc 3 _ rfl
             simp only [Nat.add_zero] at f0
             have HAL : Hid ((∀ t ∈ _, toldB t tn_ = true) ∧ _) := hid (by have h1 := ho.2; simp only [allowB, Bool.and_eq_true, List.all_eq_true, decide_eq_true_eq] at h1; exact ⟨h1.2, h1.1⟩)
             have HDS := hid hds
             have hq : toldB xpr pn_ = true := ho.1.1
             obtain ⟨p0, p1⟩ := told_bd hq
             obtain ⟨q0, rfl⟩ : ∃ q : Nat, xpr = q := ⟨xpr.toNat, by omega⟩
             obtain ⟨y0, yb0, yo0, hy, rfl, hyc⟩ := HRP.out.at_ (i := q0) (by omega)
             have hy0 := hyc 0 _ rfl
             simp only [Nat.mul_one, Nat.add_zero] at hy0
             have HYN0 := hid (nameOf_at hy)
             have HY0 : Hid (∀ X, Below w.heap.size w X → X.cell? ⟨yb0, yo0 + q0, none⟩ = some (.string ⟨y0.toArray⟩)) := hid (fun X hX => bget hX rfl hy0)
             have hyl0 : q0 < pn_ := by omega
             have hycap0 := HRP.out.cap
             clear hy hyc hy0 p0 p1 hq
             have hq : toldB xob on_ = true := ho.1.2
             obtain ⟨p0, p1⟩ := told_bd hq
             obtain ⟨q1, rfl⟩ : ∃ q : Nat, xob = q := ⟨xob.toNat, by omega⟩
             obtain ⟨y1, yb1, yo1, hy, rfl, hyc⟩ := HRO.out.at_ (i := q1) (by omega)
             have hy0 := hyc 0 _ rfl
             simp only [Nat.mul_one, Nat.add_zero] at hy0
             have HYN1 := hid (nameOf_at hy)
             have HY1 : Hid (∀ X, Below w.heap.size w X → X.cell? ⟨yb1, yo1 + q1, none⟩ = some (.string ⟨y1.toArray⟩)) := hid (fun X hX => bget hX rfl hy0)
             have hyl1 : q1 < on_ := by omega
             have hycap1 := HRO.out.cap
             clear hy hyc hy0 p0 p1 hq
             have R := hid (HL.out.call (belowA (Below.refl _ _) (.cells #[.int .i64 (q0 : Nat), .int .i64 (q1 : Nat), .bool xfi, .slice xsa xsn xsc] 79)))
             have HQ := hid (Bx.new wr #[.int .i64 (q0 : Nat), .int .i64 (q1 : Nat), .bool xfi, .slice xsa xsn xsc] 79)
             have hcx := HL.out.x.1; have hlx := HL.out.x.2.2
             clear hc hx hmem ho hds
             go_wp2_with fail
             clear hcx hlx f0 f1 f2 f3
             refine wp_region_ordC 23 [(0, 0), (1, 0), (2, 0), (3, 0), (4, 0), (5, 0), (6, 0), (7, 0), (8, 0), (9, 0), (10, 0), (11, 0), (12, 0), (13, 0), (14, 0), (15, 0), (17, 0), (18, 0), (16, 2), (19, 2), (20, 0), (21, 2), (22, 2), (23, 1)] (fun _ => True) (fun W' => Bx W' w.heap.size #[.slice ta tn_ tc, .slice sa sn_ sc, .slice (some ⟨yb1, yo1, none⟩) on_ oc, .slice (some ⟨yb0, yo0, none⟩) pn_ pc, .slice ea en ec, .slice da dn_ dc, .slice (some ⟨rb, ro, none⟩) mn_ mc, .slice wa wn wc] ∧ Bx W' wr.heap.size #[.int .i64 (q0 : Nat), .int .i64 (q1 : Nat), .bool xfi, .slice xsa xsn xsc] ∧ W'.cell? ⟨yb0, yo0 + q0, none⟩ = some (.string ⟨y0.toArray⟩) ∧ W'.cell? ⟨yb1, yo1 + q1, none⟩ = some (.string ⟨y1.toArray⟩)) (by kernel_rfl) (by kernel_rfl) (trivial) (⟨R.out.x, HQ.out, HY0.out _ R.out.b.drew, HY1.out _ R.out.b.drew⟩) ?_
             repeat ((first | refine ordC_skip rfl rfl ?_ | refine ordC_skip1 rfl rfl ?_ | ((first | refine ordC_q rfl rfl ?_ | refine ordC_p rfl rfl ?_); apply Exists.intro; refine ⟨fun wS hS => ?_, ?_⟩; (go_simp; try with_reducible rfl))); simp only [Act.put, List.setIfInBounds_toArray, List.set_cons_zero, List.set_cons_succ])
             refine ordC_l rfl rfl (fun K hK => ?_)
             go_simp
             refine hK _ _ ⟨trivial, R.out.x.drew.alloc _, HQ.out.drew.alloc _, cellA _ (HY0.out _ R.out.b), cellA _ (HY1.out _ R.out.b)⟩ ?_
             clear hK K
             refine ordC_l rfl rfl (fun K hK => ?_)
             go_simp
             refine (r_names14 ⟨⟨ta, tn_, tc⟩, ⟨sa, sn_, sc⟩, ⟨(some ⟨yb1, yo1, none⟩), on_, oc⟩, ⟨(some ⟨yb0, yo0, none⟩), pn_, pc⟩, ⟨ea, en, ec⟩, ⟨da, dn_, dc⟩, ⟨(some ⟨rb, ro, none⟩), mn_, mc⟩, ⟨wa, wn, wc⟩⟩ (nl 0) xsa xsn xsc (mn ⟨(q0 : Nat), (q1 : Nat), xfi, xsa, xsn, xsc⟩) (some ⟨wr.heap.size + 1, 0, none⟩) 2 [y0, y1] (wr.alloc (.cells #[.int .i64 (q0 : Nat), .int .i64 (q1 : Nat), .bool xfi, .slice xsa xsn xsc] 79)) _ (belowA (Below.refl _ _) _).drew (HDS.out.below R.out.b rfl) (HRT.out.below R.out.b rfl) HAL.out.1 (Own.drew ((Own.strs (X := (wr.alloc (.cells #[.int .i64 (q0 : Nat), .int .i64 (q1 : Nat), .bool xfi, .slice xsa xsn xsc] 79))) (by simp) [y0, y1] (by simp [maxLen])).mono (by simp))) (by have h1 : (mn ⟨(q0 : Nat), (q1 : Nat), xfi, xsa, xsn, xsc⟩).length = xsn := HDS.out.len; have h2 : (mn ⟨(q0 : Nat), (q1 : Nat), xfi, xsa, xsn, xsc⟩).length ≤ 300 := HAL.out.2; simp; omega)).mono ?_
             rintro en_ X2 ⟨na, nc, rfl, hno, hb2⟩
             obtain ⟨nn, hnn⟩ : ∃ nn, nn = ([y0, y1] ++ (mn ⟨(q0 : Nat), (q1 : Nat), xfi, xsa, xsn, xsc⟩).map (nameOf (nl 0))).length := ⟨_, rfl⟩
             rw [← hnn] at hno ⊢
             have HN2 := hid hnn
             clear hnn
             have R2 := hid (R.out.call hb2); have HQ2 := hid (HQ.out.keep hb2)
             skip
             have HLN : Hid (LnAt X2 (w.heap.size + 1) ⟨8, na, nn, nc, 0, none, 0, 0, xfi, 0⟩ (matchS (nl 3) (nl 2) (nl 0) ⟨(q0 : Nat), (q1 : Nat), xfi, xsa, xsn, xsc⟩ (mn ⟨(q0 : Nat), (q1 : Nat), xfi, xsa, xsn, xsc⟩))) := hid (by
               unfold matchS
               simp only [HYN0.out, HYN1.out]
               exact ⟨⟨rfl, rfl, rfl, rfl, HN2.out, rfl⟩, hno.mono (by have := HL.out.s; simp; omega), Own.nil_ _ _ _ _ _⟩)
             refine hK _ _ ⟨trivial, R2.out.x, HQ2.out, HY0.out _ R2.out.b, HY1.out _ R2.out.b⟩ ?_
             clear hK K hno hb2
             repeat ((first | refine ordC_skip rfl rfl ?_ | refine ordC_skip1 rfl rfl ?_ | ((first | refine ordC_q rfl rfl ?_ | refine ordC_p rfl rfl ?_); apply Exists.intro; refine ⟨fun wS hS => ?_, ?_⟩; (go_simp; try with_reducible rfl))); simp only [Act.put, List.setIfInBounds_toArray, List.set_cons_zero, List.set_cons_succ])
             refine ordC_l rfl rfl (fun K hK => ?_)
             go_simp
             refine hK _ _ ⟨trivial, R2.out.x.alloc _, HQ2.out.alloc _, cellA _ (HY0.out _ R2.out.b), cellA _ (HY1.out _ R2.out.b)⟩ ?_
             clear hK K
             refine ordC_l rfl rfl (fun K hK => ?_)
             refine wp_app _ _ 31 rfl i z 80 Tryz.underlying31 HI.out.1 HI.out.2.1 HI.out.2.2.1 HI.out.2.2.2.1 HI.out.2.2.2.2 (v := .slice a n c) rfl (R2.out.o.alloc _) (some ⟨X2.heap.size, 0, none⟩) 1 1 (n + 1) [⟨8, na, nn, nc, 0, none, 0, 0, xfi, 0⟩] rfl (Row.lnN rfl ⟨8, na, nn, nc, 0, none, 0, 0, xfi, 0⟩) HNA.out.1 HNA.out.2.1 HNA.out.2.2 (by have := R2.out.s; simp; omega) ?_
             intro a9 c9 X9 hown hg hat
             have HL9 := hid (R2.out.snoc HLN.out hown hg)
             have HQ9 := hid ((HQ2.out.alloc _).grown hg (fun e => by have := (HL.out.o.lt _ e).2; omega))
             refine hK _ _ ⟨trivial, HL9.out.x, HQ9.out, HY0.out _ HL9.out.b, HY1.out _ HL9.out.b⟩ ?_
             clear hK K hown hg hat
             repeat ((first | refine ordC_skip rfl rfl ?_ | refine ordC_skip1 rfl rfl ?_ | ((first | refine ordC_q rfl rfl ?_ | refine ordC_p rfl rfl ?_); apply Exists.intro; refine ⟨fun wS hS => ?_, ?_⟩; (go_simp; try with_reducible rfl))); simp only [Act.put, List.setIfInBounds_toArray, List.set_cons_zero, List.set_cons_succ])
             refine ordC_nil ?_
             have hcx := HL9.out.x.1; have hlx := HL9.out.x.2.2
             go_wp2_with fail
             go_roundw
             case rel => exact ⟨k + 1, n + 1, _, _, _, by omega, by go_num, rfl, by have := HNN.out; omega, by have h9 := HL9.out; rw [List.append_assoc] at h9; rw [List.take_add_one, HLX.out]; simpa using h9⟩
             case measure => simp [RowKit.intOf]; omega
           · obtain rfl : mn_ = k := by omega
             have HTK : Hid (LM.take mn_ = LM) := hid (List.take_of_length_le (by rw [HLM.out, List.length_map, HRM.out.len]; exact Nat.le_refl _))
             have HLP := hid HL.out
             rw [HTK.out] at HLP
             clear HL
             have hcx := HLP.out.x.1; have hlx := HLP.out.x.2.2
             go_wp2_with fail
             clear hcx hlx
             go_loopw [3, 83] (fun v j wr => ∃ (k n : Nat) (a : Option Addr) (c : Nat) (lcs : List LnC), k ≤ wn ∧ j = .int .i64 k ∧ v = .slice a n c ∧ n = en + dn_ + mn_ + k ∧ LsAt w wr #[.slice ta tn_ tc, .slice sa sn_ sc, .slice oa on_ oc, .slice pa pn_ pc, .slice ea en ec, .slice da dn_ dc, .slice ma mn_ mc, .slice wa wn wc] a n c lcs ((LE ++ LD ++ LM) ++ LW.take k)) (fun _ j _ => wn - (RowKit.intOf j).toNat)
             case atStart => exact ⟨0, n, _, _, _, Nat.zero_le _, rfl, rfl, by have := HNN.out; omega, by simpa using HLP.out⟩
             case round =>
               obtain ⟨k, n, a, c, lcs, hk, rfl, rfl, hnn, hL⟩ := hrel
               have HL := hid hL; have HNN := hid hnn
               clear hL hnn
               have hkb : k ≤ 3000 := by have := HB3.out; omega
               by_cases hlt : k < wn
               · obtain ⟨x, rb, ro, hx, rfl, hc⟩ := (HRW.out.below HL.out.b rfl).at_ hlt
                 have HX := hid hx; have hmem := List.mem_of_getElem? hx
                 have HNA : Hid (lcs.length + 1 = n + 1 ∧ (n + 1) * 80 ≤ 140737488355328 ∧ n + 1 ≤ maxLen) := hid ⟨by have := HL.out.o.len; omega, by have := HNN.out; have := HB3.out; omega, by have := HNN.out; have := HB3.out; unfold maxLen; omega⟩
                 have HLX := hid (show LW[k]? = some (wantS (nl 1) x) from by rw [HLW.out, List.getElem?_map, hx]; rfl)
                 have ho := HSW.out x hmem
                 simp only [wantB, Bool.and_eq_true, decide_eq_true_eq] at ho
                 obtain ⟨xse, xbi⟩ := x
                 have f0 := hc 0 _ rfl; have f1 := hc 1 _ rfl
                 simp only [Nat.add_zero] at f0
                 have hq : toldB xse sn_ = true := ho.1.1
                 obtain ⟨p0, p1⟩ := told_bd hq
                 obtain ⟨q0, rfl⟩ : ∃ q : Nat, xse = q := ⟨xse.toNat, by omega⟩
                 obtain ⟨y0, yb0, yo0, hy, rfl, hyc⟩ := HRS.out.at_ (i := q0) (by omega)
                 have hy0 := hyc 0 _ rfl
                 simp only [Nat.mul_one, Nat.add_zero] at hy0
                 have HYN0 := hid (nameOf_at hy)
                 have HY0 : Hid (∀ X, Below w.heap.size w X → X.cell? ⟨yb0, yo0 + q0, none⟩ = some (.string ⟨y0.toArray⟩)) := hid (fun X hX => bget hX rfl hy0)
                 have hyl0 : q0 < sn_ := by omega
                 have hycap0 := HRS.out.cap
                 clear hy hyc hy0 p0 p1 hq
                 have R := hid (HL.out.call (belowA (Below.refl _ _) (.cells #[.int .i64 (q0 : Nat), .int .i64 xbi] 82)))
                 have HQ := hid (Bx.new wr #[.int .i64 (q0 : Nat), .int .i64 xbi] 82)
                 have hcx := HL.out.x.1; have hlx := HL.out.x.2.2
                 clear hc hx hmem ho
                 go_wp2_with fail
                 clear hcx hlx f0 f1
                 refine wp_region_ordC 13 [(0, 0), (1, 0), (2, 0), (3, 0), (4, 0), (5, 0), (6, 0), (8, 0), (9, 0), (7, 2), (10, 0), (11, 2), (12, 2), (13, 1)] (fun _ => True) (fun W' => Bx W' w.heap.size #[.slice ta tn_ tc, .slice (some ⟨yb0, yo0, none⟩) sn_ sc, .slice oa on_ oc, .slice pa pn_ pc, .slice ea en ec, .slice da dn_ dc, .slice ma mn_ mc, .slice (some ⟨rb, ro, none⟩) wn wc] ∧ Bx W' wr.heap.size #[.int .i64 (q0 : Nat), .int .i64 xbi] ∧ W'.cell? ⟨yb0, yo0 + q0, none⟩ = some (.string ⟨y0.toArray⟩)) (by kernel_rfl) (by kernel_rfl) (trivial) (⟨R.out.x, HQ.out, HY0.out _ R.out.b.drew⟩) ?_
                 repeat ((first | refine ordC_skip rfl rfl ?_ | refine ordC_skip1 rfl rfl ?_ | ((first | refine ordC_q rfl rfl ?_ | refine ordC_p rfl rfl ?_); apply Exists.intro; refine ⟨fun wS hS => ?_, ?_⟩; (go_simp; try with_reducible rfl))); simp only [Act.put, List.setIfInBounds_toArray, List.set_cons_zero, List.set_cons_succ])
                 refine ordC_l rfl rfl (fun K hK => ?_)
                 go_simp
                 refine hK _ _ ⟨trivial, R.out.x.drew.alloc _, HQ.out.drew.alloc _, cellA _ (HY0.out _ R.out.b)⟩ ?_
                 have R2 : Hid (LsAt w ((wr.alloc (.cells #[.int .i64 (q0 : Nat), .int .i64 xbi] 82)).alloc (.cells #[.string ⟨y0.toArray⟩] 9)).drew #[.slice ta tn_ tc, .slice (some ⟨yb0, yo0, none⟩) sn_ sc, .slice oa on_ oc, .slice pa pn_ pc, .slice ea en ec, .slice da dn_ dc, .slice ma mn_ mc, .slice (some ⟨rb, ro, none⟩) wn wc] a n c lcs _) := hid ((R.out.call (belowA (Below.refl _ _) (.cells #[.string ⟨y0.toArray⟩] 9))).call (Below.refl _ _).drew)
                 have HQ2 : Hid (Bx ((wr.alloc (.cells #[.int .i64 (q0 : Nat), .int .i64 xbi] 82)).alloc (.cells #[.string ⟨y0.toArray⟩] 9)).drew wr.heap.size #[.int .i64 (q0 : Nat), .int .i64 xbi]) := hid (HQ.out.alloc _).drew
                 have HLN : Hid (LnAt ((wr.alloc (.cells #[.int .i64 (q0 : Nat), .int .i64 xbi] 82)).alloc (.cells #[.string ⟨y0.toArray⟩] 9)).drew (w.heap.size + 1) ⟨9, some ⟨wr.heap.size + 1, 0, none⟩, 1, 1, 0, none, 0, 0, false, xbi⟩ (wantS (nl 1) ⟨(q0 : Nat), xbi⟩)) := hid (by
                   unfold wantS
                   simp only [HYN0.out]
                   exact ⟨⟨rfl, rfl, rfl, rfl, rfl, rfl⟩, (Own.drew (Own.strs (by simp) [y0] (by simp [maxLen]))).mono (by have := HL.out.s; omega), Own.nil_ _ _ _ _ _⟩)
                 clear hK K
                 repeat ((first | refine ordC_skip rfl rfl ?_ | refine ordC_skip1 rfl rfl ?_ | ((first | refine ordC_q rfl rfl ?_ | refine ordC_p rfl rfl ?_); apply Exists.intro; refine ⟨fun wS hS => ?_, ?_⟩; (go_simp; try with_reducible rfl))); simp only [Act.put, List.setIfInBounds_toArray, List.set_cons_zero, List.set_cons_succ])
                 refine ordC_l rfl rfl (fun K hK => ?_)
                 go_simp
                 refine hK _ _ ⟨trivial, (R.out.x.drew.alloc _).alloc _, (HQ.out.drew.alloc _).alloc _, cellA _ (cellA _ (HY0.out _ R.out.b))⟩ ?_
                 clear hK K
                 refine ordC_l rfl rfl (fun K hK => ?_)
                 refine wp_app _ _ 31 rfl i z 80 Tryz.underlying31 HI.out.1 HI.out.2.1 HI.out.2.2.1 HI.out.2.2.2.1 HI.out.2.2.2.2 (v := .slice a n c) rfl (R2.out.o.alloc _) (some ⟨wr.heap.size + 1 + 1, 0, none⟩) 1 1 (n + 1) [⟨9, some ⟨wr.heap.size + 1, 0, none⟩, 1, 1, 0, none, 0, 0, false, xbi⟩] rfl (Row.drew (Row.lnN (by simp) ⟨9, some ⟨wr.heap.size + 1, 0, none⟩, 1, 1, 0, none, 0, 0, false, xbi⟩)) HNA.out.1 HNA.out.2.1 HNA.out.2.2 (by have := R2.out.s; simp at this ⊢; omega) ?_
                 intro a9 c9 X9 hown hg hat
                 have HL9 := hid (R2.out.snoc HLN.out hown hg)
                 have HQ9 := hid ((HQ2.out.alloc _).grown hg (fun e => by have := (HL.out.o.lt _ e).2; omega))
                 refine hK _ _ ⟨trivial, HL9.out.x, HQ9.out, HY0.out _ HL9.out.b⟩ ?_
                 clear hK K hown hg hat
                 repeat ((first | refine ordC_skip rfl rfl ?_ | refine ordC_skip1 rfl rfl ?_ | ((first | refine ordC_q rfl rfl ?_ | refine ordC_p rfl rfl ?_); apply Exists.intro; refine ⟨fun wS hS => ?_, ?_⟩; (go_simp; try with_reducible rfl))); simp only [Act.put, List.setIfInBounds_toArray, List.set_cons_zero, List.set_cons_succ])
                 refine ordC_nil ?_
                 have hcx := HL9.out.x.1; have hlx := HL9.out.x.2.2
                 go_wp2_with fail
                 go_roundw
                 case rel => exact ⟨k + 1, n + 1, _, _, _, by omega, by go_num, rfl, by have := HNN.out; omega, by have h9 := HL9.out; rw [List.append_assoc] at h9; rw [List.take_add_one, HLX.out]; simpa using h9⟩
                 case measure => simp [RowKit.intOf]; omega
               · obtain rfl : wn = k := by omega
                 have HTK : Hid (LW.take wn = LW) := hid (List.take_of_length_le (by rw [HLW.out, List.length_map, HRW.out.len]; exact Nat.le_refl _))
                 have HLP := hid HL.out
                 rw [HTK.out] at HLP
                 clear HL
                 have hcx := HLP.out.x.1; have hlx := HLP.out.x.2.2
                 go_wp2_with fail
                 go_ret
                 rw [HLS.out]
                 exact HLP.out.ret
end Yd


namespace Yd
open Go Go.RowKit Go.Proofs
attribute [local go_sem] Oper.semAt_some

theorem strCells_u8 (bs : Bs) : Lib.strCells ⟨bs.toArray⟩ = bs.flatMap encU8 := by
 unfold Lib.strCells encU8
 exact List.map_eq_flatMap ..
theorem wpList_appStr {P : Program} {ops : Array Oper} {rest : List Oper} {o : Oper} {ac : Act} {Q : Exit → Act → World → Prop} {w : World} {B : Nat} {E : TypeId} {v : Value} {xs : Bs} (hgd : o.guard = none) (s x : Operand) (t u : TypeId)
   (ho : o.op = .call { callee := .builtin .append, args := #[s, x], argTypes := #[t, u] }) (i : TypeInfo) (ht : P.underlying t = some (.slice E)) (hu : P.underlying u = some .string) (hi : P.info? E = some i) (hz : i.zero = some (.int .u8 0))
   (hsize : i.size = 1) (hby : i.bytes = 1) (hs : ac.eval s = v) (hown : Own w B E 1 encU8 v xs) (bs : Bs) (hx : ac.eval x = .string ⟨bs.toArray⟩) (N : Nat) (hN : xs.length + bs.length = N) (hbytes : N ≤ 140737488355328) (hbase : B ≤ w.heap.size)
   (h : ∀ a' c' w', Own w' B E 1 encU8 (.slice a' N c') (xs ++ bs) → w.grownBy w' v.ownBlock → (Value.slice a' N c' = .slice none 0 0 → v = .slice none 0 0) → wpList P ops Q rest (ac.put o.dst (.slice a' N c')) w') :
   wpList P ops Q (o :: rest) ac w := by
 subst hN
 have hsz : (⟨bs.toArray⟩ : ByteArray).size = bs.length := by simp [ByteArray.size]
 obtain ⟨v', w', hrun, h1, h2, h3⟩ := Lib.run_append_own_string (P := P) w B t u o.type E i ht hu hi hz hsize hby v xs.length (xs.flatMap encU8) hown ⟨bs.toArray⟩ (by rw [hsz]; unfold maxLen; omega) (by rw [hsz]; exact hbytes) hbase
 have hown' : Own w' B E 1 encU8 v' (xs ++ bs) := by
   unfold Own
   rw [List.flatMap_append, List.length_append, ← strCells_u8 bs, ← hsz]; exact h1
 obtain ⟨a', c', rfl, _, _⟩ := hown'.shape
 rw [List.length_append] at hown' hrun h3
 refine wpList_plain hgd fun K hK => ?_
 unfold Oper.wp execOp
 simp only [ho, resolve, invoke, builtin, Sem.run_bind, Sem.run_pure, Result.andThen_ok, List.map_toArray, List.map_cons, List.map_nil, hs, hx, hrun]
 exact hK _ _ (h a' c' w' hown' h2 (fun e => (h3.1 e).1))
theorem partsU8z : ∃ i, Tryz.prog.info? 5 = some i ∧ i.zero = some (.int .u8 0) ∧ i.size = 1 ∧ i.bytes = 1 := by
 have h : (Tryz.prog.info? 5).map (fun i => (i.zero, i.size, i.bytes)) = some (some (.int .u8 0), 1, 1) := by kernel_rfl
 cases hi : Tryz.prog.info? 5 with
 | none => rw [hi] at h; cases h
 | some i =>
   rw [hi] at h
   simp only [Option.map_some, Option.some.injEq, Prod.mk.injEq] at h
   exact ⟨i, rfl, h.1, h.2.1, h.2.2⟩
structure TxAt (w X : World) (la : Option Addr) (lc : Nat) (lcs : List LnC) (ls : List LnS) (a : Option Addr) (n c : Nat) (bs : Bs) : Prop where
 o : Own X (w.heap.size + 1) 41 6 encLn (.slice la lcs.length lc) lcs
 l : LnsAt X (w.heap.size + 1) lcs ls
 t : Own X (w.heap.size + 1) 5 1 encU8 (.slice a n c) bs
 e : Value.slice a n c ≠ .slice none 0 0
 b : Below w.heap.size w X
 s : w.heap.size + 1 ≤ X.heap.size
section
variable {w X Y : World} {la : Option Addr} {lc : Nat} {lcs : List LnC} {ls : List LnS} {a a' : Option Addr} {n c n' c' : Nat} {bs ts : Bs}
theorem TxAt.call (h : TxAt w X la lc lcs ls a n c bs) (hb : Below X.heap.size X Y) : TxAt w Y la lc lcs ls a n c bs :=
 ⟨h.o.below hb rfl, h.l.below hb, h.t.below hb rfl, h.e, h.b.trans (hb.mono h.b.size), Nat.le_trans h.s hb.size⟩
theorem TxAt.app (h : TxAt w X la lc lcs ls a n c bs) (hown : Own Y (w.heap.size + 1) 5 1 encU8 (.slice a' n' c') (bs ++ ts)) (hg : X.grownBy Y (Value.slice a n c).ownBlock) (he : Value.slice a' n' c' = .slice none 0 0 → Value.slice a n c = .slice none 0 0) : TxAt w Y la lc lcs ls a' n' c' (bs ++ ts) := by
 have htag : ∀ g, (Value.slice a n c).ownBlock = some g → ∃ cs fz, X.heap[g]? = some (.cells cs 5 fz) := fun g e => h.t.tag e
 refine ⟨h.o.grown hg (fun g hg' e => by obtain ⟨cs, fz, e1⟩ := htag g e; exact h.o.notBox e1 (by decide) hg'), ⟨h.l.1, fun i l hl => ?_⟩, hown, fun e => h.e (he e), below_app h.b h.t (by omega) h.b.size hg, Nat.le_trans h.s hg.size⟩
 obtain ⟨s, h1, h2⟩ := h.l.2 i l hl
 exact ⟨s, h1, h2.1, h2.2.1.grown hg (fun g hg' e => by obtain ⟨cs, fz, e1⟩ := htag g e; exact h2.2.1.notBox e1 (by decide) hg'), h2.2.2.grown hg (fun g hg' e => by obtain ⟨cs, fz, e1⟩ := htag g e; exact h2.2.2.notBox e1 (by decide) hg')⟩
end
def RetT14 (s : Bs) (w : World) (e : Ending) (w' : World) : Prop := if s.length ≤ 131072 then Ret2 (.string ⟨s.toArray⟩) (.bool true) w e w' else Ret2 (.string ⟨#[]⟩) (.bool false) w e w'
theorem textA_take (ls : List LnS) (k : Nat) : (textA (ls.take k)).length ≤ (textA ls).length := by
 have h := congrArg (fun l => (textA l).length) (List.take_append_drop k ls)
 simp only [textA, List.flatMap_append, List.length_append] at h
 simp only [textA]
 omega
theorem r_Text14 (h : HC) (nl : Nat → List Bs) (es : List EvC) (ds : List OrC) (ms : List MaC) (qs : List Wa) (scan : EvC → List Sn) (dn : OrC → List Int) (mn : MaC → List Int) (w : World)
   (hn : ∀ i, i < 4 → Row w 1 encStr (h.nm i).a (h.nm i).n (h.nm i).c (nl i)) (hd : Deep w h es ds ms qs scan dn mn) (hsh : shapedB h nl es ds ms qs scan dn mn = true) :
   Calls Tryz.prog 17 #[valH h] w (RetT14 (textA (linesS nl es ds ms qs scan dn mn)) w) := by
 have hlen := lines_len hd hsh
 have hok := lines_ok hsh (fun i hi => (hn i hi).len)
 obtain ⟨ls, hls⟩ : ∃ ls, ls = linesS nl es ds ms qs scan dn mn := ⟨_, rfl⟩
 have HRL := hid (fun W (hW : Below w.heap.size w W) => r_Lines14 h nl es ds ms qs scan dn mn W (fun i hi => (hn i hi).below hW rfl) (hd.below hW rfl) hsh)
 rw [← hls] at hlen hok HRL
 rw [← hls]
 have HOK := hid hok
 obtain ⟨i, hi, hz, hsize, hby'⟩ := partsU8z
 have HI := hid (⟨hi, hz, hsize, hby'⟩ : _ ∧ _ ∧ _ ∧ _)
 have HX0 := hid (Bx.new w (cellsH h) 28)
 have HB0 := hid (belowA (Below.refl w.heap.size w) (.cells (cellsH h) 28))
 clear hls hn hd hsh hok hi hz hsize hby'
 go_enter Tryz.func17, Tryz.ntmps17
 have hx1 := HX0.out.alloc (.cells #[] 5)
 have hcx := hx1.1; have hlx := hx1.2.2
 go_wp2_with fail
 clear hcx hlx hx1
 refine (HRL.out _ (belowA HB0.out _)).mono ?_
 rintro e w2 ⟨la, lc, lcs, rfl, hol, hln, hb2⟩
 have HT0 : Hid (TxAt w w2 la lc lcs ls (some ⟨w.heap.size + 1, 0, none⟩) 0 0 []) := hid ⟨hol.mono (by simp), ⟨hln.1, fun i l hl => by obtain ⟨s, h1, h2⟩ := hln.2 i l hl; exact ⟨s, h1, h2.mono (by simp)⟩⟩,
   (by have h9 := Own.new (hc := cInsU8) (w.alloc (.cells (cellsH h) 28)) (w.heap.size + 1) 5 (enc := encU8) #[] [] (by simp) rfl (by simp [maxLen]); have h10 := h9.below hb2 rfl; simpa using h10), (fun e => by cases e), (belowA HB0.out _).trans (hb2.mono (belowA HB0.out _).size), by have := hb2.size; simp at this; omega⟩
 have hll : lcs.length ≤ 100000 := by rw [hln.1]; omega
 have HLL := hid hln.1
 clear hol hln hb2
 go_wp2_with fail
 go_loopw [4, 11] (fun v j wr => ∃ (k n : Nat) (a : Option Addr) (c : Nat), k ≤ lcs.length ∧ j = .int .i64 k ∧ v = .slice a n c ∧ n = (textA (ls.take k)).length ∧ n ≤ 131072 ∧ TxAt w wr la lc lcs ls a n c (textA (ls.take k))) (fun _ j _ => lcs.length - (RowKit.intOf j).toNat)
 case atStart => exact ⟨0, 0, _, 0, Nat.zero_le _, rfl, rfl, rfl, by omega, by simpa [textA] using HT0.out⟩
 case round =>
   obtain ⟨k, n, a, c, hk, rfl, rfl, hnn, hnb, hT⟩ := hrel
   have HT := hid hT; have HNN := hid hnn
   clear hT hnn
   by_cases hlt : k < lcs.length
   · obtain ⟨l, b, o, hlk, rfl, hc⟩ := (HT.out.o.row (hc := cInsLn) (by omega)).at_ hlt
     obtain ⟨s, hsk, hla⟩ := HT.out.l.2 k l hlk
     have HS := hid (HOK.out s (List.mem_of_getElem? hsk))
     have HLA := hid hla
     obtain ⟨kd, na, nn, nc, lv, va, vn, vc, fi, bi⟩ := l
     have h0 := hc 0 _ rfl
     have h1 := hc 1 _ rfl
     have h2 := hc 2 _ rfl
     have h3 := hc 3 _ rfl
     have h4 := hc 4 _ rfl
     have h5 := hc 5 _ rfl
     simp only [Nat.add_zero] at h0
     have hk3 : k < 100000 := by omega
     have HNX : Hid (textA (ls.take (k + 1)) = textA (ls.take k) ++ textS s) := hid (by rw [List.take_add_one, hsk]; simp [textA])
     have HTL := hid (textS_len HS.out)
     obtain ⟨m, hm⟩ : ∃ m, m = n + (textS s).length := ⟨_, rfl⟩
     have HM := hid hm
     have HN2 : Hid ((textA (ls.take k)).length + (textS s).length = m ∧ m ≤ 140737488355328) := hid ⟨by have := HNN.out; omega, by have := HTL.out; omega⟩
     clear hc hlk hsk hla hm
     go_wp2_with fail
     clear h0 h1 h2 h3 h4 h5
     refine (r_textLine (HLA.out.below (belowA (Below.refl _ _) _)) HS.out).mono ?_
     rintro e X2 ⟨rfl, hb2⟩
     have HT2 := hid (HT.out.call ((belowA (Below.refl _ _) _).trans (hb2.mono (by simp))))
     clear hb2
     by_cases hgt : (131072 : Int) < (m : Int)
     · go_wp2_with (at_builtin; refine wpList_appStr rfl _ _ 36 9 rfl i Tryz.underlying36 Tryz.underlying9 HI.out.1 HI.out.2.1 HI.out.2.2.1 HI.out.2.2.2 rfl HT2.out.t (textS s) rfl m HN2.out.1 HN2.out.2 HT2.out.s ?_; intro a' c' X3 hown hg he; have HT3 := hid (HT2.out.app hown hg he); clear hown hg he)
       go_ret2
       have hlong : ¬ ((textA ls).length ≤ 131072) := by
         have h1 := textA_take ls (k + 1)
         rw [HNX.out, List.length_append] at h1
         have := HN2.out.1
         omega
       unfold RetT14
       rw [if_neg hlong]
       exact ⟨rfl, HT3.out.b⟩
     · go_wp2_with (at_builtin; refine wpList_appStr rfl _ _ 36 9 rfl i Tryz.underlying36 Tryz.underlying9 HI.out.1 HI.out.2.1 HI.out.2.2.1 HI.out.2.2.2 rfl HT2.out.t (textS s) rfl m HN2.out.1 HN2.out.2 HT2.out.s ?_; intro a' c' X3 hown hg he; have HT3 := hid (HT2.out.app hown hg he); clear hown hg he)
       go_roundw
       case rel => exact ⟨k + 1, m, _, _, by omega, by go_num, rfl, by rw [HNX.out, List.length_append]; exact HN2.out.1.symm, by omega, by rw [HNX.out]; exact HT3.out⟩
       case measure => simp [RowKit.intOf]; omega
   · obtain rfl : k = lcs.length := by omega
     have htk : ls.take lcs.length = ls := List.take_of_length_le (by rw [HLL.out]; exact Nat.le_refl _)
     have HT9 := HT.out
     rw [htk] at HT9
     have HN9 := HNN.out
     rw [htk] at HN9
     have hrow := HT9.t.row (hc := cInsU8) (by omega)
     obtain ⟨g, rfl⟩ : ∃ g, a = some ⟨g, 0, none⟩ := by
       obtain ⟨q1, q2⟩ := HT9.t
       rcases q2 with ⟨e, _⟩ | ⟨g, cap, cur, e, _⟩
       · exact absurd e HT9.e
       · injection e with e1 _ _
         exact ⟨g, e1⟩
     have hcv : (convert 36 9 (.slice (some ⟨g, 0, none⟩) n c)).run Tryz.prog wr = .ok (.string ⟨(textA ls).toArray⟩) wr := by subst HN9; exact bytes_str wr g 0 c (textA ls) hrow
     have HTB := hid HT9.b; have HSH : Hid ((textA ls).length ≤ 131072) := hid (by omega)
     clear htk HT HT9 HNN HN9 hrow
     go_wp2_with fail
     go_ret2
     unfold RetT14
     rw [if_pos HSH.out]
     exact ⟨rfl, HTB.out⟩
end Yd
