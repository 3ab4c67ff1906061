import Derived.Test.YthdpangjphphjaaGreatDoorRdQ
import Derived.Test.YthdpangjphphjaaGreatDoorSpoken3
import Derived.Test.YthdpangjphphjaaGreatDoorProg
set_option maxRecDepth 200000
set_option maxHeartbeats 8000000
namespace Yd
open Go Go.RowKit Go.Proofs

@[reducible] def addN (n : LnS) (m : Bs) : LnS := { n with names := n.names ++ [m] }
@[reducible] def withN (c : LnC) (a : Option Addr) (k cc : Nat) : LnC := { c with na := a, nn := k, nc := cc }
theorem RdC.c3 {w : World} {R p : Nat} {s l : Bs} {c : LnC} {n : LnS} (h : RdC w R s p l c n) : w.cell? ⟨R, 3, none⟩ = some (.slice c.na c.nn c.nc) := h.x.1 3
theorem RdC.c5 {w : World} {R p : Nat} {s l : Bs} {c : LnC} {n : LnS} (h : RdC w R s p l c n) : w.cell? ⟨R, 5, none⟩ = some (.slice c.va c.vn c.vc) := h.x.1 5
theorem RdC.addN {w X Y : World} {R p : Nat} {s l m : Bs} {c : LnC} {n : LnS} (h : RdC w R s p l c n) (hX : Below w.heap.size w X) (a' : Option Addr) (c' : Nat)
   (hown : Own Y (R + 1) 9 1 encStr (.slice a' (c.nn + 1) c') (n.names ++ [m])) (hg : X.grownBy Y (Value.slice c.na c.nn c.nc).ownBlock)
   (hat : (Value.slice a' (c.nn + 1) c').ownBlock = (Value.slice c.na c.nn c.nc).ownBlock ∨ (Value.slice a' (c.nn + 1) c').ownBlock = some X.heap.size) :
   RdC (Y.setCell ⟨R, 3, none⟩ (.slice a' (c.nn + 1) c')) R s p l (withN c a' (c.nn + 1) c') (addN n m) ∧ Mv R c (withN c a' (c.nn + 1) c') w (Y.setCell ⟨R, 3, none⟩ (.slice a' (c.nn + 1) c')) := by
 have hRw := h.x.2.2
 have hsz := hX.size
 have hn1 : (Value.slice c.na c.nn c.nc).ownBlock ≠ some R := h.n.2.1.far' (.inl (by omega))
 have hap := h.n.2.2.apart h.n.2.1 (by decide)
 have hxX := h.x.keep hX
 have hxY : Bx Y R (cellsRd s p c) := hxX.grown hg hn1
 have hv : Own Y (R + 1) 67 2 encTo (.slice c.va c.vn c.vc) n.vers := (h.n.2.2.below hX rfl).grown hg (fun g hg => hap g hg)
 obtain ⟨⟨e1, e2, e3, e4, e5, e6⟩, _, _⟩ := h.n
 have hXY : Same (RdA R c) X Y := ⟨hg.os, hg.tape, hg.output, hg.size, fun i hi hl => hg.block i hl (fun e => hi.2.1 e.symm)⟩
 refine ⟨⟨?_, ⟨⟨e1, e2, e3, e4, by simp [e5], e6⟩, ?_, ?_⟩, h.d, h.le, h.lim⟩, ((Same.of_below hX (fun _ _ h => h)).tr hXY).tr (Same.setCell _ _ _ _ (fun e => e.1 rfl)), ?_, fun _ h => .inl h⟩
 · exact hxY.setC 3 (by simp) _
 · exact hown.block fun g hg => Below.heap_setCell _ _ _ _ (by have := (hown.lt g hg).1; simp; omega)
 · exact hv.block fun g hg => Below.heap_setCell _ _ _ _ (by have := (hv.lt g hg).1; simp; omega)
 · intro g hgg
   rcases hat with e | e
   · exact .inl (e ▸ hgg)
   · right
     have : some g = some X.heap.size := hgg.symm.trans e
     injection this with this
     omega
@[reducible] def addV (n : LnS) (v : To) : LnS := { n with vers := n.vers ++ [v] }
@[reducible] def withV (c : LnC) (a : Option Addr) (k cc : Nat) : LnC := { c with va := a, vn := k, vc := cc }
theorem RdC.addV {w X Y : World} {R p : Nat} {s l : Bs} {v : To} {c : LnC} {n : LnS} (h : RdC w R s p l c n) (hX : Below w.heap.size w X) (a' : Option Addr) (c' : Nat)
   (hown : Own Y (R + 1) 67 2 encTo (.slice a' (c.vn + 1) c') (n.vers ++ [v])) (hg : X.grownBy Y (Value.slice c.va c.vn c.vc).ownBlock)
   (hat : (Value.slice a' (c.vn + 1) c').ownBlock = (Value.slice c.va c.vn c.vc).ownBlock ∨ (Value.slice a' (c.vn + 1) c').ownBlock = some X.heap.size) :
   RdC (Y.setCell ⟨R, 5, none⟩ (.slice a' (c.vn + 1) c')) R s p l (withV c a' (c.vn + 1) c') (addV n v) ∧ Mv R c (withV c a' (c.vn + 1) c') w (Y.setCell ⟨R, 5, none⟩ (.slice a' (c.vn + 1) c')) := by
 have hRw := h.x.2.2
 have hsz := hX.size
 have hn1 : (Value.slice c.va c.vn c.vc).ownBlock ≠ some R := h.n.2.2.far' (.inl (by omega))
 have hap := h.n.2.1.apart h.n.2.2 (by decide)
 have hxX := h.x.keep hX
 have hxY : Bx Y R (cellsRd s p c) := hxX.grown hg hn1
 have hv : Own Y (R + 1) 9 1 encStr (.slice c.na c.nn c.nc) n.names := (h.n.2.1.below hX rfl).grown hg (fun g hg => hap g hg)
 obtain ⟨⟨e1, e2, e3, e4, e5, e6⟩, _, _⟩ := h.n
 have hXY : Same (RdA R c) X Y := ⟨hg.os, hg.tape, hg.output, hg.size, fun i hi hl => hg.block i hl (fun e => hi.2.2 e.symm)⟩
 refine ⟨⟨?_, ⟨⟨e1, e2, e3, e4, e5, by simp [e6]⟩, ?_, ?_⟩, h.d, h.le, h.lim⟩, ((Same.of_below hX (fun _ _ h => h)).tr hXY).tr (Same.setCell _ _ _ _ (fun e => e.1 rfl)), fun _ h => .inl h, ?_⟩
 · exact hxY.setC 5 (by simp) _
 · exact hv.block fun g hg => Below.heap_setCell _ _ _ _ (by have := (hv.lt g hg).1; simp; omega)
 · exact hown.block fun g hg => Below.heap_setCell _ _ _ _ (by have := (hown.lt g hg).1; simp; omega)
 · intro g hgg
   rcases hat with e | e
   · exact .inl (e ▸ hgg)
   · right
     have : some g = some X.heap.size := hgg.symm.trans e
     injection this with this
     omega
theorem rd_takeName {R p : Nat} {s l : Bs} {c : LnC} {n : LnS} (w : World) (h : RdC w R s p l c n) (hT : Lib.Utf8Tabs 2 3 w) (hl : n.names.length ≤ 1000) :
   Calls Tryz.prog 74 #[.pointer (some ⟨R, 0, none⟩)] w (RdRes R s c w (fun _ : Unit => .tuple #[]) (match nameS l with | .error x => .error x | .ok (m, r) => .ok ((), addN n m, r))) := by
 obtain ⟨X, hX⟩ : ∃ X : Except Er (Unit × LnS × Bs), X = (match nameS l with | .error x => .error x | .ok (m, r) => .ok ((), addN n m, r)) := ⟨_, rfl⟩
 rw [← hX]
 have RES : Hid (∀ ch w', (∃ (r : Bs) (m : Int), nameS l = .error (r, m) ∧ ch = wrongP (s.length - r.length) m ∧ Same (RdA R c) w.drew w') → RdRes R s c w (fun _ : Unit => .tuple #[]) X (.panicked ch) w') := hid (by
   rintro ch w' ⟨r, m, h1, rfl, h2⟩
   rw [hX, h1]
   exact ⟨rfl, h2.os, h2.tape, h2.output, h2.size, h2.block⟩)
 have HX := hid hX
 clear hX
 have HNM := hid (fun W (hb : Below w.heap.size w W) => rd_name W (h.below hb) (Utf8Tabs_below hT hb))
 obtain ⟨i, z, hi, hz, hsize, hby', hzs⟩ := partsStr
 have HI := hid (⟨hi, hz, hsize, hby', hzs⟩ : _ ∧ _ ∧ _ ∧ _ ∧ _)
 have HH := hid h
 have HB0 : Hid (Below w.heap.size w w.drew) := hid ((Below.refl _ _).drew)
 have HNR : Hid ((Value.slice c.na c.nn c.nc).ownBlock ≠ some R) := hid (h.n.2.1.far' (.inl (by omega)))
 have hcn := h.n.1.2.2.2.2.1
 have HN1 : Hid (n.names.length + 1 = c.nn + 1) := hid (by omega)
 have HN2 : Hid ((c.nn + 1) * 16 ≤ 140737488355328) := hid (by omega)
 have HN3 : Hid (c.nn + 1 ≤ maxLen) := hid (by unfold maxLen; omega)
 clear hcn
 clear h hT hi hz hsize hby' hzs
 go_enter Tryz.func74, Tryz.ntmps74
 go_wp2_with fail
 refine wp_region_ordP 13 [(0, 1), (1, 1), (2, 1), (3, 1), (4, 1), (5, 0), (6, 1), (7, 2), (8, 2), (9, 2), (10, 1), (11, 1), (12, 1), (13, 2)] (fun _ => True) (fun W' => W'.cell? ⟨R, 3, none⟩ = some (.slice c.na c.nn c.nc)) (fun ch w' => ∃ (r : Bs) (m : Int), nameS l = .error (r, m) ∧ ch = wrongP (s.length - r.length) m ∧ Same (RdA R c) w.drew w') (by kernel_rfl) (by kernel_rfl) (fun ch a1 w1 hd hr => ⟨hd, RES.out ch w1 hr⟩) (trivial) (HH.out.drew.c3) ?_
 repeat ((first | refine ordC_skip rfl rfl ?_ | refine ordC_skip1 rfl rfl ?_ | ((first | refine ordC_q rfl rfl ?_ | refine ordC_p rfl rfl ?_); apply Exists.intro; refine ⟨fun wS hS => ?_, ?_⟩; (go_simp; try with_reducible rfl))); simp only [Act.put, List.setIfInBounds_toArray, List.set_cons_zero, List.set_cons_succ])
 refine ordC_l rfl rfl (fun K hK => ?_)
 go_simp
 refine (HNM.out _ HB0.out).mono ?_
 intro e w2 he
 cases hnm : nameS l with
 | error x =>
   rw [hnm] at he
   obtain ⟨rfl, hs⟩ := he
   exact ⟨rfl, x.1, x.2, rfl, rfl, hs⟩
 | ok mr =>
 obtain ⟨m, r⟩ := mr
 rw [hnm] at he
 obtain ⟨rfl, p2, hc2, hm2⟩ := he
 have HC2 := hid hc2; have HM2 := hid hm2; have HNX := hid hnm
 refine hK _ _ ⟨trivial, hc2.c3⟩ ?_
 have HN4 : Hid (R + 1 ≤ (w2.alloc (.cells #[.string ⟨m.toArray⟩] 9)).heap.size) := hid (by have := hc2.x.2.2; simp; omega)
 clear hK K hc2 hm2 hnm
 refine ordC_l rfl rfl (fun K hK => ?_)
 go_simp
 refine hK _ _ ⟨trivial, (HC2.out.below (belowA (Below.refl _ _) _)).c3⟩ ?_
 clear hK K
 refine ordC_l rfl rfl (fun K hK => ?_)
 refine wp_app _ _ 25 rfl i z 16 Tryz.underlying25 HI.out.1 HI.out.2.1 HI.out.2.2.1 HI.out.2.2.2.1 HI.out.2.2.2.2 rfl (HC2.out.n.2.1.alloc _) (some ⟨w2.heap.size, 0, none⟩) 1 1 (c.nn + 1) [m] rfl (Row.str1 w2 m) HN1.out HN2.out HN3.out HN4.out ?_
 intro a' c' w3 hown3 hg3 hat3
 have hx3 := (HC2.out.x.keep (belowA (Below.refl _ _) (.cells #[.string ⟨m.toArray⟩] 9))).grown hg3 HNR.out
 have HAD := hid (HC2.out.addN (belowA (Below.refl _ _) (.cells #[.string ⟨m.toArray⟩] 9)) a' c' hown3 hg3 hat3)
 refine hK _ _ ⟨trivial, hx3.1 3⟩ ?_
 have hc3 := hx3.1 3; have hf3 := hx3.2.1 3
 clear hK K hown3 hg3 hat3 hx3
 repeat ((first | refine ordC_skip rfl rfl ?_ | refine ordC_skip1 rfl rfl ?_ | ((first | refine ordC_q rfl rfl ?_ | refine ordC_p rfl rfl ?_); apply Exists.intro; refine ⟨fun wS hS => ?_, ?_⟩; (go_simp; try with_reducible rfl))); simp only [Act.put, List.setIfInBounds_toArray, List.set_cons_zero, List.set_cons_succ])
 refine ordC_m rfl rfl rfl (fun K hK => ?_)
 go_simp
 refine hK _ _ trivial ?_
 clear hK K
 refine ordP_nil ?_
 go_wp2_with fail
 refine bodyPost_end (results_none rfl _ _ _) rfl ?_
 show RdRes R s c w _ _ _ _
 rw [HX.out, HNX.out]
 exact ⟨rfl, p2, _, HAD.out.1, (Mv.of_below HB0.out).trans (HM2.out.trans HAD.out.2)⟩
end Yd
