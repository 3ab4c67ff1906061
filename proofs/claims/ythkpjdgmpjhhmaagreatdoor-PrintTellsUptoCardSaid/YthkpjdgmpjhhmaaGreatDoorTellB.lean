import Derived.Test.YthkpjdgmpjhhmaaGreatDoorTellA
import Derived.Test.YthkpjdgmpjhhmaaGreatDoorProg
set_option maxRecDepth 200000
set_option maxHeartbeats 8000000
namespace Yd
open Go Go.RowKit Go.Proofs

theorem Bx.setC {X : World} {b : Nat} {cs : Array Value} (h : Bx X b cs) (i : Nat) (hi : i < cs.size) (v : Value) : Bx (X.setCell ⟨b, i, none⟩ v) b (cs.setIfInBounds i v) := by
 refine ⟨fun j => ?_, fun j => by rw [World.frozen?_setCell]; exact h.2.1 j, by have := h.2.2; simpa [World.setCell] using this⟩
 by_cases hj : j = i
 · subst hj
   rw [World.cell?_setCell_same' _ _ _ (by rw [h.1 j, Array.getElem?_eq_getElem hi]; rfl), Array.getElem?_setIfInBounds_self_of_lt hi]
 · rw [World.cell?_setCell_other _ _ _ _ (fun e => by cases e; exact hj rfl), h.1 j, Array.getElem?_setIfInBounds_ne (fun e => hj e.symm)]
theorem Bx.set6 {X : World} {b : Nat} {l l' : LnC} (h : Bx X b (cellsLn l)) :
   Bx ((((((X.setCell ⟨b, 0, none⟩ (.int .i64 l'.kind)).setCell ⟨b, 1, none⟩ (.slice l'.na l'.nn l'.nc)).setCell ⟨b, 2, none⟩ (.int .i64 l'.lvl)).setCell ⟨b, 3, none⟩ (.slice l'.va l'.vn l'.vc)).setCell ⟨b, 4, none⟩ (.bool l'.first)).setCell ⟨b, 5, none⟩ (.int .i64 l'.bits)) b (cellsLn l') :=
 ((((((h.setC 0 (by simp) _).setC 1 (by simp) _).setC 2 (by simp) _).setC 3 (by simp) _).setC 4 (by simp) _).setC 5 (by simp) _)
theorem Row.toN {X : World} {g : Nat} (h : X.heap.size = g) (s : To) : Row (X.alloc (.cells #[.string ⟨s.name.toArray⟩, .int .i64 s.k] 98)) 2 encTo (some ⟨g, 0, none⟩) 1 1 [s] :=
 h ▸ (Own.new (hc := cInsTo) X X.heap.size 98 #[.string ⟨s.name.toArray⟩, .int .i64 s.k] [s] (Nat.le_refl _) rfl (by simp [maxLen])).row (by simp)
theorem heapN {X : World} {o : Obj} {g : Nat} (h : X.heap.size = g) : (X.alloc o).heap[g]? = some o := h ▸ World.alloc_heap_new X o
theorem heapA {X : World} {b : Nat} {o' : Obj} (o : Obj) (h : X.heap[b]? = some o') : (X.alloc o).heap[b]? = some o' := (Below.heap_alloc _ _ _ (Array.getElem?_eq_some_iff.1 h).1).trans h
theorem Own.notBox {α : Type} {enc : α → List Value} {k : Nat} {w : World} {B : Nat} {E : TypeId} {v : Value} {xs : List α} (h : Own w B E k enc v xs) {b : Nat} {cs : Array Value} {T : TypeId} {fz : Nat × Nat} (hb : w.heap[b]? = some (.cells cs T fz)) (hE : E ≠ T) : v.ownBlock ≠ some b := fun e => by
 obtain ⟨cs', fz', e1⟩ := h.tag e
 rw [hb] at e1
 cases e1
 exact hE rfl
theorem ver_told {v : Ver} {nt : Nat} (h : verB v nt = true) : v.k = 0 ∨ (0 ≤ v.t ∧ v.t < nt) := by
 unfold verB at h
 by_cases hk : v.k = 0
 · exact .inl hk
 · rw [if_neg hk] at h; simp only [Bool.and_eq_true] at h; exact .inr (told_bd h.1.1)

theorem teller_read (h : HC) (on tn : List Bs) (l : LnC) (s : LnS) (e : EvC) (w0 w : World) (hb : Below w0.heap.size w0 w) (hro : Row w0 1 encStr h.o.a h.o.n h.o.c on) (hrt : Row w0 1 encStr h.t.a h.t.n h.t.c tn)
   (he : toldB e.obj h.o.n = true) (hv : verB e.v h.t.n = true) (hl : LnAt w w0.heap.size l s) (hlen : s.names.length ≤ 1000) (hlv : s.vers.length ≤ 1000) :
   Calls Tryz.prog 65 #[valH h, valLn l, valEv e] w (RetLn0 w0 w l { s with names := s.names ++ [nameOf on e.obj], vers := s.vers ++ [toldS tn e.v] }) := by
 have hbV : Below w.heap.size w ((((w.alloc (.cells (cellsH h) 90)).alloc (.cells (cellsLn l) 41)).alloc (.cells (cellsEv e) 49)).alloc (.cells #[.int .i64 0, .slice none 0 0, .int .i64 0, .slice none 0 0, .bool false, .int .i64 0] 41)) := belowA (belowA (belowA (belowA (Below.refl _ _) _) _) _) _
 have HWR := hid (teller_write h on l s e w0 _ (hb.trans (hbV.mono hb.size)) hro he (hl.below hbV) hlen)
 have HB := hid hb; have HRT := hid hrt; have HV := hid hv; have HL := hid hl; have HBV := hid hbV; have HLV := hid hlv
 have HF1 : Hid (∀ i, w.heap.size ≤ i → some i ≠ (Value.slice l.na l.nn l.nc).ownBlock) := hid (fun i hi => hl.2.1.far (.inr hi))
 have HF2 : Hid (∀ i, w.heap.size ≤ i → some i ≠ (Value.slice l.va l.vn l.vc).ownBlock) := hid (fun i hi => hl.2.2.far (.inr hi))
 obtain ⟨i, z, hi, hz, hsize, hby', hzs⟩ := partsTo
 have HI := hid (⟨hi, hz, hsize, hby', hzs⟩ : _ ∧ _ ∧ _ ∧ _ ∧ _)
 obtain ⟨to, hto⟩ : ∃ to, to = toldS tn e.v := ⟨_, rfl⟩
 rw [← hto]
 obtain ⟨x, hxo⟩ : ∃ x, x = nameOf on e.obj := ⟨_, rfl⟩
 rw [← hxo] at HWR ⊢
 have HTO := hid hto
 have HN2 : Hid ((s.vers.length + 1) * 24 ≤ 140737488355328) := hid (by omega)
 have HN3 : Hid (s.vers.length + 1 ≤ maxLen) := hid (by unfold maxLen; omega)
 clear hto hxo hi hz hsize hby' hzs hb hrt hv hl hlv hro he
 go_enter Tryz.func65, Tryz.ntmps65
 go_wp2_with fail
 refine HWR.out.mono ?_
 rintro en w1 ⟨l1, rfl, hl1, hb1, hk1, hgr1⟩
 have hbx0 : Bx w1 w.heap.size (cellsH h) := Bx.of_eq (X := ((((w.alloc (.cells (cellsH h) 90)).alloc (.cells (cellsLn l) 41)).alloc (.cells (cellsEv e) 49)).alloc (.cells #[.int .i64 0, .slice none 0 0, .int .i64 0, .slice none 0 0, .bool false, .int .i64 0] 41))) ((((Bx.new1 rfl).alloc _).alloc _).alloc _) hk1.size (hk1.block _ (by simp <;> omega) (HF1.out _ (by omega)) (HF2.out _ (by omega)))
 have hbx1 : Bx w1 (w.heap.size + 1) (cellsLn l) := Bx.of_eq (X := ((((w.alloc (.cells (cellsH h) 90)).alloc (.cells (cellsLn l) 41)).alloc (.cells (cellsEv e) 49)).alloc (.cells #[.int .i64 0, .slice none 0 0, .int .i64 0, .slice none 0 0, .bool false, .int .i64 0] 41))) (((Bx.new1 (by simp)).alloc _).alloc _) hk1.size (hk1.block _ (by simp <;> omega) (HF1.out _ (by omega)) (HF2.out _ (by omega)))
 have hbx2 : Bx w1 (w.heap.size + 2) (cellsEv e) := Bx.of_eq (X := ((((w.alloc (.cells (cellsH h) 90)).alloc (.cells (cellsLn l) 41)).alloc (.cells (cellsEv e) 49)).alloc (.cells #[.int .i64 0, .slice none 0 0, .int .i64 0, .slice none 0 0, .bool false, .int .i64 0] 41))) ((Bx.new1 (by simp)).alloc _) hk1.size (hk1.block _ (by simp) (HF1.out _ (by omega)) (HF2.out _ (by omega)))
 have hbx3 : Bx w1 (w.heap.size + 3) #[.int .i64 0, .slice none 0 0, .int .i64 0, .slice none 0 0, .bool false, .int .i64 0] := Bx.of_eq (X := ((((w.alloc (.cells (cellsH h) 90)).alloc (.cells (cellsLn l) 41)).alloc (.cells (cellsEv e) 49)).alloc (.cells #[.int .i64 0, .slice none 0 0, .int .i64 0, .slice none 0 0, .bool false, .int .i64 0] 41))) (Bx.new1 (by simp)) hk1.size (hk1.block _ (by simp) (HF1.out _ (by omega)) (HF2.out _ (by omega)))
 have hob1 : w1.heap[w.heap.size + 1]? = some (.cells (cellsLn l) 41 (0, 0)) := (hk1.block _ (by simp <;> omega) (HF1.out _ (by omega)) (HF2.out _ (by omega))).trans (heapA _ (heapA _ (heapN (by simp))))
 have hob0 : w1.heap[w.heap.size]? = some (.cells (cellsH h) 90 (0, 0)) := (hk1.block _ (by simp <;> omega) (HF1.out _ (by omega)) (HF2.out _ (by omega))).trans (heapA _ (heapA _ (heapA _ (heapN rfl))))
 have hob2 : w1.heap[w.heap.size + 2]? = some (.cells (cellsEv e) 49 (0, 0)) := (hk1.block _ (by simp <;> omega) (HF1.out _ (by omega)) (HF2.out _ (by omega))).trans (heapA _ (heapN (by simp)))
 have hob3 : w1.heap[w.heap.size + 3]? = some (.cells #[.int .i64 0, .slice none 0 0, .int .i64 0, .slice none 0 0, .bool false, .int .i64 0] 41 (0, 0)) := (hk1.block _ (by simp) (HF1.out _ (by omega)) (HF2.out _ (by omega))).trans (heapN (by simp))
 have HGR : Hid (∀ g, (Value.slice l1.va l1.vn l1.vc).ownBlock = some g → (Value.slice l.va l.vn l.vc).ownBlock = some g ∨ w.heap.size ≤ g) := hid (fun g hg => (hgr1.2 g hg).imp id (fun h => Nat.le_trans HBV.out.size h))
 have HGN : Hid (∀ g, (Value.slice l1.na l1.nn l1.nc).ownBlock = some g → (Value.slice l.na l.nn l.nc).ownBlock = some g ∨ w.heap.size ≤ g) := hid (fun g hg => (hgr1.1 g hg).imp id (fun h => Nat.le_trans HBV.out.size h))
 have hfr := hbx1.2.1; have hcr := hbx1.1; have hlr := hbx1.2.2
 have hz1 : w.heap.size + 4 ≤ w1.heap.size := by have := hk1.size; simp at this; omega
 have HKW : Hid (∀ i, i < w.heap.size → some i ≠ (Value.slice l.na l.nn l.nc).ownBlock → some i ≠ (Value.slice l.va l.vn l.vc).ownBlock → w1.heap[i]? = w.heap[i]?) := hid (fun i hi h1 h2 => (hk1.block i (Nat.lt_of_lt_of_le hi HBV.out.size) h1 h2).trans (HBV.out.block i hi))
 have HL1 := hid hl1; have HB1 := hid hb1; have HX0 := hid hbx0; have HX1 := hid hbx1; have HX2 := hid hbx2; have HX3 := hid hbx3; have HOB1 := hid hob1; have HOB3 := hid hob3; have HOB0 := hid hob0; have HOB2 := hid hob2
 clear hgr1 hl1 hb1 hk1 hbx0 hbx1 hbx2 hbx3 hob1 hob3 hob0 hob2
 go_wp2_with fail
 clear hfr hcr hlr
 have hsm : Same (fun i => i ≠ w.heap.size + 1) w1 ((((((w1.setCell ⟨w.heap.size + 1, 0, none⟩ (.int .i64 l1.kind)).setCell ⟨w.heap.size + 1, 1, none⟩ (.slice l1.na l1.nn l1.nc)).setCell ⟨w.heap.size + 1, 2, none⟩ (.int .i64 l1.lvl)).setCell ⟨w.heap.size + 1, 3, none⟩ (.slice l1.va l1.vn l1.vc)).setCell ⟨w.heap.size + 1, 4, none⟩ (.bool l1.first)).setCell ⟨w.heap.size + 1, 5, none⟩ (.int .i64 l1.bits)) := by
   repeat (first | (refine Same.setTail ?_ (by simp)) | (with_reducible exact Same.refl' _))
 have hy1 := Bx.set6 (l' := l1) HX1.out
 revert hsm hy1
 generalize ((((((w1.setCell ⟨w.heap.size + 1, 0, none⟩ (.int .i64 l1.kind)).setCell ⟨w.heap.size + 1, 1, none⟩ (.slice l1.na l1.nn l1.nc)).setCell ⟨w.heap.size + 1, 2, none⟩ (.int .i64 l1.lvl)).setCell ⟨w.heap.size + 1, 3, none⟩ (.slice l1.va l1.vn l1.vc)).setCell ⟨w.heap.size + 1, 4, none⟩ (.bool l1.first)).setCell ⟨w.heap.size + 1, 5, none⟩ (.int .i64 l1.bits)) = Y
 intro hsm hy1
 have hy0 := hsm.bx HX0.out (by simp)
 have hy2 := hsm.bx HX2.out (by simp)
 have hy3 := hsm.bx HX3.out (by simp)
 have hn1 := HL1.out.2.1.notBox HOB1.out (by decide); have hn3 := HL1.out.2.1.notBox HOB3.out (by decide)
 have hv1 := HL1.out.2.2.notBox HOB1.out (by decide); have hv3 := HL1.out.2.2.notBox HOB3.out (by decide)
 have hv0 := HL1.out.2.2.notBox HOB0.out (by decide); have hv2 := HL1.out.2.2.notBox HOB2.out (by decide)
 have HYN := hid (HL1.out.2.1.same hsm (fun g hg => by rintro rfl; exact hn1 hg))
 have HYV := hid (HL1.out.2.2.same hsm (fun g hg => by rintro rfl; exact hv1 hg))
 have HYB := hid (hsm.below HB1.out (fun i hi => by have := HB.out.size; simp; omega) HB1.out.size)
 have HYW : Hid (w1.heap.size ≤ Y.heap.size ∧ ∀ i, i < w.heap.size → some i ≠ (Value.slice l.na l.nn l.nc).ownBlock → some i ≠ (Value.slice l.va l.vn l.vc).ownBlock → Y.heap[i]? = w.heap[i]?) := hid ⟨hsm.size, fun i hi h1 h2 => (hsm.block i (by simp; omega) (by omega)).trans (HKW.out i hi h1 h2)⟩
 have HY0 := hid hy0; have HY1 := hid hy1; have HY2 := hid hy2; have HY3 := hid hy3
 have HNN := hid (⟨hn1, hn3, hv1, hv3, hv0, hv2⟩ : _ ∧ _ ∧ _ ∧ _ ∧ _ ∧ _)
 have hzY : w.heap.size + 4 ≤ Y.heap.size := by have := hsm.size; omega
 have HRTY := hid (HRT.out.below HYB.out rfl)
 have hve : l1.vn = s.vers.length := HL1.out.1.2.2.2.2.2
 have HVE := hid hve
 clear hsm hy0 hy1 hy2 hy3 hn1 hn3 hv1 hv3 hv0 hv2 HX0 HX1 HX2 HX3 HKW HB1 HOB0 HOB1 HOB2 HOB3 hve
 refine wp_region_ordC 8 [(0, 0), (1, 0), (2, 0), (3, 0), (4, 0), (5, 2), (6, 2), (7, 2), (8, 1), (9, 2)] (fun _ => True) (fun W' => Bx W' w.heap.size (cellsH h) ∧ Bx W' (w.heap.size + 1) (cellsLn l1) ∧ Bx W' (w.heap.size + 2) (cellsEv e)) (by kernel_rfl) (by kernel_rfl) (trivial) (⟨HY0.out.drew, HY1.out.drew, HY2.out.drew⟩) ?_
 repeat ((first | refine ordC_skip rfl rfl ?_ | refine ordC_skip1 rfl rfl ?_ | ((first | refine ordC_q rfl rfl ?_ | refine ordC_p rfl rfl ?_); apply Exists.intro; refine ⟨fun wS hS => ?_, ?_⟩; (go_simp; try with_reducible rfl))); simp only [Act.put, List.setIfInBounds_toArray, List.set_cons_zero, List.set_cons_succ])
 refine ordC_l rfl rfl (fun K hK => ?_)
 go_simp
 refine (teller_told h e.v tn _ HRTY.out.drew (ver_told HV.out)).mono ?_
 rintro en Y2 ⟨rfl, hbt⟩
 rw [← HTO.out]
 have HBT := hid hbt
 refine hK _ _ ⟨trivial, HY0.out.drew.keep hbt, HY1.out.drew.keep hbt, HY2.out.drew.keep hbt⟩ ?_
 clear hK K hbt
 refine ordC_l rfl rfl (fun K hK => ?_)
 go_simp
 refine hK _ _ ⟨trivial, (HY0.out.drew.keep HBT.out).alloc _, (HY1.out.drew.keep HBT.out).alloc _, (HY2.out.drew.keep HBT.out).alloc _⟩ ?_
 clear hK K
 refine ordC_l rfl rfl (fun K hK => ?_)
 refine wp_app _ _ 39 rfl i z 24 Tryz.underlying39 HI.out.1 HI.out.2.1 HI.out.2.2.1 HI.out.2.2.2.1 HI.out.2.2.2.2 rfl (((HYV.out.drew.below HBT.out rfl).alloc _)) (some ⟨Y2.heap.size, 0, none⟩) 1 1 (s.vers.length + 1) [to] rfl (Row.toN rfl to) (rfl) (HN2.out) (HN3.out) (by have := HBT.out.size; have := HYB.out.size; simp; simp at *; omega) ?_
 intro a' c' w2 hown2 hg2 hat2
 have HA := hid hat2; have HG := hid hg2; have HW := hid hown2
 refine hK _ _ ⟨trivial, ((HY0.out.drew.keep HBT.out).alloc _).grown hg2 (HNN.out.2.2.2.2.1), ((HY1.out.drew.keep HBT.out).alloc _).grown hg2 (HNN.out.2.2.1), ((HY2.out.drew.keep HBT.out).alloc _).grown hg2 (HNN.out.2.2.2.2.2)⟩ ?_
 clear hK K hown2 hat2
 have hbl : Bx w2 (w.heap.size + 1) (cellsLn l1) := by
   refine Bx.grown ?_ hg2 HNN.out.2.2.1
   exact (HY1.out.drew.keep HBT.out).alloc _
 have hbr : Bx w2 (w.heap.size + 3) #[.int .i64 0, .slice none 0 0, .int .i64 0, .slice none 0 0, .bool false, .int .i64 0] := by
   refine Bx.grown ?_ hg2 HNN.out.2.2.2.1
   exact (HY3.out.drew.keep HBT.out).alloc _
 have hc1 := hbl.1; have hf1 := hbl.2.1; have hl1 := hbl.2.2; have hc3 := hbr.1; have hf3 := hbr.2.1; have hl3 := hbr.2.2
 have hY2 : Y.heap.size ≤ Y2.heap.size := HBT.out.size
 have hno2 : Own w2 w0.heap.size 9 1 encStr (.slice l1.na l1.nn l1.nc) (s.names ++ [x]) := ((HYN.out.drew.below HBT.out rfl).alloc _).grown hg2 (fun g hg e => (HYN.out.apart HYV.out (by decide)) g hg e)
 have hAv : ∀ g, (Value.slice a' (s.vers.length + 1) c').ownBlock = some g → g ≠ w.heap.size + 1 ∧ g ≠ w.heap.size + 3 := by
   intro g hg
   rcases HA.out with h1 | h1
   · have h2 := h1.symm.trans hg
     exact ⟨fun e => HNN.out.2.2.1 (e ▸ h2), fun e => HNN.out.2.2.2.1 (e ▸ h2)⟩
   · have h2 := h1.symm.trans hg; simp at h2; omega
 have hbe : Below w0.heap.size w0 w2 := below_app ((HYB.out.drew.trans (HBT.out.mono HYB.out.size)).alloc (Nat.le_trans HYB.out.size hY2) _) ((HYV.out.drew.below HBT.out rfl).alloc _) (Nat.le_refl _) (by have := HYB.out.size; simp; omega) hg2
 have hkw : Kept w l w2 := ⟨Nat.le_trans (by simp; omega) hg2.size, fun i hi h1 h2 => (hg2.block i (by simp; omega) (fun e => by
   rcases HGR.out i e.symm with h3 | h3
   · exact h2 h3.symm
   · omega)).trans ((Below.heap_alloc _ _ _ (by omega)).trans ((HBT.out.block i (by show i < Y.heap.size; omega)).trans (HYW.out.2 i hi h1 h2)))⟩
 have hgr : Grew w l { l1 with va := a', vn := s.vers.length + 1, vc := c' } := ⟨fun g hg => HGN.out g hg, fun g hg => by
   rcases HA.out with h1 | h1
   · exact HGR.out g (h1.symm.trans hg)
   · right; have h2 := h1.symm.trans hg; simp at h2; omega⟩
 have FIN : Hid (∀ W', Same (fun i => i ≠ w.heap.size + 1 ∧ i ≠ w.heap.size + 3) w2 W' → RetLn0 w0 w l { s with names := s.names ++ [x], vers := s.vers ++ [to] } (.returned (valLn { l1 with va := a', vn := s.vers.length + 1, vc := c' })) W') := hid (fun W' hs =>
   ⟨_, rfl, ⟨⟨HL1.out.1.1, HL1.out.1.2.1, HL1.out.1.2.2.1, HL1.out.1.2.2.2.1, HL1.out.1.2.2.2.2.1, by simp⟩, hno2.same hs (fun g hg => ⟨fun e => HNN.out.1 (e ▸ hg), fun e => HNN.out.2.1 (e ▸ hg)⟩), HW.out.same hs hAv⟩, hs.below hbe (fun i hi => by have := HB.out.size; constructor <;> omega) hbe.size,
     ⟨Nat.le_trans hkw.size hs.size, fun i hi h1 h2 => (hs.block i (by constructor <;> omega) (Nat.lt_of_lt_of_le hi hkw.size)).trans (hkw.block i hi h1 h2)⟩, hgr⟩)
 have HBL := hid hbl; have HBR := hid hbr; clear hbl hbr hg2 hno2 hAv hbe hkw hgr
 repeat ((first | refine ordC_skip rfl rfl ?_ | refine ordC_skip1 rfl rfl ?_ | ((first | refine ordC_q rfl rfl ?_ | refine ordC_p rfl rfl ?_); apply Exists.intro; refine ⟨fun wS hS => ?_, ?_⟩; (go_simp; try with_reducible rfl))); simp only [Act.put, List.setIfInBounds_toArray, List.set_cons_zero, List.set_cons_succ])
 refine ordC_m rfl rfl rfl (fun K hK => ?_)
 go_simp
 refine hK _ _ trivial ?_
 clear hK K
 refine ordC_nil ?_
 go_wp2_with fail
 refine bodyPost_ret (v := valLn { l1 with va := a', vn := s.vers.length + 1, vc := c' }) (by simp [results, Tryz.results65, go_sem, hc3]) rfl (FIN.out _ ?_)
 repeat (first | (refine Same.setTail ?_ (by simp)) | (with_reducible exact Same.refl' _))
end Yd


namespace Yd
open Go Go.RowKit Go.Proofs

structure ScanAt (h : HC) (l : LnC) (w0 w : World) (Lk : LnC) (ns : List Bs) (vs : List To) (X : World) : Prop where
 b0 : Bx X w.heap.size (cellsH h)
 b1 : Bx X (w.heap.size + 1) (cellsLn Lk)
 b3 : Bx X (w.heap.size + 3) #[.int .i64 0, .slice none 0 0, .int .i64 0, .slice none 0 0, .bool false, .int .i64 0]
 on : Own X w0.heap.size 9 1 encStr (.slice Lk.na Lk.nn Lk.nc) ns
 ov : Own X w0.heap.size 98 2 encTo (.slice Lk.va Lk.vn Lk.vc) vs
 fn : ∀ g, (Value.slice Lk.na Lk.nn Lk.nc).ownBlock = some g → g < w.heap.size ∨ w.heap.size + 4 ≤ g
 fv : ∀ g, (Value.slice Lk.va Lk.vn Lk.vc).ownBlock = some g → g < w.heap.size ∨ w.heap.size + 4 ≤ g
 be : Below w0.heap.size w0 X
 kw : Kept w l X
 gr : Grew w l Lk
 sz : w.heap.size + 4 ≤ X.heap.size
theorem ScanAt.pn {h : HC} {l : LnC} {w0 w : World} {Lk : LnC} {ns : List Bs} {vs : List To} {X : World} (s : ScanAt h l w0 w Lk ns vs X) (j : Nat) (hj : j < 4) : (Value.slice Lk.na Lk.nn Lk.nc).ownBlock ≠ some (w.heap.size + j) := fun e => by have := s.fn _ e; omega
theorem ScanAt.pv {h : HC} {l : LnC} {w0 w : World} {Lk : LnC} {ns : List Bs} {vs : List To} {X : World} (s : ScanAt h l w0 w Lk ns vs X) (j : Nat) (hj : j < 4) : (Value.slice Lk.va Lk.vn Lk.vc).ownBlock ≠ some (w.heap.size + j) := fun e => by have := s.fv _ e; omega

theorem teller_scan (h : HC) (pn on tn : List Bs) (l : LnC) (s : LnS) (e : EvC) (scan : List Sn) (w0 w : World) (hb : Below w0.heap.size w0 w) (hr : Row w0 1 encStr h.p.a h.p.n h.p.c pn) (hro : Row w0 1 encStr h.o.a h.o.n h.o.c on) (hrt : Row w0 1 encStr h.t.a h.t.n h.t.c tn)
   (he : toldB e.pred h.p.n = true) (hrs : Row w0 3 encSn e.sa e.sn e.sc scan) (hsc : ∀ q ∈ scan, seenB h.t.n h.o.n q = true) (hl : LnAt w w0.heap.size l s) (hlen : s.names.length ≤ 1000) (hlv : s.vers.length ≤ 1000) (hn40 : e.sn ≤ 40) :
   Calls Tryz.prog 66 #[valH h, valLn l, valEv e] w (RetLn0 w0 w l { s with names := s.names ++ [nameOf pn e.pred] ++ scan.map (fun q => nameOf on q.obj), vers := s.vers ++ scan.map (fun q => toldS tn q.v) }) := by
 obtain ⟨hk0, hkn⟩ := told_bd he
 obtain ⟨kk, hkk⟩ : ∃ kk : Nat, e.pred = kk := ⟨e.pred.toNat, by omega⟩
 obtain ⟨x, b, o, hx, hab, hc⟩ := hr.at_ (i := kk) (by omega)
 have hcw := hc 0 _ rfl
 simp only [Nat.mul_one, Nat.add_zero] at hcw
 have HBLT := hid (show b < w0.heap.size from cell_lt hcw)
 have hcb := bget hb rfl hcw
 rw [show nameOf pn e.pred = x by rw [hkk, nameOf_at hx]]
 have hkl : kk < h.p.n := by omega
 have hle := hr.le
 obtain ⟨eqs, hon, hov⟩ := hl
 obtain ⟨i, z, hi, hz, hsize, hby', hzs⟩ := partsStr
 have HI := hid (⟨hi, hz, hsize, hby', hzs⟩ : _ ∧ _ ∧ _ ∧ _ ∧ _)
 have HAB := hid hab; have HEQ := hid eqs; have HON := hid hon; have HOV := hid hov; have HB := hid hb
 have HN2 : Hid ((s.names.length + 1) * 16 ≤ 140737488355328) := hid (by omega)
 have HN3 : Hid (s.names.length + 1 ≤ maxLen) := hid (by unfold maxLen; omega)
 have HF : Hid (∀ i, (i < w0.heap.size ∨ w.heap.size ≤ i) → some i ≠ (Value.slice l.na l.nn l.nc).ownBlock) := hid (fun i hi => hon.far hi)
 have HAP := hid (hov.apart hon (by decide))
 obtain ⟨iv, zv, hiv, hzv, hsizev, hbyv, hzsv⟩ := partsTo
 have HIV := hid (⟨hiv, hzv, hsizev, hbyv, hzsv⟩ : _ ∧ _ ∧ _ ∧ _ ∧ _)
 have HRO := hid hro; have HRT := hid hrt; have HRS := hid hrs; have HSC := hid hsc
 have hsle := hrs.le; have hole := hro.le
 obtain ⟨ek, et, es, el, eo, ev, ep, esa, esn, esc⟩ := e
 simp only at hkk hn40 hsle HRS
 subst hkk
 clear hb hr he hon hov eqs hx hab hc hcw hi hz hsize hby' hzs hk0 hkn hiv hzv hsizev hbyv hzsv hro hrt hrs hsc
 go_enter Tryz.func66, Tryz.ntmps66
 go_wp2_with fail
 have HS1 := hid (show ((((w.alloc (.cells (cellsH h) 90)).alloc (.cells (cellsLn l) 41)).alloc (.cells (cellsEv ⟨ek, et, es, el, eo, ev, kk, esa, esn, esc⟩) 49)).alloc (.cells #[.int .i64 0, .slice none 0 0, .int .i64 0, .slice none 0 0, .bool false, .int .i64 0] 41)).cell? ⟨w.heap.size + 1, 1, none⟩ = some (.slice l.na l.nn l.nc) from (((Bx.new1 (by simp)).alloc _).alloc _).1 1)
 have HS2 := hid (show ((((w.alloc (.cells (cellsH h) 90)).alloc (.cells (cellsLn l) 41)).alloc (.cells (cellsEv ⟨ek, et, es, el, eo, ev, kk, esa, esn, esc⟩) 49)).alloc (.cells #[.int .i64 0, .slice none 0 0, .int .i64 0, .slice none 0 0, .bool false, .int .i64 0] 41)).cell? ⟨w.heap.size, 3, none⟩ = some (.slice (some ⟨b, o, none⟩) h.p.n h.p.c) from (((((Bx.new1 rfl).alloc _).alloc _).alloc _).1 3).trans (by rw [← HAB.out]; rfl))
 have HS3 := hid (show ((((w.alloc (.cells (cellsH h) 90)).alloc (.cells (cellsLn l) 41)).alloc (.cells (cellsEv ⟨ek, et, es, el, eo, ev, kk, esa, esn, esc⟩) 49)).alloc (.cells #[.int .i64 0, .slice none 0 0, .int .i64 0, .slice none 0 0, .bool false, .int .i64 0] 41)).cell? ⟨w.heap.size + 2, 7, none⟩ = some (.int .i64 kk) from ((Bx.new1 (by simp)).alloc _).1 7)
 have HS4 := hid (show ((((w.alloc (.cells (cellsH h) 90)).alloc (.cells (cellsLn l) 41)).alloc (.cells (cellsEv ⟨ek, et, es, el, eo, ev, kk, esa, esn, esc⟩) 49)).alloc (.cells #[.int .i64 0, .slice none 0 0, .int .i64 0, .slice none 0 0, .bool false, .int .i64 0] 41)).cell? ⟨b, o + kk, none⟩ = some (.string ⟨x.toArray⟩) from cellA _ (cellA _ (cellA _ (cellA _ hcb))))
 refine wp_region_ordC 11 [(0, 0), (1, 0), (2, 0), (3, 0), (4, 0), (5, 0), (6, 0), (7, 0), (8, 0), (9, 2), (10, 2), (11, 1), (12, 2)] (fun _ => True) (fun W' => W'.cell? ⟨w.heap.size + 1, 1, none⟩ = some (.slice l.na l.nn l.nc) ∧ W'.cell? ⟨w.heap.size, 3, none⟩ = some (.slice (some ⟨b, o, none⟩) h.p.n h.p.c) ∧ W'.cell? ⟨w.heap.size + 2, 7, none⟩ = some (.int .i64 kk) ∧ W'.cell? ⟨b, o + kk, none⟩ = some (.string ⟨x.toArray⟩)) (by kernel_rfl) (by kernel_rfl) (trivial) (⟨HS1.out, HS2.out, HS3.out, HS4.out⟩) ?_
 repeat ((first | refine ordC_skip rfl rfl ?_ | refine ordC_skip1 rfl rfl ?_ | ((first | refine ordC_q rfl rfl ?_ | refine ordC_p rfl rfl ?_); apply Exists.intro; refine ⟨fun wS hS => ?_, ?_⟩; (go_simp; try with_reducible rfl))); simp only [Act.put, List.setIfInBounds_toArray, List.set_cons_zero, List.set_cons_succ])
 refine ordC_l rfl rfl (fun K hK => ?_)
 go_simp
 refine hK _ _ ⟨trivial, ⟨cellA _ HS1.out, cellA _ HS2.out, cellA _ HS3.out, cellA _ HS4.out⟩⟩ ?_
 clear hK K
 refine ordC_l rfl rfl (fun K hK => ?_)
 refine wp_app _ _ 22 rfl i z 16 Tryz.underlying22 HI.out.1 HI.out.2.1 HI.out.2.2.1 HI.out.2.2.2.1 HI.out.2.2.2.2 rfl (((((((HON.out.alloc _).alloc _).alloc _).alloc _).alloc _).drew)) (some ⟨w.heap.size + 4, 0, none⟩) 1 1 (s.names.length + 1) [x] rfl (Row.drew (Row.strN (by simp) x)) (rfl) (HN2.out) (HN3.out) (by have := HB.out.size; simp; omega) ?_
 intro a' c' w2 hown2 hg2 hat2
 have HG := hid hg2; have HA := hid hat2; have HW := hid hown2
 refine hK _ _ ⟨trivial, ⟨hg2.cell (cellA _ HS1.out) (HF.out _ (.inr (by simp))), hg2.cell (cellA _ HS2.out) (HF.out _ (.inr (by simp))), hg2.cell (cellA _ HS3.out) (HF.out _ (.inr (by simp))), hg2.cell (cellA _ HS4.out) (HF.out _ (.inl HBLT.out))⟩⟩ ?_
 clear hK K hown2 hat2
 have hbl : Bx w2 (w.heap.size + 1) (cellsLn l) := by
   refine Bx.grown ?_ hg2 (fun e => HF.out _ (.inr (by simp)) e.symm)
   exact ((((Bx.new1 (by simp)).alloc _).alloc _).alloc _).drew
 have hbr : Bx w2 (w.heap.size + 3) #[.int .i64 0, .slice none 0 0, .int .i64 0, .slice none 0 0, .bool false, .int .i64 0] := by
   refine Bx.grown ?_ hg2 (fun e => HF.out _ (.inr (by simp)) e.symm)
   exact ((Bx.new1 (by simp)).alloc _).drew
 have hc1 := hbl.1; have hf1 := hbl.2.1; have hl1 := hbl.2.2; have hc3 := hbr.1; have hf3 := hbr.2.1; have hl3 := hbr.2.2
 have hA1 : ∀ g, (Value.slice a' (s.names.length + 1) c').ownBlock = some g → g ≠ w.heap.size + 1 ∧ g ≠ w.heap.size + 3 := by
   intro g hg
   rcases HA.out with h1 | h1
   · have := (HON.out.lt g (h1.symm.trans hg)).2
     omega
   · rw [h1] at hg; simp at hg; omega
 have hov2 : Own w2 w0.heap.size 98 2 encTo (.slice l.va l.vn l.vc) s.vers := (((((((HOV.out.alloc _).alloc _).alloc _).alloc _).alloc _).drew)).grown hg2 (fun g hg e => HAP.out g hg e)
 have hbe : Below w0.heap.size w0 w2 := below_app (belowA (belowA (belowA (belowA (belowA HB.out _) _) _) _) _).drew ((((((HON.out.alloc _).alloc _).alloc _).alloc _).alloc _).drew) (Nat.le_refl _) (by have := HB.out.size; simp; omega) hg2
 have hsz : w.heap.size ≤ w2.heap.size ∧ ∀ i, i < w.heap.size → some i ≠ (Value.slice l.na l.nn l.nc).ownBlock → w2.heap[i]? = w.heap[i]? := ⟨Nat.le_trans (belowA (belowA (belowA (belowA (belowA (Below.refl w.heap.size w) _) _) _) _) _).drew.size hg2.size, fun i hi h1 => (hg2.block i (Nat.lt_of_lt_of_le hi (belowA (belowA (belowA (belowA (belowA (Below.refl w.heap.size w) _) _) _) _) _).drew.size) h1).trans ((belowA (belowA (belowA (belowA (belowA (Below.refl w.heap.size w) _) _) _) _) _).drew.block i hi)⟩
 have hb0 : Bx w2 w.heap.size (cellsH h) := by
   refine Bx.grown ?_ hg2 (fun e => HF.out _ (.inr (by simp)) e.symm)
   exact (((((Bx.new1 rfl).alloc _).alloc _).alloc _).alloc _).drew
 have hb2 : Bx w2 (w.heap.size + 2) (cellsEv ⟨ek, et, es, el, eo, ev, kk, esa, esn, esc⟩) := by
   refine Bx.grown ?_ hg2 (fun e => HF.out _ (.inr (by simp)) e.symm)
   exact (((Bx.new1 (by simp)).alloc _).alloc _).drew
 have hz2 : w.heap.size + 4 ≤ w2.heap.size := by have := hg2.size; simp at this; omega
 have hhn : ∀ g, (Value.slice a' (s.names.length + 1) c').ownBlock = some g → g < w.heap.size ∨ w.heap.size + 4 ≤ g := by
   intro g hg
   rcases HA.out with h1 | h1
   · exact .inl (HON.out.lt g (h1.symm.trans hg)).2
   · right; have h2 := h1.symm.trans hg; simp at h2; omega
 have hgr : Grew w l { l with na := a', nn := s.names.length + 1, nc := c' } := ⟨fun g hg => by
   rcases HA.out with h1 | h1
   · exact .inl (h1.symm.trans hg)
   · right; have h2 := h1.symm.trans hg; simp at h2; omega, fun g hg => .inl hg⟩
 have HSCAN : Hid (∀ W', Same (fun i => i ≠ w.heap.size + 1) w2 W' → Bx W' (w.heap.size + 1) (cellsLn { l with na := a', nn := s.names.length + 1, nc := c' }) → ScanAt h l w0 w { l with na := a', nn := s.names.length + 1, nc := c' } (s.names ++ [x]) s.vers W') := hid (fun W' hs hbx =>
   ⟨hs.bx hb0 (by simp), hbx, hs.bx hbr (by simp), HW.out.same hs (fun g hg => (hA1 g hg).1), hov2.same hs (fun g hg => by have := (HOV.out.lt g hg).2; simp; omega), hhn, fun g hg => .inl (HOV.out.lt g hg).2,
     hs.below hbe (fun i hi => by have := HB.out.size; simp; omega) hbe.size, ⟨Nat.le_trans hsz.1 hs.size, fun i hi h1 _ => (hs.block i (by simp; omega) (Nat.lt_of_lt_of_le hi hsz.1)).trans (hsz.2 i hi h1)⟩, hgr, Nat.le_trans hz2 hs.size⟩)
 have hc2 := hb2.1
 have HBL := hid hbl; have HBR := hid hbr; clear hbl hbr hg2 hA1 hov2 hbe hsz hgr hb0 hb2 hz2 hhn
 repeat ((first | refine ordC_skip rfl rfl ?_ | refine ordC_skip1 rfl rfl ?_ | ((first | refine ordC_q rfl rfl ?_ | refine ordC_p rfl rfl ?_); apply Exists.intro; refine ⟨fun wS hS => ?_, ?_⟩; (go_simp; try with_reducible rfl))); simp only [Act.put, List.setIfInBounds_toArray, List.set_cons_zero, List.set_cons_succ])
 refine ordC_m rfl rfl rfl (fun K hK => ?_)
 go_simp
 refine hK _ _ trivial ?_
 clear hK K
 refine ordC_nil ?_
 go_wp2_with fail
 have HST := hid (HSCAN.out (w2.setCell ⟨w.heap.size + 1, 1, none⟩ (.slice a' (s.names.length + 1) c')) (Same.setTail (Same.refl' _) (by simp)) (HBL.out.setC 1 (by simp) _))
 clear hc1 hf1 hl1 hc3 hf3 hl3 hc2 HS1 HS2 HS3 HS4 HA HG HW HSCAN HAP HAB
 have hvl : l.vn = s.vers.length := HEQ.out.2.2.2.2.2
 have HVL := hid hvl; clear hvl
 go_loopw [24] (fun i wr => ∃ (k : Nat) (na : Option Addr) (nc : Nat) (va : Option Addr) (vc : Nat), k ≤ esn ∧ i = .int .i64 k ∧ ScanAt h l w0 w { l with na := na, nn := s.names.length + 1 + k, nc := nc, va := va, vn := l.vn + k, vc := vc } (s.names ++ [x] ++ (scan.take k).map (fun q => nameOf on q.obj)) (s.vers ++ (scan.take k).map (fun q => toldS tn q.v)) wr) (fun i _ => esn - (RowKit.intOf i).toNat)
 case atStart => exact ⟨0, a', c', l.va, l.vc, Nat.zero_le _, rfl, by simpa using HST.out⟩
 case round =>
   obtain ⟨k, na, nc, va, vc, hk, rfl, hsa⟩ := hrel
   by_cases hlt : k < esn
   · obtain ⟨q, qb, qo, hq, rfl, hqc⟩ := (HRS.out.below hsa.be rfl).at_ hlt
     have hq0 := hqc 0 _ rfl; have hq1 := hqc 1 _ rfl; have hq2 := hqc 2 _ rfl
     simp only [Nat.add_zero] at hq0
     have hseen := HSC.out q (List.mem_of_getElem? hq)
     simp only [seenB, Bool.and_eq_true] at hseen
     obtain ⟨hqo, hqv⟩ := hseen
     obtain ⟨ho0, hon⟩ := told_bd hqo
     obtain ⟨⟨qt, qv⟩, hqe⟩ : ∃ p : Nat × Ver, q = ⟨p.1, p.2⟩ := ⟨(q.obj.toNat, q.v), by obtain ⟨a, b⟩ := q; simp only at ho0 ⊢; rw [Int.toNat_of_nonneg ho0]⟩
     subst hqe
     simp only at hq0 hq1 hq2 hqv hon
     have hqn : qt < h.o.n := by omega
     obtain ⟨y, yb, yo, hy, hyb, hyc⟩ := HRO.out.at_ hqn
     have hyw := hyc 0 _ rfl
     simp only [Nat.mul_one, Nat.add_zero] at hyw
     have HYLT := hid (show yb < w0.heap.size from cell_lt hyw)
     have hyr := bget hsa.be rfl hyw
     have HNSL : Hid ((s.names ++ [x] ++ (scan.take k).map (fun q => nameOf on q.obj)).length = s.names.length + 1 + k) := by
       have hkl : k ≤ scan.length := by rw [HRS.out.len]; omega
       exact hid (by simp only [List.length_append, List.length_map, List.length_take, Nat.min_eq_left hkl, List.length_cons, List.length_nil])
     have HVSL : Hid ((s.vers ++ (scan.take k).map (fun q => toldS tn q.v)).length = l.vn + k) := by
       have hkl : k ≤ scan.length := by rw [HRS.out.len]; omega
       exact hid (by simp only [List.length_append, List.length_map, List.length_take, Nat.min_eq_left hkl]; rw [HVL.out])
     have HNSN : Hid ((s.names ++ [x] ++ (scan.take k).map (fun q => nameOf on q.obj)) ++ [y] = s.names ++ [x] ++ (scan.take (k + 1)).map (fun q => nameOf on q.obj)) := by
       rw [List.take_add_one, hq]; exact hid (by simp [nameOf_at hy])
     obtain ⟨to, hto⟩ : ∃ to, to = toldS tn qv := ⟨_, rfl⟩
     have HVSN : Hid ((s.vers ++ (scan.take k).map (fun q => toldS tn q.v)) ++ [to] = s.vers ++ (scan.take (k + 1)).map (fun q => toldS tn q.v)) := by
       rw [List.take_add_one, hq]; exact hid (by simp [hto])
     obtain ⟨ns, hns⟩ : ∃ ns, ns = (s.names ++ [x] ++ (scan.take k).map (fun q => nameOf on q.obj)) := ⟨_, rfl⟩
     obtain ⟨vs, hvs⟩ : ∃ vs, vs = (s.vers ++ (scan.take k).map (fun q => toldS tn q.v)) := ⟨_, rfl⟩
     rw [← hns] at HNSL HNSN hsa
     rw [← hvs] at HVSL HVSN hsa
     have HSA := hid hsa; have HTO := hid hto; have HQV := hid hqv
     obtain ⟨ht, hs_, ⟨oa, oo, oc⟩, hp_, he_, hd_, hm_, hw_⟩ := h
     simp only at hyb hqn
     subst hyb
     have hsz := hsa.sz
     clear hqc hq hqo ho0 hon hyc hyw hy hns hvs hsa hto hqv
     have HYR := hid hyr; clear hyr
     go_wp2_with fail
     refine wp_region_ordC 19 [(0, 0), (1, 0), (2, 0), (3, 0), (4, 0), (5, 0), (6, 0), (7, 0), (8, 0), (11, 0), (12, 0), (13, 1), (14, 1), (15, 1), (9, 2), (10, 2), (19, 1), (16, 2), (17, 2), (18, 2), (20, 2), (21, 1), (22, 2)] (fun W' => Bx W' w.heap.size #[ht.v, hs_.v, .slice (some ⟨yb, yo, none⟩) oo oc, hp_.v, he_.v, hd_.v, hm_.v, hw_.v] ∧ Bx W' wr.heap.size #[.int .i64 qt, .int .i64 qv.t, .int .i64 qv.k]) (fun W' => Bx W' (w.heap.size + 1) (cellsLn { l with na := na, nn := s.names.length + 1 + k, nc := nc, va := va, vn := l.vn + k, vc := vc }) ∧ W'.cell? ⟨yb, yo + qt, none⟩ = some (.string ⟨y.toArray⟩)) (by kernel_rfl) (by kernel_rfl) (⟨HSA.out.b0.alloc _, Bx.new1 rfl⟩) (⟨HSA.out.b1.alloc _, cellA _ HYR.out⟩) ?_
     repeat ((first | refine ordC_skip rfl rfl ?_ | refine ordC_skip1 rfl rfl ?_ | ((first | refine ordC_q rfl rfl ?_ | refine ordC_p rfl rfl ?_); apply Exists.intro; refine ⟨fun wS hS => ?_, ?_⟩; (go_simp; try with_reducible rfl))); simp only [Act.put, List.setIfInBounds_toArray, List.set_cons_zero, List.set_cons_succ])
     refine ordC_l rfl rfl (fun K hK => ?_)
     go_simp
     refine hK _ _ ⟨⟨(HSA.out.b0.alloc _).alloc _, (Bx.new1 rfl).alloc _⟩, (HSA.out.b1.alloc _).alloc _, cellA _ (cellA _ HYR.out)⟩ ?_
     clear hK K
     refine ordC_l rfl rfl (fun K hK => ?_)
     refine wp_app _ _ 22 rfl i z 16 Tryz.underlying22 HI.out.1 HI.out.2.1 HI.out.2.2.1 HI.out.2.2.2.1 HI.out.2.2.2.2 rfl ((((HSA.out.on.alloc _).alloc _).drew)) (some ⟨wr.heap.size + 1, 0, none⟩) 1 1 (s.names.length + 1 + k + 1) [y] rfl (Row.drew (Row.strN (by simp) y)) (by rw [HNSL.out]) (by omega) (by unfold maxLen; omega) (by have := HSA.out.be.size; simp; omega) ?_
     intro a' c' w2 hown2 hg2 hat2
     have h0 : Bx w2 w.heap.size #[ht.v, hs_.v, .slice (some ⟨yb, yo, none⟩) oo oc, hp_.v, he_.v, hd_.v, hm_.v, hw_.v] := by
       refine Bx.grown ?_ hg2 (HSA.out.pn 0 (by decide))
       exact ((HSA.out.b0.alloc _).alloc _).drew
     have h1 : Bx w2 (w.heap.size + 1) (cellsLn { l with na := na, nn := s.names.length + 1 + k, nc := nc, va := va, vn := l.vn + k, vc := vc }) := by
       refine Bx.grown ?_ hg2 (HSA.out.pn 1 (by decide))
       exact ((HSA.out.b1.alloc _).alloc _).drew
     have h3 : Bx w2 (w.heap.size + 3) #[.int .i64 0, .slice none 0 0, .int .i64 0, .slice none 0 0, .bool false, .int .i64 0] := by
       refine Bx.grown ?_ hg2 (HSA.out.pn 3 (by decide))
       exact ((HSA.out.b3.alloc _).alloc _).drew
     have h4 : Bx w2 wr.heap.size #[.int .i64 qt, .int .i64 qv.t, .int .i64 qv.k] := by
       refine Bx.grown ?_ hg2 (fun e => by have := (HSA.out.on.lt _ e).2; omega)
       exact ((Bx.new1 rfl).alloc _).drew
     have h5 : w2.cell? ⟨yb, yo + qt, none⟩ = some (.string ⟨y.toArray⟩) := hg2.cell (cellA _ (cellA _ HYR.out)) (HSA.out.on.far (.inl HYLT.out))
     have HOV2 := hid ((((HSA.out.ov.alloc _).alloc _).drew).grown hg2 (fun g hg e => (HSA.out.ov.apart HSA.out.on (by decide)) g hg e))
     have HBE2 := hid (below_app (belowA (belowA HSA.out.be _) _).drew (((HSA.out.on.alloc _).alloc _).drew) (Nat.le_refl _) (by have := HSA.out.be.size; simp; omega) hg2)
     have HKW2 : Hid (wr.heap.size + 2 ≤ w2.heap.size ∧ ∀ i, i < w.heap.size → some i ≠ (Value.slice l.na l.nn l.nc).ownBlock → some i ≠ (Value.slice l.va l.vn l.vc).ownBlock → w2.heap[i]? = w.heap[i]?) := hid ⟨by have := hg2.size; simpa using this, fun i hi g1 g2 => (hg2.block i (by simp; omega) (fun e => by
       rcases HSA.out.gr.1 i e.symm with g3 | g3
       · exact g1 g3.symm
       · omega)).trans ((Below.heap_alloc _ _ _ (by simp; omega)).trans ((Below.heap_alloc _ _ _ (by omega)).trans (HSA.out.kw.block i hi g1 g2)))⟩
     have HFN2 : Hid (∀ g, (Value.slice a' (s.names.length + 1 + k + 1) c').ownBlock = some g → (g < w.heap.size ∨ w.heap.size + 4 ≤ g) ∧ ((Value.slice l.na l.nn l.nc).ownBlock = some g ∨ w.heap.size ≤ g)) := hid (fun g hg => by
       rcases hat2 with g1 | g1
       · exact ⟨HSA.out.fn g (g1.symm.trans hg), HSA.out.gr.1 g (g1.symm.trans hg)⟩
       · have g2 := g1.symm.trans hg; simp at g2; omega)
     have HW2 := hid hown2; have H0 := hid h0; have H1 := hid h1; have H3 := hid h3; have H4 := hid h4; have H5 := hid h5
     refine hK _ _ ⟨⟨h0, h4⟩, h1, h5⟩ ?_
     clear hK K hown2 hat2 hg2 h0 h1 h3 h4 h5
     repeat ((first | refine ordC_skip rfl rfl ?_ | refine ordC_skip1 rfl rfl ?_ | ((first | refine ordC_q rfl rfl ?_ | refine ordC_p rfl rfl ?_); apply Exists.intro; refine ⟨fun wS hS => ?_, ?_⟩; (go_simp; try with_reducible rfl))); simp only [Act.put, List.setIfInBounds_toArray, List.set_cons_zero, List.set_cons_succ])
     refine ordC_l rfl rfl (fun K hK => ?_)
     go_simp
     refine (teller_told ⟨ht, hs_, ⟨some ⟨yb, yo, none⟩, oo, oc⟩, hp_, he_, hd_, hm_, hw_⟩ qv tn _ (HRT.out.below HBE2.out rfl) (ver_told HQV.out)).mono ?_
     rintro en Y2 ⟨rfl, hbt⟩
     rw [← HTO.out]
     have HBT := hid hbt
     refine hK _ _ ⟨⟨H0.out.keep hbt, H4.out.keep hbt⟩, H1.out.keep hbt, bget hbt rfl H5.out⟩ ?_
     clear hK K hbt
     refine ordC_l rfl rfl (fun K hK => ?_)
     go_simp
     refine hK _ _ ⟨⟨(H0.out.keep HBT.out).alloc _, (H4.out.keep HBT.out).alloc _⟩, (H1.out.keep HBT.out).alloc _, cellA _ (bget HBT.out rfl H5.out)⟩ ?_
     clear hK K
     refine ordC_l rfl rfl (fun K hK => ?_)
     refine wp_app _ _ 39 rfl iv zv 24 Tryz.underlying39 HIV.out.1 HIV.out.2.1 HIV.out.2.2.1 HIV.out.2.2.2.1 HIV.out.2.2.2.2 rfl (((HOV2.out.below HBT.out rfl).alloc _)) (some ⟨Y2.heap.size, 0, none⟩) 1 1 (l.vn + k + 1) [to] rfl (Row.toN rfl to) (by rw [HVSL.out]) (by have := HVL.out; omega) (by have := HVL.out; unfold maxLen; omega) (by have := HBT.out.size; have := HBE2.out.size; simp; omega) ?_
     intro a3 c3 w3 hown3 hg3 hat3
     have h0 : Bx w3 w.heap.size #[ht.v, hs_.v, .slice (some ⟨yb, yo, none⟩) oo oc, hp_.v, he_.v, hd_.v, hm_.v, hw_.v] := by
       refine Bx.grown ?_ hg3 (HSA.out.pv 0 (by decide))
       exact (H0.out.keep HBT.out).alloc _
     have h1 : Bx w3 (w.heap.size + 1) (cellsLn { l with na := na, nn := s.names.length + 1 + k, nc := nc, va := va, vn := l.vn + k, vc := vc }) := by
       refine Bx.grown ?_ hg3 (HSA.out.pv 1 (by decide))
       exact (H1.out.keep HBT.out).alloc _
     have h3 : Bx w3 (w.heap.size + 3) #[.int .i64 0, .slice none 0 0, .int .i64 0, .slice none 0 0, .bool false, .int .i64 0] := by
       refine Bx.grown ?_ hg3 (HSA.out.pv 3 (by decide))
       exact (H3.out.keep HBT.out).alloc _
     have h4 : Bx w3 wr.heap.size #[.int .i64 qt, .int .i64 qv.t, .int .i64 qv.k] := by
       refine Bx.grown ?_ hg3 (fun e => by have := (HSA.out.ov.lt _ e).2; omega)
       exact (H4.out.keep HBT.out).alloc _
     have hs2 : w2.heap.size ≤ Y2.heap.size := HBT.out.size
     have hon3 := ((HW2.out.below HBT.out rfl).alloc (.cells #[.string ⟨to.name.toArray⟩, .int .i64 to.k] 98)).grown hg3 (fun g hg e => (HW2.out.apart HOV2.out (by decide)) g hg e)
     have hbe3 : Below w0.heap.size w0 w3 := below_app ((HBE2.out.trans (HBT.out.mono HBE2.out.size)).alloc (Nat.le_trans HBE2.out.size hs2) _) ((HOV2.out.below HBT.out rfl).alloc _) (Nat.le_refl _) (by have := HBE2.out.size; simp; omega) hg3
     have hkw3 : Kept w l w3 := ⟨by have := hg3.size; have := HKW2.out.1; simp at *; omega, fun i hi g1 g2 => (hg3.block i (by have := HKW2.out.1; simp; omega) (fun e => by
       rcases HSA.out.gr.2 i e.symm with g3 | g3
       · exact g2 g3.symm
       · omega)).trans ((Below.heap_alloc _ _ _ (by have := HKW2.out.1; omega)).trans ((HBT.out.block i (by have := HKW2.out.1; omega)).trans (HKW2.out.2 i hi g1 g2)))⟩
     have hfv3 : ∀ g, (Value.slice a3 (l.vn + k + 1) c3).ownBlock = some g → (g < w.heap.size ∨ w.heap.size + 4 ≤ g) ∧ ((Value.slice l.va l.vn l.vc).ownBlock = some g ∨ w.heap.size ≤ g) := fun g hg => by
       rcases hat3 with g1 | g1
       · exact ⟨HSA.out.fv g (g1.symm.trans hg), HSA.out.gr.2 g (g1.symm.trans hg)⟩
       · have g2 := g1.symm.trans hg; have := HKW2.out.1; simp at g2; omega
     have hsz3 : w.heap.size + 4 ≤ w3.heap.size := by have := hg3.size; have := HKW2.out.1; simp at *; omega
     rw [HNSN.out] at hon3
     have hov3 := hown3; rw [HVSN.out] at hov3
     have NEXT : Hid (∀ W', Same (fun i => i ≠ w.heap.size + 1) w3 W' → Bx W' (w.heap.size + 1) (cellsLn { l with na := a', nn := s.names.length + 1 + (k + 1), nc := c', va := a3, vn := l.vn + (k + 1), vc := c3 }) → ScanAt ⟨ht, hs_, ⟨some ⟨yb, yo, none⟩, oo, oc⟩, hp_, he_, hd_, hm_, hw_⟩ l w0 w { l with na := a', nn := s.names.length + 1 + (k + 1), nc := c', va := a3, vn := l.vn + (k + 1), vc := c3 } (s.names ++ [x] ++ (scan.take (k + 1)).map (fun q => nameOf on q.obj)) (s.vers ++ (scan.take (k + 1)).map (fun q => toldS tn q.v)) W') := hid (fun W' hs hbx =>
       ⟨hs.bx h0 (by simp), hbx, hs.bx h3 (by simp), hon3.same hs (fun g hg => by rcases (HFN2.out g hg).1 with g1 | g1 <;> simp <;> omega), hov3.same hs (fun g hg => by rcases (hfv3 g hg).1 with g1 | g1 <;> simp <;> omega), fun g hg => (HFN2.out g hg).1, fun g hg => (hfv3 g hg).1,
         hs.below hbe3 (fun i hi => by have := HB.out.size; simp; omega) hbe3.size, ⟨Nat.le_trans hkw3.size hs.size, fun i hi g1 g2 => (hs.block i (by simp; omega) (Nat.lt_of_lt_of_le hi hkw3.size)).trans (hkw3.block i hi g1 g2)⟩, ⟨fun g hg => (HFN2.out g hg).2, fun g hg => (hfv3 g hg).2⟩, Nat.le_trans hsz3 hs.size⟩)
     have HBL := hid h1; have H03 := hid h0; have H43 := hid h4
     have hc1 := h1.1; have hf1 := h1.2.1; have hl1 := h1.2.2
     refine hK _ _ ⟨⟨h0, h4⟩, h1, hg3.cell (cellA _ (bget HBT.out rfl H5.out)) (HSA.out.ov.far (.inl HYLT.out))⟩ ?_
     clear hK K hown3 hat3 hg3 h0 h1 h3 h4 hon3 hov3 hbe3 hkw3 hfv3 hsz3
     refine ordC_m rfl rfl rfl (fun K hK => ?_)
     go_simp
     refine hK _ _ ⟨H03.out.setOther _ _ _ (by omega), H43.out.setOther _ _ _ (by omega)⟩ ?_
     clear hK K
     repeat ((first | refine ordC_skip rfl rfl ?_ | refine ordC_skip1 rfl rfl ?_ | ((first | refine ordC_q rfl rfl ?_ | refine ordC_p rfl rfl ?_); apply Exists.intro; refine ⟨fun wS hS => ?_, ?_⟩; (go_simp; try with_reducible rfl))); simp only [Act.put, List.setIfInBounds_toArray, List.set_cons_zero, List.set_cons_succ])
     refine ordC_m rfl rfl rfl (fun K hK => ?_)
     go_simp
     refine hK _ _ ⟨(H03.out.setOther _ _ _ (by omega)).setOther _ _ _ (by omega), (H43.out.setOther _ _ _ (by omega)).setOther _ _ _ (by omega)⟩ ?_
     clear hK K
     refine ordC_nil ?_
     go_wp2_with fail
     go_roundw
     case rel => exact ⟨k + 1, a', c', a3, c3, by omega, by go_num, NEXT.out _ (Same.setTail (Same.setTail (Same.refl' _) (by simp)) (by simp)) ((HBL.out.setC 1 (by simp) _).setC 3 (by simp) _)⟩
     case measure => simp [RowKit.intOf]; omega
   · obtain rfl : k = esn := by omega
     have htk : scan.take k = scan := List.take_of_length_le (by rw [HRS.out.len]; exact Nat.le_refl _)
     rw [htk] at hsa
     have hc1 := hsa.b1.1; have hc3 := hsa.b3.1; have hf3 := hsa.b3.2.1; have hl3 := hsa.b3.2.2
     have hns : s.names.length + 1 + k = (s.names ++ [x] ++ scan.map (fun q => nameOf on q.obj)).length := by simp [HRS.out.len]; omega
     have hvs : l.vn + k = (s.vers ++ scan.map (fun q => toldS tn q.v)).length := by simp [HRS.out.len, HVL.out]
     have FIN : Hid (∀ W', Same (fun i => i ≠ w.heap.size + 3) wr W' → RetLn0 w0 w l { s with names := s.names ++ [x] ++ scan.map (fun q => nameOf on q.obj), vers := s.vers ++ scan.map (fun q => toldS tn q.v) } (.returned (valLn { l with na := na, nn := s.names.length + 1 + k, nc := nc, va := va, vn := l.vn + k, vc := vc })) W') := hid (fun W' hs =>
       ⟨_, rfl, ⟨⟨HEQ.out.1, HEQ.out.2.1, HEQ.out.2.2.1, HEQ.out.2.2.2.1, hns, hvs⟩, hsa.on.same hs (fun g hg => fun e => hsa.pn 3 (by decide) (e ▸ hg)), hsa.ov.same hs (fun g hg => fun e => hsa.pv 3 (by decide) (e ▸ hg))⟩,
         hs.below hsa.be (fun i hi => by have := HB.out.size; simp; omega) hsa.be.size, ⟨Nat.le_trans hsa.kw.size hs.size, fun i hi h1 h2 => (hs.block i (by simp; omega) (Nat.lt_of_lt_of_le hi hsa.kw.size)).trans (hsa.kw.block i hi h1 h2)⟩, hsa.gr⟩)
     clear hsa htk hns hvs
     go_wp2_with fail
     refine bodyPost_ret (v := valLn { l with na := na, nn := s.names.length + 1 + k, nc := nc, va := va, vn := l.vn + k, vc := vc }) (by simp [results, Tryz.results66, go_sem, hc3]) rfl (FIN.out _ ?_)
     repeat (first | (refine Same.setTail ?_ (by simp)) | (with_reducible exact Same.refl' _))
end Yd
