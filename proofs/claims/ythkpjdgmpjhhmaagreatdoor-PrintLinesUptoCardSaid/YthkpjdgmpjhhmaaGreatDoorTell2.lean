import Derived.Test.YthkpjdgmpjhhmaaGreatDoorTellA
import Derived.Test.YthkpjdgmpjhhmaaGreatDoorProg
namespace Yd
open Go Go.RowKit Go.Proofs

theorem Bx.setC {X : World} {b : Nat} {cs : Array Value} (h : Bx X b cs) (i : Nat) (hi : i < cs.size) (v : Value) : Bx (X.setCell ⟨b, i, none⟩ v) b (cs.setIfInBounds i v) := by
  refine ⟨fun j => ?_, fun j => by rw [World.frozen?_setCell]; exact h.2.1 j, by have := h.2.2; simpa [World.setCell] using this⟩
  by_cases hj : j = i
  · subst hj
    rw [World.cell?_setCell_same' _ _ _ (by rw [h.1 j, Array.getElem?_eq_getElem hi]; rfl), Array.getElem?_setIfInBounds_self_of_lt hi]
  · rw [World.cell?_setCell_other _ _ _ _ (fun e => by cases e; exact hj rfl), h.1 j, Array.getElem?_setIfInBounds_ne (fun e => hj e.symm)]
theorem Bx.set6 {X : World} {b : Nat} {l l' : LnC} (h : Bx X b (cellsLn l)) :
    Bx ((((((X.setCell ⟨b, 0, none⟩ (.int .i64 l'.kind)).setCell ⟨b, 1, none⟩ (.slice l'.na l'.nn l'.nc)).setCell ⟨b, 2, none⟩ (.int .i64 l'.lvl)).setCell ⟨b, 3, none⟩ (.slice l'.va l'.vn l'.vc)).setCell ⟨b, 4, none⟩ (.bool l'.first)).setCell ⟨b, 5, none⟩ (.int .i64 l'.bits)) b (cellsLn l') :=
  ((((((h.setC 0 (by simp) _).setC 1 (by simp) _).setC 2 (by simp) _).setC 3 (by simp) _).setC 4 (by simp) _).setC 5 (by simp) _)
theorem Row.toN {X : World} {g : Nat} (h : X.heap.size = g) (s : To) : Row (X.alloc (.cells #[.string ⟨s.name.toArray⟩, .int .i64 s.k] 98)) 2 encTo (some ⟨g, 0, none⟩) 1 1 [s] :=
  h ▸ (Own.new (hc := cInsTo) X X.heap.size 98 #[.string ⟨s.name.toArray⟩, .int .i64 s.k] [s] (Nat.le_refl _) rfl (by simp [maxLen])).row (by simp)
theorem heapN {X : World} {o : Obj} {g : Nat} (h : X.heap.size = g) : (X.alloc o).heap[g]? = some o := h ▸ World.alloc_heap_new X o
theorem heapA {X : World} {b : Nat} {o' : Obj} (o : Obj) (h : X.heap[b]? = some o') : (X.alloc o).heap[b]? = some o' := (Below.heap_alloc _ _ _ (Array.getElem?_eq_some_iff.1 h).1).trans h
theorem Own.notBox {α : Type} {enc : α → List Value} {k : Nat} {w : World} {B : Nat} {E : TypeId} {v : Value} {xs : List α} (h : Own w B E k enc v xs) {b : Nat} {cs : Array Value} {T : TypeId} {fz : Nat × Nat} (hb : w.heap[b]? = some (.cells cs T fz)) (hE : E ≠ T) : v.ownBlock ≠ some b := fun e => by
  obtain ⟨cs', fz', e1⟩ := h.tag e
  rw [hb] at e1
  cases e1
  exact hE rfl
theorem ver_told {v : Ver} {nt : Nat} (h : verB v nt = true) : v.k = 0 ∨ (0 ≤ v.t ∧ v.t < nt) := by
  unfold verB at h
  by_cases hk : v.k = 0
  · exact .inl hk
  · rw [if_neg hk] at h; simp only [Bool.and_eq_true] at h; exact .inr (told_bd h.1.1)

set_option maxRecDepth 100000 in
set_option maxHeartbeats 2000000 in
theorem teller_read (h : HC) (on tn : List Bs) (l : LnC) (s : LnS) (e : EvC) (w0 w : World) (hb : Below w0.heap.size w0 w) (hro : Row w0 1 encStr h.o.a h.o.n h.o.c on) (hrt : Row w0 1 encStr h.t.a h.t.n h.t.c tn)
    (he : toldB e.obj h.o.n = true) (hv : verB e.v h.t.n = true) (hl : LnAt w w0.heap.size l s) (hlen : s.names.length ≤ 1000) (hlv : s.vers.length ≤ 1000) :
    Calls Tryz.prog 65 #[valH h, valLn l, valEv e] w (RetLn0 w0 w l { s with names := s.names ++ [nameOf on e.obj], vers := s.vers ++ [toldS tn e.v] }) := by
  have hbV : Below w.heap.size w ((((w.alloc (.cells (cellsH h) 90)).alloc (.cells (cellsLn l) 41)).alloc (.cells (cellsEv e) 49)).alloc (.cells #[.int .i64 0, .slice none 0 0, .int .i64 0, .slice none 0 0, .bool false, .int .i64 0] 41)) := belowA (belowA (belowA (belowA (Below.refl _ _) _) _) _) _
  have HWR := hid (teller_write h on l s e w0 _ (hb.trans (hbV.mono hb.size)) hro he (hl.below hbV) hlen)
  have HB := hid hb; have HRT := hid hrt; have HV := hid hv; have HL := hid hl; have HBV := hid hbV; have HLV := hid hlv
  have HF1 : Hid (∀ i, w.heap.size ≤ i → some i ≠ (Value.slice l.na l.nn l.nc).ownBlock) := hid (fun i hi => hl.2.1.far (.inr hi))
  have HF2 : Hid (∀ i, w.heap.size ≤ i → some i ≠ (Value.slice l.va l.vn l.vc).ownBlock) := hid (fun i hi => hl.2.2.far (.inr hi))
  obtain ⟨i, z, hi, hz, hsize, hby', hzs⟩ := partsTo
  have HI := hid (⟨hi, hz, hsize, hby', hzs⟩ : _ ∧ _ ∧ _ ∧ _ ∧ _)
  obtain ⟨to, hto⟩ : ∃ to, to = toldS tn e.v := ⟨_, rfl⟩
  rw [← hto]
  obtain ⟨x, hxo⟩ : ∃ x, x = nameOf on e.obj := ⟨_, rfl⟩
  rw [← hxo] at HWR ⊢
  have HTO := hid hto
  have HN2 : Hid ((s.vers.length + 1) * 24 ≤ 140737488355328) := hid (by omega)
  have HN3 : Hid (s.vers.length + 1 ≤ maxLen) := hid (by unfold maxLen; omega)
  clear hto hxo hi hz hsize hby' hzs hb hrt hv hl hlv hro he
  go_enter Tryz.func65, Tryz.ntmps65
  go_wp2_with fail
  refine HWR.out.mono ?_
  rintro en w1 ⟨l1, rfl, hl1, hb1, hk1, hgr1⟩
  have hbx0 : Bx w1 w.heap.size (cellsH h) := Bx.of_eq (X := ((((w.alloc (.cells (cellsH h) 90)).alloc (.cells (cellsLn l) 41)).alloc (.cells (cellsEv e) 49)).alloc (.cells #[.int .i64 0, .slice none 0 0, .int .i64 0, .slice none 0 0, .bool false, .int .i64 0] 41))) ((((Bx.new1 rfl).alloc _).alloc _).alloc _) hk1.size (hk1.block _ (by simp <;> omega) (HF1.out _ (by omega)) (HF2.out _ (by omega)))
  have hbx1 : Bx w1 (w.heap.size + 1) (cellsLn l) := Bx.of_eq (X := ((((w.alloc (.cells (cellsH h) 90)).alloc (.cells (cellsLn l) 41)).alloc (.cells (cellsEv e) 49)).alloc (.cells #[.int .i64 0, .slice none 0 0, .int .i64 0, .slice none 0 0, .bool false, .int .i64 0] 41))) (((Bx.new1 (by simp)).alloc _).alloc _) hk1.size (hk1.block _ (by simp <;> omega) (HF1.out _ (by omega)) (HF2.out _ (by omega)))
  have hbx2 : Bx w1 (w.heap.size + 2) (cellsEv e) := Bx.of_eq (X := ((((w.alloc (.cells (cellsH h) 90)).alloc (.cells (cellsLn l) 41)).alloc (.cells (cellsEv e) 49)).alloc (.cells #[.int .i64 0, .slice none 0 0, .int .i64 0, .slice none 0 0, .bool false, .int .i64 0] 41))) ((Bx.new1 (by simp)).alloc _) hk1.size (hk1.block _ (by simp) (HF1.out _ (by omega)) (HF2.out _ (by omega)))
  have hbx3 : Bx w1 (w.heap.size + 3) #[.int .i64 0, .slice none 0 0, .int .i64 0, .slice none 0 0, .bool false, .int .i64 0] := Bx.of_eq (X := ((((w.alloc (.cells (cellsH h) 90)).alloc (.cells (cellsLn l) 41)).alloc (.cells (cellsEv e) 49)).alloc (.cells #[.int .i64 0, .slice none 0 0, .int .i64 0, .slice none 0 0, .bool false, .int .i64 0] 41))) (Bx.new1 (by simp)) hk1.size (hk1.block _ (by simp) (HF1.out _ (by omega)) (HF2.out _ (by omega)))
  have hob1 : w1.heap[w.heap.size + 1]? = some (.cells (cellsLn l) 41 (0, 0)) := (hk1.block _ (by simp <;> omega) (HF1.out _ (by omega)) (HF2.out _ (by omega))).trans (heapA _ (heapA _ (heapN (by simp))))
  have hob0 : w1.heap[w.heap.size]? = some (.cells (cellsH h) 90 (0, 0)) := (hk1.block _ (by simp <;> omega) (HF1.out _ (by omega)) (HF2.out _ (by omega))).trans (heapA _ (heapA _ (heapA _ (heapN rfl))))
  have hob2 : w1.heap[w.heap.size + 2]? = some (.cells (cellsEv e) 49 (0, 0)) := (hk1.block _ (by simp <;> omega) (HF1.out _ (by omega)) (HF2.out _ (by omega))).trans (heapA _ (heapN (by simp)))
  have hob3 : w1.heap[w.heap.size + 3]? = some (.cells #[.int .i64 0, .slice none 0 0, .int .i64 0, .slice none 0 0, .bool false, .int .i64 0] 41 (0, 0)) := (hk1.block _ (by simp) (HF1.out _ (by omega)) (HF2.out _ (by omega))).trans (heapN (by simp))
  have HGR : Hid (∀ g, (Value.slice l1.va l1.vn l1.vc).ownBlock = some g → (Value.slice l.va l.vn l.vc).ownBlock = some g ∨ w.heap.size ≤ g) := hid (fun g hg => (hgr1.2 g hg).imp id (fun h => Nat.le_trans HBV.out.size h))
  have HGN : Hid (∀ g, (Value.slice l1.na l1.nn l1.nc).ownBlock = some g → (Value.slice l.na l.nn l.nc).ownBlock = some g ∨ w.heap.size ≤ g) := hid (fun g hg => (hgr1.1 g hg).imp id (fun h => Nat.le_trans HBV.out.size h))
  have hfr := hbx1.2.1; have hcr := hbx1.1; have hlr := hbx1.2.2
  have hz1 : w.heap.size + 4 ≤ w1.heap.size := by have := hk1.size; simp at this; omega
  have HKW : Hid (∀ i, i < w.heap.size → some i ≠ (Value.slice l.na l.nn l.nc).ownBlock → some i ≠ (Value.slice l.va l.vn l.vc).ownBlock → w1.heap[i]? = w.heap[i]?) := hid (fun i hi h1 h2 => (hk1.block i (Nat.lt_of_lt_of_le hi HBV.out.size) h1 h2).trans (HBV.out.block i hi))
  have HL1 := hid hl1; have HB1 := hid hb1; have HX0 := hid hbx0; have HX1 := hid hbx1; have HX2 := hid hbx2; have HX3 := hid hbx3; have HOB1 := hid hob1; have HOB3 := hid hob3; have HOB0 := hid hob0; have HOB2 := hid hob2
  clear hgr1 hl1 hb1 hk1 hbx0 hbx1 hbx2 hbx3 hob1 hob3 hob0 hob2
  go_wp2_with fail
  clear hfr hcr hlr
  have hsm : Same (fun i => i ≠ w.heap.size + 1) w1 ((((((w1.setCell ⟨w.heap.size + 1, 0, none⟩ (.int .i64 l1.kind)).setCell ⟨w.heap.size + 1, 1, none⟩ (.slice l1.na l1.nn l1.nc)).setCell ⟨w.heap.size + 1, 2, none⟩ (.int .i64 l1.lvl)).setCell ⟨w.heap.size + 1, 3, none⟩ (.slice l1.va l1.vn l1.vc)).setCell ⟨w.heap.size + 1, 4, none⟩ (.bool l1.first)).setCell ⟨w.heap.size + 1, 5, none⟩ (.int .i64 l1.bits)) := by
    repeat (first | (refine Same.setTail ?_ (by simp)) | (with_reducible exact Same.refl' _))
  have hy1 := Bx.set6 (l' := l1) HX1.out
  revert hsm hy1
  generalize ((((((w1.setCell ⟨w.heap.size + 1, 0, none⟩ (.int .i64 l1.kind)).setCell ⟨w.heap.size + 1, 1, none⟩ (.slice l1.na l1.nn l1.nc)).setCell ⟨w.heap.size + 1, 2, none⟩ (.int .i64 l1.lvl)).setCell ⟨w.heap.size + 1, 3, none⟩ (.slice l1.va l1.vn l1.vc)).setCell ⟨w.heap.size + 1, 4, none⟩ (.bool l1.first)).setCell ⟨w.heap.size + 1, 5, none⟩ (.int .i64 l1.bits)) = Y
  intro hsm hy1
  have hy0 := hsm.bx HX0.out (by simp)
  have hy2 := hsm.bx HX2.out (by simp)
  have hy3 := hsm.bx HX3.out (by simp)
  have hn1 := HL1.out.2.1.notBox HOB1.out (by decide); have hn3 := HL1.out.2.1.notBox HOB3.out (by decide)
  have hv1 := HL1.out.2.2.notBox HOB1.out (by decide); have hv3 := HL1.out.2.2.notBox HOB3.out (by decide)
  have hv0 := HL1.out.2.2.notBox HOB0.out (by decide); have hv2 := HL1.out.2.2.notBox HOB2.out (by decide)
  have HYN := hid (HL1.out.2.1.same hsm (fun g hg => by rintro rfl; exact hn1 hg))
  have HYV := hid (HL1.out.2.2.same hsm (fun g hg => by rintro rfl; exact hv1 hg))
  have HYB := hid (hsm.below HB1.out (fun i hi => by have := HB.out.size; simp; omega) HB1.out.size)
  have HYW : Hid (w1.heap.size ≤ Y.heap.size ∧ ∀ i, i < w.heap.size → some i ≠ (Value.slice l.na l.nn l.nc).ownBlock → some i ≠ (Value.slice l.va l.vn l.vc).ownBlock → Y.heap[i]? = w.heap[i]?) := hid ⟨hsm.size, fun i hi h1 h2 => (hsm.block i (by simp; omega) (by omega)).trans (HKW.out i hi h1 h2)⟩
  have HY0 := hid hy0; have HY1 := hid hy1; have HY2 := hid hy2; have HY3 := hid hy3
  have HNN := hid (⟨hn1, hn3, hv1, hv3, hv0, hv2⟩ : _ ∧ _ ∧ _ ∧ _ ∧ _ ∧ _)
  have hzY : w.heap.size + 4 ≤ Y.heap.size := by have := hsm.size; omega
  have HRTY := hid (HRT.out.below HYB.out rfl)
  have hve : l1.vn = s.vers.length := HL1.out.1.2.2.2.2.2
  have HVE := hid hve
  clear hsm hy0 hy1 hy2 hy3 hn1 hn3 hv1 hv3 hv0 hv2 HX0 HX1 HX2 HX3 HKW HB1 HOB0 HOB1 HOB2 HOB3 hve
  refine wp_region_ordC 8 [(0, 0), (1, 0), (2, 0), (3, 0), (4, 0), (5, 2), (6, 2), (7, 2), (8, 1), (9, 2)] (fun _ => True) (fun W' => Bx W' w.heap.size (cellsH h) ∧ Bx W' (w.heap.size + 1) (cellsLn l1) ∧ Bx W' (w.heap.size + 2) (cellsEv e)) (by kernel_rfl) (by kernel_rfl) (trivial) (⟨HY0.out.drew, HY1.out.drew, HY2.out.drew⟩) ?_
  repeat (first
    | (refine ordC_skip rfl rfl ?_; simp only [Act.put, List.setIfInBounds_toArray, List.set_cons_zero, List.set_cons_succ])
    | (refine ordC_skip1 rfl rfl ?_; simp only [Act.put, List.setIfInBounds_toArray, List.set_cons_zero, List.set_cons_succ])
    | (refine ordC_q rfl rfl ?_; apply Exists.intro; refine ⟨fun wS hS => ?_, ?_⟩; (go_simp; try with_reducible rfl); simp only [Act.put, List.setIfInBounds_toArray, List.set_cons_zero, List.set_cons_succ])
    | (refine ordC_p rfl rfl ?_; apply Exists.intro; refine ⟨fun wS hS => ?_, ?_⟩; (go_simp; try with_reducible rfl); simp only [Act.put, List.setIfInBounds_toArray, List.set_cons_zero, List.set_cons_succ]))
  refine ordC_l rfl rfl (fun K hK => ?_)
  go_simp
  refine (teller_told h e.v tn _ HRTY.out.drew (ver_told HV.out)).mono ?_
  rintro en Y2 ⟨rfl, hbt⟩
  rw [← HTO.out]
  have HBT := hid hbt
  refine hK _ _ ⟨trivial, HY0.out.drew.keep hbt, HY1.out.drew.keep hbt, HY2.out.drew.keep hbt⟩ ?_
  clear hK K hbt
  refine ordC_l rfl rfl (fun K hK => ?_)
  go_simp
  refine hK _ _ ⟨trivial, (HY0.out.drew.keep HBT.out).alloc _, (HY1.out.drew.keep HBT.out).alloc _, (HY2.out.drew.keep HBT.out).alloc _⟩ ?_
  clear hK K
  refine ordC_l rfl rfl (fun K hK => ?_)
  refine wp_app _ _ 39 rfl i z 24 Tryz.underlying39 HI.out.1 HI.out.2.1 HI.out.2.2.1 HI.out.2.2.2.1 HI.out.2.2.2.2 rfl (((HYV.out.drew.below HBT.out rfl).alloc _)) (some ⟨Y2.heap.size, 0, none⟩) 1 1 (s.vers.length + 1) [to] rfl (Row.toN rfl to) (rfl) (HN2.out) (HN3.out) (by have := HBT.out.size; have := HYB.out.size; simp; simp at *; omega) ?_
  intro a' c' w2 hown2 hg2 hat2
  have HA := hid hat2; have HG := hid hg2; have HW := hid hown2
  refine hK _ _ ⟨trivial, ((HY0.out.drew.keep HBT.out).alloc _).grown hg2 (HNN.out.2.2.2.2.1), ((HY1.out.drew.keep HBT.out).alloc _).grown hg2 (HNN.out.2.2.1), ((HY2.out.drew.keep HBT.out).alloc _).grown hg2 (HNN.out.2.2.2.2.2)⟩ ?_
  clear hK K hown2 hat2
  have hbl : Bx w2 (w.heap.size + 1) (cellsLn l1) := by
    refine Bx.grown ?_ hg2 HNN.out.2.2.1
    exact (HY1.out.drew.keep HBT.out).alloc _
  have hbr : Bx w2 (w.heap.size + 3) #[.int .i64 0, .slice none 0 0, .int .i64 0, .slice none 0 0, .bool false, .int .i64 0] := by
    refine Bx.grown ?_ hg2 HNN.out.2.2.2.1
    exact (HY3.out.drew.keep HBT.out).alloc _
  have hc1 := hbl.1; have hf1 := hbl.2.1; have hl1 := hbl.2.2; have hc3 := hbr.1; have hf3 := hbr.2.1; have hl3 := hbr.2.2
  have hY2 : Y.heap.size ≤ Y2.heap.size := HBT.out.size
  have hno2 : Own w2 w0.heap.size 9 1 encStr (.slice l1.na l1.nn l1.nc) (s.names ++ [x]) := ((HYN.out.drew.below HBT.out rfl).alloc _).grown hg2 (fun g hg e => (HYN.out.apart HYV.out (by decide)) g hg e)
  have hAv : ∀ g, (Value.slice a' (s.vers.length + 1) c').ownBlock = some g → g ≠ w.heap.size + 1 ∧ g ≠ w.heap.size + 3 := by
    intro g hg
    rcases HA.out with h1 | h1
    · have h2 := h1.symm.trans hg
      exact ⟨fun e => HNN.out.2.2.1 (e ▸ h2), fun e => HNN.out.2.2.2.1 (e ▸ h2)⟩
    · have h2 := h1.symm.trans hg; simp at h2; omega
  have hbe : Below w0.heap.size w0 w2 := below_app ((HYB.out.drew.trans (HBT.out.mono HYB.out.size)).alloc (Nat.le_trans HYB.out.size hY2) _) ((HYV.out.drew.below HBT.out rfl).alloc _) (Nat.le_refl _) (by have := HYB.out.size; simp; omega) hg2
  have hkw : Kept w l w2 := ⟨Nat.le_trans (by simp; omega) hg2.size, fun i hi h1 h2 => (hg2.block i (by simp; omega) (fun e => by
    rcases HGR.out i e.symm with h3 | h3
    · exact h2 h3.symm
    · omega)).trans ((Below.heap_alloc _ _ _ (by omega)).trans ((HBT.out.block i (by show i < Y.heap.size; omega)).trans (HYW.out.2 i hi h1 h2)))⟩
  have hgr : Grew w l { l1 with va := a', vn := s.vers.length + 1, vc := c' } := ⟨fun g hg => HGN.out g hg, fun g hg => by
    rcases HA.out with h1 | h1
    · exact HGR.out g (h1.symm.trans hg)
    · right; have h2 := h1.symm.trans hg; simp at h2; omega⟩
  have FIN : Hid (∀ W', Same (fun i => i ≠ w.heap.size + 1 ∧ i ≠ w.heap.size + 3) w2 W' → RetLn0 w0 w l { s with names := s.names ++ [x], vers := s.vers ++ [to] } (.returned (valLn { l1 with va := a', vn := s.vers.length + 1, vc := c' })) W') := hid (fun W' hs =>
    ⟨_, rfl, ⟨⟨HL1.out.1.1, HL1.out.1.2.1, HL1.out.1.2.2.1, HL1.out.1.2.2.2.1, HL1.out.1.2.2.2.2.1, by simp⟩, hno2.same hs (fun g hg => ⟨fun e => HNN.out.1 (e ▸ hg), fun e => HNN.out.2.1 (e ▸ hg)⟩), HW.out.same hs hAv⟩, hs.below hbe (fun i hi => by have := HB.out.size; constructor <;> omega) hbe.size,
      ⟨Nat.le_trans hkw.size hs.size, fun i hi h1 h2 => (hs.block i (by constructor <;> omega) (Nat.lt_of_lt_of_le hi hkw.size)).trans (hkw.block i hi h1 h2)⟩, hgr⟩)
  have HBL := hid hbl; have HBR := hid hbr; clear hbl hbr hg2 hno2 hAv hbe hkw hgr
  repeat (first
    | (refine ordC_skip rfl rfl ?_; simp only [Act.put, List.setIfInBounds_toArray, List.set_cons_zero, List.set_cons_succ])
    | (refine ordC_skip1 rfl rfl ?_; simp only [Act.put, List.setIfInBounds_toArray, List.set_cons_zero, List.set_cons_succ])
    | (refine ordC_q rfl rfl ?_; apply Exists.intro; refine ⟨fun wS hS => ?_, ?_⟩; (go_simp; try with_reducible rfl); simp only [Act.put, List.setIfInBounds_toArray, List.set_cons_zero, List.set_cons_succ])
    | (refine ordC_p rfl rfl ?_; apply Exists.intro; refine ⟨fun wS hS => ?_, ?_⟩; (go_simp; try with_reducible rfl); simp only [Act.put, List.setIfInBounds_toArray, List.set_cons_zero, List.set_cons_succ]))
  refine ordC_m rfl rfl rfl (fun K hK => ?_)
  go_simp
  refine hK _ _ trivial ?_
  clear hK K
  refine ordC_nil ?_
  go_wp2_with fail
  refine bodyPost_ret (v := valLn { l1 with va := a', vn := s.vers.length + 1, vc := c' }) (by simp [results, Tryz.results65, go_sem, hc3]) rfl (FIN.out _ ?_)
  repeat (first | (refine Same.setTail ?_ (by simp)) | (with_reducible exact Same.refl' _))
end Yd
