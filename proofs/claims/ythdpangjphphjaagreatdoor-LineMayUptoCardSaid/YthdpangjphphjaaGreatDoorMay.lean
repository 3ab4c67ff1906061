import Derived.Test.YthdpangjphphjaaGreatDoorOwn12
import Derived.Test.YthdpangjphphjaaGreatDoorOrdU
import Derived.Test.YthdpangjphphjaaGreatDoorLineK
import Derived.Test.YthdpangjphphjaaGreatDoorBldAt
import Derived.Test.YthdpangjphphjaaGreatDoorLx
import Derived.Test.YthdpangjphphjaaGreatDoorRRx
import Derived.Test.YthdpangjphphjaaGreatDoorWk12
import Derived.Test.YthdpangjphphjaaGreatDoorProg
set_option maxRecDepth 200000
set_option maxHeartbeats 8000000
namespace Yd
open Go Go.RowKit Go.Proofs
attribute [local go_sem] Oper.semAt_some

@[reducible] def zeroL : Array Value := #[.int .i64 0, .slice none 0 0, .int .i64 0, .slice none 0 0, .bool false, .int .i64 0]
def set6 (w : World) (g : Nat) (c : LnC) : World := (((((w.setCell ⟨g, 0, none⟩ (.int .i64 c.kind)).setCell ⟨g, 1, none⟩ (.slice c.na c.nn c.nc)).setCell ⟨g, 2, none⟩ (.int .i64 c.lvl)).setCell ⟨g, 3, none⟩ (.slice c.va c.vn c.vc)).setCell ⟨g, 4, none⟩ (.bool c.first)).setCell ⟨g, 5, none⟩ (.int .i64 c.bits)
theorem set6_bx {w : World} {g : Nat} (h : Bx w g zeroL) (c : LnC) : Bx (set6 w g c) g (cellsLn c) := (((((h.setC 0 (by simp) _).setC 1 (by simp) _).setC 2 (by simp) _).setC 3 (by simp) _).setC 4 (by simp) _).setC 5 (by simp) _
theorem set6_same (w : World) (g : Nat) (c : LnC) : Same (fun i => i ≠ g) w (set6 w g c) :=
 (((((Same.setCell _ _ _ _ (by simp)).tr (Same.setCell _ _ _ _ (by simp))).tr (Same.setCell _ _ _ _ (by simp))).tr (Same.setCell _ _ _ _ (by simp))).tr (Same.setCell _ _ _ _ (by simp))).tr (Same.setCell _ _ _ _ (by simp))
theorem set6_tag {w : World} {g i : Nat} {c : LnC} {o : Obj} (h : w.heap[i]? = some o) (hi : i ≠ g) (hl : i < w.heap.size) : (set6 w g c).heap[i]? = some o := by
 rw [(set6_same w g c).block i hi hl]; exact h
theorem LnAt.apart6 {w : World} {B g : Nat} {l c : LnC} {s : LnS} (h : LnAt w B l s) (hg : ∃ cs fz, w.heap[g]? = some (.cells cs 28 fz)) : LnAt (set6 w g c) B l s :=
 ⟨h.1, h.2.1.apartBox hg (by decide) (set6_same w g c), h.2.2.apartBox hg (by decide) (set6_same w g c)⟩
theorem tag_lt {w : World} {g : Nat} {o : Obj} (h : w.heap[g]? = some o) : g < w.heap.size := (Array.getElem?_eq_some_iff.1 h).1
theorem bx_of_tag {w : World} {g : Nat} {cs : Array Value} {T : TypeId} (h : w.heap[g]? = some (.cells cs T (0, 0))) : Bx w g cs :=
 ⟨fun i => by unfold World.cell?; simp [h], fun i => by unfold World.frozen?; simp only [h]; simp, tag_lt h⟩
structure StM (w0 w : World) (x y : LnC) (s t : LnS) (d1 d3 : Option LnC) (d4 d5 : Option Nat) : Prop where
 a : Bx w w0.heap.size (cellsLn x)
 b : Bx w (w0.heap.size + 1) (cellsLn y)
 r1 : ∀ c, d1 = some c → LnAt w (w0.heap.size + 2) c s
 r3 : ∀ c, d3 = some c → LnAt w (w0.heap.size + 2) c t
 r4 : ∀ g, d4 = some g → w.heap[g]? = some (.cells zeroL 28 (0, 0)) ∧ w0.heap.size + 2 ≤ g
 r5 : ∀ g, d5 = some g → w.heap[g]? = some (.cells zeroL 28 (0, 0)) ∧ w0.heap.size + 2 ≤ g
 ne : ∀ g g', d4 = some g → d5 = some g' → g ≠ g'
 bl : Below w0.heap.size w0 w
 sz : w0.heap.size + 2 ≤ w.heap.size
section
variable {w0 w w' : World} {x y : LnC} {s t : LnS} {d1 d3 : Option LnC} {d4 d5 : Option Nat}
theorem StM.call (h : StM w0 w x y s t d1 d3 d4 d5) (hb : Below w.heap.size w w') : StM w0 w' x y s t d1 d3 d4 d5 :=
 ⟨h.a.keep hb, h.b.keep hb, fun c e => (h.r1 c e).below hb, fun c e => (h.r3 c e).below hb, fun g e => ⟨(hb.block g (tag_lt (h.r4 g e).1)).trans (h.r4 g e).1, (h.r4 g e).2⟩, fun g e => ⟨(hb.block g (tag_lt (h.r5 g e).1)).trans (h.r5 g e).1, (h.r5 g e).2⟩, h.ne, h.bl.trans (hb.mono h.bl.size), Nat.le_trans h.sz hb.size⟩
theorem StM.own1 {c : LnC} (h : StM w0 w x y s t none d3 d4 d5) (hl : LnAt w' w.heap.size c s) (hb : Below w.heap.size w w') : StM w0 w' x y s t (some c) d3 d4 d5 :=
 let k := h.call hb
 ⟨k.a, k.b, fun c' e => by injection e with e; subst e; exact hl.mono h.sz, k.r3, k.r4, k.r5, k.ne, k.bl, k.sz⟩
theorem StM.own3 {c : LnC} (h : StM w0 w x y s t d1 none d4 d5) (hl : LnAt w' w.heap.size c t) (hb : Below w.heap.size w w') : StM w0 w' x y s t d1 (some c) d4 d5 :=
 let k := h.call hb
 ⟨k.a, k.b, k.r1, fun c' e => by injection e with e; subst e; exact hl.mono h.sz, k.r4, k.r5, k.ne, k.bl, k.sz⟩
theorem StM.al4 (h : StM w0 w x y s t d1 d3 none d5) : StM w0 (w.alloc (.cells zeroL 28)) x y s t d1 d3 (some w.heap.size) d5 :=
 let k := h.call (belowA (Below.refl w.heap.size w) (.cells zeroL 28))
 ⟨k.a, k.b, k.r1, k.r3, fun g e => by injection e with e; subst e; exact ⟨alloc_new w _, h.sz⟩, k.r5, fun g g' e e' => by injection e with e; subst e; have := tag_lt (h.r5 g' e').1; omega, k.bl, k.sz⟩
theorem StM.al5 (h : StM w0 w x y s t d1 d3 d4 none) : StM w0 (w.alloc (.cells zeroL 28)) x y s t d1 d3 d4 (some w.heap.size) :=
 let k := h.call (belowA (Below.refl w.heap.size w) (.cells zeroL 28))
 ⟨k.a, k.b, k.r1, k.r3, k.r4, fun g e => by injection e with e; subst e; exact ⟨alloc_new w _, h.sz⟩, fun g g' e e' => by injection e' with e'; subst e'; have := tag_lt (h.r4 g e).1; omega, k.bl, k.sz⟩
end
structure StE (w0 w : World) (x y : LnC) (s t : LnS) (ca cb : LnC) (g k : Nat) : Prop where
 a : Bx w w0.heap.size (cellsLn x)
 b : Bx w (w0.heap.size + 1) (cellsLn y)
 r1 : LnAt w (w0.heap.size + 2) ca s
 r3 : LnAt w (w0.heap.size + 2) cb t
 z4 : Bx w g (cellsLn ca)
 z5 : Bx w k (cellsLn cb)
 bl : Below w0.heap.size w0 w
section
variable {w0 w w' : World} {x y ca cb : LnC} {s t : LnS} {g k : Nat}
theorem StE.call (h : StE w0 w x y s t ca cb g k) (hb : Below w.heap.size w w') : StE w0 w' x y s t ca cb g k :=
 ⟨h.a.keep hb, h.b.keep hb, h.r1.below hb, h.r3.below hb, h.z4.keep hb, h.z5.keep hb, h.bl.trans (hb.mono h.bl.size)⟩
theorem StE.drew (h : StE w0 w x y s t ca cb g k) : StE w0 w.drew x y s t ca cb g k := h.call (Below.refl _ _).drew
theorem StM.fin (h : StM w0 w x y s t (some ca) (some cb) (some g) (some k)) : StE w0 (set6 (set6 w g ca) k cb) x y s t ca cb g k := by
 have h4 := h.r4 g rfl; have h5 := h.r5 k rfl; have hne := h.ne g k rfl rfl
 have e := tag_lt h4.1; have e' := tag_lt h5.1
 have s1 := set6_same w g ca; have s2 := set6_same (set6 w g ca) k cb
 have t5 : (set6 w g ca).heap[k]? = some (.cells zeroL 28 (0, 0)) := set6_tag h5.1 (Ne.symm hne) e'
 have hz := h.sz
 refine ⟨s2.bx (s1.bx h.a (by omega)) (by omega), s2.bx (s1.bx h.b (by omega)) (by omega), ((h.r1 ca rfl).apart6 ⟨_, _, h4.1⟩).apart6 ⟨_, _, t5⟩, ((h.r3 cb rfl).apart6 ⟨_, _, h4.1⟩).apart6 ⟨_, _, t5⟩, s2.bx (set6_bx (bx_of_tag h4.1) ca) hne, set6_bx (bx_of_tag t5) cb, ?_⟩
 exact ⟨s2.os.trans (s1.os.trans h.bl.os), s2.tape.trans (s1.tape.trans h.bl.tape), s2.output.trans (s1.output.trans h.bl.output), Nat.le_trans h.bl.size (Nat.le_trans s1.size s2.size), fun i hi => by
   rw [s2.block i (by omega) (by have := s1.size; omega), s1.block i (by omega) (by omega)]; exact h.bl.block i hi⟩
end

theorem law_may (x y : LnC) (s t : LnS) (w : World) (hx : LnIn w x s) (hy : LnIn w y t) (hT : Lib.Utf8Tabs 2 3 w) (hE : GlobE w) (hL : GlobL w) :
   Calls Tryz.prog 4 #[valLn x, valLn y] w (Ret (.bool true) w) := by
 have hb0 := belowA (belowA (Below.refl w.heap.size w) (.cells (cellsLn x) 28)) (.cells (cellsLn y) 28)
 have HA := hid (Bx.new w (cellsLn x) 28 |>.alloc (.cells (cellsLn y) 28)); have HBB : Hid (Bx ((w.alloc (.cells (cellsLn x) 28)).alloc (.cells (cellsLn y) 28)) (w.heap.size + 1) (cellsLn y)) := hid (Bx.new1 (by simp))
 have HB0 := hid hb0; have HL := hid hL
 have HWK := hid (wakes12 _ (Utf8Tabs_below hT hb0) (hE.below hb0) (hL.below hb0))
 have HOX := hid (fun W (hb : Below w.heap.size w W) => own12 (hx.below hb)); have HOY := hid (fun W (hb : Below w.heap.size w W) => own12 (hy.below hb))
 have hsz : w.heap.size + 2 ≤ ((w.alloc (.cells (cellsLn x) 28)).alloc (.cells (cellsLn y) 28)).heap.size := by simp
 have HSZ := hid hsz
 clear hT hE hL hb0 hx hy hsz
 go_enter Tryz.func4, Tryz.ntmps4
 go_wp2_with fail
 refine HWK.out.mono ?_
 rintro e w1 ⟨rfl, hb1⟩
 have HST : Hid (StM w w1 x y (cutL s) (cutL t) none none none none) := hid ⟨HA.out.keep hb1, HBB.out.keep hb1, (fun _ e => nomatch e), (fun _ e => nomatch e), (fun _ e => nomatch e), (fun _ e => nomatch e), (fun _ _ e => nomatch e), HB0.out.trans (hb1.mono HB0.out.size), Nat.le_trans HSZ.out hb1.size⟩
 clear hb1
 go_wp2_with fail
 refine wp_mono (Q := fun e a W => e = .normal ∧ ∃ (ca cb : LnC) (g k : Nat), a = { tmps := #[valLn x, valLn y, .pointer (some ⟨w.heap.size, 0, none⟩), .pointer (some ⟨w.heap.size + 1, 0, none⟩), .bool false, .pointer (some ⟨g, 0, none⟩), .pointer (some ⟨k, 0, none⟩), undef, undef, undef, undef, undef, undef, .bool true, .bool false, valLn x, valLn ca, valLn y, valLn cb, undef, undef, undef, undef, undef, undef, undef, undef, undef, undef, undef, undef, undef, undef, undef, undef, undef, undef, undef, undef, undef, undef, undef, undef, undef, undef, undef, undef, undef, undef, undef, undef, undef, undef, undef, undef, undef, undef, undef, undef, undef, undef, undef, undef, undef], defers := [] } ∧ StE w W x y (cutL s) (cutL t) ca cb g k) ?_ ?_
 · refine wp_region_ordU 99 (.q 0 0 (.q 2 0 (.alt3 1 (.alt3 3 (.alt 4 (.l 5 (.l 6 (.l 7 .nil))) 5 (.l 4 (.l 6 (.l 7 .nil)))) 4 (.alt 3 (.l 5 (.l 6 (.l 7 .nil))) 5 (.l 3 (.l 6 (.l 7 .nil)))) 5 (.alt 3 (.l 4 (.l 6 (.l 7 .nil))) 4 (.l 3 (.l 6 (.l 7 .nil))))) 4 (.alt 1 (.alt 3 (.l 5 (.l 6 (.l 7 .nil))) 5 (.l 3 (.l 6 (.l 7 .nil)))) 5 (.l 1 (.l 3 (.l 6 (.l 7 .nil))))) 5 (.alt 1 (.alt 3 (.l 4 (.l 6 (.l 7 .nil))) 4 (.l 3 (.l 6 (.l 7 .nil)))) 4 (.l 1 (.l 3 (.l 6 (.l 7 .nil)))))))) (fun _ => True) (fun W' => Bx W' w.heap.size (cellsLn x) ∧ Bx W' (w.heap.size + 1) (cellsLn y)) (by kernel_rfl) (by kernel_rfl) trivial ⟨HST.out.a, HST.out.b⟩ ?_
   repeat ((first | refine ordU_q rfl rfl ?_ | refine ordU_p rfl rfl ?_); apply Exists.intro; refine ⟨fun wS hS => ?_, ?_⟩; (go_simp; try with_reducible rfl); simp only [Act.put, List.setIfInBounds_toArray, List.set_cons_zero, List.set_cons_succ])
   have HS0 : Hid (StM w w1.drew x y (cutL s) (cutL t) none none none none) := hid (HST.out.call (Below.refl _ _).drew)
   have hw0 : ∃ W0 : World, W0 = w1.drew := ⟨_, rfl⟩
   obtain ⟨W0, hW0⟩ := hw0
   rw [← hW0] at HS0 ⊢
   clear hW0
   refine ⟨?_, ?_, ?_⟩
   · skip
     refine ordU_one rfl rfl (fun K hK => ?_)
     go_simp
     refine (HOX.out _ HS0.out.bl).mono ?_
     rintro e W1 ⟨ca, rfl, hl, hb⟩
     have HS1 := hid (HS0.out.own1 hl hb)
     refine hK _ _ ⟨trivial, HS1.out.a, HS1.out.b⟩ ?_
     clear hK K hl hb
     refine ⟨?_, ?_, ?_⟩
     · skip
       refine ordU_one rfl rfl (fun K hK => ?_)
       go_simp
       refine (HOY.out _ HS1.out.bl).mono ?_
       rintro e W2 ⟨cb, rfl, hl, hb⟩
       have HS2 := hid (HS1.out.own3 hl hb)
       refine hK _ _ ⟨trivial, HS2.out.a, HS2.out.b⟩ ?_
       clear hK K hl hb
       refine ⟨?_, ?_⟩
       · skip
         refine ordU_one rfl rfl (fun K hK => ?_)
         go_simp
         have HS3 := hid (HS2.out.al4)
         obtain ⟨W3, hW3⟩ : ∃ W' : World, W' = W2.alloc (.cells zeroL 28) := ⟨_, rfl⟩
         rw [← hW3] at HS3 ⊢
         refine hK _ _ ⟨trivial, HS3.out.a, HS3.out.b⟩ ?_
         clear hK K hW3
         refine ordU_l rfl rfl (fun K hK => ?_)
         go_simp
         have HS4 := hid (HS3.out.al5)
         obtain ⟨W4, hW4⟩ : ∃ W' : World, W' = W3.alloc (.cells zeroL 28) := ⟨_, rfl⟩
         rw [← hW4] at HS4 ⊢
         refine hK _ _ ⟨trivial, HS4.out.a, HS4.out.b⟩ ?_
         clear hK K hW4
         have h4 := HS4.out.r4 _ rfl; have h5 := HS4.out.r5 _ rfl; have hne := HS4.out.ne _ _ rfl rfl; have hzz := HS4.out.sz
         have hx4 := bx_of_tag h4.1
         have HT5 := hid (set6_tag (c := ca) h5.1 (Ne.symm hne) (tag_lt h5.1))
         have HG4 := hid h4; have HG5 := hid h5; have HNE := hid hne; have HZZ := hid hzz
         have hc4 := hx4.1; have hf4 := hx4.2.1
         clear h4 h5 hne hx4 hzz
         refine ordU_l rfl rfl (fun K hK => ?_)
         go_simp
         have hS6 : Bx (set6 W4 W2.heap.size ca) w.heap.size (cellsLn x) ∧ Bx (set6 W4 W2.heap.size ca) (w.heap.size + 1) (cellsLn y) := ⟨(set6_same _ _ _).bx HS4.out.a (by have := HG4.out.2; omega), (set6_same _ _ _).bx HS4.out.b (by have := HG4.out.2; omega)⟩
         have HSX := hid hS6
         refine hK _ (set6 W4 W2.heap.size ca) ⟨trivial, HSX.out⟩ ?_
         clear hK K hc4 hf4 hS6
         have hx5 := bx_of_tag HT5.out
         have hc5 := hx5.1; have hf5 := hx5.2.1
         clear hx5
         refine ordU_l rfl rfl (fun K hK => ?_)
         go_simp
         refine hK _ (set6 (set6 W4 W2.heap.size ca) W3.heap.size cb) ⟨trivial, (set6_same _ _ _).bx HSX.out.1 (by have := HG5.out.2; omega), (set6_same _ _ _).bx HSX.out.2 (by have := HG5.out.2; omega)⟩ ?_
         clear hK K hc5 hf5
         refine ordU_nil ?_
         exact ⟨rfl, ca, cb, _, _, rfl, HS4.out.fin⟩
       · skip
         refine ordU_one rfl rfl (fun K hK => ?_)
         go_simp
         have HS5 := hid (HS2.out.al5)
         obtain ⟨W5, hW5⟩ : ∃ W' : World, W' = W2.alloc (.cells zeroL 28) := ⟨_, rfl⟩
         rw [← hW5] at HS5 ⊢
         refine hK _ _ ⟨trivial, HS5.out.a, HS5.out.b⟩ ?_
         clear hK K hW5
         refine ordU_l rfl rfl (fun K hK => ?_)
         go_simp
         have HS6 := hid (HS5.out.al4)
         obtain ⟨W6, hW6⟩ : ∃ W' : World, W' = W5.alloc (.cells zeroL 28) := ⟨_, rfl⟩
         rw [← hW6] at HS6 ⊢
         refine hK _ _ ⟨trivial, HS6.out.a, HS6.out.b⟩ ?_
         clear hK K hW6
         have h4 := HS6.out.r4 _ rfl; have h5 := HS6.out.r5 _ rfl; have hne := HS6.out.ne _ _ rfl rfl; have hzz := HS6.out.sz
         have hx4 := bx_of_tag h4.1
         have HT5 := hid (set6_tag (c := ca) h5.1 (Ne.symm hne) (tag_lt h5.1))
         have HG4 := hid h4; have HG5 := hid h5; have HNE := hid hne; have HZZ := hid hzz
         have hc4 := hx4.1; have hf4 := hx4.2.1
         clear h4 h5 hne hx4 hzz
         refine ordU_l rfl rfl (fun K hK => ?_)
         go_simp
         have hS6 : Bx (set6 W6 W5.heap.size ca) w.heap.size (cellsLn x) ∧ Bx (set6 W6 W5.heap.size ca) (w.heap.size + 1) (cellsLn y) := ⟨(set6_same _ _ _).bx HS6.out.a (by have := HG4.out.2; omega), (set6_same _ _ _).bx HS6.out.b (by have := HG4.out.2; omega)⟩
         have HSX := hid hS6
         refine hK _ (set6 W6 W5.heap.size ca) ⟨trivial, HSX.out⟩ ?_
         clear hK K hc4 hf4 hS6
         have hx5 := bx_of_tag HT5.out
         have hc5 := hx5.1; have hf5 := hx5.2.1
         clear hx5
         refine ordU_l rfl rfl (fun K hK => ?_)
         go_simp
         refine hK _ (set6 (set6 W6 W5.heap.size ca) W2.heap.size cb) ⟨trivial, (set6_same _ _ _).bx HSX.out.1 (by have := HG5.out.2; omega), (set6_same _ _ _).bx HSX.out.2 (by have := HG5.out.2; omega)⟩ ?_
         clear hK K hc5 hf5
         refine ordU_nil ?_
         exact ⟨rfl, ca, cb, _, _, rfl, HS6.out.fin⟩
     · skip
       refine ordU_one rfl rfl (fun K hK => ?_)
       go_simp
       have HS7 := hid (HS1.out.al4)
       obtain ⟨W7, hW7⟩ : ∃ W' : World, W' = W1.alloc (.cells zeroL 28) := ⟨_, rfl⟩
       rw [← hW7] at HS7 ⊢
       refine hK _ _ ⟨trivial, HS7.out.a, HS7.out.b⟩ ?_
       clear hK K hW7
       refine ⟨?_, ?_⟩
       · skip
         refine ordU_one rfl rfl (fun K hK => ?_)
         go_simp
         refine (HOY.out _ HS7.out.bl).mono ?_
         rintro e W8 ⟨cb, rfl, hl, hb⟩
         have HS8 := hid (HS7.out.own3 hl hb)
         refine hK _ _ ⟨trivial, HS8.out.a, HS8.out.b⟩ ?_
         clear hK K hl hb
         refine ordU_l rfl rfl (fun K hK => ?_)
         go_simp
         have HS9 := hid (HS8.out.al5)
         obtain ⟨W9, hW9⟩ : ∃ W' : World, W' = W8.alloc (.cells zeroL 28) := ⟨_, rfl⟩
         rw [← hW9] at HS9 ⊢
         refine hK _ _ ⟨trivial, HS9.out.a, HS9.out.b⟩ ?_
         clear hK K hW9
         have h4 := HS9.out.r4 _ rfl; have h5 := HS9.out.r5 _ rfl; have hne := HS9.out.ne _ _ rfl rfl; have hzz := HS9.out.sz
         have hx4 := bx_of_tag h4.1
         have HT5 := hid (set6_tag (c := ca) h5.1 (Ne.symm hne) (tag_lt h5.1))
         have HG4 := hid h4; have HG5 := hid h5; have HNE := hid hne; have HZZ := hid hzz
         have hc4 := hx4.1; have hf4 := hx4.2.1
         clear h4 h5 hne hx4 hzz
         refine ordU_l rfl rfl (fun K hK => ?_)
         go_simp
         have hS6 : Bx (set6 W9 W1.heap.size ca) w.heap.size (cellsLn x) ∧ Bx (set6 W9 W1.heap.size ca) (w.heap.size + 1) (cellsLn y) := ⟨(set6_same _ _ _).bx HS9.out.a (by have := HG4.out.2; omega), (set6_same _ _ _).bx HS9.out.b (by have := HG4.out.2; omega)⟩
         have HSX := hid hS6
         refine hK _ (set6 W9 W1.heap.size ca) ⟨trivial, HSX.out⟩ ?_
         clear hK K hc4 hf4 hS6
         have hx5 := bx_of_tag HT5.out
         have hc5 := hx5.1; have hf5 := hx5.2.1
         clear hx5
         refine ordU_l rfl rfl (fun K hK => ?_)
         go_simp
         refine hK _ (set6 (set6 W9 W1.heap.size ca) W8.heap.size cb) ⟨trivial, (set6_same _ _ _).bx HSX.out.1 (by have := HG5.out.2; omega), (set6_same _ _ _).bx HSX.out.2 (by have := HG5.out.2; omega)⟩ ?_
         clear hK K hc5 hf5
         refine ordU_nil ?_
         exact ⟨rfl, ca, cb, _, _, rfl, HS9.out.fin⟩
       · skip
         refine ordU_one rfl rfl (fun K hK => ?_)
         go_simp
         have HS10 := hid (HS7.out.al5)
         obtain ⟨W10, hW10⟩ : ∃ W' : World, W' = W7.alloc (.cells zeroL 28) := ⟨_, rfl⟩
         rw [← hW10] at HS10 ⊢
         refine hK _ _ ⟨trivial, HS10.out.a, HS10.out.b⟩ ?_
         clear hK K hW10
         refine ordU_l rfl rfl (fun K hK => ?_)
         go_simp
         refine (HOY.out _ HS10.out.bl).mono ?_
         rintro e W11 ⟨cb, rfl, hl, hb⟩
         have HS11 := hid (HS10.out.own3 hl hb)
         refine hK _ _ ⟨trivial, HS11.out.a, HS11.out.b⟩ ?_
         clear hK K hl hb
         have h4 := HS11.out.r4 _ rfl; have h5 := HS11.out.r5 _ rfl; have hne := HS11.out.ne _ _ rfl rfl; have hzz := HS11.out.sz
         have hx4 := bx_of_tag h4.1
         have HT5 := hid (set6_tag (c := ca) h5.1 (Ne.symm hne) (tag_lt h5.1))
         have HG4 := hid h4; have HG5 := hid h5; have HNE := hid hne; have HZZ := hid hzz
         have hc4 := hx4.1; have hf4 := hx4.2.1
         clear h4 h5 hne hx4 hzz
         refine ordU_l rfl rfl (fun K hK => ?_)
         go_simp
         have hS6 : Bx (set6 W11 W1.heap.size ca) w.heap.size (cellsLn x) ∧ Bx (set6 W11 W1.heap.size ca) (w.heap.size + 1) (cellsLn y) := ⟨(set6_same _ _ _).bx HS11.out.a (by have := HG4.out.2; omega), (set6_same _ _ _).bx HS11.out.b (by have := HG4.out.2; omega)⟩
         have HSX := hid hS6
         refine hK _ (set6 W11 W1.heap.size ca) ⟨trivial, HSX.out⟩ ?_
         clear hK K hc4 hf4 hS6
         have hx5 := bx_of_tag HT5.out
         have hc5 := hx5.1; have hf5 := hx5.2.1
         clear hx5
         refine ordU_l rfl rfl (fun K hK => ?_)
         go_simp
         refine hK _ (set6 (set6 W11 W1.heap.size ca) W7.heap.size cb) ⟨trivial, (set6_same _ _ _).bx HSX.out.1 (by have := HG5.out.2; omega), (set6_same _ _ _).bx HSX.out.2 (by have := HG5.out.2; omega)⟩ ?_
         clear hK K hc5 hf5
         refine ordU_nil ?_
         exact ⟨rfl, ca, cb, _, _, rfl, HS11.out.fin⟩
     · skip
       refine ordU_one rfl rfl (fun K hK => ?_)
       go_simp
       have HS12 := hid (HS1.out.al5)
       obtain ⟨W12, hW12⟩ : ∃ W' : World, W' = W1.alloc (.cells zeroL 28) := ⟨_, rfl⟩
       rw [← hW12] at HS12 ⊢
       refine hK _ _ ⟨trivial, HS12.out.a, HS12.out.b⟩ ?_
       clear hK K hW12
       refine ⟨?_, ?_⟩
       · skip
         refine ordU_one rfl rfl (fun K hK => ?_)
         go_simp
         refine (HOY.out _ HS12.out.bl).mono ?_
         rintro e W13 ⟨cb, rfl, hl, hb⟩
         have HS13 := hid (HS12.out.own3 hl hb)
         refine hK _ _ ⟨trivial, HS13.out.a, HS13.out.b⟩ ?_
         clear hK K hl hb
         refine ordU_l rfl rfl (fun K hK => ?_)
         go_simp
         have HS14 := hid (HS13.out.al4)
         obtain ⟨W14, hW14⟩ : ∃ W' : World, W' = W13.alloc (.cells zeroL 28) := ⟨_, rfl⟩
         rw [← hW14] at HS14 ⊢
         refine hK _ _ ⟨trivial, HS14.out.a, HS14.out.b⟩ ?_
         clear hK K hW14
         have h4 := HS14.out.r4 _ rfl; have h5 := HS14.out.r5 _ rfl; have hne := HS14.out.ne _ _ rfl rfl; have hzz := HS14.out.sz
         have hx4 := bx_of_tag h4.1
         have HT5 := hid (set6_tag (c := ca) h5.1 (Ne.symm hne) (tag_lt h5.1))
         have HG4 := hid h4; have HG5 := hid h5; have HNE := hid hne; have HZZ := hid hzz
         have hc4 := hx4.1; have hf4 := hx4.2.1
         clear h4 h5 hne hx4 hzz
         refine ordU_l rfl rfl (fun K hK => ?_)
         go_simp
         have hS6 : Bx (set6 W14 W13.heap.size ca) w.heap.size (cellsLn x) ∧ Bx (set6 W14 W13.heap.size ca) (w.heap.size + 1) (cellsLn y) := ⟨(set6_same _ _ _).bx HS14.out.a (by have := HG4.out.2; omega), (set6_same _ _ _).bx HS14.out.b (by have := HG4.out.2; omega)⟩
         have HSX := hid hS6
         refine hK _ (set6 W14 W13.heap.size ca) ⟨trivial, HSX.out⟩ ?_
         clear hK K hc4 hf4 hS6
         have hx5 := bx_of_tag HT5.out
         have hc5 := hx5.1; have hf5 := hx5.2.1
         clear hx5
         refine ordU_l rfl rfl (fun K hK => ?_)
         go_simp
         refine hK _ (set6 (set6 W14 W13.heap.size ca) W1.heap.size cb) ⟨trivial, (set6_same _ _ _).bx HSX.out.1 (by have := HG5.out.2; omega), (set6_same _ _ _).bx HSX.out.2 (by have := HG5.out.2; omega)⟩ ?_
         clear hK K hc5 hf5
         refine ordU_nil ?_
         exact ⟨rfl, ca, cb, _, _, rfl, HS14.out.fin⟩
       · skip
         refine ordU_one rfl rfl (fun K hK => ?_)
         go_simp
         have HS15 := hid (HS12.out.al4)
         obtain ⟨W15, hW15⟩ : ∃ W' : World, W' = W12.alloc (.cells zeroL 28) := ⟨_, rfl⟩
         rw [← hW15] at HS15 ⊢
         refine hK _ _ ⟨trivial, HS15.out.a, HS15.out.b⟩ ?_
         clear hK K hW15
         refine ordU_l rfl rfl (fun K hK => ?_)
         go_simp
         refine (HOY.out _ HS15.out.bl).mono ?_
         rintro e W16 ⟨cb, rfl, hl, hb⟩
         have HS16 := hid (HS15.out.own3 hl hb)
         refine hK _ _ ⟨trivial, HS16.out.a, HS16.out.b⟩ ?_
         clear hK K hl hb
         have h4 := HS16.out.r4 _ rfl; have h5 := HS16.out.r5 _ rfl; have hne := HS16.out.ne _ _ rfl rfl; have hzz := HS16.out.sz
         have hx4 := bx_of_tag h4.1
         have HT5 := hid (set6_tag (c := ca) h5.1 (Ne.symm hne) (tag_lt h5.1))
         have HG4 := hid h4; have HG5 := hid h5; have HNE := hid hne; have HZZ := hid hzz
         have hc4 := hx4.1; have hf4 := hx4.2.1
         clear h4 h5 hne hx4 hzz
         refine ordU_l rfl rfl (fun K hK => ?_)
         go_simp
         have hS6 : Bx (set6 W16 W12.heap.size ca) w.heap.size (cellsLn x) ∧ Bx (set6 W16 W12.heap.size ca) (w.heap.size + 1) (cellsLn y) := ⟨(set6_same _ _ _).bx HS16.out.a (by have := HG4.out.2; omega), (set6_same _ _ _).bx HS16.out.b (by have := HG4.out.2; omega)⟩
         have HSX := hid hS6
         refine hK _ (set6 W16 W12.heap.size ca) ⟨trivial, HSX.out⟩ ?_
         clear hK K hc4 hf4 hS6
         have hx5 := bx_of_tag HT5.out
         have hc5 := hx5.1; have hf5 := hx5.2.1
         clear hx5
         refine ordU_l rfl rfl (fun K hK => ?_)
         go_simp
         refine hK _ (set6 (set6 W16 W12.heap.size ca) W1.heap.size cb) ⟨trivial, (set6_same _ _ _).bx HSX.out.1 (by have := HG5.out.2; omega), (set6_same _ _ _).bx HSX.out.2 (by have := HG5.out.2; omega)⟩ ?_
         clear hK K hc5 hf5
         refine ordU_nil ?_
         exact ⟨rfl, ca, cb, _, _, rfl, HS16.out.fin⟩
   · skip
     refine ordU_one rfl rfl (fun K hK => ?_)
     go_simp
     have HS17 := hid (HS0.out.al4)
     obtain ⟨W17, hW17⟩ : ∃ W' : World, W' = W0.alloc (.cells zeroL 28) := ⟨_, rfl⟩
     rw [← hW17] at HS17 ⊢
     refine hK _ _ ⟨trivial, HS17.out.a, HS17.out.b⟩ ?_
     clear hK K hW17
     refine ⟨?_, ?_⟩
     · skip
       refine ordU_one rfl rfl (fun K hK => ?_)
       go_simp
       refine (HOX.out _ HS17.out.bl).mono ?_
       rintro e W18 ⟨ca, rfl, hl, hb⟩
       have HS18 := hid (HS17.out.own1 hl hb)
       refine hK _ _ ⟨trivial, HS18.out.a, HS18.out.b⟩ ?_
       clear hK K hl hb
       refine ⟨?_, ?_⟩
       · skip
         refine ordU_one rfl rfl (fun K hK => ?_)
         go_simp
         refine (HOY.out _ HS18.out.bl).mono ?_
         rintro e W19 ⟨cb, rfl, hl, hb⟩
         have HS19 := hid (HS18.out.own3 hl hb)
         refine hK _ _ ⟨trivial, HS19.out.a, HS19.out.b⟩ ?_
         clear hK K hl hb
         refine ordU_l rfl rfl (fun K hK => ?_)
         go_simp
         have HS20 := hid (HS19.out.al5)
         obtain ⟨W20, hW20⟩ : ∃ W' : World, W' = W19.alloc (.cells zeroL 28) := ⟨_, rfl⟩
         rw [← hW20] at HS20 ⊢
         refine hK _ _ ⟨trivial, HS20.out.a, HS20.out.b⟩ ?_
         clear hK K hW20
         have h4 := HS20.out.r4 _ rfl; have h5 := HS20.out.r5 _ rfl; have hne := HS20.out.ne _ _ rfl rfl; have hzz := HS20.out.sz
         have hx4 := bx_of_tag h4.1
         have HT5 := hid (set6_tag (c := ca) h5.1 (Ne.symm hne) (tag_lt h5.1))
         have HG4 := hid h4; have HG5 := hid h5; have HNE := hid hne; have HZZ := hid hzz
         have hc4 := hx4.1; have hf4 := hx4.2.1
         clear h4 h5 hne hx4 hzz
         refine ordU_l rfl rfl (fun K hK => ?_)
         go_simp
         have hS6 : Bx (set6 W20 W0.heap.size ca) w.heap.size (cellsLn x) ∧ Bx (set6 W20 W0.heap.size ca) (w.heap.size + 1) (cellsLn y) := ⟨(set6_same _ _ _).bx HS20.out.a (by have := HG4.out.2; omega), (set6_same _ _ _).bx HS20.out.b (by have := HG4.out.2; omega)⟩
         have HSX := hid hS6
         refine hK _ (set6 W20 W0.heap.size ca) ⟨trivial, HSX.out⟩ ?_
         clear hK K hc4 hf4 hS6
         have hx5 := bx_of_tag HT5.out
         have hc5 := hx5.1; have hf5 := hx5.2.1
         clear hx5
         refine ordU_l rfl rfl (fun K hK => ?_)
         go_simp
         refine hK _ (set6 (set6 W20 W0.heap.size ca) W19.heap.size cb) ⟨trivial, (set6_same _ _ _).bx HSX.out.1 (by have := HG5.out.2; omega), (set6_same _ _ _).bx HSX.out.2 (by have := HG5.out.2; omega)⟩ ?_
         clear hK K hc5 hf5
         refine ordU_nil ?_
         exact ⟨rfl, ca, cb, _, _, rfl, HS20.out.fin⟩
       · skip
         refine ordU_one rfl rfl (fun K hK => ?_)
         go_simp
         have HS21 := hid (HS18.out.al5)
         obtain ⟨W21, hW21⟩ : ∃ W' : World, W' = W18.alloc (.cells zeroL 28) := ⟨_, rfl⟩
         rw [← hW21] at HS21 ⊢
         refine hK _ _ ⟨trivial, HS21.out.a, HS21.out.b⟩ ?_
         clear hK K hW21
         refine ordU_l rfl rfl (fun K hK => ?_)
         go_simp
         refine (HOY.out _ HS21.out.bl).mono ?_
         rintro e W22 ⟨cb, rfl, hl, hb⟩
         have HS22 := hid (HS21.out.own3 hl hb)
         refine hK _ _ ⟨trivial, HS22.out.a, HS22.out.b⟩ ?_
         clear hK K hl hb
         have h4 := HS22.out.r4 _ rfl; have h5 := HS22.out.r5 _ rfl; have hne := HS22.out.ne _ _ rfl rfl; have hzz := HS22.out.sz
         have hx4 := bx_of_tag h4.1
         have HT5 := hid (set6_tag (c := ca) h5.1 (Ne.symm hne) (tag_lt h5.1))
         have HG4 := hid h4; have HG5 := hid h5; have HNE := hid hne; have HZZ := hid hzz
         have hc4 := hx4.1; have hf4 := hx4.2.1
         clear h4 h5 hne hx4 hzz
         refine ordU_l rfl rfl (fun K hK => ?_)
         go_simp
         have hS6 : Bx (set6 W22 W0.heap.size ca) w.heap.size (cellsLn x) ∧ Bx (set6 W22 W0.heap.size ca) (w.heap.size + 1) (cellsLn y) := ⟨(set6_same _ _ _).bx HS22.out.a (by have := HG4.out.2; omega), (set6_same _ _ _).bx HS22.out.b (by have := HG4.out.2; omega)⟩
         have HSX := hid hS6
         refine hK _ (set6 W22 W0.heap.size ca) ⟨trivial, HSX.out⟩ ?_
         clear hK K hc4 hf4 hS6
         have hx5 := bx_of_tag HT5.out
         have hc5 := hx5.1; have hf5 := hx5.2.1
         clear hx5
         refine ordU_l rfl rfl (fun K hK => ?_)
         go_simp
         refine hK _ (set6 (set6 W22 W0.heap.size ca) W18.heap.size cb) ⟨trivial, (set6_same _ _ _).bx HSX.out.1 (by have := HG5.out.2; omega), (set6_same _ _ _).bx HSX.out.2 (by have := HG5.out.2; omega)⟩ ?_
         clear hK K hc5 hf5
         refine ordU_nil ?_
         exact ⟨rfl, ca, cb, _, _, rfl, HS22.out.fin⟩
     · skip
       refine ordU_one rfl rfl (fun K hK => ?_)
       go_simp
       have HS23 := hid (HS17.out.al5)
       obtain ⟨W23, hW23⟩ : ∃ W' : World, W' = W17.alloc (.cells zeroL 28) := ⟨_, rfl⟩
       rw [← hW23] at HS23 ⊢
       refine hK _ _ ⟨trivial, HS23.out.a, HS23.out.b⟩ ?_
       clear hK K hW23
       refine ordU_l rfl rfl (fun K hK => ?_)
       go_simp
       refine (HOX.out _ HS23.out.bl).mono ?_
       rintro e W24 ⟨ca, rfl, hl, hb⟩
       have HS24 := hid (HS23.out.own1 hl hb)
       refine hK _ _ ⟨trivial, HS24.out.a, HS24.out.b⟩ ?_
       clear hK K hl hb
       refine ordU_l rfl rfl (fun K hK => ?_)
       go_simp
       refine (HOY.out _ HS24.out.bl).mono ?_
       rintro e W25 ⟨cb, rfl, hl, hb⟩
       have HS25 := hid (HS24.out.own3 hl hb)
       refine hK _ _ ⟨trivial, HS25.out.a, HS25.out.b⟩ ?_
       clear hK K hl hb
       have h4 := HS25.out.r4 _ rfl; have h5 := HS25.out.r5 _ rfl; have hne := HS25.out.ne _ _ rfl rfl; have hzz := HS25.out.sz
       have hx4 := bx_of_tag h4.1
       have HT5 := hid (set6_tag (c := ca) h5.1 (Ne.symm hne) (tag_lt h5.1))
       have HG4 := hid h4; have HG5 := hid h5; have HNE := hid hne; have HZZ := hid hzz
       have hc4 := hx4.1; have hf4 := hx4.2.1
       clear h4 h5 hne hx4 hzz
       refine ordU_l rfl rfl (fun K hK => ?_)
       go_simp
       have hS6 : Bx (set6 W25 W0.heap.size ca) w.heap.size (cellsLn x) ∧ Bx (set6 W25 W0.heap.size ca) (w.heap.size + 1) (cellsLn y) := ⟨(set6_same _ _ _).bx HS25.out.a (by have := HG4.out.2; omega), (set6_same _ _ _).bx HS25.out.b (by have := HG4.out.2; omega)⟩
       have HSX := hid hS6
       refine hK _ (set6 W25 W0.heap.size ca) ⟨trivial, HSX.out⟩ ?_
       clear hK K hc4 hf4 hS6
       have hx5 := bx_of_tag HT5.out
       have hc5 := hx5.1; have hf5 := hx5.2.1
       clear hx5
       refine ordU_l rfl rfl (fun K hK => ?_)
       go_simp
       refine hK _ (set6 (set6 W25 W0.heap.size ca) W17.heap.size cb) ⟨trivial, (set6_same _ _ _).bx HSX.out.1 (by have := HG5.out.2; omega), (set6_same _ _ _).bx HSX.out.2 (by have := HG5.out.2; omega)⟩ ?_
       clear hK K hc5 hf5
       refine ordU_nil ?_
       exact ⟨rfl, ca, cb, _, _, rfl, HS25.out.fin⟩
   · skip
     refine ordU_one rfl rfl (fun K hK => ?_)
     go_simp
     have HS26 := hid (HS0.out.al5)
     obtain ⟨W26, hW26⟩ : ∃ W' : World, W' = W0.alloc (.cells zeroL 28) := ⟨_, rfl⟩
     rw [← hW26] at HS26 ⊢
     refine hK _ _ ⟨trivial, HS26.out.a, HS26.out.b⟩ ?_
     clear hK K hW26
     refine ⟨?_, ?_⟩
     · skip
       refine ordU_one rfl rfl (fun K hK => ?_)
       go_simp
       refine (HOX.out _ HS26.out.bl).mono ?_
       rintro e W27 ⟨ca, rfl, hl, hb⟩
       have HS27 := hid (HS26.out.own1 hl hb)
       refine hK _ _ ⟨trivial, HS27.out.a, HS27.out.b⟩ ?_
       clear hK K hl hb
       refine ⟨?_, ?_⟩
       · skip
         refine ordU_one rfl rfl (fun K hK => ?_)
         go_simp
         refine (HOY.out _ HS27.out.bl).mono ?_
         rintro e W28 ⟨cb, rfl, hl, hb⟩
         have HS28 := hid (HS27.out.own3 hl hb)
         refine hK _ _ ⟨trivial, HS28.out.a, HS28.out.b⟩ ?_
         clear hK K hl hb
         refine ordU_l rfl rfl (fun K hK => ?_)
         go_simp
         have HS29 := hid (HS28.out.al4)
         obtain ⟨W29, hW29⟩ : ∃ W' : World, W' = W28.alloc (.cells zeroL 28) := ⟨_, rfl⟩
         rw [← hW29] at HS29 ⊢
         refine hK _ _ ⟨trivial, HS29.out.a, HS29.out.b⟩ ?_
         clear hK K hW29
         have h4 := HS29.out.r4 _ rfl; have h5 := HS29.out.r5 _ rfl; have hne := HS29.out.ne _ _ rfl rfl; have hzz := HS29.out.sz
         have hx4 := bx_of_tag h4.1
         have HT5 := hid (set6_tag (c := ca) h5.1 (Ne.symm hne) (tag_lt h5.1))
         have HG4 := hid h4; have HG5 := hid h5; have HNE := hid hne; have HZZ := hid hzz
         have hc4 := hx4.1; have hf4 := hx4.2.1
         clear h4 h5 hne hx4 hzz
         refine ordU_l rfl rfl (fun K hK => ?_)
         go_simp
         have hS6 : Bx (set6 W29 W28.heap.size ca) w.heap.size (cellsLn x) ∧ Bx (set6 W29 W28.heap.size ca) (w.heap.size + 1) (cellsLn y) := ⟨(set6_same _ _ _).bx HS29.out.a (by have := HG4.out.2; omega), (set6_same _ _ _).bx HS29.out.b (by have := HG4.out.2; omega)⟩
         have HSX := hid hS6
         refine hK _ (set6 W29 W28.heap.size ca) ⟨trivial, HSX.out⟩ ?_
         clear hK K hc4 hf4 hS6
         have hx5 := bx_of_tag HT5.out
         have hc5 := hx5.1; have hf5 := hx5.2.1
         clear hx5
         refine ordU_l rfl rfl (fun K hK => ?_)
         go_simp
         refine hK _ (set6 (set6 W29 W28.heap.size ca) W0.heap.size cb) ⟨trivial, (set6_same _ _ _).bx HSX.out.1 (by have := HG5.out.2; omega), (set6_same _ _ _).bx HSX.out.2 (by have := HG5.out.2; omega)⟩ ?_
         clear hK K hc5 hf5
         refine ordU_nil ?_
         exact ⟨rfl, ca, cb, _, _, rfl, HS29.out.fin⟩
       · skip
         refine ordU_one rfl rfl (fun K hK => ?_)
         go_simp
         have HS30 := hid (HS27.out.al4)
         obtain ⟨W30, hW30⟩ : ∃ W' : World, W' = W27.alloc (.cells zeroL 28) := ⟨_, rfl⟩
         rw [← hW30] at HS30 ⊢
         refine hK _ _ ⟨trivial, HS30.out.a, HS30.out.b⟩ ?_
         clear hK K hW30
         refine ordU_l rfl rfl (fun K hK => ?_)
         go_simp
         refine (HOY.out _ HS30.out.bl).mono ?_
         rintro e W31 ⟨cb, rfl, hl, hb⟩
         have HS31 := hid (HS30.out.own3 hl hb)
         refine hK _ _ ⟨trivial, HS31.out.a, HS31.out.b⟩ ?_
         clear hK K hl hb
         have h4 := HS31.out.r4 _ rfl; have h5 := HS31.out.r5 _ rfl; have hne := HS31.out.ne _ _ rfl rfl; have hzz := HS31.out.sz
         have hx4 := bx_of_tag h4.1
         have HT5 := hid (set6_tag (c := ca) h5.1 (Ne.symm hne) (tag_lt h5.1))
         have HG4 := hid h4; have HG5 := hid h5; have HNE := hid hne; have HZZ := hid hzz
         have hc4 := hx4.1; have hf4 := hx4.2.1
         clear h4 h5 hne hx4 hzz
         refine ordU_l rfl rfl (fun K hK => ?_)
         go_simp
         have hS6 : Bx (set6 W31 W27.heap.size ca) w.heap.size (cellsLn x) ∧ Bx (set6 W31 W27.heap.size ca) (w.heap.size + 1) (cellsLn y) := ⟨(set6_same _ _ _).bx HS31.out.a (by have := HG4.out.2; omega), (set6_same _ _ _).bx HS31.out.b (by have := HG4.out.2; omega)⟩
         have HSX := hid hS6
         refine hK _ (set6 W31 W27.heap.size ca) ⟨trivial, HSX.out⟩ ?_
         clear hK K hc4 hf4 hS6
         have hx5 := bx_of_tag HT5.out
         have hc5 := hx5.1; have hf5 := hx5.2.1
         clear hx5
         refine ordU_l rfl rfl (fun K hK => ?_)
         go_simp
         refine hK _ (set6 (set6 W31 W27.heap.size ca) W0.heap.size cb) ⟨trivial, (set6_same _ _ _).bx HSX.out.1 (by have := HG5.out.2; omega), (set6_same _ _ _).bx HSX.out.2 (by have := HG5.out.2; omega)⟩ ?_
         clear hK K hc5 hf5
         refine ordU_nil ?_
         exact ⟨rfl, ca, cb, _, _, rfl, HS31.out.fin⟩
     · skip
       refine ordU_one rfl rfl (fun K hK => ?_)
       go_simp
       have HS32 := hid (HS26.out.al4)
       obtain ⟨W32, hW32⟩ : ∃ W' : World, W' = W26.alloc (.cells zeroL 28) := ⟨_, rfl⟩
       rw [← hW32] at HS32 ⊢
       refine hK _ _ ⟨trivial, HS32.out.a, HS32.out.b⟩ ?_
       clear hK K hW32
       refine ordU_l rfl rfl (fun K hK => ?_)
       go_simp
       refine (HOX.out _ HS32.out.bl).mono ?_
       rintro e W33 ⟨ca, rfl, hl, hb⟩
       have HS33 := hid (HS32.out.own1 hl hb)
       refine hK _ _ ⟨trivial, HS33.out.a, HS33.out.b⟩ ?_
       clear hK K hl hb
       refine ordU_l rfl rfl (fun K hK => ?_)
       go_simp
       refine (HOY.out _ HS33.out.bl).mono ?_
       rintro e W34 ⟨cb, rfl, hl, hb⟩
       have HS34 := hid (HS33.out.own3 hl hb)
       refine hK _ _ ⟨trivial, HS34.out.a, HS34.out.b⟩ ?_
       clear hK K hl hb
       have h4 := HS34.out.r4 _ rfl; have h5 := HS34.out.r5 _ rfl; have hne := HS34.out.ne _ _ rfl rfl; have hzz := HS34.out.sz
       have hx4 := bx_of_tag h4.1
       have HT5 := hid (set6_tag (c := ca) h5.1 (Ne.symm hne) (tag_lt h5.1))
       have HG4 := hid h4; have HG5 := hid h5; have HNE := hid hne; have HZZ := hid hzz
       have hc4 := hx4.1; have hf4 := hx4.2.1
       clear h4 h5 hne hx4 hzz
       refine ordU_l rfl rfl (fun K hK => ?_)
       go_simp
       have hS6 : Bx (set6 W34 W26.heap.size ca) w.heap.size (cellsLn x) ∧ Bx (set6 W34 W26.heap.size ca) (w.heap.size + 1) (cellsLn y) := ⟨(set6_same _ _ _).bx HS34.out.a (by have := HG4.out.2; omega), (set6_same _ _ _).bx HS34.out.b (by have := HG4.out.2; omega)⟩
       have HSX := hid hS6
       refine hK _ (set6 W34 W26.heap.size ca) ⟨trivial, HSX.out⟩ ?_
       clear hK K hc4 hf4 hS6
       have hx5 := bx_of_tag HT5.out
       have hc5 := hx5.1; have hf5 := hx5.2.1
       clear hx5
       refine ordU_l rfl rfl (fun K hK => ?_)
       go_simp
       refine hK _ (set6 (set6 W34 W26.heap.size ca) W0.heap.size cb) ⟨trivial, (set6_same _ _ _).bx HSX.out.1 (by have := HG5.out.2; omega), (set6_same _ _ _).bx HSX.out.2 (by have := HG5.out.2; omega)⟩ ?_
       clear hK K hc5 hf5
       refine ordU_nil ?_
       exact ⟨rfl, ca, cb, _, _, rfl, HS34.out.fin⟩
 · rintro e a W ⟨rfl, ca, cb, g, k, rfl, hE⟩
   have HE := hid hE
   have hz4 := hE.z4.1
   clear hE
   have hl1 : (cutL s).names.length ≤ 1000 ∧ (cutL s).vers.length ≤ 1000 := by constructor <;> simp only [List.length_take] <;> omega
   have hl2 : (cutL t).names.length ≤ 1000 ∧ (cutL t).vers.length ≤ 1000 := by constructor <;> simp only [List.length_take] <;> omega
   have HL1 := hid hl1; have HL2 := hid hl2
   clear hl1 hl2
   obtain ⟨u, hu⟩ : ∃ u, u = cutL s := ⟨_, rfl⟩
   obtain ⟨v, hv⟩ : ∃ v, v = cutL t := ⟨_, rfl⟩
   rw [← hu] at HE HL1 HOX; rw [← hv] at HE HL2 HOY
   clear hu hv
   obtain ⟨q, hq⟩ : ∃ q : Bool, decide (u = v) = q := ⟨_, rfl⟩
   have HRI := hid (fun W' (hb : Below W.heap.size W W') => r_Right_line (HE.out.r1.below hb) HL1.out.1 HL1.out.2)
   have HTX := hid (fun W' (hb : Below W.heap.size W W') => text_any_line (HE.out.r1.below hb) HL1.out.1 HL1.out.2 (HL.out.below (HE.out.call hb).bl))
   have HCK := hid (fun W' (hb : Below W.heap.size W W') => check_any_line (HE.out.r1.below hb) HL1.out.1 HL1.out.2 (HL.out.below (HE.out.call hb).bl))
   have HSA := hid (fun W' (hb : Below W.heap.size W W') => same_any_line ca cb u v _ _ W' (HE.out.r1.below hb) (HE.out.r3.below hb) (by have := HL1.out; omega) (by have := HL1.out; omega) (by have := HL2.out; omega) (by have := HL2.out; omega))
   have HRS := hid (fun W' (hb : Below W.heap.size W W') => r_same_any ca cb u v _ _ W' (HE.out.r1.below hb) (HE.out.r3.below hb) (by have := HL1.out; omega) (by have := HL1.out; omega) (by have := HL2.out; omega) (by have := HL2.out; omega))
   have HSO := hid (fun W' (c : LnC) (B : Nat) (hb : Below W.heap.size W W') (hl : LnAt W' B c u) => same_any_line ca c u u _ _ W' (HE.out.r1.below hb) hl (by have := HL1.out; omega) (by have := HL1.out; omega) (by have := HL1.out; omega) (by have := HL1.out; omega))
   have HRO := hid (fun W' (c : LnC) (B : Nat) (hb : Below W.heap.size W W') (hl : LnAt W' B c u) => r_same_any ca c u u _ _ W' (HE.out.r1.below hb) hl (by have := HL1.out; omega) (by have := HL1.out; omega) (by have := HL1.out; omega) (by have := HL1.out; omega))
   rw [decide_eq_true (rfl : u = u)] at HSO HRO
   rw [hq] at HSA HRS
   clear hq
   cases hlb : lineB u
   · rw [hlb] at HRI HTX HCK
     clear hlb
     simp only [Bool.false_eq_true, if_false] at HTX HCK
     have HQ0 : Hid (Below W.heap.size W W) := hid (Below.refl _ _)
     go_wp2_with fail
     refine (HRI.out _ HQ0.out).mono ?_
     rintro e W1 ⟨rfl, hb⟩
     have HQ1 : Hid (Below W.heap.size W W1) := hid (HQ0.out.trans (hb.mono HQ0.out.size))
     clear hb
     clear hz4
     have hz4 := (HE.out.z4.keep HQ1.out).1
     go_wp2_with fail
     refine (HTX.out _ HQ1.out).mono ?_
     rintro e W2 ⟨rfl, hb⟩
     have HQ2 : Hid (Below W.heap.size W W2) := hid (HQ1.out.trans (hb.mono HQ1.out.size))
     clear hb
     clear hz4
     have hz4 := (HE.out.z4.keep HQ2.out).1
     have hx4 := (HE.out.a.keep HQ2.out).1
     go_wp2_with fail
     refine (HCK.out _ HQ2.out).mono ?_
     rintro e W3 ⟨rfl, hb⟩
     have HQ3 : Hid (Below W.heap.size W W3) := hid (HQ2.out.trans (hb.mono HQ2.out.size))
     clear hb
     clear hz4 hx4
     have HS := hid (HE.out.call HQ3.out)
     go_wp2_with fail
     have HP0 : Hid (Below W.heap.size W W3.drew) := hid HQ3.out.drew
     refine wp_region_ordC 99 [(0, 0), (1, 0), (3, 0), (4, 0), (2, 2), (5, 2), (6, 0), (7, 0), (8, 0), (9, 0), (10, 2), (11, 2), (12, 0), (13, 0), (14, 0), (15, 0), (16, 2), (17, 2), (18, 0), (19, 0)] (fun _ => True) (fun W' => (Bx W' g (cellsLn ca) ∧ Bx W' k (cellsLn cb)) ∧ Bx W' w.heap.size (cellsLn x)) (by kernel_rfl) (by kernel_rfl) (trivial) ⟨⟨HS.out.drew.z4, HS.out.drew.z5⟩, HS.out.drew.a⟩ ?_
     repeat ((first | refine ordC_skip rfl rfl ?_ | refine ordC_skip1 rfl rfl ?_ | ((first | refine ordC_q rfl rfl ?_ | refine ordC_p rfl rfl ?_); apply Exists.intro; refine ⟨fun wS hS => ?_, ?_⟩; (go_simp; try with_reducible rfl))); simp only [Act.put, List.setIfInBounds_toArray, List.set_cons_zero, List.set_cons_succ])
     refine ordC_l rfl rfl (fun K hK => ?_)
     go_simp
     refine (HSA.out _ HP0.out).mono ?_
     rintro e X1 ⟨rfl, hb⟩
     have HP1 : Hid (Below W.heap.size W X1) := hid (HP0.out.trans (hb.mono HP0.out.size))
     clear hb
     refine hK _ _ ⟨trivial, ⟨(HE.out.call HP1.out).z4, (HE.out.call HP1.out).z5⟩, (HE.out.call HP1.out).a⟩ ?_
     clear hK K
     refine ordC_l rfl rfl (fun K hK => ?_)
     go_simp
     refine (HRS.out _ HP1.out).mono ?_
     rintro e X2 ⟨rfl, hb⟩
     have HP2 : Hid (Below W.heap.size W X2) := hid (HP1.out.trans (hb.mono HP1.out.size))
     clear hb
     refine hK _ _ ⟨trivial, ⟨(HE.out.call HP2.out).z4, (HE.out.call HP2.out).z5⟩, (HE.out.call HP2.out).a⟩ ?_
     clear hK K
     repeat ((first | refine ordC_skip rfl rfl ?_ | refine ordC_skip1 rfl rfl ?_ | ((first | refine ordC_q rfl rfl ?_ | refine ordC_p rfl rfl ?_); apply Exists.intro; refine ⟨fun wS hS => ?_, ?_⟩; (go_simp; try with_reducible rfl))); simp only [Act.put, List.setIfInBounds_toArray, List.set_cons_zero, List.set_cons_succ])
     refine ordC_l rfl rfl (fun K hK => ?_)
     go_simp
     refine (HOX.out _ (HE.out.call HP2.out).bl).mono ?_
     rintro e X3 ⟨d3, rfl, hl3, hb⟩
     have HP3 : Hid (Below W.heap.size W X3) := hid (HP2.out.trans (hb.mono HP2.out.size))
     have HD3 := hid hl3
     clear hb hl3
     refine hK _ _ ⟨trivial, ⟨(HE.out.call HP3.out).z4, (HE.out.call HP3.out).z5⟩, (HE.out.call HP3.out).a⟩ ?_
     clear hK K
     refine ordC_l rfl rfl (fun K hK => ?_)
     go_simp
     refine (HSO.out _ d3 _ HP3.out HD3.out).mono ?_
     rintro e X4 ⟨rfl, hb⟩
     have HP4 : Hid (Below W.heap.size W X4) := hid (HP3.out.trans (hb.mono HP3.out.size))
     clear hb
     refine hK _ _ ⟨trivial, ⟨(HE.out.call HP4.out).z4, (HE.out.call HP4.out).z5⟩, (HE.out.call HP4.out).a⟩ ?_
     clear hK K
     repeat ((first | refine ordC_skip rfl rfl ?_ | refine ordC_skip1 rfl rfl ?_ | ((first | refine ordC_q rfl rfl ?_ | refine ordC_p rfl rfl ?_); apply Exists.intro; refine ⟨fun wS hS => ?_, ?_⟩; (go_simp; try with_reducible rfl))); simp only [Act.put, List.setIfInBounds_toArray, List.set_cons_zero, List.set_cons_succ])
     refine ordC_l rfl rfl (fun K hK => ?_)
     go_simp
     refine (HOX.out _ (HE.out.call HP4.out).bl).mono ?_
     rintro e X5 ⟨d5, rfl, hl5, hb⟩
     have HP5 : Hid (Below W.heap.size W X5) := hid (HP4.out.trans (hb.mono HP4.out.size))
     have HD5 := hid hl5
     clear hb hl5
     refine hK _ _ ⟨trivial, ⟨(HE.out.call HP5.out).z4, (HE.out.call HP5.out).z5⟩, (HE.out.call HP5.out).a⟩ ?_
     clear hK K
     refine ordC_l rfl rfl (fun K hK => ?_)
     go_simp
     refine (HRO.out _ d5 _ HP5.out HD5.out).mono ?_
     rintro e X6 ⟨rfl, hb⟩
     have HP6 : Hid (Below W.heap.size W X6) := hid (HP5.out.trans (hb.mono HP5.out.size))
     clear hb
     refine hK _ _ ⟨trivial, ⟨(HE.out.call HP6.out).z4, (HE.out.call HP6.out).z5⟩, (HE.out.call HP6.out).a⟩ ?_
     clear hK K
     repeat ((first | refine ordC_skip rfl rfl ?_ | refine ordC_skip1 rfl rfl ?_ | ((first | refine ordC_q rfl rfl ?_ | refine ordC_p rfl rfl ?_); apply Exists.intro; refine ⟨fun wS hS => ?_, ?_⟩; (go_simp; try with_reducible rfl))); simp only [Act.put, List.setIfInBounds_toArray, List.set_cons_zero, List.set_cons_succ])
     refine ordC_nil ?_
     go_wp2_with fail
     go_ret
     exact ⟨rfl, (HE.out.call HP6.out).bl⟩
   · rw [hlb] at HRI HTX HCK
     have HLB := hid hlb
     clear hlb
     simp only [if_true] at HTX HCK
     have HQ0 : Hid (Below W.heap.size W W) := hid (Below.refl _ _)
     go_wp2_with fail
     refine (HRI.out _ HQ0.out).mono ?_
     rintro e W1 ⟨rfl, hb⟩
     have HQ1 : Hid (Below W.heap.size W W1) := hid (HQ0.out.trans (hb.mono HQ0.out.size))
     clear hb
     clear hz4
     have hz4 := (HE.out.z4.keep HQ1.out).1
     go_wp2_with fail
     refine (HTX.out _ HQ1.out).mono ?_
     rintro e W2 ⟨rfl, hb⟩
     have HQ2 : Hid (Below W.heap.size W W2) := hid (HQ1.out.trans (hb.mono HQ1.out.size))
     clear hb
     clear hz4
     have hz4 := (HE.out.z4.keep HQ2.out).1
     have hx4 := (HE.out.a.keep HQ2.out).1
     go_wp2_with fail
     refine (HOX.out _ (HE.out.call HQ2.out).bl).mono ?_
     rintro e W3 ⟨c3, rfl, hl3, hb⟩
     have HQ3 : Hid (Below W.heap.size W W3) := hid (HQ2.out.trans (hb.mono HQ2.out.size))
     have HL3 := hid hl3
     clear hb hl3 hz4 hx4
     go_wp2_with fail
     refine (r_Text_line HL3.out HLB.out).mono ?_
     rintro e W4 ⟨rfl, hb⟩
     have HQ4 : Hid (Below W.heap.size W W4) := hid (HQ3.out.trans (hb.mono HQ3.out.size))
     clear hb
     have hz4 := (HE.out.z4.keep HQ4.out).1
     go_wp2_with fail
     refine (HCK.out _ HQ4.out).mono ?_
     rintro e W5 ⟨rfl, hb⟩
     have HQ5 : Hid (Below W.heap.size W W5) := hid (HQ4.out.trans (hb.mono HQ4.out.size))
     clear hb
     clear hz4
     have HS := hid (HE.out.call HQ5.out)
     go_wp2_with fail
     have HP0 : Hid (Below W.heap.size W W5.drew) := hid HQ5.out.drew
     refine wp_region_ordC 99 [(0, 0), (1, 0), (3, 0), (4, 0), (2, 2), (5, 2), (6, 0), (7, 0), (8, 0), (9, 0), (10, 2), (11, 2), (12, 0), (13, 0), (14, 0), (15, 0), (16, 2), (17, 2), (18, 0), (19, 0)] (fun _ => True) (fun W' => (Bx W' g (cellsLn ca) ∧ Bx W' k (cellsLn cb)) ∧ Bx W' w.heap.size (cellsLn x)) (by kernel_rfl) (by kernel_rfl) (trivial) ⟨⟨HS.out.drew.z4, HS.out.drew.z5⟩, HS.out.drew.a⟩ ?_
     repeat ((first | refine ordC_skip rfl rfl ?_ | refine ordC_skip1 rfl rfl ?_ | ((first | refine ordC_q rfl rfl ?_ | refine ordC_p rfl rfl ?_); apply Exists.intro; refine ⟨fun wS hS => ?_, ?_⟩; (go_simp; try with_reducible rfl))); simp only [Act.put, List.setIfInBounds_toArray, List.set_cons_zero, List.set_cons_succ])
     refine ordC_l rfl rfl (fun K hK => ?_)
     go_simp
     refine (HSA.out _ HP0.out).mono ?_
     rintro e X1 ⟨rfl, hb⟩
     have HP1 : Hid (Below W.heap.size W X1) := hid (HP0.out.trans (hb.mono HP0.out.size))
     clear hb
     refine hK _ _ ⟨trivial, ⟨(HE.out.call HP1.out).z4, (HE.out.call HP1.out).z5⟩, (HE.out.call HP1.out).a⟩ ?_
     clear hK K
     refine ordC_l rfl rfl (fun K hK => ?_)
     go_simp
     refine (HRS.out _ HP1.out).mono ?_
     rintro e X2 ⟨rfl, hb⟩
     have HP2 : Hid (Below W.heap.size W X2) := hid (HP1.out.trans (hb.mono HP1.out.size))
     clear hb
     refine hK _ _ ⟨trivial, ⟨(HE.out.call HP2.out).z4, (HE.out.call HP2.out).z5⟩, (HE.out.call HP2.out).a⟩ ?_
     clear hK K
     repeat ((first | refine ordC_skip rfl rfl ?_ | refine ordC_skip1 rfl rfl ?_ | ((first | refine ordC_q rfl rfl ?_ | refine ordC_p rfl rfl ?_); apply Exists.intro; refine ⟨fun wS hS => ?_, ?_⟩; (go_simp; try with_reducible rfl))); simp only [Act.put, List.setIfInBounds_toArray, List.set_cons_zero, List.set_cons_succ])
     refine ordC_l rfl rfl (fun K hK => ?_)
     go_simp
     refine (HOX.out _ (HE.out.call HP2.out).bl).mono ?_
     rintro e X3 ⟨d3, rfl, hl3, hb⟩
     have HP3 : Hid (Below W.heap.size W X3) := hid (HP2.out.trans (hb.mono HP2.out.size))
     have HD3 := hid hl3
     clear hb hl3
     refine hK _ _ ⟨trivial, ⟨(HE.out.call HP3.out).z4, (HE.out.call HP3.out).z5⟩, (HE.out.call HP3.out).a⟩ ?_
     clear hK K
     refine ordC_l rfl rfl (fun K hK => ?_)
     go_simp
     refine (HSO.out _ d3 _ HP3.out HD3.out).mono ?_
     rintro e X4 ⟨rfl, hb⟩
     have HP4 : Hid (Below W.heap.size W X4) := hid (HP3.out.trans (hb.mono HP3.out.size))
     clear hb
     refine hK _ _ ⟨trivial, ⟨(HE.out.call HP4.out).z4, (HE.out.call HP4.out).z5⟩, (HE.out.call HP4.out).a⟩ ?_
     clear hK K
     repeat ((first | refine ordC_skip rfl rfl ?_ | refine ordC_skip1 rfl rfl ?_ | ((first | refine ordC_q rfl rfl ?_ | refine ordC_p rfl rfl ?_); apply Exists.intro; refine ⟨fun wS hS => ?_, ?_⟩; (go_simp; try with_reducible rfl))); simp only [Act.put, List.setIfInBounds_toArray, List.set_cons_zero, List.set_cons_succ])
     refine ordC_l rfl rfl (fun K hK => ?_)
     go_simp
     refine (HOX.out _ (HE.out.call HP4.out).bl).mono ?_
     rintro e X5 ⟨d5, rfl, hl5, hb⟩
     have HP5 : Hid (Below W.heap.size W X5) := hid (HP4.out.trans (hb.mono HP4.out.size))
     have HD5 := hid hl5
     clear hb hl5
     refine hK _ _ ⟨trivial, ⟨(HE.out.call HP5.out).z4, (HE.out.call HP5.out).z5⟩, (HE.out.call HP5.out).a⟩ ?_
     clear hK K
     refine ordC_l rfl rfl (fun K hK => ?_)
     go_simp
     refine (HRO.out _ d5 _ HP5.out HD5.out).mono ?_
     rintro e X6 ⟨rfl, hb⟩
     have HP6 : Hid (Below W.heap.size W X6) := hid (HP5.out.trans (hb.mono HP5.out.size))
     clear hb
     refine hK _ _ ⟨trivial, ⟨(HE.out.call HP6.out).z4, (HE.out.call HP6.out).z5⟩, (HE.out.call HP6.out).a⟩ ?_
     clear hK K
     repeat ((first | refine ordC_skip rfl rfl ?_ | refine ordC_skip1 rfl rfl ?_ | ((first | refine ordC_q rfl rfl ?_ | refine ordC_p rfl rfl ?_); apply Exists.intro; refine ⟨fun wS hS => ?_, ?_⟩; (go_simp; try with_reducible rfl))); simp only [Act.put, List.setIfInBounds_toArray, List.set_cons_zero, List.set_cons_succ])
     refine ordC_nil ?_
     go_wp2_with fail
     go_ret
     exact ⟨rfl, (HE.out.call HP6.out).bl⟩
end Yd
