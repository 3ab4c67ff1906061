import Derived.Test.YthdpangjphphjaaGreatDoorOwn
import Derived.Test.YthdpangjphphjaaGreatDoorRdB
import Derived.Test.YthdpangjphphjaaGreatDoorProg
import Derived.Test.YthdpangjphphjaaGreatDoorShape
import Derived.BigQuiet
import Derived.Test.YthdpangjphphjaaGreatDoorChk2
import Derived.Test.YthdpangjphphjaaGreatDoorCu9
import Derived.Test.YthdpangjphphjaaGreatDoorLxN
set_option maxRecDepth 200000
set_option maxHeartbeats 8000000
namespace Yd
open Go Go.RowKit Go.Proofs

theorem cloneStr (a : Option Addr) (c : Nat) (cs : List Bs) (w : World) (hr : Row w 1 encStr a cs.length c cs) (hby : cs.length * 16 ≤ 140737488355328) :
   Calls Tryz.prog 37 #[.slice a cs.length c] w (RetOwn 9 1 encStr cs w) := by
 have hm : cs.length ≤ maxLen := by have := hr.le; unfold maxLen; omega
 have hsn := fun (w : World) (n c : Nat) => @Lib.run_eql_slice_nil Tryz.prog w 25 9 a n c 0 0 Tryz.underlying25
 cases a with
 | none =>
   obtain ⟨rfl, _, rfl⟩ := hr.none_
   go_enter Tryz.func37, Tryz.ntmps37
   go_wp2_with fail
   go_ret
   exact ⟨none, 0, rfl, Own.nil_ _ _ _ _ _, Below.refl _ _⟩
 | some ad =>
   obtain ⟨i, z, hi, hz, hsize, hby', hzs⟩ := partsStr
   have hr1 : Row (w.alloc (.cells #[] 9)) 1 encStr (some ad) cs.length c cs := hr.below ((Below.refl _ _).alloc (Nat.le_refl _) _) rfl
   have HO := Own.new (hc := cInsStr) w w.heap.size 9 (enc := encStr) #[] [] (Nat.le_refl _) rfl (Nat.zero_le _)
   have HB : Below w.heap.size w (w.alloc (.cells #[] 9)) := (Below.refl _ _).alloc (Nat.le_refl _) _
   have HR := hid hr1; have HC := hid hr; have HOH := hid HO; have HBH := hid HB
   clear hr hr1 HO HB
   go_enter Tryz.func37, Tryz.ntmps37
   go_wp2_with (at_builtin; refine wpList_app rfl _ _ 25 rfl i z 16 Tryz.underlying25 hi hz hsize hby' hzs rfl HOH.out (some ad) cs.length c cs.length cs rfl HR.out (by simp) hby hm (by simp) ?_; intro a' c' w1 hown1 hg1 hat1)
   go_ret
   exact ⟨a', c', rfl, hown1, below_app HBH.out HOH.out (Nat.le_refl _) (by simp) hg1⟩

theorem cloneTo (a : Option Addr) (c : Nat) (cs : List To) (w : World) (hr : Row w 2 encTo a cs.length c cs) (hby : cs.length * 24 ≤ 140737488355328) :
   Calls Tryz.prog 38 #[.slice a cs.length c] w (RetOwn 67 2 encTo cs w) := by
 have hm : cs.length ≤ maxLen := by have := hr.le; unfold maxLen; omega
 have hsn := fun (w : World) (n c : Nat) => @Lib.run_eql_slice_nil Tryz.prog w 26 67 a n c 0 0 Tryz.underlying26
 cases a with
 | none =>
   obtain ⟨rfl, _, rfl⟩ := hr.none_
   go_enter Tryz.func38, Tryz.ntmps38
   go_wp2_with fail
   go_ret
   exact ⟨none, 0, rfl, Own.nil_ _ _ _ _ _, Below.refl _ _⟩
 | some ad =>
   obtain ⟨i, z, hi, hz, hsize, hby', hzs⟩ := partsTo
   have hr1 : Row (w.alloc (.cells #[] 67)) 2 encTo (some ad) cs.length c cs := hr.below ((Below.refl _ _).alloc (Nat.le_refl _) _) rfl
   have HO := Own.new (hc := cInsTo) w w.heap.size 67 (enc := encTo) #[] [] (Nat.le_refl _) rfl (Nat.zero_le _)
   have HB : Below w.heap.size w (w.alloc (.cells #[] 67)) := (Below.refl _ _).alloc (Nat.le_refl _) _
   have HR := hid hr1; have HC := hid hr; have HOH := hid HO; have HBH := hid HB
   clear hr hr1 HO HB
   go_enter Tryz.func38, Tryz.ntmps38
   go_wp2_with (at_builtin; refine wpList_app rfl _ _ 26 rfl i z 24 Tryz.underlying26 hi hz hsize hby' hzs rfl HOH.out (some ad) cs.length c cs.length cs rfl HR.out (by simp) hby hm (by simp) ?_; intro a' c' w1 hown1 hg1 hat1)
   go_ret
   exact ⟨a', c', rfl, hown1, below_app HBH.out HOH.out (Nat.le_refl _) (by simp) hg1⟩

end Yd


namespace Yd
open Go Go.RowKit Go.Proofs

@[reducible] def cutL (s : LnS) : LnS := { s with names := s.names.take 304, vers := s.vers.take 42 }
def LnIn (w : World) (l : LnC) (s : LnS) : Prop :=
 (l.kind = s.kind ∧ l.lvl = s.lvl ∧ l.first = s.first ∧ l.bits = s.bits) ∧ Row w 1 encStr l.na l.nn l.nc s.names ∧ Row w 2 encTo l.va l.vn l.vc s.vers
theorem LnIn.below {w w' : World} {l : LnC} {s : LnS} (h : LnIn w l s) (hb : Below w.heap.size w w') : LnIn w' l s := ⟨h.1, h.2.1.below hb rfl, h.2.2.below hb rfl⟩
theorem Row.takeMin {α : Type} {enc : α → List Value} {w : World} {k : Nat} {a : Option Addr} {n c : Nat} {xs : List α} (h : Row w k enc a n c xs) (K : Nat) : Row w k enc a (xs.take K).length c (xs.take K) := by
 obtain ⟨h1, h2, h3, h4, h5⟩ := h
 refine ⟨rfl, by rw [List.length_take]; omega, by rw [List.length_take]; omega, h4, fun i x hx => ?_⟩
 rw [List.getElem?_take] at hx
 split at hx
 · exact h5 i x hx
 · cases hx
theorem own12 {w : World} {l : LnC} {s : LnS} (h : LnIn w l s) : Calls Tryz.prog 13 #[valLn l] w (RetLn (cutL s) w) := by
 obtain ⟨lk, na, nn, nc, lvl, va, vn, vc, lf, bits⟩ := l
 obtain ⟨sk, xs, sl, vs, sf, sb⟩ := s
 obtain ⟨⟨q1, q2, q3, q4⟩, hn, hv⟩ := h
 simp only at q1 q2 q3 q4 hn hv
 subst q1 q2 q3 q4
 have hln := hn.len; have hlv := hv.len
 have hcn := hn.2.1; have hcv := hv.2.1
 have hmn : min (nn : Int) 304 = ((min nn 304 : Nat) : Int) := by omega
 have hmv : min (vn : Int) 42 = ((min vn 42 : Nat) : Int) := by omega
 have e1 : (xs.take 304).length = min nn 304 := by rw [List.length_take]; omega
 have e2 : (vs.take 42).length = min vn 42 := by rw [List.length_take]; omega
 obtain ⟨m, hm⟩ : ∃ m, m = min nn 304 := ⟨_, rfl⟩
 obtain ⟨j, hj⟩ : ∃ j, j = min vn 42 := ⟨_, rfl⟩
 rw [← hm] at hmn e1; rw [← hj] at hmv e2
 have hmle : m ≤ nc := by omega
 have hjle : j ≤ vc := by omega
 have hm3 : m ≤ 304 := by omega
 have hj3 : j ≤ 42 := by omega
 have HCN := hid (fun W (hb : Below w.heap.size w W) => cloneStr na nc (xs.take 304) W ((hn.takeMin 304).below hb rfl) (by omega))
 have HCV := hid (fun W (hb : Below w.heap.size w W) => cloneTo va vc (vs.take 42) W ((hv.takeMin 42).below hb rfl) (by omega))
 rw [e1] at HCN; rw [e2] at HCV
 have HB0 := hid (belowA (belowA (Below.refl w.heap.size w) (.cells #[.int .i64 lk, .slice na nn nc, .int .i64 lvl, .slice va vn vc, .bool lf, .int .i64 bits] 28)) (.cells #[.int .i64 0, .slice none 0 0, .int .i64 0, .slice none 0 0, .bool false, .int .i64 0] 28))
 have HX0 := hid ((Bx.new w #[.int .i64 lk, .slice na nn nc, .int .i64 lvl, .slice va vn vc, .bool lf, .int .i64 bits] 28).alloc (.cells #[.int .i64 0, .slice none 0 0, .int .i64 0, .slice none 0 0, .bool false, .int .i64 0] 28))
 have hy0 := Bx.new (w.alloc (.cells #[.int .i64 lk, .slice na nn nc, .int .i64 lvl, .slice va vn vc, .bool lf, .int .i64 bits] 28)) #[.int .i64 0, .slice none 0 0, .int .i64 0, .slice none 0 0, .bool false, .int .i64 0] 28
 rw [show (w.alloc (.cells #[.int .i64 lk, .slice na nn nc, .int .i64 lvl, .slice va vn vc, .bool lf, .int .i64 bits] 28)).heap.size = w.heap.size + 1 by simp] at hy0
 have HY0 := hid hy0
 have HE := hid (⟨e1, e2⟩ : _ ∧ _)
 clear hy0 hn hv hln hlv hcn hcv hm hj e1 e2
 rw [show min (nn : Int) 304 = min (nn : Int) 304 from rfl] at hmn
 go_enter Tryz.func13, Tryz.ntmps13
 go_wp2_with fail
 refine (HCN.out _ HB0.out).mono ?_
 rintro e w1 ⟨a1, c1, rfl, ho1, hb1⟩
 rw [HE.out.1] at ho1 ⊢
 have hx1 := HX0.out.keep hb1; have hy1 := HY0.out.keep hb1
 have HX1 := hid hx1; have HY1 := hid hy1
 have HB1 := hid (HB0.out.trans (hb1.mono HB0.out.size))
 have HO1 := hid (ho1.mono HB0.out.size)
 have hs0 := hb1.size
 have HS1 : Hid (w.heap.size + 2 ≤ w1.heap.size ∧ ∀ g, (Value.slice a1 m c1).ownBlock = some g → w.heap.size + 2 ≤ g) := hid (by
   have h2 : w.heap.size + 2 ≤ ((w.alloc (.cells #[.int .i64 lk, .slice na nn nc, .int .i64 lvl, .slice va vn vc, .bool lf, .int .i64 bits] 28)).alloc (.cells #[.int .i64 0, .slice none 0 0, .int .i64 0, .slice none 0 0, .bool false, .int .i64 0] 28)).heap.size := by simp
   exact ⟨Nat.le_trans h2 hs0, fun g hg => Nat.le_trans h2 (ho1.lt g hg).1⟩)
 have hcx := hx1.1; have hfx := hx1.2.1
 clear hb1 ho1 hx1 hy1 hs0
 go_wp2_with fail
 obtain ⟨V1, hV1⟩ : ∃ V1 : World, V1 = w1.setCell ⟨w.heap.size, 1, none⟩ (.slice a1 m c1) := ⟨_, rfl⟩
 have HV1 : Hid (Bx V1 w.heap.size #[.int .i64 lk, .slice a1 m c1, .int .i64 lvl, .slice va vn vc, .bool lf, .int .i64 bits] ∧ Bx V1 (w.heap.size + 1) #[.int .i64 0, .slice none 0 0, .int .i64 0, .slice none 0 0, .bool false, .int .i64 0] ∧ Below w.heap.size w V1 ∧ Own V1 w.heap.size 9 1 encStr (.slice a1 m c1) (xs.take 304) ∧ w.heap.size + 2 ≤ V1.heap.size) := hid (by
   rw [hV1]
   refine ⟨HX1.out.setC 1 (by simp) _, HY1.out.setOther _ 1 _ (by omega), HB1.out.setCell (p := ⟨w.heap.size, 1, none⟩) (Nat.le_refl _) _, HO1.out.block fun g hg => Below.heap_setCell _ _ _ _ (by have := HS1.out.2 g hg; simp; omega), by simp [World.setCell]; exact HS1.out.1⟩)
 rw [← hV1]
 clear hV1 hcx hfx
 refine (HCV.out _ HV1.out.2.2.1).mono ?_
 rintro e w2 ⟨a2, c2, rfl, ho2, hb2⟩
 rw [HE.out.2] at ho2 ⊢
 have HX2 := hid (HV1.out.1.keep hb2); have HY2 := hid (HV1.out.2.1.keep hb2)
 have HB2 := hid (HV1.out.2.2.1.trans (hb2.mono HV1.out.2.2.1.size))
 have HO1b := hid (HV1.out.2.2.2.1.below hb2 rfl)
 have HO2 := hid ho2
 have hcx := HX2.out.1; have hfx := HX2.out.2.1; have hcy := HY2.out.1; have hfy := HY2.out.2.1
 have HS2 : Hid (∀ g, (Value.slice a2 j c2).ownBlock = some g → w.heap.size + 2 ≤ g) := hid (fun g hg => Nat.le_trans HV1.out.2.2.2.2 (ho2.lt g hg).1)
 have HS1b : Hid (∀ g, (Value.slice a1 m c1).ownBlock = some g → w.heap.size + 2 ≤ g) := hid HS1.out.2
 clear hb2 ho2
 obtain ⟨V2, hV2⟩ : ∃ V2 : World, V2 = ((((((w2.setCell ⟨w.heap.size, 3, none⟩ (.slice a2 j c2)).setCell ⟨w.heap.size + 1, 0, none⟩ (.int .i64 lk)).setCell ⟨w.heap.size + 1, 1, none⟩ (.slice a1 m c1)).setCell ⟨w.heap.size + 1, 2, none⟩ (.int .i64 lvl)).setCell ⟨w.heap.size + 1, 3, none⟩ (.slice a2 j c2)).setCell ⟨w.heap.size + 1, 4, none⟩ (.bool lf)).setCell ⟨w.heap.size + 1, 5, none⟩ (.int .i64 bits) := ⟨_, rfl⟩
 have hy := ((((((HY2.out.setOther w.heap.size 3 (.slice a2 j c2) (by omega)).setC 0 (by simp) (.int .i64 lk)).setC 1 (by simp) (.slice a1 m c1)).setC 2 (by simp) (.int .i64 lvl)).setC 3 (by simp) (.slice a2 j c2)).setC 4 (by simp) (.bool lf)).setC 5 (by simp) (.int .i64 bits)
 rw [← hV2] at hy
 have HYF : Hid (Bx V2 (w.heap.size + 1) #[.int .i64 lk, .slice a1 m c1, .int .i64 lvl, .slice a2 j c2, .bool lf, .int .i64 bits]) := hid hy
 have HBF : Hid (Below w.heap.size w V2) := hid (by
   rw [hV2]
   exact ((((((HB2.out.setCell (p := ⟨w.heap.size, 3, none⟩) (Nat.le_refl _) _).setCell (p := ⟨w.heap.size + 1, 0, none⟩) (by simp) _).setCell (p := ⟨w.heap.size + 1, 1, none⟩) (by simp) _).setCell (p := ⟨w.heap.size + 1, 2, none⟩) (by simp) _).setCell (p := ⟨w.heap.size + 1, 3, none⟩) (by simp) _).setCell (p := ⟨w.heap.size + 1, 4, none⟩) (by simp) _).setCell (p := ⟨w.heap.size + 1, 5, none⟩) (by simp) _)
 have hkeep : ∀ g, w.heap.size + 2 ≤ g → V2.heap[g]? = w2.heap[g]? := fun g hg => by
   rw [hV2]
   rw [Below.heap_setCell _ _ _ _ (by simp; omega), Below.heap_setCell _ _ _ _ (by simp; omega), Below.heap_setCell _ _ _ _ (by simp; omega), Below.heap_setCell _ _ _ _ (by simp; omega), Below.heap_setCell _ _ _ _ (by simp; omega), Below.heap_setCell _ _ _ _ (by simp; omega), Below.heap_setCell _ _ _ _ (by simp; omega)]
 have HN2 : Hid (Own V2 w.heap.size 9 1 encStr (.slice a1 m c1) (xs.take 304) ∧ Own V2 w.heap.size 67 2 encTo (.slice a2 j c2) (vs.take 42)) :=
   hid ⟨HO1b.out.block fun g hg => hkeep g (HS1b.out g hg), (HO2.out.mono HV1.out.2.2.1.size).block fun g hg => hkeep g (HS2.out g hg)⟩
 clear hkeep hy
 have HV2 := hid hV2
 clear hV2
 go_wp2_with fail
 rw [← HV2.out]
 have z0 := HYF.out.1 0; have z1 := HYF.out.1 1; have z2 := HYF.out.1 2; have z3 := HYF.out.1 3; have z4 := HYF.out.1 4; have z5 := HYF.out.1 5
 refine bodyPost_ret (v := valLn ⟨lk, a1, m, c1, lvl, a2, j, c2, lf, bits⟩) (by simp [results, Tryz.results13, go_sem, z0, z1, z2, z3, z4, z5]) rfl ?_
 exact ⟨⟨lk, a1, m, c1, lvl, a2, j, c2, lf, bits⟩, rfl, ⟨⟨rfl, rfl, rfl, rfl, HE.out.1.symm, HE.out.2.symm⟩, HN2.out.1, HN2.out.2⟩, HBF.out⟩
end Yd


namespace Yd
open Go Go.RowKit Go.Proofs

end Yd
