import Derived.Test.YthdpangjphphjaaGreatDoorLxN
import Derived.Test.YthdpangjphphjaaGreatDoorDr
import Derived.Test.YthdpangjphphjaaGreatDoorProg
set_option maxRecDepth 200000
set_option maxHeartbeats 8000000
namespace Yd
open Go Go.RowKit Go.Proofs

def RetOne (x : Bool) (w : World) (e : Ending) (w' : World) : Prop := ∃ (k a : Int) (t : Bs) (nx : Nat) (er : Int), RetTk k a t nx er w e w' ∧ ((er == 0 && k == 1) = x)
theorem lx_c32 (w : World) (hT : Lib.Utf8Tabs 2 3 w) : Calls Tryz.prog 26 #[.string ⟨[32].toArray⟩, .int .i64 0] w (RetOne false w) := by
 have hex : ByteArray.extract ⟨#[32]⟩ 0 1 = ⟨#[32]⟩ := ext_take [32] 1
 have HS := fun W (hb : Below w.heap.size w W) => hid (lx_skip [32] 0 [32] rfl (by simp) (by simp) W (Utf8Tabs_below hT hb))
 have HSK : Hid (skN [32] = 1 ∧ skO [32] = true) := hid ⟨by decide, by decide⟩
 go_enter Tryz.func26, Tryz.ntmps26
 go_wp2_with fail
 refine (HS _ (belowA (Below.refl _ _) _)).out.mono ?_
 rintro e w1 ⟨rfl, hb1⟩
 have HB1 := hid ((belowA (Below.refl w.heap.size w) (.cells (cellsTk 0 0 [] false) 56)).trans (hb1.mono (by simp)))
 have HX1 := hid ((Bx.new w (cellsTk 0 0 [] false) 56).keep hb1)
 clear hb1
 rw [HSK.out.1, HSK.out.2]
 have hcx := (HX1.out.alloc (.cells (cellsTk 0 1 [] false) 56)).1; have hfx := (HX1.out.alloc (.cells (cellsTk 0 1 [] false) 56)).2.1
 have HBZ := hid (belowA HB1.out (.cells (cellsTk 0 1 [] false) 56))
 go_wp2_with fail
 refine bodyPost_ret (v := .tuple #[.agg (cellsTk 5 1 [] false), .int .i64 1, .int .i64 0]) (by simp [results, Tryz.results26, go_sem, hcx]) rfl ⟨5, 1, [], 1, 0, ⟨false, rfl, ?_⟩, by decide⟩
 exact (((HBZ.out.setCell (p := ⟨w.heap.size, 0, none⟩) (Nat.le_refl _) _).setCell (p := ⟨w.heap.size, 1, none⟩) (Nat.le_refl _) _).setCell (p := ⟨w.heap.size, 2, none⟩) (Nat.le_refl _) _).setCell (p := ⟨w.heap.size, 3, none⟩) (Nat.le_refl _) _
theorem lx_c9 (w : World) (hT : Lib.Utf8Tabs 2 3 w) : Calls Tryz.prog 26 #[.string ⟨[9].toArray⟩, .int .i64 0] w (RetOne false w) := by
 have hex : ByteArray.extract ⟨#[9]⟩ 0 1 = ⟨#[9]⟩ := ext_take [9] 1
 have HS := fun W (hb : Below w.heap.size w W) => hid (lx_skip [9] 0 [9] rfl (by simp) (by simp) W (Utf8Tabs_below hT hb))
 have HSK : Hid (skN [9] = 1 ∧ skO [9] = true) := hid ⟨by decide, by decide⟩
 go_enter Tryz.func26, Tryz.ntmps26
 go_wp2_with fail
 refine (HS _ (belowA (Below.refl _ _) _)).out.mono ?_
 rintro e w1 ⟨rfl, hb1⟩
 have HB1 := hid ((belowA (Below.refl w.heap.size w) (.cells (cellsTk 0 0 [] false) 56)).trans (hb1.mono (by simp)))
 have HX1 := hid ((Bx.new w (cellsTk 0 0 [] false) 56).keep hb1)
 clear hb1
 rw [HSK.out.1, HSK.out.2]
 have hcx := (HX1.out.alloc (.cells (cellsTk 0 1 [] false) 56)).1; have hfx := (HX1.out.alloc (.cells (cellsTk 0 1 [] false) 56)).2.1
 have HBZ := hid (belowA HB1.out (.cells (cellsTk 0 1 [] false) 56))
 go_wp2_with fail
 refine bodyPost_ret (v := .tuple #[.agg (cellsTk 5 1 [] false), .int .i64 1, .int .i64 0]) (by simp [results, Tryz.results26, go_sem, hcx]) rfl ⟨5, 1, [], 1, 0, ⟨false, rfl, ?_⟩, by decide⟩
 exact (((HBZ.out.setCell (p := ⟨w.heap.size, 0, none⟩) (Nat.le_refl _) _).setCell (p := ⟨w.heap.size, 1, none⟩) (Nat.le_refl _) _).setCell (p := ⟨w.heap.size, 2, none⟩) (Nat.le_refl _) _).setCell (p := ⟨w.heap.size, 3, none⟩) (Nat.le_refl _) _
theorem lx_c35 (w : World) (hT : Lib.Utf8Tabs 2 3 w) : Calls Tryz.prog 26 #[.string ⟨[35].toArray⟩, .int .i64 0] w (RetOne false w) := by
 have hex : ByteArray.extract ⟨#[35]⟩ 0 1 = ⟨#[35]⟩ := ext_take [35] 1
 have HS := fun W (hb : Below w.heap.size w W) => hid (lx_skip [35] 0 [35] rfl (by simp) (by simp) W (Utf8Tabs_below hT hb))
 have HSK : Hid (skN [35] = 1 ∧ skO [35] = true) := hid ⟨by decide, by decide⟩
 go_enter Tryz.func26, Tryz.ntmps26
 go_wp2_with fail
 refine (HS _ (belowA (Below.refl _ _) _)).out.mono ?_
 rintro e w1 ⟨rfl, hb1⟩
 have HB1 := hid ((belowA (Below.refl w.heap.size w) (.cells (cellsTk 0 0 [] false) 56)).trans (hb1.mono (by simp)))
 have HX1 := hid ((Bx.new w (cellsTk 0 0 [] false) 56).keep hb1)
 clear hb1
 rw [HSK.out.1, HSK.out.2]
 have hcx := (HX1.out.alloc (.cells (cellsTk 0 1 [] false) 56)).1; have hfx := (HX1.out.alloc (.cells (cellsTk 0 1 [] false) 56)).2.1
 have HBZ := hid (belowA HB1.out (.cells (cellsTk 0 1 [] false) 56))
 go_wp2_with fail
 refine bodyPost_ret (v := .tuple #[.agg (cellsTk 5 1 [] false), .int .i64 1, .int .i64 0]) (by simp [results, Tryz.results26, go_sem, hcx]) rfl ⟨5, 1, [], 1, 0, ⟨false, rfl, ?_⟩, by decide⟩
 exact (((HBZ.out.setCell (p := ⟨w.heap.size, 0, none⟩) (Nat.le_refl _) _).setCell (p := ⟨w.heap.size, 1, none⟩) (Nat.le_refl _) _).setCell (p := ⟨w.heap.size, 2, none⟩) (Nat.le_refl _) _).setCell (p := ⟨w.heap.size, 3, none⟩) (Nat.le_refl _) _
theorem lx_c10 (w : World) (hT : Lib.Utf8Tabs 2 3 w) : Calls Tryz.prog 26 #[.string ⟨[10].toArray⟩, .int .i64 0] w (RetOne false w) := by
 have hex : ByteArray.extract ⟨#[10]⟩ 0 1 = ⟨#[10]⟩ := ext_take [10] 1
 have HS := fun W (hb : Below w.heap.size w W) => hid (lx_skip [10] 0 [10] rfl (by simp) (by simp) W (Utf8Tabs_below hT hb))
 have HSK : Hid (skN [10] = 0 ∧ skO [10] = true) := hid ⟨by decide, by decide⟩
 go_enter Tryz.func26, Tryz.ntmps26
 go_wp2_with fail
 refine (HS _ (belowA (Below.refl _ _) _)).out.mono ?_
 rintro e w1 ⟨rfl, hb1⟩
 have HB1 := hid ((belowA (Below.refl w.heap.size w) (.cells (cellsTk 0 0 [] false) 56)).trans (hb1.mono (by simp)))
 have HX1 := hid ((Bx.new w (cellsTk 0 0 [] false) 56).keep hb1)
 clear hb1
 rw [HSK.out.1, HSK.out.2]
 have hcx := (HX1.out.alloc (.cells (cellsTk 0 0 [] false) 56)).1; have hfx := (HX1.out.alloc (.cells (cellsTk 0 0 [] false) 56)).2.1
 have HBZ := hid (belowA HB1.out (.cells (cellsTk 0 0 [] false) 56))
 go_wp2_with fail
 refine bodyPost_ret (v := .tuple #[.agg (cellsTk 4 0 [10] false), .int .i64 1, .int .i64 0]) (by simp [results, Tryz.results26, go_sem, hcx]) rfl ⟨4, 0, [10], 1, 0, ⟨false, rfl, ?_⟩, by decide⟩
 exact (((HBZ.out.setCell (p := ⟨w.heap.size, 0, none⟩) (Nat.le_refl _) _).setCell (p := ⟨w.heap.size, 1, none⟩) (Nat.le_refl _) _).setCell (p := ⟨w.heap.size, 2, none⟩) (Nat.le_refl _) _).setCell (p := ⟨w.heap.size, 3, none⟩) (Nat.le_refl _) _
theorem lx_c46 (w : World) (hT : Lib.Utf8Tabs 2 3 w) : Calls Tryz.prog 26 #[.string ⟨[46].toArray⟩, .int .i64 0] w (RetOne false w) := by
 have hex : ByteArray.extract ⟨#[46]⟩ 0 1 = ⟨#[46]⟩ := ext_take [46] 1
 have HS := fun W (hb : Below w.heap.size w W) => hid (lx_skip [46] 0 [46] rfl (by simp) (by simp) W (Utf8Tabs_below hT hb))
 have HSK : Hid (skN [46] = 0 ∧ skO [46] = true) := hid ⟨by decide, by decide⟩
 go_enter Tryz.func26, Tryz.ntmps26
 go_wp2_with fail
 refine (HS _ (belowA (Below.refl _ _) _)).out.mono ?_
 rintro e w1 ⟨rfl, hb1⟩
 have HB1 := hid ((belowA (Below.refl w.heap.size w) (.cells (cellsTk 0 0 [] false) 56)).trans (hb1.mono (by simp)))
 have HX1 := hid ((Bx.new w (cellsTk 0 0 [] false) 56).keep hb1)
 clear hb1
 rw [HSK.out.1, HSK.out.2]
 have HB4 := hid (belowA HB1.out (.cells (cellsTk 0 0 [] false) 56)); have HX4 := hid (HX1.out.alloc (.cells (cellsTk 0 0 [] false) 56)); have HY4 := hid (Bx.new w1 (cellsTk 0 0 [] false) 56)
 have HZ3 := hid (show w.heap.size < w1.heap.size from HX1.out.2.2)
 clear HB1 HX1
 go_wp2_with fail
 trace_state
 generalize w1.alloc (.cells (cellsTk 0 0 [] false) 56) = w4 at HB4 HX4 HY4 ⊢
 generalize w1.heap.size = tb at HY4 HZ3 ⊢
 have hcy := HY4.out.1; have hfy := HY4.out.2.1
 go_wp2_with fail
 refine wp_region_ordC 99 [(0, 0), (1, 0), (2, 0), (3, 2), (4, 0), (5, 2)] (fun _ => True) (fun _ => True) (by kernel_rfl) (by kernel_rfl) (trivial) (trivial) ?_
 repeat ((first | refine ordC_skip rfl rfl ?_ | refine ordC_skip1 rfl rfl ?_ | ((first | refine ordC_q rfl rfl ?_ | refine ordC_p rfl rfl ?_); apply Exists.intro; refine ⟨fun wS hS => ?_, ?_⟩; (go_simp; try with_reducible rfl))); simp only [Act.put, List.setIfInBounds_toArray, List.set_cons_zero, List.set_cons_succ])
 refine ordC_l rfl rfl (fun K hK => ?_)
 go_simp
 refine hK _ _ ⟨trivial, trivial⟩ ?_
 clear hK K
 repeat ((first | refine ordC_skip rfl rfl ?_ | refine ordC_skip1 rfl rfl ?_ | ((first | refine ordC_q rfl rfl ?_ | refine ordC_p rfl rfl ?_); apply Exists.intro; refine ⟨fun wS hS => ?_, ?_⟩; (go_simp; try with_reducible rfl))); simp only [Act.put, List.setIfInBounds_toArray, List.set_cons_zero, List.set_cons_succ])
 refine ordC_l rfl rfl (fun K hK => ?_)
 go_simp
 refine hK _ _ ⟨trivial, trivial⟩ ?_
 clear hK K
 refine ordC_nil ?_
 have HY5 := hid (((HY4.out.setC 0 (by simp) (.int .i64 3)).setC 2 (by simp) (.string ⟨[46].toArray⟩)).drew)
 have HX5 := hid (((HX4.out.setOther tb 0 (.int .i64 3) (by have := HZ3.out; omega)).setOther tb 2 (.string ⟨[46].toArray⟩) (by have := HZ3.out; omega)).drew)
 have HB5 := hid (((HB4.out.setCell (p := ⟨tb, 0, none⟩) (by have := HZ3.out; show _ ≤ tb; omega) (.int .i64 3)).setCell (p := ⟨tb, 2, none⟩) (by have := HZ3.out; show _ ≤ tb; omega) (.string ⟨[46].toArray⟩)).drew)
 generalize ((w4.setCell ⟨tb, 0, none⟩ (.int .i64 3)).setCell ⟨tb, 2, none⟩ (.string ⟨[46].toArray⟩)).drew = Z at HY5 HX5 HB5 ⊢
 clear hcy hfy HX4 HY4 HB4
 have hcz := HX5.out.1; have hfz := HX5.out.2.1
 go_wp2_with fail
 refine wp_region_ordC 99 [(0, 0), (1, 0), (2, 0), (3, 0), (4, 0), (5, 0), (6, 2), (7, 0), (8, 0)] (fun _ => True) (fun W' => Bx W' tb (cellsTk 3 0 [46] false)) (by kernel_rfl) (by kernel_rfl) (trivial) (HY5.out.drew) ?_
 repeat ((first | refine ordC_skip rfl rfl ?_ | refine ordC_skip1 rfl rfl ?_ | ((first | refine ordC_q rfl rfl ?_ | refine ordC_p rfl rfl ?_); apply Exists.intro; refine ⟨fun wS hS => ?_, ?_⟩; (go_simp; try with_reducible rfl))); simp only [Act.put, List.setIfInBounds_toArray, List.set_cons_zero, List.set_cons_succ])
 refine ordC_l rfl rfl (fun K hK => ?_)
 go_simp
 refine hK _ _ ⟨trivial, (((HY5.out.drew.setOther w.heap.size 0 _ (by have := HZ3.out; omega)).setOther w.heap.size 1 _ (by have := HZ3.out; omega)).setOther w.heap.size 2 _ (by have := HZ3.out; omega)).setOther w.heap.size 3 _ (by have := HZ3.out; omega)⟩ ?_
 clear hK K
 repeat ((first | refine ordC_skip rfl rfl ?_ | refine ordC_skip1 rfl rfl ?_ | ((first | refine ordC_q rfl rfl ?_ | refine ordC_p rfl rfl ?_); apply Exists.intro; refine ⟨fun wS hS => ?_, ?_⟩; (go_simp; try with_reducible rfl))); simp only [Act.put, List.setIfInBounds_toArray, List.set_cons_zero, List.set_cons_succ])
 refine ordC_nil ?_
 go_wp2_with fail
 have hwq : IntKind.i64.wrap 1 = 1 := Go.IntWalk.i64_in 1 (by omega)
 refine bodyPost_ret (v := .tuple #[.agg (cellsTk 3 0 [46] false), .int .i64 1, .int .i64 0]) (by simp [results, Tryz.results26, go_sem, hcz, hwq]) rfl ⟨3, 0, [46], 1, 0, ⟨false, rfl, ?_⟩, by decide⟩
 exact ((((HB5.out.drew).setCell (p := ⟨w.heap.size, 0, none⟩) (Nat.le_refl _) _).setCell (p := ⟨w.heap.size, 1, none⟩) (Nat.le_refl _) _).setCell (p := ⟨w.heap.size, 2, none⟩) (Nat.le_refl _) _).setCell (p := ⟨w.heap.size, 3, none⟩) (Nat.le_refl _) _
theorem lx_c45 (w : World) (hT : Lib.Utf8Tabs 2 3 w) : Calls Tryz.prog 26 #[.string ⟨[45].toArray⟩, .int .i64 0] w (RetOne false w) := by
 have hex : ByteArray.extract ⟨#[45]⟩ 0 1 = ⟨#[45]⟩ := ext_take [45] 1
 have HS := fun W (hb : Below w.heap.size w W) => hid (lx_skip [45] 0 [45] rfl (by simp) (by simp) W (Utf8Tabs_below hT hb))
 have HSK : Hid (skN [45] = 0 ∧ skO [45] = true) := hid ⟨by decide, by decide⟩
 go_enter Tryz.func26, Tryz.ntmps26
 go_wp2_with fail
 refine (HS _ (belowA (Below.refl _ _) _)).out.mono ?_
 rintro e w1 ⟨rfl, hb1⟩
 have HB1 := hid ((belowA (Below.refl w.heap.size w) (.cells (cellsTk 0 0 [] false) 56)).trans (hb1.mono (by simp)))
 have HX1 := hid ((Bx.new w (cellsTk 0 0 [] false) 56).keep hb1)
 clear hb1
 rw [HSK.out.1, HSK.out.2]
 have HB4 := hid (belowA HB1.out (.cells (cellsTk 0 0 [] false) 56)); have HX4 := hid (HX1.out.alloc (.cells (cellsTk 0 0 [] false) 56)); have HY4 := hid (Bx.new w1 (cellsTk 0 0 [] false) 56)
 have HZ3 := hid (show w.heap.size < w1.heap.size from HX1.out.2.2)
 clear HB1 HX1
 go_wp2_with fail
 trace_state
 generalize w1.alloc (.cells (cellsTk 0 0 [] false) 56) = w4 at HB4 HX4 HY4 ⊢
 generalize w1.heap.size = tb at HY4 HZ3 ⊢
 have hcy := HY4.out.1; have hfy := HY4.out.2.1
 go_wp2_with fail
 refine wp_region_ordC 99 [(0, 0), (1, 0), (2, 0), (3, 2), (4, 0), (5, 2)] (fun _ => True) (fun _ => True) (by kernel_rfl) (by kernel_rfl) (trivial) (trivial) ?_
 repeat ((first | refine ordC_skip rfl rfl ?_ | refine ordC_skip1 rfl rfl ?_ | ((first | refine ordC_q rfl rfl ?_ | refine ordC_p rfl rfl ?_); apply Exists.intro; refine ⟨fun wS hS => ?_, ?_⟩; (go_simp; try with_reducible rfl))); simp only [Act.put, List.setIfInBounds_toArray, List.set_cons_zero, List.set_cons_succ])
 refine ordC_l rfl rfl (fun K hK => ?_)
 go_simp
 refine hK _ _ ⟨trivial, trivial⟩ ?_
 clear hK K
 repeat ((first | refine ordC_skip rfl rfl ?_ | refine ordC_skip1 rfl rfl ?_ | ((first | refine ordC_q rfl rfl ?_ | refine ordC_p rfl rfl ?_); apply Exists.intro; refine ⟨fun wS hS => ?_, ?_⟩; (go_simp; try with_reducible rfl))); simp only [Act.put, List.setIfInBounds_toArray, List.set_cons_zero, List.set_cons_succ])
 refine ordC_l rfl rfl (fun K hK => ?_)
 go_simp
 refine hK _ _ ⟨trivial, trivial⟩ ?_
 clear hK K
 refine ordC_nil ?_
 have HY5 := hid (((HY4.out.setC 0 (by simp) (.int .i64 3)).setC 2 (by simp) (.string ⟨[45].toArray⟩)).drew)
 have HX5 := hid (((HX4.out.setOther tb 0 (.int .i64 3) (by have := HZ3.out; omega)).setOther tb 2 (.string ⟨[45].toArray⟩) (by have := HZ3.out; omega)).drew)
 have HB5 := hid (((HB4.out.setCell (p := ⟨tb, 0, none⟩) (by have := HZ3.out; show _ ≤ tb; omega) (.int .i64 3)).setCell (p := ⟨tb, 2, none⟩) (by have := HZ3.out; show _ ≤ tb; omega) (.string ⟨[45].toArray⟩)).drew)
 generalize ((w4.setCell ⟨tb, 0, none⟩ (.int .i64 3)).setCell ⟨tb, 2, none⟩ (.string ⟨[45].toArray⟩)).drew = Z at HY5 HX5 HB5 ⊢
 clear hcy hfy HX4 HY4 HB4
 have hcz := HX5.out.1; have hfz := HX5.out.2.1
 go_wp2_with fail
 refine wp_region_ordC 99 [(0, 0), (1, 0), (2, 0), (3, 0), (4, 0), (5, 0), (6, 2), (7, 0), (8, 0)] (fun _ => True) (fun W' => Bx W' tb (cellsTk 3 0 [45] false)) (by kernel_rfl) (by kernel_rfl) (trivial) (HY5.out.drew) ?_
 repeat ((first | refine ordC_skip rfl rfl ?_ | refine ordC_skip1 rfl rfl ?_ | ((first | refine ordC_q rfl rfl ?_ | refine ordC_p rfl rfl ?_); apply Exists.intro; refine ⟨fun wS hS => ?_, ?_⟩; (go_simp; try with_reducible rfl))); simp only [Act.put, List.setIfInBounds_toArray, List.set_cons_zero, List.set_cons_succ])
 refine ordC_l rfl rfl (fun K hK => ?_)
 go_simp
 refine hK _ _ ⟨trivial, (((HY5.out.drew.setOther w.heap.size 0 _ (by have := HZ3.out; omega)).setOther w.heap.size 1 _ (by have := HZ3.out; omega)).setOther w.heap.size 2 _ (by have := HZ3.out; omega)).setOther w.heap.size 3 _ (by have := HZ3.out; omega)⟩ ?_
 clear hK K
 repeat ((first | refine ordC_skip rfl rfl ?_ | refine ordC_skip1 rfl rfl ?_ | ((first | refine ordC_q rfl rfl ?_ | refine ordC_p rfl rfl ?_); apply Exists.intro; refine ⟨fun wS hS => ?_, ?_⟩; (go_simp; try with_reducible rfl))); simp only [Act.put, List.setIfInBounds_toArray, List.set_cons_zero, List.set_cons_succ])
 refine ordC_nil ?_
 go_wp2_with fail
 have hwq : IntKind.i64.wrap 1 = 1 := Go.IntWalk.i64_in 1 (by omega)
 refine bodyPost_ret (v := .tuple #[.agg (cellsTk 3 0 [45] false), .int .i64 1, .int .i64 0]) (by simp [results, Tryz.results26, go_sem, hcz, hwq]) rfl ⟨3, 0, [45], 1, 0, ⟨false, rfl, ?_⟩, by decide⟩
 exact ((((HB5.out.drew).setCell (p := ⟨w.heap.size, 0, none⟩) (Nat.le_refl _) _).setCell (p := ⟨w.heap.size, 1, none⟩) (Nat.le_refl _) _).setCell (p := ⟨w.heap.size, 2, none⟩) (Nat.le_refl _) _).setCell (p := ⟨w.heap.size, 3, none⟩) (Nat.le_refl _) _
end Yd
