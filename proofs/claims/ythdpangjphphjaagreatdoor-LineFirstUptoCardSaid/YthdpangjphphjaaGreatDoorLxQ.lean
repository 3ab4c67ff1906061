import Derived.Test.YthdpangjphphjaaGreatDoorLxN
import Derived.Test.YthdpangjphphjaaGreatDoorLxO
import Derived.Test.YthdpangjphphjaaGreatDoorProg
set_option maxRecDepth 200000
set_option maxHeartbeats 8000000
namespace Yd
open Go Go.RowKit Go.Proofs

theorem call_num : ∀ args w, (callFunc 84 args).run Tryz.prog w = .ok (.enter 84 args) w := enters_of Tryz.func84 (by kernel_rfl) rfl
theorem lx_c48 (w : World) (hT : Lib.Utf8Tabs 2 3 w) : Calls Tryz.prog 26 #[.string ⟨[48].toArray⟩, .int .i64 0] w (RetOne false w) := by
 have hi0 : ∀ W, (Instr.index 9 (.string ⟨#[48]⟩) (.int .i64 0)).run Tryz.prog W = .ok (.int .u8 48) W := fun W => run_ix Tryz.underlying9 [48] 0 48 rfl W
 have hnum : numB 48 = true := by decide
 have HW := fun W (hb : Below w.heap.size w W) => hid (while_any ⟨[48].toArray⟩ 84 #[] call_num numB W (fun r W' _ => number_any r W') (Utf8Tabs_below hT hb))
 rw [show whileE ⟨[48].toArray⟩ numB = 1 from by decide] at HW
 have HD := fun W => hid (dr_Read 0 (by decide) W)
 have hex : ByteArray.extract ⟨#[48]⟩ 0 1 = ⟨#[48]⟩ := ext_take [48] 1
 have HS := fun W (hb : Below w.heap.size w W) => hid (lx_skip [48] 0 [48] rfl (by simp) (by simp) W (Utf8Tabs_below hT hb))
 have HSK : Hid (skN [48] = 0 ∧ skO [48] = true) := hid ⟨by decide, by decide⟩
 go_enter Tryz.func26, Tryz.ntmps26
 go_wp2_with fail
 refine (HS _ (belowA (Below.refl _ _) _)).out.mono ?_
 rintro e w1 ⟨rfl, hb1⟩
 have HB1 := hid ((belowA (Below.refl w.heap.size w) (.cells (cellsTk 0 0 [] false) 56)).trans (hb1.mono (by simp)))
 have HX1 := hid ((Bx.new w (cellsTk 0 0 [] false) 56).keep hb1)
 clear hb1
 rw [HSK.out.1, HSK.out.2]
 go_wp2_with fail
 refine (number_any _ _).mono ?_
 rintro e w3 ⟨rfl, hb3⟩
 rw [hnum]
 have HB3 := hid ((belowA HB1.out (.cells (cellsTk 0 0 [] false) 56)).trans (hb3.mono (by have := HB1.out.size; simp; omega)))
 have HX3 := hid ((HX1.out.alloc (.cells (cellsTk 0 0 [] false) 56)).keep hb3); have HY3 := hid ((Bx.new w1 (cellsTk 0 0 [] false) 56).keep hb3)
 have HZ3 := hid (show w.heap.size < w1.heap.size from HX1.out.2.2)
 clear hb3
 go_wp2_with fail
 refine (HW _ HB3.out).out.mono ?_
 rintro e w5 ⟨rfl, hb5⟩
 have HB5 := hid (HB3.out.trans (hb5.mono HB3.out.size)); have HX5 := hid (HX3.out.keep hb5); have HY5 := hid (HY3.out.keep hb5)
 clear hb5 HB3 HX3 HY3
 go_wp2_with fail
 refine (HD _).out.mono ?_
 rintro e w4 ⟨rfl, hb4⟩
 have HB4 := hid (HB5.out.trans (hb4.mono HB5.out.size)); have HX4 := hid (HX5.out.keep hb4); have HY4 := hid (HY5.out.keep hb4)
 clear hb4 HB5 HX5 HY5 HB1 HX1
 generalize w1.heap.size = tb at HY4 HZ3 ⊢
 have hcy := HY4.out.1; have hfy := HY4.out.2.1
 go_wp2_with fail
 refine wp_region_ordC 99 [(0, 0), (1, 0), (2, 0), (3, 0), (4, 2), (5, 0), (6, 2)] (fun _ => True) (fun _ => True) (by kernel_rfl) (by kernel_rfl) (trivial) (trivial) ?_
 repeat ((first | refine ordC_skip rfl rfl ?_ | refine ordC_skip1 rfl rfl ?_ | ((first | refine ordC_q rfl rfl ?_ | refine ordC_p rfl rfl ?_); apply Exists.intro; refine ⟨fun wS hS => ?_, ?_⟩; (go_simp; try with_reducible rfl))); simp only [Act.put, List.setIfInBounds_toArray, List.set_cons_zero, List.set_cons_succ])
 refine ordC_l rfl rfl (fun K hK => ?_)
 go_simp
 refine hK _ _ ⟨trivial, trivial⟩ ?_
 clear hK K
 repeat ((first | refine ordC_skip rfl rfl ?_ | refine ordC_skip1 rfl rfl ?_ | ((first | refine ordC_q rfl rfl ?_ | refine ordC_p rfl rfl ?_); apply Exists.intro; refine ⟨fun wS hS => ?_, ?_⟩; (go_simp; try with_reducible rfl))); simp only [Act.put, List.setIfInBounds_toArray, List.set_cons_zero, List.set_cons_succ])
 refine ordC_l rfl rfl (fun K hK => ?_)
 go_simp
 refine hK _ _ ⟨trivial, trivial⟩ ?_
 clear hK K
 refine ordC_nil ?_
 have HY5 := hid (((HY4.out.setC 0 (by simp) (.int .i64 2)).setC 2 (by simp) (.string ⟨[48].toArray⟩)).drew)
 have HX5 := hid (((HX4.out.setOther tb 0 (.int .i64 2) (by have := HZ3.out; omega)).setOther tb 2 (.string ⟨[48].toArray⟩) (by have := HZ3.out; omega)).drew)
 have HB5 := hid (((HB4.out.setCell (p := ⟨tb, 0, none⟩) (by have := HZ3.out; show _ ≤ tb; omega) (.int .i64 2)).setCell (p := ⟨tb, 2, none⟩) (by have := HZ3.out; show _ ≤ tb; omega) (.string ⟨[48].toArray⟩)).drew)
 generalize ((w4.setCell ⟨tb, 0, none⟩ (.int .i64 2)).setCell ⟨tb, 2, none⟩ (.string ⟨[48].toArray⟩)).drew = Z at HY5 HX5 HB5 ⊢
 clear hcy hfy HX4 HY4 HB4
 have hcz := HX5.out.1; have hfz := HX5.out.2.1
 go_wp2_with fail
 refine wp_region_ordC 99 [(0, 0), (1, 0), (2, 0), (3, 0), (4, 0), (5, 0), (6, 2), (7, 0), (8, 0)] (fun _ => True) (fun W' => Bx W' tb (cellsTk 2 0 [48] false)) (by kernel_rfl) (by kernel_rfl) (trivial) (HY5.out.drew) ?_
 repeat ((first | refine ordC_skip rfl rfl ?_ | refine ordC_skip1 rfl rfl ?_ | ((first | refine ordC_q rfl rfl ?_ | refine ordC_p rfl rfl ?_); apply Exists.intro; refine ⟨fun wS hS => ?_, ?_⟩; (go_simp; try with_reducible rfl))); simp only [Act.put, List.setIfInBounds_toArray, List.set_cons_zero, List.set_cons_succ])
 refine ordC_l rfl rfl (fun K hK => ?_)
 go_simp
 refine hK _ _ ⟨trivial, (((HY5.out.drew.setOther w.heap.size 0 _ (by have := HZ3.out; omega)).setOther w.heap.size 1 _ (by have := HZ3.out; omega)).setOther w.heap.size 2 _ (by have := HZ3.out; omega)).setOther w.heap.size 3 _ (by have := HZ3.out; omega)⟩ ?_
 clear hK K
 repeat ((first | refine ordC_skip rfl rfl ?_ | refine ordC_skip1 rfl rfl ?_ | ((first | refine ordC_q rfl rfl ?_ | refine ordC_p rfl rfl ?_); apply Exists.intro; refine ⟨fun wS hS => ?_, ?_⟩; (go_simp; try with_reducible rfl))); simp only [Act.put, List.setIfInBounds_toArray, List.set_cons_zero, List.set_cons_succ])
 refine ordC_nil ?_
 go_wp2_with fail
 have hwq : IntKind.i64.wrap 1 = 1 := Go.IntWalk.i64_in 1 (by omega)
 refine bodyPost_ret (v := .tuple #[.agg (cellsTk 2 0 [48] false), .int .i64 1, .int .i64 0]) (by simp [results, Tryz.results26, go_sem, hcz, hwq]) rfl ⟨2, 0, [48], 1, 0, ⟨false, rfl, ?_⟩, by decide⟩
 exact ((((HB5.out.drew).setCell (p := ⟨w.heap.size, 0, none⟩) (Nat.le_refl _) _).setCell (p := ⟨w.heap.size, 1, none⟩) (Nat.le_refl _) _).setCell (p := ⟨w.heap.size, 2, none⟩) (Nat.le_refl _) _).setCell (p := ⟨w.heap.size, 3, none⟩) (Nat.le_refl _) _
theorem lx_c49 (w : World) (hT : Lib.Utf8Tabs 2 3 w) : Calls Tryz.prog 26 #[.string ⟨[49].toArray⟩, .int .i64 0] w (RetOne false w) := by
 have hi0 : ∀ W, (Instr.index 9 (.string ⟨#[49]⟩) (.int .i64 0)).run Tryz.prog W = .ok (.int .u8 49) W := fun W => run_ix Tryz.underlying9 [49] 0 49 rfl W
 have hnum : numB 49 = true := by decide
 have HW := fun W (hb : Below w.heap.size w W) => hid (while_any ⟨[49].toArray⟩ 84 #[] call_num numB W (fun r W' _ => number_any r W') (Utf8Tabs_below hT hb))
 rw [show whileE ⟨[49].toArray⟩ numB = 1 from by decide] at HW
 have HD := fun W => hid (dr_Read 1 (by decide) W)
 have hex : ByteArray.extract ⟨#[49]⟩ 0 1 = ⟨#[49]⟩ := ext_take [49] 1
 have HS := fun W (hb : Below w.heap.size w W) => hid (lx_skip [49] 0 [49] rfl (by simp) (by simp) W (Utf8Tabs_below hT hb))
 have HSK : Hid (skN [49] = 0 ∧ skO [49] = true) := hid ⟨by decide, by decide⟩
 go_enter Tryz.func26, Tryz.ntmps26
 go_wp2_with fail
 refine (HS _ (belowA (Below.refl _ _) _)).out.mono ?_
 rintro e w1 ⟨rfl, hb1⟩
 have HB1 := hid ((belowA (Below.refl w.heap.size w) (.cells (cellsTk 0 0 [] false) 56)).trans (hb1.mono (by simp)))
 have HX1 := hid ((Bx.new w (cellsTk 0 0 [] false) 56).keep hb1)
 clear hb1
 rw [HSK.out.1, HSK.out.2]
 go_wp2_with fail
 refine (number_any _ _).mono ?_
 rintro e w3 ⟨rfl, hb3⟩
 rw [hnum]
 have HB3 := hid ((belowA HB1.out (.cells (cellsTk 0 0 [] false) 56)).trans (hb3.mono (by have := HB1.out.size; simp; omega)))
 have HX3 := hid ((HX1.out.alloc (.cells (cellsTk 0 0 [] false) 56)).keep hb3); have HY3 := hid ((Bx.new w1 (cellsTk 0 0 [] false) 56).keep hb3)
 have HZ3 := hid (show w.heap.size < w1.heap.size from HX1.out.2.2)
 clear hb3
 go_wp2_with fail
 refine (HW _ HB3.out).out.mono ?_
 rintro e w5 ⟨rfl, hb5⟩
 have HB5 := hid (HB3.out.trans (hb5.mono HB3.out.size)); have HX5 := hid (HX3.out.keep hb5); have HY5 := hid (HY3.out.keep hb5)
 clear hb5 HB3 HX3 HY3
 go_wp2_with fail
 refine (HD _).out.mono ?_
 rintro e w4 ⟨rfl, hb4⟩
 have HB4 := hid (HB5.out.trans (hb4.mono HB5.out.size)); have HX4 := hid (HX5.out.keep hb4); have HY4 := hid (HY5.out.keep hb4)
 clear hb4 HB5 HX5 HY5 HB1 HX1
 generalize w1.heap.size = tb at HY4 HZ3 ⊢
 have hcy := HY4.out.1; have hfy := HY4.out.2.1
 go_wp2_with fail
 refine wp_region_ordC 99 [(0, 0), (1, 0), (2, 0), (3, 0), (4, 2), (5, 0), (6, 2)] (fun _ => True) (fun _ => True) (by kernel_rfl) (by kernel_rfl) (trivial) (trivial) ?_
 repeat ((first | refine ordC_skip rfl rfl ?_ | refine ordC_skip1 rfl rfl ?_ | ((first | refine ordC_q rfl rfl ?_ | refine ordC_p rfl rfl ?_); apply Exists.intro; refine ⟨fun wS hS => ?_, ?_⟩; (go_simp; try with_reducible rfl))); simp only [Act.put, List.setIfInBounds_toArray, List.set_cons_zero, List.set_cons_succ])
 refine ordC_l rfl rfl (fun K hK => ?_)
 go_simp
 refine hK _ _ ⟨trivial, trivial⟩ ?_
 clear hK K
 repeat ((first | refine ordC_skip rfl rfl ?_ | refine ordC_skip1 rfl rfl ?_ | ((first | refine ordC_q rfl rfl ?_ | refine ordC_p rfl rfl ?_); apply Exists.intro; refine ⟨fun wS hS => ?_, ?_⟩; (go_simp; try with_reducible rfl))); simp only [Act.put, List.setIfInBounds_toArray, List.set_cons_zero, List.set_cons_succ])
 refine ordC_l rfl rfl (fun K hK => ?_)
 go_simp
 refine hK _ _ ⟨trivial, trivial⟩ ?_
 clear hK K
 refine ordC_nil ?_
 have HY5 := hid (((HY4.out.setC 0 (by simp) (.int .i64 2)).setC 2 (by simp) (.string ⟨[49].toArray⟩)).drew)
 have HX5 := hid (((HX4.out.setOther tb 0 (.int .i64 2) (by have := HZ3.out; omega)).setOther tb 2 (.string ⟨[49].toArray⟩) (by have := HZ3.out; omega)).drew)
 have HB5 := hid (((HB4.out.setCell (p := ⟨tb, 0, none⟩) (by have := HZ3.out; show _ ≤ tb; omega) (.int .i64 2)).setCell (p := ⟨tb, 2, none⟩) (by have := HZ3.out; show _ ≤ tb; omega) (.string ⟨[49].toArray⟩)).drew)
 generalize ((w4.setCell ⟨tb, 0, none⟩ (.int .i64 2)).setCell ⟨tb, 2, none⟩ (.string ⟨[49].toArray⟩)).drew = Z at HY5 HX5 HB5 ⊢
 clear hcy hfy HX4 HY4 HB4
 have hcz := HX5.out.1; have hfz := HX5.out.2.1
 go_wp2_with fail
 refine wp_region_ordC 99 [(0, 0), (1, 0), (2, 0), (3, 0), (4, 0), (5, 0), (6, 2), (7, 0), (8, 0)] (fun _ => True) (fun W' => Bx W' tb (cellsTk 2 0 [49] false)) (by kernel_rfl) (by kernel_rfl) (trivial) (HY5.out.drew) ?_
 repeat ((first | refine ordC_skip rfl rfl ?_ | refine ordC_skip1 rfl rfl ?_ | ((first | refine ordC_q rfl rfl ?_ | refine ordC_p rfl rfl ?_); apply Exists.intro; refine ⟨fun wS hS => ?_, ?_⟩; (go_simp; try with_reducible rfl))); simp only [Act.put, List.setIfInBounds_toArray, List.set_cons_zero, List.set_cons_succ])
 refine ordC_l rfl rfl (fun K hK => ?_)
 go_simp
 refine hK _ _ ⟨trivial, (((HY5.out.drew.setOther w.heap.size 0 _ (by have := HZ3.out; omega)).setOther w.heap.size 1 _ (by have := HZ3.out; omega)).setOther w.heap.size 2 _ (by have := HZ3.out; omega)).setOther w.heap.size 3 _ (by have := HZ3.out; omega)⟩ ?_
 clear hK K
 repeat ((first | refine ordC_skip rfl rfl ?_ | refine ordC_skip1 rfl rfl ?_ | ((first | refine ordC_q rfl rfl ?_ | refine ordC_p rfl rfl ?_); apply Exists.intro; refine ⟨fun wS hS => ?_, ?_⟩; (go_simp; try with_reducible rfl))); simp only [Act.put, List.setIfInBounds_toArray, List.set_cons_zero, List.set_cons_succ])
 refine ordC_nil ?_
 go_wp2_with fail
 have hwq : IntKind.i64.wrap 1 = 1 := Go.IntWalk.i64_in 1 (by omega)
 refine bodyPost_ret (v := .tuple #[.agg (cellsTk 2 0 [49] false), .int .i64 1, .int .i64 0]) (by simp [results, Tryz.results26, go_sem, hcz, hwq]) rfl ⟨2, 0, [49], 1, 0, ⟨false, rfl, ?_⟩, by decide⟩
 exact ((((HB5.out.drew).setCell (p := ⟨w.heap.size, 0, none⟩) (Nat.le_refl _) _).setCell (p := ⟨w.heap.size, 1, none⟩) (Nat.le_refl _) _).setCell (p := ⟨w.heap.size, 2, none⟩) (Nat.le_refl _) _).setCell (p := ⟨w.heap.size, 3, none⟩) (Nat.le_refl _) _
theorem lx_c50 (w : World) (hT : Lib.Utf8Tabs 2 3 w) : Calls Tryz.prog 26 #[.string ⟨[50].toArray⟩, .int .i64 0] w (RetOne false w) := by
 have hi0 : ∀ W, (Instr.index 9 (.string ⟨#[50]⟩) (.int .i64 0)).run Tryz.prog W = .ok (.int .u8 50) W := fun W => run_ix Tryz.underlying9 [50] 0 50 rfl W
 have hnum : numB 50 = true := by decide
 have HW := fun W (hb : Below w.heap.size w W) => hid (while_any ⟨[50].toArray⟩ 84 #[] call_num numB W (fun r W' _ => number_any r W') (Utf8Tabs_below hT hb))
 rw [show whileE ⟨[50].toArray⟩ numB = 1 from by decide] at HW
 have HD := fun W => hid (dr_Read 2 (by decide) W)
 have hex : ByteArray.extract ⟨#[50]⟩ 0 1 = ⟨#[50]⟩ := ext_take [50] 1
 have HS := fun W (hb : Below w.heap.size w W) => hid (lx_skip [50] 0 [50] rfl (by simp) (by simp) W (Utf8Tabs_below hT hb))
 have HSK : Hid (skN [50] = 0 ∧ skO [50] = true) := hid ⟨by decide, by decide⟩
 go_enter Tryz.func26, Tryz.ntmps26
 go_wp2_with fail
 refine (HS _ (belowA (Below.refl _ _) _)).out.mono ?_
 rintro e w1 ⟨rfl, hb1⟩
 have HB1 := hid ((belowA (Below.refl w.heap.size w) (.cells (cellsTk 0 0 [] false) 56)).trans (hb1.mono (by simp)))
 have HX1 := hid ((Bx.new w (cellsTk 0 0 [] false) 56).keep hb1)
 clear hb1
 rw [HSK.out.1, HSK.out.2]
 go_wp2_with fail
 refine (number_any _ _).mono ?_
 rintro e w3 ⟨rfl, hb3⟩
 rw [hnum]
 have HB3 := hid ((belowA HB1.out (.cells (cellsTk 0 0 [] false) 56)).trans (hb3.mono (by have := HB1.out.size; simp; omega)))
 have HX3 := hid ((HX1.out.alloc (.cells (cellsTk 0 0 [] false) 56)).keep hb3); have HY3 := hid ((Bx.new w1 (cellsTk 0 0 [] false) 56).keep hb3)
 have HZ3 := hid (show w.heap.size < w1.heap.size from HX1.out.2.2)
 clear hb3
 go_wp2_with fail
 refine (HW _ HB3.out).out.mono ?_
 rintro e w5 ⟨rfl, hb5⟩
 have HB5 := hid (HB3.out.trans (hb5.mono HB3.out.size)); have HX5 := hid (HX3.out.keep hb5); have HY5 := hid (HY3.out.keep hb5)
 clear hb5 HB3 HX3 HY3
 go_wp2_with fail
 refine (HD _).out.mono ?_
 rintro e w4 ⟨rfl, hb4⟩
 have HB4 := hid (HB5.out.trans (hb4.mono HB5.out.size)); have HX4 := hid (HX5.out.keep hb4); have HY4 := hid (HY5.out.keep hb4)
 clear hb4 HB5 HX5 HY5 HB1 HX1
 generalize w1.heap.size = tb at HY4 HZ3 ⊢
 have hcy := HY4.out.1; have hfy := HY4.out.2.1
 go_wp2_with fail
 refine wp_region_ordC 99 [(0, 0), (1, 0), (2, 0), (3, 0), (4, 2), (5, 0), (6, 2)] (fun _ => True) (fun _ => True) (by kernel_rfl) (by kernel_rfl) (trivial) (trivial) ?_
 repeat ((first | refine ordC_skip rfl rfl ?_ | refine ordC_skip1 rfl rfl ?_ | ((first | refine ordC_q rfl rfl ?_ | refine ordC_p rfl rfl ?_); apply Exists.intro; refine ⟨fun wS hS => ?_, ?_⟩; (go_simp; try with_reducible rfl))); simp only [Act.put, List.setIfInBounds_toArray, List.set_cons_zero, List.set_cons_succ])
 refine ordC_l rfl rfl (fun K hK => ?_)
 go_simp
 refine hK _ _ ⟨trivial, trivial⟩ ?_
 clear hK K
 repeat ((first | refine ordC_skip rfl rfl ?_ | refine ordC_skip1 rfl rfl ?_ | ((first | refine ordC_q rfl rfl ?_ | refine ordC_p rfl rfl ?_); apply Exists.intro; refine ⟨fun wS hS => ?_, ?_⟩; (go_simp; try with_reducible rfl))); simp only [Act.put, List.setIfInBounds_toArray, List.set_cons_zero, List.set_cons_succ])
 refine ordC_l rfl rfl (fun K hK => ?_)
 go_simp
 refine hK _ _ ⟨trivial, trivial⟩ ?_
 clear hK K
 refine ordC_nil ?_
 have HY5 := hid (((HY4.out.setC 0 (by simp) (.int .i64 2)).setC 2 (by simp) (.string ⟨[50].toArray⟩)).drew)
 have HX5 := hid (((HX4.out.setOther tb 0 (.int .i64 2) (by have := HZ3.out; omega)).setOther tb 2 (.string ⟨[50].toArray⟩) (by have := HZ3.out; omega)).drew)
 have HB5 := hid (((HB4.out.setCell (p := ⟨tb, 0, none⟩) (by have := HZ3.out; show _ ≤ tb; omega) (.int .i64 2)).setCell (p := ⟨tb, 2, none⟩) (by have := HZ3.out; show _ ≤ tb; omega) (.string ⟨[50].toArray⟩)).drew)
 generalize ((w4.setCell ⟨tb, 0, none⟩ (.int .i64 2)).setCell ⟨tb, 2, none⟩ (.string ⟨[50].toArray⟩)).drew = Z at HY5 HX5 HB5 ⊢
 clear hcy hfy HX4 HY4 HB4
 have hcz := HX5.out.1; have hfz := HX5.out.2.1
 go_wp2_with fail
 refine wp_region_ordC 99 [(0, 0), (1, 0), (2, 0), (3, 0), (4, 0), (5, 0), (6, 2), (7, 0), (8, 0)] (fun _ => True) (fun W' => Bx W' tb (cellsTk 2 0 [50] false)) (by kernel_rfl) (by kernel_rfl) (trivial) (HY5.out.drew) ?_
 repeat ((first | refine ordC_skip rfl rfl ?_ | refine ordC_skip1 rfl rfl ?_ | ((first | refine ordC_q rfl rfl ?_ | refine ordC_p rfl rfl ?_); apply Exists.intro; refine ⟨fun wS hS => ?_, ?_⟩; (go_simp; try with_reducible rfl))); simp only [Act.put, List.setIfInBounds_toArray, List.set_cons_zero, List.set_cons_succ])
 refine ordC_l rfl rfl (fun K hK => ?_)
 go_simp
 refine hK _ _ ⟨trivial, (((HY5.out.drew.setOther w.heap.size 0 _ (by have := HZ3.out; omega)).setOther w.heap.size 1 _ (by have := HZ3.out; omega)).setOther w.heap.size 2 _ (by have := HZ3.out; omega)).setOther w.heap.size 3 _ (by have := HZ3.out; omega)⟩ ?_
 clear hK K
 repeat ((first | refine ordC_skip rfl rfl ?_ | refine ordC_skip1 rfl rfl ?_ | ((first | refine ordC_q rfl rfl ?_ | refine ordC_p rfl rfl ?_); apply Exists.intro; refine ⟨fun wS hS => ?_, ?_⟩; (go_simp; try with_reducible rfl))); simp only [Act.put, List.setIfInBounds_toArray, List.set_cons_zero, List.set_cons_succ])
 refine ordC_nil ?_
 go_wp2_with fail
 have hwq : IntKind.i64.wrap 1 = 1 := Go.IntWalk.i64_in 1 (by omega)
 refine bodyPost_ret (v := .tuple #[.agg (cellsTk 2 0 [50] false), .int .i64 1, .int .i64 0]) (by simp [results, Tryz.results26, go_sem, hcz, hwq]) rfl ⟨2, 0, [50], 1, 0, ⟨false, rfl, ?_⟩, by decide⟩
 exact ((((HB5.out.drew).setCell (p := ⟨w.heap.size, 0, none⟩) (Nat.le_refl _) _).setCell (p := ⟨w.heap.size, 1, none⟩) (Nat.le_refl _) _).setCell (p := ⟨w.heap.size, 2, none⟩) (Nat.le_refl _) _).setCell (p := ⟨w.heap.size, 3, none⟩) (Nat.le_refl _) _
theorem lx_c51 (w : World) (hT : Lib.Utf8Tabs 2 3 w) : Calls Tryz.prog 26 #[.string ⟨[51].toArray⟩, .int .i64 0] w (RetOne false w) := by
 have hi0 : ∀ W, (Instr.index 9 (.string ⟨#[51]⟩) (.int .i64 0)).run Tryz.prog W = .ok (.int .u8 51) W := fun W => run_ix Tryz.underlying9 [51] 0 51 rfl W
 have hnum : numB 51 = true := by decide
 have HW := fun W (hb : Below w.heap.size w W) => hid (while_any ⟨[51].toArray⟩ 84 #[] call_num numB W (fun r W' _ => number_any r W') (Utf8Tabs_below hT hb))
 rw [show whileE ⟨[51].toArray⟩ numB = 1 from by decide] at HW
 have HD := fun W => hid (dr_Read 3 (by decide) W)
 have hex : ByteArray.extract ⟨#[51]⟩ 0 1 = ⟨#[51]⟩ := ext_take [51] 1
 have HS := fun W (hb : Below w.heap.size w W) => hid (lx_skip [51] 0 [51] rfl (by simp) (by simp) W (Utf8Tabs_below hT hb))
 have HSK : Hid (skN [51] = 0 ∧ skO [51] = true) := hid ⟨by decide, by decide⟩
 go_enter Tryz.func26, Tryz.ntmps26
 go_wp2_with fail
 refine (HS _ (belowA (Below.refl _ _) _)).out.mono ?_
 rintro e w1 ⟨rfl, hb1⟩
 have HB1 := hid ((belowA (Below.refl w.heap.size w) (.cells (cellsTk 0 0 [] false) 56)).trans (hb1.mono (by simp)))
 have HX1 := hid ((Bx.new w (cellsTk 0 0 [] false) 56).keep hb1)
 clear hb1
 rw [HSK.out.1, HSK.out.2]
 go_wp2_with fail
 refine (number_any _ _).mono ?_
 rintro e w3 ⟨rfl, hb3⟩
 rw [hnum]
 have HB3 := hid ((belowA HB1.out (.cells (cellsTk 0 0 [] false) 56)).trans (hb3.mono (by have := HB1.out.size; simp; omega)))
 have HX3 := hid ((HX1.out.alloc (.cells (cellsTk 0 0 [] false) 56)).keep hb3); have HY3 := hid ((Bx.new w1 (cellsTk 0 0 [] false) 56).keep hb3)
 have HZ3 := hid (show w.heap.size < w1.heap.size from HX1.out.2.2)
 clear hb3
 go_wp2_with fail
 refine (HW _ HB3.out).out.mono ?_
 rintro e w5 ⟨rfl, hb5⟩
 have HB5 := hid (HB3.out.trans (hb5.mono HB3.out.size)); have HX5 := hid (HX3.out.keep hb5); have HY5 := hid (HY3.out.keep hb5)
 clear hb5 HB3 HX3 HY3
 go_wp2_with fail
 refine (HD _).out.mono ?_
 rintro e w4 ⟨rfl, hb4⟩
 have HB4 := hid (HB5.out.trans (hb4.mono HB5.out.size)); have HX4 := hid (HX5.out.keep hb4); have HY4 := hid (HY5.out.keep hb4)
 clear hb4 HB5 HX5 HY5 HB1 HX1
 generalize w1.heap.size = tb at HY4 HZ3 ⊢
 have hcy := HY4.out.1; have hfy := HY4.out.2.1
 go_wp2_with fail
 refine wp_region_ordC 99 [(0, 0), (1, 0), (2, 0), (3, 0), (4, 2), (5, 0), (6, 2)] (fun _ => True) (fun _ => True) (by kernel_rfl) (by kernel_rfl) (trivial) (trivial) ?_
 repeat ((first | refine ordC_skip rfl rfl ?_ | refine ordC_skip1 rfl rfl ?_ | ((first | refine ordC_q rfl rfl ?_ | refine ordC_p rfl rfl ?_); apply Exists.intro; refine ⟨fun wS hS => ?_, ?_⟩; (go_simp; try with_reducible rfl))); simp only [Act.put, List.setIfInBounds_toArray, List.set_cons_zero, List.set_cons_succ])
 refine ordC_l rfl rfl (fun K hK => ?_)
 go_simp
 refine hK _ _ ⟨trivial, trivial⟩ ?_
 clear hK K
 repeat ((first | refine ordC_skip rfl rfl ?_ | refine ordC_skip1 rfl rfl ?_ | ((first | refine ordC_q rfl rfl ?_ | refine ordC_p rfl rfl ?_); apply Exists.intro; refine ⟨fun wS hS => ?_, ?_⟩; (go_simp; try with_reducible rfl))); simp only [Act.put, List.setIfInBounds_toArray, List.set_cons_zero, List.set_cons_succ])
 refine ordC_l rfl rfl (fun K hK => ?_)
 go_simp
 refine hK _ _ ⟨trivial, trivial⟩ ?_
 clear hK K
 refine ordC_nil ?_
 have HY5 := hid (((HY4.out.setC 0 (by simp) (.int .i64 2)).setC 2 (by simp) (.string ⟨[51].toArray⟩)).drew)
 have HX5 := hid (((HX4.out.setOther tb 0 (.int .i64 2) (by have := HZ3.out; omega)).setOther tb 2 (.string ⟨[51].toArray⟩) (by have := HZ3.out; omega)).drew)
 have HB5 := hid (((HB4.out.setCell (p := ⟨tb, 0, none⟩) (by have := HZ3.out; show _ ≤ tb; omega) (.int .i64 2)).setCell (p := ⟨tb, 2, none⟩) (by have := HZ3.out; show _ ≤ tb; omega) (.string ⟨[51].toArray⟩)).drew)
 generalize ((w4.setCell ⟨tb, 0, none⟩ (.int .i64 2)).setCell ⟨tb, 2, none⟩ (.string ⟨[51].toArray⟩)).drew = Z at HY5 HX5 HB5 ⊢
 clear hcy hfy HX4 HY4 HB4
 have hcz := HX5.out.1; have hfz := HX5.out.2.1
 go_wp2_with fail
 refine wp_region_ordC 99 [(0, 0), (1, 0), (2, 0), (3, 0), (4, 0), (5, 0), (6, 2), (7, 0), (8, 0)] (fun _ => True) (fun W' => Bx W' tb (cellsTk 2 0 [51] false)) (by kernel_rfl) (by kernel_rfl) (trivial) (HY5.out.drew) ?_
 repeat ((first | refine ordC_skip rfl rfl ?_ | refine ordC_skip1 rfl rfl ?_ | ((first | refine ordC_q rfl rfl ?_ | refine ordC_p rfl rfl ?_); apply Exists.intro; refine ⟨fun wS hS => ?_, ?_⟩; (go_simp; try with_reducible rfl))); simp only [Act.put, List.setIfInBounds_toArray, List.set_cons_zero, List.set_cons_succ])
 refine ordC_l rfl rfl (fun K hK => ?_)
 go_simp
 refine hK _ _ ⟨trivial, (((HY5.out.drew.setOther w.heap.size 0 _ (by have := HZ3.out; omega)).setOther w.heap.size 1 _ (by have := HZ3.out; omega)).setOther w.heap.size 2 _ (by have := HZ3.out; omega)).setOther w.heap.size 3 _ (by have := HZ3.out; omega)⟩ ?_
 clear hK K
 repeat ((first | refine ordC_skip rfl rfl ?_ | refine ordC_skip1 rfl rfl ?_ | ((first | refine ordC_q rfl rfl ?_ | refine ordC_p rfl rfl ?_); apply Exists.intro; refine ⟨fun wS hS => ?_, ?_⟩; (go_simp; try with_reducible rfl))); simp only [Act.put, List.setIfInBounds_toArray, List.set_cons_zero, List.set_cons_succ])
 refine ordC_nil ?_
 go_wp2_with fail
 have hwq : IntKind.i64.wrap 1 = 1 := Go.IntWalk.i64_in 1 (by omega)
 refine bodyPost_ret (v := .tuple #[.agg (cellsTk 2 0 [51] false), .int .i64 1, .int .i64 0]) (by simp [results, Tryz.results26, go_sem, hcz, hwq]) rfl ⟨2, 0, [51], 1, 0, ⟨false, rfl, ?_⟩, by decide⟩
 exact ((((HB5.out.drew).setCell (p := ⟨w.heap.size, 0, none⟩) (Nat.le_refl _) _).setCell (p := ⟨w.heap.size, 1, none⟩) (Nat.le_refl _) _).setCell (p := ⟨w.heap.size, 2, none⟩) (Nat.le_refl _) _).setCell (p := ⟨w.heap.size, 3, none⟩) (Nat.le_refl _) _
theorem lx_c52 (w : World) (hT : Lib.Utf8Tabs 2 3 w) : Calls Tryz.prog 26 #[.string ⟨[52].toArray⟩, .int .i64 0] w (RetOne false w) := by
 have hi0 : ∀ W, (Instr.index 9 (.string ⟨#[52]⟩) (.int .i64 0)).run Tryz.prog W = .ok (.int .u8 52) W := fun W => run_ix Tryz.underlying9 [52] 0 52 rfl W
 have hnum : numB 52 = true := by decide
 have HW := fun W (hb : Below w.heap.size w W) => hid (while_any ⟨[52].toArray⟩ 84 #[] call_num numB W (fun r W' _ => number_any r W') (Utf8Tabs_below hT hb))
 rw [show whileE ⟨[52].toArray⟩ numB = 1 from by decide] at HW
 have HD := fun W => hid (dr_Read 4 (by decide) W)
 have hex : ByteArray.extract ⟨#[52]⟩ 0 1 = ⟨#[52]⟩ := ext_take [52] 1
 have HS := fun W (hb : Below w.heap.size w W) => hid (lx_skip [52] 0 [52] rfl (by simp) (by simp) W (Utf8Tabs_below hT hb))
 have HSK : Hid (skN [52] = 0 ∧ skO [52] = true) := hid ⟨by decide, by decide⟩
 go_enter Tryz.func26, Tryz.ntmps26
 go_wp2_with fail
 refine (HS _ (belowA (Below.refl _ _) _)).out.mono ?_
 rintro e w1 ⟨rfl, hb1⟩
 have HB1 := hid ((belowA (Below.refl w.heap.size w) (.cells (cellsTk 0 0 [] false) 56)).trans (hb1.mono (by simp)))
 have HX1 := hid ((Bx.new w (cellsTk 0 0 [] false) 56).keep hb1)
 clear hb1
 rw [HSK.out.1, HSK.out.2]
 go_wp2_with fail
 refine (number_any _ _).mono ?_
 rintro e w3 ⟨rfl, hb3⟩
 rw [hnum]
 have HB3 := hid ((belowA HB1.out (.cells (cellsTk 0 0 [] false) 56)).trans (hb3.mono (by have := HB1.out.size; simp; omega)))
 have HX3 := hid ((HX1.out.alloc (.cells (cellsTk 0 0 [] false) 56)).keep hb3); have HY3 := hid ((Bx.new w1 (cellsTk 0 0 [] false) 56).keep hb3)
 have HZ3 := hid (show w.heap.size < w1.heap.size from HX1.out.2.2)
 clear hb3
 go_wp2_with fail
 refine (HW _ HB3.out).out.mono ?_
 rintro e w5 ⟨rfl, hb5⟩
 have HB5 := hid (HB3.out.trans (hb5.mono HB3.out.size)); have HX5 := hid (HX3.out.keep hb5); have HY5 := hid (HY3.out.keep hb5)
 clear hb5 HB3 HX3 HY3
 go_wp2_with fail
 refine (HD _).out.mono ?_
 rintro e w4 ⟨rfl, hb4⟩
 have HB4 := hid (HB5.out.trans (hb4.mono HB5.out.size)); have HX4 := hid (HX5.out.keep hb4); have HY4 := hid (HY5.out.keep hb4)
 clear hb4 HB5 HX5 HY5 HB1 HX1
 generalize w1.heap.size = tb at HY4 HZ3 ⊢
 have hcy := HY4.out.1; have hfy := HY4.out.2.1
 go_wp2_with fail
 refine wp_region_ordC 99 [(0, 0), (1, 0), (2, 0), (3, 0), (4, 2), (5, 0), (6, 2)] (fun _ => True) (fun _ => True) (by kernel_rfl) (by kernel_rfl) (trivial) (trivial) ?_
 repeat ((first | refine ordC_skip rfl rfl ?_ | refine ordC_skip1 rfl rfl ?_ | ((first | refine ordC_q rfl rfl ?_ | refine ordC_p rfl rfl ?_); apply Exists.intro; refine ⟨fun wS hS => ?_, ?_⟩; (go_simp; try with_reducible rfl))); simp only [Act.put, List.setIfInBounds_toArray, List.set_cons_zero, List.set_cons_succ])
 refine ordC_l rfl rfl (fun K hK => ?_)
 go_simp
 refine hK _ _ ⟨trivial, trivial⟩ ?_
 clear hK K
 repeat ((first | refine ordC_skip rfl rfl ?_ | refine ordC_skip1 rfl rfl ?_ | ((first | refine ordC_q rfl rfl ?_ | refine ordC_p rfl rfl ?_); apply Exists.intro; refine ⟨fun wS hS => ?_, ?_⟩; (go_simp; try with_reducible rfl))); simp only [Act.put, List.setIfInBounds_toArray, List.set_cons_zero, List.set_cons_succ])
 refine ordC_l rfl rfl (fun K hK => ?_)
 go_simp
 refine hK _ _ ⟨trivial, trivial⟩ ?_
 clear hK K
 refine ordC_nil ?_
 have HY5 := hid (((HY4.out.setC 0 (by simp) (.int .i64 2)).setC 2 (by simp) (.string ⟨[52].toArray⟩)).drew)
 have HX5 := hid (((HX4.out.setOther tb 0 (.int .i64 2) (by have := HZ3.out; omega)).setOther tb 2 (.string ⟨[52].toArray⟩) (by have := HZ3.out; omega)).drew)
 have HB5 := hid (((HB4.out.setCell (p := ⟨tb, 0, none⟩) (by have := HZ3.out; show _ ≤ tb; omega) (.int .i64 2)).setCell (p := ⟨tb, 2, none⟩) (by have := HZ3.out; show _ ≤ tb; omega) (.string ⟨[52].toArray⟩)).drew)
 generalize ((w4.setCell ⟨tb, 0, none⟩ (.int .i64 2)).setCell ⟨tb, 2, none⟩ (.string ⟨[52].toArray⟩)).drew = Z at HY5 HX5 HB5 ⊢
 clear hcy hfy HX4 HY4 HB4
 have hcz := HX5.out.1; have hfz := HX5.out.2.1
 go_wp2_with fail
 refine wp_region_ordC 99 [(0, 0), (1, 0), (2, 0), (3, 0), (4, 0), (5, 0), (6, 2), (7, 0), (8, 0)] (fun _ => True) (fun W' => Bx W' tb (cellsTk 2 0 [52] false)) (by kernel_rfl) (by kernel_rfl) (trivial) (HY5.out.drew) ?_
 repeat ((first | refine ordC_skip rfl rfl ?_ | refine ordC_skip1 rfl rfl ?_ | ((first | refine ordC_q rfl rfl ?_ | refine ordC_p rfl rfl ?_); apply Exists.intro; refine ⟨fun wS hS => ?_, ?_⟩; (go_simp; try with_reducible rfl))); simp only [Act.put, List.setIfInBounds_toArray, List.set_cons_zero, List.set_cons_succ])
 refine ordC_l rfl rfl (fun K hK => ?_)
 go_simp
 refine hK _ _ ⟨trivial, (((HY5.out.drew.setOther w.heap.size 0 _ (by have := HZ3.out; omega)).setOther w.heap.size 1 _ (by have := HZ3.out; omega)).setOther w.heap.size 2 _ (by have := HZ3.out; omega)).setOther w.heap.size 3 _ (by have := HZ3.out; omega)⟩ ?_
 clear hK K
 repeat ((first | refine ordC_skip rfl rfl ?_ | refine ordC_skip1 rfl rfl ?_ | ((first | refine ordC_q rfl rfl ?_ | refine ordC_p rfl rfl ?_); apply Exists.intro; refine ⟨fun wS hS => ?_, ?_⟩; (go_simp; try with_reducible rfl))); simp only [Act.put, List.setIfInBounds_toArray, List.set_cons_zero, List.set_cons_succ])
 refine ordC_nil ?_
 go_wp2_with fail
 have hwq : IntKind.i64.wrap 1 = 1 := Go.IntWalk.i64_in 1 (by omega)
 refine bodyPost_ret (v := .tuple #[.agg (cellsTk 2 0 [52] false), .int .i64 1, .int .i64 0]) (by simp [results, Tryz.results26, go_sem, hcz, hwq]) rfl ⟨2, 0, [52], 1, 0, ⟨false, rfl, ?_⟩, by decide⟩
 exact ((((HB5.out.drew).setCell (p := ⟨w.heap.size, 0, none⟩) (Nat.le_refl _) _).setCell (p := ⟨w.heap.size, 1, none⟩) (Nat.le_refl _) _).setCell (p := ⟨w.heap.size, 2, none⟩) (Nat.le_refl _) _).setCell (p := ⟨w.heap.size, 3, none⟩) (Nat.le_refl _) _
theorem lx_c53 (w : World) (hT : Lib.Utf8Tabs 2 3 w) : Calls Tryz.prog 26 #[.string ⟨[53].toArray⟩, .int .i64 0] w (RetOne false w) := by
 have hi0 : ∀ W, (Instr.index 9 (.string ⟨#[53]⟩) (.int .i64 0)).run Tryz.prog W = .ok (.int .u8 53) W := fun W => run_ix Tryz.underlying9 [53] 0 53 rfl W
 have hnum : numB 53 = true := by decide
 have HW := fun W (hb : Below w.heap.size w W) => hid (while_any ⟨[53].toArray⟩ 84 #[] call_num numB W (fun r W' _ => number_any r W') (Utf8Tabs_below hT hb))
 rw [show whileE ⟨[53].toArray⟩ numB = 1 from by decide] at HW
 have HD := fun W => hid (dr_Read 5 (by decide) W)
 have hex : ByteArray.extract ⟨#[53]⟩ 0 1 = ⟨#[53]⟩ := ext_take [53] 1
 have HS := fun W (hb : Below w.heap.size w W) => hid (lx_skip [53] 0 [53] rfl (by simp) (by simp) W (Utf8Tabs_below hT hb))
 have HSK : Hid (skN [53] = 0 ∧ skO [53] = true) := hid ⟨by decide, by decide⟩
 go_enter Tryz.func26, Tryz.ntmps26
 go_wp2_with fail
 refine (HS _ (belowA (Below.refl _ _) _)).out.mono ?_
 rintro e w1 ⟨rfl, hb1⟩
 have HB1 := hid ((belowA (Below.refl w.heap.size w) (.cells (cellsTk 0 0 [] false) 56)).trans (hb1.mono (by simp)))
 have HX1 := hid ((Bx.new w (cellsTk 0 0 [] false) 56).keep hb1)
 clear hb1
 rw [HSK.out.1, HSK.out.2]
 go_wp2_with fail
 refine (number_any _ _).mono ?_
 rintro e w3 ⟨rfl, hb3⟩
 rw [hnum]
 have HB3 := hid ((belowA HB1.out (.cells (cellsTk 0 0 [] false) 56)).trans (hb3.mono (by have := HB1.out.size; simp; omega)))
 have HX3 := hid ((HX1.out.alloc (.cells (cellsTk 0 0 [] false) 56)).keep hb3); have HY3 := hid ((Bx.new w1 (cellsTk 0 0 [] false) 56).keep hb3)
 have HZ3 := hid (show w.heap.size < w1.heap.size from HX1.out.2.2)
 clear hb3
 go_wp2_with fail
 refine (HW _ HB3.out).out.mono ?_
 rintro e w5 ⟨rfl, hb5⟩
 have HB5 := hid (HB3.out.trans (hb5.mono HB3.out.size)); have HX5 := hid (HX3.out.keep hb5); have HY5 := hid (HY3.out.keep hb5)
 clear hb5 HB3 HX3 HY3
 go_wp2_with fail
 refine (HD _).out.mono ?_
 rintro e w4 ⟨rfl, hb4⟩
 have HB4 := hid (HB5.out.trans (hb4.mono HB5.out.size)); have HX4 := hid (HX5.out.keep hb4); have HY4 := hid (HY5.out.keep hb4)
 clear hb4 HB5 HX5 HY5 HB1 HX1
 generalize w1.heap.size = tb at HY4 HZ3 ⊢
 have hcy := HY4.out.1; have hfy := HY4.out.2.1
 go_wp2_with fail
 refine wp_region_ordC 99 [(0, 0), (1, 0), (2, 0), (3, 0), (4, 2), (5, 0), (6, 2)] (fun _ => True) (fun _ => True) (by kernel_rfl) (by kernel_rfl) (trivial) (trivial) ?_
 repeat ((first | refine ordC_skip rfl rfl ?_ | refine ordC_skip1 rfl rfl ?_ | ((first | refine ordC_q rfl rfl ?_ | refine ordC_p rfl rfl ?_); apply Exists.intro; refine ⟨fun wS hS => ?_, ?_⟩; (go_simp; try with_reducible rfl))); simp only [Act.put, List.setIfInBounds_toArray, List.set_cons_zero, List.set_cons_succ])
 refine ordC_l rfl rfl (fun K hK => ?_)
 go_simp
 refine hK _ _ ⟨trivial, trivial⟩ ?_
 clear hK K
 repeat ((first | refine ordC_skip rfl rfl ?_ | refine ordC_skip1 rfl rfl ?_ | ((first | refine ordC_q rfl rfl ?_ | refine ordC_p rfl rfl ?_); apply Exists.intro; refine ⟨fun wS hS => ?_, ?_⟩; (go_simp; try with_reducible rfl))); simp only [Act.put, List.setIfInBounds_toArray, List.set_cons_zero, List.set_cons_succ])
 refine ordC_l rfl rfl (fun K hK => ?_)
 go_simp
 refine hK _ _ ⟨trivial, trivial⟩ ?_
 clear hK K
 refine ordC_nil ?_
 have HY5 := hid (((HY4.out.setC 0 (by simp) (.int .i64 2)).setC 2 (by simp) (.string ⟨[53].toArray⟩)).drew)
 have HX5 := hid (((HX4.out.setOther tb 0 (.int .i64 2) (by have := HZ3.out; omega)).setOther tb 2 (.string ⟨[53].toArray⟩) (by have := HZ3.out; omega)).drew)
 have HB5 := hid (((HB4.out.setCell (p := ⟨tb, 0, none⟩) (by have := HZ3.out; show _ ≤ tb; omega) (.int .i64 2)).setCell (p := ⟨tb, 2, none⟩) (by have := HZ3.out; show _ ≤ tb; omega) (.string ⟨[53].toArray⟩)).drew)
 generalize ((w4.setCell ⟨tb, 0, none⟩ (.int .i64 2)).setCell ⟨tb, 2, none⟩ (.string ⟨[53].toArray⟩)).drew = Z at HY5 HX5 HB5 ⊢
 clear hcy hfy HX4 HY4 HB4
 have hcz := HX5.out.1; have hfz := HX5.out.2.1
 go_wp2_with fail
 refine wp_region_ordC 99 [(0, 0), (1, 0), (2, 0), (3, 0), (4, 0), (5, 0), (6, 2), (7, 0), (8, 0)] (fun _ => True) (fun W' => Bx W' tb (cellsTk 2 0 [53] false)) (by kernel_rfl) (by kernel_rfl) (trivial) (HY5.out.drew) ?_
 repeat ((first | refine ordC_skip rfl rfl ?_ | refine ordC_skip1 rfl rfl ?_ | ((first | refine ordC_q rfl rfl ?_ | refine ordC_p rfl rfl ?_); apply Exists.intro; refine ⟨fun wS hS => ?_, ?_⟩; (go_simp; try with_reducible rfl))); simp only [Act.put, List.setIfInBounds_toArray, List.set_cons_zero, List.set_cons_succ])
 refine ordC_l rfl rfl (fun K hK => ?_)
 go_simp
 refine hK _ _ ⟨trivial, (((HY5.out.drew.setOther w.heap.size 0 _ (by have := HZ3.out; omega)).setOther w.heap.size 1 _ (by have := HZ3.out; omega)).setOther w.heap.size 2 _ (by have := HZ3.out; omega)).setOther w.heap.size 3 _ (by have := HZ3.out; omega)⟩ ?_
 clear hK K
 repeat ((first | refine ordC_skip rfl rfl ?_ | refine ordC_skip1 rfl rfl ?_ | ((first | refine ordC_q rfl rfl ?_ | refine ordC_p rfl rfl ?_); apply Exists.intro; refine ⟨fun wS hS => ?_, ?_⟩; (go_simp; try with_reducible rfl))); simp only [Act.put, List.setIfInBounds_toArray, List.set_cons_zero, List.set_cons_succ])
 refine ordC_nil ?_
 go_wp2_with fail
 have hwq : IntKind.i64.wrap 1 = 1 := Go.IntWalk.i64_in 1 (by omega)
 refine bodyPost_ret (v := .tuple #[.agg (cellsTk 2 0 [53] false), .int .i64 1, .int .i64 0]) (by simp [results, Tryz.results26, go_sem, hcz, hwq]) rfl ⟨2, 0, [53], 1, 0, ⟨false, rfl, ?_⟩, by decide⟩
 exact ((((HB5.out.drew).setCell (p := ⟨w.heap.size, 0, none⟩) (Nat.le_refl _) _).setCell (p := ⟨w.heap.size, 1, none⟩) (Nat.le_refl _) _).setCell (p := ⟨w.heap.size, 2, none⟩) (Nat.le_refl _) _).setCell (p := ⟨w.heap.size, 3, none⟩) (Nat.le_refl _) _
theorem lx_c54 (w : World) (hT : Lib.Utf8Tabs 2 3 w) : Calls Tryz.prog 26 #[.string ⟨[54].toArray⟩, .int .i64 0] w (RetOne false w) := by
 have hi0 : ∀ W, (Instr.index 9 (.string ⟨#[54]⟩) (.int .i64 0)).run Tryz.prog W = .ok (.int .u8 54) W := fun W => run_ix Tryz.underlying9 [54] 0 54 rfl W
 have hnum : numB 54 = true := by decide
 have HW := fun W (hb : Below w.heap.size w W) => hid (while_any ⟨[54].toArray⟩ 84 #[] call_num numB W (fun r W' _ => number_any r W') (Utf8Tabs_below hT hb))
 rw [show whileE ⟨[54].toArray⟩ numB = 1 from by decide] at HW
 have HD := fun W => hid (dr_Read 6 (by decide) W)
 have hex : ByteArray.extract ⟨#[54]⟩ 0 1 = ⟨#[54]⟩ := ext_take [54] 1
 have HS := fun W (hb : Below w.heap.size w W) => hid (lx_skip [54] 0 [54] rfl (by simp) (by simp) W (Utf8Tabs_below hT hb))
 have HSK : Hid (skN [54] = 0 ∧ skO [54] = true) := hid ⟨by decide, by decide⟩
 go_enter Tryz.func26, Tryz.ntmps26
 go_wp2_with fail
 refine (HS _ (belowA (Below.refl _ _) _)).out.mono ?_
 rintro e w1 ⟨rfl, hb1⟩
 have HB1 := hid ((belowA (Below.refl w.heap.size w) (.cells (cellsTk 0 0 [] false) 56)).trans (hb1.mono (by simp)))
 have HX1 := hid ((Bx.new w (cellsTk 0 0 [] false) 56).keep hb1)
 clear hb1
 rw [HSK.out.1, HSK.out.2]
 go_wp2_with fail
 refine (number_any _ _).mono ?_
 rintro e w3 ⟨rfl, hb3⟩
 rw [hnum]
 have HB3 := hid ((belowA HB1.out (.cells (cellsTk 0 0 [] false) 56)).trans (hb3.mono (by have := HB1.out.size; simp; omega)))
 have HX3 := hid ((HX1.out.alloc (.cells (cellsTk 0 0 [] false) 56)).keep hb3); have HY3 := hid ((Bx.new w1 (cellsTk 0 0 [] false) 56).keep hb3)
 have HZ3 := hid (show w.heap.size < w1.heap.size from HX1.out.2.2)
 clear hb3
 go_wp2_with fail
 refine (HW _ HB3.out).out.mono ?_
 rintro e w5 ⟨rfl, hb5⟩
 have HB5 := hid (HB3.out.trans (hb5.mono HB3.out.size)); have HX5 := hid (HX3.out.keep hb5); have HY5 := hid (HY3.out.keep hb5)
 clear hb5 HB3 HX3 HY3
 go_wp2_with fail
 refine (HD _).out.mono ?_
 rintro e w4 ⟨rfl, hb4⟩
 have HB4 := hid (HB5.out.trans (hb4.mono HB5.out.size)); have HX4 := hid (HX5.out.keep hb4); have HY4 := hid (HY5.out.keep hb4)
 clear hb4 HB5 HX5 HY5 HB1 HX1
 generalize w1.heap.size = tb at HY4 HZ3 ⊢
 have hcy := HY4.out.1; have hfy := HY4.out.2.1
 go_wp2_with fail
 refine wp_region_ordC 99 [(0, 0), (1, 0), (2, 0), (3, 0), (4, 2), (5, 0), (6, 2)] (fun _ => True) (fun _ => True) (by kernel_rfl) (by kernel_rfl) (trivial) (trivial) ?_
 repeat ((first | refine ordC_skip rfl rfl ?_ | refine ordC_skip1 rfl rfl ?_ | ((first | refine ordC_q rfl rfl ?_ | refine ordC_p rfl rfl ?_); apply Exists.intro; refine ⟨fun wS hS => ?_, ?_⟩; (go_simp; try with_reducible rfl))); simp only [Act.put, List.setIfInBounds_toArray, List.set_cons_zero, List.set_cons_succ])
 refine ordC_l rfl rfl (fun K hK => ?_)
 go_simp
 refine hK _ _ ⟨trivial, trivial⟩ ?_
 clear hK K
 repeat ((first | refine ordC_skip rfl rfl ?_ | refine ordC_skip1 rfl rfl ?_ | ((first | refine ordC_q rfl rfl ?_ | refine ordC_p rfl rfl ?_); apply Exists.intro; refine ⟨fun wS hS => ?_, ?_⟩; (go_simp; try with_reducible rfl))); simp only [Act.put, List.setIfInBounds_toArray, List.set_cons_zero, List.set_cons_succ])
 refine ordC_l rfl rfl (fun K hK => ?_)
 go_simp
 refine hK _ _ ⟨trivial, trivial⟩ ?_
 clear hK K
 refine ordC_nil ?_
 have HY5 := hid (((HY4.out.setC 0 (by simp) (.int .i64 2)).setC 2 (by simp) (.string ⟨[54].toArray⟩)).drew)
 have HX5 := hid (((HX4.out.setOther tb 0 (.int .i64 2) (by have := HZ3.out; omega)).setOther tb 2 (.string ⟨[54].toArray⟩) (by have := HZ3.out; omega)).drew)
 have HB5 := hid (((HB4.out.setCell (p := ⟨tb, 0, none⟩) (by have := HZ3.out; show _ ≤ tb; omega) (.int .i64 2)).setCell (p := ⟨tb, 2, none⟩) (by have := HZ3.out; show _ ≤ tb; omega) (.string ⟨[54].toArray⟩)).drew)
 generalize ((w4.setCell ⟨tb, 0, none⟩ (.int .i64 2)).setCell ⟨tb, 2, none⟩ (.string ⟨[54].toArray⟩)).drew = Z at HY5 HX5 HB5 ⊢
 clear hcy hfy HX4 HY4 HB4
 have hcz := HX5.out.1; have hfz := HX5.out.2.1
 go_wp2_with fail
 refine wp_region_ordC 99 [(0, 0), (1, 0), (2, 0), (3, 0), (4, 0), (5, 0), (6, 2), (7, 0), (8, 0)] (fun _ => True) (fun W' => Bx W' tb (cellsTk 2 0 [54] false)) (by kernel_rfl) (by kernel_rfl) (trivial) (HY5.out.drew) ?_
 repeat ((first | refine ordC_skip rfl rfl ?_ | refine ordC_skip1 rfl rfl ?_ | ((first | refine ordC_q rfl rfl ?_ | refine ordC_p rfl rfl ?_); apply Exists.intro; refine ⟨fun wS hS => ?_, ?_⟩; (go_simp; try with_reducible rfl))); simp only [Act.put, List.setIfInBounds_toArray, List.set_cons_zero, List.set_cons_succ])
 refine ordC_l rfl rfl (fun K hK => ?_)
 go_simp
 refine hK _ _ ⟨trivial, (((HY5.out.drew.setOther w.heap.size 0 _ (by have := HZ3.out; omega)).setOther w.heap.size 1 _ (by have := HZ3.out; omega)).setOther w.heap.size 2 _ (by have := HZ3.out; omega)).setOther w.heap.size 3 _ (by have := HZ3.out; omega)⟩ ?_
 clear hK K
 repeat ((first | refine ordC_skip rfl rfl ?_ | refine ordC_skip1 rfl rfl ?_ | ((first | refine ordC_q rfl rfl ?_ | refine ordC_p rfl rfl ?_); apply Exists.intro; refine ⟨fun wS hS => ?_, ?_⟩; (go_simp; try with_reducible rfl))); simp only [Act.put, List.setIfInBounds_toArray, List.set_cons_zero, List.set_cons_succ])
 refine ordC_nil ?_
 go_wp2_with fail
 have hwq : IntKind.i64.wrap 1 = 1 := Go.IntWalk.i64_in 1 (by omega)
 refine bodyPost_ret (v := .tuple #[.agg (cellsTk 2 0 [54] false), .int .i64 1, .int .i64 0]) (by simp [results, Tryz.results26, go_sem, hcz, hwq]) rfl ⟨2, 0, [54], 1, 0, ⟨false, rfl, ?_⟩, by decide⟩
 exact ((((HB5.out.drew).setCell (p := ⟨w.heap.size, 0, none⟩) (Nat.le_refl _) _).setCell (p := ⟨w.heap.size, 1, none⟩) (Nat.le_refl _) _).setCell (p := ⟨w.heap.size, 2, none⟩) (Nat.le_refl _) _).setCell (p := ⟨w.heap.size, 3, none⟩) (Nat.le_refl _) _
theorem lx_c55 (w : World) (hT : Lib.Utf8Tabs 2 3 w) : Calls Tryz.prog 26 #[.string ⟨[55].toArray⟩, .int .i64 0] w (RetOne false w) := by
 have hi0 : ∀ W, (Instr.index 9 (.string ⟨#[55]⟩) (.int .i64 0)).run Tryz.prog W = .ok (.int .u8 55) W := fun W => run_ix Tryz.underlying9 [55] 0 55 rfl W
 have hnum : numB 55 = true := by decide
 have HW := fun W (hb : Below w.heap.size w W) => hid (while_any ⟨[55].toArray⟩ 84 #[] call_num numB W (fun r W' _ => number_any r W') (Utf8Tabs_below hT hb))
 rw [show whileE ⟨[55].toArray⟩ numB = 1 from by decide] at HW
 have HD := fun W => hid (dr_Read 7 (by decide) W)
 have hex : ByteArray.extract ⟨#[55]⟩ 0 1 = ⟨#[55]⟩ := ext_take [55] 1
 have HS := fun W (hb : Below w.heap.size w W) => hid (lx_skip [55] 0 [55] rfl (by simp) (by simp) W (Utf8Tabs_below hT hb))
 have HSK : Hid (skN [55] = 0 ∧ skO [55] = true) := hid ⟨by decide, by decide⟩
 go_enter Tryz.func26, Tryz.ntmps26
 go_wp2_with fail
 refine (HS _ (belowA (Below.refl _ _) _)).out.mono ?_
 rintro e w1 ⟨rfl, hb1⟩
 have HB1 := hid ((belowA (Below.refl w.heap.size w) (.cells (cellsTk 0 0 [] false) 56)).trans (hb1.mono (by simp)))
 have HX1 := hid ((Bx.new w (cellsTk 0 0 [] false) 56).keep hb1)
 clear hb1
 rw [HSK.out.1, HSK.out.2]
 go_wp2_with fail
 refine (number_any _ _).mono ?_
 rintro e w3 ⟨rfl, hb3⟩
 rw [hnum]
 have HB3 := hid ((belowA HB1.out (.cells (cellsTk 0 0 [] false) 56)).trans (hb3.mono (by have := HB1.out.size; simp; omega)))
 have HX3 := hid ((HX1.out.alloc (.cells (cellsTk 0 0 [] false) 56)).keep hb3); have HY3 := hid ((Bx.new w1 (cellsTk 0 0 [] false) 56).keep hb3)
 have HZ3 := hid (show w.heap.size < w1.heap.size from HX1.out.2.2)
 clear hb3
 go_wp2_with fail
 refine (HW _ HB3.out).out.mono ?_
 rintro e w5 ⟨rfl, hb5⟩
 have HB5 := hid (HB3.out.trans (hb5.mono HB3.out.size)); have HX5 := hid (HX3.out.keep hb5); have HY5 := hid (HY3.out.keep hb5)
 clear hb5 HB3 HX3 HY3
 go_wp2_with fail
 refine (HD _).out.mono ?_
 rintro e w4 ⟨rfl, hb4⟩
 have HB4 := hid (HB5.out.trans (hb4.mono HB5.out.size)); have HX4 := hid (HX5.out.keep hb4); have HY4 := hid (HY5.out.keep hb4)
 clear hb4 HB5 HX5 HY5 HB1 HX1
 generalize w1.heap.size = tb at HY4 HZ3 ⊢
 have hcy := HY4.out.1; have hfy := HY4.out.2.1
 go_wp2_with fail
 refine wp_region_ordC 99 [(0, 0), (1, 0), (2, 0), (3, 0), (4, 2), (5, 0), (6, 2)] (fun _ => True) (fun _ => True) (by kernel_rfl) (by kernel_rfl) (trivial) (trivial) ?_
 repeat ((first | refine ordC_skip rfl rfl ?_ | refine ordC_skip1 rfl rfl ?_ | ((first | refine ordC_q rfl rfl ?_ | refine ordC_p rfl rfl ?_); apply Exists.intro; refine ⟨fun wS hS => ?_, ?_⟩; (go_simp; try with_reducible rfl))); simp only [Act.put, List.setIfInBounds_toArray, List.set_cons_zero, List.set_cons_succ])
 refine ordC_l rfl rfl (fun K hK => ?_)
 go_simp
 refine hK _ _ ⟨trivial, trivial⟩ ?_
 clear hK K
 repeat ((first | refine ordC_skip rfl rfl ?_ | refine ordC_skip1 rfl rfl ?_ | ((first | refine ordC_q rfl rfl ?_ | refine ordC_p rfl rfl ?_); apply Exists.intro; refine ⟨fun wS hS => ?_, ?_⟩; (go_simp; try with_reducible rfl))); simp only [Act.put, List.setIfInBounds_toArray, List.set_cons_zero, List.set_cons_succ])
 refine ordC_l rfl rfl (fun K hK => ?_)
 go_simp
 refine hK _ _ ⟨trivial, trivial⟩ ?_
 clear hK K
 refine ordC_nil ?_
 have HY5 := hid (((HY4.out.setC 0 (by simp) (.int .i64 2)).setC 2 (by simp) (.string ⟨[55].toArray⟩)).drew)
 have HX5 := hid (((HX4.out.setOther tb 0 (.int .i64 2) (by have := HZ3.out; omega)).setOther tb 2 (.string ⟨[55].toArray⟩) (by have := HZ3.out; omega)).drew)
 have HB5 := hid (((HB4.out.setCell (p := ⟨tb, 0, none⟩) (by have := HZ3.out; show _ ≤ tb; omega) (.int .i64 2)).setCell (p := ⟨tb, 2, none⟩) (by have := HZ3.out; show _ ≤ tb; omega) (.string ⟨[55].toArray⟩)).drew)
 generalize ((w4.setCell ⟨tb, 0, none⟩ (.int .i64 2)).setCell ⟨tb, 2, none⟩ (.string ⟨[55].toArray⟩)).drew = Z at HY5 HX5 HB5 ⊢
 clear hcy hfy HX4 HY4 HB4
 have hcz := HX5.out.1; have hfz := HX5.out.2.1
 go_wp2_with fail
 refine wp_region_ordC 99 [(0, 0), (1, 0), (2, 0), (3, 0), (4, 0), (5, 0), (6, 2), (7, 0), (8, 0)] (fun _ => True) (fun W' => Bx W' tb (cellsTk 2 0 [55] false)) (by kernel_rfl) (by kernel_rfl) (trivial) (HY5.out.drew) ?_
 repeat ((first | refine ordC_skip rfl rfl ?_ | refine ordC_skip1 rfl rfl ?_ | ((first | refine ordC_q rfl rfl ?_ | refine ordC_p rfl rfl ?_); apply Exists.intro; refine ⟨fun wS hS => ?_, ?_⟩; (go_simp; try with_reducible rfl))); simp only [Act.put, List.setIfInBounds_toArray, List.set_cons_zero, List.set_cons_succ])
 refine ordC_l rfl rfl (fun K hK => ?_)
 go_simp
 refine hK _ _ ⟨trivial, (((HY5.out.drew.setOther w.heap.size 0 _ (by have := HZ3.out; omega)).setOther w.heap.size 1 _ (by have := HZ3.out; omega)).setOther w.heap.size 2 _ (by have := HZ3.out; omega)).setOther w.heap.size 3 _ (by have := HZ3.out; omega)⟩ ?_
 clear hK K
 repeat ((first | refine ordC_skip rfl rfl ?_ | refine ordC_skip1 rfl rfl ?_ | ((first | refine ordC_q rfl rfl ?_ | refine ordC_p rfl rfl ?_); apply Exists.intro; refine ⟨fun wS hS => ?_, ?_⟩; (go_simp; try with_reducible rfl))); simp only [Act.put, List.setIfInBounds_toArray, List.set_cons_zero, List.set_cons_succ])
 refine ordC_nil ?_
 go_wp2_with fail
 have hwq : IntKind.i64.wrap 1 = 1 := Go.IntWalk.i64_in 1 (by omega)
 refine bodyPost_ret (v := .tuple #[.agg (cellsTk 2 0 [55] false), .int .i64 1, .int .i64 0]) (by simp [results, Tryz.results26, go_sem, hcz, hwq]) rfl ⟨2, 0, [55], 1, 0, ⟨false, rfl, ?_⟩, by decide⟩
 exact ((((HB5.out.drew).setCell (p := ⟨w.heap.size, 0, none⟩) (Nat.le_refl _) _).setCell (p := ⟨w.heap.size, 1, none⟩) (Nat.le_refl _) _).setCell (p := ⟨w.heap.size, 2, none⟩) (Nat.le_refl _) _).setCell (p := ⟨w.heap.size, 3, none⟩) (Nat.le_refl _) _
theorem lx_c56 (w : World) (hT : Lib.Utf8Tabs 2 3 w) : Calls Tryz.prog 26 #[.string ⟨[56].toArray⟩, .int .i64 0] w (RetOne false w) := by
 have hi0 : ∀ W, (Instr.index 9 (.string ⟨#[56]⟩) (.int .i64 0)).run Tryz.prog W = .ok (.int .u8 56) W := fun W => run_ix Tryz.underlying9 [56] 0 56 rfl W
 have hnum : numB 56 = true := by decide
 have HW := fun W (hb : Below w.heap.size w W) => hid (while_any ⟨[56].toArray⟩ 84 #[] call_num numB W (fun r W' _ => number_any r W') (Utf8Tabs_below hT hb))
 rw [show whileE ⟨[56].toArray⟩ numB = 1 from by decide] at HW
 have HD := fun W => hid (dr_Read 8 (by decide) W)
 have hex : ByteArray.extract ⟨#[56]⟩ 0 1 = ⟨#[56]⟩ := ext_take [56] 1
 have HS := fun W (hb : Below w.heap.size w W) => hid (lx_skip [56] 0 [56] rfl (by simp) (by simp) W (Utf8Tabs_below hT hb))
 have HSK : Hid (skN [56] = 0 ∧ skO [56] = true) := hid ⟨by decide, by decide⟩
 go_enter Tryz.func26, Tryz.ntmps26
 go_wp2_with fail
 refine (HS _ (belowA (Below.refl _ _) _)).out.mono ?_
 rintro e w1 ⟨rfl, hb1⟩
 have HB1 := hid ((belowA (Below.refl w.heap.size w) (.cells (cellsTk 0 0 [] false) 56)).trans (hb1.mono (by simp)))
 have HX1 := hid ((Bx.new w (cellsTk 0 0 [] false) 56).keep hb1)
 clear hb1
 rw [HSK.out.1, HSK.out.2]
 go_wp2_with fail
 refine (number_any _ _).mono ?_
 rintro e w3 ⟨rfl, hb3⟩
 rw [hnum]
 have HB3 := hid ((belowA HB1.out (.cells (cellsTk 0 0 [] false) 56)).trans (hb3.mono (by have := HB1.out.size; simp; omega)))
 have HX3 := hid ((HX1.out.alloc (.cells (cellsTk 0 0 [] false) 56)).keep hb3); have HY3 := hid ((Bx.new w1 (cellsTk 0 0 [] false) 56).keep hb3)
 have HZ3 := hid (show w.heap.size < w1.heap.size from HX1.out.2.2)
 clear hb3
 go_wp2_with fail
 refine (HW _ HB3.out).out.mono ?_
 rintro e w5 ⟨rfl, hb5⟩
 have HB5 := hid (HB3.out.trans (hb5.mono HB3.out.size)); have HX5 := hid (HX3.out.keep hb5); have HY5 := hid (HY3.out.keep hb5)
 clear hb5 HB3 HX3 HY3
 go_wp2_with fail
 refine (HD _).out.mono ?_
 rintro e w4 ⟨rfl, hb4⟩
 have HB4 := hid (HB5.out.trans (hb4.mono HB5.out.size)); have HX4 := hid (HX5.out.keep hb4); have HY4 := hid (HY5.out.keep hb4)
 clear hb4 HB5 HX5 HY5 HB1 HX1
 generalize w1.heap.size = tb at HY4 HZ3 ⊢
 have hcy := HY4.out.1; have hfy := HY4.out.2.1
 go_wp2_with fail
 refine wp_region_ordC 99 [(0, 0), (1, 0), (2, 0), (3, 0), (4, 2), (5, 0), (6, 2)] (fun _ => True) (fun _ => True) (by kernel_rfl) (by kernel_rfl) (trivial) (trivial) ?_
 repeat ((first | refine ordC_skip rfl rfl ?_ | refine ordC_skip1 rfl rfl ?_ | ((first | refine ordC_q rfl rfl ?_ | refine ordC_p rfl rfl ?_); apply Exists.intro; refine ⟨fun wS hS => ?_, ?_⟩; (go_simp; try with_reducible rfl))); simp only [Act.put, List.setIfInBounds_toArray, List.set_cons_zero, List.set_cons_succ])
 refine ordC_l rfl rfl (fun K hK => ?_)
 go_simp
 refine hK _ _ ⟨trivial, trivial⟩ ?_
 clear hK K
 repeat ((first | refine ordC_skip rfl rfl ?_ | refine ordC_skip1 rfl rfl ?_ | ((first | refine ordC_q rfl rfl ?_ | refine ordC_p rfl rfl ?_); apply Exists.intro; refine ⟨fun wS hS => ?_, ?_⟩; (go_simp; try with_reducible rfl))); simp only [Act.put, List.setIfInBounds_toArray, List.set_cons_zero, List.set_cons_succ])
 refine ordC_l rfl rfl (fun K hK => ?_)
 go_simp
 refine hK _ _ ⟨trivial, trivial⟩ ?_
 clear hK K
 refine ordC_nil ?_
 have HY5 := hid (((HY4.out.setC 0 (by simp) (.int .i64 2)).setC 2 (by simp) (.string ⟨[56].toArray⟩)).drew)
 have HX5 := hid (((HX4.out.setOther tb 0 (.int .i64 2) (by have := HZ3.out; omega)).setOther tb 2 (.string ⟨[56].toArray⟩) (by have := HZ3.out; omega)).drew)
 have HB5 := hid (((HB4.out.setCell (p := ⟨tb, 0, none⟩) (by have := HZ3.out; show _ ≤ tb; omega) (.int .i64 2)).setCell (p := ⟨tb, 2, none⟩) (by have := HZ3.out; show _ ≤ tb; omega) (.string ⟨[56].toArray⟩)).drew)
 generalize ((w4.setCell ⟨tb, 0, none⟩ (.int .i64 2)).setCell ⟨tb, 2, none⟩ (.string ⟨[56].toArray⟩)).drew = Z at HY5 HX5 HB5 ⊢
 clear hcy hfy HX4 HY4 HB4
 have hcz := HX5.out.1; have hfz := HX5.out.2.1
 go_wp2_with fail
 refine wp_region_ordC 99 [(0, 0), (1, 0), (2, 0), (3, 0), (4, 0), (5, 0), (6, 2), (7, 0), (8, 0)] (fun _ => True) (fun W' => Bx W' tb (cellsTk 2 0 [56] false)) (by kernel_rfl) (by kernel_rfl) (trivial) (HY5.out.drew) ?_
 repeat ((first | refine ordC_skip rfl rfl ?_ | refine ordC_skip1 rfl rfl ?_ | ((first | refine ordC_q rfl rfl ?_ | refine ordC_p rfl rfl ?_); apply Exists.intro; refine ⟨fun wS hS => ?_, ?_⟩; (go_simp; try with_reducible rfl))); simp only [Act.put, List.setIfInBounds_toArray, List.set_cons_zero, List.set_cons_succ])
 refine ordC_l rfl rfl (fun K hK => ?_)
 go_simp
 refine hK _ _ ⟨trivial, (((HY5.out.drew.setOther w.heap.size 0 _ (by have := HZ3.out; omega)).setOther w.heap.size 1 _ (by have := HZ3.out; omega)).setOther w.heap.size 2 _ (by have := HZ3.out; omega)).setOther w.heap.size 3 _ (by have := HZ3.out; omega)⟩ ?_
 clear hK K
 repeat ((first | refine ordC_skip rfl rfl ?_ | refine ordC_skip1 rfl rfl ?_ | ((first | refine ordC_q rfl rfl ?_ | refine ordC_p rfl rfl ?_); apply Exists.intro; refine ⟨fun wS hS => ?_, ?_⟩; (go_simp; try with_reducible rfl))); simp only [Act.put, List.setIfInBounds_toArray, List.set_cons_zero, List.set_cons_succ])
 refine ordC_nil ?_
 go_wp2_with fail
 have hwq : IntKind.i64.wrap 1 = 1 := Go.IntWalk.i64_in 1 (by omega)
 refine bodyPost_ret (v := .tuple #[.agg (cellsTk 2 0 [56] false), .int .i64 1, .int .i64 0]) (by simp [results, Tryz.results26, go_sem, hcz, hwq]) rfl ⟨2, 0, [56], 1, 0, ⟨false, rfl, ?_⟩, by decide⟩
 exact ((((HB5.out.drew).setCell (p := ⟨w.heap.size, 0, none⟩) (Nat.le_refl _) _).setCell (p := ⟨w.heap.size, 1, none⟩) (Nat.le_refl _) _).setCell (p := ⟨w.heap.size, 2, none⟩) (Nat.le_refl _) _).setCell (p := ⟨w.heap.size, 3, none⟩) (Nat.le_refl _) _
theorem lx_c57 (w : World) (hT : Lib.Utf8Tabs 2 3 w) : Calls Tryz.prog 26 #[.string ⟨[57].toArray⟩, .int .i64 0] w (RetOne false w) := by
 have hi0 : ∀ W, (Instr.index 9 (.string ⟨#[57]⟩) (.int .i64 0)).run Tryz.prog W = .ok (.int .u8 57) W := fun W => run_ix Tryz.underlying9 [57] 0 57 rfl W
 have hnum : numB 57 = true := by decide
 have HW := fun W (hb : Below w.heap.size w W) => hid (while_any ⟨[57].toArray⟩ 84 #[] call_num numB W (fun r W' _ => number_any r W') (Utf8Tabs_below hT hb))
 rw [show whileE ⟨[57].toArray⟩ numB = 1 from by decide] at HW
 have HD := fun W => hid (dr_Read 9 (by decide) W)
 have hex : ByteArray.extract ⟨#[57]⟩ 0 1 = ⟨#[57]⟩ := ext_take [57] 1
 have HS := fun W (hb : Below w.heap.size w W) => hid (lx_skip [57] 0 [57] rfl (by simp) (by simp) W (Utf8Tabs_below hT hb))
 have HSK : Hid (skN [57] = 0 ∧ skO [57] = true) := hid ⟨by decide, by decide⟩
 go_enter Tryz.func26, Tryz.ntmps26
 go_wp2_with fail
 refine (HS _ (belowA (Below.refl _ _) _)).out.mono ?_
 rintro e w1 ⟨rfl, hb1⟩
 have HB1 := hid ((belowA (Below.refl w.heap.size w) (.cells (cellsTk 0 0 [] false) 56)).trans (hb1.mono (by simp)))
 have HX1 := hid ((Bx.new w (cellsTk 0 0 [] false) 56).keep hb1)
 clear hb1
 rw [HSK.out.1, HSK.out.2]
 go_wp2_with fail
 refine (number_any _ _).mono ?_
 rintro e w3 ⟨rfl, hb3⟩
 rw [hnum]
 have HB3 := hid ((belowA HB1.out (.cells (cellsTk 0 0 [] false) 56)).trans (hb3.mono (by have := HB1.out.size; simp; omega)))
 have HX3 := hid ((HX1.out.alloc (.cells (cellsTk 0 0 [] false) 56)).keep hb3); have HY3 := hid ((Bx.new w1 (cellsTk 0 0 [] false) 56).keep hb3)
 have HZ3 := hid (show w.heap.size < w1.heap.size from HX1.out.2.2)
 clear hb3
 go_wp2_with fail
 refine (HW _ HB3.out).out.mono ?_
 rintro e w5 ⟨rfl, hb5⟩
 have HB5 := hid (HB3.out.trans (hb5.mono HB3.out.size)); have HX5 := hid (HX3.out.keep hb5); have HY5 := hid (HY3.out.keep hb5)
 clear hb5 HB3 HX3 HY3
 go_wp2_with fail
 refine (HD _).out.mono ?_
 rintro e w4 ⟨rfl, hb4⟩
 have HB4 := hid (HB5.out.trans (hb4.mono HB5.out.size)); have HX4 := hid (HX5.out.keep hb4); have HY4 := hid (HY5.out.keep hb4)
 clear hb4 HB5 HX5 HY5 HB1 HX1
 generalize w1.heap.size = tb at HY4 HZ3 ⊢
 have hcy := HY4.out.1; have hfy := HY4.out.2.1
 go_wp2_with fail
 refine wp_region_ordC 99 [(0, 0), (1, 0), (2, 0), (3, 0), (4, 2), (5, 0), (6, 2)] (fun _ => True) (fun _ => True) (by kernel_rfl) (by kernel_rfl) (trivial) (trivial) ?_
 repeat ((first | refine ordC_skip rfl rfl ?_ | refine ordC_skip1 rfl rfl ?_ | ((first | refine ordC_q rfl rfl ?_ | refine ordC_p rfl rfl ?_); apply Exists.intro; refine ⟨fun wS hS => ?_, ?_⟩; (go_simp; try with_reducible rfl))); simp only [Act.put, List.setIfInBounds_toArray, List.set_cons_zero, List.set_cons_succ])
 refine ordC_l rfl rfl (fun K hK => ?_)
 go_simp
 refine hK _ _ ⟨trivial, trivial⟩ ?_
 clear hK K
 repeat ((first | refine ordC_skip rfl rfl ?_ | refine ordC_skip1 rfl rfl ?_ | ((first | refine ordC_q rfl rfl ?_ | refine ordC_p rfl rfl ?_); apply Exists.intro; refine ⟨fun wS hS => ?_, ?_⟩; (go_simp; try with_reducible rfl))); simp only [Act.put, List.setIfInBounds_toArray, List.set_cons_zero, List.set_cons_succ])
 refine ordC_l rfl rfl (fun K hK => ?_)
 go_simp
 refine hK _ _ ⟨trivial, trivial⟩ ?_
 clear hK K
 refine ordC_nil ?_
 have HY5 := hid (((HY4.out.setC 0 (by simp) (.int .i64 2)).setC 2 (by simp) (.string ⟨[57].toArray⟩)).drew)
 have HX5 := hid (((HX4.out.setOther tb 0 (.int .i64 2) (by have := HZ3.out; omega)).setOther tb 2 (.string ⟨[57].toArray⟩) (by have := HZ3.out; omega)).drew)
 have HB5 := hid (((HB4.out.setCell (p := ⟨tb, 0, none⟩) (by have := HZ3.out; show _ ≤ tb; omega) (.int .i64 2)).setCell (p := ⟨tb, 2, none⟩) (by have := HZ3.out; show _ ≤ tb; omega) (.string ⟨[57].toArray⟩)).drew)
 generalize ((w4.setCell ⟨tb, 0, none⟩ (.int .i64 2)).setCell ⟨tb, 2, none⟩ (.string ⟨[57].toArray⟩)).drew = Z at HY5 HX5 HB5 ⊢
 clear hcy hfy HX4 HY4 HB4
 have hcz := HX5.out.1; have hfz := HX5.out.2.1
 go_wp2_with fail
 refine wp_region_ordC 99 [(0, 0), (1, 0), (2, 0), (3, 0), (4, 0), (5, 0), (6, 2), (7, 0), (8, 0)] (fun _ => True) (fun W' => Bx W' tb (cellsTk 2 0 [57] false)) (by kernel_rfl) (by kernel_rfl) (trivial) (HY5.out.drew) ?_
 repeat ((first | refine ordC_skip rfl rfl ?_ | refine ordC_skip1 rfl rfl ?_ | ((first | refine ordC_q rfl rfl ?_ | refine ordC_p rfl rfl ?_); apply Exists.intro; refine ⟨fun wS hS => ?_, ?_⟩; (go_simp; try with_reducible rfl))); simp only [Act.put, List.setIfInBounds_toArray, List.set_cons_zero, List.set_cons_succ])
 refine ordC_l rfl rfl (fun K hK => ?_)
 go_simp
 refine hK _ _ ⟨trivial, (((HY5.out.drew.setOther w.heap.size 0 _ (by have := HZ3.out; omega)).setOther w.heap.size 1 _ (by have := HZ3.out; omega)).setOther w.heap.size 2 _ (by have := HZ3.out; omega)).setOther w.heap.size 3 _ (by have := HZ3.out; omega)⟩ ?_
 clear hK K
 repeat ((first | refine ordC_skip rfl rfl ?_ | refine ordC_skip1 rfl rfl ?_ | ((first | refine ordC_q rfl rfl ?_ | refine ordC_p rfl rfl ?_); apply Exists.intro; refine ⟨fun wS hS => ?_, ?_⟩; (go_simp; try with_reducible rfl))); simp only [Act.put, List.setIfInBounds_toArray, List.set_cons_zero, List.set_cons_succ])
 refine ordC_nil ?_
 go_wp2_with fail
 have hwq : IntKind.i64.wrap 1 = 1 := Go.IntWalk.i64_in 1 (by omega)
 refine bodyPost_ret (v := .tuple #[.agg (cellsTk 2 0 [57] false), .int .i64 1, .int .i64 0]) (by simp [results, Tryz.results26, go_sem, hcz, hwq]) rfl ⟨2, 0, [57], 1, 0, ⟨false, rfl, ?_⟩, by decide⟩
 exact ((((HB5.out.drew).setCell (p := ⟨w.heap.size, 0, none⟩) (Nat.le_refl _) _).setCell (p := ⟨w.heap.size, 1, none⟩) (Nat.le_refl _) _).setCell (p := ⟨w.heap.size, 2, none⟩) (Nat.le_refl _) _).setCell (p := ⟨w.heap.size, 3, none⟩) (Nat.le_refl _) _
end Yd
