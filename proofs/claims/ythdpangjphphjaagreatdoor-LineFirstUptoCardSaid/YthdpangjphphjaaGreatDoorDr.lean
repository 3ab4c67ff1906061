import Derived.Test.YthdpangjphphjaaGreatDoorHd
import Derived.Test.YthdpangjphphjaaGreatDoorShelf
import Derived.Laws.Externs
import Derived.Test.YthdpangjphphjaaGreatDoorProg
set_option maxRecDepth 200000
set_option maxHeartbeats 8000000
namespace Yd
open Go Go.RowKit Go.Proofs

theorem add64_0 (i : Nat) (hi : i ≤ 9) (W : World) : (callFunc 142 #[.int .u64 0, .int .u64 (i : Int), .int .u64 0]).run Tryz.prog W = .ok (.value (.tuple #[.int .u64 (i : Int), .int .u64 0])) W := by
 rw [run_callFunc_extern (e := add64Entry) Tryz.func142 (by kernel_rfl) (by kernel_rfl) (by kernel_rfl) (by kernel_rfl), run_add64 0 i 0 (by omega) (by omega) (by omega) (by omega)]
 rw [show (0 + (i : Int) + 0) % 18446744073709551616 = (i : Int) by omega, show (0 + (i : Int) + 0) / 18446744073709551616 = 0 by omega]; rfl
theorem dr_with (i : Nat) (hi : i ≤ 9) (w : World) : Calls Tryz.prog 125 #[.agg #[.int .u64 0, .bool false, .bool false], .int .i32 ((48 + i : Nat) : Int)] w (Ret (.agg #[.int .u64 i, .bool false, .bool false]) w) := by
 have HM := fun W => hid (Tryz.bits_Mul64 0 10 (by decide) (by decide) W)
 have HB := hid (belowA (belowA (Below.refl w.heap.size w) (.cells #[.int .u64 0, .bool false, .bool false] 152)) (.cells #[.int .u64 0, .bool false, .bool false] 152))
 have hA := fun W => add64_0 i hi W
 have HX := hid ((Bx.new w #[.int .u64 0, .bool false, .bool false] 152).alloc (.cells #[.int .u64 0, .bool false, .bool false] 152))
 rcases (by omega : i = 0 ∨ i = 1 ∨ i = 2 ∨ i = 3 ∨ i = 4 ∨ i = 5 ∨ i = 6 ∨ i = 7 ∨ i = 8 ∨ i = 9) with rfl | rfl | rfl | rfl | rfl | rfl | rfl | rfl | rfl | rfl
 all_goals
   simp only [Int.cast_ofNat_Int] at hA
   go_enter Tryz.func125, Tryz.ntmps125
   go_wp2_with fail
   refine (HM _).out.mono ?_
   rintro e w1 ⟨rfl, rfl⟩
   go_wp2_with fail
   refine bodyPost_ret (v := _) ?_ rfl ⟨rfl, belowA (belowA (Below.refl _ _) _) _⟩
   simp [results, Tryz.results125, go_sem]
theorem dr_number (i : Nat) (hi : i ≤ 9) (w : World) : Calls Tryz.prog 126 #[.agg #[.int .u64 i, .bool false, .bool false]] w (Ret2 (.int .i64 i) (.bool true) w) := by
 rcases (by omega : i = 0 ∨ i = 1 ∨ i = 2 ∨ i = 3 ∨ i = 4 ∨ i = 5 ∨ i = 6 ∨ i = 7 ∨ i = 8 ∨ i = 9) with rfl | rfl | rfl | rfl | rfl | rfl | rfl | rfl | rfl | rfl
 all_goals
   go_enter Tryz.func126, Tryz.ntmps126
   go_wp2_with fail
   go_ret2
   exact ⟨rfl, belowA (Below.refl _ _) _⟩
theorem head_one (i : Nat) (hi : i ≤ 9) : headS [UInt8.ofNat (48 + i)] = [UInt8.ofNat (48 + i)] := by
 rcases (by omega : i = 0 ∨ i = 1 ∨ i = 2 ∨ i = 3 ∨ i = 4 ∨ i = 5 ∨ i = 6 ∨ i = 7 ∨ i = 8 ∨ i = 9) with rfl | rfl | rfl | rfl | rfl | rfl | rfl | rfl | rfl | rfl <;> decide
theorem dr_Read (i : Nat) (hi : i ≤ 9) (w : World) : Calls Tryz.prog 86 #[.string ⟨[UInt8.ofNat (48 + i)].toArray⟩] w (Ret2 (.int .i64 i) (.int .i64 0) w) := by
 have HH := fun W => hid (hd_Head [UInt8.ofNat (48 + i)] (by simp) W)
 rw [head_one i hi] at HH
 have HW := fun W => hid (dr_with i hi W)
 have HN := fun W => hid (dr_number i hi W)
 rcases (by omega : i = 0 ∨ i = 1 ∨ i = 2 ∨ i = 3 ∨ i = 4 ∨ i = 5 ∨ i = 6 ∨ i = 7 ∨ i = 8 ∨ i = 9) with rfl | rfl | rfl | rfl | rfl | rfl | rfl | rfl | rfl | rfl
 · go_enter Tryz.func86, Tryz.ntmps86
   go_wp2_with fail
   refine (HH _).out.mono ?_
   rintro e w1 ⟨rfl, hb1⟩
   have HB1 := hid ((belowA hb1 (.cells #[.int .u64 0, .bool false, .bool false] 152)).trans (iter_below _ ⟨#[48]⟩ |>.mono (by have := hb1.size; simp; omega)))
   have HX1 := hid (((Bx.new w1 #[.int .u64 0, .bool false, .bool false] 152)).keep (iter_below _ ⟨#[48]⟩))
   have HZ : Hid (w.heap.size ≤ w1.heap.size) := hid hb1.size
   clear hb1
   go_wp2_with fail
   go_loopw [] (fun wr => ∃ (W : World) (k v : Nat), W = wr ∧ ((k = 0 ∧ v = 0) ∨ (k = 1 ∧ v = 0)) ∧ wr.heap[w1.heap.size + 1]? = some (.stringIter ⟨#[48]⟩ k) ∧ Bx wr w1.heap.size #[.int .u64 v, .bool false, .bool false] ∧ Below w.heap.size w wr) (fun wr => 2 - wr.iterPos (w1.heap.size + 1))
   case atStart => exact ⟨_, 0, 0, rfl, .inl ⟨rfl, rfl⟩, (by have := World.iter_heap (w1.alloc (.cells #[.int .u64 0, .bool false, .bool false] 152)) ⟨#[48]⟩ 0; rwa [World.size_alloc] at this), HX1.out, HB1.out⟩
   case round =>
     obtain ⟨W, k, v, rfl, hkv, hit, hbx, hbw⟩ := hrel
     have HIT := hid hit; have HBX := hid hbx; have HBW := hid hbw
     have hcx := hbx.1; have hfx := hbx.2.1
     clear hbx hbw
     rcases hkv with ⟨rfl, rfl⟩ | ⟨rfl, rfl⟩
     · have hnx : ∀ ty, (Instr.next (.pointer (some ⟨w1.heap.size + 1, 0, none⟩)) true ty).run Tryz.prog W = .ok (.tuple #[.bool true, .int .i64 0, .int .i32 48]) (W.iterAt (w1.heap.size + 1) ⟨#[48]⟩ 1) := fun ty => Lib.run_next_any_at W (w1.heap.size + 1) ⟨#[48]⟩ 0 ty hit (by decide)
       have HI2 := hid (Lib.iterAt_heap W (w1.heap.size + 1) ⟨#[48]⟩ 0 1 hit)
       have HB2 := hid (Lib.below_iterAt HBW.out (k := w1.heap.size + 1) (by have := HZ.out; omega) ⟨#[48]⟩ 1)
       clear hit
       have hbv := HBX.out.of_eq (Y := W.iterAt (w1.heap.size + 1) ⟨#[48]⟩ 1) (by rw [Lib.iterAt_size]; exact Nat.le_refl _) (Lib.iterAt_other W _ _ _ _ (by omega))
       have hcv := hbv.1
       have HBV := hid hbv
       clear hbv hcx hfx
       go_wp2_with fail
       refine (HW _).out.mono ?_
       rintro e w4 ⟨rfl, hb4⟩
       have HB4 := hid (HB2.out.trans (hb4.mono HB2.out.size))
       have hb5 := HBV.out.keep hb4
       have HB5 := hid hb5
       have hc5 := hb5.1; have hf5 := hb5.2.1
       have HI4 := hid ((hb4.block (w1.heap.size + 1) (Array.getElem?_eq_some_iff.1 HI2.out).1).trans HI2.out)
       clear hb4 hb5 hcv
       go_wp2_with fail
       go_roundw
       case rel => exact ⟨_, 1, 0, rfl, .inr ⟨rfl, rfl⟩, (((Below.heap_setCell _ _ _ _ (by simp)).trans ((Below.heap_setCell _ _ _ _ (by simp)).trans ((Below.heap_setCell _ _ _ _ (by simp)).trans HI4.out)))), ((HB5.out.setC 0 (by simp) (.int .u64 0)).setC 1 (by simp) (.bool false)).setC 2 (by simp) (.bool false), ((HB4.out.setCell (p := ⟨w1.heap.size, 0, none⟩) HZ.out _).setCell (p := ⟨w1.heap.size, 1, none⟩) HZ.out _).setCell (p := ⟨w1.heap.size, 2, none⟩) HZ.out _⟩
       case measure => rw [iterPos_of ((Below.heap_setCell _ _ _ _ (by simp)).trans ((Below.heap_setCell _ _ _ _ (by simp)).trans ((Below.heap_setCell _ _ _ _ (by simp)).trans HI4.out))), iterPos_of HIT.out]; omega
     · have hnx : ∀ ty, (Instr.next (.pointer (some ⟨w1.heap.size + 1, 0, none⟩)) true ty).run Tryz.prog W = _ := fun ty => Lib.run_next_end_at W (w1.heap.size + 1) ⟨#[48]⟩ 1 ty hit (by decide)
       clear hit
       go_wp2_with fail
       refine (HN _).out.mono ?_
       rintro e w3 ⟨rfl, hb3⟩
       have HB3 := hid (HBW.out.trans (hb3.mono HBW.out.size))
       clear hb3
       go_wp2_with fail
       go_ret2
       exact ⟨rfl, HB3.out⟩
 · go_enter Tryz.func86, Tryz.ntmps86
   go_wp2_with fail
   refine (HH _).out.mono ?_
   rintro e w1 ⟨rfl, hb1⟩
   have HB1 := hid ((belowA hb1 (.cells #[.int .u64 0, .bool false, .bool false] 152)).trans (iter_below _ ⟨#[49]⟩ |>.mono (by have := hb1.size; simp; omega)))
   have HX1 := hid (((Bx.new w1 #[.int .u64 0, .bool false, .bool false] 152)).keep (iter_below _ ⟨#[49]⟩))
   have HZ : Hid (w.heap.size ≤ w1.heap.size) := hid hb1.size
   clear hb1
   go_wp2_with fail
   go_loopw [] (fun wr => ∃ (W : World) (k v : Nat), W = wr ∧ ((k = 0 ∧ v = 0) ∨ (k = 1 ∧ v = 1)) ∧ wr.heap[w1.heap.size + 1]? = some (.stringIter ⟨#[49]⟩ k) ∧ Bx wr w1.heap.size #[.int .u64 v, .bool false, .bool false] ∧ Below w.heap.size w wr) (fun wr => 2 - wr.iterPos (w1.heap.size + 1))
   case atStart => exact ⟨_, 0, 0, rfl, .inl ⟨rfl, rfl⟩, (by have := World.iter_heap (w1.alloc (.cells #[.int .u64 0, .bool false, .bool false] 152)) ⟨#[49]⟩ 0; rwa [World.size_alloc] at this), HX1.out, HB1.out⟩
   case round =>
     obtain ⟨W, k, v, rfl, hkv, hit, hbx, hbw⟩ := hrel
     have HIT := hid hit; have HBX := hid hbx; have HBW := hid hbw
     have hcx := hbx.1; have hfx := hbx.2.1
     clear hbx hbw
     rcases hkv with ⟨rfl, rfl⟩ | ⟨rfl, rfl⟩
     · have hnx : ∀ ty, (Instr.next (.pointer (some ⟨w1.heap.size + 1, 0, none⟩)) true ty).run Tryz.prog W = .ok (.tuple #[.bool true, .int .i64 0, .int .i32 49]) (W.iterAt (w1.heap.size + 1) ⟨#[49]⟩ 1) := fun ty => Lib.run_next_any_at W (w1.heap.size + 1) ⟨#[49]⟩ 0 ty hit (by decide)
       have HI2 := hid (Lib.iterAt_heap W (w1.heap.size + 1) ⟨#[49]⟩ 0 1 hit)
       have HB2 := hid (Lib.below_iterAt HBW.out (k := w1.heap.size + 1) (by have := HZ.out; omega) ⟨#[49]⟩ 1)
       clear hit
       have hbv := HBX.out.of_eq (Y := W.iterAt (w1.heap.size + 1) ⟨#[49]⟩ 1) (by rw [Lib.iterAt_size]; exact Nat.le_refl _) (Lib.iterAt_other W _ _ _ _ (by omega))
       have hcv := hbv.1
       have HBV := hid hbv
       clear hbv hcx hfx
       go_wp2_with fail
       refine (HW _).out.mono ?_
       rintro e w4 ⟨rfl, hb4⟩
       have HB4 := hid (HB2.out.trans (hb4.mono HB2.out.size))
       have hb5 := HBV.out.keep hb4
       have HB5 := hid hb5
       have hc5 := hb5.1; have hf5 := hb5.2.1
       have HI4 := hid ((hb4.block (w1.heap.size + 1) (Array.getElem?_eq_some_iff.1 HI2.out).1).trans HI2.out)
       clear hb4 hb5 hcv
       go_wp2_with fail
       go_roundw
       case rel => exact ⟨_, 1, 1, rfl, .inr ⟨rfl, rfl⟩, (((Below.heap_setCell _ _ _ _ (by simp)).trans ((Below.heap_setCell _ _ _ _ (by simp)).trans ((Below.heap_setCell _ _ _ _ (by simp)).trans HI4.out)))), ((HB5.out.setC 0 (by simp) (.int .u64 1)).setC 1 (by simp) (.bool false)).setC 2 (by simp) (.bool false), ((HB4.out.setCell (p := ⟨w1.heap.size, 0, none⟩) HZ.out _).setCell (p := ⟨w1.heap.size, 1, none⟩) HZ.out _).setCell (p := ⟨w1.heap.size, 2, none⟩) HZ.out _⟩
       case measure => rw [iterPos_of ((Below.heap_setCell _ _ _ _ (by simp)).trans ((Below.heap_setCell _ _ _ _ (by simp)).trans ((Below.heap_setCell _ _ _ _ (by simp)).trans HI4.out))), iterPos_of HIT.out]; omega
     · have hnx : ∀ ty, (Instr.next (.pointer (some ⟨w1.heap.size + 1, 0, none⟩)) true ty).run Tryz.prog W = _ := fun ty => Lib.run_next_end_at W (w1.heap.size + 1) ⟨#[49]⟩ 1 ty hit (by decide)
       clear hit
       go_wp2_with fail
       refine (HN _).out.mono ?_
       rintro e w3 ⟨rfl, hb3⟩
       have HB3 := hid (HBW.out.trans (hb3.mono HBW.out.size))
       clear hb3
       go_wp2_with fail
       go_ret2
       exact ⟨rfl, HB3.out⟩
 · go_enter Tryz.func86, Tryz.ntmps86
   go_wp2_with fail
   refine (HH _).out.mono ?_
   rintro e w1 ⟨rfl, hb1⟩
   have HB1 := hid ((belowA hb1 (.cells #[.int .u64 0, .bool false, .bool false] 152)).trans (iter_below _ ⟨#[50]⟩ |>.mono (by have := hb1.size; simp; omega)))
   have HX1 := hid (((Bx.new w1 #[.int .u64 0, .bool false, .bool false] 152)).keep (iter_below _ ⟨#[50]⟩))
   have HZ : Hid (w.heap.size ≤ w1.heap.size) := hid hb1.size
   clear hb1
   go_wp2_with fail
   go_loopw [] (fun wr => ∃ (W : World) (k v : Nat), W = wr ∧ ((k = 0 ∧ v = 0) ∨ (k = 1 ∧ v = 2)) ∧ wr.heap[w1.heap.size + 1]? = some (.stringIter ⟨#[50]⟩ k) ∧ Bx wr w1.heap.size #[.int .u64 v, .bool false, .bool false] ∧ Below w.heap.size w wr) (fun wr => 2 - wr.iterPos (w1.heap.size + 1))
   case atStart => exact ⟨_, 0, 0, rfl, .inl ⟨rfl, rfl⟩, (by have := World.iter_heap (w1.alloc (.cells #[.int .u64 0, .bool false, .bool false] 152)) ⟨#[50]⟩ 0; rwa [World.size_alloc] at this), HX1.out, HB1.out⟩
   case round =>
     obtain ⟨W, k, v, rfl, hkv, hit, hbx, hbw⟩ := hrel
     have HIT := hid hit; have HBX := hid hbx; have HBW := hid hbw
     have hcx := hbx.1; have hfx := hbx.2.1
     clear hbx hbw
     rcases hkv with ⟨rfl, rfl⟩ | ⟨rfl, rfl⟩
     · have hnx : ∀ ty, (Instr.next (.pointer (some ⟨w1.heap.size + 1, 0, none⟩)) true ty).run Tryz.prog W = .ok (.tuple #[.bool true, .int .i64 0, .int .i32 50]) (W.iterAt (w1.heap.size + 1) ⟨#[50]⟩ 1) := fun ty => Lib.run_next_any_at W (w1.heap.size + 1) ⟨#[50]⟩ 0 ty hit (by decide)
       have HI2 := hid (Lib.iterAt_heap W (w1.heap.size + 1) ⟨#[50]⟩ 0 1 hit)
       have HB2 := hid (Lib.below_iterAt HBW.out (k := w1.heap.size + 1) (by have := HZ.out; omega) ⟨#[50]⟩ 1)
       clear hit
       have hbv := HBX.out.of_eq (Y := W.iterAt (w1.heap.size + 1) ⟨#[50]⟩ 1) (by rw [Lib.iterAt_size]; exact Nat.le_refl _) (Lib.iterAt_other W _ _ _ _ (by omega))
       have hcv := hbv.1
       have HBV := hid hbv
       clear hbv hcx hfx
       go_wp2_with fail
       refine (HW _).out.mono ?_
       rintro e w4 ⟨rfl, hb4⟩
       have HB4 := hid (HB2.out.trans (hb4.mono HB2.out.size))
       have hb5 := HBV.out.keep hb4
       have HB5 := hid hb5
       have hc5 := hb5.1; have hf5 := hb5.2.1
       have HI4 := hid ((hb4.block (w1.heap.size + 1) (Array.getElem?_eq_some_iff.1 HI2.out).1).trans HI2.out)
       clear hb4 hb5 hcv
       go_wp2_with fail
       go_roundw
       case rel => exact ⟨_, 1, 2, rfl, .inr ⟨rfl, rfl⟩, (((Below.heap_setCell _ _ _ _ (by simp)).trans ((Below.heap_setCell _ _ _ _ (by simp)).trans ((Below.heap_setCell _ _ _ _ (by simp)).trans HI4.out)))), ((HB5.out.setC 0 (by simp) (.int .u64 2)).setC 1 (by simp) (.bool false)).setC 2 (by simp) (.bool false), ((HB4.out.setCell (p := ⟨w1.heap.size, 0, none⟩) HZ.out _).setCell (p := ⟨w1.heap.size, 1, none⟩) HZ.out _).setCell (p := ⟨w1.heap.size, 2, none⟩) HZ.out _⟩
       case measure => rw [iterPos_of ((Below.heap_setCell _ _ _ _ (by simp)).trans ((Below.heap_setCell _ _ _ _ (by simp)).trans ((Below.heap_setCell _ _ _ _ (by simp)).trans HI4.out))), iterPos_of HIT.out]; omega
     · have hnx : ∀ ty, (Instr.next (.pointer (some ⟨w1.heap.size + 1, 0, none⟩)) true ty).run Tryz.prog W = _ := fun ty => Lib.run_next_end_at W (w1.heap.size + 1) ⟨#[50]⟩ 1 ty hit (by decide)
       clear hit
       go_wp2_with fail
       refine (HN _).out.mono ?_
       rintro e w3 ⟨rfl, hb3⟩
       have HB3 := hid (HBW.out.trans (hb3.mono HBW.out.size))
       clear hb3
       go_wp2_with fail
       go_ret2
       exact ⟨rfl, HB3.out⟩
 · go_enter Tryz.func86, Tryz.ntmps86
   go_wp2_with fail
   refine (HH _).out.mono ?_
   rintro e w1 ⟨rfl, hb1⟩
   have HB1 := hid ((belowA hb1 (.cells #[.int .u64 0, .bool false, .bool false] 152)).trans (iter_below _ ⟨#[51]⟩ |>.mono (by have := hb1.size; simp; omega)))
   have HX1 := hid (((Bx.new w1 #[.int .u64 0, .bool false, .bool false] 152)).keep (iter_below _ ⟨#[51]⟩))
   have HZ : Hid (w.heap.size ≤ w1.heap.size) := hid hb1.size
   clear hb1
   go_wp2_with fail
   go_loopw [] (fun wr => ∃ (W : World) (k v : Nat), W = wr ∧ ((k = 0 ∧ v = 0) ∨ (k = 1 ∧ v = 3)) ∧ wr.heap[w1.heap.size + 1]? = some (.stringIter ⟨#[51]⟩ k) ∧ Bx wr w1.heap.size #[.int .u64 v, .bool false, .bool false] ∧ Below w.heap.size w wr) (fun wr => 2 - wr.iterPos (w1.heap.size + 1))
   case atStart => exact ⟨_, 0, 0, rfl, .inl ⟨rfl, rfl⟩, (by have := World.iter_heap (w1.alloc (.cells #[.int .u64 0, .bool false, .bool false] 152)) ⟨#[51]⟩ 0; rwa [World.size_alloc] at this), HX1.out, HB1.out⟩
   case round =>
     obtain ⟨W, k, v, rfl, hkv, hit, hbx, hbw⟩ := hrel
     have HIT := hid hit; have HBX := hid hbx; have HBW := hid hbw
     have hcx := hbx.1; have hfx := hbx.2.1
     clear hbx hbw
     rcases hkv with ⟨rfl, rfl⟩ | ⟨rfl, rfl⟩
     · have hnx : ∀ ty, (Instr.next (.pointer (some ⟨w1.heap.size + 1, 0, none⟩)) true ty).run Tryz.prog W = .ok (.tuple #[.bool true, .int .i64 0, .int .i32 51]) (W.iterAt (w1.heap.size + 1) ⟨#[51]⟩ 1) := fun ty => Lib.run_next_any_at W (w1.heap.size + 1) ⟨#[51]⟩ 0 ty hit (by decide)
       have HI2 := hid (Lib.iterAt_heap W (w1.heap.size + 1) ⟨#[51]⟩ 0 1 hit)
       have HB2 := hid (Lib.below_iterAt HBW.out (k := w1.heap.size + 1) (by have := HZ.out; omega) ⟨#[51]⟩ 1)
       clear hit
       have hbv := HBX.out.of_eq (Y := W.iterAt (w1.heap.size + 1) ⟨#[51]⟩ 1) (by rw [Lib.iterAt_size]; exact Nat.le_refl _) (Lib.iterAt_other W _ _ _ _ (by omega))
       have hcv := hbv.1
       have HBV := hid hbv
       clear hbv hcx hfx
       go_wp2_with fail
       refine (HW _).out.mono ?_
       rintro e w4 ⟨rfl, hb4⟩
       have HB4 := hid (HB2.out.trans (hb4.mono HB2.out.size))
       have hb5 := HBV.out.keep hb4
       have HB5 := hid hb5
       have hc5 := hb5.1; have hf5 := hb5.2.1
       have HI4 := hid ((hb4.block (w1.heap.size + 1) (Array.getElem?_eq_some_iff.1 HI2.out).1).trans HI2.out)
       clear hb4 hb5 hcv
       go_wp2_with fail
       go_roundw
       case rel => exact ⟨_, 1, 3, rfl, .inr ⟨rfl, rfl⟩, (((Below.heap_setCell _ _ _ _ (by simp)).trans ((Below.heap_setCell _ _ _ _ (by simp)).trans ((Below.heap_setCell _ _ _ _ (by simp)).trans HI4.out)))), ((HB5.out.setC 0 (by simp) (.int .u64 3)).setC 1 (by simp) (.bool false)).setC 2 (by simp) (.bool false), ((HB4.out.setCell (p := ⟨w1.heap.size, 0, none⟩) HZ.out _).setCell (p := ⟨w1.heap.size, 1, none⟩) HZ.out _).setCell (p := ⟨w1.heap.size, 2, none⟩) HZ.out _⟩
       case measure => rw [iterPos_of ((Below.heap_setCell _ _ _ _ (by simp)).trans ((Below.heap_setCell _ _ _ _ (by simp)).trans ((Below.heap_setCell _ _ _ _ (by simp)).trans HI4.out))), iterPos_of HIT.out]; omega
     · have hnx : ∀ ty, (Instr.next (.pointer (some ⟨w1.heap.size + 1, 0, none⟩)) true ty).run Tryz.prog W = _ := fun ty => Lib.run_next_end_at W (w1.heap.size + 1) ⟨#[51]⟩ 1 ty hit (by decide)
       clear hit
       go_wp2_with fail
       refine (HN _).out.mono ?_
       rintro e w3 ⟨rfl, hb3⟩
       have HB3 := hid (HBW.out.trans (hb3.mono HBW.out.size))
       clear hb3
       go_wp2_with fail
       go_ret2
       exact ⟨rfl, HB3.out⟩
 · go_enter Tryz.func86, Tryz.ntmps86
   go_wp2_with fail
   refine (HH _).out.mono ?_
   rintro e w1 ⟨rfl, hb1⟩
   have HB1 := hid ((belowA hb1 (.cells #[.int .u64 0, .bool false, .bool false] 152)).trans (iter_below _ ⟨#[52]⟩ |>.mono (by have := hb1.size; simp; omega)))
   have HX1 := hid (((Bx.new w1 #[.int .u64 0, .bool false, .bool false] 152)).keep (iter_below _ ⟨#[52]⟩))
   have HZ : Hid (w.heap.size ≤ w1.heap.size) := hid hb1.size
   clear hb1
   go_wp2_with fail
   go_loopw [] (fun wr => ∃ (W : World) (k v : Nat), W = wr ∧ ((k = 0 ∧ v = 0) ∨ (k = 1 ∧ v = 4)) ∧ wr.heap[w1.heap.size + 1]? = some (.stringIter ⟨#[52]⟩ k) ∧ Bx wr w1.heap.size #[.int .u64 v, .bool false, .bool false] ∧ Below w.heap.size w wr) (fun wr => 2 - wr.iterPos (w1.heap.size + 1))
   case atStart => exact ⟨_, 0, 0, rfl, .inl ⟨rfl, rfl⟩, (by have := World.iter_heap (w1.alloc (.cells #[.int .u64 0, .bool false, .bool false] 152)) ⟨#[52]⟩ 0; rwa [World.size_alloc] at this), HX1.out, HB1.out⟩
   case round =>
     obtain ⟨W, k, v, rfl, hkv, hit, hbx, hbw⟩ := hrel
     have HIT := hid hit; have HBX := hid hbx; have HBW := hid hbw
     have hcx := hbx.1; have hfx := hbx.2.1
     clear hbx hbw
     rcases hkv with ⟨rfl, rfl⟩ | ⟨rfl, rfl⟩
     · have hnx : ∀ ty, (Instr.next (.pointer (some ⟨w1.heap.size + 1, 0, none⟩)) true ty).run Tryz.prog W = .ok (.tuple #[.bool true, .int .i64 0, .int .i32 52]) (W.iterAt (w1.heap.size + 1) ⟨#[52]⟩ 1) := fun ty => Lib.run_next_any_at W (w1.heap.size + 1) ⟨#[52]⟩ 0 ty hit (by decide)
       have HI2 := hid (Lib.iterAt_heap W (w1.heap.size + 1) ⟨#[52]⟩ 0 1 hit)
       have HB2 := hid (Lib.below_iterAt HBW.out (k := w1.heap.size + 1) (by have := HZ.out; omega) ⟨#[52]⟩ 1)
       clear hit
       have hbv := HBX.out.of_eq (Y := W.iterAt (w1.heap.size + 1) ⟨#[52]⟩ 1) (by rw [Lib.iterAt_size]; exact Nat.le_refl _) (Lib.iterAt_other W _ _ _ _ (by omega))
       have hcv := hbv.1
       have HBV := hid hbv
       clear hbv hcx hfx
       go_wp2_with fail
       refine (HW _).out.mono ?_
       rintro e w4 ⟨rfl, hb4⟩
       have HB4 := hid (HB2.out.trans (hb4.mono HB2.out.size))
       have hb5 := HBV.out.keep hb4
       have HB5 := hid hb5
       have hc5 := hb5.1; have hf5 := hb5.2.1
       have HI4 := hid ((hb4.block (w1.heap.size + 1) (Array.getElem?_eq_some_iff.1 HI2.out).1).trans HI2.out)
       clear hb4 hb5 hcv
       go_wp2_with fail
       go_roundw
       case rel => exact ⟨_, 1, 4, rfl, .inr ⟨rfl, rfl⟩, (((Below.heap_setCell _ _ _ _ (by simp)).trans ((Below.heap_setCell _ _ _ _ (by simp)).trans ((Below.heap_setCell _ _ _ _ (by simp)).trans HI4.out)))), ((HB5.out.setC 0 (by simp) (.int .u64 4)).setC 1 (by simp) (.bool false)).setC 2 (by simp) (.bool false), ((HB4.out.setCell (p := ⟨w1.heap.size, 0, none⟩) HZ.out _).setCell (p := ⟨w1.heap.size, 1, none⟩) HZ.out _).setCell (p := ⟨w1.heap.size, 2, none⟩) HZ.out _⟩
       case measure => rw [iterPos_of ((Below.heap_setCell _ _ _ _ (by simp)).trans ((Below.heap_setCell _ _ _ _ (by simp)).trans ((Below.heap_setCell _ _ _ _ (by simp)).trans HI4.out))), iterPos_of HIT.out]; omega
     · have hnx : ∀ ty, (Instr.next (.pointer (some ⟨w1.heap.size + 1, 0, none⟩)) true ty).run Tryz.prog W = _ := fun ty => Lib.run_next_end_at W (w1.heap.size + 1) ⟨#[52]⟩ 1 ty hit (by decide)
       clear hit
       go_wp2_with fail
       refine (HN _).out.mono ?_
       rintro e w3 ⟨rfl, hb3⟩
       have HB3 := hid (HBW.out.trans (hb3.mono HBW.out.size))
       clear hb3
       go_wp2_with fail
       go_ret2
       exact ⟨rfl, HB3.out⟩
 · go_enter Tryz.func86, Tryz.ntmps86
   go_wp2_with fail
   refine (HH _).out.mono ?_
   rintro e w1 ⟨rfl, hb1⟩
   have HB1 := hid ((belowA hb1 (.cells #[.int .u64 0, .bool false, .bool false] 152)).trans (iter_below _ ⟨#[53]⟩ |>.mono (by have := hb1.size; simp; omega)))
   have HX1 := hid (((Bx.new w1 #[.int .u64 0, .bool false, .bool false] 152)).keep (iter_below _ ⟨#[53]⟩))
   have HZ : Hid (w.heap.size ≤ w1.heap.size) := hid hb1.size
   clear hb1
   go_wp2_with fail
   go_loopw [] (fun wr => ∃ (W : World) (k v : Nat), W = wr ∧ ((k = 0 ∧ v = 0) ∨ (k = 1 ∧ v = 5)) ∧ wr.heap[w1.heap.size + 1]? = some (.stringIter ⟨#[53]⟩ k) ∧ Bx wr w1.heap.size #[.int .u64 v, .bool false, .bool false] ∧ Below w.heap.size w wr) (fun wr => 2 - wr.iterPos (w1.heap.size + 1))
   case atStart => exact ⟨_, 0, 0, rfl, .inl ⟨rfl, rfl⟩, (by have := World.iter_heap (w1.alloc (.cells #[.int .u64 0, .bool false, .bool false] 152)) ⟨#[53]⟩ 0; rwa [World.size_alloc] at this), HX1.out, HB1.out⟩
   case round =>
     obtain ⟨W, k, v, rfl, hkv, hit, hbx, hbw⟩ := hrel
     have HIT := hid hit; have HBX := hid hbx; have HBW := hid hbw
     have hcx := hbx.1; have hfx := hbx.2.1
     clear hbx hbw
     rcases hkv with ⟨rfl, rfl⟩ | ⟨rfl, rfl⟩
     · have hnx : ∀ ty, (Instr.next (.pointer (some ⟨w1.heap.size + 1, 0, none⟩)) true ty).run Tryz.prog W = .ok (.tuple #[.bool true, .int .i64 0, .int .i32 53]) (W.iterAt (w1.heap.size + 1) ⟨#[53]⟩ 1) := fun ty => Lib.run_next_any_at W (w1.heap.size + 1) ⟨#[53]⟩ 0 ty hit (by decide)
       have HI2 := hid (Lib.iterAt_heap W (w1.heap.size + 1) ⟨#[53]⟩ 0 1 hit)
       have HB2 := hid (Lib.below_iterAt HBW.out (k := w1.heap.size + 1) (by have := HZ.out; omega) ⟨#[53]⟩ 1)
       clear hit
       have hbv := HBX.out.of_eq (Y := W.iterAt (w1.heap.size + 1) ⟨#[53]⟩ 1) (by rw [Lib.iterAt_size]; exact Nat.le_refl _) (Lib.iterAt_other W _ _ _ _ (by omega))
       have hcv := hbv.1
       have HBV := hid hbv
       clear hbv hcx hfx
       go_wp2_with fail
       refine (HW _).out.mono ?_
       rintro e w4 ⟨rfl, hb4⟩
       have HB4 := hid (HB2.out.trans (hb4.mono HB2.out.size))
       have hb5 := HBV.out.keep hb4
       have HB5 := hid hb5
       have hc5 := hb5.1; have hf5 := hb5.2.1
       have HI4 := hid ((hb4.block (w1.heap.size + 1) (Array.getElem?_eq_some_iff.1 HI2.out).1).trans HI2.out)
       clear hb4 hb5 hcv
       go_wp2_with fail
       go_roundw
       case rel => exact ⟨_, 1, 5, rfl, .inr ⟨rfl, rfl⟩, (((Below.heap_setCell _ _ _ _ (by simp)).trans ((Below.heap_setCell _ _ _ _ (by simp)).trans ((Below.heap_setCell _ _ _ _ (by simp)).trans HI4.out)))), ((HB5.out.setC 0 (by simp) (.int .u64 5)).setC 1 (by simp) (.bool false)).setC 2 (by simp) (.bool false), ((HB4.out.setCell (p := ⟨w1.heap.size, 0, none⟩) HZ.out _).setCell (p := ⟨w1.heap.size, 1, none⟩) HZ.out _).setCell (p := ⟨w1.heap.size, 2, none⟩) HZ.out _⟩
       case measure => rw [iterPos_of ((Below.heap_setCell _ _ _ _ (by simp)).trans ((Below.heap_setCell _ _ _ _ (by simp)).trans ((Below.heap_setCell _ _ _ _ (by simp)).trans HI4.out))), iterPos_of HIT.out]; omega
     · have hnx : ∀ ty, (Instr.next (.pointer (some ⟨w1.heap.size + 1, 0, none⟩)) true ty).run Tryz.prog W = _ := fun ty => Lib.run_next_end_at W (w1.heap.size + 1) ⟨#[53]⟩ 1 ty hit (by decide)
       clear hit
       go_wp2_with fail
       refine (HN _).out.mono ?_
       rintro e w3 ⟨rfl, hb3⟩
       have HB3 := hid (HBW.out.trans (hb3.mono HBW.out.size))
       clear hb3
       go_wp2_with fail
       go_ret2
       exact ⟨rfl, HB3.out⟩
 · go_enter Tryz.func86, Tryz.ntmps86
   go_wp2_with fail
   refine (HH _).out.mono ?_
   rintro e w1 ⟨rfl, hb1⟩
   have HB1 := hid ((belowA hb1 (.cells #[.int .u64 0, .bool false, .bool false] 152)).trans (iter_below _ ⟨#[54]⟩ |>.mono (by have := hb1.size; simp; omega)))
   have HX1 := hid (((Bx.new w1 #[.int .u64 0, .bool false, .bool false] 152)).keep (iter_below _ ⟨#[54]⟩))
   have HZ : Hid (w.heap.size ≤ w1.heap.size) := hid hb1.size
   clear hb1
   go_wp2_with fail
   go_loopw [] (fun wr => ∃ (W : World) (k v : Nat), W = wr ∧ ((k = 0 ∧ v = 0) ∨ (k = 1 ∧ v = 6)) ∧ wr.heap[w1.heap.size + 1]? = some (.stringIter ⟨#[54]⟩ k) ∧ Bx wr w1.heap.size #[.int .u64 v, .bool false, .bool false] ∧ Below w.heap.size w wr) (fun wr => 2 - wr.iterPos (w1.heap.size + 1))
   case atStart => exact ⟨_, 0, 0, rfl, .inl ⟨rfl, rfl⟩, (by have := World.iter_heap (w1.alloc (.cells #[.int .u64 0, .bool false, .bool false] 152)) ⟨#[54]⟩ 0; rwa [World.size_alloc] at this), HX1.out, HB1.out⟩
   case round =>
     obtain ⟨W, k, v, rfl, hkv, hit, hbx, hbw⟩ := hrel
     have HIT := hid hit; have HBX := hid hbx; have HBW := hid hbw
     have hcx := hbx.1; have hfx := hbx.2.1
     clear hbx hbw
     rcases hkv with ⟨rfl, rfl⟩ | ⟨rfl, rfl⟩
     · have hnx : ∀ ty, (Instr.next (.pointer (some ⟨w1.heap.size + 1, 0, none⟩)) true ty).run Tryz.prog W = .ok (.tuple #[.bool true, .int .i64 0, .int .i32 54]) (W.iterAt (w1.heap.size + 1) ⟨#[54]⟩ 1) := fun ty => Lib.run_next_any_at W (w1.heap.size + 1) ⟨#[54]⟩ 0 ty hit (by decide)
       have HI2 := hid (Lib.iterAt_heap W (w1.heap.size + 1) ⟨#[54]⟩ 0 1 hit)
       have HB2 := hid (Lib.below_iterAt HBW.out (k := w1.heap.size + 1) (by have := HZ.out; omega) ⟨#[54]⟩ 1)
       clear hit
       have hbv := HBX.out.of_eq (Y := W.iterAt (w1.heap.size + 1) ⟨#[54]⟩ 1) (by rw [Lib.iterAt_size]; exact Nat.le_refl _) (Lib.iterAt_other W _ _ _ _ (by omega))
       have hcv := hbv.1
       have HBV := hid hbv
       clear hbv hcx hfx
       go_wp2_with fail
       refine (HW _).out.mono ?_
       rintro e w4 ⟨rfl, hb4⟩
       have HB4 := hid (HB2.out.trans (hb4.mono HB2.out.size))
       have hb5 := HBV.out.keep hb4
       have HB5 := hid hb5
       have hc5 := hb5.1; have hf5 := hb5.2.1
       have HI4 := hid ((hb4.block (w1.heap.size + 1) (Array.getElem?_eq_some_iff.1 HI2.out).1).trans HI2.out)
       clear hb4 hb5 hcv
       go_wp2_with fail
       go_roundw
       case rel => exact ⟨_, 1, 6, rfl, .inr ⟨rfl, rfl⟩, (((Below.heap_setCell _ _ _ _ (by simp)).trans ((Below.heap_setCell _ _ _ _ (by simp)).trans ((Below.heap_setCell _ _ _ _ (by simp)).trans HI4.out)))), ((HB5.out.setC 0 (by simp) (.int .u64 6)).setC 1 (by simp) (.bool false)).setC 2 (by simp) (.bool false), ((HB4.out.setCell (p := ⟨w1.heap.size, 0, none⟩) HZ.out _).setCell (p := ⟨w1.heap.size, 1, none⟩) HZ.out _).setCell (p := ⟨w1.heap.size, 2, none⟩) HZ.out _⟩
       case measure => rw [iterPos_of ((Below.heap_setCell _ _ _ _ (by simp)).trans ((Below.heap_setCell _ _ _ _ (by simp)).trans ((Below.heap_setCell _ _ _ _ (by simp)).trans HI4.out))), iterPos_of HIT.out]; omega
     · have hnx : ∀ ty, (Instr.next (.pointer (some ⟨w1.heap.size + 1, 0, none⟩)) true ty).run Tryz.prog W = _ := fun ty => Lib.run_next_end_at W (w1.heap.size + 1) ⟨#[54]⟩ 1 ty hit (by decide)
       clear hit
       go_wp2_with fail
       refine (HN _).out.mono ?_
       rintro e w3 ⟨rfl, hb3⟩
       have HB3 := hid (HBW.out.trans (hb3.mono HBW.out.size))
       clear hb3
       go_wp2_with fail
       go_ret2
       exact ⟨rfl, HB3.out⟩
 · go_enter Tryz.func86, Tryz.ntmps86
   go_wp2_with fail
   refine (HH _).out.mono ?_
   rintro e w1 ⟨rfl, hb1⟩
   have HB1 := hid ((belowA hb1 (.cells #[.int .u64 0, .bool false, .bool false] 152)).trans (iter_below _ ⟨#[55]⟩ |>.mono (by have := hb1.size; simp; omega)))
   have HX1 := hid (((Bx.new w1 #[.int .u64 0, .bool false, .bool false] 152)).keep (iter_below _ ⟨#[55]⟩))
   have HZ : Hid (w.heap.size ≤ w1.heap.size) := hid hb1.size
   clear hb1
   go_wp2_with fail
   go_loopw [] (fun wr => ∃ (W : World) (k v : Nat), W = wr ∧ ((k = 0 ∧ v = 0) ∨ (k = 1 ∧ v = 7)) ∧ wr.heap[w1.heap.size + 1]? = some (.stringIter ⟨#[55]⟩ k) ∧ Bx wr w1.heap.size #[.int .u64 v, .bool false, .bool false] ∧ Below w.heap.size w wr) (fun wr => 2 - wr.iterPos (w1.heap.size + 1))
   case atStart => exact ⟨_, 0, 0, rfl, .inl ⟨rfl, rfl⟩, (by have := World.iter_heap (w1.alloc (.cells #[.int .u64 0, .bool false, .bool false] 152)) ⟨#[55]⟩ 0; rwa [World.size_alloc] at this), HX1.out, HB1.out⟩
   case round =>
     obtain ⟨W, k, v, rfl, hkv, hit, hbx, hbw⟩ := hrel
     have HIT := hid hit; have HBX := hid hbx; have HBW := hid hbw
     have hcx := hbx.1; have hfx := hbx.2.1
     clear hbx hbw
     rcases hkv with ⟨rfl, rfl⟩ | ⟨rfl, rfl⟩
     · have hnx : ∀ ty, (Instr.next (.pointer (some ⟨w1.heap.size + 1, 0, none⟩)) true ty).run Tryz.prog W = .ok (.tuple #[.bool true, .int .i64 0, .int .i32 55]) (W.iterAt (w1.heap.size + 1) ⟨#[55]⟩ 1) := fun ty => Lib.run_next_any_at W (w1.heap.size + 1) ⟨#[55]⟩ 0 ty hit (by decide)
       have HI2 := hid (Lib.iterAt_heap W (w1.heap.size + 1) ⟨#[55]⟩ 0 1 hit)
       have HB2 := hid (Lib.below_iterAt HBW.out (k := w1.heap.size + 1) (by have := HZ.out; omega) ⟨#[55]⟩ 1)
       clear hit
       have hbv := HBX.out.of_eq (Y := W.iterAt (w1.heap.size + 1) ⟨#[55]⟩ 1) (by rw [Lib.iterAt_size]; exact Nat.le_refl _) (Lib.iterAt_other W _ _ _ _ (by omega))
       have hcv := hbv.1
       have HBV := hid hbv
       clear hbv hcx hfx
       go_wp2_with fail
       refine (HW _).out.mono ?_
       rintro e w4 ⟨rfl, hb4⟩
       have HB4 := hid (HB2.out.trans (hb4.mono HB2.out.size))
       have hb5 := HBV.out.keep hb4
       have HB5 := hid hb5
       have hc5 := hb5.1; have hf5 := hb5.2.1
       have HI4 := hid ((hb4.block (w1.heap.size + 1) (Array.getElem?_eq_some_iff.1 HI2.out).1).trans HI2.out)
       clear hb4 hb5 hcv
       go_wp2_with fail
       go_roundw
       case rel => exact ⟨_, 1, 7, rfl, .inr ⟨rfl, rfl⟩, (((Below.heap_setCell _ _ _ _ (by simp)).trans ((Below.heap_setCell _ _ _ _ (by simp)).trans ((Below.heap_setCell _ _ _ _ (by simp)).trans HI4.out)))), ((HB5.out.setC 0 (by simp) (.int .u64 7)).setC 1 (by simp) (.bool false)).setC 2 (by simp) (.bool false), ((HB4.out.setCell (p := ⟨w1.heap.size, 0, none⟩) HZ.out _).setCell (p := ⟨w1.heap.size, 1, none⟩) HZ.out _).setCell (p := ⟨w1.heap.size, 2, none⟩) HZ.out _⟩
       case measure => rw [iterPos_of ((Below.heap_setCell _ _ _ _ (by simp)).trans ((Below.heap_setCell _ _ _ _ (by simp)).trans ((Below.heap_setCell _ _ _ _ (by simp)).trans HI4.out))), iterPos_of HIT.out]; omega
     · have hnx : ∀ ty, (Instr.next (.pointer (some ⟨w1.heap.size + 1, 0, none⟩)) true ty).run Tryz.prog W = _ := fun ty => Lib.run_next_end_at W (w1.heap.size + 1) ⟨#[55]⟩ 1 ty hit (by decide)
       clear hit
       go_wp2_with fail
       refine (HN _).out.mono ?_
       rintro e w3 ⟨rfl, hb3⟩
       have HB3 := hid (HBW.out.trans (hb3.mono HBW.out.size))
       clear hb3
       go_wp2_with fail
       go_ret2
       exact ⟨rfl, HB3.out⟩
 · go_enter Tryz.func86, Tryz.ntmps86
   go_wp2_with fail
   refine (HH _).out.mono ?_
   rintro e w1 ⟨rfl, hb1⟩
   have HB1 := hid ((belowA hb1 (.cells #[.int .u64 0, .bool false, .bool false] 152)).trans (iter_below _ ⟨#[56]⟩ |>.mono (by have := hb1.size; simp; omega)))
   have HX1 := hid (((Bx.new w1 #[.int .u64 0, .bool false, .bool false] 152)).keep (iter_below _ ⟨#[56]⟩))
   have HZ : Hid (w.heap.size ≤ w1.heap.size) := hid hb1.size
   clear hb1
   go_wp2_with fail
   go_loopw [] (fun wr => ∃ (W : World) (k v : Nat), W = wr ∧ ((k = 0 ∧ v = 0) ∨ (k = 1 ∧ v = 8)) ∧ wr.heap[w1.heap.size + 1]? = some (.stringIter ⟨#[56]⟩ k) ∧ Bx wr w1.heap.size #[.int .u64 v, .bool false, .bool false] ∧ Below w.heap.size w wr) (fun wr => 2 - wr.iterPos (w1.heap.size + 1))
   case atStart => exact ⟨_, 0, 0, rfl, .inl ⟨rfl, rfl⟩, (by have := World.iter_heap (w1.alloc (.cells #[.int .u64 0, .bool false, .bool false] 152)) ⟨#[56]⟩ 0; rwa [World.size_alloc] at this), HX1.out, HB1.out⟩
   case round =>
     obtain ⟨W, k, v, rfl, hkv, hit, hbx, hbw⟩ := hrel
     have HIT := hid hit; have HBX := hid hbx; have HBW := hid hbw
     have hcx := hbx.1; have hfx := hbx.2.1
     clear hbx hbw
     rcases hkv with ⟨rfl, rfl⟩ | ⟨rfl, rfl⟩
     · have hnx : ∀ ty, (Instr.next (.pointer (some ⟨w1.heap.size + 1, 0, none⟩)) true ty).run Tryz.prog W = .ok (.tuple #[.bool true, .int .i64 0, .int .i32 56]) (W.iterAt (w1.heap.size + 1) ⟨#[56]⟩ 1) := fun ty => Lib.run_next_any_at W (w1.heap.size + 1) ⟨#[56]⟩ 0 ty hit (by decide)
       have HI2 := hid (Lib.iterAt_heap W (w1.heap.size + 1) ⟨#[56]⟩ 0 1 hit)
       have HB2 := hid (Lib.below_iterAt HBW.out (k := w1.heap.size + 1) (by have := HZ.out; omega) ⟨#[56]⟩ 1)
       clear hit
       have hbv := HBX.out.of_eq (Y := W.iterAt (w1.heap.size + 1) ⟨#[56]⟩ 1) (by rw [Lib.iterAt_size]; exact Nat.le_refl _) (Lib.iterAt_other W _ _ _ _ (by omega))
       have hcv := hbv.1
       have HBV := hid hbv
       clear hbv hcx hfx
       go_wp2_with fail
       refine (HW _).out.mono ?_
       rintro e w4 ⟨rfl, hb4⟩
       have HB4 := hid (HB2.out.trans (hb4.mono HB2.out.size))
       have hb5 := HBV.out.keep hb4
       have HB5 := hid hb5
       have hc5 := hb5.1; have hf5 := hb5.2.1
       have HI4 := hid ((hb4.block (w1.heap.size + 1) (Array.getElem?_eq_some_iff.1 HI2.out).1).trans HI2.out)
       clear hb4 hb5 hcv
       go_wp2_with fail
       go_roundw
       case rel => exact ⟨_, 1, 8, rfl, .inr ⟨rfl, rfl⟩, (((Below.heap_setCell _ _ _ _ (by simp)).trans ((Below.heap_setCell _ _ _ _ (by simp)).trans ((Below.heap_setCell _ _ _ _ (by simp)).trans HI4.out)))), ((HB5.out.setC 0 (by simp) (.int .u64 8)).setC 1 (by simp) (.bool false)).setC 2 (by simp) (.bool false), ((HB4.out.setCell (p := ⟨w1.heap.size, 0, none⟩) HZ.out _).setCell (p := ⟨w1.heap.size, 1, none⟩) HZ.out _).setCell (p := ⟨w1.heap.size, 2, none⟩) HZ.out _⟩
       case measure => rw [iterPos_of ((Below.heap_setCell _ _ _ _ (by simp)).trans ((Below.heap_setCell _ _ _ _ (by simp)).trans ((Below.heap_setCell _ _ _ _ (by simp)).trans HI4.out))), iterPos_of HIT.out]; omega
     · have hnx : ∀ ty, (Instr.next (.pointer (some ⟨w1.heap.size + 1, 0, none⟩)) true ty).run Tryz.prog W = _ := fun ty => Lib.run_next_end_at W (w1.heap.size + 1) ⟨#[56]⟩ 1 ty hit (by decide)
       clear hit
       go_wp2_with fail
       refine (HN _).out.mono ?_
       rintro e w3 ⟨rfl, hb3⟩
       have HB3 := hid (HBW.out.trans (hb3.mono HBW.out.size))
       clear hb3
       go_wp2_with fail
       go_ret2
       exact ⟨rfl, HB3.out⟩
 · go_enter Tryz.func86, Tryz.ntmps86
   go_wp2_with fail
   refine (HH _).out.mono ?_
   rintro e w1 ⟨rfl, hb1⟩
   have HB1 := hid ((belowA hb1 (.cells #[.int .u64 0, .bool false, .bool false] 152)).trans (iter_below _ ⟨#[57]⟩ |>.mono (by have := hb1.size; simp; omega)))
   have HX1 := hid (((Bx.new w1 #[.int .u64 0, .bool false, .bool false] 152)).keep (iter_below _ ⟨#[57]⟩))
   have HZ : Hid (w.heap.size ≤ w1.heap.size) := hid hb1.size
   clear hb1
   go_wp2_with fail
   go_loopw [] (fun wr => ∃ (W : World) (k v : Nat), W = wr ∧ ((k = 0 ∧ v = 0) ∨ (k = 1 ∧ v = 9)) ∧ wr.heap[w1.heap.size + 1]? = some (.stringIter ⟨#[57]⟩ k) ∧ Bx wr w1.heap.size #[.int .u64 v, .bool false, .bool false] ∧ Below w.heap.size w wr) (fun wr => 2 - wr.iterPos (w1.heap.size + 1))
   case atStart => exact ⟨_, 0, 0, rfl, .inl ⟨rfl, rfl⟩, (by have := World.iter_heap (w1.alloc (.cells #[.int .u64 0, .bool false, .bool false] 152)) ⟨#[57]⟩ 0; rwa [World.size_alloc] at this), HX1.out, HB1.out⟩
   case round =>
     obtain ⟨W, k, v, rfl, hkv, hit, hbx, hbw⟩ := hrel
     have HIT := hid hit; have HBX := hid hbx; have HBW := hid hbw
     have hcx := hbx.1; have hfx := hbx.2.1
     clear hbx hbw
     rcases hkv with ⟨rfl, rfl⟩ | ⟨rfl, rfl⟩
     · have hnx : ∀ ty, (Instr.next (.pointer (some ⟨w1.heap.size + 1, 0, none⟩)) true ty).run Tryz.prog W = .ok (.tuple #[.bool true, .int .i64 0, .int .i32 57]) (W.iterAt (w1.heap.size + 1) ⟨#[57]⟩ 1) := fun ty => Lib.run_next_any_at W (w1.heap.size + 1) ⟨#[57]⟩ 0 ty hit (by decide)
       have HI2 := hid (Lib.iterAt_heap W (w1.heap.size + 1) ⟨#[57]⟩ 0 1 hit)
       have HB2 := hid (Lib.below_iterAt HBW.out (k := w1.heap.size + 1) (by have := HZ.out; omega) ⟨#[57]⟩ 1)
       clear hit
       have hbv := HBX.out.of_eq (Y := W.iterAt (w1.heap.size + 1) ⟨#[57]⟩ 1) (by rw [Lib.iterAt_size]; exact Nat.le_refl _) (Lib.iterAt_other W _ _ _ _ (by omega))
       have hcv := hbv.1
       have HBV := hid hbv
       clear hbv hcx hfx
       go_wp2_with fail
       refine (HW _).out.mono ?_
       rintro e w4 ⟨rfl, hb4⟩
       have HB4 := hid (HB2.out.trans (hb4.mono HB2.out.size))
       have hb5 := HBV.out.keep hb4
       have HB5 := hid hb5
       have hc5 := hb5.1; have hf5 := hb5.2.1
       have HI4 := hid ((hb4.block (w1.heap.size + 1) (Array.getElem?_eq_some_iff.1 HI2.out).1).trans HI2.out)
       clear hb4 hb5 hcv
       go_wp2_with fail
       go_roundw
       case rel => exact ⟨_, 1, 9, rfl, .inr ⟨rfl, rfl⟩, (((Below.heap_setCell _ _ _ _ (by simp)).trans ((Below.heap_setCell _ _ _ _ (by simp)).trans ((Below.heap_setCell _ _ _ _ (by simp)).trans HI4.out)))), ((HB5.out.setC 0 (by simp) (.int .u64 9)).setC 1 (by simp) (.bool false)).setC 2 (by simp) (.bool false), ((HB4.out.setCell (p := ⟨w1.heap.size, 0, none⟩) HZ.out _).setCell (p := ⟨w1.heap.size, 1, none⟩) HZ.out _).setCell (p := ⟨w1.heap.size, 2, none⟩) HZ.out _⟩
       case measure => rw [iterPos_of ((Below.heap_setCell _ _ _ _ (by simp)).trans ((Below.heap_setCell _ _ _ _ (by simp)).trans ((Below.heap_setCell _ _ _ _ (by simp)).trans HI4.out))), iterPos_of HIT.out]; omega
     · have hnx : ∀ ty, (Instr.next (.pointer (some ⟨w1.heap.size + 1, 0, none⟩)) true ty).run Tryz.prog W = _ := fun ty => Lib.run_next_end_at W (w1.heap.size + 1) ⟨#[57]⟩ 1 ty hit (by decide)
       clear hit
       go_wp2_with fail
       refine (HN _).out.mono ?_
       rintro e w3 ⟨rfl, hb3⟩
       have HB3 := hid (HBW.out.trans (hb3.mono HBW.out.size))
       clear hb3
       go_wp2_with fail
       go_ret2
       exact ⟨rfl, HB3.out⟩
end Yd
