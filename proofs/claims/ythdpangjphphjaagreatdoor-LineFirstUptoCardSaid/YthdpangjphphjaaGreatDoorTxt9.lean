import Derived.Test.YthdpangjphphjaaGreatDoorOrdP
import Derived.Test.YthdpangjphphjaaGreatDoorChk9
import Derived.Test.YthdpangjphphjaaGreatDoorProg
set_option maxRecDepth 200000
set_option maxHeartbeats 8000000
namespace Yd
open Go Go.RowKit Go.Proofs
theorem text_k9a (nb no : Nat) (va : Option Addr) (vc : Nat) (bt : Nat) (h0 : 0 < bt) (h1 : bt ≤ 15) (names : List Bs) (vers : List To) (w : World) (hl : LineW w (some ⟨nb, no, none⟩) 1 1 va 0 vc names vers) :
   Calls Tryz.prog 15 #[valLn ⟨9, (some ⟨nb, no, none⟩), 1, 1, 0, va, 0, vc, false, bt⟩] w (Ret2 (.string ⟨(textS ⟨9, names, 0, vers, false, bt⟩).toArray⟩) (.int .i64 0) w) := by
 have HL := hid hl
 have hf := hl.g.2.1 9 (by decide)
 have hf1 := hf.1; have hf2 := hf.2.1; have hf3 := hf.2.2
 simp only [formV, formN, formR] at hf1 hf2 hf3
 have hb0 := cell_lt hf1
 simp only at hb0
 obtain ⟨i, z, hi, hz, hsize, hby', hzs⟩ := partsStr
 have HI := hid (⟨hi, hz, hsize, hby', hzs⟩ : _ ∧ _ ∧ _ ∧ _ ∧ _)
 have HB0 := hid (belowA (Below.refl w.heap.size w) (.cells #[.int .i64 9, .slice (some ⟨nb, no, none⟩) 1 1, .int .i64 0, .slice va 0 vc, .bool false, .int .i64 bt] 28))
 have HX0 := hid (Bx.new w #[.int .i64 9, .slice (some ⟨nb, no, none⟩) 1 1, .int .i64 0, .slice va 0 vc, .bool false, .int .i64 bt] 28)
 have hle := hl.rn.le; have hcap := hl.rn.cap; have hlen := hl.rn.len
 have HF := hid (⟨hf1, hf2, hf3⟩ : _ ∧ _ ∧ _)
 have hb1 : ((bt : Int) == 0) = false := beq_eq_false_iff_ne.2 (by omega)
 clear hl hf hf1 hf2 hf3 hi hz hsize hby' hzs
 go_enter Tryz.func15, Tryz.ntmps15
 go_wp2_with fail
 refine (check_k9 (some ⟨nb, no, none⟩) 1 va vc bt h0 h1 names vers _ (HL.out.below HB0.out)).mono ?_
 rintro e w1 ⟨rfl, hb1⟩
 have hx1 := HX0.out.keep hb1
 have HB1 := hid (HB0.out.trans (hb1.mono HB0.out.size)); have HX1 := hid hx1
 have hcx1 := hx1.1
 have hf1 := bget HB1.out rfl HF.out.1; have hf2 := bget HB1.out rfl HF.out.2.1; have hf3 := bget HB1.out rfl HF.out.2.2
 have hlt := HB1.out.size
 have hlx := hx1.2.2
 have hlt' : w.heap.size < w1.heap.size := hlx
 have hb0' : 0 < w1.heap.size := Nat.lt_of_lt_of_le hb0 HB1.out.size
 clear hb1 hx1
 go_wp2_with fail
 have HY := hid (Bx.new w1 #[.string ⟨#[119, 97, 110, 116]⟩, .int .i64 1, .int .i32 103] 76)
 have HOW0 : Hid (Own ((w1.alloc (.cells #[.string ⟨#[119, 97, 110, 116]⟩, .int .i64 1, .int .i32 103] 76)).drew.alloc (.cells #[.string ⟨#[119, 97, 110, 116]⟩] 9)) (w1.heap.size + 1) 9 1 encStr (.slice (some ⟨w1.heap.size + 1, 0, none⟩) 1 1) [formV 9]) := hid (Own.strs (X := (w1.alloc (.cells #[.string ⟨#[119, 97, 110, 116]⟩, .int .i64 1, .int .i32 103] 76)).drew) (by simp) [formV 9] (by simp [maxLen]))
 have HBS := hid (belowA (belowA (Below.refl w1.heap.size w1) (.cells #[.string ⟨#[119, 97, 110, 116]⟩, .int .i64 1, .int .i32 103] 76)).drew (.cells #[.string ⟨#[119, 97, 110, 116]⟩] 9))
 have HR0 := hid (((HL.out.below HB1.out).rn.below HBS.out rfl).takeN (m := 1) (c' := 1) (by omega) (by omega))
 have HLO : Hid (w1.heap.size + 1 ≤ ((w1.alloc (.cells #[.string ⟨#[119, 97, 110, 116]⟩, .int .i64 1, .int .i32 103] 76)).drew.alloc (.cells #[.string ⟨#[119, 97, 110, 116]⟩] 9)).heap.size) := hid (by simp)
 have HXY := hid (HX1.out.alloc (.cells #[.string ⟨#[119, 97, 110, 116]⟩, .int .i64 1, .int .i32 103] 76))
 refine wp_region_ordC 9 [(0, 0), (1, 0), (3, 0), (4, 0), (5, 0), (6, 0), (7, 0), (2, 2), (8, 2), (9, 1)] (fun _ => True) (fun W' => W'.cell? ⟨w.heap.size, 1, none⟩ = some (.slice (some ⟨nb, no, none⟩) 1 1) ∧ W'.cell? ⟨w1.heap.size, 0, none⟩ = some (.string ⟨#[119, 97, 110, 116]⟩) ∧ W'.cell? ⟨w1.heap.size, 1, none⟩ = some (.int .i64 1)) (by kernel_rfl) (by kernel_rfl) (trivial) (⟨HXY.out.drew.1 1, HY.out.drew.1 0, HY.out.drew.1 1⟩) ?_
 repeat ((first | refine ordC_skip rfl rfl ?_ | refine ordC_skip1 rfl rfl ?_ | ((first | refine ordC_q rfl rfl ?_ | refine ordC_p rfl rfl ?_); apply Exists.intro; refine ⟨fun wS hS => ?_, ?_⟩; (go_simp; try with_reducible rfl))); simp only [Act.put, List.setIfInBounds_toArray, List.set_cons_zero, List.set_cons_succ])
 refine ordC_l rfl rfl (fun K hK => ?_)
 go_simp
 refine hK _ _ ⟨trivial, (HXY.out.drew.alloc _).1 1, (HY.out.drew.alloc _).1 0, (HY.out.drew.alloc _).1 1⟩ ?_
 clear hK K
 refine ordC_l rfl rfl (fun K hK => ?_)
 refine wp_app _ _ 25 rfl i z 16 Tryz.underlying25 HI.out.1 HI.out.2.1 HI.out.2.2.1 HI.out.2.2.2.1 HI.out.2.2.2.2 (v := .slice (some ⟨w1.heap.size + 1, 0, none⟩) 1 1) rfl HOW0.out (some ⟨nb, no, none⟩) 1 1 2 (names.take 1) rfl HR0.out rfl (by omega) (by simp [maxLen]) HLO.out ?_
 intro a2 c2 w2 hown2 hg2 hat2
 have hx2 : Bx w2 w.heap.size #[.int .i64 9, .slice (some ⟨nb, no, none⟩) 1 1, .int .i64 0, .slice va 0 vc, .bool false, .int .i64 bt] := (HXY.out.drew.alloc _).grown hg2 (HOW0.out.far' (.inl (by omega)))
 have hy2 : Bx w2 w1.heap.size #[.string ⟨#[119, 97, 110, 116]⟩, .int .i64 1, .int .i32 103] := (HY.out.drew.alloc _).grown hg2 (HOW0.out.far' (.inl (by omega)))
 refine hK _ _ ⟨trivial, hx2.1 1, hy2.1 0, hy2.1 1⟩ ?_
 have hcx2 := hx2.1; have hcy2 := hy2.1
 have HT2 : Hid (TextAt w w1 #[.int .i64 9, .slice (some ⟨nb, no, none⟩) 1 1, .int .i64 0, .slice va 0 vc, .bool false, .int .i64 bt] #[.string ⟨#[119, 97, 110, 116]⟩, .int .i64 1, .int .i32 103] w2 a2 2 c2 ([formV 9] ++ names.take 1)) := hid ⟨hx2, hy2, hown2, HB1.out.trans ((below_app (((HBS.out.mono hlt))) HOW0.out (by omega) (by have := HLO.out; omega) hg2)), by have := hg2.size; have := HLO.out; omega⟩
 clear hK K hown2 hg2 hat2 hx2 hy2
 repeat ((first | refine ordC_skip rfl rfl ?_ | refine ordC_skip1 rfl rfl ?_ | ((first | refine ordC_q rfl rfl ?_ | refine ordC_p rfl rfl ?_); apply Exists.intro; refine ⟨fun wS hS => ?_, ?_⟩; (go_simp; try with_reducible rfl))); simp only [Act.put, List.setIfInBounds_toArray, List.set_cons_zero, List.set_cons_succ])
 refine ordC_nil ?_
 have hg0 := (HL.out.below HT2.out.b).g.2.2.1
 have hg1 := hg0 0 (by decide); have hg2 := hg0 1 (by decide); have hg3 := hg0 2 (by decide); have hg4 := hg0 3 (by decide)
 have hb1' : 1 < w2.heap.size := cell_lt hg1
 clear hg0
 simp only [guardT] at hg1 hg2 hg3 hg4
 go_wp2_with fail
 have HLT := hid hlt'
 go_loopw [6, 67] (fun v i wr => ∃ (j : Nat) (a0 : Option Addr) (c0 : Nat), j ≤ 4 ∧ v = .slice a0 (2 + (guardsN bt j).length) c0 ∧ i = .int .i64 j ∧ TextAt w w1 #[.int .i64 9, .slice (some ⟨nb, no, none⟩) 1 1, .int .i64 0, .slice va 0 vc, .bool false, .int .i64 bt] #[.string ⟨#[119, 97, 110, 116]⟩, .int .i64 1, .int .i32 103] wr a0 (2 + (guardsN bt j).length) c0 (([formV 9] ++ names.take 1) ++ (guardsN bt j))) (fun _ i _ => 4 - (RowKit.intOf i).toNat)
 case atStart => exact ⟨0, a2, c2, Nat.zero_le _, rfl, rfl, by simpa [guardsN] using HT2.out⟩
 case round =>
   obtain ⟨j, a5, c5, hj, rfl, rfl, hT5⟩ := hrel
   have HT5 := hid hT5; clear hT5
   have hcx5 := HT5.out.x.1; have hcy5 := HT5.out.y.1
   by_cases hlt2 : j < 4
   · have hj4 : j = 0 ∨ j = 1 ∨ j = 2 ∨ j = 3 := by omega
     rcases hj4 with rfl | rfl | rfl | rfl
     · have hix := index_g0 wr
       by_cases hp : (bt : Int) / 2 ^ 0 % 2 = 1
       · have HP := hid hp
         have hbit : (Go.bits .and .i64 ((bt : Int)) 1 == 1) = true := by have := bits_one bt 0 (by omega) (by decide); rw [decide_eq_true hp] at this; simpa using this
         have hgq : guardsN bt 1 = guardsN bt 0 ++ [guardT 0] := (show guardsN bt 1 = guardsN bt 0 ++ (if (bt : Int) / 2 ^ 0 % 2 = 1 then [guardT 0] else []) from rfl).trans (by rw [if_pos hp])
         have HGQ := hid hgq
         have hgl := guardsN_len bt 0
         clear hp hgq
         have HN6 : Hid ((([formV 9] ++ names.take 1) ++ (guardsN bt 0)).length + 1 = (2 + (guardsN bt 0).length) + 1 ∧ ((2 + (guardsN bt 0).length) + 1) * 16 ≤ 140737488355328 ∧ (2 + (guardsN bt 0).length) + 1 ≤ maxLen) := hid ⟨by have := HT5.out.o.len; omega, by omega, by unfold maxLen; omega⟩
         go_wp2_with (at_builtin; refine wpList_app rfl _ _ 25 rfl i z 16 Tryz.underlying25 HI.out.1 HI.out.2.1 HI.out.2.2.1 HI.out.2.2.2.1 HI.out.2.2.2.2 rfl (HT5.out.o.alloc _) (some ⟨wr.heap.size, 0, none⟩) (1) (1) ((2 + (guardsN bt 0).length) + 1) [guardT 0] rfl (Row.strN rfl (guardT 0)) HN6.out.1 HN6.out.2.1 HN6.out.2.2 (by have := HT5.out.s; simp; omega) ?_; intro a6 c6 w6 hown6 hg6 hat6; have HT6 := hid (HT5.out.snoc HLT.out hown6 hg6); clear hown6 hg6 hat6; have hcx6 := HT6.out.x.1; have hcy6 := HT6.out.y.1)
         have hN : 2 + (guardsN bt 0).length + 1 = 2 + (guardsN bt 1).length := by rw [HGQ.out, List.length_append]; rfl
         have HT7 := HT6.out
         rw [List.append_assoc, ← HGQ.out, hN] at HT7
         have HT8 := hid HT7; have HN := hid hN; clear HT7 hN
         go_roundw
         case rel => exact ⟨1, a6, c6, by decide, by rw [← HN.out], by go_num, HT8.out⟩
         case measure => simp [RowKit.intOf]
       · have HP := hid hp
         have hbit : (Go.bits .and .i64 ((bt : Int)) 1 == 1) = false := by have := bits_one bt 0 (by omega) (by decide); rw [decide_eq_false hp] at this; simpa using this
         have hgq : guardsN bt 1 = guardsN bt 0 := (show guardsN bt 1 = guardsN bt 0 ++ (if (bt : Int) / 2 ^ 0 % 2 = 1 then [guardT 0] else []) from rfl).trans (by rw [if_neg hp, List.append_nil])
         have HT7 := hid HT5.out
         rw [← hgq] at HT7
         have HGQ := hid hgq
         clear hp hgq
         go_wp2_with fail
         go_roundw
         case rel => exact ⟨1, a5, c5, by decide, by rw [HGQ.out], by go_num, HT7.out⟩
         case measure => simp [RowKit.intOf]
     · have hix := index_g1 wr
       by_cases hp : (bt : Int) / 2 ^ 1 % 2 = 1
       · have HP := hid hp
         have hbit : (Go.bits .and .i64 ((bt : Int) / 2) 1 == 1) = true := by have := bits_one bt 1 (by omega) (by decide); rw [decide_eq_true hp] at this; simpa using this
         have hgq : guardsN bt 2 = guardsN bt 1 ++ [guardT 1] := (show guardsN bt 2 = guardsN bt 1 ++ (if (bt : Int) / 2 ^ 1 % 2 = 1 then [guardT 1] else []) from rfl).trans (by rw [if_pos hp])
         have HGQ := hid hgq
         have hgl := guardsN_len bt 1
         clear hp hgq
         have HN6 : Hid ((([formV 9] ++ names.take 1) ++ (guardsN bt 1)).length + 1 = (2 + (guardsN bt 1).length) + 1 ∧ ((2 + (guardsN bt 1).length) + 1) * 16 ≤ 140737488355328 ∧ (2 + (guardsN bt 1).length) + 1 ≤ maxLen) := hid ⟨by have := HT5.out.o.len; omega, by omega, by unfold maxLen; omega⟩
         go_wp2_with (at_builtin; refine wpList_app rfl _ _ 25 rfl i z 16 Tryz.underlying25 HI.out.1 HI.out.2.1 HI.out.2.2.1 HI.out.2.2.2.1 HI.out.2.2.2.2 rfl (HT5.out.o.alloc _) (some ⟨wr.heap.size, 0, none⟩) (1) (1) ((2 + (guardsN bt 1).length) + 1) [guardT 1] rfl (Row.strN rfl (guardT 1)) HN6.out.1 HN6.out.2.1 HN6.out.2.2 (by have := HT5.out.s; simp; omega) ?_; intro a6 c6 w6 hown6 hg6 hat6; have HT6 := hid (HT5.out.snoc HLT.out hown6 hg6); clear hown6 hg6 hat6; have hcx6 := HT6.out.x.1; have hcy6 := HT6.out.y.1)
         have hN : 2 + (guardsN bt 1).length + 1 = 2 + (guardsN bt 2).length := by rw [HGQ.out, List.length_append]; rfl
         have HT7 := HT6.out
         rw [List.append_assoc, ← HGQ.out, hN] at HT7
         have HT8 := hid HT7; have HN := hid hN; clear HT7 hN
         go_roundw
         case rel => exact ⟨2, a6, c6, by decide, by rw [← HN.out], by go_num, HT8.out⟩
         case measure => simp [RowKit.intOf]
       · have HP := hid hp
         have hbit : (Go.bits .and .i64 ((bt : Int) / 2) 1 == 1) = false := by have := bits_one bt 1 (by omega) (by decide); rw [decide_eq_false hp] at this; simpa using this
         have hgq : guardsN bt 2 = guardsN bt 1 := (show guardsN bt 2 = guardsN bt 1 ++ (if (bt : Int) / 2 ^ 1 % 2 = 1 then [guardT 1] else []) from rfl).trans (by rw [if_neg hp, List.append_nil])
         have HT7 := hid HT5.out
         rw [← hgq] at HT7
         have HGQ := hid hgq
         clear hp hgq
         go_wp2_with fail
         go_roundw
         case rel => exact ⟨2, a5, c5, by decide, by rw [HGQ.out], by go_num, HT7.out⟩
         case measure => simp [RowKit.intOf]
     · have hix := index_g2 wr
       by_cases hp : (bt : Int) / 2 ^ 2 % 2 = 1
       · have HP := hid hp
         have hbit : (Go.bits .and .i64 ((bt : Int) / 4) 1 == 1) = true := by have := bits_one bt 2 (by omega) (by decide); rw [decide_eq_true hp] at this; simpa using this
         have hgq : guardsN bt 3 = guardsN bt 2 ++ [guardT 2] := (show guardsN bt 3 = guardsN bt 2 ++ (if (bt : Int) / 2 ^ 2 % 2 = 1 then [guardT 2] else []) from rfl).trans (by rw [if_pos hp])
         have HGQ := hid hgq
         have hgl := guardsN_len bt 2
         clear hp hgq
         have HN6 : Hid ((([formV 9] ++ names.take 1) ++ (guardsN bt 2)).length + 1 = (2 + (guardsN bt 2).length) + 1 ∧ ((2 + (guardsN bt 2).length) + 1) * 16 ≤ 140737488355328 ∧ (2 + (guardsN bt 2).length) + 1 ≤ maxLen) := hid ⟨by have := HT5.out.o.len; omega, by omega, by unfold maxLen; omega⟩
         go_wp2_with (at_builtin; refine wpList_app rfl _ _ 25 rfl i z 16 Tryz.underlying25 HI.out.1 HI.out.2.1 HI.out.2.2.1 HI.out.2.2.2.1 HI.out.2.2.2.2 rfl (HT5.out.o.alloc _) (some ⟨wr.heap.size, 0, none⟩) (1) (1) ((2 + (guardsN bt 2).length) + 1) [guardT 2] rfl (Row.strN rfl (guardT 2)) HN6.out.1 HN6.out.2.1 HN6.out.2.2 (by have := HT5.out.s; simp; omega) ?_; intro a6 c6 w6 hown6 hg6 hat6; have HT6 := hid (HT5.out.snoc HLT.out hown6 hg6); clear hown6 hg6 hat6; have hcx6 := HT6.out.x.1; have hcy6 := HT6.out.y.1)
         have hN : 2 + (guardsN bt 2).length + 1 = 2 + (guardsN bt 3).length := by rw [HGQ.out, List.length_append]; rfl
         have HT7 := HT6.out
         rw [List.append_assoc, ← HGQ.out, hN] at HT7
         have HT8 := hid HT7; have HN := hid hN; clear HT7 hN
         go_roundw
         case rel => exact ⟨3, a6, c6, by decide, by rw [← HN.out], by go_num, HT8.out⟩
         case measure => simp [RowKit.intOf]
       · have HP := hid hp
         have hbit : (Go.bits .and .i64 ((bt : Int) / 4) 1 == 1) = false := by have := bits_one bt 2 (by omega) (by decide); rw [decide_eq_false hp] at this; simpa using this
         have hgq : guardsN bt 3 = guardsN bt 2 := (show guardsN bt 3 = guardsN bt 2 ++ (if (bt : Int) / 2 ^ 2 % 2 = 1 then [guardT 2] else []) from rfl).trans (by rw [if_neg hp, List.append_nil])
         have HT7 := hid HT5.out
         rw [← hgq] at HT7
         have HGQ := hid hgq
         clear hp hgq
         go_wp2_with fail
         go_roundw
         case rel => exact ⟨3, a5, c5, by decide, by rw [HGQ.out], by go_num, HT7.out⟩
         case measure => simp [RowKit.intOf]
     · have hix := index_g3 wr
       by_cases hp : (bt : Int) / 2 ^ 3 % 2 = 1
       · have HP := hid hp
         have hbit : (Go.bits .and .i64 ((bt : Int) / 8) 1 == 1) = true := by have := bits_one bt 3 (by omega) (by decide); rw [decide_eq_true hp] at this; simpa using this
         have hgq : guardsN bt 4 = guardsN bt 3 ++ [guardT 3] := (show guardsN bt 4 = guardsN bt 3 ++ (if (bt : Int) / 2 ^ 3 % 2 = 1 then [guardT 3] else []) from rfl).trans (by rw [if_pos hp])
         have HGQ := hid hgq
         have hgl := guardsN_len bt 3
         clear hp hgq
         have HN6 : Hid ((([formV 9] ++ names.take 1) ++ (guardsN bt 3)).length + 1 = (2 + (guardsN bt 3).length) + 1 ∧ ((2 + (guardsN bt 3).length) + 1) * 16 ≤ 140737488355328 ∧ (2 + (guardsN bt 3).length) + 1 ≤ maxLen) := hid ⟨by have := HT5.out.o.len; omega, by omega, by unfold maxLen; omega⟩
         go_wp2_with (at_builtin; refine wpList_app rfl _ _ 25 rfl i z 16 Tryz.underlying25 HI.out.1 HI.out.2.1 HI.out.2.2.1 HI.out.2.2.2.1 HI.out.2.2.2.2 rfl (HT5.out.o.alloc _) (some ⟨wr.heap.size, 0, none⟩) (1) (1) ((2 + (guardsN bt 3).length) + 1) [guardT 3] rfl (Row.strN rfl (guardT 3)) HN6.out.1 HN6.out.2.1 HN6.out.2.2 (by have := HT5.out.s; simp; omega) ?_; intro a6 c6 w6 hown6 hg6 hat6; have HT6 := hid (HT5.out.snoc HLT.out hown6 hg6); clear hown6 hg6 hat6; have hcx6 := HT6.out.x.1; have hcy6 := HT6.out.y.1)
         have hN : 2 + (guardsN bt 3).length + 1 = 2 + (guardsN bt 4).length := by rw [HGQ.out, List.length_append]; rfl
         have HT7 := HT6.out
         rw [List.append_assoc, ← HGQ.out, hN] at HT7
         have HT8 := hid HT7; have HN := hid hN; clear HT7 hN
         go_roundw
         case rel => exact ⟨4, a6, c6, by decide, by rw [← HN.out], by go_num, HT8.out⟩
         case measure => simp [RowKit.intOf]
       · have HP := hid hp
         have hbit : (Go.bits .and .i64 ((bt : Int) / 8) 1 == 1) = false := by have := bits_one bt 3 (by omega) (by decide); rw [decide_eq_false hp] at this; simpa using this
         have hgq : guardsN bt 4 = guardsN bt 3 := (show guardsN bt 4 = guardsN bt 3 ++ (if (bt : Int) / 2 ^ 3 % 2 = 1 then [guardT 3] else []) from rfl).trans (by rw [if_neg hp, List.append_nil])
         have HT7 := hid HT5.out
         rw [← hgq] at HT7
         have HGQ := hid hgq
         clear hp hgq
         go_wp2_with fail
         go_roundw
         case rel => exact ⟨4, a5, c5, by decide, by rw [HGQ.out], by go_num, HT7.out⟩
         case measure => simp [RowKit.intOf]
   · obtain rfl : j = 4 := by omega
     have hgl := guardsN_len bt 4
     go_wp2_with fail
     go_loopw [6, 91] (fun v i wq => v = .slice a5 (2 + (guardsN bt 4).length) c5 ∧ i = .int .i64 0 ∧ wq = wr) (fun _ _ _ => 0)
     case atStart => exact ⟨rfl, rfl, rfl⟩
     case round =>
       obtain ⟨rfl, rfl, rfl⟩ := hrel
       go_wp2_with fail
       have hwl : ∀ x ∈ (wordsS ⟨9, names, 0, vers, false, bt⟩), x.length ≤ 40 := words_len _ HL.out.wn HL.out.wv
       have hT9 := HT5.out
       rw [show ([formV 9] ++ names.take 1) ++ (guardsN bt 4) = wordsS ⟨9, names, 0, vers, false, bt⟩ from by simp [wordsS, guardsW, formN, formR, List.drop_of_length_le, hlen, List.take_of_length_le]] at hT9
       have hjl := join_len _ hwl
       have hln := hT9.o.len
       have hNL : ¬ (9223372036854775807 < (Lib.join (wordsS ⟨9, names, 0, vers, false, bt⟩) [32]).length + 1) := by omega
       have HJ := hid (join_any _ _ _ _ _ (hT9.o.row (by omega)) (by omega) hwl (by omega))
       have HT9 := hid hT9
       clear hwl hjl hln hT9
       refine HJ.out.mono ?_
       rintro e w9 ⟨rfl, hb9⟩
       have HB9 := hid (HT9.out.b.trans (hb9.mono HT9.out.b.size))
       clear hb9 HJ
       go_wp2_with fail
       go_ret2
       exact ⟨congrArg (fun s => Ending.returned (.tuple #[.string s, .int .i64 0])) (cat2 _ _), HB9.out⟩
theorem text_k9b (nb no : Nat) (nc : Nat) (hnc : 1 < nc) (va : Option Addr) (vc : Nat) (bt : Nat) (h0 : 0 < bt) (h1 : bt ≤ 15) (names : List Bs) (vers : List To) (w : World) (hl : LineW w (some ⟨nb, no, none⟩) 1 nc va 0 vc names vers) :
   Calls Tryz.prog 15 #[valLn ⟨9, (some ⟨nb, no, none⟩), 1, nc, 0, va, 0, vc, false, bt⟩] w (Ret2 (.string ⟨(textS ⟨9, names, 0, vers, false, bt⟩).toArray⟩) (.int .i64 0) w) := by
 have HL := hid hl
 have hf := hl.g.2.1 9 (by decide)
 have hf1 := hf.1; have hf2 := hf.2.1; have hf3 := hf.2.2
 simp only [formV, formN, formR] at hf1 hf2 hf3
 have hb0 := cell_lt hf1
 simp only at hb0
 obtain ⟨i, z, hi, hz, hsize, hby', hzs⟩ := partsStr
 have HI := hid (⟨hi, hz, hsize, hby', hzs⟩ : _ ∧ _ ∧ _ ∧ _ ∧ _)
 have HB0 := hid (belowA (Below.refl w.heap.size w) (.cells #[.int .i64 9, .slice (some ⟨nb, no, none⟩) 1 nc, .int .i64 0, .slice va 0 vc, .bool false, .int .i64 bt] 28))
 have HX0 := hid (Bx.new w #[.int .i64 9, .slice (some ⟨nb, no, none⟩) 1 nc, .int .i64 0, .slice va 0 vc, .bool false, .int .i64 bt] 28)
 have hle := hl.rn.le; have hcap := hl.rn.cap; have hlen := hl.rn.len
 have hcapI : ((1 : Int) ≤ (nc : Int)) := by omega
 have hcapE : ¬ (nc = 1) := by omega
 have HF := hid (⟨hf1, hf2, hf3⟩ : _ ∧ _ ∧ _)
 have hb1 : ((bt : Int) == 0) = false := beq_eq_false_iff_ne.2 (by omega)
 clear hl hf hf1 hf2 hf3 hi hz hsize hby' hzs
 go_enter Tryz.func15, Tryz.ntmps15
 go_wp2_with fail
 refine (check_k9 (some ⟨nb, no, none⟩) nc va vc bt h0 h1 names vers _ (HL.out.below HB0.out)).mono ?_
 rintro e w1 ⟨rfl, hb1⟩
 have hx1 := HX0.out.keep hb1
 have HB1 := hid (HB0.out.trans (hb1.mono HB0.out.size)); have HX1 := hid hx1
 have hcx1 := hx1.1
 have hf1 := bget HB1.out rfl HF.out.1; have hf2 := bget HB1.out rfl HF.out.2.1; have hf3 := bget HB1.out rfl HF.out.2.2
 have hlt := HB1.out.size
 have hlx := hx1.2.2
 have hlt' : w.heap.size < w1.heap.size := hlx
 have hb0' : 0 < w1.heap.size := Nat.lt_of_lt_of_le hb0 HB1.out.size
 clear hb1 hx1
 go_wp2_with fail
 have HY := hid (Bx.new w1 #[.string ⟨#[119, 97, 110, 116]⟩, .int .i64 1, .int .i32 103] 76)
 have HOW0 : Hid (Own ((w1.alloc (.cells #[.string ⟨#[119, 97, 110, 116]⟩, .int .i64 1, .int .i32 103] 76)).drew.alloc (.cells #[.string ⟨#[119, 97, 110, 116]⟩] 9)) (w1.heap.size + 1) 9 1 encStr (.slice (some ⟨w1.heap.size + 1, 0, none⟩) 1 1) [formV 9]) := hid (Own.strs (X := (w1.alloc (.cells #[.string ⟨#[119, 97, 110, 116]⟩, .int .i64 1, .int .i32 103] 76)).drew) (by simp) [formV 9] (by simp [maxLen]))
 have HBS := hid (belowA (belowA (Below.refl w1.heap.size w1) (.cells #[.string ⟨#[119, 97, 110, 116]⟩, .int .i64 1, .int .i32 103] 76)).drew (.cells #[.string ⟨#[119, 97, 110, 116]⟩] 9))
 have HR0 := hid (((HL.out.below HB1.out).rn.below HBS.out rfl).takeN (m := 1) (c' := nc) (by omega) (by omega))
 have HLO : Hid (w1.heap.size + 1 ≤ ((w1.alloc (.cells #[.string ⟨#[119, 97, 110, 116]⟩, .int .i64 1, .int .i32 103] 76)).drew.alloc (.cells #[.string ⟨#[119, 97, 110, 116]⟩] 9)).heap.size) := hid (by simp)
 have HXY := hid (HX1.out.alloc (.cells #[.string ⟨#[119, 97, 110, 116]⟩, .int .i64 1, .int .i32 103] 76))
 refine wp_region_ordC 9 [(0, 0), (1, 0), (3, 0), (4, 0), (5, 0), (6, 0), (7, 0), (2, 2), (8, 2), (9, 1)] (fun _ => True) (fun W' => W'.cell? ⟨w.heap.size, 1, none⟩ = some (.slice (some ⟨nb, no, none⟩) 1 nc) ∧ W'.cell? ⟨w1.heap.size, 0, none⟩ = some (.string ⟨#[119, 97, 110, 116]⟩) ∧ W'.cell? ⟨w1.heap.size, 1, none⟩ = some (.int .i64 1)) (by kernel_rfl) (by kernel_rfl) (trivial) (⟨HXY.out.drew.1 1, HY.out.drew.1 0, HY.out.drew.1 1⟩) ?_
 repeat ((first | refine ordC_skip rfl rfl ?_ | refine ordC_skip1 rfl rfl ?_ | ((first | refine ordC_q rfl rfl ?_ | refine ordC_p rfl rfl ?_); apply Exists.intro; refine ⟨fun wS hS => ?_, ?_⟩; (go_simp; try with_reducible rfl))); simp only [Act.put, List.setIfInBounds_toArray, List.set_cons_zero, List.set_cons_succ])
 refine ordC_l rfl rfl (fun K hK => ?_)
 go_simp
 refine hK _ _ ⟨trivial, (HXY.out.drew.alloc _).1 1, (HY.out.drew.alloc _).1 0, (HY.out.drew.alloc _).1 1⟩ ?_
 clear hK K
 refine ordC_l rfl rfl (fun K hK => ?_)
 refine wp_app _ _ 25 rfl i z 16 Tryz.underlying25 HI.out.1 HI.out.2.1 HI.out.2.2.1 HI.out.2.2.2.1 HI.out.2.2.2.2 (v := .slice (some ⟨w1.heap.size + 1, 0, none⟩) 1 1) rfl HOW0.out (some ⟨nb, no, none⟩) 1 nc 2 (names.take 1) rfl HR0.out rfl (by omega) (by simp [maxLen]) HLO.out ?_
 intro a2 c2 w2 hown2 hg2 hat2
 have hx2 : Bx w2 w.heap.size #[.int .i64 9, .slice (some ⟨nb, no, none⟩) 1 nc, .int .i64 0, .slice va 0 vc, .bool false, .int .i64 bt] := (HXY.out.drew.alloc _).grown hg2 (HOW0.out.far' (.inl (by omega)))
 have hy2 : Bx w2 w1.heap.size #[.string ⟨#[119, 97, 110, 116]⟩, .int .i64 1, .int .i32 103] := (HY.out.drew.alloc _).grown hg2 (HOW0.out.far' (.inl (by omega)))
 refine hK _ _ ⟨trivial, hx2.1 1, hy2.1 0, hy2.1 1⟩ ?_
 have hcx2 := hx2.1; have hcy2 := hy2.1
 have HT2 : Hid (TextAt w w1 #[.int .i64 9, .slice (some ⟨nb, no, none⟩) 1 nc, .int .i64 0, .slice va 0 vc, .bool false, .int .i64 bt] #[.string ⟨#[119, 97, 110, 116]⟩, .int .i64 1, .int .i32 103] w2 a2 2 c2 ([formV 9] ++ names.take 1)) := hid ⟨hx2, hy2, hown2, HB1.out.trans ((below_app (((HBS.out.mono hlt))) HOW0.out (by omega) (by have := HLO.out; omega) hg2)), by have := hg2.size; have := HLO.out; omega⟩
 clear hK K hown2 hg2 hat2 hx2 hy2
 repeat ((first | refine ordC_skip rfl rfl ?_ | refine ordC_skip1 rfl rfl ?_ | ((first | refine ordC_q rfl rfl ?_ | refine ordC_p rfl rfl ?_); apply Exists.intro; refine ⟨fun wS hS => ?_, ?_⟩; (go_simp; try with_reducible rfl))); simp only [Act.put, List.setIfInBounds_toArray, List.set_cons_zero, List.set_cons_succ])
 refine ordC_nil ?_
 have hg0 := (HL.out.below HT2.out.b).g.2.2.1
 have hg1 := hg0 0 (by decide); have hg2 := hg0 1 (by decide); have hg3 := hg0 2 (by decide); have hg4 := hg0 3 (by decide)
 have hb1' : 1 < w2.heap.size := cell_lt hg1
 clear hg0
 simp only [guardT] at hg1 hg2 hg3 hg4
 go_wp2_with fail
 have HLT := hid hlt'
 go_loopw [6, 67] (fun v i wr => ∃ (j : Nat) (a0 : Option Addr) (c0 : Nat), j ≤ 4 ∧ v = .slice a0 (2 + (guardsN bt j).length) c0 ∧ i = .int .i64 j ∧ TextAt w w1 #[.int .i64 9, .slice (some ⟨nb, no, none⟩) 1 nc, .int .i64 0, .slice va 0 vc, .bool false, .int .i64 bt] #[.string ⟨#[119, 97, 110, 116]⟩, .int .i64 1, .int .i32 103] wr a0 (2 + (guardsN bt j).length) c0 (([formV 9] ++ names.take 1) ++ (guardsN bt j))) (fun _ i _ => 4 - (RowKit.intOf i).toNat)
 case atStart => exact ⟨0, a2, c2, Nat.zero_le _, rfl, rfl, by simpa [guardsN] using HT2.out⟩
 case round =>
   obtain ⟨j, a5, c5, hj, rfl, rfl, hT5⟩ := hrel
   have HT5 := hid hT5; clear hT5
   have hcx5 := HT5.out.x.1; have hcy5 := HT5.out.y.1
   by_cases hlt2 : j < 4
   · have hj4 : j = 0 ∨ j = 1 ∨ j = 2 ∨ j = 3 := by omega
     rcases hj4 with rfl | rfl | rfl | rfl
     · have hix := index_g0 wr
       by_cases hp : (bt : Int) / 2 ^ 0 % 2 = 1
       · have HP := hid hp
         have hbit : (Go.bits .and .i64 ((bt : Int)) 1 == 1) = true := by have := bits_one bt 0 (by omega) (by decide); rw [decide_eq_true hp] at this; simpa using this
         have hgq : guardsN bt 1 = guardsN bt 0 ++ [guardT 0] := (show guardsN bt 1 = guardsN bt 0 ++ (if (bt : Int) / 2 ^ 0 % 2 = 1 then [guardT 0] else []) from rfl).trans (by rw [if_pos hp])
         have HGQ := hid hgq
         have hgl := guardsN_len bt 0
         clear hp hgq
         have HN6 : Hid ((([formV 9] ++ names.take 1) ++ (guardsN bt 0)).length + 1 = (2 + (guardsN bt 0).length) + 1 ∧ ((2 + (guardsN bt 0).length) + 1) * 16 ≤ 140737488355328 ∧ (2 + (guardsN bt 0).length) + 1 ≤ maxLen) := hid ⟨by have := HT5.out.o.len; omega, by omega, by unfold maxLen; omega⟩
         go_wp2_with (at_builtin; refine wpList_app rfl _ _ 25 rfl i z 16 Tryz.underlying25 HI.out.1 HI.out.2.1 HI.out.2.2.1 HI.out.2.2.2.1 HI.out.2.2.2.2 rfl (HT5.out.o.alloc _) (some ⟨wr.heap.size, 0, none⟩) (1) (1) ((2 + (guardsN bt 0).length) + 1) [guardT 0] rfl (Row.strN rfl (guardT 0)) HN6.out.1 HN6.out.2.1 HN6.out.2.2 (by have := HT5.out.s; simp; omega) ?_; intro a6 c6 w6 hown6 hg6 hat6; have HT6 := hid (HT5.out.snoc HLT.out hown6 hg6); clear hown6 hg6 hat6; have hcx6 := HT6.out.x.1; have hcy6 := HT6.out.y.1)
         have hN : 2 + (guardsN bt 0).length + 1 = 2 + (guardsN bt 1).length := by rw [HGQ.out, List.length_append]; rfl
         have HT7 := HT6.out
         rw [List.append_assoc, ← HGQ.out, hN] at HT7
         have HT8 := hid HT7; have HN := hid hN; clear HT7 hN
         go_roundw
         case rel => exact ⟨1, a6, c6, by decide, by rw [← HN.out], by go_num, HT8.out⟩
         case measure => simp [RowKit.intOf]
       · have HP := hid hp
         have hbit : (Go.bits .and .i64 ((bt : Int)) 1 == 1) = false := by have := bits_one bt 0 (by omega) (by decide); rw [decide_eq_false hp] at this; simpa using this
         have hgq : guardsN bt 1 = guardsN bt 0 := (show guardsN bt 1 = guardsN bt 0 ++ (if (bt : Int) / 2 ^ 0 % 2 = 1 then [guardT 0] else []) from rfl).trans (by rw [if_neg hp, List.append_nil])
         have HT7 := hid HT5.out
         rw [← hgq] at HT7
         have HGQ := hid hgq
         clear hp hgq
         go_wp2_with fail
         go_roundw
         case rel => exact ⟨1, a5, c5, by decide, by rw [HGQ.out], by go_num, HT7.out⟩
         case measure => simp [RowKit.intOf]
     · have hix := index_g1 wr
       by_cases hp : (bt : Int) / 2 ^ 1 % 2 = 1
       · have HP := hid hp
         have hbit : (Go.bits .and .i64 ((bt : Int) / 2) 1 == 1) = true := by have := bits_one bt 1 (by omega) (by decide); rw [decide_eq_true hp] at this; simpa using this
         have hgq : guardsN bt 2 = guardsN bt 1 ++ [guardT 1] := (show guardsN bt 2 = guardsN bt 1 ++ (if (bt : Int) / 2 ^ 1 % 2 = 1 then [guardT 1] else []) from rfl).trans (by rw [if_pos hp])
         have HGQ := hid hgq
         have hgl := guardsN_len bt 1
         clear hp hgq
         have HN6 : Hid ((([formV 9] ++ names.take 1) ++ (guardsN bt 1)).length + 1 = (2 + (guardsN bt 1).length) + 1 ∧ ((2 + (guardsN bt 1).length) + 1) * 16 ≤ 140737488355328 ∧ (2 + (guardsN bt 1).length) + 1 ≤ maxLen) := hid ⟨by have := HT5.out.o.len; omega, by omega, by unfold maxLen; omega⟩
         go_wp2_with (at_builtin; refine wpList_app rfl _ _ 25 rfl i z 16 Tryz.underlying25 HI.out.1 HI.out.2.1 HI.out.2.2.1 HI.out.2.2.2.1 HI.out.2.2.2.2 rfl (HT5.out.o.alloc _) (some ⟨wr.heap.size, 0, none⟩) (1) (1) ((2 + (guardsN bt 1).length) + 1) [guardT 1] rfl (Row.strN rfl (guardT 1)) HN6.out.1 HN6.out.2.1 HN6.out.2.2 (by have := HT5.out.s; simp; omega) ?_; intro a6 c6 w6 hown6 hg6 hat6; have HT6 := hid (HT5.out.snoc HLT.out hown6 hg6); clear hown6 hg6 hat6; have hcx6 := HT6.out.x.1; have hcy6 := HT6.out.y.1)
         have hN : 2 + (guardsN bt 1).length + 1 = 2 + (guardsN bt 2).length := by rw [HGQ.out, List.length_append]; rfl
         have HT7 := HT6.out
         rw [List.append_assoc, ← HGQ.out, hN] at HT7
         have HT8 := hid HT7; have HN := hid hN; clear HT7 hN
         go_roundw
         case rel => exact ⟨2, a6, c6, by decide, by rw [← HN.out], by go_num, HT8.out⟩
         case measure => simp [RowKit.intOf]
       · have HP := hid hp
         have hbit : (Go.bits .and .i64 ((bt : Int) / 2) 1 == 1) = false := by have := bits_one bt 1 (by omega) (by decide); rw [decide_eq_false hp] at this; simpa using this
         have hgq : guardsN bt 2 = guardsN bt 1 := (show guardsN bt 2 = guardsN bt 1 ++ (if (bt : Int) / 2 ^ 1 % 2 = 1 then [guardT 1] else []) from rfl).trans (by rw [if_neg hp, List.append_nil])
         have HT7 := hid HT5.out
         rw [← hgq] at HT7
         have HGQ := hid hgq
         clear hp hgq
         go_wp2_with fail
         go_roundw
         case rel => exact ⟨2, a5, c5, by decide, by rw [HGQ.out], by go_num, HT7.out⟩
         case measure => simp [RowKit.intOf]
     · have hix := index_g2 wr
       by_cases hp : (bt : Int) / 2 ^ 2 % 2 = 1
       · have HP := hid hp
         have hbit : (Go.bits .and .i64 ((bt : Int) / 4) 1 == 1) = true := by have := bits_one bt 2 (by omega) (by decide); rw [decide_eq_true hp] at this; simpa using this
         have hgq : guardsN bt 3 = guardsN bt 2 ++ [guardT 2] := (show guardsN bt 3 = guardsN bt 2 ++ (if (bt : Int) / 2 ^ 2 % 2 = 1 then [guardT 2] else []) from rfl).trans (by rw [if_pos hp])
         have HGQ := hid hgq
         have hgl := guardsN_len bt 2
         clear hp hgq
         have HN6 : Hid ((([formV 9] ++ names.take 1) ++ (guardsN bt 2)).length + 1 = (2 + (guardsN bt 2).length) + 1 ∧ ((2 + (guardsN bt 2).length) + 1) * 16 ≤ 140737488355328 ∧ (2 + (guardsN bt 2).length) + 1 ≤ maxLen) := hid ⟨by have := HT5.out.o.len; omega, by omega, by unfold maxLen; omega⟩
         go_wp2_with (at_builtin; refine wpList_app rfl _ _ 25 rfl i z 16 Tryz.underlying25 HI.out.1 HI.out.2.1 HI.out.2.2.1 HI.out.2.2.2.1 HI.out.2.2.2.2 rfl (HT5.out.o.alloc _) (some ⟨wr.heap.size, 0, none⟩) (1) (1) ((2 + (guardsN bt 2).length) + 1) [guardT 2] rfl (Row.strN rfl (guardT 2)) HN6.out.1 HN6.out.2.1 HN6.out.2.2 (by have := HT5.out.s; simp; omega) ?_; intro a6 c6 w6 hown6 hg6 hat6; have HT6 := hid (HT5.out.snoc HLT.out hown6 hg6); clear hown6 hg6 hat6; have hcx6 := HT6.out.x.1; have hcy6 := HT6.out.y.1)
         have hN : 2 + (guardsN bt 2).length + 1 = 2 + (guardsN bt 3).length := by rw [HGQ.out, List.length_append]; rfl
         have HT7 := HT6.out
         rw [List.append_assoc, ← HGQ.out, hN] at HT7
         have HT8 := hid HT7; have HN := hid hN; clear HT7 hN
         go_roundw
         case rel => exact ⟨3, a6, c6, by decide, by rw [← HN.out], by go_num, HT8.out⟩
         case measure => simp [RowKit.intOf]
       · have HP := hid hp
         have hbit : (Go.bits .and .i64 ((bt : Int) / 4) 1 == 1) = false := by have := bits_one bt 2 (by omega) (by decide); rw [decide_eq_false hp] at this; simpa using this
         have hgq : guardsN bt 3 = guardsN bt 2 := (show guardsN bt 3 = guardsN bt 2 ++ (if (bt : Int) / 2 ^ 2 % 2 = 1 then [guardT 2] else []) from rfl).trans (by rw [if_neg hp, List.append_nil])
         have HT7 := hid HT5.out
         rw [← hgq] at HT7
         have HGQ := hid hgq
         clear hp hgq
         go_wp2_with fail
         go_roundw
         case rel => exact ⟨3, a5, c5, by decide, by rw [HGQ.out], by go_num, HT7.out⟩
         case measure => simp [RowKit.intOf]
     · have hix := index_g3 wr
       by_cases hp : (bt : Int) / 2 ^ 3 % 2 = 1
       · have HP := hid hp
         have hbit : (Go.bits .and .i64 ((bt : Int) / 8) 1 == 1) = true := by have := bits_one bt 3 (by omega) (by decide); rw [decide_eq_true hp] at this; simpa using this
         have hgq : guardsN bt 4 = guardsN bt 3 ++ [guardT 3] := (show guardsN bt 4 = guardsN bt 3 ++ (if (bt : Int) / 2 ^ 3 % 2 = 1 then [guardT 3] else []) from rfl).trans (by rw [if_pos hp])
         have HGQ := hid hgq
         have hgl := guardsN_len bt 3
         clear hp hgq
         have HN6 : Hid ((([formV 9] ++ names.take 1) ++ (guardsN bt 3)).length + 1 = (2 + (guardsN bt 3).length) + 1 ∧ ((2 + (guardsN bt 3).length) + 1) * 16 ≤ 140737488355328 ∧ (2 + (guardsN bt 3).length) + 1 ≤ maxLen) := hid ⟨by have := HT5.out.o.len; omega, by omega, by unfold maxLen; omega⟩
         go_wp2_with (at_builtin; refine wpList_app rfl _ _ 25 rfl i z 16 Tryz.underlying25 HI.out.1 HI.out.2.1 HI.out.2.2.1 HI.out.2.2.2.1 HI.out.2.2.2.2 rfl (HT5.out.o.alloc _) (some ⟨wr.heap.size, 0, none⟩) (1) (1) ((2 + (guardsN bt 3).length) + 1) [guardT 3] rfl (Row.strN rfl (guardT 3)) HN6.out.1 HN6.out.2.1 HN6.out.2.2 (by have := HT5.out.s; simp; omega) ?_; intro a6 c6 w6 hown6 hg6 hat6; have HT6 := hid (HT5.out.snoc HLT.out hown6 hg6); clear hown6 hg6 hat6; have hcx6 := HT6.out.x.1; have hcy6 := HT6.out.y.1)
         have hN : 2 + (guardsN bt 3).length + 1 = 2 + (guardsN bt 4).length := by rw [HGQ.out, List.length_append]; rfl
         have HT7 := HT6.out
         rw [List.append_assoc, ← HGQ.out, hN] at HT7
         have HT8 := hid HT7; have HN := hid hN; clear HT7 hN
         go_roundw
         case rel => exact ⟨4, a6, c6, by decide, by rw [← HN.out], by go_num, HT8.out⟩
         case measure => simp [RowKit.intOf]
       · have HP := hid hp
         have hbit : (Go.bits .and .i64 ((bt : Int) / 8) 1 == 1) = false := by have := bits_one bt 3 (by omega) (by decide); rw [decide_eq_false hp] at this; simpa using this
         have hgq : guardsN bt 4 = guardsN bt 3 := (show guardsN bt 4 = guardsN bt 3 ++ (if (bt : Int) / 2 ^ 3 % 2 = 1 then [guardT 3] else []) from rfl).trans (by rw [if_neg hp, List.append_nil])
         have HT7 := hid HT5.out
         rw [← hgq] at HT7
         have HGQ := hid hgq
         clear hp hgq
         go_wp2_with fail
         go_roundw
         case rel => exact ⟨4, a5, c5, by decide, by rw [HGQ.out], by go_num, HT7.out⟩
         case measure => simp [RowKit.intOf]
   · obtain rfl : j = 4 := by omega
     have hgl := guardsN_len bt 4
     go_wp2_with fail
     go_loopw [6, 91] (fun v i wq => v = .slice a5 (2 + (guardsN bt 4).length) c5 ∧ i = .int .i64 0 ∧ wq = wr) (fun _ _ _ => 0)
     case atStart => exact ⟨rfl, rfl, rfl⟩
     case round =>
       obtain ⟨rfl, rfl, rfl⟩ := hrel
       go_wp2_with fail
       have hwl : ∀ x ∈ (wordsS ⟨9, names, 0, vers, false, bt⟩), x.length ≤ 40 := words_len _ HL.out.wn HL.out.wv
       have hT9 := HT5.out
       rw [show ([formV 9] ++ names.take 1) ++ (guardsN bt 4) = wordsS ⟨9, names, 0, vers, false, bt⟩ from by simp [wordsS, guardsW, formN, formR, List.drop_of_length_le, hlen, List.take_of_length_le]] at hT9
       have hjl := join_len _ hwl
       have hln := hT9.o.len
       have hNL : ¬ (9223372036854775807 < (Lib.join (wordsS ⟨9, names, 0, vers, false, bt⟩) [32]).length + 1) := by omega
       have HJ := hid (join_any _ _ _ _ _ (hT9.o.row (by omega)) (by omega) hwl (by omega))
       have HT9 := hid hT9
       clear hwl hjl hln hT9
       refine HJ.out.mono ?_
       rintro e w9 ⟨rfl, hb9⟩
       have HB9 := hid (HT9.out.b.trans (hb9.mono HT9.out.b.size))
       clear hb9 HJ
       go_wp2_with fail
       go_ret2
       exact ⟨congrArg (fun s => Ending.returned (.tuple #[.string s, .int .i64 0])) (cat2 _ _), HB9.out⟩
theorem text_k11a (nb no : Nat) (va : Option Addr) (vc : Nat) (names : List Bs) (vers : List To) (w : World) (hl : LineW w (some ⟨nb, no, none⟩) 1 1 va 0 vc names vers) :
   Calls Tryz.prog 15 #[valLn ⟨9, (some ⟨nb, no, none⟩), 1, 1, 0, va, 0, vc, false, 0⟩] w (Ret2 (.string ⟨(textS ⟨9, names, 0, vers, false, 0⟩).toArray⟩) (.int .i64 0) w) := by
 have HL := hid hl
 have hf := hl.g.2.1 9 (by decide)
 have hf1 := hf.1; have hf2 := hf.2.1; have hf3 := hf.2.2
 simp only [formV, formN, formR] at hf1 hf2 hf3
 have hb0 := cell_lt hf1
 simp only at hb0
 obtain ⟨i, z, hi, hz, hsize, hby', hzs⟩ := partsStr
 have HI := hid (⟨hi, hz, hsize, hby', hzs⟩ : _ ∧ _ ∧ _ ∧ _ ∧ _)
 have HB0 := hid (belowA (Below.refl w.heap.size w) (.cells #[.int .i64 9, .slice (some ⟨nb, no, none⟩) 1 1, .int .i64 0, .slice va 0 vc, .bool false, .int .i64 0] 28))
 have HX0 := hid (Bx.new w #[.int .i64 9, .slice (some ⟨nb, no, none⟩) 1 1, .int .i64 0, .slice va 0 vc, .bool false, .int .i64 0] 28)
 have hle := hl.rn.le; have hcap := hl.rn.cap; have hlen := hl.rn.len
 have HF := hid (⟨hf1, hf2, hf3⟩ : _ ∧ _ ∧ _)
 clear hl hf hf1 hf2 hf3 hi hz hsize hby' hzs
 go_enter Tryz.func15, Tryz.ntmps15
 go_wp2_with fail
 refine (check_k11 (some ⟨nb, no, none⟩) 1 va vc names vers _ (HL.out.below HB0.out)).mono ?_
 rintro e w1 ⟨rfl, hb1⟩
 have hx1 := HX0.out.keep hb1
 have HB1 := hid (HB0.out.trans (hb1.mono HB0.out.size)); have HX1 := hid hx1
 have hcx1 := hx1.1
 have hf1 := bget HB1.out rfl HF.out.1; have hf2 := bget HB1.out rfl HF.out.2.1; have hf3 := bget HB1.out rfl HF.out.2.2
 have hlt := HB1.out.size
 have hlx := hx1.2.2
 have hlt' : w.heap.size < w1.heap.size := hlx
 have hb0' : 0 < w1.heap.size := Nat.lt_of_lt_of_le hb0 HB1.out.size
 clear hb1 hx1
 go_wp2_with fail
 have HY := hid (Bx.new w1 #[.string ⟨#[119, 97, 110, 116]⟩, .int .i64 1, .int .i32 103] 76)
 have HOW0 : Hid (Own ((w1.alloc (.cells #[.string ⟨#[119, 97, 110, 116]⟩, .int .i64 1, .int .i32 103] 76)).drew.alloc (.cells #[.string ⟨#[119, 97, 110, 116]⟩] 9)) (w1.heap.size + 1) 9 1 encStr (.slice (some ⟨w1.heap.size + 1, 0, none⟩) 1 1) [formV 9]) := hid (Own.strs (X := (w1.alloc (.cells #[.string ⟨#[119, 97, 110, 116]⟩, .int .i64 1, .int .i32 103] 76)).drew) (by simp) [formV 9] (by simp [maxLen]))
 have HBS := hid (belowA (belowA (Below.refl w1.heap.size w1) (.cells #[.string ⟨#[119, 97, 110, 116]⟩, .int .i64 1, .int .i32 103] 76)).drew (.cells #[.string ⟨#[119, 97, 110, 116]⟩] 9))
 have HR0 := hid (((HL.out.below HB1.out).rn.below HBS.out rfl).takeN (m := 1) (c' := 1) (by omega) (by omega))
 have HLO : Hid (w1.heap.size + 1 ≤ ((w1.alloc (.cells #[.string ⟨#[119, 97, 110, 116]⟩, .int .i64 1, .int .i32 103] 76)).drew.alloc (.cells #[.string ⟨#[119, 97, 110, 116]⟩] 9)).heap.size) := hid (by simp)
 have HXY := hid (HX1.out.alloc (.cells #[.string ⟨#[119, 97, 110, 116]⟩, .int .i64 1, .int .i32 103] 76))
 refine wp_region_ordC 9 [(0, 0), (1, 0), (3, 0), (4, 0), (5, 0), (6, 0), (7, 0), (2, 2), (8, 2), (9, 1)] (fun _ => True) (fun W' => W'.cell? ⟨w.heap.size, 1, none⟩ = some (.slice (some ⟨nb, no, none⟩) 1 1) ∧ W'.cell? ⟨w1.heap.size, 0, none⟩ = some (.string ⟨#[119, 97, 110, 116]⟩) ∧ W'.cell? ⟨w1.heap.size, 1, none⟩ = some (.int .i64 1)) (by kernel_rfl) (by kernel_rfl) (trivial) (⟨HXY.out.drew.1 1, HY.out.drew.1 0, HY.out.drew.1 1⟩) ?_
 repeat ((first | refine ordC_skip rfl rfl ?_ | refine ordC_skip1 rfl rfl ?_ | ((first | refine ordC_q rfl rfl ?_ | refine ordC_p rfl rfl ?_); apply Exists.intro; refine ⟨fun wS hS => ?_, ?_⟩; (go_simp; try with_reducible rfl))); simp only [Act.put, List.setIfInBounds_toArray, List.set_cons_zero, List.set_cons_succ])
 refine ordC_l rfl rfl (fun K hK => ?_)
 go_simp
 refine hK _ _ ⟨trivial, (HXY.out.drew.alloc _).1 1, (HY.out.drew.alloc _).1 0, (HY.out.drew.alloc _).1 1⟩ ?_
 clear hK K
 refine ordC_l rfl rfl (fun K hK => ?_)
 refine wp_app _ _ 25 rfl i z 16 Tryz.underlying25 HI.out.1 HI.out.2.1 HI.out.2.2.1 HI.out.2.2.2.1 HI.out.2.2.2.2 (v := .slice (some ⟨w1.heap.size + 1, 0, none⟩) 1 1) rfl HOW0.out (some ⟨nb, no, none⟩) 1 1 2 (names.take 1) rfl HR0.out rfl (by omega) (by simp [maxLen]) HLO.out ?_
 intro a2 c2 w2 hown2 hg2 hat2
 have hx2 : Bx w2 w.heap.size #[.int .i64 9, .slice (some ⟨nb, no, none⟩) 1 1, .int .i64 0, .slice va 0 vc, .bool false, .int .i64 0] := (HXY.out.drew.alloc _).grown hg2 (HOW0.out.far' (.inl (by omega)))
 have hy2 : Bx w2 w1.heap.size #[.string ⟨#[119, 97, 110, 116]⟩, .int .i64 1, .int .i32 103] := (HY.out.drew.alloc _).grown hg2 (HOW0.out.far' (.inl (by omega)))
 refine hK _ _ ⟨trivial, hx2.1 1, hy2.1 0, hy2.1 1⟩ ?_
 have hcx2 := hx2.1; have hcy2 := hy2.1
 have HT2 : Hid (TextAt w w1 #[.int .i64 9, .slice (some ⟨nb, no, none⟩) 1 1, .int .i64 0, .slice va 0 vc, .bool false, .int .i64 0] #[.string ⟨#[119, 97, 110, 116]⟩, .int .i64 1, .int .i32 103] w2 a2 2 c2 ([formV 9] ++ names.take 1)) := hid ⟨hx2, hy2, hown2, HB1.out.trans ((below_app (((HBS.out.mono hlt))) HOW0.out (by omega) (by have := HLO.out; omega) hg2)), by have := hg2.size; have := HLO.out; omega⟩
 clear hK K hown2 hg2 hat2 hx2 hy2
 repeat ((first | refine ordC_skip rfl rfl ?_ | refine ordC_skip1 rfl rfl ?_ | ((first | refine ordC_q rfl rfl ?_ | refine ordC_p rfl rfl ?_); apply Exists.intro; refine ⟨fun wS hS => ?_, ?_⟩; (go_simp; try with_reducible rfl))); simp only [Act.put, List.setIfInBounds_toArray, List.set_cons_zero, List.set_cons_succ])
 refine ordC_nil ?_
 have hg0 := (HL.out.below HT2.out.b).g.2.2.1
 have hg1 := hg0 0 (by decide); have hg2 := hg0 1 (by decide); have hg3 := hg0 2 (by decide); have hg4 := hg0 3 (by decide)
 have hb1' : 1 < w2.heap.size := cell_lt hg1
 clear hg0
 simp only [guardT] at hg1 hg2 hg3 hg4
 go_wp2_with fail
 have HLT := hid hlt'
 go_loopw [6, 67] (fun v i wr => ∃ (j : Nat) (a0 : Option Addr) (c0 : Nat), j ≤ 4 ∧ v = .slice a0 (2 + (guardsN 0 j).length) c0 ∧ i = .int .i64 j ∧ TextAt w w1 #[.int .i64 9, .slice (some ⟨nb, no, none⟩) 1 1, .int .i64 0, .slice va 0 vc, .bool false, .int .i64 0] #[.string ⟨#[119, 97, 110, 116]⟩, .int .i64 1, .int .i32 103] wr a0 (2 + (guardsN 0 j).length) c0 (([formV 9] ++ names.take 1) ++ (guardsN 0 j))) (fun _ i _ => 4 - (RowKit.intOf i).toNat)
 case atStart => exact ⟨0, a2, c2, Nat.zero_le _, rfl, rfl, by simpa [guardsN] using HT2.out⟩
 case round =>
   obtain ⟨j, a5, c5, hj, rfl, rfl, hT5⟩ := hrel
   have HT5 := hid hT5; clear hT5
   have hcx5 := HT5.out.x.1; have hcy5 := HT5.out.y.1
   by_cases hlt2 : j < 4
   · have hj4 : j = 0 ∨ j = 1 ∨ j = 2 ∨ j = 3 := by omega
     rcases hj4 with rfl | rfl | rfl | rfl
     · have hix := index_g0 wr
       by_cases hp : (0 : Int) / 2 ^ 0 % 2 = 1
       · exact absurd hp (by decide)
       · have HP := hid hp
         have hbit : (Go.bits .and .i64 (0) 1 == 1) = false := by decide
         have hgq : guardsN 0 1 = guardsN 0 0 := (show guardsN 0 1 = guardsN 0 0 ++ (if (0 : Int) / 2 ^ 0 % 2 = 1 then [guardT 0] else []) from rfl).trans (by rw [if_neg hp, List.append_nil])
         have HT7 := hid HT5.out
         rw [← hgq] at HT7
         have HGQ := hid hgq
         clear hp hgq
         go_wp2_with fail
         go_roundw
         case rel => exact ⟨1, a5, c5, by decide, by rw [HGQ.out], by go_num, HT7.out⟩
         case measure => simp [RowKit.intOf]
     · have hix := index_g1 wr
       by_cases hp : (0 : Int) / 2 ^ 1 % 2 = 1
       · exact absurd hp (by decide)
       · have HP := hid hp
         have hbit : (Go.bits .and .i64 (0) 1 == 1) = false := by decide
         have hgq : guardsN 0 2 = guardsN 0 1 := (show guardsN 0 2 = guardsN 0 1 ++ (if (0 : Int) / 2 ^ 1 % 2 = 1 then [guardT 1] else []) from rfl).trans (by rw [if_neg hp, List.append_nil])
         have HT7 := hid HT5.out
         rw [← hgq] at HT7
         have HGQ := hid hgq
         clear hp hgq
         go_wp2_with fail
         go_roundw
         case rel => exact ⟨2, a5, c5, by decide, by rw [HGQ.out], by go_num, HT7.out⟩
         case measure => simp [RowKit.intOf]
     · have hix := index_g2 wr
       by_cases hp : (0 : Int) / 2 ^ 2 % 2 = 1
       · exact absurd hp (by decide)
       · have HP := hid hp
         have hbit : (Go.bits .and .i64 (0) 1 == 1) = false := by decide
         have hgq : guardsN 0 3 = guardsN 0 2 := (show guardsN 0 3 = guardsN 0 2 ++ (if (0 : Int) / 2 ^ 2 % 2 = 1 then [guardT 2] else []) from rfl).trans (by rw [if_neg hp, List.append_nil])
         have HT7 := hid HT5.out
         rw [← hgq] at HT7
         have HGQ := hid hgq
         clear hp hgq
         go_wp2_with fail
         go_roundw
         case rel => exact ⟨3, a5, c5, by decide, by rw [HGQ.out], by go_num, HT7.out⟩
         case measure => simp [RowKit.intOf]
     · have hix := index_g3 wr
       by_cases hp : (0 : Int) / 2 ^ 3 % 2 = 1
       · exact absurd hp (by decide)
       · have HP := hid hp
         have hbit : (Go.bits .and .i64 (0) 1 == 1) = false := by decide
         have hgq : guardsN 0 4 = guardsN 0 3 := (show guardsN 0 4 = guardsN 0 3 ++ (if (0 : Int) / 2 ^ 3 % 2 = 1 then [guardT 3] else []) from rfl).trans (by rw [if_neg hp, List.append_nil])
         have HT7 := hid HT5.out
         rw [← hgq] at HT7
         have HGQ := hid hgq
         clear hp hgq
         go_wp2_with fail
         go_roundw
         case rel => exact ⟨4, a5, c5, by decide, by rw [HGQ.out], by go_num, HT7.out⟩
         case measure => simp [RowKit.intOf]
   · obtain rfl : j = 4 := by omega
     have hgl := guardsN_len 0 4
     go_wp2_with fail
     go_loopw [6, 91] (fun v i wq => v = .slice a5 (2 + (guardsN 0 4).length) c5 ∧ i = .int .i64 0 ∧ wq = wr) (fun _ _ _ => 0)
     case atStart => exact ⟨rfl, rfl, rfl⟩
     case round =>
       obtain ⟨rfl, rfl, rfl⟩ := hrel
       go_wp2_with fail
       have hwl : ∀ x ∈ (wordsS ⟨9, names, 0, vers, false, 0⟩), x.length ≤ 40 := words_len _ HL.out.wn HL.out.wv
       have hT9 := HT5.out
       rw [show ([formV 9] ++ names.take 1) ++ (guardsN 0 4) = wordsS ⟨9, names, 0, vers, false, 0⟩ from by simp [wordsS, guardsW, formN, formR, List.drop_of_length_le, hlen, List.take_of_length_le]] at hT9
       have hjl := join_len _ hwl
       have hln := hT9.o.len
       have hNL : ¬ (9223372036854775807 < (Lib.join (wordsS ⟨9, names, 0, vers, false, 0⟩) [32]).length + 1) := by omega
       have HJ := hid (join_any _ _ _ _ _ (hT9.o.row (by omega)) (by omega) hwl (by omega))
       have HT9 := hid hT9
       clear hwl hjl hln hT9
       refine HJ.out.mono ?_
       rintro e w9 ⟨rfl, hb9⟩
       have HB9 := hid (HT9.out.b.trans (hb9.mono HT9.out.b.size))
       clear hb9 HJ
       go_wp2_with fail
       go_ret2
       exact ⟨congrArg (fun s => Ending.returned (.tuple #[.string s, .int .i64 0])) (cat2 _ _), HB9.out⟩
theorem text_k11b (nb no : Nat) (nc : Nat) (hnc : 1 < nc) (va : Option Addr) (vc : Nat) (names : List Bs) (vers : List To) (w : World) (hl : LineW w (some ⟨nb, no, none⟩) 1 nc va 0 vc names vers) :
   Calls Tryz.prog 15 #[valLn ⟨9, (some ⟨nb, no, none⟩), 1, nc, 0, va, 0, vc, false, 0⟩] w (Ret2 (.string ⟨(textS ⟨9, names, 0, vers, false, 0⟩).toArray⟩) (.int .i64 0) w) := by
 have HL := hid hl
 have hf := hl.g.2.1 9 (by decide)
 have hf1 := hf.1; have hf2 := hf.2.1; have hf3 := hf.2.2
 simp only [formV, formN, formR] at hf1 hf2 hf3
 have hb0 := cell_lt hf1
 simp only at hb0
 obtain ⟨i, z, hi, hz, hsize, hby', hzs⟩ := partsStr
 have HI := hid (⟨hi, hz, hsize, hby', hzs⟩ : _ ∧ _ ∧ _ ∧ _ ∧ _)
 have HB0 := hid (belowA (Below.refl w.heap.size w) (.cells #[.int .i64 9, .slice (some ⟨nb, no, none⟩) 1 nc, .int .i64 0, .slice va 0 vc, .bool false, .int .i64 0] 28))
 have HX0 := hid (Bx.new w #[.int .i64 9, .slice (some ⟨nb, no, none⟩) 1 nc, .int .i64 0, .slice va 0 vc, .bool false, .int .i64 0] 28)
 have hle := hl.rn.le; have hcap := hl.rn.cap; have hlen := hl.rn.len
 have hcapI : ((1 : Int) ≤ (nc : Int)) := by omega
 have hcapE : ¬ (nc = 1) := by omega
 have HF := hid (⟨hf1, hf2, hf3⟩ : _ ∧ _ ∧ _)
 clear hl hf hf1 hf2 hf3 hi hz hsize hby' hzs
 go_enter Tryz.func15, Tryz.ntmps15
 go_wp2_with fail
 refine (check_k11 (some ⟨nb, no, none⟩) nc va vc names vers _ (HL.out.below HB0.out)).mono ?_
 rintro e w1 ⟨rfl, hb1⟩
 have hx1 := HX0.out.keep hb1
 have HB1 := hid (HB0.out.trans (hb1.mono HB0.out.size)); have HX1 := hid hx1
 have hcx1 := hx1.1
 have hf1 := bget HB1.out rfl HF.out.1; have hf2 := bget HB1.out rfl HF.out.2.1; have hf3 := bget HB1.out rfl HF.out.2.2
 have hlt := HB1.out.size
 have hlx := hx1.2.2
 have hlt' : w.heap.size < w1.heap.size := hlx
 have hb0' : 0 < w1.heap.size := Nat.lt_of_lt_of_le hb0 HB1.out.size
 clear hb1 hx1
 go_wp2_with fail
 have HY := hid (Bx.new w1 #[.string ⟨#[119, 97, 110, 116]⟩, .int .i64 1, .int .i32 103] 76)
 have HOW0 : Hid (Own ((w1.alloc (.cells #[.string ⟨#[119, 97, 110, 116]⟩, .int .i64 1, .int .i32 103] 76)).drew.alloc (.cells #[.string ⟨#[119, 97, 110, 116]⟩] 9)) (w1.heap.size + 1) 9 1 encStr (.slice (some ⟨w1.heap.size + 1, 0, none⟩) 1 1) [formV 9]) := hid (Own.strs (X := (w1.alloc (.cells #[.string ⟨#[119, 97, 110, 116]⟩, .int .i64 1, .int .i32 103] 76)).drew) (by simp) [formV 9] (by simp [maxLen]))
 have HBS := hid (belowA (belowA (Below.refl w1.heap.size w1) (.cells #[.string ⟨#[119, 97, 110, 116]⟩, .int .i64 1, .int .i32 103] 76)).drew (.cells #[.string ⟨#[119, 97, 110, 116]⟩] 9))
 have HR0 := hid (((HL.out.below HB1.out).rn.below HBS.out rfl).takeN (m := 1) (c' := nc) (by omega) (by omega))
 have HLO : Hid (w1.heap.size + 1 ≤ ((w1.alloc (.cells #[.string ⟨#[119, 97, 110, 116]⟩, .int .i64 1, .int .i32 103] 76)).drew.alloc (.cells #[.string ⟨#[119, 97, 110, 116]⟩] 9)).heap.size) := hid (by simp)
 have HXY := hid (HX1.out.alloc (.cells #[.string ⟨#[119, 97, 110, 116]⟩, .int .i64 1, .int .i32 103] 76))
 refine wp_region_ordC 9 [(0, 0), (1, 0), (3, 0), (4, 0), (5, 0), (6, 0), (7, 0), (2, 2), (8, 2), (9, 1)] (fun _ => True) (fun W' => W'.cell? ⟨w.heap.size, 1, none⟩ = some (.slice (some ⟨nb, no, none⟩) 1 nc) ∧ W'.cell? ⟨w1.heap.size, 0, none⟩ = some (.string ⟨#[119, 97, 110, 116]⟩) ∧ W'.cell? ⟨w1.heap.size, 1, none⟩ = some (.int .i64 1)) (by kernel_rfl) (by kernel_rfl) (trivial) (⟨HXY.out.drew.1 1, HY.out.drew.1 0, HY.out.drew.1 1⟩) ?_
 repeat ((first | refine ordC_skip rfl rfl ?_ | refine ordC_skip1 rfl rfl ?_ | ((first | refine ordC_q rfl rfl ?_ | refine ordC_p rfl rfl ?_); apply Exists.intro; refine ⟨fun wS hS => ?_, ?_⟩; (go_simp; try with_reducible rfl))); simp only [Act.put, List.setIfInBounds_toArray, List.set_cons_zero, List.set_cons_succ])
 refine ordC_l rfl rfl (fun K hK => ?_)
 go_simp
 refine hK _ _ ⟨trivial, (HXY.out.drew.alloc _).1 1, (HY.out.drew.alloc _).1 0, (HY.out.drew.alloc _).1 1⟩ ?_
 clear hK K
 refine ordC_l rfl rfl (fun K hK => ?_)
 refine wp_app _ _ 25 rfl i z 16 Tryz.underlying25 HI.out.1 HI.out.2.1 HI.out.2.2.1 HI.out.2.2.2.1 HI.out.2.2.2.2 (v := .slice (some ⟨w1.heap.size + 1, 0, none⟩) 1 1) rfl HOW0.out (some ⟨nb, no, none⟩) 1 nc 2 (names.take 1) rfl HR0.out rfl (by omega) (by simp [maxLen]) HLO.out ?_
 intro a2 c2 w2 hown2 hg2 hat2
 have hx2 : Bx w2 w.heap.size #[.int .i64 9, .slice (some ⟨nb, no, none⟩) 1 nc, .int .i64 0, .slice va 0 vc, .bool false, .int .i64 0] := (HXY.out.drew.alloc _).grown hg2 (HOW0.out.far' (.inl (by omega)))
 have hy2 : Bx w2 w1.heap.size #[.string ⟨#[119, 97, 110, 116]⟩, .int .i64 1, .int .i32 103] := (HY.out.drew.alloc _).grown hg2 (HOW0.out.far' (.inl (by omega)))
 refine hK _ _ ⟨trivial, hx2.1 1, hy2.1 0, hy2.1 1⟩ ?_
 have hcx2 := hx2.1; have hcy2 := hy2.1
 have HT2 : Hid (TextAt w w1 #[.int .i64 9, .slice (some ⟨nb, no, none⟩) 1 nc, .int .i64 0, .slice va 0 vc, .bool false, .int .i64 0] #[.string ⟨#[119, 97, 110, 116]⟩, .int .i64 1, .int .i32 103] w2 a2 2 c2 ([formV 9] ++ names.take 1)) := hid ⟨hx2, hy2, hown2, HB1.out.trans ((below_app (((HBS.out.mono hlt))) HOW0.out (by omega) (by have := HLO.out; omega) hg2)), by have := hg2.size; have := HLO.out; omega⟩
 clear hK K hown2 hg2 hat2 hx2 hy2
 repeat ((first | refine ordC_skip rfl rfl ?_ | refine ordC_skip1 rfl rfl ?_ | ((first | refine ordC_q rfl rfl ?_ | refine ordC_p rfl rfl ?_); apply Exists.intro; refine ⟨fun wS hS => ?_, ?_⟩; (go_simp; try with_reducible rfl))); simp only [Act.put, List.setIfInBounds_toArray, List.set_cons_zero, List.set_cons_succ])
 refine ordC_nil ?_
 have hg0 := (HL.out.below HT2.out.b).g.2.2.1
 have hg1 := hg0 0 (by decide); have hg2 := hg0 1 (by decide); have hg3 := hg0 2 (by decide); have hg4 := hg0 3 (by decide)
 have hb1' : 1 < w2.heap.size := cell_lt hg1
 clear hg0
 simp only [guardT] at hg1 hg2 hg3 hg4
 go_wp2_with fail
 have HLT := hid hlt'
 go_loopw [6, 67] (fun v i wr => ∃ (j : Nat) (a0 : Option Addr) (c0 : Nat), j ≤ 4 ∧ v = .slice a0 (2 + (guardsN 0 j).length) c0 ∧ i = .int .i64 j ∧ TextAt w w1 #[.int .i64 9, .slice (some ⟨nb, no, none⟩) 1 nc, .int .i64 0, .slice va 0 vc, .bool false, .int .i64 0] #[.string ⟨#[119, 97, 110, 116]⟩, .int .i64 1, .int .i32 103] wr a0 (2 + (guardsN 0 j).length) c0 (([formV 9] ++ names.take 1) ++ (guardsN 0 j))) (fun _ i _ => 4 - (RowKit.intOf i).toNat)
 case atStart => exact ⟨0, a2, c2, Nat.zero_le _, rfl, rfl, by simpa [guardsN] using HT2.out⟩
 case round =>
   obtain ⟨j, a5, c5, hj, rfl, rfl, hT5⟩ := hrel
   have HT5 := hid hT5; clear hT5
   have hcx5 := HT5.out.x.1; have hcy5 := HT5.out.y.1
   by_cases hlt2 : j < 4
   · have hj4 : j = 0 ∨ j = 1 ∨ j = 2 ∨ j = 3 := by omega
     rcases hj4 with rfl | rfl | rfl | rfl
     · have hix := index_g0 wr
       by_cases hp : (0 : Int) / 2 ^ 0 % 2 = 1
       · exact absurd hp (by decide)
       · have HP := hid hp
         have hbit : (Go.bits .and .i64 (0) 1 == 1) = false := by decide
         have hgq : guardsN 0 1 = guardsN 0 0 := (show guardsN 0 1 = guardsN 0 0 ++ (if (0 : Int) / 2 ^ 0 % 2 = 1 then [guardT 0] else []) from rfl).trans (by rw [if_neg hp, List.append_nil])
         have HT7 := hid HT5.out
         rw [← hgq] at HT7
         have HGQ := hid hgq
         clear hp hgq
         go_wp2_with fail
         go_roundw
         case rel => exact ⟨1, a5, c5, by decide, by rw [HGQ.out], by go_num, HT7.out⟩
         case measure => simp [RowKit.intOf]
     · have hix := index_g1 wr
       by_cases hp : (0 : Int) / 2 ^ 1 % 2 = 1
       · exact absurd hp (by decide)
       · have HP := hid hp
         have hbit : (Go.bits .and .i64 (0) 1 == 1) = false := by decide
         have hgq : guardsN 0 2 = guardsN 0 1 := (show guardsN 0 2 = guardsN 0 1 ++ (if (0 : Int) / 2 ^ 1 % 2 = 1 then [guardT 1] else []) from rfl).trans (by rw [if_neg hp, List.append_nil])
         have HT7 := hid HT5.out
         rw [← hgq] at HT7
         have HGQ := hid hgq
         clear hp hgq
         go_wp2_with fail
         go_roundw
         case rel => exact ⟨2, a5, c5, by decide, by rw [HGQ.out], by go_num, HT7.out⟩
         case measure => simp [RowKit.intOf]
     · have hix := index_g2 wr
       by_cases hp : (0 : Int) / 2 ^ 2 % 2 = 1
       · exact absurd hp (by decide)
       · have HP := hid hp
         have hbit : (Go.bits .and .i64 (0) 1 == 1) = false := by decide
         have hgq : guardsN 0 3 = guardsN 0 2 := (show guardsN 0 3 = guardsN 0 2 ++ (if (0 : Int) / 2 ^ 2 % 2 = 1 then [guardT 2] else []) from rfl).trans (by rw [if_neg hp, List.append_nil])
         have HT7 := hid HT5.out
         rw [← hgq] at HT7
         have HGQ := hid hgq
         clear hp hgq
         go_wp2_with fail
         go_roundw
         case rel => exact ⟨3, a5, c5, by decide, by rw [HGQ.out], by go_num, HT7.out⟩
         case measure => simp [RowKit.intOf]
     · have hix := index_g3 wr
       by_cases hp : (0 : Int) / 2 ^ 3 % 2 = 1
       · exact absurd hp (by decide)
       · have HP := hid hp
         have hbit : (Go.bits .and .i64 (0) 1 == 1) = false := by decide
         have hgq : guardsN 0 4 = guardsN 0 3 := (show guardsN 0 4 = guardsN 0 3 ++ (if (0 : Int) / 2 ^ 3 % 2 = 1 then [guardT 3] else []) from rfl).trans (by rw [if_neg hp, List.append_nil])
         have HT7 := hid HT5.out
         rw [← hgq] at HT7
         have HGQ := hid hgq
         clear hp hgq
         go_wp2_with fail
         go_roundw
         case rel => exact ⟨4, a5, c5, by decide, by rw [HGQ.out], by go_num, HT7.out⟩
         case measure => simp [RowKit.intOf]
   · obtain rfl : j = 4 := by omega
     have hgl := guardsN_len 0 4
     go_wp2_with fail
     go_loopw [6, 91] (fun v i wq => v = .slice a5 (2 + (guardsN 0 4).length) c5 ∧ i = .int .i64 0 ∧ wq = wr) (fun _ _ _ => 0)
     case atStart => exact ⟨rfl, rfl, rfl⟩
     case round =>
       obtain ⟨rfl, rfl, rfl⟩ := hrel
       go_wp2_with fail
       have hwl : ∀ x ∈ (wordsS ⟨9, names, 0, vers, false, 0⟩), x.length ≤ 40 := words_len _ HL.out.wn HL.out.wv
       have hT9 := HT5.out
       rw [show ([formV 9] ++ names.take 1) ++ (guardsN 0 4) = wordsS ⟨9, names, 0, vers, false, 0⟩ from by simp [wordsS, guardsW, formN, formR, List.drop_of_length_le, hlen, List.take_of_length_le]] at hT9
       have hjl := join_len _ hwl
       have hln := hT9.o.len
       have hNL : ¬ (9223372036854775807 < (Lib.join (wordsS ⟨9, names, 0, vers, false, 0⟩) [32]).length + 1) := by omega
       have HJ := hid (join_any _ _ _ _ _ (hT9.o.row (by omega)) (by omega) hwl (by omega))
       have HT9 := hid hT9
       clear hwl hjl hln hT9
       refine HJ.out.mono ?_
       rintro e w9 ⟨rfl, hb9⟩
       have HB9 := hid (HT9.out.b.trans (hb9.mono HT9.out.b.size))
       clear hb9 HJ
       go_wp2_with fail
       go_ret2
       exact ⟨congrArg (fun s => Ending.returned (.tuple #[.string s, .int .i64 0])) (cat2 _ _), HB9.out⟩
end Yd
