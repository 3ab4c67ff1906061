import Derived.Test.YthdpangjphphjaaGreatDoorOrdP
import Derived.Test.YthdpangjphphjaaGreatDoorChk8
import Derived.Test.YthdpangjphphjaaGreatDoorProg
set_option maxRecDepth 200000
set_option maxHeartbeats 8000000
namespace Yd
open Go Go.RowKit Go.Proofs
theorem text_k8a (nb no : Nat) (va : Option Addr) (vc : Nat) (names : List Bs) (vers : List To) (w : World) (hl : LineW w (some ⟨nb, no, none⟩) 2 2 va 0 vc names vers) :
   Calls Tryz.prog 15 #[valLn ⟨8, (some ⟨nb, no, none⟩), 2, 2, 0, va, 0, vc, false, 0⟩] w (Ret2 (.string ⟨(textS ⟨8, names, 0, vers, false, 0⟩).toArray⟩) (.int .i64 0) w) := by
 have HL := hid hl
 have hf := hl.g.2.1 8 (by decide)
 have hf1 := hf.1; have hf2 := hf.2.1; have hf3 := hf.2.2
 simp only [formV, formN, formR] at hf1 hf2 hf3
 have hb0 := cell_lt hf1
 simp only at hb0
 obtain ⟨i, z, hi, hz, hsize, hby', hzs⟩ := partsStr
 have HI := hid (⟨hi, hz, hsize, hby', hzs⟩ : _ ∧ _ ∧ _ ∧ _ ∧ _)
 have HB0 := hid (belowA (Below.refl w.heap.size w) (.cells #[.int .i64 8, .slice (some ⟨nb, no, none⟩) 2 2, .int .i64 0, .slice va 0 vc, .bool false, .int .i64 0] 28))
 have HX0 := hid (Bx.new w #[.int .i64 8, .slice (some ⟨nb, no, none⟩) 2 2, .int .i64 0, .slice va 0 vc, .bool false, .int .i64 0] 28)
 have hle := hl.rn.le; have hcap := hl.rn.cap; have hlen := hl.rn.len
 have HF := hid (⟨hf1, hf2, hf3⟩ : _ ∧ _ ∧ _)
 clear hl hf hf1 hf2 hf3 hi hz hsize hby' hzs
 go_enter Tryz.func15, Tryz.ntmps15
 go_wp2_with fail
 refine (check_k8 (some ⟨nb, no, none⟩) 2 va vc 0 (by decide) names vers _ (HL.out.below HB0.out)).mono ?_
 rintro e w1 ⟨rfl, hb1⟩
 have hx1 := HX0.out.keep hb1
 have HB1 := hid (HB0.out.trans (hb1.mono HB0.out.size)); have HX1 := hid hx1
 have hcx1 := hx1.1
 have hf1 := bget HB1.out rfl HF.out.1; have hf2 := bget HB1.out rfl HF.out.2.1; have hf3 := bget HB1.out rfl HF.out.2.2
 have hlt := HB1.out.size
 have hlx := hx1.2.2
 have hlt' : w.heap.size < w1.heap.size := hlx
 have hb0' : 0 < w1.heap.size := Nat.lt_of_lt_of_le hb0 HB1.out.size
 clear hb1 hx1
 go_wp2_with fail
 have HY := hid (Bx.new w1 #[.string ⟨#[109, 97, 116, 99, 104]⟩, .int .i64 2, .int .i32 109] 76)
 have HOW0 : Hid (Own ((w1.alloc (.cells #[.string ⟨#[109, 97, 116, 99, 104]⟩, .int .i64 2, .int .i32 109] 76)).drew.alloc (.cells #[.string ⟨#[109, 97, 116, 99, 104]⟩] 9)) (w1.heap.size + 1) 9 1 encStr (.slice (some ⟨w1.heap.size + 1, 0, none⟩) 1 1) [formV 8]) := hid (Own.strs (X := (w1.alloc (.cells #[.string ⟨#[109, 97, 116, 99, 104]⟩, .int .i64 2, .int .i32 109] 76)).drew) (by simp) [formV 8] (by simp [maxLen]))
 have HBS := hid (belowA (belowA (Below.refl w1.heap.size w1) (.cells #[.string ⟨#[109, 97, 116, 99, 104]⟩, .int .i64 2, .int .i32 109] 76)).drew (.cells #[.string ⟨#[109, 97, 116, 99, 104]⟩] 9))
 have HR0 := hid (((HL.out.below HB1.out).rn.below HBS.out rfl).takeN (m := 2) (c' := 2) (by omega) (by omega))
 have HLO : Hid (w1.heap.size + 1 ≤ ((w1.alloc (.cells #[.string ⟨#[109, 97, 116, 99, 104]⟩, .int .i64 2, .int .i32 109] 76)).drew.alloc (.cells #[.string ⟨#[109, 97, 116, 99, 104]⟩] 9)).heap.size) := hid (by simp)
 have HXY := hid (HX1.out.alloc (.cells #[.string ⟨#[109, 97, 116, 99, 104]⟩, .int .i64 2, .int .i32 109] 76))
 refine wp_region_ordC 9 [(0, 0), (1, 0), (3, 0), (4, 0), (5, 0), (6, 0), (7, 0), (2, 2), (8, 2), (9, 1)] (fun _ => True) (fun W' => W'.cell? ⟨w.heap.size, 1, none⟩ = some (.slice (some ⟨nb, no, none⟩) 2 2) ∧ W'.cell? ⟨w1.heap.size, 0, none⟩ = some (.string ⟨#[109, 97, 116, 99, 104]⟩) ∧ W'.cell? ⟨w1.heap.size, 1, none⟩ = some (.int .i64 2)) (by kernel_rfl) (by kernel_rfl) (trivial) (⟨HXY.out.drew.1 1, HY.out.drew.1 0, HY.out.drew.1 1⟩) ?_
 repeat ((first | refine ordC_skip rfl rfl ?_ | refine ordC_skip1 rfl rfl ?_ | ((first | refine ordC_q rfl rfl ?_ | refine ordC_p rfl rfl ?_); apply Exists.intro; refine ⟨fun wS hS => ?_, ?_⟩; (go_simp; try with_reducible rfl))); simp only [Act.put, List.setIfInBounds_toArray, List.set_cons_zero, List.set_cons_succ])
 refine ordC_l rfl rfl (fun K hK => ?_)
 go_simp
 refine hK _ _ ⟨trivial, (HXY.out.drew.alloc _).1 1, (HY.out.drew.alloc _).1 0, (HY.out.drew.alloc _).1 1⟩ ?_
 clear hK K
 refine ordC_l rfl rfl (fun K hK => ?_)
 refine wp_app _ _ 25 rfl i z 16 Tryz.underlying25 HI.out.1 HI.out.2.1 HI.out.2.2.1 HI.out.2.2.2.1 HI.out.2.2.2.2 (v := .slice (some ⟨w1.heap.size + 1, 0, none⟩) 1 1) rfl HOW0.out (some ⟨nb, no, none⟩) 2 2 3 (names.take 2) rfl HR0.out rfl (by omega) (by simp [maxLen]) HLO.out ?_
 intro a2 c2 w2 hown2 hg2 hat2
 have hx2 : Bx w2 w.heap.size #[.int .i64 8, .slice (some ⟨nb, no, none⟩) 2 2, .int .i64 0, .slice va 0 vc, .bool false, .int .i64 0] := (HXY.out.drew.alloc _).grown hg2 (HOW0.out.far' (.inl (by omega)))
 have hy2 : Bx w2 w1.heap.size #[.string ⟨#[109, 97, 116, 99, 104]⟩, .int .i64 2, .int .i32 109] := (HY.out.drew.alloc _).grown hg2 (HOW0.out.far' (.inl (by omega)))
 refine hK _ _ ⟨trivial, hx2.1 1, hy2.1 0, hy2.1 1⟩ ?_
 have hcx2 := hx2.1; have hcy2 := hy2.1
 have HT2 : Hid (TextAt w w1 #[.int .i64 8, .slice (some ⟨nb, no, none⟩) 2 2, .int .i64 0, .slice va 0 vc, .bool false, .int .i64 0] #[.string ⟨#[109, 97, 116, 99, 104]⟩, .int .i64 2, .int .i32 109] w2 a2 3 c2 ([formV 8] ++ names.take 2)) := hid ⟨hx2, hy2, hown2, HB1.out.trans ((below_app (((HBS.out.mono hlt))) HOW0.out (by omega) (by have := HLO.out; omega) hg2)), by have := hg2.size; have := HLO.out; omega⟩
 clear hK K hown2 hg2 hat2 hx2 hy2
 repeat ((first | refine ordC_skip rfl rfl ?_ | refine ordC_skip1 rfl rfl ?_ | ((first | refine ordC_q rfl rfl ?_ | refine ordC_p rfl rfl ?_); apply Exists.intro; refine ⟨fun wS hS => ?_, ?_⟩; (go_simp; try with_reducible rfl))); simp only [Act.put, List.setIfInBounds_toArray, List.set_cons_zero, List.set_cons_succ])
 refine ordC_nil ?_
 go_wp2_with fail
 go_loopw [6, 91] (fun v i wr => v = .slice a2 3 c2 ∧ i = .int .i64 0 ∧ wr = w2) (fun _ _ _ => 0)
 case atStart => exact ⟨rfl, rfl, rfl⟩
 case round =>
   obtain ⟨rfl, rfl, rfl⟩ := hrel
   go_wp2_with fail
   have hwl : ∀ x ∈ (wordsS ⟨8, names, 0, vers, false, 0⟩), x.length ≤ 40 := words_len _ HL.out.wn HL.out.wv
   have hT9 := HT2.out
   rw [show [formV 8] ++ names.take 2 = wordsS ⟨8, names, 0, vers, false, 0⟩ from by simp [wordsS, formN, formR, List.drop_of_length_le, hlen, List.take_of_length_le]] at hT9
   have hjl := join_len _ hwl
   have hln := hT9.o.len
   have hNL : ¬ (9223372036854775807 < (Lib.join (wordsS ⟨8, names, 0, vers, false, 0⟩) [32]).length + 1) := by omega
   have HJ := hid (join_any _ _ _ _ _ (hT9.o.row (by omega)) (by omega) hwl (by omega))
   have HT9 := hid hT9
   clear hwl hjl hln hT9
   refine HJ.out.mono ?_
   rintro e w9 ⟨rfl, hb9⟩
   have HB9 := hid (HT9.out.b.trans (hb9.mono HT9.out.b.size))
   clear hb9 HJ
   go_wp2_with fail
   go_ret2
   exact ⟨congrArg (fun s => Ending.returned (.tuple #[.string s, .int .i64 0])) (cat2 _ _), HB9.out⟩
theorem text_k8b (nb no : Nat) (nc : Nat) (hnc : 2 < nc) (va : Option Addr) (vc : Nat) (c : Nat) (h1 : c ≤ 300) (names : List Bs) (vers : List To) (w : World) (hl : LineW w (some ⟨nb, no, none⟩) (c + 2) nc va 0 vc names vers) :
   Calls Tryz.prog 15 #[valLn ⟨8, (some ⟨nb, no, none⟩), (c + 2), nc, 0, va, 0, vc, false, 0⟩] w (Ret2 (.string ⟨(textS ⟨8, names, 0, vers, false, 0⟩).toArray⟩) (.int .i64 0) w) := by
 have HL := hid hl
 have hf := hl.g.2.1 8 (by decide)
 have hf1 := hf.1; have hf2 := hf.2.1; have hf3 := hf.2.2
 simp only [formV, formN, formR] at hf1 hf2 hf3
 have hb0 := cell_lt hf1
 simp only at hb0
 obtain ⟨i, z, hi, hz, hsize, hby', hzs⟩ := partsStr
 have HI := hid (⟨hi, hz, hsize, hby', hzs⟩ : _ ∧ _ ∧ _ ∧ _ ∧ _)
 have HB0 := hid (belowA (Below.refl w.heap.size w) (.cells #[.int .i64 8, .slice (some ⟨nb, no, none⟩) (c + 2) nc, .int .i64 0, .slice va 0 vc, .bool false, .int .i64 0] 28))
 have HX0 := hid (Bx.new w #[.int .i64 8, .slice (some ⟨nb, no, none⟩) (c + 2) nc, .int .i64 0, .slice va 0 vc, .bool false, .int .i64 0] 28)
 have hle := hl.rn.le; have hcap := hl.rn.cap; have hlen := hl.rn.len
 have hcapI : ((2 : Int) ≤ (nc : Int)) := by omega
 have hcapE : ¬ (nc = 2) := by omega
 have HF := hid (⟨hf1, hf2, hf3⟩ : _ ∧ _ ∧ _)
 clear hl hf hf1 hf2 hf3 hi hz hsize hby' hzs
 go_enter Tryz.func15, Tryz.ntmps15
 go_wp2_with fail
 refine (check_k8 (some ⟨nb, no, none⟩) nc va vc c h1 names vers _ (HL.out.below HB0.out)).mono ?_
 rintro e w1 ⟨rfl, hb1⟩
 have hx1 := HX0.out.keep hb1
 have HB1 := hid (HB0.out.trans (hb1.mono HB0.out.size)); have HX1 := hid hx1
 have hcx1 := hx1.1
 have hf1 := bget HB1.out rfl HF.out.1; have hf2 := bget HB1.out rfl HF.out.2.1; have hf3 := bget HB1.out rfl HF.out.2.2
 have hlt := HB1.out.size
 have hlx := hx1.2.2
 have hlt' : w.heap.size < w1.heap.size := hlx
 have hb0' : 0 < w1.heap.size := Nat.lt_of_lt_of_le hb0 HB1.out.size
 clear hb1 hx1
 go_wp2_with fail
 have HY := hid (Bx.new w1 #[.string ⟨#[109, 97, 116, 99, 104]⟩, .int .i64 2, .int .i32 109] 76)
 have HOW0 : Hid (Own ((w1.alloc (.cells #[.string ⟨#[109, 97, 116, 99, 104]⟩, .int .i64 2, .int .i32 109] 76)).drew.alloc (.cells #[.string ⟨#[109, 97, 116, 99, 104]⟩] 9)) (w1.heap.size + 1) 9 1 encStr (.slice (some ⟨w1.heap.size + 1, 0, none⟩) 1 1) [formV 8]) := hid (Own.strs (X := (w1.alloc (.cells #[.string ⟨#[109, 97, 116, 99, 104]⟩, .int .i64 2, .int .i32 109] 76)).drew) (by simp) [formV 8] (by simp [maxLen]))
 have HBS := hid (belowA (belowA (Below.refl w1.heap.size w1) (.cells #[.string ⟨#[109, 97, 116, 99, 104]⟩, .int .i64 2, .int .i32 109] 76)).drew (.cells #[.string ⟨#[109, 97, 116, 99, 104]⟩] 9))
 have HR0 := hid (((HL.out.below HB1.out).rn.below HBS.out rfl).takeN (m := 2) (c' := nc) (by omega) (by omega))
 have HLO : Hid (w1.heap.size + 1 ≤ ((w1.alloc (.cells #[.string ⟨#[109, 97, 116, 99, 104]⟩, .int .i64 2, .int .i32 109] 76)).drew.alloc (.cells #[.string ⟨#[109, 97, 116, 99, 104]⟩] 9)).heap.size) := hid (by simp)
 have HXY := hid (HX1.out.alloc (.cells #[.string ⟨#[109, 97, 116, 99, 104]⟩, .int .i64 2, .int .i32 109] 76))
 refine wp_region_ordC 9 [(0, 0), (1, 0), (3, 0), (4, 0), (5, 0), (6, 0), (7, 0), (2, 2), (8, 2), (9, 1)] (fun _ => True) (fun W' => W'.cell? ⟨w.heap.size, 1, none⟩ = some (.slice (some ⟨nb, no, none⟩) (c + 2) nc) ∧ W'.cell? ⟨w1.heap.size, 0, none⟩ = some (.string ⟨#[109, 97, 116, 99, 104]⟩) ∧ W'.cell? ⟨w1.heap.size, 1, none⟩ = some (.int .i64 2)) (by kernel_rfl) (by kernel_rfl) (trivial) (⟨HXY.out.drew.1 1, HY.out.drew.1 0, HY.out.drew.1 1⟩) ?_
 repeat ((first | refine ordC_skip rfl rfl ?_ | refine ordC_skip1 rfl rfl ?_ | ((first | refine ordC_q rfl rfl ?_ | refine ordC_p rfl rfl ?_); apply Exists.intro; refine ⟨fun wS hS => ?_, ?_⟩; (go_simp; try with_reducible rfl))); simp only [Act.put, List.setIfInBounds_toArray, List.set_cons_zero, List.set_cons_succ])
 refine ordC_l rfl rfl (fun K hK => ?_)
 go_simp
 refine hK _ _ ⟨trivial, (HXY.out.drew.alloc _).1 1, (HY.out.drew.alloc _).1 0, (HY.out.drew.alloc _).1 1⟩ ?_
 clear hK K
 refine ordC_l rfl rfl (fun K hK => ?_)
 refine wp_app _ _ 25 rfl i z 16 Tryz.underlying25 HI.out.1 HI.out.2.1 HI.out.2.2.1 HI.out.2.2.2.1 HI.out.2.2.2.2 (v := .slice (some ⟨w1.heap.size + 1, 0, none⟩) 1 1) rfl HOW0.out (some ⟨nb, no, none⟩) 2 nc 3 (names.take 2) rfl HR0.out rfl (by omega) (by simp [maxLen]) HLO.out ?_
 intro a2 c2 w2 hown2 hg2 hat2
 have hx2 : Bx w2 w.heap.size #[.int .i64 8, .slice (some ⟨nb, no, none⟩) (c + 2) nc, .int .i64 0, .slice va 0 vc, .bool false, .int .i64 0] := (HXY.out.drew.alloc _).grown hg2 (HOW0.out.far' (.inl (by omega)))
 have hy2 : Bx w2 w1.heap.size #[.string ⟨#[109, 97, 116, 99, 104]⟩, .int .i64 2, .int .i32 109] := (HY.out.drew.alloc _).grown hg2 (HOW0.out.far' (.inl (by omega)))
 refine hK _ _ ⟨trivial, hx2.1 1, hy2.1 0, hy2.1 1⟩ ?_
 have hcx2 := hx2.1; have hcy2 := hy2.1
 have HT2 : Hid (TextAt w w1 #[.int .i64 8, .slice (some ⟨nb, no, none⟩) (c + 2) nc, .int .i64 0, .slice va 0 vc, .bool false, .int .i64 0] #[.string ⟨#[109, 97, 116, 99, 104]⟩, .int .i64 2, .int .i32 109] w2 a2 3 c2 ([formV 8] ++ names.take 2)) := hid ⟨hx2, hy2, hown2, HB1.out.trans ((below_app (((HBS.out.mono hlt))) HOW0.out (by omega) (by have := HLO.out; omega) hg2)), by have := hg2.size; have := HLO.out; omega⟩
 clear hK K hown2 hg2 hat2 hx2 hy2
 repeat ((first | refine ordC_skip rfl rfl ?_ | refine ordC_skip1 rfl rfl ?_ | ((first | refine ordC_q rfl rfl ?_ | refine ordC_p rfl rfl ?_); apply Exists.intro; refine ⟨fun wS hS => ?_, ?_⟩; (go_simp; try with_reducible rfl))); simp only [Act.put, List.setIfInBounds_toArray, List.set_cons_zero, List.set_cons_succ])
 refine ordC_nil ?_
 go_wp2_with fail
 have HLT := hid hlt'
 go_loopw [6, 91] (fun v i wr => ∃ (j : Nat) (a0 : Option Addr) (c0 : Nat), j ≤ c ∧ v = .slice a0 (3 + j) c0 ∧ i = .int .i64 j ∧ TextAt w w1 #[.int .i64 8, .slice (some ⟨nb, no, none⟩) (c + 2) nc, .int .i64 0, .slice va 0 vc, .bool false, .int .i64 0] #[.string ⟨#[109, 97, 116, 99, 104]⟩, .int .i64 2, .int .i32 109] wr a0 (3 + j) c0 (([formV 8] ++ names.take 2) ++ (names.drop 2).take j)) (fun _ i _ => c - (RowKit.intOf i).toNat)
 case atStart => exact ⟨0, a2, c2, Nat.zero_le _, rfl, rfl, by simpa using HT2.out⟩
 case round =>
   obtain ⟨j, a5, c5, hj, rfl, rfl, hT5⟩ := hrel
   have HT5 := hid hT5; clear hT5
   have hcx5 := HT5.out.x.1; have hcy5 := HT5.out.y.1
   by_cases hlt2 : j < c
   · obtain ⟨s, b', o', hx, hab, hxc⟩ := HL.out.rn.at_ (i := 2 + j) (by omega)
     cases hab
     have hx1 := hxc 0 _ rfl
     rw [show no + (2 + j) * 1 + 0 = no + 2 + j by omega] at hx1
     have hxx := bget HT5.out.b rfl hx1
     have HIN : Hid ((([formV 8] ++ names.take 2) ++ (names.drop 2).take j) ++ [s] = ([formV 8] ++ names.take 2) ++ (names.drop 2).take (j + 1)) := hid (by rw [List.append_assoc, List.take_add_one (l := names.drop 2) (i := j), List.getElem?_drop, hx]; rfl)
     have HC1 : Hid ((3 + j : Nat) + 1 = 3 + (j + 1)) := hid (by omega)
     clear hxc hx1 hx
     have HN6 : Hid ((([formV 8] ++ names.take 2) ++ (names.drop 2).take j).length + 1 = (3 + j) + 1 ∧ ((3 + j) + 1) * 16 ≤ 140737488355328 ∧ (3 + j) + 1 ≤ maxLen) := hid ⟨by have := HT5.out.o.len; omega, by omega, by unfold maxLen; omega⟩
     go_wp2_with (at_builtin; refine wpList_app rfl _ _ 25 rfl i z 16 Tryz.underlying25 HI.out.1 HI.out.2.1 HI.out.2.2.1 HI.out.2.2.2.1 HI.out.2.2.2.2 rfl (HT5.out.o.alloc _) (some ⟨wr.heap.size, 0, none⟩) (1) (1) ((3 + j) + 1) [s] rfl (Row.strN rfl (s)) HN6.out.1 HN6.out.2.1 HN6.out.2.2 (by have := HT5.out.s; simp; omega) ?_; intro a6 c6 w6 hown6 hg6 hat6; have HT6 := hid (HT5.out.snoc HLT.out hown6 hg6); clear hown6 hg6 hat6; have hcx6 := HT6.out.x.1; have hcy6 := HT6.out.y.1)
     have HT7 : Hid (TextAt w w1 #[.int .i64 8, .slice (some ⟨nb, no, none⟩) (c + 2) nc, .int .i64 0, .slice va 0 vc, .bool false, .int .i64 0] #[.string ⟨#[109, 97, 116, 99, 104]⟩, .int .i64 2, .int .i32 109] w6 a6 (3 + (j + 1)) c6 (([formV 8] ++ names.take 2) ++ (names.drop 2).take (j + 1))) := hid (by have := HT6.out; rw [HIN.out, HC1.out] at this; exact this)
     go_roundw
     case rel => exact ⟨j + 1, a6, c6, by omega, by first | rfl | (simp; omega), by go_num, HT7.out⟩
     case measure => simp [RowKit.intOf]; omega
   · obtain rfl : j = c := by omega
     go_wp2_with fail
     have hwl : ∀ x ∈ (wordsS ⟨8, names, 0, vers, false, 0⟩), x.length ≤ 40 := words_len _ HL.out.wn HL.out.wv
     have hT9 := HT5.out
     rw [show ([formV 8] ++ names.take 2) ++ (names.drop 2).take j = wordsS ⟨8, names, 0, vers, false, 0⟩ from by simp [wordsS, formN, formR, hlen, List.take_of_length_le]] at hT9
     have hjl := join_len _ hwl
     have hln := hT9.o.len
     have hNL : ¬ (9223372036854775807 < (Lib.join (wordsS ⟨8, names, 0, vers, false, 0⟩) [32]).length + 1) := by omega
     have HJ := hid (join_any _ _ _ _ _ (hT9.o.row (by omega)) (by omega) hwl (by omega))
     have HT9 := hid hT9
     clear hwl hjl hln hT9
     refine HJ.out.mono ?_
     rintro e w9 ⟨rfl, hb9⟩
     have HB9 := hid (HT9.out.b.trans (hb9.mono HT9.out.b.size))
     clear hb9 HJ
     go_wp2_with fail
     go_ret2
     exact ⟨congrArg (fun s => Ending.returned (.tuple #[.string s, .int .i64 0])) (cat2 _ _), HB9.out⟩
theorem text_k10a (nb no : Nat) (va : Option Addr) (vc : Nat) (names : List Bs) (vers : List To) (w : World) (hl : LineW w (some ⟨nb, no, none⟩) 2 2 va 0 vc names vers) :
   Calls Tryz.prog 15 #[valLn ⟨8, (some ⟨nb, no, none⟩), 2, 2, 0, va, 0, vc, true, 0⟩] w (Ret2 (.string ⟨(textS ⟨8, names, 0, vers, true, 0⟩).toArray⟩) (.int .i64 0) w) := by
 have HL := hid hl
 have hf := hl.g.2.1 8 (by decide)
 have hf1 := hf.1; have hf2 := hf.2.1; have hf3 := hf.2.2
 simp only [formV, formN, formR] at hf1 hf2 hf3
 have hb0 := cell_lt hf1
 simp only at hb0
 obtain ⟨i, z, hi, hz, hsize, hby', hzs⟩ := partsStr
 have HI := hid (⟨hi, hz, hsize, hby', hzs⟩ : _ ∧ _ ∧ _ ∧ _ ∧ _)
 have HB0 := hid (belowA (Below.refl w.heap.size w) (.cells #[.int .i64 8, .slice (some ⟨nb, no, none⟩) 2 2, .int .i64 0, .slice va 0 vc, .bool true, .int .i64 0] 28))
 have HX0 := hid (Bx.new w #[.int .i64 8, .slice (some ⟨nb, no, none⟩) 2 2, .int .i64 0, .slice va 0 vc, .bool true, .int .i64 0] 28)
 have hle := hl.rn.le; have hcap := hl.rn.cap; have hlen := hl.rn.len
 have HF := hid (⟨hf1, hf2, hf3⟩ : _ ∧ _ ∧ _)
 clear hl hf hf1 hf2 hf3 hi hz hsize hby' hzs
 go_enter Tryz.func15, Tryz.ntmps15
 go_wp2_with fail
 refine (check_k10 (some ⟨nb, no, none⟩) 2 va vc 0 (by decide) names vers _ (HL.out.below HB0.out)).mono ?_
 rintro e w1 ⟨rfl, hb1⟩
 have hx1 := HX0.out.keep hb1
 have HB1 := hid (HB0.out.trans (hb1.mono HB0.out.size)); have HX1 := hid hx1
 have hcx1 := hx1.1
 have hf1 := bget HB1.out rfl HF.out.1; have hf2 := bget HB1.out rfl HF.out.2.1; have hf3 := bget HB1.out rfl HF.out.2.2
 have hlt := HB1.out.size
 have hlx := hx1.2.2
 have hlt' : w.heap.size < w1.heap.size := hlx
 have hb0' : 0 < w1.heap.size := Nat.lt_of_lt_of_le hb0 HB1.out.size
 clear hb1 hx1
 go_wp2_with fail
 have HY := hid (Bx.new w1 #[.string ⟨#[109, 97, 116, 99, 104]⟩, .int .i64 2, .int .i32 109] 76)
 have HOW0 : Hid (Own ((w1.alloc (.cells #[.string ⟨#[109, 97, 116, 99, 104]⟩, .int .i64 2, .int .i32 109] 76)).drew.alloc (.cells #[.string ⟨#[109, 97, 116, 99, 104]⟩] 9)) (w1.heap.size + 1) 9 1 encStr (.slice (some ⟨w1.heap.size + 1, 0, none⟩) 1 1) [formV 8]) := hid (Own.strs (X := (w1.alloc (.cells #[.string ⟨#[109, 97, 116, 99, 104]⟩, .int .i64 2, .int .i32 109] 76)).drew) (by simp) [formV 8] (by simp [maxLen]))
 have HBS := hid (belowA (belowA (Below.refl w1.heap.size w1) (.cells #[.string ⟨#[109, 97, 116, 99, 104]⟩, .int .i64 2, .int .i32 109] 76)).drew (.cells #[.string ⟨#[109, 97, 116, 99, 104]⟩] 9))
 have HR0 := hid (((HL.out.below HB1.out).rn.below HBS.out rfl).takeN (m := 2) (c' := 2) (by omega) (by omega))
 have HLO : Hid (w1.heap.size + 1 ≤ ((w1.alloc (.cells #[.string ⟨#[109, 97, 116, 99, 104]⟩, .int .i64 2, .int .i32 109] 76)).drew.alloc (.cells #[.string ⟨#[109, 97, 116, 99, 104]⟩] 9)).heap.size) := hid (by simp)
 have HXY := hid (HX1.out.alloc (.cells #[.string ⟨#[109, 97, 116, 99, 104]⟩, .int .i64 2, .int .i32 109] 76))
 refine wp_region_ordC 9 [(0, 0), (1, 0), (3, 0), (4, 0), (5, 0), (6, 0), (7, 0), (2, 2), (8, 2), (9, 1)] (fun _ => True) (fun W' => W'.cell? ⟨w.heap.size, 1, none⟩ = some (.slice (some ⟨nb, no, none⟩) 2 2) ∧ W'.cell? ⟨w1.heap.size, 0, none⟩ = some (.string ⟨#[109, 97, 116, 99, 104]⟩) ∧ W'.cell? ⟨w1.heap.size, 1, none⟩ = some (.int .i64 2)) (by kernel_rfl) (by kernel_rfl) (trivial) (⟨HXY.out.drew.1 1, HY.out.drew.1 0, HY.out.drew.1 1⟩) ?_
 repeat ((first | refine ordC_skip rfl rfl ?_ | refine ordC_skip1 rfl rfl ?_ | ((first | refine ordC_q rfl rfl ?_ | refine ordC_p rfl rfl ?_); apply Exists.intro; refine ⟨fun wS hS => ?_, ?_⟩; (go_simp; try with_reducible rfl))); simp only [Act.put, List.setIfInBounds_toArray, List.set_cons_zero, List.set_cons_succ])
 refine ordC_l rfl rfl (fun K hK => ?_)
 go_simp
 refine hK _ _ ⟨trivial, (HXY.out.drew.alloc _).1 1, (HY.out.drew.alloc _).1 0, (HY.out.drew.alloc _).1 1⟩ ?_
 clear hK K
 refine ordC_l rfl rfl (fun K hK => ?_)
 refine wp_app _ _ 25 rfl i z 16 Tryz.underlying25 HI.out.1 HI.out.2.1 HI.out.2.2.1 HI.out.2.2.2.1 HI.out.2.2.2.2 (v := .slice (some ⟨w1.heap.size + 1, 0, none⟩) 1 1) rfl HOW0.out (some ⟨nb, no, none⟩) 2 2 3 (names.take 2) rfl HR0.out rfl (by omega) (by simp [maxLen]) HLO.out ?_
 intro a2 c2 w2 hown2 hg2 hat2
 have hx2 : Bx w2 w.heap.size #[.int .i64 8, .slice (some ⟨nb, no, none⟩) 2 2, .int .i64 0, .slice va 0 vc, .bool true, .int .i64 0] := (HXY.out.drew.alloc _).grown hg2 (HOW0.out.far' (.inl (by omega)))
 have hy2 : Bx w2 w1.heap.size #[.string ⟨#[109, 97, 116, 99, 104]⟩, .int .i64 2, .int .i32 109] := (HY.out.drew.alloc _).grown hg2 (HOW0.out.far' (.inl (by omega)))
 refine hK _ _ ⟨trivial, hx2.1 1, hy2.1 0, hy2.1 1⟩ ?_
 have hcx2 := hx2.1; have hcy2 := hy2.1
 have HT2 : Hid (TextAt w w1 #[.int .i64 8, .slice (some ⟨nb, no, none⟩) 2 2, .int .i64 0, .slice va 0 vc, .bool true, .int .i64 0] #[.string ⟨#[109, 97, 116, 99, 104]⟩, .int .i64 2, .int .i32 109] w2 a2 3 c2 ([formV 8] ++ names.take 2)) := hid ⟨hx2, hy2, hown2, HB1.out.trans ((below_app (((HBS.out.mono hlt))) HOW0.out (by omega) (by have := HLO.out; omega) hg2)), by have := hg2.size; have := HLO.out; omega⟩
 clear hK K hown2 hg2 hat2 hx2 hy2
 repeat ((first | refine ordC_skip rfl rfl ?_ | refine ordC_skip1 rfl rfl ?_ | ((first | refine ordC_q rfl rfl ?_ | refine ordC_p rfl rfl ?_); apply Exists.intro; refine ⟨fun wS hS => ?_, ?_⟩; (go_simp; try with_reducible rfl))); simp only [Act.put, List.setIfInBounds_toArray, List.set_cons_zero, List.set_cons_succ])
 refine ordC_nil ?_
 have HLT := hid hlt'
 have HN3 : Hid (([formV 8] ++ names.take 2).length + 1 = 3 + 1 ∧ (3 + 1) * 16 ≤ 140737488355328 ∧ 3 + 1 ≤ maxLen) := hid ⟨by have := HT2.out.o.len; omega, by omega, by unfold maxLen; omega⟩
 go_wp2_with (at_builtin; refine wpList_app rfl _ _ 25 rfl i z 16 Tryz.underlying25 HI.out.1 HI.out.2.1 HI.out.2.2.1 HI.out.2.2.2.1 HI.out.2.2.2.2 rfl (HT2.out.o.alloc _) (some ⟨w2.heap.size, 0, none⟩) (1) (1) (3 + 1) [[45]] rfl (Row.strN rfl ([45])) HN3.out.1 HN3.out.2.1 HN3.out.2.2 (by have := HT2.out.s; simp; omega) ?_; intro a3 c3 w3 hown3 hg3 hat3; have HT3 := hid (HT2.out.snoc HLT.out hown3 hg3); clear hown3 hg3 hat3; have hcx3 := HT3.out.x.1; have hcy3 := HT3.out.y.1)
 go_loopw [6, 91] (fun v i wr => v = .slice a3 4 c3 ∧ i = .int .i64 0 ∧ wr = w3) (fun _ _ _ => 0)
 case atStart => exact ⟨rfl, rfl, rfl⟩
 case round =>
   obtain ⟨rfl, rfl, rfl⟩ := hrel
   go_wp2_with fail
   have hwl : ∀ x ∈ (wordsS ⟨8, names, 0, vers, true, 0⟩), x.length ≤ 40 := words_len _ HL.out.wn HL.out.wv
   have hT9 := HT3.out
   rw [show [formV 8] ++ names.take 2 ++ [[45]] = wordsS ⟨8, names, 0, vers, true, 0⟩ from by simp [wordsS, formN, formR, List.drop_of_length_le, hlen, List.take_of_length_le]] at hT9
   have hjl := join_len _ hwl
   have hln := hT9.o.len
   have hNL : ¬ (9223372036854775807 < (Lib.join (wordsS ⟨8, names, 0, vers, true, 0⟩) [32]).length + 1) := by omega
   have HJ := hid (join_any _ _ _ _ _ (hT9.o.row (by omega)) (by omega) hwl (by omega))
   have HT9 := hid hT9
   clear hwl hjl hln hT9
   refine HJ.out.mono ?_
   rintro e w9 ⟨rfl, hb9⟩
   have HB9 := hid (HT9.out.b.trans (hb9.mono HT9.out.b.size))
   clear hb9 HJ
   go_wp2_with fail
   go_ret2
   exact ⟨congrArg (fun s => Ending.returned (.tuple #[.string s, .int .i64 0])) (cat2 _ _), HB9.out⟩
theorem text_k10b (nb no : Nat) (nc : Nat) (hnc : 2 < nc) (va : Option Addr) (vc : Nat) (c : Nat) (h1 : c ≤ 300) (names : List Bs) (vers : List To) (w : World) (hl : LineW w (some ⟨nb, no, none⟩) (c + 2) nc va 0 vc names vers) :
   Calls Tryz.prog 15 #[valLn ⟨8, (some ⟨nb, no, none⟩), (c + 2), nc, 0, va, 0, vc, true, 0⟩] w (Ret2 (.string ⟨(textS ⟨8, names, 0, vers, true, 0⟩).toArray⟩) (.int .i64 0) w) := by
 have HL := hid hl
 have hf := hl.g.2.1 8 (by decide)
 have hf1 := hf.1; have hf2 := hf.2.1; have hf3 := hf.2.2
 simp only [formV, formN, formR] at hf1 hf2 hf3
 have hb0 := cell_lt hf1
 simp only at hb0
 obtain ⟨i, z, hi, hz, hsize, hby', hzs⟩ := partsStr
 have HI := hid (⟨hi, hz, hsize, hby', hzs⟩ : _ ∧ _ ∧ _ ∧ _ ∧ _)
 have HB0 := hid (belowA (Below.refl w.heap.size w) (.cells #[.int .i64 8, .slice (some ⟨nb, no, none⟩) (c + 2) nc, .int .i64 0, .slice va 0 vc, .bool true, .int .i64 0] 28))
 have HX0 := hid (Bx.new w #[.int .i64 8, .slice (some ⟨nb, no, none⟩) (c + 2) nc, .int .i64 0, .slice va 0 vc, .bool true, .int .i64 0] 28)
 have hle := hl.rn.le; have hcap := hl.rn.cap; have hlen := hl.rn.len
 have hcapI : ((2 : Int) ≤ (nc : Int)) := by omega
 have hcapE : ¬ (nc = 2) := by omega
 have HF := hid (⟨hf1, hf2, hf3⟩ : _ ∧ _ ∧ _)
 clear hl hf hf1 hf2 hf3 hi hz hsize hby' hzs
 go_enter Tryz.func15, Tryz.ntmps15
 go_wp2_with fail
 refine (check_k10 (some ⟨nb, no, none⟩) nc va vc c h1 names vers _ (HL.out.below HB0.out)).mono ?_
 rintro e w1 ⟨rfl, hb1⟩
 have hx1 := HX0.out.keep hb1
 have HB1 := hid (HB0.out.trans (hb1.mono HB0.out.size)); have HX1 := hid hx1
 have hcx1 := hx1.1
 have hf1 := bget HB1.out rfl HF.out.1; have hf2 := bget HB1.out rfl HF.out.2.1; have hf3 := bget HB1.out rfl HF.out.2.2
 have hlt := HB1.out.size
 have hlx := hx1.2.2
 have hlt' : w.heap.size < w1.heap.size := hlx
 have hb0' : 0 < w1.heap.size := Nat.lt_of_lt_of_le hb0 HB1.out.size
 clear hb1 hx1
 go_wp2_with fail
 have HY := hid (Bx.new w1 #[.string ⟨#[109, 97, 116, 99, 104]⟩, .int .i64 2, .int .i32 109] 76)
 have HOW0 : Hid (Own ((w1.alloc (.cells #[.string ⟨#[109, 97, 116, 99, 104]⟩, .int .i64 2, .int .i32 109] 76)).drew.alloc (.cells #[.string ⟨#[109, 97, 116, 99, 104]⟩] 9)) (w1.heap.size + 1) 9 1 encStr (.slice (some ⟨w1.heap.size + 1, 0, none⟩) 1 1) [formV 8]) := hid (Own.strs (X := (w1.alloc (.cells #[.string ⟨#[109, 97, 116, 99, 104]⟩, .int .i64 2, .int .i32 109] 76)).drew) (by simp) [formV 8] (by simp [maxLen]))
 have HBS := hid (belowA (belowA (Below.refl w1.heap.size w1) (.cells #[.string ⟨#[109, 97, 116, 99, 104]⟩, .int .i64 2, .int .i32 109] 76)).drew (.cells #[.string ⟨#[109, 97, 116, 99, 104]⟩] 9))
 have HR0 := hid (((HL.out.below HB1.out).rn.below HBS.out rfl).takeN (m := 2) (c' := nc) (by omega) (by omega))
 have HLO : Hid (w1.heap.size + 1 ≤ ((w1.alloc (.cells #[.string ⟨#[109, 97, 116, 99, 104]⟩, .int .i64 2, .int .i32 109] 76)).drew.alloc (.cells #[.string ⟨#[109, 97, 116, 99, 104]⟩] 9)).heap.size) := hid (by simp)
 have HXY := hid (HX1.out.alloc (.cells #[.string ⟨#[109, 97, 116, 99, 104]⟩, .int .i64 2, .int .i32 109] 76))
 refine wp_region_ordC 9 [(0, 0), (1, 0), (3, 0), (4, 0), (5, 0), (6, 0), (7, 0), (2, 2), (8, 2), (9, 1)] (fun _ => True) (fun W' => W'.cell? ⟨w.heap.size, 1, none⟩ = some (.slice (some ⟨nb, no, none⟩) (c + 2) nc) ∧ W'.cell? ⟨w1.heap.size, 0, none⟩ = some (.string ⟨#[109, 97, 116, 99, 104]⟩) ∧ W'.cell? ⟨w1.heap.size, 1, none⟩ = some (.int .i64 2)) (by kernel_rfl) (by kernel_rfl) (trivial) (⟨HXY.out.drew.1 1, HY.out.drew.1 0, HY.out.drew.1 1⟩) ?_
 repeat ((first | refine ordC_skip rfl rfl ?_ | refine ordC_skip1 rfl rfl ?_ | ((first | refine ordC_q rfl rfl ?_ | refine ordC_p rfl rfl ?_); apply Exists.intro; refine ⟨fun wS hS => ?_, ?_⟩; (go_simp; try with_reducible rfl))); simp only [Act.put, List.setIfInBounds_toArray, List.set_cons_zero, List.set_cons_succ])
 refine ordC_l rfl rfl (fun K hK => ?_)
 go_simp
 refine hK _ _ ⟨trivial, (HXY.out.drew.alloc _).1 1, (HY.out.drew.alloc _).1 0, (HY.out.drew.alloc _).1 1⟩ ?_
 clear hK K
 refine ordC_l rfl rfl (fun K hK => ?_)
 refine wp_app _ _ 25 rfl i z 16 Tryz.underlying25 HI.out.1 HI.out.2.1 HI.out.2.2.1 HI.out.2.2.2.1 HI.out.2.2.2.2 (v := .slice (some ⟨w1.heap.size + 1, 0, none⟩) 1 1) rfl HOW0.out (some ⟨nb, no, none⟩) 2 nc 3 (names.take 2) rfl HR0.out rfl (by omega) (by simp [maxLen]) HLO.out ?_
 intro a2 c2 w2 hown2 hg2 hat2
 have hx2 : Bx w2 w.heap.size #[.int .i64 8, .slice (some ⟨nb, no, none⟩) (c + 2) nc, .int .i64 0, .slice va 0 vc, .bool true, .int .i64 0] := (HXY.out.drew.alloc _).grown hg2 (HOW0.out.far' (.inl (by omega)))
 have hy2 : Bx w2 w1.heap.size #[.string ⟨#[109, 97, 116, 99, 104]⟩, .int .i64 2, .int .i32 109] := (HY.out.drew.alloc _).grown hg2 (HOW0.out.far' (.inl (by omega)))
 refine hK _ _ ⟨trivial, hx2.1 1, hy2.1 0, hy2.1 1⟩ ?_
 have hcx2 := hx2.1; have hcy2 := hy2.1
 have HT2 : Hid (TextAt w w1 #[.int .i64 8, .slice (some ⟨nb, no, none⟩) (c + 2) nc, .int .i64 0, .slice va 0 vc, .bool true, .int .i64 0] #[.string ⟨#[109, 97, 116, 99, 104]⟩, .int .i64 2, .int .i32 109] w2 a2 3 c2 ([formV 8] ++ names.take 2)) := hid ⟨hx2, hy2, hown2, HB1.out.trans ((below_app (((HBS.out.mono hlt))) HOW0.out (by omega) (by have := HLO.out; omega) hg2)), by have := hg2.size; have := HLO.out; omega⟩
 clear hK K hown2 hg2 hat2 hx2 hy2
 repeat ((first | refine ordC_skip rfl rfl ?_ | refine ordC_skip1 rfl rfl ?_ | ((first | refine ordC_q rfl rfl ?_ | refine ordC_p rfl rfl ?_); apply Exists.intro; refine ⟨fun wS hS => ?_, ?_⟩; (go_simp; try with_reducible rfl))); simp only [Act.put, List.setIfInBounds_toArray, List.set_cons_zero, List.set_cons_succ])
 refine ordC_nil ?_
 have HLT := hid hlt'
 have HN3 : Hid (([formV 8] ++ names.take 2).length + 1 = 3 + 1 ∧ (3 + 1) * 16 ≤ 140737488355328 ∧ 3 + 1 ≤ maxLen) := hid ⟨by have := HT2.out.o.len; omega, by omega, by unfold maxLen; omega⟩
 go_wp2_with (at_builtin; refine wpList_app rfl _ _ 25 rfl i z 16 Tryz.underlying25 HI.out.1 HI.out.2.1 HI.out.2.2.1 HI.out.2.2.2.1 HI.out.2.2.2.2 rfl (HT2.out.o.alloc _) (some ⟨w2.heap.size, 0, none⟩) (1) (1) (3 + 1) [[45]] rfl (Row.strN rfl ([45])) HN3.out.1 HN3.out.2.1 HN3.out.2.2 (by have := HT2.out.s; simp; omega) ?_; intro a3 c3 w3 hown3 hg3 hat3; have HT3 := hid (HT2.out.snoc HLT.out hown3 hg3); clear hown3 hg3 hat3; have hcx3 := HT3.out.x.1; have hcy3 := HT3.out.y.1)
 go_loopw [6, 91] (fun v i wr => ∃ (j : Nat) (a0 : Option Addr) (c0 : Nat), j ≤ c ∧ v = .slice a0 (4 + j) c0 ∧ i = .int .i64 j ∧ TextAt w w1 #[.int .i64 8, .slice (some ⟨nb, no, none⟩) (c + 2) nc, .int .i64 0, .slice va 0 vc, .bool true, .int .i64 0] #[.string ⟨#[109, 97, 116, 99, 104]⟩, .int .i64 2, .int .i32 109] wr a0 (4 + j) c0 (([formV 8] ++ names.take 2 ++ [[45]]) ++ (names.drop 2).take j)) (fun _ i _ => c - (RowKit.intOf i).toNat)
 case atStart => exact ⟨0, a3, c3, Nat.zero_le _, rfl, rfl, by simpa using HT3.out⟩
 case round =>
   obtain ⟨j, a5, c5, hj, rfl, rfl, hT5⟩ := hrel
   have HT5 := hid hT5; clear hT5
   have hcx5 := HT5.out.x.1; have hcy5 := HT5.out.y.1
   by_cases hlt2 : j < c
   · obtain ⟨s, b', o', hx, hab, hxc⟩ := HL.out.rn.at_ (i := 2 + j) (by omega)
     cases hab
     have hx1 := hxc 0 _ rfl
     rw [show no + (2 + j) * 1 + 0 = no + 2 + j by omega] at hx1
     have hxx := bget HT5.out.b rfl hx1
     have HIN : Hid ((([formV 8] ++ names.take 2 ++ [[45]]) ++ (names.drop 2).take j) ++ [s] = ([formV 8] ++ names.take 2 ++ [[45]]) ++ (names.drop 2).take (j + 1)) := hid (by rw [List.append_assoc, List.take_add_one (l := names.drop 2) (i := j), List.getElem?_drop, hx]; rfl)
     have HC1 : Hid ((4 + j : Nat) + 1 = 4 + (j + 1)) := hid (by omega)
     clear hxc hx1 hx
     have HN6 : Hid ((([formV 8] ++ names.take 2 ++ [[45]]) ++ (names.drop 2).take j).length + 1 = (4 + j) + 1 ∧ ((4 + j) + 1) * 16 ≤ 140737488355328 ∧ (4 + j) + 1 ≤ maxLen) := hid ⟨by have := HT5.out.o.len; omega, by omega, by unfold maxLen; omega⟩
     go_wp2_with (at_builtin; refine wpList_app rfl _ _ 25 rfl i z 16 Tryz.underlying25 HI.out.1 HI.out.2.1 HI.out.2.2.1 HI.out.2.2.2.1 HI.out.2.2.2.2 rfl (HT5.out.o.alloc _) (some ⟨wr.heap.size, 0, none⟩) (1) (1) ((4 + j) + 1) [s] rfl (Row.strN rfl (s)) HN6.out.1 HN6.out.2.1 HN6.out.2.2 (by have := HT5.out.s; simp; omega) ?_; intro a6 c6 w6 hown6 hg6 hat6; have HT6 := hid (HT5.out.snoc HLT.out hown6 hg6); clear hown6 hg6 hat6; have hcx6 := HT6.out.x.1; have hcy6 := HT6.out.y.1)
     have HT7 : Hid (TextAt w w1 #[.int .i64 8, .slice (some ⟨nb, no, none⟩) (c + 2) nc, .int .i64 0, .slice va 0 vc, .bool true, .int .i64 0] #[.string ⟨#[109, 97, 116, 99, 104]⟩, .int .i64 2, .int .i32 109] w6 a6 (4 + (j + 1)) c6 (([formV 8] ++ names.take 2 ++ [[45]]) ++ (names.drop 2).take (j + 1))) := hid (by have := HT6.out; rw [HIN.out, HC1.out] at this; exact this)
     go_roundw
     case rel => exact ⟨j + 1, a6, c6, by omega, by first | rfl | (simp; omega), by go_num, HT7.out⟩
     case measure => simp [RowKit.intOf]; omega
   · obtain rfl : j = c := by omega
     go_wp2_with fail
     have hwl : ∀ x ∈ (wordsS ⟨8, names, 0, vers, true, 0⟩), x.length ≤ 40 := words_len _ HL.out.wn HL.out.wv
     have hT9 := HT5.out
     rw [show ([formV 8] ++ names.take 2 ++ [[45]]) ++ (names.drop 2).take j = wordsS ⟨8, names, 0, vers, true, 0⟩ from by simp [wordsS, formN, formR, hlen, List.take_of_length_le]] at hT9
     have hjl := join_len _ hwl
     have hln := hT9.o.len
     have hNL : ¬ (9223372036854775807 < (Lib.join (wordsS ⟨8, names, 0, vers, true, 0⟩) [32]).length + 1) := by omega
     have HJ := hid (join_any _ _ _ _ _ (hT9.o.row (by omega)) (by omega) hwl (by omega))
     have HT9 := hid hT9
     clear hwl hjl hln hT9
     refine HJ.out.mono ?_
     rintro e w9 ⟨rfl, hb9⟩
     have HB9 := hid (HT9.out.b.trans (hb9.mono HT9.out.b.size))
     clear hb9 HJ
     go_wp2_with fail
     go_ret2
     exact ⟨congrArg (fun s => Ending.returned (.tuple #[.string s, .int .i64 0])) (cat2 _ _), HB9.out⟩
end Yd
