import Derived.Test.YthdpangjphphjaaGreatDoorOrdP
import Derived.Test.YthdpangjphphjaaGreatDoorChk5
import Derived.Test.YthdpangjphphjaaGreatDoorProg
import Derived.Test.YthdpangjphphjaaGreatDoorDigit
set_option maxRecDepth 200000
set_option maxHeartbeats 8000000
namespace Yd
open Go Go.RowKit Go.Proofs
theorem text_k5a (nb no : Nat) (va : Option Addr) (vc : Nat) (names : List Bs) (vers : List To) (w : World) (hl : LineW w (some ⟨nb, no, none⟩) 1 1 va 0 vc names vers) :
   Calls Tryz.prog 15 #[valLn ⟨5, (some ⟨nb, no, none⟩), 1, 1, 0, va, 0, vc, false, 0⟩] w (Ret2 (.string ⟨(textS ⟨5, names, 0, vers, false, 0⟩).toArray⟩) (.int .i64 0) w) := by
 have HL := hid hl
 have hf := hl.g.2.1 5 (by decide)
 have hf1 := hf.1; have hf2 := hf.2.1; have hf3 := hf.2.2
 simp only [formV, formN, formR] at hf1 hf2 hf3
 have hb0 := cell_lt hf1
 simp only at hb0
 obtain ⟨i, z, hi, hz, hsize, hby', hzs⟩ := partsStr
 have HI := hid (⟨hi, hz, hsize, hby', hzs⟩ : _ ∧ _ ∧ _ ∧ _ ∧ _)
 have HB0 := hid (belowA (Below.refl w.heap.size w) (.cells #[.int .i64 5, .slice (some ⟨nb, no, none⟩) 1 1, .int .i64 0, .slice va 0 vc, .bool false, .int .i64 0] 28))
 have HX0 := hid (Bx.new w #[.int .i64 5, .slice (some ⟨nb, no, none⟩) 1 1, .int .i64 0, .slice va 0 vc, .bool false, .int .i64 0] 28)
 have hle := hl.rn.le; have hcap := hl.rn.cap; have hlen := hl.rn.len
 have HF := hid (⟨hf1, hf2, hf3⟩ : _ ∧ _ ∧ _)
 clear hl hf hf1 hf2 hf3 hi hz hsize hby' hzs
 go_enter Tryz.func15, Tryz.ntmps15
 go_wp2_with fail
 refine (check_k5 (some ⟨nb, no, none⟩) 1 va vc names vers _ (HL.out.below HB0.out)).mono ?_
 rintro e w1 ⟨rfl, hb1⟩
 have hx1 := HX0.out.keep hb1
 have HB1 := hid (HB0.out.trans (hb1.mono HB0.out.size)); have HX1 := hid hx1
 have hcx1 := hx1.1
 have hf1 := bget HB1.out rfl HF.out.1; have hf2 := bget HB1.out rfl HF.out.2.1; have hf3 := bget HB1.out rfl HF.out.2.2
 have hlt := HB1.out.size
 have hlx := hx1.2.2
 have hb0' : 0 < w1.heap.size := Nat.lt_of_lt_of_le hb0 HB1.out.size
 clear hb1 hx1
 go_wp2_with fail
 have HY := hid (Bx.new w1 #[.string ⟨#[99, 111, 109, 109, 105, 116]⟩, .int .i64 1, .int .i32 0] 76)
 have HOW0 : Hid (Own ((w1.alloc (.cells #[.string ⟨#[99, 111, 109, 109, 105, 116]⟩, .int .i64 1, .int .i32 0] 76)).drew.alloc (.cells #[.string ⟨#[99, 111, 109, 109, 105, 116]⟩] 9)) (w1.heap.size + 1) 9 1 encStr (.slice (some ⟨w1.heap.size + 1, 0, none⟩) 1 1) [formV 5]) := hid (Own.strs (X := (w1.alloc (.cells #[.string ⟨#[99, 111, 109, 109, 105, 116]⟩, .int .i64 1, .int .i32 0] 76)).drew) (by simp) [formV 5] (by simp [maxLen]))
 have HBS := hid (belowA (belowA (Below.refl w1.heap.size w1) (.cells #[.string ⟨#[99, 111, 109, 109, 105, 116]⟩, .int .i64 1, .int .i32 0] 76)).drew (.cells #[.string ⟨#[99, 111, 109, 109, 105, 116]⟩] 9))
 have HR0 := hid (((HL.out.below HB1.out).rn.below HBS.out rfl).takeN (m := 1) (c' := 1) (by omega) (by omega))
 have HLO : Hid (w1.heap.size + 1 ≤ ((w1.alloc (.cells #[.string ⟨#[99, 111, 109, 109, 105, 116]⟩, .int .i64 1, .int .i32 0] 76)).drew.alloc (.cells #[.string ⟨#[99, 111, 109, 109, 105, 116]⟩] 9)).heap.size) := hid (by simp)
 have HXY := hid (HX1.out.alloc (.cells #[.string ⟨#[99, 111, 109, 109, 105, 116]⟩, .int .i64 1, .int .i32 0] 76))
 refine wp_region_ordC 9 [(0, 0), (1, 0), (3, 0), (4, 0), (5, 0), (6, 0), (7, 0), (2, 2), (8, 2), (9, 1)] (fun _ => True) (fun W' => W'.cell? ⟨w.heap.size, 1, none⟩ = some (.slice (some ⟨nb, no, none⟩) 1 1) ∧ W'.cell? ⟨w1.heap.size, 0, none⟩ = some (.string ⟨#[99, 111, 109, 109, 105, 116]⟩) ∧ W'.cell? ⟨w1.heap.size, 1, none⟩ = some (.int .i64 1)) (by kernel_rfl) (by kernel_rfl) (trivial) (⟨HXY.out.drew.1 1, HY.out.drew.1 0, HY.out.drew.1 1⟩) ?_
 repeat ((first | refine ordC_skip rfl rfl ?_ | refine ordC_skip1 rfl rfl ?_ | ((first | refine ordC_q rfl rfl ?_ | refine ordC_p rfl rfl ?_); apply Exists.intro; refine ⟨fun wS hS => ?_, ?_⟩; (go_simp; try with_reducible rfl))); simp only [Act.put, List.setIfInBounds_toArray, List.set_cons_zero, List.set_cons_succ])
 refine ordC_l rfl rfl (fun K hK => ?_)
 go_simp
 refine hK _ _ ⟨trivial, (HXY.out.drew.alloc _).1 1, (HY.out.drew.alloc _).1 0, (HY.out.drew.alloc _).1 1⟩ ?_
 clear hK K
 refine ordC_l rfl rfl (fun K hK => ?_)
 refine wp_app _ _ 25 rfl i z 16 Tryz.underlying25 HI.out.1 HI.out.2.1 HI.out.2.2.1 HI.out.2.2.2.1 HI.out.2.2.2.2 (v := .slice (some ⟨w1.heap.size + 1, 0, none⟩) 1 1) rfl HOW0.out (some ⟨nb, no, none⟩) 1 1 2 (names.take 1) rfl HR0.out rfl (by omega) (by simp [maxLen]) HLO.out ?_
 intro a2 c2 w2 hown2 hg2 hat2
 have hx2 : Bx w2 w.heap.size #[.int .i64 5, .slice (some ⟨nb, no, none⟩) 1 1, .int .i64 0, .slice va 0 vc, .bool false, .int .i64 0] := (HXY.out.drew.alloc _).grown hg2 (HOW0.out.far' (.inl (by omega)))
 have hy2 : Bx w2 w1.heap.size #[.string ⟨#[99, 111, 109, 109, 105, 116]⟩, .int .i64 1, .int .i32 0] := (HY.out.drew.alloc _).grown hg2 (HOW0.out.far' (.inl (by omega)))
 refine hK _ _ ⟨trivial, hx2.1 1, hy2.1 0, hy2.1 1⟩ ?_
 have hcx2 := hx2.1; have hcy2 := hy2.1
 have HT2 : Hid (TextAt w w1 #[.int .i64 5, .slice (some ⟨nb, no, none⟩) 1 1, .int .i64 0, .slice va 0 vc, .bool false, .int .i64 0] #[.string ⟨#[99, 111, 109, 109, 105, 116]⟩, .int .i64 1, .int .i32 0] w2 a2 2 c2 ([formV 5] ++ names.take 1)) := hid ⟨hx2, hy2, hown2, HB1.out.trans ((below_app (((HBS.out.mono hlt))) HOW0.out (by omega) (by have := HLO.out; omega) hg2)), by have := hg2.size; have := HLO.out; omega⟩
 clear hK K hown2 hg2 hat2 hx2 hy2
 repeat ((first | refine ordC_skip rfl rfl ?_ | refine ordC_skip1 rfl rfl ?_ | ((first | refine ordC_q rfl rfl ?_ | refine ordC_p rfl rfl ?_); apply Exists.intro; refine ⟨fun wS hS => ?_, ?_⟩; (go_simp; try with_reducible rfl))); simp only [Act.put, List.setIfInBounds_toArray, List.set_cons_zero, List.set_cons_succ])
 refine ordC_nil ?_
 go_wp2_with fail
 go_loopw [6, 91] (fun v i wr => v = .slice a2 2 c2 ∧ i = .int .i64 0 ∧ wr = w2) (fun _ _ _ => 0)
 case atStart => exact ⟨rfl, rfl, rfl⟩
 case round =>
   obtain ⟨rfl, rfl, rfl⟩ := hrel
   go_wp2_with fail
   have hwl : ∀ x ∈ (wordsS ⟨5, names, 0, vers, false, 0⟩), x.length ≤ 40 := words_len _ HL.out.wn HL.out.wv
   have hT9 := HT2.out
   rw [show [formV 5] ++ names.take 1 = wordsS ⟨5, names, 0, vers, false, 0⟩ from by simp [wordsS, formN, formR, List.drop_of_length_le, hlen, List.take_of_length_le]] at hT9
   have hjl := join_len _ hwl
   have hln := hT9.o.len
   have hNL : ¬ (9223372036854775807 < (Lib.join (wordsS ⟨5, names, 0, vers, false, 0⟩) [32]).length + 1) := by omega
   have HJ := hid (join_any _ _ _ _ _ (hT9.o.row (by omega)) (by omega) hwl (by omega))
   have HT9 := hid hT9
   clear hwl hjl hln hT9
   refine HJ.out.mono ?_
   rintro e w9 ⟨rfl, hb9⟩
   have HB9 := hid (HT9.out.b.trans (hb9.mono HT9.out.b.size))
   clear hb9 HJ
   go_wp2_with fail
   go_ret2
   exact ⟨congrArg (fun s => Ending.returned (.tuple #[.string s, .int .i64 0])) (cat2 _ _), HB9.out⟩
theorem text_k5b (nb no : Nat) (nc : Nat) (hnc : 1 < nc) (va : Option Addr) (vc : Nat) (names : List Bs) (vers : List To) (w : World) (hl : LineW w (some ⟨nb, no, none⟩) 1 nc va 0 vc names vers) :
   Calls Tryz.prog 15 #[valLn ⟨5, (some ⟨nb, no, none⟩), 1, nc, 0, va, 0, vc, false, 0⟩] w (Ret2 (.string ⟨(textS ⟨5, names, 0, vers, false, 0⟩).toArray⟩) (.int .i64 0) w) := by
 have HL := hid hl
 have hf := hl.g.2.1 5 (by decide)
 have hf1 := hf.1; have hf2 := hf.2.1; have hf3 := hf.2.2
 simp only [formV, formN, formR] at hf1 hf2 hf3
 have hb0 := cell_lt hf1
 simp only at hb0
 obtain ⟨i, z, hi, hz, hsize, hby', hzs⟩ := partsStr
 have HI := hid (⟨hi, hz, hsize, hby', hzs⟩ : _ ∧ _ ∧ _ ∧ _ ∧ _)
 have HB0 := hid (belowA (Below.refl w.heap.size w) (.cells #[.int .i64 5, .slice (some ⟨nb, no, none⟩) 1 nc, .int .i64 0, .slice va 0 vc, .bool false, .int .i64 0] 28))
 have HX0 := hid (Bx.new w #[.int .i64 5, .slice (some ⟨nb, no, none⟩) 1 nc, .int .i64 0, .slice va 0 vc, .bool false, .int .i64 0] 28)
 have hle := hl.rn.le; have hcap := hl.rn.cap; have hlen := hl.rn.len
 have hcapI : ((1 : Int) ≤ (nc : Int)) := by omega
 have hcapE : ¬ (nc = 1) := by omega
 have HF := hid (⟨hf1, hf2, hf3⟩ : _ ∧ _ ∧ _)
 clear hl hf hf1 hf2 hf3 hi hz hsize hby' hzs
 go_enter Tryz.func15, Tryz.ntmps15
 go_wp2_with fail
 refine (check_k5 (some ⟨nb, no, none⟩) nc va vc names vers _ (HL.out.below HB0.out)).mono ?_
 rintro e w1 ⟨rfl, hb1⟩
 have hx1 := HX0.out.keep hb1
 have HB1 := hid (HB0.out.trans (hb1.mono HB0.out.size)); have HX1 := hid hx1
 have hcx1 := hx1.1
 have hf1 := bget HB1.out rfl HF.out.1; have hf2 := bget HB1.out rfl HF.out.2.1; have hf3 := bget HB1.out rfl HF.out.2.2
 have hlt := HB1.out.size
 have hlx := hx1.2.2
 have hb0' : 0 < w1.heap.size := Nat.lt_of_lt_of_le hb0 HB1.out.size
 clear hb1 hx1
 go_wp2_with fail
 have HY := hid (Bx.new w1 #[.string ⟨#[99, 111, 109, 109, 105, 116]⟩, .int .i64 1, .int .i32 0] 76)
 have HOW0 : Hid (Own ((w1.alloc (.cells #[.string ⟨#[99, 111, 109, 109, 105, 116]⟩, .int .i64 1, .int .i32 0] 76)).drew.alloc (.cells #[.string ⟨#[99, 111, 109, 109, 105, 116]⟩] 9)) (w1.heap.size + 1) 9 1 encStr (.slice (some ⟨w1.heap.size + 1, 0, none⟩) 1 1) [formV 5]) := hid (Own.strs (X := (w1.alloc (.cells #[.string ⟨#[99, 111, 109, 109, 105, 116]⟩, .int .i64 1, .int .i32 0] 76)).drew) (by simp) [formV 5] (by simp [maxLen]))
 have HBS := hid (belowA (belowA (Below.refl w1.heap.size w1) (.cells #[.string ⟨#[99, 111, 109, 109, 105, 116]⟩, .int .i64 1, .int .i32 0] 76)).drew (.cells #[.string ⟨#[99, 111, 109, 109, 105, 116]⟩] 9))
 have HR0 := hid (((HL.out.below HB1.out).rn.below HBS.out rfl).takeN (m := 1) (c' := nc) (by omega) (by omega))
 have HLO : Hid (w1.heap.size + 1 ≤ ((w1.alloc (.cells #[.string ⟨#[99, 111, 109, 109, 105, 116]⟩, .int .i64 1, .int .i32 0] 76)).drew.alloc (.cells #[.string ⟨#[99, 111, 109, 109, 105, 116]⟩] 9)).heap.size) := hid (by simp)
 have HXY := hid (HX1.out.alloc (.cells #[.string ⟨#[99, 111, 109, 109, 105, 116]⟩, .int .i64 1, .int .i32 0] 76))
 refine wp_region_ordC 9 [(0, 0), (1, 0), (3, 0), (4, 0), (5, 0), (6, 0), (7, 0), (2, 2), (8, 2), (9, 1)] (fun _ => True) (fun W' => W'.cell? ⟨w.heap.size, 1, none⟩ = some (.slice (some ⟨nb, no, none⟩) 1 nc) ∧ W'.cell? ⟨w1.heap.size, 0, none⟩ = some (.string ⟨#[99, 111, 109, 109, 105, 116]⟩) ∧ W'.cell? ⟨w1.heap.size, 1, none⟩ = some (.int .i64 1)) (by kernel_rfl) (by kernel_rfl) (trivial) (⟨HXY.out.drew.1 1, HY.out.drew.1 0, HY.out.drew.1 1⟩) ?_
 repeat ((first | refine ordC_skip rfl rfl ?_ | refine ordC_skip1 rfl rfl ?_ | ((first | refine ordC_q rfl rfl ?_ | refine ordC_p rfl rfl ?_); apply Exists.intro; refine ⟨fun wS hS => ?_, ?_⟩; (go_simp; try with_reducible rfl))); simp only [Act.put, List.setIfInBounds_toArray, List.set_cons_zero, List.set_cons_succ])
 refine ordC_l rfl rfl (fun K hK => ?_)
 go_simp
 refine hK _ _ ⟨trivial, (HXY.out.drew.alloc _).1 1, (HY.out.drew.alloc _).1 0, (HY.out.drew.alloc _).1 1⟩ ?_
 clear hK K
 refine ordC_l rfl rfl (fun K hK => ?_)
 refine wp_app _ _ 25 rfl i z 16 Tryz.underlying25 HI.out.1 HI.out.2.1 HI.out.2.2.1 HI.out.2.2.2.1 HI.out.2.2.2.2 (v := .slice (some ⟨w1.heap.size + 1, 0, none⟩) 1 1) rfl HOW0.out (some ⟨nb, no, none⟩) 1 nc 2 (names.take 1) rfl HR0.out rfl (by omega) (by simp [maxLen]) HLO.out ?_
 intro a2 c2 w2 hown2 hg2 hat2
 have hx2 : Bx w2 w.heap.size #[.int .i64 5, .slice (some ⟨nb, no, none⟩) 1 nc, .int .i64 0, .slice va 0 vc, .bool false, .int .i64 0] := (HXY.out.drew.alloc _).grown hg2 (HOW0.out.far' (.inl (by omega)))
 have hy2 : Bx w2 w1.heap.size #[.string ⟨#[99, 111, 109, 109, 105, 116]⟩, .int .i64 1, .int .i32 0] := (HY.out.drew.alloc _).grown hg2 (HOW0.out.far' (.inl (by omega)))
 refine hK _ _ ⟨trivial, hx2.1 1, hy2.1 0, hy2.1 1⟩ ?_
 have hcx2 := hx2.1; have hcy2 := hy2.1
 have HT2 : Hid (TextAt w w1 #[.int .i64 5, .slice (some ⟨nb, no, none⟩) 1 nc, .int .i64 0, .slice va 0 vc, .bool false, .int .i64 0] #[.string ⟨#[99, 111, 109, 109, 105, 116]⟩, .int .i64 1, .int .i32 0] w2 a2 2 c2 ([formV 5] ++ names.take 1)) := hid ⟨hx2, hy2, hown2, HB1.out.trans ((below_app (((HBS.out.mono hlt))) HOW0.out (by omega) (by have := HLO.out; omega) hg2)), by have := hg2.size; have := HLO.out; omega⟩
 clear hK K hown2 hg2 hat2 hx2 hy2
 repeat ((first | refine ordC_skip rfl rfl ?_ | refine ordC_skip1 rfl rfl ?_ | ((first | refine ordC_q rfl rfl ?_ | refine ordC_p rfl rfl ?_); apply Exists.intro; refine ⟨fun wS hS => ?_, ?_⟩; (go_simp; try with_reducible rfl))); simp only [Act.put, List.setIfInBounds_toArray, List.set_cons_zero, List.set_cons_succ])
 refine ordC_nil ?_
 go_wp2_with fail
 go_loopw [6, 91] (fun v i wr => v = .slice a2 2 c2 ∧ i = .int .i64 0 ∧ wr = w2) (fun _ _ _ => 0)
 case atStart => exact ⟨rfl, rfl, rfl⟩
 case round =>
   obtain ⟨rfl, rfl, rfl⟩ := hrel
   go_wp2_with fail
   have hwl : ∀ x ∈ (wordsS ⟨5, names, 0, vers, false, 0⟩), x.length ≤ 40 := words_len _ HL.out.wn HL.out.wv
   have hT9 := HT2.out
   rw [show [formV 5] ++ names.take 1 = wordsS ⟨5, names, 0, vers, false, 0⟩ from by simp [wordsS, formN, formR, List.drop_of_length_le, hlen, List.take_of_length_le]] at hT9
   have hjl := join_len _ hwl
   have hln := hT9.o.len
   have hNL : ¬ (9223372036854775807 < (Lib.join (wordsS ⟨5, names, 0, vers, false, 0⟩) [32]).length + 1) := by omega
   have HJ := hid (join_any _ _ _ _ _ (hT9.o.row (by omega)) (by omega) hwl (by omega))
   have HT9 := hid hT9
   clear hwl hjl hln hT9
   refine HJ.out.mono ?_
   rintro e w9 ⟨rfl, hb9⟩
   have HB9 := hid (HT9.out.b.trans (hb9.mono HT9.out.b.size))
   clear hb9 HJ
   go_wp2_with fail
   go_ret2
   exact ⟨congrArg (fun s => Ending.returned (.tuple #[.string s, .int .i64 0])) (cat2 _ _), HB9.out⟩
end Yd


namespace Yd
open Go Go.RowKit Go.Proofs
theorem check_k6 (na : Option Addr) (nc : Nat) (va : Option Addr) (vc : Nat) (names : List Bs) (vers : List To) (w : World) (hl : LineW w na 1 nc va 0 vc names vers) :
   Calls Tryz.prog 17 #[valLn ⟨6, na, 1, nc, 0, va, 0, vc, false, 0⟩] w (Ret (.int .i64 0) w) := by
 have HL := hid hl
 have hf := hl.g.2.1 6 (by decide)
 have hf1 := hf.1; have hf2 := hf.2.1; have hf3 := hf.2.2
 simp only [formV, formN, formR] at hf1 hf2 hf3
 have hb0 := cell_lt hf1
 simp only at hb0
 have HB0 := hid (belowA (belowA (Below.refl w.heap.size w) (.cells #[.int .i64 6, .slice na 1 nc, .int .i64 0, .slice va 0 vc, .bool false, .int .i64 0] 28)) (.cells #[.string ⟨#[97, 98, 111, 114, 116]⟩, .int .i64 1, .int .i32 0] 76))
 have HX0 := hid ((Bx.new w #[.int .i64 6, .slice na 1 nc, .int .i64 0, .slice va 0 vc, .bool false, .int .i64 0] 28).alloc (.cells #[.string ⟨#[97, 98, 111, 114, 116]⟩, .int .i64 1, .int .i32 0] 76))
 have HY0 : Hid (Bx ((w.alloc (.cells #[.int .i64 6, .slice na 1 nc, .int .i64 0, .slice va 0 vc, .bool false, .int .i64 0] 28)).alloc (.cells #[.string ⟨#[97, 98, 111, 114, 116]⟩, .int .i64 1, .int .i32 0] 76)) (w.heap.size + 1) #[.string ⟨#[97, 98, 111, 114, 116]⟩, .int .i64 1, .int .i32 0]) := hid (Bx.new1 (by simp))
 clear hl hf
 go_enter Tryz.func17, Tryz.ntmps17
 go_wp2_with fail
 refine (most_any _ _).mono ?_
 rintro e w1 ⟨rfl, hb1⟩
 have hy1 := HX0.out.keep hb1; have hz1 := HY0.out.keep hb1
 have HX1 := hid hy1; have HY1 := hid hz1; have HB1 := hid (HB0.out.trans (hb1.mono HB0.out.size))
 have hcx1 := hy1.1; have hcy1 := hz1.1
 clear hb1 hy1 hz1
 simp only [mostR, Int.reduceEq, if_false]
 go_wp2_with fail
 refine (HL.out.below HB1.out).vers.mono ?_
 rintro e w2 ⟨rfl, hb2⟩
 have hy2 := HX1.out.keep hb2; have hz2 := HY1.out.keep hb2
 have HX2 := hid hy2; have HY2 := hid hz2; have HB2 := hid (HB1.out.trans (hb2.mono HB1.out.size))
 have hcx2 := hy2.1; have hcy2 := hz2.1
 clear hb2 hy2 hz2
 go_wp2_with fail
 refine (HL.out.below HB2.out).names.mono ?_
 rintro e w3 ⟨rfl, hb3⟩
 have hy3 := HX2.out.keep hb3; have hz3 := HY2.out.keep hb3
 have HX3 := hid hy3; have HY3 := hid hz3; have HB3 := hid (HB2.out.trans (hb3.mono HB2.out.size))
 have hcx3 := hy3.1; have hcy3 := hz3.1
 clear hb3 hy3 hz3
 go_wp2_with fail
 refine (level_no _).mono ?_
 rintro e w4 ⟨rfl, hb4⟩
 have hy4 := HX3.out.keep hb4; have hz4 := HY3.out.keep hb4
 have HX4 := hid hy4; have HY4 := hid hz4; have HB4 := hid (HB3.out.trans (hb4.mono HB3.out.size))
 have hcx4 := hy4.1; have hcy4 := hz4.1
 clear hb4 hy4 hz4
 go_wp2_with fail
 go_ret
 exact ⟨rfl, HB4.out⟩
end Yd


namespace Yd
open Go Go.RowKit Go.Proofs
theorem text_k6a (nb no : Nat) (va : Option Addr) (vc : Nat) (names : List Bs) (vers : List To) (w : World) (hl : LineW w (some ⟨nb, no, none⟩) 1 1 va 0 vc names vers) :
   Calls Tryz.prog 15 #[valLn ⟨6, (some ⟨nb, no, none⟩), 1, 1, 0, va, 0, vc, false, 0⟩] w (Ret2 (.string ⟨(textS ⟨6, names, 0, vers, false, 0⟩).toArray⟩) (.int .i64 0) w) := by
 have HL := hid hl
 have hf := hl.g.2.1 6 (by decide)
 have hf1 := hf.1; have hf2 := hf.2.1; have hf3 := hf.2.2
 simp only [formV, formN, formR] at hf1 hf2 hf3
 have hb0 := cell_lt hf1
 simp only at hb0
 obtain ⟨i, z, hi, hz, hsize, hby', hzs⟩ := partsStr
 have HI := hid (⟨hi, hz, hsize, hby', hzs⟩ : _ ∧ _ ∧ _ ∧ _ ∧ _)
 have HB0 := hid (belowA (Below.refl w.heap.size w) (.cells #[.int .i64 6, .slice (some ⟨nb, no, none⟩) 1 1, .int .i64 0, .slice va 0 vc, .bool false, .int .i64 0] 28))
 have HX0 := hid (Bx.new w #[.int .i64 6, .slice (some ⟨nb, no, none⟩) 1 1, .int .i64 0, .slice va 0 vc, .bool false, .int .i64 0] 28)
 have hle := hl.rn.le; have hcap := hl.rn.cap; have hlen := hl.rn.len
 have HF := hid (⟨hf1, hf2, hf3⟩ : _ ∧ _ ∧ _)
 clear hl hf hf1 hf2 hf3 hi hz hsize hby' hzs
 go_enter Tryz.func15, Tryz.ntmps15
 go_wp2_with fail
 refine (check_k6 (some ⟨nb, no, none⟩) 1 va vc names vers _ (HL.out.below HB0.out)).mono ?_
 rintro e w1 ⟨rfl, hb1⟩
 have hx1 := HX0.out.keep hb1
 have HB1 := hid (HB0.out.trans (hb1.mono HB0.out.size)); have HX1 := hid hx1
 have hcx1 := hx1.1
 have hf1 := bget HB1.out rfl HF.out.1; have hf2 := bget HB1.out rfl HF.out.2.1; have hf3 := bget HB1.out rfl HF.out.2.2
 have hlt := HB1.out.size
 have hlx := hx1.2.2
 have hb0' : 0 < w1.heap.size := Nat.lt_of_lt_of_le hb0 HB1.out.size
 clear hb1 hx1
 go_wp2_with fail
 have HY := hid (Bx.new w1 #[.string ⟨#[97, 98, 111, 114, 116]⟩, .int .i64 1, .int .i32 0] 76)
 have HOW0 : Hid (Own ((w1.alloc (.cells #[.string ⟨#[97, 98, 111, 114, 116]⟩, .int .i64 1, .int .i32 0] 76)).drew.alloc (.cells #[.string ⟨#[97, 98, 111, 114, 116]⟩] 9)) (w1.heap.size + 1) 9 1 encStr (.slice (some ⟨w1.heap.size + 1, 0, none⟩) 1 1) [formV 6]) := hid (Own.strs (X := (w1.alloc (.cells #[.string ⟨#[97, 98, 111, 114, 116]⟩, .int .i64 1, .int .i32 0] 76)).drew) (by simp) [formV 6] (by simp [maxLen]))
 have HBS := hid (belowA (belowA (Below.refl w1.heap.size w1) (.cells #[.string ⟨#[97, 98, 111, 114, 116]⟩, .int .i64 1, .int .i32 0] 76)).drew (.cells #[.string ⟨#[97, 98, 111, 114, 116]⟩] 9))
 have HR0 := hid (((HL.out.below HB1.out).rn.below HBS.out rfl).takeN (m := 1) (c' := 1) (by omega) (by omega))
 have HLO : Hid (w1.heap.size + 1 ≤ ((w1.alloc (.cells #[.string ⟨#[97, 98, 111, 114, 116]⟩, .int .i64 1, .int .i32 0] 76)).drew.alloc (.cells #[.string ⟨#[97, 98, 111, 114, 116]⟩] 9)).heap.size) := hid (by simp)
 have HXY := hid (HX1.out.alloc (.cells #[.string ⟨#[97, 98, 111, 114, 116]⟩, .int .i64 1, .int .i32 0] 76))
 refine wp_region_ordC 9 [(0, 0), (1, 0), (3, 0), (4, 0), (5, 0), (6, 0), (7, 0), (2, 2), (8, 2), (9, 1)] (fun _ => True) (fun W' => W'.cell? ⟨w.heap.size, 1, none⟩ = some (.slice (some ⟨nb, no, none⟩) 1 1) ∧ W'.cell? ⟨w1.heap.size, 0, none⟩ = some (.string ⟨#[97, 98, 111, 114, 116]⟩) ∧ W'.cell? ⟨w1.heap.size, 1, none⟩ = some (.int .i64 1)) (by kernel_rfl) (by kernel_rfl) (trivial) (⟨HXY.out.drew.1 1, HY.out.drew.1 0, HY.out.drew.1 1⟩) ?_
 repeat ((first | refine ordC_skip rfl rfl ?_ | refine ordC_skip1 rfl rfl ?_ | ((first | refine ordC_q rfl rfl ?_ | refine ordC_p rfl rfl ?_); apply Exists.intro; refine ⟨fun wS hS => ?_, ?_⟩; (go_simp; try with_reducible rfl))); simp only [Act.put, List.setIfInBounds_toArray, List.set_cons_zero, List.set_cons_succ])
 refine ordC_l rfl rfl (fun K hK => ?_)
 go_simp
 refine hK _ _ ⟨trivial, (HXY.out.drew.alloc _).1 1, (HY.out.drew.alloc _).1 0, (HY.out.drew.alloc _).1 1⟩ ?_
 clear hK K
 refine ordC_l rfl rfl (fun K hK => ?_)
 refine wp_app _ _ 25 rfl i z 16 Tryz.underlying25 HI.out.1 HI.out.2.1 HI.out.2.2.1 HI.out.2.2.2.1 HI.out.2.2.2.2 (v := .slice (some ⟨w1.heap.size + 1, 0, none⟩) 1 1) rfl HOW0.out (some ⟨nb, no, none⟩) 1 1 2 (names.take 1) rfl HR0.out rfl (by omega) (by simp [maxLen]) HLO.out ?_
 intro a2 c2 w2 hown2 hg2 hat2
 have hx2 : Bx w2 w.heap.size #[.int .i64 6, .slice (some ⟨nb, no, none⟩) 1 1, .int .i64 0, .slice va 0 vc, .bool false, .int .i64 0] := (HXY.out.drew.alloc _).grown hg2 (HOW0.out.far' (.inl (by omega)))
 have hy2 : Bx w2 w1.heap.size #[.string ⟨#[97, 98, 111, 114, 116]⟩, .int .i64 1, .int .i32 0] := (HY.out.drew.alloc _).grown hg2 (HOW0.out.far' (.inl (by omega)))
 refine hK _ _ ⟨trivial, hx2.1 1, hy2.1 0, hy2.1 1⟩ ?_
 have hcx2 := hx2.1; have hcy2 := hy2.1
 have HT2 : Hid (TextAt w w1 #[.int .i64 6, .slice (some ⟨nb, no, none⟩) 1 1, .int .i64 0, .slice va 0 vc, .bool false, .int .i64 0] #[.string ⟨#[97, 98, 111, 114, 116]⟩, .int .i64 1, .int .i32 0] w2 a2 2 c2 ([formV 6] ++ names.take 1)) := hid ⟨hx2, hy2, hown2, HB1.out.trans ((below_app (((HBS.out.mono hlt))) HOW0.out (by omega) (by have := HLO.out; omega) hg2)), by have := hg2.size; have := HLO.out; omega⟩
 clear hK K hown2 hg2 hat2 hx2 hy2
 repeat ((first | refine ordC_skip rfl rfl ?_ | refine ordC_skip1 rfl rfl ?_ | ((first | refine ordC_q rfl rfl ?_ | refine ordC_p rfl rfl ?_); apply Exists.intro; refine ⟨fun wS hS => ?_, ?_⟩; (go_simp; try with_reducible rfl))); simp only [Act.put, List.setIfInBounds_toArray, List.set_cons_zero, List.set_cons_succ])
 refine ordC_nil ?_
 go_wp2_with fail
 go_loopw [6, 91] (fun v i wr => v = .slice a2 2 c2 ∧ i = .int .i64 0 ∧ wr = w2) (fun _ _ _ => 0)
 case atStart => exact ⟨rfl, rfl, rfl⟩
 case round =>
   obtain ⟨rfl, rfl, rfl⟩ := hrel
   go_wp2_with fail
   have hwl : ∀ x ∈ (wordsS ⟨6, names, 0, vers, false, 0⟩), x.length ≤ 40 := words_len _ HL.out.wn HL.out.wv
   have hT9 := HT2.out
   rw [show [formV 6] ++ names.take 1 = wordsS ⟨6, names, 0, vers, false, 0⟩ from by simp [wordsS, formN, formR, List.drop_of_length_le, hlen, List.take_of_length_le]] at hT9
   have hjl := join_len _ hwl
   have hln := hT9.o.len
   have hNL : ¬ (9223372036854775807 < (Lib.join (wordsS ⟨6, names, 0, vers, false, 0⟩) [32]).length + 1) := by omega
   have HJ := hid (join_any _ _ _ _ _ (hT9.o.row (by omega)) (by omega) hwl (by omega))
   have HT9 := hid hT9
   clear hwl hjl hln hT9
   refine HJ.out.mono ?_
   rintro e w9 ⟨rfl, hb9⟩
   have HB9 := hid (HT9.out.b.trans (hb9.mono HT9.out.b.size))
   clear hb9 HJ
   go_wp2_with fail
   go_ret2
   exact ⟨congrArg (fun s => Ending.returned (.tuple #[.string s, .int .i64 0])) (cat2 _ _), HB9.out⟩
theorem text_k6b (nb no : Nat) (nc : Nat) (hnc : 1 < nc) (va : Option Addr) (vc : Nat) (names : List Bs) (vers : List To) (w : World) (hl : LineW w (some ⟨nb, no, none⟩) 1 nc va 0 vc names vers) :
   Calls Tryz.prog 15 #[valLn ⟨6, (some ⟨nb, no, none⟩), 1, nc, 0, va, 0, vc, false, 0⟩] w (Ret2 (.string ⟨(textS ⟨6, names, 0, vers, false, 0⟩).toArray⟩) (.int .i64 0) w) := by
 have HL := hid hl
 have hf := hl.g.2.1 6 (by decide)
 have hf1 := hf.1; have hf2 := hf.2.1; have hf3 := hf.2.2
 simp only [formV, formN, formR] at hf1 hf2 hf3
 have hb0 := cell_lt hf1
 simp only at hb0
 obtain ⟨i, z, hi, hz, hsize, hby', hzs⟩ := partsStr
 have HI := hid (⟨hi, hz, hsize, hby', hzs⟩ : _ ∧ _ ∧ _ ∧ _ ∧ _)
 have HB0 := hid (belowA (Below.refl w.heap.size w) (.cells #[.int .i64 6, .slice (some ⟨nb, no, none⟩) 1 nc, .int .i64 0, .slice va 0 vc, .bool false, .int .i64 0] 28))
 have HX0 := hid (Bx.new w #[.int .i64 6, .slice (some ⟨nb, no, none⟩) 1 nc, .int .i64 0, .slice va 0 vc, .bool false, .int .i64 0] 28)
 have hle := hl.rn.le; have hcap := hl.rn.cap; have hlen := hl.rn.len
 have hcapI : ((1 : Int) ≤ (nc : Int)) := by omega
 have hcapE : ¬ (nc = 1) := by omega
 have HF := hid (⟨hf1, hf2, hf3⟩ : _ ∧ _ ∧ _)
 clear hl hf hf1 hf2 hf3 hi hz hsize hby' hzs
 go_enter Tryz.func15, Tryz.ntmps15
 go_wp2_with fail
 refine (check_k6 (some ⟨nb, no, none⟩) nc va vc names vers _ (HL.out.below HB0.out)).mono ?_
 rintro e w1 ⟨rfl, hb1⟩
 have hx1 := HX0.out.keep hb1
 have HB1 := hid (HB0.out.trans (hb1.mono HB0.out.size)); have HX1 := hid hx1
 have hcx1 := hx1.1
 have hf1 := bget HB1.out rfl HF.out.1; have hf2 := bget HB1.out rfl HF.out.2.1; have hf3 := bget HB1.out rfl HF.out.2.2
 have hlt := HB1.out.size
 have hlx := hx1.2.2
 have hb0' : 0 < w1.heap.size := Nat.lt_of_lt_of_le hb0 HB1.out.size
 clear hb1 hx1
 go_wp2_with fail
 have HY := hid (Bx.new w1 #[.string ⟨#[97, 98, 111, 114, 116]⟩, .int .i64 1, .int .i32 0] 76)
 have HOW0 : Hid (Own ((w1.alloc (.cells #[.string ⟨#[97, 98, 111, 114, 116]⟩, .int .i64 1, .int .i32 0] 76)).drew.alloc (.cells #[.string ⟨#[97, 98, 111, 114, 116]⟩] 9)) (w1.heap.size + 1) 9 1 encStr (.slice (some ⟨w1.heap.size + 1, 0, none⟩) 1 1) [formV 6]) := hid (Own.strs (X := (w1.alloc (.cells #[.string ⟨#[97, 98, 111, 114, 116]⟩, .int .i64 1, .int .i32 0] 76)).drew) (by simp) [formV 6] (by simp [maxLen]))
 have HBS := hid (belowA (belowA (Below.refl w1.heap.size w1) (.cells #[.string ⟨#[97, 98, 111, 114, 116]⟩, .int .i64 1, .int .i32 0] 76)).drew (.cells #[.string ⟨#[97, 98, 111, 114, 116]⟩] 9))
 have HR0 := hid (((HL.out.below HB1.out).rn.below HBS.out rfl).takeN (m := 1) (c' := nc) (by omega) (by omega))
 have HLO : Hid (w1.heap.size + 1 ≤ ((w1.alloc (.cells #[.string ⟨#[97, 98, 111, 114, 116]⟩, .int .i64 1, .int .i32 0] 76)).drew.alloc (.cells #[.string ⟨#[97, 98, 111, 114, 116]⟩] 9)).heap.size) := hid (by simp)
 have HXY := hid (HX1.out.alloc (.cells #[.string ⟨#[97, 98, 111, 114, 116]⟩, .int .i64 1, .int .i32 0] 76))
 refine wp_region_ordC 9 [(0, 0), (1, 0), (3, 0), (4, 0), (5, 0), (6, 0), (7, 0), (2, 2), (8, 2), (9, 1)] (fun _ => True) (fun W' => W'.cell? ⟨w.heap.size, 1, none⟩ = some (.slice (some ⟨nb, no, none⟩) 1 nc) ∧ W'.cell? ⟨w1.heap.size, 0, none⟩ = some (.string ⟨#[97, 98, 111, 114, 116]⟩) ∧ W'.cell? ⟨w1.heap.size, 1, none⟩ = some (.int .i64 1)) (by kernel_rfl) (by kernel_rfl) (trivial) (⟨HXY.out.drew.1 1, HY.out.drew.1 0, HY.out.drew.1 1⟩) ?_
 repeat ((first | refine ordC_skip rfl rfl ?_ | refine ordC_skip1 rfl rfl ?_ | ((first | refine ordC_q rfl rfl ?_ | refine ordC_p rfl rfl ?_); apply Exists.intro; refine ⟨fun wS hS => ?_, ?_⟩; (go_simp; try with_reducible rfl))); simp only [Act.put, List.setIfInBounds_toArray, List.set_cons_zero, List.set_cons_succ])
 refine ordC_l rfl rfl (fun K hK => ?_)
 go_simp
 refine hK _ _ ⟨trivial, (HXY.out.drew.alloc _).1 1, (HY.out.drew.alloc _).1 0, (HY.out.drew.alloc _).1 1⟩ ?_
 clear hK K
 refine ordC_l rfl rfl (fun K hK => ?_)
 refine wp_app _ _ 25 rfl i z 16 Tryz.underlying25 HI.out.1 HI.out.2.1 HI.out.2.2.1 HI.out.2.2.2.1 HI.out.2.2.2.2 (v := .slice (some ⟨w1.heap.size + 1, 0, none⟩) 1 1) rfl HOW0.out (some ⟨nb, no, none⟩) 1 nc 2 (names.take 1) rfl HR0.out rfl (by omega) (by simp [maxLen]) HLO.out ?_
 intro a2 c2 w2 hown2 hg2 hat2
 have hx2 : Bx w2 w.heap.size #[.int .i64 6, .slice (some ⟨nb, no, none⟩) 1 nc, .int .i64 0, .slice va 0 vc, .bool false, .int .i64 0] := (HXY.out.drew.alloc _).grown hg2 (HOW0.out.far' (.inl (by omega)))
 have hy2 : Bx w2 w1.heap.size #[.string ⟨#[97, 98, 111, 114, 116]⟩, .int .i64 1, .int .i32 0] := (HY.out.drew.alloc _).grown hg2 (HOW0.out.far' (.inl (by omega)))
 refine hK _ _ ⟨trivial, hx2.1 1, hy2.1 0, hy2.1 1⟩ ?_
 have hcx2 := hx2.1; have hcy2 := hy2.1
 have HT2 : Hid (TextAt w w1 #[.int .i64 6, .slice (some ⟨nb, no, none⟩) 1 nc, .int .i64 0, .slice va 0 vc, .bool false, .int .i64 0] #[.string ⟨#[97, 98, 111, 114, 116]⟩, .int .i64 1, .int .i32 0] w2 a2 2 c2 ([formV 6] ++ names.take 1)) := hid ⟨hx2, hy2, hown2, HB1.out.trans ((below_app (((HBS.out.mono hlt))) HOW0.out (by omega) (by have := HLO.out; omega) hg2)), by have := hg2.size; have := HLO.out; omega⟩
 clear hK K hown2 hg2 hat2 hx2 hy2
 repeat ((first | refine ordC_skip rfl rfl ?_ | refine ordC_skip1 rfl rfl ?_ | ((first | refine ordC_q rfl rfl ?_ | refine ordC_p rfl rfl ?_); apply Exists.intro; refine ⟨fun wS hS => ?_, ?_⟩; (go_simp; try with_reducible rfl))); simp only [Act.put, List.setIfInBounds_toArray, List.set_cons_zero, List.set_cons_succ])
 refine ordC_nil ?_
 go_wp2_with fail
 go_loopw [6, 91] (fun v i wr => v = .slice a2 2 c2 ∧ i = .int .i64 0 ∧ wr = w2) (fun _ _ _ => 0)
 case atStart => exact ⟨rfl, rfl, rfl⟩
 case round =>
   obtain ⟨rfl, rfl, rfl⟩ := hrel
   go_wp2_with fail
   have hwl : ∀ x ∈ (wordsS ⟨6, names, 0, vers, false, 0⟩), x.length ≤ 40 := words_len _ HL.out.wn HL.out.wv
   have hT9 := HT2.out
   rw [show [formV 6] ++ names.take 1 = wordsS ⟨6, names, 0, vers, false, 0⟩ from by simp [wordsS, formN, formR, List.drop_of_length_le, hlen, List.take_of_length_le]] at hT9
   have hjl := join_len _ hwl
   have hln := hT9.o.len
   have hNL : ¬ (9223372036854775807 < (Lib.join (wordsS ⟨6, names, 0, vers, false, 0⟩) [32]).length + 1) := by omega
   have HJ := hid (join_any _ _ _ _ _ (hT9.o.row (by omega)) (by omega) hwl (by omega))
   have HT9 := hid hT9
   clear hwl hjl hln hT9
   refine HJ.out.mono ?_
   rintro e w9 ⟨rfl, hb9⟩
   have HB9 := hid (HT9.out.b.trans (hb9.mono HT9.out.b.size))
   clear hb9 HJ
   go_wp2_with fail
   go_ret2
   exact ⟨congrArg (fun s => Ending.returned (.tuple #[.string s, .int .i64 0])) (cat2 _ _), HB9.out⟩
end Yd
