import Derived.Test.YthdpangjphphjaaGreatDoorDigit
import Derived.Test.YthdpangjphphjaaGreatDoorProg
set_option maxRecDepth 200000
set_option maxHeartbeats 8000000
namespace Yd
open Go Go.RowKit Go.Proofs
theorem check_k9 (na : Option Addr) (nc : Nat) (va : Option Addr) (vc : Nat) (bt : Nat) (h0 : 0 < bt) (h1 : bt ≤ 15) (names : List Bs) (vers : List To) (w : World) (hl : LineW w na 1 nc va 0 vc names vers) :
   Calls Tryz.prog 17 #[valLn ⟨9, na, 1, nc, 0, va, 0, vc, false, bt⟩] w (Ret (.int .i64 0) w) := by
 have HL := hid hl
 have hf := hl.g.2.1 9 (by decide)
 have hf1 := hf.1; have hf2 := hf.2.1; have hf3 := hf.2.2
 simp only [formV, formN, formR] at hf1 hf2 hf3
 have hb0 := cell_lt hf1
 simp only at hb0
 have HB0 := hid (belowA (belowA (Below.refl w.heap.size w) (.cells #[.int .i64 9, .slice na 1 nc, .int .i64 0, .slice va 0 vc, .bool false, .int .i64 bt] 28)) (.cells #[.string ⟨#[119, 97, 110, 116]⟩, .int .i64 1, .int .i32 103] 76))
 have HX0 := hid ((Bx.new w #[.int .i64 9, .slice na 1 nc, .int .i64 0, .slice va 0 vc, .bool false, .int .i64 bt] 28).alloc (.cells #[.string ⟨#[119, 97, 110, 116]⟩, .int .i64 1, .int .i32 103] 76))
 have HY0 : Hid (Bx ((w.alloc (.cells #[.int .i64 9, .slice na 1 nc, .int .i64 0, .slice va 0 vc, .bool false, .int .i64 bt] 28)).alloc (.cells #[.string ⟨#[119, 97, 110, 116]⟩, .int .i64 1, .int .i32 103] 76)) (w.heap.size + 1) #[.string ⟨#[119, 97, 110, 116]⟩, .int .i64 1, .int .i32 103]) := hid (Bx.new1 (by simp))
 have hb1 : ((bt : Int) == 0) = false := beq_eq_false_iff_ne.2 (by omega)
 clear hl hf
 go_enter Tryz.func17, Tryz.ntmps17
 go_wp2_with fail
 refine (most_any _ _).mono ?_
 rintro e w1 ⟨rfl, hb1⟩
 have hy1 := HX0.out.keep hb1; have hz1 := HY0.out.keep hb1
 have HX1 := hid hy1; have HY1 := hid hz1; have HB1 := hid (HB0.out.trans (hb1.mono HB0.out.size))
 have hcx1 := hy1.1; have hcy1 := hz1.1
 clear hb1 hy1 hz1
 simp only [mostR, Int.reduceEq, if_false]
 go_wp2_with fail
 refine (HL.out.below HB1.out).vers.mono ?_
 rintro e w2 ⟨rfl, hb2⟩
 have hy2 := HX1.out.keep hb2; have hz2 := HY1.out.keep hb2
 have HX2 := hid hy2; have HY2 := hid hz2; have HB2 := hid (HB1.out.trans (hb2.mono HB1.out.size))
 have hcx2 := hy2.1; have hcy2 := hz2.1
 clear hb2 hy2 hz2
 go_wp2_with fail
 refine (HL.out.below HB2.out).names.mono ?_
 rintro e w3 ⟨rfl, hb3⟩
 have hy3 := HX2.out.keep hb3; have hz3 := HY2.out.keep hb3
 have HX3 := hid hy3; have HY3 := hid hz3; have HB3 := hid (HB2.out.trans (hb3.mono HB2.out.size))
 have hcx3 := hy3.1; have hcy3 := hz3.1
 clear hb3 hy3 hz3
 go_wp2_with fail
 refine (level_no _).mono ?_
 rintro e w4 ⟨rfl, hb4⟩
 have hy4 := HX3.out.keep hb4; have hz4 := HY3.out.keep hb4
 have HX4 := hid hy4; have HY4 := hid hz4; have HB4 := hid (HB3.out.trans (hb4.mono HB3.out.size))
 have hcx4 := hy4.1; have hcy4 := hz4.1
 clear hb4 hy4 hz4
 go_wp2_with fail
 go_ret
 exact ⟨rfl, HB4.out⟩
theorem check_k11 (na : Option Addr) (nc : Nat) (va : Option Addr) (vc : Nat) (names : List Bs) (vers : List To) (w : World) (hl : LineW w na 1 nc va 0 vc names vers) :
   Calls Tryz.prog 17 #[valLn ⟨9, na, 1, nc, 0, va, 0, vc, false, 0⟩] w (Ret (.int .i64 0) w) := by
 have HL := hid hl
 have hf := hl.g.2.1 9 (by decide)
 have hf1 := hf.1; have hf2 := hf.2.1; have hf3 := hf.2.2
 simp only [formV, formN, formR] at hf1 hf2 hf3
 have hb0 := cell_lt hf1
 simp only at hb0
 have HB0 := hid (belowA (belowA (Below.refl w.heap.size w) (.cells #[.int .i64 9, .slice na 1 nc, .int .i64 0, .slice va 0 vc, .bool false, .int .i64 0] 28)) (.cells #[.string ⟨#[119, 97, 110, 116]⟩, .int .i64 1, .int .i32 103] 76))
 have HX0 := hid ((Bx.new w #[.int .i64 9, .slice na 1 nc, .int .i64 0, .slice va 0 vc, .bool false, .int .i64 0] 28).alloc (.cells #[.string ⟨#[119, 97, 110, 116]⟩, .int .i64 1, .int .i32 103] 76))
 have HY0 : Hid (Bx ((w.alloc (.cells #[.int .i64 9, .slice na 1 nc, .int .i64 0, .slice va 0 vc, .bool false, .int .i64 0] 28)).alloc (.cells #[.string ⟨#[119, 97, 110, 116]⟩, .int .i64 1, .int .i32 103] 76)) (w.heap.size + 1) #[.string ⟨#[119, 97, 110, 116]⟩, .int .i64 1, .int .i32 103]) := hid (Bx.new1 (by simp))
 clear hl hf
 go_enter Tryz.func17, Tryz.ntmps17
 go_wp2_with fail
 refine (most_any _ _).mono ?_
 rintro e w1 ⟨rfl, hb1⟩
 have hy1 := HX0.out.keep hb1; have hz1 := HY0.out.keep hb1
 have HX1 := hid hy1; have HY1 := hid hz1; have HB1 := hid (HB0.out.trans (hb1.mono HB0.out.size))
 have hcx1 := hy1.1; have hcy1 := hz1.1
 clear hb1 hy1 hz1
 simp only [mostR, Int.reduceEq, if_false]
 go_wp2_with fail
 refine (HL.out.below HB1.out).vers.mono ?_
 rintro e w2 ⟨rfl, hb2⟩
 have hy2 := HX1.out.keep hb2; have hz2 := HY1.out.keep hb2
 have HX2 := hid hy2; have HY2 := hid hz2; have HB2 := hid (HB1.out.trans (hb2.mono HB1.out.size))
 have hcx2 := hy2.1; have hcy2 := hz2.1
 clear hb2 hy2 hz2
 go_wp2_with fail
 refine (HL.out.below HB2.out).names.mono ?_
 rintro e w3 ⟨rfl, hb3⟩
 have hy3 := HX2.out.keep hb3; have hz3 := HY2.out.keep hb3
 have HX3 := hid hy3; have HY3 := hid hz3; have HB3 := hid (HB2.out.trans (hb3.mono HB2.out.size))
 have hcx3 := hy3.1; have hcy3 := hz3.1
 clear hb3 hy3 hz3
 go_wp2_with fail
 refine (level_no _).mono ?_
 rintro e w4 ⟨rfl, hb4⟩
 have hy4 := HX3.out.keep hb4; have hz4 := HY3.out.keep hb4
 have HX4 := hid hy4; have HY4 := hid hz4; have HB4 := hid (HB3.out.trans (hb4.mono HB3.out.size))
 have hcx4 := hy4.1; have hcy4 := hz4.1
 clear hb4 hy4 hz4
 go_wp2_with fail
 go_ret
 exact ⟨rfl, HB4.out⟩
end Yd
