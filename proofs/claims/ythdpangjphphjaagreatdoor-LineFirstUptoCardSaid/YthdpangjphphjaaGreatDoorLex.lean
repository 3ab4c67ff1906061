import Derived.Test.YthdpangjphphjaaGreatDoorRf
import Derived.Test.YthdpangjphphjaaGreatDoorProg
import Derived.BigQuiet
set_option maxRecDepth 200000
set_option maxHeartbeats 8000000
namespace Yd
open Go Go.RowKit Go.Proofs

def numB (r : Int) : Bool := decide (48 ≤ r) && decide (r ≤ 57)
theorem number_any (r : Int) (w : World) : Calls Tryz.prog 84 #[.int .i32 r] w (Ret (.bool (numB r)) w) := by
 by_cases h1 : 48 ≤ r
 · by_cases h2 : r ≤ 57
   · have hq : numB r = true := by simp [numB, h1, h2]
     rw [hq]; clear hq
     go_enter Tryz.func84, Tryz.ntmps84
     go_wp2_with fail
     go_ret
     exact ⟨rfl, Below.refl _ _⟩
   · have hq : numB r = false := by simp [numB, h2]
     rw [hq]; clear hq
     go_enter Tryz.func84, Tryz.ntmps84
     go_wp2_with fail
     go_ret
     exact ⟨rfl, Below.refl _ _⟩
 · have hq : numB r = false := by simp [numB, h1]
   rw [hq]; clear hq
   go_enter Tryz.func84, Tryz.ntmps84
   go_wp2_with fail
   go_ret
   exact ⟨rfl, Below.refl _ _⟩

def letB (r : Int) : Bool := decide (r = 95) || (decide (97 ≤ r) && decide (r ≤ 122)) || (decide (65 ≤ r) && decide (r ≤ 90)) || decide (128 ≤ r)
theorem letter_0 (r : Int) (w : World) (h0 : r = 95) (_h1 : ¬ 97 ≤ r) (_h2 : r ≤ 122) (_h3 : 65 ≤ r) (_h4 : ¬ r ≤ 90) (_h5 : ¬ 128 ≤ r) : Calls Tryz.prog 127 #[.int .i32 r] w (Ret (.bool true) w) := by
 skip
 go_enter Tryz.func127, Tryz.ntmps127
 go_wp2_with fail
 go_ret
 exact ⟨rfl, Below.refl _ _⟩

theorem letter_1 (r : Int) (w : World) (h0 : ¬ r = 95) (h1 : 97 ≤ r) (h2 : r ≤ 122) (_h3 : 65 ≤ r) (_h4 : ¬ r ≤ 90) (_h5 : ¬ 128 ≤ r) : Calls Tryz.prog 127 #[.int .i32 r] w (Ret (.bool true) w) := by
 have hb : (r == 95) = false := beq_eq_false_iff_ne.2 h0
 go_enter Tryz.func127, Tryz.ntmps127
 go_wp2_with fail
 go_ret
 exact ⟨rfl, Below.refl _ _⟩

theorem letter_2 (r : Int) (w : World) (h0 : ¬ r = 95) (h1 : 97 ≤ r) (h2 : ¬ r ≤ 122) (h3 : 65 ≤ r) (h4 : ¬ r ≤ 90) (h5 : ¬ 128 ≤ r) : Calls Tryz.prog 127 #[.int .i32 r] w (Ret (.bool false) w) := by
 have hb : (r == 95) = false := beq_eq_false_iff_ne.2 h0
 go_enter Tryz.func127, Tryz.ntmps127
 go_wp2_with fail
 go_ret
 exact ⟨rfl, Below.refl _ _⟩

theorem letter_3 (r : Int) (w : World) (h0 : ¬ r = 95) (h1 : 97 ≤ r) (h2 : ¬ r ≤ 122) (h3 : 65 ≤ r) (h4 : ¬ r ≤ 90) (h5 : 128 ≤ r) : Calls Tryz.prog 127 #[.int .i32 r] w (Ret (.bool true) w) := by
 have hb : (r == 95) = false := beq_eq_false_iff_ne.2 h0
 go_enter Tryz.func127, Tryz.ntmps127
 go_wp2_with fail
 go_ret
 exact ⟨rfl, Below.refl _ _⟩

theorem letter_4 (r : Int) (w : World) (h0 : ¬ r = 95) (h1 : ¬ 97 ≤ r) (_h2 : r ≤ 122) (h3 : 65 ≤ r) (h4 : r ≤ 90) (_h5 : ¬ 128 ≤ r) : Calls Tryz.prog 127 #[.int .i32 r] w (Ret (.bool true) w) := by
 have hb : (r == 95) = false := beq_eq_false_iff_ne.2 h0
 go_enter Tryz.func127, Tryz.ntmps127
 go_wp2_with fail
 go_ret
 exact ⟨rfl, Below.refl _ _⟩

theorem letter_5 (r : Int) (w : World) (h0 : ¬ r = 95) (h1 : ¬ 97 ≤ r) (_h2 : r ≤ 122) (h3 : 65 ≤ r) (h4 : ¬ r ≤ 90) (h5 : ¬ 128 ≤ r) : Calls Tryz.prog 127 #[.int .i32 r] w (Ret (.bool false) w) := by
 have hb : (r == 95) = false := beq_eq_false_iff_ne.2 h0
 go_enter Tryz.func127, Tryz.ntmps127
 go_wp2_with fail
 go_ret
 exact ⟨rfl, Below.refl _ _⟩

theorem letter_6 (r : Int) (w : World) (h0 : ¬ r = 95) (h1 : ¬ 97 ≤ r) (_h2 : r ≤ 122) (h3 : ¬ 65 ≤ r) (_h4 : r ≤ 90) (h5 : ¬ 128 ≤ r) : Calls Tryz.prog 127 #[.int .i32 r] w (Ret (.bool false) w) := by
 have hb : (r == 95) = false := beq_eq_false_iff_ne.2 h0
 go_enter Tryz.func127, Tryz.ntmps127
 go_wp2_with fail
 go_ret
 exact ⟨rfl, Below.refl _ _⟩

theorem letter_any (r : Int) (w : World) : Calls Tryz.prog 127 #[.int .i32 r] w (Ret (.bool (letB r)) w) := by
 by_cases h0 : r = 95
 · have hq : letB r = true := by simp [letB, h0]
   rw [hq]; exact letter_0 r w h0 (by omega) (by omega) (by omega) (by omega) (by omega)
 by_cases h1 : 97 ≤ r
 · by_cases h2 : r ≤ 122
   · have hq : letB r = true := by simp [letB, h1, h2]
     rw [hq]; exact letter_1 r w h0 h1 h2 (by omega) (by omega) (by omega)
   · by_cases h5 : 128 ≤ r
     · have hq : letB r = true := by simp [letB, h5]
       rw [hq]; exact letter_3 r w h0 h1 h2 (by omega) (by omega) h5
     · have hq : letB r = false := by simp [letB]; omega
       rw [hq]; exact letter_2 r w h0 h1 h2 (by omega) (by omega) h5
 · by_cases h3 : 65 ≤ r
   · by_cases h4 : r ≤ 90
     · have hq : letB r = true := by simp [letB, h3, h4]
       rw [hq]; exact letter_4 r w h0 h1 (by omega) h3 h4 (by omega)
     · have hq : letB r = false := by simp [letB]; omega
       rw [hq]; exact letter_5 r w h0 h1 (by omega) h3 h4 (by omega)
   · have hq : letB r = false := by simp [letB]; omega
     rw [hq]; exact letter_6 r w h0 h1 (by omega) h3 (by omega) (by omega)

def eitB (r : Int) : Bool := letB r || numB r
theorem either_any (r : Int) (w : World) : Calls Tryz.prog 87 #[.int .i32 r] w (Ret (.bool (eitB r)) w) := by
 cases hl : letB r
 all_goals
   have HL := hid hl; clear hl
   go_enter Tryz.func87, Tryz.ntmps87
   go_wp2_with fail
   refine (letter_any r w).mono ?_
   rintro e w1 ⟨rfl, hb1⟩
   rw [HL.out]
   have HB := hid hb1
   clear hb1
   go_wp2_with fail
 · refine (number_any r w1).mono ?_
   rintro e w2 ⟨rfl, hb2⟩
   go_wp2_with fail
   go_ret
   exact ⟨by simp [eitB, HL.out], HB.out.trans (hb2.mono HB.out.size)⟩
 · go_ret
   exact ⟨by simp [eitB, HL.out], HB.out⟩

end Yd
