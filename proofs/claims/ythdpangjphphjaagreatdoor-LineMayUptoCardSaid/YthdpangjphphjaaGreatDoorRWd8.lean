import Derived.Test.YthdpangjphphjaaGreatDoorRWd2
import Derived.Test.YthdpangjphphjaaGreatDoorProg
set_option maxRecDepth 200000
set_option maxHeartbeats 8000000
namespace Yd
open Go Go.RowKit Go.Proofs
attribute [local go_sem] Oper.semAt_some

theorem r_words_7 (na : Option Addr) (nc : Nat) (va : Option Addr) (vc : Nat) (cc : Nat) (hcc : cc ≤ 300) (names : List Bs) (vers : List To) (w : World) (hrn : Row w 1 encStr na (cc + 1) nc names) (hrv : Row w 2 encTo va 0 vc vers) (hwv : ∀ t ∈ vers, toOk t) :
   Calls Tryz.prog 47 #[valLn ⟨7, na, (cc + 1), nc, 0, va, 0, vc, false, 0⟩] w (RetOwn 9 1 encStr (wordsS ⟨7, names, 0, vers, false, 0⟩) w) := by
 obtain ⟨i, z, hi, hz, hsize, hby', hzs⟩ := partsStr
 have HI := hid (⟨hi, hz, hsize, hby', hzs⟩ : _ ∧ _ ∧ _ ∧ _ ∧ _)
 have HRN := hid hrn; have HRV := hid hrv; have HWV := hid hwv
 have HB0 := hid (belowA (Below.refl w.heap.size w) (.cells #[.int .i64 7, .slice na (cc + 1) nc, .int .i64 0, .slice va 0 vc, .bool false, .int .i64 0] 28))
 have HX0 := hid (Bx.new w #[.int .i64 7, .slice na (cc + 1) nc, .int .i64 0, .slice va 0 vc, .bool false, .int .i64 0] 28)
 have hle := hrn.le; have hcap := hrn.cap; have hlen := hrn.len
 have HLEN := hid hlen
 clear hi hz hsize hby' hzs hrn hrv hwv
 go_enter Tryz.func47, Tryz.ntmps47
 go_wp2_with fail
 refine wp_region_ordC 6 [(1, 0), (2, 0), (0, 2), (3, 0), (4, 2), (5, 2), (6, 1)] (fun _ => True) (fun W' => Bx W' w.heap.size #[.int .i64 7, .slice na (cc + 1) nc, .int .i64 0, .slice va 0 vc, .bool false, .int .i64 0]) (by kernel_rfl) (by kernel_rfl) (trivial) (HX0.out) ?_
 repeat ((first | refine ordC_skip rfl rfl ?_ | refine ordC_skip1 rfl rfl ?_ | ((first | refine ordC_q rfl rfl ?_ | refine ordC_p rfl rfl ?_); apply Exists.intro; refine ⟨fun wS hS => ?_, ?_⟩; (go_simp; try with_reducible rfl))); simp only [Act.put, List.setIfInBounds_toArray, List.set_cons_zero, List.set_cons_succ])
 refine ordC_l rfl rfl (fun K hK => ?_)
 go_simp
 refine (r_verbs _).mono ?_
 rintro e Y ⟨va1, vc1, rfl, hoY, hbY⟩
 have HXY := hid (HX0.out.drew.keep hbY)
 have HBY := hid (HB0.out.drew.trans (hbY.mono HB0.out.size))
 obtain ⟨g, cur, rfl, hbg, -, hvc, hBg, hcur⟩ := hoY.open_ (hc := cInsStr) (by decide)
 have hcw := (hbg.1 7).trans (by have := hcur 7 [111, 114, 100, 101, 114] 0 _ rfl rfl; simpa using this)
 have hgl := hbg.2.2
 refine hK _ _ ⟨trivial, HXY.out⟩ ?_
 clear hK K hbY hoY hbg hcur hBg
 repeat ((first | refine ordC_skip rfl rfl ?_ | refine ordC_skip1 rfl rfl ?_ | ((first | refine ordC_q rfl rfl ?_ | refine ordC_p rfl rfl ?_); apply Exists.intro; refine ⟨fun wS hS => ?_, ?_⟩; (go_simp; try with_reducible rfl))); simp only [Act.put, List.setIfInBounds_toArray, List.set_cons_zero, List.set_cons_succ])
 refine ordC_l rfl rfl (fun K hK => ?_)
 go_simp
 refine hK _ _ ⟨trivial, HXY.out⟩ ?_
 clear hK K hcw hgl hvc
 refine ordC_l rfl rfl (fun K hK => ?_)
 go_simp
 refine hK _ _ ⟨trivial, HXY.out.alloc _⟩ ?_
 clear hK K
 repeat ((first | refine ordC_skip rfl rfl ?_ | refine ordC_skip1 rfl rfl ?_ | ((first | refine ordC_q rfl rfl ?_ | refine ordC_p rfl rfl ?_); apply Exists.intro; refine ⟨fun wS hS => ?_, ?_⟩; (go_simp; try with_reducible rfl))); simp only [Act.put, List.setIfInBounds_toArray, List.set_cons_zero, List.set_cons_succ])
 refine ordC_nil ?_
 have HW1 : Hid (WsAt w (Y.alloc (.cells #[.string ⟨#[111, 114, 100, 101, 114]⟩] 9)) #[.int .i64 7, .slice na (cc + 1) nc, .int .i64 0, .slice va 0 vc, .bool false, .int .i64 0] (some ⟨Y.heap.size, 0, none⟩) 1 1 [formV 7]) := hid ⟨HXY.out.alloc _, (Own.strs (X := Y) rfl [formV 7] (by simp [maxLen])).mono (by have := HXY.out.2.2; omega), HBY.out.alloc HBY.out.size _, by have := HXY.out.2.2; simp; omega⟩
 have hcx := HW1.out.x.1; have hlx := HW1.out.x.2.2
 go_wp2_with fail
 clear hcx hlx
 go_loopw [3, 17] (fun v i wr => ∃ (k n : Nat) (a : Option Addr) (c : Nat) (ws : List Bs), k ≤ (cc + 1) ∧ i = .int .i64 k ∧ v = .slice a n c ∧ n ≤ 2 * k + 2 ∧ WsAt w wr #[.int .i64 7, .slice na (cc + 1) nc, .int .i64 0, .slice va 0 vc, .bool false, .int .i64 0] a n c ws ∧ ws = (fun k => formV 7 :: names.take k) k) (fun _ i _ => (cc + 1) - (RowKit.intOf i).toNat)
 case atStart => exact ⟨0, 1, _, _, _, Nat.zero_le _, rfl, rfl, by omega, HW1.out, rfl⟩
 case round =>
   obtain ⟨k, n, a, c, ws, hk, rfl, rfl, hn, hw, hws⟩ := hrel
   have HW2 := hid hw; have HWS := hid hws
   clear hw hws
   by_cases hlt : k < (cc + 1)
   · obtain ⟨x, b, o, hx, rfl, hc⟩ := (HRN.out.below HW2.out.b rfl).at_ hlt
     have hc0 := hc 0 _ rfl
     simp only [Nat.mul_one, Nat.add_zero] at hc0
     have HX := hid hx
     have hcx := HW2.out.x.1; have hlx := HW2.out.x.2.2
     clear hc hx
     have HN3 : Hid ((ws).length + 1 = n + 1 ∧ (n + 1) * 16 ≤ 140737488355328 ∧ n + 1 ≤ maxLen) := hid ⟨by have := HW2.out.o.len; omega, by omega, by unfold maxLen; omega⟩
     go_wp2_with (at_builtin; refine wpList_app rfl _ _ 25 rfl i z 16 Tryz.underlying25 HI.out.1 HI.out.2.1 HI.out.2.2.1 HI.out.2.2.2.1 HI.out.2.2.2.2 rfl (HW2.out.o.alloc _) (some ⟨wr.heap.size, 0, none⟩) 1 1 (n + 1) [x] rfl (Row.str1 wr (x)) HN3.out.1 HN3.out.2.1 HN3.out.2.2 (by have := HW2.out.s; simp; omega) ?_; intro a3 c3 w3 hown3 hg3 hat3; have HW3 := hid (HW2.out.snoc hown3 hg3); clear hown3 hg3 hat3; have hcx3 := HW3.out.x.1; have hlx3 := HW3.out.x.2.2)
     go_roundw
     case rel => exact ⟨k + 1, n + 1, _, _, _, by omega, by go_num, rfl, by omega, HW3.out, by rw [HWS.out, List.take_add_one, HX.out]; rfl⟩
     case measure => simp [RowKit.intOf]; omega
   · obtain rfl : k = (cc + 1) := by omega
     have hcx := HW2.out.x.1; have hlx := HW2.out.x.2.2
     go_wp2_with fail
     go_ret
     have := HW2.out.ret
     rw [show ws = wordsS ⟨7, names, 0, vers, false, 0⟩ from by rw [HWS.out, List.take_of_length_le (by omega)]; simp [wordsS, formN, formR]; cases names <;> simp] at this
     exact this
end Yd


namespace Yd
open Go Go.RowKit Go.Proofs
attribute [local go_sem] Oper.semAt_some

def preM (names : List Bs) (fi : Bool) : Nat → List Bs
 | 0 => [formV 8]
 | k + 1 => preM names fi k ++ ((if k = 2 ∧ fi = true then [[45]] else []) ++ [names.getD k []])
theorem preM_eq {names : List Bs} {fi : Bool} {c : Nat} (h1 : names.length = c + 2) : ∀ k, k ≤ c → preM names fi (k + 2) = (formV 8 :: names.take 2) ++ ((if 0 < k ∧ fi = true then [[45]] else []) ++ (names.drop 2).take k)
 | 0, _ => by
   match names, h1 with
   | a :: b :: r, _ => simp [preM]
 | k + 1, hk => by
   have ih := preM_eq (fi := fi) h1 k (by omega)
   have hz : (names.drop 2)[k]? = some (names.getD (k + 2) []) := by
     rw [List.getElem?_drop, Nat.add_comm 2 k, List.getD_eq_getElem?_getD, List.getElem?_eq_getElem (by omega)]; rfl
   have ht : (names.drop 2).take (k + 1) = (names.drop 2).take k ++ [names.getD (k + 2) []] := by rw [List.take_add_one, hz]; rfl
   rw [show k + 1 + 2 = (k + 2) + 1 from rfl, preM, ih, ht]
   cases k with
   | zero => simp
   | succ k => cases fi <;> simp

theorem r_words_8 (na : Option Addr) (nc : Nat) (va : Option Addr) (vc : Nat) (cc : Nat) (hcc : cc ≤ 300) (fi : Bool) (names : List Bs) (vers : List To) (w : World) (hrn : Row w 1 encStr na (cc + 2) nc names) (hrv : Row w 2 encTo va 0 vc vers) (hwv : ∀ t ∈ vers, toOk t) :
   Calls Tryz.prog 47 #[valLn ⟨8, na, (cc + 2), nc, 0, va, 0, vc, fi, 0⟩] w (RetOwn 9 1 encStr (wordsS ⟨8, names, 0, vers, fi, 0⟩) w) := by
 obtain ⟨i, z, hi, hz, hsize, hby', hzs⟩ := partsStr
 have HI := hid (⟨hi, hz, hsize, hby', hzs⟩ : _ ∧ _ ∧ _ ∧ _ ∧ _)
 have HRN := hid hrn; have HRV := hid hrv; have HWV := hid hwv
 have HB0 := hid (belowA (Below.refl w.heap.size w) (.cells #[.int .i64 8, .slice na (cc + 2) nc, .int .i64 0, .slice va 0 vc, .bool fi, .int .i64 0] 28))
 have HX0 := hid (Bx.new w #[.int .i64 8, .slice na (cc + 2) nc, .int .i64 0, .slice va 0 vc, .bool fi, .int .i64 0] 28)
 have hle := hrn.le; have hcap := hrn.cap; have hlen := hrn.len
 have HLEN := hid hlen
 clear hi hz hsize hby' hzs hrn hrv hwv
 go_enter Tryz.func47, Tryz.ntmps47
 go_wp2_with fail
 refine wp_region_ordC 6 [(1, 0), (2, 0), (0, 2), (3, 0), (4, 2), (5, 2), (6, 1)] (fun _ => True) (fun W' => Bx W' w.heap.size #[.int .i64 8, .slice na (cc + 2) nc, .int .i64 0, .slice va 0 vc, .bool fi, .int .i64 0]) (by kernel_rfl) (by kernel_rfl) (trivial) (HX0.out) ?_
 repeat ((first | refine ordC_skip rfl rfl ?_ | refine ordC_skip1 rfl rfl ?_ | ((first | refine ordC_q rfl rfl ?_ | refine ordC_p rfl rfl ?_); apply Exists.intro; refine ⟨fun wS hS => ?_, ?_⟩; (go_simp; try with_reducible rfl))); simp only [Act.put, List.setIfInBounds_toArray, List.set_cons_zero, List.set_cons_succ])
 refine ordC_l rfl rfl (fun K hK => ?_)
 go_simp
 refine (r_verbs _).mono ?_
 rintro e Y ⟨va1, vc1, rfl, hoY, hbY⟩
 have HXY := hid (HX0.out.drew.keep hbY)
 have HBY := hid (HB0.out.drew.trans (hbY.mono HB0.out.size))
 obtain ⟨g, cur, rfl, hbg, -, hvc, hBg, hcur⟩ := hoY.open_ (hc := cInsStr) (by decide)
 have hcw := (hbg.1 8).trans (by have := hcur 8 [109, 97, 116, 99, 104] 0 _ rfl rfl; simpa using this)
 have hgl := hbg.2.2
 refine hK _ _ ⟨trivial, HXY.out⟩ ?_
 clear hK K hbY hoY hbg hcur hBg
 repeat ((first | refine ordC_skip rfl rfl ?_ | refine ordC_skip1 rfl rfl ?_ | ((first | refine ordC_q rfl rfl ?_ | refine ordC_p rfl rfl ?_); apply Exists.intro; refine ⟨fun wS hS => ?_, ?_⟩; (go_simp; try with_reducible rfl))); simp only [Act.put, List.setIfInBounds_toArray, List.set_cons_zero, List.set_cons_succ])
 refine ordC_l rfl rfl (fun K hK => ?_)
 go_simp
 refine hK _ _ ⟨trivial, HXY.out⟩ ?_
 clear hK K hcw hgl hvc
 refine ordC_l rfl rfl (fun K hK => ?_)
 go_simp
 refine hK _ _ ⟨trivial, HXY.out.alloc _⟩ ?_
 clear hK K
 repeat ((first | refine ordC_skip rfl rfl ?_ | refine ordC_skip1 rfl rfl ?_ | ((first | refine ordC_q rfl rfl ?_ | refine ordC_p rfl rfl ?_); apply Exists.intro; refine ⟨fun wS hS => ?_, ?_⟩; (go_simp; try with_reducible rfl))); simp only [Act.put, List.setIfInBounds_toArray, List.set_cons_zero, List.set_cons_succ])
 refine ordC_nil ?_
 have HW1 : Hid (WsAt w (Y.alloc (.cells #[.string ⟨#[109, 97, 116, 99, 104]⟩] 9)) #[.int .i64 8, .slice na (cc + 2) nc, .int .i64 0, .slice va 0 vc, .bool fi, .int .i64 0] (some ⟨Y.heap.size, 0, none⟩) 1 1 [formV 8]) := hid ⟨HXY.out.alloc _, (Own.strs (X := Y) rfl [formV 8] (by simp [maxLen])).mono (by have := HXY.out.2.2; omega), HBY.out.alloc HBY.out.size _, by have := HXY.out.2.2; simp; omega⟩
 have hcx := HW1.out.x.1; have hlx := HW1.out.x.2.2
 go_wp2_with fail
 clear hcx hlx
 go_loopw [3, 17] (fun v i wr => ∃ (k n : Nat) (a : Option Addr) (c : Nat) (ws : List Bs), k ≤ (cc + 2) ∧ i = .int .i64 k ∧ v = .slice a n c ∧ n ≤ 2 * k + 2 ∧ WsAt w wr #[.int .i64 8, .slice na (cc + 2) nc, .int .i64 0, .slice va 0 vc, .bool fi, .int .i64 0] a n c ws ∧ ws = preM names fi k) (fun _ i _ => (cc + 2) - (RowKit.intOf i).toNat)
 case atStart => exact ⟨0, 1, _, _, _, Nat.zero_le _, rfl, rfl, by omega, HW1.out, rfl⟩
 case round =>
   obtain ⟨k, n, a, c, ws, hk, rfl, rfl, hn, hw, hws⟩ := hrel
   have HW2 := hid hw; have HWS := hid hws
   clear hw hws
   by_cases hlt : k < (cc + 2)
   · obtain ⟨x, b, o, hx, rfl, hc⟩ := (HRN.out.below HW2.out.b rfl).at_ hlt
     have hc0 := hc 0 _ rfl
     simp only [Nat.mul_one, Nat.add_zero] at hc0
     have HX := hid hx
     have hcx := HW2.out.x.1; have hlx := HW2.out.x.2.2
     clear hc hx
     have HGX : Hid (names.getD k [] = x) := hid (by rw [List.getD_eq_getElem?_getD, HX.out]; rfl)
     by_cases h2 : k = 2 ∧ fi = true
     · obtain ⟨rfl, rfl⟩ := h2
       have HN3 : Hid ((ws).length + 1 = n + 1 ∧ (n + 1) * 16 ≤ 140737488355328 ∧ n + 1 ≤ maxLen) := hid ⟨by have := HW2.out.o.len; omega, by omega, by unfold maxLen; omega⟩
       have HN4 : Hid ((ws ++ [([45] : Bs)]).length + 1 = (n + 1) + 1 ∧ ((n + 1) + 1) * 16 ≤ 140737488355328 ∧ (n + 1) + 1 ≤ maxLen) := hid ⟨by have := HW2.out.o.len; rw [List.length_append]; simp; omega, by omega, by unfold maxLen; omega⟩
       go_wp2_with (first | (at_builtin; refine wpList_app rfl _ _ 25 rfl i z 16 Tryz.underlying25 HI.out.1 HI.out.2.1 HI.out.2.2.1 HI.out.2.2.2.1 HI.out.2.2.2.2 rfl (HW2.out.o.alloc _) (some ⟨wr.heap.size, 0, none⟩) 1 1 (n + 1) [[45]] rfl (Row.str1 wr ([45])) HN3.out.1 HN3.out.2.1 HN3.out.2.2 (by have := HW2.out.s; simp; omega) ?_; intro a3 c3 w3 hown3 hg3 hat3; have HW3 := hid (HW2.out.snoc hown3 hg3); clear hown3 hg3 hat3; have hcx3 := HW3.out.x.1; have hlx3 := HW3.out.x.2.2) | (at_builtin; refine wpList_app rfl _ _ 25 rfl i z 16 Tryz.underlying25 HI.out.1 HI.out.2.1 HI.out.2.2.1 HI.out.2.2.2.1 HI.out.2.2.2.2 rfl (HW3.out.o.alloc _) (some ⟨w3.heap.size, 0, none⟩) 1 1 ((n + 1) + 1) [x] rfl (Row.str1 w3 (x)) HN4.out.1 HN4.out.2.1 HN4.out.2.2 (by have := HW3.out.s; simp; omega) ?_; intro a4 c4 w4 hown4 hg4 hat4; have HW4 := hid (HW3.out.snoc hown4 hg4); clear hown4 hg4 hat4; have hcx4 := HW4.out.x.1; have hlx4 := HW4.out.x.2.2))
       go_roundw
       case rel => exact ⟨3, n + 1 + 1, _, _, _, by omega, by go_num, rfl, by omega, HW4.out, by rw [preM, if_pos ⟨rfl, rfl⟩, HGX.out, HWS.out, List.append_assoc]⟩
       case measure => simp [RowKit.intOf]; omega
     · have hk2 : ((k : Int) == 2 && fi) = false := by
         rw [← Bool.not_eq_true]
         intro hh
         simp only [Bool.and_eq_true, beq_iff_eq] at hh
         exact h2 ⟨by omega, hh.2⟩
       have HN3 : Hid ((ws).length + 1 = n + 1 ∧ (n + 1) * 16 ≤ 140737488355328 ∧ n + 1 ≤ maxLen) := hid ⟨by have := HW2.out.o.len; omega, by omega, by unfold maxLen; omega⟩
       have HNO := hid h2
       clear h2
       cases hb2 : ((k : Int) == 2)
       · go_wp2_with (at_builtin; refine wpList_app rfl _ _ 25 rfl i z 16 Tryz.underlying25 HI.out.1 HI.out.2.1 HI.out.2.2.1 HI.out.2.2.2.1 HI.out.2.2.2.2 rfl (HW2.out.o.alloc _) (some ⟨wr.heap.size, 0, none⟩) 1 1 (n + 1) [x] rfl (Row.str1 wr (x)) HN3.out.1 HN3.out.2.1 HN3.out.2.2 (by have := HW2.out.s; simp; omega) ?_; intro a3 c3 w3 hown3 hg3 hat3; have HW3 := hid (HW2.out.snoc hown3 hg3); clear hown3 hg3 hat3; have hcx3 := HW3.out.x.1; have hlx3 := HW3.out.x.2.2)
         go_roundw
         case rel => exact ⟨k + 1, n + 1, _, _, _, by omega, by go_num, rfl, by omega, HW3.out, by rw [preM, if_neg HNO.out, HGX.out, HWS.out]; rfl⟩
         case measure => simp [RowKit.intOf]; omega
       · obtain rfl : fi = false := by rw [hb2] at hk2; simpa using hk2
         go_wp2_with (at_builtin; refine wpList_app rfl _ _ 25 rfl i z 16 Tryz.underlying25 HI.out.1 HI.out.2.1 HI.out.2.2.1 HI.out.2.2.2.1 HI.out.2.2.2.2 rfl (HW2.out.o.alloc _) (some ⟨wr.heap.size, 0, none⟩) 1 1 (n + 1) [x] rfl (Row.str1 wr (x)) HN3.out.1 HN3.out.2.1 HN3.out.2.2 (by have := HW2.out.s; simp; omega) ?_; intro a3 c3 w3 hown3 hg3 hat3; have HW3 := hid (HW2.out.snoc hown3 hg3); clear hown3 hg3 hat3; have hcx3 := HW3.out.x.1; have hlx3 := HW3.out.x.2.2)
         go_roundw
         case rel => exact ⟨k + 1, n + 1, _, _, _, by omega, by go_num, rfl, by omega, HW3.out, by rw [preM, if_neg HNO.out, HGX.out, HWS.out]; rfl⟩
         case measure => simp [RowKit.intOf]; omega
   · obtain rfl : k = (cc + 2) := by omega
     have hcx := HW2.out.x.1; have hlx := HW2.out.x.2.2
     by_cases hz : cc = 0 ∧ fi = true
     · obtain ⟨rfl, rfl⟩ := hz
       have HN3 : Hid ((ws).length + 1 = n + 1 ∧ (n + 1) * 16 ≤ 140737488355328 ∧ n + 1 ≤ maxLen) := hid ⟨by have := HW2.out.o.len; omega, by omega, by unfold maxLen; omega⟩
       go_wp2_with (at_builtin; refine wpList_app rfl _ _ 25 rfl i z 16 Tryz.underlying25 HI.out.1 HI.out.2.1 HI.out.2.2.1 HI.out.2.2.2.1 HI.out.2.2.2.2 rfl (HW2.out.o.alloc _) (some ⟨wr.heap.size, 0, none⟩) 1 1 (n + 1) [[45]] rfl (Row.str1 wr ([45])) HN3.out.1 HN3.out.2.1 HN3.out.2.2 (by have := HW2.out.s; simp; omega) ?_; intro a3 c3 w3 hown3 hg3 hat3; have HW3 := hid (HW2.out.snoc hown3 hg3); clear hown3 hg3 hat3; have hcx3 := HW3.out.x.1; have hlx3 := HW3.out.x.2.2)
       go_ret
       have := HW3.out.ret
       rw [show ws ++ [[45]] = wordsS ⟨8, names, 0, vers, true, 0⟩ from by rw [HWS.out, preM_eq HLEN.out 0 (Nat.le_refl _)]; simp [wordsS, formN, formR, List.drop_of_length_le, HLEN.out]] at this
       exact this
     · have HNO := hid hz
       clear hz
       cases hb2 : (((cc + 2 : Nat) : Int) == 2)
       · have hcc0 : 0 < cc := by have h1 := beq_eq_false_iff_ne.1 hb2; omega
         go_wp2_with fail
         go_ret
         have := HW2.out.ret
         rw [show ws = wordsS ⟨8, names, 0, vers, fi, 0⟩ from by have ht : (names.drop 2).take cc = names.drop 2 := List.take_of_length_le (by rw [List.length_drop, HLEN.out]; omega); rw [HWS.out, preM_eq HLEN.out cc (Nat.le_refl _), ht]; simp [wordsS, formN, formR, hcc0]] at this
         exact this
       · have hcc0 : cc = 0 := by have h1 := beq_iff_eq.1 hb2; omega
         obtain rfl : fi = false := Bool.eq_false_iff.2 (fun hf => HNO.out ⟨hcc0, hf⟩)
         go_wp2_with fail
         go_ret
         have := HW2.out.ret
         rw [show ws = wordsS ⟨8, names, 0, vers, false, 0⟩ from by have ht : (names.drop 2).take cc = names.drop 2 := List.take_of_length_le (by rw [List.length_drop, HLEN.out]; omega); rw [HWS.out, preM_eq HLEN.out cc (Nat.le_refl _), ht]; simp [wordsS, formN, formR]] at this
         exact this
end Yd
