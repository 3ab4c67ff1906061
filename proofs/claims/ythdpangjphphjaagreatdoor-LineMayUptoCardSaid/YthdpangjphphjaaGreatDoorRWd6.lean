import Derived.Test.YthdpangjphphjaaGreatDoorRWd2
import Derived.Test.YthdpangjphphjaaGreatDoorProg
set_option maxRecDepth 200000
set_option maxHeartbeats 8000000
namespace Yd
open Go Go.RowKit Go.Proofs
attribute [local go_sem] Oper.semAt_some

theorem r_words_3 (na : Option Addr) (nc : Nat) (va : Option Addr) (vc : Nat) (names : List Bs) (vers : List To) (w : World) (hrn : Row w 1 encStr na 2 nc names) (hrv : Row w 2 encTo va 1 vc vers) (hwv : ∀ t ∈ vers, toOk t) :
   Calls Tryz.prog 47 #[valLn ⟨3, na, 2, nc, 0, va, 1, vc, false, 0⟩] w (RetOwn 9 1 encStr (wordsS ⟨3, names, 0, vers, false, 0⟩) w) := by
 obtain ⟨i, z, hi, hz, hsize, hby', hzs⟩ := partsStr
 have HI := hid (⟨hi, hz, hsize, hby', hzs⟩ : _ ∧ _ ∧ _ ∧ _ ∧ _)
 have HRN := hid hrn; have HRV := hid hrv; have HWV := hid hwv
 have HB0 := hid (belowA (Below.refl w.heap.size w) (.cells #[.int .i64 3, .slice na 2 nc, .int .i64 0, .slice va 1 vc, .bool false, .int .i64 0] 28))
 have HX0 := hid (Bx.new w #[.int .i64 3, .slice na 2 nc, .int .i64 0, .slice va 1 vc, .bool false, .int .i64 0] 28)
 have hle := hrn.le; have hcap := hrn.cap; have hlen := hrn.len
 have HLEN := hid hlen
 clear hi hz hsize hby' hzs hrn hrv hwv
 go_enter Tryz.func47, Tryz.ntmps47
 go_wp2_with fail
 refine wp_region_ordC 6 [(1, 0), (2, 0), (0, 2), (3, 0), (4, 2), (5, 2), (6, 1)] (fun _ => True) (fun W' => Bx W' w.heap.size #[.int .i64 3, .slice na 2 nc, .int .i64 0, .slice va 1 vc, .bool false, .int .i64 0]) (by kernel_rfl) (by kernel_rfl) (trivial) (HX0.out) ?_
 repeat ((first | refine ordC_skip rfl rfl ?_ | refine ordC_skip1 rfl rfl ?_ | ((first | refine ordC_q rfl rfl ?_ | refine ordC_p rfl rfl ?_); apply Exists.intro; refine ⟨fun wS hS => ?_, ?_⟩; (go_simp; try with_reducible rfl))); simp only [Act.put, List.setIfInBounds_toArray, List.set_cons_zero, List.set_cons_succ])
 refine ordC_l rfl rfl (fun K hK => ?_)
 go_simp
 refine (r_verbs _).mono ?_
 rintro e Y ⟨va1, vc1, rfl, hoY, hbY⟩
 have HXY := hid (HX0.out.drew.keep hbY)
 have HBY := hid (HB0.out.drew.trans (hbY.mono HB0.out.size))
 obtain ⟨g, cur, rfl, hbg, -, hvc, hBg, hcur⟩ := hoY.open_ (hc := cInsStr) (by decide)
 have hcw := (hbg.1 3).trans (by have := hcur 3 [114, 101, 97, 100] 0 _ rfl rfl; simpa using this)
 have hgl := hbg.2.2
 refine hK _ _ ⟨trivial, HXY.out⟩ ?_
 clear hK K hbY hoY hbg hcur hBg
 repeat ((first | refine ordC_skip rfl rfl ?_ | refine ordC_skip1 rfl rfl ?_ | ((first | refine ordC_q rfl rfl ?_ | refine ordC_p rfl rfl ?_); apply Exists.intro; refine ⟨fun wS hS => ?_, ?_⟩; (go_simp; try with_reducible rfl))); simp only [Act.put, List.setIfInBounds_toArray, List.set_cons_zero, List.set_cons_succ])
 refine ordC_l rfl rfl (fun K hK => ?_)
 go_simp
 refine hK _ _ ⟨trivial, HXY.out⟩ ?_
 clear hK K hcw hgl hvc
 refine ordC_l rfl rfl (fun K hK => ?_)
 go_simp
 refine hK _ _ ⟨trivial, HXY.out.alloc _⟩ ?_
 clear hK K
 repeat ((first | refine ordC_skip rfl rfl ?_ | refine ordC_skip1 rfl rfl ?_ | ((first | refine ordC_q rfl rfl ?_ | refine ordC_p rfl rfl ?_); apply Exists.intro; refine ⟨fun wS hS => ?_, ?_⟩; (go_simp; try with_reducible rfl))); simp only [Act.put, List.setIfInBounds_toArray, List.set_cons_zero, List.set_cons_succ])
 refine ordC_nil ?_
 have HW1 : Hid (WsAt w (Y.alloc (.cells #[.string ⟨#[114, 101, 97, 100]⟩] 9)) #[.int .i64 3, .slice na 2 nc, .int .i64 0, .slice va 1 vc, .bool false, .int .i64 0] (some ⟨Y.heap.size, 0, none⟩) 1 1 [formV 3]) := hid ⟨HXY.out.alloc _, (Own.strs (X := Y) rfl [formV 3] (by simp [maxLen])).mono (by have := HXY.out.2.2; omega), HBY.out.alloc HBY.out.size _, by have := HXY.out.2.2; simp; omega⟩
 have hcx := HW1.out.x.1; have hlx := HW1.out.x.2.2
 go_wp2_with fail
 clear hcx hlx
 go_loopw [3, 17] (fun v i wr => ∃ (k n : Nat) (a : Option Addr) (c : Nat) (ws : List Bs), k ≤ 2 ∧ i = .int .i64 k ∧ v = .slice a n c ∧ n ≤ 2 * k + 2 ∧ WsAt w wr #[.int .i64 3, .slice na 2 nc, .int .i64 0, .slice va 1 vc, .bool false, .int .i64 0] a n c ws ∧ ws = (fun k => formV 3 :: names.take k) k) (fun _ i _ => 2 - (RowKit.intOf i).toNat)
 case atStart => exact ⟨0, 1, _, _, _, Nat.zero_le _, rfl, rfl, by omega, HW1.out, rfl⟩
 case round =>
   obtain ⟨k, n, a, c, ws, hk, rfl, rfl, hn, hw, hws⟩ := hrel
   have HW2 := hid hw; have HWS := hid hws
   clear hw hws
   by_cases hlt : k < 2
   · obtain ⟨x, b, o, hx, rfl, hc⟩ := (HRN.out.below HW2.out.b rfl).at_ hlt
     have hc0 := hc 0 _ rfl
     simp only [Nat.mul_one, Nat.add_zero] at hc0
     have HX := hid hx
     have hcx := HW2.out.x.1; have hlx := HW2.out.x.2.2
     clear hc hx
     have HN3 : Hid ((ws).length + 1 = n + 1 ∧ (n + 1) * 16 ≤ 140737488355328 ∧ n + 1 ≤ maxLen) := hid ⟨by have := HW2.out.o.len; omega, by omega, by unfold maxLen; omega⟩
     go_wp2_with (at_builtin; refine wpList_app rfl _ _ 25 rfl i z 16 Tryz.underlying25 HI.out.1 HI.out.2.1 HI.out.2.2.1 HI.out.2.2.2.1 HI.out.2.2.2.2 rfl (HW2.out.o.alloc _) (some ⟨wr.heap.size, 0, none⟩) 1 1 (n + 1) [x] rfl (Row.str1 wr (x)) HN3.out.1 HN3.out.2.1 HN3.out.2.2 (by have := HW2.out.s; simp; omega) ?_; intro a3 c3 w3 hown3 hg3 hat3; have HW3 := hid (HW2.out.snoc hown3 hg3); clear hown3 hg3 hat3; have hcx3 := HW3.out.x.1; have hlx3 := HW3.out.x.2.2)
     go_roundw
     case rel => exact ⟨k + 1, n + 1, _, _, _, by omega, by go_num, rfl, by omega, HW3.out, by rw [HWS.out, List.take_add_one, HX.out]; rfl⟩
     case measure => simp [RowKit.intOf]; omega
   · obtain rfl : k = 2 := by omega
     have hcx := HW2.out.x.1; have hlx := HW2.out.x.2.2
     obtain ⟨td, vb, vo, hvx, rfl, hvc⟩ := (HRV.out.below HW2.out.b rfl).at_ (i := 0) (by omega)
     have hv0 := hvc 0 _ rfl; have hv1 := hvc 1 _ rfl
     simp only [Nat.add_zero, Nat.zero_mul] at hv0 hv1
     obtain ⟨k0, k9, kn⟩ := toOk_b (HWV.out td (List.mem_of_getElem? hvx))
     have hvcap := HRV.out.cap
     have HVL : Hid (vers = [td]) := hid (by have h1 := HRV.out.len; obtain ⟨y, rfl⟩ := List.length_eq_one_iff.1 h1; simp at hvx; rw [hvx])
     clear hvc hvx
     go_wp2_with fail
     clear hcx hlx
     refine (r_told12 td k0 k9 kn _).mono ?_
     rintro e X3 ⟨rfl, hb3⟩
     have HW3 := hid (HW2.out.call hb3)
     clear hb3
     have hcx := HW3.out.x.1; have hlx := HW3.out.x.2.2
     have HN4 : Hid ((ws).length + 1 = n + 1 ∧ (n + 1) * 16 ≤ 140737488355328 ∧ n + 1 ≤ maxLen) := hid ⟨by have := HW3.out.o.len; omega, by omega, by unfold maxLen; omega⟩
     go_wp2_with (at_builtin; refine wpList_app rfl _ _ 25 rfl i z 16 Tryz.underlying25 HI.out.1 HI.out.2.1 HI.out.2.2.1 HI.out.2.2.2.1 HI.out.2.2.2.2 rfl (HW3.out.o.alloc _) (some ⟨X3.heap.size, 0, none⟩) 1 1 (n + 1) [toldT td] rfl (Row.str1 X3 (toldT td)) HN4.out.1 HN4.out.2.1 HN4.out.2.2 (by have := HW3.out.s; simp; omega) ?_; intro a4 c4 w4 hown4 hg4 hat4; have HW4 := hid (HW3.out.snoc hown4 hg4); clear hown4 hg4 hat4)
     go_ret
     have := HW4.out.ret
     rw [show ws ++ [toldT td] = wordsS ⟨3, names, 0, vers, false, 0⟩ from by rw [HWS.out, HVL.out]; simp [wordsS, formN, formR, HLEN.out, List.take_of_length_le, List.drop_of_length_le]] at this
     exact this
end Yd


namespace Yd
open Go Go.RowKit Go.Proofs
attribute [local go_sem] Oper.semAt_some

def preS (names : List Bs) (vers : List To) : Nat → List Bs
 | 0 => [formV 4]
 | k + 1 => preS names vers k ++ ([names.getD k []] ++ if 1 < k then [toldT (vers.getD (k - 2) ⟨[], 0⟩)] else [])
theorem preS_eq {names : List Bs} {vers : List To} {c : Nat} (h1 : names.length = c + 2) (h2 : vers.length = c) : ∀ k, k ≤ c → preS names vers (k + 2) = (formV 4 :: names.take 2) ++ ((((names.drop 2).zip vers).take k).flatMap (fun p => [p.1, toldT p.2]))
 | 0, _ => by
   match names, h1 with
   | a :: b :: r, _ => simp [preS]
 | k + 1, hk => by
   have ih := preS_eq h1 h2 k (by omega)
   have hz : ((names.drop 2).zip vers)[k]? = some (names.getD (k + 2) [], vers.getD k ⟨[], 0⟩) := by
     rw [List.getElem?_zip_eq_some]
     have hk1 : k < vers.length := by omega
     have hk2 : k + 2 < names.length := by omega
     refine ⟨?_, ?_⟩
     · show (names.drop 2)[k]? = some (names.getD (k + 2) [])
       rw [List.getElem?_drop, Nat.add_comm 2 k, List.getD_eq_getElem?_getD, List.getElem?_eq_getElem hk2]; rfl
     · show vers[k]? = some (vers.getD k ⟨[], 0⟩)
       rw [List.getD_eq_getElem?_getD, List.getElem?_eq_getElem hk1]; rfl
   have ht : ((names.drop 2).zip vers).take (k + 1) = ((names.drop 2).zip vers).take k ++ [(names.getD (k + 2) [], vers.getD k ⟨[], 0⟩)] := by rw [List.take_add_one, hz]; rfl
   rw [show k + 1 + 2 = (k + 2) + 1 from rfl, preS, ih, ht, if_pos (by omega), show k + 2 - 2 = k by omega]
   simp
theorem preS_len (names : List Bs) (vers : List To) : ∀ k, (preS names vers k).length ≤ 1 + 2 * k
 | 0 => by simp [preS]
 | k + 1 => by
   have := preS_len names vers k
   rw [preS, List.length_append, List.length_append]
   split <;> simp <;> omega

theorem r_words_4 (na : Option Addr) (nc : Nat) (va : Option Addr) (vc : Nat) (cc : Nat) (hcc : cc ≤ 40) (names : List Bs) (vers : List To) (w : World) (hrn : Row w 1 encStr na (cc + 2) nc names) (hrv : Row w 2 encTo va cc vc vers) (hwv : ∀ t ∈ vers, toOk t) :
   Calls Tryz.prog 47 #[valLn ⟨4, na, (cc + 2), nc, 0, va, cc, vc, false, 0⟩] w (RetOwn 9 1 encStr (wordsS ⟨4, names, 0, vers, false, 0⟩) w) := by
 obtain ⟨i, z, hi, hz, hsize, hby', hzs⟩ := partsStr
 have HI := hid (⟨hi, hz, hsize, hby', hzs⟩ : _ ∧ _ ∧ _ ∧ _ ∧ _)
 have HRN := hid hrn; have HRV := hid hrv; have HWV := hid hwv
 have HB0 := hid (belowA (Below.refl w.heap.size w) (.cells #[.int .i64 4, .slice na (cc + 2) nc, .int .i64 0, .slice va cc vc, .bool false, .int .i64 0] 28))
 have HX0 := hid (Bx.new w #[.int .i64 4, .slice na (cc + 2) nc, .int .i64 0, .slice va cc vc, .bool false, .int .i64 0] 28)
 have hle := hrn.le; have hcap := hrn.cap; have hlen := hrn.len
 have HLEN := hid hlen
 clear hi hz hsize hby' hzs hrn hrv hwv
 go_enter Tryz.func47, Tryz.ntmps47
 go_wp2_with fail
 refine wp_region_ordC 6 [(1, 0), (2, 0), (0, 2), (3, 0), (4, 2), (5, 2), (6, 1)] (fun _ => True) (fun W' => Bx W' w.heap.size #[.int .i64 4, .slice na (cc + 2) nc, .int .i64 0, .slice va cc vc, .bool false, .int .i64 0]) (by kernel_rfl) (by kernel_rfl) (trivial) (HX0.out) ?_
 repeat ((first | refine ordC_skip rfl rfl ?_ | refine ordC_skip1 rfl rfl ?_ | ((first | refine ordC_q rfl rfl ?_ | refine ordC_p rfl rfl ?_); apply Exists.intro; refine ⟨fun wS hS => ?_, ?_⟩; (go_simp; try with_reducible rfl))); simp only [Act.put, List.setIfInBounds_toArray, List.set_cons_zero, List.set_cons_succ])
 refine ordC_l rfl rfl (fun K hK => ?_)
 go_simp
 refine (r_verbs _).mono ?_
 rintro e Y ⟨va1, vc1, rfl, hoY, hbY⟩
 have HXY := hid (HX0.out.drew.keep hbY)
 have HBY := hid (HB0.out.drew.trans (hbY.mono HB0.out.size))
 obtain ⟨g, cur, rfl, hbg, -, hvc, hBg, hcur⟩ := hoY.open_ (hc := cInsStr) (by decide)
 have hcw := (hbg.1 4).trans (by have := hcur 4 [115, 99, 97, 110] 0 _ rfl rfl; simpa using this)
 have hgl := hbg.2.2
 refine hK _ _ ⟨trivial, HXY.out⟩ ?_
 clear hK K hbY hoY hbg hcur hBg
 repeat ((first | refine ordC_skip rfl rfl ?_ | refine ordC_skip1 rfl rfl ?_ | ((first | refine ordC_q rfl rfl ?_ | refine ordC_p rfl rfl ?_); apply Exists.intro; refine ⟨fun wS hS => ?_, ?_⟩; (go_simp; try with_reducible rfl))); simp only [Act.put, List.setIfInBounds_toArray, List.set_cons_zero, List.set_cons_succ])
 refine ordC_l rfl rfl (fun K hK => ?_)
 go_simp
 refine hK _ _ ⟨trivial, HXY.out⟩ ?_
 clear hK K hcw hgl hvc
 refine ordC_l rfl rfl (fun K hK => ?_)
 go_simp
 refine hK _ _ ⟨trivial, HXY.out.alloc _⟩ ?_
 clear hK K
 repeat ((first | refine ordC_skip rfl rfl ?_ | refine ordC_skip1 rfl rfl ?_ | ((first | refine ordC_q rfl rfl ?_ | refine ordC_p rfl rfl ?_); apply Exists.intro; refine ⟨fun wS hS => ?_, ?_⟩; (go_simp; try with_reducible rfl))); simp only [Act.put, List.setIfInBounds_toArray, List.set_cons_zero, List.set_cons_succ])
 refine ordC_nil ?_
 have HW1 : Hid (WsAt w (Y.alloc (.cells #[.string ⟨#[115, 99, 97, 110]⟩] 9)) #[.int .i64 4, .slice na (cc + 2) nc, .int .i64 0, .slice va cc vc, .bool false, .int .i64 0] (some ⟨Y.heap.size, 0, none⟩) 1 1 [formV 4]) := hid ⟨HXY.out.alloc _, (Own.strs (X := Y) rfl [formV 4] (by simp [maxLen])).mono (by have := HXY.out.2.2; omega), HBY.out.alloc HBY.out.size _, by have := HXY.out.2.2; simp; omega⟩
 have hcx := HW1.out.x.1; have hlx := HW1.out.x.2.2
 go_wp2_with fail
 clear hcx hlx
 go_loopw [3, 17] (fun v i wr => ∃ (k n : Nat) (a : Option Addr) (c : Nat) (ws : List Bs), k ≤ (cc + 2) ∧ i = .int .i64 k ∧ v = .slice a n c ∧ n ≤ 2 * k + 2 ∧ WsAt w wr #[.int .i64 4, .slice na (cc + 2) nc, .int .i64 0, .slice va cc vc, .bool false, .int .i64 0] a n c ws ∧ ws = preS names vers k) (fun _ i _ => (cc + 2) - (RowKit.intOf i).toNat)
 case atStart => exact ⟨0, 1, _, _, _, Nat.zero_le _, rfl, rfl, by omega, HW1.out, rfl⟩
 case round =>
   obtain ⟨k, n, a, c, ws, hk, rfl, rfl, hn, hw, hws⟩ := hrel
   have HW2 := hid hw; have HWS := hid hws
   clear hw hws
   by_cases hlt : k < (cc + 2)
   · obtain ⟨x, b, o, hx, rfl, hc⟩ := (HRN.out.below HW2.out.b rfl).at_ hlt
     have hc0 := hc 0 _ rfl
     simp only [Nat.mul_one, Nat.add_zero] at hc0
     have HX := hid hx
     have hcx := HW2.out.x.1; have hlx := HW2.out.x.2.2
     clear hc hx
     have HGX : Hid (names.getD k [] = x) := hid (by rw [List.getD_eq_getElem?_getD, HX.out]; rfl)
     have HN3 : Hid ((ws).length + 1 = n + 1 ∧ (n + 1) * 16 ≤ 140737488355328 ∧ n + 1 ≤ maxLen) := hid ⟨by have := HW2.out.o.len; omega, by omega, by unfold maxLen; omega⟩
     by_cases hk1 : k ≤ 1
     · have hkk : ¬ ((k : Int) > 1) := by omega
       go_wp2_with (at_builtin; refine wpList_app rfl _ _ 25 rfl i z 16 Tryz.underlying25 HI.out.1 HI.out.2.1 HI.out.2.2.1 HI.out.2.2.2.1 HI.out.2.2.2.2 rfl (HW2.out.o.alloc _) (some ⟨wr.heap.size, 0, none⟩) 1 1 (n + 1) [x] rfl (Row.str1 wr (x)) HN3.out.1 HN3.out.2.1 HN3.out.2.2 (by have := HW2.out.s; simp; omega) ?_; intro a3 c3 w3 hown3 hg3 hat3; have HW3 := hid (HW2.out.snoc hown3 hg3); clear hown3 hg3 hat3; have hcx3 := HW3.out.x.1; have hlx3 := HW3.out.x.2.2)
       go_roundw
       case rel => exact ⟨k + 1, n + 1, _, _, _, by omega, by go_num, rfl, by omega, HW3.out, by rw [preS, if_neg (by omega), HGX.out, HWS.out, List.append_nil]⟩
       case measure => simp [RowKit.intOf]; omega
     · have hkk : (k : Int) > 1 := by omega
       obtain ⟨d, rfl⟩ : ∃ d, k = d + 2 := ⟨k - 2, by omega⟩
       have hsub : wrap64 (((d + 2 : Nat) : Int) - 2) = (d : Int) := by rw [Go.IntWalk.wrap64_in _ ⟨by omega, by omega⟩]; omega
       obtain ⟨td, vb, vo, hvx, rfl, hvc⟩ := HRV.out.at_ (i := d) (by omega)
       have hv0 := hvc 0 _ rfl; have hv1 := hvc 1 _ rfl
       simp only [Nat.add_zero] at hv0
       have HTO := hid (toOk_b (HWV.out td (List.mem_of_getElem? hvx)))
       have HGV : Hid (vers.getD d ⟨[], 0⟩ = td) := hid (by rw [List.getD_eq_getElem?_getD, hvx]; rfl)
       have hvcap := HRV.out.cap; have hvle := HRV.out.le; have hdl : d < cc := by omega
       have HV0 := hid hv0; have HV1 := hid hv1
       clear hvc hvx hv0 hv1
       go_wp2_with (at_builtin; refine wpList_app rfl _ _ 25 rfl i z 16 Tryz.underlying25 HI.out.1 HI.out.2.1 HI.out.2.2.1 HI.out.2.2.2.1 HI.out.2.2.2.2 rfl (HW2.out.o.alloc _) (some ⟨wr.heap.size, 0, none⟩) 1 1 (n + 1) [x] rfl (Row.str1 wr (x)) HN3.out.1 HN3.out.2.1 HN3.out.2.2 (by have := HW2.out.s; simp; omega) ?_; intro a3 c3 w3 hown3 hg3 hat3; have HW3 := hid (HW2.out.snoc hown3 hg3); clear hown3 hg3 hat3; have hcx3 := HW3.out.x.1; have hlx3 := HW3.out.x.2.2; have hv0 := bget HW3.out.b rfl HV0.out; have hv1 := bget HW3.out.b rfl HV1.out)
       clear hcx3 hlx3 hv0 hv1
       refine (r_told12 td HTO.out.1 HTO.out.2.1 HTO.out.2.2 _).mono ?_
       rintro e X4 ⟨rfl, hb4⟩
       have HW4 := hid (HW3.out.call hb4)
       clear hb4
       have HN5 : Hid ((ws ++ [x]).length + 1 = (n + 1) + 1 ∧ ((n + 1) + 1) * 16 ≤ 140737488355328 ∧ (n + 1) + 1 ≤ maxLen) := hid ⟨by have := HW4.out.o.len; omega, by omega, by unfold maxLen; omega⟩
       have hcx4 := HW4.out.x.1; have hlx4 := HW4.out.x.2.2
       go_wp2_with (at_builtin; refine wpList_app rfl _ _ 25 rfl i z 16 Tryz.underlying25 HI.out.1 HI.out.2.1 HI.out.2.2.1 HI.out.2.2.2.1 HI.out.2.2.2.2 rfl (HW4.out.o.alloc _) (some ⟨X4.heap.size, 0, none⟩) 1 1 ((n + 1) + 1) [toldT td] rfl (Row.str1 X4 (toldT td)) HN5.out.1 HN5.out.2.1 HN5.out.2.2 (by have := HW4.out.s; simp; omega) ?_; intro a5 c5 w5 hown5 hg5 hat5; have HW5 := hid (HW4.out.snoc hown5 hg5); clear hown5 hg5 hat5; have hcx5 := HW5.out.x.1; have hlx5 := HW5.out.x.2.2)
       go_roundw
       case rel => exact ⟨d + 3, n + 1 + 1, _, _, _, by omega, by go_num, rfl, by omega, HW5.out, by rw [show d + 3 = (d + 2) + 1 from rfl, preS, if_pos (by omega), HGX.out, show d + 2 - 2 = d by omega, HGV.out, HWS.out, List.append_assoc]⟩
       case measure => simp [RowKit.intOf]; omega
   · obtain rfl : k = (cc + 2) := by omega
     have hcx := HW2.out.x.1; have hlx := HW2.out.x.2.2
     go_wp2_with fail
     go_ret
     have := HW2.out.ret
     have ht : ((names.drop 2).zip vers).take cc = (names.drop 2).zip vers := List.take_of_length_le (by rw [List.length_zip, List.length_drop, HLEN.out, HRV.out.len]; omega)
     rw [show ws = wordsS ⟨4, names, 0, vers, false, 0⟩ from by rw [HWS.out, preS_eq HLEN.out HRV.out.len cc (Nat.le_refl _), ht]; simp [wordsS, formN, formR]] at this
     exact this
end Yd


namespace Yd
open Go Go.RowKit Go.Proofs
attribute [local go_sem] Oper.semAt_some

theorem r_words_5 (na : Option Addr) (nc : Nat) (va : Option Addr) (vc : Nat) (names : List Bs) (vers : List To) (w : World) (hrn : Row w 1 encStr na 1 nc names) (hrv : Row w 2 encTo va 0 vc vers) (hwv : ∀ t ∈ vers, toOk t) :
   Calls Tryz.prog 47 #[valLn ⟨5, na, 1, nc, 0, va, 0, vc, false, 0⟩] w (RetOwn 9 1 encStr (wordsS ⟨5, names, 0, vers, false, 0⟩) w) := by
 obtain ⟨i, z, hi, hz, hsize, hby', hzs⟩ := partsStr
 have HI := hid (⟨hi, hz, hsize, hby', hzs⟩ : _ ∧ _ ∧ _ ∧ _ ∧ _)
 have HRN := hid hrn; have HRV := hid hrv; have HWV := hid hwv
 have HB0 := hid (belowA (Below.refl w.heap.size w) (.cells #[.int .i64 5, .slice na 1 nc, .int .i64 0, .slice va 0 vc, .bool false, .int .i64 0] 28))
 have HX0 := hid (Bx.new w #[.int .i64 5, .slice na 1 nc, .int .i64 0, .slice va 0 vc, .bool false, .int .i64 0] 28)
 have hle := hrn.le; have hcap := hrn.cap; have hlen := hrn.len
 have HLEN := hid hlen
 clear hi hz hsize hby' hzs hrn hrv hwv
 go_enter Tryz.func47, Tryz.ntmps47
 go_wp2_with fail
 refine wp_region_ordC 6 [(1, 0), (2, 0), (0, 2), (3, 0), (4, 2), (5, 2), (6, 1)] (fun _ => True) (fun W' => Bx W' w.heap.size #[.int .i64 5, .slice na 1 nc, .int .i64 0, .slice va 0 vc, .bool false, .int .i64 0]) (by kernel_rfl) (by kernel_rfl) (trivial) (HX0.out) ?_
 repeat ((first | refine ordC_skip rfl rfl ?_ | refine ordC_skip1 rfl rfl ?_ | ((first | refine ordC_q rfl rfl ?_ | refine ordC_p rfl rfl ?_); apply Exists.intro; refine ⟨fun wS hS => ?_, ?_⟩; (go_simp; try with_reducible rfl))); simp only [Act.put, List.setIfInBounds_toArray, List.set_cons_zero, List.set_cons_succ])
 refine ordC_l rfl rfl (fun K hK => ?_)
 go_simp
 refine (r_verbs _).mono ?_
 rintro e Y ⟨va1, vc1, rfl, hoY, hbY⟩
 have HXY := hid (HX0.out.drew.keep hbY)
 have HBY := hid (HB0.out.drew.trans (hbY.mono HB0.out.size))
 obtain ⟨g, cur, rfl, hbg, -, hvc, hBg, hcur⟩ := hoY.open_ (hc := cInsStr) (by decide)
 have hcw := (hbg.1 5).trans (by have := hcur 5 [99, 111, 109, 109, 105, 116] 0 _ rfl rfl; simpa using this)
 have hgl := hbg.2.2
 refine hK _ _ ⟨trivial, HXY.out⟩ ?_
 clear hK K hbY hoY hbg hcur hBg
 repeat ((first | refine ordC_skip rfl rfl ?_ | refine ordC_skip1 rfl rfl ?_ | ((first | refine ordC_q rfl rfl ?_ | refine ordC_p rfl rfl ?_); apply Exists.intro; refine ⟨fun wS hS => ?_, ?_⟩; (go_simp; try with_reducible rfl))); simp only [Act.put, List.setIfInBounds_toArray, List.set_cons_zero, List.set_cons_succ])
 refine ordC_l rfl rfl (fun K hK => ?_)
 go_simp
 refine hK _ _ ⟨trivial, HXY.out⟩ ?_
 clear hK K hcw hgl hvc
 refine ordC_l rfl rfl (fun K hK => ?_)
 go_simp
 refine hK _ _ ⟨trivial, HXY.out.alloc _⟩ ?_
 clear hK K
 repeat ((first | refine ordC_skip rfl rfl ?_ | refine ordC_skip1 rfl rfl ?_ | ((first | refine ordC_q rfl rfl ?_ | refine ordC_p rfl rfl ?_); apply Exists.intro; refine ⟨fun wS hS => ?_, ?_⟩; (go_simp; try with_reducible rfl))); simp only [Act.put, List.setIfInBounds_toArray, List.set_cons_zero, List.set_cons_succ])
 refine ordC_nil ?_
 have HW1 : Hid (WsAt w (Y.alloc (.cells #[.string ⟨#[99, 111, 109, 109, 105, 116]⟩] 9)) #[.int .i64 5, .slice na 1 nc, .int .i64 0, .slice va 0 vc, .bool false, .int .i64 0] (some ⟨Y.heap.size, 0, none⟩) 1 1 [formV 5]) := hid ⟨HXY.out.alloc _, (Own.strs (X := Y) rfl [formV 5] (by simp [maxLen])).mono (by have := HXY.out.2.2; omega), HBY.out.alloc HBY.out.size _, by have := HXY.out.2.2; simp; omega⟩
 have hcx := HW1.out.x.1; have hlx := HW1.out.x.2.2
 go_wp2_with fail
 clear hcx hlx
 go_loopw [3, 17] (fun v i wr => ∃ (k n : Nat) (a : Option Addr) (c : Nat) (ws : List Bs), k ≤ 1 ∧ i = .int .i64 k ∧ v = .slice a n c ∧ n ≤ 2 * k + 2 ∧ WsAt w wr #[.int .i64 5, .slice na 1 nc, .int .i64 0, .slice va 0 vc, .bool false, .int .i64 0] a n c ws ∧ ws = (fun k => formV 5 :: names.take k) k) (fun _ i _ => 1 - (RowKit.intOf i).toNat)
 case atStart => exact ⟨0, 1, _, _, _, Nat.zero_le _, rfl, rfl, by omega, HW1.out, rfl⟩
 case round =>
   obtain ⟨k, n, a, c, ws, hk, rfl, rfl, hn, hw, hws⟩ := hrel
   have HW2 := hid hw; have HWS := hid hws
   clear hw hws
   by_cases hlt : k < 1
   · obtain ⟨x, b, o, hx, rfl, hc⟩ := (HRN.out.below HW2.out.b rfl).at_ hlt
     have hc0 := hc 0 _ rfl
     simp only [Nat.mul_one, Nat.add_zero] at hc0
     have HX := hid hx
     have hcx := HW2.out.x.1; have hlx := HW2.out.x.2.2
     clear hc hx
     have HN3 : Hid ((ws).length + 1 = n + 1 ∧ (n + 1) * 16 ≤ 140737488355328 ∧ n + 1 ≤ maxLen) := hid ⟨by have := HW2.out.o.len; omega, by omega, by unfold maxLen; omega⟩
     go_wp2_with (at_builtin; refine wpList_app rfl _ _ 25 rfl i z 16 Tryz.underlying25 HI.out.1 HI.out.2.1 HI.out.2.2.1 HI.out.2.2.2.1 HI.out.2.2.2.2 rfl (HW2.out.o.alloc _) (some ⟨wr.heap.size, 0, none⟩) 1 1 (n + 1) [x] rfl (Row.str1 wr (x)) HN3.out.1 HN3.out.2.1 HN3.out.2.2 (by have := HW2.out.s; simp; omega) ?_; intro a3 c3 w3 hown3 hg3 hat3; have HW3 := hid (HW2.out.snoc hown3 hg3); clear hown3 hg3 hat3; have hcx3 := HW3.out.x.1; have hlx3 := HW3.out.x.2.2)
     go_roundw
     case rel => exact ⟨k + 1, n + 1, _, _, _, by omega, by go_num, rfl, by omega, HW3.out, by rw [HWS.out, List.take_add_one, HX.out]; rfl⟩
     case measure => simp [RowKit.intOf]; omega
   · obtain rfl : k = 1 := by omega
     have hcx := HW2.out.x.1; have hlx := HW2.out.x.2.2
     go_wp2_with fail
     go_ret
     have := HW2.out.ret
     rw [show ws = wordsS ⟨5, names, 0, vers, false, 0⟩ from by rw [HWS.out]; simp [wordsS, formN, formR, HLEN.out, List.take_of_length_le, List.drop_of_length_le]] at this
     exact this
end Yd


namespace Yd
open Go Go.RowKit Go.Proofs
attribute [local go_sem] Oper.semAt_some

theorem r_words_6 (na : Option Addr) (nc : Nat) (va : Option Addr) (vc : Nat) (names : List Bs) (vers : List To) (w : World) (hrn : Row w 1 encStr na 1 nc names) (hrv : Row w 2 encTo va 0 vc vers) (hwv : ∀ t ∈ vers, toOk t) :
   Calls Tryz.prog 47 #[valLn ⟨6, na, 1, nc, 0, va, 0, vc, false, 0⟩] w (RetOwn 9 1 encStr (wordsS ⟨6, names, 0, vers, false, 0⟩) w) := by
 obtain ⟨i, z, hi, hz, hsize, hby', hzs⟩ := partsStr
 have HI := hid (⟨hi, hz, hsize, hby', hzs⟩ : _ ∧ _ ∧ _ ∧ _ ∧ _)
 have HRN := hid hrn; have HRV := hid hrv; have HWV := hid hwv
 have HB0 := hid (belowA (Below.refl w.heap.size w) (.cells #[.int .i64 6, .slice na 1 nc, .int .i64 0, .slice va 0 vc, .bool false, .int .i64 0] 28))
 have HX0 := hid (Bx.new w #[.int .i64 6, .slice na 1 nc, .int .i64 0, .slice va 0 vc, .bool false, .int .i64 0] 28)
 have hle := hrn.le; have hcap := hrn.cap; have hlen := hrn.len
 have HLEN := hid hlen
 clear hi hz hsize hby' hzs hrn hrv hwv
 go_enter Tryz.func47, Tryz.ntmps47
 go_wp2_with fail
 refine wp_region_ordC 6 [(1, 0), (2, 0), (0, 2), (3, 0), (4, 2), (5, 2), (6, 1)] (fun _ => True) (fun W' => Bx W' w.heap.size #[.int .i64 6, .slice na 1 nc, .int .i64 0, .slice va 0 vc, .bool false, .int .i64 0]) (by kernel_rfl) (by kernel_rfl) (trivial) (HX0.out) ?_
 repeat ((first | refine ordC_skip rfl rfl ?_ | refine ordC_skip1 rfl rfl ?_ | ((first | refine ordC_q rfl rfl ?_ | refine ordC_p rfl rfl ?_); apply Exists.intro; refine ⟨fun wS hS => ?_, ?_⟩; (go_simp; try with_reducible rfl))); simp only [Act.put, List.setIfInBounds_toArray, List.set_cons_zero, List.set_cons_succ])
 refine ordC_l rfl rfl (fun K hK => ?_)
 go_simp
 refine (r_verbs _).mono ?_
 rintro e Y ⟨va1, vc1, rfl, hoY, hbY⟩
 have HXY := hid (HX0.out.drew.keep hbY)
 have HBY := hid (HB0.out.drew.trans (hbY.mono HB0.out.size))
 obtain ⟨g, cur, rfl, hbg, -, hvc, hBg, hcur⟩ := hoY.open_ (hc := cInsStr) (by decide)
 have hcw := (hbg.1 6).trans (by have := hcur 6 [97, 98, 111, 114, 116] 0 _ rfl rfl; simpa using this)
 have hgl := hbg.2.2
 refine hK _ _ ⟨trivial, HXY.out⟩ ?_
 clear hK K hbY hoY hbg hcur hBg
 repeat ((first | refine ordC_skip rfl rfl ?_ | refine ordC_skip1 rfl rfl ?_ | ((first | refine ordC_q rfl rfl ?_ | refine ordC_p rfl rfl ?_); apply Exists.intro; refine ⟨fun wS hS => ?_, ?_⟩; (go_simp; try with_reducible rfl))); simp only [Act.put, List.setIfInBounds_toArray, List.set_cons_zero, List.set_cons_succ])
 refine ordC_l rfl rfl (fun K hK => ?_)
 go_simp
 refine hK _ _ ⟨trivial, HXY.out⟩ ?_
 clear hK K hcw hgl hvc
 refine ordC_l rfl rfl (fun K hK => ?_)
 go_simp
 refine hK _ _ ⟨trivial, HXY.out.alloc _⟩ ?_
 clear hK K
 repeat ((first | refine ordC_skip rfl rfl ?_ | refine ordC_skip1 rfl rfl ?_ | ((first | refine ordC_q rfl rfl ?_ | refine ordC_p rfl rfl ?_); apply Exists.intro; refine ⟨fun wS hS => ?_, ?_⟩; (go_simp; try with_reducible rfl))); simp only [Act.put, List.setIfInBounds_toArray, List.set_cons_zero, List.set_cons_succ])
 refine ordC_nil ?_
 have HW1 : Hid (WsAt w (Y.alloc (.cells #[.string ⟨#[97, 98, 111, 114, 116]⟩] 9)) #[.int .i64 6, .slice na 1 nc, .int .i64 0, .slice va 0 vc, .bool false, .int .i64 0] (some ⟨Y.heap.size, 0, none⟩) 1 1 [formV 6]) := hid ⟨HXY.out.alloc _, (Own.strs (X := Y) rfl [formV 6] (by simp [maxLen])).mono (by have := HXY.out.2.2; omega), HBY.out.alloc HBY.out.size _, by have := HXY.out.2.2; simp; omega⟩
 have hcx := HW1.out.x.1; have hlx := HW1.out.x.2.2
 go_wp2_with fail
 clear hcx hlx
 go_loopw [3, 17] (fun v i wr => ∃ (k n : Nat) (a : Option Addr) (c : Nat) (ws : List Bs), k ≤ 1 ∧ i = .int .i64 k ∧ v = .slice a n c ∧ n ≤ 2 * k + 2 ∧ WsAt w wr #[.int .i64 6, .slice na 1 nc, .int .i64 0, .slice va 0 vc, .bool false, .int .i64 0] a n c ws ∧ ws = (fun k => formV 6 :: names.take k) k) (fun _ i _ => 1 - (RowKit.intOf i).toNat)
 case atStart => exact ⟨0, 1, _, _, _, Nat.zero_le _, rfl, rfl, by omega, HW1.out, rfl⟩
 case round =>
   obtain ⟨k, n, a, c, ws, hk, rfl, rfl, hn, hw, hws⟩ := hrel
   have HW2 := hid hw; have HWS := hid hws
   clear hw hws
   by_cases hlt : k < 1
   · obtain ⟨x, b, o, hx, rfl, hc⟩ := (HRN.out.below HW2.out.b rfl).at_ hlt
     have hc0 := hc 0 _ rfl
     simp only [Nat.mul_one, Nat.add_zero] at hc0
     have HX := hid hx
     have hcx := HW2.out.x.1; have hlx := HW2.out.x.2.2
     clear hc hx
     have HN3 : Hid ((ws).length + 1 = n + 1 ∧ (n + 1) * 16 ≤ 140737488355328 ∧ n + 1 ≤ maxLen) := hid ⟨by have := HW2.out.o.len; omega, by omega, by unfold maxLen; omega⟩
     go_wp2_with (at_builtin; refine wpList_app rfl _ _ 25 rfl i z 16 Tryz.underlying25 HI.out.1 HI.out.2.1 HI.out.2.2.1 HI.out.2.2.2.1 HI.out.2.2.2.2 rfl (HW2.out.o.alloc _) (some ⟨wr.heap.size, 0, none⟩) 1 1 (n + 1) [x] rfl (Row.str1 wr (x)) HN3.out.1 HN3.out.2.1 HN3.out.2.2 (by have := HW2.out.s; simp; omega) ?_; intro a3 c3 w3 hown3 hg3 hat3; have HW3 := hid (HW2.out.snoc hown3 hg3); clear hown3 hg3 hat3; have hcx3 := HW3.out.x.1; have hlx3 := HW3.out.x.2.2)
     go_roundw
     case rel => exact ⟨k + 1, n + 1, _, _, _, by omega, by go_num, rfl, by omega, HW3.out, by rw [HWS.out, List.take_add_one, HX.out]; rfl⟩
     case measure => simp [RowKit.intOf]; omega
   · obtain rfl : k = 1 := by omega
     have hcx := HW2.out.x.1; have hlx := HW2.out.x.2.2
     go_wp2_with fail
     go_ret
     have := HW2.out.ret
     rw [show ws = wordsS ⟨6, names, 0, vers, false, 0⟩ from by rw [HWS.out]; simp [wordsS, formN, formR, HLEN.out, List.take_of_length_le, List.drop_of_length_le]] at this
     exact this
end Yd
