import Derived.Test.YthdpangjphphjaaGreatDoorRWd2
import Derived.Test.YthdpangjphphjaaGreatDoorProg
import Derived.Test.YthdpangjphphjaaGreatDoorRWd6
import Derived.Test.YthdpangjphphjaaGreatDoorRWd8
import Derived.Test.YthdpangjphphjaaGreatDoorChB0
import Derived.Test.YthdpangjphphjaaGreatDoorPtext2
set_option maxRecDepth 200000
set_option maxHeartbeats 8000000
namespace Yd
open Go Go.RowKit Go.Proofs
attribute [local go_sem] Oper.semAt_some

def GOk (X : World) (a : Option Addr) (n c : Nat) (gb go_ gc : Nat) : Prop := Own X 0 9 1 encStr (.slice (some ⟨gb, go_, none⟩) 4 gc) ([[114, 121, 119], [109, 114], [109, 119], [119, 102, 114]] : List Bs) ∧ ∀ g, (Value.slice a n c).ownBlock = some g → (Value.slice (some ⟨gb, go_, none⟩) 4 gc).ownBlock ≠ some g
theorem GOk.app {X Y : World} {a a' : Option Addr} {n c n' c' gb go_ gc : Nat} {o : Obj} (h : GOk X a n c gb go_ gc) (hg : (X.alloc o).grownBy Y (Value.slice a n c).ownBlock)
   (hat : (Value.slice a' n' c').ownBlock = (Value.slice a n c).ownBlock ∨ (Value.slice a' n' c').ownBlock = some (X.alloc o).heap.size) : GOk Y a' n' c' gb go_ gc := by
 refine ⟨(h.1.alloc o).block fun g hg' => hg.block g (by have := (h.1.lt g hg').2; simp; omega) (fun e => h.2 g e.symm hg'), fun g hg' h2 => ?_⟩
 rcases hat with e | e
 · rw [e] at hg'; exact h.2 g hg' h2
 · rw [e] at hg'
   injection hg' with hg'
   have := (h.1.lt g h2).2
   simp at hg'
   omega
theorem wr1 : IntKind.i64.wrap 1 = 1 := by decide
theorem wr2 : IntKind.i64.wrap 2 = 2 := by decide
theorem wr4 : IntKind.i64.wrap 4 = 4 := by decide
theorem wr8 : IntKind.i64.wrap 8 = 8 := by decide
theorem guards_step (b : Nat) (j : Nat) (q : Nat) (hq : b / 2 ^ j = q) : guardsN b (j + 1) = guardsN b j ++ if q % 2 = 1 then [guardT j] else [] := by
 subst hq
 have e : ((b : Int) / 2 ^ j % 2 = 1) ↔ (b / 2 ^ j % 2 = 1) := by
   rw [show ((b : Int) / 2 ^ j % 2) = ((b / 2 ^ j % 2 : Nat) : Int) by simp]
   omega
 rw [guardsN]
 by_cases h : b / 2 ^ j % 2 = 1
 · rw [if_pos h, if_pos (e.2 h)]
 · rw [if_neg h, if_neg (fun hh => h (e.1 hh))]

theorem r_words_9 (na : Option Addr) (nc : Nat) (va : Option Addr) (vc : Nat) (bt : Nat) (hbt : bt ≤ 15) (names : List Bs) (vers : List To) (w : World) (hrn : Row w 1 encStr na 1 nc names) (hrv : Row w 2 encTo va 0 vc vers) (hwv : ∀ t ∈ vers, toOk t) :
   Calls Tryz.prog 47 #[valLn ⟨9, na, 1, nc, 0, va, 0, vc, false, (bt : Nat)⟩] w (RetOwn 9 1 encStr (wordsS ⟨9, names, 0, vers, false, (bt : Nat)⟩) w) := by
 obtain ⟨i, z, hi, hz, hsize, hby', hzs⟩ := partsStr
 have HI := hid (⟨hi, hz, hsize, hby', hzs⟩ : _ ∧ _ ∧ _ ∧ _ ∧ _)
 have HRN := hid hrn; have HRV := hid hrv; have HWV := hid hwv
 have HB0 := hid (belowA (Below.refl w.heap.size w) (.cells #[.int .i64 9, .slice na 1 nc, .int .i64 0, .slice va 0 vc, .bool false, .int .i64 (bt : Nat)] 28))
 have HX0 := hid (Bx.new w #[.int .i64 9, .slice na 1 nc, .int .i64 0, .slice va 0 vc, .bool false, .int .i64 (bt : Nat)] 28)
 have hle := hrn.le; have hcap := hrn.cap; have hlen := hrn.len
 have HLEN := hid hlen
 clear hi hz hsize hby' hzs hrn hrv hwv
 go_enter Tryz.func47, Tryz.ntmps47
 go_wp2_with fail
 refine wp_region_ordC 6 [(1, 0), (2, 0), (0, 2), (3, 0), (4, 2), (5, 2), (6, 1)] (fun _ => True) (fun W' => Bx W' w.heap.size #[.int .i64 9, .slice na 1 nc, .int .i64 0, .slice va 0 vc, .bool false, .int .i64 (bt : Nat)]) (by kernel_rfl) (by kernel_rfl) (trivial) (HX0.out) ?_
 repeat ((first | refine ordC_skip rfl rfl ?_ | refine ordC_skip1 rfl rfl ?_ | ((first | refine ordC_q rfl rfl ?_ | refine ordC_p rfl rfl ?_); apply Exists.intro; refine ⟨fun wS hS => ?_, ?_⟩; (go_simp; try with_reducible rfl))); simp only [Act.put, List.setIfInBounds_toArray, List.set_cons_zero, List.set_cons_succ])
 refine ordC_l rfl rfl (fun K hK => ?_)
 go_simp
 refine (r_verbs _).mono ?_
 rintro e Y ⟨va1, vc1, rfl, hoY, hbY⟩
 have HXY := hid (HX0.out.drew.keep hbY)
 have HBY := hid (HB0.out.drew.trans (hbY.mono HB0.out.size))
 obtain ⟨g, cur, rfl, hbg, -, hvc, hBg, hcur⟩ := hoY.open_ (hc := cInsStr) (by decide)
 have hcw := (hbg.1 9).trans (by have := hcur 9 [119, 97, 110, 116] 0 _ rfl rfl; simpa using this)
 have hgl := hbg.2.2
 refine hK _ _ ⟨trivial, HXY.out⟩ ?_
 clear hK K hbY hoY hbg hcur hBg
 repeat ((first | refine ordC_skip rfl rfl ?_ | refine ordC_skip1 rfl rfl ?_ | ((first | refine ordC_q rfl rfl ?_ | refine ordC_p rfl rfl ?_); apply Exists.intro; refine ⟨fun wS hS => ?_, ?_⟩; (go_simp; try with_reducible rfl))); simp only [Act.put, List.setIfInBounds_toArray, List.set_cons_zero, List.set_cons_succ])
 refine ordC_l rfl rfl (fun K hK => ?_)
 go_simp
 refine hK _ _ ⟨trivial, HXY.out⟩ ?_
 clear hK K hcw hgl hvc
 refine ordC_l rfl rfl (fun K hK => ?_)
 go_simp
 refine hK _ _ ⟨trivial, HXY.out.alloc _⟩ ?_
 clear hK K
 repeat ((first | refine ordC_skip rfl rfl ?_ | refine ordC_skip1 rfl rfl ?_ | ((first | refine ordC_q rfl rfl ?_ | refine ordC_p rfl rfl ?_); apply Exists.intro; refine ⟨fun wS hS => ?_, ?_⟩; (go_simp; try with_reducible rfl))); simp only [Act.put, List.setIfInBounds_toArray, List.set_cons_zero, List.set_cons_succ])
 refine ordC_nil ?_
 have HW1 : Hid (WsAt w (Y.alloc (.cells #[.string ⟨#[119, 97, 110, 116]⟩] 9)) #[.int .i64 9, .slice na 1 nc, .int .i64 0, .slice va 0 vc, .bool false, .int .i64 (bt : Nat)] (some ⟨Y.heap.size, 0, none⟩) 1 1 [formV 9]) := hid ⟨HXY.out.alloc _, (Own.strs (X := Y) rfl [formV 9] (by simp [maxLen])).mono (by have := HXY.out.2.2; omega), HBY.out.alloc HBY.out.size _, by have := HXY.out.2.2; simp; omega⟩
 have hcx := HW1.out.x.1; have hlx := HW1.out.x.2.2
 go_wp2_with fail
 clear hcx hlx
 go_loopw [3, 17] (fun v i wr => ∃ (k n : Nat) (a : Option Addr) (c : Nat) (ws : List Bs), k ≤ 1 ∧ i = .int .i64 k ∧ v = .slice a n c ∧ n ≤ 2 * k + 2 ∧ WsAt w wr #[.int .i64 9, .slice na 1 nc, .int .i64 0, .slice va 0 vc, .bool false, .int .i64 (bt : Nat)] a n c ws ∧ ws = (fun k => formV 9 :: names.take k) k) (fun _ i _ => 1 - (RowKit.intOf i).toNat)
 case atStart => exact ⟨0, 1, _, _, _, Nat.zero_le _, rfl, rfl, by omega, HW1.out, rfl⟩
 case round =>
   obtain ⟨k, n, a, c, ws, hk, rfl, rfl, hn, hw, hws⟩ := hrel
   have HW2 := hid hw; have HWS := hid hws
   clear hw hws
   by_cases hlt : k < 1
   · obtain ⟨x, b, o, hx, rfl, hc⟩ := (HRN.out.below HW2.out.b rfl).at_ hlt
     have hc0 := hc 0 _ rfl
     simp only [Nat.mul_one, Nat.add_zero] at hc0
     have HX := hid hx
     have hcx := HW2.out.x.1; have hlx := HW2.out.x.2.2
     clear hc hx
     have HN3 : Hid ((ws).length + 1 = n + 1 ∧ (n + 1) * 16 ≤ 140737488355328 ∧ n + 1 ≤ maxLen) := hid ⟨by have := HW2.out.o.len; omega, by omega, by unfold maxLen; omega⟩
     go_wp2_with (at_builtin; refine wpList_app rfl _ _ 25 rfl i z 16 Tryz.underlying25 HI.out.1 HI.out.2.1 HI.out.2.2.1 HI.out.2.2.2.1 HI.out.2.2.2.2 rfl (HW2.out.o.alloc _) (some ⟨wr.heap.size, 0, none⟩) 1 1 (n + 1) [x] rfl (Row.str1 wr (x)) HN3.out.1 HN3.out.2.1 HN3.out.2.2 (by have := HW2.out.s; simp; omega) ?_; intro a3 c3 w3 hown3 hg3 hat3; have HW3 := hid (HW2.out.snoc hown3 hg3); clear hown3 hg3 hat3; have hcx3 := HW3.out.x.1; have hlx3 := HW3.out.x.2.2)
     go_roundw
     case rel => exact ⟨k + 1, n + 1, _, _, _, by omega, by go_num, rfl, by omega, HW3.out, by rw [HWS.out, List.take_add_one, HX.out]; rfl⟩
     case measure => simp [RowKit.intOf]; omega
   · obtain rfl : k = 1 := by omega
     have hcx := HW2.out.x.1; have hlx := HW2.out.x.2.2
     go_wp2_with fail
     clear hcx hlx
     refine (r_guards _).mono ?_
     rintro e X3 ⟨ga, gc, rfl, hog, hb3⟩
     have HW3 := hid (HW2.out.call hb3)
     have HGR := hid (hog.row (hc := cInsStr) (by decide)); have HOG := hid hog
     clear hb3 hog
     obtain ⟨_, gb, go_, _, rfl, _⟩ := HGR.out.at_ (i := 0) (by decide)
     have HBT : Hid ((([[114, 121, 119], [109, 114], [109, 119], [119, 102, 114]] : List Bs).length) = 4) := hid rfl
     rw [HBT.out]
     have HGO : Hid (GOk X3 a n c gb go_ gc) := hid ⟨HOG.out.mono (Nat.zero_le _), fun g hg hg2 => by have h1 := (HW2.out.o.lt g hg).2; have h2 := (HOG.out.lt g hg2).1; omega⟩
     have hgc := HGR.out.cap
     rw [HBT.out] at hgc
     go_wp2_with fail
     go_loopw [3, 98] (fun v i wr => ∃ (j n2 : Nat) (a2 : Option Addr) (c2 : Nat) (ws2 : List Bs), j ≤ 4 ∧ i = .int .i64 j ∧ v = .slice a2 n2 c2 ∧ n2 ≤ n + j ∧ WsAt w wr #[.int .i64 9, .slice na 1 nc, .int .i64 0, .slice va 0 vc, .bool false, .int .i64 (bt : Nat)] a2 n2 c2 ws2 ∧ ws2 = ws ++ guardsN bt j ∧ GOk wr a2 n2 c2 gb go_ gc) (fun _ i _ => 4 - (RowKit.intOf i).toNat)
     case atStart => exact ⟨0, n, a, c, ws, Nat.zero_le _, rfl, rfl, by omega, HW3.out, by simp [guardsN], HGO.out⟩
     case round =>
       obtain ⟨j, n2, a2, c2, ws2, hj, rfl, rfl, hn2, hw2, hws2, hbx2⟩ := hrel
       have HW5 := hid hw2; have HWS2 := hid hws2; have HBX2 := hid hbx2
       clear hw2 hws2 hbx2
       by_cases hlt2 : j < 4
       · obtain ⟨x, b, o, hx, hab, hc⟩ := (HBX2.out.1.row (hc := cInsStr) (by decide)).at_ (i := j) hlt2
         cases hab
         have hc0 := hc 0 _ rfl
         simp only [Nat.mul_one, Nat.add_zero] at hc0
         have HGX : Hid (x = guardT j) := hid (by
           have h4 : j = 0 ∨ j = 1 ∨ j = 2 ∨ j = 3 := by omega
           rcases h4 with rfl | rfl | rfl | rfl <;> (simp at hx; rw [← hx]; rfl))
         have hcx := HW5.out.x.1; have hlx := HW5.out.x.2.2
         clear hc hx
         go_wp2_with fail
         have h4 : j = 0 ∨ j = 1 ∨ j = 2 ∨ j = 3 := by omega
         rcases h4 with rfl | rfl | rfl | rfl
         · skip
           obtain ⟨qq, hqq⟩ : ∃ qq, qq = bt / 2 ^ 0 := ⟨_, rfl⟩
           have hw1 := wr1
           have hw2 : IntKind.i64.wrap (bt : Int) = (qq : Int) := by rw [Go.IntWalk.i64_in _ (by omega), hqq]; omega
           obtain ⟨rr, hrr⟩ : ∃ rr, rr = qq % 2 := ⟨_, rfl⟩
           have hw3 : ((qq : Nat) : Int).tmod 2 = (rr : Int) := by rw [Int.tmod_eq_emod_of_nonneg (by omega)]; omega
           have HRR := hid hrr
           have hr2 : rr ≤ 1 := by omega
           have HGS := hid (guards_step bt 0 qq hqq.symm)
           have hqb : qq ≤ 15 := by rw [hqq]; omega
           clear hqq hrr
           have HW6 := hid (HW5.out.call (Below.refl _ _).drew)
           have HN7 : Hid ((ws2).length + 1 = n2 + 1 ∧ (n2 + 1) * 16 ≤ 140737488355328 ∧ n2 + 1 ≤ maxLen) := hid ⟨by have := HW6.out.o.len; omega, by omega, by unfold maxLen; omega⟩
           cases hb : ((rr : Int) == 1)
           · have HQ : Hid (qq % 2 ≠ 1) := hid (by have h1 := beq_eq_false_iff_ne.1 hb; have h2 := HRR.out; omega)
             refine wp_region_ordC 7 [(0, 0), (1, 0), (2, 0), (3, 0), (4, 0), (5, 0), (6, 0)] (fun _ => True) (fun W' => Bx W' w.heap.size #[.int .i64 9, .slice na 1 nc, .int .i64 0, .slice va 0 vc, .bool false, .int .i64 (bt : Nat)]) (by kernel_rfl) (by kernel_rfl) (trivial) (HW5.out.x) ?_
             repeat ((first | refine ordC_skip rfl rfl ?_ | refine ordC_skip1 rfl rfl ?_ | ((first | refine ordC_q rfl rfl ?_ | refine ordC_p rfl rfl ?_); apply Exists.intro; refine ⟨fun wS hS => ?_, ?_⟩; (go_simp; try with_reducible rfl))); simp only [Act.put, List.setIfInBounds_toArray, List.set_cons_zero, List.set_cons_succ])
             refine ordC_nil ?_
             go_wp2_with fail
             go_roundw
             case rel => exact ⟨1, n2, _, _, _, by omega, by go_num, rfl, by omega, HW6.out, by rw [HGS.out, if_neg HQ.out, HWS2.out, List.append_nil], HBX2.out⟩
             case measure => simp [RowKit.intOf]
           · have HQ : Hid (qq % 2 = 1) := hid (by have h1 := beq_iff_eq.1 hb; have h2 := HRR.out; omega)
             refine wp_region_ordC 7 [(0, 0), (1, 0), (2, 0), (3, 0), (4, 0), (5, 0), (6, 0)] (fun _ => True) (fun W' => Bx W' w.heap.size #[.int .i64 9, .slice na 1 nc, .int .i64 0, .slice va 0 vc, .bool false, .int .i64 (bt : Nat)]) (by kernel_rfl) (by kernel_rfl) (trivial) (HW5.out.x) ?_
             repeat ((first | refine ordC_skip rfl rfl ?_ | refine ordC_skip1 rfl rfl ?_ | ((first | refine ordC_q rfl rfl ?_ | refine ordC_p rfl rfl ?_); apply Exists.intro; refine ⟨fun wS hS => ?_, ?_⟩; (go_simp; try with_reducible rfl))); simp only [Act.put, List.setIfInBounds_toArray, List.set_cons_zero, List.set_cons_succ])
             refine ordC_nil ?_
             have HG6 : Hid (GOk wr.drew a2 n2 c2 gb go_ gc) := hid HBX2.out
             have hcx6 := HW6.out.x.1; have hlx6 := HW6.out.x.2.2
             generalize wr.drew = wq at HW6 HG6 hcx6 hlx6 ⊢
             go_wp2_with (at_builtin; refine wpList_app rfl _ _ 25 rfl i z 16 Tryz.underlying25 HI.out.1 HI.out.2.1 HI.out.2.2.1 HI.out.2.2.2.1 HI.out.2.2.2.2 rfl (HW6.out.o.alloc _) (some ⟨wq.heap.size, 0, none⟩) 1 1 (n2 + 1) [x] rfl (Row.str1 wq (x)) HN7.out.1 HN7.out.2.1 HN7.out.2.2 (by have := HW6.out.s; simp; omega) ?_; intro a7 c7 w7 hown7 hg7 hat7; have HW7 := hid (HW6.out.snoc hown7 hg7); have HBX7 := hid (HG6.out.app hg7 hat7); clear hown7 hg7 hat7; have hcx7 := HW7.out.x.1; have hlx7 := HW7.out.x.2.2)
             go_roundw
             case rel => exact ⟨1, n2 + 1, _, _, _, by omega, by go_num, rfl, by omega, HW7.out, by rw [HGS.out, if_pos HQ.out, HWS2.out, HGX.out, List.append_assoc], HBX7.out⟩
             case measure => simp [RowKit.intOf]
         · skip
           obtain ⟨qq, hqq⟩ : ∃ qq, qq = bt / 2 ^ 1 := ⟨_, rfl⟩
           have hw1 := wr2
           have hw2 : IntKind.i64.wrap ((bt : Int) / 2) = (qq : Int) := by rw [Go.IntWalk.i64_in _ (by omega), hqq]; omega
           obtain ⟨rr, hrr⟩ : ∃ rr, rr = qq % 2 := ⟨_, rfl⟩
           have hw3 : ((qq : Nat) : Int).tmod 2 = (rr : Int) := by rw [Int.tmod_eq_emod_of_nonneg (by omega)]; omega
           have HRR := hid hrr
           have hr2 : rr ≤ 1 := by omega
           have HGS := hid (guards_step bt 1 qq hqq.symm)
           have hqb : qq ≤ 15 := by rw [hqq]; omega
           clear hqq hrr
           have HW6 := hid (HW5.out.call (Below.refl _ _).drew)
           have HN7 : Hid ((ws2).length + 1 = n2 + 1 ∧ (n2 + 1) * 16 ≤ 140737488355328 ∧ n2 + 1 ≤ maxLen) := hid ⟨by have := HW6.out.o.len; omega, by omega, by unfold maxLen; omega⟩
           cases hb : ((rr : Int) == 1)
           · have HQ : Hid (qq % 2 ≠ 1) := hid (by have h1 := beq_eq_false_iff_ne.1 hb; have h2 := HRR.out; omega)
             refine wp_region_ordC 7 [(0, 0), (1, 0), (2, 0), (3, 0), (4, 0), (5, 0), (6, 0)] (fun _ => True) (fun W' => Bx W' w.heap.size #[.int .i64 9, .slice na 1 nc, .int .i64 0, .slice va 0 vc, .bool false, .int .i64 (bt : Nat)]) (by kernel_rfl) (by kernel_rfl) (trivial) (HW5.out.x) ?_
             repeat ((first | refine ordC_skip rfl rfl ?_ | refine ordC_skip1 rfl rfl ?_ | ((first | refine ordC_q rfl rfl ?_ | refine ordC_p rfl rfl ?_); apply Exists.intro; refine ⟨fun wS hS => ?_, ?_⟩; (go_simp; try with_reducible rfl))); simp only [Act.put, List.setIfInBounds_toArray, List.set_cons_zero, List.set_cons_succ])
             refine ordC_nil ?_
             go_wp2_with fail
             go_roundw
             case rel => exact ⟨2, n2, _, _, _, by omega, by go_num, rfl, by omega, HW6.out, by rw [HGS.out, if_neg HQ.out, HWS2.out, List.append_nil], HBX2.out⟩
             case measure => simp [RowKit.intOf]
           · have HQ : Hid (qq % 2 = 1) := hid (by have h1 := beq_iff_eq.1 hb; have h2 := HRR.out; omega)
             refine wp_region_ordC 7 [(0, 0), (1, 0), (2, 0), (3, 0), (4, 0), (5, 0), (6, 0)] (fun _ => True) (fun W' => Bx W' w.heap.size #[.int .i64 9, .slice na 1 nc, .int .i64 0, .slice va 0 vc, .bool false, .int .i64 (bt : Nat)]) (by kernel_rfl) (by kernel_rfl) (trivial) (HW5.out.x) ?_
             repeat ((first | refine ordC_skip rfl rfl ?_ | refine ordC_skip1 rfl rfl ?_ | ((first | refine ordC_q rfl rfl ?_ | refine ordC_p rfl rfl ?_); apply Exists.intro; refine ⟨fun wS hS => ?_, ?_⟩; (go_simp; try with_reducible rfl))); simp only [Act.put, List.setIfInBounds_toArray, List.set_cons_zero, List.set_cons_succ])
             refine ordC_nil ?_
             have HG6 : Hid (GOk wr.drew a2 n2 c2 gb go_ gc) := hid HBX2.out
             have hcx6 := HW6.out.x.1; have hlx6 := HW6.out.x.2.2
             generalize wr.drew = wq at HW6 HG6 hcx6 hlx6 ⊢
             go_wp2_with (at_builtin; refine wpList_app rfl _ _ 25 rfl i z 16 Tryz.underlying25 HI.out.1 HI.out.2.1 HI.out.2.2.1 HI.out.2.2.2.1 HI.out.2.2.2.2 rfl (HW6.out.o.alloc _) (some ⟨wq.heap.size, 0, none⟩) 1 1 (n2 + 1) [x] rfl (Row.str1 wq (x)) HN7.out.1 HN7.out.2.1 HN7.out.2.2 (by have := HW6.out.s; simp; omega) ?_; intro a7 c7 w7 hown7 hg7 hat7; have HW7 := hid (HW6.out.snoc hown7 hg7); have HBX7 := hid (HG6.out.app hg7 hat7); clear hown7 hg7 hat7; have hcx7 := HW7.out.x.1; have hlx7 := HW7.out.x.2.2)
             go_roundw
             case rel => exact ⟨2, n2 + 1, _, _, _, by omega, by go_num, rfl, by omega, HW7.out, by rw [HGS.out, if_pos HQ.out, HWS2.out, HGX.out, List.append_assoc], HBX7.out⟩
             case measure => simp [RowKit.intOf]
         · skip
           obtain ⟨qq, hqq⟩ : ∃ qq, qq = bt / 2 ^ 2 := ⟨_, rfl⟩
           have hw1 := wr4
           have hw2 : IntKind.i64.wrap ((bt : Int) / 4) = (qq : Int) := by rw [Go.IntWalk.i64_in _ (by omega), hqq]; omega
           obtain ⟨rr, hrr⟩ : ∃ rr, rr = qq % 2 := ⟨_, rfl⟩
           have hw3 : ((qq : Nat) : Int).tmod 2 = (rr : Int) := by rw [Int.tmod_eq_emod_of_nonneg (by omega)]; omega
           have HRR := hid hrr
           have hr2 : rr ≤ 1 := by omega
           have HGS := hid (guards_step bt 2 qq hqq.symm)
           have hqb : qq ≤ 15 := by rw [hqq]; omega
           clear hqq hrr
           have HW6 := hid (HW5.out.call (Below.refl _ _).drew)
           have HN7 : Hid ((ws2).length + 1 = n2 + 1 ∧ (n2 + 1) * 16 ≤ 140737488355328 ∧ n2 + 1 ≤ maxLen) := hid ⟨by have := HW6.out.o.len; omega, by omega, by unfold maxLen; omega⟩
           cases hb : ((rr : Int) == 1)
           · have HQ : Hid (qq % 2 ≠ 1) := hid (by have h1 := beq_eq_false_iff_ne.1 hb; have h2 := HRR.out; omega)
             refine wp_region_ordC 7 [(0, 0), (1, 0), (2, 0), (3, 0), (4, 0), (5, 0), (6, 0)] (fun _ => True) (fun W' => Bx W' w.heap.size #[.int .i64 9, .slice na 1 nc, .int .i64 0, .slice va 0 vc, .bool false, .int .i64 (bt : Nat)]) (by kernel_rfl) (by kernel_rfl) (trivial) (HW5.out.x) ?_
             repeat ((first | refine ordC_skip rfl rfl ?_ | refine ordC_skip1 rfl rfl ?_ | ((first | refine ordC_q rfl rfl ?_ | refine ordC_p rfl rfl ?_); apply Exists.intro; refine ⟨fun wS hS => ?_, ?_⟩; (go_simp; try with_reducible rfl))); simp only [Act.put, List.setIfInBounds_toArray, List.set_cons_zero, List.set_cons_succ])
             refine ordC_nil ?_
             go_wp2_with fail
             go_roundw
             case rel => exact ⟨3, n2, _, _, _, by omega, by go_num, rfl, by omega, HW6.out, by rw [HGS.out, if_neg HQ.out, HWS2.out, List.append_nil], HBX2.out⟩
             case measure => simp [RowKit.intOf]
           · have HQ : Hid (qq % 2 = 1) := hid (by have h1 := beq_iff_eq.1 hb; have h2 := HRR.out; omega)
             refine wp_region_ordC 7 [(0, 0), (1, 0), (2, 0), (3, 0), (4, 0), (5, 0), (6, 0)] (fun _ => True) (fun W' => Bx W' w.heap.size #[.int .i64 9, .slice na 1 nc, .int .i64 0, .slice va 0 vc, .bool false, .int .i64 (bt : Nat)]) (by kernel_rfl) (by kernel_rfl) (trivial) (HW5.out.x) ?_
             repeat ((first | refine ordC_skip rfl rfl ?_ | refine ordC_skip1 rfl rfl ?_ | ((first | refine ordC_q rfl rfl ?_ | refine ordC_p rfl rfl ?_); apply Exists.intro; refine ⟨fun wS hS => ?_, ?_⟩; (go_simp; try with_reducible rfl))); simp only [Act.put, List.setIfInBounds_toArray, List.set_cons_zero, List.set_cons_succ])
             refine ordC_nil ?_
             have HG6 : Hid (GOk wr.drew a2 n2 c2 gb go_ gc) := hid HBX2.out
             have hcx6 := HW6.out.x.1; have hlx6 := HW6.out.x.2.2
             generalize wr.drew = wq at HW6 HG6 hcx6 hlx6 ⊢
             go_wp2_with (at_builtin; refine wpList_app rfl _ _ 25 rfl i z 16 Tryz.underlying25 HI.out.1 HI.out.2.1 HI.out.2.2.1 HI.out.2.2.2.1 HI.out.2.2.2.2 rfl (HW6.out.o.alloc _) (some ⟨wq.heap.size, 0, none⟩) 1 1 (n2 + 1) [x] rfl (Row.str1 wq (x)) HN7.out.1 HN7.out.2.1 HN7.out.2.2 (by have := HW6.out.s; simp; omega) ?_; intro a7 c7 w7 hown7 hg7 hat7; have HW7 := hid (HW6.out.snoc hown7 hg7); have HBX7 := hid (HG6.out.app hg7 hat7); clear hown7 hg7 hat7; have hcx7 := HW7.out.x.1; have hlx7 := HW7.out.x.2.2)
             go_roundw
             case rel => exact ⟨3, n2 + 1, _, _, _, by omega, by go_num, rfl, by omega, HW7.out, by rw [HGS.out, if_pos HQ.out, HWS2.out, HGX.out, List.append_assoc], HBX7.out⟩
             case measure => simp [RowKit.intOf]
         · skip
           obtain ⟨qq, hqq⟩ : ∃ qq, qq = bt / 2 ^ 3 := ⟨_, rfl⟩
           have hw1 := wr8
           have hw2 : IntKind.i64.wrap ((bt : Int) / 8) = (qq : Int) := by rw [Go.IntWalk.i64_in _ (by omega), hqq]; omega
           obtain ⟨rr, hrr⟩ : ∃ rr, rr = qq % 2 := ⟨_, rfl⟩
           have hw3 : ((qq : Nat) : Int).tmod 2 = (rr : Int) := by rw [Int.tmod_eq_emod_of_nonneg (by omega)]; omega
           have HRR := hid hrr
           have hr2 : rr ≤ 1 := by omega
           have HGS := hid (guards_step bt 3 qq hqq.symm)
           have hqb : qq ≤ 15 := by rw [hqq]; omega
           clear hqq hrr
           have HW6 := hid (HW5.out.call (Below.refl _ _).drew)
           have HN7 : Hid ((ws2).length + 1 = n2 + 1 ∧ (n2 + 1) * 16 ≤ 140737488355328 ∧ n2 + 1 ≤ maxLen) := hid ⟨by have := HW6.out.o.len; omega, by omega, by unfold maxLen; omega⟩
           cases hb : ((rr : Int) == 1)
           · have HQ : Hid (qq % 2 ≠ 1) := hid (by have h1 := beq_eq_false_iff_ne.1 hb; have h2 := HRR.out; omega)
             refine wp_region_ordC 7 [(0, 0), (1, 0), (2, 0), (3, 0), (4, 0), (5, 0), (6, 0)] (fun _ => True) (fun W' => Bx W' w.heap.size #[.int .i64 9, .slice na 1 nc, .int .i64 0, .slice va 0 vc, .bool false, .int .i64 (bt : Nat)]) (by kernel_rfl) (by kernel_rfl) (trivial) (HW5.out.x) ?_
             repeat ((first | refine ordC_skip rfl rfl ?_ | refine ordC_skip1 rfl rfl ?_ | ((first | refine ordC_q rfl rfl ?_ | refine ordC_p rfl rfl ?_); apply Exists.intro; refine ⟨fun wS hS => ?_, ?_⟩; (go_simp; try with_reducible rfl))); simp only [Act.put, List.setIfInBounds_toArray, List.set_cons_zero, List.set_cons_succ])
             refine ordC_nil ?_
             go_wp2_with fail
             go_roundw
             case rel => exact ⟨4, n2, _, _, _, by omega, by go_num, rfl, by omega, HW6.out, by rw [HGS.out, if_neg HQ.out, HWS2.out, List.append_nil], HBX2.out⟩
             case measure => simp [RowKit.intOf]
           · have HQ : Hid (qq % 2 = 1) := hid (by have h1 := beq_iff_eq.1 hb; have h2 := HRR.out; omega)
             refine wp_region_ordC 7 [(0, 0), (1, 0), (2, 0), (3, 0), (4, 0), (5, 0), (6, 0)] (fun _ => True) (fun W' => Bx W' w.heap.size #[.int .i64 9, .slice na 1 nc, .int .i64 0, .slice va 0 vc, .bool false, .int .i64 (bt : Nat)]) (by kernel_rfl) (by kernel_rfl) (trivial) (HW5.out.x) ?_
             repeat ((first | refine ordC_skip rfl rfl ?_ | refine ordC_skip1 rfl rfl ?_ | ((first | refine ordC_q rfl rfl ?_ | refine ordC_p rfl rfl ?_); apply Exists.intro; refine ⟨fun wS hS => ?_, ?_⟩; (go_simp; try with_reducible rfl))); simp only [Act.put, List.setIfInBounds_toArray, List.set_cons_zero, List.set_cons_succ])
             refine ordC_nil ?_
             have HG6 : Hid (GOk wr.drew a2 n2 c2 gb go_ gc) := hid HBX2.out
             have hcx6 := HW6.out.x.1; have hlx6 := HW6.out.x.2.2
             generalize wr.drew = wq at HW6 HG6 hcx6 hlx6 ⊢
             go_wp2_with (at_builtin; refine wpList_app rfl _ _ 25 rfl i z 16 Tryz.underlying25 HI.out.1 HI.out.2.1 HI.out.2.2.1 HI.out.2.2.2.1 HI.out.2.2.2.2 rfl (HW6.out.o.alloc _) (some ⟨wq.heap.size, 0, none⟩) 1 1 (n2 + 1) [x] rfl (Row.str1 wq (x)) HN7.out.1 HN7.out.2.1 HN7.out.2.2 (by have := HW6.out.s; simp; omega) ?_; intro a7 c7 w7 hown7 hg7 hat7; have HW7 := hid (HW6.out.snoc hown7 hg7); have HBX7 := hid (HG6.out.app hg7 hat7); clear hown7 hg7 hat7; have hcx7 := HW7.out.x.1; have hlx7 := HW7.out.x.2.2)
             go_roundw
             case rel => exact ⟨4, n2 + 1, _, _, _, by omega, by go_num, rfl, by omega, HW7.out, by rw [HGS.out, if_pos HQ.out, HWS2.out, HGX.out, List.append_assoc], HBX7.out⟩
             case measure => simp [RowKit.intOf]
       · obtain rfl : j = 4 := by omega
         have hcx := HW5.out.x.1; have hlx := HW5.out.x.2.2
         go_wp2_with fail
         go_ret
         have := HW5.out.ret
         rw [show ws2 = wordsS ⟨9, names, 0, vers, false, (bt : Nat)⟩ from by rw [HWS2.out, HWS.out]; simp [wordsS, formN, formR, HLEN.out, List.take_of_length_le, List.drop_of_length_le, guardsW]] at this
         exact this
end Yd


namespace Yd
open Go Go.RowKit Go.Proofs

theorem r_words_all {w : World} {B : Nat} {l : LnC} {s : LnS} (h : LnAt w B l s) (hs : lineOk s) : ∀ W, Below w.heap.size w W → Calls Tryz.prog 47 #[valLn l] W (RetOwn 9 1 encStr (wordsS s) W) := by
 intro W hW
 have hlen := hs.len
 have hrn : Row W 1 encStr l.na l.nn l.nc s.names := (h.2.1.row (hc := cInsStr) (by omega)).below hW rfl
 have hrv : Row W 2 encTo l.va l.vn l.vc s.vers := (h.2.2.row (hc := cInsTo) (by omega)).below hW rfl
 obtain ⟨⟨e1, e2, e3, e4, e5, e6⟩, _, _⟩ := h
 obtain ⟨_, hwv, hc⟩ := hs
 obtain ⟨lk, na, nn, nc, ll, va, vn, vc, lf, lb⟩ := l
 obtain ⟨sk, names, sl, vers, sf, sb⟩ := s
 simp only at e1 e2 e3 e4 e5 e6 hrn hrv hwv hc
 rcases hc with hc | hc | hc | hc | hc | hc | hc | hc | hc
 · obtain ⟨hk, hn, hv, ⟨lv, hl, h1, h4⟩, hf, hb⟩ := hc
   rw [hn] at e5
   rw [hv] at e6
   simp only [List.length_nil] at e6
   subst e1 e2 e3 e4 e5 e6
   subst hk hl hf hb
   exact r_words_1 na nc va vc lv h1 h4 names vers W hrn hrv hwv
 · obtain ⟨hk, hn, hv, hl, hf, hb⟩ := hc
   rw [hn] at e5
   rw [hv] at e6
   simp only [List.length_nil] at e6
   subst e1 e2 e3 e4 e5 e6
   subst hk hl hf hb
   exact r_words_2 na nc va vc names vers W hrn hrv hwv
 · obtain ⟨hk, hn, hv, hl, hf, hb⟩ := hc
   rw [hn] at e5
   rw [hv] at e6
   subst e1 e2 e3 e4 e5 e6
   subst hk hl hf hb
   exact r_words_3 na nc va vc names vers W hrn hrv hwv
 · obtain ⟨hk, ⟨c, hn, hv, h1⟩, _, hl, hf, hb⟩ := hc
   rw [hn] at e5
   rw [hv] at e6
   subst e1 e2 e3 e4 e5 e6
   subst hk hl hf hb
   exact r_words_4 na nc va vc _ h1 names vers W hrn hrv hwv
 · obtain ⟨hk, hn, hv, hl, hf, hb⟩ := hc
   rw [hn] at e5
   rw [hv] at e6
   simp only [List.length_nil] at e6
   subst e1 e2 e3 e4 e5 e6
   subst hk hl hf hb
   exact r_words_5 na nc va vc names vers W hrn hrv hwv
 · obtain ⟨hk, hn, hv, hl, hf, hb⟩ := hc
   rw [hn] at e5
   rw [hv] at e6
   simp only [List.length_nil] at e6
   subst e1 e2 e3 e4 e5 e6
   subst hk hl hf hb
   exact r_words_6 na nc va vc names vers W hrn hrv hwv
 · obtain ⟨hk, ⟨c, hn, h1⟩, hv, hl, hf, hb⟩ := hc
   rw [hn] at e5
   rw [hv] at e6
   simp only [List.length_nil] at e6
   subst e1 e2 e3 e4 e5 e6
   subst hk hl hf hb
   exact r_words_7 na nc va vc c h1 names vers W hrn hrv hwv
 · obtain ⟨hk, ⟨c, hn, h1⟩, hv, hl, _, hb⟩ := hc
   rw [hn] at e5
   rw [hv] at e6
   simp only [List.length_nil] at e6
   subst e1 e2 e3 e4 e5 e6
   subst hk hl hb
   exact r_words_8 na nc va vc c h1 lf names vers W hrn hrv hwv
 · obtain ⟨hk, hn, hv, hl, hf, ⟨b, hb, h1⟩⟩ := hc
   rw [hn] at e5
   rw [hv] at e6
   simp only [List.length_nil] at e6
   subst e1 e2 e3 e4 e5 e6
   subst hk hl hf hb
   exact r_words_9 na nc va vc b h1 names vers W hrn hrv hwv
theorem r_textLine {w : World} {B : Nat} {l : LnC} {s : LnS} (h : LnAt w B l s) (hs : lineOk s) : Calls Tryz.prog 16 #[valLn l] w (Ret (.string ⟨(textS s).toArray⟩) w) := by
 have hk : 0 < l.kind := by
   have h1 : l.kind = s.kind := h.1.1
   rcases hs.2.2 with hc | hc | hc | hc | hc | hc | hc | hc | hc <;> (have h2 := hc.1; omega)
 have hwl := words_len s hs.1 hs.2.1
 have hn : (wordsS s).length ≤ 100000 := by have := words_count hs.len.1 hs.len.2; omega
 exact r_Text12 l (wordsS s) w hk hwl hn (r_words_all h hs)
end Yd
