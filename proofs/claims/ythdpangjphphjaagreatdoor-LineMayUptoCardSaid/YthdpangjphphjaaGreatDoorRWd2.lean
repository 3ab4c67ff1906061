import Derived.Test.YthdpangjphphjaaGreatDoorOwn12
import Derived.Test.YthdpangjphphjaaGreatDoorProg
import Derived.Test.YthdpangjphphjaaGreatDoorOrdIn
import Derived.Test.YthdpangjphphjaaGreatDoorOf
import Derived.Test.YthdpangjphphjaaGreatDoorChB0
import Derived.Test.YthdpangjphphjaaGreatDoorLineK
set_option maxRecDepth 200000
set_option maxHeartbeats 8000000
namespace Yd
open Go Go.RowKit Go.Proofs
attribute [local go_sem] Oper.semAt_some

theorem joinTail_snoc (sep : Bs) (r : List Bs) (x : Bs) : Lib.joinTail sep (r ++ [x]) = Lib.joinTail sep r ++ (sep ++ x) := by simp [Lib.joinTail]
theorem join_step {ws : List Bs} {k : Nat} {x : Bs} (h : ws[k]? = some x) : Lib.join (ws.take (k + 1)) [32] = if k = 0 then x else Lib.join (ws.take k) [32] ++ ([32] ++ x) := by
 rw [List.take_add_one, h, Option.toList_some]
 cases k with
 | zero => simp [Lib.join_one]
 | succ k =>
   rw [if_neg (by omega)]
   cases ws with
   | nil => simp at h
   | cons y r =>
     rw [List.take_succ_cons, List.cons_append, Lib.join_cons, Lib.join_cons, joinTail_snoc, List.append_assoc]
theorem r_Text12 (l : LnC) (ws : List Bs) (w : World) (hk : 0 < l.kind) (hlen : ∀ x ∈ ws, x.length ≤ 40) (hn : ws.length ≤ 100000)
   (hws : ∀ W, Below w.heap.size w W → Calls Tryz.prog 47 #[valLn l] W (RetOwn 9 1 encStr ws W)) :
   Calls Tryz.prog 16 #[valLn l] w (Ret (.string ⟨(Lib.join ws [32] ++ [10]).toArray⟩) w) := by
 obtain ⟨xk, na, nn, nc, xl, va, vn, vc, xf, xb⟩ := l
 have hkp : (xk > 0) := hk
 have HB := hid (belowA (Below.refl w.heap.size w) (.cells #[.int .i64 xk, .slice na nn nc, .int .i64 xl, .slice va vn vc, .bool xf, .int .i64 xb] 28))
 have HW := hid (hws _ HB.out)
 have HX := hid (Bx.new w #[.int .i64 xk, .slice na nn nc, .int .i64 xl, .slice va vn vc, .bool xf, .int .i64 xb] 28)
 have HJL := hid (fun k => join_len (ws.take k) (fun x hx => hlen x (List.mem_of_mem_take hx)))
 have HLEN := hid hlen
 clear hk hws hlen
 go_enter Tryz.func16, Tryz.ntmps16
 have hcx := HX.out.1; have hlx := HX.out.2.2
 go_wp2_with fail
 refine HW.out.mono ?_
 rintro e w1 ⟨a, c, rfl, ho, hb1⟩
 have HB1 := hid (HB.out.trans (hb1.mono HB.out.size))
 have HR := hid (ho.row (hc := cInsStr) (by omega))
 obtain ⟨n, hnn⟩ : ∃ n, n = ws.length := ⟨_, rfl⟩
 rw [← hnn] at HR
 have HNN := hid hnn
 rw [← hnn] at hn
 rw [← hnn]
 clear hb1 ho hcx hlx hnn
 go_wp2_with fail
 go_loopw [3, 12] (fun v i wr => ∃ (k : Nat) (jj : Bs), k ≤ n ∧ i = .int .i64 k ∧ v = .string ⟨jj.toArray⟩ ∧ jj = Lib.join (ws.take k) [32] ∧ Below w1.heap.size w1 wr) (fun _ i _ => n - (RowKit.intOf i).toNat)
 case atStart => exact ⟨0, [], Nat.zero_le _, rfl, rfl, rfl, Below.refl _ _⟩
 case round =>
   obtain ⟨k, jj, hk, rfl, rfl, hj, hb⟩ := hrel
   have HJ := hid hj; have HBR := hid hb
   clear hj hb
   have hjl : jj.length ≤ 41 * k := by rw [HJ.out]; exact Nat.le_trans (HJL.out k) (Nat.mul_le_mul_left _ (by rw [List.length_take]; omega))
   by_cases hlt : k < n
   · obtain ⟨x, b, o, hx, rfl, hc⟩ := (HR.out.below HBR.out rfl).at_ hlt
     have f0 := hc 0 _ rfl
     simp only [Nat.mul_one, Nat.add_zero] at f0
     have hx40 := HLEN.out x (List.mem_of_getElem? hx)
     have HST := hid (join_step hx)
     have hN0 : ¬ (9223372036854775807 < jj.length + x.length) := by omega
     have hN1 : ¬ (9223372036854775807 < jj.length + 1) := by omega
     have hN2 : ¬ (9223372036854775807 < jj.length + 1 + x.length) := by omega
     clear hc hx hjl
     by_cases h0 : k = 0
     · have HJ0 : Hid (jj = []) := hid (by rw [HJ.out, h0]; rfl)
       have hk0 : ¬ ((k : Int) > 0) := by omega
       have HK0 := hid h0
       clear h0
       go_wp2_with fail
       go_roundw
       case rel => exact ⟨k + 1, jj ++ x, by omega, by go_num, by rw [cat2], by rw [HST.out, if_pos HK0.out, HJ0.out]; rfl, HBR.out⟩
       case measure => simp [RowKit.intOf]; omega
     · have hk0 : ((k : Int) > 0) := by omega
       go_wp2_with fail
       go_roundw
       case rel => exact ⟨k + 1, jj ++ ([32] ++ x), by omega, by go_num, congrArg Value.string (cat3 jj [32] x), by rw [HST.out, if_neg h0, HJ.out], HBR.out⟩
       case measure => simp [RowKit.intOf]; omega
   · obtain rfl : n = k := by omega
     have hN1 : ¬ (9223372036854775807 < jj.length + 1) := by omega
     have HJF : Hid (jj = Lib.join ws [32]) := hid (by rw [HJ.out, List.take_of_length_le (by rw [HNN.out]; exact Nat.le_refl _)])
     go_wp2_with fail
     go_ret
     exact ⟨by rw [← HJF.out]; exact congrArg (fun s => Ending.returned (.string s)) (cat2 jj [10]), HB1.out.trans (HBR.out.mono HB1.out.size)⟩
end Yd


namespace Yd
open Go Go.RowKit Go.Proofs
attribute [local go_sem] Oper.semAt_some

theorem bytes_str (W : World) (bb oo c0 : Nat) (ds : Bs) (hrow : Row W 1 encU8 (some ⟨bb, oo, none⟩) ds.length c0 ds) : (convert 99 9 (.slice (some ⟨bb, oo, none⟩) ds.length c0)).run Tryz.prog W = .ok (.string ⟨ds.toArray⟩) W := by
 have hcv := run_convert_bytes_arg (P := Tryz.prog) W 99 5 Tryz.underlying99 Tryz.underlying5 bb oo ds.length c0 (ds.map (fun u => (u.toNat : Int))) (by simp) (fun i hi => by
   obtain ⟨x, b', o', hx, hab, hc⟩ := hrow.at_ hi
   cases hab
   have := hc 0 _ rfl
   rw [Nat.mul_one, Nat.add_zero] at this
   rw [this, List.getD_eq_getElem?_getD, List.getElem?_map, hx]; rfl) 9 Tryz.underlying9
 have hst : strOfNums (ds.map (fun u => (u.toNat : Int))) = ⟨ds.toArray⟩ := by
   unfold strOfNums
   rw [List.map_map]
   congr 2
   conv => rhs; rw [← List.map_id ds]
   apply List.map_congr_left
   intro u _
   simp
 rw [hst] at hcv
 exact hcv
theorem r_digits (n : Nat) : 1 ≤ n → n ≤ 100000 → ∀ w, Calls Tryz.prog 144 #[.int .u64 n] w (Ret (.string ⟨(digs n).toArray⟩) w) := by
 induction n using Nat.strongRecOn with
 | ind n ih =>
   intro h1 hn w
   have hrow := (Own.newU8 w w.heap.size n (Nat.le_refl _)).row (hc := cInsU8) (by simp)
   have hcv := bytes_str _ _ _ _ [UInt8.ofNat (48 + n % 10)] hrow
   simp only [List.length_cons, List.length_nil, Nat.zero_add] at hcv
   have hst := fun h : 0 < n => digs_step h
   obtain ⟨u, hu⟩ : ∃ u, u = UInt8.ofNat (48 + n % 10) := ⟨_, rfl⟩
   rw [← hu] at hcv hst
   have hb := belowA (Below.refl w.heap.size w) (.cells #[.int .u8 (48 + (n : Int) % 10)] 5)
   have HB := hid hb
   have HGT : ((10 : Int) > 0) := by decide
   by_cases h10 : 10 ≤ n
   · have HIH := hid (fun W => ih (n / 10) (by omega) (by omega) (by omega) W)
     have HD : Hid (digs n = digs (n / 10) ++ [u]) := hid (hst (by omega))
     have hl := digs_len 5 (n / 10) (by omega)
     have hN : ¬ (9223372036854775807 < (digs (n / 10)).length + 1) := by omega
     have hge : (10 : Int) ≤ (n : Int) := by omega
     clear hrow hb ih h10 hl hst hu
     go_enter Tryz.func144, Tryz.ntmps144
     go_wp2_with fail
     refine (HIH.out _).mono ?_
     rintro e w1 ⟨rfl, hb1⟩
     have HB1 := hid (HB.out.trans (hb1.mono HB.out.size))
     clear hb1
     go_wp2_with fail
     go_ret
     exact ⟨by rw [HD.out]; exact congrArg (fun s => Ending.returned (.string s)) (cat2 (digs (n / 10)) [u]), HB1.out⟩
   · have HD : Hid (digs n = [u]) := hid (by rw [hst (by omega), show n / 10 = 0 by omega]; rfl)
     have hge : ¬ (10 : Int) ≤ (n : Int) := by omega
     clear hrow hb ih h10 hst hu
     go_enter Tryz.func144, Tryz.ntmps144
     go_wp2_with fail
     go_ret
     exact ⟨by rw [HD.out]; rfl, HB.out⟩
theorem r_Text01 (n : Nat) (h1 : 1 ≤ n) (hn : n ≤ 100000) (w : World) : Calls Tryz.prog 129 #[.int .i64 n] w (Ret (.string ⟨(digs n).toArray⟩) w) := by
 have HD := hid (fun W => r_digits n h1 hn W)
 go_enter Tryz.func129, Tryz.ntmps129
 go_wp2_with fail
 refine (HD.out _).mono ?_
 rintro e w1 ⟨rfl, hb1⟩
 have HB1 := hid hb1
 clear hb1
 go_wp2_with fail
 go_ret
 exact ⟨rfl, HB1.out⟩
theorem r_told12 (t : To) (h0 : 0 ≤ t.k) (h9 : t.k ≤ 999) (hn : t.name.length ≤ 100000) (w : World) : Calls Tryz.prog 103 #[valTo t] w (Ret (.string ⟨(toldT t).toArray⟩) w) := by
 obtain ⟨n, k⟩ := t
 simp only at h0 h9 hn
 obtain ⟨m, rfl⟩ : ∃ m : Nat, k = m := ⟨k.toNat, by omega⟩
 by_cases hm : m = 0
 · subst hm
   go_enter Tryz.func103, Tryz.ntmps103
   go_wp2_with fail
   go_ret
   exact ⟨rfl, belowA (Below.refl _ _) _⟩
 · have hk : ((m : Int) == 0) = false := beq_eq_false_iff_ne.2 (by omega)
   have hq : toldT ⟨n, m⟩ = n ++ 46 :: digs m := by
     unfold toldT
     rw [if_neg (by simpa using hm), Int.toNat_natCast]
   rw [hq]
   have HD := fun W => hid (r_Text01 m (by omega) (by omega) W)
   have HB := hid (belowA (Below.refl w.heap.size w) (.cells #[.string ⟨n.toArray⟩, .int .i64 m] 67))
   have HX := hid (Bx.new w #[.string ⟨n.toArray⟩, .int .i64 m] 67)
   have hd3 : (digs m).length ≤ 3 := digs_len 3 m (by omega)
   have hN1 : ¬ (9223372036854775807 < n.length + 1) := by omega
   have hN2 : ¬ (9223372036854775807 < n.length + 1 + (digs m).length) := by omega
   clear hq h0 h9
   go_enter Tryz.func103, Tryz.ntmps103
   go_wp2_with fail
   refine wp_region_ordC 8 [(0, 0), (1, 0), (2, 0), (3, 0), (4, 0), (5, 2), (6, 0), (7, 0)] (fun _ => True) (fun W' => W'.cell? ⟨w.heap.size, 0, none⟩ = some (.string ⟨n.toArray⟩) ∧ W'.cell? ⟨w.heap.size, 1, none⟩ = some (.int .i64 m)) (by kernel_rfl) (by kernel_rfl) (trivial) (⟨HX.out.1 0, HX.out.1 1⟩) ?_
   repeat ((first | refine ordC_skip rfl rfl ?_ | refine ordC_skip1 rfl rfl ?_ | ((first | refine ordC_q rfl rfl ?_ | refine ordC_p rfl rfl ?_); apply Exists.intro; refine ⟨fun wS hS => ?_, ?_⟩; (go_simp; try with_reducible rfl))); simp only [Act.put, List.setIfInBounds_toArray, List.set_cons_zero, List.set_cons_succ])
   refine ordC_l rfl rfl (fun K hK => ?_)
   go_simp
   refine (HD _).out.mono ?_
   rintro en w2 ⟨rfl, hb2⟩
   have HB2 := hid (HB.out.drew.trans (hb2.mono HB.out.drew.size))
   refine hK _ _ ⟨trivial, (HX.out.drew.keep hb2).1 0, (HX.out.drew.keep hb2).1 1⟩ ?_
   clear hK K hb2
   repeat ((first | refine ordC_skip rfl rfl ?_ | refine ordC_skip1 rfl rfl ?_ | ((first | refine ordC_q rfl rfl ?_ | refine ordC_p rfl rfl ?_); apply Exists.intro; refine ⟨fun wS hS => ?_, ?_⟩; (go_simp; try with_reducible rfl))); simp only [Act.put, List.setIfInBounds_toArray, List.set_cons_zero, List.set_cons_succ])
   refine ordC_nil ?_
   go_wp2_with fail
   go_ret
   exact ⟨congrArg (fun s => Ending.returned (.string s)) (cat3 n [46] (digs m)), HB2.out⟩
end Yd


namespace Yd
open Go Go.RowKit Go.Proofs
attribute [local go_sem] Oper.semAt_some

theorem ixL0 (w : World) : (Instr.index 131 (.agg #[.string ⟨#[]⟩, .string ⟨#[49]⟩, .string ⟨#[50]⟩, .string ⟨#[50, 46, 57, 57]⟩, .string ⟨#[51]⟩]) (.int .i64 0)).run Tryz.prog w = .ok (.string ⟨#[]⟩) w := by kernel_rfl
theorem ixL1 (w : World) : (Instr.index 131 (.agg #[.string ⟨#[]⟩, .string ⟨#[49]⟩, .string ⟨#[50]⟩, .string ⟨#[50, 46, 57, 57]⟩, .string ⟨#[51]⟩]) (.int .i64 1)).run Tryz.prog w = .ok (.string ⟨#[49]⟩) w := by kernel_rfl
theorem ixL2 (w : World) : (Instr.index 131 (.agg #[.string ⟨#[]⟩, .string ⟨#[49]⟩, .string ⟨#[50]⟩, .string ⟨#[50, 46, 57, 57]⟩, .string ⟨#[51]⟩]) (.int .i64 2)).run Tryz.prog w = .ok (.string ⟨#[50]⟩) w := by kernel_rfl
theorem ixL3 (w : World) : (Instr.index 131 (.agg #[.string ⟨#[]⟩, .string ⟨#[49]⟩, .string ⟨#[50]⟩, .string ⟨#[50, 46, 57, 57]⟩, .string ⟨#[51]⟩]) (.int .i64 3)).run Tryz.prog w = .ok (.string ⟨#[50, 46, 57, 57]⟩) w := by kernel_rfl
theorem ixL4 (w : World) : (Instr.index 131 (.agg #[.string ⟨#[]⟩, .string ⟨#[49]⟩, .string ⟨#[50]⟩, .string ⟨#[50, 46, 57, 57]⟩, .string ⟨#[51]⟩]) (.int .i64 4)).run Tryz.prog w = .ok (.string ⟨#[51]⟩) w := by kernel_rfl
theorem r_Text09 (n : Nat) (hn : n < 5) (w : World) : Calls Tryz.prog 104 #[.int .i64 n] w (Ret (.string ⟨(levelT n).toArray⟩) w) := by
 match n, hn with
 | 0, _ =>
   have hix := ixL0
   go_enter Tryz.func104, Tryz.ntmps104
   go_wp2_with fail
   go_ret
   exact ⟨rfl, Below.refl _ _⟩
 | 1, _ =>
   have hix := ixL1
   go_enter Tryz.func104, Tryz.ntmps104
   go_wp2_with fail
   go_ret
   exact ⟨rfl, Below.refl _ _⟩
 | 2, _ =>
   have hix := ixL2
   go_enter Tryz.func104, Tryz.ntmps104
   go_wp2_with fail
   go_ret
   exact ⟨rfl, Below.refl _ _⟩
 | 3, _ =>
   have hix := ixL3
   go_enter Tryz.func104, Tryz.ntmps104
   go_wp2_with fail
   go_ret
   exact ⟨rfl, Below.refl _ _⟩
 | 4, _ =>
   have hix := ixL4
   go_enter Tryz.func104, Tryz.ntmps104
   go_wp2_with fail
   go_ret
   exact ⟨rfl, Below.refl _ _⟩
theorem r_verbs (w : World) : Calls Tryz.prog 31 #[] w (RetOwn 9 1 encStr ([[], [98, 101, 103, 105, 110], [119, 114, 105, 116, 101], [114, 101, 97, 100], [115, 99, 97, 110], [99, 111, 109, 109, 105, 116], [97, 98, 111, 114, 116], [111, 114, 100, 101, 114], [109, 97, 116, 99, 104], [119, 97, 110, 116]] : List Bs) w) := by
 have HO := hid (Own.new (hc := cInsStr) w w.heap.size 9 (enc := encStr) #[.string ⟨#[]⟩, .string ⟨#[98, 101, 103, 105, 110]⟩, .string ⟨#[119, 114, 105, 116, 101]⟩, .string ⟨#[114, 101, 97, 100]⟩, .string ⟨#[115, 99, 97, 110]⟩, .string ⟨#[99, 111, 109, 109, 105, 116]⟩, .string ⟨#[97, 98, 111, 114, 116]⟩, .string ⟨#[111, 114, 100, 101, 114]⟩, .string ⟨#[109, 97, 116, 99, 104]⟩, .string ⟨#[119, 97, 110, 116]⟩] ([[], [98, 101, 103, 105, 110], [119, 114, 105, 116, 101], [114, 101, 97, 100], [115, 99, 97, 110], [99, 111, 109, 109, 105, 116], [97, 98, 111, 114, 116], [111, 114, 100, 101, 114], [109, 97, 116, 99, 104], [119, 97, 110, 116]] : List Bs) (Nat.le_refl _) rfl (by simp [maxLen]))
 have HB := hid (belowA (Below.refl w.heap.size w) (.cells #[.string ⟨#[]⟩, .string ⟨#[98, 101, 103, 105, 110]⟩, .string ⟨#[119, 114, 105, 116, 101]⟩, .string ⟨#[114, 101, 97, 100]⟩, .string ⟨#[115, 99, 97, 110]⟩, .string ⟨#[99, 111, 109, 109, 105, 116]⟩, .string ⟨#[97, 98, 111, 114, 116]⟩, .string ⟨#[111, 114, 100, 101, 114]⟩, .string ⟨#[109, 97, 116, 99, 104]⟩, .string ⟨#[119, 97, 110, 116]⟩] 9))
 go_enter Tryz.func31, Tryz.ntmps31
 go_wp2_with fail
 go_ret
 exact ⟨_, _, rfl, HO.out, HB.out⟩
theorem r_guards (w : World) : Calls Tryz.prog 93 #[] w (RetOwn 9 1 encStr ([[114, 121, 119], [109, 114], [109, 119], [119, 102, 114]] : List Bs) w) := by
 have HO := hid (Own.new (hc := cInsStr) w w.heap.size 9 (enc := encStr) #[.string ⟨#[114, 121, 119]⟩, .string ⟨#[109, 114]⟩, .string ⟨#[109, 119]⟩, .string ⟨#[119, 102, 114]⟩] ([[114, 121, 119], [109, 114], [109, 119], [119, 102, 114]] : List Bs) (Nat.le_refl _) rfl (by simp [maxLen]))
 have HB := hid (belowA (Below.refl w.heap.size w) (.cells #[.string ⟨#[114, 121, 119]⟩, .string ⟨#[109, 114]⟩, .string ⟨#[109, 119]⟩, .string ⟨#[119, 102, 114]⟩] 9))
 go_enter Tryz.func93, Tryz.ntmps93
 go_wp2_with fail
 go_ret
 exact ⟨_, _, rfl, HO.out, HB.out⟩
end Yd


namespace Yd
open Go Go.RowKit Go.Proofs

structure WsAt (w X : World) (cl : Array Value) (a : Option Addr) (n c : Nat) (ws : List Bs) : Prop where
 x : Bx X w.heap.size cl
 o : Own X (w.heap.size + 1) 9 1 encStr (.slice a n c) ws
 b : Below w.heap.size w X
 s : w.heap.size + 1 ≤ X.heap.size
theorem WsAt.snoc {w X X' : World} {cl : Array Value} {a a' : Option Addr} {n c c' : Nat} {ws : List Bs} {s : Bs} (h : WsAt w X cl a n c ws)
   (hown : Own X' (w.heap.size + 1) 9 1 encStr (.slice a' (n + 1) c') (ws ++ [s])) (hg : (X.alloc (.cells #[.string ⟨s.toArray⟩] 9)).grownBy X' (Value.slice a n c).ownBlock) : WsAt w X' cl a' (n + 1) c' (ws ++ [s]) :=
 ⟨(h.x.alloc _).grown hg (fun e => by have := (h.o.lt _ e).1; omega), hown,
   below_app (h.b.alloc h.b.size _) (h.o.alloc _) (by omega) (by have := h.s; simp; omega) hg, by have := hg.size; have := h.s; simp at *; omega⟩
theorem WsAt.call {w X X' : World} {cl : Array Value} {a : Option Addr} {n c : Nat} {ws : List Bs} (h : WsAt w X cl a n c ws) (hb : Below X.heap.size X X') : WsAt w X' cl a n c ws :=
 ⟨h.x.keep hb, h.o.below hb rfl, h.b.trans (hb.mono h.b.size), Nat.le_trans h.s hb.size⟩
theorem WsAt.ret {w X : World} {cl : Array Value} {a : Option Addr} {n c : Nat} {ws : List Bs} (h : WsAt w X cl a n c ws) : RetOwn 9 1 encStr ws w (.returned (.slice a n c)) X := by
 have hn := h.o.len
 subst hn
 exact ⟨a, c, rfl, h.o.mono (by omega), h.b⟩
end Yd


namespace Yd
open Go Go.RowKit Go.Proofs
attribute [local go_sem] Oper.semAt_some

theorem r_words_1 (na : Option Addr) (nc : Nat) (va : Option Addr) (vc : Nat) (lv : Nat) (h1 : 1 ≤ lv) (h4 : lv ≤ 4) (names : List Bs) (vers : List To) (w : World) (hrn : Row w 1 encStr na 2 nc names) (hrv : Row w 2 encTo va 0 vc vers) (hwv : ∀ t ∈ vers, toOk t) :
   Calls Tryz.prog 47 #[valLn ⟨1, na, 2, nc, (lv : Nat), va, 0, vc, false, 0⟩] w (RetOwn 9 1 encStr (wordsS ⟨1, names, (lv : Nat), vers, false, 0⟩) w) := by
 obtain ⟨i, z, hi, hz, hsize, hby', hzs⟩ := partsStr
 have HI := hid (⟨hi, hz, hsize, hby', hzs⟩ : _ ∧ _ ∧ _ ∧ _ ∧ _)
 have HRN := hid hrn; have HRV := hid hrv; have HWV := hid hwv
 have HB0 := hid (belowA (Below.refl w.heap.size w) (.cells #[.int .i64 1, .slice na 2 nc, .int .i64 (lv : Nat), .slice va 0 vc, .bool false, .int .i64 0] 28))
 have HX0 := hid (Bx.new w #[.int .i64 1, .slice na 2 nc, .int .i64 (lv : Nat), .slice va 0 vc, .bool false, .int .i64 0] 28)
 have hle := hrn.le; have hcap := hrn.cap; have hlen := hrn.len
 have HLEN := hid hlen
 clear hi hz hsize hby' hzs hrn hrv hwv
 go_enter Tryz.func47, Tryz.ntmps47
 go_wp2_with fail
 refine wp_region_ordC 6 [(1, 0), (2, 0), (0, 2), (3, 0), (4, 2), (5, 2), (6, 1)] (fun _ => True) (fun W' => Bx W' w.heap.size #[.int .i64 1, .slice na 2 nc, .int .i64 (lv : Nat), .slice va 0 vc, .bool false, .int .i64 0]) (by kernel_rfl) (by kernel_rfl) (trivial) (HX0.out) ?_
 repeat ((first | refine ordC_skip rfl rfl ?_ | refine ordC_skip1 rfl rfl ?_ | ((first | refine ordC_q rfl rfl ?_ | refine ordC_p rfl rfl ?_); apply Exists.intro; refine ⟨fun wS hS => ?_, ?_⟩; (go_simp; try with_reducible rfl))); simp only [Act.put, List.setIfInBounds_toArray, List.set_cons_zero, List.set_cons_succ])
 refine ordC_l rfl rfl (fun K hK => ?_)
 go_simp
 refine (r_verbs _).mono ?_
 rintro e Y ⟨va1, vc1, rfl, hoY, hbY⟩
 have HXY := hid (HX0.out.drew.keep hbY)
 have HBY := hid (HB0.out.drew.trans (hbY.mono HB0.out.size))
 obtain ⟨g, cur, rfl, hbg, -, hvc, hBg, hcur⟩ := hoY.open_ (hc := cInsStr) (by decide)
 have hcw := (hbg.1 1).trans (by have := hcur 1 [98, 101, 103, 105, 110] 0 _ rfl rfl; simpa using this)
 have hgl := hbg.2.2
 refine hK _ _ ⟨trivial, HXY.out⟩ ?_
 clear hK K hbY hoY hbg hcur hBg
 repeat ((first | refine ordC_skip rfl rfl ?_ | refine ordC_skip1 rfl rfl ?_ | ((first | refine ordC_q rfl rfl ?_ | refine ordC_p rfl rfl ?_); apply Exists.intro; refine ⟨fun wS hS => ?_, ?_⟩; (go_simp; try with_reducible rfl))); simp only [Act.put, List.setIfInBounds_toArray, List.set_cons_zero, List.set_cons_succ])
 refine ordC_l rfl rfl (fun K hK => ?_)
 go_simp
 refine hK _ _ ⟨trivial, HXY.out⟩ ?_
 clear hK K hcw hgl hvc
 refine ordC_l rfl rfl (fun K hK => ?_)
 go_simp
 refine hK _ _ ⟨trivial, HXY.out.alloc _⟩ ?_
 clear hK K
 repeat ((first | refine ordC_skip rfl rfl ?_ | refine ordC_skip1 rfl rfl ?_ | ((first | refine ordC_q rfl rfl ?_ | refine ordC_p rfl rfl ?_); apply Exists.intro; refine ⟨fun wS hS => ?_, ?_⟩; (go_simp; try with_reducible rfl))); simp only [Act.put, List.setIfInBounds_toArray, List.set_cons_zero, List.set_cons_succ])
 refine ordC_nil ?_
 have HW1 : Hid (WsAt w (Y.alloc (.cells #[.string ⟨#[98, 101, 103, 105, 110]⟩] 9)) #[.int .i64 1, .slice na 2 nc, .int .i64 (lv : Nat), .slice va 0 vc, .bool false, .int .i64 0] (some ⟨Y.heap.size, 0, none⟩) 1 1 [formV 1]) := hid ⟨HXY.out.alloc _, (Own.strs (X := Y) rfl [formV 1] (by simp [maxLen])).mono (by have := HXY.out.2.2; omega), HBY.out.alloc HBY.out.size _, by have := HXY.out.2.2; simp; omega⟩
 have hcx := HW1.out.x.1; have hlx := HW1.out.x.2.2
 go_wp2_with fail
 clear hcx hlx
 go_loopw [3, 17] (fun v i wr => ∃ (k n : Nat) (a : Option Addr) (c : Nat) (ws : List Bs), k ≤ 2 ∧ i = .int .i64 k ∧ v = .slice a n c ∧ n ≤ 2 * k + 2 ∧ WsAt w wr #[.int .i64 1, .slice na 2 nc, .int .i64 (lv : Nat), .slice va 0 vc, .bool false, .int .i64 0] a n c ws ∧ ws = (fun k => formV 1 :: names.take k) k) (fun _ i _ => 2 - (RowKit.intOf i).toNat)
 case atStart => exact ⟨0, 1, _, _, _, Nat.zero_le _, rfl, rfl, by omega, HW1.out, rfl⟩
 case round =>
   obtain ⟨k, n, a, c, ws, hk, rfl, rfl, hn, hw, hws⟩ := hrel
   have HW2 := hid hw; have HWS := hid hws
   clear hw hws
   by_cases hlt : k < 2
   · obtain ⟨x, b, o, hx, rfl, hc⟩ := (HRN.out.below HW2.out.b rfl).at_ hlt
     have hc0 := hc 0 _ rfl
     simp only [Nat.mul_one, Nat.add_zero] at hc0
     have HX := hid hx
     have hcx := HW2.out.x.1; have hlx := HW2.out.x.2.2
     clear hc hx
     have HN3 : Hid ((ws).length + 1 = n + 1 ∧ (n + 1) * 16 ≤ 140737488355328 ∧ n + 1 ≤ maxLen) := hid ⟨by have := HW2.out.o.len; omega, by omega, by unfold maxLen; omega⟩
     go_wp2_with (at_builtin; refine wpList_app rfl _ _ 25 rfl i z 16 Tryz.underlying25 HI.out.1 HI.out.2.1 HI.out.2.2.1 HI.out.2.2.2.1 HI.out.2.2.2.2 rfl (HW2.out.o.alloc _) (some ⟨wr.heap.size, 0, none⟩) 1 1 (n + 1) [x] rfl (Row.str1 wr (x)) HN3.out.1 HN3.out.2.1 HN3.out.2.2 (by have := HW2.out.s; simp; omega) ?_; intro a3 c3 w3 hown3 hg3 hat3; have HW3 := hid (HW2.out.snoc hown3 hg3); clear hown3 hg3 hat3; have hcx3 := HW3.out.x.1; have hlx3 := HW3.out.x.2.2)
     go_roundw
     case rel => exact ⟨k + 1, n + 1, _, _, _, by omega, by go_num, rfl, by omega, HW3.out, by rw [HWS.out, List.take_add_one, HX.out]; rfl⟩
     case measure => simp [RowKit.intOf]; omega
   · obtain rfl : k = 2 := by omega
     have hcx := HW2.out.x.1; have hlx := HW2.out.x.2.2
     go_wp2_with fail
     clear hcx hlx
     refine (r_Text09 lv (by omega) _).mono ?_
     rintro e X3 ⟨rfl, hb3⟩
     have HW3 := hid (HW2.out.call hb3)
     clear hb3
     have hcx := HW3.out.x.1; have hlx := HW3.out.x.2.2
     have HN4 : Hid ((ws).length + 1 = n + 1 ∧ (n + 1) * 16 ≤ 140737488355328 ∧ n + 1 ≤ maxLen) := hid ⟨by have := HW3.out.o.len; omega, by omega, by unfold maxLen; omega⟩
     go_wp2_with (at_builtin; refine wpList_app rfl _ _ 25 rfl i z 16 Tryz.underlying25 HI.out.1 HI.out.2.1 HI.out.2.2.1 HI.out.2.2.2.1 HI.out.2.2.2.2 rfl (HW3.out.o.alloc _) (some ⟨X3.heap.size, 0, none⟩) 1 1 (n + 1) [levelT lv] rfl (Row.str1 X3 (levelT lv)) HN4.out.1 HN4.out.2.1 HN4.out.2.2 (by have := HW3.out.s; simp; omega) ?_; intro a4 c4 w4 hown4 hg4 hat4; have HW4 := hid (HW3.out.snoc hown4 hg4); clear hown4 hg4 hat4)
     go_ret
     have := HW4.out.ret
     rw [show ws ++ [levelT lv] = wordsS ⟨1, names, (lv : Nat), vers, false, 0⟩ from by rw [HWS.out]; simp [wordsS, formN, formR, HLEN.out, List.take_of_length_le, List.drop_of_length_le]] at this
     exact this
end Yd


namespace Yd
open Go Go.RowKit Go.Proofs
attribute [local go_sem] Oper.semAt_some

theorem r_words_2 (na : Option Addr) (nc : Nat) (va : Option Addr) (vc : Nat) (names : List Bs) (vers : List To) (w : World) (hrn : Row w 1 encStr na 2 nc names) (hrv : Row w 2 encTo va 0 vc vers) (hwv : ∀ t ∈ vers, toOk t) :
   Calls Tryz.prog 47 #[valLn ⟨2, na, 2, nc, 0, va, 0, vc, false, 0⟩] w (RetOwn 9 1 encStr (wordsS ⟨2, names, 0, vers, false, 0⟩) w) := by
 obtain ⟨i, z, hi, hz, hsize, hby', hzs⟩ := partsStr
 have HI := hid (⟨hi, hz, hsize, hby', hzs⟩ : _ ∧ _ ∧ _ ∧ _ ∧ _)
 have HRN := hid hrn; have HRV := hid hrv; have HWV := hid hwv
 have HB0 := hid (belowA (Below.refl w.heap.size w) (.cells #[.int .i64 2, .slice na 2 nc, .int .i64 0, .slice va 0 vc, .bool false, .int .i64 0] 28))
 have HX0 := hid (Bx.new w #[.int .i64 2, .slice na 2 nc, .int .i64 0, .slice va 0 vc, .bool false, .int .i64 0] 28)
 have hle := hrn.le; have hcap := hrn.cap; have hlen := hrn.len
 have HLEN := hid hlen
 clear hi hz hsize hby' hzs hrn hrv hwv
 go_enter Tryz.func47, Tryz.ntmps47
 go_wp2_with fail
 refine wp_region_ordC 6 [(1, 0), (2, 0), (0, 2), (3, 0), (4, 2), (5, 2), (6, 1)] (fun _ => True) (fun W' => Bx W' w.heap.size #[.int .i64 2, .slice na 2 nc, .int .i64 0, .slice va 0 vc, .bool false, .int .i64 0]) (by kernel_rfl) (by kernel_rfl) (trivial) (HX0.out) ?_
 repeat ((first | refine ordC_skip rfl rfl ?_ | refine ordC_skip1 rfl rfl ?_ | ((first | refine ordC_q rfl rfl ?_ | refine ordC_p rfl rfl ?_); apply Exists.intro; refine ⟨fun wS hS => ?_, ?_⟩; (go_simp; try with_reducible rfl))); simp only [Act.put, List.setIfInBounds_toArray, List.set_cons_zero, List.set_cons_succ])
 refine ordC_l rfl rfl (fun K hK => ?_)
 go_simp
 refine (r_verbs _).mono ?_
 rintro e Y ⟨va1, vc1, rfl, hoY, hbY⟩
 have HXY := hid (HX0.out.drew.keep hbY)
 have HBY := hid (HB0.out.drew.trans (hbY.mono HB0.out.size))
 obtain ⟨g, cur, rfl, hbg, -, hvc, hBg, hcur⟩ := hoY.open_ (hc := cInsStr) (by decide)
 have hcw := (hbg.1 2).trans (by have := hcur 2 [119, 114, 105, 116, 101] 0 _ rfl rfl; simpa using this)
 have hgl := hbg.2.2
 refine hK _ _ ⟨trivial, HXY.out⟩ ?_
 clear hK K hbY hoY hbg hcur hBg
 repeat ((first | refine ordC_skip rfl rfl ?_ | refine ordC_skip1 rfl rfl ?_ | ((first | refine ordC_q rfl rfl ?_ | refine ordC_p rfl rfl ?_); apply Exists.intro; refine ⟨fun wS hS => ?_, ?_⟩; (go_simp; try with_reducible rfl))); simp only [Act.put, List.setIfInBounds_toArray, List.set_cons_zero, List.set_cons_succ])
 refine ordC_l rfl rfl (fun K hK => ?_)
 go_simp
 refine hK _ _ ⟨trivial, HXY.out⟩ ?_
 clear hK K hcw hgl hvc
 refine ordC_l rfl rfl (fun K hK => ?_)
 go_simp
 refine hK _ _ ⟨trivial, HXY.out.alloc _⟩ ?_
 clear hK K
 repeat ((first | refine ordC_skip rfl rfl ?_ | refine ordC_skip1 rfl rfl ?_ | ((first | refine ordC_q rfl rfl ?_ | refine ordC_p rfl rfl ?_); apply Exists.intro; refine ⟨fun wS hS => ?_, ?_⟩; (go_simp; try with_reducible rfl))); simp only [Act.put, List.setIfInBounds_toArray, List.set_cons_zero, List.set_cons_succ])
 refine ordC_nil ?_
 have HW1 : Hid (WsAt w (Y.alloc (.cells #[.string ⟨#[119, 114, 105, 116, 101]⟩] 9)) #[.int .i64 2, .slice na 2 nc, .int .i64 0, .slice va 0 vc, .bool false, .int .i64 0] (some ⟨Y.heap.size, 0, none⟩) 1 1 [formV 2]) := hid ⟨HXY.out.alloc _, (Own.strs (X := Y) rfl [formV 2] (by simp [maxLen])).mono (by have := HXY.out.2.2; omega), HBY.out.alloc HBY.out.size _, by have := HXY.out.2.2; simp; omega⟩
 have hcx := HW1.out.x.1; have hlx := HW1.out.x.2.2
 go_wp2_with fail
 clear hcx hlx
 go_loopw [3, 17] (fun v i wr => ∃ (k n : Nat) (a : Option Addr) (c : Nat) (ws : List Bs), k ≤ 2 ∧ i = .int .i64 k ∧ v = .slice a n c ∧ n ≤ 2 * k + 2 ∧ WsAt w wr #[.int .i64 2, .slice na 2 nc, .int .i64 0, .slice va 0 vc, .bool false, .int .i64 0] a n c ws ∧ ws = (fun k => formV 2 :: names.take k) k) (fun _ i _ => 2 - (RowKit.intOf i).toNat)
 case atStart => exact ⟨0, 1, _, _, _, Nat.zero_le _, rfl, rfl, by omega, HW1.out, rfl⟩
 case round =>
   obtain ⟨k, n, a, c, ws, hk, rfl, rfl, hn, hw, hws⟩ := hrel
   have HW2 := hid hw; have HWS := hid hws
   clear hw hws
   by_cases hlt : k < 2
   · obtain ⟨x, b, o, hx, rfl, hc⟩ := (HRN.out.below HW2.out.b rfl).at_ hlt
     have hc0 := hc 0 _ rfl
     simp only [Nat.mul_one, Nat.add_zero] at hc0
     have HX := hid hx
     have hcx := HW2.out.x.1; have hlx := HW2.out.x.2.2
     clear hc hx
     have HN3 : Hid ((ws).length + 1 = n + 1 ∧ (n + 1) * 16 ≤ 140737488355328 ∧ n + 1 ≤ maxLen) := hid ⟨by have := HW2.out.o.len; omega, by omega, by unfold maxLen; omega⟩
     go_wp2_with (at_builtin; refine wpList_app rfl _ _ 25 rfl i z 16 Tryz.underlying25 HI.out.1 HI.out.2.1 HI.out.2.2.1 HI.out.2.2.2.1 HI.out.2.2.2.2 rfl (HW2.out.o.alloc _) (some ⟨wr.heap.size, 0, none⟩) 1 1 (n + 1) [x] rfl (Row.str1 wr (x)) HN3.out.1 HN3.out.2.1 HN3.out.2.2 (by have := HW2.out.s; simp; omega) ?_; intro a3 c3 w3 hown3 hg3 hat3; have HW3 := hid (HW2.out.snoc hown3 hg3); clear hown3 hg3 hat3; have hcx3 := HW3.out.x.1; have hlx3 := HW3.out.x.2.2)
     go_roundw
     case rel => exact ⟨k + 1, n + 1, _, _, _, by omega, by go_num, rfl, by omega, HW3.out, by rw [HWS.out, List.take_add_one, HX.out]; rfl⟩
     case measure => simp [RowKit.intOf]; omega
   · obtain rfl : k = 2 := by omega
     have hcx := HW2.out.x.1; have hlx := HW2.out.x.2.2
     go_wp2_with fail
     go_ret
     have := HW2.out.ret
     rw [show ws = wordsS ⟨2, names, 0, vers, false, 0⟩ from by rw [HWS.out]; simp [wordsS, formN, formR, HLEN.out, List.take_of_length_le, List.drop_of_length_le]] at this
     exact this
end Yd
