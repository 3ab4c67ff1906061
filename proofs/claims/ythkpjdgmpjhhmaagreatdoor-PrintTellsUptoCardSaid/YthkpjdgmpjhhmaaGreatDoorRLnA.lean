import Derived.Test.YthkpjdgmpjhhmaaGreatDoorRefA
import Derived.Test.YthkpjdgmpjhhmaaGreatDoorLine0
import Derived.Test.YthkpjdgmpjhhmaaGreatDoorGround
import Derived.Test.YthkpjdgmpjhhmaaGreatDoorLineX
import Derived.Test.YthkpjdgmpjhhmaaGreatDoorProg
import Derived.Test.YthkpjdgmpjhhmaaGreatDoorLinesC
import Derived.BigQuiet
set_option maxRecDepth 200000
set_option maxHeartbeats 8000000
namespace Yd
open Go Go.RowKit Go.Proofs
attribute [local go_sem] Oper.semAt_some

theorem r_LineSame (l l2 : LnC) (s : LnS) (B B2 : Nat) (w : World) (h : LnAt w B l s) (h2 : LnAt w B2 l2 s) (hn : s.names.length ≤ 1000000) (hv : s.vers.length ≤ 1000000) :
   Calls Tryz.prog 19 #[valLn l, valLn l2] w (Ret (.bool true) w) := by
 obtain ⟨xk, na, nn, nc, xl, va, vn, vc, xf, xb⟩ := l
 obtain ⟨yk, na2, nn2, nc2, yl, va2, vn2, vc2, yf, yb⟩ := l2
 obtain ⟨⟨q1, q2, q3, q4, q5, q6⟩, ho, hw⟩ := h
 obtain ⟨⟨p1, p2, p3, p4, p5, p6⟩, ho2, hw2⟩ := h2
 simp only at q1 q2 q3 q4 q5 q6 p1 p2 p3 p4 p5 p6 ho hw ho2 hw2
 obtain rfl : yk = xk := p1.trans q1.symm
 obtain rfl : yl = xl := p2.trans q2.symm
 obtain rfl : yf = xf := p3.trans q3.symm
 obtain rfl : yb = xb := p4.trans q4.symm
 obtain rfl : nn2 = nn := p5.trans q5.symm
 obtain rfl : vn2 = vn := p6.trans q6.symm
 have HN := hid (ho.row (hc := cInsStr) (by omega)); have HN2 := hid (ho2.row (hc := cInsStr) (by omega))
 have HV := hid (hw.row (hc := cInsTo) (by omega)); have HV2 := hid (hw2.row (hc := cInsTo) (by omega))
 have hle : vn2 ≤ 1000000 := by omega
 clear q1 q2 q3 q4 q5 q6 p1 p2 p3 p4 p5 p6 ho hw ho2 hw2 hn hv
 have HXA : Hid (Bx ((w.alloc (.cells #[.int .i64 yk, .slice na nn2 nc, .int .i64 yl, .slice va vn2 vc, .bool yf, .int .i64 yb] 41)).alloc (.cells #[.int .i64 yk, .slice na2 nn2 nc2, .int .i64 yl, .slice va2 vn2 vc2, .bool yf, .int .i64 yb] 41)) w.heap.size #[.int .i64 yk, .slice na nn2 nc, .int .i64 yl, .slice va vn2 vc, .bool yf, .int .i64 yb] ∧ Bx ((w.alloc (.cells #[.int .i64 yk, .slice na nn2 nc, .int .i64 yl, .slice va vn2 vc, .bool yf, .int .i64 yb] 41)).alloc (.cells #[.int .i64 yk, .slice na2 nn2 nc2, .int .i64 yl, .slice va2 vn2 vc2, .bool yf, .int .i64 yb] 41)) (w.heap.size + 1) #[.int .i64 yk, .slice na2 nn2 nc2, .int .i64 yl, .slice va2 vn2 vc2, .bool yf, .int .i64 yb]) := hid ⟨(Bx.new w _ _).alloc _, Bx.new1 (by simp)⟩
 have HB0 := hid (belowA (belowA (Below.refl w.heap.size w) (.cells #[.int .i64 yk, .slice na nn2 nc, .int .i64 yl, .slice va vn2 vc, .bool yf, .int .i64 yb] 41)) (.cells #[.int .i64 yk, .slice na2 nn2 nc2, .int .i64 yl, .slice va2 vn2 vc2, .bool yf, .int .i64 yb] 41))
 have hse := r_eqStr na na2 nn2 nc nn2 nc2 s.names s.names _ (HN.out.below HB0.out rfl) (HN2.out.below HB0.out rfl)
 rw [decide_eq_true rfl] at hse
 have HSE := hid hse
 clear hse
 go_enter Tryz.func19, Tryz.ntmps19
 have hcx := HXA.out.1.1; have hlx := HXA.out.1.2.2; have hcy := HXA.out.2.1; have hly := HXA.out.2.2.2
 go_wp2_with fail
 clear hcx hlx hcy hly
 refine HSE.out.mono ?_
 rintro e w1 ⟨rfl, hb⟩
 have HX1 := hid (keep2 HXA.out hb); have HB1 := hid (HB0.out.trans (hb.mono HB0.out.size))
 clear hb
 have hcx := HX1.out.1.1; have hlx := HX1.out.1.2.2; have hcy := HX1.out.2.1; have hly := HX1.out.2.2.2
 go_wp2_with fail
 clear hcx hlx hcy hly
 go_loopw [53] (fun i wr => ∃ k : Nat, k ≤ vn2 ∧ i = .int .i64 k ∧ Below w.heap.size w wr ∧ Bx wr w.heap.size #[.int .i64 yk, .slice na nn2 nc, .int .i64 yl, .slice va vn2 vc, .bool yf, .int .i64 yb] ∧ Bx wr (w.heap.size + 1) #[.int .i64 yk, .slice na2 nn2 nc2, .int .i64 yl, .slice va2 vn2 vc2, .bool yf, .int .i64 yb]) (fun i _ => vn2 - (RowKit.intOf i).toNat)
 case atStart => exact ⟨0, Nat.zero_le _, rfl, HB1.out, HX1.out.1, HX1.out.2⟩
 case round =>
   obtain ⟨k, hk, rfl, hbw, hxw⟩ := hrel
   have HBW := hid hbw; have HXW := hid hxw
   clear hbw hxw
   by_cases hlt : k < vn2
   · obtain ⟨x, b, o, hx, rfl, hc⟩ := (HV.out.below HBW.out rfl).at_ hlt
     obtain ⟨y, b2, o2, hy, rfl, hd⟩ := (HV2.out.below HBW.out rfl).at_ hlt
     rw [hx] at hy
     injection hy with hy
     subst hy
     have e0 := hc 0 _ rfl; have e1 := hc 1 _ rfl; have f0 := hd 0 _ rfl; have f1 := hd 1 _ rfl
     simp only [Nat.add_zero] at e0 f0
     have hew := fun W => eqInTo x x W
     simp only [decide_true] at hew
     obtain ⟨xn, xq⟩ := x
     simp only at e0 e1 f0 f1
     have HZ : Hid ((Bx (wr.alloc (.cells #[.string ⟨xn.toArray⟩, .int .i64 xq] 98)) wr.heap.size #[.string ⟨xn.toArray⟩, .int .i64 xq] ∧ Bx (wr.alloc (.cells #[.string ⟨xn.toArray⟩, .int .i64 xq] 98)) (w.heap.size + 1) #[.int .i64 yk, .slice na2 nn2 nc2, .int .i64 yl, .slice (some ⟨b2, o2, none⟩) vn2 vc2, .bool yf, .int .i64 yb]) ∧ Bx (wr.alloc (.cells #[.string ⟨xn.toArray⟩, .int .i64 xq] 98)) w.heap.size #[.int .i64 yk, .slice na nn2 nc, .int .i64 yl, .slice (some ⟨b, o, none⟩) vn2 vc, .bool yf, .int .i64 yb]) := hid ⟨⟨Bx.new wr _ _, HXW.out.2.alloc _⟩, HXW.out.1.alloc _⟩
     have HF := hid (⟨cellA (.cells #[.string ⟨xn.toArray⟩, .int .i64 xq] 98) f0, cellA (.cells #[.string ⟨xn.toArray⟩, .int .i64 xq] 98) f1⟩ : _ ∧ _)
     have HBZ := hid (belowA HBW.out (.cells #[.string ⟨xn.toArray⟩, .int .i64 xq] 98))
     clear hx hc hd f0 f1
     go_wp2_with fail
     clear e0 e1
     refine wp_region_ordC 99 [(0, 0), (1, 0), (2, 0), (3, 0), (4, 0), (5, 0), (6, 0)] (fun _ => True) (fun W' => (Bx W' wr.heap.size #[.string ⟨xn.toArray⟩, .int .i64 xq] ∧ Bx W' (w.heap.size + 1) #[.int .i64 yk, .slice na2 nn2 nc2, .int .i64 yl, .slice (some ⟨b2, o2, none⟩) vn2 vc2, .bool yf, .int .i64 yb]) ∧ W'.cell? ⟨b2, o2 + k * 2, none⟩ = some (.string ⟨xn.toArray⟩) ∧ W'.cell? ⟨b2, o2 + k * 2 + 1, none⟩ = some (.int .i64 xq)) (by kernel_rfl) (by kernel_rfl) (trivial) (⟨HZ.out.1, HF.out⟩) ?_
     repeat ((first | refine ordC_skip rfl rfl ?_ | refine ordC_skip1 rfl rfl ?_ | ((first | refine ordC_q rfl rfl ?_ | refine ordC_p rfl rfl ?_); apply Exists.intro; refine ⟨fun wS hS => ?_, ?_⟩; (go_simp; try with_reducible rfl))); simp only [Act.put, List.setIfInBounds_toArray, List.set_cons_zero, List.set_cons_succ])
     refine ordC_nil ?_
     go_wp2_with fail
     go_roundw
     case rel => exact ⟨k + 1, by omega, by go_num, HBZ.out.trans ((Below.refl _ _).drew.mono HBZ.out.size), HZ.out.2.drew, HZ.out.1.2.drew⟩
     case measure => simp [RowKit.intOf]; omega
   · obtain rfl : vn2 = k := by omega
     go_wp2_with fail
     go_ret
     exact ⟨rfl, HBW.out⟩
end Yd


namespace Yd
open Go Go.RowKit Go.Proofs

theorem call_rsame12 : ∀ args w, (callFunc 19 args).run Tryz.prog w = .ok (.enter 19 args) w := enters_of Tryz.func19 (by kernel_rfl) rfl
theorem r_EqLines (a a' : Option Addr) (n c n' c' B B2 : Nat) (xs ys : List LnC) (ls : List LnS) (w : World) (hr : Row w 6 encLn a n c xs) (hr' : Row w 6 encLn a' n' c' ys) (h1 : LnsAt w B xs ls) (h2 : LnsAt w B2 ys ls)
   (hs : ∀ s ∈ ls, s.names.length ≤ 1000000 ∧ s.vers.length ≤ 1000000) :
   Calls Tryz.prog 18 #[.slice a n c, .slice a' n' c', .func (.func 19) #[] #[]] w (Ret (.bool true) w) := by
 obtain rfl : n' = n := by rw [← hr'.len, ← hr.len, h1.1, h2.1]
 have hn := hr.le
 have HR := hid hr; have HR' := hid hr'
 have eg := call_rsame12
 have H : Hid (∀ (k : Nat) (x y : LnC), xs[k]? = some x → ys[k]? = some y → ∀ W, Below w.heap.size w W → Calls Tryz.prog 19 #[valLn x, valLn y] W (Ret (.bool true) W)) := hid (fun k x y hx hy W hb => by
   obtain ⟨s, hs1, hl1⟩ := (h1.below hb).2 k x hx
   obtain ⟨s', hs2, hl2⟩ := (h2.below hb).2 k y hy
   rw [hs1] at hs2
   injection hs2 with hs2
   subst hs2
   have := hs s (List.mem_of_getElem? hs1)
   exact r_LineSame x y s B B2 W hl1 hl2 this.1 this.2)
 clear hr hr' h1 h2 hs
 go_enter Tryz.func18, Tryz.ntmps18
 go_wp2_with fail
 go_loopw [17] (fun i wr => ∃ k : Nat, k ≤ n' ∧ i = .int .i64 k ∧ Below w.heap.size w wr) (fun i _ => n' - (intOf i).toNat)
 case atStart => exact ⟨0, Nat.zero_le _, rfl, Below.refl _ _⟩
 case round =>
   obtain ⟨k, hk, rfl, hb⟩ := hrel
   by_cases hlt : k < n'
   · obtain ⟨x, b, o, hx, rfl, hc⟩ := HR.out.at_ hlt
     obtain ⟨y, b', o', hy, rfl, hc'⟩ := HR'.out.at_ hlt
     have h0 := bget hb rfl (hc 0 _ rfl)
     have h1 := bget hb rfl (hc 1 _ rfl)
     have h2 := bget hb rfl (hc 2 _ rfl)
     have h3 := bget hb rfl (hc 3 _ rfl)
     have h4 := bget hb rfl (hc 4 _ rfl)
     have h5 := bget hb rfl (hc 5 _ rfl)
     simp only [Nat.add_zero] at h0
     have h'0 := bget hb rfl (hc' 0 _ rfl)
     have h'1 := bget hb rfl (hc' 1 _ rfl)
     have h'2 := bget hb rfl (hc' 2 _ rfl)
     have h'3 := bget hb rfl (hc' 3 _ rfl)
     have h'4 := bget hb rfl (hc' 4 _ rfl)
     have h'5 := bget hb rfl (hc' 5 _ rfl)
     simp only [Nat.add_zero] at h'0
     have HC := hid (H.out k x y hx hy)
     have hlb : b' < wr.heap.size := cell_lt h'0
     clear hc hc' hx hy
     go_wp2_with fail
     refine (HC.out _ ((hb.alloc hb.size _).alloc (by have := hb.size; simp; omega) _)).mono ?_
     rintro e w1 ⟨rfl, hb1⟩
     go_wp2_with fail
     go_roundw
     case rel => exact ⟨k + 1, by omega, by go_num, ((hb.alloc hb.size _).alloc (by have := hb.size; simp; omega) _).trans (hb1.mono (by have := hb.size; simp; omega))⟩
     case measure => simp [intOf]; omega
   · go_wp2_with fail
     go_ret
     exact ⟨rfl, hb⟩
end Yd
