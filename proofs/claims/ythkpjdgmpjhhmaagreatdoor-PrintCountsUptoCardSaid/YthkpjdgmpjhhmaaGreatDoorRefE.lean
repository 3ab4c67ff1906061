import Derived.Test.YthkpjdgmpjhhmaaGreatDoorRefC
import Derived.Test.YthkpjdgmpjhhmaaGreatDoorCount
import Derived.Test.YthkpjdgmpjhhmaaGreatDoorProg
import Derived.Test.YthkpjdgmpjhhmaaGreatDoorEqC
namespace Yd
open Go Go.RowKit Go.Proofs
attribute [local go_sem] Oper.semAt_some

/-- Does e write what x writes? -/
def sameW (x e : EvC) : Bool := (e.kind == 2) && ((e.t == x.t) && (e.obj == x.obj))
/-- How many of the events write what x writes. -/
def cntK (x : EvC) (l : List EvC) : Nat := l.countP (sameW x)
theorem cntK_take {x e : EvC} {es : List EvC} {j : Nat} (he : es[j]? = some e) : cntK x (es.take (j + 1)) = cntK x (es.take j) + (if sameW x e = true then 1 else 0) := by
  unfold cntK
  rw [List.take_add_one, he, List.countP_append]
  simp [List.countP_cons]
theorem cntK_le (x : EvC) (es : List EvC) (j : Nat) : cntK x (es.take j) ≤ j := by
  unfold cntK
  exact Nat.le_trans List.countP_le_length (by rw [List.length_take]; omega)
set_option maxRecDepth 100000 in
set_option maxHeartbeats 4000000 in
theorem r_k (h : HC) (es : List EvC) (i : Nat) (x : EvC) (w : World) (hr : Row w 9 encEv h.e.a h.e.n h.e.c es) (hx : es[i]? = some x) :
    Calls Tryz.prog 56 #[valH h, .int .i64 i] w (Ret (.int .i64 (1 + (cntK x (es.take i) : Nat))) w) := by
  obtain ⟨⟨ta, tn, tc⟩, ⟨sa, sn, sc⟩, ⟨oa, on, oc⟩, ⟨pa, pn, pc⟩, ⟨ea, en, ec⟩, ⟨da, dn_, dc⟩, ⟨ma, mn_, mc⟩, ⟨wa, wn, wc⟩⟩ := h
  simp only at hr
  have hi : i < en := by rw [← hr.len]; exact (List.getElem?_eq_some_iff.1 hx).1
  have hle := hr.le; have hcap := hr.cap
  obtain ⟨x0, b, o, hx0, rfl, hc⟩ := hr.at_ hi
  rw [hx] at hx0
  injection hx0 with hx0
  subst hx0
  have HC1 := hid (hc 1 _ rfl); have HC4 := hid (hc 4 _ rfl); have HR := hid hr
  have HB0 := hid (belowA (Below.refl w.heap.size w) (.cells (cellsH ⟨⟨ta, tn, tc⟩, ⟨sa, sn, sc⟩, ⟨oa, on, oc⟩, ⟨pa, pn, pc⟩, ⟨some ⟨b, o, none⟩, en, ec⟩, ⟨da, dn_, dc⟩, ⟨ma, mn_, mc⟩, ⟨wa, wn, wc⟩⟩) 28))
  have HX0 : Hid (Bx (w.alloc (.cells #[.slice ta tn tc, .slice sa sn sc, .slice oa on oc, .slice pa pn pc, .slice (some ⟨b, o, none⟩) en ec, .slice da dn_ dc, .slice ma mn_ mc, .slice wa wn wc] 28)) w.heap.size #[.slice ta tn tc, .slice sa sn sc, .slice oa on oc, .slice pa pn pc, .slice (some ⟨b, o, none⟩) en ec, .slice da dn_ dc, .slice ma mn_ mc, .slice wa wn wc]) := hid (Bx.new w #[.slice ta tn tc, .slice sa sn sc, .slice oa on oc, .slice pa pn pc, .slice (some ⟨b, o, none⟩) en ec, .slice da dn_ dc, .slice ma mn_ mc, .slice wa wn wc] 28)
  clear hc hr hx
  go_enter Tryz.func56, Tryz.ntmps56
  have hcx := HX0.out.1; have hlx := HX0.out.2.2
  have hin : (i : Int) ≤ (ec : Int) := by omega
  have hin2 : (i : Int) ≤ (en : Int) := by omega
  go_wp2_with fail
  clear hcx hlx
  go_loopw [5, 13] (fun v j wr => ∃ k : Nat, k ≤ i ∧ j = .int .i64 k ∧ v = .int .i64 (1 + (cntK x (es.take k) : Nat)) ∧ Below w.heap.size w wr ∧ Bx wr w.heap.size #[.slice ta tn tc, .slice sa sn sc, .slice oa on oc, .slice pa pn pc, .slice (some ⟨b, o, none⟩) en ec, .slice da dn_ dc, .slice ma mn_ mc, .slice wa wn wc]) (fun _ j _ => i - (RowKit.intOf j).toNat)
  case atStart => exact ⟨0, Nat.zero_le _, rfl, rfl, HB0.out, HX0.out⟩
  case round =>
    obtain ⟨k, hk, rfl, rfl, hbw, hxw⟩ := hrel
    have HBW := hid hbw; have HXW := hid hxw
    clear hbw hxw
    by_cases hlt : k < i
    · obtain ⟨e, b', o', he, hab, hce⟩ := (HR.out.below HBW.out rfl).at_ (i := k) (by omega)
      injection hab with hab
      injection hab with q1 q2
      subst q1 q2
      have e0 := hce 0 _ rfl
      have e1 := hce 1 _ rfl
      have e2 := hce 2 _ rfl
      have e3 := hce 3 _ rfl
      have e4 := hce 4 _ rfl
      have e5 := hce 5 _ rfl
      have e6 := hce 6 _ rfl
      have e7 := hce 7 _ rfl
      have e8 := hce 8 _ rfl
      simp only [Nat.add_zero] at e0
      have HCT := hid (cntK_take (x := x) he)
      have hcl := cntK_le x es k
      have HWR : Hid (wrap64 (1 + ((cntK x (es.take k) : Nat) : Int) + 1) = 1 + ((cntK x (es.take k) : Nat) : Int) + 1) := hid (Go.IntWalk.wrap64_in _ ⟨by omega, by omega⟩)
      have HXE : Hid (Bx (wr.alloc (.cells #[.int .i64 e.kind, .int .i64 e.t, .int .i64 e.ses, .int .i64 e.lvl, .int .i64 e.obj, .int .i64 e.v.t, .int .i64 e.v.k, .int .i64 e.pred, .slice e.sa e.sn e.sc] 49)) w.heap.size #[.slice ta tn tc, .slice sa sn sc, .slice oa on oc, .slice pa pn pc, .slice (some ⟨b, o, none⟩) en ec, .slice da dn_ dc, .slice ma mn_ mc, .slice wa wn wc] ∧ Bx (wr.alloc (.cells #[.int .i64 e.kind, .int .i64 e.t, .int .i64 e.ses, .int .i64 e.lvl, .int .i64 e.obj, .int .i64 e.v.t, .int .i64 e.v.k, .int .i64 e.pred, .slice e.sa e.sn e.sc] 49)) wr.heap.size #[.int .i64 e.kind, .int .i64 e.t, .int .i64 e.ses, .int .i64 e.lvl, .int .i64 e.obj, .int .i64 e.v.t, .int .i64 e.v.k, .int .i64 e.pred, .slice e.sa e.sn e.sc]) := hid ⟨HXW.out.alloc _, Bx.new wr _ _⟩
      have HBE := hid (belowA HBW.out (.cells #[.int .i64 e.kind, .int .i64 e.t, .int .i64 e.ses, .int .i64 e.lvl, .int .i64 e.obj, .int .i64 e.v.t, .int .i64 e.v.k, .int .i64 e.pred, .slice e.sa e.sn e.sc] 49))
      have HQ1 := hid (cellA (.cells #[.int .i64 e.kind, .int .i64 e.t, .int .i64 e.ses, .int .i64 e.lvl, .int .i64 e.obj, .int .i64 e.v.t, .int .i64 e.v.k, .int .i64 e.pred, .slice e.sa e.sn e.sc] 49) (bget HBW.out rfl HC1.out)); have HQ4 := hid (cellA (.cells #[.int .i64 e.kind, .int .i64 e.t, .int .i64 e.ses, .int .i64 e.lvl, .int .i64 e.obj, .int .i64 e.v.t, .int .i64 e.v.k, .int .i64 e.pred, .slice e.sa e.sn e.sc] 49) (bget HBW.out rfl HC4.out))
      clear hce he hcl
      cases hk2 : (e.kind == 2)
      · have HSW : Hid (sameW x e = false) := hid (by unfold sameW; simp only [hk2, Bool.false_and])
        go_wp2_with fail
        clear e0 e1 e2 e3 e4 e5 e6 e7 e8
        refine wp_region_ordC 99 [(0, 0), (1, 0), (2, 0), (3, 0), (4, 0), (5, 0), (6, 0), (7, 0), (8, 0), (9, 0), (10, 0), (11, 0), (12, 0), (13, 0), (14, 0), (15, 0), (16, 0), (17, 0), (18, 0), (19, 0), (20, 0), (21, 0), (22, 0), (23, 0), (24, 0)] (fun _ => True) (fun W' => (Bx W' w.heap.size #[.slice ta tn tc, .slice sa sn sc, .slice oa on oc, .slice pa pn pc, .slice (some ⟨b, o, none⟩) en ec, .slice da dn_ dc, .slice ma mn_ mc, .slice wa wn wc] ∧ Bx W' wr.heap.size #[.int .i64 e.kind, .int .i64 e.t, .int .i64 e.ses, .int .i64 e.lvl, .int .i64 e.obj, .int .i64 e.v.t, .int .i64 e.v.k, .int .i64 e.pred, .slice e.sa e.sn e.sc]) ∧ W'.cell? ⟨b, o + i * 9 + 1, none⟩ = some (.int .i64 x.t) ∧ W'.cell? ⟨b, o + i * 9 + 4, none⟩ = some (.int .i64 x.obj)) (by kernel_rfl) (by kernel_rfl) (trivial) (⟨HXE.out, HQ1.out, HQ4.out⟩) ?_
        repeat (first
          | (refine ordC_skip rfl rfl ?_; simp only [Act.put, sa1, sa2, sa3])
          | (refine ordC_skip1 rfl rfl ?_; simp only [Act.put, sa1, sa2, sa3])
          | (refine ordC_q rfl rfl ?_; apply Exists.intro; refine ⟨fun wS hS => ?_, ?_⟩; (go_simp; try with_reducible rfl); simp only [Act.put, sa1, sa2, sa3])
          | (refine ordC_p rfl rfl ?_; apply Exists.intro; refine ⟨fun wS hS => ?_, ?_⟩; (go_simp; try with_reducible rfl); simp only [Act.put, sa1, sa2, sa3]))
        refine ordC_nil ?_
        go_wp2_with fail
        go_roundw
        case rel => exact ⟨k + 1, by omega, by go_num, by rw [HCT.out, HSW.out]; simp, HBE.out.trans ((Below.refl _ _).drew.mono HBE.out.size), HXE.out.1.drew⟩
        case measure => simp [RowKit.intOf]; omega
      cases hkt : (e.t == x.t)
      · have HSW : Hid (sameW x e = false) := hid (by unfold sameW; simp only [hk2, hkt, Bool.and_false, Bool.false_and])
        go_wp2_with fail
        clear e0 e1 e2 e3 e4 e5 e6 e7 e8
        refine wp_region_ordC 99 [(0, 0), (1, 0), (2, 0), (3, 0), (4, 0), (5, 0), (6, 0), (7, 0), (8, 0), (9, 0), (10, 0), (11, 0), (12, 0), (13, 0), (14, 0), (15, 0), (16, 0), (17, 0), (18, 0), (19, 0), (20, 0), (21, 0), (22, 0), (23, 0), (24, 0)] (fun _ => True) (fun W' => (Bx W' w.heap.size #[.slice ta tn tc, .slice sa sn sc, .slice oa on oc, .slice pa pn pc, .slice (some ⟨b, o, none⟩) en ec, .slice da dn_ dc, .slice ma mn_ mc, .slice wa wn wc] ∧ Bx W' wr.heap.size #[.int .i64 e.kind, .int .i64 e.t, .int .i64 e.ses, .int .i64 e.lvl, .int .i64 e.obj, .int .i64 e.v.t, .int .i64 e.v.k, .int .i64 e.pred, .slice e.sa e.sn e.sc]) ∧ W'.cell? ⟨b, o + i * 9 + 1, none⟩ = some (.int .i64 x.t) ∧ W'.cell? ⟨b, o + i * 9 + 4, none⟩ = some (.int .i64 x.obj)) (by kernel_rfl) (by kernel_rfl) (trivial) (⟨HXE.out, HQ1.out, HQ4.out⟩) ?_
        repeat (first
          | (refine ordC_skip rfl rfl ?_; simp only [Act.put, sa1, sa2, sa3])
          | (refine ordC_skip1 rfl rfl ?_; simp only [Act.put, sa1, sa2, sa3])
          | (refine ordC_q rfl rfl ?_; apply Exists.intro; refine ⟨fun wS hS => ?_, ?_⟩; (go_simp; try with_reducible rfl); simp only [Act.put, sa1, sa2, sa3])
          | (refine ordC_p rfl rfl ?_; apply Exists.intro; refine ⟨fun wS hS => ?_, ?_⟩; (go_simp; try with_reducible rfl); simp only [Act.put, sa1, sa2, sa3]))
        refine ordC_nil ?_
        go_wp2_with fail
        go_roundw
        case rel => exact ⟨k + 1, by omega, by go_num, by rw [HCT.out, HSW.out]; simp, HBE.out.trans ((Below.refl _ _).drew.mono HBE.out.size), HXE.out.1.drew⟩
        case measure => simp [RowKit.intOf]; omega
      cases hko : (e.obj == x.obj)
      · have HSW : Hid (sameW x e = false) := hid (by unfold sameW; simp only [hk2, hkt, hko, Bool.and_false])
        go_wp2_with fail
        clear e0 e1 e2 e3 e4 e5 e6 e7 e8
        refine wp_region_ordC 99 [(0, 0), (1, 0), (2, 0), (3, 0), (4, 0), (5, 0), (6, 0), (7, 0), (8, 0), (9, 0), (10, 0), (11, 0), (12, 0), (13, 0), (14, 0), (15, 0), (16, 0), (17, 0), (18, 0), (19, 0), (20, 0), (21, 0), (22, 0), (23, 0), (24, 0)] (fun _ => True) (fun W' => (Bx W' w.heap.size #[.slice ta tn tc, .slice sa sn sc, .slice oa on oc, .slice pa pn pc, .slice (some ⟨b, o, none⟩) en ec, .slice da dn_ dc, .slice ma mn_ mc, .slice wa wn wc] ∧ Bx W' wr.heap.size #[.int .i64 e.kind, .int .i64 e.t, .int .i64 e.ses, .int .i64 e.lvl, .int .i64 e.obj, .int .i64 e.v.t, .int .i64 e.v.k, .int .i64 e.pred, .slice e.sa e.sn e.sc]) ∧ W'.cell? ⟨b, o + i * 9 + 1, none⟩ = some (.int .i64 x.t) ∧ W'.cell? ⟨b, o + i * 9 + 4, none⟩ = some (.int .i64 x.obj)) (by kernel_rfl) (by kernel_rfl) (trivial) (⟨HXE.out, HQ1.out, HQ4.out⟩) ?_
        repeat (first
          | (refine ordC_skip rfl rfl ?_; simp only [Act.put, sa1, sa2, sa3])
          | (refine ordC_skip1 rfl rfl ?_; simp only [Act.put, sa1, sa2, sa3])
          | (refine ordC_q rfl rfl ?_; apply Exists.intro; refine ⟨fun wS hS => ?_, ?_⟩; (go_simp; try with_reducible rfl); simp only [Act.put, sa1, sa2, sa3])
          | (refine ordC_p rfl rfl ?_; apply Exists.intro; refine ⟨fun wS hS => ?_, ?_⟩; (go_simp; try with_reducible rfl); simp only [Act.put, sa1, sa2, sa3]))
        refine ordC_nil ?_
        go_wp2_with fail
        go_roundw
        case rel => exact ⟨k + 1, by omega, by go_num, by rw [HCT.out, HSW.out]; simp, HBE.out.trans ((Below.refl _ _).drew.mono HBE.out.size), HXE.out.1.drew⟩
        case measure => simp [RowKit.intOf]; omega
      have HSW : Hid (sameW x e = true) := hid (by unfold sameW; simp only [hk2, hkt, hko, Bool.and_true])
      go_wp2_with fail
      clear e0 e1 e2 e3 e4 e5 e6 e7 e8
      refine wp_region_ordC 99 [(0, 0), (1, 0), (2, 0), (3, 0), (4, 0), (5, 0), (6, 0), (7, 0), (8, 0), (9, 0), (10, 0), (11, 0), (12, 0), (13, 0), (14, 0), (15, 0), (16, 0), (17, 0), (18, 0), (19, 0), (20, 0), (21, 0), (22, 0), (23, 0), (24, 0)] (fun _ => True) (fun W' => (Bx W' w.heap.size #[.slice ta tn tc, .slice sa sn sc, .slice oa on oc, .slice pa pn pc, .slice (some ⟨b, o, none⟩) en ec, .slice da dn_ dc, .slice ma mn_ mc, .slice wa wn wc] ∧ Bx W' wr.heap.size #[.int .i64 e.kind, .int .i64 e.t, .int .i64 e.ses, .int .i64 e.lvl, .int .i64 e.obj, .int .i64 e.v.t, .int .i64 e.v.k, .int .i64 e.pred, .slice e.sa e.sn e.sc]) ∧ W'.cell? ⟨b, o + i * 9 + 1, none⟩ = some (.int .i64 x.t) ∧ W'.cell? ⟨b, o + i * 9 + 4, none⟩ = some (.int .i64 x.obj)) (by kernel_rfl) (by kernel_rfl) (trivial) (⟨HXE.out, HQ1.out, HQ4.out⟩) ?_
      repeat (first
        | (refine ordC_skip rfl rfl ?_; simp only [Act.put, sa1, sa2, sa3])
        | (refine ordC_skip1 rfl rfl ?_; simp only [Act.put, sa1, sa2, sa3])
        | (refine ordC_q rfl rfl ?_; apply Exists.intro; refine ⟨fun wS hS => ?_, ?_⟩; (go_simp; try with_reducible rfl); simp only [Act.put, sa1, sa2, sa3])
        | (refine ordC_p rfl rfl ?_; apply Exists.intro; refine ⟨fun wS hS => ?_, ?_⟩; (go_simp; try with_reducible rfl); simp only [Act.put, sa1, sa2, sa3]))
      refine ordC_nil ?_
      go_wp2_with fail
      go_roundw
      case rel => exact ⟨k + 1, by omega, by go_num, by rw [HCT.out, HSW.out]; exact congrArg (Value.int .i64) (HWR.out.trans (by simp; omega)), HBE.out.trans ((Below.refl _ _).drew.mono HBE.out.size), HXE.out.1.drew⟩
      case measure => simp [RowKit.intOf]; omega
    · obtain rfl : k = i := by omega
      have hcx := HXW.out.1; have hlx := HXW.out.2.2
      go_wp2_with fail
      go_ret
      exact ⟨rfl, HBW.out⟩
end Yd


namespace Yd
open Go Go.RowKit Go.Proofs
attribute [local go_sem] Oper.semAt_some

theorem count_step (x : EvC) : ∀ (l : List EvC) (L : List (Int × Int)), (l.foldl stepL L).count (x.t, x.obj) = L.count (x.t, x.obj) + cntK x l
  | [], L => by simp [cntK]
  | e :: l, L => by
    rw [List.foldl_cons, count_step x l]
    unfold cntK stepL
    rw [List.countP_cons]
    by_cases h2 : e.kind = 2
    · rw [if_pos h2, List.count_cons]
      by_cases hb : (e.t == x.t && e.obj == x.obj) = true
      · have h1 : sameW x e = true := by unfold sameW; simp [h2]; simpa using hb
        have h3 : ((e.t, e.obj) == (x.t, x.obj)) = true := by simpa using hb
        rw [h1, h3]; simp; omega
      · have h1 : sameW x e = false := by unfold sameW; rw [← Bool.not_eq_true]; intro hh; apply hb; simp only [Bool.and_eq_true] at hh ⊢; exact hh.2
        have h3 : ((e.t, e.obj) == (x.t, x.obj)) = false := by rw [← Bool.not_eq_true]; intro hh; apply hb; simpa using hh
        rw [h1, h3]; simp
    · rw [if_neg h2]
      have h1 : sameW x e = false := by unfold sameW; simp [h2]
      rw [h1]; simp
theorem cntB_no : ∀ (es : List EvC) (L : List (Int × Int)) (k : Nat) (e : EvC), es[k]? = some e → viol ((es.take k).foldl stepL L) e = true → cntB L es = false
  | [], L, k, e, h, _ => by simp at h
  | a :: es, L, 0, e, h, hv => by
    obtain rfl : a = e := by simpa using h
    simp only [List.take_zero, List.foldl_nil] at hv
    simp [cntB, hv]
  | a :: es, L, k + 1, e, h, hv => by
    rw [List.take_succ_cons, List.foldl_cons] at hv
    simp [cntB, cntB_no es (stepL L a) k e (by simpa using h) hv]
theorem cntB_yes : ∀ (es : List EvC) (L : List (Int × Int)), (∀ (k : Nat) (e : EvC), es[k]? = some e → viol ((es.take k).foldl stepL L) e = false) → cntB L es = true
  | [], L, _ => rfl
  | a :: es, L, h => by
    have h0 := h 0 a rfl
    simp only [List.take_zero, List.foldl_nil] at h0
    simp only [cntB, h0, Bool.not_false, Bool.true_and]
    exact cntB_yes es (stepL L a) (fun k e he => by
      have := h (k + 1) e (by simpa using he)
      rwa [List.take_succ_cons, List.foldl_cons] at this)
theorem viol_eq (l : List EvC) (e : EvC) : viol (l.foldl stepL []) e = ((e.kind == 2) && !(e.v.k == 1 + ((cntK e l : Nat) : Int))) := by
  unfold viol
  rw [count_step e l []]
  simp only [List.count_nil, Nat.zero_add]
  have h1 : decide (e.kind = 2) = (e.kind == 2) := by by_cases h : e.kind = 2 <;> simp [h]
  have h2 : decide (e.v.k = ((cntK e l : Nat) : Int) + 1) = (e.v.k == 1 + ((cntK e l : Nat) : Int)) := by
    rw [Int.add_comm]
    by_cases h : e.v.k = 1 + ((cntK e l : Nat) : Int) <;> simp [h]
  rw [h1, h2]
set_option maxRecDepth 100000 in
set_option maxHeartbeats 4000000 in
theorem r_Counted (h : HC) (es : List EvC) (w : World) (hr : Row w 9 encEv h.e.a h.e.n h.e.c es) :
    Calls Tryz.prog 24 #[valH h] w (Ret (.bool (cntB [] es)) w) := by
  obtain ⟨⟨ta, tn, tc⟩, ⟨sa, sn, sc⟩, ⟨oa, on, oc⟩, ⟨pa, pn, pc⟩, ⟨ea, en, ec⟩, ⟨da, dn_, dc⟩, ⟨ma, mn_, mc⟩, ⟨wa, wn, wc⟩⟩ := h
  simp only at hr
  obtain ⟨R, hR⟩ : ∃ R : Bool, R = cntB [] es := ⟨_, rfl⟩
  have HF := hid hR
  rw [← hR]
  have hle := hr.le; have hcap := hr.cap
  have HR := hid hr
  have HB0 := hid (belowA (Below.refl w.heap.size w) (.cells (cellsH ⟨⟨ta, tn, tc⟩, ⟨sa, sn, sc⟩, ⟨oa, on, oc⟩, ⟨pa, pn, pc⟩, ⟨ea, en, ec⟩, ⟨da, dn_, dc⟩, ⟨ma, mn_, mc⟩, ⟨wa, wn, wc⟩⟩) 28))
  have HX0 : Hid (Bx (w.alloc (.cells #[.slice ta tn tc, .slice sa sn sc, .slice oa on oc, .slice pa pn pc, .slice ea en ec, .slice da dn_ dc, .slice ma mn_ mc, .slice wa wn wc] 28)) w.heap.size #[.slice ta tn tc, .slice sa sn sc, .slice oa on oc, .slice pa pn pc, .slice ea en ec, .slice da dn_ dc, .slice ma mn_ mc, .slice wa wn wc]) := hid (Bx.new w #[.slice ta tn tc, .slice sa sn sc, .slice oa on oc, .slice pa pn pc, .slice ea en ec, .slice da dn_ dc, .slice ma mn_ mc, .slice wa wn wc] 28)
  clear hr hR
  go_enter Tryz.func24, Tryz.ntmps24
  have hcx := HX0.out.1; have hlx := HX0.out.2.2
  go_wp2_with fail
  clear hcx hlx
  go_loopw [8] (fun j wr => ∃ k : Nat, k ≤ en ∧ j = .int .i64 k ∧ (∀ (q : Nat) (e : EvC), q < k → es[q]? = some e → viol ((es.take q).foldl stepL []) e = false) ∧ Below w.heap.size w wr ∧ Bx wr w.heap.size #[.slice ta tn tc, .slice sa sn sc, .slice oa on oc, .slice pa pn pc, .slice ea en ec, .slice da dn_ dc, .slice ma mn_ mc, .slice wa wn wc]) (fun j _ => en - (RowKit.intOf j).toNat)
  case atStart => exact ⟨0, Nat.zero_le _, rfl, fun q e hq => absurd hq (Nat.not_lt_zero _), HB0.out, HX0.out⟩
  case round =>
    obtain ⟨k, hk, rfl, hal, hbw, hxw⟩ := hrel
    have HBW := hid hbw; have HXW := hid hxw; have HAL := hid hal
    clear hbw hxw hal
    by_cases hlt : k < en
    · obtain ⟨e, b, o, he, rfl, hce⟩ := (HR.out.below HBW.out rfl).at_ hlt
      have e0 := hce 0 _ rfl
      have e1 := hce 1 _ rfl
      have e2 := hce 2 _ rfl
      have e3 := hce 3 _ rfl
      have e4 := hce 4 _ rfl
      have e5 := hce 5 _ rfl
      have e6 := hce 6 _ rfl
      have e7 := hce 7 _ rfl
      have e8 := hce 8 _ rfl
      simp only [Nat.add_zero] at e0
      have HE := hid he
      have HV := hid (viol_eq (es.take k) e)
      have HXE : Hid (Bx (wr.alloc (.cells #[.int .i64 e.kind, .int .i64 e.t, .int .i64 e.ses, .int .i64 e.lvl, .int .i64 e.obj, .int .i64 e.v.t, .int .i64 e.v.k, .int .i64 e.pred, .slice e.sa e.sn e.sc] 49)) w.heap.size #[.slice ta tn tc, .slice sa sn sc, .slice oa on oc, .slice pa pn pc, .slice (some ⟨b, o, none⟩) en ec, .slice da dn_ dc, .slice ma mn_ mc, .slice wa wn wc] ∧ Bx (wr.alloc (.cells #[.int .i64 e.kind, .int .i64 e.t, .int .i64 e.ses, .int .i64 e.lvl, .int .i64 e.obj, .int .i64 e.v.t, .int .i64 e.v.k, .int .i64 e.pred, .slice e.sa e.sn e.sc] 49)) wr.heap.size #[.int .i64 e.kind, .int .i64 e.t, .int .i64 e.ses, .int .i64 e.lvl, .int .i64 e.obj, .int .i64 e.v.t, .int .i64 e.v.k, .int .i64 e.pred, .slice e.sa e.sn e.sc]) := hid ⟨HXW.out.alloc _, Bx.new wr _ _⟩
      have HBE := hid (belowA HBW.out (.cells #[.int .i64 e.kind, .int .i64 e.t, .int .i64 e.ses, .int .i64 e.lvl, .int .i64 e.obj, .int .i64 e.v.t, .int .i64 e.v.k, .int .i64 e.pred, .slice e.sa e.sn e.sc] 49))
      have HKC := hid (fun W (hb : Below w.heap.size w W) => r_k ⟨⟨ta, tn, tc⟩, ⟨sa, sn, sc⟩, ⟨oa, on, oc⟩, ⟨pa, pn, pc⟩, ⟨some ⟨b, o, none⟩, en, ec⟩, ⟨da, dn_, dc⟩, ⟨ma, mn_, mc⟩, ⟨wa, wn, wc⟩⟩ es k e W (HR.out.below hb rfl) HE.out)
      obtain ⟨m, hm⟩ : ∃ m : Int, m = 1 + ((cntK e (es.take k) : Nat) : Int) := ⟨_, rfl⟩
      rw [← hm] at HV HKC
      clear hce he hm
      cases hk2 : (e.kind == 2)
      · have HVF : Hid (viol ((es.take k).foldl stepL []) e = false) := hid (by rw [HV.out, hk2]; rfl)
        go_wp2_with fail
        clear e0 e1 e2 e3 e4 e5 e6 e7 e8
        refine wp_region_ordC 99 [(0, 0), (1, 0), (2, 0), (3, 0), (4, 0), (5, 0), (6, 0), (7, 0), (8, 0), (9, 0), (10, 0), (11, 0)] (fun _ => True) (fun W' => Bx W' w.heap.size #[.slice ta tn tc, .slice sa sn sc, .slice oa on oc, .slice pa pn pc, .slice (some ⟨b, o, none⟩) en ec, .slice da dn_ dc, .slice ma mn_ mc, .slice wa wn wc] ∧ Bx W' wr.heap.size #[.int .i64 e.kind, .int .i64 e.t, .int .i64 e.ses, .int .i64 e.lvl, .int .i64 e.obj, .int .i64 e.v.t, .int .i64 e.v.k, .int .i64 e.pred, .slice e.sa e.sn e.sc]) (by kernel_rfl) (by kernel_rfl) (trivial) (⟨HXE.out.1, HXE.out.2⟩) ?_
        repeat (first
          | (refine ordC_skip rfl rfl ?_; simp only [Act.put, sa1, sa2, sa3])
          | (refine ordC_skip1 rfl rfl ?_; simp only [Act.put, sa1, sa2, sa3])
          | (refine ordC_q rfl rfl ?_; apply Exists.intro; refine ⟨fun wS hS => ?_, ?_⟩; (go_simp; try with_reducible rfl); simp only [Act.put, sa1, sa2, sa3])
          | (refine ordC_p rfl rfl ?_; apply Exists.intro; refine ⟨fun wS hS => ?_, ?_⟩; (go_simp; try with_reducible rfl); simp only [Act.put, sa1, sa2, sa3]))
        refine ordC_nil ?_
        go_wp2_with fail
        go_roundw
        case rel =>
          refine ⟨k + 1, by omega, by go_num, ?_, HBE.out.trans ((Below.refl _ _).drew.mono HBE.out.size), HXE.out.1.drew⟩
          exact fun q e' hq he' => by
            rcases Nat.lt_or_ge q k with h1 | h1
            · exact HAL.out q e' h1 he'
            · obtain rfl : q = k := by omega
              have h2 : e = e' := by have := HE.out; rw [he'] at this; injection this with this; exact this.symm
              subst h2
              exact HVF.out
        case measure => simp [RowKit.intOf]; omega
      cases hkm : (e.v.k == m)
      · have HQ : Hid (R = false) := hid (by rw [HF.out]; exact cntB_no es [] k e HE.out (by rw [HV.out, hk2, hkm]; rfl))
        go_wp2_with fail
        clear e0 e1 e2 e3 e4 e5 e6 e7 e8
        refine wp_region_ordC 99 [(0, 0), (1, 0), (2, 0), (3, 0), (4, 0), (5, 0), (6, 0), (7, 0), (8, 0), (9, 2), (10, 0), (11, 0)] (fun _ => True) (fun W' => Bx W' w.heap.size #[.slice ta tn tc, .slice sa sn sc, .slice oa on oc, .slice pa pn pc, .slice (some ⟨b, o, none⟩) en ec, .slice da dn_ dc, .slice ma mn_ mc, .slice wa wn wc] ∧ Bx W' wr.heap.size #[.int .i64 e.kind, .int .i64 e.t, .int .i64 e.ses, .int .i64 e.lvl, .int .i64 e.obj, .int .i64 e.v.t, .int .i64 e.v.k, .int .i64 e.pred, .slice e.sa e.sn e.sc]) (by kernel_rfl) (by kernel_rfl) (trivial) (⟨HXE.out.1, HXE.out.2⟩) ?_
        repeat (first
          | (refine ordC_skip rfl rfl ?_; simp only [Act.put, sa1, sa2, sa3])
          | (refine ordC_skip1 rfl rfl ?_; simp only [Act.put, sa1, sa2, sa3])
          | (refine ordC_q rfl rfl ?_; apply Exists.intro; refine ⟨fun wS hS => ?_, ?_⟩; (go_simp; try with_reducible rfl); simp only [Act.put, sa1, sa2, sa3])
          | (refine ordC_p rfl rfl ?_; apply Exists.intro; refine ⟨fun wS hS => ?_, ?_⟩; (go_simp; try with_reducible rfl); simp only [Act.put, sa1, sa2, sa3]))
        refine ordC_l rfl rfl (fun K hK => ?_)
        go_simp
        refine (HKC.out _ (HBE.out.trans ((Below.refl _ _).drew.mono HBE.out.size))).mono ?_
        rintro en_ Y ⟨rfl, hbY⟩
        have HBY0 := hid (show Below _ (wr.alloc _) Y from (Below.refl _ _).drew.trans hbY)
        have HXY := hid (keep2 HXE.out HBY0.out); have HBY := hid (HBE.out.trans (HBY0.out.mono HBE.out.size))
        refine hK _ _ ⟨trivial, HXY.out.1, HXY.out.2⟩ ?_
        clear hK K hbY
        repeat (first
          | (refine ordC_skip rfl rfl ?_; simp only [Act.put, sa1, sa2, sa3])
          | (refine ordC_skip1 rfl rfl ?_; simp only [Act.put, sa1, sa2, sa3])
          | (refine ordC_q rfl rfl ?_; apply Exists.intro; refine ⟨fun wS hS => ?_, ?_⟩; (go_simp; try with_reducible rfl); simp only [Act.put, sa1, sa2, sa3])
          | (refine ordC_p rfl rfl ?_; apply Exists.intro; refine ⟨fun wS hS => ?_, ?_⟩; (go_simp; try with_reducible rfl); simp only [Act.put, sa1, sa2, sa3]))
        refine ordC_nil ?_
        go_wp2_with fail
        go_ret
        exact ⟨by rw [HQ.out]; rfl, HBY.out⟩
      have HVF : Hid (viol ((es.take k).foldl stepL []) e = false) := hid (by rw [HV.out, hk2, hkm]; rfl)
      go_wp2_with fail
      clear e0 e1 e2 e3 e4 e5 e6 e7 e8
      refine wp_region_ordC 99 [(0, 0), (1, 0), (2, 0), (3, 0), (4, 0), (5, 0), (6, 0), (7, 0), (8, 0), (9, 2), (10, 0), (11, 0)] (fun _ => True) (fun W' => Bx W' w.heap.size #[.slice ta tn tc, .slice sa sn sc, .slice oa on oc, .slice pa pn pc, .slice (some ⟨b, o, none⟩) en ec, .slice da dn_ dc, .slice ma mn_ mc, .slice wa wn wc] ∧ Bx W' wr.heap.size #[.int .i64 e.kind, .int .i64 e.t, .int .i64 e.ses, .int .i64 e.lvl, .int .i64 e.obj, .int .i64 e.v.t, .int .i64 e.v.k, .int .i64 e.pred, .slice e.sa e.sn e.sc]) (by kernel_rfl) (by kernel_rfl) (trivial) (⟨HXE.out.1, HXE.out.2⟩) ?_
      repeat (first
        | (refine ordC_skip rfl rfl ?_; simp only [Act.put, sa1, sa2, sa3])
        | (refine ordC_skip1 rfl rfl ?_; simp only [Act.put, sa1, sa2, sa3])
        | (refine ordC_q rfl rfl ?_; apply Exists.intro; refine ⟨fun wS hS => ?_, ?_⟩; (go_simp; try with_reducible rfl); simp only [Act.put, sa1, sa2, sa3])
        | (refine ordC_p rfl rfl ?_; apply Exists.intro; refine ⟨fun wS hS => ?_, ?_⟩; (go_simp; try with_reducible rfl); simp only [Act.put, sa1, sa2, sa3]))
      refine ordC_l rfl rfl (fun K hK => ?_)
      go_simp
      refine (HKC.out _ (HBE.out.trans ((Below.refl _ _).drew.mono HBE.out.size))).mono ?_
      rintro en_ Y ⟨rfl, hbY⟩
      have HBY0 := hid (show Below _ (wr.alloc _) Y from (Below.refl _ _).drew.trans hbY)
      have HXY := hid (keep2 HXE.out HBY0.out); have HBY := hid (HBE.out.trans (HBY0.out.mono HBE.out.size))
      refine hK _ _ ⟨trivial, HXY.out.1, HXY.out.2⟩ ?_
      clear hK K hbY
      repeat (first
        | (refine ordC_skip rfl rfl ?_; simp only [Act.put, sa1, sa2, sa3])
        | (refine ordC_skip1 rfl rfl ?_; simp only [Act.put, sa1, sa2, sa3])
        | (refine ordC_q rfl rfl ?_; apply Exists.intro; refine ⟨fun wS hS => ?_, ?_⟩; (go_simp; try with_reducible rfl); simp only [Act.put, sa1, sa2, sa3])
        | (refine ordC_p rfl rfl ?_; apply Exists.intro; refine ⟨fun wS hS => ?_, ?_⟩; (go_simp; try with_reducible rfl); simp only [Act.put, sa1, sa2, sa3]))
      refine ordC_nil ?_
      go_wp2_with fail
      go_roundw
      case rel =>
        refine ⟨k + 1, by omega, by go_num, ?_, HBY.out, HXY.out.1⟩
        exact fun q e' hq he' => by
          rcases Nat.lt_or_ge q k with h1 | h1
          · exact HAL.out q e' h1 he'
          · obtain rfl : q = k := by omega
            have h2 : e = e' := by have := HE.out; rw [he'] at this; injection this with this; exact this.symm
            subst h2
            exact HVF.out
      case measure => simp [RowKit.intOf]; omega
    · obtain rfl : en = k := by omega
      have HQ : Hid (R = true) := hid (by
        rw [HF.out]
        exact cntB_yes es [] (fun q e he => HAL.out q e (by rw [← HR.out.len]; exact (List.getElem?_eq_some_iff.1 he).1) he))
      have hcx := HXW.out.1; have hlx := HXW.out.2.2
      go_wp2_with fail
      go_ret
      exact ⟨by rw [HQ.out]; rfl, HBW.out⟩
end Yd


namespace Yd
open Go Go.RowKit Go.Proofs
attribute [local go_sem] Oper.semAt_some

/-- An event, its write's number that of its place. -/
def cntE (pre : List EvC) (e : EvC) : EvC := if e.kind = 2 then { e with v := ⟨e.v.t, 1 + ((cntK e pre : Nat) : Int)⟩ } else e
/-- The first k events, their writes numbered. -/
def numL (es : List EvC) (k : Nat) : List EvC := (List.range k).filterMap fun i => (es[i]?).map (cntE (es.take i))
theorem numL_succ {es : List EvC} {k : Nat} {e : EvC} (h : es[k]? = some e) : numL es (k + 1) = numL es k ++ [cntE (es.take k) e] := by
  unfold numL
  rw [List.range_succ, List.filterMap_append]
  simp [h]
/-- Is a write's number above 999? -/
def overB (es : List EvC) : Bool := (numL es es.length).any fun e => (e.kind == 2) && decide (999 < e.v.k)
theorem numL_prefix (es : List EvC) : ∀ (d k : Nat), numL es k <+: numL es (k + d)
  | 0, k => List.prefix_refl _
  | d + 1, k => by
    refine (numL_prefix es d k).trans ?_
    show numL es (k + d) <+: numL es (k + d + 1)
    unfold numL
    rw [List.range_succ, List.filterMap_append]
    exact List.prefix_append _ _
theorem over_yes {es : List EvC} {k : Nat} {e : EvC} (he : es[k]? = some e) (h2 : e.kind = 2) (hm : 999 < 1 + ((cntK e (es.take k) : Nat) : Int)) : overB es = true := by
  have hk := (List.getElem?_eq_some_iff.1 he).1
  obtain ⟨t, ht⟩ := numL_prefix es (es.length - (k + 1)) (k + 1)
  rw [show k + 1 + (es.length - (k + 1)) = es.length by omega] at ht
  unfold overB
  rw [← ht, numL_succ he]
  simp only [List.any_append, List.any_cons, cntE, if_pos h2]
  simp [hm, h2]
theorem Row.evN {X : World} {g : Nat} (h : X.heap.size = g) (e : EvC) : Row (X.alloc (.cells (cellsEv e) 49)) 9 encEv (some ⟨g, 0, none⟩) 1 1 [e] := by
  subst h
  exact (Own.new (hc := cInsEv) X X.heap.size 49 (enc := encEv) (cellsEv e) [e] (Nat.le_refl _) rfl (by simp [maxLen])).row (hc := cInsEv) (by simp)
/-- What 'Count' hands back. -/
def RetC (h : HC) (es : List EvC) (w : World) (e : Ending) (w' : World) : Prop :=
  if overB es = true then Ret2 (.agg #[.slice none 0 0, .slice none 0 0, .slice none 0 0, .slice none 0 0, .slice none 0 0, .slice none 0 0, .slice none 0 0, .slice none 0 0]) (.bool false) w e w'
  else ∃ a c, e = .returned (.tuple #[valH { h with e := ⟨a, h.e.n, c⟩ }, .bool true]) ∧ Own w' w.heap.size 49 9 encEv (.slice a h.e.n c) (numL es h.e.n) ∧ Below w.heap.size w w'
set_option maxRecDepth 100000 in
set_option maxHeartbeats 4000000 in
theorem r_Count (h : HC) (es : List EvC) (w : World) (hr : Row w 9 encEv h.e.a h.e.n h.e.c es) (hl : es.length ≤ 100000) :
    Calls Tryz.prog 22 #[valH h] w (RetC h es w) := by
  obtain ⟨⟨ta, tn, tc⟩, ⟨sa, sn, sc⟩, ⟨oa, on, oc⟩, ⟨pa, pn, pc⟩, ⟨ea, en, ec⟩, ⟨da, dn_, dc⟩, ⟨ma, mn_, mc⟩, ⟨wa, wn, wc⟩⟩ := h
  simp only at hr
  have hle := hr.le; have hcap := hr.cap
  have hl2 : en ≤ 100000 := by rw [← hr.len]; exact hl
  have HR := hid hr
  obtain ⟨i, z, hi, hz, hsize, hby', hzs⟩ := partsEv
  have HI := hid (⟨hi, hz, hsize, hby', hzs⟩ : _ ∧ _ ∧ _ ∧ _ ∧ _)
  have HB0 := hid (belowA (belowA (Below.refl w.heap.size w) (.cells #[.slice ta tn tc, .slice sa sn sc, .slice oa on oc, .slice pa pn pc, .slice ea en ec, .slice da dn_ dc, .slice ma mn_ mc, .slice wa wn wc] 28)) (.cells #[.slice none 0 0, .slice none 0 0, .slice none 0 0, .slice none 0 0, .slice none 0 0, .slice none 0 0, .slice none 0 0, .slice none 0 0] 28))
  have HX0 : Hid (Bx ((w.alloc (.cells #[.slice ta tn tc, .slice sa sn sc, .slice oa on oc, .slice pa pn pc, .slice ea en ec, .slice da dn_ dc, .slice ma mn_ mc, .slice wa wn wc] 28)).alloc (.cells #[.slice none 0 0, .slice none 0 0, .slice none 0 0, .slice none 0 0, .slice none 0 0, .slice none 0 0, .slice none 0 0, .slice none 0 0] 28)) w.heap.size #[.slice ta tn tc, .slice sa sn sc, .slice oa on oc, .slice pa pn pc, .slice ea en ec, .slice da dn_ dc, .slice ma mn_ mc, .slice wa wn wc] ∧ Bx ((w.alloc (.cells #[.slice ta tn tc, .slice sa sn sc, .slice oa on oc, .slice pa pn pc, .slice ea en ec, .slice da dn_ dc, .slice ma mn_ mc, .slice wa wn wc] 28)).alloc (.cells #[.slice none 0 0, .slice none 0 0, .slice none 0 0, .slice none 0 0, .slice none 0 0, .slice none 0 0, .slice none 0 0, .slice none 0 0] 28)) (w.heap.size + 1) #[.slice none 0 0, .slice none 0 0, .slice none 0 0, .slice none 0 0, .slice none 0 0, .slice none 0 0, .slice none 0 0, .slice none 0 0]) := hid ⟨(Bx.new w #[.slice ta tn tc, .slice sa sn sc, .slice oa on oc, .slice pa pn pc, .slice ea en ec, .slice da dn_ dc, .slice ma mn_ mc, .slice wa wn wc] 28).alloc _, Bx.new1 (by simp)⟩
  clear hr hl hi hz hsize hby' hzs
  go_enter Tryz.func22, Tryz.ntmps22
  have hcx := HX0.out.1.1; have hlx := HX0.out.1.2.2
  go_wp2_with fail
  clear hcx hlx
  go_loopw [4, 10] (fun v j wr => ∃ (k : Nat) (a : Option Addr) (c : Nat), k ≤ en ∧ j = .int .i64 k ∧ v = .slice a k c ∧ Own wr (w.heap.size + 2) 49 9 encEv (.slice a k c) (numL es k) ∧ (∀ e ∈ numL es k, e.kind = 2 → e.v.k ≤ 999) ∧ (Below w.heap.size w wr ∧ w.heap.size + 2 ≤ wr.heap.size) ∧ Bx wr w.heap.size #[.slice ta tn tc, .slice sa sn sc, .slice oa on oc, .slice pa pn pc, .slice ea en ec, .slice da dn_ dc, .slice ma mn_ mc, .slice wa wn wc] ∧ Bx wr (w.heap.size + 1) #[.slice none 0 0, .slice none 0 0, .slice none 0 0, .slice none 0 0, .slice none 0 0, .slice none 0 0, .slice none 0 0, .slice none 0 0]) (fun _ j _ => en - (RowKit.intOf j).toNat)
  case atStart => exact ⟨0, none, 0, Nat.zero_le _, rfl, rfl, Own.nil_ _ _ _ _ _, fun e he => by simp [numL] at he, ⟨HB0.out, by simp⟩, HX0.out.1, HX0.out.2⟩
  case round =>
    obtain ⟨k, a, c, hk, rfl, rfl, how, hal, hbw, hxw⟩ := hrel
    have HBW := hid hbw; have HXW := hid hxw; have HAL := hid hal; have HOW := hid how
    clear hbw hxw hal how
    by_cases hlt : k < en
    · obtain ⟨e, b, o, he, rfl, hce⟩ := (HR.out.below HBW.out.1 rfl).at_ hlt
      have e0 := hce 0 _ rfl
      have e1 := hce 1 _ rfl
      have e2 := hce 2 _ rfl
      have e3 := hce 3 _ rfl
      have e4 := hce 4 _ rfl
      have e5 := hce 5 _ rfl
      have e6 := hce 6 _ rfl
      have e7 := hce 7 _ rfl
      have e8 := hce 8 _ rfl
      simp only [Nat.add_zero] at e0
      have HE := hid he
      have HNS := hid (numL_succ he)
      have HXE : Hid ((Bx (wr.alloc (.cells #[.int .i64 e.kind, .int .i64 e.t, .int .i64 e.ses, .int .i64 e.lvl, .int .i64 e.obj, .int .i64 e.v.t, .int .i64 e.v.k, .int .i64 e.pred, .slice e.sa e.sn e.sc] 49)) w.heap.size #[.slice ta tn tc, .slice sa sn sc, .slice oa on oc, .slice pa pn pc, .slice (some ⟨b, o, none⟩) en ec, .slice da dn_ dc, .slice ma mn_ mc, .slice wa wn wc] ∧ Bx (wr.alloc (.cells #[.int .i64 e.kind, .int .i64 e.t, .int .i64 e.ses, .int .i64 e.lvl, .int .i64 e.obj, .int .i64 e.v.t, .int .i64 e.v.k, .int .i64 e.pred, .slice e.sa e.sn e.sc] 49)) (w.heap.size + 1) #[.slice none 0 0, .slice none 0 0, .slice none 0 0, .slice none 0 0, .slice none 0 0, .slice none 0 0, .slice none 0 0, .slice none 0 0]) ∧ Bx (wr.alloc (.cells #[.int .i64 e.kind, .int .i64 e.t, .int .i64 e.ses, .int .i64 e.lvl, .int .i64 e.obj, .int .i64 e.v.t, .int .i64 e.v.k, .int .i64 e.pred, .slice e.sa e.sn e.sc] 49)) wr.heap.size #[.int .i64 e.kind, .int .i64 e.t, .int .i64 e.ses, .int .i64 e.lvl, .int .i64 e.obj, .int .i64 e.v.t, .int .i64 e.v.k, .int .i64 e.pred, .slice e.sa e.sn e.sc]) := hid ⟨⟨HXW.out.1.alloc _, HXW.out.2.alloc _⟩, Bx.new wr _ _⟩
      have HBE := hid (belowA HBW.out.1 (.cells #[.int .i64 e.kind, .int .i64 e.t, .int .i64 e.ses, .int .i64 e.lvl, .int .i64 e.obj, .int .i64 e.v.t, .int .i64 e.v.k, .int .i64 e.pred, .slice e.sa e.sn e.sc] 49))
      have HOE := hid (HOW.out.alloc (.cells #[.int .i64 e.kind, .int .i64 e.t, .int .i64 e.ses, .int .i64 e.lvl, .int .i64 e.obj, .int .i64 e.v.t, .int .i64 e.v.k, .int .i64 e.pred, .slice e.sa e.sn e.sc] 49))
      have HN2 : Hid ((k + 1) * 88 ≤ 140737488355328) := hid (by omega)
      have HN3 : Hid (k + 1 ≤ maxLen) := hid (by unfold maxLen; omega)
      have HZW := hid HBW.out.2
      have HLEN : Hid ((numL es k).length + 1 = k + 1) := hid (by obtain ⟨q1, q2, q3, _, _⟩ := HOW.out.shape; injection q3 with _ q4 _; omega)
      clear hce he
      cases hk2 : (e.kind == 2)
      · have HCE : Hid (cntE (es.take k) e = e) := hid (by unfold cntE; rw [if_neg (by simpa using hk2)])
        have hcq := HXE.out.2.1; have hlq := HXE.out.2.2.2
        have HN4 : Hid (w.heap.size + 2 ≤ ((wr.alloc (.cells #[.int .i64 e.kind, .int .i64 e.t, .int .i64 e.ses, .int .i64 e.lvl, .int .i64 e.obj, .int .i64 e.v.t, .int .i64 e.v.k, .int .i64 e.pred, .slice e.sa e.sn e.sc] 49)).alloc (.cells #[.int .i64 e.kind, .int .i64 e.t, .int .i64 e.ses, .int .i64 e.lvl, .int .i64 e.obj, .int .i64 e.v.t, .int .i64 e.v.k, .int .i64 e.pred, .slice e.sa e.sn e.sc] 49)).heap.size) := hid (Nat.le_trans (Nat.le_trans HZW.out (by simp : wr.heap.size ≤ (wr.alloc (.cells #[.int .i64 e.kind, .int .i64 e.t, .int .i64 e.ses, .int .i64 e.lvl, .int .i64 e.obj, .int .i64 e.v.t, .int .i64 e.v.k, .int .i64 e.pred, .slice e.sa e.sn e.sc] 49)).heap.size)) (by rw [World.size_alloc ((wr.alloc (.cells #[.int .i64 e.kind, .int .i64 e.t, .int .i64 e.ses, .int .i64 e.lvl, .int .i64 e.obj, .int .i64 e.v.t, .int .i64 e.v.k, .int .i64 e.pred, .slice e.sa e.sn e.sc] 49))) (.cells #[.int .i64 e.kind, .int .i64 e.t, .int .i64 e.ses, .int .i64 e.lvl, .int .i64 e.obj, .int .i64 e.v.t, .int .i64 e.v.k, .int .i64 e.pred, .slice e.sa e.sn e.sc] 49)]; exact Nat.le_succ _))
        have HOZ := hid ((HOE.out).alloc (.cells #[.int .i64 e.kind, .int .i64 e.t, .int .i64 e.ses, .int .i64 e.lvl, .int .i64 e.obj, .int .i64 e.v.t, .int .i64 e.v.k, .int .i64 e.pred, .slice e.sa e.sn e.sc] 49))
        go_wp2_with (at_builtin; refine wpList_app rfl _ _ 23 rfl i z 88 Tryz.underlying23 HI.out.1 HI.out.2.1 HI.out.2.2.1 HI.out.2.2.2.1 HI.out.2.2.2.2 rfl HOZ.out (some ⟨wr.heap.size + 1, 0, none⟩) 1 1 (k + 1) [e] rfl (Row.evN (by simp) (e)) HLEN.out HN2.out HN3.out HN4.out ?_; intro a' c' w4 hown1 hg1 hat1)
        have hne0 : ∀ g, (Value.slice a k c).ownBlock = some g → w.heap.size + 2 ≤ g := fun g hg => (HOW.out.lt g hg).1
        have HR1 := hid (⟨hown1, below_app (Below.alloc HBE.out HBE.out.size _) ((HOE.out).alloc _) (by omega) (Nat.le_trans (by omega : w.heap.size ≤ w.heap.size + 2) HN4.out) hg1, ((hid HXE.out.1).out.1.alloc _).grown hg1 (fun e => by have := hne0 _ e; omega), ((hid HXE.out.1).out.2.alloc _).grown hg1 (fun e => by have := hne0 _ e; omega), Nat.le_trans HN4.out hg1.size⟩ : _ ∧ _ ∧ _ ∧ _ ∧ _)
        clear hown1 hg1 hat1 hne0
        go_roundw
        case rel =>
          refine ⟨k + 1, a', c', by omega, by go_num, rfl, by rw [HNS.out, HCE.out]; exact HR1.out.1, ?_, ⟨HR1.out.2.1, HR1.out.2.2.2.2⟩, HR1.out.2.2.1, HR1.out.2.2.2.1⟩
          intro x hx h2
          rw [HNS.out, HCE.out] at hx
          rcases List.mem_append.1 hx with hx | hx
          · exact HAL.out x hx h2
          · obtain rfl : x = e := by simpa using hx
            simp [h2] at hk2
        case measure => simp [RowKit.intOf]; omega
      have HKC := hid (r_k ⟨⟨ta, tn, tc⟩, ⟨sa, sn, sc⟩, ⟨oa, on, oc⟩, ⟨pa, pn, pc⟩, ⟨some ⟨b, o, none⟩, en, ec⟩, ⟨da, dn_, dc⟩, ⟨ma, mn_, mc⟩, ⟨wa, wn, wc⟩⟩ es k e _ (HR.out.below HBE.out rfl) HE.out)
      have hkp : e.kind = 2 := by simpa using hk2
      obtain ⟨m, hm⟩ : ∃ m : Int, m = 1 + ((cntK e (es.take k) : Nat) : Int) := ⟨_, rfl⟩
      rw [← hm] at HKC
      have HCE : Hid (cntE (es.take k) e = { e with v := ⟨e.v.t, m⟩ }) := hid (by unfold cntE; rw [if_pos hkp, hm])
      have HOV : Hid (999 < m → overB es = true) := hid (fun h9 => over_yes HE.out hkp (by rw [← hm]; exact h9))
      clear hm hkp
      have hcq := HXE.out.2.1; have hlq := HXE.out.2.2.2; have hcx := HXE.out.1.1.1; have hlx := HXE.out.1.1.2.2
      go_wp2_with fail
      clear hcq hlq hcx hlx e0 e1 e2 e3 e4 e5 e6 e7 e8
      refine HKC.out.mono ?_
      rintro en_ Y ⟨rfl, hbY⟩
      have HSY : Hid (Same (fun g => g ≠ wr.heap.size) Y (Y.setCell ⟨wr.heap.size, 6, none⟩ (.int .i64 m))) := hid ((Same.refl' _).setTail (fun hn => hn rfl))
      have HYB := hid (HXE.out.1.1.keep hbY); have HYZ := hid (HXE.out.1.2.keep hbY); have HYE := hid (HXE.out.2.keep hbY); have HYO := hid (HOE.out.below hbY rfl); have HYW := hid (HBE.out.trans (hbY.mono HBE.out.size))
      have HYS : Hid (wr.heap.size + 1 ≤ Y.heap.size) := hid (by have := hbY.size; simpa using this)
      have HZE : Hid (Bx (Y.setCell ⟨wr.heap.size, 6, none⟩ (.int .i64 m)) wr.heap.size #[.int .i64 e.kind, .int .i64 e.t, .int .i64 e.ses, .int .i64 e.lvl, .int .i64 e.obj, .int .i64 e.v.t, .int .i64 m, .int .i64 e.pred, .slice e.sa e.sn e.sc]) := hid (by have := HYE.out.setC 6 (by simp) (.int .i64 m); exact this)
      have HZX : Hid (Bx (Y.setCell ⟨wr.heap.size, 6, none⟩ (.int .i64 m)) w.heap.size #[.slice ta tn tc, .slice sa sn sc, .slice oa on oc, .slice pa pn pc, .slice (some ⟨b, o, none⟩) en ec, .slice da dn_ dc, .slice ma mn_ mc, .slice wa wn wc] ∧ Bx (Y.setCell ⟨wr.heap.size, 6, none⟩ (.int .i64 m)) (w.heap.size + 1) #[.slice none 0 0, .slice none 0 0, .slice none 0 0, .slice none 0 0, .slice none 0 0, .slice none 0 0, .slice none 0 0, .slice none 0 0]) := hid ⟨HSY.out.bx HYB.out (by have := HZW.out; show w.heap.size ≠ wr.heap.size; omega), HSY.out.bx HYZ.out (by have := HZW.out; show w.heap.size + 1 ≠ wr.heap.size; omega)⟩
      have HZB : Hid (Below w.heap.size w (Y.setCell ⟨wr.heap.size, 6, none⟩ (.int .i64 m))) := hid (HSY.out.below HYW.out (fun g hg => by have := HZW.out; show g ≠ wr.heap.size; omega) HYW.out.size)
      have HZO : Hid (Own (Y.setCell ⟨wr.heap.size, 6, none⟩ (.int .i64 m)) (w.heap.size + 2) 49 9 encEv (.slice a k c) (numL es k)) := hid (HYO.out.block fun g hg => HSY.out.block g (by have := (HOW.out.lt g hg).2; show g ≠ wr.heap.size; omega) ((HYO.out.lt g hg).2))
      have HZS : Hid (w.heap.size + 2 ≤ (Y.setCell ⟨wr.heap.size, 6, none⟩ (.int .i64 m)).heap.size) := hid (Nat.le_trans (by have := HZW.out; have := HYS.out; omega) HSY.out.size)
      clear hbY
      have hce1 := HYE.out.1; have hfe1 := HYE.out.2.1; have hle1 := HYE.out.2.2
      have hcq := HZE.out.1; have hlq := HZE.out.2.2
      by_cases hgt : 999 < m
      · have HQ := hid (HOV.out hgt)
        have hb2 := HZX.out.2
        have hc2 := hb2.1; have hf2 := hb2.2.1; have hl2' := hb2.2.2
        go_wp2_with fail
        refine bodyPost_ret (v := .tuple #[.agg #[.slice none 0 0, .slice none 0 0, .slice none 0 0, .slice none 0 0, .slice none 0 0, .slice none 0 0, .slice none 0 0, .slice none 0 0], .bool false]) (by simp [results, Tryz.results22, go_sem, hc2]) rfl ?_
        unfold RetC
        rw [if_pos HQ.out]
        refine ⟨rfl, ?_⟩
        have hs : ∀ Z, Same (fun g => g ≠ w.heap.size + 1) (Y.setCell ⟨wr.heap.size, 6, none⟩ (.int .i64 m)) Z → Below w.heap.size w Z := fun Z hZ => hZ.below HZB.out (fun g hg => by show g ≠ w.heap.size + 1; omega) HZB.out.size
        refine hs _ ?_
        repeat (first | (with_reducible exact Same.refl' _) | (refine Same.setTail ?_ (fun hn => hn rfl)))
      have HN4 : Hid (w.heap.size + 2 ≤ ((Y.setCell ⟨wr.heap.size, 6, none⟩ (.int .i64 m)).alloc (.cells #[.int .i64 e.kind, .int .i64 e.t, .int .i64 e.ses, .int .i64 e.lvl, .int .i64 e.obj, .int .i64 e.v.t, .int .i64 m, .int .i64 e.pred, .slice e.sa e.sn e.sc] 49)).heap.size) := hid (Nat.le_trans HZS.out (by rw [World.size_alloc ((Y.setCell ⟨wr.heap.size, 6, none⟩ (.int .i64 m))) (.cells #[.int .i64 e.kind, .int .i64 e.t, .int .i64 e.ses, .int .i64 e.lvl, .int .i64 e.obj, .int .i64 e.v.t, .int .i64 m, .int .i64 e.pred, .slice e.sa e.sn e.sc] 49)]; exact Nat.le_succ _))
      have HOZ := hid ((HZO.out).alloc (.cells #[.int .i64 e.kind, .int .i64 e.t, .int .i64 e.ses, .int .i64 e.lvl, .int .i64 e.obj, .int .i64 e.v.t, .int .i64 m, .int .i64 e.pred, .slice e.sa e.sn e.sc] 49))
      go_wp2_with (at_builtin; refine wpList_app rfl _ _ 23 rfl i z 88 Tryz.underlying23 HI.out.1 HI.out.2.1 HI.out.2.2.1 HI.out.2.2.2.1 HI.out.2.2.2.2 rfl HOZ.out (some ⟨Y.heap.size, 0, none⟩) 1 1 (k + 1) [{ e with v := ⟨e.v.t, m⟩ }] rfl (Row.evN (by simp [World.setCell]) ({ e with v := ⟨e.v.t, m⟩ })) HLEN.out HN2.out HN3.out HN4.out ?_; intro a' c' w4 hown1 hg1 hat1)
      have hne0 : ∀ g, (Value.slice a k c).ownBlock = some g → w.heap.size + 2 ≤ g := fun g hg => (HOW.out.lt g hg).1
      have HR1 := hid (⟨hown1, below_app (Below.alloc HZB.out HZB.out.size _) ((HZO.out).alloc _) (by omega) (Nat.le_trans (by omega : w.heap.size ≤ w.heap.size + 2) HN4.out) hg1, (HZX.out.1.alloc _).grown hg1 (fun e => by have := hne0 _ e; omega), (HZX.out.2.alloc _).grown hg1 (fun e => by have := hne0 _ e; omega), Nat.le_trans HN4.out hg1.size⟩ : _ ∧ _ ∧ _ ∧ _ ∧ _)
      clear hown1 hg1 hat1 hne0
      go_roundw
      case rel =>
        refine ⟨k + 1, a', c', by omega, by go_num, rfl, by rw [HNS.out, HCE.out]; exact HR1.out.1, ?_, ⟨HR1.out.2.1, HR1.out.2.2.2.2⟩, HR1.out.2.2.1, HR1.out.2.2.2.1⟩
        intro x hx h2
        rw [HNS.out, HCE.out] at hx
        rcases List.mem_append.1 hx with hx | hx
        · exact HAL.out x hx h2
        · obtain rfl : x = { e with v := ⟨e.v.t, m⟩ } := by simpa using hx
          show m ≤ 999
          omega
      case measure => simp [RowKit.intOf]; omega
    · obtain rfl : en = k := by omega
      have HQ : Hid (overB es = false) := hid (by
        unfold overB
        rw [HR.out.len, ← Bool.not_eq_true, List.any_eq_true]
        rintro ⟨e, he, hh⟩
        simp only [Bool.and_eq_true, beq_iff_eq, decide_eq_true_eq] at hh
        have := HAL.out e he hh.1
        omega)
      have HFIN : Hid (∀ Z, Same (fun g => g ≠ w.heap.size ∧ g ≠ w.heap.size + 1) _ Z → RetC ⟨⟨ta, tn, tc⟩, ⟨sa, sn, sc⟩, ⟨oa, on, oc⟩, ⟨pa, pn, pc⟩, ⟨ea, en, ec⟩, ⟨da, dn_, dc⟩, ⟨ma, mn_, mc⟩, ⟨wa, wn, wc⟩⟩ es w (.returned (.tuple #[valH ⟨⟨ta, tn, tc⟩, ⟨sa, sn, sc⟩, ⟨oa, on, oc⟩, ⟨pa, pn, pc⟩, ⟨a, en, c⟩, ⟨da, dn_, dc⟩, ⟨ma, mn_, mc⟩, ⟨wa, wn, wc⟩⟩, .bool true])) Z) := hid (fun Z hZ => by
        unfold RetC
        rw [if_neg (by rw [HQ.out]; simp)]
        refine ⟨a, c, rfl, ?_, hZ.below HBW.out.1 (fun g hg => by show g ≠ w.heap.size ∧ g ≠ w.heap.size + 1; omega) HBW.out.1.size⟩
        exact (HOW.out.block fun g hg => hZ.block g (by have := (HOW.out.lt g hg).1; show g ≠ w.heap.size ∧ g ≠ w.heap.size + 1; omega) (HOW.out.lt g hg).2).mono (by omega))
      have hcx := HXW.out.1.1; have hfx := HXW.out.1.2.1; have hlx := HXW.out.1.2.2
      have hb2 := HXW.out.2
      have hc2 := hb2.1; have hf2 := hb2.2.1; have hl2' := hb2.2.2
      clear hb2
      go_wp2_with fail
      refine bodyPost_ret (v := .tuple #[valH ⟨⟨ta, tn, tc⟩, ⟨sa, sn, sc⟩, ⟨oa, on, oc⟩, ⟨pa, pn, pc⟩, ⟨a, en, c⟩, ⟨da, dn_, dc⟩, ⟨ma, mn_, mc⟩, ⟨wa, wn, wc⟩⟩, .bool true]) (by simp [results, Tryz.results22, go_sem, hc2]) rfl (HFIN.out _ ?_)
      repeat (first | (with_reducible exact Same.refl' _) | (refine Same.setTail ?_ (fun hn => hn.1 rfl)) | (refine Same.setTail ?_ (fun hn => hn.2 rfl)))
end Yd
