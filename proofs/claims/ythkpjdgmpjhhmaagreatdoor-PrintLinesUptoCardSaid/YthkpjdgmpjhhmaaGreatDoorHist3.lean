import Derived.Test.YthkpjdgmpjhhmaaGreatDoorHist2
import Derived.Test.YthkpjdgmpjhhmaaGreatDoorProg
import Derived.Test.YthkpjdgmpjhhmaaGreatDoorGround
import Derived.BigQuiet
namespace Yd
open Go Go.RowKit Go.Proofs

@[reducible] def bare4 (e : EvC) : EvC := { kind := 0, t := 0, ses := 0, lvl := 0, obj := 0, v := ⟨0, 0⟩, pred := e.pred, sa := e.sa, sn := e.sn, sc := e.sc }
set_option maxRecDepth 100000 in
set_option maxHeartbeats 2000000 in
theorem event4 (h : HC) (e : EvC) (bh be : Nat) (W : World) (hE : Bx W be (cellsEv e)) (hH : Bx W bh (cellsH h)) (scan : List Sn) (hr : Row W 3 encSn e.sa e.sn e.sc scan) :
    Calls Tryz.prog 131 #[.pointer (some ⟨bh, 0, none⟩), .pointer (some ⟨be, 0, none⟩)] W (Ret2 (valEv (bare4 e)) (.bool (toldB e.pred h.p.n && decide ((e.sn : Int) ≤ 40) && scan.all (seenB h.t.n h.o.n))) W) := by
  have HS : Hid (∀ W', Below W.heap.size W W' → Bx W' be (cellsEv e) ∧ Bx W' bh (cellsH h)) := fun W' hb => ⟨hE.below hb hE.2.2, hH.below hb hH.2.2⟩
  clear hE hH
  have hall := fun (W' : World) (hb : Below W.heap.size W W') => allSn e.sa e.sn e.sc 132 #[.pointer (some ⟨bh, 0, none⟩)] scan (seenB h.t.n h.o.n) W' (hr.below hb rfl) Tryz.call132
    (fun x _ W2 hW2 => seen_any h x bh W2 ((HS.out W' hb).2.below hW2 (HS.out W' hb).2.2.2))
  have HA := hid hall
  have hlen := hid hr.len
  clear hall hr
  obtain ⟨R, hR0⟩ : ∃ R : Bool, R = (toldB e.pred h.p.n && decide ((e.sn : Int) ≤ 40) && scan.all (seenB h.t.n h.o.n)) := ⟨_, rfl⟩
  rw [← hR0]
  have HF := hid hR0; clear hR0
  cases b1 : toldB e.pred h.p.n
  all_goals cases b3 : scan.all (seenB h.t.n h.o.n)
  all_goals cases h2 : decide ((e.sn : Int) ≤ 40)
  all_goals
    have B1 := hid b1; clear b1
    have B3 := hid b3; clear b3
    skip
    go_enter Tryz.func131, Tryz.ntmps131
    go_wp2_with fail
    have HR := hid ((Bx.new W #[.int .i64 0, .int .i64 0, .int .i64 0, .int .i64 0, .int .i64 0, .int .i64 0, .int .i64 0, .int .i64 0, .slice none 0 0] 49).drew)
    have HB := hid (((Below.refl W.heap.size W).alloc (Nat.le_refl _) (.cells #[.int .i64 0, .int .i64 0, .int .i64 0, .int .i64 0, .int .i64 0, .int .i64 0, .int .i64 0, .int .i64 0, .slice none 0 0] 49)).drew)
    refine wp_region_ord [(0, true), (1, true), (2, true), (3, true), (4, true), (5, true), (6, true), (7, true), (8, false), (9, true), (10, true), (11, true), (12, true), (13, true), (14, true), (15, true), (16, true), (17, true), (18, true), (19, false), (20, true), (21, false), (22, true)] (fun W' => Bx W' be (cellsEv e) ∧ Bx W' bh (cellsH h)) (by kernel_rfl) (by kernel_rfl) (by intro d v c a w h; cases d <;> exact h) (HS.out _ HB.out) ?_
    repeat (first
      | (refine ord_skip rfl rfl ?_; simp only [Act.put, List.setIfInBounds_toArray, List.set_cons_zero, List.set_cons_succ])
      | (refine ord_q rfl rfl ?_; apply Exists.intro; refine ⟨fun wS hS => ?_, ?_⟩; (go_simp; try with_reducible rfl); simp only [Act.put, List.setIfInBounds_toArray, List.set_cons_zero, List.set_cons_succ]))
    first
      | (refine ord_lskip rfl rfl (HS.out _ HB.out) ?_; simp only [Act.put, List.setIfInBounds_toArray, List.set_cons_zero, List.set_cons_succ])
      | (refine ord_l rfl rfl (fun K hK => ?_); go_simp; refine (told3 h _ _).mono ?_; rintro e w1 ⟨rfl, hb1⟩; rw [B1.out]; (have HB := hid (HB.out.trans (hb1.mono HB.out.size))); (have HR := hid (HR.out.keep hb1)); refine hK _ _ (HS.out _ HB.out) ?_; clear hK K hb1)
    repeat (first
      | (refine ord_skip rfl rfl ?_; simp only [Act.put, List.setIfInBounds_toArray, List.set_cons_zero, List.set_cons_succ])
      | (refine ord_q rfl rfl ?_; apply Exists.intro; refine ⟨fun wS hS => ?_, ?_⟩; (go_simp; try with_reducible rfl); simp only [Act.put, List.setIfInBounds_toArray, List.set_cons_zero, List.set_cons_succ]))
    first
      | (refine ord_lskip rfl rfl (HS.out _ HB.out) ?_; simp only [Act.put, List.setIfInBounds_toArray, List.set_cons_zero, List.set_cons_succ])
      | (refine ord_l rfl rfl (fun K hK => ?_); go_simp; refine (HA.out _ HB.out).mono ?_; rintro e w1 ⟨rfl, hb1⟩; rw [B3.out]; (have HB := hid (HB.out.trans (hb1.mono HB.out.size))); (have HR := hid (HR.out.keep hb1)); refine hK _ _ (HS.out _ HB.out) ?_; clear hK K hb1)
    repeat (first
      | (refine ord_skip rfl rfl ?_; simp only [Act.put, List.setIfInBounds_toArray, List.set_cons_zero, List.set_cons_succ])
      | (refine ord_q rfl rfl ?_; apply Exists.intro; refine ⟨fun wS hS => ?_, ?_⟩; (go_simp; try with_reducible rfl); simp only [Act.put, List.setIfInBounds_toArray, List.set_cons_zero, List.set_cons_succ]))
    have hR := HR.out
    refine ord_l rfl rfl (fun K hK => ?_)
    go_simp
    refine hK _ _ (HS.out _ (((((((((HB.out.setCell (Nat.le_refl _) _).setCell (Nat.le_refl _) _).setCell (Nat.le_refl _) _).setCell (Nat.le_refl _) _).setCell (Nat.le_refl _) _).setCell (Nat.le_refl _) _).setCell (Nat.le_refl _) _).setCell (Nat.le_refl _) _).setCell (Nat.le_refl _) _)) ?_
    clear hK K
    repeat (first
      | (refine ord_skip rfl rfl ?_; simp only [Act.put, List.setIfInBounds_toArray, List.set_cons_zero, List.set_cons_succ])
      | (refine ord_q rfl rfl ?_; apply Exists.intro; refine ⟨fun wS hS => ?_, ?_⟩; (go_simp; try with_reducible rfl); simp only [Act.put, List.setIfInBounds_toArray, List.set_cons_zero, List.set_cons_succ]))
    refine ord_nil ?_
    go_wp2_with fail
    refine bodyPost_ret (v := .tuple #[valEv (bare4 e), .bool R]) (by simp [results, Tryz.results131, go_sem, hR, HF.out, B1.out, B3.out, h2]) rfl ⟨rfl, (((((((((HB.out.setCell (Nat.le_refl _) _).setCell (Nat.le_refl _) _).setCell (Nat.le_refl _) _).setCell (Nat.le_refl _) _).setCell (Nat.le_refl _) _).setCell (Nat.le_refl _) _).setCell (Nat.le_refl _) _).setCell (Nat.le_refl _) _).setCell (Nat.le_refl _) _)⟩

set_option maxRecDepth 100000 in
theorem event5 (W : World) : Calls Tryz.prog 134 #[] W (Ret2 (valEv bare0) (.bool true) W) := by
  go_enter Tryz.func134, Tryz.ntmps134
  go_wp2_with fail
  refine bodyPost_ret (v := .tuple #[valEv bare0, .bool true]) (by simp [results, Tryz.results134, go_sem]) rfl ⟨rfl, ?_⟩
  exact (Below.refl _ _).alloc (Nat.le_refl _) _

set_option maxRecDepth 100000 in
theorem event6 (W : World) : Calls Tryz.prog 135 #[] W (Ret2 (valEv bare0) (.bool true) W) := by
  go_enter Tryz.func135, Tryz.ntmps135
  go_wp2_with fail
  refine bodyPost_ret (v := .tuple #[valEv bare0, .bool true]) (by simp [results, Tryz.results135, go_sem]) rfl ⟨rfl, ?_⟩
  exact (Below.refl _ _).alloc (Nat.le_refl _) _

end Yd
