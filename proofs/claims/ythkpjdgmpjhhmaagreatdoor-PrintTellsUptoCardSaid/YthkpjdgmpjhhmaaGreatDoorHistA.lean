import Derived.Test.YthkpjdgmpjhhmaaGreatDoorProg
import Derived.Test.YthkpjdgmpjhhmaaGreatDoorIndex
import Derived.Test.YthkpjdgmpjhhmaaGreatDoorEqC
import Derived.Test.YthkpjdgmpjhhmaaGreatDoorGround
import Derived.WalkSpells
import Derived.BigQuiet
set_option maxRecDepth 200000
set_option maxHeartbeats 8000000
namespace Yd
open Go Go.RowKit Go.Proofs

structure Sl where
 a : Option Addr
 n : Nat
 c : Nat
@[reducible] def Sl.v (s : Sl) : Value := .slice s.a s.n s.c
structure HC where
 t : Sl
 s : Sl
 o : Sl
 p : Sl
 e : Sl
 d : Sl
 m : Sl
 w : Sl
@[reducible] def valH (h : HC) : Value := .agg #[h.t.v, h.s.v, h.o.v, h.p.v, h.e.v, h.d.v, h.m.v, h.w.v]

@[reducible] def cellsH (h : HC) : Array Value := #[h.t.v, h.s.v, h.o.v, h.p.v, h.e.v, h.d.v, h.m.v, h.w.v]

theorem names_any (h : HC) (w : World) : Calls Tryz.prog 61 #[valH h] w (Ret (.agg #[h.t.v, h.s.v, h.o.v, h.p.v]) w) := by
 go_enter Tryz.func61, Tryz.ntmps61
 go_wp2
 refine bodyPost_ret (v := .agg #[h.t.v, h.s.v, h.o.v, h.p.v]) (by simp [results, Tryz.results61, go_sem]) rfl ⟨rfl, ?_⟩
 exact ((Below.refl _ _).alloc (by simp) _).alloc (by simp) _

def toldB (n : Int) (many : Nat) : Bool := decide (0 ≤ n) && decide (n < many)
theorem toldB_neg {n : Int} {m : Nat} (h : n < 0) : toldB n m = false := by simp [toldB, Int.not_le.2 h]
theorem toldB_pos {n : Int} {m : Nat} (h : 0 ≤ n) : toldB n m = decide (n < m) := by simp [toldB, h]

theorem ixH0 (h : HC) (w : World) : (Instr.index 127 (.agg #[h.t.v, h.s.v, h.o.v, h.p.v]) (.int .i64 0)).run Tryz.prog w = .ok h.t.v w := by kernel_rfl
theorem told0 (h : HC) (n : Int) (w : World) : Calls Tryz.prog 98 #[valH h, .int .i64 0, .int .i64 n] w (Ret (.bool (toldB n h.t.n)) w) := by
 have hix := ixH0 h
 by_cases hn : 0 ≤ n
 · go_enter Tryz.func98, Tryz.ntmps98
   go_wp2_with (go_at_call 61; refine (names_any h _).mono ?_; rintro e w' ⟨rfl, hb⟩)
   go_ret
   refine ⟨by rw [toldB_pos hn]; rfl, ((Below.refl _ _).alloc (by simp) _).trans (hb.mono (by simp))⟩
 · go_enter Tryz.func98, Tryz.ntmps98
   go_wp2_with (go_at_call 61; refine (names_any h _).mono ?_; rintro e w' ⟨rfl, hb⟩)
   go_ret
   exact ⟨by rw [toldB_neg hn]; rfl, (Below.refl _ _).alloc (by simp) _⟩

theorem ixH1 (h : HC) (w : World) : (Instr.index 127 (.agg #[h.t.v, h.s.v, h.o.v, h.p.v]) (.int .i64 1)).run Tryz.prog w = .ok h.s.v w := by kernel_rfl
theorem told1 (h : HC) (n : Int) (w : World) : Calls Tryz.prog 98 #[valH h, .int .i64 1, .int .i64 n] w (Ret (.bool (toldB n h.s.n)) w) := by
 have hix := ixH1 h
 by_cases hn : 0 ≤ n
 · go_enter Tryz.func98, Tryz.ntmps98
   go_wp2_with (go_at_call 61; refine (names_any h _).mono ?_; rintro e w' ⟨rfl, hb⟩)
   go_ret
   refine ⟨by rw [toldB_pos hn]; rfl, ((Below.refl _ _).alloc (by simp) _).trans (hb.mono (by simp))⟩
 · go_enter Tryz.func98, Tryz.ntmps98
   go_wp2_with (go_at_call 61; refine (names_any h _).mono ?_; rintro e w' ⟨rfl, hb⟩)
   go_ret
   exact ⟨by rw [toldB_neg hn]; rfl, (Below.refl _ _).alloc (by simp) _⟩

theorem ixH2 (h : HC) (w : World) : (Instr.index 127 (.agg #[h.t.v, h.s.v, h.o.v, h.p.v]) (.int .i64 2)).run Tryz.prog w = .ok h.o.v w := by kernel_rfl
theorem told2 (h : HC) (n : Int) (w : World) : Calls Tryz.prog 98 #[valH h, .int .i64 2, .int .i64 n] w (Ret (.bool (toldB n h.o.n)) w) := by
 have hix := ixH2 h
 by_cases hn : 0 ≤ n
 · go_enter Tryz.func98, Tryz.ntmps98
   go_wp2_with (go_at_call 61; refine (names_any h _).mono ?_; rintro e w' ⟨rfl, hb⟩)
   go_ret
   refine ⟨by rw [toldB_pos hn]; rfl, ((Below.refl _ _).alloc (by simp) _).trans (hb.mono (by simp))⟩
 · go_enter Tryz.func98, Tryz.ntmps98
   go_wp2_with (go_at_call 61; refine (names_any h _).mono ?_; rintro e w' ⟨rfl, hb⟩)
   go_ret
   exact ⟨by rw [toldB_neg hn]; rfl, (Below.refl _ _).alloc (by simp) _⟩

theorem ixH3 (h : HC) (w : World) : (Instr.index 127 (.agg #[h.t.v, h.s.v, h.o.v, h.p.v]) (.int .i64 3)).run Tryz.prog w = .ok h.p.v w := by kernel_rfl
theorem told3 (h : HC) (n : Int) (w : World) : Calls Tryz.prog 98 #[valH h, .int .i64 3, .int .i64 n] w (Ret (.bool (toldB n h.p.n)) w) := by
 have hix := ixH3 h
 by_cases hn : 0 ≤ n
 · go_enter Tryz.func98, Tryz.ntmps98
   go_wp2_with (go_at_call 61; refine (names_any h _).mono ?_; rintro e w' ⟨rfl, hb⟩)
   go_ret
   refine ⟨by rw [toldB_pos hn]; rfl, ((Below.refl _ _).alloc (by simp) _).trans (hb.mono (by simp))⟩
 · go_enter Tryz.func98, Tryz.ntmps98
   go_wp2_with (go_at_call 61; refine (names_any h _).mono ?_; rintro e w' ⟨rfl, hb⟩)
   go_ret
   exact ⟨by rw [toldB_neg hn]; rfl, (Below.refl _ _).alloc (by simp) _⟩

def levelB (l : Int) : Bool := decide (1 ≤ l) && decide (l ≤ 4)
def levelE (l : Int) : Int := if levelB l = true then 0 else 190
theorem levelE_yes {l : Int} (h : levelB l = true) : levelE l = 0 := by simp [levelE, h]
theorem levelE_no {l : Int} (h : levelB l = false) : levelE l = 190 := by simp [levelE, h]
theorem level_Check (l : Int) (w : World) : Calls Tryz.prog 77 #[.int .i64 l] w (Ret (.int .i64 (levelE l)) w) := by
 by_cases h1 : 1 ≤ l
 · by_cases h2 : l ≤ 4
   · go_enter Tryz.func77, Tryz.ntmps77
     go_wp2
     go_ret
     exact ⟨by rw [levelE_yes (by simp [levelB, h1, h2])]; rfl, Below.refl _ _⟩
   · go_enter Tryz.func77, Tryz.ntmps77
     go_wp2
     go_ret
     exact ⟨by rw [levelE_no (by simp [levelB]; omega)]; rfl, Below.refl _ _⟩
 · go_enter Tryz.func77, Tryz.ntmps77
   go_wp2
   go_ret
   exact ⟨by rw [levelE_no (by simp [levelB]; omega)]; rfl, Below.refl _ _⟩


end Yd


namespace Yd
open Go Go.RowKit Go.Proofs

def verB (v : Ver) (nt : Nat) : Bool := if v.k = 0 then decide (v.t = 0) else toldB v.t nt && decide (0 < v.k) && decide (v.k ≤ 999)
theorem verB_0 {v : Ver} {nt : Nat} (h : (v.k == 0) = true) : verB v nt = decide (v.t = 0) := by simp at h; simp [verB, h]
theorem verB_1 {v : Ver} {nt : Nat} (h : (v.k == 0) = false) : verB v nt = (toldB v.t nt && decide (0 < v.k) && decide (v.k ≤ 999)) := by simp at h; simp [verB, h]
theorem version_any (h : HC) (v : Ver) (w : World) : Calls Tryz.prog 129 #[valH h, .agg #[.int .i64 v.t, .int .i64 v.k]] w (Ret (.bool (verB v h.t.n)) w) := by
 cases hk : v.k == 0
 · cases ht : toldB v.t h.t.n
   all_goals by_cases h1 : 0 < v.k
   all_goals
     have HK := hid hk; have HT := hid ht
     clear ht
     go_enter Tryz.func129, Tryz.ntmps129
     go_wp2_with (go_at_call 98; refine (told0 h _ _).mono ?_; rintro e w1 ⟨rfl, hb1⟩; rw [HT.out]; (obtain ⟨hc1, hf1⟩ := bcell hb1))
     go_ret
     refine ⟨?_, (((Below.refl _ _).alloc (Nat.le_refl _) _).alloc (by simp) _).trans (hb1.mono (by simp; omega))⟩
     rw [verB_1 HK.out, HT.out]
   · rfl
   · rfl
   · rw [decide_eq_true h1]; rfl
   · rw [decide_eq_false (by omega)]; rfl
 · go_enter Tryz.func129, Tryz.ntmps129
   go_wp2_with fail
   go_ret
   exact ⟨by rw [verB_0 hk]; rfl, ((Below.refl _ _).alloc (Nat.le_refl _) _).alloc (by simp) _⟩

def seenB (nt no : Nat) (s : Sn) : Bool := toldB s.obj no && verB s.v nt
theorem seenB_eq (nt no : Nat) (s : Sn) : seenB nt no s = (toldB s.obj no && verB s.v nt) := rfl
theorem seen_any (h : HC) (s : Sn) (bh : Nat) (w : World) (hH : Bx w bh (cellsH h)) : Calls Tryz.prog 132 #[valSn s, .pointer (some ⟨bh, 0, none⟩)] w (Ret (.bool (seenB h.t.n h.o.n s)) w) := by
 have HH := hid hH
 have hc0 := hH.1; have hlt := hH.2.2
 clear hH
 cases ht : toldB s.obj h.o.n
 all_goals
   have HT := hid ht
   clear ht
   go_enter Tryz.func132, Tryz.ntmps132
   go_wp2_with (first | (go_at_call 98; refine (told2 h _ _).mono ?_; rintro e w1 ⟨rfl, hb1⟩; rw [HT.out]; (obtain ⟨hc1, hf1⟩ := bcell hb1)) | (go_at_call 129; refine (version_any h _ _).mono ?_; rintro e w2 ⟨rfl, hb2⟩))
   go_ret
 · refine ⟨by rw [seenB_eq, HT.out]; rfl, ((Below.refl _ _).alloc (Nat.le_refl _) _).trans (hb1.mono (by simp))⟩
 · refine ⟨by rw [seenB_eq, HT.out]; rfl, (((Below.refl _ _).alloc (Nat.le_refl _) _).trans (hb1.mono (by simp))).trans (hb2.mono (by have := hb1.size; simp at this; omega))⟩

@[reducible] def bare0 : EvC := { kind := 0, t := 0, ses := 0, lvl := 0, obj := 0, v := ⟨0, 0⟩, pred := 0, sa := none, sn := 0, sc := 0 }
@[reducible] def bare1 (e : EvC) : EvC := { kind := 0, t := 0, ses := e.ses, lvl := e.lvl, obj := 0, v := ⟨0, 0⟩, pred := 0, sa := none, sn := 0, sc := 0 }
theorem event1 (h : HC) (e : EvC) (bh be : Nat) (W : World) (hE : Bx W be (cellsEv e)) (hH : Bx W bh (cellsH h)) :
   Calls Tryz.prog 127 #[.pointer (some ⟨be, 0, none⟩), .pointer (some ⟨bh, 0, none⟩)] W (Ret2 (valEv (bare1 e)) (.bool (toldB e.ses h.s.n && levelB e.lvl)) W) := by
 have HS : Hid (∀ W', Below W.heap.size W W' → Bx W' be (cellsEv e) ∧ Bx W' bh (cellsH h)) := fun W' hb => ⟨hE.below hb hE.2.2, hH.below hb hH.2.2⟩
 clear hE hH
 obtain ⟨R, hR0⟩ : ∃ R : Bool, R = (toldB e.ses h.s.n && levelB e.lvl) := ⟨_, rfl⟩
 rw [← hR0]
 have HF := hid hR0; clear hR0
 cases b1 : toldB e.ses h.s.n
 all_goals cases b2 : levelB e.lvl
 all_goals
   have B1 := hid b1; clear b1
   have B2 := hid b2; clear b2
   go_enter Tryz.func127, Tryz.ntmps127
   go_wp2_with fail
   have HR := hid ((Bx.new W #[.int .i64 0, .int .i64 0, .int .i64 0, .int .i64 0, .int .i64 0, .int .i64 0, .int .i64 0, .int .i64 0, .slice none 0 0] 49).drew)
   have HB := hid (((Below.refl W.heap.size W).alloc (Nat.le_refl _) (.cells #[.int .i64 0, .int .i64 0, .int .i64 0, .int .i64 0, .int .i64 0, .int .i64 0, .int .i64 0, .int .i64 0, .slice none 0 0] 49)).drew)
   refine wp_region_ord [(0, true), (1, true), (2, true), (3, true), (4, true), (5, true), (6, true), (7, true), (8, false), (9, true), (10, true), (11, true), (12, false), (13, true), (14, true), (15, false), (16, true)] (fun W' => Bx W' be (cellsEv e) ∧ Bx W' bh (cellsH h)) (by kernel_rfl) (by kernel_rfl) (by intro d v c a w h; cases d <;> exact h) (HS.out _ HB.out) ?_
   repeat ((first | refine ord_skip rfl rfl ?_ | (refine ord_q rfl rfl ?_; apply Exists.intro; refine ⟨fun wS hS => ?_, ?_⟩; (go_simp; try with_reducible rfl))); simp only [Act.put, List.setIfInBounds_toArray, List.set_cons_zero, List.set_cons_succ])
   first
     | (refine ord_lskip rfl rfl (HS.out _ HB.out) ?_; simp only [Act.put, List.setIfInBounds_toArray, List.set_cons_zero, List.set_cons_succ])
     | (refine ord_l rfl rfl (fun K hK => ?_); go_simp; refine (told1 h _ _).mono ?_; rintro e w1 ⟨rfl, hb1⟩; rw [B1.out]; (have HB := hid (HB.out.trans (hb1.mono HB.out.size))); (have HR := hid (HR.out.keep hb1)); refine hK _ _ (HS.out _ HB.out) ?_; clear hK K hb1)
   repeat ((first | refine ord_skip rfl rfl ?_ | (refine ord_q rfl rfl ?_; apply Exists.intro; refine ⟨fun wS hS => ?_, ?_⟩; (go_simp; try with_reducible rfl))); simp only [Act.put, List.setIfInBounds_toArray, List.set_cons_zero, List.set_cons_succ])
   first
     | (refine ord_lskip rfl rfl (HS.out _ HB.out) ?_; simp only [Act.put, List.setIfInBounds_toArray, List.set_cons_zero, List.set_cons_succ])
     | (refine ord_l rfl rfl (fun K hK => ?_); go_simp; refine (level_Check _ _).mono ?_; rintro e w1 ⟨rfl, hb1⟩; rw [show levelE e.lvl = (if levelB e.lvl = true then 0 else 190) from rfl, B2.out]; (have HB := hid (HB.out.trans (hb1.mono HB.out.size))); (have HR := hid (HR.out.keep hb1)); refine hK _ _ (HS.out _ HB.out) ?_; clear hK K hb1)
   repeat ((first | refine ord_skip rfl rfl ?_ | (refine ord_q rfl rfl ?_; apply Exists.intro; refine ⟨fun wS hS => ?_, ?_⟩; (go_simp; try with_reducible rfl))); simp only [Act.put, List.setIfInBounds_toArray, List.set_cons_zero, List.set_cons_succ])
   have hR := HR.out
   refine ord_l rfl rfl (fun K hK => ?_)
   go_simp
   refine hK _ _ (HS.out _ (((((((((HB.out.setCell (Nat.le_refl _) _).setCell (Nat.le_refl _) _).setCell (Nat.le_refl _) _).setCell (Nat.le_refl _) _).setCell (Nat.le_refl _) _).setCell (Nat.le_refl _) _).setCell (Nat.le_refl _) _).setCell (Nat.le_refl _) _).setCell (Nat.le_refl _) _)) ?_
   clear hK K
   repeat ((first | refine ord_skip rfl rfl ?_ | (refine ord_q rfl rfl ?_; apply Exists.intro; refine ⟨fun wS hS => ?_, ?_⟩; (go_simp; try with_reducible rfl))); simp only [Act.put, List.setIfInBounds_toArray, List.set_cons_zero, List.set_cons_succ])
   refine ord_nil ?_
   go_wp2_with fail
   refine bodyPost_ret (v := .tuple #[valEv (bare1 e), .bool R]) (by simp [results, Tryz.results127, go_sem, hR, HF.out, B1.out, B2.out]) rfl ⟨rfl, (((((((((HB.out.setCell (Nat.le_refl _) _).setCell (Nat.le_refl _) _).setCell (Nat.le_refl _) _).setCell (Nat.le_refl _) _).setCell (Nat.le_refl _) _).setCell (Nat.le_refl _) _).setCell (Nat.le_refl _) _).setCell (Nat.le_refl _) _).setCell (Nat.le_refl _) _)⟩

@[reducible] def bare2 (e : EvC) : EvC := { kind := 0, t := 0, ses := 0, lvl := 0, obj := e.obj, v := e.v, pred := 0, sa := none, sn := 0, sc := 0 }
theorem event2 (h : HC) (e : EvC) (bh be : Nat) (W : World) (hE : Bx W be (cellsEv e)) (hH : Bx W bh (cellsH h)) :
   Calls Tryz.prog 128 #[.pointer (some ⟨be, 0, none⟩), .pointer (some ⟨bh, 0, none⟩)] W (Ret2 (valEv (bare2 e)) (.bool (toldB e.obj h.o.n && verB e.v h.t.n && (e.v.t == e.t) && decide (0 < e.v.k))) W) := by
 have HS : Hid (∀ W', Below W.heap.size W W' → Bx W' be (cellsEv e) ∧ Bx W' bh (cellsH h)) := fun W' hb => ⟨hE.below hb hE.2.2, hH.below hb hH.2.2⟩
 clear hE hH
 obtain ⟨R, hR0⟩ : ∃ R : Bool, R = (toldB e.obj h.o.n && verB e.v h.t.n && (e.v.t == e.t) && decide (0 < e.v.k)) := ⟨_, rfl⟩
 rw [← hR0]
 have HF := hid hR0; clear hR0
 cases b1 : toldB e.obj h.o.n
 all_goals cases b2 : verB e.v h.t.n
 all_goals cases h3 : e.v.t == e.t
 all_goals
   have B1 := hid b1; clear b1
   have B2 := hid b2; clear b2
   skip
   go_enter Tryz.func128, Tryz.ntmps128
   go_wp2_with fail
   have HR := hid ((Bx.new W #[.int .i64 0, .int .i64 0, .int .i64 0, .int .i64 0, .int .i64 0, .int .i64 0, .int .i64 0, .int .i64 0, .slice none 0 0] 49).drew)
   have HB := hid (((Below.refl W.heap.size W).alloc (Nat.le_refl _) (.cells #[.int .i64 0, .int .i64 0, .int .i64 0, .int .i64 0, .int .i64 0, .int .i64 0, .int .i64 0, .int .i64 0, .slice none 0 0] 49)).drew)
   refine wp_region_ord [(0, true), (1, true), (2, true), (3, true), (4, true), (5, true), (6, true), (7, true), (8, false), (9, true), (10, true), (11, true), (12, true), (13, false), (14, true), (15, true), (16, true), (17, true), (18, true), (19, true), (20, true), (21, true), (22, true), (23, true), (24, true), (25, true), (26, true), (27, true), (28, true), (29, false), (30, true)] (fun W' => Bx W' be (cellsEv e) ∧ Bx W' bh (cellsH h)) (by kernel_rfl) (by kernel_rfl) (by intro d v c a w h; cases d <;> exact h) (HS.out _ HB.out) ?_
   repeat ((first | refine ord_skip rfl rfl ?_ | (refine ord_q rfl rfl ?_; apply Exists.intro; refine ⟨fun wS hS => ?_, ?_⟩; (go_simp; try with_reducible rfl))); simp only [Act.put, List.setIfInBounds_toArray, List.set_cons_zero, List.set_cons_succ])
   first
     | (refine ord_lskip rfl rfl (HS.out _ HB.out) ?_; simp only [Act.put, List.setIfInBounds_toArray, List.set_cons_zero, List.set_cons_succ])
     | (refine ord_l rfl rfl (fun K hK => ?_); go_simp; refine (told2 h _ _).mono ?_; rintro e w1 ⟨rfl, hb1⟩; rw [B1.out]; (have HB := hid (HB.out.trans (hb1.mono HB.out.size))); (have HR := hid (HR.out.keep hb1)); refine hK _ _ (HS.out _ HB.out) ?_; clear hK K hb1)
   repeat ((first | refine ord_skip rfl rfl ?_ | (refine ord_q rfl rfl ?_; apply Exists.intro; refine ⟨fun wS hS => ?_, ?_⟩; (go_simp; try with_reducible rfl))); simp only [Act.put, List.setIfInBounds_toArray, List.set_cons_zero, List.set_cons_succ])
   first
     | (refine ord_lskip rfl rfl (HS.out _ HB.out) ?_; simp only [Act.put, List.setIfInBounds_toArray, List.set_cons_zero, List.set_cons_succ])
     | (refine ord_l rfl rfl (fun K hK => ?_); go_simp; refine (version_any h _ _).mono ?_; rintro e w1 ⟨rfl, hb1⟩; rw [B2.out]; (have HB := hid (HB.out.trans (hb1.mono HB.out.size))); (have HR := hid (HR.out.keep hb1)); refine hK _ _ (HS.out _ HB.out) ?_; clear hK K hb1)
   repeat ((first | refine ord_skip rfl rfl ?_ | (refine ord_q rfl rfl ?_; apply Exists.intro; refine ⟨fun wS hS => ?_, ?_⟩; (go_simp; try with_reducible rfl))); simp only [Act.put, List.setIfInBounds_toArray, List.set_cons_zero, List.set_cons_succ])
   have hR := HR.out
   refine ord_l rfl rfl (fun K hK => ?_)
   go_simp
   refine hK _ _ (HS.out _ (((((((((HB.out.setCell (Nat.le_refl _) _).setCell (Nat.le_refl _) _).setCell (Nat.le_refl _) _).setCell (Nat.le_refl _) _).setCell (Nat.le_refl _) _).setCell (Nat.le_refl _) _).setCell (Nat.le_refl _) _).setCell (Nat.le_refl _) _).setCell (Nat.le_refl _) _)) ?_
   clear hK K
   repeat ((first | refine ord_skip rfl rfl ?_ | (refine ord_q rfl rfl ?_; apply Exists.intro; refine ⟨fun wS hS => ?_, ?_⟩; (go_simp; try with_reducible rfl))); simp only [Act.put, List.setIfInBounds_toArray, List.set_cons_zero, List.set_cons_succ])
   refine ord_nil ?_
   go_wp2_with fail
   refine bodyPost_ret (v := .tuple #[valEv (bare2 e), .bool R]) (by simp [results, Tryz.results128, go_sem, hR, HF.out, B1.out, B2.out, h3]) rfl ⟨rfl, (((((((((HB.out.setCell (Nat.le_refl _) _).setCell (Nat.le_refl _) _).setCell (Nat.le_refl _) _).setCell (Nat.le_refl _) _).setCell (Nat.le_refl _) _).setCell (Nat.le_refl _) _).setCell (Nat.le_refl _) _).setCell (Nat.le_refl _) _).setCell (Nat.le_refl _) _)⟩

@[reducible] def bare3 (e : EvC) : EvC := { kind := 0, t := 0, ses := 0, lvl := 0, obj := e.obj, v := e.v, pred := 0, sa := none, sn := 0, sc := 0 }
theorem event3 (h : HC) (e : EvC) (bh be : Nat) (W : World) (hE : Bx W be (cellsEv e)) (hH : Bx W bh (cellsH h)) :
   Calls Tryz.prog 130 #[.pointer (some ⟨be, 0, none⟩), .pointer (some ⟨bh, 0, none⟩)] W (Ret2 (valEv (bare3 e)) (.bool (toldB e.obj h.o.n && verB e.v h.t.n)) W) := by
 have HS : Hid (∀ W', Below W.heap.size W W' → Bx W' be (cellsEv e) ∧ Bx W' bh (cellsH h)) := fun W' hb => ⟨hE.below hb hE.2.2, hH.below hb hH.2.2⟩
 clear hE hH
 obtain ⟨R, hR0⟩ : ∃ R : Bool, R = (toldB e.obj h.o.n && verB e.v h.t.n) := ⟨_, rfl⟩
 rw [← hR0]
 have HF := hid hR0; clear hR0
 cases b1 : toldB e.obj h.o.n
 all_goals cases b2 : verB e.v h.t.n
 all_goals
   have B1 := hid b1; clear b1
   have B2 := hid b2; clear b2
   go_enter Tryz.func130, Tryz.ntmps130
   go_wp2_with fail
   have HR := hid ((Bx.new W #[.int .i64 0, .int .i64 0, .int .i64 0, .int .i64 0, .int .i64 0, .int .i64 0, .int .i64 0, .int .i64 0, .slice none 0 0] 49).drew)
   have HB := hid (((Below.refl W.heap.size W).alloc (Nat.le_refl _) (.cells #[.int .i64 0, .int .i64 0, .int .i64 0, .int .i64 0, .int .i64 0, .int .i64 0, .int .i64 0, .int .i64 0, .slice none 0 0] 49)).drew)
   refine wp_region_ord [(0, true), (1, true), (2, true), (3, true), (4, true), (5, true), (6, true), (7, true), (8, false), (9, true), (10, true), (11, true), (12, true), (13, false), (14, true), (15, false), (16, true)] (fun W' => Bx W' be (cellsEv e) ∧ Bx W' bh (cellsH h)) (by kernel_rfl) (by kernel_rfl) (by intro d v c a w h; cases d <;> exact h) (HS.out _ HB.out) ?_
   repeat ((first | refine ord_skip rfl rfl ?_ | (refine ord_q rfl rfl ?_; apply Exists.intro; refine ⟨fun wS hS => ?_, ?_⟩; (go_simp; try with_reducible rfl))); simp only [Act.put, List.setIfInBounds_toArray, List.set_cons_zero, List.set_cons_succ])
   first
     | (refine ord_lskip rfl rfl (HS.out _ HB.out) ?_; simp only [Act.put, List.setIfInBounds_toArray, List.set_cons_zero, List.set_cons_succ])
     | (refine ord_l rfl rfl (fun K hK => ?_); go_simp; refine (told2 h _ _).mono ?_; rintro e w1 ⟨rfl, hb1⟩; rw [B1.out]; (have HB := hid (HB.out.trans (hb1.mono HB.out.size))); (have HR := hid (HR.out.keep hb1)); refine hK _ _ (HS.out _ HB.out) ?_; clear hK K hb1)
   repeat ((first | refine ord_skip rfl rfl ?_ | (refine ord_q rfl rfl ?_; apply Exists.intro; refine ⟨fun wS hS => ?_, ?_⟩; (go_simp; try with_reducible rfl))); simp only [Act.put, List.setIfInBounds_toArray, List.set_cons_zero, List.set_cons_succ])
   first
     | (refine ord_lskip rfl rfl (HS.out _ HB.out) ?_; simp only [Act.put, List.setIfInBounds_toArray, List.set_cons_zero, List.set_cons_succ])
     | (refine ord_l rfl rfl (fun K hK => ?_); go_simp; refine (version_any h _ _).mono ?_; rintro e w1 ⟨rfl, hb1⟩; rw [B2.out]; (have HB := hid (HB.out.trans (hb1.mono HB.out.size))); (have HR := hid (HR.out.keep hb1)); refine hK _ _ (HS.out _ HB.out) ?_; clear hK K hb1)
   repeat ((first | refine ord_skip rfl rfl ?_ | (refine ord_q rfl rfl ?_; apply Exists.intro; refine ⟨fun wS hS => ?_, ?_⟩; (go_simp; try with_reducible rfl))); simp only [Act.put, List.setIfInBounds_toArray, List.set_cons_zero, List.set_cons_succ])
   have hR := HR.out
   refine ord_l rfl rfl (fun K hK => ?_)
   go_simp
   refine hK _ _ (HS.out _ (((((((((HB.out.setCell (Nat.le_refl _) _).setCell (Nat.le_refl _) _).setCell (Nat.le_refl _) _).setCell (Nat.le_refl _) _).setCell (Nat.le_refl _) _).setCell (Nat.le_refl _) _).setCell (Nat.le_refl _) _).setCell (Nat.le_refl _) _).setCell (Nat.le_refl _) _)) ?_
   clear hK K
   repeat ((first | refine ord_skip rfl rfl ?_ | (refine ord_q rfl rfl ?_; apply Exists.intro; refine ⟨fun wS hS => ?_, ?_⟩; (go_simp; try with_reducible rfl))); simp only [Act.put, List.setIfInBounds_toArray, List.set_cons_zero, List.set_cons_succ])
   refine ord_nil ?_
   go_wp2_with fail
   refine bodyPost_ret (v := .tuple #[valEv (bare3 e), .bool R]) (by simp [results, Tryz.results130, go_sem, hR, HF.out, B1.out, B2.out]) rfl ⟨rfl, (((((((((HB.out.setCell (Nat.le_refl _) _).setCell (Nat.le_refl _) _).setCell (Nat.le_refl _) _).setCell (Nat.le_refl _) _).setCell (Nat.le_refl _) _).setCell (Nat.le_refl _) _).setCell (Nat.le_refl _) _).setCell (Nat.le_refl _) _).setCell (Nat.le_refl _) _)⟩

end Yd


namespace Yd
open Go Go.RowKit Go.Proofs

@[reducible] def bare4 (e : EvC) : EvC := { kind := 0, t := 0, ses := 0, lvl := 0, obj := 0, v := ⟨0, 0⟩, pred := e.pred, sa := e.sa, sn := e.sn, sc := e.sc }
theorem event4 (h : HC) (e : EvC) (bh be : Nat) (W : World) (hE : Bx W be (cellsEv e)) (hH : Bx W bh (cellsH h)) (scan : List Sn) (hr : Row W 3 encSn e.sa e.sn e.sc scan) :
   Calls Tryz.prog 131 #[.pointer (some ⟨bh, 0, none⟩), .pointer (some ⟨be, 0, none⟩)] W (Ret2 (valEv (bare4 e)) (.bool (toldB e.pred h.p.n && decide ((e.sn : Int) ≤ 40) && scan.all (seenB h.t.n h.o.n))) W) := by
 have HS : Hid (∀ W', Below W.heap.size W W' → Bx W' be (cellsEv e) ∧ Bx W' bh (cellsH h)) := fun W' hb => ⟨hE.below hb hE.2.2, hH.below hb hH.2.2⟩
 clear hE hH
 have hall := fun (W' : World) (hb : Below W.heap.size W W') => allSn e.sa e.sn e.sc 132 #[.pointer (some ⟨bh, 0, none⟩)] scan (seenB h.t.n h.o.n) W' (hr.below hb rfl) Tryz.call132
   (fun x _ W2 hW2 => seen_any h x bh W2 ((HS.out W' hb).2.below hW2 (HS.out W' hb).2.2.2))
 have HA := hid hall
 have hlen := hid hr.len
 clear hall hr
 obtain ⟨R, hR0⟩ : ∃ R : Bool, R = (toldB e.pred h.p.n && decide ((e.sn : Int) ≤ 40) && scan.all (seenB h.t.n h.o.n)) := ⟨_, rfl⟩
 rw [← hR0]
 have HF := hid hR0; clear hR0
 cases b1 : toldB e.pred h.p.n
 all_goals cases b3 : scan.all (seenB h.t.n h.o.n)
 all_goals cases h2 : decide ((e.sn : Int) ≤ 40)
 all_goals
   have B1 := hid b1; clear b1
   have B3 := hid b3; clear b3
   skip
   go_enter Tryz.func131, Tryz.ntmps131
   go_wp2_with fail
   have HR := hid ((Bx.new W #[.int .i64 0, .int .i64 0, .int .i64 0, .int .i64 0, .int .i64 0, .int .i64 0, .int .i64 0, .int .i64 0, .slice none 0 0] 49).drew)
   have HB := hid (((Below.refl W.heap.size W).alloc (Nat.le_refl _) (.cells #[.int .i64 0, .int .i64 0, .int .i64 0, .int .i64 0, .int .i64 0, .int .i64 0, .int .i64 0, .int .i64 0, .slice none 0 0] 49)).drew)
   refine wp_region_ord [(0, true), (1, true), (2, true), (3, true), (4, true), (5, true), (6, true), (7, true), (8, false), (9, true), (10, true), (11, true), (12, true), (13, true), (14, true), (15, true), (16, true), (17, true), (18, true), (19, false), (20, true), (21, false), (22, true)] (fun W' => Bx W' be (cellsEv e) ∧ Bx W' bh (cellsH h)) (by kernel_rfl) (by kernel_rfl) (by intro d v c a w h; cases d <;> exact h) (HS.out _ HB.out) ?_
   repeat ((first | refine ord_skip rfl rfl ?_ | (refine ord_q rfl rfl ?_; apply Exists.intro; refine ⟨fun wS hS => ?_, ?_⟩; (go_simp; try with_reducible rfl))); simp only [Act.put, List.setIfInBounds_toArray, List.set_cons_zero, List.set_cons_succ])
   first
     | (refine ord_lskip rfl rfl (HS.out _ HB.out) ?_; simp only [Act.put, List.setIfInBounds_toArray, List.set_cons_zero, List.set_cons_succ])
     | (refine ord_l rfl rfl (fun K hK => ?_); go_simp; refine (told3 h _ _).mono ?_; rintro e w1 ⟨rfl, hb1⟩; rw [B1.out]; (have HB := hid (HB.out.trans (hb1.mono HB.out.size))); (have HR := hid (HR.out.keep hb1)); refine hK _ _ (HS.out _ HB.out) ?_; clear hK K hb1)
   repeat ((first | refine ord_skip rfl rfl ?_ | (refine ord_q rfl rfl ?_; apply Exists.intro; refine ⟨fun wS hS => ?_, ?_⟩; (go_simp; try with_reducible rfl))); simp only [Act.put, List.setIfInBounds_toArray, List.set_cons_zero, List.set_cons_succ])
   first
     | (refine ord_lskip rfl rfl (HS.out _ HB.out) ?_; simp only [Act.put, List.setIfInBounds_toArray, List.set_cons_zero, List.set_cons_succ])
     | (refine ord_l rfl rfl (fun K hK => ?_); go_simp; refine (HA.out _ HB.out).mono ?_; rintro e w1 ⟨rfl, hb1⟩; rw [B3.out]; (have HB := hid (HB.out.trans (hb1.mono HB.out.size))); (have HR := hid (HR.out.keep hb1)); refine hK _ _ (HS.out _ HB.out) ?_; clear hK K hb1)
   repeat ((first | refine ord_skip rfl rfl ?_ | (refine ord_q rfl rfl ?_; apply Exists.intro; refine ⟨fun wS hS => ?_, ?_⟩; (go_simp; try with_reducible rfl))); simp only [Act.put, List.setIfInBounds_toArray, List.set_cons_zero, List.set_cons_succ])
   have hR := HR.out
   refine ord_l rfl rfl (fun K hK => ?_)
   go_simp
   refine hK _ _ (HS.out _ (((((((((HB.out.setCell (Nat.le_refl _) _).setCell (Nat.le_refl _) _).setCell (Nat.le_refl _) _).setCell (Nat.le_refl _) _).setCell (Nat.le_refl _) _).setCell (Nat.le_refl _) _).setCell (Nat.le_refl _) _).setCell (Nat.le_refl _) _).setCell (Nat.le_refl _) _)) ?_
   clear hK K
   repeat ((first | refine ord_skip rfl rfl ?_ | (refine ord_q rfl rfl ?_; apply Exists.intro; refine ⟨fun wS hS => ?_, ?_⟩; (go_simp; try with_reducible rfl))); simp only [Act.put, List.setIfInBounds_toArray, List.set_cons_zero, List.set_cons_succ])
   refine ord_nil ?_
   go_wp2_with fail
   refine bodyPost_ret (v := .tuple #[valEv (bare4 e), .bool R]) (by simp [results, Tryz.results131, go_sem, hR, HF.out, B1.out, B3.out, h2]) rfl ⟨rfl, (((((((((HB.out.setCell (Nat.le_refl _) _).setCell (Nat.le_refl _) _).setCell (Nat.le_refl _) _).setCell (Nat.le_refl _) _).setCell (Nat.le_refl _) _).setCell (Nat.le_refl _) _).setCell (Nat.le_refl _) _).setCell (Nat.le_refl _) _).setCell (Nat.le_refl _) _)⟩

theorem event5 (W : World) : Calls Tryz.prog 134 #[] W (Ret2 (valEv bare0) (.bool true) W) := by
 go_enter Tryz.func134, Tryz.ntmps134
 go_wp2_with fail
 refine bodyPost_ret (v := .tuple #[valEv bare0, .bool true]) (by simp [results, Tryz.results134, go_sem]) rfl ⟨rfl, ?_⟩
 exact (Below.refl _ _).alloc (Nat.le_refl _) _

theorem event6 (W : World) : Calls Tryz.prog 135 #[] W (Ret2 (valEv bare0) (.bool true) W) := by
 go_enter Tryz.func135, Tryz.ntmps135
 go_wp2_with fail
 refine bodyPost_ret (v := .tuple #[valEv bare0, .bool true]) (by simp [results, Tryz.results135, go_sem]) rfl ⟨rfl, ?_⟩
 exact (Below.refl _ _).alloc (Nat.le_refl _) _

end Yd
