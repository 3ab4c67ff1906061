import Derived.Test.YthkpjdgmpjhhmaaGreatDoorProg
import Derived.Test.YthkpjdgmpjhhmaaGreatDoorIndex
import Derived.Test.YthkpjdgmpjhhmaaGreatDoorEq
import Derived.Test.YthkpjdgmpjhhmaaGreatDoorGround
import Derived.WalkSpells
namespace Yd
open Go Go.RowKit Go.Proofs

structure Sl where
  a : Option Addr
  n : Nat
  c : Nat
@[reducible] def Sl.v (s : Sl) : Value := .slice s.a s.n s.c
structure HC where
  t : Sl
  s : Sl
  o : Sl
  p : Sl
  e : Sl
  d : Sl
  m : Sl
  w : Sl
@[reducible] def valH (h : HC) : Value := .agg #[h.t.v, h.s.v, h.o.v, h.p.v, h.e.v, h.d.v, h.m.v, h.w.v]

@[reducible] def cellsH (h : HC) : Array Value := #[h.t.v, h.s.v, h.o.v, h.p.v, h.e.v, h.d.v, h.m.v, h.w.v]

set_option maxRecDepth 100000 in
set_option maxHeartbeats 400000 in
theorem names_any (h : HC) (w : World) : Calls Tryz.prog 61 #[valH h] w (Ret (.agg #[h.t.v, h.s.v, h.o.v, h.p.v]) w) := by
  go_enter Tryz.func61, Tryz.ntmps61
  go_wp2
  refine bodyPost_ret (v := .agg #[h.t.v, h.s.v, h.o.v, h.p.v]) (by simp [results, Tryz.results61, go_sem]) rfl ⟨rfl, ?_⟩
  exact ((Below.refl _ _).alloc (by simp) _).alloc (by simp) _

def toldB (n : Int) (many : Nat) : Bool := decide (0 ≤ n) && decide (n < many)
theorem toldB_neg {n : Int} {m : Nat} (h : n < 0) : toldB n m = false := by simp [toldB, Int.not_le.2 h]
theorem toldB_pos {n : Int} {m : Nat} (h : 0 ≤ n) : toldB n m = decide (n < m) := by simp [toldB, h]

theorem ixH0 (h : HC) (w : World) : (Instr.index 127 (.agg #[h.t.v, h.s.v, h.o.v, h.p.v]) (.int .i64 0)).run Tryz.prog w = .ok h.t.v w := by kernel_rfl
set_option maxRecDepth 100000 in
set_option maxHeartbeats 400000 in
theorem told0 (h : HC) (n : Int) (w : World) : Calls Tryz.prog 98 #[valH h, .int .i64 0, .int .i64 n] w (Ret (.bool (toldB n h.t.n)) w) := by
  have hix := ixH0 h
  by_cases hn : 0 ≤ n
  · go_enter Tryz.func98, Tryz.ntmps98
    go_wp2_with (go_at_call 61; refine (names_any h _).mono ?_; rintro e w' ⟨rfl, hb⟩)
    go_ret
    refine ⟨by rw [toldB_pos hn]; rfl, ((Below.refl _ _).alloc (by simp) _).trans (hb.mono (by simp))⟩
  · go_enter Tryz.func98, Tryz.ntmps98
    go_wp2_with (go_at_call 61; refine (names_any h _).mono ?_; rintro e w' ⟨rfl, hb⟩)
    go_ret
    exact ⟨by rw [toldB_neg hn]; rfl, (Below.refl _ _).alloc (by simp) _⟩

theorem ixH1 (h : HC) (w : World) : (Instr.index 127 (.agg #[h.t.v, h.s.v, h.o.v, h.p.v]) (.int .i64 1)).run Tryz.prog w = .ok h.s.v w := by kernel_rfl
set_option maxRecDepth 100000 in
set_option maxHeartbeats 400000 in
theorem told1 (h : HC) (n : Int) (w : World) : Calls Tryz.prog 98 #[valH h, .int .i64 1, .int .i64 n] w (Ret (.bool (toldB n h.s.n)) w) := by
  have hix := ixH1 h
  by_cases hn : 0 ≤ n
  · go_enter Tryz.func98, Tryz.ntmps98
    go_wp2_with (go_at_call 61; refine (names_any h _).mono ?_; rintro e w' ⟨rfl, hb⟩)
    go_ret
    refine ⟨by rw [toldB_pos hn]; rfl, ((Below.refl _ _).alloc (by simp) _).trans (hb.mono (by simp))⟩
  · go_enter Tryz.func98, Tryz.ntmps98
    go_wp2_with (go_at_call 61; refine (names_any h _).mono ?_; rintro e w' ⟨rfl, hb⟩)
    go_ret
    exact ⟨by rw [toldB_neg hn]; rfl, (Below.refl _ _).alloc (by simp) _⟩

theorem ixH2 (h : HC) (w : World) : (Instr.index 127 (.agg #[h.t.v, h.s.v, h.o.v, h.p.v]) (.int .i64 2)).run Tryz.prog w = .ok h.o.v w := by kernel_rfl
set_option maxRecDepth 100000 in
set_option maxHeartbeats 400000 in
theorem told2 (h : HC) (n : Int) (w : World) : Calls Tryz.prog 98 #[valH h, .int .i64 2, .int .i64 n] w (Ret (.bool (toldB n h.o.n)) w) := by
  have hix := ixH2 h
  by_cases hn : 0 ≤ n
  · go_enter Tryz.func98, Tryz.ntmps98
    go_wp2_with (go_at_call 61; refine (names_any h _).mono ?_; rintro e w' ⟨rfl, hb⟩)
    go_ret
    refine ⟨by rw [toldB_pos hn]; rfl, ((Below.refl _ _).alloc (by simp) _).trans (hb.mono (by simp))⟩
  · go_enter Tryz.func98, Tryz.ntmps98
    go_wp2_with (go_at_call 61; refine (names_any h _).mono ?_; rintro e w' ⟨rfl, hb⟩)
    go_ret
    exact ⟨by rw [toldB_neg hn]; rfl, (Below.refl _ _).alloc (by simp) _⟩

theorem ixH3 (h : HC) (w : World) : (Instr.index 127 (.agg #[h.t.v, h.s.v, h.o.v, h.p.v]) (.int .i64 3)).run Tryz.prog w = .ok h.p.v w := by kernel_rfl
set_option maxRecDepth 100000 in
set_option maxHeartbeats 400000 in
theorem told3 (h : HC) (n : Int) (w : World) : Calls Tryz.prog 98 #[valH h, .int .i64 3, .int .i64 n] w (Ret (.bool (toldB n h.p.n)) w) := by
  have hix := ixH3 h
  by_cases hn : 0 ≤ n
  · go_enter Tryz.func98, Tryz.ntmps98
    go_wp2_with (go_at_call 61; refine (names_any h _).mono ?_; rintro e w' ⟨rfl, hb⟩)
    go_ret
    refine ⟨by rw [toldB_pos hn]; rfl, ((Below.refl _ _).alloc (by simp) _).trans (hb.mono (by simp))⟩
  · go_enter Tryz.func98, Tryz.ntmps98
    go_wp2_with (go_at_call 61; refine (names_any h _).mono ?_; rintro e w' ⟨rfl, hb⟩)
    go_ret
    exact ⟨by rw [toldB_neg hn]; rfl, (Below.refl _ _).alloc (by simp) _⟩

def levelB (l : Int) : Bool := decide (1 ≤ l) && decide (l ≤ 4)
def levelE (l : Int) : Int := if levelB l = true then 0 else 190
theorem levelE_yes {l : Int} (h : levelB l = true) : levelE l = 0 := by simp [levelE, h]
theorem levelE_no {l : Int} (h : levelB l = false) : levelE l = 190 := by simp [levelE, h]
set_option maxHeartbeats 400000 in
theorem level_Check (l : Int) (w : World) : Calls Tryz.prog 77 #[.int .i64 l] w (Ret (.int .i64 (levelE l)) w) := by
  by_cases h1 : 1 ≤ l
  · by_cases h2 : l ≤ 4
    · go_enter Tryz.func77, Tryz.ntmps77
      go_wp2
      go_ret
      exact ⟨by rw [levelE_yes (by simp [levelB, h1, h2])]; rfl, Below.refl _ _⟩
    · go_enter Tryz.func77, Tryz.ntmps77
      go_wp2
      go_ret
      exact ⟨by rw [levelE_no (by simp [levelB]; omega)]; rfl, Below.refl _ _⟩
  · go_enter Tryz.func77, Tryz.ntmps77
    go_wp2
    go_ret
    exact ⟨by rw [levelE_no (by simp [levelB]; omega)]; rfl, Below.refl _ _⟩


end Yd
