import Derived.Test.YthdpangjphphjaaGreatDoorRdB
import Derived.Test.YthdpangjphphjaaGreatDoorRdT
import Derived.Test.YthdpangjphphjaaGreatDoorShelf
import Derived.WalkSmall
import Derived.Test.YthdpangjphphjaaGreatDoorProg
set_option maxRecDepth 200000
set_option maxHeartbeats 8000000
namespace Yd
open Go Go.RowKit Go.Proofs

@[reducible] def cellsCu (s : Bs) (p : Nat) (e : Int) : Array Value := #[.string ⟨s.toArray⟩, .int .i64 (p : Int), .int .i64 e]
structure CuC (w : World) (B : Nat) (s : Bs) (p : Nat) (l : Bs) (e : Int) : Prop where
 x : Bx w B (cellsCu s p e)
 d : s.drop p = l
 le : p ≤ s.length
 lim : s.length ≤ 1000000
theorem CuC.below {w w' : World} {B p : Nat} {s l : Bs} {e : Int} (h : CuC w B s p l e) (hb : Below w.heap.size w w') : CuC w' B s p l e := ⟨h.x.keep hb, h.d, h.le, h.lim⟩
theorem CuC.drew {w : World} {B p : Nat} {s l : Bs} {e : Int} (h : CuC w B s p l e) : CuC w.drew B s p l e := ⟨h.x, h.d, h.le, h.lim⟩
theorem CuC.len {w : World} {B p : Nat} {s l : Bs} {e : Int} (h : CuC w B s p l e) : p + l.length = s.length := by
 have := h.le; rw [← h.d, List.length_drop]; omega
theorem CuC.at_ {w : World} {B p : Nat} {s t : Bs} {b : UInt8} {e : Int} (h : CuC w B s p (b :: t) e) : s[p]? = some b := by
 have := congrArg (fun l => l[0]?) h.d
 simpa using this
theorem CuC.lt {w : World} {B p : Nat} {s l : Bs} {e : Int} (h : CuC w B s p l e) : B < w.heap.size := h.x.2.2
@[reducible] def Cs (B : Nat) (w w' : World) : Prop := Same (fun i => i ≠ B) w w'
theorem Cs.of_below {B : Nat} {w w' : World} (h : Below w.heap.size w w') : Cs B w w' := Same.of_below h (fun _ _ h => h)
theorem Cs.mv {B : Nat} {w w' : World} (h : Cs B w w') (c : LnC) : Mv B c c w w' := ⟨⟨h.os, h.tape, h.output, h.size, fun i hi hl => h.block i hi.1 hl⟩, fun _ h => .inl h, fun _ h => .inl h⟩
theorem CuC.drewN {w : World} {B p : Nat} {s l : Bs} {e : Int} (h : CuC w B s p l e) (n : Nat) : CuC (w.drewN n) B s p l e := ⟨h.x, h.d, h.le, h.lim⟩
theorem Cs.drewN (B : Nat) (w : World) (n : Nat) : Cs B w (w.drewN n) := ⟨rfl, rfl, rfl, Nat.le_refl _, fun _ _ _ => rfl⟩
theorem CuC.go {w : World} {B p : Nat} {s l : Bs} {e : Int} (h : CuC w B s p l e) (k : Nat) (hk : k ≤ l.length) (q : Nat) (hq : q = p + k) :
   CuC (w.setCell ⟨B, 1, none⟩ (.int .i64 (q : Int))) B s q (l.drop k) e ∧ Cs B w (w.setCell ⟨B, 1, none⟩ (.int .i64 (q : Int))) := by
 subst hq
 have hx := h.x.setC 1 (by simp) (.int .i64 ((p + k : Nat) : Int))
 refine ⟨⟨hx, by rw [← h.d, List.drop_drop], by have := h.len; omega, h.lim⟩, Same.setCell _ _ _ _ (fun e => e rfl)⟩
def CuRes {α : Type} (B : Nat) (s : Bs) (w : World) (val : α → Value) (x : Except Er (α × Bs)) (e : Ending) (w' : World) : Prop :=
 ∃ (a : α) (p' : Nat) (l' : Bs) (er : Int), e = .returned (val a) ∧ CuC w' B s p' l' er ∧ Cs B w w' ∧ (match x with | .ok (a', r) => a = a' ∧ l' = r ∧ er = 0 | .error (r, m) => l' = r ∧ er = m ∧ m ≠ 0)
theorem skipS_cons_yes {b : UInt8} {t : Bs} (h : blB b = true) : skipS (b :: t) = skipS t := by unfold skipS; rw [List.dropWhile_cons, if_pos h]
theorem skipS_cons_no {b : UInt8} {t : Bs} (h : blB b = false) : skipS (b :: t) = b :: t := by unfold skipS; rw [List.dropWhile_cons, h]; rfl
end Yd


namespace Yd
open Go Go.RowKit Go.Proofs

def mustU (l : Bs) : Except Er (Unit × Bs) := match mustS l with | .error x => .error x | .ok r => .ok ((), r)
end Yd


namespace Yd
open Go Go.RowKit Go.Proofs

def wcR (c : UInt8) : Bool := wcB c || decide (128 ≤ c.toNat)
def runR (l : Bs) : Nat := (l.takeWhile wcR).length
theorem tw_take (q : UInt8 → Bool) : ∀ (l : Bs) (k : Nat), k ≤ (l.takeWhile q).length → (l.takeWhile q).length = k + ((l.drop k).takeWhile q).length
 | _, 0, _ => by simp
 | [], k + 1, h => by simp at h
 | a :: t, k + 1, h => by
   rw [List.takeWhile_cons] at h ⊢
   cases hq : q a
   · rw [hq] at h; simp at h
   · rw [hq, if_pos rfl] at h
     rw [if_pos rfl, List.drop_succ_cons]
     have := tw_take q t k (by simpa using h)
     simp only [List.length_cons]; omega
end Yd
