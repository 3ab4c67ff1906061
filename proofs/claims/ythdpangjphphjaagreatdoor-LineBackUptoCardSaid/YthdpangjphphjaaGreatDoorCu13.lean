import Derived.Test.YthdpangjphphjaaGreatDoorEnc
import Derived.Test.YthdpangjphphjaaGreatDoorProg
set_option maxRecDepth 200000
set_option maxHeartbeats 8000000
namespace Yd
open Go Go.RowKit Go.Proofs

theorem CuC.to {w : World} {B p : Nat} {s l : Bs} {e : Int} (h : CuC w B s p l e) (q : Nat) (hq : q ≤ s.length) :
   CuC (w.setCell ⟨B, 1, none⟩ (.int .i64 (q : Int))) B s q (s.drop q) e ∧ Cs B w (w.setCell ⟨B, 1, none⟩ (.int .i64 (q : Int))) :=
 ⟨⟨h.x.setC 1 (by simp) (.int .i64 (q : Int)), rfl, hq, h.lim⟩, Same.setCell _ _ _ _ (fun e => e rfl)⟩
def capF (n : Nat) (c : UInt8) : Nat := if n ≤ 999 then 10 * n + (c.toNat - 48) else n
def capV (l : Bs) : Nat := l.foldl capF 0
theorem capV_snoc (l : Bs) (c : UInt8) : capV (l ++ [c]) = capF (capV l) c := by unfold capV; rw [List.foldl_append]; rfl
structure DigAt (l : Bs) (k : Nat) : Prop where
 le : k ≤ l.length
 all : ∀ c ∈ l.take k, digB c = true
 no0 : 0 < k → l.head? ≠ some 48
theorem DigAt.zero (l : Bs) : DigAt l 0 := ⟨Nat.zero_le _, by simp, fun h => absurd h (by omega)⟩
theorem DigAt.step {l : Bs} {k : Nat} (h : DigAt l k) {x : UInt8} (hx : l[k]? = some x) (hd : digB x = true) (h0 : k = 0 → x ≠ 48) : DigAt l (k + 1) ∧ capV (l.take (k + 1)) = capF (capV (l.take k)) x := by
 have hlt : k < l.length := by
   rcases Nat.lt_or_ge k l.length with h | h
   · exact h
   · rw [List.getElem?_eq_none h] at hx; cases hx
 have ht : l.take (k + 1) = l.take k ++ [x] := by rw [List.take_add_one, hx]; rfl
 refine ⟨⟨hlt, fun c hc => ?_, fun _ => ?_⟩, by rw [ht, capV_snoc]⟩
 · rw [ht, List.mem_append] at hc
   rcases hc with hc | hc
   · exact h.all c hc
   · rw [List.mem_singleton.1 hc]; exact hd
 · rcases Nat.eq_zero_or_pos k with e | e
   · subst e
     have : l.head? = some x := by rw [List.head?_eq_getElem?]; exact hx
     rw [this]
     exact fun e => h0 rfl (Option.some.inj e)
   · exact h.no0 e
end Yd
