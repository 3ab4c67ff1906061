import Derived.Test.YthdpangjphphjaaGreatDoorCuM
import Derived.Test.YthdpangjphphjaaGreatDoorRdL
import Derived.Test.YthdpangjphphjaaGreatDoorProg
set_option maxRecDepth 200000
set_option maxHeartbeats 8000000
namespace Yd
open Go Go.RowKit Go.Proofs

theorem one_lt {ws : List Bs} {l r : Bs} {i : Nat} (h : oneS ws l = .ok (i, r)) : i < ws.length := by
 unfold oneS at h
 cases hf : ws.findIdx? (fun s => s == l.take (runR l)) with
 | none => rw [hf] at h; cases h
 | some j =>
   rw [hf] at h
   injection h with h; injection h with h _; subst h
   exact (List.findIdx?_eq_some_iff_findIdx_eq.1 hf).1
end Yd
