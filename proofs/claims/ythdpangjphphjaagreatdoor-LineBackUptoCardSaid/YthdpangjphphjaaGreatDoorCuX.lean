import Derived.Test.YthdpangjphphjaaGreatDoorCuR
import Derived.Test.YthdpangjphphjaaGreatDoorCuE
import Derived.Test.YthdpangjphphjaaGreatDoorBk13
import Derived.Test.YthdpangjphphjaaGreatDoorProg
set_option maxRecDepth 200000
set_option maxHeartbeats 8000000
namespace Yd
open Go Go.RowKit Go.Proofs

theorem LnAt.cs {w w' : World} {B : Nat} {c : LnC} {n : LnS} (h : LnAt w (B + 1) c n) (hs : Cs B w w') : LnAt w' (B + 1) c n :=
 ⟨h.1, h.2.1.block fun g hg => hs.block g (by have := (h.2.1.lt g hg).1; omega) (h.2.1.lt g hg).2, h.2.2.block fun g hg => hs.block g (by have := (h.2.2.lt g hg).1; omega) (h.2.2.lt g hg).2⟩
theorem put6_below {a w : World} {D g : Nat} (h : Below D a w) (hg : D ≤ g) (hD : D ≤ w.heap.size) (c : LnC) : Below D a (put6 w g c) := (put6_same w g c).below h (fun i hi => by omega) hD
end Yd
