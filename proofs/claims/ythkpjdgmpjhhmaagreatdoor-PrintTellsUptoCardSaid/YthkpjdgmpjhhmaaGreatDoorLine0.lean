import Derived.Test.YthkpjdgmpjhhmaaGreatDoorCheck
import Derived.Test.YthkpjdgmpjhhmaaGreatDoorGround
import Derived.Test.YthkpjdgmpjhhmaaGreatDoorProg
set_option maxRecDepth 200000
set_option maxHeartbeats 8000000
namespace Yd
open Go Go.RowKit Go.Proofs

structure LnS where
 kind : Int
 names : List Bs
 lvl : Int
 vers : List To
 first : Bool
 bits : Int
 deriving DecidableEq
def LnAt (w : World) (B : Nat) (l : LnC) (s : LnS) : Prop :=
 (l.kind = s.kind ∧ l.lvl = s.lvl ∧ l.first = s.first ∧ l.bits = s.bits ∧ l.nn = s.names.length ∧ l.vn = s.vers.length) ∧
 Own w B 9 1 encStr (.slice l.na l.nn l.nc) s.names ∧ Own w B 98 2 encTo (.slice l.va l.vn l.vc) s.vers
theorem LnAt.below {w w' : World} {B : Nat} {l : LnC} {s : LnS} (h : LnAt w B l s) (hb : Below w.heap.size w w') : LnAt w' B l s := ⟨h.1, h.2.1.below hb rfl, h.2.2.below hb rfl⟩
theorem LnAt.mono {w : World} {B B' : Nat} {l : LnC} {s : LnS} (h : LnAt w B l s) (hB : B' ≤ B) : LnAt w B' l s := ⟨h.1, h.2.1.mono hB, h.2.2.mono hB⟩
def RetLn (s : LnS) (w : World) (e : Ending) (w' : World) : Prop := ∃ l, e = .returned (valLn l) ∧ LnAt w' w.heap.size l s ∧ Below w.heap.size w w'
def RepLn (B : Nat) (x : LnS) (args : Array Value) (X : World) : Prop := ∃ l : LnC, args = #[valLn l] ∧ LnAt X B l x
end Yd
