import Derived.Test.YtddiadcpokbpoabGreatDoorKFm1
import Derived.Test.YtddiadcpokbpoabGreatDoorKRSame
set_option linter.all false
set_option maxRecDepth 200000
set_option maxHeartbeats 8000000
namespace Yd
open Go Go.RowKit Go.Proofs
attribute [local go_sem] Oper.semAt_some
variable{A:Nat->Prop}
theorem Same.setCell (X:World)(b o:Nat)(v:Value)(c:¬A b):Same A X (X.setCell ⟨b,o,none⟩ v):=
 ⟨rfl,rfl,rfl,by simp[World.setCell],λi a _=>Below.heap_setCell _ _ _ _ (λe=>by have d:i=b:=e;rw[d] at a;exact c a)⟩
theorem bA.setCell (X:World)(b o:Nat)(v:Value)(c:¬A b):bA A X (X.setCell ⟨b,o,none⟩ v):=
 ⟨by simp[World.setCell],λi a _=>Below.heap_setCell _ _ _ _ (λe=>by have d:i=b:=e;rw[d] at a;exact c a)⟩
theorem bA.bx {X Y:World}{b:Nat}{cs:Array Value}(k:bA A X Y)(h:Bx X b cs)(ha:A b):Bx Y b cs:=
 ⟨λi=>(World.cell?_of_block (a:=⟨b,i,none⟩) (k.2 b ha h.2.2)).trans (h.1 i),λi=>(World.frozen?_of_block (a:=⟨b,i,none⟩) (k.2 b ha h.2.2)).trans (h.2.1 i),bP h.2.2 k.1⟩
theorem Bx.setOther {X:World}{b:Nat}{cs:Array Value}(h:Bx X b cs)(c o:Nat)(v:Value)(a:b≠c):Bx (X.setCell ⟨c,o,none⟩ v) b cs:=
 (bA.setCell (A:=λi=>i≠c) X c o v ak).bx h a
def Pk (a:Nat)(x:Int × Int)(args:Array Value)(X:World):Prop:=
 ∃b o,b<a/\args=#[.int .i64 x.1,.pointer (some ⟨b,o,none⟩)]/\X.cell? ⟨b,o,none⟩=some (.int .i64 x.2)
end Yd
namespace Yd
open Go Go.RowKit Go.Proofs
def jm (v:kg):List (Int × Int):=if 0<v.k then [(0,v.t)] else []
end Yd
