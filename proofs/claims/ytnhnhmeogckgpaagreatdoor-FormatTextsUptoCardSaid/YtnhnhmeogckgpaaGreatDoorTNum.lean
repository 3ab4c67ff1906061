import Derived.Test.YtnhnhmeogckgpaaGreatDoorTShaped
set_option linter.all false
set_option maxRecDepth 200000
set_option maxHeartbeats 8000000
namespace Yd
open Go Go.RowKit Go.Proofs
def mD (e:EvC) (scan:List Sn):List (Int × Int):=
 (0,e.t)::(if e.kind=1 then [(1,e.bU)] else if e.kind=2∨e.kind=3 then(2,e.obj)::lu e.v else if e.kind=4 then [(3,e.pred)] else [])++scan.flatMap (fun s=>(2,s.obj)::lu s.v)
def wN (x:aH) (ds:List Int):List (Int × Int):=(2,x.obj)::ds.map (fun d=>(0,d))
def vB (x:aI) (ds:List Int):List (Int × Int):=(3,x.pred)::(2,x.obj)::ds.map (fun d=>(0,d))
def uK (x:Wa):List (Int × Int):=[(1,x.bU)]
def yY (es:List EvC) (ds:List aH) (ms:List aI) (qs:List Wa) (scan:EvC→List Sn) (dn:aH→List Int) (mn:aI→List Int):List (Int × Int):=
 es.flatMap (fun e=>mD e (scan e))++ds.flatMap (fun x=>wN x (dn x))++ms.flatMap (fun x=>vB x (mn x))++qs.flatMap uK
def Reads (w X:World):Prop:=∀a v,w.cell? a=some v→X.cell? a=some v
theorem Reads.keep {w X Y:World} {D:Nat→Prop} (h:Reads w X) (k:aP D X Y) (hd:∀i,i<w.heap.size→D i) (hs:w.heap.size≤X.heap.size):Reads w Y:=fun a v hc=>by
 have hl:=dS hc;rw[World.cell?_of_block (k.2 a.block (hd _ hl) (Nat.lt_of_lt_of_le hl hs))];exact h a v hc
theorem Row.reads {α:Type} {w X:World} {k:Nat} {enc:α→List Value} {a:Option Addr} {n c:Nat} {xs:List α} (h:Row w k enc a n c xs) (hr:Reads w X):Row X k enc a n c xs:=h.ext hr
end Yd
