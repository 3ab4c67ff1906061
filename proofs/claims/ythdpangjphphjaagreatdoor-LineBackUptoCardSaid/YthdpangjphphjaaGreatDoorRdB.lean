import Derived.Test.YthdpangjphphjaaGreatDoorOwn
import Derived.Test.YthdpangjphphjaaGreatDoorProg
import Derived.Test.YthdpangjphphjaaGreatDoorSpoken3
import Derived.Test.YthdpangjphphjaaGreatDoorShape
import Derived.BigQuiet
set_option maxRecDepth 200000
set_option maxHeartbeats 8000000
namespace Yd
open Go Go.RowKit Go.Proofs

structure LnS where
 kind : Int
 names : List Bs
 lvl : Int
 vers : List To
 first : Bool
 bits : Int
 deriving DecidableEq
def LnAt (w : World) (B : Nat) (l : LnC) (s : LnS) : Prop :=
 (l.kind = s.kind ∧ l.lvl = s.lvl ∧ l.first = s.first ∧ l.bits = s.bits ∧ l.nn = s.names.length ∧ l.vn = s.vers.length) ∧
 Own w B 9 1 encStr (.slice l.na l.nn l.nc) s.names ∧ Own w B 67 2 encTo (.slice l.va l.vn l.vc) s.vers
theorem LnAt.below {w w' : World} {B : Nat} {l : LnC} {s : LnS} (h : LnAt w B l s) (hb : Below w.heap.size w w') : LnAt w' B l s := ⟨h.1, h.2.1.below hb rfl, h.2.2.below hb rfl⟩
theorem LnAt.mono {w : World} {B B' : Nat} {l : LnC} {s : LnS} (h : LnAt w B l s) (hB : B' ≤ B) : LnAt w B' l s := ⟨h.1, h.2.1.mono hB, h.2.2.mono hB⟩
def RetLn (s : LnS) (w : World) (e : Ending) (w' : World) : Prop := ∃ l, e = .returned (valLn l) ∧ LnAt w' w.heap.size l s ∧ Below w.heap.size w w'
end Yd


namespace Yd
open Go Go.RowKit Go.Proofs

theorem belowA {a w : World} (h : Below a.heap.size a w) (o : Obj) : Below a.heap.size a (w.alloc o) := h.alloc h.size o
def formV : Nat → Bs
 | 0 => []
 | 1 => [98, 101, 103, 105, 110]
 | 2 => [119, 114, 105, 116, 101]
 | 3 => [114, 101, 97, 100]
 | 4 => [115, 99, 97, 110]
 | 5 => [99, 111, 109, 109, 105, 116]
 | 6 => [97, 98, 111, 114, 116]
 | 7 => [111, 114, 100, 101, 114]
 | 8 => [109, 97, 116, 99, 104]
 | _ => [119, 97, 110, 116]
def formN : Nat → Int
 | 0 => 0
 | 1 => 2
 | 2 => 2
 | 3 => 2
 | 4 => 2
 | 5 => 1
 | 6 => 1
 | 7 => 1
 | 8 => 2
 | _ => 1
def formR : Nat → Int
 | 0 => 0
 | 1 => 108
 | 2 => 0
 | 3 => 118
 | 4 => 115
 | 5 => 0
 | 6 => 0
 | 7 => 116
 | 8 => 109
 | _ => 103
def guardT : Nat → Bs
 | 0 => [114, 121, 119]
 | 1 => [109, 114]
 | 2 => [109, 119]
 | _ => [119, 102, 114]
def levelT : Nat → Bs
 | 0 => []
 | 1 => [49]
 | 2 => [50]
 | 3 => [50, 46, 57, 57]
 | _ => [51]

def GlobL (w : World) : Prop := GlobH w ∧ (∀ k, k < 10 → w.cell? ⟨0, 3 * k, none⟩ = some (.string ⟨(formV k).toArray⟩) ∧ w.cell? ⟨0, 3 * k + 1, none⟩ = some (.int .i64 (formN k)) ∧ w.cell? ⟨0, 3 * k + 2, none⟩ = some (.int .i32 (formR k))) ∧
 (∀ i, i < 4 → w.cell? ⟨1, i, none⟩ = some (.string ⟨(guardT i).toArray⟩)) ∧ (∀ i, i < 5 → w.cell? ⟨4, i, none⟩ = some (.string ⟨(levelT i).toArray⟩))
theorem GlobL.below {w w' : World} (h : GlobL w) (hb : Below w.heap.size w w') : GlobL w' :=
 ⟨h.1.below hb, fun k hk => ⟨bget hb rfl (h.2.1 k hk).1, bget hb rfl (h.2.1 k hk).2.1, bget hb rfl (h.2.1 k hk).2.2⟩, fun i hi => bget hb rfl (h.2.2.1 i hi), fun i hi => bget hb rfl (h.2.2.2 i hi)⟩

theorem names_Check (s : Bs) (w : World) (hT : Lib.Utf8Tabs 2 3 w) : Calls Tryz.prog 54 #[valStr s] w (Ret (.int .i64 (if wordB ⟨s.toArray⟩ = true then 0 else 200)) w) := by
 have HW := hid (word_any ⟨s.toArray⟩ w hT)
 clear hT
 cases hb : wordB ⟨s.toArray⟩
 all_goals
   rw [hb] at HW
   clear hb
   go_enter Tryz.func54, Tryz.ntmps54
   go_wp2_with fail
   refine HW.out.mono ?_
   rintro e w1 ⟨rfl, hb1⟩
   have HB := hid hb1; clear hb1
   go_wp2_with fail
   go_ret
   exact ⟨rfl, HB.out⟩
theorem check2_any (s : Bs) (w : World) (hT : Lib.Utf8Tabs 2 3 w) : Calls Tryz.prog 53 #[valStr s] w (Ret (.bool (!wordB ⟨s.toArray⟩)) w) := by
 have HW := hid (names_Check s w hT)
 clear hT
 cases hb : wordB ⟨s.toArray⟩
 all_goals
   rw [hb] at HW
   clear hb
   go_enter Tryz.func53, Tryz.ntmps53
   go_wp2_with fail
   refine HW.out.mono ?_
   rintro e w1 ⟨rfl, hb1⟩
   have HB := hid hb1; clear hb1
   simp only [if_true, Bool.false_eq_true, if_false]
   go_wp2_with fail
   go_ret
   exact ⟨rfl, HB.out⟩
def toOk (t : To) : Prop := t = ⟨[], 0⟩ ∨ (wordB ⟨t.name.toArray⟩ = true ∧ 0 < t.k ∧ t.k ≤ 999)
theorem may_ok (t : To) (w : World) (hT : Lib.Utf8Tabs 2 3 w) (ht : toOk t) : Calls Tryz.prog 51 #[valTo t] w (Ret (.bool true) w) := by
 rcases ht with rfl | ⟨hw, h0, h9⟩
 · have hq := eqInTo ⟨[], 0⟩ ⟨[], 0⟩
   go_enter Tryz.func51, Tryz.ntmps51
   go_wp2_with fail
   go_ret
   exact ⟨by simp, belowA (Below.refl _ _) _⟩
 · obtain ⟨n, k⟩ := t
   simp only at hw h0 h9
   have hb0 := belowA (Below.refl w.heap.size w) (.cells #[.string ⟨n.toArray⟩, .int .i64 k] 67)
   have HW := hid (names_Check n _ (Utf8Tabs_below hT hb0))
   rw [hw] at HW
   have HB := hid hb0
   have HX := hid (Bx.new w #[.string ⟨n.toArray⟩, .int .i64 k] 67)
   have hk : (k == 0) = false := beq_eq_false_iff_ne.2 (by omega)
   clear hT hw hb0
   go_enter Tryz.func51, Tryz.ntmps51
   go_wp2_with fail
   refine HW.out.mono ?_
   rintro e w1 ⟨rfl, hb1⟩
   have hx := (HX.out.keep hb1).1
   have HB1 := hid (HB.out.trans (hb1.mono HB.out.size)); clear hb1
   simp only [if_true]
   go_wp2_with fail
   go_ret
   exact ⟨by simp, HB1.out⟩
theorem check1_ok (t : To) (w : World) (hT : Lib.Utf8Tabs 2 3 w) (ht : toOk t) : Calls Tryz.prog 50 #[valTo t] w (Ret (.bool false) w) := by
 have hb0 := belowA (Below.refl w.heap.size w) (.cells (cellsTo t) 67)
 have HW := hid (may_ok t _ (Utf8Tabs_below hT hb0) ht)
 have HB := hid hb0
 clear hT hb0 ht
 go_enter Tryz.func50, Tryz.ntmps50
 go_wp2_with fail
 refine HW.out.mono ?_
 rintro e w1 ⟨rfl, hb1⟩
 have HB1 := hid (HB.out.trans (hb1.mono HB.out.size)); clear hb1
 go_wp2_with fail
 go_ret
 exact ⟨rfl, HB1.out⟩
theorem level_no (w : World) : Calls Tryz.prog 44 #[.int .i64 0] w (Ret2 (.string ⟨[].toArray⟩) (.int .i64 190) w) := by
 go_enter Tryz.func44, Tryz.ntmps44
 go_wp2_with (go_at_call 101; refine (level_Check _ _).mono ?_; rintro e w1 ⟨rfl, hb1⟩; rw [show levelE 0 = 190 from rfl])
 go_ret2
 exact ⟨rfl, hb1⟩
theorem level_yes (l : Nat) (h1 : 1 ≤ l) (h4 : l ≤ 4) (w : World) (hg : GlobL w) : Calls Tryz.prog 44 #[.int .i64 l] w (Ret2 (.string ⟨(levelT l).toArray⟩) (.int .i64 0) w) := by
 have hl : levelE (l : Int) = 0 := levelE_yes (by simp [levelB]; omega)
 have HL := hid hl; have HG := hid hg
 clear hl hg
 go_enter Tryz.func44, Tryz.ntmps44
 go_wp2_with fail
 refine (level_Check _ _).mono ?_
 rintro e w1 ⟨rfl, hb1⟩
 rw [HL.out]
 have hc := (HG.out.below hb1).2.2.2 l (by omega)
 have HB := hid hb1; clear hb1
 go_wp2_with fail
 go_ret2
 exact ⟨rfl, HB.out⟩
end Yd


namespace Yd
open Go Go.RowKit Go.Proofs

abbrev Er := Bs × Int
def blB (c : UInt8) : Bool := c == 32 || c == 9
def skipS (l : Bs) : Bs := l.dropWhile blB
def endsS (l : Bs) : Bool := l.head? == none || l.head? == some 10 || l.head? == some 35
def moreS (l : Bs) : Except Er (Bool × Bs) :=
 if endsS (skipS l) = true then .ok (false, skipS l) else if (skipS l).length = l.length then .error (skipS l, 220) else .ok (true, skipS l)
def mustS (l : Bs) : Except Er Bs :=
 match moreS l with
 | .error x => .error x
 | .ok (true, r) => .ok r
 | .ok (false, r) => .error (r, 220)
def wcB (c : UInt8) : Bool := (c == 46 || c == 95) || (decide (48 ≤ c) && decide (c ≤ 57)) || (decide (97 ≤ c) && decide (c ≤ 122)) || (decide (65 ≤ c) && decide (c ≤ 90))
def stretchS (l : Bs) : Bs := l.takeWhile wcB
def wholeS (l : Bs) : Bs := match (l.drop (stretchS l).length).head? with
 | some c => if 128 ≤ c then stretchS l ++ [128] else stretchS l
 | none => stretchS l
def commS : Bs → Bs → Nat
 | a :: x, b :: y => if a = b then commS x y + 1 else 0
 | _, _ => 0
def farS (ws : List Bs) (t : Bs) : Nat := ws.foldl (fun m s => max m (commS s t)) 0
def wordS (ws : List Bs) (l : Bs) : Except Er (Nat × Bs) :=
 match ws.findIdx? (fun s => s == wholeS l) with
 | some i => .ok (i, l.drop (stretchS l).length)
 | none => .error (l.drop (farS ws (stretchS l)), 220)
def runS (l : Bs) : Nat := whileE ⟨l.toArray⟩ eitB
def beginsS (l : Bs) : Bool := !l.isEmpty && (okB ⟨l.toArray⟩ 0 && letB (Utf8.decode ⟨l.toArray⟩ 0).1)
def longS (l : Bs) : Nat := (((posFrom ⟨l.toArray⟩ l.length 0).filter (fun i => decide (i ≤ 24))).getLast?).getD 0
def nameS (l : Bs) : Except Er (Bs × Bs) :=
 if (endsS l || !beginsS l) = true then .error (l, 220)
 else if 24 < runS l then .error (l.drop (longS (l.take (runS l))), 220)
 else .ok (l.take (runS l), l.drop (runS l))
def digB (c : UInt8) : Bool := decide (48 ≤ c) && decide (c ≤ 57)
def valD (l : Bs) : Nat := l.foldl (fun n c => n * 10 + (c.toNat - 48)) 0
def numV (nm : Bs) (l : Bs) : Except Er (To × Bs) :=
 let ds := l.takeWhile digB
 if ds.head? = none ∨ ds.head? = some 48 then .error (l, 220)
 else if 999 < valD ds then .error (l, 3)
 else .ok (⟨nm, valD ds⟩, l.drop ds.length)
def versS (l : Bs) : Except Er (To × Bs) :=
 if l.head? = some 45 then .ok (⟨[], 0⟩, l.tail)
 else match nameS l with
   | .error x => .error x
   | .ok (nm, r) => if r.head? = some 46 then numV nm r.tail else .error (r, 220)
def namesS : Nat → List Bs → Bs → Except Er (List Bs × Bs)
 | 0, acc, l => .ok (acc, l)
 | k + 1, acc, l =>
   match mustS l with
   | .error x => .error x
   | .ok r => match nameS r with
     | .error x => .error x
     | .ok (nm, r') => namesS k (acc ++ [nm]) r'
def guardL : List Bs := [guardT 0, guardT 1, guardT 2, guardT 3]
def levelL : List Bs := [levelT 1, levelT 2, levelT 3, levelT 4]
def verbL : List Bs := [formV 1, formV 2, formV 3, formV 4, formV 5, formV 6, formV 7, formV 8, formV 9]
def guarS : Nat → Nat → Int → Bs → Except Er (Int × Bs)
 | 0, _, b, l => .ok (b, l)
 | f + 1, k, b, l =>
   match moreS l with
   | .error x => .error x
   | .ok (false, r) => .ok (b, r)
   | .ok (true, r) => match wordS (guardL.drop k) r with
     | .error x => .error x
     | .ok (i, r') => guarS f (k + i + 1) (b + 2 ^ (k + i)) r'
def othersS (pairs : Bool) (most : Nat) : Nat → Nat → List Bs → List To → Bs → Except Er ((List Bs × List To) × Bs)
 | 0, _, ns, vs, l => .ok ((ns, vs), l)
 | f + 1, many, ns, vs, l =>
   match moreS l with
   | .error x => .error x
   | .ok (false, r) => .ok ((ns, vs), r)
   | .ok (true, r) =>
     if many = most ∧ beginsS r = true then .error (r, 3)
     else match nameS r with
       | .error x => .error x
       | .ok (nm, r1) =>
         if pairs = true then match mustS r1 with
           | .error x => .error x
           | .ok r2 => match versS r2 with
             | .error x => .error x
             | .ok (v, r3) => othersS pairs most f (many + 1) (ns ++ [nm]) (vs ++ [v]) r3
         else othersS pairs most f (many + 1) (ns ++ [nm]) vs r1
def firstS (l : Bs) : Except Er (Bool × Bs) :=
 match moreS l with
 | .error x => .error x
 | .ok (true, r) => if r.head? = some 45 then .ok (true, r.tail) else .ok (false, l)
 | .ok (false, _) => .ok (false, l)
def tailS (k : Nat) (ns : List Bs) (l : Bs) : Except Er (LnS × Bs) :=
 if k = 1 then match mustS l with
   | .error x => .error x
   | .ok r => match wordS levelL r with
     | .error x => .error x
     | .ok (i, r') => .ok (⟨k, ns, 1 + i, [], false, 0⟩, r')
 else if k = 3 then match mustS l with
   | .error x => .error x
   | .ok r => match versS r with
     | .error x => .error x
     | .ok (v, r') => .ok (⟨k, ns, 0, [v], false, 0⟩, r')
 else if k = 9 then match guarS 5 0 0 l with
   | .error x => .error x
   | .ok (b, r) => .ok (⟨k, ns, 0, [], false, b⟩, r)
 else if k = 8 then match firstS l with
   | .error x => .error x
   | .ok (f, r) => match othersS false 300 301 0 ns [] r with
     | .error x => .error x
     | .ok ((ns', vs'), r') => .ok (⟨k, ns', 0, vs', f, 0⟩, r')
 else if k = 4 then match othersS true 40 41 0 ns [] l with
     | .error x => .error x
     | .ok ((ns', vs'), r') => .ok (⟨k, ns', 0, vs', false, 0⟩, r')
 else if k = 7 then match othersS false 300 301 0 ns [] l with
     | .error x => .error x
     | .ok ((ns', vs'), r') => .ok (⟨k, ns', 0, vs', false, 0⟩, r')
 else .ok (⟨k, ns, 0, [], false, 0⟩, l)
def readS (l : Bs) : Except Er (LnS × Bs) :=
 if endsS (skipS l) = true then .ok (⟨0, [], 0, [], false, 0⟩, skipS l)
 else match wordS verbL (skipS l) with
   | .error x => .error x
   | .ok (i, r) => match namesS (formN (i + 1)).toNat [] r with
     | .error x => .error x
     | .ok (ns, r1) => match tailS (i + 1) ns r1 with
       | .error x => .error x
       | .ok (s, r2) => match moreS r2 with
         | .error x => .error x
         | .ok (true, r3) => .error (r3, 220)
         | .ok (false, r3) => .ok (s, r3)
def remB (r : Int) : Bool := decide (32 ≤ r) || r == 9
def remS (l : Bs) : Bs := if l.head? = some 35 then l.drop (whileE ⟨l.toArray⟩ remB) else l
def lineS (l : Bs) : Except Er (LnS × Bs) :=
 match readS l with
 | .error x => .error x
 | .ok (s, r) =>
   if (remS r).head? = none then .ok (s, []) else if (remS r).head? = some 10 then .ok (s, (remS r).tail) else .error (remS r, 220)

/-! Kernel checks of the definitions at the texts that the law names. -/
end Yd


namespace Yd
open Go Go.RowKit Go.Proofs

theorem parts_of {P : Program} {T : TypeId} {k by_ : Nat} (h : (P.info? T).map (fun i => (i.zero.map (·.cells.size), i.size, i.bytes)) = some (some k, k, by_)) :
   ∃ i z, P.info? T = some i ∧ i.zero = some z ∧ i.size = k ∧ i.bytes = by_ ∧ z.cells.size = k := by
 cases hi : P.info? T with
 | none => rw [hi] at h; cases h
 | some i =>
   rw [hi] at h
   simp only [Option.map_some, Option.some.injEq, Prod.mk.injEq] at h
   obtain ⟨h1, h2, h3⟩ := h
   cases hz : i.zero with
   | none => rw [hz] at h1; cases h1
   | some z => rw [hz] at h1; exact ⟨i, z, rfl, hz, h2, h3, by simpa using h1⟩

theorem infoTo : (Tryz.prog.info? 67).map (fun i => (i.zero.map (·.cells.size), i.size, i.bytes)) = some (some 2, 2, 24) := by kernel_rfl
theorem partsTo : ∃ i z, Tryz.prog.info? 67 = some i ∧ i.zero = some z ∧ i.size = 2 ∧ i.bytes = 24 ∧ z.cells.size = 2 := parts_of infoTo

theorem infoStr : (Tryz.prog.info? 9).map (fun i => (i.zero.map (·.cells.size), i.size, i.bytes)) = some (some 1, 1, 16) := by kernel_rfl
theorem partsStr : ∃ i z, Tryz.prog.info? 9 = some i ∧ i.zero = some z ∧ i.size = 1 ∧ i.bytes = 16 ∧ z.cells.size = 1 := parts_of infoStr

end Yd


namespace Yd
open Go Go.RowKit Go.Proofs

theorem Bx.grown {X w' : World} {b : Nat} {cs : Array Value} {row : Option Nat} (h : Bx X b cs) (hg : X.grownBy w' row) (hne : row ≠ some b) : Bx w' b cs :=
 h.of_eq hg.size (hg.block b h.2.2 (fun e => hne e.symm))
theorem Bx.new1 {X : World} {b : Nat} {cs : Array Value} {T : TypeId} (h : X.heap.size = b) : Bx (X.alloc (.cells cs T)) b cs := h ▸ Bx.new X cs T
theorem Row.str1 (w : World) (s : Bs) : Row (w.alloc (.cells #[.string ⟨s.toArray⟩] 9)) 1 encStr (some ⟨w.heap.size, 0, none⟩) 1 1 [s] :=
 (Own.new (hc := cInsStr) w w.heap.size 9 #[.string ⟨s.toArray⟩] [s] (Nat.le_refl _) rfl (by simp [maxLen])).row (by simp)

theorem Row.strN {X : World} {g : Nat} (h : X.heap.size = g) (s : Bs) : Row (X.alloc (.cells #[.string ⟨s.toArray⟩] 9)) 1 encStr (some ⟨g, 0, none⟩) 1 1 [s] := h ▸ Row.str1 X s
theorem Row.drew {α : Type} {w : World} {k : Nat} {enc : α → List Value} {a : Option Addr} {n c : Nat} {xs : List α} (h : Row w k enc a n c xs) : Row w.drew k enc a n c xs := h

end Yd


namespace Yd
open Go Go.RowKit Go.Proofs

theorem Same.refl' {A : Nat → Prop} (X : World) : Same A X X := ⟨rfl, rfl, rfl, Nat.le_refl _, fun _ _ _ => rfl⟩
section
variable {α : Type} {enc : α → List Value} {k : Nat} {w w' : World} {B : Nat} {E : TypeId} {v : Value} {xs : List α}
theorem Own.grown (h : Own w B E k enc v xs) {row : Option Nat} (hg : w.grownBy w' row) (hne : ∀ g, v.ownBlock = some g → row ≠ some g) : Own w' B E k enc v xs :=
 h.block fun g hg' => hg.block g (h.lt g hg').2 (fun e => hne g hg' e.symm)
theorem Own.same (h : Own w B E k enc v xs) {A : Nat → Prop} (hs : Same A w w') (hA : ∀ g, v.ownBlock = some g → A g) : Own w' B E k enc v xs := h.block fun g hg => hs.block g (hA g hg) (h.lt g hg).2
theorem Own.tag (h : Own w B E k enc v xs) {g : Nat} (hg : v.ownBlock = some g) : ∃ cs fz, w.heap[g]? = some (.cells cs E fz) := by
 rcases h.2 with ⟨rfl, _⟩ | ⟨g', cap, cur, rfl, _, hh, _⟩
 · cases hg
 · obtain rfl : g' = g := by simpa [Value.ownBlock] using hg
   exact ⟨_, _, hh⟩
theorem Own.apart {β : Type} {enc' : β → List Value} {k' B' : Nat} {E' : TypeId} {v' : Value} {ys : List β} (h : Own w B E k enc v xs) (h' : Own w B' E' k' enc' v' ys) (hE : E ≠ E') : ∀ g, v.ownBlock = some g → v'.ownBlock ≠ some g := fun g hg hg' => by
 obtain ⟨cs, fz, e1⟩ := h.tag hg
 obtain ⟨cs', fz', e2⟩ := h'.tag hg'
 rw [e1] at e2
 cases e2
 exact hE rfl
theorem Own.far' (h : Own w B E k enc v xs) {i : Nat} (hi : i < B ∨ w.heap.size ≤ i) : v.ownBlock ≠ some i := fun e => by
 have := h.lt i e; omega
end
structure Kept (w : World) (l : LnC) (w' : World) : Prop where
 size : w.heap.size ≤ w'.heap.size
 block : ∀ i, i < w.heap.size → some i ≠ (Value.slice l.na l.nn l.nc).ownBlock → some i ≠ (Value.slice l.va l.vn l.vc).ownBlock → w'.heap[i]? = w.heap[i]?
def Grew (w : World) (l l' : LnC) : Prop :=
 (∀ g, (Value.slice l'.na l'.nn l'.nc).ownBlock = some g → (Value.slice l.na l.nn l.nc).ownBlock = some g ∨ w.heap.size ≤ g) ∧ (∀ g, (Value.slice l'.va l'.vn l'.vc).ownBlock = some g → (Value.slice l.va l.vn l.vc).ownBlock = some g ∨ w.heap.size ≤ g)
end Yd


namespace Yd
open Go Go.RowKit Go.Proofs

theorem Bx.setC {X : World} {b : Nat} {cs : Array Value} (h : Bx X b cs) (i : Nat) (hi : i < cs.size) (v : Value) : Bx (X.setCell ⟨b, i, none⟩ v) b (cs.setIfInBounds i v) := by
 refine ⟨fun j => ?_, fun j => by rw [World.frozen?_setCell]; exact h.2.1 j, by have := h.2.2; simpa [World.setCell] using this⟩
 by_cases hj : j = i
 · subst hj
   rw [World.cell?_setCell_same' _ _ _ (by rw [h.1 j, Array.getElem?_eq_getElem hi]; rfl), Array.getElem?_setIfInBounds_self_of_lt hi]
 · rw [World.cell?_setCell_other _ _ _ _ (fun e => by cases e; exact hj rfl), h.1 j, Array.getElem?_setIfInBounds_ne (fun e => hj e.symm)]
theorem Row.toN {X : World} {g : Nat} (h : X.heap.size = g) (s : To) : Row (X.alloc (.cells #[.string ⟨s.name.toArray⟩, .int .i64 s.k] 67)) 2 encTo (some ⟨g, 0, none⟩) 1 1 [s] :=
 h ▸ (Own.new (hc := cInsTo) X X.heap.size 67 #[.string ⟨s.name.toArray⟩, .int .i64 s.k] [s] (Nat.le_refl _) rfl (by simp [maxLen])).row (by simp)
end Yd


namespace Yd
open Go Go.RowKit Go.Proofs

theorem Same.tr {A : Nat → Prop} {X Y Z : World} (h : Same A X Y) (k : Same A Y Z) : Same A X Z :=
 ⟨k.os.trans h.os, k.tape.trans h.tape, k.output.trans h.output, Nat.le_trans h.size k.size, fun i hi hl => (k.block i hi (Nat.lt_of_lt_of_le hl h.size)).trans (h.block i hi hl)⟩
@[reducible] def cellsRd (s : Bs) (p : Nat) (c : LnC) : Array Value := #[.string ⟨s.toArray⟩, .int .i64 p, .int .i64 c.kind, .slice c.na c.nn c.nc, .int .i64 c.lvl, .slice c.va c.vn c.vc, .bool c.first, .int .i64 c.bits]
structure RdC (w : World) (R : Nat) (s : Bs) (p : Nat) (l : Bs) (c : LnC) (n : LnS) : Prop where
 x : Bx w R (cellsRd s p c)
 n : LnAt w (R + 1) c n
 d : s.drop p = l
 le : p ≤ s.length
 lim : s.length ≤ 1000000
def RdA (R : Nat) (c : LnC) (i : Nat) : Prop := i ≠ R ∧ (Value.slice c.na c.nn c.nc).ownBlock ≠ some i ∧ (Value.slice c.va c.vn c.vc).ownBlock ≠ some i
structure Mv (R : Nat) (c c' : LnC) (w w' : World) : Prop where
 same : Same (RdA R c) w w'
 na : ∀ g, (Value.slice c'.na c'.nn c'.nc).ownBlock = some g → (Value.slice c.na c.nn c.nc).ownBlock = some g ∨ w.heap.size ≤ g
 va : ∀ g, (Value.slice c'.va c'.vn c'.vc).ownBlock = some g → (Value.slice c.va c.vn c.vc).ownBlock = some g ∨ w.heap.size ≤ g
theorem Mv.refl (R : Nat) (c : LnC) (w : World) : Mv R c c w w := ⟨Same.refl' _, fun _ h => .inl h, fun _ h => .inl h⟩
theorem Mv.of_below {R : Nat} {c : LnC} {w w' : World} (h : Below w.heap.size w w') : Mv R c c w w' := ⟨Same.of_below h (fun _ _ h => h), fun _ h => .inl h, fun _ h => .inl h⟩
theorem Mv.rda {R : Nat} {c c' : LnC} {w w' : World} (h : Mv R c c' w w') {i : Nat} (hi : RdA R c i) (hl : i < w.heap.size) : RdA R c' i :=
 ⟨hi.1, fun e => (h.na i e).elim hi.2.1 (fun k => by omega), fun e => (h.va i e).elim hi.2.2 (fun k => by omega)⟩
theorem Mv.sameTrans {R : Nat} {c c' : LnC} {w w' w'' : World} (h : Mv R c c' w w') (k : Same (RdA R c') w' w'') : Same (RdA R c) w w'' :=
 ⟨k.os.trans h.same.os, k.tape.trans h.same.tape, k.output.trans h.same.output, Nat.le_trans h.same.size k.size, fun i hi hl => (k.block i (h.rda hi hl) (Nat.lt_of_lt_of_le hl h.same.size)).trans (h.same.block i hi hl)⟩
theorem Mv.trans {R : Nat} {c c' c'' : LnC} {w w' w'' : World} (h : Mv R c c' w w') (k : Mv R c' c'' w' w'') : Mv R c c'' w w'' :=
 ⟨h.sameTrans k.same, fun g hg => (k.na g hg).elim (fun e => h.na g e) (fun e => .inr (Nat.le_trans h.same.size e)), fun g hg => (k.va g hg).elim (fun e => h.va g e) (fun e => .inr (Nat.le_trans h.same.size e))⟩
theorem Mv.bx {R : Nat} {c c' : LnC} {w w' : World} (h : Mv R c c' w w') {b : Nat} {cs : Array Value} (hb : Bx w b cs) (hA : RdA R c b) : Bx w' b cs := h.same.bx hb hA
theorem RdC.new {w : World} {R p : Nat} {s l : Bs} {c : LnC} {n : LnS} (h : RdC w R s p l c n) {i : Nat} (hi : w.heap.size ≤ i) : RdA R c i :=
 ⟨by have := h.x.2.2; omega, h.n.2.1.far' (.inr hi), h.n.2.2.far' (.inr hi)⟩
theorem RdC.old {w : World} {R p : Nat} {s l : Bs} {c : LnC} {n : LnS} (h : RdC w R s p l c n) {i : Nat} (hi : i < R) : RdA R c i :=
 ⟨by omega, h.n.2.1.far' (.inl (by omega)), h.n.2.2.far' (.inl (by omega))⟩
theorem RdC.below {w w' : World} {R p : Nat} {s l : Bs} {c : LnC} {n : LnS} (h : RdC w R s p l c n) (hb : Below w.heap.size w w') : RdC w' R s p l c n :=
 ⟨h.x.keep hb, h.n.below hb, h.d, h.le, h.lim⟩
theorem RdC.len {w : World} {R p : Nat} {s l : Bs} {c : LnC} {n : LnS} (h : RdC w R s p l c n) : p + l.length = s.length := by
 have := h.le; rw [← h.d, List.length_drop]; omega
theorem RdC.go {w : World} {R p : Nat} {s l : Bs} {c : LnC} {n : LnS} (h : RdC w R s p l c n) (k : Nat) (hk : k ≤ l.length) :
   RdC (w.setCell ⟨R, 1, none⟩ (.int .i64 ((p + k : Nat) : Int))) R s (p + k) (l.drop k) c n ∧ Mv R c c w (w.setCell ⟨R, 1, none⟩ (.int .i64 ((p + k : Nat) : Int))) := by
 have hx := h.x.setC 1 (by simp) (.int .i64 ((p + k : Nat) : Int))
 have hs : Same (RdA R c) w (w.setCell ⟨R, 1, none⟩ (.int .i64 ((p + k : Nat) : Int))) := Same.setCell _ _ _ _ (fun e => e.1 rfl)
 refine ⟨⟨hx, ⟨h.n.1, h.n.2.1.block fun g hg => ?_, h.n.2.2.block fun g hg => ?_⟩, ?_, ?_, h.lim⟩, hs, fun _ h => .inl h, fun _ h => .inl h⟩
 · exact Below.heap_setCell _ _ _ _ (by have := (h.n.2.1.lt g hg).1; simp; omega)
 · exact Below.heap_setCell _ _ _ _ (by have := (h.n.2.2.lt g hg).1; simp; omega)
 · rw [← h.d, List.drop_drop]
 · have := h.len; omega
end Yd
