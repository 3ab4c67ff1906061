import Derived.Test.YthdpangjphphjaaGreatDoorSpoken3
import Derived.Test.YthdpangjphphjaaGreatDoorOwnPut
import Derived.Test.YthdpangjphphjaaGreatDoorEq
import Derived.Test.YthdpangjphphjaaGreatDoorProg
import Derived.Laws.RangeAny
import Derived.Lib.RuneCountTail
import Derived.Shelf.GgClosure.StringsTrimFunc
set_option maxRecDepth 200000
set_option maxHeartbeats 8000000
namespace Yd
open Go Go.RowKit Go.Proofs

abbrev Er := Bs × Int
def blB (c : UInt8) : Bool := c == 32 || c == 9
def skipS (l : Bs) : Bs := l.dropWhile blB
def endsS (l : Bs) : Bool := l.head? == none || l.head? == some 10 || l.head? == some 35
def moreS (l : Bs) : Except Er (Bool × Bs) :=
 if endsS (skipS l) = true then .ok (false, skipS l) else if (skipS l).length = l.length then .error (skipS l, 220) else .ok (true, skipS l)
def mustS (l : Bs) : Except Er Bs :=
 match moreS l with
 | .error x => .error x
 | .ok (true, r) => .ok r
 | .ok (false, r) => .error (r, 220)
def wcB (c : UInt8) : Bool := (c == 46 || c == 95) || (decide (48 ≤ c) && decide (c ≤ 57)) || (decide (97 ≤ c) && decide (c ≤ 122)) || (decide (65 ≤ c) && decide (c ≤ 90))
def stretchS (l : Bs) : Bs := l.takeWhile wcB
def wholeS (l : Bs) : Bs := match (l.drop (stretchS l).length).head? with
 | some c => if 128 ≤ c then stretchS l ++ [128] else stretchS l
 | none => stretchS l
def commS : Bs → Bs → Nat
 | a :: x, b :: y => if a = b then commS x y + 1 else 0
 | _, _ => 0
def farS (ws : List Bs) (t : Bs) : Nat := ws.foldl (fun m s => max m (commS s t)) 0
def wordS (ws : List Bs) (l : Bs) : Except Er (Nat × Bs) :=
 match ws.findIdx? (fun s => s == wholeS l) with
 | some i => .ok (i, l.drop (stretchS l).length)
 | none => .error (l.drop (farS ws (stretchS l)), 220)
def runS (l : Bs) : Nat := whileE ⟨l.toArray⟩ eitB
def beginsS (l : Bs) : Bool := !l.isEmpty && (okB ⟨l.toArray⟩ 0 && letB (Utf8.decode ⟨l.toArray⟩ 0).1)
def longS (l : Bs) : Nat := (((posFrom ⟨l.toArray⟩ l.length 0).filter (fun i => decide (i ≤ 24))).getLast?).getD 0
def nameS (l : Bs) : Except Er (Bs × Bs) :=
 if (endsS l || !beginsS l) = true then .error (l, 220)
 else if 24 < runS l then .error (l.drop (longS (l.take (runS l))), 220)
 else .ok (l.take (runS l), l.drop (runS l))
def digB (c : UInt8) : Bool := decide (48 ≤ c) && decide (c ≤ 57)
def valD (l : Bs) : Nat := l.foldl (fun n c => n * 10 + (c.toNat - 48)) 0
def numV (nm : Bs) (l : Bs) : Except Er (To × Bs) :=
 let ds := l.takeWhile digB
 if ds.head? = none ∨ ds.head? = some 48 then .error (l, 220)
 else if 999 < valD ds then .error (l, 3)
 else .ok (⟨nm, valD ds⟩, l.drop ds.length)
def versS (l : Bs) : Except Er (To × Bs) :=
 if l.head? = some 45 then .ok (⟨[], 0⟩, l.tail)
 else match nameS l with
   | .error x => .error x
   | .ok (nm, r) => if r.head? = some 46 then numV nm r.tail else .error (r, 220)
def namesS : Nat → List Bs → Bs → Except Er (List Bs × Bs)
 | 0, acc, l => .ok (acc, l)
 | k + 1, acc, l =>
   match mustS l with
   | .error x => .error x
   | .ok r => match nameS r with
     | .error x => .error x
     | .ok (nm, r') => namesS k (acc ++ [nm]) r'
def guardL : List Bs := [guardT 0, guardT 1, guardT 2, guardT 3]
def levelL : List Bs := [levelT 1, levelT 2, levelT 3, levelT 4]
def verbL : List Bs := [formV 1, formV 2, formV 3, formV 4, formV 5, formV 6, formV 7, formV 8, formV 9]
def guarS : Nat → Nat → Int → Bs → Except Er (Int × Bs)
 | 0, _, b, l => .ok (b, l)
 | f + 1, k, b, l =>
   match moreS l with
   | .error x => .error x
   | .ok (false, r) => .ok (b, r)
   | .ok (true, r) => match wordS (guardL.drop k) r with
     | .error x => .error x
     | .ok (i, r') => guarS f (k + i + 1) (b + 2 ^ (k + i)) r'
def othersS (pairs : Bool) (most : Nat) : Nat → Nat → List Bs → List To → Bs → Except Er ((List Bs × List To) × Bs)
 | 0, _, ns, vs, l => .ok ((ns, vs), l)
 | f + 1, many, ns, vs, l =>
   match moreS l with
   | .error x => .error x
   | .ok (false, r) => .ok ((ns, vs), r)
   | .ok (true, r) =>
     if many = most ∧ beginsS r = true then .error (r, 3)
     else match nameS r with
       | .error x => .error x
       | .ok (nm, r1) =>
         if pairs = true then match mustS r1 with
           | .error x => .error x
           | .ok r2 => match versS r2 with
             | .error x => .error x
             | .ok (v, r3) => othersS pairs most f (many + 1) (ns ++ [nm]) (vs ++ [v]) r3
         else othersS pairs most f (many + 1) (ns ++ [nm]) vs r1
def firstS (l : Bs) : Except Er (Bool × Bs) :=
 match moreS l with
 | .error x => .error x
 | .ok (true, r) => if r.head? = some 45 then .ok (true, r.tail) else .ok (false, l)
 | .ok (false, _) => .ok (false, l)
def tailS (k : Nat) (ns : List Bs) (l : Bs) : Except Er (LnS × Bs) :=
 if k = 1 then match mustS l with
   | .error x => .error x
   | .ok r => match wordS levelL r with
     | .error x => .error x
     | .ok (i, r') => .ok (⟨k, ns, 1 + i, [], false, 0⟩, r')
 else if k = 3 then match mustS l with
   | .error x => .error x
   | .ok r => match versS r with
     | .error x => .error x
     | .ok (v, r') => .ok (⟨k, ns, 0, [v], false, 0⟩, r')
 else if k = 9 then match guarS 5 0 0 l with
   | .error x => .error x
   | .ok (b, r) => .ok (⟨k, ns, 0, [], false, b⟩, r)
 else if k = 8 then match firstS l with
   | .error x => .error x
   | .ok (f, r) => match othersS false 300 301 0 ns [] r with
     | .error x => .error x
     | .ok ((ns', vs'), r') => .ok (⟨k, ns', 0, vs', f, 0⟩, r')
 else if k = 4 then match othersS true 40 41 0 ns [] l with
     | .error x => .error x
     | .ok ((ns', vs'), r') => .ok (⟨k, ns', 0, vs', false, 0⟩, r')
 else if k = 7 then match othersS false 300 301 0 ns [] l with
     | .error x => .error x
     | .ok ((ns', vs'), r') => .ok (⟨k, ns', 0, vs', false, 0⟩, r')
 else .ok (⟨k, ns, 0, [], false, 0⟩, l)
def readS (l : Bs) : Except Er (LnS × Bs) :=
 if endsS (skipS l) = true then .ok (⟨0, [], 0, [], false, 0⟩, skipS l)
 else match wordS verbL (skipS l) with
   | .error x => .error x
   | .ok (i, r) => match namesS (formN (i + 1)).toNat [] r with
     | .error x => .error x
     | .ok (ns, r1) => match tailS (i + 1) ns r1 with
       | .error x => .error x
       | .ok (s, r2) => match moreS r2 with
         | .error x => .error x
         | .ok (true, r3) => .error (r3, 220)
         | .ok (false, r3) => .ok (s, r3)
def remB (r : Int) : Bool := decide (32 ≤ r) || r == 9
def remS (l : Bs) : Bs := if l.head? = some 35 then l.drop (whileE ⟨l.toArray⟩ remB) else l
def lineS (l : Bs) : Except Er (LnS × Bs) :=
 match readS l with
 | .error x => .error x
 | .ok (s, r) =>
   if (remS r).head? = none then .ok (s, []) else if (remS r).head? = some 10 then .ok (s, (remS r).tail) else .error (remS r, 220)

/-! Kernel checks of the definitions at the texts that the law names. -/
end Yd


namespace Yd
open Go Go.RowKit Go.Proofs

theorem Same.tr {A : Nat → Prop} {X Y Z : World} (h : Same A X Y) (k : Same A Y Z) : Same A X Z :=
 ⟨k.os.trans h.os, k.tape.trans h.tape, k.output.trans h.output, Nat.le_trans h.size k.size, fun i hi hl => (k.block i hi (Nat.lt_of_lt_of_le hl h.size)).trans (h.block i hi hl)⟩
@[reducible] def cellsRd (s : Bs) (p : Nat) (c : LnC) : Array Value := #[.string ⟨s.toArray⟩, .int .i64 p, .int .i64 c.kind, .slice c.na c.nn c.nc, .int .i64 c.lvl, .slice c.va c.vn c.vc, .bool c.first, .int .i64 c.bits]
structure RdC (w : World) (R : Nat) (s : Bs) (p : Nat) (l : Bs) (c : LnC) (n : LnS) : Prop where
 x : Bx w R (cellsRd s p c)
 n : LnAt w (R + 1) c n
 d : s.drop p = l
 le : p ≤ s.length
 lim : s.length ≤ 1000000
def RdA (R : Nat) (c : LnC) (i : Nat) : Prop := i ≠ R ∧ (Value.slice c.na c.nn c.nc).ownBlock ≠ some i ∧ (Value.slice c.va c.vn c.vc).ownBlock ≠ some i
structure Mv (R : Nat) (c c' : LnC) (w w' : World) : Prop where
 same : Same (RdA R c) w w'
 na : ∀ g, (Value.slice c'.na c'.nn c'.nc).ownBlock = some g → (Value.slice c.na c.nn c.nc).ownBlock = some g ∨ w.heap.size ≤ g
 va : ∀ g, (Value.slice c'.va c'.vn c'.vc).ownBlock = some g → (Value.slice c.va c.vn c.vc).ownBlock = some g ∨ w.heap.size ≤ g
theorem Mv.refl (R : Nat) (c : LnC) (w : World) : Mv R c c w w := ⟨Same.refl' _, fun _ h => .inl h, fun _ h => .inl h⟩
theorem Mv.of_below {R : Nat} {c : LnC} {w w' : World} (h : Below w.heap.size w w') : Mv R c c w w' := ⟨Same.of_below h (fun _ _ h => h), fun _ h => .inl h, fun _ h => .inl h⟩
theorem Mv.rda {R : Nat} {c c' : LnC} {w w' : World} (h : Mv R c c' w w') {i : Nat} (hi : RdA R c i) (hl : i < w.heap.size) : RdA R c' i :=
 ⟨hi.1, fun e => (h.na i e).elim hi.2.1 (fun k => by omega), fun e => (h.va i e).elim hi.2.2 (fun k => by omega)⟩
theorem Mv.sameTrans {R : Nat} {c c' : LnC} {w w' w'' : World} (h : Mv R c c' w w') (k : Same (RdA R c') w' w'') : Same (RdA R c) w w'' :=
 ⟨k.os.trans h.same.os, k.tape.trans h.same.tape, k.output.trans h.same.output, Nat.le_trans h.same.size k.size, fun i hi hl => (k.block i (h.rda hi hl) (Nat.lt_of_lt_of_le hl h.same.size)).trans (h.same.block i hi hl)⟩
theorem Mv.trans {R : Nat} {c c' c'' : LnC} {w w' w'' : World} (h : Mv R c c' w w') (k : Mv R c' c'' w' w'') : Mv R c c'' w w'' :=
 ⟨h.sameTrans k.same, fun g hg => (k.na g hg).elim (fun e => h.na g e) (fun e => .inr (Nat.le_trans h.same.size e)), fun g hg => (k.va g hg).elim (fun e => h.va g e) (fun e => .inr (Nat.le_trans h.same.size e))⟩
theorem Mv.bx {R : Nat} {c c' : LnC} {w w' : World} (h : Mv R c c' w w') {b : Nat} {cs : Array Value} (hb : Bx w b cs) (hA : RdA R c b) : Bx w' b cs := h.same.bx hb hA
theorem RdC.new {w : World} {R p : Nat} {s l : Bs} {c : LnC} {n : LnS} (h : RdC w R s p l c n) {i : Nat} (hi : w.heap.size ≤ i) : RdA R c i :=
 ⟨by have := h.x.2.2; omega, h.n.2.1.far' (.inr hi), h.n.2.2.far' (.inr hi)⟩
theorem RdC.old {w : World} {R p : Nat} {s l : Bs} {c : LnC} {n : LnS} (h : RdC w R s p l c n) {i : Nat} (hi : i < R) : RdA R c i :=
 ⟨by omega, h.n.2.1.far' (.inl (by omega)), h.n.2.2.far' (.inl (by omega))⟩
theorem RdC.below {w w' : World} {R p : Nat} {s l : Bs} {c : LnC} {n : LnS} (h : RdC w R s p l c n) (hb : Below w.heap.size w w') : RdC w' R s p l c n :=
 ⟨h.x.keep hb, h.n.below hb, h.d, h.le, h.lim⟩
theorem RdC.len {w : World} {R p : Nat} {s l : Bs} {c : LnC} {n : LnS} (h : RdC w R s p l c n) : p + l.length = s.length := by
 have := h.le; rw [← h.d, List.length_drop]; omega
theorem RdC.go {w : World} {R p : Nat} {s l : Bs} {c : LnC} {n : LnS} (h : RdC w R s p l c n) (k : Nat) (hk : k ≤ l.length) :
   RdC (w.setCell ⟨R, 1, none⟩ (.int .i64 ((p + k : Nat) : Int))) R s (p + k) (l.drop k) c n ∧ Mv R c c w (w.setCell ⟨R, 1, none⟩ (.int .i64 ((p + k : Nat) : Int))) := by
 have hx := h.x.setC 1 (by simp) (.int .i64 ((p + k : Nat) : Int))
 have hs : Same (RdA R c) w (w.setCell ⟨R, 1, none⟩ (.int .i64 ((p + k : Nat) : Int))) := Same.setCell _ _ _ _ (fun e => e.1 rfl)
 refine ⟨⟨hx, ⟨h.n.1, h.n.2.1.block fun g hg => ?_, h.n.2.2.block fun g hg => ?_⟩, ?_, ?_, h.lim⟩, hs, fun _ h => .inl h, fun _ h => .inl h⟩
 · exact Below.heap_setCell _ _ _ _ (by have := (h.n.2.1.lt g hg).1; simp; omega)
 · exact Below.heap_setCell _ _ _ _ (by have := (h.n.2.2.lt g hg).1; simp; omega)
 · rw [← h.d, List.drop_drop]
 · have := h.len; omega
end Yd


namespace Yd
open Go Go.RowKit Go.Proofs

theorem bsz (l : Bs) : ByteArray.size ⟨l.toArray⟩ = l.length := by simp [ByteArray.size]
theorem ext_drop (s : Bs) (p : Nat) : (⟨s.toArray⟩ : ByteArray).extract p s.length = ⟨(s.drop p).toArray⟩ := by
 apply ByteArray.ext
 rw [ByteArray.data_extract]
 apply Array.ext'
 simp [List.take_of_length_le]
theorem ext_take (s : Bs) (p : Nat) : (⟨s.toArray⟩ : ByteArray).extract 0 p = ⟨(s.take p).toArray⟩ := by
 apply ByteArray.ext
 rw [ByteArray.data_extract]
 apply Array.ext'
 simp
theorem dec_drop (l : Bs) (p : Nat) : Utf8.decode ⟨l.toArray⟩ p = Utf8.decode ⟨(l.drop p).toArray⟩ 0 := by
 rw [← ext_drop]
 have := Lib.tail_decode ⟨l.toArray⟩ p 0
 rw [bsz] at this
 rw [this, Nat.add_zero]
theorem okB_drop (l : Bs) (p : Nat) : okB ⟨l.toArray⟩ p = okB ⟨(l.drop p).toArray⟩ 0 := by unfold okB; rw [dec_drop]
theorem dec_lo (b : UInt8) (t : Bs) (h : b.toNat < 128) : Utf8.decode ⟨(b :: t).toArray⟩ 0 = (b.toNat, 1) := decode_ascii ⟨(b :: t).toArray⟩ 0 (by rw [bsz]; simp) h
theorem dec_hi (b : UInt8) (t : Bs) (h : 128 ≤ b.toNat) : 128 ≤ (Utf8.decode ⟨(b :: t).toArray⟩ 0).1 ∧ 1 ≤ (Utf8.decode ⟨(b :: t).toArray⟩ 0).2 := decode_high ⟨(b :: t).toArray⟩ 0 (by rw [bsz]; simp) h
theorem dec_w (l : Bs) (h : l ≠ []) : 1 ≤ (Utf8.decode ⟨l.toArray⟩ 0).2 := by
 cases l with
 | nil => exact absurd rfl h
 | cons b t =>
   rcases Nat.lt_or_ge b.toNat 128 with h1 | h1
   · rw [dec_lo b t h1]; exact Nat.le_refl _
   · exact (dec_hi b t h1).2
theorem ok_lo (b : UInt8) (t : Bs) (h : b.toNat < 128) : okB ⟨(b :: t).toArray⟩ 0 = true := by
 unfold okB; rw [dec_lo b t h]
 rw [show ((b.toNat : Int) == 65533) = false from beq_eq_false_iff_ne.2 (by omega)]; rfl
theorem posFrom_add (l : Bs) (d : Nat) : ∀ (n p : Nat), posFrom ⟨l.toArray⟩ n (d + p) = (posFrom ⟨(l.drop d).toArray⟩ n p).map (d + ·)
 | 0, _ => rfl
 | n + 1, p => by
   simp only [posFrom, bsz, List.length_drop]
   have e : Utf8.decode ⟨l.toArray⟩ (d + p) = Utf8.decode ⟨(l.drop d).toArray⟩ p := by
     rw [dec_drop l (d + p), dec_drop (l.drop d) p, List.drop_drop]
   by_cases h : d + p < l.length
   · rw [if_pos h, if_pos (by omega), e, Nat.add_assoc, posFrom_add l d n]; rfl
   · rw [if_neg h, if_neg (by omega)]; rfl
theorem posFrom_fuel (s : ByteArray) : ∀ (n m p : Nat), s.size ≤ p + n → s.size ≤ p + m → posFrom s n p = posFrom s m p
 | 0, m, p, h1, _ => by cases m <;> simp only [posFrom]; rw [if_neg (by omega)]
 | n + 1, 0, p, _, h2 => by simp only [posFrom]; rw [if_neg (by omega)]
 | n + 1, m + 1, p, h1, h2 => by
   simp only [posFrom]
   by_cases h : p < s.size
   · rw [if_pos h, if_pos h]
     have := width_pos s p h
     rw [posFrom_fuel s n m _ (by omega) (by omega)]
   · rw [if_neg h, if_neg h]
theorem dec_le (l : Bs) (h : l ≠ []) : (Utf8.decode ⟨l.toArray⟩ 0).2 ≤ l.length := by
 have h1 : 1 ≤ l.length := by
   cases l with
   | nil => exact absurd rfl h
   | cons b t => simp
 unfold Utf8.decode
 simp only [bsz]
 split
 · exact h1
 split
 · rename_i g
   simp only [Bool.and_eq_true, decide_eq_true_eq] at g
   split
   · show 2 ≤ _; omega
   · exact h1
 split
 · rename_i g
   simp only [Bool.and_eq_true, decide_eq_true_eq] at g
   split
   · show 3 ≤ _; omega
   · exact h1
 split
 · rename_i g
   simp only [Bool.and_eq_true, decide_eq_true_eq] at g
   split
   · show 4 ≤ _; omega
   · exact h1
 · exact h1
theorem stopB_drop (l : Bs) (p : Int → Bool) (d q : Nat) : stopB ⟨l.toArray⟩ p (d + q) = stopB ⟨(l.drop d).toArray⟩ p q := by
 unfold stopB
 rw [okB_drop l (d + q), okB_drop (l.drop d) q, dec_drop l (d + q), dec_drop (l.drop d) q, List.drop_drop]
theorem whileE_cons (l : Bs) (p : Int → Bool) (h : l ≠ []) : whileE ⟨l.toArray⟩ p =
   if (okB ⟨l.toArray⟩ 0 && p ((Utf8.decode ⟨l.toArray⟩ 0).1 : Int)) = true then (Utf8.decode ⟨l.toArray⟩ 0).2 + whileE ⟨(l.drop (Utf8.decode ⟨l.toArray⟩ 0).2).toArray⟩ p else 0 := by
 obtain ⟨d, hd⟩ : ∃ d, d = (Utf8.decode ⟨l.toArray⟩ 0).2 := ⟨_, rfl⟩
 have hw := dec_w l h
 rw [← hd] at hw ⊢
 obtain ⟨n, hn⟩ : ∃ n, l.length = n + 1 := ⟨l.length - 1, by have : l.length ≠ 0 := fun e => h (List.eq_nil_of_length_eq_zero e); omega⟩
 have hp : posFrom ⟨l.toArray⟩ l.length 0 = 0 :: (posFrom ⟨(l.drop d).toArray⟩ (l.drop d).length 0).map (d + ·) := by
   rw [hn]
   simp only [posFrom, bsz]
   rw [if_pos (by omega), ← hd, Nat.zero_add, ← Nat.add_zero d, posFrom_add, Nat.add_zero, posFrom_fuel ⟨(l.drop d).toArray⟩ n (l.drop d).length 0 (by rw [bsz, List.length_drop]; omega) (by rw [bsz]; omega)]
 unfold whileE
 rw [bsz, bsz, hp]
 simp only [List.find?_cons, List.find?_map]
 unfold stopB
 cases hk : (okB ⟨l.toArray⟩ 0 && p ((Utf8.decode ⟨l.toArray⟩ 0).1 : Int))
 · simp
 · simp only [Bool.not_true, if_true]
   have e : ((fun pos => !(okB ⟨l.toArray⟩ pos && p ((Utf8.decode ⟨l.toArray⟩ pos).1 : Int))) ∘ fun x => d + x) = stopB ⟨(l.drop d).toArray⟩ p := by
     funext q
     exact stopB_drop l p d q
   have e2 : (fun pos => !(okB ⟨(l.drop d).toArray⟩ pos && p ((Utf8.decode ⟨(l.drop d).toArray⟩ pos).1 : Int))) = stopB ⟨(l.drop d).toArray⟩ p := rfl
   rw [e, e2]
   cases hf : List.find? (stopB ⟨(l.drop d).toArray⟩ p) (posFrom ⟨(l.drop d).toArray⟩ (l.drop d).length 0) with
   | none =>
     simp only [Option.map_none, Option.getD_none]
     have hx : d ≤ l.length := by rw [hd]; exact dec_le l h
     rw [List.length_drop]; omega
   | some q => simp
theorem whileE_bytes (p : Int → Bool) (q : UInt8 → Bool) (h : ∀ b : UInt8, b.toNat < 128 → p (b.toNat : Int) = q b) (hh : ∀ r : Nat, 128 ≤ r → p (r : Int) = false) (hq : ∀ b : UInt8, 128 ≤ b.toNat → q b = false) :
   ∀ l : Bs, whileE ⟨l.toArray⟩ p = (l.takeWhile q).length
 | [] => rfl
 | b :: t => by
   rw [whileE_cons (b :: t) p (by simp)]
   rcases Nat.lt_or_ge b.toNat 128 with h1 | h1
   · rw [dec_lo b t h1, ok_lo b t h1, Bool.true_and, h b h1]
     cases hb : q b
     · rw [List.takeWhile_cons, hb]; rfl
     · rw [if_pos rfl, List.takeWhile_cons, hb, if_pos rfl]
       show 1 + whileE ⟨t.toArray⟩ p = _
       rw [whileE_bytes p q h hh hq t, List.length_cons]; omega
   · rw [hh _ (dec_hi b t h1).1, Bool.and_false, List.takeWhile_cons, hq b h1]; rfl
theorem idxFrom_bytes (p : Nat → Bool) (q : UInt8 → Bool) (h : ∀ b : UInt8, b.toNat < 128 → p b.toNat = q b) (hh : ∀ r : Nat, 128 ≤ r → p r = false) (hq : ∀ b : UInt8, 128 ≤ b.toNat → q b = false) (l : Bs) :
   ∀ f pos : Nat, l.length ≤ pos + f → pos ≤ l.length → Lib.idxFuncFrom p false ⟨l.toArray⟩ f pos = if pos + ((l.drop pos).takeWhile q).length < l.length then ((pos + ((l.drop pos).takeWhile q).length : Nat) : Int) else -1
 | 0, pos, h1, h2 => by
   have e : pos = l.length := by omega
   subst e
   rw [if_neg (by omega)]; rfl
 | f + 1, pos, h1, h2 => by
   unfold Lib.idxFuncFrom
   rw [bsz]
   by_cases hp : pos < l.length
   · rw [if_pos hp]
     obtain ⟨b, t, hbt⟩ : ∃ b t, l.drop pos = b :: t := ⟨_, _, List.drop_eq_getElem_cons hp⟩
     rw [dec_drop l pos, hbt]
     rcases Nat.lt_or_ge b.toNat 128 with h3 | h3
     · rw [dec_lo b t h3]
       simp only [h b h3]
       cases hb : q b
       · rw [if_pos rfl, List.takeWhile_cons, hb]
         simp only [Bool.false_eq_true, if_false, List.length_nil, Nat.add_zero]
         rw [if_pos hp]
       · rw [if_neg (by simp), idxFrom_bytes p q h hh hq l f (pos + 1) (by omega) (by omega)]
         have ht : l.drop (pos + 1) = t := by rw [← List.drop_drop, hbt]; rfl
         rw [ht, List.takeWhile_cons, hb, if_pos rfl, List.length_cons, show pos + 1 + (t.takeWhile q).length = pos + ((t.takeWhile q).length + 1) by omega]
     · rw [if_pos (hh _ (dec_hi b t h3).1), List.takeWhile_cons, hq b h3]
       simp only [Bool.false_eq_true, if_false, List.length_nil, Nat.add_zero]
       rw [if_pos hp]
   · rw [if_neg hp, if_neg (by omega)]
theorem drop_takeWhile {α : Type} (q : α → Bool) (l : List α) : l.drop (l.takeWhile q).length = l.dropWhile q := by
 induction l with
 | nil => rfl
 | cons b t ih =>
   rw [List.takeWhile_cons, List.dropWhile_cons]
   cases q b
   · rfl
   · simpa using ih
theorem len_takeWhile {α : Type} (q : α → Bool) (l : List α) : (l.takeWhile q).length + (l.dropWhile q).length = l.length := by
 rw [← List.length_append, List.takeWhile_append_dropWhile]
theorem trim_bytes (p : Nat → Bool) (q : UInt8 → Bool) (h : ∀ b : UInt8, b.toNat < 128 → p b.toNat = q b) (hh : ∀ r : Nat, 128 ≤ r → p r = false) (hq : ∀ b : UInt8, 128 ≤ b.toNat → q b = false) (l : Bs) :
   Lib.trimLeftF p ⟨l.toArray⟩ = ⟨(l.dropWhile q).toArray⟩ := by
 have hl := len_takeWhile q l
 unfold Lib.trimLeftF Lib.idxFunc
 rw [bsz, idxFrom_bytes p q h hh hq l l.length 0 (by omega) (by omega)]
 simp only [List.drop_zero, Nat.zero_add]
 by_cases hp : (l.takeWhile q).length < l.length
 · rw [if_pos hp, if_neg (by omega), Int.toNat_natCast, ext_drop, drop_takeWhile]
 · rw [if_neg hp, if_pos rfl, List.eq_nil_of_length_eq_zero (l := l.dropWhile q) (by omega)]
def blR (r : Int) : Bool := r == 32 || r == 9
theorem blR_lo (b : UInt8) : blR (b.toNat : Int) = blB b := by
 have hx : ∀ n : Nat, (((b.toNat : Int) == (n : Int)) = decide (b.toNat = n)) := fun n => by
   by_cases h : b.toNat = n
   · simp [h]
   · rw [beq_eq_false_iff_ne.2 (by omega)]; simp [h]
 have hy : ∀ c : UInt8, (b == c) = decide (b.toNat = c.toNat) := fun c => by
   by_cases h : b = c
   · simp [h]
   · rw [beq_eq_false_iff_ne.2 h, decide_eq_false (fun e => h (UInt8.toNat_inj.1 e))]
 unfold blR blB
 rw [hy 32, hy 9, show (32 : Int) = ((32 : Nat) : Int) from rfl, show (9 : Int) = ((9 : Nat) : Int) from rfl, hx, hx]; rfl
theorem blR_hi (r : Nat) (h : 128 ≤ r) : blR (r : Int) = false := by
 unfold blR; rw [beq_eq_false_iff_ne.2 (by omega), beq_eq_false_iff_ne.2 (by omega)]; rfl
theorem blB_hi (b : UInt8) (h : 128 ≤ b.toNat) : blB b = false := by rw [← blR_lo]; exact blR_hi _ h
theorem while_bl (l : Bs) : whileE ⟨l.toArray⟩ blR = (l.takeWhile blB).length := whileE_bytes blR blB (fun b _ => blR_lo b) blR_hi blB_hi l
theorem trim_bl (l : Bs) : Lib.trimLeftF (fun r => blR (r : Int)) ⟨l.toArray⟩ = ⟨(skipS l).toArray⟩ := trim_bytes _ blB (fun b _ => blR_lo b) blR_hi blB_hi l
theorem skipS_len (l : Bs) : (skipS l).length ≤ l.length := by have := len_takeWhile blB l; unfold skipS; omega
theorem skipS_drop (l : Bs) : l.drop (l.length - (skipS l).length) = skipS l := by
 have := len_takeWhile blB l
 unfold skipS at *
 rw [show l.length - (l.dropWhile blB).length = (l.takeWhile blB).length by omega, drop_takeWhile]
theorem ix_list (l : Bs) (i : Nat) (b : UInt8) (h : l[i]? = some b) : ∃ hi : i < ByteArray.size ⟨l.toArray⟩, (⟨l.toArray⟩ : ByteArray)[i]'hi = b := by
 obtain ⟨h1, h2⟩ := List.getElem?_eq_some_iff.1 h
 exact ⟨by rw [bsz]; exact h1, by rw [← h2]; rfl⟩
theorem run_ix {P : Program} {t : TypeId} (ht : P.underlying t = some .string) (l : Bs) (i : Nat) (b : UInt8) (h : l[i]? = some b) (W : World) : (Instr.index t (.string ⟨l.toArray⟩) (.int .i64 (i : Int))).run P W = .ok (.int .u8 (b.toNat : Int)) W := by
 obtain ⟨hi, hx⟩ := ix_list l i b h
 rw [run_index_string W t _ .i64 i ht, dif_pos ⟨by omega, by omega⟩]
 simp only [Int.toNat_natCast, hx]
theorem run_sl {P : Program} {t : TypeId} (ht : P.underlying t = some .string) (l : Bs) (i : Nat) (h : i ≤ l.length) (W : World) : (Instr.slice t (.string ⟨l.toArray⟩) (some (.int .i64 (i : Int))) none none).run P W = .ok (.string ⟨(l.drop i).toArray⟩) W := by
 rw [run_slice_string_l W t _ ht .i64 i (by omega) (by rw [bsz]; omega), Int.toNat_natCast, bsz, ext_drop]
theorem run_slh {P : Program} {t : TypeId} (ht : P.underlying t = some .string) (l : Bs) (i : Nat) (h : i ≤ l.length) (W : World) : (Instr.slice t (.string ⟨l.toArray⟩) none (some (.int .i64 (i : Int))) none).run P W = .ok (.string ⟨(l.take i).toArray⟩) W := by
 rw [run_slice_string_h W t _ ht .i64 i (by omega) (by rw [bsz]; omega), Int.toNat_natCast, ext_take]
theorem u8_eq (b c : UInt8) : (b == c) = ((b.toNat : Int) == (c.toNat : Int)) := by
 by_cases h : b = c
 · simp [h]
 · rw [beq_eq_false_iff_ne.2 h, beq_eq_false_iff_ne.2 (fun e => h (UInt8.toNat_inj.1 (by omega)))]
theorem endsS_cons (b : UInt8) (t : Bs) : endsS (b :: t) = (((b.toNat : Int) == 10) || ((b.toNat : Int) == 35)) := by
 unfold endsS
 simp only [List.head?_cons]
 rw [show ((some b == none) : Bool) = false from rfl, Bool.false_or]
 show ((b == 10) || (b == 35)) = _
 rw [u8_eq b 10, u8_eq b 35]; rfl
end Yd
