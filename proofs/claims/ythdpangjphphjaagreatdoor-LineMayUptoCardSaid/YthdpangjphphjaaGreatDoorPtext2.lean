import Derived.Test.YthdpangjphphjaaGreatDoorOf
import Derived.Test.YthdpangjphphjaaGreatDoorOwn12
import Derived.Test.YthdpangjphphjaaGreatDoorProg
import Derived.LoopIn
import Derived.LoopNIn
import Derived.TacticsInMore
import Derived.OwnWalkIn
import Derived.Shelf.Abstract
import Derived.Shelf.RegionOpen
import Derived.Test.YthdpangjphphjaaGreatDoorShaped
import Derived.Test.YthdpangjphphjaaGreatDoorChB0
import Derived.Test.YthdpangjphphjaaGreatDoorOrdIn
import Derived.WalkMore
import Derived.ScopeJumps
import Derived.Test.YthdpangjphphjaaGreatDoorBldAt
set_option maxRecDepth 200000
set_option maxHeartbeats 8000000
namespace Yd
open Go
inductive OT where
 | nil
 | q (i c : Nat) (r : OT)
 | l (i : Nat) (r : OT)
 | alt (i : Nat) (r : OT) (j : Nat) (s : OT)
def OT.size : OT → Nat
 | .nil => 0
 | .q _ _ r => r.size + 1
 | .l _ r => r.size + 1
 | .alt _ r _ _ => r.size + 1
section
variable {P : Program} {ops : Array Oper} {Q : Exit → Act → World → Prop} {md : Region.Mode} {R S : World → Prop} {cut : Nat}
def wpOrdT (P : Program) (ops : Array Oper) (Q : Exit → Act → World → Prop) (R S : World → Prop) (cut : Nat) : OT → Act → World → Prop
 | .nil, a, w => Q .normal a w
 | .q i 0 r, a, w => ∃ o v, ops[i]? = some o ∧ YieldsIf P ops (fun w => R w ∧ S w) o v a ∧ wpOrdT P ops Q R S cut r (a.put o.dst v) w
 | .q i (_ + 1) r, a, w => ∃ o v, ops[i]? = some o ∧ YieldsIf P ops R o v a ∧ wpOrdT P ops Q R S cut r (a.put o.dst v) w
 | .l i r, a, w => wpOp P ops Q i (fun a' w' => ThenS cut R S i w w' ∧ wpOrdT P ops Q R S cut r a' w') a w
 | .alt i r j s, a, w => wpOp P ops Q i (fun a' w' => ThenS cut R S i w w' ∧ wpOrdT P ops Q R S cut r a' w') a w ∧ wpOp P ops Q j (fun a' w' => ThenS cut R S j w w' ∧ wpOrdT P ops Q R S cut s a' w') a w
def okOrdT (md : Region.Mode) (ops : Array Oper) (cut : Nat) : OT → Bool → Array Bool → Bool
 | .nil, _, listed => (Region.ready md ops listed).isEmpty
 | .q i 0 r, held, listed => (Region.ready md ops listed).contains i && Region.free md ops listed i && (held && waits md ops cut i) && okOrdT md ops cut r held (listed.setIfInBounds i true)
 | .q i (_ + 1) r, held, listed => (Region.ready md ops listed).contains i && Region.free md ops listed i && okOrdT md ops cut r held (listed.setIfInBounds i true)
 | .l i r, held, listed => decide (Region.ready md ops listed = [i]) && okOrdT md ops cut r (held && decide (i < cut)) (listed.setIfInBounds i true)
 | .alt i r j s, held, listed => decide (Region.ready md ops listed = [i, j]) && decide (r.size = s.size) && okOrdT md ops cut r (held && decide (i < cut)) (listed.setIfInBounds i true) && okOrdT md ops cut s (held && decide (j < cut)) (listed.setIfInBounds j true)
theorem held_step {i : Nat} {held : Bool} {w w' : World} (hS : held = true → S w) (h : ThenS cut R S i w w') (hh : (held && decide (i < cut)) = true) : S w' := by
 simp only [Bool.and_eq_true, decide_eq_true_eq] at hh
 rcases h.2 with h1 | h1
 · omega
 · exact h1 (hS hh.1)
theorem wpAnyT_of_ordT (hs : Region.noSelect ops = true) (hQ : ∀ d v c a w, Q (.panic c) (Act.put a d v) w → Q (.panic c) a w) :
   ∀ (l : OT) (held : Bool) (listed : Array Bool) (a : Act) (w : World), okOrdT md ops cut l held listed = true → R w → (held = true → S w) → wpOrdT P ops Q R S cut l a w → wpAnyT P md ops Q (ThenS cut R S) l.size listed a w
 | .nil, _, listed, a, w, hB, _, _, h => ⟨by simpa [okOrdT] using hB, h⟩
 | .q i 0 r, held, listed, a, w, hB, hR, hS, h => by
   simp only [okOrdT, Bool.and_eq_true] at hB
   obtain ⟨⟨⟨hr, hf⟩, hh, hc⟩, hB'⟩ := hB
   obtain ⟨o, v, ho, hy, hn⟩ := h
   have hrest := wpAnyT_of_ordT hs hQ r held _ _ _ hB' hR hS hn
   refine wpAnyT_first (S := fun w => R w ∧ S w) ho (Region.noSelect_spec hs) (fun c a w => hQ _ _ c a w) (fun _ h => ⟨h.1, .inr id⟩) (fun j oj hj hne hno w w' hw' hw => ⟨hw'.1, ?_⟩) r.size listed a w (Region.free_spec ho hf) (by simpa using hr) hy ⟨hR, hS hh⟩ hrest
   rcases hw'.2 with h1 | h1
   · exact absurd (waits_spec hc j oj hj hno) (by omega)
   · exact h1 hw.2
 | .q i (_ + 1) r, held, listed, a, w, hB, hR, hS, h => by
   simp only [okOrdT, Bool.and_eq_true] at hB
   obtain ⟨⟨hr, hf⟩, hB'⟩ := hB
   obtain ⟨o, v, ho, hy, hn⟩ := h
   have hrest := wpAnyT_of_ordT hs hQ r held _ _ _ hB' hR hS hn
   exact wpAnyT_first (S := R) ho (Region.noSelect_spec hs) (fun c a w => hQ _ _ c a w) (fun _ h => ⟨h, .inr id⟩) (fun j oj hj hne hno w w' hw' _ => hw'.1) r.size listed a w (Region.free_spec ho hf) (by simpa using hr) hy hR hrest
 | .l i r, held, listed, a, w, hB, hR, hS, h => by
   simp only [okOrdT, Bool.and_eq_true, decide_eq_true_eq] at hB
   obtain ⟨hr, hB'⟩ := hB
   refine ⟨fun h0 => (by rw [hr] at h0; cases h0), fun j hj => ?_⟩
   rw [hr] at hj
   obtain rfl : j = i := by simpa using hj
   exact wpOp_mono (fun a' w' hh => ⟨hh.1, wpAnyT_of_ordT hs hQ r _ _ a' w' hB' hh.1.1 (held_step hS hh.1) hh.2⟩) h
 | .alt i r k s, held, listed, a, w, hB, hR, hS, h => by
   simp only [okOrdT, Bool.and_eq_true, decide_eq_true_eq] at hB
   obtain ⟨⟨⟨hr, hz⟩, hB1⟩, hB2⟩ := hB
   refine ⟨fun h0 => (by rw [hr] at h0; cases h0), fun j hj => ?_⟩
   rw [hr] at hj
   rcases (by simpa using hj : j = i ∨ j = k) with rfl | rfl
   · exact wpOp_mono (fun a' w' hh => ⟨hh.1, wpAnyT_of_ordT hs hQ r _ _ a' w' hB1 hh.1.1 (held_step hS hh.1) hh.2⟩) h.1
   · refine wpOp_mono (fun a' w' hh => ⟨hh.1, ?_⟩) h.2
     have := wpAnyT_of_ordT hs hQ s _ _ a' w' hB2 hh.1.1 (held_step hS hh.1) hh.2
     show wpAnyT P md ops Q (ThenS cut R S) r.size _ a' w'
     rw [hz]; exact this
theorem wp_region_ordT {id : Nat} {a : Act} {w : World} {l : List Oper} (cut : Nat) (ord : OT) (R S : World → Prop) (hm : P.follows .mixedOrders = true)
   (hB : (Region.noSelect l.toArray && decide (ord.size = l.length) && okOrdT .any l.toArray cut ord true (Array.replicate l.toArray.size false)) = true)
   (hR : R w.drew) (hS : S w.drew) (h : wpOrdT P l.toArray (strictQ Q) R S cut ord a w.drew) : (Code.region id l.toArray true).wp P Q a w := by
 simp only [Bool.and_eq_true, decide_eq_true_eq] at hB
 obtain ⟨⟨hs, hl⟩, ho⟩ := hB
 refine wp_mono (Q := strictQ Q) (wp_region_any hm (wpAny_of_T (T := ThenS cut R S) _ _ _ _ ?_)) strictQ_of
 have := wpAnyT_of_ordT (md := .any) (Q := strictQ Q) hs (strictQ_p Q) ord true _ a _ ho hR (fun _ => hS) h
 rw [hl] at this
 simpa using this
theorem ordT_nil {a : Act} {w : World} (h : Q .normal a w) : wpOrdT P ops (strictQ Q) R S cut .nil a w := h
variable {l : List Oper} {a : Act} {w : World} {r s : OT} {i j : Nat} {o : Oper}
theorem ordT_q (ho : opAt l i = some o) (hw : Region.wanted o (yielded l.toArray a.tmps) = true)
   (h : ∃ v, (∀ w, R w ∧ S w → (execOp a.eval o).run P w = .ok (.value v) w) ∧ wpOrdT P l.toArray Q R S cut r (a.put o.dst v) w) : wpOrdT P l.toArray Q R S cut (.q i 0 r) a w :=
 let ⟨v, h1, h2⟩ := h
 ⟨o, v, opAt_get _ _ _ ho, .inl ⟨hw, h1⟩, h2⟩
theorem ordT_p (ho : opAt l i = some o) (hw : Region.wanted o (yielded l.toArray a.tmps) = true)
   (h : ∃ v, (∀ w, R w → (execOp a.eval o).run P w = .ok (.value v) w) ∧ wpOrdT P l.toArray Q R S cut r (a.put o.dst v) w) : wpOrdT P l.toArray Q R S cut (.q i 1 r) a w :=
 let ⟨v, h1, h2⟩ := h
 ⟨o, v, opAt_get _ _ _ ho, .inl ⟨hw, h1⟩, h2⟩
theorem ordT_one (ho : opAt l i = some o) (hw : Region.wanted o (yielded l.toArray a.tmps) = true) (h : ∀ K : Act → World → Prop, (∀ a w, R w ∧ S w → wpOrdT P l.toArray Q R S cut r a w → K a w) → o.wp P a w K Q) :
   wpOp P l.toArray Q i (fun a' w' => ThenS cut R S i w w' ∧ wpOrdT P l.toArray Q R S cut r a' w') a w := by
 have ho' := opAt_get _ _ _ ho
 unfold wpOp
 simp only [ho', hw, if_true]
 exact .inl (h _ fun _ _ h1 h2 => ⟨⟨h1.1, .inr fun _ => h1.2⟩, h2⟩)
theorem ordT_l (ho : opAt l i = some o) (hw : Region.wanted o (yielded l.toArray a.tmps) = true) (h : ∀ K : Act → World → Prop, (∀ a w, R w ∧ S w → wpOrdT P l.toArray Q R S cut r a w → K a w) → o.wp P a w K Q) :
   wpOrdT P l.toArray Q R S cut (.l i r) a w := ordT_one ho hw h
end
end Yd


namespace Yd
open Go Go.RowKit Go.Proofs

@[reducible] def line0 (k : Int) (a : Option Addr) (c : Nat) : LnC := ⟨k, a, 1, c, 0, none, 0, 0, false, 0⟩
structure EvAt (e : EvC) (w : World) (x : Bs) (b5 : Nat) (a : Option Addr) (c : Nat) (Z : World) : Prop where
 be : Bx Z w.heap.size (cellsEv e)
 br : Bx Z (w.heap.size + 1) #[.int .i64 0, .slice none 0 0, .int .i64 0, .slice none 0 0, .bool false, .int .i64 0]
 c5 : Bx Z b5 (cellsLn (line0 e.kind a c))
 on : Own Z w.heap.size 9 1 encStr (.slice a 1 c) [x]
 fn : ∀ g, (Value.slice a 1 c).ownBlock = some g → g ≠ w.heap.size ∧ g ≠ w.heap.size + 1 ∧ g ≠ b5
 le : w.heap.size + 2 ≤ b5
 bw : Below w.heap.size w Z

end Yd


namespace Yd
open Go Go.RowKit Go.Proofs

attribute [local go_sem] Oper.semAt_some
section
variable {J Jx : List LnS → World → Prop} {D : Nat → Prop} {ls : List LnS} {l B : Nat} {w0 : World} {Ok : World → Prop}

end
end Yd


namespace Yd
open Go Go.RowKit Go.Proofs

attribute [local go_sem] Oper.semAt_some
end Yd


namespace Yd
open Go Go.RowKit Go.Proofs

set_option linter.unusedSectionVars false
section
variable {tn sn on pn : List Bs} {nt ns no np : Nat} (ht : ∀ s ∈ tn, wordB ⟨s.toArray⟩ = true) (hs : ∀ s ∈ sn, wordB ⟨s.toArray⟩ = true) (ho : ∀ s ∈ on, wordB ⟨s.toArray⟩ = true) (hp : ∀ s ∈ pn, wordB ⟨s.toArray⟩ = true)
 (lt : tn.length = nt) (ls : sn.length = ns) (lo : on.length = no) (lp : pn.length = np)
include ht hs ho hp lt ls lo lp
end
end Yd


namespace Yd
open Go Go.RowKit Go.Proofs

def LnsAt (w : World) (B : Nat) (lcs : List LnC) (ls : List LnS) : Prop := lcs.length = ls.length ∧ ∀ (i : Nat) (l : LnC), lcs[i]? = some l → ∃ s, ls[i]? = some s ∧ LnAt w B l s
theorem LnsAt.same {w w' : World} {B : Nat} {lcs : List LnC} {ls : List LnS} (h : LnsAt w B lcs ls) {A : Nat → Prop} (hs : Same A w w') (hA : ∀ i, B ≤ i → A i) : LnsAt w' B lcs ls :=
 ⟨h.1, fun i l hl => let ⟨s, h1, h2⟩ := h.2 i l hl; ⟨s, h1, h2.1, h2.2.1.same hs (fun g hg => hA g (h2.2.1.lt g hg).1), h2.2.2.same hs (fun g hg => hA g (h2.2.2.lt g hg).1)⟩⟩
theorem LnsAt.below {w w' : World} {B : Nat} {lcs : List LnC} {ls : List LnS} (h : LnsAt w B lcs ls) (hb : Below w.heap.size w w') : LnsAt w' B lcs ls :=
 ⟨h.1, fun i l hl => let ⟨s, h1, h2⟩ := h.2 i l hl; ⟨s, h1, h2.below hb⟩⟩
theorem LnsAt.grown {w w' : World} {B : Nat} {lcs : List LnC} {ls : List LnS} (h : LnsAt w B lcs ls) {row : Option Nat} (hg : w.grownBy w' row) (hr : ∀ g, row = some g → ∃ cs fz, w.heap[g]? = some (.cells cs 28 fz)) : LnsAt w' B lcs ls :=
 ⟨h.1, fun i l hl => let ⟨s, h1, h2⟩ := h.2 i l hl; ⟨s, h1, h2.1,
   h2.2.1.grown hg (fun g hg' e => by obtain ⟨cs, fz, e1⟩ := hr g e; exact h2.2.1.notBox e1 (by decide) hg'),
   h2.2.2.grown hg (fun g hg' e => by obtain ⟨cs, fz, e1⟩ := hr g e; exact h2.2.2.notBox e1 (by decide) hg')⟩⟩
theorem LnsAt.snoc {w : World} {B : Nat} {lcs : List LnC} {ls : List LnS} (h : LnsAt w B lcs ls) {l : LnC} {s : LnS} (hl : LnAt w B l s) : LnsAt w B (lcs ++ [l]) (ls ++ [s]) := by
 have e := h.1
 refine ⟨by simp [h.1], fun i q hq => ?_⟩
 rcases Nat.lt_or_ge i lcs.length with hi | hi
 · rw [List.getElem?_append_left hi] at hq
   obtain ⟨t, h1, h2⟩ := h.2 i q hq
   exact ⟨t, by rw [List.getElem?_append_left (by omega)]; exact h1, h2⟩
 · rw [List.getElem?_append_right hi] at hq
   have h0 : i - lcs.length = 0 := by
     rcases Nat.eq_zero_or_pos (i - lcs.length) with h0 | h0
     · exact h0
     · rw [List.getElem?_eq_none (by simp; omega)] at hq; cases hq
   rw [h0] at hq
   obtain rfl : l = q := by simpa using hq
   exact ⟨s, by rw [List.getElem?_append_right (by omega), show i - ls.length = 0 by omega]; rfl, hl⟩

attribute [local go_sem] Oper.semAt_some
end Yd


namespace Yd
open Go Go.RowKit Go.Proofs

section
variable (h : HC) (nl : Nat → List Bs) (es : List EvC) (ds : List OrC) (ms : List MaC) (qs : List Wa) (scan : EvC → List Sn) (dn : OrC → List Int) (mn : MaC → List Int) (w : World) (hg : GlobH w)
   (hn : ∀ i, i < 4 → Row w 1 encStr (h.nm i).a (h.nm i).n (h.nm i).c (nl i)) (hd : Deep w h es ds ms qs scan dn mn)
include hg hn hd
end
end Yd


namespace Yd
open Go Go.RowKit Go.Proofs

section
variable (h : HC) (nl : Nat → List Bs) (es : List EvC) (ds : List OrC) (ms : List MaC) (qs : List Wa) (scan : EvC → List Sn) (dn : OrC → List Int) (mn : MaC → List Int) (w : World) (hg : GlobH w)
   (hn : ∀ i, i < 4 → Row w 1 encStr (h.nm i).a (h.nm i).n (h.nm i).c (nl i)) (hd : Deep w h es ds ms qs scan dn mn)
include hg hn hd
end
end Yd


namespace Yd
open Go Go.RowKit Go.Proofs
attribute [local go_sem] Oper.semAt_some

theorem pairs_len (l : List (Bs × To)) : (l.flatMap (fun p => [p.1, toldT p.2])).length = 2 * l.length := by
 induction l with
 | nil => rfl
 | cons a l ih => rw [List.flatMap_cons, List.length_append, ih, List.length_cons]; simp only [List.length_cons, List.length_nil]; omega
theorem words_count {s : LnS} (h1 : s.names.length ≤ 1000) (h2 : s.vers.length ≤ 1000) : (wordsS s).length ≤ 5000 := by
 have ha : (if formR s.kind.toNat = 108 then [levelT s.lvl.toNat] else if formR s.kind.toNat = 118 then (s.vers.take 1).map toldT else if formR s.kind.toNat = 103 then guardsW s.bits else if formR s.kind.toNat = 109 ∧ s.first = true then [[45]] else ([] : List Bs)).length ≤ 4 := by
   split
   · simp
   · split
     · rw [List.length_map, List.length_take]; omega
     · split
       · exact guardsN_len _ 4
       · split <;> decide
 have hb : (if formR s.kind.toNat = 115 then ((s.names.drop (formN s.kind.toNat).toNat).zip s.vers).flatMap (fun p => [p.1, toldT p.2]) else s.names.drop (formN s.kind.toNat).toNat).length ≤ 2000 := by
   split
   · rw [pairs_len, List.length_zip]; omega
   · rw [List.length_drop]; omega
 have hc : (s.names.take (formN s.kind.toNat).toNat).length ≤ 1000 := by rw [List.length_take]; omega
 simp only [wordsS, List.cons_append, List.length_cons, List.length_append] at *
 omega
structure PtEx (w w1 : World) (l : Nat) (X : World) : Prop where
 b : Below w.heap.size w X
 x1 : Bx X (w.heap.size + 1) #[.string ⟨#[]⟩]
 x2 : Bx X (w.heap.size + 2) #[.int .i64 3]
theorem PtEx.same {w w1 X Y : World} {l : Nat} (s : PtEx w w1 l X) (hs : Same (fun i => i < l ∨ l + 2 ≤ i) X Y) (h3 : w.heap.size + 3 ≤ w1.heap.size) (hl : w1.heap.size + 8 ≤ l) : PtEx w w1 l Y :=
 ⟨hs.below s.b (fun i hi => .inl (by omega)) s.b.size, hs.bx s.x1 (.inl (by omega)), hs.bx s.x2 (.inl (by omega))⟩
section
variable (h : HC) (nl : Nat → List Bs) (es : List EvC) (ds : List OrC) (ms : List MaC) (qs : List Wa) (scan : EvC → List Sn) (dn : OrC → List Int) (mn : MaC → List Int) (w : World) (hg : GlobL w)
   (hn : ∀ i, i < 4 → Row w 1 encStr (h.nm i).a (h.nm i).n (h.nm i).c (nl i)) (hd : Deep w h es ds ms qs scan dn mn)
include hg hn hd
end
end Yd
