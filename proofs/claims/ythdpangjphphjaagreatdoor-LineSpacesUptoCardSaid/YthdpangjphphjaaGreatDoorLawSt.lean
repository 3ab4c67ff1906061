import Derived.Test.YthdpangjphphjaaGreatDoorOwn
import Derived.Test.YthdpangjphphjaaGreatDoorProg
import Derived.Test.YthdpangjphphjaaGreatDoorOrdIn
set_option maxRecDepth 200000
set_option maxHeartbeats 8000000
namespace Yd
open Go Go.RowKit Go.Proofs

structure LnS where
 kind : Int
 names : List Bs
 lvl : Int
 vers : List To
 first : Bool
 bits : Int
 deriving DecidableEq
def LnAt (w : World) (B : Nat) (l : LnC) (s : LnS) : Prop :=
 (l.kind = s.kind ∧ l.lvl = s.lvl ∧ l.first = s.first ∧ l.bits = s.bits ∧ l.nn = s.names.length ∧ l.vn = s.vers.length) ∧
 Own w B 9 1 encStr (.slice l.na l.nn l.nc) s.names ∧ Own w B 67 2 encTo (.slice l.va l.vn l.vc) s.vers
theorem LnAt.below {w w' : World} {B : Nat} {l : LnC} {s : LnS} (h : LnAt w B l s) (hb : Below w.heap.size w w') : LnAt w' B l s := ⟨h.1, h.2.1.below hb rfl, h.2.2.below hb rfl⟩
theorem LnAt.mono {w : World} {B B' : Nat} {l : LnC} {s : LnS} (h : LnAt w B l s) (hB : B' ≤ B) : LnAt w B' l s := ⟨h.1, h.2.1.mono hB, h.2.2.mono hB⟩
def RetLn (s : LnS) (w : World) (e : Ending) (w' : World) : Prop := ∃ l, e = .returned (valLn l) ∧ LnAt w' w.heap.size l s ∧ Below w.heap.size w w'
end Yd


namespace Yd
open Go Go.RowKit Go.Proofs

theorem Bx.grown {X w' : World} {b : Nat} {cs : Array Value} {row : Option Nat} (h : Bx X b cs) (hg : X.grownBy w' row) (hne : row ≠ some b) : Bx w' b cs :=
 h.of_eq hg.size (hg.block b h.2.2 (fun e => hne e.symm))
theorem Bx.new1 {X : World} {b : Nat} {cs : Array Value} {T : TypeId} (h : X.heap.size = b) : Bx (X.alloc (.cells cs T)) b cs := h ▸ Bx.new X cs T
theorem Row.str1 (w : World) (s : Bs) : Row (w.alloc (.cells #[.string ⟨s.toArray⟩] 9)) 1 encStr (some ⟨w.heap.size, 0, none⟩) 1 1 [s] :=
 (Own.new (hc := cInsStr) w w.heap.size 9 #[.string ⟨s.toArray⟩] [s] (Nat.le_refl _) rfl (by simp [maxLen])).row (by simp)

theorem Row.strN {X : World} {g : Nat} (h : X.heap.size = g) (s : Bs) : Row (X.alloc (.cells #[.string ⟨s.toArray⟩] 9)) 1 encStr (some ⟨g, 0, none⟩) 1 1 [s] := h ▸ Row.str1 X s
theorem Row.drew {α : Type} {w : World} {k : Nat} {enc : α → List Value} {a : Option Addr} {n c : Nat} {xs : List α} (h : Row w k enc a n c xs) : Row w.drew k enc a n c xs := h

end Yd


namespace Yd
open Go Go.RowKit Go.Proofs

theorem Same.refl' {A : Nat → Prop} (X : World) : Same A X X := ⟨rfl, rfl, rfl, Nat.le_refl _, fun _ _ _ => rfl⟩
section
variable {α : Type} {enc : α → List Value} {k : Nat} {w w' : World} {B : Nat} {E : TypeId} {v : Value} {xs : List α}
theorem Own.grown (h : Own w B E k enc v xs) {row : Option Nat} (hg : w.grownBy w' row) (hne : ∀ g, v.ownBlock = some g → row ≠ some g) : Own w' B E k enc v xs :=
 h.block fun g hg' => hg.block g (h.lt g hg').2 (fun e => hne g hg' e.symm)
theorem Own.same (h : Own w B E k enc v xs) {A : Nat → Prop} (hs : Same A w w') (hA : ∀ g, v.ownBlock = some g → A g) : Own w' B E k enc v xs := h.block fun g hg => hs.block g (hA g hg) (h.lt g hg).2
theorem Own.tag (h : Own w B E k enc v xs) {g : Nat} (hg : v.ownBlock = some g) : ∃ cs fz, w.heap[g]? = some (.cells cs E fz) := by
 rcases h.2 with ⟨rfl, _⟩ | ⟨g', cap, cur, rfl, _, hh, _⟩
 · cases hg
 · obtain rfl : g' = g := by simpa [Value.ownBlock] using hg
   exact ⟨_, _, hh⟩
theorem Own.apart {β : Type} {enc' : β → List Value} {k' B' : Nat} {E' : TypeId} {v' : Value} {ys : List β} (h : Own w B E k enc v xs) (h' : Own w B' E' k' enc' v' ys) (hE : E ≠ E') : ∀ g, v.ownBlock = some g → v'.ownBlock ≠ some g := fun g hg hg' => by
 obtain ⟨cs, fz, e1⟩ := h.tag hg
 obtain ⟨cs', fz', e2⟩ := h'.tag hg'
 rw [e1] at e2
 cases e2
 exact hE rfl
theorem Own.far' (h : Own w B E k enc v xs) {i : Nat} (hi : i < B ∨ w.heap.size ≤ i) : v.ownBlock ≠ some i := fun e => by
 have := h.lt i e; omega
end
structure Kept (w : World) (l : LnC) (w' : World) : Prop where
 size : w.heap.size ≤ w'.heap.size
 block : ∀ i, i < w.heap.size → some i ≠ (Value.slice l.na l.nn l.nc).ownBlock → some i ≠ (Value.slice l.va l.vn l.vc).ownBlock → w'.heap[i]? = w.heap[i]?
def Grew (w : World) (l l' : LnC) : Prop :=
 (∀ g, (Value.slice l'.na l'.nn l'.nc).ownBlock = some g → (Value.slice l.na l.nn l.nc).ownBlock = some g ∨ w.heap.size ≤ g) ∧ (∀ g, (Value.slice l'.va l'.vn l'.vc).ownBlock = some g → (Value.slice l.va l.vn l.vc).ownBlock = some g ∨ w.heap.size ≤ g)
end Yd


namespace Yd
open Go Go.RowKit Go.Proofs

theorem Bx.setC {X : World} {b : Nat} {cs : Array Value} (h : Bx X b cs) (i : Nat) (hi : i < cs.size) (v : Value) : Bx (X.setCell ⟨b, i, none⟩ v) b (cs.setIfInBounds i v) := by
 refine ⟨fun j => ?_, fun j => by rw [World.frozen?_setCell]; exact h.2.1 j, by have := h.2.2; simpa [World.setCell] using this⟩
 by_cases hj : j = i
 · subst hj
   rw [World.cell?_setCell_same' _ _ _ (by rw [h.1 j, Array.getElem?_eq_getElem hi]; rfl), Array.getElem?_setIfInBounds_self_of_lt hi]
 · rw [World.cell?_setCell_other _ _ _ _ (fun e => by cases e; exact hj rfl), h.1 j, Array.getElem?_setIfInBounds_ne (fun e => hj e.symm)]
theorem Row.toN {X : World} {g : Nat} (h : X.heap.size = g) (s : To) : Row (X.alloc (.cells #[.string ⟨s.name.toArray⟩, .int .i64 s.k] 67)) 2 encTo (some ⟨g, 0, none⟩) 1 1 [s] :=
 h ▸ (Own.new (hc := cInsTo) X X.heap.size 67 #[.string ⟨s.name.toArray⟩, .int .i64 s.k] [s] (Nat.le_refl _) rfl (by simp [maxLen])).row (by simp)
theorem heapA {X : World} {b : Nat} {o' : Obj} (o : Obj) (h : X.heap[b]? = some o') : (X.alloc o).heap[b]? = some o' := (Below.heap_alloc _ _ _ (Array.getElem?_eq_some_iff.1 h).1).trans h
end Yd


namespace Yd
open Go Go.RowKit Go.Proofs

theorem heap_set_same {w : World} {b i : Nat} {cs : Array Value} {T : TypeId} {fr : Nat × Nat} (hb : w.heap[b]? = some (.cells cs T fr)) (v : Value) : (w.setCell ⟨b, i, none⟩ v).heap[b]? = some (.cells (cs.setIfInBounds i v) T fr) := by
 simp [World.setCell, Array.getElem?_modify, hb]
section
variable {α : Type} {enc : α → List Value} {k : Nat}
theorem flat_set [hc : Cells enc k] : ∀ (xs : List α) (i j : Nat) (x y : α) (v : Value), xs[i]? = some x → j < k → (enc x).set j v = enc y → (xs.flatMap enc).set (i * k + j) v = (xs.set i y).flatMap enc
 | [], i, j, x, y, v, h, _, _ => by simp at h
 | a :: xs, 0, j, x, y, v, h, hj, he => by
   obtain rfl : a = x := by simpa using h
   rw [List.flatMap_cons, List.set_cons_zero, List.flatMap_cons, Nat.zero_mul, Nat.zero_add, List.set_append_left _ _ (by rw [hc.len]; exact hj), he]
 | a :: xs, i + 1, j, x, y, v, h, hj, he => by
   have ih := flat_set xs i j x y v (by simpa using h) hj he
   rw [List.flatMap_cons, List.set_cons_succ, List.flatMap_cons, List.set_append_right _ _ (by rw [hc.len, Nat.succ_mul]; omega), hc.len, ← ih]
   congr 2
   rw [Nat.succ_mul]; omega
theorem Own.put [hc : Cells enc k] {w : World} {B g n c i j : Nat} {E : TypeId} {xs : List α} {x y : α} {v : Value} (h : Own w B E k enc (.slice (some ⟨g, 0, none⟩) n c) xs) (hx : xs[i]? = some x) (hj : j < k) (he : (enc x).set j v = enc y) :
   Own (w.setCell ⟨g, i * k + j, none⟩ v) B E k enc (.slice (some ⟨g, 0, none⟩) n c) (xs.set i y) := by
 obtain ⟨h1, h2⟩ := h
 refine ⟨flat_len _, ?_⟩
 rcases h2 with ⟨e, _⟩ | ⟨g', cap, cur, e, hB, hh, hn, hm, hs, ht⟩
 · cases e
 · injection e with e1 e2 e3
   injection e1 with e1
   injection e1 with e1
   subst e1
   refine .inr ⟨g, cap, cur.setIfInBounds (i * k + j) v, ?_, hB, heap_set_same hh v, by rw [List.length_set]; exact hn, hm, by rw [Array.size_setIfInBounds]; exact hs, ?_⟩
   · rw [List.length_set, e2, e3]
   · rw [List.length_set, Array.toList_setIfInBounds, List.take_set, ht]
     exact flat_set xs i j x y v hx hj he
end
end Yd


namespace Yd
open Go Go.RowKit Go.Proofs

def Lst {β : Type} (w X : World) (T : TypeId) (k : Nat) (enc : β → List Value) (s : Sl) (L : List β) : Prop :=
 L.length ≤ 2000000 ∧ (Row w k enc s.a s.n s.c L ∨ Own X w.heap.size T k enc s.v L)
section
variable {β : Type} {w X Y : World} {T : TypeId} {k : Nat} {enc : β → List Value} {s : Sl} {L : List β}
theorem Lst.same (h : Lst w X T k enc s L) {g : Nat} {cs : Array Value} {T' : TypeId} {fz : Nat × Nat} (hg : X.heap[g]? = some (.cells cs T' fz)) (hT : T ≠ T') (hs : Same (fun i => i ≠ g) X Y) : Lst w Y T k enc s L := by
 obtain ⟨hL, h | h⟩ := h
 · exact ⟨hL, .inl h⟩
 · refine ⟨hL, .inr (h.same hs (fun i hi e => ?_))⟩
   subst e
   obtain ⟨cs', fz', e'⟩ := h.tag hi
   rw [hg] at e'
   cases e'
   exact hT rfl
theorem Lst.below (h : Lst w X T k enc s L) (hb : Below X.heap.size X Y) : Lst w Y T k enc s L := by
 obtain ⟨hL, h | h⟩ := h
 · exact ⟨hL, .inl h⟩
 · exact ⟨hL, .inr (h.below hb rfl)⟩
theorem Lst.row [hc : Cells enc k] (h : Lst w X T k enc s L) (hb : Below w.heap.size w X) : Row X k enc s.a s.n s.c L := by
 obtain ⟨hL, h | h⟩ := h
 · exact h.below hb rfl
 · obtain ⟨a, c, e, _, _⟩ := h.shape
   obtain ⟨sa, sn, sc⟩ := s
   injection e with e1 e2 e3
   subst e1 e2 e3
   exact h.row (by omega)
theorem Lst.own (h : Own X w.heap.size T k enc s.v L) (hL : L.length ≤ 2000000) : Lst w X T k enc s L := ⟨hL, .inr h⟩
end
def Sls {α β : Type} (w X : World) (T : TypeId) (k : Nat) (enc : β → List Value) (sl : α → Sl) (xs : List α) (Ls : List (List β)) : Prop :=
 xs.length = Ls.length ∧ ∀ (i : Nat) (x : α) (L : List β), xs[i]? = some x → Ls[i]? = some L → Lst w X T k enc (sl x) L
section
variable {α β : Type} {w X Y : World} {T : TypeId} {k : Nat} {enc : β → List Value} {sl : α → Sl} {xs : List α} {Ls : List (List β)}
theorem Sls.same (h : Sls w X T k enc sl xs Ls) {g : Nat} {cs : Array Value} {T' : TypeId} {fz : Nat × Nat} (hg : X.heap[g]? = some (.cells cs T' fz)) (hT : T ≠ T') (hs : Same (fun i => i ≠ g) X Y) : Sls w Y T k enc sl xs Ls :=
 ⟨h.1, fun i x L h1 h2 => (h.2 i x L h1 h2).same hg hT hs⟩
theorem Sls.below (h : Sls w X T k enc sl xs Ls) (hb : Below X.heap.size X Y) : Sls w Y T k enc sl xs Ls := ⟨h.1, fun i x L h1 h2 => (h.2 i x L h1 h2).below hb⟩
theorem Sls.set (h : Sls w X T k enc sl xs Ls) {i : Nat} {y : α} {L : List β} (hL : Ls[i]? = some L) (hy : Lst w X T k enc (sl y) L) : Sls w X T k enc sl (xs.set i y) Ls := by
 refine ⟨by rw [List.length_set]; exact h.1, fun j x L' h1 h2 => ?_⟩
 rw [List.getElem?_set] at h1
 split at h1
 · rename_i e
   subst e
   split at h1
   · injection h1 with h1
     subst h1
     rw [hL] at h2
     injection h2 with h2
     subst h2
     exact hy
   · cases h1
 · exact h.2 j x L' h1 h2
end
@[reducible] def EvC.sl (x : EvC) : Sl := ⟨x.sa, x.sn, x.sc⟩
@[reducible] def OrC.sl (x : OrC) : Sl := ⟨x.sa, x.sn, x.sc⟩
@[reducible] def MaC.sl (x : MaC) : Sl := ⟨x.sa, x.sn, x.sc⟩
@[reducible] def EvC.wi (x : EvC) (s : Sl) : EvC := { x with sa := s.a, sn := s.n, sc := s.c }
@[reducible] def OrC.wi (x : OrC) (s : Sl) : OrC := { x with sa := s.a, sn := s.n, sc := s.c }
@[reducible] def MaC.wi (x : MaC) (s : Sl) : MaC := { x with sa := s.a, sn := s.n, sc := s.c }
def EvC.base (x : EvC) : EvC := x.wi ⟨none, 0, 0⟩
def OrC.base (x : OrC) : OrC := x.wi ⟨none, 0, 0⟩
def MaC.base (x : MaC) : MaC := x.wi ⟨none, 0, 0⟩
structure Cont where
 nl : Nat → List Bs
 E : List EvC
 SE : List (List Sn)
 D : List OrC
 SD : List (List Int)
 M : List MaC
 SM : List (List Int)
 Q : List Wa
section
variable {w X Y : World} {h : HC} {es : List EvC} {ds : List OrC} {ms : List MaC} {c : Cont}
end
section
variable {w X Y : World} {h : HC} {es : List EvC} {ds : List OrC} {ms : List MaC} {c : Cont}
end
end Yd
