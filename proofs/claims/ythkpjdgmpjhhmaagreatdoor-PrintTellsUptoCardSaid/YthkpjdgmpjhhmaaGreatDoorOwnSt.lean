import Derived.Test.YthkpjdgmpjhhmaaGreatDoorTellB
import Derived.Test.YthkpjdgmpjhhmaaGreatDoorProg
import Derived.Test.YthkpjdgmpjhhmaaGreatDoorShaped
set_option maxRecDepth 200000
set_option maxHeartbeats 8000000
namespace Yd
open Go Go.RowKit Go.Proofs

theorem heap_set_same {w : World} {b i : Nat} {cs : Array Value} {T : TypeId} {fr : Nat × Nat} (hb : w.heap[b]? = some (.cells cs T fr)) (v : Value) : (w.setCell ⟨b, i, none⟩ v).heap[b]? = some (.cells (cs.setIfInBounds i v) T fr) := by
 simp [World.setCell, Array.getElem?_modify, hb]
section
variable {α : Type} {enc : α → List Value} {k : Nat}
theorem flat_set [hc : Cells enc k] : ∀ (xs : List α) (i j : Nat) (x y : α) (v : Value), xs[i]? = some x → j < k → (enc x).set j v = enc y → (xs.flatMap enc).set (i * k + j) v = (xs.set i y).flatMap enc
 | [], i, j, x, y, v, h, _, _ => by simp at h
 | a :: xs, 0, j, x, y, v, h, hj, he => by
   obtain rfl : a = x := by simpa using h
   rw [List.flatMap_cons, List.set_cons_zero, List.flatMap_cons, Nat.zero_mul, Nat.zero_add, List.set_append_left _ _ (by rw [hc.len]; exact hj), he]
 | a :: xs, i + 1, j, x, y, v, h, hj, he => by
   have ih := flat_set xs i j x y v (by simpa using h) hj he
   rw [List.flatMap_cons, List.set_cons_succ, List.flatMap_cons, List.set_append_right _ _ (by rw [hc.len, Nat.succ_mul]; omega), hc.len, ← ih]
   congr 2
   rw [Nat.succ_mul]; omega
theorem Own.put [hc : Cells enc k] {w : World} {B g n c i j : Nat} {E : TypeId} {xs : List α} {x y : α} {v : Value} (h : Own w B E k enc (.slice (some ⟨g, 0, none⟩) n c) xs) (hx : xs[i]? = some x) (hj : j < k) (he : (enc x).set j v = enc y) :
   Own (w.setCell ⟨g, i * k + j, none⟩ v) B E k enc (.slice (some ⟨g, 0, none⟩) n c) (xs.set i y) := by
 obtain ⟨h1, h2⟩ := h
 refine ⟨flat_len _, ?_⟩
 rcases h2 with ⟨e, _⟩ | ⟨g', cap, cur, e, hB, hh, hn, hm, hs, ht⟩
 · cases e
 · injection e with e1 e2 e3
   injection e1 with e1
   injection e1 with e1
   subst e1
   refine .inr ⟨g, cap, cur.setIfInBounds (i * k + j) v, ?_, hB, heap_set_same hh v, by rw [List.length_set]; exact hn, hm, by rw [Array.size_setIfInBounds]; exact hs, ?_⟩
   · rw [List.length_set, e2, e3]
   · rw [List.length_set, Array.toList_setIfInBounds, List.take_set, ht]
     exact flat_set xs i j x y v hx hj he
end
end Yd


namespace Yd
open Go Go.RowKit Go.Proofs

theorem Row.uniq {α : Type} {enc : α → List Value} {k : Nat} [hc : Cells enc k] (hinj : ∀ x y, enc x = enc y → x = y) {w : World} {a : Option Addr} {n c : Nat} {xs ys : List α} (h : Row w k enc a n c xs) (h' : Row w k enc a n c ys) : xs = ys := by
 apply List.ext_getElem?
 intro i
 rcases Nat.lt_or_ge i n with hi | hi
 · obtain ⟨x, b, o, hx, ha, hx'⟩ := h.at_ hi
   obtain ⟨y, b', o', hy, ha', hy'⟩ := h'.at_ hi
   rw [ha] at ha'
   injection ha' with ha'
   injection ha' with e1 e2
   subst e1 e2
   rw [hx, hy]
   refine congrArg some (hinj x y (List.ext_getElem? fun j => ?_))
   have hlx := hc.len x; have hly := hc.len y
   rcases Nat.lt_or_ge j k with hj | hj
   · have h1 : (enc x)[j]? = some ((enc x)[j]'(by omega)) := List.getElem?_eq_getElem _
     have h2 : (enc y)[j]? = some ((enc y)[j]'(by omega)) := List.getElem?_eq_getElem _
     have g1 := hx' j _ h1
     have g2 := hy' j _ h2
     rw [h1, h2, ← g1, ← g2]
   · rw [List.getElem?_eq_none (by omega), List.getElem?_eq_none (by omega)]
 · rw [List.getElem?_eq_none (by rw [h.len]; omega), List.getElem?_eq_none (by rw [h'.len]; omega)]

def Lst {β : Type} (w X : World) (T : TypeId) (k : Nat) (enc : β → List Value) (s : Sl) (L : List β) : Prop :=
 L.length ≤ 2000000 ∧ (Row w k enc s.a s.n s.c L ∨ Own X w.heap.size T k enc s.v L)
section
variable {β : Type} {w X Y : World} {T : TypeId} {k : Nat} {enc : β → List Value} {s : Sl} {L : List β}
theorem Lst.same (h : Lst w X T k enc s L) {g : Nat} {cs : Array Value} {T' : TypeId} {fz : Nat × Nat} (hg : X.heap[g]? = some (.cells cs T' fz)) (hT : T ≠ T') (hs : Same (fun i => i ≠ g) X Y) : Lst w Y T k enc s L := by
 obtain ⟨hL, h | h⟩ := h
 · exact ⟨hL, .inl h⟩
 · refine ⟨hL, .inr (h.same hs (fun i hi e => ?_))⟩
   subst e
   obtain ⟨cs', fz', e'⟩ := h.tag hi
   rw [hg] at e'
   cases e'
   exact hT rfl
theorem Lst.below (h : Lst w X T k enc s L) (hb : Below X.heap.size X Y) : Lst w Y T k enc s L := by
 obtain ⟨hL, h | h⟩ := h
 · exact ⟨hL, .inl h⟩
 · exact ⟨hL, .inr (h.below hb rfl)⟩
theorem Lst.row [hc : Cells enc k] (h : Lst w X T k enc s L) (hb : Below w.heap.size w X) : Row X k enc s.a s.n s.c L := by
 obtain ⟨hL, h | h⟩ := h
 · exact h.below hb rfl
 · obtain ⟨a, c, e, _, _⟩ := h.shape
   obtain ⟨sa, sn, sc⟩ := s
   injection e with e1 e2 e3
   subst e1 e2 e3
   exact h.row (by omega)
theorem Lst.own (h : Own X w.heap.size T k enc s.v L) (hL : L.length ≤ 2000000) : Lst w X T k enc s L := ⟨hL, .inr h⟩
end
theorem Own.apartBox {β : Type} {X Y : World} {B : Nat} {T T' : TypeId} {k : Nat} {enc : β → List Value} {v : Value} {L : List β} (h : Own X B T k enc v L) {g : Nat} (hg : ∃ cs fz, X.heap[g]? = some (.cells cs T' fz)) (hT : T ≠ T') (hs : Same (fun i => i ≠ g) X Y) : Own Y B T k enc v L := by
 obtain ⟨cs, fz, hg⟩ := hg
 exact h.same hs (fun i hi e => by
   subst e
   obtain ⟨cs', fz', e'⟩ := h.tag hi
   rw [hg] at e'
   cases e'
   exact hT rfl)
def Sls {α β : Type} (w X : World) (T : TypeId) (k : Nat) (enc : β → List Value) (sl : α → Sl) (xs : List α) (Ls : List (List β)) : Prop :=
 xs.length = Ls.length ∧ ∀ (i : Nat) (x : α) (L : List β), xs[i]? = some x → Ls[i]? = some L → Lst w X T k enc (sl x) L
section
variable {α β : Type} {w X Y : World} {T : TypeId} {k : Nat} {enc : β → List Value} {sl : α → Sl} {xs : List α} {Ls : List (List β)}
theorem Sls.same (h : Sls w X T k enc sl xs Ls) {g : Nat} {cs : Array Value} {T' : TypeId} {fz : Nat × Nat} (hg : X.heap[g]? = some (.cells cs T' fz)) (hT : T ≠ T') (hs : Same (fun i => i ≠ g) X Y) : Sls w Y T k enc sl xs Ls :=
 ⟨h.1, fun i x L h1 h2 => (h.2 i x L h1 h2).same hg hT hs⟩
theorem Sls.below (h : Sls w X T k enc sl xs Ls) (hb : Below X.heap.size X Y) : Sls w Y T k enc sl xs Ls := ⟨h.1, fun i x L h1 h2 => (h.2 i x L h1 h2).below hb⟩
theorem Sls.set (h : Sls w X T k enc sl xs Ls) {i : Nat} {y : α} {L : List β} (hL : Ls[i]? = some L) (hy : Lst w X T k enc (sl y) L) : Sls w X T k enc sl (xs.set i y) Ls := by
 refine ⟨by rw [List.length_set]; exact h.1, fun j x L' h1 h2 => ?_⟩
 rw [List.getElem?_set] at h1
 split at h1
 · rename_i e
   subst e
   split at h1
   · injection h1 with h1
     subst h1
     rw [hL] at h2
     injection h2 with h2
     subst h2
     exact hy
   · cases h1
 · exact h.2 j x L' h1 h2
theorem Sls.rows [hc : Cells enc k] (h : Sls w X T k enc sl xs Ls) (hb : Below w.heap.size w X) (i : Nat) (x : α) (hx : xs[i]? = some x) : ∃ L, Ls[i]? = some L ∧ Row X k enc (sl x).a (sl x).n (sl x).c L := by
 have hi : i < Ls.length := by rw [← h.1]; exact (List.getElem?_eq_some_iff.1 hx).1
 exact ⟨Ls[i], List.getElem?_eq_getElem hi, (h.2 i x _ hx (List.getElem?_eq_getElem hi)).row hb⟩
end
@[reducible] def EvC.sl (x : EvC) : Sl := ⟨x.sa, x.sn, x.sc⟩
@[reducible] def OrC.sl (x : OrC) : Sl := ⟨x.sa, x.sn, x.sc⟩
@[reducible] def MaC.sl (x : MaC) : Sl := ⟨x.sa, x.sn, x.sc⟩
@[reducible] def EvC.wi (x : EvC) (s : Sl) : EvC := { x with sa := s.a, sn := s.n, sc := s.c }
@[reducible] def OrC.wi (x : OrC) (s : Sl) : OrC := { x with sa := s.a, sn := s.n, sc := s.c }
@[reducible] def MaC.wi (x : MaC) (s : Sl) : MaC := { x with sa := s.a, sn := s.n, sc := s.c }
def EvC.base (x : EvC) : EvC := x.wi ⟨none, 0, 0⟩
def OrC.base (x : OrC) : OrC := x.wi ⟨none, 0, 0⟩
def MaC.base (x : MaC) : MaC := x.wi ⟨none, 0, 0⟩
theorem map_set_base {α γ : Type} {f : α → γ} {xs : List α} {i : Nat} {x y : α} (hx : xs[i]? = some x) (he : f y = f x) : (xs.set i y).map f = xs.map f := by
 apply List.ext_getElem?
 intro j
 rw [List.getElem?_map, List.getElem?_map, List.getElem?_set]
 split
 · rename_i e
   subst e
   rw [hx, if_pos (List.getElem?_eq_some_iff.1 hx).1]
   simp [he]
 · rfl

structure Cont where
 nl : Nat → List Bs
 E : List EvC
 SE : List (List Sn)
 D : List OrC
 SD : List (List Int)
 M : List MaC
 SM : List (List Int)
 Q : List Wa
structure St (w X : World) (h : HC) (es : List EvC) (ds : List OrC) (ms : List MaC) (c : Cont) : Prop where
 b : Below w.heap.size w X
 bx : Bx X w.heap.size (cellsH h)
 tg : ∃ cs fz, X.heap[w.heap.size]? = some (.cells cs 28 fz)
 b2 : Bx X (w.heap.size + 1) (Array.replicate 8 (.slice none 0 0))
 t2 : ∃ cs fz, X.heap[w.heap.size + 1]? = some (.cells cs 28 fz)
 e : Lst w X 49 9 encEv h.e es
 d : Lst w X 72 2 encOr h.d ds
 m : Lst w X 79 4 encMa h.m ms
 q : Lst w X 82 2 encWa h.w c.Q
 n : ∀ i, i < 4 → Lst w X 9 1 encStr (h.nm i) (c.nl i)
 be : es.map EvC.base = c.E
 bd : ds.map OrC.base = c.D
 bm : ms.map MaC.base = c.M
 se : Sls w X 69 3 encSn EvC.sl es c.SE
 sd : Sls w X 3 1 encInt OrC.sl ds c.SD
 sm : Sls w X 3 1 encInt MaC.sl ms c.SM
section
variable {w X Y : World} {h : HC} {es : List EvC} {ds : List OrC} {ms : List MaC} {c : Cont}
theorem St.below (s : St w X h es ds ms c) (hb : Below X.heap.size X Y) : St w Y h es ds ms c := by
 obtain ⟨cs, fz, ht⟩ := s.tg
 obtain ⟨cs', fz', ht'⟩ := s.t2
 exact ⟨s.b.trans (hb.mono s.b.size), s.bx.keep hb, ⟨cs, fz, (hb.block _ s.bx.2.2).trans ht⟩, s.b2.keep hb, ⟨cs', fz', (hb.block _ s.b2.2.2).trans ht'⟩, s.e.below hb, s.d.below hb, s.m.below hb, s.q.below hb, fun i hi => (s.n i hi).below hb, s.be, s.bd, s.bm, s.se.below hb, s.sd.below hb, s.sm.below hb⟩
theorem St.drew (s : St w X h es ds ms c) : St w X.drew h es ds ms c := s.below (Below.refl _ _).drew
theorem sameBox (_s : St w X h es ds ms c) (j : Nat) (v : Value) : Same (fun i => i ≠ w.heap.size) X (X.setCell ⟨w.heap.size, j, none⟩ v) := (Same.refl' X).setTail (fun hn => hn rfl)
theorem below_box (s : St w X h es ds ms c) (j : Nat) (v : Value) : Below w.heap.size w (X.setCell ⟨w.heap.size, j, none⟩ v) := (sameBox s j v).below s.b (fun i hi => by omega) s.b.size
theorem St.boxE (s : St w X h es ds ms c) (sl : Sl) (es' : List EvC) {E' SE'} (h1 : Lst w X 49 9 encEv sl es') (h2 : es'.map EvC.base = E') (h3 : Sls w X 69 3 encSn EvC.sl es' SE') :
   St w (X.setCell ⟨w.heap.size, 4, none⟩ sl.v) { h with e := sl } es' ds ms { c with E := E', SE := SE' } := by
 obtain ⟨cs, fz, ht⟩ := s.tg
 have hs := sameBox s 4 sl.v
 exact ⟨below_box s _ _, s.bx.setC 4 (by simp) _, ⟨_, _, heap_set_same ht _⟩, hs.bx s.b2 (by omega), ⟨_, _, (hs.block _ (by omega) s.b2.2.2).trans s.t2.choose_spec.choose_spec⟩, h1.same ht (by decide) hs, s.d.same ht (by decide) hs, s.m.same ht (by decide) hs, s.q.same ht (by decide) hs, fun i hi => (show Lst w X 9 1 encStr (({ h with e := sl } : HC).nm i) (c.nl i) from (match i, hi with | 0, _ => s.n 0 (by decide) | 1, _ => s.n 1 (by decide) | 2, _ => s.n 2 (by decide) | 3, _ => s.n 3 (by decide))).same ht (by decide) hs, h2, s.bd, s.bm, h3.same ht (by decide) hs, s.sd.same ht (by decide) hs, s.sm.same ht (by decide) hs⟩
theorem St.putE (s : St w X h es ds ms c) {g i : Nat} {x : EvC} {L} (ho : Own X w.heap.size 49 9 encEv h.e.v es) (ha : h.e.a = some ⟨g, 0, none⟩) (hx : es[i]? = some x) (hL : c.SE[i]? = some L) (sl : Sl) (hy : Lst w X 69 3 encSn sl L) :
   St w (X.setCell ⟨g, i * 9 + 8, none⟩ sl.v) h (es.set i (x.wi sl)) ds ms c ∧ Own (X.setCell ⟨g, i * 9 + 8, none⟩ sl.v) w.heap.size 49 9 encEv h.e.v (es.set i (x.wi sl)) := by
 have hob : h.e.v.ownBlock = some g := by simp only [Sl.v, ha]; rfl
 obtain ⟨cs, fz, ht⟩ := ho.tag hob
 have hlt := ho.lt g hob
 have hs : Same (fun i => i ≠ g) X (X.setCell ⟨g, i * 9 + 8, none⟩ sl.v) := (Same.refl' X).setTail (fun hn => hn rfl)
 have ho' : Own (X.setCell ⟨g, i * 9 + 8, none⟩ sl.v) w.heap.size 49 9 encEv h.e.v (es.set i (x.wi sl)) := by
   have e : h.e.v = .slice (some ⟨g, 0, none⟩) h.e.n h.e.c := by simp only [Sl.v, ha]
   rw [e] at ho ⊢
   exact ho.put hx (by decide) rfl
 obtain ⟨cs0, fz0, ht0⟩ := s.tg
 have hg : w.heap.size ≠ g := fun e => by
   rw [e, ht] at ht0
   cases ht0
 obtain ⟨cs2, fz2, ht2⟩ := s.t2
 have hg2 : w.heap.size + 1 ≠ g := fun e => by
   rw [e, ht] at ht2
   cases ht2
 exact ⟨⟨hs.below s.b (fun i hi => by omega) s.b.size, hs.bx s.bx hg, ⟨_, _, (hs.block _ hg s.bx.2.2).trans ht0⟩, hs.bx s.b2 hg2, ⟨_, _, (hs.block _ hg2 s.b2.2.2).trans ht2⟩, ⟨by rw [List.length_set]; exact s.e.1, .inr ho'⟩, s.d.same ht (by decide) hs, s.m.same ht (by decide) hs, s.q.same ht (by decide) hs, fun j hj => (s.n j hj).same ht (by decide) hs, (map_set_base (f := EvC.base) (y := x.wi sl) hx rfl).trans s.be, s.bd, s.bm, (s.se.same ht (by decide) hs).set hL (hy.same ht (by decide) hs), s.sd.same ht (by decide) hs, s.sm.same ht (by decide) hs⟩, ho'⟩
theorem St.boxD (s : St w X h es ds ms c) (sl : Sl) (ds' : List OrC) {D' SD'} (h1 : Lst w X 72 2 encOr sl ds') (h2 : ds'.map OrC.base = D') (h3 : Sls w X 3 1 encInt OrC.sl ds' SD') :
   St w (X.setCell ⟨w.heap.size, 5, none⟩ sl.v) { h with d := sl } es ds' ms { c with D := D', SD := SD' } := by
 obtain ⟨cs, fz, ht⟩ := s.tg
 have hs := sameBox s 5 sl.v
 exact ⟨below_box s _ _, s.bx.setC 5 (by simp) _, ⟨_, _, heap_set_same ht _⟩, hs.bx s.b2 (by omega), ⟨_, _, (hs.block _ (by omega) s.b2.2.2).trans s.t2.choose_spec.choose_spec⟩, s.e.same ht (by decide) hs, h1.same ht (by decide) hs, s.m.same ht (by decide) hs, s.q.same ht (by decide) hs, fun i hi => (show Lst w X 9 1 encStr (({ h with d := sl } : HC).nm i) (c.nl i) from (match i, hi with | 0, _ => s.n 0 (by decide) | 1, _ => s.n 1 (by decide) | 2, _ => s.n 2 (by decide) | 3, _ => s.n 3 (by decide))).same ht (by decide) hs, s.be, h2, s.bm, s.se.same ht (by decide) hs, h3.same ht (by decide) hs, s.sm.same ht (by decide) hs⟩
theorem St.putD (s : St w X h es ds ms c) {g i : Nat} {x : OrC} {L} (ho : Own X w.heap.size 72 2 encOr h.d.v ds) (ha : h.d.a = some ⟨g, 0, none⟩) (hx : ds[i]? = some x) (hL : c.SD[i]? = some L) (sl : Sl) (hy : Lst w X 3 1 encInt sl L) :
   St w (X.setCell ⟨g, i * 2 + 1, none⟩ sl.v) h es (ds.set i (x.wi sl)) ms c ∧ Own (X.setCell ⟨g, i * 2 + 1, none⟩ sl.v) w.heap.size 72 2 encOr h.d.v (ds.set i (x.wi sl)) := by
 have hob : h.d.v.ownBlock = some g := by simp only [Sl.v, ha]; rfl
 obtain ⟨cs, fz, ht⟩ := ho.tag hob
 have hlt := ho.lt g hob
 have hs : Same (fun i => i ≠ g) X (X.setCell ⟨g, i * 2 + 1, none⟩ sl.v) := (Same.refl' X).setTail (fun hn => hn rfl)
 have ho' : Own (X.setCell ⟨g, i * 2 + 1, none⟩ sl.v) w.heap.size 72 2 encOr h.d.v (ds.set i (x.wi sl)) := by
   have e : h.d.v = .slice (some ⟨g, 0, none⟩) h.d.n h.d.c := by simp only [Sl.v, ha]
   rw [e] at ho ⊢
   exact ho.put hx (by decide) rfl
 obtain ⟨cs0, fz0, ht0⟩ := s.tg
 have hg : w.heap.size ≠ g := fun e => by
   rw [e, ht] at ht0
   cases ht0
 obtain ⟨cs2, fz2, ht2⟩ := s.t2
 have hg2 : w.heap.size + 1 ≠ g := fun e => by
   rw [e, ht] at ht2
   cases ht2
 exact ⟨⟨hs.below s.b (fun i hi => by omega) s.b.size, hs.bx s.bx hg, ⟨_, _, (hs.block _ hg s.bx.2.2).trans ht0⟩, hs.bx s.b2 hg2, ⟨_, _, (hs.block _ hg2 s.b2.2.2).trans ht2⟩, s.e.same ht (by decide) hs, ⟨by rw [List.length_set]; exact s.d.1, .inr ho'⟩, s.m.same ht (by decide) hs, s.q.same ht (by decide) hs, fun j hj => (s.n j hj).same ht (by decide) hs, s.be, (map_set_base (f := OrC.base) (y := x.wi sl) hx rfl).trans s.bd, s.bm, s.se.same ht (by decide) hs, (s.sd.same ht (by decide) hs).set hL (hy.same ht (by decide) hs), s.sm.same ht (by decide) hs⟩, ho'⟩
theorem St.boxM (s : St w X h es ds ms c) (sl : Sl) (ms' : List MaC) {M' SM'} (h1 : Lst w X 79 4 encMa sl ms') (h2 : ms'.map MaC.base = M') (h3 : Sls w X 3 1 encInt MaC.sl ms' SM') :
   St w (X.setCell ⟨w.heap.size, 6, none⟩ sl.v) { h with m := sl } es ds ms' { c with M := M', SM := SM' } := by
 obtain ⟨cs, fz, ht⟩ := s.tg
 have hs := sameBox s 6 sl.v
 exact ⟨below_box s _ _, s.bx.setC 6 (by simp) _, ⟨_, _, heap_set_same ht _⟩, hs.bx s.b2 (by omega), ⟨_, _, (hs.block _ (by omega) s.b2.2.2).trans s.t2.choose_spec.choose_spec⟩, s.e.same ht (by decide) hs, s.d.same ht (by decide) hs, h1.same ht (by decide) hs, s.q.same ht (by decide) hs, fun i hi => (show Lst w X 9 1 encStr (({ h with m := sl } : HC).nm i) (c.nl i) from (match i, hi with | 0, _ => s.n 0 (by decide) | 1, _ => s.n 1 (by decide) | 2, _ => s.n 2 (by decide) | 3, _ => s.n 3 (by decide))).same ht (by decide) hs, s.be, s.bd, h2, s.se.same ht (by decide) hs, s.sd.same ht (by decide) hs, h3.same ht (by decide) hs⟩
theorem St.putM (s : St w X h es ds ms c) {g i : Nat} {x : MaC} {L} (ho : Own X w.heap.size 79 4 encMa h.m.v ms) (ha : h.m.a = some ⟨g, 0, none⟩) (hx : ms[i]? = some x) (hL : c.SM[i]? = some L) (sl : Sl) (hy : Lst w X 3 1 encInt sl L) :
   St w (X.setCell ⟨g, i * 4 + 3, none⟩ sl.v) h es ds (ms.set i (x.wi sl)) c ∧ Own (X.setCell ⟨g, i * 4 + 3, none⟩ sl.v) w.heap.size 79 4 encMa h.m.v (ms.set i (x.wi sl)) := by
 have hob : h.m.v.ownBlock = some g := by simp only [Sl.v, ha]; rfl
 obtain ⟨cs, fz, ht⟩ := ho.tag hob
 have hlt := ho.lt g hob
 have hs : Same (fun i => i ≠ g) X (X.setCell ⟨g, i * 4 + 3, none⟩ sl.v) := (Same.refl' X).setTail (fun hn => hn rfl)
 have ho' : Own (X.setCell ⟨g, i * 4 + 3, none⟩ sl.v) w.heap.size 79 4 encMa h.m.v (ms.set i (x.wi sl)) := by
   have e : h.m.v = .slice (some ⟨g, 0, none⟩) h.m.n h.m.c := by simp only [Sl.v, ha]
   rw [e] at ho ⊢
   exact ho.put hx (by decide) rfl
 obtain ⟨cs0, fz0, ht0⟩ := s.tg
 have hg : w.heap.size ≠ g := fun e => by
   rw [e, ht] at ht0
   cases ht0
 obtain ⟨cs2, fz2, ht2⟩ := s.t2
 have hg2 : w.heap.size + 1 ≠ g := fun e => by
   rw [e, ht] at ht2
   cases ht2
 exact ⟨⟨hs.below s.b (fun i hi => by omega) s.b.size, hs.bx s.bx hg, ⟨_, _, (hs.block _ hg s.bx.2.2).trans ht0⟩, hs.bx s.b2 hg2, ⟨_, _, (hs.block _ hg2 s.b2.2.2).trans ht2⟩, s.e.same ht (by decide) hs, s.d.same ht (by decide) hs, ⟨by rw [List.length_set]; exact s.m.1, .inr ho'⟩, s.q.same ht (by decide) hs, fun j hj => (s.n j hj).same ht (by decide) hs, s.be, s.bd, (map_set_base (f := MaC.base) (y := x.wi sl) hx rfl).trans s.bm, s.se.same ht (by decide) hs, s.sd.same ht (by decide) hs, (s.sm.same ht (by decide) hs).set hL (hy.same ht (by decide) hs)⟩, ho'⟩
theorem St.boxQ (s : St w X h es ds ms c) (sl : Sl) {Q'} (h1 : Lst w X 82 2 encWa sl Q') :
   St w (X.setCell ⟨w.heap.size, 7, none⟩ sl.v) { h with w := sl } es ds ms { c with Q := Q' } := by
 obtain ⟨cs, fz, ht⟩ := s.tg
 have hs := sameBox s 7 sl.v
 exact ⟨below_box s _ _, s.bx.setC 7 (by simp) _, ⟨_, _, heap_set_same ht _⟩, hs.bx s.b2 (by omega), ⟨_, _, (hs.block _ (by omega) s.b2.2.2).trans s.t2.choose_spec.choose_spec⟩, s.e.same ht (by decide) hs, s.d.same ht (by decide) hs, s.m.same ht (by decide) hs, h1.same ht (by decide) hs, fun i hi => (show Lst w X 9 1 encStr (({ h with w := sl } : HC).nm i) (c.nl i) from (match i, hi with | 0, _ => s.n 0 (by decide) | 1, _ => s.n 1 (by decide) | 2, _ => s.n 2 (by decide) | 3, _ => s.n 3 (by decide))).same ht (by decide) hs, s.be, s.bd, s.bm, s.se.same ht (by decide) hs, s.sd.same ht (by decide) hs, s.sm.same ht (by decide) hs⟩
theorem St.boxN0 (s : St w X h es ds ms c) (sl : Sl) (h1 : Lst w X 9 1 encStr sl (c.nl 0)) :
   St w (X.setCell ⟨w.heap.size, 0, none⟩ sl.v) { h with t := sl } es ds ms c := by
 obtain ⟨cs, fz, ht⟩ := s.tg
 have hs := sameBox s 0 sl.v
 exact ⟨below_box s _ _, s.bx.setC 0 (by simp) _, ⟨_, _, heap_set_same ht _⟩, hs.bx s.b2 (by omega), ⟨_, _, (hs.block _ (by omega) s.b2.2.2).trans s.t2.choose_spec.choose_spec⟩, s.e.same ht (by decide) hs, s.d.same ht (by decide) hs, s.m.same ht (by decide) hs, s.q.same ht (by decide) hs, fun i hi => (show Lst w X 9 1 encStr (({ h with t := sl } : HC).nm i) (c.nl i) from (match i, hi with | 0, _ => h1 | 1, _ => s.n 1 (by decide) | 2, _ => s.n 2 (by decide) | 3, _ => s.n 3 (by decide))).same ht (by decide) hs, s.be, s.bd, s.bm, s.se.same ht (by decide) hs, s.sd.same ht (by decide) hs, s.sm.same ht (by decide) hs⟩
theorem St.boxN1 (s : St w X h es ds ms c) (sl : Sl) (h1 : Lst w X 9 1 encStr sl (c.nl 1)) :
   St w (X.setCell ⟨w.heap.size, 1, none⟩ sl.v) { h with s := sl } es ds ms c := by
 obtain ⟨cs, fz, ht⟩ := s.tg
 have hs := sameBox s 1 sl.v
 exact ⟨below_box s _ _, s.bx.setC 1 (by simp) _, ⟨_, _, heap_set_same ht _⟩, hs.bx s.b2 (by omega), ⟨_, _, (hs.block _ (by omega) s.b2.2.2).trans s.t2.choose_spec.choose_spec⟩, s.e.same ht (by decide) hs, s.d.same ht (by decide) hs, s.m.same ht (by decide) hs, s.q.same ht (by decide) hs, fun i hi => (show Lst w X 9 1 encStr (({ h with s := sl } : HC).nm i) (c.nl i) from (match i, hi with | 0, _ => s.n 0 (by decide) | 1, _ => h1 | 2, _ => s.n 2 (by decide) | 3, _ => s.n 3 (by decide))).same ht (by decide) hs, s.be, s.bd, s.bm, s.se.same ht (by decide) hs, s.sd.same ht (by decide) hs, s.sm.same ht (by decide) hs⟩
theorem St.boxN2 (s : St w X h es ds ms c) (sl : Sl) (h1 : Lst w X 9 1 encStr sl (c.nl 2)) :
   St w (X.setCell ⟨w.heap.size, 2, none⟩ sl.v) { h with o := sl } es ds ms c := by
 obtain ⟨cs, fz, ht⟩ := s.tg
 have hs := sameBox s 2 sl.v
 exact ⟨below_box s _ _, s.bx.setC 2 (by simp) _, ⟨_, _, heap_set_same ht _⟩, hs.bx s.b2 (by omega), ⟨_, _, (hs.block _ (by omega) s.b2.2.2).trans s.t2.choose_spec.choose_spec⟩, s.e.same ht (by decide) hs, s.d.same ht (by decide) hs, s.m.same ht (by decide) hs, s.q.same ht (by decide) hs, fun i hi => (show Lst w X 9 1 encStr (({ h with o := sl } : HC).nm i) (c.nl i) from (match i, hi with | 0, _ => s.n 0 (by decide) | 1, _ => s.n 1 (by decide) | 2, _ => h1 | 3, _ => s.n 3 (by decide))).same ht (by decide) hs, s.be, s.bd, s.bm, s.se.same ht (by decide) hs, s.sd.same ht (by decide) hs, s.sm.same ht (by decide) hs⟩
theorem St.boxN3 (s : St w X h es ds ms c) (sl : Sl) (h1 : Lst w X 9 1 encStr sl (c.nl 3)) :
   St w (X.setCell ⟨w.heap.size, 3, none⟩ sl.v) { h with p := sl } es ds ms c := by
 obtain ⟨cs, fz, ht⟩ := s.tg
 have hs := sameBox s 3 sl.v
 exact ⟨below_box s _ _, s.bx.setC 3 (by simp) _, ⟨_, _, heap_set_same ht _⟩, hs.bx s.b2 (by omega), ⟨_, _, (hs.block _ (by omega) s.b2.2.2).trans s.t2.choose_spec.choose_spec⟩, s.e.same ht (by decide) hs, s.d.same ht (by decide) hs, s.m.same ht (by decide) hs, s.q.same ht (by decide) hs, fun i hi => (show Lst w X 9 1 encStr (({ h with p := sl } : HC).nm i) (c.nl i) from (match i, hi with | 0, _ => s.n 0 (by decide) | 1, _ => s.n 1 (by decide) | 2, _ => s.n 2 (by decide) | 3, _ => h1)).same ht (by decide) hs, s.be, s.bd, s.bm, s.se.same ht (by decide) hs, s.sd.same ht (by decide) hs, s.sm.same ht (by decide) hs⟩
end
theorem eps_row {β : Type} {X : World} {k : Nat} {enc : β → List Value} [hc : Cells enc k] (hinj : ∀ x y, enc x = enc y → x = y) {a : Option Addr} {n c : Nat} {L : List β} (h : Row X k enc a n c L) : Classical.epsilon (fun L => Row X k enc a n c L) = L :=
 Row.uniq (hc := hc) hinj (Classical.epsilon_spec ⟨L, h⟩) h
theorem inj_sn (x y : Sn) (h : encSn x = encSn y) : x = y := by
 obtain ⟨a, b, c⟩ := x; obtain ⟨d, e, f⟩ := y
 simp [encSn] at h
 simp [h]
theorem inj_int (x y : Int) (h : encInt x = encInt y) : x = y := by simpa [encInt] using h
theorem Sls.eps {α β : Type} {w X : World} {T : TypeId} {k : Nat} {enc : β → List Value} [hc : Cells enc k] {sl : α → Sl} {xs : List α} {Ls : List (List β)} (hinj : ∀ x y, enc x = enc y → x = y) (h : Sls w X T k enc sl xs Ls) (hb : Below w.heap.size w X) :
   (∀ x ∈ xs, Row X k enc (sl x).a (sl x).n (sl x).c (Classical.epsilon (fun L => Row X k enc (sl x).a (sl x).n (sl x).c L))) ∧ xs.map (fun x => Classical.epsilon (fun L => Row X k enc (sl x).a (sl x).n (sl x).c L)) = Ls := by
 constructor
 · intro x hx
   obtain ⟨i, hi⟩ := List.mem_iff_getElem?.1 hx
   obtain ⟨L, _, hr⟩ := h.rows (hc := hc) hb i x hi
   rw [eps_row (hc := hc) hinj hr]; exact hr
 · apply List.ext_getElem?
   intro i
   rw [List.getElem?_map]
   cases hx : xs[i]? with
   | none => rw [Option.map_none, List.getElem?_eq_none (by rw [← h.1]; exact List.getElem?_eq_none_iff.1 hx)]
   | some x =>
     obtain ⟨L, hL, hr⟩ := h.rows (hc := hc) hb i x hx
     rw [Option.map_some, eps_row (hc := hc) hinj hr, hL]
def RetH (w : World) (c : Cont) (e : Ending) (X : World) : Prop :=
 ∃ h es ds ms, ∃ scan : EvC → List Sn, ∃ dn : OrC → List Int, ∃ mn : MaC → List Int, e = .returned (valH h) ∧ Deep X h es ds ms c.Q scan dn mn ∧ (∀ i, i < 4 → Row X 1 encStr (h.nm i).a (h.nm i).n (h.nm i).c (c.nl i)) ∧
   es.map EvC.base = c.E ∧ ds.map OrC.base = c.D ∧ ms.map MaC.base = c.M ∧ es.map scan = c.SE ∧ ds.map dn = c.SD ∧ ms.map mn = c.SM ∧ Below w.heap.size w X
section
variable {w X Y : World} {h : HC} {es : List EvC} {ds : List OrC} {ms : List MaC} {c : Cont}
theorem St.cast {c' : Cont} (s : St w X h es ds ms c) (e : c = c') : St w X h es ds ms c' := e ▸ s
theorem St.own2 (s : St w X h es ds ms c) (hs : Same (fun i => i ≠ w.heap.size + 1) X Y) (b : Below w.heap.size w Y) : RetH w c (.returned (valH h)) Y := by
 obtain ⟨cs, fz, ht⟩ := s.t2
 obtain ⟨h1, h2⟩ := (s.se.same ht (by decide) hs).eps (hc := cInsSn) inj_sn b
 obtain ⟨h3, h4⟩ := (s.sd.same ht (by decide) hs).eps (hc := cInsInt) inj_int b
 obtain ⟨h5, h6⟩ := (s.sm.same ht (by decide) hs).eps (hc := cInsInt) inj_int b
 exact ⟨h, es, ds, ms, _, _, _, rfl, ⟨(s.e.same ht (by decide) hs).row (hc := cInsEv) b, (s.d.same ht (by decide) hs).row (hc := cInsOr) b, (s.m.same ht (by decide) hs).row (hc := cInsMa) b, (s.q.same ht (by decide) hs).row (hc := cInsWa) b, h1, h3, h5⟩, fun i hi => ((s.n i hi).same ht (by decide) hs).row (hc := cInsStr) b, s.be, s.bd, s.bm, h2, h4, h6, b⟩
end
theorem St.ret {w X : World} {h : HC} {es : List EvC} {ds : List OrC} {ms : List MaC} {c : Cont} (s : St w X h es ds ms c) : RetH w c (.returned (valH h)) X := by
 obtain ⟨h1, h2⟩ := s.se.eps (hc := cInsSn) inj_sn s.b
 obtain ⟨h3, h4⟩ := s.sd.eps (hc := cInsInt) inj_int s.b
 obtain ⟨h5, h6⟩ := s.sm.eps (hc := cInsInt) inj_int s.b
 exact ⟨h, es, ds, ms, _, _, _, rfl, ⟨s.e.row (hc := cInsEv) s.b, s.d.row (hc := cInsOr) s.b, s.m.row (hc := cInsMa) s.b, s.q.row (hc := cInsWa) s.b, h1, h3, h5⟩, fun i hi => (s.n i hi).row (hc := cInsStr) s.b, s.be, s.bd, s.bm, h2, h4, h6, s.b⟩
theorem Sls.start {α β : Type} {w X : World} {T : TypeId} {k : Nat} {enc : β → List Value} {sl : α → Sl} {xs : List α} (f : α → List β) (h : ∀ x ∈ xs, (f x).length ≤ 2000000 ∧ Row w k enc (sl x).a (sl x).n (sl x).c (f x)) : Sls w X T k enc sl xs (xs.map f) := by
 refine ⟨by rw [List.length_map], fun i x L hx hL => ?_⟩
 rw [List.getElem?_map, hx] at hL
 injection hL with hL
 subst hL
 have := h x (List.mem_of_getElem? hx)
 exact ⟨this.1, .inl this.2⟩
def BulkH (nl : Nat → List Bs) (es : List EvC) (ds : List OrC) (ms : List MaC) (qs : List Wa) (scan : EvC → List Sn) (dn : OrC → List Int) (mn : MaC → List Int) : Prop :=
 es.length ≤ 2000000 ∧ ds.length ≤ 2000000 ∧ ms.length ≤ 2000000 ∧ qs.length ≤ 2000000 ∧ (∀ i, i < 4 → (nl i).length ≤ 2000000) ∧ (∀ x ∈ es, (scan x).length ≤ 2000000) ∧ (∀ x ∈ ds, (dn x).length ≤ 2000000) ∧ (∀ x ∈ ms, (mn x).length ≤ 2000000)
def contOf (m : Nat) (nl : Nat → List Bs) (es : List EvC) (ds : List OrC) (ms : List MaC) (qs : List Wa) (scan : EvC → List Sn) (dn : OrC → List Int) (mn : MaC → List Int) : Cont :=
 ⟨nl, (es.take m).map EvC.base, (es.take m).map scan, ds.map OrC.base, ds.map dn, ms.map MaC.base, ms.map mn, qs⟩
theorem St.start {h : HC} {nl : Nat → List Bs} {es : List EvC} {ds : List OrC} {ms : List MaC} {qs : List Wa} {scan : EvC → List Sn} {dn : OrC → List Int} {mn : MaC → List Int} {w : World} (hn : ∀ i, i < 4 → Row w 1 encStr (h.nm i).a (h.nm i).n (h.nm i).c (nl i))
   (hd : Deep w h es ds ms qs scan dn mn) (hB : BulkH nl es ds ms qs scan dn mn) (m : Nat) (hm : h.e.n ≤ m) :
   St w ((w.alloc (.cells (cellsH h) 28)).alloc (.cells (Array.replicate 8 (.slice none 0 0)) 28)) h es ds ms (contOf m nl es ds ms qs scan dn mn) := by
 obtain ⟨b1, b2, b3, b4, b5, b6, b7, b8⟩ := hB
 have hl := hd.1.len
 have ht : es.take m = es := List.take_of_length_le (by omega)
 refine ⟨belowA (belowA (Below.refl w.heap.size w) _) _, Bx.alloc (Bx.new w (cellsH h) 28) _, ⟨_, _, heapA _ (alloc_new w _)⟩, Bx.new1 (by simp), ⟨_, _, heapN (by simp)⟩, ⟨b1, .inl hd.1⟩, ⟨b2, .inl hd.2.1⟩, ⟨b3, .inl hd.2.2.1⟩, ⟨b4, .inl hd.2.2.2.1⟩, fun i hi => ⟨b5 i hi, .inl (hn i hi)⟩, ?_, rfl, rfl, ?_, Sls.start dn (fun x hx => ⟨b7 x hx, hd.2.2.2.2.2.1 x hx⟩), Sls.start mn (fun x hx => ⟨b8 x hx, hd.2.2.2.2.2.2 x hx⟩)⟩
 · simp only [contOf, ht]
 · simp only [contOf, ht]
   exact Sls.start scan (fun x hx => ⟨b6 x hx, hd.2.2.2.2.1 x hx⟩)
theorem Own.open_ {α : Type} {enc : α → List Value} {k : Nat} [hc : Cells enc k] {X : World} {B : Nat} {E : TypeId} {a : Option Addr} {n c : Nat} {xs : List α} (h : Own X B E k enc (.slice a n c) xs) (hn : 0 < n) :
   ∃ g cur, a = some ⟨g, 0, none⟩ ∧ Bx X g cur ∧ xs.length = n ∧ n ≤ c ∧ B ≤ g ∧ (∀ i x j v, xs[i]? = some x → (enc x)[j]? = some v → cur[i * k + j]? = some v) := by
 obtain ⟨h1, h2⟩ := h
 rcases h2 with ⟨he, h0⟩ | ⟨g, cap, cur, he, hB, hh, hn', _, hs, ht⟩
 · injection he with _ e2 _
   omega
 · injection he with e1 e2 e3
   subst e1 e2 e3
   refine ⟨g, cur, rfl, ⟨fun i => ?_, fun i => ?_, (Array.getElem?_eq_some_iff.1 hh).1⟩, rfl, hn', hB, fun i x j v hx hv => ?_⟩
   · simp [World.cell?, hh]
   · simp [World.frozen?, hh]
   · have hf := flat_get (hc := hc) xs i x j v hx hv
     have hlt : i * k + j < xs.length * k := by rw [← h1]; exact (List.getElem?_eq_some_iff.1 hf).1
     rw [← ht, List.getElem?_take, if_pos hlt] at hf
     simpa using hf
end Yd
