import Derived.Test.YthdpangjphphjaaGreatDoorOf
import Derived.Test.YthdpangjphphjaaGreatDoorOrdIn
import Derived.Test.YthdpangjphphjaaGreatDoorProg
import Derived.Test.YthdpangjphphjaaGreatDoorShaped
import Derived.Test.YthdpangjphphjaaGreatDoorRows
import Derived.ProofKit
import Derived.OpenShut
import Derived.Deep.Slices
import Derived.Test.YthdpangjphphjaaGreatDoorSame
import Derived.BigQuiet
set_option maxRecDepth 200000
set_option maxHeartbeats 8000000
namespace Yd
open Go Go.RowKit Go.Proofs

theorem cellA {X : World} {p : Addr} {v : Value} (o : Obj) (h : X.cell? p = some v) : (X.alloc o).cell? p = some v := (((Below.refl X.heap.size X).alloc (Nat.le_refl _) o).cell (cell_lt h)).trans h
theorem Same.refl' {A : Nat → Prop} (X : World) : Same A X X := ⟨rfl, rfl, rfl, Nat.le_refl _, fun _ _ _ => rfl⟩
section
variable {α : Type} {enc : α → List Value} {k : Nat} {w w' : World} {B : Nat} {E : TypeId} {v : Value} {xs : List α}
theorem Own.grown (h : Own w B E k enc v xs) {row : Option Nat} (hg : w.grownBy w' row) (hne : ∀ g, v.ownBlock = some g → row ≠ some g) : Own w' B E k enc v xs :=
 h.block fun g hg' => hg.block g (h.lt g hg').2 (fun e => hne g hg' e.symm)
theorem Own.same (h : Own w B E k enc v xs) {A : Nat → Prop} (hs : Same A w w') (hA : ∀ g, v.ownBlock = some g → A g) : Own w' B E k enc v xs := h.block fun g hg => hs.block g (hA g hg) (h.lt g hg).2
theorem Own.tag (h : Own w B E k enc v xs) {g : Nat} (hg : v.ownBlock = some g) : ∃ cs fz, w.heap[g]? = some (.cells cs E fz) := by
 rcases h.2 with ⟨rfl, _⟩ | ⟨g', cap, cur, rfl, _, hh, _⟩
 · cases hg
 · obtain rfl : g' = g := by simpa [Value.ownBlock] using hg
   exact ⟨_, _, hh⟩
theorem Own.apart {β : Type} {enc' : β → List Value} {k' B' : Nat} {E' : TypeId} {v' : Value} {ys : List β} (h : Own w B E k enc v xs) (h' : Own w B' E' k' enc' v' ys) (hE : E ≠ E') : ∀ g, v.ownBlock = some g → v'.ownBlock ≠ some g := fun g hg hg' => by
 obtain ⟨cs, fz, e1⟩ := h.tag hg
 obtain ⟨cs', fz', e2⟩ := h'.tag hg'
 rw [e1] at e2
 cases e2
 exact hE rfl
theorem Own.far' (h : Own w B E k enc v xs) {i : Nat} (hi : i < B ∨ w.heap.size ≤ i) : v.ownBlock ≠ some i := fun e => by
 have := h.lt i e; omega
end
structure Kept (w : World) (l : LnC) (w' : World) : Prop where
 size : w.heap.size ≤ w'.heap.size
 block : ∀ i, i < w.heap.size → some i ≠ (Value.slice l.na l.nn l.nc).ownBlock → some i ≠ (Value.slice l.va l.vn l.vc).ownBlock → w'.heap[i]? = w.heap[i]?
def Grew (w : World) (l l' : LnC) : Prop :=
 (∀ g, (Value.slice l'.na l'.nn l'.nc).ownBlock = some g → (Value.slice l.na l.nn l.nc).ownBlock = some g ∨ w.heap.size ≤ g) ∧ (∀ g, (Value.slice l'.va l'.vn l'.vc).ownBlock = some g → (Value.slice l.va l.vn l.vc).ownBlock = some g ∨ w.heap.size ≤ g)
end Yd


namespace Yd
open Go Go.RowKit Go.Proofs

theorem Bx.setC {X : World} {b : Nat} {cs : Array Value} (h : Bx X b cs) (i : Nat) (hi : i < cs.size) (v : Value) : Bx (X.setCell ⟨b, i, none⟩ v) b (cs.setIfInBounds i v) := by
 refine ⟨fun j => ?_, fun j => by rw [World.frozen?_setCell]; exact h.2.1 j, by have := h.2.2; simpa [World.setCell] using this⟩
 by_cases hj : j = i
 · subst hj
   rw [World.cell?_setCell_same' _ _ _ (by rw [h.1 j, Array.getElem?_eq_getElem hi]; rfl), Array.getElem?_setIfInBounds_self_of_lt hi]
 · rw [World.cell?_setCell_other _ _ _ _ (fun e => by cases e; exact hj rfl), h.1 j, Array.getElem?_setIfInBounds_ne (fun e => hj e.symm)]
theorem Bx.set6 {X : World} {b : Nat} {l l' : LnC} (h : Bx X b (cellsLn l)) :
   Bx ((((((X.setCell ⟨b, 0, none⟩ (.int .i64 l'.kind)).setCell ⟨b, 1, none⟩ (.slice l'.na l'.nn l'.nc)).setCell ⟨b, 2, none⟩ (.int .i64 l'.lvl)).setCell ⟨b, 3, none⟩ (.slice l'.va l'.vn l'.vc)).setCell ⟨b, 4, none⟩ (.bool l'.first)).setCell ⟨b, 5, none⟩ (.int .i64 l'.bits)) b (cellsLn l') :=
 ((((((h.setC 0 (by simp) _).setC 1 (by simp) _).setC 2 (by simp) _).setC 3 (by simp) _).setC 4 (by simp) _).setC 5 (by simp) _)
theorem Row.toN {X : World} {g : Nat} (h : X.heap.size = g) (s : To) : Row (X.alloc (.cells #[.string ⟨s.name.toArray⟩, .int .i64 s.k] 67)) 2 encTo (some ⟨g, 0, none⟩) 1 1 [s] :=
 h ▸ (Own.new (hc := cInsTo) X X.heap.size 67 #[.string ⟨s.name.toArray⟩, .int .i64 s.k] [s] (Nat.le_refl _) rfl (by simp [maxLen])).row (by simp)
theorem Own.notBox {α : Type} {enc : α → List Value} {k : Nat} {w : World} {B : Nat} {E : TypeId} {v : Value} {xs : List α} (h : Own w B E k enc v xs) {b : Nat} {cs : Array Value} {T : TypeId} {fz : Nat × Nat} (hb : w.heap[b]? = some (.cells cs T fz)) (hE : E ≠ T) : v.ownBlock ≠ some b := fun e => by
 obtain ⟨cs', fz', e1⟩ := h.tag e
 rw [hb] at e1
 cases e1
 exact hE rfl
end Yd


namespace Yd
open Go Go.RowKit Go.Proofs

theorem heap_set_same {w : World} {b i : Nat} {cs : Array Value} {T : TypeId} {fr : Nat × Nat} (hb : w.heap[b]? = some (.cells cs T fr)) (v : Value) : (w.setCell ⟨b, i, none⟩ v).heap[b]? = some (.cells (cs.setIfInBounds i v) T fr) := by
 simp [World.setCell, Array.getElem?_modify, hb]
section
variable {α : Type} {enc : α → List Value} {k : Nat}
theorem flat_set [hc : Cells enc k] : ∀ (xs : List α) (i j : Nat) (x y : α) (v : Value), xs[i]? = some x → j < k → (enc x).set j v = enc y → (xs.flatMap enc).set (i * k + j) v = (xs.set i y).flatMap enc
 | [], i, j, x, y, v, h, _, _ => by simp at h
 | a :: xs, 0, j, x, y, v, h, hj, he => by
   obtain rfl : a = x := by simpa using h
   rw [List.flatMap_cons, List.set_cons_zero, List.flatMap_cons, Nat.zero_mul, Nat.zero_add, List.set_append_left _ _ (by rw [hc.len]; exact hj), he]
 | a :: xs, i + 1, j, x, y, v, h, hj, he => by
   have ih := flat_set xs i j x y v (by simpa using h) hj he
   rw [List.flatMap_cons, List.set_cons_succ, List.flatMap_cons, List.set_append_right _ _ (by rw [hc.len, Nat.succ_mul]; omega), hc.len, ← ih]
   congr 2
   rw [Nat.succ_mul]; omega
theorem Own.put [hc : Cells enc k] {w : World} {B g n c i j : Nat} {E : TypeId} {xs : List α} {x y : α} {v : Value} (h : Own w B E k enc (.slice (some ⟨g, 0, none⟩) n c) xs) (hx : xs[i]? = some x) (hj : j < k) (he : (enc x).set j v = enc y) :
   Own (w.setCell ⟨g, i * k + j, none⟩ v) B E k enc (.slice (some ⟨g, 0, none⟩) n c) (xs.set i y) := by
 obtain ⟨h1, h2⟩ := h
 refine ⟨flat_len _, ?_⟩
 rcases h2 with ⟨e, _⟩ | ⟨g', cap, cur, e, hB, hh, hn, hm, hs, ht⟩
 · cases e
 · injection e with e1 e2 e3
   injection e1 with e1
   injection e1 with e1
   subst e1
   refine .inr ⟨g, cap, cur.setIfInBounds (i * k + j) v, ?_, hB, heap_set_same hh v, by rw [List.length_set]; exact hn, hm, by rw [Array.size_setIfInBounds]; exact hs, ?_⟩
   · rw [List.length_set, e2, e3]
   · rw [List.length_set, Array.toList_setIfInBounds, List.take_set, ht]
     exact flat_set xs i j x y v hx hj he
end
end Yd


namespace Yd
open Go Go.RowKit Go.Proofs

def Lst {β : Type} (w X : World) (T : TypeId) (k : Nat) (enc : β → List Value) (s : Sl) (L : List β) : Prop :=
 L.length ≤ 2000000 ∧ (Row w k enc s.a s.n s.c L ∨ Own X w.heap.size T k enc s.v L)
section
variable {β : Type} {w X Y : World} {T : TypeId} {k : Nat} {enc : β → List Value} {s : Sl} {L : List β}
theorem Lst.same (h : Lst w X T k enc s L) {g : Nat} {cs : Array Value} {T' : TypeId} {fz : Nat × Nat} (hg : X.heap[g]? = some (.cells cs T' fz)) (hT : T ≠ T') (hs : Same (fun i => i ≠ g) X Y) : Lst w Y T k enc s L := by
 obtain ⟨hL, h | h⟩ := h
 · exact ⟨hL, .inl h⟩
 · refine ⟨hL, .inr (h.same hs (fun i hi e => ?_))⟩
   subst e
   obtain ⟨cs', fz', e'⟩ := h.tag hi
   rw [hg] at e'
   cases e'
   exact hT rfl
theorem Lst.below (h : Lst w X T k enc s L) (hb : Below X.heap.size X Y) : Lst w Y T k enc s L := by
 obtain ⟨hL, h | h⟩ := h
 · exact ⟨hL, .inl h⟩
 · exact ⟨hL, .inr (h.below hb rfl)⟩
theorem Lst.row [hc : Cells enc k] (h : Lst w X T k enc s L) (hb : Below w.heap.size w X) : Row X k enc s.a s.n s.c L := by
 obtain ⟨hL, h | h⟩ := h
 · exact h.below hb rfl
 · obtain ⟨a, c, e, _, _⟩ := h.shape
   obtain ⟨sa, sn, sc⟩ := s
   injection e with e1 e2 e3
   subst e1 e2 e3
   exact h.row (by omega)
theorem Lst.own (h : Own X w.heap.size T k enc s.v L) (hL : L.length ≤ 2000000) : Lst w X T k enc s L := ⟨hL, .inr h⟩
end
theorem Own.apartBox {β : Type} {X Y : World} {B : Nat} {T T' : TypeId} {k : Nat} {enc : β → List Value} {v : Value} {L : List β} (h : Own X B T k enc v L) {g : Nat} (hg : ∃ cs fz, X.heap[g]? = some (.cells cs T' fz)) (hT : T ≠ T') (hs : Same (fun i => i ≠ g) X Y) : Own Y B T k enc v L := by
 obtain ⟨cs, fz, hg⟩ := hg
 exact h.same hs (fun i hi e => by
   subst e
   obtain ⟨cs', fz', e'⟩ := h.tag hi
   rw [hg] at e'
   cases e'
   exact hT rfl)
def Sls {α β : Type} (w X : World) (T : TypeId) (k : Nat) (enc : β → List Value) (sl : α → Sl) (xs : List α) (Ls : List (List β)) : Prop :=
 xs.length = Ls.length ∧ ∀ (i : Nat) (x : α) (L : List β), xs[i]? = some x → Ls[i]? = some L → Lst w X T k enc (sl x) L
section
variable {α β : Type} {w X Y : World} {T : TypeId} {k : Nat} {enc : β → List Value} {sl : α → Sl} {xs : List α} {Ls : List (List β)}
theorem Sls.same (h : Sls w X T k enc sl xs Ls) {g : Nat} {cs : Array Value} {T' : TypeId} {fz : Nat × Nat} (hg : X.heap[g]? = some (.cells cs T' fz)) (hT : T ≠ T') (hs : Same (fun i => i ≠ g) X Y) : Sls w Y T k enc sl xs Ls :=
 ⟨h.1, fun i x L h1 h2 => (h.2 i x L h1 h2).same hg hT hs⟩
theorem Sls.below (h : Sls w X T k enc sl xs Ls) (hb : Below X.heap.size X Y) : Sls w Y T k enc sl xs Ls := ⟨h.1, fun i x L h1 h2 => (h.2 i x L h1 h2).below hb⟩
theorem Sls.set (h : Sls w X T k enc sl xs Ls) {i : Nat} {y : α} {L : List β} (hL : Ls[i]? = some L) (hy : Lst w X T k enc (sl y) L) : Sls w X T k enc sl (xs.set i y) Ls := by
 refine ⟨by rw [List.length_set]; exact h.1, fun j x L' h1 h2 => ?_⟩
 rw [List.getElem?_set] at h1
 split at h1
 · rename_i e
   subst e
   split at h1
   · injection h1 with h1
     subst h1
     rw [hL] at h2
     injection h2 with h2
     subst h2
     exact hy
   · cases h1
 · exact h.2 j x L' h1 h2
end
@[reducible] def EvC.sl (x : EvC) : Sl := ⟨x.sa, x.sn, x.sc⟩
@[reducible] def OrC.sl (x : OrC) : Sl := ⟨x.sa, x.sn, x.sc⟩
@[reducible] def MaC.sl (x : MaC) : Sl := ⟨x.sa, x.sn, x.sc⟩
@[reducible] def EvC.wi (x : EvC) (s : Sl) : EvC := { x with sa := s.a, sn := s.n, sc := s.c }
@[reducible] def OrC.wi (x : OrC) (s : Sl) : OrC := { x with sa := s.a, sn := s.n, sc := s.c }
@[reducible] def MaC.wi (x : MaC) (s : Sl) : MaC := { x with sa := s.a, sn := s.n, sc := s.c }
def EvC.base (x : EvC) : EvC := x.wi ⟨none, 0, 0⟩
def OrC.base (x : OrC) : OrC := x.wi ⟨none, 0, 0⟩
def MaC.base (x : MaC) : MaC := x.wi ⟨none, 0, 0⟩
structure Cont where
 nl : Nat → List Bs
 E : List EvC
 SE : List (List Sn)
 D : List OrC
 SD : List (List Int)
 M : List MaC
 SM : List (List Int)
 Q : List Wa
section
variable {w X Y : World} {h : HC} {es : List EvC} {ds : List OrC} {ms : List MaC} {c : Cont}
end
section
variable {w X Y : World} {h : HC} {es : List EvC} {ds : List OrC} {ms : List MaC} {c : Cont}
end
theorem Own.open_ {α : Type} {enc : α → List Value} {k : Nat} [hc : Cells enc k] {X : World} {B : Nat} {E : TypeId} {a : Option Addr} {n c : Nat} {xs : List α} (h : Own X B E k enc (.slice a n c) xs) (hn : 0 < n) :
   ∃ g cur, a = some ⟨g, 0, none⟩ ∧ Bx X g cur ∧ xs.length = n ∧ n ≤ c ∧ B ≤ g ∧ (∀ i x j v, xs[i]? = some x → (enc x)[j]? = some v → cur[i * k + j]? = some v) := by
 obtain ⟨h1, h2⟩ := h
 rcases h2 with ⟨he, h0⟩ | ⟨g, cap, cur, he, hB, hh, hn', _, hs, ht⟩
 · injection he with _ e2 _
   omega
 · injection he with e1 e2 e3
   subst e1 e2 e3
   refine ⟨g, cur, rfl, ⟨fun i => ?_, fun i => ?_, (Array.getElem?_eq_some_iff.1 hh).1⟩, rfl, hn', hB, fun i x j v hx hv => ?_⟩
   · simp [World.cell?, hh]
   · simp [World.frozen?, hh]
   · have hf := flat_get (hc := hc) xs i x j v hx hv
     have hlt : i * k + j < xs.length * k := by rw [← h1]; exact (List.getElem?_eq_some_iff.1 hf).1
     rw [← ht, List.getElem?_take, if_pos hlt] at hf
     simpa using hf
end Yd


namespace Yd
open Go Go.RowKit Go.Proofs Go.ChangeShapes Go.WideShapes Go.ChangeAt
open Go.Proofs.YthdpangjphphjaaGreatDoor.Rows (uptoBulk uptoBulkAll)

section
variable {H : Type} {enc : TypeId × Value → H} {w : World} {base : Nat} {spare : Nat → Bool} {held : Bool}
theorem bulk_mem {d : DataW H} {l : List (DataW H)} (h : d ∈ l) : uptoBulk d ≤ uptoBulkAll l := by
 induction l with
 | nil => cases h
 | cons x r ih =>
   simp only [uptoBulkAll]
   cases List.mem_cons.1 h with
   | inl e => subst e; omega
   | inr e => have := ih e; omega
theorem bulk_one (d : DataW H) : 1 ≤ uptoBulk d := by
 cases d with
 | lit l => cases l <;> simp [uptoBulk]
 | nil => simp [uptoBulk]
 | ptr d => simp [uptoBulk]
 | slice elems spare => simp [uptoBulk]
 | agg parts => simp [uptoBulk]
 | iface t d => simp [uptoBulk]
 | map entries => simp [uptoBulk]
 | held h => simp [uptoBulk]
theorem bulk_len (l : List (DataW H)) : l.length ≤ uptoBulkAll l := by
 induction l with
 | nil => simp [uptoBulkAll]
 | cons x r ih => have := bulk_one x; simp only [uptoBulkAll, List.length_cons]; omega
def RdAs {α : Type} (enc : TypeId × Value → H) (w : World) (base : Nat) (spare : Nat → Bool) (held : Bool) (N : Nat) (e : TypeId) (en : α → List Value) (Q : α → Prop) : Prop :=
 ∀ n cs y, DataW.trod enc Tryz.prog w base spare held n e cs = some y → uptoBulk y.1 ≤ N → ∃ x, cs = en x ∧ Q x
theorem pick_list {α : Type} {p : Nat → α → Prop} : ∀ (m : Nat), (∀ i, i < m → ∃ x, p i x) → ∃ xs : List α, xs.length = m ∧ ∀ i x, xs[i]? = some x → p i x
 | 0, _ => ⟨[], rfl, fun i x h => by simp at h⟩
 | m + 1, h => by
   obtain ⟨xs, hl, hx⟩ := pick_list m (fun i hi => h i (by omega))
   obtain ⟨x, hp⟩ := h m (by omega)
   refine ⟨xs ++ [x], by simp [hl], fun i y hy => ?_⟩
   rcases Nat.lt_or_ge i m with hi | hi
   · rw [List.getElem?_append_left (by omega)] at hy
     exact hx i y hy
   · rw [List.getElem?_append_right (by omega), hl] at hy
     have : i = m := by
       rcases Nat.lt_or_ge (i - m) 1 with h1 | h1
       · omega
       · rw [List.getElem?_eq_none (by simpa using h1)] at hy; cases hy
     subst this
     simp at hy
     subst hy
     exact hp
theorem spot_none {w : World} {a : Addr} {v : Value} (h : w.cell? a = some v) : a.spot = none := by
 unfold World.cell? at h
 split at h
 · split at h
   · cases h
   · rename_i hs
     cases hsp : a.spot with
     | none => rfl
     | some x => rw [hsp] at hs; exact absurd rfl hs
 · cases h
theorem down_slice {α : Type} {en : α → List Value} {k : Nat} [hc : Cells en k] {t e : TypeId} {Q : α → Prop} {N : Nat} (hN : N ≤ 140737488355328) (ht : Tryz.prog.underlying t = some (.slice e)) (hk : Tryz.prog.cellsOf e = k) (hr : RdAs enc w base spare held N e en Q)
   {n : Nat} {cs : List Value} {y : DataW H × List MemPlace} (h : DataW.trod enc Tryz.prog w base spare held n t cs = some y) (hb : uptoBulk y.1 ≤ N) :
   ∃ s : Sl, ∃ xs : List α, cs = [s.v] ∧ Row w k en s.a s.n s.c xs ∧ xs.length ≤ N ∧ ∀ x ∈ xs, Q x := by
 rcases DataW.trod_slice ht h with ⟨rfl, rfl⟩ | ⟨a, len, cap, elems, rest, n', rfl, rfl, rfl, hba, hl, hm, hel, hget, _, _⟩
 · exact ⟨⟨none, 0, 0⟩, [], rfl, Row.nil_, Nat.zero_le _, fun x hx => by cases hx⟩
 · have hbulk : uptoBulkAll (elems.map (·.1)) ≤ N := by simp only [uptoBulk] at hb; omega
   have hlen : len ≤ N := by
     have := bulk_len (elems.map (·.1))
     rw [List.length_map, hel] at this
     omega
   obtain ⟨xs, hxl, hx⟩ := pick_list (p := fun i x => (∀ j v, (en x)[j]? = some v → w.cell? (a.add (i * k + j)) = some v) ∧ Q x) len (fun i hi => by
     have hg := hget i hi
     rw [List.getElem?_eq_getElem (by omega)] at hg
     obtain ⟨cs', h1, h2⟩ := Option.bind_eq_some_iff.1 hg
     obtain ⟨x, rfl, hq⟩ := hr _ _ _ h2 (Nat.le_trans (bulk_mem (List.mem_map.2 ⟨_, List.getElem_mem (by omega), rfl⟩)) hbulk)
     obtain ⟨_, hl', hcell⟩ := World.cells?_some h1
     refine ⟨x, fun j v hv => ?_, hq⟩
     have hj : j < k := by have := (List.getElem?_eq_some_iff.1 hv).1; rw [hc.len] at this; exact this
     have := hcell j (by rw [hk]; exact hj)
     rw [Go.Deep.add_add, hk, hv] at this
     exact this)
   refine ⟨⟨some a, len, cap⟩, xs, rfl, ⟨hxl, hl, Nat.le_trans hlen hN, fun h => (by cases h), fun i x hxi => ?_⟩, by omega, fun x hxm => ?_⟩
   · have hi : i < xs.length := (List.getElem?_eq_some_iff.1 hxi).1
     have hsp : a.spot = none := by
       obtain ⟨x0, hx0⟩ : ∃ x0, xs[0]? = some x0 := ⟨_, List.getElem?_eq_getElem (by omega)⟩
       have hp := hc.pos
       obtain ⟨v0, hv0⟩ : ∃ v0, (en x0)[0]? = some v0 := ⟨_, List.getElem?_eq_getElem (by rw [hc.len]; exact hp)⟩
       have := (hx 0 x0 hx0).1 0 v0 hv0
       rw [Nat.zero_mul, Nat.add_zero] at this
       exact spot_none this
     refine ⟨a.block, a.off, by obtain ⟨b, o, s⟩ := a; simp only at hsp; rw [hsp], fun j v hv => ?_⟩
     have := (hx i x hxi).1 j v hv
     unfold Addr.add at this
     split at this
     · rename_i h0
       rw [show a.off + i * k + j = a.off by omega]
       obtain ⟨b, o, s⟩ := a
       simp only at hsp
       rw [hsp] at this
       exact this
     · rw [Nat.add_assoc]; exact this
   · obtain ⟨i, hi⟩ := List.mem_iff_getElem?.1 hxm
     exact (hx i x hi).2
variable {N : Nat}
theorem rd_str : RdAs enc w base spare held N 9 encStr (fun _ => True) := fun n cs y h _ => by
 obtain ⟨s, rfl, _, _⟩ := DataW.trod_string Tryz.underlying9 h
 exact ⟨s.data.toList, by simp [encStr], trivial⟩
theorem rd_bool {n : Nat} {cs : List Value} {y : DataW H × List MemPlace} (h : DataW.trod enc Tryz.prog w base spare held n 4 cs = some y) : ∃ b, cs = [.bool b] := by
 obtain ⟨b, rfl, _⟩ := DataW.trod_bool Tryz.underlying4 h
 exact ⟨b, rfl⟩
theorem c_int : Tryz.prog.cellsOf 3 = 1 := by kernel_rfl
theorem c_str : Tryz.prog.cellsOf 9 = 1 := by kernel_rfl
theorem c_bool : Tryz.prog.cellsOf 4 = 1 := by kernel_rfl
theorem c_sstr : Tryz.prog.cellsOf 25 = 1 := by kernel_rfl
end
end Yd


namespace Yd
open Go Go.RowKit Go.Proofs

theorem cloneStr (a : Option Addr) (c : Nat) (cs : List Bs) (w : World) (hr : Row w 1 encStr a cs.length c cs) (hby : cs.length * 16 ≤ 140737488355328) :
   Calls Tryz.prog 37 #[.slice a cs.length c] w (RetOwn 9 1 encStr cs w) := by
 have hm : cs.length ≤ maxLen := by have := hr.le; unfold maxLen; omega
 have hsn := fun (w : World) (n c : Nat) => @Lib.run_eql_slice_nil Tryz.prog w 25 9 a n c 0 0 Tryz.underlying25
 cases a with
 | none =>
   obtain ⟨rfl, _, rfl⟩ := hr.none_
   go_enter Tryz.func37, Tryz.ntmps37
   go_wp2_with fail
   go_ret
   exact ⟨none, 0, rfl, Own.nil_ _ _ _ _ _, Below.refl _ _⟩
 | some ad =>
   obtain ⟨i, z, hi, hz, hsize, hby', hzs⟩ := partsStr
   have hr1 : Row (w.alloc (.cells #[] 9)) 1 encStr (some ad) cs.length c cs := hr.below ((Below.refl _ _).alloc (Nat.le_refl _) _) rfl
   have HO := Own.new (hc := cInsStr) w w.heap.size 9 (enc := encStr) #[] [] (Nat.le_refl _) rfl (Nat.zero_le _)
   have HB : Below w.heap.size w (w.alloc (.cells #[] 9)) := (Below.refl _ _).alloc (Nat.le_refl _) _
   have HR := hid hr1; have HC := hid hr; have HOH := hid HO; have HBH := hid HB
   clear hr hr1 HO HB
   go_enter Tryz.func37, Tryz.ntmps37
   go_wp2_with (at_builtin; refine wpList_app rfl _ _ 25 rfl i z 16 Tryz.underlying25 hi hz hsize hby' hzs rfl HOH.out (some ad) cs.length c cs.length cs rfl HR.out (by simp) hby hm (by simp) ?_; intro a' c' w1 hown1 hg1 hat1)
   go_ret
   exact ⟨a', c', rfl, hown1, below_app HBH.out HOH.out (Nat.le_refl _) (by simp) hg1⟩

theorem cloneTo (a : Option Addr) (c : Nat) (cs : List To) (w : World) (hr : Row w 2 encTo a cs.length c cs) (hby : cs.length * 24 ≤ 140737488355328) :
   Calls Tryz.prog 38 #[.slice a cs.length c] w (RetOwn 67 2 encTo cs w) := by
 have hm : cs.length ≤ maxLen := by have := hr.le; unfold maxLen; omega
 have hsn := fun (w : World) (n c : Nat) => @Lib.run_eql_slice_nil Tryz.prog w 26 67 a n c 0 0 Tryz.underlying26
 cases a with
 | none =>
   obtain ⟨rfl, _, rfl⟩ := hr.none_
   go_enter Tryz.func38, Tryz.ntmps38
   go_wp2_with fail
   go_ret
   exact ⟨none, 0, rfl, Own.nil_ _ _ _ _ _, Below.refl _ _⟩
 | some ad =>
   obtain ⟨i, z, hi, hz, hsize, hby', hzs⟩ := partsTo
   have hr1 : Row (w.alloc (.cells #[] 67)) 2 encTo (some ad) cs.length c cs := hr.below ((Below.refl _ _).alloc (Nat.le_refl _) _) rfl
   have HO := Own.new (hc := cInsTo) w w.heap.size 67 (enc := encTo) #[] [] (Nat.le_refl _) rfl (Nat.zero_le _)
   have HB : Below w.heap.size w (w.alloc (.cells #[] 67)) := (Below.refl _ _).alloc (Nat.le_refl _) _
   have HR := hid hr1; have HC := hid hr; have HOH := hid HO; have HBH := hid HB
   clear hr hr1 HO HB
   go_enter Tryz.func38, Tryz.ntmps38
   go_wp2_with (at_builtin; refine wpList_app rfl _ _ 26 rfl i z 24 Tryz.underlying26 hi hz hsize hby' hzs rfl HOH.out (some ad) cs.length c cs.length cs rfl HR.out (by simp) hby hm (by simp) ?_; intro a' c' w1 hown1 hg1 hat1)
   go_ret
   exact ⟨a', c', rfl, hown1, below_app HBH.out HOH.out (Nat.le_refl _) (by simp) hg1⟩

end Yd


namespace Yd
open Go Go.RowKit Go.Proofs

def mostR (r : Int) : Int := if r = 115 then 40 else if r = 116 ∨ r = 109 then 300 else 0
structure LineW (w : World) (na : Option Addr) (nn nc : Nat) (va : Option Addr) (vn vc : Nat) (names : List Bs) (vers : List To) : Prop where
 rn : Row w 1 encStr na nn nc names
 rv : Row w 2 encTo va vn vc vers
 wn : ∀ s ∈ names, wordB ⟨s.toArray⟩ = true
 wv : ∀ t ∈ vers, toOk t
 g : GlobL w
 T : Lib.Utf8Tabs 2 3 w
theorem LineW.below {w w' : World} {na : Option Addr} {nn nc : Nat} {va : Option Addr} {vn vc : Nat} {names : List Bs} {vers : List To} (h : LineW w na nn nc va vn vc names vers) (hb : Below w.heap.size w w') : LineW w' na nn nc va vn vc names vers :=
 ⟨h.rn.below hb rfl, h.rv.below hb rfl, h.wn, h.wv, h.g.below hb, Utf8Tabs_below h.T hb⟩
theorem call_c1 : ∀ args w, (callFunc 50 args).run Tryz.prog w = .ok (.enter 50 args) w := enters_of Tryz.func50 (by kernel_rfl) rfl
theorem call_c2 : ∀ args w, (callFunc 53 args).run Tryz.prog w = .ok (.enter 53 args) w := enters_of Tryz.func53 (by kernel_rfl) rfl
theorem LineW.names {w : World} {na : Option Addr} {nn nc : Nat} {va : Option Addr} {vn vc : Nat} {names : List Bs} {vers : List To} (h : LineW w na nn nc va vn vc names vers) :
   Calls Tryz.prog 52 #[.slice na nn nc, .func (.func 53) #[] #[]] w (Ret (.bool false) w) := by
 have := contStr na nn nc 53 #[] names (fun s => !wordB ⟨s.toArray⟩) w h.rn call_c2 (fun x _ W hb => by simpa using check2_any x W (Utf8Tabs_below h.T hb))
 rwa [List.any_eq_false.2 (fun s hs => by simp [h.wn s hs])] at this
theorem LineW.vers {w : World} {na : Option Addr} {nn nc : Nat} {va : Option Addr} {vn vc : Nat} {names : List Bs} {vers : List To} (h : LineW w na nn nc va vn vc names vers) :
   Calls Tryz.prog 49 #[.slice va vn vc, .func (.func 50) #[] #[]] w (Ret (.bool false) w) := by
 have := contTo va vn vc 50 #[] vers (fun _ => false) w h.rv call_c1 (fun x hx W hb => by simpa using check1_ok x W (Utf8Tabs_below h.T hb) (h.wv x hx))
 rwa [List.any_eq_false.2 (fun s hs => by simp)] at this
theorem most_any (r : Int) (w : World) : Calls Tryz.prog 48 #[.int .i32 r] w (Ret (.int .i64 (mostR r)) w) := by
 by_cases h1 : r = 115
 · subst h1
   go_enter Tryz.func48, Tryz.ntmps48
   go_wp2_with fail
   go_ret
   exact ⟨rfl, Below.refl _ _⟩
 · have e1 : (r == 115) = false := beq_eq_false_iff_ne.2 h1
   by_cases h2 : r = 116
   · subst h2
     go_enter Tryz.func48, Tryz.ntmps48
     go_wp2_with fail
     go_ret
     exact ⟨rfl, Below.refl _ _⟩
   · have e2 : (r == 116) = false := beq_eq_false_iff_ne.2 h2
     by_cases h3 : r = 109
     · subst h3
       go_enter Tryz.func48, Tryz.ntmps48
       go_wp2_with fail
       go_ret
       exact ⟨rfl, Below.refl _ _⟩
     · have e3 : (r == 109) = false := beq_eq_false_iff_ne.2 h3
       have hm : mostR r = 0 := by unfold mostR; rw [if_neg h1, if_neg (by omega)]
       rw [hm]
       go_enter Tryz.func48, Tryz.ntmps48
       go_wp2_with fail
       go_ret
       exact ⟨rfl, Below.refl _ _⟩
end Yd
