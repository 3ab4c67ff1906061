import Derived.Test.YthdpangjphphjaaGreatDoorRf
import Derived.Maps.AppendAt
import Derived.Laws.OwnMore
import Derived.Lib.SliceRun
import Derived.Test.YthdpangjphphjaaGreatDoorCheck
import Derived.Test.YthdpangjphphjaaGreatDoorProg
import Derived.Test.YthdpangjphphjaaGreatDoorSpoken3
set_option maxRecDepth 200000
set_option maxHeartbeats 8000000
namespace Yd
open Go Go.RowKit

theorem alloc_new (w : World) (o : Obj) : (w.alloc o).heap[w.heap.size]? = some o := by
 show (w.heap.push o)[w.heap.size]? = some o
 simp

def Own {α : Type} (w : World) (B : Nat) (E : TypeId) (k : Nat) (enc : α → List Value) (v : Value) (xs : List α) : Prop :=
 w.ownsRow B E k v xs.length (xs.flatMap enc)

class Cells {α : Type} (enc : α → List Value) (k : Nat) : Prop where
 len : ∀ x, (enc x).length = k
 pos : 0 < k
 one : ∀ x, ∀ u ∈ enc x, u.oneCell' = true

instance cInsInt : Cells encInt 1 := ⟨fun _ => rfl, by decide, fun x u h => by simp [encInt] at h; subst h; rfl⟩
instance cInsStr : Cells encStr 1 := ⟨fun _ => rfl, by decide, fun x u h => by simp [encStr] at h; subst h; rfl⟩
instance cInsSn : Cells encSn 3 := ⟨fun _ => rfl, by decide, fun x u h => by simp [encSn] at h; rcases h with rfl | rfl | rfl <;> rfl⟩
instance cInsWa : Cells encWa 2 := ⟨fun _ => rfl, by decide, fun x u h => by simp [encWa] at h; rcases h with rfl | rfl <;> rfl⟩
instance cInsTo : Cells encTo 2 := ⟨fun _ => rfl, by decide, fun x u h => by simp [encTo] at h; rcases h with rfl | rfl <;> rfl⟩
instance cInsOr : Cells encOr 2 := ⟨fun _ => rfl, by decide, fun x u h => by simp [encOr] at h; rcases h with rfl | rfl <;> rfl⟩
instance cInsMa : Cells encMa 4 := ⟨fun _ => rfl, by decide, fun x u h => by simp [encMa] at h; rcases h with rfl | rfl | rfl | rfl <;> rfl⟩
instance cInsLn : Cells encLn 6 := ⟨fun _ => rfl, by decide, fun x u h => by simp [encLn] at h; rcases h with rfl | rfl | rfl | rfl | rfl | rfl <;> rfl⟩
instance cInsEv : Cells encEv 9 := ⟨fun _ => rfl, by decide, fun x u h => by simp [encEv] at h; rcases h with rfl | rfl | rfl | rfl | rfl | rfl | rfl | rfl | rfl <;> rfl⟩

section
variable {α : Type} {enc : α → List Value} {k : Nat}
theorem flat_len [hc : Cells enc k] (xs : List α) : (xs.flatMap enc).length = xs.length * k := by
 induction xs with
 | nil => simp
 | cons x xs ih => simp [List.flatMap_cons, ih, hc.len x, Nat.add_mul, Nat.add_comm]
theorem flat_get [hc : Cells enc k] (xs : List α) : ∀ (i : Nat) (x : α) (j : Nat) (v : Value), xs[i]? = some x → (enc x)[j]? = some v → (xs.flatMap enc)[i * k + j]? = some v := by
 induction xs with
 | nil => intro i x j v h; simp at h
 | cons y ys ih =>
   intro i x j v hx hv
   have hj : j < k := by
     have := (List.getElem?_eq_some_iff.1 hv).1
     rw [hc.len x] at this; exact this
   rw [List.flatMap_cons]
   cases i with
   | zero =>
     have e : y = x := by simpa using hx
     subst e
     rw [Nat.zero_mul, Nat.zero_add, List.getElem?_append_left (by rw [hc.len y]; exact hj)]
     exact hv
   | succ i =>
     rw [List.getElem?_append_right (by rw [hc.len y, Nat.succ_mul]; omega), hc.len y, show (i + 1) * k + j - k = i * k + j by rw [Nat.succ_mul]; omega]
     exact ih i x j v (by simpa using hx) hv
theorem get_flat [hc : Cells enc k] (xs : List α) : ∀ (q : Nat) (v : Value), (xs.flatMap enc)[q]? = some v → ∃ i x j, xs[i]? = some x ∧ (enc x)[j]? = some v ∧ q = i * k + j := by
 induction xs with
 | nil => intro q v h; simp at h
 | cons y ys ih =>
   intro q v h
   rw [List.flatMap_cons] at h
   rcases Nat.lt_or_ge q k with hq | hq
   · rw [List.getElem?_append_left (by rw [hc.len y]; exact hq)] at h
     exact ⟨0, y, q, rfl, h, by omega⟩
   · rw [List.getElem?_append_right (by rw [hc.len y]; exact hq), hc.len y] at h
     obtain ⟨i, x, j, hx, hv, he⟩ := ih _ _ h
     exact ⟨i + 1, x, j, by simpa using hx, hv, by rw [Nat.succ_mul]; omega⟩
theorem flat_one [hc : Cells enc k] (xs : List α) : ∀ u ∈ xs.flatMap enc, u.oneCell' = true := by
 intro u hu
 obtain ⟨x, _, h⟩ := List.mem_flatMap.1 hu
 exact hc.one x u h

variable {w w' : World} {B : Nat} {E : TypeId} {v : Value} {xs : List α}
theorem Own.nil_ (w : World) (B : Nat) (E : TypeId) (k : Nat) (enc : α → List Value) : Own w B E k enc (.slice none 0 0) [] := World.ownsRow_nil w B E k
theorem Own.shape (h : Own w B E k enc v xs) : ∃ a c, v = .slice a xs.length c ∧ (a = none → c = 0) ∧ xs.length ≤ c := by
 rcases h.2 with ⟨rfl, h0⟩ | ⟨g, cap, cur, rfl, _, _, hn, _⟩
 · exact ⟨none, 0, by rw [h0], fun _ => rfl, by omega⟩
 · exact ⟨_, cap, rfl, (fun h => by cases h), hn⟩
theorem Own.row [hc : Cells enc k] {a : Option Addr} {n c : Nat} (h : Own w B E k enc (.slice a n c) xs) (hle : xs.length ≤ 140737488355328) : Row w k enc a n c xs := by
 obtain ⟨h1, h2⟩ := h
 rcases h2 with ⟨he, h0⟩ | ⟨g, cap, cur, he, _, hh, hn, _, hs, ht⟩
 · injection he with e1 e2 e3
   subst e1 e2 e3
   have hx : xs = [] := List.eq_nil_of_length_eq_zero h0
   subst hx
   exact Row.nil_
 · injection he with e1 e2 e3
   subst e1 e2 e3
   refine ⟨rfl, hn, hle, (fun h => by cases h), fun i x hx => ⟨g, 0, rfl, fun j v hv => ?_⟩⟩
   have hf := flat_get (hc := hc) xs i x j v hx hv
   have hlt : i * k + j < xs.length * k := by rw [← h1]; exact (List.getElem?_eq_some_iff.1 hf).1
   rw [← ht, List.getElem?_take, if_pos hlt] at hf
   simp only [Nat.zero_add]
   unfold World.cell?
   simp [hh]
   simpa using hf
theorem Own.lt (h : Own w B E k enc v xs) : ∀ g, v.ownBlock = some g → B ≤ g ∧ g < w.heap.size := World.ownsRow.lt h
theorem Own.alloc (h : Own w B E k enc v xs) (o : Obj) : Own (w.alloc o) B E k enc v xs := World.ownsRow.alloc h o
theorem Own.drew (h : Own w B E k enc v xs) : Own w.drew B E k enc v xs := h
theorem Own.block (h : Own w B E k enc v xs) (hk : ∀ g, v.ownBlock = some g → w'.heap[g]? = w.heap[g]?) : Own w' B E k enc v xs := by
 obtain ⟨h1, h2⟩ := h
 refine ⟨h1, ?_⟩
 rcases h2 with h2 | ⟨g, cap, cur, rfl, hB, hh, r⟩
 · exact .inl h2
 · exact .inr ⟨g, cap, cur, rfl, hB, by rw [hk g rfl]; exact hh, r⟩
theorem Own.below {D : Nat} (h : Own w B E k enc v xs) (hb : Below D w w') (hD : D = w.heap.size) : Own w' B E k enc v xs :=
 h.block fun g hg => hb.block g (by rw [hD]; exact (h.lt g hg).2)
theorem Own.mono {B' : Nat} (h : Own w B E k enc v xs) (hB : B' ≤ B) : Own w B' E k enc v xs := by
 obtain ⟨h1, h2⟩ := h
 refine ⟨h1, ?_⟩
 rcases h2 with h2 | ⟨g, cap, cur, rfl, hB', r⟩
 · exact .inl h2
 · exact .inr ⟨g, cap, cur, rfl, by omega, r⟩
theorem Own.new (w : World) (B : Nat) (E : TypeId) [hc : Cells enc k] (cs : Array Value) (xs : List α) (hB : B ≤ w.heap.size) (he : cs.toList = xs.flatMap enc) (hle : xs.length ≤ maxLen) :
   Own (w.alloc (.cells cs E)) B E k enc (.slice (some ⟨w.heap.size, 0, none⟩) xs.length xs.length) xs := by
 have hs : cs.size = xs.length * k := by rw [← Array.length_toList, he, flat_len (hc := hc)]
 refine ⟨flat_len xs, .inr ⟨w.heap.size, xs.length, cs, rfl, hB, alloc_new w _, Nat.le_refl _, hle, hs, ?_⟩⟩
 rw [List.take_of_length_le (by rw [Array.length_toList, hs]; exact Nat.le_refl _), he]

theorem run_app [hc : Cells enc k] {P : Program} (t ty : TypeId) (i : TypeInfo) (z : Value) (bytes : Nat) (ht : P.underlying t = some (.slice E)) (hi : P.info? E = some i) (hz : i.zero = some z)
   (hsize : i.size = k) (hby : i.bytes = bytes) (hzs : z.cells.size = k) (hown : Own w B E k enc v xs)
   {a : Option Addr} {m c : Nat} {ys : List α} (hr : Row w k enc a m c ys) (hbytes : (xs.length + m) * bytes ≤ 140737488355328) (h63 : xs.length + m ≤ maxLen) (hbase : B ≤ w.heap.size) :
   ∃ a' c' w', (Builtin.append_ #[t, t] ty #[v, .slice a m c]).run P w = .ok (.slice a' (xs ++ ys).length c') w' ∧ Own w' B E k enc (.slice a' (xs ++ ys).length c') (xs ++ ys) ∧ w.grownBy w' v.ownBlock ∧
     ((Value.slice a' (xs ++ ys).length c').ownBlock = v.ownBlock ∨ (Value.slice a' (xs ++ ys).length c').ownBlock = some w.heap.size) := by
 cases a with
 | none =>
   obtain ⟨rfl, rfl, rfl⟩ := hr.none_
   obtain ⟨a, c, rfl, _, _⟩ := hown.shape
   refine ⟨a, c, w, ?_, ?_, World.grownBy.refl w _, .inl ?_⟩
   · simpa using run_append_owned_none (P := P) (w := w) B t ty E i k ht hi _ _ _ hown
   · simpa using hown
   · rw [List.append_nil]
 | some ad =>
   have hm : ys.length = m := hr.len
   have hcells : ∀ j u, (ys.flatMap enc)[j]? = some u → w.cell? (ad.add j) = some u := by
     intro j u hu
     obtain ⟨i', x, j', hx, hv, he⟩ := get_flat (hc := hc) ys j u hu
     obtain ⟨b, o, ha, hcell⟩ := hr.2.2.2.2 i' x hx
     injection ha with ha
     subst ha
     have h := hcell j' u hv
     rw [he]
     unfold Addr.add
     split
     · rename_i h0
       rw [show o + i' * k + j' = o by omega] at h; exact h
     · rw [← Nat.add_assoc]; exact h
   obtain ⟨v', w', hrun, h1, h2, _, h4⟩ := run_append_own_at (P := P) w B t ty E i z k bytes ht hi hz hsize hby hzs hc.pos v xs.length (xs.flatMap enc) hown ad m c (ys.flatMap enc) (by rw [flat_len (hc := hc), hm]) hcells (flat_one (hc := hc) ys) h63 hbytes hbase
   have hown' : Own w' B E k enc v' (xs ++ ys) := by
     unfold Own
     rw [List.flatMap_append, List.length_append, hm]; exact h1
   obtain ⟨a', c', rfl, _, _⟩ := hown'.shape
   exact ⟨a', c', w', hrun, hown', h2, h4⟩

theorem wp_app [hc : Cells enc k] {P : Program} {o : Oper} {ac : Act} {K : Act → World → Prop} {Q : Exit → Act → World → Prop} (s x : Operand) (t : TypeId)
   (ho : o.op = .call { callee := .builtin .append, args := #[s, x], argTypes := #[t, t] }) (i : TypeInfo) (z : Value) (bytes : Nat) (ht : P.underlying t = some (.slice E)) (hi : P.info? E = some i) (hz : i.zero = some z)
   (hsize : i.size = k) (hby : i.bytes = bytes) (hzs : z.cells.size = k) (hs : ac.eval s = v) (hown : Own w B E k enc v xs)
   (a : Option Addr) (m c N : Nat) (ys : List α) (hx : ac.eval x = .slice a m c) (hr : Row w k enc a m c ys) (hN : xs.length + m = N) (hbytes : N * bytes ≤ 140737488355328) (h63 : N ≤ maxLen) (hbase : B ≤ w.heap.size)
   (h : ∀ a' c' w', Own w' B E k enc (.slice a' N c') (xs ++ ys) → w.grownBy w' v.ownBlock → ((Value.slice a' N c').ownBlock = v.ownBlock ∨ (Value.slice a' N c').ownBlock = some w.heap.size) → K (ac.put o.dst (.slice a' N c')) w') : o.wp P ac w K Q := by
 subst hN
 obtain ⟨a', c', w', hrun, h2, h3, h4⟩ := run_app (P := P) t o.type i z bytes ht hi hz hsize hby hzs hown hr hbytes h63 hbase
 have hl : (xs ++ ys).length = xs.length + m := by rw [List.length_append, hr.len]
 rw [hl] at hrun h2 h4
 unfold Oper.wp execOp
 simp only [ho, resolve, invoke, builtin, Sem.run_bind, Sem.run_pure, Result.andThen_ok, List.map_toArray, List.map_cons, List.map_nil, hs, hx, hrun]
 exact h a' c' w' h2 h3 h4
theorem wpList_app [hc : Cells enc k] {P : Program} {ops : Array Oper} {rest : List Oper} {o : Oper} {ac : Act} {Q : Exit → Act → World → Prop} (hgd : o.guard = none) (s x : Operand) (t : TypeId)
   (ho : o.op = .call { callee := .builtin .append, args := #[s, x], argTypes := #[t, t] }) (i : TypeInfo) (z : Value) (bytes : Nat) (ht : P.underlying t = some (.slice E)) (hi : P.info? E = some i) (hz : i.zero = some z)
   (hsize : i.size = k) (hby : i.bytes = bytes) (hzs : z.cells.size = k) (hs : ac.eval s = v) (hown : Own w B E k enc v xs)
   (a : Option Addr) (m c N : Nat) (ys : List α) (hx : ac.eval x = .slice a m c) (hr : Row w k enc a m c ys) (hN : xs.length + m = N) (hbytes : N * bytes ≤ 140737488355328) (h63 : N ≤ maxLen) (hbase : B ≤ w.heap.size)
   (h : ∀ a' c' w', Own w' B E k enc (.slice a' N c') (xs ++ ys) → w.grownBy w' v.ownBlock → ((Value.slice a' N c').ownBlock = v.ownBlock ∨ (Value.slice a' N c').ownBlock = some w.heap.size) → wpList P ops Q rest (ac.put o.dst (.slice a' N c')) w') :
   wpList P ops Q (o :: rest) ac w :=
 wpList_plain hgd fun _ hK => wp_app s x t ho i z bytes ht hi hz hsize hby hzs hs hown a m c N ys hx hr hN hbytes h63 hbase fun a' c' w' h2 h3 h4 => hK _ _ (h a' c' w' h2 h3 h4)

theorem below_app {D : Nat} {a0 : World} (hb : Below D a0 w) (hown : Own w B E k enc v xs) (hD : D ≤ B) (hsz : D ≤ w.heap.size) (hg : w.grownBy w' v.ownBlock) : Below D a0 w' :=
 hb.grown hg hsz fun g e => Nat.le_trans hD (hown.lt g e).1
end
end Yd


namespace Yd
open Go Go.RowKit Go.Proofs

structure LnS where
 kind : Int
 names : List Bs
 lvl : Int
 vers : List To
 first : Bool
 bits : Int
 deriving DecidableEq
def LnAt (w : World) (B : Nat) (l : LnC) (s : LnS) : Prop :=
 (l.kind = s.kind ∧ l.lvl = s.lvl ∧ l.first = s.first ∧ l.bits = s.bits ∧ l.nn = s.names.length ∧ l.vn = s.vers.length) ∧
 Own w B 9 1 encStr (.slice l.na l.nn l.nc) s.names ∧ Own w B 67 2 encTo (.slice l.va l.vn l.vc) s.vers
theorem LnAt.below {w w' : World} {B : Nat} {l : LnC} {s : LnS} (h : LnAt w B l s) (hb : Below w.heap.size w w') : LnAt w' B l s := ⟨h.1, h.2.1.below hb rfl, h.2.2.below hb rfl⟩
theorem LnAt.mono {w : World} {B B' : Nat} {l : LnC} {s : LnS} (h : LnAt w B l s) (hB : B' ≤ B) : LnAt w B' l s := ⟨h.1, h.2.1.mono hB, h.2.2.mono hB⟩
end Yd


namespace Yd
open Go Go.RowKit Go.Proofs

theorem Bx.grown {X w' : World} {b : Nat} {cs : Array Value} {row : Option Nat} (h : Bx X b cs) (hg : X.grownBy w' row) (hne : row ≠ some b) : Bx w' b cs :=
 h.of_eq hg.size (hg.block b h.2.2 (fun e => hne e.symm))
theorem Bx.new1 {X : World} {b : Nat} {cs : Array Value} {T : TypeId} (h : X.heap.size = b) : Bx (X.alloc (.cells cs T)) b cs := h ▸ Bx.new X cs T
theorem Row.str1 (w : World) (s : Bs) : Row (w.alloc (.cells #[.string ⟨s.toArray⟩] 9)) 1 encStr (some ⟨w.heap.size, 0, none⟩) 1 1 [s] :=
 (Own.new (hc := cInsStr) w w.heap.size 9 #[.string ⟨s.toArray⟩] [s] (Nat.le_refl _) rfl (by simp [maxLen])).row (by simp)

theorem Row.strN {X : World} {g : Nat} (h : X.heap.size = g) (s : Bs) : Row (X.alloc (.cells #[.string ⟨s.toArray⟩] 9)) 1 encStr (some ⟨g, 0, none⟩) 1 1 [s] := h ▸ Row.str1 X s
theorem Row.drew {α : Type} {w : World} {k : Nat} {enc : α → List Value} {a : Option Addr} {n c : Nat} {xs : List α} (h : Row w k enc a n c xs) : Row w.drew k enc a n c xs := h

end Yd


namespace Yd
open Go Go.RowKit Go.Proofs

theorem Same.refl' {A : Nat → Prop} (X : World) : Same A X X := ⟨rfl, rfl, rfl, Nat.le_refl _, fun _ _ _ => rfl⟩
section
variable {α : Type} {enc : α → List Value} {k : Nat} {w w' : World} {B : Nat} {E : TypeId} {v : Value} {xs : List α}
theorem Own.grown (h : Own w B E k enc v xs) {row : Option Nat} (hg : w.grownBy w' row) (hne : ∀ g, v.ownBlock = some g → row ≠ some g) : Own w' B E k enc v xs :=
 h.block fun g hg' => hg.block g (h.lt g hg').2 (fun e => hne g hg' e.symm)
theorem Own.same (h : Own w B E k enc v xs) {A : Nat → Prop} (hs : Same A w w') (hA : ∀ g, v.ownBlock = some g → A g) : Own w' B E k enc v xs := h.block fun g hg => hs.block g (hA g hg) (h.lt g hg).2
theorem Own.tag (h : Own w B E k enc v xs) {g : Nat} (hg : v.ownBlock = some g) : ∃ cs fz, w.heap[g]? = some (.cells cs E fz) := by
 rcases h.2 with ⟨rfl, _⟩ | ⟨g', cap, cur, rfl, _, hh, _⟩
 · cases hg
 · obtain rfl : g' = g := by simpa [Value.ownBlock] using hg
   exact ⟨_, _, hh⟩
theorem Own.apart {β : Type} {enc' : β → List Value} {k' B' : Nat} {E' : TypeId} {v' : Value} {ys : List β} (h : Own w B E k enc v xs) (h' : Own w B' E' k' enc' v' ys) (hE : E ≠ E') : ∀ g, v.ownBlock = some g → v'.ownBlock ≠ some g := fun g hg hg' => by
 obtain ⟨cs, fz, e1⟩ := h.tag hg
 obtain ⟨cs', fz', e2⟩ := h'.tag hg'
 rw [e1] at e2
 cases e2
 exact hE rfl
theorem Own.far' (h : Own w B E k enc v xs) {i : Nat} (hi : i < B ∨ w.heap.size ≤ i) : v.ownBlock ≠ some i := fun e => by
 have := h.lt i e; omega
end
structure Kept (w : World) (l : LnC) (w' : World) : Prop where
 size : w.heap.size ≤ w'.heap.size
 block : ∀ i, i < w.heap.size → some i ≠ (Value.slice l.na l.nn l.nc).ownBlock → some i ≠ (Value.slice l.va l.vn l.vc).ownBlock → w'.heap[i]? = w.heap[i]?
def Grew (w : World) (l l' : LnC) : Prop :=
 (∀ g, (Value.slice l'.na l'.nn l'.nc).ownBlock = some g → (Value.slice l.na l.nn l.nc).ownBlock = some g ∨ w.heap.size ≤ g) ∧ (∀ g, (Value.slice l'.va l'.vn l'.vc).ownBlock = some g → (Value.slice l.va l.vn l.vc).ownBlock = some g ∨ w.heap.size ≤ g)
end Yd


namespace Yd
open Go Go.RowKit Go.Proofs

theorem Bx.setC {X : World} {b : Nat} {cs : Array Value} (h : Bx X b cs) (i : Nat) (hi : i < cs.size) (v : Value) : Bx (X.setCell ⟨b, i, none⟩ v) b (cs.setIfInBounds i v) := by
 refine ⟨fun j => ?_, fun j => by rw [World.frozen?_setCell]; exact h.2.1 j, by have := h.2.2; simpa [World.setCell] using this⟩
 by_cases hj : j = i
 · subst hj
   rw [World.cell?_setCell_same' _ _ _ (by rw [h.1 j, Array.getElem?_eq_getElem hi]; rfl), Array.getElem?_setIfInBounds_self_of_lt hi]
 · rw [World.cell?_setCell_other _ _ _ _ (fun e => by cases e; exact hj rfl), h.1 j, Array.getElem?_setIfInBounds_ne (fun e => hj e.symm)]
theorem Row.toN {X : World} {g : Nat} (h : X.heap.size = g) (s : To) : Row (X.alloc (.cells #[.string ⟨s.name.toArray⟩, .int .i64 s.k] 67)) 2 encTo (some ⟨g, 0, none⟩) 1 1 [s] :=
 h ▸ (Own.new (hc := cInsTo) X X.heap.size 67 #[.string ⟨s.name.toArray⟩, .int .i64 s.k] [s] (Nat.le_refl _) rfl (by simp [maxLen])).row (by simp)
end Yd


namespace Yd
open Go Go.RowKit Go.Proofs

theorem heap_set_same {w : World} {b i : Nat} {cs : Array Value} {T : TypeId} {fr : Nat × Nat} (hb : w.heap[b]? = some (.cells cs T fr)) (v : Value) : (w.setCell ⟨b, i, none⟩ v).heap[b]? = some (.cells (cs.setIfInBounds i v) T fr) := by
 simp [World.setCell, Array.getElem?_modify, hb]
section
variable {α : Type} {enc : α → List Value} {k : Nat}
theorem flat_set [hc : Cells enc k] : ∀ (xs : List α) (i j : Nat) (x y : α) (v : Value), xs[i]? = some x → j < k → (enc x).set j v = enc y → (xs.flatMap enc).set (i * k + j) v = (xs.set i y).flatMap enc
 | [], i, j, x, y, v, h, _, _ => by simp at h
 | a :: xs, 0, j, x, y, v, h, hj, he => by
   obtain rfl : a = x := by simpa using h
   rw [List.flatMap_cons, List.set_cons_zero, List.flatMap_cons, Nat.zero_mul, Nat.zero_add, List.set_append_left _ _ (by rw [hc.len]; exact hj), he]
 | a :: xs, i + 1, j, x, y, v, h, hj, he => by
   have ih := flat_set xs i j x y v (by simpa using h) hj he
   rw [List.flatMap_cons, List.set_cons_succ, List.flatMap_cons, List.set_append_right _ _ (by rw [hc.len, Nat.succ_mul]; omega), hc.len, ← ih]
   congr 2
   rw [Nat.succ_mul]; omega
theorem Own.put [hc : Cells enc k] {w : World} {B g n c i j : Nat} {E : TypeId} {xs : List α} {x y : α} {v : Value} (h : Own w B E k enc (.slice (some ⟨g, 0, none⟩) n c) xs) (hx : xs[i]? = some x) (hj : j < k) (he : (enc x).set j v = enc y) :
   Own (w.setCell ⟨g, i * k + j, none⟩ v) B E k enc (.slice (some ⟨g, 0, none⟩) n c) (xs.set i y) := by
 obtain ⟨h1, h2⟩ := h
 refine ⟨flat_len _, ?_⟩
 rcases h2 with ⟨e, _⟩ | ⟨g', cap, cur, e, hB, hh, hn, hm, hs, ht⟩
 · cases e
 · injection e with e1 e2 e3
   injection e1 with e1
   injection e1 with e1
   subst e1
   refine .inr ⟨g, cap, cur.setIfInBounds (i * k + j) v, ?_, hB, heap_set_same hh v, by rw [List.length_set]; exact hn, hm, by rw [Array.size_setIfInBounds]; exact hs, ?_⟩
   · rw [List.length_set, e2, e3]
   · rw [List.length_set, Array.toList_setIfInBounds, List.take_set, ht]
     exact flat_set xs i j x y v hx hj he
end
end Yd
