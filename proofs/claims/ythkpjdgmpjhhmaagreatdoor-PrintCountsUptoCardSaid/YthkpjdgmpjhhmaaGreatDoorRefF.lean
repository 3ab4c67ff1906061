import Derived.Test.YthkpjdgmpjhhmaaGreatDoorCheck
import Derived.Test.YthkpjdgmpjhhmaaGreatDoorOwnSt
import Derived.Test.YthkpjdgmpjhhmaaGreatDoorProg
import Derived.Test.YthkpjdgmpjhhmaaGreatDoorRefE
import Derived.Test.YthkpjdgmpjhhmaaGreatDoorRST
import Derived.Test.YthkpjdgmpjhhmaaGreatDoorCount
import Derived.Test.YthkpjdgmpjhhmaaGreatDoorLawOwn
namespace Yd
open Go Go.RowKit Go.Proofs
attribute [local go_sem] Oper.semAt_some

section
variable (h : HC) (nl : Nat → List Bs) (es : List EvC) (ds : List OrC) (ms : List MaC) (qs : List Wa) (scan : EvC → List Sn) (dn : OrC → List Int) (mn : MaC → List Int) (w : World) (hg : GlobH w)
    (hn : ∀ i, i < 4 → Row w 1 encStr (h.nm i).a (h.nm i).n (h.nm i).c (nl i)) (hd : Deep w h es ds ms qs scan dn mn)
include hg hn hd
set_option maxRecDepth 100000 in
set_option maxHeartbeats 1000000 in
theorem pcount_no (hc : checkB h nl es ds ms qs scan dn mn = false) : Calls Tryz.prog 21 #[valH h] w (Ret2 (.agg #[.slice none 0 0, .slice none 0 0, .slice none 0 0, .slice none 0 0, .slice none 0 0, .slice none 0 0, .slice none 0 0, .slice none 0 0]) (.int .i64 210) w) := by
  have hb0 := belowA (belowA (Below.refl w.heap.size w) (.cells (cellsH h) 28)) (.cells #[.slice none 0 0, .slice none 0 0, .slice none 0 0, .slice none 0 0, .slice none 0 0, .slice none 0 0, .slice none 0 0, .slice none 0 0] 28)
  have HC := hid (check_any h nl es ds ms qs scan dn mn _ (hg.below hb0) (fun i hi => (hn i hi).below hb0 rfl) (hd.below hb0 rfl))
  rw [hc] at HC
  have HB := hid hb0
  have HX1 : Hid (Bx ((w.alloc (.cells (cellsH h) 28)).alloc (.cells #[.slice none 0 0, .slice none 0 0, .slice none 0 0, .slice none 0 0, .slice none 0 0, .slice none 0 0, .slice none 0 0, .slice none 0 0] 28)) (w.heap.size + 1) #[.slice none 0 0, .slice none 0 0, .slice none 0 0, .slice none 0 0, .slice none 0 0, .slice none 0 0, .slice none 0 0, .slice none 0 0]) := hid (Bx.new1 (by simp))
  have HX0 := hid ((Bx.new w (cellsH h) 28).alloc (.cells #[.slice none 0 0, .slice none 0 0, .slice none 0 0, .slice none 0 0, .slice none 0 0, .slice none 0 0, .slice none 0 0, .slice none 0 0] 28))
  clear hg hn hd hc hb0
  go_enter Tryz.func21, Tryz.ntmps21
  have hx0 := HX0.out.1; have hy0 := HX0.out.2.2
  go_wp2_with fail
  refine HC.out.mono ?_
  rintro e w1 ⟨rfl, hb1⟩
  have HB1 := hid (HB.out.trans (hb1.mono HB.out.size))
  have hx1 := HX1.out.keep hb1
  have hc2 := hx1.1; have hf2 := hx1.2.1; have hl2 := hx1.2.2
  clear hb1 hx1 hx0 hy0
  rw [show checkE false = 210 from rfl]
  go_wp2_with fail
  refine bodyPost_ret (v := .tuple #[.agg #[.slice none 0 0, .slice none 0 0, .slice none 0 0, .slice none 0 0, .slice none 0 0, .slice none 0 0, .slice none 0 0, .slice none 0 0], .int .i64 210]) (by simp [results, Tryz.results21, go_sem, hc2]) rfl ⟨rfl, ?_⟩
  have hs : ∀ Z, Same (fun g => g ≠ w.heap.size + 1) w1 Z → Below w.heap.size w Z := fun Z hZ => hZ.below HB1.out (fun g hg => by show g ≠ w.heap.size + 1; omega) HB1.out.size
  refine hs _ ?_
  repeat (first | (with_reducible exact Same.refl' _) | (refine Same.setTail ?_ (fun hn => hn rfl)))
end
end Yd


namespace Yd
open Go Go.RowKit Go.Proofs

/-- A cell of a block of rows is written: each row of this kind of cells is still one, of as many. -/
theorem Own.poke {α : Type} {enc : α → List Value} {k : Nat} [hc : Cells enc k] {w : World} {B g o j : Nat} {E : TypeId} {v u : Value} {xs : List α} (h : Own w B E k enc v xs) (hj : j < k) (he : ∀ x : α, ∃ y : α, (enc x).set j u = enc y) :
    ∃ ys : List α, ys.length = xs.length ∧ Own (w.setCell ⟨g, o * k + j, none⟩ u) B E k enc v ys := by
  by_cases hg : v.ownBlock = some g
  · obtain ⟨a, c, rfl, h0, hlc⟩ := h.shape
    obtain ⟨g', rfl⟩ : ∃ g', a = some ⟨g', 0, none⟩ := by
      obtain ⟨h1, h2⟩ := h
      rcases h2 with ⟨e, _⟩ | ⟨g', cap, cur, e, _⟩
      · rw [e] at hg; cases hg
      · injection e with e1 e2 e3
        exact ⟨g', e1⟩
    have hgg : g' = g := by
      have : (Value.slice (some ⟨g', 0, none⟩) xs.length c).ownBlock = some g' := rfl
      rw [this] at hg
      injection hg
    subst hgg
    by_cases ho : o < xs.length
    · obtain ⟨y, hy⟩ := he xs[o]
      exact ⟨xs.set o y, List.length_set, h.put (List.getElem?_eq_getElem ho) hj hy⟩
    · refine ⟨xs, rfl, ?_⟩
      obtain ⟨h1, h2⟩ := h
      rcases h2 with ⟨e, _⟩ | ⟨g2, cap, cur, e, hB, hh, hn, hm, hs, ht⟩
      · cases e
      · injection e with e1 e2 e3
        injection e1 with e1
        injection e1 with e1
        subst e1
        refine ⟨h1, .inr ⟨g', cap, cur.setIfInBounds (o * k + j) u, by rw [e3], hB, heap_set_same hh u, hn, hm, by rw [Array.size_setIfInBounds]; exact hs, ?_⟩⟩
        rw [Array.toList_setIfInBounds, List.take_set_of_le (by have := Nat.mul_le_mul_right k (show xs.length ≤ o by omega); omega)]
        exact ht
  · exact ⟨xs, rfl, h.same ((Same.refl' w).setTail (A := fun i => i ≠ g) (b := g) (o := o * k + j) (v := u) (fun hn => hn rfl)) (fun i hi e => hg (by rw [← e]; exact hi))⟩
/-- Each of these elements leads to a row of the call's own, whatever is in it. -/
def Any {α β : Type} (X : World) (B : Nat) (T : TypeId) (k : Nat) (enc : β → List Value) (sl : α → Sl) (xs : List α) : Prop := ∀ x ∈ xs, ∃ L : List β, L.length ≤ 2000000 ∧ Own X B T k enc (sl x).v L
section
variable {α β : Type} {X Y : World} {B : Nat} {T : TypeId} {k : Nat} {enc : β → List Value} {sl : α → Sl} {xs : List α}
theorem Any.poke [hc : Cells enc k] (h : Any X B T k enc sl xs) {g o j : Nat} {u : Value} (hj : j < k) (he : ∀ x : β, ∃ y : β, (enc x).set j u = enc y) : Any (X.setCell ⟨g, o * k + j, none⟩ u) B T k enc sl xs := fun x hx => by
  obtain ⟨L, h1, h2⟩ := h x hx
  obtain ⟨L', h3, h4⟩ := h2.poke (hc := hc) (g := g) (o := o) hj he
  exact ⟨L', by omega, h4⟩
theorem Any.same (h : Any X B T k enc sl xs) {g : Nat} {cs : Array Value} {T' : TypeId} {fz : Nat × Nat} (hg : X.heap[g]? = some (.cells cs T' fz)) (hT : T ≠ T') (hs : Same (fun i => i ≠ g) X Y) : Any Y B T k enc sl xs := fun x hx => by
  obtain ⟨L, h1, h2⟩ := h x hx
  exact ⟨L, h1, h2.apartBox ⟨cs, fz, hg⟩ hT hs⟩
theorem Any.below (h : Any X B T k enc sl xs) (hb : Below X.heap.size X Y) : Any Y B T k enc sl xs := fun x hx => by
  obtain ⟨L, h1, h2⟩ := h x hx
  exact ⟨L, h1, h2.below hb rfl⟩
theorem Any.set (h : Any X B T k enc sl xs) {i : Nat} {x y : α} (hx : xs[i]? = some x) (hy : sl y = sl x) : Any X B T k enc sl (xs.set i y) := fun z hz => by
  rcases List.mem_or_eq_of_mem_set hz with hz | rfl
  · exact h z hz
  · rw [hy]; exact h x (List.mem_of_getElem? hx)
end
end Yd


namespace Yd
open Go Go.RowKit Go.Proofs

theorem numL_len {es : List EvC} : ∀ (k : Nat), k ≤ es.length → (numL es k).length = k
  | 0, _ => rfl
  | k + 1, h => by
    rw [numL_succ (List.getElem?_eq_getElem (by omega : k < es.length)), List.length_append, numL_len k (by omega)]; rfl
theorem numL_get {es : List EvC} : ∀ (k : Nat), k ≤ es.length → ∀ (i : Nat) (e : EvC), i < k → es[i]? = some e → (numL es k)[i]? = some (cntE (es.take i) e)
  | 0, _, i, e, h, _ => absurd h (Nat.not_lt_zero _)
  | k + 1, hk, i, e, h, he => by
    rw [numL_succ (List.getElem?_eq_getElem (by omega : k < es.length))]
    by_cases hik : i < k
    · rw [List.getElem?_append_left (by rw [numL_len k (by omega)]; exact hik)]
      exact numL_get k (by omega) i e hik he
    · obtain rfl : i = k := by omega
      rw [List.getElem?_append_right (by rw [numL_len i (by omega)]; exact Nat.le_refl _), numL_len i (by omega), Nat.sub_self]
      rw [List.getElem?_eq_getElem (by omega : i < es.length)] at he
      injection he with he
      rw [he]; rfl
theorem cntK_base (x : EvC) (l : List EvC) : cntK x.base (l.map EvC.base) = cntK x l := by
  unfold cntK
  rw [List.countP_map]
  rfl
theorem cntE_base (l : List EvC) (e : EvC) : (cntE l e).base = cntE (l.map EvC.base) e.base := by
  unfold cntE
  rw [show e.base.kind = e.kind from rfl, cntK_base]
  split <;> rfl
theorem cntE_sl (l : List EvC) (e : EvC) : (cntE l e).sl = e.sl := by
  unfold cntE
  split <;> rfl
theorem numL_base (es : List EvC) (k : Nat) : (numL es k).map EvC.base = numL (es.map EvC.base) k := by
  unfold numL
  rw [List.map_filterMap]
  congr 1
  funext i
  rw [List.getElem?_map]
  cases es[i]? with
  | none => rfl
  | some e => simp [cntE_base, List.map_take]
theorem overB_base (es : List EvC) : overB (es.map EvC.base) = overB es := by
  unfold overB
  rw [List.length_map, ← numL_base, List.any_map]
  rfl
/-- What a numbered history says. -/
def Cont.num (c : Cont) : Cont := { c with E := numL c.E c.E.length }
theorem count_says {w w' : World} {h : HC} {c : Cont} {es : List EvC} {ds : List OrC} {ms : List MaC} {scan : EvC → List Sn} {dn : OrC → List Int} {mn : MaC → List Int} {a : Option Addr} {cc : Nat}
    (hs : Says w h c es ds ms scan dn mn) (hL : ∀ L ∈ c.SE, L.length ≤ 2000000) (he : h.e.n ≤ 2000000) (ho : Own w' w.heap.size 49 9 encEv (.slice a h.e.n cc) (numL es h.e.n)) (hb : Below w.heap.size w w') :
    ∃ scan', Says w' { h with e := ⟨a, h.e.n, cc⟩ } c.num (numL es h.e.n) ds ms scan' dn mn := by
  have hlen : es.length = h.e.n := hs.d.1.len
  have hsl : Sls w w' 69 3 encSn EvC.sl (numL es h.e.n) c.SE := by
    refine ⟨by rw [numL_len _ (by omega), ← hs.se, List.length_map, hlen], fun i x L hx hLi => ?_⟩
    have hi : i < h.e.n := by
      have := (List.getElem?_eq_some_iff.1 hx).1
      rwa [numL_len _ (by omega)] at this
    obtain ⟨e, hei⟩ : ∃ e, es[i]? = some e := ⟨_, List.getElem?_eq_getElem (by omega : i < es.length)⟩
    rw [numL_get _ (by omega) i e hi hei] at hx
    injection hx with hx
    have hse : L = scan e := by
      rw [← hs.se, List.getElem?_map, hei] at hLi
      injection hLi with hLi
      exact hLi.symm
    refine ⟨hL L (List.mem_of_getElem? hLi), .inl ?_⟩
    rw [← hx, cntE_sl, hse]
    exact hs.d.2.2.2.2.1 e (List.mem_of_getElem? hei)
  obtain ⟨g1, g2⟩ := hsl.eps (hc := cInsSn) inj_sn hb
  refine ⟨_, ⟨⟨ho.row (hc := cInsEv) (by rw [numL_len _ (by omega)]; omega), (hs.d.2.1).below hb rfl, (hs.d.2.2.1).below hb rfl, (hs.d.2.2.2.1).below hb rfl, g1, fun x hx => (hs.d.2.2.2.2.2.1 x hx).below hb rfl, fun x hx => (hs.d.2.2.2.2.2.2 x hx).below hb rfl⟩, ?_, ?_, hs.bd, hs.bm, g2, hs.sd, hs.sm⟩⟩
  · intro i hi
    match i, hi with
    | 0, h0 => exact (hs.n 0 h0).below hb rfl
    | 1, h0 => exact (hs.n 1 h0).below hb rfl
    | 2, h0 => exact (hs.n 2 h0).below hb rfl
    | 3, h0 => exact (hs.n 3 h0).below hb rfl
  · rw [numL_base, hs.be]
    show numL c.E h.e.n = numL c.E c.E.length
    rw [← hs.be, List.length_map, hlen]
end Yd


namespace Yd
open Go Go.RowKit Go.Proofs

theorem Own.apartMap {α : Type} {enc : α → List Value} {k : Nat} {X Y : World} {B b : Nat} {T : TypeId} {v : Value} {xs : List α} {L : List (Int × Int)} (h : Own X B T k enc v xs) (hm : MapC X b L) (hs : Same (fun i => i ≠ b) X Y) : Own Y B T k enc v xs :=
  h.same hs (fun g hg e => by
    subst e
    obtain ⟨cs', fz', e'⟩ := h.tag hg
    obtain ⟨D, _, ⟨es, clock, hb, _⟩, _⟩ := hm
    rw [hb] at e'
    cases e')
theorem Lst.apartMap {β : Type} {w X Y : World} {T : TypeId} {k : Nat} {enc : β → List Value} {s : Sl} {l : List β} {b : Nat} {L : List (Int × Int)} (h : Lst w X T k enc s l) (hm : MapC X b L) (hs : Same (fun i => i ≠ b) X Y) : Lst w Y T k enc s l := by
  obtain ⟨hL, h | h⟩ := h
  · exact ⟨hL, .inl h⟩
  · exact ⟨hL, .inr (h.apartMap hm hs)⟩
theorem Sls.apartMap {α β : Type} {w X Y : World} {T : TypeId} {k : Nat} {enc : β → List Value} {sl : α → Sl} {xs : List α} {Ls : List (List β)} {b : Nat} {L : List (Int × Int)} (h : Sls w X T k enc sl xs Ls) (hm : MapC X b L) (hs : Same (fun i => i ≠ b) X Y) : Sls w Y T k enc sl xs Ls :=
  ⟨h.1, fun i x l h1 h2 => (h.2 i x l h1 h2).apartMap hm hs⟩
theorem set_same (X : World) (g o : Nat) (v : Value) : Same (fun i => i ≠ g) X (X.setCell ⟨g, o, none⟩ v) := (Same.refl' X).setTail (fun hn => hn rfl)
theorem MapC.ne {X : World} {b g : Nat} {L : List (Int × Int)} (hm : MapC X b L) {cs : Array Value} {T : TypeId} {fz : Nat × Nat} (hg : X.heap[g]? = some (.cells cs T fz)) : g ≠ b := fun e => by
  subst e
  obtain ⟨D, _, ⟨es, clock, hb, _⟩, _⟩ := hm
  rw [hb] at hg
  cases hg
theorem MapC.set {X : World} {b : Nat} {L : List (Int × Int)} (hm : MapC X b L) {g : Nat} {cs : Array Value} {T : TypeId} {fz : Nat × Nat} (hg : X.heap[g]? = some (.cells cs T fz)) (o : Nat) (v : Value) : MapC (X.setCell ⟨g, o, none⟩ v) b L :=
  hm.of_eq (((Same.refl' X).setTail (A := fun i => i ≠ g) (b := g) (o := o) (v := v) (fun hn => hn rfl)).block b (fun e => hm.ne hg e.symm) hm.lt)
theorem Sls.setEq {α β : Type} {w X : World} {T : TypeId} {k : Nat} {enc : β → List Value} {sl : α → Sl} {xs : List α} {Ls : List (List β)} (h : Sls w X T k enc sl xs Ls) {i : Nat} {x y : α} (hx : xs[i]? = some x) (he : sl y = sl x) : Sls w X T k enc sl (xs.set i y) Ls := by
  refine ⟨by rw [List.length_set]; exact h.1, fun j z L h1 h2 => ?_⟩
  rw [List.getElem?_set] at h1
  split at h1
  · rename_i e
    subst e
    split at h1
    · injection h1 with h1
      subst h1
      rw [he]
      exact h.2 i x L hx h2
    · cases h1
  · exact h.2 j z L h1 h2
section
variable {w X Y : World} {h : HC} {es : List EvC} {ds : List OrC} {ms : List MaC} {c : Cont}
theorem St.apartMap (s : St w X h es ds ms c) {b : Nat} {L : List (Int × Int)} (hb : w.heap.size ≤ b) (hm : MapC X b L) (hs : Same (fun i => i ≠ b) X Y) : St w Y h es ds ms c := by
  obtain ⟨cs, fz, ht⟩ := s.tg
  obtain ⟨cs2, fz2, ht2⟩ := s.t2
  have hg := hm.ne ht; have hg2 := hm.ne ht2
  exact ⟨hs.below s.b (fun i hi => by show i ≠ b; omega) s.b.size, hs.bx s.bx hg, ⟨_, _, (hs.block _ hg s.bx.2.2).trans ht⟩, hs.bx s.b2 hg2, ⟨_, _, (hs.block _ hg2 s.b2.2.2).trans ht2⟩, s.e.apartMap hm hs, s.d.apartMap hm hs, s.m.apartMap hm hs, s.q.apartMap hm hs, fun i hi => (s.n i hi).apartMap hm hs, s.be, s.bd, s.bm, s.se.apartMap hm hs, s.sd.apartMap hm hs, s.sm.apartMap hm hs⟩
/-- A write's number is written. -/
theorem St.putK (s : St w X h es ds ms c) {g i : Nat} {x : EvC} (ho : Own X w.heap.size 49 9 encEv h.e.v es) (ha : h.e.a = some ⟨g, 0, none⟩) (hx : es[i]? = some x) (m : Int) :
    St w (X.setCell ⟨g, i * 9 + 6, none⟩ (.int .i64 m)) h (es.set i { x with v := ⟨x.v.t, m⟩ }) ds ms { c with E := c.E.set i { x.base with v := ⟨x.v.t, m⟩ } } ∧ Own (X.setCell ⟨g, i * 9 + 6, none⟩ (.int .i64 m)) w.heap.size 49 9 encEv h.e.v (es.set i { x with v := ⟨x.v.t, m⟩ }) := by
  have hob : h.e.v.ownBlock = some g := by simp only [Sl.v, ha]; rfl
  obtain ⟨cs, fz, ht⟩ := ho.tag hob
  have hlt := ho.lt g hob
  have hs : Same (fun i => i ≠ g) X (X.setCell ⟨g, i * 9 + 6, none⟩ (.int .i64 m)) := (Same.refl' X).setTail (fun hn => hn rfl)
  have ho' : Own (X.setCell ⟨g, i * 9 + 6, none⟩ (.int .i64 m)) w.heap.size 49 9 encEv h.e.v (es.set i { x with v := ⟨x.v.t, m⟩ }) := by
    have e : h.e.v = .slice (some ⟨g, 0, none⟩) h.e.n h.e.c := by simp only [Sl.v, ha]
    rw [e] at ho ⊢
    exact ho.put hx (by decide) rfl
  obtain ⟨cs0, fz0, ht0⟩ := s.tg
  have hg : w.heap.size ≠ g := fun e => by
    rw [e, ht] at ht0
    cases ht0
  obtain ⟨cs2, fz2, ht2⟩ := s.t2
  have hg2 : w.heap.size + 1 ≠ g := fun e => by
    rw [e, ht] at ht2
    cases ht2
  exact ⟨⟨hs.below s.b (fun i hi => by omega) s.b.size, hs.bx s.bx hg, ⟨_, _, (hs.block _ hg s.bx.2.2).trans ht0⟩, hs.bx s.b2 hg2, ⟨_, _, (hs.block _ hg2 s.b2.2.2).trans ht2⟩, ⟨by rw [List.length_set]; exact s.e.1, .inr ho'⟩, s.d.same ht (by decide) hs, s.m.same ht (by decide) hs, s.q.same ht (by decide) hs, fun j hj => (s.n j hj).same ht (by decide) hs, (by rw [← s.be, List.map_set]; rfl), s.bd, s.bm, (s.se.same ht (by decide) hs).setEq hx rfl, s.sd.same ht (by decide) hs, s.sm.same ht (by decide) hs⟩, ho'⟩
end
/-- Each of the first m elements leads to a row of the call's own. -/
def AnyTo {α β : Type} (X : World) (B : Nat) (T : TypeId) (k : Nat) (enc : β → List Value) (sl : α → Sl) (xs : List α) (m : Nat) : Prop := ∀ j x, j < m → xs[j]? = some x → ∃ L : List β, L.length ≤ 2000000 ∧ Own X B T k enc (sl x).v L
section
variable {α β : Type} {X Y : World} {B : Nat} {T : TypeId} {k : Nat} {enc : β → List Value} {sl : α → Sl} {xs : List α} {m : Nat}
theorem AnyTo.zero : AnyTo X B T k enc sl xs 0 := fun _j _x h => absurd h (Nat.not_lt_zero _)
theorem AnyTo.same (h : AnyTo X B T k enc sl xs m) {g : Nat} (hg : ∃ cs fz, ∃ T', X.heap[g]? = some (.cells cs T' fz) ∧ T ≠ T') (hs : Same (fun i => i ≠ g) X Y) : AnyTo Y B T k enc sl xs m := fun j x hj hx => by
  obtain ⟨L, h1, h2⟩ := h j x hj hx
  obtain ⟨cs, fz, T', hg, hT⟩ := hg
  exact ⟨L, h1, h2.apartBox ⟨cs, fz, hg⟩ hT hs⟩
theorem AnyTo.store (h : AnyTo X B T k enc sl xs m) {T' : TypeId} {g o : Nat} {v : Value} (hg : ∃ cs fz, X.heap[g]? = some (.cells cs T' fz)) (hT : T ≠ T') : AnyTo (X.setCell ⟨g, o, none⟩ v) B T k enc sl xs m := by
  obtain ⟨cs, fz, hg⟩ := hg
  exact h.same ⟨cs, fz, T', hg, hT⟩ ((Same.refl' X).setTail (fun hn => hn rfl))
theorem AnyTo.below (h : AnyTo X B T k enc sl xs m) (hb : Below X.heap.size X Y) : AnyTo Y B T k enc sl xs m := fun j x hj hx => by
  obtain ⟨L, h1, h2⟩ := h j x hj hx
  exact ⟨L, h1, h2.below hb rfl⟩
theorem AnyTo.apartMap (h : AnyTo X B T k enc sl xs m) {b : Nat} {L : List (Int × Int)} (hm : MapC X b L) (hs : Same (fun i => i ≠ b) X Y) : AnyTo Y B T k enc sl xs m := fun j x hj hx => by
  obtain ⟨l, h1, h2⟩ := h j x hj hx
  exact ⟨l, h1, h2.apartMap hm hs⟩
theorem AnyTo.snoc (h : AnyTo X B T k enc sl xs m) {y : α} {l : List β} (hl : l.length ≤ 2000000) (hy : Own X B T k enc (sl y).v l) : AnyTo X B T k enc sl (xs.set m y) (m + 1) := fun j x hj hx => by
  rw [List.getElem?_set] at hx
  split at hx
  · rename_i e
    subst e
    split at hx
    · injection hx with hx
      subst hx
      exact ⟨l, hl, hy⟩
    · cases hx
  · exact h j x (by omega) hx
theorem AnyTo.setEq (h : AnyTo X B T k enc sl xs m) {i : Nat} {x y : α} (hx : xs[i]? = some x) (hy : sl y = sl x) : AnyTo X B T k enc sl (xs.set i y) m := fun j z hj hz => by
  rw [List.getElem?_set] at hz
  split at hz
  · rename_i e
    subst e
    split at hz
    · injection hz with hz
      subst hz
      rw [hy]
      exact h i x hj hx
    · cases hz
  · exact h j z hj hz
theorem AnyTo.all (h : AnyTo X B T k enc sl xs xs.length) : Any X B T k enc sl xs := fun x hx => by
  obtain ⟨i, hi⟩ := List.mem_iff_getElem?.1 hx
  exact h i x (List.getElem?_eq_some_iff.1 hi).1 hi
end
/-- The first k writes numbered, the others as they were. -/
def numTo (E : List EvC) (k : Nat) : List EvC := numL E k ++ E.drop k
theorem numTo_zero (E : List EvC) : numTo E 0 = E := rfl
theorem numTo_all (E : List EvC) : numTo E E.length = numL E E.length := by unfold numTo; rw [List.drop_of_length_le (Nat.le_refl _), List.append_nil]
theorem numTo_get {E : List EvC} {k i : Nat} (hk : k ≤ E.length) (hi : k ≤ i) : (numTo E k)[i]? = E[i]? := by
  unfold numTo
  rw [List.getElem?_append_right (by rw [numL_len k hk]; exact hi), numL_len k hk, List.getElem?_drop]
  congr 1; omega
theorem numTo_set {E : List EvC} {k : Nat} {e : EvC} (h : E[k]? = some e) : (numTo E k).set k (cntE (E.take k) e) = numTo E (k + 1) := by
  have hk := (List.getElem?_eq_some_iff.1 h).1
  have hd : E.drop k = e :: E.drop (k + 1) := by
    rw [List.drop_eq_getElem_cons hk]
    rw [List.getElem?_eq_getElem hk] at h
    injection h with h
    rw [h]
  unfold numTo
  rw [hd, List.set_append_right _ _ (by rw [numL_len k (by omega)]; exact Nat.le_refl _), numL_len k (by omega), Nat.sub_self, List.set_cons_zero, numL_succ h, List.append_assoc]
  rfl
theorem numTo_same {E : List EvC} {k : Nat} {e : EvC} (h : E[k]? = some e) (hk : e.kind ≠ 2) : numTo E (k + 1) = numTo E k := by
  have hk' := (List.getElem?_eq_some_iff.1 h).1
  rw [← numTo_set h]
  have : cntE (E.take k) e = e := by unfold cntE; rw [if_neg hk]
  rw [this]
  apply List.ext_getElem?
  intro i
  rw [List.getElem?_set]
  split
  · rename_i hi
    subst hi
    have hl : k < (numTo E k).length := by unfold numTo; rw [List.length_append, numL_len k (by omega), List.length_drop]; omega
    rw [if_pos hl, numTo_get (by omega) (Nat.le_refl _), h]
  · rfl
/-- The pairs that the writes ahead of the k-th one write. -/
def metL (E : List EvC) (k : Nat) : List (Int × Int) := (E.take k).foldl stepL []
theorem stepL_len (L : List (Int × Int)) (e : EvC) : (stepL L e).length ≤ L.length + 1 := by
  unfold stepL
  split <;> simp
theorem foldL_len : ∀ (l : List EvC) (L : List (Int × Int)), (l.foldl stepL L).length ≤ L.length + l.length
  | [], L => Nat.le_refl _
  | e :: l, L => by
    rw [List.foldl_cons, List.length_cons]
    have h1 := foldL_len l (stepL L e)
    have h2 := stepL_len L e
    omega
theorem metL_len (E : List EvC) (k : Nat) : (metL E k).length ≤ k := by
  unfold metL
  have h1 := foldL_len (E.take k) []
  have h2 := List.length_take_le k E
  simp only [List.length_nil] at h1
  omega
theorem metL_succ {E : List EvC} {k : Nat} {e : EvC} (h : E[k]? = some e) : metL E (k + 1) = stepL (metL E k) e := by
  unfold metL
  rw [List.take_add_one, h]
  simp
theorem metL_count (E : List EvC) (k : Nat) (x : EvC) : (metL E k).count (x.t, x.obj) = cntK x (E.take k) := by
  unfold metL
  rw [count_step x (E.take k) []]
  simp
end Yd
