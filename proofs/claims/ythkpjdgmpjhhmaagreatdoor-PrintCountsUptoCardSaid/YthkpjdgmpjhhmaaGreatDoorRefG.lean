import Derived.Test.YthkpjdgmpjhhmaaGreatDoorPCntY
import Derived.Test.YthkpjdgmpjhhmaaGreatDoorProg
import Derived.Test.YthkpjdgmpjhhmaaGreatDoorLawOwn
import Derived.Test.YthkpjdgmpjhhmaaGreatDoorRefD
import Derived.Test.YthkpjdgmpjhhmaaGreatDoorRST
import Derived.Test.YthkpjdgmpjhhmaaGreatDoorRefF
namespace Yd
open Go Go.RowKit Go.Proofs

/-- Nothing. -/
@[reducible] def nilH : HC := ⟨⟨none, 0, 0⟩, ⟨none, 0, 0⟩, ⟨none, 0, 0⟩, ⟨none, 0, 0⟩, ⟨none, 0, 0⟩, ⟨none, 0, 0⟩, ⟨none, 0, 0⟩, ⟨none, 0, 0⟩⟩
def nilC : Cont := ⟨fun _ => [], [], [], [], [], [], [], []⟩
theorem nil_says (X : World) : Says X nilH nilC [] [] [] (fun _ => []) (fun _ => []) (fun _ => []) :=
  ⟨⟨Row.nil_, Row.nil_, Row.nil_, Row.nil_, fun x hx => by simp at hx, fun x hx => by simp at hx, fun x hx => by simp at hx⟩, fun i hi => by
    match i, hi with
    | 0, _ => exact Row.nil_
    | 1, _ => exact Row.nil_
    | 2, _ => exact Row.nil_
    | 3, _ => exact Row.nil_, rfl, rfl, rfl, rfl, rfl, rfl⟩
theorem cont_of_says {X : World} {h : HC} {c : Cont} {es : List EvC} {ds : List OrC} {ms : List MaC} {scan : EvC → List Sn} {dn : OrC → List Int} {mn : MaC → List Int} (s : Says X h c es ds ms scan dn mn) : contOf h.e.n c.nl es ds ms c.Q scan dn mn = c := by
  have ht : es.take h.e.n = es := List.take_of_length_le (by rw [s.d.1.len]; exact Nat.le_refl _)
  unfold contOf
  rw [ht, s.be, s.se, s.bd, s.sd, s.bm, s.sm]
/-- A history that may be written into: n, in block nb, of rows that lie from B on; nothing below B has been written since X0. -/
structure Mut (X0 X : World) (nb : Nat) (hn : HC) (es : List EvC) (ds : List OrC) : Prop where
  b : Below X0.heap.size X0 X
  bx : Bx X nb (cellsH hn)
  tg : ∃ cs fz, X.heap[nb]? = some (.cells cs 28 fz)
  e : Own X X0.heap.size 49 9 encEv hn.e.v es
  s : Any X X0.heap.size 69 3 encSn EvC.sl es
  d : Own X X0.heap.size 72 2 encOr hn.d.v ds
  t : Any X X0.heap.size 3 1 encInt OrC.sl ds
section
variable {X0 X : World} {nb : Nat} {hn : HC} {es : List EvC} {ds : List OrC}
theorem Mut.ne (m : Mut X0 X nb hn es ds) {g : Nat} {T : TypeId} (hg : ∃ cs fz, X.heap[g]? = some (.cells cs T fz)) (hT : 28 ≠ T) : nb ≠ g := fun e => by
  subst e
  obtain ⟨cs, fz, h1⟩ := m.tg
  obtain ⟨cs', fz', h2⟩ := hg
  rw [h1] at h2
  cases h2
  exact hT rfl
theorem Mut.kind (m : Mut X0 X nb hn es ds) {g i : Nat} {x : EvC} (ha : hn.e.a = some ⟨g, 0, none⟩) (hx : es[i]? = some x) (n : Int) : Mut X0 (X.setCell ⟨g, i * 9 + 0, none⟩ (.int .i64 n)) nb hn (es.set i { x with kind := n }) ds := by
  have e : hn.e.v = .slice (some ⟨g, 0, none⟩) hn.e.n hn.e.c := by simp only [Sl.v, ha]
  have hob : hn.e.v.ownBlock = some g := by rw [e]; rfl
  have hg := m.e.tag hob
  have hB := m.e.lt g hob
  have hs := set_same X g (i * 9 + 0) (.int .i64 n)
  obtain ⟨cs, fz, ht⟩ := m.tg
  have hne := m.ne hg (by decide)
  obtain ⟨cs', fz', hg'⟩ := hg
  refine ⟨hs.below m.b (fun j hj => by show j ≠ g; omega) m.b.size, hs.bx m.bx hne, ⟨cs, fz, (hs.block _ hne m.bx.2.2).trans ht⟩, ?_, ((m.s.same hg' (by decide) hs).set hx rfl), m.d.apartBox ⟨cs', fz', hg'⟩ (by decide) hs, m.t.same hg' (by decide) hs⟩
  have h0 := m.e
  rw [e] at h0 ⊢
  exact h0.put hx (by decide) rfl
theorem Mut.pokeSn (m : Mut X0 X nb hn es ds) {g o : Nat} (hg : ∃ cs fz, X.heap[g]? = some (.cells cs 69 fz)) (hB : X0.heap.size ≤ g) (n : Int) : Mut X0 (X.setCell ⟨g, o * 3 + 0, none⟩ (.int .i64 n)) nb hn es ds := by
  have hs := set_same X g (o * 3 + 0) (.int .i64 n)
  obtain ⟨cs, fz, ht⟩ := m.tg
  have hne := m.ne hg (by decide)
  obtain ⟨cs', fz', hg'⟩ := hg
  exact ⟨hs.below m.b (fun j hj => by show j ≠ g; omega) m.b.size, hs.bx m.bx hne, ⟨cs, fz, (hs.block _ hne m.bx.2.2).trans ht⟩, m.e.apartBox ⟨cs', fz', hg'⟩ (by decide) hs, m.s.poke (hc := cInsSn) (by decide) (fun x => ⟨{ x with obj := n }, rfl⟩), m.d.apartBox ⟨cs', fz', hg'⟩ (by decide) hs, m.t.same hg' (by decide) hs⟩
theorem Mut.pokeInt (m : Mut X0 X nb hn es ds) {g o : Nat} (hg : ∃ cs fz, X.heap[g]? = some (.cells cs 3 fz)) (hB : X0.heap.size ≤ g) (n : Int) : Mut X0 (X.setCell ⟨g, o, none⟩ (.int .i64 n)) nb hn es ds := by
  have hs := set_same X g o (.int .i64 n)
  obtain ⟨cs, fz, ht⟩ := m.tg
  have hne := m.ne hg (by decide)
  obtain ⟨cs', fz', hg'⟩ := hg
  refine ⟨hs.below m.b (fun j hj => by show j ≠ g; omega) m.b.size, hs.bx m.bx hne, ⟨cs, fz, (hs.block _ hne m.bx.2.2).trans ht⟩, m.e.apartBox ⟨cs', fz', hg'⟩ (by decide) hs, m.s.same hg' (by decide) hs, m.d.apartBox ⟨cs', fz', hg'⟩ (by decide) hs, ?_⟩
  have := m.t.poke (hc := cInsInt) (g := g) (o := o) (j := 0) (u := .int .i64 n) (by decide) (fun x => ⟨n, rfl⟩)
  simpa using this
theorem Mut.keep (m : Mut X0 X nb hn es ds) {Y : World} (hb : Below X.heap.size X Y) : Mut X0 Y nb hn es ds := by
  obtain ⟨cs, fz, ht⟩ := m.tg
  exact ⟨m.b.trans (hb.mono m.b.size), m.bx.keep hb, ⟨cs, fz, (hb.block _ m.bx.2.2).trans ht⟩, m.e.below hb rfl, m.s.below hb, m.d.below hb rfl, m.t.below hb⟩
end
/-- A row does not lie in a box of slices. -/
theorem Row.apartB {α : Type} {enc : α → List Value} {k : Nat} (hh : ∀ x : α, ∃ v, (enc x)[0]? = some v ∧ ∀ a n c, v ≠ .slice a n c) {X Y : World} {b : Nat} (hb : ∀ i v, X.cell? ⟨b, i, none⟩ = some v → ∃ a n c, v = Value.slice a n c) (hs : Same (fun i => i ≠ b) X Y) {a : Option Addr} {n c : Nat} {xs : List α} (h : Row X k enc a n c xs) :
    Row Y k enc a n c xs := by
  refine ⟨h.1, h.2.1, h.2.2.1, h.2.2.2.1, fun i x hx => ?_⟩
  obtain ⟨rb, o, ha, hcell⟩ := h.2.2.2.2 i x hx
  refine ⟨rb, o, ha, fun j v hv => ?_⟩
  have hne : rb ≠ b := fun e => by
    subst e
    obtain ⟨v0, h0, hn⟩ := hh x
    obtain ⟨a', n', c', e⟩ := hb _ _ (hcell 0 v0 h0)
    exact hn _ _ _ e
  exact hs.cell_ (hcell j v hv) hne
theorem box_slices {X : World} {b : Nat} {h : HC} (hx : Bx X b (cellsH h)) : ∀ i v, X.cell? ⟨b, i, none⟩ = some v → ∃ a n c, v = Value.slice a n c := by
  intro i v hv
  rw [hx.1 i] at hv
  match i with
  | 0 | 1 | 2 | 3 | 4 | 5 | 6 | 7 => simp at hv; exact ⟨_, _, _, hv.symm⟩
  | i + 8 => simp at hv
theorem Says.apartB {X Y : World} {h : HC} {c : Cont} {es : List EvC} {ds : List OrC} {ms : List MaC} {scan : EvC → List Sn} {dn : OrC → List Int} {mn : MaC → List Int} (s : Says X h c es ds ms scan dn mn) {b : Nat} (hb : ∀ i v, X.cell? ⟨b, i, none⟩ = some v → ∃ a n c, v = Value.slice a n c) (hs : Same (fun i => i ≠ b) X Y) :
    Says Y h c es ds ms scan dn mn := by
  have h1 : ∀ x : EvC, ∃ v, (encEv x)[0]? = some v ∧ ∀ a n c, v ≠ .slice a n c := fun x => ⟨_, rfl, fun _ _ _ e => by cases e⟩
  have h2 : ∀ x : OrC, ∃ v, (encOr x)[0]? = some v ∧ ∀ a n c, v ≠ .slice a n c := fun x => ⟨_, rfl, fun _ _ _ e => by cases e⟩
  have h3 : ∀ x : MaC, ∃ v, (encMa x)[0]? = some v ∧ ∀ a n c, v ≠ .slice a n c := fun x => ⟨_, rfl, fun _ _ _ e => by cases e⟩
  have h4 : ∀ x : Wa, ∃ v, (encWa x)[0]? = some v ∧ ∀ a n c, v ≠ .slice a n c := fun x => ⟨_, rfl, fun _ _ _ e => by cases e⟩
  have h5 : ∀ x : Sn, ∃ v, (encSn x)[0]? = some v ∧ ∀ a n c, v ≠ .slice a n c := fun x => ⟨_, rfl, fun _ _ _ e => by cases e⟩
  have h6 : ∀ x : Int, ∃ v, (encInt x)[0]? = some v ∧ ∀ a n c, v ≠ .slice a n c := fun x => ⟨_, rfl, fun _ _ _ e => by cases e⟩
  have h7 : ∀ x : Bs, ∃ v, (encStr x)[0]? = some v ∧ ∀ a n c, v ≠ .slice a n c := fun x => ⟨_, rfl, fun _ _ _ e => by cases e⟩
  obtain ⟨⟨g1, g2, g3, g4, g5, g6, g7⟩, gn, r1, r2, r3, r4, r5, r6⟩ := s
  exact ⟨⟨g1.apartB h1 hb hs, g2.apartB h2 hb hs, g3.apartB h3 hb hs, g4.apartB h4 hb hs, fun x hx => (g5 x hx).apartB h5 hb hs, fun x hx => (g6 x hx).apartB h6 hb hs, fun x hx => (g7 x hx).apartB h6 hb hs⟩, fun i hi => (gn i hi).apartB h7 hb hs, r1, r2, r3, r4, r5, r6⟩
theorem Any.nil_ {α β : Type} (X : World) (B : Nat) (T : TypeId) (k : Nat) (enc : β → List Value) (sl : α → Sl) : Any X B T k enc sl ([] : List α) := fun x hx => by simp at hx
end Yd


namespace Yd
open Go Go.RowKit Go.Proofs
attribute [local go_sem] Oper.semAt_some

theorem bulk_of_says {X : World} {h : HC} {nl : Nat → List Bs} {es : List EvC} {ds : List OrC} {ms : List MaC} {qs : List Wa} {scan : EvC → List Sn} {dn : OrC → List Int} {mn : MaC → List Int} {es' : List EvC} {ds' : List OrC} {ms' : List MaC} {scan' : EvC → List Sn} {dn' : OrC → List Int} {mn' : MaC → List Int}
    (hB : BulkH nl es ds ms qs scan dn mn) (s : Says X h (contOf 120 nl es ds ms qs scan dn mn) es' ds' ms' scan' dn' mn') : BulkH nl es' ds' ms' qs scan' dn' mn' := by
  obtain ⟨b1, b2, b3, b4, b5, b6, b7, b8⟩ := hB
  have l1 : es'.length = min 120 es.length := by have := congrArg List.length s.be; simpa [contOf] using this
  have l2 : ds'.length = ds.length := by have := congrArg List.length s.bd; simpa [contOf] using this
  have l3 : ms'.length = ms.length := by have := congrArg List.length s.bm; simpa [contOf] using this
  refine ⟨by omega, by omega, by omega, b4, b5, fun x hx => ?_, fun x hx => ?_, fun x hx => ?_⟩
  · have : scan' x ∈ (contOf 120 nl es ds ms qs scan dn mn).SE := by rw [← s.se]; exact List.mem_map_of_mem hx
    obtain ⟨y, hy, e⟩ := List.mem_map.1 this
    rw [← e]; exact b6 y (List.mem_of_mem_take hy)
  · have : dn' x ∈ (contOf 120 nl es ds ms qs scan dn mn).SD := by rw [← s.sd]; exact List.mem_map_of_mem hx
    obtain ⟨y, hy, e⟩ := List.mem_map.1 this
    rw [← e]; exact b7 y hy
  · have : mn' x ∈ (contOf 120 nl es ds ms qs scan dn mn).SM := by rw [← s.sm]; exact List.mem_map_of_mem hx
    obtain ⟨y, hy, e⟩ := List.mem_map.1 this
    rw [← e]; exact b8 y hy
set_option maxRecDepth 100000 in
set_option maxHeartbeats 8000000 in
theorem law_counts (h : HC) (nl : Nat → List Bs) (es : List EvC) (ds : List OrC) (ms : List MaC) (qs : List Wa) (scan : EvC → List Sn) (dn : OrC → List Int) (mn : MaC → List Int) (w : World) (hg : GlobL w)
    (hn : ∀ i, i < 4 → Row w 1 encStr (h.nm i).a (h.nm i).n (h.nm i).c (nl i)) (hd : Deep w h es ds ms qs scan dn mn) (hB : BulkH nl es ds ms qs scan dn mn)
    (hwk : ∀ W, GlobL W → Calls Tryz.prog 6 #[] W (Ret (.bool true) W)) :
    Calls Tryz.prog 5 #[valH h] w (Ret (.bool true) w) := by
  have hb0 := belowA (Below.refl w.heap.size w) (.cells (cellsH h) 28)
  have HWK := hid (hwk _ (hg.below hb0)); have HB := hid hb0; have HG := hid hg; have HBK := hid hB
  have HX0 := hid (Bx.new w (cellsH h) 28)
  obtain ⟨c, hc⟩ : ∃ c, c = contOf 120 nl es ds ms qs scan dn mn := ⟨_, rfl⟩
  have HC := hid hc
  have HOWN : Hid (∀ W, Below w.heap.size w W → Calls Tryz.prog 7 #[valH h] W (RetH W c)) := hid (fun W hW => by rw [hc]; exact law_own h nl es ds ms qs scan dn mn W (fun i hi => (hn i hi).below hW rfl) (hd.below hW rfl) hB)
  have HCE : Hid (c.E.length ≤ 120) := hid (by rw [hc]; simp only [contOf, List.length_map, List.length_take]; omega)
  have HCS : Hid (∀ L ∈ c.SE, L.length ≤ 2000000) := hid (by
    rw [hc]
    intro L hL
    obtain ⟨y, hy, rfl⟩ := List.mem_map.1 hL
    exact hB.2.2.2.2.2.1 y (List.mem_of_mem_take hy))
  have HCD : Hid (c.D.length ≤ 2000000) := hid (by rw [hc]; simp only [contOf, List.length_map]; exact hB.2.1)
  clear hg hn hd hB hwk hb0 hc
  go_enter Tryz.func5, Tryz.ntmps5
  go_wp2_with fail
  refine HWK.out.mono ?_
  rintro e w1 ⟨rfl, hb1⟩
  have HB1 := hid (HB.out.trans (hb1.mono HB.out.size))
  have hx1 := HX0.out.keep hb1
  have hcx := hx1.1; have hfx := hx1.2.1; have hlx := hx1.2.2
  have HX1 := hid hx1
  clear hb1 hx1
  go_wp2_with fail
  clear hcx hfx hlx
  refine (HOWN.out _ HB1.out).mono ?_
  rintro e w2 ⟨h', es', ds', ms', scan', dn', mn', rfl, hd2, hn2, p1, p2, p3, p4, p5, p6, hb2⟩
  have HB2 := hid (HB1.out.trans (hb2.mono HB1.out.size))
  have HS2 := hid (⟨hd2, hn2, p1, p2, p3, p4, p5, p6⟩ : Says w2 h' c es' ds' ms' scan' dn' mn')
  have HX2 := hid (HX1.out.keep hb2)
  have HBK2 : Hid (BulkH c.nl es' ds' ms' c.Q scan' dn' mn') := hid (by have hs := HS2.out; rw [HC.out] at hs ⊢; exact bulk_of_says HBK.out hs)
  clear hd2 hn2 p1 p2 p3 p4 p5 p6 hb2
  obtain ⟨ht, hs, ho, hp, ⟨ea, en, ec⟩, ⟨da, dn_, dc⟩, ⟨ma, mn_, mc⟩, ⟨wa, wn, wc⟩⟩ := h'
  go_wp2_with fail
  have hb3 := belowA (Below.refl w2.heap.size w2) (.cells #[ht.v, hs.v, ho.v, hp.v, .slice ea en ec, .slice da dn_ dc, .slice ma mn_ mc, .slice wa wn wc] 28)
  have hx3 : Bx (w2.alloc (.cells #[ht.v, hs.v, ho.v, hp.v, .slice ea en ec, .slice da dn_ dc, .slice ma mn_ mc, .slice wa wn wc] 28)) w2.heap.size #[ht.v, hs.v, ho.v, hp.v, .slice ea en ec, .slice da dn_ dc, .slice ma mn_ mc, .slice wa wn wc] := Bx.new1 rfl
  have hs3 := HS2.out.below hb3
  refine (r_Right ⟨ht, hs, ho, hp, ⟨ea, en, ec⟩, ⟨da, dn_, dc⟩, ⟨ma, mn_, mc⟩, ⟨wa, wn, wc⟩⟩ c.nl es' ds' ms' c.Q scan' dn' mn' _ hs3.n hs3.d).mono ?_
  rintro e w4 ⟨rfl, hb4⟩
  have HB3 := hid (HB2.out.trans (hb3.mono HB2.out.size))
  have HB4 := hid (HB3.out.trans (hb4.mono HB3.out.size))
  have HS4 := hid (hs3.below hb4)
  have HX4 := hid (hx3.keep hb4); have HY4 := hid ((HX2.out.alloc _).keep hb4)
  clear hb3 hb4 hx3 hs3
  have hcx := HX4.out.1; have hfx := HX4.out.2.1; have hlx := HX4.out.2.2
  have HCN := hid (cont_of_says HS4.out)
  cases hck : checkB ⟨ht, hs, ho, hp, ⟨ea, en, ec⟩, ⟨da, dn_, dc⟩, ⟨ma, mn_, mc⟩, ⟨wa, wn, wc⟩⟩ c.nl es' ds' ms' c.Q scan' dn' mn' with
  | false =>
    have HCK := hid hck
    have HGB := hid (HG.out.below HB4.out)
    have HCT := hid (fun W (hW : Below w4.heap.size w4 W) => counted_any ⟨ht, hs, ho, hp, ⟨ea, en, ec⟩, ⟨da, dn_, dc⟩, ⟨ma, mn_, mc⟩, ⟨wa, wn, wc⟩⟩ c.nl es' ds' ms' c.Q scan' dn' mn' W (HGB.out.below hW).1 (fun i hi => (HS4.out.n i hi).below hW rfl) (HS4.out.d.below hW rfl))
    rw [hck] at HCT
    clear hck
    go_wp2_with fail
    clear hcx hfx hlx
    refine (pcount_no ⟨ht, hs, ho, hp, ⟨ea, en, ec⟩, ⟨da, dn_, dc⟩, ⟨ma, mn_, mc⟩, ⟨wa, wn, wc⟩⟩ c.nl es' ds' ms' c.Q scan' dn' mn' w4 HGB.out.1 HS4.out.n HS4.out.d HCK.out).mono ?_
    rintro e w5 ⟨rfl, hb5⟩
    have HB5 := hid hb5
    clear hb5
    have hbx5 : Bx ((w5.alloc (.cells #[.slice none 0 0, .slice none 0 0, .slice none 0 0, .slice none 0 0, .slice none 0 0, .slice none 0 0, .slice none 0 0, .slice none 0 0] 28)).alloc (.cells #[.slice none 0 0, .slice none 0 0, .slice none 0 0, .slice none 0 0, .slice none 0 0, .slice none 0 0, .slice none 0 0, .slice none 0 0] 28)) w5.heap.size #[.slice none 0 0, .slice none 0 0, .slice none 0 0, .slice none 0 0, .slice none 0 0, .slice none 0 0, .slice none 0 0, .slice none 0 0] := (Bx.new w5 #[.slice none 0 0, .slice none 0 0, .slice none 0 0, .slice none 0 0, .slice none 0 0, .slice none 0 0, .slice none 0 0, .slice none 0 0] 28).alloc _
    have hby5 : Bx ((w5.alloc (.cells #[.slice none 0 0, .slice none 0 0, .slice none 0 0, .slice none 0 0, .slice none 0 0, .slice none 0 0, .slice none 0 0, .slice none 0 0] 28)).alloc (.cells #[.slice none 0 0, .slice none 0 0, .slice none 0 0, .slice none 0 0, .slice none 0 0, .slice none 0 0, .slice none 0 0, .slice none 0 0] 28)) (w5.heap.size + 1) #[.slice none 0 0, .slice none 0 0, .slice none 0 0, .slice none 0 0, .slice none 0 0, .slice none 0 0, .slice none 0 0, .slice none 0 0] := Bx.new1 (by simp)
    have HBA := hid (belowA (belowA (Below.refl w5.heap.size w5) (.cells #[.slice none 0 0, .slice none 0 0, .slice none 0 0, .slice none 0 0, .slice none 0 0, .slice none 0 0, .slice none 0 0, .slice none 0 0] 28)) (.cells #[.slice none 0 0, .slice none 0 0, .slice none 0 0, .slice none 0 0, .slice none 0 0, .slice none 0 0, .slice none 0 0, .slice none 0 0] 28))
    have HBX5 := hid hbx5
    have HTG5 : Hid (∃ cs fz, ((w5.alloc (.cells #[.slice none 0 0, .slice none 0 0, .slice none 0 0, .slice none 0 0, .slice none 0 0, .slice none 0 0, .slice none 0 0, .slice none 0 0] 28)).alloc (.cells #[.slice none 0 0, .slice none 0 0, .slice none 0 0, .slice none 0 0, .slice none 0 0, .slice none 0 0, .slice none 0 0, .slice none 0 0] 28)).heap[w5.heap.size]? = some (.cells cs 28 fz)) := hid ⟨_, _, heapA _ (alloc_new w5 _)⟩
    have hcx := hbx5.1; have hlx := hbx5.2.2; have hcy := hby5.1; have hly := hby5.2.2
    clear hbx5 hby5
    go_wp2_with fail
    clear hcx hlx hcy hly
    refine (r_SameT nilH nilH nilC [] [] [] _ _ _ [] [] [] _ _ _ _ (nil_says _) (nil_says _)).mono ?_
    rintro e w6 ⟨rfl, hb6⟩
    have HB6 := hid (HBA.out.trans (hb6.mono HBA.out.size))
    have HBX6 := hid (HBX5.out.keep hb6)
    have HTG6 : Hid (∃ cs fz, w6.heap[w5.heap.size]? = some (.cells cs 28 fz)) := hid (by obtain ⟨cs, fz, e⟩ := HTG5.out; exact ⟨cs, fz, (hb6.block _ HBX5.out.2.2).trans e⟩)
    clear hb6
    have HB46 := hid (HB5.out.trans (HB6.out.mono HB5.out.size))
    have hx6 := HX4.out.keep HB46.out
    have hcx := hx6.1; have hfx := hx6.2.1; have hlx := hx6.2.2
    clear hx6
    go_wp2_with fail
    clear hcx hfx hlx
    refine (HCT.out _ HB46.out).mono ?_
    rintro e w7 ⟨rfl, hb7⟩
    obtain ⟨nb, hnb⟩ : ∃ nb, nb = w5.heap.size := ⟨_, rfl⟩
    have HM : Hid (Mut w4 w7 nb nilH [] []) := hid (by
      rw [hnb]
      obtain ⟨cs, fz, e⟩ := HTG6.out
      exact ⟨HB46.out.trans (hb7.mono HB46.out.size), HBX6.out.keep hb7, ⟨cs, fz, (hb7.block _ HBX6.out.2.2).trans e⟩, Own.nil_ _ _ _ _ _, Any.nil_ _ _ _ _ _ _, Own.nil_ _ _ _ _ _, Any.nil_ _ _ _ _ _ _⟩)
    rw [← hnb]
    clear hb7 hnb
    have hcm := HM.out.bx.1; have hfm := HM.out.bx.2.1; have hlm := HM.out.bx.2.2
    go_wp2_with fail
    clear hcm hfm hlm
    go_loopw [55] (fun i wr => i = .int .i64 0 ∧ Mut w4 wr nb nilH [] []) (fun _ _ => 0)
    case atStart => exact ⟨rfl, HM.out⟩
    case round =>
      obtain ⟨rfl, hm⟩ := hrel
      have HM1 := hid hm
      have hcm := hm.bx.1; have hfm := hm.bx.2.1; have hlm := hm.bx.2.2
      clear hm
      go_wp2_with fail
      clear hcm hfm hlm
      go_loopw [95] (fun i wr => i = .int .i64 0 ∧ Mut w4 wr nb nilH [] []) (fun _ _ => 0)
      case atStart => exact ⟨rfl, HM1.out⟩
      case round =>
        obtain ⟨rfl, hm⟩ := hrel
        have HM2 := hid hm
        clear hm
        have HZS := hid (HS4.out.below HM2.out.b); have HZX := hid (HX4.out.keep HM2.out.b); have HZY := hid (HY4.out.keep HM2.out.b)
        have HZB := hid (HB4.out.trans (HM2.out.b.mono HB4.out.size))
        go_wp2_with fail
        refine wp_region_ordC 5 [(0, 0), (1, 0), (2, 2), (3, 2), (4, 0)] (fun _ => True) (fun W' => Bx W' w2.heap.size #[ht.v, hs.v, ho.v, hp.v, .slice ea en ec, .slice da dn_ dc, .slice ma mn_ mc, .slice wa wn wc] ∧ Bx W' w.heap.size (cellsH h)) (by kernel_rfl) (by kernel_rfl) (trivial) (⟨HZX.out, HZY.out⟩) ?_
        repeat (first
          | (refine ordC_skip rfl rfl ?_; simp only [Act.put, List.setIfInBounds_toArray, List.set_cons_zero, List.set_cons_succ])
          | (refine ordC_skip1 rfl rfl ?_; simp only [Act.put, List.setIfInBounds_toArray, List.set_cons_zero, List.set_cons_succ])
          | (refine ordC_q rfl rfl ?_; apply Exists.intro; refine ⟨fun wS hS => ?_, ?_⟩; (go_simp; try with_reducible rfl); simp only [Act.put, List.setIfInBounds_toArray, List.set_cons_zero, List.set_cons_succ])
          | (refine ordC_p rfl rfl ?_; apply Exists.intro; refine ⟨fun wS hS => ?_, ?_⟩; (go_simp; try with_reducible rfl); simp only [Act.put, List.setIfInBounds_toArray, List.set_cons_zero, List.set_cons_succ]))
        refine ordC_l rfl rfl (fun K hK => ?_)
        go_simp
        refine (HOWN.out _ HZB.out.drew).mono ?_
        rintro en Z1 ⟨h3, es3, ds3, ms3, scan3, dn3, mn3, rfl, hd3, hn3, p1, p2, p3, p4, p5, p6, hb3⟩
        have HS3 := hid (⟨hd3, hn3, p1, p2, p3, p4, p5, p6⟩ : Says Z1 h3 c es3 ds3 ms3 scan3 dn3 mn3)
        have HBZ := hid hb3
        refine hK _ _ ⟨trivial, HZX.out.drew.keep hb3, HZY.out.drew.keep hb3⟩ ?_
        clear hK K hd3 hn3 p1 p2 p3 p4 p5 p6 hb3
        refine ordC_l rfl rfl (fun K hK => ?_)
        go_simp
        refine (r_SameT ⟨ht, hs, ho, hp, ⟨ea, en, ec⟩, ⟨da, dn_, dc⟩, ⟨ma, mn_, mc⟩, ⟨wa, wn, wc⟩⟩ h3 c es' ds' ms' scan' dn' mn' es3 ds3 ms3 scan3 dn3 mn3 Z1 (HZS.out.below ((Below.refl _ _).drew.trans HBZ.out)) HS3.out).mono ?_
        rintro en Z2 ⟨rfl, hb3⟩
        have HBZ2 := hid hb3
        refine hK _ _ ⟨trivial, (HZX.out.drew.keep HBZ.out).keep hb3, (HZY.out.drew.keep HBZ.out).keep hb3⟩ ?_
        clear hK K hb3
        repeat (first
          | (refine ordC_skip rfl rfl ?_; simp only [Act.put, List.setIfInBounds_toArray, List.set_cons_zero, List.set_cons_succ])
          | (refine ordC_skip1 rfl rfl ?_; simp only [Act.put, List.setIfInBounds_toArray, List.set_cons_zero, List.set_cons_succ])
          | (refine ordC_q rfl rfl ?_; apply Exists.intro; refine ⟨fun wS hS => ?_, ?_⟩; (go_simp; try with_reducible rfl); simp only [Act.put, List.setIfInBounds_toArray, List.set_cons_zero, List.set_cons_succ])
          | (refine ordC_p rfl rfl ?_; apply Exists.intro; refine ⟨fun wS hS => ?_, ?_⟩; (go_simp; try with_reducible rfl); simp only [Act.put, List.setIfInBounds_toArray, List.set_cons_zero, List.set_cons_succ]))
        refine ordC_nil ?_
        go_wp2_with fail
        go_ret
        exact ⟨rfl, (HZB.out.drew.trans (HBZ.out.mono HZB.out.size)).trans (HBZ2.out.mono (Nat.le_trans HZB.out.size HBZ.out.size))⟩
  | true =>
    have HCK := hid hck
    have HGB := hid (HG.out.below HB4.out)
    have HCT := hid (fun W (hW : Below w4.heap.size w4 W) => counted_any ⟨ht, hs, ho, hp, ⟨ea, en, ec⟩, ⟨da, dn_, dc⟩, ⟨ma, mn_, mc⟩, ⟨wa, wn, wc⟩⟩ c.nl es' ds' ms' c.Q scan' dn' mn' W (HGB.out.below hW).1 (fun i hi => (HS4.out.n i hi).below hW rfl) (HS4.out.d.below hW rfl))
    rw [hck] at HCT
    clear hck
    obtain ⟨q, hq⟩ : ∃ q, q = cntB [] es' := ⟨_, rfl⟩
    have HRC := hid (fun W (hW : Below w4.heap.size w4 W) => r_Counted ⟨ht, hs, ho, hp, ⟨ea, en, ec⟩, ⟨da, dn_, dc⟩, ⟨ma, mn_, mc⟩, ⟨wa, wn, wc⟩⟩ es' W (HS4.out.d.1.below hW rfl))
    rw [← hq] at HCT HRC
    simp only [Bool.true_and] at HCT
    clear hq
    have HPC := hid (pcount_yes ⟨ht, hs, ho, hp, ⟨ea, en, ec⟩, ⟨da, dn_, dc⟩, ⟨ma, mn_, mc⟩, ⟨wa, wn, wc⟩⟩ c.nl es' ds' ms' c.Q scan' dn' mn' w4 HGB.out.1 HS4.out.n HS4.out.d HBK2.out HCK.out)
    rw [HCN.out] at HPC
    go_wp2_with fail
    clear hcx hfx hlx
    refine HPC.out.mono ?_
    clear HPC
    intro e w5 hret
    unfold RetP at hret
    by_cases hov : overB c.E = true
    · rw [if_pos hov] at hret
      obtain ⟨rfl, hb5⟩ := hret
      have HB5 := hid hb5; have HOV := hid hov
      clear hb5 hov
      have hbx5 : Bx ((w5.alloc (.cells #[.slice none 0 0, .slice none 0 0, .slice none 0 0, .slice none 0 0, .slice none 0 0, .slice none 0 0, .slice none 0 0, .slice none 0 0] 28)).alloc (.cells #[.slice none 0 0, .slice none 0 0, .slice none 0 0, .slice none 0 0, .slice none 0 0, .slice none 0 0, .slice none 0 0, .slice none 0 0] 28)) w5.heap.size #[.slice none 0 0, .slice none 0 0, .slice none 0 0, .slice none 0 0, .slice none 0 0, .slice none 0 0, .slice none 0 0, .slice none 0 0] := (Bx.new w5 #[.slice none 0 0, .slice none 0 0, .slice none 0 0, .slice none 0 0, .slice none 0 0, .slice none 0 0, .slice none 0 0, .slice none 0 0] 28).alloc _
      have hby5 : Bx ((w5.alloc (.cells #[.slice none 0 0, .slice none 0 0, .slice none 0 0, .slice none 0 0, .slice none 0 0, .slice none 0 0, .slice none 0 0, .slice none 0 0] 28)).alloc (.cells #[.slice none 0 0, .slice none 0 0, .slice none 0 0, .slice none 0 0, .slice none 0 0, .slice none 0 0, .slice none 0 0, .slice none 0 0] 28)) (w5.heap.size + 1) (cellsH nilH) := Bx.new1 (by simp)
      have HBA := hid (belowA (belowA (Below.refl w5.heap.size w5) (.cells #[.slice none 0 0, .slice none 0 0, .slice none 0 0, .slice none 0 0, .slice none 0 0, .slice none 0 0, .slice none 0 0, .slice none 0 0] 28)) (.cells #[.slice none 0 0, .slice none 0 0, .slice none 0 0, .slice none 0 0, .slice none 0 0, .slice none 0 0, .slice none 0 0, .slice none 0 0] 28))
      have HBX5 := hid hbx5; have HBY5 := hid hby5
      have HTG5 : Hid (∃ cs fz, ((w5.alloc (.cells #[.slice none 0 0, .slice none 0 0, .slice none 0 0, .slice none 0 0, .slice none 0 0, .slice none 0 0, .slice none 0 0, .slice none 0 0] 28)).alloc (.cells #[.slice none 0 0, .slice none 0 0, .slice none 0 0, .slice none 0 0, .slice none 0 0, .slice none 0 0, .slice none 0 0, .slice none 0 0] 28)).heap[w5.heap.size]? = some (.cells cs 28 fz)) := hid ⟨_, _, heapA _ (alloc_new w5 _)⟩
      have HB45 := hid (HB5.out.trans (HBA.out.mono HB5.out.size))
      have hy5 := HY4.out.keep HB45.out
      have hcx := hy5.1; have hlx := hy5.2.2
      clear hbx5 hby5 hy5
      go_wp2_with fail
      clear hcx hlx
      refine (HOWN.out _ (HB4.out.trans (HB45.out.mono HB4.out.size))).mono ?_
      rintro e w6 ⟨h2, es2, ds2, ms2, scan2, dn2, mn2, rfl, hd3, hn3, p1, p2, p3, p4, p5, p6, hb6⟩
      have HS6 := hid (⟨hd3, hn3, p1, p2, p3, p4, p5, p6⟩ : Says w6 h2 c es2 ds2 ms2 scan2 dn2 mn2)
      have HL2 : Hid (es2.length ≤ 120) := hid (by have h1 := congrArg List.length p1; rw [List.length_map] at h1; have := HCE.out; omega)
      have HOV2 : Hid (overB es2 = overB c.E) := hid (by rw [← p1, overB_base])
      have HB6 := hid hb6; have HB56 := hid (HBA.out.trans (hb6.mono HBA.out.size))
      clear hd3 hn3 p1 p2 p3 p4 p5 p6 hb6
      have HRC2 := hid (r_Count h2 es2 w6 HS6.out.d.1 (by have := HL2.out; omega))
      go_wp2_with fail
      refine HRC2.out.mono ?_
      intro e w7 hret2
      unfold RetC at hret2
      rw [HOV2.out] at hret2
      rw [if_pos HOV.out] at hret2
      obtain ⟨rfl, hb7⟩ := hret2
      have HB7 := hid hb7; have HB67 := hid (HB6.out.trans (hb7.mono HB6.out.size))
      clear hb7
      have HX7 := hid (HBX5.out.keep HB67.out); have HY7 := hid (HBY5.out.keep HB67.out)
      have HTG7 : Hid (∃ cs fz, w7.heap[w5.heap.size]? = some (.cells cs 28 fz)) := hid (by obtain ⟨cs, fz, e⟩ := HTG5.out; exact ⟨cs, fz, (HB67.out.block _ HBX5.out.2.2).trans e⟩)
      have hc5 := HX7.out.1; have hl5 := HX7.out.2.2; have hc6 := HY7.out.1; have hf6 := HY7.out.2.1; have hl6 := HY7.out.2.2
      have HB57 := hid (HBA.out.trans (HB67.out.mono HBA.out.size))
      have HZ : Hid (∀ Z, Same (fun g => g ≠ w5.heap.size + 1) w7 Z → Calls Tryz.prog 20 #[valH nilH, valH nilH] Z (fun e w8 => e = .returned (.bool true) ∧ Below w4.heap.size w4 w8 ∧ Below w5.heap.size w5 w8 ∧ Bx w8 w5.heap.size #[.slice none 0 0, .slice none 0 0, .slice none 0 0, .slice none 0 0, .slice none 0 0, .slice none 0 0, .slice none 0 0, .slice none 0 0] ∧ ∃ cs fz, w8.heap[w5.heap.size]? = some (.cells cs 28 fz))) := hid (fun Z hZ => by
        have hb5Z : Below w5.heap.size w5 Z := hZ.below HB57.out (fun g hg => by show g ≠ w5.heap.size + 1; omega) HB57.out.size
        obtain ⟨cs, fz, htg⟩ := HTG7.out
        have hne : w5.heap.size ≠ w5.heap.size + 1 := by omega
        have hx := hZ.bx HX7.out hne
        have ht := (hZ.block _ hne HX7.out.2.2).trans htg
        refine (r_SameT nilH nilH nilC [] [] [] _ _ _ [] [] [] _ _ _ Z (nil_says _) (nil_says _)).mono ?_
        rintro e w8 ⟨rfl, hb8⟩
        have h58 := hb5Z.trans (hb8.mono hb5Z.size)
        exact ⟨rfl, HB5.out.trans (h58.mono HB5.out.size), h58, hx.keep hb8, ⟨cs, fz, (hb8.block _ hx.2.2).trans ht⟩⟩)
      go_wp2_with fail
      clear hc5 hl5 hc6 hf6 hl6
      refine (HZ.out _ (by repeat (first | (with_reducible exact Same.refl' _) | (refine Same.setTail ?_ (by simp))))).mono ?_
      rintro e w8 ⟨rfl, h48, h58, hx8, ht8⟩
      have H48 := hid h48; have H58 := hid h58; have HX8 := hid hx8; have HT8 := hid ht8
      have hx3 := HX4.out.keep h48
      clear h48 h58 hx8 ht8 HZ
      have hcx := hx3.1; have hfx := hx3.2.1; have hlx := hx3.2.2
      clear hx3
      go_wp2_with fail
      clear hcx hfx hlx
      refine (HCT.out _ H48.out).mono ?_
      rintro e w9 ⟨rfl, hb9⟩
      have H89 := hid hb9; have H49 := hid (H48.out.trans (hb9.mono H48.out.size))
      clear hb9
      have hx3 := HX4.out.keep H49.out
      have hcx := hx3.1; have hfx := hx3.2.1; have hlx := hx3.2.2
      clear hx3
      go_wp2_with fail
      clear hcx hfx hlx
      refine (HRC.out _ H49.out).mono ?_
      rintro e w10 ⟨rfl, hb10⟩
      obtain ⟨nb, hnb⟩ : ∃ nb, nb = w5.heap.size := ⟨_, rfl⟩
      have HM : Hid (Mut w4 w10 nb nilH [] []) := hid (by
        rw [hnb]
        obtain ⟨cs, fz, e⟩ := HT8.out
        have h8X := H89.out.trans (hb10.mono H89.out.size)
        have h5X := H58.out.trans (h8X.mono H58.out.size)
        exact ⟨H48.out.trans (h8X.mono H48.out.size), HX8.out.keep h8X, ⟨cs, fz, (h8X.block _ HX8.out.2.2).trans e⟩, Own.nil_ _ _ _ _ _, Any.nil_ _ _ _ _ _ _, Own.nil_ _ _ _ _ _, Any.nil_ _ _ _ _ _ _⟩)
      rw [← hnb]
      clear hb10 hnb
      have hcm := HM.out.bx.1; have hfm := HM.out.bx.2.1; have hlm := HM.out.bx.2.2
      go_wp2_with fail
      clear hcm hfm hlm
      go_loopw [55] (fun i wr => i = .int .i64 0 ∧ Mut w4 wr nb nilH [] []) (fun _ _ => 0)
      case atStart => exact ⟨rfl, HM.out⟩
      case round =>
        obtain ⟨rfl, hm⟩ := hrel
        have HM1 := hid hm
        have hcm := hm.bx.1; have hfm := hm.bx.2.1; have hlm := hm.bx.2.2
        clear hm
        go_wp2_with fail
        clear hcm hfm hlm
        go_loopw [95] (fun i wr => i = .int .i64 0 ∧ Mut w4 wr nb nilH [] []) (fun _ _ => 0)
        case atStart => exact ⟨rfl, HM1.out⟩
        case round =>
          obtain ⟨rfl, hm⟩ := hrel
          have HM2 := hid hm
          clear hm
          have HZS := hid (HS4.out.below HM2.out.b); have HZX := hid (HX4.out.keep HM2.out.b); have HZY := hid (HY4.out.keep HM2.out.b)
          have HZB := hid (HB4.out.trans (HM2.out.b.mono HB4.out.size))
          go_wp2_with fail
          refine wp_region_ordC 5 [(0, 0), (1, 0), (2, 2), (3, 2), (4, 0)] (fun _ => True) (fun W' => Bx W' w2.heap.size #[ht.v, hs.v, ho.v, hp.v, .slice ea en ec, .slice da dn_ dc, .slice ma mn_ mc, .slice wa wn wc] ∧ Bx W' w.heap.size (cellsH h)) (by kernel_rfl) (by kernel_rfl) (trivial) (⟨HZX.out, HZY.out⟩) ?_
          repeat (first
            | (refine ordC_skip rfl rfl ?_; simp only [Act.put, List.setIfInBounds_toArray, List.set_cons_zero, List.set_cons_succ])
            | (refine ordC_skip1 rfl rfl ?_; simp only [Act.put, List.setIfInBounds_toArray, List.set_cons_zero, List.set_cons_succ])
            | (refine ordC_q rfl rfl ?_; apply Exists.intro; refine ⟨fun wS hS => ?_, ?_⟩; (go_simp; try with_reducible rfl); simp only [Act.put, List.setIfInBounds_toArray, List.set_cons_zero, List.set_cons_succ])
            | (refine ordC_p rfl rfl ?_; apply Exists.intro; refine ⟨fun wS hS => ?_, ?_⟩; (go_simp; try with_reducible rfl); simp only [Act.put, List.setIfInBounds_toArray, List.set_cons_zero, List.set_cons_succ]))
          refine ordC_l rfl rfl (fun K hK => ?_)
          go_simp
          refine (HOWN.out _ HZB.out.drew).mono ?_
          rintro en Z1 ⟨h3, es3, ds3, ms3, scan3, dn3, mn3, rfl, hd3, hn3, p1, p2, p3, p4, p5, p6, hb3⟩
          have HS3 := hid (⟨hd3, hn3, p1, p2, p3, p4, p5, p6⟩ : Says Z1 h3 c es3 ds3 ms3 scan3 dn3 mn3)
          have HBZ := hid hb3
          refine hK _ _ ⟨trivial, HZX.out.drew.keep hb3, HZY.out.drew.keep hb3⟩ ?_
          clear hK K hd3 hn3 p1 p2 p3 p4 p5 p6 hb3
          refine ordC_l rfl rfl (fun K hK => ?_)
          go_simp
          refine (r_SameT ⟨ht, hs, ho, hp, ⟨ea, en, ec⟩, ⟨da, dn_, dc⟩, ⟨ma, mn_, mc⟩, ⟨wa, wn, wc⟩⟩ h3 c es' ds' ms' scan' dn' mn' es3 ds3 ms3 scan3 dn3 mn3 Z1 (HZS.out.below ((Below.refl _ _).drew.trans HBZ.out)) HS3.out).mono ?_
          rintro en Z2 ⟨rfl, hb3⟩
          have HBZ2 := hid hb3
          refine hK _ _ ⟨trivial, (HZX.out.drew.keep HBZ.out).keep hb3, (HZY.out.drew.keep HBZ.out).keep hb3⟩ ?_
          clear hK K hb3
          repeat (first
            | (refine ordC_skip rfl rfl ?_; simp only [Act.put, List.setIfInBounds_toArray, List.set_cons_zero, List.set_cons_succ])
            | (refine ordC_skip1 rfl rfl ?_; simp only [Act.put, List.setIfInBounds_toArray, List.set_cons_zero, List.set_cons_succ])
            | (refine ordC_q rfl rfl ?_; apply Exists.intro; refine ⟨fun wS hS => ?_, ?_⟩; (go_simp; try with_reducible rfl); simp only [Act.put, List.setIfInBounds_toArray, List.set_cons_zero, List.set_cons_succ])
            | (refine ordC_p rfl rfl ?_; apply Exists.intro; refine ⟨fun wS hS => ?_, ?_⟩; (go_simp; try with_reducible rfl); simp only [Act.put, List.setIfInBounds_toArray, List.set_cons_zero, List.set_cons_succ]))
          refine ordC_nil ?_
          go_wp2_with fail
          go_ret
          exact ⟨rfl, (HZB.out.drew.trans (HBZ.out.mono HZB.out.size)).trans (HBZ2.out.mono (Nat.le_trans HZB.out.size HBZ.out.size))⟩
    · rw [if_neg hov] at hret
      obtain ⟨hn, esn, dsn, msn, scn, dnn, mnn, rfl, hsay, hb5, ⟨ho1, ho2⟩, ho3, ho4⟩ := hret
      have HB5 := hid hb5; have HOV := hid hov; have HSN := hid hsay; have HO1 := hid ho1; have HO2 := hid ho2; have HO3 := hid ho3; have HO4 := hid ho4
      clear hsay hb5 ho1 ho2 ho3 ho4 hov
      obtain ⟨kt, ks, ko, kp, ⟨qea, qen, qec⟩, ⟨qda, qdn, qdc⟩, km, kw⟩ := hn
      have HQN : Hid (qen ≤ 120) := hid (by have h1 := congrArg List.length HSN.out.be; have h2 : esn.length = qen := HSN.out.d.1.len; rw [List.length_map] at h1; have h3 : c.num.E.length = c.E.length := numL_len _ (Nat.le_refl _); have := HCE.out; omega)
      have HQD : Hid (qdn ≤ 2000000) := hid (by have h1 := congrArg List.length HSN.out.bd; have h2 : dsn.length = qdn := HSN.out.d.2.1.len; rw [List.length_map] at h1; have h3 : c.num.D.length = c.D.length := rfl; have := HCD.out; omega)
      have hbx5 : Bx ((w5.alloc (.cells #[kt.v, ks.v, ko.v, kp.v, .slice qea qen qec, .slice qda qdn qdc, km.v, kw.v] 28)).alloc (.cells #[.slice none 0 0, .slice none 0 0, .slice none 0 0, .slice none 0 0, .slice none 0 0, .slice none 0 0, .slice none 0 0, .slice none 0 0] 28)) w5.heap.size #[kt.v, ks.v, ko.v, kp.v, .slice qea qen qec, .slice qda qdn qdc, km.v, kw.v] := (Bx.new w5 #[kt.v, ks.v, ko.v, kp.v, .slice qea qen qec, .slice qda qdn qdc, km.v, kw.v] 28).alloc _
      have hby5 : Bx ((w5.alloc (.cells #[kt.v, ks.v, ko.v, kp.v, .slice qea qen qec, .slice qda qdn qdc, km.v, kw.v] 28)).alloc (.cells #[.slice none 0 0, .slice none 0 0, .slice none 0 0, .slice none 0 0, .slice none 0 0, .slice none 0 0, .slice none 0 0, .slice none 0 0] 28)) (w5.heap.size + 1) (cellsH nilH) := Bx.new1 (by simp)
      have HBA := hid (belowA (belowA (Below.refl w5.heap.size w5) (.cells #[kt.v, ks.v, ko.v, kp.v, .slice qea qen qec, .slice qda qdn qdc, km.v, kw.v] 28)) (.cells #[.slice none 0 0, .slice none 0 0, .slice none 0 0, .slice none 0 0, .slice none 0 0, .slice none 0 0, .slice none 0 0, .slice none 0 0] 28))
      have HBX5 := hid hbx5; have HBY5 := hid hby5
      have HTG5 : Hid (∃ cs fz, ((w5.alloc (.cells #[kt.v, ks.v, ko.v, kp.v, .slice qea qen qec, .slice qda qdn qdc, km.v, kw.v] 28)).alloc (.cells #[.slice none 0 0, .slice none 0 0, .slice none 0 0, .slice none 0 0, .slice none 0 0, .slice none 0 0, .slice none 0 0, .slice none 0 0] 28)).heap[w5.heap.size]? = some (.cells cs 28 fz)) := hid ⟨_, _, heapA _ (alloc_new w5 _)⟩
      have HB45 := hid (HB5.out.trans (HBA.out.mono HB5.out.size))
      have hy5 := HY4.out.keep HB45.out
      have hcx := hy5.1; have hlx := hy5.2.2
      clear hbx5 hby5 hy5
      go_wp2_with fail
      clear hcx hlx
      refine (HOWN.out _ (HB4.out.trans (HB45.out.mono HB4.out.size))).mono ?_
      rintro e w6 ⟨h2, es2, ds2, ms2, scan2, dn2, mn2, rfl, hd3, hn3, p1, p2, p3, p4, p5, p6, hb6⟩
      have HS6 := hid (⟨hd3, hn3, p1, p2, p3, p4, p5, p6⟩ : Says w6 h2 c es2 ds2 ms2 scan2 dn2 mn2)
      have HL2 : Hid (es2.length ≤ 120) := hid (by have h1 := congrArg List.length p1; rw [List.length_map] at h1; have := HCE.out; omega)
      have HOV2 : Hid (overB es2 = overB c.E) := hid (by rw [← p1, overB_base])
      have HB6 := hid hb6; have HB56 := hid (HBA.out.trans (hb6.mono HBA.out.size))
      clear hd3 hn3 p1 p2 p3 p4 p5 p6 hb6
      have HRC2 := hid (r_Count h2 es2 w6 HS6.out.d.1 (by have := HL2.out; omega))
      go_wp2_with fail
      refine HRC2.out.mono ?_
      intro e w7 hret2
      unfold RetC at hret2
      rw [HOV2.out] at hret2
      rw [if_neg HOV.out] at hret2
      obtain ⟨ca, cc, rfl, hco, hb7⟩ := hret2
      obtain ⟨scw, hsw⟩ := count_says HS6.out HCS.out (by have := HS6.out.d.1.len; have := HL2.out; omega) hco hb7
      have HSW := hid hsw
      clear hco hsw
      obtain ⟨gt, gs, go_, gp, ge, gd, gm, gw⟩ := h2
      have HB7 := hid hb7; have HB67 := hid (HB6.out.trans (hb7.mono HB6.out.size))
      clear hb7
      have HX7 := hid (HBX5.out.keep HB67.out); have HY7 := hid (HBY5.out.keep HB67.out)
      have HTG7 : Hid (∃ cs fz, w7.heap[w5.heap.size]? = some (.cells cs 28 fz)) := hid (by obtain ⟨cs, fz, e⟩ := HTG5.out; exact ⟨cs, fz, (HB67.out.block _ HBX5.out.2.2).trans e⟩)
      have hc5 := HX7.out.1; have hl5 := HX7.out.2.2; have hc6 := HY7.out.1; have hf6 := HY7.out.2.1; have hl6 := HY7.out.2.2
      have HB57 := hid (HBA.out.trans (HB67.out.mono HBA.out.size))
      have HZ : Hid (∀ Z, Same (fun g => g ≠ w5.heap.size + 1) w7 Z → Calls Tryz.prog 20 #[valH ⟨kt, ks, ko, kp, ⟨qea, qen, qec⟩, ⟨qda, qdn, qdc⟩, km, kw⟩, valH ⟨gt, gs, go_, gp, ⟨ca, ge.n, cc⟩, gd, gm, gw⟩] Z (fun e w8 => e = .returned (.bool true) ∧ Below w4.heap.size w4 w8 ∧ Below w5.heap.size w5 w8 ∧ Bx w8 w5.heap.size #[kt.v, ks.v, ko.v, kp.v, .slice qea qen qec, .slice qda qdn qdc, km.v, kw.v] ∧ ∃ cs fz, w8.heap[w5.heap.size]? = some (.cells cs 28 fz))) := hid (fun Z hZ => by
        have hb5Z : Below w5.heap.size w5 Z := hZ.below HB57.out (fun g hg => by show g ≠ w5.heap.size + 1; omega) HB57.out.size
        obtain ⟨cs, fz, htg⟩ := HTG7.out
        have hne : w5.heap.size ≠ w5.heap.size + 1 := by omega
        have hx := hZ.bx HX7.out hne
        have ht := (hZ.block _ hne HX7.out.2.2).trans htg
        refine (r_SameT ⟨kt, ks, ko, kp, ⟨qea, qen, qec⟩, ⟨qda, qdn, qdc⟩, km, kw⟩ ⟨gt, gs, go_, gp, ⟨ca, ge.n, cc⟩, gd, gm, gw⟩ c.num esn dsn msn scn dnn mnn _ _ _ _ _ _ Z (HSN.out.below hb5Z) (HSW.out.apartB (box_slices HY7.out) hZ)).mono ?_
        rintro e w8 ⟨rfl, hb8⟩
        have h58 := hb5Z.trans (hb8.mono hb5Z.size)
        exact ⟨rfl, HB5.out.trans (h58.mono HB5.out.size), h58, hx.keep hb8, ⟨cs, fz, (hb8.block _ hx.2.2).trans ht⟩⟩)
      go_wp2_with fail
      clear hc5 hl5 hc6 hf6 hl6
      refine (HZ.out _ (by repeat (first | (with_reducible exact Same.refl' _) | (refine Same.setTail ?_ (by simp))))).mono ?_
      rintro e w8 ⟨rfl, h48, h58, hx8, ht8⟩
      have H48 := hid h48; have H58 := hid h58; have HX8 := hid hx8; have HT8 := hid ht8
      have hx3 := HX4.out.keep h48
      clear h48 h58 hx8 ht8 HZ
      have hcx := hx3.1; have hfx := hx3.2.1; have hlx := hx3.2.2
      clear hx3
      go_wp2_with fail
      clear hcx hfx hlx
      refine (HCT.out _ H48.out).mono ?_
      rintro e w9 ⟨rfl, hb9⟩
      have H89 := hid hb9; have H49 := hid (H48.out.trans (hb9.mono H48.out.size))
      clear hb9
      have hx3 := HX4.out.keep H49.out
      have hcx := hx3.1; have hfx := hx3.2.1; have hlx := hx3.2.2
      clear hx3
      go_wp2_with fail
      clear hcx hfx hlx
      refine (HRC.out _ H49.out).mono ?_
      rintro e w10 ⟨rfl, hb10⟩
      obtain ⟨nb, hnb⟩ : ∃ nb, nb = w5.heap.size := ⟨_, rfl⟩
      have HM : Hid (Mut w4 w10 nb ⟨kt, ks, ko, kp, ⟨qea, qen, qec⟩, ⟨qda, qdn, qdc⟩, km, kw⟩ esn dsn) := hid (by
        rw [hnb]
        obtain ⟨cs, fz, e⟩ := HT8.out
        have h8X := H89.out.trans (hb10.mono H89.out.size)
        have h5X := H58.out.trans (h8X.mono H58.out.size)
        exact ⟨H48.out.trans (h8X.mono H48.out.size), HX8.out.keep h8X, ⟨cs, fz, (h8X.block _ HX8.out.2.2).trans e⟩, HO1.out.below h5X rfl, HO2.out.below h5X, HO3.out.below h5X rfl, HO4.out.below h5X⟩)
      rw [← hnb]
      clear hb10 hnb
      have hcm := HM.out.bx.1; have hfm := HM.out.bx.2.1; have hlm := HM.out.bx.2.2
      go_wp2_with fail
      clear hcm hfm hlm
      go_loopw [55] (fun i wr => ∃ (k : Nat) (xe : List EvC), k ≤ qen ∧ i = .int .i64 k ∧ Mut w4 wr nb ⟨kt, ks, ko, kp, ⟨qea, qen, qec⟩, ⟨qda, qdn, qdc⟩, km, kw⟩ xe dsn) (fun i _ => qen - (RowKit.intOf i).toNat)
      case atStart => exact ⟨0, esn, Nat.zero_le _, rfl, HM.out⟩
      case round =>
        obtain ⟨k, xe, hk, rfl, hm⟩ := hrel
        have hE : Own wr w4.heap.size 49 9 encEv (.slice qea qen qec) xe := hm.e
        have hlen := hE.len
        by_cases hlt : k < qen
        · have HMK := hid hm
          obtain ⟨g, cur, rfl, hbg, hxl, hcap, hBg, hcur⟩ := hE.open_ (hc := cInsEv) (by omega)
          obtain ⟨x, hx⟩ : ∃ x, xe[k]? = some x := ⟨_, List.getElem?_eq_getElem (by omega)⟩
          obtain ⟨xk, xt, xs_, xl, xo, xv, xp, xa, xn, xc⟩ := x
          have e0 := (hbg.1 (k * 9 + 0)).trans (hcur k _ 0 _ hx rfl)
          have e8 := (hbg.1 (k * 9 + 8)).trans (hcur k _ 8 _ hx rfl)
          have hfg := hbg.2.1; have hlg := hbg.2.2
          have hcm : ∀ i, wr.cell? ⟨nb, i, none⟩ = (#[kt.v, ks.v, ko.v, kp.v, .slice (some ⟨g, 0, none⟩) qen qec, .slice qda qdn qdc, km.v, kw.v] : Array Value)[i]? := hm.bx.1
          have hlm := hm.bx.2.2
          have hne := hm.ne (hE.tag rfl) (by decide)
          have HX := hid hx; have HNE := hid hne
          have hk9 : k < 2000000 := by have := HQN.out; omega
          simp only [Nat.add_zero] at e0
          have hne' := Ne.symm hne
          clear hbg hcur hx hm hxl hBg hE hlen
          go_wp2_with fail
          clear hcm hlm e0 e8 hfg hlg
          have HM1 := hid (HMK.out.kind (g := g) (i := k) rfl HX.out (wrap64 (xk + 1)))
          simp only [Nat.add_zero] at HM1
          obtain ⟨xe', hxe'⟩ : ∃ xe', xe' = xe.set k { (⟨xk, xt, xs_, xl, xo, xv, xp, xa, xn, xc⟩ : EvC) with kind := wrap64 (xk + 1) } := ⟨_, rfl⟩
          have HX2 : Hid (xe'[k]? = some ⟨wrap64 (xk + 1), xt, xs_, xl, xo, xv, xp, xa, xn, xc⟩) := hid (by rw [hxe', List.getElem?_set_self (List.getElem?_eq_some_iff.1 HX.out).1])
          rw [← hxe'] at HM1
          clear hxe'
          go_loopw [74] (fun j wz => ∃ (q : Nat) (wq : World), wq = wz ∧ q ≤ xn ∧ j = .int .i64 q ∧ Mut w4 wq nb ⟨kt, ks, ko, kp, ⟨(some ⟨g, 0, none⟩), qen, qec⟩, ⟨qda, qdn, qdc⟩, km, kw⟩ xe' dsn) (fun j _ => xn - (RowKit.intOf j).toNat)
          case atStart => exact ⟨0, _, rfl, Nat.zero_le _, rfl, HM1.out⟩
          case round =>
            obtain ⟨q, wq, rfl, hq, rfl, hm⟩ := hrel
            have HMQ := hid hm
            have hE : Own wq w4.heap.size 49 9 encEv (.slice (some ⟨g, 0, none⟩) qen qec) xe' := hm.e
            by_cases hlt2 : q < xn
            · obtain ⟨L, hL1, hL2⟩ := hm.s _ (List.mem_of_getElem? HX2.out)
              have hL3 : Own wq w4.heap.size 69 3 encSn (.slice xa xn xc) L := hL2
              have hLn := hL3.len
              obtain ⟨g2, cur2, rfl, hbg2, hxl2, hcap2, hBg2, hcur2⟩ := hL3.open_ (hc := cInsSn) (by omega)
              obtain ⟨y, hy⟩ : ∃ y, L[q]? = some y := ⟨_, List.getElem?_eq_getElem (by omega)⟩
              obtain ⟨yo, yv⟩ := y
              have f0 := (hbg2.1 (q * 3 + 0)).trans (hcur2 q _ 0 _ hy rfl)
              obtain ⟨g3, cur3, e3, hbg3, -, -, -, hcur3⟩ := hE.open_ (hc := cInsEv) (by omega)
              cases e3
              have e8 := (hbg3.1 (k * 9 + 8)).trans (hcur3 k _ 8 _ HX2.out rfl)
              have hff := hbg2.2.1; have hlf := hbg2.2.2
              have hcm : ∀ i, wq.cell? ⟨nb, i, none⟩ = (#[kt.v, ks.v, ko.v, kp.v, .slice (some ⟨g, 0, none⟩) qen qec, .slice qda qdn qdc, km.v, kw.v] : Array Value)[i]? := hm.bx.1
              have hlm := hm.bx.2.2
              have HTG := hid (hL3.tag (g := g2) rfl)
              have HBG2 := hid hBg2
              simp only [Nat.add_zero] at f0
              have hq9 : q < 2000000 := by omega
              clear hbg2 hcur2 hbg3 hcur3 hy hm hE hL1 hL2 hL3 hLn hxl2 hBg2
              go_wp2_with fail
              clear hcm hlm e8 f0 hff hlf
              have HM2 := hid (HMQ.out.pokeSn (o := q) HTG.out HBG2.out (wrap64 (yo + 1)))
              simp only [Nat.add_zero] at HM2
              go_roundw
              case rel => exact ⟨q + 1, _, rfl, by omega, by go_num, HM2.out⟩
              case measure => simp [RowKit.intOf]; omega
            · obtain rfl : q = xn := by omega
              clear hm hE
              go_wp2_with fail
              go_roundw
              case rel => exact ⟨k + 1, xe', by omega, by go_num, HMQ.out⟩
              case measure => simp [RowKit.intOf]; omega
        · clear hlen
          obtain rfl : k = qen := by omega
          have HME := hid hm
          have hcm : ∀ i, wr.cell? ⟨nb, i, none⟩ = (#[kt.v, ks.v, ko.v, kp.v, .slice qea k qec, .slice qda qdn qdc, km.v, kw.v] : Array Value)[i]? := hm.bx.1
          have hlm := hm.bx.2.2
          clear hm hE
          go_wp2_with fail
          clear hcm hlm
          go_loopw [95] (fun i wr => ∃ p : Nat, p ≤ qdn ∧ i = .int .i64 p ∧ Mut w4 wr nb ⟨kt, ks, ko, kp, ⟨qea, k, qec⟩, ⟨qda, qdn, qdc⟩, km, kw⟩ xe dsn) (fun i _ => qdn - (RowKit.intOf i).toNat)
          case atStart => exact ⟨0, Nat.zero_le _, rfl, HME.out⟩
          case round =>
            obtain ⟨p, hp_, rfl, hm⟩ := hrel
            have HMK := hid hm
            have hD : Own wr w4.heap.size 72 2 encOr (.slice qda qdn qdc) dsn := hm.d
            have hlen := hD.len
            by_cases hlt : p < qdn
            · obtain ⟨g, cur, rfl, hbg, hxl, hcap, hBg, hcur⟩ := hD.open_ (hc := cInsOr) (by omega)
              obtain ⟨x, hx⟩ : ∃ x, dsn[p]? = some x := ⟨_, List.getElem?_eq_getElem (by omega)⟩
              obtain ⟨xo, xa, xn, xc⟩ := x
              have e1 := (hbg.1 (p * 2 + 1)).trans (hcur p _ 1 _ hx rfl)
              have hcm : ∀ i, wr.cell? ⟨nb, i, none⟩ = (#[kt.v, ks.v, ko.v, kp.v, .slice qea k qec, .slice (some ⟨g, 0, none⟩) qdn qdc, km.v, kw.v] : Array Value)[i]? := hm.bx.1
              have hlm := hm.bx.2.2
              have HX := hid hx
              have hk9 : p < 2000000 := by have := HQD.out; omega
              clear hbg hcur hx hm hxl hBg hD hlen
              go_wp2_with fail
              clear hcm hlm e1
              go_loopw [105] (fun j wz => ∃ (q : Nat) (wq : World), wq = wz ∧ q ≤ xn ∧ j = .int .i64 q ∧ Mut w4 wq nb ⟨kt, ks, ko, kp, ⟨qea, k, qec⟩, ⟨(some ⟨g, 0, none⟩), qdn, qdc⟩, km, kw⟩ xe dsn) (fun j _ => xn - (RowKit.intOf j).toNat)
              case atStart => exact ⟨0, _, rfl, Nat.zero_le _, rfl, HMK.out⟩
              case round =>
                obtain ⟨q, wq, rfl, hq, rfl, hm⟩ := hrel
                have HMQ := hid hm
                have hD : Own wq w4.heap.size 72 2 encOr (.slice (some ⟨g, 0, none⟩) qdn qdc) dsn := hm.d
                by_cases hlt2 : q < xn
                · obtain ⟨L, hL1, hL2⟩ := hm.t _ (List.mem_of_getElem? HX.out)
                  have hL3 : Own wq w4.heap.size 3 1 encInt (.slice xa xn xc) L := hL2
                  have hLn := hL3.len
                  obtain ⟨g2, cur2, rfl, hbg2, hxl2, hcap2, hBg2, hcur2⟩ := hL3.open_ (hc := cInsInt) (by omega)
                  obtain ⟨y, hy⟩ : ∃ y, L[q]? = some y := ⟨_, List.getElem?_eq_getElem (by omega)⟩
                  have f0 := (hbg2.1 (q * 1 + 0)).trans (hcur2 q _ 0 _ hy rfl)
                  obtain ⟨g3, cur3, e3, hbg3, -, -, -, hcur3⟩ := hD.open_ (hc := cInsOr) (by omega)
                  cases e3
                  have e1 := (hbg3.1 (p * 2 + 1)).trans (hcur3 p _ 1 _ HX.out rfl)
                  have hff := hbg2.2.1; have hlf := hbg2.2.2
                  have hcm : ∀ i, wq.cell? ⟨nb, i, none⟩ = (#[kt.v, ks.v, ko.v, kp.v, .slice qea k qec, .slice (some ⟨g, 0, none⟩) qdn qdc, km.v, kw.v] : Array Value)[i]? := hm.bx.1
                  have hlm := hm.bx.2.2
                  have HTG := hid (hL3.tag (g := g2) rfl)
                  have HBG2 := hid hBg2
                  simp only [Nat.add_zero, Nat.mul_one] at f0
                  have hq9 : q < 2000000 := by omega
                  clear hbg2 hcur2 hbg3 hcur3 hy hm hD hL1 hL2 hL3 hLn hxl2 hBg2
                  go_wp2_with fail
                  clear hcm hlm e1 f0 hff hlf
                  have HM2 := hid (HMQ.out.pokeInt (o := q) HTG.out HBG2.out (wrap64 (y + 1)))
                  go_roundw
                  case rel => exact ⟨q + 1, _, rfl, by omega, by go_num, HM2.out⟩
                  case measure => simp [RowKit.intOf]; omega
                · obtain rfl : q = xn := by omega
                  clear hm hD
                  go_wp2_with fail
                  go_roundw
                  case rel => exact ⟨p + 1, by omega, by go_num, HMQ.out⟩
                  case measure => simp [RowKit.intOf]; omega
            · clear hlen
              obtain rfl : p = qdn := by omega
              have HM2 := hid hm
              clear hm hD
              have HZS := hid (HS4.out.below HM2.out.b); have HZX := hid (HX4.out.keep HM2.out.b); have HZY := hid (HY4.out.keep HM2.out.b)
              have HZB := hid (HB4.out.trans (HM2.out.b.mono HB4.out.size))
              go_wp2_with fail
              refine wp_region_ordC 5 [(0, 0), (1, 0), (2, 2), (3, 2), (4, 0)] (fun _ => True) (fun W' => Bx W' w2.heap.size #[ht.v, hs.v, ho.v, hp.v, .slice ea en ec, .slice da dn_ dc, .slice ma mn_ mc, .slice wa wn wc] ∧ Bx W' w.heap.size (cellsH h)) (by kernel_rfl) (by kernel_rfl) (trivial) (⟨HZX.out, HZY.out⟩) ?_
              repeat (first
                | (refine ordC_skip rfl rfl ?_; simp only [Act.put, List.setIfInBounds_toArray, List.set_cons_zero, List.set_cons_succ])
                | (refine ordC_skip1 rfl rfl ?_; simp only [Act.put, List.setIfInBounds_toArray, List.set_cons_zero, List.set_cons_succ])
                | (refine ordC_q rfl rfl ?_; apply Exists.intro; refine ⟨fun wS hS => ?_, ?_⟩; (go_simp; try with_reducible rfl); simp only [Act.put, List.setIfInBounds_toArray, List.set_cons_zero, List.set_cons_succ])
                | (refine ordC_p rfl rfl ?_; apply Exists.intro; refine ⟨fun wS hS => ?_, ?_⟩; (go_simp; try with_reducible rfl); simp only [Act.put, List.setIfInBounds_toArray, List.set_cons_zero, List.set_cons_succ]))
              refine ordC_l rfl rfl (fun K hK => ?_)
              go_simp
              refine (HOWN.out _ HZB.out.drew).mono ?_
              rintro en Z1 ⟨h3, es3, ds3, ms3, scan3, dn3, mn3, rfl, hd3, hn3, p1, p2, p3, p4, p5, p6, hb3⟩
              have HS3 := hid (⟨hd3, hn3, p1, p2, p3, p4, p5, p6⟩ : Says Z1 h3 c es3 ds3 ms3 scan3 dn3 mn3)
              have HBZ := hid hb3
              refine hK _ _ ⟨trivial, HZX.out.drew.keep hb3, HZY.out.drew.keep hb3⟩ ?_
              clear hK K hd3 hn3 p1 p2 p3 p4 p5 p6 hb3
              refine ordC_l rfl rfl (fun K hK => ?_)
              go_simp
              refine (r_SameT ⟨ht, hs, ho, hp, ⟨ea, en, ec⟩, ⟨da, dn_, dc⟩, ⟨ma, mn_, mc⟩, ⟨wa, wn, wc⟩⟩ h3 c es' ds' ms' scan' dn' mn' es3 ds3 ms3 scan3 dn3 mn3 Z1 (HZS.out.below ((Below.refl _ _).drew.trans HBZ.out)) HS3.out).mono ?_
              rintro en Z2 ⟨rfl, hb3⟩
              have HBZ2 := hid hb3
              refine hK _ _ ⟨trivial, (HZX.out.drew.keep HBZ.out).keep hb3, (HZY.out.drew.keep HBZ.out).keep hb3⟩ ?_
              clear hK K hb3
              repeat (first
                | (refine ordC_skip rfl rfl ?_; simp only [Act.put, List.setIfInBounds_toArray, List.set_cons_zero, List.set_cons_succ])
                | (refine ordC_skip1 rfl rfl ?_; simp only [Act.put, List.setIfInBounds_toArray, List.set_cons_zero, List.set_cons_succ])
                | (refine ordC_q rfl rfl ?_; apply Exists.intro; refine ⟨fun wS hS => ?_, ?_⟩; (go_simp; try with_reducible rfl); simp only [Act.put, List.setIfInBounds_toArray, List.set_cons_zero, List.set_cons_succ])
                | (refine ordC_p rfl rfl ?_; apply Exists.intro; refine ⟨fun wS hS => ?_, ?_⟩; (go_simp; try with_reducible rfl); simp only [Act.put, List.setIfInBounds_toArray, List.set_cons_zero, List.set_cons_succ]))
              refine ordC_nil ?_
              go_wp2_with fail
              go_ret
              exact ⟨rfl, (HZB.out.drew.trans (HBZ.out.mono HZB.out.size)).trans (HBZ2.out.mono (Nat.le_trans HZB.out.size HBZ.out.size))⟩
end Yd
