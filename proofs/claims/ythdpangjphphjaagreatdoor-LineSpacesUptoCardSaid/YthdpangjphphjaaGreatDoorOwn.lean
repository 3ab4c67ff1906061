import Derived.Test.YthdpangjphphjaaGreatDoorOrdIn
import Derived.Tactics
import Derived.Test.YthdpangjphphjaaGreatDoorOrd
import Derived.Test.YthdpangjphphjaaGreatDoorProg
import Derived.IntWalk
import Derived.Maps.AppendAt
import Derived.Laws.OwnMore
import Derived.Lib.SliceRun
set_option maxRecDepth 200000
set_option maxHeartbeats 8000000
namespace Yd
open Go
section
variable {P : Program} {ops : Array Oper} {Q : Exit → Act → World → Prop} {md : Region.Mode} {S : World → Prop} {cut : Nat}

def wpAnyT (P : Program) (md : Region.Mode) (ops : Array Oper) (Q : Exit → Act → World → Prop) (T : Nat → World → World → Prop) : Nat → Array Bool → Act → World → Prop
 | 0, listed, a, w => Region.ready md ops listed = [] ∧ Q .normal a w
 | fuel + 1, listed, a, w => (Region.ready md ops listed = [] → Q .normal a w) ∧ ∀ i ∈ Region.ready md ops listed, wpOp P ops Q i (fun a' w' => T i w w' ∧ wpAnyT P md ops Q T fuel (listed.setIfInBounds i true) a' w') a w
theorem wpAny_of_T {T : Nat → World → World → Prop} : ∀ (fuel : Nat) (listed : Array Bool) (a : Act) (w : World), wpAnyT P md ops Q T fuel listed a w → wpAny P md ops Q fuel listed a w
 | 0, _, _, _, h => h
 | fuel + 1, _, _, _, h => ⟨h.1, fun i hi => wpOp_mono (fun _ _ h' => wpAny_of_T fuel _ _ _ h'.2) (h.2 i hi)⟩

theorem wpAnyT_first {T : Nat → World → World → Prop} {i : Nat} {oi : Oper} {v : Value} (hi : ops[i]? = some oi) (hsel : ∀ (j : Nat) (o : Oper) cs b, ops[j]? = some o → o.op ≠ .select cs b)
   (hQ : ∀ c a w, Q (.panic c) (a.put oi.dst v) w → Q (.panic c) a w) (hTi : ∀ w, S w → T i w w)
   (hT : ∀ j oj, ops[j]? = some oj → j ≠ i → (∀ e ∈ oj.after, Region.binds md e = true → e.on ≠ i) → ∀ w w', T j w w' → S w → S w') :
   ∀ (fuel : Nat) (listed : Array Bool) (a : Act) (w : World),
     (∀ j oj, ops[j]? = some oj → j ≠ i → listed.getD j true = false → (∀ e ∈ oj.after, Region.binds md e = true → e.on ≠ i) → oi.apart ops oj = true) →
     i ∈ Region.ready md ops listed → YieldsIf P ops S oi v a → S w →
     wpAnyT P md ops Q T fuel (listed.setIfInBounds i true) (a.put oi.dst v) w → wpAnyT P md ops Q T (fuel + 1) listed a w := by
 intro fuel
 induction fuel with
 | zero =>
   intro listed a w _ hr hy hS H
   refine ⟨fun h => (by rw [h] at hr; cases hr), fun j hj => ?_⟩
   rcases Decidable.em (j = i) with rfl | hne
   · exact hy.wpOp hi hS ⟨hTi _ hS, H⟩
   · have := ready_mono hj hne
     rw [H.1] at this; cases this
 | succ fuel ih =>
   intro listed a w hfree hr hy hS H
   refine ⟨fun h => (by rw [h] at hr; cases hr), fun j hj => ?_⟩
   rcases Decidable.em (j = i) with rfl | hne
   · exact hy.wpOp hi hS ⟨hTi _ hS, H⟩
   obtain ⟨hun, oj, hoj, hwait⟩ := mem_ready.1 hj
   have hiun := (mem_ready.1 hr).1
   have hno : ∀ e ∈ oj.after, Region.binds md e = true → e.on ≠ i := by
     intro e he hb heq
     have h1 := hwait e he hb
     rw [heq] at h1
     rcases Nat.lt_or_ge i listed.size with h' | h'
     · simp [h'] at hiun h1; rw [hiun] at h1; cases h1
     · simp [Array.getElem?_eq_none h'] at h1
   have hput := wpOp_putIf hoj (hfree j oj hoj hne hun hno) (fun cs b => hsel i oi cs b hi) (fun cs b => hsel j oj cs b hoj) hQ hy (H.2 j (ready_mono hj hne))
   refine wpOp_mono (fun a' w' h3 => ⟨h3.2.1, ih _ a' w' (fun k ok hk hki hku hkn => hfree k ok hk hki ?_ hkn) (ready_mono hr (Ne.symm hne)) h3.1 (hT j oj hoj hne hno _ _ h3.2.1 hS) ?_⟩) hput
   · rcases Decidable.em (j = k) with rfl | hjk
     · exact hun
     · rwa [getD_set_ne true hjk] at hku
   · rw [Array.setIfInBounds_comm _ _ hne]; exact h3.2.2

def ThenS (cut : Nat) (R S : World → Prop) (i : Nat) (w w' : World) : Prop := R w' ∧ (cut ≤ i ∨ (S w → S w'))

def wpOrdC (P : Program) (ops : Array Oper) (Q : Exit → Act → World → Prop) (R S : World → Prop) (cut : Nat) : List (Nat × Nat) → Act → World → Prop
 | [], a, w => Q .normal a w
 | (i, 0) :: r, a, w => ∃ o v, ops[i]? = some o ∧ YieldsIf P ops (fun w => R w ∧ S w) o v a ∧ wpOrdC P ops Q R S cut r (a.put o.dst v) w
 | (i, 1) :: r, a, w => ∃ o v, ops[i]? = some o ∧ YieldsIf P ops R o v a ∧ wpOrdC P ops Q R S cut r (a.put o.dst v) w
 | (i, _ + 2) :: r, a, w => wpOp P ops Q i (fun a' w' => ThenS cut R S i w w' ∧ wpOrdC P ops Q R S cut r a' w') a w

def waits (md : Region.Mode) (ops : Array Oper) (cut i : Nat) : Bool := (List.range ops.size).all fun j => decide (j < cut) || match ops[j]? with
 | some oj => oj.after.any (fun e => Region.binds md e && e.on == i)
 | none => true
theorem waits_spec {i : Nat} (h : waits md ops cut i = true) (j : Nat) (oj : Oper) (hj : ops[j]? = some oj) (hno : ∀ e ∈ oj.after, Region.binds md e = true → e.on ≠ i) : j < cut := by
 have hlt : j < ops.size := (Array.getElem?_eq_some_iff.1 hj).1
 have := List.all_eq_true.1 h j (List.mem_range.2 hlt)
 rw [hj] at this
 simp only [Bool.or_eq_true, decide_eq_true_eq, Array.any_eq_true] at this
 rcases this with h1 | ⟨k, hk, h1⟩
 · exact h1
 · simp only [Bool.and_eq_true, beq_iff_eq] at h1
   exact absurd h1.2 (hno _ (Array.getElem_mem hk) h1.1)
def okOrdC (md : Region.Mode) (ops : Array Oper) (cut : Nat) : List (Nat × Nat) → Bool → Array Bool → Bool
 | [], _, listed => (Region.ready md ops listed).isEmpty
 | (i, 0) :: r, held, listed => (Region.ready md ops listed).contains i && Region.free md ops listed i && (held && waits md ops cut i) && okOrdC md ops cut r held (listed.setIfInBounds i true)
 | (i, 1) :: r, held, listed => (Region.ready md ops listed).contains i && Region.free md ops listed i && okOrdC md ops cut r held (listed.setIfInBounds i true)
 | (i, _ + 2) :: r, held, listed => decide (Region.ready md ops listed = [i]) && okOrdC md ops cut r (held && decide (i < cut)) (listed.setIfInBounds i true)
variable {R : World → Prop}
theorem wpAnyT_of_ord (hs : Region.noSelect ops = true) (hQ : ∀ d v c a w, Q (.panic c) (Act.put a d v) w → Q (.panic c) a w) :
   ∀ (l : List (Nat × Nat)) (held : Bool) (listed : Array Bool) (a : Act) (w : World), okOrdC md ops cut l held listed = true → R w → (held = true → S w) → wpOrdC P ops Q R S cut l a w → wpAnyT P md ops Q (ThenS cut R S) l.length listed a w
 | [], _, listed, a, w, hB, _, _, h => ⟨by simpa [okOrdC] using hB, h⟩
 | (i, 0) :: r, held, listed, a, w, hB, hR, hS, h => by
   simp only [okOrdC, Bool.and_eq_true] at hB
   obtain ⟨⟨⟨hr, hf⟩, hh, hc⟩, hB'⟩ := hB
   obtain ⟨o, v, ho, hy, hn⟩ := h
   have hrest := wpAnyT_of_ord hs hQ r held _ _ _ hB' hR hS hn
   refine wpAnyT_first (S := fun w => R w ∧ S w) ho (Region.noSelect_spec hs) (fun c a w => hQ _ _ c a w) (fun _ h => ⟨h.1, .inr id⟩) (fun j oj hj hne hno w w' hw' hw => ⟨hw'.1, ?_⟩) r.length listed a w (Region.free_spec ho hf) (by simpa using hr) hy ⟨hR, hS hh⟩ hrest
   rcases hw'.2 with h1 | h1
   · exact absurd (waits_spec hc j oj hj hno) (by omega)
   · exact h1 hw.2
 | (i, 1) :: r, held, listed, a, w, hB, hR, hS, h => by
   simp only [okOrdC, Bool.and_eq_true] at hB
   obtain ⟨⟨hr, hf⟩, hB'⟩ := hB
   obtain ⟨o, v, ho, hy, hn⟩ := h
   have hrest := wpAnyT_of_ord hs hQ r held _ _ _ hB' hR hS hn
   exact wpAnyT_first (S := R) ho (Region.noSelect_spec hs) (fun c a w => hQ _ _ c a w) (fun _ h => ⟨h, .inr id⟩) (fun j oj hj hne hno w w' hw' _ => hw'.1) r.length listed a w (Region.free_spec ho hf) (by simpa using hr) hy hR hrest
 | (i, _ + 2) :: r, held, listed, a, w, hB, hR, hS, h => by
   simp only [okOrdC, Bool.and_eq_true, decide_eq_true_eq] at hB
   obtain ⟨hr, hB'⟩ := hB
   refine ⟨fun h0 => (by rw [hr] at h0; cases h0), fun j hj => ?_⟩
   rw [hr] at hj
   obtain rfl : j = i := by simpa using hj
   exact wpOp_mono (fun a' w' hh => ⟨hh.1, wpAnyT_of_ord hs hQ r _ _ a' w' hB' hh.1.1 (fun hh2 => by
     simp only [Bool.and_eq_true, decide_eq_true_eq] at hh2
     rcases hh.1.2 with h1 | h1
     · omega
     · exact h1 (hS hh2.1)) hh.2⟩) h

def strictQ (Q : Exit → Act → World → Prop) : Exit → Act → World → Prop
 | .outgrown, _, _ => False
 | .panic _, _, _ => False
 | .normal, a, w => Q .normal a w
 | .ret, a, w => Q .ret a w
 | .exit id, a, w => Q (.exit id) a w
 | .goto t, a, w => Q (.goto t) a w
theorem strictQ_of {Q : Exit → Act → World → Prop} (e : Exit) (a : Act) (w : World) (h : strictQ Q e a w) : Q e a w := by
 cases e <;> first | exact h | exact h.elim
theorem strictQ_p (Q : Exit → Act → World → Prop) : ∀ d v c a w, strictQ Q (.panic c) (Act.put a d v) w → strictQ Q (.panic c) a w := fun _ _ _ _ _ h => h
theorem wp_region_ordC {id : Nat} {a : Act} {w : World} {l : List Oper} (cut : Nat) (ord : List (Nat × Nat)) (R S : World → Prop) (hm : P.follows .mixedOrders = true)
   (hB : (Region.noSelect l.toArray && decide (ord.length = l.length) && okOrdC .any l.toArray cut ord true (Array.replicate l.toArray.size false)) = true)
   (hR : R w.drew) (hS : S w.drew) (h : wpOrdC P l.toArray (strictQ Q) R S cut ord a w.drew) : (Code.region id l.toArray true).wp P Q a w := by
 simp only [Bool.and_eq_true, decide_eq_true_eq] at hB
 obtain ⟨⟨hs, hl⟩, ho⟩ := hB
 refine wp_mono (Q := strictQ Q) (wp_region_any hm (wpAny_of_T (T := ThenS cut R S) _ _ _ _ ?_)) strictQ_of
 have := wpAnyT_of_ord (md := .any) (Q := strictQ Q) hs (strictQ_p Q) ord true _ a _ ho hR (fun _ => hS) h
 rw [hl] at this
 simpa using this
theorem ordC_nil {a : Act} {w : World} (h : Q .normal a w) : wpOrdC P ops (strictQ Q) R S cut [] a w := h

variable {l : List Oper} {a : Act} {w : World} {r : List (Nat × Nat)} {i : Nat} {o : Oper}
theorem ordC_q (ho : opAt l i = some o) (hw : Region.wanted o (yielded l.toArray a.tmps) = true)
   (h : ∃ v, (∀ w, R w ∧ S w → (execOp a.eval o).run P w = .ok (.value v) w) ∧ wpOrdC P l.toArray Q R S cut r (a.put o.dst v) w) : wpOrdC P l.toArray Q R S cut ((i, 0) :: r) a w :=
 let ⟨v, h1, h2⟩ := h
 ⟨o, v, opAt_get _ _ _ ho, .inl ⟨hw, h1⟩, h2⟩
theorem ordC_p (ho : opAt l i = some o) (hw : Region.wanted o (yielded l.toArray a.tmps) = true)
   (h : ∃ v, (∀ w, R w → (execOp a.eval o).run P w = .ok (.value v) w) ∧ wpOrdC P l.toArray Q R S cut r (a.put o.dst v) w) : wpOrdC P l.toArray Q R S cut ((i, 1) :: r) a w :=
 let ⟨v, h1, h2⟩ := h
 ⟨o, v, opAt_get _ _ _ ho, .inl ⟨hw, h1⟩, h2⟩
theorem ordC_skip (ho : opAt l i = some o) (hw : Region.wanted o (yielded l.toArray a.tmps) = false) (hn : wpOrdC P l.toArray Q R S cut r (a.put o.dst undef) w) : wpOrdC P l.toArray Q R S cut ((i, 0) :: r) a w :=
 ⟨o, undef, opAt_get _ _ _ ho, .inr ⟨hw, rfl⟩, hn⟩
theorem ordC_skip1 (ho : opAt l i = some o) (hw : Region.wanted o (yielded l.toArray a.tmps) = false) (hn : wpOrdC P l.toArray Q R S cut r (a.put o.dst undef) w) : wpOrdC P l.toArray Q R S cut ((i, 1) :: r) a w :=
 ⟨o, undef, opAt_get _ _ _ ho, .inr ⟨hw, rfl⟩, hn⟩
theorem ordC_l (ho : opAt l i = some o) (hw : Region.wanted o (yielded l.toArray a.tmps) = true) (h : ∀ K : Act → World → Prop, (∀ a w, R w ∧ S w → wpOrdC P l.toArray Q R S cut r a w → K a w) → o.wp P a w K Q) :
   wpOrdC P l.toArray Q R S cut ((i, 2) :: r) a w := by
 have ho' := opAt_get _ _ _ ho
 show wpOp _ _ _ _ _ _ _
 unfold wpOp
 simp only [ho', hw, if_true]
 exact .inl (h _ fun _ _ h1 h2 => ⟨⟨h1.1, .inr fun _ => h1.2⟩, h2⟩)
theorem ordC_m (hc : decide (cut ≤ i) = true) (ho : opAt l i = some o) (hw : Region.wanted o (yielded l.toArray a.tmps) = true) (h : ∀ K : Act → World → Prop, (∀ a w, R w → wpOrdC P l.toArray Q R S cut r a w → K a w) → o.wp P a w K Q) :
   wpOrdC P l.toArray Q R S cut ((i, 2) :: r) a w := by
 have ho' := opAt_get _ _ _ ho
 show wpOp _ _ _ _ _ _ _
 unfold wpOp
 simp only [ho', hw, if_true]
 exact .inl (h _ fun _ _ h1 h2 => ⟨⟨h1, .inl (of_decide_eq_true hc)⟩, h2⟩)
end
end Yd


namespace Yd
open Go Go.RowKit Go.Proofs

section
variable {J Jx : List (Int × Int) → World → Prop} {D : Nat → Prop} {xs : List (Int × Int)} {l bh bp : Nat} {h : HC} {w W : World}
end

end Yd


namespace Yd
open Go Go.RowKit Go.Proofs

attribute [local go_sem] Oper.semAt_some

theorem Bx.putObj {X : World} {b : Nat} {cs : Array Value} (h : Bx X b cs) {l : Nat} (o : Obj) (hl : b ≠ l) : Bx (X.putObj l o) b cs := (Same.putObj (A := fun i => i ≠ l) X o (by simp)).bx h hl
theorem Deep.below {w w' : World} {h : HC} {es : List EvC} {ds : List OrC} {ms : List MaC} {qs : List Wa} {scan : EvC → List Sn} {dn : OrC → List Int} {mn : MaC → List Int} (hd : Deep w h es ds ms qs scan dn mn) {B : Nat}
   (hb : Below B w w') (hB : B = w.heap.size) : Deep w' h es ds ms qs scan dn mn :=
 ⟨hd.1.below hb hB, hd.2.1.below hb hB, hd.2.2.1.below hb hB, hd.2.2.2.1.below hb hB, fun x hx => (hd.2.2.2.2.1 x hx).below hb hB, fun x hx => (hd.2.2.2.2.2.1 x hx).below hb hB, fun x hx => (hd.2.2.2.2.2.2 x hx).below hb hB⟩
theorem max2 (a b : Int) (w : World) : (Builtin.max_ #[3, 3] 3 #[.int .i64 a, .int .i64 b]).run Tryz.prog w = .ok (.int .i64 (if b > a then b else a)) w := by
 simp [Builtin.max_, Builtin.max2]

end Yd


namespace Yd
open Go Go.RowKit

theorem alloc_new (w : World) (o : Obj) : (w.alloc o).heap[w.heap.size]? = some o := by
 show (w.heap.push o)[w.heap.size]? = some o
 simp

def Own {α : Type} (w : World) (B : Nat) (E : TypeId) (k : Nat) (enc : α → List Value) (v : Value) (xs : List α) : Prop :=
 w.ownsRow B E k v xs.length (xs.flatMap enc)

class Cells {α : Type} (enc : α → List Value) (k : Nat) : Prop where
 len : ∀ x, (enc x).length = k
 pos : 0 < k
 one : ∀ x, ∀ u ∈ enc x, u.oneCell' = true

instance cInsInt : Cells encInt 1 := ⟨fun _ => rfl, by decide, fun x u h => by simp [encInt] at h; subst h; rfl⟩
instance cInsStr : Cells encStr 1 := ⟨fun _ => rfl, by decide, fun x u h => by simp [encStr] at h; subst h; rfl⟩
instance cInsSn : Cells encSn 3 := ⟨fun _ => rfl, by decide, fun x u h => by simp [encSn] at h; rcases h with rfl | rfl | rfl <;> rfl⟩
instance cInsWa : Cells encWa 2 := ⟨fun _ => rfl, by decide, fun x u h => by simp [encWa] at h; rcases h with rfl | rfl <;> rfl⟩
instance cInsTo : Cells encTo 2 := ⟨fun _ => rfl, by decide, fun x u h => by simp [encTo] at h; rcases h with rfl | rfl <;> rfl⟩
instance cInsOr : Cells encOr 2 := ⟨fun _ => rfl, by decide, fun x u h => by simp [encOr] at h; rcases h with rfl | rfl <;> rfl⟩
instance cInsMa : Cells encMa 4 := ⟨fun _ => rfl, by decide, fun x u h => by simp [encMa] at h; rcases h with rfl | rfl | rfl | rfl <;> rfl⟩
instance cInsLn : Cells encLn 6 := ⟨fun _ => rfl, by decide, fun x u h => by simp [encLn] at h; rcases h with rfl | rfl | rfl | rfl | rfl | rfl <;> rfl⟩
instance cInsEv : Cells encEv 9 := ⟨fun _ => rfl, by decide, fun x u h => by simp [encEv] at h; rcases h with rfl | rfl | rfl | rfl | rfl | rfl | rfl | rfl | rfl <;> rfl⟩

section
variable {α : Type} {enc : α → List Value} {k : Nat}
theorem flat_len [hc : Cells enc k] (xs : List α) : (xs.flatMap enc).length = xs.length * k := by
 induction xs with
 | nil => simp
 | cons x xs ih => simp [List.flatMap_cons, ih, hc.len x, Nat.add_mul, Nat.add_comm]
theorem flat_get [hc : Cells enc k] (xs : List α) : ∀ (i : Nat) (x : α) (j : Nat) (v : Value), xs[i]? = some x → (enc x)[j]? = some v → (xs.flatMap enc)[i * k + j]? = some v := by
 induction xs with
 | nil => intro i x j v h; simp at h
 | cons y ys ih =>
   intro i x j v hx hv
   have hj : j < k := by
     have := (List.getElem?_eq_some_iff.1 hv).1
     rw [hc.len x] at this; exact this
   rw [List.flatMap_cons]
   cases i with
   | zero =>
     have e : y = x := by simpa using hx
     subst e
     rw [Nat.zero_mul, Nat.zero_add, List.getElem?_append_left (by rw [hc.len y]; exact hj)]
     exact hv
   | succ i =>
     rw [List.getElem?_append_right (by rw [hc.len y, Nat.succ_mul]; omega), hc.len y, show (i + 1) * k + j - k = i * k + j by rw [Nat.succ_mul]; omega]
     exact ih i x j v (by simpa using hx) hv
theorem get_flat [hc : Cells enc k] (xs : List α) : ∀ (q : Nat) (v : Value), (xs.flatMap enc)[q]? = some v → ∃ i x j, xs[i]? = some x ∧ (enc x)[j]? = some v ∧ q = i * k + j := by
 induction xs with
 | nil => intro q v h; simp at h
 | cons y ys ih =>
   intro q v h
   rw [List.flatMap_cons] at h
   rcases Nat.lt_or_ge q k with hq | hq
   · rw [List.getElem?_append_left (by rw [hc.len y]; exact hq)] at h
     exact ⟨0, y, q, rfl, h, by omega⟩
   · rw [List.getElem?_append_right (by rw [hc.len y]; exact hq), hc.len y] at h
     obtain ⟨i, x, j, hx, hv, he⟩ := ih _ _ h
     exact ⟨i + 1, x, j, by simpa using hx, hv, by rw [Nat.succ_mul]; omega⟩
theorem flat_one [hc : Cells enc k] (xs : List α) : ∀ u ∈ xs.flatMap enc, u.oneCell' = true := by
 intro u hu
 obtain ⟨x, _, h⟩ := List.mem_flatMap.1 hu
 exact hc.one x u h

variable {w w' : World} {B : Nat} {E : TypeId} {v : Value} {xs : List α}
theorem Own.nil_ (w : World) (B : Nat) (E : TypeId) (k : Nat) (enc : α → List Value) : Own w B E k enc (.slice none 0 0) [] := World.ownsRow_nil w B E k
theorem Own.shape (h : Own w B E k enc v xs) : ∃ a c, v = .slice a xs.length c ∧ (a = none → c = 0) ∧ xs.length ≤ c := by
 rcases h.2 with ⟨rfl, h0⟩ | ⟨g, cap, cur, rfl, _, _, hn, _⟩
 · exact ⟨none, 0, by rw [h0], fun _ => rfl, by omega⟩
 · exact ⟨_, cap, rfl, (fun h => by cases h), hn⟩
theorem Own.row [hc : Cells enc k] {a : Option Addr} {n c : Nat} (h : Own w B E k enc (.slice a n c) xs) (hle : xs.length ≤ 140737488355328) : Row w k enc a n c xs := by
 obtain ⟨h1, h2⟩ := h
 rcases h2 with ⟨he, h0⟩ | ⟨g, cap, cur, he, _, hh, hn, _, hs, ht⟩
 · injection he with e1 e2 e3
   subst e1 e2 e3
   have hx : xs = [] := List.eq_nil_of_length_eq_zero h0
   subst hx
   exact Row.nil_
 · injection he with e1 e2 e3
   subst e1 e2 e3
   refine ⟨rfl, hn, hle, (fun h => by cases h), fun i x hx => ⟨g, 0, rfl, fun j v hv => ?_⟩⟩
   have hf := flat_get (hc := hc) xs i x j v hx hv
   have hlt : i * k + j < xs.length * k := by rw [← h1]; exact (List.getElem?_eq_some_iff.1 hf).1
   rw [← ht, List.getElem?_take, if_pos hlt] at hf
   simp only [Nat.zero_add]
   unfold World.cell?
   simp [hh]
   simpa using hf
theorem Own.lt (h : Own w B E k enc v xs) : ∀ g, v.ownBlock = some g → B ≤ g ∧ g < w.heap.size := World.ownsRow.lt h
theorem Own.alloc (h : Own w B E k enc v xs) (o : Obj) : Own (w.alloc o) B E k enc v xs := World.ownsRow.alloc h o
theorem Own.drew (h : Own w B E k enc v xs) : Own w.drew B E k enc v xs := h
theorem Own.block (h : Own w B E k enc v xs) (hk : ∀ g, v.ownBlock = some g → w'.heap[g]? = w.heap[g]?) : Own w' B E k enc v xs := by
 obtain ⟨h1, h2⟩ := h
 refine ⟨h1, ?_⟩
 rcases h2 with h2 | ⟨g, cap, cur, rfl, hB, hh, r⟩
 · exact .inl h2
 · exact .inr ⟨g, cap, cur, rfl, hB, by rw [hk g rfl]; exact hh, r⟩
theorem Own.below {D : Nat} (h : Own w B E k enc v xs) (hb : Below D w w') (hD : D = w.heap.size) : Own w' B E k enc v xs :=
 h.block fun g hg => hb.block g (by rw [hD]; exact (h.lt g hg).2)
theorem Own.mono {B' : Nat} (h : Own w B E k enc v xs) (hB : B' ≤ B) : Own w B' E k enc v xs := by
 obtain ⟨h1, h2⟩ := h
 refine ⟨h1, ?_⟩
 rcases h2 with h2 | ⟨g, cap, cur, rfl, hB', r⟩
 · exact .inl h2
 · exact .inr ⟨g, cap, cur, rfl, by omega, r⟩
theorem Own.new (w : World) (B : Nat) (E : TypeId) [hc : Cells enc k] (cs : Array Value) (xs : List α) (hB : B ≤ w.heap.size) (he : cs.toList = xs.flatMap enc) (hle : xs.length ≤ maxLen) :
   Own (w.alloc (.cells cs E)) B E k enc (.slice (some ⟨w.heap.size, 0, none⟩) xs.length xs.length) xs := by
 have hs : cs.size = xs.length * k := by rw [← Array.length_toList, he, flat_len (hc := hc)]
 refine ⟨flat_len xs, .inr ⟨w.heap.size, xs.length, cs, rfl, hB, alloc_new w _, Nat.le_refl _, hle, hs, ?_⟩⟩
 rw [List.take_of_length_le (by rw [Array.length_toList, hs]; exact Nat.le_refl _), he]

theorem run_app [hc : Cells enc k] {P : Program} (t ty : TypeId) (i : TypeInfo) (z : Value) (bytes : Nat) (ht : P.underlying t = some (.slice E)) (hi : P.info? E = some i) (hz : i.zero = some z)
   (hsize : i.size = k) (hby : i.bytes = bytes) (hzs : z.cells.size = k) (hown : Own w B E k enc v xs)
   {a : Option Addr} {m c : Nat} {ys : List α} (hr : Row w k enc a m c ys) (hbytes : (xs.length + m) * bytes ≤ 140737488355328) (h63 : xs.length + m ≤ maxLen) (hbase : B ≤ w.heap.size) :
   ∃ a' c' w', (Builtin.append_ #[t, t] ty #[v, .slice a m c]).run P w = .ok (.slice a' (xs ++ ys).length c') w' ∧ Own w' B E k enc (.slice a' (xs ++ ys).length c') (xs ++ ys) ∧ w.grownBy w' v.ownBlock ∧
     ((Value.slice a' (xs ++ ys).length c').ownBlock = v.ownBlock ∨ (Value.slice a' (xs ++ ys).length c').ownBlock = some w.heap.size) := by
 cases a with
 | none =>
   obtain ⟨rfl, rfl, rfl⟩ := hr.none_
   obtain ⟨a, c, rfl, _, _⟩ := hown.shape
   refine ⟨a, c, w, ?_, ?_, World.grownBy.refl w _, .inl ?_⟩
   · simpa using run_append_owned_none (P := P) (w := w) B t ty E i k ht hi _ _ _ hown
   · simpa using hown
   · rw [List.append_nil]
 | some ad =>
   have hm : ys.length = m := hr.len
   have hcells : ∀ j u, (ys.flatMap enc)[j]? = some u → w.cell? (ad.add j) = some u := by
     intro j u hu
     obtain ⟨i', x, j', hx, hv, he⟩ := get_flat (hc := hc) ys j u hu
     obtain ⟨b, o, ha, hcell⟩ := hr.2.2.2.2 i' x hx
     injection ha with ha
     subst ha
     have h := hcell j' u hv
     rw [he]
     unfold Addr.add
     split
     · rename_i h0
       rw [show o + i' * k + j' = o by omega] at h; exact h
     · rw [← Nat.add_assoc]; exact h
   obtain ⟨v', w', hrun, h1, h2, _, h4⟩ := run_append_own_at (P := P) w B t ty E i z k bytes ht hi hz hsize hby hzs hc.pos v xs.length (xs.flatMap enc) hown ad m c (ys.flatMap enc) (by rw [flat_len (hc := hc), hm]) hcells (flat_one (hc := hc) ys) h63 hbytes hbase
   have hown' : Own w' B E k enc v' (xs ++ ys) := by
     unfold Own
     rw [List.flatMap_append, List.length_append, hm]; exact h1
   obtain ⟨a', c', rfl, _, _⟩ := hown'.shape
   exact ⟨a', c', w', hrun, hown', h2, h4⟩

theorem wp_app [hc : Cells enc k] {P : Program} {o : Oper} {ac : Act} {K : Act → World → Prop} {Q : Exit → Act → World → Prop} (s x : Operand) (t : TypeId)
   (ho : o.op = .call { callee := .builtin .append, args := #[s, x], argTypes := #[t, t] }) (i : TypeInfo) (z : Value) (bytes : Nat) (ht : P.underlying t = some (.slice E)) (hi : P.info? E = some i) (hz : i.zero = some z)
   (hsize : i.size = k) (hby : i.bytes = bytes) (hzs : z.cells.size = k) (hs : ac.eval s = v) (hown : Own w B E k enc v xs)
   (a : Option Addr) (m c N : Nat) (ys : List α) (hx : ac.eval x = .slice a m c) (hr : Row w k enc a m c ys) (hN : xs.length + m = N) (hbytes : N * bytes ≤ 140737488355328) (h63 : N ≤ maxLen) (hbase : B ≤ w.heap.size)
   (h : ∀ a' c' w', Own w' B E k enc (.slice a' N c') (xs ++ ys) → w.grownBy w' v.ownBlock → ((Value.slice a' N c').ownBlock = v.ownBlock ∨ (Value.slice a' N c').ownBlock = some w.heap.size) → K (ac.put o.dst (.slice a' N c')) w') : o.wp P ac w K Q := by
 subst hN
 obtain ⟨a', c', w', hrun, h2, h3, h4⟩ := run_app (P := P) t o.type i z bytes ht hi hz hsize hby hzs hown hr hbytes h63 hbase
 have hl : (xs ++ ys).length = xs.length + m := by rw [List.length_append, hr.len]
 rw [hl] at hrun h2 h4
 unfold Oper.wp execOp
 simp only [ho, resolve, invoke, builtin, Sem.run_bind, Sem.run_pure, Result.andThen_ok, List.map_toArray, List.map_cons, List.map_nil, hs, hx, hrun]
 exact h a' c' w' h2 h3 h4
theorem wpList_app [hc : Cells enc k] {P : Program} {ops : Array Oper} {rest : List Oper} {o : Oper} {ac : Act} {Q : Exit → Act → World → Prop} (hgd : o.guard = none) (s x : Operand) (t : TypeId)
   (ho : o.op = .call { callee := .builtin .append, args := #[s, x], argTypes := #[t, t] }) (i : TypeInfo) (z : Value) (bytes : Nat) (ht : P.underlying t = some (.slice E)) (hi : P.info? E = some i) (hz : i.zero = some z)
   (hsize : i.size = k) (hby : i.bytes = bytes) (hzs : z.cells.size = k) (hs : ac.eval s = v) (hown : Own w B E k enc v xs)
   (a : Option Addr) (m c N : Nat) (ys : List α) (hx : ac.eval x = .slice a m c) (hr : Row w k enc a m c ys) (hN : xs.length + m = N) (hbytes : N * bytes ≤ 140737488355328) (h63 : N ≤ maxLen) (hbase : B ≤ w.heap.size)
   (h : ∀ a' c' w', Own w' B E k enc (.slice a' N c') (xs ++ ys) → w.grownBy w' v.ownBlock → ((Value.slice a' N c').ownBlock = v.ownBlock ∨ (Value.slice a' N c').ownBlock = some w.heap.size) → wpList P ops Q rest (ac.put o.dst (.slice a' N c')) w') :
   wpList P ops Q (o :: rest) ac w :=
 wpList_plain hgd fun _ hK => wp_app s x t ho i z bytes ht hi hz hsize hby hzs hs hown a m c N ys hx hr hN hbytes h63 hbase fun a' c' w' h2 h3 h4 => hK _ _ (h a' c' w' h2 h3 h4)

theorem below_app {D : Nat} {a0 : World} (hb : Below D a0 w) (hown : Own w B E k enc v xs) (hD : D ≤ B) (hsz : D ≤ w.heap.size) (hg : w.grownBy w' v.ownBlock) : Below D a0 w' :=
 hb.grown hg hsz fun g e => Nat.le_trans hD (hown.lt g e).1
def RetOwn (E : TypeId) (k : Nat) (enc : α → List Value) (xs : List α) (w : World) (e : Ending) (w' : World) : Prop :=
 ∃ a c, e = .returned (.slice a xs.length c) ∧ Own w' w.heap.size E k enc (.slice a xs.length c) xs ∧ Below w.heap.size w w'
end
end Yd
