import Derived.Test.YthdpangjphphjaaGreatDoorSpoken3
import Derived.CallsIn
import Derived.OrdersIn
import Derived.TacticsIn
import Derived.RangeFuncCalls
import Derived.Tactics
import Derived.Test.YthdpangjphphjaaGreatDoorProg
import Derived.IntWalk
set_option maxRecDepth 200000
set_option maxHeartbeats 8000000
namespace Yd
open Go Go.RowKit Go.Proofs

end Yd


namespace Yd
open Go
section
variable {P : Program} {ops : Array Oper} {Q : Exit → Act → World → Prop} {md : Region.Mode} {S : World → Prop}

end
end Yd


namespace Yd
open Go
section
variable {P : Program} {ops : Array Oper} {Q : Exit → Act → World → Prop} {md : Region.Mode} {S : World → Prop} {cut : Nat}

def wpAnyT (P : Program) (md : Region.Mode) (ops : Array Oper) (Q : Exit → Act → World → Prop) (T : Nat → World → World → Prop) : Nat → Array Bool → Act → World → Prop
 | 0, listed, a, w => Region.ready md ops listed = [] ∧ Q .normal a w
 | fuel + 1, listed, a, w => (Region.ready md ops listed = [] → Q .normal a w) ∧ ∀ i ∈ Region.ready md ops listed, wpOp P ops Q i (fun a' w' => T i w w' ∧ wpAnyT P md ops Q T fuel (listed.setIfInBounds i true) a' w') a w
theorem wpAny_of_T {T : Nat → World → World → Prop} : ∀ (fuel : Nat) (listed : Array Bool) (a : Act) (w : World), wpAnyT P md ops Q T fuel listed a w → wpAny P md ops Q fuel listed a w
 | 0, _, _, _, h => h
 | fuel + 1, _, _, _, h => ⟨h.1, fun i hi => wpOp_mono (fun _ _ h' => wpAny_of_T fuel _ _ _ h'.2) (h.2 i hi)⟩

theorem wpAnyT_first {T : Nat → World → World → Prop} {i : Nat} {oi : Oper} {v : Value} (hi : ops[i]? = some oi) (hsel : ∀ (j : Nat) (o : Oper) cs b, ops[j]? = some o → o.op ≠ .select cs b)
   (hQ : ∀ c a w, Q (.panic c) (a.put oi.dst v) w → Q (.panic c) a w) (hTi : ∀ w, S w → T i w w)
   (hT : ∀ j oj, ops[j]? = some oj → j ≠ i → (∀ e ∈ oj.after, Region.binds md e = true → e.on ≠ i) → ∀ w w', T j w w' → S w → S w') :
   ∀ (fuel : Nat) (listed : Array Bool) (a : Act) (w : World),
     (∀ j oj, ops[j]? = some oj → j ≠ i → listed.getD j true = false → (∀ e ∈ oj.after, Region.binds md e = true → e.on ≠ i) → oi.apart ops oj = true) →
     i ∈ Region.ready md ops listed → YieldsIf P ops S oi v a → S w →
     wpAnyT P md ops Q T fuel (listed.setIfInBounds i true) (a.put oi.dst v) w → wpAnyT P md ops Q T (fuel + 1) listed a w := by
 intro fuel
 induction fuel with
 | zero =>
   intro listed a w _ hr hy hS H
   refine ⟨fun h => (by rw [h] at hr; cases hr), fun j hj => ?_⟩
   rcases Decidable.em (j = i) with rfl | hne
   · exact hy.wpOp hi hS ⟨hTi _ hS, H⟩
   · have := ready_mono hj hne
     rw [H.1] at this; cases this
 | succ fuel ih =>
   intro listed a w hfree hr hy hS H
   refine ⟨fun h => (by rw [h] at hr; cases hr), fun j hj => ?_⟩
   rcases Decidable.em (j = i) with rfl | hne
   · exact hy.wpOp hi hS ⟨hTi _ hS, H⟩
   obtain ⟨hun, oj, hoj, hwait⟩ := mem_ready.1 hj
   have hiun := (mem_ready.1 hr).1
   have hno : ∀ e ∈ oj.after, Region.binds md e = true → e.on ≠ i := by
     intro e he hb heq
     have h1 := hwait e he hb
     rw [heq] at h1
     rcases Nat.lt_or_ge i listed.size with h' | h'
     · simp [h'] at hiun h1; rw [hiun] at h1; cases h1
     · simp [Array.getElem?_eq_none h'] at h1
   have hput := wpOp_putIf hoj (hfree j oj hoj hne hun hno) (fun cs b => hsel i oi cs b hi) (fun cs b => hsel j oj cs b hoj) hQ hy (H.2 j (ready_mono hj hne))
   refine wpOp_mono (fun a' w' h3 => ⟨h3.2.1, ih _ a' w' (fun k ok hk hki hku hkn => hfree k ok hk hki ?_ hkn) (ready_mono hr (Ne.symm hne)) h3.1 (hT j oj hoj hne hno _ _ h3.2.1 hS) ?_⟩) hput
   · rcases Decidable.em (j = k) with rfl | hjk
     · exact hun
     · rwa [getD_set_ne true hjk] at hku
   · rw [Array.setIfInBounds_comm _ _ hne]; exact h3.2.2

def ThenS (cut : Nat) (R S : World → Prop) (i : Nat) (w w' : World) : Prop := R w' ∧ (cut ≤ i ∨ (S w → S w'))

def wpOrdC (P : Program) (ops : Array Oper) (Q : Exit → Act → World → Prop) (R S : World → Prop) (cut : Nat) : List (Nat × Nat) → Act → World → Prop
 | [], a, w => Q .normal a w
 | (i, 0) :: r, a, w => ∃ o v, ops[i]? = some o ∧ YieldsIf P ops (fun w => R w ∧ S w) o v a ∧ wpOrdC P ops Q R S cut r (a.put o.dst v) w
 | (i, 1) :: r, a, w => ∃ o v, ops[i]? = some o ∧ YieldsIf P ops R o v a ∧ wpOrdC P ops Q R S cut r (a.put o.dst v) w
 | (i, _ + 2) :: r, a, w => wpOp P ops Q i (fun a' w' => ThenS cut R S i w w' ∧ wpOrdC P ops Q R S cut r a' w') a w

def waits (md : Region.Mode) (ops : Array Oper) (cut i : Nat) : Bool := (List.range ops.size).all fun j => decide (j < cut) || match ops[j]? with
 | some oj => oj.after.any (fun e => Region.binds md e && e.on == i)
 | none => true
theorem waits_spec {i : Nat} (h : waits md ops cut i = true) (j : Nat) (oj : Oper) (hj : ops[j]? = some oj) (hno : ∀ e ∈ oj.after, Region.binds md e = true → e.on ≠ i) : j < cut := by
 have hlt : j < ops.size := (Array.getElem?_eq_some_iff.1 hj).1
 have := List.all_eq_true.1 h j (List.mem_range.2 hlt)
 rw [hj] at this
 simp only [Bool.or_eq_true, decide_eq_true_eq, Array.any_eq_true] at this
 rcases this with h1 | ⟨k, hk, h1⟩
 · exact h1
 · simp only [Bool.and_eq_true, beq_iff_eq] at h1
   exact absurd h1.2 (hno _ (Array.getElem_mem hk) h1.1)
def okOrdC (md : Region.Mode) (ops : Array Oper) (cut : Nat) : List (Nat × Nat) → Bool → Array Bool → Bool
 | [], _, listed => (Region.ready md ops listed).isEmpty
 | (i, 0) :: r, held, listed => (Region.ready md ops listed).contains i && Region.free md ops listed i && (held && waits md ops cut i) && okOrdC md ops cut r held (listed.setIfInBounds i true)
 | (i, 1) :: r, held, listed => (Region.ready md ops listed).contains i && Region.free md ops listed i && okOrdC md ops cut r held (listed.setIfInBounds i true)
 | (i, _ + 2) :: r, held, listed => decide (Region.ready md ops listed = [i]) && okOrdC md ops cut r (held && decide (i < cut)) (listed.setIfInBounds i true)
variable {R : World → Prop}
theorem wpAnyT_of_ord (hs : Region.noSelect ops = true) (hQ : ∀ d v c a w, Q (.panic c) (Act.put a d v) w → Q (.panic c) a w) :
   ∀ (l : List (Nat × Nat)) (held : Bool) (listed : Array Bool) (a : Act) (w : World), okOrdC md ops cut l held listed = true → R w → (held = true → S w) → wpOrdC P ops Q R S cut l a w → wpAnyT P md ops Q (ThenS cut R S) l.length listed a w
 | [], _, listed, a, w, hB, _, _, h => ⟨by simpa [okOrdC] using hB, h⟩
 | (i, 0) :: r, held, listed, a, w, hB, hR, hS, h => by
   simp only [okOrdC, Bool.and_eq_true] at hB
   obtain ⟨⟨⟨hr, hf⟩, hh, hc⟩, hB'⟩ := hB
   obtain ⟨o, v, ho, hy, hn⟩ := h
   have hrest := wpAnyT_of_ord hs hQ r held _ _ _ hB' hR hS hn
   refine wpAnyT_first (S := fun w => R w ∧ S w) ho (Region.noSelect_spec hs) (fun c a w => hQ _ _ c a w) (fun _ h => ⟨h.1, .inr id⟩) (fun j oj hj hne hno w w' hw' hw => ⟨hw'.1, ?_⟩) r.length listed a w (Region.free_spec ho hf) (by simpa using hr) hy ⟨hR, hS hh⟩ hrest
   rcases hw'.2 with h1 | h1
   · exact absurd (waits_spec hc j oj hj hno) (by omega)
   · exact h1 hw.2
 | (i, 1) :: r, held, listed, a, w, hB, hR, hS, h => by
   simp only [okOrdC, Bool.and_eq_true] at hB
   obtain ⟨⟨hr, hf⟩, hB'⟩ := hB
   obtain ⟨o, v, ho, hy, hn⟩ := h
   have hrest := wpAnyT_of_ord hs hQ r held _ _ _ hB' hR hS hn
   exact wpAnyT_first (S := R) ho (Region.noSelect_spec hs) (fun c a w => hQ _ _ c a w) (fun _ h => ⟨h, .inr id⟩) (fun j oj hj hne hno w w' hw' _ => hw'.1) r.length listed a w (Region.free_spec ho hf) (by simpa using hr) hy hR hrest
 | (i, _ + 2) :: r, held, listed, a, w, hB, hR, hS, h => by
   simp only [okOrdC, Bool.and_eq_true, decide_eq_true_eq] at hB
   obtain ⟨hr, hB'⟩ := hB
   refine ⟨fun h0 => (by rw [hr] at h0; cases h0), fun j hj => ?_⟩
   rw [hr] at hj
   obtain rfl : j = i := by simpa using hj
   exact wpOp_mono (fun a' w' hh => ⟨hh.1, wpAnyT_of_ord hs hQ r _ _ a' w' hB' hh.1.1 (fun hh2 => by
     simp only [Bool.and_eq_true, decide_eq_true_eq] at hh2
     rcases hh.1.2 with h1 | h1
     · omega
     · exact h1 (hS hh2.1)) hh.2⟩) h

def strictQ (Q : Exit → Act → World → Prop) : Exit → Act → World → Prop
 | .outgrown, _, _ => False
 | .panic _, _, _ => False
 | .normal, a, w => Q .normal a w
 | .ret, a, w => Q .ret a w
 | .exit id, a, w => Q (.exit id) a w
 | .goto t, a, w => Q (.goto t) a w
theorem strictQ_of {Q : Exit → Act → World → Prop} (e : Exit) (a : Act) (w : World) (h : strictQ Q e a w) : Q e a w := by
 cases e <;> first | exact h | exact h.elim
theorem strictQ_p (Q : Exit → Act → World → Prop) : ∀ d v c a w, strictQ Q (.panic c) (Act.put a d v) w → strictQ Q (.panic c) a w := fun _ _ _ _ _ h => h
theorem wp_region_ordC {id : Nat} {a : Act} {w : World} {l : List Oper} (cut : Nat) (ord : List (Nat × Nat)) (R S : World → Prop) (hm : P.follows .mixedOrders = true)
   (hB : (Region.noSelect l.toArray && decide (ord.length = l.length) && okOrdC .any l.toArray cut ord true (Array.replicate l.toArray.size false)) = true)
   (hR : R w.drew) (hS : S w.drew) (h : wpOrdC P l.toArray (strictQ Q) R S cut ord a w.drew) : (Code.region id l.toArray true).wp P Q a w := by
 simp only [Bool.and_eq_true, decide_eq_true_eq] at hB
 obtain ⟨⟨hs, hl⟩, ho⟩ := hB
 refine wp_mono (Q := strictQ Q) (wp_region_any hm (wpAny_of_T (T := ThenS cut R S) _ _ _ _ ?_)) strictQ_of
 have := wpAnyT_of_ord (md := .any) (Q := strictQ Q) hs (strictQ_p Q) ord true _ a _ ho hR (fun _ => hS) h
 rw [hl] at this
 simpa using this
theorem ordC_nil {a : Act} {w : World} (h : Q .normal a w) : wpOrdC P ops (strictQ Q) R S cut [] a w := h

variable {l : List Oper} {a : Act} {w : World} {r : List (Nat × Nat)} {i : Nat} {o : Oper}
theorem ordC_q (ho : opAt l i = some o) (hw : Region.wanted o (yielded l.toArray a.tmps) = true)
   (h : ∃ v, (∀ w, R w ∧ S w → (execOp a.eval o).run P w = .ok (.value v) w) ∧ wpOrdC P l.toArray Q R S cut r (a.put o.dst v) w) : wpOrdC P l.toArray Q R S cut ((i, 0) :: r) a w :=
 let ⟨v, h1, h2⟩ := h
 ⟨o, v, opAt_get _ _ _ ho, .inl ⟨hw, h1⟩, h2⟩
theorem ordC_p (ho : opAt l i = some o) (hw : Region.wanted o (yielded l.toArray a.tmps) = true)
   (h : ∃ v, (∀ w, R w → (execOp a.eval o).run P w = .ok (.value v) w) ∧ wpOrdC P l.toArray Q R S cut r (a.put o.dst v) w) : wpOrdC P l.toArray Q R S cut ((i, 1) :: r) a w :=
 let ⟨v, h1, h2⟩ := h
 ⟨o, v, opAt_get _ _ _ ho, .inl ⟨hw, h1⟩, h2⟩
theorem ordC_skip (ho : opAt l i = some o) (hw : Region.wanted o (yielded l.toArray a.tmps) = false) (hn : wpOrdC P l.toArray Q R S cut r (a.put o.dst undef) w) : wpOrdC P l.toArray Q R S cut ((i, 0) :: r) a w :=
 ⟨o, undef, opAt_get _ _ _ ho, .inr ⟨hw, rfl⟩, hn⟩
theorem ordC_skip1 (ho : opAt l i = some o) (hw : Region.wanted o (yielded l.toArray a.tmps) = false) (hn : wpOrdC P l.toArray Q R S cut r (a.put o.dst undef) w) : wpOrdC P l.toArray Q R S cut ((i, 1) :: r) a w :=
 ⟨o, undef, opAt_get _ _ _ ho, .inr ⟨hw, rfl⟩, hn⟩
theorem ordC_l (ho : opAt l i = some o) (hw : Region.wanted o (yielded l.toArray a.tmps) = true) (h : ∀ K : Act → World → Prop, (∀ a w, R w ∧ S w → wpOrdC P l.toArray Q R S cut r a w → K a w) → o.wp P a w K Q) :
   wpOrdC P l.toArray Q R S cut ((i, 2) :: r) a w := by
 have ho' := opAt_get _ _ _ ho
 show wpOp _ _ _ _ _ _ _
 unfold wpOp
 simp only [ho', hw, if_true]
 exact .inl (h _ fun _ _ h1 h2 => ⟨⟨h1.1, .inr fun _ => h1.2⟩, h2⟩)
theorem ordC_m (hc : decide (cut ≤ i) = true) (ho : opAt l i = some o) (hw : Region.wanted o (yielded l.toArray a.tmps) = true) (h : ∀ K : Act → World → Prop, (∀ a w, R w → wpOrdC P l.toArray Q R S cut r a w → K a w) → o.wp P a w K Q) :
   wpOrdC P l.toArray Q R S cut ((i, 2) :: r) a w := by
 have ho' := opAt_get _ _ _ ho
 show wpOp _ _ _ _ _ _ _
 unfold wpOp
 simp only [ho', hw, if_true]
 exact .inl (h _ fun _ _ h1 h2 => ⟨⟨h1, .inl (of_decide_eq_true hc)⟩, h2⟩)
end
end Yd


namespace Yd
open Go Go.RowKit Go.Proofs

section
variable {J Jx : List (Int × Int) → World → Prop} {D : Nat → Prop} {xs : List (Int × Int)} {l bh bp : Nat} {h : HC} {w W : World}
end

end Yd


namespace Yd
open Go Go.RowKit Go.Proofs

attribute [local go_sem] Oper.semAt_some

theorem Bx.putObj {X : World} {b : Nat} {cs : Array Value} (h : Bx X b cs) {l : Nat} (o : Obj) (hl : b ≠ l) : Bx (X.putObj l o) b cs := (Same.putObj (A := fun i => i ≠ l) X o (by simp)).bx h hl
theorem Deep.below {w w' : World} {h : HC} {es : List EvC} {ds : List OrC} {ms : List MaC} {qs : List Wa} {scan : EvC → List Sn} {dn : OrC → List Int} {mn : MaC → List Int} (hd : Deep w h es ds ms qs scan dn mn) {B : Nat}
   (hb : Below B w w') (hB : B = w.heap.size) : Deep w' h es ds ms qs scan dn mn :=
 ⟨hd.1.below hb hB, hd.2.1.below hb hB, hd.2.2.1.below hb hB, hd.2.2.2.1.below hb hB, fun x hx => (hd.2.2.2.2.1 x hx).below hb hB, fun x hx => (hd.2.2.2.2.2.1 x hx).below hb hB, fun x hx => (hd.2.2.2.2.2.2 x hx).below hb hB⟩
theorem max2 (a b : Int) (w : World) : (Builtin.max_ #[3, 3] 3 #[.int .i64 a, .int .i64 b]).run Tryz.prog w = .ok (.int .i64 (if b > a then b else a)) w := by
 simp [Builtin.max_, Builtin.max2]

end Yd
