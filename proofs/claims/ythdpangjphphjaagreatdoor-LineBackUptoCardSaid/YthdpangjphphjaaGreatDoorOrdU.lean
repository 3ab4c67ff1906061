import Derived.Test.YthdpangjphphjaaGreatDoorCu10
import Derived.Test.YthdpangjphphjaaGreatDoorProg
import Derived.Test.YthdpangjphphjaaGreatDoorOwn
set_option maxRecDepth 200000
set_option maxHeartbeats 8000000
namespace Yd
open Go Go.RowKit Go.Proofs

end Yd


namespace Yd
open Go
inductive OU where
 | nil
 | q (i c : Nat) (r : OU)
 | l (i : Nat) (r : OU)
 | alt (i : Nat) (r : OU) (j : Nat) (s : OU)
 | alt3 (i : Nat) (r : OU) (j : Nat) (s : OU) (k : Nat) (t : OU)
def OU.size : OU → Nat
 | .nil => 0
 | .q _ _ r => r.size + 1
 | .l _ r => r.size + 1
 | .alt _ r _ _ => r.size + 1
 | .alt3 _ r _ _ _ _ => r.size + 1
section
variable {P : Program} {ops : Array Oper} {Q : Exit → Act → World → Prop} {md : Region.Mode} {R S : World → Prop} {cut : Nat}
def wpOrdU (P : Program) (ops : Array Oper) (Q : Exit → Act → World → Prop) (R S : World → Prop) (cut : Nat) : OU → Act → World → Prop
 | .nil, a, w => Q .normal a w
 | .q i 0 r, a, w => ∃ o v, ops[i]? = some o ∧ YieldsIf P ops (fun w => R w ∧ S w) o v a ∧ wpOrdU P ops Q R S cut r (a.put o.dst v) w
 | .q i (_ + 1) r, a, w => ∃ o v, ops[i]? = some o ∧ YieldsIf P ops R o v a ∧ wpOrdU P ops Q R S cut r (a.put o.dst v) w
 | .l i r, a, w => wpOp P ops Q i (fun a' w' => ThenS cut R S i w w' ∧ wpOrdU P ops Q R S cut r a' w') a w
 | .alt i r j s, a, w => wpOp P ops Q i (fun a' w' => ThenS cut R S i w w' ∧ wpOrdU P ops Q R S cut r a' w') a w ∧ wpOp P ops Q j (fun a' w' => ThenS cut R S j w w' ∧ wpOrdU P ops Q R S cut s a' w') a w
 | .alt3 i r j s k t, a, w => wpOp P ops Q i (fun a' w' => ThenS cut R S i w w' ∧ wpOrdU P ops Q R S cut r a' w') a w ∧ wpOp P ops Q j (fun a' w' => ThenS cut R S j w w' ∧ wpOrdU P ops Q R S cut s a' w') a w ∧ wpOp P ops Q k (fun a' w' => ThenS cut R S k w w' ∧ wpOrdU P ops Q R S cut t a' w') a w
def okOrdU (md : Region.Mode) (ops : Array Oper) (cut : Nat) : OU → Bool → Array Bool → Bool
 | .nil, _, listed => (Region.ready md ops listed).isEmpty
 | .q i 0 r, held, listed => (Region.ready md ops listed).contains i && Region.free md ops listed i && (held && waits md ops cut i) && okOrdU md ops cut r held (listed.setIfInBounds i true)
 | .q i (_ + 1) r, held, listed => (Region.ready md ops listed).contains i && Region.free md ops listed i && okOrdU md ops cut r held (listed.setIfInBounds i true)
 | .l i r, held, listed => decide (Region.ready md ops listed = [i]) && okOrdU md ops cut r (held && decide (i < cut)) (listed.setIfInBounds i true)
 | .alt i r j s, held, listed => decide (Region.ready md ops listed = [i, j]) && decide (r.size = s.size) && okOrdU md ops cut r (held && decide (i < cut)) (listed.setIfInBounds i true) && okOrdU md ops cut s (held && decide (j < cut)) (listed.setIfInBounds j true)
 | .alt3 i r j s k t, held, listed => decide (Region.ready md ops listed = [i, j, k]) && decide (r.size = s.size) && decide (r.size = t.size) && okOrdU md ops cut r (held && decide (i < cut)) (listed.setIfInBounds i true) && okOrdU md ops cut s (held && decide (j < cut)) (listed.setIfInBounds j true) && okOrdU md ops cut t (held && decide (k < cut)) (listed.setIfInBounds k true)
theorem held_stepU {i : Nat} {held : Bool} {w w' : World} (hS : held = true → S w) (h : ThenS cut R S i w w') (hh : (held && decide (i < cut)) = true) : S w' := by
 simp only [Bool.and_eq_true, decide_eq_true_eq] at hh
 rcases h.2 with h1 | h1
 · omega
 · exact h1 (hS hh.1)
theorem wpAnyT_of_ordU (hs : Region.noSelect ops = true) (hQ : ∀ d v c a w, Q (.panic c) (Act.put a d v) w → Q (.panic c) a w) :
   ∀ (l : OU) (held : Bool) (listed : Array Bool) (a : Act) (w : World), okOrdU md ops cut l held listed = true → R w → (held = true → S w) → wpOrdU P ops Q R S cut l a w → wpAnyT P md ops Q (ThenS cut R S) l.size listed a w
 | .nil, _, listed, a, w, hB, _, _, h => ⟨by simpa [okOrdU] using hB, h⟩
 | .q i 0 r, held, listed, a, w, hB, hR, hS, h => by
   simp only [okOrdU, Bool.and_eq_true] at hB
   obtain ⟨⟨⟨hr, hf⟩, hh, hc⟩, hB'⟩ := hB
   obtain ⟨o, v, ho, hy, hn⟩ := h
   have hrest := wpAnyT_of_ordU hs hQ r held _ _ _ hB' hR hS hn
   refine wpAnyT_first (S := fun w => R w ∧ S w) ho (Region.noSelect_spec hs) (fun c a w => hQ _ _ c a w) (fun _ h => ⟨h.1, .inr id⟩) (fun j oj hj hne hno w w' hw' hw => ⟨hw'.1, ?_⟩) r.size listed a w (Region.free_spec ho hf) (by simpa using hr) hy ⟨hR, hS hh⟩ hrest
   rcases hw'.2 with h1 | h1
   · exact absurd (waits_spec hc j oj hj hno) (by omega)
   · exact h1 hw.2
 | .q i (_ + 1) r, held, listed, a, w, hB, hR, hS, h => by
   simp only [okOrdU, Bool.and_eq_true] at hB
   obtain ⟨⟨hr, hf⟩, hB'⟩ := hB
   obtain ⟨o, v, ho, hy, hn⟩ := h
   have hrest := wpAnyT_of_ordU hs hQ r held _ _ _ hB' hR hS hn
   exact wpAnyT_first (S := R) ho (Region.noSelect_spec hs) (fun c a w => hQ _ _ c a w) (fun _ h => ⟨h, .inr id⟩) (fun j oj hj hne hno w w' hw' _ => hw'.1) r.size listed a w (Region.free_spec ho hf) (by simpa using hr) hy hR hrest
 | .l i r, held, listed, a, w, hB, hR, hS, h => by
   simp only [okOrdU, Bool.and_eq_true, decide_eq_true_eq] at hB
   obtain ⟨hr, hB'⟩ := hB
   refine ⟨fun h0 => (by rw [hr] at h0; cases h0), fun j hj => ?_⟩
   rw [hr] at hj
   obtain rfl : j = i := by simpa using hj
   exact wpOp_mono (fun a' w' hh => ⟨hh.1, wpAnyT_of_ordU hs hQ r _ _ a' w' hB' hh.1.1 (held_stepU hS hh.1) hh.2⟩) h
 | .alt i r k s, held, listed, a, w, hB, hR, hS, h => by
   simp only [okOrdU, Bool.and_eq_true, decide_eq_true_eq] at hB
   obtain ⟨⟨⟨hr, hz⟩, hB1⟩, hB2⟩ := hB
   refine ⟨fun h0 => (by rw [hr] at h0; cases h0), fun j hj => ?_⟩
   rw [hr] at hj
   rcases (by simpa using hj : j = i ∨ j = k) with rfl | rfl
   · exact wpOp_mono (fun a' w' hh => ⟨hh.1, wpAnyT_of_ordU hs hQ r _ _ a' w' hB1 hh.1.1 (held_stepU hS hh.1) hh.2⟩) h.1
   · refine wpOp_mono (fun a' w' hh => ⟨hh.1, ?_⟩) h.2
     have := wpAnyT_of_ordU hs hQ s _ _ a' w' hB2 hh.1.1 (held_stepU hS hh.1) hh.2
     show wpAnyT P md ops Q (ThenS cut R S) r.size _ a' w'
     rw [hz]; exact this
 | .alt3 i r k s m t, held, listed, a, w, hB, hR, hS, h => by
   simp only [okOrdU, Bool.and_eq_true, decide_eq_true_eq] at hB
   obtain ⟨⟨⟨⟨⟨hr, hz⟩, hy⟩, hB1⟩, hB2⟩, hB3⟩ := hB
   refine ⟨fun h0 => (by rw [hr] at h0; cases h0), fun j hj => ?_⟩
   rw [hr] at hj
   rcases (by simpa using hj : j = i ∨ j = k ∨ j = m) with rfl | rfl | rfl
   · exact wpOp_mono (fun a' w' hh => ⟨hh.1, wpAnyT_of_ordU hs hQ r _ _ a' w' hB1 hh.1.1 (held_stepU hS hh.1) hh.2⟩) h.1
   · refine wpOp_mono (fun a' w' hh => ⟨hh.1, ?_⟩) h.2.1
     have := wpAnyT_of_ordU hs hQ s _ _ a' w' hB2 hh.1.1 (held_stepU hS hh.1) hh.2
     show wpAnyT P md ops Q (ThenS cut R S) r.size _ a' w'
     rw [hz]; exact this
   · refine wpOp_mono (fun a' w' hh => ⟨hh.1, ?_⟩) h.2.2
     have := wpAnyT_of_ordU hs hQ t _ _ a' w' hB3 hh.1.1 (held_stepU hS hh.1) hh.2
     show wpAnyT P md ops Q (ThenS cut R S) r.size _ a' w'
     rw [hy]; exact this
variable {l : List Oper} {a : Act} {w : World} {r s t : OU} {i j : Nat} {o : Oper}
end
end Yd
