import Derived.Test.YthdpangjphphjaaGreatDoorRdI
import Derived.Test.YthdpangjphphjaaGreatDoorProg
set_option maxRecDepth 200000
set_option maxHeartbeats 8000000
namespace Yd
open Go Go.RowKit Go.Proofs

@[reducible] def noLn : LnS := ⟨0, [], 0, [], false, 0⟩
theorem does_take (acts : List Nat) : ∀ (k : Nat) (n : LnS) (l : Bs), doesS (List.replicate k 0 ++ acts) n l = (match namesS k n.names l with | .error x => .error x | .ok (ns, r) => doesS acts { n with names := ns } r) := by
 intro k
 induction k with
 | zero => intro n l; rfl
 | succ k ih =>
   intro n l
   rw [List.replicate_succ, List.cons_append]
   simp only [doesS, namesS]
   cases mustS l with
   | error x => rfl
   | ok r =>
     simp only [actS, if_true]
     cases nameS r with
     | error x => rfl
     | ok mr =>
       obtain ⟨m, r'⟩ := mr
       simp only []
       rw [ih]
def actsS (k : Nat) : List Nat := List.replicate (formN k).toNat 0 ++ (if k = 1 then [1] else if k = 3 then [2] else [])
def restS (k : Nat) (n : LnS) (l : Bs) : Except Er (Unit × LnS × Bs) :=
 if k = 9 then (match guarS 5 0 0 l with | .error x => .error x | .ok (b, r) => .ok ((), { n with bits := b }, r))
 else if k = 8 then match firstS l with
   | .error x => .error x
   | .ok (f, r) => match othersS false 300 301 0 n.names n.vers r with
     | .error x => .error x
     | .ok (b, r') => .ok ((), { n with first := f, names := b.1, vers := b.2 }, r')
 else if k = 4 then match othersS true 40 41 0 n.names n.vers l with
     | .error x => .error x
     | .ok (b, r') => .ok ((), { n with names := b.1, vers := b.2 }, r')
 else if k = 7 then match othersS false 300 301 0 n.names n.vers l with
     | .error x => .error x
     | .ok (b, r') => .ok ((), { n with names := b.1, vers := b.2 }, r')
 else .ok ((), n, l)
def lastS (x : Except Er (Unit × LnS × Bs)) : Except Er (LnS × Bs) :=
 match x with
 | .error x => .error x
 | .ok (_, s, r2) => match moreS r2 with
   | .error x => .error x
   | .ok (true, r3) => .error (r3, 220)
   | .ok (false, r3) => .ok (s, r3)
theorem read_parts (l r : Bs) (i : Nat) (hi : i < 9) (hE : endsS (skipS l) = false) (hw : wordS verbL (skipS l) = .ok (i, r)) :
   readS l = (match doesS (actsS (i + 1)) { noLn with kind := ((i + 1 : Nat) : Int) } r with | .error x => .error x | .ok (_, n, r1) => lastS (restS (i + 1) n r1)) := by
 unfold readS
 rw [if_neg (by rw [hE]; simp), hw]
 simp only []
 rw [actsS, does_take]
 simp only []
 cases hns : namesS (formN (i + 1)).toNat [] r with
 | error x => rfl
 | ok nr =>
   obtain ⟨ns, r1⟩ := nr
   simp only []
   unfold tailS restS lastS
   rcases (by omega : i = 0 ∨ i = 1 ∨ i = 2 ∨ i = 3 ∨ i = 4 ∨ i = 5 ∨ i = 6 ∨ i = 7 ∨ i = 8) with rfl | rfl | rfl | rfl | rfl | rfl | rfl | rfl | rfl
   · simp only [Nat.reduceAdd, if_true, doesS, actS, Nat.reduceEqDiff, if_false, Nat.succ_ne_self]
     cases mustS r1 with
     | error x => rfl
     | ok r2 =>
       simp only []
       cases wordS levelL r2 with
       | error x => rfl
       | ok jr => rfl
   · rfl
   · simp only [Nat.reduceAdd, if_true, doesS, actS, Nat.reduceEqDiff, if_false]
     cases mustS r1 with
     | error x => rfl
     | ok r2 =>
       simp only []
       cases versS r2 with
       | error x => rfl
       | ok jr => rfl
   · simp only [Nat.reduceAdd, if_true, doesS, Nat.reduceEqDiff, if_false]
     cases othersS true 40 41 0 ns [] r1 with
     | error x => rfl
     | ok jr => rfl
   · rfl
   · rfl
   · simp only [Nat.reduceAdd, if_true, doesS, Nat.reduceEqDiff, if_false]
     cases othersS false 300 301 0 ns [] r1 with
     | error x => rfl
     | ok jr => rfl
   · simp only [Nat.reduceAdd, if_true, doesS, Nat.reduceEqDiff, if_false]
     cases firstS r1 with
     | error x => rfl
     | ok fr =>
       obtain ⟨f, r2⟩ := fr
       simp only []
       cases othersS false 300 301 0 ns [] r2 with
       | error x => rfl
       | ok jr => rfl
   · simp only [Nat.reduceAdd, if_true, doesS, Nat.reduceEqDiff, if_false]
     cases guarS 5 0 0 r1 with
     | error x => rfl
     | ok jr => rfl
theorem act_keep {a : Nat} {n n' : LnS} {l r : Bs} {u : Unit} (h : actS a n l = .ok (u, n', r)) : n'.bits = n.bits ∧ n'.first = n.first ∧ n'.kind = n.kind := by
 unfold actS at h
 split at h
 · split at h
   · cases h
   · injection h with h; injection h with _ h; injection h with h _; subst h; simp
 · split at h
   · split at h
     · cases h
     · injection h with h; injection h with _ h; injection h with h _; subst h; simp
   · split at h
     · cases h
     · injection h with h; injection h with _ h; injection h with h _; subst h; simp
theorem does_keep : ∀ (acts : List Nat) {n n' : LnS} {l r : Bs} {u : Unit}, doesS acts n l = .ok (u, n', r) →
   n'.bits = n.bits ∧ n'.first = n.first ∧ n'.kind = n.kind ∧ n'.names.length ≤ n.names.length + acts.length ∧ n'.vers.length ≤ n.vers.length + acts.length
 | [], n, n', l, r, u, h => by
   simp only [doesS] at h
   injection h with h; injection h with _ h; injection h with h _; subst h; simp
 | a :: t, n, n', l, r, u, h => by
   simp only [doesS] at h
   split at h
   · cases h
   · split at h
     · cases h
     · rename_i u1 n1 r1 h1
       have k1 := act_keep h1; have k2 := act_len h1; have k3 := does_keep t h
       simp only [List.length_cons]
       exact ⟨k3.1.trans k1.1, k3.2.1.trans k1.2.1, k3.2.2.1.trans k1.2.2, by omega, by omega⟩
theorem infoF : (Tryz.prog.info? 1).map (fun i => (i.zero.map (·.cells.size), i.size, i.bytes)) = some (some 1, 1, 8) := by kernel_rfl
theorem partsF : ∃ i z, Tryz.prog.info? 1 = some i ∧ i.zero = some z ∧ i.size = 1 ∧ i.bytes = 8 ∧ z.cells.size = 1 := parts_of infoF
theorem formN_12 (k : Nat) : ∃ N : Nat, formN (k + 1) = (N : Int) ∧ (N = 1 ∨ N = 2) := by
 unfold formN
 split <;> first | exact ⟨1, rfl, .inl rfl⟩ | exact ⟨2, rfl, .inr rfl⟩ | (rename_i h; omega)
theorem rd_rep (N : Nat) (hN : N = 1 ∨ N = 2) (w : World) (b : Nat) (v : Value) (hb : b < w.heap.size) (hv : w.cell? ⟨b, 0, none⟩ = some v) (h1 : v.oneCell' = true) :
   Calls Tryz.prog 73 #[.slice (some ⟨b, 0, none⟩) 1 1, .int .i64 N] w (fun e w' => e = .returned (.slice (some ⟨w.heap.size, 0, none⟩) N N) ∧ Below w.heap.size w w' ∧ Bx w' w.heap.size (Array.replicate N v)) := by
 rcases hN with rfl | rfl
 · exact rd_rep1 w b v hb hv h1
 · exact rd_rep2 w b v hb hv h1
theorem wpList_runB {P : Program} {ops : Array Oper} {rest : List Oper} {o : Oper} {ac : Act} {w w' : World} {Q : Exit → Act → World → Prop} {v u r : Value} (hgd : o.guard = none) (s x : Operand) (t : TypeId)
   (ho : o.op = .call { callee := .builtin .append, args := #[s, x], argTypes := #[t, t] }) (hs : ac.eval s = v) (hx : ac.eval x = u) (hrun : (Builtin.append_ #[t, t] o.type #[v, u]).run P w = .ok r w')
   (h : wpList P ops Q rest (ac.put o.dst r) w') : wpList P ops Q (o :: rest) ac w :=
 wpList_plain hgd fun _ hK => by
   unfold Oper.wp execOp
   simp only [ho, resolve, invoke, builtin, Sem.run_bind, Sem.run_pure, Result.andThen_ok, List.map_toArray, List.map_cons, List.map_nil, hs, hx, hrun]
   exact hK _ _ h
theorem appF (N : Nat) (hN : N = 1 ∨ N = 2) (W : World) (T U : Nat) (v x : Value) (hT : Bx W T (Array.replicate N v)) (hU : W.cell? ⟨U, 0, none⟩ = some x) :
   ∃ (cap : Nat) (W' : World), (Builtin.append_ #[114, 114] 114 #[.slice (some ⟨T, 0, none⟩) N N, .slice (some ⟨U, 0, none⟩) 1 1]).run Tryz.prog W = .ok (.slice (some ⟨W.heap.size, 0, none⟩) (N + 1) cap) W' ∧ N + 1 ≤ cap ∧ cap ≤ maxLen ∧ Below W.heap.size W W' ∧ W.heap.size < W'.heap.size ∧ (∀ i, i < N → W'.cell? ⟨W.heap.size, i, none⟩ = some v) ∧ W'.cell? ⟨W.heap.size, N, none⟩ = some x := by
 obtain ⟨i, z, hi, hz, hsize, hby, hzs⟩ := partsF
 have hr := run_append_grow (P := Tryz.prog) W 114 114 1 i z (by kernel_rfl) hi hz ⟨T, 0, none⟩ N N (List.replicate N v) (by rw [hsize]; simp) (fun j u hj => by
   have hj' := hj
   rw [List.getElem?_replicate] at hj'
   have hlt : j < N := by
     apply Classical.byContradiction; intro hn; rw [if_neg hn] at hj'; cases hj'
   rw [if_pos hlt] at hj'
   have := hT.1 j
   rw [Array.getElem?_replicate, if_pos hlt] at this
   have hz := this.trans hj'
   unfold Addr.add
   split
   · rename_i h0; subst h0; exact hz
   · simpa using hz) ⟨U, 0, none⟩ 1 1 [x] (by rw [hsize]; rfl) (fun j u hj => by
   obtain rfl : j = 0 := by have := (List.getElem?_eq_some_iff.1 hj).1; simpa using this
   simpa [Addr.add] using hU.trans hj) (by omega) (by omega) (by rw [hby]; rcases hN with rfl | rfl <;> exact Nat.le_of_ble_eq_true rfl)
 refine ⟨_, _, hr, grownCap_ge W (N + 1) N 1, grownCap_le_maxLen W (N + 1) N 1 (by unfold maxLen; omega), (Below.refl _ _).drew.alloc (Nat.le_refl _) _, by simp, fun i hi => ?_, ?_⟩
 · have := World.cell?_alloc_new W.drew ((List.replicate N v).toArray ++ [x].toArray ++ Builtin.zeroCells z.cells (grownCap W (N + 1) N 1 - (N + 1))) 1 i
   refine this.trans ?_
   rw [Array.getElem?_append_left (by simp; omega), Array.getElem?_append_left (by simp; omega)]
   simp [hi]
 · have := World.cell?_alloc_new W.drew ((List.replicate N v).toArray ++ [x].toArray ++ Builtin.zeroCells z.cells (grownCap W (N + 1) N 1 - (N + 1))) 1 N
   refine this.trans ?_
   rw [Array.getElem?_append_left (by simp), Array.getElem?_append_right (by simp)]
   simp
theorem actsRow {w : World} {R b n c : Nat} (acts : List Nat) (hn : acts.length = n) (hc : n ≤ c) (hm : n ≤ 1000) (h : ∀ (i : Nat) (a : Nat), acts[i]? = some a → w.cell? ⟨b, i, none⟩ = some (.func (.func (actF a)) #[.pointer (some ⟨R, 0, none⟩)] #[])) : Row w 1 (encAct R) (some ⟨b, 0, none⟩) n c acts :=
 ⟨hn, hc, by omega, (fun e => by cases e), fun i a ha => ⟨b, 0, rfl, fun j v hv => by
   obtain rfl : j = 0 := by have := (List.getElem?_eq_some_iff.1 hv).1; simpa [encAct] using this
   have : v = .func (.func (actF a)) #[.pointer (some ⟨R, 0, none⟩)] #[] := by simpa [encAct] using hv.symm
   rw [this]; simpa using h i a ha⟩⟩
theorem actsRow0 {w : World} {R b N : Nat} (hN : N ≤ 2) (h : Bx w b (Array.replicate N (.func (.func (actF 0)) #[.pointer (some ⟨R, 0, none⟩)] #[]))) : Row w 1 (encAct R) (some ⟨b, 0, none⟩) N N (List.replicate N 0) :=
 actsRow _ (by simp) (Nat.le_refl _) (by omega) fun i a ha => by
   rw [List.getElem?_replicate] at ha
   have hlt : i < N := by
     apply Classical.byContradiction; intro hn; rw [if_neg hn] at ha; cases ha
   rw [if_pos hlt] at ha
   injection ha with ha; subst ha
   rw [h.1 i, Array.getElem?_replicate, if_pos hlt]
theorem actsRow1 {w : World} {R b N c : Nat} (a : Nat) (hc : N + 1 ≤ c) (hm : N ≤ 2) (h : ∀ i, i < N → w.cell? ⟨b, i, none⟩ = some (.func (.func (actF 0)) #[.pointer (some ⟨R, 0, none⟩)] #[])) (h1 : w.cell? ⟨b, N, none⟩ = some (.func (.func (actF a)) #[.pointer (some ⟨R, 0, none⟩)] #[])) : Row w 1 (encAct R) (some ⟨b, 0, none⟩) (N + 1) c (List.replicate N 0 ++ [a]) :=
 actsRow _ (by simp) hc (by omega) fun i a' ha => by
   by_cases hlt : i < N
   · rw [List.getElem?_append_left (by simpa using hlt), List.getElem?_replicate, if_pos hlt] at ha
     injection ha with ha; subst ha
     exact h i hlt
   · rw [List.getElem?_append_right (by simp; omega)] at ha
     obtain rfl : i = N := by have := (List.getElem?_eq_some_iff.1 ha).1; simp at this; omega
     simp at ha; subst ha
     exact h1
end Yd
