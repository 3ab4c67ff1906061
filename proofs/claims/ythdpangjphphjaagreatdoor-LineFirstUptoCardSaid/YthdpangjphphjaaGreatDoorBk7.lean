import Derived.Test.YthdpangjphphjaaGreatDoorChk1
import Derived.Test.YthdpangjphphjaaGreatDoorTxB
import Derived.Test.YthdpangjphphjaaGreatDoorProg
set_option maxRecDepth 200000
set_option maxHeartbeats 8000000
namespace Yd
open Go Go.RowKit Go.Proofs

theorem valD_snoc (l : Bs) (c : UInt8) : valD (l ++ [c]) = valD l * 10 + (c.toNat - 48) := by unfold valD; rw [List.foldl_append]; rfl
theorem digs_small (n : Nat) : 0 < n → valD (digs n) = n ∧ (digs n).all digB = true ∧ (digs n).head? ≠ some 48 ∧ (digs n).head? ≠ none := by
 induction n using Nat.strongRecOn with
 | _ n ih =>
   intro h
   have hc : (UInt8.ofNat (48 + n % 10)).toNat = 48 + n % 10 := by simp; omega
   have hdg : digB (UInt8.ofNat (48 + n % 10)) = true := (digB_eq _).2 (by omega)
   rw [digs_step h]
   rcases Nat.eq_zero_or_pos (n / 10) with h0 | h0
   · have hd : digs (n / 10) = [] := by rw [h0]; rfl
     rw [hd, List.nil_append]
     refine ⟨?_, by rw [List.all_cons, hdg]; rfl, ?_, by simp⟩
     · show valD ([] ++ [_]) = n
       rw [valD_snoc, hc]
       show 0 * 10 + _ = n
       omega
     · rw [List.head?_cons]
       intro e
       have := congrArg UInt8.toNat (Option.some.inj e)
       rw [hc] at this
       have h48 : (48 : UInt8).toNat = 48 := rfl
       omega
   · obtain ⟨h1, h2, h3, h4⟩ := ih (n / 10) (by omega) h0
     cases hq : digs (n / 10) with
     | nil => rw [hq] at h4; exact absurd rfl h4
     | cons a t =>
       rw [hq] at h1 h2 h3
       refine ⟨?_, ?_, ?_, by simp⟩
       · rw [valD_snoc, hc, h1]; omega
       · rw [List.all_append, h2, List.all_cons, hdg]; rfl
       · simpa using h3
theorem numV_app {nm r : Bs} {k : Nat} (h0 : 0 < k) (h9 : k ≤ 999) (hr : Cut r) : numV nm (digs k ++ r) = .ok (⟨nm, k⟩, r) := by
 obtain ⟨h1, h2, h3, h4⟩ := digs_small k h0
 have hall : ∀ c ∈ digs k, digB c = true := List.all_eq_true.1 h2
 have ht : (digs k ++ r).takeWhile digB = digs k := by
   rw [List.takeWhile_append_of_pos hall]
   cases r with
   | nil => simp
   | cons c t => rw [List.takeWhile_cons, hr.byte.2.2]; simp
 unfold numV
 simp only [ht]
 rw [if_neg (fun e => e.elim h4 h3), h1, if_neg (by omega), List.drop_left]
theorem vers_app {v : To} {r : Bs} (hv : toOk v) (hr : Cut r) : versS (toldT v ++ r) = .ok (v, r) := by
 unfold toldT
 rcases hv with rfl | ⟨hw, h0, h9⟩
 · rw [if_pos rfl]; rfl
 · rw [if_neg (by omega), List.append_assoc, List.cons_append]
   obtain ⟨c, t, hc, _, _, _, hne⟩ := word_cons (r := 46 :: (digs v.k.toNat ++ r)) hw
   unfold versS
   rw [hc, List.head?_cons, if_neg (by simp; exact hne), ← hc, nameS_app hw (stops_byte _ (by decide) (by decide))]
   simp only [List.head?_cons, if_true, List.tail_cons]
   rw [numV_app (by omega) (by omega) hr]
   obtain ⟨n, k⟩ := v
   simp only at h0 ⊢
   rw [show ((k.toNat : Nat) : Int) = k by omega]
theorem told_cons {v : To} {r : Bs} (hv : toOk v) : ∃ c t, toldT v ++ r = c :: t ∧ blB c = false ∧ endsS (c :: t) = false := by
 unfold toldT
 rcases hv with rfl | ⟨hw, h0, h9⟩
 · rw [if_pos rfl]; exact ⟨45, r, rfl, by decide, by rw [endsS_cons]; decide⟩
 · rw [if_neg (by omega), List.append_assoc]
   obtain ⟨c, t, h1, h2, h3, _⟩ := word_cons (r := 46 :: digs v.k.toNat ++ r) hw
   exact ⟨c, t, h1, h2, h3⟩
theorem must_told {b r : Bs} {v : To} (hb : Sp b) (hv : toOk v) : mustS (b ++ (toldT v ++ r)) = .ok (toldT v ++ r) := by
 obtain ⟨c, t, h1, h2, h3⟩ := told_cons (r := r) hv
 rw [h1]; exact must_app hb h2 h3
theorem pairs_glue (most : Nat) (tb e : Bs) (htb : ∀ c ∈ tb, blB c = true) (he : endsS e = true) : ∀ (ps : List ((Bs × Bs) × (Bs × To))) (f many : Nat) (ns : List Bs) (vs : List To), (∀ p ∈ ps, (Sp p.1.1 ∧ wordB ⟨p.1.2.toArray⟩ = true) ∧ Sp p.2.1 ∧ toOk p.2.2) → ps.length < f → many + ps.length ≤ most →
   othersS true most f many ns vs (glue (ps.flatMap fun p => [p.1, (p.2.1, toldT p.2.2)]) (tb ++ e)) = .ok ((ns ++ ps.map (·.1.2), vs ++ ps.map (·.2.2)), e)
 | [], f, many, ns, vs, _, hf, _ => by
   obtain ⟨g, rfl⟩ : ∃ g, f = g + 1 := ⟨f - 1, by simp at hf; omega⟩
   rw [othersS, List.flatMap_nil, glue, more_end htb he]
   simp
 | p :: ps, f, many, ns, vs, h, hf, hm => by
   obtain ⟨g, rfl⟩ : ∃ g, f = g + 1 := ⟨f - 1, by simp at hf; omega⟩
   have hp := h p List.mem_cons_self
   have hcut : Cut (glue (ps.flatMap fun p => [p.1, (p.2.1, toldT p.2.2)]) (tb ++ e)) := glue_cut _ _ (fun q hq => by
     obtain ⟨x, hx, hq⟩ := List.mem_flatMap.1 hq
     have hx' := h x (List.mem_cons_of_mem _ hx)
     simp at hq
     rcases hq with rfl | rfl
     · exact hx'.1.1
     · exact hx'.2.1) (Cut.blanks htb he)
   rw [othersS, List.flatMap_cons]
   show (match moreS (p.1.1 ++ (p.1.2 ++ (p.2.1 ++ (toldT p.2.2 ++ glue (ps.flatMap fun p => [p.1, (p.2.1, toldT p.2.2)]) (tb ++ e))))) with | .error x => _ | .ok (false, r) => _ | .ok (true, r) => _) = _
   rw [more_word hp.1.1 hp.1.2]
   simp only []
   rw [if_neg (by simp at hm; omega), nameS_app hp.1.2 (Cut.sp hp.2.1).stops]
   simp only [if_true]
   rw [must_told hp.2.1 hp.2.2]
   simp only []
   rw [vers_app hp.2.2 hcut]
   simp only []
   rw [pairs_glue most tb e htb he ps g (many + 1) (ns ++ [p.1.2]) (vs ++ [p.2.2]) (fun q hq => h q (List.mem_cons_of_mem _ hq)) (by simp at hf; omega) (by simp at hm; omega), List.map_cons, List.map_cons, List.append_assoc, List.append_assoc]; rfl
end Yd


namespace Yd
open Go Go.RowKit Go.Proofs

def Up : Nat → List Nat → Prop
 | _, [] => True
 | k, j :: js => k ≤ j ∧ j < 4 ∧ Up (j + 1) js
theorem guard_at (k j : Nat) (h : k ≤ j) (hj : j < 4) : (guardL.drop k).findIdx? (fun s => s == guardT j) = some (j - k) := by
 have hk4 : k = 0 ∨ k = 1 ∨ k = 2 ∨ k = 3 := by omega
 have hj4 : j = 0 ∨ j = 1 ∨ j = 2 ∨ j = 3 := by omega
 rcases hk4 with rfl | rfl | rfl | rfl <;> rcases hj4 with rfl | rfl | rfl | rfl <;> first | rfl | (exfalso; omega)
theorem guard_head (j : Nat) (hj : j < 4) (r : Bs) : ∃ c t, guardT j ++ r = c :: t ∧ blB c = false ∧ endsS (c :: t) = false := by
 have : j = 0 ∨ j = 1 ∨ j = 2 ∨ j = 3 := by omega
 rcases this with rfl | rfl | rfl | rfl <;> exact ⟨_, _, rfl, by decide, by rw [endsS_cons]; decide⟩
theorem guard_wc (j : Nat) (hj : j < 4) : ∀ c ∈ guardT j, wcB c = true := by
 have : j = 0 ∨ j = 1 ∨ j = 2 ∨ j = 3 := by omega
 rcases this with rfl | rfl | rfl | rfl <;> decide
theorem guar_glue (tb e : Bs) (htb : ∀ c ∈ tb, blB c = true) (he : endsS e = true) : ∀ (js : List Nat) (ps : List (Bs × Bs)) (f k : Nat) (b : Int), Up k js → js.length < f → (∀ p ∈ ps, Sp p.1) → ps.map (·.2) = js.map guardT →
   guarS f k b (glue ps (tb ++ e)) = .ok (js.foldl (fun a j => a + 2 ^ j) b, e)
 | [], ps, f, k, b, _, hf, _, hm => by
   obtain ⟨g, rfl⟩ : ∃ g, f = g + 1 := ⟨f - 1, by simp at hf; omega⟩
   have : ps = [] := by simpa using hm
   subst this
   rw [guarS, glue, more_end htb he]; rfl
 | j :: js, ps, f, k, b, hu, hf, hs, hm => by
   obtain ⟨g, rfl⟩ : ∃ g, f = g + 1 := ⟨f - 1, by simp at hf; omega⟩
   cases ps with
   | nil => simp at hm
   | cons p ps =>
     rw [List.map_cons, List.map_cons] at hm
     injection hm with hm1 hm2
     have hcut := glue_cut ps (tb ++ e) (fun q hq => hs q (List.mem_cons_of_mem _ hq)) (Cut.blanks htb he)
     obtain ⟨c, t, h1, h2, h3⟩ := guard_head j hu.2.1 (glue ps (tb ++ e))
     have hw := wordS_app (guard_at k j hu.1 hu.2.1) (guard_wc j hu.2.1) hcut
     rw [guarS, glue, hm1, h1, more_app (hs p List.mem_cons_self) h2 h3]
     simp only []
     rw [← h1, hw]
     simp only []
     rw [show k + (j - k) = j by have := hu.1; omega]
     exact guar_glue tb e htb he js ps g (j + 1) (b + 2 ^ j) hu.2.2 (by simp at hf; omega) (fun q hq => hs q (List.mem_cons_of_mem _ hq)) hm2
end Yd


namespace Yd
open Go Go.RowKit Go.Proofs

theorem map_pairs : ∀ (zs : List (Bs × To)) (ps : List (Bs × Bs)), ps.map (·.2) = zs.flatMap (fun p => [p.1, toldT p.2]) → ∃ qs : List ((Bs × Bs) × (Bs × To)), ps = qs.flatMap (fun p => [p.1, (p.2.1, toldT p.2.2)]) ∧ qs.map (fun q => (q.1.2, q.2.2)) = zs
 | [], ps, h => ⟨[], by simpa using h, rfl⟩
 | z :: zs, ps, h => by
   rw [List.flatMap_cons] at h
   cases ps with
   | nil => simp at h
   | cons p ps =>
     cases ps with
     | nil => simp at h
     | cons q ps =>
       rw [List.map_cons, List.map_cons] at h
       simp only [List.cons_append, List.nil_append] at h
       injection h with h1 h
       injection h with h2 h3
       obtain ⟨qs, e1, e2⟩ := map_pairs zs ps h3
       refine ⟨((p.1, p.2), (q.1, z.2)) :: qs, ?_, ?_⟩
       · rw [List.flatMap_cons, ← e1, ← h2]; rfl
       · rw [List.map_cons, e2, h1]
end Yd


namespace Yd
open Go Go.RowKit Go.Proofs

end Yd


namespace Yd
open Go Go.RowKit Go.Proofs

theorem tail_glue : ∀ (ws : List Bs) (e : Bs), Lib.joinTail [32] ws ++ e = glue (ws.map (fun x => ([32], x))) e
 | [], e => by simp [Lib.joinTail, glue]
 | x :: ws, e => by
   rw [List.map_cons, glue, ← tail_glue ws e]
   simp [Lib.joinTail]
end Yd
