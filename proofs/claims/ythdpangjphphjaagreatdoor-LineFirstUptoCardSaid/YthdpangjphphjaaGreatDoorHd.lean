import Derived.Test.YthdpangjphphjaaGreatDoorRFffd
import Derived.Test.YthdpangjphphjaaGreatDoorProg
import Derived.Test.YthdpangjphphjaaGreatDoorLex
set_option maxRecDepth 200000
set_option maxHeartbeats 8000000
namespace Yd
open Go Go.RowKit Go.Proofs

theorem tw_stop (q : UInt8 → Bool) : ∀ (l : Bs) (k : Nat) (b : UInt8), (∀ x ∈ l.take k, q x = true) → l[k]? = some b → q b = false → l.takeWhile q = l.take k
 | [], _, _, _, h, _ => by simp at h
 | a :: t, 0, b, _, h, hb => by
   obtain rfl : a = b := by simpa using h
   rw [List.takeWhile_cons, hb]; rfl
 | a :: t, k + 1, b, ha, h, hb => by
   rw [List.takeWhile_cons, ha a (by simp), if_pos rfl, List.take_succ_cons, tw_stop q t k b (fun x hx => ha x (by simp [hx])) (by simpa using h) hb]
theorem tw_all (q : UInt8 → Bool) (l : Bs) (h : ∀ x ∈ l, q x = true) : l.takeWhile q = l := by
 induction l with
 | nil => rfl
 | cons a t ih => rw [List.takeWhile_cons, h a (by simp), if_pos rfl, ih (fun x hx => h x (by simp [hx]))]
theorem wcB_nat (b : UInt8) : wcB b = ((decide (b.toNat = 46) || decide (b.toNat = 95)) || (decide (48 ≤ b.toNat) && decide (b.toNat ≤ 57)) || (decide (97 ≤ b.toNat) && decide (b.toNat ≤ 122)) || (decide (65 ≤ b.toNat) && decide (b.toNat ≤ 90))) := by
 have e : ∀ c : UInt8, (b == c) = decide (b.toNat = c.toNat) := fun c => by
   by_cases h : b = c
   · simp [h]
   · rw [beq_eq_false_iff_ne.2 h, decide_eq_false (fun e => h (UInt8.toNat_inj.1 e))]
 unfold wcB
 rw [e 46, e 95]; rfl
theorem rd_stretch {R p : Nat} {s l : Bs} {c : LnC} {n : LnS} (w : World) (h : RdC w R s p l c n) :
   Calls Tryz.prog 117 #[.pointer (some ⟨R, 0, none⟩)] w (Ret (.string ⟨(stretchS l).toArray⟩) w) := by
 have c0 := h.c0; have c1 := h.c1
 have hlen := h.len; have hlim := h.lim
 have hsl := fun W => run_sl Tryz.underlying9 s p (by omega) W
 rw [h.d] at hsl
 have hll : l.length ≤ 1000000 := by omega
 clear h hlen hlim
 go_enter Tryz.func117, Tryz.ntmps117
 go_wp2_with (go_quiet (fail))
 clear hsl c0 c1
 go_loopw [] (fun wr => ∃ k : Nat, k ≤ l.length ∧ wr.heap[w.heap.size]? = some (.stringIter ⟨l.toArray⟩ k) ∧ Below w.heap.size w wr ∧ ∀ x ∈ l.take k, wcB x = true) (fun wr => l.length - wr.iterPos w.heap.size)
 case atStart => exact ⟨0, Nat.zero_le _, World.iter_heap (w.drewN _) ⟨l.toArray⟩ 0, belowN (Below.refl _ _) _ |>.trans (iter_below (w.drewN _) ⟨l.toArray⟩), by simp⟩
 case round =>
   obtain ⟨k, hk, hit, hbw, hall⟩ := hrel
   by_cases hp : k < l.length
   · obtain ⟨b, t, hbt⟩ : ∃ b t, l.drop k = b :: t := ⟨_, _, List.drop_eq_getElem_cons hp⟩
     have hnx : ∀ ty, (Instr.next (.pointer (some ⟨w.heap.size, 0, none⟩)) true ty).run Tryz.prog wr = _ := fun ty => Lib.run_next_any_at wr w.heap.size ⟨l.toArray⟩ k ty hit (by rw [bsz]; exact hp)
     have hwd := dec_drop l k
     rw [hbt] at hwd
     rw [hwd] at hnx
     have hkb : l[k]? = some b := by
       have := congrArg (fun l => l[0]?) hbt
       simpa using this
     obtain ⟨r, d, hr, hd⟩ : ∃ (r : Int) (d : Nat), r = ((Utf8.decode ⟨(b :: t).toArray⟩ 0).1 : Int) ∧ d = (Utf8.decode ⟨(b :: t).toArray⟩ 0).2 := ⟨_, _, rfl, rfl⟩
     have hbr : (b.toNat < 128 ∧ r = b.toNat ∧ d = 1) ∨ (128 ≤ b.toNat ∧ 128 ≤ r) := by
       rcases Nat.lt_or_ge b.toNat 128 with h1 | h1
       · rw [dec_lo b t h1] at hr hd; exact .inl ⟨h1, hr, hd⟩
       · have := (dec_hi b t h1).1; exact .inr ⟨h1, by omega⟩
     rw [← hr, ← hd] at hnx
     have hit2 := Lib.iterAt_heap wr w.heap.size ⟨l.toArray⟩ k (k + d) hit
     have hbw2 := Lib.below_iterAt hbw (k := w.heap.size) (Nat.le_refl _) ⟨l.toArray⟩ (k + d)
     have HBR := hid hbr; have HALL := hid hall; have HKB := hid hkb; have HB2 := hid hbw2; have HI2 := hid hit2; have HIT := hid hit
     have hsh := fun W => run_slh Tryz.underlying9 l k (by omega) W
     have hcl : r = 46 ∨ r = 95 ∨ (48 ≤ r ∧ r ≤ 57) ∨ (97 ≤ r ∧ r ≤ 122) ∨ (65 ≤ r ∧ r ≤ 90) ∨ r < 46 ∨ r = 47 ∨ (57 < r ∧ r < 65) ∨ (90 < r ∧ r < 95) ∨ r = 96 ∨ 122 < r := by omega
     clear hbr hall hkb hbw2 hit2 hbw hwd hr hd hbt hit
     have GO : Hid ((r = 46 ∨ r = 95 ∨ (48 ≤ r ∧ r ≤ 57) ∨ (97 ≤ r ∧ r ≤ 122) ∨ (65 ≤ r ∧ r ≤ 90)) → ∃ k' : Nat, k' ≤ l.length ∧ (wr.iterAt w.heap.size ⟨l.toArray⟩ (k + d)).heap[w.heap.size]? = some (.stringIter ⟨l.toArray⟩ k') ∧ Below w.heap.size w (wr.iterAt w.heap.size ⟨l.toArray⟩ (k + d)) ∧ ∀ x ∈ l.take k', wcB x = true) := hid (fun hr => by
       rcases HBR.out with ⟨h1, h2, h3⟩ | ⟨h1, h2⟩
       · refine ⟨k + d, by omega, HI2.out, HB2.out, fun x hx => ?_⟩
         rw [h3, List.take_add_one, HKB.out] at hx
         rcases List.mem_append.1 hx with hx | hx
         · exact HALL.out x hx
         · obtain rfl : x = b := by simpa using hx
           rw [wcB_nat]
           simp only [Bool.or_eq_true, Bool.and_eq_true, decide_eq_true_eq]
           omega
       · exfalso; omega)
     have ME : Hid ((r = 46 ∨ r = 95 ∨ (48 ≤ r ∧ r ≤ 57) ∨ (97 ≤ r ∧ r ≤ 122) ∨ (65 ≤ r ∧ r ≤ 90)) → l.length - (wr.iterAt w.heap.size ⟨l.toArray⟩ (k + d)).iterPos w.heap.size < l.length - wr.iterPos w.heap.size) := hid (fun hr => by
       rcases HBR.out with ⟨h1, h2, h3⟩ | ⟨h1, h2⟩
       · rw [iterPos_of HI2.out, iterPos_of HIT.out]; omega
       · exfalso; omega)
     have ST : Hid (¬ (r = 46 ∨ r = 95 ∨ (48 ≤ r ∧ r ≤ 57) ∨ (97 ≤ r ∧ r ≤ 122) ∨ (65 ≤ r ∧ r ≤ 90)) → stretchS l = l.take k) := hid (fun hr => by
       refine tw_stop wcB l k b HALL.out HKB.out ?_
       rw [wcB_nat]
       simp only [Bool.or_eq_false_iff, Bool.and_eq_false_iff, decide_eq_false_iff_not]
       rcases HBR.out with ⟨h1, h2, h3⟩ | ⟨h1, h2⟩ <;> omega)
     rcases hcl with h1 | h1 | ⟨h1, h2⟩ | ⟨h1, h2⟩ | ⟨h1, h2⟩ | h1 | h1 | ⟨h1, h2⟩ | ⟨h1, h2⟩ | h1 | h1
     · subst h1
       go_wp2_with fail
       go_roundw
       case rel => exact GO.out (by decide)
       case measure => exact ME.out (by decide)
     · subst h1
       go_wp2_with fail
       go_roundw
       case rel => exact GO.out (by decide)
       case measure => exact ME.out (by decide)
     · have e46 : (r != 46) = true := bne_iff_ne.2 (by omega)
       have e95 : (r != 95) = true := bne_iff_ne.2 (by omega)
       have d0 : decide (r < 48) = false := decide_eq_false (by omega)
       have d1 : decide (57 < r) = false := decide_eq_false (by omega)
       have d2 : decide (r < 97) = true := decide_eq_true (by omega)
       have d3 : decide (122 < r) = false := decide_eq_false (by omega)
       have d4 : decide (r < 65) = true := decide_eq_true (by omega)
       have d5 : decide (90 < r) = false := decide_eq_false (by omega)
       go_wp2_with fail
       go_roundw
       case rel => exact GO.out (by omega)
       case measure => exact ME.out (by omega)
     · have e46 : (r != 46) = true := bne_iff_ne.2 (by omega)
       have e95 : (r != 95) = true := bne_iff_ne.2 (by omega)
       have d0 : decide (r < 48) = false := decide_eq_false (by omega)
       have d1 : decide (57 < r) = true := decide_eq_true (by omega)
       have d2 : decide (r < 97) = false := decide_eq_false (by omega)
       have d3 : decide (122 < r) = false := decide_eq_false (by omega)
       have d4 : decide (r < 65) = false := decide_eq_false (by omega)
       have d5 : decide (90 < r) = true := decide_eq_true (by omega)
       go_wp2_with fail
       go_roundw
       case rel => exact GO.out (by omega)
       case measure => exact ME.out (by omega)
     · have e46 : (r != 46) = true := bne_iff_ne.2 (by omega)
       have e95 : (r != 95) = true := bne_iff_ne.2 (by omega)
       have d0 : decide (r < 48) = false := decide_eq_false (by omega)
       have d1 : decide (57 < r) = true := decide_eq_true (by omega)
       have d2 : decide (r < 97) = true := decide_eq_true (by omega)
       have d3 : decide (122 < r) = false := decide_eq_false (by omega)
       have d4 : decide (r < 65) = false := decide_eq_false (by omega)
       have d5 : decide (90 < r) = false := decide_eq_false (by omega)
       go_wp2_with fail
       go_roundw
       case rel => exact GO.out (by omega)
       case measure => exact ME.out (by omega)
     · have e46 : (r != 46) = true := bne_iff_ne.2 (by omega)
       have e95 : (r != 95) = true := bne_iff_ne.2 (by omega)
       have d0 : decide (r < 48) = true := decide_eq_true (by omega)
       have d1 : decide (57 < r) = false := decide_eq_false (by omega)
       have d2 : decide (r < 97) = true := decide_eq_true (by omega)
       have d3 : decide (122 < r) = false := decide_eq_false (by omega)
       have d4 : decide (r < 65) = true := decide_eq_true (by omega)
       have d5 : decide (90 < r) = false := decide_eq_false (by omega)
       go_wp2_with fail
       go_ret
       exact ⟨by rw [ST.out (by omega)]; rfl, HB2.out⟩
     · subst h1
       go_wp2_with fail
       go_ret
       exact ⟨by rw [ST.out (by decide)]; rfl, HB2.out⟩
     · have e46 : (r != 46) = true := bne_iff_ne.2 (by omega)
       have e95 : (r != 95) = true := bne_iff_ne.2 (by omega)
       have d0 : decide (r < 48) = false := decide_eq_false (by omega)
       have d1 : decide (57 < r) = true := decide_eq_true (by omega)
       have d2 : decide (r < 97) = true := decide_eq_true (by omega)
       have d3 : decide (122 < r) = false := decide_eq_false (by omega)
       have d4 : decide (r < 65) = true := decide_eq_true (by omega)
       have d5 : decide (90 < r) = false := decide_eq_false (by omega)
       go_wp2_with fail
       go_ret
       exact ⟨by rw [ST.out (by omega)]; rfl, HB2.out⟩
     · have e46 : (r != 46) = true := bne_iff_ne.2 (by omega)
       have e95 : (r != 95) = true := bne_iff_ne.2 (by omega)
       have d0 : decide (r < 48) = false := decide_eq_false (by omega)
       have d1 : decide (57 < r) = true := decide_eq_true (by omega)
       have d2 : decide (r < 97) = true := decide_eq_true (by omega)
       have d3 : decide (122 < r) = false := decide_eq_false (by omega)
       have d4 : decide (r < 65) = false := decide_eq_false (by omega)
       have d5 : decide (90 < r) = true := decide_eq_true (by omega)
       go_wp2_with fail
       go_ret
       exact ⟨by rw [ST.out (by omega)]; rfl, HB2.out⟩
     · subst h1
       go_wp2_with fail
       go_ret
       exact ⟨by rw [ST.out (by decide)]; rfl, HB2.out⟩
     · have e46 : (r != 46) = true := bne_iff_ne.2 (by omega)
       have e95 : (r != 95) = true := bne_iff_ne.2 (by omega)
       have d0 : decide (r < 48) = false := decide_eq_false (by omega)
       have d1 : decide (57 < r) = true := decide_eq_true (by omega)
       have d2 : decide (r < 97) = false := decide_eq_false (by omega)
       have d3 : decide (122 < r) = true := decide_eq_true (by omega)
       have d4 : decide (r < 65) = false := decide_eq_false (by omega)
       have d5 : decide (90 < r) = true := decide_eq_true (by omega)
       go_wp2_with fail
       go_ret
       exact ⟨by rw [ST.out (by omega)]; rfl, HB2.out⟩
   · have hnx : ∀ ty, (Instr.next (.pointer (some ⟨w.heap.size, 0, none⟩)) true ty).run Tryz.prog wr = _ := fun ty => Lib.run_next_end_at wr w.heap.size ⟨l.toArray⟩ k ty hit (by rw [bsz]; exact hp)
     have HX : Hid (stretchS l = l) := hid (tw_all wcB l (by rw [List.take_of_length_le (by omega)] at hall; exact hall))
     have HB := hid hbw
     clear hall hbw
     go_wp2_with fail
     go_ret
     exact ⟨by rw [HX.out]; rfl, HB.out⟩
end Yd


namespace Yd
open Go Go.RowKit Go.Proofs

theorem hd_digit (r : Int) (w : World) : Calls Tryz.prog 137 #[.int .i32 r] w (Ret (.bool (numB r)) w) := by
 by_cases h1 : 48 ≤ r <;> by_cases h2 : r ≤ 57
 all_goals
   go_enter Tryz.func137, Tryz.ntmps137
   go_wp2_with fail
   go_ret
   exact ⟨by simp [numB, h1, h2], Below.refl _ _⟩
def headS (l : Bs) : Bs := if l.head? = some 45 then (if (l.tail.takeWhile digB).length = 0 then [] else l.take ((l.tail.takeWhile digB).length + 1)) else l.takeWhile digB
theorem digB_nat (b : UInt8) : digB b = (decide (48 ≤ b.toNat) && decide (b.toNat ≤ 57)) := rfl
def hz (l : Bs) : Nat := if l.head? = some 45 then 1 else 0
def hdAt (l : Bs) (k e : Nat) : Prop := (k = 0 ∧ e = 0) ∨ (hz l ≤ k ∧ (∀ x ∈ (l.take k).drop (hz l), digB x = true) ∧ e = (if k = hz l then 0 else k))
theorem tw_len {q : UInt8 → Bool} {l : Bs} {k : Nat} (h : ∀ x ∈ l.take k, q x = true) (hs : k = l.length ∨ ∃ b, l[k]? = some b ∧ q b = false) (hk : k ≤ l.length) : (l.takeWhile q).length = k ∧ l.takeWhile q = l.take k := by
 rcases hs with rfl | ⟨b, hb, hq⟩
 · rw [List.take_length] at h ⊢
   rw [tw_all q l h]; exact ⟨rfl, rfl⟩
 · rw [tw_stop q l k b h hb hq]
   exact ⟨by rw [List.length_take]; omega, rfl⟩
theorem hd_stop {l : Bs} {k e : Nat} (h : hdAt l k e) (hk : k ≤ l.length) (hs : k = l.length ∨ ∃ b, l[k]? = some b ∧ digB b = false ∧ ¬ (k = 0 ∧ b = 45)) : headS l = l.take e ∧ e ≤ l.length := by
 unfold headS
 by_cases h45 : l.head? = some 45
 · rw [if_pos h45]
   obtain ⟨t, rfl⟩ : ∃ t, l = 45 :: t := by cases l with
     | nil => simp at h45
     | cons a t => exact ⟨t, by simpa using h45⟩
   have hz1 : hz (45 :: t) = 1 := rfl
   unfold hdAt at h
   rw [hz1] at h
   rcases h with ⟨rfl, rfl⟩ | ⟨h1, h2, h3⟩
   · exfalso
     rcases hs with h | ⟨b, hb, _, hn⟩
     · simp at h
     · exact hn ⟨rfl, by simpa using hb.symm⟩
   · obtain ⟨j, rfl⟩ : ∃ j, k = j + 1 := ⟨k - 1, by omega⟩
     have ht : ((45 :: t : Bs).tail.takeWhile digB).length = j ∧ _ := tw_len (l := t) (k := j) (by simpa using h2) (by
       rcases hs with h | ⟨b, hb, hq, _⟩
       · exact .inl (by simpa using h)
       · exact .inr ⟨b, by simpa using hb, hq⟩) (by simpa using hk)
     rw [ht.1]
     by_cases hj : j = 0
     · subst hj; rw [if_pos rfl, h3, if_pos rfl]; exact ⟨rfl, Nat.zero_le _⟩
     · rw [if_neg hj, h3, if_neg (by omega)]; exact ⟨rfl, hk⟩
 · rw [if_neg h45]
   have hz0 : hz l = 0 := if_neg h45
   unfold hdAt at h
   rw [hz0] at h
   have he : e = k ∧ ∀ x ∈ l.take k, digB x = true := by
     rcases h with ⟨rfl, rfl⟩ | ⟨_, h2, h3⟩
     · exact ⟨rfl, by simp⟩
     · exact ⟨by rw [h3]; split <;> omega, by simpa using h2⟩
   rw [he.1]
   exact ⟨(tw_len he.2 (by
     rcases hs with h | ⟨b, hb, hq, _⟩
     · exact .inl h
     · exact .inr ⟨b, hb, hq⟩) hk).2, hk⟩
theorem hd_go {l : Bs} {k e : Nat} {b : UInt8} (h : hdAt l k e) (hb : l[k]? = some b) (hd : digB b = true) : hdAt l (k + 1) (k + 1) := by
 have hzl : hz l ≤ k := by
   rcases h with ⟨rfl, _⟩ | ⟨h1, _⟩
   · unfold hz
     split
     · rename_i h45
       exfalso
       cases l with
       | nil => simp at hb
       | cons a t =>
         obtain rfl : a = b := by simpa using hb
         obtain rfl : a = 45 := by simpa using h45
         exact absurd hd (by decide)
     · omega
   · exact h1
 refine .inr ⟨by omega, fun x hx => ?_, by rw [if_neg (by omega)]⟩
 rw [List.take_add_one, hb, List.drop_append_of_le_length (by rw [List.length_take]; have := (List.getElem?_eq_some_iff.1 hb).1; omega)] at hx
 rcases List.mem_append.1 hx with hx | hx
 · rcases h with ⟨rfl, _⟩ | ⟨_, h2, _⟩
   · simp at hx
   · exact h2 x hx
 · obtain rfl : x = b := by simpa using hx
   exact hd
theorem hd_sign {l : Bs} {e : Nat} (h : hdAt l 0 e) (hb : l[0]? = some 45) : e = 0 ∧ hdAt l 1 0 := by
 have h45 : l.head? = some 45 := by cases l with
   | nil => simp at hb
   | cons a t => simpa using hb
 have hz1 : hz l = 1 := if_pos h45
 refine ⟨?_, .inr ⟨by omega, fun x hx => ?_, by rw [hz1, if_pos rfl]⟩⟩
 · rcases h with ⟨_, h⟩ | ⟨h1, _⟩
   · exact h
   · omega
 · rw [hz1] at hx
   cases l with
   | nil => simp at hx
   | cons a t => simp at hx
theorem hd_Head (l : Bs) (hlim : l.length ≤ 1000000) (w : World) : Calls Tryz.prog 119 #[.string ⟨l.toArray⟩] w (Ret2 (.string ⟨(headS l).toArray⟩) (.string ⟨(l.drop (headS l).length).toArray⟩) w) := by
 obtain ⟨X, hX⟩ : ∃ X, X = headS l := ⟨_, rfl⟩
 rw [← hX]
 have HX := hid hX
 have hbz := bsz l
 clear hX
 go_enter Tryz.func119, Tryz.ntmps119
 go_wp2_with fail
 go_step3
 go_wp2_with fail
 go_step3
 go_wp2_with fail
 go_loopw [4] (fun v wr => ∃ k e : Nat, v = .int .i64 e ∧ k ≤ l.length ∧ e ≤ l.length ∧ wr.heap[w.heap.size]? = some (.stringIter ⟨l.toArray⟩ k) ∧ Below w.heap.size w wr ∧ hdAt l k e) (fun _ wr => l.length - wr.iterPos w.heap.size)
 case atStart => exact ⟨0, 0, rfl, Nat.zero_le _, Nat.zero_le _, World.iter_heap w ⟨l.toArray⟩ 0, iter_below w ⟨l.toArray⟩, .inl ⟨rfl, rfl⟩⟩
 case round =>
   obtain ⟨k, e, rfl, hk, hel0, hit, hbw, hat⟩ := hrel
   by_cases hp : k < l.length
   · obtain ⟨b, t, hbt⟩ : ∃ b t, l.drop k = b :: t := ⟨_, _, List.drop_eq_getElem_cons hp⟩
     have hnx : ∀ ty, (Instr.next (.pointer (some ⟨w.heap.size, 0, none⟩)) true ty).run Tryz.prog wr = _ := fun ty => Lib.run_next_any_at wr w.heap.size ⟨l.toArray⟩ k ty hit (by rw [bsz]; exact hp)
     have hwd := dec_drop l k
     rw [hbt] at hwd
     rw [hwd] at hnx
     have hkb : l[k]? = some b := by
       have := congrArg (fun l => l[0]?) hbt
       simpa using this
     obtain ⟨r, d, hr, hd⟩ : ∃ (r : Int) (d : Nat), r = ((Utf8.decode ⟨(b :: t).toArray⟩ 0).1 : Int) ∧ d = (Utf8.decode ⟨(b :: t).toArray⟩ 0).2 := ⟨_, _, rfl, rfl⟩
     have hbr : (b.toNat < 128 ∧ r = b.toNat ∧ d = 1) ∨ (128 ≤ b.toNat ∧ 128 ≤ r) := by
       rcases Nat.lt_or_ge b.toNat 128 with h1 | h1
       · rw [dec_lo b t h1] at hr hd; exact .inl ⟨h1, hr, hd⟩
       · have := (dec_hi b t h1).1; exact .inr ⟨h1, by omega⟩
     rw [← hr, ← hd] at hnx
     have hit2 := Lib.iterAt_heap wr w.heap.size ⟨l.toArray⟩ k (k + d) hit
     have hbw2 := Lib.below_iterAt hbw (k := w.heap.size) (Nat.le_refl _) ⟨l.toArray⟩ (k + d)
     have HBR := hid hbr; have HAT := hid hat; have HKB := hid hkb; have HB2 := hid hbw2; have HI2 := hid hit2; have HIT := hid hit
     have hDB : digB b = numB r := by
       rw [digB_nat]; unfold numB
       rcases hbr with ⟨h1, h2, h3⟩ | ⟨h1, h2⟩
       · rw [h2]; congr 1 <;> exact decide_eq_decide.2 (by omega)
       · rw [decide_eq_false (show ¬ b.toNat ≤ 57 by omega), decide_eq_false (show ¬ r ≤ 57 by omega), Bool.and_false, Bool.and_false]
     have HDB := hid hDB
     clear hbr hat hkb hbw2 hit2 hbw hwd hr hd hbt hit hDB
     cases hnum : numB r
     · by_cases hsg : k = 0 ∧ r = 45
       · obtain ⟨rfl, rfl⟩ := hsg
         have hb45 : b = 45 ∧ d = 1 := by
           rcases HBR.out with ⟨h1, h2, h3⟩ | ⟨h1, h2⟩
           · exact ⟨UInt8.toNat_inj.1 (by show b.toNat = 45; omega), h3⟩
           · exfalso; omega
         obtain ⟨rfl, rfl⟩ := hb45
         obtain ⟨h0, h1⟩ := hd_sign HAT.out HKB.out
         have H1 := hid h1
         have HI3 : Hid ((wr.iterAt w.heap.size ⟨l.toArray⟩ (0 + 1)).heap[w.heap.size]? = some (.stringIter ⟨l.toArray⟩ 1)) := HI2
         clear h1
         go_wp2_with (first | (go_at_call 137; refine (hd_digit _ _).mono ?_; rintro e w3 ⟨rfl, hb3⟩; rw [hnum]; have HB3 := hid (HB2.out.trans (hb3.mono HB2.out.size)); have HI4 := hid ((hb3.block w.heap.size (by have := (Array.getElem?_eq_some_iff.1 HI2.out).1; exact this)).trans HI3.out); clear hb3) | fail)
         go_roundw
         case rel => exact ⟨1, 0, rfl, by omega, Nat.zero_le _, HI4.out, HB3.out, H1.out⟩
         case measure => rw [iterPos_of HI4.out, iterPos_of HIT.out]; omega
       · by_cases hk0 : k = 0
         · subst hk0
           rw [Nat.zero_add] at HB2
           have hr45 : (r != 45) = true := bne_iff_ne.2 (fun e => hsg ⟨rfl, e⟩)
           have HSG := hid hsg
           clear hsg
           have HE := hid (hd_stop HAT.out (by omega) (.inr ⟨b, HKB.out, by rw [HDB.out, hnum], fun e => HSG.out ⟨rfl, by rcases HBR.out with ⟨h1, h2, h3⟩ | ⟨h1, h2⟩ <;> (rw [e.2] at h1; simp at h1); rw [h2, e.2]; rfl⟩⟩))
           have hsh := fun W => run_slh Tryz.underlying9 l e HE.out.2 W
           have hsl := fun W => run_sl Tryz.underlying9 l e HE.out.2 W
           have hel : (l.take e).length = e := by rw [List.length_take]; have := HE.out.2; omega
           have HEL := hid hel
           clear hel
           go_wp2_with (first | (go_at_call 137; refine (hd_digit _ _).mono ?_; rintro e w3 ⟨rfl, hb3⟩; rw [hnum]; have HB3 := hid (HB2.out.trans (hb3.mono HB2.out.size)); clear hb3) | go_quiet (fail))
           change bodyPost _ _ _ Exit.ret _ _
           go_ret2
           exact ⟨by rw [HX.out, HE.out.1, HEL.out]; rfl, belowN HB3.out _⟩
         · have hk1 : decide ((0 : Int) < (k : Int)) = true := decide_eq_true (by omega)
           have hk2 : decide (0 < k) = true := decide_eq_true (by omega)
           have HK0 := hid hk0
           clear hk0 hsg
           have HE := hid (hd_stop HAT.out (by omega) (.inr ⟨b, HKB.out, by rw [HDB.out, hnum], fun e => HK0.out e.1⟩))
           have hsh := fun W => run_slh Tryz.underlying9 l e HE.out.2 W
           have hsl := fun W => run_sl Tryz.underlying9 l e HE.out.2 W
           have hel : (l.take e).length = e := by rw [List.length_take]; have := HE.out.2; omega
           have HEL := hid hel
           clear hel
           go_wp2_with (first | (go_at_call 137; refine (hd_digit _ _).mono ?_; rintro e w3 ⟨rfl, hb3⟩; rw [hnum]; have HB3 := hid (HB2.out.trans (hb3.mono HB2.out.size)); clear hb3) | go_quiet (fail))
           change bodyPost _ _ _ Exit.ret _ _
           go_ret2
           exact ⟨by rw [HX.out, HE.out.1, HEL.out]; rfl, belowN HB3.out _⟩
     · have hb1 : d = 1 := by
         rcases HBR.out with ⟨h1, h2, h3⟩ | ⟨h1, h2⟩
         · exact h3
         · simp [numB] at hnum; omega
       subst hb1
       have H1 := hid (hd_go HAT.out HKB.out (by rw [HDB.out, hnum]))
       go_wp2_with (first | (go_at_call 137; refine (hd_digit _ _).mono ?_; rintro e w3 ⟨rfl, hb3⟩; rw [hnum]; have HB3 := hid (HB2.out.trans (hb3.mono HB2.out.size)); have HI4 := hid ((hb3.block w.heap.size (by have := (Array.getElem?_eq_some_iff.1 HI2.out).1; exact this)).trans HI2.out); clear hb3) | fail)
       go_roundw
       case rel => exact ⟨k + 1, k + 1, by go_num, by omega, by omega, HI4.out, HB3.out, H1.out⟩
       case measure => rw [iterPos_of HI4.out, iterPos_of HIT.out]; omega
   · have hnx : ∀ ty, (Instr.next (.pointer (some ⟨w.heap.size, 0, none⟩)) true ty).run Tryz.prog wr = _ := fun ty => Lib.run_next_end_at wr w.heap.size ⟨l.toArray⟩ k ty hit (by rw [bsz]; exact hp)
     have HE := hid (hd_stop hat hk (.inl (by omega)))
     have hsh := fun W => run_slh Tryz.underlying9 l e HE.out.2 W
     have hsl := fun W => run_sl Tryz.underlying9 l e HE.out.2 W
     have hel : (l.take e).length = e := by rw [List.length_take]; have := HE.out.2; omega
     have HEL := hid hel
     have HB := hid hbw
     clear hel hbw hat
     go_wp2_with (go_quiet (fail))
     change bodyPost _ _ _ Exit.ret _ _
     go_ret2
     exact ⟨by rw [HX.out, HE.out.1, HEL.out]; rfl, belowN HB.out _⟩
end Yd
