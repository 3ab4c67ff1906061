import Derived.Test.YthkpjdgmpjhhmaaGreatDoorShape
import Derived.Test.YthkpjdgmpjhhmaaGreatDoorGround
import Derived.Test.YthkpjdgmpjhhmaaGreatDoorProg
import Derived.BigQuiet
import Derived.Test.YthkpjdgmpjhhmaaGreatDoorShaped
import Derived.Laws.RangeString
import Derived.Lib.MapLaws
import Derived.Test.YthkpjdgmpjhhmaaGreatDoorSpokenB
import Derived.Test.YthkpjdgmpjhhmaaGreatDoorLineC
set_option maxRecDepth 200000
set_option maxHeartbeats 8000000
namespace Yd
open Go Go.RowKit Go.Proofs

theorem r_eqInt (a a' : Option Addr) (n c n' c' : Nat) (xs ys : List Int) (w : World) (hr : Row w 1 encInt a n c xs) (hr' : Row w 1 encInt a' n' c' ys) :
   Calls Tryz.prog 54 #[.slice a n c, .slice a' n' c'] w (Ret (.bool (decide (xs = ys))) w) := by
 have hn := hr.le
 have hn' := hr'.le
 have HR := hid hr; have HR' := hid hr'
 clear hr hr'
 by_cases hl : n = n'
 · subst hl
   clear hn'
   go_enter Tryz.func54, Tryz.ntmps54
   go_wp2_with fail
   go_loopw [13] (fun i wr => ∃ k : Nat, k ≤ n ∧ i = .int .i64 k ∧ xs.take k = ys.take k ∧ Below w.heap.size w wr) (fun i _ => n - (intOf i).toNat)
   case atStart => exact ⟨0, Nat.zero_le _, rfl, rfl, Below.refl _ _⟩
   case round =>
     obtain ⟨k, hk, rfl, hf, hb⟩ := hrel
     have HF := hid hf; clear hf
     by_cases hlt : k < n
     · have hi1 : (0 : Int) ≤ (k : Int) := by omega
       have hi2 : (k : Int) < (n : Int) := by omega
       obtain ⟨x, b, o, hx, rfl, hc⟩ := HR.out.at_ hlt
       obtain ⟨y, b', o', hy, rfl, hc'⟩ := HR'.out.at_ hlt
       have h0 := bget hb rfl (hc 0 _ rfl)
       simp only [Nat.mul_one, Nat.add_zero] at h0
       have h'0 := bget hb rfl (hc' 0 _ rfl)
       simp only [Nat.mul_one, Nat.add_zero] at h'0
       have HX := hid hx; have HY := hid hy
       clear hc hc' hx hy
       by_cases he : x = y
       · subst he
         go_wp2_with fail
         go_quiet (fail)
         go_wp2_with fail
         refine ⟨⟨k + 1, by omega, by go_num, ?_, belowN hb _⟩, by simp [intOf]; omega⟩
         rw [List.take_add_one, List.take_add_one, HF.out, HX.out, HY.out]
       · have ht : (x == y) = false := by simpa using he
         have HE := hid he; clear he
         go_wp2_with fail
         go_quiet (fail)
         go_wp2_with fail
         go_ret
         refine ⟨?_, belowN hb _⟩
         have hne : xs ≠ ys := fun e => HE.out (by have h1 := HX.out; have h2 := HY.out; rw [e, h2] at h1; exact (Option.some.inj h1).symm)
         rw [decide_eq_false hne]; rfl
     · have hkn : k = n := by omega
       go_wp2_with fail
       go_ret
       refine ⟨?_, hb⟩
       have e : xs = ys := by
         have h := HF.out
         rwa [List.take_of_length_le (by rw [HR.out.len]; omega), List.take_of_length_le (by rw [HR'.out.len]; omega)] at h
       rw [decide_eq_true e]; rfl
 · have hne : xs ≠ ys := fun e => hl (by rw [← HR.out.len, ← HR'.out.len, e])
   have hl' : ((n : Int) == (n' : Int)) = false := beq_eq_false_iff_ne.2 (by omega)
   have HN := hid hne
   clear hne hl
   go_enter Tryz.func54, Tryz.ntmps54
   go_wp2_with fail
   go_ret
   refine ⟨?_, Below.refl _ _⟩
   rw [decide_eq_false HN.out]; rfl

theorem r_eqStr (a a' : Option Addr) (n c n' c' : Nat) (xs ys : List Bs) (w : World) (hr : Row w 1 encStr a n c xs) (hr' : Row w 1 encStr a' n' c' ys) :
   Calls Tryz.prog 52 #[.slice a n c, .slice a' n' c'] w (Ret (.bool (decide (xs = ys))) w) := by
 have hn := hr.le
 have hn' := hr'.le
 have HR := hid hr; have HR' := hid hr'
 clear hr hr'
 by_cases hl : n = n'
 · subst hl
   clear hn'
   go_enter Tryz.func52, Tryz.ntmps52
   go_wp2_with fail
   go_loopw [13] (fun i wr => ∃ k : Nat, k ≤ n ∧ i = .int .i64 k ∧ xs.take k = ys.take k ∧ Below w.heap.size w wr) (fun i _ => n - (intOf i).toNat)
   case atStart => exact ⟨0, Nat.zero_le _, rfl, rfl, Below.refl _ _⟩
   case round =>
     obtain ⟨k, hk, rfl, hf, hb⟩ := hrel
     have HF := hid hf; clear hf
     by_cases hlt : k < n
     · have hi1 : (0 : Int) ≤ (k : Int) := by omega
       have hi2 : (k : Int) < (n : Int) := by omega
       obtain ⟨x, b, o, hx, rfl, hc⟩ := HR.out.at_ hlt
       obtain ⟨y, b', o', hy, rfl, hc'⟩ := HR'.out.at_ hlt
       have h0 := bget hb rfl (hc 0 _ rfl)
       simp only [Nat.mul_one, Nat.add_zero] at h0
       have h'0 := bget hb rfl (hc' 0 _ rfl)
       simp only [Nat.mul_one, Nat.add_zero] at h'0
       have HX := hid hx; have HY := hid hy
       clear hc hc' hx hy
       by_cases he : x = y
       · subst he
         go_wp2_with fail
         go_quiet (fail)
         go_wp2_with fail
         refine ⟨⟨k + 1, by omega, by go_num, ?_, belowN hb _⟩, by simp [intOf]; omega⟩
         rw [List.take_add_one, List.take_add_one, HF.out, HX.out, HY.out]
       · have ht : (x == y) = false := by simpa using he
         have HE := hid he; clear he
         go_wp2_with fail
         go_quiet (fail)
         go_wp2_with fail
         go_ret
         refine ⟨?_, belowN hb _⟩
         have hne : xs ≠ ys := fun e => HE.out (by have h1 := HX.out; have h2 := HY.out; rw [e, h2] at h1; exact (Option.some.inj h1).symm)
         rw [decide_eq_false hne]; rfl
     · have hkn : k = n := by omega
       go_wp2_with fail
       go_ret
       refine ⟨?_, hb⟩
       have e : xs = ys := by
         have h := HF.out
         rwa [List.take_of_length_le (by rw [HR.out.len]; omega), List.take_of_length_le (by rw [HR'.out.len]; omega)] at h
       rw [decide_eq_true e]; rfl
 · have hne : xs ≠ ys := fun e => hl (by rw [← HR.out.len, ← HR'.out.len, e])
   have hl' : ((n : Int) == (n' : Int)) = false := beq_eq_false_iff_ne.2 (by omega)
   have HN := hid hne
   clear hne hl
   go_enter Tryz.func52, Tryz.ntmps52
   go_wp2_with fail
   go_ret
   refine ⟨?_, Below.refl _ _⟩
   rw [decide_eq_false HN.out]; rfl

theorem r_eqSn (a a' : Option Addr) (n c n' c' : Nat) (xs ys : List Sn) (w : World) (hr : Row w 3 encSn a n c xs) (hr' : Row w 3 encSn a' n' c' ys) :
   Calls Tryz.prog 92 #[.slice a n c, .slice a' n' c'] w (Ret (.bool (decide (xs = ys))) w) := by
 have hn := hr.le
 have hn' := hr'.le
 have HR := hid hr; have HR' := hid hr'
 clear hr hr'
 by_cases hl : n = n'
 · subst hl
   clear hn'
   go_enter Tryz.func92, Tryz.ntmps92
   go_wp2_with fail
   go_loopw [13] (fun i wr => ∃ k : Nat, k ≤ n ∧ i = .int .i64 k ∧ xs.take k = ys.take k ∧ Below w.heap.size w wr) (fun i _ => n - (intOf i).toNat)
   case atStart => exact ⟨0, Nat.zero_le _, rfl, rfl, Below.refl _ _⟩
   case round =>
     obtain ⟨k, hk, rfl, hf, hb⟩ := hrel
     have HF := hid hf; clear hf
     by_cases hlt : k < n
     · have hi1 : (0 : Int) ≤ (k : Int) := by omega
       have hi2 : (k : Int) < (n : Int) := by omega
       obtain ⟨x, b, o, hx, rfl, hc⟩ := HR.out.at_ hlt
       obtain ⟨y, b', o', hy, rfl, hc'⟩ := HR'.out.at_ hlt
       have h0 := bget hb rfl (hc 0 _ rfl)
       have h1 := bget hb rfl (hc 1 _ rfl)
       have h2 := bget hb rfl (hc 2 _ rfl)
       simp only [Nat.add_zero] at h0
       have h'0 := bget hb rfl (hc' 0 _ rfl)
       have h'1 := bget hb rfl (hc' 1 _ rfl)
       have h'2 := bget hb rfl (hc' 2 _ rfl)
       simp only [Nat.add_zero] at h'0
       have HX := hid hx; have HY := hid hy
       clear hc hc' hx hy
       by_cases he : x = y
       · subst he
         go_wp2_with fail
         go_quiet (fail)
         go_wp2_with fail
         refine ⟨⟨k + 1, by omega, by go_num, ?_, belowN hb _⟩, by simp [intOf]; omega⟩
         rw [List.take_add_one, List.take_add_one, HF.out, HX.out, HY.out]
       · have ht := eqInSn x y; rw [decide_eq_false he] at ht
         have HE := hid he; clear he
         go_wp2_with fail
         go_quiet (fail)
         go_wp2_with fail
         go_ret
         refine ⟨?_, belowN hb _⟩
         have hne : xs ≠ ys := fun e => HE.out (by have h1 := HX.out; have h2 := HY.out; rw [e, h2] at h1; exact (Option.some.inj h1).symm)
         rw [decide_eq_false hne]; rfl
     · have hkn : k = n := by omega
       go_wp2_with fail
       go_ret
       refine ⟨?_, hb⟩
       have e : xs = ys := by
         have h := HF.out
         rwa [List.take_of_length_le (by rw [HR.out.len]; omega), List.take_of_length_le (by rw [HR'.out.len]; omega)] at h
       rw [decide_eq_true e]; rfl
 · have hne : xs ≠ ys := fun e => hl (by rw [← HR.out.len, ← HR'.out.len, e])
   have hl' : ((n : Int) == (n' : Int)) = false := beq_eq_false_iff_ne.2 (by omega)
   have HN := hid hne
   clear hne hl
   go_enter Tryz.func92, Tryz.ntmps92
   go_wp2_with fail
   go_ret
   refine ⟨?_, Below.refl _ _⟩
   rw [decide_eq_false HN.out]; rfl

theorem r_same_ev (a b : EvC) (xs ys : List Sn) (w : World) (hx : Row w 3 encSn a.sa a.sn a.sc xs) (hy : Row w 3 encSn b.sa b.sn b.sc ys) :
   Calls Tryz.prog 53 #[valEv a, valEv b] w (Ret (.bool (sameFlat a b && decide (xs = ys))) w) := by
 obtain ⟨R, hR0⟩ : ∃ R : Bool, R = (sameFlat a b && decide (xs = ys)) := ⟨_, rfl⟩
 rw [← hR0]
 have HF := hid hR0; have HX := hid hx; have HY := hid hy
 clear hR0 hx hy
 obtain ⟨kind, t, ses, lvl, obj, v, pred, sa, sn, sc⟩ := a
 obtain ⟨kind', t', ses', lvl', obj', v', pred', sa', sn', sc'⟩ := b
 by_cases h : ¬ kind = kind'
 · have hR : R = false := by rw [HF.out]; simp [sameFlat, h]
   subst hR
   have hne : (kind == kind') = false := beq_eq_false_iff_ne.2 h
   clear h
   go_enter Tryz.func53, Tryz.ntmps53
   go_wp2_with fail
   go_ret
   exact ⟨rfl, ((Below.refl _ _).alloc (Nat.le_refl _) _).alloc (by simp) _⟩
 have h := Decidable.not_not.1 h
 subst h
 by_cases h : ¬ t = t'
 · have hR : R = false := by rw [HF.out]; simp [sameFlat, h]
   subst hR
   have hne : (t == t') = false := beq_eq_false_iff_ne.2 h
   clear h
   go_enter Tryz.func53, Tryz.ntmps53
   go_wp2_with fail
   go_ret
   exact ⟨rfl, ((Below.refl _ _).alloc (Nat.le_refl _) _).alloc (by simp) _⟩
 have h := Decidable.not_not.1 h
 subst h
 by_cases h : ¬ ses = ses'
 · have hR : R = false := by rw [HF.out]; simp [sameFlat, h]
   subst hR
   have hne : (ses == ses') = false := beq_eq_false_iff_ne.2 h
   clear h
   go_enter Tryz.func53, Tryz.ntmps53
   go_wp2_with fail
   go_ret
   exact ⟨rfl, ((Below.refl _ _).alloc (Nat.le_refl _) _).alloc (by simp) _⟩
 have h := Decidable.not_not.1 h
 subst h
 by_cases h : ¬ lvl = lvl'
 · have hR : R = false := by rw [HF.out]; simp [sameFlat, h]
   subst hR
   have hne : (lvl == lvl') = false := beq_eq_false_iff_ne.2 h
   clear h
   go_enter Tryz.func53, Tryz.ntmps53
   go_wp2_with fail
   go_ret
   exact ⟨rfl, ((Below.refl _ _).alloc (Nat.le_refl _) _).alloc (by simp) _⟩
 have h := Decidable.not_not.1 h
 subst h
 by_cases h : ¬ obj = obj'
 · have hR : R = false := by rw [HF.out]; simp [sameFlat, h]
   subst hR
   have hne : (obj == obj') = false := beq_eq_false_iff_ne.2 h
   clear h
   go_enter Tryz.func53, Tryz.ntmps53
   go_wp2_with fail
   go_ret
   exact ⟨rfl, ((Below.refl _ _).alloc (Nat.le_refl _) _).alloc (by simp) _⟩
 have h := Decidable.not_not.1 h
 subst h
 by_cases h : ¬ v = v'
 · have hR : R = false := by rw [HF.out]; simp [sameFlat, h]
   subst hR
   have hne := eqInVer v v'; rw [decide_eq_false h] at hne
   clear h
   go_enter Tryz.func53, Tryz.ntmps53
   go_wp2_with fail
   go_ret
   exact ⟨rfl, ((Below.refl _ _).alloc (Nat.le_refl _) _).alloc (by simp) _⟩
 have h := Decidable.not_not.1 h
 subst h
 by_cases h : ¬ pred = pred'
 · have hR : R = false := by rw [HF.out]; simp [sameFlat, h]
   subst hR
   have hne : (pred == pred') = false := beq_eq_false_iff_ne.2 h
   clear h
   go_enter Tryz.func53, Tryz.ntmps53
   go_wp2_with fail
   go_ret
   exact ⟨rfl, ((Below.refl _ _).alloc (Nat.le_refl _) _).alloc (by simp) _⟩
 have h := Decidable.not_not.1 h
 subst h
 have hR : R = decide (xs = ys) := by rw [HF.out]; simp [sameFlat]
 subst hR
 have HB := hid (((Below.refl w.heap.size w).alloc (Nat.le_refl _) (.cells (cellsEv ⟨kind, t, ses, lvl, obj, v, pred, sa, sn, sc⟩) 49)).alloc (by simp) (.cells (cellsEv ⟨kind, t, ses, lvl, obj, v, pred, sa', sn', sc'⟩) 49))
 have HC := hid (r_eqSn sa sa' sn sc sn' sc' xs ys _ (HX.out.below HB.out rfl) (HY.out.below HB.out rfl))
 go_enter Tryz.func53, Tryz.ntmps53
 go_wp2_with (go_at_call 92; refine HC.out.mono ?_; rintro e w1 ⟨rfl, hb1⟩)
 go_ret
 exact ⟨rfl, HB.out.trans (hb1.mono (by simp; omega))⟩
end Yd


namespace Yd
open Go Go.RowKit Go.Proofs
attribute [local go_sem] Oper.semAt_some

theorem ref_letter (r : Int) (w : World) : Calls Tryz.prog 147 #[.int .i32 r] w (Ret (.bool (letB r)) w) := by
 by_cases h0 : r = 95
 · subst h0
   go_enter Tryz.func147, Tryz.ntmps147
   go_wp2_with fail
   go_ret
   exact ⟨by simp [letB], Below.refl _ _⟩
 have hb : (r == 95) = false := beq_eq_false_iff_ne.2 h0
 by_cases h1 : 97 ≤ r <;> by_cases h2 : r ≤ 122 <;> by_cases h3 : 65 ≤ r <;> by_cases h4 : r ≤ 90 <;> by_cases h5 : 128 ≤ r
 all_goals first
   | (exfalso; omega)
   | (go_enter Tryz.func147, Tryz.ntmps147
      go_wp2_with fail
      go_ret
      exact ⟨by simp [letB, h0, h1, h2, h3, h4, h5], Below.refl _ _⟩)
theorem ref_digit (r : Int) (w : World) : Calls Tryz.prog 148 #[.int .i32 r] w (Ret (.bool (numB r)) w) := by
 by_cases h1 : 48 ≤ r <;> by_cases h2 : r ≤ 57
 all_goals
   go_enter Tryz.func148, Tryz.ntmps148
   go_wp2_with fail
   go_ret
   exact ⟨by simp [numB, h1, h2], Below.refl _ _⟩
def fstR (s : ByteArray) : Int := if 0 < s.size then (if okB s 0 = true then ((Utf8.decode s 0).1 : Int) else -1) else -1
def fstN (s : ByteArray) : Int := if 0 < s.size then (if okB s 0 = true then ((Utf8.decode s 0).2 : Int) else 1) else 0
theorem run_next_str (w : World) (s : ByteArray) (ty : TypeId) (h : 0 < s.size) :
   (Instr.next (.pointer (some ⟨w.heap.size, 0, none⟩)) true ty).run Tryz.prog (w.iter s 0) = .ok (.tuple #[.bool true, .int .i64 0, .int .i32 ((Utf8.decode s 0).1 : Int)]) (w.iter s (Utf8.decode s 0).2) := by
 simp only [Instr.next, getObj, setObj, Sem.run_bind, Sem.run, World.iter_heap, Result.andThen, h, if_true, World.iter_set]
 simp [goInt]
theorem dec_shape (s : ByteArray) (i : Nat) : Utf8.decode s i = (65533, 1) ∨ ((Utf8.decode s i).1 < 128 ∧ (Utf8.decode s i).2 = 1) ∨ (128 ≤ (Utf8.decode s i).1 ∧ (Utf8.decode s i).1 < 2048 ∧ (Utf8.decode s i).2 = 2) ∨
   (2048 ≤ (Utf8.decode s i).1 ∧ (Utf8.decode s i).1 < 65536 ∧ Utf8.valid ((Utf8.decode s i).1 : Int) = true ∧ (Utf8.decode s i).2 = 3) ∨ (65536 ≤ (Utf8.decode s i).1 ∧ Utf8.valid ((Utf8.decode s i).1 : Int) = true ∧ (Utf8.decode s i).2 = 4) := by
 unfold Utf8.decode
 simp only []
 have k0 := (s.get! (i + 0)).toNat_lt
 split
 · right; left; simp; omega
 split
 · split
   · right; right; left; refine ⟨by simpa using ‹_›, ?_, rfl⟩; simp only []; omega
   · left; rfl
 split
 · split
   · rename_i h
     simp only [Bool.and_eq_true, decide_eq_true_eq, ge_iff_le] at h
     right; right; right; left; refine ⟨h.1, ?_, h.2, rfl⟩; simp only []; omega
   · left; rfl
 split
 · split
   · rename_i h
     simp only [Bool.and_eq_true, decide_eq_true_eq, ge_iff_le] at h
     right; right; right; right; exact ⟨h.1, h.2, rfl⟩
   · left; rfl
 · left; rfl
theorem enc_size {s : ByteArray} {i : Nat} (h : okB s i = true) : (Utf8.encode ((Utf8.decode s i).1 : Int)).size = (Utf8.decode s i).2 := by
 unfold okB at h
 rcases dec_shape s i with e | ⟨e1, e2⟩ | ⟨e1, e2, e3⟩ | ⟨e1, e2, e3, e4⟩ | ⟨e1, e2, e3⟩
 · rw [e] at h; simp at h
 · have hv : Utf8.valid ((Utf8.decode s i).1 : Int) = true := by simp [Utf8.valid]; omega
   unfold Utf8.encode
   simp only [hv, if_true, Int.toNat_natCast]
   rw [if_pos (by omega), e2]; rfl
 · have hv : Utf8.valid ((Utf8.decode s i).1 : Int) = true := by simp [Utf8.valid]; omega
   unfold Utf8.encode
   simp only [hv, if_true, Int.toNat_natCast]
   rw [if_neg (by omega), if_pos (by omega), e3]; rfl
 · unfold Utf8.encode
   simp only [e3, if_true, Int.toNat_natCast]
   rw [if_neg (by omega), if_neg (by omega), if_pos (by omega), e4]; rfl
 · unfold Utf8.encode
   simp only [e2, if_true, Int.toNat_natCast]
   rw [if_neg (by omega), if_neg (by omega), if_neg (by omega), e3]; rfl
theorem ext3 (a b c : UInt8) (r : List UInt8) : ByteArray.extract ⟨⟨a :: b :: c :: r⟩⟩ 0 3 = ⟨#[a, b, c]⟩ := by
 apply ByteArray.ext
 simp [ByteArray.data_extract]
theorem toList3 (a b c : UInt8) : ByteArray.toList ⟨#[a, b, c]⟩ = [a, b, c] := by
 unfold ByteArray.toList
 rw [ByteArray.toList.loop, if_pos (by show 0 < 3; decide), ByteArray.toList.loop, if_pos (by show 1 < 3; decide), ByteArray.toList.loop, if_pos (by show 2 < 3; decide), ByteArray.toList.loop, if_neg (by show ¬ 3 < 3; decide)]
 rfl
theorem ext_beq (s : ByteArray) (h3 : 3 ≤ s.size) (h : ¬ s.extract 0 3 = ⟨#[239, 191, 189]⟩) : ((s.extract 0 3).toList == [239, 191, 189]) = false := by
 obtain ⟨⟨l⟩⟩ := s
 match l, h3 with
 | a :: b :: c :: r, _ =>
   rw [ext3] at h ⊢
   rw [toList3]
   refine beq_eq_false_iff_ne.2 (fun e => h ?_)
   simp only [List.cons.injEq, and_true] at e
   rw [e.1, e.2.1, e.2.2]
theorem fffd (s : ByteArray) (h3 : 3 ≤ s.size) (hr : (Utf8.decode s 0).1 = 65533) : (Utf8.decode s 0).2 = 3 ↔ s.extract 0 3 = ⟨#[239, 191, 189]⟩ := by
 obtain ⟨⟨l⟩⟩ := s
 match l, h3 with
 | a :: b :: c :: r, _ =>
   have ha : ByteArray.get! ⟨⟨a :: b :: c :: r⟩⟩ (0 + 0) = a := rfl
   have hb : ByteArray.get! ⟨⟨a :: b :: c :: r⟩⟩ (0 + 1) = b := rfl
   have hc : ByteArray.get! ⟨⟨a :: b :: c :: r⟩⟩ (0 + 2) = c := rfl
   have k0 := a.toNat_lt; have k1 := b.toNat_lt; have k2 := c.toNat_lt
   have hsz : ByteArray.size ⟨⟨a :: b :: c :: r⟩⟩ = r.length + 3 := rfl
   rw [ext3]
   have hiff : ((⟨#[a, b, c]⟩ : ByteArray) = ⟨#[239, 191, 189]⟩) ↔ (a.toNat = 239 ∧ b.toNat = 191 ∧ c.toNat = 189) := by
     constructor
     · intro h
       injection h with h
       simp at h
       obtain ⟨rfl, rfl, rfl⟩ := h
       decide
     · rintro ⟨h1, h2, h3⟩
       have e1 : a = 239 := UInt8.toNat_inj.1 h1
       have e2 : b = 191 := UInt8.toNat_inj.1 h2
       have e3 : c = 189 := UInt8.toNat_inj.1 h3
       rw [e1, e2, e3]
   rw [hiff]
   constructor
   · intro h
     unfold Utf8.decode at h hr
     simp only [ha, hb, hc] at h hr
     split at h
     · simp at h
     rename_i g0
     rw [if_neg g0] at hr
     split at h
     · split at h <;> simp at h
     rename_i g1
     rw [if_neg g1] at hr
     split at h
     · rename_i g2
       rw [if_pos g2] at hr
       split at h
       · rename_i g3
         rw [if_pos g3] at hr
         simp only [Bool.and_eq_true, decide_eq_true_eq, beq_iff_eq] at g2 hr
         omega
       · simp at h
     rename_i g2
     split at h
     · split at h <;> simp at h
     · simp at h
   · rintro ⟨h1, h2, h3⟩
     unfold Utf8.decode
     simp only [ha, hb, hc, h1, h2, h3, hsz]
     simp [Utf8.valid]
theorem dec_three (s : ByteArray) (h : (Utf8.decode s 0).2 = 3) : 3 ≤ s.size := by
 unfold Utf8.decode at h
 simp only [] at h
 split at h
 · simp at h
 split at h
 · split at h <;> simp at h
 split at h
 · rename_i g
   simp only [Bool.and_eq_true, decide_eq_true_eq] at g
   omega
 split at h
 · split at h <;> simp at h
 · simp at h
theorem ref_first (s : ByteArray) (w : World) : Calls Tryz.prog 146 #[.string s] w fun e w' => e = .returned (.tuple #[.int .i32 (fstR s), .int .i64 (fstN s)]) ∧ Below w.heap.size w w' := by
 by_cases hp : 0 < s.size
 · obtain ⟨r, hr⟩ : ∃ r : Int, r = ((Utf8.decode s 0).1 : Int) := ⟨_, rfl⟩
   have hnx := run_next_str w s 0 hp
   rw [← hr] at hnx
   have HBW : Hid (Below w.heap.size w (w.iter s (Utf8.decode s 0).2)) := hid ((Below.refl _ _).alloc (Nat.le_refl _) _)
   by_cases h5 : r = 65533
   · subst h5
     have hr' : (Utf8.decode s 0).1 = 65533 := by omega
     by_cases h3 : (Utf8.decode s 0).2 = 3
     · have hsz := dec_three s h3
       have hext := (fffd s hsz hr').1 h3
       have hok : okB s 0 = true := by unfold okB; rw [hr', h3]; decide
       have he := enc_size hok
       rw [← hr, h3] at he
       have HF : Hid (fstR s = 65533 ∧ fstN s = 3) := hid (by simp [fstR, fstN, hp, hok, hr', h3])
       have hlt : ¬ ((s.size : Int) < 3) := by omega
       clear hr hok hr' h3 hp
       go_enter Tryz.func146, Tryz.ntmps146
       go_wp2_with fail
       go_loopw [3] (fun v wr => v = .int .i64 0 ∧ wr = w.iter s 0) (fun _ _ => 0)
       case atStart => exact ⟨rfl, rfl⟩
       case round =>
         obtain ⟨rfl, rfl⟩ := hrel
         go_wp2_with fail
         go_ret2
         refine ⟨?_, HBW.out⟩
         rw [HF.out.1, HF.out.2]
         rfl
     · have h1 : (Utf8.decode s 0).2 = 1 := by
         rcases dec_shape s 0 with e | ⟨e1, e2⟩ | ⟨e1, e2, e3⟩ | ⟨e1, e2, e3, e4⟩ | ⟨e1, e2, e3⟩
         · rw [e]
         · exact e2
         · omega
         · omega
         · omega
       have hok : okB s 0 = false := by unfold okB; rw [hr', h1]; decide
       have HF : Hid (fstR s = -1 ∧ fstN s = 1) := hid (by simp [fstR, fstN, hp, hok])
       by_cases hsz : (s.size : Int) < 3
       · skip
         clear hr hok hr' h3 h1 hp
         go_enter Tryz.func146, Tryz.ntmps146
         go_wp2_with fail
         go_loopw [3] (fun v wr => v = .int .i64 0 ∧ wr = w.iter s 0) (fun _ _ => 0)
         case atStart => exact ⟨rfl, rfl⟩
         case round =>
           obtain ⟨rfl, rfl⟩ := hrel
           go_wp2_with fail
           go_ret2
           refine ⟨?_, HBW.out⟩
           rw [HF.out.1, HF.out.2]
           rfl
       · have hext : ¬ s.extract 0 3 = ⟨#[239, 191, 189]⟩ := fun e => h3 ((fffd s (by omega) hr').2 e)
         have hszn : 3 ≤ s.size := by omega
         have hexb := ext_beq s hszn hext
         clear hr hok hr' h3 h1 hp
         go_enter Tryz.func146, Tryz.ntmps146
         go_wp2_with fail
         go_loopw [3] (fun v wr => v = .int .i64 0 ∧ wr = w.iter s 0) (fun _ _ => 0)
         case atStart => exact ⟨rfl, rfl⟩
         case round =>
           obtain ⟨rfl, rfl⟩ := hrel
           go_wp2_with fail
           go_ret2
           refine ⟨?_, HBW.out⟩
           rw [HF.out.1, HF.out.2]
           rfl
   · have hb : (r == 65533) = false := beq_eq_false_iff_ne.2 h5
     have hok : okB s 0 = true := by unfold okB; rw [← hr, hb]; rfl
     have he := enc_size hok
     rw [← hr] at he
     have HF : Hid (fstR s = r ∧ fstN s = ((Utf8.decode s 0).2 : Int)) := hid (by simp [fstR, fstN, hp, hok, hr])
     have HE := hid he
     clear hr hok he hp
     go_enter Tryz.func146, Tryz.ntmps146
     go_wp2_with fail
     go_loopw [3] (fun v wr => v = .int .i64 0 ∧ wr = w.iter s 0) (fun _ _ => 0)
     case atStart => exact ⟨rfl, rfl⟩
     case round =>
       obtain ⟨rfl, rfl⟩ := hrel
       go_wp2_with fail
       go_ret2
       refine ⟨?_, HBW.out⟩
       rw [HF.out.1, HF.out.2]
       rw [← HE.out]; rfl
 · have hz : s.size = 0 := by omega
   have hnx : (Instr.next (.pointer (some ⟨w.heap.size, 0, none⟩)) true 0).run Tryz.prog (w.iter s 0) = .ok (.tuple #[.bool false]) (w.iter s 0) := run_next_end w s 0 0 hp
   have HF : Hid (fstR s = -1 ∧ fstN s = 0) := hid (by simp [fstR, fstN, hz])
   have HBW : Hid (Below w.heap.size w (w.iter s 0)) := hid ((Below.refl _ _).alloc (Nat.le_refl _) _)
   clear hz hp
   go_enter Tryz.func146, Tryz.ntmps146
   go_wp2_with fail
   go_loopw [3] (fun v wr => v = .int .i64 0 ∧ wr = w.iter s 0) (fun _ _ => 0)
   case atStart => exact ⟨rfl, rfl⟩
   case round =>
     obtain ⟨rfl, rfl⟩ := hrel
     go_wp2_with fail
     go_ret2
     refine ⟨?_, HBW.out⟩
     rw [HF.out.1, HF.out.2]
     rfl
def okR (s : ByteArray) (pos : Nat) : Bool := okB s pos && (letB ((Utf8.decode s pos).1 : Int) || (!decide (pos = 0) && numB ((Utf8.decode s pos).1 : Int)))
def rW (s : ByteArray) : Nat → Nat → Bool
 | 0, _ => true
 | n + 1, pos => if pos < s.size then okR s pos && rW s n (pos + (Utf8.decode s pos).2) else true
def refWord (s : ByteArray) : Bool := decide (0 < s.size) && decide (s.size ≤ 24) && rW s s.size 0
theorem dec_pos (s : ByteArray) (i : Nat) : 1 ≤ (Utf8.decode s i).2 ∧ (Utf8.decode s i).2 ≤ 4 := by
 rcases dec_shape s i with e | ⟨e1, e2⟩ | ⟨e1, e2, e3⟩ | ⟨e1, e2, e3, e4⟩ | ⟨e1, e2, e3⟩
 · rw [e]; decide
 · omega
 · omega
 · omega
 · omega
theorem rW_done (s : ByteArray) (n pos : Nat) (h : s.size ≤ pos) : rW s n pos = true := by
 cases n with
 | zero => rfl
 | succ n => simp only [rW]; rw [if_neg (by omega)]
theorem tail_ok (s : ByteArray) (pos : Nat) : okB (s.extract pos s.size) 0 = okB s pos := by unfold okB; rw [Lib.tail_decode, Nat.add_zero]
theorem fst_tail (s : ByteArray) (pos : Nat) (h : pos < s.size) : fstR (s.extract pos s.size) = (if okB s pos = true then ((Utf8.decode s pos).1 : Int) else -1) ∧ fstN (s.extract pos s.size) = (if okB s pos = true then ((Utf8.decode s pos).2 : Int) else 1) := by
 have hp : 0 < (s.extract pos s.size).size := by rw [Lib.tail_size]; omega
 unfold fstR fstN
 rw [if_pos hp, if_pos hp, tail_ok, Lib.tail_decode, Nat.add_zero]
 exact ⟨rfl, rfl⟩
theorem loop_len (s : ByteArray) : ∀ (n i : Nat) (acc : List UInt8), s.size - i = n → (ByteArray.toList.loop s i acc).length = acc.length + n
 | 0, i, acc, h => by rw [ByteArray.toList.loop, if_neg (by omega)]; simp
 | n + 1, i, acc, h => by rw [ByteArray.toList.loop, if_pos (by omega), loop_len s n (i + 1) _ (by omega)]; simp; omega
theorem toList_len (s : ByteArray) : s.toList.length = s.size := by
 unfold ByteArray.toList
 rw [loop_len s s.size 0 [] (by omega)]; simp
theorem ref_Word (s : ByteArray) (w : World) : Calls Tryz.prog 116 #[.string s] w (Ret (.bool (refWord s)) w) := by
 by_cases h0 : s.toList = []
 · have hz : ¬ 0 < s.size := by rw [← toList_len, h0]; simp
   have hq : refWord s = false := by simp [refWord, hz]
   rw [hq]; clear hq hz
   go_enter Tryz.func116, Tryz.ntmps116
   go_wp2_with fail
   go_ret
   exact ⟨rfl, Below.refl _ _⟩
 have h1 : s.toList.isEmpty = false := by simp [h0]
 have hs := pos_of_toList s h0
 by_cases h24 : (s.size : Int) ≤ 24
 · obtain ⟨R, hR⟩ : ∃ R : Bool, R = rW s s.size 0 := ⟨_, rfl⟩
   have hq : refWord s = R := by rw [refWord, ← hR]; simp [hs, show s.size ≤ 24 by omega]
   rw [hq]
   have HR := hid hR
   clear hq hR
   go_enter Tryz.func116, Tryz.ntmps116
   go_wp2_with fail
   go_loopw [3] (fun i wr => ∃ pos n : Nat, i = .int .i64 pos ∧ pos ≤ 28 ∧ s.size ≤ pos + n ∧ R = rW s n pos ∧ Below w.heap.size w wr) (fun i _ => 40 - (RowKit.intOf i).toNat)
   case atStart => exact ⟨0, s.size, rfl, by decide, by omega, HR.out, Below.refl _ _⟩
   case round =>
     obtain ⟨pos, n, rfl, hp28, hn, hrw, hbw⟩ := hrel
     by_cases hlt : pos < s.size
     · obtain ⟨m, rfl⟩ : ∃ m, n = m + 1 := ⟨n - 1, by omega⟩
       have hlt' : (pos : Int) < s.size := by omega
       obtain ⟨d, hd⟩ : ∃ d, d = (Utf8.decode s pos).2 := ⟨_, rfl⟩
       obtain ⟨d1, d4⟩ := dec_pos s pos
       rw [← hd] at d1 d4
       simp only [rW] at hrw
       rw [if_pos hlt, ← hd] at hrw
       obtain ⟨f1, f2⟩ := fst_tail s pos hlt
       have HW := hid hbw
       have hsl : (s.size : Int) - pos ≤ 24 := by omega
       cases hok : okB s pos
       · have hkr : okR s pos = false := by simp [okR, hok]
         rw [hok] at f1 f2
         simp only [Bool.false_eq_true, if_false] at f1 f2
         have HR2 : Hid (R = false) := hid (by rw [hrw, hkr]; rfl)
         have HF := hid (⟨f1, f2⟩ : _ ∧ _)
         clear hrw hd f1 f2 hok hkr hbw
         go_wp2_with (go_at_call 146; refine (ref_first _ _).mono ?_; rintro e w1 ⟨rfl, hb1⟩; rw [HF.out.1, HF.out.2]; have HB1 := hid (HW.out.trans (hb1.mono HW.out.size)); clear hb1)
         refine (ref_letter _ _).mono ?_
         rintro e w2 ⟨rfl, hb2⟩
         have HB2 := hid (HB1.out.trans (hb2.mono HB1.out.size)); clear hb2
         rw [show letB (-1) = false from by decide]
         by_cases hz : pos = 0
         · subst hz
           go_wp2_with fail
           go_ret
           exact ⟨by rw [HR2.out]; rfl, HB2.out⟩
         · have hzb : ((pos : Int) == 0) = false := beq_eq_false_iff_ne.2 (by omega)
           go_wp2_with (go_at_call 148; refine (ref_digit _ _).mono ?_; rintro e w3 ⟨rfl, hb3⟩; rw [show numB (-1) = false from by decide]; have HB3 := hid (HB2.out.trans (hb3.mono HB2.out.size)); clear hb3)
           go_ret
           exact ⟨by rw [HR2.out]; rfl, HB3.out⟩
       · rw [hok] at f1 f2
         simp only [if_true] at f1 f2
         rw [← hd] at f2
         obtain ⟨r, hr⟩ : ∃ r : Int, r = ((Utf8.decode s pos).1 : Int) := ⟨_, rfl⟩
         rw [← hr] at f1
         have hkr : okR s pos = (letB r || (!decide (pos = 0) && numB r)) := by simp [okR, hok, hr]
         rw [hkr] at hrw
         have HF := hid (⟨f1, f2⟩ : _ ∧ _)
         have HRW := hid hrw
         clear hrw hd f1 f2 hok hkr hbw hr
         go_wp2_with (go_at_call 146; refine (ref_first _ _).mono ?_; rintro e w1 ⟨rfl, hb1⟩; rw [HF.out.1, HF.out.2]; have HB1 := hid (HW.out.trans (hb1.mono HW.out.size)); clear hb1)
         refine (ref_letter _ _).mono ?_
         rintro e w2 ⟨rfl, hb2⟩
         have HB2 := hid (HB1.out.trans (hb2.mono HB1.out.size)); clear hb2
         cases hl : letB r
         · by_cases hz : pos = 0
           · subst hz
             have HR2 : Hid (R = false) := hid (by rw [HRW.out, hl]; simp)
             clear hl
             go_wp2_with fail
             go_ret
             exact ⟨by rw [HR2.out]; rfl, HB2.out⟩
           · have hzb : ((pos : Int) == 0) = false := beq_eq_false_iff_ne.2 (by omega)
             cases hnb : numB r
             · have HR2 : Hid (R = false) := hid (by rw [HRW.out, hl, hnb]; simp)
               have HNB := hid hnb
               clear hl hnb
               go_wp2_with (go_at_call 148; refine (ref_digit _ _).mono ?_; rintro e w3 ⟨rfl, hb3⟩; rw [HNB.out]; have HB3 := hid (HB2.out.trans (hb3.mono HB2.out.size)); clear hb3)
               go_ret
               exact ⟨by rw [HR2.out]; rfl, HB3.out⟩
             · have HR2 : Hid (R = rW s m (pos + d)) := hid (by rw [HRW.out, hl, hnb]; simp [hz])
               have HNB := hid hnb
               clear hl hnb
               go_wp2_with (go_at_call 148; refine (ref_digit _ _).mono ?_; rintro e w3 ⟨rfl, hb3⟩; rw [HNB.out]; have HB3 := hid (HB2.out.trans (hb3.mono HB2.out.size)); clear hb3)
               go_roundw
               case rel => exact ⟨pos + d, m, by go_num, by omega, by omega, HR2.out, HB3.out⟩
               case measure => simp [RowKit.intOf]; omega
         · have HR2 : Hid (R = rW s m (pos + d)) := hid (by rw [HRW.out, hl]; simp)
           clear hl
           go_wp2_with fail
           go_roundw
           case rel => exact ⟨pos + d, m, by go_num, by omega, by omega, HR2.out, HB2.out⟩
           case measure => simp [RowKit.intOf]; omega
     · have hge : ¬ ((pos : Int) < s.size) := by omega
       have HR2 : Hid (R = true) := hid (by rw [hrw]; exact rW_done s n pos (by omega))
       have HW := hid hbw
       clear hrw hbw
       go_wp2_with fail
       go_ret
       exact ⟨by rw [HR2.out]; rfl, HW.out⟩
 · have hq : refWord s = false := by simp [refWord, show ¬ s.size ≤ 24 by omega]
   rw [hq]; clear hq
   have h24' : 24 < (s.size : Int) := by omega
   clear h24
   go_enter Tryz.func116, Tryz.ntmps116
   go_wp2_with fail
   go_ret
   exact ⟨rfl, Below.refl _ _⟩
theorem dec_hi (s : ByteArray) (h : 128 ≤ (s.get! (0 + 0)).toNat) : 128 ≤ (Utf8.decode s 0).1 := by
 unfold Utf8.decode
 simp only []
 rw [if_neg (by omega)]
 split
 · split
   · simpa using ‹_›
   · decide
 split
 · split
   · rename_i g
     simp only [Bool.and_eq_true, decide_eq_true_eq, ge_iff_le] at g
     simp only []; omega
   · decide
 split
 · split
   · rename_i g
     simp only [Bool.and_eq_true, decide_eq_true_eq, ge_iff_le] at g
     simp only []; omega
   · decide
 · decide
theorem let_num (r : Int) : letB r = (!numB r && eitB r) := by
 have h : letB r = true → numB r = false := by
   simp only [letB, numB, Bool.or_eq_true, Bool.and_eq_true, decide_eq_true_eq, Bool.and_eq_false_iff, decide_eq_false_iff_not]
   omega
 unfold eitB
 cases h1 : letB r
 · cases numB r <;> rfl
 · rw [h h1]; rfl
theorem rW_all (s : ByteArray) : ∀ (n pos : Nat), 0 < pos → rW s n pos = (posFrom s n pos).all (fun p => okB s p && eitB ((Utf8.decode s p).1 : Int))
 | 0, _, _ => rfl
 | n + 1, pos, h => by
   simp only [rW, posFrom]
   split
   · rw [List.all_cons, rW_all s n _ (by have := dec_pos s pos; omega), okR]
     simp [show pos ≠ 0 by omega, eitB]
   · rfl
theorem pos_lt (s : ByteArray) : ∀ (n pos : Nat), ∀ p ∈ posFrom s n pos, p < s.size
 | 0, _, _, h => by simp [posFrom] at h
 | n + 1, pos, p, h => by
   simp only [posFrom] at h
   split at h
   · rcases List.mem_cons.1 h with rfl | h
     · assumption
     · exact pos_lt s n _ p h
   · simp at h
theorem while_all (s : ByteArray) (p : Int → Bool) : decide (whileE s p = s.size) = (posFrom s s.size 0).all (fun q => okB s q && p ((Utf8.decode s q).1 : Int)) := by
 unfold whileE
 cases hf : (posFrom s s.size 0).find? (stopB s p) with
 | none =>
   rw [List.find?_eq_none] at hf
   simp only [Option.getD_none, decide_true]
   symm
   rw [List.all_eq_true]
   intro q hq
   have := hf q hq
   simpa [stopB] using this
 | some q =>
   have hq := List.mem_of_find?_eq_some hf
   have hs := List.find?_some hf
   have hl := pos_lt s _ _ q hq
   simp only [Option.getD_some]
   rw [show decide (q = s.size) = false from decide_eq_false (by omega)]
   symm
   rw [← Bool.not_eq_true, List.all_eq_true]
   intro h
   have := h q hq
   unfold stopB at hs
   rw [this] at hs
   cases hs
theorem refWord_eq (s : ByteArray) : refWord s = wordB s := by
 unfold refWord wordB
 rw [while_all]
 have e1 : (!s.toList.isEmpty) = decide (0 < s.size) := by
   rw [← toList_len]
   cases s.toList <;> simp
 rw [e1, show decide ((s.size : Int) ≤ 24) = decide (s.size ≤ 24) from decide_eq_decide.2 (by omega)]
 by_cases hp : 0 < s.size
 · obtain ⟨m, hm⟩ : ∃ m, s.size = m + 1 := ⟨s.size - 1, by omega⟩
   have hkey : rW s s.size 0 = (!numB (firstR s) && (posFrom s s.size 0).all (fun q => okB s q && eitB ((Utf8.decode s q).1 : Int))) := by
     rw [hm]
     simp only [rW, posFrom]
     rw [if_pos hp, if_pos hp, List.all_cons, rW_all s m _ (by have := dec_pos s 0; omega)]
     have hr : okR s 0 = (!numB (firstR s) && (okB s 0 && eitB ((Utf8.decode s 0).1 : Int))) := by
       have hg : s.get! (0 + 0) = s[0]'hp := by
         show s.get! 0 = _
         simp [ByteArray.get!, getElem!_pos, hp]
         rfl
       have hk := (s[0]'hp).toNat_lt
       have hf : firstR s = ((s[0]'hp).toNat : Int) := by
         unfold firstR
         rw [dif_pos hp]
         unfold wrap32
         omega
       unfold okR
       simp only [decide_true, Bool.not_true, Bool.false_and, Bool.or_false]
       by_cases ha : (s[0]'hp).toNat < 128
       · have hd := decode_ascii s 0 hp ha
         rw [hd, hf, let_num]
         simp only []
         cases okB s 0 <;> cases numB ((s[0]'hp).toNat : Int) <;> rfl
       · have hd := dec_hi s (by rw [hg]; omega)
         have n1 : numB (firstR s) = false := by rw [hf]; simp [numB]; omega
         have n2 : numB ((Utf8.decode s 0).1 : Int) = false := by simp [numB]; omega
         rw [n1, let_num, n2]
         cases okB s 0 <;> rfl
     rw [hr]
     simp only [Bool.and_assoc]
   rw [hkey]
   simp only [Bool.and_assoc]
 · simp [hp]
end Yd


namespace Yd
open Go Go.RowKit Go.Proofs
attribute [local go_sem] Oper.semAt_some

theorem r_Is (n : Int) (m : Nat) (w : World) : Calls Tryz.prog 86 #[.int .i64 n, .int .i64 m] w (Ret (.bool (toldB n m)) w) := by
 by_cases h1 : 0 ≤ n <;> by_cases h2 : n < m
 all_goals
   go_enter Tryz.func86, Tryz.ntmps86
   go_wp2_with fail
   go_ret
   exact ⟨by simp [toldB, h1, h2], Below.refl _ _⟩
theorem r_Level (n : Int) (w : World) : Calls Tryz.prog 117 #[.int .i64 n] w (Ret (.bool (levelB n)) w) := by
 by_cases h1 : 1 ≤ n <;> by_cases h2 : n ≤ 4
 all_goals
   go_enter Tryz.func117, Tryz.ntmps117
   go_wp2_with fail
   go_ret
   exact ⟨by simp [levelB, h1, h2], Below.refl _ _⟩
theorem r_Version (v : Ver) (m : Nat) (w : World) : Calls Tryz.prog 118 #[.agg #[.int .i64 v.t, .int .i64 v.k], .int .i64 m] w (Ret (.bool (verB v m)) w) := by
 have hb0 := belowA (Below.refl w.heap.size w) (.cells #[.int .i64 v.t, .int .i64 v.k] 46)
 have hz := eqInVer v ⟨0, 0⟩
 by_cases h0 : v = ⟨0, 0⟩
 · have hv : verB v m = true := by rw [h0]; rfl
   rw [decide_eq_true h0] at hz
   rw [hv]
   have HB := hid hb0
   clear hv h0 hb0
   obtain ⟨vt, vk⟩ := v
   go_enter Tryz.func118, Tryz.ntmps118
   go_wp2_with fail
   go_ret
   exact ⟨rfl, HB.out⟩
 · have hv : verB v m = (toldB v.t m && (decide (1 ≤ v.k) && decide (v.k ≤ 999))) := by
     obtain ⟨vt, vk⟩ := v
     unfold verB
     simp only
     split
     · rename_i hk
       subst hk
       have : vt ≠ 0 := fun e => h0 (by rw [e])
       simp [this]
     · rw [Bool.and_assoc]; congr 1
   rw [decide_eq_false h0] at hz
   rw [hv]
   have HB := hid hb0
   clear hv h0 hb0
   obtain ⟨vt, vk⟩ := v
   have HI := hid (fun W => r_Is vt m W)
   cases hti : toldB vt m
   · have HT := hid hti
     clear hti
     go_enter Tryz.func118, Tryz.ntmps118
     go_wp2_with (go_at_call 86; refine (HI.out _).mono ?_; rintro e w1 ⟨rfl, hb1⟩; rw [HT.out])
     go_ret
     exact ⟨by simp, HB.out.trans (hb1.mono (by simp))⟩
   · have HT := hid hti
     clear hti
     by_cases h1 : 1 ≤ vk <;> by_cases h2 : vk ≤ 999
     all_goals try (exfalso; omega)
     all_goals
       go_enter Tryz.func118, Tryz.ntmps118
       go_wp2_with (go_at_call 86; refine (HI.out _).mono ?_; rintro e w1 ⟨rfl, hb1⟩; rw [HT.out]; have hx1 := (Bx.new w #[.int .i64 vt, .int .i64 vk] 46).keep hb1; have hc1 := hx1.1; have hf1 := hx1.2.1; have hl1 := hx1.2.2)
       go_ret
       exact ⟨by simp [h1, h2], HB.out.trans (hb1.mono (by simp))⟩
theorem r_Word (s : Bs) (w : World) : Calls Tryz.prog 116 #[.string ⟨s.toArray⟩] w (Ret (.bool (wordB ⟨s.toArray⟩)) w) := by rw [← refWord_eq]; exact ref_Word _ w
theorem r_Names (a : Option Addr) (n c : Nat) (ns : List Bs) (m : Nat) (w : World) (hr : Row w 1 encStr a n c ns) :
   Calls Tryz.prog 84 #[.slice a n c, .int .i64 m] w (Ret (.bool (nameB ns && decide (ns.length ≤ m))) w) := by
 have hn := hr.le
 have HR := hid hr
 obtain ⟨R, hR⟩ : ∃ R : Bool, R = (nameB ns && decide (ns.length ≤ m)) := ⟨_, rfl⟩
 have HF := hid hR
 rw [← hR]
 have hcap := hr.cap
 clear hr hR
 go_enter Tryz.func84, Tryz.ntmps84
 go_wp2_with fail
 go_loopw [11] (fun i wr => ∃ k : Nat, k ≤ n ∧ i = .int .i64 k ∧ (ns.take k).all (fun s => wordB ⟨s.toArray⟩) = true ∧ (ns.take k).Nodup ∧ Below w.heap.size w wr) (fun i _ => n - (RowKit.intOf i).toNat)
 case atStart => exact ⟨0, Nat.zero_le _, rfl, rfl, List.nodup_nil, Below.refl _ _⟩
 case round =>
   obtain ⟨k, hk, rfl, hall, hnd, hb⟩ := hrel
   by_cases hlt : k < n
   · obtain ⟨x, b, o, hx, rfl, hc⟩ := HR.out.at_ hlt
     have hkc : (k : Int) ≤ (c : Int) := by omega
     have h0 := bget hb rfl (hc 0 _ rfl)
     simp only [Nat.mul_one, Nat.add_zero] at h0
     have HX := hid hx; have HA := hid hall; have HND := hid hnd; have HB := hid hb
     clear hc hx hall hnd hb
     cases hw : wordB ⟨x.toArray⟩
     · have HW := hid hw
       have HQ : Hid (R = false) := hid (by rw [HF.out, nameB_no1 HX.out hw]; rfl)
       clear hw
       go_wp2_with (go_at_call 116; refine (r_Word x wr).mono ?_; rintro e w1 ⟨rfl, hb1⟩; rw [HW.out])
       go_ret
       exact ⟨by rw [HQ.out]; rfl, HB.out.trans (hb1.mono HB.out.size)⟩
     · have HW := hid hw
       clear hw
       go_wp2_with (go_at_call 116; refine (r_Word x wr).mono ?_; rintro e w1 ⟨rfl, hb1⟩; rw [HW.out])
       have HB1 := hid (HB.out.trans (hb1.mono HB.out.size))
       clear hb1
       go_loopw [23] (fun i wv => ∃ j : Nat, j ≤ k ∧ i = .int .i64 j ∧ x ∉ ns.take j ∧ Below w.heap.size w wv) (fun i _ => k - (RowKit.intOf i).toNat)
       case atStart => exact ⟨0, Nat.zero_le _, rfl, by simp, HB1.out⟩
       case round =>
         obtain ⟨j, hj, rfl, hnin, hbv⟩ := hrel
         by_cases hlj : j < k
         · obtain ⟨y, b', o', hy, hab, hcy⟩ := HR.out.at_ (i := j) (by omega)
           injection hab with hab
           injection hab with e1 e2
           subst e1 e2
           have hy0 := bget hbv rfl (hcy 0 _ rfl)
           simp only [Nat.mul_one, Nat.add_zero] at hy0
           have HY := hid hy; have HNI := hid hnin; have HBV := hid hbv
           clear hy hnin hbv hcy
           by_cases he : x = y
           · subst he
             have HQ : Hid (R = false) := hid (by
               rw [HF.out, nameB_no2 HX.out (decide_eq_true (List.mem_of_getElem? (i := j) (by rw [List.getElem?_take, if_pos hlj]; exact HY.out)))]; rfl)
             go_wp2_with fail
             go_ret
             exact ⟨by rw [HQ.out]; rfl, HBV.out⟩
           · have ht : (x == y) = false := by simpa using he
             have HE := hid he
             clear he
             go_wp2_with fail
             go_roundw
             case rel => exact ⟨j + 1, by omega, by go_num, by rw [List.take_add_one, HY.out]; simp [HNI.out, HE.out], HBV.out⟩
             case measure => simp [RowKit.intOf]; omega
         · obtain rfl : j = k := by omega
           have HNI := hid hnin; have HBV := hid hbv
           clear hnin hbv
           go_wp2_with fail
           go_roundw
           case rel =>
             refine ⟨j + 1, by omega, by go_num, ?_, ?_, HBV.out⟩
             · rw [List.take_add_one, HX.out, List.all_append, HA.out]; simp [HW.out]
             · rw [List.take_add_one, HX.out]
               refine List.nodup_append.2 ⟨HND.out, by simp, fun p hp q hq e => ?_⟩
               simp at hq
               subst hq e
               exact HNI.out hp
           case measure => simp [RowKit.intOf]; omega
   · obtain rfl : k = n := by omega
     have htk : ns.take k = ns := List.take_of_length_le (by rw [HR.out.len]; exact Nat.le_refl _)
     rw [htk] at hall hnd
     have HQ : Hid (R = decide (k ≤ m)) := hid (by rw [HF.out, nameB_of hall hnd, Bool.true_and, HR.out.len])
     have HB := hid hb
     clear hall hnd hb htk
     go_wp2_with fail
     go_ret
     exact ⟨by rw [HQ.out]; rfl, HB.out⟩
theorem r_Ts (h : HC) (a : Option Addr) (n c : Nat) (ts : List Int) (w : World) (hr : Row w 1 encInt a n c ts) :
   Calls Tryz.prog 87 #[valH h, .slice a n c] w (Ret (.bool (allowB h.t.n ts)) w) := by
 have hn := hr.le
 have HR := hid hr
 obtain ⟨R, hR⟩ : ∃ R : Bool, R = allowB h.t.n ts := ⟨_, rfl⟩
 have HF := hid hR
 rw [← hR]
 have HBX := hid (Bx.new w (cellsH h) 28)
 clear hr hR
 go_enter Tryz.func87, Tryz.ntmps87
 go_wp2_with fail
 go_loopw [9] (fun i wr => ∃ k : Nat, k ≤ n ∧ i = .int .i64 k ∧ (ts.take k).all (fun x => toldB x h.t.n) = true ∧ Below (w.heap.size + 1) (w.alloc (.cells (cellsH h) 28)) wr) (fun i _ => n - (RowKit.intOf i).toNat)
 case atStart => exact ⟨0, Nat.zero_le _, rfl, rfl, Below.refl _ _⟩
 case round =>
   obtain ⟨k, hk, rfl, hall, hb⟩ := hrel
   have hbw : Below w.heap.size w wr := (belowA (Below.refl _ _) _).trans (hb.mono (by omega))
   have hbx := HBX.out.below hb (by simp)
   have hcx := hbx.1; have hfx := hbx.2.1; have hlx := hbx.2.2
   by_cases hlt : k < n
   · obtain ⟨x, b, o, hx, rfl, hc⟩ := HR.out.at_ hlt
     have h0 := bget hbw rfl (hc 0 _ rfl)
     simp only [Nat.mul_one, Nat.add_zero] at h0
     have HX := hid hx; have HA := hid hall; have HB := hid hb; have HBW := hid hbw
     clear hc hx hall hb hbw hbx
     cases hw : toldB x h.t.n
     · have HW := hid hw
       have HQ : Hid (R = false) := hid (by
         rw [HF.out, allowB]
         have : ts.all (fun x => toldB x h.t.n) = false := by
           rw [← Bool.not_eq_true, List.all_eq_true]
           intro hh
           have := hh x (List.mem_of_getElem? HX.out)
           rw [hw] at this; cases this
         rw [this, Bool.and_false])
       clear hw
       go_wp2_with (go_at_call 86; refine (r_Is x h.t.n wr).mono ?_; rintro e w1 ⟨rfl, hb1⟩; rw [HW.out])
       go_ret
       exact ⟨by rw [HQ.out]; rfl, HBW.out.trans (hb1.mono HBW.out.size)⟩
     · have HW := hid hw
       clear hw
       go_wp2_with (go_at_call 86; refine (r_Is x h.t.n wr).mono ?_; rintro e w1 ⟨rfl, hb1⟩; rw [HW.out])
       have HB1 := hid (HB.out.trans (hb1.mono (by have := HB.out.size; simpa using this)))
       clear hb1 hcx hfx hlx
       go_roundw
       case rel => exact ⟨k + 1, by omega, by go_num, by rw [List.take_add_one, HX.out, List.all_append, HA.out]; simp [HW.out], HB1.out⟩
       case measure => simp [RowKit.intOf]; omega
   · obtain rfl : k = n := by omega
     have htk : ts.take k = ts := List.take_of_length_le (by rw [HR.out.len]; exact Nat.le_refl _)
     rw [htk] at hall
     have HQ : Hid (R = decide ((k : Int) ≤ 300)) := hid (by rw [HF.out, allowB, hall, Bool.and_true, HR.out.len]; exact decide_eq_decide.2 (by omega))
     have HBW := hid hbw
     clear hall hb htk hbw hbx hcx hfx hlx
     go_wp2_with fail
     go_ret
     exact ⟨by rw [HQ.out]; rfl, HBW.out⟩
end Yd
