import Derived.Test.YthdpangjphphjaaGreatDoorShaped
import Derived.Test.YthdpangjphphjaaGreatDoorRFffd
import Derived.Laws.RangeString
import Derived.Lib.MapLaws
import Derived.Test.YthdpangjphphjaaGreatDoorProg
import Derived.Test.YthdpangjphphjaaGreatDoorOrdIn
import Derived.Test.YthdpangjphphjaaGreatDoorOf
set_option maxRecDepth 200000
set_option maxHeartbeats 8000000
namespace Yd
open Go Go.RowKit Go.Proofs
attribute [local go_sem] Oper.semAt_some

theorem ref_letter (r : Int) (w : World) : Calls Tryz.prog 99 #[.int .i32 r] w (Ret (.bool (letB r)) w) := by
 by_cases h0 : r = 95
 · subst h0
   go_enter Tryz.func99, Tryz.ntmps99
   go_wp2_with fail
   go_ret
   exact ⟨by simp [letB], Below.refl _ _⟩
 have hb : (r == 95) = false := beq_eq_false_iff_ne.2 h0
 by_cases h1 : 97 ≤ r <;> by_cases h2 : r ≤ 122 <;> by_cases h3 : 65 ≤ r <;> by_cases h4 : r ≤ 90 <;> by_cases h5 : 128 ≤ r
 all_goals first
   | (exfalso; omega)
   | (go_enter Tryz.func99, Tryz.ntmps99
      go_wp2_with fail
      go_ret
      exact ⟨by simp [letB, h0, h1, h2, h3, h4, h5], Below.refl _ _⟩)
theorem ref_digit (r : Int) (w : World) : Calls Tryz.prog 97 #[.int .i32 r] w (Ret (.bool (numB r)) w) := by
 by_cases h1 : 48 ≤ r <;> by_cases h2 : r ≤ 57
 all_goals
   go_enter Tryz.func97, Tryz.ntmps97
   go_wp2_with fail
   go_ret
   exact ⟨by simp [numB, h1, h2], Below.refl _ _⟩
def fstR (s : ByteArray) : Int := if 0 < s.size then (if okB s 0 = true then ((Utf8.decode s 0).1 : Int) else -1) else -1
def fstN (s : ByteArray) : Int := if 0 < s.size then (if okB s 0 = true then ((Utf8.decode s 0).2 : Int) else 1) else 0
theorem run_next_str (w : World) (s : ByteArray) (ty : TypeId) (h : 0 < s.size) :
   (Instr.next (.pointer (some ⟨w.heap.size, 0, none⟩)) true ty).run Tryz.prog (w.iter s 0) = .ok (.tuple #[.bool true, .int .i64 0, .int .i32 ((Utf8.decode s 0).1 : Int)]) (w.iter s (Utf8.decode s 0).2) := by
 simp only [Instr.next, getObj, setObj, Sem.run_bind, Sem.run, World.iter_heap, Result.andThen, h, if_true, World.iter_set]
 simp [goInt]
theorem dec_shape (s : ByteArray) (i : Nat) : Utf8.decode s i = (65533, 1) ∨ ((Utf8.decode s i).1 < 128 ∧ (Utf8.decode s i).2 = 1) ∨ (128 ≤ (Utf8.decode s i).1 ∧ (Utf8.decode s i).1 < 2048 ∧ (Utf8.decode s i).2 = 2) ∨
   (2048 ≤ (Utf8.decode s i).1 ∧ (Utf8.decode s i).1 < 65536 ∧ Utf8.valid ((Utf8.decode s i).1 : Int) = true ∧ (Utf8.decode s i).2 = 3) ∨ (65536 ≤ (Utf8.decode s i).1 ∧ Utf8.valid ((Utf8.decode s i).1 : Int) = true ∧ (Utf8.decode s i).2 = 4) := by
 unfold Utf8.decode
 simp only []
 have k0 := (s.get! (i + 0)).toNat_lt
 split
 · right; left; simp; omega
 split
 · split
   · right; right; left; refine ⟨by simpa using ‹_›, ?_, rfl⟩; simp only []; omega
   · left; rfl
 split
 · split
   · rename_i h
     simp only [Bool.and_eq_true, decide_eq_true_eq, ge_iff_le] at h
     right; right; right; left; refine ⟨h.1, ?_, h.2, rfl⟩; simp only []; omega
   · left; rfl
 split
 · split
   · rename_i h
     simp only [Bool.and_eq_true, decide_eq_true_eq, ge_iff_le] at h
     right; right; right; right; exact ⟨h.1, h.2, rfl⟩
   · left; rfl
 · left; rfl
theorem enc_size {s : ByteArray} {i : Nat} (h : okB s i = true) : (Utf8.encode ((Utf8.decode s i).1 : Int)).size = (Utf8.decode s i).2 := by
 unfold okB at h
 rcases dec_shape s i with e | ⟨e1, e2⟩ | ⟨e1, e2, e3⟩ | ⟨e1, e2, e3, e4⟩ | ⟨e1, e2, e3⟩
 · rw [e] at h; simp at h
 · have hv : Utf8.valid ((Utf8.decode s i).1 : Int) = true := by simp [Utf8.valid]; omega
   unfold Utf8.encode
   simp only [hv, if_true, Int.toNat_natCast]
   rw [if_pos (by omega), e2]; rfl
 · have hv : Utf8.valid ((Utf8.decode s i).1 : Int) = true := by simp [Utf8.valid]; omega
   unfold Utf8.encode
   simp only [hv, if_true, Int.toNat_natCast]
   rw [if_neg (by omega), if_pos (by omega), e3]; rfl
 · unfold Utf8.encode
   simp only [e3, if_true, Int.toNat_natCast]
   rw [if_neg (by omega), if_neg (by omega), if_pos (by omega), e4]; rfl
 · unfold Utf8.encode
   simp only [e2, if_true, Int.toNat_natCast]
   rw [if_neg (by omega), if_neg (by omega), if_neg (by omega), e3]; rfl
theorem dec_three (s : ByteArray) (h : (Utf8.decode s 0).2 = 3) : 3 ≤ s.size := by
 unfold Utf8.decode at h
 simp only [] at h
 split at h
 · simp at h
 split at h
 · split at h <;> simp at h
 split at h
 · rename_i g
   simp only [Bool.and_eq_true, decide_eq_true_eq] at g
   omega
 split at h
 · split at h <;> simp at h
 · simp at h
theorem ref_first (s : ByteArray) (w : World) : Calls Tryz.prog 96 #[.string s] w fun e w' => e = .returned (.tuple #[.int .i32 (fstR s), .int .i64 (fstN s)]) ∧ Below w.heap.size w w' := by
 by_cases hp : 0 < s.size
 · obtain ⟨r, hr⟩ : ∃ r : Int, r = ((Utf8.decode s 0).1 : Int) := ⟨_, rfl⟩
   have hnx := run_next_str w s 0 hp
   rw [← hr] at hnx
   have HBW : Hid (Below w.heap.size w (w.iter s (Utf8.decode s 0).2)) := hid ((Below.refl _ _).alloc (Nat.le_refl _) _)
   by_cases h5 : r = 65533
   · subst h5
     have hr' : (Utf8.decode s 0).1 = 65533 := by omega
     by_cases h3 : (Utf8.decode s 0).2 = 3
     · have hsz := dec_three s h3
       have hext := (fffd s hsz hr').1 h3
       have hok : okB s 0 = true := by unfold okB; rw [hr', h3]; decide
       have he := enc_size hok
       rw [← hr, h3] at he
       have HF : Hid (fstR s = 65533 ∧ fstN s = 3) := hid (by simp [fstR, fstN, hp, hok, hr', h3])
       have hlt : ¬ ((s.size : Int) < 3) := by omega
       clear hr hok hr' h3 hp
       go_enter Tryz.func96, Tryz.ntmps96
       go_wp2_with fail
       go_loopw [3] (fun v wr => v = .int .i64 0 ∧ wr = w.iter s 0) (fun _ _ => 0)
       case atStart => exact ⟨rfl, rfl⟩
       case round =>
         obtain ⟨rfl, rfl⟩ := hrel
         go_wp2_with fail
         go_ret2
         refine ⟨?_, HBW.out⟩
         rw [HF.out.1, HF.out.2]
         rfl
     · have h1 : (Utf8.decode s 0).2 = 1 := by
         rcases dec_shape s 0 with e | ⟨e1, e2⟩ | ⟨e1, e2, e3⟩ | ⟨e1, e2, e3, e4⟩ | ⟨e1, e2, e3⟩
         · rw [e]
         · exact e2
         · omega
         · omega
         · omega
       have hok : okB s 0 = false := by unfold okB; rw [hr', h1]; decide
       have HF : Hid (fstR s = -1 ∧ fstN s = 1) := hid (by simp [fstR, fstN, hp, hok])
       by_cases hsz : (s.size : Int) < 3
       · skip
         clear hr hok hr' h3 h1 hp
         go_enter Tryz.func96, Tryz.ntmps96
         go_wp2_with fail
         go_loopw [3] (fun v wr => v = .int .i64 0 ∧ wr = w.iter s 0) (fun _ _ => 0)
         case atStart => exact ⟨rfl, rfl⟩
         case round =>
           obtain ⟨rfl, rfl⟩ := hrel
           go_wp2_with fail
           go_ret2
           refine ⟨?_, HBW.out⟩
           rw [HF.out.1, HF.out.2]
           rfl
       · have hext : ¬ s.extract 0 3 = ⟨#[239, 191, 189]⟩ := fun e => h3 ((fffd s (by omega) hr').2 e)
         have hszn : 3 ≤ s.size := by omega
         have hexb := ext_beq s hszn hext
         clear hr hok hr' h3 h1 hp
         go_enter Tryz.func96, Tryz.ntmps96
         go_wp2_with fail
         go_loopw [3] (fun v wr => v = .int .i64 0 ∧ wr = w.iter s 0) (fun _ _ => 0)
         case atStart => exact ⟨rfl, rfl⟩
         case round =>
           obtain ⟨rfl, rfl⟩ := hrel
           go_wp2_with fail
           go_ret2
           refine ⟨?_, HBW.out⟩
           rw [HF.out.1, HF.out.2]
           rfl
   · have hb : (r == 65533) = false := beq_eq_false_iff_ne.2 h5
     have hok : okB s 0 = true := by unfold okB; rw [← hr, hb]; rfl
     have he := enc_size hok
     rw [← hr] at he
     have HF : Hid (fstR s = r ∧ fstN s = ((Utf8.decode s 0).2 : Int)) := hid (by simp [fstR, fstN, hp, hok, hr])
     have HE := hid he
     clear hr hok he hp
     go_enter Tryz.func96, Tryz.ntmps96
     go_wp2_with fail
     go_loopw [3] (fun v wr => v = .int .i64 0 ∧ wr = w.iter s 0) (fun _ _ => 0)
     case atStart => exact ⟨rfl, rfl⟩
     case round =>
       obtain ⟨rfl, rfl⟩ := hrel
       go_wp2_with fail
       go_ret2
       refine ⟨?_, HBW.out⟩
       rw [HF.out.1, HF.out.2]
       rw [← HE.out]; rfl
 · have hz : s.size = 0 := by omega
   have hnx : (Instr.next (.pointer (some ⟨w.heap.size, 0, none⟩)) true 0).run Tryz.prog (w.iter s 0) = .ok (.tuple #[.bool false]) (w.iter s 0) := run_next_end w s 0 0 hp
   have HF : Hid (fstR s = -1 ∧ fstN s = 0) := hid (by simp [fstR, fstN, hz])
   have HBW : Hid (Below w.heap.size w (w.iter s 0)) := hid ((Below.refl _ _).alloc (Nat.le_refl _) _)
   clear hz hp
   go_enter Tryz.func96, Tryz.ntmps96
   go_wp2_with fail
   go_loopw [3] (fun v wr => v = .int .i64 0 ∧ wr = w.iter s 0) (fun _ _ => 0)
   case atStart => exact ⟨rfl, rfl⟩
   case round =>
     obtain ⟨rfl, rfl⟩ := hrel
     go_wp2_with fail
     go_ret2
     refine ⟨?_, HBW.out⟩
     rw [HF.out.1, HF.out.2]
     rfl
def okR (s : ByteArray) (pos : Nat) : Bool := okB s pos && (letB ((Utf8.decode s pos).1 : Int) || (!decide (pos = 0) && numB ((Utf8.decode s pos).1 : Int)))
def rW (s : ByteArray) : Nat → Nat → Bool
 | 0, _ => true
 | n + 1, pos => if pos < s.size then okR s pos && rW s n (pos + (Utf8.decode s pos).2) else true
def refWord (s : ByteArray) : Bool := decide (0 < s.size) && decide (s.size ≤ 24) && rW s s.size 0
theorem dec_pos (s : ByteArray) (i : Nat) : 1 ≤ (Utf8.decode s i).2 ∧ (Utf8.decode s i).2 ≤ 4 := by
 rcases dec_shape s i with e | ⟨e1, e2⟩ | ⟨e1, e2, e3⟩ | ⟨e1, e2, e3, e4⟩ | ⟨e1, e2, e3⟩
 · rw [e]; decide
 · omega
 · omega
 · omega
 · omega
theorem rW_done (s : ByteArray) (n pos : Nat) (h : s.size ≤ pos) : rW s n pos = true := by
 cases n with
 | zero => rfl
 | succ n => simp only [rW]; rw [if_neg (by omega)]
theorem tail_ok (s : ByteArray) (pos : Nat) : okB (s.extract pos s.size) 0 = okB s pos := by unfold okB; rw [Lib.tail_decode, Nat.add_zero]
theorem fst_tail (s : ByteArray) (pos : Nat) (h : pos < s.size) : fstR (s.extract pos s.size) = (if okB s pos = true then ((Utf8.decode s pos).1 : Int) else -1) ∧ fstN (s.extract pos s.size) = (if okB s pos = true then ((Utf8.decode s pos).2 : Int) else 1) := by
 have hp : 0 < (s.extract pos s.size).size := by rw [Lib.tail_size]; omega
 unfold fstR fstN
 rw [if_pos hp, if_pos hp, tail_ok, Lib.tail_decode, Nat.add_zero]
 exact ⟨rfl, rfl⟩
theorem loop_len (s : ByteArray) : ∀ (n i : Nat) (acc : List UInt8), s.size - i = n → (ByteArray.toList.loop s i acc).length = acc.length + n
 | 0, i, acc, h => by rw [ByteArray.toList.loop, if_neg (by omega)]; simp
 | n + 1, i, acc, h => by rw [ByteArray.toList.loop, if_pos (by omega), loop_len s n (i + 1) _ (by omega)]; simp; omega
theorem toList_len (s : ByteArray) : s.toList.length = s.size := by
 unfold ByteArray.toList
 rw [loop_len s s.size 0 [] (by omega)]; simp
theorem ref_Word (s : ByteArray) (w : World) : Calls Tryz.prog 41 #[.string s] w (Ret (.bool (refWord s)) w) := by
 by_cases h0 : s.toList = []
 · have hz : ¬ 0 < s.size := by rw [← toList_len, h0]; simp
   have hq : refWord s = false := by simp [refWord, hz]
   rw [hq]; clear hq hz
   go_enter Tryz.func41, Tryz.ntmps41
   go_wp2_with fail
   go_ret
   exact ⟨rfl, Below.refl _ _⟩
 have h1 : s.toList.isEmpty = false := by simp [h0]
 have hs := pos_of_toList s h0
 by_cases h24 : (s.size : Int) ≤ 24
 · obtain ⟨R, hR⟩ : ∃ R : Bool, R = rW s s.size 0 := ⟨_, rfl⟩
   have hq : refWord s = R := by rw [refWord, ← hR]; simp [hs, show s.size ≤ 24 by omega]
   rw [hq]
   have HR := hid hR
   clear hq hR
   go_enter Tryz.func41, Tryz.ntmps41
   go_wp2_with fail
   go_loopw [3] (fun i wr => ∃ pos n : Nat, i = .int .i64 pos ∧ pos ≤ 28 ∧ s.size ≤ pos + n ∧ R = rW s n pos ∧ Below w.heap.size w wr) (fun i _ => 40 - (RowKit.intOf i).toNat)
   case atStart => exact ⟨0, s.size, rfl, by decide, by omega, HR.out, Below.refl _ _⟩
   case round =>
     obtain ⟨pos, n, rfl, hp28, hn, hrw, hbw⟩ := hrel
     by_cases hlt : pos < s.size
     · obtain ⟨m, rfl⟩ : ∃ m, n = m + 1 := ⟨n - 1, by omega⟩
       have hlt' : (pos : Int) < s.size := by omega
       obtain ⟨d, hd⟩ : ∃ d, d = (Utf8.decode s pos).2 := ⟨_, rfl⟩
       obtain ⟨d1, d4⟩ := dec_pos s pos
       rw [← hd] at d1 d4
       simp only [rW] at hrw
       rw [if_pos hlt, ← hd] at hrw
       obtain ⟨f1, f2⟩ := fst_tail s pos hlt
       have HW := hid hbw
       have hsl : (s.size : Int) - pos ≤ 24 := by omega
       cases hok : okB s pos
       · have hkr : okR s pos = false := by simp [okR, hok]
         rw [hok] at f1 f2
         simp only [Bool.false_eq_true, if_false] at f1 f2
         have HR2 : Hid (R = false) := hid (by rw [hrw, hkr]; rfl)
         have HF := hid (⟨f1, f2⟩ : _ ∧ _)
         clear hrw hd f1 f2 hok hkr hbw
         go_wp2_with (go_at_call 96; refine (ref_first _ _).mono ?_; rintro e w1 ⟨rfl, hb1⟩; rw [HF.out.1, HF.out.2]; have HB1 := hid (HW.out.trans (hb1.mono HW.out.size)); clear hb1)
         refine (ref_letter _ _).mono ?_
         rintro e w2 ⟨rfl, hb2⟩
         have HB2 := hid (HB1.out.trans (hb2.mono HB1.out.size)); clear hb2
         rw [show letB (-1) = false from by decide]
         by_cases hz : pos = 0
         · subst hz
           go_wp2_with fail
           go_ret
           exact ⟨by rw [HR2.out]; rfl, HB2.out⟩
         · have hzb : ((pos : Int) == 0) = false := beq_eq_false_iff_ne.2 (by omega)
           go_wp2_with (go_at_call 97; refine (ref_digit _ _).mono ?_; rintro e w3 ⟨rfl, hb3⟩; rw [show numB (-1) = false from by decide]; have HB3 := hid (HB2.out.trans (hb3.mono HB2.out.size)); clear hb3)
           go_ret
           exact ⟨by rw [HR2.out]; rfl, HB3.out⟩
       · rw [hok] at f1 f2
         simp only [if_true] at f1 f2
         rw [← hd] at f2
         obtain ⟨r, hr⟩ : ∃ r : Int, r = ((Utf8.decode s pos).1 : Int) := ⟨_, rfl⟩
         rw [← hr] at f1
         have hkr : okR s pos = (letB r || (!decide (pos = 0) && numB r)) := by simp [okR, hok, hr]
         rw [hkr] at hrw
         have HF := hid (⟨f1, f2⟩ : _ ∧ _)
         have HRW := hid hrw
         clear hrw hd f1 f2 hok hkr hbw hr
         go_wp2_with (go_at_call 96; refine (ref_first _ _).mono ?_; rintro e w1 ⟨rfl, hb1⟩; rw [HF.out.1, HF.out.2]; have HB1 := hid (HW.out.trans (hb1.mono HW.out.size)); clear hb1)
         refine (ref_letter _ _).mono ?_
         rintro e w2 ⟨rfl, hb2⟩
         have HB2 := hid (HB1.out.trans (hb2.mono HB1.out.size)); clear hb2
         cases hl : letB r
         · by_cases hz : pos = 0
           · subst hz
             have HR2 : Hid (R = false) := hid (by rw [HRW.out, hl]; simp)
             clear hl
             go_wp2_with fail
             go_ret
             exact ⟨by rw [HR2.out]; rfl, HB2.out⟩
           · have hzb : ((pos : Int) == 0) = false := beq_eq_false_iff_ne.2 (by omega)
             cases hnb : numB r
             · have HR2 : Hid (R = false) := hid (by rw [HRW.out, hl, hnb]; simp)
               have HNB := hid hnb
               clear hl hnb
               go_wp2_with (go_at_call 97; refine (ref_digit _ _).mono ?_; rintro e w3 ⟨rfl, hb3⟩; rw [HNB.out]; have HB3 := hid (HB2.out.trans (hb3.mono HB2.out.size)); clear hb3)
               go_ret
               exact ⟨by rw [HR2.out]; rfl, HB3.out⟩
             · have HR2 : Hid (R = rW s m (pos + d)) := hid (by rw [HRW.out, hl, hnb]; simp [hz])
               have HNB := hid hnb
               clear hl hnb
               go_wp2_with (go_at_call 97; refine (ref_digit _ _).mono ?_; rintro e w3 ⟨rfl, hb3⟩; rw [HNB.out]; have HB3 := hid (HB2.out.trans (hb3.mono HB2.out.size)); clear hb3)
               go_roundw
               case rel => exact ⟨pos + d, m, by go_num, by omega, by omega, HR2.out, HB3.out⟩
               case measure => simp [RowKit.intOf]; omega
         · have HR2 : Hid (R = rW s m (pos + d)) := hid (by rw [HRW.out, hl]; simp)
           clear hl
           go_wp2_with fail
           go_roundw
           case rel => exact ⟨pos + d, m, by go_num, by omega, by omega, HR2.out, HB2.out⟩
           case measure => simp [RowKit.intOf]; omega
     · have hge : ¬ ((pos : Int) < s.size) := by omega
       have HR2 : Hid (R = true) := hid (by rw [hrw]; exact rW_done s n pos (by omega))
       have HW := hid hbw
       clear hrw hbw
       go_wp2_with fail
       go_ret
       exact ⟨by rw [HR2.out]; rfl, HW.out⟩
 · have hq : refWord s = false := by simp [refWord, show ¬ s.size ≤ 24 by omega]
   rw [hq]; clear hq
   have h24' : 24 < (s.size : Int) := by omega
   clear h24
   go_enter Tryz.func41, Tryz.ntmps41
   go_wp2_with fail
   go_ret
   exact ⟨rfl, Below.refl _ _⟩
theorem dec_hi0 (s : ByteArray) (h : 128 ≤ (s.get! (0 + 0)).toNat) : 128 ≤ (Utf8.decode s 0).1 := by
 unfold Utf8.decode
 simp only []
 rw [if_neg (by omega)]
 split
 · split
   · simpa using ‹_›
   · decide
 split
 · split
   · rename_i g
     simp only [Bool.and_eq_true, decide_eq_true_eq, ge_iff_le] at g
     simp only []; omega
   · decide
 split
 · split
   · rename_i g
     simp only [Bool.and_eq_true, decide_eq_true_eq, ge_iff_le] at g
     simp only []; omega
   · decide
 · decide
theorem let_num (r : Int) : letB r = (!numB r && eitB r) := by
 have h : letB r = true → numB r = false := by
   simp only [letB, numB, Bool.or_eq_true, Bool.and_eq_true, decide_eq_true_eq, Bool.and_eq_false_iff, decide_eq_false_iff_not]
   omega
 unfold eitB
 cases h1 : letB r
 · cases numB r <;> rfl
 · rw [h h1]; rfl
theorem rW_all (s : ByteArray) : ∀ (n pos : Nat), 0 < pos → rW s n pos = (posFrom s n pos).all (fun p => okB s p && eitB ((Utf8.decode s p).1 : Int))
 | 0, _, _ => rfl
 | n + 1, pos, h => by
   simp only [rW, posFrom]
   split
   · rw [List.all_cons, rW_all s n _ (by have := dec_pos s pos; omega), okR]
     simp [show pos ≠ 0 by omega, eitB]
   · rfl
theorem pos_lt (s : ByteArray) : ∀ (n pos : Nat), ∀ p ∈ posFrom s n pos, p < s.size
 | 0, _, _, h => by simp [posFrom] at h
 | n + 1, pos, p, h => by
   simp only [posFrom] at h
   split at h
   · rcases List.mem_cons.1 h with rfl | h
     · assumption
     · exact pos_lt s n _ p h
   · simp at h
theorem while_all (s : ByteArray) (p : Int → Bool) : decide (whileE s p = s.size) = (posFrom s s.size 0).all (fun q => okB s q && p ((Utf8.decode s q).1 : Int)) := by
 unfold whileE
 cases hf : (posFrom s s.size 0).find? (stopB s p) with
 | none =>
   rw [List.find?_eq_none] at hf
   simp only [Option.getD_none, decide_true]
   symm
   rw [List.all_eq_true]
   intro q hq
   have := hf q hq
   simpa [stopB] using this
 | some q =>
   have hq := List.mem_of_find?_eq_some hf
   have hs := List.find?_some hf
   have hl := pos_lt s _ _ q hq
   simp only [Option.getD_some]
   rw [show decide (q = s.size) = false from decide_eq_false (by omega)]
   symm
   rw [← Bool.not_eq_true, List.all_eq_true]
   intro h
   have := h q hq
   unfold stopB at hs
   rw [this] at hs
   cases hs
theorem refWord_eq (s : ByteArray) : refWord s = wordB s := by
 unfold refWord wordB
 rw [while_all]
 have e1 : (!s.toList.isEmpty) = decide (0 < s.size) := by
   rw [← toList_len]
   cases s.toList <;> simp
 rw [e1, show decide ((s.size : Int) ≤ 24) = decide (s.size ≤ 24) from decide_eq_decide.2 (by omega)]
 by_cases hp : 0 < s.size
 · obtain ⟨m, hm⟩ : ∃ m, s.size = m + 1 := ⟨s.size - 1, by omega⟩
   have hkey : rW s s.size 0 = (!numB (firstR s) && (posFrom s s.size 0).all (fun q => okB s q && eitB ((Utf8.decode s q).1 : Int))) := by
     rw [hm]
     simp only [rW, posFrom]
     rw [if_pos hp, if_pos hp, List.all_cons, rW_all s m _ (by have := dec_pos s 0; omega)]
     have hr : okR s 0 = (!numB (firstR s) && (okB s 0 && eitB ((Utf8.decode s 0).1 : Int))) := by
       have hg : s.get! (0 + 0) = s[0]'hp := by
         show s.get! 0 = _
         simp [ByteArray.get!, getElem!_pos, hp]
         rfl
       have hk := (s[0]'hp).toNat_lt
       have hf : firstR s = ((s[0]'hp).toNat : Int) := by
         unfold firstR
         rw [dif_pos hp]
         unfold wrap32
         omega
       unfold okR
       simp only [decide_true, Bool.not_true, Bool.false_and, Bool.or_false]
       by_cases ha : (s[0]'hp).toNat < 128
       · have hd := decode_ascii s 0 hp ha
         rw [hd, hf, let_num]
         simp only []
         cases okB s 0 <;> cases numB ((s[0]'hp).toNat : Int) <;> rfl
       · have hd := dec_hi0 s (by rw [hg]; omega)
         have n1 : numB (firstR s) = false := by rw [hf]; simp [numB]; omega
         have n2 : numB ((Utf8.decode s 0).1 : Int) = false := by simp [numB]; omega
         rw [n1, let_num, n2]
         cases okB s 0 <;> rfl
     rw [hr]
     simp only [Bool.and_assoc]
   rw [hkey]
   simp only [Bool.and_assoc]
 · simp [hp]
end Yd


namespace Yd
open Go Go.RowKit Go.Proofs
attribute [local go_sem] Oper.semAt_some

theorem r_Level (n : Int) (w : World) : Calls Tryz.prog 43 #[.int .i64 n] w (Ret (.bool (levelB n)) w) := by
 by_cases h1 : 1 ≤ n <;> by_cases h2 : n ≤ 4
 all_goals
   go_enter Tryz.func43, Tryz.ntmps43
   go_wp2_with fail
   go_ret
   exact ⟨by simp [levelB, h1, h2], Below.refl _ _⟩
end Yd


namespace Yd
open Go Go.RowKit Go.Proofs
attribute [local go_sem] Oper.semAt_some

theorem ixF0 (W : World) : (Instr.index 129 (.agg #[.int .i64 0, .int .i64 2, .int .i64 2, .int .i64 2, .int .i64 2, .int .i64 1, .int .i64 1, .int .i64 1, .int .i64 2, .int .i64 1]) (.int .i64 0)).run Tryz.prog W = .ok (.int .i64 0) W := by kernel_rfl
theorem ixF1 (W : World) : (Instr.index 129 (.agg #[.int .i64 0, .int .i64 2, .int .i64 2, .int .i64 2, .int .i64 2, .int .i64 1, .int .i64 1, .int .i64 1, .int .i64 2, .int .i64 1]) (.int .i64 1)).run Tryz.prog W = .ok (.int .i64 2) W := by kernel_rfl
theorem ixF2 (W : World) : (Instr.index 129 (.agg #[.int .i64 0, .int .i64 2, .int .i64 2, .int .i64 2, .int .i64 2, .int .i64 1, .int .i64 1, .int .i64 1, .int .i64 2, .int .i64 1]) (.int .i64 2)).run Tryz.prog W = .ok (.int .i64 2) W := by kernel_rfl
theorem ixF3 (W : World) : (Instr.index 129 (.agg #[.int .i64 0, .int .i64 2, .int .i64 2, .int .i64 2, .int .i64 2, .int .i64 1, .int .i64 1, .int .i64 1, .int .i64 2, .int .i64 1]) (.int .i64 3)).run Tryz.prog W = .ok (.int .i64 2) W := by kernel_rfl
theorem ixF4 (W : World) : (Instr.index 129 (.agg #[.int .i64 0, .int .i64 2, .int .i64 2, .int .i64 2, .int .i64 2, .int .i64 1, .int .i64 1, .int .i64 1, .int .i64 2, .int .i64 1]) (.int .i64 4)).run Tryz.prog W = .ok (.int .i64 2) W := by kernel_rfl
theorem ixF5 (W : World) : (Instr.index 129 (.agg #[.int .i64 0, .int .i64 2, .int .i64 2, .int .i64 2, .int .i64 2, .int .i64 1, .int .i64 1, .int .i64 1, .int .i64 2, .int .i64 1]) (.int .i64 5)).run Tryz.prog W = .ok (.int .i64 1) W := by kernel_rfl
theorem ixF6 (W : World) : (Instr.index 129 (.agg #[.int .i64 0, .int .i64 2, .int .i64 2, .int .i64 2, .int .i64 2, .int .i64 1, .int .i64 1, .int .i64 1, .int .i64 2, .int .i64 1]) (.int .i64 6)).run Tryz.prog W = .ok (.int .i64 1) W := by kernel_rfl
theorem ixF7 (W : World) : (Instr.index 129 (.agg #[.int .i64 0, .int .i64 2, .int .i64 2, .int .i64 2, .int .i64 2, .int .i64 1, .int .i64 1, .int .i64 1, .int .i64 2, .int .i64 1]) (.int .i64 7)).run Tryz.prog W = .ok (.int .i64 1) W := by kernel_rfl
theorem ixF8 (W : World) : (Instr.index 129 (.agg #[.int .i64 0, .int .i64 2, .int .i64 2, .int .i64 2, .int .i64 2, .int .i64 1, .int .i64 1, .int .i64 1, .int .i64 2, .int .i64 1]) (.int .i64 8)).run Tryz.prog W = .ok (.int .i64 2) W := by kernel_rfl
theorem ixF9 (W : World) : (Instr.index 129 (.agg #[.int .i64 0, .int .i64 2, .int .i64 2, .int .i64 2, .int .i64 2, .int .i64 1, .int .i64 1, .int .i64 1, .int .i64 2, .int .i64 1]) (.int .i64 9)).run Tryz.prog W = .ok (.int .i64 1) W := by kernel_rfl
theorem r_few (k : Nat) (hk : k < 10) (w : World) : Calls Tryz.prog 39 #[.int .i64 (k : Int)] w (Ret2 (.int .i64 (formN k)) (.int .i64 (formN k + mostR (formR k))) w) := by
 rcases (by omega : k = 0 ∨ k = 1 ∨ k = 2 ∨ k = 3 ∨ k = 4 ∨ k = 5 ∨ k = 6 ∨ k = 7 ∨ k = 8 ∨ k = 9) with rfl | rfl | rfl | rfl | rfl | rfl | rfl | rfl | rfl | rfl
 · have hix := ixF0
   go_enter Tryz.func39, Tryz.ntmps39
   go_wp2_with fail
   go_ret2
   exact ⟨rfl, Below.refl _ _⟩
 · have hix := ixF1
   go_enter Tryz.func39, Tryz.ntmps39
   go_wp2_with fail
   go_ret2
   exact ⟨rfl, Below.refl _ _⟩
 · have hix := ixF2
   go_enter Tryz.func39, Tryz.ntmps39
   go_wp2_with fail
   go_ret2
   exact ⟨rfl, Below.refl _ _⟩
 · have hix := ixF3
   go_enter Tryz.func39, Tryz.ntmps39
   go_wp2_with fail
   go_ret2
   exact ⟨rfl, Below.refl _ _⟩
 · have hix := ixF4
   go_enter Tryz.func39, Tryz.ntmps39
   go_wp2_with fail
   go_ret2
   exact ⟨rfl, Below.refl _ _⟩
 · have hix := ixF5
   go_enter Tryz.func39, Tryz.ntmps39
   go_wp2_with fail
   go_ret2
   exact ⟨rfl, Below.refl _ _⟩
 · have hix := ixF6
   go_enter Tryz.func39, Tryz.ntmps39
   go_wp2_with fail
   go_ret2
   exact ⟨rfl, Below.refl _ _⟩
 · have hix := ixF7
   go_enter Tryz.func39, Tryz.ntmps39
   go_wp2_with fail
   go_ret2
   exact ⟨rfl, Below.refl _ _⟩
 · have hix := ixF8
   go_enter Tryz.func39, Tryz.ntmps39
   go_wp2_with fail
   go_ret2
   exact ⟨rfl, Below.refl _ _⟩
 · have hix := ixF9
   go_enter Tryz.func39, Tryz.ntmps39
   go_wp2_with fail
   go_ret2
   exact ⟨rfl, Below.refl _ _⟩
theorem r_versions (k : Nat) (hk : k < 10) (n : Nat) (hn : n ≤ 1000000) (w : World) : Calls Tryz.prog 40 #[.int .i64 (k : Int), .int .i64 (n : Int)] w (Ret (.int .i64 (manyR (formR k) ((n : Int) - formN k))) w) := by
 have hw : wrap64 ((n : Int) - 2) = (n : Int) - 2 := IntWalk.wrap64_in _ (by omega)
 rcases (by omega : k = 0 ∨ k = 1 ∨ k = 2 ∨ k = 3 ∨ k = 4 ∨ k = 5 ∨ k = 6 ∨ k = 7 ∨ k = 8 ∨ k = 9) with rfl | rfl | rfl | rfl | rfl | rfl | rfl | rfl | rfl | rfl
 · go_enter Tryz.func40, Tryz.ntmps40
   go_wp2_with fail
   go_ret
   exact ⟨rfl, Below.refl _ _⟩
 · go_enter Tryz.func40, Tryz.ntmps40
   go_wp2_with fail
   go_ret
   exact ⟨rfl, Below.refl _ _⟩
 · go_enter Tryz.func40, Tryz.ntmps40
   go_wp2_with fail
   go_ret
   exact ⟨rfl, Below.refl _ _⟩
 · go_enter Tryz.func40, Tryz.ntmps40
   go_wp2_with fail
   go_ret
   exact ⟨rfl, Below.refl _ _⟩
 · go_enter Tryz.func40, Tryz.ntmps40
   go_wp2_with fail
   go_ret
   exact ⟨rfl, Below.refl _ _⟩
 · go_enter Tryz.func40, Tryz.ntmps40
   go_wp2_with fail
   go_ret
   exact ⟨rfl, Below.refl _ _⟩
 · go_enter Tryz.func40, Tryz.ntmps40
   go_wp2_with fail
   go_ret
   exact ⟨rfl, Below.refl _ _⟩
 · go_enter Tryz.func40, Tryz.ntmps40
   go_wp2_with fail
   go_ret
   exact ⟨rfl, Below.refl _ _⟩
 · go_enter Tryz.func40, Tryz.ntmps40
   go_wp2_with fail
   go_ret
   exact ⟨rfl, Below.refl _ _⟩
 · go_enter Tryz.func40, Tryz.ntmps40
   go_wp2_with fail
   go_ret
   exact ⟨rfl, Below.refl _ _⟩
theorem bsEmpty (a : UInt8) (l : Bs) : ((⟨(a :: l).toArray⟩ : ByteArray) == (⟨#[]⟩ : ByteArray)) = false := by
 show ((a :: l).toArray == #[]) = false
 simp
theorem bsEmptyL (a : UInt8) (l : Bs) : ((⟨(a :: l).toArray⟩ : ByteArray).toList == []) = false := by
 have h := toList_len ⟨(a :: l).toArray⟩
 rw [bsz] at h
 cases hc : (⟨(a :: l).toArray⟩ : ByteArray).toList with
 | nil => rw [hc] at h; simp at h
 | cons b t => rfl
theorem r_rightTold (t : To) (w : World) : Calls Tryz.prog 42 #[valTo t] w (Ret (.bool (toB t)) w) := by
 obtain ⟨n, k⟩ := t
 have hb0 := belowA (Below.refl w.heap.size w) (.cells #[.string ⟨n.toArray⟩, .int .i64 k] 67)
 have HB := hid hb0
 have HX := hid (Bx.new w #[.string ⟨n.toArray⟩, .int .i64 k] 67)
 clear hb0
 by_cases h0 : k = 0
 · subst h0
   cases n with
   | nil =>
     have hb : toB ⟨[], 0⟩ = true := rfl
     rw [hb]
     go_enter Tryz.func42, Tryz.ntmps42
     go_wp2_with fail
     go_ret
     exact ⟨rfl, HB.out⟩
   | cons a l =>
     have hb : toB ⟨a :: l, 0⟩ = false := by unfold toB; rw [if_pos rfl]; simp
     rw [hb]
     have he := bsEmpty a l; have he2 := bsEmptyL a l
     clear hb
     go_enter Tryz.func42, Tryz.ntmps42
     go_wp2_with fail
     go_ret
     exact ⟨rfl, HB.out⟩
 · have hk : (k == 0) = false := beq_eq_false_iff_ne.2 h0
   have hB : toB ⟨n, k⟩ = (wordB ⟨n.toArray⟩ && (decide (0 < k) && decide (k ≤ 999))) := by unfold toB; rw [if_neg h0]
   rw [hB]
   have HW := hid (fun W => ref_Word ⟨n.toArray⟩ W)
   rw [refWord_eq] at HW
   clear h0 hB
   cases hw : wordB ⟨n.toArray⟩
   · rw [hw] at HW
     clear hw
     go_enter Tryz.func42, Tryz.ntmps42
     go_wp2_with fail
     refine (HW.out _).mono ?_
     rintro e w1 ⟨rfl, hb1⟩
     have HB1 := hid (HB.out.trans (hb1.mono HB.out.size)); clear hb1
     go_wp2_with fail
     go_ret
     exact ⟨rfl, HB1.out⟩
   · rw [hw] at HW
     clear hw
     cases h1 : decide (0 < k)
     · go_enter Tryz.func42, Tryz.ntmps42
       go_wp2_with fail
       refine (HW.out _).mono ?_
       rintro e w1 ⟨rfl, hb1⟩
       have hx := (HX.out.keep hb1).1
       have HB1 := hid (HB.out.trans (hb1.mono HB.out.size)); clear hb1
       go_wp2_with fail
       go_ret
       exact ⟨rfl, HB1.out⟩
     · cases h2 : decide (k ≤ 999)
       all_goals
         go_enter Tryz.func42, Tryz.ntmps42
         go_wp2_with fail
         refine (HW.out _).mono ?_
         rintro e w1 ⟨rfl, hb1⟩
         have hx := (HX.out.keep hb1).1
         have HB1 := hid (HB.out.trans (hb1.mono HB.out.size)); clear hb1
         go_wp2_with fail
         go_ret
         exact ⟨rfl, HB1.out⟩
end Yd
