import Derived.Test.YthkpjdgmpjhhmaaGreatDoorGround
import Derived.Test.YthkpjdgmpjhhmaaGreatDoorProg
import Derived.BigQuiet
set_option maxRecDepth 200000
set_option maxHeartbeats 8000000
namespace Yd
open Go Go.RowKit Go.Proofs

theorem eqSn (a a' : Option Addr) (n c n' c' : Nat) (xs ys : List Sn) (w : World) (hr : Row w 3 encSn a n c xs) (hr' : Row w 3 encSn a' n' c' ys) :
   Calls Tryz.prog 153 #[.slice a n c, .slice a' n' c'] w (Ret (.bool (decide (xs = ys))) w) := by
 have hn := hr.le
 have hn' := hr'.le
 have HR := hid hr; have HR' := hid hr'
 clear hr hr'
 by_cases hl : n = n'
 · subst hl
   clear hn'
   go_enter Tryz.func153, Tryz.ntmps153
   go_wp2_with fail
   go_loopw [13] (fun i wr => ∃ k : Nat, k ≤ n ∧ i = .int .i64 k ∧ xs.take k = ys.take k ∧ Below w.heap.size w wr) (fun i _ => n - (intOf i).toNat)
   case atStart => exact ⟨0, Nat.zero_le _, rfl, rfl, Below.refl _ _⟩
   case round =>
     obtain ⟨k, hk, rfl, hf, hb⟩ := hrel
     have HF := hid hf; clear hf
     by_cases hlt : k < n
     · have hi1 : (0 : Int) ≤ (k : Int) := by omega
       have hi2 : (k : Int) < (n : Int) := by omega
       obtain ⟨x, b, o, hx, rfl, hc⟩ := HR.out.at_ hlt
       obtain ⟨y, b', o', hy, rfl, hc'⟩ := HR'.out.at_ hlt
       have h0 := bget hb rfl (hc 0 _ rfl)
       have h1 := bget hb rfl (hc 1 _ rfl)
       have h2 := bget hb rfl (hc 2 _ rfl)
       simp only [Nat.add_zero] at h0
       have h'0 := bget hb rfl (hc' 0 _ rfl)
       have h'1 := bget hb rfl (hc' 1 _ rfl)
       have h'2 := bget hb rfl (hc' 2 _ rfl)
       simp only [Nat.add_zero] at h'0
       have HX := hid hx; have HY := hid hy
       clear hc hc' hx hy
       by_cases he : x = y
       · subst he
         go_wp2_with fail
         go_quiet (fail)
         go_wp2_with fail
         refine ⟨⟨k + 1, by omega, by go_num, ?_, belowN hb _⟩, by simp [intOf]; omega⟩
         rw [List.take_add_one, List.take_add_one, HF.out, HX.out, HY.out]
       · have ht := eqInSn x y; rw [decide_eq_false he] at ht
         have HE := hid he; clear he
         go_wp2_with fail
         go_quiet (fail)
         go_wp2_with fail
         go_ret
         refine ⟨?_, belowN hb _⟩
         have hne : xs ≠ ys := fun e => HE.out (by have h1 := HX.out; have h2 := HY.out; rw [e, h2] at h1; exact (Option.some.inj h1).symm)
         rw [decide_eq_false hne]; rfl
     · have hkn : k = n := by omega
       go_wp2_with fail
       go_ret
       refine ⟨?_, hb⟩
       have e : xs = ys := by
         have h := HF.out
         rwa [List.take_of_length_le (by rw [HR.out.len]; omega), List.take_of_length_le (by rw [HR'.out.len]; omega)] at h
       rw [decide_eq_true e]; rfl
 · have hne : xs ≠ ys := fun e => hl (by rw [← HR.out.len, ← HR'.out.len, e])
   have hl' : ((n : Int) == (n' : Int)) = false := beq_eq_false_iff_ne.2 (by omega)
   have HN := hid hne
   clear hne hl
   go_enter Tryz.func153, Tryz.ntmps153
   go_wp2_with fail
   go_ret
   refine ⟨?_, Below.refl _ _⟩
   rw [decide_eq_false HN.out]; rfl

end Yd


namespace Yd
open Go Go.RowKit Go.Proofs

theorem cloneEv (a : Option Addr) (c : Nat) (cs : List EvC) (w : World) (hr : Row w 9 encEv a cs.length c cs) (hby : cs.length * 88 ≤ 140737488355328) :
   Calls Tryz.prog 26 #[.slice a cs.length c] w (RetOwn 49 9 encEv cs w) := by
 have hm : cs.length ≤ maxLen := by have := hr.le; unfold maxLen; omega
 have hsn := fun (w : World) (n c : Nat) => @Lib.run_eql_slice_nil Tryz.prog w 23 49 a n c 0 0 Tryz.underlying23
 cases a with
 | none =>
   obtain ⟨rfl, _, rfl⟩ := hr.none_
   go_enter Tryz.func26, Tryz.ntmps26
   go_wp2_with fail
   go_ret
   exact ⟨none, 0, rfl, Own.nil_ _ _ _ _ _, Below.refl _ _⟩
 | some ad =>
   obtain ⟨i, z, hi, hz, hsize, hby', hzs⟩ := partsEv
   have hr1 : Row (w.alloc (.cells #[] 49)) 9 encEv (some ad) cs.length c cs := hr.below ((Below.refl _ _).alloc (Nat.le_refl _) _) rfl
   have HO := Own.new (hc := cInsEv) w w.heap.size 49 (enc := encEv) #[] [] (Nat.le_refl _) rfl (Nat.zero_le _)
   have HB : Below w.heap.size w (w.alloc (.cells #[] 49)) := (Below.refl _ _).alloc (Nat.le_refl _) _
   have HR := hid hr1; have HC := hid hr; have HOH := hid HO; have HBH := hid HB
   clear hr hr1 HO HB
   go_enter Tryz.func26, Tryz.ntmps26
   go_wp2_with (at_builtin; refine wpList_app rfl _ _ 23 rfl i z 88 Tryz.underlying23 hi hz hsize hby' hzs rfl HOH.out (some ad) cs.length c cs.length cs rfl HR.out (by simp) hby hm (by simp) ?_; intro a' c' w1 hown1 hg1 hat1)
   go_ret
   exact ⟨a', c', rfl, hown1, below_app HBH.out HOH.out (Nat.le_refl _) (by simp) hg1⟩

theorem cloneSn (a : Option Addr) (c : Nat) (cs : List Sn) (w : World) (hr : Row w 3 encSn a cs.length c cs) (hby : cs.length * 24 ≤ 140737488355328) :
   Calls Tryz.prog 27 #[.slice a cs.length c] w (RetOwn 69 3 encSn cs w) := by
 have hm : cs.length ≤ maxLen := by have := hr.le; unfold maxLen; omega
 have hsn := fun (w : World) (n c : Nat) => @Lib.run_eql_slice_nil Tryz.prog w 47 69 a n c 0 0 Tryz.underlying47
 cases a with
 | none =>
   obtain ⟨rfl, _, rfl⟩ := hr.none_
   go_enter Tryz.func27, Tryz.ntmps27
   go_wp2_with fail
   go_ret
   exact ⟨none, 0, rfl, Own.nil_ _ _ _ _ _, Below.refl _ _⟩
 | some ad =>
   obtain ⟨i, z, hi, hz, hsize, hby', hzs⟩ := partsSn
   have hr1 : Row (w.alloc (.cells #[] 69)) 3 encSn (some ad) cs.length c cs := hr.below ((Below.refl _ _).alloc (Nat.le_refl _) _) rfl
   have HO := Own.new (hc := cInsSn) w w.heap.size 69 (enc := encSn) #[] [] (Nat.le_refl _) rfl (Nat.zero_le _)
   have HB : Below w.heap.size w (w.alloc (.cells #[] 69)) := (Below.refl _ _).alloc (Nat.le_refl _) _
   have HR := hid hr1; have HC := hid hr; have HOH := hid HO; have HBH := hid HB
   clear hr hr1 HO HB
   go_enter Tryz.func27, Tryz.ntmps27
   go_wp2_with (at_builtin; refine wpList_app rfl _ _ 47 rfl i z 24 Tryz.underlying47 hi hz hsize hby' hzs rfl HOH.out (some ad) cs.length c cs.length cs rfl HR.out (by simp) hby hm (by simp) ?_; intro a' c' w1 hown1 hg1 hat1)
   go_ret
   exact ⟨a', c', rfl, hown1, below_app HBH.out HOH.out (Nat.le_refl _) (by simp) hg1⟩

theorem cloneOr (a : Option Addr) (c : Nat) (cs : List OrC) (w : World) (hr : Row w 2 encOr a cs.length c cs) (hby : cs.length * 32 ≤ 140737488355328) :
   Calls Tryz.prog 28 #[.slice a cs.length c] w (RetOwn 72 2 encOr cs w) := by
 have hm : cs.length ≤ maxLen := by have := hr.le; unfold maxLen; omega
 have hsn := fun (w : World) (n c : Nat) => @Lib.run_eql_slice_nil Tryz.prog w 24 72 a n c 0 0 Tryz.underlying24
 cases a with
 | none =>
   obtain ⟨rfl, _, rfl⟩ := hr.none_
   go_enter Tryz.func28, Tryz.ntmps28
   go_wp2_with fail
   go_ret
   exact ⟨none, 0, rfl, Own.nil_ _ _ _ _ _, Below.refl _ _⟩
 | some ad =>
   obtain ⟨i, z, hi, hz, hsize, hby', hzs⟩ := partsOr
   have hr1 : Row (w.alloc (.cells #[] 72)) 2 encOr (some ad) cs.length c cs := hr.below ((Below.refl _ _).alloc (Nat.le_refl _) _) rfl
   have HO := Own.new (hc := cInsOr) w w.heap.size 72 (enc := encOr) #[] [] (Nat.le_refl _) rfl (Nat.zero_le _)
   have HB : Below w.heap.size w (w.alloc (.cells #[] 72)) := (Below.refl _ _).alloc (Nat.le_refl _) _
   have HR := hid hr1; have HC := hid hr; have HOH := hid HO; have HBH := hid HB
   clear hr hr1 HO HB
   go_enter Tryz.func28, Tryz.ntmps28
   go_wp2_with (at_builtin; refine wpList_app rfl _ _ 24 rfl i z 32 Tryz.underlying24 hi hz hsize hby' hzs rfl HOH.out (some ad) cs.length c cs.length cs rfl HR.out (by simp) hby hm (by simp) ?_; intro a' c' w1 hown1 hg1 hat1)
   go_ret
   exact ⟨a', c', rfl, hown1, below_app HBH.out HOH.out (Nat.le_refl _) (by simp) hg1⟩

theorem cloneMa (a : Option Addr) (c : Nat) (cs : List MaC) (w : World) (hr : Row w 4 encMa a cs.length c cs) (hby : cs.length * 48 ≤ 140737488355328) :
   Calls Tryz.prog 29 #[.slice a cs.length c] w (RetOwn 79 4 encMa cs w) := by
 have hm : cs.length ≤ maxLen := by have := hr.le; unfold maxLen; omega
 have hsn := fun (w : World) (n c : Nat) => @Lib.run_eql_slice_nil Tryz.prog w 25 79 a n c 0 0 Tryz.underlying25
 cases a with
 | none =>
   obtain ⟨rfl, _, rfl⟩ := hr.none_
   go_enter Tryz.func29, Tryz.ntmps29
   go_wp2_with fail
   go_ret
   exact ⟨none, 0, rfl, Own.nil_ _ _ _ _ _, Below.refl _ _⟩
 | some ad =>
   obtain ⟨i, z, hi, hz, hsize, hby', hzs⟩ := partsMa
   have hr1 : Row (w.alloc (.cells #[] 79)) 4 encMa (some ad) cs.length c cs := hr.below ((Below.refl _ _).alloc (Nat.le_refl _) _) rfl
   have HO := Own.new (hc := cInsMa) w w.heap.size 79 (enc := encMa) #[] [] (Nat.le_refl _) rfl (Nat.zero_le _)
   have HB : Below w.heap.size w (w.alloc (.cells #[] 79)) := (Below.refl _ _).alloc (Nat.le_refl _) _
   have HR := hid hr1; have HC := hid hr; have HOH := hid HO; have HBH := hid HB
   clear hr hr1 HO HB
   go_enter Tryz.func29, Tryz.ntmps29
   go_wp2_with (at_builtin; refine wpList_app rfl _ _ 25 rfl i z 48 Tryz.underlying25 hi hz hsize hby' hzs rfl HOH.out (some ad) cs.length c cs.length cs rfl HR.out (by simp) hby hm (by simp) ?_; intro a' c' w1 hown1 hg1 hat1)
   go_ret
   exact ⟨a', c', rfl, hown1, below_app HBH.out HOH.out (Nat.le_refl _) (by simp) hg1⟩

theorem cloneWa (a : Option Addr) (c : Nat) (cs : List Wa) (w : World) (hr : Row w 2 encWa a cs.length c cs) (hby : cs.length * 16 ≤ 140737488355328) :
   Calls Tryz.prog 30 #[.slice a cs.length c] w (RetOwn 82 2 encWa cs w) := by
 have hm : cs.length ≤ maxLen := by have := hr.le; unfold maxLen; omega
 have hsn := fun (w : World) (n c : Nat) => @Lib.run_eql_slice_nil Tryz.prog w 26 82 a n c 0 0 Tryz.underlying26
 cases a with
 | none =>
   obtain ⟨rfl, _, rfl⟩ := hr.none_
   go_enter Tryz.func30, Tryz.ntmps30
   go_wp2_with fail
   go_ret
   exact ⟨none, 0, rfl, Own.nil_ _ _ _ _ _, Below.refl _ _⟩
 | some ad =>
   obtain ⟨i, z, hi, hz, hsize, hby', hzs⟩ := partsWa
   have hr1 : Row (w.alloc (.cells #[] 82)) 2 encWa (some ad) cs.length c cs := hr.below ((Below.refl _ _).alloc (Nat.le_refl _) _) rfl
   have HO := Own.new (hc := cInsWa) w w.heap.size 82 (enc := encWa) #[] [] (Nat.le_refl _) rfl (Nat.zero_le _)
   have HB : Below w.heap.size w (w.alloc (.cells #[] 82)) := (Below.refl _ _).alloc (Nat.le_refl _) _
   have HR := hid hr1; have HC := hid hr; have HOH := hid HO; have HBH := hid HB
   clear hr hr1 HO HB
   go_enter Tryz.func30, Tryz.ntmps30
   go_wp2_with (at_builtin; refine wpList_app rfl _ _ 26 rfl i z 16 Tryz.underlying26 hi hz hsize hby' hzs rfl HOH.out (some ad) cs.length c cs.length cs rfl HR.out (by simp) hby hm (by simp) ?_; intro a' c' w1 hown1 hg1 hat1)
   go_ret
   exact ⟨a', c', rfl, hown1, below_app HBH.out HOH.out (Nat.le_refl _) (by simp) hg1⟩

theorem cloneInt (a : Option Addr) (c : Nat) (cs : List Int) (w : World) (hr : Row w 1 encInt a cs.length c cs) (hby : cs.length * 8 ≤ 140737488355328) :
   Calls Tryz.prog 31 #[.slice a cs.length c] w (RetOwn 3 1 encInt cs w) := by
 have hm : cs.length ≤ maxLen := by have := hr.le; unfold maxLen; omega
 have hsn := fun (w : World) (n c : Nat) => @Lib.run_eql_slice_nil Tryz.prog w 70 3 a n c 0 0 Tryz.underlying70
 cases a with
 | none =>
   obtain ⟨rfl, _, rfl⟩ := hr.none_
   go_enter Tryz.func31, Tryz.ntmps31
   go_wp2_with fail
   go_ret
   exact ⟨none, 0, rfl, Own.nil_ _ _ _ _ _, Below.refl _ _⟩
 | some ad =>
   obtain ⟨i, z, hi, hz, hsize, hby', hzs⟩ := partsInt
   have hr1 : Row (w.alloc (.cells #[] 3)) 1 encInt (some ad) cs.length c cs := hr.below ((Below.refl _ _).alloc (Nat.le_refl _) _) rfl
   have HO := Own.new (hc := cInsInt) w w.heap.size 3 (enc := encInt) #[] [] (Nat.le_refl _) rfl (Nat.zero_le _)
   have HB : Below w.heap.size w (w.alloc (.cells #[] 3)) := (Below.refl _ _).alloc (Nat.le_refl _) _
   have HR := hid hr1; have HC := hid hr; have HOH := hid HO; have HBH := hid HB
   clear hr hr1 HO HB
   go_enter Tryz.func31, Tryz.ntmps31
   go_wp2_with (at_builtin; refine wpList_app rfl _ _ 70 rfl i z 8 Tryz.underlying70 hi hz hsize hby' hzs rfl HOH.out (some ad) cs.length c cs.length cs rfl HR.out (by simp) hby hm (by simp) ?_; intro a' c' w1 hown1 hg1 hat1)
   go_ret
   exact ⟨a', c', rfl, hown1, below_app HBH.out HOH.out (Nat.le_refl _) (by simp) hg1⟩

theorem cloneStr (a : Option Addr) (c : Nat) (cs : List Bs) (w : World) (hr : Row w 1 encStr a cs.length c cs) (hby : cs.length * 16 ≤ 140737488355328) :
   Calls Tryz.prog 32 #[.slice a cs.length c] w (RetOwn 9 1 encStr cs w) := by
 have hm : cs.length ≤ maxLen := by have := hr.le; unfold maxLen; omega
 have hsn := fun (w : World) (n c : Nat) => @Lib.run_eql_slice_nil Tryz.prog w 22 9 a n c 0 0 Tryz.underlying22
 cases a with
 | none =>
   obtain ⟨rfl, _, rfl⟩ := hr.none_
   go_enter Tryz.func32, Tryz.ntmps32
   go_wp2_with fail
   go_ret
   exact ⟨none, 0, rfl, Own.nil_ _ _ _ _ _, Below.refl _ _⟩
 | some ad =>
   obtain ⟨i, z, hi, hz, hsize, hby', hzs⟩ := partsStr
   have hr1 : Row (w.alloc (.cells #[] 9)) 1 encStr (some ad) cs.length c cs := hr.below ((Below.refl _ _).alloc (Nat.le_refl _) _) rfl
   have HO := Own.new (hc := cInsStr) w w.heap.size 9 (enc := encStr) #[] [] (Nat.le_refl _) rfl (Nat.zero_le _)
   have HB : Below w.heap.size w (w.alloc (.cells #[] 9)) := (Below.refl _ _).alloc (Nat.le_refl _) _
   have HR := hid hr1; have HC := hid hr; have HOH := hid HO; have HBH := hid HB
   clear hr hr1 HO HB
   go_enter Tryz.func32, Tryz.ntmps32
   go_wp2_with (at_builtin; refine wpList_app rfl _ _ 22 rfl i z 16 Tryz.underlying22 hi hz hsize hby' hzs rfl HOH.out (some ad) cs.length c cs.length cs rfl HR.out (by simp) hby hm (by simp) ?_; intro a' c' w1 hown1 hg1 hat1)
   go_ret
   exact ⟨a', c', rfl, hown1, below_app HBH.out HOH.out (Nat.le_refl _) (by simp) hg1⟩

end Yd
