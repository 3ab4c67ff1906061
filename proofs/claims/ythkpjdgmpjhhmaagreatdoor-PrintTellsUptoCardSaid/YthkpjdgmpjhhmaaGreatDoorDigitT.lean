import Derived.Test.YthkpjdgmpjhhmaaGreatDoorTellA
import Derived.Laws.BytesArg
import Derived.Test.YthkpjdgmpjhhmaaGreatDoorProg
import Derived.Test.YthkpjdgmpjhhmaaGreatDoorGround
set_option maxRecDepth 200000
set_option maxHeartbeats 8000000
namespace Yd
open Go Go.RowKit Go.Proofs

def encU8 (b : UInt8) : List Value := [.int .u8 (b.toNat : Int)]
instance cInsU8 : Cells encU8 1 := ⟨fun _ => rfl, by decide, fun x u h => by simp [encU8] at h; subst h; rfl⟩
theorem infoU8 : (Tryz.prog.info? 5).map (fun i => (i.zero.map (·.cells.size), i.size, i.bytes)) = some (some 1, 1, 1) := by kernel_rfl
theorem partsU8 : ∃ i z, Tryz.prog.info? 5 = some i ∧ i.zero = some z ∧ i.size = 1 ∧ i.bytes = 1 ∧ z.cells.size = 1 := parts_of infoU8

def digF : Nat → Nat → Bs
 | 0, _ => []
 | f + 1, n => if n = 0 then [] else digF f (n / 10) ++ [UInt8.ofNat (48 + n % 10)]
theorem digF_enough : ∀ (f g n : Nat), n ≤ f → n ≤ g → digF f n = digF g n
 | 0, 0, _, _, _ => rfl
 | 0, g + 1, n, hf, _ => by obtain rfl : n = 0 := by omega
                            simp [digF]
 | f + 1, 0, n, _, hg => by obtain rfl : n = 0 := by omega
                            simp [digF]
 | f + 1, g + 1, n, hf, hg => by
   simp only [digF]
   split
   · rfl
   · rw [digF_enough f g (n / 10) (by omega) (by omega)]
def digs (n : Nat) : Bs := digF n n
theorem digs_step {n : Nat} (h : 0 < n) : digs n = digs (n / 10) ++ [UInt8.ofNat (48 + n % 10)] := by
 obtain ⟨m, rfl⟩ : ∃ m, n = m + 1 := ⟨n - 1, by omega⟩
 show digF (m + 1) (m + 1) = _
 simp only [digF]
 rw [if_neg (by omega), digF_enough m ((m + 1) / 10) _ (by omega) (Nat.le_refl _)]
 rfl
theorem digs_len : ∀ (d n : Nat), n < 10 ^ d → (digs n).length ≤ d
 | d, 0, _ => by simp [digs, digF]
 | 0, n + 1, h => by simp at h
 | d + 1, n + 1, h => by
   rw [digs_step (by omega), List.length_append, List.length_singleton]
   have := digs_len d ((n + 1) / 10) (by rw [Nat.pow_succ] at h; omega)
   omega

theorem Own.newU8 (X : World) (B m : Nat) (hB : B ≤ X.heap.size) : Own (X.alloc (.cells #[.int .u8 (48 + (m : Int) % 10)] 5)) B 5 1 encU8 (.slice (some ⟨X.heap.size, 0, none⟩) 1 1) [UInt8.ofNat (48 + m % 10)] :=
 Own.new (hc := cInsU8) X B 5 #[.int .u8 (48 + (m : Int) % 10)] [UInt8.ofNat (48 + m % 10)] hB (by
   simp [encU8]; omega) (by simp [maxLen])

theorem digit_Text (n : Nat) (h1 : 1 ≤ n) (hn : n ≤ 100000) (w : World) : Calls Tryz.prog 78 #[.int .i64 n] w (Ret (.string ⟨(digs n).toArray⟩) w) := by
 obtain ⟨i, z, hi, hz, hsize, hby', hzs⟩ := partsU8
 have HI := hid (⟨hi, hz, hsize, hby', hzs⟩ : _ ∧ _ ∧ _ ∧ _ ∧ _)
 clear hi hz hsize hby' hzs
 go_enter Tryz.func78, Tryz.ntmps78
 go_wp2_with fail
 go_loopw [3, 4, 5] (fun v o b wr => ∃ (m : Nat) (a0 : Option Addr) (c0 : Nat) (ds : Bs) (f : Bool), v = .int .u64 m ∧ o = .slice a0 ds.length c0 ∧ b = .bool f ∧ digs n = digs m ++ ds ∧ (f = true → 0 < m) ∧ m ≤ n ∧ ds.length ≤ n ∧ ds.length + m ≤ n ∧
     Own wr w.heap.size 5 1 encU8 (.slice a0 ds.length c0) ds ∧ Below w.heap.size w wr) (fun v _ _ _ => (RowKit.intOf v).toNat)
 case atStart => exact ⟨n, none, 0, [], true, rfl, rfl, rfl, by simp, fun _ => by omega, Nat.le_refl _, Nat.zero_le _, by simp, Own.nil_ _ _ _ _ _, Below.refl _ _⟩
 case round =>
   obtain ⟨m, a0, c0, ds, f, rfl, rfl, rfl, hd, hf, hm, hl, hlm, how, hbw⟩ := hrel
   by_cases h0 : 0 < m
   · have HOW := hid how; have HBW := hid hbw; have HD := hid hd
     have HGT : ((10 : Int) > 0) := by decide
     clear how hbw hd
     have hm0 : ((m : Int) > 0) := by omega
     have HNW := hid (Own.newU8 wr w.heap.size m HBW.out.size)
     have HROW := hid ((HOW.out.below (belowA (Below.refl _ _) (.cells #[.int .u8 (48 + (m : Int) % 10)] 5)) rfl).row (by omega))
     have HN1 : Hid ([UInt8.ofNat (48 + m % 10)].length + ds.length = 1 + ds.length) := hid rfl
     have HN2 : Hid ((1 + ds.length) * 1 ≤ 140737488355328) := hid (by omega)
     have HN3 : Hid (1 + ds.length ≤ maxLen) := hid (by unfold maxLen; omega)
     have HN4 : Hid (w.heap.size ≤ (wr.alloc (.cells #[.int .u8 (48 + (m : Int) % 10)] 5)).heap.size) := hid (by have := HBW.out.size; simp; omega)
     have HB2 := hid ((HBW.out).alloc HBW.out.size (.cells #[.int .u8 (48 + (m : Int) % 10)] 5))
     have HD2 : Hid (digs n = digs (m / 10) ++ (UInt8.ofNat (48 + m % 10) :: ds)) := hid (by rw [HD.out, digs_step h0, List.append_assoc]; rfl)
     clear hf
     cases f
     · go_wp2_with (at_builtin; refine wpList_app rfl _ _ 36 rfl i z 1 Tryz.underlying36 HI.out.1 HI.out.2.1 HI.out.2.2.1 HI.out.2.2.2.1 HI.out.2.2.2.2 rfl HNW.out a0 ds.length c0 (1 + ds.length) ds rfl HROW.out HN1.out HN2.out HN3.out HN4.out ?_; intro a' c' w1 hown1 hg1 hat1)
       have HR1 := hid (⟨hown1, below_app HB2.out HNW.out (Nat.le_refl _) HN4.out hg1⟩ : _ ∧ _)
       clear hown1 hg1 hat1
       go_roundw
       case rel => exact ⟨m / 10, a', c', UInt8.ofNat (48 + m % 10) :: ds, false, by go_num, by rw [List.length_cons, Nat.add_comm], rfl, HD2.out, fun h => (by cases h), by omega, by rw [List.length_cons]; omega, by rw [List.length_cons]; omega, by rw [List.length_cons, Nat.add_comm]; exact HR1.out.1, HR1.out.2⟩
       case measure => simp [RowKit.intOf]; omega
     · go_wp2_with (at_builtin; refine wpList_app rfl _ _ 36 rfl i z 1 Tryz.underlying36 HI.out.1 HI.out.2.1 HI.out.2.2.1 HI.out.2.2.2.1 HI.out.2.2.2.2 rfl HNW.out a0 ds.length c0 (1 + ds.length) ds rfl HROW.out HN1.out HN2.out HN3.out HN4.out ?_; intro a' c' w1 hown1 hg1 hat1)
       have HR1 := hid (⟨hown1, below_app HB2.out HNW.out (Nat.le_refl _) HN4.out hg1⟩ : _ ∧ _)
       clear hown1 hg1 hat1
       go_roundw
       case rel => exact ⟨m / 10, a', c', UInt8.ofNat (48 + m % 10) :: ds, false, by go_num, by rw [List.length_cons, Nat.add_comm], rfl, HD2.out, fun h => (by cases h), by omega, by rw [List.length_cons]; omega, by rw [List.length_cons]; omega, by rw [List.length_cons, Nat.add_comm]; exact HR1.out.1, HR1.out.2⟩
       case measure => simp [RowKit.intOf]; omega
   · obtain rfl : m = 0 := by omega
     obtain rfl : f = false := by cases f; rfl; exact absurd (hf rfl) (by omega)
     obtain rfl : ds = digs n := by simpa [digs, digF] using hd.symm
     have hpos : 0 < (digs n).length := by rw [digs_step (by omega)]; simp
     have hrow := how.row (by omega)
     obtain ⟨_, bb, oo, _, rfl, _⟩ := hrow.at_ hpos
     have hcv : (convert 36 9 (.slice (some ⟨bb, oo, none⟩) (digs n).length c0)).run Tryz.prog wr = .ok (.string (strOfNums ((digs n).map (fun u => (u.toNat : Int))))) wr :=
       run_convert_bytes_arg wr 36 5 Tryz.underlying36 Tryz.underlying5 bb oo _ c0 ((digs n).map (fun u => (u.toNat : Int))) (by simp) (fun i hi => by
         obtain ⟨x, b', o', hx, hab, hc⟩ := hrow.at_ hi
         cases hab
         have := hc 0 _ rfl
         rw [Nat.mul_one, Nat.add_zero] at this
         rw [this, List.getD_eq_getElem?_getD, List.getElem?_map, hx]; rfl) 9 Tryz.underlying9
     have hst : strOfNums ((digs n).map (fun u => (u.toNat : Int))) = ⟨(digs n).toArray⟩ := by
       unfold strOfNums
       rw [List.map_map]
       congr 2
       conv => rhs; rw [← List.map_id (digs n)]
       apply List.map_congr_left
       intro u _
       simp
     rw [hst] at hcv
     have HBW := hid hbw
     clear how hbw hd hrow hst hpos
     go_wp2_with fail
     go_ret
     exact ⟨rfl, HBW.out⟩
end Yd


namespace Yd
open Go Go.RowKit Go.Proofs

theorem cat2 (a b : Bs) : (⟨a.toArray⟩ ++ ⟨b.toArray⟩ : ByteArray) = ⟨(a ++ b).toArray⟩ := by
 apply ByteArray.ext; simp
theorem cat3 (a b c : Bs) : (⟨a.toArray⟩ ++ ⟨b.toArray⟩ ++ ⟨c.toArray⟩ : ByteArray) = ⟨(a ++ (b ++ c)).toArray⟩ := by
 rw [cat2, cat2, List.append_assoc]
def toldT (t : To) : Bs := if t.k = 0 then [45] else t.name ++ 46 :: digs t.k.toNat

theorem line_told (t : To) (h0 : 0 ≤ t.k) (h9 : t.k ≤ 999) (hn : t.name.length ≤ 100000) (w : World) : Calls Tryz.prog 37 #[valTo t] w (Ret (.string ⟨(toldT t).toArray⟩) w) := by
 obtain ⟨n, k⟩ := t
 simp only at h0 h9 hn
 obtain ⟨m, rfl⟩ : ∃ m : Nat, k = m := ⟨k.toNat, by omega⟩
 by_cases hm : m = 0
 · subst hm
   go_enter Tryz.func37, Tryz.ntmps37
   go_wp2_with fail
   go_ret
   exact ⟨rfl, belowA (Below.refl _ _) _⟩
 · have hk : ((m : Int) == 0) = false := beq_eq_false_iff_ne.2 (by omega)
   have hq : toldT ⟨n, m⟩ = n ++ 46 :: digs m := by
     unfold toldT
     rw [if_neg (by simpa using hm), Int.toNat_natCast]
   rw [hq]
   have HD := fun W => hid (digit_Text m (by omega) (by omega) W)
   have HB := hid (belowA (Below.refl w.heap.size w) (.cells #[.string ⟨n.toArray⟩, .int .i64 m] 98))
   have HX := hid (Bx.new w #[.string ⟨n.toArray⟩, .int .i64 m] 98)
   have hd3 : (digs m).length ≤ 3 := digs_len 3 m (by omega)
   have hN1 : ¬ (9223372036854775807 < n.length + 1) := by omega
   have hN2 : ¬ (9223372036854775807 < n.length + 1 + (digs m).length) := by omega
   clear hq h0 h9
   go_enter Tryz.func37, Tryz.ntmps37
   go_wp2_with fail
   refine wp_region_ordC 8 [(0, 0), (1, 0), (2, 0), (3, 0), (4, 0), (5, 2), (6, 0), (7, 0)] (fun _ => True) (fun W' => W'.cell? ⟨w.heap.size, 0, none⟩ = some (.string ⟨n.toArray⟩) ∧ W'.cell? ⟨w.heap.size, 1, none⟩ = some (.int .i64 m)) (by kernel_rfl) (by kernel_rfl) (trivial) (⟨HX.out.1 0, HX.out.1 1⟩) ?_
   repeat ((first | refine ordC_skip rfl rfl ?_ | refine ordC_skip1 rfl rfl ?_ | ((first | refine ordC_q rfl rfl ?_ | refine ordC_p rfl rfl ?_); apply Exists.intro; refine ⟨fun wS hS => ?_, ?_⟩; (go_simp; try with_reducible rfl))); simp only [Act.put, List.setIfInBounds_toArray, List.set_cons_zero, List.set_cons_succ])
   refine ordC_l rfl rfl (fun K hK => ?_)
   go_simp
   refine (HD _).out.mono ?_
   rintro en w2 ⟨rfl, hb2⟩
   have HB2 := hid (HB.out.drew.trans (hb2.mono HB.out.drew.size))
   refine hK _ _ ⟨trivial, (HX.out.drew.keep hb2).1 0, (HX.out.drew.keep hb2).1 1⟩ ?_
   clear hK K hb2
   repeat ((first | refine ordC_skip rfl rfl ?_ | refine ordC_skip1 rfl rfl ?_ | ((first | refine ordC_q rfl rfl ?_ | refine ordC_p rfl rfl ?_); apply Exists.intro; refine ⟨fun wS hS => ?_, ?_⟩; (go_simp; try with_reducible rfl))); simp only [Act.put, List.setIfInBounds_toArray, List.set_cons_zero, List.set_cons_succ])
   refine ordC_nil ?_
   go_wp2_with fail
   go_ret
   exact ⟨congrArg (fun s => Ending.returned (.string s)) (cat3 n [46] (digs m)), HB2.out⟩
end Yd
