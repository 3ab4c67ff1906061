import Derived.Test.YthdpangjphphjaaGreatDoorRdB
import Derived.Laws.BytesArg
import Derived.Test.YthdpangjphphjaaGreatDoorProg
import Derived.Test.YthdpangjphphjaaGreatDoorOwn
import Derived.Test.YthdpangjphphjaaGreatDoorRdT
set_option maxRecDepth 200000
set_option maxHeartbeats 8000000
namespace Yd
open Go Go.RowKit Go.Proofs

def encU8 (b : UInt8) : List Value := [.int .u8 (b.toNat : Int)]
instance cInsU8 : Cells encU8 1 := ⟨fun _ => rfl, by decide, fun x u h => by simp [encU8] at h; subst h; rfl⟩
theorem infoU8 : (Tryz.prog.info? 5).map (fun i => (i.zero.map (·.cells.size), i.size, i.bytes)) = some (some 1, 1, 1) := by kernel_rfl
theorem partsU8 : ∃ i z, Tryz.prog.info? 5 = some i ∧ i.zero = some z ∧ i.size = 1 ∧ i.bytes = 1 ∧ z.cells.size = 1 := parts_of infoU8

def digF : Nat → Nat → Bs
 | 0, _ => []
 | f + 1, n => if n = 0 then [] else digF f (n / 10) ++ [UInt8.ofNat (48 + n % 10)]
theorem digF_enough : ∀ (f g n : Nat), n ≤ f → n ≤ g → digF f n = digF g n
 | 0, 0, _, _, _ => rfl
 | 0, g + 1, n, hf, _ => by obtain rfl : n = 0 := by omega
                            simp [digF]
 | f + 1, 0, n, _, hg => by obtain rfl : n = 0 := by omega
                            simp [digF]
 | f + 1, g + 1, n, hf, hg => by
   simp only [digF]
   split
   · rfl
   · rw [digF_enough f g (n / 10) (by omega) (by omega)]
def digs (n : Nat) : Bs := digF n n
theorem digs_step {n : Nat} (h : 0 < n) : digs n = digs (n / 10) ++ [UInt8.ofNat (48 + n % 10)] := by
 obtain ⟨m, rfl⟩ : ∃ m, n = m + 1 := ⟨n - 1, by omega⟩
 show digF (m + 1) (m + 1) = _
 simp only [digF]
 rw [if_neg (by omega), digF_enough m ((m + 1) / 10) _ (by omega) (Nat.le_refl _)]
 rfl
theorem digs_len : ∀ (d n : Nat), n < 10 ^ d → (digs n).length ≤ d
 | d, 0, _ => by simp [digs, digF]
 | 0, n + 1, h => by simp at h
 | d + 1, n + 1, h => by
   rw [digs_step (by omega), List.length_append, List.length_singleton]
   have := digs_len d ((n + 1) / 10) (by rw [Nat.pow_succ] at h; omega)
   omega

theorem Own.newU8 (X : World) (B m : Nat) (hB : B ≤ X.heap.size) : Own (X.alloc (.cells #[.int .u8 (48 + (m : Int) % 10)] 5)) B 5 1 encU8 (.slice (some ⟨X.heap.size, 0, none⟩) 1 1) [UInt8.ofNat (48 + m % 10)] :=
 Own.new (hc := cInsU8) X B 5 #[.int .u8 (48 + (m : Int) % 10)] [UInt8.ofNat (48 + m % 10)] hB (by
   simp [encU8]; omega) (by simp [maxLen])

theorem digit_Text (n : Nat) (h1 : 1 ≤ n) (hn : n ≤ 100000) (w : World) : Calls Tryz.prog 102 #[.int .i64 n] w (Ret (.string ⟨(digs n).toArray⟩) w) := by
 obtain ⟨i, z, hi, hz, hsize, hby', hzs⟩ := partsU8
 have HI := hid (⟨hi, hz, hsize, hby', hzs⟩ : _ ∧ _ ∧ _ ∧ _ ∧ _)
 clear hi hz hsize hby' hzs
 go_enter Tryz.func102, Tryz.ntmps102
 go_wp2_with fail
 go_loopw [3, 4, 5] (fun v o b wr => ∃ (m : Nat) (a0 : Option Addr) (c0 : Nat) (ds : Bs) (f : Bool), v = .int .u64 m ∧ o = .slice a0 ds.length c0 ∧ b = .bool f ∧ digs n = digs m ++ ds ∧ (f = true → 0 < m) ∧ m ≤ n ∧ ds.length ≤ n ∧ ds.length + m ≤ n ∧
     Own wr w.heap.size 5 1 encU8 (.slice a0 ds.length c0) ds ∧ Below w.heap.size w wr) (fun v _ _ _ => (RowKit.intOf v).toNat)
 case atStart => exact ⟨n, none, 0, [], true, rfl, rfl, rfl, by simp, fun _ => by omega, Nat.le_refl _, Nat.zero_le _, by simp, Own.nil_ _ _ _ _ _, Below.refl _ _⟩
 case round =>
   obtain ⟨m, a0, c0, ds, f, rfl, rfl, rfl, hd, hf, hm, hl, hlm, how, hbw⟩ := hrel
   by_cases h0 : 0 < m
   · have HOW := hid how; have HBW := hid hbw; have HD := hid hd
     have HGT : ((10 : Int) > 0) := by decide
     clear how hbw hd
     have hm0 : ((m : Int) > 0) := by omega
     have HNW := hid (Own.newU8 wr w.heap.size m HBW.out.size)
     have HROW := hid ((HOW.out.below (belowA (Below.refl _ _) (.cells #[.int .u8 (48 + (m : Int) % 10)] 5)) rfl).row (by omega))
     have HN1 : Hid ([UInt8.ofNat (48 + m % 10)].length + ds.length = 1 + ds.length) := hid rfl
     have HN2 : Hid ((1 + ds.length) * 1 ≤ 140737488355328) := hid (by omega)
     have HN3 : Hid (1 + ds.length ≤ maxLen) := hid (by unfold maxLen; omega)
     have HN4 : Hid (w.heap.size ≤ (wr.alloc (.cells #[.int .u8 (48 + (m : Int) % 10)] 5)).heap.size) := hid (by have := HBW.out.size; simp; omega)
     have HB2 := hid ((HBW.out).alloc HBW.out.size (.cells #[.int .u8 (48 + (m : Int) % 10)] 5))
     have HD2 : Hid (digs n = digs (m / 10) ++ (UInt8.ofNat (48 + m % 10) :: ds)) := hid (by rw [HD.out, digs_step h0, List.append_assoc]; rfl)
     clear hf
     cases f
     · go_wp2_with (at_builtin; refine wpList_app rfl _ _ 99 rfl i z 1 Tryz.underlying99 HI.out.1 HI.out.2.1 HI.out.2.2.1 HI.out.2.2.2.1 HI.out.2.2.2.2 rfl HNW.out a0 ds.length c0 (1 + ds.length) ds rfl HROW.out HN1.out HN2.out HN3.out HN4.out ?_; intro a' c' w1 hown1 hg1 hat1)
       have HR1 := hid (⟨hown1, below_app HB2.out HNW.out (Nat.le_refl _) HN4.out hg1⟩ : _ ∧ _)
       clear hown1 hg1 hat1
       go_roundw
       case rel => exact ⟨m / 10, a', c', UInt8.ofNat (48 + m % 10) :: ds, false, by go_num, by rw [List.length_cons, Nat.add_comm], rfl, HD2.out, fun h => (by cases h), by omega, by rw [List.length_cons]; omega, by rw [List.length_cons]; omega, by rw [List.length_cons, Nat.add_comm]; exact HR1.out.1, HR1.out.2⟩
       case measure => simp [RowKit.intOf]; omega
     · go_wp2_with (at_builtin; refine wpList_app rfl _ _ 99 rfl i z 1 Tryz.underlying99 HI.out.1 HI.out.2.1 HI.out.2.2.1 HI.out.2.2.2.1 HI.out.2.2.2.2 rfl HNW.out a0 ds.length c0 (1 + ds.length) ds rfl HROW.out HN1.out HN2.out HN3.out HN4.out ?_; intro a' c' w1 hown1 hg1 hat1)
       have HR1 := hid (⟨hown1, below_app HB2.out HNW.out (Nat.le_refl _) HN4.out hg1⟩ : _ ∧ _)
       clear hown1 hg1 hat1
       go_roundw
       case rel => exact ⟨m / 10, a', c', UInt8.ofNat (48 + m % 10) :: ds, false, by go_num, by rw [List.length_cons, Nat.add_comm], rfl, HD2.out, fun h => (by cases h), by omega, by rw [List.length_cons]; omega, by rw [List.length_cons]; omega, by rw [List.length_cons, Nat.add_comm]; exact HR1.out.1, HR1.out.2⟩
       case measure => simp [RowKit.intOf]; omega
   · obtain rfl : m = 0 := by omega
     obtain rfl : f = false := by cases f; rfl; exact absurd (hf rfl) (by omega)
     obtain rfl : ds = digs n := by simpa [digs, digF] using hd.symm
     have hpos : 0 < (digs n).length := by rw [digs_step (by omega)]; simp
     have hrow := how.row (by omega)
     obtain ⟨_, bb, oo, _, rfl, _⟩ := hrow.at_ hpos
     have hcv : (convert 99 9 (.slice (some ⟨bb, oo, none⟩) (digs n).length c0)).run Tryz.prog wr = .ok (.string (strOfNums ((digs n).map (fun u => (u.toNat : Int))))) wr :=
       run_convert_bytes_arg wr 99 5 Tryz.underlying99 Tryz.underlying5 bb oo _ c0 ((digs n).map (fun u => (u.toNat : Int))) (by simp) (fun i hi => by
         obtain ⟨x, b', o', hx, hab, hc⟩ := hrow.at_ hi
         cases hab
         have := hc 0 _ rfl
         rw [Nat.mul_one, Nat.add_zero] at this
         rw [this, List.getD_eq_getElem?_getD, List.getElem?_map, hx]; rfl) 9 Tryz.underlying9
     have hst : strOfNums ((digs n).map (fun u => (u.toNat : Int))) = ⟨(digs n).toArray⟩ := by
       unfold strOfNums
       rw [List.map_map]
       congr 2
       conv => rhs; rw [← List.map_id (digs n)]
       apply List.map_congr_left
       intro u _
       simp
     rw [hst] at hcv
     have HBW := hid hbw
     clear how hbw hd hrow hst hpos
     go_wp2_with fail
     go_ret
     exact ⟨rfl, HBW.out⟩
end Yd


namespace Yd
open Go Go.RowKit Go.Proofs

theorem cat2 (a b : Bs) : (⟨a.toArray⟩ ++ ⟨b.toArray⟩ : ByteArray) = ⟨(a ++ b).toArray⟩ := by
 apply ByteArray.ext; simp
theorem cat3 (a b c : Bs) : (⟨a.toArray⟩ ++ ⟨b.toArray⟩ ++ ⟨c.toArray⟩ : ByteArray) = ⟨(a ++ (b ++ c)).toArray⟩ := by
 rw [cat2, cat2, List.append_assoc]
def toldT (t : To) : Bs := if t.k = 0 then [45] else t.name ++ 46 :: digs t.k.toNat

theorem line_told (t : To) (h0 : 0 ≤ t.k) (h9 : t.k ≤ 999) (hn : t.name.length ≤ 100000) (w : World) : Calls Tryz.prog 45 #[valTo t] w (Ret (.string ⟨(toldT t).toArray⟩) w) := by
 obtain ⟨n, k⟩ := t
 simp only at h0 h9 hn
 obtain ⟨m, rfl⟩ : ∃ m : Nat, k = m := ⟨k.toNat, by omega⟩
 by_cases hm : m = 0
 · subst hm
   go_enter Tryz.func45, Tryz.ntmps45
   go_wp2_with fail
   go_ret
   exact ⟨rfl, belowA (Below.refl _ _) _⟩
 · have hk : ((m : Int) == 0) = false := beq_eq_false_iff_ne.2 (by omega)
   have hq : toldT ⟨n, m⟩ = n ++ 46 :: digs m := by
     unfold toldT
     rw [if_neg (by simpa using hm), Int.toNat_natCast]
   rw [hq]
   have HD := fun W => hid (digit_Text m (by omega) (by omega) W)
   have HB := hid (belowA (Below.refl w.heap.size w) (.cells #[.string ⟨n.toArray⟩, .int .i64 m] 67))
   have HX := hid (Bx.new w #[.string ⟨n.toArray⟩, .int .i64 m] 67)
   have hd3 : (digs m).length ≤ 3 := digs_len 3 m (by omega)
   have hN1 : ¬ (9223372036854775807 < n.length + 1) := by omega
   have hN2 : ¬ (9223372036854775807 < n.length + 1 + (digs m).length) := by omega
   clear hq h0 h9
   go_enter Tryz.func45, Tryz.ntmps45
   go_wp2_with fail
   refine wp_region_ordC 8 [(0, 0), (1, 0), (2, 0), (3, 0), (4, 0), (5, 2), (6, 0), (7, 0)] (fun _ => True) (fun W' => W'.cell? ⟨w.heap.size, 0, none⟩ = some (.string ⟨n.toArray⟩) ∧ W'.cell? ⟨w.heap.size, 1, none⟩ = some (.int .i64 m)) (by kernel_rfl) (by kernel_rfl) (trivial) (⟨HX.out.1 0, HX.out.1 1⟩) ?_
   repeat ((first | refine ordC_skip rfl rfl ?_ | refine ordC_skip1 rfl rfl ?_ | ((first | refine ordC_q rfl rfl ?_ | refine ordC_p rfl rfl ?_); apply Exists.intro; refine ⟨fun wS hS => ?_, ?_⟩; (go_simp; try with_reducible rfl))); simp only [Act.put, List.setIfInBounds_toArray, List.set_cons_zero, List.set_cons_succ])
   refine ordC_l rfl rfl (fun K hK => ?_)
   go_simp
   refine (HD _).out.mono ?_
   rintro en w2 ⟨rfl, hb2⟩
   have HB2 := hid (HB.out.drew.trans (hb2.mono HB.out.drew.size))
   refine hK _ _ ⟨trivial, (HX.out.drew.keep hb2).1 0, (HX.out.drew.keep hb2).1 1⟩ ?_
   clear hK K hb2
   repeat ((first | refine ordC_skip rfl rfl ?_ | refine ordC_skip1 rfl rfl ?_ | ((first | refine ordC_q rfl rfl ?_ | refine ordC_p rfl rfl ?_); apply Exists.intro; refine ⟨fun wS hS => ?_, ?_⟩; (go_simp; try with_reducible rfl))); simp only [Act.put, List.setIfInBounds_toArray, List.set_cons_zero, List.set_cons_succ])
   refine ordC_nil ?_
   go_wp2_with fail
   go_ret
   exact ⟨congrArg (fun s => Ending.returned (.string s)) (cat3 n [46] (digs m)), HB2.out⟩
end Yd


namespace Yd
open Go Go.RowKit Go.Proofs

theorem comm_drop {x t : Bs} {k : Nat} {a : UInt8} (h1 : x[k]? = some a) (h2 : t[k]? = some a) : commS (x.drop k) (t.drop k) = commS (x.drop (k + 1)) (t.drop (k + 1)) + 1 := by
 obtain ⟨l1, e1⟩ := List.getElem?_eq_some_iff.1 h1
 obtain ⟨l2, e2⟩ := List.getElem?_eq_some_iff.1 h2
 rw [List.drop_eq_getElem_cons l1, List.drop_eq_getElem_cons l2, e1, e2]
 simp [commS]
theorem comm_stop {x t : Bs} {k : Nat} (h : x.length ≤ k ∨ t.length ≤ k ∨ ∃ a b, x[k]? = some a ∧ t[k]? = some b ∧ a ≠ b) : commS (x.drop k) (t.drop k) = 0 := by
 rcases h with h | h | ⟨a, b, h1, h2, h3⟩
 · rw [List.drop_eq_nil_of_le h]; simp [commS]
 · rw [List.drop_eq_nil_of_le h]; cases x.drop k <;> simp [commS]
 · obtain ⟨l1, e1⟩ := List.getElem?_eq_some_iff.1 h1
   obtain ⟨l2, e2⟩ := List.getElem?_eq_some_iff.1 h2
   rw [List.drop_eq_getElem_cons l1, List.drop_eq_getElem_cons l2, e1, e2]
   simp [commS, h3]
theorem comm_le (x t : Bs) : commS x t ≤ t.length := by
 induction x generalizing t with
 | nil => simp [commS]
 | cons a x ih =>
   cases t with
   | nil => simp [commS]
   | cons b t =>
     simp only [commS]
     split
     · have := ih t; simp; omega
     · simp
theorem far_snoc (ws : List Bs) (s t : Bs) : farS (ws ++ [s]) t = max (farS ws t) (commS s t) := by simp [farS]
theorem far_le (ws : List Bs) (t : Bs) : farS ws t ≤ t.length := by
 have : ∀ (ws : List Bs) (m : Nat), m ≤ t.length → ws.foldl (fun m s => max m (commS s t)) m ≤ t.length := by
   intro ws
   induction ws with
   | nil => intro m hm; exact hm
   | cons s ws ih => intro m hm; exact ih (max m (commS s t)) (Nat.max_le.2 ⟨hm, comm_le s t⟩)
 exact this ws 0 (Nat.zero_le _)
theorem rd_word {R p : Nat} {s l : Bs} {c : LnC} {n : LnS} (w : World) (h : RdC w R s p l c n) (a : Option Addr) (nn cc : Nat) (ws : List Bs) (hr : Row w 1 encStr a nn cc ws) (hnn : nn ≤ 100) (hw : ∀ x ∈ ws, x.length ≤ 100) (hwa : ∀ x ∈ ws, (128 : UInt8) ∉ x) :
   Calls Tryz.prog 72 #[.pointer (some ⟨R, 0, none⟩), .slice a nn cc] w (RdRet R s c n w (fun i : Nat => .int .i64 i) (wordS ws l)) := by
 have HS := hid (rd_stretch w h)
 obtain ⟨X, hX⟩ : ∃ X, X = wordS ws l := ⟨_, rfl⟩
 rw [← hX]
 obtain ⟨T, hT⟩ : ∃ T, T = stretchS l := ⟨_, rfl⟩
 rw [← hT] at HS
 obtain ⟨Wh, hWh⟩ : ∃ Wh, Wh = wholeS l := ⟨_, rfl⟩
 have hTl : T.length ≤ l.length := by rw [hT]; have := len_takeWhile wcB l; unfold stretchS; omega
 have hcs : (l.drop T.length = [] ∧ Wh = T) ∨ (∃ b t, l.drop T.length = b :: t ∧ b.toNat < 128 ∧ Wh = T) ∨ (∃ b t, l.drop T.length = b :: t ∧ 128 ≤ b.toNat ∧ Wh = T ++ [128]) := by
   unfold wholeS at hWh
   rw [← hT] at hWh
   cases hd : l.drop T.length with
   | nil => rw [hd] at hWh; exact .inl ⟨rfl, hWh⟩
   | cons b t =>
     rw [hd] at hWh
     simp only [List.head?_cons] at hWh
     by_cases h1 : (128 : UInt8) ≤ b
     · rw [if_pos h1] at hWh; exact .inr (.inr ⟨b, t, rfl, h1, hWh⟩)
     · rw [if_neg h1] at hWh; exact .inr (.inl ⟨b, t, rfl, Nat.lt_of_not_le h1, hWh⟩)
 have hlen := h.len; have hlim := h.lim
 have HX := hid hX; have HT := hid hT; have HWH := hid hWh; have HH := hid h; have HR := hid hr; have HW := hid hw; have HWA := hid hwa
 have hz := bsz s; have hzT := bsz T
 clear hX hT hWh h hr hw hwa
 rcases hcs with ⟨hd, hWT⟩ | ⟨b, t, hd, hb, hWT⟩ | ⟨b, t, hd, hb, hWT⟩
 · have hend : p + T.length = s.length := by
     have := congrArg List.length hd
     simp at this; omega
   subst hWT
   have hd1 : decide ((p : Int) + (Wh.length : Int) < (s.length : Int)) = false := decide_eq_false (by omega)
   clear hd
   go_enter Tryz.func72, Tryz.ntmps72
   go_wp2_with fail
   refine HS.out.mono ?_
   rintro e w1 ⟨rfl, hb1⟩
   have H1 := hid (HH.out.below hb1); have HB1 := hid hb1
   have c0 := H1.out.c0; have c1 := H1.out.c1
   clear hb1
   go_wp2_with (go_quiet (fail))
   clear hd1 c0 c1
   go_loopw [8, 47] (fun f i wr => ∃ k m : Nat, k ≤ nn ∧ i = .int .i64 k ∧ f = .int .i64 m ∧ m = farS (ws.take k) Wh ∧ (∀ x ∈ ws.take k, x ≠ Wh) ∧ Below w.heap.size w wr) (fun _ i _ => nn - (RowKit.intOf i).toNat)
   case atStart => exact ⟨0, 0, Nat.zero_le _, rfl, rfl, rfl, by simp, belowN HB1.out _⟩
   case round =>
     obtain ⟨k, m, hk, rfl, rfl, hm, hne, hbw⟩ := hrel
     have hmt : m ≤ Wh.length := by rw [hm]; exact far_le _ _
     have hml : m ≤ 1000000 := by omega
     by_cases hlt : k < nn
     · obtain ⟨x, b', o, hx, rfl, hc⟩ := (HR.out.below hbw rfl).at_ hlt
       have hc0 := hc 0 _ rfl
       simp only [Nat.mul_one, Nat.add_zero] at hc0
       have hxw : x ∈ ws := List.mem_of_getElem? hx
       have hxl := HW.out x hxw
       have HBW := hid hbw; have HM := hid hm; have HNE := hid hne; have HXX := hid hx; have HXW := hid hxw
       have HC := hid (HH.out.below hbw)
       have c1 := HC.out.c1; have z1 := f1 HC.out 1
       clear hc hbw hm hne hx hxw
       cases hxe : x == Wh
       · clear c1 z1
         have END : Hid (∀ (W' : World) (q : Nat), Below w.heap.size w W' → commS x Wh = q → ∃ k' m' : Nat, k' ≤ nn ∧ Value.int .i64 ((k : Int) + 1) = .int .i64 k' ∧ Value.int .i64 (max (m : Int) (q : Int)) = .int .i64 m' ∧ m' = farS (ws.take k') Wh ∧ (∀ y ∈ ws.take k', y ≠ Wh) ∧ Below w.heap.size w W') := hid (fun W' q hb hq =>
           ⟨k + 1, max m q, by omega, by rw [Int.natCast_add]; rfl, congrArg (Value.int .i64) (by omega), by rw [List.take_add_one, HXX.out, Option.toList_some, far_snoc, hq, ← HM.out], fun y hy => by
             rw [List.take_add_one, HXX.out] at hy
             rcases List.mem_append.1 hy with hy | hy
             · exact HNE.out y hy
             · obtain rfl : y = x := by simpa using hy
               exact fun e => by rw [e] at hxe; simp at hxe, hb⟩)
         go_wp2_with fail
         go_loopw [11] (fun j wx => ∃ W, W = wx ∧ ∃ q : Nat, j = .int .i64 q ∧ q ≤ Wh.length ∧ q ≤ x.length ∧ commS (x.drop q) (Wh.drop q) + q = commS x Wh ∧ Below w.heap.size w W) (fun j _ => Wh.length - (RowKit.intOf j).toNat)
         case atStart => exact ⟨_, rfl, 0, rfl, Nat.zero_le _, Nat.zero_le _, by simp, HBW.out⟩
         case round =>
           obtain ⟨W, rfl, q, rfl, hqT, hqx, hcm, hbx⟩ := hrel
           have HBX := hid hbx; have HCM := hid hcm
           clear hbx hcm
           by_cases h1 : q < x.length
           · by_cases h2 : q < Wh.length
             · have hd3 : decide ((q : Int) < min (x.length : Int) (Wh.length : Int)) = true := decide_eq_true (by omega)
               obtain ⟨a1, ha1⟩ : ∃ a1, x[q]? = some a1 := ⟨_, List.getElem?_eq_getElem h1⟩
               obtain ⟨a2, ha2⟩ : ∃ a2, Wh[q]? = some a2 := ⟨_, List.getElem?_eq_getElem h2⟩
               have hi1 := fun W => run_ix Tryz.underlying9 x q a1 ha1 W
               have hi2 := fun W => run_ix Tryz.underlying9 Wh q a2 ha2 W
               have HA1 := hid ha1; have HA2 := hid ha2; have HL := hid (⟨h1, h2⟩ : _ ∧ _)
               clear ha1 ha2 h1 h2
               by_cases he : a1 = a2
               · have hb : ((a1.toNat : Int) == (a2.toNat : Int)) = true := by simp [he]
                 have HE := hid he; clear he
                 go_wp2_with (go_quiet (fail))
                 go_roundw
                 case rel => exact ⟨_, rfl, q + 1, by go_num, HL.out.2, HL.out.1, by have := comm_drop HA1.out (HE.out ▸ HA2.out); have := HCM.out; omega, belowN HBX.out _⟩
                 case measure => have := HL.out.2; simp [RowKit.intOf]; omega
               · have hb : ((a1.toNat : Int) == (a2.toNat : Int)) = false := beq_eq_false_iff_ne.2 (fun e => he (UInt8.toNat_inj.1 (by omega)))
                 have HE := hid he; clear he
                 go_wp2_with (go_quiet (fail))
                 go_roundw
                 case rel => exact END.out _ q (belowN HBX.out _) (by have := comm_stop (.inr (.inr ⟨a1, a2, HA1.out, HA2.out, HE.out⟩)); have := HCM.out; omega)
                 case measure => simp [RowKit.intOf]; omega
             · have hd3 : decide ((q : Int) < min (x.length : Int) (Wh.length : Int)) = false := decide_eq_false (by omega)
               have HL := hid h2; clear h2
               go_wp2_with (go_quiet (fail))
               go_roundw
               case rel => exact END.out _ q (belowN HBX.out _) (by have := comm_stop (x := x) (t := Wh) (k := q) (.inr (.inl (by have := HL.out; omega))); have := HCM.out; omega)
               case measure => simp [RowKit.intOf]; omega
           · have hd3 : decide ((q : Int) < min (x.length : Int) (Wh.length : Int)) = false := decide_eq_false (by omega)
             have HL := hid h1; clear h1
             go_wp2_with (go_quiet (fail))
             go_roundw
             case rel => exact END.out _ q (belowN HBX.out _) (by have := comm_stop (x := x) (t := Wh) (k := q) (.inl (by have := HL.out; omega)); have := HCM.out; omega)
             case measure => simp [RowKit.intOf]; omega
       · obtain ⟨q, hq⟩ : ∃ q : Nat, q = p + Wh.length := ⟨_, rfl⟩
         have hxW : x = Wh := by simpa using hxe
         have hqi : (p : Int) + (x.length : Int) = (q : Int) := by rw [hxW]; omega
         have hqb : q ≤ 1000000 := by omega
         have ht := HC.out.to Wh.length rfl hTl q hq
         have HT2 := hid ht.1; have HM2 := hid ((Mv.of_below (R := R) (c := c) HBW.out).trans ht.2)
         have HWO : Hid (wordS ws l = .ok (k, l.drop Wh.length)) := hid (by
           unfold wordS
           rw [← HT.out, ← HWH.out, findIdx?_take (fun s => s == Wh) ws k (List.findIdx?_eq_none_iff.2 (fun y hy => by simpa using HNE.out y hy)) x HXX.out hxe])
         clear ht hq hxW
         go_wp2_with fail
         go_ret
         show RdRet R s c n w _ _ _ _
         rw [HX.out, HWO.out]
         exact ⟨rfl, q, HT2.out, HM2.out⟩
     · obtain rfl : k = nn := by omega
       have hF : ∀ W, Calls Tryz.prog 27 #[.int .i64 ((p : Int) + (m : Int)), .int .i64 220] W (fun e w' => e = .panicked (wrongP (p + m) 220) ∧ w' = W) := fun W => by
         have := rd_fail (p + m) 220 W
         rwa [Int.natCast_add] at this
       have HF := fun W => hid (hF W)
       have htk : ws.take k = ws := List.take_of_length_le (by rw [HR.out.len]; exact Nat.le_refl _)
       rw [htk] at hm hne
       have HWO : Hid (wordS ws l = .error (l.drop m, 220)) := hid (by
         unfold wordS
         rw [← HT.out, ← HWH.out, List.findIdx?_eq_none_iff.2 (fun y hy => by simpa using hne y hy), ← hm])
       have HBW := hid hbw
       have HC := hid (HH.out.below hbw)
       have c1 := HC.out.c1
       clear hm hne hbw hF htk
       go_wp2_with fail
       refine (HF _).out.mono ?_
       rintro e w4 ⟨rfl, rfl⟩
       refine ⟨rfl, ?_⟩
       show RdRet R s c n w _ _ _ _
       rw [HX.out, HWO.out]
       refine ⟨?_, Same.of_below HBW.out (fun _ _ h => h)⟩
       rw [show s.length - (l.drop m).length = p + m by rw [List.length_drop]; omega]
 · have hend : p + T.length < s.length := by
     have := congrArg List.length hd
     simp at this; omega
   subst hWT
   have hd1 : decide ((p : Int) + (Wh.length : Int) < (s.length : Int)) = true := decide_eq_true (by omega)
   have hsb : s[p + Wh.length]? = some b := by
     have := congrArg (fun l => l[0]?) hd
     rw [← HH.out.d] at this
     simpa using this
   have hix := fun W => run_ix Tryz.underlying9 s (p + Wh.length) b hsb W
   rw [Int.natCast_add] at hix
   have hb1' : decide ((128 : Int) ≤ (b.toNat : Int)) = false := decide_eq_false (by omega)
   clear hd hsb
   go_enter Tryz.func72, Tryz.ntmps72
   go_wp2_with fail
   refine HS.out.mono ?_
   rintro e w1 ⟨rfl, hb1⟩
   have H1 := hid (HH.out.below hb1); have HB1 := hid hb1
   have c0 := H1.out.c0; have c1 := H1.out.c1
   clear hb1
   go_wp2_with (go_quiet (fail))
   clear hd1 c0 c1
   go_loopw [8, 47] (fun f i wr => ∃ k m : Nat, k ≤ nn ∧ i = .int .i64 k ∧ f = .int .i64 m ∧ m = farS (ws.take k) Wh ∧ (∀ x ∈ ws.take k, x ≠ Wh) ∧ Below w.heap.size w wr) (fun _ i _ => nn - (RowKit.intOf i).toNat)
   case atStart => exact ⟨0, 0, Nat.zero_le _, rfl, rfl, rfl, by simp, belowN HB1.out _⟩
   case round =>
     obtain ⟨k, m, hk, rfl, rfl, hm, hne, hbw⟩ := hrel
     have hmt : m ≤ Wh.length := by rw [hm]; exact far_le _ _
     have hml : m ≤ 1000000 := by omega
     by_cases hlt : k < nn
     · obtain ⟨x, b', o, hx, rfl, hc⟩ := (HR.out.below hbw rfl).at_ hlt
       have hc0 := hc 0 _ rfl
       simp only [Nat.mul_one, Nat.add_zero] at hc0
       have hxw : x ∈ ws := List.mem_of_getElem? hx
       have hxl := HW.out x hxw
       have HBW := hid hbw; have HM := hid hm; have HNE := hid hne; have HXX := hid hx; have HXW := hid hxw
       have HC := hid (HH.out.below hbw)
       have c1 := HC.out.c1; have z1 := f1 HC.out 1
       clear hc hbw hm hne hx hxw
       cases hxe : x == Wh
       · clear c1 z1
         have END : Hid (∀ (W' : World) (q : Nat), Below w.heap.size w W' → commS x Wh = q → ∃ k' m' : Nat, k' ≤ nn ∧ Value.int .i64 ((k : Int) + 1) = .int .i64 k' ∧ Value.int .i64 (max (m : Int) (q : Int)) = .int .i64 m' ∧ m' = farS (ws.take k') Wh ∧ (∀ y ∈ ws.take k', y ≠ Wh) ∧ Below w.heap.size w W') := hid (fun W' q hb hq =>
           ⟨k + 1, max m q, by omega, by rw [Int.natCast_add]; rfl, congrArg (Value.int .i64) (by omega), by rw [List.take_add_one, HXX.out, Option.toList_some, far_snoc, hq, ← HM.out], fun y hy => by
             rw [List.take_add_one, HXX.out] at hy
             rcases List.mem_append.1 hy with hy | hy
             · exact HNE.out y hy
             · obtain rfl : y = x := by simpa using hy
               exact fun e => by rw [e] at hxe; simp at hxe, hb⟩)
         go_wp2_with fail
         go_loopw [11] (fun j wx => ∃ W, W = wx ∧ ∃ q : Nat, j = .int .i64 q ∧ q ≤ Wh.length ∧ q ≤ x.length ∧ commS (x.drop q) (Wh.drop q) + q = commS x Wh ∧ Below w.heap.size w W) (fun j _ => Wh.length - (RowKit.intOf j).toNat)
         case atStart => exact ⟨_, rfl, 0, rfl, Nat.zero_le _, Nat.zero_le _, by simp, HBW.out⟩
         case round =>
           obtain ⟨W, rfl, q, rfl, hqT, hqx, hcm, hbx⟩ := hrel
           have HBX := hid hbx; have HCM := hid hcm
           clear hbx hcm
           by_cases h1 : q < x.length
           · by_cases h2 : q < Wh.length
             · have hd3 : decide ((q : Int) < min (x.length : Int) (Wh.length : Int)) = true := decide_eq_true (by omega)
               obtain ⟨a1, ha1⟩ : ∃ a1, x[q]? = some a1 := ⟨_, List.getElem?_eq_getElem h1⟩
               obtain ⟨a2, ha2⟩ : ∃ a2, Wh[q]? = some a2 := ⟨_, List.getElem?_eq_getElem h2⟩
               have hi1 := fun W => run_ix Tryz.underlying9 x q a1 ha1 W
               have hi2 := fun W => run_ix Tryz.underlying9 Wh q a2 ha2 W
               have HA1 := hid ha1; have HA2 := hid ha2; have HL := hid (⟨h1, h2⟩ : _ ∧ _)
               clear ha1 ha2 h1 h2
               by_cases he : a1 = a2
               · have hb : ((a1.toNat : Int) == (a2.toNat : Int)) = true := by simp [he]
                 have HE := hid he; clear he
                 go_wp2_with (go_quiet (fail))
                 go_roundw
                 case rel => exact ⟨_, rfl, q + 1, by go_num, HL.out.2, HL.out.1, by have := comm_drop HA1.out (HE.out ▸ HA2.out); have := HCM.out; omega, belowN HBX.out _⟩
                 case measure => have := HL.out.2; simp [RowKit.intOf]; omega
               · have hb : ((a1.toNat : Int) == (a2.toNat : Int)) = false := beq_eq_false_iff_ne.2 (fun e => he (UInt8.toNat_inj.1 (by omega)))
                 have HE := hid he; clear he
                 go_wp2_with (go_quiet (fail))
                 go_roundw
                 case rel => exact END.out _ q (belowN HBX.out _) (by have := comm_stop (.inr (.inr ⟨a1, a2, HA1.out, HA2.out, HE.out⟩)); have := HCM.out; omega)
                 case measure => simp [RowKit.intOf]; omega
             · have hd3 : decide ((q : Int) < min (x.length : Int) (Wh.length : Int)) = false := decide_eq_false (by omega)
               have HL := hid h2; clear h2
               go_wp2_with (go_quiet (fail))
               go_roundw
               case rel => exact END.out _ q (belowN HBX.out _) (by have := comm_stop (x := x) (t := Wh) (k := q) (.inr (.inl (by have := HL.out; omega))); have := HCM.out; omega)
               case measure => simp [RowKit.intOf]; omega
           · have hd3 : decide ((q : Int) < min (x.length : Int) (Wh.length : Int)) = false := decide_eq_false (by omega)
             have HL := hid h1; clear h1
             go_wp2_with (go_quiet (fail))
             go_roundw
             case rel => exact END.out _ q (belowN HBX.out _) (by have := comm_stop (x := x) (t := Wh) (k := q) (.inl (by have := HL.out; omega)); have := HCM.out; omega)
             case measure => simp [RowKit.intOf]; omega
       · obtain ⟨q, hq⟩ : ∃ q : Nat, q = p + Wh.length := ⟨_, rfl⟩
         have hxW : x = Wh := by simpa using hxe
         have hqi : (p : Int) + (x.length : Int) = (q : Int) := by rw [hxW]; omega
         have hqb : q ≤ 1000000 := by omega
         have ht := HC.out.to Wh.length rfl hTl q hq
         have HT2 := hid ht.1; have HM2 := hid ((Mv.of_below (R := R) (c := c) HBW.out).trans ht.2)
         have HWO : Hid (wordS ws l = .ok (k, l.drop Wh.length)) := hid (by
           unfold wordS
           rw [← HT.out, ← HWH.out, findIdx?_take (fun s => s == Wh) ws k (List.findIdx?_eq_none_iff.2 (fun y hy => by simpa using HNE.out y hy)) x HXX.out hxe])
         clear ht hq hxW
         go_wp2_with fail
         go_ret
         show RdRet R s c n w _ _ _ _
         rw [HX.out, HWO.out]
         exact ⟨rfl, q, HT2.out, HM2.out⟩
     · obtain rfl : k = nn := by omega
       have hF : ∀ W, Calls Tryz.prog 27 #[.int .i64 ((p : Int) + (m : Int)), .int .i64 220] W (fun e w' => e = .panicked (wrongP (p + m) 220) ∧ w' = W) := fun W => by
         have := rd_fail (p + m) 220 W
         rwa [Int.natCast_add] at this
       have HF := fun W => hid (hF W)
       have htk : ws.take k = ws := List.take_of_length_le (by rw [HR.out.len]; exact Nat.le_refl _)
       rw [htk] at hm hne
       have HWO : Hid (wordS ws l = .error (l.drop m, 220)) := hid (by
         unfold wordS
         rw [← HT.out, ← HWH.out, List.findIdx?_eq_none_iff.2 (fun y hy => by simpa using hne y hy), ← hm])
       have HBW := hid hbw
       have HC := hid (HH.out.below hbw)
       have c1 := HC.out.c1
       clear hm hne hbw hF htk
       go_wp2_with fail
       refine (HF _).out.mono ?_
       rintro e w4 ⟨rfl, rfl⟩
       refine ⟨rfl, ?_⟩
       show RdRet R s c n w _ _ _ _
       rw [HX.out, HWO.out]
       refine ⟨?_, Same.of_below HBW.out (fun _ _ h => h)⟩
       rw [show s.length - (l.drop m).length = p + m by rw [List.length_drop]; omega]
 · have hend : p + T.length < s.length := by
     have := congrArg List.length hd
     simp at this; omega
   have hd1 : decide ((p : Int) + (T.length : Int) < (s.length : Int)) = true := decide_eq_true (by omega)
   have hsb : s[p + T.length]? = some b := by
     have := congrArg (fun l => l[0]?) hd
     rw [← HH.out.d] at this
     simpa using this
   have hix := fun W => run_ix Tryz.underlying9 s (p + T.length) b hsb W
   rw [Int.natCast_add] at hix
   have hb1' : decide ((128 : Int) ≤ (b.toNat : Int)) = true := decide_eq_true (by omega)
   have hcat : ((⟨T.toArray⟩ : ByteArray) ++ ⟨#[128]⟩) = ⟨Wh.toArray⟩ := by rw [hWT]; exact cat2 T [128]
   have HWT := hid hWT
   clear hd hsb hWT
   go_enter Tryz.func72, Tryz.ntmps72
   go_wp2_with fail
   refine HS.out.mono ?_
   rintro e w1 ⟨rfl, hb1⟩
   have H1 := hid (HH.out.below hb1); have HB1 := hid hb1
   have c0 := H1.out.c0; have c1 := H1.out.c1
   clear hb1
   go_wp2_with (go_quiet (fail))
   clear hd1 c0 c1
   go_loopw [8, 47] (fun f i wr => ∃ k m : Nat, k ≤ nn ∧ i = .int .i64 k ∧ f = .int .i64 m ∧ m = farS (ws.take k) T ∧ (∀ x ∈ ws.take k, x ≠ Wh) ∧ Below w.heap.size w wr) (fun _ i _ => nn - (RowKit.intOf i).toNat)
   case atStart => exact ⟨0, 0, Nat.zero_le _, rfl, rfl, rfl, by simp, belowN HB1.out _⟩
   case round =>
     obtain ⟨k, m, hk, rfl, rfl, hm, hne, hbw⟩ := hrel
     have hmt : m ≤ T.length := by rw [hm]; exact far_le _ _
     have hml : m ≤ 1000000 := by omega
     by_cases hlt : k < nn
     · obtain ⟨x, b', o, hx, rfl, hc⟩ := (HR.out.below hbw rfl).at_ hlt
       have hc0 := hc 0 _ rfl
       simp only [Nat.mul_one, Nat.add_zero] at hc0
       have hxw : x ∈ ws := List.mem_of_getElem? hx
       have hxl := HW.out x hxw
       have HBW := hid hbw; have HM := hid hm; have HNE := hid hne; have HXX := hid hx; have HXW := hid hxw
       have HC := hid (HH.out.below hbw)
       have c1 := HC.out.c1; have z1 := f1 HC.out 1
       clear hc hbw hm hne hx hxw
       cases hxe : x == Wh
       · clear c1 z1
         have END : Hid (∀ (W' : World) (q : Nat), Below w.heap.size w W' → commS x T = q → ∃ k' m' : Nat, k' ≤ nn ∧ Value.int .i64 ((k : Int) + 1) = .int .i64 k' ∧ Value.int .i64 (max (m : Int) (q : Int)) = .int .i64 m' ∧ m' = farS (ws.take k') T ∧ (∀ y ∈ ws.take k', y ≠ Wh) ∧ Below w.heap.size w W') := hid (fun W' q hb hq =>
           ⟨k + 1, max m q, by omega, by rw [Int.natCast_add]; rfl, congrArg (Value.int .i64) (by omega), by rw [List.take_add_one, HXX.out, Option.toList_some, far_snoc, hq, ← HM.out], fun y hy => by
             rw [List.take_add_one, HXX.out] at hy
             rcases List.mem_append.1 hy with hy | hy
             · exact HNE.out y hy
             · obtain rfl : y = x := by simpa using hy
               exact fun e => by rw [e] at hxe; simp at hxe, hb⟩)
         go_wp2_with fail
         go_loopw [11] (fun j wx => ∃ W, W = wx ∧ ∃ q : Nat, j = .int .i64 q ∧ q ≤ T.length ∧ q ≤ x.length ∧ commS (x.drop q) (T.drop q) + q = commS x T ∧ Below w.heap.size w W) (fun j _ => T.length - (RowKit.intOf j).toNat)
         case atStart => exact ⟨_, rfl, 0, rfl, Nat.zero_le _, Nat.zero_le _, by simp, HBW.out⟩
         case round =>
           obtain ⟨W, rfl, q, rfl, hqT, hqx, hcm, hbx⟩ := hrel
           have HBX := hid hbx; have HCM := hid hcm
           clear hbx hcm
           by_cases h1 : q < x.length
           · by_cases h2 : q < T.length
             · have hd3 : decide ((q : Int) < min (x.length : Int) (T.length : Int)) = true := decide_eq_true (by omega)
               obtain ⟨a1, ha1⟩ : ∃ a1, x[q]? = some a1 := ⟨_, List.getElem?_eq_getElem h1⟩
               obtain ⟨a2, ha2⟩ : ∃ a2, T[q]? = some a2 := ⟨_, List.getElem?_eq_getElem h2⟩
               have hi1 := fun W => run_ix Tryz.underlying9 x q a1 ha1 W
               have hi2 := fun W => run_ix Tryz.underlying9 T q a2 ha2 W
               have HA1 := hid ha1; have HA2 := hid ha2; have HL := hid (⟨h1, h2⟩ : _ ∧ _)
               clear ha1 ha2 h1 h2
               by_cases he : a1 = a2
               · have hb : ((a1.toNat : Int) == (a2.toNat : Int)) = true := by simp [he]
                 have HE := hid he; clear he
                 go_wp2_with (go_quiet (fail))
                 go_roundw
                 case rel => exact ⟨_, rfl, q + 1, by go_num, HL.out.2, HL.out.1, by have := comm_drop HA1.out (HE.out ▸ HA2.out); have := HCM.out; omega, belowN HBX.out _⟩
                 case measure => have := HL.out.2; simp [RowKit.intOf]; omega
               · have hb : ((a1.toNat : Int) == (a2.toNat : Int)) = false := beq_eq_false_iff_ne.2 (fun e => he (UInt8.toNat_inj.1 (by omega)))
                 have HE := hid he; clear he
                 go_wp2_with (go_quiet (fail))
                 go_roundw
                 case rel => exact END.out _ q (belowN HBX.out _) (by have := comm_stop (.inr (.inr ⟨a1, a2, HA1.out, HA2.out, HE.out⟩)); have := HCM.out; omega)
                 case measure => simp [RowKit.intOf]; omega
             · have hd3 : decide ((q : Int) < min (x.length : Int) (T.length : Int)) = false := decide_eq_false (by omega)
               have HL := hid h2; clear h2
               go_wp2_with (go_quiet (fail))
               go_roundw
               case rel => exact END.out _ q (belowN HBX.out _) (by have := comm_stop (x := x) (t := T) (k := q) (.inr (.inl (by have := HL.out; omega))); have := HCM.out; omega)
               case measure => simp [RowKit.intOf]; omega
           · have hd3 : decide ((q : Int) < min (x.length : Int) (T.length : Int)) = false := decide_eq_false (by omega)
             have HL := hid h1; clear h1
             go_wp2_with (go_quiet (fail))
             go_roundw
             case rel => exact END.out _ q (belowN HBX.out _) (by have := comm_stop (x := x) (t := T) (k := q) (.inl (by have := HL.out; omega)); have := HCM.out; omega)
             case measure => simp [RowKit.intOf]; omega
       · exfalso
         have hxW : x = Wh := by simpa using hxe
         have h128 := HWA.out x HXW.out
         rw [hxW, HWT.out] at h128
         exact h128 (by simp)
     · obtain rfl : k = nn := by omega
       have hF : ∀ W, Calls Tryz.prog 27 #[.int .i64 ((p : Int) + (m : Int)), .int .i64 220] W (fun e w' => e = .panicked (wrongP (p + m) 220) ∧ w' = W) := fun W => by
         have := rd_fail (p + m) 220 W
         rwa [Int.natCast_add] at this
       have HF := fun W => hid (hF W)
       have htk : ws.take k = ws := List.take_of_length_le (by rw [HR.out.len]; exact Nat.le_refl _)
       rw [htk] at hm hne
       have HWO : Hid (wordS ws l = .error (l.drop m, 220)) := hid (by
         unfold wordS
         rw [← HT.out, ← HWH.out, List.findIdx?_eq_none_iff.2 (fun y hy => by simpa using hne y hy), ← hm])
       have HBW := hid hbw
       have HC := hid (HH.out.below hbw)
       have c1 := HC.out.c1
       clear hm hne hbw hF htk
       go_wp2_with fail
       refine (HF _).out.mono ?_
       rintro e w4 ⟨rfl, rfl⟩
       refine ⟨rfl, ?_⟩
       show RdRet R s c n w _ _ _ _
       rw [HX.out, HWO.out]
       refine ⟨?_, Same.of_below HBW.out (fun _ _ h => h)⟩
       rw [show s.length - (l.drop m).length = p + m by rw [List.length_drop]; omega]
end Yd
