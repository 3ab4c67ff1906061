import Derived.Test.YthdpangjphphjaaGreatDoorCut12
import Derived.Test.YthdpangjphphjaaGreatDoorChA
import Derived.Test.YthdpangjphphjaaGreatDoorProg
import Derived.Test.YthdpangjphphjaaGreatDoorSp1
import Derived.Test.YthdpangjphphjaaGreatDoorSam
import Derived.Test.YthdpangjphphjaaGreatDoorOrdP
import Derived.Test.YthdpangjphphjaaGreatDoorLx
import Derived.Lib.OthersKept
set_option maxRecDepth 200000
set_option maxHeartbeats 8000000
namespace Yd
open Go Go.RowKit Go.Proofs

@[reducible] def lnW : LnS := ⟨4, [[84], [80], [120], [121]], 0, [⟨[], 0⟩, ⟨[97], 1⟩], false, 0⟩
theorem wk1 : readLn [115, 99, 97, 110, 32, 84, 32, 80, 32, 120, 32, 45, 32, 121, 32, 97, 46, 49, 32, 35, 32, 122, 10] 0 = (lnW, 23, 0) := by kernel_rfl
theorem wk2 : readLn [98, 101, 103, 105, 110, 32, 84, 32, 115, 32, 50, 46, 57, 56] 0 = (noLn, 13, 220) := by kernel_rfl
theorem wk3 : readLn [114, 101, 97, 100, 32, 84, 32, 120, 32, 84, 46, 49, 48, 48, 48] 0 = (noLn, 11, 3) := by kernel_rfl
theorem wk4 : textS lnW = [115, 99, 97, 110, 32, 84, 32, 80, 32, 120, 32, 45, 32, 121, 32, 97, 46, 49, 10] := by kernel_rfl
theorem wk5 : lineOk lnW := by
 refine ⟨?_, ?_, .inr (.inr (.inr (.inl ⟨rfl, ⟨2, rfl, rfl, by omega⟩, trivial, rfl, rfl, rfl⟩)))⟩
 · intro x hx
   simp only [List.mem_cons, List.not_mem_nil, or_false] at hx
   rcases hx with rfl | rfl | rfl | rfl <;> kernel_rfl
 · intro x hx
   simp only [List.mem_cons, List.not_mem_nil, or_false] at hx
   rcases hx with rfl | rfl
   · exact .inl rfl
   · exact .inr ⟨by kernel_rfl, by decide, by decide⟩
theorem wakes12 (w : World) (hT : Lib.Utf8Tabs 2 3 w) (hE : GlobE w) (hL : GlobL w) : Calls Tryz.prog 8 #[] w (Ret (.bool true) w) := by
 have HR := hid (fun (s : Bs) (hs : s.length ≤ 1000) (W : World) (hb : Below w.heap.size w W) => line_Read s 0 (by omega) W (Utf8Tabs_below hT hb) (hE.below hb) (hL.below hb))
 have HTX := hid (fun (W : World) (hb : Below w.heap.size w W) (B : Nat) (l : LnC) (h : LnAt W B l lnW) => text_all h wk5 (hL.below hb))
 clear hT hE hL
 go_enter Tryz.func8, Tryz.ntmps8
 go_wp2_with fail
 refine (HR.out [115, 99, 97, 110, 32, 84, 32, 80, 32, 120, 32, 45, 32, 121, 32, 97, 46, 49, 32, 35, 32, 122, 10] (by decide) w (Below.refl _ _)).mono ?_
 rw [wk1]
 rintro e w1 ⟨c, rfl, hl1, hb1⟩
 have hv : c.vn = 2 := hl1.1.2.2.2.2.2
 have hba := belowA (Below.refl w1.heap.size w1) (.cells (cellsLn c) 28)
 have HX := hid (Bx.new w1 (cellsLn c) 28)
 have HL1 := hid (hl1.below hba)
 have HBA := hid (hb1.trans (hba.mono hb1.size))
 have HVN := hid hv
 clear hl1 hb1 hba hv
 go_wp2_with fail
 refine (HTX.out _ HBA.out _ c HL1.out).mono ?_
 rintro e w2 ⟨rfl, hb2⟩
 rw [wk4]
 have HX2 := hid (HX.out.keep hb2)
 have HB2 := hid (HBA.out.trans (hb2.mono HBA.out.size))
 clear hb2
 go_wp2_with fail
 refine (HR.out [98, 101, 103, 105, 110, 32, 84, 32, 115, 32, 50, 46, 57, 56] (by decide) w2 HB2.out).mono ?_
 rw [wk2]
 rintro e w3 ⟨c3, rfl, hl3, hb3⟩
 have HX3 := hid ((HX2.out.keep hb3).alloc (.cells (cellsLn c3) 28))
 have HB3 := hid ((HB2.out.trans (hb3.mono HB2.out.size)).alloc (Nat.le_trans HB2.out.size hb3.size) (.cells (cellsLn c3) 28))
 clear hl3 hb3
 go_wp2_with fail
 refine (HR.out [114, 101, 97, 100, 32, 84, 32, 120, 32, 84, 46, 49, 48, 48, 48] (by decide) _ HB3.out).mono ?_
 rw [wk3]
 rintro e w4 ⟨c4, rfl, hl4, hb4⟩
 have hx4 := (HX3.out.keep hb4).alloc (.cells (cellsLn c4) 28)
 have HB4 := hid ((HB3.out.trans (hb4.mono HB3.out.size)).alloc (Nat.le_trans HB3.out.size hb4.size) (.cells (cellsLn c4) 28))
 have hv3 := hx4.1 3
 rw [show (cellsLn c)[3]? = some (.slice c.va c.vn c.vc) from rfl, HVN.out] at hv3
 clear hl4 hb4 hx4
 go_wp2_with fail
 go_ret
 exact ⟨rfl, HB4.out⟩
end Yd


namespace Yd
open Go Go.RowKit Go.Proofs Go.Lib

def encR (n : Int) : List Value := [.int .i32 n]
instance cInsR : Cells encR 1 := ⟨fun _ => rfl, by decide, fun x u h => by simp [encR] at h; subst h; rfl⟩
theorem infoR : (Tryz.prog.info? 21).map (fun i => (i.zero.map (·.cells.size), i.size, i.bytes)) = some (some 1, 1, 4) := by kernel_rfl
theorem partsR : ∃ i z, Tryz.prog.info? 21 = some i ∧ i.zero = some z ∧ i.size = 1 ∧ i.bytes = 4 ∧ z.cells.size = 1 := parts_of infoR
theorem Row.r1 (w : World) (s : Int) : Row (w.alloc (.cells #[.int .i32 s] 21)) 1 encR (some ⟨w.heap.size, 0, none⟩) 1 1 [s] :=
 (Own.new (hc := cInsR) w w.heap.size 21 #[.int .i32 s] [s] (Nat.le_refl _) rfl (by simp [maxLen])).row (by simp)
theorem runes_run {w : World} {B : Nat} {a : Option Addr} {c : Nat} {acc : List Int} (h : Own w B 21 1 encR (.slice a acc.length c) acc) (hl : acc.length ≤ 1000) {u : Bs} (hu : runesBytes acc = ⟨u.toArray⟩) :
   (convert 45 9 (.slice a acc.length c)).run Tryz.prog w = .ok (.string ⟨u.toArray⟩) w := by
 have hrow := h.row (by omega)
 by_cases h0 : acc.length = 0
 · have ha : acc = [] := List.length_eq_zero_iff.1 h0
   subst ha
   have hu' : u = [] := by
     have := congrArg ByteArray.size hu
     rw [bsz] at this
     exact List.length_eq_zero_iff.1 this.symm
   subst hu'
   cases a with
   | none => exact run_convert_runes_nil w 45 9 21 0 c Tryz.underlying45 Tryz.underlying21 Tryz.underlying9
   | some ad => exact run_convert_runes w 45 9 21 ad 0 c [] (Nat.le_refl _) Tryz.underlying45 Tryz.underlying21 Tryz.underlying9 (fun j hj => by simp at hj)
 · obtain ⟨_, bb, oo, _, rfl, _⟩ := hrow.at_ (i := 0) (by omega)
   rw [run_convert_runes w 45 9 21 ⟨bb, oo, none⟩ acc.length c acc (Nat.le_refl _) Tryz.underlying45 Tryz.underlying21 Tryz.underlying9 (fun j hj => by
     obtain ⟨x, b', o', hx, hab, hc⟩ := hrow.at_ hj
     cases hab
     have := hc 0 _ rfl
     rw [Nat.mul_one, Nat.add_zero] at this
     rw [List.getD_eq_getElem?_getD, hx, Addr.add_lit]
     exact this), List.take_length, hu]
theorem mod3_run (many : Int) (q cc : Nat) (hq : IntKind.u64.wrap many = (q : Int)) (hcc : cc = 1 + q % 3) : wrap64 (1 + wrap64 ((IntKind.u64.wrap many).tmod 3)) = (cc : Int) := by
 have h3 : ((q : Int)).tmod 3 = ((q % 3 : Nat) : Int) := rfl
 rw [hq, h3]
 have h1 : q % 3 < 3 := Nat.mod_lt _ (by omega)
 generalize q % 3 = r at *
 subst hcc
 unfold wrap64
 omega
theorem app_bytes (x y : Bs) : (⟨x.toArray⟩ : ByteArray) ++ ⟨y.toArray⟩ = ⟨(x ++ y).toArray⟩ := by
 apply ByteArray.ext
 simp

theorem law_spaces (x : LnC) (s : LnS) (tx : Bs) (many : Int) (w : World) (hx : LnIn w x s) (hT : Lib.Utf8Tabs 2 3 w) (hE : GlobE w) (hL : GlobL w)
   (hM : ∃ m, w.cell? ⟨5, 0, none⟩ = some (.int .i64 m)) :
   Calls Tryz.prog 7 #[valLn x, .string ⟨tx.toArray⟩, .int .i64 many] w (Ret (.bool true) w) := by
 obtain ⟨i, z, hi, hz, hsize, hby', hzs⟩ := partsR
 have HI := hid (⟨hi, hz, hsize, hby', hzs⟩ : _ ∧ _ ∧ _ ∧ _ ∧ _)
 clear hi hz hsize hby' hzs
 obtain ⟨ml, hml⟩ := hM
 have hb0 := belowA (Below.refl w.heap.size w) (.cells (cellsLn x) 28)
 have HB0 := hid hb0; have HX0 := hid (Bx.new w (cellsLn x) 28)
 have HWK := hid (wakes12 _ (Utf8Tabs_below hT hb0) (hE.below hb0) (hL.below hb0))
 have HOX := hid (fun W (hb : Below w.heap.size w W) => own12 (hx.below hb))
 have HRD := hid (fun (t : Bs) (p : Int) (ht : t.length ≤ 1000000) (W : World) (hb : Below w.heap.size w W) => line_Read t p ht W (Utf8Tabs_below hT hb) (hE.below hb) (hL.below hb))
 have HTX := hid (fun (W : World) (hb : Below w.heap.size w W) (B : Nat) (l : LnC) (n : LnS) (h : LnAt W B l n) (h1 : n.names.length ≤ 1000) (h2 : n.vers.length ≤ 1000) => text_any_line h h1 h2 (hL.below hb))
 have HCK := hid (fun (W : World) (hb : Below w.heap.size w W) (B : Nat) (l : LnC) (n : LnS) (h : LnAt W B l n) (h1 : n.names.length ≤ 1000) (h2 : n.vers.length ≤ 1000) => check_any_line h h1 h2 (hL.below hb))
 have HSM := hid (fun (W : World) (B B2 : Nat) (l l2 : LnC) (n : LnS) (h : LnAt W B l n) (h' : LnAt W B2 l2 n) (h1 : n.names.length ≤ 1000) (h2 : n.vers.length ≤ 1000) => (by
   have := same_any_line l l2 n n B B2 W h h' (by omega) (by omega) (by omega) (by omega)
   rw [decide_eq_true (rfl : n = n)] at this
   exact this : Calls Tryz.prog 18 #[valLn l, valLn l2] W (Ret (.bool true) W)))
 have HRE := hid (fun (c : Nat) (hc : c ≤ 3) (W : World) => (Tryz.strings_Repeat ⟨#[32, 9]⟩ c W (by omega) (by show 2 * c ≤ _; omega) :
   Calls Tryz.prog 21 #[.string ⟨#[32, 9]⟩, .int .i64 c] W (fun e w' => e = .returned (.string ⟨(Lib.repeatL [32, 9] c).toArray⟩) ∧ Below W.heap.size W w')))
 have HTR := hid (fun (t : Bs) (ht : t.length ≤ 300000) (W : World) => (Tryz.strings_TrimSuffix ⟨t.toArray⟩ ⟨#[10]⟩ W (by rw [bsz]; omega) :
   Calls Tryz.prog 23 #[.string ⟨t.toArray⟩, .string ⟨#[10]⟩] W (fun e w' => e = .returned (.string ⟨(Lib.trimSuffix t [10]).toArray⟩) ∧ w' = W)))
 have HRA := hid (fun (q bl : Bs) (hq : q.length ≤ 300000) (hbl : bl.length ≤ 6) (W : World) (hb : Below w.heap.size w W) => (Tryz.strings_ReplaceAll ⟨q.toArray⟩ ⟨#[32]⟩ ⟨bl.toArray⟩ ml W (by rw [bsz]; omega) (bget hb rfl hml) (by decide) (by
     have h1 : Lib.countB ⟨q.toArray⟩ ⟨#[32]⟩ = q.count 32 := Lib.count_one 32 q
     have h2 : q.count 32 ≤ q.length := List.count_le_length
     rw [h1, bsz, bsz]
     have h3 : q.count 32 * bl.length ≤ 300000 * 6 := Nat.mul_le_mul (by omega) hbl
     omega) :
   Calls Tryz.prog 22 #[.string ⟨q.toArray⟩, .string ⟨#[32]⟩, .string ⟨bl.toArray⟩] W (fun e w' => e = .returned (.string ⟨(Lib.replaceAll q [32] bl).toArray⟩) ∧ Below W.heap.size W w')))
 have hl1 : (cutL s).names.length ≤ 1000 ∧ (cutL s).vers.length ≤ 1000 := by constructor <;> simp only [List.length_take] <;> omega
 have HL1 := hid hl1
 obtain ⟨u, hu⟩ : ∃ u, u = cutL s := ⟨_, rfl⟩
 rw [← hu] at HOX HL1
 obtain ⟨m, hm⟩ : ∃ m : Nat, m = min tx.length 60 := ⟨_, rfl⟩
 have hmi : min (tx.length : Int) 60 = (m : Int) := by omega
 obtain ⟨t, ht⟩ : ∃ t, t = tx.take 60 := ⟨_, rfl⟩
 have hext : (⟨tx.toArray⟩ : ByteArray).extract 0 m = ⟨t.toArray⟩ := by
   rw [ext_both tx 0 m (Nat.zero_le _), List.drop_zero, Nat.sub_zero, hm, Nat.min_comm, ← List.take_eq_take_min, ht]
 have hmb : m ≤ 60 := by omega
 have hmt : m ≤ tx.length := by omega
 have htl : t.length ≤ 60 := by rw [ht, List.length_take]; omega
 have HTL := hid htl; have HEX := hid hext; have HMI := hid (⟨hmi, hmb, hmt⟩ : _ ∧ _ ∧ _)
 have hzx := bsz tx
 obtain ⟨q, hq⟩ : ∃ q : Nat, IntKind.u64.wrap many = (q : Int) := ⟨_, (Int.toNat_of_nonneg (wrap_u64_nonneg many)).symm⟩
 have HQ := hid hq
 clear hT hE hL hb0 hx hl1 hu ht htl hext hmi hmb hmt hm hq hml
 go_enter Tryz.func7, Tryz.ntmps7
 go_wp2_with fail
 refine HWK.out.mono ?_
 rintro e w1 ⟨rfl, hb1⟩
 have HB1 := hid (HB0.out.trans (hb1.mono HB0.out.size)); have hx1 := HX0.out.keep hb1
 have hcx := hx1.1
 clear hb1 hx1
 go_wp2_with fail
 refine (HOX.out _ HB1.out).mono ?_
 rintro e w2 ⟨c1, rfl, hl1, hb2⟩
 have HB2 := hid (HB1.out.trans (hb2.mono HB1.out.size))
 have hba := belowA (Below.refl w2.heap.size w2) (.cells (cellsLn c1) 28)
 have HL3 := hid (hl1.below hba); have HX5 := hid (Bx.new w2 (cellsLn c1) 28)
 have HB3 := hid (HB2.out.trans (hba.mono HB2.out.size))
 have hc5 := HX5.out.1
 have HW5 : Hid (w.heap.size ≤ w2.heap.size) := hid HB2.out.size
 clear hb2 hba hl1 hcx
 go_wp2_with fail
 have htx := HTX.out _ HB3.out _ _ _ HL3.out HL1.out.1 HL1.out.2
 cases hB : lineB u
 · skip
   rw [hB] at htx
   simp only [Bool.false_eq_true, if_false] at htx
   refine htx.mono ?_
   rintro e w4 ⟨rfl, hb4⟩
   have HB4 := hid (HB3.out.trans (hb4.mono HB3.out.size)); have hy4 := HX5.out.keep hb4; have HL4 := hid (HL3.out.below hb4)
   have hc4 := hy4.1
   clear htx hb4 hy4 hc5
   go_wp2_with fail
   have hck := HCK.out _ HB4.out _ _ _ HL4.out HL1.out.1 HL1.out.2
   rw [hB] at hck
   simp only [Bool.false_eq_true, if_false] at hck
   refine hck.mono ?_
   rintro e w5 ⟨rfl, hb5⟩
   have HB5 := hid (HB4.out.trans (hb5.mono HB4.out.size))
   clear hck hb5 hB hc4
   go_wp2_with fail
   go_ret
   exact ⟨rfl, HB5.out⟩
 · skip
   have HLB := hid hB
   have hk := textK_ok hB
   rw [hB] at htx
   simp only [if_true] at htx
   obtain ⟨T, hTK⟩ : ∃ T, T = textK u := ⟨_, rfl⟩
   have HKK := hid hk
   rw [← hTK] at htx HKK
   have HTK := hid hTK
   clear hk hB hTK hc5
   refine htx.mono ?_
   rintro e w4 ⟨rfl, hb4⟩
   have HB4 := hid (HB3.out.trans (hb4.mono HB3.out.size)); have HY4 := hid (HX5.out.keep hb4); have HL4 := hid (HL3.out.below hb4)
   clear htx hb4
   have hmi := HMI.out.1; have hmb := HMI.out.2.1; have hmt := HMI.out.2.2
   go_wp2_with fail
   rw [HEX.out]
   clear hmi hmb hmt
   go_loopw [10, 12] (fun v _ wr => ∃ (p : Nat) (acc : List Int) (a : Option Addr) (c : Nat), v = .slice a acc.length c ∧ PlAt p acc ∧ p ≤ t.length ∧ wr.heap[w4.heap.size]? = some (.stringIter ⟨t.toArray⟩ p) ∧ Own wr (w4.heap.size + 1) 21 1 encR (.slice a acc.length c) acc ∧ Below w4.heap.size w4 wr) (fun _ _ wr => t.length - wr.iterPos w4.heap.size)
   case atStart => exact ⟨0, [], none, 0, rfl, PlAt.zero, Nat.zero_le _, World.iter_heap _ _ _, Own.nil_ _ _ _ _ _, iter_below _ _⟩
   case round =>
     obtain ⟨p, acc, a0, c0, rfl, hpl, hpt, hit, how, hbw⟩ := hrel
     by_cases hp : p < t.length
     · skip
       obtain ⟨r, wd, hdc⟩ : ∃ r wd, Utf8.decode ⟨t.toArray⟩ p = (r, wd) := ⟨_, _, rfl⟩
       have hnx := run_next_any_at (P := Tryz.prog) wr w4.heap.size ⟨t.toArray⟩ p 0 hit (by rw [bsz]; exact hp)
       rw [hdc] at hnx
       simp only [] at hnx
       have hdl : t.drop p ≠ [] := by intro e; have := congrArg List.length e; rw [List.length_drop] at this; simp only [List.length_nil] at this; omega
       have hw1 := dec_w _ hdl
       have hw2 := dec_le _ hdl
       rw [← dec_drop, hdc] at hw1 hw2
       simp only [List.length_drop] at hw1 hw2
       have HST := hid (fun (h1 : 32 ≤ r) (h2 : r ≠ 65533) => (by have := hpl.step (s := t) hp (by rw [hdc]; exact h1) (by rw [hdc]; exact h2); rw [hdc] at this; exact this : PlAt (p + wd) (acc ++ [(r : Int)])))
       have HSK := hid (hpl.skip (q := p + wd) (by omega))
       obtain ⟨W1, hW1⟩ : ∃ W1, W1 = wr.iterAt w4.heap.size ⟨t.toArray⟩ (p + wd) := ⟨_, rfl⟩
       have HIT := hid (iterAt_heap wr w4.heap.size ⟨t.toArray⟩ p (p + wd) hit)
       have HBW := hid (below_iterAt hbw (Nat.le_refl _) ⟨t.toArray⟩ (p + wd))
       have HOW := hid (how.block (w' := wr.iterAt w4.heap.size ⟨t.toArray⟩ (p + wd)) (fun g hg => iterAt_other _ _ _ _ _ (by have := (how.lt g hg).1; omega)))
       rw [← hW1] at hnx HIT HBW HOW
       have HPP := hid (⟨hw1, hw2, hp, hpl.1⟩ : _ ∧ _ ∧ _ ∧ _)
       have HIP := hid (⟨iterPos_of hit, iterPos_of HIT.out⟩ : _ ∧ _)
       clear hdc hw1 hw2 hdl hW1 hit hbw how hpl hp hpt
       by_cases h32 : 32 ≤ r
       · have hd1 : decide ((32 : Int) ≤ (r : Int)) = true := decide_eq_true (by omega)
         have HD1 : Hid (decide (32 ≤ r) = true) := hid (decide_eq_true h32)
         clear h32
         by_cases hfd : r = 65533
         · have hd2 : ((r : Int) != 65533) = false := by rw [hfd]; rfl
           clear hfd
           go_wp2_with fail
           go_roundw
           case rel => exact ⟨p + wd, acc, a0, c0, rfl, HSK.out, (by have := HPP.out; omega), HIT.out, HOW.out, HBW.out⟩
           case measure => rw [HIP.out.1, HIP.out.2]; have := HPP.out; omega
         · have hd2 : ((r : Int) != 65533) = true := by rw [bne, beq_eq_false_iff_ne.2 (by omega)]; rfl
           have HD2 := hid hfd
           clear hfd
           have HN1 : Hid (acc.length + 1 = acc.length + 1) := hid rfl
           have HN2 : Hid ((acc.length + 1) * 4 ≤ 140737488355328) := hid (by have := HPP.out; have := HTL.out; omega)
           have HN3 : Hid (acc.length + 1 ≤ maxLen) := hid (by have := HPP.out; have := HTL.out; unfold maxLen; omega)
           have HN4 : Hid (w4.heap.size + 1 ≤ (W1.alloc (.cells #[.int .i32 (r : Int)] 21)).heap.size) := hid (by have := (Array.getElem?_eq_some_iff.1 HIT.out).1; simp; omega)
           have HNE : Hid (∀ row, (∀ g, row = some g → w4.heap.size + 1 ≤ g) → row ≠ some w4.heap.size) := hid (fun row h e => by have := h _ e; omega)
           go_wp2_with (at_builtin; refine wpList_app rfl _ _ 45 rfl i z 4 Tryz.underlying45 HI.out.1 HI.out.2.1 HI.out.2.2.1 HI.out.2.2.2.1 HI.out.2.2.2.2 rfl (HOW.out.alloc _) (some ⟨W1.heap.size, 0, none⟩) 1 1 (acc.length + 1) [(r : Int)] rfl (Row.r1 W1 (r : Int)) HN1.out HN2.out HN3.out HN4.out ?_; intro a' c' w6 hown1 hg1 hat1)
           have hit6 : w6.heap[w4.heap.size]? = some (.stringIter ⟨t.toArray⟩ (p + wd)) := (hg1.block w4.heap.size (by have := (Array.getElem?_eq_some_iff.1 HIT.out).1; simp; omega) (fun e => by have := (HOW.out.lt _ e.symm).1; omega)).trans (heapA _ HIT.out)
           have HR1 := hid (⟨hown1, hit6, below_app (HBW.out.alloc HBW.out.size _) (HOW.out.alloc _) (Nat.le_succ _) (Nat.le_trans (Nat.le_succ _) HN4.out) hg1⟩ : _ ∧ _ ∧ _)
           clear hown1 hg1 hat1 hit6
           go_roundw
           case rel => exact ⟨p + wd, acc ++ [(r : Int)], a', c', (by rw [List.length_append]; rfl), HST.out (of_decide_eq_true HD1.out) HD2.out, (by have := HPP.out; omega), HR1.out.2.1, (by rw [List.length_append]; exact HR1.out.1), HR1.out.2.2⟩
           case measure => rw [HIP.out.1, iterPos_of HR1.out.2.1]; have := HPP.out; omega
       · have hd1 : decide ((32 : Int) ≤ (r : Int)) = false := decide_eq_false (by omega)
         clear h32
         go_wp2_with fail
         go_roundw
         case rel => exact ⟨p + wd, acc, a0, c0, rfl, HSK.out, (by have := HPP.out; omega), HIT.out, HOW.out, HBW.out⟩
         case measure => rw [HIP.out.1, HIP.out.2]; have := HPP.out; omega
     · skip
       obtain rfl : p = t.length := by omega
       have hnx := run_next_end_at (P := Tryz.prog) wr w4.heap.size ⟨t.toArray⟩ t.length 0 hit (by rw [bsz]; omega)
       obtain ⟨pl, hpl1, hpl2⟩ := hpl.2
       have hpl3 : pl.length ≤ 240 := by have := hpl.small hpl1; have := HTL.out; omega
       have HPL := hid (⟨hpl2, hpl3⟩ : _ ∧ _)
       have HCW := hid (fun (W : World) (hb : Below wr.heap.size wr W) => runes_run (how.below hb rfl) (by have := hpl.1; have := HTL.out; omega) hpl1)
       have HBR := hid (HB4.out.trans (hbw.mono HB4.out.size)); have HLR := hid (HL4.out.below hbw); have HYR := hid (HY4.out.keep hbw)
       obtain ⟨cc, hcc⟩ : ∃ cc : Nat, cc = 1 + q % 3 := ⟨_, rfl⟩
       have hcc3 : cc ≤ 3 := by omega
       have HC1 : Hid (1 ≤ cc) := hid (by omega)
       have HC3 := hid hcc3
       have HM3 := hid (mod3_run many q cc HQ.out hcc)
       clear hit how hbw hpl hpl1 hpl2 hpl3 hcc hcc3 hp
       go_wp2_with fail
       rw [HM3.out]
       refine (HRE.out cc HC3.out _).mono ?_
       rintro e w13 ⟨rfl, hb13⟩
       have HCV := hid (fun (W : World) (hb : Below w13.heap.size w13 W) => HCW.out W (hb13.trans (hb.mono hb13.size)))
       have HB13 := hid (HBR.out.trans (hb13.mono HBR.out.size)); have HL13 := hid (HLR.out.below hb13); have HY13 := hid (HYR.out.keep hb13)
       obtain ⟨bl, hbl⟩ : ∃ bl : Bs, bl = Lib.repeatL [32, 9] cc := ⟨_, rfl⟩
       rw [← hbl]
       have hblk : Sp bl ∧ bl.length ≤ 6 := by
         have h3 := HC3.out
         have h1 : 1 ≤ cc := HC1.out
         rw [hbl]
         have : cc = 1 ∨ cc = 2 ∨ cc = 3 := by omega
         rcases this with rfl | rfl | rfl <;> exact ⟨⟨by decide, by decide⟩, by decide⟩
       have HBL := hid hblk
       obtain ⟨qq, hqq⟩ : ∃ qq : Bs, qq = Lib.trimSuffix T [10] := ⟨_, rfl⟩
       have htrim : Lib.trimSuffix T [10] = qq := hqq.symm
       have hqk : qq = (if u.kind = 0 then [] else Lib.join (wordsS u) [32]) := by rw [hqq, HTK.out]; exact trim_text
       have HQQ : Hid (qq.length ≤ 300000) := hid (by rw [hqq]; exact Nat.le_trans (trim_le T) HKK.out.1)
       obtain ⟨rp, hrp⟩ : ∃ rp : Bs, rp = Lib.replaceAll qq [32] bl := ⟨_, rfl⟩
       obtain ⟨wt, hwt⟩ : ∃ wt : Bs, wt = wideT u bl pl := ⟨_, rfl⟩
       have hwide : wt = ((bl ++ rp) ++ bl ++ [35]) ++ pl := by
         rw [hwt, hrp, hqk]
         unfold wideT
         by_cases hk0 : u.kind = 0
         · rw [if_pos hk0, if_pos hk0, replace_nil]; simp
         · rw [if_neg hk0, if_neg hk0]; simp
       have hwl := wide_len HLB.out HBL.out.2 HPL.out.2
       have HW1 := hid (wide_readK HLB.out HBL.out.1 HPL.out.1)
       have HW2 := hid (wide_readN HLB.out HBL.out.1 HPL.out.1 T)
       rw [← hwt] at hwl HW1 HW2
       have HWL := hid hwl
       have hlens : bl.length + rp.length + bl.length + 1 + pl.length = wt.length := by rw [hwide]; simp only [List.length_append, List.length_singleton]
       have HRP := hid hrp; have HTI := hid htrim; have HWD := hid hwide
       clear hwl hblk hbl hqk hqq hb13 hrp htrim hwt hwide
       have hz1 := bsz bl; have hz2 := bsz rp; have hz3 := bsz pl; have hz4 := bsz T; have hz5 := bsz wt
       go_wp2_with fail
       have hwl := HWL.out
       have hN1 : ¬ (9223372036854775807 < bl.length + rp.length) := by omega
       have hN2 : ¬ (9223372036854775807 < bl.length + rp.length + bl.length) := by omega
       have hN3 : ¬ (9223372036854775807 < bl.length + rp.length + bl.length + 1) := by omega
       have hN4 : ¬ (9223372036854775807 < bl.length + rp.length + bl.length + 1 + pl.length) := by omega
       clear hwl hlens
       refine wp_region_ordC 13 [(0, 0), (1, 0), (3, 0), (6, 0), (9, 0), (10, 0), (2, 2), (4, 2), (5, 0), (7, 0), (8, 0), (11, 0), (12, 0)] (fun _ => True) (fun W' => Below w13.heap.size w13 W') (by kernel_rfl) (by kernel_rfl) (trivial) ((Below.refl _ _).drew) ?_
       repeat ((first | refine ordC_skip rfl rfl ?_ | refine ordC_skip1 rfl rfl ?_ | ((first | refine ordC_q rfl rfl ?_ | refine ordC_p rfl rfl ?_); apply Exists.intro; refine ⟨fun wS hS => ?_, ?_⟩; (go_simp; try with_reducible rfl))); simp only [Act.put, List.setIfInBounds_toArray, List.set_cons_zero, List.set_cons_succ])
       refine ordC_q rfl rfl ?_
       apply Exists.intro
       refine ⟨fun wS hS => ?_, ?_⟩
       · have hcv := HCV.out wS hS.2
         go_simp
         try with_reducible rfl
       simp only [Act.put, List.setIfInBounds_toArray, List.set_cons_zero, List.set_cons_succ]
       refine ordC_l rfl rfl (fun K hK => ?_)
       go_simp
       refine (HTR.out T HKK.out.1 _).mono ?_
       rintro e w21 ⟨rfl, rfl⟩
       rw [HTI.out]
       refine hK _ _ ⟨trivial, (Below.refl _ _).drew⟩ ?_
       clear hK K
       refine ordC_l rfl rfl (fun K hK => ?_)
       go_simp
       refine (HRA.out qq bl HQQ.out HBL.out.2 _ HB13.out.drew).mono ?_
       rintro e w22 ⟨rfl, hb22⟩
       rw [← HRP.out]
       have HB22 : Hid (Below w13.heap.size w13 w22) := hid ((Below.refl _ _).drew.trans hb22)
       refine hK _ _ ⟨trivial, HB22.out⟩ ?_
       clear hK K hb22
       repeat ((first | refine ordC_skip rfl rfl ?_ | refine ordC_skip1 rfl rfl ?_ | ((first | refine ordC_q rfl rfl ?_ | refine ordC_p rfl rfl ?_); apply Exists.intro; refine ⟨fun wS hS => ?_, ?_⟩; (go_simp; try with_reducible rfl))); simp only [Act.put, List.setIfInBounds_toArray, List.set_cons_zero, List.set_cons_succ])
       refine ordC_nil ?_
       have hbw : ((⟨bl.toArray⟩ : ByteArray) ++ ⟨rp.toArray⟩ ++ ⟨bl.toArray⟩ ++ ⟨#[35]⟩ ++ ⟨pl.toArray⟩) = ⟨wt.toArray⟩ := by
         rw [HWD.out, show (⟨#[35]⟩ : ByteArray) = ⟨([35] : Bs).toArray⟩ from rfl, app_bytes, app_bytes, app_bytes, app_bytes]
       rw [hbw]
       clear hbw hN1 hN2 hN3 hN4
       have HBX := hid (HB13.out.trans (HB22.out.mono HB13.out.size)); have HL22 := hid (HL13.out.below HB22.out); have HY22 := hid (HY13.out.keep HB22.out)
       go_wp2_with fail
       have hrd := HRD.out wt 0 (by have := HWL.out; omega) _ HBX.out
       rw [HW1.out] at hrd
       refine hrd.mono ?_
       rintro e w23 ⟨c2, rfl, hl23, hb23⟩
       have hba := belowA (Below.refl w23.heap.size w23) (.cells (cellsLn c2) 28)
       have HB23 := hid ((HBX.out.trans (hb23.mono HBX.out.size)).trans (hba.mono (HBX.out.trans (hb23.mono HBX.out.size)).size))
       have hl22 := HL22.out.below hb23
       have HNE := hid (⟨fun i hi => (hl22.2.1.lt i hi).2, fun i hi => (hl22.2.2.lt i hi).2⟩ : (∀ i, _ → i < w23.heap.size) ∧ (∀ i, _ → i < w23.heap.size))
       have HL23 := hid (hl22.below hba); have HM23 := hid (LnAt.below hl23 hba); have hy23 := (HY22.out.keep hb23).keep hba; have hz23 := Bx.new w23 (cellsLn c2) 28
       have HY23 := hid hy23; have HZ23 := hid hz23; have hylt := HY22.out.2.2; have HLT : Hid (w2.heap.size < w23.heap.size) := hid (Nat.lt_of_lt_of_le hylt hb23.size)
       have hc5 := hy23.1; have hc15 := hz23.1
       have hzz : ((wt.length : Int) != (wt.length : Int)) = false := by simp
       clear hrd hl23 hb23 hba hy23 hz23 hl22 hylt
       go_wp2_with fail
       refine (HSM.out _ _ _ _ _ _ HM23.out HL23.out HL1.out.1 HL1.out.2).mono ?_
       rintro e w24 ⟨rfl, hb24⟩
       have HB24 := hid (HB23.out.trans (hb24.mono HB23.out.size)); have HL24 := hid (HL23.out.below hb24); have HY24 := hid (HY23.out.keep hb24); have HZ24 := hid (HZ23.out.keep hb24)
       clear hb24 hc5 hc15 hzz
       have hwl := HWL.out
       have htk := HKK.out.1
       have hM1 : ¬ (9223372036854775807 < T.length + wt.length) := by omega
       have hM2 : ¬ (9223372036854775807 < T.length + wt.length + 1) := by omega
       have hM3 : ¬ (9223372036854775807 < T.length + wt.length + 1 + T.length) := by omega
       clear hwl htk
       go_wp2_with fail
       have hbw : ((⟨T.toArray⟩ : ByteArray) ++ ⟨wt.toArray⟩ ++ ⟨#[10]⟩ ++ ⟨T.toArray⟩) = ⟨(T ++ wt ++ [10] ++ T).toArray⟩ := by
         rw [show (⟨#[10]⟩ : ByteArray) = ⟨([10] : Bs).toArray⟩ from rfl, app_bytes, app_bytes, app_bytes]
       rw [hbw]
       clear hbw hM1 hM2 hM3
       have hrd := HRD.out (T ++ wt ++ [10] ++ T) (T.length : Int) (by have := HWL.out; have := HKK.out.1; simp only [List.length_append, List.length_singleton]; omega) _ HB24.out
       rw [HW2.out] at hrd
       obtain ⟨n1, hn1⟩ : ∃ n1, n1 = T.length + wt.length := ⟨_, rfl⟩
       obtain ⟨n2, hn2⟩ : ∃ n2, n2 = n1 + 1 := ⟨_, rfl⟩
       rw [← hn1, ← hn2] at hrd
       refine hrd.mono ?_
       rintro e w25 ⟨c3, rfl, hl25, hb25⟩
       have HS1 : Hid (wrap64 ((T.length : Int) + (wt.length : Int)) = (n1 : Int)) := hid (by have := HWL.out; have := HKK.out.1; unfold wrap64; omega)
       have HS2 : Hid (wrap64 ((n1 : Int) + 1) = (n2 : Int)) := hid (by have := HWL.out; have := HKK.out.1; unfold wrap64; omega)
       have HB25 := hid (HB24.out.trans (hb25.mono HB24.out.size)); have hy25 := HY24.out.keep hb25; have hz25 := HZ24.out.keep hb25; have hl25' := HL24.out.below hb25
       have HLA := hid (LnAt.put6 (g := w23.heap.size) (c' := c3) hl25 (fun i hi => by have := (hl25.2.1.lt i hi).1; have := HZ24.out.2.2; omega) (fun i hi => by have := (hl25.2.2.lt i hi).1; have := HZ24.out.2.2; omega))
       have HLB2 := hid (LnAt.put6 (g := w23.heap.size) (c' := c3) hl25' (fun i hi => by have := HNE.out.1 i hi; omega) (fun i hi => by have := HNE.out.2 i hi; omega))
       have HBE := hid (put6_below (g := w23.heap.size) HB25.out (by have := HLT.out; have := HW5.out; omega) HB25.out.size c3)
       have HZE := hid (put6_bx hz25 c3)
       have HYE := hid ((put6_same w25 w23.heap.size c3).bx hy25 (by have := HLT.out; omega))
       have hs1 := HS1.out; have hs2 := HS2.out
       have hc15 := hz25.1; have hf15 := hz25.2.1; have hc5' := hy25.1; have hce := HZE.out.1; have hcy := HYE.out.1
       clear hrd hl25 hb25 hy25 hz25 hl25' hn1 hn2
       go_wp2_with fail
       refine (HSM.out _ _ _ _ _ _ HLA.out HLB2.out HL1.out.1 HL1.out.2).mono ?_
       rintro e w26 ⟨rfl, hb26⟩
       have HB26 := hid (HBE.out.trans (hb26.mono HBE.out.size))
       clear hb26 hc15 hf15 hc5' hce hcy
       go_wp2_with fail
       go_ret
       exact ⟨rfl, HB26.out⟩
end Yd
