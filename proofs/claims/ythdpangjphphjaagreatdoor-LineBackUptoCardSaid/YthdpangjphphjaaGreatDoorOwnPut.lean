import Derived.Test.YthdpangjphphjaaGreatDoorCuX
import Derived.Test.YthdpangjphphjaaGreatDoorWk12
import Derived.Test.YthdpangjphphjaaGreatDoorProg
import Derived.Test.YthdpangjphphjaaGreatDoorBk13
import Derived.Test.YthdpangjphphjaaGreatDoorCuE
import Derived.Test.YthdpangjphphjaaGreatDoorChB
import Derived.Test.YthdpangjphphjaaGreatDoorRdB
set_option maxRecDepth 200000
set_option maxHeartbeats 8000000
namespace Yd
open Go Go.RowKit Go.Proofs

theorem others_len (pairs : Bool) (most : Nat) : ∀ (f many : Nat) (ns : List Bs) (vs : List To) (l : Bs) {x : List Bs × List To} {r : Bs}, othersS pairs most f many ns vs l = .ok (x, r) → x.1.length ≤ ns.length + f ∧ x.2.length ≤ vs.length + f
 | 0, many, ns, vs, l, x, r, h => by rw [othersS] at h; injection h with h; injection h with h _; subst h; exact ⟨Nat.le_refl _, Nat.le_refl _⟩
 | f + 1, many, ns, vs, l, x, r, h => by
   rw [othersS] at h
   cases hm : moreS l with
   | error y => rw [hm] at h; cases h
   | ok y =>
     obtain ⟨b, r0⟩ := y
     rw [hm] at h
     cases b
     · injection h with h; injection h with h _; subst h; exact ⟨by simp, by simp⟩
     · simp only [] at h
       by_cases hb : many = most ∧ beginsS r0 = true
       · rw [if_pos hb] at h; cases h
       · rw [if_neg hb] at h
         cases hn : nameS r0 with
         | error y => rw [hn] at h; cases h
         | ok y =>
           obtain ⟨nm, r1⟩ := y
           rw [hn] at h
           simp only [] at h
           by_cases hp : pairs = true
           · rw [if_pos hp] at h
             cases hu : mustS r1 with
             | error y => rw [hu] at h; cases h
             | ok r2 =>
               rw [hu] at h
               simp only [] at h
               cases hv : versS r2 with
               | error y => rw [hv] at h; cases h
               | ok y =>
                 obtain ⟨v, r3⟩ := y
                 rw [hv] at h
                 have := others_len pairs most f (many + 1) _ _ _ h
                 simp only [List.length_append, List.length_singleton] at this
                 omega
           · rw [if_neg hp] at h
             have := others_len pairs most f (many + 1) _ _ _ h
             simp only [List.length_append, List.length_singleton] at this
             omega
theorem names_len : ∀ (k : Nat) (acc : List Bs) (l : Bs) {ns : List Bs} {r : Bs}, namesS k acc l = .ok (ns, r) → ns.length ≤ acc.length + k
 | 0, acc, l, ns, r, h => by rw [namesS] at h; injection h with h; injection h with h _; subst h; exact Nat.le_refl _
 | k + 1, acc, l, ns, r, h => by
   rw [namesS] at h
   cases hm : mustS l with
   | error y => rw [hm] at h; cases h
   | ok r0 =>
     rw [hm] at h
     simp only [] at h
     cases hn : nameS r0 with
     | error y => rw [hn] at h; cases h
     | ok y =>
       obtain ⟨nm, r1⟩ := y
       rw [hn] at h
       have := names_len k _ _ h
       simp only [List.length_append, List.length_singleton] at this
       omega
theorem tail_len {k : Nat} {ns : List Bs} {l r : Bs} {n : LnS} (h : tailS k ns l = .ok (n, r)) : n.names.length ≤ ns.length + 301 ∧ n.vers.length ≤ 301 := by
 unfold tailS at h
 by_cases h1 : k = 1
 · rw [if_pos h1] at h
   cases hm : mustS l with
   | error y => rw [hm] at h; cases h
   | ok r0 =>
     rw [hm] at h
     simp only [] at h
     cases hn : wordS levelL r0 with
     | error y => rw [hn] at h; cases h
     | ok y => rw [hn] at h; injection h with h; injection h with h _; subst h; exact ⟨by simp, by simp⟩
 rw [if_neg h1] at h
 by_cases h3 : k = 3
 · rw [if_pos h3] at h
   cases hm : mustS l with
   | error y => rw [hm] at h; cases h
   | ok r0 =>
     rw [hm] at h
     simp only [] at h
     cases hn : versS r0 with
     | error y => rw [hn] at h; cases h
     | ok y => rw [hn] at h; injection h with h; injection h with h _; subst h; exact ⟨by simp, by simp⟩
 rw [if_neg h3] at h
 by_cases h9 : k = 9
 · rw [if_pos h9] at h
   cases hm : guarS 5 0 0 l with
   | error y => rw [hm] at h; cases h
   | ok y => rw [hm] at h; injection h with h; injection h with h _; subst h; exact ⟨by simp, by simp⟩
 rw [if_neg h9] at h
 by_cases h8 : k = 8
 · rw [if_pos h8] at h
   cases hm : firstS l with
   | error y => rw [hm] at h; cases h
   | ok y =>
     obtain ⟨f, r0⟩ := y
     rw [hm] at h
     simp only [] at h
     cases ho : othersS false 300 301 0 ns [] r0 with
     | error y => rw [ho] at h; cases h
     | ok y =>
       obtain ⟨⟨a, b⟩, r1⟩ := y
       have := others_len _ _ _ _ _ _ _ ho
       rw [ho] at h; injection h with h; injection h with h _; subst h; simpa using this
 rw [if_neg h8] at h
 by_cases h4 : k = 4
 · rw [if_pos h4] at h
   cases ho : othersS true 40 41 0 ns [] l with
   | error y => rw [ho] at h; cases h
   | ok y =>
     obtain ⟨⟨a, b⟩, r1⟩ := y
     have := others_len _ _ _ _ _ _ _ ho
     rw [ho] at h; injection h with h; injection h with h _; subst h
     simp only [List.length_nil] at this ⊢
     omega
 rw [if_neg h4] at h
 by_cases h7 : k = 7
 · rw [if_pos h7] at h
   cases ho : othersS false 300 301 0 ns [] l with
   | error y => rw [ho] at h; cases h
   | ok y =>
     obtain ⟨⟨a, b⟩, r1⟩ := y
     have := others_len _ _ _ _ _ _ _ ho
     rw [ho] at h; injection h with h; injection h with h _; subst h; simpa using this
 rw [if_neg h7] at h
 injection h with h; injection h with h _; subst h; exact ⟨by simp, by simp⟩
theorem formN_le (k : Nat) : (formN k).toNat ≤ 2 := by
 match k with
 | 0 => decide
 | 1 => decide
 | 2 => decide
 | 3 => decide
 | 4 => decide
 | 5 => decide
 | 6 => decide
 | 7 => decide
 | 8 => decide
 | k + 9 => exact (by decide : (1 : Int).toNat ≤ 2)
theorem readS_len {l r : Bs} {n : LnS} (h : readS l = .ok (n, r)) : n.names.length ≤ 1000 ∧ n.vers.length ≤ 1000 := by
 unfold readS at h
 by_cases he : endsS (skipS l) = true
 · rw [if_pos he] at h; injection h with h; injection h with h _; subst h; exact ⟨by simp, by simp⟩
 rw [if_neg he] at h
 cases hw : wordS verbL (skipS l) with
 | error y => rw [hw] at h; cases h
 | ok y =>
   obtain ⟨i, r0⟩ := y
   rw [hw] at h
   simp only [] at h
   cases hn : namesS (formN (i + 1)).toNat [] r0 with
   | error y => rw [hn] at h; cases h
   | ok y =>
     obtain ⟨ns, r1⟩ := y
     rw [hn] at h
     simp only [] at h
     have h1 := names_len _ _ _ hn
     have h2 := formN_le (i + 1)
     simp only [List.length_nil] at h1
     cases ht : tailS (i + 1) ns r1 with
     | error y => rw [ht] at h; cases h
     | ok y =>
       obtain ⟨s, r2⟩ := y
       rw [ht] at h
       have h3 := tail_len ht
       simp only [] at h
       cases hm : moreS r2 with
       | error y => rw [hm] at h; cases h
       | ok y =>
         obtain ⟨b, r3⟩ := y
         rw [hm] at h
         cases b
         · injection h with h; injection h with h _; subst h; omega
         · cases h
theorem readLn_len (s : Bs) (p : Int) : (readLn s p).1.names.length ≤ 1000 ∧ (readLn s p).1.vers.length ≤ 1000 := by
 unfold readLn
 by_cases h : p < 0 ∨ (s.length : Int) < p
 · rw [if_pos h]; exact ⟨by simp, by simp⟩
 rw [if_neg h]
 cases hl : lineS (s.drop p.toNat) with
 | error y => exact ⟨by simp, by simp⟩
 | ok y =>
   obtain ⟨n, r⟩ := y
   show n.names.length ≤ 1000 ∧ n.vers.length ≤ 1000
   unfold lineS at hl
   cases hr : readS (s.drop p.toNat) with
   | error y => rw [hr] at hl; cases hl
   | ok y =>
     obtain ⟨n', r'⟩ := y
     have := readS_len hr
     rw [hr] at hl
     simp only [] at hl
     split at hl
     · injection hl with hl; injection hl with hl _; subst hl; exact this
     · split at hl
       · injection hl with hl; injection hl with hl _; subst hl; exact this
       · cases hl
theorem cut12 (s : Bs) (w : World) : Calls Tryz.prog 9 #[.string ⟨s.toArray⟩] w (Ret (.string ⟨(s.take 9000).toArray⟩) w) := by
 have hz := bsz s
 obtain ⟨m, hm⟩ : ∃ m : Nat, m = min s.length 9000 := ⟨_, rfl⟩
 have hmi : min (s.length : Int) 9000 = (m : Int) := by omega
 have hext : (⟨s.toArray⟩ : ByteArray).extract 0 m = ⟨(s.take 9000).toArray⟩ := by
   rw [ext_both s 0 m (Nat.zero_le _), List.drop_zero, Nat.sub_zero, hm, Nat.min_comm, ← List.take_eq_take_min]
 have hmb : m ≤ 9000 := by omega
 have hml : m ≤ s.length := by omega
 have HE := hid hext
 clear hm hext
 go_enter Tryz.func9, Tryz.ntmps9
 go_wp2_with fail
 have hext := HE.out
 refine bodyPost_ret (v := .string ⟨(s.take 9000).toArray⟩) (by simp [results, Tryz.results9, go_sem, hext]) rfl ?_
 exact ⟨rfl, Below.refl _ _⟩
theorem Row.int {w : World} {a : Option Addr} {n c : Nat} {xs : List Int} (h : Row w 1 encInt a n c xs) {i : Nat} (hi : i < n) : ∃ x b o, xs[i]? = some x ∧ a = some ⟨b, o, none⟩ ∧ w.cell? ⟨b, o + i, none⟩ = some (.int .i64 x) := by
 obtain ⟨x, b, o, h1, h2, h3⟩ := h.at_ hi
 refine ⟨x, b, o, h1, h2, ?_⟩
 have := h3 0 _ rfl
 simpa using this
end Yd


namespace Yd
open Go Go.RowKit Go.Proofs

theorem law_back (x : LnC) (s : LnS) (tx : Bs) (w : World) (hx : LnIn w x s) (hT : Lib.Utf8Tabs 2 3 w) (hE : GlobE w) (hL : GlobL w) :
   Calls Tryz.prog 6 #[valLn x, .string ⟨tx.toArray⟩] w (Ret (.bool true) w) := by
 have hb0 := belowA (Below.refl w.heap.size w) (.cells (cellsLn x) 28)
 have HB0 := hid hb0; have HX0 := hid (Bx.new w (cellsLn x) 28)
 have HWK := hid (wakes12 _ (Utf8Tabs_below hT hb0) (hE.below hb0) (hL.below hb0))
 have HOX := hid (fun W (hb : Below w.heap.size w W) => own12 (hx.below hb))
 have HRD := hid (fun (t : Bs) (ht : t.length ≤ 1000000) (W : World) (hb : Below w.heap.size w W) => line_Read t 0 ht W (Utf8Tabs_below hT hb) (hE.below hb) (hL.below hb))
 have HTX := hid (fun (W : World) (hb : Below w.heap.size w W) (B : Nat) (l : LnC) (n : LnS) (h : LnAt W B l n) (h1 : n.names.length ≤ 1000) (h2 : n.vers.length ≤ 1000) => text_any_line h h1 h2 (hL.below hb))
 have HCK := hid (fun (W : World) (hb : Below w.heap.size w W) (B : Nat) (l : LnC) (n : LnS) (h : LnAt W B l n) (h1 : n.names.length ≤ 1000) (h2 : n.vers.length ≤ 1000) => check_any_line h h1 h2 (hL.below hb))
 have HSM := hid (fun (W : World) (B B2 : Nat) (l l2 : LnC) (n : LnS) (h : LnAt W B l n) (h' : LnAt W B2 l2 n) (h1 : n.names.length ≤ 1000) (h2 : n.vers.length ≤ 1000) => (by
   have := same_any_line l l2 n n B B2 W h h' (by omega) (by omega) (by omega) (by omega)
   rw [decide_eq_true (rfl : n = n)] at this
   exact this : Calls Tryz.prog 18 #[valLn l, valLn l2] W (Ret (.bool true) W)))
 have hl1 : (cutL s).names.length ≤ 1000 ∧ (cutL s).vers.length ≤ 1000 := by constructor <;> simp only [List.length_take] <;> omega
 have HL1 := hid hl1
 obtain ⟨u, hu⟩ : ∃ u, u = cutL s := ⟨_, rfl⟩
 rw [← hu] at HOX HL1
 obtain ⟨t, ht⟩ : ∃ t, t = tx.take 9000 := ⟨_, rfl⟩
 have htl : t.length ≤ 9000 := by rw [ht, List.length_take]; omega
 have HCT := hid (fun W => cut12 tx W)
 rw [← ht] at HCT
 have HTL := hid htl
 have hzt := bsz t
 clear hT hE hL hb0 hx hl1 hu ht htl
 go_enter Tryz.func6, Tryz.ntmps6
 go_wp2_with fail
 refine HWK.out.mono ?_
 rintro e w1 ⟨rfl, hb1⟩
 have HB1 := hid (HB0.out.trans (hb1.mono HB0.out.size)); have hx1 := HX0.out.keep hb1
 have hcx := hx1.1
 clear hb1 hx1
 go_wp2_with fail
 refine (HOX.out _ HB1.out).mono ?_
 rintro e w2 ⟨c1, rfl, hl1, hb2⟩
 have HB2 := hid (HB1.out.trans (hb2.mono HB1.out.size))
 have hba := belowA (Below.refl w2.heap.size w2) (.cells (cellsLn c1) 28)
 have HL3 := hid (hl1.below hba); have HX5 := hid (Bx.new w2 (cellsLn c1) 28)
 have HB3 := hid (HB2.out.trans (hba.mono HB2.out.size))
 have hc5 := HX5.out.1
 have HW5 : Hid (w.heap.size ≤ w2.heap.size) := hid HB2.out.size
 clear hb2 hba hl1 hcx
 go_wp2_with fail
 have htx := HTX.out _ HB3.out _ _ _ HL3.out HL1.out.1 HL1.out.2
 have HTT := hid (fun h : lineB u = true => textK_ok h); have HRK := hid (fun h : lineB u = true => readK h)
 cases hB : lineB u
 · skip
   rw [hB] at htx
   simp only [Bool.false_eq_true, if_false] at htx
   clear hB hc5
   refine htx.mono ?_
   rintro e w4 ⟨rfl, hb4⟩
   have HBs := hid (HB3.out.trans (hb4.mono HB3.out.size)); have HYs := hid (HX5.out.keep hb4)
   clear htx hb4
   go_wp2_with fail
   refine (HCT.out _).mono ?_
   rintro e w20 ⟨rfl, hb20⟩
   have HB20 := hid (HBs.out.trans (hb20.mono HBs.out.size)); have HY20 := hid (HYs.out.keep hb20)
   clear hb20
   go_wp2_with fail
   have hrd := HRD.out t (by have := HTL.out; omega) _ HB20.out
   rcases read_any t with ⟨n, nx, hR, hnB, hnx⟩ | ⟨nx, er, hR, her, h0, h1⟩
   · skip
     have HR := hid hR; have HNB := hid hnB; have HNX := hid hnx
     have hnl := readLn_len t 0
     rw [hR] at hnl
     have HNL := hid hnl
     clear hnl hnx
     rw [hR] at hrd
     refine hrd.mono ?_
     rintro e w21 ⟨c3, rfl, hl21, hb21⟩
     have HB21 := hid (HB20.out.trans (hb21.mono HB20.out.size)); have hy21 := HY20.out.keep hb21
     have hlt := HY20.out.2.2
     have HL22 := hid (LnAt.put6 (g := w2.heap.size) (c' := c3) hl21 (fun i hi => by have := (hl21.2.1.lt i hi).1; omega) (fun i hi => by have := (hl21.2.2.lt i hi).1; omega))
     have HB22 := hid (put6_below (g := w2.heap.size) HB21.out HW5.out HB21.out.size c3)
     have HY22 := hid (put6_bx hy21 c3)
     have hc5 := hy21.1; have hf5 := hy21.2.1
     clear hrd hl21 hb21 hlt hy21
     clear hR
     go_wp2_with fail
     have htx := HTX.out _ HB22.out _ _ _ HL22.out HNL.out.1 HNL.out.2
     rw [hnB] at htx
     simp only [if_true] at htx
     clear hnB hc5 hf5
     refine htx.mono ?_
     rintro e w23 ⟨rfl, hb23⟩
     have HB23 := hid (HB22.out.trans (hb23.mono HB22.out.size)); have HL23 := hid (HL22.out.below hb23); have HY23 := hid (HY22.out.keep hb23)
     clear htx hb23
     go_wp2_with fail
     have hrd := HRD.out (textK n) (by have := (textK_ok HNB.out).1; omega) _ HB23.out
     rw [readK HNB.out] at hrd
     refine hrd.mono ?_
     rintro e w24 ⟨c4, rfl, hl24, hb24⟩
     have hba := belowA (Below.refl w24.heap.size w24) (.cells (cellsLn c4) 28)
     have HB24 := hid ((HB23.out.trans (hb24.mono HB23.out.size)).trans (hba.mono (by have := (HB23.out.trans (hb24.mono HB23.out.size)).size; exact this)))
     have HL24 := hid ((HL23.out.below hb24).below hba); have HM24 := hid (LnAt.below hl24 hba); have hy24 := (HY23.out.keep hb24).keep hba; have hz24 := Bx.new w24 (cellsLn c4) 28
     have HY24 := hid hy24
     have hc5 := hy24.1; have hc15 := hz24.1
     clear hrd hl24 hb24 hba hy24 hz24
     go_wp2_with fail
     refine (HSM.out _ _ _ _ _ _ HM24.out HL24.out HNL.out.1 HNL.out.2).mono ?_
     rintro e w25 ⟨rfl, hb25⟩
     have HB25 := hid (HB24.out.trans (hb25.mono HB24.out.size)); have HL25 := hid (HL24.out.below hb25); have hy25 := HY24.out.keep hb25
     have hc5' := hy25.1
     clear hb25 hy25 hc5 hc15
     go_wp2_with fail
     have hck := HCK.out _ HB25.out _ _ _ HL25.out HNL.out.1 HNL.out.2
     rw [if_pos HNB.out] at hck
     refine hck.mono ?_
     rintro e w26 ⟨rfl, hb26⟩
     have HB26 := hid (HB25.out.trans (hb26.mono HB25.out.size))
     clear hck hb26 hc5'
     by_cases hnx : nx = (t.length : Int)
     · subst hnx
       have hzz : (((t.length : Int)) == (t.length : Int)) = true := beq_self_eq_true _
       go_wp2_with fail
       go_ret
       exact ⟨rfl, HB26.out⟩
     · obtain ⟨q, hq, hq10, hql⟩ := HNX.out.resolve_left hnx
       have hne : (nx == (t.length : Int)) = false := beq_eq_false_iff_ne.2 hnx
       have hsub : nx - 1 = (q : Int) := by omega
       have hix := fun W => run_ix Tryz.underlying9 t q 10 hq10 W
       have hwq : wrap64 (q : Int) = (q : Int) := by have := HTL.out; unfold wrap64; omega
       clear hnx hq hq10 hql
       go_wp2_with fail
       go_ret
       exact ⟨rfl, HB26.out⟩
   · skip
     rw [hR] at hrd
     refine hrd.mono ?_
     rintro e w21 ⟨c3, rfl, hl21, hb21⟩
     have HB21 := hid (HB20.out.trans (hb21.mono HB20.out.size)); have hy21 := HY20.out.keep hb21
     have hlt := HY20.out.2.2
     have HL22 := hid (LnAt.put6 (g := w2.heap.size) (c' := c3) hl21 (fun i hi => by have := (hl21.2.1.lt i hi).1; omega) (fun i hi => by have := (hl21.2.2.lt i hi).1; omega))
     have HB22 := hid (put6_below (g := w2.heap.size) HB21.out HW5.out HB21.out.size c3)
     have HY22 := hid (put6_bx hy21 c3)
     have hc5 := hy21.1; have hf5 := hy21.2.1
     clear hrd hl21 hb21 hlt hy21
     have hbn : (er != 0) = true := by rw [bne, beq_eq_false_iff_ne.2 her]; rfl
     have hge : decide ((0 : Int) ≤ nx) = true := by simp; exact h0
     have hle : decide (nx ≤ (t.length : Int)) = true := by simp; exact h1
     clear hR her h0 h1
     go_wp2_with fail
     refine (HSM.out _ _ 0 _ noC _ HL22.out (noLn_at _ 0) (by simp) (by simp)).mono ?_
     rintro e w23 ⟨rfl, hb23⟩
     have HB23 := hid (HB22.out.trans (hb23.mono HB22.out.size))
     clear hb23 hc5 hf5
     go_wp2_with fail
     go_ret
     exact ⟨rfl, HB23.out⟩
 · skip
   have HLB := hid hB
   rw [hB] at htx
   simp only [if_true] at htx
   clear hB hc5
   refine htx.mono ?_
   rintro e w4 ⟨rfl, hb4⟩
   have HB4 := hid (HB3.out.trans (hb4.mono HB3.out.size)); have HY4 := hid (HX5.out.keep hb4); have HL4 := hid (HL3.out.below hb4)
   clear htx hb4
   go_wp2_with fail
   obtain ⟨T, hTK⟩ : ∃ T, T = textK u := ⟨_, rfl⟩
   have hk := HTT.out HLB.out; have hrk := HRK.out HLB.out
   rw [← hTK] at hk hrk ⊢
   have HKK := hid hk
   have hzT := bsz T
   have hrd := HRD.out T (by omega) _ HB4.out
   rw [hrk] at hrd
   clear hk hrk hTK
   refine hrd.mono ?_
   rintro e w5 ⟨c2, rfl, hl5, hb5⟩
   have hba := belowA (Below.refl w5.heap.size w5) (.cells (cellsLn c2) 28)
   have HB5 := hid ((HB4.out.trans (hb5.mono HB4.out.size)).trans (hba.mono (HB4.out.trans (hb5.mono HB4.out.size)).size))
   have HL5 := hid ((HL4.out.below hb5).below hba); have HM5 := hid (LnAt.below hl5 hba); have hy5 := (HY4.out.keep hb5).keep hba; have hz5 := Bx.new w5 (cellsLn c2) 28
   have HY5 := hid hy5
   have hc5 := hy5.1; have hc8 := hz5.1
   clear hrd hl5 hb5 hba hy5 hz5
   go_wp2_with fail
   refine (HSM.out _ _ _ _ _ _ HM5.out HL5.out HL1.out.1 HL1.out.2).mono ?_
   rintro e w6 ⟨rfl, hb6⟩
   have HBs := hid (HB5.out.trans (hb6.mono HB5.out.size)); have HYs := hid (HY5.out.keep hb6)
   clear hb6 hc5 hc8
   go_wp2_with fail
   refine (Tryz.strings_Count_one ⟨T.toArray⟩ 10 w6).mono ?_
   rintro e w7 ⟨rfl, rfl⟩
   have hcnt : Lib.countByte (⟨T.toArray⟩ : ByteArray).data.toList 10 = 1 := HKK.out.2.1
   rw [hcnt]
   go_wp2_with fail
   refine (HCT.out _).mono ?_
   rintro e w20 ⟨rfl, hb20⟩
   have HB20 := hid (HBs.out.trans (hb20.mono HBs.out.size)); have HY20 := hid (HYs.out.keep hb20)
   clear hb20
   go_wp2_with fail
   have hrd := HRD.out t (by have := HTL.out; omega) _ HB20.out
   rcases read_any t with ⟨n, nx, hR, hnB, hnx⟩ | ⟨nx, er, hR, her, h0, h1⟩
   · skip
     have HR := hid hR; have HNB := hid hnB; have HNX := hid hnx
     have hnl := readLn_len t 0
     rw [hR] at hnl
     have HNL := hid hnl
     clear hnl hnx
     rw [hR] at hrd
     refine hrd.mono ?_
     rintro e w21 ⟨c3, rfl, hl21, hb21⟩
     have HB21 := hid (HB20.out.trans (hb21.mono HB20.out.size)); have hy21 := HY20.out.keep hb21
     have hlt := HY20.out.2.2
     have HL22 := hid (LnAt.put6 (g := w2.heap.size) (c' := c3) hl21 (fun i hi => by have := (hl21.2.1.lt i hi).1; omega) (fun i hi => by have := (hl21.2.2.lt i hi).1; omega))
     have HB22 := hid (put6_below (g := w2.heap.size) HB21.out HW5.out HB21.out.size c3)
     have HY22 := hid (put6_bx hy21 c3)
     have hc5 := hy21.1; have hf5 := hy21.2.1
     clear hrd hl21 hb21 hlt hy21
     clear hR
     go_wp2_with fail
     have htx := HTX.out _ HB22.out _ _ _ HL22.out HNL.out.1 HNL.out.2
     rw [hnB] at htx
     simp only [if_true] at htx
     clear hnB hc5 hf5
     refine htx.mono ?_
     rintro e w23 ⟨rfl, hb23⟩
     have HB23 := hid (HB22.out.trans (hb23.mono HB22.out.size)); have HL23 := hid (HL22.out.below hb23); have HY23 := hid (HY22.out.keep hb23)
     clear htx hb23
     go_wp2_with fail
     have hrd := HRD.out (textK n) (by have := (textK_ok HNB.out).1; omega) _ HB23.out
     rw [readK HNB.out] at hrd
     refine hrd.mono ?_
     rintro e w24 ⟨c4, rfl, hl24, hb24⟩
     have hba := belowA (Below.refl w24.heap.size w24) (.cells (cellsLn c4) 28)
     have HB24 := hid ((HB23.out.trans (hb24.mono HB23.out.size)).trans (hba.mono (by have := (HB23.out.trans (hb24.mono HB23.out.size)).size; exact this)))
     have HL24 := hid ((HL23.out.below hb24).below hba); have HM24 := hid (LnAt.below hl24 hba); have hy24 := (HY23.out.keep hb24).keep hba; have hz24 := Bx.new w24 (cellsLn c4) 28
     have HY24 := hid hy24
     have hc5 := hy24.1; have hc15 := hz24.1
     clear hrd hl24 hb24 hba hy24 hz24
     go_wp2_with fail
     refine (HSM.out _ _ _ _ _ _ HM24.out HL24.out HNL.out.1 HNL.out.2).mono ?_
     rintro e w25 ⟨rfl, hb25⟩
     have HB25 := hid (HB24.out.trans (hb25.mono HB24.out.size)); have HL25 := hid (HL24.out.below hb25); have hy25 := HY24.out.keep hb25
     have hc5' := hy25.1
     clear hb25 hy25 hc5 hc15
     go_wp2_with fail
     have hck := HCK.out _ HB25.out _ _ _ HL25.out HNL.out.1 HNL.out.2
     rw [if_pos HNB.out] at hck
     refine hck.mono ?_
     rintro e w26 ⟨rfl, hb26⟩
     have HB26 := hid (HB25.out.trans (hb26.mono HB25.out.size))
     clear hck hb26 hc5'
     by_cases hnx : nx = (t.length : Int)
     · subst hnx
       have hzz : (((t.length : Int)) == (t.length : Int)) = true := beq_self_eq_true _
       go_wp2_with fail
       go_ret
       exact ⟨rfl, HB26.out⟩
     · obtain ⟨q, hq, hq10, hql⟩ := HNX.out.resolve_left hnx
       have hne : (nx == (t.length : Int)) = false := beq_eq_false_iff_ne.2 hnx
       have hsub : nx - 1 = (q : Int) := by omega
       have hix := fun W => run_ix Tryz.underlying9 t q 10 hq10 W
       have hwq : wrap64 (q : Int) = (q : Int) := by have := HTL.out; unfold wrap64; omega
       clear hnx hq hq10 hql
       go_wp2_with fail
       go_ret
       exact ⟨rfl, HB26.out⟩
   · skip
     rw [hR] at hrd
     refine hrd.mono ?_
     rintro e w21 ⟨c3, rfl, hl21, hb21⟩
     have HB21 := hid (HB20.out.trans (hb21.mono HB20.out.size)); have hy21 := HY20.out.keep hb21
     have hlt := HY20.out.2.2
     have HL22 := hid (LnAt.put6 (g := w2.heap.size) (c' := c3) hl21 (fun i hi => by have := (hl21.2.1.lt i hi).1; omega) (fun i hi => by have := (hl21.2.2.lt i hi).1; omega))
     have HB22 := hid (put6_below (g := w2.heap.size) HB21.out HW5.out HB21.out.size c3)
     have HY22 := hid (put6_bx hy21 c3)
     have hc5 := hy21.1; have hf5 := hy21.2.1
     clear hrd hl21 hb21 hlt hy21
     have hbn : (er != 0) = true := by rw [bne, beq_eq_false_iff_ne.2 her]; rfl
     have hge : decide ((0 : Int) ≤ nx) = true := by simp; exact h0
     have hle : decide (nx ≤ (t.length : Int)) = true := by simp; exact h1
     clear hR her h0 h1
     go_wp2_with fail
     refine (HSM.out _ _ 0 _ noC _ HL22.out (noLn_at _ 0) (by simp) (by simp)).mono ?_
     rintro e w23 ⟨rfl, hb23⟩
     have HB23 := hid (HB22.out.trans (hb23.mono HB22.out.size))
     clear hb23 hc5 hf5
     go_wp2_with fail
     go_ret
     exact ⟨rfl, HB23.out⟩
end Yd


namespace Yd
open Go Go.RowKit Go.Proofs

theorem heap_set_same {w : World} {b i : Nat} {cs : Array Value} {T : TypeId} {fr : Nat × Nat} (hb : w.heap[b]? = some (.cells cs T fr)) (v : Value) : (w.setCell ⟨b, i, none⟩ v).heap[b]? = some (.cells (cs.setIfInBounds i v) T fr) := by
 simp [World.setCell, Array.getElem?_modify, hb]
section
variable {α : Type} {enc : α → List Value} {k : Nat}
theorem flat_set [hc : Cells enc k] : ∀ (xs : List α) (i j : Nat) (x y : α) (v : Value), xs[i]? = some x → j < k → (enc x).set j v = enc y → (xs.flatMap enc).set (i * k + j) v = (xs.set i y).flatMap enc
 | [], i, j, x, y, v, h, _, _ => by simp at h
 | a :: xs, 0, j, x, y, v, h, hj, he => by
   obtain rfl : a = x := by simpa using h
   rw [List.flatMap_cons, List.set_cons_zero, List.flatMap_cons, Nat.zero_mul, Nat.zero_add, List.set_append_left _ _ (by rw [hc.len]; exact hj), he]
 | a :: xs, i + 1, j, x, y, v, h, hj, he => by
   have ih := flat_set xs i j x y v (by simpa using h) hj he
   rw [List.flatMap_cons, List.set_cons_succ, List.flatMap_cons, List.set_append_right _ _ (by rw [hc.len, Nat.succ_mul]; omega), hc.len, ← ih]
   congr 2
   rw [Nat.succ_mul]; omega
theorem Own.put [hc : Cells enc k] {w : World} {B g n c i j : Nat} {E : TypeId} {xs : List α} {x y : α} {v : Value} (h : Own w B E k enc (.slice (some ⟨g, 0, none⟩) n c) xs) (hx : xs[i]? = some x) (hj : j < k) (he : (enc x).set j v = enc y) :
   Own (w.setCell ⟨g, i * k + j, none⟩ v) B E k enc (.slice (some ⟨g, 0, none⟩) n c) (xs.set i y) := by
 obtain ⟨h1, h2⟩ := h
 refine ⟨flat_len _, ?_⟩
 rcases h2 with ⟨e, _⟩ | ⟨g', cap, cur, e, hB, hh, hn, hm, hs, ht⟩
 · cases e
 · injection e with e1 e2 e3
   injection e1 with e1
   injection e1 with e1
   subst e1
   refine .inr ⟨g, cap, cur.setIfInBounds (i * k + j) v, ?_, hB, heap_set_same hh v, by rw [List.length_set]; exact hn, hm, by rw [Array.size_setIfInBounds]; exact hs, ?_⟩
   · rw [List.length_set, e2, e3]
   · rw [List.length_set, Array.toList_setIfInBounds, List.take_set, ht]
     exact flat_set xs i j x y v hx hj he
end
end Yd
