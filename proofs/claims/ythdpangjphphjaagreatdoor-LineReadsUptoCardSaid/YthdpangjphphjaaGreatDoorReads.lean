import Derived.Test.YthdpangjphphjaaGreatDoorCuX
import Derived.Test.YthdpangjphphjaaGreatDoorWk12
import Derived.Test.YthdpangjphphjaaGreatDoorProg
set_option maxRecDepth 200000
set_option maxHeartbeats 8000000
namespace Yd
open Go Go.RowKit Go.Proofs

theorem others_len (pairs : Bool) (most : Nat) : ∀ (f many : Nat) (ns : List Bs) (vs : List To) (l : Bs) {x : List Bs × List To} {r : Bs}, othersS pairs most f many ns vs l = .ok (x, r) → x.1.length ≤ ns.length + f ∧ x.2.length ≤ vs.length + f
 | 0, many, ns, vs, l, x, r, h => by rw [othersS] at h; injection h with h; injection h with h _; subst h; exact ⟨Nat.le_refl _, Nat.le_refl _⟩
 | f + 1, many, ns, vs, l, x, r, h => by
   rw [othersS] at h
   cases hm : moreS l with
   | error y => rw [hm] at h; cases h
   | ok y =>
     obtain ⟨b, r0⟩ := y
     rw [hm] at h
     cases b
     · injection h with h; injection h with h _; subst h; exact ⟨by simp, by simp⟩
     · simp only [] at h
       by_cases hb : many = most ∧ beginsS r0 = true
       · rw [if_pos hb] at h; cases h
       · rw [if_neg hb] at h
         cases hn : nameS r0 with
         | error y => rw [hn] at h; cases h
         | ok y =>
           obtain ⟨nm, r1⟩ := y
           rw [hn] at h
           simp only [] at h
           by_cases hp : pairs = true
           · rw [if_pos hp] at h
             cases hu : mustS r1 with
             | error y => rw [hu] at h; cases h
             | ok r2 =>
               rw [hu] at h
               simp only [] at h
               cases hv : versS r2 with
               | error y => rw [hv] at h; cases h
               | ok y =>
                 obtain ⟨v, r3⟩ := y
                 rw [hv] at h
                 have := others_len pairs most f (many + 1) _ _ _ h
                 simp only [List.length_append, List.length_singleton] at this
                 omega
           · rw [if_neg hp] at h
             have := others_len pairs most f (many + 1) _ _ _ h
             simp only [List.length_append, List.length_singleton] at this
             omega
theorem names_len : ∀ (k : Nat) (acc : List Bs) (l : Bs) {ns : List Bs} {r : Bs}, namesS k acc l = .ok (ns, r) → ns.length ≤ acc.length + k
 | 0, acc, l, ns, r, h => by rw [namesS] at h; injection h with h; injection h with h _; subst h; exact Nat.le_refl _
 | k + 1, acc, l, ns, r, h => by
   rw [namesS] at h
   cases hm : mustS l with
   | error y => rw [hm] at h; cases h
   | ok r0 =>
     rw [hm] at h
     simp only [] at h
     cases hn : nameS r0 with
     | error y => rw [hn] at h; cases h
     | ok y =>
       obtain ⟨nm, r1⟩ := y
       rw [hn] at h
       have := names_len k _ _ h
       simp only [List.length_append, List.length_singleton] at this
       omega
theorem tail_len {k : Nat} {ns : List Bs} {l r : Bs} {n : LnS} (h : tailS k ns l = .ok (n, r)) : n.names.length ≤ ns.length + 301 ∧ n.vers.length ≤ 301 := by
 unfold tailS at h
 by_cases h1 : k = 1
 · rw [if_pos h1] at h
   cases hm : mustS l with
   | error y => rw [hm] at h; cases h
   | ok r0 =>
     rw [hm] at h
     simp only [] at h
     cases hn : wordS levelL r0 with
     | error y => rw [hn] at h; cases h
     | ok y => rw [hn] at h; injection h with h; injection h with h _; subst h; exact ⟨by simp, by simp⟩
 rw [if_neg h1] at h
 by_cases h3 : k = 3
 · rw [if_pos h3] at h
   cases hm : mustS l with
   | error y => rw [hm] at h; cases h
   | ok r0 =>
     rw [hm] at h
     simp only [] at h
     cases hn : versS r0 with
     | error y => rw [hn] at h; cases h
     | ok y => rw [hn] at h; injection h with h; injection h with h _; subst h; exact ⟨by simp, by simp⟩
 rw [if_neg h3] at h
 by_cases h9 : k = 9
 · rw [if_pos h9] at h
   cases hm : guarS 5 0 0 l with
   | error y => rw [hm] at h; cases h
   | ok y => rw [hm] at h; injection h with h; injection h with h _; subst h; exact ⟨by simp, by simp⟩
 rw [if_neg h9] at h
 by_cases h8 : k = 8
 · rw [if_pos h8] at h
   cases hm : firstS l with
   | error y => rw [hm] at h; cases h
   | ok y =>
     obtain ⟨f, r0⟩ := y
     rw [hm] at h
     simp only [] at h
     cases ho : othersS false 300 301 0 ns [] r0 with
     | error y => rw [ho] at h; cases h
     | ok y =>
       obtain ⟨⟨a, b⟩, r1⟩ := y
       have := others_len _ _ _ _ _ _ _ ho
       rw [ho] at h; injection h with h; injection h with h _; subst h; simpa using this
 rw [if_neg h8] at h
 by_cases h4 : k = 4
 · rw [if_pos h4] at h
   cases ho : othersS true 40 41 0 ns [] l with
   | error y => rw [ho] at h; cases h
   | ok y =>
     obtain ⟨⟨a, b⟩, r1⟩ := y
     have := others_len _ _ _ _ _ _ _ ho
     rw [ho] at h; injection h with h; injection h with h _; subst h
     simp only [List.length_nil] at this ⊢
     omega
 rw [if_neg h4] at h
 by_cases h7 : k = 7
 · rw [if_pos h7] at h
   cases ho : othersS false 300 301 0 ns [] l with
   | error y => rw [ho] at h; cases h
   | ok y =>
     obtain ⟨⟨a, b⟩, r1⟩ := y
     have := others_len _ _ _ _ _ _ _ ho
     rw [ho] at h; injection h with h; injection h with h _; subst h; simpa using this
 rw [if_neg h7] at h
 injection h with h; injection h with h _; subst h; exact ⟨by simp, by simp⟩
theorem formN_le (k : Nat) : (formN k).toNat ≤ 2 := by
 match k with
 | 0 => decide
 | 1 => decide
 | 2 => decide
 | 3 => decide
 | 4 => decide
 | 5 => decide
 | 6 => decide
 | 7 => decide
 | 8 => decide
 | k + 9 => exact (by decide : (1 : Int).toNat ≤ 2)
theorem readS_len {l r : Bs} {n : LnS} (h : readS l = .ok (n, r)) : n.names.length ≤ 1000 ∧ n.vers.length ≤ 1000 := by
 unfold readS at h
 by_cases he : endsS (skipS l) = true
 · rw [if_pos he] at h; injection h with h; injection h with h _; subst h; exact ⟨by simp, by simp⟩
 rw [if_neg he] at h
 cases hw : wordS verbL (skipS l) with
 | error y => rw [hw] at h; cases h
 | ok y =>
   obtain ⟨i, r0⟩ := y
   rw [hw] at h
   simp only [] at h
   cases hn : namesS (formN (i + 1)).toNat [] r0 with
   | error y => rw [hn] at h; cases h
   | ok y =>
     obtain ⟨ns, r1⟩ := y
     rw [hn] at h
     simp only [] at h
     have h1 := names_len _ _ _ hn
     have h2 := formN_le (i + 1)
     simp only [List.length_nil] at h1
     cases ht : tailS (i + 1) ns r1 with
     | error y => rw [ht] at h; cases h
     | ok y =>
       obtain ⟨s, r2⟩ := y
       rw [ht] at h
       have h3 := tail_len ht
       simp only [] at h
       cases hm : moreS r2 with
       | error y => rw [hm] at h; cases h
       | ok y =>
         obtain ⟨b, r3⟩ := y
         rw [hm] at h
         cases b
         · injection h with h; injection h with h _; subst h; omega
         · cases h
theorem readLn_len (s : Bs) (p : Int) : (readLn s p).1.names.length ≤ 1000 ∧ (readLn s p).1.vers.length ≤ 1000 := by
 unfold readLn
 by_cases h : p < 0 ∨ (s.length : Int) < p
 · rw [if_pos h]; exact ⟨by simp, by simp⟩
 rw [if_neg h]
 cases hl : lineS (s.drop p.toNat) with
 | error y => exact ⟨by simp, by simp⟩
 | ok y =>
   obtain ⟨n, r⟩ := y
   show n.names.length ≤ 1000 ∧ n.vers.length ≤ 1000
   unfold lineS at hl
   cases hr : readS (s.drop p.toNat) with
   | error y => rw [hr] at hl; cases hl
   | ok y =>
     obtain ⟨n', r'⟩ := y
     have := readS_len hr
     rw [hr] at hl
     simp only [] at hl
     split at hl
     · injection hl with hl; injection hl with hl _; subst hl; exact this
     · split at hl
       · injection hl with hl; injection hl with hl _; subst hl; exact this
       · cases hl
theorem cut12 (s : Bs) (w : World) : Calls Tryz.prog 9 #[.string ⟨s.toArray⟩] w (Ret (.string ⟨(s.take 9000).toArray⟩) w) := by
 have hz := bsz s
 obtain ⟨m, hm⟩ : ∃ m : Nat, m = min s.length 9000 := ⟨_, rfl⟩
 have hmi : min (s.length : Int) 9000 = (m : Int) := by omega
 have hext : (⟨s.toArray⟩ : ByteArray).extract 0 m = ⟨(s.take 9000).toArray⟩ := by
   rw [ext_both s 0 m (Nat.zero_le _), List.drop_zero, Nat.sub_zero, hm, Nat.min_comm, ← List.take_eq_take_min]
 have hmb : m ≤ 9000 := by omega
 have hml : m ≤ s.length := by omega
 have HE := hid hext
 clear hm hext
 go_enter Tryz.func9, Tryz.ntmps9
 go_wp2_with fail
 have hext := HE.out
 refine bodyPost_ret (v := .string ⟨(s.take 9000).toArray⟩) (by simp [results, Tryz.results9, go_sem, hext]) rfl ?_
 exact ⟨rfl, Below.refl _ _⟩
theorem Row.int {w : World} {a : Option Addr} {n c : Nat} {xs : List Int} (h : Row w 1 encInt a n c xs) {i : Nat} (hi : i < n) : ∃ x b o, xs[i]? = some x ∧ a = some ⟨b, o, none⟩ ∧ w.cell? ⟨b, o + i, none⟩ = some (.int .i64 x) := by
 obtain ⟨x, b, o, h1, h2, h3⟩ := h.at_ hi
 refine ⟨x, b, o, h1, h2, ?_⟩
 have := h3 0 _ rfl
 simpa using this
theorem law_reads (s : Bs) (a : Option Addr) (n c : Nat) (pl : List Int) (w : World) (hr : Row w 1 encInt a n c pl) (hn : n ≤ 2000000) (hT : Lib.Utf8Tabs 2 3 w) (hE : GlobE w) (hL : GlobL w) :
   Calls Tryz.prog 3 #[.string ⟨s.toArray⟩, .slice a n c] w (Ret (.bool true) w) := by
 obtain ⟨t, ht⟩ : ∃ t, t = s.take 9000 := ⟨_, rfl⟩
 have htl : t.length ≤ 9000 := by rw [ht, List.length_take]; omega
 have HCT := hid (fun W => cut12 s W)
 rw [← ht] at HCT
 have HRD := hid (fun (W : World) (x : Int) (hb : Below w.heap.size w W) => line_Read t x (by omega) W (Utf8Tabs_below hT hb) (hE.below hb) (hL.below hb))
 have HRR := hid (fun (W : World) (p : Nat) (hp : p ≤ t.length) => r_Read12 t p hp (by omega) W)
 have HWK := hid (wakes12 w hT hE hL)
 have HLN := hid (fun x => readLn_len t x)
 have hOUT : ∀ x : Int, (x < 0 ∨ (t.length : Int) < x) → readLn t x = (noLn, 0, 2) := fun x h => by unfold readLn; rw [if_pos h]
 have HOUT := hid hOUT
 obtain ⟨i, z, hi, hz, hsize, hby', hzs⟩ := partsInt
 have HI := hid (⟨hi, hz, hsize, hby', hzs⟩ : _ ∧ _ ∧ _ ∧ _ ∧ _)
 have hzt := bsz t
 have HR := hid hr
 have hlen := hr.len
 obtain ⟨m, hm⟩ : ∃ m, m = n + 1 := ⟨_, rfl⟩
 have HN1 : Hid (([0] : List Int).length + n = m) := hid (by simp; omega)
 have HN2 : Hid (m * 8 ≤ 140737488355328) := hid (by omega)
 have HN3 : Hid (m ≤ maxLen) := hid (by unfold maxLen; omega)
 have HMM := hid hm
 clear ht hT hE hL hOUT hi hz hsize hby' hzs hr hlen hm
 go_enter Tryz.func3, Tryz.ntmps3
 go_wp2_with fail
 refine HWK.out.mono ?_
 rintro e w1 ⟨rfl, hb1⟩
 have HB1 := hid hb1
 clear hb1
 go_wp2_with fail
 refine (HCT.out _).mono ?_
 rintro e w2 ⟨rfl, hb2⟩
 have HB2 := hid (HB1.out.trans (hb2.mono HB1.out.size))
 clear hb2
 have HBA := hid (belowA HB2.out (.cells #[.int .i64 0] 3))
 have HRA := hid (HR.out.below HBA.out rfl)
 have HO := hid (Own.new (hc := cInsInt) w2 w2.heap.size 3 (enc := encInt) #[.int .i64 0] [0] (Nat.le_refl _) rfl (by simp [maxLen]))
 have HSZ : Hid (w2.heap.size ≤ (w2.alloc (.cells #[.int .i64 0] 3)).heap.size) := hid (by simp)
 go_wp2_with (at_builtin; refine wpList_app rfl _ _ 22 rfl i z 8 Tryz.underlying22 HI.out.1 HI.out.2.1 HI.out.2.2.1 HI.out.2.2.2.1 HI.out.2.2.2.2 rfl HO.out a n c m pl rfl HRA.out HN1.out HN2.out HN3.out HSZ.out ?_; intro a' c' w3 hown3 hg3 hat3)
 have HB3 : Hid (Below w.heap.size w w3) := hid (below_app HBA.out HO.out HB2.out.size (by have := HB2.out.size; simp; omega) hg3)
 obtain ⟨xs, hxs⟩ : ∃ xs : List Int, xs = [0] ++ pl := ⟨_, rfl⟩
 rw [← hxs] at hown3
 have hxl : xs.length ≤ 2000001 := by rw [hxs]; have := HR.out.len; simp; omega
 have hrow := hown3.row (by omega)
 have hxn : m = xs.length := by rw [hxs]; have := HR.out.len; have := HMM.out; simp; omega
 have HROW := hid hrow; have HML : Hid (m ≤ 2000001) := hid (by omega)
 clear hown3 hg3 hat3 hxs hxl hrow hxn
 go_wp2_with fail
 go_loopw [21] (fun i wr => ∃ (W : World) (k : Nat), W = wr ∧ i = .int .i64 k ∧ k ≤ m ∧ k ≤ 8 ∧ Below w.heap.size w W ∧ Row W 1 encInt a' m c' xs) (fun i _ => m - (RowKit.intOf i).toNat)
 case atStart => exact ⟨_, 0, rfl, rfl, Nat.zero_le _, Nat.zero_le _, HB3.out, HROW.out⟩
 case round =>
   obtain ⟨W, k, rfl, rfl, hkm, hk8, hbw, hrw⟩ := hrel
   have HBW := hid hbw; have HRW := hid hrw; have HK8 := hid hk8
   clear hbw
   by_cases hlt : k < m
   · have hd1 : decide ((k : Int) < (m : Int)) = true := by simp; exact hlt
     have hd1n : decide (k < m) = true := by simp; exact hlt
     obtain ⟨x, b, o, hx, hab, hcell⟩ := hrw.int hlt
     subst hab
     have HLT := hid hlt
     clear hrw hkm hx hlt
     by_cases h8 : k = 8
     · have he8 : ((k : Int) == 8) = true := by rw [h8]; rfl
       clear h8 hk8
       go_wp2_with fail
       go_ret
       exact ⟨rfl, HBW.out⟩
     · have he8 : ((k : Int) == 8) = false := beq_eq_false_iff_ne.2 (by omega)
       have HK7 : Hid (k + 1 ≤ 8) := hid (by omega)
       clear h8 hk8
       go_wp2_with fail
       obtain ⟨R, hR⟩ : ∃ R, R = readLn t x := ⟨_, rfl⟩
       have hrd := HRD.out _ x HBW.out
       have hlen := HLN.out x
       have HOX := hid (HOUT.out x)
       rw [← hR] at hrd hlen HOX
       have HRV := hid hR
       clear hR
       obtain ⟨rn, rx, re⟩ := R
       refine hrd.mono ?_
       rintro e w5 ⟨c1, rfl, hl1, hb5⟩
       clear hrd
       have HL1 : Hid (LnAt w5 W.heap.size c1 rn) := hid hl1; have HB5 := hid (HBW.out.trans (hb5.mono HBW.out.size)); have HLE : Hid (rn.names.length ≤ 1000 ∧ rn.vers.length ≤ 1000) := hid hlen
       have HRW5 := hid (HRW.out.below hb5 rfl)
       clear hl1 hb5 hlen hcell
       have hba := belowA (belowA (Below.refl w5.heap.size w5) (.cells (cellsLn c1) 28)) (.cells zeroLn 28)
       have hx1 := (Bx.new w5 (cellsLn c1) 28).alloc (.cells zeroLn 28)
       have hx2 : Bx ((w5.alloc (.cells (cellsLn c1) 28)).alloc (.cells zeroLn 28)) (w5.heap.size + 1) zeroLn := Bx.new1 (by simp)
       have HBA2 := hid hba; have HX1 := hid hx1; have HX2 := hid hx2
       by_cases hin : 0 ≤ x ∧ x ≤ (t.length : Int)
       · obtain ⟨p, hp⟩ : ∃ p : Nat, x = (p : Int) := ⟨x.toNat, by omega⟩
         have hpl : p ≤ t.length := by omega
         have hle : decide ((p : Int) ≤ (t.length : Int)) = true := by simp; exact hpl
         have hlen' : decide (p ≤ t.length) = true := by simp; exact hpl
         have HPL := hid hpl
         subst hp
         clear hin hpl hba hx1 hx2
         go_wp2_with fail
         refine (HRR.out _ p HPL.out).mono ?_
         rintro e w8 ⟨c2, he, hl2, hb8⟩
         rw [← HRV.out] at he hl2
         subst he
         have hx1 := HX1.out.keep hb8; have hx2 := HX2.out.keep hb8
         have hsz : ((w5.alloc (.cells (cellsLn c1) 28)).alloc (.cells zeroLn 28)).heap.size = w5.heap.size + 2 := by simp
         rw [hsz] at hl2
         have HB8 : Hid (Below w5.heap.size w5 w8) := hid (HBA2.out.trans (hb8.mono (by rw [hsz]; omega)))
         have HS1 := hid ((HL1.out.below HB8.out).put6 (g := w5.heap.size + 1) (c' := c2) (fun i hi => by have := (HL1.out.2.1.lt i hi).2; omega) (fun i hi => by have := (HL1.out.2.2.lt i hi).2; omega))
         have HS2 := hid (LnAt.put6 (g := w5.heap.size + 1) (c' := c2) hl2 (fun i hi => by have := (hl2.2.1.lt i hi).1; omega) (fun i hi => by have := (hl2.2.2.lt i hi).1; omega))
         have HB9 := hid (put6_below (g := w5.heap.size + 1) HB8.out (by omega) HB8.out.size c2)
         have HSA := hid (r_same_any c1 c2 rn rn _ _ _ HS1.out HS2.out (by have := HLE.out; omega) (by have := HLE.out; omega) (by have := HLE.out; omega) (by have := HLE.out; omega))
         rw [decide_eq_true (rfl : rn = rn)] at HSA
         have hcb1 := hx1.1; have hcb2 := hx2.1; have hfb2 := hx2.2.1
         clear hl2 hb8 hx1 hx2 hsz
         go_wp2_with fail
         refine HSA.out.mono ?_
         rintro e w9 ⟨rfl, hb9⟩
         have HBZ := hid (HB9.out.trans (hb9.mono HB9.out.size))
         clear hb9
         go_wp2_with fail
         have hwk : wrap64 ((k : Int) + 1) = ((k + 1 : Nat) : Int) := by have := HK7.out; unfold wrap64; omega
         go_roundw
         case rel => exact ⟨_, k + 1, rfl, (by first | rfl | rw [hwk] | go_num), HLT.out, HK7.out, HB5.out.trans (HBZ.out.mono HB5.out.size), HRW5.out.below HBZ.out rfl⟩
         case measure => have hl := HLT.out; (try rw [hwk]); clear hwk; simp [RowKit.intOf] <;> omega
       · have hrv : ((rn, rx, re) : LnS × Int × Int) = (noLn, 0, 2) := HOX.out (by omega)
         obtain ⟨rfl, rfl, rfl⟩ : rn = noLn ∧ rx = 0 ∧ re = 2 := by injection hrv with h1 h2; injection h2 with h2 h3; exact ⟨h1, h2, h3⟩
         have HSA := hid (r_same_any c1 noC noLn noLn _ _ _ (HL1.out.below HBA2.out) (noLn_at _ 0) (by simp) (by simp) (by simp) (by simp))
         rw [decide_eq_true (rfl : noLn = noLn)] at HSA
         have HB9 := HBA2
         have hcb1 := hx1.1; have hcb2 := hx2.1
         clear hrv hba hx1 hx2
         by_cases h0 : 0 ≤ x
         · have hge : decide ((0 : Int) ≤ x) = true := by simp; exact h0
           have hle : decide (x ≤ (t.length : Int)) = false := by simp; omega
           clear hin h0
           go_wp2_with fail
           refine HSA.out.mono ?_
           rintro e w9 ⟨rfl, hb9⟩
           have HBZ := hid (HB9.out.trans (hb9.mono HB9.out.size))
           clear hb9
           go_wp2_with fail
           have hwk : wrap64 ((k : Int) + 1) = ((k + 1 : Nat) : Int) := by have := HK7.out; unfold wrap64; omega
           go_roundw
           case rel => exact ⟨_, k + 1, rfl, (by first | rfl | rw [hwk] | go_num), HLT.out, HK7.out, HB5.out.trans (HBZ.out.mono HB5.out.size), HRW5.out.below HBZ.out rfl⟩
           case measure => have hl := HLT.out; (try rw [hwk]); clear hwk; simp [RowKit.intOf] <;> omega
         · have hge : decide ((0 : Int) ≤ x) = false := by simp; omega
           clear hin h0
           go_wp2_with fail
           refine HSA.out.mono ?_
           rintro e w9 ⟨rfl, hb9⟩
           have HBZ := hid (HB9.out.trans (hb9.mono HB9.out.size))
           clear hb9
           go_wp2_with fail
           have hwk : wrap64 ((k : Int) + 1) = ((k + 1 : Nat) : Int) := by have := HK7.out; unfold wrap64; omega
           go_roundw
           case rel => exact ⟨_, k + 1, rfl, (by first | rfl | rw [hwk] | go_num), HLT.out, HK7.out, HB5.out.trans (HBZ.out.mono HB5.out.size), HRW5.out.below HBZ.out rfl⟩
           case measure => have hl := HLT.out; (try rw [hwk]); clear hwk; simp [RowKit.intOf] <;> omega
   · have hd1 : decide ((k : Int) < (m : Int)) = false := by simp; omega
     have hd1n : decide (k < m) = false := by simp; omega
     clear hlt hkm hrw hk8
     go_wp2_with fail
     go_ret
     exact ⟨rfl, HBW.out⟩
end Yd
