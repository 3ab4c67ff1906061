import Derived.Test.YthdpangjphphjaaGreatDoorCuR
import Derived.Test.YthdpangjphphjaaGreatDoorCuE
import Derived.Test.YthdpangjphphjaaGreatDoorLnR
import Derived.Test.YthdpangjphphjaaGreatDoorProg
set_option maxRecDepth 200000
set_option maxHeartbeats 8000000
namespace Yd
open Go Go.RowKit Go.Proofs

theorem verbs_drop : (([[], [98, 101, 103, 105, 110], [119, 114, 105, 116, 101], [114, 101, 97, 100], [115, 99, 97, 110], [99, 111, 109, 109, 105, 116], [97, 98, 111, 114, 116], [111, 114, 100, 101, 114], [109, 97, 116, 99, 104], [119, 97, 110, 116]] : List Bs)).drop 1 = verbL := rfl
theorem verbL_100 : ∀ x ∈ verbL, x.length ≤ 100 := by decide
theorem mk_inj {α : Type} {a : α} {l : Bs} {er : Int} {x : Except Er (α × Bs)} (h : x = mkR a l er) (h0 : er ≠ 0) : x = .error (l, er) := by rw [h, mkR_n _ _ h0]
@[reducible] def kC (k : Int) : LnC := ⟨k, none, 0, 0, 0, none, 0, 0, false, 0⟩
theorem kC_at (w : World) (B : Nat) (k : Int) : LnAt w B (kC k) ⟨k, [], 0, [], false, 0⟩ := ⟨⟨rfl, rfl, rfl, rfl, rfl, rfl⟩, Own.nil_ _ _ _ _ _, Own.nil_ _ _ _ _ _⟩
theorem kC_rda (B i : Nat) (k : Int) (h : i ≠ B) : RdA B (kC k) i := ⟨h, (fun e => by cases e), (fun e => by cases e)⟩
theorem LnAt.cs {w w' : World} {B : Nat} {c : LnC} {n : LnS} (h : LnAt w (B + 1) c n) (hs : Cs B w w') : LnAt w' (B + 1) c n :=
 ⟨h.1, h.2.1.block fun g hg => hs.block g (by have := (h.2.1.lt g hg).1; omega) (h.2.1.lt g hg).2, h.2.2.block fun g hg => hs.block g (by have := (h.2.2.lt g hg).1; omega) (h.2.2.lt g hg).2⟩
theorem put6_below {a w : World} {D g : Nat} (h : Below D a w) (hg : D ≤ g) (hD : D ≤ w.heap.size) (c : LnC) : Below D a (put6 w g c) := (put6_same w g c).below h (fun i hi => by omega) hD
theorem rd_err {s : Bs} {p q : Nat} {l : Bs} {er : Int} {w : World} {B : Nat} (hp : p ≤ s.length) (hc : CuC w B s q l er) (h : readS (s.drop p) = .error (l, er)) : readLn s (p : Int) = (noLn, ((q : Nat) : Int), er) := by
 have hl := hc.len
 unfold readLn lineS
 rw [if_neg (by omega), Int.toNat_natCast, h]
 show (noLn, ((s.length - l.length : Nat) : Int), er) = _
 rw [show s.length - l.length = q by omega]
theorem rd_end {s : Bs} {p q : Nat} {l : Bs} {n : LnS} {w : World} {B : Nat} {nx e2 : Int} (hp : p ≤ s.length) (hc : CuC w B s q l 0) (h : readS (s.drop p) = .ok (n, l)) (he : EndN s l nx e2) :
   (e2 = 0 ∧ readLn s (p : Int) = (n, nx, 0)) ∨ (e2 ≠ 0 ∧ readLn s (p : Int) = (noLn, nx, 220)) := by
 have hl := hc.len
 have hr : (remS l).length ≤ l.length := by unfold remS; split <;> simp
 unfold readLn lineS
 rw [if_neg (by omega), Int.toNat_natCast, h]
 simp only []
 rcases he with ⟨h1, rfl, rfl⟩ | ⟨h1, rfl, rfl⟩ | ⟨h1, h2, rfl, h3⟩
 · left
   rw [if_pos h1]
   exact ⟨rfl, by simp⟩
 · left
   rw [if_neg (by rw [h1]; simp), if_pos h1]
   refine ⟨rfl, ?_⟩
   have h1' : 1 ≤ (remS l).length := by
     cases hq : remS l with
     | nil => rw [hq] at h1; cases h1
     | cons a t => simp
   simp only [List.length_tail]
   rw [show s.length - ((remS l).length - 1) = s.length - (remS l).length + 1 by omega]
 · right
   rw [if_neg h1, if_neg h2]
   exact ⟨h3, rfl⟩
theorem r_Read12 (s : Bs) (p : Nat) (hp : p ≤ s.length) (hlim : s.length ≤ 1000000) (w : World) :
   Calls Tryz.prog 11 #[.string ⟨s.toArray⟩, .int .i64 (p : Int)] w (RetRd (readLn s (p : Int)) w) := by
 obtain ⟨l, hl⟩ : ∃ l, l = s.drop p := ⟨_, rfl⟩
 obtain ⟨R, hR⟩ : ∃ R, R = readLn s (p : Int) := ⟨_, rfl⟩
 obtain ⟨T, hT⟩ : ∃ T, T = readD l := ⟨_, rfl⟩
 rw [← hR]
 have HR1 : Hid (∀ (W : World) (B q : Nat) (l' : Bs) (er : Int), CuC W B s q l' er → T = .error (l', er) → R = (noLn, (q : Int), er)) := hid (fun W B q l' er hc h => by rw [hR]; exact rd_err hp hc (by rw [← hl, ← readD_eq, ← hT]; exact h))
 have HR2 : Hid (∀ (W : World) (B q : Nat) (l' : Bs) (n : LnS) (nx e2 : Int), CuC W B s q l' 0 → T = .ok (n, l') → EndN s l' nx e2 → (e2 = 0 ∧ R = (n, nx, 0)) ∨ (e2 ≠ 0 ∧ R = (noLn, nx, 220))) := hid (fun W B q l' n nx e2 hc h he => by rw [hR]; exact rd_end hp hc (by rw [← hl, ← readD_eq, ← hT]; exact h) he)
 have HTE : Hid (∀ (n : LnS) (l' : Bs), T = .ok (n, l') → endsS l' = true) := hid (fun n l' h => read_ends (by rw [← readD_eq, ← hT]; exact h))
 obtain ⟨W1, hW1⟩ : ∃ W1 : World, W1 = w.alloc (.cells zeroLn 28) := ⟨_, rfl⟩
 obtain ⟨W2, hW2⟩ : ∃ W2 : World, W2 = W1.alloc (.cells (cellsCu s p 0) 62) := ⟨_, rfl⟩
 obtain ⟨W3, hW3⟩ : ∃ W3 : World, W3 = W2.alloc (.cells zeroLn 28) := ⟨_, rfl⟩
 have hs1 : W1.heap.size = w.heap.size + 1 := by rw [hW1]; simp
 have hs2 : W2.heap.size = w.heap.size + 2 := by rw [hW2]; simp [hs1]
 have hr3 : Bx W3 w.heap.size zeroLn := by rw [hW3, hW2, hW1]; exact ((Bx.new w zeroLn 28).alloc _).alloc _
 have hc3 : CuC W3 (w.heap.size + 1) s p l 0 := by
   rw [hW3, hW2, ← hs1]
   exact ⟨(Bx.new W1 (cellsCu s p 0) 62).alloc _, hl.symm, hp, hlim⟩
 have hl3 : Bx W3 (w.heap.size + 1 + 1) zeroLn := by rw [hW3, ← hs2]; exact Bx.new W2 zeroLn 28
 have hb3 : Below w.heap.size w W3 := by
   rw [hW3, hW2, hW1]
   exact belowA (belowA (belowA (Below.refl w.heap.size w) (.cells zeroLn 28)) (.cells (cellsCu s p 0) 62)) (.cells zeroLn 28)
 have HB3 := hid hb3; have HRZ := hid hr3; have HC3 := hid hc3; have HLZ := hid hl3; have HTT := hid hT; have HS1 := hid hs1; have HS2 := hid hs2
 have HW1 := hid hW1; have HW2 := hid hW2; have HW3 := hid hW3
 clear hl hR hT hr3 hc3 hl3 hb3 hs1 hs2 hW1 hW2 hW3
 go_enter Tryz.func11, Tryz.ntmps11
 go_wp2_with fail
 refine (show Calls Tryz.prog 28 #[.pointer (some ⟨w.heap.size + 1, 0, none⟩)] ((w.alloc (.cells zeroLn 28)).alloc (.cells (cellsCu s p 0) 62) |>.alloc (.cells zeroLn 28)) _ from by
   rw [← HW1.out, ← HW2.out, ← HW3.out]
   exact cu_blanks W3 HC3.out).mono ?_
 rintro e w4 ⟨rfl, ⟨q4, hc4⟩, hs4⟩
 have HC4 := hid hc4; have HB4 : Hid (Below w.heap.size w w4) := hid (hs4.below HB3.out (fun i hi => by omega) HB3.out.size)
 have HRZ4 : Hid (Bx w4 w.heap.size zeroLn) := hid (hs4.bx HRZ.out (by omega))
 have HLZ4 : Hid (Bx w4 (w.heap.size + 1 + 1) zeroLn) := hid (hs4.bx HLZ.out (by omega))
 clear hc4 hs4 HC3 HRZ HLZ HB3 HW1 HW2 HW3
 go_wp2_with fail
 refine (cu_ends w4 HC4.out).mono ?_
 rintro e w5 ⟨rfl, hb5⟩
 have HC5 := hid (HC4.out.below hb5); have HB5 := hid (HB4.out.trans (hb5.mono HB4.out.size)); have HRZ5 := hid (HRZ4.out.keep hb5); have HLZ5 := hid (HLZ4.out.keep hb5)
 clear hb5
 cases hE : endsS (skipS l)
 · skip
   have HT1 : Hid (T = anyE 0 (skipS l) (bindE (oneS verbL (skipS l)) fun i r => bindE (restD (i + 1) ⟨((i + 1 : Nat) : Int), [], 0, [], false, 0⟩ r) fun s r2 => bindE (moreS r2) fun b r3 => if b = true then .error (r3, 220) else .ok (s, r3))) := hid (by rw [anyE_0, HTT.out]; unfold readD; rw [if_neg (by rw [hE]; simp)])
   clear hE HTT
   go_wp2_with fail
   refine (r_verbs _).mono ?_
   rintro e w6 ⟨va, vc, rfl, hown, hb6⟩
   obtain ⟨a', hsl, hrow⟩ := (hown.row (by decide)).dropS 1 (by decide)
   have hslA : ∀ W, (Instr.sliceAt 25 (.slice va 10 vc) (some (.int .i64 1)) none none).run Tryz.prog W = .ok (.slice a' 9 (vc - 1)) W := fun W => (run_sliceAt_slice (P := Tryz.prog) W 25 _ _ _ _ un_str).trans (hsl W)
   rw [verbs_drop] at hrow
   have HROW := hid hrow
   have HC6 := hid (HC5.out.below hb6); have HB6 := hid (HB5.out.trans (hb6.mono HB5.out.size)); have HRZ6 := hid (HRZ5.out.keep hb6); have HLZ6 := hid (HLZ5.out.keep hb6)
   clear hown hb6 hrow hsl
   go_wp2_with fail
   refine (cu_one_any _ HC6.out a' 9 (vc - 1) verbL HROW.out (by decide) verbL_100).mono ?_
   rintro e w7 ⟨a, q7, l7, er7, rfl, hc7, hs7, hm7, ha0, hab⟩
   have hx7 := any_step HT1.out hm7
   have ha9 : a < 9 := by
     by_cases he : er7 = 0
     · exact one_lt (mk_ok hm7 he).2
     · rw [ha0 he]; decide
   obtain ⟨k, hk⟩ : ∃ k, k = a + 1 := ⟨_, rfl⟩
   rw [← hk] at hx7
   have HX7 := hid hx7; have HK := hid (show k < 10 by omega)
   have hka : (1 : Int) + (a : Int) = (k : Int) := by omega
   have hwk : wrap64 (k : Int) = (k : Int) := by unfold wrap64; omega
   have HC7 := hid hc7; have HB7 : Hid (Below w.heap.size w w7) := hid (hs7.below HB6.out (fun i hi => by omega) HB6.out.size); have HRZ7 := hid (hs7.bx HRZ6.out (by omega)); have HLZ7 := hid (hs7.bx HLZ6.out (by omega))
   clear hx7 hc7 hs7 hm7 ha0 hab ha9 hk hslA
   have hcb := HLZ7.out.1; have hfb := HLZ7.out.2.1
   have HC8 := hid (HC7.out.oth (w.heap.size + 1 + 1) 0 (.int .i64 (k : Int)) (by omega)); have HRZ8 := hid (HRZ7.out.setOther (w.heap.size + 1 + 1) 0 (.int .i64 (k : Int)) (by omega)); have HLB8 : Hid (Bx _ (w.heap.size + 1 + 1) (cellsLn (kC k))) := hid (HLZ7.out.setC 0 (by simp) (.int .i64 (k : Int)))
   have HB8 := hid (HB7.out.setCell (p := ⟨w.heap.size + 1 + 1, 0, none⟩) (by show _ ≤ w.heap.size + 1 + 1; omega) (.int .i64 (k : Int)))
   go_wp2_with fail
   refine (cu_rest _ HC8.out (kC_at _ _ k) k HK.out rfl (by simp) (by simp) rfl).mono ?_
   rintro e w9 ⟨c', n', q9, l9, er9, rfl, hc9, hl9, hm9, hx9⟩
   have HX9 := hid (any_step HX7.out hx9)
   have HLB9 := hid (hm9.bx HLB8.out (kC_rda _ _ _ (by omega))); have HRZ9 := hid (hm9.bx HRZ8.out (kC_rda _ _ _ (by omega)))
   have HB9 : Hid (Below w.heap.size w w9) := hid (hm9.same.below HB8.out (fun i hi => kC_rda _ _ _ (by omega)) HB8.out.size)
   have hbl := HLB8.out.2.2
   have hna : ∀ g, (Value.slice c'.na c'.nn c'.nc).ownBlock = some g → g ≠ w.heap.size + 1 + 1 := fun g hg => by rcases hm9.na g hg with e | e; (· cases e); (· omega)
   have hva : ∀ g, (Value.slice c'.va c'.vn c'.vc).ownBlock = some g → g ≠ w.heap.size + 1 + 1 := fun g hg => by rcases hm9.va g hg with e | e; (· cases e); (· omega)
   have HC10 := hid (hc9.put6 (g := (w.heap.size + 1 + 1)) (by omega) c'); have HLN10 := hid (hl9.put6 (c' := c') hna hva); have HRZ10 := hid ((put6_same w9 (w.heap.size + 1 + 1) c').bx HRZ9.out (by omega)); have HLB10 := hid (put6_bx HLB9.out c'); have HB10 := hid (put6_below (g := (w.heap.size + 1 + 1)) HB9.out (by omega) HB9.out.size c')
   clear hc9 hl9 hm9 hx9 hbl hna hva hcb hfb hka hwk
   have hcb := HLB9.out.1; have hfb := HLB9.out.2.1
   go_wp2_with fail
   refine (cu_next_any _ HC10.out).mono ?_
   rintro e w11 ⟨a2, q11, l11, er11, rfl, hc11, hs11, hm11, hfa⟩
   have HX11 := hid (any_step HX9.out hm11)
   have HC11 := hid hc11; have HLN11 := hid (HLN10.out.cs hs11); have HRZ11 := hid (hs11.bx HRZ10.out (by omega)); have HLB11 := hid (hs11.bx HLB10.out (by omega)); have HB11 : Hid (Below w.heap.size w w11) := hid (hs11.below HB10.out (fun i hi => by omega) HB10.out.size); have HFA := hid hfa
   clear hc11 hs11 hm11 hfa hcb hfb
   cases a2
   · skip
     have HTt : Hid (T = mkR n' l11 er11) := hid (by have := HX11.out; rw [if_neg (show ¬ (false = true) by simp)] at this; exact this)
     have HCt := HC11; have HLt := HLN11; have HZt := HRZ11; have HBx := HLB11; have HBt := HB11
     by_cases he : er11 = 0
     · subst he
       clear HFA HX11
       have HT0 := hid (HTt.out.trans (mkR_0 _ _))
       have c1 := HCt.out.x.1 1; have c2 := HCt.out.x.1 2
       go_wp2_with fail
       refine (r_next_end s q11 l11 HCt.out.d HCt.out.le hlim (HTE.out _ _ HT0.out) _).mono ?_
       rintro e w13 ⟨k13, a13, tx, g13, nx, e2, rfl, hb13, hend⟩
       have hre := HR2.out _ _ _ _ _ _ _ HCt.out HT0.out hend
       have HBA : Hid (Below w11.heap.size w11 (w13.alloc (.cells (cellsTk k13 a13 tx g13) 56))) := hid (belowA hb13 (.cells (cellsTk k13 a13 tx g13) 56))
       have HBB : Hid (Below w.heap.size w (w13.alloc (.cells (cellsTk k13 a13 tx g13) 56))) := hid (HBt.out.trans (HBA.out.mono HBt.out.size))
       have HLA := hid (HLt.out.below HBA.out)
       have hxb := HBx.out.keep HBA.out; have hxz := HZt.out.keep HBA.out
       have hcb := hxb.1; have hcz := hxz.1; have hfz := hxz.2.1
       clear hxb hxz hb13 hend c1 c2
       rcases hre with ⟨rfl, hre⟩ | ⟨he2, hre⟩
       · skip
         have HRE := hid hre
         clear hre
         go_wp2_with fail
         refine bodyPost_ret (v := .tuple #[valLn c', .int .i64 nx, .int .i64 0]) (by simp [results, Tryz.results11, go_sem, hcz]) rfl ?_
         show RetRd R w _ _
         rw [HRE.out]
         exact ⟨c', rfl, (HLA.out.put6 (g := w.heap.size) (c' := c') (fun i hi => by have := (HLA.out.2.1.lt i hi).1; omega) (fun i hi => by have := (HLA.out.2.2.lt i hi).1; omega)).mono (by omega), put6_below HBB.out (Nat.le_refl _) HBB.out.size c'⟩
       · skip
         have HRE := hid hre
         have hbn : (e2 != 0) = true := by rw [bne, beq_eq_false_iff_ne.2 he2]; rfl
         clear hre he2
         go_wp2_with fail
         refine bodyPost_ret (v := .tuple #[valLn noC, .int .i64 nx, .int .i64 220]) (by simp [results, Tryz.results11, go_sem, hcz]) rfl ?_
         show RetRd R w _ _
         rw [HRE.out]
         exact ⟨noC, rfl, noLn_at _ _, put6_below HBB.out (Nat.le_refl _) HBB.out.size noC⟩
     · have HNE := hid he
       clear he
       have HRE := hid (HR1.out _ _ _ _ _ HCt.out (mk_inj HTt.out HNE.out))
       have hbn : ((er11 : Int) != 0) = true := by rw [bne, beq_eq_false_iff_ne.2 HNE.out]; rfl
       have c1 := HCt.out.x.1 1; have c2 := HCt.out.x.1 2; have hcz := HZt.out.1; have hfz := HZt.out.2.1
       go_wp2_with fail
       have HCP := hid ((HCt.out.put6 (g := w.heap.size) (by omega) noC).drew)
       have HBP : Hid (Below w.heap.size w (put6 w11 w.heap.size noC).drew) := hid ((put6_below HBt.out (Nat.le_refl _) HBt.out.size noC).drew)
       refine wp_region_ordC 99 [(0, 0), (1, 0), (2, 0), (3, 0), (4, 0), (5, 0), (6, 0), (7, 0), (8, 0), (9, 2), (10, 0), (11, 0)] (fun _ => True) (fun W' => W'.cell? ⟨w.heap.size + 1, 1, none⟩ = some (.int .i64 (q11 : Int)) ∧ W'.cell? ⟨w.heap.size + 1, 2, none⟩ = some (.int .i64 er11)) (by kernel_rfl) (by kernel_rfl) (trivial) (⟨c1, c2⟩) ?_
       repeat ((first | refine ordC_skip rfl rfl ?_ | refine ordC_skip1 rfl rfl ?_ | ((first | refine ordC_q rfl rfl ?_ | refine ordC_p rfl rfl ?_); apply Exists.intro; refine ⟨fun wS hS => ?_, ?_⟩; (go_simp; try with_reducible rfl))); simp only [Act.put, List.setIfInBounds_toArray, List.set_cons_zero, List.set_cons_succ])
       refine ordC_l rfl rfl (fun K hK => ?_)
       go_simp
       refine hK _ _ ⟨trivial, HCP.out.x.1 1, HCP.out.x.1 2⟩ ?_
       clear hK K
       repeat ((first | refine ordC_skip rfl rfl ?_ | refine ordC_skip1 rfl rfl ?_ | ((first | refine ordC_q rfl rfl ?_ | refine ordC_p rfl rfl ?_); apply Exists.intro; refine ⟨fun wS hS => ?_, ?_⟩; (go_simp; try with_reducible rfl))); simp only [Act.put, List.setIfInBounds_toArray, List.set_cons_zero, List.set_cons_succ])
       refine ordC_nil ?_
       go_wp2_with fail
       refine bodyPost_ret (v := .tuple #[valLn noC, .int .i64 (q11 : Int), .int .i64 er11]) (by simp [results, Tryz.results11, go_sem, hcz]) rfl ?_
       show RetRd R w _ _
       rw [HRE.out]
       exact ⟨noC, rfl, noLn_at _ _, HBP.out⟩
   · skip
     have h0 : er11 = 0 := by apply Classical.byContradiction; intro e; have := HFA.out e; cases this
     subst h0
     have HTt : Hid (T = mkR n' l11 220) := hid (by have := HX11.out; rw [anyE_0, if_pos rfl] at this; rw [this]; rfl)
     have c1 := HC11.out.x.1 1
     go_wp2_with fail
     refine (cu_fails _ HC11.out 0 (Nat.zero_le _) q11 rfl 220).mono ?_
     rintro e w12 ⟨rfl, hc12, hs12⟩
     have HCt : Hid (CuC w12 (w.heap.size + 1) s q11 l11 220) := hid hc12; have HZt := hid (hs12.bx HRZ11.out (by omega)); have HBt : Hid (Below w.heap.size w w12) := hid (hs12.below HB11.out (fun i hi => by omega) HB11.out.size)
     have HNE : Hid ((220 : Int) ≠ 0) := hid (by decide)
     clear hc12 hs12 c1
     have HRE := hid (HR1.out _ _ _ _ _ HCt.out (mk_inj HTt.out HNE.out))
     have hbn : ((220 : Int) != 0) = true := by rw [bne, beq_eq_false_iff_ne.2 HNE.out]; rfl
     have c1 := HCt.out.x.1 1; have c2 := HCt.out.x.1 2; have hcz := HZt.out.1; have hfz := HZt.out.2.1
     go_wp2_with fail
     have HCP := hid ((HCt.out.put6 (g := w.heap.size) (by omega) noC).drew)
     have HBP : Hid (Below w.heap.size w (put6 w12 w.heap.size noC).drew) := hid ((put6_below HBt.out (Nat.le_refl _) HBt.out.size noC).drew)
     refine wp_region_ordC 99 [(0, 0), (1, 0), (2, 0), (3, 0), (4, 0), (5, 0), (6, 0), (7, 0), (8, 0), (9, 2), (10, 0), (11, 0)] (fun _ => True) (fun W' => W'.cell? ⟨w.heap.size + 1, 1, none⟩ = some (.int .i64 (q11 : Int)) ∧ W'.cell? ⟨w.heap.size + 1, 2, none⟩ = some (.int .i64 220)) (by kernel_rfl) (by kernel_rfl) (trivial) (⟨c1, c2⟩) ?_
     repeat ((first | refine ordC_skip rfl rfl ?_ | refine ordC_skip1 rfl rfl ?_ | ((first | refine ordC_q rfl rfl ?_ | refine ordC_p rfl rfl ?_); apply Exists.intro; refine ⟨fun wS hS => ?_, ?_⟩; (go_simp; try with_reducible rfl))); simp only [Act.put, List.setIfInBounds_toArray, List.set_cons_zero, List.set_cons_succ])
     refine ordC_l rfl rfl (fun K hK => ?_)
     go_simp
     refine hK _ _ ⟨trivial, HCP.out.x.1 1, HCP.out.x.1 2⟩ ?_
     clear hK K
     repeat ((first | refine ordC_skip rfl rfl ?_ | refine ordC_skip1 rfl rfl ?_ | ((first | refine ordC_q rfl rfl ?_ | refine ordC_p rfl rfl ?_); apply Exists.intro; refine ⟨fun wS hS => ?_, ?_⟩; (go_simp; try with_reducible rfl))); simp only [Act.put, List.setIfInBounds_toArray, List.set_cons_zero, List.set_cons_succ])
     refine ordC_nil ?_
     go_wp2_with fail
     refine bodyPost_ret (v := .tuple #[valLn noC, .int .i64 (q11 : Int), .int .i64 220]) (by simp [results, Tryz.results11, go_sem, hcz]) rfl ?_
     show RetRd R w _ _
     rw [HRE.out]
     exact ⟨noC, rfl, noLn_at _ _, HBP.out⟩
 · skip
   have HTt : Hid (T = mkR noLn (skipS l) 0) := hid (by rw [HTT.out]; unfold readD; rw [if_pos hE]; rfl)
   have HCt := HC5; have HLt := hid (noLn_at w5 (w.heap.size + 1 + 1)); have HZt := HRZ5; have HBx : Hid (Bx w5 (w.heap.size + 1 + 1) (cellsLn noC)) := hid HLZ5.out; have HBt := HB5
   clear hE HTT
   have HT0 := hid (HTt.out.trans (mkR_0 _ _))
   have c1 := HCt.out.x.1 1; have c2 := HCt.out.x.1 2
   go_wp2_with fail
   refine (r_next_end s q4 (skipS l) HCt.out.d HCt.out.le hlim (HTE.out _ _ HT0.out) _).mono ?_
   rintro e w13 ⟨k13, a13, tx, g13, nx, e2, rfl, hb13, hend⟩
   have hre := HR2.out _ _ _ _ _ _ _ HCt.out HT0.out hend
   have HBA : Hid (Below w5.heap.size w5 (w13.alloc (.cells (cellsTk k13 a13 tx g13) 56))) := hid (belowA hb13 (.cells (cellsTk k13 a13 tx g13) 56))
   have HBB : Hid (Below w.heap.size w (w13.alloc (.cells (cellsTk k13 a13 tx g13) 56))) := hid (HBt.out.trans (HBA.out.mono HBt.out.size))
   have HLA := hid (HLt.out.below HBA.out)
   have hxb := HBx.out.keep HBA.out; have hxz := HZt.out.keep HBA.out
   have hcb := hxb.1; have hcz := hxz.1; have hfz := hxz.2.1
   clear hxb hxz hb13 hend c1 c2
   rcases hre with ⟨rfl, hre⟩ | ⟨he2, hre⟩
   · skip
     have HRE := hid hre
     clear hre
     go_wp2_with fail
     refine bodyPost_ret (v := .tuple #[valLn noC, .int .i64 nx, .int .i64 0]) (by simp [results, Tryz.results11, go_sem, hcz]) rfl ?_
     show RetRd R w _ _
     rw [HRE.out]
     exact ⟨noC, rfl, (HLA.out.put6 (g := w.heap.size) (c' := noC) (fun i hi => by have := (HLA.out.2.1.lt i hi).1; omega) (fun i hi => by have := (HLA.out.2.2.lt i hi).1; omega)).mono (by omega), put6_below HBB.out (Nat.le_refl _) HBB.out.size noC⟩
   · skip
     have HRE := hid hre
     have hbn : (e2 != 0) = true := by rw [bne, beq_eq_false_iff_ne.2 he2]; rfl
     clear hre he2
     go_wp2_with fail
     refine bodyPost_ret (v := .tuple #[valLn noC, .int .i64 nx, .int .i64 220]) (by simp [results, Tryz.results11, go_sem, hcz]) rfl ?_
     show RetRd R w _ _
     rw [HRE.out]
     exact ⟨noC, rfl, noLn_at _ _, put6_below HBB.out (Nat.le_refl _) HBB.out.size noC⟩
end Yd
