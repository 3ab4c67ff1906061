import Derived.Test.YthdpangjphphjaaGreatDoorCuM
import Derived.Test.YthdpangjphphjaaGreatDoorRdL
import Derived.Test.YthdpangjphphjaaGreatDoorProg
set_option maxRecDepth 200000
set_option maxHeartbeats 8000000
namespace Yd
open Go Go.RowKit Go.Proofs

theorem few_lo (k : Nat) (hk : k < 10) : ∃ lo mo : Nat, formN k = (lo : Int) ∧ formN k + mostR (formR k) = ((lo + mo : Nat) : Int) ∧ lo ≤ 2 ∧ (formN k).toNat = lo ∧ mo = (if k = 4 then 40 else if k = 7 then 300 else if k = 8 then 300 else 0) := by
 have : k = 0 ∨ k = 1 ∨ k = 2 ∨ k = 3 ∨ k = 4 ∨ k = 5 ∨ k = 6 ∨ k = 7 ∨ k = 8 ∨ k = 9 := by omega
 rcases this with rfl | rfl | rfl | rfl | rfl | rfl | rfl | rfl | rfl | rfl
 · exact ⟨0, 0, by decide, by decide, by decide, by decide, by decide⟩
 · exact ⟨2, 0, by decide, by decide, by decide, by decide, by decide⟩
 · exact ⟨2, 0, by decide, by decide, by decide, by decide, by decide⟩
 · exact ⟨2, 0, by decide, by decide, by decide, by decide, by decide⟩
 · exact ⟨2, 40, by decide, by decide, by decide, by decide, by decide⟩
 · exact ⟨1, 0, by decide, by decide, by decide, by decide, by decide⟩
 · exact ⟨1, 0, by decide, by decide, by decide, by decide, by decide⟩
 · exact ⟨1, 300, by decide, by decide, by decide, by decide, by decide⟩
 · exact ⟨2, 300, by decide, by decide, by decide, by decide, by decide⟩
 · exact ⟨1, 0, by decide, by decide, by decide, by decide, by decide⟩
theorem any_ok {α : Type} (a : α) (l : Bs) (er : Int) : anyE er l (.ok (a, l)) = mkR a l er := rfl
theorem el_str : Tryz.prog.elem 25 = 9 := by kernel_rfl
theorem un_str : Tryz.prog.underlying 25 = some (.slice (Tryz.prog.elem 25)) := by rw [el_str]; exact Tryz.underlying25
theorem sz_str (W : World) : (Go.sizeOf (Tryz.prog.elem 25)).run Tryz.prog W = Result.ok 1 W := by
 rw [el_str]
 kernel_rfl
theorem Row.dropS {w : World} {a : Option Addr} {n c : Nat} {xs : List Bs} (h : Row w 1 encStr a n c xs) (k : Nat) (hk : k ≤ n) : ∃ a' : Option Addr, (∀ W : World, (Instr.slice 25 (.slice a n c) (some (.int .i64 (k : Int))) none none).run Tryz.prog W = .ok (.slice a' (n - k) (c - k)) W) ∧ Row w 1 encStr a' (n - k) (c - k) (xs.drop k) := by
 refine ⟨if c = k then a else a.map (·.add (k * 1)), fun W => ?_, ?_⟩
 · rw [run_slice_l (P := Tryz.prog) W 25 a n c un_str .i64 (k : Int) (by omega) (by omega), sz_str]
   simp [Result.andThen, sliced]
 · obtain ⟨h1, h2, h3, h4, h5⟩ := h
   refine ⟨by rw [List.length_drop, h1], by omega, by omega, fun e => ?_, fun i x hx => ?_⟩
   · by_cases hc : c = k
     · omega
     · rw [if_neg hc] at e
       cases a with
       | none => rw [h4 rfl]; omega
       | some ad => cases e
   · rw [List.getElem?_drop] at hx
     obtain ⟨b, o, ha, hcell⟩ := h5 _ x hx
     have hlt := (List.getElem?_eq_some_iff.1 hx).1
     rw [if_neg (by omega), ha]
     refine ⟨b, o + k, ?_, fun j v hv => ?_⟩
     · show some (Addr.add ⟨b, o, none⟩ (k * 1)) = _
       unfold Addr.add
       rw [Nat.mul_one]
       by_cases h0 : k = 0
       · rw [if_pos h0, h0]; rfl
       · rw [if_neg h0]
     · rw [show o + k + i * 1 + j = o + (k + i) * 1 + j by omega]; exact hcell j v hv
theorem one_lt {ws : List Bs} {l r : Bs} {i : Nat} (h : oneS ws l = .ok (i, r)) : i < ws.length := by
 unfold oneS at h
 cases hf : ws.findIdx? (fun s => s == l.take (runR l)) with
 | none => rw [hf] at h; cases h
 | some j =>
   rw [hf] at h
   injection h with h; injection h with h _; subst h
   exact (List.findIdx?_eq_some_iff_findIdx_eq.1 hf).1
theorem one_len {ws : List Bs} {l r : Bs} {i : Nat} (h : oneS ws l = .ok (i, r)) (hne : ∀ x ∈ ws, x ≠ []) : r.length < l.length := by
 unfold oneS at h
 cases hf : ws.findIdx? (fun s => s == l.take (runR l)) with
 | none => rw [hf] at h; cases h
 | some j =>
   rw [hf] at h
   injection h with h; injection h with _ h
   obtain ⟨hj, hx, _⟩ := List.findIdx?_eq_some_iff_getElem.1 hf
   have he : ws[j] = l.take (runR l) := by simpa using hx
   have h0 := hne _ (List.getElem_mem hj)
   rw [he] at h0
   have : 0 < (l.take (runR l)).length := List.length_pos_iff.2 h0
   rw [List.length_take] at this
   rw [← h, List.length_drop]
   omega
theorem guardL_ne (k : Nat) : ∀ x ∈ guardL.drop k, x ≠ [] := fun x hx => (by decide : ∀ x ∈ guardL, x ≠ []) x (List.mem_of_mem_drop hx)
theorem pow_lt5 (m : Nat) (h : m < 5) : (0 : Int) ≤ 2 ^ m ∧ (2 : Int) ^ m ≤ 16 := by
 rcases (by omega : m = 0 ∨ m = 1 ∨ m = 2 ∨ m = 3 ∨ m = 4) with rfl | rfl | rfl | rfl | rfl <;> decide
theorem pow_wrap (m : Nat) (h : m < 5) : wrap64 ((2 : Int) ^ min m 64) = 2 ^ m := by
 have hp := pow_lt5 m h
 rw [show min m 64 = m by omega]
 obtain ⟨y, hy⟩ : ∃ y : Int, y = 2 ^ m := ⟨_, rfl⟩
 rw [← hy] at hp ⊢
 clear hy
 unfold wrap64; omega
theorem pow_wrap2 (m : Nat) (h : m < 5) : IntKind.i64.wrap ((2 : Int) ^ min m 64) = 2 ^ m := by
 have hp := pow_lt5 m h
 rw [show min m 64 = m by omega]
 obtain ⟨y, hy⟩ : ∃ y : Int, y = 2 ^ m := ⟨_, rfl⟩
 rw [← hy] at hp ⊢
 clear hy
 exact Go.IntWalk.i64_in _ (by omega)
theorem guar_stop {f m : Nat} {n : LnS} {l l' : Bs} {er er' : Int} {X : Except Er (LnS × Bs)} (hf : er = 0 → ∃ g, f = g + 1) (h : anyE er l (moreS l) = mkR false l' er') (hX : X = anyE er l (guarD f m n l)) : X = mkR n l' er' := by
 by_cases he : er = 0
 · obtain ⟨g, rfl⟩ := hf he
   rw [guarD] at hX
   rw [any_step hX h, if_pos rfl]; rfl
 · rw [hX, anyE_n _ he]
   rw [anyE_n _ he] at h
   by_cases h' : er' = 0
   · subst h'; rw [mkR_0] at h; cases h
   · rw [mkR_n _ _ h'] at h ⊢; injection h with h; rw [h]
theorem end_names (k mo : Nat) (hk : k = 4 ∨ k = 7 ∨ k = 8) (hmo : mo = (if k = 4 then 40 else if k = 7 then 300 else if k = 8 then 300 else 0)) (n : LnS) (l : Bs) : endD k n l = namesD (k : Int) mo (mo + 2) 0 n l := by
 unfold endD
 rcases hk with rfl | rfl | rfl
 · rw [if_pos rfl] at hmo ⊢; rw [hmo]; rfl
 · rw [if_neg (by decide), if_pos rfl] at hmo ⊢; rw [hmo]; rfl
 · rw [if_neg (by decide), if_neg (by decide), if_pos rfl] at hmo ⊢; rw [hmo]; rfl
theorem end_none (k : Nat) (h4 : k ≠ 4) (h7 : k ≠ 7) (h8 : k ≠ 8) (n : LnS) (l : Bs) : endD k n l = .ok (n, l) := by unfold endD; rw [if_neg h4, if_neg h7, if_neg h8]
theorem mid_none (k : Nat) (h1 : k ≠ 1) (h3 : k ≠ 3) (h9 : k ≠ 9) (n : LnS) (l : Bs) : midD k n l = .ok (n, l) := by unfold midD; rw [if_neg h1, if_neg h3, if_neg h9]
theorem levelL_100 : ∀ x ∈ levelL, x.length ≤ 100 := by decide
theorem guardL_100 (k : Nat) : ∀ x ∈ guardL.drop k, x.length ≤ 100 := fun x hx => (by decide : ∀ x ∈ guardL, x.length ≤ 100) x (List.mem_of_mem_drop hx)
def RetRest (B : Nat) (s : Bs) (w : World) (c : LnC) (X : Except Er (LnS × Bs)) (e : Ending) (w' : World) : Prop :=
 ∃ (c' : LnC) (n' : LnS) (p' : Nat) (l' : Bs) (er' : Int), e = .returned (valLn c') ∧ CuC w' B s p' l' er' ∧ LnAt w' (B + 1) c' n' ∧ Mv B c c' w w' ∧ X = mkR n' l' er'
theorem cu_rest {B p : Nat} {s l : Bs} {er : Int} {c : LnC} {n : LnS} (w : World) (h : CuC w B s p l er) (hl : LnAt w (B + 1) c n) (k : Nat) (hk : k < 10) (hkn : n.kind = (k : Int)) (hN : n.names.length ≤ 300) (hV : n.vers.length ≤ 300) (hbt : n.bits = 0) :
   Calls Tryz.prog 32 #[.pointer (some ⟨B, 0, none⟩), valLn c] w (RetRest B s w c (anyE er l (restD k n l))) := by
 obtain ⟨X, hX⟩ : ∃ X, X = anyE er l (restD k n l) := ⟨_, rfl⟩
 rw [← hX]
 obtain ⟨lo, mo, hlo, hhi, hl2, hlt, hmo⟩ := few_lo k hk
 unfold restD at hX
 rw [hlt] at hX
 obtain ⟨X1, hX1⟩ : ∃ X1, X1 = anyE er l (takesD lo n l) := ⟨_, rfl⟩
 rw [any_bind, ← hX1] at hX
 have HFEW := hid (fun W => r_few k hk W)
 obtain ⟨hn, hhn⟩ : ∃ hn, hn = lo + mo := ⟨_, rfl⟩
 have hck : c.kind = (k : Int) := hl.1.1.trans hkn
 rw [hhi, hlo, ← hhn, ← hck] at HFEW
 clear hck
 have HHN := hid hhn
 obtain ⟨i, z, hi, hz, hsize, hby', hzs⟩ := partsStr
 have HI := hid (⟨hi, hz, hsize, hby', hzs⟩ : _ ∧ _ ∧ _ ∧ _ ∧ _)
 obtain ⟨i2, z2, hi2, hz2, hsize2, hby2, hzs2⟩ := partsTo
 have HI2 := hid (⟨hi2, hz2, hsize2, hby2, hzs2⟩ : _ ∧ _ ∧ _ ∧ _ ∧ _)
 clear hi hz hsize hby' hzs hi2 hz2 hsize2 hby2 hzs2 hlo hhi hlt hhn
 have hb0 := belowA (belowA (Below.refl w.heap.size w) (.cells (cellsLn c) 28)) (.cells zeroLn 28)
 have hBb : B < w.heap.size := h.lt
 have HLB := hid (LnB.new hl hBb)
 have HC0 := hid (h.below hb0); have HB0 := hid hb0; have HX := hid hX; have HX1 := hid hX1; have HKN := hid hkn; have HNV := hid (⟨hN, hV⟩ : _ ∧ _); have HMO := hid hmo; have HKB := hid hk
 have HBB := hid hBb; have HL2 := hid hl2; have HBT := hid hbt
 clear h hl hX hX1 hkn hN hV hb0 hmo hBb hk hl2 hbt
 go_enter Tryz.func32, Tryz.ntmps32
 go_wp2_with fail
 refine (HFEW.out _).mono ?_
 rintro e w1 ⟨rfl, hb1⟩
 have HC1 := hid (HC0.out.below hb1); have HLN1 := hid (HLB.out.below hb1); have HB1 := hid (HB0.out.trans (hb1.mono HB0.out.size))
 clear hb1
 go_wp2_with fail
 go_loopw [16] (fun i wr => ∃ (W : World) (j q : Nat) (l1 : Bs) (er1 : Int) (c1 : LnC) (n1 : LnS), W = wr ∧ i = .int .i64 j ∧ j ≤ lo ∧ CuC W B s q l1 er1 ∧ LnB W B w.heap.size c1 n1 ∧ Mv B c c1 w W ∧ X1 = anyE er1 l1 (takesD (lo - j) n1 l1) ∧ n1.kind = (k : Int) ∧ n1.names.length ≤ 300 + j ∧ n1.vers.length ≤ 300 ∧ n1.bits = 0) (fun i wr => lo - (RowKit.intOf i).toNat)
 case atStart => exact ⟨_, 0, p, l, er, c, n, rfl, rfl, Nat.zero_le _, HC1.out, HLN1.out, Mv.of_below HB1.out, HX1.out, HKN.out, HNV.out.1, HNV.out.2, HBT.out⟩
 case round =>
   obtain ⟨W, j, q, l1, er1, c1, n1, rfl, rfl, hj, hc, hln, hmv, hx, hkk, h1, h2, hb0⟩ := hrel
   have HC := hid hc; have HLN := hid hln; have HM := hid hmv; have HKK := hid hkk; have H12 := hid (⟨h1, h2⟩ : _ ∧ _); have HBT1 := hid hb0; have HJ := hid hj
   clear hc hln hmv hkk h1 h2 hb0
   by_cases hjl : j < lo
   · have hd1 : decide ((j : Int) < (lo : Int)) = true := by simp; exact hjl
     have hd1n : decide (j < lo) = true := by simp; exact hjl
     obtain ⟨m', hm'⟩ : ∃ m', lo - j = m' + 1 := ⟨lo - j - 1, by omega⟩
     have hx' := hx
     rw [hm', takesD] at hx'
     have HXX := hid hx'; have HJL := hid hjl; have HMJ := hid (show m' = lo - (j + 1) by omega)
     clear hx hx' hjl hm' hj
     go_wp2_with fail
     refine (cu_must_any _ HC.out).mono ?_
     rintro e w2 ⟨u, q2, l2, er2, rfl, hc2, hs2, hm2⟩
     have HC2 := hid hc2; have HLN2 := hid (HLN.out.cs hs2); have HM2 := hid (HM.out.cs hs2); have HST2 := hid (must_stands hm2)
     have HX2 := hid (any_step HXX.out hm2)
     clear hc2 hs2 hm2
     have hcn := HLN2.out.n.1.2.2.2.2.1
     have HN1 : Hid (n1.names.length + 1 = c1.nn + 1) := hid (by omega)
     have HN2 : Hid ((c1.nn + 1) * 16 ≤ 140737488355328) := hid (by have := H12.out; have := HJ.out; have := HL2.out; omega)
     have HN3 : Hid (c1.nn + 1 ≤ maxLen) := hid (by have := H12.out; have := HJ.out; have := HL2.out; unfold maxLen; omega)
     clear hcn
     have hc3 : w2.cell? ⟨w.heap.size, 1, none⟩ = some (.slice c1.na c1.nn c1.nc) := HLN2.out.x.1 1
     go_wp2_with fail
     refine wp_region_ordC 7 [(0, 1), (1, 0), (2, 1), (3, 2), (4, 2), (5, 2), (6, 1), (7, 2)] (fun _ => True) (fun W' => W'.cell? ⟨w.heap.size, 1, none⟩ = some (.slice c1.na c1.nn c1.nc)) (by kernel_rfl) (by kernel_rfl) (trivial) (hc3) ?_
     repeat ((first | refine ordC_skip rfl rfl ?_ | refine ordC_skip1 rfl rfl ?_ | ((first | refine ordC_q rfl rfl ?_ | refine ordC_p rfl rfl ?_); apply Exists.intro; refine ⟨fun wS hS => ?_, ?_⟩; (go_simp; try with_reducible rfl))); simp only [Act.put, List.setIfInBounds_toArray, List.set_cons_zero, List.set_cons_succ])
     refine ordC_l rfl rfl (fun K hK => ?_)
     go_simp
     refine (cu_name_any _ HC2.out.drew HST2.out).mono ?_
     rintro e w6 ⟨m, q6, l6, er6, rfl, hc6, hs6, hm6⟩
     have HC6 := hid hc6; have HLN6 := hid ((HLN2.out.below (Below.refl _ _).drew).cs hs6); have HM6 := hid ((HM2.out.trans (Mv.of_below (Below.refl _ _).drew)).cs hs6)
     have HX6 := hid (any_step HX2.out hm6)
     refine hK _ _ ⟨trivial, HLN6.out.x.1 1⟩ ?_
     have HN4 : Hid (B + 1 ≤ (w6.alloc (.cells #[.string ⟨m.toArray⟩] 9)).heap.size) := hid (by have := HC6.out.lt; simp; omega)
     clear hK K hc6 hs6 hm6 hc3
     refine ordC_l rfl rfl (fun K hK => ?_)
     go_simp
     refine hK _ _ ⟨trivial, (HLN6.out.below (belowA (Below.refl _ _) _)).x.1 1⟩ ?_
     clear hK K
     refine ordC_l rfl rfl (fun K hK => ?_)
     refine wp_app _ _ 25 rfl i z 16 Tryz.underlying25 HI.out.1 HI.out.2.1 HI.out.2.2.1 HI.out.2.2.2.1 HI.out.2.2.2.2 rfl (HLN6.out.n.2.1.alloc _) (some ⟨w6.heap.size, 0, none⟩) 1 1 (c1.nn + 1) [m] rfl (Row.str1 w6 m) HN1.out HN2.out HN3.out HN4.out ?_
     intro a' c' w7 hown hg hat
     have hx7 := (HLN6.out.x.keep (belowA (Below.refl _ _) (.cells #[.string ⟨m.toArray⟩] 9))).grown hg (fun e => (HLN6.out.an _ e).1 rfl)
     have HAD := hid (HLN6.out.addN (belowA (Below.refl _ _) (.cells #[.string ⟨m.toArray⟩] 9)) a' c' hown hg hat)
     refine hK _ _ ⟨trivial, hx7.1 1⟩ ?_
     have hc3 := hx7.1 1; have hf3 := hx7.2.1 1
     clear hK K hown hg hat hx7
     repeat ((first | refine ordC_skip rfl rfl ?_ | refine ordC_skip1 rfl rfl ?_ | ((first | refine ordC_q rfl rfl ?_ | refine ordC_p rfl rfl ?_); apply Exists.intro; refine ⟨fun wS hS => ?_, ?_⟩; (go_simp; try with_reducible rfl))); simp only [Act.put, List.setIfInBounds_toArray, List.set_cons_zero, List.set_cons_succ])
     refine ordC_m rfl rfl rfl (fun K hK => ?_)
     go_simp
     refine hK _ _ trivial ?_
     clear hK K
     refine ordC_nil ?_
     have HC8 := hid (HAD.out.2.2 _ _ _ _ HC6.out)
     go_wp2_with fail
     have hwk : wrap64 ((j : Int) + 1) = ((j + 1 : Nat) : Int) := by have := HJL.out; have := HL2.out; unfold wrap64; omega
     go_roundw
     case rel => exact ⟨_, j + 1, q6, l6, er6, _, _, rfl, (by first | rfl | rw [hwk] | go_num), HJL.out, HC8.out, HAD.out.1, HAD.out.2.1 _ _ HM6.out (Nat.le_refl _), (by have := HX6.out; rw [HMJ.out] at this; exact this), HKK.out, (by have := H12.out.1; simp; omega), H12.out.2, HBT1.out⟩
     case measure => have := HJL.out; (try rw [hwk]); simp [RowKit.intOf] <;> omega
   · have hd1 : decide ((j : Int) < (lo : Int)) = false := by simp; omega
     have hd1n : decide (j < lo) = false := by simp; omega
     have hx1 : X1 = mkR n1 l1 er1 := by rw [hx, show lo - j = 0 by omega]; rfl
     obtain ⟨Y1, hY1⟩ : ∃ Y1, Y1 = anyE er1 l1 (midD k n1 l1) := ⟨_, rfl⟩
     have HXY : Hid (X = bindE Y1 fun n2 r' => endD k n2 r') := hid (by rw [HX.out, hx1, bind_mk, any_bind, ← hY1])
     have HY := hid hY1
     clear hY1
     have hck : c1.kind = (k : Int) := HLN.out.n.1.1.trans HKK.out
     have HCK := hid hck
     have hcb := HLN.out.x.1; have hfb := HLN.out.x.2.1
     have hkb := HKB.out
     have HKE := hid hkb
     clear hx hx1 hjl hj hkb
     by_cases k1 : k = 1
     · skip
       subst k1
       have HM0 : Hid (mo = 0) := hid (by have := HMO.out; simpa using this)
       have hck1 : c1.kind = 1 := hck
       clear hck
       have hgt : decide ((lo : Int) < (hn : Int)) = false := by have := HHN.out; have := HM0.out; simp; omega
       have hgtn : decide (lo < hn) = false := by have := HHN.out; have := HM0.out; simp; omega
       go_wp2_with fail
       refine (cu_must_any _ HC.out).mono ?_
       rintro e w2 ⟨u, q2, l2, er2, rfl, hc2, hs2, hm2⟩
       have HC2 := hid hc2; have HLN2 := hid (HLN.out.cs hs2); have HM2 := hid (HM.out.cs hs2); have HST2 := hid (must_stands hm2)
       have hy := HY.out
       unfold midD at hy
       rw [if_pos rfl] at hy
       have HY2 := hid (any_step hy hm2)
       clear hy hc2 hs2 hm2 hcb hfb hck1
       go_wp2_with fail
       have HBA := hid (belowA (Below.refl w2.heap.size w2) (.cells #[.string ⟨#[49]⟩, .string ⟨#[50]⟩, .string ⟨#[50, 46, 57, 57]⟩, .string ⟨#[51]⟩] 9))
       refine (cu_one_any _ (HC2.out.below HBA.out) (some ⟨w2.heap.size, 0, none⟩) 4 4 levelL ((Own.strL rfl levelL (by decide)).row (by decide)) (by decide) levelL_100).mono ?_
       rintro e w3 ⟨a, q3, l3, er3, rfl, hc3, hs3, hm3, ha0, hab⟩
       have HYE : Hid (Y1 = mkR { n1 with lvl := 1 + (a : Int) } l3 er3) := hid (by have := any_step HY2.out hm3; exact this)
       have HLN3 := hid ((HLN2.out.below HBA.out).cs hs3); have HM3 := hid ((HM2.out.trans (Mv.of_below HBA.out)).cs hs3); have HC3 := hid hc3
       have HXE : Hid (X = mkR { n1 with lvl := 1 + (a : Int) } l3 er3) := hid (by rw [HXY.out, HYE.out, bind_mk, end_none 1 (by omega) (by omega) (by omega)]; exact any_ok _ _ _)
       clear hc3 hs3 hm3 ha0
       have hw1 : wrap64 (1 + (a : Int)) = 1 + (a : Int) := by unfold wrap64; omega
       have hcb := HLN3.out.x.1; have hfb := HLN3.out.x.2.1; have hct := HLN3.out.z.1; have hft := HLN3.out.z.2.1
       have HLN4 := hid (HLN3.out.setLvl (1 + (a : Int)))
       have HC4 := hid (HC3.out.oth w.heap.size 2 (.int .i64 (1 + (a : Int))) (by have := HLN3.out.lt; omega)); have HM4 := hid ((HM3.out.set (Nat.le_refl _) 2 (.int .i64 (1 + (a : Int)))).as (c' := { c1 with lvl := 1 + (a : Int) }) rfl rfl)
       go_wp2_with fail
       refine bodyPost_ret (v := valLn { c1 with lvl := 1 + (a : Int) }) (by simp [results, Tryz.results32, go_sem, hct]) rfl ?_
       have hfin := HLN4.out.fin HC4.out HM4.out (Nat.le_refl _)
       exact ⟨{ c1 with lvl := 1 + (a : Int) }, { n1 with lvl := 1 + (a : Int) }, q3, l3, er3, rfl, hfin.1, hfin.2.1, hfin.2.2, HXE.out⟩
     by_cases k3 : k = 3
     · skip
       subst k3
       have HM0 : Hid (mo = 0) := hid (by have := HMO.out; simpa using this)
       have hck1 : c1.kind = 3 := hck
       clear hck
       have hgt : decide ((lo : Int) < (hn : Int)) = false := by have := HHN.out; have := HM0.out; simp; omega
       have hgtn : decide (lo < hn) = false := by have := HHN.out; have := HM0.out; simp; omega
       go_wp2_with fail
       refine (cu_must_any _ HC.out).mono ?_
       rintro e w2 ⟨u, q2, l2, er2, rfl, hc2, hs2, hm2⟩
       have HC2 := hid hc2; have HLN2 := hid (HLN.out.cs hs2); have HM2 := hid (HM.out.cs hs2); have HST2 := hid (must_stands hm2)
       have hy := HY.out
       unfold midD at hy
       rw [if_neg (show ¬ ((3 : Nat) = 1) by decide), if_pos rfl] at hy
       have HY2 := hid (any_step hy hm2)
       clear hy hc2 hs2 hm2 hcb hfb hck1
       have hcn := HLN2.out.n.1.2.2.2.2.2
       have HV1 : Hid (n1.vers.length + 1 = c1.vn + 1) := hid (by have : c1.vn = n1.vers.length := hcn; omega)
       have HV2 : Hid ((c1.vn + 1) * 24 ≤ 140737488355328) := hid (by have := HV1.out; have := H12.out; omega)
       have HV3 : Hid (c1.vn + 1 ≤ maxLen) := hid (by have := HV1.out; have := H12.out; unfold maxLen; omega)
       have hc3 := HLN2.out.x.1 3
       clear hcn
       go_wp2_with fail
       refine wp_region_ordC 7 [(0, 1), (1, 0), (2, 1), (3, 2), (4, 2), (5, 2), (6, 1), (7, 2)] (fun _ => True) (fun W' => W'.cell? ⟨w.heap.size, 3, none⟩ = some (.slice c1.va c1.vn c1.vc)) (by kernel_rfl) (by kernel_rfl) (trivial) (hc3) ?_
       repeat ((first | refine ordC_skip rfl rfl ?_ | refine ordC_skip1 rfl rfl ?_ | ((first | refine ordC_q rfl rfl ?_ | refine ordC_p rfl rfl ?_); apply Exists.intro; refine ⟨fun wS hS => ?_, ?_⟩; (go_simp; try with_reducible rfl))); simp only [Act.put, List.setIfInBounds_toArray, List.set_cons_zero, List.set_cons_succ])
       refine ordC_l rfl rfl (fun K hK => ?_)
       go_simp
       refine (cu_told_any _ HC2.out.drew HST2.out).mono ?_
       rintro e w10 ⟨⟨vn, vk⟩, q10, l10, er10, rfl, hc10, hs10, hm10⟩
       have HC10 := hid hc10; have HLN10 := hid ((HLN2.out.below (Below.refl _ _).drew).cs hs10); have HM10 := hid ((HM2.out.trans (Mv.of_below (Below.refl _ _).drew)).cs hs10)
       have HX10 := hid (any_step HY2.out hm10)
       refine hK _ _ ⟨trivial, HLN10.out.x.1 3⟩ ?_
       have HV4 : Hid (B + 1 ≤ (w10.alloc (.cells #[.string ⟨vn.toArray⟩, .int .i64 vk] 67)).heap.size) := hid (by have := HC10.out.lt; simp; omega)
       clear hK K hc10 hs10 hm10 hc3
       refine ordC_l rfl rfl (fun K hK => ?_)
       go_simp
       refine hK _ _ ⟨trivial, (HLN10.out.below (belowA (Below.refl _ _) _)).x.1 3⟩ ?_
       clear hK K
       refine ordC_l rfl rfl (fun K hK => ?_)
       refine wp_app _ _ 26 rfl i2 z2 24 Tryz.underlying26 HI2.out.1 HI2.out.2.1 HI2.out.2.2.1 HI2.out.2.2.2.1 HI2.out.2.2.2.2 rfl (HLN10.out.n.2.2.alloc _) (some ⟨w10.heap.size, 0, none⟩) 1 1 (c1.vn + 1) [⟨vn, vk⟩] rfl (Row.toN rfl ⟨vn, vk⟩) HV1.out HV2.out HV3.out HV4.out ?_
       intro a2 c2' w11 hown hg hat
       have hx11 := (HLN10.out.x.keep (belowA (Below.refl _ _) (.cells #[.string ⟨vn.toArray⟩, .int .i64 vk] 67))).grown hg (fun e => (HLN10.out.av _ e).1 rfl)
       have HAV := hid (HLN10.out.addV (v := ⟨vn, vk⟩) (belowA (Below.refl _ _) (.cells #[.string ⟨vn.toArray⟩, .int .i64 vk] 67)) a2 c2' hown hg hat)
       have hz11 := (HLN10.out.z.keep (belowA (Below.refl _ _) (.cells #[.string ⟨vn.toArray⟩, .int .i64 vk] 67))).grown hg (fun e => (HLN10.out.av _ e).2 rfl)
       refine hK _ _ ⟨trivial, hx11.1 3⟩ ?_
       have hcb := hx11.1; have hfb := hx11.2.1; have hct := hz11.1; have hft := hz11.2.1
       clear hK K hown hg hat hx11 hz11
       repeat ((first | refine ordC_skip rfl rfl ?_ | refine ordC_skip1 rfl rfl ?_ | ((first | refine ordC_q rfl rfl ?_ | refine ordC_p rfl rfl ?_); apply Exists.intro; refine ⟨fun wS hS => ?_, ?_⟩; (go_simp; try with_reducible rfl))); simp only [Act.put, List.setIfInBounds_toArray, List.set_cons_zero, List.set_cons_succ])
       refine ordC_m rfl rfl rfl (fun K hK => ?_)
       go_simp
       refine hK _ _ trivial ?_
       clear hK K
       refine ordC_nil ?_
       have HYE : Hid (Y1 = mkR (addV n1 ⟨vn, vk⟩) l10 er10) := hid HX10.out
       have HXE : Hid (X = mkR (addV n1 ⟨vn, vk⟩) l10 er10) := hid (by rw [HXY.out, HYE.out, bind_mk, end_none 3 (by omega) (by omega) (by omega)]; exact any_ok _ _ _)
       have HC4 := hid (HAV.out.2.2 _ _ _ _ HC10.out)
       have HM4 := hid (HAV.out.2.1 _ _ HM10.out (Nat.le_refl _))
       have HLN4 := hid HAV.out.1
       go_wp2_with fail
       refine bodyPost_ret (v := valLn (withV c1 a2 (c1.vn + 1) c2')) (by simp [results, Tryz.results32, go_sem, hct]) rfl ?_
       have hfin := HLN4.out.fin HC4.out HM4.out (Nat.le_refl _)
       exact ⟨(withV c1 a2 (c1.vn + 1) c2'), (addV n1 ⟨vn, vk⟩), q10, l10, er10, rfl, hfin.1, hfin.2.1, hfin.2.2, HXE.out⟩
     by_cases k9 : k = 9
     · skip
       subst k9
       have HM0 : Hid (mo = 0) := hid (by have := HMO.out; simpa using this)
       have HYG : Hid (Y1 = anyE er1 l1 (guarD 5 0 n1 l1)) := hid (by have := HY.out; unfold midD at this; rw [if_neg (show ¬ ((9 : Nat) = 1) by decide), if_neg (show ¬ ((9 : Nat) = 3) by decide), if_pos rfl] at this; exact this)
       have e1 : (c1.kind == 1) = false := by rw [hck]; rfl
       have e3 : (c1.kind == 3) = false := by rw [hck]; rfl
       have e9 : (c1.kind == 9) = true := by rw [hck]; rfl
       clear hck
       go_wp2_with fail
       go_loopw [7] (fun i wr => ∃ (W2 : World) (f m q2 : Nat) (l2 : Bs) (er2 : Int) (c2 : LnC) (n2 : LnS), W2 = wr ∧ i = .int .i64 m ∧ CuC W2 B s q2 l2 er2 ∧ LnB W2 B w.heap.size c2 n2 ∧ Mv B c c2 w W2 ∧ Y1 = anyE er2 l2 (guarD f m n2 l2) ∧ (er2 = 0 → m ≤ 4 ∧ 5 ≤ f + m) ∧ m ≤ 5 ∧ 0 ≤ n2.bits ∧ n2.bits ≤ 16 * m) (fun i wr => curM s.length B wr)
       case atStart => exact ⟨_, 5, 0, q, l1, er1, c1, n1, rfl, rfl, HC.out, HLN.out, HM.out, HYG.out, fun _ => ⟨by omega, by omega⟩, by omega, by rw [HBT1.out]; exact Int.le_refl _, by rw [HBT1.out]; exact Int.le_refl _⟩
       case round =>
         obtain ⟨W2, f, m, q2, l2, er2, c2, n2, rfl, rfl, hc2, hln2, hmv2, hx2, hem, hm5, hb1, hb2⟩ := hrel
         have HC2 := hid hc2; have HLN2 := hid hln2; have HM2 := hid hmv2; have HX2 := hid hx2; have HEM := hid hem; have HBI := hid (⟨hm5, hb1, hb2⟩ : _ ∧ _ ∧ _)
         have HFG : Hid (er2 = 0 → ∃ g, f = g + 1) := hid (fun e => ⟨f - 1, by have := hem e; omega⟩)
         clear hc2 hln2 hmv2 hx2 hem hm5 hb1 hb2 hcb hfb
         go_wp2_with fail
         refine (cu_next_any _ HC2.out).mono ?_
         rintro e w3 ⟨a, q3, l3, er3, rfl, hc3, hs3, hm3, hfa⟩
         have HC3 := hid hc3; have HLN3 := hid (HLN2.out.cs hs3); have HM3 := hid (HM2.out.cs hs3); have HMO3 := hid hm3; have HFA := hid hfa
         clear hc3 hs3 hm3 hfa
         cases a
         · skip
           have HYE := hid (guar_stop HFG.out HMO3.out HX2.out)
           have HXE : Hid (X = mkR n2 l3 er3) := hid (by rw [HXY.out, HYE.out, bind_mk, end_none 9 (by omega) (by omega) (by omega)]; exact any_ok _ _ _)
           have hgt : decide ((lo : Int) < (hn : Int)) = false := by have := HHN.out; have := HM0.out; simp; omega
           have hgtn : decide (lo < hn) = false := by have := HHN.out; have := HM0.out; simp; omega
           have hcb := HLN3.out.x.1; have hfb := HLN3.out.x.2.1; have hct := HLN3.out.z.1; have hft := HLN3.out.z.2.1
           go_wp2_with fail
           refine bodyPost_ret (v := valLn c2) (by simp [results, Tryz.results32, go_sem, hct]) rfl ?_
           have hfin := HLN3.out.fin HC3.out HM3.out (Nat.le_refl _)
           exact ⟨c2, n2, q3, l3, er3, rfl, hfin.1, hfin.2.1, hfin.2.2, HXE.out⟩
         · skip
           have h0 : er3 = 0 := by apply Classical.byContradiction; intro e; have := HFA.out e; cases this
           subst h0
           obtain ⟨he2, hmo⟩ := mk_ok HMO3.out rfl
           subst he2
           obtain ⟨g, hg⟩ := HFG.out rfl
           subst hg
           have hx := HX2.out
           rw [guarD] at hx
           have hx3 := any_step hx HMO3.out
           rw [if_neg (show ¬ (true = false) by simp)] at hx3
           have HX3 := hid hx3; have HLE := hid (more_len hmo); have HM4 : Hid (m ≤ 4 ∧ 5 ≤ g + 1 + m) := hid (HEM.out rfl)
           clear hx hx3 hmo HFG HFA
           go_wp2_with fail
           refine (r_guards _).mono ?_
           rintro e w4 ⟨ga, gc, rfl, hown, hb4⟩
           obtain ⟨a', hsl, hrow⟩ := (hown.row (by decide)).dropS m (by have := HM4.out.1; exact this)
           have hslA : ∀ W, (Instr.sliceAt 25 (.slice ga 4 gc) (some (.int .i64 (m : Int))) none none).run Tryz.prog W = .ok (.slice a' (4 - m) (gc - m)) W := fun W => (run_sliceAt_slice (P := Tryz.prog) W 25 _ _ _ _ un_str).trans (hsl W)
           have HROW := hid hrow; have HB4 := hid hb4
           have HC4 := hid (HC3.out.below hb4); have HLN4 := hid (HLN3.out.below hb4); have HMV4 := hid (HM3.out.trans (Mv.of_below hb4))
           clear hown hb4 hrow hsl
           go_wp2_with fail
           refine (cu_one_any _ HC4.out a' (4 - m) (gc - m) (guardL.drop m) HROW.out (by omega) (guardL_100 m)).mono ?_
           rintro e w5 ⟨ix, q5, l5, er5, rfl, hc5, hs5, hm5, hi0, hib⟩
           obtain ⟨x, hx⟩ : ∃ x, x = m + ix := ⟨_, rfl⟩
           have hx5 : x < 5 := by
             by_cases he : er5 = 0
             · have := one_lt (mk_ok hm5 he).2; rw [List.length_drop] at this; have h4 : guardL.length = 4 := rfl; omega
             · have := hi0 he; have := HM4.out.1; omega
           have HX5 := hid (any_step HX3.out hm5)
           have HL5 : Hid (er5 = 0 → x < 4 ∧ l5.length < l3.length) := hid (fun e => by have h2 := (mk_ok hm5 e).2; have h1 := one_lt h2; rw [List.length_drop] at h1; have h4 : guardL.length = 4 := rfl; exact ⟨by omega, one_len h2 (guardL_ne m)⟩)
           obtain ⟨x1, hx1⟩ : ∃ x1, x1 = x + 1 := ⟨_, rfl⟩
           have HXM : Hid (x1 = m + ix + 1) := hid (by omega)
           have HR1 : Hid (er5 = 0 → x1 ≤ 4 ∧ 5 ≤ g + x1) := hid (fun e => by have := (HL5.out e).1; have := HM4.out.2; omega)
           have HR2 : Hid (x1 ≤ 5) := hid (by omega)
           have HR3 : Hid (er5 = 0 → l5.length < l2.length) := hid (fun e => by have := (HL5.out e).2; have := HLE.out; omega)
           have HC5 := hid hc5; have HLN5 := hid (HLN4.out.cs hs5); have HM5 := hid (HMV4.out.cs hs5)
           obtain ⟨y, hy⟩ : ∃ y : Int, y = 2 ^ x := ⟨_, rfl⟩
           have hyf := pow_wrap x hx5
           have hyf2 := pow_wrap2 x hx5
           have hy5 := pow_lt5 x hx5
           rw [← hy] at hyf hyf2 hy5
           have hcx : (m : Int) + (ix : Int) = (x : Int) := by omega
           have hwx : IntKind.i64.wrap (x : Int) = (x : Int) := Go.IntWalk.i64_in _ (by omega)
           have hwx2 : wrap64 (x : Int) = (x : Int) := by unfold wrap64; omega
           have hcb2 : c2.bits = n2.bits := HLN5.out.n.1.2.2.2.1
           obtain ⟨z', hz'⟩ : ∃ z' : Int, z' = c2.bits + y := ⟨_, rfl⟩
           have hzb : 0 ≤ z' ∧ z' ≤ 200 := by have := HBI.out; omega
           have hzz : c2.bits + y = z' := hz'.symm
           have hwz : IntKind.i64.wrap z' = z' := Go.IntWalk.i64_in _ (by omega)
           have hwz2 : wrap64 z' = z' := by unfold wrap64; omega
           have hxi : (x : Int) + 1 = (x1 : Int) := by omega
           have hwx1 : wrap64 (x1 : Int) = (x1 : Int) := by unfold wrap64; omega
           have HZN : Hid (z' = n2.bits + 2 ^ (m + ix)) := hid (by rw [hz', hcb2, hy, hx])
           have hm1n : m + 1 ≤ x1 := by rw [hx1, hx]; exact Nat.succ_le_succ (Nat.le_add_right m ix)
           have hm1 : (m : Int) + 1 ≤ (x1 : Int) := by have h := Int.ofNat_le.2 hm1n; rw [Int.natCast_add] at h; exact h
           have HZB : Hid (0 ≤ z' ∧ z' ≤ 16 * x1) := hid ⟨hzb.1, by have h1 := HBI.out.2.2; have h2 := hy5.2; rw [hz', hcb2]; exact Int.le_trans (Int.add_le_add h1 h2) (by have h3 : 16 * ((m : Int) + 1) ≤ 16 * (x1 : Int) := Int.mul_le_mul_of_nonneg_left hm1 (by decide); rw [Int.mul_add] at h3; exact h3)⟩
           clear hc5 hs5 hm5 hi0 hy hx hx1 hz' hcb2 hzb hy5 hx5 hm1 hm1n
           have hc5 : w5.cell? ⟨w.heap.size, 5, none⟩ = some (.int .i64 c2.bits) := HLN5.out.x.1 5
           have hf5 := HLN5.out.x.2.1 5
           have HW1 := hid (⟨hxi, hwx1, hwx2⟩ : _ ∧ _ ∧ _)
           clear hxi hwx1 hwx2 hib hd1 hd1n e1 e3 e9 hslA
           go_wp2_with fail
           refine wp_region_ordC 8 [(0, 1), (1, 0), (2, 1), (3, 1), (4, 1), (5, 1), (6, 1), (7, 1), (8, 2)] (fun _ => True) (fun W' => W'.cell? ⟨w.heap.size, 5, none⟩ = some (.int .i64 c2.bits)) (by kernel_rfl) (by kernel_rfl) (trivial) (hc5) ?_
           repeat ((first | refine ordC_skip rfl rfl ?_ | refine ordC_skip1 rfl rfl ?_ | ((first | refine ordC_q rfl rfl ?_ | refine ordC_p rfl rfl ?_); apply Exists.intro; refine ⟨fun wS hS => ?_, ?_⟩; (go_simp; try with_reducible rfl))); simp only [Act.put, List.setIfInBounds_toArray, List.set_cons_zero, List.set_cons_succ])
           refine ordC_m rfl rfl rfl (fun K hK => ?_)
           go_simp
           refine hK _ _ trivial ?_
           clear hK K
           refine ordC_nil ?_
           have HC6 := hid ((HC5.out.oth w.heap.size 5 (.int .i64 z') (by have := HBB.out; omega)).drew)
           have HLN6 := hid ((HLN5.out.setBits z').below (Below.refl _ _).drew)
           have HM6 := hid (((HM5.out.set (Nat.le_refl _) 5 (.int .i64 z')).as (c' := { c2 with bits := z' }) rfl rfl).trans (Mv.of_below (Below.refl _ _).drew))
           obtain ⟨hxi, hwx1, hwx2⟩ := HW1.out
           go_wp2_with fail
           go_roundw
           case rel => exact ⟨_, g, x1, q5, l5, er5, _, _, rfl, (by rw [hwx1]), HC6.out, HLN6.out, HM6.out, (by have := HX5.out; rw [← HXM.out, ← HZN.out] at this; exact this), HR1.out, HR2.out, HZB.out.1, HZB.out.2⟩
           case measure => exact curM_lt HC2.out HC6.out HR3.out
     by_cases kN : k = 4 ∨ k = 7 ∨ k = 8
     · skip
       have e1 : (c1.kind == 1) = false := beq_eq_false_iff_ne.2 (by rw [hck]; omega)
       have e3 : (c1.kind == 3) = false := beq_eq_false_iff_ne.2 (by rw [hck]; omega)
       have e9 : (c1.kind == 9) = false := beq_eq_false_iff_ne.2 (by rw [hck]; omega)
       clear hck
       have HM0 : Hid (40 ≤ mo ∧ mo ≤ 300) := hid (by have := HMO.out; rcases kN with rfl | rfl | rfl <;> simp at this <;> omega)
       have hgt : decide ((lo : Int) < (hn : Int)) = true := by have := HHN.out; have := HM0.out; simp; omega
       have hgtn : decide (lo < hn) = true := by have := HHN.out; have := HM0.out; simp; omega
       have hsub : (hn : Int) - (lo : Int) = (mo : Int) := by have := HHN.out; omega
       have hwm : wrap64 (mo : Int) = (mo : Int) := by have := HM0.out; unfold wrap64; omega
       have HYE : Hid (Y1 = mkR n1 l1 er1) := hid (by rw [HY.out, mid_none k k1 k3 k9]; exact any_ok _ _ _)
       have HXN : Hid (X = anyE er1 l1 (namesD n1.kind mo (mo + 2) 0 n1 l1)) := hid (by rw [HXY.out, HYE.out, bind_mk, end_names k mo kN HMO.out, HKK.out])
       have HNM := hid (fun W' (hb : W' = W) => cu_names W' (hb ▸ HC.out) (hb ▸ HLN.out.n) mo HM0.out.2 (by have := H12.out; have := HL2.out; have := HJ.out; omega) (by have := H12.out; omega))
       clear k1 k3 k9 kN
       go_wp2_with fail
       refine (HNM.out _ rfl).mono ?_
       rintro e w3 ⟨c3, n3, p3, l3, er3, rfl, hc3, hl3, hm3, hx3⟩
       have HLN3 := hid (HLN.out.put hl3 hm3)
       have hA : RdA B c1 w.heap.size := ⟨by have := HLN.out.lt; omega, fun e => (HLN.out.an _ e).1 rfl, fun e => (HLN.out.av _ e).1 rfl⟩
       have hA2 : RdA B c1 (w.heap.size + 1) := ⟨by have := HLN.out.lt; omega, fun e => (HLN.out.an _ e).2 rfl, fun e => (HLN.out.av _ e).2 rfl⟩
       have hxb := hm3.bx HLN.out.x hA; have hxz := hm3.bx HLN.out.z hA2
       have HM3 := hid ((HM.out.trans hm3).put6 (g := w.heap.size) (c' := c3) (Nat.le_refl _))
       have HC3 := hid (hc3.put6 (g := w.heap.size) (by have := HBB.out; omega) c3)
       have HXE : Hid (X = mkR n3 l3 er3) := hid (by rw [HXN.out, hx3])
       clear hcb hfb hA hA2
       have hcb := hxb.1; have hfb := hxb.2.1; have hct := hxz.1; have hft := hxz.2.1
       clear hc3 hl3 hm3 hx3 hxb hxz
       go_wp2_with fail
       refine bodyPost_ret (v := valLn c3) (by simp [results, Tryz.results32, go_sem, hct]) rfl ?_
       have hfin := HLN3.out.fin HC3.out HM3.out (Nat.le_refl _)
       exact ⟨c3, n3, p3, l3, er3, rfl, hfin.1, hfin.2.1, hfin.2.2, HXE.out⟩
     · skip
       have HM0 : Hid (mo = 0) := hid (by have := HMO.out; rw [if_neg (by omega), if_neg (by omega), if_neg (by omega)] at this; exact this)
       have e1 : (c1.kind == 1) = false := beq_eq_false_iff_ne.2 (by rw [hck]; omega)
       have e3 : (c1.kind == 3) = false := beq_eq_false_iff_ne.2 (by rw [hck]; omega)
       have e9 : (c1.kind == 9) = false := beq_eq_false_iff_ne.2 (by rw [hck]; omega)
       clear hck
       have hgt : decide ((lo : Int) < (hn : Int)) = false := by have := HHN.out; have := HM0.out; simp; omega
       have hgtn : decide (lo < hn) = false := by have := HHN.out; have := HM0.out; simp; omega
       have HYE : Hid (Y1 = mkR n1 l1 er1) := hid (by rw [HY.out, mid_none k k1 k3 k9]; exact any_ok _ _ _)
       have HXE : Hid (X = mkR n1 l1 er1) := hid (by rw [HXY.out, HYE.out, bind_mk, end_none k (by omega) (by omega) (by omega)]; exact any_ok _ _ _)
       have hct := HLN.out.z.1; have hft := HLN.out.z.2.1
       clear k1 k3 k9 kN
       go_wp2_with fail
       refine bodyPost_ret (v := valLn c1) (by simp [results, Tryz.results32, go_sem, hct]) rfl ?_
       have hfin := HLN.out.fin HC.out HM.out (Nat.le_refl _)
       exact ⟨c1, n1, q, l1, er1, rfl, hfin.1, hfin.2.1, hfin.2.2, HXE.out⟩
end Yd
