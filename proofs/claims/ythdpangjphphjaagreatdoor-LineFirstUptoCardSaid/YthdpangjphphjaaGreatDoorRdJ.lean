import Derived.Test.YthdpangjphphjaaGreatDoorRdK
import Derived.Test.YthdpangjphphjaaGreatDoorProg
set_option maxRecDepth 200000
set_option maxHeartbeats 8000000
namespace Yd
open Go Go.RowKit Go.Proofs

theorem verb_take : ∀ j : Fin 9, verbL.take j.val ++ [formV (j.val + 1)] = verbL.take (j.val + 1) := by decide
def finR (x : Except Er (Unit × LnS × Bs)) : Except Er (Unit × LnS × Bs) := match lastS x with | .error x => .error x | .ok (n', r) => .ok ((), n', r)
theorem finR_error (x : Er) : finR (.error x) = .error x := rfl
theorem finR_more {u : Unit} {n : LnS} {r : Bs} {x : Er} (h : moreS r = .error x) : finR (.ok (u, n, r)) = .error x := by
 unfold finR lastS; simp only [h]
theorem finR_true {u : Unit} {n : LnS} {r r3 : Bs} (h : moreS r = .ok (true, r3)) : finR (.ok (u, n, r)) = .error (r3, 220) := by
 unfold finR lastS; simp only [h]
theorem finR_false {u : Unit} {n : LnS} {r r3 : Bs} (h : moreS r = .ok (false, r3)) : finR (.ok (u, n, r)) = .ok ((), n, r3) := by
 unfold finR lastS; simp only [h]
theorem rd_read {R p : Nat} {s l : Bs} {c : LnC} (w : World) (h : RdC w R s p l c noLn) (hG : GlR R w) :
   Calls Tryz.prog 25 #[.pointer (some ⟨R, 0, none⟩)] w (RdRes R s c w (fun _ : Unit => .tuple #[]) (match readS l with | .error x => .error x | .ok (n', r) => .ok ((), n', r))) := by
 obtain ⟨Y, hY⟩ : ∃ Y : Except Er (Unit × LnS × Bs), Y = (match readS l with | .error x => .error x | .ok (n', r) => .ok ((), n', r)) := ⟨_, rfl⟩
 rw [← hY]
 have HY := hid hY; have HG := hid hG
 clear hY hG
 have c0 := h.c0; have c1 := h.c1; have z1 := f1 h 1
 have hlen := h.len; have hlim := h.lim
 have hsl := fun W => run_sl Tryz.underlying9 s p (by omega) W
 rw [h.d] at hsl
 have hz := bsz s; have hz2 := bsz (skipS l)
 have hsk := skipS_len l
 obtain ⟨q, hq⟩ : ∃ q : Nat, q = s.length - (skipS l).length := ⟨_, rfl⟩
 have HWQ : Hid (wrap64 ((s.length : Int) - ((skipS l).length : Int)) = (q : Int)) := hid (by
   rw [show (s.length : Int) - ((skipS l).length : Int) = (q : Int) by omega]
   exact IntWalk.wrap64_in _ (by omega))
 have HWQ2 : Hid (IntKind.i64.wrap ((s.length : Int) - ((skipS l).length : Int)) = (q : Int)) := hid (by
   rw [show (s.length : Int) - ((skipS l).length : Int) = (q : Int) by omega]
   exact IntWalk.i64_in _ (by omega))
 have HH := hid h; have HLEN := hid hlen; have HSK := hid hsk; have HQ := hid hq
 clear h hlen hsk hq
 go_enter Tryz.func25, Tryz.ntmps25
 go_wp2_with fail
 refine wp_region_ordC 20 [(0, 1), (1, 1), (2, 1), (3, 1), (4, 0), (5, 0), (6, 1), (7, 1), (8, 1), (9, 0), (10, 1), (11, 1), (12, 1), (13, 0), (14, 0), (15, 2), (16, 0), (17, 0), (18, 1), (19, 1), (20, 2)] (fun _ => True) (fun W' => W'.cell? ⟨R, 0, none⟩ = some (.string ⟨s.toArray⟩) ∧ W'.cell? ⟨R, 1, none⟩ = some (.int .i64 p)) (by kernel_rfl) (by kernel_rfl) (trivial) (⟨HH.out.c0, HH.out.c1⟩) ?_
 repeat ((first | refine ordC_skip rfl rfl ?_ | refine ordC_skip1 rfl rfl ?_ | ((first | refine ordC_q rfl rfl ?_ | refine ordC_p rfl rfl ?_); apply Exists.intro; refine ⟨fun wS hS => ?_, ?_⟩; (go_simp; try with_reducible rfl))); simp only [Act.put, List.setIfInBounds_toArray, List.set_cons_zero, List.set_cons_succ])
 refine ordC_l rfl rfl (fun K hK => ?_)
 go_simp
 refine (rd_trim l _).mono ?_
 rintro e w2 ⟨rfl, hb2⟩
 have hh2 := HH.out.drew.below hb2
 refine hK _ _ ⟨trivial, hh2.c0, hh2.c1⟩ ?_
 have HH2 := hid hh2; have HB2 := hid hb2
 clear hK K hb2 hh2 c0 c1 z1
 have c1 := HH2.out.c1; have z1 := f1 HH2.out 1; have hwq := HWQ.out
 repeat ((first | refine ordC_skip rfl rfl ?_ | refine ordC_skip1 rfl rfl ?_ | ((first | refine ordC_q rfl rfl ?_ | refine ordC_p rfl rfl ?_); apply Exists.intro; refine ⟨fun wS hS => ?_, ?_⟩; (go_simp; try with_reducible rfl))); simp only [Act.put, List.setIfInBounds_toArray, List.set_cons_zero, List.set_cons_succ])
 refine ordC_m rfl rfl rfl (fun K hK => ?_)
 go_simp
 refine hK _ _ trivial ?_
 clear hK K
 refine ordC_nil ?_
 have hb2 : Below w.heap.size w w2 := (Below.refl _ _).drew.trans HB2.out
 have ht := HH2.out.to (l.length - (skipS l).length) (skipS_drop l) (by omega) q (by have := HLEN.out; have := HSK.out; have := HQ.out; omega)
 have HT := hid ht.1; have HM := hid ((Mv.of_below (R := R) (c := c) hb2).trans ht.2)
 have HGT := hid (HG.out.mv HH.out HM.out.same)
 clear ht hb2
 rw [show IntKind.i64.wrap ((s.length : Int) - ((skipS l).length : Int)) = (q : Int) from HWQ2.out]
 go_wp2_with fail
 refine (rd_ends _ HT.out).mono ?_
 rintro e w3 ⟨rfl, hb3⟩
 have HT3 := hid (HT.out.below hb3); have HM3 := hid (HM.out.trans (Mv.of_below hb3)); have HG3 := hid (HGT.out.mv HT.out (Mv.of_below hb3 : Mv R c c _ w3).same)
 clear hb3 c1 z1
 cases hE : endsS (skipS l)
 · obtain ⟨i, z, hi, hz, hsize, hby', hzs⟩ := partsStr
   have HI := hid (⟨hi, hz, hsize, hby', hzs⟩ : _ ∧ _ ∧ _ ∧ _ ∧ _)
   have HGL := hid HG3.out.l
   clear hi hz hsize hby' hzs
   go_wp2_with fail
   go_loopw [2, 31] (fun v i wr => ∃ (k : Nat) (a0 : Option Addr) (c0 : Nat), k ≤ 9 ∧ v = .slice a0 k c0 ∧ i = .int .i64 k ∧ Own wr w3.heap.size 9 1 encStr (.slice a0 k c0) (verbL.take k) ∧ Below w3.heap.size w3 wr) (fun _ i _ => 9 - (RowKit.intOf i).toNat)
   case atStart => exact ⟨0, none, 0, Nat.zero_le _, rfl, rfl, Own.nil_ _ _ _ _ _, Below.refl _ _⟩
   case round =>
     obtain ⟨k, a0, c0, hk, rfl, rfl, how, hbw⟩ := hrel
     by_cases hlt : k < 9
     · obtain ⟨hg1, hg2, hg3⟩ := (HGL.out.below (hbw : Below w3.heap.size w3 wr)).2.1 (k + 1) (by omega)
       have hf1 : wr.cell? ⟨0, 3 + k * 3, none⟩ = some (.string ⟨(formV (k + 1)).toArray⟩) := by rw [← hg1]; congr 2; omega
       have hf2 : wr.cell? ⟨0, 3 + k * 3 + 1, none⟩ = some (.int .i64 (formN (k + 1))) := by rw [← hg2]; congr 2; omega
       have hf3 : wr.cell? ⟨0, 3 + k * 3 + 2, none⟩ = some (.int .i32 (formR (k + 1))) := by rw [← hg3]; congr 2; omega
       have HOW := hid how; have HBW := hid hbw
       clear hg1 hg2 hg3 how hbw
       have HOZ : Hid (Own ((wr.alloc (.cells #[.string ⟨(formV (k + 1)).toArray⟩, .int .i64 (formN (k + 1)), .int .i32 (formR (k + 1))] 76)).alloc (.cells #[.string ⟨(formV (k + 1)).toArray⟩] 9)) w3.heap.size 9 1 encStr (.slice a0 k c0) (verbL.take k)) := hid ((HOW.out.alloc _).alloc _)
       have HBZ : Hid (Below w3.heap.size w3 ((wr.alloc (.cells #[.string ⟨(formV (k + 1)).toArray⟩, .int .i64 (formN (k + 1)), .int .i32 (formR (k + 1))] 76)).alloc (.cells #[.string ⟨(formV (k + 1)).toArray⟩] 9))) := hid (belowA (belowA HBW.out _) _)
       have HRS : Hid (Row ((wr.alloc (.cells #[.string ⟨(formV (k + 1)).toArray⟩, .int .i64 (formN (k + 1)), .int .i32 (formR (k + 1))] 76)).alloc (.cells #[.string ⟨(formV (k + 1)).toArray⟩] 9)) 1 encStr (some ⟨wr.heap.size + 1, 0, none⟩) 1 1 [formV (k + 1)]) := hid (by have := Row.str1 (wr.alloc (.cells #[.string ⟨(formV (k + 1)).toArray⟩, .int .i64 (formN (k + 1)), .int .i32 (formR (k + 1))] 76)) (formV (k + 1)); simpa using this)
       have HN1 : Hid ((verbL.take k).length + 1 = k + 1) := hid (by rw [List.length_take]; show min k 9 + 1 = k + 1; omega)
       have HN2 : Hid ((k + 1) * 16 ≤ 140737488355328) := hid (by omega)
       have HN3 : Hid (k + 1 ≤ maxLen) := hid (by unfold maxLen; omega)
       have HN4 : Hid (w3.heap.size ≤ ((wr.alloc (.cells #[.string ⟨(formV (k + 1)).toArray⟩, .int .i64 (formN (k + 1)), .int .i32 (formR (k + 1))] 76)).alloc (.cells #[.string ⟨(formV (k + 1)).toArray⟩] 9)).heap.size) := hid HBZ.out.size
       have hcl : (verbL.take k) ++ [formV (k + 1)] = verbL.take (k + 1) := verb_take ⟨k, hlt⟩
       go_wp2_with (at_builtin; refine wpList_app rfl _ _ 25 rfl i z 16 Tryz.underlying25 HI.out.1 HI.out.2.1 HI.out.2.2.1 HI.out.2.2.2.1 HI.out.2.2.2.2 rfl HOZ.out (some ⟨wr.heap.size + 1, 0, none⟩) 1 1 (k + 1) [formV (k + 1)] rfl HRS.out HN1.out HN2.out HN3.out HN4.out ?_; intro a' c' w5 hown5 hg5 hat5)
       have HB5 := below_app HBZ.out HOZ.out (Nat.le_refl _) HN4.out hg5
       refine ⟨⟨k + 1, a', c', by omega, rfl, rfl, by rw [← hcl]; exact hown5, HB5⟩, ?_⟩
       simp [RowKit.intOf]; omega
     · obtain rfl : k = 9 := by omega
       have HOW := hid how; have HBW := hid hbw
       have HC4 := hid (HT3.out.below hbw); have HM4 := hid (HM3.out.trans (Mv.of_below hbw)); have HG4 := hid (HG3.out.mv HT3.out (Mv.of_below hbw : Mv R c c w3 wr).same)
       have HVR : Hid (Row wr 1 encStr a0 9 c0 verbL) := hid (show Row wr 1 encStr a0 9 c0 (verbL.take 9) from Own.row how (by decide))
       clear how hbw
       go_wp2_with fail
       refine (rd_word wr HC4.out a0 9 c0 verbL HVR.out (by omega) (by decide) (by decide)).mono ?_
       intro e w5 he
       have hRD : ∀ x, wordS verbL (skipS l) = .error x → readS l = .error x := fun x hx => by unfold readS; rw [if_neg (by rw [hE]; simp), hx]
       cases hwo : wordS verbL (skipS l) with
       | error x =>
         rw [hwo] at he
         obtain ⟨rfl, hs⟩ := he
         refine ⟨rfl, ?_⟩
         show RdRes R s c w _ _ _ _
         rw [HY.out, hRD x hwo]
         exact ⟨rfl, HM4.out.sameTrans hs⟩
       | ok ir =>
         obtain ⟨iv, r⟩ := ir
         rw [hwo] at he
         obtain ⟨rfl, q5, hc5, hm5⟩ := he
         have HC5 := hid hc5; have HM5 := hid (HM4.out.trans hm5); have HG5 := hid (HG4.out.mv HC4.out hm5.same); have HWO := hid hwo
         have hc0 := hc5.x.1 2; have hf0 := f1 hc5 2
         have hiv : iv < 9 := by
           unfold wordS at hwo
           split at hwo
           · rename_i j hj
             injection hwo with hwo
             injection hwo with hwo _
             have := (List.findIdx?_eq_some_iff_getElem.1 hj).1
             subst hwo
             simpa [verbL] using this
           · cases hwo
         obtain ⟨n6, hn6⟩ : ∃ n6 : LnS, n6 = { noLn with kind := ((iv + 1 : Nat) : Int) } := ⟨_, rfl⟩
         have hrp := read_parts l r iv hiv hE hwo
         rw [← hn6] at hrp
         have HY1 : Hid (∀ x, doesS (actsS (iv + 1)) n6 r = .error x → Y = .error x) := hid (fun x hx => by rw [HY.out, hrp, hx])
         have HY2 : Hid (∀ u n r1, doesS (actsS (iv + 1)) n6 r = .ok (u, n, r1) → Y = finR (restS (iv + 1) n r1)) := hid (fun u n r1 hx => by rw [HY.out, hrp, hx]; rfl)
         have HN6 : Hid (n6.bits = 0 ∧ n6.first = false ∧ n6.names.length = 0 ∧ n6.vers.length = 0) := hid (by rw [hn6]; exact ⟨rfl, rfl, rfl, rfl⟩)
         have hwk : wrap64 (1 + (iv : Int)) = ((iv + 1 : Nat) : Int) := by unfold wrap64; omega
         have hwk2 : ((iv : Int) + 1).toNat = iv + 1 := by omega
         obtain ⟨N, hN, hN12⟩ := formN_12 iv
         obtain ⟨rr, hrr⟩ : ∃ rr : Int, formR (iv + 1) = rr := ⟨_, rfl⟩
         obtain ⟨hg1, hg2, hg3⟩ := HG5.out.l.2.1 (iv + 1) (by omega)
         have hq1 : w5.cell? ⟨0, (1 + iv) * 3, none⟩ = some (.string ⟨(formV (iv + 1)).toArray⟩) := by rw [← hg1]; congr 2; omega
         have hq2 : w5.cell? ⟨0, (1 + iv) * 3 + 1, none⟩ = some (.int .i64 (N : Int)) := by rw [← hN, ← hg2]; congr 2; omega
         have hq3 : w5.cell? ⟨0, (1 + iv) * 3 + 2, none⟩ = some (.int .i32 rr) := by rw [← hrr, ← hg3]; congr 2; omega
         have HIV := hid hiv; have HNN := hid hN; have HN12 := hid hN12; have HRR := hid hrr
         have h9 : (iv : Int) + 1 < 10 := by omega
         obtain ⟨c6, hc6⟩ : ∃ c6 : LnC, c6 = { c with kind := 1 + (iv : Int) } := ⟨_, rfl⟩
         have hset := HC5.out.setCellR 2 (.int .i64 (1 + (iv : Int))) { c with kind := 1 + (iv : Int) } { noLn with kind := ((iv + 1 : Nat) : Int) } (by decide) rfl ⟨rfl, rfl, rfl, rfl, rfl, rfl⟩ ⟨rfl, rfl⟩ ⟨(by show 1 + (iv : Int) = ((iv + 1 : Nat) : Int); omega), HC5.out.n.1.2.1, HC5.out.n.1.2.2.1, HC5.out.n.1.2.2.2.1⟩
         rw [← hn6, ← hc6] at hset
         have HSET := hid hset.1; have HSM := hid (HM5.out.trans hset.2)
         have HGS := hid (HG5.out.mv HC5.out hset.2.same)
         have hba := belowA (belowA (Below.refl (w5.setCell ⟨R, 2, none⟩ (.int .i64 (1 + (iv : Int)))).heap.size _) (.cells #[.string ⟨(formV (iv + 1)).toArray⟩, .int .i64 (N : Int), .int .i32 rr] 76)) (.cells #[.func (.func 74) #[.pointer (some ⟨R, 0, none⟩)] #[]] 1)
         have HBA := hid hba
         have HFX := hid ((Bx.new (w5.setCell ⟨R, 2, none⟩ (.int .i64 (1 + (iv : Int)))) #[.string ⟨(formV (iv + 1)).toArray⟩, .int .i64 (N : Int), .int .i32 rr] 76).alloc (.cells #[.func (.func 74) #[.pointer (some ⟨R, 0, none⟩)] #[]] 1))
         have hFT := Bx.new ((w5.setCell ⟨R, 2, none⟩ (.int .i64 (1 + (iv : Int)))).alloc (.cells #[.string ⟨(formV (iv + 1)).toArray⟩, .int .i64 (N : Int), .int .i32 rr] 76)) #[.func (.func 74) #[.pointer (some ⟨R, 0, none⟩)] #[]] 1
         rw [show ((w5.setCell ⟨R, 2, none⟩ (.int .i64 (1 + (iv : Int)))).alloc (.cells #[.string ⟨(formV (iv + 1)).toArray⟩, .int .i64 (N : Int), .int .i32 rr] 76)).heap.size = w5.heap.size + 1 by simp [World.setCell]] at hFT
         have HFT := hid hFT
         have HF5 : Hid ((w5.setCell ⟨R, 2, none⟩ (.int .i64 (1 + (iv : Int)))).heap.size = w5.heap.size) := hid (by simp [World.setCell])
         have hcall := hid (fun W (hb : w5.heap.size + 1 < W.heap.size) (hv : W.cell? ⟨w5.heap.size + 1, 0, none⟩ = some (.func (.func 74) #[.pointer (some ⟨R, 0, none⟩)] #[])) => rd_rep N hN12 W (w5.heap.size + 1) (.func (.func 74) #[.pointer (some ⟨R, 0, none⟩)] #[]) hb hv rfl)
         clear hc5 hm5 hRD hwo hrp hg1 hg2 hg3 hset hba hFT hN hN12 hrr hiv hn6 hc6
         go_wp2_with fail
         refine (hcall.out _ HFT.out.2.2 (HFT.out.1 0)).mono ?_
         rintro e w7 ⟨rfl, hb7, hx7⟩
         have HB7 := hid (HBA.out.trans (hb7.mono HBA.out.size))
         have HC7 := hid (HSET.out.below HB7.out); have HM7 := hid (HSM.out.trans (Mv.of_below HB7.out)); have HG7 := hid (HGS.out.below HB7.out)
         have hfx7 := HFX.out.keep hb7
         rw [HF5.out] at hfx7
         have HRA : Hid (RdA R c6 w5.heap.size) := hid (HSET.out.new (by rw [HF5.out]; exact Nat.le_refl _))
         have hg7 := Nat.lt_of_lt_of_le (show w5.heap.size < w5.heap.size + 1 + 1 by omega) (show w5.heap.size + 1 + 1 ≤ w7.heap.size by have := hb7.size; simpa [World.setCell] using this)
         have HFX7 := hid hfx7; have hf2 := hfx7.1 2; have hf3 := hfx7.2.1 2
         rw [show (((w5.setCell ⟨R, 2, none⟩ (.int .i64 (1 + (iv : Int)))).alloc (.cells #[.string ⟨(formV (iv + 1)).toArray⟩, .int .i64 (N : Int), .int .i32 rr] 76)).alloc (.cells #[(.func (.func 74) #[.pointer (some ⟨R, 0, none⟩)] #[])] 1)).heap.size = w5.heap.size + 1 + 1 by simp [World.setCell]] at hx7
         have HX7 := hid hx7
         have HA7 : Hid (RdA R c6 (w5.heap.size + 1 + 1)) := hid (HSET.out.new (by rw [HF5.out]; omega))
         have hcase : (iv = 0 ∧ rr = 108) ∨ (iv = 2 ∧ rr = 118) ∨ (iv = 8 ∧ rr = 103) ∨ (iv = 7 ∧ rr = 109) ∨ (iv = 3 ∧ rr = 115) ∨ (iv = 6 ∧ rr = 116) ∨ ((iv = 1 ∨ iv = 4 ∨ iv = 5) ∧ rr = 0) := by
           have hiv := HIV.out; have hrr := HRR.out
           rcases (by omega : iv = 0 ∨ iv = 1 ∨ iv = 2 ∨ iv = 3 ∨ iv = 4 ∨ iv = 5 ∨ iv = 6 ∨ iv = 7 ∨ iv = 8) with rfl | rfl | rfl | rfl | rfl | rfl | rfl | rfl | rfl <;> simp [formR] at hrr <;> subst hrr <;> simp
         clear hb7 hx7 hfx7 hq1 hq2 hq3 hwk hwk2 h9 hc0 hf0 HRR
         have HC0 := hid (⟨HC7.out, HM7.out, HG7.out⟩ : _ ∧ _ ∧ _)
         clear hg7
         rcases hcase with ⟨hi0, rfl⟩ | ⟨hi0, rfl⟩ | ⟨hi0, rfl⟩ | ⟨hi0, rfl⟩ | ⟨hi0, rfl⟩ | ⟨hi0, rfl⟩ | ⟨hi0, rfl⟩
         · have HI0 := hid hi0
           clear hi0
           have hact : actsS (iv + 1) = List.replicate N 0 ++ [1] := by rw [HI0.out]; unfold actsS; rw [← HI0.out, HNN.out, HI0.out]; simp
           obtain ⟨cap, w8, hrun, hcap1, hcap2, hb8, hlt8, hcv, hcx⟩ := appF N HN12.out (w7.alloc (.cells #[(.func (.func 75) #[.pointer (some ⟨R, 0, none⟩)] #[])] 1)) (w5.heap.size + 1 + 1) w7.heap.size (.func (.func 74) #[.pointer (some ⟨R, 0, none⟩)] #[]) (.func (.func 75) #[.pointer (some ⟨R, 0, none⟩)] #[]) (HX7.out.alloc _) ((Bx.new w7 #[(.func (.func 75) #[.pointer (some ⟨R, 0, none⟩)] #[])] 1).1 0)
           rw [show (w7.alloc (.cells #[(.func (.func 75) #[.pointer (some ⟨R, 0, none⟩)] #[])] 1)).heap.size = w7.heap.size + 1 by simp] at hrun hlt8 hcv hcx
           have hbb := (belowA (Below.refl w7.heap.size w7) (.cells #[(.func (.func 75) #[.pointer (some ⟨R, 0, none⟩)] #[])] 1)).trans (hb8.mono (by simp))
           have HC8 := hid (HC7.out.below hbb); have HM8 := hid (HM7.out.trans (Mv.of_below hbb)); have HG8 := hid (HG7.out.below hbb); have HFX8 := hid (HFX7.out.keep hbb)
           have HROW := hid (actsRow1 1 hcap1 (by have := HN12.out; omega) hcv hcx); have HLT8 := hid hlt8
           have hf2 := HFX8.out.1 2; have HRUN := hid hrun
           clear hcap1 hcap2 hb8 hlt8 hcv hcx hbb hrun
           go_wp2_with (at_builtin; refine wpList_runB rfl _ _ 114 rfl rfl rfl HRUN.out ?_)
           refine (rd_does w8 HC8.out HG8.out (w7.heap.size + 1) 0 (N + 1) cap _ HROW.out (HC7.out.new (by omega)) HLT8.out (by have := HN12.out; omega) (by have := HN6.out; omega) (by have := HN6.out; omega)).mono ?_
           intro e w9 he
           rw [← hact] at he
           cases hdo : doesS (actsS (iv + 1)) n6 r with
           | error x =>
             rw [hdo] at he
             obtain ⟨rfl, hs⟩ := he
             refine ⟨rfl, ?_⟩
             show RdRes R s c w _ _ _ _
             rw [HY1.out x hdo]
             exact ⟨rfl, HM8.out.sameTrans hs⟩
           | ok unr =>
             obtain ⟨u, n9, r9⟩ := unr
             rw [hdo] at he
             obtain ⟨rfl, q9, c9, hc9, hm9⟩ := he
             have hkp := does_keep _ hdo
             have hal : (actsS (iv + 1)).length ≤ 3 := by rw [hact]; have := HN12.out; simp; omega
             have HC9 := hid hc9; have HM9 := hid (HM8.out.trans hm9); have HG9 := hid (HG8.out.mv HC8.out hm9.same); have HY9 := hid (HY2.out _ _ _ hdo)
             have HFX9 := hid (hm9.bx HFX8.out HRA.out)
             have hf2 := HFX9.out.1 2
             have HLN : Hid (n9.names.length ≤ 3 ∧ n9.vers.length ≤ 3 ∧ n9.bits = 0 ∧ n9.first = false) := hid (by have := HN6.out; exact ⟨by omega, by omega, by rw [hkp.1]; exact this.1, by rw [hkp.2.1]; exact this.2.1⟩)
             have HRB : Hid (w5.heap.size < w9.heap.size) := hid (HFX9.out.2.2)
             have HRC : Hid (RdA R c9 w5.heap.size) := hid (hm9.rda HRA.out HFX8.out.2.2)
             clear hc9 hm9 hkp hal hdo hact
             have HYN : Hid (Y = finR (.ok ((), n9, r9))) := hid (HY9.out.trans (by unfold restS; rw [if_neg (by have := HI0.out; omega), if_neg (by have := HI0.out; omega), if_neg (by have := HI0.out; omega), if_neg (by have := HI0.out; omega)]))
             go_wp2_with fail
             refine (rd_more _ HC9.out).mono ?_
             intro e wa he
             cases hmo : moreS r9 with
             | error x =>
               rw [hmo] at he
               obtain ⟨rfl, hs⟩ := he
               refine ⟨rfl, ?_⟩
               show RdRes R s c w _ _ _ _
               rw [HYN.out, finR_more hmo]
               exact ⟨rfl, HM9.out.sameTrans hs⟩
             | ok br =>
               obtain ⟨bb, ra⟩ := br
               rw [hmo] at he
               obtain ⟨rfl, qa, hca, hma⟩ := he
               have HCa := hid hca; have HMa := hid (HM9.out.trans hma); have HMO := hid hmo
               have c1 := hca.c1
               clear hca hma hmo
               cases bb
               · go_wp2_with fail
                 refine bodyPost_end (results_none rfl _ _ _) rfl ?_
                 show RdRes R s c w _ _ _ _
                 rw [HYN.out, finR_false HMO.out]
                 exact ⟨rfl, qa, _, HCa.out, HMa.out⟩
               · go_wp2_with fail
                 refine (rd_fail qa 220 _).mono ?_
                 rintro e wb ⟨rfl, rfl⟩
                 refine ⟨rfl, ?_⟩
                 show RdRes R s c w _ _ _ _
                 rw [HYN.out, finR_true HMO.out]
                 have := HCa.out.len
                 exact ⟨by rw [show s.length - ra.length = qa by omega], HMa.out.same⟩
         · have HI0 := hid hi0
           clear hi0
           have hact : actsS (iv + 1) = List.replicate N 0 ++ [2] := by rw [HI0.out]; unfold actsS; rw [← HI0.out, HNN.out, HI0.out]; simp
           obtain ⟨cap, w8, hrun, hcap1, hcap2, hb8, hlt8, hcv, hcx⟩ := appF N HN12.out (w7.alloc (.cells #[(.func (.func 76) #[.pointer (some ⟨R, 0, none⟩)] #[])] 1)) (w5.heap.size + 1 + 1) w7.heap.size (.func (.func 74) #[.pointer (some ⟨R, 0, none⟩)] #[]) (.func (.func 76) #[.pointer (some ⟨R, 0, none⟩)] #[]) (HX7.out.alloc _) ((Bx.new w7 #[(.func (.func 76) #[.pointer (some ⟨R, 0, none⟩)] #[])] 1).1 0)
           rw [show (w7.alloc (.cells #[(.func (.func 76) #[.pointer (some ⟨R, 0, none⟩)] #[])] 1)).heap.size = w7.heap.size + 1 by simp] at hrun hlt8 hcv hcx
           have hbb := (belowA (Below.refl w7.heap.size w7) (.cells #[(.func (.func 76) #[.pointer (some ⟨R, 0, none⟩)] #[])] 1)).trans (hb8.mono (by simp))
           have HC8 := hid (HC7.out.below hbb); have HM8 := hid (HM7.out.trans (Mv.of_below hbb)); have HG8 := hid (HG7.out.below hbb); have HFX8 := hid (HFX7.out.keep hbb)
           have HROW := hid (actsRow1 2 hcap1 (by have := HN12.out; omega) hcv hcx); have HLT8 := hid hlt8
           have hf2 := HFX8.out.1 2; have HRUN := hid hrun
           clear hcap1 hcap2 hb8 hlt8 hcv hcx hbb hrun
           go_wp2_with (at_builtin; refine wpList_runB rfl _ _ 114 rfl rfl rfl HRUN.out ?_)
           refine (rd_does w8 HC8.out HG8.out (w7.heap.size + 1) 0 (N + 1) cap _ HROW.out (HC7.out.new (by omega)) HLT8.out (by have := HN12.out; omega) (by have := HN6.out; omega) (by have := HN6.out; omega)).mono ?_
           intro e w9 he
           rw [← hact] at he
           cases hdo : doesS (actsS (iv + 1)) n6 r with
           | error x =>
             rw [hdo] at he
             obtain ⟨rfl, hs⟩ := he
             refine ⟨rfl, ?_⟩
             show RdRes R s c w _ _ _ _
             rw [HY1.out x hdo]
             exact ⟨rfl, HM8.out.sameTrans hs⟩
           | ok unr =>
             obtain ⟨u, n9, r9⟩ := unr
             rw [hdo] at he
             obtain ⟨rfl, q9, c9, hc9, hm9⟩ := he
             have hkp := does_keep _ hdo
             have hal : (actsS (iv + 1)).length ≤ 3 := by rw [hact]; have := HN12.out; simp; omega
             have HC9 := hid hc9; have HM9 := hid (HM8.out.trans hm9); have HG9 := hid (HG8.out.mv HC8.out hm9.same); have HY9 := hid (HY2.out _ _ _ hdo)
             have HFX9 := hid (hm9.bx HFX8.out HRA.out)
             have hf2 := HFX9.out.1 2
             have HLN : Hid (n9.names.length ≤ 3 ∧ n9.vers.length ≤ 3 ∧ n9.bits = 0 ∧ n9.first = false) := hid (by have := HN6.out; exact ⟨by omega, by omega, by rw [hkp.1]; exact this.1, by rw [hkp.2.1]; exact this.2.1⟩)
             have HRB : Hid (w5.heap.size < w9.heap.size) := hid (HFX9.out.2.2)
             have HRC : Hid (RdA R c9 w5.heap.size) := hid (hm9.rda HRA.out HFX8.out.2.2)
             clear hc9 hm9 hkp hal hdo hact
             have HYN : Hid (Y = finR (.ok ((), n9, r9))) := hid (HY9.out.trans (by unfold restS; rw [if_neg (by have := HI0.out; omega), if_neg (by have := HI0.out; omega), if_neg (by have := HI0.out; omega), if_neg (by have := HI0.out; omega)]))
             go_wp2_with fail
             refine (rd_more _ HC9.out).mono ?_
             intro e wa he
             cases hmo : moreS r9 with
             | error x =>
               rw [hmo] at he
               obtain ⟨rfl, hs⟩ := he
               refine ⟨rfl, ?_⟩
               show RdRes R s c w _ _ _ _
               rw [HYN.out, finR_more hmo]
               exact ⟨rfl, HM9.out.sameTrans hs⟩
             | ok br =>
               obtain ⟨bb, ra⟩ := br
               rw [hmo] at he
               obtain ⟨rfl, qa, hca, hma⟩ := he
               have HCa := hid hca; have HMa := hid (HM9.out.trans hma); have HMO := hid hmo
               have c1 := hca.c1
               clear hca hma hmo
               cases bb
               · go_wp2_with fail
                 refine bodyPost_end (results_none rfl _ _ _) rfl ?_
                 show RdRes R s c w _ _ _ _
                 rw [HYN.out, finR_false HMO.out]
                 exact ⟨rfl, qa, _, HCa.out, HMa.out⟩
               · go_wp2_with fail
                 refine (rd_fail qa 220 _).mono ?_
                 rintro e wb ⟨rfl, rfl⟩
                 refine ⟨rfl, ?_⟩
                 show RdRes R s c w _ _ _ _
                 rw [HYN.out, finR_true HMO.out]
                 have := HCa.out.len
                 exact ⟨by rw [show s.length - ra.length = qa by omega], HMa.out.same⟩
         · have HI0 := hid hi0
           clear hi0
           have hact : actsS (iv + 1) = List.replicate N 0 := by unfold actsS; rw [HNN.out, if_neg (by have := HI0.out; omega), if_neg (by have := HI0.out; omega)]; simp
           have HC8 := hid HC7.out; have HM8 := hid HM7.out; have HG8 := hid HG7.out; have HFX8 := hid HFX7.out
           have HROW := hid (actsRow0 (R := R) (by have := HN12.out; omega) HX7.out)
           go_wp2_with fail
           refine (rd_does w7 HC8.out HG8.out (w5.heap.size + 1 + 1) 0 N N _ HROW.out HA7.out HX7.out.2.2 (by have := HN12.out; omega) (by have := HN6.out; omega) (by have := HN6.out; omega)).mono ?_
           intro e w9 he
           rw [← hact] at he
           cases hdo : doesS (actsS (iv + 1)) n6 r with
           | error x =>
             rw [hdo] at he
             obtain ⟨rfl, hs⟩ := he
             refine ⟨rfl, ?_⟩
             show RdRes R s c w _ _ _ _
             rw [HY1.out x hdo]
             exact ⟨rfl, HM8.out.sameTrans hs⟩
           | ok unr =>
             obtain ⟨u, n9, r9⟩ := unr
             rw [hdo] at he
             obtain ⟨rfl, q9, c9, hc9, hm9⟩ := he
             have hkp := does_keep _ hdo
             have hal : (actsS (iv + 1)).length ≤ 3 := by rw [hact]; have := HN12.out; simp; omega
             have HC9 := hid hc9; have HM9 := hid (HM8.out.trans hm9); have HG9 := hid (HG8.out.mv HC8.out hm9.same); have HY9 := hid (HY2.out _ _ _ hdo)
             have HFX9 := hid (hm9.bx HFX8.out HRA.out)
             have hf2 := HFX9.out.1 2
             have HLN : Hid (n9.names.length ≤ 3 ∧ n9.vers.length ≤ 3 ∧ n9.bits = 0 ∧ n9.first = false) := hid (by have := HN6.out; exact ⟨by omega, by omega, by rw [hkp.1]; exact this.1, by rw [hkp.2.1]; exact this.2.1⟩)
             have HRB : Hid (w5.heap.size < w9.heap.size) := hid (HFX9.out.2.2)
             have HRC : Hid (RdA R c9 w5.heap.size) := hid (hm9.rda HRA.out HFX8.out.2.2)
             clear hc9 hm9 hkp hal hdo hact
             have hrs : restS (iv + 1) n9 r9 = (match guarS 5 0 0 r9 with | .error x => .error x | .ok (b, r) => .ok ((), { n9 with bits := b }, r)) := by unfold restS; rw [if_pos (by have := HI0.out; omega)]; rfl
             go_wp2_with fail
             refine (rd_guarantees _ HC9.out HG9.out HLN.out.2.2.1).mono ?_
             intro e w10 he
             have he : RdRes R s c9 w9 (fun _ : Unit => .tuple #[]) (restS (iv + 1) n9 r9) e w10 := by rw [hrs]; exact he
             cases hre : restS (iv + 1) n9 r9 with
             | error x =>
               rw [hre] at he
               obtain ⟨rfl, hs⟩ := he
               refine ⟨rfl, ?_⟩
               show RdRes R s c w _ _ _ _
               rw [HY9.out, hre, finR_error]
               exact ⟨rfl, HM9.out.sameTrans hs⟩
             | ok unr =>
               obtain ⟨u, na, r10⟩ := unr
               rw [hre] at he
               obtain ⟨rfl, q10, c10, hc10, hm10⟩ := he
               have HC10 := hid hc10; have HM10 := hid (HM9.out.trans hm10)
               have HYN : Hid (Y = finR (.ok (u, na, r10))) := hid (by rw [HY9.out, hre])
               clear hc10 hm10 hre hrs
               go_wp2_with fail
               refine (rd_more _ HC10.out).mono ?_
               intro e wa he
               cases hmo : moreS r10 with
               | error x =>
                 rw [hmo] at he
                 obtain ⟨rfl, hs⟩ := he
                 refine ⟨rfl, ?_⟩
                 show RdRes R s c w _ _ _ _
                 rw [HYN.out, finR_more hmo]
                 exact ⟨rfl, HM10.out.sameTrans hs⟩
               | ok br =>
                 obtain ⟨bb, ra⟩ := br
                 rw [hmo] at he
                 obtain ⟨rfl, qa, hca, hma⟩ := he
                 have HCa := hid hca; have HMa := hid (HM10.out.trans hma); have HMO := hid hmo
                 have c1 := hca.c1
                 clear hca hma hmo
                 cases bb
                 · go_wp2_with fail
                   refine bodyPost_end (results_none rfl _ _ _) rfl ?_
                   show RdRes R s c w _ _ _ _
                   rw [HYN.out, finR_false HMO.out]
                   exact ⟨rfl, qa, _, HCa.out, HMa.out⟩
                 · go_wp2_with fail
                   refine (rd_fail qa 220 _).mono ?_
                   rintro e wb ⟨rfl, rfl⟩
                   refine ⟨rfl, ?_⟩
                   show RdRes R s c w _ _ _ _
                   rw [HYN.out, finR_true HMO.out]
                   have := HCa.out.len
                   exact ⟨by rw [show s.length - ra.length = qa by omega], HMa.out.same⟩
         · have HI0 := hid hi0
           clear hi0
           have hact : actsS (iv + 1) = List.replicate N 0 := by unfold actsS; rw [HNN.out, if_neg (by have := HI0.out; omega), if_neg (by have := HI0.out; omega)]; simp
           have HC8 := hid HC7.out; have HM8 := hid HM7.out; have HG8 := hid HG7.out; have HFX8 := hid HFX7.out
           have HROW := hid (actsRow0 (R := R) (by have := HN12.out; omega) HX7.out)
           go_wp2_with fail
           refine (rd_does w7 HC8.out HG8.out (w5.heap.size + 1 + 1) 0 N N _ HROW.out HA7.out HX7.out.2.2 (by have := HN12.out; omega) (by have := HN6.out; omega) (by have := HN6.out; omega)).mono ?_
           intro e w9 he
           rw [← hact] at he
           cases hdo : doesS (actsS (iv + 1)) n6 r with
           | error x =>
             rw [hdo] at he
             obtain ⟨rfl, hs⟩ := he
             refine ⟨rfl, ?_⟩
             show RdRes R s c w _ _ _ _
             rw [HY1.out x hdo]
             exact ⟨rfl, HM8.out.sameTrans hs⟩
           | ok unr =>
             obtain ⟨u, n9, r9⟩ := unr
             rw [hdo] at he
             obtain ⟨rfl, q9, c9, hc9, hm9⟩ := he
             have hkp := does_keep _ hdo
             have hal : (actsS (iv + 1)).length ≤ 3 := by rw [hact]; have := HN12.out; simp; omega
             have HC9 := hid hc9; have HM9 := hid (HM8.out.trans hm9); have HG9 := hid (HG8.out.mv HC8.out hm9.same); have HY9 := hid (HY2.out _ _ _ hdo)
             have HFX9 := hid (hm9.bx HFX8.out HRA.out)
             have hf2 := HFX9.out.1 2
             have HLN : Hid (n9.names.length ≤ 3 ∧ n9.vers.length ≤ 3 ∧ n9.bits = 0 ∧ n9.first = false) := hid (by have := HN6.out; exact ⟨by omega, by omega, by rw [hkp.1]; exact this.1, by rw [hkp.2.1]; exact this.2.1⟩)
             have HRB : Hid (w5.heap.size < w9.heap.size) := hid (HFX9.out.2.2)
             have HRC : Hid (RdA R c9 w5.heap.size) := hid (hm9.rda HRA.out HFX8.out.2.2)
             clear hc9 hm9 hkp hal hdo hact
             go_wp2_with fail
             refine (rd_first _ HC9.out HLN.out.2.2.2).mono ?_
             intro e wf he
             cases hfi : firstS r9 with
             | error x =>
               rw [hfi] at he
               obtain ⟨rfl, hs⟩ := he
               refine ⟨rfl, ?_⟩
               show RdRes R s c w _ _ _ _
               rw [HY9.out, show restS (iv + 1) n9 r9 = .error x by unfold restS; rw [if_neg (by have := HI0.out; omega), if_pos (by have := HI0.out; omega), hfi], finR_error]
               exact ⟨rfl, HM9.out.sameTrans hs⟩
             | ok fr =>
               obtain ⟨f, rf⟩ := fr
               rw [hfi] at he
               obtain ⟨rfl, qf, cf, hcf, hmf⟩ := he
               have HCf := hid hcf; have HMf := hid (HM9.out.trans hmf); have HGf := hid (HG9.out.mv HC9.out hmf.same)
               have HFXf := hid (hmf.bx HFX9.out HRC.out)
               have hf2 := HFXf.out.1 2
               have hrs : restS (iv + 1) n9 r9 = (match othersS false 300 (300 + 1) 0 { n9 with first := f }.names { n9 with first := f }.vers rf with | .error x => .error x | .ok (b, r) => .ok ((), { { n9 with first := f } with names := b.1, vers := b.2 }, r)) := by unfold restS; rw [if_neg (by have := HI0.out; omega), if_pos (by have := HI0.out; omega), hfi]; rfl
               clear hcf hmf hfi
               go_wp2_with fail
               refine (rd_others _ HCf.out HGf.out 109 300 false (by rfl) (by rfl) (by decide) (by have := HLN.out; show n9.names.length ≤ 600; omega) (by have := HLN.out; show n9.vers.length ≤ 600; omega)).mono ?_
               intro e w10 he
               have he : RdRes R s cf wf (fun _ : Unit => .tuple #[]) (restS (iv + 1) n9 r9) e w10 := by rw [hrs]; exact he
               have HM9 := hid HMf.out
               cases hre : restS (iv + 1) n9 r9 with
               | error x =>
                 rw [hre] at he
                 obtain ⟨rfl, hs⟩ := he
                 refine ⟨rfl, ?_⟩
                 show RdRes R s c w _ _ _ _
                 rw [HY9.out, hre, finR_error]
                 exact ⟨rfl, HM9.out.sameTrans hs⟩
               | ok unr =>
                 obtain ⟨u, na, r10⟩ := unr
                 rw [hre] at he
                 obtain ⟨rfl, q10, c10, hc10, hm10⟩ := he
                 have HC10 := hid hc10; have HM10 := hid (HM9.out.trans hm10)
                 have HYN : Hid (Y = finR (.ok (u, na, r10))) := hid (by rw [HY9.out, hre])
                 clear hc10 hm10 hre hrs
                 go_wp2_with fail
                 refine (rd_more _ HC10.out).mono ?_
                 intro e wa he
                 cases hmo : moreS r10 with
                 | error x =>
                   rw [hmo] at he
                   obtain ⟨rfl, hs⟩ := he
                   refine ⟨rfl, ?_⟩
                   show RdRes R s c w _ _ _ _
                   rw [HYN.out, finR_more hmo]
                   exact ⟨rfl, HM10.out.sameTrans hs⟩
                 | ok br =>
                   obtain ⟨bb, ra⟩ := br
                   rw [hmo] at he
                   obtain ⟨rfl, qa, hca, hma⟩ := he
                   have HCa := hid hca; have HMa := hid (HM10.out.trans hma); have HMO := hid hmo
                   have c1 := hca.c1
                   clear hca hma hmo
                   cases bb
                   · go_wp2_with fail
                     refine bodyPost_end (results_none rfl _ _ _) rfl ?_
                     show RdRes R s c w _ _ _ _
                     rw [HYN.out, finR_false HMO.out]
                     exact ⟨rfl, qa, _, HCa.out, HMa.out⟩
                   · go_wp2_with fail
                     refine (rd_fail qa 220 _).mono ?_
                     rintro e wb ⟨rfl, rfl⟩
                     refine ⟨rfl, ?_⟩
                     show RdRes R s c w _ _ _ _
                     rw [HYN.out, finR_true HMO.out]
                     have := HCa.out.len
                     exact ⟨by rw [show s.length - ra.length = qa by omega], HMa.out.same⟩
         · have HI0 := hid hi0
           clear hi0
           have hact : actsS (iv + 1) = List.replicate N 0 := by unfold actsS; rw [HNN.out, if_neg (by have := HI0.out; omega), if_neg (by have := HI0.out; omega)]; simp
           have HC8 := hid HC7.out; have HM8 := hid HM7.out; have HG8 := hid HG7.out; have HFX8 := hid HFX7.out
           have HROW := hid (actsRow0 (R := R) (by have := HN12.out; omega) HX7.out)
           go_wp2_with fail
           refine (rd_does w7 HC8.out HG8.out (w5.heap.size + 1 + 1) 0 N N _ HROW.out HA7.out HX7.out.2.2 (by have := HN12.out; omega) (by have := HN6.out; omega) (by have := HN6.out; omega)).mono ?_
           intro e w9 he
           rw [← hact] at he
           cases hdo : doesS (actsS (iv + 1)) n6 r with
           | error x =>
             rw [hdo] at he
             obtain ⟨rfl, hs⟩ := he
             refine ⟨rfl, ?_⟩
             show RdRes R s c w _ _ _ _
             rw [HY1.out x hdo]
             exact ⟨rfl, HM8.out.sameTrans hs⟩
           | ok unr =>
             obtain ⟨u, n9, r9⟩ := unr
             rw [hdo] at he
             obtain ⟨rfl, q9, c9, hc9, hm9⟩ := he
             have hkp := does_keep _ hdo
             have hal : (actsS (iv + 1)).length ≤ 3 := by rw [hact]; have := HN12.out; simp; omega
             have HC9 := hid hc9; have HM9 := hid (HM8.out.trans hm9); have HG9 := hid (HG8.out.mv HC8.out hm9.same); have HY9 := hid (HY2.out _ _ _ hdo)
             have HFX9 := hid (hm9.bx HFX8.out HRA.out)
             have hf2 := HFX9.out.1 2
             have HLN : Hid (n9.names.length ≤ 3 ∧ n9.vers.length ≤ 3 ∧ n9.bits = 0 ∧ n9.first = false) := hid (by have := HN6.out; exact ⟨by omega, by omega, by rw [hkp.1]; exact this.1, by rw [hkp.2.1]; exact this.2.1⟩)
             have HRB : Hid (w5.heap.size < w9.heap.size) := hid (HFX9.out.2.2)
             have HRC : Hid (RdA R c9 w5.heap.size) := hid (hm9.rda HRA.out HFX8.out.2.2)
             clear hc9 hm9 hkp hal hdo hact
             have hrs : restS (iv + 1) n9 r9 = (match othersS true 40 (40 + 1) 0 n9.names n9.vers r9 with | .error x => .error x | .ok (b, r) => .ok ((), { n9 with names := b.1, vers := b.2 }, r)) := by unfold restS; rw [if_neg (by have := HI0.out; omega), if_neg (by have := HI0.out; omega), if_pos (by have := HI0.out; omega)]; rfl
             go_wp2_with fail
             refine (rd_others _ HC9.out HG9.out 115 40 true (by rfl) (by rfl) (by decide) (by have := HLN.out; omega) (by have := HLN.out; omega)).mono ?_
             intro e w10 he
             have he : RdRes R s c9 w9 (fun _ : Unit => .tuple #[]) (restS (iv + 1) n9 r9) e w10 := by rw [hrs]; exact he
             cases hre : restS (iv + 1) n9 r9 with
             | error x =>
               rw [hre] at he
               obtain ⟨rfl, hs⟩ := he
               refine ⟨rfl, ?_⟩
               show RdRes R s c w _ _ _ _
               rw [HY9.out, hre, finR_error]
               exact ⟨rfl, HM9.out.sameTrans hs⟩
             | ok unr =>
               obtain ⟨u, na, r10⟩ := unr
               rw [hre] at he
               obtain ⟨rfl, q10, c10, hc10, hm10⟩ := he
               have HC10 := hid hc10; have HM10 := hid (HM9.out.trans hm10)
               have HYN : Hid (Y = finR (.ok (u, na, r10))) := hid (by rw [HY9.out, hre])
               clear hc10 hm10 hre hrs
               go_wp2_with fail
               refine (rd_more _ HC10.out).mono ?_
               intro e wa he
               cases hmo : moreS r10 with
               | error x =>
                 rw [hmo] at he
                 obtain ⟨rfl, hs⟩ := he
                 refine ⟨rfl, ?_⟩
                 show RdRes R s c w _ _ _ _
                 rw [HYN.out, finR_more hmo]
                 exact ⟨rfl, HM10.out.sameTrans hs⟩
               | ok br =>
                 obtain ⟨bb, ra⟩ := br
                 rw [hmo] at he
                 obtain ⟨rfl, qa, hca, hma⟩ := he
                 have HCa := hid hca; have HMa := hid (HM10.out.trans hma); have HMO := hid hmo
                 have c1 := hca.c1
                 clear hca hma hmo
                 cases bb
                 · go_wp2_with fail
                   refine bodyPost_end (results_none rfl _ _ _) rfl ?_
                   show RdRes R s c w _ _ _ _
                   rw [HYN.out, finR_false HMO.out]
                   exact ⟨rfl, qa, _, HCa.out, HMa.out⟩
                 · go_wp2_with fail
                   refine (rd_fail qa 220 _).mono ?_
                   rintro e wb ⟨rfl, rfl⟩
                   refine ⟨rfl, ?_⟩
                   show RdRes R s c w _ _ _ _
                   rw [HYN.out, finR_true HMO.out]
                   have := HCa.out.len
                   exact ⟨by rw [show s.length - ra.length = qa by omega], HMa.out.same⟩
         · have HI0 := hid hi0
           clear hi0
           have hact : actsS (iv + 1) = List.replicate N 0 := by unfold actsS; rw [HNN.out, if_neg (by have := HI0.out; omega), if_neg (by have := HI0.out; omega)]; simp
           have HC8 := hid HC7.out; have HM8 := hid HM7.out; have HG8 := hid HG7.out; have HFX8 := hid HFX7.out
           have HROW := hid (actsRow0 (R := R) (by have := HN12.out; omega) HX7.out)
           go_wp2_with fail
           refine (rd_does w7 HC8.out HG8.out (w5.heap.size + 1 + 1) 0 N N _ HROW.out HA7.out HX7.out.2.2 (by have := HN12.out; omega) (by have := HN6.out; omega) (by have := HN6.out; omega)).mono ?_
           intro e w9 he
           rw [← hact] at he
           cases hdo : doesS (actsS (iv + 1)) n6 r with
           | error x =>
             rw [hdo] at he
             obtain ⟨rfl, hs⟩ := he
             refine ⟨rfl, ?_⟩
             show RdRes R s c w _ _ _ _
             rw [HY1.out x hdo]
             exact ⟨rfl, HM8.out.sameTrans hs⟩
           | ok unr =>
             obtain ⟨u, n9, r9⟩ := unr
             rw [hdo] at he
             obtain ⟨rfl, q9, c9, hc9, hm9⟩ := he
             have hkp := does_keep _ hdo
             have hal : (actsS (iv + 1)).length ≤ 3 := by rw [hact]; have := HN12.out; simp; omega
             have HC9 := hid hc9; have HM9 := hid (HM8.out.trans hm9); have HG9 := hid (HG8.out.mv HC8.out hm9.same); have HY9 := hid (HY2.out _ _ _ hdo)
             have HFX9 := hid (hm9.bx HFX8.out HRA.out)
             have hf2 := HFX9.out.1 2
             have HLN : Hid (n9.names.length ≤ 3 ∧ n9.vers.length ≤ 3 ∧ n9.bits = 0 ∧ n9.first = false) := hid (by have := HN6.out; exact ⟨by omega, by omega, by rw [hkp.1]; exact this.1, by rw [hkp.2.1]; exact this.2.1⟩)
             have HRB : Hid (w5.heap.size < w9.heap.size) := hid (HFX9.out.2.2)
             have HRC : Hid (RdA R c9 w5.heap.size) := hid (hm9.rda HRA.out HFX8.out.2.2)
             clear hc9 hm9 hkp hal hdo hact
             have hrs : restS (iv + 1) n9 r9 = (match othersS false 300 (300 + 1) 0 n9.names n9.vers r9 with | .error x => .error x | .ok (b, r) => .ok ((), { n9 with names := b.1, vers := b.2 }, r)) := by unfold restS; rw [if_neg (by have := HI0.out; omega), if_neg (by have := HI0.out; omega), if_neg (by have := HI0.out; omega), if_pos (by have := HI0.out; omega)]; rfl
             go_wp2_with fail
             refine (rd_others _ HC9.out HG9.out 116 300 false (by rfl) (by rfl) (by decide) (by have := HLN.out; omega) (by have := HLN.out; omega)).mono ?_
             intro e w10 he
             have he : RdRes R s c9 w9 (fun _ : Unit => .tuple #[]) (restS (iv + 1) n9 r9) e w10 := by rw [hrs]; exact he
             cases hre : restS (iv + 1) n9 r9 with
             | error x =>
               rw [hre] at he
               obtain ⟨rfl, hs⟩ := he
               refine ⟨rfl, ?_⟩
               show RdRes R s c w _ _ _ _
               rw [HY9.out, hre, finR_error]
               exact ⟨rfl, HM9.out.sameTrans hs⟩
             | ok unr =>
               obtain ⟨u, na, r10⟩ := unr
               rw [hre] at he
               obtain ⟨rfl, q10, c10, hc10, hm10⟩ := he
               have HC10 := hid hc10; have HM10 := hid (HM9.out.trans hm10)
               have HYN : Hid (Y = finR (.ok (u, na, r10))) := hid (by rw [HY9.out, hre])
               clear hc10 hm10 hre hrs
               go_wp2_with fail
               refine (rd_more _ HC10.out).mono ?_
               intro e wa he
               cases hmo : moreS r10 with
               | error x =>
                 rw [hmo] at he
                 obtain ⟨rfl, hs⟩ := he
                 refine ⟨rfl, ?_⟩
                 show RdRes R s c w _ _ _ _
                 rw [HYN.out, finR_more hmo]
                 exact ⟨rfl, HM10.out.sameTrans hs⟩
               | ok br =>
                 obtain ⟨bb, ra⟩ := br
                 rw [hmo] at he
                 obtain ⟨rfl, qa, hca, hma⟩ := he
                 have HCa := hid hca; have HMa := hid (HM10.out.trans hma); have HMO := hid hmo
                 have c1 := hca.c1
                 clear hca hma hmo
                 cases bb
                 · go_wp2_with fail
                   refine bodyPost_end (results_none rfl _ _ _) rfl ?_
                   show RdRes R s c w _ _ _ _
                   rw [HYN.out, finR_false HMO.out]
                   exact ⟨rfl, qa, _, HCa.out, HMa.out⟩
                 · go_wp2_with fail
                   refine (rd_fail qa 220 _).mono ?_
                   rintro e wb ⟨rfl, rfl⟩
                   refine ⟨rfl, ?_⟩
                   show RdRes R s c w _ _ _ _
                   rw [HYN.out, finR_true HMO.out]
                   have := HCa.out.len
                   exact ⟨by rw [show s.length - ra.length = qa by omega], HMa.out.same⟩
         · have HI0 := hid hi0
           clear hi0
           have hact : actsS (iv + 1) = List.replicate N 0 := by unfold actsS; rw [HNN.out, if_neg (by have := HI0.out; omega), if_neg (by have := HI0.out; omega)]; simp
           have HC8 := hid HC7.out; have HM8 := hid HM7.out; have HG8 := hid HG7.out; have HFX8 := hid HFX7.out
           have HROW := hid (actsRow0 (R := R) (by have := HN12.out; omega) HX7.out)
           go_wp2_with fail
           refine (rd_does w7 HC8.out HG8.out (w5.heap.size + 1 + 1) 0 N N _ HROW.out HA7.out HX7.out.2.2 (by have := HN12.out; omega) (by have := HN6.out; omega) (by have := HN6.out; omega)).mono ?_
           intro e w9 he
           rw [← hact] at he
           cases hdo : doesS (actsS (iv + 1)) n6 r with
           | error x =>
             rw [hdo] at he
             obtain ⟨rfl, hs⟩ := he
             refine ⟨rfl, ?_⟩
             show RdRes R s c w _ _ _ _
             rw [HY1.out x hdo]
             exact ⟨rfl, HM8.out.sameTrans hs⟩
           | ok unr =>
             obtain ⟨u, n9, r9⟩ := unr
             rw [hdo] at he
             obtain ⟨rfl, q9, c9, hc9, hm9⟩ := he
             have hkp := does_keep _ hdo
             have hal : (actsS (iv + 1)).length ≤ 3 := by rw [hact]; have := HN12.out; simp; omega
             have HC9 := hid hc9; have HM9 := hid (HM8.out.trans hm9); have HG9 := hid (HG8.out.mv HC8.out hm9.same); have HY9 := hid (HY2.out _ _ _ hdo)
             have HFX9 := hid (hm9.bx HFX8.out HRA.out)
             have hf2 := HFX9.out.1 2
             have HLN : Hid (n9.names.length ≤ 3 ∧ n9.vers.length ≤ 3 ∧ n9.bits = 0 ∧ n9.first = false) := hid (by have := HN6.out; exact ⟨by omega, by omega, by rw [hkp.1]; exact this.1, by rw [hkp.2.1]; exact this.2.1⟩)
             have HRB : Hid (w5.heap.size < w9.heap.size) := hid (HFX9.out.2.2)
             have HRC : Hid (RdA R c9 w5.heap.size) := hid (hm9.rda HRA.out HFX8.out.2.2)
             clear hc9 hm9 hkp hal hdo hact
             have HYN : Hid (Y = finR (.ok ((), n9, r9))) := hid (HY9.out.trans (by unfold restS; rw [if_neg (by have := HI0.out; omega), if_neg (by have := HI0.out; omega), if_neg (by have := HI0.out; omega), if_neg (by have := HI0.out; omega)]))
             go_wp2_with fail
             refine (rd_more _ HC9.out).mono ?_
             intro e wa he
             cases hmo : moreS r9 with
             | error x =>
               rw [hmo] at he
               obtain ⟨rfl, hs⟩ := he
               refine ⟨rfl, ?_⟩
               show RdRes R s c w _ _ _ _
               rw [HYN.out, finR_more hmo]
               exact ⟨rfl, HM9.out.sameTrans hs⟩
             | ok br =>
               obtain ⟨bb, ra⟩ := br
               rw [hmo] at he
               obtain ⟨rfl, qa, hca, hma⟩ := he
               have HCa := hid hca; have HMa := hid (HM9.out.trans hma); have HMO := hid hmo
               have c1 := hca.c1
               clear hca hma hmo
               cases bb
               · go_wp2_with fail
                 refine bodyPost_end (results_none rfl _ _ _) rfl ?_
                 show RdRes R s c w _ _ _ _
                 rw [HYN.out, finR_false HMO.out]
                 exact ⟨rfl, qa, _, HCa.out, HMa.out⟩
               · go_wp2_with fail
                 refine (rd_fail qa 220 _).mono ?_
                 rintro e wb ⟨rfl, rfl⟩
                 refine ⟨rfl, ?_⟩
                 show RdRes R s c w _ _ _ _
                 rw [HYN.out, finR_true HMO.out]
                 have := HCa.out.len
                 exact ⟨by rw [show s.length - ra.length = qa by omega], HMa.out.same⟩
 · go_wp2_with fail
   refine bodyPost_end (results_none rfl _ _ _) rfl ?_
   show RdRes R s c w _ _ _ _
   rw [HY.out]
   unfold readS
   rw [if_pos hE]
   exact ⟨rfl, q, c, HT3.out, HM3.out⟩
end Yd
