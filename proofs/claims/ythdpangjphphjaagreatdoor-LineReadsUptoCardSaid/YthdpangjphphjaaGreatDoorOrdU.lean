import Derived.Test.YthdpangjphphjaaGreatDoorCu10
import Derived.Test.YthdpangjphphjaaGreatDoorProg
import Derived.Test.YthdpangjphphjaaGreatDoorCheck
set_option maxRecDepth 200000
set_option maxHeartbeats 8000000
namespace Yd
open Go Go.RowKit Go.Proofs

def RetBad (w : World) (e : Ending) (w' : World) : Prop := ∃ (k a : Int) (t : Bs) (g : Bool) (nx er : Int), e = .returned (.tuple #[.agg (cellsTk k a t g), .int .i64 nx, .int .i64 er]) ∧ (er ≠ 0 ∨ k ≠ 1) ∧ Below w.heap.size w w'
theorem nx_digit (s : Bs) (p : Nat) (b : UInt8) (t : Bs) (hd : s.drop p = b :: t) (hp : p ≤ s.length) (hlim : s.length ≤ 1000000) (hbl : blB b = false) (hen : endsS (b :: t) = false) (hb1 : 48 ≤ b.toNat) (hb2 : b.toNat ≤ 57) (w : World) :
   Calls Tryz.prog 35 #[.string ⟨s.toArray⟩, .int .i64 (p : Int)] w (RetBad w) := by
 have hz := bsz s
 have hpb : p ≤ 1000000 := by omega
 have hll : p + (b :: t).length = s.length := by rw [← hd, List.length_drop]; omega
 have hlt : p < s.length := by simp at hll; omega
 have hne : ((p : Int) == (s.length : Int)) = false := beq_eq_false_iff_ne.2 (by omega)
 have hne2 : (p == s.length) = false := beq_eq_false_iff_ne.2 (by omega)
 have hsl := fun W => run_sl Tryz.underlying9 s p hp W
 rw [hd] at hsl
 have HF := hid (fun W => first_at s (b :: t) W (by simp))
 obtain ⟨k32, k9, k10, k35⟩ := head_no hbl hen
 have HSK := hid (fun W => r_skip_no s p b t hd hp hlim k10 k32 k9 k35 W)
 have hc10 : (hdR (b :: t) == 10) = false := by
   have := hd_is b t 10 (by omega)
   exact beq_eq_false_iff_ne.2 (fun e => k10 (this.1 e))
 have hcb : hdR (b :: t) = (b.toNat : Int) := (hd_lo t (by omega)).1
 have hnu : numB (hdR (b :: t)) = true := by rw [hcb]; unfold numB; simp; omega
 have h46 : (hdR (b :: t) == 46) = false := by rw [hcb]; exact beq_eq_false_iff_ne.2 (by omega)
 have h45 : (hdR (b :: t) == 45) = false := by rw [hcb]; exact beq_eq_false_iff_ne.2 (by omega)
 clear hcb
 obtain ⟨c, hc⟩ : ∃ c, c = hdR (b :: t) := ⟨_, rfl⟩
 obtain ⟨n, hn⟩ : ∃ n, n = hdN (b :: t) := ⟨_, rfl⟩
 rw [← hc, ← hn] at HF
 rw [← hc] at hc10 h46 h45 hnu
 have HDG := hid (fun W => ref_digit c W)
 rw [hnu] at HDG
 have HN := hid (fun W => r_number s p b t hd hp hlim hb1 hb2 W)
 clear hll hd hc hn hnu hen hbl k32 k9 k10 k35 hb1 hb2
 · skip
   rcases glued_cases s p hp with ⟨hdp, hdp2⟩ | ⟨b0, hdp, hdp2, hi1, h32, h32'⟩ | ⟨b0, hdp, hdp2, hi1, h32, h32', h9, h9'⟩ | ⟨b0, hdp, hdp2, hi1, h32, h32', h9, h9', h10b, h10b'⟩ | ⟨b0, hdp, hdp2, hi1, h32, h32', h9, h9', h10b, h10b'⟩
   rotate_right 1
   · skip
     go_enter Tryz.func35, Tryz.ntmps35
     go_wp2_with fail
     refine (HSK.out _).mono ?_
     rintro e w1 ⟨rfl, hb1⟩
     have HB1 := hid ((belowA (Below.refl w.heap.size w) (.cells (cellsTk 0 0 [] false) 56)).trans (hb1.mono (by simp)))
     have HX1 := hid ((Bx.new w (cellsTk 0 0 [] false) 56).keep hb1)
     clear hb1
     go_wp2_with fail
     refine (HF.out _).mono ?_
     rintro e w2 ⟨rfl, hb2⟩
     have HB2 := hid ((belowA HB1.out (.cells (cellsTk 0 p [] true) 56)).trans (hb2.mono (by have := HB1.out.size; simp; omega)))
     have HX2 := hid ((HX1.out.alloc (.cells (cellsTk 0 p [] true) 56)).keep hb2); have HY2 := hid ((Bx.new w1 (cellsTk 0 p [] true) 56).keep hb2)
     have HZ := hid (show w.heap.size < w1.heap.size from HX1.out.2.2)
     clear hb2 HB1 HX1
     obtain ⟨tb, htb⟩ : ∃ tb, tb = w1.heap.size := ⟨_, rfl⟩
     rw [← htb] at HY2 HZ ⊢
     clear htb
     go_wp2_with fail
     refine (HDG.out _).mono ?_
     rintro e w3 ⟨rfl, hb⟩
     have HB3 := hid (HB2.out.trans (hb.mono HB2.out.size)); have HX3 := hid (HX2.out.keep hb); have HY3 := hid (HY2.out.keep hb)
     clear hb HB2 HX2 HY2
     go_wp2_with fail
     refine (HN.out _).mono ?_
     rintro e w4 ⟨⟨u, kk, er, rfl, hu⟩, hb⟩
     have HB4 := hid (HB3.out.trans (hb.mono HB3.out.size)); have HX4 := hid (HX3.out.keep hb); have HY4 := hid (HY3.out.keep hb)
     clear hb HB3 HX3 HY3
     by_cases her : er = 0
     · subst her
       obtain ⟨q, hq⟩ : ∃ q, q = p + u.length := ⟨_, rfl⟩
       have hqi : (p : Int) + (u.length : Int) = (q : Int) := by omega
       have hqb : q ≤ 2000000 := by omega
       have hwq0 : IntKind.i64.wrap (q : Int) = (q : Int) := Go.IntWalk.i64_in (q : Int) (by omega)
       have hzn : ByteArray.size ⟨u.toArray⟩ = u.length := bsz u
       clear hq hu
       have hcy := HY4.out.1; have hfy := HY4.out.2.1
       go_wp2_with fail
       have HY5 := hid (((HY4.out.setC 0 (by simp) (.int .i64 2)).setC 2 (by simp) (.string ⟨u.toArray⟩)))
       have HX5 := hid (((HX4.out.setOther tb 0 (.int .i64 2) (by have := HZ.out; omega)).setOther tb 2 (.string ⟨u.toArray⟩) (by have := HZ.out; omega)))
       have HB5 := hid (((HB4.out.setCell (p := ⟨tb, 0, none⟩) (by have := HZ.out; show _ ≤ tb; omega) (.int .i64 2)).setCell (p := ⟨tb, 2, none⟩) (by have := HZ.out; show _ ≤ tb; omega) (.string ⟨u.toArray⟩)))
       generalize ((w4.setCell ⟨tb, 0, none⟩ (.int .i64 2)).setCell ⟨tb, 2, none⟩ (.string ⟨u.toArray⟩)) = Z at HY5 HX5 HB5 ⊢
       clear hcy hfy HX4 HY4 HB4
       have hcz := HX5.out.1; have hfz := HX5.out.2.1
       refine wp_region_ordC 99 [(0, 0), (1, 0), (2, 0), (3, 0), (4, 0), (5, 0), (6, 2), (7, 0), (8, 0)] (fun _ => True) (fun W' => Bx W' tb (cellsTk 2 p u true)) (by kernel_rfl) (by kernel_rfl) (trivial) (HY5.out.drew) ?_
       repeat ((first | refine ordC_skip rfl rfl ?_ | refine ordC_skip1 rfl rfl ?_ | ((first | refine ordC_q rfl rfl ?_ | refine ordC_p rfl rfl ?_); apply Exists.intro; refine ⟨fun wS hS => ?_, ?_⟩; (go_simp; try with_reducible rfl))); simp only [Act.put, List.setIfInBounds_toArray, List.set_cons_zero, List.set_cons_succ])
       refine ordC_l rfl rfl (fun K hK => ?_)
       go_simp
       refine hK _ _ ⟨trivial, (((HY5.out.drew.setOther w.heap.size 0 _ (by have := HZ.out; omega)).setOther w.heap.size 1 _ (by have := HZ.out; omega)).setOther w.heap.size 2 _ (by have := HZ.out; omega)).setOther w.heap.size 3 _ (by have := HZ.out; omega)⟩ ?_
       clear hK K
       repeat ((first | refine ordC_skip rfl rfl ?_ | refine ordC_skip1 rfl rfl ?_ | ((first | refine ordC_q rfl rfl ?_ | refine ordC_p rfl rfl ?_); apply Exists.intro; refine ⟨fun wS hS => ?_, ?_⟩; (go_simp; try with_reducible rfl))); simp only [Act.put, List.setIfInBounds_toArray, List.set_cons_zero, List.set_cons_succ])
       refine ordC_nil ?_
       go_wp2_with fail
       have hwq : IntKind.i64.wrap (q : Int) = (q : Int) := Go.IntWalk.i64_in (q : Int) (by omega)
       refine bodyPost_ret (v := .tuple #[.agg (cellsTk 2 p u true), .int .i64 (q : Int), .int .i64 0]) (by simp [results, Tryz.results35, go_sem, hcz]) rfl ⟨2, _, _, _, _, _, rfl, .inr (by decide), ?_⟩
       exact ((((HB5.out.drew).setCell (p := ⟨w.heap.size, 0, none⟩) (Nat.le_refl _) _).setCell (p := ⟨w.heap.size, 1, none⟩) (Nat.le_refl _) _).setCell (p := ⟨w.heap.size, 2, none⟩) (Nat.le_refl _) _).setCell (p := ⟨w.heap.size, 3, none⟩) (Nat.le_refl _) _
     · have hbe : (er != 0) = true := by simp [bne, her]
       have HER := hid her
       clear her
       have hcx := HX4.out.1; have hfx := HX4.out.2.1
       go_wp2_with fail
       refine bodyPost_ret (v := .tuple #[.agg (cellsTk 0 0 [] false), .int .i64 (kk), .int .i64 (er)]) (by simp [results, Tryz.results35, go_sem, hcx]) rfl ⟨0, 0, [], false, _, _, rfl, .inl HER.out, ?_⟩
       exact (((HB4.out.setCell (p := ⟨w.heap.size, 0, none⟩) (Nat.le_refl _) _).setCell (p := ⟨w.heap.size, 1, none⟩) (Nat.le_refl _) _).setCell (p := ⟨w.heap.size, 2, none⟩) (Nat.le_refl _) _).setCell (p := ⟨w.heap.size, 3, none⟩) (Nat.le_refl _) _
   all_goals
     go_enter Tryz.func35, Tryz.ntmps35
     go_wp2_with fail
     refine (HSK.out _).mono ?_
     rintro e w1 ⟨rfl, hb1⟩
     have HB1 := hid ((belowA (Below.refl w.heap.size w) (.cells (cellsTk 0 0 [] false) 56)).trans (hb1.mono (by simp)))
     have HX1 := hid ((Bx.new w (cellsTk 0 0 [] false) 56).keep hb1)
     clear hb1
     go_wp2_with fail
     refine (HF.out _).mono ?_
     rintro e w2 ⟨rfl, hb2⟩
     have HB2 := hid ((belowA HB1.out (.cells (cellsTk 0 p [] false) 56)).trans (hb2.mono (by have := HB1.out.size; simp; omega)))
     have HX2 := hid ((HX1.out.alloc (.cells (cellsTk 0 p [] false) 56)).keep hb2); have HY2 := hid ((Bx.new w1 (cellsTk 0 p [] false) 56).keep hb2)
     have HZ := hid (show w.heap.size < w1.heap.size from HX1.out.2.2)
     clear hb2 HB1 HX1
     obtain ⟨tb, htb⟩ : ∃ tb, tb = w1.heap.size := ⟨_, rfl⟩
     rw [← htb] at HY2 HZ ⊢
     clear htb
     go_wp2_with fail
     refine (HDG.out _).mono ?_
     rintro e w3 ⟨rfl, hb⟩
     have HB3 := hid (HB2.out.trans (hb.mono HB2.out.size)); have HX3 := hid (HX2.out.keep hb); have HY3 := hid (HY2.out.keep hb)
     clear hb HB2 HX2 HY2
     go_wp2_with fail
     refine (HN.out _).mono ?_
     rintro e w4 ⟨⟨u, kk, er, rfl, hu⟩, hb⟩
     have HB4 := hid (HB3.out.trans (hb.mono HB3.out.size)); have HX4 := hid (HX3.out.keep hb); have HY4 := hid (HY3.out.keep hb)
     clear hb HB3 HX3 HY3
     by_cases her : er = 0
     · subst her
       obtain ⟨q, hq⟩ : ∃ q, q = p + u.length := ⟨_, rfl⟩
       have hqi : (p : Int) + (u.length : Int) = (q : Int) := by omega
       have hqb : q ≤ 2000000 := by omega
       have hwq0 : IntKind.i64.wrap (q : Int) = (q : Int) := Go.IntWalk.i64_in (q : Int) (by omega)
       have hzn : ByteArray.size ⟨u.toArray⟩ = u.length := bsz u
       clear hq hu
       have hcy := HY4.out.1; have hfy := HY4.out.2.1
       go_wp2_with fail
       have HY5 := hid (((HY4.out.setC 0 (by simp) (.int .i64 2)).setC 2 (by simp) (.string ⟨u.toArray⟩)))
       have HX5 := hid (((HX4.out.setOther tb 0 (.int .i64 2) (by have := HZ.out; omega)).setOther tb 2 (.string ⟨u.toArray⟩) (by have := HZ.out; omega)))
       have HB5 := hid (((HB4.out.setCell (p := ⟨tb, 0, none⟩) (by have := HZ.out; show _ ≤ tb; omega) (.int .i64 2)).setCell (p := ⟨tb, 2, none⟩) (by have := HZ.out; show _ ≤ tb; omega) (.string ⟨u.toArray⟩)))
       generalize ((w4.setCell ⟨tb, 0, none⟩ (.int .i64 2)).setCell ⟨tb, 2, none⟩ (.string ⟨u.toArray⟩)) = Z at HY5 HX5 HB5 ⊢
       clear hcy hfy HX4 HY4 HB4
       have hcz := HX5.out.1; have hfz := HX5.out.2.1
       refine wp_region_ordC 99 [(0, 0), (1, 0), (2, 0), (3, 0), (4, 0), (5, 0), (6, 2), (7, 0), (8, 0)] (fun _ => True) (fun W' => Bx W' tb (cellsTk 2 p u false)) (by kernel_rfl) (by kernel_rfl) (trivial) (HY5.out.drew) ?_
       repeat ((first | refine ordC_skip rfl rfl ?_ | refine ordC_skip1 rfl rfl ?_ | ((first | refine ordC_q rfl rfl ?_ | refine ordC_p rfl rfl ?_); apply Exists.intro; refine ⟨fun wS hS => ?_, ?_⟩; (go_simp; try with_reducible rfl))); simp only [Act.put, List.setIfInBounds_toArray, List.set_cons_zero, List.set_cons_succ])
       refine ordC_l rfl rfl (fun K hK => ?_)
       go_simp
       refine hK _ _ ⟨trivial, (((HY5.out.drew.setOther w.heap.size 0 _ (by have := HZ.out; omega)).setOther w.heap.size 1 _ (by have := HZ.out; omega)).setOther w.heap.size 2 _ (by have := HZ.out; omega)).setOther w.heap.size 3 _ (by have := HZ.out; omega)⟩ ?_
       clear hK K
       repeat ((first | refine ordC_skip rfl rfl ?_ | refine ordC_skip1 rfl rfl ?_ | ((first | refine ordC_q rfl rfl ?_ | refine ordC_p rfl rfl ?_); apply Exists.intro; refine ⟨fun wS hS => ?_, ?_⟩; (go_simp; try with_reducible rfl))); simp only [Act.put, List.setIfInBounds_toArray, List.set_cons_zero, List.set_cons_succ])
       refine ordC_nil ?_
       go_wp2_with fail
       have hwq : IntKind.i64.wrap (q : Int) = (q : Int) := Go.IntWalk.i64_in (q : Int) (by omega)
       refine bodyPost_ret (v := .tuple #[.agg (cellsTk 2 p u false), .int .i64 (q : Int), .int .i64 0]) (by simp [results, Tryz.results35, go_sem, hcz]) rfl ⟨2, _, _, _, _, _, rfl, .inr (by decide), ?_⟩
       exact ((((HB5.out.drew).setCell (p := ⟨w.heap.size, 0, none⟩) (Nat.le_refl _) _).setCell (p := ⟨w.heap.size, 1, none⟩) (Nat.le_refl _) _).setCell (p := ⟨w.heap.size, 2, none⟩) (Nat.le_refl _) _).setCell (p := ⟨w.heap.size, 3, none⟩) (Nat.le_refl _) _
     · have hbe : (er != 0) = true := by simp [bne, her]
       have HER := hid her
       clear her
       have hcx := HX4.out.1; have hfx := HX4.out.2.1
       go_wp2_with fail
       refine bodyPost_ret (v := .tuple #[.agg (cellsTk 0 0 [] false), .int .i64 (kk), .int .i64 (er)]) (by simp [results, Tryz.results35, go_sem, hcx]) rfl ⟨0, 0, [], false, _, _, rfl, .inl HER.out, ?_⟩
       exact (((HB4.out.setCell (p := ⟨w.heap.size, 0, none⟩) (Nat.le_refl _) _).setCell (p := ⟨w.heap.size, 1, none⟩) (Nat.le_refl _) _).setCell (p := ⟨w.heap.size, 2, none⟩) (Nat.le_refl _) _).setCell (p := ⟨w.heap.size, 3, none⟩) (Nat.le_refl _) _
end Yd


namespace Yd
open Go
inductive OU where
 | nil
 | q (i c : Nat) (r : OU)
 | l (i : Nat) (r : OU)
 | alt (i : Nat) (r : OU) (j : Nat) (s : OU)
 | alt3 (i : Nat) (r : OU) (j : Nat) (s : OU) (k : Nat) (t : OU)
def OU.size : OU → Nat
 | .nil => 0
 | .q _ _ r => r.size + 1
 | .l _ r => r.size + 1
 | .alt _ r _ _ => r.size + 1
 | .alt3 _ r _ _ _ _ => r.size + 1
section
variable {P : Program} {ops : Array Oper} {Q : Exit → Act → World → Prop} {md : Region.Mode} {R S : World → Prop} {cut : Nat}
def wpOrdU (P : Program) (ops : Array Oper) (Q : Exit → Act → World → Prop) (R S : World → Prop) (cut : Nat) : OU → Act → World → Prop
 | .nil, a, w => Q .normal a w
 | .q i 0 r, a, w => ∃ o v, ops[i]? = some o ∧ YieldsIf P ops (fun w => R w ∧ S w) o v a ∧ wpOrdU P ops Q R S cut r (a.put o.dst v) w
 | .q i (_ + 1) r, a, w => ∃ o v, ops[i]? = some o ∧ YieldsIf P ops R o v a ∧ wpOrdU P ops Q R S cut r (a.put o.dst v) w
 | .l i r, a, w => wpOp P ops Q i (fun a' w' => ThenS cut R S i w w' ∧ wpOrdU P ops Q R S cut r a' w') a w
 | .alt i r j s, a, w => wpOp P ops Q i (fun a' w' => ThenS cut R S i w w' ∧ wpOrdU P ops Q R S cut r a' w') a w ∧ wpOp P ops Q j (fun a' w' => ThenS cut R S j w w' ∧ wpOrdU P ops Q R S cut s a' w') a w
 | .alt3 i r j s k t, a, w => wpOp P ops Q i (fun a' w' => ThenS cut R S i w w' ∧ wpOrdU P ops Q R S cut r a' w') a w ∧ wpOp P ops Q j (fun a' w' => ThenS cut R S j w w' ∧ wpOrdU P ops Q R S cut s a' w') a w ∧ wpOp P ops Q k (fun a' w' => ThenS cut R S k w w' ∧ wpOrdU P ops Q R S cut t a' w') a w
def okOrdU (md : Region.Mode) (ops : Array Oper) (cut : Nat) : OU → Bool → Array Bool → Bool
 | .nil, _, listed => (Region.ready md ops listed).isEmpty
 | .q i 0 r, held, listed => (Region.ready md ops listed).contains i && Region.free md ops listed i && (held && waits md ops cut i) && okOrdU md ops cut r held (listed.setIfInBounds i true)
 | .q i (_ + 1) r, held, listed => (Region.ready md ops listed).contains i && Region.free md ops listed i && okOrdU md ops cut r held (listed.setIfInBounds i true)
 | .l i r, held, listed => decide (Region.ready md ops listed = [i]) && okOrdU md ops cut r (held && decide (i < cut)) (listed.setIfInBounds i true)
 | .alt i r j s, held, listed => decide (Region.ready md ops listed = [i, j]) && decide (r.size = s.size) && okOrdU md ops cut r (held && decide (i < cut)) (listed.setIfInBounds i true) && okOrdU md ops cut s (held && decide (j < cut)) (listed.setIfInBounds j true)
 | .alt3 i r j s k t, held, listed => decide (Region.ready md ops listed = [i, j, k]) && decide (r.size = s.size) && decide (r.size = t.size) && okOrdU md ops cut r (held && decide (i < cut)) (listed.setIfInBounds i true) && okOrdU md ops cut s (held && decide (j < cut)) (listed.setIfInBounds j true) && okOrdU md ops cut t (held && decide (k < cut)) (listed.setIfInBounds k true)
theorem held_stepU {i : Nat} {held : Bool} {w w' : World} (hS : held = true → S w) (h : ThenS cut R S i w w') (hh : (held && decide (i < cut)) = true) : S w' := by
 simp only [Bool.and_eq_true, decide_eq_true_eq] at hh
 rcases h.2 with h1 | h1
 · omega
 · exact h1 (hS hh.1)
theorem wpAnyT_of_ordU (hs : Region.noSelect ops = true) (hQ : ∀ d v c a w, Q (.panic c) (Act.put a d v) w → Q (.panic c) a w) :
   ∀ (l : OU) (held : Bool) (listed : Array Bool) (a : Act) (w : World), okOrdU md ops cut l held listed = true → R w → (held = true → S w) → wpOrdU P ops Q R S cut l a w → wpAnyT P md ops Q (ThenS cut R S) l.size listed a w
 | .nil, _, listed, a, w, hB, _, _, h => ⟨by simpa [okOrdU] using hB, h⟩
 | .q i 0 r, held, listed, a, w, hB, hR, hS, h => by
   simp only [okOrdU, Bool.and_eq_true] at hB
   obtain ⟨⟨⟨hr, hf⟩, hh, hc⟩, hB'⟩ := hB
   obtain ⟨o, v, ho, hy, hn⟩ := h
   have hrest := wpAnyT_of_ordU hs hQ r held _ _ _ hB' hR hS hn
   refine wpAnyT_first (S := fun w => R w ∧ S w) ho (Region.noSelect_spec hs) (fun c a w => hQ _ _ c a w) (fun _ h => ⟨h.1, .inr id⟩) (fun j oj hj hne hno w w' hw' hw => ⟨hw'.1, ?_⟩) r.size listed a w (Region.free_spec ho hf) (by simpa using hr) hy ⟨hR, hS hh⟩ hrest
   rcases hw'.2 with h1 | h1
   · exact absurd (waits_spec hc j oj hj hno) (by omega)
   · exact h1 hw.2
 | .q i (_ + 1) r, held, listed, a, w, hB, hR, hS, h => by
   simp only [okOrdU, Bool.and_eq_true] at hB
   obtain ⟨⟨hr, hf⟩, hB'⟩ := hB
   obtain ⟨o, v, ho, hy, hn⟩ := h
   have hrest := wpAnyT_of_ordU hs hQ r held _ _ _ hB' hR hS hn
   exact wpAnyT_first (S := R) ho (Region.noSelect_spec hs) (fun c a w => hQ _ _ c a w) (fun _ h => ⟨h, .inr id⟩) (fun j oj hj hne hno w w' hw' _ => hw'.1) r.size listed a w (Region.free_spec ho hf) (by simpa using hr) hy hR hrest
 | .l i r, held, listed, a, w, hB, hR, hS, h => by
   simp only [okOrdU, Bool.and_eq_true, decide_eq_true_eq] at hB
   obtain ⟨hr, hB'⟩ := hB
   refine ⟨fun h0 => (by rw [hr] at h0; cases h0), fun j hj => ?_⟩
   rw [hr] at hj
   obtain rfl : j = i := by simpa using hj
   exact wpOp_mono (fun a' w' hh => ⟨hh.1, wpAnyT_of_ordU hs hQ r _ _ a' w' hB' hh.1.1 (held_stepU hS hh.1) hh.2⟩) h
 | .alt i r k s, held, listed, a, w, hB, hR, hS, h => by
   simp only [okOrdU, Bool.and_eq_true, decide_eq_true_eq] at hB
   obtain ⟨⟨⟨hr, hz⟩, hB1⟩, hB2⟩ := hB
   refine ⟨fun h0 => (by rw [hr] at h0; cases h0), fun j hj => ?_⟩
   rw [hr] at hj
   rcases (by simpa using hj : j = i ∨ j = k) with rfl | rfl
   · exact wpOp_mono (fun a' w' hh => ⟨hh.1, wpAnyT_of_ordU hs hQ r _ _ a' w' hB1 hh.1.1 (held_stepU hS hh.1) hh.2⟩) h.1
   · refine wpOp_mono (fun a' w' hh => ⟨hh.1, ?_⟩) h.2
     have := wpAnyT_of_ordU hs hQ s _ _ a' w' hB2 hh.1.1 (held_stepU hS hh.1) hh.2
     show wpAnyT P md ops Q (ThenS cut R S) r.size _ a' w'
     rw [hz]; exact this
 | .alt3 i r k s m t, held, listed, a, w, hB, hR, hS, h => by
   simp only [okOrdU, Bool.and_eq_true, decide_eq_true_eq] at hB
   obtain ⟨⟨⟨⟨⟨hr, hz⟩, hy⟩, hB1⟩, hB2⟩, hB3⟩ := hB
   refine ⟨fun h0 => (by rw [hr] at h0; cases h0), fun j hj => ?_⟩
   rw [hr] at hj
   rcases (by simpa using hj : j = i ∨ j = k ∨ j = m) with rfl | rfl | rfl
   · exact wpOp_mono (fun a' w' hh => ⟨hh.1, wpAnyT_of_ordU hs hQ r _ _ a' w' hB1 hh.1.1 (held_stepU hS hh.1) hh.2⟩) h.1
   · refine wpOp_mono (fun a' w' hh => ⟨hh.1, ?_⟩) h.2.1
     have := wpAnyT_of_ordU hs hQ s _ _ a' w' hB2 hh.1.1 (held_stepU hS hh.1) hh.2
     show wpAnyT P md ops Q (ThenS cut R S) r.size _ a' w'
     rw [hz]; exact this
   · refine wpOp_mono (fun a' w' hh => ⟨hh.1, ?_⟩) h.2.2
     have := wpAnyT_of_ordU hs hQ t _ _ a' w' hB3 hh.1.1 (held_stepU hS hh.1) hh.2
     show wpAnyT P md ops Q (ThenS cut R S) r.size _ a' w'
     rw [hy]; exact this
theorem wp_region_ordU {id : Nat} {a : Act} {w : World} {l : List Oper} (cut : Nat) (ord : OU) (R S : World → Prop) (hm : P.follows .mixedOrders = true)
   (hB : (Region.noSelect l.toArray && decide (ord.size = l.length) && okOrdU .any l.toArray cut ord true (Array.replicate l.toArray.size false)) = true)
   (hR : R w.drew) (hS : S w.drew) (h : wpOrdU P l.toArray (strictQ Q) R S cut ord a w.drew) : (Code.region id l.toArray true).wp P Q a w := by
 simp only [Bool.and_eq_true, decide_eq_true_eq] at hB
 obtain ⟨⟨hs, hl⟩, ho⟩ := hB
 refine wp_mono (Q := strictQ Q) (wp_region_any hm (wpAny_of_T (T := ThenS cut R S) _ _ _ _ ?_)) strictQ_of
 have := wpAnyT_of_ordU (md := .any) (Q := strictQ Q) hs (strictQ_p Q) ord true _ a _ ho hR (fun _ => hS) h
 rw [hl] at this
 simpa using this
theorem ordU_nil {a : Act} {w : World} (h : Q .normal a w) : wpOrdU P ops (strictQ Q) R S cut .nil a w := h
variable {l : List Oper} {a : Act} {w : World} {r s t : OU} {i j : Nat} {o : Oper}
theorem ordU_q (ho : opAt l i = some o) (hw : Region.wanted o (yielded l.toArray a.tmps) = true)
   (h : ∃ v, (∀ w, R w ∧ S w → (execOp a.eval o).run P w = .ok (.value v) w) ∧ wpOrdU P l.toArray Q R S cut r (a.put o.dst v) w) : wpOrdU P l.toArray Q R S cut (.q i 0 r) a w :=
 let ⟨v, h1, h2⟩ := h
 ⟨o, v, opAt_get _ _ _ ho, .inl ⟨hw, h1⟩, h2⟩
theorem ordU_p (ho : opAt l i = some o) (hw : Region.wanted o (yielded l.toArray a.tmps) = true)
   (h : ∃ v, (∀ w, R w → (execOp a.eval o).run P w = .ok (.value v) w) ∧ wpOrdU P l.toArray Q R S cut r (a.put o.dst v) w) : wpOrdU P l.toArray Q R S cut (.q i 1 r) a w :=
 let ⟨v, h1, h2⟩ := h
 ⟨o, v, opAt_get _ _ _ ho, .inl ⟨hw, h1⟩, h2⟩
theorem ordU_one (ho : opAt l i = some o) (hw : Region.wanted o (yielded l.toArray a.tmps) = true) (h : ∀ K : Act → World → Prop, (∀ a w, R w ∧ S w → wpOrdU P l.toArray Q R S cut r a w → K a w) → o.wp P a w K Q) :
   wpOp P l.toArray Q i (fun a' w' => ThenS cut R S i w w' ∧ wpOrdU P l.toArray Q R S cut r a' w') a w := by
 have ho' := opAt_get _ _ _ ho
 unfold wpOp
 simp only [ho', hw, if_true]
 exact .inl (h _ fun _ _ h1 h2 => ⟨⟨h1.1, .inr fun _ => h1.2⟩, h2⟩)
theorem ordU_l (ho : opAt l i = some o) (hw : Region.wanted o (yielded l.toArray a.tmps) = true) (h : ∀ K : Act → World → Prop, (∀ a w, R w ∧ S w → wpOrdU P l.toArray Q R S cut r a w → K a w) → o.wp P a w K Q) :
   wpOrdU P l.toArray Q R S cut (.l i r) a w := ordU_one ho hw h
end
end Yd
