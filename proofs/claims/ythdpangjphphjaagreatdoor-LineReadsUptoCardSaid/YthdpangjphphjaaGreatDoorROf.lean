import Derived.Test.YthdpangjphphjaaGreatDoorCu14
import Derived.Test.YthdpangjphphjaaGreatDoorCuL
import Derived.Test.YthdpangjphphjaaGreatDoorProg
import Derived.Test.YthdpangjphphjaaGreatDoorLawSt
set_option maxRecDepth 200000
set_option maxHeartbeats 8000000
namespace Yd
open Go Go.RowKit Go.Proofs

theorem cu_told_no {B p : Nat} {s l : Bs} {er : Int} (w : World) (h : CuC w B s p l er) (he : er ≠ 0) :
   Calls Tryz.prog 92 #[.pointer (some ⟨B, 0, none⟩)] w (fun e w' => e = .returned (valTo ⟨[], 0⟩) ∧ CuC w' B s p l er ∧ Cs B w w') := by
 have HNA := hid (fun W (hc : CuC W B s p l er) => cu_name_no W hc he)
 have hb : (er == 0) = false := beq_eq_false_iff_ne.2 he
 have hbn : (er != 0) = true := by rw [bne, hb]; rfl
 have HH := hid h
 have HB0 := hid (belowA (Below.refl w.heap.size w) (.cells (cellsTo ⟨[], 0⟩) 67))
 have HX0 := hid (Bx.new w (cellsTo ⟨[], 0⟩) 67)
 have HBL := hid (show w.heap.size ≠ B from fun e => by have := h.lt; omega)
 have c2 := (h.below HB0.out).x.1 2
 clear h he
 go_enter Tryz.func92, Tryz.ntmps92
 go_wp2_with fail
 refine wp_region_ordC 99 [(0, 0), (1, 0), (2, 0), (3, 0), (4, 0), (5, 0), (6, 0), (7, 2), (8, 0), (9, 0), (10, 0), (11, 0), (12, 0), (13, 0), (14, 0), (15, 0), (16, 0), (17, 0), (18, 0), (19, 0), (20, 0), (21, 0)] (fun _ => True) (fun W' => W'.cell? ⟨B, 2, none⟩ = some (.int .i64 er)) (by kernel_rfl) (by kernel_rfl) (trivial) (c2) ?_
 repeat ((first | refine ordC_skip rfl rfl ?_ | refine ordC_skip1 rfl rfl ?_ | ((first | refine ordC_q rfl rfl ?_ | refine ordC_p rfl rfl ?_); apply Exists.intro; refine ⟨fun wS hS => ?_, ?_⟩; (go_simp; try with_reducible rfl))); simp only [Act.put, List.setIfInBounds_toArray, List.set_cons_zero, List.set_cons_succ])
 refine ordC_lskip rfl rfl trivial ?_
 simp only [Act.put, List.setIfInBounds_toArray, List.set_cons_zero, List.set_cons_succ]
 repeat ((first | refine ordC_skip rfl rfl ?_ | refine ordC_skip1 rfl rfl ?_ | ((first | refine ordC_q rfl rfl ?_ | refine ordC_p rfl rfl ?_); apply Exists.intro; refine ⟨fun wS hS => ?_, ?_⟩; (go_simp; try with_reducible rfl))); simp only [Act.put, List.setIfInBounds_toArray, List.set_cons_zero, List.set_cons_succ])
 refine ordC_nil ?_
 have HB1 := hid (HB0.out.drew); have HX1 := hid (HX0.out.drew); have HC1 := hid ((HH.out.below HB0.out).drew)
 clear c2
 go_wp2_with fail
 refine (HNA.out _ HC1.out).mono ?_
 rintro e w2 ⟨rfl, hc, hs⟩
 have HVB := hid (show w2.heap.size ≠ B from fun e => by have := hc.lt; omega)
 have HVP := hid (show w.heap.size ≤ w2.heap.size from Nat.le_trans HB1.out.size hs.size)
 have hv := Bx.new w2 (cellsTo ⟨[], 0⟩) 67
 have ha : Below w2.heap.size w2 (w2.alloc (.cells (cellsTo ⟨[], 0⟩) 67)) := belowA (Below.refl w2.heap.size w2) (.cells (cellsTo ⟨[], 0⟩) 67)
 have hcv := hc.below ha
 have hsv := ((Cs.of_below (B := B) HB1.out).tr hs).tr (Cs.of_below ha)
 have hxv := (hs.bx HX1.out HBL.out).keep ha
 have HCV := hid hcv; have HSV := hid hsv
 have hcb := hv.1; have hfb := hv.2.1; have c2 := hcv.x.1 2; have hct := hxv.1; have hft := hxv.2.1
 clear hv hcv hsv hxv ha hs hc
 go_wp2_with fail
 have HCZ := hid ((HCV.out.oth w.heap.size 0 (.string ⟨([] : Bs).toArray⟩) HBL.out).oth w.heap.size 1 (.int .i64 0) HBL.out)
 refine bodyPost_ret (v := valTo ⟨[], 0⟩) (by simp [results, Tryz.results92, go_sem, hct]) rfl ?_
 exact ⟨rfl, HCZ.out, cs_new (cs_new HSV.out (Nat.le_refl _) 0 _) (Nat.le_refl _) 1 _⟩
@[reducible] def Stands (er : Int) (l : Bs) : Prop := er = 0 → ∃ b t, l = b :: t ∧ blB b = false ∧ endsS (b :: t) = false
theorem cu_name_any {B p : Nat} {s l : Bs} {er : Int} (w : World) (h : CuC w B s p l er) (hl : Stands er l) : Calls Tryz.prog 91 #[.pointer (some ⟨B, 0, none⟩)] w (CuAny B s w (fun u : Bs => .string ⟨u.toArray⟩) (anyE er l (nameS l))) := by
 by_cases he : er = 0
 · subst he
   obtain ⟨b, t, rfl, h1, h2⟩ := hl rfl
   rw [anyE_0]
   exact (cu_name w h h1 h2).mono fun _ _ h => h.any
 · refine (cu_name_no w h he).mono ?_
   rintro e w' ⟨h1, h2, h3⟩
   exact ⟨[], p, l, er, h1, h2, h3, by rw [anyE_n _ he, mkR_n _ _ he]⟩
theorem cu_told_any {B p : Nat} {s l : Bs} {er : Int} (w : World) (h : CuC w B s p l er) (hl : Stands er l) : Calls Tryz.prog 92 #[.pointer (some ⟨B, 0, none⟩)] w (CuAny B s w (fun v : To => valTo v) (anyE er l (versS l))) := by
 by_cases he : er = 0
 · subst he
   obtain ⟨b, t, rfl, h1, h2⟩ := hl rfl
   rw [anyE_0]
   exact (cu_told w h h1 h2).mono fun _ _ h => h.any
 · refine (cu_told_no w h he).mono ?_
   rintro e w' ⟨h1, h2, h3⟩
   exact ⟨⟨[], 0⟩, p, l, er, h1, h2, h3, by rw [anyE_n _ he, mkR_n _ _ he]⟩
def CuOnA (B : Nat) (s : Bs) (w : World) (x : Except Er (Nat × Bs)) (e : Ending) (w' : World) : Prop :=
 ∃ (a : Nat) (p' : Nat) (l' : Bs) (er : Int), e = .returned (.int .i64 (a : Int)) ∧ CuC w' B s p' l' er ∧ Cs B w w' ∧ x = mkR a l' er ∧ (er ≠ 0 → a = 0) ∧ a ≤ 100
theorem cu_one_any {B p : Nat} {s l : Bs} {er : Int} (w : World) (h : CuC w B s p l er) (a : Option Addr) (nn cc : Nat) (ws : List Bs) (hr : Row w 1 encStr a nn cc ws) (hnn : nn ≤ 100) (hw : ∀ x ∈ ws, x.length ≤ 100) :
   Calls Tryz.prog 30 #[.pointer (some ⟨B, 0, none⟩), .slice a nn cc] w (CuOnA B s w (anyE er l (oneS ws l))) := by
 by_cases he : er = 0
 · subst he
   rw [anyE_0]
   refine (cu_oneX w h a nn cc ws hr hnn hw).mono ?_
   rintro e w' ⟨a, p', l', er, h1, h2, h3, h4, h5⟩
   refine ⟨a, p', l', er, h1, h2, h3, ?_, h5⟩
   cases hx : oneS ws l with
   | ok y => rw [hx] at h4; obtain ⟨a', r⟩ := y; obtain ⟨rfl, rfl, rfl⟩ := h4; exact (mkR_0 _ _).symm
   | error y => rw [hx] at h4; obtain ⟨r, m⟩ := y; obtain ⟨rfl, rfl, hm⟩ := h4; exact (mkR_n _ _ hm).symm
 · refine (cu_one_no w h he _).mono ?_
   rintro e w' ⟨h1, h2, h3⟩
   exact ⟨0, p, l, er, h1, h2, h3, by rw [anyE_n _ he, mkR_n _ _ he], fun _ => rfl, Nat.zero_le _⟩
theorem must_stands {l l' : Bs} {er er' : Int} {u : Unit} (h : anyE er l (mustU l) = mkR u l' er') : Stands er' l' := fun h0 => by
 subst h0
 rw [mkR_0] at h
 by_cases he : er = 0
 · subst he
   rw [anyE_0] at h
   unfold mustU at h
   cases hm : mustS l with
   | error x => rw [hm] at h; cases h
   | ok r => rw [hm] at h; injection h with h; injection h with _ h; subst h; exact more_stands (must_true hm)
 · rw [anyE_n _ he] at h; cases h
end Yd


namespace Yd
open Go Go.RowKit Go.Proofs
attribute [local go_sem] Oper.semAt_some

end Yd
