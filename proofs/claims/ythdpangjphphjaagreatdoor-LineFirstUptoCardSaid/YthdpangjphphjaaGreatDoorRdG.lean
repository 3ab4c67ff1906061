import Derived.Test.YthdpangjphphjaaGreatDoorRdV
import Derived.Test.YthdpangjphphjaaGreatDoorRdW
import Derived.Test.YthdpangjphphjaaGreatDoorProg
set_option maxRecDepth 200000
set_option maxHeartbeats 8000000
namespace Yd
open Go Go.RowKit Go.Proofs

theorem Own.strL {X : World} {g : Nat} (h : X.heap.size = g) (l : List Bs) (hl : l.length ≤ maxLen) : Own (X.alloc (.cells (l.map (fun s => Value.string ⟨s.toArray⟩)).toArray 9)) g 9 1 encStr (.slice (some ⟨g, 0, none⟩) l.length l.length) l := by
 subst h
 exact Own.new (hc := cInsStr) X X.heap.size 9 _ l (Nat.le_refl _) (by
   show l.map (fun s => Value.string ⟨s.toArray⟩) = l.flatMap encStr
   induction l with
   | nil => rfl
   | cons a l ih => rw [List.map_cons, List.flatMap_cons, ih (by simp at hl; omega)]; rfl) hl
theorem RdC.setCellR {w : World} {R p : Nat} {s l : Bs} {c : LnC} {n : LnS} (h : RdC w R s p l c n) (i : Nat) (v : Value) (c' : LnC) (n' : LnS) (hi : i < 8) (hc : (cellsRd s p c).setIfInBounds i v = cellsRd s p c')
   (h1 : c'.na = c.na ∧ c'.nn = c.nn ∧ c'.nc = c.nc ∧ c'.va = c.va ∧ c'.vn = c.vn ∧ c'.vc = c.vc) (h2 : n'.names = n.names ∧ n'.vers = n.vers) (h3 : c'.kind = n'.kind ∧ c'.lvl = n'.lvl ∧ c'.first = n'.first ∧ c'.bits = n'.bits) :
   RdC (w.setCell ⟨R, i, none⟩ v) R s p l c' n' ∧ Mv R c c' w (w.setCell ⟨R, i, none⟩ v) := by
 obtain ⟨e1, e2, e3, e4, e5, e6⟩ := h1
 obtain ⟨⟨_, _, _, _, l1, l2⟩, o1, o2⟩ := h.n
 have hx := h.x.setC i (by simpa using hi) v
 rw [hc] at hx
 refine ⟨⟨hx, ⟨⟨h3.1, h3.2.1, h3.2.2.1, h3.2.2.2, by rw [e2, h2.1]; exact l1, by rw [e5, h2.2]; exact l2⟩, ?_, ?_⟩, h.d, h.le, h.lim⟩, Same.setCell _ _ _ _ (fun e => e.1 rfl), ?_, ?_⟩
 · rw [e1, e2, e3, h2.1]; exact o1.block fun g hg => Below.heap_setCell _ _ _ _ (by have := (o1.lt g hg).1; simp; omega)
 · rw [e4, e5, e6, h2.2]; exact o2.block fun g hg => Below.heap_setCell _ _ _ _ (by have := (o2.lt g hg).1; simp; omega)
 · rw [e1, e2, e3]; exact fun _ h => .inl h
 · rw [e4, e5, e6]; exact fun _ h => .inl h
theorem levelL_ok : (∀ x ∈ levelL, x.length ≤ 100) ∧ (∀ x ∈ levelL, (128 : UInt8) ∉ x) := by decide
theorem rd_level {R p : Nat} {s l : Bs} {c : LnC} {n : LnS} (w : World) (h : RdC w R s p l c n) :
   Calls Tryz.prog 75 #[.pointer (some ⟨R, 0, none⟩)] w (RdRes R s c w (fun _ : Unit => .tuple #[]) (match wordS levelL l with | .error x => .error x | .ok (i, r) => .ok ((), { n with lvl := 1 + (i : Int) }, r))) := by
 obtain ⟨X, hX⟩ : ∃ X : Except Er (Unit × LnS × Bs), X = (match wordS levelL l with | .error x => .error x | .ok (i, r) => .ok ((), { n with lvl := 1 + (i : Int) }, r)) := ⟨_, rfl⟩
 rw [← hX]
 have HX := hid hX
 have hbl := belowA (Below.refl w.heap.size w) (.cells #[.string ⟨#[49]⟩, .string ⟨#[50]⟩, .string ⟨#[50, 46, 57, 57]⟩, .string ⟨#[51]⟩] 9)
 have HBL := hid hbl
 have HW := hid (rd_word _ (h.below hbl) (some ⟨w.heap.size, 0, none⟩) 4 4 levelL ((Own.strL rfl levelL (by decide)).row (by decide)) (by decide) levelL_ok.1 levelL_ok.2)
 clear hX h hbl
 go_enter Tryz.func75, Tryz.ntmps75
 go_wp2_with fail
 refine HW.out.mono ?_
 intro e w1 he
 cases hm : wordS levelL l with
 | error x =>
   rw [hm] at he
   obtain ⟨rfl, hs⟩ := he
   refine ⟨rfl, ?_⟩
   show RdRes R s c w _ _ _ _
   rw [HX.out, hm]
   exact ⟨rfl, (Same.of_below HBL.out (fun _ _ h => h)).tr hs⟩
 | ok ir =>
   obtain ⟨i, r⟩ := ir
   rw [hm] at he
   obtain ⟨rfl, q, hc, hmv⟩ := he
   have hi : i < 4 := by
     unfold wordS at hm
     split at hm
     · rename_i j hj
       injection hm with hm
       injection hm with hm _
       have := (List.findIdx?_eq_some_iff_getElem.1 hj).1
       subst hm
       exact this
     · cases hm
   have HC := hid hc; have HM := hid ((Mv.of_below HBL.out).trans hmv); have HMX := hid hm
   have hx4 := hc.x.1 4; have z4 := f1 hc 4
   clear hc hmv hm
   go_wp2_with fail
   refine bodyPost_end (results_none rfl _ _ _) rfl ?_
   show RdRes R s c w _ _ _ _
   rw [HX.out, HMX.out]
   have := HC.out.setCellR 4 (.int .i64 (1 + (i : Int))) { c with lvl := 1 + (i : Int) } { n with lvl := 1 + (i : Int) } (by decide) rfl ⟨rfl, rfl, rfl, rfl, rfl, rfl⟩ ⟨rfl, rfl⟩ ⟨HC.out.n.1.1, rfl, HC.out.n.1.2.2.1, HC.out.n.1.2.2.2.1⟩
   exact ⟨rfl, q, _, this.1, HM.out.trans this.2⟩
end Yd


namespace Yd
open Go Go.RowKit Go.Proofs

theorem more_suf {l r : Bs} {b : Bool} (h : moreS l = .ok (b, r)) : r = skipS l := by
 unfold moreS at h
 split at h
 · injection h with h; injection h with _ h; exact h.symm
 · split at h
   · cases h
   · injection h with h; injection h with _ h; exact h.symm
theorem more_true {l r : Bs} (h : moreS l = .ok (true, r)) : endsS r = false := by
 have e := more_suf h
 unfold moreS at h
 split at h
 · injection h with h; injection h with h _; cases h
 · rename_i h1; rw [e]; simpa using h1
theorem rd_first {R p : Nat} {s l : Bs} {c : LnC} {n : LnS} (w : World) (h : RdC w R s p l c n) (hn : n.first = false) :
   Calls Tryz.prog 79 #[.pointer (some ⟨R, 0, none⟩)] w (RdRes R s c w (fun _ : Unit => .tuple #[]) (match firstS l with | .error x => .error x | .ok (f, r) => .ok ((), { n with first := f }, r))) := by
 obtain ⟨X, hX⟩ : ∃ X : Except Er (Unit × LnS × Bs), X = (match firstS l with | .error x => .error x | .ok (f, r) => .ok ((), { n with first := f }, r)) := ⟨_, rfl⟩
 rw [← hX]
 have HMO := hid (fun W (hb : Below w.heap.size w W) => rd_more W (h.below hb))
 have HH := hid h
 have HB0 : Hid (Below w.heap.size w w.drew) := hid ((Below.refl _ _).drew)
 have c0 := h.c0; have c1 := h.c1; have z1 := f1 h 1
 have hlen := h.len; have hlim := h.lim
 have HFN : Hid ({ n with first := false } = n) := hid (by rw [← hn])
 have HD := hid h.d
 clear h hn
 cases hm : moreS l with
 | error x =>
   have HX : Hid (X = .error x) := hid (by rw [hX]; unfold firstS; rw [hm])
   have HMM := hid hm
   have RES : Hid (∀ ch w', (ch = wrongP (s.length - x.1.length) x.2 ∧ Same (RdA R c) w.drew w') → RdRes R s c w (fun _ : Unit => .tuple #[]) X (.panicked ch) w') := hid (by
     rintro ch w' ⟨rfl, h2⟩
     rw [HX.out]
     exact ⟨rfl, h2.os, h2.tape, h2.output, h2.size, h2.block⟩)
   clear hX hm
   go_enter Tryz.func79, Tryz.ntmps79
   go_wp2_with fail
   refine wp_region_ordP 99 [(0, 0), (1, 2), (2, 0), (3, 0), (4, 0), (5, 0), (6, 0), (7, 0), (8, 0), (9, 0), (10, 0), (11, 0), (12, 0), (13, 0)] (fun _ => True) (fun W' => W'.cell? ⟨R, 0, none⟩ = some (.string ⟨s.toArray⟩)) (fun ch w' => ch = wrongP (s.length - x.1.length) x.2 ∧ Same (RdA R c) w.drew w') (by kernel_rfl) (by kernel_rfl) (fun ch a1 w1 hd hr => ⟨hd, RES.out ch w1 hr⟩) (trivial) (c0) ?_
   repeat ((first | refine ordC_skip rfl rfl ?_ | refine ordC_skip1 rfl rfl ?_ | ((first | refine ordC_q rfl rfl ?_ | refine ordC_p rfl rfl ?_); apply Exists.intro; refine ⟨fun wS hS => ?_, ?_⟩; (go_simp; try with_reducible rfl))); simp only [Act.put, List.setIfInBounds_toArray, List.set_cons_zero, List.set_cons_succ])
   refine ordC_l rfl rfl (fun K hK => ?_)
   go_simp
   refine (HMO.out _ HB0.out).mono ?_
   intro e w2 he
   rw [HMM.out] at he
   obtain ⟨rfl, hs⟩ := he
   exact ⟨rfl, rfl, hs⟩
 | ok br =>
   obtain ⟨b, r⟩ := br
   cases b with
   | false =>
     have HX : Hid (X = .ok ((), { n with first := false }, l)) := hid (by rw [hX]; unfold firstS; rw [hm])
     have HMM := hid hm
     clear hX hm
     go_enter Tryz.func79, Tryz.ntmps79
     go_wp2_with fail
     refine wp_region_ordC 99 [(0, 0), (1, 2), (2, 0), (3, 0), (4, 0), (5, 0), (6, 0), (7, 0), (8, 0), (9, 0), (10, 0), (11, 0), (12, 0), (13, 0)] (fun _ => True) (fun W' => W'.cell? ⟨R, 0, none⟩ = some (.string ⟨s.toArray⟩)) (by kernel_rfl) (by kernel_rfl) (trivial) (c0) ?_
     repeat ((first | refine ordC_skip rfl rfl ?_ | refine ordC_skip1 rfl rfl ?_ | ((first | refine ordC_q rfl rfl ?_ | refine ordC_p rfl rfl ?_); apply Exists.intro; refine ⟨fun wS hS => ?_, ?_⟩; (go_simp; try with_reducible rfl))); simp only [Act.put, List.setIfInBounds_toArray, List.set_cons_zero, List.set_cons_succ])
     refine ordC_l rfl rfl (fun K hK => ?_)
     go_simp
     refine (HMO.out _ HB0.out).mono ?_
     intro e w2 he
     rw [HMM.out] at he
     obtain ⟨rfl, q, hc2, hm2⟩ := he
     have HC2 := hid hc2; have HM2 := hid ((Mv.of_below HB0.out).trans hm2)
     refine hK _ _ ⟨trivial, hc2.c0⟩ ?_
     have hq1 := hc2.c1; have hzq := f1 hc2 1
     clear hK K hc2 hm2 c0 c1 z1
     repeat ((first | refine ordC_skip rfl rfl ?_ | refine ordC_skip1 rfl rfl ?_ | ((first | refine ordC_q rfl rfl ?_ | refine ordC_p rfl rfl ?_); apply Exists.intro; refine ⟨fun wS hS => ?_, ?_⟩; (go_simp; try with_reducible rfl))); simp only [Act.put, List.setIfInBounds_toArray, List.set_cons_zero, List.set_cons_succ])
     refine ordC_nil ?_
     go_wp2_with fail
     refine bodyPost_end (results_none rfl _ _ _) rfl ?_
     show RdRes R s c w _ _ _ _
     rw [HX.out, HFN.out]
     have hx := HC2.out.x.setC 1 (by simp) (.int .i64 (p : Int))
     exact ⟨rfl, p, c, ⟨hx, ⟨HC2.out.n.1, HC2.out.n.2.1.block fun g hg => Below.heap_setCell _ _ _ _ (by have := (HC2.out.n.2.1.lt g hg).1; simp; omega), HC2.out.n.2.2.block fun g hg => Below.heap_setCell _ _ _ _ (by have := (HC2.out.n.2.2.lt g hg).1; simp; omega)⟩, HD.out, by omega, hlim⟩, HM2.out.trans ⟨Same.setCell _ _ _ _ (fun e => e.1 rfl), fun _ h => .inl h, fun _ h => .inl h⟩⟩
   | true =>
     have hee := more_true hm
     obtain ⟨b0, t0, rfl⟩ : ∃ b0 t0, r = b0 :: t0 := by cases r with
       | nil => exact absurd hee (by decide)
       | cons a t => exact ⟨a, t, rfl⟩
     by_cases h45 : b0 = 45
     · subst h45
       have HX : Hid (X = .ok ((), { n with first := true }, t0)) := hid (by rw [hX]; unfold firstS; rw [hm]; simp only []; rw [if_pos (show (45 :: t0 : Bs).head? = some 45 from rfl)]; rfl)
       have HMM := hid hm
       clear hX hm hee
       go_enter Tryz.func79, Tryz.ntmps79
       go_wp2_with fail
       refine wp_region_ordC 99 [(0, 0), (1, 2), (2, 0), (3, 0), (4, 0), (5, 0), (6, 0), (7, 0), (8, 0), (9, 0), (10, 2), (11, 0), (12, 0), (13, 0)] (fun _ => True) (fun W' => W'.cell? ⟨R, 0, none⟩ = some (.string ⟨s.toArray⟩)) (by kernel_rfl) (by kernel_rfl) (trivial) (c0) ?_
       repeat ((first | refine ordC_skip rfl rfl ?_ | refine ordC_skip1 rfl rfl ?_ | ((first | refine ordC_q rfl rfl ?_ | refine ordC_p rfl rfl ?_); apply Exists.intro; refine ⟨fun wS hS => ?_, ?_⟩; (go_simp; try with_reducible rfl))); simp only [Act.put, List.setIfInBounds_toArray, List.set_cons_zero, List.set_cons_succ])
       refine ordC_l rfl rfl (fun K hK => ?_)
       go_simp
       refine (HMO.out _ HB0.out).mono ?_
       intro e w2 he
       rw [HMM.out] at he
       obtain ⟨rfl, q, hc2, hm2⟩ := he
       have HC2 := hid hc2; have HM2 := hid ((Mv.of_below HB0.out).trans hm2)
       refine hK _ _ ⟨trivial, hc2.c0⟩ ?_
       have hq1 := hc2.c1; have hzq := f1 hc2 1
       have hix := fun W => run_ix Tryz.underlying9 s q 45 hc2.at_ W
       clear hK K hc2 hm2 c0 c1 z1
       repeat ((first | refine ordC_skip rfl rfl ?_ | refine ordC_skip1 rfl rfl ?_ | ((first | refine ordC_q rfl rfl ?_ | refine ordC_p rfl rfl ?_); apply Exists.intro; refine ⟨fun wS hS => ?_, ?_⟩; (go_simp; try with_reducible rfl))); simp only [Act.put, List.setIfInBounds_toArray, List.set_cons_zero, List.set_cons_succ])
       refine ordC_l rfl rfl (fun K hK => ?_)
       go_simp
       refine hK _ _ ⟨trivial, HC2.out.c0⟩ ?_
       clear hK K
       repeat ((first | refine ordC_skip rfl rfl ?_ | refine ordC_skip1 rfl rfl ?_ | ((first | refine ordC_q rfl rfl ?_ | refine ordC_p rfl rfl ?_); apply Exists.intro; refine ⟨fun wS hS => ?_, ?_⟩; (go_simp; try with_reducible rfl))); simp only [Act.put, List.setIfInBounds_toArray, List.set_cons_zero, List.set_cons_succ])
       refine ordC_nil ?_
       have hqb : q ≤ 1000000 := by have := HC2.out.le; have := HC2.out.lim; omega
       have HT1 := HC2.out.to 1 rfl (by simp) (q + 1) rfl
       have HT2 := HT1.1.setCellR 6 (.bool true) { c with first := true } { n with first := true } (by decide) rfl ⟨rfl, rfl, rfl, rfl, rfl, rfl⟩ ⟨rfl, rfl⟩ ⟨HC2.out.n.1.1, HC2.out.n.1.2.1, rfl, HC2.out.n.1.2.2.2.1⟩
       rw [Int.natCast_add] at HT1 HT2
       have HA1 := hid HT1; have HA2 := hid HT2
       have hx6 := HC2.out.x.1 6; have z6 := f1 HC2.out 6
       clear HT1 HT2
       go_wp2_with fail
       refine bodyPost_ret (results_none rfl _ _ _) rfl ?_
       show RdRes R s c w _ _ _ _
       rw [HX.out]
       exact ⟨rfl, q + 1, _, HA2.out.1, HM2.out.trans (HA1.out.2.trans HA2.out.2)⟩
     · have hb45 : ((b0.toNat : Int) == 45) = false := beq_eq_false_iff_ne.2 (fun e => h45 (UInt8.toNat_inj.1 (by show b0.toNat = 45; omega)))
       have HX : Hid (X = .ok ((), { n with first := false }, l)) := hid (by rw [hX]; unfold firstS; rw [hm]; simp only []; rw [if_neg (by simpa using h45)])
       have HMM := hid hm
       clear hX hm hee h45
       go_enter Tryz.func79, Tryz.ntmps79
       go_wp2_with fail
       refine wp_region_ordC 99 [(0, 0), (1, 2), (2, 0), (3, 0), (4, 0), (5, 0), (6, 0), (7, 0), (8, 0), (9, 0), (10, 2), (11, 0), (12, 0), (13, 0)] (fun _ => True) (fun W' => W'.cell? ⟨R, 0, none⟩ = some (.string ⟨s.toArray⟩)) (by kernel_rfl) (by kernel_rfl) (trivial) (c0) ?_
       repeat ((first | refine ordC_skip rfl rfl ?_ | refine ordC_skip1 rfl rfl ?_ | ((first | refine ordC_q rfl rfl ?_ | refine ordC_p rfl rfl ?_); apply Exists.intro; refine ⟨fun wS hS => ?_, ?_⟩; (go_simp; try with_reducible rfl))); simp only [Act.put, List.setIfInBounds_toArray, List.set_cons_zero, List.set_cons_succ])
       refine ordC_l rfl rfl (fun K hK => ?_)
       go_simp
       refine (HMO.out _ HB0.out).mono ?_
       intro e w2 he
       rw [HMM.out] at he
       obtain ⟨rfl, q, hc2, hm2⟩ := he
       have HC2 := hid hc2; have HM2 := hid ((Mv.of_below HB0.out).trans hm2)
       refine hK _ _ ⟨trivial, hc2.c0⟩ ?_
       have hq1 := hc2.c1; have hzq := f1 hc2 1
       have hix := fun W => run_ix Tryz.underlying9 s q b0 hc2.at_ W
       clear hK K hc2 hm2 c0 c1 z1
       repeat ((first | refine ordC_skip rfl rfl ?_ | refine ordC_skip1 rfl rfl ?_ | ((first | refine ordC_q rfl rfl ?_ | refine ordC_p rfl rfl ?_); apply Exists.intro; refine ⟨fun wS hS => ?_, ?_⟩; (go_simp; try with_reducible rfl))); simp only [Act.put, List.setIfInBounds_toArray, List.set_cons_zero, List.set_cons_succ])
       refine ordC_l rfl rfl (fun K hK => ?_)
       go_simp
       refine hK _ _ ⟨trivial, HC2.out.c0⟩ ?_
       clear hK K
       repeat ((first | refine ordC_skip rfl rfl ?_ | refine ordC_skip1 rfl rfl ?_ | ((first | refine ordC_q rfl rfl ?_ | refine ordC_p rfl rfl ?_); apply Exists.intro; refine ⟨fun wS hS => ?_, ?_⟩; (go_simp; try with_reducible rfl))); simp only [Act.put, List.setIfInBounds_toArray, List.set_cons_zero, List.set_cons_succ])
       refine ordC_nil ?_
       go_wp2_with fail
       refine bodyPost_end (results_none rfl _ _ _) rfl ?_
       show RdRes R s c w _ _ _ _
       rw [HX.out, HFN.out]
       have hx := HC2.out.x.setC 1 (by simp) (.int .i64 (p : Int))
       exact ⟨rfl, p, c, ⟨hx, ⟨HC2.out.n.1, HC2.out.n.2.1.block fun g hg => Below.heap_setCell _ _ _ _ (by have := (HC2.out.n.2.1.lt g hg).1; simp; omega), HC2.out.n.2.2.block fun g hg => Below.heap_setCell _ _ _ _ (by have := (HC2.out.n.2.2.lt g hg).1; simp; omega)⟩, HD.out, by omega, hlim⟩, HM2.out.trans ⟨Same.setCell _ _ _ _ (fun e => e.1 rfl), fun _ h => .inl h, fun _ h => .inl h⟩⟩
end Yd


namespace Yd
open Go Go.RowKit Go.Proofs

def actF : Nat → Nat
 | 0 => 74
 | 1 => 75
 | _ => 76
def actS (a : Nat) (n : LnS) (l : Bs) : Except Er (Unit × LnS × Bs) :=
 if a = 0 then (match nameS l with | .error x => .error x | .ok (m, r) => .ok ((), addN n m, r))
 else if a = 1 then (match wordS levelL l with | .error x => .error x | .ok (i, r) => .ok ((), { n with lvl := 1 + (i : Int) }, r))
 else (match versS l with | .error x => .error x | .ok (v, r) => .ok ((), addV n v, r))
def doesS : List Nat → LnS → Bs → Except Er (Unit × LnS × Bs)
 | [], n, l => .ok ((), n, l)
 | a :: t, n, l => match mustS l with
   | .error x => .error x
   | .ok r => match actS a n r with
     | .error x => .error x
     | .ok (_, n', r') => doesS t n' r'
def encAct (R : Nat) (a : Nat) : List Value := [.func (.func (actF a)) #[.pointer (some ⟨R, 0, none⟩)] #[]]
theorem call_take : ∀ args w, (callFunc 74 args).run Tryz.prog w = .ok (.enter 74 args) w := enters_of Tryz.func74 (by kernel_rfl) rfl
theorem call_level : ∀ args w, (callFunc 75 args).run Tryz.prog w = .ok (.enter 75 args) w := enters_of Tryz.func75 (by kernel_rfl) rfl
theorem call_vers : ∀ args w, (callFunc 76 args).run Tryz.prog w = .ok (.enter 76 args) w := enters_of Tryz.func76 (by kernel_rfl) rfl
theorem rd_act {R p : Nat} {s l : Bs} {c : LnC} {n : LnS} (a : Nat) (w : World) (h : RdC w R s p l c n) (hG : GlR R w) (hn : n.names.length ≤ 1000) (hv : n.vers.length ≤ 1000) :
   Calls Tryz.prog (actF a) #[.pointer (some ⟨R, 0, none⟩)] w (RdRes R s c w (fun _ : Unit => .tuple #[]) (actS a n l)) := by
 unfold actS
 match a with
 | 0 => exact rd_takeName w h hG.tabs hn
 | 1 => exact rd_level w h
 | a + 2 => exact rd_version w h hG hv
theorem act_len {a : Nat} {n n' : LnS} {l r : Bs} {u : Unit} (h : actS a n l = .ok (u, n', r)) : n'.names.length ≤ n.names.length + 1 ∧ n'.vers.length ≤ n.vers.length + 1 := by
 unfold actS at h
 split at h
 · split at h
   · cases h
   · injection h with h; injection h with _ h; injection h with h _; subst h; simp
 · split at h
   · split at h
     · cases h
     · injection h with h; injection h with _ h; injection h with h _; subst h; simp
   · split at h
     · cases h
     · injection h with h; injection h with _ h; injection h with h _; subst h; simp
theorem Mv.row {α : Type} {enc : α → List Value} {k : Nat} {R : Nat} {c c' : LnC} {w w' : World} (hm : Mv R c c' w w') {b o n cc : Nat} {xs : List α} (h : Row w k enc (some ⟨b, o, none⟩) n cc xs) (hb : RdA R c b) (hl : b < w.heap.size) : Row w' k enc (some ⟨b, o, none⟩) n cc xs :=
 ⟨h.1, h.2.1, h.2.2.1, h.2.2.2.1, fun i x hx => let ⟨b', o', e, hc⟩ := h.2.2.2.2 i x hx; ⟨b', o', e, fun j v hv => by
   injection e with e; injection e with e1 e2; subst e1
   exact (World.cell?_of_block (a := ⟨b, o' + i * k + j, none⟩) (hm.same.block b hb hl)).trans (hc j v hv)⟩⟩
theorem rd_does {R p : Nat} {s l : Bs} {c : LnC} {n : LnS} (w : World) (h : RdC w R s p l c n) (hG : GlR R w) (b o nn cc : Nat) (acts : List Nat) (hr : Row w 1 (encAct R) (some ⟨b, o, none⟩) nn cc acts) (hb : RdA R c b) (hbl : b < w.heap.size) (hnn : nn ≤ 10) (hn : n.names.length ≤ 900) (hv : n.vers.length ≤ 900) :
   Calls Tryz.prog 77 #[.pointer (some ⟨R, 0, none⟩), .slice (some ⟨b, o, none⟩) nn cc] w (RdRes R s c w (fun _ : Unit => .tuple #[]) (doesS acts n l)) := by
 obtain ⟨X, hX⟩ : ∃ X, X = doesS acts n l := ⟨_, rfl⟩
 rw [← hX]
 have HR := hid hr; have HH := hid h; have HG := hid hG; have HBA := hid hb; have HBL := hid hbl; have HX := hid hX; have HN := hid (⟨hn, hv⟩ : _ ∧ _)
 have hlen := hr.len
 clear hr h hG hb hbl hX hn hv
 go_enter Tryz.func77, Tryz.ntmps77
 go_wp2_with fail
 go_loopw [8] (fun i wr => ∃ (W : World) (k q : Nat) (l1 : Bs) (c1 : LnC) (n1 : LnS), W = wr ∧ i = .int .i64 k ∧ k ≤ nn ∧ RdC W R s q l1 c1 n1 ∧ Mv R c c1 w W ∧ GlR R W ∧ doesS (acts.drop k) n1 l1 = X ∧ n1.names.length ≤ 900 + k ∧ n1.vers.length ≤ 900 + k) (fun i _ => nn - (RowKit.intOf i).toNat)
 case atStart => exact ⟨_, 0, p, l, c, n, rfl, rfl, Nat.zero_le _, HH.out, Mv.refl _ _ _, HG.out, HX.out.symm, HN.out.1, HN.out.2⟩
 case round =>
   obtain ⟨W, k, q, l1, c1, n1, rfl, rfl, hk, hc, hm, hg, hx, h1, h2⟩ := hrel
   by_cases hlt : k < nn
   · obtain ⟨a, b', o', hxa, hab, hcell⟩ := (hm.row HR.out HBA.out HBL.out).at_ hlt
     injection hab with hab
     injection hab with e1 e2
     subst e1 e2
     have hc0 := hcell 0 _ rfl
     simp only [Nat.mul_one, Nat.add_zero] at hc0
     have hdr : acts.drop k = a :: acts.drop (k + 1) := by
       obtain ⟨hl1, he⟩ := List.getElem?_eq_some_iff.1 hxa
       rw [List.drop_eq_getElem_cons hl1, he]
     rw [hdr] at hx
     simp only [doesS] at hx
     have HC := hid hc; have HM := hid hm; have HGW := hid hg; have HXX := hid hx; have H12 := hid (⟨h1, h2⟩ : _ ∧ _)
     have HMU := hid (rd_must W hc)
     clear hcell hxa hdr hc hm hg hx h1 h2
     go_wp2_with fail
     refine HMU.out.mono ?_
     intro e w2 he
     cases hmu : mustS l1 with
     | error x =>
       rw [hmu] at he
       obtain ⟨rfl, hs⟩ := he
       refine ⟨rfl, ?_⟩
       show RdRes R s c w _ _ _ _
       rw [← HXX.out, hmu]
       exact ⟨rfl, HM.out.sameTrans hs⟩
     | ok r =>
       rw [hmu] at he
       obtain ⟨rfl, q2, hc2, hm2⟩ := he
       have HX2 : Hid ((match actS a n1 r with | .error x => .error x | .ok (_, n', r') => doesS (acts.drop (k + 1)) n' r') = X) := hid (by have := HXX.out; rw [hmu] at this; exact this)
       have HC2 := hid hc2; have HM2 := hid (HM.out.trans hm2)
       have HG2 := hid (HGW.out.mv HC.out hm2.same)
       have HAC := hid (rd_act a w2 hc2 HG2.out (by have := H12.out; omega) (by have := H12.out; omega))
       have hcf : ∀ args w, (callFunc (actF a) args).run Tryz.prog w = .ok (.enter (actF a) args) w := by
         match a with
         | 0 => exact call_take
         | 1 => exact call_level
         | a + 2 => exact call_vers
       clear hc2 hm2 hmu
       go_wp2_with fail
       refine HAC.out.mono ?_
       intro e w3 he
       cases ha : actS a n1 r with
       | error x =>
         rw [ha] at he
         obtain ⟨rfl, hs⟩ := he
         refine ⟨rfl, ?_⟩
         show RdRes R s c w _ _ _ _
         rw [← HX2.out, ha]
         exact ⟨rfl, HM2.out.sameTrans hs⟩
       | ok ur =>
         obtain ⟨u, n3, r3⟩ := ur
         rw [ha] at he
         obtain ⟨rfl, q3, c3, hc3, hm3⟩ := he
         have hal := act_len ha
         have HX3 : Hid (doesS (acts.drop (k + 1)) n3 r3 = X) := hid (by have := HX2.out; rw [ha] at this; exact this)
         have HC3 := hid hc3; have HM3 := hid (HM2.out.trans hm3); have HG3 := hid (HG2.out.mv HC2.out hm3.same); have HAL := hid hal
         clear hc3 hm3 hal ha
         go_wp2_with fail
         go_roundw
         case rel => exact ⟨_, k + 1, q3, r3, c3, n3, rfl, by go_num, by omega, HC3.out, HM3.out, HG3.out, HX3.out, by have := HAL.out; have := H12.out; omega, by have := HAL.out; have := H12.out; omega⟩
         case measure => simp [RowKit.intOf]; omega
   · obtain rfl : k = nn := by omega
     rw [List.drop_of_length_le (by omega)] at hx
     have HXX : Hid (X = .ok ((), n1, l1)) := hid hx.symm
     have HC := hid hc; have HM := hid hm
     clear hx hc hm hg h1 h2
     go_wp2_with fail
     refine bodyPost_end (results_none rfl _ _ _) rfl ?_
     show RdRes R s c w _ _ _ _
     rw [HXX.out]
     exact ⟨rfl, q, c1, HC.out, HM.out⟩
end Yd


namespace Yd
open Go Go.RowKit Go.Proofs

theorem or_tab : ∀ k : Fin 4, ∀ b : Fin 8, b.val < 2 ^ k.val → Go.bits .or .i64 (b.val : Int) (2 ^ k.val : Int) = (b.val : Int) + 2 ^ k.val := by decide
theorem or_bit (k b : Nat) (hk : k < 4) (hb : b < 2 ^ k) : Go.bits .or .i64 (b : Int) (2 ^ k : Int) = (b : Int) + 2 ^ k := by
 have h8 : b < 8 := Nat.lt_of_lt_of_le hb (by
   have : k ≤ 3 := by omega
   exact Nat.le_trans (Nat.pow_le_pow_right (by decide) this) (by decide))
 exact or_tab ⟨k, hk⟩ ⟨b, h8⟩ hb
theorem wrap_bit (k i : Nat) (h : k + i < 4) : wrap64 ((k : Int) + (i : Int)) = ((k + i : Nat) : Int) := by
 unfold wrap64; omega
theorem wrap_bit1 (k i : Nat) (h : k + i < 4) : wrap64 ((k : Int) + (i : Int) + 1) = ((k + i + 1 : Nat) : Int) := by
 unfold wrap64; omega
theorem shl_tab (m : Nat) (h : m < 4) (W : World) : (Go.Op.shift .shl .i64 1 .i64 (m : Int)).run Tryz.prog W = .ok (.int .i64 (2 ^ m)) W := by
 rcases (by omega : m = 0 ∨ m = 1 ∨ m = 2 ∨ m = 3) with rfl | rfl | rfl | rfl <;> rfl
theorem shl_bit (k i : Nat) (h : k + i < 4) (W : World) : (Go.Op.shift .shl .i64 1 .i64 ((k : Int) + (i : Int))).run Tryz.prog W = .ok (.int .i64 (2 ^ (k + i))) W := by
 have := shl_tab (k + i) h W
 simpa using this
theorem guard_row {w : World} (hg : GlobL w) (k : Nat) (hk : k ≤ 4) : Row w 1 encStr (some ⟨1, k, none⟩) (4 - k) (4 - k) (guardL.drop k) := by
 refine ⟨by simp [guardL], Nat.le_refl _, by omega, fun h => (by cases h), fun i x hx => ⟨1, k, rfl, fun j v hv => ?_⟩⟩
 rw [List.getElem?_drop] at hx
 have hi : k + i < 4 := by
   have := (List.getElem?_eq_some_iff.1 hx).1
   simpa [guardL] using this
 obtain rfl : j = 0 := by
   have := (List.getElem?_eq_some_iff.1 hv).1
   simpa [encStr] using this
 have hv' : v = .string ⟨x.toArray⟩ := by simpa [encStr] using hv.symm
 have hx' : x = guardT (k + i) := by
   have h4 : ∀ m, m < 4 → guardL[m]? = some (guardT m) := fun m hm => by
     rcases (by omega : m = 0 ∨ m = 1 ∨ m = 2 ∨ m = 3) with rfl | rfl | rfl | rfl <;> rfl
   rw [h4 _ hi] at hx
   injection hx with hx; exact hx.symm
 have := hg.2.2.1 (k + i) hi
 rw [hv', hx']
 simpa using this
def gOff (k : Nat) : Nat := if k = 4 then 0 else k
theorem sl_guards (k : Nat) (hk : k ≤ 4) (W : World) : (Instr.sliceAt 80 (.pointer (some ⟨1, 0, none⟩)) (some (.int .i64 (k : Int))) none none).run Tryz.prog W = .ok (.slice (some ⟨1, gOff k, none⟩) (4 - k) (4 - k)) W := by
 rcases (by omega : k = 0 ∨ k = 1 ∨ k = 2 ∨ k = 3 ∨ k = 4) with rfl | rfl | rfl | rfl | rfl <;> kernel_rfl
theorem guard_row2 {w : World} (hg : GlobL w) (k : Nat) (hk : k ≤ 4) : Row w 1 encStr (some ⟨1, gOff k, none⟩) (4 - k) (4 - k) (guardL.drop k) := by
 by_cases h4 : k = 4
 · subst h4
   exact ⟨rfl, Nat.le_refl _, by omega, fun h => (by cases h), fun i x hx => by simp [guardL] at hx⟩
 · unfold gOff; rw [if_neg h4]; exact guard_row hg k hk
theorem guardL_ok : (∀ x ∈ guardL, x.length ≤ 100) ∧ (∀ x ∈ guardL, (128 : UInt8) ∉ x) := by decide
theorem rd_guarantees {R p : Nat} {s l : Bs} {c : LnC} {n : LnS} (w : World) (h : RdC w R s p l c n) (hG : GlR R w) (hb : n.bits = 0) :
   Calls Tryz.prog 78 #[.pointer (some ⟨R, 0, none⟩)] w (RdRes R s c w (fun _ : Unit => .tuple #[]) (match guarS 5 0 0 l with | .error x => .error x | .ok (b, r) => .ok ((), { n with bits := b }, r))) := by
 obtain ⟨Y, hY⟩ : ∃ Y : Except Er (Unit × LnS × Bs), Y = (match guarS 5 0 0 l with | .error x => .error x | .ok (b, r) => .ok ((), { n with bits := b }, r)) := ⟨_, rfl⟩
 rw [← hY]
 have HY1 : Hid (∀ x, guarS 5 0 0 l = .error x → Y = .error x) := hid (fun x hx => by rw [hY, hx])
 have HY2 : Hid (∀ b r, guarS 5 0 0 l = .ok (b, r) → Y = .ok ((), { n with bits := b }, r)) := hid (fun b r hx => by rw [hY, hx])
 clear hY
 obtain ⟨X, hX⟩ : ∃ X : Except Er (Int × Bs), X = guarS 5 0 0 l := ⟨_, rfl⟩
 rw [← hX] at HY1 HY2
 have HX := hid hX; have HH := hid h; have HG := hid hG; have HN : Hid (n = { n with bits := 0 }) := hid (by cases n; simp at hb; subst hb; rfl)
 clear hX h hG hb
 go_enter Tryz.func78, Tryz.ntmps78
 go_wp2_with fail
 go_loopw [2] (fun i wr => ∃ (W : World) (k f q b : Nat) (l1 : Bs) (c1 : LnC), W = wr ∧ i = .int .i64 k ∧ k ≤ 4 ∧ 5 ≤ f + k ∧ b < 2 ^ k ∧ RdC W R s q l1 c1 { n with bits := b } ∧ Mv R c c1 w W ∧ GlR R W ∧ guarS f k b l1 = X) (fun i _ => 4 - (RowKit.intOf i).toNat)
 case atStart => exact ⟨_, 0, 5, p, 0, l, c, rfl, rfl, by omega, by omega, by decide, by have := HH.out; rw [HN.out] at this; exact this, Mv.refl _ _ _, HG.out, HX.out.symm⟩
 case round =>
   obtain ⟨W, k, f, q, b, l1, c1, rfl, rfl, hk, hf, hbk, hc, hm, hg, hx⟩ := hrel
   obtain ⟨f, rfl⟩ : ∃ f', f = f' + 1 := ⟨f - 1, by omega⟩
   simp only [guarS] at hx
   have HC := hid hc; have HM := hid hm; have HGW := hid hg; have HXX := hid hx; have HBK := hid hbk; have HF := hid hf
   have HMO := hid (rd_more W hc)
   clear hc hm hg hx hbk
   go_wp2_with fail
   refine HMO.out.mono ?_
   intro e w2 he
   cases hmo : moreS l1 with
   | error x =>
     rw [hmo] at he
     obtain ⟨rfl, hs⟩ := he
     refine ⟨rfl, ?_⟩
     show RdRes R s c w _ _ _ _
     rw [HY1.out x (by have := HXX.out; rw [hmo] at this; exact this.symm)]
     exact ⟨rfl, HM.out.sameTrans hs⟩
   | ok br =>
     obtain ⟨bb, r⟩ := br
     rw [hmo] at he
     obtain ⟨rfl, q2, hc2, hm2⟩ := he
     have HC2 := hid hc2; have HM2 := hid (HM.out.trans hm2); have HG2 := hid (HGW.out.mv HC.out hm2.same)
     cases bb
     · have HX2 : Hid (X = .ok ((b : Int), r)) := hid (by have := HXX.out; rw [hmo] at this; exact this.symm)
       clear hc2 hm2 hmo
       go_wp2_with fail
       refine bodyPost_end (results_none rfl _ _ _) rfl ?_
       show RdRes R s c w _ _ _ _
       rw [HY2.out _ _ HX2.out]
       exact ⟨rfl, q2, c1, HC2.out, HM2.out⟩
     · have HX2 : Hid ((match wordS (guardL.drop k) r with | .error x => .error x | .ok (i, r') => guarS f (k + i + 1) ((b : Int) + 2 ^ (k + i)) r') = X) := hid (by have := HXX.out; rw [hmo] at this; exact this)
       have hsg := fun W => sl_guards k hk W
       have HW := hid (rd_word w2 hc2 (some ⟨1, gOff k, none⟩) (4 - k) (4 - k) (guardL.drop k) (guard_row2 HG2.out.l k hk) (by omega) (fun x hx => guardL_ok.1 x (List.mem_of_mem_drop hx)) (fun x hx => guardL_ok.2 x (List.mem_of_mem_drop hx)))
       clear hc2 hm2 hmo
       go_wp2_with fail
       refine HW.out.mono ?_
       intro e w3 he
       cases hwo : wordS (guardL.drop k) r with
       | error x =>
         rw [hwo] at he
         obtain ⟨rfl, hs⟩ := he
         refine ⟨rfl, ?_⟩
         show RdRes R s c w _ _ _ _
         rw [HY1.out x (by have := HX2.out; rw [hwo] at this; exact this.symm)]
         exact ⟨rfl, HM2.out.sameTrans hs⟩
       | ok ir =>
         obtain ⟨i, r3⟩ := ir
         rw [hwo] at he
         obtain ⟨rfl, q3, hc3, hm3⟩ := he
         have hi : k + i < 4 := by
           unfold wordS at hwo
           split at hwo
           · rename_i j hj
             injection hwo with hwo
             injection hwo with hwo _
             have := (List.findIdx?_eq_some_iff_getElem.1 hj).1
             subst hwo
             simp [guardL] at this
             omega
           · cases hwo
         have HX3 : Hid (guarS f (k + i + 1) ((b : Int) + 2 ^ (k + i)) r3 = X) := hid (by have := HX2.out; rw [hwo] at this; exact this)
         have hor := or_bit (k + i) b hi (Nat.lt_of_lt_of_le HBK.out (Nat.pow_le_pow_right (by decide) (by omega)))
         have HC3 := hid hc3; have HM3 := hid (HM2.out.trans hm3); have HG3 := hid (HG2.out.mv HC2.out hm3.same); have HI := hid hi; have HOR := hid hor
         clear hc3 hm3 hwo hi hor
         have H7 : Hid (w3.cell? ⟨R, 7, none⟩ = some (.int .i64 (b : Int))) := hid (by have h := HC3.out.x.1 7; have hb : c1.bits = (b : Int) := HC3.out.n.1.2.2.2.1; rw [← hb]; exact h)
         have hc7 := H7.out; have hf7 := f1 HC3.out 7; have hsh := fun W => shl_bit k i HI.out W; have hor := HOR.out
         go_wp2_with fail
         rw [wrap_bit k i HI.out]
         refine wp_region_ordC 11 [(0, 1), (1, 1), (2, 1), (3, 1), (4, 0), (5, 1), (6, 1), (7, 0), (8, 1), (9, 1), (10, 1), (11, 2)] (fun _ => True) (fun W' => W'.cell? ⟨R, 7, none⟩ = some (.int .i64 (b : Int))) (by kernel_rfl) (by kernel_rfl) (trivial) (H7.out) ?_
         repeat ((first | refine ordC_skip rfl rfl ?_ | refine ordC_skip1 rfl rfl ?_ | ((first | refine ordC_q rfl rfl ?_ | refine ordC_p rfl rfl ?_); apply Exists.intro; refine ⟨fun wS hS => ?_, ?_⟩; (go_simp; try with_reducible rfl))); simp only [Act.put, List.setIfInBounds_toArray, List.set_cons_zero, List.set_cons_succ])
         refine ordC_m rfl rfl rfl (fun K hK => ?_)
         go_simp
         refine hK _ _ trivial ?_
         clear hK K
         refine ordC_nil ?_
         have h4 := HC3.out.setCellR 7 (.int .i64 ((b : Int) + 2 ^ (k + i))) { c1 with bits := (b : Int) + 2 ^ (k + i) } { n with bits := (b : Int) + 2 ^ (k + i) } (by decide) rfl ⟨rfl, rfl, rfl, rfl, rfl, rfl⟩ ⟨rfl, rfl⟩ ⟨HC3.out.n.1.1, HC3.out.n.1.2.1, HC3.out.n.1.2.2.1, rfl⟩
         have HC4 := hid h4.1.drew; have HM4 := hid (HM3.out.trans (h4.2.trans (Mv.of_below (Below.refl _ _).drew))); have HG4 := hid (HG3.out.mv HC3.out (h4.2.trans (Mv.of_below (Below.refl _ _).drew)).same)
         clear h4
         go_wp2_with fail
         go_roundw
         case rel => exact ⟨_, k + i + 1, f, q3, b + 2 ^ (k + i), r3, _, rfl, by rw [wrap_bit1 k i HI.out], by have := HI.out; omega, by have := HF.out; omega, by have := HBK.out; have : 2 ^ k ≤ 2 ^ (k + i) := Nat.pow_le_pow_right (by decide) (by omega); rw [Nat.pow_succ]; omega, by have := HC4.out; simpa using this, HM4.out, HG4.out, by have := HX3.out; simpa using this⟩
         case measure => have := HI.out; rw [wrap_bit1 k i HI.out]; simp [RowKit.intOf] <;> omega
end Yd
