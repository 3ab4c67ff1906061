import Derived.Test.YthkpjdgmpjhhmaaGreatDoorLawOwn
import Derived.Test.YthkpjdgmpjhhmaaGreatDoorRefF
import Derived.Test.YthkpjdgmpjhhmaaGreatDoorCount
import Derived.Test.YthkpjdgmpjhhmaaGreatDoorLineX
import Derived.Test.YthkpjdgmpjhhmaaGreatDoorProg
namespace Yd
open Go Go.RowKit Go.Proofs
attribute [local go_sem] Oper.semAt_some

/-- What print.Count hands back, of a history that may be: too many writes, or a history of the call's own that says the same, its writes numbered. -/
def RetP (w : World) (c : Cont) (e : Ending) (X : World) : Prop :=
  if overB c.E = true then Ret2 (.agg #[.slice none 0 0, .slice none 0 0, .slice none 0 0, .slice none 0 0, .slice none 0 0, .slice none 0 0, .slice none 0 0, .slice none 0 0]) (.int .i64 6) w e X
  else ∃ h es ds ms, ∃ scan : EvC → List Sn, ∃ dn : OrC → List Int, ∃ mn : MaC → List Int, e = .returned (.tuple #[valH h, .int .i64 0]) ∧ Says X h c.num es ds ms scan dn mn ∧ Below w.heap.size w X ∧
    (Own X w.heap.size 49 9 encEv h.e.v es ∧ Any X w.heap.size 69 3 encSn EvC.sl es) ∧ Own X w.heap.size 72 2 encOr h.d.v ds ∧ Any X w.heap.size 3 1 encInt OrC.sl ds
theorem St.says {w X Y : World} {h : HC} {es : List EvC} {ds : List OrC} {ms : List MaC} {c : Cont} (s : St w X h es ds ms c) (hs : Same (fun i => i ≠ w.heap.size + 1) X Y) (b : Below w.heap.size w Y) : ∃ scan dn mn, Says Y h c es ds ms scan dn mn := by
  obtain ⟨h', es', ds', ms', scan, dn, mn, e, h1, h2, h3, h4, h5, h6, h7, h8, h9⟩ := s.own2 hs b
  obtain ⟨cs, fz, ht⟩ := s.t2
  obtain ⟨h1, h2⟩ := (s.se.same ht (by decide) hs).eps (hc := cInsSn) inj_sn b
  obtain ⟨h3, h4⟩ := (s.sd.same ht (by decide) hs).eps (hc := cInsInt) inj_int b
  obtain ⟨h5, h6⟩ := (s.sm.same ht (by decide) hs).eps (hc := cInsInt) inj_int b
  exact ⟨_, _, _, ⟨⟨(s.e.same ht (by decide) hs).row (hc := cInsEv) b, (s.d.same ht (by decide) hs).row (hc := cInsOr) b, (s.m.same ht (by decide) hs).row (hc := cInsMa) b, (s.q.same ht (by decide) hs).row (hc := cInsWa) b, h1, h3, h5⟩, fun i hi => ((s.n i hi).same ht (by decide) hs).row (hc := cInsStr) b, s.be, s.bd, s.bm, h2, h4, h6⟩⟩

set_option maxRecDepth 100000 in
set_option maxHeartbeats 4000000 in
theorem pcount_yes (h : HC) (nl : Nat → List Bs) (es : List EvC) (ds : List OrC) (ms : List MaC) (qs : List Wa) (scan : EvC → List Sn) (dn : OrC → List Int) (mn : MaC → List Int) (w : World) (hg : GlobH w)
    (hn : ∀ i, i < 4 → Row w 1 encStr (h.nm i).a (h.nm i).n (h.nm i).c (nl i)) (hd : Deep w h es ds ms qs scan dn mn) (hB : BulkH nl es ds ms qs scan dn mn) (hc : checkB h nl es ds ms qs scan dn mn = true) :
    Calls Tryz.prog 21 #[valH h] w (RetP w (contOf h.e.n nl es ds ms qs scan dn mn)) := by
  have hst := St.start hn hd hB h.e.n (Nat.le_refl _)
  have HCK := hid (check_any h nl es ds ms qs scan dn mn _ (hg.below hst.b) (fun i hi => (hn i hi).below hst.b rfl) (hd.below hst.b rfl))
  rw [hc] at HCK
  obtain ⟨C, hC⟩ : ∃ C, C = contOf h.e.n nl es ds ms qs scan dn mn := ⟨_, rfl⟩
  have HC := hid hC
  rw [← hC] at hst
  rw [← hC]
  have HWF0 := hid (wf_of_check hn hc)
  have HMX : Hid (h.e.n ≤ 3000) := hid (by
    have h1 := hc
    simp only [checkB, shapedB, namesB, Bool.and_eq_true] at h1
    exact (many_le h1.1.1.1.1.1.1.1).1)
  have HELEN := hid hd.1.len
  have HWF : Hid (∀ e ∈ C.E, e.kind = 2 → wfI e.t ∧ wfI e.obj) := hid (by
    rw [hC]
    intro e he
    obtain ⟨x, hx, rfl⟩ := List.mem_map.1 he
    exact HWF0.out x (List.mem_of_mem_take hx))
  have HQS : Hid (C.Q = qs) := hid (by rw [hC]; rfl)
  have HST := hid hst
  have HCL0 : Hid (C.E.length = es.length) := hid (by rw [hC]; simp only [contOf, List.length_map, List.length_take, HELEN.out, Nat.min_self])
  have hbx := hst.bx; have hb2 := hst.b2
  have hcx := hbx.1; have hfx := hbx.2.1; have hlx := hbx.2.2
  clear hn hd hst hC hB hbx hb2 hg hc
  obtain ⟨ht, hs, ho, hp, hee, hdd, hmm, hww⟩ := h
  go_enter Tryz.func21, Tryz.ntmps21
  go_wp2_with fail
  refine HCK.out.mono ?_
  rintro e w1 ⟨rfl, hb1⟩
  have HS1 := hid (HST.out.below hb1)
  rw [show checkE true = 0 from rfl]
  clear hb1 hcx hfx hlx
  have hbx := HS1.out.bx; have hb2 := HS1.out.b2
  have hcx := hbx.1; have hfx := hbx.2.1; have hlx := hbx.2.2; have hc2 := hb2.1; have hf2 := hb2.2.1; have hl2 := hb2.2.2
  go_wp2_with fail
  refine wp_region_ordC 12 [(0, 0), (1, 0), (3, 0), (4, 0), (6, 0), (7, 0), (9, 0), (10, 0), (2, 2), (12, 1), (5, 2), (8, 2), (11, 2), (13, 2), (14, 1), (15, 2), (16, 1), (17, 2), (18, 1), (19, 2)] (fun _ => True) (fun W' => Bx W' w.heap.size (cellsH ⟨ht, hs, ho, hp, hee, hdd, hmm, hww⟩)) (by kernel_rfl) (by kernel_rfl) (trivial) (HS1.out.bx) ?_
  repeat (first
    | (refine ordC_skip rfl rfl ?_; simp only [Act.put, List.setIfInBounds_toArray, List.set_cons_zero, List.set_cons_succ])
    | (refine ordC_skip1 rfl rfl ?_; simp only [Act.put, List.setIfInBounds_toArray, List.set_cons_zero, List.set_cons_succ])
    | (refine ordC_q rfl rfl ?_; apply Exists.intro; refine ⟨fun wS hS => ?_, ?_⟩; (go_simp; try with_reducible rfl); simp only [Act.put, List.setIfInBounds_toArray, List.set_cons_zero, List.set_cons_succ])
    | (refine ordC_p rfl rfl ?_; apply Exists.intro; refine ⟨fun wS hS => ?_, ?_⟩; (go_simp; try with_reducible rfl); simp only [Act.put, List.setIfInBounds_toArray, List.set_cons_zero, List.set_cons_succ]))
  refine ordC_l rfl rfl (fun K hK => ?_)
  go_simp
  have HD0 := hid (HS1.out.drew); clear hbx hb2 hcx hfx hlx hc2 hf2 hl2
  have hrw := (HD0.out.n 0 (by decide)).row (hc := cInsStr) HD0.out.b
  have hLn := (HD0.out.n 0 (by decide)).1
  refine (show Calls _ _ _ _ (RetOwn 9 1 encStr (C.nl 0) _) from by have := cloneStr ht.a ht.c (C.nl 0) _ (by rw [hrw.len]; exact hrw) (by omega); rw [show (C.nl 0).length = ht.n from hrw.len] at this; exact this).mono ?_
  rintro en Y0 ⟨n0, d0, rfl, ho0, hb0⟩
  have HN0 := hid (HD0.out.below hb0); have HON0 := hid (ho0.mono (HD0.out.b.size)); have HBN0 := hid hb0; have HLN0 := hid hLn
  refine hK _ _ ⟨trivial, HN0.out.bx⟩ ?_
  clear hK K ho0 hb0 hrw hLn
  repeat (first
    | (refine ordC_skip rfl rfl ?_; simp only [Act.put, List.setIfInBounds_toArray, List.set_cons_zero, List.set_cons_succ])
    | (refine ordC_skip1 rfl rfl ?_; simp only [Act.put, List.setIfInBounds_toArray, List.set_cons_zero, List.set_cons_succ])
    | (refine ordC_q rfl rfl ?_; apply Exists.intro; refine ⟨fun wS hS => ?_, ?_⟩; (go_simp; try with_reducible rfl); simp only [Act.put, List.setIfInBounds_toArray, List.set_cons_zero, List.set_cons_succ])
    | (refine ordC_p rfl rfl ?_; apply Exists.intro; refine ⟨fun wS hS => ?_, ?_⟩; (go_simp; try with_reducible rfl); simp only [Act.put, List.setIfInBounds_toArray, List.set_cons_zero, List.set_cons_succ]))
  refine ordC_l rfl rfl (fun K hK => ?_)
  go_simp
  have hrw := (HN0.out.n 1 (by decide)).row (hc := cInsStr) HN0.out.b
  have hLn := (HN0.out.n 1 (by decide)).1
  refine (show Calls _ _ _ _ (RetOwn 9 1 encStr (C.nl 1) _) from by have := cloneStr hs.a hs.c (C.nl 1) _ (by rw [hrw.len]; exact hrw) (by omega); rw [show (C.nl 1).length = hs.n from hrw.len] at this; exact this).mono ?_
  rintro en Y1 ⟨n1, d1, rfl, ho1, hb1⟩
  have HN1 := hid (HN0.out.below hb1); have HON1 := hid (ho1.mono (HN0.out.b.size)); have HBN1 := hid hb1; have HLN1 := hid hLn
  refine hK _ _ ⟨trivial, HN1.out.bx⟩ ?_
  clear hK K ho1 hb1 hrw hLn
  refine ordC_l rfl rfl (fun K hK => ?_)
  go_simp
  have hrw := (HN1.out.n 2 (by decide)).row (hc := cInsStr) HN1.out.b
  have hLn := (HN1.out.n 2 (by decide)).1
  refine (show Calls _ _ _ _ (RetOwn 9 1 encStr (C.nl 2) _) from by have := cloneStr ho.a ho.c (C.nl 2) _ (by rw [hrw.len]; exact hrw) (by omega); rw [show (C.nl 2).length = ho.n from hrw.len] at this; exact this).mono ?_
  rintro en Y2 ⟨n2, d2, rfl, ho2, hb2⟩
  have HN2 := hid (HN1.out.below hb2); have HON2 := hid (ho2.mono (HN1.out.b.size)); have HBN2 := hid hb2; have HLN2 := hid hLn
  refine hK _ _ ⟨trivial, HN2.out.bx⟩ ?_
  clear hK K ho2 hb2 hrw hLn
  refine ordC_l rfl rfl (fun K hK => ?_)
  go_simp
  have hrw := (HN2.out.n 3 (by decide)).row (hc := cInsStr) HN2.out.b
  have hLn := (HN2.out.n 3 (by decide)).1
  refine (show Calls _ _ _ _ (RetOwn 9 1 encStr (C.nl 3) _) from by have := cloneStr hp.a hp.c (C.nl 3) _ (by rw [hrw.len]; exact hrw) (by omega); rw [show (C.nl 3).length = hp.n from hrw.len] at this; exact this).mono ?_
  rintro en Y3 ⟨n3, d3, rfl, ho3, hb3⟩
  have HN3 := hid (HN2.out.below hb3); have HON3 := hid (ho3.mono (HN2.out.b.size)); have HBN3 := hid hb3; have HLN3 := hid hLn
  refine hK _ _ ⟨trivial, HN3.out.bx⟩ ?_
  clear hK K ho3 hb3 hrw hLn
  have hbx := HN3.out.bx; have hcx := hbx.1; have hfx := hbx.2.1; have hlx := hbx.2.2
  refine ordC_m rfl rfl rfl (fun K hK => ?_)
  go_simp
  refine hK _ _ trivial ?_
  clear hK K
  repeat (first
    | (refine ordC_skip rfl rfl ?_; simp only [Act.put, List.setIfInBounds_toArray, List.set_cons_zero, List.set_cons_succ])
    | (refine ordC_skip1 rfl rfl ?_; simp only [Act.put, List.setIfInBounds_toArray, List.set_cons_zero, List.set_cons_succ])
    | (refine ordC_q rfl rfl ?_; apply Exists.intro; refine ⟨fun wS hS => ?_, ?_⟩; (go_simp; try with_reducible rfl); simp only [Act.put, List.setIfInBounds_toArray, List.set_cons_zero, List.set_cons_succ])
    | (refine ordC_p rfl rfl ?_; apply Exists.intro; refine ⟨fun wS hS => ?_, ?_⟩; (go_simp; try with_reducible rfl); simp only [Act.put, List.setIfInBounds_toArray, List.set_cons_zero, List.set_cons_succ]))
  refine ordC_m rfl rfl rfl (fun K hK => ?_)
  go_simp
  refine hK _ _ trivial ?_
  clear hK K
  repeat (first
    | (refine ordC_skip rfl rfl ?_; simp only [Act.put, List.setIfInBounds_toArray, List.set_cons_zero, List.set_cons_succ])
    | (refine ordC_skip1 rfl rfl ?_; simp only [Act.put, List.setIfInBounds_toArray, List.set_cons_zero, List.set_cons_succ])
    | (refine ordC_q rfl rfl ?_; apply Exists.intro; refine ⟨fun wS hS => ?_, ?_⟩; (go_simp; try with_reducible rfl); simp only [Act.put, List.setIfInBounds_toArray, List.set_cons_zero, List.set_cons_succ])
    | (refine ordC_p rfl rfl ?_; apply Exists.intro; refine ⟨fun wS hS => ?_, ?_⟩; (go_simp; try with_reducible rfl); simp only [Act.put, List.setIfInBounds_toArray, List.set_cons_zero, List.set_cons_succ]))
  refine ordC_m rfl rfl rfl (fun K hK => ?_)
  go_simp
  refine hK _ _ trivial ?_
  clear hK K
  repeat (first
    | (refine ordC_skip rfl rfl ?_; simp only [Act.put, List.setIfInBounds_toArray, List.set_cons_zero, List.set_cons_succ])
    | (refine ordC_skip1 rfl rfl ?_; simp only [Act.put, List.setIfInBounds_toArray, List.set_cons_zero, List.set_cons_succ])
    | (refine ordC_q rfl rfl ?_; apply Exists.intro; refine ⟨fun wS hS => ?_, ?_⟩; (go_simp; try with_reducible rfl); simp only [Act.put, List.setIfInBounds_toArray, List.set_cons_zero, List.set_cons_succ])
    | (refine ordC_p rfl rfl ?_; apply Exists.intro; refine ⟨fun wS hS => ?_, ?_⟩; (go_simp; try with_reducible rfl); simp only [Act.put, List.setIfInBounds_toArray, List.set_cons_zero, List.set_cons_succ]))
  refine ordC_m rfl rfl rfl (fun K hK => ?_)
  go_simp
  refine hK _ _ trivial ?_
  clear hK K
  refine ordC_nil ?_
  have hL0 : Lst w Y3 9 1 encStr ⟨n0, (C.nl 0).length, d0⟩ (C.nl 0) := ⟨HLN0.out, .inr (((HON0.out.below HBN1.out rfl).below HBN2.out rfl).below HBN3.out rfl)⟩
  have hL1 : Lst w Y3 9 1 encStr ⟨n1, (C.nl 1).length, d1⟩ (C.nl 1) := ⟨HLN1.out, .inr ((HON1.out.below HBN2.out rfl).below HBN3.out rfl)⟩
  have hL2 : Lst w Y3 9 1 encStr ⟨n2, (C.nl 2).length, d2⟩ (C.nl 2) := ⟨HLN2.out, .inr (HON2.out.below HBN3.out rfl)⟩
  have hL3 : Lst w Y3 9 1 encStr ⟨n3, (C.nl 3).length, d3⟩ (C.nl 3) := ⟨HLN3.out, .inr HON3.out⟩
  have HT0 := hid (HN3.out.tg); have HSB0 := hid (sameBox HN3.out 0 (Sl.v ⟨n0, (C.nl 0).length, d0⟩))
  have hs0 := HN3.out.boxN0 ⟨n0, (C.nl 0).length, d0⟩ hL0
  have HT1 := hid (hs0.tg); have HSB1 := hid (sameBox hs0 1 (Sl.v ⟨n1, (C.nl 1).length, d1⟩))
  have hs1 := hs0.boxN1 ⟨n1, (C.nl 1).length, d1⟩ (hL1.same HT0.out.choose_spec.choose_spec (by decide) HSB0.out)
  have HT2 := hid (hs1.tg); have HSB2 := hid (sameBox hs1 2 (Sl.v ⟨n2, (C.nl 2).length, d2⟩))
  have hs2 := hs1.boxN2 ⟨n2, (C.nl 2).length, d2⟩ ((hL2.same HT0.out.choose_spec.choose_spec (by decide) HSB0.out).same HT1.out.choose_spec.choose_spec (by decide) HSB1.out)
  have hs3 := hs2.boxN3 ⟨n3, (C.nl 3).length, d3⟩ (((hL3.same HT0.out.choose_spec.choose_spec (by decide) HSB0.out).same HT1.out.choose_spec.choose_spec (by decide) HSB1.out).same HT2.out.choose_spec.choose_spec (by decide) HSB2.out)
  have HS2 := hid hs3
  clear hs0 hs1 hs2 hs3 hL0 hL1 hL2 hL3 hbx hcx hfx hlx
  have hbx := HS2.out.bx; have hb2 := HS2.out.b2
  have hcx := hbx.1; have hfx := hbx.2.1; have hlx := hbx.2.2; have hc2 := hb2.1; have hf2 := hb2.2.1; have hl2 := hb2.2.2
  go_wp2_with fail
  clear hbx hb2 hcx hfx hlx hc2 hf2 hl2
  refine wp_region_ordC 12 [(0, 0), (1, 0), (3, 0), (4, 0), (6, 0), (7, 0), (9, 0), (10, 0), (2, 2), (12, 1), (5, 2), (8, 2), (11, 2), (13, 2), (14, 1), (15, 2), (16, 1), (17, 2), (18, 1), (19, 2)] (fun _ => True) (fun W' => Bx W' w.heap.size (cellsH ⟨⟨n0, (C.nl 0).length, d0⟩, ⟨n1, (C.nl 1).length, d1⟩, ⟨n2, (C.nl 2).length, d2⟩, ⟨n3, (C.nl 3).length, d3⟩, hee, hdd, hmm, hww⟩)) (by kernel_rfl) (by kernel_rfl) (trivial) (HS2.out.bx) ?_
  repeat (first
    | (refine ordC_skip rfl rfl ?_; simp only [Act.put, List.setIfInBounds_toArray, List.set_cons_zero, List.set_cons_succ])
    | (refine ordC_skip1 rfl rfl ?_; simp only [Act.put, List.setIfInBounds_toArray, List.set_cons_zero, List.set_cons_succ])
    | (refine ordC_q rfl rfl ?_; apply Exists.intro; refine ⟨fun wS hS => ?_, ?_⟩; (go_simp; try with_reducible rfl); simp only [Act.put, List.setIfInBounds_toArray, List.set_cons_zero, List.set_cons_succ])
    | (refine ordC_p rfl rfl ?_; apply Exists.intro; refine ⟨fun wS hS => ?_, ?_⟩; (go_simp; try with_reducible rfl); simp only [Act.put, List.setIfInBounds_toArray, List.set_cons_zero, List.set_cons_succ]))
  refine ordC_l rfl rfl (fun K hK => ?_)
  go_simp
  have HE0 := hid (HS2.out.drew)
  have hrw := HE0.out.e.row (hc := cInsEv) HE0.out.b
  have hLn := HE0.out.e.1
  refine (show Calls _ _ _ _ (RetOwn 49 9 encEv (es) _) from by have := cloneEv hee.a hee.c (es) _ (by rw [hrw.len]; exact hrw) (by omega); rw [show (es).length = hee.n from hrw.len] at this; exact this).mono ?_
  rintro en Z0 ⟨ae, ce, rfl, hq0, hz0⟩
  have HR0 := hid (HE0.out.below hz0); have HOR0 := hid (hq0.mono (HE0.out.b.size)); have HBR0 := hid hz0; have HLR0 := hid hLn
  refine hK _ _ ⟨trivial, HR0.out.bx⟩ ?_
  clear hK K hq0 hz0 hrw hLn
  repeat (first
    | (refine ordC_skip rfl rfl ?_; simp only [Act.put, List.setIfInBounds_toArray, List.set_cons_zero, List.set_cons_succ])
    | (refine ordC_skip1 rfl rfl ?_; simp only [Act.put, List.setIfInBounds_toArray, List.set_cons_zero, List.set_cons_succ])
    | (refine ordC_q rfl rfl ?_; apply Exists.intro; refine ⟨fun wS hS => ?_, ?_⟩; (go_simp; try with_reducible rfl); simp only [Act.put, List.setIfInBounds_toArray, List.set_cons_zero, List.set_cons_succ])
    | (refine ordC_p rfl rfl ?_; apply Exists.intro; refine ⟨fun wS hS => ?_, ?_⟩; (go_simp; try with_reducible rfl); simp only [Act.put, List.setIfInBounds_toArray, List.set_cons_zero, List.set_cons_succ]))
  refine ordC_l rfl rfl (fun K hK => ?_)
  go_simp
  have hrw := HR0.out.d.row (hc := cInsOr) HR0.out.b
  have hLn := HR0.out.d.1
  refine (show Calls _ _ _ _ (RetOwn 72 2 encOr (ds) _) from by have := cloneOr hdd.a hdd.c (ds) _ (by rw [hrw.len]; exact hrw) (by omega); rw [show (ds).length = hdd.n from hrw.len] at this; exact this).mono ?_
  rintro en Z1 ⟨ad, cd, rfl, hq1, hz1⟩
  have HR1 := hid (HR0.out.below hz1); have HOR1 := hid (hq1.mono (HR0.out.b.size)); have HBR1 := hid hz1; have HLR1 := hid hLn
  refine hK _ _ ⟨trivial, HR1.out.bx⟩ ?_
  clear hK K hq1 hz1 hrw hLn
  refine ordC_l rfl rfl (fun K hK => ?_)
  go_simp
  have hrw := HR1.out.m.row (hc := cInsMa) HR1.out.b
  have hLn := HR1.out.m.1
  refine (show Calls _ _ _ _ (RetOwn 79 4 encMa (ms) _) from by have := cloneMa hmm.a hmm.c (ms) _ (by rw [hrw.len]; exact hrw) (by omega); rw [show (ms).length = hmm.n from hrw.len] at this; exact this).mono ?_
  rintro en Z2 ⟨am, cm, rfl, hq2, hz2⟩
  have HR2 := hid (HR1.out.below hz2); have HOR2 := hid (hq2.mono (HR1.out.b.size)); have HBR2 := hid hz2; have HLR2 := hid hLn
  refine hK _ _ ⟨trivial, HR2.out.bx⟩ ?_
  clear hK K hq2 hz2 hrw hLn
  refine ordC_l rfl rfl (fun K hK => ?_)
  go_simp
  have hrw := HR2.out.q.row (hc := cInsWa) HR2.out.b
  have hLn := HR2.out.q.1
  refine (show Calls _ _ _ _ (RetOwn 82 2 encWa (C.Q) _) from by have := cloneWa hww.a hww.c (C.Q) _ (by rw [hrw.len]; exact hrw) (by omega); rw [show (C.Q).length = hww.n from hrw.len] at this; exact this).mono ?_
  rintro en Z3 ⟨aq, cq, rfl, hq3, hz3⟩
  have HR3 := hid (HR2.out.below hz3); have HOR3 := hid (hq3.mono (HR2.out.b.size)); have HBR3 := hid hz3; have HLR3 := hid hLn
  refine hK _ _ ⟨trivial, HR3.out.bx⟩ ?_
  clear hK K hq3 hz3 hrw hLn
  have hbx := HR3.out.bx; have hcx := hbx.1; have hfx := hbx.2.1; have hlx := hbx.2.2
  refine ordC_m rfl rfl rfl (fun K hK => ?_)
  go_simp
  refine hK _ _ trivial ?_
  clear hK K
  repeat (first
    | (refine ordC_skip rfl rfl ?_; simp only [Act.put, List.setIfInBounds_toArray, List.set_cons_zero, List.set_cons_succ])
    | (refine ordC_skip1 rfl rfl ?_; simp only [Act.put, List.setIfInBounds_toArray, List.set_cons_zero, List.set_cons_succ])
    | (refine ordC_q rfl rfl ?_; apply Exists.intro; refine ⟨fun wS hS => ?_, ?_⟩; (go_simp; try with_reducible rfl); simp only [Act.put, List.setIfInBounds_toArray, List.set_cons_zero, List.set_cons_succ])
    | (refine ordC_p rfl rfl ?_; apply Exists.intro; refine ⟨fun wS hS => ?_, ?_⟩; (go_simp; try with_reducible rfl); simp only [Act.put, List.setIfInBounds_toArray, List.set_cons_zero, List.set_cons_succ]))
  refine ordC_m rfl rfl rfl (fun K hK => ?_)
  go_simp
  refine hK _ _ trivial ?_
  clear hK K
  repeat (first
    | (refine ordC_skip rfl rfl ?_; simp only [Act.put, List.setIfInBounds_toArray, List.set_cons_zero, List.set_cons_succ])
    | (refine ordC_skip1 rfl rfl ?_; simp only [Act.put, List.setIfInBounds_toArray, List.set_cons_zero, List.set_cons_succ])
    | (refine ordC_q rfl rfl ?_; apply Exists.intro; refine ⟨fun wS hS => ?_, ?_⟩; (go_simp; try with_reducible rfl); simp only [Act.put, List.setIfInBounds_toArray, List.set_cons_zero, List.set_cons_succ])
    | (refine ordC_p rfl rfl ?_; apply Exists.intro; refine ⟨fun wS hS => ?_, ?_⟩; (go_simp; try with_reducible rfl); simp only [Act.put, List.setIfInBounds_toArray, List.set_cons_zero, List.set_cons_succ]))
  refine ordC_m rfl rfl rfl (fun K hK => ?_)
  go_simp
  refine hK _ _ trivial ?_
  clear hK K
  repeat (first
    | (refine ordC_skip rfl rfl ?_; simp only [Act.put, List.setIfInBounds_toArray, List.set_cons_zero, List.set_cons_succ])
    | (refine ordC_skip1 rfl rfl ?_; simp only [Act.put, List.setIfInBounds_toArray, List.set_cons_zero, List.set_cons_succ])
    | (refine ordC_q rfl rfl ?_; apply Exists.intro; refine ⟨fun wS hS => ?_, ?_⟩; (go_simp; try with_reducible rfl); simp only [Act.put, List.setIfInBounds_toArray, List.set_cons_zero, List.set_cons_succ])
    | (refine ordC_p rfl rfl ?_; apply Exists.intro; refine ⟨fun wS hS => ?_, ?_⟩; (go_simp; try with_reducible rfl); simp only [Act.put, List.setIfInBounds_toArray, List.set_cons_zero, List.set_cons_succ]))
  refine ordC_m rfl rfl rfl (fun K hK => ?_)
  go_simp
  refine hK _ _ trivial ?_
  clear hK K
  refine ordC_nil ?_
  have HT4 := hid HR3.out.tg; have HSB4 := hid (sameBox HR3.out 4 (Sl.v ⟨ae, (es).length, ce⟩))
  have hs4 := HR3.out.boxE ⟨ae, (es).length, ce⟩ es ⟨HLR0.out, .inr (((HOR0.out.below HBR1.out rfl).below HBR2.out rfl).below HBR3.out rfl)⟩ HR3.out.be HR3.out.se
  have HT5 := hid hs4.tg; have HSB5 := hid (sameBox hs4 5 (Sl.v ⟨ad, (ds).length, cd⟩))
  have hs5 := hs4.boxD ⟨ad, (ds).length, cd⟩ ds (Lst.same ⟨HLR1.out, .inr ((HOR1.out.below HBR2.out rfl).below HBR3.out rfl)⟩ HT4.out.choose_spec.choose_spec (by decide) HSB4.out) hs4.bd hs4.sd
  have HT6 := hid hs5.tg; have HSB6 := hid (sameBox hs5 6 (Sl.v ⟨am, (ms).length, cm⟩))
  have hs6 := hs5.boxM ⟨am, (ms).length, cm⟩ ms (Lst.same (Lst.same ⟨HLR2.out, .inr (HOR2.out.below HBR3.out rfl)⟩ HT4.out.choose_spec.choose_spec (by decide) HSB4.out) HT5.out.choose_spec.choose_spec (by decide) HSB5.out) hs5.bm hs5.sm
  have HT7 := hid hs6.tg; have HSB7 := hid (sameBox hs6 7 (Sl.v ⟨aq, (C.Q).length, cq⟩))
  have hs7 := hs6.boxQ ⟨aq, (C.Q).length, cq⟩ (Lst.same (Lst.same (Lst.same ⟨HLR3.out, .inr HOR3.out⟩ HT4.out.choose_spec.choose_spec (by decide) HSB4.out) HT5.out.choose_spec.choose_spec (by decide) HSB5.out) HT6.out.choose_spec.choose_spec (by decide) HSB6.out)
  have HOe := hid (((((((HOR0.out.below HBR1.out rfl).below HBR2.out rfl).below HBR3.out rfl).apartBox HT4.out (by decide) HSB4.out).apartBox HT5.out (by decide) HSB5.out).apartBox HT6.out (by decide) HSB6.out).apartBox HT7.out (by decide) HSB7.out)
  have HOd := hid ((((((HOR1.out.below HBR2.out rfl).below HBR3.out rfl).apartBox HT4.out (by decide) HSB4.out).apartBox HT5.out (by decide) HSB5.out).apartBox HT6.out (by decide) HSB6.out).apartBox HT7.out (by decide) HSB7.out)
  have HOm := hid (((((HOR2.out.below HBR3.out rfl).apartBox HT4.out (by decide) HSB4.out).apartBox HT5.out (by decide) HSB5.out).apartBox HT6.out (by decide) HSB6.out).apartBox HT7.out (by decide) HSB7.out)
  have HSA := hid (hs7.cast (c' := C) rfl)
  clear hs4 hs5 hs6 hs7 hbx hcx hfx hlx
  have hbx := HSA.out.bx; have hb2 := HSA.out.b2
  have hcx := hbx.1; have hfx := hbx.2.1; have hlx := hbx.2.2; have hc2 := hb2.1; have hf2 := hb2.2.1; have hl2 := hb2.2.2
  go_wp2_with fail
  clear hbx hb2 hcx hfx hlx hc2 hf2 hl2
  go_loopw [52] (fun i wr => ∃ (k : Nat) (xd : List OrC), k ≤ ds.length ∧ i = .int .i64 k ∧ St w wr ⟨⟨n0, (C.nl 0).length, d0⟩, ⟨n1, (C.nl 1).length, d1⟩, ⟨n2, (C.nl 2).length, d2⟩, ⟨n3, (C.nl 3).length, d3⟩, ⟨ae, (es).length, ce⟩, ⟨ad, (ds).length, cd⟩, ⟨am, (ms).length, cm⟩, ⟨aq, (C.Q).length, cq⟩⟩ es xd ms C ∧ Own wr w.heap.size 72 2 encOr (.slice ad ds.length cd) xd ∧ Own wr w.heap.size 49 9 encEv (Sl.v ⟨ae, (es).length, ce⟩) es ∧ Own wr w.heap.size 79 4 encMa (Sl.v ⟨am, (ms).length, cm⟩) ms ∧ AnyTo wr w.heap.size 3 1 encInt OrC.sl xd k) (fun i _ => ds.length - (RowKit.intOf i).toNat)
  case atStart => exact ⟨0, ds, Nat.zero_le _, rfl, HSA.out, HOd.out, HOe.out, HOm.out, AnyTo.zero⟩
  case round =>
    obtain ⟨k, xd, hk, rfl, hst, hown, hex0, hex1, hna0⟩ := hrel
    have HNA520 := hid hna0
    clear hna0
    have HEX520 := hid hex0; have HEX521 := hid hex1
    clear hex0 hex1
    by_cases hlt : k < ds.length
    · have hlxx := hst.d.1; have hlyy := hown.len
      obtain ⟨g, cur, rfl, hbg, hxl, hcap, hBg, hcur⟩ := hown.open_ (hc := cInsOr) (by omega)
      obtain ⟨x, hx⟩ : ∃ x, xd[k]? = some x := ⟨_, List.getElem?_eq_getElem (by omega)⟩
      have hsl : k < C.SD.length := by rw [← hst.sd.1]; omega
      obtain ⟨L, hL⟩ : ∃ L, C.SD[k]? = some L := ⟨_, List.getElem?_eq_getElem hsl⟩
      have hLst := hst.sd.2 k x L hx hL
      have hrow := hLst.row (hc := cInsInt) hst.b
      have hcx := (hbg.1 (k * 2 + 1)).trans (hcur k x 1 _ hx rfl)
      have HCL : Hid (∀ W, Below wr.heap.size wr W → Calls Tryz.prog 31 #[.slice x.sa x.sn x.sc] W (RetOwn 3 1 encInt L W)) := by
        refine hid (fun W hW => ?_)
        have hr : Row W 1 encInt x.sa x.sn x.sc L := hrow.below hW rfl
        rw [show x.sn = L.length from hrow.len.symm] at hr ⊢
        exact cloneInt x.sa x.sc L W hr (by have := hLst.1; omega)
      have HST := hid hst; have HOW := hid hown; have HBG := hid hbg; have HX := hid hx; have HL := hid hL; have HLL := hid hLst.1; have HCX := hid hcx; have HCUR := hid (hcur k x 1 _ hx rfl)
      have hle1 : k < 2000000 := by omega
      have hbx := hst.bx; have hcb := hbx.1; have hlb := hbx.2.2
      clear hst hown hbg hx hL hLst hrow hcx hcur hsl hbx hlxx hlyy
      go_wp2_with fail
      clear hcb hlb
      refine wp_region_ordC 10 [(0, 0), (1, 0), (2, 0), (3, 0), (4, 0), (5, 0), (6, 0), (7, 0), (8, 0), (9, 2), (10, 1), (11, 1), (12, 2)] (fun _ => True) (fun W' => Bx W' w.heap.size #[.slice n0 (C.nl 0).length d0, .slice n1 (C.nl 1).length d1, .slice n2 (C.nl 2).length d2, .slice n3 (C.nl 3).length d3, .slice ae (es).length ce, .slice (some ⟨g, 0, none⟩) (ds).length cd, .slice am (ms).length cm, .slice aq (C.Q).length cq] ∧ W'.cell? ⟨g, k * 2 + 1, none⟩ = some (.slice x.sa x.sn x.sc)) (by kernel_rfl) (by kernel_rfl) (trivial) (⟨HST.out.bx, HCX.out⟩) ?_
      repeat (first
        | (refine ordC_skip rfl rfl ?_; simp only [Act.put, List.setIfInBounds_toArray, List.set_cons_zero, List.set_cons_succ])
        | (refine ordC_skip1 rfl rfl ?_; simp only [Act.put, List.setIfInBounds_toArray, List.set_cons_zero, List.set_cons_succ])
        | (refine ordC_q rfl rfl ?_; apply Exists.intro; refine ⟨fun wS hS => ?_, ?_⟩; (go_simp; try with_reducible rfl); simp only [Act.put, List.setIfInBounds_toArray, List.set_cons_zero, List.set_cons_succ])
        | (refine ordC_p rfl rfl ?_; apply Exists.intro; refine ⟨fun wS hS => ?_, ?_⟩; (go_simp; try with_reducible rfl); simp only [Act.put, List.setIfInBounds_toArray, List.set_cons_zero, List.set_cons_succ]))
      refine ordC_l rfl rfl (fun K hK => ?_)
      go_simp
      refine (HCL.out _ (Below.refl _ _).drew).mono ?_
      rintro en Y ⟨a', c', rfl, hoY, hbY⟩
      have HOY := hid hoY; have HBY := hid (show Below wr.heap.size wr Y from (Below.refl _ _).drew.trans hbY)
      refine hK _ _ ⟨trivial, HST.out.bx.keep HBY.out, bget HBY.out rfl HCX.out⟩ ?_
      clear hK K hoY hbY
      have hbY2 := HBG.out.keep HBY.out
      have hfY := hbY2.2.1; have hlY := hbY2.2.2
      have hcY1 : Y.cell? ⟨g, k * 2 + 1, none⟩ = some (.slice x.sa x.sn x.sc) := (hbY2.1 _).trans HCUR.out
      clear hbY2
      repeat (first
        | (refine ordC_skip rfl rfl ?_; simp only [Act.put, List.setIfInBounds_toArray, List.set_cons_zero, List.set_cons_succ])
        | (refine ordC_skip1 rfl rfl ?_; simp only [Act.put, List.setIfInBounds_toArray, List.set_cons_zero, List.set_cons_succ])
        | (refine ordC_q rfl rfl ?_; apply Exists.intro; refine ⟨fun wS hS => ?_, ?_⟩; (go_simp; try with_reducible rfl); simp only [Act.put, List.setIfInBounds_toArray, List.set_cons_zero, List.set_cons_succ])
        | (refine ordC_p rfl rfl ?_; apply Exists.intro; refine ⟨fun wS hS => ?_, ?_⟩; (go_simp; try with_reducible rfl); simp only [Act.put, List.setIfInBounds_toArray, List.set_cons_zero, List.set_cons_succ]))
      refine ordC_m rfl rfl rfl (fun K hK => ?_)
      go_simp
      refine hK _ _ trivial ?_
      clear hK K
      refine ordC_nil ?_
      have hput := (HST.out.below HBY.out).putD (i := k) (HOW.out.below HBY.out rfl) rfl HX.out HL.out ⟨a', L.length, c'⟩ ⟨HLL.out, .inr (HOY.out.mono (by have := HST.out.b.size; simpa using this))⟩
      have HS1' := hid hput.1; have HO1 := hid hput.2
      have HEY0 := hid ((HEX520.out.below HBY.out rfl).apartBox ((HOW.out.below HBY.out rfl).tag rfl) (by decide) ((Same.refl' Y).setTail (b := g) (o := k * 2 + 1) (v := .slice a' L.length c') (fun hn => hn rfl)))
      have HEY1 := hid ((HEX521.out.below HBY.out rfl).apartBox ((HOW.out.below HBY.out rfl).tag rfl) (by decide) ((Same.refl' Y).setTail (b := g) (o := k * 2 + 1) (v := .slice a' L.length c') (fun hn => hn rfl)))
      have HNB0 := hid (((HNA520.out.below HBY.out).store (o := k * 2 + 1) (v := .slice a' L.length c') ((HOW.out.below HBY.out rfl).tag rfl) (by decide)).snoc (y := x.wi ⟨a', L.length, c'⟩) HLL.out ((HOY.out.mono (by have := HST.out.b.size; simpa using this)).apartBox ((HOW.out.below HBY.out rfl).tag rfl) (by decide) ((Same.refl' Y).setTail (b := g) (o := k * 2 + 1) (v := .slice a' L.length c') (fun hn => hn rfl))))
      clear hput hfY hlY hcY1
      go_wp2_with fail
      go_roundw
      case rel => exact ⟨k + 1, _, by omega, by go_num, HS1'.out, HO1.out, HEY0.out, HEY1.out, HNB0.out⟩
      case measure => simp [RowKit.intOf]; omega
    · obtain rfl : k = ds.length := by omega
      have HSd' := hid hst; have HOd' := hid hown
      clear hst hown
      have hbx := HSd'.out.bx; have hb2 := HSd'.out.b2
      have hcx := hbx.1; have hfx := hbx.2.1; have hlx := hbx.2.2; have hc2 := hb2.1; have hf2 := hb2.2.1; have hl2 := hb2.2.2
      go_wp2_with fail
      clear hbx hb2 hcx hfx hlx hc2 hf2 hl2
      go_loopw [71] (fun i wr => ∃ (k : Nat) (xm : List MaC), k ≤ ms.length ∧ i = .int .i64 k ∧ St w wr ⟨⟨n0, (C.nl 0).length, d0⟩, ⟨n1, (C.nl 1).length, d1⟩, ⟨n2, (C.nl 2).length, d2⟩, ⟨n3, (C.nl 3).length, d3⟩, ⟨ae, (es).length, ce⟩, ⟨ad, (ds).length, cd⟩, ⟨am, (ms).length, cm⟩, ⟨aq, (C.Q).length, cq⟩⟩ es xd xm C ∧ Own wr w.heap.size 79 4 encMa (.slice am ms.length cm) xm ∧ Own wr w.heap.size 49 9 encEv (Sl.v ⟨ae, (es).length, ce⟩) es ∧ Own wr w.heap.size 72 2 encOr (Sl.v ⟨ad, (ds).length, cd⟩) xd ∧ AnyTo wr w.heap.size 3 1 encInt OrC.sl xd ds.length) (fun i _ => ms.length - (RowKit.intOf i).toNat)
      case atStart => exact ⟨0, ms, Nat.zero_le _, rfl, HSd'.out, HEX521.out, HEX520.out, HOd'.out, HNA520.out⟩
      case round =>
        obtain ⟨k, xm, hk, rfl, hst, hown, hex0, hex1, hna0⟩ := hrel
        have HNA710 := hid hna0
        clear hna0
        have HEX710 := hid hex0; have HEX711 := hid hex1
        clear hex0 hex1
        by_cases hlt : k < ms.length
        · have hlxx := hst.m.1; have hlyy := hown.len
          obtain ⟨g, cur, rfl, hbg, hxl, hcap, hBg, hcur⟩ := hown.open_ (hc := cInsMa) (by omega)
          obtain ⟨x, hx⟩ : ∃ x, xm[k]? = some x := ⟨_, List.getElem?_eq_getElem (by omega)⟩
          have hsl : k < C.SM.length := by rw [← hst.sm.1]; omega
          obtain ⟨L, hL⟩ : ∃ L, C.SM[k]? = some L := ⟨_, List.getElem?_eq_getElem hsl⟩
          have hLst := hst.sm.2 k x L hx hL
          have hrow := hLst.row (hc := cInsInt) hst.b
          have hcx := (hbg.1 (k * 4 + 3)).trans (hcur k x 3 _ hx rfl)
          have HCL : Hid (∀ W, Below wr.heap.size wr W → Calls Tryz.prog 31 #[.slice x.sa x.sn x.sc] W (RetOwn 3 1 encInt L W)) := by
            refine hid (fun W hW => ?_)
            have hr : Row W 1 encInt x.sa x.sn x.sc L := hrow.below hW rfl
            rw [show x.sn = L.length from hrow.len.symm] at hr ⊢
            exact cloneInt x.sa x.sc L W hr (by have := hLst.1; omega)
          have HST := hid hst; have HOW := hid hown; have HBG := hid hbg; have HX := hid hx; have HL := hid hL; have HLL := hid hLst.1; have HCX := hid hcx; have HCUR := hid (hcur k x 3 _ hx rfl)
          have hle1 : k < 2000000 := by omega
          have hbx := hst.bx; have hcb := hbx.1; have hlb := hbx.2.2
          clear hst hown hbg hx hL hLst hrow hcx hcur hsl hbx hlxx hlyy
          go_wp2_with fail
          clear hcb hlb
          refine wp_region_ordC 10 [(0, 0), (1, 0), (2, 0), (3, 0), (4, 0), (5, 0), (6, 0), (7, 0), (8, 0), (9, 2), (10, 1), (11, 1), (12, 2)] (fun _ => True) (fun W' => Bx W' w.heap.size #[.slice n0 (C.nl 0).length d0, .slice n1 (C.nl 1).length d1, .slice n2 (C.nl 2).length d2, .slice n3 (C.nl 3).length d3, .slice ae (es).length ce, .slice ad (ds).length cd, .slice (some ⟨g, 0, none⟩) (ms).length cm, .slice aq (C.Q).length cq] ∧ W'.cell? ⟨g, k * 4 + 3, none⟩ = some (.slice x.sa x.sn x.sc)) (by kernel_rfl) (by kernel_rfl) (trivial) (⟨HST.out.bx, HCX.out⟩) ?_
          repeat (first
            | (refine ordC_skip rfl rfl ?_; simp only [Act.put, List.setIfInBounds_toArray, List.set_cons_zero, List.set_cons_succ])
            | (refine ordC_skip1 rfl rfl ?_; simp only [Act.put, List.setIfInBounds_toArray, List.set_cons_zero, List.set_cons_succ])
            | (refine ordC_q rfl rfl ?_; apply Exists.intro; refine ⟨fun wS hS => ?_, ?_⟩; (go_simp; try with_reducible rfl); simp only [Act.put, List.setIfInBounds_toArray, List.set_cons_zero, List.set_cons_succ])
            | (refine ordC_p rfl rfl ?_; apply Exists.intro; refine ⟨fun wS hS => ?_, ?_⟩; (go_simp; try with_reducible rfl); simp only [Act.put, List.setIfInBounds_toArray, List.set_cons_zero, List.set_cons_succ]))
          refine ordC_l rfl rfl (fun K hK => ?_)
          go_simp
          refine (HCL.out _ (Below.refl _ _).drew).mono ?_
          rintro en Y ⟨a', c', rfl, hoY, hbY⟩
          have HOY := hid hoY; have HBY := hid (show Below wr.heap.size wr Y from (Below.refl _ _).drew.trans hbY)
          refine hK _ _ ⟨trivial, HST.out.bx.keep HBY.out, bget HBY.out rfl HCX.out⟩ ?_
          clear hK K hoY hbY
          have hbY2 := HBG.out.keep HBY.out
          have hfY := hbY2.2.1; have hlY := hbY2.2.2
          have hcY1 : Y.cell? ⟨g, k * 4 + 3, none⟩ = some (.slice x.sa x.sn x.sc) := (hbY2.1 _).trans HCUR.out
          clear hbY2
          repeat (first
            | (refine ordC_skip rfl rfl ?_; simp only [Act.put, List.setIfInBounds_toArray, List.set_cons_zero, List.set_cons_succ])
            | (refine ordC_skip1 rfl rfl ?_; simp only [Act.put, List.setIfInBounds_toArray, List.set_cons_zero, List.set_cons_succ])
            | (refine ordC_q rfl rfl ?_; apply Exists.intro; refine ⟨fun wS hS => ?_, ?_⟩; (go_simp; try with_reducible rfl); simp only [Act.put, List.setIfInBounds_toArray, List.set_cons_zero, List.set_cons_succ])
            | (refine ordC_p rfl rfl ?_; apply Exists.intro; refine ⟨fun wS hS => ?_, ?_⟩; (go_simp; try with_reducible rfl); simp only [Act.put, List.setIfInBounds_toArray, List.set_cons_zero, List.set_cons_succ]))
          refine ordC_m rfl rfl rfl (fun K hK => ?_)
          go_simp
          refine hK _ _ trivial ?_
          clear hK K
          refine ordC_nil ?_
          have hput := (HST.out.below HBY.out).putM (i := k) (HOW.out.below HBY.out rfl) rfl HX.out HL.out ⟨a', L.length, c'⟩ ⟨HLL.out, .inr (HOY.out.mono (by have := HST.out.b.size; simpa using this))⟩
          have HS1' := hid hput.1; have HO1 := hid hput.2
          have HEY0 := hid ((HEX710.out.below HBY.out rfl).apartBox ((HOW.out.below HBY.out rfl).tag rfl) (by decide) ((Same.refl' Y).setTail (b := g) (o := k * 4 + 3) (v := .slice a' L.length c') (fun hn => hn rfl)))
          have HEY1 := hid ((HEX711.out.below HBY.out rfl).apartBox ((HOW.out.below HBY.out rfl).tag rfl) (by decide) ((Same.refl' Y).setTail (b := g) (o := k * 4 + 3) (v := .slice a' L.length c') (fun hn => hn rfl)))
          have HNB0 := hid ((HNA710.out.below HBY.out).store (o := k * 4 + 3) (v := .slice a' L.length c') ((HOW.out.below HBY.out rfl).tag rfl) (by decide))
          clear hput hfY hlY hcY1
          go_wp2_with fail
          go_roundw
          case rel => exact ⟨k + 1, _, by omega, by go_num, HS1'.out, HO1.out, HEY0.out, HEY1.out, HNB0.out⟩
          case measure => simp [RowKit.intOf]; omega
        · obtain rfl : k = ms.length := by omega
          have HSm' := hid hst; have HOm' := hid hown
          clear hst hown
          have hbx := HSm'.out.bx; have hb2 := HSm'.out.b2
          have hcx := hbx.1; have hfx := hbx.2.1; have hlx := hbx.2.2; have hc2 := hb2.1; have hf2 := hb2.2.1; have hl2 := hb2.2.2
          go_wp2_with fail
          clear hbx hb2 hcx hfx hlx hc2 hf2 hl2
          refine (counter_new _).mono ?_
          rintro en_ wc ⟨cf, bf, rfl, hcf, hmf, hbc, hlc⟩
          have HS8 := hid (HSm'.out.below hbc); have HM8 := hid (HOm'.out.below hbc rfl); have HE8 := hid (HEX710.out.below hbc rfl); have HD8 := hid (HEX711.out.below hbc rfl); have HCF := hid hcf; have HMF := hid hmf; have HND := hid (HNA710.out.below hbc)
          have HLC : Hid (w.heap.size ≤ bf) := hid (Nat.le_trans HSm'.out.b.size hlc)
          clear hbc hcf hmf hlc
          have hcx : ∀ i, wc.cell? ⟨w.heap.size, i, none⟩ = (#[.slice n0 (C.nl 0).length d0, .slice n1 (C.nl 1).length d1, .slice n2 (C.nl 2).length d2, .slice n3 (C.nl 3).length d3, .slice ae (es).length ce, .slice ad (ds).length cd, .slice am (ms).length cm, .slice aq (C.Q).length cq] : Array Value)[i]? := HS8.out.bx.1
          have hlx := HS8.out.bx.2.2
          go_wp2_with fail
          clear hcx hlx
          go_loopw [91] (fun i wr => ∃ (k : Nat) (xe : List EvC), k ≤ es.length ∧ i = .int .i64 k ∧ St w wr ⟨⟨n0, (C.nl 0).length, d0⟩, ⟨n1, (C.nl 1).length, d1⟩, ⟨n2, (C.nl 2).length, d2⟩, ⟨n3, (C.nl 3).length, d3⟩, ⟨ae, (es).length, ce⟩, ⟨ad, (ds).length, cd⟩, ⟨am, (ms).length, cm⟩, ⟨aq, (C.Q).length, cq⟩⟩ xe xd xm { C with E := numTo C.E k } ∧ Own wr w.heap.size 49 9 encEv (.slice ae es.length ce) xe ∧ Own wr w.heap.size 72 2 encOr (Sl.v ⟨ad, (ds).length, cd⟩) xd ∧ AnyTo wr w.heap.size 3 1 encInt OrC.sl xd ds.length ∧ MapC wr bf (metL C.E k) ∧ wr.cell? ⟨cf, 0, none⟩ = some (.map (some bf)) ∧ AnyTo wr w.heap.size 69 3 encSn EvC.sl xe k ∧ (∀ e ∈ numL C.E k, e.kind = 2 → e.v.k ≤ 999)) (fun i _ => es.length - (RowKit.intOf i).toNat)
          case atStart => exact ⟨0, es, Nat.zero_le _, rfl, HS8.out, HE8.out, HD8.out, HND.out, HMF.out, HCF.out, AnyTo.zero, fun e he => by simp [numL] at he⟩
          case round =>
            obtain ⟨k, xe, hk, rfl, hst, hown, hxd, hnd, hmp, hcf, hne, hal⟩ := hrel
            have HXD := hid hxd; have HNDk := hid hnd; have HMP := hid hmp; have HCFk := hid hcf; have HNE := hid hne; have HAL := hid hal
            clear hxd hnd hmp hcf hne hal
            by_cases hlt : k < es.length
            · have hlxx := hst.e.1; have hlyy := hown.len
              obtain ⟨g, cur, rfl, hbg, hxl, hcap, hBg, hcur⟩ := hown.open_ (hc := cInsEv) (by omega)
              obtain ⟨x, hx⟩ : ∃ x, xe[k]? = some x := ⟨_, List.getElem?_eq_getElem (by omega)⟩
              have hsl : k < C.SE.length := by rw [← show xe.length = C.SE.length from hst.se.1]; omega
              obtain ⟨L, hL⟩ : ∃ L, C.SE[k]? = some L := ⟨_, List.getElem?_eq_getElem hsl⟩
              have hLst := hst.se.2 k x L hx hL
              have hrow := hLst.row (hc := cInsSn) hst.b
              have hCL := HCL0.out
              have hEk : C.E[k]? = some x.base := by have h1 := congrArg (fun l => l[k]?) (show xe.map EvC.base = numTo C.E k from hst.be); simp only [List.getElem?_map, hx, Option.map_some] at h1; exact (h1.trans (numTo_get (by omega) (Nat.le_refl _))).symm
              have hcx := fun j v hv => (hbg.1 (k * 9 + j)).trans (hcur k x j v hx hv)
              have HCL : Hid (∀ W, Below wr.heap.size wr W → Calls Tryz.prog 27 #[.slice x.sa x.sn x.sc] W (RetOwn 69 3 encSn L W)) := by
                refine hid (fun W hW => ?_)
                have hr : Row W 3 encSn x.sa x.sn x.sc L := hrow.below hW rfl
                rw [show x.sn = L.length from hrow.len.symm] at hr ⊢
                exact cloneSn x.sa x.sc L W hr (by have := hLst.1; omega)
              have HST := hid hst; have HOW := hid hown; have HBG := hid hbg; have HX := hid hx; have HL := hid hL; have HLL := hid hLst.1; have HEK := hid hEk; have HC8 := hid (hcx 8 _ rfl); have HCLE := hid hCL
              have hle1 : k < 2000000 := by omega
              have e0 := hcx 0 _ rfl
              have e1 := hcx 1 _ rfl
              have e2 := hcx 2 _ rfl
              have e3 := hcx 3 _ rfl
              have e4 := hcx 4 _ rfl
              have e5 := hcx 5 _ rfl
              have e6 := hcx 6 _ rfl
              have e7 := hcx 7 _ rfl
              have e8 := hcx 8 _ rfl
              simp only [Nat.add_zero] at e0
              have hbx := hst.bx; have hcb := hbx.1; have hlb := hbx.2.2
              have HCU := hid hcur; clear hst hown hbg hx hL hLst hrow hcur hsl hbx hlxx hlyy hEk hCL
              have HNG : Hid (cf ≠ g) := hid (fun e => by
                subst e
                have h1 := HCFk.out
                obtain ⟨x0, hx0⟩ : ∃ x0, xe[0]? = some x0 := ⟨_, List.getElem?_eq_getElem (by omega)⟩
                have h2 := (HBG.out.1 0).trans (by have := HCU.out 0 x0 0 _ hx0 rfl; simpa using this)
                rw [h1] at h2
                cases h2)
              have HGW : Hid (g < wr.heap.size) := hid (HOW.out.lt g rfl).2
              have HXE0 := hid (Bx.new wr (cellsEv x) 49)
              clear hcx
              go_wp2_with fail
              clear hcb hlb e0 e1 e2 e3 e4 e5 e6 e7 e8
              refine wp_region_ordC 6 [(0, 0), (1, 0), (2, 0), (3, 0), (4, 0), (5, 2), (6, 1), (7, 1), (8, 2)] (fun _ => True) (fun W' => Bx W' w.heap.size #[.slice n0 (C.nl 0).length d0, .slice n1 (C.nl 1).length d1, .slice n2 (C.nl 2).length d2, .slice n3 (C.nl 3).length d3, .slice (some ⟨g, 0, none⟩) (es).length ce, .slice ad (ds).length cd, .slice am (ms).length cm, .slice aq (C.Q).length cq] ∧ Bx W' wr.heap.size #[.int .i64 x.kind, .int .i64 x.t, .int .i64 x.ses, .int .i64 x.lvl, .int .i64 x.obj, .int .i64 x.v.t, .int .i64 x.v.k, .int .i64 x.pred, .slice x.sa x.sn x.sc]) (by kernel_rfl) (by kernel_rfl) (trivial) (⟨(HST.out.bx.alloc _).drew, HXE0.out.drew⟩) ?_
              repeat (first
                | (refine ordC_skip rfl rfl ?_; simp only [Act.put, List.setIfInBounds_toArray, List.set_cons_zero, List.set_cons_succ])
                | (refine ordC_skip1 rfl rfl ?_; simp only [Act.put, List.setIfInBounds_toArray, List.set_cons_zero, List.set_cons_succ])
                | (refine ordC_q rfl rfl ?_; apply Exists.intro; refine ⟨fun wS hS => ?_, ?_⟩; (go_simp; try with_reducible rfl); simp only [Act.put, List.setIfInBounds_toArray, List.set_cons_zero, List.set_cons_succ])
                | (refine ordC_p rfl rfl ?_; apply Exists.intro; refine ⟨fun wS hS => ?_, ?_⟩; (go_simp; try with_reducible rfl); simp only [Act.put, List.setIfInBounds_toArray, List.set_cons_zero, List.set_cons_succ]))
              refine ordC_l rfl rfl (fun K hK => ?_)
              go_simp
              refine (HCL.out _ (belowA (Below.refl _ _) _).drew).mono ?_
              rintro en Y ⟨a', c', rfl, hoY, hbY⟩
              have HOY := hid hoY; have HBY := hid (show Below wr.heap.size wr Y from (belowA (Below.refl _ _) _).drew.trans (hbY.mono (by simp)))
              have HXE := hid (HXE0.out.drew.keep hbY)
              refine hK _ _ ⟨trivial, HST.out.bx.keep HBY.out, HXE.out⟩ ?_
              clear hK K hoY hbY
              have hbY2 := HBG.out.keep HBY.out
              have hfY := hbY2.2.1; have hlY := hbY2.2.2
              have hcY1 : Y.cell? ⟨g, k * 9 + 8, none⟩ = some (.slice x.sa x.sn x.sc) := (hbY2.1 _).trans (by have := HCU.out k x 8 _ HX.out rfl; exact this)
              clear hbY2
              repeat (first
                | (refine ordC_skip rfl rfl ?_; simp only [Act.put, List.setIfInBounds_toArray, List.set_cons_zero, List.set_cons_succ])
                | (refine ordC_skip1 rfl rfl ?_; simp only [Act.put, List.setIfInBounds_toArray, List.set_cons_zero, List.set_cons_succ])
                | (refine ordC_q rfl rfl ?_; apply Exists.intro; refine ⟨fun wS hS => ?_, ?_⟩; (go_simp; try with_reducible rfl); simp only [Act.put, List.setIfInBounds_toArray, List.set_cons_zero, List.set_cons_succ])
                | (refine ordC_p rfl rfl ?_; apply Exists.intro; refine ⟨fun wS hS => ?_, ?_⟩; (go_simp; try with_reducible rfl); simp only [Act.put, List.setIfInBounds_toArray, List.set_cons_zero, List.set_cons_succ]))
              refine ordC_m rfl rfl rfl (fun K hK => ?_)
              go_simp
              refine hK _ _ trivial ?_
              clear hK K
              refine ordC_nil ?_
              have hoy := HOY.out.mono (B' := w.heap.size) (by have := HST.out.b.size; simp; omega)
              have htag := (HOW.out.below HBY.out rfl).tag (g := g) rfl
              have hput := (HST.out.below HBY.out).putE (i := k) (HOW.out.below HBY.out rfl) rfl HX.out HL.out ⟨a', L.length, c'⟩ ⟨HLL.out, .inr hoy⟩
              have HS1 := hid hput.1; have HO1 := hid hput.2
              have HXD1 := hid ((HXD.out.below HBY.out rfl).apartBox htag (by decide) (set_same Y g (k * 9 + 8) (.slice a' L.length c')))
              have HND1 := hid ((HNDk.out.below HBY.out).store (o := k * 9 + 8) (v := .slice a' L.length c') htag (by decide))
              have HNE1 := hid (((HNE.out.below HBY.out).store (o := k * 9 + 8) (v := .slice a' L.length c') htag (by decide)).snoc (y := x.wi ⟨a', L.length, c'⟩) HLL.out (hoy.apartBox htag (by decide) (set_same Y g (k * 9 + 8) (.slice a' L.length c'))))
              have HMP1 := hid ((HMP.out.of_eq (HBY.out.block bf HMP.out.lt)).set htag.choose_spec.choose_spec (k * 9 + 8) (.slice a' L.length c'))
              have HCF1 := hid (Same.cell_ (set_same Y g (k * 9 + 8) (.slice a' L.length c')) (bget HBY.out rfl HCFk.out) HNG.out)
              have HXE1 := hid (HXE.out.other (p := ⟨g, k * 9 + 8, none⟩) (by show wr.heap.size ≠ g; have := HGW.out; omega) (.slice a' L.length c'))
              have HNS := hid (numL_succ HEK.out); have HMS := hid (metL_succ HEK.out)
              clear hput hfY hlY hcY1 htag hoy
              have hcx := HXE1.out.1; have hfx := HXE1.out.2.1; have hlx := HXE1.out.2.2
              cases hk2 : (x.kind == 2)
              · have HKN : Hid (x.base.kind ≠ 2) := hid (by show x.kind ≠ 2; simpa using hk2)
                have HCE : Hid (cntE (C.E.take k) x.base = x.base) := hid (by unfold cntE; rw [if_neg HKN.out])
                go_wp2_with fail
                go_roundw
                case rel =>
                  refine ⟨k + 1, _, by omega, by go_num, by rw [numTo_same HEK.out HKN.out]; exact HS1.out, HO1.out, HXD1.out, HND1.out, by rw [HMS.out]; unfold stepL; rw [if_neg HKN.out]; exact HMP1.out, HCF1.out, HNE1.out, ?_⟩
                  intro y hy h2
                  rw [HNS.out, HCE.out] at hy
                  rcases List.mem_append.1 hy with hy | hy
                  · exact HAL.out y hy h2
                  · obtain rfl : y = x.base := by simpa using hy
                    exact absurd h2 HKN.out
                case measure => simp [RowKit.intOf]; omega
              · have HKN : Hid (x.base.kind = 2) := hid (by show x.kind = 2; simpa using hk2)
                obtain ⟨m, hm⟩ : ∃ m : Int, m = 1 + ((cntK x.base (C.E.take k) : Nat) : Int) := ⟨_, rfl⟩
                have hmm : (((metL C.E k).count (x.t, x.obj) : Nat) : Int) + 1 = m := by rw [metL_count, hm]; show ((cntK x.base (C.E.take k) : Nat) : Int) + 1 = _; omega
                have hwf := HWF.out x.base (List.mem_of_getElem? HEK.out) HKN.out
                have HCI := hid (count_inc x cf bf (metL C.E k) _ HCF1.out HMP1.out hwf.1 hwf.2 (by have := metL_len C.E k; have := HMX.out; have h9 := HELEN.out; omega))
                rw [hmm] at HCI
                have HCE : Hid (cntE (C.E.take k) x.base = { x.base with v := ⟨x.v.t, m⟩ }) := hid (by unfold cntE; rw [if_pos HKN.out, hm]; rfl)
                have HOV : Hid (999 < m → overB C.E = true) := hid (fun h9 => over_yes HEK.out HKN.out (by rw [← hm]; exact h9))
                have eg := call_cnt
                clear hm hmm hwf
                go_wp2_with fail
                clear hcx hfx hlx
                refine HCI.out.mono ?_
                rintro en2 Y2 ⟨rfl, hs2, hm2⟩
                have HS2 := hid (HS1.out.apartMap HLC.out HMP1.out hs2); have HO2 := hid (HO1.out.apartMap HMP1.out hs2); have HXD2 := hid (HXD1.out.apartMap HMP1.out hs2); have HND2 := hid (HND1.out.apartMap HMP1.out hs2); have HNE2 := hid (HNE1.out.apartMap HMP1.out hs2)
                have HCF2 := hid (hs2.cell_ HCF1.out (HMP1.out.noCell HCF1.out)); have HMP2 := hid hm2
                clear hs2 hm2
                have HX2 : Hid ((xe.set k (x.wi ⟨a', L.length, c'⟩))[k]? = some (x.wi ⟨a', L.length, c'⟩)) := hid (by rw [List.getElem?_set_self (List.getElem?_eq_some_iff.1 HX.out).1])
                by_cases hgt : 999 < m
                · have HQ := hid (HOV.out hgt)
                  have hb2 := HS2.out.b2
                  have hc2 := hb2.1; have hf2 := hb2.2.1; have hl2 := hb2.2.2
                  clear hb2
                  go_wp2_with fail
                  refine bodyPost_ret (v := .tuple #[.agg #[.slice none 0 0, .slice none 0 0, .slice none 0 0, .slice none 0 0, .slice none 0 0, .slice none 0 0, .slice none 0 0, .slice none 0 0], .int .i64 6]) (by simp [results, Tryz.results21, go_sem, hc2]) rfl ?_
                  unfold RetP
                  rw [if_pos HQ.out]
                  refine ⟨rfl, ?_⟩
                  have hs : ∀ Z, Same (fun g => g ≠ w.heap.size + 1) Y2 Z → Below w.heap.size w Z := fun Z hZ => hZ.below HS2.out.b (fun g hg => by show g ≠ w.heap.size + 1; omega) HS2.out.b.size
                  refine hs _ ?_
                  repeat (first | (with_reducible exact Same.refl' _) | (refine Same.setTail ?_ (fun hn => hn rfl)))
                · obtain ⟨g2, cur2, e2, hbg2, -, -, -, hcur2⟩ := HO2.out.open_ (hc := cInsEv) (n := es.length) (by omega)
                  cases e2
                  have hcg : Y2.cell? ⟨g, k * 9 + 6, none⟩ = some (.int .i64 x.v.k) := (hbg2.1 _).trans (hcur2 k _ 6 _ HX2.out rfl)
                  have hfg := hbg2.2.1; have hlg := hbg2.2.2
                  clear hbg2 hcur2
                  have hc1 : ∀ i, Y2.cell? ⟨w.heap.size, i, none⟩ = (#[.slice n0 (C.nl 0).length d0, .slice n1 (C.nl 1).length d1, .slice n2 (C.nl 2).length d2, .slice n3 (C.nl 3).length d3, .slice (some ⟨g, 0, none⟩) (es).length ce, .slice ad (ds).length cd, .slice am (ms).length cm, .slice aq (C.Q).length cq] : Array Value)[i]? := HS2.out.bx.1
                  have hl1 := HS2.out.bx.2.2
                  go_wp2_with fail
                  clear hcg hfg hlg hc1 hl1
                  have htag := HO2.out.tag (g := g) rfl
                  have hput := HS2.out.putK (i := k) HO2.out rfl HX2.out m
                  have HS3 := hid hput.1; have HO3 := hid hput.2
                  have hsm : Same (fun i => i ≠ g) Y2 (Y2.setCell ⟨g, k * 9 + 6, none⟩ (.int .i64 m)) := (Same.refl' Y2).setTail (fun hn => hn rfl)
                  have HXD3 := hid (HXD2.out.apartBox htag (by decide) hsm)
                  have HND3 := hid (HND2.out.store (o := k * 9 + 6) (v := .int .i64 m) htag (by decide))
                  have HNE3 := hid ((HNE2.out.store (o := k * 9 + 6) (v := .int .i64 m) htag (by decide)).setEq (y := { x.wi ⟨a', L.length, c'⟩ with v := ⟨x.v.t, m⟩ }) HX2.out rfl)
                  have HMP3 := hid (HMP2.out.set htag.choose_spec.choose_spec (k * 9 + 6) (.int .i64 m))
                  have HCF3 := hid (hsm.cell_ HCF2.out HNG.out)
                  have HNT := hid (numTo_set HEK.out)
                  clear hput htag hsm
                  go_roundw
                  case rel =>
                    refine ⟨k + 1, _, by omega, by go_num, by rw [← HNT.out, HCE.out]; exact HS3.out, HO3.out, HXD3.out, HND3.out, by rw [HMS.out]; unfold stepL; rw [if_pos HKN.out]; exact HMP3.out, HCF3.out, HNE3.out, ?_⟩
                    intro y hy h2
                    rw [HNS.out, HCE.out] at hy
                    rcases List.mem_append.1 hy with hy | hy
                    · exact HAL.out y hy h2
                    · obtain rfl : y = { x.base with v := ⟨x.v.t, m⟩ } := by simpa using hy
                      show m ≤ 999
                      omega
                  case measure => simp [RowKit.intOf]; omega
            · obtain rfl : k = es.length := by omega
              have HQ : Hid (overB C.E = false) := hid (by
                unfold overB
                rw [HCL0.out, ← Bool.not_eq_true, List.any_eq_true]
                rintro ⟨e, he, hh⟩
                simp only [Bool.and_eq_true, beq_iff_eq, decide_eq_true_eq] at hh
                have := HAL.out e he hh.1
                omega)
              have HST := hid hst; have HOW := hid hown
              clear hst hown
              have HFIN : Hid (∀ Z, Same (fun g => g ≠ w.heap.size + 1) wr Z → RetP w C (.returned (.tuple #[valH ⟨⟨n0, (C.nl 0).length, d0⟩, ⟨n1, (C.nl 1).length, d1⟩, ⟨n2, (C.nl 2).length, d2⟩, ⟨n3, (C.nl 3).length, d3⟩, ⟨ae, (es).length, ce⟩, ⟨ad, (ds).length, cd⟩, ⟨am, (ms).length, cm⟩, ⟨aq, (C.Q).length, cq⟩⟩, .int .i64 0])) Z) := hid (fun Z hZ => by
                unfold RetP
                rw [if_neg (by rw [HQ.out]; simp)]
                have hbl := hZ.below HST.out.b (fun i hi => by show i ≠ w.heap.size + 1; omega) HST.out.b.size
                obtain ⟨scan', dn', mn', hsay⟩ := HST.out.says hZ hbl
                obtain ⟨cs2, fz2, ht2⟩ := HST.out.t2
                have g1 := HOW.out.apartBox (T' := 28) ⟨cs2, fz2, ht2⟩ (by decide) hZ
                have g2 := HXD.out.apartBox (T' := 28) ⟨cs2, fz2, ht2⟩ (by decide) hZ
                have hl : xe.length = es.length := by have := HOW.out.len; omega
                have hl2 : xd.length = ds.length := by have h1 : ds.length = xd.length := HXD.out.len; omega
                have g3 : Any Z w.heap.size 69 3 encSn EvC.sl xe := AnyTo.all (by rw [hl]; exact HNE.out.same ⟨cs2, fz2, _, ht2, by decide⟩ hZ)
                have g4 : Any Z w.heap.size 3 1 encInt OrC.sl xd := AnyTo.all (by rw [hl2]; exact HNDk.out.same ⟨cs2, fz2, _, ht2, by decide⟩ hZ)
                have hs2 := hsay
                have hnt : numTo C.E es.length = numL C.E C.E.length := by rw [← HCL0.out]; exact numTo_all _
                rw [hnt] at hs2
                exact ⟨⟨⟨n0, (C.nl 0).length, d0⟩, ⟨n1, (C.nl 1).length, d1⟩, ⟨n2, (C.nl 2).length, d2⟩, ⟨n3, (C.nl 3).length, d3⟩, ⟨ae, (es).length, ce⟩, ⟨ad, (ds).length, cd⟩, ⟨am, (ms).length, cm⟩, ⟨aq, (C.Q).length, cq⟩⟩, xe, xd, xm, scan', dn', mn', rfl, hs2, hbl, ⟨g1, g3⟩, g2, g4⟩)
              have hbx := HST.out.bx; have hb2 := HST.out.b2
              have hcx := hbx.1; have hfx := hbx.2.1; have hlx := hbx.2.2; have hc2 := hb2.1; have hf2 := hb2.2.1; have hl2 := hb2.2.2
              go_wp2_with fail
              refine bodyPost_ret (v := .tuple #[valH ⟨⟨n0, (C.nl 0).length, d0⟩, ⟨n1, (C.nl 1).length, d1⟩, ⟨n2, (C.nl 2).length, d2⟩, ⟨n3, (C.nl 3).length, d3⟩, ⟨ae, (es).length, ce⟩, ⟨ad, (ds).length, cd⟩, ⟨am, (ms).length, cm⟩, ⟨aq, (C.Q).length, cq⟩⟩, .int .i64 0]) (by simp [results, Tryz.results21, go_sem, hc2]) rfl (HFIN.out _ ?_)
              repeat (first | (with_reducible exact Same.refl' _) | (refine Same.setTail ?_ (fun hn => hn rfl)))
end Yd
