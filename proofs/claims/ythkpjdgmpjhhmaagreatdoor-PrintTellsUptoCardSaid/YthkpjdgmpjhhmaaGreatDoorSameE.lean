import Derived.Test.YthkpjdgmpjhhmaaGreatDoorHistA
import Derived.Test.YthkpjdgmpjhhmaaGreatDoorProg
import Derived.Test.YthkpjdgmpjhhmaaGreatDoorGround
import Derived.BigQuiet
import Derived.Laws.EntriesVeiled
set_option maxRecDepth 200000
set_option maxHeartbeats 8000000
namespace Yd
open Go Go.RowKit Go.Proofs

def sameFlat (a b : EvC) : Bool := decide (a.kind = b.kind) && decide (a.t = b.t) && decide (a.ses = b.ses) && decide (a.lvl = b.lvl) && decide (a.obj = b.obj) && decide (a.v = b.v) && decide (a.pred = b.pred)
theorem same_ev (a b : EvC) (xs ys : List Sn) (w : World) (hx : Row w 3 encSn a.sa a.sn a.sc xs) (hy : Row w 3 encSn b.sa b.sn b.sc ys) :
   Calls Tryz.prog 136 #[valEv a, valEv b] w (Ret (.bool (sameFlat a b && decide (xs = ys))) w) := by
 obtain ⟨R, hR0⟩ : ∃ R : Bool, R = (sameFlat a b && decide (xs = ys)) := ⟨_, rfl⟩
 rw [← hR0]
 have HF := hid hR0; have HX := hid hx; have HY := hid hy
 clear hR0 hx hy
 obtain ⟨kind, t, ses, lvl, obj, v, pred, sa, sn, sc⟩ := a
 obtain ⟨kind', t', ses', lvl', obj', v', pred', sa', sn', sc'⟩ := b
 by_cases h : ¬ kind = kind'
 · have hR : R = false := by rw [HF.out]; simp [sameFlat, h]
   subst hR
   have hne : (kind == kind') = false := beq_eq_false_iff_ne.2 h
   clear h
   go_enter Tryz.func136, Tryz.ntmps136
   go_wp2_with fail
   go_ret
   exact ⟨rfl, ((Below.refl _ _).alloc (Nat.le_refl _) _).alloc (by simp) _⟩
 have h := Decidable.not_not.1 h
 subst h
 by_cases h : ¬ t = t'
 · have hR : R = false := by rw [HF.out]; simp [sameFlat, h]
   subst hR
   have hne : (t == t') = false := beq_eq_false_iff_ne.2 h
   clear h
   go_enter Tryz.func136, Tryz.ntmps136
   go_wp2_with fail
   go_ret
   exact ⟨rfl, ((Below.refl _ _).alloc (Nat.le_refl _) _).alloc (by simp) _⟩
 have h := Decidable.not_not.1 h
 subst h
 by_cases h : ¬ ses = ses'
 · have hR : R = false := by rw [HF.out]; simp [sameFlat, h]
   subst hR
   have hne : (ses == ses') = false := beq_eq_false_iff_ne.2 h
   clear h
   go_enter Tryz.func136, Tryz.ntmps136
   go_wp2_with fail
   go_ret
   exact ⟨rfl, ((Below.refl _ _).alloc (Nat.le_refl _) _).alloc (by simp) _⟩
 have h := Decidable.not_not.1 h
 subst h
 by_cases h : ¬ lvl = lvl'
 · have hR : R = false := by rw [HF.out]; simp [sameFlat, h]
   subst hR
   have hne : (lvl == lvl') = false := beq_eq_false_iff_ne.2 h
   clear h
   go_enter Tryz.func136, Tryz.ntmps136
   go_wp2_with fail
   go_ret
   exact ⟨rfl, ((Below.refl _ _).alloc (Nat.le_refl _) _).alloc (by simp) _⟩
 have h := Decidable.not_not.1 h
 subst h
 by_cases h : ¬ obj = obj'
 · have hR : R = false := by rw [HF.out]; simp [sameFlat, h]
   subst hR
   have hne : (obj == obj') = false := beq_eq_false_iff_ne.2 h
   clear h
   go_enter Tryz.func136, Tryz.ntmps136
   go_wp2_with fail
   go_ret
   exact ⟨rfl, ((Below.refl _ _).alloc (Nat.le_refl _) _).alloc (by simp) _⟩
 have h := Decidable.not_not.1 h
 subst h
 by_cases h : ¬ v = v'
 · have hR : R = false := by rw [HF.out]; simp [sameFlat, h]
   subst hR
   have hne := eqInVer v v'; rw [decide_eq_false h] at hne
   clear h
   go_enter Tryz.func136, Tryz.ntmps136
   go_wp2_with fail
   go_ret
   exact ⟨rfl, ((Below.refl _ _).alloc (Nat.le_refl _) _).alloc (by simp) _⟩
 have h := Decidable.not_not.1 h
 subst h
 by_cases h : ¬ pred = pred'
 · have hR : R = false := by rw [HF.out]; simp [sameFlat, h]
   subst hR
   have hne : (pred == pred') = false := beq_eq_false_iff_ne.2 h
   clear h
   go_enter Tryz.func136, Tryz.ntmps136
   go_wp2_with fail
   go_ret
   exact ⟨rfl, ((Below.refl _ _).alloc (Nat.le_refl _) _).alloc (by simp) _⟩
 have h := Decidable.not_not.1 h
 subst h
 have hR : R = decide (xs = ys) := by rw [HF.out]; simp [sameFlat]
 subst hR
 have HB := hid (((Below.refl w.heap.size w).alloc (Nat.le_refl _) (.cells (cellsEv ⟨kind, t, ses, lvl, obj, v, pred, sa, sn, sc⟩) 49)).alloc (by simp) (.cells (cellsEv ⟨kind, t, ses, lvl, obj, v, pred, sa', sn', sc'⟩) 49))
 have HC := hid (eqSn sa sa' sn sc sn' sc' xs ys _ (HX.out.below HB.out rfl) (HY.out.below HB.out rfl))
 go_enter Tryz.func136, Tryz.ntmps136
 go_wp2_with (go_at_call 153; refine HC.out.mono ?_; rintro e w1 ⟨rfl, hb1⟩)
 go_ret
 exact ⟨rfl, HB.out.trans (hb1.mono (by simp; omega))⟩
end Yd


namespace Yd
open Go Go.RowKit Go.Proofs

def bareB (e : EvC) (scan : List Sn) : Bool :=
 if e.kind = 1 then decide (e.obj = 0) && decide (e.v = ⟨0, 0⟩) && decide (e.pred = 0) && decide (scan = [])
 else if e.kind = 2 ∨ e.kind = 3 then decide (e.ses = 0) && decide (e.lvl = 0) && decide (e.pred = 0) && decide (scan = [])
 else if e.kind = 4 then decide (e.ses = 0) && decide (e.lvl = 0) && decide (e.obj = 0) && decide (e.v = ⟨0, 0⟩)
 else decide (e.ses = 0) && decide (e.lvl = 0) && decide (e.obj = 0) && decide (e.v = ⟨0, 0⟩) && decide (e.pred = 0) && decide (scan = [])
def hasB (nt ns no np : Nat) (e : EvC) (scan : List Sn) : Bool :=
 if e.kind = 1 then toldB e.ses ns && levelB e.lvl
 else if e.kind = 2 then toldB e.obj no && verB e.v nt && decide (e.v.t = e.t) && decide (0 < e.v.k)
 else if e.kind = 3 then toldB e.obj no && verB e.v nt
 else if e.kind = 4 then toldB e.pred np && decide (scan.length ≤ 40) && scan.all (seenB nt no)
 else true
def evB (nt ns no np : Nat) (e : EvC) (scan : List Sn) : Bool := decide (1 ≤ e.kind) && decide (e.kind < 7) && toldB e.t nt && hasB nt ns no np e scan && bareB e scan

theorem event_1 (h : HC) (t ses lvl obj : Int) (v : Ver) (pred : Int) (sa : Option Addr) (sn sc : Nat) (scan : List Sn) (W : World) (hr : Row W 3 encSn sa sn sc scan) (ht : toldB t h.t.n = true) :
   Calls Tryz.prog 101 #[valH h, valEv ⟨1, t, ses, lvl, obj, v, pred, sa, sn, sc⟩] W (Ret (.bool (evB h.t.n h.s.n h.o.n h.p.n ⟨1, t, ses, lvl, obj, v, pred, sa, sn, sc⟩ scan)) W) := by
 obtain ⟨R, hR0⟩ : ∃ R : Bool, R = (toldB ses h.s.n && levelB lvl) := ⟨_, rfl⟩
 have hfin : evB h.t.n h.s.n h.o.n h.p.n ⟨1, t, ses, lvl, obj, v, pred, sa, sn, sc⟩ scan = (R && (sameFlat ⟨1, t, ses, lvl, 0, ⟨0, 0⟩, 0, none, 0, 0⟩ ⟨1, t, ses, lvl, obj, v, pred, sa, sn, sc⟩ && decide (([] : List Sn) = scan))) := by
   rw [hR0]; have hl := hr.len; have hq : ((sn : Int) ≤ 40) = (sn ≤ 40) := propext (by omega); simp [evB, hasB, bareB, sameFlat, ht, eq_comm (a := (0 : Int)), eq_comm (a := (⟨0, 0⟩ : Ver)), eq_comm (a := ([] : List Sn)), Bool.and_assoc]
 obtain ⟨R2, hR2⟩ : ∃ R2 : Bool, R2 = (sameFlat ⟨1, t, ses, lvl, 0, ⟨0, 0⟩, 0, none, 0, 0⟩ ⟨1, t, ses, lvl, obj, v, pred, sa, sn, sc⟩ && decide (([] : List Sn) = scan)) := ⟨_, rfl⟩
 rw [hfin, ← hR2]
 have HF2 := hid hR2; clear hR2
 have HFIN := hid hR0; have HT := hid ht; have HR := hid hr
 clear hR0 ht hr hfin
 have hE0 := ((Bx.new (W.alloc (.cells (cellsH h) 28)) (cellsEv ⟨1, t, ses, lvl, obj, v, pred, sa, sn, sc⟩) 49).alloc (.cells #[.nilFunc, .func (.func 127) #[] #[.pointer (some ⟨W.heap.size + 1, 0, none⟩), .pointer (some ⟨W.heap.size, 0, none⟩)], .func (.func 128) #[] #[.pointer (some ⟨W.heap.size + 1, 0, none⟩), .pointer (some ⟨W.heap.size, 0, none⟩)], .func (.func 130) #[] #[.pointer (some ⟨W.heap.size + 1, 0, none⟩), .pointer (some ⟨W.heap.size, 0, none⟩)], .func (.func 131) #[] #[.pointer (some ⟨W.heap.size, 0, none⟩), .pointer (some ⟨W.heap.size + 1, 0, none⟩)], .func (.func 134) #[] #[], .func (.func 135) #[] #[]] 192))
 have hH0 := (((Bx.new W (cellsH h) 28).alloc (.cells (cellsEv ⟨1, t, ses, lvl, obj, v, pred, sa, sn, sc⟩) 49)).alloc (.cells #[.nilFunc, .func (.func 127) #[] #[.pointer (some ⟨W.heap.size + 1, 0, none⟩), .pointer (some ⟨W.heap.size, 0, none⟩)], .func (.func 128) #[] #[.pointer (some ⟨W.heap.size + 1, 0, none⟩), .pointer (some ⟨W.heap.size, 0, none⟩)], .func (.func 130) #[] #[.pointer (some ⟨W.heap.size + 1, 0, none⟩), .pointer (some ⟨W.heap.size, 0, none⟩)], .func (.func 131) #[] #[.pointer (some ⟨W.heap.size, 0, none⟩), .pointer (some ⟨W.heap.size + 1, 0, none⟩)], .func (.func 134) #[] #[], .func (.func 135) #[] #[]] 192))
 have hM0 := (Bx.new ((W.alloc (.cells (cellsH h) 28)).alloc (.cells (cellsEv ⟨1, t, ses, lvl, obj, v, pred, sa, sn, sc⟩) 49)) #[.nilFunc, .func (.func 127) #[] #[.pointer (some ⟨W.heap.size + 1, 0, none⟩), .pointer (some ⟨W.heap.size, 0, none⟩)], .func (.func 128) #[] #[.pointer (some ⟨W.heap.size + 1, 0, none⟩), .pointer (some ⟨W.heap.size, 0, none⟩)], .func (.func 130) #[] #[.pointer (some ⟨W.heap.size + 1, 0, none⟩), .pointer (some ⟨W.heap.size, 0, none⟩)], .func (.func 131) #[] #[.pointer (some ⟨W.heap.size, 0, none⟩), .pointer (some ⟨W.heap.size + 1, 0, none⟩)], .func (.func 134) #[] #[], .func (.func 135) #[] #[]] 192)
 have hB0 := (((Below.refl W.heap.size W).alloc (Nat.le_refl _) (.cells (cellsH h) 28)).alloc (by simp) (.cells (cellsEv ⟨1, t, ses, lvl, obj, v, pred, sa, sn, sc⟩) 49)).alloc (by simp; omega) (.cells #[.nilFunc, .func (.func 127) #[] #[.pointer (some ⟨W.heap.size + 1, 0, none⟩), .pointer (some ⟨W.heap.size, 0, none⟩)], .func (.func 128) #[] #[.pointer (some ⟨W.heap.size + 1, 0, none⟩), .pointer (some ⟨W.heap.size, 0, none⟩)], .func (.func 130) #[] #[.pointer (some ⟨W.heap.size + 1, 0, none⟩), .pointer (some ⟨W.heap.size, 0, none⟩)], .func (.func 131) #[] #[.pointer (some ⟨W.heap.size, 0, none⟩), .pointer (some ⟨W.heap.size + 1, 0, none⟩)], .func (.func 134) #[] #[], .func (.func 135) #[] #[]] 192)
 simp only [World.size_alloc] at hE0 hH0 hM0
 have HE0 := hid hE0; have HH0 := hid hH0; have HM0 := hid hM0; have HB0 := hid hB0
 clear hE0 hH0 hM0 hB0
 go_enter Tryz.func101, Tryz.ntmps101
 go_wp2_with fail
 refine (told0 h _ _).mono ?_
 rintro e w1 ⟨rfl, hb1⟩
 rw [HT.out]
 have HE1 := hid (HE0.out.keep hb1); have HH1 := hid (HH0.out.keep hb1); have HM1 := hid (HM0.out.keep hb1)
 have HBb := hid (HB0.out.trans (hb1.mono HB0.out.size))
 have hE1 := HE1.out; have hM1 := HM1.out
 clear hb1
 go_wp2_with fail
 refine (event1 h ⟨1, t, ses, lvl, obj, v, pred, sa, sn, sc⟩ _ _ w1 HE1.out HH1.out).mono ?_
 rintro e w2 ⟨rfl, hb2⟩
 rw [← HFIN.out]
 have HR := hid (HR.out.below (HBb.out.trans (hb2.mono HBb.out.size)) rfl)
 have HE2 := HE1.out.keep hb2
 have HBc := hid (HBb.out.trans (hb2.mono HBb.out.size))
 have HL := hid (Nat.lt_of_lt_of_le HE1.out.2.2 hb2.size)
 have HS : Hid (∀ W', Below w2.heap.size w2 W' → Bx W' (W.heap.size + 1) (cellsEv ⟨1, t, ses, lvl, obj, v, pred, sa, sn, sc⟩)) := fun W' hb => HE2.keep hb
 clear hb2 hE1 hM1 HE2 HE1 HM1 HH1 HE0 HH0 HM0 HB0 HBb
 cases R
 all_goals
   go_wp2_with fail
   have HX := hid ((Bx.new w2 (cellsEv (bare1 ⟨1, t, ses, lvl, obj, v, pred, sa, sn, sc⟩)) 49).drew)
   have HB := hid (((Below.refl w2.heap.size w2).alloc (Nat.le_refl _) (.cells (cellsEv (bare1 ⟨1, t, ses, lvl, obj, v, pred, sa, sn, sc⟩)) 49)).drew)
   refine wp_region_ord [(0, true), (1, true), (2, true), (3, true), (4, true), (5, false), (6, true), (7, false)] (fun W' => Bx W' (W.heap.size + 1) (cellsEv ⟨1, t, ses, lvl, obj, v, pred, sa, sn, sc⟩)) (by kernel_rfl) (by kernel_rfl) (by intro d v c a w h; cases d <;> exact h) (HS.out _ HB.out) ?_
   repeat ((first | refine ord_skip rfl rfl ?_ | (refine ord_q rfl rfl ?_; apply Exists.intro; refine ⟨fun wS hS => ?_, ?_⟩; (go_simp; try with_reducible rfl))); simp only [Act.put, List.setIfInBounds_toArray, List.set_cons_zero, List.set_cons_succ])
   have hX := HX.out
   refine ord_l rfl rfl (fun K hK => ?_)
   go_simp
   refine hK _ _ (HS.out _ (((Below.refl _ _).alloc (Nat.le_refl _) _).drew)) ?_
   clear hK K
   repeat ((first | refine ord_skip rfl rfl ?_ | (refine ord_q rfl rfl ?_; apply Exists.intro; refine ⟨fun wS hS => ?_, ?_⟩; (go_simp; try with_reducible rfl))); simp only [Act.put, List.setIfInBounds_toArray, List.set_cons_zero, List.set_cons_succ])
   refine ord_l rfl rfl (fun K hK => ?_)
   go_simp
   refine hK _ _ (HS.out _ (((Below.refl _ _).alloc (Nat.le_refl _) _).drew)) ?_
   clear hK K
   clear hX HX
   have hS2 := HS.out _ (((Below.refl w2.heap.size w2).alloc (Nat.le_refl _) (.cells (cellsEv ⟨1, t, ses, lvl, 0, ⟨0, 0⟩, 0, none, 0, 0⟩) 49)).drew)
   have HL2 := HL.out
   refine ord_nil ?_
   go_wp2_with fail
 · go_ret
   exact ⟨rfl, HBc.out.trans ((((Below.refl w2.heap.size w2).alloc (Nat.le_refl _) (.cells (cellsEv ⟨1, t, ses, lvl, 0, ⟨0, 0⟩, 0, none, 0, 0⟩) 49)).drew).mono HBc.out.size)⟩
 · refine (same_ev ⟨1, t, ses, lvl, 0, ⟨0, 0⟩, 0, none, 0, 0⟩ ⟨1, t, ses, lvl, obj, v, pred, sa, sn, sc⟩ ([] : List Sn) scan _ (Row.nil_) (HR.out.below (((Below.refl w2.heap.size w2).alloc (Nat.le_refl _) (.cells (cellsEv ⟨1, t, ses, lvl, 0, ⟨0, 0⟩, 0, none, 0, 0⟩) 49)).drew) rfl)).mono ?_
   rintro e w3 ⟨rfl, hb3⟩
   rw [show (sameFlat ⟨1, t, ses, lvl, 0, ⟨0, 0⟩, 0, none, 0, 0⟩ ⟨1, t, ses, lvl, obj, v, pred, sa, sn, sc⟩ && decide (([] : List Sn) = scan)) = R2 from by simp [HF2.out]]
   go_wp2_with fail
   go_ret
   exact ⟨rfl, HBc.out.trans (((((Below.refl w2.heap.size w2).alloc (Nat.le_refl _) (.cells (cellsEv ⟨1, t, ses, lvl, 0, ⟨0, 0⟩, 0, none, 0, 0⟩) 49)).drew).mono HBc.out.size).trans (hb3.mono (by have := HBc.out.size; simp; omega)))⟩

theorem event_2 (h : HC) (t ses lvl obj : Int) (v : Ver) (pred : Int) (sa : Option Addr) (sn sc : Nat) (scan : List Sn) (W : World) (hr : Row W 3 encSn sa sn sc scan) (ht : toldB t h.t.n = true) :
   Calls Tryz.prog 101 #[valH h, valEv ⟨2, t, ses, lvl, obj, v, pred, sa, sn, sc⟩] W (Ret (.bool (evB h.t.n h.s.n h.o.n h.p.n ⟨2, t, ses, lvl, obj, v, pred, sa, sn, sc⟩ scan)) W) := by
 obtain ⟨R, hR0⟩ : ∃ R : Bool, R = (toldB obj h.o.n && verB v h.t.n && (v.t == t) && decide (0 < v.k)) := ⟨_, rfl⟩
 have hfin : evB h.t.n h.s.n h.o.n h.p.n ⟨2, t, ses, lvl, obj, v, pred, sa, sn, sc⟩ scan = (R && (sameFlat ⟨2, t, 0, 0, obj, v, 0, none, 0, 0⟩ ⟨2, t, ses, lvl, obj, v, pred, sa, sn, sc⟩ && decide (([] : List Sn) = scan))) := by
   rw [hR0]; have hl := hr.len; have hq : ((sn : Int) ≤ 40) = (sn ≤ 40) := propext (by omega); simp [evB, hasB, bareB, sameFlat, ht, eq_comm (a := (0 : Int)), eq_comm (a := ([] : List Sn)), Bool.and_assoc, Bool.beq_eq_decide_eq]
 obtain ⟨R2, hR2⟩ : ∃ R2 : Bool, R2 = (sameFlat ⟨2, t, 0, 0, obj, v, 0, none, 0, 0⟩ ⟨2, t, ses, lvl, obj, v, pred, sa, sn, sc⟩ && decide (([] : List Sn) = scan)) := ⟨_, rfl⟩
 rw [hfin, ← hR2]
 have HF2 := hid hR2; clear hR2
 have HFIN := hid hR0; have HT := hid ht; have HR := hid hr
 clear hR0 ht hr hfin
 have hE0 := ((Bx.new (W.alloc (.cells (cellsH h) 28)) (cellsEv ⟨2, t, ses, lvl, obj, v, pred, sa, sn, sc⟩) 49).alloc (.cells #[.nilFunc, .func (.func 127) #[] #[.pointer (some ⟨W.heap.size + 1, 0, none⟩), .pointer (some ⟨W.heap.size, 0, none⟩)], .func (.func 128) #[] #[.pointer (some ⟨W.heap.size + 1, 0, none⟩), .pointer (some ⟨W.heap.size, 0, none⟩)], .func (.func 130) #[] #[.pointer (some ⟨W.heap.size + 1, 0, none⟩), .pointer (some ⟨W.heap.size, 0, none⟩)], .func (.func 131) #[] #[.pointer (some ⟨W.heap.size, 0, none⟩), .pointer (some ⟨W.heap.size + 1, 0, none⟩)], .func (.func 134) #[] #[], .func (.func 135) #[] #[]] 192))
 have hH0 := (((Bx.new W (cellsH h) 28).alloc (.cells (cellsEv ⟨2, t, ses, lvl, obj, v, pred, sa, sn, sc⟩) 49)).alloc (.cells #[.nilFunc, .func (.func 127) #[] #[.pointer (some ⟨W.heap.size + 1, 0, none⟩), .pointer (some ⟨W.heap.size, 0, none⟩)], .func (.func 128) #[] #[.pointer (some ⟨W.heap.size + 1, 0, none⟩), .pointer (some ⟨W.heap.size, 0, none⟩)], .func (.func 130) #[] #[.pointer (some ⟨W.heap.size + 1, 0, none⟩), .pointer (some ⟨W.heap.size, 0, none⟩)], .func (.func 131) #[] #[.pointer (some ⟨W.heap.size, 0, none⟩), .pointer (some ⟨W.heap.size + 1, 0, none⟩)], .func (.func 134) #[] #[], .func (.func 135) #[] #[]] 192))
 have hM0 := (Bx.new ((W.alloc (.cells (cellsH h) 28)).alloc (.cells (cellsEv ⟨2, t, ses, lvl, obj, v, pred, sa, sn, sc⟩) 49)) #[.nilFunc, .func (.func 127) #[] #[.pointer (some ⟨W.heap.size + 1, 0, none⟩), .pointer (some ⟨W.heap.size, 0, none⟩)], .func (.func 128) #[] #[.pointer (some ⟨W.heap.size + 1, 0, none⟩), .pointer (some ⟨W.heap.size, 0, none⟩)], .func (.func 130) #[] #[.pointer (some ⟨W.heap.size + 1, 0, none⟩), .pointer (some ⟨W.heap.size, 0, none⟩)], .func (.func 131) #[] #[.pointer (some ⟨W.heap.size, 0, none⟩), .pointer (some ⟨W.heap.size + 1, 0, none⟩)], .func (.func 134) #[] #[], .func (.func 135) #[] #[]] 192)
 have hB0 := (((Below.refl W.heap.size W).alloc (Nat.le_refl _) (.cells (cellsH h) 28)).alloc (by simp) (.cells (cellsEv ⟨2, t, ses, lvl, obj, v, pred, sa, sn, sc⟩) 49)).alloc (by simp; omega) (.cells #[.nilFunc, .func (.func 127) #[] #[.pointer (some ⟨W.heap.size + 1, 0, none⟩), .pointer (some ⟨W.heap.size, 0, none⟩)], .func (.func 128) #[] #[.pointer (some ⟨W.heap.size + 1, 0, none⟩), .pointer (some ⟨W.heap.size, 0, none⟩)], .func (.func 130) #[] #[.pointer (some ⟨W.heap.size + 1, 0, none⟩), .pointer (some ⟨W.heap.size, 0, none⟩)], .func (.func 131) #[] #[.pointer (some ⟨W.heap.size, 0, none⟩), .pointer (some ⟨W.heap.size + 1, 0, none⟩)], .func (.func 134) #[] #[], .func (.func 135) #[] #[]] 192)
 simp only [World.size_alloc] at hE0 hH0 hM0
 have HE0 := hid hE0; have HH0 := hid hH0; have HM0 := hid hM0; have HB0 := hid hB0
 clear hE0 hH0 hM0 hB0
 go_enter Tryz.func101, Tryz.ntmps101
 go_wp2_with fail
 refine (told0 h _ _).mono ?_
 rintro e w1 ⟨rfl, hb1⟩
 rw [HT.out]
 have HE1 := hid (HE0.out.keep hb1); have HH1 := hid (HH0.out.keep hb1); have HM1 := hid (HM0.out.keep hb1)
 have HBb := hid (HB0.out.trans (hb1.mono HB0.out.size))
 have hE1 := HE1.out; have hM1 := HM1.out
 clear hb1
 go_wp2_with fail
 refine (event2 h ⟨2, t, ses, lvl, obj, v, pred, sa, sn, sc⟩ _ _ w1 HE1.out HH1.out).mono ?_
 rintro e w2 ⟨rfl, hb2⟩
 rw [← HFIN.out]
 have HR := hid (HR.out.below (HBb.out.trans (hb2.mono HBb.out.size)) rfl)
 have HE2 := HE1.out.keep hb2
 have HBc := hid (HBb.out.trans (hb2.mono HBb.out.size))
 have HL := hid (Nat.lt_of_lt_of_le HE1.out.2.2 hb2.size)
 have HS : Hid (∀ W', Below w2.heap.size w2 W' → Bx W' (W.heap.size + 1) (cellsEv ⟨2, t, ses, lvl, obj, v, pred, sa, sn, sc⟩)) := fun W' hb => HE2.keep hb
 clear hb2 hE1 hM1 HE2 HE1 HM1 HH1 HE0 HH0 HM0 HB0 HBb
 cases R
 all_goals
   go_wp2_with fail
   have HX := hid ((Bx.new w2 (cellsEv (bare2 ⟨2, t, ses, lvl, obj, v, pred, sa, sn, sc⟩)) 49).drew)
   have HB := hid (((Below.refl w2.heap.size w2).alloc (Nat.le_refl _) (.cells (cellsEv (bare2 ⟨2, t, ses, lvl, obj, v, pred, sa, sn, sc⟩)) 49)).drew)
   refine wp_region_ord [(0, true), (1, true), (2, true), (3, true), (4, true), (5, false), (6, true), (7, false)] (fun W' => Bx W' (W.heap.size + 1) (cellsEv ⟨2, t, ses, lvl, obj, v, pred, sa, sn, sc⟩)) (by kernel_rfl) (by kernel_rfl) (by intro d v c a w h; cases d <;> exact h) (HS.out _ HB.out) ?_
   repeat ((first | refine ord_skip rfl rfl ?_ | (refine ord_q rfl rfl ?_; apply Exists.intro; refine ⟨fun wS hS => ?_, ?_⟩; (go_simp; try with_reducible rfl))); simp only [Act.put, List.setIfInBounds_toArray, List.set_cons_zero, List.set_cons_succ])
   have hX := HX.out
   refine ord_l rfl rfl (fun K hK => ?_)
   go_simp
   refine hK _ _ (HS.out _ (((Below.refl _ _).alloc (Nat.le_refl _) _).drew)) ?_
   clear hK K
   repeat ((first | refine ord_skip rfl rfl ?_ | (refine ord_q rfl rfl ?_; apply Exists.intro; refine ⟨fun wS hS => ?_, ?_⟩; (go_simp; try with_reducible rfl))); simp only [Act.put, List.setIfInBounds_toArray, List.set_cons_zero, List.set_cons_succ])
   refine ord_l rfl rfl (fun K hK => ?_)
   go_simp
   refine hK _ _ (HS.out _ (((Below.refl _ _).alloc (Nat.le_refl _) _).drew)) ?_
   clear hK K
   clear hX HX
   have hS2 := HS.out _ (((Below.refl w2.heap.size w2).alloc (Nat.le_refl _) (.cells (cellsEv ⟨2, t, 0, 0, obj, v, 0, none, 0, 0⟩) 49)).drew)
   have HL2 := HL.out
   refine ord_nil ?_
   go_wp2_with fail
 · go_ret
   exact ⟨rfl, HBc.out.trans ((((Below.refl w2.heap.size w2).alloc (Nat.le_refl _) (.cells (cellsEv ⟨2, t, 0, 0, obj, v, 0, none, 0, 0⟩) 49)).drew).mono HBc.out.size)⟩
 · refine (same_ev ⟨2, t, 0, 0, obj, v, 0, none, 0, 0⟩ ⟨2, t, ses, lvl, obj, v, pred, sa, sn, sc⟩ ([] : List Sn) scan _ (Row.nil_) (HR.out.below (((Below.refl w2.heap.size w2).alloc (Nat.le_refl _) (.cells (cellsEv ⟨2, t, 0, 0, obj, v, 0, none, 0, 0⟩) 49)).drew) rfl)).mono ?_
   rintro e w3 ⟨rfl, hb3⟩
   rw [show (sameFlat ⟨2, t, 0, 0, obj, v, 0, none, 0, 0⟩ ⟨2, t, ses, lvl, obj, v, pred, sa, sn, sc⟩ && decide (([] : List Sn) = scan)) = R2 from by simp [HF2.out]]
   go_wp2_with fail
   go_ret
   exact ⟨rfl, HBc.out.trans (((((Below.refl w2.heap.size w2).alloc (Nat.le_refl _) (.cells (cellsEv ⟨2, t, 0, 0, obj, v, 0, none, 0, 0⟩) 49)).drew).mono HBc.out.size).trans (hb3.mono (by have := HBc.out.size; simp; omega)))⟩

theorem event_3 (h : HC) (t ses lvl obj : Int) (v : Ver) (pred : Int) (sa : Option Addr) (sn sc : Nat) (scan : List Sn) (W : World) (hr : Row W 3 encSn sa sn sc scan) (ht : toldB t h.t.n = true) :
   Calls Tryz.prog 101 #[valH h, valEv ⟨3, t, ses, lvl, obj, v, pred, sa, sn, sc⟩] W (Ret (.bool (evB h.t.n h.s.n h.o.n h.p.n ⟨3, t, ses, lvl, obj, v, pred, sa, sn, sc⟩ scan)) W) := by
 obtain ⟨R, hR0⟩ : ∃ R : Bool, R = (toldB obj h.o.n && verB v h.t.n) := ⟨_, rfl⟩
 have hfin : evB h.t.n h.s.n h.o.n h.p.n ⟨3, t, ses, lvl, obj, v, pred, sa, sn, sc⟩ scan = (R && (sameFlat ⟨3, t, 0, 0, obj, v, 0, none, 0, 0⟩ ⟨3, t, ses, lvl, obj, v, pred, sa, sn, sc⟩ && decide (([] : List Sn) = scan))) := by
   rw [hR0]; have hl := hr.len; have hq : ((sn : Int) ≤ 40) = (sn ≤ 40) := propext (by omega); simp [evB, hasB, bareB, sameFlat, ht, eq_comm (a := (0 : Int)), eq_comm (a := ([] : List Sn)), Bool.and_assoc]
 obtain ⟨R2, hR2⟩ : ∃ R2 : Bool, R2 = (sameFlat ⟨3, t, 0, 0, obj, v, 0, none, 0, 0⟩ ⟨3, t, ses, lvl, obj, v, pred, sa, sn, sc⟩ && decide (([] : List Sn) = scan)) := ⟨_, rfl⟩
 rw [hfin, ← hR2]
 have HF2 := hid hR2; clear hR2
 have HFIN := hid hR0; have HT := hid ht; have HR := hid hr
 clear hR0 ht hr hfin
 have hE0 := ((Bx.new (W.alloc (.cells (cellsH h) 28)) (cellsEv ⟨3, t, ses, lvl, obj, v, pred, sa, sn, sc⟩) 49).alloc (.cells #[.nilFunc, .func (.func 127) #[] #[.pointer (some ⟨W.heap.size + 1, 0, none⟩), .pointer (some ⟨W.heap.size, 0, none⟩)], .func (.func 128) #[] #[.pointer (some ⟨W.heap.size + 1, 0, none⟩), .pointer (some ⟨W.heap.size, 0, none⟩)], .func (.func 130) #[] #[.pointer (some ⟨W.heap.size + 1, 0, none⟩), .pointer (some ⟨W.heap.size, 0, none⟩)], .func (.func 131) #[] #[.pointer (some ⟨W.heap.size, 0, none⟩), .pointer (some ⟨W.heap.size + 1, 0, none⟩)], .func (.func 134) #[] #[], .func (.func 135) #[] #[]] 192))
 have hH0 := (((Bx.new W (cellsH h) 28).alloc (.cells (cellsEv ⟨3, t, ses, lvl, obj, v, pred, sa, sn, sc⟩) 49)).alloc (.cells #[.nilFunc, .func (.func 127) #[] #[.pointer (some ⟨W.heap.size + 1, 0, none⟩), .pointer (some ⟨W.heap.size, 0, none⟩)], .func (.func 128) #[] #[.pointer (some ⟨W.heap.size + 1, 0, none⟩), .pointer (some ⟨W.heap.size, 0, none⟩)], .func (.func 130) #[] #[.pointer (some ⟨W.heap.size + 1, 0, none⟩), .pointer (some ⟨W.heap.size, 0, none⟩)], .func (.func 131) #[] #[.pointer (some ⟨W.heap.size, 0, none⟩), .pointer (some ⟨W.heap.size + 1, 0, none⟩)], .func (.func 134) #[] #[], .func (.func 135) #[] #[]] 192))
 have hM0 := (Bx.new ((W.alloc (.cells (cellsH h) 28)).alloc (.cells (cellsEv ⟨3, t, ses, lvl, obj, v, pred, sa, sn, sc⟩) 49)) #[.nilFunc, .func (.func 127) #[] #[.pointer (some ⟨W.heap.size + 1, 0, none⟩), .pointer (some ⟨W.heap.size, 0, none⟩)], .func (.func 128) #[] #[.pointer (some ⟨W.heap.size + 1, 0, none⟩), .pointer (some ⟨W.heap.size, 0, none⟩)], .func (.func 130) #[] #[.pointer (some ⟨W.heap.size + 1, 0, none⟩), .pointer (some ⟨W.heap.size, 0, none⟩)], .func (.func 131) #[] #[.pointer (some ⟨W.heap.size, 0, none⟩), .pointer (some ⟨W.heap.size + 1, 0, none⟩)], .func (.func 134) #[] #[], .func (.func 135) #[] #[]] 192)
 have hB0 := (((Below.refl W.heap.size W).alloc (Nat.le_refl _) (.cells (cellsH h) 28)).alloc (by simp) (.cells (cellsEv ⟨3, t, ses, lvl, obj, v, pred, sa, sn, sc⟩) 49)).alloc (by simp; omega) (.cells #[.nilFunc, .func (.func 127) #[] #[.pointer (some ⟨W.heap.size + 1, 0, none⟩), .pointer (some ⟨W.heap.size, 0, none⟩)], .func (.func 128) #[] #[.pointer (some ⟨W.heap.size + 1, 0, none⟩), .pointer (some ⟨W.heap.size, 0, none⟩)], .func (.func 130) #[] #[.pointer (some ⟨W.heap.size + 1, 0, none⟩), .pointer (some ⟨W.heap.size, 0, none⟩)], .func (.func 131) #[] #[.pointer (some ⟨W.heap.size, 0, none⟩), .pointer (some ⟨W.heap.size + 1, 0, none⟩)], .func (.func 134) #[] #[], .func (.func 135) #[] #[]] 192)
 simp only [World.size_alloc] at hE0 hH0 hM0
 have HE0 := hid hE0; have HH0 := hid hH0; have HM0 := hid hM0; have HB0 := hid hB0
 clear hE0 hH0 hM0 hB0
 go_enter Tryz.func101, Tryz.ntmps101
 go_wp2_with fail
 refine (told0 h _ _).mono ?_
 rintro e w1 ⟨rfl, hb1⟩
 rw [HT.out]
 have HE1 := hid (HE0.out.keep hb1); have HH1 := hid (HH0.out.keep hb1); have HM1 := hid (HM0.out.keep hb1)
 have HBb := hid (HB0.out.trans (hb1.mono HB0.out.size))
 have hE1 := HE1.out; have hM1 := HM1.out
 clear hb1
 go_wp2_with fail
 refine (event3 h ⟨3, t, ses, lvl, obj, v, pred, sa, sn, sc⟩ _ _ w1 HE1.out HH1.out).mono ?_
 rintro e w2 ⟨rfl, hb2⟩
 rw [← HFIN.out]
 have HR := hid (HR.out.below (HBb.out.trans (hb2.mono HBb.out.size)) rfl)
 have HE2 := HE1.out.keep hb2
 have HBc := hid (HBb.out.trans (hb2.mono HBb.out.size))
 have HL := hid (Nat.lt_of_lt_of_le HE1.out.2.2 hb2.size)
 have HS : Hid (∀ W', Below w2.heap.size w2 W' → Bx W' (W.heap.size + 1) (cellsEv ⟨3, t, ses, lvl, obj, v, pred, sa, sn, sc⟩)) := fun W' hb => HE2.keep hb
 clear hb2 hE1 hM1 HE2 HE1 HM1 HH1 HE0 HH0 HM0 HB0 HBb
 cases R
 all_goals
   go_wp2_with fail
   have HX := hid ((Bx.new w2 (cellsEv (bare3 ⟨3, t, ses, lvl, obj, v, pred, sa, sn, sc⟩)) 49).drew)
   have HB := hid (((Below.refl w2.heap.size w2).alloc (Nat.le_refl _) (.cells (cellsEv (bare3 ⟨3, t, ses, lvl, obj, v, pred, sa, sn, sc⟩)) 49)).drew)
   refine wp_region_ord [(0, true), (1, true), (2, true), (3, true), (4, true), (5, false), (6, true), (7, false)] (fun W' => Bx W' (W.heap.size + 1) (cellsEv ⟨3, t, ses, lvl, obj, v, pred, sa, sn, sc⟩)) (by kernel_rfl) (by kernel_rfl) (by intro d v c a w h; cases d <;> exact h) (HS.out _ HB.out) ?_
   repeat ((first | refine ord_skip rfl rfl ?_ | (refine ord_q rfl rfl ?_; apply Exists.intro; refine ⟨fun wS hS => ?_, ?_⟩; (go_simp; try with_reducible rfl))); simp only [Act.put, List.setIfInBounds_toArray, List.set_cons_zero, List.set_cons_succ])
   have hX := HX.out
   refine ord_l rfl rfl (fun K hK => ?_)
   go_simp
   refine hK _ _ (HS.out _ (((Below.refl _ _).alloc (Nat.le_refl _) _).drew)) ?_
   clear hK K
   repeat ((first | refine ord_skip rfl rfl ?_ | (refine ord_q rfl rfl ?_; apply Exists.intro; refine ⟨fun wS hS => ?_, ?_⟩; (go_simp; try with_reducible rfl))); simp only [Act.put, List.setIfInBounds_toArray, List.set_cons_zero, List.set_cons_succ])
   refine ord_l rfl rfl (fun K hK => ?_)
   go_simp
   refine hK _ _ (HS.out _ (((Below.refl _ _).alloc (Nat.le_refl _) _).drew)) ?_
   clear hK K
   clear hX HX
   have hS2 := HS.out _ (((Below.refl w2.heap.size w2).alloc (Nat.le_refl _) (.cells (cellsEv ⟨3, t, 0, 0, obj, v, 0, none, 0, 0⟩) 49)).drew)
   have HL2 := HL.out
   refine ord_nil ?_
   go_wp2_with fail
 · go_ret
   exact ⟨rfl, HBc.out.trans ((((Below.refl w2.heap.size w2).alloc (Nat.le_refl _) (.cells (cellsEv ⟨3, t, 0, 0, obj, v, 0, none, 0, 0⟩) 49)).drew).mono HBc.out.size)⟩
 · refine (same_ev ⟨3, t, 0, 0, obj, v, 0, none, 0, 0⟩ ⟨3, t, ses, lvl, obj, v, pred, sa, sn, sc⟩ ([] : List Sn) scan _ (Row.nil_) (HR.out.below (((Below.refl w2.heap.size w2).alloc (Nat.le_refl _) (.cells (cellsEv ⟨3, t, 0, 0, obj, v, 0, none, 0, 0⟩) 49)).drew) rfl)).mono ?_
   rintro e w3 ⟨rfl, hb3⟩
   rw [show (sameFlat ⟨3, t, 0, 0, obj, v, 0, none, 0, 0⟩ ⟨3, t, ses, lvl, obj, v, pred, sa, sn, sc⟩ && decide (([] : List Sn) = scan)) = R2 from by simp [HF2.out]]
   go_wp2_with fail
   go_ret
   exact ⟨rfl, HBc.out.trans (((((Below.refl w2.heap.size w2).alloc (Nat.le_refl _) (.cells (cellsEv ⟨3, t, 0, 0, obj, v, 0, none, 0, 0⟩) 49)).drew).mono HBc.out.size).trans (hb3.mono (by have := HBc.out.size; simp; omega)))⟩

theorem event_4 (h : HC) (t ses lvl obj : Int) (v : Ver) (pred : Int) (sa : Option Addr) (sn sc : Nat) (scan : List Sn) (W : World) (hr : Row W 3 encSn sa sn sc scan) (ht : toldB t h.t.n = true) :
   Calls Tryz.prog 101 #[valH h, valEv ⟨4, t, ses, lvl, obj, v, pred, sa, sn, sc⟩] W (Ret (.bool (evB h.t.n h.s.n h.o.n h.p.n ⟨4, t, ses, lvl, obj, v, pred, sa, sn, sc⟩ scan)) W) := by
 obtain ⟨R, hR0⟩ : ∃ R : Bool, R = (toldB pred h.p.n && decide ((sn : Int) ≤ 40) && scan.all (seenB h.t.n h.o.n)) := ⟨_, rfl⟩
 have hfin : evB h.t.n h.s.n h.o.n h.p.n ⟨4, t, ses, lvl, obj, v, pred, sa, sn, sc⟩ scan = (R && (sameFlat ⟨4, t, 0, 0, 0, ⟨0, 0⟩, pred, sa, sn, sc⟩ ⟨4, t, ses, lvl, obj, v, pred, sa, sn, sc⟩ && decide (scan = scan))) := by
   rw [hR0]; have hl := hr.len; have hq : ((sn : Int) ≤ 40) = (sn ≤ 40) := propext (by omega); simp [evB, hasB, bareB, sameFlat, ht, eq_comm (a := (0 : Int)), eq_comm (a := (⟨0, 0⟩ : Ver)), Bool.and_assoc, hl, hq]
 obtain ⟨R2, hR2⟩ : ∃ R2 : Bool, R2 = (sameFlat ⟨4, t, 0, 0, 0, ⟨0, 0⟩, pred, sa, sn, sc⟩ ⟨4, t, ses, lvl, obj, v, pred, sa, sn, sc⟩ && decide (scan = scan)) := ⟨_, rfl⟩
 rw [hfin, ← hR2]
 have HF2 := hid hR2; clear hR2
 have HFIN := hid hR0; have HT := hid ht; have HR := hid hr
 clear hR0 ht hr hfin
 have hE0 := ((Bx.new (W.alloc (.cells (cellsH h) 28)) (cellsEv ⟨4, t, ses, lvl, obj, v, pred, sa, sn, sc⟩) 49).alloc (.cells #[.nilFunc, .func (.func 127) #[] #[.pointer (some ⟨W.heap.size + 1, 0, none⟩), .pointer (some ⟨W.heap.size, 0, none⟩)], .func (.func 128) #[] #[.pointer (some ⟨W.heap.size + 1, 0, none⟩), .pointer (some ⟨W.heap.size, 0, none⟩)], .func (.func 130) #[] #[.pointer (some ⟨W.heap.size + 1, 0, none⟩), .pointer (some ⟨W.heap.size, 0, none⟩)], .func (.func 131) #[] #[.pointer (some ⟨W.heap.size, 0, none⟩), .pointer (some ⟨W.heap.size + 1, 0, none⟩)], .func (.func 134) #[] #[], .func (.func 135) #[] #[]] 192))
 have hH0 := (((Bx.new W (cellsH h) 28).alloc (.cells (cellsEv ⟨4, t, ses, lvl, obj, v, pred, sa, sn, sc⟩) 49)).alloc (.cells #[.nilFunc, .func (.func 127) #[] #[.pointer (some ⟨W.heap.size + 1, 0, none⟩), .pointer (some ⟨W.heap.size, 0, none⟩)], .func (.func 128) #[] #[.pointer (some ⟨W.heap.size + 1, 0, none⟩), .pointer (some ⟨W.heap.size, 0, none⟩)], .func (.func 130) #[] #[.pointer (some ⟨W.heap.size + 1, 0, none⟩), .pointer (some ⟨W.heap.size, 0, none⟩)], .func (.func 131) #[] #[.pointer (some ⟨W.heap.size, 0, none⟩), .pointer (some ⟨W.heap.size + 1, 0, none⟩)], .func (.func 134) #[] #[], .func (.func 135) #[] #[]] 192))
 have hM0 := (Bx.new ((W.alloc (.cells (cellsH h) 28)).alloc (.cells (cellsEv ⟨4, t, ses, lvl, obj, v, pred, sa, sn, sc⟩) 49)) #[.nilFunc, .func (.func 127) #[] #[.pointer (some ⟨W.heap.size + 1, 0, none⟩), .pointer (some ⟨W.heap.size, 0, none⟩)], .func (.func 128) #[] #[.pointer (some ⟨W.heap.size + 1, 0, none⟩), .pointer (some ⟨W.heap.size, 0, none⟩)], .func (.func 130) #[] #[.pointer (some ⟨W.heap.size + 1, 0, none⟩), .pointer (some ⟨W.heap.size, 0, none⟩)], .func (.func 131) #[] #[.pointer (some ⟨W.heap.size, 0, none⟩), .pointer (some ⟨W.heap.size + 1, 0, none⟩)], .func (.func 134) #[] #[], .func (.func 135) #[] #[]] 192)
 have hB0 := (((Below.refl W.heap.size W).alloc (Nat.le_refl _) (.cells (cellsH h) 28)).alloc (by simp) (.cells (cellsEv ⟨4, t, ses, lvl, obj, v, pred, sa, sn, sc⟩) 49)).alloc (by simp; omega) (.cells #[.nilFunc, .func (.func 127) #[] #[.pointer (some ⟨W.heap.size + 1, 0, none⟩), .pointer (some ⟨W.heap.size, 0, none⟩)], .func (.func 128) #[] #[.pointer (some ⟨W.heap.size + 1, 0, none⟩), .pointer (some ⟨W.heap.size, 0, none⟩)], .func (.func 130) #[] #[.pointer (some ⟨W.heap.size + 1, 0, none⟩), .pointer (some ⟨W.heap.size, 0, none⟩)], .func (.func 131) #[] #[.pointer (some ⟨W.heap.size, 0, none⟩), .pointer (some ⟨W.heap.size + 1, 0, none⟩)], .func (.func 134) #[] #[], .func (.func 135) #[] #[]] 192)
 simp only [World.size_alloc] at hE0 hH0 hM0
 have HE0 := hid hE0; have HH0 := hid hH0; have HM0 := hid hM0; have HB0 := hid hB0
 clear hE0 hH0 hM0 hB0
 go_enter Tryz.func101, Tryz.ntmps101
 go_wp2_with fail
 refine (told0 h _ _).mono ?_
 rintro e w1 ⟨rfl, hb1⟩
 rw [HT.out]
 have HE1 := hid (HE0.out.keep hb1); have HH1 := hid (HH0.out.keep hb1); have HM1 := hid (HM0.out.keep hb1)
 have HBb := hid (HB0.out.trans (hb1.mono HB0.out.size))
 have hE1 := HE1.out; have hM1 := HM1.out
 clear hb1
 go_wp2_with fail
 refine (event4 h ⟨4, t, ses, lvl, obj, v, pred, sa, sn, sc⟩ _ _ w1 HE1.out HH1.out scan (HR.out.below HBb.out rfl)).mono ?_
 rintro e w2 ⟨rfl, hb2⟩
 rw [← HFIN.out]
 have HR := hid (HR.out.below (HBb.out.trans (hb2.mono HBb.out.size)) rfl)
 have HE2 := HE1.out.keep hb2
 have HBc := hid (HBb.out.trans (hb2.mono HBb.out.size))
 have HL := hid (Nat.lt_of_lt_of_le HE1.out.2.2 hb2.size)
 have HS : Hid (∀ W', Below w2.heap.size w2 W' → Bx W' (W.heap.size + 1) (cellsEv ⟨4, t, ses, lvl, obj, v, pred, sa, sn, sc⟩)) := fun W' hb => HE2.keep hb
 clear hb2 hE1 hM1 HE2 HE1 HM1 HH1 HE0 HH0 HM0 HB0 HBb
 cases R
 all_goals
   go_wp2_with fail
   have HX := hid ((Bx.new w2 (cellsEv (bare4 ⟨4, t, ses, lvl, obj, v, pred, sa, sn, sc⟩)) 49).drew)
   have HB := hid (((Below.refl w2.heap.size w2).alloc (Nat.le_refl _) (.cells (cellsEv (bare4 ⟨4, t, ses, lvl, obj, v, pred, sa, sn, sc⟩)) 49)).drew)
   refine wp_region_ord [(0, true), (1, true), (2, true), (3, true), (4, true), (5, false), (6, true), (7, false)] (fun W' => Bx W' (W.heap.size + 1) (cellsEv ⟨4, t, ses, lvl, obj, v, pred, sa, sn, sc⟩)) (by kernel_rfl) (by kernel_rfl) (by intro d v c a w h; cases d <;> exact h) (HS.out _ HB.out) ?_
   repeat ((first | refine ord_skip rfl rfl ?_ | (refine ord_q rfl rfl ?_; apply Exists.intro; refine ⟨fun wS hS => ?_, ?_⟩; (go_simp; try with_reducible rfl))); simp only [Act.put, List.setIfInBounds_toArray, List.set_cons_zero, List.set_cons_succ])
   have hX := HX.out
   refine ord_l rfl rfl (fun K hK => ?_)
   go_simp
   refine hK _ _ (HS.out _ (((Below.refl _ _).alloc (Nat.le_refl _) _).drew)) ?_
   clear hK K
   repeat ((first | refine ord_skip rfl rfl ?_ | (refine ord_q rfl rfl ?_; apply Exists.intro; refine ⟨fun wS hS => ?_, ?_⟩; (go_simp; try with_reducible rfl))); simp only [Act.put, List.setIfInBounds_toArray, List.set_cons_zero, List.set_cons_succ])
   refine ord_l rfl rfl (fun K hK => ?_)
   go_simp
   refine hK _ _ (HS.out _ (((Below.refl _ _).alloc (Nat.le_refl _) _).drew)) ?_
   clear hK K
   clear hX HX
   have hS2 := HS.out _ (((Below.refl w2.heap.size w2).alloc (Nat.le_refl _) (.cells (cellsEv ⟨4, t, 0, 0, 0, ⟨0, 0⟩, pred, sa, sn, sc⟩) 49)).drew)
   have HL2 := HL.out
   refine ord_nil ?_
   go_wp2_with fail
 · go_ret
   exact ⟨rfl, HBc.out.trans ((((Below.refl w2.heap.size w2).alloc (Nat.le_refl _) (.cells (cellsEv ⟨4, t, 0, 0, 0, ⟨0, 0⟩, pred, sa, sn, sc⟩) 49)).drew).mono HBc.out.size)⟩
 · refine (same_ev ⟨4, t, 0, 0, 0, ⟨0, 0⟩, pred, sa, sn, sc⟩ ⟨4, t, ses, lvl, obj, v, pred, sa, sn, sc⟩ scan scan _ ((HR.out.below (((Below.refl w2.heap.size w2).alloc (Nat.le_refl _) (.cells (cellsEv ⟨4, t, 0, 0, 0, ⟨0, 0⟩, pred, sa, sn, sc⟩) 49)).drew) rfl)) (HR.out.below (((Below.refl w2.heap.size w2).alloc (Nat.le_refl _) (.cells (cellsEv ⟨4, t, 0, 0, 0, ⟨0, 0⟩, pred, sa, sn, sc⟩) 49)).drew) rfl)).mono ?_
   rintro e w3 ⟨rfl, hb3⟩
   rw [show (sameFlat ⟨4, t, 0, 0, 0, ⟨0, 0⟩, pred, sa, sn, sc⟩ ⟨4, t, ses, lvl, obj, v, pred, sa, sn, sc⟩ && decide (scan = scan)) = R2 from by simp [HF2.out]]
   go_wp2_with fail
   go_ret
   exact ⟨rfl, HBc.out.trans (((((Below.refl w2.heap.size w2).alloc (Nat.le_refl _) (.cells (cellsEv ⟨4, t, 0, 0, 0, ⟨0, 0⟩, pred, sa, sn, sc⟩) 49)).drew).mono HBc.out.size).trans (hb3.mono (by have := HBc.out.size; simp; omega)))⟩

theorem event_5 (h : HC) (t ses lvl obj : Int) (v : Ver) (pred : Int) (sa : Option Addr) (sn sc : Nat) (scan : List Sn) (W : World) (hr : Row W 3 encSn sa sn sc scan) (ht : toldB t h.t.n = true) :
   Calls Tryz.prog 101 #[valH h, valEv ⟨5, t, ses, lvl, obj, v, pred, sa, sn, sc⟩] W (Ret (.bool (evB h.t.n h.s.n h.o.n h.p.n ⟨5, t, ses, lvl, obj, v, pred, sa, sn, sc⟩ scan)) W) := by
 obtain ⟨R, hR0⟩ : ∃ R : Bool, R = (true) := ⟨_, rfl⟩
 have hfin : evB h.t.n h.s.n h.o.n h.p.n ⟨5, t, ses, lvl, obj, v, pred, sa, sn, sc⟩ scan = (R && (sameFlat ⟨5, t, 0, 0, 0, ⟨0, 0⟩, 0, none, 0, 0⟩ ⟨5, t, ses, lvl, obj, v, pred, sa, sn, sc⟩ && decide (([] : List Sn) = scan))) := by
   rw [hR0]; have hl := hr.len; have hq : ((sn : Int) ≤ 40) = (sn ≤ 40) := propext (by omega); simp [evB, hasB, bareB, sameFlat, ht, eq_comm (a := (0 : Int)), eq_comm (a := (⟨0, 0⟩ : Ver)), eq_comm (a := ([] : List Sn)), Bool.and_assoc]
 obtain ⟨R2, hR2⟩ : ∃ R2 : Bool, R2 = (sameFlat ⟨5, t, 0, 0, 0, ⟨0, 0⟩, 0, none, 0, 0⟩ ⟨5, t, ses, lvl, obj, v, pred, sa, sn, sc⟩ && decide (([] : List Sn) = scan)) := ⟨_, rfl⟩
 rw [hfin, ← hR2]
 have HF2 := hid hR2; clear hR2
 have HFIN := hid hR0; have HT := hid ht; have HR := hid hr
 clear hR0 ht hr hfin
 have hE0 := ((Bx.new (W.alloc (.cells (cellsH h) 28)) (cellsEv ⟨5, t, ses, lvl, obj, v, pred, sa, sn, sc⟩) 49).alloc (.cells #[.nilFunc, .func (.func 127) #[] #[.pointer (some ⟨W.heap.size + 1, 0, none⟩), .pointer (some ⟨W.heap.size, 0, none⟩)], .func (.func 128) #[] #[.pointer (some ⟨W.heap.size + 1, 0, none⟩), .pointer (some ⟨W.heap.size, 0, none⟩)], .func (.func 130) #[] #[.pointer (some ⟨W.heap.size + 1, 0, none⟩), .pointer (some ⟨W.heap.size, 0, none⟩)], .func (.func 131) #[] #[.pointer (some ⟨W.heap.size, 0, none⟩), .pointer (some ⟨W.heap.size + 1, 0, none⟩)], .func (.func 134) #[] #[], .func (.func 135) #[] #[]] 192))
 have hH0 := (((Bx.new W (cellsH h) 28).alloc (.cells (cellsEv ⟨5, t, ses, lvl, obj, v, pred, sa, sn, sc⟩) 49)).alloc (.cells #[.nilFunc, .func (.func 127) #[] #[.pointer (some ⟨W.heap.size + 1, 0, none⟩), .pointer (some ⟨W.heap.size, 0, none⟩)], .func (.func 128) #[] #[.pointer (some ⟨W.heap.size + 1, 0, none⟩), .pointer (some ⟨W.heap.size, 0, none⟩)], .func (.func 130) #[] #[.pointer (some ⟨W.heap.size + 1, 0, none⟩), .pointer (some ⟨W.heap.size, 0, none⟩)], .func (.func 131) #[] #[.pointer (some ⟨W.heap.size, 0, none⟩), .pointer (some ⟨W.heap.size + 1, 0, none⟩)], .func (.func 134) #[] #[], .func (.func 135) #[] #[]] 192))
 have hM0 := (Bx.new ((W.alloc (.cells (cellsH h) 28)).alloc (.cells (cellsEv ⟨5, t, ses, lvl, obj, v, pred, sa, sn, sc⟩) 49)) #[.nilFunc, .func (.func 127) #[] #[.pointer (some ⟨W.heap.size + 1, 0, none⟩), .pointer (some ⟨W.heap.size, 0, none⟩)], .func (.func 128) #[] #[.pointer (some ⟨W.heap.size + 1, 0, none⟩), .pointer (some ⟨W.heap.size, 0, none⟩)], .func (.func 130) #[] #[.pointer (some ⟨W.heap.size + 1, 0, none⟩), .pointer (some ⟨W.heap.size, 0, none⟩)], .func (.func 131) #[] #[.pointer (some ⟨W.heap.size, 0, none⟩), .pointer (some ⟨W.heap.size + 1, 0, none⟩)], .func (.func 134) #[] #[], .func (.func 135) #[] #[]] 192)
 have hB0 := (((Below.refl W.heap.size W).alloc (Nat.le_refl _) (.cells (cellsH h) 28)).alloc (by simp) (.cells (cellsEv ⟨5, t, ses, lvl, obj, v, pred, sa, sn, sc⟩) 49)).alloc (by simp; omega) (.cells #[.nilFunc, .func (.func 127) #[] #[.pointer (some ⟨W.heap.size + 1, 0, none⟩), .pointer (some ⟨W.heap.size, 0, none⟩)], .func (.func 128) #[] #[.pointer (some ⟨W.heap.size + 1, 0, none⟩), .pointer (some ⟨W.heap.size, 0, none⟩)], .func (.func 130) #[] #[.pointer (some ⟨W.heap.size + 1, 0, none⟩), .pointer (some ⟨W.heap.size, 0, none⟩)], .func (.func 131) #[] #[.pointer (some ⟨W.heap.size, 0, none⟩), .pointer (some ⟨W.heap.size + 1, 0, none⟩)], .func (.func 134) #[] #[], .func (.func 135) #[] #[]] 192)
 simp only [World.size_alloc] at hE0 hH0 hM0
 have HE0 := hid hE0; have HH0 := hid hH0; have HM0 := hid hM0; have HB0 := hid hB0
 clear hE0 hH0 hM0 hB0
 go_enter Tryz.func101, Tryz.ntmps101
 go_wp2_with fail
 refine (told0 h _ _).mono ?_
 rintro e w1 ⟨rfl, hb1⟩
 rw [HT.out]
 have HE1 := hid (HE0.out.keep hb1); have HH1 := hid (HH0.out.keep hb1); have HM1 := hid (HM0.out.keep hb1)
 have HBb := hid (HB0.out.trans (hb1.mono HB0.out.size))
 have hE1 := HE1.out; have hM1 := HM1.out
 clear hb1
 go_wp2_with fail
 refine (event5 w1).mono ?_
 rintro e w2 ⟨rfl, hb2⟩
 rw [← HFIN.out]
 have HR := hid (HR.out.below (HBb.out.trans (hb2.mono HBb.out.size)) rfl)
 have HE2 := HE1.out.keep hb2
 have HBc := hid (HBb.out.trans (hb2.mono HBb.out.size))
 have HL := hid (Nat.lt_of_lt_of_le HE1.out.2.2 hb2.size)
 have HS : Hid (∀ W', Below w2.heap.size w2 W' → Bx W' (W.heap.size + 1) (cellsEv ⟨5, t, ses, lvl, obj, v, pred, sa, sn, sc⟩)) := fun W' hb => HE2.keep hb
 clear hb2 hE1 hM1 HE2 HE1 HM1 HH1 HE0 HH0 HM0 HB0 HBb
 cases R
 all_goals
   go_wp2_with fail
   have HX := hid ((Bx.new w2 (cellsEv (bare0)) 49).drew)
   have HB := hid (((Below.refl w2.heap.size w2).alloc (Nat.le_refl _) (.cells (cellsEv (bare0)) 49)).drew)
   refine wp_region_ord [(0, true), (1, true), (2, true), (3, true), (4, true), (5, false), (6, true), (7, false)] (fun W' => Bx W' (W.heap.size + 1) (cellsEv ⟨5, t, ses, lvl, obj, v, pred, sa, sn, sc⟩)) (by kernel_rfl) (by kernel_rfl) (by intro d v c a w h; cases d <;> exact h) (HS.out _ HB.out) ?_
   repeat ((first | refine ord_skip rfl rfl ?_ | (refine ord_q rfl rfl ?_; apply Exists.intro; refine ⟨fun wS hS => ?_, ?_⟩; (go_simp; try with_reducible rfl))); simp only [Act.put, List.setIfInBounds_toArray, List.set_cons_zero, List.set_cons_succ])
   have hX := HX.out
   refine ord_l rfl rfl (fun K hK => ?_)
   go_simp
   refine hK _ _ (HS.out _ (((Below.refl _ _).alloc (Nat.le_refl _) _).drew)) ?_
   clear hK K
   repeat ((first | refine ord_skip rfl rfl ?_ | (refine ord_q rfl rfl ?_; apply Exists.intro; refine ⟨fun wS hS => ?_, ?_⟩; (go_simp; try with_reducible rfl))); simp only [Act.put, List.setIfInBounds_toArray, List.set_cons_zero, List.set_cons_succ])
   refine ord_l rfl rfl (fun K hK => ?_)
   go_simp
   refine hK _ _ (HS.out _ (((Below.refl _ _).alloc (Nat.le_refl _) _).drew)) ?_
   clear hK K
   clear hX HX
   have hS2 := HS.out _ (((Below.refl w2.heap.size w2).alloc (Nat.le_refl _) (.cells (cellsEv ⟨5, t, 0, 0, 0, ⟨0, 0⟩, 0, none, 0, 0⟩) 49)).drew)
   have HL2 := HL.out
   refine ord_nil ?_
   go_wp2_with fail
 · go_ret
   exact ⟨rfl, HBc.out.trans ((((Below.refl w2.heap.size w2).alloc (Nat.le_refl _) (.cells (cellsEv ⟨5, t, 0, 0, 0, ⟨0, 0⟩, 0, none, 0, 0⟩) 49)).drew).mono HBc.out.size)⟩
 · refine (same_ev ⟨5, t, 0, 0, 0, ⟨0, 0⟩, 0, none, 0, 0⟩ ⟨5, t, ses, lvl, obj, v, pred, sa, sn, sc⟩ ([] : List Sn) scan _ (Row.nil_) (HR.out.below (((Below.refl w2.heap.size w2).alloc (Nat.le_refl _) (.cells (cellsEv ⟨5, t, 0, 0, 0, ⟨0, 0⟩, 0, none, 0, 0⟩) 49)).drew) rfl)).mono ?_
   rintro e w3 ⟨rfl, hb3⟩
   rw [show (sameFlat ⟨5, t, 0, 0, 0, ⟨0, 0⟩, 0, none, 0, 0⟩ ⟨5, t, ses, lvl, obj, v, pred, sa, sn, sc⟩ && decide (([] : List Sn) = scan)) = R2 from by simp [HF2.out]]
   go_wp2_with fail
   go_ret
   exact ⟨rfl, HBc.out.trans (((((Below.refl w2.heap.size w2).alloc (Nat.le_refl _) (.cells (cellsEv ⟨5, t, 0, 0, 0, ⟨0, 0⟩, 0, none, 0, 0⟩) 49)).drew).mono HBc.out.size).trans (hb3.mono (by have := HBc.out.size; simp; omega)))⟩

theorem event_6 (h : HC) (t ses lvl obj : Int) (v : Ver) (pred : Int) (sa : Option Addr) (sn sc : Nat) (scan : List Sn) (W : World) (hr : Row W 3 encSn sa sn sc scan) (ht : toldB t h.t.n = true) :
   Calls Tryz.prog 101 #[valH h, valEv ⟨6, t, ses, lvl, obj, v, pred, sa, sn, sc⟩] W (Ret (.bool (evB h.t.n h.s.n h.o.n h.p.n ⟨6, t, ses, lvl, obj, v, pred, sa, sn, sc⟩ scan)) W) := by
 obtain ⟨R, hR0⟩ : ∃ R : Bool, R = (true) := ⟨_, rfl⟩
 have hfin : evB h.t.n h.s.n h.o.n h.p.n ⟨6, t, ses, lvl, obj, v, pred, sa, sn, sc⟩ scan = (R && (sameFlat ⟨6, t, 0, 0, 0, ⟨0, 0⟩, 0, none, 0, 0⟩ ⟨6, t, ses, lvl, obj, v, pred, sa, sn, sc⟩ && decide (([] : List Sn) = scan))) := by
   rw [hR0]; have hl := hr.len; have hq : ((sn : Int) ≤ 40) = (sn ≤ 40) := propext (by omega); simp [evB, hasB, bareB, sameFlat, ht, eq_comm (a := (0 : Int)), eq_comm (a := (⟨0, 0⟩ : Ver)), eq_comm (a := ([] : List Sn)), Bool.and_assoc]
 obtain ⟨R2, hR2⟩ : ∃ R2 : Bool, R2 = (sameFlat ⟨6, t, 0, 0, 0, ⟨0, 0⟩, 0, none, 0, 0⟩ ⟨6, t, ses, lvl, obj, v, pred, sa, sn, sc⟩ && decide (([] : List Sn) = scan)) := ⟨_, rfl⟩
 rw [hfin, ← hR2]
 have HF2 := hid hR2; clear hR2
 have HFIN := hid hR0; have HT := hid ht; have HR := hid hr
 clear hR0 ht hr hfin
 have hE0 := ((Bx.new (W.alloc (.cells (cellsH h) 28)) (cellsEv ⟨6, t, ses, lvl, obj, v, pred, sa, sn, sc⟩) 49).alloc (.cells #[.nilFunc, .func (.func 127) #[] #[.pointer (some ⟨W.heap.size + 1, 0, none⟩), .pointer (some ⟨W.heap.size, 0, none⟩)], .func (.func 128) #[] #[.pointer (some ⟨W.heap.size + 1, 0, none⟩), .pointer (some ⟨W.heap.size, 0, none⟩)], .func (.func 130) #[] #[.pointer (some ⟨W.heap.size + 1, 0, none⟩), .pointer (some ⟨W.heap.size, 0, none⟩)], .func (.func 131) #[] #[.pointer (some ⟨W.heap.size, 0, none⟩), .pointer (some ⟨W.heap.size + 1, 0, none⟩)], .func (.func 134) #[] #[], .func (.func 135) #[] #[]] 192))
 have hH0 := (((Bx.new W (cellsH h) 28).alloc (.cells (cellsEv ⟨6, t, ses, lvl, obj, v, pred, sa, sn, sc⟩) 49)).alloc (.cells #[.nilFunc, .func (.func 127) #[] #[.pointer (some ⟨W.heap.size + 1, 0, none⟩), .pointer (some ⟨W.heap.size, 0, none⟩)], .func (.func 128) #[] #[.pointer (some ⟨W.heap.size + 1, 0, none⟩), .pointer (some ⟨W.heap.size, 0, none⟩)], .func (.func 130) #[] #[.pointer (some ⟨W.heap.size + 1, 0, none⟩), .pointer (some ⟨W.heap.size, 0, none⟩)], .func (.func 131) #[] #[.pointer (some ⟨W.heap.size, 0, none⟩), .pointer (some ⟨W.heap.size + 1, 0, none⟩)], .func (.func 134) #[] #[], .func (.func 135) #[] #[]] 192))
 have hM0 := (Bx.new ((W.alloc (.cells (cellsH h) 28)).alloc (.cells (cellsEv ⟨6, t, ses, lvl, obj, v, pred, sa, sn, sc⟩) 49)) #[.nilFunc, .func (.func 127) #[] #[.pointer (some ⟨W.heap.size + 1, 0, none⟩), .pointer (some ⟨W.heap.size, 0, none⟩)], .func (.func 128) #[] #[.pointer (some ⟨W.heap.size + 1, 0, none⟩), .pointer (some ⟨W.heap.size, 0, none⟩)], .func (.func 130) #[] #[.pointer (some ⟨W.heap.size + 1, 0, none⟩), .pointer (some ⟨W.heap.size, 0, none⟩)], .func (.func 131) #[] #[.pointer (some ⟨W.heap.size, 0, none⟩), .pointer (some ⟨W.heap.size + 1, 0, none⟩)], .func (.func 134) #[] #[], .func (.func 135) #[] #[]] 192)
 have hB0 := (((Below.refl W.heap.size W).alloc (Nat.le_refl _) (.cells (cellsH h) 28)).alloc (by simp) (.cells (cellsEv ⟨6, t, ses, lvl, obj, v, pred, sa, sn, sc⟩) 49)).alloc (by simp; omega) (.cells #[.nilFunc, .func (.func 127) #[] #[.pointer (some ⟨W.heap.size + 1, 0, none⟩), .pointer (some ⟨W.heap.size, 0, none⟩)], .func (.func 128) #[] #[.pointer (some ⟨W.heap.size + 1, 0, none⟩), .pointer (some ⟨W.heap.size, 0, none⟩)], .func (.func 130) #[] #[.pointer (some ⟨W.heap.size + 1, 0, none⟩), .pointer (some ⟨W.heap.size, 0, none⟩)], .func (.func 131) #[] #[.pointer (some ⟨W.heap.size, 0, none⟩), .pointer (some ⟨W.heap.size + 1, 0, none⟩)], .func (.func 134) #[] #[], .func (.func 135) #[] #[]] 192)
 simp only [World.size_alloc] at hE0 hH0 hM0
 have HE0 := hid hE0; have HH0 := hid hH0; have HM0 := hid hM0; have HB0 := hid hB0
 clear hE0 hH0 hM0 hB0
 go_enter Tryz.func101, Tryz.ntmps101
 go_wp2_with fail
 refine (told0 h _ _).mono ?_
 rintro e w1 ⟨rfl, hb1⟩
 rw [HT.out]
 have HE1 := hid (HE0.out.keep hb1); have HH1 := hid (HH0.out.keep hb1); have HM1 := hid (HM0.out.keep hb1)
 have HBb := hid (HB0.out.trans (hb1.mono HB0.out.size))
 have hE1 := HE1.out; have hM1 := HM1.out
 clear hb1
 go_wp2_with fail
 refine (event6 w1).mono ?_
 rintro e w2 ⟨rfl, hb2⟩
 rw [← HFIN.out]
 have HR := hid (HR.out.below (HBb.out.trans (hb2.mono HBb.out.size)) rfl)
 have HE2 := HE1.out.keep hb2
 have HBc := hid (HBb.out.trans (hb2.mono HBb.out.size))
 have HL := hid (Nat.lt_of_lt_of_le HE1.out.2.2 hb2.size)
 have HS : Hid (∀ W', Below w2.heap.size w2 W' → Bx W' (W.heap.size + 1) (cellsEv ⟨6, t, ses, lvl, obj, v, pred, sa, sn, sc⟩)) := fun W' hb => HE2.keep hb
 clear hb2 hE1 hM1 HE2 HE1 HM1 HH1 HE0 HH0 HM0 HB0 HBb
 cases R
 all_goals
   go_wp2_with fail
   have HX := hid ((Bx.new w2 (cellsEv (bare0)) 49).drew)
   have HB := hid (((Below.refl w2.heap.size w2).alloc (Nat.le_refl _) (.cells (cellsEv (bare0)) 49)).drew)
   refine wp_region_ord [(0, true), (1, true), (2, true), (3, true), (4, true), (5, false), (6, true), (7, false)] (fun W' => Bx W' (W.heap.size + 1) (cellsEv ⟨6, t, ses, lvl, obj, v, pred, sa, sn, sc⟩)) (by kernel_rfl) (by kernel_rfl) (by intro d v c a w h; cases d <;> exact h) (HS.out _ HB.out) ?_
   repeat ((first | refine ord_skip rfl rfl ?_ | (refine ord_q rfl rfl ?_; apply Exists.intro; refine ⟨fun wS hS => ?_, ?_⟩; (go_simp; try with_reducible rfl))); simp only [Act.put, List.setIfInBounds_toArray, List.set_cons_zero, List.set_cons_succ])
   have hX := HX.out
   refine ord_l rfl rfl (fun K hK => ?_)
   go_simp
   refine hK _ _ (HS.out _ (((Below.refl _ _).alloc (Nat.le_refl _) _).drew)) ?_
   clear hK K
   repeat ((first | refine ord_skip rfl rfl ?_ | (refine ord_q rfl rfl ?_; apply Exists.intro; refine ⟨fun wS hS => ?_, ?_⟩; (go_simp; try with_reducible rfl))); simp only [Act.put, List.setIfInBounds_toArray, List.set_cons_zero, List.set_cons_succ])
   refine ord_l rfl rfl (fun K hK => ?_)
   go_simp
   refine hK _ _ (HS.out _ (((Below.refl _ _).alloc (Nat.le_refl _) _).drew)) ?_
   clear hK K
   clear hX HX
   have hS2 := HS.out _ (((Below.refl w2.heap.size w2).alloc (Nat.le_refl _) (.cells (cellsEv ⟨6, t, 0, 0, 0, ⟨0, 0⟩, 0, none, 0, 0⟩) 49)).drew)
   have HL2 := HL.out
   refine ord_nil ?_
   go_wp2_with fail
 · go_ret
   exact ⟨rfl, HBc.out.trans ((((Below.refl w2.heap.size w2).alloc (Nat.le_refl _) (.cells (cellsEv ⟨6, t, 0, 0, 0, ⟨0, 0⟩, 0, none, 0, 0⟩) 49)).drew).mono HBc.out.size)⟩
 · refine (same_ev ⟨6, t, 0, 0, 0, ⟨0, 0⟩, 0, none, 0, 0⟩ ⟨6, t, ses, lvl, obj, v, pred, sa, sn, sc⟩ ([] : List Sn) scan _ (Row.nil_) (HR.out.below (((Below.refl w2.heap.size w2).alloc (Nat.le_refl _) (.cells (cellsEv ⟨6, t, 0, 0, 0, ⟨0, 0⟩, 0, none, 0, 0⟩) 49)).drew) rfl)).mono ?_
   rintro e w3 ⟨rfl, hb3⟩
   rw [show (sameFlat ⟨6, t, 0, 0, 0, ⟨0, 0⟩, 0, none, 0, 0⟩ ⟨6, t, ses, lvl, obj, v, pred, sa, sn, sc⟩ && decide (([] : List Sn) = scan)) = R2 from by simp [HF2.out]]
   go_wp2_with fail
   go_ret
   exact ⟨rfl, HBc.out.trans (((((Below.refl w2.heap.size w2).alloc (Nat.le_refl _) (.cells (cellsEv ⟨6, t, 0, 0, 0, ⟨0, 0⟩, 0, none, 0, 0⟩) 49)).drew).mono HBc.out.size).trans (hb3.mono (by have := HBc.out.size; simp; omega)))⟩

theorem event_lo (h : HC) (e : EvC) (_scan : List Sn) (W : World) (h1 : e.kind < 1) :
   Calls Tryz.prog 101 #[valH h, valEv e] W (Ret (.bool false) W) := by
 obtain ⟨kind, t, ses, lvl, obj, v, pred, sa, sn, sc⟩ := e
 skip
 go_enter Tryz.func101, Tryz.ntmps101
 go_wp2_with fail
 go_ret
 exact ⟨rfl, ((((Below.refl W.heap.size W).alloc (Nat.le_refl _) _).alloc (by simp) _).alloc (by simp; omega) _)⟩
theorem event_hi (h : HC) (e : EvC) (_scan : List Sn) (W : World) (h1 : ¬ e.kind < 1) (h7 : 7 ≤ e.kind) :
   Calls Tryz.prog 101 #[valH h, valEv e] W (Ret (.bool false) W) := by
 obtain ⟨kind, t, ses, lvl, obj, v, pred, sa, sn, sc⟩ := e
 skip
 go_enter Tryz.func101, Tryz.ntmps101
 go_wp2_with fail
 go_ret
 exact ⟨rfl, ((((Below.refl W.heap.size W).alloc (Nat.le_refl _) _).alloc (by simp) _).alloc (by simp; omega) _)⟩
theorem event_un (h : HC) (e : EvC) (_scan : List Sn) (W : World) (h1 : ¬ e.kind < 1) (h7 : ¬ 7 ≤ e.kind) (ht : toldB e.t h.t.n = false) :
   Calls Tryz.prog 101 #[valH h, valEv e] W (Ret (.bool false) W) := by
 obtain ⟨kind, t, ses, lvl, obj, v, pred, sa, sn, sc⟩ := e
 have HT := hid ht; clear ht
 go_enter Tryz.func101, Tryz.ntmps101
 go_wp2_with (go_at_call 98; refine (told0 h _ _).mono ?_; rintro e w1 ⟨rfl, hb1⟩; rw [HT.out])
 go_ret
 exact ⟨rfl, ((((Below.refl W.heap.size W).alloc (Nat.le_refl _) _).alloc (by simp) _).alloc (by simp; omega) _).trans (hb1.mono (by simp; omega))⟩
theorem event_any (h : HC) (e : EvC) (scan : List Sn) (W : World) (hr : Row W 3 encSn e.sa e.sn e.sc scan) :
   Calls Tryz.prog 101 #[valH h, valEv e] W (Ret (.bool (evB h.t.n h.s.n h.o.n h.p.n e scan)) W) := by
 by_cases h1 : e.kind < 1
 · have : evB h.t.n h.s.n h.o.n h.p.n e scan = false := by simp [evB, Int.not_le.2 h1]
   rw [this]; exact event_lo h e scan W h1
 by_cases h7 : 7 ≤ e.kind
 · have : evB h.t.n h.s.n h.o.n h.p.n e scan = false := by simp [evB, Int.not_lt.2 h7]
   rw [this]; exact event_hi h e scan W h1 h7
 cases ht : toldB e.t h.t.n
 · have : evB h.t.n h.s.n h.o.n h.p.n e scan = false := by simp [evB, ht]
   rw [this]; exact event_un h e scan W h1 h7 ht
 obtain ⟨kind, t, ses, lvl, obj, v, pred, sa, sn, sc⟩ := e
 have hk : kind = 1 ∨ kind = 2 ∨ kind = 3 ∨ kind = 4 ∨ kind = 5 ∨ kind = 6 := by simp at h1 h7; omega
 rcases hk with rfl | rfl | rfl | rfl | rfl | rfl
 · exact event_1 h t ses lvl obj v pred sa sn sc scan W hr ht
 · exact event_2 h t ses lvl obj v pred sa sn sc scan W hr ht
 · exact event_3 h t ses lvl obj v pred sa sn sc scan W hr ht
 · exact event_4 h t ses lvl obj v pred sa sn sc scan W hr ht
 · exact event_5 h t ses lvl obj v pred sa sn sc scan W hr ht
 · exact event_6 h t ses lvl obj v pred sa sn sc scan W hr ht
end Yd
