import Derived.Test.YthdpangjphphjaaGreatDoorChk2
import Derived.Test.YthdpangjphphjaaGreatDoorChk4
import Derived.Test.YthdpangjphphjaaGreatDoorTxt5
import Derived.Test.YthdpangjphphjaaGreatDoorTxt7
import Derived.Test.YthdpangjphphjaaGreatDoorTxt8
import Derived.Test.YthdpangjphphjaaGreatDoorTxt9
import Derived.Test.YthdpangjphphjaaGreatDoorProg
set_option maxRecDepth 200000
set_option maxHeartbeats 8000000
namespace Yd
open Go Go.RowKit Go.Proofs

def lineOk (s : LnS) : Prop := (∀ x ∈ s.names, wordB ⟨x.toArray⟩ = true) ∧ (∀ t ∈ s.vers, toOk t) ∧
 ((s.kind = 1 ∧ s.names.length = 2 ∧ s.vers = [] ∧ (∃ lv : Nat, s.lvl = lv ∧ 1 ≤ lv ∧ lv ≤ 4) ∧ s.first = false ∧ s.bits = 0) ∨
  (s.kind = 2 ∧ s.names.length = 2 ∧ s.vers = [] ∧ s.lvl = 0 ∧ s.first = false ∧ s.bits = 0) ∨
  (s.kind = 3 ∧ s.names.length = 2 ∧ s.vers.length = 1 ∧ s.lvl = 0 ∧ s.first = false ∧ s.bits = 0) ∨
  (s.kind = 4 ∧ (∃ c : Nat, s.names.length = c + 2 ∧ s.vers.length = c ∧ c ≤ 40) ∧ True ∧ s.lvl = 0 ∧ s.first = false ∧ s.bits = 0) ∨
  (s.kind = 5 ∧ s.names.length = 1 ∧ s.vers = [] ∧ s.lvl = 0 ∧ s.first = false ∧ s.bits = 0) ∨
  (s.kind = 6 ∧ s.names.length = 1 ∧ s.vers = [] ∧ s.lvl = 0 ∧ s.first = false ∧ s.bits = 0) ∨
  (s.kind = 7 ∧ (∃ c : Nat, s.names.length = c + 1 ∧ c ≤ 300) ∧ s.vers = [] ∧ s.lvl = 0 ∧ s.first = false ∧ s.bits = 0) ∨
  (s.kind = 8 ∧ (∃ c : Nat, s.names.length = c + 2 ∧ c ≤ 300) ∧ s.vers = [] ∧ s.lvl = 0 ∧ True ∧ s.bits = 0) ∨
  (s.kind = 9 ∧ s.names.length = 1 ∧ s.vers = [] ∧ s.lvl = 0 ∧ s.first = false ∧ (∃ b : Nat, s.bits = b ∧ b ≤ 15)))
theorem lineOk.len {s : LnS} (h : lineOk s) : s.names.length ≤ 1000 ∧ s.vers.length ≤ 1000 := by
 rcases h.2.2 with ⟨_, h1, h2, _⟩ | ⟨_, h1, h2, _⟩ | ⟨_, h1, h2, _⟩ | ⟨_, h1, h2, _⟩ | ⟨_, h1, h2, _⟩ | ⟨_, h1, h2, _⟩ | ⟨_, h1, h2, _⟩ | ⟨_, h1, h2, _⟩ | ⟨_, h1, h2, _⟩
 · rw [h2]; exact ⟨by omega, by decide⟩
 · rw [h2]; exact ⟨by omega, by decide⟩
 · omega
 · obtain ⟨c, h1, h2, h3⟩ := h1; omega
 · rw [h2]; exact ⟨by omega, by decide⟩
 · rw [h2]; exact ⟨by omega, by decide⟩
 · obtain ⟨c, h1, h3⟩ := h1; rw [h2]; exact ⟨by omega, by decide⟩
 · obtain ⟨c, h1, h3⟩ := h1; rw [h2]; exact ⟨by omega, by decide⟩
 · rw [h2]; exact ⟨by omega, by decide⟩
theorem LnAt.lineW {w : World} {B : Nat} {l : LnC} {s : LnS} (h : LnAt w B l s) (hs : lineOk s) (hg : GlobL w) : LineW w l.na l.nn l.nc l.va l.vn l.vc s.names s.vers :=
 ⟨h.2.1.row (by have := hs.len; omega), h.2.2.row (by have := hs.len; omega), hs.1, hs.2.1, hg, hg.1.1⟩
theorem text_all {w : World} {B : Nat} {l : LnC} {s : LnS} (h : LnAt w B l s) (hs : lineOk s) (hg : GlobL w) : Calls Tryz.prog 15 #[valLn l] w (Ret2 (.string ⟨(textS s).toArray⟩) (.int .i64 0) w) := by
 have hw := h.lineW hs hg
 obtain ⟨⟨e1, e2, e3, e4, e5, e6⟩, _, _⟩ := h
 obtain ⟨_, _, hc⟩ := hs
 obtain ⟨lk, na, nn, nc, ll, va, vn, vc, lf, lb⟩ := l
 simp only at e1 e2 e3 e4 e5 e6 hw
 rcases hc with hc | hc | hc | hc | hc | hc | hc | hc | hc
 · obtain ⟨hk, hn, hv, ⟨lv, hl, h1, h4⟩, hf, hb⟩ := hc
   rw [hv] at e6
   simp only [List.length_nil] at e6
   rw [hn] at e5
   rw [hk] at e1; rw [hl] at e2; rw [hf] at e3; rw [hb] at e4
   subst e1 e2 e3 e4 e5 e6
   have hS : s = ⟨1, s.names, lv, s.vers, false, 0⟩ := by cases s; simp only at *; simp_all
   obtain ⟨_, nb, no, _, rfl, _⟩ := hw.rn.at_ (i := 0) (by omega)
   have hcap := hw.rn.cap
   by_cases hnc : nc = 2
   · subst hnc
     rw [hS]; exact text_k1a nb no va vc lv h1 h4 s.names s.vers w hw
   · rw [hS]; exact text_k1b nb no nc (by omega) va vc lv h1 h4 s.names s.vers w hw
 · obtain ⟨hk, hn, hv, hl, hf, hb⟩ := hc
   rw [hv] at e6
   simp only [List.length_nil] at e6
   rw [hn] at e5
   rw [hk] at e1; rw [hl] at e2; rw [hf] at e3; rw [hb] at e4
   subst e1 e2 e3 e4 e5 e6
   have hS : s = ⟨2, s.names, 0, s.vers, false, 0⟩ := by cases s; simp only at *; simp_all
   obtain ⟨_, nb, no, _, rfl, _⟩ := hw.rn.at_ (i := 0) (by omega)
   have hcap := hw.rn.cap
   by_cases hnc : nc = 2
   · subst hnc
     rw [hS]; exact text_k2a nb no va vc s.names s.vers w hw
   · rw [hS]; exact text_k2b nb no nc (by omega) va vc s.names s.vers w hw
 · obtain ⟨hk, hn, hv, hl, hf, hb⟩ := hc
   rw [hn] at e5
   rw [hv] at e6
   rw [hk] at e1; rw [hl] at e2; rw [hf] at e3; rw [hb] at e4
   subst e1 e2 e3 e4 e5 e6
   have hS : s = ⟨3, s.names, 0, s.vers, false, 0⟩ := by cases s; simp only at *; simp_all
   obtain ⟨_, nb, no, _, rfl, _⟩ := hw.rn.at_ (i := 0) (by omega)
   have hcap := hw.rn.cap
   by_cases hnc : nc = 2
   · subst hnc
     rw [hS]; exact text_k3a nb no va vc s.names s.vers w hw
   · rw [hS]; exact text_k3b nb no nc (by omega) va vc s.names s.vers w hw
 · obtain ⟨hk, ⟨c, hn, hv, h1⟩, _, hl, hf, hb⟩ := hc
   rw [hn] at e5
   rw [hv] at e6
   rw [hk] at e1; rw [hl] at e2; rw [hf] at e3; rw [hb] at e4
   subst e1 e2 e3 e4 e5 e6
   have hS : s = ⟨4, s.names, 0, s.vers, false, 0⟩ := by cases s; simp only at *; simp_all
   obtain ⟨_, nb, no, _, rfl, _⟩ := hw.rn.at_ (i := 0) (by omega)
   have hcap := hw.rn.cap
   by_cases hnc : nc = 2
   · obtain rfl : vn = 0 := by omega
     subst hnc
     rw [hS]; exact text_k4a nb no va vc s.names s.vers w hw
   · rw [hS]; exact text_k4b nb no nc (by omega) va vc vn h1 s.names s.vers w hw
 · obtain ⟨hk, hn, hv, hl, hf, hb⟩ := hc
   rw [hv] at e6
   simp only [List.length_nil] at e6
   rw [hn] at e5
   rw [hk] at e1; rw [hl] at e2; rw [hf] at e3; rw [hb] at e4
   subst e1 e2 e3 e4 e5 e6
   have hS : s = ⟨5, s.names, 0, s.vers, false, 0⟩ := by cases s; simp only at *; simp_all
   obtain ⟨_, nb, no, _, rfl, _⟩ := hw.rn.at_ (i := 0) (by omega)
   have hcap := hw.rn.cap
   by_cases hnc : nc = 1
   · subst hnc
     rw [hS]; exact text_k5a nb no va vc s.names s.vers w hw
   · rw [hS]; exact text_k5b nb no nc (by omega) va vc s.names s.vers w hw
 · obtain ⟨hk, hn, hv, hl, hf, hb⟩ := hc
   rw [hv] at e6
   simp only [List.length_nil] at e6
   rw [hn] at e5
   rw [hk] at e1; rw [hl] at e2; rw [hf] at e3; rw [hb] at e4
   subst e1 e2 e3 e4 e5 e6
   have hS : s = ⟨6, s.names, 0, s.vers, false, 0⟩ := by cases s; simp only at *; simp_all
   obtain ⟨_, nb, no, _, rfl, _⟩ := hw.rn.at_ (i := 0) (by omega)
   have hcap := hw.rn.cap
   by_cases hnc : nc = 1
   · subst hnc
     rw [hS]; exact text_k6a nb no va vc s.names s.vers w hw
   · rw [hS]; exact text_k6b nb no nc (by omega) va vc s.names s.vers w hw
 · obtain ⟨hk, ⟨c, hn, h1⟩, hv, hl, hf, hb⟩ := hc
   rw [hv] at e6
   simp only [List.length_nil] at e6
   rw [hn] at e5
   rw [hk] at e1; rw [hl] at e2; rw [hf] at e3; rw [hb] at e4
   subst e1 e2 e3 e4 e5 e6
   have hS : s = ⟨7, s.names, 0, s.vers, false, 0⟩ := by cases s; simp only at *; simp_all
   obtain ⟨_, nb, no, _, rfl, _⟩ := hw.rn.at_ (i := 0) (by omega)
   have hcap := hw.rn.cap
   by_cases hnc : nc = 1
   · obtain rfl : c = 0 := by omega
     subst hnc
     rw [hS]; exact text_k7a nb no va vc s.names s.vers w hw
   · rw [hS]; exact text_k7b nb no nc (by omega) va vc c h1 s.names s.vers w hw
 · obtain ⟨hk, ⟨c, hn, h1⟩, hv, hl, _, hb⟩ := hc
   rw [hv] at e6
   simp only [List.length_nil] at e6
   rw [hn] at e5
   rw [hk] at e1; rw [hl] at e2; rw [hb] at e4
   subst e1 e2 e4 e5 e6
   have hS : s = ⟨8, s.names, 0, s.vers, s.first, 0⟩ := by cases s; simp only at *; simp_all
   obtain ⟨_, nb, no, _, rfl, _⟩ := hw.rn.at_ (i := 0) (by omega)
   have hcap := hw.rn.cap
   subst e3
   cases hf : s.first
   · rw [hf] at hS
     by_cases hnc : nc = 2
     · obtain rfl : c = 0 := by omega
       subst hnc
       rw [hS]; exact text_k8a nb no va vc s.names s.vers w hw
     · rw [hS]; exact text_k8b nb no nc (by omega) va vc c h1 s.names s.vers w hw
   · rw [hf] at hS
     by_cases hnc : nc = 2
     · obtain rfl : c = 0 := by omega
       subst hnc
       rw [hS]; exact text_k10a nb no va vc s.names s.vers w hw
     · rw [hS]; exact text_k10b nb no nc (by omega) va vc c h1 s.names s.vers w hw
 · obtain ⟨hk, hn, hv, hl, hf, ⟨b, hb, h1⟩⟩ := hc
   rw [hv] at e6
   simp only [List.length_nil] at e6
   rw [hn] at e5
   rw [hk] at e1; rw [hl] at e2; rw [hf] at e3; rw [hb] at e4
   subst e1 e2 e3 e4 e5 e6
   have hS : s = ⟨9, s.names, 0, s.vers, false, b⟩ := by cases s; simp only at *; simp_all
   obtain ⟨_, nb, no, _, rfl, _⟩ := hw.rn.at_ (i := 0) (by omega)
   have hcap := hw.rn.cap
   by_cases h0 : b = 0
   · subst h0
     by_cases hnc : nc = 1
     · subst hnc
       rw [hS]; exact text_k11a nb no va vc s.names s.vers w hw
     · rw [hS]; exact text_k11b nb no nc (by omega) va vc s.names s.vers w hw
   · skip
     by_cases hnc : nc = 1
     · subst hnc
       rw [hS]; exact text_k9a nb no va vc b (by omega) h1 s.names s.vers w hw
     · rw [hS]; exact text_k9b nb no nc (by omega) va vc b (by omega) h1 s.names s.vers w hw
end Yd


namespace Yd
open Go Go.RowKit Go.Proofs

def toB (t : To) : Bool := if t.k = 0 then decide (t = ⟨[], 0⟩) else wordB ⟨t.name.toArray⟩ && (decide (0 < t.k) && decide (t.k ≤ 999))
theorem toB_ok (t : To) : toB t = true ↔ toOk t := by
 unfold toB toOk
 by_cases h : t.k = 0
 · rw [if_pos h]
   simp only [decide_eq_true_eq]
   exact ⟨.inl, fun k => k.elim id fun k => by omega⟩
 · rw [if_neg h]
   simp only [Bool.and_eq_true, decide_eq_true_eq]
   exact ⟨.inr, fun k => k.elim (fun k => absurd (by rw [k]) h) id⟩
def manyR (r more : Int) : Int := if r = 118 then 1 else if r = 115 then more else 0
def bodyB (k : Nat) (s : LnS) : Bool :=
 (decide (formN k ≤ (s.names.length : Int)) && decide ((s.names.length : Int) - formN k ≤ mostR (formR k)) && decide ((s.vers.length : Int) = manyR (formR k) ((s.names.length : Int) - formN k)) && s.vers.all toB)
 && s.names.all (fun x => wordB ⟨x.toArray⟩)
 && (((formR k == 108) == (s.lvl != 0)) && (!s.first || formR k == 109) && (s.bits == 0 || (formR k == 103 && (decide (0 < s.bits) && decide (s.bits ≤ 15)))))
 && (s.lvl == 0 || levelB s.lvl)
def lineB (s : LnS) : Bool := decide (0 ≤ s.kind) && decide (s.kind < 10) && bodyB s.kind.toNat s
theorem may_any (t : To) (w : World) (hT : Lib.Utf8Tabs 2 3 w) : Calls Tryz.prog 51 #[valTo t] w (Ret (.bool (toB t)) w) := by
 obtain ⟨n, k⟩ := t
 have hq := eqInTo ⟨n, k⟩ ⟨[], 0⟩
 by_cases h0 : k = 0
 · subst h0
   have hb : toB ⟨n, 0⟩ = decide ((⟨n, 0⟩ : To) = ⟨[], 0⟩) := by unfold toB; rw [if_pos rfl]
   rw [hb]
   clear hb hT
   go_enter Tryz.func51, Tryz.ntmps51
   go_wp2_with fail
   go_ret
   exact ⟨by simp, belowA (Below.refl _ _) _⟩
 · have hb0 := belowA (Below.refl w.heap.size w) (.cells #[.string ⟨n.toArray⟩, .int .i64 k] 67)
   have HW := hid (names_Check n _ (Utf8Tabs_below hT hb0))
   have HB := hid hb0
   have HX := hid (Bx.new w #[.string ⟨n.toArray⟩, .int .i64 k] 67)
   have hk : (k == 0) = false := beq_eq_false_iff_ne.2 h0
   have hB : toB ⟨n, k⟩ = (wordB ⟨n.toArray⟩ && (decide (0 < k) && decide (k ≤ 999))) := by unfold toB; rw [if_neg h0]
   rw [hB]
   clear hT hb0 h0 hB hq
   cases hw : wordB ⟨n.toArray⟩
   · rw [hw] at HW
     clear hw
     go_enter Tryz.func51, Tryz.ntmps51
     go_wp2_with fail
     refine HW.out.mono ?_
     rintro e w1 ⟨rfl, hb1⟩
     have HB1 := hid (HB.out.trans (hb1.mono HB.out.size)); clear hb1
     simp only [Bool.false_eq_true, if_false]
     go_wp2_with fail
     go_ret
     exact ⟨rfl, HB1.out⟩
   · rw [hw] at HW
     clear hw
     cases h1 : decide (0 < k)
     · go_enter Tryz.func51, Tryz.ntmps51
       go_wp2_with fail
       refine HW.out.mono ?_
       rintro e w1 ⟨rfl, hb1⟩
       have hx := (HX.out.keep hb1).1
       have HB1 := hid (HB.out.trans (hb1.mono HB.out.size)); clear hb1
       simp only [if_true]
       go_wp2_with fail
       go_ret
       exact ⟨rfl, HB1.out⟩
     · cases h2 : decide (k ≤ 999)
       all_goals
         go_enter Tryz.func51, Tryz.ntmps51
         go_wp2_with fail
         refine HW.out.mono ?_
         rintro e w1 ⟨rfl, hb1⟩
         have hx := (HX.out.keep hb1).1
         have HB1 := hid (HB.out.trans (hb1.mono HB.out.size)); clear hb1
         simp only [if_true]
         go_wp2_with fail
         go_ret
         exact ⟨rfl, HB1.out⟩
theorem check1_any (t : To) (w : World) (hT : Lib.Utf8Tabs 2 3 w) : Calls Tryz.prog 50 #[valTo t] w (Ret (.bool (!toB t)) w) := by
 have hb0 := belowA (Below.refl w.heap.size w) (.cells (cellsTo t) 67)
 have HW := hid (may_any t _ (Utf8Tabs_below hT hb0))
 have HB := hid hb0
 clear hT hb0
 go_enter Tryz.func50, Tryz.ntmps50
 go_wp2_with fail
 refine HW.out.mono ?_
 rintro e w1 ⟨rfl, hb1⟩
 have HB1 := hid (HB.out.trans (hb1.mono HB.out.size)); clear hb1
 go_wp2_with fail
 go_ret
 exact ⟨rfl, HB1.out⟩
theorem level_any (l : Int) (w : World) (hg : GlobL w) : Calls Tryz.prog 44 #[.int .i64 l] w (fun e w' => (∃ t : Bs, e = .returned (.tuple #[.string ⟨t.toArray⟩, .int .i64 (if levelB l = true then 0 else 190)])) ∧ Below w.heap.size w w') := by
 cases hb : levelB l
 · have HL := hid (levelE_no hb)
   clear hb hg
   go_enter Tryz.func44, Tryz.ntmps44
   go_wp2_with fail
   refine (level_Check _ _).mono ?_
   rintro e w1 ⟨rfl, hb1⟩
   rw [HL.out]
   have HB := hid hb1; clear hb1
   go_wp2_with fail
   go_ret2
   exact ⟨⟨[], rfl⟩, HB.out⟩
 · have h := hb
   simp only [levelB, Bool.and_eq_true, decide_eq_true_eq] at h
   obtain ⟨n, rfl⟩ : ∃ n : Nat, l = (n : Int) := ⟨l.toNat, by omega⟩
   refine (level_yes n (by omega) (by omega) w hg).mono ?_
   rintro e w1 ⟨rfl, hb1⟩
   exact ⟨⟨_, rfl⟩, hb1⟩
theorem LnAt.namesAny {w : World} {B : Nat} {l : LnC} {s : LnS} (h : LnAt w B l s) (hn : s.names.length ≤ 1000000) (hT : Lib.Utf8Tabs 2 3 w) :
   Calls Tryz.prog 52 #[.slice l.na l.nn l.nc, .func (.func 53) #[] #[]] w (Ret (.bool (!s.names.all (fun x => wordB ⟨x.toArray⟩))) w) := by
 have := contStr l.na l.nn l.nc 53 #[] s.names (fun s => !wordB ⟨s.toArray⟩) w (h.2.1.row (by omega)) call_c2 (fun x _ W hb => by simpa using check2_any x W (Utf8Tabs_below hT hb))
 rwa [show s.names.any (fun s => !wordB ⟨s.toArray⟩) = !s.names.all (fun x => wordB ⟨x.toArray⟩) by simp [List.any_eq_not_all_not]] at this
theorem LnAt.versAny {w : World} {B : Nat} {l : LnC} {s : LnS} (h : LnAt w B l s) (hn : s.vers.length ≤ 1000000) (hT : Lib.Utf8Tabs 2 3 w) :
   Calls Tryz.prog 49 #[.slice l.va l.vn l.vc, .func (.func 50) #[] #[]] w (Ret (.bool (!s.vers.all toB)) w) := by
 have := contTo l.va l.vn l.vc 50 #[] s.vers (fun t => !toB t) w (h.2.2.row (by omega)) call_c1 (fun x hx W hb => by simpa using check1_any x W (Utf8Tabs_below hT hb))
 rwa [show s.vers.any (fun t => !toB t) = !s.vers.all toB by simp [List.any_eq_not_all_not]] at this
end Yd


namespace Yd
open Go Go.RowKit Go.Proofs
theorem check_r0 {w : World} {B : Nat} {l : LnC} {s : LnS} (k : Nat) (hk : k < 10) (hr : formR k = 0) (h : LnAt w B l s) (hkd : s.kind = (k : Int)) (hn : s.names.length ≤ 1000) (hv : s.vers.length ≤ 1000) (hg : GlobL w) :
   Calls Tryz.prog 17 #[valLn l] w (Ret (.int .i64 (if bodyB k s = true then 0 else 220)) w) := by
 have HNM := hid (fun W (hb : Below w.heap.size w W) => (h.below hb).namesAny (by omega) (Utf8Tabs_below hg.1.1 hb))
 have HVS := hid (fun W (hb : Below w.heap.size w W) => (h.below hb).versAny (by omega) (Utf8Tabs_below hg.1.1 hb))
 obtain ⟨⟨e1, e2, e3, e4, e5, e6⟩, _, _⟩ := h
 obtain ⟨lk, na, nn, nc, lvl, va, vn, vc, lf, bits⟩ := l
 obtain ⟨sk, names, slv, vers, first, sbt⟩ := s
 simp only at e1 e2 e3 e4 e5 e6 hkd hn hv HNM HVS
 subst e1 e2 e3 e4 hkd
 obtain ⟨N, hN⟩ : ∃ N : Nat, formN k = (N : Int) := ⟨(formN k).toNat, by unfold formN; split <;> rfl⟩
 have hN2 : N ≤ 2 := by have : formN k ≤ 2 := by unfold formN; split <;> decide
                        omega
 obtain ⟨mo, hmo⟩ : ∃ mo : Int, mo = (nn : Int) - (N : Int) := ⟨_, rfl⟩
 have hwm : wrap64 ((nn : Int) - (N : Int)) = mo := by rw [hmo]; exact IntWalk.wrap64_in _ (by omega)
 have HBODY : Hid (bodyB k ⟨(k : Int), names, lvl, vers, lf, bits⟩ = ((decide (0 ≤ mo) && decide (mo ≤ 0) && ((vn : Int) == 0) && vers.all toB) && names.all (fun x => wordB ⟨x.toArray⟩) && (((0 == (108 : Int)) == (lvl != 0)) && (!lf || 0 == (109 : Int)) && (bits == 0 || (0 == (103 : Int) && (decide (0 < bits) && decide (bits ≤ 15))))) && (lvl == 0 || levelB lvl))) := hid (by
   unfold bodyB
   simp only []
   rw [hr, hN, ← e5, ← e6, ← hmo]
   rw [show decide ((N : Int) ≤ (nn : Int)) = decide (0 ≤ mo) by rw [hmo]; exact decide_eq_decide.2 (by omega), show mostR 0 = 0 from rfl, show decide ((vn : Int) = manyR 0 mo) = ((vn : Int) == 0) from rfl])
 obtain ⟨out, hO⟩ : ∃ out : Int, out = (if bodyB k ⟨(k : Int), names, lvl, vers, lf, bits⟩ = true then (0 : Int) else 220) := ⟨_, rfl⟩
 rw [← hO]
 have HOUT := hid hO
 clear hO
 have hf := hg.2.1 k hk
 have hf1 : w.cell? ⟨0, k * 3, none⟩ = some (.string ⟨(formV k).toArray⟩) := by rw [Nat.mul_comm]; exact hf.1
 have hf2 : w.cell? ⟨0, k * 3 + 1, none⟩ = some (.int .i64 (N : Int)) := by rw [Nat.mul_comm, ← hN]; exact hf.2.1
 have hf3 : w.cell? ⟨0, k * 3 + 2, none⟩ = some (.int .i32 0) := by rw [Nat.mul_comm, ← hr]; exact hf.2.2
 have hb0 := cell_lt hf1
 simp only at hb0
 have HB0 := hid (belowA (belowA (Below.refl w.heap.size w) (.cells #[.int .i64 (k : Int), .slice na nn nc, .int .i64 lvl, .slice va vn vc, .bool lf, .int .i64 bits] 28)) (.cells #[.string ⟨(formV k).toArray⟩, .int .i64 (N : Int), .int .i32 0] 76))
 have HX0 := hid ((Bx.new w #[.int .i64 (k : Int), .slice na nn nc, .int .i64 lvl, .slice va vn vc, .bool lf, .int .i64 bits] 28).alloc (.cells #[.string ⟨(formV k).toArray⟩, .int .i64 (N : Int), .int .i32 0] 76))
 have HY0 : Hid (Bx ((w.alloc (.cells #[.int .i64 (k : Int), .slice na nn nc, .int .i64 lvl, .slice va vn vc, .bool lf, .int .i64 bits] 28)).alloc (.cells #[.string ⟨(formV k).toArray⟩, .int .i64 (N : Int), .int .i32 0] 76)) (w.heap.size + 1) #[.string ⟨(formV k).toArray⟩, .int .i64 (N : Int), .int .i32 0]) := hid (Bx.new1 (by simp))
 have HG := hid hg; have h10 : (k : Int) < 10 := by omega
 clear hg hf hmo hr hN e5 e6 hN2 hn hv
 cases h1 : decide (0 ≤ mo)
 · skip
   go_enter Tryz.func17, Tryz.ntmps17
   go_wp2_with fail
   refine (level_any lvl _ (HG.out.below HB0.out)).mono ?_
   rintro e wL ⟨⟨tL, rfl⟩, hbL⟩
   have hy1 := HX0.out.keep hbL; have hz1 := HY0.out.keep hbL
   have HX1 := hid hy1; have HY1 := hid hz1; have HB1 := hid (HB0.out.trans (hbL.mono HB0.out.size))
   have hcx1 := hy1.1; have hcy1 := hz1.1
   clear hbL hy1 hz1
   generalize (if levelB lvl = true then (0 : Int) else 190) = ev
   go_wp2_with fail
   go_ret
   have hout : out = 220 := by rw [HOUT.out, HBODY.out]; simp [h1]
   rw [hout]
   exact ⟨rfl, HB1.out⟩
 · skip
   go_enter Tryz.func17, Tryz.ntmps17
   go_wp2_with fail
   refine (most_any _ _).mono ?_
   rintro e w1 ⟨rfl, hb1⟩
   have hy2 := HX0.out.keep hb1; have hz2 := HY0.out.keep hb1
   have HX2 := hid hy2; have HY2 := hid hz2; have HB2 := hid (HB0.out.trans (hb1.mono HB0.out.size))
   have hcx2 := hy2.1; have hcy2 := hz2.1
   clear hb1 hy2 hz2
   simp only [mostR, Int.reduceEq, if_false]
   cases h2 : decide (mo ≤ 0)
   · skip
     go_wp2_with fail
     refine (level_any lvl _ (HG.out.below HB2.out)).mono ?_
     rintro e wL ⟨⟨tL, rfl⟩, hbL⟩
     have hy3 := HX2.out.keep hbL; have hz3 := HY2.out.keep hbL
     have HX3 := hid hy3; have HY3 := hid hz3; have HB3 := hid (HB2.out.trans (hbL.mono HB2.out.size))
     clear hcx2 hcy2
     have hcx3 := hy3.1; have hcy3 := hz3.1
     clear hbL hy3 hz3
     generalize (if levelB lvl = true then (0 : Int) else 190) = ev
     go_wp2_with fail
     go_ret
     have hout : out = 220 := by rw [HOUT.out, HBODY.out]; simp [h1, h2]
     rw [hout]
     exact ⟨rfl, HB3.out⟩
   · skip
     cases h3 : ((vn : Int) == 0)
     · skip
       go_wp2_with fail
       refine (level_any lvl _ (HG.out.below HB2.out)).mono ?_
       rintro e wL ⟨⟨tL, rfl⟩, hbL⟩
       have hy4 := HX2.out.keep hbL; have hz4 := HY2.out.keep hbL
       have HX4 := hid hy4; have HY4 := hid hz4; have HB4 := hid (HB2.out.trans (hbL.mono HB2.out.size))
       clear hcx2 hcy2
       have hcx4 := hy4.1; have hcy4 := hz4.1
       clear hbL hy4 hz4
       generalize (if levelB lvl = true then (0 : Int) else 190) = ev
       go_wp2_with fail
       go_ret
       have hout : out = 220 := by rw [HOUT.out, HBODY.out]; simp [h1, h2, h3]
       rw [hout]
       exact ⟨rfl, HB4.out⟩
     · skip
       go_wp2_with fail
       refine (HVS.out _ HB2.out).mono ?_
       rintro e w2 ⟨rfl, hb2⟩
       have hy5 := HX2.out.keep hb2; have hz5 := HY2.out.keep hb2
       have HX5 := hid hy5; have HY5 := hid hz5; have HB5 := hid (HB2.out.trans (hb2.mono HB2.out.size))
       clear hcx2 hcy2
       have hcx5 := hy5.1; have hcy5 := hz5.1
       clear hb2 hy5 hz5
       cases h4 : vers.all toB
       · skip
         simp only
         go_wp2_with fail
         refine (level_any lvl _ (HG.out.below HB5.out)).mono ?_
         rintro e wL ⟨⟨tL, rfl⟩, hbL⟩
         have hy6 := HX5.out.keep hbL; have hz6 := HY5.out.keep hbL
         have HX6 := hid hy6; have HY6 := hid hz6; have HB6 := hid (HB5.out.trans (hbL.mono HB5.out.size))
         clear hcx5 hcy5
         have hcx6 := hy6.1; have hcy6 := hz6.1
         clear hbL hy6 hz6
         generalize (if levelB lvl = true then (0 : Int) else 190) = ev
         go_wp2_with fail
         go_ret
         have hout : out = 220 := by rw [HOUT.out, HBODY.out]; simp [h1, h2, h3, h4]
         rw [hout]
         exact ⟨rfl, HB6.out⟩
       · skip
         simp only
         go_wp2_with fail
         refine (HNM.out _ HB5.out).mono ?_
         rintro e w3 ⟨rfl, hb3⟩
         have hy7 := HX5.out.keep hb3; have hz7 := HY5.out.keep hb3
         have HX7 := hid hy7; have HY7 := hid hz7; have HB7 := hid (HB5.out.trans (hb3.mono HB5.out.size))
         clear hcx5 hcy5
         have hcx7 := hy7.1; have hcy7 := hz7.1
         clear hb3 hy7 hz7
         cases h5 : names.all (fun x => wordB ⟨x.toArray⟩)
         · skip
           simp only
           go_wp2_with fail
           refine (level_any lvl _ (HG.out.below HB7.out)).mono ?_
           rintro e wL ⟨⟨tL, rfl⟩, hbL⟩
           have hy8 := HX7.out.keep hbL; have hz8 := HY7.out.keep hbL
           have HX8 := hid hy8; have HY8 := hid hz8; have HB8 := hid (HB7.out.trans (hbL.mono HB7.out.size))
           clear hcx7 hcy7
           have hcx8 := hy8.1; have hcy8 := hz8.1
           clear hbL hy8 hz8
           generalize (if levelB lvl = true then (0 : Int) else 190) = ev
           go_wp2_with fail
           go_ret
           have hout : out = 220 := by rw [HOUT.out, HBODY.out]; simp [h1, h2, h3, h4, h5]
           rw [hout]
           exact ⟨rfl, HB8.out⟩
         · skip
           simp only
           cases h6 : (lvl != 0)
           · skip
             have h6' : (lvl == 0) = true := by have := h6; simp at this ⊢; exact this
             have H6 := hid h6'
             clear h6'
             cases lf
             · skip
               cases h8 : (bits == 0)
               · skip
                 go_wp2_with fail
                 refine (level_any lvl _ (HG.out.below HB7.out)).mono ?_
                 rintro e wL ⟨⟨tL, rfl⟩, hbL⟩
                 have hy9 := HX7.out.keep hbL; have hz9 := HY7.out.keep hbL
                 have HX9 := hid hy9; have HY9 := hid hz9; have HB9 := hid (HB7.out.trans (hbL.mono HB7.out.size))
                 clear hcx7 hcy7
                 have hcx9 := hy9.1; have hcy9 := hz9.1
                 clear hbL hy9 hz9
                 generalize (if levelB lvl = true then (0 : Int) else 190) = ev
                 go_wp2_with fail
                 go_ret
                 have hout : out = 220 := by rw [HOUT.out, HBODY.out]; simp [h1, h2, h3, h4, h5, h6, H6.out, h8]
                 rw [hout]
                 exact ⟨rfl, HB9.out⟩
               · skip
                 go_wp2_with fail
                 refine (level_any lvl _ (HG.out.below HB7.out)).mono ?_
                 rintro e wL ⟨⟨tL, rfl⟩, hbL⟩
                 have hy10 := HX7.out.keep hbL; have hz10 := HY7.out.keep hbL
                 have HX10 := hid hy10; have HY10 := hid hz10; have HB10 := hid (HB7.out.trans (hbL.mono HB7.out.size))
                 clear hcx7 hcy7
                 have hcx10 := hy10.1; have hcy10 := hz10.1
                 clear hbL hy10 hz10
                 generalize (if levelB lvl = true then (0 : Int) else 190) = ev
                 go_wp2_with fail
                 go_ret
                 have hout : out = 0 := by rw [HOUT.out, HBODY.out]; simp [h1, h2, h3, h4, h5, h6, H6.out, h8]
                 rw [hout]
                 exact ⟨rfl, HB10.out⟩
             · skip
               go_wp2_with fail
               refine (level_any lvl _ (HG.out.below HB7.out)).mono ?_
               rintro e wL ⟨⟨tL, rfl⟩, hbL⟩
               have hy11 := HX7.out.keep hbL; have hz11 := HY7.out.keep hbL
               have HX11 := hid hy11; have HY11 := hid hz11; have HB11 := hid (HB7.out.trans (hbL.mono HB7.out.size))
               clear hcx7 hcy7
               have hcx11 := hy11.1; have hcy11 := hz11.1
               clear hbL hy11 hz11
               generalize (if levelB lvl = true then (0 : Int) else 190) = ev
               go_wp2_with fail
               go_ret
               have hout : out = 220 := by rw [HOUT.out, HBODY.out]; simp [h1, h2, h3, h4, h5, h6, H6.out]
               rw [hout]
               exact ⟨rfl, HB11.out⟩
           · skip
             have h6' : (lvl == 0) = false := by have := h6; simp at this ⊢; exact this
             have H6 := hid h6'
             clear h6'
             go_wp2_with fail
             refine (level_any lvl _ (HG.out.below HB7.out)).mono ?_
             rintro e wL ⟨⟨tL, rfl⟩, hbL⟩
             have hy12 := HX7.out.keep hbL; have hz12 := HY7.out.keep hbL
             have HX12 := hid hy12; have HY12 := hid hz12; have HB12 := hid (HB7.out.trans (hbL.mono HB7.out.size))
             clear hcx7 hcy7
             have hcx12 := hy12.1; have hcy12 := hz12.1
             clear hbL hy12 hz12
             generalize (if levelB lvl = true then (0 : Int) else 190) = ev
             go_wp2_with fail
             go_ret
             have hout : out = 220 := by rw [HOUT.out, HBODY.out]; simp [h1, h2, h3, h4, h5, h6, H6.out]
             rw [hout]
             exact ⟨rfl, HB12.out⟩
end Yd
