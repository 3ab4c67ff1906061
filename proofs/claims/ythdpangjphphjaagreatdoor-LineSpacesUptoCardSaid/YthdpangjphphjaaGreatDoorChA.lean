import Derived.Test.YthdpangjphphjaaGreatDoorChk2
import Derived.Test.YthdpangjphphjaaGreatDoorChk3
import Derived.Test.YthdpangjphphjaaGreatDoorChk4
import Derived.Test.YthdpangjphphjaaGreatDoorChk5
import Derived.Test.YthdpangjphphjaaGreatDoorChk6
import Derived.Test.YthdpangjphphjaaGreatDoorChk7
import Derived.Test.YthdpangjphphjaaGreatDoorChk8
import Derived.Test.YthdpangjphphjaaGreatDoorTxt8
import Derived.Test.YthdpangjphphjaaGreatDoorTxt9
import Derived.Test.YthdpangjphphjaaGreatDoorProg
set_option maxRecDepth 200000
set_option maxHeartbeats 8000000
namespace Yd
open Go Go.RowKit Go.Proofs

def lineOk (s : LnS) : Prop := (∀ x ∈ s.names, wordB ⟨x.toArray⟩ = true) ∧ (∀ t ∈ s.vers, toOk t) ∧
 ((s.kind = 1 ∧ s.names.length = 2 ∧ s.vers = [] ∧ (∃ lv : Nat, s.lvl = lv ∧ 1 ≤ lv ∧ lv ≤ 4) ∧ s.first = false ∧ s.bits = 0) ∨
  (s.kind = 2 ∧ s.names.length = 2 ∧ s.vers = [] ∧ s.lvl = 0 ∧ s.first = false ∧ s.bits = 0) ∨
  (s.kind = 3 ∧ s.names.length = 2 ∧ s.vers.length = 1 ∧ s.lvl = 0 ∧ s.first = false ∧ s.bits = 0) ∨
  (s.kind = 4 ∧ (∃ c : Nat, s.names.length = c + 2 ∧ s.vers.length = c ∧ c ≤ 40) ∧ True ∧ s.lvl = 0 ∧ s.first = false ∧ s.bits = 0) ∨
  (s.kind = 5 ∧ s.names.length = 1 ∧ s.vers = [] ∧ s.lvl = 0 ∧ s.first = false ∧ s.bits = 0) ∨
  (s.kind = 6 ∧ s.names.length = 1 ∧ s.vers = [] ∧ s.lvl = 0 ∧ s.first = false ∧ s.bits = 0) ∨
  (s.kind = 7 ∧ (∃ c : Nat, s.names.length = c + 1 ∧ c ≤ 300) ∧ s.vers = [] ∧ s.lvl = 0 ∧ s.first = false ∧ s.bits = 0) ∨
  (s.kind = 8 ∧ (∃ c : Nat, s.names.length = c + 2 ∧ c ≤ 300) ∧ s.vers = [] ∧ s.lvl = 0 ∧ True ∧ s.bits = 0) ∨
  (s.kind = 9 ∧ s.names.length = 1 ∧ s.vers = [] ∧ s.lvl = 0 ∧ s.first = false ∧ (∃ b : Nat, s.bits = b ∧ b ≤ 15)))
theorem lineOk.len {s : LnS} (h : lineOk s) : s.names.length ≤ 1000 ∧ s.vers.length ≤ 1000 := by
 rcases h.2.2 with ⟨_, h1, h2, _⟩ | ⟨_, h1, h2, _⟩ | ⟨_, h1, h2, _⟩ | ⟨_, h1, h2, _⟩ | ⟨_, h1, h2, _⟩ | ⟨_, h1, h2, _⟩ | ⟨_, h1, h2, _⟩ | ⟨_, h1, h2, _⟩ | ⟨_, h1, h2, _⟩
 · rw [h2]; exact ⟨by omega, by decide⟩
 · rw [h2]; exact ⟨by omega, by decide⟩
 · omega
 · obtain ⟨c, h1, h2, h3⟩ := h1; omega
 · rw [h2]; exact ⟨by omega, by decide⟩
 · rw [h2]; exact ⟨by omega, by decide⟩
 · obtain ⟨c, h1, h3⟩ := h1; rw [h2]; exact ⟨by omega, by decide⟩
 · obtain ⟨c, h1, h3⟩ := h1; rw [h2]; exact ⟨by omega, by decide⟩
 · rw [h2]; exact ⟨by omega, by decide⟩
theorem LnAt.lineW {w : World} {B : Nat} {l : LnC} {s : LnS} (h : LnAt w B l s) (hs : lineOk s) (hg : GlobL w) : LineW w l.na l.nn l.nc l.va l.vn l.vc s.names s.vers :=
 ⟨h.2.1.row (by have := hs.len; omega), h.2.2.row (by have := hs.len; omega), hs.1, hs.2.1, hg, hg.1.1⟩
theorem text_all {w : World} {B : Nat} {l : LnC} {s : LnS} (h : LnAt w B l s) (hs : lineOk s) (hg : GlobL w) : Calls Tryz.prog 15 #[valLn l] w (Ret2 (.string ⟨(textS s).toArray⟩) (.int .i64 0) w) := by
 have hw := h.lineW hs hg
 obtain ⟨⟨e1, e2, e3, e4, e5, e6⟩, _, _⟩ := h
 obtain ⟨_, _, hc⟩ := hs
 obtain ⟨lk, na, nn, nc, ll, va, vn, vc, lf, lb⟩ := l
 simp only at e1 e2 e3 e4 e5 e6 hw
 rcases hc with hc | hc | hc | hc | hc | hc | hc | hc | hc
 · obtain ⟨hk, hn, hv, ⟨lv, hl, h1, h4⟩, hf, hb⟩ := hc
   rw [hv] at e6
   simp only [List.length_nil] at e6
   rw [hn] at e5
   rw [hk] at e1; rw [hl] at e2; rw [hf] at e3; rw [hb] at e4
   subst e1 e2 e3 e4 e5 e6
   have hS : s = ⟨1, s.names, lv, s.vers, false, 0⟩ := by cases s; simp only at *; simp_all
   obtain ⟨_, nb, no, _, rfl, _⟩ := hw.rn.at_ (i := 0) (by omega)
   have hcap := hw.rn.cap
   by_cases hnc : nc = 2
   · subst hnc
     rw [hS]; exact text_k1a nb no va vc lv h1 h4 s.names s.vers w hw
   · rw [hS]; exact text_k1b nb no nc (by omega) va vc lv h1 h4 s.names s.vers w hw
 · obtain ⟨hk, hn, hv, hl, hf, hb⟩ := hc
   rw [hv] at e6
   simp only [List.length_nil] at e6
   rw [hn] at e5
   rw [hk] at e1; rw [hl] at e2; rw [hf] at e3; rw [hb] at e4
   subst e1 e2 e3 e4 e5 e6
   have hS : s = ⟨2, s.names, 0, s.vers, false, 0⟩ := by cases s; simp only at *; simp_all
   obtain ⟨_, nb, no, _, rfl, _⟩ := hw.rn.at_ (i := 0) (by omega)
   have hcap := hw.rn.cap
   by_cases hnc : nc = 2
   · subst hnc
     rw [hS]; exact text_k2a nb no va vc s.names s.vers w hw
   · rw [hS]; exact text_k2b nb no nc (by omega) va vc s.names s.vers w hw
 · obtain ⟨hk, hn, hv, hl, hf, hb⟩ := hc
   rw [hn] at e5
   rw [hv] at e6
   rw [hk] at e1; rw [hl] at e2; rw [hf] at e3; rw [hb] at e4
   subst e1 e2 e3 e4 e5 e6
   have hS : s = ⟨3, s.names, 0, s.vers, false, 0⟩ := by cases s; simp only at *; simp_all
   obtain ⟨_, nb, no, _, rfl, _⟩ := hw.rn.at_ (i := 0) (by omega)
   have hcap := hw.rn.cap
   by_cases hnc : nc = 2
   · subst hnc
     rw [hS]; exact text_k3a nb no va vc s.names s.vers w hw
   · rw [hS]; exact text_k3b nb no nc (by omega) va vc s.names s.vers w hw
 · obtain ⟨hk, ⟨c, hn, hv, h1⟩, _, hl, hf, hb⟩ := hc
   rw [hn] at e5
   rw [hv] at e6
   rw [hk] at e1; rw [hl] at e2; rw [hf] at e3; rw [hb] at e4
   subst e1 e2 e3 e4 e5 e6
   have hS : s = ⟨4, s.names, 0, s.vers, false, 0⟩ := by cases s; simp only at *; simp_all
   obtain ⟨_, nb, no, _, rfl, _⟩ := hw.rn.at_ (i := 0) (by omega)
   have hcap := hw.rn.cap
   by_cases hnc : nc = 2
   · obtain rfl : vn = 0 := by omega
     subst hnc
     rw [hS]; exact text_k4a nb no va vc s.names s.vers w hw
   · rw [hS]; exact text_k4b nb no nc (by omega) va vc vn h1 s.names s.vers w hw
 · obtain ⟨hk, hn, hv, hl, hf, hb⟩ := hc
   rw [hv] at e6
   simp only [List.length_nil] at e6
   rw [hn] at e5
   rw [hk] at e1; rw [hl] at e2; rw [hf] at e3; rw [hb] at e4
   subst e1 e2 e3 e4 e5 e6
   have hS : s = ⟨5, s.names, 0, s.vers, false, 0⟩ := by cases s; simp only at *; simp_all
   obtain ⟨_, nb, no, _, rfl, _⟩ := hw.rn.at_ (i := 0) (by omega)
   have hcap := hw.rn.cap
   by_cases hnc : nc = 1
   · subst hnc
     rw [hS]; exact text_k5a nb no va vc s.names s.vers w hw
   · rw [hS]; exact text_k5b nb no nc (by omega) va vc s.names s.vers w hw
 · obtain ⟨hk, hn, hv, hl, hf, hb⟩ := hc
   rw [hv] at e6
   simp only [List.length_nil] at e6
   rw [hn] at e5
   rw [hk] at e1; rw [hl] at e2; rw [hf] at e3; rw [hb] at e4
   subst e1 e2 e3 e4 e5 e6
   have hS : s = ⟨6, s.names, 0, s.vers, false, 0⟩ := by cases s; simp only at *; simp_all
   obtain ⟨_, nb, no, _, rfl, _⟩ := hw.rn.at_ (i := 0) (by omega)
   have hcap := hw.rn.cap
   by_cases hnc : nc = 1
   · subst hnc
     rw [hS]; exact text_k6a nb no va vc s.names s.vers w hw
   · rw [hS]; exact text_k6b nb no nc (by omega) va vc s.names s.vers w hw
 · obtain ⟨hk, ⟨c, hn, h1⟩, hv, hl, hf, hb⟩ := hc
   rw [hv] at e6
   simp only [List.length_nil] at e6
   rw [hn] at e5
   rw [hk] at e1; rw [hl] at e2; rw [hf] at e3; rw [hb] at e4
   subst e1 e2 e3 e4 e5 e6
   have hS : s = ⟨7, s.names, 0, s.vers, false, 0⟩ := by cases s; simp only at *; simp_all
   obtain ⟨_, nb, no, _, rfl, _⟩ := hw.rn.at_ (i := 0) (by omega)
   have hcap := hw.rn.cap
   by_cases hnc : nc = 1
   · obtain rfl : c = 0 := by omega
     subst hnc
     rw [hS]; exact text_k7a nb no va vc s.names s.vers w hw
   · rw [hS]; exact text_k7b nb no nc (by omega) va vc c h1 s.names s.vers w hw
 · obtain ⟨hk, ⟨c, hn, h1⟩, hv, hl, _, hb⟩ := hc
   rw [hv] at e6
   simp only [List.length_nil] at e6
   rw [hn] at e5
   rw [hk] at e1; rw [hl] at e2; rw [hb] at e4
   subst e1 e2 e4 e5 e6
   have hS : s = ⟨8, s.names, 0, s.vers, s.first, 0⟩ := by cases s; simp only at *; simp_all
   obtain ⟨_, nb, no, _, rfl, _⟩ := hw.rn.at_ (i := 0) (by omega)
   have hcap := hw.rn.cap
   subst e3
   cases hf : s.first
   · rw [hf] at hS
     by_cases hnc : nc = 2
     · obtain rfl : c = 0 := by omega
       subst hnc
       rw [hS]; exact text_k8a nb no va vc s.names s.vers w hw
     · rw [hS]; exact text_k8b nb no nc (by omega) va vc c h1 s.names s.vers w hw
   · rw [hf] at hS
     by_cases hnc : nc = 2
     · obtain rfl : c = 0 := by omega
       subst hnc
       rw [hS]; exact text_k10a nb no va vc s.names s.vers w hw
     · rw [hS]; exact text_k10b nb no nc (by omega) va vc c h1 s.names s.vers w hw
 · obtain ⟨hk, hn, hv, hl, hf, ⟨b, hb, h1⟩⟩ := hc
   rw [hv] at e6
   simp only [List.length_nil] at e6
   rw [hn] at e5
   rw [hk] at e1; rw [hl] at e2; rw [hf] at e3; rw [hb] at e4
   subst e1 e2 e3 e4 e5 e6
   have hS : s = ⟨9, s.names, 0, s.vers, false, b⟩ := by cases s; simp only at *; simp_all
   obtain ⟨_, nb, no, _, rfl, _⟩ := hw.rn.at_ (i := 0) (by omega)
   have hcap := hw.rn.cap
   by_cases h0 : b = 0
   · subst h0
     by_cases hnc : nc = 1
     · subst hnc
       rw [hS]; exact text_k11a nb no va vc s.names s.vers w hw
     · rw [hS]; exact text_k11b nb no nc (by omega) va vc s.names s.vers w hw
   · skip
     by_cases hnc : nc = 1
     · subst hnc
       rw [hS]; exact text_k9a nb no va vc b (by omega) h1 s.names s.vers w hw
     · rw [hS]; exact text_k9b nb no nc (by omega) va vc b (by omega) h1 s.names s.vers w hw
end Yd


namespace Yd
open Go Go.RowKit Go.Proofs

def toB (t : To) : Bool := if t.k = 0 then decide (t = ⟨[], 0⟩) else wordB ⟨t.name.toArray⟩ && (decide (0 < t.k) && decide (t.k ≤ 999))
theorem toB_ok (t : To) : toB t = true ↔ toOk t := by
 unfold toB toOk
 by_cases h : t.k = 0
 · rw [if_pos h]
   simp only [decide_eq_true_eq]
   exact ⟨.inl, fun k => k.elim id fun k => by omega⟩
 · rw [if_neg h]
   simp only [Bool.and_eq_true, decide_eq_true_eq]
   exact ⟨.inr, fun k => k.elim (fun k => absurd (by rw [k]) h) id⟩
def manyR (r more : Int) : Int := if r = 118 then 1 else if r = 115 then more else 0
def bodyB (k : Nat) (s : LnS) : Bool :=
 (decide (formN k ≤ (s.names.length : Int)) && decide ((s.names.length : Int) - formN k ≤ mostR (formR k)) && decide ((s.vers.length : Int) = manyR (formR k) ((s.names.length : Int) - formN k)) && s.vers.all toB)
 && s.names.all (fun x => wordB ⟨x.toArray⟩)
 && (((formR k == 108) == (s.lvl != 0)) && (!s.first || formR k == 109) && (s.bits == 0 || (formR k == 103 && (decide (0 < s.bits) && decide (s.bits ≤ 15)))))
 && (s.lvl == 0 || levelB s.lvl)
def lineB (s : LnS) : Bool := decide (0 ≤ s.kind) && decide (s.kind < 10) && bodyB s.kind.toNat s
theorem may_any (t : To) (w : World) (hT : Lib.Utf8Tabs 2 3 w) : Calls Tryz.prog 51 #[valTo t] w (Ret (.bool (toB t)) w) := by
 obtain ⟨n, k⟩ := t
 have hq := eqInTo ⟨n, k⟩ ⟨[], 0⟩
 by_cases h0 : k = 0
 · subst h0
   have hb : toB ⟨n, 0⟩ = decide ((⟨n, 0⟩ : To) = ⟨[], 0⟩) := by unfold toB; rw [if_pos rfl]
   rw [hb]
   clear hb hT
   go_enter Tryz.func51, Tryz.ntmps51
   go_wp2_with fail
   go_ret
   exact ⟨by simp, belowA (Below.refl _ _) _⟩
 · have hb0 := belowA (Below.refl w.heap.size w) (.cells #[.string ⟨n.toArray⟩, .int .i64 k] 67)
   have HW := hid (names_Check n _ (Utf8Tabs_below hT hb0))
   have HB := hid hb0
   have HX := hid (Bx.new w #[.string ⟨n.toArray⟩, .int .i64 k] 67)
   have hk : (k == 0) = false := beq_eq_false_iff_ne.2 h0
   have hB : toB ⟨n, k⟩ = (wordB ⟨n.toArray⟩ && (decide (0 < k) && decide (k ≤ 999))) := by unfold toB; rw [if_neg h0]
   rw [hB]
   clear hT hb0 h0 hB hq
   cases hw : wordB ⟨n.toArray⟩
   · rw [hw] at HW
     clear hw
     go_enter Tryz.func51, Tryz.ntmps51
     go_wp2_with fail
     refine HW.out.mono ?_
     rintro e w1 ⟨rfl, hb1⟩
     have HB1 := hid (HB.out.trans (hb1.mono HB.out.size)); clear hb1
     simp only [Bool.false_eq_true, if_false]
     go_wp2_with fail
     go_ret
     exact ⟨rfl, HB1.out⟩
   · rw [hw] at HW
     clear hw
     cases h1 : decide (0 < k)
     · go_enter Tryz.func51, Tryz.ntmps51
       go_wp2_with fail
       refine HW.out.mono ?_
       rintro e w1 ⟨rfl, hb1⟩
       have hx := (HX.out.keep hb1).1
       have HB1 := hid (HB.out.trans (hb1.mono HB.out.size)); clear hb1
       simp only [if_true]
       go_wp2_with fail
       go_ret
       exact ⟨rfl, HB1.out⟩
     · cases h2 : decide (k ≤ 999)
       all_goals
         go_enter Tryz.func51, Tryz.ntmps51
         go_wp2_with fail
         refine HW.out.mono ?_
         rintro e w1 ⟨rfl, hb1⟩
         have hx := (HX.out.keep hb1).1
         have HB1 := hid (HB.out.trans (hb1.mono HB.out.size)); clear hb1
         simp only [if_true]
         go_wp2_with fail
         go_ret
         exact ⟨rfl, HB1.out⟩
theorem check1_any (t : To) (w : World) (hT : Lib.Utf8Tabs 2 3 w) : Calls Tryz.prog 50 #[valTo t] w (Ret (.bool (!toB t)) w) := by
 have hb0 := belowA (Below.refl w.heap.size w) (.cells (cellsTo t) 67)
 have HW := hid (may_any t _ (Utf8Tabs_below hT hb0))
 have HB := hid hb0
 clear hT hb0
 go_enter Tryz.func50, Tryz.ntmps50
 go_wp2_with fail
 refine HW.out.mono ?_
 rintro e w1 ⟨rfl, hb1⟩
 have HB1 := hid (HB.out.trans (hb1.mono HB.out.size)); clear hb1
 go_wp2_with fail
 go_ret
 exact ⟨rfl, HB1.out⟩
theorem level_any (l : Int) (w : World) (hg : GlobL w) : Calls Tryz.prog 44 #[.int .i64 l] w (fun e w' => (∃ t : Bs, e = .returned (.tuple #[.string ⟨t.toArray⟩, .int .i64 (if levelB l = true then 0 else 190)])) ∧ Below w.heap.size w w') := by
 cases hb : levelB l
 · have HL := hid (levelE_no hb)
   clear hb hg
   go_enter Tryz.func44, Tryz.ntmps44
   go_wp2_with fail
   refine (level_Check _ _).mono ?_
   rintro e w1 ⟨rfl, hb1⟩
   rw [HL.out]
   have HB := hid hb1; clear hb1
   go_wp2_with fail
   go_ret2
   exact ⟨⟨[], rfl⟩, HB.out⟩
 · have h := hb
   simp only [levelB, Bool.and_eq_true, decide_eq_true_eq] at h
   obtain ⟨n, rfl⟩ : ∃ n : Nat, l = (n : Int) := ⟨l.toNat, by omega⟩
   refine (level_yes n (by omega) (by omega) w hg).mono ?_
   rintro e w1 ⟨rfl, hb1⟩
   exact ⟨⟨_, rfl⟩, hb1⟩
theorem LnAt.namesAny {w : World} {B : Nat} {l : LnC} {s : LnS} (h : LnAt w B l s) (hn : s.names.length ≤ 1000000) (hT : Lib.Utf8Tabs 2 3 w) :
   Calls Tryz.prog 52 #[.slice l.na l.nn l.nc, .func (.func 53) #[] #[]] w (Ret (.bool (!s.names.all (fun x => wordB ⟨x.toArray⟩))) w) := by
 have := contStr l.na l.nn l.nc 53 #[] s.names (fun s => !wordB ⟨s.toArray⟩) w (h.2.1.row (by omega)) call_c2 (fun x _ W hb => by simpa using check2_any x W (Utf8Tabs_below hT hb))
 rwa [show s.names.any (fun s => !wordB ⟨s.toArray⟩) = !s.names.all (fun x => wordB ⟨x.toArray⟩) by simp [List.any_eq_not_all_not]] at this
theorem LnAt.versAny {w : World} {B : Nat} {l : LnC} {s : LnS} (h : LnAt w B l s) (hn : s.vers.length ≤ 1000000) (hT : Lib.Utf8Tabs 2 3 w) :
   Calls Tryz.prog 49 #[.slice l.va l.vn l.vc, .func (.func 50) #[] #[]] w (Ret (.bool (!s.vers.all toB)) w) := by
 have := contTo l.va l.vn l.vc 50 #[] s.vers (fun t => !toB t) w (h.2.2.row (by omega)) call_c1 (fun x hx W hb => by simpa using check1_any x W (Utf8Tabs_below hT hb))
 rwa [show s.vers.any (fun t => !toB t) = !s.vers.all toB by simp [List.any_eq_not_all_not]] at this
end Yd
