import Derived.Test.YthdpangjphphjaaGreatDoorChk2
import Derived.Test.YthdpangjphphjaaGreatDoorChk3
import Derived.Test.YthdpangjphphjaaGreatDoorChk4
import Derived.Test.YthdpangjphphjaaGreatDoorChk5
import Derived.Test.YthdpangjphphjaaGreatDoorTxt6
import Derived.Test.YthdpangjphphjaaGreatDoorChk8
import Derived.Test.YthdpangjphphjaaGreatDoorTxt8
import Derived.Test.YthdpangjphphjaaGreatDoorTxt9
import Derived.Test.YthdpangjphphjaaGreatDoorProg
set_option maxRecDepth 200000
set_option maxHeartbeats 8000000
namespace Yd
open Go Go.RowKit Go.Proofs

def lineOk (s : LnS) : Prop := (∀ x ∈ s.names, wordB ⟨x.toArray⟩ = true) ∧ (∀ t ∈ s.vers, toOk t) ∧
 ((s.kind = 1 ∧ s.names.length = 2 ∧ s.vers = [] ∧ (∃ lv : Nat, s.lvl = lv ∧ 1 ≤ lv ∧ lv ≤ 4) ∧ s.first = false ∧ s.bits = 0) ∨
  (s.kind = 2 ∧ s.names.length = 2 ∧ s.vers = [] ∧ s.lvl = 0 ∧ s.first = false ∧ s.bits = 0) ∨
  (s.kind = 3 ∧ s.names.length = 2 ∧ s.vers.length = 1 ∧ s.lvl = 0 ∧ s.first = false ∧ s.bits = 0) ∨
  (s.kind = 4 ∧ (∃ c : Nat, s.names.length = c + 2 ∧ s.vers.length = c ∧ c ≤ 40) ∧ True ∧ s.lvl = 0 ∧ s.first = false ∧ s.bits = 0) ∨
  (s.kind = 5 ∧ s.names.length = 1 ∧ s.vers = [] ∧ s.lvl = 0 ∧ s.first = false ∧ s.bits = 0) ∨
  (s.kind = 6 ∧ s.names.length = 1 ∧ s.vers = [] ∧ s.lvl = 0 ∧ s.first = false ∧ s.bits = 0) ∨
  (s.kind = 7 ∧ (∃ c : Nat, s.names.length = c + 1 ∧ c ≤ 300) ∧ s.vers = [] ∧ s.lvl = 0 ∧ s.first = false ∧ s.bits = 0) ∨
  (s.kind = 8 ∧ (∃ c : Nat, s.names.length = c + 2 ∧ c ≤ 300) ∧ s.vers = [] ∧ s.lvl = 0 ∧ True ∧ s.bits = 0) ∨
  (s.kind = 9 ∧ s.names.length = 1 ∧ s.vers = [] ∧ s.lvl = 0 ∧ s.first = false ∧ (∃ b : Nat, s.bits = b ∧ b ≤ 15)))
theorem lineOk.len {s : LnS} (h : lineOk s) : s.names.length ≤ 1000 ∧ s.vers.length ≤ 1000 := by
 rcases h.2.2 with ⟨_, h1, h2, _⟩ | ⟨_, h1, h2, _⟩ | ⟨_, h1, h2, _⟩ | ⟨_, h1, h2, _⟩ | ⟨_, h1, h2, _⟩ | ⟨_, h1, h2, _⟩ | ⟨_, h1, h2, _⟩ | ⟨_, h1, h2, _⟩ | ⟨_, h1, h2, _⟩
 · rw [h2]; exact ⟨by omega, by decide⟩
 · rw [h2]; exact ⟨by omega, by decide⟩
 · omega
 · obtain ⟨c, h1, h2, h3⟩ := h1; omega
 · rw [h2]; exact ⟨by omega, by decide⟩
 · rw [h2]; exact ⟨by omega, by decide⟩
 · obtain ⟨c, h1, h3⟩ := h1; rw [h2]; exact ⟨by omega, by decide⟩
 · obtain ⟨c, h1, h3⟩ := h1; rw [h2]; exact ⟨by omega, by decide⟩
 · rw [h2]; exact ⟨by omega, by decide⟩
theorem LnAt.lineW {w : World} {B : Nat} {l : LnC} {s : LnS} (h : LnAt w B l s) (hs : lineOk s) (hg : GlobL w) : LineW w l.na l.nn l.nc l.va l.vn l.vc s.names s.vers :=
 ⟨h.2.1.row (by have := hs.len; omega), h.2.2.row (by have := hs.len; omega), hs.1, hs.2.1, hg, hg.1.1⟩
theorem text_all {w : World} {B : Nat} {l : LnC} {s : LnS} (h : LnAt w B l s) (hs : lineOk s) (hg : GlobL w) : Calls Tryz.prog 15 #[valLn l] w (Ret2 (.string ⟨(textS s).toArray⟩) (.int .i64 0) w) := by
 have hw := h.lineW hs hg
 obtain ⟨⟨e1, e2, e3, e4, e5, e6⟩, _, _⟩ := h
 obtain ⟨_, _, hc⟩ := hs
 obtain ⟨lk, na, nn, nc, ll, va, vn, vc, lf, lb⟩ := l
 simp only at e1 e2 e3 e4 e5 e6 hw
 rcases hc with hc | hc | hc | hc | hc | hc | hc | hc | hc
 · obtain ⟨hk, hn, hv, ⟨lv, hl, h1, h4⟩, hf, hb⟩ := hc
   rw [hv] at e6
   simp only [List.length_nil] at e6
   rw [hn] at e5
   rw [hk] at e1; rw [hl] at e2; rw [hf] at e3; rw [hb] at e4
   subst e1 e2 e3 e4 e5 e6
   have hS : s = ⟨1, s.names, lv, s.vers, false, 0⟩ := by cases s; simp only at *; simp_all
   obtain ⟨_, nb, no, _, rfl, _⟩ := hw.rn.at_ (i := 0) (by omega)
   have hcap := hw.rn.cap
   by_cases hnc : nc = 2
   · subst hnc
     rw [hS]; exact text_k1a nb no va vc lv h1 h4 s.names s.vers w hw
   · rw [hS]; exact text_k1b nb no nc (by omega) va vc lv h1 h4 s.names s.vers w hw
 · obtain ⟨hk, hn, hv, hl, hf, hb⟩ := hc
   rw [hv] at e6
   simp only [List.length_nil] at e6
   rw [hn] at e5
   rw [hk] at e1; rw [hl] at e2; rw [hf] at e3; rw [hb] at e4
   subst e1 e2 e3 e4 e5 e6
   have hS : s = ⟨2, s.names, 0, s.vers, false, 0⟩ := by cases s; simp only at *; simp_all
   obtain ⟨_, nb, no, _, rfl, _⟩ := hw.rn.at_ (i := 0) (by omega)
   have hcap := hw.rn.cap
   by_cases hnc : nc = 2
   · subst hnc
     rw [hS]; exact text_k2a nb no va vc s.names s.vers w hw
   · rw [hS]; exact text_k2b nb no nc (by omega) va vc s.names s.vers w hw
 · obtain ⟨hk, hn, hv, hl, hf, hb⟩ := hc
   rw [hn] at e5
   rw [hv] at e6
   rw [hk] at e1; rw [hl] at e2; rw [hf] at e3; rw [hb] at e4
   subst e1 e2 e3 e4 e5 e6
   have hS : s = ⟨3, s.names, 0, s.vers, false, 0⟩ := by cases s; simp only at *; simp_all
   obtain ⟨_, nb, no, _, rfl, _⟩ := hw.rn.at_ (i := 0) (by omega)
   have hcap := hw.rn.cap
   by_cases hnc : nc = 2
   · subst hnc
     rw [hS]; exact text_k3a nb no va vc s.names s.vers w hw
   · rw [hS]; exact text_k3b nb no nc (by omega) va vc s.names s.vers w hw
 · obtain ⟨hk, ⟨c, hn, hv, h1⟩, _, hl, hf, hb⟩ := hc
   rw [hn] at e5
   rw [hv] at e6
   rw [hk] at e1; rw [hl] at e2; rw [hf] at e3; rw [hb] at e4
   subst e1 e2 e3 e4 e5 e6
   have hS : s = ⟨4, s.names, 0, s.vers, false, 0⟩ := by cases s; simp only at *; simp_all
   obtain ⟨_, nb, no, _, rfl, _⟩ := hw.rn.at_ (i := 0) (by omega)
   have hcap := hw.rn.cap
   by_cases hnc : nc = 2
   · obtain rfl : vn = 0 := by omega
     subst hnc
     rw [hS]; exact text_k4a nb no va vc s.names s.vers w hw
   · rw [hS]; exact text_k4b nb no nc (by omega) va vc vn h1 s.names s.vers w hw
 · obtain ⟨hk, hn, hv, hl, hf, hb⟩ := hc
   rw [hv] at e6
   simp only [List.length_nil] at e6
   rw [hn] at e5
   rw [hk] at e1; rw [hl] at e2; rw [hf] at e3; rw [hb] at e4
   subst e1 e2 e3 e4 e5 e6
   have hS : s = ⟨5, s.names, 0, s.vers, false, 0⟩ := by cases s; simp only at *; simp_all
   obtain ⟨_, nb, no, _, rfl, _⟩ := hw.rn.at_ (i := 0) (by omega)
   have hcap := hw.rn.cap
   by_cases hnc : nc = 1
   · subst hnc
     rw [hS]; exact text_k5a nb no va vc s.names s.vers w hw
   · rw [hS]; exact text_k5b nb no nc (by omega) va vc s.names s.vers w hw
 · obtain ⟨hk, hn, hv, hl, hf, hb⟩ := hc
   rw [hv] at e6
   simp only [List.length_nil] at e6
   rw [hn] at e5
   rw [hk] at e1; rw [hl] at e2; rw [hf] at e3; rw [hb] at e4
   subst e1 e2 e3 e4 e5 e6
   have hS : s = ⟨6, s.names, 0, s.vers, false, 0⟩ := by cases s; simp only at *; simp_all
   obtain ⟨_, nb, no, _, rfl, _⟩ := hw.rn.at_ (i := 0) (by omega)
   have hcap := hw.rn.cap
   by_cases hnc : nc = 1
   · subst hnc
     rw [hS]; exact text_k6a nb no va vc s.names s.vers w hw
   · rw [hS]; exact text_k6b nb no nc (by omega) va vc s.names s.vers w hw
 · obtain ⟨hk, ⟨c, hn, h1⟩, hv, hl, hf, hb⟩ := hc
   rw [hv] at e6
   simp only [List.length_nil] at e6
   rw [hn] at e5
   rw [hk] at e1; rw [hl] at e2; rw [hf] at e3; rw [hb] at e4
   subst e1 e2 e3 e4 e5 e6
   have hS : s = ⟨7, s.names, 0, s.vers, false, 0⟩ := by cases s; simp only at *; simp_all
   obtain ⟨_, nb, no, _, rfl, _⟩ := hw.rn.at_ (i := 0) (by omega)
   have hcap := hw.rn.cap
   by_cases hnc : nc = 1
   · obtain rfl : c = 0 := by omega
     subst hnc
     rw [hS]; exact text_k7a nb no va vc s.names s.vers w hw
   · rw [hS]; exact text_k7b nb no nc (by omega) va vc c h1 s.names s.vers w hw
 · obtain ⟨hk, ⟨c, hn, h1⟩, hv, hl, _, hb⟩ := hc
   rw [hv] at e6
   simp only [List.length_nil] at e6
   rw [hn] at e5
   rw [hk] at e1; rw [hl] at e2; rw [hb] at e4
   subst e1 e2 e4 e5 e6
   have hS : s = ⟨8, s.names, 0, s.vers, s.first, 0⟩ := by cases s; simp only at *; simp_all
   obtain ⟨_, nb, no, _, rfl, _⟩ := hw.rn.at_ (i := 0) (by omega)
   have hcap := hw.rn.cap
   subst e3
   cases hf : s.first
   · rw [hf] at hS
     by_cases hnc : nc = 2
     · obtain rfl : c = 0 := by omega
       subst hnc
       rw [hS]; exact text_k8a nb no va vc s.names s.vers w hw
     · rw [hS]; exact text_k8b nb no nc (by omega) va vc c h1 s.names s.vers w hw
   · rw [hf] at hS
     by_cases hnc : nc = 2
     · obtain rfl : c = 0 := by omega
       subst hnc
       rw [hS]; exact text_k10a nb no va vc s.names s.vers w hw
     · rw [hS]; exact text_k10b nb no nc (by omega) va vc c h1 s.names s.vers w hw
 · obtain ⟨hk, hn, hv, hl, hf, ⟨b, hb, h1⟩⟩ := hc
   rw [hv] at e6
   simp only [List.length_nil] at e6
   rw [hn] at e5
   rw [hk] at e1; rw [hl] at e2; rw [hf] at e3; rw [hb] at e4
   subst e1 e2 e3 e4 e5 e6
   have hS : s = ⟨9, s.names, 0, s.vers, false, b⟩ := by cases s; simp only at *; simp_all
   obtain ⟨_, nb, no, _, rfl, _⟩ := hw.rn.at_ (i := 0) (by omega)
   have hcap := hw.rn.cap
   by_cases h0 : b = 0
   · subst h0
     by_cases hnc : nc = 1
     · subst hnc
       rw [hS]; exact text_k11a nb no va vc s.names s.vers w hw
     · rw [hS]; exact text_k11b nb no nc (by omega) va vc s.names s.vers w hw
   · skip
     by_cases hnc : nc = 1
     · subst hnc
       rw [hS]; exact text_k9a nb no va vc b (by omega) h1 s.names s.vers w hw
     · rw [hS]; exact text_k9b nb no nc (by omega) va vc b (by omega) h1 s.names s.vers w hw
end Yd


namespace Yd
open Go Go.RowKit Go.Proofs

end Yd


namespace Yd
open Go Go.RowKit Go.Proofs
end Yd
