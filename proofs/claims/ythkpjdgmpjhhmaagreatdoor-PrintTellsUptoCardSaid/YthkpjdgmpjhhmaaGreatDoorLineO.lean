import Derived.Test.YthkpjdgmpjhhmaaGreatDoorTxtA
import Derived.Test.YthkpjdgmpjhhmaaGreatDoorTxtB
import Derived.Test.YthkpjdgmpjhhmaaGreatDoorTxtC
import Derived.Test.YthkpjdgmpjhhmaaGreatDoorTxt9
import Derived.Test.YthkpjdgmpjhhmaaGreatDoorProg
import Derived.Test.YthkpjdgmpjhhmaaGreatDoorPrIter
import Derived.Test.YthkpjdgmpjhhmaaGreatDoorSpokenB
set_option maxRecDepth 200000
set_option maxHeartbeats 8000000
namespace Yd
open Go Go.RowKit Go.Proofs

def lineOk (s : LnS) : Prop := (∀ x ∈ s.names, wordB ⟨x.toArray⟩ = true) ∧ (∀ t ∈ s.vers, toOk t) ∧
 ((s.kind = 1 ∧ s.names.length = 2 ∧ s.vers = [] ∧ (∃ lv : Nat, s.lvl = lv ∧ 1 ≤ lv ∧ lv ≤ 4) ∧ s.first = false ∧ s.bits = 0) ∨
  (s.kind = 2 ∧ s.names.length = 2 ∧ s.vers = [] ∧ s.lvl = 0 ∧ s.first = false ∧ s.bits = 0) ∨
  (s.kind = 3 ∧ s.names.length = 2 ∧ s.vers.length = 1 ∧ s.lvl = 0 ∧ s.first = false ∧ s.bits = 0) ∨
  (s.kind = 4 ∧ (∃ c : Nat, s.names.length = c + 2 ∧ s.vers.length = c ∧ c ≤ 40) ∧ True ∧ s.lvl = 0 ∧ s.first = false ∧ s.bits = 0) ∨
  (s.kind = 5 ∧ s.names.length = 1 ∧ s.vers = [] ∧ s.lvl = 0 ∧ s.first = false ∧ s.bits = 0) ∨
  (s.kind = 6 ∧ s.names.length = 1 ∧ s.vers = [] ∧ s.lvl = 0 ∧ s.first = false ∧ s.bits = 0) ∨
  (s.kind = 7 ∧ (∃ c : Nat, s.names.length = c + 1 ∧ c ≤ 300) ∧ s.vers = [] ∧ s.lvl = 0 ∧ s.first = false ∧ s.bits = 0) ∨
  (s.kind = 8 ∧ (∃ c : Nat, s.names.length = c + 2 ∧ c ≤ 300) ∧ s.vers = [] ∧ s.lvl = 0 ∧ True ∧ s.bits = 0) ∨
  (s.kind = 9 ∧ s.names.length = 1 ∧ s.vers = [] ∧ s.lvl = 0 ∧ s.first = false ∧ (∃ b : Nat, s.bits = b ∧ b ≤ 15)))
theorem lineOk.len {s : LnS} (h : lineOk s) : s.names.length ≤ 1000 ∧ s.vers.length ≤ 1000 := by
 rcases h.2.2 with ⟨_, h1, h2, _⟩ | ⟨_, h1, h2, _⟩ | ⟨_, h1, h2, _⟩ | ⟨_, h1, h2, _⟩ | ⟨_, h1, h2, _⟩ | ⟨_, h1, h2, _⟩ | ⟨_, h1, h2, _⟩ | ⟨_, h1, h2, _⟩ | ⟨_, h1, h2, _⟩
 · rw [h2]; exact ⟨by omega, by decide⟩
 · rw [h2]; exact ⟨by omega, by decide⟩
 · omega
 · obtain ⟨c, h1, h2, h3⟩ := h1; omega
 · rw [h2]; exact ⟨by omega, by decide⟩
 · rw [h2]; exact ⟨by omega, by decide⟩
 · obtain ⟨c, h1, h3⟩ := h1; rw [h2]; exact ⟨by omega, by decide⟩
 · obtain ⟨c, h1, h3⟩ := h1; rw [h2]; exact ⟨by omega, by decide⟩
 · rw [h2]; exact ⟨by omega, by decide⟩
theorem LnAt.lineW {w : World} {B : Nat} {l : LnC} {s : LnS} (h : LnAt w B l s) (hs : lineOk s) (hg : GlobL w) : LineW w l.na l.nn l.nc l.va l.vn l.vc s.names s.vers :=
 ⟨h.2.1.row (by have := hs.len; omega), h.2.2.row (by have := hs.len; omega), hs.1, hs.2.1, hg, hg.1.1⟩
theorem text_all {w : World} {B : Nat} {l : LnC} {s : LnS} (h : LnAt w B l s) (hs : lineOk s) (hg : GlobL w) : Calls Tryz.prog 9 #[valLn l] w (Ret2 (.string ⟨(textS s).toArray⟩) (.int .i64 0) w) := by
 have hw := h.lineW hs hg
 obtain ⟨⟨e1, e2, e3, e4, e5, e6⟩, _, _⟩ := h
 obtain ⟨_, _, hc⟩ := hs
 obtain ⟨lk, na, nn, nc, ll, va, vn, vc, lf, lb⟩ := l
 simp only at e1 e2 e3 e4 e5 e6 hw
 rcases hc with hc | hc | hc | hc | hc | hc | hc | hc | hc
 · obtain ⟨hk, hn, hv, ⟨lv, hl, h1, h4⟩, hf, hb⟩ := hc
   rw [hv] at e6
   simp only [List.length_nil] at e6
   rw [hn] at e5
   rw [hk] at e1; rw [hl] at e2; rw [hf] at e3; rw [hb] at e4
   subst e1 e2 e3 e4 e5 e6
   have hS : s = ⟨1, s.names, lv, s.vers, false, 0⟩ := by cases s; simp only at *; simp_all
   obtain ⟨_, nb, no, _, rfl, _⟩ := hw.rn.at_ (i := 0) (by omega)
   have hcap := hw.rn.cap
   by_cases hnc : nc = 2
   · subst hnc
     rw [hS]; exact text_k1a nb no va vc lv h1 h4 s.names s.vers w hw
   · rw [hS]; exact text_k1b nb no nc (by omega) va vc lv h1 h4 s.names s.vers w hw
 · obtain ⟨hk, hn, hv, hl, hf, hb⟩ := hc
   rw [hv] at e6
   simp only [List.length_nil] at e6
   rw [hn] at e5
   rw [hk] at e1; rw [hl] at e2; rw [hf] at e3; rw [hb] at e4
   subst e1 e2 e3 e4 e5 e6
   have hS : s = ⟨2, s.names, 0, s.vers, false, 0⟩ := by cases s; simp only at *; simp_all
   obtain ⟨_, nb, no, _, rfl, _⟩ := hw.rn.at_ (i := 0) (by omega)
   have hcap := hw.rn.cap
   by_cases hnc : nc = 2
   · subst hnc
     rw [hS]; exact text_k2a nb no va vc s.names s.vers w hw
   · rw [hS]; exact text_k2b nb no nc (by omega) va vc s.names s.vers w hw
 · obtain ⟨hk, hn, hv, hl, hf, hb⟩ := hc
   rw [hn] at e5
   rw [hv] at e6
   rw [hk] at e1; rw [hl] at e2; rw [hf] at e3; rw [hb] at e4
   subst e1 e2 e3 e4 e5 e6
   have hS : s = ⟨3, s.names, 0, s.vers, false, 0⟩ := by cases s; simp only at *; simp_all
   obtain ⟨_, nb, no, _, rfl, _⟩ := hw.rn.at_ (i := 0) (by omega)
   have hcap := hw.rn.cap
   by_cases hnc : nc = 2
   · subst hnc
     rw [hS]; exact text_k3a nb no va vc s.names s.vers w hw
   · rw [hS]; exact text_k3b nb no nc (by omega) va vc s.names s.vers w hw
 · obtain ⟨hk, ⟨c, hn, hv, h1⟩, _, hl, hf, hb⟩ := hc
   rw [hn] at e5
   rw [hv] at e6
   rw [hk] at e1; rw [hl] at e2; rw [hf] at e3; rw [hb] at e4
   subst e1 e2 e3 e4 e5 e6
   have hS : s = ⟨4, s.names, 0, s.vers, false, 0⟩ := by cases s; simp only at *; simp_all
   obtain ⟨_, nb, no, _, rfl, _⟩ := hw.rn.at_ (i := 0) (by omega)
   have hcap := hw.rn.cap
   by_cases hnc : nc = 2
   · obtain rfl : vn = 0 := by omega
     subst hnc
     rw [hS]; exact text_k4a nb no va vc s.names s.vers w hw
   · rw [hS]; exact text_k4b nb no nc (by omega) va vc vn h1 s.names s.vers w hw
 · obtain ⟨hk, hn, hv, hl, hf, hb⟩ := hc
   rw [hv] at e6
   simp only [List.length_nil] at e6
   rw [hn] at e5
   rw [hk] at e1; rw [hl] at e2; rw [hf] at e3; rw [hb] at e4
   subst e1 e2 e3 e4 e5 e6
   have hS : s = ⟨5, s.names, 0, s.vers, false, 0⟩ := by cases s; simp only at *; simp_all
   obtain ⟨_, nb, no, _, rfl, _⟩ := hw.rn.at_ (i := 0) (by omega)
   have hcap := hw.rn.cap
   by_cases hnc : nc = 1
   · subst hnc
     rw [hS]; exact text_k5a nb no va vc s.names s.vers w hw
   · rw [hS]; exact text_k5b nb no nc (by omega) va vc s.names s.vers w hw
 · obtain ⟨hk, hn, hv, hl, hf, hb⟩ := hc
   rw [hv] at e6
   simp only [List.length_nil] at e6
   rw [hn] at e5
   rw [hk] at e1; rw [hl] at e2; rw [hf] at e3; rw [hb] at e4
   subst e1 e2 e3 e4 e5 e6
   have hS : s = ⟨6, s.names, 0, s.vers, false, 0⟩ := by cases s; simp only at *; simp_all
   obtain ⟨_, nb, no, _, rfl, _⟩ := hw.rn.at_ (i := 0) (by omega)
   have hcap := hw.rn.cap
   by_cases hnc : nc = 1
   · subst hnc
     rw [hS]; exact text_k6a nb no va vc s.names s.vers w hw
   · rw [hS]; exact text_k6b nb no nc (by omega) va vc s.names s.vers w hw
 · obtain ⟨hk, ⟨c, hn, h1⟩, hv, hl, hf, hb⟩ := hc
   rw [hv] at e6
   simp only [List.length_nil] at e6
   rw [hn] at e5
   rw [hk] at e1; rw [hl] at e2; rw [hf] at e3; rw [hb] at e4
   subst e1 e2 e3 e4 e5 e6
   have hS : s = ⟨7, s.names, 0, s.vers, false, 0⟩ := by cases s; simp only at *; simp_all
   obtain ⟨_, nb, no, _, rfl, _⟩ := hw.rn.at_ (i := 0) (by omega)
   have hcap := hw.rn.cap
   by_cases hnc : nc = 1
   · obtain rfl : c = 0 := by omega
     subst hnc
     rw [hS]; exact text_k7a nb no va vc s.names s.vers w hw
   · rw [hS]; exact text_k7b nb no nc (by omega) va vc c h1 s.names s.vers w hw
 · obtain ⟨hk, ⟨c, hn, h1⟩, hv, hl, _, hb⟩ := hc
   rw [hv] at e6
   simp only [List.length_nil] at e6
   rw [hn] at e5
   rw [hk] at e1; rw [hl] at e2; rw [hb] at e4
   subst e1 e2 e4 e5 e6
   have hS : s = ⟨8, s.names, 0, s.vers, s.first, 0⟩ := by cases s; simp only at *; simp_all
   obtain ⟨_, nb, no, _, rfl, _⟩ := hw.rn.at_ (i := 0) (by omega)
   have hcap := hw.rn.cap
   subst e3
   cases hf : s.first
   · rw [hf] at hS
     by_cases hnc : nc = 2
     · obtain rfl : c = 0 := by omega
       subst hnc
       rw [hS]; exact text_k8a nb no va vc s.names s.vers w hw
     · rw [hS]; exact text_k8b nb no nc (by omega) va vc c h1 s.names s.vers w hw
   · rw [hf] at hS
     by_cases hnc : nc = 2
     · obtain rfl : c = 0 := by omega
       subst hnc
       rw [hS]; exact text_k10a nb no va vc s.names s.vers w hw
     · rw [hS]; exact text_k10b nb no nc (by omega) va vc c h1 s.names s.vers w hw
 · obtain ⟨hk, hn, hv, hl, hf, ⟨b, hb, h1⟩⟩ := hc
   rw [hv] at e6
   simp only [List.length_nil] at e6
   rw [hn] at e5
   rw [hk] at e1; rw [hl] at e2; rw [hf] at e3; rw [hb] at e4
   subst e1 e2 e3 e4 e5 e6
   have hS : s = ⟨9, s.names, 0, s.vers, false, b⟩ := by cases s; simp only at *; simp_all
   obtain ⟨_, nb, no, _, rfl, _⟩ := hw.rn.at_ (i := 0) (by omega)
   have hcap := hw.rn.cap
   by_cases h0 : b = 0
   · subst h0
     by_cases hnc : nc = 1
     · subst hnc
       rw [hS]; exact text_k11a nb no va vc s.names s.vers w hw
     · rw [hS]; exact text_k11b nb no nc (by omega) va vc s.names s.vers w hw
   · skip
     by_cases hnc : nc = 1
     · subst hnc
       rw [hS]; exact text_k9a nb no va vc b (by omega) h1 s.names s.vers w hw
     · rw [hS]; exact text_k9b nb no nc (by omega) va vc b (by omega) h1 s.names s.vers w hw
end Yd


namespace Yd
open Go Go.RowKit Go.Proofs

theorem word_of {ns : List Bs} {n : Nat} (hw : ∀ s ∈ ns, wordB ⟨s.toArray⟩ = true) (hn : ns.length = n) {t : Int} (ht : toldB t n = true) : wordB ⟨(nameOf ns t).toArray⟩ = true := by
 obtain ⟨h0, h1⟩ := told_bd ht
 obtain ⟨k, rfl⟩ : ∃ k : Nat, t = k := ⟨t.toNat, by omega⟩
 have hk : k < ns.length := by omega
 rw [nameOf_at (List.getElem?_eq_getElem hk)]
 exact hw _ (List.getElem_mem hk)
theorem told_of {ns : List Bs} {n : Nat} (hw : ∀ s ∈ ns, wordB ⟨s.toArray⟩ = true) (hn : ns.length = n) {v : Ver} (hv : verB v n = true) : toOk (toldS ns v) := by
 unfold toldS
 split
 · exact .inl rfl
 · rename_i hk
   simp only [verB, if_neg hk, Bool.and_eq_true, decide_eq_true_eq] at hv
   exact .inr ⟨word_of hw hn hv.1.1, hv.1.2, hv.2⟩
set_option linter.unusedSectionVars false
section
variable {tn sn on pn : List Bs} {nt ns no np : Nat} (ht : ∀ s ∈ tn, wordB ⟨s.toArray⟩ = true) (hs : ∀ s ∈ sn, wordB ⟨s.toArray⟩ = true) (ho : ∀ s ∈ on, wordB ⟨s.toArray⟩ = true) (hp : ∀ s ∈ pn, wordB ⟨s.toArray⟩ = true)
 (lt : tn.length = nt) (ls : sn.length = ns) (lo : on.length = no) (lp : pn.length = np)
include ht hs ho hp lt ls lo lp
theorem event_ok {e : EvC} {scan : List Sn} (h : evB nt ns no np e scan = true) : lineOk (eventS tn sn on pn e scan) := by
 simp only [evB, Bool.and_eq_true, decide_eq_true_eq] at h
 obtain ⟨⟨⟨⟨h1, h7⟩, het⟩, hh⟩, _⟩ := h
 have hwt := word_of ht lt het
 unfold hasB at hh
 unfold eventS
 split at hh
 · rename_i k1
   rw [if_pos k1]
   simp only [Bool.and_eq_true, levelB, decide_eq_true_eq] at hh
   refine ⟨by simp only [List.mem_cons, List.not_mem_nil, or_false, forall_eq_or_imp, forall_eq]; exact ⟨hwt, word_of hs ls hh.1⟩, by simp, .inl ⟨k1, rfl, rfl, ⟨e.lvl.toNat, by simp only; omega, by omega, by omega⟩, rfl, rfl⟩⟩
 · rename_i k1
   rw [if_neg k1]
   split at hh
   · rename_i k2
     rw [if_pos k2]
     simp only [Bool.and_eq_true, decide_eq_true_eq] at hh
     refine ⟨by simp only [List.mem_cons, List.not_mem_nil, or_false, forall_eq_or_imp, forall_eq]; exact ⟨hwt, word_of ho lo hh.1.1.1⟩, by simp, .inr (.inl ⟨k2, rfl, rfl, rfl, rfl, rfl⟩)⟩
   · rename_i k2
     rw [if_neg k2]
     split at hh
     · rename_i k3
       rw [if_pos k3]
       simp only [Bool.and_eq_true] at hh
       refine ⟨by simp only [List.mem_cons, List.not_mem_nil, or_false, forall_eq_or_imp, forall_eq]; exact ⟨hwt, word_of ho lo hh.1⟩, by simp only [List.mem_cons, List.not_mem_nil, or_false, forall_eq]; exact told_of ht lt hh.2, .inr (.inr (.inl ⟨k3, rfl, rfl, rfl, rfl, rfl⟩))⟩
     · rename_i k3
       rw [if_neg k3]
       split at hh
       · rename_i k4
         rw [if_pos k4]
         simp only [Bool.and_eq_true, decide_eq_true_eq, List.all_eq_true, seenB] at hh
         obtain ⟨⟨hp1, hl⟩, ha⟩ := hh
         refine ⟨?_, ?_, .inr (.inr (.inr (.inl ⟨k4, ⟨scan.length, by simp, by simp, hl⟩, trivial, rfl, rfl, rfl⟩)))⟩
         · intro x hx
           simp only [List.mem_append, List.mem_cons, List.not_mem_nil, or_false, List.mem_map] at hx
           rcases hx with (rfl | rfl) | ⟨q, hq, rfl⟩
           · exact hwt
           · exact word_of hp lp hp1
           · exact word_of ho lo (ha q hq).1
         · intro x hx
           obtain ⟨q, hq, rfl⟩ := List.mem_map.1 hx
           exact told_of ht lt (ha q hq).2
       · rename_i k4
         rw [if_neg k4]
         have h56 : e.kind = 5 ∨ e.kind = 6 := by omega
         refine ⟨by simp only [List.mem_cons, List.not_mem_nil, or_false, forall_eq]; exact hwt, by simp, ?_⟩
         rcases h56 with k5 | k6
         · exact .inr (.inr (.inr (.inr (.inl ⟨k5, rfl, rfl, rfl, rfl, rfl⟩))))
         · exact .inr (.inr (.inr (.inr (.inr (.inl ⟨k6, rfl, rfl, rfl, rfl, rfl⟩)))))
theorem order_ok {x : OrC} {ds : List Int} (h1 : toldB x.obj no = true) (h2 : allowB nt ds = true) : lineOk (orderS on tn x ds) := by
 simp only [allowB, Bool.and_eq_true, decide_eq_true_eq, List.all_eq_true] at h2
 refine ⟨?_, by simp [orderS], .inr (.inr (.inr (.inr (.inr (.inr (.inl ⟨rfl, ⟨ds.length, by simp [orderS], by omega⟩, rfl, rfl, rfl, rfl⟩))))))⟩
 intro y hy
 simp only [orderS, List.mem_append, List.mem_cons, List.not_mem_nil, or_false, List.mem_map] at hy
 rcases hy with rfl | ⟨q, hq, rfl⟩
 · exact word_of ho lo h1
 · exact word_of ht lt (h2.2 q hq)
theorem match_ok {x : MaC} {ds : List Int} (h0 : toldB x.pred np = true) (h1 : toldB x.obj no = true) (h2 : allowB nt ds = true) : lineOk (matchS pn on tn x ds) := by
 simp only [allowB, Bool.and_eq_true, decide_eq_true_eq, List.all_eq_true] at h2
 refine ⟨?_, by simp [matchS], .inr (.inr (.inr (.inr (.inr (.inr (.inr (.inl ⟨rfl, ⟨ds.length, by simp [matchS], by omega⟩, rfl, rfl, trivial, rfl⟩)))))))⟩
 intro y hy
 simp only [matchS, List.mem_append, List.mem_cons, List.not_mem_nil, or_false, List.mem_map] at hy
 rcases hy with (rfl | rfl) | ⟨q, hq, rfl⟩
 · exact word_of hp lp h0
 · exact word_of ho lo h1
 · exact word_of ht lt (h2.2 q hq)
theorem want_ok {x : Wa} (h0 : toldB x.ses ns = true) (h1 : 0 ≤ x.bits) (h2 : x.bits ≤ 15) : lineOk (wantS sn x) :=
 ⟨by simp only [wantS, List.mem_cons, List.not_mem_nil, or_false, forall_eq]; exact word_of hs ls h0, by simp [wantS], .inr (.inr (.inr (.inr (.inr (.inr (.inr (.inr ⟨rfl, rfl, rfl, rfl, rfl, ⟨x.bits.toNat, by simp only [wantS]; omega, by omega⟩⟩)))))))⟩
end
theorem lines_ok {h : HC} {nl : Nat → List Bs} {es : List EvC} {ds : List OrC} {ms : List MaC} {qs : List Wa} {scan : EvC → List Sn} {dn : OrC → List Int} {mn : MaC → List Int} (hs : shapedB h nl es ds ms qs scan dn mn = true)
   (hlen : ∀ i, i < 4 → (nl i).length = (h.nm i).n) : ∀ s ∈ linesS nl es ds ms qs scan dn mn, lineOk s := by
 simp only [shapedB, namesB, Bool.and_eq_true, List.all_eq_true, List.mem_range] at hs
 obtain ⟨⟨⟨⟨⟨_, hnm⟩, he⟩, hd⟩, hm⟩, hw⟩ := hs
 have nm : ∀ i, i < 4 → ∀ s ∈ nl i, wordB ⟨s.toArray⟩ = true := fun i hi => by
   have := hnm i hi
   simp only [listB, nameB, Bool.and_eq_true, List.all_eq_true] at this
   exact this.2.1
 have n0 := nm 0 (by decide); have n1 := nm 1 (by decide); have n2 := nm 2 (by decide); have n3 := nm 3 (by decide)
 have l0 : (nl 0).length = h.t.n := hlen 0 (by decide)
 have l1 : (nl 1).length = h.s.n := hlen 1 (by decide)
 have l2 : (nl 2).length = h.o.n := hlen 2 (by decide)
 have l3 : (nl 3).length = h.p.n := hlen 3 (by decide)
 intro s hx
 simp only [linesS, List.mem_append, List.mem_map] at hx
 rcases hx with ((⟨e, hem, rfl⟩ | ⟨d, hdm, rfl⟩) | ⟨m, hmm, rfl⟩) | ⟨q, hqm, rfl⟩
 · exact event_ok n0 n1 n2 n3 l0 l1 l2 l3 (he e hem)
 · have := hd d hdm
   simp only [ordB, Bool.and_eq_true] at this
   exact order_ok n0 n1 n2 n3 l0 l1 l2 l3 this.1 this.2
 · have := hm m hmm
   simp only [matB, Bool.and_eq_true] at this
   exact match_ok n0 n1 n2 n3 l0 l1 l2 l3 this.1.1 this.1.2 this.2
 · have := hw q hqm
   simp only [wantB, Bool.and_eq_true, decide_eq_true_eq] at this
   exact want_ok n0 n1 n2 n3 l0 l1 l2 l3 this.1.1 this.1.2 this.2
end Yd
