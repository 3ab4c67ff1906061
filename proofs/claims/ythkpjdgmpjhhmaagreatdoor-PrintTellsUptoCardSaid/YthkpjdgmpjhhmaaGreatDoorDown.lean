import Derived.Test.YthkpjdgmpjhhmaaGreatDoorOwnSt
import Derived.Test.YthkpjdgmpjhhmaaGreatDoorRows
import Derived.ProofKit
import Derived.OpenShut
import Derived.Deep.Slices
import Derived.Test.YthkpjdgmpjhhmaaGreatDoorProg
set_option maxRecDepth 200000
set_option maxHeartbeats 8000000
namespace Yd
open Go Go.RowKit Go.Proofs Go.ChangeShapes Go.WideShapes Go.ChangeAt
open Go.Proofs.YthkpjdgmpjhhmaaGreatDoor.Rows (uptoBulk uptoBulkAll)

section
variable {H : Type} {enc : TypeId × Value → H} {w : World} {base : Nat} {spare : Nat → Bool} {held : Bool}
theorem bulk_mem {d : DataW H} {l : List (DataW H)} (h : d ∈ l) : uptoBulk d ≤ uptoBulkAll l := by
 induction l with
 | nil => cases h
 | cons x r ih =>
   simp only [uptoBulkAll]
   cases List.mem_cons.1 h with
   | inl e => subst e; omega
   | inr e => have := ih e; omega
theorem bulk_one (d : DataW H) : 1 ≤ uptoBulk d := by
 cases d with
 | lit l => cases l <;> simp [uptoBulk]
 | nil => simp [uptoBulk]
 | ptr d => simp [uptoBulk]
 | slice elems spare => simp [uptoBulk]
 | agg parts => simp [uptoBulk]
 | iface t d => simp [uptoBulk]
 | map entries => simp [uptoBulk]
 | held h => simp [uptoBulk]
theorem bulk_len (l : List (DataW H)) : l.length ≤ uptoBulkAll l := by
 induction l with
 | nil => simp [uptoBulkAll]
 | cons x r ih => have := bulk_one x; simp only [uptoBulkAll, List.length_cons]; omega
def RdAs {α : Type} (enc : TypeId × Value → H) (w : World) (base : Nat) (spare : Nat → Bool) (held : Bool) (N : Nat) (e : TypeId) (en : α → List Value) (Q : α → Prop) : Prop :=
 ∀ n cs y, DataW.trod enc Tryz.prog w base spare held n e cs = some y → uptoBulk y.1 ≤ N → ∃ x, cs = en x ∧ Q x
theorem pick_list {α : Type} {p : Nat → α → Prop} : ∀ (m : Nat), (∀ i, i < m → ∃ x, p i x) → ∃ xs : List α, xs.length = m ∧ ∀ i x, xs[i]? = some x → p i x
 | 0, _ => ⟨[], rfl, fun i x h => by simp at h⟩
 | m + 1, h => by
   obtain ⟨xs, hl, hx⟩ := pick_list m (fun i hi => h i (by omega))
   obtain ⟨x, hp⟩ := h m (by omega)
   refine ⟨xs ++ [x], by simp [hl], fun i y hy => ?_⟩
   rcases Nat.lt_or_ge i m with hi | hi
   · rw [List.getElem?_append_left (by omega)] at hy
     exact hx i y hy
   · rw [List.getElem?_append_right (by omega), hl] at hy
     have : i = m := by
       rcases Nat.lt_or_ge (i - m) 1 with h1 | h1
       · omega
       · rw [List.getElem?_eq_none (by simpa using h1)] at hy; cases hy
     subst this
     simp at hy
     subst hy
     exact hp
theorem spot_none {w : World} {a : Addr} {v : Value} (h : w.cell? a = some v) : a.spot = none := by
 unfold World.cell? at h
 split at h
 · split at h
   · cases h
   · rename_i hs
     cases hsp : a.spot with
     | none => rfl
     | some x => rw [hsp] at hs; exact absurd rfl hs
 · cases h
theorem down_slice {α : Type} {en : α → List Value} {k : Nat} [hc : Cells en k] {t e : TypeId} {Q : α → Prop} {N : Nat} (hN : N ≤ 140737488355328) (ht : Tryz.prog.underlying t = some (.slice e)) (hk : Tryz.prog.cellsOf e = k) (hr : RdAs enc w base spare held N e en Q)
   {n : Nat} {cs : List Value} {y : DataW H × List MemPlace} (h : DataW.trod enc Tryz.prog w base spare held n t cs = some y) (hb : uptoBulk y.1 ≤ N) :
   ∃ s : Sl, ∃ xs : List α, cs = [s.v] ∧ Row w k en s.a s.n s.c xs ∧ xs.length ≤ N ∧ ∀ x ∈ xs, Q x := by
 rcases DataW.trod_slice ht h with ⟨rfl, rfl⟩ | ⟨a, len, cap, elems, rest, n', rfl, rfl, rfl, hba, hl, hm, hel, hget, _, _⟩
 · exact ⟨⟨none, 0, 0⟩, [], rfl, Row.nil_, Nat.zero_le _, fun x hx => by cases hx⟩
 · have hbulk : uptoBulkAll (elems.map (·.1)) ≤ N := by simp only [uptoBulk] at hb; omega
   have hlen : len ≤ N := by
     have := bulk_len (elems.map (·.1))
     rw [List.length_map, hel] at this
     omega
   obtain ⟨xs, hxl, hx⟩ := pick_list (p := fun i x => (∀ j v, (en x)[j]? = some v → w.cell? (a.add (i * k + j)) = some v) ∧ Q x) len (fun i hi => by
     have hg := hget i hi
     rw [List.getElem?_eq_getElem (by omega)] at hg
     obtain ⟨cs', h1, h2⟩ := Option.bind_eq_some_iff.1 hg
     obtain ⟨x, rfl, hq⟩ := hr _ _ _ h2 (Nat.le_trans (bulk_mem (List.mem_map.2 ⟨_, List.getElem_mem (by omega), rfl⟩)) hbulk)
     obtain ⟨_, hl', hcell⟩ := World.cells?_some h1
     refine ⟨x, fun j v hv => ?_, hq⟩
     have hj : j < k := by have := (List.getElem?_eq_some_iff.1 hv).1; rw [hc.len] at this; exact this
     have := hcell j (by rw [hk]; exact hj)
     rw [Go.Deep.add_add, hk, hv] at this
     exact this)
   refine ⟨⟨some a, len, cap⟩, xs, rfl, ⟨hxl, hl, Nat.le_trans hlen hN, fun h => (by cases h), fun i x hxi => ?_⟩, by omega, fun x hxm => ?_⟩
   · have hi : i < xs.length := (List.getElem?_eq_some_iff.1 hxi).1
     have hsp : a.spot = none := by
       obtain ⟨x0, hx0⟩ : ∃ x0, xs[0]? = some x0 := ⟨_, List.getElem?_eq_getElem (by omega)⟩
       have hp := hc.pos
       obtain ⟨v0, hv0⟩ : ∃ v0, (en x0)[0]? = some v0 := ⟨_, List.getElem?_eq_getElem (by rw [hc.len]; exact hp)⟩
       have := (hx 0 x0 hx0).1 0 v0 hv0
       rw [Nat.zero_mul, Nat.add_zero] at this
       exact spot_none this
     refine ⟨a.block, a.off, by obtain ⟨b, o, s⟩ := a; simp only at hsp; rw [hsp], fun j v hv => ?_⟩
     have := (hx i x hxi).1 j v hv
     unfold Addr.add at this
     split at this
     · rename_i h0
       rw [show a.off + i * k + j = a.off by omega]
       obtain ⟨b, o, s⟩ := a
       simp only at hsp
       rw [hsp] at this
       exact this
     · rw [Nat.add_assoc]; exact this
   · obtain ⟨i, hi⟩ := List.mem_iff_getElem?.1 hxm
     exact (hx i x hi).2
variable {N : Nat}
theorem rd_int : RdAs enc w base spare held N 3 encInt (fun _ => True) := fun n cs y h _ => by
 obtain ⟨i, rfl, _, _⟩ := DataW.trod_int Tryz.underlying3 h
 exact ⟨i, rfl, trivial⟩
theorem rd_str : RdAs enc w base spare held N 9 encStr (fun _ => True) := fun n cs y h _ => by
 obtain ⟨s, rfl, _, _⟩ := DataW.trod_string Tryz.underlying9 h
 exact ⟨s.data.toList, by simp [encStr], trivial⟩
theorem rd_bool {n : Nat} {cs : List Value} {y : DataW H × List MemPlace} (h : DataW.trod enc Tryz.prog w base spare held n 4 cs = some y) : ∃ b, cs = [.bool b] := by
 obtain ⟨b, rfl, _⟩ := DataW.trod_bool Tryz.underlying4 h
 exact ⟨b, rfl⟩
theorem c_int : Tryz.prog.cellsOf 3 = 1 := by kernel_rfl
theorem c_str : Tryz.prog.cellsOf 9 = 1 := by kernel_rfl
theorem c_bool : Tryz.prog.cellsOf 4 = 1 := by kernel_rfl
theorem c_ver : Tryz.prog.cellsOf 46 = 2 := by kernel_rfl
theorem c_sn : Tryz.prog.cellsOf 69 = 3 := by kernel_rfl
theorem c_ev : Tryz.prog.cellsOf 49 = 9 := by kernel_rfl
theorem c_or : Tryz.prog.cellsOf 72 = 2 := by kernel_rfl
theorem c_ma : Tryz.prog.cellsOf 79 = 4 := by kernel_rfl
theorem c_wa : Tryz.prog.cellsOf 82 = 2 := by kernel_rfl
theorem c_hi : Tryz.prog.cellsOf 28 = 8 := by kernel_rfl
theorem c_ssn : Tryz.prog.cellsOf 47 = 1 := by kernel_rfl
theorem c_sint : Tryz.prog.cellsOf 70 = 1 := by kernel_rfl
theorem c_sstr : Tryz.prog.cellsOf 22 = 1 := by kernel_rfl
theorem c_sev : Tryz.prog.cellsOf 23 = 1 := by kernel_rfl
theorem c_sor : Tryz.prog.cellsOf 24 = 1 := by kernel_rfl
theorem c_sma : Tryz.prog.cellsOf 25 = 1 := by kernel_rfl
theorem c_swa : Tryz.prog.cellsOf 26 = 1 := by kernel_rfl
theorem rd_ver {n : Nat} {cs : List Value} {y : DataW H × List MemPlace} (h : DataW.trod enc Tryz.prog w base spare held n 46 cs = some y) : ∃ v : Ver, cs = [.int .i64 v.t, .int .i64 v.k] := by
 obtain ⟨xs, n', _, rfl, hl, hlen, hf⟩ := DataW.trod_struct Tryz.underlying46 h
 rw [c_ver] at hl
 match xs, hlen, cs, hl with
 | [y0, y1], _, [c0, c1], _ =>
   have f0 := hf 0 _ rfl
   have f1 := hf 1 _ rfl
   simp [c_int] at f0 f1
   obtain ⟨a, e0, _⟩ := DataW.trod_int Tryz.underlying3 f0
   obtain ⟨b, e1, _⟩ := DataW.trod_int Tryz.underlying3 f1
   simp at e0 e1
   exact ⟨⟨a, b⟩, by rw [e0, e1]⟩
theorem rd_sn : RdAs enc w base spare held N 69 encSn (fun _ => True) := fun n cs y h _ => by
 obtain ⟨xs, n', _, rfl, hl, hlen, hf⟩ := DataW.trod_struct Tryz.underlying69 h
 rw [c_sn] at hl
 match xs, hlen, cs, hl with
 | [y0, y1], _, [c0, c1, c2], _ =>
   have f0 := hf 0 _ rfl
   have f1 := hf 1 _ rfl
   simp [c_int, c_ver] at f0 f1
   obtain ⟨a, e0, _⟩ := DataW.trod_int Tryz.underlying3 f0
   obtain ⟨v, e1⟩ := rd_ver f1
   simp at e0 e1
   exact ⟨⟨a, v⟩, by rw [e0, e1.1, e1.2]; rfl, trivial⟩
theorem rd_wa : RdAs enc w base spare held N 82 encWa (fun _ => True) := fun n cs y h _ => by
 obtain ⟨xs, n', _, rfl, hl, hlen, hf⟩ := DataW.trod_struct Tryz.underlying82 h
 rw [c_wa] at hl
 match xs, hlen, cs, hl with
 | [y0, y1], _, [c0, c1], _ =>
   have f0 := hf 0 _ rfl
   have f1 := hf 1 _ rfl
   simp [c_int] at f0 f1
   obtain ⟨a, e0, _⟩ := DataW.trod_int Tryz.underlying3 f0
   obtain ⟨b, e1, _⟩ := DataW.trod_int Tryz.underlying3 f1
   simp at e0 e1
   exact ⟨⟨a, b⟩, by rw [e0, e1]; rfl, trivial⟩
def QOr (w : World) (N : Nat) (x : OrC) : Prop := ∃ L : List Int, Row w 1 encInt x.sa x.sn x.sc L ∧ L.length ≤ N
def QMa (w : World) (N : Nat) (x : MaC) : Prop := ∃ L : List Int, Row w 1 encInt x.sa x.sn x.sc L ∧ L.length ≤ N
def QEv (w : World) (N : Nat) (x : EvC) : Prop := ∃ L : List Sn, Row w 3 encSn x.sa x.sn x.sc L ∧ L.length ≤ N
theorem rd_or (hN : N ≤ 140737488355328) : RdAs enc w base spare held N 72 encOr (QOr w N) := fun n cs y h hb => by
 obtain ⟨xs, n', _, rfl, hl, hlen, hf⟩ := DataW.trod_struct Tryz.underlying72 h
 rw [c_or] at hl
 match xs, hlen, cs, hl, hb with
 | [y0, y1], _, [c0, c1], _, hb =>
   simp only [List.map_cons, List.map_nil, uptoBulk, uptoBulkAll] at hb
   have f0 := hf 0 _ rfl
   have f1 := hf 1 _ rfl
   simp [c_int, c_sint] at f0 f1
   obtain ⟨a, e0, _⟩ := DataW.trod_int Tryz.underlying3 f0
   obtain ⟨s, L, e1, hr, hL, _⟩ := down_slice (hc := cInsInt) hN Tryz.underlying70 c_int rd_int f1 (by omega)
   simp at e0 e1
   exact ⟨⟨a, s.a, s.n, s.c⟩, by rw [e0, e1]; rfl, L, hr, hL⟩
theorem rd_ma (hN : N ≤ 140737488355328) : RdAs enc w base spare held N 79 encMa (QMa w N) := fun n cs y h hb => by
 obtain ⟨xs, n', _, rfl, hl, hlen, hf⟩ := DataW.trod_struct Tryz.underlying79 h
 rw [c_ma] at hl
 match xs, hlen, cs, hl, hb with
 | [y0, y1, y2, y3], _, [c0, c1, c2, c3], _, hb =>
   simp only [List.map_cons, List.map_nil, uptoBulk, uptoBulkAll] at hb
   have f0 := hf 0 _ rfl
   have f1 := hf 1 _ rfl
   have f2 := hf 2 _ rfl
   have f3 := hf 3 _ rfl
   simp [c_int, c_sint, c_bool] at f0 f1 f2 f3
   obtain ⟨a, e0, _⟩ := DataW.trod_int Tryz.underlying3 f0
   obtain ⟨b, e1, _⟩ := DataW.trod_int Tryz.underlying3 f1
   obtain ⟨f, e2⟩ := rd_bool f2
   obtain ⟨s, L, e3, hr, hL, _⟩ := down_slice (hc := cInsInt) hN Tryz.underlying70 c_int rd_int f3 (by omega)
   simp at e0 e1 e2 e3
   exact ⟨⟨a, b, f, s.a, s.n, s.c⟩, by rw [e0, e1, e2, e3]; rfl, L, hr, hL⟩
theorem rd_ev (hN : N ≤ 140737488355328) : RdAs enc w base spare held N 49 encEv (QEv w N) := fun n cs y h hb => by
 obtain ⟨xs, n', _, rfl, hl, hlen, hf⟩ := DataW.trod_struct Tryz.underlying49 h
 rw [c_ev] at hl
 match xs, hlen, cs, hl, hb with
 | [y0, y1, y2, y3, y4, y5, y6, y7], _, [c0, c1, c2, c3, c4, c5, c6, c7, c8], _, hb =>
   simp only [List.map_cons, List.map_nil, uptoBulk, uptoBulkAll] at hb
   have f0 := hf 0 _ rfl
   have f1 := hf 1 _ rfl
   have f2 := hf 2 _ rfl
   have f3 := hf 3 _ rfl
   have f4 := hf 4 _ rfl
   have f5 := hf 5 _ rfl
   have f6 := hf 6 _ rfl
   have f7 := hf 7 _ rfl
   simp [c_int, c_ssn, c_ver] at f0 f1 f2 f3 f4 f5 f6 f7
   obtain ⟨a0, e0, _⟩ := DataW.trod_int Tryz.underlying3 f0
   obtain ⟨a1, e1, _⟩ := DataW.trod_int Tryz.underlying3 f1
   obtain ⟨a2, e2, _⟩ := DataW.trod_int Tryz.underlying3 f2
   obtain ⟨a3, e3, _⟩ := DataW.trod_int Tryz.underlying3 f3
   obtain ⟨a4, e4, _⟩ := DataW.trod_int Tryz.underlying3 f4
   obtain ⟨v, e5⟩ := rd_ver f5
   obtain ⟨a6, e6, _⟩ := DataW.trod_int Tryz.underlying3 f6
   obtain ⟨s, L, e7, hr, hL, _⟩ := down_slice (hc := cInsSn) hN Tryz.underlying47 c_sn rd_sn f7 (by omega)
   simp at e0 e1 e2 e3 e4 e5 e6 e7
   exact ⟨⟨a0, a1, a2, a3, a4, v, a6, s.a, s.n, s.c⟩, by rw [e0, e1, e2, e3, e4, e5.1, e5.2, e6, e7]; rfl, L, hr, hL⟩
theorem eps_len {β : Type} {X : World} {k : Nat} {en : β → List Value} {a : Option Addr} {n c : Nat} {M : Nat} (h : ∃ L : List β, Row X k en a n c L ∧ L.length ≤ M) :
   (Classical.epsilon (fun L : List β => Row X k en a n c L)).length ≤ M ∧ Row X k en a n c (Classical.epsilon (fun L : List β => Row X k en a n c L)) := by
 obtain ⟨L, hL, hM⟩ := h
 have := Classical.epsilon_spec (p := fun L : List β => Row X k en a n c L) ⟨L, hL⟩
 exact ⟨by rw [this.len, ← hL.len]; exact hM, this⟩
theorem down_hist {n : Nat} {cs : List Value} {y : DataW H × List MemPlace} (h : DataW.trod enc Tryz.prog w base spare held n 28 cs = some y) (hb : uptoBulk y.1 ≤ 1048576) :
   ∃ hh : HC, ∃ nl es ds ms qs, ∃ scan : EvC → List Sn, ∃ dn : OrC → List Int, ∃ mn : MaC → List Int, cs = (cellsH hh).toList ∧ (∀ i, i < 4 → Row w 1 encStr (hh.nm i).a (hh.nm i).n (hh.nm i).c (nl i)) ∧ Deep w hh es ds ms qs scan dn mn ∧ BulkH nl es ds ms qs scan dn mn := by
 obtain ⟨xs, n', _, rfl, hl, hlen, hf⟩ := DataW.trod_struct Tryz.underlying28 h
 rw [c_hi] at hl
 match xs, hlen, cs, hl, hb with
 | [y0, y1, y2, y3, y4, y5, y6, y7], _, [c0, c1, c2, c3, c4, c5, c6, c7], _, hb =>
   simp only [List.map_cons, List.map_nil, uptoBulk, uptoBulkAll] at hb
   have f0 := hf 0 _ rfl
   have f1 := hf 1 _ rfl
   have f2 := hf 2 _ rfl
   have f3 := hf 3 _ rfl
   have f4 := hf 4 _ rfl
   have f5 := hf 5 _ rfl
   have f6 := hf 6 _ rfl
   have f7 := hf 7 _ rfl
   simp [c_sstr, c_sev, c_sor, c_sma, c_swa] at f0 f1 f2 f3 f4 f5 f6 f7
   obtain ⟨s0, l0, e0, r0, b0, _⟩ := down_slice (hc := cInsStr) (N := 1048576) (by decide) Tryz.underlying22 c_str rd_str f0 (by omega)
   obtain ⟨s1, l1, e1, r1, b1, _⟩ := down_slice (hc := cInsStr) (N := 1048576) (by decide) Tryz.underlying22 c_str rd_str f1 (by omega)
   obtain ⟨s2, l2, e2, r2, b2, _⟩ := down_slice (hc := cInsStr) (N := 1048576) (by decide) Tryz.underlying22 c_str rd_str f2 (by omega)
   obtain ⟨s3, l3, e3, r3, b3, _⟩ := down_slice (hc := cInsStr) (N := 1048576) (by decide) Tryz.underlying22 c_str rd_str f3 (by omega)
   obtain ⟨s4, es, e4, r4, b4, q4⟩ := down_slice (hc := cInsEv) (N := 1048576) (by decide) Tryz.underlying23 c_ev (rd_ev (by decide)) f4 (by omega)
   obtain ⟨s5, ds, e5, r5, b5, q5⟩ := down_slice (hc := cInsOr) (N := 1048576) (by decide) Tryz.underlying24 c_or (rd_or (by decide)) f5 (by omega)
   obtain ⟨s6, ms, e6, r6, b6, q6⟩ := down_slice (hc := cInsMa) (N := 1048576) (by decide) Tryz.underlying25 c_ma (rd_ma (by decide)) f6 (by omega)
   obtain ⟨s7, qs, e7, r7, b7, _⟩ := down_slice (hc := cInsWa) (N := 1048576) (by decide) Tryz.underlying26 c_wa rd_wa f7 (by omega)
   simp at e0 e1 e2 e3 e4 e5 e6 e7
   refine ⟨⟨s0, s1, s2, s3, s4, s5, s6, s7⟩, (fun i => match i with | 0 => l0 | 1 => l1 | 2 => l2 | _ => l3), es, ds, ms, qs, _, _, _, by rw [e0, e1, e2, e3, e4, e5, e6, e7], fun i hi => ?_, ⟨r4, r5, r6, r7, fun x hx => (eps_len (q4 x hx)).2, fun x hx => (eps_len (q5 x hx)).2, fun x hx => (eps_len (q6 x hx)).2⟩,
     ⟨by omega, by omega, by omega, by omega, fun i hi => ?_, fun x hx => Nat.le_trans (eps_len (q4 x hx)).1 (by decide), fun x hx => Nat.le_trans (eps_len (q5 x hx)).1 (by decide), fun x hx => Nat.le_trans (eps_len (q6 x hx)).1 (by decide)⟩⟩
   · match i, hi with
     | 0, _ => exact r0
     | 1, _ => exact r1
     | 2, _ => exact r2
     | 3, _ => exact r3
   · match i, hi with
     | 0, _ => exact Nat.le_trans b0 (by decide)
     | 1, _ => exact Nat.le_trans b1 (by decide)
     | 2, _ => exact Nat.le_trans b2 (by decide)
     | 3, _ => exact Nat.le_trans b3 (by decide)
end
end Yd
