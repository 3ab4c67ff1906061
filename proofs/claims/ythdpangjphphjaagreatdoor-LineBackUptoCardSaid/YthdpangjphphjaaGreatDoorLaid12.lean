import Derived.Test.YthdpangjphphjaaGreatDoorOwnPut
import Derived.Test.YthdpangjphphjaaGreatDoorSpoken3
import Derived.Test.YthdpangjphphjaaGreatDoorProg
import Derived.Test.YthdpangjphphjaaGreatDoorRows
import Derived.ProofKit
import Derived.OpenShut
import Derived.Deep.Slices
import Derived.Test.YthdpangjphphjaaGreatDoorCuE
import Derived.Test.YthdpangjphphjaaGreatDoorRdB
import Derived.Test.YthdpangjphphjaaGreatDoorCards
import Derived.Test.YthdpangjphphjaaGreatDoorTie
import Derived.WalkKit
import Derived.Deep.DeepHandedRow
import Derived.Lib.LaidU8
import Derived.LaidMore
import Derived.Test.YthdpangjphphjaaGreatDoorAto
set_option maxRecDepth 200000
set_option maxHeartbeats 8000000
namespace Yd
open Go Go.RowKit Go.Proofs

def Lst {β : Type} (w X : World) (T : TypeId) (k : Nat) (enc : β → List Value) (s : Sl) (L : List β) : Prop :=
 L.length ≤ 2000000 ∧ (Row w k enc s.a s.n s.c L ∨ Own X w.heap.size T k enc s.v L)
section
variable {β : Type} {w X Y : World} {T : TypeId} {k : Nat} {enc : β → List Value} {s : Sl} {L : List β}
theorem Lst.same (h : Lst w X T k enc s L) {g : Nat} {cs : Array Value} {T' : TypeId} {fz : Nat × Nat} (hg : X.heap[g]? = some (.cells cs T' fz)) (hT : T ≠ T') (hs : Same (fun i => i ≠ g) X Y) : Lst w Y T k enc s L := by
 obtain ⟨hL, h | h⟩ := h
 · exact ⟨hL, .inl h⟩
 · refine ⟨hL, .inr (h.same hs (fun i hi e => ?_))⟩
   subst e
   obtain ⟨cs', fz', e'⟩ := h.tag hi
   rw [hg] at e'
   cases e'
   exact hT rfl
theorem Lst.below (h : Lst w X T k enc s L) (hb : Below X.heap.size X Y) : Lst w Y T k enc s L := by
 obtain ⟨hL, h | h⟩ := h
 · exact ⟨hL, .inl h⟩
 · exact ⟨hL, .inr (h.below hb rfl)⟩
theorem Lst.row [hc : Cells enc k] (h : Lst w X T k enc s L) (hb : Below w.heap.size w X) : Row X k enc s.a s.n s.c L := by
 obtain ⟨hL, h | h⟩ := h
 · exact h.below hb rfl
 · obtain ⟨a, c, e, _, _⟩ := h.shape
   obtain ⟨sa, sn, sc⟩ := s
   injection e with e1 e2 e3
   subst e1 e2 e3
   exact h.row (by omega)
theorem Lst.own (h : Own X w.heap.size T k enc s.v L) (hL : L.length ≤ 2000000) : Lst w X T k enc s L := ⟨hL, .inr h⟩
end
def Sls {α β : Type} (w X : World) (T : TypeId) (k : Nat) (enc : β → List Value) (sl : α → Sl) (xs : List α) (Ls : List (List β)) : Prop :=
 xs.length = Ls.length ∧ ∀ (i : Nat) (x : α) (L : List β), xs[i]? = some x → Ls[i]? = some L → Lst w X T k enc (sl x) L
section
variable {α β : Type} {w X Y : World} {T : TypeId} {k : Nat} {enc : β → List Value} {sl : α → Sl} {xs : List α} {Ls : List (List β)}
theorem Sls.same (h : Sls w X T k enc sl xs Ls) {g : Nat} {cs : Array Value} {T' : TypeId} {fz : Nat × Nat} (hg : X.heap[g]? = some (.cells cs T' fz)) (hT : T ≠ T') (hs : Same (fun i => i ≠ g) X Y) : Sls w Y T k enc sl xs Ls :=
 ⟨h.1, fun i x L h1 h2 => (h.2 i x L h1 h2).same hg hT hs⟩
theorem Sls.below (h : Sls w X T k enc sl xs Ls) (hb : Below X.heap.size X Y) : Sls w Y T k enc sl xs Ls := ⟨h.1, fun i x L h1 h2 => (h.2 i x L h1 h2).below hb⟩
theorem Sls.set (h : Sls w X T k enc sl xs Ls) {i : Nat} {y : α} {L : List β} (hL : Ls[i]? = some L) (hy : Lst w X T k enc (sl y) L) : Sls w X T k enc sl (xs.set i y) Ls := by
 refine ⟨by rw [List.length_set]; exact h.1, fun j x L' h1 h2 => ?_⟩
 rw [List.getElem?_set] at h1
 split at h1
 · rename_i e
   subst e
   split at h1
   · injection h1 with h1
     subst h1
     rw [hL] at h2
     injection h2 with h2
     subst h2
     exact hy
   · cases h1
 · exact h.2 j x L' h1 h2
theorem Sls.rows [hc : Cells enc k] (h : Sls w X T k enc sl xs Ls) (hb : Below w.heap.size w X) (i : Nat) (x : α) (hx : xs[i]? = some x) : ∃ L, Ls[i]? = some L ∧ Row X k enc (sl x).a (sl x).n (sl x).c L := by
 have hi : i < Ls.length := by rw [← h.1]; exact (List.getElem?_eq_some_iff.1 hx).1
 exact ⟨Ls[i], List.getElem?_eq_getElem hi, (h.2 i x _ hx (List.getElem?_eq_getElem hi)).row hb⟩
end
@[reducible] def EvC.sl (x : EvC) : Sl := ⟨x.sa, x.sn, x.sc⟩
@[reducible] def OrC.sl (x : OrC) : Sl := ⟨x.sa, x.sn, x.sc⟩
@[reducible] def MaC.sl (x : MaC) : Sl := ⟨x.sa, x.sn, x.sc⟩
@[reducible] def EvC.wi (x : EvC) (s : Sl) : EvC := { x with sa := s.a, sn := s.n, sc := s.c }
@[reducible] def OrC.wi (x : OrC) (s : Sl) : OrC := { x with sa := s.a, sn := s.n, sc := s.c }
@[reducible] def MaC.wi (x : MaC) (s : Sl) : MaC := { x with sa := s.a, sn := s.n, sc := s.c }
def EvC.base (x : EvC) : EvC := x.wi ⟨none, 0, 0⟩
def OrC.base (x : OrC) : OrC := x.wi ⟨none, 0, 0⟩
def MaC.base (x : MaC) : MaC := x.wi ⟨none, 0, 0⟩
structure Cont where
 nl : Nat → List Bs
 E : List EvC
 SE : List (List Sn)
 D : List OrC
 SD : List (List Int)
 M : List MaC
 SM : List (List Int)
 Q : List Wa
section
variable {w X Y : World} {h : HC} {es : List EvC} {ds : List OrC} {ms : List MaC} {c : Cont}
end
section
variable {w X Y : World} {h : HC} {es : List EvC} {ds : List OrC} {ms : List MaC} {c : Cont}
end
end Yd


namespace Yd
open Go Go.RowKit Go.Proofs Go.ChangeShapes Go.WideShapes Go.ChangeAt
open Go.Proofs.YthdpangjphphjaaGreatDoor.Rows (uptoBulk uptoBulkAll)

section
variable {H : Type} {enc : TypeId × Value → H} {w : World} {base : Nat} {spare : Nat → Bool} {held : Bool}
theorem bulk_mem {d : DataW H} {l : List (DataW H)} (h : d ∈ l) : uptoBulk d ≤ uptoBulkAll l := by
 induction l with
 | nil => cases h
 | cons x r ih =>
   simp only [uptoBulkAll]
   cases List.mem_cons.1 h with
   | inl e => subst e; omega
   | inr e => have := ih e; omega
theorem bulk_one (d : DataW H) : 1 ≤ uptoBulk d := by
 cases d with
 | lit l => cases l <;> simp [uptoBulk]
 | nil => simp [uptoBulk]
 | ptr d => simp [uptoBulk]
 | slice elems spare => simp [uptoBulk]
 | agg parts => simp [uptoBulk]
 | iface t d => simp [uptoBulk]
 | map entries => simp [uptoBulk]
 | held h => simp [uptoBulk]
theorem bulk_len (l : List (DataW H)) : l.length ≤ uptoBulkAll l := by
 induction l with
 | nil => simp [uptoBulkAll]
 | cons x r ih => have := bulk_one x; simp only [uptoBulkAll, List.length_cons]; omega
def RdAs {α : Type} (enc : TypeId × Value → H) (w : World) (base : Nat) (spare : Nat → Bool) (held : Bool) (N : Nat) (e : TypeId) (en : α → List Value) (Q : α → Prop) : Prop :=
 ∀ n cs y, DataW.trod enc Tryz.prog w base spare held n e cs = some y → uptoBulk y.1 ≤ N → ∃ x, cs = en x ∧ Q x
theorem pick_list {α : Type} {p : Nat → α → Prop} : ∀ (m : Nat), (∀ i, i < m → ∃ x, p i x) → ∃ xs : List α, xs.length = m ∧ ∀ i x, xs[i]? = some x → p i x
 | 0, _ => ⟨[], rfl, fun i x h => by simp at h⟩
 | m + 1, h => by
   obtain ⟨xs, hl, hx⟩ := pick_list m (fun i hi => h i (by omega))
   obtain ⟨x, hp⟩ := h m (by omega)
   refine ⟨xs ++ [x], by simp [hl], fun i y hy => ?_⟩
   rcases Nat.lt_or_ge i m with hi | hi
   · rw [List.getElem?_append_left (by omega)] at hy
     exact hx i y hy
   · rw [List.getElem?_append_right (by omega), hl] at hy
     have : i = m := by
       rcases Nat.lt_or_ge (i - m) 1 with h1 | h1
       · omega
       · rw [List.getElem?_eq_none (by simpa using h1)] at hy; cases hy
     subst this
     simp at hy
     subst hy
     exact hp
theorem spot_none {w : World} {a : Addr} {v : Value} (h : w.cell? a = some v) : a.spot = none := by
 unfold World.cell? at h
 split at h
 · split at h
   · cases h
   · rename_i hs
     cases hsp : a.spot with
     | none => rfl
     | some x => rw [hsp] at hs; exact absurd rfl hs
 · cases h
theorem down_slice {α : Type} {en : α → List Value} {k : Nat} [hc : Cells en k] {t e : TypeId} {Q : α → Prop} {N : Nat} (hN : N ≤ 140737488355328) (ht : Tryz.prog.underlying t = some (.slice e)) (hk : Tryz.prog.cellsOf e = k) (hr : RdAs enc w base spare held N e en Q)
   {n : Nat} {cs : List Value} {y : DataW H × List MemPlace} (h : DataW.trod enc Tryz.prog w base spare held n t cs = some y) (hb : uptoBulk y.1 ≤ N) :
   ∃ s : Sl, ∃ xs : List α, cs = [s.v] ∧ Row w k en s.a s.n s.c xs ∧ xs.length ≤ N ∧ ∀ x ∈ xs, Q x := by
 rcases DataW.trod_slice ht h with ⟨rfl, rfl⟩ | ⟨a, len, cap, elems, rest, n', rfl, rfl, rfl, hba, hl, hm, hel, hget, _, _⟩
 · exact ⟨⟨none, 0, 0⟩, [], rfl, Row.nil_, Nat.zero_le _, fun x hx => by cases hx⟩
 · have hbulk : uptoBulkAll (elems.map (·.1)) ≤ N := by simp only [uptoBulk] at hb; omega
   have hlen : len ≤ N := by
     have := bulk_len (elems.map (·.1))
     rw [List.length_map, hel] at this
     omega
   obtain ⟨xs, hxl, hx⟩ := pick_list (p := fun i x => (∀ j v, (en x)[j]? = some v → w.cell? (a.add (i * k + j)) = some v) ∧ Q x) len (fun i hi => by
     have hg := hget i hi
     rw [List.getElem?_eq_getElem (by omega)] at hg
     obtain ⟨cs', h1, h2⟩ := Option.bind_eq_some_iff.1 hg
     obtain ⟨x, rfl, hq⟩ := hr _ _ _ h2 (Nat.le_trans (bulk_mem (List.mem_map.2 ⟨_, List.getElem_mem (by omega), rfl⟩)) hbulk)
     obtain ⟨_, hl', hcell⟩ := World.cells?_some h1
     refine ⟨x, fun j v hv => ?_, hq⟩
     have hj : j < k := by have := (List.getElem?_eq_some_iff.1 hv).1; rw [hc.len] at this; exact this
     have := hcell j (by rw [hk]; exact hj)
     rw [Go.Deep.add_add, hk, hv] at this
     exact this)
   refine ⟨⟨some a, len, cap⟩, xs, rfl, ⟨hxl, hl, Nat.le_trans hlen hN, fun h => (by cases h), fun i x hxi => ?_⟩, by omega, fun x hxm => ?_⟩
   · have hi : i < xs.length := (List.getElem?_eq_some_iff.1 hxi).1
     have hsp : a.spot = none := by
       obtain ⟨x0, hx0⟩ : ∃ x0, xs[0]? = some x0 := ⟨_, List.getElem?_eq_getElem (by omega)⟩
       have hp := hc.pos
       obtain ⟨v0, hv0⟩ : ∃ v0, (en x0)[0]? = some v0 := ⟨_, List.getElem?_eq_getElem (by rw [hc.len]; exact hp)⟩
       have := (hx 0 x0 hx0).1 0 v0 hv0
       rw [Nat.zero_mul, Nat.add_zero] at this
       exact spot_none this
     refine ⟨a.block, a.off, by obtain ⟨b, o, s⟩ := a; simp only at hsp; rw [hsp], fun j v hv => ?_⟩
     have := (hx i x hxi).1 j v hv
     unfold Addr.add at this
     split at this
     · rename_i h0
       rw [show a.off + i * k + j = a.off by omega]
       obtain ⟨b, o, s⟩ := a
       simp only at hsp
       rw [hsp] at this
       exact this
     · rw [Nat.add_assoc]; exact this
   · obtain ⟨i, hi⟩ := List.mem_iff_getElem?.1 hxm
     exact (hx i x hi).2
variable {N : Nat}
theorem rd_str : RdAs enc w base spare held N 9 encStr (fun _ => True) := fun n cs y h _ => by
 obtain ⟨s, rfl, _, _⟩ := DataW.trod_string Tryz.underlying9 h
 exact ⟨s.data.toList, by simp [encStr], trivial⟩
theorem rd_bool {n : Nat} {cs : List Value} {y : DataW H × List MemPlace} (h : DataW.trod enc Tryz.prog w base spare held n 4 cs = some y) : ∃ b, cs = [.bool b] := by
 obtain ⟨b, rfl, _⟩ := DataW.trod_bool Tryz.underlying4 h
 exact ⟨b, rfl⟩
theorem c_int : Tryz.prog.cellsOf 3 = 1 := by kernel_rfl
theorem c_str : Tryz.prog.cellsOf 9 = 1 := by kernel_rfl
theorem c_bool : Tryz.prog.cellsOf 4 = 1 := by kernel_rfl
theorem c_sstr : Tryz.prog.cellsOf 25 = 1 := by kernel_rfl
end
end Yd


namespace Yd
open Go Go.RowKit Go.Proofs Go.ChangeShapes Go.WideShapes Go.ChangeAt
open Go.Proofs.YthdpangjphphjaaGreatDoor.Rows (uptoBulk uptoBulkAll)

section
variable {H : Type} {enc : TypeId × Value → H} {w : World} {base : Nat} {spare : Nat → Bool} {held : Bool} {N : Nat}
theorem c_to : Tryz.prog.cellsOf 67 = 2 := by kernel_rfl
theorem c_ln : Tryz.prog.cellsOf 28 = 6 := by kernel_rfl
theorem c_sto : Tryz.prog.cellsOf 26 = 1 := by kernel_rfl
theorem rd_to : RdAs enc w base spare held N 67 encTo (fun _ => True) := fun n cs y h _ => by
 obtain ⟨xs, n', _, rfl, hl, hlen, hf⟩ := DataW.trod_struct Tryz.underlying67 h
 rw [c_to] at hl
 match xs, hlen, cs, hl with
 | [y0, y1], _, [c0, c1], _ =>
   have f0 := hf 0 _ rfl
   have f1 := hf 1 _ rfl
   simp [c_int, c_str] at f0 f1
   obtain ⟨a, e0, _⟩ := DataW.trod_string Tryz.underlying9 f0
   obtain ⟨b, e1, _⟩ := DataW.trod_int Tryz.underlying3 f1
   simp at e0 e1
   exact ⟨⟨a.data.toList, b⟩, by rw [e0, e1]; simp [encTo], trivial⟩
theorem down_line {n : Nat} {cs : List Value} {y : DataW H × List MemPlace} (h : DataW.trod enc Tryz.prog w base spare held n 28 cs = some y) (hb : uptoBulk y.1 ≤ 1048576) :
   ∃ (l : LnC) (s : LnS), cs = (cellsLn l).toList ∧ LnIn w l s := by
 obtain ⟨xs, n', _, rfl, hl, hlen, hf⟩ := DataW.trod_struct Tryz.underlying28 h
 rw [c_ln] at hl
 match xs, hlen, cs, hl, hb with
 | [y0, y1, y2, y3, y4, y5], _, [c0, c1, c2, c3, c4, c5], _, hb =>
   simp only [List.map_cons, List.map_nil, uptoBulk, uptoBulkAll] at hb
   have f0 := hf 0 _ rfl
   have f1 := hf 1 _ rfl
   have f2 := hf 2 _ rfl
   have f3 := hf 3 _ rfl
   have f4 := hf 4 _ rfl
   have f5 := hf 5 _ rfl
   simp [c_int, c_sstr, c_sto, c_bool] at f0 f1 f2 f3 f4 f5
   obtain ⟨a0, e0, _⟩ := DataW.trod_int Tryz.underlying3 f0
   obtain ⟨s1, l1, e1, r1, b1, _⟩ := down_slice (hc := cInsStr) (N := 1048576) (by decide) Tryz.underlying25 c_str rd_str f1 (by omega)
   obtain ⟨a2, e2, _⟩ := DataW.trod_int Tryz.underlying3 f2
   obtain ⟨s3, l3, e3, r3, b3, _⟩ := down_slice (hc := cInsTo) (N := 1048576) (by decide) Tryz.underlying26 c_to rd_to f3 (by omega)
   obtain ⟨a4, e4⟩ := rd_bool f4
   obtain ⟨a5, e5, _⟩ := DataW.trod_int Tryz.underlying3 f5
   simp at e0 e1 e2 e3 e4 e5
   exact ⟨⟨a0, s1.a, s1.n, s1.c, a2, s3.a, s3.n, s3.c, a4, a5⟩, ⟨a0, l1, a2, l3, a4, a5⟩, by rw [e0, e1, e2, e3, e4, e5], ⟨rfl, rfl, rfl, rfl⟩, r1, r3⟩
end
end Yd


namespace Yd
open Go Go.RowKit Go.Proofs Go.Lib
open Go.Proofs.YthdpangjphphjaaGreatDoor

theorem first_eq : Rows.laid_unicode_utf8_first = firstData := by kernel_rfl
theorem accept_eq : (Rows.laid_unicode_utf8_acceptRanges : DataW Unit) = acceptData := by kernel_rfl
theorem u8x : U8Extra Tryz.prog Tryz.lays260_ren := ⟨by kernel_rfl, by kernel_rfl, by kernel_rfl, by kernel_rfl, by kernel_rfl, by kernel_rfl, by kernel_rfl⟩
section
variable {W : World}
theorem str_at {n fuel : Nat} {t : TypeId} {cs : List Value} {ds : List (DataW Unit)} {p : List MemPlace} (ht : Tryz.prog.underlying t = some (.array n 9)) (h : DataW.trod (fun _ => ()) Tryz.prog W 0 (fun _ => true) false fuel t cs = some (.agg ds, p))
   (i : Nat) (hi : i < n) {b : Bs} (hd : ds[i]? = some (.lit (.string b))) : cs[i]? = some (.string ⟨b.toArray⟩) := by
 obtain ⟨f', d, q, h1, h2⟩ := array_elem ht h i hi
 rw [hd] at h1
 injection h1 with h1
 subst h1
 rw [show Tryz.prog.cellsOf 9 = 1 from c_str] at h2
 obtain ⟨s, e1, e2, _⟩ := DataW.trod_string Tryz.underlying9 h2
 simp only [Prod.mk.injEq, DataW.lit.injEq, Lit.string.injEq] at e2
 have e3 := congrArg (·[0]?) e1
 simp only [List.getElem?_take, List.getElem?_drop] at e3
 have : s = ⟨b.toArray⟩ := by
   obtain ⟨⟨l⟩⟩ := s
   simp at e2
   rw [e2.1]
 rw [← this]
 simpa using e3
theorem c_i32 : Tryz.prog.cellsOf 21 = 1 := by kernel_rfl
theorem c_form : Tryz.prog.cellsOf 76 = 3 := by kernel_rfl
theorem form_at {fuel : Nat} {cs : List Value} {ds : List (DataW Unit)} {p : List MemPlace} (h : DataW.trod (fun _ => ()) Tryz.prog W 0 (fun _ => true) false fuel 77 cs = some (.agg ds, p))
   (k : Nat) (hk : k < 10) {b : Bs} {n r : Int} (hd : ds[k]? = some (.agg [.lit (.string b), .lit (.int .i64 n), .lit (.int .i32 r)])) :
   cs[3 * k]? = some (.string ⟨b.toArray⟩) ∧ cs[3 * k + 1]? = some (.int .i64 n) ∧ cs[3 * k + 2]? = some (.int .i32 r) := by
 obtain ⟨f', d, q, h1, h2⟩ := array_elem Tryz.underlying77 h k hk
 rw [hd] at h1
 injection h1 with h1
 subst h1
 rw [c_form] at h2
 obtain ⟨xs, n', _, e, hl, hlen, hf⟩ := DataW.trod_struct Tryz.underlying76 h2
 rw [c_form] at hl
 obtain ⟨cs', hcs⟩ : ∃ cs', cs' = (cs.drop (k * 3)).take 3 := ⟨_, rfl⟩
 rw [← hcs] at hl hf
 have g0 : cs[3 * k]? = cs'[0]? := by rw [hcs]; simp [List.getElem?_drop, Nat.mul_comm]
 have g1 : cs[3 * k + 1]? = cs'[1]? := by rw [hcs]; simp [List.getElem?_drop, Nat.mul_comm]
 have g2 : cs[3 * k + 2]? = cs'[2]? := by rw [hcs]; simp [List.getElem?_drop, Nat.mul_comm]
 rw [g0, g1, g2]
 clear g0 g1 g2 hcs
 match xs, hlen, cs', hl, e with
 | [y0, y1, y2], _, [c0, c1, c2], _, e =>
   simp only [List.map_cons, List.map_nil, Prod.mk.injEq, DataW.agg.injEq, List.cons.injEq, and_true] at e
   have f0 := hf 0 _ rfl
   have f1 := hf 1 _ rfl
   have f2 := hf 2 _ rfl
   simp [c_int, c_str, c_i32] at f0 f1 f2
   obtain ⟨s, e0, q0, _⟩ := DataW.trod_string Tryz.underlying9 f0
   obtain ⟨a, e1, q1, _⟩ := DataW.trod_int Tryz.underlying3 f1
   obtain ⟨a2, e2, q2, _⟩ := DataW.trod_int Tryz.underlying21 f2
   rw [q0, q1, q2] at e
   simp only [DataW.lit.injEq, Lit.string.injEq, Lit.int.injEq, true_and] at e
   have : s = ⟨b.toArray⟩ := by
     obtain ⟨⟨l⟩⟩ := s
     simp at e
     rw [e.1.1]
   simp at e0 e1 e2
   rw [e0, e1, e2, e.1.2.1, e.1.2.2, this]
   exact ⟨rfl, rfl, rfl⟩
theorem reads_at {name : String} {d : DataW Unit} {g : Nat} {t : TypeId} (h : VarReads Tryz.prog W name d) (hg : Tryz.prog.globalNamed name = some g) (hy : (Tryz.prog.globals[g]?).map (·.type) = some t) :
   ∃ cs : Array Value, ∃ fuel p, DataW.trod (fun _ => ()) Tryz.prog W 0 (fun _ => true) false fuel t cs.toList = some (d, p) ∧ ∀ i, W.cell? ⟨g, i, none⟩ = cs.toList[i]? := by
 obtain ⟨g', t', cs, fuel, p, hg', hy', hv, hd⟩ := h
 obtain rfl := Option.some.inj (hg.symm.trans hg')
 obtain rfl := Option.some.inj (hy.symm.trans hy')
 exact ⟨cs, fuel, p, hd, fun i => by rw [Array.getElem?_toList]; exact World.var?_cell hg hv i⟩
end
end Yd


namespace Yd
open Go Go.RowKit Go.Proofs Go.Lib
open Go.Proofs.YthdpangjphphjaaGreatDoor

section
variable {W : World}
theorem iface_at {fuel : Nat} {ms : Array (String × TypeId)} {t : TypeId} {cs : List Value} {y : DataW Unit × List MemPlace} (ht : Tryz.prog.underlying t = some (.interface ms)) (h : DataW.trod (fun _ => ()) Tryz.prog W 0 (fun _ => true) false fuel t cs = some y) :
   ∃ ev, cs = [ev] ∧ (ev = .nilIface ∨ ∃ te pe, ev = .iface te pe) := by
 cases fuel with
 | zero => simp [DataW.trod] at h
 | succ fuel =>
   simp only [DataW.trod, ht] at h
   split at h <;> first | exact ⟨_, rfl, .inl rfl⟩ | exact ⟨_, rfl, .inr ⟨_, _, rfl⟩⟩ | (rename_i heq; cases heq; done) | (cases h; done) | (rename_i heq; simp at heq; done) | skip
theorem globE_of (h : VarReads Tryz.prog W "strconv.ErrRange" (Rows.laid_strconv_ErrRange : DataW Unit)) : GlobE W := by
 obtain ⟨c, _, _, t, a⟩ := reads_at (g := 7) (t := 104) h (by kernel_rfl) (by kernel_rfl)
 obtain ⟨ev, h1, h2⟩ := iface_at Tryz.underlying104 t
 exact ⟨ev, by rw [a, h1]; rfl, h2⟩
theorem globL_of (hu1 : VarReads Tryz.prog W "unicode/utf8.first" Rows.laid_unicode_utf8_first) (hu2 : VarReads Tryz.prog W "unicode/utf8.acceptRanges" Rows.laid_unicode_utf8_acceptRanges)
   (hf : VarReads Tryz.prog W "yardarm/line.forms" Rows.laid_yardarm_line_forms) (hgd : VarReads Tryz.prog W "yardarm/line.guards" Rows.laid_yardarm_line_guards) (hlv : VarReads Tryz.prog W "yardarm/level.texts" Rows.laid_yardarm_level_texts) : GlobL W := by
 have hu := utf8Tabs_of_reads Tryz.lays260 u8x (first_eq ▸ hu1) (accept_eq ▸ hu2)
 obtain ⟨c2, _, _, t2, a2⟩ := reads_at (g := 0) (t := 77) hf (by kernel_rfl) (by kernel_rfl)
 obtain ⟨c3, _, _, t3, a3⟩ := reads_at (g := 1) (t := 80) hgd (by kernel_rfl) (by kernel_rfl)
 obtain ⟨c4, _, _, t4, a4⟩ := reads_at (g := 4) (t := 131) hlv (by kernel_rfl) (by kernel_rfl)
 refine ⟨⟨hu, trivial⟩, fun k hk => ?_, fun i hi => ?_, fun i hi => ?_⟩
 · rw [a2, a2, a2]
   exact form_at t2 k hk (by match k, hk with | 0, _ => rfl | 1, _ => rfl | 2, _ => rfl | 3, _ => rfl | 4, _ => rfl | 5, _ => rfl | 6, _ => rfl | 7, _ => rfl | 8, _ => rfl | 9, _ => rfl)
 · rw [a3]
   exact str_at Tryz.underlying80 t3 i hi (by match i, hi with | 0, _ => rfl | 1, _ => rfl | 2, _ => rfl | 3, _ => rfl)
 · rw [a4]
   exact str_at Tryz.underlying131 t4 i hi (by match i, hi with | 0, _ => rfl | 1, _ => rfl | 2, _ => rfl | 3, _ => rfl | 4, _ => rfl)
end
def cellsD : Nat → DataW Unit → List Value
 | _, .lit (.int k i) => [.int k i]
 | _, .lit (.string b) => [.string ⟨b.toArray⟩]
 | f + 1, .agg l => l.flatMap (cellsD f)
 | _, _ => []
def layIn (cs : Array Value) : Obj → Obj
 | .cells _ t frozen => .cells cs t frozen
 | o => o
noncomputable def low12 : Nat := (World.holding Tryz.prog default ⟨#[], #[], []⟩).heap.size
noncomputable def world12 (os : Os) : World :=
 let w0 := World.holding Tryz.prog os ⟨#[.cells #[.string ⟨#[118, 97, 108, 117, 101, 32, 111, 117, 116, 32, 111, 102, 32, 114, 97, 110, 103, 101]⟩] 180, .cells #[.string ⟨#[105, 110, 118, 97, 108, 105, 100, 32, 115, 121, 110, 116, 97, 120]⟩] 180], #[], []⟩
 { w0 with heap := (((((((((w0.heap.modify 2 (layIn ((Lib.firstTab.map (fun z => Value.int .u8 z)).toArray))).modify 3 (layIn (((List.range 16).flatMap (fun i => [Value.int .u8 (Lib.accLo i : Int), Value.int .u8 (Lib.accHi i : Int)])).toArray))).modify
     0 (layIn (((List.range 10).flatMap (fun k => [Value.string ⟨(formV k).toArray⟩, Value.int .i64 (formN k), Value.int .i32 (formR k)])).toArray))).modify
     1 (layIn (((List.range 4).map (fun i => Value.string ⟨(guardT i).toArray⟩)).toArray))).modify 4 (layIn (((List.range 5).map (fun i => Value.string ⟨(levelT i).toArray⟩)).toArray))).modify
     9 (layIn (cellsD 2 Rows.laid_math_bits_deBruijn32tab).toArray)).modify 10 (layIn (cellsD 2 Rows.laid_math_bits_deBruijn64tab).toArray)).modify
     8 (layIn (cellsD 2 Rows.laid_internal_strconv_uint64pow10).toArray)).modify 7 (layIn #[.iface 178 (.pointer (some ⟨low12, 0, none⟩))])).modify 6 (layIn #[.iface 178 (.pointer (some ⟨low12 + 1, 0, none⟩))]) }
end Yd
