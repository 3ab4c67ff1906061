import Derived.Test.YthkpjdgmpjhhmaaGreatDoorSmallW
import Derived.Test.YthkpjdgmpjhhmaaGreatDoorDown
import Derived.Test.YthkpjdgmpjhhmaaGreatDoorCards
import Derived.Test.YthkpjdgmpjhhmaaGreatDoorTie
import Derived.WalkKit
import Derived.Deep.DeepHandedRow
import Derived.Lib.LaidU8
import Derived.LaidMore
import Derived.Test.YthkpjdgmpjhhmaaGreatDoorProg
set_option maxRecDepth 200000
set_option maxHeartbeats 8000000
namespace Yd
open Go Go.RowKit Go.Proofs Go.Lib
open Go.Proofs.YthkpjdgmpjhhmaaGreatDoor

theorem first_eq : Rows.laid_unicode_utf8_first = firstData := by kernel_rfl
theorem accept_eq : (Rows.laid_unicode_utf8_acceptRanges : DataW Unit) = acceptData := by kernel_rfl
theorem u8x : U8Extra Tryz.prog Tryz.lays260_ren := ⟨by kernel_rfl, by kernel_rfl, by kernel_rfl, by kernel_rfl, by kernel_rfl, by kernel_rfl, by kernel_rfl⟩
section
variable {W : World}
theorem str_at {n fuel : Nat} {t : TypeId} {cs : List Value} {ds : List (DataW Unit)} {p : List MemPlace} (ht : Tryz.prog.underlying t = some (.array n 9)) (h : DataW.trod (fun _ => ()) Tryz.prog W 0 (fun _ => true) false fuel t cs = some (.agg ds, p))
   (i : Nat) (hi : i < n) {b : Bs} (hd : ds[i]? = some (.lit (.string b))) : cs[i]? = some (.string ⟨b.toArray⟩) := by
 obtain ⟨f', d, q, h1, h2⟩ := array_elem ht h i hi
 rw [hd] at h1
 injection h1 with h1
 subst h1
 rw [show Tryz.prog.cellsOf 9 = 1 from c_str] at h2
 obtain ⟨s, e1, e2, _⟩ := DataW.trod_string Tryz.underlying9 h2
 simp only [Prod.mk.injEq, DataW.lit.injEq, Lit.string.injEq] at e2
 have e3 := congrArg (·[0]?) e1
 simp only [List.getElem?_take, List.getElem?_drop] at e3
 have : s = ⟨b.toArray⟩ := by
   obtain ⟨⟨l⟩⟩ := s
   simp at e2
   rw [e2.1]
 rw [← this]
 simpa using e3
theorem int_at {n fuel : Nat} {t : TypeId} {cs : List Value} {ds : List (DataW Unit)} {p : List MemPlace} (ht : Tryz.prog.underlying t = some (.array n 3)) (h : DataW.trod (fun _ => ()) Tryz.prog W 0 (fun _ => true) false fuel t cs = some (.agg ds, p))
   (i : Nat) (hi : i < n) {b : Int} (hd : ds[i]? = some (.lit (.int .i64 b))) : cs[i]? = some (.int .i64 b) := by
 obtain ⟨f', d, q, h1, h2⟩ := array_elem ht h i hi
 rw [hd] at h1
 injection h1 with h1
 subst h1
 rw [show Tryz.prog.cellsOf 3 = 1 from c_int] at h2
 obtain ⟨s, e1, e2, _⟩ := DataW.trod_int Tryz.underlying3 h2
 simp only [Prod.mk.injEq, DataW.lit.injEq, Lit.int.injEq, true_and] at e2
 have e3 := congrArg (·[0]?) e1
 simp only [List.getElem?_take, List.getElem?_drop] at e3
 rw [e2.1]
 simpa using e3
theorem c_i32 : Tryz.prog.cellsOf 21 = 1 := by kernel_rfl
theorem c_form : Tryz.prog.cellsOf 93 = 3 := by kernel_rfl
theorem form_at {fuel : Nat} {cs : List Value} {ds : List (DataW Unit)} {p : List MemPlace} (h : DataW.trod (fun _ => ()) Tryz.prog W 0 (fun _ => true) false fuel 94 cs = some (.agg ds, p))
   (k : Nat) (hk : k < 10) {b : Bs} {n r : Int} (hd : ds[k]? = some (.agg [.lit (.string b), .lit (.int .i64 n), .lit (.int .i32 r)])) :
   cs[3 * k]? = some (.string ⟨b.toArray⟩) ∧ cs[3 * k + 1]? = some (.int .i64 n) ∧ cs[3 * k + 2]? = some (.int .i32 r) := by
 obtain ⟨f', d, q, h1, h2⟩ := array_elem Tryz.underlying94 h k hk
 rw [hd] at h1
 injection h1 with h1
 subst h1
 rw [c_form] at h2
 obtain ⟨xs, n', _, e, hl, hlen, hf⟩ := DataW.trod_struct Tryz.underlying93 h2
 rw [c_form] at hl
 obtain ⟨cs', hcs⟩ : ∃ cs', cs' = (cs.drop (k * 3)).take 3 := ⟨_, rfl⟩
 rw [← hcs] at hl hf
 have g0 : cs[3 * k]? = cs'[0]? := by rw [hcs]; simp [List.getElem?_drop, Nat.mul_comm]
 have g1 : cs[3 * k + 1]? = cs'[1]? := by rw [hcs]; simp [List.getElem?_drop, Nat.mul_comm]
 have g2 : cs[3 * k + 2]? = cs'[2]? := by rw [hcs]; simp [List.getElem?_drop, Nat.mul_comm]
 rw [g0, g1, g2]
 clear g0 g1 g2 hcs
 match xs, hlen, cs', hl, e with
 | [y0, y1, y2], _, [c0, c1, c2], _, e =>
   simp only [List.map_cons, List.map_nil, Prod.mk.injEq, DataW.agg.injEq, List.cons.injEq, and_true] at e
   have f0 := hf 0 _ rfl
   have f1 := hf 1 _ rfl
   have f2 := hf 2 _ rfl
   simp [c_int, c_str, c_i32] at f0 f1 f2
   obtain ⟨s, e0, q0, _⟩ := DataW.trod_string Tryz.underlying9 f0
   obtain ⟨a, e1, q1, _⟩ := DataW.trod_int Tryz.underlying3 f1
   obtain ⟨a2, e2, q2, _⟩ := DataW.trod_int Tryz.underlying21 f2
   rw [q0, q1, q2] at e
   simp only [DataW.lit.injEq, Lit.string.injEq, Lit.int.injEq, true_and] at e
   have : s = ⟨b.toArray⟩ := by
     obtain ⟨⟨l⟩⟩ := s
     simp at e
     rw [e.1.1]
   simp at e0 e1 e2
   rw [e0, e1, e2, e.1.2.1, e.1.2.2, this]
   exact ⟨rfl, rfl, rfl⟩
theorem reads_at {name : String} {d : DataW Unit} {g : Nat} {t : TypeId} (h : VarReads Tryz.prog W name d) (hg : Tryz.prog.globalNamed name = some g) (hy : (Tryz.prog.globals[g]?).map (·.type) = some t) :
   ∃ cs : Array Value, ∃ fuel p, DataW.trod (fun _ => ()) Tryz.prog W 0 (fun _ => true) false fuel t cs.toList = some (d, p) ∧ ∀ i, W.cell? ⟨g, i, none⟩ = cs.toList[i]? := by
 obtain ⟨g', t', cs, fuel, p, hg', hy', hv, hd⟩ := h
 obtain rfl := Option.some.inj (hg.symm.trans hg')
 obtain rfl := Option.some.inj (hy.symm.trans hy')
 exact ⟨cs, fuel, p, hd, fun i => by rw [Array.getElem?_toList]; exact World.var?_cell hg hv i⟩
theorem globL_of_laid (h0 : laidMetH Tryz.prog Rows.printLinesUptoRow.laid W) : GlobL W := by
 rw [MakeChecks.laidMetH_plain _ _ _ (by kernel_rfl)] at h0
 have hu := utf8Tabs_of_reads Tryz.lays260 u8x (first_eq ▸ laidMet.reads h0 (n := "unicode/utf8.first") (d := Rows.laid_unicode_utf8_first) (by simp [Rows.printLinesUptoRow])) (accept_eq ▸ laidMet.reads h0 (n := "unicode/utf8.acceptRanges") (d := Rows.laid_unicode_utf8_acceptRanges) (by simp [Rows.printLinesUptoRow]))
 obtain ⟨c1, _, _, t1, a1⟩ := reads_at (g := 3) (t := 110) (laidMet.reads h0 (n := "yardarm/history.limits") (d := Rows.laid_yardarm_history_limits) (by simp [Rows.printLinesUptoRow])) (by kernel_rfl) (by kernel_rfl)
 obtain ⟨c2, _, _, t2, a2⟩ := reads_at (g := 0) (t := 94) (laidMet.reads h0 (n := "yardarm/line.forms") (d := Rows.laid_yardarm_line_forms) (by simp [Rows.printLinesUptoRow])) (by kernel_rfl) (by kernel_rfl)
 obtain ⟨c3, _, _, t3, a3⟩ := reads_at (g := 1) (t := 99) (laidMet.reads h0 (n := "yardarm/line.guards") (d := Rows.laid_yardarm_line_guards) (by simp [Rows.printLinesUptoRow])) (by kernel_rfl) (by kernel_rfl)
 obtain ⟨c4, _, _, t4, a4⟩ := reads_at (g := 2) (t := 144) (laidMet.reads h0 (n := "yardarm/level.texts") (d := Rows.laid_yardarm_level_texts) (by simp [Rows.printLinesUptoRow])) (by kernel_rfl) (by kernel_rfl)
 refine ⟨⟨hu, fun i hi => ?_⟩, fun k hk => ?_, fun i hi => ?_, fun i hi => ?_⟩
 · rw [a1]
   exact int_at Tryz.underlying110 t1 i hi (by match i, hi with | 0, _ => rfl | 1, _ => rfl | 2, _ => rfl | 3, _ => rfl)
 · rw [a2, a2, a2]
   exact form_at t2 k hk (by match k, hk with | 0, _ => rfl | 1, _ => rfl | 2, _ => rfl | 3, _ => rfl | 4, _ => rfl | 5, _ => rfl | 6, _ => rfl | 7, _ => rfl | 8, _ => rfl | 9, _ => rfl)
 · rw [a3]
   exact str_at Tryz.underlying99 t3 i hi (by match i, hi with | 0, _ => rfl | 1, _ => rfl | 2, _ => rfl | 3, _ => rfl)
 · rw [a4]
   exact str_at Tryz.underlying144 t4 i hi (by match i, hi with | 0, _ => rfl | 1, _ => rfl | 2, _ => rfl | 3, _ => rfl | 4, _ => rfl)
end
end Yd
