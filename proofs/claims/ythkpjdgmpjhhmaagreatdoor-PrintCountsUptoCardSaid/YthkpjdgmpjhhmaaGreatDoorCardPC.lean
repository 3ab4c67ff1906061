/- PrintCounts returns true for every history, and leaves its argument as it was, where the argument is of bulk at most 1048576 and the package's own tables hold what its text lays (tied). -/
import Derived.Test.YthkpjdgmpjhhmaaGreatDoorLawLaid
import Derived.Test.YthkpjdgmpjhhmaaGreatDoorRefG
import Derived.OpenShut
import Derived.Test.YthkpjdgmpjhhmaaGreatDoorProg
namespace Go.Proofs.YthkpjdgmpjhhmaaGreatDoor
open Go Go.ChangeShapes Go.WideShapes Go.ChangeAt Go.RowKit Yd

theorem pc_own : ownKnob Tryz.prog.godebug = none := by kernel_rfl
theorem pc_laidOut : laidOutB Tryz.prog = true := by kernel_rfl
theorem bulk_of {H : Type} {l : List (DataW H)} (hk : Rows.uptoSmall H l = true) : Rows.uptoBulkAll l ≤ 1048576 := of_decide_eq_true hk
set_option maxRecDepth 100000 in
/-- WHAT THE WALK GIVES, FOR EVERY ARGUMENT AND EVERY WORLD THAT HOLDS THE TABLES. -/
theorem pc_contract (H : Type) (enc : TypeId × Value → H) (W : World) (base : Nat) (args : Array Value) (ds gs : List (DataW H)) (before : List MemPlace)
    (hval : ∀ (j : Nat) t v, Tryz.f5.params[j]? = some t → args[j]? = some v → Value.okWide Tryz.prog W .any base t v)
    (hW : DataW.Whole enc Tryz.prog Tryz.f5.params.toList Rows.printCountsSpec.vars false W args.toList ds gs before) (hk : Rows.uptoSmall H (ds ++ gs) = true) (hL : laidMetH Tryz.prog Rows.printCountsUptoRow.laid W) :
    Calls Tryz.prog 5 args W fun e W' => ∃ v, e = .returned v ∧ Rows.printCountsSpec.post enc Tryz.prog Tryz.f5 false true false false W args v W' := by
  have hW' := hW
  have hlt := hW.lt
  obtain ⟨p, q, hA0, hV, rfl, hfz, hnd⟩ := hW
  have hA : DataW.TrodAll enc Tryz.prog W 0 (fun _ => true) true Tryz.f5.params.toList args.toList ds p := hA0
  rw [Tryz.params5] at hA hval
  obtain ⟨v0, d0, rfl, rfl, h0⟩ := trodAll_one hA
  obtain ⟨rfl, rfl⟩ := trodVars_none hV
  obtain ⟨cs, rfl, hsz⟩ := okWide_struct Tryz.underlying28 (hval 0 28 v0 rfl rfl)
  clear hA0
  simp only [List.append_nil] at hW' hk hlt
  have hb := bulk_of hk
  simp only [Rows.uptoBulkAll, Nat.add_zero] at hb
  obtain ⟨fuel, hf⟩ := id h0
  obtain ⟨hh, nl, es, dd, ms, qs, scan, dn, mn, hcs, hn, hd, hB⟩ := down_hist (y := (d0, p)) hf hb
  have hcs' : cs = cellsH hh := by
    have : (Value.agg cs).cells = cs := rfl
    rw [this] at hcs
    exact Array.toList_inj.1 hcs
  have hg := globL_of_laid hL
  subst hcs'
  have HC : Calls Tryz.prog 5 #[Value.agg (cellsH hh)] W (Ret (.bool true) W) := law_counts hh nl es dd ms qs scan dn mn W hg hn hd hB wakes_yes
  refine HC.mono ?_
  rintro e W' ⟨rfl, hbW⟩
  refine ⟨_, rfl, [d0], [], p, [], p, [], hW', trodAll_mk1 (shut_bool Tryz.underlying4 _), ?_, rfl, hbW.frame _, fun h => by cases h⟩
  exact trodAll_mk1 (Below.trod pc_laidOut (by kernel_rfl) (of_decide_eq_true (by kernel_rfl)) h0 hbW (fun x hx => hlt x (by simpa using hx)))

/-- A WORLD FOR THE WITNESS: the settled one, the tables holding what their initialisers lay. -/
def layIn (cs : Array Value) : Obj → Obj
  | .cells _ t frozen => .cells cs t frozen
  | o => o
noncomputable def pcWorld (os : Os) : World :=
  { World.holding Tryz.prog os ⟨#[], #[], []⟩ with heap := ((((((World.holding Tryz.prog os ⟨#[], #[], []⟩).heap.modify 5 (layIn ((Lib.firstTab.map (fun z => Value.int .u8 z)).toArray))).modify 6 (layIn (((List.range 16).flatMap (fun i => [Value.int .u8 (Lib.accLo i : Int), Value.int .u8 (Lib.accHi i : Int)])).toArray))).modify
      3 (layIn #[.int .i64 300, .int .i64 60, .int .i64 300, .int .i64 60])).modify 0 (layIn (((List.range 10).flatMap (fun k => [Value.string ⟨(formV k).toArray⟩, Value.int .i64 (formN k), Value.int .i32 (formR k)])).toArray))).modify
      1 (layIn (((List.range 4).map (fun i => Value.string ⟨(guardT i).toArray⟩)).toArray))).modify 2 (layIn (((List.range 5).map (fun i => Value.string ⟨(levelT i).toArray⟩)).toArray)) }
def pcArg : Value := .agg #[.slice none 0 0, .slice none 0 0, .slice none 0 0, .slice none 0 0, .slice none 0 0, .slice none 0 0, .slice none 0 0, .slice none 0 0]
set_option maxRecDepth 100000 in
theorem pc_met (os : Os) : laidMet Tryz.prog Rows.printCountsUptoRow.laid ((pcWorld os).forCall (fun _ _ => 0) ⟨#[], #[pcArg], []⟩).memory :=
  laidMet_of_run' 8 (by kernel_rfl) (by kernel_rfl)
theorem pc_reads (os : Os) {H : Type} (enc : TypeId × Value → H) : ∃ places, DataW.whole enc Tryz.prog ((pcWorld os).forCall (fun _ _ => 0) ⟨#[], #[pcArg], []⟩).memory Tryz.f5.params.toList Rows.printCountsSpec.vars false #[pcArg].toList 8 = some ([.agg [.nil, .nil, .nil, .nil, .nil, .nil, .nil, .nil]], [], places) :=
  ⟨[], by kernel_rfl⟩
set_option maxRecDepth 100000 in
theorem pc_lifted (os : Os) (started : os.Started) (H : Type) (enc : TypeId × Value → H) (F : Stop.Interp) :
    ReturnsInHanded {} Tryz.checked os 5 .any ((Rows.OpenSpec.upto Rows.printCountsSpec).preRow enc Tryz.prog Tryz.f5 Rows.printCountsUptoRow.domain false Rows.printCountsUptoRow.laid) (((Rows.OpenSpec.upto Rows.printCountsSpec).at F).post enc Tryz.prog Tryz.f5 false true false false) := by
  obtain ⟨places, hx⟩ := pc_reads os enc
  refine returnsInHanded_of_row (C := Tryz.checked) (s := Rows.OpenSpec.upto Rows.printCountsSpec) pc_own started (by kernel_rfl) Tryz.func5
    (witness_row_at (enc := enc) (C := Tryz.checked) false (pcWorld os) #[pcArg] rfl (by kernel_rfl) (by kernel_rfl) (by kernel_rfl)
      (OpenSpec.preRow_of_cond 8 hx (by kernel_rfl) (fun k hk => by cases hk; kernel_rfl) (by kernel_rfl) (pc_met os))) ?_
  intro W base args ds gs before hval hW _ hcond _ hL _ _
  exact pc_contract H enc W base args ds gs before hval hW (hcond _ rfl) hL
theorem pc_said : Rows.PrintCountsUptoSaid :=
  OpenClaim.holds_of_cond 5 Tryz.f5 rfl rfl rfl rfl rfl rfl rfl ⟨rfl, rfl, rfl, rfl, rfl⟩ rfl rfl rfl rfl rfl (by kernel_rfl) Tryz.func5 (by kernel_rfl)
    (of_decide_eq_true (by kernel_rfl)) (by unfold Func.isWrapper; first | (rw [if_pos (by decide +kernel)]; kernel_rfl) | (rw [if_neg (by decide +kernel)]; exact ⟨rfl, rfl⟩))
    (fun os started H enc _ F => by rw [OpenClaim.pre_eq_preRow]; exact pc_lifted os started H enc F)
theorem pc_plain (f : FuncId) (fn : Func) (hf : Tryz.pinned.checked.prog.funcNamed "yardarm/yardarmlaw14.PrintCounts" = some f) (hfn : Tryz.pinned.checked.prog.funcs[f]? = some fn) :
    false = Tryz.pinned.checked.prog.looks [] ∧ ∀ (j : Nat) t, fn.params[j]? = some t → Tryz.pinned.checked.prog.wantsStandIn t = false := by
  obtain rfl : f = 5 := Option.some.inj ((show Tryz.prog.funcNamed "yardarm/yardarmlaw14.PrintCounts" = some 5 by kernel_rfl).symm.trans hf) |>.symm
  obtain rfl : fn = Tryz.f5 := (Option.some.inj (Tryz.func5.symm.trans hfn)).symm
  refine ⟨by kernel_rfl, fun j t ht => ?_⟩
  rw [Tryz.params5] at ht
  obtain rfl : t = 28 := by simpa using Array.mem_of_getElem? ht
  exact (show Tryz.prog.wantsStandIn 28 = false by kernel_rfl)
/-- THE SECOND FORM's CARD. -/
theorem print_counts : Rows.PrintCountsUptoCardSaid :=
  Claim7.holds_tied_plain_at .later [] _ _ _ _ pc_said (fun _ h => by cases h) (by kernel_rfl) (fun _ h => by cases h) printCountsUpto_row_tie rfl ⟨rfl, rfl⟩ (by kernel_rfl) rfl pc_plain (by kernel_rfl)
#print axioms print_counts
end Go.Proofs.YthkpjdgmpjhhmaaGreatDoor
