/- PrintTells returns true for every history, and leaves its argument as it was, where the argument is of bulk at most 1048576 and the package's own tables hold what its text lays (tied). -/
import Derived.Test.YthkpjdgmpjhhmaaGreatDoorLawLaid
import Derived.Test.YthkpjdgmpjhhmaaGreatDoorLawTells
import Derived.OpenShut
import Derived.Test.YthkpjdgmpjhhmaaGreatDoorProg
set_option maxRecDepth 200000
set_option maxHeartbeats 8000000
namespace Go.Proofs.YthkpjdgmpjhhmaaGreatDoor
open Go Go.ChangeShapes Go.WideShapes Go.ChangeAt Go.RowKit Yd

theorem pt_own : ownKnob Tryz.prog.godebug = none := by kernel_rfl
theorem pt_laidOut : laidOutB Tryz.prog = true := by kernel_rfl
theorem bulk_of {H : Type} {l : List (DataW H)} (hk : Rows.uptoSmall H l = true) : Rows.uptoBulkAll l ≤ 1048576 := of_decide_eq_true hk
theorem pt_contract (H : Type) (enc : TypeId × Value → H) (W : World) (base : Nat) (args : Array Value) (ds gs : List (DataW H)) (before : List MemPlace)
   (hval : ∀ (j : Nat) t v, Tryz.f4.params[j]? = some t → args[j]? = some v → Value.okWide Tryz.prog W .any base t v)
   (hW : DataW.Whole enc Tryz.prog Tryz.f4.params.toList Rows.printTellsSpec.vars false W args.toList ds gs before) (hk : Rows.uptoSmall H (ds ++ gs) = true) (hL : laidMetH Tryz.prog Rows.printTellsUptoRow.laid W) :
   Calls Tryz.prog 4 args W fun e W' => ∃ v, e = .returned v ∧ Rows.printTellsSpec.post enc Tryz.prog Tryz.f4 false true false false W args v W' := by
 have hW' := hW
 have hlt := hW.lt
 obtain ⟨p, q, hA0, hV, rfl, hfz, hnd⟩ := hW
 have hA : DataW.TrodAll enc Tryz.prog W 0 (fun _ => true) true Tryz.f4.params.toList args.toList ds p := hA0
 rw [Tryz.params4] at hA hval
 obtain ⟨v0, d0, rfl, rfl, h0⟩ := trodAll_one hA
 obtain ⟨rfl, rfl⟩ := trodVars_none hV
 obtain ⟨cs, rfl, hsz⟩ := okWide_struct Tryz.underlying28 (hval 0 28 v0 rfl rfl)
 clear hA0
 simp only [List.append_nil] at hW' hk hlt
 have hb := bulk_of hk
 simp only [Rows.uptoBulkAll, Nat.add_zero] at hb
 obtain ⟨fuel, hf⟩ := id h0
 obtain ⟨hh, nl, es, dd, ms, qs, scan, dn, mn, hcs, hn, hd, hB⟩ := down_hist (y := (d0, p)) hf hb
 have hcs' : cs = cellsH hh := by
   have : (Value.agg cs).cells = cs := rfl
   rw [this] at hcs
   exact Array.toList_inj.1 hcs
 have hg := globL_of_laid hL
 subst hcs'
 have HC : Calls Tryz.prog 4 #[Value.agg (cellsH hh)] W (Ret (.bool true) W) := law_tells hh nl es dd ms qs scan dn mn W hg hn hd hB wakes_yes
 refine HC.mono ?_
 rintro e W' ⟨rfl, hbW⟩
 refine ⟨_, rfl, [d0], [], p, [], p, [], hW', trodAll_mk1 (shut_bool Tryz.underlying4 _), ?_, rfl, hbW.frame _, fun h => by cases h⟩
 exact trodAll_mk1 (Below.trod pt_laidOut (by kernel_rfl) (of_decide_eq_true (by kernel_rfl)) h0 hbW (fun x hx => hlt x (by simpa using hx)))

def layIn (cs : Array Value) : Obj → Obj
 | .cells _ t frozen => .cells cs t frozen
 | o => o
noncomputable def ptWorld (os : Os) : World :=
 { World.holding Tryz.prog os ⟨#[], #[], []⟩ with heap := ((((((World.holding Tryz.prog os ⟨#[], #[], []⟩).heap.modify 5 (layIn ((Lib.firstTab.map (fun z => Value.int .u8 z)).toArray))).modify 6 (layIn (((List.range 16).flatMap (fun i => [Value.int .u8 (Lib.accLo i : Int), Value.int .u8 (Lib.accHi i : Int)])).toArray))).modify
     3 (layIn #[.int .i64 300, .int .i64 60, .int .i64 300, .int .i64 60])).modify 0 (layIn (((List.range 10).flatMap (fun k => [Value.string ⟨(formV k).toArray⟩, Value.int .i64 (formN k), Value.int .i32 (formR k)])).toArray))).modify
     1 (layIn (((List.range 4).map (fun i => Value.string ⟨(guardT i).toArray⟩)).toArray))).modify 2 (layIn (((List.range 5).map (fun i => Value.string ⟨(levelT i).toArray⟩)).toArray)) }
def ptArg : Value := .agg #[.slice none 0 0, .slice none 0 0, .slice none 0 0, .slice none 0 0, .slice none 0 0, .slice none 0 0, .slice none 0 0, .slice none 0 0]
theorem pt_met (os : Os) : laidMet Tryz.prog Rows.printTellsUptoRow.laid ((ptWorld os).forCall (fun _ _ => 0) ⟨#[], #[ptArg], []⟩).memory :=
 laidMet_of_run' 8 (by kernel_rfl) (by kernel_rfl)
theorem pt_reads (os : Os) {H : Type} (enc : TypeId × Value → H) : ∃ places, DataW.whole enc Tryz.prog ((ptWorld os).forCall (fun _ _ => 0) ⟨#[], #[ptArg], []⟩).memory Tryz.f4.params.toList Rows.printTellsSpec.vars false #[ptArg].toList 8 = some ([.agg [.nil, .nil, .nil, .nil, .nil, .nil, .nil, .nil]], [], places) :=
 ⟨[], by kernel_rfl⟩
theorem pt_lifted (os : Os) (started : os.Started) (H : Type) (enc : TypeId × Value → H) (F : Stop.Interp) :
   ReturnsInHanded {} Tryz.checked os 4 .any ((Rows.OpenSpec.upto Rows.printTellsSpec).preRow enc Tryz.prog Tryz.f4 Rows.printTellsUptoRow.domain false Rows.printTellsUptoRow.laid) (((Rows.OpenSpec.upto Rows.printTellsSpec).at F).post enc Tryz.prog Tryz.f4 false true false false) := by
 obtain ⟨places, hx⟩ := pt_reads os enc
 refine returnsInHanded_of_row (C := Tryz.checked) (s := Rows.OpenSpec.upto Rows.printTellsSpec) pt_own started (by kernel_rfl) Tryz.func4
   (witness_row_at (enc := enc) (C := Tryz.checked) false (ptWorld os) #[ptArg] rfl (by kernel_rfl) (by kernel_rfl) (by kernel_rfl)
     (OpenSpec.preRow_of_cond 8 hx (by kernel_rfl) (fun k hk => by cases hk; kernel_rfl) (by kernel_rfl) (pt_met os))) ?_
 intro W base args ds gs before hval hW _ hcond _ hL _ _
 exact pt_contract H enc W base args ds gs before hval hW (hcond _ rfl) hL
theorem pt_said : Rows.PrintTellsUptoSaid :=
 OpenClaim.holds_of_cond 4 Tryz.f4 rfl rfl rfl rfl rfl rfl rfl ⟨rfl, rfl, rfl, rfl, rfl⟩ rfl rfl rfl rfl rfl (by kernel_rfl) Tryz.func4 (by kernel_rfl)
   (of_decide_eq_true (by kernel_rfl)) (by unfold Func.isWrapper; first | (rw [if_pos (by decide +kernel)]; kernel_rfl) | (rw [if_neg (by decide +kernel)]; exact ⟨rfl, rfl⟩))
   (fun os started H enc _ F => by rw [OpenClaim.pre_eq_preRow]; exact pt_lifted os started H enc F)
theorem pt_plain (f : FuncId) (fn : Func) (hf : Tryz.pinned.checked.prog.funcNamed "yardarm/yardarmlaw14.PrintTells" = some f) (hfn : Tryz.pinned.checked.prog.funcs[f]? = some fn) :
   false = Tryz.pinned.checked.prog.looks [] ∧ ∀ (j : Nat) t, fn.params[j]? = some t → Tryz.pinned.checked.prog.wantsStandIn t = false := by
 obtain rfl : f = 4 := Option.some.inj ((show Tryz.prog.funcNamed "yardarm/yardarmlaw14.PrintTells" = some 4 by kernel_rfl).symm.trans hf) |>.symm
 obtain rfl : fn = Tryz.f4 := (Option.some.inj (Tryz.func4.symm.trans hfn)).symm
 refine ⟨by kernel_rfl, fun j t ht => ?_⟩
 rw [Tryz.params4] at ht
 obtain rfl : t = 28 := by simpa using Array.mem_of_getElem? ht
 exact (show Tryz.prog.wantsStandIn 28 = false by kernel_rfl)
theorem print_tells : Rows.PrintTellsUptoCardSaid :=
 Claim7.holds_tied_plain_at .later [] _ _ _ _ pt_said (fun _ h => by cases h) (by kernel_rfl) (fun _ h => by cases h) printTellsUpto_row_tie rfl ⟨rfl, rfl⟩ (by kernel_rfl) rfl pt_plain (by kernel_rfl)
#print axioms print_tells
end Go.Proofs.YthkpjdgmpjhhmaaGreatDoor
