/- LineBack returns true for every line, and text, and leaves its arguments as they were, where these are of bulk at most 1048576 and the package's own tables hold what its text lays (tied). -/
import Derived.Test.YthdpangjphphjaaGreatDoorLaid12
import Derived.Test.YthdpangjphphjaaGreatDoorOwnPut
import Derived.OpenShut
import Derived.Test.YthdpangjphphjaaGreatDoorProg
set_option maxRecDepth 200000
set_option maxHeartbeats 8000000
namespace Go.Proofs.YthdpangjphphjaaGreatDoor
open Go Go.ChangeShapes Go.WideShapes Go.ChangeAt Go.RowKit Yd

theorem lb_own : ownKnob Tryz.prog.godebug = none := by kernel_rfl
theorem lb_laidOut : laidOutB Tryz.prog = true := by kernel_rfl
theorem bulk_of {H : Type} {l : List (DataW H)} (hk : Rows.uptoSmall H l = true) : Rows.uptoBulkAll l ≤ 1048576 := of_decide_eq_true hk
theorem lb_contract (H : Type) (enc : TypeId × Value → H) (W : World) (base : Nat) (args : Array Value) (ds gs : List (DataW H)) (before : List MemPlace)
   (hval : ∀ (j : Nat) t v, Tryz.f6.params[j]? = some t → args[j]? = some v → Value.okWide Tryz.prog W .any base t v)
   (hW : DataW.Whole enc Tryz.prog Tryz.f6.params.toList Rows.lineBackSpec.vars false W args.toList ds gs before) (hk : Rows.uptoSmall H (ds ++ gs) = true) (hL : laidMetH Tryz.prog Rows.lineBackUptoRow.laid W) :
   Calls Tryz.prog 6 args W fun e W' => ∃ v, e = .returned v ∧ Rows.lineBackSpec.post enc Tryz.prog Tryz.f6 false true false false W args v W' := by
 have hW' := hW
 have hlt := hW.lt
 obtain ⟨p, q, hA0, hV, rfl, hfz, hnd⟩ := hW
 have hA : DataW.TrodAll enc Tryz.prog W 0 (fun _ => true) true Tryz.f6.params.toList args.toList ds p := hA0
 rw [Tryz.params6] at hA hval
 obtain ⟨v0, v1, d0, d1, p0, p1, rfl, rfl, rfl, h0, h1⟩ := trodAll_two hA
 obtain ⟨rfl, rfl⟩ := trodVars_none hV
 obtain ⟨cs, rfl, hsz⟩ := okWide_struct Tryz.underlying28 (hval 0 28 v0 rfl rfl)
 obtain ⟨sb, rfl⟩ := okWide_string Tryz.underlying9 (hval 1 9 v1 rfl rfl)
 clear hA0
 simp only [List.append_nil] at hW' hk hlt
 have hb := bulk_of hk
 simp only [Rows.uptoBulkAll, Nat.add_zero] at hb
 obtain ⟨fuel, hf⟩ := id h0
 obtain ⟨x, s, hcs, hx⟩ := down_line (y := (d0, p0)) hf (by simp only []; omega)
 have hcs' : cs = cellsLn x := by
   have : (Value.agg cs).cells = cs := rfl
   rw [this] at hcs
   exact Array.toList_inj.1 hcs
 have hsb : (Value.string sb) = .string ⟨(sb.data.toList).toArray⟩ := by simp
 rw [MakeChecks.laidMetH_plain _ _ _ (by kernel_rfl)] at hL
 have hg := globL_of (Lib.laidMet.reads hL (n := "unicode/utf8.first") (by simp [Rows.lineBackUptoRow])) (Lib.laidMet.reads hL (n := "unicode/utf8.acceptRanges") (by simp [Rows.lineBackUptoRow])) (Lib.laidMet.reads hL (n := "yardarm/line.forms") (by simp [Rows.lineBackUptoRow])) (Lib.laidMet.reads hL (n := "yardarm/line.guards") (by simp [Rows.lineBackUptoRow])) (Lib.laidMet.reads hL (n := "yardarm/level.texts") (by simp [Rows.lineBackUptoRow]))
 have he := globE_of (Lib.laidMet.reads hL (n := "strconv.ErrRange") (by simp [Rows.lineBackUptoRow]))
 subst hcs'
 have HC : Calls Tryz.prog 6 #[Value.agg (cellsLn x), Value.string sb] W (Ret (.bool true) W) := by
   rw [hsb]
   exact law_back x s sb.data.toList W hx hg.1.1 he hg
 refine HC.mono ?_
 rintro e W' ⟨rfl, hbW⟩
 refine ⟨_, rfl, [d0, d1], [], p0 ++ p1, [], p0 ++ p1, [], hW', trodAll_mk1 (shut_bool Tryz.underlying4 _), ?_, rfl, hbW.frame _, fun h => by cases h⟩
 exact trodAll_mk2 (Below.trod lb_laidOut (by kernel_rfl) (of_decide_eq_true (by kernel_rfl)) h0 hbW (fun x hx => hlt x (by simp; exact .inl hx))) (Below.trod lb_laidOut (by kernel_rfl) (of_decide_eq_true (by kernel_rfl)) h1 hbW (fun x hx => hlt x (by simp; exact .inr hx)))

def lbArgs : Array Value := #[.agg #[.int .i64 0, .slice none 0 0, .int .i64 0, .slice none 0 0, .bool false, .int .i64 0], .string ⟨#[]⟩]
theorem lb_met (os : Os) : laidMet Tryz.prog Rows.lineBackUptoRow.laid ((world12 os).forCall (fun _ _ => 0) ⟨#[], lbArgs, []⟩).memory :=
 laidMet_of_run' 8 (by kernel_rfl) (by kernel_rfl)
theorem lb_reads (os : Os) {H : Type} (enc : TypeId × Value → H) : ∃ places, DataW.whole enc Tryz.prog ((world12 os).forCall (fun _ _ => 0) ⟨#[], lbArgs, []⟩).memory Tryz.f6.params.toList Rows.lineBackSpec.vars false lbArgs.toList 8 = some ([.agg [.lit (.int .i64 0), .nil, .lit (.int .i64 0), .nil, .lit (.bool false), .lit (.int .i64 0)], .lit (.string [])], [], places) :=
 ⟨[], by kernel_rfl⟩
theorem lb_lifted (os : Os) (started : os.Started) (H : Type) (enc : TypeId × Value → H) (F : Stop.Interp) :
   ReturnsInHanded {} Tryz.checked os 6 .any ((Rows.OpenSpec.upto Rows.lineBackSpec).preRow enc Tryz.prog Tryz.f6 Rows.lineBackUptoRow.domain false Rows.lineBackUptoRow.laid) (((Rows.OpenSpec.upto Rows.lineBackSpec).at F).post enc Tryz.prog Tryz.f6 false true false false) := by
 obtain ⟨places, hx⟩ := lb_reads os enc
 refine returnsInHanded_of_row (C := Tryz.checked) (s := Rows.OpenSpec.upto Rows.lineBackSpec) lb_own started (by kernel_rfl) Tryz.func6
   (witness_row_at (enc := enc) (C := Tryz.checked) false (world12 os) lbArgs rfl (by kernel_rfl) (by kernel_rfl) (by kernel_rfl)
     (OpenSpec.preRow_of_cond 8 hx (by kernel_rfl) (fun k hk => by cases hk; kernel_rfl) (by kernel_rfl) (lb_met os))) ?_
 intro W base args ds gs before hval hW _ hcond _ hL _ _
 exact lb_contract H enc W base args ds gs before hval hW (hcond _ rfl) hL
theorem lb_said : Rows.LineBackUptoSaid :=
 OpenClaim.holds_of_cond 6 Tryz.f6 rfl rfl rfl rfl rfl rfl rfl ⟨rfl, rfl, rfl, rfl, rfl⟩ rfl rfl rfl rfl rfl (by kernel_rfl) Tryz.func6 (by kernel_rfl)
   (of_decide_eq_true (by kernel_rfl)) (by unfold Func.isWrapper; first | (rw [if_pos (by decide +kernel)]; kernel_rfl) | (rw [if_neg (by decide +kernel)]; exact ⟨rfl, rfl⟩))
   (fun os started H enc _ F => by rw [OpenClaim.pre_eq_preRow]; exact lb_lifted os started H enc F)
theorem lb_plain (f : FuncId) (fn : Func) (hf : Tryz.pinned.checked.prog.funcNamed "yardarm/yardarmlaw12.LineBack" = some f) (hfn : Tryz.pinned.checked.prog.funcs[f]? = some fn) :
   true = Tryz.pinned.checked.prog.looks [] ∧ ∀ (j : Nat) t, fn.params[j]? = some t → Tryz.pinned.checked.prog.wantsStandIn t = false := by
 obtain rfl : f = 6 := Option.some.inj ((show Tryz.prog.funcNamed "yardarm/yardarmlaw12.LineBack" = some 6 by kernel_rfl).symm.trans hf) |>.symm
 obtain rfl : fn = Tryz.f6 := (Option.some.inj (Tryz.func6.symm.trans hfn)).symm
 refine ⟨by kernel_rfl, fun j t ht => ?_⟩
 rw [Tryz.params6] at ht
 have hm : t = 28 ∨ t = 9 := by simpa using Array.mem_of_getElem? ht
 rcases hm with rfl | rfl
 · exact (show Tryz.prog.wantsStandIn 28 = false by kernel_rfl)
 · exact (show Tryz.prog.wantsStandIn 9 = false by kernel_rfl)
theorem line_back : Rows.LineBackUptoCardSaid :=
 Claim7.holds_tied_plain_at .later [] _ _ _ _ lb_said (fun _ h => by cases h) (by kernel_rfl) (fun _ h => by cases h) lineBackUpto_row_tie rfl ⟨rfl, rfl⟩ (by kernel_rfl) rfl lb_plain (by kernel_rfl)
#print axioms line_back
end Go.Proofs.YthdpangjphphjaaGreatDoor
