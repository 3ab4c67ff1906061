/- LineFirst returns true for every two texts, and place, and leaves its arguments as they were, where these are of bulk at most 1048576 and the package's own tables hold what its text lays (tied). -/
import Derived.Test.YthdpangjphphjaaGreatDoorLaid12
import Derived.Test.YthdpangjphphjaaGreatDoorOrdP
import Derived.OpenShut
import Derived.Test.YthdpangjphphjaaGreatDoorProg
set_option maxRecDepth 200000
set_option maxHeartbeats 8000000
namespace Go.Proofs.YthdpangjphphjaaGreatDoor
open Go Go.ChangeShapes Go.WideShapes Go.ChangeAt Go.RowKit Yd

theorem lf_own : ownKnob Tryz.prog.godebug = none := by kernel_rfl
theorem lf_laidOut : laidOutB Tryz.prog = true := by kernel_rfl
theorem bulk_of {H : Type} {l : List (DataW H)} (hk : Rows.uptoSmall H l = true) : Rows.uptoBulkAll l ≤ 1048576 := of_decide_eq_true hk
theorem lf_contract (H : Type) (enc : TypeId × Value → H) (W : World) (base : Nat) (args : Array Value) (ds gs : List (DataW H)) (before : List MemPlace)
   (hval : ∀ (j : Nat) t v, Tryz.f5.params[j]? = some t → args[j]? = some v → Value.okWide Tryz.prog W .any base t v)
   (hW : DataW.Whole enc Tryz.prog Tryz.f5.params.toList Rows.lineFirstSpec.vars false W args.toList ds gs before) (hk : Rows.uptoSmall H (ds ++ gs) = true) (hL : laidMetH Tryz.prog Rows.lineFirstUptoRow.laid W) :
   Calls Tryz.prog 5 args W fun e W' => ∃ v, e = .returned v ∧ Rows.lineFirstSpec.post enc Tryz.prog Tryz.f5 false true false false W args v W' := by
 have hW' := hW
 have hlt := hW.lt
 obtain ⟨p, q, hA0, hV, rfl, hfz, hnd⟩ := hW
 have hA : DataW.TrodAll enc Tryz.prog W 0 (fun _ => true) true Tryz.f5.params.toList args.toList ds p := hA0
 rw [Tryz.params5] at hA hval
 obtain ⟨v0, v1, v2, d0, d1, d2, p0, p1, p2, rfl, rfl, rfl, h0, h1, h2⟩ := trodAll_three hA
 obtain ⟨rfl, rfl⟩ := trodVars_none hV
 obtain ⟨sb0, rfl⟩ := okWide_string Tryz.underlying9 (hval 0 9 v0 rfl rfl)
 obtain ⟨sb1, rfl⟩ := okWide_string Tryz.underlying9 (hval 1 9 v1 rfl rfl)
 obtain ⟨n2, rfl⟩ := okWide_int Tryz.underlying3 (hval 2 3 v2 rfl rfl)
 clear hA0
 simp only [List.append_nil] at hW' hk hlt
 have hb := bulk_of hk
 simp only [Rows.uptoBulkAll, Nat.add_zero] at hb
 rw [MakeChecks.laidMetH_plain _ _ _ (by kernel_rfl)] at hL
 have hg := globL_of (Lib.laidMet.reads hL (n := "unicode/utf8.first") (by simp [Rows.lineFirstUptoRow])) (Lib.laidMet.reads hL (n := "unicode/utf8.acceptRanges") (by simp [Rows.lineFirstUptoRow])) (Lib.laidMet.reads hL (n := "yardarm/line.forms") (by simp [Rows.lineFirstUptoRow])) (Lib.laidMet.reads hL (n := "yardarm/line.guards") (by simp [Rows.lineFirstUptoRow])) (Lib.laidMet.reads hL (n := "yardarm/level.texts") (by simp [Rows.lineFirstUptoRow]))
 have he := globE_of (Lib.laidMet.reads hL (n := "strconv.ErrRange") (by simp [Rows.lineFirstUptoRow]))
 have HC : Calls Tryz.prog 5 #[Value.string sb0, Value.string sb1, Value.int .i64 n2] W (Ret (.bool true) W) := by
   have e0 : (Value.string sb0) = .string ⟨(sb0.data.toList).toArray⟩ := by simp
   have e1 : (Value.string sb1) = .string ⟨(sb1.data.toList).toArray⟩ := by simp
   rw [e0, e1]
   exact law_first sb0.data.toList sb1.data.toList n2 W hg.1.1 he hg
 refine HC.mono ?_
 rintro e W' ⟨rfl, hbW⟩
 refine ⟨_, rfl, [d0, d1, d2], [], p0 ++ p1 ++ p2, [], p0 ++ p1 ++ p2, [], hW', trodAll_mk1 (shut_bool Tryz.underlying4 _), ?_, rfl, hbW.frame _, fun h => by cases h⟩
 rw [List.append_assoc]
 exact trodAll_mk3 (Below.trod lf_laidOut (by kernel_rfl) (of_decide_eq_true (by kernel_rfl)) h0 hbW (fun x hx => hlt x (by simp; exact .inl hx))) (Below.trod lf_laidOut (by kernel_rfl) (of_decide_eq_true (by kernel_rfl)) h1 hbW (fun x hx => hlt x (by simp; exact .inr (.inl hx)))) (Below.trod lf_laidOut (by kernel_rfl) (of_decide_eq_true (by kernel_rfl)) h2 hbW (fun x hx => hlt x (by simp; exact .inr (.inr hx))))

def lfArgs : Array Value := #[.string ⟨#[]⟩, .string ⟨#[]⟩, .int .i64 0]
theorem lf_met (os : Os) : laidMet Tryz.prog Rows.lineFirstUptoRow.laid ((world12 os).forCall (fun _ _ => 0) ⟨#[], lfArgs, []⟩).memory :=
 laidMet_of_run' 8 (by kernel_rfl) (by kernel_rfl)
theorem lf_reads (os : Os) {H : Type} (enc : TypeId × Value → H) : ∃ places, DataW.whole enc Tryz.prog ((world12 os).forCall (fun _ _ => 0) ⟨#[], lfArgs, []⟩).memory Tryz.f5.params.toList Rows.lineFirstSpec.vars false lfArgs.toList 8 = some ([.lit (.string []), .lit (.string []), .lit (.int .i64 0)], [], places) :=
 ⟨[], by kernel_rfl⟩
theorem lf_lifted (os : Os) (started : os.Started) (H : Type) (enc : TypeId × Value → H) (F : Stop.Interp) :
   ReturnsInHanded {} Tryz.checked os 5 .any ((Rows.OpenSpec.upto Rows.lineFirstSpec).preRow enc Tryz.prog Tryz.f5 Rows.lineFirstUptoRow.domain false Rows.lineFirstUptoRow.laid) (((Rows.OpenSpec.upto Rows.lineFirstSpec).at F).post enc Tryz.prog Tryz.f5 false true false false) := by
 obtain ⟨places, hx⟩ := lf_reads os enc
 refine returnsInHanded_of_row (C := Tryz.checked) (s := Rows.OpenSpec.upto Rows.lineFirstSpec) lf_own started (by kernel_rfl) Tryz.func5
   (witness_row_at (enc := enc) (C := Tryz.checked) false (world12 os) lfArgs rfl (by kernel_rfl) (by kernel_rfl) (by kernel_rfl)
     (OpenSpec.preRow_of_cond 8 hx (by kernel_rfl) (fun k hk => by cases hk; kernel_rfl) (by kernel_rfl) (lf_met os))) ?_
 intro W base args ds gs before hval hW _ hcond _ hL _ _
 exact lf_contract H enc W base args ds gs before hval hW (hcond _ rfl) hL
theorem lf_said : Rows.LineFirstUptoSaid :=
 OpenClaim.holds_of_cond 5 Tryz.f5 rfl rfl rfl rfl rfl rfl rfl ⟨rfl, rfl, rfl, rfl, rfl⟩ rfl rfl rfl rfl rfl (by kernel_rfl) Tryz.func5 (by kernel_rfl)
   (of_decide_eq_true (by kernel_rfl)) (by unfold Func.isWrapper; first | (rw [if_pos (by decide +kernel)]; kernel_rfl) | (rw [if_neg (by decide +kernel)]; exact ⟨rfl, rfl⟩))
   (fun os started H enc _ F => by rw [OpenClaim.pre_eq_preRow]; exact lf_lifted os started H enc F)
theorem lf_plain (f : FuncId) (fn : Func) (hf : Tryz.pinned.checked.prog.funcNamed "yardarm/yardarmlaw12.LineFirst" = some f) (hfn : Tryz.pinned.checked.prog.funcs[f]? = some fn) :
   true = Tryz.pinned.checked.prog.looks [] ∧ ∀ (j : Nat) t, fn.params[j]? = some t → Tryz.pinned.checked.prog.wantsStandIn t = false := by
 obtain rfl : f = 5 := Option.some.inj ((show Tryz.prog.funcNamed "yardarm/yardarmlaw12.LineFirst" = some 5 by kernel_rfl).symm.trans hf) |>.symm
 obtain rfl : fn = Tryz.f5 := (Option.some.inj (Tryz.func5.symm.trans hfn)).symm
 refine ⟨by kernel_rfl, fun j t ht => ?_⟩
 rw [Tryz.params5] at ht
 have hm : t = 9 ∨ t = 9 ∨ t = 3 := by simpa using Array.mem_of_getElem? ht
 rcases hm with rfl | rfl | rfl
 · exact (show Tryz.prog.wantsStandIn 9 = false by kernel_rfl)
 · exact (show Tryz.prog.wantsStandIn 9 = false by kernel_rfl)
 · exact (show Tryz.prog.wantsStandIn 3 = false by kernel_rfl)
theorem line_first : Rows.LineFirstUptoCardSaid :=
 Claim7.holds_tied_plain_at .later [] _ _ _ _ lf_said (fun _ h => by cases h) (by kernel_rfl) (fun _ h => by cases h) lineFirstUpto_row_tie rfl ⟨rfl, rfl⟩ (by kernel_rfl) rfl lf_plain (by kernel_rfl)
#print axioms line_first
end Go.Proofs.YthdpangjphphjaaGreatDoor
