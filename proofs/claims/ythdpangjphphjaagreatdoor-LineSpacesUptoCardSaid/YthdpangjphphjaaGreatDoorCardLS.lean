/- LineSpaces returns true for every line, remark, and number, and leaves its arguments as they were, where these are of bulk at most 1048576 and the package's own tables hold what its text lays (tied). -/
import Derived.Test.YthdpangjphphjaaGreatDoorChk1
import Derived.Test.YthdpangjphphjaaGreatDoorOrdP
import Derived.Test.YthdpangjphphjaaGreatDoorSpaces
import Derived.Shelf.Vars
import Derived.OpenShut
import Derived.Test.YthdpangjphphjaaGreatDoorProg
set_option maxRecDepth 200000
set_option maxHeartbeats 8000000
namespace Go.Proofs.YthdpangjphphjaaGreatDoor
open Go Go.ChangeShapes Go.WideShapes Go.ChangeAt Go.RowKit Yd

theorem ls_own : ownKnob Tryz.prog.godebug = none := by kernel_rfl
theorem ls_laidOut : laidOutB Tryz.prog = true := by kernel_rfl
theorem bulk_of {H : Type} {l : List (DataW H)} (hk : Rows.uptoSmall H l = true) : Rows.uptoBulkAll l ≤ 1048576 := of_decide_eq_true hk
theorem ls_contract (H : Type) (enc : TypeId × Value → H) (W : World) (base : Nat) (args : Array Value) (ds gs : List (DataW H)) (before : List MemPlace)
   (hval : ∀ (j : Nat) t v, Tryz.f7.params[j]? = some t → args[j]? = some v → Value.okWide Tryz.prog W .any base t v)
   (hW : DataW.Whole enc Tryz.prog Tryz.f7.params.toList Rows.lineSpacesSpec.vars false W args.toList ds gs before) (hk : Rows.uptoSmall H (ds ++ gs) = true) (hL : laidMetH Tryz.prog Rows.lineSpacesUptoRow.laid W) (hsh : W.ShapedOpen Tryz.prog) :
   Calls Tryz.prog 7 args W fun e W' => ∃ v, e = .returned v ∧ Rows.lineSpacesSpec.post enc Tryz.prog Tryz.f7 false true false false W args v W' := by
 have hW' := hW
 have hlt := hW.lt
 obtain ⟨p, q, hA0, hV, rfl, hfz, hnd⟩ := hW
 have hA : DataW.TrodAll enc Tryz.prog W 0 (fun _ => true) true Tryz.f7.params.toList args.toList ds p := hA0
 rw [Tryz.params7] at hA hval
 obtain ⟨v0, v1, v2, d0, d1, d2, p0, p1, p2, rfl, rfl, rfl, h0, h1, h2⟩ := trodAll_three hA
 obtain ⟨rfl, rfl⟩ := trodVars_none hV
 obtain ⟨cs, rfl, hsz⟩ := okWide_struct Tryz.underlying28 (hval 0 28 v0 rfl rfl)
 obtain ⟨sb1, rfl⟩ := okWide_string Tryz.underlying9 (hval 1 9 v1 rfl rfl)
 obtain ⟨n2, rfl⟩ := okWide_int Tryz.underlying3 (hval 2 3 v2 rfl rfl)
 clear hA0
 simp only [List.append_nil] at hW' hk hlt
 have hb := bulk_of hk
 simp only [Rows.uptoBulkAll, Nat.add_zero] at hb
 obtain ⟨fuel, hf⟩ := id h0
 obtain ⟨x, s, hcs, hx⟩ := down_line (y := (d0, p0)) hf (by simp only []; omega)
 have hcs' : cs = cellsLn x := by
   have : (Value.agg cs).cells = cs := rfl
   rw [this] at hcs
   exact Array.toList_inj.1 hcs
 have hml := cell_of_shapedOpen_int (P := Tryz.prog) (g := 5) (t := 3) (zero := #[.int .i64 0]) hsh (of_decide_eq_true (by kernel_rfl)) (by kernel_rfl) rfl (by kernel_rfl) (by kernel_rfl) Tryz.underlying3
 rw [MakeChecks.laidMetH_plain _ _ _ (by kernel_rfl)] at hL
 have hg := globL_of (Lib.laidMet.reads hL (n := "unicode/utf8.first") (by simp [Rows.lineSpacesUptoRow])) (Lib.laidMet.reads hL (n := "unicode/utf8.acceptRanges") (by simp [Rows.lineSpacesUptoRow])) (Lib.laidMet.reads hL (n := "yardarm/line.forms") (by simp [Rows.lineSpacesUptoRow])) (Lib.laidMet.reads hL (n := "yardarm/line.guards") (by simp [Rows.lineSpacesUptoRow])) (Lib.laidMet.reads hL (n := "yardarm/level.texts") (by simp [Rows.lineSpacesUptoRow]))
 have he := globE_of (Lib.laidMet.reads hL (n := "strconv.ErrRange") (by simp [Rows.lineSpacesUptoRow]))
 subst hcs'
 have HC : Calls Tryz.prog 7 #[Value.agg (cellsLn x), Value.string sb1, Value.int .i64 n2] W (Ret (.bool true) W) := by
   have e1 : (Value.string sb1) = .string ⟨(sb1.data.toList).toArray⟩ := by simp
   rw [e1]
   exact law_spaces x s sb1.data.toList n2 W hx hg.1.1 he hg hml
 refine HC.mono ?_
 rintro e W' ⟨rfl, hbW⟩
 refine ⟨_, rfl, [d0, d1, d2], [], p0 ++ p1 ++ p2, [], p0 ++ p1 ++ p2, [], hW', trodAll_mk1 (shut_bool Tryz.underlying4 _), ?_, rfl, hbW.frame _, fun h => by cases h⟩
 rw [List.append_assoc]
 exact trodAll_mk3 (Below.trod ls_laidOut (by kernel_rfl) (of_decide_eq_true (by kernel_rfl)) h0 hbW (fun x hx => hlt x (by simp; exact .inl hx))) (Below.trod ls_laidOut (by kernel_rfl) (of_decide_eq_true (by kernel_rfl)) h1 hbW (fun x hx => hlt x (by simp; exact .inr (.inl hx)))) (Below.trod ls_laidOut (by kernel_rfl) (of_decide_eq_true (by kernel_rfl)) h2 hbW (fun x hx => hlt x (by simp; exact .inr (.inr hx))))

def lsArgs : Array Value := #[.agg #[.int .i64 0, .slice none 0 0, .int .i64 0, .slice none 0 0, .bool false, .int .i64 0], .string ⟨#[]⟩, .int .i64 0]
theorem ls_met (os : Os) : laidMet Tryz.prog Rows.lineSpacesUptoRow.laid ((world12 os).forCall (fun _ _ => 0) ⟨#[], lsArgs, []⟩).memory :=
 laidMet_of_run' 8 (by kernel_rfl) (by kernel_rfl)
theorem ls_reads (os : Os) {H : Type} (enc : TypeId × Value → H) : ∃ places, DataW.whole enc Tryz.prog ((world12 os).forCall (fun _ _ => 0) ⟨#[], lsArgs, []⟩).memory Tryz.f7.params.toList Rows.lineSpacesSpec.vars false lsArgs.toList 8 = some ([.agg [.lit (.int .i64 0), .nil, .lit (.int .i64 0), .nil, .lit (.bool false), .lit (.int .i64 0)], .lit (.string []), .lit (.int .i64 0)], [], places) :=
 ⟨[], by kernel_rfl⟩
theorem ls_lifted (os : Os) (started : os.Started) (H : Type) (enc : TypeId × Value → H) (F : Stop.Interp) :
   ReturnsInHanded {} Tryz.checked os 7 .any ((Rows.OpenSpec.upto Rows.lineSpacesSpec).preRow enc Tryz.prog Tryz.f7 Rows.lineSpacesUptoRow.domain false Rows.lineSpacesUptoRow.laid) (((Rows.OpenSpec.upto Rows.lineSpacesSpec).at F).post enc Tryz.prog Tryz.f7 false true false false) := by
 obtain ⟨places, hx⟩ := ls_reads os enc
 refine returnsInHanded_of_row (C := Tryz.checked) (s := Rows.OpenSpec.upto Rows.lineSpacesSpec) ls_own started (by kernel_rfl) Tryz.func7
   (witness_row_at (enc := enc) (C := Tryz.checked) false (world12 os) lsArgs rfl (by kernel_rfl) (by kernel_rfl) (by kernel_rfl)
     (OpenSpec.preRow_of_cond 8 hx (by kernel_rfl) (fun k hk => by cases hk; kernel_rfl) (by kernel_rfl) (ls_met os))) ?_
 intro W base args ds gs before hval hW _ hcond _ hL hsh _
 exact ls_contract H enc W base args ds gs before hval hW (hcond _ rfl) hL hsh
theorem ls_said : Rows.LineSpacesUptoSaid :=
 OpenClaim.holds_of_cond 7 Tryz.f7 rfl rfl rfl rfl rfl rfl rfl ⟨rfl, rfl, rfl, rfl, rfl⟩ rfl rfl rfl rfl rfl (by kernel_rfl) Tryz.func7 (by kernel_rfl)
   (of_decide_eq_true (by kernel_rfl)) (by unfold Func.isWrapper; first | (rw [if_pos (by decide +kernel)]; kernel_rfl) | (rw [if_neg (by decide +kernel)]; exact ⟨rfl, rfl⟩))
   (fun os started H enc _ F => by rw [OpenClaim.pre_eq_preRow]; exact ls_lifted os started H enc F)
theorem ls_plain (f : FuncId) (fn : Func) (hf : Tryz.pinned.checked.prog.funcNamed "yardarm/yardarmlaw12.LineSpaces" = some f) (hfn : Tryz.pinned.checked.prog.funcs[f]? = some fn) :
   true = Tryz.pinned.checked.prog.looks [] ∧ ∀ (j : Nat) t, fn.params[j]? = some t → Tryz.pinned.checked.prog.wantsStandIn t = false := by
 obtain rfl : f = 7 := Option.some.inj ((show Tryz.prog.funcNamed "yardarm/yardarmlaw12.LineSpaces" = some 7 by kernel_rfl).symm.trans hf) |>.symm
 obtain rfl : fn = Tryz.f7 := (Option.some.inj (Tryz.func7.symm.trans hfn)).symm
 refine ⟨by kernel_rfl, fun j t ht => ?_⟩
 rw [Tryz.params7] at ht
 have hm : t = 28 ∨ t = 9 ∨ t = 3 := by simpa using Array.mem_of_getElem? ht
 rcases hm with rfl | rfl | rfl
 · exact (show Tryz.prog.wantsStandIn 28 = false by kernel_rfl)
 · exact (show Tryz.prog.wantsStandIn 9 = false by kernel_rfl)
 · exact (show Tryz.prog.wantsStandIn 3 = false by kernel_rfl)
theorem line_spaces : Rows.LineSpacesUptoCardSaid :=
 Claim7.holds_tied_plain_at .later [] _ _ _ _ ls_said (fun _ h => by cases h) (by kernel_rfl) (fun _ h => by cases h) lineSpacesUpto_row_tie rfl ⟨rfl, rfl⟩ (by kernel_rfl) rfl ls_plain (by kernel_rfl)
#print axioms line_spaces
end Go.Proofs.YthdpangjphphjaaGreatDoor
