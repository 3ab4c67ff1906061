/- LineReads returns true for every text, and row of places, and leaves its arguments as they were, where these are of bulk at most 1048576 and the package's own tables hold what its text lays (tied). -/
import Derived.Test.YthdpangjphphjaaGreatDoorRdT
import Derived.Test.YthdpangjphphjaaGreatDoorRdP
import Derived.Test.YthdpangjphphjaaGreatDoorReads
import Derived.OpenShut
import Derived.Test.YthdpangjphphjaaGreatDoorProg
set_option maxRecDepth 200000
set_option maxHeartbeats 8000000
namespace Go.Proofs.YthdpangjphphjaaGreatDoor
open Go Go.ChangeShapes Go.WideShapes Go.ChangeAt Go.RowKit Yd

theorem lr_own : ownKnob Tryz.prog.godebug = none := by kernel_rfl
theorem lr_laidOut : laidOutB Tryz.prog = true := by kernel_rfl
theorem bulk_of {H : Type} {l : List (DataW H)} (hk : Rows.uptoSmall H l = true) : Rows.uptoBulkAll l ≤ 1048576 := of_decide_eq_true hk
theorem lr_contract (H : Type) (enc : TypeId × Value → H) (W : World) (base : Nat) (args : Array Value) (ds gs : List (DataW H)) (before : List MemPlace)
   (hval : ∀ (j : Nat) t v, Tryz.f3.params[j]? = some t → args[j]? = some v → Value.okWide Tryz.prog W .any base t v)
   (hW : DataW.Whole enc Tryz.prog Tryz.f3.params.toList Rows.lineReadsSpec.vars false W args.toList ds gs before) (hk : Rows.uptoSmall H (ds ++ gs) = true) (hL : laidMetH Tryz.prog Rows.lineReadsUptoRow.laid W) :
   Calls Tryz.prog 3 args W fun e W' => ∃ v, e = .returned v ∧ Rows.lineReadsSpec.post enc Tryz.prog Tryz.f3 false true false false W args v W' := by
 have hW' := hW
 have hlt := hW.lt
 obtain ⟨p, q, hA0, hV, rfl, hfz, hnd⟩ := hW
 have hA : DataW.TrodAll enc Tryz.prog W 0 (fun _ => true) true Tryz.f3.params.toList args.toList ds p := hA0
 rw [Tryz.params3] at hA hval
 obtain ⟨v0, v1, d0, d1, p0, p1, rfl, rfl, rfl, h0, h1⟩ := trodAll_two hA
 obtain ⟨rfl, rfl⟩ := trodVars_none hV
 obtain ⟨sb, rfl⟩ := okWide_string Tryz.underlying9 (hval 0 9 v0 rfl rfl)
 obtain ⟨pa, pn, pc, rfl⟩ := okWide_slice Tryz.underlying22 (hval 1 22 v1 rfl rfl)
 clear hA0
 simp only [List.append_nil] at hW' hk hlt
 have hb := bulk_of hk
 simp only [Rows.uptoBulkAll, Nat.add_zero] at hb
 obtain ⟨fuel1, hf1⟩ := id h1
 obtain ⟨x, pl, hcs1, hrow, hpl, _⟩ := down_slice (y := (d1, p1)) (hc := cInsInt) (N := 1048576) (by decide) Tryz.underlying22 c_int rd_int hf1 (by simp only []; omega)
 have hx : (Value.slice pa pn pc) = x.v := by
   have h2 : [Value.slice pa pn pc] = [x.v] := hcs1
   injection h2
 have hsb : (Value.string sb) = .string ⟨(sb.data.toList).toArray⟩ := by simp
 obtain ⟨rfl, rfl, rfl⟩ : pa = x.a ∧ pn = x.n ∧ pc = x.c := by injection hx with h1 h2 h3; exact ⟨h1, h2, h3⟩
 have hpn := hrow.len
 rw [MakeChecks.laidMetH_plain _ _ _ (by kernel_rfl)] at hL
 have hg := globL_of (Lib.laidMet.reads hL (n := "unicode/utf8.first") (by simp [Rows.lineReadsUptoRow])) (Lib.laidMet.reads hL (n := "unicode/utf8.acceptRanges") (by simp [Rows.lineReadsUptoRow])) (Lib.laidMet.reads hL (n := "yardarm/line.forms") (by simp [Rows.lineReadsUptoRow])) (Lib.laidMet.reads hL (n := "yardarm/line.guards") (by simp [Rows.lineReadsUptoRow])) (Lib.laidMet.reads hL (n := "yardarm/level.texts") (by simp [Rows.lineReadsUptoRow]))
 have he := globE_of (Lib.laidMet.reads hL (n := "strconv.ErrRange") (by simp [Rows.lineReadsUptoRow]))
 have HC : Calls Tryz.prog 3 #[Value.string sb, Value.slice x.a x.n x.c] W (Ret (.bool true) W) := by
   rw [hsb]
   exact law_reads sb.data.toList x.a x.n x.c pl W hrow (by omega) hg.1.1 he hg
 refine HC.mono ?_
 rintro e W' ⟨rfl, hbW⟩
 refine ⟨_, rfl, [d0, d1], [], p0 ++ p1, [], p0 ++ p1, [], hW', trodAll_mk1 (shut_bool Tryz.underlying4 _), ?_, rfl, hbW.frame _, fun h => by cases h⟩
 exact trodAll_mk2 (Below.trod lr_laidOut (by kernel_rfl) (of_decide_eq_true (by kernel_rfl)) h0 hbW (fun x hx => hlt x (by simp; exact .inl hx))) (Below.trod lr_laidOut (by kernel_rfl) (of_decide_eq_true (by kernel_rfl)) h1 hbW (fun x hx => hlt x (by simp; exact .inr hx)))

def lrArgs : Array Value := #[.string ⟨#[]⟩, .slice none 0 0]
theorem lr_met (os : Os) : laidMet Tryz.prog Rows.lineReadsUptoRow.laid ((world12 os).forCall (fun _ _ => 0) ⟨#[], lrArgs, []⟩).memory :=
 laidMet_of_run' 8 (by kernel_rfl) (by kernel_rfl)
theorem lr_reads (os : Os) {H : Type} (enc : TypeId × Value → H) : ∃ places, DataW.whole enc Tryz.prog ((world12 os).forCall (fun _ _ => 0) ⟨#[], lrArgs, []⟩).memory Tryz.f3.params.toList Rows.lineReadsSpec.vars false lrArgs.toList 8 = some ([.lit (.string []), .nil], [], places) :=
 ⟨[], by kernel_rfl⟩
theorem lr_lifted (os : Os) (started : os.Started) (H : Type) (enc : TypeId × Value → H) (F : Stop.Interp) :
   ReturnsInHanded {} Tryz.checked os 3 .any ((Rows.OpenSpec.upto Rows.lineReadsSpec).preRow enc Tryz.prog Tryz.f3 Rows.lineReadsUptoRow.domain false Rows.lineReadsUptoRow.laid) (((Rows.OpenSpec.upto Rows.lineReadsSpec).at F).post enc Tryz.prog Tryz.f3 false true false false) := by
 obtain ⟨places, hx⟩ := lr_reads os enc
 refine returnsInHanded_of_row (C := Tryz.checked) (s := Rows.OpenSpec.upto Rows.lineReadsSpec) lr_own started (by kernel_rfl) Tryz.func3
   (witness_row_at (enc := enc) (C := Tryz.checked) false (world12 os) lrArgs rfl (by kernel_rfl) (by kernel_rfl) (by kernel_rfl)
     (OpenSpec.preRow_of_cond 8 hx (by kernel_rfl) (fun k hk => by cases hk; kernel_rfl) (by kernel_rfl) (lr_met os))) ?_
 intro W base args ds gs before hval hW _ hcond _ hL _ _
 exact lr_contract H enc W base args ds gs before hval hW (hcond _ rfl) hL
theorem lr_said : Rows.LineReadsUptoSaid :=
 OpenClaim.holds_of_cond 3 Tryz.f3 rfl rfl rfl rfl rfl rfl rfl ⟨rfl, rfl, rfl, rfl, rfl⟩ rfl rfl rfl rfl rfl (by kernel_rfl) Tryz.func3 (by kernel_rfl)
   (of_decide_eq_true (by kernel_rfl)) (by unfold Func.isWrapper; first | (rw [if_pos (by decide +kernel)]; kernel_rfl) | (rw [if_neg (by decide +kernel)]; exact ⟨rfl, rfl⟩))
   (fun os started H enc _ F => by rw [OpenClaim.pre_eq_preRow]; exact lr_lifted os started H enc F)
theorem lr_plain (f : FuncId) (fn : Func) (hf : Tryz.pinned.checked.prog.funcNamed "yardarm/yardarmlaw12.LineReads" = some f) (hfn : Tryz.pinned.checked.prog.funcs[f]? = some fn) :
   true = Tryz.pinned.checked.prog.looks [] ∧ ∀ (j : Nat) t, fn.params[j]? = some t → Tryz.pinned.checked.prog.wantsStandIn t = false := by
 obtain rfl : f = 3 := Option.some.inj ((show Tryz.prog.funcNamed "yardarm/yardarmlaw12.LineReads" = some 3 by kernel_rfl).symm.trans hf) |>.symm
 obtain rfl : fn = Tryz.f3 := (Option.some.inj (Tryz.func3.symm.trans hfn)).symm
 refine ⟨by kernel_rfl, fun j t ht => ?_⟩
 rw [Tryz.params3] at ht
 have hm : t = 9 ∨ t = 22 := by simpa using Array.mem_of_getElem? ht
 rcases hm with rfl | rfl
 · exact (show Tryz.prog.wantsStandIn 9 = false by kernel_rfl)
 · exact (show Tryz.prog.wantsStandIn 22 = false by kernel_rfl)
theorem line_reads : Rows.LineReadsUptoCardSaid :=
 Claim7.holds_tied_plain_at .later [] _ _ _ _ lr_said (fun _ h => by cases h) (by kernel_rfl) (fun _ h => by cases h) lineReadsUpto_row_tie rfl ⟨rfl, rfl⟩ (by kernel_rfl) rfl lr_plain (by kernel_rfl)
#print axioms line_reads
end Go.Proofs.YthdpangjphphjaaGreatDoor
