/- FormatMay returns true for every text, and leaves its argument as it was, where it is of bulk at most 1048576 and the package's own tables hold what its text lays (tied). -/
import Derived.Test.YtnhnhmeogckgpaaGreatDoorMay
set_option linter.all false
set_option maxRecDepth 200000
set_option maxHeartbeats 8000000
namespace Go.Proofs.YtnhnhmeogckgpaaGreatDoor
open Go Go.ChangeShapes Go.WideShapes Go.ChangeAt Go.RowKit Yd
theorem adV:ownKnob Tryz.prog.godebug=none:=au
theorem Qy:laidOutB Tryz.prog=true:=au
theorem Gq {H:Type} {l:List (DataW H)} (hk:Rows.uptoSmall H l=true):Rows.uptoBulkAll l≤1048576:=of_decide_eq_true hk
theorem MJ (H:Type) (enc:TypeId × Value→H) (W:World) (base:Nat) (args:Array Value) (ds gs:List (DataW H)) (before:List MemPlace)
  (hval:∀(j:Nat) t v,Tryz.f5.params[j]?=some t→args[j]?=some v→Value.okWide Tryz.prog W .any base t v)
  (hW:DataW.Whole enc Tryz.prog Tryz.f5.params.toList Rows.formatMaySpec.vars false W args.toList ds gs before) (hk:Rows.uptoSmall H (ds++gs)=true) (hL:laidMetH Tryz.prog Rows.formatMayUptoRow.laid W):
  Calls Tryz.prog 5 args W fun e W'=>∃v,e= .returned v∧Rows.formatMaySpec.post enc Tryz.prog Tryz.f5 false true false false W args v W':=by
 have hW':=hW;have hlt:=hW.lt;obtain⟨p,q,Ry,hV,rfl,hfz,hnd⟩:=hW;have hA:DataW.TrodAll enc Tryz.prog W 0 (fun _=>true) true Tryz.f5.params.toList args.toList ds p:=Ry;rw[Tryz.params5] at hA hval;obtain⟨v0,d0,rfl,rfl,h0⟩:=trodAll_one hA;obtain⟨rfl,rfl⟩:=trodVars_none hV;clear Ry;simp only[List.append_nil] at hW' hk hlt;have hb:=Gq hk;simp only[Rows.uptoBulkAll,Nat.add_zero] at hb;obtain⟨sb0,rfl⟩:=okWide_string Tryz.underlying9 (hval 0 9 v0 rfl rfl);rw[MakeChecks.laidMetH_plain _ _ _ au] at hL;have hg:=Kw (Lib.laidMet.reads hL (n:= "unicode/utf8.first") (by simp[Rows.formatMayUptoRow])) (Lib.laidMet.reads hL (n:= "unicode/utf8.acceptRanges") (by simp[Rows.formatMayUptoRow])) (Lib.laidMet.reads hL (n:= "yardarm/line.forms") (by simp[Rows.formatMayUptoRow])) (Lib.laidMet.reads hL (n:= "yardarm/line.guards") (by simp[Rows.formatMayUptoRow])) (Lib.laidMet.reads hL (n:= "yardarm/level.texts") (by simp[Rows.formatMayUptoRow])) (Lib.laidMet.reads hL (n:= "yardarm/history.limits") (by simp[Rows.formatMayUptoRow]));have he:=Ky (Lib.laidMet.reads hL (n:= "strconv.ErrRange") (by simp[Rows.formatMayUptoRow]));have hf:=Kz hg (Lib.laidMet.reads hL (n:= "yardarm/format.limits") (by simp[Rows.formatMayUptoRow]));have HC:Calls Tryz.prog 5 #[Value.string sb0] W (bC (.bool true) W):=by
  have e0:(Value.string sb0)= .string ⟨(sb0.data.toList).toArray⟩:=by simp
  rw[e0];exact Za sb0.data.toList W ⟨⟨hg,he⟩,hf,hg⟩
 refine HC.mono ?_;rintro e W' ⟨rfl,hbW⟩;refine⟨_,rfl,[d0],[],p,[],p,[],hW',trodAll_mk1 (shut_bool Tryz.underlying4 _),?_,rfl,hbW.frame _,fun h=>by cases h⟩;exact trodAll_mk1 (Below.trod Qy au (of_decide_eq_true au) h0 hbW (fun x hx=>hlt x (by first|exact hx|(simp;exact hx))))
def Gc:Array Value:=#[.string ⟨#[]⟩]
theorem adW (os:Os):laidMet Tryz.prog Rows.formatMayUptoRow.laid ((xW os).forCall (fun _ _=>0) ⟨#[],Gc,[]⟩).memory:=
 laidMet_of_run' 8 au au
theorem WC (os:Os) {H:Type} (enc:TypeId × Value→H):∃places,DataW.whole enc Tryz.prog ((xW os).forCall (fun _ _=>0) ⟨#[],Gc,[]⟩).memory Tryz.f5.params.toList Rows.formatMaySpec.vars false Gc.toList 8=some ([.lit (.string [])],[],places):=
 ⟨[],by kernel_rfl⟩
theorem TN (os:Os) (started:os.Started) (H:Type) (enc:TypeId × Value→H) (F:Stop.Interp):
  ReturnsInHanded {} Tryz.checked os 5 .any ((Rows.OpenSpec.upto Rows.formatMaySpec).preRow enc Tryz.prog Tryz.f5 Rows.formatMayUptoRow.domain false Rows.formatMayUptoRow.laid) (((Rows.OpenSpec.upto Rows.formatMaySpec).at F).post enc Tryz.prog Tryz.f5 false true false false):=by
 obtain⟨places,hx⟩:=WC os enc;refine returnsInHanded_of_row (C:=Tryz.checked) (s:=Rows.OpenSpec.upto Rows.formatMaySpec) adV started au Tryz.func5
  (witness_row_at (enc:=enc) (C:=Tryz.checked) false (xW os) Gc rfl au au au
   (OpenSpec.preRow_of_cond 8 hx au (fun k hk=>by cases hk;kernel_rfl) au (adW os))) ?_
 intro W base args ds gs before hval hW _ hcond _ hL _ _;exact MJ H enc W base args ds gs before hval hW (hcond _ rfl) hL
theorem TP:joinedFacts Tryz.pinned.checked.prog 5 Tryz.f5 (Rows.OpenSpec.upto Rows.formatMaySpec).bare Rows.formatMayUptoRow=true:=by
 simp only[joinedFacts,Bool.and_eq_true]
 repeat' (refine And.intro ?_ ?_)
 all_goals (as_aux_lemma=>kernel_rfl)
theorem ZH:Rows.FormatMayUptoSaid:=
 OpenClaim.holds_of_cond 5 Tryz.f5 rfl rfl rfl rfl rfl rfl rfl ⟨rfl,rfl,rfl,rfl,rfl⟩ rfl rfl rfl rfl rfl au Tryz.func5 TP
  (of_decide_eq_true au) (by unfold Func.isWrapper;first|(rw[if_pos (by decide+kernel)];kernel_rfl)|(rw[if_neg (by decide+kernel)];exact⟨rfl,rfl⟩))
  (fun os started H enc _ F=>by rw[OpenClaim.pre_eq_preRow];exact TN os started H enc F)
theorem WE (f:FuncId) (fn:Func) (hf:Tryz.pinned.checked.prog.funcNamed "yardarm/yardarmlaw13.FormatMay" =some f) (hfn:Tryz.pinned.checked.prog.funcs[f]?=some fn):
  true=Tryz.pinned.checked.prog.looks []∧∀(j:Nat) t,fn.params[j]?=some t→Tryz.pinned.checked.prog.wantsStandIn t=false:=by
 obtain rfl:f=5:=Option.some.inj ((show Tryz.prog.funcNamed "yardarm/yardarmlaw13.FormatMay" =some 5 by kernel_rfl).symm.trans hf)|>.symm;obtain rfl:fn=Tryz.f5:=(Option.some.inj (Tryz.func5.symm.trans hfn)).symm;refine⟨by kernel_rfl,fun j t ht=>?_⟩;rw[Tryz.params5] at ht;have hm:t=9:=by simpa using Array.mem_of_getElem? ht
 subst hm;exact(show Tryz.prog.wantsStandIn 9=false by kernel_rfl)
theorem format_may:Rows.FormatMayUptoCardSaid:=
 Claim7.holds_tied_plain_at .later [] _ _ _ _ ZH (fun _ h=>by cases h) au (fun _ h=>by cases h) formatMayUpto_row_tie rfl ⟨rfl,rfl⟩ au rfl WE au
#print axioms format_may
end Go.Proofs.YtnhnhmeogckgpaaGreatDoor
