/- PrintText returns true for every text, and leaves its argument as it was, where it is of bulk at most 1048576 and the package's own tables hold what its text lays (tied). -/
import Derived.Test.YtpeojoobplpcoaaGreatDoorPLaid13
set_option linter.all false
set_option maxRecDepth 200000
set_option maxHeartbeats 8000000
namespace Go.Proofs.YtpeojoobplpcoaaGreatDoor
open Go Go.ChangeShapes Go.WideShapes Go.ChangeAt Go.RowKit Yd
theorem ajZ:ownKnob Tryz.prog.godebug=none:=ay
theorem Wm:laidOutB Tryz.prog=true:=ay
theorem afn {H:Type}{l:List (DataW H)}(hk:Rows.uptoSmall H l=true):Rows.uptoBulkAll l<=1048576:=xK hk
theorem R5 (H:Type)(enc:TypeId × Value->H)(W:World)(base:Nat)(args:Array Value)(ds gs:List (DataW H))(before:List MemPlace)
  (hval:∀(j:Nat) t v,Tryz.f3.params[j]?=some t->args[j]?=some v->Value.okWide Tryz.prog W .any base t v)
  (hW:DataW.Whole enc Tryz.prog Tryz.f3.params.toList Rows.printTextSpec.vars false W args.toList ds gs before) (hk:Rows.uptoSmall H (ds++gs)=true) (hL:laidMetH Tryz.prog Rows.printTextUptoRow.laid W):
  Calls Tryz.prog 3 args W λe W'=>∃v,e= .returned v/\Rows.printTextSpec.post enc Tryz.prog Tryz.f3 false true false false W args v W':=by
 have hW':=hW;have hlt:=hW.lt;obtain⟨p,q,hA0,hV,rfl,hfz,hnd⟩:=hW;have hA:DataW.TrodAll enc Tryz.prog W 0 (λ_=>true) true Tryz.f3.params.toList args.toList ds p:=hA0;rw[Tryz.params3] at hA hval;obtain⟨v0,d0,rfl,rfl,h0⟩:=trodAll_one hA;obtain⟨rfl,rfl⟩:=trodVars_none hV;clear hA0;simp only[dB] at hW' hk hlt;have hb:=afn hk;simp only[Rows.uptoBulkAll,dM] at hb;obtain⟨sb0,rfl⟩:=okWide_string Tryz.underlying9 (hval 0 9 v0 rfl rfl);rw[MakeChecks.laidMetH_plain _ _ _ ay] at hL;have hg:=abM (Lib.laidMet.reads hL (n:= "unicode/utf8.first") (by simp[Rows.printTextUptoRow])) (Lib.laidMet.reads hL (n:= "unicode/utf8.acceptRanges") (by simp[Rows.printTextUptoRow])) (Lib.laidMet.reads hL (n:= "yardarm/line.forms") (by simp[Rows.printTextUptoRow])) (Lib.laidMet.reads hL (n:= "yardarm/line.guards") (by simp[Rows.printTextUptoRow])) (Lib.laidMet.reads hL (n:= "yardarm/level.texts") (by simp[Rows.printTextUptoRow])) (Lib.laidMet.reads hL (n:= "yardarm/history.limits") (by simp[Rows.printTextUptoRow]));have he:=abL (Lib.laidMet.reads hL (n:= "strconv.ErrRange") (by simp[Rows.printTextUptoRow]));have hf:=abN hg (Lib.laidMet.reads hL (n:= "yardarm/format.limits") (by simp[Rows.printTextUptoRow]));have HC:Calls Tryz.prog 3 #[Value.string sb0] W (dw (.bool true) W):=by
  have e0:(Value.string sb0)= .string ⟨(sb0.data.toList).toArray⟩:=by simp
  rw[e0];exact YR sb0.data.toList W ⟨⟨hg,he⟩,hf,hg⟩
 refine HC.mono ?_;rintro e W' ⟨rfl,hbW⟩;refine⟨_,rfl,[d0],[],p,[],p,[],hW',trodAll_mk1 (shut_bool Tryz.underlying4 _),?_,rfl,hbW.frame _,λh=>by cases h⟩;exact trodAll_mk1 (Below.trod Wm ay (xK ay) h0 hbW (λx hx=>hlt x (by first|exact hx|(simp;exact hx))))
def Lc:Array Value:=#[.string ⟨#[]⟩]
theorem aj0 (os:Os):laidMet Tryz.prog Rows.printTextUptoRow.laid ((LP os).forCall (λ_ _=>0) ⟨#[],Lc,[]⟩).memory:=
 laidMet_of_run' 8 ay ay
theorem acA (os:Os){H:Type}(enc:TypeId × Value->H):∃places,DataW.whole enc Tryz.prog ((LP os).forCall (λ_ _=>0) ⟨#[],Lc,[]⟩).memory Tryz.f3.params.toList Rows.printTextSpec.vars false Lc.toList 8=some ([.lit (.string [])],[],places):=
 ⟨[],by kernel_rfl⟩
theorem Zw (os:Os)(started:os.Started)(H:Type)(enc:TypeId × Value->H)(F:Stop.Interp):
  ReturnsInHanded {} Tryz.checked os 3 .any ((Rows.OpenSpec.upto Rows.printTextSpec).preRow enc Tryz.prog Tryz.f3 Rows.printTextUptoRow.domain false Rows.printTextUptoRow.laid) (((Rows.OpenSpec.upto Rows.printTextSpec).at F).post enc Tryz.prog Tryz.f3 false true false false):=by
 obtain⟨places,hx⟩:=acA os enc;refine returnsInHanded_of_row (C:=Tryz.checked) (s:=Rows.OpenSpec.upto Rows.printTextSpec) ajZ started ay Tryz.func3
  (witness_row_at (enc:=enc) (C:=Tryz.checked) false (LP os) Lc rfl ay ay ay
   (OpenSpec.preRow_of_cond 8 hx ay (λk hk=>by cases hk;kernel_rfl) ay (aj0 os))) ?_
 intro W base args ds gs before hval hW _ hcond _ hL _ _;exact R5 H enc W base args ds gs before hval hW (hcond _ rfl) hL
theorem Zx:joinedFacts Tryz.pinned.checked.prog 3 Tryz.f3 (Rows.OpenSpec.upto Rows.printTextSpec).bare Rows.printTextUptoRow=true:=by
 simp only[joinedFacts,aO]
 repeat' (refine And.intro ?_ ?_)
 all_goals (as_aux_lemma=>kernel_rfl)
theorem afo:Rows.PrintTextUptoSaid:=
 OpenClaim.holds_of_cond 3 Tryz.f3 rfl rfl rfl rfl rfl rfl rfl ⟨rfl,rfl,rfl,rfl,rfl⟩ rfl rfl rfl rfl rfl ay Tryz.func3 Zx
  (xK ay) (by unfold Func.isWrapper;first|(rw[av (by decide+kernel)];kernel_rfl)|(rw[au (by decide+kernel)];exact⟨rfl,rfl⟩))
  (λos started H enc _ F=>by rw[OpenClaim.pre_eq_preRow];exact Zw os started H enc F)
theorem acB (f:FuncId)(fn:Func)(hf:Tryz.pinned.checked.prog.funcNamed "yardarm/yardarmlaw14.PrintText" =some f)(hfn:Tryz.pinned.checked.prog.funcs[f]?=some fn):
  true=Tryz.pinned.checked.prog.looks []/\∀(j:Nat) t,fn.params[j]?=some t->Tryz.pinned.checked.prog.wantsStandIn t=false:=by
 obtain rfl:f=3:=uX ((show Tryz.prog.funcNamed "yardarm/yardarmlaw14.PrintText" =some 3 by kernel_rfl).symm.trans hf)|>.symm;obtain rfl:fn=Tryz.f3:=(uX (Tryz.func3.symm.trans hfn)).symm;refine⟨by kernel_rfl,λj t ht=>?_⟩;rw[Tryz.params3] at ht;have hm:t=9:=by simpa using Array.mem_of_getElem? ht
 subst hm;exact(show Tryz.prog.wantsStandIn 9=false by kernel_rfl)
theorem print_text:Rows.PrintTextUptoCardSaid:=
 Claim7.holds_tied_plain_at .later [] _ _ _ _ afo (λ_ h=>by cases h) ay (λ_ h=>by cases h) printTextUpto_row_tie rfl ⟨rfl,rfl⟩ ay rfl acB ay
#print axioms print_text
end Go.Proofs.YtpeojoobplpcoaaGreatDoor
