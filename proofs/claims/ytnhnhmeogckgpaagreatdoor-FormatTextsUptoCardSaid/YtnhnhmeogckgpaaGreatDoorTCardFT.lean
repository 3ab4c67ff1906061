/- FormatTexts returns true for every row of lines, and leaves its argument as it was, where it is of bulk at most 1048576 and the package's own tables hold what its text lays (tied). -/
import Derived.Test.YtnhnhmeogckgpaaGreatDoorTLaid13
set_option linter.all false
set_option maxRecDepth 200000
set_option maxHeartbeats 8000000
namespace Go.Proofs.YtnhnhmeogckgpaaGreatDoor
open Go Go.ChangeShapes Go.WideShapes Go.ChangeAt Go.RowKit Yd
theorem acv:ownKnob Tryz.prog.godebug=none:=au
theorem O3:laidOutB Tryz.prog=true:=au
theorem Zm {H:Type} {l:List (DataW H)} (hk:Rows.uptoSmall H l=true):Rows.uptoBulkAll l≤1048576:=of_decide_eq_true hk
theorem LX (H:Type) (enc:TypeId × Value→H) (W:World) (base:Nat) (args:Array Value) (ds gs:List (DataW H)) (before:List MemPlace)
  (hval:∀(j:Nat) t v,Tryz.f7.params[j]?=some t→args[j]?=some v→Value.okWide Tryz.prog W .any base t v)
  (hW:DataW.Whole enc Tryz.prog Tryz.f7.params.toList Rows.formatTextsSpec.vars false W args.toList ds gs before) (hk:Rows.uptoSmall H (ds++gs)=true) (hL:laidMetH Tryz.prog Rows.formatTextsUptoRow.laid W):
  Calls Tryz.prog 7 args W fun e W'=>∃v,e= .returned v∧Rows.formatTextsSpec.post enc Tryz.prog Tryz.f7 false true false false W args v W':=by
 have hW':=hW;have hlt:=hW.lt;obtain⟨p,q,hA0,hV,rfl,hfz,hnd⟩:=hW;have hA:DataW.TrodAll enc Tryz.prog W 0 (fun _=>true) true Tryz.f7.params.toList args.toList ds p:=hA0;rw[Tryz.params7] at hA hval;obtain⟨v0,d0,rfl,rfl,h0⟩:=trodAll_one hA;obtain⟨rfl,rfl⟩:=trodVars_none hV;clear hA0;simp only[List.append_nil] at hW' hk hlt;have hb:=Zm hk;simp only[Rows.uptoBulkAll,Nat.add_zero] at hb;obtain⟨sa,sl,sc,rfl⟩:=okWide_slice Tryz.underlying25 (hval 0 25 v0 rfl rfl);obtain⟨fuel,hf⟩:=id h0;obtain⟨a,c,aS,ls,hcs,hr,hl,hin⟩:=U6 (y:=(d0,p)) hf (by simp only[];omega);have hcs':(Value.slice sa sl sc)= .slice a aS.length c:=by injection hcs
 injection hcs' with e1 e2 e3;subst e1 e2 e3;rw[MakeChecks.laidMetH_plain _ _ _ au] at hL;have hg:=Vj (Lib.laidMet.reads hL (n:= "unicode/utf8.first") (by simp[Rows.formatTextsUptoRow])) (Lib.laidMet.reads hL (n:= "unicode/utf8.acceptRanges") (by simp[Rows.formatTextsUptoRow])) (Lib.laidMet.reads hL (n:= "yardarm/line.forms") (by simp[Rows.formatTextsUptoRow])) (Lib.laidMet.reads hL (n:= "yardarm/line.guards") (by simp[Rows.formatTextsUptoRow])) (Lib.laidMet.reads hL (n:= "yardarm/level.texts") (by simp[Rows.formatTextsUptoRow])) (Lib.laidMet.reads hL (n:= "yardarm/history.limits") (by simp[Rows.formatTextsUptoRow]));have he:=Vk (Lib.laidMet.reads hL (n:= "strconv.ErrRange") (by simp[Rows.formatTextsUptoRow]));have hf:=Vl hg (Lib.laidMet.reads hL (n:= "yardarm/format.limits") (by simp[Rows.formatTextsUptoRow]));have HC:Calls Tryz.prog 7 #[Value.slice sa aS.length sc] W (aW (.bool true) W):=by
  exact Ry sa sc aS ls W hr hl hin ⟨⟨hg,he⟩,hf,hg⟩
 refine HC.mono ?_;rintro e W' ⟨rfl,hbW⟩;refine⟨_,rfl,[d0],[],p,[],p,[],hW',trodAll_mk1 (shut_bool Tryz.underlying4 _),?_,rfl,hbW.frame _,fun h=>by cases h⟩;exact trodAll_mk1 (Below.trod O3 au (of_decide_eq_true au) h0 hbW (fun x hx=>hlt x (by first|exact hx|(simp;exact hx))))
def EM:Array Value:=#[.slice none 0 0]
theorem acw (os:Os):laidMet Tryz.prog Rows.formatTextsUptoRow.laid ((FK os).forCall (fun _ _=>0) ⟨#[],EM,[]⟩).memory:=
 laidMet_of_run' 8 au au
theorem Vm (os:Os) {H:Type} (enc:TypeId × Value→H):∃places,DataW.whole enc Tryz.prog ((FK os).forCall (fun _ _=>0) ⟨#[],EM,[]⟩).memory Tryz.f7.params.toList Rows.formatTextsSpec.vars false EM.toList 8=some ([.nil],[],places):=
 ⟨[],by kernel_rfl⟩
theorem Rz (os:Os) (started:os.Started) (H:Type) (enc:TypeId × Value→H) (F:Stop.Interp):
  ReturnsInHanded {} Tryz.checked os 7 .any ((Rows.OpenSpec.upto Rows.formatTextsSpec).preRow enc Tryz.prog Tryz.f7 Rows.formatTextsUptoRow.domain false Rows.formatTextsUptoRow.laid) (((Rows.OpenSpec.upto Rows.formatTextsSpec).at F).post enc Tryz.prog Tryz.f7 false true false false):=by
 obtain⟨places,hx⟩:=Vm os enc;refine returnsInHanded_of_row (C:=Tryz.checked) (s:=Rows.OpenSpec.upto Rows.formatTextsSpec) acv started au Tryz.func7
  (witness_row_at (enc:=enc) (C:=Tryz.checked) false (FK os) EM rfl au au au
   (OpenSpec.preRow_of_cond 8 hx au (fun k hk=>by cases hk;kernel_rfl) au (acw os))) ?_
 intro W base args ds gs before hval hW _ hcond _ hL _ _;exact LX H enc W base args ds gs before hval hW (hcond _ rfl) hL
theorem RA:joinedFacts Tryz.pinned.checked.prog 7 Tryz.f7 (Rows.OpenSpec.upto Rows.formatTextsSpec).bare Rows.formatTextsUptoRow=true:=by
 simp only[joinedFacts,Bool.and_eq_true]
 repeat' (refine And.intro ?_ ?_)
 all_goals (as_aux_lemma=>kernel_rfl)
theorem Zn:Rows.FormatTextsUptoSaid:=
 OpenClaim.holds_of_cond 7 Tryz.f7 rfl rfl rfl rfl rfl rfl rfl ⟨rfl,rfl,rfl,rfl,rfl⟩ rfl rfl rfl rfl rfl au Tryz.func7 RA
  (of_decide_eq_true au) (by unfold Func.isWrapper;first|(rw[if_pos (by decide+kernel)];kernel_rfl)|(rw[if_neg (by decide+kernel)];exact⟨rfl,rfl⟩))
  (fun os started H enc _ F=>by rw[OpenClaim.pre_eq_preRow];exact Rz os started H enc F)
theorem Vn (f:FuncId) (fn:Func) (hf:Tryz.pinned.checked.prog.funcNamed "yardarm/yardarmlaw13.FormatTexts" =some f) (hfn:Tryz.pinned.checked.prog.funcs[f]?=some fn):
  true=Tryz.pinned.checked.prog.looks []∧∀(j:Nat) t,fn.params[j]?=some t→Tryz.pinned.checked.prog.wantsStandIn t=false:=by
 obtain rfl:f=7:=Option.some.inj ((show Tryz.prog.funcNamed "yardarm/yardarmlaw13.FormatTexts" =some 7 by kernel_rfl).symm.trans hf)|>.symm;obtain rfl:fn=Tryz.f7:=(Option.some.inj (Tryz.func7.symm.trans hfn)).symm;refine⟨by kernel_rfl,fun j t ht=>?_⟩;rw[Tryz.params7] at ht;have hm:t=25:=by simpa using Array.mem_of_getElem? ht
 subst hm;exact(show Tryz.prog.wantsStandIn 25=false by kernel_rfl)
theorem format_texts:Rows.FormatTextsUptoCardSaid:=
 Claim7.holds_tied_plain_at .later [] _ _ _ _ Zn (fun _ h=>by cases h) au (fun _ h=>by cases h) formatTextsUpto_row_tie rfl ⟨rfl,rfl⟩ au rfl Vn au
#print axioms format_texts
end Go.Proofs.YtnhnhmeogckgpaaGreatDoor
