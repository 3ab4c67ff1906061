/- FormatApart returns true for every row of lines, and number, and leaves its arguments as they were, where these are of bulk at most 1048576 and the package's own tables hold what its text lays (tied). -/
import Derived.Test.YtnhnhmeogckgpaaGreatDoorApart
set_option linter.all false
set_option maxRecDepth 200000
set_option maxHeartbeats 8000000
namespace Go.Proofs.YtnhnhmeogckgpaaGreatDoor
open Go Go.ChangeShapes Go.WideShapes Go.ChangeAt Go.RowKit Yd
theorem abf:ownKnob Tryz.prog.godebug=none:=au
theorem Fh:laidOutB Tryz.prog=true:=au
theorem Gq {H:Type} {l:List (DataW H)} (hk:Rows.uptoSmall H l=true):Rows.uptoBulkAll l≤1048576:=of_decide_eq_true hk
theorem Mj (H:Type) (enc:TypeId × Value→H) (W:World) (base:Nat) (args:Array Value) (ds gs:List (DataW H)) (before:List MemPlace)
  (hval:∀(j:Nat) t v,Tryz.f6.params[j]?=some t→args[j]?=some v→Value.okWide Tryz.prog W .any base t v)
  (hW:DataW.Whole enc Tryz.prog Tryz.f6.params.toList Rows.formatApartSpec.vars false W args.toList ds gs before) (hk:Rows.uptoSmall H (ds++gs)=true) (hL:laidMetH Tryz.prog Rows.formatApartUptoRow.laid W):
  Calls Tryz.prog 6 args W fun e W'=>∃v,e= .returned v∧Rows.formatApartSpec.post enc Tryz.prog Tryz.f6 false true false false W args v W':=by
 have hW':=hW;have hlt:=hW.lt;obtain⟨p,q,Ry,hV,rfl,hfz,hnd⟩:=hW;have hA:DataW.TrodAll enc Tryz.prog W 0 (fun _=>true) true Tryz.f6.params.toList args.toList ds p:=Ry;rw[Tryz.params6] at hA hval;obtain⟨v0,v1,d0,d1,p0,p1,rfl,rfl,rfl,h0,h1⟩:=trodAll_two hA;obtain⟨rfl,rfl⟩:=trodVars_none hV;clear Ry;simp only[List.append_nil] at hW' hk hlt;have hb:=Gq hk;simp only[Rows.uptoBulkAll,Nat.add_zero] at hb;obtain⟨sa,sl,sc,rfl⟩:=okWide_slice Tryz.underlying25 (hval 0 25 v0 rfl rfl);obtain⟨fuel,hf⟩:=id h0;obtain⟨a,c,aR,ls,hcs,hr,hl,hin⟩:=U8 (y:=(d0,p0)) hf (by simp only[];omega);have hcs':(Value.slice sa sl sc)= .slice a aR.length c:=by injection hcs
 injection hcs' with e1 e2 e3;subst e1 e2 e3;obtain⟨n1,rfl⟩:=okWide_int Tryz.underlying3 (hval 1 3 v1 rfl rfl);rw[MakeChecks.laidMetH_plain _ _ _ au] at hL;have hg:=Kw (Lib.laidMet.reads hL (n:= "unicode/utf8.first") (by simp[Rows.formatApartUptoRow])) (Lib.laidMet.reads hL (n:= "unicode/utf8.acceptRanges") (by simp[Rows.formatApartUptoRow])) (Lib.laidMet.reads hL (n:= "yardarm/line.forms") (by simp[Rows.formatApartUptoRow])) (Lib.laidMet.reads hL (n:= "yardarm/line.guards") (by simp[Rows.formatApartUptoRow])) (Lib.laidMet.reads hL (n:= "yardarm/level.texts") (by simp[Rows.formatApartUptoRow])) (Lib.laidMet.reads hL (n:= "yardarm/history.limits") (by simp[Rows.formatApartUptoRow]));have he:=Ky (Lib.laidMet.reads hL (n:= "strconv.ErrRange") (by simp[Rows.formatApartUptoRow]));have hf:=Kz hg (Lib.laidMet.reads hL (n:= "yardarm/format.limits") (by simp[Rows.formatApartUptoRow]));have HC:Calls Tryz.prog 6 #[Value.slice sa aR.length sc,Value.int .i64 n1] W (bC (.bool true) W):=by
  exact Rl sa sc aR ls n1 W hr hl hin ⟨⟨hg,he⟩,hf,hg⟩
 refine HC.mono ?_;rintro e W' ⟨rfl,hbW⟩;refine⟨_,rfl,[d0,d1],[],p0++p1,[],p0++p1,[],hW',trodAll_mk1 (shut_bool Tryz.underlying4 _),?_,rfl,hbW.frame _,fun h=>by cases h⟩;exact trodAll_mk2 (Below.trod Fh au (of_decide_eq_true au) h0 hbW (fun x hx=>hlt x (by simp;exact .inl hx))) (Below.trod Fh au (of_decide_eq_true au) h1 hbW (fun x hx=>hlt x (by simp;exact .inr hx)))
def Fj:Array Value:=#[.slice none 0 0,.int .i64 0]
theorem abg (os:Os):laidMet Tryz.prog Rows.formatApartUptoRow.laid ((xW os).forCall (fun _ _=>0) ⟨#[],Fj,[]⟩).memory:=
 laidMet_of_run' 8 au au
theorem U9 (os:Os) {H:Type} (enc:TypeId × Value→H):∃places,DataW.whole enc Tryz.prog ((xW os).forCall (fun _ _=>0) ⟨#[],Fj,[]⟩).memory Tryz.f6.params.toList Rows.formatApartSpec.vars false Fj.toList 8=some ([.nil,.lit (.int .i64 0)],[],places):=
 ⟨[],by kernel_rfl⟩
theorem Rz (os:Os) (started:os.Started) (H:Type) (enc:TypeId × Value→H) (F:Stop.Interp):
  ReturnsInHanded {} Tryz.checked os 6 .any ((Rows.OpenSpec.upto Rows.formatApartSpec).preRow enc Tryz.prog Tryz.f6 Rows.formatApartUptoRow.domain false Rows.formatApartUptoRow.laid) (((Rows.OpenSpec.upto Rows.formatApartSpec).at F).post enc Tryz.prog Tryz.f6 false true false false):=by
 obtain⟨places,hx⟩:=U9 os enc;refine returnsInHanded_of_row (C:=Tryz.checked) (s:=Rows.OpenSpec.upto Rows.formatApartSpec) abf started au Tryz.func6
  (witness_row_at (enc:=enc) (C:=Tryz.checked) false (xW os) Fj rfl au au au
   (OpenSpec.preRow_of_cond 8 hx au (fun k hk=>by cases hk;kernel_rfl) au (abg os))) ?_
 intro W base args ds gs before hval hW _ hcond _ hL _ _;exact Mj H enc W base args ds gs before hval hW (hcond _ rfl) hL
theorem RA:joinedFacts Tryz.pinned.checked.prog 6 Tryz.f6 (Rows.OpenSpec.upto Rows.formatApartSpec).bare Rows.formatApartUptoRow=true:=by
 simp only[joinedFacts,Bool.and_eq_true]
 repeat' (refine And.intro ?_ ?_)
 all_goals (as_aux_lemma=>kernel_rfl)
theorem YN:Rows.FormatApartUptoSaid:=
 OpenClaim.holds_of_cond 6 Tryz.f6 rfl rfl rfl rfl rfl rfl rfl ⟨rfl,rfl,rfl,rfl,rfl⟩ rfl rfl rfl rfl rfl au Tryz.func6 RA
  (of_decide_eq_true au) (by unfold Func.isWrapper;first|(rw[if_pos (by decide+kernel)];kernel_rfl)|(rw[if_neg (by decide+kernel)];exact⟨rfl,rfl⟩))
  (fun os started H enc _ F=>by rw[OpenClaim.pre_eq_preRow];exact Rz os started H enc F)
theorem Va (f:FuncId) (fn:Func) (hf:Tryz.pinned.checked.prog.funcNamed "yardarm/yardarmlaw13.FormatApart" =some f) (hfn:Tryz.pinned.checked.prog.funcs[f]?=some fn):
  true=Tryz.pinned.checked.prog.looks []∧∀(j:Nat) t,fn.params[j]?=some t→Tryz.pinned.checked.prog.wantsStandIn t=false:=by
 obtain rfl:f=6:=Option.some.inj ((show Tryz.prog.funcNamed "yardarm/yardarmlaw13.FormatApart" =some 6 by kernel_rfl).symm.trans hf)|>.symm;obtain rfl:fn=Tryz.f6:=(Option.some.inj (Tryz.func6.symm.trans hfn)).symm;refine⟨by kernel_rfl,fun j t ht=>?_⟩;rw[Tryz.params6] at ht;have hm:t=25∨t=3:=by simpa using Array.mem_of_getElem? ht
 rcases hm with rfl|rfl
 ·exact(show Tryz.prog.wantsStandIn 25=false by kernel_rfl)
 ·exact(show Tryz.prog.wantsStandIn 3=false by kernel_rfl)
theorem format_apart:Rows.FormatApartUptoCardSaid:=
 Claim7.holds_tied_plain_at .later [] _ _ _ _ YN (fun _ h=>by cases h) au (fun _ h=>by cases h) formatApartUpto_row_tie rfl ⟨rfl,rfl⟩ au rfl Va au
#print axioms format_apart
end Go.Proofs.YtnhnhmeogckgpaaGreatDoor
