/- FormatLines returns true for every row of lines, and number, and leaves its arguments as they were, where these are of bulk at most 1048576 and the package's own tables hold what its text lays (tied). -/
import Derived.Test.YtddiadcpokbpoaaGreatDoorLLaid13
set_option linter.all false
set_option maxRecDepth 200000
set_option maxHeartbeats 8000000
namespace Go.Proofs.YtddiadcpokbpoaaGreatDoor
open Go Go.ChangeShapes Go.WideShapes Go.ChangeAt Go.RowKit Yd
theorem ahb:ownKnob Tryz.prog.godebug=none:=av
theorem KN:laidOutB Tryz.prog=true:=av
theorem ad7 {H:Type}{l:List (DataW H)}(hk:Rows.uptoSmall H l=true):Rows.uptoBulkAll l<=1048576:=xY hk
theorem QW (H:Type)(enc:TypeId × Value->H)(W:World)(base:Nat)(args:Array Value)(ds gs:List (DataW H))(before:List MemPlace)
  (hval:∀(j:Nat) t v,Tryz.f3.params[j]?=some t->args[j]?=some v->Value.okWide Tryz.prog W .any base t v)
  (hW:DataW.Whole enc Tryz.prog Tryz.f3.params.toList Rows.formatLinesSpec.vars false W args.toList ds gs before) (hk:Rows.uptoSmall H (ds++gs)=true) (hL:laidMetH Tryz.prog Rows.formatLinesUptoRow.laid W):
  Calls Tryz.prog 3 args W λe W'=>∃v,e= .returned v/\Rows.formatLinesSpec.post enc Tryz.prog Tryz.f3 false true false false W args v W':=by
 have hW':=hW;have hlt:=hW.lt;obtain⟨p,q,hA0,hV,rfl,hfz,hnd⟩:=hW;have hA:DataW.TrodAll enc Tryz.prog W 0 (λ_=>true) true Tryz.f3.params.toList args.toList ds p:=hA0;rw[Tryz.params3] at hA hval;obtain⟨v0,v1,d0,d1,p0,p1,rfl,rfl,rfl,h0,h1⟩:=trodAll_two hA;obtain⟨rfl,rfl⟩:=trodVars_none hV;clear hA0;simp only[fw] at hW' hk hlt;have hb:=ad7 hk;simp only[Rows.uptoBulkAll,bM] at hb;obtain⟨sa,sl,sc,rfl⟩:=okWide_slice Tryz.underlying22 (hval 0 22 v0 rfl rfl);obtain⟨fuel,hf⟩:=id h0;obtain⟨a,c,aW,ls,hcs,hr,hl,hin⟩:=YR (y:=(d0,p0)) hf (by simp only[];omega);have hcs':(Value.slice sa sl sc)= .slice a aW.length c:=by injection hcs
 injection hcs' with e1 e2 e3;subst e1 e2 e3;obtain⟨n1,rfl⟩:=okWide_int Tryz.underlying3 (hval 1 3 v1 rfl rfl);rw[MakeChecks.laidMetH_plain _ _ _ av] at hL;have hg:=aak (Lib.laidMet.reads hL (n:= "unicode/utf8.first") (by simp[Rows.formatLinesUptoRow])) (Lib.laidMet.reads hL (n:= "unicode/utf8.acceptRanges") (by simp[Rows.formatLinesUptoRow])) (Lib.laidMet.reads hL (n:= "yardarm/line.forms") (by simp[Rows.formatLinesUptoRow])) (Lib.laidMet.reads hL (n:= "yardarm/line.guards") (by simp[Rows.formatLinesUptoRow])) (Lib.laidMet.reads hL (n:= "yardarm/level.texts") (by simp[Rows.formatLinesUptoRow])) (Lib.laidMet.reads hL (n:= "yardarm/history.limits") (by simp[Rows.formatLinesUptoRow]));have he:=aaj (Lib.laidMet.reads hL (n:= "strconv.ErrRange") (by simp[Rows.formatLinesUptoRow]));have hf:=aal hg (Lib.laidMet.reads hL (n:= "yardarm/format.limits") (by simp[Rows.formatLinesUptoRow]));have HC:Calls Tryz.prog 3 #[Value.slice sa aW.length sc,Value.int .i64 n1] W (cK (.bool true) W):=by
  exact QS ZM sa sc aW ls n1 W hr hl hin ⟨⟨hg,he⟩,hf,hg⟩
 refine HC.mono ?_;rintro e W' ⟨rfl,hbW⟩;refine⟨_,rfl,[d0,d1],[],p0++p1,[],p0++p1,[],hW',trodAll_mk1 (shut_bool Tryz.underlying4 _),?_,rfl,hbW.frame _,λh=>by cases h⟩;exact trodAll_mk2 (Below.trod KN av (xY av) h0 hbW (λx hx=>hlt x (by simp;exact .inl hx))) (Below.trod KN av (xY av) h1 hbW (λx hx=>hlt x (by simp;exact .inr hx)))
def KO:Array Value:=#[.slice none 0 0,.int .i64 0]
theorem ahc (os:Os):laidMet Tryz.prog Rows.formatLinesUptoRow.laid ((Ld os).forCall (λ_ _=>0) ⟨#[],KO,[]⟩).memory:=
 laidMet_of_run' 8 av av
theorem aax (os:Os){H:Type}(enc:TypeId × Value->H):∃places,DataW.whole enc Tryz.prog ((Ld os).forCall (λ_ _=>0) ⟨#[],KO,[]⟩).memory Tryz.f3.params.toList Rows.formatLinesSpec.vars false KO.toList 8=some ([.nil,.lit (.int .i64 0)],[],places):=
 ⟨[],by kernel_rfl⟩
theorem XJ (os:Os)(started:os.Started)(H:Type)(enc:TypeId × Value->H)(F:Stop.Interp):
  ReturnsInHanded {} Tryz.checked os 3 .any ((Rows.OpenSpec.upto Rows.formatLinesSpec).preRow enc Tryz.prog Tryz.f3 Rows.formatLinesUptoRow.domain false Rows.formatLinesUptoRow.laid) (((Rows.OpenSpec.upto Rows.formatLinesSpec).at F).post enc Tryz.prog Tryz.f3 false true false false):=by
 obtain⟨places,hx⟩:=aax os enc;refine returnsInHanded_of_row (C:=Tryz.checked) (s:=Rows.OpenSpec.upto Rows.formatLinesSpec) ahb started av Tryz.func3
  (witness_row_at (enc:=enc) (C:=Tryz.checked) false (Ld os) KO rfl av av av
   (OpenSpec.preRow_of_cond 8 hx av (λk hk=>by cases hk;kernel_rfl) av (ahc os))) ?_
 intro W base args ds gs before hval hW _ hcond _ hL _ _;exact QW H enc W base args ds gs before hval hW (hcond _ rfl) hL
theorem XK:joinedFacts Tryz.pinned.checked.prog 3 Tryz.f3 (Rows.OpenSpec.upto Rows.formatLinesSpec).bare Rows.formatLinesUptoRow=true:=by
 simp only[joinedFacts,aU]
 repeat' (refine And.intro ?_ ?_)
 all_goals (as_aux_lemma=>kernel_rfl)
theorem ad8:Rows.FormatLinesUptoSaid:=
 OpenClaim.holds_of_cond 3 Tryz.f3 rfl rfl rfl rfl rfl rfl rfl ⟨rfl,rfl,rfl,rfl,rfl⟩ rfl rfl rfl rfl rfl av Tryz.func3 XK
  (xY av) (by unfold Func.isWrapper;first|(rw[ay (by decide+kernel)];kernel_rfl)|(rw[ak (by decide+kernel)];exact⟨rfl,rfl⟩))
  (λos started H enc _ F=>by rw[OpenClaim.pre_eq_preRow];exact XJ os started H enc F)
theorem aay (f:FuncId)(fn:Func)(hf:Tryz.pinned.checked.prog.funcNamed "yardarm/yardarmlaw13.FormatLines" =some f)(hfn:Tryz.pinned.checked.prog.funcs[f]?=some fn):
  true=Tryz.pinned.checked.prog.looks []/\∀(j:Nat) t,fn.params[j]?=some t->Tryz.pinned.checked.prog.wantsStandIn t=false:=by
 obtain rfl:f=3:=xW ((show Tryz.prog.funcNamed "yardarm/yardarmlaw13.FormatLines" =some 3 by kernel_rfl).symm.trans hf)|>.symm;obtain rfl:fn=Tryz.f3:=(xW (Tryz.func3.symm.trans hfn)).symm;refine⟨by kernel_rfl,λj t ht=>?_⟩;rw[Tryz.params3] at ht;have hm:t=22\/t=3:=by simpa using Array.mem_of_getElem? ht
 rcases hm with rfl|rfl
 .exact(show Tryz.prog.wantsStandIn 22=false by kernel_rfl)
 .exact(show Tryz.prog.wantsStandIn 3=false by kernel_rfl)
theorem format_lines:Rows.FormatLinesUptoCardSaid:=
 Claim7.holds_tied_plain_at .later [] _ _ _ _ ad8 (λ_ h=>by cases h) av (λ_ h=>by cases h) formatLinesUpto_row_tie rfl ⟨rfl,rfl⟩ av rfl aay av
#print axioms format_lines
end Go.Proofs.YtddiadcpokbpoaaGreatDoor
