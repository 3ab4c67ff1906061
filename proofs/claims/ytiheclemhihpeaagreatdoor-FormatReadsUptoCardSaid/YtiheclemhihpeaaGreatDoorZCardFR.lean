/- FormatReads returns true for every row of texts, and leaves its argument as it was, where it is of bulk at most 1048576 and the package's own tables hold what its text lays (tied). -/
import Derived.Test.YtiheclemhihpeaaGreatDoorZLawFR
set_option linter.all false
set_option maxRecDepth 200000
set_option maxHeartbeats 8000000
namespace Go.Proofs.YtiheclemhihpeaaGreatDoor
open Go Go.ChangeShapes Go.WideShapes Go.ChangeAt Go.RowKit Yd
theorem TW:ownKnob Tryz.prog.godebug=none:=au
theorem JC:laidOutB Tryz.prog=true:=au
theorem QY {α:Type}{l:List (DataW α)}(a:Rows.uptoSmall α l=true):Rows.uptoBulkAll l<=1048576:=oH a
theorem GJ (d:Type)(enc:TypeId × Value->d)(W:World)(S:Nat)(args:Array Value)(f s:List (DataW d))(T:List MemPlace)
  (u:∀(j:Nat) t v,Tryz.f3.params[j]?=some t->args[j]?=some v->Value.okWide Tryz.prog W .any S t v)
  (g:DataW.Whole enc Tryz.prog Tryz.f3.params.toList Rows.formatReadsSpec.vars false W args.toList f s T) (w:Rows.uptoSmall d (f++s)=true) (b:laidMetH Tryz.prog Rows.formatReadsUptoRow.laid W):
  Calls Tryz.prog 3 args W λe z=>∃v,e= .returned v/\Rows.formatReadsSpec.post enc Tryz.prog Tryz.f3 false true false false W args v z:=by
 have A:=g;have B:=g.lt;obtain⟨p,q,E,X,rfl,γ,δ⟩:=g;have F:DataW.TrodAll enc Tryz.prog W 0 (λ_=>true) true Tryz.f3.params.toList args.toList f p:=E;rw[Tryz.params3] at F u;obtain⟨Y,K,rfl,rfl,P⟩:=trodAll_one F;obtain⟨rfl,rfl⟩:=trodVars_none X;clear E;simp only[eG] at A w B;have Z:=QY w;simp only[Rows.uptoBulkAll,bK] at Z;obtain⟨i,k,m,rfl⟩:=okWide_slice Tryz.underlying22 (u 0 22 Y rfl rfl);obtain⟨ε,o⟩:=id P;obtain⟨⟨a,l,c⟩,xs,α,hr,_,_⟩:=Jm (hc:=gy) (N:=1048576) (y:=(K,p)) aj Tryz.underlying22 Jo TF o (by simp only[];omega);have β:(Value.slice i k m)= .slice a l c:=by injection α
 injection β with e1 e2 e3;subst e1 e2 e3;rw[MakeChecks.laidMetH_plain _ _ _ au] at b;have r:=N8 (Lib.laidMet.reads b (n:= "unicode/utf8.first") (by simp[Rows.formatReadsUptoRow])) (Lib.laidMet.reads b (n:= "unicode/utf8.acceptRanges") (by simp[Rows.formatReadsUptoRow])) (Lib.laidMet.reads b (n:= "yardarm/line.forms") (by simp[Rows.formatReadsUptoRow])) (Lib.laidMet.reads b (n:= "yardarm/line.guards") (by simp[Rows.formatReadsUptoRow])) (Lib.laidMet.reads b (n:= "yardarm/level.texts") (by simp[Rows.formatReadsUptoRow])) (Lib.laidMet.reads b (n:= "yardarm/history.limits") (by simp[Rows.formatReadsUptoRow]));have he:=N9 (Lib.laidMet.reads b (n:= "strconv.ErrRange") (by simp[Rows.formatReadsUptoRow]));have o:=Oa r (Lib.laidMet.reads b (n:= "yardarm/format.limits") (by simp[Rows.formatReadsUptoRow]));have HC:Calls Tryz.prog 3 #[Value.slice i k m] W (bT (.bool true) W):=by
  exact JD i k m xs W hr ⟨⟨r,he⟩,o,r⟩
 refine HC.mono ?_;rintro e z ⟨rfl,Q⟩;refine⟨_,rfl,[K],[],p,[],p,[],A,trodAll_mk1 (shut_bool Tryz.underlying4 _),?_,rfl,Q.frame _,λh=>by cases h⟩;exact trodAll_mk1 (Below.trod JC au (oH au) P Q (λx R=>B x (by first|exact R|(simp;exact R))))
def Cw:Array Value:=#[.slice none 0 0]
theorem TY (a:Os):laidMet Tryz.prog Rows.formatReadsUptoRow.laid ((Dq a).forCall (λ_ _=>0) ⟨#[],Cw,[]⟩).memory:=
 laidMet_of_run' 8 au au
theorem Ob (a:Os){α:Type}(enc:TypeId × Value->α):∃b,DataW.whole enc Tryz.prog ((Dq a).forCall (λ_ _=>0) ⟨#[],Cw,[]⟩).memory Tryz.f3.params.toList Rows.formatReadsSpec.vars false Cw.toList 8=some ([.nil],[],b):=
 ⟨[],by kernel_rfl⟩
theorem Li (a:Os)(c:a.Started)(b:Type)(enc:TypeId × Value->b)(F:Stop.Interp):
  ReturnsInHanded {} Tryz.checked a 3 .any ((Rows.OpenSpec.upto Rows.formatReadsSpec).preRow enc Tryz.prog Tryz.f3 Rows.formatReadsUptoRow.domain false Rows.formatReadsUptoRow.laid) (((Rows.OpenSpec.upto Rows.formatReadsSpec).at F).post enc Tryz.prog Tryz.f3 false true false false):=by
 obtain⟨m,d⟩:=Ob a enc;refine returnsInHanded_of_row (C:=Tryz.checked) (s:=Rows.OpenSpec.upto Rows.formatReadsSpec) TW c au Tryz.func3
  (witness_row_at (enc:=enc) (C:=Tryz.checked) false (Dq a) Cw rfl au au au
   (OpenSpec.preRow_of_cond 8 d au (λk e=>by cases e;kernel_rfl) au (TY a))) ?_
 intro W base args f g before h i _ j _ l _ _;exact GJ b enc W base args f g before h i (j _ rfl) l
theorem Lj:joinedFacts Tryz.pinned.checked.prog 3 Tryz.f3 (Rows.OpenSpec.upto Rows.formatReadsSpec).bare Rows.formatReadsUptoRow=true:=by
 simp only[joinedFacts,bD]
 repeat' (refine And.intro ?_ ?_)
 all_goals (as_aux_lemma=>kernel_rfl)
theorem QZ:Rows.FormatReadsUptoSaid:=
 OpenClaim.holds_of_cond 3 Tryz.f3 rfl rfl rfl rfl rfl rfl rfl ⟨rfl,rfl,rfl,rfl,rfl⟩ rfl rfl rfl rfl rfl au Tryz.func3 Lj
  (oH au) (by unfold Func.isWrapper;first|(rw[aA (by decide+kernel)];kernel_rfl)|(rw[ay (by decide+kernel)];exact⟨rfl,rfl⟩))
  (λa b c d _ F=>by rw[OpenClaim.pre_eq_preRow];exact Li a b c d F)
theorem Oc (f:FuncId)(a:Func)(c:Tryz.pinned.checked.prog.funcNamed "yardarm/yardarmlaw13.FormatReads" =some f)(d:Tryz.pinned.checked.prog.funcs[f]?=some a):
  true=Tryz.pinned.checked.prog.looks []/\∀(j:Nat) t,a.params[j]?=some t->Tryz.pinned.checked.prog.wantsStandIn t=false:=by
 obtain rfl:f=3:=qQ ((show Tryz.prog.funcNamed "yardarm/yardarmlaw13.FormatReads" =some 3 by kernel_rfl).symm.trans c)|>.symm;obtain rfl:a=Tryz.f3:=(qQ (Tryz.func3.symm.trans d)).symm;refine⟨by kernel_rfl,λj t b=>?_⟩;rw[Tryz.params3] at b;have e:t=22:=by simpa using Array.mem_of_getElem? b
 subst e;exact(show Tryz.prog.wantsStandIn 22=false by kernel_rfl)
theorem format_reads:Rows.FormatReadsUptoCardSaid:=
 Claim7.holds_tied_plain_at .later [] _ _ _ _ QZ (λ_ h=>by cases h) au (λ_ h=>by cases h) formatReadsUpto_row_tie rfl ⟨rfl,rfl⟩ au rfl Oc au
#print axioms format_reads
end Go.Proofs.YtiheclemhihpeaaGreatDoor
