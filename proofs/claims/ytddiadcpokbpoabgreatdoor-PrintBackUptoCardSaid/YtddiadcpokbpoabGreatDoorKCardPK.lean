/- PrintBack returns true for every history, and leaves its argument as it was, where it is of bulk at most 1048576 and the package's own tables hold what its text lays (tied). -/
import Derived.Test.YtddiadcpokbpoabGreatDoorKLaid13
set_option linter.all false
set_option maxRecDepth 200000
set_option maxHeartbeats 8000000
namespace Go.Proofs.YtddiadcpokbpoabGreatDoor
open Go Go.ChangeShapes Go.WideShapes Go.ChangeAt Go.RowKit Yd
theorem WJ:ownKnob Tryz.prog.godebug=none:=ay
theorem Ms:laidOutB Tryz.prog=true:=ay
theorem UG {α:Type}{l:List (DataW α)}(a:Rows.uptoSmall α l=true):Rows.uptoBulkAll l<=1048576:=rJ a
theorem JY (b:Type)(enc:TypeId × Value->b)(W:World)(P:Nat)(args:Array Value)(c k:List (DataW b))(Q:List MemPlace)
  (l:∀(j:Nat) t v,Tryz.f3.params[j]?=some t->args[j]?=some v->Value.okWide Tryz.prog W .any P t v)
  (d:DataW.Whole enc Tryz.prog Tryz.f3.params.toList Rows.printBackSpec.vars false W args.toList c k Q) (m:Rows.uptoSmall b (c++k)=true) (a:laidMetH Tryz.prog Rows.printBackUptoRow.laid W):
  Calls Tryz.prog 3 args W λe o=>∃v,e= .returned v/\Rows.printBackSpec.post enc Tryz.prog Tryz.f3 false true false false W args v o:=by
 have r:=d;have s:=d.lt;obtain⟨p,q,u,R,rfl,γ,δ⟩:=d;have w:DataW.TrodAll enc Tryz.prog W 0 (λ_=>true) true Tryz.f3.params.toList args.toList c p:=u;rw[Tryz.params3] at w l;obtain⟨S,z,rfl,rfl,A⟩:=trodAll_one w;obtain⟨rfl,rfl⟩:=trodVars_none R;clear u;simp only[dm] at r m s;have B:=UG m;simp only[Rows.uptoBulkAll,dB] at B;obtain⟨f,rfl,ε⟩:=okWide_struct Tryz.underlying28 (l 0 28 S rfl rfl);obtain⟨ζ,T⟩:=id A;obtain⟨g,X,Y,Z,ms,qs,α,dn,mn,E,hn,hd,hB⟩:=NU (y:=(z,p)) T B;have β:f=aD g:=by
  have:(Value.agg f).cells=f:=rfl;rw[this] at E;exact Array.toList_inj.1 E
 subst β;rw[MakeChecks.laidMetH_plain _ _ _ ay] at a;have i:=Qo (Lib.laidMet.reads a (n:= "unicode/utf8.first") (by simp[Rows.printBackUptoRow])) (Lib.laidMet.reads a (n:= "unicode/utf8.acceptRanges") (by simp[Rows.printBackUptoRow])) (Lib.laidMet.reads a (n:= "yardarm/line.forms") (by simp[Rows.printBackUptoRow])) (Lib.laidMet.reads a (n:= "yardarm/line.guards") (by simp[Rows.printBackUptoRow])) (Lib.laidMet.reads a (n:= "yardarm/level.texts") (by simp[Rows.printBackUptoRow])) (Lib.laidMet.reads a (n:= "yardarm/history.limits") (by simp[Rows.printBackUptoRow]));have he:=Qn (Lib.laidMet.reads a (n:= "strconv.ErrRange") (by simp[Rows.printBackUptoRow]));have hf:=Qq i (Lib.laidMet.reads a (n:= "yardarm/format.limits") (by simp[Rows.printBackUptoRow]));have HC:Calls Tryz.prog 3 #[Value.agg (aD g)] W (cO (.bool true) W):=NN g X Y Z ms qs α dn mn W ⟨⟨i,he⟩,hf,i⟩ hn hd hB;refine HC.mono ?_;rintro e o ⟨rfl,F⟩;refine⟨_,rfl,[z],[],p,[],p,[],r,trodAll_mk1 (shut_bool Tryz.underlying4 _),?_,rfl,F.frame _,λh=>by cases h⟩;exact trodAll_mk1 (Below.trod Ms ay (rJ ay) A F (λx K=>s x (by first|exact K|(simp;exact K))))
def D9:Array Value:=#[.agg #[.slice none 0 0,.slice none 0 0,.slice none 0 0,.slice none 0 0,.slice none 0 0,.slice none 0 0,.slice none 0 0,.slice none 0 0]]
theorem WK (a:Os):laidMet Tryz.prog Rows.printBackUptoRow.laid ((Eu a).forCall (λ_ _=>0) ⟨#[],D9,[]⟩).memory:=
 laidMet_of_run' 8 ay ay
theorem Rl (a:Os){α:Type}(enc:TypeId × Value->α):∃b,DataW.whole enc Tryz.prog ((Eu a).forCall (λ_ _=>0) ⟨#[],D9,[]⟩).memory Tryz.f3.params.toList Rows.printBackSpec.vars false D9.toList 8=some ([.agg [.nil,.nil,.nil,.nil,.nil,.nil,.nil,.nil]],[],b):=
 ⟨[],by kernel_rfl⟩
theorem OW (a:Os)(c:a.Started)(b:Type)(enc:TypeId × Value->b)(F:Stop.Interp):
  ReturnsInHanded {} Tryz.checked a 3 .any ((Rows.OpenSpec.upto Rows.printBackSpec).preRow enc Tryz.prog Tryz.f3 Rows.printBackUptoRow.domain false Rows.printBackUptoRow.laid) (((Rows.OpenSpec.upto Rows.printBackSpec).at F).post enc Tryz.prog Tryz.f3 false true false false):=by
 obtain⟨m,d⟩:=Rl a enc;refine returnsInHanded_of_row (C:=Tryz.checked) (s:=Rows.OpenSpec.upto Rows.printBackSpec) WJ c ay Tryz.func3
  (witness_row_at (enc:=enc) (C:=Tryz.checked) false (Eu a) D9 rfl ay ay ay
   (OpenSpec.preRow_of_cond 8 d ay (λk e=>by cases e;kernel_rfl) ay (WK a))) ?_
 intro W base args f g before h i _ j _ l _ _;exact JY b enc W base args f g before h i (j _ rfl) l
theorem OX:joinedFacts Tryz.pinned.checked.prog 3 Tryz.f3 (Rows.OpenSpec.upto Rows.printBackSpec).bare Rows.printBackUptoRow=true:=by
 simp only[joinedFacts,aM]
 repeat' (refine And.intro ?_ ?_)
 all_goals (as_aux_lemma=>kernel_rfl)
theorem UH:Rows.PrintBackUptoSaid:=
 OpenClaim.holds_of_cond 3 Tryz.f3 rfl rfl rfl rfl rfl rfl rfl ⟨rfl,rfl,rfl,rfl,rfl⟩ rfl rfl rfl rfl rfl ay Tryz.func3 OX
  (rJ ay) (by unfold Func.isWrapper;first|(rw[av (by decide+kernel)];kernel_rfl)|(rw[au (by decide+kernel)];exact⟨rfl,rfl⟩))
  (λa b c d _ F=>by rw[OpenClaim.pre_eq_preRow];exact OW a b c d F)
theorem Rm (f:FuncId)(a:Func)(c:Tryz.pinned.checked.prog.funcNamed "yardarm/yardarmlaw14.PrintBack" =some f)(d:Tryz.pinned.checked.prog.funcs[f]?=some a):
  true=Tryz.pinned.checked.prog.looks []/\∀(j:Nat) t,a.params[j]?=some t->Tryz.pinned.checked.prog.wantsStandIn t=false:=by
 obtain rfl:f=3:=qO ((show Tryz.prog.funcNamed "yardarm/yardarmlaw14.PrintBack" =some 3 by kernel_rfl).symm.trans c)|>.symm;obtain rfl:a=Tryz.f3:=(qO (Tryz.func3.symm.trans d)).symm;refine⟨by kernel_rfl,λj t b=>?_⟩;rw[Tryz.params3] at b;obtain rfl:t=28:=by simpa using Array.mem_of_getElem? b
 exact(show Tryz.prog.wantsStandIn 28=false by kernel_rfl)
theorem print_back_true:Rows.PrintBackUptoCardSaid:=
 Claim7.holds_tied_plain_at .later [] _ _ _ _ UH (λ_ h=>by cases h) ay (λ_ h=>by cases h) printBackUpto_row_tie rfl ⟨rfl,rfl⟩ ay rfl Rm ay
#print axioms print_back_true
end Go.Proofs.YtddiadcpokbpoabGreatDoor
