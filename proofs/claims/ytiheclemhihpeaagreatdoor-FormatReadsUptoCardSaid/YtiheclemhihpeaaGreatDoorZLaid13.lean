import Derived.Test.YtiheclemhihpeaaGreatDoorZLs3
set_option linter.all false
set_option maxRecDepth 200000
set_option maxHeartbeats 8000000
namespace Yd
open Go Go.RowKit Go.Proofs
theorem AU {X:World}{b:Nat}{h h':HC}(a:Bx X b (aI h)):∃Z,Z=((((((((X.setCell ⟨b,0,none⟩ h'.t.v).setCell ⟨b,1,none⟩ h'.s.v).setCell ⟨b,2,none⟩ h'.o.v).setCell ⟨b,3,none⟩ h'.p.v).setCell ⟨b,4,none⟩ h'.e.v).setCell ⟨b,5,none⟩ h'.d.v).setCell ⟨b,6,none⟩ h'.m.v).setCell ⟨b,7,none⟩ h'.w.v)/\Bx Z b (aI h')/\Same (λi=>i≠b) X Z:=⟨_,rfl,lI a,iT⟩
theorem Vh {α:Type}{enc:α->List Value}{k:Nat}{X:World}{B:Nat}{T:TypeId}{a:Option Addr}{n c:Nat}{xs:List α}(h:Own X B T k enc (.slice a n c) xs){b o:Nat}(e:a=some ⟨b,o,none⟩):B<=b:=by
 rcases h.sJ with⟨q,_⟩|⟨g,q,_⟩
 .rw[q] at e;cases e
 .have:=(h.lt g (by rw[q];rfl)).1
  rw[q] at e;injection e with e;injection e with e;omega
def oD (s:Bs):Except (Int × Int) Cont:=match iP s with
 | .error x=> .error x
 | .ok r=>match qD iD 0 (r.map Prod.fst) with
  | .ok z=> .ok z
  | .error (i,n)=> .error ((r.map Prod.snd).getD i 0,n)
variable{s:Bs}
theorem MF {r:List (aK × Int)}(h:iP s= .ok r):r=(iH s (s.length+1) 0).map (λx=>(x.ln,x.fr)):=by
 unfold iP at h
 split at h
 .cases h
 .rcases qI s (s.length+1) 0 ah with⟨_,q⟩|⟨_,_,_,_,_,q⟩
  .rw[q] at h;injection h with h;exact h.symm
  .rw[q] at h;cases h
theorem CX {r:List (aK × Int)}(h:iP s= .ok r):r.length<=131073/\∀x∈r.map Prod.fst,x.names.length<=1000/\x.aM.length<=1000:=by
 have e:=MF h;have c:s.length<=131072:=by
  unfold iP at h
  split at h
  .cases h
  .omega
 subst e;refine⟨by rw[bC];have:=xC s (s.length+1) 0;omega,λx a=>?_⟩;rw[pV] at a;obtain⟨y,b,rfl⟩:=eZ.1 a;exact D9 s _ _ y b
theorem Kh {n m:Int}(h:iP s= .error (n,m)):m≠0:=by
 unfold iP at h
 split at h
 .injection h with h;injection h with _ h;rw[<-h];decide
 .rcases qI s (s.length+1) 0 ah with⟨_,q⟩|⟨_,x,_,_,a,q⟩
  .rw[q] at h;cases h
  .rw[q] at h;injection h with h;injection h with _ h;rw[<-h];exact a
theorem RF {a:List aK}{i:Nat}{n:Int}(h:qD iD 0 a= .error (i,n)):i<a.length/\n≠0:=by
 obtain⟨k,l,rfl,b,_,q⟩:=Ij a iD 0 i n h;refine⟨by have:=(bq.1 b).1;omega,?_⟩;rcases q with⟨rfl,_⟩|⟨rfl,_⟩ <;> decide
def CY (s:Bs)(w:World)(e:Ending)(X:World):Prop:=
 Below w.1.size w X/\
 match oD s with
 | .ok z=>∃h a b c,∃d:EvC->List Sn,∃f:aO->List Int,∃g:aP->List Int,e= .returned (.tuple #[fB h,.int .i64 (s.length:Int),.int .i64 0])/\gU X w.1.size h (fG z) a b c d f g
 | .error (n,m)=>e= .returned (.tuple #[fB gL,.int .i64 n,.int .i64 m])
def wm (w:World):Prop:=yR w/\yX w
theorem wm.below {w w':World}(h:wm w)(a:Below w.1.size w w'):wm w':=⟨h.1.below a,h.2.below a⟩
end Yd
namespace Yd
open Go Go.RowKit Go.Proofs Go.Lib Tryz
open Tryz renaming prog->A
open Value renaming int->C,string->D
open Go.Proofs.YtiheclemhihpeaaGreatDoor
section
variable {W:World}
theorem O5 {B:Nat}{b:Array (String × TypeId)}{t:TypeId}{cs:List Value}{y:DataW Unit × List MemPlace}(c:Tryz.prog.underlying t=some (.interface b))(h:DataW.trod (λ_=>()) A W 0 (λ_=>true) false B t cs=some y):
  ∃ev,cs=[ev]/\(ev= .nilIface\/∃d e,ev= .iface d e):=by
 cases B with
 |zero=>simp[DataW.trod] at h
 |succ B=>
  simp only[DataW.trod,c] at h
  split at h <;> first|exact⟨_,rfl,.inl rfl⟩|exact⟨_,rfl,.inr ⟨_,_,rfl⟩⟩|(rename_i a;cases a;done)|(cases h;done)|(rename_i a;simp at a;done)|skip
theorem N9 (h:VarReads A W "strconv.ErrRange" (Rows.laid_strconv_ErrRange:DataW Unit)):uQ W:=by
 obtain⟨c,_,_,t,a⟩:=sW (g:=6) (t:=211) h au au;obtain⟨b,d,e⟩:=O5 underlying211 t;exact⟨b,by rw[a,d];rfl,e⟩
theorem N8 (d:VarReads A W "unicode/utf8.first" Rows.laid_unicode_utf8_first)(e:VarReads A W "unicode/utf8.acceptRanges" Rows.laid_unicode_utf8_acceptRanges)
  (f:VarReads A W "yardarm/line.forms" Rows.laid_yardarm_line_forms) (h:VarReads A W "yardarm/line.guards" Rows.laid_yardarm_line_guards) (j:VarReads A W "yardarm/level.texts" Rows.laid_yardarm_level_texts) (l:VarReads A W "yardarm/history.limits" Rows.laid_yardarm_history_limits):mF W:=by
 have m:=utf8Tabs_of_reads lays260 Yl (NN▸d) (KZ▸e);obtain⟨v,_,_,n,b⟩:=sW (g:=0) (t:=119) f au au;obtain⟨w,_,_,o,p⟩:=sW (g:=3) (t:=214) h au au;obtain⟨x,_,_,q,r⟩:=sW (g:=1) (t:=166) j au au;obtain⟨y,_,_,s,u⟩:=sW (g:=2) (t:=174) l au au;refine⟨⟨m,λi a=>(by rw[u];exact K4 underlying174 s i a (by match i,a with|0,_=>rfl|1,_=>rfl|2,_=>rfl|3,_=>rfl))⟩,λk c=>?_,λi a=>?_,λi a=>?_⟩
 .rw[b,b,b]
  exact QM n k c (by match k,c with|0,_=>rfl|1,_=>rfl|2,_=>rfl|3,_=>rfl|4,_=>rfl|5,_=>rfl|6,_=>rfl|7,_=>rfl|8,_=>rfl|9,_=>rfl)
 .rw[p]
  exact K3 underlying214 o i a (by match i,a with|0,_=>rfl|1,_=>rfl|2,_=>rfl|3,_=>rfl)
 .rw[r]
  exact K3 underlying166 q i a (by match i,a with|0,_=>rfl|1,_=>rfl|2,_=>rfl|3,_=>rfl|4,_=>rfl)
theorem Oa (b:mF W)(c:VarReads A W "yardarm/format.limits" Rows.laid_yardarm_format_limits):ql W:=by
 obtain⟨f,_,_,d,e⟩:=sW (g:=4) (t:=174) c au au;exact⟨b.1.1,λi a=>(by rw[e];exact K4 underlying174 d i a (by match i,a with|0,_=>rfl|1,_=>rfl|2,_=>rfl|3,_=>rfl))⟩
end
def cellsD:Nat->DataW Unit->List Value
 |_,.lit (.int k i)=>[.int k i]
 |_,.lit (.string b)=>[.string ⟨b.toArray⟩]
 |f+1,.agg l=>l.flatMap (cellsD f)
 |_,_=>[]
def qY (cs:Array Value):Obj->Obj
 | .cells _ t frozen=> .cells cs t frozen
 |o=>o
noncomputable def Qh:Nat:=(World.holding A default ⟨#[],#[],[]⟩).1.size
noncomputable def Dq (os:Os):World:=
 let w0:=World.holding A os ⟨#[.cells #[.string ⟨#[118,97,108,117,101,32,111,117,116,32,111,102,32,114,97,110,103,101]⟩] 276,.cells #[.string ⟨#[105,110,118,97,108,105,100,32,115,121,110,116,97,120]⟩] 276],#[],[]⟩
 {w0 with heap:=(((((((((((w0.1.modify 7 (qY ((Lib.firstTab.map (λz=>C .u8 z)).toArray))).modify 8 (qY (((List.range 16).flatMap (λi=>[C .u8 (Lib.accLo i:Int),C .u8 (Lib.accHi i:Int)])).toArray))).modify
   0 (qY (((List.range 10).flatMap (λk=>[D ⟨(fw k).toArray⟩,C .i64 (eU k),C .i32 (iK k)])).toArray))).modify
   3 (qY (((List.range 4).map (λi=>D ⟨(uq i).toArray⟩)).toArray))).modify 1 (qY (((List.range 5).map (λi=>D ⟨(vU i).toArray⟩)).toArray))).modify
   10 (qY (cellsD 2 Rows.laid_math_bits_deBruijn32tab).toArray)).modify 11 (qY (cellsD 2 Rows.laid_math_bits_deBruijn64tab).toArray)).modify
   9 (qY (cellsD 2 Rows.laid_internal_strconv_uint64pow10).toArray)).modify 6 (qY #[.iface 274 (.pointer (some ⟨Qh,0,none⟩))])).modify 5 (qY #[.iface 274 (.pointer (some ⟨Qh+1,0,none⟩))])).modify 2 (qY (cellsD 2 Rows.laid_yardarm_history_limits).toArray)).modify 4 (qY (cellsD 2 Rows.laid_yardarm_format_limits).toArray)}
end Yd
