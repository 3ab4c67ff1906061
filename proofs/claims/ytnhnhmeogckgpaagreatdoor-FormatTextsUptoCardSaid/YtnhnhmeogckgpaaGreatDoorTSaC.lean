import Derived.Test.YtnhnhmeogckgpaaGreatDoorTFm14
import Derived.Test.YtnhnhmeogckgpaaGreatDoorTOf0
import Derived.Test.YtnhnhmeogckgpaaGreatDoorTTxB
set_option linter.all false
set_option maxRecDepth 200000
set_option maxHeartbeats 8000000
namespace Yd
open Option renaming some→j,none→m
open Go Go.RowKit Go.Proofs Tryz
open Below renaming heap_alloc→D,refl→E
open Go renaming World→r,callFunc→u,Value→y
open Go.Value renaming pointer→o,bool→p,int→A,slice→C
open Tryz renaming prog→g
open World renaming alloc_heap_new→z
open _root_ renaming Array→x
def NR (B:Nat) (w:r):Prop:=∀W,Same (fun i=>i<B) w W→pY W
def wm (B R:Nat) (d:Cont) (w:r) (e:Ending) (w':r):Prop:=
 Same (fun i=>i<B) w w'∧(aD d→e= .returned (p true)∧∃cs es ds ms,gq B w' R cs d es ds ms)∧(¬aD d→e= .returned (p false))
theorem TP (l:aV) (w:r):Calls g 97 #[gu l] w fun e w'=>e= .returned (.tuple #[])∧Below w.heap.size w w':=by
 have HB:=hid (av (E w.heap.size w) (.cells (gI l) 34));obtain⟨lk,la,ln,nc,lvl,va,vn,vc,lf,bits⟩:=l;go_enter func97,ntmps97;go_wp2_with fail;refine bodyPost_end (results_none rfl _ _ _) rfl ?_;exact⟨rfl,HB.q⟩
theorem IK {B R:Nat} {d:Cont} {b:Bool} (tmps:x y) (w w':r) (h4:tmps[4]?.getD undef= o (j ⟨w.heap.size+1,0,m⟩)) (h1:Bx w' (w.heap.size+1) #[p b]) (hr:wm B R d w (.returned (p b)) w'):
  Leaves g Tryz.f43 tmps (wm B R d w) [] .returning w':=by
 have a0:=h1.1 0;refine⟨p b,?_,hr⟩;simp[results,results43,go_sem,h4,a0]
theorem sw.below {w w':r} {B:Nat} {l:aV} {s:aB} (h:sw w B l s) (hb:Below w.heap.size w w'):sw w' B l s:=⟨h.k,h.n.below hb rfl,h.v.below hb rfl,h.na,h.va⟩
section
variable {B R:Nat} {cs:x y} {c:Cont} {es:List EvC} {ds:List aH} {ms:List aI}
@[reducible] def adds (R:Nat):x y:=#[.func (.func 97) #[] #[],.func (.func 98) #[o (j ⟨R,0,m⟩)] #[],.func (.func 99) #[o (j ⟨R,0,m⟩)] #[],.func (.func 100) #[o (j ⟨R,0,m⟩)] #[],.func (.func 101) #[o (j ⟨R,0,m⟩)] #[],.func (.func 102) #[o (j ⟨R,0,m⟩)] #[],.func (.func 102) #[o (j ⟨R,0,m⟩)] #[],.func (.func 103) #[o (j ⟨R,0,m⟩)] #[],.func (.func 104) #[o (j ⟨R,0,m⟩)] #[],.func (.func 105) #[o (j ⟨R,0,m⟩)] #[]]
theorem mK (l:aV) (s:aB) (w:r) (k F:Nat) (fa:x y) (h:gq B w R cs c es ds ms) (hl:sw w B l s) (hG:NR B w) (hk:s.kind=(k:Int)) (Cr:k<10) (hF:(adds R)[k]?=j (.func (.func F) fa #[]))
  (eg:∀args w,(u F args).run g w= .ok (.enter F args) w)
  (hS:∀W K,gq B W R cs c es ds ms→sw W B l s→jX B K W→kU W K→R<K→Calls g F (fa++#[gu l]) W (dU B K R (aG c s) W)):
  Calls g 43 #[o (j ⟨R,0,m⟩),gu l] w (wm B R (aG c s) w):=by
 have IL:∀(fn:Fn) (first cap:x y) (w:r),(Instr.makeFunc fn first cap).run g w= .ok (.func fn first cap) w:=fun _ _ _ _=>rfl
 have hkl:=hl.k.1;rw[hk] at hkl;obtain⟨kd,la,ln,nc,lvl,va,vn,vc,lf,bits⟩:=l;simp only at hkl;subst hkl;have g0:¬((k:Int)<0):=by omega
 have g1:(k:Int)<10:=by omega
 obtain⟨W1,hW1⟩:∃W,W=w.alloc (.cells #[A .i64 (k:Int),C la ln nc,A .i64 lvl,C va vn vc,p lf,A .i64 bits] 34):=⟨_,rfl⟩;obtain⟨W2,hW2⟩:∃W,W=W1.alloc (.cells #[p false] 4):=⟨_,rfl⟩;obtain⟨W0,hW0⟩:∃W,W=W2.alloc (.cells (adds R) 171):=⟨_,rfl⟩;have hs1:W1.heap.size=w.heap.size+1:=by rw[hW1];simp
 have hs2:W2.heap.size=w.heap.size+2:=by rw[hW2,World.size_alloc,hs1]
 have hb1:Below w.heap.size w W1:=by rw[hW1];exact av (E _ _) _
 have hb2:Below w.heap.size w W2:=by rw[hW2];exact av hb1 _
 have hb0:Below w.heap.size w W0:=by rw[hW0];exact av hb2 _
 have hbx:Bx W0 w.heap.size #[A .i64 (k:Int),C la ln nc,A .i64 lvl,C va vn vc,p lf,A .i64 bits]∧Bx W0 (w.heap.size+1) #[p false]∧Bx W0 (w.heap.size+2) (adds R):=by
  refine⟨?_,?_,?_⟩
  ·rw[hW0,hW2,hW1];exact((Bx.new w _ _).alloc _).alloc _
  ·rw[hW0,hW2,←hs1];exact(Bx.new W1 _ _).alloc _
  ·rw[hW0,←hs2];exact Bx.new W2 _ _
 have hbt:W0.heap[w.heap.size+1]?=j (.cells #[p false] 4 (0,0)):=by rw[hW0,hW2,←hs1];exact(D _ _ _ ak).trans (z W1 _)
 have hal:kU W0 w.heap.size:=fun i h1 h2=>by
  rcases(by omega:i=w.heap.size∨i=w.heap.size+1∨i=w.heap.size+2) with e|e|e
  ·exact⟨_,_,_,by rw[e,hW0,hW2,hW1];exact(D _ _ _ (by simp;omega)).trans ((D _ _ _ ak).trans (z w _)),by decide,by decide,by decide,by decide,by decide⟩
  ·exact⟨_,_,_,by rw[e];exact hbt,by decide,by decide,by decide,by decide,by decide⟩
  ·exact⟨_,_,_,by rw[e,hW0,←hs2];exact z W2 _,by decide,by decide,by decide,by decide,by decide⟩
 have HB:=hid hb0;have HX:=hid hbx;have Z6:=hid hbt;have ahr:Hid (kU W0.drew w.heap.size):=hid hal;have Z7:Hid (Below w.heap.size w W0.drew):=hid hb0.drew;have fT:=hid (h.below hb0.drew);have HL0:=hid (hl.below hb0.drew);have Ma:R<w.heap.size:=h.s.t.b.2.2;have HRW:=hid Ma;have yN:=hid h.b;have HG0:Hid (jX B w.heap.size W0.drew):=hid (fun W hs=>hG W ((Same.of_below hb0.drew (fun i hi hl=>hl)).tr (hs.mono (fun i hi _=> .inl hi))));have bD:Hid (∀W,Same (fun i=>i<B∨(w.heap.size≤i∧i<w.heap.size+3)) W0.drew W→Bx W w.heap.size #[A .i64 (k:Int),C la ln nc,A .i64 lvl,C va vn vc,p lf,A .i64 bits]∧Bx W (w.heap.size+1) #[p false]∧Bx W (w.heap.size+2) (adds R)∧W.heap[w.heap.size+1]?=j (.cells #[p false] 4 (0,0))):=hid (fun W hs=>
  ⟨hs.bx hbx.1.drew ah,hs.bx hbx.2.1.drew ah,hs.bx hbx.2.2.drew ah,(hs.block (w.heap.size+1) ah hbx.2.1.2.2).trans hbt⟩)
 have uO:Hid (w.heap.size+3≤W0.drew.heap.size):=hid hbx.2.2.2.2;have IQ:Hid (∀W,Same (fun i=>i<B∨(w.heap.size≤i∧i<w.heap.size+3)) W0.drew W→∀v,Same (fun i=>i<B) w (W.setCell ⟨w.heap.size+1,0,m⟩ v)):=hid (fun W hs v=>((Same.of_below hb0.drew (fun i hi hl=>hl)).tr (hs.mono (fun i hi _=> .inl hi))).setTail (fun hh=>by have:=h.b;omega));have TQ:Hid (∀W,Same (fun i=>i<B∨(w.heap.size≤i∧i<w.heap.size+3)) W0.drew W→aD (aG c s)→(∃cs es ds ms,gq B W R cs (aG c s) es ds ms)→wm B R (aG c s) w (.returned (p true)) (W.setCell ⟨w.heap.size+1,0,m⟩ (p true))):=hid (fun W hs hfit hrg=>by
  obtain⟨q1,q2,q3,q4,hrg⟩:=hrg;refine⟨IQ.q W hs _,fun _=>⟨rfl,q1,q2,q3,q4,hrg.box (T:=4) ⟨_,_,(bD.q W hs).2.2.2⟩ aj aj aj aj aj (.inl aj) (.inl aj) ah ((Same.refl' W).setTail (fun h=>h rfl))⟩,fun k=>absurd hfit k⟩)
 have Z8:Hid (∀W,Same (fun i=>i<B∨(w.heap.size≤i∧i<w.heap.size+3)) W0.drew W→¬aD (aG c s)→wm B R (aG c s) w (.returned (p false)) (W.setCell ⟨w.heap.size+1,0,m⟩ (p false))):=hid (fun W hs hn=>⟨IQ.q W hs _,fun k=>absurd k hn,fun _=>rfl⟩);clear h hl hG hb1 hb2 hb0 hbx hbt hal Ma hs1 hs2;have AL:Hid (∀W,Same (fun i=>i<B∨(w.heap.size≤i∧i<w.heap.size+3)) W0.drew W→True∧W.cell? ⟨w.heap.size,0,m⟩=j (A .i64 (k:Int))∧W.cell? ⟨w.heap.size,1,m⟩=j (C la ln nc)∧W.cell? ⟨w.heap.size,2,m⟩=j (A .i64 lvl)∧W.cell? ⟨w.heap.size,3,m⟩=j (C va vn vc)∧W.cell? ⟨w.heap.size,4,m⟩=j (p lf)∧W.cell? ⟨w.heap.size,5,m⟩=j (A .i64 bits)∧W.cell? ⟨w.heap.size+2,k,m⟩=j (.func (.func F) fa #[])):=hid (fun W hs=>have a:=bD.q W hs;⟨trivial,a.1.1 0,a.1.1 1,a.1.1 2,a.1.1 3,a.1.1 4,a.1.1 5,(a.2.2.1.1 k).trans hF⟩);have tX:=hid (hS W0.drew w.heap.size fT.q HL0.q HG0.q ahr.q HRW.q);clear hS hk hF Cr
 go_enter_defers Tryz.func43,Tryz.ntmps43
 go_wp2_with fail;rw[←hW1,←hW2,←hW0];clear hW1 hW2 hW0 IL;refine Eh 4 (o (j ⟨w.heap.size+1,0,m⟩)) 99 [(0,0),(1,0),(2,0),(3,0),(4,0),(5,2)] (fun _=>True) (fun W'=>W'.cell? ⟨w.heap.size,0,m⟩=j (A .i64 (k:Int))∧W'.cell? ⟨w.heap.size,1,m⟩=j (C la ln nc)∧W'.cell? ⟨w.heap.size,2,m⟩=j (A .i64 lvl)∧W'.cell? ⟨w.heap.size,3,m⟩=j (C va vn vc)∧W'.cell? ⟨w.heap.size,4,m⟩=j (p lf)∧W'.cell? ⟨w.heap.size,5,m⟩=j (A .i64 bits)∧W'.cell? ⟨w.heap.size+2,k,m⟩=j (.func (.func F) fa #[])) (fun ch w'=>ch=iR∧Same (fun i=>i<B∨(w.heap.size≤i∧i<w.heap.size+3)) W0.drew w'∧¬aD (aG c s)) au au au (by
   intro ch a1 w1 hd hx hr;obtain⟨rfl,hs,hn⟩:=hr;obtain⟨tm,df⟩:=a1;simp only at hd hx;subst hd;have hcc:=bD.q w1 hs;have hno:=Z8.q w1 hs hn;refine leaves_cons (f:=96) (args:=#[o (j ⟨w.heap.size+1,0,m⟩)]) ak (by simp[go_sem]) ?_;refine(NS (w.heap.size+1) _ w1 hcc.2.1).mono ?_;rintro e u' w6 ⟨rfl,rfl,rfl⟩;exact IK _ w _ (by show(tm[4]?).getD undef=_;rw[hx];rfl) (hcc.2.1.aR 0 ak (p false)) hno) trivial (AL.q W0.drew (Same.refl' _)).2 ?_
 refine qC ?_;refine aF rfl rfl (fun K hK=>?_);go_simp;refine tX.q.mono ?_;rintro e1 w3 ⟨hS,he⟩;have iU:=hid hS;rcases Classical.em (aD (aG c s)) with hf|hf;rotate_left
 ·obtain rfl:=he.2 hf
  exact⟨rfl,rfl,rfl,iU.q,hf⟩
 obtain⟨rfl,hr⟩:=he.1 hf;have yO:=hid hr;have IU:=hid hf;clear hr hf he hS;refine hK _ _ (AL.q w3 iU.q) ?_;clear hK K;refine Qk ?_;have hcc:=bD.q w3 iU.q;have hc1:=hcc.2.1.1 0;have hf1:=hcc.2.1.2.1 0;have Ai:=hid hcc.2.1;clear hcc;go_wp2_with fail;refine leaves_cons (f:=96) (args:=#[o (j ⟨w.heap.size+1,0,m⟩)]) ak (by simp[go_sem]) ?_;refine(Ql (w.heap.size+1) _).mono ?_;rintro e u' w6 ⟨rfl,rfl,rfl⟩;exact IK _ w _ rfl (Ai.q.aR 0 ak (p true)) (TQ.q w3 iU.q IU.q yO.q)
theorem Lv (args:x y) (w:r):(u 98 args).run g w= .ok (.enter 98 args) w:=by go_simp
theorem F5 (args:x y) (w:r):(u 102 args).run g w= .ok (.enter 102 args) w:=by go_simp
theorem Lx (args:x y) (w:r):(u 104 args).run g w= .ok (.enter 104 args) w:=by go_simp
theorem LA (args:x y) (w:r):(u 103 args).run g w= .ok (.enter 103 args) w:=by go_simp
theorem NT (args:x y) (w:r):(u 100 args).run g w= .ok (.enter 100 args) w:=by go_simp
theorem NU (args:x y) (w:r):(u 101 args).run g w= .ok (.enter 101 args) w:=by go_simp
theorem NV (args:x y) (w:r):(u 105 args).run g w= .ok (.enter 105 args) w:=by go_simp
theorem LB (args:x y) (w:r):(u 99 args).run g w= .ok (.enter 99 args) w:=by go_simp
theorem YK (args:x y) (w:r):(u 97 args).run g w= .ok (.enter 97 args) w:=by go_simp
theorem Z9 (l:aV) (s:aB) (w:r) (h:gq B w R cs c es ds ms) (hf:aD c) (hl:sw w B l s) (hok:s.kind=0∨dh s) (hG:NR B w):
  Calls g 43 #[o (j ⟨R,0,m⟩),gu l] w (wm B R (aG c s) w):=by
 by_cases h0:s.kind=0
 ·have e2:aG c s=c:=by unfold aG;simp only[h0];rfl
  refine mK l s w 0 _ #[] h hl hG h0 ah rfl YK (fun W K a _ _ _ _=>?_);rw[e2];refine(TP l W).mono ?_;rintro e w3 ⟨rfl,hb⟩;exact⟨Same.of_below hb (fun i hi hl=>hl),fun _=>⟨rfl,_,_,_,_,a.below hb⟩,fun k=>absurd hf k⟩
 have ok:=hok.resolve_left h0;have Cr:s.kind=1∨s.kind=2∨s.kind=3∨s.kind=4∨s.kind=5∨s.kind=6∨s.kind=7∨s.kind=8∨s.kind=9:=by
  rcases ok.2.2 with h|h|h|h|h|h|h|h|h <;> (have:=h.1;omega)
 rcases Cr with e|e|e|e|e|e|e|e|e
 ·exact mK l s w 1 _ _ h hl hG e ah rfl Lv (fun W K a b c d f=>Qm _ s W a hf b e ok c d f)
 ·exact mK l s w 2 _ _ h hl hG e ah rfl LB (fun W K a b c d f=>Qn _ s W a hf b e ok c d f)
 ·exact mK l s w 3 _ _ h hl hG e ah rfl NT (fun W K a b c d f=>TR _ s W a hf b e ok c d f)
 ·exact mK l s w 4 _ _ h hl hG e ah rfl NU (fun W K a b c d f=>TS _ s W a hf b e ok c d f)
 ·exact mK l s w 5 _ _ h hl hG e ah rfl F5 (fun W K a b c d f=>Mc _ s W a hf b (.inl e) ok c d f)
 ·exact mK l s w 6 _ _ h hl hG e ah rfl F5 (fun W K a b c d f=>Mc _ s W a hf b (.inr e) ok c d f)
 ·exact mK l s w 7 _ _ h hl hG e ah rfl LA (fun W K a b c d f=>Qo _ s W a hf b e ok c d f)
 ·exact mK l s w 8 _ _ h hl hG e ah rfl Lx (fun W K a b c d f=>Qp _ s W a hf b e ok c d f)
 ·exact mK l s w 9 _ _ h hl hG e ah rfl NV (fun W K a b c d f=>TT _ s W a hf b e ok c d f)
end
end Yd
namespace Yd
open Classical renaming epsilon→E
open Option renaming none→p,some→D
open Go Go.RowKit Go.Proofs Go.Maps
open Go renaming World→A,Value→F
open Go.Value renaming slice→j
open _root_ renaming List→r,Nat→C
attribute [local go_sem] Oper.semAt_some
theorem dB {X:A} {b o o':C} {v u:F} (h:X.cell? ⟨b,o,p⟩=D v) (hne:o≠o'):(X.setCell ⟨b,o',p⟩ u).cell? ⟨b,o,p⟩=D v:=by
 rw[World.cell?_setCell_other _ _ _ _ (fun e=>by cases e;exact hne rfl)];exact h
def oz (w:A) (B:C) (aS:r aV) (ls:r aB):Prop:=aS.length=ls.length∧∀(i:C) (l:aV),aS[i]?=D l→∃s,ls[i]?=D s∧fq w B l s
theorem oz.below {w w':A} {B:C} {aS:r aV} {ls:r aB} (h:oz w B aS ls) (hb:Below w.heap.size w w'):oz w' B aS ls:=
 ⟨h.1,fun i l hl=>let⟨s,h1,h2⟩:=h.2 i l hl;⟨s,h1,h2.below hb⟩⟩
theorem IV {α:Type} {enc:α→r F} {k:C} {X:A} {B:C} {T:TypeId} {a:Option Addr} {n c:C} {xs:r α} (h:Own X B T k enc (j a n c) xs) {b o:C} (e:a=D ⟨b,o,p⟩):b<X.heap.size:=by
 rcases h.sD with⟨q,_⟩|⟨g,q,_⟩
 ·rw[q] at e;cases e
 ·have:=(h.lt g (by rw[q];rfl)).2
  rw[q] at e;injection e with e;injection e with e;omega
theorem fq.lnR {w:A} {B:C} {l:aV} {s:aB} (h:fq w B l s) (hn:s.names.length≤1000) (hv:s.aA.length≤1000) {K:C} (hK:w.heap.size≤K):sw w K l s:=
 ⟨h.1,h.2.1.row (hc:=iM) ah,h.2.2.row (hc:=yP) ah,fun b o e=>by have:=IV h.2.1 e;omega,fun b o e=>by have:=IV h.2.2 e;omega⟩
@[reducible] def jB:HC:=⟨⟨p,0,0⟩,⟨p,0,0⟩,⟨p,0,0⟩,⟨p,0,0⟩,⟨p,0,0⟩,⟨p,0,0⟩,⟨p,0,0⟩,⟨p,0,0⟩⟩
@[reducible] def yQ (mb:C):Array F:=#[j p 0 0,j p 0 0,j p 0 0,j p 0 0,j p 0 0,j p 0 0,j p 0 0,j p 0 0,j p 0 0,j p 0 0,j p 0 0,j p 0 0,.map (D mb)]
structure zq (w:A):Prop where
 f:pY w
 l:jY w
theorem zq.below {w w':A} (h:zq w) (hb:Below w.heap.size w w'):zq w':=⟨h.f.below hb,h.l.below hb⟩
theorem zq.add {w X:A} (h:zq w) (hb:Below w.heap.size w X) {B:C} (hB:w.heap.size≤B):NR B X:=fun W hs=>h.f.below (hs.below hb (fun i hi=>by omega) hb.size)
def aeD (w:A) (ls:r aB) (e:Ending) (X:A):Prop:=
 Below w.heap.size w X∧
 match rE iF 0 ls with
 | .ok z=>∃h es ds ms,∃scan:EvC→r Sn,∃dn:aH→r Int,∃mn:aI→r Int,e= .returned (.tuple #[eF h,.int .i64 (ls.length:Int),.int .i64 0])∧gK X w.heap.size h (fB z) es ds ms scan dn mn
 | .error (i,n)=>e= .returned (.tuple #[eF jB,.int .i64 (i:Int),.int .i64 n])
theorem gq.start (W:A) (mb:C) (B:C) (hm:iV W mb []) (hB:B≤mb) (hB2:B≤W.heap.size):gq B (W.alloc (.cells (yQ mb) 94)) W.heap.size (yQ mb) iF [] [] []:=by
 have nil:∀{α:Type} {enc:α→r F} {k:C} {T:TypeId},Own (W.alloc (.cells (yQ mb) 94)) (W.heap.size+1) T k enc (j p 0 0) []:=Own.iE _ _ _ _ _;refine⟨⟨⟨Bx.new W _ _,fun k hk=>⟨j p 0 0,?_,nil⟩,fun k hk=>⟨⟨fun x hx=>(by cases hx),List.nodup_nil,Nat.zero_le _⟩,Nat.zero_le _⟩⟩,⟨_,rfl,nil⟩,⟨_,rfl,nil⟩,⟨_,rfl,nil⟩,⟨_,rfl,nil⟩,rfl,rfl,rfl,⟨rfl,fun i x L hx=>(by cases hx)⟩,⟨rfl,fun i x L hx=>(by cases hx)⟩,⟨rfl,fun i x L hx=>(by cases hx)⟩⟩,⟨mb,rfl,hm.of_eq (Below.heap_alloc _ _ _ (by have:=hm.lt;omega)),hB⟩,hB2⟩;rcases(by omega:k=0∨k=1∨k=2∨k=3) with rfl|rfl|rfl|rfl <;> rfl
theorem nG.his {X Y:A} {R:C} {cs:Array F} {c:Cont} {es:r EvC} {ds:r aH} {ms:r aI} (h:nG X R cs c es ds ms) (z:Aj c) (hs:Same (fun i=>i≠R) X Y):
  ∃h':HC,∃scan:EvC→r Sn,∃dn:aH→r Int,∃mn:aI→r Int,(∀k,k<4→cs[8+k]?=D (h'.nm k).v)∧cs[4]?=D h'.e.v∧cs[5]?=D h'.d.v∧cs[6]?=D h'.m.v∧cs[7]?=D h'.w.v∧gK Y (R+1) h' c es ds ms scan dn mn:=by
 have sl:∀{α:Type} {enc:α→r F} {k:C} {T:TypeId} {v:F} {L:r α},Own X (R+1) T k enc v L→∃s:Sl,v= j s.a s.n s.c∧Own Y (R+1) T k enc (j s.a s.n s.c) L:=fun ho=>by
  obtain⟨a,c,q,_⟩:=ho.shape;exact⟨⟨a,_,c⟩,q,by rw[←q];exact ho.eY hs⟩
 obtain⟨v4,c4,o4⟩:=h.e;obtain⟨s4,rfl,y4⟩:=sl o4;obtain⟨v5,c5,o5⟩:=h.d;obtain⟨s5,rfl,y5⟩:=sl o5;obtain⟨v6,c6,o6⟩:=h.m;obtain⟨s6,rfl,y6⟩:=sl o6;obtain⟨v7,c7,o7⟩:=h.q;obtain⟨s7,rfl,y7⟩:=sl o7;obtain⟨u0,d0,p0⟩:=h.t.t 0 ah;obtain⟨t0,rfl,z0⟩:=sl p0;obtain⟨u1,d1,p1⟩:=h.t.t 1 ah;obtain⟨t1,rfl,z1⟩:=sl p1;obtain⟨u2,d2,p2⟩:=h.t.t 2 ah;obtain⟨t2,rfl,z2⟩:=sl p2;obtain⟨u3,d3,p3⟩:=h.t.t 3 ah;obtain⟨t3,rfl,z3⟩:=sl p3;have ow:∀{α β:Type} {T:TypeId} {ek:C} {enc:β→r F} [hc:Cells enc ek] {a:α→Option Addr} {n q:α→C} {xs:r α} {Ls:r (r β)},(∀x y,enc x=enc y→x=y)→yA X R T ek enc (fun x=> j (a x) (n x) (q x)) xs Ls→(∀L∈Ls,L.length≤2000000)→
   ∃f:α→r β,(∀x∈xs,Own Y (R+1) T ek enc (j (a x) (n x) (q x)) (f x))∧xs.map f=Ls:=fun {α β T ek enc hc a n q xs Ls} hinj ho hl=>by
  have key:∀i x,xs[i]?=D x→∃L,Ls[i]?=D L∧Own Y (R+1) T ek enc (j (a x) (n x) (q x)) L∧E (fun L=>Row Y ek enc (a x) (n x) (q x) L)=L:=fun i x hx=>by
   have hi:i<Ls.length:=by rw[←ho.1];exact(List.getElem?_eq_some_iff.1 hx).1
   have o:=(ho.2 i x Ls[i] hx (List.getElem?_eq_getElem hi)).eY hs;have hlen:=hl _ (List.getElem_mem hi);exact⟨_,List.getElem?_eq_getElem hi,o,yR (hc:=hc) hinj (o.row (hc:=hc) ah)⟩
  refine⟨fun x=>E (fun L=>Row Y ek enc (a x) (n x) (q x) L),fun x hx=>?_,List.ext_getElem? (fun i=>?_)⟩
  ·obtain⟨i,hi⟩:=List.mem_iff_getElem?.1 hx
   obtain⟨L,_,o,e⟩:=key i x hi;show Own Y (R+1) T ek enc (j (a x) (n x) (q x)) (E (fun L=>Row Y ek enc (a x) (n x) (q x) L));rw[e];exact o
  ·rw[List.getElem?_map]
   cases hx:xs[i]? with
   |none=>rw[Option.map_none,List.getElem?_eq_none (by rw[←ho.1];exact List.getElem?_eq_none_iff.1 hx)]
   |some x=>
    obtain⟨L,h1,_,e⟩:=key i x hx;rw[Option.map_some,e,h1]
 obtain⟨f1,a1,b1⟩:=ow (hc:=kV) (a:=EvC.sa) (n:=EvC.sn) (q:=EvC.sc) Ei h.se z.se;obtain⟨f2,a2,b2⟩:=ow (hc:=eG) (a:=aH.sa) (n:=aH.sn) (q:=aH.sc) rF h.sd z.sd;obtain⟨f3,a3,b3⟩:=ow (hc:=eG) (a:=aI.sa) (n:=aI.sn) (q:=aI.sc) rF h.sm z.sm;refine⟨⟨t0,t1,t2,t3,s4,s5,s6,s7⟩,f1,f2,f3,fun k hk=>?_,c4,c5,c6,c7,⟨y4,y5,y6,y7,fun k hk=>?_,a1,a2,a3,h.be,h.bd,h.bm,b1,b2,b3⟩⟩
 ·rcases(by omega:k=0∨k=1∨k=2∨k=3) with rfl|rfl|rfl|rfl
  ·exact d0
  ·exact d1
  ·exact d2
  ·exact d3
 ·rcases(by omega:k=0∨k=1∨k=2∨k=3) with rfl|rfl|rfl|rfl
  ·exact z0
  ·exact z1
  ·exact z2
  ·exact z3
end Yd
namespace Yd
open Nat renaming zero_le→d,add_zero→j
open Go Go.RowKit Go.Proofs
theorem NW:∀args w,(callFunc 27 args).run Tryz.prog w= .ok (.enter 27 args) w:=enters_of Tryz.func27 au rfl
theorem IW (a a':Option Addr) (n c n' c' B B2:Nat) (xs ys:List aV) (ls:List aB) (w:World) (hr:Row w 6 mU a n c xs) (hr':Row w 6 mU a' n' c' ys) (h1:oz w B xs ls) (h2:oz w B2 ys ls)
  (hs:∀s∈ls,s.names.length≤1000000∧s.aA.length≤1000000):
  Calls Tryz.prog 15 #[.slice a n c,.slice a' n' c',.func (.func 27) #[] #[]] w (aW (.bool true) w):=by
 obtain rfl:n'=n:=by rw[←hr'.len,←hr.len,h1.1,h2.1]
 have hn:=hr.le;have HR:=hid hr;have HR':=hid hr';have eg:=NW;have H:Hid (∀(k:Nat) (x y:aV),xs[k]?=some x→ys[k]?=some y→∀W,Below w.heap.size w W→Calls Tryz.prog 27 #[gu x,gu y] W (aW (.bool true) W)):=hid (fun k x y hx hy W hb=>by
  obtain⟨s,hs1,hl1⟩:=(h1.below hb).2 k x hx;obtain⟨s',hs2,hl2⟩:=(h2.below hb).2 k y hy;rw[hs1] at hs2;injection hs2 with hs2;subst hs2;have q:=hs s (List.mem_of_getElem? hs1);have:=Ic x y s s B B2 W hl1 hl2 q.1 q.2 q.1 q.2
  rwa[decide_eq_true rfl] at this)
 clear hr hr' h1 h2 hs;go_enter Tryz.func15,Tryz.ntmps15;go_wp2_with fail
 go_loopw [17] (fun i wr=>∃k:Nat,k≤n'∧i= .int .i64 k∧Below w.heap.size w wr) (fun i _=>n' - (RowKit.intOf i).toNat)
 case atStart=>exact⟨0,d _,rfl,Below.refl _ _⟩
 case round=>
  obtain⟨k,hk,rfl,hb⟩:=hrel;by_cases hlt:k<n'
  ·obtain⟨x,b,o,hx,rfl,hc⟩:=HR.q.at_ hlt
   obtain⟨y,b',o',hy,rfl,hc'⟩:=HR'.q.at_ hlt;have h0:=aM hb rfl (hc 0 _ rfl);have h1:=aM hb rfl (hc 1 _ rfl);have h2:=aM hb rfl (hc 2 _ rfl);have h3:=aM hb rfl (hc 3 _ rfl);have h4:=aM hb rfl (hc 4 _ rfl);have h5:=aM hb rfl (hc 5 _ rfl);simp only[j] at h0;have qz:=aM hb rfl (hc' 0 _ rfl);have Md:=aM hb rfl (hc' 1 _ rfl);have h'2:=aM hb rfl (hc' 2 _ rfl);have h'3:=aM hb rfl (hc' 3 _ rfl);have h'4:=aM hb rfl (hc' 4 _ rfl);have h'5:=aM hb rfl (hc' 5 _ rfl);simp only[j] at qz;have HC:=hid (H.q k x y hx hy);have hlb:b'<wr.heap.size:=dS qz;clear hc hc' hx hy;go_wp2_with fail;refine(HC.q _ ((hb.alloc hb.size _).alloc (by have:=hb.size;simp;omega) _)).mono ?_;rintro e w1 ⟨rfl,hb1⟩;go_wp2_with fail;go_roundw
   case rel=>exact⟨k+1,by omega,by go_num,((hb.alloc hb.size _).alloc (by have:=hb.size;simp;omega) _).trans (hb1.mono (by have:=hb.size;simp;omega))⟩
   case measure=>simp[RowKit.intOf];omega
  ·go_wp2_with fail
   go_ret;exact⟨rfl,hb⟩
theorem same_iff {X X':World} {B B':Nat} {h h':HC} {c c':Cont} {es es':List EvC} {ds ds':List aH} {ms ms':List aI} {scan jH:EvC→List Sn} {dn ku:aH→List Int} {mn oD:aI→List Int}
  (o:gK X B h c es ds ms scan dn mn) (o':gK X' B' h' c' es' ds' ms' jH ku oD):Ej c.nl c'.nl es es' ds ds' ms ms' c.Q c'.Q scan jH dn ku mn oD↔p8 c c':=by
 have key:∀{α β γ:Type} {f:α→β} {g g':α→γ} {l l':List α},l.map (fun x=>(f x,g x))=l'.map (fun x=>(f x,g' x))↔(l.map f=l'.map f∧l.map g=l'.map g'):=fun {α β γ f g g' l l'}=>by
  constructor
  ·intro e
   have h1:=congrArg (List.map Prod.fst) e;have h2:=congrArg (List.map Prod.snd) e;rw[List.map_map,List.map_map] at h1 h2;exact⟨h1,h2⟩
  ·rintro⟨e1,e2⟩
   rw[←l6,←l6,e1,e2]
 unfold Ej;rw[key,key,key,o.be,o.bd,o.bm,o.ss,o.ts,o.us,o'.be,o'.bd,o'.bm,o'.ss,o'.ts,o'.us];exact⟨fun⟨h1,⟨h2,h3⟩,⟨h4,h5⟩,h6,h7,h8⟩=>⟨h1,h7,h8,h2,h3,h4,h5,h6⟩,fun s=>⟨s.n,⟨s.D,s.SD⟩,⟨s.M,s.SM⟩,s.Q,s.E,s.SE⟩⟩
theorem aad (X:World) (B:Nat):gK X B jB iF [] [] [] (fun _=>[]) (fun _=>[]) (fun _=>[]):=
 ⟨Own.iE _ _ _ _ _,Own.iE _ _ _ _ _,Own.iE _ _ _ _ _,Own.iE _ _ _ _ _,fun i hi=>by
  rcases(by omega:i=0∨i=1∨i=2∨i=3) with rfl|rfl|rfl|rfl <;> exact Own.iE _ _ _ _ _,fun x hx=>(by cases hx),fun x hx=>(by cases hx),fun x hx=>(by cases hx),rfl,rfl,rfl,rfl,rfl,rfl⟩
theorem szZ:Aj iF:=⟨d _,d _,d _,d _,fun _ _=>d _,fun L hL=>(by cases hL),fun L hL=>(by cases hL),fun L hL=>(by cases hL)⟩
theorem wu {X:World} {B B':Nat} {h h':HC} {c c':Cont} {es es':List EvC} {ds ds':List aH} {ms ms':List aI} {scan jH:EvC→List Sn} {dn ku:aH→List Int} {mn oD:aI→List Int}
  (o:gK X B h c es ds ms scan dn mn) (o':gK X B' h' c' es' ds' ms' jH ku oD) (z:Aj c) (z':Aj c'):Calls Tryz.prog 24 #[eF h,eF h'] X (fun e W=>∃b:Bool,e= .returned (.bool b)∧(b=true↔p8 c c')∧Below X.heap.size X W):=by
 refine(IX X (o.deep z) (o'.deep z') (o.names z) (o'.names z')).mono ?_;rintro e W ⟨b,rfl,hb,hw⟩;exact⟨b,rfl,hb.trans (same_iff o o'),hw⟩
theorem p8.rfl' (c:Cont):p8 c c:=⟨fun _ _=>rfl,rfl,rfl,rfl,rfl,rfl,rfl,rfl⟩
end Yd
