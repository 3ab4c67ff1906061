import Derived.Test.YtnhnhmeogckgpaaGreatDoorFm14
import Derived.Test.YtnhnhmeogckgpaaGreatDoorOf0
import Derived.Test.YtnhnhmeogckgpaaGreatDoorF14
set_option linter.all false
set_option maxRecDepth 200000
set_option maxHeartbeats 8000000
namespace Yd
open Option renaming some→j,none→m
open Go Go.RowKit Go.Proofs Tryz
open Below renaming heap_alloc→D,refl→E
open Go renaming World→r,callFunc→u,Value→y
open Go.Value renaming pointer→o,bool→p,int→A,slice→C
open Tryz renaming prog→g
open World renaming alloc_heap_new→z
open _root_ renaming Array→x
def Po (B:Nat) (w:r):Prop:=∀W,Same (fun i=>i<B) w W→rC W
def yu (B R:Nat) (d:Cont) (w:r) (e:Ending) (w':r):Prop:=
 Same (fun i=>i<B) w w'∧(aC d→e= .returned (p true)∧∃cs es ds ms,iw B w' R cs d es ds ms)∧(¬aC d→e= .returned (p false))
theorem Vo (l:bf) (w:r):Calls g 97 #[kG l] w fun e w'=>e= .returned (.tuple #[])∧Below w.heap.size w w':=by
 have HB:=hid (av (E w.heap.size w) (.cells (jE l) 34));obtain⟨lk,la,ln,nc,lvl,va,vn,vc,lf,bits⟩:=l;go_enter func97,ntmps97;go_wp2_with fail;refine bodyPost_end (results_none rfl _ _ _) rfl ?_;exact⟨rfl,HB.q⟩
theorem KQ {B R:Nat} {d:Cont} {b:Bool} (tmps:x y) (w w':r) (h4:tmps[4]?.getD undef= o (j ⟨w.heap.size+1,0,m⟩)) (h1:Bx w' (w.heap.size+1) #[p b]) (hr:yu B R d w (.returned (p b)) w'):
  Leaves g Tryz.f43 tmps (yu B R d w) [] .returning w':=by
 have a0:=h1.1 0;refine⟨p b,?_,hr⟩;simp[results,results43,go_sem,h4,a0]
theorem uq.below {w w':r} {B:Nat} {l:bf} {s:aB} (h:uq w B l s) (hb:Below w.heap.size w w'):uq w' B l s:=⟨h.k,h.n.below hb rfl,h.v.below hb rfl,h.na,h.va⟩
section
variable {B R:Nat} {cs:x y} {c:Cont} {es:List EvC} {ds:List aK} {ms:List aM}
@[reducible] def adds (R:Nat):x y:=#[.func (.func 97) #[] #[],.func (.func 98) #[o (j ⟨R,0,m⟩)] #[],.func (.func 99) #[o (j ⟨R,0,m⟩)] #[],.func (.func 100) #[o (j ⟨R,0,m⟩)] #[],.func (.func 101) #[o (j ⟨R,0,m⟩)] #[],.func (.func 102) #[o (j ⟨R,0,m⟩)] #[],.func (.func 102) #[o (j ⟨R,0,m⟩)] #[],.func (.func 103) #[o (j ⟨R,0,m⟩)] #[],.func (.func 104) #[o (j ⟨R,0,m⟩)] #[],.func (.func 105) #[o (j ⟨R,0,m⟩)] #[]]
theorem nP (l:bf) (s:aB) (w:r) (k F:Nat) (fa:x y) (h:iw B w R cs c es ds ms) (hl:uq w B l s) (hG:Po B w) (hk:s.kind=(k:Int)) (Dz:k<10) (hF:(adds R)[k]?=j (.func (.func F) fa #[]))
  (eg:∀args w,(u F args).run g w= .ok (.enter F args) w)
  (hS:∀W K,iw B W R cs c es ds ms→uq W B l s→lD B K W→mh W K→R<K→Calls g F (fa++#[kG l]) W (fF B K R (aJ c s) W)):
  Calls g 43 #[o (j ⟨R,0,m⟩),kG l] w (yu B R (aJ c s) w):=by
 have KR:∀(fn:Fn) (first cap:x y) (w:r),(Instr.makeFunc fn first cap).run g w= .ok (.func fn first cap) w:=fun _ _ _ _=>rfl
 have hkl:=hl.k.1;rw[hk] at hkl;obtain⟨kd,la,ln,nc,lvl,va,vn,vc,lf,bits⟩:=l;simp only at hkl;subst hkl;have g0:¬((k:Int)<0):=by omega
 have g1:(k:Int)<10:=by omega
 obtain⟨W1,hW1⟩:∃W,W=w.alloc (.cells #[A .i64 (k:Int),C la ln nc,A .i64 lvl,C va vn vc,p lf,A .i64 bits] 34):=⟨_,rfl⟩;obtain⟨W2,hW2⟩:∃W,W=W1.alloc (.cells #[p false] 4):=⟨_,rfl⟩;obtain⟨W0,hW0⟩:∃W,W=W2.alloc (.cells (adds R) 171):=⟨_,rfl⟩;have hs1:W1.heap.size=w.heap.size+1:=by rw[hW1];simp
 have hs2:W2.heap.size=w.heap.size+2:=by rw[hW2,World.size_alloc,hs1]
 have hb1:Below w.heap.size w W1:=by rw[hW1];exact av (E _ _) _
 have hb2:Below w.heap.size w W2:=by rw[hW2];exact av hb1 _
 have hb0:Below w.heap.size w W0:=by rw[hW0];exact av hb2 _
 have hbx:Bx W0 w.heap.size #[A .i64 (k:Int),C la ln nc,A .i64 lvl,C va vn vc,p lf,A .i64 bits]∧Bx W0 (w.heap.size+1) #[p false]∧Bx W0 (w.heap.size+2) (adds R):=by
  refine⟨?_,?_,?_⟩
  ·rw[hW0,hW2,hW1];exact((Bx.new w _ _).alloc _).alloc _
  ·rw[hW0,hW2,←hs1];exact(Bx.new W1 _ _).alloc _
  ·rw[hW0,←hs2];exact Bx.new W2 _ _
 have hbt:W0.heap[w.heap.size+1]?=j (.cells #[p false] 4 (0,0)):=by rw[hW0,hW2,←hs1];exact(D _ _ _ ak).trans (z W1 _)
 have hal:mh W0 w.heap.size:=fun i h1 h2=>by
  rcases(by omega:i=w.heap.size∨i=w.heap.size+1∨i=w.heap.size+2) with e|e|e
  ·exact⟨_,_,_,by rw[e,hW0,hW2,hW1];exact(D _ _ _ (by simp;omega)).trans ((D _ _ _ ak).trans (z w _)),by decide,by decide,by decide,by decide,by decide⟩
  ·exact⟨_,_,_,by rw[e];exact hbt,by decide,by decide,by decide,by decide,by decide⟩
  ·exact⟨_,_,_,by rw[e,hW0,←hs2];exact z W2 _,by decide,by decide,by decide,by decide,by decide⟩
 have HB:=hid hb0;have HX:=hid hbx;have HBT:=hid hbt;have aha:Hid (mh W0.drew w.heap.size):=hid hal;have HBD:Hid (Below w.heap.size w W0.drew):=hid hb0.drew;have iM:=hid (h.below hb0.drew);have HL0:=hid (hl.below hb0.drew);have Nz:R<w.heap.size:=h.s.t.b.2.2;have HRW:=hid Nz;have zk:=hid h.b;have HG0:Hid (lD B w.heap.size W0.drew):=hid (fun W hs=>hG W ((Same.of_below hb0.drew (fun i hi hl=>hl)).tr (hs.mono (fun i hi _=> .inl hi))));have bO:Hid (∀W,Same (fun i=>i<B∨(w.heap.size≤i∧i<w.heap.size+3)) W0.drew W→Bx W w.heap.size #[A .i64 (k:Int),C la ln nc,A .i64 lvl,C va vn vc,p lf,A .i64 bits]∧Bx W (w.heap.size+1) #[p false]∧Bx W (w.heap.size+2) (adds R)∧W.heap[w.heap.size+1]?=j (.cells #[p false] 4 (0,0))):=hid (fun W hs=>
  ⟨hs.bx hbx.1.drew ah,hs.bx hbx.2.1.drew ah,hs.bx hbx.2.2.drew ah,(hs.block (w.heap.size+1) ah hbx.2.1.2.2).trans hbt⟩)
 have wC:Hid (w.heap.size+3≤W0.drew.heap.size):=hid hbx.2.2.2.2;have Fx:Hid (∀W,Same (fun i=>i<B∨(w.heap.size≤i∧i<w.heap.size+3)) W0.drew W→∀v,Same (fun i=>i<B) w (W.setCell ⟨w.heap.size+1,0,m⟩ v)):=hid (fun W hs v=>((Same.of_below hb0.drew (fun i hi hl=>hl)).tr (hs.mono (fun i hi _=> .inl hi))).setTail (fun hh=>by have:=h.b;omega));have Vp:Hid (∀W,Same (fun i=>i<B∨(w.heap.size≤i∧i<w.heap.size+3)) W0.drew W→aC (aJ c s)→(∃cs es ds ms,iw B W R cs (aJ c s) es ds ms)→yu B R (aJ c s) w (.returned (p true)) (W.setCell ⟨w.heap.size+1,0,m⟩ (p true))):=hid (fun W hs hfit hrg=>by
  obtain⟨q1,q2,q3,q4,hrg⟩:=hrg;refine⟨Fx.q W hs _,fun _=>⟨rfl,q1,q2,q3,q4,hrg.box (T:=4) ⟨_,_,(bO.q W hs).2.2.2⟩ aj aj aj aj aj (.inl aj) (.inl aj) ah ((Same.refl' W).setTail (fun h=>h rfl))⟩,fun k=>absurd hfit k⟩)
 have R4:Hid (∀W,Same (fun i=>i<B∨(w.heap.size≤i∧i<w.heap.size+3)) W0.drew W→¬aC (aJ c s)→yu B R (aJ c s) w (.returned (p false)) (W.setCell ⟨w.heap.size+1,0,m⟩ (p false))):=hid (fun W hs hn=>⟨Fx.q W hs _,fun k=>absurd k hn,fun _=>rfl⟩);clear h hl hG hb1 hb2 hb0 hbx hbt hal Nz hs1 hs2;have BN:Hid (∀W,Same (fun i=>i<B∨(w.heap.size≤i∧i<w.heap.size+3)) W0.drew W→True∧W.cell? ⟨w.heap.size,0,m⟩=j (A .i64 (k:Int))∧W.cell? ⟨w.heap.size,1,m⟩=j (C la ln nc)∧W.cell? ⟨w.heap.size,2,m⟩=j (A .i64 lvl)∧W.cell? ⟨w.heap.size,3,m⟩=j (C va vn vc)∧W.cell? ⟨w.heap.size,4,m⟩=j (p lf)∧W.cell? ⟨w.heap.size,5,m⟩=j (A .i64 bits)∧W.cell? ⟨w.heap.size+2,k,m⟩=j (.func (.func F) fa #[])):=hid (fun W hs=>have a:=bO.q W hs;⟨trivial,a.1.1 0,a.1.1 1,a.1.1 2,a.1.1 3,a.1.1 4,a.1.1 5,(a.2.2.1.1 k).trans hF⟩);have iP:=hid (hS W0.drew w.heap.size iM.q HL0.q HG0.q aha.q HRW.q);clear hS hk hF Dz
 go_enter_defers Tryz.func43,Tryz.ntmps43
 go_wp2_with fail;rw[←hW1,←hW2,←hW0];clear hW1 hW2 hW0 KR;refine FE 4 (o (j ⟨w.heap.size+1,0,m⟩)) 99 [(0,0),(1,0),(2,0),(3,0),(4,0),(5,2)] (fun _=>True) (fun W'=>W'.cell? ⟨w.heap.size,0,m⟩=j (A .i64 (k:Int))∧W'.cell? ⟨w.heap.size,1,m⟩=j (C la ln nc)∧W'.cell? ⟨w.heap.size,2,m⟩=j (A .i64 lvl)∧W'.cell? ⟨w.heap.size,3,m⟩=j (C va vn vc)∧W'.cell? ⟨w.heap.size,4,m⟩=j (p lf)∧W'.cell? ⟨w.heap.size,5,m⟩=j (A .i64 bits)∧W'.cell? ⟨w.heap.size+2,k,m⟩=j (.func (.func F) fa #[])) (fun ch w'=>ch=ji∧Same (fun i=>i<B∨(w.heap.size≤i∧i<w.heap.size+3)) W0.drew w'∧¬aC (aJ c s)) au au au (by
   intro ch a1 w1 hd hx hr;obtain⟨rfl,hs,hn⟩:=hr;obtain⟨tm,df⟩:=a1;simp only at hd hx;subst hd;have hcc:=bO.q w1 hs;have hno:=R4.q w1 hs hn;refine leaves_cons (f:=96) (args:=#[o (j ⟨w.heap.size+1,0,m⟩)]) ak (by simp[go_sem]) ?_;refine(Pp (w.heap.size+1) _ w1 hcc.2.1).mono ?_;rintro e u' w6 ⟨rfl,rfl,rfl⟩;exact KQ _ w _ (by show(tm[4]?).getD undef=_;rw[hx];rfl) (hcc.2.1.aU 0 ak (p false)) hno) trivial (BN.q W0.drew (Same.refl' _)).2 ?_
 refine qC ?_;refine aD rfl rfl (fun K hK=>?_);go_simp;refine iP.q.mono ?_;rintro e1 w3 ⟨hS,he⟩;have fE:=hid hS;rcases Classical.em (aC (aJ c s)) with hf|hf;rotate_left
 ·obtain rfl:=he.2 hf
  exact⟨rfl,rfl,rfl,fE.q,hf⟩
 obtain⟨rfl,hr⟩:=he.1 hf;have zW:=hid hr;have J3:=hid hf;clear hr hf he hS;refine hK _ _ (BN.q w3 fE.q) ?_;clear hK K;refine R5 ?_;have hcc:=bO.q w3 fE.q;have hc1:=hcc.2.1.1 0;have hf1:=hcc.2.1.2.1 0;have Bq:=hid hcc.2.1;clear hcc;go_wp2_with fail;refine leaves_cons (f:=96) (args:=#[o (j ⟨w.heap.size+1,0,m⟩)]) ak (by simp[go_sem]) ?_;refine(R6 (w.heap.size+1) _).mono ?_;rintro e u' w6 ⟨rfl,rfl,rfl⟩;exact KQ _ w _ rfl (Bq.q.aU 0 ak (p true)) (Vp.q w3 fE.q J3.q zW.q)
theorem Ml (args:x y) (w:r):(u 98 args).run g w= .ok (.enter 98 args) w:=by go_simp
theorem Ie (args:x y) (w:r):(u 102 args).run g w= .ok (.enter 102 args) w:=by go_simp
theorem Mq (args:x y) (w:r):(u 104 args).run g w= .ok (.enter 104 args) w:=by go_simp
theorem Mr (args:x y) (w:r):(u 103 args).run g w= .ok (.enter 103 args) w:=by go_simp
theorem Pq (args:x y) (w:r):(u 100 args).run g w= .ok (.enter 100 args) w:=by go_simp
theorem Pt (args:x y) (w:r):(u 101 args).run g w= .ok (.enter 101 args) w:=by go_simp
theorem Pv (args:x y) (w:r):(u 105 args).run g w= .ok (.enter 105 args) w:=by go_simp
theorem Ms (args:x y) (w:r):(u 99 args).run g w= .ok (.enter 99 args) w:=by go_simp
theorem YW (args:x y) (w:r):(u 97 args).run g w= .ok (.enter 97 args) w:=by go_simp
theorem aaW (l:bf) (s:aB) (w:r) (h:iw B w R cs c es ds ms) (hf:aC c) (hl:uq w B l s) (hok:s.kind=0∨fC s) (hG:Po B w):
  Calls g 43 #[o (j ⟨R,0,m⟩),kG l] w (yu B R (aJ c s) w):=by
 by_cases h0:s.kind=0
 ·have e2:aJ c s=c:=by unfold aJ;simp only[h0];rfl
  refine nP l s w 0 _ #[] h hl hG h0 ah rfl YW (fun W K a _ _ _ _=>?_);rw[e2];refine(Vo l W).mono ?_;rintro e w3 ⟨rfl,hb⟩;exact⟨Same.of_below hb (fun i hi hl=>hl),fun _=>⟨rfl,_,_,_,_,a.below hb⟩,fun k=>absurd hf k⟩
 have ok:=hok.resolve_left h0;have Dz:s.kind=1∨s.kind=2∨s.kind=3∨s.kind=4∨s.kind=5∨s.kind=6∨s.kind=7∨s.kind=8∨s.kind=9:=by
  rcases ok.2.2 with h|h|h|h|h|h|h|h|h <;> (have:=h.1;omega)
 rcases Dz with e|e|e|e|e|e|e|e|e
 ·exact nP l s w 1 _ _ h hl hG e ah rfl Ml (fun W K a b c d f=>QY _ s W a hf b e ok c d f)
 ·exact nP l s w 2 _ _ h hl hG e ah rfl Ms (fun W K a b c d f=>R7 _ s W a hf b e ok c d f)
 ·exact nP l s w 3 _ _ h hl hG e ah rfl Pq (fun W K a b c d f=>Uw _ s W a hf b e ok c d f)
 ·exact nP l s w 4 _ _ h hl hG e ah rfl Pt (fun W K a b c d f=>TU _ s W a hf b e ok c d f)
 ·exact nP l s w 5 _ _ h hl hG e ah rfl Ie (fun W K a b c d f=>M5 _ s W a hf b (.inl e) ok c d f)
 ·exact nP l s w 6 _ _ h hl hG e ah rfl Ie (fun W K a b c d f=>M5 _ s W a hf b (.inr e) ok c d f)
 ·exact nP l s w 7 _ _ h hl hG e ah rfl Mr (fun W K a b c d f=>QZ _ s W a hf b e ok c d f)
 ·exact nP l s w 8 _ _ h hl hG e ah rfl Mq (fun W K a b c d f=>R8 _ s W a hf b e ok c d f)
 ·exact nP l s w 9 _ _ h hl hG e ah rfl Pv (fun W K a b c d f=>Ux _ s W a hf b e ok c d f)
end
end Yd
namespace Yd
open Classical renaming epsilon→E
open Option renaming none→p,some→D
open Go Go.RowKit Go.Proofs Go.Maps
open Go renaming World→A,Value→F
open Go.Value renaming slice→j
open _root_ renaming List→r,Nat→C
attribute [local go_sem] Oper.semAt_some
theorem dZ {X:A} {b o o':C} {v u:F} (h:X.cell? ⟨b,o,p⟩=D v) (hne:o≠o'):(X.setCell ⟨b,o',p⟩ u).cell? ⟨b,o,p⟩=D v:=by
 rw[World.cell?_setCell_other _ _ _ _ (fun e=>by cases e;exact hne rfl)];exact h
def l8 (w:A) (B:C) (aR:r bf) (ls:r aB):Prop:=aR.length=ls.length∧∀(i:C) (l:bf),aR[i]?=D l→∃s,ls[i]?=D s∧gM w B l s
theorem l8.below {w w':A} {B:C} {aR:r bf} {ls:r aB} (h:l8 w B aR ls) (hb:Below w.heap.size w w'):l8 w' B aR ls:=
 ⟨h.1,fun i l hl=>let⟨s,h1,h2⟩:=h.2 i l hl;⟨s,h1,h2.below hb⟩⟩
theorem KS {α:Type} {enc:α→r F} {k:C} {X:A} {B:C} {T:TypeId} {a:Option Addr} {n c:C} {xs:r α} (h:Own X B T k enc (j a n c) xs) {b o:C} (e:a=D ⟨b,o,p⟩):b<X.heap.size:=by
 rcases h.uO with⟨q,_⟩|⟨g,q,_⟩
 ·rw[q] at e;cases e
 ·have:=(h.lt g (by rw[q];rfl)).2
  rw[q] at e;injection e with e;injection e with e;omega
theorem gM.lnR {w:A} {B:C} {l:bf} {s:aB} (h:gM w B l s) (hn:s.names.length≤1000) (hv:s.aF.length≤1000) {K:C} (hK:w.heap.size≤K):uq w K l s:=
 ⟨h.1,h.2.1.row (hc:=kQ) ah,h.2.2.row (hc:=Fe) ah,fun b o e=>by have:=KS h.2.1 e;omega,fun b o e=>by have:=KS h.2.2 e;omega⟩
@[reducible] def j3:HC:=⟨⟨p,0,0⟩,⟨p,0,0⟩,⟨p,0,0⟩,⟨p,0,0⟩,⟨p,0,0⟩,⟨p,0,0⟩,⟨p,0,0⟩,⟨p,0,0⟩⟩
@[reducible] def Ac (mb:C):Array F:=#[j p 0 0,j p 0 0,j p 0 0,j p 0 0,j p 0 0,j p 0 0,j p 0 0,j p 0 0,j p 0 0,j p 0 0,j p 0 0,j p 0 0,.map (D mb)]
structure Az (w:A):Prop where
 f:rC w
 l:nD w
theorem Az.below {w w':A} (h:Az w) (hb:Below w.heap.size w w'):Az w':=⟨h.f.below hb,h.l.below hb⟩
theorem Az.add {w X:A} (h:Az w) (hb:Below w.heap.size w X) {B:C} (hB:w.heap.size≤B):Po B X:=fun W hs=>h.f.below (hs.below hb (fun i hi=>by omega) hb.size)
def aeD (w:A) (ls:r aB) (e:Ending) (X:A):Prop:=
 Below w.heap.size w X∧
 match nS bK 0 ls with
 | .ok z=>∃h es ds ms,∃scan:EvC→r Sn,∃dn:aK→r Int,∃mn:aM→r Int,e= .returned (.tuple #[fJ h,.int .i64 (ls.length:Int),.int .i64 0])∧gU X w.heap.size h (bV z) es ds ms scan dn mn
 | .error (i,n)=>e= .returned (.tuple #[fJ j3,.int .i64 (i:Int),.int .i64 n])
theorem iw.start (W:A) (mb:C) (B:C) (hm:jA W mb []) (hB:B≤mb) (hB2:B≤W.heap.size):iw B (W.alloc (.cells (Ac mb) 94)) W.heap.size (Ac mb) bK [] [] []:=by
 have nil:∀{α:Type} {enc:α→r F} {k:C} {T:TypeId},Own (W.alloc (.cells (Ac mb) 94)) (W.heap.size+1) T k enc (j p 0 0) []:=Own.iJ _ _ _ _ _;refine⟨⟨⟨Bx.new W _ _,fun k hk=>⟨j p 0 0,?_,nil⟩,fun k hk=>⟨⟨fun x hx=>(by cases hx),List.nodup_nil,Nat.zero_le _⟩,Nat.zero_le _⟩⟩,⟨_,rfl,nil⟩,⟨_,rfl,nil⟩,⟨_,rfl,nil⟩,⟨_,rfl,nil⟩,rfl,rfl,rfl,⟨rfl,fun i x L hx=>(by cases hx)⟩,⟨rfl,fun i x L hx=>(by cases hx)⟩,⟨rfl,fun i x L hx=>(by cases hx)⟩⟩,⟨mb,rfl,hm.of_eq (Below.heap_alloc _ _ _ (by have:=hm.lt;omega)),hB⟩,hB2⟩;rcases(by omega:k=0∨k=1∨k=2∨k=3) with rfl|rfl|rfl|rfl <;> rfl
theorem oW.his {X Y:A} {R:C} {cs:Array F} {c:Cont} {es:r EvC} {ds:r aK} {ms:r aM} (h:oW X R cs c es ds ms) (z:Bw c) (hs:Same (fun i=>i≠R) X Y):
  ∃h':HC,∃scan:EvC→r Sn,∃dn:aK→r Int,∃mn:aM→r Int,(∀k,k<4→cs[8+k]?=D (h'.nm k).v)∧cs[4]?=D h'.e.v∧cs[5]?=D h'.d.v∧cs[6]?=D h'.m.v∧cs[7]?=D h'.w.v∧gU Y (R+1) h' c es ds ms scan dn mn:=by
 have sl:∀{α:Type} {enc:α→r F} {k:C} {T:TypeId} {v:F} {L:r α},Own X (R+1) T k enc v L→∃s:Sl,v= j s.a s.n s.c∧Own Y (R+1) T k enc (j s.a s.n s.c) L:=fun ho=>by
  obtain⟨a,c,q,_⟩:=ho.shape;exact⟨⟨a,_,c⟩,q,by rw[←q];exact ho.gy hs⟩
 obtain⟨v4,c4,o4⟩:=h.e;obtain⟨s4,rfl,y4⟩:=sl o4;obtain⟨v5,c5,o5⟩:=h.d;obtain⟨s5,rfl,y5⟩:=sl o5;obtain⟨v6,c6,o6⟩:=h.m;obtain⟨s6,rfl,y6⟩:=sl o6;obtain⟨v7,c7,o7⟩:=h.q;obtain⟨s7,rfl,y7⟩:=sl o7;obtain⟨u0,d0,p0⟩:=h.t.t 0 ah;obtain⟨t0,rfl,z0⟩:=sl p0;obtain⟨u1,d1,p1⟩:=h.t.t 1 ah;obtain⟨t1,rfl,z1⟩:=sl p1;obtain⟨u2,d2,p2⟩:=h.t.t 2 ah;obtain⟨t2,rfl,z2⟩:=sl p2;obtain⟨u3,d3,p3⟩:=h.t.t 3 ah;obtain⟨t3,rfl,z3⟩:=sl p3;have ow:∀{α β:Type} {T:TypeId} {ek:C} {enc:β→r F} [hc:Cells enc ek] {a:α→Option Addr} {n q:α→C} {xs:r α} {Ls:r (r β)},(∀x y,enc x=enc y→x=y)→zD X R T ek enc (fun x=> j (a x) (n x) (q x)) xs Ls→(∀L∈Ls,L.length≤2000000)→
   ∃f:α→r β,(∀x∈xs,Own Y (R+1) T ek enc (j (a x) (n x) (q x)) (f x))∧xs.map f=Ls:=fun {α β T ek enc hc a n q xs Ls} hinj ho hl=>by
  have key:∀i x,xs[i]?=D x→∃L,Ls[i]?=D L∧Own Y (R+1) T ek enc (j (a x) (n x) (q x)) L∧E (fun L=>Row Y ek enc (a x) (n x) (q x) L)=L:=fun i x hx=>by
   have hi:i<Ls.length:=by rw[←ho.1];exact(List.getElem?_eq_some_iff.1 hx).1
   have o:=(ho.2 i x Ls[i] hx (List.getElem?_eq_getElem hi)).gy hs;have hlen:=hl _ (List.getElem_mem hi);exact⟨_,List.getElem?_eq_getElem hi,o,Ab (hc:=hc) hinj (o.row (hc:=hc) ah)⟩
  refine⟨fun x=>E (fun L=>Row Y ek enc (a x) (n x) (q x) L),fun x hx=>?_,List.ext_getElem? (fun i=>?_)⟩
  ·obtain⟨i,hi⟩:=List.mem_iff_getElem?.1 hx
   obtain⟨L,_,o,e⟩:=key i x hi;show Own Y (R+1) T ek enc (j (a x) (n x) (q x)) (E (fun L=>Row Y ek enc (a x) (n x) (q x) L));rw[e];exact o
  ·rw[List.getElem?_map]
   cases hx:xs[i]? with
   |none=>rw[Option.map_none,List.getElem?_eq_none (by rw[←ho.1];exact List.getElem?_eq_none_iff.1 hx)]
   |some x=>
    obtain⟨L,h1,_,e⟩:=key i x hx;rw[Option.map_some,e,h1]
 obtain⟨f1,a1,b1⟩:=ow (hc:=l9) (a:=EvC.sa) (n:=EvC.sn) (q:=EvC.sc) FH h.se z.se;obtain⟨f2,a2,b2⟩:=ow (hc:=gZ) (a:=aK.sa) (n:=aK.sn) (q:=aK.sc) tX h.sd z.sd;obtain⟨f3,a3,b3⟩:=ow (hc:=gZ) (a:=aM.sa) (n:=aM.sn) (q:=aM.sc) tX h.sm z.sm;refine⟨⟨t0,t1,t2,t3,s4,s5,s6,s7⟩,f1,f2,f3,fun k hk=>?_,c4,c5,c6,c7,⟨y4,y5,y6,y7,fun k hk=>?_,a1,a2,a3,h.be,h.bd,h.bm,b1,b2,b3⟩⟩
 ·rcases(by omega:k=0∨k=1∨k=2∨k=3) with rfl|rfl|rfl|rfl
  ·exact d0
  ·exact d1
  ·exact d2
  ·exact d3
 ·rcases(by omega:k=0∨k=1∨k=2∨k=3) with rfl|rfl|rfl|rfl
  ·exact z0
  ·exact z1
  ·exact z2
  ·exact z3
end Yd
namespace Yd
open Nat renaming zero_le→a
open Go Go.RowKit Go.Proofs
theorem same_iff {X X':World} {B B':Nat} {h h':HC} {c c':Cont} {es es':List EvC} {ds ds':List aK} {ms ms':List aM} {scan jJ:EvC→List Sn} {dn kZ:aK→List Int} {mn oZ:aM→List Int}
  (o:gU X B h c es ds ms scan dn mn) (o':gU X' B' h' c' es' ds' ms' jJ kZ oZ):FB c.nl c'.nl es es' ds ds' ms ms' c.Q c'.Q scan jJ dn kZ mn oZ↔kV c c':=by
 have key:∀{α β γ:Type} {f:α→β} {g g':α→γ} {l l':List α},l.map (fun x=>(f x,g x))=l'.map (fun x=>(f x,g' x))↔(l.map f=l'.map f∧l.map g=l'.map g'):=fun {α β γ f g g' l l'}=>by
  constructor
  ·intro e
   have h1:=congrArg (List.map Prod.fst) e;have h2:=congrArg (List.map Prod.snd) e;rw[List.map_map,List.map_map] at h1 h2;exact⟨h1,h2⟩
  ·rintro⟨e1,e2⟩
   rw[←nH,←nH,e1,e2]
 unfold FB;rw[key,key,key,o.be,o.bd,o.bm,o.ss,o.ts,o.us,o'.be,o'.bd,o'.bm,o'.ss,o'.ts,o'.us];exact⟨fun⟨h1,⟨h2,h3⟩,⟨h4,h5⟩,h6,h7,h8⟩=>⟨h1,h7,h8,h2,h3,h4,h5,h6⟩,fun s=>⟨s.n,⟨s.D,s.SD⟩,⟨s.M,s.SM⟩,s.Q,s.E,s.SE⟩⟩
theorem Gl (X:World) (B:Nat):gU X B j3 bK [] [] [] (fun _=>[]) (fun _=>[]) (fun _=>[]):=
 ⟨Own.iJ _ _ _ _ _,Own.iJ _ _ _ _ _,Own.iJ _ _ _ _ _,Own.iJ _ _ _ _ _,fun i hi=>by
  rcases(by omega:i=0∨i=1∨i=2∨i=3) with rfl|rfl|rfl|rfl <;> exact Own.iJ _ _ _ _ _,fun x hx=>(by cases hx),fun x hx=>(by cases hx),fun x hx=>(by cases hx),rfl,rfl,rfl,rfl,rfl,rfl⟩
theorem Nn:Bw bK:=⟨a _,a _,a _,a _,fun _ _=>a _,fun L hL=>(by cases hL),fun L hL=>(by cases hL),fun L hL=>(by cases hL)⟩
theorem kS {X:World} {B B':Nat} {h h':HC} {c c':Cont} {es es':List EvC} {ds ds':List aK} {ms ms':List aM} {scan jJ:EvC→List Sn} {dn kZ:aK→List Int} {mn oZ:aM→List Int}
  (o:gU X B h c es ds ms scan dn mn) (o':gU X B' h' c' es' ds' ms' jJ kZ oZ) (z:Bw c) (z':Bw c'):Calls Tryz.prog 24 #[fJ h,fJ h'] X (fun e W=>∃b:Bool,e= .returned (.bool b)∧(b=true↔kV c c')∧Below X.heap.size X W):=by
 refine(KO X (o.deep z) (o'.deep z') (o.names z) (o'.names z')).mono ?_;rintro e W ⟨b,rfl,hb,hw⟩;exact⟨b,rfl,hb.trans (same_iff o o'),hw⟩
theorem kV.rfl' (c:Cont):kV c c:=⟨fun _ _=>rfl,rfl,rfl,rfl,rfl,rfl,rfl,rfl⟩
end Yd
