import Derived.Test.YtnhnhmeogckgpaaGreatDoorSpoken4
import Derived.IntWalk
import Derived.Test.YtnhnhmeogckgpaaGreatDoorEqF
import Derived.Test.YtnhnhmeogckgpaaGreatDoorLineC
import Derived.Laws.BytesArg
import Derived.Lib.Join
import Derived.Laws.RangeAny
import Derived.WalkSmall
import Derived.Lib.AtoiAllCases
import Derived.Lib.AtoiErrMem
set_option linter.all false
set_option maxRecDepth 200000
set_option maxHeartbeats 8000000
namespace Yd
open List renaming range→F
open Option renaming none→g,some→t
open Go Go.RowKit Go.Proofs Tryz
open Below renaming heap_setCell→j,refl→H
open Go.IntKind renaming i64→f
open Go.Obj renaming cells→u
open Go.Value renaming int→d,pointer→z
open Yd renaming hid→r
open _root_ renaming List→y,Int→E,Nat→G
attribute [local go_sem] Oper.semAt_some
theorem Iz (p:Addr) (w:World):Calls Tryz.prog 57 #[z (t p)] w fun e w'=>
  e= .returned (.func (.func 137) #[] #[z (t ⟨w.heap.size,0,g⟩)])∧w'=w.alloc (u #[z (t p)] 113):=by
 go_enter func57,ntmps57;go_wp2_with fail;go_ret;exact⟨rfl,rfl⟩
theorem CJ:∀args w,(callFunc 137 args).run Tryz.prog w= .ok (.enter 137 args) w:=enters_of func137 au rfl
@[reducible] def CK (m:G→E):Array Value:=#[d f (m 0),d f (m 1),d f (m 2),d f (m 3)]
theorem tZ (m:G→E) {s:G} (hs:s<4):(CK m)[s]?=t (d f (m s)):=by
 match s,hs with
 |0,_=>rfl
 |1,_=>rfl
 |2,_=>rfl
 |3,_=>rfl
theorem Bx.ahs {X:World} {b:G} {m:G→E} (h:Bx X b (CK m)) {s:G} (hs:s<4) (v:E):Bx (X.setCell ⟨b,s,g⟩ (d f v)) b (CK fun i=>if i=s then v else m i):=by
 refine⟨fun i=>?_,fun i=>by rw[World.frozen?_setCell];exact h.2.1 i,by have:=h.2.2;simpa[World.setCell] using this⟩;by_cases hi:i=s
 ·subst hi
  rw[World.cell?_setCell_same' _ _ _ (by rw[h.1 i,tZ m hs];rfl),tZ _ hs,if_pos rfl]
 ·rw[World.cell?_setCell_other _ _ _ _ (fun e=>by cases e;exact hi rfl),h.1 i]
  rcases Nat.lt_or_ge i 4 with h4|h4
  ·rw[tZ m h4,tZ _ h4,if_neg hi]
  ·rw[Array.getElem?_eq_none (by simpa using h4),Array.getElem?_eq_none (by simpa using h4)]
theorem Bx.putObj {X:World} {b:G} {cs:Array Value} (h:Bx X b cs) {l:G} (o:Obj) (hl:b≠l):Bx (X.putObj l o) b cs:=(Same.putObj (A:=fun i=>i≠l) X o ak).bx h hl
theorem Deep.below {w w':World} {h:HC} {es:y EvC} {ds:y aK} {ms:y aM} {qs:y Wa} {scan:EvC→y Sn} {dn:aK→y E} {mn:aM→y E} (hd:Deep w h es ds ms qs scan dn mn) {B:G}
  (hb:Below B w w') (hB:B=w.heap.size):Deep w' h es ds ms qs scan dn mn:=
 ⟨hd.1.below hb hB,hd.2.1.below hb hB,hd.2.2.1.below hb hB,hd.2.2.2.1.below hb hB,fun x hx=>(hd.2.2.2.2.1 x hx).below hb hB,fun x hx=>(hd.2.2.2.2.2.1 x hx).below hb hB,fun x hx=>(hd.2.2.2.2.2.2 x hx).below hb hB⟩
theorem max2 (a b:E) (w:World):(Builtin.max_ #[3,3] 3 #[d f a,d f b]).run Tryz.prog w= .ok (d f (if b>a then b else a)) w:=by
 simp[Builtin.max_,Builtin.max2]
def Ck (h:HC) (nl:G→y Bs) (es:y EvC) (ds:y aK) (ms:y aM) (qs:y Wa) (scan:EvC→y Sn) (dn:aK→y E) (mn:aM→y E):Bool:=
 mZ h nl es ds ms qs scan dn mn && (gP (aY es ds ms qs scan dn mn)).2 && (F 4).all (fun i=>decide ((gP (aY es ds ms qs scan dn mn)).1 i=(h.nm i).n))
def acT (b:Bool):E:=if b=true then 0 else 210
theorem Sz (h:HC) (nl:G→y Bs) (es:y EvC) (ds:y aK) (ms:y aM) (qs:y Wa) (scan:EvC→y Sn) (dn:aK→y E) (mn:aM→y E) (w:World) (hg:xU w)
  (hn:∀i,i<4→Row w 1 encStr (h.nm i).a (h.nm i).n (h.nm i).c (nl i)) (hd:Deep w h es ds ms qs scan dn mn):
  Calls Tryz.prog 25 #[fJ h] w (bC (d f (acT (Ck h nl es ds ms qs scan dn mn))) w):=by
 refine(callsIn_wide (n:=3)).1 ?_;refine callsIn_of_wp_marks Tryz.func25 rfl trivial ?_ rfl;simp only[Tryz.ntmps25,List.size_toArray,List.length_cons,List.length_nil,Nat.reduceAdd,Nat.reduceSub,Array.replicate_succ,Array.replicate_zero,List.push_toArray,List.append_toArray,List.nil_append,List.cons_append];refine wpIn_wide.2 ?_;obtain⟨S,hS⟩:∃S:Bool,S=mZ h nl es ds ms qs scan dn mn:=⟨_,rfl⟩;obtain⟨C,hC⟩:∃C:Bool,C=Ck h nl es ds ms qs scan dn mn:=⟨_,rfl⟩;obtain⟨xs,hxs⟩:∃xs,xs=aY es ds ms qs scan dn mn:=⟨_,rfl⟩;rw[←hC];have HC:Hid (C=(S && (gP xs).2 && (F 4).all (fun i=>decide ((gP xs).1 i=(h.nm i).n)))):=by rw[hC,hS,hxs];exact r rfl
 have wV:Hid (S=true→∀x∈xs,uV x):=fun hh=>by rw[hxs];exact Hy (by rw[←hS];exact hh) (fun i hi=>(hn i hi).len)
 have SS:=r hxs;have hb0:Below w.heap.size w ((w.alloc (u (aA h) 41)).alloc (u #[d f 0] 27)):=((H _ _).alloc (Nat.le_refl _) _).alloc ak _;have Cg:=r (FU h nl es ds ms qs scan dn mn _ (hg.below hb0) (fun i hi=>(hn i hi).below hb0 rfl) (hd.below hb0 rfl));rw[←hS] at Cg;have gL:=r ((Bx.new w (aA h) 41).alloc (u #[d f 0] 27));have hbr:=Bx.new (w.alloc (u (aA h) 41)) #[d f 0] 27;rw[World.size_alloc] at hbr;have zk:=r hbr;have HB0:=r hb0;have HD:=r hd;clear hC hS hxs hb0 hbr hd hg hn;go_wp2_with fail;refine Cg.q.mono ?_;rintro e w1 ⟨rfl,hb1⟩;have HB1:=r (HB0.q.bD hb1);have bE:=r (gL.q.keep hb1);have HR1:=r (zk.q.keep hb1);have VT:=bE.q.1;have aht:=HR1.q.1;have ahu:=HR1.q.2.1;have ahv:=HR1.q.2.2;clear hb1
 cases S
 ·go_wp2_with fail
  have hc:=(HR1.q.set1 (d f 210)).1 0;refine⟨d f 210,by simp[results,results25,go_sem,hc],?_,HB1.q.setCell (p:=⟨w.heap.size+1,0,g⟩) ak _⟩;rw[HC.q];rfl
 go_wp2_with (go_at_call 57;refine(Iz _ _).mono ?_;rintro e w' ⟨rfl,rfl⟩)
 have hz1:w.heap.size+2≤w1.heap.size:=by omega
 have uG:((w1.alloc (u #[d f 0,d f 0,d f 0,d f 0] 109)).alloc (u #[z (t ⟨w.heap.size,0,g⟩)] 113)).heap.size=w1.heap.size+2:=by simp
 have BH:Below w1.heap.size w1 ((w1.alloc (u #[d f 0,d f 0,d f 0,d f 0] 109)).alloc (u #[z (t ⟨w.heap.size,0,g⟩)] 113)):=
  ((H _ _).alloc (Nat.le_refl _) _).alloc ak _
 have FY:Bx ((w1.alloc (u #[d f 0,d f 0,d f 0,d f 0] 109)).alloc (u #[z (t ⟨w.heap.size,0,g⟩)] 113)) w1.heap.size (CK fun _=>0):=(Bx.new w1 _ _).alloc _;have FZ:Bx ((w1.alloc (u #[d f 0,d f 0,d f 0,d f 0] 109)).alloc (u #[z (t ⟨w.heap.size,0,g⟩)] 113)) (w1.heap.size+1) #[z (t ⟨w.heap.size,0,g⟩)]:=by
  have:=Bx.new (w1.alloc (u #[d f 0,d f 0,d f 0,d f 0] 109)) #[z (t ⟨w.heap.size,0,g⟩)] 113;rw[World.size_alloc] at this;exact this
 clear VT aht ahu ahv gL zk Cg;revert uG BH FY FZ;generalize(w1.alloc (u #[d f 0,d f 0,d f 0,d f 0] 109)).alloc (u #[z (t ⟨w.heap.size,0,g⟩)] 113)=V;intro uG BH FY FZ;have xA:=HB1.q.bD BH;have hVH:=bE.q.keep BH;have hVR:=HR1.q.keep BH;rw[SS.q] at HC wV;refine wpIn_wide.1 (BP (n:=3) (gf:=137) (lb:=#[z (t ⟨w1.heap.size+1,0,g⟩)]) (by simp[go_sem]) CJ
  (rT:=F3 w.heap.size) (k:=3) (D:=fun i=>i<w.heap.size∨i=w.heap.size∨i=w1.heap.size+1∨(w1.heap.size+4≤i∧i<w1.heap.size+7)) (xs:=aY es ds ms qs scan dn mn)
  (fun W hW hWs=>MC h es ds ms qs scan dn mn w.heap.size (w1.heap.size+1) _ w W HD.q (xA.trans (hW.mono xA.size)) (hVH.keep hW) (FZ.keep hW) (fun i hi=> .inl hi) (.inr (.inl rfl)) (.inr (.inr (.inl rfl)))
   (fun i h1 h2=> .inr (.inr (.inr ⟨by omega,by omega⟩)))) ah
  (fun x args X hx=>by obtain⟨_,_,_,rfl,_⟩:=hx;rfl)
  (fun pre X=>Below w.heap.size w X∧Bx X w.heap.size (aA h)∧Bx X (w.heap.size+1) #[d f 0]∧Bx X w1.heap.size (CK (gP pre).1)∧(gP pre).2=true)
  (fun c pre X=>c= .ret∧Below w.heap.size w X∧Bx X (w.heap.size+1) #[d f 210]∧(gP pre).2=false)
  (fun pre X Y hh k=>⟨k.below hh.1 (fun i hi=> .inl ah) hh.1.size,k.bx hh.2.1 (.inl ah),k.bx hh.2.2.1 (.inl ah),k.bx hh.2.2.2.1 (.inl ah),hh.2.2.2.2⟩)
  (fun c pre X Y hh k=>⟨hh.1,k.below hh.2.1 (fun i hi=> .inl ah) hh.2.1.size,k.bx hh.2.2.1 (.inl ah),hh.2.2.2⟩)
  ⟨xA,hVH,hVR,FY,rfl⟩ ?round ?done ?stop)
 case stop=>
  rintro c pre X hpre ⟨rfl,hb,hr,hno⟩ hdef;refine wpIn_wide.2 ?_;go_wp2_with fail;have hp:=hr.putObj (l:=V.heap.size) (.deferred g) ah;have hc:=hp.1 0;refine⟨by simp,.inl ⟨_,_,rfl,run_takeDeferred hdef,?_⟩⟩;refine⟨d f 210,by simp[results,results25,go_sem,hc],?_,(Same.putObj (A:=fun i=>i<w.heap.size) X _ ah).below hb (fun i hi=>hi) hb.size⟩;rw[HC.q,YM hpre hno];rfl
 case round=>
  rintro pre ⟨x1,x2⟩ args X ⟨hb,hH,hR,hM,hno⟩ hpre ⟨b,o,hlt,rfl,hc⟩ hsz m;simp only at hc;have hmem:(x1,x2)∈aY es ds ms qs scan dn mn:=hpre.subset ak;obtain⟨⟨hx0,hx4⟩,hn0,SK⟩:=wV.q trivial _ hmem;simp only at hx0 hx4 hn0 SK;obtain⟨s,rfl⟩:∃s:G,x1=s:=⟨x1.toNat,by omega⟩;have hs4:s<4:=by omega
  have ae0:=hmem
  gi_wp2
  refine⟨H _ _,fun X2 hk=>?_⟩;have ahw:b<X.heap.size:=by have:=hb.size;omega
  have hc2:X2.cell? ⟨b,o,g⟩=t (d f x2):=(World.cell?_of_block (a:=⟨b,o,g⟩) (hk.block b (by simp;omega) ahw)).trans hc;have hb2:Below w.heap.size w X2:=hk.below hb (fun i hi=>by simp;omega) hb.size;have hH2:=hk.bx hH (by simp;omega);have hR2:=hk.bx hR (by simp;omega);have hM2:=hk.bx hM (by simp;omega);have hcm:X2.cell? ⟨w1.heap.size,s,g⟩=t (d f ((gP pre).1 s)):=(hM2.1 s).trans (tZ _ hs4);have hz2:V.heap.size+2≤X2.heap.size:=by have:=hk.size;omega
  have rO:=r (ze pre (((s:G):E),x2));obtain⟨mm,hmm⟩:∃mm:E,mm=(gP pre).1 s:=⟨_,rfl⟩;rw[←hmm] at hcm;have Cq:=r hmm;have HB2:=r hb2;have D7:=r hH2;have HR2:=r hR2;have iq:=r hM2;have R4:=r hno;have HP:=r hpre;have ahx:=r hmem;clear hmm hb2 hH2 hR2 hM2 hno hpre hmem ae0 hb hH hR hM hk hc;have hmx:=max2 mm (x2+1);by_cases hgt:mm<x2
  ·have hfr:=HR2.q.2.1;have hcr:=HR2.q.1
   gi_wp2
   refine mM 7 [(0,0),(1,0),(2,0),(3,0),(4,0),(5,0),(6,0)] (fun _=>True) (fun W'=>W'.cell? ⟨b,o,g⟩=t (d f x2)∧W'.cell? ⟨w1.heap.size,s,g⟩=t (d f mm)) au au au (trivial) (⟨hc2,hcm⟩) ?_;refine qC ?_;refine bn ?_
   gi_wp2
   exact⟨⟨j _ _ _ _ (by simp;omega),j _ _ _ _ (by simp;omega)⟩,aO.setCell X2 (w.heap.size+1) 0 _ (by simp;omega),rfl,(HB2.q.setCell (p:=⟨w.heap.size+1,0,g⟩) ak _).drew,
    (HR2.q.set1 _).drew,by rw[rO.q];exact Nv (by simp only[Int.toNat_natCast];rw[←Cq.q];omega)⟩
  ·have hfm:=iq.q.2.1
   have hle:x2≤(gP pre).1 s:=by rw[←Cq.q];omega
   have hfe:(fun i=>if i=s then(if x2+1>(gP pre).1 i then x2+1 else(gP pre).1 i) else(gP pre).1 i)=(fun i=>if i=s then(if x2+1>mm then x2+1 else mm) else(gP pre).1 i):=by
    funext i
    by_cases hi:i=s
    ·subst hi;rw[Cq.q]
    ·simp[hi]
   have acV:=r (show gP (pre++[((s:E),x2)])=(fun i=>if i=s then(if x2+1>mm then x2+1 else mm) else(gP pre).1 i,true) by rw[rO.q,←hfe];exact Ku R4.q hle);clear hfe hle
   gi_wp2
   refine mM 7 [(0,0),(1,0),(2,0),(3,0),(4,0),(5,0),(6,0)] (fun _=>True) (fun W'=>W'.cell? ⟨b,o,g⟩=t (d f x2)∧W'.cell? ⟨w1.heap.size,s,g⟩=t (d f mm)) au au au (trivial) (⟨hc2,hcm⟩) ?_;refine qC ?_;refine bn ?_
   gi_wp2
   refine mM 10 [(0,0),(1,0),(2,0),(3,0),(4,0),(5,0),(6,0),(7,0),(8,0),(9,0),(10,2)] (fun _=>True) (fun W'=>W'.cell? ⟨b,o,g⟩=t (d f x2)∧W'.cell? ⟨w1.heap.size,s,g⟩=t (d f mm)) au au au (trivial) (⟨hc2,hcm⟩) ?_;refine qC ?_;refine eF rfl rfl rfl (fun K hK=>?_);go_simp;refine hK _ _ trivial ?_;clear hK K;refine bn ?_
   gi_wp2
   refine⟨⟨j _ _ _ _ (by simp;omega),j _ _ _ _ (by simp;omega)⟩,aO.setCell X2 w1.heap.size s _ (by simp;omega),(HB2.q.setCell (p:=⟨w1.heap.size,s,g⟩) (by simp;omega) _).drew.drew,
    (D7.q.setOther _ _ _ ah).drew.drew,(HR2.q.setOther _ _ _ ah).drew.drew,?_,by rw[acV.q]⟩
   have hval:max mm (IntKind.i64.wrap (x2+1))=(if x2+1>mm then x2+1 else mm):=by
    rw[IntWalk.i64_in _ ah];split <;> omega
   rw[acV.q,hval];exact((iq.q.ahs hs4 _).drew).drew
 case done=>
  rintro X ⟨hb,hH,hR,hM,hno⟩ hdef;rw[uG] at hdef;obtain⟨M,hMM⟩:∃M,M=(gP (aY es ds ms qs scan dn mn)).1:=⟨_,rfl⟩;rw[←hMM] at hM HC;rw[hno] at HC;have hbx:=hH.1;have HH:=r hH;have HR:=r hR;have HM:=r hM;have HB:=r hb;have zN:=r hdef;clear hH hR hM hb hdef hMM hno BH FY FZ xA hVH hVR;simp only[Exit.inBlock,Exit.then]
  go_wp2_with (go_at_call 48;refine(jH h _).mono ?_;rintro e w2 ⟨rfl,hb2⟩)
  have HB2:=r (HB.q.bD hb2);have HR2:=r (HR.q.keep hb2);have iq:=r (HM.q.keep hb2);have hlm:=HM.q.2.2;have P8:=r ((hb2.block _ (Array.getElem?_eq_some_iff.1 zN.q).1).trans zN.q);have hlV:=(Array.getElem?_eq_some_iff.1 P8.q).1;clear hb2 hbx
  go_loop [33] (fun i=>∃k:G,k≤4∧i= d f k∧(F k).all (fun i=>decide (M i=(h.nm i).n))=true) (fun i=>4 - (RowKit.intOf i).toNat)
  case atStart=>exact⟨0,by omega,rfl,rfl⟩
  case round=>
   obtain⟨k,hk,rfl,hall⟩:=hrel;have qL:=r hall;clear hall;by_cases hlt:k<4
   ·have hix:=fun W=>Ld h k hlt W
    have hcm:=(iq.q.1 k).trans (tZ M hlt);have hstep:Hid ((F (k+1)).all (fun i=>decide (M i=(h.nm i).n))=decide (M k=(h.nm k).n)):=by
     rw[List.range_succ,List.all_append,qL.q];exact r ak
    have hsub:Hid (M k≠(h.nm k).n→(F 4).all (fun i=>decide (M i=(h.nm i).n))=false):=r (fun hne=>by
     rw[List.all_eq_false];exact⟨k,by simpa using hlt,by simpa using hne⟩)
    obtain⟨sl,hsl⟩:∃sl,sl=h.nm k:=⟨_,rfl⟩;obtain⟨mk,hmk⟩:∃mk:E,mk=M k:=⟨_,rfl⟩;rw[←hsl] at hix hstep hsub;rw[←hmk] at hcm hstep hsub;obtain⟨sa,sn,sc⟩:=sl;clear hsl hmk;by_cases hq:mk=(sn:E)
    ·have hq1:(mk==(sn:E))=true:=beq_iff_eq.2 hq
     have hq2:(mk !=(sn:E))=false:=by simp[hq]
     have HQ:=r hq;clear hq;go_wp2_with fail
     go_round
     case rel=>exact⟨k+1,by omega,by go_num,by rw[hstep.q];simpa using HQ.q⟩
     case measure=>simp[RowKit.intOf];omega
    ·have hq1:(mk==(sn:E))=false:=beq_eq_false_iff_ne.2 hq
     have hq2:(mk !=(sn:E))=true:=by simp[hq]
     have HQ:=r hq;clear hq;have hfr:=HR2.q.2.1;have hcr:=HR2.q.1;have hlr:=HR2.q.2.2;go_wp2_with fail;have hp:=(HR2.q.set1 (d f 210)).putObj (l:=w1.heap.size+2) (.deferred g) ah;have hc:=hp.1 0;have hdf:(w2.setCell ⟨w.heap.size+1,0,g⟩ (d f 210)).heap[w1.heap.size+2]?=t (.deferred (t [])):=(j _ _ _ _ (by simp;omega)).trans P8.q;refine⟨by simp,.inl ⟨_,_,rfl,run_takeDeferred hdf,?_⟩⟩;refine⟨d f 210,by simp[results,results25,go_sem,hc],?_,(Same.putObj (A:=fun i=>i<w.heap.size) _ _ ah).below (HB2.q.setCell (p:=⟨w.heap.size+1,0,g⟩) ak _) (fun i hi=>hi) (by simp[World.setCell];omega)⟩;rw[HC.q,hsub.q HQ.q];rfl
   ·obtain rfl:k=4:=by omega
    have hfr:=HR2.q.2.1;have hcr:=HR2.q.1;have hlr:=HR2.q.2.2;go_wp2_with fail;have hp:=(HR2.q.set1 (d f 0)).putObj (l:=w1.heap.size+2) (.deferred g) ah;have hc:=hp.1 0;have hdf:(w2.setCell ⟨w.heap.size+1,0,g⟩ (d f 0)).heap[w1.heap.size+2]?=t (.deferred (t [])):=(j _ _ _ _ (by simp;omega)).trans P8.q;refine⟨by simp,.inl ⟨_,_,rfl,run_takeDeferred hdf,?_⟩⟩;refine⟨d f 0,by simp[results,results25,go_sem,hc],?_,(Same.putObj (A:=fun i=>i<w.heap.size) _ _ ah).below (HB2.q.setCell (p:=⟨w.heap.size+1,0,g⟩) ak _) (fun i hi=>hi) (by simp[World.setCell];omega)⟩;rw[HC.q,qL.q];rfl
end Yd
namespace Yd
open Bool renaming false→J
open List renaming length_drop→Z
open Option renaming some→G,none→I
open Go Go.RowKit Go.Proofs Tryz
open Below renaming refl→V
open Go renaming World→F,Value→S
open Tryz renaming prog→U
open Utf8 renaming decode→O
open _root_ renaming Nat→z,List→C,Int→H
structure aB where
 kind:H
 names:C Bs
 lvl:H
 aF:C To
 first:Bool
 bits:H
 deriving DecidableEq
def gM (w:F) (B:z) (l:bf) (s:aB):Prop:=
 (l.kind=s.kind∧l.lvl=s.lvl∧l.first=s.first∧l.bits=s.bits∧l.nn=s.names.length∧l.vn=s.aF.length)∧
 Own w B 9 1 encStr (.slice l.na l.nn l.nc) s.names∧Own w B 76 2 mR (.slice l.va l.vn l.vc) s.aF
theorem gM.below {w w':F} {B:z} {l:bf} {s:aB} (h:gM w B l s) (hb:Below w.heap.size w w'):gM w' B l s:=⟨h.1,h.2.1.below hb rfl,h.2.2.below hb rfl⟩
theorem gM.mono {w:F} {B B':z} {l:bf} {s:aB} (h:gM w B l s) (hB:B'≤B):gM w B' l s:=⟨h.1,h.2.1.mono hB,h.2.2.mono hB⟩
theorem Bx.new1 {X:F} {b:z} {cs:Array S} {T:TypeId} (h:X.heap.size=b):Bx (X.alloc (.cells cs T)) b cs:=h▸Bx.new X cs T
theorem Row.str1 (w:F) (s:Bs):Row (w.alloc (.cells #[.string ⟨s.toArray⟩] 9)) 1 encStr (G ⟨w.heap.size,0,I⟩) 1 1 [s]:=
 (Own.new (hc:=kQ) w w.heap.size 9 #[.string ⟨s.toArray⟩] [s] (Nat.le_refl _) rfl (by simp[maxLen])).row ak
theorem Row.ahy {X:F} {g:z} (h:X.heap.size=g) (s:Bs):Row (X.alloc (.cells #[.string ⟨s.toArray⟩] 9)) 1 encStr (G ⟨g,0,I⟩) 1 1 [s]:=h▸Row.str1 X s
theorem Row.drew {α:Type} {w:F} {k:z} {enc:α→C S} {a:Option Addr} {n c:z} {xs:C α} (h:Row w k enc a n c xs):Row w.drew k enc a n c xs:=h
theorem F4 {X:F} {p:Addr} {v:S} (o:Obj) (h:X.cell? p=G v):(X.alloc o).cell? p=G v:=(((V X.heap.size X).alloc (Nat.le_refl _) o).cell (fw h)).trans h
theorem Same.refl' {A:z→Prop} (X:F):Same A X X:=⟨rfl,rfl,rfl,Nat.le_refl _,fun _ _ _=>rfl⟩
theorem Same.setTail {A:z→Prop} {X Y:F} {b o:z} {v:S} (h:Same A X Y) (hb:¬A b):Same A X (Y.setCell ⟨b,o,I⟩ v):=
 ⟨h.os,h.tape,h.output,by have:=h.size;simpa[World.setCell] using this,fun i hi hl=>(Below.heap_setCell _ _ _ _ (fun e=>by have e':i=b:=e;rw[e'] at hi;exact hb hi)).trans (h.block i hi hl)⟩
theorem Same.nO {A:z→Prop} {X Y:F} (h:Same A X Y):Same A X Y.drew:=⟨h.os,h.tape,h.output,h.size,h.block⟩
section
variable {α:Type} {enc:α→C S} {k:z} {w w':F} {B:z} {E:TypeId} {v:S} {xs:C α}
theorem Own.grown (h:Own w B E k enc v xs) {row:Option z} (hg:w.grownBy w' row) (hne:∀g,v.ownBlock=G g→row≠G g):Own w' B E k enc v xs:=
 h.block fun g hg'=>hg.block g (h.lt g hg').2 (fun e=>hne g hg' e.symm)
theorem Own.same (h:Own w B E k enc v xs) {A:z→Prop} (hs:Same A w w') (hA:∀g,v.ownBlock=G g→A g):Own w' B E k enc v xs:=h.block fun g hg=>hs.block g (hA g hg) (h.lt g hg).2
theorem Own.tag (h:Own w B E k enc v xs) {g:z} (hg:v.ownBlock=G g):∃cs fz,w.heap[g]?=G (.cells cs E fz):=by
 rcases h.2 with⟨rfl,_⟩|⟨g',cap,cur,rfl,_,hh,_⟩
 ·cases hg
 ·obtain rfl:g'=g:=by simpa[Value.ownBlock] using hg
  exact⟨_,_,hh⟩
theorem Own.apart {β:Type} {enc':β→C S} {k' B':z} {E':TypeId} {v':S} {ys:C β} (h:Own w B E k enc v xs) (h':Own w B' E' k' enc' v' ys) (hE:E≠E'):∀g,v.ownBlock=G g→v'.ownBlock≠G g:=fun g hg hg'=>by
 obtain⟨cs,fz,e1⟩:=h.tag hg;obtain⟨cs',XO,e2⟩:=h'.tag hg';rw[e1] at e2
 cases e2
 exact hE rfl
theorem Own.far' (h:Own w B E k enc v xs) {i:z} (hi:i<B∨w.heap.size≤i):v.ownBlock≠G i:=fun e=>by
 have:=h.lt i e;omega
end
structure Kept (w:F) (l:bf) (w':F):Prop where
 size:w.heap.size≤w'.heap.size
 block:∀i,i<w.heap.size→G i≠(Value.slice l.na l.nn l.nc).ownBlock→G i≠(Value.slice l.va l.vn l.vc).ownBlock→w'.heap[i]?=w.heap[i]?
def ahz (w:F) (l l':bf):Prop:=
 (∀g,(Value.slice l'.na l'.nn l'.nc).ownBlock=G g→(Value.slice l.na l.nn l.nc).ownBlock=G g∨w.heap.size≤g)∧(∀g,(Value.slice l'.va l'.vn l'.vc).ownBlock=G g→(Value.slice l.va l.vn l.vc).ownBlock=G g∨w.heap.size≤g)
theorem Bx.aU {X:F} {b:z} {cs:Array S} (h:Bx X b cs) (i:z) (hi:i<cs.size) (v:S):Bx (X.setCell ⟨b,i,I⟩ v) b (cs.setIfInBounds i v):=by
 refine⟨fun j=>?_,fun j=>by rw[World.frozen?_setCell];exact h.2.1 j,by have:=h.2.2;simpa[World.setCell] using this⟩;by_cases hj:j=i
 ·subst hj
  rw[World.cell?_setCell_same' _ _ _ (by rw[h.1 j,Array.getElem?_eq_getElem hi];rfl),Array.getElem?_setIfInBounds_self_of_lt hi]
 ·rw[World.cell?_setCell_other _ _ _ _ (fun e=>by cases e;exact hj rfl),h.1 j,Array.getElem?_setIfInBounds_ne (fun e=>hj e.symm)]
theorem Row.toN {X:F} {g:z} (h:X.heap.size=g) (s:To):Row (X.alloc (.cells #[.string ⟨s.name.toArray⟩,.int .i64 s.k] 76)) 2 mR (G ⟨g,0,I⟩) 1 1 [s]:=
 h▸(Own.new (hc:=Fe) X X.heap.size 76 #[.string ⟨s.name.toArray⟩,.int .i64 s.k] [s] (Nat.le_refl _) rfl (by simp[maxLen])).row ak
theorem ae1 {X:F} {o:Obj} {g:z} (h:X.heap.size=g):(X.alloc o).heap[g]?=G o:=h▸World.alloc_heap_new X o
theorem ae2 {X:F} {b:z} {o':Obj} (o:Obj) (h:X.heap[b]?=G o'):(X.alloc o).heap[b]?=G o':=(Below.heap_alloc _ _ _ (Array.getElem?_eq_some_iff.1 h).1).trans h
theorem bH {w:F} {b i:z} {cs:Array S} {T:TypeId} {fr:z × z} (hb:w.heap[b]?=G (.cells cs T fr)) (v:S):(w.setCell ⟨b,i,I⟩ v).heap[b]?=G (.cells (cs.setIfInBounds i v) T fr):=by
 simp[World.setCell,Array.getElem?_modify,hb]
section
variable {α:Type} {enc:α→C S} {k:z}
theorem Ll [hc:Cells enc k]:∀(xs:C α) (i j:z) (x y:α) (v:S),xs[i]?=G x→j<k→(enc x).set j v=enc y→(xs.flatMap enc).set (i*k+j) v=(xs.set i y).flatMap enc
 |[],i,j,x,y,v,h,_,_=>by simp at h
 |a::xs,0,j,x,y,v,h,hj,he=>by
  obtain rfl:a=x:=by simpa using h
  rw[List.flatMap_cons,List.set_cons_zero,List.flatMap_cons,Nat.zero_mul,Nat.zero_add,List.set_append_left _ _ (by rw[hc.len];exact hj),he]
 |a::xs,i+1,j,x,y,v,h,hj,he=>by
  have ih:=Ll xs i j x y v (by simpa using h) hj he;rw[List.flatMap_cons,List.set_cons_succ,List.flatMap_cons,List.set_append_right _ _ (by rw[hc.len,Nat.succ_mul];omega),hc.len,←ih]
  congr 2
  rw[Nat.succ_mul];omega
theorem Own.put [hc:Cells enc k] {w:F} {B g n c i j:z} {E:TypeId} {xs:C α} {x y:α} {v:S} (h:Own w B E k enc (.slice (G ⟨g,0,I⟩) n c) xs) (hx:xs[i]?=G x) (hj:j<k) (he:(enc x).set j v=enc y):
  Own (w.setCell ⟨g,i*k+j,I⟩ v) B E k enc (.slice (G ⟨g,0,I⟩) n c) (xs.set i y):=by
 obtain⟨h1,h2⟩:=h;refine⟨vQ _,?_⟩;rcases h2 with⟨e,_⟩|⟨g',cap,cur,e,hB,hh,hn,hm,hs,ht⟩
 ·cases e
 ·injection e with e1 e2 e3
  injection e1 with e1;injection e1 with e1;subst e1;refine .inr ⟨g,cap,cur.setIfInBounds (i*k+j) v,?_,hB,bH hh v,by rw[List.length_set];exact hn,hm,by rw[Array.size_setIfInBounds];exact hs,?_⟩
  ·rw[List.length_set,e2,e3]
  ·rw[List.length_set,Array.toList_setIfInBounds,List.take_set,ht]
   exact Ll xs i j x y v hx hj he
end
theorem Row.uniq {α:Type} {enc:α→C S} {k:z} [hc:Cells enc k] (hinj:∀x y,enc x=enc y→x=y) {w:F} {a:Option Addr} {n c:z} {xs ys:C α} (h:Row w k enc a n c xs) (h':Row w k enc a n c ys):xs=ys:=by
 apply List.ext_getElem?
 intro i;rcases Nat.lt_or_ge i n with hi|hi
 ·obtain⟨x,b,o,hx,ha,hx'⟩:=h.at_ hi
  obtain⟨y,b',o',hy,ha',hy'⟩:=h'.at_ hi;rw[ha] at ha';injection ha' with ha';injection ha' with e1 e2;subst e1 e2;rw[hx,hy];refine congrArg G (hinj x y (List.ext_getElem? fun j=>?_));have hlx:=hc.len x;have hly:=hc.len y;rcases Nat.lt_or_ge j k with hj|hj
  ·have h1:(enc x)[j]?=G ((enc x)[j]' ah):=List.getElem?_eq_getElem _
   have h2:(enc y)[j]?=G ((enc y)[j]' ah):=List.getElem?_eq_getElem _;have g1:=hx' j _ h1;have g2:=hy' j _ h2;rw[h1,h2,←g1,←g2]
  ·rw[List.getElem?_eq_none ah,List.getElem?_eq_none ah]
 ·rw[List.getElem?_eq_none (by rw[h.len];omega),List.getElem?_eq_none (by rw[h'.len];omega)]
def kU {β:Type} (w X:F) (T:TypeId) (k:z) (enc:β→C S) (s:Sl) (L:C β):Prop:=
 L.length≤2000000∧(Row w k enc s.a s.n s.c L∨Own X w.heap.size T k enc s.v L)
section
variable {β:Type} {w X Y:F} {T:TypeId} {k:z} {enc:β→C S} {s:Sl} {L:C β}
theorem kU.same (h:kU w X T k enc s L) {g:z} {cs:Array S} {T':TypeId} {fz:z × z} (hg:X.heap[g]?=G (.cells cs T' fz)) (hT:T≠T') (hs:Same (fun i=>i≠g) X Y):kU w Y T k enc s L:=by
 obtain⟨hL,h|h⟩:=h
 ·exact⟨hL,.inl h⟩
 ·refine⟨hL,.inr (h.same hs (fun i hi e=>?_))⟩
  subst e;obtain⟨cs',XO,e'⟩:=h.tag hi;rw[hg] at e'
  cases e'
  exact hT rfl
theorem kU.below (h:kU w X T k enc s L) (hb:Below X.heap.size X Y):kU w Y T k enc s L:=by
 obtain⟨hL,h|h⟩:=h
 ·exact⟨hL,.inl h⟩
 ·exact⟨hL,.inr (h.below hb rfl)⟩
theorem kU.row [hc:Cells enc k] (h:kU w X T k enc s L) (hb:Below w.heap.size w X):Row X k enc s.a s.n s.c L:=by
 obtain⟨hL,h|h⟩:=h
 ·exact h.below hb rfl
 ·obtain⟨a,c,e,_,_⟩:=h.shape
  obtain⟨sa,sn,sc⟩:=s;injection e with e1 e2 e3;subst e1 e2 e3;exact h.row ah
theorem kU.own (h:Own X w.heap.size T k enc s.v L) (hL:L.length≤2000000):kU w X T k enc s L:=⟨hL,.inr h⟩
end
theorem Own.bB {β:Type} {X Y:F} {B:z} {T T':TypeId} {k:z} {enc:β→C S} {v:S} {L:C β} (h:Own X B T k enc v L) {g:z} (hg:∃cs fz,X.heap[g]?=G (.cells cs T' fz)) (hT:T≠T') (hs:Same (fun i=>i≠g) X Y):Own Y B T k enc v L:=by
 obtain⟨cs,fz,hg⟩:=hg;exact h.same hs (fun i hi e=>by
  subst e;obtain⟨cs',XO,e'⟩:=h.tag hi;rw[hg] at e'
  cases e'
  exact hT rfl)
def qD {α β:Type} (w X:F) (T:TypeId) (k:z) (enc:β→C S) (sl:α→Sl) (xs:C α) (Ls:C (C β)):Prop:=
 xs.length=Ls.length∧∀(i:z) (x:α) (L:C β),xs[i]?=G x→Ls[i]?=G L→kU w X T k enc (sl x) L
section
variable {α β:Type} {w X Y:F} {T:TypeId} {k:z} {enc:β→C S} {sl:α→Sl} {xs:C α} {Ls:C (C β)}
theorem qD.same (h:qD w X T k enc sl xs Ls) {g:z} {cs:Array S} {T':TypeId} {fz:z × z} (hg:X.heap[g]?=G (.cells cs T' fz)) (hT:T≠T') (hs:Same (fun i=>i≠g) X Y):qD w Y T k enc sl xs Ls:=
 ⟨h.1,fun i x L h1 h2=>(h.2 i x L h1 h2).same hg hT hs⟩
theorem qD.below (h:qD w X T k enc sl xs Ls) (hb:Below X.heap.size X Y):qD w Y T k enc sl xs Ls:=⟨h.1,fun i x L h1 h2=>(h.2 i x L h1 h2).below hb⟩
theorem qD.set (h:qD w X T k enc sl xs Ls) {i:z} {y:α} {L:C β} (hL:Ls[i]?=G L) (hy:kU w X T k enc (sl y) L):qD w X T k enc sl (xs.set i y) Ls:=by
 refine⟨by rw[List.length_set];exact h.1,fun j x L' h1 h2=>?_⟩;rw[List.getElem?_set] at h1
 split at h1
 ·rename_i e
  subst e
  split at h1
  ·injection h1 with h1
   subst h1;rw[hL] at h2;injection h2 with h2;subst h2;exact hy
  ·cases h1
 ·exact h.2 j x L' h1 h2
theorem qD.rows [hc:Cells enc k] (h:qD w X T k enc sl xs Ls) (hb:Below w.heap.size w X) (i:z) (x:α) (hx:xs[i]?=G x):∃L,Ls[i]?=G L∧Row X k enc (sl x).a (sl x).n (sl x).c L:=by
 have hi:i<Ls.length:=by rw[←h.1];exact(List.getElem?_eq_some_iff.1 hx).1
 exact⟨Ls[i],List.getElem?_eq_getElem hi,(h.2 i x _ hx (List.getElem?_eq_getElem hi)).row hb⟩
end
@[reducible] def EvC.sl (x:EvC):Sl:=⟨x.sa,x.sn,x.sc⟩
@[reducible] def aK.sl (x:aK):Sl:=⟨x.sa,x.sn,x.sc⟩
@[reducible] def aM.sl (x:aM):Sl:=⟨x.sa,x.sn,x.sc⟩
@[reducible] def EvC.wi (x:EvC) (s:Sl):EvC:={x with sa:=s.a,sn:=s.n,sc:=s.c}
@[reducible] def aK.wi (x:aK) (s:Sl):aK:={x with sa:=s.a,sn:=s.n,sc:=s.c}
@[reducible] def aM.wi (x:aM) (s:Sl):aM:={x with sa:=s.a,sn:=s.n,sc:=s.c}
def EvC.base (x:EvC):EvC:=x.wi ⟨I,0,0⟩
def aK.base (x:aK):aK:=x.wi ⟨I,0,0⟩
def aM.base (x:aM):aM:=x.wi ⟨I,0,0⟩
theorem yJ {α γ:Type} {f:α→γ} {xs:C α} {i:z} {x y:α} (hx:xs[i]?=G x) (he:f y=f x):(xs.set i y).map f=xs.map f:=by
 apply List.ext_getElem?
 intro j;rw[List.getElem?_map,List.getElem?_map,List.getElem?_set]
 split
 ·rename_i e
  subst e;rw[hx,if_pos (List.getElem?_eq_some_iff.1 hx).1];simp[he]
 ·rfl
structure Cont where
 nl:z→C Bs
 E:C EvC
 SE:C (C Sn)
 D:C aK
 SD:C (C H)
 M:C aM
 SM:C (C H)
 Q:C Wa
structure St (w X:F) (h:HC) (es:C EvC) (ds:C aK) (ms:C aM) (c:Cont):Prop where
 b:Below w.heap.size w X
 bx:Bx X w.heap.size (aA h)
 tg:∃cs fz,X.heap[w.heap.size]?=G (.cells cs 41 fz)
 b2:Bx X (w.heap.size+1) (Array.replicate 8 (.slice I 0 0))
 t2:∃cs fz,X.heap[w.heap.size+1]?=G (.cells cs 41 fz)
 e:kU w X 65 9 dP h.e es
 d:kU w X 79 2 eu h.d ds
 m:kU w X 81 4 dW h.m ms
 q:kU w X 83 2 fK h.w c.Q
 n:∀i,i<4→kU w X 9 1 encStr (h.nm i) (c.nl i)
 be:es.map EvC.base=c.E
 bd:ds.map aK.base=c.D
 bm:ms.map aM.base=c.M
 se:qD w X 148 3 dB EvC.sl es c.SE
 sd:qD w X 3 1 aZ aK.sl ds c.SD
 sm:qD w X 3 1 aZ aM.sl ms c.SM
section
variable {w X Y:F} {h:HC} {es:C EvC} {ds:C aK} {ms:C aM} {c:Cont}
theorem St.below (s:St w X h es ds ms c) (hb:Below X.heap.size X Y):St w Y h es ds ms c:=by
 obtain⟨cs,fz,ht⟩:=s.tg;obtain⟨cs',XO,ht'⟩:=s.t2;exact⟨s.b.trans (hb.mono s.b.size),s.bx.keep hb,⟨cs,fz,(hb.block _ s.bx.2.2).trans ht⟩,s.b2.keep hb,⟨cs',XO,(hb.block _ s.b2.2.2).trans ht'⟩,s.e.below hb,s.d.below hb,s.m.below hb,s.q.below hb,fun i hi=>(s.n i hi).below hb,s.be,s.bd,s.bm,s.se.below hb,s.sd.below hb,s.sm.below hb⟩
theorem St.drew (s:St w X h es ds ms c):St w X.drew h es ds ms c:=s.below (V _ _).drew
theorem sameBox (_s:St w X h es ds ms c) (j:z) (v:S):Same (fun i=>i≠w.heap.size) X (X.setCell ⟨w.heap.size,j,I⟩ v):=(Same.refl' X).setTail (fun hn=>hn rfl)
theorem pz (s:St w X h es ds ms c) (j:z) (v:S):Below w.heap.size w (X.setCell ⟨w.heap.size,j,I⟩ v):=(sameBox s j v).below s.b (fun i hi=>by omega) s.b.size
theorem St.agR (s:St w X h es ds ms c) (sl:Sl) (es':C EvC) {E' SE'} (h1:kU w X 65 9 dP sl es') (h2:es'.map EvC.base=E') (h3:qD w X 148 3 dB EvC.sl es' SE'):
  St w (X.setCell ⟨w.heap.size,4,I⟩ sl.v) {h with e:=sl} es' ds ms {c with E:=E',SE:=SE'}:=by
 obtain⟨cs,fz,ht⟩:=s.tg;have hs:=sameBox s 4 sl.v;exact⟨pz s _ _,s.bx.aU 4 ak _,⟨_,_,bH ht _⟩,hs.bx s.b2 ah,⟨_,_,(hs.block _ ah s.b2.2.2).trans s.t2.choose_spec.choose_spec⟩,h1.same ht aj hs,s.d.same ht aj hs,s.m.same ht aj hs,s.q.same ht aj hs,fun i hi=>(show kU w X 9 1 encStr (({h with e:=sl}:HC).nm i) (c.nl i) from(match i,hi with|0,_=>s.n 0 aj|1,_=>s.n 1 aj|2,_=>s.n 2 aj|3,_=>s.n 3 aj)).same ht aj hs,h2,s.bd,s.bm,h3.same ht aj hs,s.sd.same ht aj hs,s.sm.same ht aj hs⟩
theorem St.Uy (s:St w X h es ds ms c) {g i:z} {x:EvC} {L} (ho:Own X w.heap.size 65 9 dP h.e.v es) (ha:h.e.a=G ⟨g,0,I⟩) (hx:es[i]?=G x) (hL:c.SE[i]?=G L) (sl:Sl) (hy:kU w X 148 3 dB sl L):
  St w (X.setCell ⟨g,i*9+8,I⟩ sl.v) h (es.set i (x.wi sl)) ds ms c∧Own (X.setCell ⟨g,i*9+8,I⟩ sl.v) w.heap.size 65 9 dP h.e.v (es.set i (x.wi sl)):=by
 have oU:h.e.v.ownBlock=G g:=by simp only[Sl.v,ha];rfl
 obtain⟨cs,fz,ht⟩:=ho.tag oU;have hlt:=ho.lt g oU;have hs:Same (fun i=>i≠g) X (X.setCell ⟨g,i*9+8,I⟩ sl.v):=(Same.refl' X).setTail (fun hn=>hn rfl);have ho':Own (X.setCell ⟨g,i*9+8,I⟩ sl.v) w.heap.size 65 9 dP h.e.v (es.set i (x.wi sl)):=by
  have e:h.e.v= .slice (G ⟨g,0,I⟩) h.e.n h.e.c:=by simp only[Sl.v,ha]
  rw[e] at ho ⊢;exact ho.put hx aj rfl
 obtain⟨cs0,fz0,ht0⟩:=s.tg;have hg:w.heap.size≠g:=fun e=>by
  rw[e,ht] at ht0
  cases ht0
 obtain⟨cs2,Xg,ht2⟩:=s.t2;have hg2:w.heap.size+1≠g:=fun e=>by
  rw[e,ht] at ht2
  cases ht2
 exact⟨⟨hs.below s.b (fun i hi=>by omega) s.b.size,hs.bx s.bx hg,⟨_,_,(hs.block _ hg s.bx.2.2).trans ht0⟩,hs.bx s.b2 hg2,⟨_,_,(hs.block _ hg2 s.b2.2.2).trans ht2⟩,⟨by rw[List.length_set];exact s.e.1,.inr ho'⟩,s.d.same ht aj hs,s.m.same ht aj hs,s.q.same ht aj hs,fun j hj=>(s.n j hj).same ht aj hs,(yJ (f:=EvC.base) (y:=x.wi sl) hx rfl).trans s.be,s.bd,s.bm,(s.se.same ht aj hs).set hL (hy.same ht aj hs),s.sd.same ht aj hs,s.sm.same ht aj hs⟩,ho'⟩
theorem St.agS (s:St w X h es ds ms c) (sl:Sl) (ds':C aK) {D' SD'} (h1:kU w X 79 2 eu sl ds') (h2:ds'.map aK.base=D') (h3:qD w X 3 1 aZ aK.sl ds' SD'):
  St w (X.setCell ⟨w.heap.size,5,I⟩ sl.v) {h with d:=sl} es ds' ms {c with D:=D',SD:=SD'}:=by
 obtain⟨cs,fz,ht⟩:=s.tg;have hs:=sameBox s 5 sl.v;exact⟨pz s _ _,s.bx.aU 5 ak _,⟨_,_,bH ht _⟩,hs.bx s.b2 ah,⟨_,_,(hs.block _ ah s.b2.2.2).trans s.t2.choose_spec.choose_spec⟩,s.e.same ht aj hs,h1.same ht aj hs,s.m.same ht aj hs,s.q.same ht aj hs,fun i hi=>(show kU w X 9 1 encStr (({h with d:=sl}:HC).nm i) (c.nl i) from(match i,hi with|0,_=>s.n 0 aj|1,_=>s.n 1 aj|2,_=>s.n 2 aj|3,_=>s.n 3 aj)).same ht aj hs,s.be,h2,s.bm,s.se.same ht aj hs,h3.same ht aj hs,s.sm.same ht aj hs⟩
theorem St.Uz (s:St w X h es ds ms c) {g i:z} {x:aK} {L} (ho:Own X w.heap.size 79 2 eu h.d.v ds) (ha:h.d.a=G ⟨g,0,I⟩) (hx:ds[i]?=G x) (hL:c.SD[i]?=G L) (sl:Sl) (hy:kU w X 3 1 aZ sl L):
  St w (X.setCell ⟨g,i*2+1,I⟩ sl.v) h es (ds.set i (x.wi sl)) ms c∧Own (X.setCell ⟨g,i*2+1,I⟩ sl.v) w.heap.size 79 2 eu h.d.v (ds.set i (x.wi sl)):=by
 have oU:h.d.v.ownBlock=G g:=by simp only[Sl.v,ha];rfl
 obtain⟨cs,fz,ht⟩:=ho.tag oU;have hlt:=ho.lt g oU;have hs:Same (fun i=>i≠g) X (X.setCell ⟨g,i*2+1,I⟩ sl.v):=(Same.refl' X).setTail (fun hn=>hn rfl);have ho':Own (X.setCell ⟨g,i*2+1,I⟩ sl.v) w.heap.size 79 2 eu h.d.v (ds.set i (x.wi sl)):=by
  have e:h.d.v= .slice (G ⟨g,0,I⟩) h.d.n h.d.c:=by simp only[Sl.v,ha]
  rw[e] at ho ⊢;exact ho.put hx aj rfl
 obtain⟨cs0,fz0,ht0⟩:=s.tg;have hg:w.heap.size≠g:=fun e=>by
  rw[e,ht] at ht0
  cases ht0
 obtain⟨cs2,Xg,ht2⟩:=s.t2;have hg2:w.heap.size+1≠g:=fun e=>by
  rw[e,ht] at ht2
  cases ht2
 exact⟨⟨hs.below s.b (fun i hi=>by omega) s.b.size,hs.bx s.bx hg,⟨_,_,(hs.block _ hg s.bx.2.2).trans ht0⟩,hs.bx s.b2 hg2,⟨_,_,(hs.block _ hg2 s.b2.2.2).trans ht2⟩,s.e.same ht aj hs,⟨by rw[List.length_set];exact s.d.1,.inr ho'⟩,s.m.same ht aj hs,s.q.same ht aj hs,fun j hj=>(s.n j hj).same ht aj hs,s.be,(yJ (f:=aK.base) (y:=x.wi sl) hx rfl).trans s.bd,s.bm,s.se.same ht aj hs,(s.sd.same ht aj hs).set hL (hy.same ht aj hs),s.sm.same ht aj hs⟩,ho'⟩
theorem St.agT (s:St w X h es ds ms c) (sl:Sl) (ms':C aM) {M' SM'} (h1:kU w X 81 4 dW sl ms') (h2:ms'.map aM.base=M') (h3:qD w X 3 1 aZ aM.sl ms' SM'):
  St w (X.setCell ⟨w.heap.size,6,I⟩ sl.v) {h with m:=sl} es ds ms' {c with M:=M',SM:=SM'}:=by
 obtain⟨cs,fz,ht⟩:=s.tg;have hs:=sameBox s 6 sl.v;exact⟨pz s _ _,s.bx.aU 6 ak _,⟨_,_,bH ht _⟩,hs.bx s.b2 ah,⟨_,_,(hs.block _ ah s.b2.2.2).trans s.t2.choose_spec.choose_spec⟩,s.e.same ht aj hs,s.d.same ht aj hs,h1.same ht aj hs,s.q.same ht aj hs,fun i hi=>(show kU w X 9 1 encStr (({h with m:=sl}:HC).nm i) (c.nl i) from(match i,hi with|0,_=>s.n 0 aj|1,_=>s.n 1 aj|2,_=>s.n 2 aj|3,_=>s.n 3 aj)).same ht aj hs,s.be,s.bd,h2,s.se.same ht aj hs,s.sd.same ht aj hs,h3.same ht aj hs⟩
theorem St.UA (s:St w X h es ds ms c) {g i:z} {x:aM} {L} (ho:Own X w.heap.size 81 4 dW h.m.v ms) (ha:h.m.a=G ⟨g,0,I⟩) (hx:ms[i]?=G x) (hL:c.SM[i]?=G L) (sl:Sl) (hy:kU w X 3 1 aZ sl L):
  St w (X.setCell ⟨g,i*4+3,I⟩ sl.v) h es ds (ms.set i (x.wi sl)) c∧Own (X.setCell ⟨g,i*4+3,I⟩ sl.v) w.heap.size 81 4 dW h.m.v (ms.set i (x.wi sl)):=by
 have oU:h.m.v.ownBlock=G g:=by simp only[Sl.v,ha];rfl
 obtain⟨cs,fz,ht⟩:=ho.tag oU;have hlt:=ho.lt g oU;have hs:Same (fun i=>i≠g) X (X.setCell ⟨g,i*4+3,I⟩ sl.v):=(Same.refl' X).setTail (fun hn=>hn rfl);have ho':Own (X.setCell ⟨g,i*4+3,I⟩ sl.v) w.heap.size 81 4 dW h.m.v (ms.set i (x.wi sl)):=by
  have e:h.m.v= .slice (G ⟨g,0,I⟩) h.m.n h.m.c:=by simp only[Sl.v,ha]
  rw[e] at ho ⊢;exact ho.put hx aj rfl
 obtain⟨cs0,fz0,ht0⟩:=s.tg;have hg:w.heap.size≠g:=fun e=>by
  rw[e,ht] at ht0
  cases ht0
 obtain⟨cs2,Xg,ht2⟩:=s.t2;have hg2:w.heap.size+1≠g:=fun e=>by
  rw[e,ht] at ht2
  cases ht2
 exact⟨⟨hs.below s.b (fun i hi=>by omega) s.b.size,hs.bx s.bx hg,⟨_,_,(hs.block _ hg s.bx.2.2).trans ht0⟩,hs.bx s.b2 hg2,⟨_,_,(hs.block _ hg2 s.b2.2.2).trans ht2⟩,s.e.same ht aj hs,s.d.same ht aj hs,⟨by rw[List.length_set];exact s.m.1,.inr ho'⟩,s.q.same ht aj hs,fun j hj=>(s.n j hj).same ht aj hs,s.be,s.bd,(yJ (f:=aM.base) (y:=x.wi sl) hx rfl).trans s.bm,s.se.same ht aj hs,s.sd.same ht aj hs,(s.sm.same ht aj hs).set hL (hy.same ht aj hs)⟩,ho'⟩
theorem St.agU (s:St w X h es ds ms c) (sl:Sl) {Q'} (h1:kU w X 83 2 fK sl Q'):
  St w (X.setCell ⟨w.heap.size,7,I⟩ sl.v) {h with w:=sl} es ds ms {c with Q:=Q'}:=by
 obtain⟨cs,fz,ht⟩:=s.tg;have hs:=sameBox s 7 sl.v;exact⟨pz s _ _,s.bx.aU 7 ak _,⟨_,_,bH ht _⟩,hs.bx s.b2 ah,⟨_,_,(hs.block _ ah s.b2.2.2).trans s.t2.choose_spec.choose_spec⟩,s.e.same ht aj hs,s.d.same ht aj hs,s.m.same ht aj hs,h1.same ht aj hs,fun i hi=>(show kU w X 9 1 encStr (({h with w:=sl}:HC).nm i) (c.nl i) from(match i,hi with|0,_=>s.n 0 aj|1,_=>s.n 1 aj|2,_=>s.n 2 aj|3,_=>s.n 3 aj)).same ht aj hs,s.be,s.bd,s.bm,s.se.same ht aj hs,s.sd.same ht aj hs,s.sm.same ht aj hs⟩
theorem St.ad9 (s:St w X h es ds ms c) (sl:Sl) (h1:kU w X 9 1 encStr sl (c.nl 0)):
  St w (X.setCell ⟨w.heap.size,0,I⟩ sl.v) {h with t:=sl} es ds ms c:=by
 obtain⟨cs,fz,ht⟩:=s.tg;have hs:=sameBox s 0 sl.v;exact⟨pz s _ _,s.bx.aU 0 ak _,⟨_,_,bH ht _⟩,hs.bx s.b2 ah,⟨_,_,(hs.block _ ah s.b2.2.2).trans s.t2.choose_spec.choose_spec⟩,s.e.same ht aj hs,s.d.same ht aj hs,s.m.same ht aj hs,s.q.same ht aj hs,fun i hi=>(show kU w X 9 1 encStr (({h with t:=sl}:HC).nm i) (c.nl i) from(match i,hi with|0,_=>h1|1,_=>s.n 1 aj|2,_=>s.n 2 aj|3,_=>s.n 3 aj)).same ht aj hs,s.be,s.bd,s.bm,s.se.same ht aj hs,s.sd.same ht aj hs,s.sm.same ht aj hs⟩
theorem St.ad' (s:St w X h es ds ms c) (sl:Sl) (h1:kU w X 9 1 encStr sl (c.nl 1)):
  St w (X.setCell ⟨w.heap.size,1,I⟩ sl.v) {h with s:=sl} es ds ms c:=by
 obtain⟨cs,fz,ht⟩:=s.tg;have hs:=sameBox s 1 sl.v;exact⟨pz s _ _,s.bx.aU 1 ak _,⟨_,_,bH ht _⟩,hs.bx s.b2 ah,⟨_,_,(hs.block _ ah s.b2.2.2).trans s.t2.choose_spec.choose_spec⟩,s.e.same ht aj hs,s.d.same ht aj hs,s.m.same ht aj hs,s.q.same ht aj hs,fun i hi=>(show kU w X 9 1 encStr (({h with s:=sl}:HC).nm i) (c.nl i) from(match i,hi with|0,_=>s.n 0 aj|1,_=>h1|2,_=>s.n 2 aj|3,_=>s.n 3 aj)).same ht aj hs,s.be,s.bd,s.bm,s.se.same ht aj hs,s.sd.same ht aj hs,s.sm.same ht aj hs⟩
theorem St.aea (s:St w X h es ds ms c) (sl:Sl) (h1:kU w X 9 1 encStr sl (c.nl 2)):
  St w (X.setCell ⟨w.heap.size,2,I⟩ sl.v) {h with o:=sl} es ds ms c:=by
 obtain⟨cs,fz,ht⟩:=s.tg;have hs:=sameBox s 2 sl.v;exact⟨pz s _ _,s.bx.aU 2 ak _,⟨_,_,bH ht _⟩,hs.bx s.b2 ah,⟨_,_,(hs.block _ ah s.b2.2.2).trans s.t2.choose_spec.choose_spec⟩,s.e.same ht aj hs,s.d.same ht aj hs,s.m.same ht aj hs,s.q.same ht aj hs,fun i hi=>(show kU w X 9 1 encStr (({h with o:=sl}:HC).nm i) (c.nl i) from(match i,hi with|0,_=>s.n 0 aj|1,_=>s.n 1 aj|2,_=>h1|3,_=>s.n 3 aj)).same ht aj hs,s.be,s.bd,s.bm,s.se.same ht aj hs,s.sd.same ht aj hs,s.sm.same ht aj hs⟩
theorem St.aeb (s:St w X h es ds ms c) (sl:Sl) (h1:kU w X 9 1 encStr sl (c.nl 3)):
  St w (X.setCell ⟨w.heap.size,3,I⟩ sl.v) {h with p:=sl} es ds ms c:=by
 obtain⟨cs,fz,ht⟩:=s.tg;have hs:=sameBox s 3 sl.v;exact⟨pz s _ _,s.bx.aU 3 ak _,⟨_,_,bH ht _⟩,hs.bx s.b2 ah,⟨_,_,(hs.block _ ah s.b2.2.2).trans s.t2.choose_spec.choose_spec⟩,s.e.same ht aj hs,s.d.same ht aj hs,s.m.same ht aj hs,s.q.same ht aj hs,fun i hi=>(show kU w X 9 1 encStr (({h with p:=sl}:HC).nm i) (c.nl i) from(match i,hi with|0,_=>s.n 0 aj|1,_=>s.n 1 aj|2,_=>s.n 2 aj|3,_=>h1)).same ht aj hs,s.be,s.bd,s.bm,s.se.same ht aj hs,s.sd.same ht aj hs,s.sm.same ht aj hs⟩
end
theorem Ab {β:Type} {X:F} {k:z} {enc:β→C S} [hc:Cells enc k] (hinj:∀x y,enc x=enc y→x=y) {a:Option Addr} {n c:z} {L:C β} (h:Row X k enc a n c L):Classical.epsilon (fun L=>Row X k enc a n c L)=L:=
 Row.uniq (hc:=hc) hinj (Classical.epsilon_spec ⟨L,h⟩) h
theorem FH (x y:Sn) (h:dB x=dB y):x=y:=by
 obtain⟨a,b,c⟩:=x;obtain⟨d,e,f⟩:=y;simp[dB] at h;simp[h]
theorem tX (x y:H) (h:aZ x=aZ y):x=y:=by simpa[aZ] using h
theorem qD.eps {α β:Type} {w X:F} {T:TypeId} {k:z} {enc:β→C S} [hc:Cells enc k] {sl:α→Sl} {xs:C α} {Ls:C (C β)} (hinj:∀x y,enc x=enc y→x=y) (h:qD w X T k enc sl xs Ls) (hb:Below w.heap.size w X):
  (∀x∈xs,Row X k enc (sl x).a (sl x).n (sl x).c (Classical.epsilon (fun L=>Row X k enc (sl x).a (sl x).n (sl x).c L)))∧xs.map (fun x=>Classical.epsilon (fun L=>Row X k enc (sl x).a (sl x).n (sl x).c L))=Ls:=by
 constructor
 ·intro x hx
  obtain⟨i,hi⟩:=List.mem_iff_getElem?.1 hx;obtain⟨L,_,hr⟩:=h.rows (hc:=hc) hb i x hi;rw[Ab (hc:=hc) hinj hr];exact hr
 ·apply List.ext_getElem?
  intro i;rw[List.getElem?_map]
  cases hx:xs[i]? with
  |none=>rw[Option.map_none,List.getElem?_eq_none (by rw[←h.1];exact List.getElem?_eq_none_iff.1 hx)]
  |some x=>
   obtain⟨L,hL,hr⟩:=h.rows (hc:=hc) hb i x hx;rw[Option.map_some,Ab (hc:=hc) hinj hr,hL]
def ahA (w:F) (c:Cont) (e:Ending) (X:F):Prop:=
 ∃h es ds ms,∃scan:EvC→C Sn,∃dn:aK→C H,∃mn:aM→C H,e= .returned (fJ h)∧Deep X h es ds ms c.Q scan dn mn∧(∀i,i<4→Row X 1 encStr (h.nm i).a (h.nm i).n (h.nm i).c (c.nl i))∧
  es.map EvC.base=c.E∧ds.map aK.base=c.D∧ms.map aM.base=c.M∧es.map scan=c.SE∧ds.map dn=c.SD∧ms.map mn=c.SM∧Below w.heap.size w X
section
variable {w X Y:F} {h:HC} {es:C EvC} {ds:C aK} {ms:C aM} {c:Cont}
theorem St.cast {c':Cont} (s:St w X h es ds ms c) (e:c=c'):St w X h es ds ms c':=e▸s
end
theorem St.ret {w X:F} {h:HC} {es:C EvC} {ds:C aK} {ms:C aM} {c:Cont} (s:St w X h es ds ms c):ahA w c (.returned (fJ h)) X:=by
 obtain⟨h1,h2⟩:=s.se.eps (hc:=l9) FH s.b;obtain⟨h3,h4⟩:=s.sd.eps (hc:=gZ) tX s.b;obtain⟨h5,h6⟩:=s.sm.eps (hc:=gZ) tX s.b;exact⟨h,es,ds,ms,_,_,_,rfl,⟨s.e.row (hc:=sO) s.b,s.d.row (hc:=qJ) s.b,s.m.row (hc:=oo) s.b,s.q.row (hc:=sH) s.b,h1,h3,h5⟩,fun i hi=>(s.n i hi).row (hc:=kQ) s.b,s.be,s.bd,s.bm,h2,h4,h6,s.b⟩
theorem qD.start {α β:Type} {w X:F} {T:TypeId} {k:z} {enc:β→C S} {sl:α→Sl} {xs:C α} (f:α→C β) (h:∀x∈xs,(f x).length≤2000000∧Row w k enc (sl x).a (sl x).n (sl x).c (f x)):qD w X T k enc sl xs (xs.map f):=by
 refine⟨by rw[List.length_map],fun i x L hx hL=>?_⟩;rw[List.getElem?_map,hx] at hL;injection hL with hL;subst hL;have:=h x (List.mem_of_getElem? hx);exact⟨this.1,.inl this.2⟩
def I8 (nl:z→C Bs) (es:C EvC) (ds:C aK) (ms:C aM) (qs:C Wa) (scan:EvC→C Sn) (dn:aK→C H) (mn:aM→C H):Prop:=
 es.length≤2000000∧ds.length≤2000000∧ms.length≤2000000∧qs.length≤2000000∧(∀i,i<4→(nl i).length≤2000000)∧(∀x∈es,(scan x).length≤2000000)∧(∀x∈ds,(dn x).length≤2000000)∧(∀x∈ms,(mn x).length≤2000000)
def wG (m:z) (nl:z→C Bs) (es:C EvC) (ds:C aK) (ms:C aM) (qs:C Wa) (scan:EvC→C Sn) (dn:aK→C H) (mn:aM→C H):Cont:=
 ⟨nl,(es.take m).map EvC.base,(es.take m).map scan,ds.map aK.base,ds.map dn,ms.map aM.base,ms.map mn,qs⟩
theorem St.start {h:HC} {nl:z→C Bs} {es:C EvC} {ds:C aK} {ms:C aM} {qs:C Wa} {scan:EvC→C Sn} {dn:aK→C H} {mn:aM→C H} {w:F} (hn:∀i,i<4→Row w 1 encStr (h.nm i).a (h.nm i).n (h.nm i).c (nl i))
  (hd:Deep w h es ds ms qs scan dn mn) (hB:I8 nl es ds ms qs scan dn mn) (m:z) (hm:h.e.n≤m):
  St w ((w.alloc (.cells (aA h) 41)).alloc (.cells (Array.replicate 8 (.slice I 0 0)) 41)) h es ds ms (wG m nl es ds ms qs scan dn mn):=by
 obtain⟨b1,b2,b3,b4,b5,b6,b7,b8⟩:=hB;have hl:=hd.1.len;have ht:es.take m=es:=List.take_of_length_le ah;refine⟨av (av (V w.heap.size w) _) _,Bx.alloc (Bx.new w (aA h) 41) _,⟨_,_,ae2 _ (fu w _)⟩,Bx.new1 ak,⟨_,_,ae1 ak⟩,⟨b1,.inl hd.1⟩,⟨b2,.inl hd.2.1⟩,⟨b3,.inl hd.2.2.1⟩,⟨b4,.inl hd.2.2.2.1⟩,fun i hi=>⟨b5 i hi,.inl (hn i hi)⟩,?_,rfl,rfl,?_,qD.start dn (fun x hx=>⟨b7 x hx,hd.2.2.2.2.2.1 x hx⟩),qD.start mn (fun x hx=>⟨b8 x hx,hd.2.2.2.2.2.2 x hx⟩)⟩
 ·simp only[wG,ht]
 ·simp only[wG,ht]
  exact qD.start scan (fun x hx=>⟨b6 x hx,hd.2.2.2.2.1 x hx⟩)
theorem Own.open_ {α:Type} {enc:α→C S} {k:z} [hc:Cells enc k] {X:F} {B:z} {E:TypeId} {a:Option Addr} {n c:z} {xs:C α} (h:Own X B E k enc (.slice a n c) xs) (hn:0<n):
  ∃g cur,a=G ⟨g,0,I⟩∧Bx X g cur∧xs.length=n∧n≤c∧B≤g∧(∀i x j v,xs[i]?=G x→(enc x)[j]?=G v→cur[i*k+j]?=G v):=by
 obtain⟨h1,h2⟩:=h;rcases h2 with⟨he,h0⟩|⟨g,cap,cur,he,hB,hh,hn',_,hs,ht⟩
 ·injection he with _ e2 _
  omega
 ·injection he with e1 e2 e3
  subst e1 e2 e3;refine⟨g,cur,rfl,⟨fun i=>?_,fun i=>?_,(Array.getElem?_eq_some_iff.1 hh).1⟩,rfl,hn',hB,fun i x j v hx hv=>?_⟩
  ·simp[World.cell?,hh]
  ·simp[World.frozen?,hh]
  ·have hf:=flat_get (hc:=hc) xs i x j v hx hv
   have hlt:i*k+j<xs.length*k:=by rw[←h1];exact(List.getElem?_eq_some_iff.1 hf).1
   rw[←ht,List.getElem?_take,if_pos hlt] at hf
   simpa using hf
def iA (r:H):H:=if r=115 then 40 else if r=116∨r=109 then 300 else 0
structure Bl (w:F) (na:Option Addr) (nn nc:z) (va:Option Addr) (vn vc:z) (names:C Bs) (aF:C To):Prop where
 rn:Row w 1 encStr na nn nc names
 rv:Row w 2 mR va vn vc aF
 wn:∀s∈names,bS ⟨s.toArray⟩=true
 wv:∀t∈aF,nM t
 g:nD w
 T:Lib.Utf8Tabs 6 7 w
theorem Bl.below {w w':F} {na:Option Addr} {nn nc:z} {va:Option Addr} {vn vc:z} {names:C Bs} {aF:C To} (h:Bl w na nn nc va vn vc names aF) (hb:Below w.heap.size w w'):Bl w' na nn nc va vn vc names aF:=
 ⟨h.rn.below hb rfl,h.rv.below hb rfl,h.wn,h.wv,h.g.below hb,Utf8Tabs_below h.T hb⟩
theorem NQ:∀args w,(callFunc 91 args).run U w= .ok (.enter 91 args) w:=enters_of func91 au rfl
theorem NP:∀args w,(callFunc 94 args).run U w= .ok (.enter 94 args) w:=enters_of func94 au rfl
theorem Bl.names {w:F} {na:Option Addr} {nn nc:z} {va:Option Addr} {vn vc:z} {names:C Bs} {aF:C To} (h:Bl w na nn nc va vn vc names aF):
  Calls U 93 #[.slice na nn nc,.func (.func 94) #[] #[]] w (bC (.bool J) w):=by
 have:=Nf na nn nc 94 #[] names (fun s=>!bS ⟨s.toArray⟩) w h.rn NP (fun x _ W hb=>by simpa using FJ x W (Utf8Tabs_below h.T hb))
 rwa[List.any_eq_false.2 (fun s hs=>by simp[h.wn s hs])] at this
theorem Bl.aF {w:F} {na:Option Addr} {nn nc:z} {va:Option Addr} {vn vc:z} {names:C Bs} {aF:C To} (h:Bl w na nn nc va vn vc names aF):
  Calls U 90 #[.slice va vn vc,.func (.func 91) #[] #[]] w (bC (.bool J) w):=by
 have:=Rf va vn vc 91 #[] aF (fun _=>J) w h.rv NQ (fun x hx W hb=>by simpa using SB x W (Utf8Tabs_below h.T hb) (h.wv x hx))
 rwa[List.any_eq_false.2 (fun s hs=>by simp)] at this
theorem Kv (r:H) (w:F):Calls U 89 #[.int .i32 r] w (bC (.int .i64 (iA r)) w):=by
 by_cases h1:r=115
 ·subst h1
  go_enter func89,ntmps89;go_wp2_with fail;go_ret;exact⟨rfl,V _ _⟩
 ·have e1:(r==115)=J:=beq_eq_false_iff_ne.2 h1
  by_cases h2:r=116
  ·subst h2
   go_enter func89,ntmps89;go_wp2_with fail;go_ret;exact⟨rfl,V _ _⟩
  ·have e2:(r==116)=J:=beq_eq_false_iff_ne.2 h2
   by_cases h3:r=109
   ·subst h3
    go_enter func89,ntmps89;go_wp2_with fail;go_ret;exact⟨rfl,V _ _⟩
   ·have e3:(r==109)=J:=beq_eq_false_iff_ne.2 h3
    have hm:iA r=0:=by unfold iA;rw[if_neg h1,if_neg ah]
    rw[hm];go_enter func89,ntmps89;go_wp2_with fail;go_ret;exact⟨rfl,V _ _⟩
def XP (b:UInt8):C S:=[.int .u8 (b.toNat:H)]
instance ajm:Cells XP 1:=⟨fun _=>rfl,by decide,fun x u h=>by simp[XP] at h;subst h;rfl⟩
def acX:z→z→Bs
 |0,_=>[]
 |f+1,n=>if n=0 then [] else acX f (n / 10)++[UInt8.ofNat (48+n % 10)]
def ahB (n:z):Bs:=acX n n
theorem ahC (a b:Bs):(⟨a.toArray⟩++⟨b.toArray⟩:ByteArray)=⟨(a++b).toArray⟩:=by
 apply ByteArray.ext;simp
def Jb (t:To):Bs:=if t.k=0 then [45] else t.name++46::ahB t.k.toNat
structure ajn (h:HC) (l:bf) (w0 w:F) (Lk:bf) (ns:C Bs) (vs:C To) (X:F):Prop where
 b0:Bx X w.heap.size (aA h)
 b1:Bx X (w.heap.size+1) (jE Lk)
 b3:Bx X (w.heap.size+3) #[.int .i64 0,.slice I 0 0,.int .i64 0,.slice I 0 0,.bool J,.int .i64 0]
 on:Own X w0.heap.size 9 1 encStr (.slice Lk.na Lk.nn Lk.nc) ns
 ov:Own X w0.heap.size 76 2 mR (.slice Lk.va Lk.vn Lk.vc) vs
 fn:∀g,(Value.slice Lk.na Lk.nn Lk.nc).ownBlock=G g→g<w.heap.size∨w.heap.size+4≤g
 fv:∀g,(Value.slice Lk.va Lk.vn Lk.vc).ownBlock=G g→g<w.heap.size∨w.heap.size+4≤g
 be:Below w0.heap.size w0 X
 kw:Kept w l X
 gr:ahz w l Lk
 sz:w.heap.size+4≤X.heap.size
def Oc (b:H):z→C Bs
 |0=>[]
 |j+1=>Oc b j++if b / 2 ^ j % 2=1 then [uY j] else []
def vR (b:H):C Bs:=Oc b 4
def Fg (s:aB):C Bs:=
 let k:=s.kind.toNat
 let fn:=(bX k).toNat
 let r:=dm k
 eU k::s.names.take fn++
  ((if r=108 then [wR s.lvl.toNat] else if r=118 then s.aF.take 1|>.map Jb else if r=103 then vR s.bits else if r=109∧s.first=true then [[45]] else [])++
  if r=115 then(s.names.drop fn).zip s.aF|>.flatMap (fun p=>[p.1,Jb p.2]) else s.names.drop fn)
def aeQ (s:aB):Bs:=Lib.join (Fg s) [32]++[10]
theorem Own.len {α:Type} {enc:α→C S} {w:F} {B k n c:z} {E:TypeId} {a:Option Addr} {xs:C α} (h:Own w B E k enc (.slice a n c) xs):n=xs.length:=by
 obtain⟨a',c',e,_⟩:=h.shape;injection e
structure Al (w w1:F) (c0 c1:Array S) (X:F) (a:Option Addr) (n c:z) (ws:C Bs):Prop where
 x:Bx X w.heap.size c0
 y:Bx X w1.heap.size c1
 o:Own X (w1.heap.size+1) 9 1 encStr (.slice a n c) ws
 b:Below w.heap.size w X
 s:w1.heap.size+1≤X.heap.size
theorem Al.snoc {w w1 X X':F} {c0 c1:Array S} {a a':Option Addr} {n c c':z} {ws:C Bs} {s:Bs} (h:Al w w1 c0 c1 X a n c ws) (hlt:w.heap.size<w1.heap.size)
  (hown:Own X' (w1.heap.size+1) 9 1 encStr (.slice a' (n+1) c') (ws++[s])) (hg:(X.alloc (.cells #[.string ⟨s.toArray⟩] 9)).grownBy X' (Value.slice a n c).ownBlock):Al w w1 c0 c1 X' a' (n+1) c' (ws++[s]):=
 ⟨(h.x.alloc _).grown hg (fun e=>by have:=(h.o.lt _ e).1;omega),(h.y.alloc _).grown hg (fun e=>by have:=(h.o.lt _ e).1;omega),hown,
  below_app (h.b.alloc h.b.size _) (h.o.alloc _) ah (by have:=h.s;simp;omega) hg,by have:=hg.size;have:=h.s;simp at*;omega⟩
theorem Al.call {w w1 X X':F} {c0 c1:Array S} {a:Option Addr} {n c:z} {ws:C Bs} (h:Al w w1 c0 c1 X a n c ws) (hb:Below X.heap.size X X'):Al w w1 c0 c1 X' a n c ws:=
 ⟨h.x.keep hb,h.y.keep hb,h.o.below hb rfl,h.b.trans (hb.mono h.b.size),Nat.le_trans h.s hb.size⟩
abbrev Er:=Bs × H
def oD (c:UInt8):Bool:=c==32||c==9
def bL (l:Bs):Bs:=l.dropWhile oD
def gY (l:Bs):Bool:=l.head?==I||l.head?==G 10||l.head?==G 35
def cO (l:Bs):Except Er (Bool × Bs):=
 if gY (bL l)=true then .ok (J,bL l) else if(bL l).length=l.length then .error (bL l,220) else .ok (true,bL l)
def dQ (l:Bs):Except Er Bs:=
 match cO l with
 | .error x=> .error x
 | .ok (true,r)=> .ok r
 | .ok (J,r)=> .error (r,220)
def o8 (c:UInt8):Bool:=(c==46||c==95)||(decide (48≤c) && decide (c≤57))||(decide (97≤c) && decide (c≤122))||(decide (65≤c) && decide (c≤90))
def dU (l:Bs):Bs:=l.takeWhile o8
def nA (l:Bs):Bs:=match(l.drop (dU l).length).head? with
 |some c=>if 128≤c then dU l++[128] else dU l
 |none=>dU l
def gD:Bs→Bs→z
 |a::x,b::y=>if a=b then gD x y+1 else 0
 |_,_=>0
def tq (ws:C Bs) (t:Bs):z:=ws.foldl (fun m s=>max m (gD s t)) 0
def dH (ws:C Bs) (l:Bs):Except Er (z × Bs):=
 match ws.findIdx? (fun s=>s==nA l) with
 |some i=> .ok (i,l.drop (dU l).length)
 |none=> .error (l.drop (tq ws (dU l)),220)
def dF (l:Bs):z:=gK ⟨l.toArray⟩ kN
def dJ (l:Bs):Bool:=!l.isEmpty && (okB ⟨l.toArray⟩ 0 && jO (O ⟨l.toArray⟩ 0).1)
def rF (l:Bs):z:=(((bQ ⟨l.toArray⟩ l.length 0).filter (fun i=>decide (i≤24))).getLast?).getD 0
def cu (l:Bs):Except Er (Bs × Bs):=
 if(gY l||!dJ l)=true then .error (l,220)
 else if 24<dF l then .error (l.drop (rF (l.take (dF l))),220)
 else .ok (l.take (dF l),l.drop (dF l))
def iN (c:UInt8):Bool:=decide (48≤c) && decide (c≤57)
def qN (l:Bs):z:=l.foldl (fun n c=>n*10+(c.toNat - 48)) 0
def uS (nm:Bs) (l:Bs):Except Er (To × Bs):=
 let ds:=l.takeWhile iN
 if ds.head?=I∨ds.head?=G 48 then .error (l,220)
 else if 999<qN ds then .error (l,3)
 else .ok (⟨nm,qN ds⟩,l.drop ds.length)
def fq (l:Bs):Except Er (To × Bs):=
 if l.head?=G 45 then .ok (⟨[],0⟩,l.tail)
 else match cu l with
  | .error x=> .error x
  | .ok (nm,r)=>if r.head?=G 46 then uS nm r.tail else .error (r,220)
def jg:z→C Bs→Bs→Except Er (C Bs × Bs)
 |0,acc,l=> .ok (acc,l)
 |k+1,acc,l=>
  match dQ l with
  | .error x=> .error x
  | .ok r=>match cu r with
   | .error x=> .error x
   | .ok (nm,r')=>jg k (acc++[nm]) r'
def jG:C Bs:=[uY 0,uY 1,uY 2,uY 3]
def mF:C Bs:=[wR 1,wR 2,wR 3,wR 4]
def lG:C Bs:=[eU 1,eU 2,eU 3,eU 4,eU 5,eU 6,eU 7,eU 8,eU 9]
def iV:z→z→H→Bs→Except Er (H × Bs)
 |0,_,b,l=> .ok (b,l)
 |f+1,k,b,l=>
  match cO l with
  | .error x=> .error x
  | .ok (J,r)=> .ok (b,r)
  | .ok (true,r)=>match dH (jG.drop k) r with
   | .error x=> .error x
   | .ok (i,r')=>iV f (k+i+1) (b+2 ^ (k+i)) r'
def bJ (pairs:Bool) (most:z):z→z→C Bs→C To→Bs→Except Er ((C Bs × C To) × Bs)
 |0,_,ns,vs,l=> .ok ((ns,vs),l)
 |f+1,many,ns,vs,l=>
  match cO l with
  | .error x=> .error x
  | .ok (J,r)=> .ok ((ns,vs),r)
  | .ok (true,r)=>
   if many=most∧dJ r=true then .error (r,3)
   else match cu r with
    | .error x=> .error x
    | .ok (nm,r1)=>
     if pairs=true then match dQ r1 with
      | .error x=> .error x
      | .ok r2=>match fq r2 with
       | .error x=> .error x
       | .ok (v,r3)=>bJ pairs most f (many+1) (ns++[nm]) (vs++[v]) r3
     else bJ pairs most f (many+1) (ns++[nm]) vs r1
def jF (l:Bs):Except Er (Bool × Bs):=
 match cO l with
 | .error x=> .error x
 | .ok (true,r)=>if r.head?=G 45 then .ok (true,r.tail) else .ok (J,l)
 | .ok (J,_)=> .ok (J,l)
def rD (k:z) (ns:C Bs) (l:Bs):Except Er (aB × Bs):=
 if k=1 then match dQ l with
  | .error x=> .error x
  | .ok r=>match dH mF r with
   | .error x=> .error x
   | .ok (i,r')=> .ok (⟨k,ns,1+i,[],J,0⟩,r')
 else if k=3 then match dQ l with
  | .error x=> .error x
  | .ok r=>match fq r with
   | .error x=> .error x
   | .ok (v,r')=> .ok (⟨k,ns,0,[v],J,0⟩,r')
 else if k=9 then match iV 5 0 0 l with
  | .error x=> .error x
  | .ok (b,r)=> .ok (⟨k,ns,0,[],J,b⟩,r)
 else if k=8 then match jF l with
  | .error x=> .error x
  | .ok (f,r)=>match bJ J 300 301 0 ns [] r with
   | .error x=> .error x
   | .ok ((ns',vs'),r')=> .ok (⟨k,ns',0,vs',f,0⟩,r')
 else if k=4 then match bJ true 40 41 0 ns [] l with
   | .error x=> .error x
   | .ok ((ns',vs'),r')=> .ok (⟨k,ns',0,vs',J,0⟩,r')
 else if k=7 then match bJ J 300 301 0 ns [] l with
   | .error x=> .error x
   | .ok ((ns',vs'),r')=> .ok (⟨k,ns',0,vs',J,0⟩,r')
 else .ok (⟨k,ns,0,[],J,0⟩,l)
def jk (l:Bs):Except Er (aB × Bs):=
 if gY (bL l)=true then .ok (⟨0,[],0,[],J,0⟩,bL l)
 else match dH lG (bL l) with
  | .error x=> .error x
  | .ok (i,r)=>match jg (bX (i+1)).toNat [] r with
   | .error x=> .error x
   | .ok (ns,r1)=>match rD (i+1) ns r1 with
    | .error x=> .error x
    | .ok (s,r2)=>match cO r2 with
     | .error x=> .error x
     | .ok (true,r3)=> .error (r3,220)
     | .ok (J,r3)=> .ok (s,r3)
def EG (r:H):Bool:=decide (32≤r)||r==9
def jS (l:Bs):Bs:=if l.head?=G 35 then l.drop (gK ⟨l.toArray⟩ EG) else l
def rE (l:Bs):Except Er (aB × Bs):=
 match jk l with
 | .error x=> .error x
 | .ok (s,r)=>
  if(jS r).head?=I then .ok (s,[]) else if(jS r).head?=G 10 then .ok (s,(jS r).tail) else .error (jS r,220)
@[reducible] def qg (s:Bs) (p:z) (c:bf):Array S:=#[.string ⟨s.toArray⟩,.int .i64 p,.int .i64 c.kind,.slice c.na c.nn c.nc,.int .i64 c.lvl,.slice c.va c.vn c.vc,.bool c.first,.int .i64 c.bits]
structure dG (w:F) (R:z) (s:Bs) (p:z) (l:Bs) (c:bf) (n:aB):Prop where
 x:Bx w R (qg s p c)
 n:gM w (R+1) c n
 d:s.drop p=l
 le:p≤s.length
 lim:s.length≤1000000
def kz (R:z) (c:bf) (i:z):Prop:=i≠R∧(Value.slice c.na c.nn c.nc).ownBlock≠G i∧(Value.slice c.va c.vn c.vc).ownBlock≠G i
structure Mv (R:z) (c c':bf) (w w':F):Prop where
 same:Same (kz R c) w w'
 na:∀g,(Value.slice c'.na c'.nn c'.nc).ownBlock=G g→(Value.slice c.na c.nn c.nc).ownBlock=G g∨w.heap.size≤g
 va:∀g,(Value.slice c'.va c'.vn c'.vc).ownBlock=G g→(Value.slice c.va c.vn c.vc).ownBlock=G g∨w.heap.size≤g
theorem Mv.refl (R:z) (c:bf) (w:F):Mv R c c w w:=⟨Same.refl' _,fun _ h=> .inl h,fun _ h=> .inl h⟩
theorem Mv.of_below {R:z} {c:bf} {w w':F} (h:Below w.heap.size w w'):Mv R c c w w':=⟨Same.of_below h (fun _ _ h=>h),fun _ h=> .inl h,fun _ h=> .inl h⟩
theorem Mv.IB {R:z} {c c':bf} {w w':F} (h:Mv R c c' w w') {i:z} (hi:kz R c i) (hl:i<w.heap.size):kz R c' i:=
 ⟨hi.1,fun e=>(h.na i e).elim hi.2.1 (fun k=>by omega),fun e=>(h.va i e).elim hi.2.2 (fun k=>by omega)⟩
theorem Mv.cK {R:z} {c c':bf} {w w' w'':F} (h:Mv R c c' w w') (k:Same (kz R c') w' w''):Same (kz R c) w w'':=
 ⟨k.os.trans h.same.os,k.tape.trans h.same.tape,k.output.trans h.same.output,Nat.le_trans h.same.size k.size,fun i hi hl=>(k.block i (h.IB hi hl) (Nat.lt_of_lt_of_le hl h.same.size)).trans (h.same.block i hi hl)⟩
theorem Mv.trans {R:z} {c c' c'':bf} {w w' w'':F} (h:Mv R c c' w w') (k:Mv R c' c'' w' w''):Mv R c c'' w w'':=
 ⟨h.cK k.same,fun g hg=>(k.na g hg).elim (fun e=>h.na g e) (fun e=> .inr (Nat.le_trans h.same.size e)),fun g hg=>(k.va g hg).elim (fun e=>h.va g e) (fun e=> .inr (Nat.le_trans h.same.size e))⟩
theorem Mv.bx {R:z} {c c':bf} {w w':F} (h:Mv R c c' w w') {b:z} {cs:Array S} (hb:Bx w b cs) (hA:kz R c b):Bx w' b cs:=h.same.bx hb hA
theorem dG.new {w:F} {R p:z} {s l:Bs} {c:bf} {n:aB} (h:dG w R s p l c n) {i:z} (hi:w.heap.size≤i):kz R c i:=
 ⟨by have:=h.x.2.2;omega,h.n.2.1.far' (.inr hi),h.n.2.2.far' (.inr hi)⟩
theorem dG.old {w:F} {R p:z} {s l:Bs} {c:bf} {n:aB} (h:dG w R s p l c n) {i:z} (hi:i<R):kz R c i:=
 ⟨by omega,h.n.2.1.far' (.inl ah),h.n.2.2.far' (.inl ah)⟩
theorem dG.below {w w':F} {R p:z} {s l:Bs} {c:bf} {n:aB} (h:dG w R s p l c n) (hb:Below w.heap.size w w'):dG w' R s p l c n:=
 ⟨h.x.keep hb,h.n.below hb,h.d,h.le,h.lim⟩
theorem dG.len {w:F} {R p:z} {s l:Bs} {c:bf} {n:aB} (h:dG w R s p l c n):p+l.length=s.length:=by
 have:=h.le;rw[←h.d,Z];omega
theorem dG.go {w:F} {R p:z} {s l:Bs} {c:bf} {n:aB} (h:dG w R s p l c n) (k:z) (hk:k≤l.length):
  dG (w.setCell ⟨R,1,I⟩ (.int .i64 ((p+k:z):H))) R s (p+k) (l.drop k) c n∧Mv R c c w (w.setCell ⟨R,1,I⟩ (.int .i64 ((p+k:z):H))):=by
 have hx:=h.x.aU 1 ak (.int .i64 ((p+k:z):H));have hs:Same (kz R c) w (w.setCell ⟨R,1,I⟩ (.int .i64 ((p+k:z):H))):=Same.setCell _ _ _ _ (fun e=>e.1 rfl);refine⟨⟨hx,⟨h.n.1,h.n.2.1.block fun g hg=>?_,h.n.2.2.block fun g hg=>?_⟩,?_,?_,h.lim⟩,hs,fun _ h=> .inl h,fun _ h=> .inl h⟩
 ·exact Below.heap_setCell _ _ _ _ (by have:=(h.n.2.1.lt g hg).1;simp;omega)
 ·exact Below.heap_setCell _ _ _ _ (by have:=(h.n.2.2.lt g hg).1;simp;omega)
 ·rw[←h.d,List.drop_drop]
 ·have:=h.len;omega
theorem fO (l:Bs):ByteArray.size ⟨l.toArray⟩=l.length:=by simp[ByteArray.size]
theorem EK (s:Bs) (p:z):(⟨s.toArray⟩:ByteArray).extract p s.length=⟨(s.drop p).toArray⟩:=by
 apply ByteArray.ext
 rw[ByteArray.data_extract]
 apply Array.ext'
 simp[List.take_of_length_le]
theorem nN (s:Bs) (p:z):(⟨s.toArray⟩:ByteArray).extract 0 p=⟨(s.take p).toArray⟩:=by
 apply ByteArray.ext
 rw[ByteArray.data_extract]
 apply Array.ext'
 simp
theorem pQ (l:Bs) (p:z):O ⟨l.toArray⟩ p=O ⟨(l.drop p).toArray⟩ 0:=by
 rw[←EK];have:=Lib.tail_decode ⟨l.toArray⟩ p 0;rw[fO] at this;rw[this,Nat.add_zero]
theorem Lm (l:Bs) (p:z):okB ⟨l.toArray⟩ p=okB ⟨(l.drop p).toArray⟩ 0:=by unfold okB;rw[pQ]
theorem pY (b:UInt8) (t:Bs) (h:b.toNat<128):O ⟨(b::t).toArray⟩ 0=(b.toNat,1):=decode_ascii ⟨(b::t).toArray⟩ 0 (by rw[fO];simp) h
theorem Aa (b:UInt8) (t:Bs) (h:128≤b.toNat):128≤(O ⟨(b::t).toArray⟩ 0).1∧1≤(O ⟨(b::t).toArray⟩ 0).2:=decode_high ⟨(b::t).toArray⟩ 0 (by rw[fO];simp) h
theorem yS (l:Bs) (h:l≠[]):1≤(O ⟨l.toArray⟩ 0).2:=by
 cases l with
 |nil=>exact absurd rfl h
 |cons b t=>
  rcases Nat.lt_or_ge b.toNat 128 with h1|h1
  ·rw[pY b t h1];exact Nat.le_refl _
  ·exact(Aa b t h1).2
theorem I5 (b:UInt8) (t:Bs) (h:b.toNat<128):okB ⟨(b::t).toArray⟩ 0=true:=by
 unfold okB;rw[pY b t h];rw[show((b.toNat:H)==65533)=J from beq_eq_false_iff_ne.2 ah];rfl
theorem zF (l:Bs) (d:z):∀(n p:z),bQ ⟨l.toArray⟩ n (d+p)=(bQ ⟨(l.drop d).toArray⟩ n p).map (d+ ·)
 |0,_=>rfl
 |n+1,p=>by
  simp only[bQ,fO,Z];have e:O ⟨l.toArray⟩ (d+p)=O ⟨(l.drop d).toArray⟩ p:=by
   rw[pQ l (d+p),pQ (l.drop d) p,List.drop_drop]
  by_cases h:d+p<l.length
  ·rw[if_pos h,if_pos ah,e,Nat.add_assoc,zF l d n];rfl
  ·rw[if_neg h,if_neg ah];rfl
theorem yA (s:ByteArray):∀(n m p:z),s.size≤p+n→s.size≤p+m→bQ s n p=bQ s m p
 |0,m,p,h1,_=>by cases m <;> simp only[bQ];rw[if_neg ah]
 |n+1,0,p,_,h2=>by simp only[bQ];rw[if_neg ah]
 |n+1,m+1,p,h1,h2=>by
  simp only[bQ];by_cases h:p<s.size
  ·rw[if_pos h,if_pos h]
   have:=width_pos s p h;rw[yA s n m _ ah ah]
  ·rw[if_neg h,if_neg h]
theorem yh (l:Bs) (h:l≠[]):(O ⟨l.toArray⟩ 0).2≤l.length:=by
 have h1:1≤l.length:=by
  cases l with
  |nil=>exact absurd rfl h
  |cons b t=>simp
 unfold O;simp only[fO]
 split
 ·exact h1
 split
 ·rename_i g
  simp only[Bool.and_eq_true,decide_eq_true_eq] at g
  split
  ·show 2≤_;omega
  ·exact h1
 split
 ·rename_i g
  simp only[Bool.and_eq_true,decide_eq_true_eq] at g
  split
  ·show 3≤_;omega
  ·exact h1
 split
 ·rename_i g
  simp only[Bool.and_eq_true,decide_eq_true_eq] at g
  split
  ·show 4≤_;omega
  ·exact h1
 ·exact h1
theorem P9 (l:Bs) (p:H→Bool) (d q:z):qx ⟨l.toArray⟩ p (d+q)=qx ⟨(l.drop d).toArray⟩ p q:=by
 unfold qx;rw[Lm l (d+q),Lm (l.drop d) q,pQ l (d+q),pQ (l.drop d) q,List.drop_drop]
theorem jU (l:Bs) (p:H→Bool) (h:l≠[]):gK ⟨l.toArray⟩ p=
  if(okB ⟨l.toArray⟩ 0 && p ((O ⟨l.toArray⟩ 0).1:H))=true then(O ⟨l.toArray⟩ 0).2+gK ⟨(l.drop (O ⟨l.toArray⟩ 0).2).toArray⟩ p else 0:=by
 obtain⟨d,hd⟩:∃d,d=(O ⟨l.toArray⟩ 0).2:=⟨_,rfl⟩;have hw:=yS l h;rw[←hd] at hw ⊢;obtain⟨n,hn⟩:∃n,l.length=n+1:=⟨l.length - 1,by have:l.length≠0:=fun e=>h (List.eq_nil_of_length_eq_zero e);omega⟩;have hp:bQ ⟨l.toArray⟩ l.length 0=0::(bQ ⟨(l.drop d).toArray⟩ (l.drop d).length 0).map (d+ ·):=by
  rw[hn];simp only[bQ,fO];rw[if_pos ah,←hd,Nat.zero_add,←Nat.add_zero d,zF,Nat.add_zero,yA ⟨(l.drop d).toArray⟩ n (l.drop d).length 0 (by rw[fO,Z];omega) (by rw[fO];omega)]
 unfold gK;rw[fO,fO,hp];simp only[List.find?_cons,List.find?_map];unfold qx
 cases hk:(okB ⟨l.toArray⟩ 0 && p ((O ⟨l.toArray⟩ 0).1:H))
 ·simp
 ·simp only[Bool.not_true,if_true]
  have e:((fun pos=>!(okB ⟨l.toArray⟩ pos && p ((O ⟨l.toArray⟩ pos).1:H)))∘fun x=>d+x)=qx ⟨(l.drop d).toArray⟩ p:=by
   funext q
   exact P9 l p d q
  have e2:(fun pos=>!(okB ⟨(l.drop d).toArray⟩ pos && p ((O ⟨(l.drop d).toArray⟩ pos).1:H)))=qx ⟨(l.drop d).toArray⟩ p:=rfl;rw[e,e2]
  cases hf:List.find? (qx ⟨(l.drop d).toArray⟩ p) (bQ ⟨(l.drop d).toArray⟩ (l.drop d).length 0) with
  |none=>
   simp only[Option.map_none,Option.getD_none];have hx:d≤l.length:=by rw[hd];exact yh l h
   rw[Z];omega
  |some q=>simp
theorem CO (p:H→Bool) (q:UInt8→Bool) (h:∀b:UInt8,b.toNat<128→p (b.toNat:H)=q b) (hh:∀r:z,128≤r→p (r:H)=J) (hq:∀b:UInt8,128≤b.toNat→q b=J):
  ∀l:Bs,gK ⟨l.toArray⟩ p=(l.takeWhile q).length
 |[]=>rfl
 |b::t=>by
  rw[jU (b::t) p ak];rcases Nat.lt_or_ge b.toNat 128 with h1|h1
  ·rw[pY b t h1,I5 b t h1,Bool.true_and,h b h1]
   cases hb:q b
   ·rw[List.takeWhile_cons,hb];rfl
   ·rw[if_pos rfl,List.takeWhile_cons,hb,if_pos rfl]
    show 1+gK ⟨t.toArray⟩ p=_;rw[CO p q h hh hq t,List.length_cons];omega
  ·rw[hh _ (Aa b t h1).1,Bool.and_false,List.takeWhile_cons,hq b h1];rfl
theorem BI (p:z→Bool) (q:UInt8→Bool) (h:∀b:UInt8,b.toNat<128→p b.toNat=q b) (hh:∀r:z,128≤r→p r=J) (hq:∀b:UInt8,128≤b.toNat→q b=J) (l:Bs):
  ∀f pos:z,l.length≤pos+f→pos≤l.length→Lib.idxFuncFrom p J ⟨l.toArray⟩ f pos=if pos+((l.drop pos).takeWhile q).length<l.length then((pos+((l.drop pos).takeWhile q).length:z):H) else -1
 |0,pos,h1,h2=>by
  have e:pos=l.length:=by omega
  subst e;rw[if_neg ah];rfl
 |f+1,pos,h1,h2=>by
  unfold Lib.idxFuncFrom;rw[fO];by_cases hp:pos<l.length
  ·rw[if_pos hp]
   obtain⟨b,t,hbt⟩:∃b t,l.drop pos=b::t:=⟨_,_,List.drop_eq_getElem_cons hp⟩;rw[pQ l pos,hbt];rcases Nat.lt_or_ge b.toNat 128 with h3|h3
   ·rw[pY b t h3]
    simp only[h b h3]
    cases hb:q b
    ·rw[if_pos rfl,List.takeWhile_cons,hb]
     simp only[Bool.false_eq_true,if_false,List.length_nil,Nat.add_zero];rw[if_pos hp]
    ·rw[if_neg ak,BI p q h hh hq l f (pos+1) ah ah]
     have ht:l.drop (pos+1)=t:=by rw[←List.drop_drop,hbt];rfl
     rw[ht,List.takeWhile_cons,hb,if_pos rfl,List.length_cons,show pos+1+(t.takeWhile q).length=pos+((t.takeWhile q).length+1) by omega]
   ·rw[if_pos (hh _ (Aa b t h3).1),List.takeWhile_cons,hq b h3]
    simp only[Bool.false_eq_true,if_false,List.length_nil,Nat.add_zero];rw[if_pos hp]
  ·rw[if_neg hp,if_neg ah]
theorem vY {α:Type} (q:α→Bool) (l:C α):l.drop (l.takeWhile q).length=l.dropWhile q:=by
 induction l with
 |nil=>rfl
 |cons b t ih=>
  rw[List.takeWhile_cons,List.dropWhile_cons]
  cases q b
  ·rfl
  ·simpa using ih
theorem lI {α:Type} (q:α→Bool) (l:C α):(l.takeWhile q).length+(l.dropWhile q).length=l.length:=by
 rw[←List.length_append,List.takeWhile_append_dropWhile]
theorem Qa (p:z→Bool) (q:UInt8→Bool) (h:∀b:UInt8,b.toNat<128→p b.toNat=q b) (hh:∀r:z,128≤r→p r=J) (hq:∀b:UInt8,128≤b.toNat→q b=J) (l:Bs):
  Lib.trimLeftF p ⟨l.toArray⟩=⟨(l.dropWhile q).toArray⟩:=by
 have hl:=lI q l;unfold Lib.trimLeftF Lib.idxFunc;rw[fO,BI p q h hh hq l l.length 0 ah ah];simp only[List.drop_zero,Nat.zero_add];by_cases hp:(l.takeWhile q).length<l.length
 ·rw[if_pos hp,if_neg ah,Int.toNat_natCast,EK,vY]
 ·rw[if_neg hp,if_pos rfl,List.eq_nil_of_length_eq_zero (l:=l.dropWhile q) ah]
def tY (r:H):Bool:=r==32||r==9
theorem Cw (b:UInt8):tY (b.toNat:H)=oD b:=by
 have hx:∀n:z,(((b.toNat:H)==(n:H))=decide (b.toNat=n)):=fun n=>by
  by_cases h:b.toNat=n
  ·simp[h]
  ·rw[beq_eq_false_iff_ne.2 ah];simp[h]
 have hy:∀c:UInt8,(b==c)=decide (b.toNat=c.toNat):=fun c=>by
  by_cases h:b=c
  ·simp[h]
  ·rw[beq_eq_false_iff_ne.2 h,decide_eq_false (fun e=>h (UInt8.toNat_inj.1 e))]
 unfold tY oD;rw[hy 32,hy 9,show(32:H)=((32:z):H) from rfl,show(9:H)=((9:z):H) from rfl,hx,hx];rfl
theorem Lp (r:z) (h:128≤r):tY (r:H)=J:=by
 unfold tY;rw[beq_eq_false_iff_ne.2 ah,beq_eq_false_iff_ne.2 ah];rfl
theorem SV (b:UInt8) (h:128≤b.toNat):oD b=J:=by rw[←Cw];exact Lp _ h
theorem VU (l:Bs):gK ⟨l.toArray⟩ tY=(l.takeWhile oD).length:=CO tY oD (fun b _=>Cw b) Lp SV l
theorem Zg (l:Bs):Lib.trimLeftF (fun r=>tY (r:H)) ⟨l.toArray⟩=⟨(bL l).toArray⟩:=Qa _ oD (fun b _=>Cw b) Lp SV l
theorem IC (l:Bs):(bL l).length≤l.length:=by have:=lI oD l;unfold bL;omega
theorem F5 (l:Bs):l.drop (l.length - (bL l).length)=bL l:=by
 have:=lI oD l;unfold bL at*;rw[show l.length - (l.dropWhile oD).length=(l.takeWhile oD).length by omega,vY]
theorem Zh (l:Bs) (i:z) (b:UInt8) (h:l[i]?=G b):∃hi:i<ByteArray.size ⟨l.toArray⟩,(⟨l.toArray⟩:ByteArray)[i]'hi=b:=by
 obtain⟨h1,h2⟩:=List.getElem?_eq_some_iff.1 h;exact⟨by rw[fO];exact h1,by rw[←h2];rfl⟩
theorem eZ {P:Program} {t:TypeId} (ht:P.underlying t=G .string) (l:Bs) (i:z) (b:UInt8) (h:l[i]?=G b) (W:F):(Instr.index t (.string ⟨l.toArray⟩) (.int .i64 (i:H))).run P W= .ok (.int .u8 (b.toNat:H)) W:=by
 obtain⟨hi,hx⟩:=Zh l i b h;rw[run_index_string W t _ .i64 i ht,dif_pos ⟨by omega,by omega⟩];simp only[Int.toNat_natCast,hx]
theorem lK {P:Program} {t:TypeId} (ht:P.underlying t=G .string) (l:Bs) (i:z) (h:i≤l.length) (W:F):(Instr.slice t (.string ⟨l.toArray⟩) (G (.int .i64 (i:H))) I I).run P W= .ok (.string ⟨(l.drop i).toArray⟩) W:=by
 rw[run_slice_string_l W t _ ht .i64 i ah (by rw[fO];omega),Int.toNat_natCast,fO,EK]
theorem xY {P:Program} {t:TypeId} (ht:P.underlying t=G .string) (l:Bs) (i:z) (h:i≤l.length) (W:F):(Instr.slice t (.string ⟨l.toArray⟩) I (G (.int .i64 (i:H))) I).run P W= .ok (.string ⟨(l.take i).toArray⟩) W:=by
 rw[run_slice_string_h W t _ ht .i64 i ah (by rw[fO];omega),Int.toNat_natCast,nN]
theorem Qb (b c:UInt8):(b==c)=((b.toNat:H)==(c.toNat:H)):=by
 by_cases h:b=c
 ·simp[h]
 ·rw[beq_eq_false_iff_ne.2 h,beq_eq_false_iff_ne.2 (fun e=>h (UInt8.toNat_inj.1 ah))]
theorem xS (b:UInt8) (t:Bs):gY (b::t)=(((b.toNat:H)==10)||((b.toNat:H)==35)):=by
 unfold gY;simp only[List.head?_cons];rw[show((G b==I):Bool)=J from rfl,Bool.false_or];show((b==10)||(b==35))=_;rw[Qb b 10,Qb b 35];rfl
def kJ (p:z) (m:H):C PanicEntry:=[⟨.iface 223 (.agg #[.int .i64 p,.int .i64 m]),J,J⟩]
theorem fA (p:z) (m:H) (w:F):Calls U 164 #[.int .i64 p,.int .i64 m] w fun e w'=>e= .panicked (kJ p m)∧w'=w:=by
 go_enter func164,ntmps164
 go_wp2
 exact⟨rfl,rfl,rfl⟩
theorem VW (r:H) (w:F):Calls U 215 #[.int .i32 r] w fun e w'=>e= .returned (.bool (tY r))∧∃q,w'=w.drewN q:=by
 unfold tY
 cases h1:r==32 <;> cases h2:r==9
 all_goals
  go_enter func215,ntmps215
  go_wp2
  go_ret;exact⟨rfl,0,rfl⟩
theorem Qc:∀args w,(callFunc 215 args).run U w= .ok (.enter 215 args) w:=enters_of func215 au rfl
theorem Od (l:Bs) (w:F):Calls U 214 #[.string ⟨l.toArray⟩,.func (.func 215) #[] #[]] w (bC (.string ⟨(bL l).toArray⟩) w):=by
 have:=Tryz.strings_TrimLeftFunc 215 #[] Qc (fun r=>tY (r:H)) ⟨l.toArray⟩ w (fun W r _=>by unfold FnGives;exact VW (r:H) W);rw[Zg] at this;exact this
theorem dG.c0 {w:F} {R p:z} {s l:Bs} {c:bf} {n:aB} (h:dG w R s p l c n):w.cell? ⟨R,0,I⟩=G (.string ⟨s.toArray⟩):=h.x.1 0
theorem dG.c1 {w:F} {R p:z} {s l:Bs} {c:bf} {n:aB} (h:dG w R s p l c n):w.cell? ⟨R,1,I⟩=G (.int .i64 p):=h.x.1 1
theorem dG.at_ {w:F} {R p:z} {s t:Bs} {b:UInt8} {c:bf} {n:aB} (h:dG w R s p (b::t) c n):s[p]?=G b:=by
 have:=congrArg (fun l=>l[0]?) h.d
 simpa using this
theorem Df {R p:z} {s l:Bs} {c:bf} {n:aB} (w:F) (h:dG w R s p l c n):Calls U 216 #[.pointer (G ⟨R,0,I⟩)] w (bC (.bool (gY l)) w):=by
 have c0:=h.c0;have c1:=h.c1;have hlen:=h.len;have hlim:=h.lim
 cases hl:l with
 |nil=>
  obtain rfl:p=s.length:=by rw[hl] at hlen;simpa using hlen
  have hz:=fO s;clear h hlen;go_enter func216,ntmps216
  go_wp2_with (go_quiet (fail))
  go_ret;exact⟨rfl,dM (V _ _) _⟩
 |cons b t=>
  subst hl;have hix:=fun W=>eZ Tryz.underlying9 s p b h.at_ W
  have hlt:p<s.length:=by simp at hlen;omega
  have hz:=fO s;have hne:((p:H)==(s.length:H))=J:=beq_eq_false_iff_ne.2 ah;clear h hlen;by_cases h10:b.toNat=10
  ·have hb:((b.toNat:H)==10)=true:=by simp[h10]
   go_enter func216,ntmps216
   go_wp2_with (go_quiet (fail))
   go_ret;exact⟨by rw[xS,hb];rfl,dM (V _ _) _⟩
  ·have hb:((b.toNat:H)==10)=J:=beq_eq_false_iff_ne.2 ah
   cases Lb:((b.toNat:H)==35)
   all_goals
    go_enter func216,ntmps216
    go_wp2_with (go_quiet (fail))
    go_ret;exact⟨by rw[xS,hb,Lb];rfl,dM (V _ _) _⟩
def aX {α:Type} (R:z) (s:Bs) (c:bf) (w:F) (val:α→S) (x:Except Er (α × aB × Bs)) (e:Ending) (w':F):Prop:=
 match x with
 | .error (r,m)=>e= .panicked (kJ (s.length - r.length) m)∧Same (kz R c) w w'
 | .ok (a,n',r)=>e= .returned (val a)∧∃p' c',dG w' R s p' r c' n'∧Mv R c c' w w'
def kW {α:Type} (R:z) (s:Bs) (c:bf) (n:aB) (w:F) (val:α→S) (x:Except Er (α × Bs)) (e:Ending) (w':F):Prop:=
 match x with
 | .error (r,m)=>e= .panicked (kJ (s.length - r.length) m)∧Same (kz R c) w w'
 | .ok (a,r)=>e= .returned (val a)∧∃p',dG w' R s p' r c n∧Mv R c c w w'
theorem dG.to {w:F} {R p:z} {s l r:Bs} {c:bf} {n:aB} (h:dG w R s p l c n) (k:z) (hk:l.drop k=r) (hle:k≤l.length) (q:z) (hq:q=p+k):
  dG (w.setCell ⟨R,1,I⟩ (.int .i64 (q:H))) R s q r c n∧Mv R c c w (w.setCell ⟨R,1,I⟩ (.int .i64 (q:H))):=by
 subst hq hk;exact h.go k hle
theorem dG.drew {w:F} {R p:z} {s l:Bs} {c:bf} {n:aB} (h:dG w R s p l c n):dG w.drew R s p l c n:=⟨h.x,h.n,h.d,h.le,h.lim⟩
theorem f1 {w:F} {R p:z} {s l:Bs} {c:bf} {n:aB} (h:dG w R s p l c n) (i:z):w.frozen? ⟨R,i,I⟩=J:=h.x.2.1 i
theorem oF {R p:z} {s l:Bs} {c:bf} {n:aB} (w:F) (h:dG w R s p l c n):
  Calls U 226 #[.pointer (G ⟨R,0,I⟩)] w (kW R s c n w (fun b:Bool=> .bool b) (cO l)):=by
 have c0:=h.c0;have c1:=h.c1;have z1:=f1 h 1;have hlen:=h.len;have hlim:=h.lim;have hsl:=fun W=>lK Tryz.underlying9 s p ah W
 rw[h.d] at hsl;have hz:=fO s;have hz2:=fO (bL l);have hsk:=IC l;have HH:=hid h;have HLEN:=hid hlen;have dw:=hid hsk;clear h hlen hsk;go_enter func226,ntmps226;go_wp2_with fail;refine aI 11 [(0,0),(1,0),(2,0),(3,0),(4,0),(5,0),(6,0),(7,0),(8,0),(9,2),(10,0)] (fun _=>True) (fun W'=>W'.cell? ⟨R,0,I⟩=G (.string ⟨s.toArray⟩)∧W'.cell? ⟨R,1,I⟩=G (.int .i64 p)) au au (trivial) (⟨HH.q.c0,HH.q.c1⟩) ?_;refine qC ?_;refine aD rfl rfl (fun K hK=>?_);go_simp;refine(Od l _).mono ?_;rintro e w2 ⟨rfl,hb2⟩;have vK:=HH.q.drew.below hb2;refine hK _ _ ⟨trivial,vK.c0,vK.c1⟩ ?_;have D7:=hid vK;have HB2:=hid hb2;clear hK K hb2 vK c0 c1 z1;refine qC ?_;refine bn ?_;have hb2:Below w.heap.size w w2:=(V _ _).drew.trans HB2.q;obtain⟨q,hq⟩:∃q:z,q=s.length - (bL l).length:=⟨_,rfl⟩;have hwq:wrap64 ((s.length:H) - ((bL l).length:H))=(q:H):=by
  have:=HLEN.q;have:=dw.q;rw[show(s.length:H) - ((bL l).length:H)=(q:H) by omega];exact IntWalk.wrap64_in _ ah
 have ht:=D7.q.to (l.length - (bL l).length) (F5 l) ah q (by have:=HLEN.q;have:=dw.q;omega);have HT:=hid ht.1;have HM:=hid ((Mv.of_below (R:=R) (c:=c) hb2).trans ht.2);have HQ:=hid hq;have c0:=D7.q.c0;have c1:=D7.q.c1;have z1:=f1 D7.q 1;have hMS:cO l=if gY (bL l)=true then .ok (J,bL l) else if q=p then .error (bL l,220) else .ok (true,bL l):=by
  unfold cO;have:=HLEN.q;have:=dw.q;by_cases h1:gY (bL l)=true
  ·rw[if_pos h1,if_pos h1]
  ·rw[if_neg h1,if_neg h1]
   by_cases h2:q=p
   ·rw[if_pos h2,if_pos ah]
   ·rw[if_neg h2,if_neg ah]
 have HMS:=hid hMS;clear ht hq hb2 hMS;go_wp2_with fail;refine(Df _ HT.q).mono ?_;rintro e w3 ⟨rfl,hb3⟩;have HT3:=hid (HT.q.below hb3);have qy:=hid (HM.q.trans (Mv.of_below hb3));clear hb3 c0 c1 z1;have c1:=HT3.q.c1
 cases hE:gY (bL l)
 ·by_cases hpq:q=p
  ·have hb:((q:H)==(p:H))=true:=by simp[hpq]
   go_wp2_with fail;refine(fA p 220 _).mono ?_;rintro e w4 ⟨rfl,rfl⟩;refine⟨rfl,?_⟩;show kW R s c n w _ _ _ _;rw[HMS.q,hE,if_neg ak,if_pos hpq];exact⟨by rw[←HQ.q,hpq],qy.q.same⟩
  ·have hb:((q:H)==(p:H))=J:=beq_eq_false_iff_ne.2 ah
   go_wp2_with fail;go_ret;show kW R s c n w _ _ _ _;rw[HMS.q,hE,if_neg ak,if_neg hpq];exact⟨rfl,q,HT3.q,qy.q⟩
 ·go_wp2_with fail
  go_ret;show kW R s c n w _ _ _ _;rw[HMS.q,hE,if_pos rfl];exact⟨rfl,q,HT3.q,qy.q⟩
theorem NE {R p:z} {s l:Bs} {c:bf} {n:aB} (w:F) (h:dG w R s p l c n):
  Calls U 248 #[.pointer (G ⟨R,0,I⟩)] w (kW R s c n w (fun _:Unit=> .tuple #[]) (match dQ l with| .error x=> .error x| .ok r=> .ok ((),r))):=by
 have HR:=hid (oF w h);clear h;obtain⟨X,hX⟩:∃X:Except Er (Unit × Bs),X=(match dQ l with| .error x=> .error x| .ok r=> .ok ((),r)):=⟨_,rfl⟩;rw[←hX];have HX:=hid hX;clear hX;go_enter func248,ntmps248;go_wp2_with fail;refine HR.q.mono ?_;rintro e w1 he
 cases hm:cO l with
 |error x=>
  rw[hm] at he;obtain⟨rfl,hs⟩:=he;refine⟨rfl,?_⟩;show kW R s c n w _ _ _ _;rw[HX.q,show dQ l= .error x by unfold dQ;rw[hm]];exact⟨rfl,hs⟩
 |ok br=>
  obtain⟨b,r⟩:=br;rw[hm] at he;obtain⟨rfl,q,hc,hmv⟩:=he;have HC:=hid hc;have HM:=hid hmv;have c1:=hc.c1;clear hc hmv
  cases b
  ·go_wp2_with fail
   refine(fA q 220 _).mono ?_;rintro e w4 ⟨rfl,rfl⟩;refine⟨rfl,?_⟩;show kW R s c n w _ _ _ _;rw[HX.q,show dQ l= .error (r,220) by unfold dQ;rw[hm]];have:=HC.q.len;exact⟨by rw[show s.length - r.length=q by omega],HM.q.same⟩
  ·go_wp2_with fail
   refine bodyPost_end (results_none rfl _ _ _) rfl ?_;show kW R s c n w _ _ _ _;rw[HX.q,show dQ l= .ok r by unfold dQ;rw[hm]];exact⟨rfl,q,HC.q,HM.q⟩
def F6 (acc:z) (l:Bs):z:=l.foldl (fun n c=>n*10+(c.toNat - 48)) acc
theorem Oe:∀(l:Bs) (acc:z),acc≤F6 acc l
 |[],_=>Nat.le_refl _
 |c::r,acc=>Nat.le_trans ah (Oe r (acc*10+(c.toNat - 48)))
theorem D8:∀(l:Bs) (acc:z),(∀c∈l,iN c=true)→Lib.parseUint10 acc l= .ok (F6 acc l)∨(Lib.parseUint10 acc l= .range∧1000000≤F6 acc l)
 |[],_,_=> .inl rfl
 |c::r,acc,h=>by
  have hc:=h c ak;have hc':48≤c.toNat∧c.toNat≤57:=by
   unfold iN at hc;simp only[Bool.and_eq_true,decide_eq_true_eq] at hc;exact hc
  have hg:=Oe r (acc*10+(c.toNat - 48));unfold Lib.parseUint10;rw[if_pos hc']
  split
  ·exact .inr ⟨rfl,Nat.le_trans ah hg⟩
  ·split
   ·exact .inr ⟨rfl,Nat.le_trans ah hg⟩
   ·exact D8 r _ (fun x hx=>h x (by simp[hx]))
theorem MF (l:Bs) (hne:l≠[]) (h:∀c∈l,iN c=true):Lib.atoiAll l= .ok (qN l:H)∨(Lib.atoiAll l= .range∧1000000≤qN l):=by
 cases l with
 |nil=>exact absurd rfl hne
 |cons c r=>
  have hc:=h c ak;unfold iN at hc;simp only[Bool.and_eq_true,decide_eq_true_eq] at hc;have h1:48≤c.toNat:=hc.1;unfold Lib.atoiAll;simp only[];rw[if_neg ah];unfold Lib.parseMag;rw[if_neg ak];have hv:qN (c::r)=F6 0 (c::r):=rfl;rcases D8 (c::r) 0 h with e|⟨e,e2⟩
  ·rw[e]
   simp only[];by_cases hb:9223372036854775808≤F6 0 (c::r)
   ·rw[if_pos ⟨by omega,hb⟩];exact .inr ⟨rfl,by rw[hv];omega⟩
   ·rw[if_neg ah,if_neg ah,if_neg ah];exact .inl (by rw[hv])
  ·rw[e];exact .inr ⟨rfl,e2⟩
def xR (w:F):Prop:=∃ev,w.cell? ⟨9,0,I⟩=G ev∧(ev= .nilIface∨∃te pe,ev= .iface te pe)
theorem xR.below {w w':F} (h:xR w) (hb:Below w.heap.size w w'):xR w':=let⟨ev,h1,h2⟩:=h;⟨ev,aT hb rfl h1,h2⟩
theorem NC (l:Bs) (hne:l≠[]) (h:∀c∈l,iN c=true) (hlim:l.length≤1000000) (w:F) (hE:xR w):
  Calls U 247 #[.string ⟨l.toArray⟩] w fun e w'=>∃(k:H) (er:S),e= .returned (.tuple #[.int .i64 k,er])∧Below w.heap.size w w'∧((er= .nilIface∧k=(qN l:H)∧qN l≤9223372036854775807)∨(999<qN l∧∃T p,er= .iface T p)):=by
 obtain⟨ev,hv,hev⟩:=hE;rcases MF l hne h with e|⟨e,e2⟩
 ·refine(Tryz.strconv_Atoi_ok ⟨l.toArray⟩ (by rw[fO];omega) (qN l) e w).mono ?_
  rintro e w' ⟨rfl,hw⟩;refine⟨_,_,rfl,?_,.inl ⟨rfl,rfl,?_⟩⟩
  ·rcases hw with rfl|⟨t,rfl⟩
   ·exact V _ _
   ·exact Lib.bytesWorld_below _ _ _
  ·have:=(Lib.atoiAll_bounds e).2;omega
 ·refine(Tryz.strconv_Atoi_range ⟨l.toArray⟩ (by rw[fO];omega) e ev w hv hev).mono ?_
  rintro e w' ⟨N,rfl,_,_,hb⟩;exact⟨_,_,rfl,hb,.inr ⟨by omega,_,_,rfl⟩⟩
theorem jb (r:H) (w:F):Calls U 228 #[.int .i32 r] w (bC (.bool (tY r)) w):=by
 unfold tY
 cases h1:r==32 <;> cases h2:r==9
 all_goals
  go_enter func228,ntmps228
  go_wp2
  go_ret;exact⟨rfl,V _ _⟩
theorem Lr:∀args w,(callFunc 228 args).run U w= .ok (.enter 228 args) w:=enters_of func228 au rfl
theorem acZ (r:H) (w:F):Calls U 250 #[.int .i32 r] w (bC (.bool (EG r)) w):=by
 unfold EG;by_cases h1:32≤r <;> cases h2:r==9
 all_goals
  go_enter func250,ntmps250
  go_wp2
  go_ret;exact⟨by simp[h1],V _ _⟩
theorem Qd:∀args w,(callFunc 250 args).run U w= .ok (.enter 250 args) w:=enters_of func250 au rfl
theorem qM (p:H→Bool):∀(n:z) (l:Bs),l.length≤n→gK ⟨l.toArray⟩ p≤l.length
 |0,l,h=>by rw[List.eq_nil_of_length_eq_zero (l:=l) ah];exact Nat.le_refl _
 |n+1,l,h=>by
  by_cases h0:l=[]
  ·subst h0;exact Nat.le_refl _
  ·rw[jU l p h0]
   split
   ·have h1:=yS l h0;have h2:=yh l h0
    have:=qM p n (l.drop (O ⟨l.toArray⟩ 0).2) (by rw[Z];omega);rw[Z] at this;omega
   ·exact Nat.zero_le _
def mU (l:Bs):z:=(l.takeWhile oD).length+if(bL l).head?=G 35 then gK ⟨(bL l).toArray⟩ EG else 0
def tN (l:Bs):Bool:=!((bL l).head?==G 35)||((l.drop (mU l)).head?==I||(l.drop (mU l)).head?==G 10)
theorem N8 (l:Bs):(l.takeWhile oD).length+(bL l).length=l.length:=lI oD l
theorem qc (s:Bs) (p:z) (l:Bs) (hd:s.drop p=l) (hp:p≤s.length) (hlim:s.length≤1000000) (w:F) (hT:Lib.Utf8Tabs 6 7 w):
  Calls U 227 #[.string ⟨s.toArray⟩,.int .i64 p] w (uF (.int .i64 ((p+mU l:z):H)) (.bool (tN l)) w):=by
 have hll:p+l.length=s.length:=by rw[←hd,Z];omega
 obtain⟨q,hq⟩:∃q,q=p+(l.takeWhile oD).length:=⟨_,rfl⟩;have hst:=N8 l;have DY:q≤s.length:=by omega
 have BA:s.drop q=bL l:=by rw[hq,←List.drop_drop,hd,vY];rfl
 have hsl:=fun W=>lK Tryz.underlying9 s p ah W
 rw[hd] at hsl;have hz:=fO s;have hqi:(p:H)+((l.takeWhile oD).length:H)=(q:H):=by omega
 have HT:=hid hT;have HW:=fun W (hb:Below w.heap.size w W)=>hid (tJ ⟨l.toArray⟩ 228 #[] Lr tY W (fun r W' _=>jb r W') (Utf8Tabs_below hT hb))
 rw[VU] at HW;clear hT
 cases hk:bL l with
 |nil=>
  have hqe:q=s.length:=by have:=congrArg List.length BA;rw[Z,hk] at this;simp at this;omega
  have HN:Hid (mU l=(l.takeWhile oD).length∧tN l=true):=hid (by unfold tN mU;rw[hk];simp);have hd1:((q:H)==(s.length:H))=true:=by simp[hqe]
  have HQ:=hid hq;have HE:=hid hqe;clear BA hk hst hqe hq;go_enter func227,ntmps227;go_wp2_with fail;refine(HW _ (V _ _)).q.mono ?_;rintro e w1 ⟨rfl,hb1⟩;have HB1:=hid hb1;clear hb1;go_wp2_with fail
  go_ret2
  refine⟨?_,HB1.q⟩;rw[HN.q.1,HN.q.2,←HQ.q];rfl
 |cons b t=>
  have Br:s[q]?=G b:=by
   have:=congrArg (fun l=>l[0]?) BA;rw[hk] at this
   simpa using this
  have akd:q<s.length:=(List.getElem?_eq_some_iff.1 Br).1;have hix:=fun W=>eZ Tryz.underlying9 s q b Br W
  have hd1:((q:H)==(s.length:H))=J:=beq_eq_false_iff_ne.2 ah;by_cases hb:b.toNat=35
  ·have Qe:b=35:=UInt8.toNat_inj.1 hb
   have hd2:((b.toNat:H)==35)=true:=by simp[hb]
   obtain⟨m,hm⟩:∃m,m=gK ⟨(bL l).toArray⟩ EG:=⟨_,rfl⟩;have hsk:mU l=(l.takeWhile oD).length+m:=by unfold mU;rw[if_pos (by rw[hk,Qe];rfl),←hm]
   have hml:m≤(bL l).length:=by rw[hm];exact qM _ _ _ (Nat.le_refl _)
   obtain⟨q2,hq2⟩:∃q2,q2=q+m:=⟨_,rfl⟩;have ake:(q:H)+(m:H)=(q2:H):=by omega
   have akf:q2≤s.length:=by omega
   have Qf:s.drop q2=l.drop (mU l):=by
    have e:mU l=(l.takeWhile oD).length+m:=hsk;rw[e,hq2,hq,←hd,List.drop_drop,Nat.add_assoc]
   have HN:Hid (p+mU l=q2):=hid ah;have hsl2:=fun W=>lK Tryz.underlying9 s q ah W
   rw[BA] at hsl2;have HW2:=fun W (hb:Below w.heap.size w W)=>hid (tJ ⟨(bL l).toArray⟩ 250 #[] Qd EG W (fun r W' _=>acZ r W') (Utf8Tabs_below HT.q hb))
   rw[←hm] at HW2;have HSO:Hid (tN l=((l.drop (mU l)).head?==I||(l.drop (mU l)).head?==G 10)):=hid (by unfold tN;rw[hk,Qe];rfl)
   cases hk2:l.drop (mU l) with
   |nil=>
    have hqe:q2=s.length:=by have:=congrArg List.length Qf;rw[Z,hk2] at this;simp at this;omega
    have hd3:((q2:H)==(s.length:H))=true:=by simp[hqe]
    have fE:Hid (tN l=true):=hid (by rw[HSO.q,hk2];rfl);clear hsk BA hk hst hq Br hb Qe hm hml hq2 Qf hqe hk2;go_enter func227,ntmps227;go_wp2_with fail;refine(HW _ (V _ _)).q.mono ?_;rintro e w1 ⟨rfl,hb1⟩;have HB1:=hid hb1;clear hb1;go_wp2_with fail;refine(HW2 _ HB1.q).q.mono ?_;rintro e w2 ⟨rfl,hb2⟩;have HB2:=hid (HB1.q.bD hb2);clear hb2
    go_wp2_with (go_quiet (fail))
    go_ret2
    exact⟨by rw[HN.q,fE.q];rfl,dM HB2.q _⟩
   |cons b2 t2=>
    have VX:s[q2]?=G b2:=by
     have:=congrArg (fun l=>l[0]?) Qf;rw[hk2] at this
     simpa using this
    have ajY:q2<s.length:=(List.getElem?_eq_some_iff.1 VX).1;have Gs:=fun W=>eZ Tryz.underlying9 s q2 b2 VX W
    have hd3:((q2:H)==(s.length:H))=J:=beq_eq_false_iff_ne.2 ah;have fE:Hid (tN l=((b2.toNat:H)==10)):=hid (by rw[HSO.q,hk2];show(b2==10)=_;rw[Qb];rfl);clear hsk BA hk hst hq Br hb Qe hm hml hq2 Qf hk2 VX
    cases hd4:((b2.toNat:H)==10)
    all_goals
     rw[hd4] at fE;go_enter func227,ntmps227;go_wp2_with fail;refine(HW _ (V _ _)).q.mono ?_;rintro e w1 ⟨rfl,hb1⟩;have HB1:=hid hb1;clear hb1;go_wp2_with fail;refine(HW2 _ HB1.q).q.mono ?_;rintro e w2 ⟨rfl,hb2⟩;have HB2:=hid (HB1.q.bD hb2);clear hb2
     go_wp2_with (go_quiet (fail))
     go_ret2
     exact⟨by rw[HN.q,fE.q];rfl,dM HB2.q _⟩
  ·have hd2:((b.toNat:H)==35)=J:=beq_eq_false_iff_ne.2 ah
   have hb':¬b=35:=fun e=>hb (by rw[e];rfl)
   have HN:Hid (mU l=(l.takeWhile oD).length∧tN l=true):=hid (by unfold tN mU;rw[hk];simp[hb']);have HQ:=hid hq;clear BA hk hst hq Br hb hb';go_enter func227,ntmps227;go_wp2_with fail;refine(HW _ (V _ _)).q.mono ?_;rintro e w1 ⟨rfl,hb1⟩;have HB1:=hid hb1;clear hb1;go_wp2_with fail
   go_ret2
   refine⟨?_,HB1.q⟩;rw[HN.q.1,HN.q.2,←HQ.q];rfl
theorem F7 (s:ByteArray):∀(n p:z),∀x∈bQ s n p,p≤x
 |0,_,_,h=>by simp[bQ] at h
 |n+1,p,x,h=>by
  simp only[bQ] at h
  split at h
  ·rcases List.mem_cons.1 h with rfl|h
   ·exact Nat.le_refl _
   ·exact Nat.le_trans (Nat.le_add_right _ _) (F7 s n _ x h)
  ·cases h
theorem filter_all {α:Type} (p:α→Bool) (l:C α) (h:∀x∈l,p x=true):l.filter p=l:=List.filter_eq_self.2 h
theorem Hr {α:Type} (p:α→Bool) (l:C α) (h:∀x∈l,p x=J):l.filter p=[]:=List.filter_eq_nil_iff.2 (fun x hx=>by rw[h x hx];simp)
theorem Dn (u:Bs) (hlim:u.length≤1000000) (w:F):Calls U 230 #[.string ⟨u.toArray⟩] w (bC (.int .i64 (rF u:H)) w):=by
 obtain⟨X,hX⟩:∃X,X=rF u:=⟨_,rfl⟩;rw[←hX];have hbz:=fO u;have HX:Hid (X=(((bQ ⟨u.toArray⟩ u.length 0).filter (fun i=>decide (i≤24))).getLast?).getD 0):=hid hX;clear hX;go_enter func230,ntmps230;go_wp2_with fail
 go_loopw [3] (fun v wr=>∃(pos fuel:z) (pre:C z),v= .int .i64 (pre.getLast?.getD 0:z)∧pre++bQ ⟨u.toArray⟩ fuel pos=bQ ⟨u.toArray⟩ u.length 0∧(∀x∈pre,x≤24)∧u.length≤pos+fuel∧pos≤2000000∧wr.heap[w.heap.size]?=G (.stringIter ⟨u.toArray⟩ pos)∧Below w.heap.size w wr) (fun _ wr=>u.length - wr.iterPos w.heap.size)
 case atStart=>exact⟨0,u.length,[],rfl,rfl,by simp,by omega,by omega,World.iter_heap w ⟨u.toArray⟩ 0,iU w ⟨u.toArray⟩⟩
 case round=>
  obtain⟨pos,fuel,pre,rfl,hpre,hall,hfu,hpb,hit,hbw⟩:=hrel;by_cases hp:pos<u.length
  ·have hnx:∀ty,(Instr.next (.pointer (G ⟨w.heap.size,0,I⟩)) true ty).run U wr=_:=fun ty=>Lib.run_next_any_at wr w.heap.size ⟨u.toArray⟩ pos ty hit (by rw[hbz];exact hp)
   have hwd:=width_pos ⟨u.toArray⟩ pos (by rw[hbz];exact hp);obtain⟨d,hd⟩:∃d,d=(O ⟨u.toArray⟩ pos).2:=⟨_,rfl⟩;have hw4:d≤u.length - pos:=by
    have:=yh (u.drop pos) (by intro e;have:=congrArg List.length e;rw[Z] at this;simp at this;omega);rw[←pQ,←hd,Z] at this;exact this
   rw[←hd] at hnx hwd;obtain⟨f,rfl⟩:∃f,fuel=f+1:=⟨fuel - 1,by omega⟩;have EX:bQ ⟨u.toArray⟩ (f+1) pos=pos::bQ ⟨u.toArray⟩ f (pos+d):=by simp[bQ,hbz,hp,hd]
   have hit2:=Lib.iterAt_heap wr w.heap.size ⟨u.toArray⟩ pos (pos+d) hit;have hbw2:=Lib.below_iterAt hbw (k:=w.heap.size) (Nat.le_refl _) ⟨u.toArray⟩ (pos+d);have HI:=hid hit;have HI2:=hid hit2;have HB2:=hid hbw2;have HP:=hid (EX▸hpre);have HA:=hid hall;clear hit hit2 hbw hbw2 EX hpre hall hd;by_cases uH:pos≤24
   ·have hd1:decide ((24:H)<(pos:H))=J:=decide_eq_false ah
    go_wp2_with fail;go_roundw
    case rel=>exact⟨pos+d,f,pre++[pos],by simp,by rw[←HP.q];simp,fun x hx=>by
     rcases List.mem_append.1 hx with hx|hx
     ·exact HA.q x hx
     ·obtain rfl:x=pos:=by simpa using hx
      exact uH,by omega,by omega,HI2.q,HB2.q⟩
    case measure=>rw[iterPos_of HI2.q,iterPos_of HI.q];omega
   ·have hd1:decide ((24:H)<(pos:H))=true:=decide_eq_true ah
    have HE:Hid (X=pre.getLast?.getD 0):=hid (by
     rw[HX.q,←HP.q,List.filter_append,filter_all _ pre (fun x hx=>by simpa using HA.q x hx),Hr _ _ (fun x hx=>?_),List.append_nil];rcases List.mem_cons.1 hx with rfl|hx
     ·simpa using uH
     ·have:=F7 _ _ _ x hx;simp;omega)
    go_wp2_with fail;go_ret;exact⟨by rw[HE.q];rfl,HB2.q⟩
  ·have hnx:∀ty,(Instr.next (.pointer (G ⟨w.heap.size,0,I⟩)) true ty).run U wr=_:=fun ty=>Lib.run_next_end_at wr w.heap.size ⟨u.toArray⟩ pos ty hit (by rw[hbz];exact hp)
   have HE:Hid (X=pre.getLast?.getD 0):=hid (by
    have e:bQ ⟨u.toArray⟩ fuel pos=[]:=by cases fuel <;> simp[bQ,hbz,hp]
    rw[HX.q,←hpre,e,List.append_nil,filter_all _ pre (fun x hx=>by simpa using hall x hx)])
   have HB:=hid hbw;clear hpre hall hbw;go_wp2_with fail;go_ret;exact⟨by rw[HE.q];rfl,HB.q⟩
def fC (s:aB):Prop:=(∀x∈s.names,bS ⟨x.toArray⟩=true)∧(∀t∈s.aF,nM t)∧
 ((s.kind=1∧s.names.length=2∧s.aF=[]∧(∃lv:z,s.lvl=lv∧1≤lv∧lv≤4)∧s.first=J∧s.bits=0)∨
 (s.kind=2∧s.names.length=2∧s.aF=[]∧s.lvl=0∧s.first=J∧s.bits=0)∨
 (s.kind=3∧s.names.length=2∧s.aF.length=1∧s.lvl=0∧s.first=J∧s.bits=0)∨
 (s.kind=4∧(∃c:z,s.names.length=c+2∧s.aF.length=c∧c≤40)∧True∧s.lvl=0∧s.first=J∧s.bits=0)∨
 (s.kind=5∧s.names.length=1∧s.aF=[]∧s.lvl=0∧s.first=J∧s.bits=0)∨
 (s.kind=6∧s.names.length=1∧s.aF=[]∧s.lvl=0∧s.first=J∧s.bits=0)∨
 (s.kind=7∧(∃c:z,s.names.length=c+1∧c≤300)∧s.aF=[]∧s.lvl=0∧s.first=J∧s.bits=0)∨
 (s.kind=8∧(∃c:z,s.names.length=c+2∧c≤300)∧s.aF=[]∧s.lvl=0∧True∧s.bits=0)∨
 (s.kind=9∧s.names.length=1∧s.aF=[]∧s.lvl=0∧s.first=J∧(∃b:z,s.bits=b∧b≤15)))
theorem fC.len {s:aB} (h:fC s):s.names.length≤1000∧s.aF.length≤1000:=by
 rcases h.2.2 with⟨_,h1,h2,_⟩|⟨_,h1,h2,_⟩|⟨_,h1,h2,_⟩|⟨_,h1,h2,_⟩|⟨_,h1,h2,_⟩|⟨_,h1,h2,_⟩|⟨_,h1,h2,_⟩|⟨_,h1,h2,_⟩|⟨_,h1,h2,_⟩
 ·rw[h2];exact⟨by omega,by decide⟩
 ·rw[h2];exact⟨by omega,by decide⟩
 ·omega
 ·obtain⟨c,h1,h2,h3⟩:=h1;omega
 ·rw[h2];exact⟨by omega,by decide⟩
 ·rw[h2];exact⟨by omega,by decide⟩
 ·obtain⟨c,h1,h3⟩:=h1;rw[h2];exact⟨by omega,by decide⟩
 ·obtain⟨c,h1,h3⟩:=h1;rw[h2];exact⟨by omega,by decide⟩
 ·rw[h2];exact⟨by omega,by decide⟩
end Yd
