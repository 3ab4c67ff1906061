import Derived.Test.YtnhnhmeogckgpaaGreatDoorNm4
import Derived.Test.YtnhnhmeogckgpaaGreatDoorFsP
import Derived.Test.YtnhnhmeogckgpaaGreatDoorEqF
set_option linter.all false
set_option maxRecDepth 200000
set_option maxHeartbeats 8000000
namespace Yd
open Go Go.RowKit Go.Proofs Go.Maps Tryz
open Go.Obj renaming cells→d
open Go.Value renaming slice→b,int→f,string→j
theorem Row.st1 (w:World) (s:Bs):Row (w.alloc (d #[j ⟨s.toArray⟩] 9)) 1 encStr (some ⟨w.heap.size,0,none⟩) 1 1 [s]:=
 (Own.new (hc:=kQ) w w.heap.size 9 #[j ⟨s.toArray⟩] [s] (Nat.le_refl _) rfl (by simp[maxLen])).row ak
def abW (L:List Bs) (s:Bs) (w:World) (e:Ending) (w':World):Prop:=
 Below w.heap.size w w'∧if s∈L∨L.length<300 then ∃a' c',e= .returned (.tuple #[.agg #[b a' (bY L s).length c'],f .i64 (p9 L s:Int),f .i64 0])∧Own w' w.heap.size 9 1 encStr (b a' (bY L s).length c') (bY L s)
  else e= .returned (.tuple #[.agg #[b none 0 0],f .i64 0,f .i64 6])
theorem RU (L:List Bs) (a:Option Addr) (c:Nat) (s:Bs) (w:World) (hr:Row w 1 encStr a L.length c L) (hL:Au L) (hs:bS ⟨s.toArray⟩=true) (hT:Lib.Utf8Tabs 6 7 w):
  Calls Tryz.prog 232 #[.agg #[b a L.length c],j ⟨s.toArray⟩] w (abW L s w):=by
 obtain⟨i,z,hi,hz,hsize,cZ,hzs⟩:=vT;have HI:=hid (⟨hi,hz,hsize,cZ,hzs⟩:_∧_∧_∧_∧_);clear hi hz hsize cZ hzs;have HF:=hid (fun W (hb:Below w.heap.size w W)=>E5 L a c W (hr.below hb rfl) hL (Utf8Tabs_below hT hb));have HN:=hid (fun W (hb:Below w.heap.size w W)=>OJ L a c s W (hr.below hb rfl) hL (Utf8Tabs_below hT hb));have HC:=hid (fun W (hb:Below w.heap.size w W)=>(by have:=JB s W (Utf8Tabs_below hT hb);rw[if_pos hs] at this;exact this:Calls Tryz.prog 95 #[j ⟨s.toArray⟩] W (bC (f .i64 0) W)));have HK:=hid (fun W (hb:Below w.heap.size w W)=>vN a c L W (hr.below hb rfl) (by have:=hL.l;omega));have HB0:=hid (av (av (Below.refl w.heap.size w) (d #[b a L.length c] 91)) (d #[b none 0 0] 91));have HX0:Hid (Bx ((w.alloc (d #[b a L.length c] 91)).alloc (d #[b none 0 0] 91)) w.heap.size #[b a L.length c]∧Bx ((w.alloc (d #[b a L.length c] 91)).alloc (d #[b none 0 0] 91)) (w.heap.size+1) #[b none 0 0]):=hid
  ⟨(Bx.new w _ _).alloc _,by have:=Bx.new (w.alloc (d #[b a L.length c] 91)) #[b none 0 0] 91;rw[World.size_alloc] at this;exact this⟩
 have uM:=hid hL.l;clear hr hL hs hT;go_enter func232,ntmps232;have hc0:=HX0.q.1.1;go_wp2_with fail;refine(HF.q _ HB0.q).mono ?_;rintro e w1 ⟨rfl,hb1⟩;have HB1:=hid (HB0.q.bD hb1);have bE:=hid (⟨HX0.q.1.keep hb1,HX0.q.2.keep hb1⟩:_∧_);clear hb1 hc0;have hc0:=bE.q.1.1;go_wp2_with fail;refine(HC.q _ HB1.q).mono ?_;rintro e w2 ⟨rfl,hb2⟩;have HB2:=hid (HB1.q.bD hb2);have aW:=hid (⟨bE.q.1.keep hb2,bE.q.2.keep hb2⟩:_∧_);clear hb2 hc0;have hc0:=aW.q.1.1;go_wp2_with fail;refine(HK.q _ HB2.q).mono ?_;rintro e w3 ⟨a3,c3,rfl,how,hb3⟩;have HOW:=hid how;have HS2:=hid aW.q.2.2.2;have ahd:=hid hb3.size;have HB3:=hid (HB2.q.bD hb3);have eD:=hid (⟨aW.q.1.keep hb3,aW.q.2.keep hb3⟩:_∧_);clear hb3 hc0 how;have hc0:=eD.q.1.1;go_wp2_with fail;refine(HN.q _ HB3.q).mono ?_;rintro e w4 ⟨rfl,hb4⟩;have ahe:=hid hb4.size;have dL:=hid (HB3.q.bD hb4);have jd:=hid (⟨eD.q.1.keep hb4,eD.q.2.keep hb4⟩:_∧_);have K8:=hid (HOW.q.below hb4 rfl);have HBS:=hid (show w.heap.size+1<w4.heap.size from jd.q.2.2.2);clear hb4 hc0;have hc1:=jd.q.2.1;have hf1:=jd.q.2.2.1;by_cases hm:s∈L
 ·obtain⟨k,hk⟩:∃k,k=L.idxOf s:=⟨_,rfl⟩
  have E9:=hid (⟨hm,hk⟩:_∧_);have e1:(if s∈L then(L.idxOf s:Int) else 0)=(k:Int):=by rw[if_pos hm,hk]
  have e2:decide (s∈L)=true:=decide_eq_true hm;rw[e1,e2];clear e1 e2 hm hk;go_wp2_with fail;have hst:=jd.q.2.set1 (b a3 L.length c3);have hcs:=hst.1 0;refine bodyPost_ret (v:= .tuple #[.agg #[b a3 L.length c3],f .i64 (k:Int),f .i64 0]) (by simp[results,results232,go_sem,hcs]) rfl ?_;refine⟨dL.q.setCell (p:=⟨w.heap.size+1,0,none⟩) ak _,?_⟩;rw[if_pos (.inl E9.q.1),Di E9.q.1,Sk E9.q.1,←E9.q.2];exact⟨a3,c3,rfl,(K8.q.block (fun g hg=>Below.heap_setCell _ _ _ _ (by have:=(K8.q.lt g hg).1;have:=HS2.q;simp;omega))).mono HB2.q.size⟩
 ·have e1:(if s∈L then(L.idxOf s:Int) else 0)=0:=by rw[if_neg hm]
  have e2:decide (s∈L)=false:=decide_eq_false hm;rw[e1,e2];have HM:=hid hm;clear e1 e2 hm;by_cases Bc:L.length=300
  ·have hq:((L.length:Int)==300)=true:=by rw[Bc];rfl
   have hq2:(L.length==300)=true:=by rw[Bc];rfl
   have hq3:decide (L.length=300)=true:=decide_eq_true Bc;have hq4:decide ((L.length:Int)=300)=true:=decide_eq_true ah;have H3:=hid Bc;clear Bc;go_wp2_with fail;have hst:=jd.q.2.set1 (b none 0 0);have hcs:=hst.1 0;refine bodyPost_ret (v:= .tuple #[.agg #[b none 0 0],f .i64 0,f .i64 6]) (by simp[results,results232,go_sem,hcs]) rfl ?_;refine⟨dL.q.setCell (p:=⟨w.heap.size+1,0,none⟩) ak _,?_⟩;rw[if_neg (by have:=H3.q;rintro(h|h);exact HM.q h;omega)]
  ·have hq:((L.length:Int)==300)=false:=beq_eq_false_iff_ne.2 ah
   have hq2:(L.length==300)=false:=beq_eq_false_iff_ne.2 Bc;have hq3:decide (L.length=300)=false:=decide_eq_false Bc;have hq4:decide ((L.length:Int)=300)=false:=decide_eq_false ah;have H3:=hid Bc;clear Bc;have jv:Hid ((Value.slice a3 L.length c3).ownBlock≠some (w.heap.size+1)):=hid (fun e=>by have:=(K8.q.lt _ e).1;have:=HS2.q;omega);have dY:Hid ((L.length+1)*16≤140737488355328):=hid (by have:=uM.q;omega);have kX:Hid (L.length+1≤maxLen):=hid (by have:=uM.q;unfold maxLen;omega);have uX:Hid (w2.heap.size≤(w4.alloc (d #[j ⟨s.toArray⟩] 9)).heap.size):=hid (by have h1:=ahd.q;have h2:=ahe.q;simp;omega)
   go_wp2_with (at_builtin;refine dO rfl _ _ 22 rfl i z 16 underlying22 HI.q.1 HI.q.2.1 HI.q.2.2.1 HI.q.2.2.2.1 HI.q.2.2.2.2 rfl (K8.q.alloc _) (some ⟨w4.heap.size,0,none⟩) 1 1 (L.length+1) [s] rfl (Row.st1 w4 s) rfl dY.q kX.q uX.q ?_;intro a' c' w6 hown1 hg1 zH;have hx6:=(jd.q.2.alloc (d #[j ⟨s.toArray⟩] 9)).grown hg1 jv.q;have hc6:=hx6.1;have hf6:=hx6.2.1)
   have QE:Hid (∀g,(Value.slice a' (L.length+1) c').ownBlock=some g→g≠w.heap.size+1):=hid (fun g hg e=>by
    have:=(hown1.lt g hg).1;have:=HS2.q;omega)
   have hbw:=below_app (dL.q.alloc dL.q.size _) (K8.q.alloc _) HB2.q.size (Nat.le_trans HB2.q.size uX.q) hg1;have hst:=hx6.set1 (b a' (L.length+1) c');have hcs:=hst.1 0;refine bodyPost_ret (v:= .tuple #[.agg #[b a' (L.length+1) c'],f .i64 (L.length:Int),f .i64 0]) (by simp[results,results232,go_sem,hcs]) rfl ?_;refine⟨hbw.setCell (p:=⟨w.heap.size+1,0,none⟩) ak _,?_⟩;rw[if_pos (.inr (by have:=H3.q;have:=uM.q;omega)),NT HM.q,AZ HM.q,List.length_append];exact⟨a',c',rfl,(hown1.block (fun g hg=>Below.heap_setCell _ _ _ _ (by have:=QE.q g hg;simp;omega))).mono HB2.q.size⟩
end Yd
namespace Yd
open Go Go.RowKit Go.Proofs Tryz
def ji:List PanicEntry:=[⟨.iface 27 (.int .i64 6),false,false⟩]
theorem kP (b:Bool) (w:World):Calls Tryz.prog 181 #[.bool b] w fun e w'=>w'=w∧e=if b=true then .returned (.tuple #[]) else .panicked ji:=by
 cases b
 ·go_enter func181,ntmps181
  go_wp2
  exact⟨rfl,rfl,rfl⟩
 ·go_enter func181,ntmps181
  go_wp2
  refine bodyPost_end (results_none rfl _ _ _) rfl ?_;exact⟨rfl,rfl⟩
end Yd
