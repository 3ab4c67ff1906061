import Derived.Test.YtnhnhmeogckgpaaGreatDoorTNm4
import Derived.Test.YtnhnhmeogckgpaaGreatDoorTDrS
import Derived.Test.YtnhnhmeogckgpaaGreatDoorTEqF
set_option linter.all false
set_option maxRecDepth 200000
set_option maxHeartbeats 8000000
namespace Yd
open Go Go.RowKit Go.Proofs Go.Maps Tryz
open Go.Obj renaming cells→d
open Go.Value renaming slice→b,int→f,string→j
theorem Row.st1 (w:World) (s:Bs):Row (w.alloc (d #[j ⟨s.toArray⟩] 9)) 1 encStr (some ⟨w.heap.size,0,none⟩) 1 1 [s]:=
 (Own.new (hc:=iM) w w.heap.size 9 #[j ⟨s.toArray⟩] [s] (Nat.le_refl _) rfl (by simp[maxLen])).row ak
def aae (L:List Bs) (s:Bs) (w:World) (e:Ending) (w':World):Prop:=
 Below w.heap.size w w'∧if s∈L∨L.length<300 then ∃a' c',e= .returned (.tuple #[.agg #[b a' (bM L s).length c'],f .i64 (nV L s:Int),f .i64 0])∧Own w' w.heap.size 9 1 encStr (b a' (bM L s).length c') (bM L s)
  else e= .returned (.tuple #[.agg #[b none 0 0],f .i64 0,f .i64 6])
theorem Qq (L:List Bs) (a:Option Addr) (c:Nat) (s:Bs) (w:World) (hr:Row w 1 encStr a L.length c L) (hL:zu L) (hs:aU ⟨s.toArray⟩=true) (hT:Lib.Utf8Tabs 6 7 w):
  Calls Tryz.prog 232 #[.agg #[b a L.length c],j ⟨s.toArray⟩] w (aae L s w):=by
 obtain⟨i,z,hi,hz,hsize,bP,hzs⟩:=oZ;have HI:=hid (⟨hi,hz,hsize,bP,hzs⟩:_∧_∧_∧_∧_);clear hi hz hsize bP hzs;have HF:=hid (fun W (hb:Below w.heap.size w W)=>El L a c W (hr.below hb rfl) hL (Utf8Tabs_below hT hb));have HN:=hid (fun W (hb:Below w.heap.size w W)=>NY L a c s W (hr.below hb rfl) hL (Utf8Tabs_below hT hb));have HC:=hid (fun W (hb:Below w.heap.size w W)=>(by have:=IY s W (Utf8Tabs_below hT hb);rw[if_pos hs] at this;exact this:Calls Tryz.prog 95 #[j ⟨s.toArray⟩] W (aW (f .i64 0) W)));have HK:=hid (fun W (hb:Below w.heap.size w W)=>tY a c L W (hr.below hb rfl) (by have:=hL.l;omega));have HB0:=hid (av (av (Below.refl w.heap.size w) (d #[b a L.length c] 91)) (d #[b none 0 0] 91));have HX0:Hid (Bx ((w.alloc (d #[b a L.length c] 91)).alloc (d #[b none 0 0] 91)) w.heap.size #[b a L.length c]∧Bx ((w.alloc (d #[b a L.length c] 91)).alloc (d #[b none 0 0] 91)) (w.heap.size+1) #[b none 0 0]):=hid
  ⟨(Bx.new w _ _).alloc _,by have:=Bx.new (w.alloc (d #[b a L.length c] 91)) #[b none 0 0] 91;rw[World.size_alloc] at this;exact this⟩
 have xG:=hid hL.l;clear hr hL hs hT;go_enter func232,ntmps232;have hc0:=HX0.q.1.1;go_wp2_with fail;refine(HF.q _ HB0.q).mono ?_;rintro e w1 ⟨rfl,hb1⟩;have HB1:=hid (HB0.q.bq hb1);have cK:=hid (⟨HX0.q.1.keep hb1,HX0.q.2.keep hb1⟩:_∧_);clear hb1 hc0;have hc0:=cK.q.1.1;go_wp2_with fail;refine(HC.q _ HB1.q).mono ?_;rintro e w2 ⟨rfl,hb2⟩;have HB2:=hid (HB1.q.bq hb2);have cO:=hid (⟨cK.q.1.keep hb2,cK.q.2.keep hb2⟩:_∧_);clear hb2 hc0;have hc0:=cO.q.1.1;go_wp2_with fail;refine(HK.q _ HB2.q).mono ?_;rintro e w3 ⟨a3,c3,rfl,how,hb3⟩;have HOW:=hid how;have HS2:=hid cO.q.2.2.2;have ahs:=hid hb3.size;have HB3:=hid (HB2.q.bq hb3);have gL:=hid (⟨cO.q.1.keep hb3,cO.q.2.keep hb3⟩:_∧_);clear hb3 hc0 how;have hc0:=gL.q.1.1;go_wp2_with fail;refine(HN.q _ HB3.q).mono ?_;rintro e w4 ⟨rfl,hb4⟩;have aht:=hid hb4.size;have eH:=hid (HB3.q.bq hb4);have mY:=hid (⟨gL.q.1.keep hb4,gL.q.2.keep hb4⟩:_∧_);have AO:=hid (HOW.q.below hb4 rfl);have Xe:=hid (show w.heap.size+1<w4.heap.size from mY.q.2.2.2);clear hb4 hc0;have hc1:=mY.q.2.1;have hf1:=mY.q.2.2.1;by_cases hm:s∈L
 ·obtain⟨k,hk⟩:∃k,k=L.idxOf s:=⟨_,rfl⟩
  have Em:=hid (⟨hm,hk⟩:_∧_);have e1:(if s∈L then(L.idxOf s:Int) else 0)=(k:Int):=by rw[if_pos hm,hk]
  have e2:decide (s∈L)=true:=decide_eq_true hm;rw[e1,e2];clear e1 e2 hm hk;go_wp2_with fail;have hst:=mY.q.2.set1 (b a3 L.length c3);have hcs:=hst.1 0;refine bodyPost_ret (v:= .tuple #[.agg #[b a3 L.length c3],f .i64 (k:Int),f .i64 0]) (by simp[results,results232,go_sem,hcs]) rfl ?_;refine⟨eH.q.setCell (p:=⟨w.heap.size+1,0,none⟩) ak _,?_⟩;rw[if_pos (.inl Em.q.1),BX Em.q.1,Qr Em.q.1,←Em.q.2];exact⟨a3,c3,rfl,(AO.q.block (fun g hg=>Below.heap_setCell _ _ _ _ (by have:=(AO.q.lt g hg).1;have:=HS2.q;simp;omega))).mono HB2.q.size⟩
 ·have e1:(if s∈L then(L.idxOf s:Int) else 0)=0:=by rw[if_neg hm]
  have e2:decide (s∈L)=false:=decide_eq_false hm;rw[e1,e2];have HM:=hid hm;clear e1 e2 hm;by_cases zw:L.length=300
  ·have hq:((L.length:Int)==300)=true:=by rw[zw];rfl
   have hq2:(L.length==300)=true:=by rw[zw];rfl
   have hq3:decide (L.length=300)=true:=decide_eq_true zw;have hq4:decide ((L.length:Int)=300)=true:=decide_eq_true ah;have H3:=hid zw;clear zw;go_wp2_with fail;have hst:=mY.q.2.set1 (b none 0 0);have hcs:=hst.1 0;refine bodyPost_ret (v:= .tuple #[.agg #[b none 0 0],f .i64 0,f .i64 6]) (by simp[results,results232,go_sem,hcs]) rfl ?_;refine⟨eH.q.setCell (p:=⟨w.heap.size+1,0,none⟩) ak _,?_⟩;rw[if_neg (by have:=H3.q;rintro(h|h);exact HM.q h;omega)]
  ·have hq:((L.length:Int)==300)=false:=beq_eq_false_iff_ne.2 ah
   have hq2:(L.length==300)=false:=beq_eq_false_iff_ne.2 zw;have hq3:decide (L.length=300)=false:=decide_eq_false zw;have hq4:decide ((L.length:Int)=300)=false:=decide_eq_false ah;have H3:=hid zw;clear zw;have jf:Hid ((Value.slice a3 L.length c3).ownBlock≠some (w.heap.size+1)):=hid (fun e=>by have:=(AO.q.lt _ e).1;have:=HS2.q;omega);have gX:Hid ((L.length+1)*16≤140737488355328):=hid (by have:=xG.q;omega);have fH:Hid (L.length+1≤maxLen):=hid (by have:=xG.q;unfold maxLen;omega);have ql:Hid (w2.heap.size≤(w4.alloc (d #[j ⟨s.toArray⟩] 9)).heap.size):=hid (by have h1:=ahs.q;have h2:=aht.q;simp;omega)
   go_wp2_with (at_builtin;refine dV rfl _ _ 22 rfl i z 16 underlying22 HI.q.1 HI.q.2.1 HI.q.2.2.1 HI.q.2.2.2.1 HI.q.2.2.2.2 rfl (AO.q.alloc _) (some ⟨w4.heap.size,0,none⟩) 1 1 (L.length+1) [s] rfl (Row.st1 w4 s) rfl gX.q fH.q ql.q ?_;intro a' c' w6 hown1 hg1 qX;have hx6:=(mY.q.2.alloc (d #[j ⟨s.toArray⟩] 9)).grown hg1 jf.q;have hc6:=hx6.1;have hf6:=hx6.2.1)
   have Qs:Hid (∀g,(Value.slice a' (L.length+1) c').ownBlock=some g→g≠w.heap.size+1):=hid (fun g hg e=>by
    have:=(hown1.lt g hg).1;have:=HS2.q;omega)
   have hbw:=below_app (eH.q.alloc eH.q.size _) (AO.q.alloc _) HB2.q.size (Nat.le_trans HB2.q.size ql.q) hg1;have hst:=hx6.set1 (b a' (L.length+1) c');have hcs:=hst.1 0;refine bodyPost_ret (v:= .tuple #[.agg #[b a' (L.length+1) c'],f .i64 (L.length:Int),f .i64 0]) (by simp[results,results232,go_sem,hcs]) rfl ?_;refine⟨hbw.setCell (p:=⟨w.heap.size+1,0,none⟩) ak _,?_⟩;rw[if_pos (.inr (by have:=H3.q;have:=xG.q;omega)),Me HM.q,zx HM.q,List.length_append];exact⟨a',c',rfl,(hown1.block (fun g hg=>Below.heap_setCell _ _ _ _ (by have:=Qs.q g hg;simp;omega))).mono HB2.q.size⟩
end Yd
namespace Yd
open Go Go.RowKit Go.Proofs Tryz
def iR:List PanicEntry:=[⟨.iface 27 (.int .i64 6),false,false⟩]
theorem jO (b:Bool) (w:World):Calls Tryz.prog 181 #[.bool b] w fun e w'=>w'=w∧e=if b=true then .returned (.tuple #[]) else .panicked iR:=by
 cases b
 ·go_enter func181,ntmps181
  go_wp2
  exact⟨rfl,rfl,rfl⟩
 ·go_enter func181,ntmps181
  go_wp2
  refine bodyPost_end (results_none rfl _ _ _) rfl ?_;exact⟨rfl,rfl⟩
end Yd
