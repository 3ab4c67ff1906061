import Derived.Test.YtnhnhmeogckgpaaGreatDoorSame
import Derived.Laws.EntriesVeiled
import Derived.Test.YtnhnhmeogckgpaaGreatDoorNm4
set_option linter.all false
set_option maxRecDepth 200000
set_option maxHeartbeats 8000000
namespace Yd
open Bool renaming and_assoc→E,false→O,true→Q
open Nat renaming le_refl→j,lt_of_lt_of_le→T,reduceAdd→V,reduceSub→Z
open Option renaming none→y,some→z
open Go Go.RowKit Go.Proofs Tryz
open Below renaming refl→r,heap_setCell→U
open Go renaming World→G,Calls→N,callFunc→P,Value→S
open Go.Obj renaming cells→C
open Go.Value renaming pointer→f,bool→I
open Tryz renaming prog→g
open Yd renaming hid→u
open _root_ renaming List→H,Int→L,Nat→M
def fG (e:EvC) (scan:H Sn):Bool:=
 if e.kind=1 then decide (e.obj=0) && decide (e.v=⟨0,0⟩) && decide (e.pred=0) && decide (scan=[])
 else if e.kind=2∨e.kind=3 then decide (e.bR=0) && decide (e.lvl=0) && decide (e.pred=0) && decide (scan=[])
 else if e.kind=4 then decide (e.bR=0) && decide (e.lvl=0) && decide (e.obj=0) && decide (e.v=⟨0,0⟩)
 else decide (e.bR=0) && decide (e.lvl=0) && decide (e.obj=0) && decide (e.v=⟨0,0⟩) && decide (e.pred=0) && decide (scan=[])
def hasB (nt ns no np:M) (e:EvC) (scan:H Sn):Bool:=
 if e.kind=1 then aV e.bR ns && fD e.lvl
 else if e.kind=2 then aV e.obj no && gI e.v nt && decide (e.v.t=e.t) && decide (0<e.v.k)
 else if e.kind=3 then aV e.obj no && gI e.v nt
 else if e.kind=4 then aV e.pred np && decide (scan.length≤40) && scan.all (jK nt no)
 else Q
def gT (nt ns no np:M) (e:EvC) (scan:H Sn):Bool:=decide (1≤e.kind) && decide (e.kind<7) && aV e.t nt && hasB nt ns no np e scan && fG e scan
@[reducible] def Mc (n:M):Array S:=#[.nilFunc,.func (.func 195) #[] #[f (z ⟨n+1,0,y⟩),f (z ⟨n,0,y⟩)],.func (.func 196) #[] #[f (z ⟨n+1,0,y⟩),f (z ⟨n,0,y⟩)],.func (.func 198) #[] #[f (z ⟨n+1,0,y⟩),f (z ⟨n,0,y⟩)],.func (.func 199) #[] #[f (z ⟨n,0,y⟩),f (z ⟨n+1,0,y⟩)],.func (.func 202) #[] #[],.func (.func 203) #[] #[]]
theorem rM (h:HC) (e:EvC) (scan bl:H Sn) (B:EvC) (R:Bool) (F k:M) (caps:Array S) (W:G) (hr:Row W 3 dB e.sa e.sn e.sc scan) (ht:aV e.t h.t.n=Q) (hk:e.kind=(k:L)) (hk1:1≤k) (Ka:k<7)
  (hF:(Mc W.heap.size)[k]?=z (.func (.func F) #[] caps)) (eg:∀args w,(P F args).run g w= .ok (.enter F args) w) (hcall:∀w1,Below W.heap.size W w1→Bx w1 (W.heap.size+1) (bG e)→Bx w1 W.heap.size (aA h)→N g F caps w1 (uF (gW B) (I R) w1))
  (hbl:∀W',Below W.heap.size W W'→Row W' 3 dB B.sa B.sn B.sc bl) (hfin:gT h.t.n h.s.n h.o.n h.p.n e scan=(R && (fo {B with kind:=k,t:=e.t} e && decide (bl=scan)))):
  N g 130 #[fJ h,gW e] W (bC (I (gT h.t.n h.s.n h.o.n h.p.n e scan)) W):=by
 rw[hfin];obtain⟨kind,t,bR,lvl,obj,v,pred,sa,sn,sc⟩:=e;simp only at hk hr ht hcall;subst hk;obtain⟨R2,hR2⟩:∃R2:Bool,R2=(fo {B with kind:=k,t:=t} ⟨k,t,bR,lvl,obj,v,pred,sa,sn,sc⟩ && decide (bl=scan)):=⟨_,rfl⟩;show N _ _ _ _ (bC (I (R && (fo {B with kind:=k,t:=t} ⟨k,t,bR,lvl,obj,v,pred,sa,sn,sc⟩ && decide (bl=scan)))) W);rw[←hR2];have pX:=u hR2;have HF:=u hF;have aQ:=u hcall;have Bt:=u hbl;have HT:=u ht;have HR:=u hr;have g1:¬((k:L)<1):=by omega
 have g7:(k:L)<7:=by omega
 clear hR2 ht hr hfin hF hcall hbl hk1 Ka;have hE0:=((Bx.new (W.alloc (C (aA h) 41)) (bG ⟨k,t,bR,lvl,obj,v,pred,sa,sn,sc⟩) 65).alloc (C (Mc W.heap.size) 253));have hH0:=(((Bx.new W (aA h) 41).alloc (C (bG ⟨k,t,bR,lvl,obj,v,pred,sa,sn,sc⟩) 65)).alloc (C (Mc W.heap.size) 253));have hM0:=(Bx.new ((W.alloc (C (aA h) 41)).alloc (C (bG ⟨k,t,bR,lvl,obj,v,pred,sa,sn,sc⟩) 65)) (Mc W.heap.size) 253);have hB0:=(((r W.heap.size W).alloc (j _) (C (aA h) 41)).alloc ak (C (bG ⟨k,t,bR,lvl,obj,v,pred,sa,sn,sc⟩) 65)).alloc (by simp;omega) (C (Mc W.heap.size) 253);simp only[World.size_alloc] at hE0 hH0 hM0;have G8:=u hE0;have HH0:=u hH0;have HM0:=u hM0;have HB0:=u hB0;clear hE0 hH0 hM0 hB0;go_enter func130,ntmps130;go_wp2_with fail;refine(Jk h _ _).mono ?_;rintro e w1 ⟨rfl,hb1⟩;rw[HT.q];have Dv:=u (G8.q.keep hb1);have HH1:=u (HH0.q.keep hb1);have zA:=u (HM0.q.keep hb1);have Yk:=u (HB0.q.bD hb1);have hE1:=Dv.q;have hcM:=(zA.q.1 k).trans HF.q;clear hb1;go_wp2_with fail;refine(aQ.q w1 Yk.q Dv.q HH1.q).mono ?_;rintro e w2 ⟨rfl,hb2⟩;have HR:=u (HR.q.below (Yk.q.bD hb2) rfl);have HE2:=Dv.q.keep hb2;have Md:=u (Yk.q.bD hb2);have HL:=u (T Dv.q.2.2 hb2.size);have HS:Hid (∀W',Below w2.heap.size w2 W'→Bx W' (W.heap.size+1) (bG ⟨k,t,bR,lvl,obj,v,pred,sa,sn,sc⟩)):=fun W' hb=>HE2.keep hb
 clear hb2 hE1 hcM HE2 Dv zA HH1 G8 HH0 HM0 HB0 Yk
 cases R
 all_goals
  go_wp2_with fail;have HX:=u ((Bx.new w2 (bG (B)) 65).drew);have HB:=u (((r w2.heap.size w2).alloc (j _) (C (bG (B)) 65)).drew);refine aP [(0,Q),(1,Q),(2,Q),(3,Q),(4,Q),(5,O),(6,Q),(7,O)] (fun W'=>Bx W' (W.heap.size+1) (bG ⟨k,t,bR,lvl,obj,v,pred,sa,sn,sc⟩)) au au (by intro d v c a w h;cases d <;> exact h) (HS.q _ HB.q) ?_;refine qO ?_;have hX:=HX.q;refine dD rfl rfl (fun K hK=>?_);go_simp;refine hK _ _ (HS.q _ (((r _ _).alloc (j _) _).drew)) ?_;clear hK K;refine qO ?_;refine dD rfl rfl (fun K hK=>?_);go_simp;refine hK _ _ (HS.q _ (((r _ _).alloc (j _) _).drew)) ?_;clear hK K;clear hX HX;have hS2:=HS.q _ (((r w2.heap.size w2).alloc (j _) (C (bG {B with kind:=k,t:=t}) 65)).drew);have HL2:=HL.q;refine cB ?_;go_wp2_with fail
 ·go_ret
  exact⟨rfl,Md.q.trans ((((r w2.heap.size w2).alloc (j _) (C (bG {B with kind:=k,t:=t}) 65)).drew).mono Md.q.size)⟩
 ·refine(NN {B with kind:=k,t:=t} ⟨k,t,bR,lvl,obj,v,pred,sa,sn,sc⟩ bl scan _ (Bt.q _ (Md.q.trans ((((r w2.heap.size w2).alloc (j _) (C (bG {B with kind:=k,t:=t}) 65)).drew).mono Md.q.size))) (HR.q.below (((r w2.heap.size w2).alloc (j _) (C (bG {B with kind:=k,t:=t}) 65)).drew) rfl)).mono ?_
  rintro e w3 ⟨rfl,hb3⟩;rw[show(fo {B with kind:=k,t:=t} ⟨k,t,bR,lvl,obj,v,pred,sa,sn,sc⟩ && decide (bl=scan))=R2 from by simp[pX.q]];go_wp2_with fail;go_ret;exact⟨rfl,Md.q.trans (((((r w2.heap.size w2).alloc (j _) (C (bG {B with kind:=k,t:=t}) 65)).drew).mono Md.q.size).trans (hb3.mono (by have:=Md.q.size;simp;omega)))⟩
theorem adO:∀args w,(P 195 args).run g w= .ok (.enter 195 args) w:=enters_of func195 au rfl
theorem adP:∀args w,(P 196 args).run g w= .ok (.enter 196 args) w:=enters_of func196 au rfl
theorem adQ:∀args w,(P 198 args).run g w= .ok (.enter 198 args) w:=enters_of func198 au rfl
theorem adR:∀args w,(P 199 args).run g w= .ok (.enter 199 args) w:=enters_of func199 au rfl
theorem adS:∀args w,(P 202 args).run g w= .ok (.enter 202 args) w:=enters_of func202 au rfl
theorem adT:∀args w,(P 203 args).run g w= .ok (.enter 203 args) w:=enters_of func203 au rfl
theorem Wz (h:HC) (e:EvC) (_scan:H Sn) (W:G) (h1:e.kind<1):
  N g 130 #[fJ h,gW e] W (bC (I O) W):=by
 obtain⟨kind,t,bR,lvl,obj,v,pred,sa,sn,sc⟩:=e;skip;go_enter func130,ntmps130;go_wp2_with fail;go_ret;exact⟨rfl,((((r W.heap.size W).alloc (j _) _).alloc ak _).alloc (by simp;omega) _)⟩
theorem WA (h:HC) (e:EvC) (_scan:H Sn) (W:G) (h1:¬e.kind<1) (h7:7≤e.kind):
  N g 130 #[fJ h,gW e] W (bC (I O) W):=by
 obtain⟨kind,t,bR,lvl,obj,v,pred,sa,sn,sc⟩:=e;skip;go_enter func130,ntmps130;go_wp2_with fail;go_ret;exact⟨rfl,((((r W.heap.size W).alloc (j _) _).alloc ak _).alloc (by simp;omega) _)⟩
theorem WB (h:HC) (e:EvC) (_scan:H Sn) (W:G) (h1:¬e.kind<1) (h7:¬7≤e.kind) (ht:aV e.t h.t.n=O):
  N g 130 #[fJ h,gW e] W (bC (I O) W):=by
 obtain⟨kind,t,bR,lvl,obj,v,pred,sa,sn,sc⟩:=e;have HT:=u ht;clear ht;go_enter func130,ntmps130
 go_wp2_with (go_at_call 127;refine(Jk h _ _).mono ?_;rintro e w1 ⟨rfl,hb1⟩;rw[HT.q])
 go_ret;exact⟨rfl,((((r W.heap.size W).alloc (j _) _).alloc ak _).alloc (by simp;omega) _).trans (hb1.mono (by simp;omega))⟩
theorem TI (h:HC) (e:EvC) (scan:H Sn) (W:G) (hr:Row W 3 dB e.sa e.sn e.sc scan):
  N g 130 #[fJ h,gW e] W (bC (I (gT h.t.n h.s.n h.o.n h.p.n e scan)) W):=by
 by_cases h1:e.kind<1
 ·have:gT h.t.n h.s.n h.o.n h.p.n e scan=O:=by simp[gT,Int.not_le.2 h1]
  rw[this];exact Wz h e scan W h1
 by_cases h7:7≤e.kind
 ·have:gT h.t.n h.s.n h.o.n h.p.n e scan=O:=by simp[gT,Int.not_lt.2 h7]
  rw[this];exact WA h e scan W h1 h7
 cases ht:aV e.t h.t.n
 ·have:gT h.t.n h.s.n h.o.n h.p.n e scan=O:=by simp[gT,ht]
  rw[this];exact WB h e scan W h1 h7 ht
 have hl:=hr.len;have hq:((e.sn:L)≤40)=(e.sn≤40):=propext ah;have hk:e.kind=1∨e.kind=2∨e.kind=3∨e.kind=4∨e.kind=5∨e.kind=6:=by omega
 have hn:∀W',Below W.heap.size W W'→Row W' 3 dB y 0 0 ([]:H Sn):=fun _ _=>Row.iJ
 rcases hk with hk|hk|hk|hk|hk|hk
 ·exact rM h e scan [] (Qs e) _ _ 1 _ W hr ht hk ah ah rfl adO (fun w1 _ h1 h2=>adB h e _ _ w1 h1 h2) hn (by simp[gT,hasB,fG,fo,ht,hk,eq_comm (a:=(0:L)),eq_comm (a:=(⟨0,0⟩:kT)),eq_comm (a:=([]:H Sn)),E])
 ·exact rM h e scan [] (Qt e) _ _ 2 _ W hr ht hk ah ah rfl adP (fun w1 _ h1 h2=>adC h e _ _ w1 h1 h2) hn (by simp[gT,hasB,fG,fo,ht,hk,eq_comm (a:=(0:L)),eq_comm (a:=([]:H Sn)),E,Bool.beq_eq_decide_eq])
 ·exact rM h e scan [] (Qu e) _ _ 3 _ W hr ht hk ah ah rfl adQ (fun w1 _ h1 h2=>adD h e _ _ w1 h1 h2) hn (by simp[gT,hasB,fG,fo,ht,hk,eq_comm (a:=(0:L)),eq_comm (a:=([]:H Sn)),E])
 ·exact rM h e scan scan (PK e) _ _ 4 _ W hr ht hk ah ah rfl adR (fun w1 hb h1 h2=>ab3 h e _ _ w1 h1 h2 scan (hr.below hb rfl)) (fun W' hb=>hr.below hb rfl) (by simp[gT,hasB,fG,fo,ht,hk,hl,hq,eq_comm (a:=(0:L)),eq_comm (a:=(⟨0,0⟩:kT)),E])
 ·exact rM h e scan [] Dp Q _ 5 _ W hr ht hk ah ah rfl adS (fun w1 _ _ _=>ab4 w1) hn (by simp[gT,hasB,fG,fo,ht,hk,eq_comm (a:=(0:L)),eq_comm (a:=(⟨0,0⟩:kT)),eq_comm (a:=([]:H Sn)),E])
 ·exact rM h e scan [] Dp Q _ 6 _ W hr ht hk ah ah rfl adT (fun w1 _ _ _=>ab5 w1) hn (by simp[gT,hasB,fG,fo,ht,hk,eq_comm (a:=(0:L)),eq_comm (a:=(⟨0,0⟩:kT)),eq_comm (a:=([]:H Sn)),E])
def fH (nt:M) (ds:H L):Bool:=decide (ds.length≤300) && ds.all (fun x=>aV x nt)
theorem ZG (h:HC) (x:L) (bh:M) (w:G) (hH:Bx w bh (aA h)):N g 126 #[.int .i64 x,f (z ⟨bh,0,y⟩)] w (bC (I (aV x h.t.n)) w):=by
 go_enter func126,ntmps126
 go_wp2_with (go_at_call 127;refine(Jk h _ _).mono ?_;rintro e w1 ⟨rfl,hb1⟩)
 go_ret;exact⟨rfl,hb1⟩
theorem TJ (h:HC) (a:Option Addr) (n c:M) (ds:H L) (bh:M) (w:G) (hH:Bx w bh (aA h)) (hr:Row w 1 aZ a n c ds):
  N g 124 #[.slice a n c,f (z ⟨bh,0,y⟩)] w (bC (I (fH h.t.n ds)) w):=by
 have hA:=aaV a n c 126 #[f (z ⟨bh,0,y⟩)] ds (fun x=>aV x h.t.n) w hr call126
  (fun x _ W2 hW2=>ZG h x bh W2 (hH.keep hW2))
 have hlen:=hr.len;have HA:=u hA;have HLEN:=u hlen;clear hA hH hr hlen;by_cases h3:(n:L)≤300
 ·have hq:fH h.t.n ds=ds.all (fun x=>aV x h.t.n):=by simp[fH,HLEN.q];omega
  rw[hq];have HQ:=u hq;clear hq;go_enter func124,ntmps124
  go_wp2_with (go_at_call 125;refine HA.q.mono ?_;rintro e w1 ⟨rfl,hb1⟩)
  go_ret;exact⟨rfl,hb1⟩
 ·have hq:fH h.t.n ds=O:=by simp[fH,HLEN.q];omega
  rw[hq];clear hq;go_enter func124,ntmps124;go_wp2_with fail;go_ret;exact⟨rfl,r _ _⟩
theorem acF (h:HC) (e:EvC) (scan:H Sn) (bh:M) (w:G) (hH:Bx w bh (aA h)) (hr:Row w 3 dB e.sa e.sn e.sc scan):
  N g 129 #[gW e,f (z ⟨bh,0,y⟩)] w (bC (I (gT h.t.n h.s.n h.o.n h.p.n e scan)) w):=by
 have hb0:Below w.heap.size w (w.alloc (C (bG e) 65)):=(r _ _).alloc (j _) _;have hE:=TI h e scan _ (hr.below hb0 rfl);have hH1:=hH.keep hb0;have hlt:=hH.2.2;have HE:=u hE;have HB:=u hb0;clear hE hb0 hr hH;go_enter func129,ntmps129
 go_wp2_with (go_at_call 130;refine HE.q.mono ?_;rintro e w1 ⟨rfl,hb1⟩)
 go_ret;exact⟨rfl,HB.q.bD hb1⟩
theorem acG (h:HC) (x:aK) (ds:H L) (bh b9:M) (w:G) (hH:Bx w bh (aA h)) (h9:Bx w b9 #[.func (.func 124) #[] #[f (z ⟨bh,0,y⟩)]]) (hr:Row w 1 aZ x.sa x.sn x.sc ds):
  N g 132 #[xL x,f (z ⟨bh,0,y⟩),f (z ⟨b9,0,y⟩)] w (bC (I (aV x.obj h.o.n && fH h.t.n ds)) w):=by
 have hb0:Below w.heap.size w (w.alloc (C (Ni x) 79)):=(r _ _).alloc (j _) _;have hX0:=Bx.new w (Ni x) 79;have hH1:=hH.keep hb0;have TK:=h9.keep hb0;have hlt:=hH.2.2;have ah5:=h9.2.2;have HS:=u (⟨hX0,hH1,TK,hr.below hb0 rfl⟩:Bx _ _ _∧Bx _ _ _∧Bx _ _ _∧Row _ 1 aZ x.sa x.sn x.sc ds);have HB:=u hb0;clear hX0 hb0 hr hH h9 hH1 TK
 cases hq:aV x.obj h.o.n
 all_goals
  have HQ:=u hq;clear hq;have hs:=HS.q;go_enter func132,ntmps132;go_wp2_with fail;refine(F9 h _ _).mono ?_;rintro e w1 ⟨rfl,hb1⟩;rw[HQ.q];clear hs;have hs:=I9 (⟨HS.q.1,HS.q.2.1,HS.q.2.2.1⟩:Bx _ _ _∧Bx _ _ _∧Bx _ _ _) hb1;have HR:=u (HS.q.2.2.2.below hb1 rfl);have HB:=u (HB.q.bD hb1);have Yl:=u HB.q.size;clear hb1;go_wp2_with fail
 ·go_ret
  exact⟨rfl,HB.q⟩
 ·refine(TJ h x.sa x.sn x.sc ds bh w1 hs.2.1 HR.q).mono ?_
  rintro e w2 ⟨rfl,hb2⟩;clear hs;go_wp2_with fail;go_ret;exact⟨rfl,HB.q.trans (hb2.mono Yl.q)⟩
theorem acH (h:HC) (x:aM) (ds:H L) (bh b9:M) (w:G) (hH:Bx w bh (aA h)) (h9:Bx w b9 #[.func (.func 124) #[] #[f (z ⟨bh,0,y⟩)]]) (hr:Row w 1 aZ x.sa x.sn x.sc ds):
  N g 134 #[xM x,f (z ⟨bh,0,y⟩),f (z ⟨b9,0,y⟩)] w (bC (I (aV x.pred h.p.n && aV x.obj h.o.n && fH h.t.n ds)) w):=by
 have hb0:Below w.heap.size w (w.alloc (C (Nj x) 81)):=(r _ _).alloc (j _) _;have hX0:=Bx.new w (Nj x) 81;have hH1:=hH.keep hb0;have TK:=h9.keep hb0;have hlt:=hH.2.2;have ah5:=h9.2.2;have HS:=u (⟨hX0,hH1,TK,hr.below hb0 rfl⟩:Bx _ _ _∧Bx _ _ _∧Bx _ _ _∧Row _ 1 aZ x.sa x.sn x.sc ds);have HB:=u hb0;clear hX0 hb0 hr hH h9 hH1 TK
 cases hq:aV x.pred h.p.n
 all_goals cases hq2:aV x.obj h.o.n
 all_goals
  have HQ:=u hq;have Yj:=u hq2;clear hq hq2;have hs:=HS.q;go_enter func134,ntmps134;go_wp2_with fail;refine(Xx h _ _).mono ?_;rintro e w1 ⟨rfl,hb1⟩;rw[HQ.q];clear hs;have hs:=I9 (⟨HS.q.1,HS.q.2.1,HS.q.2.2.1⟩:Bx _ _ _∧Bx _ _ _∧Bx _ _ _) hb1;have HT:=u hs;have HR:=u (HS.q.2.2.2.below hb1 rfl);have HB:=u (HB.q.bD hb1);have Yl:=u HB.q.size;clear hb1;go_wp2_with fail
 ·go_ret
  exact⟨rfl,HB.q⟩
 ·go_ret
  exact⟨rfl,HB.q⟩
 all_goals
  refine(F9 h _ _).mono ?_;rintro e w2 ⟨rfl,hb2⟩;rw[Yj.q];clear hs;have hs:=I9 HT.q hb2;have HR:=u (HR.q.below hb2 rfl);have HB:=u (HB.q.bD hb2);have Yl:=u HB.q.size;clear hb2;go_wp2_with fail
 ·go_ret
  exact⟨rfl,HB.q⟩
 ·refine(TJ h x.sa x.sn x.sc ds bh w2 hs.2.1 HR.q).mono ?_
  rintro e w3 ⟨rfl,hb3⟩;clear hs;go_wp2_with fail;go_ret;exact⟨rfl,HB.q.trans (hb3.mono Yl.q)⟩
theorem acI (h:HC) (x:Wa) (bh:M) (w:G) (hH:Bx w bh (aA h)):
  N g 136 #[xK x,f (z ⟨bh,0,y⟩)] w (bC (I (aV x.bR h.s.n && decide (0≤x.bits) && decide (x.bits≤15))) w):=by
 have hb0:Below w.heap.size w (w.alloc (C (Ng x) 83)):=(r _ _).alloc (j _) _;have hX0:=Bx.new w (Ng x) 83;have hH1:=hH.keep hb0;have hlt:=hH.2.2;have HS:=u (⟨hX0,hH1⟩:Bx _ _ _∧Bx _ _ _);have HB:=u hb0;clear hX0 hb0 hH hH1;obtain⟨R,hR⟩:∃R:Bool,R=(decide (0≤x.bits) && decide (x.bits≤15)):=⟨_,rfl⟩;rw[E,←hR];have HF:=u hR;clear hR
 cases hq:aV x.bR h.s.n
 all_goals
  have HQ:=u hq;clear hq;have hs:=HS.q;go_enter func136,ntmps136;go_wp2_with fail;refine(Yb h _ _).mono ?_;rintro e w1 ⟨rfl,hb1⟩;rw[HQ.q];clear hs;have hs:=WV HS.q hb1;have HB:=u (HB.q.bD hb1);clear hb1
  cases h1:decide (0≤x.bits)
  all_goals cases h2:decide (x.bits≤15)
  all_goals
   go_wp2_with fail;go_ret;exact⟨by rw[HF.q,h1,h2];rfl,HB.q⟩
attribute [local go_sem] Oper.semAt_some
theorem Same.setCell {A:M→Prop} (X:G) (b o:M) (v:S) (hb:¬A b):Same A X (X.setCell ⟨b,o,y⟩ v):=
 ⟨rfl,rfl,rfl,by simp[World.setCell],fun i hi _=>U _ _ _ _ (fun e=>by have e':i=b:=e;rw[e'] at hi;exact hb hi)⟩
theorem aO.setCell {A:M→Prop} (X:G) (b o:M) (v:S) (hb:¬A b):aO A X (X.setCell ⟨b,o,y⟩ v):=
 ⟨by simp[World.setCell],fun i hi _=>U _ _ _ _ (fun e=>by have e':i=b:=e;rw[e'] at hi;exact hb hi)⟩
theorem aO.bx {A:M→Prop} {X Y:G} {b:M} {cs:Array S} (k:aO A X Y) (h:Bx X b cs) (ha:A b):Bx Y b cs:=
 ⟨fun i=>(World.cell?_of_block (a:=⟨b,i,y⟩) (k.2 b ha h.2.2)).trans (h.1 i),fun i=>(World.frozen?_of_block (a:=⟨b,i,y⟩) (k.2 b ha h.2.2)).trans (h.2.1 i),T h.2.2 k.1⟩
theorem Bx.setOther {X:G} {b:M} {cs:Array S} (h:Bx X b cs) (c o:M) (v:S) (hb:b≠c):Bx (X.setCell ⟨c,o,y⟩ v) b cs:=
 (aO.setCell (A:=fun i=>i≠c) X c o v ak).bx h hb
def F3 (bw:M) (x:L × L) (args:Array S) (X:G):Prop:=
 ∃b o,b<bw∧args=#[.int .i64 x.1,f (z ⟨b,o,y⟩)]∧X.cell? ⟨b,o,y⟩=z (.int .i64 x.2)
section
variable (J Jx:H (L × L)→G→Prop) (D:M→Prop) (xs:H (L × L)) (B l bw:M)
def At (pre:H (L × L)) (X:G):Prop:=
 Bx X B #[.func (.yield l) #[] #[]]∧Bx X (B+2) #[.func (.func 138) #[] #[f (z ⟨B+1,0,y⟩),f (z ⟨B,0,y⟩)]]∧
 ((Bx X (B+1) #[I Q]∧J pre X)∨(Bx X (B+1) #[I O]∧∃p,p<+:xs∧Jx p X))
theorem Oy (hJ:∀s X Y,J s X→Same (fun i=>i<B∨B+3≤i) X Y→J s Y) (hJx:∀s X Y,Jx s X→Same (fun i=>i<B∨B+3≤i) X Y→Jx s Y)
  (hD:∀i,B≤i→i<B+3→D i)
  (hY:∀pre x args X,J pre X→pre++[x]<+:xs→F3 bw x args X→B+3≤X.heap.size→∀m,YieldAt Fence.wide m g l args X fun e Y=>
   (e= .returned (I Q)∧J (pre++[x]) Y∧aO D X Y)∨(e= .returned (I O)∧Jx (pre++[x]) Y∧aO D X Y))
  (pre:H (L × L)) (x:L × L) (b o:M) (X:G) (hpre:pre++[x]<+:xs) (hX:At J Jx xs B l pre X) (hlt:b<bw) (hc:X.cell? ⟨b,o,y⟩=z (.int .i64 x.2)) (m:M):
  CallsIn Fence.wide m g 138 #[.int .i64 x.1,f (z ⟨b,o,y⟩),f (z ⟨B+1,0,y⟩),f (z ⟨B,0,y⟩)] X fun e Y=>
   (∃v,e= .returned v)∧At J Jx xs B l (pre++[x]) Y∧aO (fun i=>D i∧¬(B≤i∧i<B+3)) X Y:=by
 obtain⟨h0,h2,h1⟩:=hX;have hc0:=h0.1;have hl0:=h0.2.2;rcases h1 with⟨h1,hj⟩|⟨h1,p,hp,hj⟩
 ·have hc1:=h1.1;have hl1:=h1.2.2
  obtain⟨fn,tmps,assign,body,hy,hR⟩:=hY pre x #[.int .i64 x.1,f (z ⟨b,o,y⟩)] X hj hpre ⟨b,o,hlt,rfl,hc⟩ h2.2.2 (m - 1);refine callsIn_of_wp func138 rfl trivial ?_ rfl;simp only[ntmps138,List.size_toArray,List.length_cons,List.length_nil,V,Z,Array.replicate_succ,Array.replicate_zero,List.push_toArray,List.append_toArray,List.nil_append,List.cons_append];have H0:=u h0;have H2:=u h2;have H1:=u h1
  gi_wp2
  refine⟨fun h=>(by cases h),?_⟩;refine hR.mono ?_;clear hR hy hj;rintro e Y (⟨rfl,hJ',hk⟩|⟨rfl,zC,hk⟩)
  ·have hy1:=hk.bx H1.q (hD _ ah ah);have hy0:=hk.bx H0.q (hD _ ah ah);have hy2:=hk.bx H2.q (hD _ ah ah)
   have hc1:=hy1.1;have hf1:=hy1.2.1
   gi_wp2
   go_end0
   exact⟨⟨_,rfl⟩,⟨hy0.setOther _ _ _ ah,hy2.setOther _ _ _ ah,.inl ⟨hy1.set1 _,hJ _ _ _ hJ' (Same.setCell _ _ _ _ ah)⟩⟩,
    (hk.mono (fun i hi _=>hi.1)).trans (aO.setCell _ _ _ _ ah)⟩
  ·have hy1:=hk.bx H1.q (hD _ ah ah);have hy0:=hk.bx H0.q (hD _ ah ah);have hy2:=hk.bx H2.q (hD _ ah ah)
   have hc1:=hy1.1;have hf1:=hy1.2.1
   gi_wp2
   go_end0
   exact⟨⟨_,rfl⟩,⟨hy0.setOther _ _ _ ah,hy2.setOther _ _ _ ah,.inr ⟨hy1.set1 _,_,hpre,hJx _ _ _ zC (Same.setCell _ _ _ _ ah)⟩⟩,
    (hk.mono (fun i hi _=>hi.1)).trans (aO.setCell _ _ _ _ ah)⟩
 ·have hc1:=h1.1;have hl1:=h1.2.2;have hf1:=h1.2.1
  have H0:=u h0;have H2:=u h2;have H1:=u h1;refine callsIn_of_wp func138 rfl trivial ?_ rfl;simp only[ntmps138,List.size_toArray,List.length_cons,List.length_nil,V,Z,Array.replicate_succ,Array.replicate_zero,List.push_toArray,List.append_toArray,List.nil_append,List.cons_append]
  gi_wp2
  refine⟨fun _ h=>(by cases h),?_⟩
  gi_wp2
  go_end0
  exact⟨⟨_,rfl⟩,⟨H0.q.setOther _ _ _ ah,H2.q.setOther _ _ _ ah,.inr ⟨H1.q.set1 _,p,hp,hJx _ _ _ hj (Same.setCell _ _ _ _ ah)⟩⟩,aO.setCell _ _ _ _ ah⟩
end
end Yd
namespace Yd
open Go Go.RowKit Go.Proofs Tryz
variable (J Jx:List (Int × Int)→World→Prop) (D:Nat→Prop) (xs:List (Int × Int)) (B l bw:Nat)
def Said (J Jx:List (Int × Int)→World→Prop) (D:Nat→Prop) (xs:List (Int × Int)) (B l:Nat) (pre:List (Int × Int)) (X:World) (e:Ending) (Y:World):Prop:=
 (∃v,e= .returned v)∧At J Jx xs B l pre Y∧aO (fun i=>D i∧¬(B≤i∧i<B+3)) X Y
def dh (v:kT):List (Int × Int):=if 0<v.k then [(0,v.t)] else []
theorem ZF (hJ:∀s X Y,J s X→Same (fun i=>i<B∨B+3≤i) X Y→J s Y) (hJx:∀s X Y,Jx s X→Same (fun i=>i<B∨B+3≤i) X Y→Jx s Y)
  (hD:∀i,B≤i→i<B+3→D i)
  (hY:∀pre x args X,J pre X→pre++[x]<+:xs→F3 bw x args X→B+3≤X.heap.size→∀m,YieldAt Fence.wide m Tryz.prog l args X fun e Y=>
   (e= .returned (.bool true)∧J (pre++[x]) Y∧aO D X Y)∨(e= .returned (.bool false)∧Jx (pre++[x]) Y∧aO D X Y))
  (pre:List (Int × Int)) (v:kT) (b o:Nat) (X:World) (hpre:pre++dh v<+:xs) (hX:At J Jx xs B l pre X) (hlt:b<bw) (hc0:X.cell? ⟨b,o,none⟩=some (.int .i64 v.t)) (hc1:X.cell? ⟨b,o+1,none⟩=some (.int .i64 v.k)):
  Calls Tryz.prog 139 #[.pointer (some ⟨b,o,none⟩),.pointer (some ⟨B+2,0,none⟩)] X (Said J Jx D xs B l (pre++dh v) X):=by
 by_cases hk:0<v.k
 ·have hv:dh v=[(0,v.t)]:=by simp[dh,hk]
  rw[hv] at hpre ⊢;have HX:=hid hX;go_enter func139,ntmps139;go_wp2_with fail;have hx2:=hX.2.1;have Tq:At J Jx xs B l pre X.drew:=⟨hX.1.drew,hX.2.1.drew,by
   rcases hX.2.2 with⟨h1,hj⟩|⟨h1,p,hp,hj⟩
   ·exact .inl ⟨h1.drew,hJ _ _ _ hj (Same.of_below ((Below.refl X.heap.size X).drew) (fun i _ hi=>hi))⟩
   ·exact .inr ⟨h1.drew,p,hp,hJx _ _ _ hj (Same.of_below ((Below.refl X.heap.size X).drew) (fun i _ hi=>hi))⟩⟩
  have HS:=hid (callsIn_wide.1 (Oy J Jx D xs B l bw hJ hJx hD hY pre (0,v.t) b o X.drew hpre Tq hlt hc0 3));clear Tq;refine aP [(0,true),(1,true),(2,true),(3,true),(4,false)] (fun W'=>Bx W' (B+2) #[.func (.func 138) #[] #[.pointer (some ⟨B+1,0,none⟩),.pointer (some ⟨B,0,none⟩)]]) au au (by intro d v c a w h;cases d <;> exact h) (hx2.drew) ?_;refine qO ?_;refine dD rfl rfl (fun K hK=>?_);go_simp;refine HS.q.mono ?_;rintro e Y ⟨⟨r,rfl⟩,hA,hk⟩;refine hK _ _ hA.2.1 ?_;clear hK K;refine cB ?_;go_wp2_with fail
  go_end0
  exact⟨⟨_,rfl⟩,hA,(aO.of_below ((Below.refl X.heap.size X).drew) (fun i _ hi=>hi)).trans hk⟩
 ·have hv:dh v=[]:=by simp[dh,hk]
  rw[hv,List.append_nil];go_enter func139,ntmps139;go_wp2_with fail
  go_end0
  exact⟨⟨_,rfl⟩,hX,aO.refl _⟩
end Yd
