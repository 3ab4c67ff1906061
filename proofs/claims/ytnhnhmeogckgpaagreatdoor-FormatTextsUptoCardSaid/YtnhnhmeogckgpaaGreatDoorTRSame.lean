import Derived.Test.YtnhnhmeogckgpaaGreatDoorTSame
import Derived.Laws.EntriesVeiled
import Derived.Test.YtnhnhmeogckgpaaGreatDoorTNm4
set_option linter.all false
set_option maxRecDepth 200000
set_option maxHeartbeats 8000000
namespace Yd
open Bool renaming and_assoc→y,false→J,true→M
open Nat renaming le_refl→f,lt_of_lt_of_le→N
open Option renaming none→u,some→z
open Go Go.RowKit Go.Proofs Tryz
open Below renaming refl→j,heap_setCell→O
open Go renaming World→D,Calls→E,callFunc→I,Value→P
open Go.Obj renaming cells→r
open Go.Value renaming pointer→l,bool→G
open Tryz renaming prog→g
open Yd renaming hid→m
open _root_ renaming List→C,Nat→H,Int→L
def dZ (e:EvC) (scan:C Sn):Bool:=
 if e.kind=1 then decide (e.obj=0) && decide (e.v=⟨0,0⟩) && decide (e.pred=0) && decide (scan=[])
 else if e.kind=2∨e.kind=3 then decide (e.bU=0) && decide (e.lvl=0) && decide (e.pred=0) && decide (scan=[])
 else if e.kind=4 then decide (e.bU=0) && decide (e.lvl=0) && decide (e.obj=0) && decide (e.v=⟨0,0⟩)
 else decide (e.bU=0) && decide (e.lvl=0) && decide (e.obj=0) && decide (e.v=⟨0,0⟩) && decide (e.pred=0) && decide (scan=[])
def hasB (nt ns no np:H) (e:EvC) (scan:C Sn):Bool:=
 if e.kind=1 then aT e.bU ns && dJ e.lvl
 else if e.kind=2 then aT e.obj no && ig e.v nt && decide (e.v.t=e.t) && decide (0<e.v.k)
 else if e.kind=3 then aT e.obj no && ig e.v nt
 else if e.kind=4 then aT e.pred np && decide (scan.length≤40) && scan.all (jJ nt no)
 else M
def gP (nt ns no np:H) (e:EvC) (scan:C Sn):Bool:=decide (1≤e.kind) && decide (e.kind<7) && aT e.t nt && hasB nt ns no np e scan && dZ e scan
@[reducible] def Jg (n:H):Array P:=#[.nilFunc,.func (.func 195) #[] #[l (z ⟨n+1,0,u⟩),l (z ⟨n,0,u⟩)],.func (.func 196) #[] #[l (z ⟨n+1,0,u⟩),l (z ⟨n,0,u⟩)],.func (.func 198) #[] #[l (z ⟨n+1,0,u⟩),l (z ⟨n,0,u⟩)],.func (.func 199) #[] #[l (z ⟨n,0,u⟩),l (z ⟨n+1,0,u⟩)],.func (.func 202) #[] #[],.func (.func 203) #[] #[]]
theorem p9 (h:HC) (e:EvC) (scan bl:C Sn) (B:EvC) (R:Bool) (F k:H) (caps:Array P) (W:D) (hr:Row W 3 bV e.sa e.sn e.sc scan) (ht:aT e.t h.t.n=M) (hk:e.kind=(k:L)) (hk1:1≤k) (hk7:k<7)
  (hF:(Jg W.heap.size)[k]?=z (.func (.func F) #[] caps)) (eg:∀args w,(I F args).run g w= .ok (.enter F args) w) (hcall:∀w1,Below W.heap.size W w1→Bx w1 (W.heap.size+1) (bg e)→Bx w1 W.heap.size (aC h)→E g F caps w1 (pG (fO B) (G R) w1))
  (hbl:∀W',Below W.heap.size W W'→Row W' 3 bV B.sa B.sn B.sc bl) (hfin:gP h.t.n h.s.n h.o.n h.p.n e scan=(R && (dK {B with kind:=k,t:=e.t} e && decide (bl=scan)))):
  E g 130 #[eF h,fO e] W (aW (G (gP h.t.n h.s.n h.o.n h.p.n e scan)) W):=by
 rw[hfin];obtain⟨kind,t,bU,lvl,obj,v,pred,sa,sn,sc⟩:=e;simp only at hk hr ht hcall;subst hk;obtain⟨R2,hR2⟩:∃R2:Bool,R2=(dK {B with kind:=k,t:=t} ⟨k,t,bU,lvl,obj,v,pred,sa,sn,sc⟩ && decide (bl=scan)):=⟨_,rfl⟩;show E _ _ _ _ (aW (G (R && (dK {B with kind:=k,t:=t} ⟨k,t,bU,lvl,obj,v,pred,sa,sn,sc⟩ && decide (bl=scan)))) W);rw[←hR2];have nW:=m hR2;have HF:=m hF;have d9:=m hcall;have Al:=m hbl;have HT:=m ht;have HR:=m hr;have g1:¬((k:L)<1):=by omega
 have g7:(k:L)<7:=by omega
 clear hR2 ht hr hfin hF hcall hbl hk1 hk7;have hE0:=((Bx.new (W.alloc (r (aC h) 41)) (bg ⟨k,t,bU,lvl,obj,v,pred,sa,sn,sc⟩) 65).alloc (r (Jg W.heap.size) 253));have hH0:=(((Bx.new W (aC h) 41).alloc (r (bg ⟨k,t,bU,lvl,obj,v,pred,sa,sn,sc⟩) 65)).alloc (r (Jg W.heap.size) 253));have hM0:=(Bx.new ((W.alloc (r (aC h) 41)).alloc (r (bg ⟨k,t,bU,lvl,obj,v,pred,sa,sn,sc⟩) 65)) (Jg W.heap.size) 253);have hB0:=(((j W.heap.size W).alloc (f _) (r (aC h) 41)).alloc ak (r (bg ⟨k,t,bU,lvl,obj,v,pred,sa,sn,sc⟩) 65)).alloc (by simp;omega) (r (Jg W.heap.size) 253);simp only[World.size_alloc] at hE0 hH0 hM0;have F8:=m hE0;have HH0:=m hH0;have HM0:=m hM0;have HB0:=m hB0;clear hE0 hH0 hM0 hB0;go_enter func130,ntmps130;go_wp2_with fail;refine(Im h _ _).mono ?_;rintro e w1 ⟨rfl,hb1⟩;rw[HT.q];have xI:=m (F8.q.keep hb1);have HH1:=m (HH0.q.keep hb1);have Mj:=m (HM0.q.keep hb1);have Xj:=m (HB0.q.bq hb1);have hE1:=xI.q;have hcM:=(Mj.q.1 k).trans HF.q;clear hb1;go_wp2_with fail;refine(d9.q w1 Xj.q xI.q HH1.q).mono ?_;rintro e w2 ⟨rfl,hb2⟩;have HR:=m (HR.q.below (Xj.q.bq hb2) rfl);have HE2:=xI.q.keep hb2;have Jh:=m (Xj.q.bq hb2);have HL:=m (N xI.q.2.2 hb2.size);have HS:Hid (∀W',Below w2.heap.size w2 W'→Bx W' (W.heap.size+1) (bg ⟨k,t,bU,lvl,obj,v,pred,sa,sn,sc⟩)):=fun W' hb=>HE2.keep hb
 clear hb2 hE1 hcM HE2 xI Mj HH1 F8 HH0 HM0 HB0 Xj
 cases R
 all_goals
  go_wp2_with fail;have HX:=m ((Bx.new w2 (bg (B)) 65).drew);have HB:=m (((j w2.heap.size w2).alloc (f _) (r (bg (B)) 65)).drew);refine bY [(0,M),(1,M),(2,M),(3,M),(4,M),(5,J),(6,M),(7,J)] (fun W'=>Bx W' (W.heap.size+1) (bg ⟨k,t,bU,lvl,obj,v,pred,sa,sn,sc⟩)) au au (by intro d v c a w h;cases d <;> exact h) (HS.q _ HB.q) ?_;refine qO ?_;have hX:=HX.q;refine iH rfl rfl (fun K hK=>?_);go_simp;refine hK _ _ (HS.q _ (((j _ _).alloc (f _) _).drew)) ?_;clear hK K;refine qO ?_;refine iH rfl rfl (fun K hK=>?_);go_simp;refine hK _ _ (HS.q _ (((j _ _).alloc (f _) _).drew)) ?_;clear hK K;clear hX HX;have hS2:=HS.q _ (((j w2.heap.size w2).alloc (f _) (r (bg {B with kind:=k,t:=t}) 65)).drew);have HL2:=HL.q;refine ja ?_;go_wp2_with fail
 ·go_ret
  exact⟨rfl,Jh.q.trans ((((j w2.heap.size w2).alloc (f _) (r (bg {B with kind:=k,t:=t}) 65)).drew).mono Jh.q.size)⟩
 ·refine(Mk {B with kind:=k,t:=t} ⟨k,t,bU,lvl,obj,v,pred,sa,sn,sc⟩ bl scan _ (Al.q _ (Jh.q.trans ((((j w2.heap.size w2).alloc (f _) (r (bg {B with kind:=k,t:=t}) 65)).drew).mono Jh.q.size))) (HR.q.below (((j w2.heap.size w2).alloc (f _) (r (bg {B with kind:=k,t:=t}) 65)).drew) rfl)).mono ?_
  rintro e w3 ⟨rfl,hb3⟩;rw[show(dK {B with kind:=k,t:=t} ⟨k,t,bU,lvl,obj,v,pred,sa,sn,sc⟩ && decide (bl=scan))=R2 from by simp[nW.q]];go_wp2_with fail;go_ret;exact⟨rfl,Jh.q.trans (((((j w2.heap.size w2).alloc (f _) (r (bg {B with kind:=k,t:=t}) 65)).drew).mono Jh.q.size).trans (hb3.mono (by have:=Jh.q.size;simp;omega)))⟩
theorem aaz:∀args w,(I 195 args).run g w= .ok (.enter 195 args) w:=enters_of func195 au rfl
theorem aaA:∀args w,(I 196 args).run g w= .ok (.enter 196 args) w:=enters_of func196 au rfl
theorem aaB:∀args w,(I 198 args).run g w= .ok (.enter 198 args) w:=enters_of func198 au rfl
theorem aaC:∀args w,(I 199 args).run g w= .ok (.enter 199 args) w:=enters_of func199 au rfl
theorem aaD:∀args w,(I 202 args).run g w= .ok (.enter 202 args) w:=enters_of func202 au rfl
theorem aaE:∀args w,(I 203 args).run g w= .ok (.enter 203 args) w:=enters_of func203 au rfl
theorem Ua (h:HC) (e:EvC) (_scan:C Sn) (W:D) (h1:e.kind<1):
  E g 130 #[eF h,fO e] W (aW (G J) W):=by
 obtain⟨kind,t,bU,lvl,obj,v,pred,sa,sn,sc⟩:=e;skip;go_enter func130,ntmps130;go_wp2_with fail;go_ret;exact⟨rfl,((((j W.heap.size W).alloc (f _) _).alloc ak _).alloc (by simp;omega) _)⟩
theorem Ub (h:HC) (e:EvC) (_scan:C Sn) (W:D) (h1:¬e.kind<1) (h7:7≤e.kind):
  E g 130 #[eF h,fO e] W (aW (G J) W):=by
 obtain⟨kind,t,bU,lvl,obj,v,pred,sa,sn,sc⟩:=e;skip;go_enter func130,ntmps130;go_wp2_with fail;go_ret;exact⟨rfl,((((j W.heap.size W).alloc (f _) _).alloc ak _).alloc (by simp;omega) _)⟩
theorem Uc (h:HC) (e:EvC) (_scan:C Sn) (W:D) (h1:¬e.kind<1) (h7:¬7≤e.kind) (ht:aT e.t h.t.n=J):
  E g 130 #[eF h,fO e] W (aW (G J) W):=by
 obtain⟨kind,t,bU,lvl,obj,v,pred,sa,sn,sc⟩:=e;have HT:=m ht;clear ht;go_enter func130,ntmps130
 go_wp2_with (go_at_call 127;refine(Im h _ _).mono ?_;rintro e w1 ⟨rfl,hb1⟩;rw[HT.q])
 go_ret;exact⟨rfl,((((j W.heap.size W).alloc (f _) _).alloc ak _).alloc (by simp;omega) _).trans (hb1.mono (by simp;omega))⟩
theorem Qz (h:HC) (e:EvC) (scan:C Sn) (W:D) (hr:Row W 3 bV e.sa e.sn e.sc scan):
  E g 130 #[eF h,fO e] W (aW (G (gP h.t.n h.s.n h.o.n h.p.n e scan)) W):=by
 by_cases h1:e.kind<1
 ·have:gP h.t.n h.s.n h.o.n h.p.n e scan=J:=by simp[gP,Int.not_le.2 h1]
  rw[this];exact Ua h e scan W h1
 by_cases h7:7≤e.kind
 ·have:gP h.t.n h.s.n h.o.n h.p.n e scan=J:=by simp[gP,Int.not_lt.2 h7]
  rw[this];exact Ub h e scan W h1 h7
 cases ht:aT e.t h.t.n
 ·have:gP h.t.n h.s.n h.o.n h.p.n e scan=J:=by simp[gP,ht]
  rw[this];exact Uc h e scan W h1 h7 ht
 have hl:=hr.len;have hq:((e.sn:L)≤40)=(e.sn≤40):=propext ah;have hk:e.kind=1∨e.kind=2∨e.kind=3∨e.kind=4∨e.kind=5∨e.kind=6:=by omega
 have hn:∀W',Below W.heap.size W W'→Row W' 3 bV u 0 0 ([]:C Sn):=fun _ _=>Row.iE
 rcases hk with hk|hk|hk|hk|hk|hk
 ·exact p9 h e scan [] (N8 e) _ _ 1 _ W hr ht hk ah ah rfl aaz (fun w1 _ h1 h2=>aaF h e _ _ w1 h1 h2) hn (by simp[gP,hasB,dZ,dK,ht,hk,eq_comm (a:=(0:L)),eq_comm (a:=(⟨0,0⟩:lg)),eq_comm (a:=([]:C Sn)),y])
 ·exact p9 h e scan [] (N9 e) _ _ 2 _ W hr ht hk ah ah rfl aaA (fun w1 _ h1 h2=>aaG h e _ _ w1 h1 h2) hn (by simp[gP,hasB,dZ,dK,ht,hk,eq_comm (a:=(0:L)),eq_comm (a:=([]:C Sn)),y,Bool.beq_eq_decide_eq])
 ·exact p9 h e scan [] (Oa e) _ _ 3 _ W hr ht hk ah ah rfl aaB (fun w1 _ h1 h2=>aaH h e _ _ w1 h1 h2) hn (by simp[gP,hasB,dZ,dK,ht,hk,eq_comm (a:=(0:L)),eq_comm (a:=([]:C Sn)),y])
 ·exact p9 h e scan scan (Ob e) _ _ 4 _ W hr ht hk ah ah rfl aaC (fun w1 hb h1 h2=>aaI h e _ _ w1 h1 h2 scan (hr.below hb rfl)) (fun W' hb=>hr.below hb rfl) (by simp[gP,hasB,dZ,dK,ht,hk,hl,hq,eq_comm (a:=(0:L)),eq_comm (a:=(⟨0,0⟩:lg)),y])
 ·exact p9 h e scan [] BZ M _ 5 _ W hr ht hk ah ah rfl aaD (fun w1 _ _ _=>aaJ w1) hn (by simp[gP,hasB,dZ,dK,ht,hk,eq_comm (a:=(0:L)),eq_comm (a:=(⟨0,0⟩:lg)),eq_comm (a:=([]:C Sn)),y])
 ·exact p9 h e scan [] BZ M _ 6 _ W hr ht hk ah ah rfl aaE (fun w1 _ _ _=>aaK w1) hn (by simp[gP,hasB,dZ,dK,ht,hk,eq_comm (a:=(0:L)),eq_comm (a:=(⟨0,0⟩:lg)),eq_comm (a:=([]:C Sn)),y])
def eP (nt:H) (ds:C L):Bool:=decide (ds.length≤300) && ds.all (fun x=>aT x nt)
theorem YM (h:HC) (x:L) (bh:H) (w:D) (hH:Bx w bh (aC h)):E g 126 #[.int .i64 x,l (z ⟨bh,0,u⟩)] w (aW (G (aT x h.t.n)) w):=by
 go_enter func126,ntmps126
 go_wp2_with (go_at_call 127;refine(Im h _ _).mono ?_;rintro e w1 ⟨rfl,hb1⟩)
 go_ret;exact⟨rfl,hb1⟩
theorem QA (h:HC) (a:Option Addr) (n c:H) (ds:C L) (bh:H) (w:D) (hH:Bx w bh (aC h)) (hr:Row w 1 aQ a n c ds):
  E g 124 #[.slice a n c,l (z ⟨bh,0,u⟩)] w (aW (G (eP h.t.n ds)) w):=by
 have hA:=aaL a n c 126 #[l (z ⟨bh,0,u⟩)] ds (fun x=>aT x h.t.n) w hr call126
  (fun x _ W2 hW2=>YM h x bh W2 (hH.keep hW2))
 have hlen:=hr.len;have HA:=m hA;have HLEN:=m hlen;clear hA hH hr hlen;by_cases h3:(n:L)≤300
 ·have hq:eP h.t.n ds=ds.all (fun x=>aT x h.t.n):=by simp[eP,HLEN.q];omega
  rw[hq];have HQ:=m hq;clear hq;go_enter func124,ntmps124
  go_wp2_with (go_at_call 125;refine HA.q.mono ?_;rintro e w1 ⟨rfl,hb1⟩)
  go_ret;exact⟨rfl,hb1⟩
 ·have hq:eP h.t.n ds=J:=by simp[eP,HLEN.q];omega
  rw[hq];clear hq;go_enter func124,ntmps124;go_wp2_with fail;go_ret;exact⟨rfl,j _ _⟩
theorem aaM (h:HC) (e:EvC) (scan:C Sn) (bh:H) (w:D) (hH:Bx w bh (aC h)) (hr:Row w 3 bV e.sa e.sn e.sc scan):
  E g 129 #[fO e,l (z ⟨bh,0,u⟩)] w (aW (G (gP h.t.n h.s.n h.o.n h.p.n e scan)) w):=by
 have hb0:Below w.heap.size w (w.alloc (r (bg e) 65)):=(j _ _).alloc (f _) _;have hE:=Qz h e scan _ (hr.below hb0 rfl);have hH1:=hH.keep hb0;have hlt:=hH.2.2;have HE:=m hE;have HB:=m hb0;clear hE hb0 hr hH;go_enter func129,ntmps129
 go_wp2_with (go_at_call 130;refine HE.q.mono ?_;rintro e w1 ⟨rfl,hb1⟩)
 go_ret;exact⟨rfl,HB.q.bq hb1⟩
theorem aaN (h:HC) (x:aH) (ds:C L) (bh b9:H) (w:D) (hH:Bx w bh (aC h)) (h9:Bx w b9 #[.func (.func 124) #[] #[l (z ⟨bh,0,u⟩)]]) (hr:Row w 1 aQ x.sa x.sn x.sc ds):
  E g 132 #[vS x,l (z ⟨bh,0,u⟩),l (z ⟨b9,0,u⟩)] w (aW (G (aT x.obj h.o.n && eP h.t.n ds)) w):=by
 have hb0:Below w.heap.size w (w.alloc (r (Ml x) 79)):=(j _ _).alloc (f _) _;have hX0:=Bx.new w (Ml x) 79;have hH1:=hH.keep hb0;have QB:=h9.keep hb0;have hlt:=hH.2.2;have ahB:=h9.2.2;have HS:=m (⟨hX0,hH1,QB,hr.below hb0 rfl⟩:Bx _ _ _∧Bx _ _ _∧Bx _ _ _∧Row _ 1 aQ x.sa x.sn x.sc ds);have HB:=m hb0;clear hX0 hb0 hr hH h9 hH1 QB
 cases hq:aT x.obj h.o.n
 all_goals
  have HQ:=m hq;clear hq;have hs:=HS.q;go_enter func132,ntmps132;go_wp2_with fail;refine(Et h _ _).mono ?_;rintro e w1 ⟨rfl,hb1⟩;rw[HQ.q];clear hs;have hs:=Io (⟨HS.q.1,HS.q.2.1,HS.q.2.2.1⟩:Bx _ _ _∧Bx _ _ _∧Bx _ _ _) hb1;have HR:=m (HS.q.2.2.2.below hb1 rfl);have HB:=m (HB.q.bq hb1);have Xk:=m HB.q.size;clear hb1;go_wp2_with fail
 ·go_ret
  exact⟨rfl,HB.q⟩
 ·refine(QA h x.sa x.sn x.sc ds bh w1 hs.2.1 HR.q).mono ?_
  rintro e w2 ⟨rfl,hb2⟩;clear hs;go_wp2_with fail;go_ret;exact⟨rfl,HB.q.trans (hb2.mono Xk.q)⟩
theorem aaO (h:HC) (x:aI) (ds:C L) (bh b9:H) (w:D) (hH:Bx w bh (aC h)) (h9:Bx w b9 #[.func (.func 124) #[] #[l (z ⟨bh,0,u⟩)]]) (hr:Row w 1 aQ x.sa x.sn x.sc ds):
  E g 134 #[vT x,l (z ⟨bh,0,u⟩),l (z ⟨b9,0,u⟩)] w (aW (G (aT x.pred h.p.n && aT x.obj h.o.n && eP h.t.n ds)) w):=by
 have hb0:Below w.heap.size w (w.alloc (r (Mq x) 81)):=(j _ _).alloc (f _) _;have hX0:=Bx.new w (Mq x) 81;have hH1:=hH.keep hb0;have QB:=h9.keep hb0;have hlt:=hH.2.2;have ahB:=h9.2.2;have HS:=m (⟨hX0,hH1,QB,hr.below hb0 rfl⟩:Bx _ _ _∧Bx _ _ _∧Bx _ _ _∧Row _ 1 aQ x.sa x.sn x.sc ds);have HB:=m hb0;clear hX0 hb0 hr hH h9 hH1 QB
 cases hq:aT x.pred h.p.n
 all_goals cases hq2:aT x.obj h.o.n
 all_goals
  have HQ:=m hq;have Xl:=m hq2;clear hq hq2;have hs:=HS.q;go_enter func134,ntmps134;go_wp2_with fail;refine(Xm h _ _).mono ?_;rintro e w1 ⟨rfl,hb1⟩;rw[HQ.q];clear hs;have hs:=Io (⟨HS.q.1,HS.q.2.1,HS.q.2.2.1⟩:Bx _ _ _∧Bx _ _ _∧Bx _ _ _) hb1;have HT:=m hs;have HR:=m (HS.q.2.2.2.below hb1 rfl);have HB:=m (HB.q.bq hb1);have Xk:=m HB.q.size;clear hb1;go_wp2_with fail
 ·go_ret
  exact⟨rfl,HB.q⟩
 ·go_ret
  exact⟨rfl,HB.q⟩
 all_goals
  refine(Et h _ _).mono ?_;rintro e w2 ⟨rfl,hb2⟩;rw[Xl.q];clear hs;have hs:=Io HT.q hb2;have HR:=m (HR.q.below hb2 rfl);have HB:=m (HB.q.bq hb2);have Xk:=m HB.q.size;clear hb2;go_wp2_with fail
 ·go_ret
  exact⟨rfl,HB.q⟩
 ·refine(QA h x.sa x.sn x.sc ds bh w2 hs.2.1 HR.q).mono ?_
  rintro e w3 ⟨rfl,hb3⟩;clear hs;go_wp2_with fail;go_ret;exact⟨rfl,HB.q.trans (hb3.mono Xk.q)⟩
theorem aaP (h:HC) (x:Wa) (bh:H) (w:D) (hH:Bx w bh (aC h)):
  E g 136 #[vU x,l (z ⟨bh,0,u⟩)] w (aW (G (aT x.bU h.s.n && decide (0≤x.bits) && decide (x.bits≤15))) w):=by
 have hb0:Below w.heap.size w (w.alloc (r (Mr x) 83)):=(j _ _).alloc (f _) _;have hX0:=Bx.new w (Mr x) 83;have hH1:=hH.keep hb0;have hlt:=hH.2.2;have HS:=m (⟨hX0,hH1⟩:Bx _ _ _∧Bx _ _ _);have HB:=m hb0;clear hX0 hb0 hH hH1;obtain⟨R,hR⟩:∃R:Bool,R=(decide (0≤x.bits) && decide (x.bits≤15)):=⟨_,rfl⟩;rw[y,←hR];have HF:=m hR;clear hR
 cases hq:aT x.bU h.s.n
 all_goals
  have HQ:=m hq;clear hq;have hs:=HS.q;go_enter func136,ntmps136;go_wp2_with fail;refine(Xn h _ _).mono ?_;rintro e w1 ⟨rfl,hb1⟩;rw[HQ.q];clear hs;have hs:=Oc HS.q hb1;have HB:=m (HB.q.bq hb1);clear hb1
  cases h1:decide (0≤x.bits)
  all_goals cases h2:decide (x.bits≤15)
  all_goals
   go_wp2_with fail;go_ret;exact⟨by rw[HF.q,h1,h2];rfl,HB.q⟩
attribute [local go_sem] Oper.semAt_some
theorem Same.setCell {A:H→Prop} (X:D) (b o:H) (v:P) (hb:¬A b):Same A X (X.setCell ⟨b,o,u⟩ v):=
 ⟨rfl,rfl,rfl,by simp[World.setCell],fun i hi _=>O _ _ _ _ (fun e=>by have e':i=b:=e;rw[e'] at hi;exact hb hi)⟩
theorem aP.setCell {A:H→Prop} (X:D) (b o:H) (v:P) (hb:¬A b):aP A X (X.setCell ⟨b,o,u⟩ v):=
 ⟨by simp[World.setCell],fun i hi _=>O _ _ _ _ (fun e=>by have e':i=b:=e;rw[e'] at hi;exact hb hi)⟩
theorem aP.bx {A:H→Prop} {X Y:D} {b:H} {cs:Array P} (k:aP A X Y) (h:Bx X b cs) (ha:A b):Bx Y b cs:=
 ⟨fun i=>(World.cell?_of_block (a:=⟨b,i,u⟩) (k.2 b ha h.2.2)).trans (h.1 i),fun i=>(World.frozen?_of_block (a:=⟨b,i,u⟩) (k.2 b ha h.2.2)).trans (h.2.1 i),N h.2.2 k.1⟩
theorem Bx.setOther {X:D} {b:H} {cs:Array P} (h:Bx X b cs) (c o:H) (v:P) (hb:b≠c):Bx (X.setCell ⟨c,o,u⟩ v) b cs:=
 (aP.setCell (A:=fun i=>i≠c) X c o v ak).bx h hb
end Yd
namespace Yd
open Go Go.RowKit Go.Proofs
def lu (v:lg):List (Int × Int):=if 0<v.k then [(0,v.t)] else []
end Yd
