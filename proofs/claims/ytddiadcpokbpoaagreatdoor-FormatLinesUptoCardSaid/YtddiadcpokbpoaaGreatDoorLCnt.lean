import Derived.Test.YtddiadcpokbpoaaGreatDoorLHist3
import Derived.Laws.EntriesVeiled
import Derived.Test.YtddiadcpokbpoaaGreatDoorLFm1
import Derived.WideKeyPair
import Derived.WideKeyEntry
set_option linter.all false
set_option maxRecDepth 200000
set_option maxHeartbeats 8000000
namespace Yd
open Bool renaming false->m
open Option renaming none->r,some->z
open Go Go.RowKit Go.Proofs Tryz
open Below renaming refl->d,heap_setCell->I
open Go renaming World->y,Calls->C,callFunc->G,Value->L
open Go.Obj renaming cells->l
open Go.Value renaming pointer->j,bool->D
open Tryz renaming prog->f
open Yd renaming hid->g
open _root_ renaming List->u,Nat->E,Int->H,Bool->J
def dM (a b:EvC):J:=decide (a.kind=b.kind) && decide (a.t=b.t) && decide (a.dG=b.dG) && decide (a.lvl=b.lvl) && decide (a.obj=b.obj) && decide (a.v=b.v) && decide (a.pred=b.pred)
theorem ac2 (a b:EvC)(xs ys:u Sn)(w:y)(hx:Row w 3 bS a.sa a.sn a.sc xs)(hy:Row w 3 bS b.sa b.sn b.sc ys):
  C f 123 #[je a,je b] w (cK (D (dM a b && decide (xs=ys))) w):=by
 obtain⟨R,hR0⟩:∃R:J,R=(dM a b && decide (xs=ys)):=⟨_,rfl⟩;rw[<-hR0];have HF:=g hR0;have HX:=g hx;have HY:=g hy;clear hR0 hx hy;obtain⟨kind,t,dG,lvl,obj,v,pred,sa,sn,sc⟩:=a;obtain⟨kind',t',Ny,Nz,NA,v',JS,sa',Vd,sc'⟩:=b;by_cases h:¬kind=kind'
 .have hR:R=m:=by rw[HF.q];simp[dM,h]
  subst hR;have hne:(kind==kind')=m:=aR.2 h;clear h;go_enter func123,ntmps123;go_wp2_with fail;go_ret;exact⟨rfl,((d _ _).alloc (aA _) _).alloc au _⟩
 have h:=sw.1 h;subst h;by_cases h:¬t=t'
 .have hR:R=m:=by rw[HF.q];simp[dM,h]
  subst hR;have hne:(t==t')=m:=aR.2 h;clear h;go_enter func123,ntmps123;go_wp2_with fail;go_ret;exact⟨rfl,((d _ _).alloc (aA _) _).alloc au _⟩
 have h:=sw.1 h;subst h;by_cases h:¬dG=Ny
 .have hR:R=m:=by rw[HF.q];simp[dM,h]
  subst hR;have hne:(dG==Ny)=m:=aR.2 h;clear h;go_enter func123,ntmps123;go_wp2_with fail;go_ret;exact⟨rfl,((d _ _).alloc (aA _) _).alloc au _⟩
 have h:=sw.1 h;subst h;by_cases h:¬lvl=Nz
 .have hR:R=m:=by rw[HF.q];simp[dM,h]
  subst hR;have hne:(lvl==Nz)=m:=aR.2 h;clear h;go_enter func123,ntmps123;go_wp2_with fail;go_ret;exact⟨rfl,((d _ _).alloc (aA _) _).alloc au _⟩
 have h:=sw.1 h;subst h;by_cases h:¬obj=NA
 .have hR:R=m:=by rw[HF.q];simp[dM,h]
  subst hR;have hne:(obj==NA)=m:=aR.2 h;clear h;go_enter func123,ntmps123;go_wp2_with fail;go_ret;exact⟨rfl,((d _ _).alloc (aA _) _).alloc au _⟩
 have h:=sw.1 h;subst h;by_cases h:¬v=v'
 .have hR:R=m:=by rw[HF.q];simp[dM,h]
  subst hR;have hne:=Q8 v v';rw[aX h] at hne;clear h;go_enter func123,ntmps123;go_wp2_with fail;go_ret;exact⟨rfl,((d _ _).alloc (aA _) _).alloc au _⟩
 have h:=sw.1 h;subst h;by_cases h:¬pred=JS
 .have hR:R=m:=by rw[HF.q];simp[dM,h]
  subst hR;have hne:(pred==JS)=m:=aR.2 h;clear h;go_enter func123,ntmps123;go_wp2_with fail;go_ret;exact⟨rfl,((d _ _).alloc (aA _) _).alloc au _⟩
 have h:=sw.1 h;subst h;have hR:R=decide (xs=ys):=by rw[HF.q];simp[dM]
 subst hR;have HB:=g (((d w.1.size w).alloc (aA _) (l (aY ⟨kind,t,dG,lvl,obj,v,pred,sa,sn,sc⟩) 47)).alloc au (l (aY ⟨kind,t,dG,lvl,obj,v,pred,sa',Vd,sc'⟩) 47));have HC:=g (ank sa sa' sn sc Vd sc' xs ys _ (HX.q.below HB.q rfl) (HY.q.below HB.q rfl));go_enter func123,ntmps123
 go_wp2_with (go_at_call 142;refine HC.q.mono ?_;rintro e w1 ⟨rfl,hb1⟩)
 go_ret;exact⟨rfl,HB.q.trans (hb1.mono (by simp;omega))⟩
def gG (e:EvC)(scan:u Sn):J:=
 if e.kind=1 then decide (e.obj=0) && decide (e.v=⟨0,0⟩) && decide (e.pred=0) && decide (scan=[])
 else if e.kind=2\/e.kind=3 then decide (e.dG=0) && decide (e.lvl=0) && decide (e.pred=0) && decide (scan=[])
 else if e.kind=4 then decide (e.dG=0) && decide (e.lvl=0) && decide (e.obj=0) && decide (e.v=⟨0,0⟩)
 else decide (e.dG=0) && decide (e.lvl=0) && decide (e.obj=0) && decide (e.v=⟨0,0⟩) && decide (e.pred=0) && decide (scan=[])
def hasB (nt ns no np:E)(e:EvC)(scan:u Sn):J:=
 if e.kind=1 then bC e.dG ns && fF e.lvl
 else if e.kind=2 then bC e.obj no && iP e.v nt && decide (e.v.t=e.t) && decide (0<e.v.k)
 else if e.kind=3 then bC e.obj no && iP e.v nt
 else if e.kind=4 then bC e.pred np && decide (scan.length<=40) && scan.all (kU nt no)
 else true
def ja (nt ns no np:E)(e:EvC)(scan:u Sn):J:=decide (1<=e.kind) && decide (e.kind<7) && bC e.t nt && hasB nt ns no np e scan && gG e scan
@[reducible] def NC (n:E):Array L:=#[.nilFunc,.func (.func 114) #[] #[j (z ⟨n+1,0,r⟩),j (z ⟨n,0,r⟩)],.func (.func 115) #[] #[j (z ⟨n+1,0,r⟩),j (z ⟨n,0,r⟩)],.func (.func 117) #[] #[j (z ⟨n+1,0,r⟩),j (z ⟨n,0,r⟩)],.func (.func 118) #[] #[j (z ⟨n,0,r⟩),j (z ⟨n+1,0,r⟩)],.func (.func 121) #[] #[],.func (.func 122) #[] #[]]
theorem vg (h:HC)(e:EvC)(scan bl:u Sn)(B:EvC)(R:J)(F k:E)(caps:Array L)(W:y)(hr:Row W 3 bS e.sa e.sn e.sc scan)(ht:bC e.t h.t.n=true)(hk:e.kind=(k:H))(hk1:1<=k)(hk7:k<7)
  (hF:(NC W.1.size)[k]?=z (.func (.func F) #[] caps)) (eg:∀args w,(G F args).run f w= .ok (.enter F args) w) (hcall:∀w1,Below W.1.size W w1->Bx w1 (W.1.size+1) (aY e)->Bx w1 W.1.size (aH h)->C f F caps w1 (sH (je B) (D R) w1))
  (hbl:∀W',Below W.1.size W W'->Row W' 3 bS B.sa B.sn B.sc bl) (hfin:ja h.t.n h.s.n h.o.n h.p.n e scan=(R && (dM {B with kind:=k,t:=e.t} e && decide (bl=scan)))):
  C f 79 #[gH h,je e] W (cK (D (ja h.t.n h.s.n h.o.n h.p.n e scan)) W):=by
 rw[hfin];obtain⟨kind,t,dG,lvl,obj,v,pred,sa,sn,sc⟩:=e;simp only at hk hr ht hcall;subst hk;obtain⟨R2,hR2⟩:∃R2:J,R2=(dM {B with kind:=k,t:=t} ⟨k,t,dG,lvl,obj,v,pred,sa,sn,sc⟩ && decide (bl=scan)):=⟨_,rfl⟩;show C _ _ _ _ (cK (D (R && (dM {B with kind:=k,t:=t} ⟨k,t,dG,lvl,obj,v,pred,sa,sn,sc⟩ && decide (bl=scan)))) W);rw[<-hR2];have sO:=g hR2;have HF:=g hF;have gX:=g hcall;have xA:=g hbl;have HT:=g ht;have HR:=g hr;have g1:¬((k:H)<1):=by omega
 have g7:(k:H)<7:=by omega
 clear hR2 ht hr hfin hF hcall hbl hk1 hk7;have hE0:=((Bx.new (W.alloc (l (aH h) 36)) (aY ⟨k,t,dG,lvl,obj,v,pred,sa,sn,sc⟩) 47).alloc (l (NC W.1.size) 179));have hH0:=(((Bx.new W (aH h) 36).alloc (l (aY ⟨k,t,dG,lvl,obj,v,pred,sa,sn,sc⟩) 47)).alloc (l (NC W.1.size) 179));have hM0:=(Bx.new ((W.alloc (l (aH h) 36)).alloc (l (aY ⟨k,t,dG,lvl,obj,v,pred,sa,sn,sc⟩) 47)) (NC W.1.size) 179);have hB0:=(((d W.1.size W).alloc (aA _) (l (aH h) 36)).alloc au (l (aY ⟨k,t,dG,lvl,obj,v,pred,sa,sn,sc⟩) 47)).alloc (by simp;omega) (l (NC W.1.size) 179);simp only[World.size_alloc] at hE0 hH0 hM0;have LD:=g hE0;have HH0:=g hH0;have HM0:=g hM0;have HB0:=g hB0;clear hE0 hH0 hM0 hB0;go_enter func79,ntmps79;go_wp2_with fail;refine(M6 h _ _).mono ?_;rintro e w1 ⟨rfl,hb1⟩;rw[HT.q];have Il:=g (LD.q.keep hb1);have HH1:=g (HH0.q.keep hb1);have Q5:=g (HM0.q.keep hb1);have HBb:=g (HB0.q.bO hb1);have hE1:=Il.q;have hcM:=(Q5.q.1 k).trans HF.q;clear hb1;go_wp2_with fail;refine(gX.q w1 HBb.q Il.q HH1.q).mono ?_;rintro e w2 ⟨rfl,hb2⟩;have HR:=g (HR.q.below (HBb.q.bO hb2) rfl);have HE2:=Il.q.keep hb2;have ND:=g (HBb.q.bO hb2);have HL:=g (dz Il.q.2.2 hb2.size);have HS:Hid (∀W',Below w2.1.size w2 W'->Bx W' (W.1.size+1) (aY ⟨k,t,dG,lvl,obj,v,pred,sa,sn,sc⟩)):=λW' hb=>HE2.keep hb
 clear hb2 hE1 hcM HE2 Il Q5 HH1 LD HH0 HM0 HB0 HBb
 cases R
 all_goals
  go_wp2_with fail;have HX:=g ((Bx.new w2 (aY (B)) 47).drew);have HB:=g (((d w2.1.size w2).alloc (aA _) (l (aY (B)) 47)).drew);refine aC 0 [(0,1),(1,1),(2,1),(3,1),(4,1),(5,2),(6,1),(7,2)] (λW'=>Bx W' (W.1.size+1) (aY ⟨k,t,dG,lvl,obj,v,pred,sa,sn,sc⟩)) (λ_=>True) av av (HS.q _ HB.q) trivial ?_;refine qC ?_;have hX:=HX.q;refine bq rfl rfl rfl (λK hK=>?_);go_simp;refine hK _ _ (HS.q _ (((d _ _).alloc (aA _) _).drew)) ?_;clear hK K;refine qC ?_;refine bq rfl rfl rfl (λK hK=>?_);go_simp;refine hK _ _ (HS.q _ (((d _ _).alloc (aA _) _).drew)) ?_;clear hK K;clear hX HX;have hS2:=HS.q _ (((d w2.1.size w2).alloc (aA _) (l (aY {B with kind:=k,t:=t}) 47)).drew);have HL2:=HL.q;refine aJ ?_;go_wp2_with fail
 .go_ret
  exact⟨rfl,ND.q.trans ((((d w2.1.size w2).alloc (aA _) (l (aY {B with kind:=k,t:=t}) 47)).drew).mono ND.q.size)⟩
 .refine(ac2 {B with kind:=k,t:=t} ⟨k,t,dG,lvl,obj,v,pred,sa,sn,sc⟩ bl scan _ (xA.q _ (ND.q.trans ((((d w2.1.size w2).alloc (aA _) (l (aY {B with kind:=k,t:=t}) 47)).drew).mono ND.q.size))) (HR.q.below (((d w2.1.size w2).alloc (aA _) (l (aY {B with kind:=k,t:=t}) 47)).drew) rfl)).mono ?_
  rintro e w3 ⟨rfl,hb3⟩;rw[show(dM {B with kind:=k,t:=t} ⟨k,t,dG,lvl,obj,v,pred,sa,sn,sc⟩ && decide (bl=scan))=R2 from by simp[sO.q]];go_wp2_with fail;go_ret;exact⟨rfl,ND.q.trans (((((d w2.1.size w2).alloc (aA _) (l (aY {B with kind:=k,t:=t}) 47)).drew).mono ND.q.size).trans (hb3.mono (by have:=ND.q.size;simp;omega)))⟩
theorem aeE:∀args w,(G 114 args).run f w= .ok (.enter 114 args) w:=enters_of func114 av rfl
theorem aeF:∀args w,(G 115 args).run f w= .ok (.enter 115 args) w:=enters_of func115 av rfl
theorem aeG:∀args w,(G 117 args).run f w= .ok (.enter 117 args) w:=enters_of func117 av rfl
theorem aeH:∀args w,(G 118 args).run f w= .ok (.enter 118 args) w:=enters_of func118 av rfl
theorem aeI:∀args w,(G 121 args).run f w= .ok (.enter 121 args) w:=enters_of func121 av rfl
theorem aeJ:∀args w,(G 122 args).run f w= .ok (.enter 122 args) w:=enters_of func122 av rfl
theorem Yi (h:HC)(e:EvC)(_scan:u Sn)(W:y)(h1:e.kind<1):
  C f 79 #[gH h,je e] W (cK (D m) W):=by
 obtain⟨kind,t,dG,lvl,obj,v,pred,sa,sn,sc⟩:=e;skip;go_enter func79,ntmps79;go_wp2_with fail;go_ret;exact⟨rfl,((((d W.1.size W).alloc (aA _) _).alloc au _).alloc (by simp;omega) _)⟩
theorem Yj (h:HC)(e:EvC)(_scan:u Sn)(W:y)(h1:¬e.kind<1)(h7:7<=e.kind):
  C f 79 #[gH h,je e] W (cK (D m) W):=by
 obtain⟨kind,t,dG,lvl,obj,v,pred,sa,sn,sc⟩:=e;skip;go_enter func79,ntmps79;go_wp2_with fail;go_ret;exact⟨rfl,((((d W.1.size W).alloc (aA _) _).alloc au _).alloc (by simp;omega) _)⟩
theorem Yk (h:HC)(e:EvC)(_scan:u Sn)(W:y)(h1:¬e.kind<1)(h7:¬7<=e.kind)(ht:bC e.t h.t.n=m):
  C f 79 #[gH h,je e] W (cK (D m) W):=by
 obtain⟨kind,t,dG,lvl,obj,v,pred,sa,sn,sc⟩:=e;have HT:=g ht;clear ht;go_enter func79,ntmps79
 go_wp2_with (go_at_call 76;refine(M6 h _ _).mono ?_;rintro e w1 ⟨rfl,hb1⟩;rw[HT.q])
 go_ret;exact⟨rfl,((((d W.1.size W).alloc (aA _) _).alloc au _).alloc (by simp;omega) _).trans (hb1.mono (by simp;omega))⟩
theorem Ve (h:HC)(e:EvC)(scan:u Sn)(W:y)(hr:Row W 3 bS e.sa e.sn e.sc scan):
  C f 79 #[gH h,je e] W (cK (D (ja h.t.n h.s.n h.o.n h.p.n e scan)) W):=by
 by_cases h1:e.kind<1
 .have:ja h.t.n h.s.n h.o.n h.p.n e scan=m:=by simp[ja,Int.not_le.2 h1]
  rw[this];exact Yi h e scan W h1
 by_cases h7:7<=e.kind
 .have:ja h.t.n h.s.n h.o.n h.p.n e scan=m:=by simp[ja,Int.not_lt.2 h7]
  rw[this];exact Yj h e scan W h1 h7
 cases ht:bC e.t h.t.n
 .have:ja h.t.n h.s.n h.o.n h.p.n e scan=m:=by simp[ja,ht]
  rw[this];exact Yk h e scan W h1 h7 ht
 have hl:=hr.len;have hq:((e.sn:H)<=40)=(e.sn<=40):=propext ah;have hk:e.kind=1\/e.kind=2\/e.kind=3\/e.kind=4\/e.kind=5\/e.kind=6:=by omega
 have hn:∀W',Below W.1.size W W'->Row W' 3 bS r 0 0 ([]:u Sn):=λ_ _=>Row.fJ
 rcases hk with hk|hk|hk|hk|hk|hk
 .exact vg h e scan [] (Tk e) _ _ 1 _ W hr ht hk ah ah rfl aeE (λw1 _ h1 h2=>aeK h e _ _ w1 h1 h2) hn (by simp[ja,hasB,gG,dM,ht,hk,eq_comm (a:=(0:H)),eq_comm (a:=(⟨0,0⟩:kZ)),eq_comm (a:=([]:u Sn)),Bb])
 .exact vg h e scan [] (Tm e) _ _ 2 _ W hr ht hk ah ah rfl aeF (λw1 _ h1 h2=>aeL h e _ _ w1 h1 h2) hn (by simp[ja,hasB,gG,dM,ht,hk,eq_comm (a:=(0:H)),eq_comm (a:=([]:u Sn)),Bb,Bool.beq_eq_decide_eq])
 .exact vg h e scan [] (Tn e) _ _ 3 _ W hr ht hk ah ah rfl aeG (λw1 _ h1 h2=>aeM h e _ _ w1 h1 h2) hn (by simp[ja,hasB,gG,dM,ht,hk,eq_comm (a:=(0:H)),eq_comm (a:=([]:u Sn)),Bb])
 .exact vg h e scan scan (Tp e) _ _ 4 _ W hr ht hk ah ah rfl aeH (λw1 hb h1 h2=>aeN h e _ _ w1 h1 h2 scan (hr.below hb rfl)) (λW' hb=>hr.below hb rfl) (by simp[ja,hasB,gG,dM,ht,hk,hl,hq,eq_comm (a:=(0:H)),eq_comm (a:=(⟨0,0⟩:kZ)),Bb])
 .exact vg h e scan [] G5 true _ 5 _ W hr ht hk ah ah rfl aeI (λw1 _ _ _=>aeO w1) hn (by simp[ja,hasB,gG,dM,ht,hk,eq_comm (a:=(0:H)),eq_comm (a:=(⟨0,0⟩:kZ)),eq_comm (a:=([]:u Sn)),Bb])
 .exact vg h e scan [] G5 true _ 6 _ W hr ht hk ah ah rfl aeJ (λw1 _ _ _=>aeP w1) hn (by simp[ja,hasB,gG,dM,ht,hk,eq_comm (a:=(0:H)),eq_comm (a:=(⟨0,0⟩:kZ)),eq_comm (a:=([]:u Sn)),Bb])
def gL (nt:E)(ds:u H):J:=decide (ds.length<=300) && ds.all (λx=>bC x nt)
theorem ac3 (h:HC)(x:H)(bh:E)(w:y)(hH:Bx w bh (aH h)):C f 75 #[.int .i64 x,j (z ⟨bh,0,r⟩)] w (cK (D (bC x h.t.n)) w):=by
 go_enter func75,ntmps75
 go_wp2_with (go_at_call 76;refine(M6 h _ _).mono ?_;rintro e w1 ⟨rfl,hb1⟩)
 go_ret;exact⟨rfl,hb1⟩
theorem Vf (h:HC)(a:Option Addr)(n c:E)(ds:u H)(bh:E)(w:y)(hH:Bx w bh (aH h))(hr:Row w 1 aQ a n c ds):
  C f 73 #[.slice a n c,j (z ⟨bh,0,r⟩)] w (cK (D (gL h.t.n ds)) w):=by
 have hA:=aeQ a n c 75 #[j (z ⟨bh,0,r⟩)] ds (λx=>bC x h.t.n) w hr call75
  (λx _ W2 hW2=>ac3 h x bh W2 (hH.keep hW2))
 have hlen:=hr.len;have HA:=g hA;have HLEN:=g hlen;clear hA hH hr hlen;by_cases h3:(n:H)<=300
 .have hq:gL h.t.n ds=ds.all (λx=>bC x h.t.n):=by simp[gL,HLEN.q];omega
  rw[hq];have HQ:=g hq;clear hq;go_enter func73,ntmps73
  go_wp2_with (go_at_call 74;refine HA.q.mono ?_;rintro e w1 ⟨rfl,hb1⟩)
  go_ret;exact⟨rfl,hb1⟩
 .have hq:gL h.t.n ds=m:=by simp[gL,HLEN.q];omega
  rw[hq];clear hq;go_enter func73,ntmps73;go_wp2_with fail;go_ret;exact⟨rfl,d _ _⟩
theorem aeR (h:HC)(e:EvC)(scan:u Sn)(bh:E)(w:y)(hH:Bx w bh (aH h))(hr:Row w 3 bS e.sa e.sn e.sc scan):
  C f 78 #[je e,j (z ⟨bh,0,r⟩)] w (cK (D (ja h.t.n h.s.n h.o.n h.p.n e scan)) w):=by
 have hb0:Below w.1.size w (w.alloc (l (aY e) 47)):=(d _ _).alloc (aA _) _;have hE:=Ve h e scan _ (hr.below hb0 rfl);have hH1:=hH.keep hb0;have hlt:=hH.2.2;have HE:=g hE;have HB:=g hb0;clear hE hb0 hr hH;go_enter func78,ntmps78
 go_wp2_with (go_at_call 79;refine HE.q.mono ?_;rintro e w1 ⟨rfl,hb1⟩)
 go_ret;exact⟨rfl,HB.q.bO hb1⟩
theorem aeS (h:HC)(x:aM)(ds:u H)(bh b9:E)(w:y)(hH:Bx w bh (aH h))(h9:Bx w b9 #[.func (.func 73) #[] #[j (z ⟨bh,0,r⟩)]])(hr:Row w 1 aQ x.sa x.sn x.sc ds):
  C f 81 #[JU x,j (z ⟨bh,0,r⟩),j (z ⟨b9,0,r⟩)] w (cK (D (bC x.obj h.o.n && gL h.t.n ds)) w):=by
 have hb0:Below w.1.size w (w.alloc (l (Q9 x) 74)):=(d _ _).alloc (aA _) _;have hX0:=Bx.new w (Q9 x) 74;have hH1:=hH.keep hb0;have Vg:=h9.keep hb0;have hlt:=hH.2.2;have anl:=h9.2.2;have HS:=g (⟨hX0,hH1,Vg,hr.below hb0 rfl⟩:Bx _ _ _/\Bx _ _ _/\Bx _ _ _/\Row _ 1 aQ x.sa x.sn x.sc ds);have HB:=g hb0;clear hX0 hb0 hr hH h9 hH1 Vg
 cases hq:bC x.obj h.o.n
 all_goals
  have HQ:=g hq;clear hq;have hs:=HS.q;go_enter func81,ntmps81;go_wp2_with fail;refine(JV h _ _).mono ?_;rintro e w1 ⟨rfl,hb1⟩;rw[HQ.q];clear hs;have hs:=M7 (⟨HS.q.1,HS.q.2.1,HS.q.2.2.1⟩:Bx _ _ _/\Bx _ _ _/\Bx _ _ _) hb1;have HR:=g (HS.q.2.2.2.below hb1 rfl);have HB:=g (HB.q.bO hb1);have HSz:=g HB.q.size;clear hb1;go_wp2_with fail
 .go_ret
  exact⟨rfl,HB.q⟩
 .refine(Vf h x.sa x.sn x.sc ds bh w1 hs.2.1 HR.q).mono ?_
  rintro e w2 ⟨rfl,hb2⟩;clear hs;go_wp2_with fail;go_ret;exact⟨rfl,HB.q.trans (hb2.mono HSz.q)⟩
theorem aeT (h:HC)(x:aN)(ds:u H)(bh b9:E)(w:y)(hH:Bx w bh (aH h))(h9:Bx w b9 #[.func (.func 73) #[] #[j (z ⟨bh,0,r⟩)]])(hr:Row w 1 aQ x.sa x.sn x.sc ds):
  C f 83 #[JW x,j (z ⟨bh,0,r⟩),j (z ⟨b9,0,r⟩)] w (cK (D (bC x.pred h.p.n && bC x.obj h.o.n && gL h.t.n ds)) w):=by
 have hb0:Below w.1.size w (w.alloc (l (Ra x) 77)):=(d _ _).alloc (aA _) _;have hX0:=Bx.new w (Ra x) 77;have hH1:=hH.keep hb0;have Vg:=h9.keep hb0;have hlt:=hH.2.2;have anl:=h9.2.2;have HS:=g (⟨hX0,hH1,Vg,hr.below hb0 rfl⟩:Bx _ _ _/\Bx _ _ _/\Bx _ _ _/\Row _ 1 aQ x.sa x.sn x.sc ds);have HB:=g hb0;clear hX0 hb0 hr hH h9 hH1 Vg
 cases hq:bC x.pred h.p.n
 all_goals cases hq2:bC x.obj h.o.n
 all_goals
  have HQ:=g hq;have HQ2:=g hq2;clear hq hq2;have hs:=HS.q;go_enter func83,ntmps83;go_wp2_with fail;refine(abm h _ _).mono ?_;rintro e w1 ⟨rfl,hb1⟩;rw[HQ.q];clear hs;have hs:=M7 (⟨HS.q.1,HS.q.2.1,HS.q.2.2.1⟩:Bx _ _ _/\Bx _ _ _/\Bx _ _ _) hb1;have HT:=g hs;have HR:=g (HS.q.2.2.2.below hb1 rfl);have HB:=g (HB.q.bO hb1);have HSz:=g HB.q.size;clear hb1;go_wp2_with fail
 .go_ret
  exact⟨rfl,HB.q⟩
 .go_ret
  exact⟨rfl,HB.q⟩
 all_goals
  refine(JV h _ _).mono ?_;rintro e w2 ⟨rfl,hb2⟩;rw[HQ2.q];clear hs;have hs:=M7 HT.q hb2;have HR:=g (HR.q.below hb2 rfl);have HB:=g (HB.q.bO hb2);have HSz:=g HB.q.size;clear hb2;go_wp2_with fail
 .go_ret
  exact⟨rfl,HB.q⟩
 .refine(Vf h x.sa x.sn x.sc ds bh w2 hs.2.1 HR.q).mono ?_
  rintro e w3 ⟨rfl,hb3⟩;clear hs;go_wp2_with fail;go_ret;exact⟨rfl,HB.q.trans (hb3.mono HSz.q)⟩
theorem aeU (h:HC)(x:Wa)(bh:E)(w:y)(hH:Bx w bh (aH h)):
  C f 85 #[Ci x,j (z ⟨bh,0,r⟩)] w (cK (D (bC x.dG h.s.n && decide (0<=x.bits) && decide (x.bits<=15))) w):=by
 have hb0:Below w.1.size w (w.alloc (l (Rb x) 79)):=(d _ _).alloc (aA _) _;have hX0:=Bx.new w (Rb x) 79;have hH1:=hH.keep hb0;have hlt:=hH.2.2;have HS:=g (⟨hX0,hH1⟩:Bx _ _ _/\Bx _ _ _);have HB:=g hb0;clear hX0 hb0 hH hH1;obtain⟨R,hR⟩:∃R:J,R=(decide (0<=x.bits) && decide (x.bits<=15)):=⟨_,rfl⟩;rw[Bb,<-hR];have HF:=g hR;clear hR
 cases hq:bC x.dG h.s.n
 all_goals
  have HQ:=g hq;clear hq;have hs:=HS.q;go_enter func85,ntmps85;go_wp2_with fail;refine(abn h _ _).mono ?_;rintro e w1 ⟨rfl,hb1⟩;rw[HQ.q];clear hs;have hs:=AL HS.q hb1;have HB:=g (HB.q.bO hb1);clear hb1
  cases h1:decide (0<=x.bits)
  all_goals cases h2:decide (x.bits<=15)
  all_goals
   go_wp2_with fail;go_ret;exact⟨by rw[HF.q,h1,h2];rfl,HB.q⟩
attribute [local go_sem] Oper.semAt_some
theorem Same.setCell {A:E->Prop}(X:y)(b o:E)(v:L)(hb:¬A b):Same A X (X.setCell ⟨b,o,r⟩ v):=
 ⟨rfl,rfl,rfl,by simp[World.setCell],λi hi _=>I _ _ _ _ (λe=>by have e':i=b:=e;rw[e'] at hi;exact hb hi)⟩
theorem bg.setCell {A:E->Prop}(X:y)(b o:E)(v:L)(hb:¬A b):bg A X (X.setCell ⟨b,o,r⟩ v):=
 ⟨by simp[World.setCell],λi hi _=>I _ _ _ _ (λe=>by have e':i=b:=e;rw[e'] at hi;exact hb hi)⟩
theorem bg.bx {A:E->Prop}{X Y:y}{b:E}{cs:Array L}(k:bg A X Y)(h:Bx X b cs)(ha:A b):Bx Y b cs:=
 ⟨λi=>(World.cell?_of_block (a:=⟨b,i,r⟩) (k.2 b ha h.2.2)).trans (h.1 i),λi=>(World.frozen?_of_block (a:=⟨b,i,r⟩) (k.2 b ha h.2.2)).trans (h.2.1 i),dz h.2.2 k.1⟩
theorem Bx.setOther {X:y}{b:E}{cs:Array L}(h:Bx X b cs)(c o:E)(v:L)(hb:b≠c):Bx (X.setCell ⟨c,o,r⟩ v) b cs:=
 (bg.setCell (A:=λi=>i≠c) X c o v au).bx h hb
end Yd
namespace Yd
open Bool renaming false->g
open Go Go.RowKit Go.Proofs Tryz
open Below renaming refl->d
open RowKit renaming intOf->l
open Tryz renaming ntmps22->f,func22->j,prog->m,ntmps21->p,func21->r
def cO (v:kZ):List (Int × Int):=if 0<v.k then [(0,v.t)] else []
theorem Rc (a a':Option Addr)(n c n' c':Nat)(xs ys:List Int)(w:World)(hr:Row w 1 aQ a n c xs)(hr':Row w 1 aQ a' n' c' ys):
  Calls m 23 #[.slice a n c,.slice a' n' c'] w (cK (.bool (decide (xs=ys))) w):=by
 have hn:=hr.le;have hn':=hr'.le;have HR:=hid hr;have HR':=hid hr';clear hr hr';by_cases hl:n=n'
 .subst hl
  clear hn';go_enter func23,ntmps23;go_wp2_with fail
  go_loopw [13] (λi wr=>∃k:Nat,k<=n/\i= .int .i64 k/\xs.take k=ys.take k/\Below w.1.size w wr) (λi _=>n - (l i).toNat)
  case atStart=>exact⟨0,aV _,rfl,rfl,d _ _⟩
  case round=>
   obtain⟨k,hk,rfl,hf,hb⟩:=hrel;have HF:=hid hf;clear hf;by_cases hlt:k<n
   .have hi1:(0:Int)<=(k:Int):=by omega
    have hi2:(k:Int)<(n:Int):=by omega
    obtain⟨x,b,o,hx,rfl,hc⟩:=HR.q.at_ hlt;obtain⟨y,b',o',hy,rfl,hc'⟩:=HR'.q.at_ hlt;have h0:=bn hb rfl (hc 0 _ rfl);simp only[jo,bM] at h0;have JX:=bn hb rfl (hc' 0 _ rfl);simp only[jo,bM] at JX;have HX:=hid hx;have HY:=hid hy;clear hc hc' hx hy;by_cases he:x=y
    .subst he
     go_wp2_with fail
     go_quiet (fail)
     go_wp2_with fail;refine⟨⟨k+1,by omega,by go_num,?_,fA hb _⟩,by simp[l];omega⟩;rw[eO,eO,HF.q,HX.q,HY.q]
    .have ht:(x==y)=g:=by simpa using he
     have HE:=hid he;clear he;go_wp2_with fail
     go_quiet (fail)
     go_wp2_with fail;go_ret;refine⟨?_,fA hb _⟩;have hne:xs≠ys:=λe=>HE.q (by have h1:=HX.q;have h2:=HY.q;rw[e,h2] at h1;exact(xW h1).symm)
     rw[aX hne];rfl
   .have hkn:k=n:=by omega
    go_wp2_with fail;go_ret;refine⟨?_,hb⟩;have e:xs=ys:=by
     have h:=HF.q
     rwa[dR (by rw[HR.q.len];omega),dR (by rw[HR'.q.len];omega)] at h
    rw[bA e];rfl
 .have hne:xs≠ys:=λe=>hl (by rw[<-HR.q.len,<-HR'.q.len,e])
  have hl':((n:Int)==(n':Int))=g:=aR.2 ah;have HN:=hid hne;clear hne hl;go_enter func23,ntmps23;go_wp2_with fail;go_ret;refine⟨?_,d _ _⟩;rw[aX HN.q];rfl
theorem G6 (a a':Option Addr)(n c n' c':Nat)(xs ys:List Bs)(w:World)(hr:Row w 1 encStr a n c xs)(hr':Row w 1 encStr a' n' c' ys):
  Calls m 21 #[.slice a n c,.slice a' n' c'] w (cK (.bool (decide (xs=ys))) w):=by
 have hn:=hr.le;have hn':=hr'.le;have HR:=hid hr;have HR':=hid hr';clear hr hr';by_cases hl:n=n'
 .subst hl
  clear hn';go_enter r,p;go_wp2_with fail
  go_loopw [13] (λi wr=>∃k:Nat,k<=n/\i= .int .i64 k/\xs.take k=ys.take k/\Below w.1.size w wr) (λi _=>n - (l i).toNat)
  case atStart=>exact⟨0,aV _,rfl,rfl,d _ _⟩
  case round=>
   obtain⟨k,hk,rfl,hf,hb⟩:=hrel;have HF:=hid hf;clear hf;by_cases hlt:k<n
   .have hi1:(0:Int)<=(k:Int):=by omega
    have hi2:(k:Int)<(n:Int):=by omega
    obtain⟨x,b,o,hx,rfl,hc⟩:=HR.q.at_ hlt;obtain⟨y,b',o',hy,rfl,hc'⟩:=HR'.q.at_ hlt;have h0:=bn hb rfl (hc 0 _ rfl);simp only[jo,bM] at h0;have JX:=bn hb rfl (hc' 0 _ rfl);simp only[jo,bM] at JX;have HX:=hid hx;have HY:=hid hy;clear hc hc' hx hy;by_cases he:x=y
    .subst he
     go_wp2_with fail
     go_quiet (fail)
     go_wp2_with fail;refine⟨⟨k+1,by omega,by go_num,?_,fA hb _⟩,by simp[l];omega⟩;rw[eO,eO,HF.q,HX.q,HY.q]
    .have ht:(x==y)=g:=by simpa using he
     have HE:=hid he;clear he;go_wp2_with fail
     go_quiet (fail)
     go_wp2_with fail;go_ret;refine⟨?_,fA hb _⟩;have hne:xs≠ys:=λe=>HE.q (by have h1:=HX.q;have h2:=HY.q;rw[e,h2] at h1;exact(xW h1).symm)
     rw[aX hne];rfl
   .have hkn:k=n:=by omega
    go_wp2_with fail;go_ret;refine⟨?_,hb⟩;have e:xs=ys:=by
     have h:=HF.q
     rwa[dR (by rw[HR.q.len];omega),dR (by rw[HR'.q.len];omega)] at h
    rw[bA e];rfl
 .have hne:xs≠ys:=λe=>hl (by rw[<-HR.q.len,<-HR'.q.len,e])
  have hl':((n:Int)==(n':Int))=g:=aR.2 ah;have HN:=hid hne;clear hne hl;go_enter r,p;go_wp2_with fail;go_ret;refine⟨?_,d _ _⟩;rw[aX HN.q];rfl
theorem aeV (a a':Option Addr)(n c n' c':Nat)(xs ys:List Sn)(w:World)(hr:Row w 3 bS a n c xs)(hr':Row w 3 bS a' n' c' ys):
  Calls m 62 #[.slice a n c,.slice a' n' c'] w (cK (.bool (decide (xs=ys))) w):=by
 have hn:=hr.le;have hn':=hr'.le;have HR:=hid hr;have HR':=hid hr';clear hr hr';by_cases hl:n=n'
 .subst hl
  clear hn';go_enter func62,ntmps62;go_wp2_with fail
  go_loopw [13] (λi wr=>∃k:Nat,k<=n/\i= .int .i64 k/\xs.take k=ys.take k/\Below w.1.size w wr) (λi _=>n - (l i).toNat)
  case atStart=>exact⟨0,aV _,rfl,rfl,d _ _⟩
  case round=>
   obtain⟨k,hk,rfl,hf,hb⟩:=hrel;have HF:=hid hf;clear hf;by_cases hlt:k<n
   .have hi1:(0:Int)<=(k:Int):=by omega
    have hi2:(k:Int)<(n:Int):=by omega
    obtain⟨x,b,o,hx,rfl,hc⟩:=HR.q.at_ hlt;obtain⟨y,b',o',hy,rfl,hc'⟩:=HR'.q.at_ hlt;have h0:=bn hb rfl (hc 0 _ rfl);have h1:=bn hb rfl (hc 1 _ rfl);have h2:=bn hb rfl (hc 2 _ rfl);simp only[bM] at h0;have JX:=bn hb rfl (hc' 0 _ rfl);have h'1:=bn hb rfl (hc' 1 _ rfl);have h'2:=bn hb rfl (hc' 2 _ rfl);simp only[bM] at JX;have HX:=hid hx;have HY:=hid hy;clear hc hc' hx hy;by_cases he:x=y
    .subst he
     go_wp2_with fail
     go_quiet (fail)
     go_wp2_with fail;refine⟨⟨k+1,by omega,by go_num,?_,fA hb _⟩,by simp[l];omega⟩;rw[eO,eO,HF.q,HX.q,HY.q]
    .have ht:=Vh x y;rw[aX he] at ht
     have HE:=hid he;clear he;go_wp2_with fail
     go_quiet (fail)
     go_wp2_with fail;go_ret;refine⟨?_,fA hb _⟩;have hne:xs≠ys:=λe=>HE.q (by have h1:=HX.q;have h2:=HY.q;rw[e,h2] at h1;exact(xW h1).symm)
     rw[aX hne];rfl
   .have hkn:k=n:=by omega
    go_wp2_with fail;go_ret;refine⟨?_,hb⟩;have e:xs=ys:=by
     have h:=HF.q
     rwa[dR (by rw[HR.q.len];omega),dR (by rw[HR'.q.len];omega)] at h
    rw[bA e];rfl
 .have hne:xs≠ys:=λe=>hl (by rw[<-HR.q.len,<-HR'.q.len,e])
  have hl':((n:Int)==(n':Int))=g:=aR.2 ah;have HN:=hid hne;clear hne hl;go_enter func62,ntmps62;go_wp2_with fail;go_ret;refine⟨?_,d _ _⟩;rw[aX HN.q];rfl
theorem Vi (a b:EvC)(xs ys:List Sn)(w:World)(hx:Row w 3 bS a.sa a.sn a.sc xs)(hy:Row w 3 bS b.sa b.sn b.sc ys):
  Calls m 22 #[je a,je b] w (cK (.bool (dM a b && decide (xs=ys))) w):=by
 obtain⟨R,hR0⟩:∃R:Bool,R=(dM a b && decide (xs=ys)):=⟨_,rfl⟩;rw[<-hR0];have HF:=hid hR0;have HX:=hid hx;have HY:=hid hy;clear hR0 hx hy;obtain⟨kind,t,dG,lvl,obj,v,pred,sa,sn,sc⟩:=a;obtain⟨kind',t',Ny,Nz,NA,v',JS,sa',Vd,sc'⟩:=b;by_cases h:¬kind=kind'
 .have hR:R=g:=by rw[HF.q];simp[dM,h]
  subst hR;have hne:(kind==kind')=g:=aR.2 h;clear h;go_enter j,f;go_wp2_with fail;go_ret;exact⟨rfl,((d _ _).alloc (aA _) _).alloc au _⟩
 have h:=sw.1 h;subst h;by_cases h:¬t=t'
 .have hR:R=g:=by rw[HF.q];simp[dM,h]
  subst hR;have hne:(t==t')=g:=aR.2 h;clear h;go_enter j,f;go_wp2_with fail;go_ret;exact⟨rfl,((d _ _).alloc (aA _) _).alloc au _⟩
 have h:=sw.1 h;subst h;by_cases h:¬dG=Ny
 .have hR:R=g:=by rw[HF.q];simp[dM,h]
  subst hR;have hne:(dG==Ny)=g:=aR.2 h;clear h;go_enter j,f;go_wp2_with fail;go_ret;exact⟨rfl,((d _ _).alloc (aA _) _).alloc au _⟩
 have h:=sw.1 h;subst h;by_cases h:¬lvl=Nz
 .have hR:R=g:=by rw[HF.q];simp[dM,h]
  subst hR;have hne:(lvl==Nz)=g:=aR.2 h;clear h;go_enter j,f;go_wp2_with fail;go_ret;exact⟨rfl,((d _ _).alloc (aA _) _).alloc au _⟩
 have h:=sw.1 h;subst h;by_cases h:¬obj=NA
 .have hR:R=g:=by rw[HF.q];simp[dM,h]
  subst hR;have hne:(obj==NA)=g:=aR.2 h;clear h;go_enter j,f;go_wp2_with fail;go_ret;exact⟨rfl,((d _ _).alloc (aA _) _).alloc au _⟩
 have h:=sw.1 h;subst h;by_cases h:¬v=v'
 .have hR:R=g:=by rw[HF.q];simp[dM,h]
  subst hR;have hne:=Q8 v v';rw[aX h] at hne;clear h;go_enter j,f;go_wp2_with fail;go_ret;exact⟨rfl,((d _ _).alloc (aA _) _).alloc au _⟩
 have h:=sw.1 h;subst h;by_cases h:¬pred=JS
 .have hR:R=g:=by rw[HF.q];simp[dM,h]
  subst hR;have hne:(pred==JS)=g:=aR.2 h;clear h;go_enter j,f;go_wp2_with fail;go_ret;exact⟨rfl,((d _ _).alloc (aA _) _).alloc au _⟩
 have h:=sw.1 h;subst h;have hR:R=decide (xs=ys):=by rw[HF.q];simp[dM]
 subst hR;have HB:=hid (((d w.1.size w).alloc (aA _) (.cells (aY ⟨kind,t,dG,lvl,obj,v,pred,sa,sn,sc⟩) 47)).alloc au (.cells (aY ⟨kind,t,dG,lvl,obj,v,pred,sa',Vd,sc'⟩) 47));have HC:=hid (aeV sa sa' sn sc Vd sc' xs ys _ (HX.q.below HB.q rfl) (HY.q.below HB.q rfl));go_enter j,f
 go_wp2_with (go_at_call 62;refine HC.q.mono ?_;rintro e w1 ⟨rfl,hb1⟩)
 go_ret;exact⟨rfl,HB.q.trans (hb1.mono (by simp;omega))⟩
end Yd
namespace Yd
open Go Go.RowKit Go.Proofs Go.Maps Tryz
open Tryz renaming prog->a
open Go.ChangeMaps (setBlock heap_setBlock_same heap_setBlock_other)
theorem aeW:Go.WideMaps.ArrKey a 103 3 2:=⟨underlying103,by kernel_rfl,by kernel_rfl,by kernel_rfl⟩
theorem anm:Go.WideMaps.KeyLaw a 103:=aeW.law
theorem aeX:Keyed a 103:=Keyed.of_law anm
theorem aeY:∃m,Tryz.prog.types.size=m+1:=⟨Tryz.prog.types.size - 1,by kernel_rfl⟩
theorem Yl (w:World):(zeroValue 3).run a w= .ok (.int .i64 0) w:=av
@[reducible] def Rf (n:Int):Prop:=(Lit.int .i64 n).wf=true
@[reducible] def kV (t o:Int):Value:= .agg #[.int .i64 t,.int .i64 o]
def kL (t o:Int):Lit:= .string (keyBytes [.int .i64 t,.int .i64 o])
theorem ai' {t o:Int}(ht:Rf t)(ho:Rf o):keyOf a 103 (kV t o)=some (kL t o):=Go.WideMaps.keyOf_pair aeW underlying3 aeY ht ho
def Ab (W:World)(b:Nat)(L:List (Int × Int)):Prop:=
 ∃D:DataW Unit,IsMap D/\W.ownsMap a 103 (plainElem a 3) b L.length D/\∀t o,Rf t->Rf o->D.atKey (kL t o) (.lit (.int .i64 0))= .lit (.int .i64 (L.count (t,o):Nat))
theorem Ab.new (w:World):Ab (w.alloc (.map #[] 0)) w.1.size []:=⟨.map [],⟨[],rfl⟩,World.ownsMap_made _ _ _ _,λt o _ _=>by simp[DataW.atKey]⟩
theorem Ab.of_eq {W W':World}{b:Nat}{L:List (Int × Int)}(h:Ab W b L)(e:W'.1[b]?=W.1[b]?):Ab W' b L:=by
 obtain⟨D,hD,⟨es,clock,hb,F,hs,hd⟩,hat⟩:=h;exact⟨D,hD,⟨es,clock,e.trans hb,F,hs,hd⟩,hat⟩
theorem Ab.lt {W:World}{b:Nat}{L:List (Int × Int)}(h:Ab W b L):b<W.1.size:=by
 obtain⟨D,hD,hown,hat⟩:=h;exact hown.lt
theorem Ab.look {W:World}{b:Nat}{L:List (Int × Int)}(h:Ab W b L){t o:Int}(ht:Rf t)(ho:Rf o):(Instr.lookup 97 (.map (some b)) (kV t o) false).run a W= .ok (.int .i64 (L.count (t,o):Nat)) W:=by
 obtain⟨D,_,hown,hat⟩:=h;obtain⟨c,hrun,hc,_⟩:=hown.lookup_int aeX underlying97 underlying3 (Yl W) (ai' ht ho);rw[hat t o ht ho] at hc;simp only[DataW.lit.injEq,Lit.int.injEq,true_and] at hc;rw[hrun,hc]
end Yd
