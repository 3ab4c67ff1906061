import Derived.Test.YtpeojoobplpcoaaGreatDoorPHist2
import Derived.Laws.EntriesVeiled
import Derived.Test.YtpeojoobplpcoaaGreatDoorPFm1
import Derived.WideKeyPair
import Derived.WideKeyEntry
set_option linter.all false
set_option maxRecDepth 200000
set_option maxHeartbeats 8000000
namespace Yd
open Bool renaming false->u,true->S
open Option renaming none->m,some->y
open Go Go.RowKit Go.Proofs Tryz
open Below renaming refl->d,heap_setCell->P
open Bx renaming new->M
open Go renaming World->r,Calls->E,callFunc->L,Value->O,bodyPost_ret->Q
open Go.Obj renaming cells->l
open Go.Value renaming pointer->j,bool->z,int->H
open Tryz renaming prog->f,ntmps31->C,func31->D
open Yd renaming hid->g
open _root_ renaming List->G,Nat->I,Int->J,Bool->N
@[reducible] def UH (e:EvC):EvC:={kind:=0,t:=0,bW:=0,lvl:=0,obj:=0,v:=⟨0,0⟩,pred:=e.pred,sa:=e.sa,sn:=e.sn,sc:=e.sc}
theorem agT (h:HC)(e:EvC)(bh be:I)(W:r)(hE:Bx W be (aS e))(hH:Bx W bh (aD h))(scan:G Sn)(hr:Row W 3 dV e.sa e.sn e.sc scan):
  E f 124 #[j (y ⟨bh,0,m⟩),j (y ⟨be,0,m⟩)] W (uF (fZ (UH e)) (z (aV e.pred h.p.n && decide ((e.sn:J)<=40) && scan.all (jW h.t.n h.o.n))) W):=by
 have HS:Hid (∀W',Below W.1.size W W'->Bx W' be (aS e)/\Bx W' bh (aD h)):=λW' hb=>⟨hE.below hb hE.2.2,hH.below hb hH.2.2⟩
 clear hE hH;have hall:=λ(W':r)(hb:Below W.1.size W W')=>akw e.sa e.sn e.sc 125 #[j (y ⟨bh,0,m⟩)] scan (jW h.t.n h.o.n) W' (hr.below hb rfl) call125
  (λx _ W2 hW2=>aar h x bh W2 ((HS.q W' hb).2.below hW2 (HS.q W' hb).2.2.2))
 have HA:=g hall;have hlen:=g hr.len;clear hall hr;obtain⟨R,hR0⟩:∃R:N,R=(aV e.pred h.p.n && decide ((e.sn:J)<=40) && scan.all (jW h.t.n h.o.n)):=⟨_,rfl⟩;rw[<-hR0];have HF:=g hR0;clear hR0
 cases b1:aV e.pred h.p.n
 all_goals cases b3:scan.all (jW h.t.n h.o.n)
 all_goals cases h2:decide ((e.sn:J)<=40)
 all_goals
  have B1:=g b1;clear b1;have B3:=g b3;clear b3;skip;go_enter func124,ntmps124;go_wp2_with fail;have HR:=g ((M W #[H .i64 0,H .i64 0,H .i64 0,H .i64 0,H .i64 0,H .i64 0,H .i64 0,H .i64 0,.slice m 0 0] 50).drew);have HB:=g (((d W.1.size W).alloc (aB _) (l #[H .i64 0,H .i64 0,H .i64 0,H .i64 0,H .i64 0,H .i64 0,H .i64 0,H .i64 0,.slice m 0 0] 50)).drew);refine aC 0 [(0,1),(1,1),(2,1),(3,1),(4,1),(5,1),(6,1),(7,1),(8,2),(9,1),(10,1),(11,1),(12,1),(13,1),(14,1),(15,1),(16,1),(17,1),(18,1),(19,2),(20,1),(21,2),(22,1)] (λW'=>Bx W' be (aS e)/\Bx W' bh (aD h)) (λ_=>True) ay ay (HS.q _ HB.q) trivial ?_;refine qC ?_
  first
   |(refine qG rfl rfl (HS.q _ HB.q) ?_;simp only[Act.put,mH,lZ,l5])
   |(refine bC rfl rfl rfl (λK hK=>?_);go_simp;refine(ada h _ _).mono ?_;rintro e w1 ⟨rfl,hb1⟩;rw[B1.q];(have HB:=g (HB.q.bZ hb1));(have HR:=g (HR.q.keep hb1));refine hK _ _ (HS.q _ HB.q) ?_;clear hK K hb1)
  refine qC ?_
  first
   |(refine qG rfl rfl (HS.q _ HB.q) ?_;simp only[Act.put,mH,lZ,l5])
   |(refine bC rfl rfl rfl (λK hK=>?_);go_simp;refine(HA.q _ HB.q).mono ?_;rintro e w1 ⟨rfl,hb1⟩;rw[B3.q];(have HB:=g (HB.q.bZ hb1));(have HR:=g (HR.q.keep hb1));refine hK _ _ (HS.q _ HB.q) ?_;clear hK K hb1)
  refine qC ?_;have hR:=HR.q;refine bC rfl rfl rfl (λK hK=>?_);go_simp;refine hK _ _ (HS.q _ (((((((((HB.q.setCell (aB _) _).setCell (aB _) _).setCell (aB _) _).setCell (aB _) _).setCell (aB _) _).setCell (aB _) _).setCell (aB _) _).setCell (aB _) _).setCell (aB _) _)) ?_;clear hK K;refine qC ?_;refine aP ?_;go_wp2_with fail;refine Q (v:= .tuple #[fZ (UH e),z R]) (by simp[results,results124,go_sem,hR,HF.q,B1.q,B3.q,h2]) rfl ⟨rfl,(((((((((HB.q.setCell (aB _) _).setCell (aB _) _).setCell (aB _) _).setCell (aB _) _).setCell (aB _) _).setCell (aB _) _).setCell (aB _) _).setCell (aB _) _).setCell (aB _) _)⟩
theorem agU (W:r):E f 127 #[] W (uF (fZ Hr) (z S) W):=by
 go_enter func127,ntmps127;go_wp2_with fail;refine Q (v:= .tuple #[fZ Hr,z S]) (by simp[results,results127,go_sem]) rfl ⟨rfl,?_⟩;exact(d _ _).alloc (aB _) _
theorem agV (W:r):E f 128 #[] W (uF (fZ Hr) (z S) W):=by
 go_enter func128,ntmps128;go_wp2_with fail;refine Q (v:= .tuple #[fZ Hr,z S]) (by simp[results,results128,go_sem]) rfl ⟨rfl,?_⟩;exact(d _ _).alloc (aB _) _
def gF (a b:EvC):N:=decide (a.kind=b.kind) && decide (a.t=b.t) && decide (a.bW=b.bW) && decide (a.lvl=b.lvl) && decide (a.obj=b.obj) && decide (a.v=b.v) && decide (a.pred=b.pred)
theorem SY (a b:EvC)(xs ys:G Sn)(w:r)(hx:Row w 3 dV a.sa a.sn a.sc xs)(hy:Row w 3 dV b.sa b.sn b.sc ys):
  E f 31 #[fZ a,fZ b] w (dw (z (gF a b && decide (xs=ys))) w):=by
 obtain⟨R,hR0⟩:∃R:N,R=(gF a b && decide (xs=ys)):=⟨_,rfl⟩;rw[<-hR0];have HF:=g hR0;have HX:=g hx;have HY:=g hy;clear hR0 hx hy;obtain⟨kind,t,bW,lvl,obj,v,pred,sa,sn,sc⟩:=a;obtain⟨kind',t',agW,agX,agY,v',adb,sa',MH,sc'⟩:=b;by_cases h:¬kind=kind'
 .have hR:R=u:=by rw[HF.q];simp[gF,h]
  subst hR;have hne:(kind==kind')=u:=aU.2 h;clear h;go_enter D,C;go_wp2_with fail;go_ret;exact⟨rfl,((d _ _).alloc (aB _) _).alloc ak _⟩
 have h:=BR.1 h;subst h;by_cases h:¬t=t'
 .have hR:R=u:=by rw[HF.q];simp[gF,h]
  subst hR;have hne:(t==t')=u:=aU.2 h;clear h;go_enter D,C;go_wp2_with fail;go_ret;exact⟨rfl,((d _ _).alloc (aB _) _).alloc ak _⟩
 have h:=BR.1 h;subst h;by_cases h:¬bW=agW
 .have hR:R=u:=by rw[HF.q];simp[gF,h]
  subst hR;have hne:(bW==agW)=u:=aU.2 h;clear h;go_enter D,C;go_wp2_with fail;go_ret;exact⟨rfl,((d _ _).alloc (aB _) _).alloc ak _⟩
 have h:=BR.1 h;subst h;by_cases h:¬lvl=agX
 .have hR:R=u:=by rw[HF.q];simp[gF,h]
  subst hR;have hne:(lvl==agX)=u:=aU.2 h;clear h;go_enter D,C;go_wp2_with fail;go_ret;exact⟨rfl,((d _ _).alloc (aB _) _).alloc ak _⟩
 have h:=BR.1 h;subst h;by_cases h:¬obj=agY
 .have hR:R=u:=by rw[HF.q];simp[gF,h]
  subst hR;have hne:(obj==agY)=u:=aU.2 h;clear h;go_enter D,C;go_wp2_with fail;go_ret;exact⟨rfl,((d _ _).alloc (aB _) _).alloc ak _⟩
 have h:=BR.1 h;subst h;by_cases h:¬v=v'
 .have hR:R=u:=by rw[HF.q];simp[gF,h]
  subst hR;have hne:=aeJ v v';rw[bq h] at hne;clear h;go_enter D,C;go_wp2_with fail;go_ret;exact⟨rfl,((d _ _).alloc (aB _) _).alloc ak _⟩
 have h:=BR.1 h;subst h;by_cases h:¬pred=adb
 .have hR:R=u:=by rw[HF.q];simp[gF,h]
  subst hR;have hne:(pred==adb)=u:=aU.2 h;clear h;go_enter D,C;go_wp2_with fail;go_ret;exact⟨rfl,((d _ _).alloc (aB _) _).alloc ak _⟩
 have h:=BR.1 h;subst h;have hR:R=decide (xs=ys):=by rw[HF.q];simp[gF]
 subst hR;have HB:=g (((d w.1.size w).alloc (aB _) (l (aS ⟨kind,t,bW,lvl,obj,v,pred,sa,sn,sc⟩) 50)).alloc ak (l (aS ⟨kind,t,bW,lvl,obj,v,pred,sa',MH,sc'⟩) 50));have HC:=g (anV sa sa' sn sc MH sc' xs ys _ (HX.q.below HB.q rfl) (HY.q.below HB.q rfl));go_enter D,C
 go_wp2_with (go_at_call 67;refine HC.q.mono ?_;rintro e w1 ⟨rfl,hb1⟩)
 go_ret;exact⟨rfl,HB.q.trans (hb1.mono (by simp;omega))⟩
def gV (e:EvC)(scan:G Sn):N:=
 if e.kind=1 then decide (e.obj=0) && decide (e.v=⟨0,0⟩) && decide (e.pred=0) && decide (scan=[])
 else if e.kind=2\/e.kind=3 then decide (e.bW=0) && decide (e.lvl=0) && decide (e.pred=0) && decide (scan=[])
 else if e.kind=4 then decide (e.bW=0) && decide (e.lvl=0) && decide (e.obj=0) && decide (e.v=⟨0,0⟩)
 else decide (e.bW=0) && decide (e.lvl=0) && decide (e.obj=0) && decide (e.v=⟨0,0⟩) && decide (e.pred=0) && decide (scan=[])
def hasB (nt ns no np:I)(e:EvC)(scan:G Sn):N:=
 if e.kind=1 then aV e.bW ns && fP e.lvl
 else if e.kind=2 then aV e.obj no && gI e.v nt && decide (e.v.t=e.t) && decide (0<e.v.k)
 else if e.kind=3 then aV e.obj no && gI e.v nt
 else if e.kind=4 then aV e.pred np && decide (scan.length<=40) && scan.all (jW nt no)
 else S
def gL (nt ns no np:I)(e:EvC)(scan:G Sn):N:=decide (1<=e.kind) && decide (e.kind<7) && aV e.t nt && hasB nt ns no np e scan && gV e scan
@[reducible] def Pp (n:I):Array O:=#[.nilFunc,.func (.func 120) #[] #[j (y ⟨n+1,0,m⟩),j (y ⟨n,0,m⟩)],.func (.func 121) #[] #[j (y ⟨n+1,0,m⟩),j (y ⟨n,0,m⟩)],.func (.func 123) #[] #[j (y ⟨n+1,0,m⟩),j (y ⟨n,0,m⟩)],.func (.func 124) #[] #[j (y ⟨n,0,m⟩),j (y ⟨n+1,0,m⟩)],.func (.func 127) #[] #[],.func (.func 128) #[] #[]]
theorem vz (h:HC)(e:EvC)(scan bl:G Sn)(B:EvC)(R:N)(F k:I)(caps:Array O)(W:r)(hr:Row W 3 dV e.sa e.sn e.sc scan)(ht:aV e.t h.t.n=S)(hk:e.kind=(k:J))(hk1:1<=k)(hk7:k<7)
  (hF:(Pp W.1.size)[k]?=y (.func (.func F) #[] caps)) (eg:∀args w,(L F args).run f w= .ok (.enter F args) w) (hcall:∀w1,Below W.1.size W w1->Bx w1 (W.1.size+1) (aS e)->Bx w1 W.1.size (aD h)->E f F caps w1 (uF (fZ B) (z R) w1))
  (hbl:∀W',Below W.1.size W W'->Row W' 3 dV B.sa B.sn B.sc bl) (hfin:gL h.t.n h.s.n h.o.n h.p.n e scan=(R && (gF {B with kind:=k,t:=e.t} e && decide (bl=scan)))):
  E f 77 #[bG h,fZ e] W (dw (z (gL h.t.n h.s.n h.o.n h.p.n e scan)) W):=by
 rw[hfin];obtain⟨kind,t,bW,lvl,obj,v,pred,sa,sn,sc⟩:=e;simp only at hk hr ht hcall;subst hk;obtain⟨R2,hR2⟩:∃R2:N,R2=(gF {B with kind:=k,t:=t} ⟨k,t,bW,lvl,obj,v,pred,sa,sn,sc⟩ && decide (bl=scan)):=⟨_,rfl⟩;show E _ _ _ _ (dw (z (R && (gF {B with kind:=k,t:=t} ⟨k,t,bW,lvl,obj,v,pred,sa,sn,sc⟩ && decide (bl=scan)))) W);rw[<-hR2];have nH:=g hR2;have HF:=g hF;have iB:=g hcall;have yg:=g hbl;have HT:=g ht;have HR:=g hr;have g1:¬((k:J)<1):=by omega
 have g7:(k:J)<7:=by omega
 clear hR2 ht hr hfin hF hcall hbl hk1 hk7;have hE0:=((M (W.alloc (l (aD h) 29)) (aS ⟨k,t,bW,lvl,obj,v,pred,sa,sn,sc⟩) 50).alloc (l (Pp W.1.size) 194));have hH0:=(((M W (aD h) 29).alloc (l (aS ⟨k,t,bW,lvl,obj,v,pred,sa,sn,sc⟩) 50)).alloc (l (Pp W.1.size) 194));have hM0:=(M ((W.alloc (l (aD h) 29)).alloc (l (aS ⟨k,t,bW,lvl,obj,v,pred,sa,sn,sc⟩) 50)) (Pp W.1.size) 194);have hB0:=(((d W.1.size W).alloc (aB _) (l (aD h) 29)).alloc ak (l (aS ⟨k,t,bW,lvl,obj,v,pred,sa,sn,sc⟩) 50)).alloc (by simp;omega) (l (Pp W.1.size) 194);simp only[World.size_alloc] at hE0 hH0 hM0;have Mi:=g hE0;have HH0:=g hH0;have HM0:=g hM0;have HB0:=g hB0;clear hE0 hH0 hM0 hB0;go_enter func77,ntmps77;go_wp2_with fail;refine(NT h _ _).mono ?_;rintro e w1 ⟨rfl,hb1⟩;rw[HT.q];have Pq:=g (Mi.q.keep hb1);have HH1:=g (HH0.q.keep hb1);have MB:=g (HM0.q.keep hb1);have HBb:=g (HB0.q.bZ hb1);have hE1:=Pq.q;have hcM:=(MB.q.1 k).trans HF.q;clear hb1;go_wp2_with fail;refine(iB.q w1 HBb.q Pq.q HH1.q).mono ?_;rintro e w2 ⟨rfl,hb2⟩;have HR:=g (HR.q.below (HBb.q.bZ hb2) rfl);have HE2:=Pq.q.keep hb2;have Pt:=g (HBb.q.bZ hb2);have HL:=g (bM Pq.q.2.2 hb2.size);have HS:Hid (∀W',Below w2.1.size w2 W'->Bx W' (W.1.size+1) (aS ⟨k,t,bW,lvl,obj,v,pred,sa,sn,sc⟩)):=λW' hb=>HE2.keep hb
 clear hb2 hE1 hcM HE2 Pq MB HH1 Mi HH0 HM0 HB0 HBb
 cases R
 all_goals
  go_wp2_with fail;have HX:=g ((M w2 (aS (B)) 50).drew);have HB:=g (((d w2.1.size w2).alloc (aB _) (l (aS (B)) 50)).drew);refine aC 0 [(0,1),(1,1),(2,1),(3,1),(4,1),(5,2),(6,1),(7,2)] (λW'=>Bx W' (W.1.size+1) (aS ⟨k,t,bW,lvl,obj,v,pred,sa,sn,sc⟩)) (λ_=>True) ay ay (HS.q _ HB.q) trivial ?_;refine qC ?_;have hX:=HX.q;refine bC rfl rfl rfl (λK hK=>?_);go_simp;refine hK _ _ (HS.q _ (((d _ _).alloc (aB _) _).drew)) ?_;clear hK K;refine qC ?_;refine bC rfl rfl rfl (λK hK=>?_);go_simp;refine hK _ _ (HS.q _ (((d _ _).alloc (aB _) _).drew)) ?_;clear hK K;clear hX HX;have hS2:=HS.q _ (((d w2.1.size w2).alloc (aB _) (l (aS {B with kind:=k,t:=t}) 50)).drew);have HL2:=HL.q;refine aP ?_;go_wp2_with fail
 .go_ret
  exact⟨rfl,Pt.q.trans ((((d w2.1.size w2).alloc (aB _) (l (aS {B with kind:=k,t:=t}) 50)).drew).mono Pt.q.size)⟩
 .refine(SY {B with kind:=k,t:=t} ⟨k,t,bW,lvl,obj,v,pred,sa,sn,sc⟩ bl scan _ (yg.q _ (Pt.q.trans ((((d w2.1.size w2).alloc (aB _) (l (aS {B with kind:=k,t:=t}) 50)).drew).mono Pt.q.size))) (HR.q.below (((d w2.1.size w2).alloc (aB _) (l (aS {B with kind:=k,t:=t}) 50)).drew) rfl)).mono ?_
  rintro e w3 ⟨rfl,hb3⟩;rw[show(gF {B with kind:=k,t:=t} ⟨k,t,bW,lvl,obj,v,pred,sa,sn,sc⟩ && decide (bl=scan))=R2 from by simp[nH.q]];go_wp2_with fail;go_ret;exact⟨rfl,Pt.q.trans (((((d w2.1.size w2).alloc (aB _) (l (aS {B with kind:=k,t:=t}) 50)).drew).mono Pt.q.size).trans (hb3.mono (by have:=Pt.q.size;simp;omega)))⟩
theorem agZ:∀args w,(L 120 args).run f w= .ok (.enter 120 args) w:=enters_of func120 ay rfl
theorem ag0:∀args w,(L 121 args).run f w= .ok (.enter 121 args) w:=enters_of func121 ay rfl
theorem ag1:∀args w,(L 123 args).run f w= .ok (.enter 123 args) w:=enters_of func123 ay rfl
theorem ag2:∀args w,(L 124 args).run f w= .ok (.enter 124 args) w:=enters_of func124 ay rfl
theorem ag3:∀args w,(L 127 args).run f w= .ok (.enter 127 args) w:=enters_of func127 ay rfl
theorem ag4:∀args w,(L 128 args).run f w= .ok (.enter 128 args) w:=enters_of func128 ay rfl
theorem aas (h:HC)(e:EvC)(_scan:G Sn)(W:r)(h1:e.kind<1):
  E f 77 #[bG h,fZ e] W (dw (z u) W):=by
 obtain⟨kind,t,bW,lvl,obj,v,pred,sa,sn,sc⟩:=e;skip;go_enter func77,ntmps77;go_wp2_with fail;go_ret;exact⟨rfl,((((d W.1.size W).alloc (aB _) _).alloc ak _).alloc (by simp;omega) _)⟩
theorem aat (h:HC)(e:EvC)(_scan:G Sn)(W:r)(h1:¬e.kind<1)(h7:7<=e.kind):
  E f 77 #[bG h,fZ e] W (dw (z u) W):=by
 obtain⟨kind,t,bW,lvl,obj,v,pred,sa,sn,sc⟩:=e;skip;go_enter func77,ntmps77;go_wp2_with fail;go_ret;exact⟨rfl,((((d W.1.size W).alloc (aB _) _).alloc ak _).alloc (by simp;omega) _)⟩
theorem aau (h:HC)(e:EvC)(_scan:G Sn)(W:r)(h1:¬e.kind<1)(h7:¬7<=e.kind)(ht:aV e.t h.t.n=u):
  E f 77 #[bG h,fZ e] W (dw (z u) W):=by
 obtain⟨kind,t,bW,lvl,obj,v,pred,sa,sn,sc⟩:=e;have HT:=g ht;clear ht;go_enter func77,ntmps77
 go_wp2_with (go_at_call 74;refine(NT h _ _).mono ?_;rintro e w1 ⟨rfl,hb1⟩;rw[HT.q])
 go_ret;exact⟨rfl,((((d W.1.size W).alloc (aB _) _).alloc ak _).alloc (by simp;omega) _).trans (hb1.mono (by simp;omega))⟩
theorem Xu (h:HC)(e:EvC)(scan:G Sn)(W:r)(hr:Row W 3 dV e.sa e.sn e.sc scan):
  E f 77 #[bG h,fZ e] W (dw (z (gL h.t.n h.s.n h.o.n h.p.n e scan)) W):=by
 by_cases h1:e.kind<1
 .have:gL h.t.n h.s.n h.o.n h.p.n e scan=u:=by simp[gL,Int.not_le.2 h1]
  rw[this];exact aas h e scan W h1
 by_cases h7:7<=e.kind
 .have:gL h.t.n h.s.n h.o.n h.p.n e scan=u:=by simp[gL,Int.not_lt.2 h7]
  rw[this];exact aat h e scan W h1 h7
 cases ht:aV e.t h.t.n
 .have:gL h.t.n h.s.n h.o.n h.p.n e scan=u:=by simp[gL,ht]
  rw[this];exact aau h e scan W h1 h7 ht
 have hl:=hr.len;have hq:((e.sn:J)<=40)=(e.sn<=40):=propext ah;have hk:e.kind=1\/e.kind=2\/e.kind=3\/e.kind=4\/e.kind=5\/e.kind=6:=by omega
 have hn:∀W',Below W.1.size W W'->Row W' 3 dV m 0 0 ([]:G Sn):=λ_ _=>Row.jY
 rcases hk with hk|hk|hk|hk|hk|hk
 .exact vz h e scan [] (UI e) _ _ 1 _ W hr ht hk ah ah rfl agZ (λw1 _ h1 h2=>ag5 h e _ _ w1 h1 h2) hn (by simp[gL,hasB,gV,gF,ht,hk,eq_comm (a:=(0:J)),eq_comm (a:=(⟨0,0⟩:lK)),eq_comm (a:=([]:G Sn)),F8])
 .exact vz h e scan [] (UJ e) _ _ 2 _ W hr ht hk ah ah rfl ag0 (λw1 _ h1 h2=>ag6 h e _ _ w1 h1 h2) hn (by simp[gL,hasB,gV,gF,ht,hk,eq_comm (a:=(0:J)),eq_comm (a:=([]:G Sn)),F8,Bool.beq_eq_decide_eq])
 .exact vz h e scan [] (UK e) _ _ 3 _ W hr ht hk ah ah rfl ag1 (λw1 _ h1 h2=>ag7 h e _ _ w1 h1 h2) hn (by simp[gL,hasB,gV,gF,ht,hk,eq_comm (a:=(0:J)),eq_comm (a:=([]:G Sn)),F8])
 .exact vz h e scan scan (UH e) _ _ 4 _ W hr ht hk ah ah rfl ag2 (λw1 hb h1 h2=>agT h e _ _ w1 h1 h2 scan (hr.below hb rfl)) (λW' hb=>hr.below hb rfl) (by simp[gL,hasB,gV,gF,ht,hk,hl,hq,eq_comm (a:=(0:J)),eq_comm (a:=(⟨0,0⟩:lK)),F8])
 .exact vz h e scan [] Hr S _ 5 _ W hr ht hk ah ah rfl ag3 (λw1 _ _ _=>agU w1) hn (by simp[gL,hasB,gV,gF,ht,hk,eq_comm (a:=(0:J)),eq_comm (a:=(⟨0,0⟩:lK)),eq_comm (a:=([]:G Sn)),F8])
 .exact vz h e scan [] Hr S _ 6 _ W hr ht hk ah ah rfl ag4 (λw1 _ _ _=>agV w1) hn (by simp[gL,hasB,gV,gF,ht,hk,eq_comm (a:=(0:J)),eq_comm (a:=(⟨0,0⟩:lK)),eq_comm (a:=([]:G Sn)),F8])
def eZ (nt:I)(ds:G J):N:=decide (ds.length<=300) && ds.all (λx=>aV x nt)
theorem aeK (h:HC)(x:J)(bh:I)(w:r)(hH:Bx w bh (aD h)):E f 73 #[H .i64 x,j (y ⟨bh,0,m⟩)] w (dw (z (aV x h.t.n)) w):=by
 go_enter func73,ntmps73
 go_wp2_with (go_at_call 74;refine(NT h _ _).mono ?_;rintro e w1 ⟨rfl,hb1⟩)
 go_ret;exact⟨rfl,hb1⟩
theorem Xv (h:HC)(a:Option Addr)(n c:I)(ds:G J)(bh:I)(w:r)(hH:Bx w bh (aD h))(hr:Row w 1 aX a n c ds):
  E f 71 #[.slice a n c,j (y ⟨bh,0,m⟩)] w (dw (z (eZ h.t.n ds)) w):=by
 have hA:=ag8 a n c 73 #[j (y ⟨bh,0,m⟩)] ds (λx=>aV x h.t.n) w hr call73
  (λx _ W2 hW2=>aeK h x bh W2 (hH.keep hW2))
 have hlen:=hr.len;have HA:=g hA;have HLEN:=g hlen;clear hA hH hr hlen;by_cases h3:(n:J)<=300
 .have hq:eZ h.t.n ds=ds.all (λx=>aV x h.t.n):=by simp[eZ,HLEN.q];omega
  rw[hq];have HQ:=g hq;clear hq;go_enter func71,ntmps71
  go_wp2_with (go_at_call 72;refine HA.q.mono ?_;rintro e w1 ⟨rfl,hb1⟩)
  go_ret;exact⟨rfl,hb1⟩
 .have hq:eZ h.t.n ds=u:=by simp[eZ,HLEN.q];omega
  rw[hq];clear hq;go_enter func71,ntmps71;go_wp2_with fail;go_ret;exact⟨rfl,d _ _⟩
theorem ag9 (h:HC)(e:EvC)(scan:G Sn)(bh:I)(w:r)(hH:Bx w bh (aD h))(hr:Row w 3 dV e.sa e.sn e.sc scan):
  E f 76 #[fZ e,j (y ⟨bh,0,m⟩)] w (dw (z (gL h.t.n h.s.n h.o.n h.p.n e scan)) w):=by
 have hb0:Below w.1.size w (w.alloc (l (aS e) 50)):=(d _ _).alloc (aB _) _;have hE:=Xu h e scan _ (hr.below hb0 rfl);have hH1:=hH.keep hb0;have hlt:=hH.2.2;have HE:=g hE;have HB:=g hb0;clear hE hb0 hr hH;go_enter func76,ntmps76
 go_wp2_with (go_at_call 77;refine HE.q.mono ?_;rintro e w1 ⟨rfl,hb1⟩)
 go_ret;exact⟨rfl,HB.q.bZ hb1⟩
theorem ag' (h:HC)(x:aM)(ds:G J)(bh b9:I)(w:r)(hH:Bx w bh (aD h))(h9:Bx w b9 #[.func (.func 71) #[] #[j (y ⟨bh,0,m⟩)]])(hr:Row w 1 aX x.sa x.sn x.sc ds):
  E f 79 #[za x,j (y ⟨bh,0,m⟩),j (y ⟨b9,0,m⟩)] w (dw (z (aV x.obj h.o.n && eZ h.t.n ds)) w):=by
 have hb0:Below w.1.size w (w.alloc (l (Lh x) 79)):=(d _ _).alloc (aB _) _;have hX0:=M w (Lh x) 79;have hH1:=hH.keep hb0;have Xw:=h9.keep hb0;have hlt:=hH.2.2;have anW:=h9.2.2;have HS:=g (⟨hX0,hH1,Xw,hr.below hb0 rfl⟩:Bx _ _ _/\Bx _ _ _/\Bx _ _ _/\Row _ 1 aX x.sa x.sn x.sc ds);have HB:=g hb0;clear hX0 hb0 hr hH h9 hH1 Xw
 cases hq:aV x.obj h.o.n
 all_goals
  have HQ:=g hq;clear hq;have hs:=HS.q;go_enter func79,ntmps79;go_wp2_with fail;refine(Kt h _ _).mono ?_;rintro e w1 ⟨rfl,hb1⟩;rw[HQ.q];clear hs;have hs:=NU (⟨HS.q.1,HS.q.2.1,HS.q.2.2.1⟩:Bx _ _ _/\Bx _ _ _/\Bx _ _ _) hb1;have HR:=g (HS.q.2.2.2.below hb1 rfl);have HB:=g (HB.q.bZ hb1);have HSz:=g HB.q.size;clear hb1;go_wp2_with fail
 .go_ret
  exact⟨rfl,HB.q⟩
 .refine(Xv h x.sa x.sn x.sc ds bh w1 hs.2.1 HR.q).mono ?_
  rintro e w2 ⟨rfl,hb2⟩;clear hs;go_wp2_with fail;go_ret;exact⟨rfl,HB.q.trans (hb2.mono HSz.q)⟩
theorem aha (h:HC)(x:aN)(ds:G J)(bh b9:I)(w:r)(hH:Bx w bh (aD h))(h9:Bx w b9 #[.func (.func 71) #[] #[j (y ⟨bh,0,m⟩)]])(hr:Row w 1 aX x.sa x.sn x.sc ds):
  E f 81 #[ze x,j (y ⟨bh,0,m⟩),j (y ⟨b9,0,m⟩)] w (dw (z (aV x.pred h.p.n && aV x.obj h.o.n && eZ h.t.n ds)) w):=by
 have hb0:Below w.1.size w (w.alloc (l (Li x) 84)):=(d _ _).alloc (aB _) _;have hX0:=M w (Li x) 84;have hH1:=hH.keep hb0;have Xw:=h9.keep hb0;have hlt:=hH.2.2;have anW:=h9.2.2;have HS:=g (⟨hX0,hH1,Xw,hr.below hb0 rfl⟩:Bx _ _ _/\Bx _ _ _/\Bx _ _ _/\Row _ 1 aX x.sa x.sn x.sc ds);have HB:=g hb0;clear hX0 hb0 hr hH h9 hH1 Xw
 cases hq:aV x.pred h.p.n
 all_goals cases hq2:aV x.obj h.o.n
 all_goals
  have HQ:=g hq;have HQ2:=g hq2;clear hq hq2;have hs:=HS.q;go_enter func81,ntmps81;go_wp2_with fail;refine(ada h _ _).mono ?_;rintro e w1 ⟨rfl,hb1⟩;rw[HQ.q];clear hs;have hs:=NU (⟨HS.q.1,HS.q.2.1,HS.q.2.2.1⟩:Bx _ _ _/\Bx _ _ _/\Bx _ _ _) hb1;have HT:=g hs;have HR:=g (HS.q.2.2.2.below hb1 rfl);have HB:=g (HB.q.bZ hb1);have HSz:=g HB.q.size;clear hb1;go_wp2_with fail
 .go_ret
  exact⟨rfl,HB.q⟩
 .go_ret
  exact⟨rfl,HB.q⟩
 all_goals
  refine(Kt h _ _).mono ?_;rintro e w2 ⟨rfl,hb2⟩;rw[HQ2.q];clear hs;have hs:=NU HT.q hb2;have HR:=g (HR.q.below hb2 rfl);have HB:=g (HB.q.bZ hb2);have HSz:=g HB.q.size;clear hb2;go_wp2_with fail
 .go_ret
  exact⟨rfl,HB.q⟩
 .refine(Xv h x.sa x.sn x.sc ds bh w2 hs.2.1 HR.q).mono ?_
  rintro e w3 ⟨rfl,hb3⟩;clear hs;go_wp2_with fail;go_ret;exact⟨rfl,HB.q.trans (hb3.mono HSz.q)⟩
theorem ahb (h:HC)(x:Wa)(bh:I)(w:r)(hH:Bx w bh (aD h)):
  E f 83 #[zf x,j (y ⟨bh,0,m⟩)] w (dw (z (aV x.bW h.s.n && decide (0<=x.bits) && decide (x.bits<=15))) w):=by
 have hb0:Below w.1.size w (w.alloc (l (Lj x) 88)):=(d _ _).alloc (aB _) _;have hX0:=M w (Lj x) 88;have hH1:=hH.keep hb0;have hlt:=hH.2.2;have HS:=g (⟨hX0,hH1⟩:Bx _ _ _/\Bx _ _ _);have HB:=g hb0;clear hX0 hb0 hH hH1;obtain⟨R,hR⟩:∃R:N,R=(decide (0<=x.bits) && decide (x.bits<=15)):=⟨_,rfl⟩;rw[F8,<-hR];have HF:=g hR;clear hR
 cases hq:aV x.bW h.s.n
 all_goals
  have HQ:=g hq;clear hq;have hs:=HS.q;go_enter func83,ntmps83;go_wp2_with fail;refine(adh h _ _).mono ?_;rintro e w1 ⟨rfl,hb1⟩;rw[HQ.q];clear hs;have hs:=adi HS.q hb1;have HB:=g (HB.q.bZ hb1);clear hb1
  cases h1:decide (0<=x.bits)
  all_goals cases h2:decide (x.bits<=15)
  all_goals
   go_wp2_with fail;go_ret;exact⟨by rw[HF.q,h1,h2];rfl,HB.q⟩
attribute [local go_sem] Oper.semAt_some
theorem Same.setCell {A:I->Prop}(X:r)(b o:I)(v:O)(hb:¬A b):Same A X (X.setCell ⟨b,o,m⟩ v):=
 ⟨rfl,rfl,rfl,by simp[World.setCell],λi hi _=>P _ _ _ _ (λe=>by have e':i=b:=e;rw[e'] at hi;exact hb hi)⟩
theorem aQ.setCell {A:I->Prop}(X:r)(b o:I)(v:O)(hb:¬A b):aQ A X (X.setCell ⟨b,o,m⟩ v):=
 ⟨by simp[World.setCell],λi hi _=>P _ _ _ _ (λe=>by have e':i=b:=e;rw[e'] at hi;exact hb hi)⟩
theorem aQ.bx {A:I->Prop}{X Y:r}{b:I}{cs:Array O}(k:aQ A X Y)(h:Bx X b cs)(ha:A b):Bx Y b cs:=
 ⟨λi=>(World.cell?_of_block (a:=⟨b,i,m⟩) (k.2 b ha h.2.2)).trans (h.1 i),λi=>(World.frozen?_of_block (a:=⟨b,i,m⟩) (k.2 b ha h.2.2)).trans (h.2.1 i),bM h.2.2 k.1⟩
theorem Bx.setOther {X:r}{b:I}{cs:Array O}(h:Bx X b cs)(c o:I)(v:O)(hb:b≠c):Bx (X.setCell ⟨c,o,m⟩ v) b cs:=
 (aQ.setCell (A:=λi=>i≠c) X c o v ak).bx h hb
def Xx (bw:I)(x:J × J)(args:Array O)(X:r):Prop:=
 ∃b o,b<bw/\args=#[H .i64 x.1,j (y ⟨b,o,m⟩)]/\X.cell? ⟨b,o,m⟩=y (H .i64 x.2)
end Yd
namespace Yd
open Go Go.RowKit Go.Proofs
def jN (v:lK):List (Int × Int):=if 0<v.k then [(0,v.t)] else []
end Yd
namespace Yd
open Go Go.RowKit Go.Proofs Go.Maps Tryz
open Go renaming World->f
open Tryz renaming prog->d
open Go.ChangeMaps (setBlock heap_setBlock_same heap_setBlock_other)
theorem ahc:Go.WideMaps.ArrKey d 114 3 2:=⟨underlying114,by kernel_rfl,by kernel_rfl,by kernel_rfl⟩
theorem El:Go.WideMaps.KeyLaw d 114:=ahc.law
theorem F9:Keyed d 114:=Keyed.of_law El
theorem ahd:∃m,Tryz.prog.types.size=m+1:=⟨Tryz.prog.types.size - 1,by kernel_rfl⟩
theorem Em (w:f):(zeroValue 3).run d w= .ok (.int .i64 0) w:=ay
@[reducible] def uo (n:Int):Prop:=(Lit.int .i64 n).wf=true
@[reducible] def kV (t o:Int):Value:= .agg #[.int .i64 t,.int .i64 o]
def kL (t o:Int):Lit:= .string (keyBytes [.int .i64 t,.int .i64 o])
theorem Ku {t o:Int}(ht:uo t)(ho:uo o):keyOf d 114 (kV t o)=some (kL t o):=Go.WideMaps.keyOf_pair ahc underlying3 ahd ht ho
theorem ahe {t o t' o':Int}(ht:uo t)(ho:uo o)(ht':uo t')(ho':uo o')(h:kL t o=kL t' o'):(t,o)=(t',o'):=by
 have h1:=Ku ht ho;rw[h] at h1;have:=El.inj h1 (Ku ht' ho');simp only[kV,Value.agg.injEq] at this
 simpa using this
def kY (W:f)(b:Nat)(L:List (Int × Int)):Prop:=
 ∃D:DataW Unit,IsMap D/\W.ownsMap d 114 (plainElem d 3) b L.length D/\∀t o,uo t->uo o->D.atKey (kL t o) (.lit (.int .i64 0))= .lit (.int .i64 (L.count (t,o):Nat))
theorem kY.new (w:f):kY (w.alloc (.map #[] 0)) w.1.size []:=⟨.map [],⟨[],rfl⟩,World.ownsMap_made _ _ _ _,λt o _ _=>by simp[DataW.atKey]⟩
theorem kY.of_eq {W W':f}{b:Nat}{L:List (Int × Int)}(h:kY W b L)(e:W'.1[b]?=W.1[b]?):kY W' b L:=by
 obtain⟨D,hD,⟨es,clock,hb,F,hs,hd⟩,hat⟩:=h;exact⟨D,hD,⟨es,clock,e.trans hb,F,hs,hd⟩,hat⟩
theorem kY.lt {W:f}{b:Nat}{L:List (Int × Int)}(h:kY W b L):b<W.1.size:=by
 obtain⟨D,hD,hown,hat⟩:=h;exact hown.lt
theorem kY.look {W:f}{b:Nat}{L:List (Int × Int)}(h:kY W b L){t o:Int}(ht:uo t)(ho:uo o):(Instr.lookup 149 (.map (some b)) (kV t o) false).run d W= .ok (.int .i64 (L.count (t,o):Nat)) W:=by
 obtain⟨D,_,hown,hat⟩:=h;obtain⟨c,hrun,hc,_⟩:=hown.lookup_int F9 underlying149 underlying3 (Em W) (Ku ht ho);rw[hat t o ht ho] at hc;simp only[DataW.lit.injEq,Lit.int.injEq,true_and] at hc;rw[hrun,hc]
theorem Ga {α:Type}{a b:α}{w w':f}(h:(Result.ok a w:Result α)= .ok b w'):a=b/\w=w':=by cases h;exact⟨rfl,rfl⟩
theorem ND {w:f}{b:Nat}{es:Array MapEntry}{clock:Nat}(hb:w.1[b]?=some (.map es clock)):(setBlock w b (.map es clock)).1[b]?=w.1[b]?:=by rw[heap_setBlock_same hb,hb]
theorem Dz {w:f}{b:Nat}{o:Obj}{es:Array MapEntry}{clock:Nat}(hb:w.1[b]?=some (.map es clock)):w.grownBy (setBlock w b o) (some b):=
 ⟨rfl,rfl,rfl,by simp[setBlock],λi _ hi=>heap_setBlock_other hb _ (λe=>hi (by rw[e]))⟩
theorem kY.inc {W:f}{b:Nat}{L:List (Int × Int)}(h:kY W b L){t o:Int}(ht:uo t)(ho:uo o)(hn:L.length<1000000):
  ∃(v0:Value)(st:Nat)(W1:f),(Instr.mapEntry 149 (.map (some b)) (kV t o)).run d W= .ok (.tuple #[v0,goInt st]) W1/\W.grownBy W1 (some b)/\W1.1.size=W.1.size/\
   (Instr.lookup 149 (.map (some b)) (kV t o) false).run d W1= .ok (.int .i64 (L.count (t,o):Nat)) W1/\
   ∀W2:f,W2.1[b]?=W1.1[b]?->∃W3,(Instr.entryStore 149 (.map (some b)) (goInt st) (.int .i64 ((L.count (t,o):Nat)+1))).run d W2= .ok () W3/\W2.grownBy W3 (some b)/\W3.1.size=W2.1.size/\kY W3 b ((t,o)::L):=by
 obtain⟨D,hD,hown,hat⟩:=h;have hcnt:uo ((L.count (t,o):Nat)+1):=by
  have:=List.count_le_length (a:=(t,o)) (l:=L);exact WalkArith.wf_i64 ah
 obtain⟨wS,hS,akx,hSg⟩:=hown.update F9 underlying149 (by unfold maxLen;omega) (Ku ht ho) (plainElem_int underlying3 hcnt);obtain⟨es,clock,hb,F,hs,hDe⟩:=id hown;have hkey:=Ku ht ho;obtain⟨v0,st,es1,clock1,hrun,_,hst⟩:=Go.WideElems.entry_then_store El underlying149 Em hb F hkey;refine⟨v0,st,_,hrun,Dz hb,by simp[setBlock],?_,λW2 h2=>?_⟩
 .rcases El.find W hkey es.toList F.keys with⟨h1,h2⟩|⟨j,e0,h1,h2,h3⟩
  .have hme:(Instr.mapEntry 149 (.map (some b)) (kV t o)).run d W= .ok (.tuple #[.int .i64 0,goInt clock]) (setBlock W b (.map (es.push ⟨kV t o,.int .i64 0,clock⟩) (clock+1))):=by
    simp[Instr.mapEntry,run_underlying underlying149,MapKept.run_getObj_map hb,El.check W false hkey,h1,MapKept.run_setObj_map _ hb,Result.andThen,setBlock]
   have hmu:(Instr.mapUpdate 149 (.map (some b)) (kV t o) (.int .i64 0)).run d W= .ok () (setBlock W b (.map (es.push ⟨kV t o,.int .i64 0,clock⟩) (clock+1))):=by
    simp[Instr.mapUpdate,run_underlying underlying149,MapKept.run_getObj_map hb,El.check W false hkey,h1,MapKept.run_setObj_map _ hb,Result.andThen,setBlock]
   obtain⟨w0,hu,anX,_⟩:=hown.update F9 underlying149 (by unfold maxLen;omega) hkey (plainElem_int (a:=0) underlying3 aj);have hw:=(Ga (hme.symm.trans hrun)).2;have hu:=(Ga (hmu.symm.trans hu)).2;rw[<-hw,hu];obtain⟨c,hl,hc,_⟩:=anX.lookup_int F9 underlying149 underlying3 (Em _) hkey;rw[atKey_put_same hD (by trivial)] at hc;simp only[DataW.lit.injEq,Lit.int.injEq,true_and] at hc;have hz:(L.count (t,o):Nat)=0:=by
    obtain⟨c',hl',hc',_⟩:=hown.lookup_int F9 underlying149 underlying3 (Em _) hkey;rw[hat t o ht ho] at hc';simp only[DataW.lit.injEq,Lit.int.injEq,true_and] at hc';have hl2:(Instr.lookup 149 (.map (some b)) (kV t o) false).run d W= .ok (.int .i64 0) W:=by
     simp[Instr.lookup,run_underlying underlying149,MapKept.run_getObj_map hb,El.check W es.isEmpty hkey,h1,Result.andThen]
    have hl3:=(Ga (hl'.symm.trans hl2)).1;simp only[Value.int.injEq,true_and] at hl3;omega
   rw[hl,hz,<-hc];rfl
  .have hj:es[j]?=some e0:=by simpa using h2
   have hsame:es.modify j (λe=>{e with key:=kV t o})=es:=by
    apply Array.ext'
    rw[Array.toList_modify]
    apply Ce
    intro i;rw[List.getElem?_modify]
    split
    .rename_i e
     subst e;rw[h2,Option.map_eq_map,Option.map_some,<-h3]
    .simp
   have hme:(Instr.mapEntry 149 (.map (some b)) (kV t o)).run d W= .ok (.tuple #[e0.val,goInt e0.born]) (setBlock W b (.map es clock)):=by
    simp[Instr.mapEntry,run_underlying underlying149,MapKept.run_getObj_map hb,El.check W false hkey,h1,hj,h3,El.stays W hkey,hsame,MapKept.run_setObj_map _ hb,Result.andThen,setBlock]
   have hw:=(Ga (hme.symm.trans hrun)).2;rw[<-hw];exact kY.look (kY.of_eq ⟨D,hD,hown,hat⟩ (ND hb)) ht ho
 .rw[heap_setBlock_same hb] at h2
  obtain⟨es',clock',hr1,hr2⟩:=hst W2 (.int .i64 ((L.count (t,o):Nat)+1)) h2;refine⟨_,hr1,Dz h2,by simp[setBlock],?_⟩;have hr2:=(Ga (hS.symm.trans hr2)).2;refine kY.of_eq (W:=wS) ⟨_,hD.put _ _,by simpa using akx,λt' o' ht' ho'=>?_⟩ (by rw[hr2,heap_setBlock_same hb,heap_setBlock_same h2]);by_cases he:(t',o')=(t,o)
  .obtain⟨rfl,rfl⟩:=Prod.mk.inj he
   rw[atKey_put_same hD (by trivial),List.count_cons_self];rfl
  .rw[atKey_put_other (λe=>he (ahe ht' ho' ht ho e)),hat t' o' ht' ho',List.count_cons_of_ne (λe=>he e.symm)]
end Yd
