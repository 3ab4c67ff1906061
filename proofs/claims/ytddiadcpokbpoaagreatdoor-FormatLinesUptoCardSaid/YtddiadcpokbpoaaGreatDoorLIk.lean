import Derived.Test.YtddiadcpokbpoaaGreatDoorLCnt
set_option linter.all false
set_option maxRecDepth 200000
set_option maxHeartbeats 8000000
namespace Yd
open List renaming range->y
open Option renaming some->z,none->B
open Go Go.RowKit Go.Proofs Go.Maps Tryz
open Go.Value renaming pointer->g,int->H,bool->I,slice->J
open RowKit renaming intOf->F
open Tryz renaming prog->A
open Yd renaming hid->f
open _root_ renaming List->r,Int->u,Bool->C,Nat->G
def KZ:G->u
 |0=>300
 |1=>60
 |2=>300
 |_=>60
def Cw (w:World):Prop:=Lib.Utf8Tabs 5 6 w/\∀i,i<4->w.cell? ⟨2,i,B⟩=z (H .i64 (KZ i))
theorem Cw.below {w w':World}(h:Cw w)(hb:Below w.1.size w w'):Cw w':=by
 refine⟨Utf8Tabs_below h.1 hb,λi hi=>?_⟩;rw[hb.cell (p:=⟨2,i,B⟩) (jC (h.2 i hi))];exact h.2 i hi
def HC.nm (h:HC):G->Sl
 |0=>h.t
 |1=>h.s
 |2=>h.o
 |_=>h.p
theorem YT (h:HC)(i:G)(hi:i<4)(w:World):(Instr.index 95 (.agg #[h.t.v,h.s.v,h.o.v,h.p.v]) (H .i64 i)).run A w= .ok (h.nm i).v w:=by
 match i,hi with
 |0,_=>exact afG h w
 |1,_=>exact afH h w
 |2,_=>exact afI h w
 |3,_=>exact afJ h w
theorem anC (a b c:u)(w:World):(Builtin.max_ #[3,3,3] 3 #[H .i64 a,H .i64 b,H .i64 c]).run A w= .ok (H .i64 (if c>(if b>a then b else a) then c else(if b>a then b else a))) w:=by
 simp[Builtin.max_,Builtin.max2]
def qg (ns:r Bs):C:=ns.all (λs=>bD ⟨s.toArray⟩) && decide ns.Nodup
def sI (nl:G->r Bs)(i:G):C:=decide (((nl i).length:u)<=KZ i) && qg (nl i)
def TI (h:HC):C:=decide ((h.e.n:u)<=3000) && decide ((if(h.w.n:u)>(if(h.m.n:u)>h.d.n then(h.m.n:u) else h.d.n) then(h.w.n:u) else(if(h.m.n:u)>h.d.n then(h.m.n:u) else h.d.n))<=3000)
def Deep (w:World)(h:HC)(es:r EvC)(ds:r aM)(ms:r aN)(qs:r Wa)(scan:EvC->r Sn)(dn:aM->r u)(mn:aN->r u):Prop:=
 Row w 9 dO h.e.a h.e.n h.e.c es/\Row w 2 eZ h.d.a h.d.n h.d.c ds/\Row w 4 eP h.m.a h.m.n h.m.c ms/\Row w 2 fQ h.w.a h.w.n h.w.c qs/\
 (∀x∈es,Row w 3 bS x.sa x.sn x.sc (scan x))/\(∀x∈ds,Row w 1 aQ x.sa x.sn x.sc (dn x))/\(∀x∈ms,Row w 1 aQ x.sa x.sn x.sc (mn x))
def TJ (h:HC)(dn:aM->r u)(x:aM):C:=bC x.obj h.o.n && gL h.t.n (dn x)
def TK (h:HC)(mn:aN->r u)(x:aN):C:=bC x.pred h.p.n && bC x.obj h.o.n && gL h.t.n (mn x)
def Nf (h:HC)(x:Wa):C:=bC x.dG h.s.n && decide (0<=x.bits) && decide (x.bits<=15)
def wu (h:HC)(nl:G->r Bs):C:=TI h && (y 4).all (sI nl)
def rF (h:HC)(nl:G->r Bs)(es:r EvC)(ds:r aM)(ms:r aN)(qs:r Wa)(scan:EvC->r Sn)(dn:aM->r u)(mn:aN->r u):C:=
 wu h nl && es.all (λe=>ja h.t.n h.s.n h.o.n h.p.n e (scan e)) && ds.all (TJ h dn) && ms.all (TK h mn) && qs.all (Nf h)
theorem QG {nl:G->r Bs}{R bb b0 d:C}{k:G}(hk:k<4)(hbb:bb=(R && (y k).all (sI nl)))(hb0:b0=(bb && d))(hl:sI nl k=(d && qg (nl k)))
  (h:b0=false\/qg (nl k)=false):(R && (y 4).all (sI nl))=false:=by
 cases hq:(R && (y 4).all (sI nl))
 .rfl
 .simp only[aU,jc,wT] at hq
  have h1:=hq.2 k hk;have h2:(y k).all (sI nl)=true:=by simp only[jc,wT];exact λx hx=>hq.2 x ah
  rw[hl,aU] at h1;rw[hb0,hbb,hq.1,h2,h1.1] at h;simp[h1.2] at h
theorem TL {nl:G->r Bs}{R bb b0 d:C}{k:G}(hbb:bb=(R && (y k).all (sI nl)))(hb0:b0=(bb && d))(hl:sI nl k=(d && qg (nl k)))
  (h:qg (nl k)=true):b0=(R && (y (k+1)).all (sI nl)):=by
 simp[List.range_succ,hb0,hbb,hl,h,Bb]
theorem YU {ns:r Bs}(h1:ns.all (λs=>bD ⟨s.toArray⟩)=true)(h2:ns.Nodup):qg ns=true:=by simp only[qg,h1,h2,decide_true,Bool.and_self]
theorem VZ {ns:r Bs}{x:Bs}{j:G}(hx:ns[j]?=z x)(hw:bD ⟨x.toArray⟩=false):qg ns=false:=by
 cases hq:qg ns
 .rfl
 .simp only[qg,aU,jc] at hq
  have:=hq.1 x (bQ hx);rw[hw] at this;cases this
theorem V5 {ns:r Bs}{x:Bs}{j:G}(hx:ns[j]?=z x)(hw:decide (x∈ns.take j)=true):qg ns=false:=by
 cases hq:qg ns
 .rfl
 .simp only[qg,aU,bf] at hq hw
  obtain⟨i,hi⟩:=List.getElem?_of_mem hw;have hij:i<j:=by
   have:=(bG.1 hi).1;simp at this;omega
  rw[List.getElem?_take_of_lt hij] at hi;have h1:=(bG.1 hi);have h2:=(bG.1 hx);obtain⟨p1,e1⟩:=h1;obtain⟨p2,e2⟩:=h2;exact absurd (e1.trans e2.symm) (GX.1 hq.2 i j p1 p2 hij)
theorem TM (h:HC)(nl:G->r Bs)(es:r EvC)(ds:r aM)(ms:r aN)(qs:r Wa)(scan:EvC->r Sn)(dn:aM->r u)(mn:aN->r u)(w:World)(hg:Cw w)
  (hn:∀i,i<4->Row w 1 encStr (h.nm i).a (h.nm i).n (h.nm i).c (nl i)) (hd:Deep w h es ds ms qs scan dn mn):
  Calls A 43 #[gH h] w (cK (I (rF h nl es ds ms qs scan dn mn)) w):=by
 have hmm:= @run_makeMap A;have hmx:=anC h.d.n h.m.n h.w.n;go_enter Tryz.func43,Tryz.ntmps43;obtain⟨R,hR⟩:∃R:C,R=TI h:=⟨_,rfl⟩;have HR:=f hR;clear hR;obtain⟨S,hS⟩:∃S:C,S=rF h nl es ds ms qs scan dn mn:=⟨_,rfl⟩;rw[<-hS];have HS:=f hS;have HD:=f hd;clear hS hd;obtain⟨E,hE⟩:∃E:C,E=es.all (λe=>ja h.t.n h.s.n h.o.n h.p.n e (scan e)):=⟨_,rfl⟩;obtain⟨D,hD⟩:∃D:C,D=ds.all (TJ h dn):=⟨_,rfl⟩;obtain⟨M,hM⟩:∃M:C,M=ms.all (TK h mn):=⟨_,rfl⟩;obtain⟨V,hV⟩:∃V:C,V=qs.all (Nf h):=⟨_,rfl⟩;have HAE:Hid (∀W',Below w.1.size w W'->Bx W' w.1.size (aH h)->Calls A 77 #[J h.e.a h.e.n h.e.c,.func (.func 78) #[] #[g (z ⟨w.1.size,0,B⟩)]] W' (cK (I E) W')):=λW' hb hx=>by
  rw[hE];exact ajj h.e.a h.e.n h.e.c 78 #[g (z ⟨w.1.size,0,B⟩)] es _ W' (HD.q.1.below hb rfl) call78
   (λx hxm W2 hW2=>aeR h x (scan x) w.1.size W2 (hx.keep hW2) ((HD.q.2.2.2.2.1 x hxm).below (hb.trans (hW2.mono hb.size)) rfl))
 have HAD:Hid (∀W' b9,Below w.1.size w W'->Bx W' w.1.size (aH h)->Bx W' b9 #[.func (.func 73) #[] #[g (z ⟨w.1.size,0,B⟩)]]->Calls A 80 #[J h.d.a h.d.n h.d.c,.func (.func 81) #[] #[g (z ⟨w.1.size,0,B⟩),g (z ⟨b9,0,B⟩)]] W' (cK (I D) W')):=λW' b9 hb hx h9=>by
  rw[hD];exact ajk h.d.a h.d.n h.d.c 81 #[g (z ⟨w.1.size,0,B⟩),g (z ⟨b9,0,B⟩)] ds _ W' (HD.q.2.1.below hb rfl) call81
   (λx hxm W2 hW2=>aeS h x (dn x) w.1.size b9 W2 (hx.keep hW2) (h9.keep hW2) ((HD.q.2.2.2.2.2.1 x hxm).below (hb.trans (hW2.mono hb.size)) rfl))
 have HAM:Hid (∀W' b9,Below w.1.size w W'->Bx W' w.1.size (aH h)->Bx W' b9 #[.func (.func 73) #[] #[g (z ⟨w.1.size,0,B⟩)]]->Calls A 82 #[J h.m.a h.m.n h.m.c,.func (.func 83) #[] #[g (z ⟨w.1.size,0,B⟩),g (z ⟨b9,0,B⟩)]] W' (cK (I M) W')):=λW' b9 hb hx h9=>by
  rw[hM];exact ajl h.m.a h.m.n h.m.c 83 #[g (z ⟨w.1.size,0,B⟩),g (z ⟨b9,0,B⟩)] ms _ W' (HD.q.2.2.1.below hb rfl) call83
   (λx hxm W2 hW2=>aeT h x (mn x) w.1.size b9 W2 (hx.keep hW2) (h9.keep hW2) ((HD.q.2.2.2.2.2.2 x hxm).below (hb.trans (hW2.mono hb.size)) rfl))
 have HAV:Hid (∀W',Below w.1.size w W'->Bx W' w.1.size (aH h)->Calls A 84 #[J h.w.a h.w.n h.w.c,.func (.func 85) #[] #[g (z ⟨w.1.size,0,B⟩)]] W' (cK (I V) W')):=λW' hb hx=>by
  rw[hV];exact ajm h.w.a h.w.n h.w.c 85 #[g (z ⟨w.1.size,0,B⟩)] qs _ W' (HD.q.2.2.2.1.below hb rfl) call85
   (λx hxm W2 hW2=>aeU h x w.1.size W2 (hx.keep hW2))
 have Br:Hid (S=(wu h nl && E && D && M && V)):=by rw[hE,hD,hM,hV];exact HS.q
 clear hE hD hM hV;have hix:=YT h;obtain⟨m,hm⟩:∃m:u,m=(if(h.w.n:u)>(if(h.m.n:u)>h.d.n then(h.m.n:u) else h.d.n) then(h.w.n:u) else(if(h.m.n:u)>h.d.n then(h.m.n:u) else h.d.n)):=⟨_,rfl⟩;have HRm:Hid (R=(decide ((h.e.n:u)<=3000) && decide (m<=3000))):=by rw[hm];exact HR.q
 rw[<-hm] at hmx;clear hm;have hB0:=(Bx.new w (aH h) 36);have HB0:=f hB0;have HN:=f hn;have HG:=f hg;clear hB0 hn hg
 cases he:decide ((h.e.n:u)<=3000)
 all_goals cases xI:decide (m<=3000)
 all_goals
  have hRm:R=_:=HRm.q;rw[he,xI] at hRm;simp only[Bool.and_true,Bool.and_false] at hRm;have HRe:=f hRm;clear hRm;go_wp2_with fail
  go_step3
  go_wp2_with fail
  go_step3
  go_wp2_with (go_at_call 45;refine(nZ h _).mono ?_;rintro e w1 ⟨rfl,hb1⟩)
  clear he xI;have HB1:=f (((Below.refl w.1.size w).alloc (aA _) (.cells (aH h) 36)).trans (hb1.mono au));have bP:=f (HB0.q.keep hb1);clear hb1
  go_loopw [3,29] (λb i wr=>∃(k:G)(bb:C),k<=4/\i= H .i64 k/\b= I bb/\bb=(R && (y k).all (sI nl))/\Below w.1.size w wr/\Bx wr w.1.size (aH h)) (λ_ i _=>4 - (F i).toNat)
  case atStart=>exact⟨0,_,by omega,rfl,rfl,by simp[HRe.q],HB1.q,bP.q⟩
  case round=>
   obtain⟨k,bb,hk,rfl,rfl,hbb,hbw,hxw⟩:=hrel;obtain⟨wo,hwo⟩:∃wo,wo=wr:=⟨_,rfl⟩;subst hwo;by_cases hlt:k<4
   .have gy:=f hbb;have bE:=f hbw;have gI:=f hxw
    have hlm:(wo.alloc (.map #[] 0)).cell? ⟨2,k,B⟩=z (H .i64 (KZ k)):=((HG.q.below hbw).below ((Below.refl _ _).alloc (aA _) _)).2 k hlt;have hrow:=HN.q k hlt;obtain⟨sl,hsl⟩:∃sl,sl=h.nm k:=⟨_,rfl⟩;have NW:=hix k hlt;rw[<-hsl] at hrow NW;obtain⟨sa,sn,sc⟩:=sl;have asH:∀W:World,(Instr.index 95 (.agg #[h.t.v,h.s.v,h.o.v,h.p.v]) (H .i64 k)).run A W= .ok (J sa sn sc) W:=NW;clear NW;have mX:=f hrow;have HIX:=f hix;obtain⟨lim,hlim⟩:∃l:u,l=KZ k:=⟨_,rfl⟩;rw[<-hlim] at hlm;have hlist:sI nl k=(decide ((sn:u)<=lim) && qg (nl k)):=by unfold sI;rw[hrow.len,hlim]
    clear hbb hbw hxw hrow hsl hix hlim;obtain⟨b0,hb0⟩:∃b0:C,b0=(bb && decide ((sn:u)<=lim)):=⟨_,rfl⟩;have YV:Hid ((b0=false\/qg (nl k)=false)->S=false):=λhor=>by
     have:=QG hlt gy.q hb0 hlist hor;rw[HS.q,rF,wu,<-HR.q,this];rfl
    have TN:Hid (qg (nl k)=true->b0=(R && (y (k+1)).all (sI nl))):=TL gy.q hb0 hlist;have iO:=f hb0;clear hb0 hlist
    cases bb
    all_goals cases hsl:decide ((sn:u)<=lim)
    all_goals
     have HSL:=f hsl;go_wp2_with fail;clear hsl;have HBM:=f (bE.q.alloc bE.q.size (.map #[] 0));have HXM:=f (gI.q.alloc (.map #[] 0));have HM:=f (wZ.new wo);have zM:=f bE.q.size;have jG:Hid (w.1.size≠wo.1.size):=Nat.ne_of_lt gI.q.2.2
     go_loopw [3,45] (λb i wv=>∃(j:G)(bj:C),j<=sn/\i= H .i64 j/\b= I bj/\bj=b0/\(0<j->b0=true)/\((nl k).take j).all (λs=>bD ⟨s.toArray⟩)=true/\((nl k).take j).Nodup/\
       Below w.1.size w wv/\Bx wv w.1.size (aH h)/\wZ wv wo.1.size ((nl k).take j)) (λ_ i _=>sn - (F i).toNat)
     case atStart=>exact⟨0,_,aV _,rfl,rfl,by rw[iO.q,HSL.q];rfl,λh=>absurd h aj,rfl,sD,HBM.q,HXM.q,HM.q⟩
     case round=>
      obtain⟨j,bj,hj,rfl,rfl,hbj,hpos,hall,hnd,hbv,hxv,hmv⟩:=hrel;have hle:=mX.q.le;by_cases hjlt:j<sn
      .obtain⟨x,b,o,hx,hab,hc⟩:=(mX.q.below hbv rfl).at_ hjlt
       have hc0:=hc 0 _ rfl;simp only[jo,bM] at hc0;have hTv:=(HG.q.below hbv).1;have HX:=f hx;have tC:=f hall;have HND:=f hnd;have asI:=f hpos;have HBJ:=f hbj;have mH:=f hbv;have yR:=f hxv;have HMV:=f hmv;subst hab;have HWD:=f (Ji ⟨x.toArray⟩ wr hTv);clear hc hx hall hnd hpos hbj hbv hxv hmv hTv
       cases bj
       .go_wp2_with fail
        go_ret;exact⟨by rw[YV.q (.inl HBJ.q.symm)];rfl,mH.q.alloc mH.q.size _⟩
       .cases hw:bD ⟨x.toArray⟩
        .have HW:=f hw;clear hw
         go_wp2_with fail;refine HWD.q.mono ?_;rintro e w2 ⟨rfl,hb2⟩;rw[HW.q];have HB2:=f (mH.q.bO hb2);clear hb2;go_wp2_with fail;go_ret;exact⟨by rw[YV.q (.inr (VZ HX.q HW.q))];rfl,HB2.q.alloc HB2.q.size _⟩
        .have HW:=f hw;clear hw
         go_wp2_with fail;refine HWD.q.mono ?_;rintro e w2 ⟨rfl,hb2⟩;rw[HW.q];have hlk:=(HMV.q.of_eq (hb2.block _ HMV.q.lt)).look x (F3 HW.q);obtain⟨w3,hput,xI,hg3⟩:=(HMV.q.of_eq (hb2.block _ HMV.q.lt)).put x (F3 HW.q) (by have:=mX.q.le;simp;unfold maxLen;omega);have HB2:=f (mH.q.bO hb2);have tY:=f xI;have nu:=f hg3;have eX:=f ((yR.q.keep hb2).of_eq hg3.size (hg3.block _ (dz yR.q.2.2 hb2.size) (λe=>jG.q (by simpa using e))));clear hb2 xI hg3
         cases hin:decide (x∈(nl k).take j)
         .rw[hin] at hlk
          have Fj:=f hin;clear hin;go_wp2_with fail;go_roundw
          case rel=>
           have htk:(nl k).take (j+1)=(nl k).take j++[x]:=by rw[eO,HX.q];rfl
           refine⟨j+1,true,by omega,by go_num,rfl,HBJ.q,λ_=>HBJ.q.symm,?_,?_,HB2.q.grown nu.q HB2.q.size (λi hi=>by cases hi;exact zM.q),eX.q,by rw[htk];exact tY.q⟩
           .rw[htk,List.all_append,tC.q];simp[HW.q]
           .rw[htk,zC]
            have hni:x∉(nl k).take j:=by simpa using Fj.q
            exact⟨HND.q,by simp,λa ha b hb e=>hni (by simp at hb;rw[<-hb,<-e];exact ha)⟩
          case measure=>
           simp[F];omega
         .rw[hin] at hlk
          have Fj:=f hin;clear hin;go_wp2_with fail;go_ret;exact⟨by rw[YV.q (.inr (V5 HX.q Fj.q))];rfl,HB2.q.alloc HB2.q.size _⟩
      .have hjn:j=sn:=by omega
       have htk:(nl k).take j=nl k:=dR (by rw[mX.q.len];omega);rw[htk] at hall hnd;have HE:=f (hbj.trans (TN.q (YU hall hnd)));have mH:=f hbv;have yR:=f hxv;clear hall hnd hbj hbv hxv hmv hpos;go_wp2_with fail;go_roundw
       case rel=>exact⟨k+1,bj,by omega,by go_num,rfl,HE.q,mH.q,yR.q⟩
       case measure=>simp[F];omega
   .have hk4:k=4:=by omega
    subst hk4;have gy:=f hbb;have bE:=f hbw;have gI:=f hxw;clear hbb hbw hxw
    cases bb
    .go_wp2_with fail
     go_ret;exact⟨by rw[HS.q,rF,wu,<-HR.q,<-gy.q];rfl,bE.q.alloc bE.q.size _⟩
    .have HNT:Hid (wu h nl=true):=by
      show wu h nl=true;rw[wu,<-HR.q,<-gy.q]
     have wz:=gI.q.alloc (.cells #[.func (.func 73) #[] #[g (z ⟨w.1.size,0,B⟩)]] 139);have hn9:=Bx.new wo #[.func (.func 73) #[] #[g (z ⟨w.1.size,0,B⟩)]] 139;have qM:=bE.q.alloc bE.q.size (.cells #[.func (.func 73) #[] #[g (z ⟨w.1.size,0,B⟩)]] 139);have Oq:=f wz;have Ot:=f hn9;have Ou:=f qM;have FC:=f (HAE.q _ qM wz);clear hn9 qM;go_wp2_with fail;refine FC.q.mono ?_;rintro e w2 ⟨rfl,hb2⟩;clear wz;have hx2:=Oq.q.keep hb2;have hn2:=Ot.q.keep hb2;have YW:=Ou.q.bO hb2;have bL:=f hx2;have fT:=f hn2;have HB2:=f YW;have HCD:=f (HAD.q _ _ YW hx2 hn2);clear hn2 YW hb2
     cases E
     .go_wp2_with fail
      go_ret;exact⟨by rw[Br.q];simp,HB2.q⟩
     go_wp2_with fail;refine HCD.q.mono ?_;rintro e w3 ⟨rfl,hb3⟩;clear hx2;have hx3:=bL.q.keep hb3;have Ip:=fT.q.keep hb3;have YX:=HB2.q.bO hb3;have eX:=f hx3;have lV:=f Ip;have HB3:=f YX;have HCM:=f (HAM.q _ _ YX hx3 Ip);clear Ip YX hb3
     cases D
     .go_wp2_with fail
      go_ret;exact⟨by rw[Br.q];simp,HB3.q⟩
     go_wp2_with fail;refine HCM.q.mono ?_;rintro e w4 ⟨rfl,hb4⟩;clear hx3;have hx4:=eX.q.keep hb4;have YZ:=HB3.q.bO hb4;have fU:=f YZ;have Ih:=f (HAV.q _ YZ hx4);clear YZ hb4
     cases M
     .go_wp2_with fail
      go_ret;exact⟨by rw[Br.q];simp,fU.q⟩
     go_wp2_with fail;refine Ih.q.mono ?_;rintro e w5 ⟨rfl,hb5⟩;clear hx4;have jv:=f (fU.q.bO hb5);clear hb5;go_wp2_with fail;go_ret;exact⟨by rw[Br.q,HNT.q];simp,jv.q⟩
end Yd
namespace Yd
open Option renaming some->y,none->z
open Go Go.RowKit Go.Proofs Tryz
open Below renaming refl->M
open Go renaming Addr->j,World->A
open Go.Value renaming pointer->H,bool->N,int->S,string->U
open Lib renaming Utf8Tabs->O
open Tryz renaming prog->L
open World renaming putObj_heap_other->E,putObj_heap_same->T,alloc_heap_new->V
open _root_ renaming List->f,Int->u,Nat->F,Option->G,trivial->Z
def fI:F->Bs
 |0=>[]
 |1=>[98,101,103,105,110]
 |2=>[119,114,105,116,101]
 |3=>[114,101,97,100]
 |4=>[115,99,97,110]
 |5=>[99,111,109,109,105,116]
 |6=>[97,98,111,114,116]
 |7=>[111,114,100,101,114]
 |8=>[109,97,116,99,104]
 |_=>[119,97,110,116]
def cu:F->u
 |0=>0
 |1=>2
 |2=>2
 |3=>2
 |4=>2
 |5=>1
 |6=>1
 |7=>1
 |8=>2
 |_=>1
def bZ:F->u
 |0=>0
 |1=>108
 |2=>0
 |3=>118
 |4=>115
 |5=>0
 |6=>0
 |7=>116
 |8=>109
 |_=>103
def yg:F->Bs
 |0=>[114,121,119]
 |1=>[109,114]
 |2=>[109,119]
 |_=>[119,102,114]
def zT:F->Bs
 |0=>[]
 |1=>[49]
 |2=>[50]
 |3=>[50,46,57,57]
 |_=>[51]
def qc (w:A):Prop:=Cw w/\(∀k,k<10->w.cell? ⟨0,3*k,z⟩=y (U ⟨(fI k).toArray⟩)/\w.cell? ⟨0,3*k+1,z⟩=y (S .i64 (cu k))/\w.cell? ⟨0,3*k+2,z⟩=y (.int .i32 (bZ k)))/\
 (∀i,i<4->w.cell? ⟨4,i,z⟩=y (U ⟨(yg i).toArray⟩))/\(∀i,i<5->w.cell? ⟨1,i,z⟩=y (U ⟨(zT i).toArray⟩))
theorem qc.below {w w':A}(h:qc w)(hb:Below w.1.size w w'):qc w':=
 ⟨h.1.below hb,λk hk=>⟨bn hb rfl (h.2.1 k hk).1,bn hb rfl (h.2.1 k hk).2.1,bn hb rfl (h.2.1 k hk).2.2⟩,λi hi=>bn hb rfl (h.2.2.1 i hi),λi hi=>bn hb rfl (h.2.2.2 i hi)⟩
theorem Dj (s:Bs)(w:A)(hT:O 5 6 w):Calls L 31 #[valStr s] w (cK (S .i64 (if bD ⟨s.toArray⟩=true then 0 else 200)) w):=by
 have HW:=hid (Ji ⟨s.toArray⟩ w hT);clear hT
 cases hb:bD ⟨s.toArray⟩
 all_goals
  rw[hb] at HW;clear hb;go_enter Tryz.func31,Tryz.ntmps31;go_wp2_with fail;refine HW.q.mono ?_;rintro e w1 ⟨rfl,hb1⟩;have HB:=hid hb1;clear hb1;go_wp2_with fail;go_ret;exact⟨rfl,HB.q⟩
theorem Kg (s:Bs)(w:A)(hT:O 5 6 w):Calls L 30 #[valStr s] w (cK (N (!bD ⟨s.toArray⟩)) w):=by
 have HW:=hid (Dj s w hT);clear hT
 cases hb:bD ⟨s.toArray⟩
 all_goals
  rw[hb] at HW;clear hb;go_enter Tryz.func30,Tryz.ntmps30;go_wp2_with fail;refine HW.q.mono ?_;rintro e w1 ⟨rfl,hb1⟩;have HB:=hid hb1;clear hb1;simp only[dw,Ea,fE];go_wp2_with fail;go_ret;exact⟨rfl,HB.q⟩
def qF (t:To):Prop:=t=⟨[],0⟩\/(bD ⟨t.name.toArray⟩=true/\0<t.k/\t.k<=999)
theorem afL (t:To)(w:A)(hT:O 5 6 w)(ht:qF t):Calls L 28 #[vB t] w (cK (N true) w):=by
 rcases ht with rfl|⟨hw,h0,h9⟩
 .have hq:=V6 ⟨[],0⟩ ⟨[],0⟩
  go_enter Tryz.func28,Tryz.ntmps28;go_wp2_with fail;go_ret;exact⟨by simp,aB (M _ _) _⟩
 .obtain⟨n,k⟩:=t
  simp only at hw h0 h9;have hb0:=aB (M w.1.size w) (.cells #[U ⟨n.toArray⟩,S .i64 k] 52);have HW:=hid (Dj n _ (Utf8Tabs_below hT hb0));rw[hw] at HW;have HB:=hid hb0;have HX:=hid (Bx.new w #[U ⟨n.toArray⟩,S .i64 k] 52);have hk:(k==0)=false:=aR.2 ah;clear hT hw hb0;go_enter Tryz.func28,Tryz.ntmps28;go_wp2_with fail;refine HW.q.mono ?_;rintro e w1 ⟨rfl,hb1⟩;have hx:=(HX.q.keep hb1).1;have HB1:=hid (HB.q.bO hb1);clear hb1;simp only[dw];go_wp2_with fail;go_ret;exact⟨by simp,HB1.q⟩
theorem V7 (t:To)(w:A)(hT:O 5 6 w)(ht:qF t):Calls L 27 #[vB t] w (cK (N false) w):=by
 have hb0:=aB (M w.1.size w) (.cells (tq t) 52);have HW:=hid (afL t _ (Utf8Tabs_below hT hb0) ht);have HB:=hid hb0;clear hT hb0 ht;go_enter Tryz.func27,Tryz.ntmps27;go_wp2_with fail;refine HW.q.mono ?_;rintro e w1 ⟨rfl,hb1⟩;have HB1:=hid (HB.q.bO hb1);clear hb1;go_wp2_with fail;go_ret;exact⟨rfl,HB1.q⟩
theorem V8 (l:F)(h1:1<=l)(h4:l<=4)(w:A)(hg:qc w):Calls L 32 #[S .i64 l] w (sH (U ⟨(zT l).toArray⟩) (S .i64 0) w):=by
 have hl:Bt (l:u)=0:=Kh (by simp[fF];omega);have HL:=hid hl;have HG:=hid hg;clear hl hg;go_enter Tryz.func32,Tryz.ntmps32;go_wp2_with fail;refine(Dk _ _).mono ?_;rintro e w1 ⟨rfl,hb1⟩;rw[HL.q];have hc:=(HG.q.below hb1).2.2.2 l ah;have HB:=hid hb1;clear hb1;go_wp2_with fail
 go_ret2
 exact⟨rfl,HB.q⟩
def dD (e:EvC)(scan:f Sn):f (u × u):=
 (0,e.t)::(if e.kind=1 then [(1,e.dG)] else if e.kind=2\/e.kind=3 then(2,e.obj)::cO e.v else if e.kind=4 then [(3,e.pred)] else [])++scan.flatMap (λs=>(2,s.obj)::cO s.v)
def kF (x:aM)(ds:f u):f (u × u):=(2,x.obj)::ds.map (λd=>(0,d))
def mY (x:aN)(ds:f u):f (u × u):=(3,x.pred)::(2,x.obj)::ds.map (λd=>(0,d))
def qU (x:Wa):f (u × u):=[(1,x.dG)]
def oz (es:f EvC)(ds:f aM)(ms:f aN)(qs:f Wa)(scan:EvC->f Sn)(dn:aM->f u)(mn:aN->f u):f (u × u):=
 es.flatMap (λe=>dD e (scan e))++ds.flatMap (λx=>kF x (dn x))++ms.flatMap (λx=>mY x (mn x))++qs.flatMap qU
def Reads (w X:A):Prop:=∀a v,w.cell? a=y v->X.cell? a=y v
theorem Reads.keep {w X Y:A}{D:F->Prop}(h:Reads w X)(k:bg D X Y)(hd:∀i,i<w.1.size->D i)(hs:w.1.size<=X.1.size):Reads w Y:=λa v hc=>by
 have hl:=jC hc;rw[World.cell?_of_block (k.2 a.block (hd _ hl) (dz hl hs))];exact h a v hc
theorem Row.reads {α:Type}{w X:A}{k:F}{enc:α->f Value}{a:G j}{n c:F}{xs:f α}(h:Row w k enc a n c xs)(hr:Reads w X):Row X k enc a n c xs:=h.ext hr
theorem K3 {n:u}{m:F}(h:bC n m=true):0<=n/\n<m:=by simpa[bC] using h
theorem afM {v:kZ}{nt:F}(h:iP v nt=true)(hk:0<v.k):0<=v.t/\v.t<nt:=by
 unfold iP at h;rw[ak ah] at h;simp only[aU] at h;exact K3 h.1.1
def Ep (x:u × u):Prop:=(0<=x.1/\x.1<4)/\0<=x.2/\x.2<300
theorem RL {v:kZ}{nt:F}(h:iP v nt=true)(hn:nt<=300):∀x∈cO v,Ep x:=by
 intro x hx;unfold cO at hx
 split at hx
 .obtain rfl:x=(0,v.t):=by simpa using hx
  have:=afM h ‹_›;exact⟨⟨by simp,by simp⟩,this.1,by have:=this.2;show v.t<300;omega⟩
 .cases hx
theorem tu {a n:u}{m:F}(ha:0<=a)(ha4:a<4)(h:bC n m=true)(hm:m<=300):Ep (a,n):=
 ⟨⟨ha,ha4⟩,(K3 h).1,by have:=(K3 h).2;show n<300;omega⟩
theorem afN {nt ns no np:F}{e:EvC}{scan:f Sn}(h:ja nt ns no np e scan=true)(h1:nt<=300)(h2:ns<=300)(h3:no<=300)(h4:np<=300):∀x∈dD e scan,Ep x:=by
 simp only[ja,aU] at h;obtain⟨⟨⟨⟨_,_⟩,ht⟩,hh⟩,hb⟩:=h;have hscan:∀s∈scan,Ep (2,s.obj)/\∀x∈cO s.v,Ep x:=by
  intro s hs;by_cases k4:e.kind=4
  .simp[hasB,k4] at hh
   obtain⟨⟨_,_⟩,ha⟩:=hh;have:=ha s hs;simp only[kU,aU] at this;exact⟨tu aj aj this.1 h3,RL this.2 h1⟩
  .have hn:scan=[]:=by
    unfold gG at hb;rw[ak k4] at hb
    split at hb
    .simpa using(by simp only[aU,bf] at hb;exact hb.2)
    .split at hb <;> (simp only[aU,bf] at hb;exact hb.2)
   rw[hn] at hs;cases hs
 intro x hx;simp only[dD,bJ,dP,ni] at hx;rcases hx with(rfl|hx)|⟨s,hs,hx⟩
 .exact tu aj aj ht h1
 .unfold hasB at hh
  split at hx
  .rw[ay ‹_›] at hh
   obtain rfl:x=(1,e.dG):=by simpa using hx
   simp only[aU] at hh;exact tu aj aj hh.1 h2
  .rename_i k1
   rw[ak k1] at hh
   split at hx
   .rename_i k23
    have hov:bC e.obj no=true/\iP e.v nt=true:=by
     rcases k23 with k2|k3
     .rw[ay k2] at hh;simp only[aU] at hh;exact hh.1.1
     .rw[ak ah,ay k3] at hh;simp only[aU] at hh;exact hh
    rcases dP.1 hx with rfl|hx
    .exact tu aj aj hov.1 h3
    .exact RL hov.2 h1 x hx
   .rename_i k23
    split at hx
    .rename_i k4
     rw[ak ah,ak ah,ay k4] at hh;simp only[aU] at hh;obtain rfl:x=(3,e.pred):=by simpa using hx
     exact tu aj aj hh.1.1 h4
    .cases hx
 .rcases hx with rfl|hx
  .exact(hscan s hs).1
  .exact(hscan s hs).2 x hx
theorem V9 {h:HC}{nl:F->f Bs}{es:f EvC}{ds:f aM}{ms:f aN}{qs:f Wa}{scan:EvC->f Sn}{dn:aM->f u}{mn:aN->f u}(hs:rF h nl es ds ms qs scan dn mn=true)
  (hlen:∀i,i<4->(nl i).length=(h.nm i).n):∀x∈oz es ds ms qs scan dn mn,Ep x:=by
 simp only[rF,wu,aU,jc,wT] at hs;obtain⟨⟨⟨⟨⟨_,hnm⟩,he⟩,hd⟩,hm⟩,hw⟩:=hs;have lim:∀i,i<4->(h.nm i).n<=300:=λi hi=>by
  have:=hnm i hi;simp only[sI,aU,bf] at this;have h1:=this.1;rw[hlen i hi] at h1;have:KZ i<=300:=by
   match i,hi with
   |0,_=>decide
   |1,_=>decide
   |2,_=>decide
   |3,_=>decide
  omega
 have lt:h.t.n<=300:=lim 0 aj;have ls:h.s.n<=300:=lim 1 aj;have lo:h.o.n<=300:=lim 2 aj;have lp:h.p.n<=300:=lim 3 aj;have ltd:∀(l:f u),gL h.t.n l=true->∀x∈l.map (λd=>((0:u),d)),Ep x:=λl hl x hx=>by
  obtain⟨d,hdm,rfl⟩:=dQ.1 hx;simp only[gL,aU,jc] at hl;exact tu aj aj (hl.2 d hdm) lt
 intro x hx;simp only[oz,bJ,ni] at hx;rcases hx with((⟨e,hem,hx⟩|⟨d,hdm,hx⟩)|⟨m,hmm,hx⟩)|⟨q,hqm,hx⟩
 .exact afN (he e hem) lt ls lo lp x hx
 .have:=hd d hdm
  simp only[TJ,aU] at this;rcases dP.1 hx with rfl|hx
  .exact tu aj aj this.1 lo
  .exact ltd _ this.2 x hx
 .have:=hm m hmm
  simp only[TK,aU] at this;rcases dP.1 hx with rfl|hx
  .exact tu aj aj this.1.1 lp
  .rcases dP.1 hx with rfl|hx
   .exact tu aj aj this.1.2 lo
   .exact ltd _ this.2 x hx
 .have:=hw q hqm
  simp only[Nf,aU] at this;obtain rfl:x=(1,q.dG):=by simpa[qU] using hx
  exact tu aj aj this.1.1 ls
@[reducible] def nM (a:G j)(q:F):j:=match a with|some ⟨b,o,_⟩=>⟨b,o+q,z⟩|none=>⟨0,0,z⟩
def jZ (p:j)(v:kZ):f (u × j):=if 0<v.k then [(0,p)] else []
def gr {α:Type}(hd:F->α->f (u × j))(sub:α->f (u × j)):F->f α->f (u × j)
 |_,[]=>[]
 |i,x::xs=>hd i x++(sub x++gr hd sub (i+1) xs)
@[reducible] def Ov (a:G j)(i:F)(s:Sn):f (u × j):=(2,nM a (i*3))::jZ (nM a (i*3+1)) s.v
@[reducible] def vO (a:G j)(i:F)(e:EvC):f (u × j):=
 (0,nM a (i*9+1))::(if e.kind=1 then [(1,nM a (i*9+2))] else if e.kind=2\/e.kind=3 then(2,nM a (i*9+4))::jZ (nM a (i*9+5)) e.v else if e.kind=4 then [(3,nM a (i*9+7))] else [])
@[reducible] def hdI (a:G j)(i:F)(_:u):f (u × j):=[(0,nM a i)]
@[reducible] def RN (a:G j)(i:F)(_:aM):f (u × j):=[(2,nM a (i*2))]
@[reducible] def Ow (a:G j)(i:F)(_:aN):f (u × j):=[(3,nM a (i*4)),(2,nM a (i*4+1))]
@[reducible] def RO (a:G j)(i:F)(_:Wa):f (u × j):=[(1,nM a (i*2))]
def su (a:G j):F->f Sn->f (u × j):=gr (Ov a) (λ_=>[])
def pW (a:G j)(scan:EvC->f Sn):F->f EvC->f (u × j):=gr (vO a) (λe=>su e.sa 0 (scan e))
def nO (a:G j):F->f u->f (u × j):=gr (hdI a) (λ_=>[])
def tN (a:G j)(dn:aM->f u):F->f aM->f (u × j):=gr (RN a) (λx=>nO x.sa 0 (dn x))
def tK (a:G j)(mn:aN->f u):F->f aN->f (u × j):=gr (Ow a) (λx=>nO x.sa 0 (mn x))
def xS (a:G j):F->f Wa->f (u × j):=gr (RO a) (λ_=>[])
def aT (h:HC)(es:f EvC)(ds:f aM)(ms:f aN)(qs:f Wa)(scan:EvC->f Sn)(dn:aM->f u)(mn:aN->f u):f (u × j):=
 pW h.e.a scan 0 es++(tN h.d.a dn 0 ds++(tK h.m.a mn 0 ms++xS h.w.a 0 qs))
theorem U8 {a:G j}{b o i:F}(ha:a=y ⟨b,o,z⟩)(s:Sn)(l:f Sn):su a i (s::l)=(2,(⟨b,o+i*3,z⟩:j))::(jZ ⟨b,o+i*3+1,z⟩ s.v++su a (i+1) l):=by subst ha;rfl
theorem Td {a:G j}{b o i:F}{scan:EvC->f Sn}(ha:a=y ⟨b,o,z⟩)(e:EvC)(es:f EvC):pW a scan i (e::es)=
  (0,(⟨b,o+i*9+1,z⟩:j))::((if e.kind=1 then [(1,(⟨b,o+i*9+2,z⟩:j))] else if e.kind=2\/e.kind=3 then(2,(⟨b,o+i*9+4,z⟩:j))::jZ ⟨b,o+i*9+5,z⟩ e.v else if e.kind=4 then [(3,(⟨b,o+i*9+7,z⟩:j))] else [])++(su e.sa 0 (scan e)++pW a scan (i+1) es)):=by
 subst ha;rfl
theorem Lv {a:G j}{b o i:F}(ha:a=y ⟨b,o,z⟩)(d:u)(l:f u):nO a i (d::l)=(0,(⟨b,o+i,z⟩:j))::nO a (i+1) l:=by subst ha;rfl
theorem Tf {a:G j}{b o i:F}{dn:aM->f u}(ha:a=y ⟨b,o,z⟩)(x:aM)(l:f aM):tN a dn i (x::l)=(2,(⟨b,o+i*2,z⟩:j))::(nO x.sa 0 (dn x)++tN a dn (i+1) l):=by subst ha;rfl
theorem Tg {a:G j}{b o i:F}{mn:aN->f u}(ha:a=y ⟨b,o,z⟩)(x:aN)(l:f aN):tK a mn i (x::l)=(3,(⟨b,o+i*4,z⟩:j))::(2,(⟨b,o+i*4+1,z⟩:j))::(nO x.sa 0 (mn x)++tK a mn (i+1) l):=by subst ha;rfl
theorem Ti {a:G j}{b o i:F}(ha:a=y ⟨b,o,z⟩)(x:Wa)(l:f Wa):xS a i (x::l)=(1,(⟨b,o+i*2,z⟩:j))::xS a (i+1) l:=by subst ha;rfl
def M4 (x:u × j)(args:Array Value)(_:A):Prop:=args=#[S .i64 x.1,H (y x.2)]
def A8 (C:j->Prop)(w X:A):Prop:=∀a v,C a->w.cell? a=y v->X.cell? a=y v
def abe (P:Program)(gf:F)(lb:Array Value){α:Type}(vS:α->Array Value->A->Prop)(k:F)(D:F->Prop)(R:A->Prop)(xs:f α)(W:A):Prop:=
 ∀(n l:F)(J Jx:f α->A->Prop),
  (∀s X Y,J s X->Same (λi=>i<W.1.size\/W.1.size+k<=i) X Y->J s Y)->
  (∀s X Y,Jx s X->Same (λi=>i<W.1.size\/W.1.size+k<=i) X Y->Jx s Y)->
  (∀s X,J s X->R X)->(∀s X,Jx s X->R X)->
  (∀pre x args X,J pre X->pre++[x]<+:xs->vS x args X->W.1.size+k<=X.1.size->∀m,YieldAt Fence.wide m P l args X λe Y=>
   (e= .returned (N true)/\J (pre++[x]) Y/\bg D X Y)\/(e= .returned (N false)/\Jx (pre++[x]) Y/\bg D X Y))->
  J [] W->
  CallsIn Fence.wide n P gf (#[.func (.yield l) #[] #[]]++lb) W λe Y=>∃v,e= .returned v/\(J xs Y\/∃pre,pre<+:xs/\Jx pre Y)
def qh (X:A)(a:j):u:=match X.cell? a with|some (S .i64 n)=>n|_=>0
theorem lK {X:A}{a:j}{n:u}(h:X.cell? a=y (S .i64 n)):qh X a=n:=by unfold qh;rw[h]
def jU (X:A)(p:u × j):u × u:=(p.1,qh X p.2)
theorem TP {P:Program}{α:Type}{g:Operand}{ps:Array Tmp}{assign body:Code}{Q:Exit->Act->A->Prop}{a:Act}{w:A}{n:F}
  {gf:F} {lb:Array Value} (hg:a.eval g= .func (.func gf) #[] lb) (eg:∀args w,(callFunc gf args).run P w= .ok (.enter gf args) w)
  {vS:α->Array Value->A->Prop} {k:F} {D:F->Prop} {R:A->Prop} {xs:f α}
  (hseq:∀W,Below w.1.size w W->W.1.size=w.1.size+2->abe P gf lb vS k D R xs W)
  (hD:¬D (w.1.size+1)) (hps:∀x args X,vS x args X->args.size=ps.size)
  (I:f α->A->Prop) (Ix:Code->f α->A->Prop)
  (hI:∀s X Y,I s X->Same (λi=>i<w.1.size\/w.1.size+2+k<=i) X Y->I s Y)
  (hIx:∀c s X Y,Ix c s X->Same (λi=>i<w.1.size\/w.1.size+2+k<=i) X Y->Ix c s Y)
  (hIR:∀s X,I s X->R X) (Y5:∀c s X,Ix c s X->R X)
  (h0:I [] w)
  (F4:∀pre x args X,I pre X->pre++[x]<+:xs->vS x args X->w.1.size+2+k<=X.1.size->∀m,
   assign.wpIn (Fence.wide.inRound (w.1.size+1)) m P (Exit.then (λa₁ X₁=>Below X.1.size X X₁/\∀X₂:A,Same (λi=>i≠w.1.size+1) X₁ X₂->
     body.wpIn (Fence.wide.inRound (w.1.size+1)) m P (Ki w.1.size D I Ix (pre++[x]) X₂) a₁ X₂) (λ_ _ _=>False))
    {tmps:=(ps.zip args).foldl (λt (p,v)=>t.setIfInBounds p v) a.tmps,defers:=[]} X)
  (hdone:∀X,I xs X->X.1[w.1.size]?=y (.deferred (y []))->Q .normal {a with defers:={target:= .collected w.1.size,args:=#[]}::a.defers} X)
  (hstop:∀c pre X,pre<+:xs->Ix c pre X->X.1[w.1.size]?=y (.deferred (y []))->c.wpIn Fence.wide n P Q {a with defers:={target:= .collected w.1.size,args:=#[]}::a.defers} X):
  (Code.rangeFunc g ps assign body).wpIn Fence.wide n P Q a w:=by
 refine wpIn_rangeFunc ?_;intro fn hfn;obtain⟨r,hr⟩:∃r:Loop,r={state:= .ready,pending:=none,fn,tmps:=a.tmps,params:=ps,assign,body,defers:=w.1.size}:=⟨_,rfl⟩;obtain⟨W1,hW1⟩:∃W1,(w.alloc (.deferred (y []))).alloc (.loop r)=W1:=⟨_,rfl⟩;have hs1:W1.1.size=w.1.size+2:=by rw[<-hW1];simp
 have hL1:W1.1[w.1.size+1]?=y (.loop r):=by
  rw[<-hW1];have:=V (w.alloc (.deferred (y []))) (.loop r);rwa[World.size_alloc] at this
 have hK1:W1.1[w.1.size]?=y (.deferred (y [])):=by
  rw[<-hW1];exact(Below.heap_alloc _ _ _ au).trans (V w _)
 have hb1:Below w.1.size w W1:=by rw[<-hW1];exact((M _ w).alloc (aA _) _).alloc au _
 have hI1:I [] W1:=hI _ _ _ h0 (.of_below hb1 (λi _ hi=>hi));refine⟨w.1.size+1,[{target:= .collected w.1.size,args:=#[]}],W1,{target:= .fn (.func gf) lb,args:=#[.func (.yield (w.1.size+1)) #[] #[]]},W1,gf,
  #[.func (.yield (w.1.size+1)) #[] #[]]++lb,W1,?_,?_,λ_ _=>Z,?_,λh=>(by cases h),?_⟩
 .rw[<-hW1,hr];exact run_enterLoop_outer _ _ _ _ _
 .simp only[resolve,hg]
  simp[go_sem]
 .simp[invoke,go_sem,eg]
 have hput:∀(s:f α)(X:A)(o:Obj),I s X->I s (X.putObj (w.1.size+1) o):=λs X o h=>hI s _ _ h (.putObj X o ah)
 have tZ:∀(c:Code)(s:f α)(X:A)(o:Obj),Ix c s X->Ix c s (X.putObj (w.1.size+1) o):=λc s X o h=>hIx c s _ _ h (.putObj X o ah)
 refine(hseq W1 hb1 hs1 (n - 1) (w.1.size+1)
  (λpre X=>I pre X/\X.1[w.1.size+1]?=y (.loop r)/\X.1[w.1.size]?=y (.deferred (y [])))
  (λpre X=>∃c,Ix c pre X/\X.1[w.1.size+1]?=y (.loop {r with state:= .done,pending:=some c})/\X.1[w.1.size]?=y (.deferred (y [])))
  ?_ ?_ (λs X h=>hIR s X h.1) (λs X h=>(let⟨c,hc,_⟩:=h;Y5 c s X hc)) ?_ ⟨hI1,hL1,hK1⟩).mono ?_
 .rintro s X Y ⟨h1,h2,h3⟩ hsame
  have e2:=(dI.1 h2).1;exact⟨hI s X Y h1 (hsame.mono (λi hi hl=>by omega)),(hsame.block _ ah e2).trans h2,(hsame.block _ ah ah).trans h3⟩
 .rintro s X Y ⟨c,h1,h2,h3⟩ hsame
  have e2:=(dI.1 h2).1;exact⟨c,hIx c s X Y h1 (hsame.mono (λi hi hl=>by omega)),(hsame.block _ ah e2).trans h2,(hsame.block _ ah ah).trans h3⟩
 .rintro pre x args X ⟨hi,hl,hk⟩ hpx hrep hsz m
  have hra:r.assign=assign:=by rw[hr]
  have hrb:r.body=body:=by rw[hr]
  have Cr:r.params=ps:=by rw[hr]
  have hrt:r.tmps=a.tmps:=by rw[hr]
  have hrs:r.state= .ready:=by rw[hr]
  have hrn:r.pending=z:=by rw[hr]
  have hrr:({r with state:= .ready,pending:=none}:Loop)=r:=by rw[hr]
  refine Es hl hrs Z (by rw[Cr];exact hps x args X hrep) ?_;have hR:=F4 pre x args X hi hpx hrep ah m;rw[<-hra,<-hrb,<-Cr,<-hrt] at hR;refine wpIn_mono hR ?_;rintro e a1 X1 hp
  cases e with
  |normal=>
   obtain⟨hb,hbody⟩:=hp;have Wd:=(dI.1 hl).1;have hl1:X1.1[w.1.size+1]?=y (.loop r):=(hb.block _ ah).trans hl;have hk1:X1.1[w.1.size]?=y (.deferred (y [])):=(hb.block _ ah).trans hk;have hlt1:=(dI.1 hl1).1;refine⟨hl1,wpIn_mono (hbody _ (.putObj X1 _ ah)) ?_⟩;have hl2:(X1.putObj (w.1.size+1) (.loop {r with state:= .busy})).1[w.1.size+1]?=y (.loop {r with state:= .busy}):=T hlt1;have hk2:(X1.putObj (w.1.size+1) (.loop {r with state:= .busy})).1[w.1.size]?=y (.deferred (y [])):=(E ah).trans hk1;rintro e a3 X3 hq;have fin:∀o,X3.1[w.1.size+1]?=(X1.putObj (w.1.size+1) (.loop {r with state:= .busy})).1[w.1.size+1]?->(X3.putObj (w.1.size+1) o).1[w.1.size+1]?=y o:=λo h=>
    T ((dI.1 (h.trans hl2)).1)
   have keep:∀o,bg D (X1.putObj (w.1.size+1) (.loop {r with state:= .busy})) X3->bg D X (X3.putObj (w.1.size+1) o):=λo hC=>
    (bg.of_below hb (λi _ hi=>hi)).trans (((bg.putObj X1 _ hD).trans hC).trans (bg.putObj X3 _ hD))
   cases e with
   |normal=>
    obtain⟨⟨hA,hB⟩,hC,hE⟩:=hq;refine⟨hB.trans hl2,.inl ⟨rfl,⟨hput _ _ _ hE,(fin _ hB).trans (by rw[hrr]),(E ah).trans (hA.trans hk2)⟩,?_⟩⟩;exact(bg.of_below hb (λi _ hi=>hi)).trans (((bg.putObj X1 _ hD).trans hC).trans (bg.putObj X3 _ hD))
   |ret=>
    obtain⟨⟨hA,hB⟩,hC,hE⟩:=hq;exact⟨hB.trans hl2,.inr ⟨rfl,⟨.ret,tZ _ _ _ _ hE,fin _ hB,(E ah).trans (hA.trans hk2)⟩,keep _ hC⟩⟩
   |exit id=>
    obtain⟨⟨hA,hB⟩,hC,hE⟩:=hq;exact⟨hB.trans hl2,.inr ⟨rfl,⟨.exit id,tZ _ _ _ _ hE,fin _ hB,(E ah).trans (hA.trans hk2)⟩,keep _ hC⟩⟩
   |goto t=>
    obtain⟨⟨hA,hB⟩,hC,hE⟩:=hq;exact⟨hB.trans hl2,.inr ⟨rfl,⟨.goto t,tZ _ _ _ _ hE,fin _ hB,(E ah).trans (hA.trans hk2)⟩,keep _ hC⟩⟩
   |panic _=>exact hq.elim
   |outgrown=>exact hq.elim
  |_=>exact hp.elim
 .rintro e X2 ⟨v,rfl,(⟨hi,hl,hk⟩|⟨pre,hpre,c,hi,hl,hk⟩)⟩
  .exact⟨z,_,by have:=run_endLoop (P:=P) hl (by rw[hr];simp);rwa[hr] at this,hdone _ (hput _ _ _ hi) ((E ah).trans hk)⟩
  .exact⟨y c,_,run_endLoop (P:=P) hl au,hstop c pre _ hpre (tZ _ _ _ _ hi) ((E ah).trans hk)⟩
attribute [local go_sem] Oper.semAt_some
section
variable (J Jx:f (u × j)->A->Prop)(D:F->Prop)(xs:f (u × j))(B l:F)
def Q0 (pre:f (u × j))(X:A):Prop:=
 Bx X B #[.func (.yield l) #[] #[]]/\Bx X (B+2) #[.func (.func 93) #[] #[H (y ⟨B+1,0,z⟩),H (y ⟨B,0,z⟩)]]/\
 ((Bx X (B+1) #[N true]/\J pre X)\/(Bx X (B+1) #[N false]/\∃p,p<+:xs/\Jx p X))
theorem Nr (hJ:∀s X Y,J s X->Same (λi=>i<B\/B+3<=i) X Y->J s Y)(hJx:∀s X Y,Jx s X->Same (λi=>i<B\/B+3<=i) X Y->Jx s Y)
  (hD:∀i,B<=i->i<B+3->D i)
  (hY:∀pre x args X,J pre X->pre++[x]<+:xs->M4 x args X->B+3<=X.1.size->∀m,YieldAt Fence.wide m L l args X λe Y=>
   (e= .returned (N true)/\J (pre++[x]) Y/\bg D X Y)\/(e= .returned (N false)/\Jx (pre++[x]) Y/\bg D X Y))
  (pre:f (u × j)) (s:u) (b o:F) (X:A) (hpre:pre++[(s,(⟨b,o,z⟩:j))]<+:xs) (hX:Q0 J Jx xs B l pre X) (m:F):
  CallsIn Fence.wide m L 93 #[S .i64 s,H (y ⟨b,o,z⟩),H (y ⟨B+1,0,z⟩),H (y ⟨B,0,z⟩)] X λe Y=>
   (∃v,e= .returned v)/\Q0 J Jx xs B l (pre++[(s,(⟨b,o,z⟩:j))]) Y/\bg (λi=>D i/\¬(B<=i/\i<B+3)) X Y:=by
 obtain⟨h0,h2,h1⟩:=hX;have hc0:=h0.1;have hl0:=h0.2.2;rcases h1 with⟨h1,hj⟩|⟨h1,p,hp,hj⟩
 .have hc1:=h1.1;have hl1:=h1.2.2
  obtain⟨fn,tmps,assign,body,hy,hR⟩:=hY pre (s,(⟨b,o,z⟩:j)) #[S .i64 s,H (y ⟨b,o,z⟩)] X hj hpre rfl h2.2.2 (m - 1);refine callsIn_of_wp func93 rfl Z ?_ rfl;simp only[ntmps93,zD,jd,mg,Nat.reduceAdd,Nat.reduceSub,A9,Ba,xV,xU,j3,gF];have H0:=hid h0;have H2:=hid h2;have H1:=hid h1
  gi_wp2
  refine⟨λh=>(by cases h),?_⟩;refine hR.mono ?_;clear hR hy hj;rintro e Y (⟨rfl,hJ',hk⟩|⟨rfl,F5,hk⟩)
  .have hy1:=hk.bx H1.q (hD _ ah ah);have hy0:=hk.bx H0.q (hD _ ah ah);have hy2:=hk.bx H2.q (hD _ ah ah)
   have hc1:=hy1.1;have hf1:=hy1.2.1
   gi_wp2
   go_end0
   exact⟨⟨_,rfl⟩,⟨hy0.setOther _ _ _ ah,hy2.setOther _ _ _ ah,.inl ⟨hy1.set1 _,hJ _ _ _ hJ' (Same.setCell _ _ _ _ ah)⟩⟩,
    (hk.mono (λi hi _=>hi.1)).trans (bg.setCell _ _ _ _ ah)⟩
  .have hy1:=hk.bx H1.q (hD _ ah ah);have hy0:=hk.bx H0.q (hD _ ah ah);have hy2:=hk.bx H2.q (hD _ ah ah)
   have hc1:=hy1.1;have hf1:=hy1.2.1
   gi_wp2
   go_end0
   exact⟨⟨_,rfl⟩,⟨hy0.setOther _ _ _ ah,hy2.setOther _ _ _ ah,.inr ⟨hy1.set1 _,_,hpre,hJx _ _ _ F5 (Same.setCell _ _ _ _ ah)⟩⟩,
    (hk.mono (λi hi _=>hi.1)).trans (bg.setCell _ _ _ _ ah)⟩
 .have hc1:=h1.1;have hl1:=h1.2.2;have hf1:=h1.2.1
  have H0:=hid h0;have H2:=hid h2;have H1:=hid h1;refine callsIn_of_wp func93 rfl Z ?_ rfl;simp only[ntmps93,zD,jd,mg,Nat.reduceAdd,Nat.reduceSub,A9,Ba,xV,xU,j3,gF]
  gi_wp2
  refine⟨λ_ h=>(by cases h),?_⟩
  gi_wp2
  go_end0
  exact⟨⟨_,rfl⟩,⟨H0.q.setOther _ _ _ ah,H2.q.setOther _ _ _ ah,.inr ⟨H1.q.set1 _,p,hp,hJx _ _ _ hj (Same.setCell _ _ _ _ ah)⟩⟩,bg.setCell _ _ _ _ ah⟩
end
variable (J Jx:f (u × j)->A->Prop)(D:F->Prop)(xs:f (u × j))(B l:F)
def aa9 (J Jx:f (u × j)->A->Prop)(D:F->Prop)(xs:f (u × j))(B l:F)(pre:f (u × j))(X:A)(e:Ending)(Y:A):Prop:=
 (∃v,e= .returned v)/\Q0 J Jx xs B l pre Y/\bg (λi=>D i/\¬(B<=i/\i<B+3)) X Y
theorem Yc (hJ:∀s X Y,J s X->Same (λi=>i<B\/B+3<=i) X Y->J s Y)(hJx:∀s X Y,Jx s X->Same (λi=>i<B\/B+3<=i) X Y->Jx s Y)
  (hD:∀i,B<=i->i<B+3->D i)
  (hY:∀pre x args X,J pre X->pre++[x]<+:xs->M4 x args X->B+3<=X.1.size->∀m,YieldAt Fence.wide m L l args X λe Y=>
   (e= .returned (N true)/\J (pre++[x]) Y/\bg D X Y)\/(e= .returned (N false)/\Jx (pre++[x]) Y/\bg D X Y))
  (pre:f (u × j)) (v:kZ) (b o:F) (X:A) (hpre:pre++jZ ⟨b,o,z⟩ v<+:xs) (hX:Q0 J Jx xs B l pre X) (hc1:X.cell? ⟨b,o+1,z⟩=y (S .i64 v.k)):
  Calls L 94 #[H (y ⟨b,o,z⟩),H (y ⟨B+2,0,z⟩)] X (aa9 J Jx D xs B l (pre++jZ ⟨b,o,z⟩ v) X):=by
 by_cases hk:0<v.k
 .have hv:jZ ⟨b,o,z⟩ v=[(0,(⟨b,o,z⟩:j))]:=by simp[jZ,hk]
  rw[hv] at hpre ⊢;have HX:=hid hX;go_enter func94,ntmps94;go_wp2_with fail;have hx2:=hX.2.1;have hAd:Q0 J Jx xs B l pre X.drew:=⟨hX.1.drew,hX.2.1.drew,by
   rcases hX.2.2 with⟨h1,hj⟩|⟨h1,p,hp,hj⟩
   .exact .inl ⟨h1.drew,hJ _ _ _ hj (Same.of_below ((M X.1.size X).drew) (λi _ hi=>hi))⟩
   .exact .inr ⟨h1.drew,p,hp,hJx _ _ _ hj (Same.of_below ((M X.1.size X).drew) (λi _ hi=>hi))⟩⟩
  have HS:=hid (callsIn_wide.1 (Nr J Jx D xs B l hJ hJx hD hY pre 0 b o X.drew hpre hAd 3));clear hAd;refine aC 0 [(0,1),(1,1),(2,1),(3,1),(4,2)] (λW'=>Bx W' (B+2) #[.func (.func 93) #[] #[H (y ⟨B+1,0,z⟩),H (y ⟨B,0,z⟩)]]) (λ_=>True) av av (hx2.drew) Z ?_;refine qC ?_;refine bq rfl rfl rfl (λK hK=>?_);go_simp;refine HS.q.mono ?_;rintro e Y ⟨⟨r,rfl⟩,hA,hk⟩;refine hK _ _ hA.2.1 ?_;clear hK K;refine aJ ?_;go_wp2_with fail
  go_end0
  exact⟨⟨_,rfl⟩,hA,(bg.of_below ((M X.1.size X).drew) (λi _ hi=>hi)).trans hk⟩
 .have hv:jZ ⟨b,o,z⟩ v=[]:=by simp[jZ,hk]
  rw[hv,fw];go_enter func94,ntmps94;go_wp2_with fail
  go_end0
  exact⟨⟨_,rfl⟩,hX,bg.refl _⟩
end Yd
namespace Yd
open Option renaming some->d,none->A
open Go Go.RowKit Go.Proofs
open Go renaming World->z,Addr->E,Value->F
open World renaming putObj_heap_other->u,putObj_heap_same->B,alloc_heap_new->C
section
variable {α:Type}{hd:Nat->α->List (Int × E)}{sub:α->List (Int × E)}
theorem fG:∀(xs:List α)(i:Nat)(p:Int × E),p∈gr hd sub i xs↔∃j x,xs[j]?=d x/\(p∈hd (i+j) x\/p∈sub x)
 |[],_,_=>⟨λh=>(by cases h),λ⟨_,_,h,_⟩=>(by cases h)⟩
 |x::xs,i,p=>by
  show p∈hd i x++(sub x++gr hd sub (i+1) xs)↔_;rw[bJ,bJ,fG xs (i+1) p]
  constructor
  .rintro(h|h|⟨j,y,h1,h2⟩)
   .exact⟨0,x,rfl,.inl h⟩
   .exact⟨0,x,rfl,.inr h⟩
   .exact⟨j+1,y,h1,by rw[show i+(j+1)=i+1+j by omega];exact h2⟩
  .rintro⟨j,y,h1,h2⟩
   cases j with
   |zero=>
    injection h1 with h1;subst h1;rcases h2 with h2|h2
    .exact .inl h2
    .exact .inr (.inl h2)
   |succ j=>exact .inr (.inr ⟨j,y,h1,by rw[show i+1+j=i+(j+1) by omega];exact h2⟩)
theorem Bu {β:Type}(f:Int × E->β)(g:α->List β):∀(xs:List α)(i:Nat),(∀j x,xs[j]?=d x->(hd (i+j) x).map f++(sub x).map f=g x)->(gr hd sub i xs).map f=xs.flatMap g
 |[],_,_=>rfl
 |x::xs,i,h=>by
  show(hd i x++(sub x++gr hd sub (i+1) xs)).map f=_;rw[gK,gK,qP,<-h 0 x rfl,Bu f g xs (i+1) (λj y hy=>by rw[show i+1+j=i+(j+1) by omega];exact h (j+1) y hy),eG]
  rfl
def Ox (b k i j:Nat)(p:E):Prop:=p.block=b/\i*k<=p.off/\p.off<j*k
theorem xg {b k:Nat}{blk:α->Option Nat}:∀(xs:List α)(i:Nat),
  (∀j x,xs[j]?=d x->((hd (i+j) x).map Prod.snd).Nodup/\∀p∈hd (i+j) x,Ox b k (i+j) (i+j+1) p.2)->
  (∀x∈xs,((sub x).map Prod.snd).Nodup/\∀p∈sub x,blk x=d p.2.block/\p.2.block≠b)->
  xs.Pairwise (λx y=>∀g,blk x=d g->blk y≠d g)->((gr hd sub i xs).map Prod.snd).Nodup
 |[],_,_,_,_=>sD
 |x::xs,i,h1,h2,h3=>by
  have ih:=xg xs (i+1) (λj y hy=>by rw[show i+1+j=i+(j+1) by omega];exact h1 (j+1) y hy) (λy hy=>h2 y (iJ _ hy)) (List.pairwise_cons.1 h3).2;have hx:=h1 0 x rfl;have hs:=h2 x pY;have hp:=(List.pairwise_cons.1 h3).1;show((hd i x++(sub x++gr hd sub (i+1) xs)).map Prod.snd).Nodup;rw[gK,gK];refine zC.2 ⟨hx.1,zC.2 ⟨hs.1,ih,?_⟩,?_⟩
  .intro p hp1 q hq e
   obtain⟨p',hp',rfl⟩:=dQ.1 hp1;obtain⟨q',hq',rfl⟩:=dQ.1 hq;obtain⟨j,y,hy,hq2⟩:=(fG xs (i+1) q').1 hq';have hb:=hs.2 p' hp';rcases hq2 with hq2|hq2
   .have:=(h1 (j+1) y hy).2 q' (by rw[show i+(j+1)=i+1+j by omega];exact hq2)
    exact hb.2 (by rw[e];exact this.1)
   .have hm:=bQ hy
    have:=(h2 y (iJ _ hm)).2 q' hq2;exact hp y hm _ hb.1 (by rw[this.1,e])
  .intro p hp1 q hq e
   obtain⟨p',hp',rfl⟩:=dQ.1 hp1;have hb:=hx.2 p' hp';rcases bJ.1 hq with hq|hq
   .obtain⟨q',hq',rfl⟩:=dQ.1 hq
    exact(hs.2 q' hq').2 (by rw[<-e];exact hb.1)
   .obtain⟨q',hq',rfl⟩:=dQ.1 hq
    obtain⟨j,y,hy,hq2⟩:=(fG xs (i+1) q').1 hq';rcases hq2 with hq2|hq2
    .have:=(h1 (j+1) y hy).2 q' (by rw[show i+(j+1)=i+1+j by omega];exact hq2)
     have h5:=hb.2.2;have h6:=this.2.1;rw[e] at h5;have:(i+0+1)*k<=(i+(j+1))*k:=Nat.mul_le_mul_right _ ah;omega
    .have hm:=bQ hy
     have:=(h2 y (iJ _ hm)).2 q' hq2;exact this.2 (by rw[<-e];exact hb.1)
end
theorem rG {p:E}{v:kZ}{x:Int × E}:x∈jZ p v↔x=(0,p)/\0<v.k:=by
 unfold jZ
 split
 .rename_i h;simp[h]
 .rename_i h;simp[h]
theorem L9 (p:E)(v:kZ):((jZ p v).map Prod.snd).Nodup:=by
 unfold jZ
 split <;> simp
section
variable {b o:Nat}
theorem Oy (i:Nat)(s:Sn):((Ov (d ⟨b,0,A⟩) i s).map Prod.snd).Nodup/\∀p∈Ov (d ⟨b,0,A⟩) i s,Ox b 3 i (i+1) p.2:=by
 constructor
 .unfold Ov
  rw[lD];refine List.nodup_cons.2 ⟨λh=>?_,L9 _ _⟩;obtain⟨p,hp,e⟩:=dQ.1 h;rw[(rG.1 hp).1] at e;injection e with _ e;simp at e
 .intro p hp
  rcases dP.1 hp with rfl|hp
  .exact⟨rfl,by show _<=0+i*3;omega,by show 0+i*3<_;omega⟩
  .rw[(rG.1 hp).1]
   exact⟨rfl,by show _<=0+(i*3+1);omega,by show 0+(i*3+1)<_;omega⟩
theorem Oz (i:Nat)(e:EvC):((vO (d ⟨b,0,A⟩) i e).map Prod.snd).Nodup/\∀p∈vO (d ⟨b,0,A⟩) i e,Ox b 9 i (i+1) p.2:=by
 have hv:∀p∈jZ (nM (d ⟨b,0,A⟩) (i*9+5)) e.v,p=(0,(⟨b,0+(i*9+5),A⟩:E)):=λp hp=>(rG.1 hp).1
 constructor
 .unfold vO
  split
  .simp
  .split
   .rw[lD,lD]
    refine List.nodup_cons.2 ⟨λh=>?_,List.nodup_cons.2 ⟨λh=>?_,L9 _ _⟩⟩
    .rcases dP.1 h with e|h
     .injection e with _ e;simp at e
     .obtain⟨p,hp,e⟩:=dQ.1 h
      rw[hv p hp] at e;injection e with _ e;simp at e
    .obtain⟨p,hp,e⟩:=dQ.1 h
     rw[hv p hp] at e;injection e with _ e;simp at e
   .split <;> simp
 .intro p hp
  unfold vO at hp;rcases dP.1 hp with rfl|hp
  .exact⟨rfl,by show _<=0+(i*9+1);omega,by show 0+(i*9+1)<_;omega⟩
  .split at hp
   .rw[bF.1 hp]
    exact⟨rfl,by show _<=0+(i*9+2);omega,by show 0+(i*9+2)<_;omega⟩
   .split at hp
    .rcases dP.1 hp with rfl|hp
     .exact⟨rfl,by show _<=0+(i*9+4);omega,by show 0+(i*9+4)<_;omega⟩
     .rw[hv p hp]
      exact⟨rfl,by show _<=0+(i*9+5);omega,by show 0+(i*9+5)<_;omega⟩
    .split at hp
     .rw[bF.1 hp]
      exact⟨rfl,by show _<=0+(i*9+7);omega,by show 0+(i*9+7)<_;omega⟩
     .cases hp
theorem Wi (i:Nat)(x:Int):((hdI (d ⟨b,0,A⟩) i x).map Prod.snd).Nodup/\∀p∈hdI (d ⟨b,0,A⟩) i x,Ox b 1 i (i+1) p.2:=by
 refine⟨by simp,λp hp=>?_⟩;rw[bF.1 hp];exact⟨rfl,by show _<=0+i;omega,by show 0+i<_;omega⟩
theorem Wj (i:Nat)(x:aM):((RN (d ⟨b,0,A⟩) i x).map Prod.snd).Nodup/\∀p∈RN (d ⟨b,0,A⟩) i x,Ox b 2 i (i+1) p.2:=by
 refine⟨by simp,λp hp=>?_⟩;rw[bF.1 hp];exact⟨rfl,by show _<=0+i*2;omega,by show 0+i*2<_;omega⟩
theorem Wl (i:Nat)(x:aN):((Ow (d ⟨b,0,A⟩) i x).map Prod.snd).Nodup/\∀p∈Ow (d ⟨b,0,A⟩) i x,Ox b 4 i (i+1) p.2:=by
 refine⟨by simp,λp hp=>?_⟩;rcases dP.1 hp with rfl|hp
 .exact⟨rfl,by show _<=0+i*4;omega,by show 0+i*4<_;omega⟩
 .rw[bF.1 hp]
  exact⟨rfl,by show _<=0+(i*4+1);omega,by show 0+(i*4+1)<_;omega⟩
theorem Wm (i:Nat)(x:Wa):((RO (d ⟨b,0,A⟩) i x).map Prod.snd).Nodup/\∀p∈RO (d ⟨b,0,A⟩) i x,Ox b 2 i (i+1) p.2:=by
 refine⟨by simp,λp hp=>?_⟩;rw[bF.1 hp];exact⟨rfl,by show _<=0+i*2;omega,by show 0+i*2<_;omega⟩
end
def abO (P:Program)(gf:Nat)(lb:Array F){α:Type}(vS:α->Array F->z->Prop)(k:Nat)(D:Nat->Prop)(R:z->Prop)(Kp:α->Array F->z->Prop)(xs:List α)(W:z):Prop:=
 ∀(n l:Nat)(J Jx:List α->z->Prop),
  (∀s X Y,J s X->Same (λi=>i<W.1.size\/W.1.size+k<=i) X Y->J s Y)->
  (∀s X Y,Jx s X->Same (λi=>i<W.1.size\/W.1.size+k<=i) X Y->Jx s Y)->
  (∀s X,J s X->R X)->(∀s X,Jx s X->R X)->
  (∀pre x args X,J pre X->pre++[x]<+:xs->vS x args X->W.1.size+k<=X.1.size->∀m,YieldAt Fence.wide m P l args X λe Y=>
   (e= .returned (.bool true)/\J (pre++[x]) Y/\bg D X Y/\Kp x args Y)\/(e= .returned (.bool false)/\Jx (pre++[x]) Y/\bg D X Y))->
  J [] W->
  CallsIn Fence.wide n P gf (#[.func (.yield l) #[] #[]]++lb) W λe Y=>∃v,e= .returned v/\(J xs Y\/∃pre,pre<+:xs/\Jx pre Y)
def TQ {α:Type}(l:Nat)(D:Nat->Prop)(I:List α->z->Prop)(Ix:Code->List α->z->Prop)(Kx:z->Prop)(xs:List α)(X:z):Exit->Act->z->Prop
 | .normal,_,Y=>(Y.1[l]?=X.1[l]?/\Y.1[l+1]?=X.1[l+1]?)/\bg D X Y/\I xs Y/\Kx Y
 | .ret,_,Y=>(Y.1[l]?=X.1[l]?/\Y.1[l+1]?=X.1[l+1]?)/\bg D X Y/\Ix .ret xs Y
 | .exit id,_,Y=>(Y.1[l]?=X.1[l]?/\Y.1[l+1]?=X.1[l+1]?)/\bg D X Y/\Ix (.exit id) xs Y
 | .goto t,_,Y=>(Y.1[l]?=X.1[l]?/\Y.1[l+1]?=X.1[l+1]?)/\bg D X Y/\Ix (.goto t) xs Y
 | .panic _,_,_=>False
 | .outgrown,_,_=>False
theorem Tj {P:Program}{α:Type}{g:Operand}{ps:Array Tmp}{assign body:Code}{Q:Exit->Act->z->Prop}{a:Act}{w:z}{n:Nat}
  {gf:Nat} {lb:Array F} (hg:a.eval g= .func (.func gf) #[] lb) (eg:∀args w,(callFunc gf args).run P w= .ok (.enter gf args) w)
  {vS:α->Array F->z->Prop} {k:Nat} {D:Nat->Prop} {R:z->Prop} {Kp:α->Array F->z->Prop} {xs:List α}
  (hseq:∀W,Below w.1.size w W->W.1.size=w.1.size+2->abO P gf lb vS k D R Kp xs W)
  (hD:¬D (w.1.size+1)) (hps:∀x args X,vS x args X->args.size=ps.size)
  (I:List α->z->Prop) (Ix:Code->List α->z->Prop)
  (hI:∀s X Y,I s X->Same (λi=>i<w.1.size\/w.1.size+2+k<=i) X Y->I s Y)
  (hIx:∀c s X Y,Ix c s X->Same (λi=>i<w.1.size\/w.1.size+2+k<=i) X Y->Ix c s Y)
  (hIR:∀s X,I s X->R X) (Y5:∀c s X,Ix c s X->R X)
  (hKp:∀x args X Y,Kp x args X->Same (λi=>i<w.1.size\/w.1.size+2+k<=i) X Y->Kp x args Y)
  (h0:I [] w)
  (F4:∀pre x args X,I pre X->pre++[x]<+:xs->vS x args X->w.1.size+2+k<=X.1.size->∀m,
   assign.wpIn (Fence.wide.inRound (w.1.size+1)) m P (Exit.then (λa₁ X₁=>Below X.1.size X X₁/\∀X₂:z,Same (λi=>i≠w.1.size+1) X₁ X₂->
     body.wpIn (Fence.wide.inRound (w.1.size+1)) m P (TQ w.1.size D I Ix (Kp x args) (pre++[x]) X₂) a₁ X₂) (λ_ _ _=>False))
    {tmps:=(ps.zip args).foldl (λt (p,v)=>t.setIfInBounds p v) a.tmps,defers:=[]} X)
  (hdone:∀X,I xs X->X.1[w.1.size]?=d (.deferred (d []))->Q .normal {a with defers:={target:= .collected w.1.size,args:=#[]}::a.defers} X)
  (hstop:∀c pre X,pre<+:xs->Ix c pre X->X.1[w.1.size]?=d (.deferred (d []))->c.wpIn Fence.wide n P Q {a with defers:={target:= .collected w.1.size,args:=#[]}::a.defers} X):
  (Code.rangeFunc g ps assign body).wpIn Fence.wide n P Q a w:=by
 refine wpIn_rangeFunc ?_;intro fn hfn;obtain⟨r,hr⟩:∃r:Loop,r={state:= .ready,pending:=none,fn,tmps:=a.tmps,params:=ps,assign,body,defers:=w.1.size}:=⟨_,rfl⟩;obtain⟨W1,hW1⟩:∃W1,(w.alloc (.deferred (d []))).alloc (.loop r)=W1:=⟨_,rfl⟩;have hs1:W1.1.size=w.1.size+2:=by rw[<-hW1];simp
 have hL1:W1.1[w.1.size+1]?=d (.loop r):=by
  rw[<-hW1];have:=C (w.alloc (.deferred (d []))) (.loop r);rwa[World.size_alloc] at this
 have hK1:W1.1[w.1.size]?=d (.deferred (d [])):=by
  rw[<-hW1];exact(Below.heap_alloc _ _ _ au).trans (C w _)
 have hb1:Below w.1.size w W1:=by rw[<-hW1];exact((Below.refl _ w).alloc (aA _) _).alloc au _
 have hI1:I [] W1:=hI _ _ _ h0 (.of_below hb1 (λi _ hi=>hi));refine⟨w.1.size+1,[{target:= .collected w.1.size,args:=#[]}],W1,{target:= .fn (.func gf) lb,args:=#[.func (.yield (w.1.size+1)) #[] #[]]},W1,gf,
  #[.func (.yield (w.1.size+1)) #[] #[]]++lb,W1,?_,?_,λ_ _=>trivial,?_,λh=>(by cases h),?_⟩
 .rw[<-hW1,hr];exact run_enterLoop_outer _ _ _ _ _
 .simp only[resolve,hg]
  simp[go_sem]
 .simp[invoke,go_sem,eg]
 have hput:∀(s:List α)(X:z)(o:Obj),I s X->I s (X.putObj (w.1.size+1) o):=λs X o h=>hI s _ _ h (.putObj X o ah)
 have tZ:∀(c:Code)(s:List α)(X:z)(o:Obj),Ix c s X->Ix c s (X.putObj (w.1.size+1) o):=λc s X o h=>hIx c s _ _ h (.putObj X o ah)
 refine(hseq W1 hb1 hs1 (n - 1) (w.1.size+1)
  (λpre X=>I pre X/\X.1[w.1.size+1]?=d (.loop r)/\X.1[w.1.size]?=d (.deferred (d [])))
  (λpre X=>∃c,Ix c pre X/\X.1[w.1.size+1]?=d (.loop {r with state:= .done,pending:=some c})/\X.1[w.1.size]?=d (.deferred (d [])))
  ?_ ?_ (λs X h=>hIR s X h.1) (λs X h=>(let⟨c,hc,_⟩:=h;Y5 c s X hc)) ?_ ⟨hI1,hL1,hK1⟩).mono ?_
 .rintro s X Y ⟨h1,h2,h3⟩ hsame
  have e2:=(dI.1 h2).1;exact⟨hI s X Y h1 (hsame.mono (λi hi hl=>by omega)),(hsame.block _ ah e2).trans h2,(hsame.block _ ah ah).trans h3⟩
 .rintro s X Y ⟨c,h1,h2,h3⟩ hsame
  have e2:=(dI.1 h2).1;exact⟨c,hIx c s X Y h1 (hsame.mono (λi hi hl=>by omega)),(hsame.block _ ah e2).trans h2,(hsame.block _ ah ah).trans h3⟩
 .rintro pre x args X ⟨hi,hl,hk⟩ hpx hrep hsz m
  have hra:r.assign=assign:=by rw[hr]
  have hrb:r.body=body:=by rw[hr]
  have Cr:r.params=ps:=by rw[hr]
  have hrt:r.tmps=a.tmps:=by rw[hr]
  have hrs:r.state= .ready:=by rw[hr]
  have hrn:r.pending=A:=by rw[hr]
  have hrr:({r with state:= .ready,pending:=none}:Loop)=r:=by rw[hr]
  refine Es hl hrs trivial (by rw[Cr];exact hps x args X hrep) ?_;have hR:=F4 pre x args X hi hpx hrep ah m;rw[<-hra,<-hrb,<-Cr,<-hrt] at hR;refine wpIn_mono hR ?_;rintro e a1 X1 hp
  cases e with
  |normal=>
   obtain⟨hb,hbody⟩:=hp;have Wd:=(dI.1 hl).1;have hl1:X1.1[w.1.size+1]?=d (.loop r):=(hb.block _ ah).trans hl;have hk1:X1.1[w.1.size]?=d (.deferred (d [])):=(hb.block _ ah).trans hk;have hlt1:=(dI.1 hl1).1;refine⟨hl1,wpIn_mono (hbody _ (.putObj X1 _ ah)) ?_⟩;have hl2:(X1.putObj (w.1.size+1) (.loop {r with state:= .busy})).1[w.1.size+1]?=d (.loop {r with state:= .busy}):=B hlt1;have hk2:(X1.putObj (w.1.size+1) (.loop {r with state:= .busy})).1[w.1.size]?=d (.deferred (d [])):=(u ah).trans hk1;rintro e a3 X3 hq;have fin:∀o,X3.1[w.1.size+1]?=(X1.putObj (w.1.size+1) (.loop {r with state:= .busy})).1[w.1.size+1]?->(X3.putObj (w.1.size+1) o).1[w.1.size+1]?=d o:=λo h=>
    B ((dI.1 (h.trans hl2)).1)
   have keep:∀o,bg D (X1.putObj (w.1.size+1) (.loop {r with state:= .busy})) X3->bg D X (X3.putObj (w.1.size+1) o):=λo hC=>
    (bg.of_below hb (λi _ hi=>hi)).trans (((bg.putObj X1 _ hD).trans hC).trans (bg.putObj X3 _ hD))
   cases e with
   |normal=>
    obtain⟨⟨hA,hB⟩,hC,hE,hKK⟩:=hq;refine⟨hB.trans hl2,.inl ⟨rfl,⟨hput _ _ _ hE,(fin _ hB).trans (by rw[hrr]),(u ah).trans (hA.trans hk2)⟩,keep _ hC,hKp _ _ _ _ hKK (.putObj X3 _ ah)⟩⟩
   |ret=>
    obtain⟨⟨hA,hB⟩,hC,hE⟩:=hq;exact⟨hB.trans hl2,.inr ⟨rfl,⟨.ret,tZ _ _ _ _ hE,fin _ hB,(u ah).trans (hA.trans hk2)⟩,keep _ hC⟩⟩
   |exit id=>
    obtain⟨⟨hA,hB⟩,hC,hE⟩:=hq;exact⟨hB.trans hl2,.inr ⟨rfl,⟨.exit id,tZ _ _ _ _ hE,fin _ hB,(u ah).trans (hA.trans hk2)⟩,keep _ hC⟩⟩
   |goto t=>
    obtain⟨⟨hA,hB⟩,hC,hE⟩:=hq;exact⟨hB.trans hl2,.inr ⟨rfl,⟨.goto t,tZ _ _ _ _ hE,fin _ hB,(u ah).trans (hA.trans hk2)⟩,keep _ hC⟩⟩
   |panic _=>exact hq.elim
   |outgrown=>exact hq.elim
  |_=>exact hp.elim
 .rintro e X2 ⟨v,rfl,(⟨hi,hl,hk⟩|⟨pre,hpre,c,hi,hl,hk⟩)⟩
  .exact⟨A,_,by have:=run_endLoop (P:=P) hl (by rw[hr];simp);rwa[hr] at this,hdone _ (hput _ _ _ hi) ((u ah).trans hk)⟩
  .exact⟨d c,_,run_endLoop (P:=P) hl au,hstop c pre _ hpre (tZ _ _ _ _ hi) ((u ah).trans hk)⟩
end Yd
