import Derived.Test.YtpeojoobplpcoaaGreatDoorPCnt
set_option linter.all false
set_option maxRecDepth 200000
set_option maxHeartbeats 8000000
namespace Yd
open List renaming range->y
open Option renaming some->z,none->B
open Go Go.RowKit Go.Proofs Go.Maps Tryz
open Go.Value renaming pointer->g,int->H,bool->I,slice->J
open RowKit renaming intOf->F
open Tryz renaming prog->A
open Yd renaming hid->f
open _root_ renaming List->r,Int->u,Bool->C,Nat->G
def LB:G->u
 |0=>300
 |1=>60
 |2=>300
 |_=>60
def wz (w:World):Prop:=Lib.Utf8Tabs 6 7 w/\∀i,i<4->w.cell? ⟨2,i,B⟩=z (H .i64 (LB i))
theorem wz.below {w w':World}(h:wz w)(hb:Below w.1.size w w'):wz w':=by
 refine⟨Utf8Tabs_below h.1 hb,λi hi=>?_⟩;rw[hb.cell (p:=⟨2,i,B⟩) (dR (h.2 i hi))];exact h.2 i hi
def HC.nm (h:HC):G->Sl
 |0=>h.t
 |1=>h.s
 |2=>h.o
 |_=>h.p
theorem Qb (h:HC)(i:G)(hi:i<4)(w:World):(Instr.index 74 (.agg #[h.t.v,h.s.v,h.o.v,h.p.v]) (H .i64 i)).run A w= .ok (h.nm i).v w:=by
 match i,hi with
 |0,_=>exact aiM h w
 |1,_=>exact aiN h w
 |2,_=>exact aiO h w
 |3,_=>exact aiP h w
theorem aoJ (a b c:u)(w:World):(Builtin.max_ #[3,3,3] 3 #[H .i64 a,H .i64 b,H .i64 c]).run A w= .ok (H .i64 (if c>(if b>a then b else a) then c else(if b>a then b else a))) w:=by
 simp[Builtin.max_,Builtin.max2]
def qF (ns:r Bs):C:=ns.all (λs=>bF ⟨s.toArray⟩) && decide ns.Nodup
def sG (nl:G->r Bs)(i:G):C:=decide (((nl i).length:u)<=LB i) && qF (nl i)
def Kg (h:HC):C:=decide ((h.e.n:u)<=3000) && decide ((if(h.w.n:u)>(if(h.m.n:u)>h.d.n then(h.m.n:u) else h.d.n) then(h.w.n:u) else(if(h.m.n:u)>h.d.n then(h.m.n:u) else h.d.n))<=3000)
def Deep (w:World)(h:HC)(es:r EvC)(ds:r aM)(ms:r aN)(qs:r Wa)(scan:EvC->r Sn)(dn:aM->r u)(mn:aN->r u):Prop:=
 Row w 9 eB h.e.a h.e.n h.e.c es/\Row w 2 fB h.d.a h.d.n h.d.c ds/\Row w 4 fD h.m.a h.m.n h.m.c ms/\Row w 2 gH h.w.a h.w.n h.w.c qs/\
 (∀x∈es,Row w 3 dV x.sa x.sn x.sc (scan x))/\(∀x∈ds,Row w 1 aX x.sa x.sn x.sc (dn x))/\(∀x∈ms,Row w 1 aX x.sa x.sn x.sc (mn x))
def O7 (h:HC)(dn:aM->r u)(x:aM):C:=aV x.obj h.o.n && eZ h.t.n (dn x)
def O8 (h:HC)(mn:aN->r u)(x:aN):C:=aV x.pred h.p.n && aV x.obj h.o.n && eZ h.t.n (mn x)
def Ke (h:HC)(x:Wa):C:=aV x.bW h.s.n && decide (0<=x.bits) && decide (x.bits<=15)
def sV (h:HC)(nl:G->r Bs):C:=Kg h && (y 4).all (sG nl)
def jq (h:HC)(nl:G->r Bs)(es:r EvC)(ds:r aM)(ms:r aN)(qs:r Wa)(scan:EvC->r Sn)(dn:aM->r u)(mn:aN->r u):C:=
 sV h nl && es.all (λe=>gL h.t.n h.s.n h.o.n h.p.n e (scan e)) && ds.all (O7 h dn) && ms.all (O8 h mn) && qs.all (Ke h)
theorem RZ {nl:G->r Bs}{R bb b0 d:C}{k:G}(hk:k<4)(hbb:bb=(R && (y k).all (sG nl)))(hb0:b0=(bb && d))(hl:sG nl k=(d && qF (nl k)))
  (h:b0=false\/qF (nl k)=false):(R && (y 4).all (sG nl))=false:=by
 cases hq:(R && (y 4).all (sG nl))
 .rfl
 .simp only[aO,fA,xL] at hq
  have h1:=hq.2 k hk;have h2:(y k).all (sG nl)=true:=by simp only[fA,xL];exact λx hx=>hq.2 x ah
  rw[hl,aO] at h1;rw[hb0,hbb,hq.1,h2,h1.1] at h;simp[h1.2] at h
theorem VR {nl:G->r Bs}{R bb b0 d:C}{k:G}(hbb:bb=(R && (y k).all (sG nl)))(hb0:b0=(bb && d))(hl:sG nl k=(d && qF (nl k)))
  (h:qF (nl k)=true):b0=(R && (y (k+1)).all (sG nl)):=by
 simp[List.range_succ,hb0,hbb,hl,h,F8]
theorem abW {ns:r Bs}(h1:ns.all (λs=>bF ⟨s.toArray⟩)=true)(h2:ns.Nodup):qF ns=true:=by simp only[qF,h1,h2,decide_true,Bool.and_self]
theorem YX {ns:r Bs}{x:Bs}{j:G}(hx:ns[j]?=z x)(hw:bF ⟨x.toArray⟩=false):qF ns=false:=by
 cases hq:qF ns
 .rfl
 .simp only[qF,aO,fA] at hq
  have:=hq.1 x (dP hx);rw[hw] at this;cases this
theorem YZ {ns:r Bs}{x:Bs}{j:G}(hx:ns[j]?=z x)(hw:decide (x∈ns.take j)=true):qF ns=false:=by
 cases hq:qF ns
 .rfl
 .simp only[qF,aO,aW] at hq hw
  obtain⟨i,hi⟩:=List.getElem?_of_mem hw;have hij:i<j:=by
   have:=(bO.1 hi).1;simp at this;omega
  rw[List.getElem?_take_of_lt hij] at hi;have h1:=(bO.1 hi);have h2:=(bO.1 hx);obtain⟨p1,e1⟩:=h1;obtain⟨p2,e2⟩:=h2;exact absurd (e1.trans e2.symm) (GU.1 hq.2 i j p1 p2 hij)
theorem Kk (h:HC)(nl:G->r Bs)(es:r EvC)(ds:r aM)(ms:r aN)(qs:r Wa)(scan:EvC->r Sn)(dn:aM->r u)(mn:aN->r u)(w:World)(hg:wz w)
  (hn:∀i,i<4->Row w 1 encStr (h.nm i).a (h.nm i).n (h.nm i).c (nl i)) (hd:Deep w h es ds ms qs scan dn mn):
  Calls A 42 #[bG h] w (dw (I (jq h nl es ds ms qs scan dn mn)) w):=by
 have hmm:= @run_makeMap A;have hmx:=aoJ h.d.n h.m.n h.w.n;go_enter Tryz.func42,Tryz.ntmps42;obtain⟨R,hR⟩:∃R:C,R=Kg h:=⟨_,rfl⟩;have HR:=f hR;clear hR;obtain⟨S,hS⟩:∃S:C,S=jq h nl es ds ms qs scan dn mn:=⟨_,rfl⟩;rw[<-hS];have HS:=f hS;have HD:=f hd;clear hS hd;obtain⟨E,hE⟩:∃E:C,E=es.all (λe=>gL h.t.n h.s.n h.o.n h.p.n e (scan e)):=⟨_,rfl⟩;obtain⟨D,hD⟩:∃D:C,D=ds.all (O7 h dn):=⟨_,rfl⟩;obtain⟨M,hM⟩:∃M:C,M=ms.all (O8 h mn):=⟨_,rfl⟩;obtain⟨V,hV⟩:∃V:C,V=qs.all (Ke h):=⟨_,rfl⟩;have HAE:Hid (∀W',Below w.1.size w W'->Bx W' w.1.size (aD h)->Calls A 75 #[J h.e.a h.e.n h.e.c,.func (.func 76) #[] #[g (z ⟨w.1.size,0,B⟩)]] W' (dw (I E) W')):=λW' hb hx=>by
  rw[hE];exact akZ h.e.a h.e.n h.e.c 76 #[g (z ⟨w.1.size,0,B⟩)] es _ W' (HD.q.1.below hb rfl) call76
   (λx hxm W2 hW2=>ag9 h x (scan x) w.1.size W2 (hx.keep hW2) ((HD.q.2.2.2.2.1 x hxm).below (hb.trans (hW2.mono hb.size)) rfl))
 have HAD:Hid (∀W' b9,Below w.1.size w W'->Bx W' w.1.size (aD h)->Bx W' b9 #[.func (.func 71) #[] #[g (z ⟨w.1.size,0,B⟩)]]->Calls A 78 #[J h.d.a h.d.n h.d.c,.func (.func 79) #[] #[g (z ⟨w.1.size,0,B⟩),g (z ⟨b9,0,B⟩)]] W' (dw (I D) W')):=λW' b9 hb hx h9=>by
  rw[hD];exact ak0 h.d.a h.d.n h.d.c 79 #[g (z ⟨w.1.size,0,B⟩),g (z ⟨b9,0,B⟩)] ds _ W' (HD.q.2.1.below hb rfl) call79
   (λx hxm W2 hW2=>ag' h x (dn x) w.1.size b9 W2 (hx.keep hW2) (h9.keep hW2) ((HD.q.2.2.2.2.2.1 x hxm).below (hb.trans (hW2.mono hb.size)) rfl))
 have HAM:Hid (∀W' b9,Below w.1.size w W'->Bx W' w.1.size (aD h)->Bx W' b9 #[.func (.func 71) #[] #[g (z ⟨w.1.size,0,B⟩)]]->Calls A 80 #[J h.m.a h.m.n h.m.c,.func (.func 81) #[] #[g (z ⟨w.1.size,0,B⟩),g (z ⟨b9,0,B⟩)]] W' (dw (I M) W')):=λW' b9 hb hx h9=>by
  rw[hM];exact ak1 h.m.a h.m.n h.m.c 81 #[g (z ⟨w.1.size,0,B⟩),g (z ⟨b9,0,B⟩)] ms _ W' (HD.q.2.2.1.below hb rfl) call81
   (λx hxm W2 hW2=>aha h x (mn x) w.1.size b9 W2 (hx.keep hW2) (h9.keep hW2) ((HD.q.2.2.2.2.2.2 x hxm).below (hb.trans (hW2.mono hb.size)) rfl))
 have HAV:Hid (∀W',Below w.1.size w W'->Bx W' w.1.size (aD h)->Calls A 82 #[J h.w.a h.w.n h.w.c,.func (.func 83) #[] #[g (z ⟨w.1.size,0,B⟩)]] W' (dw (I V) W')):=λW' hb hx=>by
  rw[hV];exact ak2 h.w.a h.w.n h.w.c 83 #[g (z ⟨w.1.size,0,B⟩)] qs _ W' (HD.q.2.2.2.1.below hb rfl) call83
   (λx hxm W2 hW2=>ahb h x w.1.size W2 (hx.keep hW2))
 have Fa:Hid (S=(sV h nl && E && D && M && V)):=by rw[hE,hD,hM,hV];exact HS.q
 clear hE hD hM hV;have hix:=Qb h;obtain⟨m,hm⟩:∃m:u,m=(if(h.w.n:u)>(if(h.m.n:u)>h.d.n then(h.m.n:u) else h.d.n) then(h.w.n:u) else(if(h.m.n:u)>h.d.n then(h.m.n:u) else h.d.n)):=⟨_,rfl⟩;have HRm:Hid (R=(decide ((h.e.n:u)<=3000) && decide (m<=3000))):=by rw[hm];exact HR.q
 rw[<-hm] at hmx;clear hm;have hB0:=(Bx.new w (aD h) 29);have HB0:=f hB0;have HN:=f hn;have HG:=f hg;clear hB0 hn hg
 cases he:decide ((h.e.n:u)<=3000)
 all_goals cases tN:decide (m<=3000)
 all_goals
  have hRm:R=_:=HRm.q;rw[he,tN] at hRm;simp only[Bool.and_true,Bool.and_false] at hRm;have HRe:=f hRm;clear hRm;go_wp2_with fail
  go_step3
  go_wp2_with fail
  go_step3
  go_wp2_with (go_at_call 22;refine(lF h _).mono ?_;rintro e w1 ⟨rfl,hb1⟩)
  clear he tN;have HB1:=f (((Below.refl w.1.size w).alloc (aB _) (.cells (aD h) 29)).trans (hb1.mono ak));have eX:=f (HB0.q.keep hb1);clear hb1
  go_loopw [3,29] (λb i wr=>∃(k:G)(bb:C),k<=4/\i= H .i64 k/\b= I bb/\bb=(R && (y k).all (sG nl))/\Below w.1.size w wr/\Bx wr w.1.size (aD h)) (λ_ i _=>4 - (F i).toNat)
  case atStart=>exact⟨0,_,by omega,rfl,rfl,by simp[HRe.q],HB1.q,eX.q⟩
  case round=>
   obtain⟨k,bb,hk,rfl,rfl,hbb,hbw,hxw⟩:=hrel;obtain⟨wo,hwo⟩:∃wo,wo=wr:=⟨_,rfl⟩;subst hwo;by_cases hlt:k<4
   .have Dj:=f hbb;have cZ:=f hbw;have Oj:=f hxw
    have hlm:(wo.alloc (.map #[] 0)).cell? ⟨2,k,B⟩=z (H .i64 (LB k)):=((HG.q.below hbw).below ((Below.refl _ _).alloc (aB _) _)).2 k hlt;have hrow:=HN.q k hlt;obtain⟨sl,hsl⟩:∃sl,sl=h.nm k:=⟨_,rfl⟩;have Qo:=hix k hlt;rw[<-hsl] at hrow Qo;obtain⟨sa,sn,sc⟩:=sl;have arH:∀W:World,(Instr.index 74 (.agg #[h.t.v,h.s.v,h.o.v,h.p.v]) (H .i64 k)).run A W= .ok (J sa sn sc) W:=Qo;clear Qo;have pU:=f hrow;have HIX:=f hix;obtain⟨lim,hlim⟩:∃l:u,l=LB k:=⟨_,rfl⟩;rw[<-hlim] at hlm;have hlist:sG nl k=(decide ((sn:u)<=lim) && qF (nl k)):=by unfold sG;rw[hrow.len,hlim]
    clear hbb hbw hxw hrow hsl hix hlim;obtain⟨b0,hb0⟩:∃b0:C,b0=(bb && decide ((sn:u)<=lim)):=⟨_,rfl⟩;have abX:Hid ((b0=false\/qF (nl k)=false)->S=false):=λhor=>by
     have:=RZ hlt Dj.q hb0 hlist hor;rw[HS.q,jq,sV,<-HR.q,this];rfl
    have ak3:Hid (qF (nl k)=true->b0=(R && (y (k+1)).all (sG nl))):=VR Dj.q hb0 hlist;have mK:=f hb0;clear hb0 hlist
    cases bb
    all_goals cases hsl:decide ((sn:u)<=lim)
    all_goals
     have HSL:=f hsl;go_wp2_with fail;clear hsl;have HBM:=f (cZ.q.alloc cZ.q.size (.map #[] 0));have HXM:=f (Oj.q.alloc (.map #[] 0));have HM:=f (wK.new wo);have Bw:=f cZ.q.size;have kP:Hid (w.1.size≠wo.1.size):=Nat.ne_of_lt Oj.q.2.2
     go_loopw [3,45] (λb i wv=>∃(j:G)(bj:C),j<=sn/\i= H .i64 j/\b= I bj/\bj=b0/\(0<j->b0=true)/\((nl k).take j).all (λs=>bF ⟨s.toArray⟩)=true/\((nl k).take j).Nodup/\
       Below w.1.size w wv/\Bx wv w.1.size (aD h)/\wK wv wo.1.size ((nl k).take j)) (λ_ i _=>sn - (F i).toNat)
     case atStart=>exact⟨0,_,aZ _,rfl,rfl,by rw[mK.q,HSL.q];rfl,λh=>absurd h aj,rfl,tY,HBM.q,HXM.q,HM.q⟩
     case round=>
      obtain⟨j,bj,hj,rfl,rfl,hbj,hpos,hall,hnd,hbv,hxv,hmv⟩:=hrel;have hle:=pU.q.le;by_cases hjlt:j<sn
      .obtain⟨x,b,o,hx,hab,hc⟩:=(pU.q.below hbv rfl).at_ hjlt
       have hc0:=hc 0 _ rfl;simp only[gT,dM] at hc0;have hTv:=(HG.q.below hbv).1;have HX:=f hx;have DX:=f hall;have HND:=f hnd;have arI:=f hpos;have HBJ:=f hbj;have uI:=f hbv;have HXV:=f hxv;have HMV:=f hmv;subst hab;have HWD:=f (I8 ⟨x.toArray⟩ wr hTv);clear hc hx hall hnd hpos hbj hbv hxv hmv hTv
       cases bj
       .go_wp2_with fail
        go_ret;exact⟨by rw[abX.q (.inl HBJ.q.symm)];rfl,uI.q.alloc uI.q.size _⟩
       .cases hw:bF ⟨x.toArray⟩
        .have HW:=f hw;clear hw
         go_wp2_with fail;refine HWD.q.mono ?_;rintro e w2 ⟨rfl,hb2⟩;rw[HW.q];have HB2:=f (uI.q.bZ hb2);clear hb2;go_wp2_with fail;go_ret;exact⟨by rw[abX.q (.inr (YX HX.q HW.q))];rfl,HB2.q.alloc HB2.q.size _⟩
        .have HW:=f hw;clear hw
         go_wp2_with fail;refine HWD.q.mono ?_;rintro e w2 ⟨rfl,hb2⟩;rw[HW.q];have hlk:=(HMV.q.of_eq (hb2.block _ HMV.q.lt)).look x (wZ HW.q);obtain⟨w3,hput,tN,hg3⟩:=(HMV.q.of_eq (hb2.block _ HMV.q.lt)).put x (wZ HW.q) (by have:=pU.q.le;simp;unfold maxLen;omega);have HB2:=f (uI.q.bZ hb2);have tQ:=f tN;have lN:=f hg3;have kZ:=f ((HXV.q.keep hb2).of_eq hg3.size (hg3.block _ (bM HXV.q.2.2 hb2.size) (λe=>kP.q (by simpa using e))));clear hb2 tN hg3
         cases hin:decide (x∈(nl k).take j)
         .rw[hin] at hlk
          have E9:=f hin;clear hin;go_wp2_with fail;go_roundw
          case rel=>
           have htk:(nl k).take (j+1)=(nl k).take j++[x]:=by rw[jd,HX.q];rfl
           refine⟨j+1,true,by omega,by go_num,rfl,HBJ.q,λ_=>HBJ.q.symm,?_,?_,HB2.q.grown lN.q HB2.q.size (λi hi=>by cases hi;exact Bw.q),kZ.q,by rw[htk];exact tQ.q⟩
           .rw[htk,List.all_append,DX.q];simp[HW.q]
           .rw[htk,zk]
            have hni:x∉(nl k).take j:=by simpa using E9.q
            exact⟨HND.q,by simp,λa ha b hb e=>hni (by simp at hb;rw[<-hb,<-e];exact ha)⟩
          case measure=>
           simp[F];omega
         .rw[hin] at hlk
          have E9:=f hin;clear hin;go_wp2_with fail;go_ret;exact⟨by rw[abX.q (.inr (YZ HX.q E9.q))];rfl,HB2.q.alloc HB2.q.size _⟩
      .have hjn:j=sn:=by omega
       have htk:(nl k).take j=nl k:=iH (by rw[pU.q.len];omega);rw[htk] at hall hnd;have HE:=f (hbj.trans (ak3.q (abW hall hnd)));have uI:=f hbv;have HXV:=f hxv;clear hall hnd hbj hbv hxv hmv hpos;go_wp2_with fail;go_roundw
       case rel=>exact⟨k+1,bj,by omega,by go_num,rfl,HE.q,uI.q,HXV.q⟩
       case measure=>simp[F];omega
   .have hk4:k=4:=by omega
    subst hk4;have Dj:=f hbb;have cZ:=f hbw;have Oj:=f hxw;clear hbb hbw hxw
    cases bb
    .go_wp2_with fail
     go_ret;exact⟨by rw[HS.q,jq,sV,<-HR.q,<-Dj.q];rfl,cZ.q.alloc cZ.q.size _⟩
    .have HNT:Hid (sV h nl=true):=by
      show sV h nl=true;rw[sV,<-HR.q,<-Dj.q]
     have wm:=Oj.q.alloc (.cells #[.func (.func 71) #[] #[g (z ⟨w.1.size,0,B⟩)]] 155);have hn9:=Bx.new wo #[.func (.func 71) #[] #[g (z ⟨w.1.size,0,B⟩)]] 155;have KG:=cZ.q.alloc cZ.q.size (.cells #[.func (.func 71) #[] #[g (z ⟨w.1.size,0,B⟩)]] 155);have P7:=f wm;have Pk:=f hn9;have XR:=f KG;have FL:=f (HAE.q _ KG wm);clear hn9 KG;go_wp2_with fail;refine FL.q.mono ?_;rintro e w2 ⟨rfl,hb2⟩;clear wm;have hx2:=P7.q.keep hb2;have hn2:=Pk.q.keep hb2;have abY:=XR.q.bZ hb2;have fw:=f hx2;have iU:=f hn2;have HB2:=f abY;have HCD:=f (HAD.q _ _ abY hx2 hn2);clear hn2 abY hb2
     cases E
     .go_wp2_with fail
      go_ret;exact⟨by rw[Fa.q];simp,HB2.q⟩
     go_wp2_with fail;refine HCD.q.mono ?_;rintro e w3 ⟨rfl,hb3⟩;clear hx2;have hx3:=fw.q.keep hb3;have MU:=iU.q.keep hb3;have abZ:=HB2.q.bZ hb3;have kZ:=f hx3;have iM:=f MU;have HB3:=f abZ;have HCM:=f (HAM.q _ _ abZ hx3 MU);clear MU abZ hb3
     cases D
     .go_wp2_with fail
      go_ret;exact⟨by rw[Fa.q];simp,HB3.q⟩
     go_wp2_with fail;refine HCM.q.mono ?_;rintro e w4 ⟨rfl,hb4⟩;clear hx3;have hx4:=kZ.q.keep hb4;have ab0:=HB3.q.bZ hb4;have ig:=f ab0;have Q9:=f (HAV.q _ ab0 hx4);clear ab0 hb4
     cases M
     .go_wp2_with fail
      go_ret;exact⟨by rw[Fa.q];simp,ig.q⟩
     go_wp2_with fail;refine Q9.q.mono ?_;rintro e w5 ⟨rfl,hb5⟩;clear hx4;have kz:=f (ig.q.bZ hb5);clear hb5;go_wp2_with fail;go_ret;exact⟨by rw[Fa.q,HNT.q];simp,kz.q⟩
end Yd
namespace Yd
open Option renaming some->z,none->F
open Go Go.RowKit Go.Proofs
open Go renaming Addr->j,World->B,Value->K
open World renaming putObj_heap_other->u,putObj_heap_same->G,alloc_heap_new->H
open _root_ renaming List->f,Int->y,Option->A,Nat->E,Array->L
def jv (e:EvC)(scan:f Sn):f (y × y):=
 (0,e.t)::(if e.kind=1 then [(1,e.bW)] else if e.kind=2\/e.kind=3 then(2,e.obj)::jN e.v else if e.kind=4 then [(3,e.pred)] else [])++scan.flatMap (λs=>(2,s.obj)::jN s.v)
def pz (x:aM)(ds:f y):f (y × y):=(2,x.obj)::ds.map (λd=>(0,d))
def nM (x:aN)(ds:f y):f (y × y):=(3,x.pred)::(2,x.obj)::ds.map (λd=>(0,d))
def oF (x:Wa):f (y × y):=[(1,x.bW)]
def lu (es:f EvC)(ds:f aM)(ms:f aN)(qs:f Wa)(scan:EvC->f Sn)(dn:aM->f y)(mn:aN->f y):f (y × y):=
 es.flatMap (λe=>jv e (scan e))++ds.flatMap (λx=>pz x (dn x))++ms.flatMap (λx=>nM x (mn x))++qs.flatMap oF
def Reads (w X:B):Prop:=∀a v,w.cell? a=z v->X.cell? a=z v
theorem Reads.keep {w X Y:B}{D:E->Prop}(h:Reads w X)(k:aQ D X Y)(hd:∀i,i<w.1.size->D i)(hs:w.1.size<=X.1.size):Reads w Y:=λa v hc=>by
 have hl:=dR hc;rw[World.cell?_of_block (k.2 a.block (hd _ hl) (bM hl hs))];exact h a v hc
theorem Row.reads {α:Type}{w X:B}{k:E}{enc:α->f K}{a:A j}{n c:E}{xs:f α}(h:Row w k enc a n c xs)(hr:Reads w X):Row X k enc a n c xs:=h.ext hr
@[reducible] def nX (a:A j)(q:E):j:=match a with|some ⟨b,o,_⟩=>⟨b,o+q,F⟩|none=>⟨0,0,F⟩
def kr (p:j)(v:lK):f (y × j):=if 0<v.k then [(0,p)] else []
def gr {α:Type}(hd:E->α->f (y × j))(sub:α->f (y × j)):E->f α->f (y × j)
 |_,[]=>[]
 |i,x::xs=>hd i x++(sub x++gr hd sub (i+1) xs)
@[reducible] def OX (a:A j)(i:E)(s:Sn):f (y × j):=(2,nX a (i*3))::kr (nX a (i*3+1)) s.v
@[reducible] def vI (a:A j)(i:E)(e:EvC):f (y × j):=
 (0,nX a (i*9+1))::(if e.kind=1 then [(1,nX a (i*9+2))] else if e.kind=2\/e.kind=3 then(2,nX a (i*9+4))::kr (nX a (i*9+5)) e.v else if e.kind=4 then [(3,nX a (i*9+7))] else [])
@[reducible] def hdI (a:A j)(i:E)(_:y):f (y × j):=[(0,nX a i)]
@[reducible] def SB (a:A j)(i:E)(_:aM):f (y × j):=[(2,nX a (i*2))]
@[reducible] def OW (a:A j)(i:E)(_:aN):f (y × j):=[(3,nX a (i*4)),(2,nX a (i*4+1))]
@[reducible] def SC (a:A j)(i:E)(_:Wa):f (y × j):=[(1,nX a (i*2))]
def rE (a:A j):E->f Sn->f (y × j):=gr (OX a) (λ_=>[])
def qz (a:A j)(scan:EvC->f Sn):E->f EvC->f (y × j):=gr (vI a) (λe=>rE e.sa 0 (scan e))
def nO (a:A j):E->f y->f (y × j):=gr (hdI a) (λ_=>[])
def uh (a:A j)(dn:aM->f y):E->f aM->f (y × j):=gr (SB a) (λx=>nO x.sa 0 (dn x))
def uj (a:A j)(mn:aN->f y):E->f aN->f (y × j):=gr (OW a) (λx=>nO x.sa 0 (mn x))
def xZ (a:A j):E->f Wa->f (y × j):=gr (SC a) (λ_=>[])
def aT (h:HC)(es:f EvC)(ds:f aM)(ms:f aN)(qs:f Wa)(scan:EvC->f Sn)(dn:aM->f y)(mn:aN->f y):f (y × j):=
 qz h.e.a scan 0 es++(uh h.d.a dn 0 ds++(uj h.m.a mn 0 ms++xZ h.w.a 0 qs))
theorem Y5 {a:A j}{b o i:E}(ha:a=z ⟨b,o,F⟩)(s:Sn)(l:f Sn):rE a i (s::l)=(2,(⟨b,o+i*3,F⟩:j))::(kr ⟨b,o+i*3+1,F⟩ s.v++rE a (i+1) l):=by subst ha;rfl
theorem VT {a:A j}{b o i:E}{scan:EvC->f Sn}(ha:a=z ⟨b,o,F⟩)(e:EvC)(es:f EvC):qz a scan i (e::es)=
  (0,(⟨b,o+i*9+1,F⟩:j))::((if e.kind=1 then [(1,(⟨b,o+i*9+2,F⟩:j))] else if e.kind=2\/e.kind=3 then(2,(⟨b,o+i*9+4,F⟩:j))::kr ⟨b,o+i*9+5,F⟩ e.v else if e.kind=4 then [(3,(⟨b,o+i*9+7,F⟩:j))] else [])++(rE e.sa 0 (scan e)++qz a scan (i+1) es)):=by
 subst ha;rfl
theorem Np {a:A j}{b o i:E}(ha:a=z ⟨b,o,F⟩)(d:y)(l:f y):nO a i (d::l)=(0,(⟨b,o+i,F⟩:j))::nO a (i+1) l:=by subst ha;rfl
theorem VU {a:A j}{b o i:E}{dn:aM->f y}(ha:a=z ⟨b,o,F⟩)(x:aM)(l:f aM):uh a dn i (x::l)=(2,(⟨b,o+i*2,F⟩:j))::(nO x.sa 0 (dn x)++uh a dn (i+1) l):=by subst ha;rfl
theorem VW {a:A j}{b o i:E}{mn:aN->f y}(ha:a=z ⟨b,o,F⟩)(x:aN)(l:f aN):uj a mn i (x::l)=(3,(⟨b,o+i*4,F⟩:j))::(2,(⟨b,o+i*4+1,F⟩:j))::(nO x.sa 0 (mn x)++uj a mn (i+1) l):=by subst ha;rfl
theorem VX {a:A j}{b o i:E}(ha:a=z ⟨b,o,F⟩)(x:Wa)(l:f Wa):xZ a i (x::l)=(1,(⟨b,o+i*2,F⟩:j))::xZ a (i+1) l:=by subst ha;rfl
def NQ (x:y × j)(args:L K)(_:B):Prop:=args=#[.int .i64 x.1,.pointer (z x.2)]
def sW (C:j->Prop)(w X:B):Prop:=∀a v,C a->w.cell? a=z v->X.cell? a=z v
def adX (P:Program)(gf:E)(lb:L K){α:Type}(qP:α->L K->B->Prop)(k:E)(D:E->Prop)(R:B->Prop)(xs:f α)(W:B):Prop:=
 ∀(n l:E)(J Jx:f α->B->Prop),
  (∀s X Y,J s X->Same (λi=>i<W.1.size\/W.1.size+k<=i) X Y->J s Y)->
  (∀s X Y,Jx s X->Same (λi=>i<W.1.size\/W.1.size+k<=i) X Y->Jx s Y)->
  (∀s X,J s X->R X)->(∀s X,Jx s X->R X)->
  (∀pre x args X,J pre X->pre++[x]<+:xs->qP x args X->W.1.size+k<=X.1.size->∀m,YieldAt Fence.wide m P l args X λe Y=>
   (e= .returned (.bool true)/\J (pre++[x]) Y/\aQ D X Y)\/(e= .returned (.bool false)/\Jx (pre++[x]) Y/\aQ D X Y))->
  J [] W->
  CallsIn Fence.wide n P gf (#[.func (.yield l) #[] #[]]++lb) W λe Y=>∃v,e= .returned v/\(J xs Y\/∃pre,pre<+:xs/\Jx pre Y)
def p9 (X:B)(a:j):y:=match X.cell? a with|some (.int .i64 n)=>n|_=>0
theorem kX {X:B}{a:j}{n:y}(h:X.cell? a=z (.int .i64 n)):p9 X a=n:=by unfold p9;rw[h]
def iF (X:B)(p:y × j):y × y:=(p.1,p9 X p.2)
theorem UE {P:Program}{α:Type}{g:Operand}{ps:L Tmp}{assign body:Code}{Q:Exit->Act->B->Prop}{a:Act}{w:B}{n:E}
  {gf:E} {lb:L K} (hg:a.eval g= .func (.func gf) #[] lb) (eg:∀args w,(callFunc gf args).run P w= .ok (.enter gf args) w)
  {qP:α->L K->B->Prop} {k:E} {D:E->Prop} {R:B->Prop} {xs:f α}
  (hseq:∀W,Below w.1.size w W->W.1.size=w.1.size+2->adX P gf lb qP k D R xs W)
  (hD:¬D (w.1.size+1)) (hps:∀x args X,qP x args X->args.size=ps.size)
  (I:f α->B->Prop) (Ix:Code->f α->B->Prop)
  (hI:∀s X Y,I s X->Same (λi=>i<w.1.size\/w.1.size+2+k<=i) X Y->I s Y)
  (hIx:∀c s X Y,Ix c s X->Same (λi=>i<w.1.size\/w.1.size+2+k<=i) X Y->Ix c s Y)
  (hIR:∀s X,I s X->R X) (ab1:∀c s X,Ix c s X->R X)
  (h0:I [] w)
  (BM:∀pre x args X,I pre X->pre++[x]<+:xs->qP x args X->w.1.size+2+k<=X.1.size->∀m,
   assign.wpIn (Fence.wide.inRound (w.1.size+1)) m P (Exit.then (λa₁ X₁=>Below X.1.size X X₁/\∀X₂:B,Same (λi=>i≠w.1.size+1) X₁ X₂->
     body.wpIn (Fence.wide.inRound (w.1.size+1)) m P (EQ w.1.size D I Ix (pre++[x]) X₂) a₁ X₂) (λ_ _ _=>False))
    {tmps:=(ps.zip args).foldl (λt (p,v)=>t.setIfInBounds p v) a.tmps,defers:=[]} X)
  (hdone:∀X,I xs X->X.1[w.1.size]?=z (.deferred (z []))->Q .normal {a with defers:={target:= .collected w.1.size,args:=#[]}::a.defers} X)
  (hstop:∀c pre X,pre<+:xs->Ix c pre X->X.1[w.1.size]?=z (.deferred (z []))->c.wpIn Fence.wide n P Q {a with defers:={target:= .collected w.1.size,args:=#[]}::a.defers} X):
  (Code.rangeFunc g ps assign body).wpIn Fence.wide n P Q a w:=by
 refine wpIn_rangeFunc ?_;intro fn hfn;obtain⟨r,hr⟩:∃r:Loop,r={state:= .ready,pending:=none,fn,tmps:=a.tmps,params:=ps,assign,body,defers:=w.1.size}:=⟨_,rfl⟩;obtain⟨W1,hW1⟩:∃W1,(w.alloc (.deferred (z []))).alloc (.loop r)=W1:=⟨_,rfl⟩;have hs1:W1.1.size=w.1.size+2:=by rw[<-hW1];simp
 have hL1:W1.1[w.1.size+1]?=z (.loop r):=by
  rw[<-hW1];have:=H (w.alloc (.deferred (z []))) (.loop r);rwa[World.size_alloc] at this
 have hK1:W1.1[w.1.size]?=z (.deferred (z [])):=by
  rw[<-hW1];exact(Below.heap_alloc _ _ _ ak).trans (H w _)
 have hb1:Below w.1.size w W1:=by rw[<-hW1];exact((Below.refl _ w).alloc (aB _) _).alloc ak _
 have hI1:I [] W1:=hI _ _ _ h0 (.of_below hb1 (λi _ hi=>hi));refine⟨w.1.size+1,[{target:= .collected w.1.size,args:=#[]}],W1,{target:= .fn (.func gf) lb,args:=#[.func (.yield (w.1.size+1)) #[] #[]]},W1,gf,
  #[.func (.yield (w.1.size+1)) #[] #[]]++lb,W1,?_,?_,λ_ _=>trivial,?_,λh=>(by cases h),?_⟩
 .rw[<-hW1,hr];exact run_enterLoop_outer _ _ _ _ _
 .simp only[resolve,hg]
  simp[go_sem]
 .simp[invoke,go_sem,eg]
 have hput:∀(s:f α)(X:B)(o:Obj),I s X->I s (X.putObj (w.1.size+1) o):=λs X o h=>hI s _ _ h (.putObj X o ah)
 have oK:∀(c:Code)(s:f α)(X:B)(o:Obj),Ix c s X->Ix c s (X.putObj (w.1.size+1) o):=λc s X o h=>hIx c s _ _ h (.putObj X o ah)
 refine(hseq W1 hb1 hs1 (n - 1) (w.1.size+1)
  (λpre X=>I pre X/\X.1[w.1.size+1]?=z (.loop r)/\X.1[w.1.size]?=z (.deferred (z [])))
  (λpre X=>∃c,Ix c pre X/\X.1[w.1.size+1]?=z (.loop {r with state:= .done,pending:=some c})/\X.1[w.1.size]?=z (.deferred (z [])))
  ?_ ?_ (λs X h=>hIR s X h.1) (λs X h=>(let⟨c,hc,_⟩:=h;ab1 c s X hc)) ?_ ⟨hI1,hL1,hK1⟩).mono ?_
 .rintro s X Y ⟨h1,h2,h3⟩ hsame
  have e2:=(dh.1 h2).1;exact⟨hI s X Y h1 (hsame.mono (λi hi hl=>by omega)),(hsame.block _ ah e2).trans h2,(hsame.block _ ah ah).trans h3⟩
 .rintro s X Y ⟨c,h1,h2,h3⟩ hsame
  have e2:=(dh.1 h2).1;exact⟨c,hIx c s X Y h1 (hsame.mono (λi hi hl=>by omega)),(hsame.block _ ah e2).trans h2,(hsame.block _ ah ah).trans h3⟩
 .rintro pre x args X ⟨hi,hl,hk⟩ hpx hrep hsz m
  have hra:r.assign=assign:=by rw[hr]
  have hrb:r.body=body:=by rw[hr]
  have um:r.params=ps:=by rw[hr]
  have hrt:r.tmps=a.tmps:=by rw[hr]
  have hrs:r.state= .ready:=by rw[hr]
  have hrn:r.pending=F:=by rw[hr]
  have hrr:({r with state:= .ready,pending:=none}:Loop)=r:=by rw[hr]
  refine AU hl hrs trivial (by rw[um];exact hps x args X hrep) ?_;have hR:=BM pre x args X hi hpx hrep ah m;rw[<-hra,<-hrb,<-um,<-hrt] at hR;refine wpIn_mono hR ?_;rintro e a1 X1 hp
  cases e with
  |normal=>
   obtain⟨hb,hbody⟩:=hp;have TU:=(dh.1 hl).1;have hl1:X1.1[w.1.size+1]?=z (.loop r):=(hb.block _ ah).trans hl;have hk1:X1.1[w.1.size]?=z (.deferred (z [])):=(hb.block _ ah).trans hk;have hlt1:=(dh.1 hl1).1;refine⟨hl1,wpIn_mono (hbody _ (.putObj X1 _ ah)) ?_⟩;have hl2:(X1.putObj (w.1.size+1) (.loop {r with state:= .busy})).1[w.1.size+1]?=z (.loop {r with state:= .busy}):=G hlt1;have hk2:(X1.putObj (w.1.size+1) (.loop {r with state:= .busy})).1[w.1.size]?=z (.deferred (z [])):=(u ah).trans hk1;rintro e a3 X3 hq;have fin:∀o,X3.1[w.1.size+1]?=(X1.putObj (w.1.size+1) (.loop {r with state:= .busy})).1[w.1.size+1]?->(X3.putObj (w.1.size+1) o).1[w.1.size+1]?=z o:=λo h=>
    G ((dh.1 (h.trans hl2)).1)
   have keep:∀o,aQ D (X1.putObj (w.1.size+1) (.loop {r with state:= .busy})) X3->aQ D X (X3.putObj (w.1.size+1) o):=λo hC=>
    (aQ.of_below hb (λi _ hi=>hi)).trans (((aQ.putObj X1 _ hD).trans hC).trans (aQ.putObj X3 _ hD))
   cases e with
   |normal=>
    obtain⟨⟨hA,hB⟩,hC,hE⟩:=hq;refine⟨hB.trans hl2,.inl ⟨rfl,⟨hput _ _ _ hE,(fin _ hB).trans (by rw[hrr]),(u ah).trans (hA.trans hk2)⟩,?_⟩⟩;exact(aQ.of_below hb (λi _ hi=>hi)).trans (((aQ.putObj X1 _ hD).trans hC).trans (aQ.putObj X3 _ hD))
   |ret=>
    obtain⟨⟨hA,hB⟩,hC,hE⟩:=hq;exact⟨hB.trans hl2,.inr ⟨rfl,⟨.ret,oK _ _ _ _ hE,fin _ hB,(u ah).trans (hA.trans hk2)⟩,keep _ hC⟩⟩
   |exit id=>
    obtain⟨⟨hA,hB⟩,hC,hE⟩:=hq;exact⟨hB.trans hl2,.inr ⟨rfl,⟨.exit id,oK _ _ _ _ hE,fin _ hB,(u ah).trans (hA.trans hk2)⟩,keep _ hC⟩⟩
   |goto t=>
    obtain⟨⟨hA,hB⟩,hC,hE⟩:=hq;exact⟨hB.trans hl2,.inr ⟨rfl,⟨.goto t,oK _ _ _ _ hE,fin _ hB,(u ah).trans (hA.trans hk2)⟩,keep _ hC⟩⟩
   |panic _=>exact hq.elim
   |outgrown=>exact hq.elim
  |_=>exact hp.elim
 .rintro e X2 ⟨v,rfl,(⟨hi,hl,hk⟩|⟨pre,hpre,c,hi,hl,hk⟩)⟩
  .exact⟨F,_,by have:=run_endLoop (P:=P) hl (by rw[hr];simp);rwa[hr] at this,hdone _ (hput _ _ _ hi) ((u ah).trans hk)⟩
  .exact⟨z c,_,run_endLoop (P:=P) hl ak,hstop c pre _ hpre (oK _ _ _ _ hi) ((u ah).trans hk)⟩
end Yd
