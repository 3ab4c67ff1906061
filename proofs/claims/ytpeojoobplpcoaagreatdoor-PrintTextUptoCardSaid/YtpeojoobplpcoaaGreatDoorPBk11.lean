import Derived.Test.YtpeojoobplpcoaaGreatDoorPRdJ
import Derived.Test.YtpeojoobplpcoaaGreatDoorPChG
set_option linter.all false
set_option maxRecDepth 200000
set_option maxHeartbeats 8000000
namespace Yd
open Bool renaming true->o,false->D,not_eq_true'->T,and_eq_false_iff->Y
open Int renaming reduceEq->U
open List renaming dropWhile_suffix->K,drop_suffix->N,drop_left->P,takeWhile_append_of_pos->Q,tail_cons->R,tail_suffix->V,foldl_cons->W
open Nat renaming sub_zero->O
open Go Go.RowKit Go.Proofs
open Lib renaming decodeN->G,decode_at->M,joinTail->Z
open Same renaming setCell->L
open Utf8 renaming decode->C
open _root_ renaming List->E,Nat->F,Int->H,UInt8->I,absurd->J,Bool->S
theorem LJ {b:I}{t:Bs}(h:iQ b=o):bI (b::t)=bI t:=by unfold bI;rw[Ey,av h]
theorem Ai {b:I}{t:Bs}(h:iQ b=D):bI (b::t)=b::t:=by unfold bI;rw[Ey,h];rfl
def Cv (c:I):S:=o8 c||decide (128<=c.toNat)
def EA (l:Bs):F:=(l.takeWhile Cv).length
theorem abj (s:Bs)(i j:F)(_h:i<=j):(⟨s.toArray⟩:ByteArray).extract i j=⟨((s.drop i).take (j - i)).toArray⟩:=by
 apply ByteArray.ext
 rw[ByteArray.data_extract]
 apply Array.ext'
 rw[Array.toList_extract]
def Vu (ws:E Bs)(l:Bs):Except Er (F × Bs):=
 match ws.findIdx? (λs=>s==l.take (EA l)) with
 |some i=> .ok (i,l.drop (EA l))
 |none=> .error (l.drop (yI ws (l.take (EA l))),220)
theorem ah' {c:I}(h:o8 c=o):Cv c=o:=by unfold Cv;rw[h];rfl
theorem Qq:∀l:Bs,l.takeWhile Cv=l.takeWhile o8++(l.drop (l.takeWhile o8).length).takeWhile Cv
 |[]=>rfl
 |a::t=>by
  rw[nE,nE]
  cases hb:o8 a
  .simp only[DT,fF,fJ,iy,Ez]
   rw[nE]
  .rw[ah' hb,av rfl,av rfl]
   simp only[dO,List.drop_succ_cons,fu];rw[<-Qq t]
theorem ae5 (q:I->S)(l:Bs):l.take (l.takeWhile q).length=l.takeWhile q:=by
 have:l=l.takeWhile q++l.dropWhile q:=(List.takeWhile_append_dropWhile).symm;generalize hx:l.takeWhile q=x at*;rw[this];simp
theorem dw_head (q:I->S):∀(l:Bs)(b:I)(t:Bs),l.dropWhile q=b::t->q b=D
 |[],b,t,h=>by simp at h
 |a::l,b,t,h=>by
  rw[Ey] at h
  cases hq:q a
  .rw[hq] at h;simp at h;rw[<-h.1];exact hq
  .rw[hq] at h;exact dw_head q l b t (by simpa using h)
theorem Qr (b:I)(u:Bs):∀(x a:Bs),(∀c∈x,c≠b)->jC x (a++b::u)=jC x a
 |[],a,_=>by simp[jC]
 |c::x,[],h=>by simp[jC,h c fM]
 |c::x,d::a,h=>by
  rw[fu];simp only[jC];rw[Qr b u x a (λe he=>h e (eD _ he))]
theorem ae6 (b:I)(u a:Bs)(ws:E Bs)(h:∀x∈ws,∀c∈x,c≠b):yI ws (a++b::u)=yI ws a:=by
 unfold yI;have:∀(ws:E Bs)(m:F),(∀x∈ws,∀c∈x,c≠b)->ws.foldl (λm s=>max m (jC s (a++b::u))) m=ws.foldl (λm s=>max m (jC s a)) m:=by
  intro ws
  induction ws with
  |nil=>intro m _;rfl
  |cons x ws ih=>
   intro m hm;simp only[W];rw[Qr b u x a (hm x fM),ih _ (λy hy=>hm y (eD _ hy))]
 exact this ws 0 h
theorem JF (ws:E Bs)(l:Bs)(hw:∀x∈ws,∀c∈x,o8 c=o):Vu ws l=eY ws l:=by
 have hT:l.take (EA l)=l.takeWhile Cv:=ae5 Cv l;have hs:=Qq l;have hd:=vC o8 l;unfold Vu eY;rw[hT];have hst:fq l=l.takeWhile o8:=rfl
 cases hdw:l.dropWhile o8 with
 |nil=>
  have hdr:l.drop (l.takeWhile o8).length=[]:=hd.trans hdw;rw[hdr] at hs;have hs':l.takeWhile Cv=fq l:=by rw[hs];simp[fq]
  have Qs:nR l=fq l:=by unfold nR;rw[hst,hdr];rfl
  have hrun:EA l=(fq l).length:=by unfold EA;rw[hs']
  rw[hs',Qs,hrun]
  rfl
 |cons b t=>
  have hdr:l.drop (l.takeWhile o8).length=b::t:=hd.trans hdw;have hb:o8 b=D:=dw_head o8 l b t hdw;rw[hdr] at hs;by_cases h128:128<=b.toNat
  .have hR:Cv b=o:=by unfold Cv;rw[bN h128,Bool.or_true]
   rw[nE,hR,av rfl] at hs;have Qs:nR l=fq l++[128]:=by
    unfold nR;rw[hst,hdr];simp only[tV];rw[av (show(128:I)<=b from h128)]
   have n1:∀x∈ws,(x==l.takeWhile Cv)=D:=λx hx=>by
    rw[hs];refine aU.2 (λe=>?_);have:=hw x hx b (by rw[e];simp);rw[hb] at this;cases this
   have n2:∀x∈ws,(x==nR l)=D:=λx hx=>by
    rw[Qs];refine aU.2 (λe=>?_);have:=hw x hx 128 (by rw[e];simp);revert this;decide
   rw[DZ.2 n1,DZ.2 n2];simp only[];rw[hs,ae6 b _ _ ws (λx hx c hc e=>by have:=hw x hx c hc;rw[e,hb] at this;cases this)]
   rfl
  .have hR:Cv b=D:=by unfold Cv;rw[bq h128,hb];rfl
   rw[nE,hR] at hs;have hs':l.takeWhile Cv=fq l:=by rw[hs];simp[fq]
   have Qs:nR l=fq l:=by
    unfold nR;rw[hst,hdr];simp only[tV];rw[au (show ¬(128:I)<=b from h128)]
   have hrun:EA l=(fq l).length:=by unfold EA;rw[hs']
   rw[hs',Qs,hrun]
   rfl
def Qt (l:Bs):H:=afG ⟨l.toArray⟩
def hdN (l:Bs):F:=if okB ⟨l.toArray⟩ 0=o then(C ⟨l.toArray⟩ 0).2 else 1
theorem Qu {l:Bs}(h:l≠[]):Qt l=if okB ⟨l.toArray⟩ 0=o then((C ⟨l.toArray⟩ 0).1:H) else -1:=by
 unfold Qt afG;rw[av (by rw[gQ];cases l with|nil=>exact J rfl h|cons a t=>simp)]
theorem adJ {b:I}(t:Bs)(h:b.toNat<128):Qt (b::t)=b.toNat/\hdN (b::t)=1:=by
 rw[Qu ak];unfold hdN;rw[NK b t h,av rfl,av rfl,qm b t h];exact⟨rfl,rfl⟩
theorem akK {b:I}(t:Bs)(h:128<=b.toNat):Qt (b::t)= -1\/128<=Qt (b::t):=by
 rw[Qu ak];have:=zx b t h
 split
 .right;omega
 .left;rfl
theorem akL (b:I)(t:Bs)(k:F)(hk:k<128):(Qt (b::t)=(k:H))↔b.toNat=k:=by
 rcases gP b.toNat 128 with h|h
 .rw[(adJ t h).1];omega
 .rcases akK t h with e|e <;> constructor <;> intro <;> omega
theorem Yq (n n' b0 b1 b2 b3 c1 c2 c3 r w:F)(hw:G n b0 b1 b2 b3=(r,w))(hv:¬(r=65533/\w=1))(hn:w<=n')(h1:1<w->c1=b1)(h2:2<w->c2=b2)(h3:3<w->c3=b3):G n' b0 c1 c2 c3=(r,w):=by
 unfold G at hw
 split at hw
 .rename_i h
  unfold G;rw[av h];exact hw
 .rename_i hA
  split at hw
  .rename_i h
   split at hw
   .rename_i hk
    injection hw with e1 e2;subst e2;obtain rfl:=h1 ah;unfold G;rw[au hA,av ⟨h.1,by omega,h.2.2⟩,av hk,e1]
   .injection hw with e1 e2;exact J ⟨e1.symm,e2.symm⟩ hv
  .rename_i hB
   split at hw
   .rename_i h
    split at hw
    .rename_i hk
     injection hw with e1 e2;subst e2;obtain rfl:=h1 ah;obtain rfl:=h2 ah;unfold G;rw[au hA,au ah,av ⟨h.1,⟨by omega,h.2.1.2⟩,by omega,h.2.2.2⟩,av hk,e1]
    .injection hw with e1 e2;exact J ⟨e1.symm,e2.symm⟩ hv
   .rename_i hC
    split at hw
    .rename_i h
     split at hw
     .rename_i hk
      injection hw with e1 e2;subst e2;obtain rfl:=h1 ah;obtain rfl:=h2 ah;obtain rfl:=h3 ah;unfold G;rw[au hA,au ah,au ah,av ⟨h.1,⟨by omega,h.2.1.2⟩,⟨by omega,h.2.2.1.2⟩,by omega,h.2.2.2.2⟩,av hk,e1]
     .injection hw with e1 e2;exact J ⟨e1.symm,e2.symm⟩ hv
    .injection hw with e1 e2;exact J ⟨e1.symm,e2.symm⟩ hv
theorem AQ (l:Bs)(m k:F)(h:k<m):(l.take m).getD k 0=l.getD k 0:=by simp[List.getD,h]
theorem Qv (l:Bs):C ⟨l.toArray⟩ 0=G l.length (l.getD 0 0).toNat (l.getD 1 0).toNat (l.getD 2 0).toNat (l.getD 3 0).toNat:=by
 have:=Lib.decode_N ⟨l.toArray⟩ 0
 simpa using this
theorem abk {l:Bs}{m:F}(h:okB ⟨l.toArray⟩ 0=o)(hm:(C ⟨l.toArray⟩ 0).2<=m)(hl:(C ⟨l.toArray⟩ 0).2<=l.length)(h0:0<m):C ⟨(l.take m).toArray⟩ 0=C ⟨l.toArray⟩ 0:=by
 have hv:=Oe h;have hx:=Qv l;obtain⟨r,w,hq⟩:∃r w,C ⟨l.toArray⟩ 0=(r,w):=⟨_,_,rfl⟩;rw[hq] at hx hm hl hv ⊢;simp only at hm hl hv;rw[Qv (l.take m),AQ l m 0 h0];refine Yq l.length _ _ _ _ _ _ _ _ r w hx.symm hv (by rw[fE];omega) (λh1=>?_) (λh1=>?_) (λh1=>?_)
 .rw[AQ l m 1 ah]
 .rw[AQ l m 2 ah]
 .rw[AQ l m 3 ah]
theorem abl (l:Bs)(h:l≠[]):cK ⟨l.toArray⟩ l.length 0=0::(cK ⟨(l.drop (C ⟨l.toArray⟩ 0).2).toArray⟩ (l.drop (C ⟨l.toArray⟩ 0).2).length 0).map ((C ⟨l.toArray⟩ 0).2+ ·):=by
 obtain⟨d,hd⟩:∃d,d=(C ⟨l.toArray⟩ 0).2:=⟨_,rfl⟩;have hw:=Aw l h;rw[<-hd] at hw ⊢;obtain⟨n,hn⟩:∃n,l.length=n+1:=⟨l.length - 1,by have:l.length≠0:=λe=>h (Av e);omega⟩;rw[hn];simp only[cK,gQ];rw[av ah,<-hd,bA,<-dM d,C8,dM,BG ⟨(l.drop d).toArray⟩ n (l.drop d).length 0 (by rw[gQ,gG];omega) (by rw[gQ];omega)]
theorem Yr {l:Bs}(h:l≠[])(hk:(okB ⟨l.toArray⟩ 0 && jJ ((C ⟨l.toArray⟩ 0).1:H))=o):dX l=(C ⟨l.toArray⟩ 0).2+dX (l.drop (C ⟨l.toArray⟩ 0).2):=by
 unfold dX;rw[iR l jJ h,av hk]
theorem ae7 (l:Bs):dX l<=l.length:=uE jJ _ l (aB _)
def Gu (l:Bs)(k:F):Prop:=k<=dX l/\k+dX (l.drop k)=dX l/\
 ∃pre:E F,cK ⟨(l.take (dX l)).toArray⟩ (l.take (dX l)).length 0=pre++(cK ⟨((l.take (dX l)).drop k).toArray⟩ ((l.take (dX l)).drop k).length 0).map (k+ ·)/\∀x∈pre,x<k
theorem Gu.zero (l:Bs):Gu l 0:=⟨aZ _,by simp,[],by simp,by simp⟩
theorem NE {l:Bs}{k:F}(h:k+dX (l.drop k)=dX l):(l.take (dX l)).drop k=(l.drop k).take (dX (l.drop k)):=by
 rw[<-h,List.drop_take];congr 1;omega
theorem Gu.step {l:Bs}{k:F}(h:Gu l k)(hne:l.drop k≠[])(hk:(okB ⟨(l.drop k).toArray⟩ 0 && jJ ((C ⟨(l.drop k).toArray⟩ 0).1:H))=o):
  Gu l (k+(C ⟨(l.drop k).toArray⟩ 0).2)/\(24<k+(C ⟨(l.drop k).toArray⟩ 0).2->k<=24->24<dX l/\u7 (l.take (dX l))=k):=by
 obtain⟨h1,h2,pre,hp,hx⟩:=h;have hst:=Yr hne hk;obtain⟨n,hn⟩:∃n,n=(C ⟨(l.drop k).toArray⟩ 0).2:=⟨_,rfl⟩;have hok:okB ⟨(l.drop k).toArray⟩ 0=o:=by
  revert hk;cases okB ⟨(l.drop k).toArray⟩ 0 <;> simp
 have hn1:=Aw (l.drop k) hne;have hn2:=zy (l.drop k) hne;rw[<-hn] at hst hn1 hn2 ⊢;rw[zq] at hst;have htd:=NE h2;have hdec:C ⟨((l.take (dX l)).drop k).toArray⟩ 0=C ⟨(l.drop k).toArray⟩ 0:=by
  rw[htd];exact abk hok (by rw[<-hn];omega) (by rw[<-hn];exact hn2) ah
 have hne2:(l.take (dX l)).drop k≠[]:=by
  rw[htd];intro e;have:=bU List.length e;rw[fE] at this;simp only[iy] at this;have:=BU.2 hne;omega
 have hpc:=abl _ hne2;rw[hdec,<-hn,zq] at hpc;have hall:cK ⟨(l.take (dX l)).toArray⟩ (l.take (dX l)).length 0=(pre++[k])++(cK ⟨((l.take (dX l)).drop (k+n)).toArray⟩ ((l.take (dX l)).drop (k+n)).length 0).map ((k+n)+ ·):=by
  rw[hp,hpc];simp[iV,Function.comp_def,Nat.add_assoc]
 refine⟨⟨by omega,by omega,pre++[k],hall,λx hxm=>?_⟩,λxE aoq=>⟨by omega,?_⟩⟩
 .rcases dm.1 hxm with hxm|hxm
  .have:=hx x hxm;omega
  .obtain rfl:x=k:=by simpa using hxm
   omega
 .unfold u7
  rw[hall,List.filter_append,filter_all _ (pre++[k]) (λx hxm=>?_),MZ _ _ (λx hxm=>?_)]
  .simp
  .obtain⟨y,_,rfl⟩:=dI.1 hxm
   exact bq ah
  .rcases dm.1 hxm with hxm|hxm
   .have:=hx x hxm;exact bN ah
   .obtain rfl:x=k:=by simpa using hxm
    exact bN aoq
theorem TL (b:I):jf b=o↔48<=b.toNat/\b.toNat<=57:=by
 unfold jf;rw[aO,aW,aW,UInt8.le_iff_toNat_le,UInt8.le_iff_toNat_le];rfl
theorem M0 (b:I)(t:Bs):dJ (b::t)=kC (Qt (b::t)):=by
 rw[Qu ak];unfold dJ
 cases h:okB ⟨(b::t).toArray⟩ 0
 .rw[au ak];rfl
 .rw[av rfl];rfl
theorem Vv {c:H}(h:kC c=o):kS c=D:=by
 unfold kC at h;unfold kS;simp only[wB,aO,aW] at h;simp only[Y,decide_eq_false_iff_not];omega
theorem abm {l:Bs}(he:dS l=D)(hB:dJ l=o)(h:dX l<=24):dF l= .ok (l.take (dX l),l.drop (dX l)):=by
 unfold dF;rw[au (by rw[he,hB];simp),au ah]
section
variable {w w':World}{B b:F}{c:bE}{n:aH}
theorem Yt {l r:Bs}(h:d9 l= .ok r):dN l= .ok (o,r):=by
 unfold d9 at h
 cases hm:dN l with
 |error x=>rw[hm] at h;cases h
 |ok y=>
  obtain⟨b,r'⟩:=y;rw[hm] at h
  cases b
  .cases h
  .injection h with h;rw[h]
@[reducible] def abn (w:World)(g:F)(c:bE):World:=(((((w.setCell ⟨g,0,none⟩ (.int .i64 c.kind)).setCell ⟨g,1,none⟩ (.slice c.na c.nn c.nc)).setCell ⟨g,2,none⟩ (.int .i64 c.lvl)).setCell ⟨g,3,none⟩ (.slice c.va c.vn c.vc)).setCell ⟨g,4,none⟩ (.bool c.first)).setCell ⟨g,5,none⟩ (.int .i64 c.bits)
theorem M4 (w:World)(g:F)(c:bE):Same (λi=>i≠g) w (abn w g c):=
 (((((L _ _ _ _ ak).tr (L _ _ _ _ ak)).tr (L _ _ _ _ ak)).tr (L _ _ _ _ ak)).tr (L _ _ _ _ ak)).tr (L _ _ _ _ ak)
theorem gD.abn {g:F}{c':bE}(h:gD w B c n)(h1:∀i,(Value.slice c.na c.nn c.nc).ownBlock=some i->i≠g)(h2:∀i,(Value.slice c.va c.vn c.vc).ownBlock=some i->i≠g):gD (abn w g c') B c n:=
 ⟨h.1,h.2.1.block λi hi=>(M4 w g c').block i (h1 i hi) (h.2.1.lt i hi).2,h.2.2.block λi hi=>(M4 w g c').block i (h2 i hi) (h.2.2.lt i hi).2⟩
end
theorem abo {l:Bs}(h:dJ l=D):dF l= .error (l,220):=by unfold dF;rw[av (by rw[h];simp)]
theorem Qw (k:F):∀x∈kJ.drop k,∀c∈x,o8 c=o:=λx hx=>by
 have:∀x∈kJ,∀c∈x,o8 c=o:=by decide
 exact this x (AP hx)
theorem Qx:∀x∈og,∀c∈x,o8 c=o:=by decide
theorem TM:∀x∈nu,∀c∈x,o8 c=o:=by decide
theorem ae8 {b:I}{t:Bs}(h:dJ (b::t)=o):0<dX (b::t):=by
 have hb:(okB ⟨(b::t).toArray⟩ 0 && kC ((C ⟨(b::t).toArray⟩ 0).1:H))=o:=by
  unfold dJ at h
  simpa using h
 rw[aO] at hb;have hw:=Aw (b::t) ak;unfold dX;rw[iR (b::t) jJ ak,av (by rw[hb.1];unfold jJ;rw[hb.2];rfl)];omega
theorem Qy {ws:E Bs}{l r:Bs}{i:F}(h:Vu ws l= .ok (i,r)):i<ws.length:=by
 unfold Vu at h
 cases hf:ws.findIdx? (λs=>s==l.take (EA l)) with
 |none=>rw[hf] at h;cases h
 |some j=>
  rw[hf] at h;injection h with h;injection h with h _;subst h;exact(List.findIdx?_eq_some_iff_findIdx_eq.1 hf).1
theorem xC (w r:Bs)(i:F)(h:i<w.length):ByteArray.get! ⟨(w++r).toArray⟩ i=ByteArray.get! ⟨w.toArray⟩ i:=by
 simp only[ByteArray.get!];rw[getElem!_pos (w++r).toArray i (by simp;omega),getElem!_pos w.toArray i (by simpa using h)];simp[List.getElem_append_left h]
theorem abp (n m b0 b1 b2 b3 c1 c2 c3:F)(h1:1<n->c1=b1)(h2:2<n->c2=b2)(h3:3<n->c3=b3)(hok:G n b0 b1 b2 b3≠(65533,1)):G (n+m) b0 c1 c2 c3=G n b0 b1 b2 b3:=by
 unfold G at hok ⊢;by_cases a:b0<128
 .rw[av a,av a]
 rw[au a] at hok ⊢;rw[au a];by_cases hA:b0 / 32=6/\(1<n/\b1 / 64=2)
 .rw[av hA]
  rw[av (by rw[h1 hA.2.1];omega),h1 hA.2.1]
 rw[au hA] at hok ⊢;by_cases hB:b0 / 16=14/\(1<n/\b1 / 64=2)/\(2<n/\b2 / 64=2)
 .rw[av hB]
  rw[au ah,av (by rw[h1 ah,h2 ah];omega),h1 ah,h2 ah]
 rw[au hB] at hok ⊢;by_cases hC:b0 / 8=30/\(1<n/\b1 / 64=2)/\(2<n/\b2 / 64=2)/\(3<n/\b3 / 64=2)
 .rw[av hC]
  rw[au ah,au ah,av (by rw[h1 ah,h2 ah,h3 ah];omega),h1 ah,h2 ah,h3 ah]
 rw[au hC] at hok;exact J rfl hok
theorem Yu {s:ByteArray}(h:okB s 0=o):C s 0≠(65533,1):=λe=>by
 unfold okB at h;rw[e] at h;simp at h
theorem LK (w r:Bs)(hw:w≠[])(hok:okB ⟨w.toArray⟩ 0=o):C ⟨(w++r).toArray⟩ 0=C ⟨w.toArray⟩ 0:=by
 have hne:=Yu hok;have hl:0<w.length:=BU.2 hw;rw[M,M,gQ,gQ,bL,O,O] at*;rw[xC w r 0 hl];refine abp _ _ _ _ _ _ _ _ _ (λh=>?_) (λh=>?_) (λh=>?_) hne
 .rw[xC w r (0+1) ah]
 .rw[xC w r (0+2) ah]
 .rw[xC w r (0+3) ah]
theorem Yv (w r:Bs)(hw:w≠[])(hok:okB ⟨w.toArray⟩ 0=o):okB ⟨(w++r).toArray⟩ 0=o:=by
 unfold okB at hok ⊢;rw[LK w r hw hok];exact hok
def Stops (p:H->S)(r:Bs):Prop:=r=[]\/(okB ⟨r.toArray⟩ 0 && p ((C ⟨r.toArray⟩ 0).1:H))=D
theorem Gv {p:H->S}{r:Bs}(h:Stops p r):gN ⟨r.toArray⟩ p=0:=by
 rcases h with rfl|h
 .rfl
 .by_cases hr:r=[]
  .subst hr;rfl
  .rw[iR r p hr,h];rfl
theorem KR (p:H->S):∀(n:F)(w r:Bs),w.length<=n->gN ⟨w.toArray⟩ p=w.length->Stops p r->gN ⟨(w++r).toArray⟩ p=w.length
 |0,w,r,hn,_,hs=>by
  have:w=[]:=Hy.1 ah;subst this;exact Gv hs
 |n+1,w,r,hn,hw,hs=>by
  by_cases h0:w=[]
  .subst h0;exact Gv hs
  .have hpos:0<w.length:=BU.2 h0
   rw[iR w p h0] at hw;by_cases hc:(okB ⟨w.toArray⟩ 0 && p ((C ⟨w.toArray⟩ 0).1:H))=o
   .rw[av hc] at hw
    rw[aO] at hc;have hd:=LK w r h0 hc.1;have h1:=Aw w h0;have h2:=zy w h0;rw[iR (w++r) p (by simp[h0]),hd,Yv w r h0 hc.1,hc.2,av (show(o && o)=o from rfl),List.drop_append_of_le_length h2];rw[KR p n (w.drop (C ⟨w.toArray⟩ 0).2) r (by rw[gG];omega) (by rw[gG];omega) hs,gG];omega
   .rw[au hc] at hw;omega
theorem yj {c:I}(t:Bs)(h:c.toNat<128)(he:jJ (c.toNat:H)=D):Stops jJ (c::t):= .inr (by rw[qm c t h];show(_ && jJ (c.toNat:H))=D;rw[he,Bool.and_false])
theorem KS {w:Bs}(h:bF ⟨w.toArray⟩=o):w≠[]/\w.length<=24/\dX w=w.length/\dJ w=o:=by
 unfold bF at h;simp only[aO,aW,T] at h;obtain⟨⟨⟨h1,h2⟩,h3⟩,h4⟩:=h;have hne:w≠[]:=by rintro rfl;simp at h1
 have hpos:0<w.length:=BU.2 hne;rw[gQ] at h2 h4;refine⟨hne,by omega,h4,?_⟩;have hc:(okB ⟨w.toArray⟩ 0 && jJ ((C ⟨w.toArray⟩ 0).1:H))=o:=by
  apply Classical.byContradiction
  intro hno;rw[iR w jJ hne,au hno] at h4;omega
 rw[aO] at hc;unfold dJ;rw[hc.1,Ay]
 cases w with
 |nil=>exact J rfl hne
 |cons b t=>
  show(o && kC _)=o;rw[Ay];have hc2:=hc.2;unfold jJ at hc2;rcases wB _ _▸hc2 with h|h
  .exact h
  .exfalso
   rcases gP b.toNat 128 with hb|hb
   .rw[qm b t hb] at h
    have:zB ⟨(b::t).toArray⟩=(b.toNat:H):=by
     unfold zB;rw[dif_pos (by rw[gQ];simp)];show wrap32 (b.toNat:H)=_;unfold wrap32;omega
    rw[this] at h3;rw[h3] at h;cases h
   .have:=(zx b t hb).1
    unfold kS at h;simp only[aO,aW] at h;omega
theorem KT {w r:Bs}(hw:w≠[])(h:dJ w=o):dJ (w++r)=o:=by
 unfold dJ at h ⊢;simp only[aO,T] at h ⊢;have hok:=h.2.1;refine⟨by cases w with|nil=>exact J rfl hw|cons b t=>rfl,Yv w r hw hok,?_⟩;rw[LK w r hw hok];exact h.2.2
theorem IQ {b:I}{t:Bs}(h:dJ (b::t)=o):dS (b::t)=D/\iQ b=D/\b≠45:=by
 have hl:=M0 b t;rw[h] at hl;have hb:∀k:F,k<128->kC (k:H)=D->b.toNat≠k:=λk hk hf e=>by
  rw[(akL b t k hk).2 e,hf] at hl;cases hl
 refine⟨?_,?_,λe=>hb 45 aj rfl (by rw[e];rfl)⟩
 .rw[jI]
  have h1:=hb 10 aj rfl;have h2:=hb 35 aj rfl;rw[aU.2 ah,aU.2 ah];rfl
 .unfold iQ
  rw[aU.2 (λe=>hb 32 aj rfl (by rw[e];rfl)),aU.2 (λe=>hb 9 aj rfl (by rw[e];rfl))];rfl
theorem Cw {w r:Bs}(hw:bF ⟨w.toArray⟩=o)(hs:Stops jJ r):dF (w++r)= .ok (w,r):=by
 obtain⟨hne,hl,hr,hb⟩:=KS hw;have hB:=KT (r:=r) hne hb;have hrun:dX (w++r)=w.length:=KR jJ w.length w r (aB _) hr hs;have hE:dS (w++r)=D:=by
  cases w with
  |nil=>exact J rfl hne
  |cons b t=>exact(IQ hB).1
 rw[abm hE hB ah,hrun,List.take_left,P]
def Sp (b:Bs):Prop:=b≠[]/\∀c∈b,iQ c=o
def Cut (r:Bs):Prop:=∀c t,r=c::t->iQ c=o\/c=10\/c=35
theorem Cx:∀(b r:Bs),(∀c∈b,iQ c=o)->bI (b++r)=bI r
 |[],r,_=>rfl
 |c::b,r,h=>by
  rw[fu,LJ (h c fM)];exact Cx b r (λx hx=>h x (eD _ hx))
theorem Vw {r:Bs}(h:∀c t,r=c::t->iQ c=D):bI r=r:=by
 cases r with
 |nil=>rfl
 |cons c t=>exact Ai (h c t rfl)
theorem Vx {e:Bs}(h:dS e=o):bI e=e:=Vw λc t hc=>by
 subst hc;rw[jI] at h;unfold iQ;rcases wB _ _▸h with h|h
 .have:c=10:=jm.1 (by have:=eq_of_beq h;show c.toNat=10;omega)
  rw[this];rfl
 .have:c=35:=jm.1 (by have:=eq_of_beq h;show c.toNat=35;omega)
  rw[this];rfl
theorem EB {b:Bs}(hb:Sp b){c:I}{t:Bs}(hc:iQ c=D)(he:dS (c::t)=D):dN (b++c::t)= .ok (o,c::t):=by
 unfold dN;rw[Cx b _ hb.2,Ai hc,au (by rw[he];simp),au];have h0:=BU.2 hb.1;intro e;rw[bL] at e;omega
theorem qN {b e:Bs}(hb:∀c∈b,iQ c=o)(he:dS e=o):dN (b++e)= .ok (D,e):=by
 unfold dN;rw[Cx b _ hb,Vx he,av he]
theorem JG {b:Bs}(hb:Sp b){c:I}{t:Bs}(hc:iQ c=D)(he:dS (c::t)=D):d9 (b++c::t)= .ok (c::t):=by
 unfold d9;rw[EB hb hc he]
theorem Cut.stops {r:Bs}(h:Cut r):Stops jJ r:=by
 cases r with
 |nil=>exact .inl rfl
 |cons c t=>
  have hk:=h c t rfl;have hc:c=32\/c=9\/c=10\/c=35:=by
   rcases hk with hk|hk|hk
   .unfold iQ at hk
    rcases wB _ _▸hk with hk|hk
    .exact .inl (eq_of_beq hk)
    .exact .inr (.inl (eq_of_beq hk))
   .exact .inr (.inr (.inl hk))
   .exact .inr (.inr (.inr hk))
  rcases hc with rfl|rfl|rfl|rfl
  .exact yj t aj aj
  .exact yj t aj aj
  .exact yj t aj aj
  .exact yj t aj aj
theorem Cut.byte {c:I}{t:Bs}(h:Cut (c::t)):o8 c=D/\¬(128<=c)/\jf c=D:=by
 have hc:c=32\/c=9\/c=10\/c=35:=by
  rcases h c t rfl with hk|hk|hk
  .unfold iQ at hk
   rcases wB _ _▸hk with hk|hk
   .exact .inl (eq_of_beq hk)
   .exact .inr (.inl (eq_of_beq hk))
  .exact .inr (.inr (.inl hk))
  .exact .inr (.inr (.inr hk))
 rcases hc with rfl|rfl|rfl|rfl <;> exact⟨by decide,by decide,by decide⟩
theorem Cut.ends {e:Bs}(he:dS e=o):Cut e:=λc t hc=>by
 subst hc;rw[jI] at he;rcases wB _ _▸he with h|h
 .exact .inr (.inl (jm.1 (by have:=eq_of_beq h;show c.toNat=10;omega)))
 .exact .inr (.inr (jm.1 (by have:=eq_of_beq h;show c.toNat=35;omega)))
theorem Cut.sp {b r:Bs}(hb:Sp b):Cut (b++r):=λc t hc=>by
 cases b with
 |nil=>exact J rfl hb.1
 |cons x b=>rw[fu] at hc;injection hc with h1 _;subst h1;exact .inl (hb.2 _ fM)
theorem Cut.blanks {b e:Bs}(hb:∀c∈b,iQ c=o)(he:dS e=o):Cut (b++e):=λc t hc=>by
 cases b with
 |nil=>exact Cut.ends he c t hc
 |cons x b=>rw[fu] at hc;injection hc with h1 _;subst h1;exact .inl (hb _ fM)
def glue:E (Bs × Bs)->Bs->Bs
 |[],e=>e
 |p::ps,e=>p.1++(p.2++glue ps e)
theorem JH:∀(ps qs:E (Bs × Bs))(e:Bs),glue (ps++qs) e=glue ps (glue qs e)
 |[],_,_=>rfl
 |p::ps,qs,e=>by rw[fu,glue,glue,JH ps qs e]
theorem sK:∀(ps:E (Bs × Bs))(e:Bs),(∀p∈ps,Sp p.1)->Cut e->Cut (glue ps e)
 |[],_,_,h=>h
 |p::_ps,_e,hs,_=>Cut.sp (hs p fM)
theorem zW {w r:Bs}(hw:bF ⟨w.toArray⟩=o):∃c t,w++r=c::t/\iQ c=D/\dS (c::t)=D/\dJ (c::t)=o/\c≠45:=by
 obtain⟨hne,_,_,hb⟩:=KS hw;have hB:=KT (r:=r) hne hb
 cases w with
 |nil=>exact J rfl hne
 |cons c t=>
  have h:=IQ hB;exact⟨c,t++r,rfl,h.2.1,h.1,hB,h.2.2⟩
theorem Yw {b w r:Bs}(hb:Sp b)(hw:bF ⟨w.toArray⟩=o):d9 (b++(w++r))= .ok (w++r):=by
 obtain⟨c,t,h1,h2,h3,_⟩:=zW (r:=r) hw;rw[h1];exact JG hb h2 h3
theorem Gw {b w r:Bs}(hb:Sp b)(hw:bF ⟨w.toArray⟩=o):dN (b++(w++r))= .ok (o,w++r):=by
 obtain⟨c,t,h1,h2,h3,_⟩:=zW (r:=r) hw;rw[h1];exact EB hb h2 h3
theorem KU:∀(ps:E (Bs × Bs))(acc:E Bs)(e:Bs),(∀p∈ps,Sp p.1/\bF ⟨p.2.toArray⟩=o)->Cut e->jH ps.length acc (glue ps e)= .ok (acc++ps.map (·.2),e)
 |[],acc,e,_,_=>by rw[mE,dB];rfl
 |p::ps,acc,e,h,he=>by
  have hp:=h p fM;rw[dO,jH,glue,Yw hp.1 hp.2];simp only[];rw[Cw hp.2 (sK ps e (λq hq=>(h q (eD _ hq)).1) he).stops];show jH ps.length (acc++[p.2]) (glue ps e)=_;rw[KU ps (acc++[p.2]) e (λq hq=>h q (eD _ hq)) he,eu,dD];rfl
theorem C9 (most:F)(tb e:Bs)(htb:∀c∈tb,iQ c=o)(he:dS e=o):∀(ps:E (Bs × Bs))(f many:F)(ns:E Bs)(vs:E To),(∀p∈ps,Sp p.1/\bF ⟨p.2.toArray⟩=o)->ps.length<f->many+ps.length<=most->
  bK D most f many ns vs (glue ps (tb++e))= .ok ((ns++ps.map (·.2),vs),e)
 |[],f,many,ns,vs,_,hf,_=>by
  obtain⟨g,rfl⟩:∃g,f=g+1:=⟨f - 1,by simp at hf;omega⟩;rw[bK,glue,qN htb he,mE,dB]
 |p::ps,f,many,ns,vs,h,hf,hm=>by
  obtain⟨g,rfl⟩:∃g,f=g+1:=⟨f - 1,by simp at hf;omega⟩;have hp:=h p fM;rw[bK,glue,Gw hp.1 hp.2];simp only[];rw[au (by simp at hm;omega),Cw hp.2 (sK ps _ (λq hq=>(h q (eD _ hq)).1) (Cut.blanks htb he)).stops];simp only[DT,fF];rw[C9 most tb e htb he ps g (many+1) (ns++[p.2]) vs (λq hq=>h q (eD _ hq)) (by simp at hf;omega) (by simp at hm;omega),eu,dD];rfl
theorem Gx {ws:E Bs}{w r:Bs}{i:F}(hi:ws.findIdx? (λs=>s==w)=some i)(hw:∀c∈w,o8 c=o)(hr:Cut r):eY ws (w++r)= .ok (i,r):=by
 have hst:fq (w++r)=w:=by
  unfold fq;rw[Q hw]
  cases r with
  |nil=>simp
  |cons c t=>rw[nE,hr.byte.1];simp
 have Qs:nR (w++r)=w:=by
  unfold nR;rw[hst,P]
  cases r with
  |nil=>rfl
  |cons c t=>simp only[tV];rw[au hr.byte.2.1]
 unfold eY;rw[Qs,hst,hi,P]
theorem M5 (l:Bs)(c:I):qJ (l++[c])=qJ l*10+(c.toNat - 48):=by unfold qJ;rw[List.foldl_append];rfl
theorem Vy (n:F):0<n->qJ (jR n)=n/\(jR n).all jf=o/\(jR n).head?≠some 48/\(jR n).head?≠none:=by
 induction n using Nat.strongRecOn with
 |_ n ih=>
  intro h;have hc:(UInt8.ofNat (48+n % 10)).toNat=48+n % 10:=by simp;omega
  have hdg:jf (UInt8.ofNat (48+n % 10))=o:=(TL _).2 ah;rw[Ct h];rcases Nat.eq_zero_or_pos (n / 10) with h0|h0
  .have hd:jR (n / 10)=[]:=by rw[h0];rfl
   rw[hd,fJ];refine⟨?_,by rw[List.all_cons,hdg];rfl,?_,by simp⟩
   .show qJ ([]++[_])=n
    rw[M5,hc];show 0*10+_=n;omega
   .rw[tV]
    intro e;have:=bU UInt8.toNat (uX e);rw[hc] at this;have h48:(48:I).toNat=48:=rfl;omega
  .obtain⟨h1,h2,h3,h4⟩:=ih (n / 10) ah h0
   cases hq:jR (n / 10) with
   |nil=>rw[hq] at h4;exact J rfl h4
   |cons a t=>
    rw[hq] at h1 h2 h3;refine⟨?_,?_,?_,by simp⟩
    .rw[M5,hc,h1];omega
    .rw[List.all_append,h2,List.all_cons,hdg];rfl
    .simpa using h3
theorem abq {nm r:Bs}{k:F}(h0:0<k)(h9:k<=999)(hr:Cut r):wQ nm (jR k++r)= .ok (⟨nm,k⟩,r):=by
 obtain⟨h1,h2,h3,h4⟩:=Vy k h0;have hall:∀c∈jR k,jf c=o:=fA.1 h2;have ht:(jR k++r).takeWhile jf=jR k:=by
  rw[Q hall]
  cases r with
  |nil=>simp
  |cons c t=>rw[nE,hr.byte.2.2];simp
 unfold wQ;simp only[ht];rw[au (λe=>e.elim h4 h3),h1,au ah,P]
theorem Qz {v:To}{r:Bs}(hv:j5 v)(hr:Cut r):gM (gq v++r)= .ok (v,r):=by
 unfold gq;rcases hv with rfl|⟨hw,h0,h9⟩
 .rw[av rfl];rfl
 .rw[au ah,dD,fu]
  obtain⟨c,t,hc,_,_,_,hne⟩:=zW (r:=46::(jR v.k.toNat++r)) hw;unfold gM;rw[hc,tV,au (by simp;exact hne),<-hc,Cw hw (yj _ aj aj)];simp only[tV,bY,R];rw[abq ah ah hr];obtain⟨n,k⟩:=v;simp only at h0 ⊢;rw[show((k.toNat:F):H)=k by omega]
theorem Yx {v:To}{r:Bs}(hv:j5 v):∃c t,gq v++r=c::t/\iQ c=D/\dS (c::t)=D:=by
 unfold gq;rcases hv with rfl|⟨hw,h0,h9⟩
 .rw[av rfl];exact⟨45,r,rfl,by decide,by rw[jI];decide⟩
 .rw[au ah,dD]
  obtain⟨c,t,h1,h2,h3,_⟩:=zW (r:=46::jR v.k.toNat++r) hw;exact⟨c,t,h1,h2,h3⟩
theorem M6 {b r:Bs}{v:To}(hb:Sp b)(hv:j5 v):d9 (b++(gq v++r))= .ok (gq v++r):=by
 obtain⟨c,t,h1,h2,h3⟩:=Yx (r:=r) hv;rw[h1];exact JG hb h2 h3
theorem KV (most:F)(tb e:Bs)(htb:∀c∈tb,iQ c=o)(he:dS e=o):∀(ps:E ((Bs × Bs) × (Bs × To)))(f many:F)(ns:E Bs)(vs:E To),(∀p∈ps,(Sp p.1.1/\bF ⟨p.1.2.toArray⟩=o)/\Sp p.2.1/\j5 p.2.2)->ps.length<f->many+ps.length<=most->
  bK o most f many ns vs (glue (ps.flatMap λp=>[p.1,(p.2.1,gq p.2.2)]) (tb++e))= .ok ((ns++ps.map (·.1.2),vs++ps.map (·.2.2)),e)
 |[],f,many,ns,vs,_,hf,_=>by
  obtain⟨g,rfl⟩:∃g,f=g+1:=⟨f - 1,by simp at hf;omega⟩;rw[bK,GY,glue,qN htb he];simp
 |p::ps,f,many,ns,vs,h,hf,hm=>by
  obtain⟨g,rfl⟩:∃g,f=g+1:=⟨f - 1,by simp at hf;omega⟩;have hp:=h p fM;have hcut:Cut (glue (ps.flatMap λp=>[p.1,(p.2.1,gq p.2.2)]) (tb++e)):=sK _ _ (λq hq=>by
   obtain⟨x,hx,hq⟩:=lH.1 hq;have hx':=h x (eD _ hx);simp at hq;rcases hq with rfl|rfl
   .exact hx'.1.1
   .exact hx'.2.1) (Cut.blanks htb he)
  rw[bK,gY];show(match dN (p.1.1++(p.1.2++(p.2.1++(gq p.2.2++glue (ps.flatMap λp=>[p.1,(p.2.1,gq p.2.2)]) (tb++e))))) with| .error x=>_| .ok (D,r)=>_| .ok (o,r)=>_)=_;rw[Gw hp.1.1 hp.1.2];simp only[];rw[au (by simp at hm;omega),Cw hp.1.2 (Cut.sp hp.2.1).stops];simp only[bY];rw[M6 hp.2.1 hp.2.2];simp only[];rw[Qz hp.2.2 hcut];simp only[];rw[KV most tb e htb he ps g (many+1) (ns++[p.1.2]) (vs++[p.2.2]) (λq hq=>h q (eD _ hq)) (by simp at hf;omega) (by simp at hm;omega),eu,eu,dD,dD];rfl
def Up:F->E F->Prop
 |_,[]=>True
 |k,j::js=>k<=j/\j<4/\Up (j+1) js
theorem abr (k j:F)(h:k<=j)(hj:j<4):(kJ.drop k).findIdx? (λs=>s==lg j)=some (j - k):=by
 have hk4:k=0\/k=1\/k=2\/k=3:=by omega
 have Mk:j=0\/j=1\/j=2\/j=3:=by omega
 rcases hk4 with rfl|rfl|rfl|rfl <;> rcases Mk with rfl|rfl|rfl|rfl <;> first|rfl|(exfalso;omega)
theorem Vz (j:F)(hj:j<4)(r:Bs):∃c t,lg j++r=c::t/\iQ c=D/\dS (c::t)=D:=by
 have:j=0\/j=1\/j=2\/j=3:=by omega
 rcases this with rfl|rfl|rfl|rfl <;> exact⟨_,_,rfl,by decide,by rw[jI];decide⟩
theorem abt (j:F)(hj:j<4):∀c∈lg j,o8 c=o:=by
 have:j=0\/j=1\/j=2\/j=3:=by omega
 rcases this with rfl|rfl|rfl|rfl <;> decide
theorem M7 (tb e:Bs)(htb:∀c∈tb,iQ c=o)(he:dS e=o):∀(js:E F)(ps:E (Bs × Bs))(f k:F)(b:H),Up k js->js.length<f->(∀p∈ps,Sp p.1)->ps.map (·.2)=js.map lg->
  jo f k b (glue ps (tb++e))= .ok (js.foldl (λa j=>a+2 ^ j) b,e)
 |[],ps,f,k,b,_,hf,_,hm=>by
  obtain⟨g,rfl⟩:∃g,f=g+1:=⟨f - 1,by simp at hf;omega⟩;have:ps=[]:=by simpa using hm
  subst this;rw[jo,glue,qN htb he];rfl
 |j::js,ps,f,k,b,hu,hf,hs,hm=>by
  obtain⟨g,rfl⟩:∃g,f=g+1:=⟨f - 1,by simp at hf;omega⟩
  cases ps with
  |nil=>simp at hm
  |cons p ps=>
   rw[eu,eu] at hm;injection hm with hm1 hm2;have hcut:=sK ps (tb++e) (λq hq=>hs q (eD _ hq)) (Cut.blanks htb he);obtain⟨c,t,h1,h2,h3⟩:=Vz j hu.2.1 (glue ps (tb++e));have hw:=Gx (abr k j hu.1 hu.2.1) (abt j hu.2.1) hcut;rw[jo,glue,hm1,h1,EB (hs p fM) h2 h3];simp only[];rw[<-h1,hw];simp only[];rw[show k+(j - k)=j by have:=hu.1;omega];exact M7 tb e htb he js ps g (j+1) (b+2 ^ j) hu.2.2 (by simp at hf;omega) (λq hq=>hs q (eD _ hq)) hm2
theorem Yy (b:F)(hb:b<=15):∃js:E F,Up 0 js/\js.length<5/\oW (b:H)=js.map lg/\js.foldl (λa j=>a+2 ^ j) (0:H)=(b:H):=by
 have hc:b=0\/b=1\/b=2\/b=3\/b=4\/b=5\/b=6\/b=7\/b=8\/b=9\/b=10\/b=11\/b=12\/b=13\/b=14\/b=15:=by omega
 rcases hc with rfl|rfl|rfl|rfl|rfl|rfl|rfl|rfl|rfl|rfl|rfl|rfl|rfl|rfl|rfl|rfl
 .exact⟨[],by simp[Up],by decide,by decide,by decide⟩
 .exact⟨[0],by simp[Up],by decide,by decide,by decide⟩
 .exact⟨[1],by simp[Up],by decide,by decide,by decide⟩
 .exact⟨[0,1],by simp[Up],by decide,by decide,by decide⟩
 .exact⟨[2],by simp[Up],by decide,by decide,by decide⟩
 .exact⟨[0,2],by simp[Up],by decide,by decide,by decide⟩
 .exact⟨[1,2],by simp[Up],by decide,by decide,by decide⟩
 .exact⟨[0,1,2],by simp[Up],by decide,by decide,by decide⟩
 .exact⟨[3],by simp[Up],by decide,by decide,by decide⟩
 .exact⟨[0,3],by simp[Up],by decide,by decide,by decide⟩
 .exact⟨[1,3],by simp[Up],by decide,by decide,by decide⟩
 .exact⟨[0,1,3],by simp[Up],by decide,by decide,by decide⟩
 .exact⟨[2,3],by simp[Up],by decide,by decide,by decide⟩
 .exact⟨[0,2,3],by simp[Up],by decide,by decide,by decide⟩
 .exact⟨[1,2,3],by simp[Up],by decide,by decide,by decide⟩
 .exact⟨[0,1,2,3],by simp[Up],by decide,by decide,by decide⟩
theorem sM (k:F)(hk:1<=k/\k<=9)(lead:Bs)(hlead:∀c∈lead,iQ c=o)(ps1 ps2:E (Bs × Bs))(hlen:ps1.length=(bS k).toNat)(h1:∀p∈ps1,Sp p.1/\bF ⟨p.2.toArray⟩=o)(X:Bs)(hX:Cut (glue ps2 X)):
  jh (lead++(bB k++glue (ps1++ps2) X))=(match jZ k (ps1.map (·.2)) (glue ps2 X) with
   | .error x=> .error x
   | .ok (s,r2)=>match dN r2 with
    | .error x=> .error x
    | .ok (o,r3)=> .error (r3,220)
    | .ok (D,r3)=> .ok (s,r3)):=by
 have hcut:Cut (glue (ps1++ps2) X):=by rw[JH];exact sK ps1 _ (λp hp=>(h1 p hp).1) hX
 have hv:nu.findIdx? (λs=>s==bB k)=some (k - 1)/\(∀c∈bB k,o8 c=o)/\(∃c t,bB k=c::t/\iQ c=D/\((c.toNat:H)==10)=D/\((c.toNat:H)==35)=D):=by
  have:k=1\/k=2\/k=3\/k=4\/k=5\/k=6\/k=7\/k=8\/k=9:=by omega
  rcases this with rfl|rfl|rfl|rfl|rfl|rfl|rfl|rfl|rfl <;> exact⟨rfl,by decide,_,_,rfl,by decide,by decide,by decide⟩
 obtain⟨hv1,hv2,c,t,hv3,hv4,hv5,hv6⟩:=hv;have hw:=Gx hv1 hv2 hcut;have hsk:bI (lead++(bB k++glue (ps1++ps2) X))=bB k++glue (ps1++ps2) X:=by
  rw[Cx lead _ hlead,hv3,fu,Ai hv4]
 have hen:dS (bB k++glue (ps1++ps2) X)=D:=by
  rw[hv3,fu,jI,hv5,hv6];rfl
 unfold jh;rw[hsk,au (by rw[hen];simp),hw];simp only[];rw[show k - 1+1=k by omega,<-hlen,JH,KU ps1 [] _ h1 hX,fJ]
 rfl
theorem yU {α β:Type}{f:α->β}{ps:E α}{A B:E β}(h:ps.map f=A++B):∃p1 p2,ps=p1++p2/\p1.map f=A/\p2.map f=B:=List.map_eq_append_iff.1 h
theorem LM {α β:Type}{f:α->β}{ps:E α}{b:β}(h:ps.map f=[b]):∃p,ps=[p]/\f p=b:=by
 cases ps with
 |nil=>simp at h
 |cons p ps=>
  cases ps with
  |nil=>simp at h;exact⟨p,rfl,h⟩
  |cons q qs=>simp at h
theorem M8:∀(zs:E (Bs × To))(ps:E (Bs × Bs)),ps.map (·.2)=zs.flatMap (λp=>[p.1,gq p.2])->∃qs:E ((Bs × Bs) × (Bs × To)),ps=qs.flatMap (λp=>[p.1,(p.2.1,gq p.2.2)])/\qs.map (λq=>(q.1.2,q.2.2))=zs
 |[],ps,h=>⟨[],by simpa using h,rfl⟩
 |z::zs,ps,h=>by
  rw[gY] at h
  cases ps with
  |nil=>simp at h
  |cons p ps=>
   cases ps with
   |nil=>simp at h
   |cons q ps=>
    rw[eu,eu] at h;simp only[fu,fJ] at h;injection h with h1 h;injection h with h2 h3;obtain⟨qs,e1,e2⟩:=M8 zs ps h3;refine⟨((p.1,p.2),(q.1,z.2))::qs,?_,?_⟩
    .rw[gY,<-e1,<-h2];rfl
    .rw[eu,e2,h1]
theorem abu (lv:F)(h1:1<=lv)(h4:lv<=4)(r:Bs):og.findIdx? (λs=>s==kG lv)=some (lv - 1)/\(∀c∈kG lv,o8 c=o)/\∃c t,kG lv++r=c::t/\iQ c=D/\dS (c::t)=D:=by
 have:lv=1\/lv=2\/lv=3\/lv=4:=by omega
 rcases this with rfl|rfl|rfl|rfl <;> exact⟨rfl,by decide,_,_,rfl,by decide,by rw[jI];decide⟩
theorem aia {ns:E Bs}{b tb e:Bs}{lv:F}(h1:1<=lv)(h4:lv<=4)(hb:Sp b)(hr:Cut (tb++e)):jZ 1 ns (glue [(b,kG lv)] (tb++e))= .ok (⟨1,ns,lv,[],D,0⟩,tb++e):=by
 obtain⟨hf,hw,c,t,e1,e2,e3⟩:=abu lv h1 h4 (tb++e);unfold jZ;rw[av rfl];show(match d9 (b++(kG lv++(tb++e))) with| .error x=>_| .ok r=>_)=_;rw[e1,JG hb e2 e3];simp only[];rw[<-e1,Gx hf hw hr];simp only[];rw[show(1:H)+((lv - 1:F):H)=(lv:H) by omega];rfl
theorem aib {ns:E Bs}{b tb e:Bs}{v:To}(hv:j5 v)(hb:Sp b)(hr:Cut (tb++e)):jZ 3 ns (glue [(b,gq v)] (tb++e))= .ok (⟨3,ns,0,[v],D,0⟩,tb++e):=by
 unfold jZ;rw[au aj,av rfl];show(match d9 (b++(gq v++(tb++e))) with| .error x=>_| .ok r=>_)=_;rw[M6 hb hv];simp only[];rw[Qz hv hr]
 rfl
theorem aic {ns:E Bs}{tb e:Bs}{b:F}(hb:b<=15){ps:E (Bs × Bs)}(hs:∀p∈ps,Sp p.1)(hm:ps.map (·.2)=oW (b:H))(htb:∀c∈tb,iQ c=o)(he:dS e=o):jZ 9 ns (glue ps (tb++e))= .ok (⟨9,ns,0,[],D,b⟩,e):=by
 obtain⟨js,h1,h2,h3,h4⟩:=Yy b hb;unfold jZ;rw[au aj,au aj,av rfl,M7 tb e htb he js ps 5 0 0 h1 h2 hs (hm.trans h3)];simp only[];rw[h4];rfl
theorem aie {ns:E Bs}{tb e:Bs}{fi:S}{b:Bs}{ps:E (Bs × Bs)}(hb:Sp b)(hp:∀p∈ps,Sp p.1/\bF ⟨p.2.toArray⟩=o)(hl:ps.length<=300)(htb:∀c∈tb,iQ c=o)(he:dS e=o):
  jZ 8 ns (glue ((if fi=o then [(b,[45])] else [])++ps) (tb++e))= .ok (⟨8,ns++ps.map (·.2),0,[],fi,0⟩,e):=by
 have ho:=C9 300 tb e htb he ps 301 0 ns [] hp ah ah;unfold jZ;rw[au aj,au aj,au aj,av rfl];have hf:j4 (glue ((if fi=o then [(b,[45])] else [])++ps) (tb++e))= .ok (fi,glue ps (tb++e)):=by
  unfold j4
  cases fi
  .rw[au ak,fJ]
   cases ps with
   |nil=>rw[glue,qN htb he]
   |cons p ps=>
    have h0:=hp p fM;rw[glue,Gw h0.1 h0.2];simp only[];obtain⟨c,t,hc,_,_,_,hne⟩:=zW (r:=glue ps (tb++e)) h0.2;rw[hc,tV,au (by simp;exact hne)]
  .rw[av rfl]
   show(match dN (b++(45::glue ps (tb++e))) with| .error x=>_| .ok (o,r)=>_| .ok (D,r)=>_)=_;rw[EB hb aj (by rw[jI];decide)];simp only[tV,bY,R]
 rw[hf];simp only[];rw[ho]
 rfl
theorem aif {ns:E Bs}{tb e:Bs}{ps:E (Bs × Bs)}(hp:∀p∈ps,Sp p.1/\bF ⟨p.2.toArray⟩=o)(hl:ps.length<=300)(htb:∀c∈tb,iQ c=o)(he:dS e=o):
  jZ 7 ns (glue ps (tb++e))= .ok (⟨7,ns++ps.map (·.2),0,[],D,0⟩,e):=by
 have ho:=C9 300 tb e htb he ps 301 0 ns [] hp ah ah;unfold jZ;rw[au aj,au aj,au aj,au aj,au aj,av rfl,ho]
 rfl
theorem aii {ns:E Bs}{tb e:Bs}{qs:E ((Bs × Bs) × (Bs × To))}(hp:∀p∈qs,(Sp p.1.1/\bF ⟨p.1.2.toArray⟩=o)/\Sp p.2.1/\j5 p.2.2)(hl:qs.length<=40)(htb:∀c∈tb,iQ c=o)(he:dS e=o):
  jZ 4 ns (glue (qs.flatMap λp=>[p.1,(p.2.1,gq p.2.2)]) (tb++e))= .ok (⟨4,ns++qs.map (·.1.2),0,qs.map (·.2.2),D,0⟩,e):=by
 have ho:=KV 40 tb e htb he qs 41 0 ns [] hp ah ah;unfold jZ;rw[au aj,au aj,au aj,au aj,av rfl,ho,fJ]
 rfl
theorem QA {k:F}{ns:E Bs}{l:Bs}(h:k=2\/k=5\/k=6):jZ k ns l= .ok (⟨k,ns,0,[],D,0⟩,l):=by
 rcases h with rfl|rfl|rfl <;> rfl
theorem pW {ns:E Bs}{ps:E (Bs × Bs)}(hw:∀x∈ns,bF ⟨x.toArray⟩=o)(hs:∀p∈ps,Sp p.1)(hm:ps.map (·.2)=ns):∀p∈ps,Sp p.1/\bF ⟨p.2.toArray⟩=o:=
 λp hp=>⟨hs p hp,hw _ (by rw[<-hm];exact oH hp)⟩
theorem Yz {s:aH}(hs:dW s)(lead tb e:Bs)(hlead:∀c∈lead,iQ c=o)(htb:∀c∈tb,iQ c=o)(he:dS e=o)(ps:E (Bs × Bs))(hsep:∀p∈ps,Sp p.1)(hps:ps.map (·.2)=(iE s).tail):
  jh (lead++(bB s.kind.toNat++glue ps (tb++e)))= .ok (s,e):=by
 have hcut:Cut (tb++e):=Cut.blanks htb he;have me:dN e= .ok (D,e):=qN (b:=[]) ak he;obtain⟨kd,ns,lv,vs,fi,bt⟩:=s;obtain⟨hw,hv,hc⟩:=hs;simp only at hw hv hc;rcases hc with⟨rfl,hl,rfl,⟨lw,rfl,h1,h4⟩,rfl,rfl⟩|⟨rfl,hl,rfl,rfl,rfl,rfl⟩|⟨rfl,hl,hvl,rfl,rfl,rfl⟩|⟨rfl,⟨cc,hl,hvl,hcc⟩,_,rfl,rfl,rfl⟩|⟨rfl,hl,rfl,rfl,rfl,rfl⟩|⟨rfl,hl,rfl,rfl,rfl,rfl⟩|⟨rfl,⟨cc,hl,hcc⟩,rfl,rfl,rfl,rfl⟩|⟨rfl,⟨cc,hl,hcc⟩,rfl,rfl,_,rfl⟩|⟨rfl,hl,rfl,rfl,rfl,⟨bb,rfl,hbb⟩⟩
 .have pX:ps.map (·.2)=ns++[kG lw]:=hps.trans (by
   show(bB 1::ns.take 2++([kG lw]++ns.drop 2)).tail=_;rw[iH ah,sj ah];simp)
  obtain⟨p1,p2,rfl,m1,m2⟩:=yU pX;obtain⟨⟨qb,qw⟩,rfl,hq⟩:=LM m2;simp only at hq;subst hq;have hsp1:∀p∈p1,Sp p.1:=λp hp=>hsep p (iJ _ hp)
  have hq:Sp qb:=hsep _ (jK _ fM);have hk:=sM 1 aj lead hlead p1 [(qb,kG lw)] (by rw[<-bH (f:=λp:Bs × Bs=>p.2),m1,hl];rfl) (pW hw hsp1 m1) (tb++e) (Cut.sp hq);rw[m1,aia h1 h4 hq hcut] at hk;simp only[] at hk;rw[qN htb he] at hk;exact hk
 .have pX:ps.map (·.2)=ns:=hps.trans (by
   show(bB 2::ns.take 2++([]++ns.drop 2)).tail=_;rw[iH ah,sj ah];simp)
  have hk:=sM 2 aj lead hlead ps [] (by rw[<-bH (f:=λp:Bs × Bs=>p.2),pX,hl];rfl) (pW hw hsep pX) (tb++e) hcut;rw[pX,QA aj,dB] at hk;simp only[glue] at hk;rw[qN htb he] at hk;exact hk
 .obtain⟨v,rfl⟩:∃v,vs=[v]:=by
   cases vs with
   |nil=>simp at hvl
   |cons v vs=>cases vs with
    |nil=>exact⟨v,rfl⟩
    |cons a b=>simp at hvl
  have hv0:=hv v fM;have pX:ps.map (·.2)=ns++[gq v]:=hps.trans (by
   show(bB 3::ns.take 2++([gq v]++ns.drop 2)).tail=_;rw[iH ah,sj ah];simp)
  obtain⟨p1,p2,rfl,m1,m2⟩:=yU pX;obtain⟨⟨qb,qw⟩,rfl,hq⟩:=LM m2;simp only at hq;subst hq;have hsp1:∀p∈p1,Sp p.1:=λp hp=>hsep p (iJ _ hp)
  have hq:Sp qb:=hsep _ (jK _ fM);have hk:=sM 3 aj lead hlead p1 [(qb,gq v)] (by rw[<-bH (f:=λp:Bs × Bs=>p.2),m1,hl];rfl) (pW hw hsp1 m1) (tb++e) (Cut.sp hq);rw[m1,aib hv0 hq hcut] at hk;simp only[] at hk;rw[qN htb he] at hk;exact hk
 .have pX:ps.map (·.2)=ns.take 2++((ns.drop 2).zip vs).flatMap (λ(p:Bs × To)=>[p.1,gq p.2]):=hps.trans (by
   show(bB 4::ns.take 2++([]++((ns.drop 2).zip vs).flatMap (λ(p:Bs × To)=>[p.1,gq p.2]))).tail=_;simp)
  obtain⟨p1,p2,rfl,m1,m2⟩:=yU pX;obtain⟨qs,rfl,Dy⟩:=M8 _ _ m2;have hsp1:∀p∈p1,Sp p.1:=λp hp=>hsep p (iJ _ hp)
  have hsp2:∀q∈qs,Sp q.1.1/\Sp q.2.1:=λq hq=>⟨hsep _ (jK _ (lH.2 ⟨q,hq,by simp⟩)),hsep (q.2.1,gq q.2.2) (jK _ (lH.2 ⟨q,hq,by simp⟩))⟩
  have hdl:(ns.drop 2).length=vs.length:=by rw[gG];omega
  have e1:qs.map (·.1.2)=ns.drop 2:=by
   have:=bU (List.map Prod.fst) Dy;rw[iV,D9 ah] at this;exact this
  have e2:qs.map (·.2.2)=vs:=by
   have:=bU (List.map Prod.snd) Dy;rw[iV,List.map_snd_zip ah] at this;exact this
  have hql:qs.length<=40:=by
   have:=bU List.length e2;rw[bH] at this;omega
  have hp:∀p∈qs,(Sp p.1.1/\bF ⟨p.1.2.toArray⟩=o)/\Sp p.2.1/\j5 p.2.2:=λq hq=>⟨⟨(hsp2 q hq).1,hw _ (AP (by rw[<-e1];exact oH (f:=λq:(Bs × Bs) × (Bs × To)=>q.1.2) hq))⟩,(hsp2 q hq).2,hv _ (by rw[<-e2];exact oH (f:=λq:(Bs × Bs) × (Bs × To)=>q.2.2) hq)⟩
  have akM:Cut (glue (qs.flatMap λ(p:(Bs × Bs) × (Bs × To))=>[p.1,(p.2.1,gq p.2.2)]) (tb++e)):=sK _ _ (λp hp=>hsep p (jK _ hp)) hcut;have hk:=sM 4 aj lead hlead p1 _ (by rw[<-bH (f:=λp:Bs × Bs=>p.2),m1,fE,hl,qY ah];rfl) (pW (λx hx=>hw x (Hq hx)) hsp1 m1) (tb++e) akM;rw[m1,aii hp hql htb he] at hk;simp only[] at hk;rw[me,e1,e2,tT] at hk;exact hk
 .have pX:ps.map (·.2)=ns:=hps.trans (by
   show(bB 5::ns.take 1++([]++ns.drop 1)).tail=_;rw[iH ah,sj ah];simp)
  have hk:=sM 5 aj lead hlead ps [] (by rw[<-bH (f:=λp:Bs × Bs=>p.2),pX,hl];rfl) (pW hw hsep pX) (tb++e) hcut;rw[pX,QA aj,dB] at hk;simp only[glue] at hk;rw[qN htb he] at hk;exact hk
 .have pX:ps.map (·.2)=ns:=hps.trans (by
   show(bB 6::ns.take 1++([]++ns.drop 1)).tail=_;rw[iH ah,sj ah];simp)
  have hk:=sM 6 aj lead hlead ps [] (by rw[<-bH (f:=λp:Bs × Bs=>p.2),pX,hl];rfl) (pW hw hsep pX) (tb++e) hcut;rw[pX,QA aj,dB] at hk;simp only[glue] at hk;rw[qN htb he] at hk;exact hk
 .have pX:ps.map (·.2)=ns.take 1++ns.drop 1:=hps.trans (by
   show(bB 7::ns.take 1++([]++ns.drop 1)).tail=_;simp)
  obtain⟨p1,p2,rfl,m1,m2⟩:=yU pX;have hsp1:∀p∈p1,Sp p.1:=λp hp=>hsep p (iJ _ hp)
  have hsp2:∀p∈p2,Sp p.1:=λp hp=>hsep p (jK _ hp)
  have hp2:=pW (λx hx=>hw x (AP hx)) hsp2 m2;have hpl:p2.length<=300:=by rw[<-bH (f:=λp:Bs × Bs=>p.2),m2,gG];omega
  have hk:=sM 7 aj lead hlead p1 p2 (by rw[<-bH (f:=λp:Bs × Bs=>p.2),m1,fE,hl,qY ah];rfl) (pW (λx hx=>hw x (Hq hx)) hsp1 m1) (tb++e) (sK _ _ hsp2 hcut);rw[m1,aif hp2 hpl htb he] at hk;simp only[] at hk;rw[me,m2,tT] at hk;exact hk
 .have pX:ps.map (·.2)=ns.take 2++((if fi=o then [[45]] else [])++ns.drop 2):=hps.trans (by
   cases fi
   .show(bB 8::ns.take 2++([]++ns.drop 2)).tail=_
    simp
   .show(bB 8::ns.take 2++([[45]]++ns.drop 2)).tail=_
    simp)
  obtain⟨p1,p23,rfl,m1,m23⟩:=yU pX;obtain⟨p2,p3,rfl,m2,m3⟩:=yU m23;have hsp1:∀p∈p1,Sp p.1:=λp hp=>hsep p (iJ _ hp)
  have hsp2:∀p∈p2,Sp p.1:=λp hp=>hsep p (jK _ (iJ _ hp))
  have aij:∀p∈p3,Sp p.1:=λp hp=>hsep p (jK _ (jK _ hp))
  have hp3:=pW (λx hx=>hw x (AP hx)) aij m3;have hpl:p3.length<=300:=by rw[<-bH (f:=λp:Bs × Bs=>p.2),m3,gG];omega
  obtain⟨b,hb,hp2⟩:∃b:Bs,Sp b/\p2=(if fi=o then [(b,[45])] else []):=by
   cases fi
   .refine⟨[32],⟨by simp,by decide⟩,?_⟩
    simpa using m2
   .obtain⟨⟨qb,qw⟩,rfl,hq⟩:=LM m2
    simp only at hq;subst hq;exact⟨qb,hsp2 _ fM,rfl⟩
  have hk:=sM 8 aj lead hlead p1 (p2++p3) (by rw[<-bH (f:=λp:Bs × Bs=>p.2),m1,fE,hl,qY ah];rfl) (pW (λx hx=>hw x (Hq hx)) hsp1 m1) (tb++e) (sK _ _ (λp hp=>(dm.1 hp).elim (hsp2 p) (aij p)) hcut);have ht:=aie (ns:=ns.take 2) (fi:=fi) hb hp3 hpl htb he;rw[<-hp2] at ht;rw[m1,ht] at hk;simp only[] at hk;rw[me,m3,tT] at hk;exact hk
 .have pX:ps.map (·.2)=ns++oW (bb:H):=hps.trans (by
   show(bB 9::ns.take 1++(oW (bb:H)++ns.drop 1)).tail=_;rw[iH ah,sj ah];simp)
  obtain⟨p1,p2,rfl,m1,m2⟩:=yU pX;have hsp1:∀p∈p1,Sp p.1:=λp hp=>hsep p (iJ _ hp)
  have hsp2:∀p∈p2,Sp p.1:=λp hp=>hsep p (jK _ hp)
  have hk:=sM 9 aj lead hlead p1 p2 (by rw[<-bH (f:=λp:Bs × Bs=>p.2),m1,hl];rfl) (pW hw hsp1 m1) (tb++e) (sK _ _ hsp2 hcut);rw[m1,aic hbb hsp2 m2 htb he] at hk;simp only[] at hk;rw[me] at hk;exact hk
theorem M9:∀(ws:E Bs)(e:Bs),Z [32] ws++e=glue (ws.map (λx=>([32],x))) e
 |[],e=>by simp[Z,glue]
 |x::ws,e=>by
  rw[eu,glue,<-M9 ws e];simp[Z]
theorem YA (w:Bs)(ws:E Bs)(e:Bs):Lib.join (w::ws) [32]++e=w++glue (ws.map (λx=>([32],x))) e:=by
 rw[Lib.join_cons,dD,M9]
theorem aik:Sp [32]:=⟨by simp,by decide⟩
theorem VA (s:aH):iE s=bB s.kind.toNat::(iE s).tail:=rfl
theorem YB {s:aH}(hs:dW s)(r:Bs):mJ (jL s++r)= .ok (s,r):=by
 have ht:jL s++r=[]++(bB s.kind.toNat++glue ((iE s).tail.map (λx=>([32],x))) ([]++(10::r))):=by
  unfold jL;rw[VA s,dD,YA];rfl
 have hk:=Yz hs [] [] (10::r) ak ak (by rw[jI];rfl) ((iE s).tail.map (λx=>([32],x))) (λp hp=>by
  obtain⟨x,_,rfl⟩:=dI.1 hp;exact aik) (by rw[iV];exact List.map_id _)
 unfold mJ;rw[ht,hk];have hr:jl (10::r)=10::r:=by unfold jl;rw[au ak]
 simp only[hr,tV]
 rfl
theorem abv (n m b0 b1 b2 b3 c1 c2 c3:F)(h1:1<n->c1=b1)(h2:2<n->c2=b2)(h3:3<n->c3=b3)(hok:G (n+m) b0 c1 c2 c3≠(65533,1))(hd:(G (n+m) b0 c1 c2 c3).2<=n):G n b0 b1 b2 b3=G (n+m) b0 c1 c2 c3:=by
 unfold G at hok hd ⊢;by_cases a:b0<128
 .rw[av a,av a]
 rw[au a] at hok hd ⊢;rw[au a];by_cases hA:b0 / 32=6/\(1<n+m/\c1 / 64=2)
 .rw[av hA] at hok hd ⊢
  by_cases hv:b0 % 32*64+c1 % 64≥128
  .rw[av hv] at hd ⊢
   have hn:1<n:=hd;rw[av (by rw[<-h1 hn];exact⟨hA.1,hn,hA.2.2⟩),<-h1 hn,av hv]
  .rw[au hv] at hok;exact J rfl hok
 rw[au hA] at hok hd ⊢;by_cases hB:b0 / 16=14/\(1<n+m/\c1 / 64=2)/\(2<n+m/\c2 / 64=2)
 .rw[av hB] at hok hd ⊢
  by_cases hv:b0 % 16*4096+c1 % 64*64+c2 % 64≥2048/\(b0 % 16*4096+c1 % 64*64+c2 % 64<55296\/(57344<=b0 % 16*4096+c1 % 64*64+c2 % 64/\b0 % 16*4096+c1 % 64*64+c2 % 64<=1114111))
  .rw[av hv] at hd ⊢
   have hn:2<n:=hd;rw[au ah,av (by rw[<-h1 ah,<-h2 hn];exact⟨hB.1,⟨by omega,hB.2.1.2⟩,hn,hB.2.2.2⟩),<-h1 ah,<-h2 hn,av hv]
  .rw[au hv] at hok;exact J rfl hok
 rw[au hB] at hok hd ⊢;by_cases hC:b0 / 8=30/\(1<n+m/\c1 / 64=2)/\(2<n+m/\c2 / 64=2)/\(3<n+m/\c3 / 64=2)
 .rw[av hC] at hok hd ⊢
  by_cases hv:b0 % 8*262144+c1 % 64*4096+c2 % 64*64+c3 % 64≥65536/\(b0 % 8*262144+c1 % 64*4096+c2 % 64*64+c3 % 64<55296\/(57344<=b0 % 8*262144+c1 % 64*4096+c2 % 64*64+c3 % 64/\b0 % 8*262144+c1 % 64*4096+c2 % 64*64+c3 % 64<=1114111))
  .rw[av hv] at hd ⊢
   have hn:3<n:=hd;rw[au ah,au ah,av (by rw[<-h1 ah,<-h2 ah,<-h3 hn];exact⟨hC.1,⟨by omega,hC.2.1.2⟩,⟨by omega,hC.2.2.1.2⟩,hn,hC.2.2.2.2⟩),<-h1 ah,<-h2 ah,<-h3 hn,av hv]
  .rw[au hv] at hok;exact J rfl hok
 rw[au hC] at hok;exact J rfl hok
theorem ae9 (w r:Bs)(hw:w≠[])(hok:okB ⟨(w++r).toArray⟩ 0=o)(hd:(C ⟨(w++r).toArray⟩ 0).2<=w.length):C ⟨w.toArray⟩ 0=C ⟨(w++r).toArray⟩ 0:=by
 have hne:=Yu hok;have hl:0<w.length:=BU.2 hw;rw[M,gQ,bL,O] at hne hd;rw[M,M,gQ,gQ,bL,O,O];rw[xC w r 0 hl] at hne hd ⊢;refine abv _ _ _ _ _ _ _ _ _ (λh=>?_) (λh=>?_) (λh=>?_) hne hd
 .rw[xC w r (0+1) ah]
 .rw[xC w r (0+2) ah]
 .rw[xC w r (0+3) ah]
theorem IU (p:H->S):∀(n:F)(l:Bs),l.length<=n->gN ⟨(l.take (gN ⟨l.toArray⟩ p)).toArray⟩ p=gN ⟨l.toArray⟩ p
 |0,l,hn=>by
  have:l=[]:=Hy.1 ah;subst this;rfl
 |n+1,l,hn=>by
  by_cases h0:l=[]
  .subst h0;rfl
  .have hle:=uE p l.length l (aB _)
   have hw:=iR l p h0;by_cases hc:(okB ⟨l.toArray⟩ 0 && p ((C ⟨l.toArray⟩ 0).1:H))=o
   .rw[av hc] at hw
    rw[aO] at hc;have h1:=Aw l h0;have h2:=zy l h0;obtain⟨d,hd⟩:∃d,d=(C ⟨l.toArray⟩ 0).2:=⟨_,rfl⟩;obtain⟨k,hk⟩:∃k,k=gN ⟨(l.drop d).toArray⟩ p:=⟨_,rfl⟩;rw[<-hd] at hw h1 h2;rw[<-hk] at hw;have ih:=IU p n (l.drop d) (by rw[gG];omega);rw[<-hk] at ih;rw[hw] at hle ⊢;have hsp:l=l.take (d+k)++l.drop (d+k):=(tT _ _).symm;have htl:(l.take (d+k)).length=d+k:=by rw[fE];omega
    have htn:l.take (d+k)≠[]:=by intro e;rw[e] at htl;simp at htl;omega
    have hdec:C ⟨(l.take (d+k)).toArray⟩ 0=C ⟨l.toArray⟩ 0:=by
     have:=ae9 (l.take (d+k)) (l.drop (d+k)) htn (by rw[<-hsp];exact hc.1) (by rw[<-hsp,<-hd,htl];omega);rw[<-hsp] at this;exact this
    have hok2:okB ⟨(l.take (d+k)).toArray⟩ 0=o:=by unfold okB;rw[hdec];exact hc.1
    rw[iR _ p htn,hok2,hdec,hc.2,av (show(o && o)=o from rfl),<-hd];have:(l.take (d+k)).drop d=(l.drop d).take k:=by rw[List.drop_take];congr 1;omega
    rw[this,ih]
   .rw[au hc] at hw
    rw[hw];rfl
theorem Cy {l m r:Bs}(h:dF l= .ok (m,r)):bF ⟨m.toArray⟩=o:=by
 unfold dF at h;by_cases h1:(dS l||!dJ l)=o
 .rw[av h1] at h;cases h
 rw[au h1] at h;by_cases h2:24<dX l
 .rw[av h2] at h;cases h
 rw[au h2] at h;injection h with h;injection h with hm _;have hb:dJ l=o:=by
  cases hq:dJ l
  .rw[hq] at h1;simp at h1
  .rfl
 cases l with
 |nil=>simp[dJ] at hb
 |cons b t=>
  have hpos:=ae8 hb;have hrl:=ae7 (b::t);have hml:m.length=dX (b::t):=by rw[<-hm,fE];omega
  have hwm:gN ⟨m.toArray⟩ jJ=m.length:=by rw[hml,<-hm];exact IU jJ _ (b::t) (aB _)
  have hmc:∃t',m=b::t':=by
   rw[<-hm];obtain⟨k,hk⟩:∃k,dX (b::t)=k+1:=⟨dX (b::t) - 1,by omega⟩;rw[hk,List.take_succ_cons];exact⟨_,rfl⟩
  obtain⟨t',rfl⟩:=hmc;unfold bF;rw[gQ,hwm,aO,aO,aO];refine⟨⟨⟨by simp,bN ah⟩,?_⟩,by simp⟩;have hle:=M0 b t;rw[hb] at hle;have hf:zB ⟨(b::t').toArray⟩=(b.toNat:H):=by
   unfold zB;rw[dif_pos (by rw[gQ];simp)];show wrap32 (b.toNat:H)=_;have:=b.toNat_lt;unfold wrap32;omega
  rw[hf];rcases gP b.toNat 128 with hlo|hhi
  .rw[(adJ t hlo).1] at hle
   rw[Vv hle.symm];rfl
  .unfold kS
   rw[T,Y]
   right
   exact bq ah
theorem TN:∀(l:Bs)(n:F),0<n->0<l.foldl (λn (c:I)=>n*10+(c.toNat - 48)) n
 |[],_,h=>h
 |c::t,n,h=>by rw[W];exact TN t _ ah
theorem TP {l r:Bs}{v:To}(h:gM l= .ok (v,r)):j5 v:=by
 unfold gM at h;by_cases h0:l.head?=some 45
 .rw[av h0] at h;injection h with h;injection h with h _;subst h;exact .inl rfl
 rw[au h0] at h
 cases hn:dF l with
 |error x=>rw[hn] at h;cases h
 |ok y=>
  obtain⟨nm,r1⟩:=y;rw[hn] at h;simp only[] at h;by_cases h46:r1.head?=some 46
  .rw[av h46] at h
   unfold wQ at h;simp only[] at h;by_cases hd:(r1.tail.takeWhile jf).head?=none\/(r1.tail.takeWhile jf).head?=some 48
   .rw[av hd] at h;cases h
   rw[au hd] at h;by_cases h9:999<qJ (r1.tail.takeWhile jf)
   .rw[av h9] at h;cases h
   rw[au h9] at h;injection h with h;injection h with h _;subst h;refine .inr ⟨Cy hn,?_,by show((qJ _:F):H)<=999;omega⟩
   cases hq:r1.tail.takeWhile jf with
   |nil=>rw[hq] at hd;exact J (.inl rfl) hd
   |cons c t=>
    rw[hq] at hd;have hdg:jf c=o:=QB jf r1.tail c (by rw[hq];exact fM);have hc:=(TL c).1 hdg;have hne:c.toNat≠48:=λe=>hd (.inr (by rw[tV];exact bU some (jm.1 e)))
    have:=TN t (0*10+(c.toNat - 48)) ah;show(0:H)<((qJ (c::t):F):H);unfold qJ;rw[W];omega
  .rw[au h46] at h;cases h
theorem uY {l r:Bs}{b:S}(h:dN l= .ok (b,r)):r.length+(if b=o then 1 else 0)<=l.length:=by
 unfold dN at h;have hs:(bI l).length<=l.length:=(K _).length_le
 split at h
 .injection h with h;injection h with h1 h2;subst h1 h2;simpa using hs
 .split at h
  .cases h
  .injection h with h;injection h with h1 h2;subst h1 h2;simp only[bY];omega
theorem EC {l r:Bs}(h:d9 l= .ok r):r.length+1<=l.length:=by
 unfold d9 at h
 cases hm:dN l with
 |error y=>rw[hm] at h;cases h
 |ok y=>
  obtain⟨b,r0⟩:=y;rw[hm] at h
  cases b
  .cases h
  .injection h with h;subst h;exact uY hm
theorem ED {l m r:Bs}(h:dF l= .ok (m,r)):r.length+1<=l.length:=by
 have hw:=Cy h;unfold dF at h
 split at h
 .cases h
 split at h
 .cases h
 injection h with h;injection h with h1 h2;have hl:m.length+r.length=l.length:=by rw[<-h1,<-h2,<-bL,tT]
 cases m with
 |nil=>simp[bF] at hw
 |cons c t=>simp only[dO] at hl;omega
theorem QC {l r:Bs}{v:To}(h:gM l= .ok (v,r)):r.length+1<=l.length:=by
 unfold gM at h;by_cases h0:l.head?=some 45
 .rw[av h0] at h;injection h with h;injection h with _ h;subst h
  cases l with
  |nil=>cases h0
  |cons c t=>exact aB _
 .rw[au h0] at h
  cases hn:dF l with
  |error x=>rw[hn] at h;cases h
  |ok y=>
   obtain⟨nm,r1⟩:=y;rw[hn] at h;have:=ED hn;simp only[] at h
   split at h
   .unfold wQ at h
    simp only[] at h
    split at h
    .cases h
    split at h
    .cases h
    injection h with h;injection h with _ h;subst h;simp only[gG,List.length_tail];omega
   .cases h
theorem JI {ws:E Bs}{l r:Bs}{i:F}(hw:∀x∈ws,∀c∈x,o8 c=o)(h0:∀x∈ws,x≠[])(h:eY ws l= .ok (i,r)):r.length+1<=l.length:=by
 unfold eY at h
 cases hf:ws.findIdx? (λs=>s==nR l) with
 |none=>rw[hf] at h;cases h
 |some j=>
  rw[hf] at h;injection h with h;injection h with _ h;subst h;obtain⟨hj,he,_⟩:=Hz.1 hf;have hm:=List.getElem_mem hj;rw[vV.1 he] at hm;have hle:(fq l).length<=l.length:=(List.takeWhile_prefix _).length_le;rw[gG];have:fq l≠[]:=λe=>by
   have h2:nR l=fq l\/nR l=fq l++[128]:=by
    unfold nR
    split
    .split
     .exact .inr rfl
     .exact .inl rfl
    .exact .inl rfl
   rw[e] at h2;rcases h2 with h2|h2
   .exact h0 _ hm h2
   .exact J (hw _ hm 128 (by rw[h2];simp)) aj
  have:=BU.2 this;omega
theorem VB:∀m:Fin 4,∀b:Fin 16,b.val<2 ^ m.val->(oW ((b.val:H)+2 ^ m.val)).length=(oW (b.val:H)).length+1:=by decide
theorem QD {α β:Type}(f g:α->β):∀l:E α,(l.flatMap (λp=>[f p,g p])).length=2*l.length
 |[]=>rfl
 |a::l=>by rw[gY,bL,QD f g l];simp only[dO,iy];omega
theorem Na:∀(k:F)(acc:E Bs)(l:Bs){ns:E Bs}{r:Bs},jH k acc l= .ok (ns,r)->(∀x∈acc,bF ⟨x.toArray⟩=o)->ns.length=acc.length+k/\(∀x∈ns,bF ⟨x.toArray⟩=o)/\r.length+2*k<=l.length
 |0,acc,l,ns,r,h,ha=>by rw[jH] at h;injection h with h;injection h with h h2;subst h h2;exact⟨rfl,ha,aB _⟩
 |k+1,acc,l,ns,r,h,ha=>by
  rw[jH] at h
  cases hm:d9 l with
  |error y=>rw[hm] at h;cases h
  |ok r0=>
   rw[hm] at h;simp only[] at h
   cases hn:dF r0 with
   |error y=>rw[hn] at h;cases h
   |ok y=>
    obtain⟨nm,r1⟩:=y;rw[hn] at h;have:=Na k _ _ h (λx hx=>by
     rcases dm.1 hx with hx|hx
     .exact ha x hx
     .rw[bT.1 hx];exact Cy hn)
    simp only[bL,kN] at this;have h1:=EC hm;have h2:=ED hn;exact⟨by omega,this.2.1,by omega⟩
theorem yt (pairs:S)(most:F):∀(f many:F)(ns:E Bs)(vs:E To)(l:Bs){a:E Bs}{b:E To}{r:Bs},bK pairs most f many ns vs l= .ok ((a,b),r)->most+1<=f+many->many<=most->(∀x∈ns,bF ⟨x.toArray⟩=o)->(∀v∈vs,j5 v)->
  ∃c:F,a.length=ns.length+c/\b.length=vs.length+(if pairs=o then c else 0)/\many+c<=most/\(∀x∈a,bF ⟨x.toArray⟩=o)/\(∀v∈b,j5 v)/\r.length+(if pairs=o then 4*c else 2*c)<=l.length
 |0,many,ns,vs,l,a,b,r,h,hf,hm,hns,hvs=>by omega
 |f+1,many,ns,vs,l,a,b,r,h,hf,hm,hns,hvs=>by
  rw[bK] at h
  cases hmo:dN l with
  |error y=>rw[hmo] at h;cases h
  |ok y=>
   obtain⟨bo,r0⟩:=y;rw[hmo] at h
   cases bo
   .injection h with h;injection h with h h3;injection h with h1 h2;subst h1 h2 h3
    exact⟨0,rfl,by split <;> rfl,hm,hns,hvs,by have:=uY hmo;simp only[Nat.mul_zero,ite_self];omega⟩
   .simp only[] at h
    by_cases hb:many=most/\dJ r0=o
    .rw[av hb] at h;cases h
    .rw[au hb] at h
     cases hn:dF r0 with
     |error y=>rw[hn] at h;cases h
     |ok y=>
      obtain⟨nm,r1⟩:=y;rw[hn] at h;simp only[] at h;have hmn:many<most:=by
       rcases gP many most with h'|h'
       .exact h'
       .exfalso
        have hbe:dJ r0=D:=by
         cases hq:dJ r0
         .rfl
         .exact J ⟨by omega,hq⟩ hb
        rw[abo hbe] at hn;cases hn
      have ail:∀x∈ns++[nm],bF ⟨x.toArray⟩=o:=λx hx=>by
       rcases dm.1 hx with hx|hx
       .exact hns x hx
       .rw[bT.1 hx];exact Cy hn
      by_cases hp:pairs=o
      .rw[av hp] at h
       cases hu:d9 r1 with
       |error y=>rw[hu] at h;cases h
       |ok r2=>
        rw[hu] at h;simp only[] at h
        cases hv:gM r2 with
        |error y=>rw[hv] at h;cases h
        |ok y=>
         obtain⟨v,r3⟩:=y;rw[hv] at h;obtain⟨c,h1,h2,h3,h4,h5,h6⟩:=yt pairs most f (many+1) _ _ _ h ah ah ail (λx hx=>by
          rcases dm.1 hx with hx|hx
          .exact hvs x hx
          .rw[bT.1 hx];exact TP hv)
         rw[av hp] at h2 h6;simp only[bL,kN] at h1 h2;have l1:=uY hmo;have l2:=ED hn;have l3:=EC hu;have l4:=QC hv;rw[av rfl] at l1;exact⟨c+1,by omega,by rw[av hp];omega,by omega,h4,h5,by rw[av hp];omega⟩
      .rw[au hp] at h
       obtain⟨c,h1,h2,h3,h4,h5,h6⟩:=yt pairs most f (many+1) _ _ _ h ah ah ail hvs;rw[au hp] at h2 h6;simp only[bL,kN] at h1;have l1:=uY hmo;have l2:=ED hn;rw[av rfl] at l1;exact⟨c+1,by omega,by rw[au hp];omega,by omega,h4,h5,by rw[au hp];omega⟩
theorem QE:∀(f k:F)(b:H)(l:Bs){x:H}{r:Bs},jo f k b l= .ok (x,r)->(∃m:F,b=m/\m<2 ^ k/\k<=4)->(∃m:F,x=m/\m<=15)/\r.length+2*(oW x).length<=l.length+2*(oW b).length
 |0,k,b,l,x,r,h,⟨m,hm,hlt,hk⟩=>by
  rw[jo] at h;injection h with h;injection h with h h2;subst h h2;refine⟨⟨m,hm,?_⟩,aB _⟩;have:(2:F) ^ k<=2 ^ 4:=DJ aj hk;omega
 |f+1,k,b,l,x,r,h,⟨m,hm,hlt,hk⟩=>by
  rw[jo] at h;have h16:(2:F) ^ k<=2 ^ 4:=DJ aj hk
  cases hmo:dN l with
  |error y=>rw[hmo] at h;cases h
  |ok y=>
   obtain⟨bo,r0⟩:=y;rw[hmo] at h
   cases bo
   .injection h with h;injection h with h h2;subst h h2
    exact⟨⟨m,hm,by omega⟩,by have:=uY hmo;omega⟩
   .simp only[] at h
    cases hw:eY (kJ.drop k) r0 with
    |error y=>rw[hw] at h;cases h
    |ok y=>
     obtain⟨i,r1⟩:=y;rw[hw] at h;have l1:=uY hmo;have l2:=JI (Qw k) (λx hx=>(show ∀x∈kJ,x≠[] by decide) x (AP hx)) hw;rw[av rfl] at l1;rw[<-JF _ _ (Qw k)] at hw;have hi:=Qy hw;rw[gG] at hi;have h4:kJ.length=4:=rfl;have hpw:(2:F) ^ k<=2 ^ (k+i):=DJ aj ah;have hga:=VB ⟨k+i,by omega⟩ ⟨m,by omega⟩ (by show m<2 ^ (k+i);omega);have:=QE f (k+i+1) _ _ h ⟨m+2 ^ (k+i),by rw[hm];push_cast;rfl,by rw[Nat.pow_succ];omega,by omega⟩;simp only[] at hga;rw[hm,hga,<-hm] at this;exact⟨this.1,by omega⟩
theorem qH (s:aH):(iE s).length<=1+s.names.length+(if dG s.kind.toNat=108 then 1 else if dG s.kind.toNat=118 then 1 else if dG s.kind.toNat=103 then(oW s.bits).length else if dG s.kind.toNat=109/\s.first=o then 1 else 0)+(if dG s.kind.toNat=115 then s.aG.length else 0):=by
 unfold iE;simp only[dO,bL];have h1:(s.names.take (bS s.kind.toNat).toNat).length+(s.names.drop (bS s.kind.toNat).toNat).length=s.names.length:=by rw[<-bL,tT]
 have h2:((s.names.drop (bS s.kind.toNat).toNat).zip s.aG|>.flatMap (λp=>[p.1,gq p.2])).length<=(s.names.drop (bS s.kind.toNat).toNat).length+s.aG.length:=by rw[QD,Ck];omega
 have h3:(s.aG.take 1|>.map gq).length<=1:=by rw[bH,fE];omega
 generalize dG s.kind.toNat=q at*;by_cases abw:q=108
 .subst abw;simp only[bY,U,fF,kN];omega
 by_cases abx:q=118
 .subst abx;simp only[bY,U,fF];omega
 by_cases aby:q=103
 .subst aby;simp only[bY,U,fF];omega
 by_cases abz:q=109/\s.first=o
 .obtain⟨rfl,hf⟩:=abz;simp only[hf,and_self,bY,U,fF,kN];omega
 rw[au abw,au abx,au aby,au abz,au abw,au abx,au aby,au abz];by_cases VD:q=115
 .rw[av VD,av VD,iy];omega
 .rw[au VD,au VD,iy];omega
theorem YC {l r:Bs}{b:S}(h:j4 l= .ok (b,r)):r.length+(if b=o then 2 else 0)<=l.length:=by
 unfold j4 at h
 cases hm:dN l with
 |error y=>rw[hm] at h;cases h
 |ok y=>
  obtain⟨c,r0⟩:=y;have l1:=uY hm;rw[hm] at h
  cases c
  .injection h with h;injection h with h h2;subst h h2;simp
  .simp only[] at h
   rw[av rfl] at l1
   split at h
   .rename_i h0
    injection h with h;injection h with h h2;subst h h2
    cases r0 with
    |nil=>cases h0
    |cons c t=>simp only[dO,R,bY] at*;omega
   .injection h with h;injection h with h h2;subst h h2;simp
theorem QF {l r:Bs}{n:aH}(h:jh l= .ok (n,r)):n=⟨0,[],0,[],D,0⟩\/(dW n/\r.length+2*(iE n).length<=l.length+1):=by
 unfold jh at h;by_cases he:dS (bI l)=o
 .rw[av he] at h;injection h with h;injection h with h _;exact .inl h.symm
 rw[au he] at h
 right
 cases hw:eY nu (bI l) with
 |error y=>rw[hw] at h;cases h
 |ok y=>
  obtain⟨i,r0⟩:=y;rw[hw] at h;simp only[] at h;have k1:=JI TM aj hw;have k0:(bI l).length<=l.length:=(K _).length_le;rw[<-JF _ _ TM] at hw;have hi:i<9:=Qy hw
  cases hn:jH (bS (i+1)).toNat [] r0 with
  |error y=>rw[hn] at h;cases h
  |ok y=>
   obtain⟨ns,r1⟩:=y;rw[hn] at h;simp only[] at h;have h1:=Na _ _ _ hn ak
   cases ht:jZ (i+1) ns r1 with
   |error y=>rw[ht] at h;cases h
   |ok y=>
    obtain⟨s,r2⟩:=y;rw[ht] at h;simp only[] at h;have hs:s=n/\r.length<=r2.length:=by
     cases hm:dN r2 with
     |error y=>rw[hm] at h;cases h
     |ok y=>
      obtain⟨b,r3⟩:=y;have:=uY hm;rw[hm] at h
      cases b
      .injection h with h;injection h with h h2;subst h2;exact⟨h,by omega⟩
      .cases h
    obtain⟨rfl,k3⟩:=hs;have k2:=h1.2.2;have h1:=And.intro h1.1 h1.2.1;clear h hn hw he;have hk:i=0\/i=1\/i=2\/i=3\/i=4\/i=5\/i=6\/i=7\/i=8:=by omega
    unfold jZ at ht;rcases hk with rfl|rfl|rfl|rfl|rfl|rfl|rfl|rfl|rfl
    .rw[av rfl] at ht
     cases hm:d9 r1 with
     |error y=>rw[hm] at ht;cases ht
     |ok r0=>
      rw[hm] at ht;simp only[] at ht
      cases hq:eY og r0 with
      |error y=>rw[hq] at ht;cases ht
      |ok y=>
       obtain⟨j,r3⟩:=y;rw[hq] at ht;injection ht with ht;injection ht with ht ht2;subst ht ht2;have q2:=JI Qx aj hq;rw[<-JF _ _ Qx] at hq;have hj:j<4:=Qy hq;refine⟨⟨h1.2,by simp,.inl ⟨rfl,h1.1.trans aj,rfl,⟨1+j,by push_cast;rfl,by omega,by omega⟩,rfl,rfl⟩⟩,?_⟩;have kq:(bS (0+1)).toNat=2:=rfl;have hn0:ns.length=2:=h1.1.trans aj;have q1:=EC hm;have:=qH ⟨((0+1:F):H),ns,1+(j:H),[],D,0⟩;simp[dG] at this ⊢;omega
    .injection ht with ht;injection ht with ht ht2;subst ht ht2
     refine⟨⟨h1.2,by simp,.inr (.inl ⟨rfl,h1.1.trans aj,rfl,rfl,rfl,rfl⟩)⟩,?_⟩;have kq:(bS (1+1)).toNat=2:=rfl;have hn0:ns.length=2:=h1.1.trans aj;have:=qH ⟨((1+1:F):H),ns,0,[],D,0⟩;simp[dG] at this ⊢;omega
    .rw[au aj,av rfl] at ht
     cases hm:d9 r1 with
     |error y=>rw[hm] at ht;cases ht
     |ok r0=>
      rw[hm] at ht;simp only[] at ht
      cases hq:gM r0 with
      |error y=>rw[hq] at ht;cases ht
      |ok y=>
       obtain⟨v,r3⟩:=y;rw[hq] at ht;injection ht with ht;injection ht with ht ht2;subst ht ht2;refine⟨⟨h1.2,λt ht=>by rw[bT.1 ht];exact TP hq,.inr (.inr (.inl ⟨rfl,h1.1.trans aj,rfl,rfl,rfl,rfl⟩))⟩,?_⟩;have kq:(bS (2+1)).toNat=2:=rfl;have hn0:ns.length=2:=h1.1.trans aj;have q1:=EC hm;have q2:=QC hq;have:=qH ⟨((2+1:F):H),ns,0,[v],D,0⟩;simp[dG] at this ⊢;omega
    .rw[au aj,au aj,au aj,au aj,av rfl] at ht
     cases ho:bK o 40 41 0 ns [] r1 with
     |error y=>rw[ho] at ht;cases ht
     |ok y=>
      obtain⟨⟨a,b⟩,r3⟩:=y;rw[ho] at ht;injection ht with ht;injection ht with ht ht2;subst ht ht2;obtain⟨c,e1,e2,e3,e4,e5,e6⟩:=yt _ _ _ _ _ _ _ ho ah ah h1.2 ak;have hl:ns.length=2:=h1.1.trans aj;refine⟨⟨e4,e5,.inr (.inr (.inr (.inl ⟨rfl,⟨c,by show a.length=_;omega,by show b.length=_;simpa using e2,by omega⟩,trivial,rfl,rfl,rfl⟩)))⟩,?_⟩;have kq:(bS (3+1)).toNat=2:=rfl;rw[av rfl] at e6;have:=qH ⟨((3+1:F):H),a,0,b,D,0⟩;simp[dG] at this e2 ⊢;omega
    .injection ht with ht;injection ht with ht ht2;subst ht ht2
     refine⟨⟨h1.2,by simp,.inr (.inr (.inr (.inr (.inl ⟨rfl,h1.1.trans aj,rfl,rfl,rfl,rfl⟩))))⟩,?_⟩;have kq:(bS (4+1)).toNat=1:=rfl;have hn0:ns.length=1:=h1.1.trans aj;have:=qH ⟨((4+1:F):H),ns,0,[],D,0⟩;simp[dG] at this ⊢;omega
    .injection ht with ht;injection ht with ht ht2;subst ht ht2
     refine⟨⟨h1.2,by simp,.inr (.inr (.inr (.inr (.inr (.inl ⟨rfl,h1.1.trans aj,rfl,rfl,rfl,rfl⟩)))))⟩,?_⟩;have kq:(bS (5+1)).toNat=1:=rfl;have hn0:ns.length=1:=h1.1.trans aj;have:=qH ⟨((5+1:F):H),ns,0,[],D,0⟩;simp[dG] at this ⊢;omega
    .rw[au aj,au aj,au aj,au aj,au aj,av rfl] at ht
     cases ho:bK D 300 301 0 ns [] r1 with
     |error y=>rw[ho] at ht;cases ht
     |ok y=>
      obtain⟨⟨a,b⟩,r3⟩:=y;rw[ho] at ht;injection ht with ht;injection ht with ht ht2;subst ht ht2;obtain⟨c,e1,e2,e3,e4,e5,e6⟩:=yt _ _ _ _ _ _ _ ho ah ah h1.2 ak;have hl:ns.length=1:=h1.1.trans aj;have hb:b=[]:=Hy.1 (by simpa using e2);refine⟨⟨e4,e5,.inr (.inr (.inr (.inr (.inr (.inr (.inl ⟨rfl,⟨c,by show a.length=_;omega,by omega⟩,hb,rfl,rfl,rfl⟩))))))⟩,?_⟩;have kq:(bS (6+1)).toNat=1:=rfl;rw[au aj] at e6;have:=qH ⟨((6+1:F):H),a,0,b,D,0⟩;simp[dG] at this ⊢;omega
    .rw[au aj,au aj,au aj,av rfl] at ht
     cases hf:j4 r1 with
     |error y=>rw[hf] at ht;cases ht
     |ok y=>
      obtain⟨fi,r0⟩:=y;rw[hf] at ht;simp only[] at ht
      cases ho:bK D 300 301 0 ns [] r0 with
      |error y=>rw[ho] at ht;cases ht
      |ok y=>
       obtain⟨⟨a,b⟩,r3⟩:=y;rw[ho] at ht;injection ht with ht;injection ht with ht ht2;subst ht ht2;obtain⟨c,e1,e2,e3,e4,e5,e6⟩:=yt _ _ _ _ _ _ _ ho ah ah h1.2 ak;have hl:ns.length=2:=h1.1.trans aj;have hb:b=[]:=Hy.1 (by simpa using e2);refine⟨⟨e4,e5,.inr (.inr (.inr (.inr (.inr (.inr (.inr (.inl ⟨rfl,⟨c,by show a.length=_;omega,by omega⟩,hb,rfl,trivial,rfl⟩)))))))⟩,?_⟩;have kq:(bS (7+1)).toNat=2:=rfl;rw[au aj] at e6;have q1:=YC hf;have:=qH ⟨((7+1:F):H),a,0,b,fi,0⟩;simp[dG] at this ⊢;cases fi <;> simp at this q1 <;> omega
    .rw[au aj,au aj,av rfl] at ht
     cases hg:jo 5 0 0 r1 with
     |error y=>rw[hg] at ht;cases ht
     |ok y=>
      obtain⟨b,r3⟩:=y;rw[hg] at ht;injection ht with ht;injection ht with ht ht2;subst ht ht2;obtain⟨⟨m,hm,h15⟩,q0⟩:=QE _ _ _ _ hg ⟨0,rfl,by decide,by decide⟩;refine⟨⟨h1.2,by simp,.inr (.inr (.inr (.inr (.inr (.inr (.inr (.inr ⟨rfl,h1.1.trans aj,rfl,rfl,rfl,⟨m,hm,h15⟩⟩)))))))⟩,?_⟩;have kq:(bS (8+1)).toNat=1:=rfl;have hn0:ns.length=1:=h1.1.trans aj;have:=qH ⟨((8+1:F):H),ns,0,[],D,b⟩;simp[dG] at this ⊢;have q1:(oW 0).length=0:=by decide
      omega
theorem BH {l r:Bs}{b:S}(h:dN l= .ok (b,r)):r<:+l:=by
 have hs:bI l<:+l:=by unfold bI;exact K _
 unfold dN at h
 split at h
 .injection h with h;injection h with _ h;rw[<-h];exact hs
 .split at h
  .cases h
  .injection h with h;injection h with _ h;rw[<-h];exact hs
theorem EF {l r:Bs}(h:d9 l= .ok r):r<:+l:=BH (Yt h)
theorem JJ {l r m:Bs}(h:dF l= .ok (m,r)):r<:+l:=by
 unfold dF at h
 split at h
 .cases h
 .split at h
  .cases h
  .injection h with h;injection h with _ h;rw[<-h];exact N _ _
theorem JK {ws:E Bs}{l r:Bs}{i:F}(h:eY ws l= .ok (i,r)):r<:+l:=by
 unfold eY at h
 split at h
 .injection h with h;injection h with _ h;rw[<-h];exact N _ _
 .cases h
theorem QG {l r:Bs}{v:To}(h:gM l= .ok (v,r)):r<:+l:=by
 unfold gM at h;by_cases h0:l.head?=some 45
 .rw[av h0] at h;injection h with h;injection h with _ h;rw[<-h];exact V _
 rw[au h0] at h
 cases hn:dF l with
 |error x=>rw[hn] at h;cases h
 |ok y=>
  obtain⟨nm,r1⟩:=y;have h1:=JJ hn;rw[hn] at h;simp only[] at h;by_cases h46:r1.head?=some 46
  .rw[av h46] at h
   unfold wQ at h;simp only[] at h
   split at h
   .cases h
   .split at h
    .cases h
    .injection h with h;injection h with _ h;rw[<-h];exact((N _ _).trans (V _)).trans h1
  .rw[au h46] at h;cases h
theorem Nb:∀(k:F)(acc:E Bs)(l:Bs){ns:E Bs}{r:Bs},jH k acc l= .ok (ns,r)->r<:+l
 |0,acc,l,ns,r,h=>by rw[jH] at h;injection h with h;injection h with _ h;subst h;exact EG _
 |k+1,acc,l,ns,r,h=>by
  rw[jH] at h
  cases hm:d9 l with
  |error y=>rw[hm] at h;cases h
  |ok r0=>
   rw[hm] at h;simp only[] at h
   cases hn:dF r0 with
   |error y=>rw[hn] at h;cases h
   |ok y=>
    obtain⟨nm,r1⟩:=y;rw[hn] at h;exact((Nb k _ _ h).trans (JJ hn)).trans (EF hm)
theorem yu (pairs:S)(most:F):∀(f many:F)(ns:E Bs)(vs:E To)(l:Bs){x:E Bs × E To}{r:Bs},bK pairs most f many ns vs l= .ok (x,r)->r<:+l
 |0,many,ns,vs,l,x,r,h=>by rw[bK] at h;injection h with h;injection h with _ h;subst h;exact EG _
 |f+1,many,ns,vs,l,x,r,h=>by
  rw[bK] at h
  cases hmo:dN l with
  |error y=>rw[hmo] at h;cases h
  |ok y=>
   obtain⟨bo,r0⟩:=y;have h0:=BH hmo;rw[hmo] at h
   cases bo
   .injection h with h;injection h with _ h;subst h;exact h0
   .simp only[] at h
    by_cases hb:many=most/\dJ r0=o
    .rw[av hb] at h;cases h
    .rw[au hb] at h
     cases hn:dF r0 with
     |error y=>rw[hn] at h;cases h
     |ok y=>
      obtain⟨nm,r1⟩:=y;have h1:=JJ hn;rw[hn] at h;simp only[] at h;by_cases hp:pairs=o
      .rw[av hp] at h
       cases hu:d9 r1 with
       |error y=>rw[hu] at h;cases h
       |ok r2=>
        have h2:=EF hu;rw[hu] at h;simp only[] at h
        cases hv:gM r2 with
        |error y=>rw[hv] at h;cases h
        |ok y=>
         obtain⟨v,r3⟩:=y;have h3:=QG hv;rw[hv] at h;exact((((yu pairs most f _ _ _ _ h).trans h3).trans h2).trans h1).trans h0
      .rw[au hp] at h
       exact((yu pairs most f _ _ _ _ h).trans h1).trans h0
theorem QH:∀(f k:F)(b:H)(l:Bs){x:H}{r:Bs},jo f k b l= .ok (x,r)->r<:+l
 |0,k,b,l,x,r,h=>by rw[jo] at h;injection h with h;injection h with _ h;subst h;exact EG _
 |f+1,k,b,l,x,r,h=>by
  rw[jo] at h
  cases hmo:dN l with
  |error y=>rw[hmo] at h;cases h
  |ok y=>
   obtain⟨bo,r0⟩:=y;have h0:=BH hmo;rw[hmo] at h
   cases bo
   .injection h with h;injection h with _ h;subst h;exact h0
   .simp only[] at h
    cases hw:eY (kJ.drop k) r0 with
    |error y=>rw[hw] at h;cases h
    |ok y=>
     obtain⟨i,r1⟩:=y;have h1:=JK hw;rw[hw] at h;exact((QH f _ _ _ h).trans h1).trans h0
theorem YD {l r:Bs}{b:S}(h:j4 l= .ok (b,r)):r<:+l:=by
 unfold j4 at h
 cases hmo:dN l with
 |error y=>rw[hmo] at h;cases h
 |ok y=>
  obtain⟨bo,r0⟩:=y;have h0:=BH hmo;rw[hmo] at h
  cases bo
  .injection h with h;injection h with _ h;subst h;exact EG _
  .simp only[] at h
   split at h
   .injection h with h;injection h with _ h;rw[<-h];exact(V _).trans h0
   .injection h with h;injection h with _ h;subst h;exact EG _
theorem abA {k:F}{ns:E Bs}{l r:Bs}{n:aH}(h:jZ k ns l= .ok (n,r)):r<:+l:=by
 unfold jZ at h;by_cases h1:k=1
 .rw[av h1] at h
  cases hm:d9 l with
  |error y=>rw[hm] at h;cases h
  |ok r0=>
   rw[hm] at h;simp only[] at h
   cases hn:eY og r0 with
   |error y=>rw[hn] at h;cases h
   |ok y=>obtain⟨i,r1⟩:=y;rw[hn] at h;injection h with h;injection h with _ h;subst h;exact(JK hn).trans (EF hm)
 rw[au h1] at h;by_cases h3:k=3
 .rw[av h3] at h
  cases hm:d9 l with
  |error y=>rw[hm] at h;cases h
  |ok r0=>
   rw[hm] at h;simp only[] at h
   cases hn:gM r0 with
   |error y=>rw[hn] at h;cases h
   |ok y=>obtain⟨i,r1⟩:=y;rw[hn] at h;injection h with h;injection h with _ h;subst h;exact(QG hn).trans (EF hm)
 rw[au h3] at h;by_cases h9:k=9
 .rw[av h9] at h
  cases hm:jo 5 0 0 l with
  |error y=>rw[hm] at h;cases h
  |ok y=>obtain⟨b,r1⟩:=y;rw[hm] at h;injection h with h;injection h with _ h;subst h;exact QH _ _ _ _ hm
 rw[au h9] at h;by_cases h8:k=8
 .rw[av h8] at h
  cases hm:j4 l with
  |error y=>rw[hm] at h;cases h
  |ok y=>
   obtain⟨f,r0⟩:=y;rw[hm] at h;simp only[] at h
   cases ho:bK D 300 301 0 ns [] r0 with
   |error y=>rw[ho] at h;cases h
   |ok y=>
    obtain⟨⟨a,b⟩,r1⟩:=y;rw[ho] at h;injection h with h;injection h with _ h;subst h;exact(yu _ _ _ _ _ _ _ ho).trans (YD hm)
 rw[au h8] at h;by_cases h4:k=4
 .rw[av h4] at h
  cases ho:bK o 40 41 0 ns [] l with
  |error y=>rw[ho] at h;cases h
  |ok y=>obtain⟨⟨a,b⟩,r1⟩:=y;rw[ho] at h;injection h with h;injection h with _ h;subst h;exact yu _ _ _ _ _ _ _ ho
 rw[au h4] at h;by_cases h7:k=7
 .rw[av h7] at h
  cases ho:bK D 300 301 0 ns [] l with
  |error y=>rw[ho] at h;cases h
  |ok y=>obtain⟨⟨a,b⟩,r1⟩:=y;rw[ho] at h;injection h with h;injection h with _ h;subst h;exact yu _ _ _ _ _ _ _ ho
 rw[au h7] at h;injection h with h;injection h with _ h;subst h;exact EG _
theorem abB {l r:Bs}{n:aH}(h:jh l= .ok (n,r)):r<:+l:=by
 have hs:bI l<:+l:=by unfold bI;exact K _
 unfold jh at h;by_cases he:dS (bI l)=o
 .rw[av he] at h;injection h with h;injection h with _ h;subst h;exact hs
 rw[au he] at h
 cases hw:eY nu (bI l) with
 |error y=>rw[hw] at h;cases h
 |ok y=>
  obtain⟨i,r0⟩:=y;rw[hw] at h;simp only[] at h
  cases hn:jH (bS (i+1)).toNat [] r0 with
  |error y=>rw[hn] at h;cases h
  |ok y=>
   obtain⟨ns,r1⟩:=y;rw[hn] at h;simp only[] at h
   cases ht:jZ (i+1) ns r1 with
   |error y=>rw[ht] at h;cases h
   |ok y=>
    obtain⟨s,r2⟩:=y;rw[ht] at h;simp only[] at h
    cases hm:dN r2 with
    |error y=>rw[hm] at h;cases h
    |ok y=>
     obtain⟨b,r3⟩:=y;rw[hm] at h
     cases b
     .injection h with h;injection h with _ h;subst h
      exact((((BH hm).trans (abA ht)).trans (Nb _ _ _ hn)).trans (JK hw)).trans hs
     .cases h
theorem JL {l r:Bs}{n:aH}(h:mJ l= .ok (n,r)):(n=⟨0,[],0,[],D,0⟩\/dW n)/\(r=[]\/(10::r)<:+l):=by
 unfold mJ at h
 cases hr:jh l with
 |error y=>rw[hr] at h;cases h
 |ok y=>
  obtain⟨s,r0⟩:=y;have h0:=abB hr;have h1:=(QF hr).imp_right And.left;have h2:jl r0<:+r0:=by unfold jl;split;exact N _ _;exact EG _
  rw[hr] at h;simp only[] at h;by_cases hn:(jl r0).head?=none
  .rw[av hn] at h;injection h with h;injection h with h h';subst h;exact⟨h1,.inl h'.symm⟩
  .rw[au hn] at h
   by_cases h10:(jl r0).head?=some 10
   .rw[av h10] at h;injection h with h;injection h with h h';subst h
    refine⟨h1,.inr ?_⟩;have:10::r=jl r0:=by
     cases hq:jl r0 with
     |nil=>rw[hq] at h10;cases h10
     |cons c t=>rw[hq] at h10 h';rw[R] at h';rw[tV] at h10;rw[<-uX h10,h']
    rw[this];exact h2.trans h0
   .rw[au h10] at h;cases h
end Yd
