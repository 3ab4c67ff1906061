import Derived.Test.YtddiadcpokbpoaaGreatDoorLF2
import Derived.Test.YtddiadcpokbpoaaGreatDoorLChG
import Derived.Test.YtddiadcpokbpoaaGreatDoorLLnIn
import Derived.Test.YtddiadcpokbpoaaGreatDoorLProws
set_option linter.all false
set_option maxRecDepth 200000
set_option maxHeartbeats 8000000
namespace Yd
open Bool renaming false->O,true->U
open Option renaming none->G,some->H
open Go Go.RowKit Go.Proofs
open Go renaming Addr->J,World->Z
open Go.IntKind renaming i64->W
open Go.Value renaming slice->V
open Gr renaming put->N
open Value renaming int->K
open _root_ renaming List->A,Int->C,Nat->I
theorem P5 (l:A C)(n:C):n∈mO l n:=by
 unfold mO
 split
 .assumption
 .simp
theorem Lg {s n:C}(xs:A (C × C)):(s,n)∈xs->n∈bK xs s:=by
 refine EO (P:=λxs=>(s,n)∈xs->n∈bK xs s) (λh=>by cases h) (λxs x ih h=>?_) xs;rcases bJ.1 h with h|h
 .exact(KM xs x s).subset (ih h)
 .obtain rfl:x=(s,n):=(bF.1 h).symm
  rw[nH,ay rfl];exact P5 _ _
theorem Ht {s n:C}(xs:A (C × C)):n∈bK xs s->(s,n)∈xs:=by
 refine EO (P:=λxs=>n∈bK xs s->(s,n)∈xs) (λh=>by cases h) (λxs x ih h=>?_) xs;rw[nH] at h;by_cases hx:x.1=s
 .rw[ay hx] at h
  unfold mO at h
  split at h
  .exact nP _ (ih h)
  .rcases bJ.1 h with h|h
   .exact nP _ (ih h)
   .have:n=x.2:=by simpa using h
    refine pX _ ?_;rw[this,<-hx];simp
 .rw[ak hx] at h
  exact nP _ (ih h)
theorem Gv (s:C)(xs:A (C × C)):(bK xs s).Nodup:=by
 refine EO (P:=λxs=>(bK xs s).Nodup) sD (λxs x ih=>?_) xs;rw[nH]
 split
 .exact KL ih
 .exact ih
theorem Aa {v:kZ}{nt:I}(h:iP v nt=U):∀x∈cO v,x.1=0/\bC x.2 nt=U:=λx hx=>by
 unfold cO at hx
 split at hx
 .rename_i hk
  rw[bF.1 hx];unfold iP at h;rw[ak ah] at h;simp only[aU] at h;exact⟨rfl,h.1.1⟩
 .cases hx
theorem wI {c:Cont}(h:iU c):∀x∈bI c,∃s:I,s<4/\x.1=(s:C)/\bC x.2 (c.nl s).length=U:=by
 intro x hx;unfold bI at hx;rcases bJ.1 hx with hx|hx
 .rcases bJ.1 hx with hx|hx
  .rcases bJ.1 hx with hx|hx
   .obtain⟨p,hp,hx⟩:=ni.1 hx
    have he:=h.ev p hp;obtain⟨e,l⟩:=p;simp only[ja,aU,bf] at he;obtain⟨⟨⟨⟨_,_⟩,ht⟩,hh⟩,hb⟩:=he;unfold dD at hx;rcases bJ.1 hx with hx|hx
    .rcases dP.1 hx with rfl|hx
     .exact⟨0,by omega,rfl,ht⟩
     .unfold hasB at hh
      split at hx
      .rename_i k;rw[ay k] at hh
       simp only[aU] at hh;rw[bF.1 hx];exact⟨1,by omega,rfl,hh.1⟩
      .rename_i k1;rw[ak k1] at hh
       split at hx
       .rename_i k
        have hov:bC e.obj (c.nl 2).length=U/\iP e.v (c.nl 0).length=U:=by
         by_cases k2:e.kind=2
         .rw[ay k2] at hh
          simp only[aU] at hh;exact⟨hh.1.1.1,hh.1.1.2⟩
         .rw[ak k2,ay (k.resolve_left k2)] at hh
          simp only[aU] at hh;exact hh
        rcases dP.1 hx with rfl|hx
        .exact⟨2,by omega,rfl,hov.1⟩
        .have:=Aa hov.2 x hx
         exact⟨0,by omega,this.1,this.2⟩
       .rename_i k2
        split at hx
        .rename_i k4
         rw[ak (λe=>k2 (.inl e)),ak (λe=>k2 (.inr e)),ay k4] at hh;simp only[aU] at hh;rw[bF.1 hx];exact⟨3,by omega,rfl,hh.1.1⟩
        .cases hx
    .obtain⟨s,hs,hx⟩:=ni.1 hx
     have h4:e.kind=4:=by
      apply Classical.byContradiction
      intro hn4;have hl:l=[]:=by
       unfold gG at hb
       split at hb
       .simp only[aU,bf] at hb;exact hb.2
       .split at hb
        .simp only[aU,bf] at hb;exact hb.2
        .first|(rw[ak hn4] at hb)|skip
         simp only[aU,bf] at hb;exact hb.2
      subst hl;cases hs
     unfold hasB at hh;rw[ak ah,ak ah,ak ah,ay h4] at hh;simp only[aU,jc] at hh;have hsn:=hh.2 s hs;simp only[kU,aU] at hsn;rcases dP.1 hx with rfl|hx
     .exact⟨2,by omega,rfl,hsn.1⟩
     .have:=Aa hsn.2 x hx
      exact⟨0,by omega,this.1,this.2⟩
   .obtain⟨p,hp,hx⟩:=ni.1 hx
    have ho:=h.od p hp;unfold kF at hx;rcases dP.1 hx with rfl|hx
    .exact⟨2,by omega,rfl,ho.1⟩
    .obtain⟨d,hd,rfl⟩:=dQ.1 hx
     have:=ho.2;simp only[gL,aU,jc] at this;exact⟨0,by omega,rfl,this.2 d hd⟩
  .obtain⟨p,hp,hx⟩:=ni.1 hx
   have ho:=h.ma p hp;unfold mY at hx;rcases dP.1 hx with rfl|hx
   .exact⟨3,by omega,rfl,ho.1⟩
   .rcases dP.1 hx with rfl|hx
    .exact⟨2,by omega,rfl,ho.2.1⟩
    .obtain⟨d,hd,rfl⟩:=dQ.1 hx
     have:=ho.2.2;simp only[gL,aU,jc] at this;exact⟨0,by omega,rfl,this.2 d hd⟩
 .obtain⟨p,hp,hx⟩:=ni.1 hx
  have ho:=h.wa p hp;unfold qU at hx;rw[bF.1 hx];exact⟨1,by omega,rfl,ho.1⟩
theorem nI {l:A C}{n:C}(h:n∈l):bC (dh l n) l.length=U:=by
 unfold dh;rw[ay h];have:=GU h;unfold bC;exact Bool.and_eq_true_iff.2 ⟨bA (GN _),bA (Int.ofNat_lt.2 this)⟩
theorem BP {n:C}{m:I}(h:bC n m=U):∃k:I,n=(k:C)/\k<m:=by
 simp only[bC,aU,bf] at h;exact⟨n.toNat,by omega,by omega⟩
theorem uU (l:A Bs){k:I}(h:k<l.length):aS l (k:C)=l[k]:=by
 unfold aS;rw[kS,List.getD_eq_getElem?_getD,eu h];rfl
theorem JC {l:A Bs}(hn:l.Nodup){i j:I}(hi:i<l.length)(hj:j<l.length)(e:l[i]=l[j]):i=j:=by
 rcases Nat.lt_trichotomy i j with h|h|h
 .exact absurd e (GX.1 hn i j hi hj h)
 .exact h
 .exact absurd e.symm (GX.1 hn j i hj hi h)
theorem aaA {l:A Bs}(hn:l.Nodup){ns:A C}(h:∀n∈ns,bC n l.length=U)(hd:ns.Nodup):(ns.map (aS l)).Nodup/\∀s∈ns.map (aS l),s∈l:=by
 refine⟨?_,λs hs=>?_⟩
 .refine List.pairwise_map.2 (List.Pairwise.imp_of_mem (fun {a b} ha hb hne e=>hne ?_) hd)
  obtain⟨i,rfl,hi⟩:=BP (h a ha);obtain⟨j,rfl,hj⟩:=BP (h b hb);rw[uU l hi,uU l hj] at e;rw[JC hn hi hj e]
 .obtain⟨n,hn',rfl⟩:=dQ.1 hs
  obtain⟨i,rfl,hi⟩:=BP (h n hn');rw[uU l hi];exact List.getElem_mem hi
theorem pQ.number {c:Cont}(h:iU c):pQ (gJ c):=λi=>by
 show((bK (bI c) (i:C)).map (aS (c.nl i))).Nodup/\∀s∈(bK (bI c) (i:C)).map (aS (c.nl i)),bD ⟨s.toArray⟩=U;have ht:∀n∈bK (bI c) (i:C),bC n (c.nl i).length=U:=λn hn=>by
  obtain⟨s,_,hs,ht⟩:=wI h _ (Ht _ hn);have:i=s:=Int.ofNat_inj.1 hs;subst this;exact ht
 obtain⟨h1,h2⟩:=aaA (h.nm i).1 ht (Gv _ _);exact⟨h1,λs hs=>(h.nm i).2 s (h2 s hs)⟩
theorem P6 {F:C->A C}{v:kZ}{nt:I}(h:iP v nt=U)(hm:∀x∈cO v,x.2∈F 0):iP (kH F v) (F 0).length=U:=by
 unfold kH;by_cases hk:0<v.k
 .rw[ay hk]
  unfold iP at h ⊢;rw[ak ah] at h;rw[ak (by simp only[];omega)];simp only[aU] at h ⊢;have:v.t∈F 0:=hm (0,v.t) (by unfold cO;rw[ay hk];simp);exact⟨⟨nI this,h.1.2⟩,h.2⟩
 .rw[ak hk]
  unfold iP at h ⊢;by_cases h0:v.k=0
  .rw[ay h0] at h ⊢;exact h
  .rw[ak h0] at h
   simp only[aU,bf] at h;omega
theorem ajV {F:C->A C}{s:Sn}{nt no:I}(h:kU nt no s=U)(h2:s.obj∈F 2)(hm:∀x∈cO s.v,x.2∈F 0):kU (F 0).length (F 2).length (Fv F s)=U:=by
 simp only[kU,aU] at h ⊢;exact⟨nI h2,P6 h.2 hm⟩
theorem ajW {F:C->A C}{e:EvC}{l:A Sn}{nt ns no np:I}(h:ja nt ns no np e l=U)(hm:∀x∈dD e l,x.2∈F x.1):ja (F 0).length (F 1).length (F 2).length (F 3).length (gP F e) (l.map (Fv F))=U:=by
 obtain⟨kd,t,dG,lvl,obj,v,pred,sa,sn,sc⟩:=e;simp only[ja,aU,bf] at h;obtain⟨⟨⟨⟨h1,h7⟩,ht⟩,hh⟩,hb⟩:=h;have hmt:t∈F 0:=hm (0,t) (by simp[dD]);have ht2:=nI hmt;have hk:kd=1\/kd=2\/kd=3\/kd=4\/kd=5\/kd=6:=by omega
 rcases hk with rfl|rfl|rfl|rfl|rfl|rfl
 .simp[hasB,gG] at hh hb
  have h2:=nI (hm (1,dG) (by simp[dD]));obtain⟨⟨⟨_,_⟩,_⟩,rfl⟩:=hb;simp[ja,hasB,gG,gP,ht2,h2,hh.2]
 .simp[hasB,gG] at hh hb
  have h2:=nI (hm (2,obj) (by simp[dD]));have h3:=P6 (F:=F) hh.1.1.2 (λx hx=>by have:=hm x (by simp[dD,hx]);have h0:=(Aa hh.1.1.2 x hx).1;rw[h0] at this;exact this);obtain⟨⟨⟨_,rfl⟩,_⟩,rfl⟩:=hb;have hk:0<v.k:=hh.2;have hvt:(kH F v).t=dh (F 0) t/\0<(kH F v).k:=by unfold kH;rw[ay hk];exact⟨by rw[hh.1.2],hk⟩
  simp[ja,hasB,gG,gP,ht2,h2,h3,hvt.1,hvt.2]
 .simp[hasB,gG] at hh hb
  have h2:=nI (hm (2,obj) (by simp[dD]));have h3:=P6 (F:=F) hh.2 (λx hx=>by have:=hm x (by simp[dD,hx]);have h0:=(Aa hh.2 x hx).1;rw[h0] at this;exact this);obtain⟨⟨⟨_,rfl⟩,_⟩,rfl⟩:=hb;simp[ja,hasB,gG,gP,ht2,h2,h3]
 .simp[hasB,gG] at hh hb
  have h2:=nI (hm (3,pred) (by simp[dD]));obtain⟨⟨⟨_,rfl⟩,_⟩,_⟩:=hb;have hs:∀s∈l,kU (F 0).length (F 2).length (Fv F s)=U:=λs hs=>by
   have hsb:=hh.2 s hs;refine ajV hsb (hm (2,s.obj) ?_) (λx hx=>?_)
   .unfold dD;refine pX _ (ni.2 ⟨s,hs,by simp⟩)
   .have:=hm x (by unfold dD;exact pX _ (ni.2 ⟨s,hs,iJ _ hx⟩))
    simp only[kU,aU] at hsb;have h0:=(Aa hsb.2 x hx).1;rw[h0] at this;exact this
  simp[ja,hasB,gG,gP,ht2,h2,hh.1.2];exact hs
 .simp[hasB,gG] at hh hb
  obtain⟨⟨⟨⟨⟨_,rfl⟩,_⟩,_⟩,_⟩,rfl⟩:=hb;simp[ja,hasB,gG,gP,ht2]
 .simp[hasB,gG] at hh hb
  obtain⟨⟨⟨⟨⟨_,rfl⟩,_⟩,_⟩,_⟩,rfl⟩:=hb;simp[ja,hasB,gG,gP,ht2]
theorem JD {α β γ δ:Type}(f:α->γ)(g:β->δ)(xs:A α)(ys:A β):(xs.map f).zip (ys.map g)=(xs.zip ys).map (λp=>(f p.1,g p.2)):=by
 rw[List.zip_map];rfl
theorem P7 {F:C->A C}{nt:I}{l:A C}(h:gL nt l=U)(hm:∀d∈l,d∈F 0):gL (F 0).length (l.map (dh (F 0)))=U:=by
 simp only[gL,aU,jc,bf,bH] at h ⊢;refine⟨h.1,λx hx=>?_⟩;obtain⟨d,hd,rfl⟩:=dQ.1 hx;exact nI (hm d hd)
theorem iU.number {c:Cont}(h:iU c):iU (gJ c):=by
 have hF:∀x∈bI c,x.2∈bK (bI c) x.1:=λx hx=>Lg _ hx
 have hl:∀i:I,((gJ c).nl i).length=(bK (bI c) (i:C)).length:=λi=>bH _
 have l0:=hl 0;have l1:=hl 1;have l2:=hl 2;have l3:=hl 3;refine⟨pQ.number h,?_,?_,?_,λp hp=>?_,λp hp=>?_,λp hp=>?_,λx hx=>?_⟩
 .show(c.E.map _).length=(c.SE.map _).length
  rw[bH,bH];exact h.le
 .show(c.D.map _).length=(c.SD.map _).length
  rw[bH,bH];exact h.ld
 .show(c.M.map _).length=(c.SM.map _).length
  rw[bH,bH];exact h.lm
 .have hp':p∈(c.E.map (Yd.gP (bK (bI c)))).zip (c.SE.map (λl=>l.map (Fv (bK (bI c))))):=hp
  rw[JD] at hp';obtain⟨q,hq,rfl⟩:=dQ.1 hp';rw[l0,l1,l2,l3];exact ajW (h.ev q hq) (λx hx=>hF x (by unfold bI;exact nP _ (nP _ (nP _ (ni.2 ⟨q,hq,hx⟩)))))
 .have hp':p∈(c.D.map (λx=>(⟨dh (bK (bI c) 2) x.obj,G,0,0⟩:aM))).zip (c.SD.map (λl=>l.map (dh (bK (bI c) 0)))):=hp
  rw[JD] at hp';obtain⟨q,hq,rfl⟩:=dQ.1 hp';have hx:=λx (hx:x∈kF q.1 q.2)=>hF x (by unfold bI;exact nP _ (nP _ (pX _ (ni.2 ⟨q,hq,hx⟩))))
  rw[l0,l2];exact⟨nI (hx (2,q.1.obj) (by simp[kF])),P7 (h.od q hq).2 (λd hd=>hx (0,d) (by simp[kF,hd]))⟩
 .have hp':p∈(c.M.map (λx=>(⟨dh (bK (bI c) 3) x.pred,dh (bK (bI c) 2) x.obj,x.first,G,0,0⟩:aN))).zip (c.SM.map (λl=>l.map (dh (bK (bI c) 0)))):=hp
  rw[JD] at hp';obtain⟨q,hq,rfl⟩:=dQ.1 hp';have hx:=λx (hx:x∈mY q.1 q.2)=>hF x (by unfold bI;exact nP _ (pX _ (ni.2 ⟨q,hq,hx⟩)))
  rw[l0,l2,l3];exact⟨nI (hx (3,q.1.pred) (by simp[mY])),nI (hx (2,q.1.obj) (by simp[mY])),P7 (h.ma q hq).2.2 (λd hd=>hx (0,d) (by simp[mY,hd]))⟩
 .have hx':x∈c.Q.map (λx=>(⟨dh (bK (bI c) 1) x.dG,x.bits⟩:Wa)):=hx
  obtain⟨q,hq,rfl⟩:=dQ.1 hx';have hx:=λx (hx:x∈qU q)=>hF x (by unfold bI;exact pX _ (ni.2 ⟨q,hq,hx⟩))
  rw[l1];exact⟨nI (hx (1,q.dG) (by simp[qU])),(h.wa q hq).2⟩
def JE (d:Cont):Prop:=∀i:I,i<4->bK (bI d) (i:C)=up (d.nl i).length
def rZ (d:Cont)(xs:A (C × C))(c:Cont):Prop:=∀i:I,c.nl i=(d.nl i).take (bK xs (i:C)).length
theorem AZ {xs ys:A (C × C)}(s:C)(h:xs<+:ys):bK xs s<+:bK ys s:=by
 obtain⟨t,rfl⟩:=h;refine EO (P:=λt=>bK xs s<+:bK (xs++t) s) (by rw[fw];exact iK _) (λt x ih=>?_) t;rw[<-eG];exact ih.trans (KM _ _ _)
theorem ahf {l:A C}{n:I}(h:l<+:up n):l=up l.length:=by
 have h1:=List.prefix_iff_eq_take.1 h;have h2:=h.length_le;rw[BO] at h2;have h3:(up n).take l.length=up l.length:=by
  unfold up;rw[<-List.map_take,List.take_range,zF h2]
 rw[<-h3];exact h1
theorem XL {l:A Bs}(hn:l.Nodup){k:I}(hk:k<l.length){m:I}(hkm:k<m):(l.take m).idxOf l[k]=k:=by
 have hk2:k<(l.take m).length:=by rw[dN];omega
 have hmem:l[k]∈l.take m:=by
  refine bQ (i:=k) ?_;rw[List.getElem?_take_of_lt hkm,eu hk]
 have hi:=GU hmem;have he:=List.getElem_idxOf hi;rw[List.getElem_take] at he;exact JC hn (by rw[dN] at hi;omega) hk he
theorem rZ.say {d c:Cont}{xs:A (C × C)}(ho:JE d)(hn:∀i,(d.nl i).Nodup)(h:rZ d xs c){s:I}(hs:s<4){n:C}(hp:xs++[((s:C),n)]<+:bI d):
  rZ d (xs++[((s:C),n)]) (c.put s (aS (d.nl s) n))/\c.no s (aS (d.nl s) n)=n:=by
 obtain⟨l,hl⟩:∃l,l=d.nl s:=⟨_,rfl⟩;have hF:=AZ (s:C) hp;rw[ho s hs] at hF;have hx:=AZ (s:C) ((fP xs [((s:C),n)]).trans hp);rw[ho s hs] at hx;obtain⟨m,hm⟩:∃m,m=(bK xs (s:C)).length:=⟨_,rfl⟩;have hu:bK xs (s:C)=up m:=by rw[hm];exact ahf hx
 have hFn:bK (xs++[((s:C),n)]) (s:C)=mO (up m) n:=by rw[nH,ay rfl,hu]
 rw[hFn] at hF;obtain⟨k,rfl,hk⟩:∃k:I,n=(k:C)/\k<l.length:=by
  have h1:=hF.subset (P5 (up m) n);unfold up at h1;obtain⟨k,hk,e⟩:=dQ.1 h1;exact⟨k,e.symm,by rw[hl];exact wT.1 hk⟩
 have hnl:=hn s;rw[<-hl] at hnl;have hc:c.nl s=l.take m:=by rw[hl,hm];exact h s
 have hml:m<=l.length:=by
  have:=hx.length_le;rw[BO,hu,BO] at this;rw[hl];exact this
 have hname:aS (d.nl s) (k:C)=l[k]:=by rw[<-hl];exact uU l hk
 rw[hname];have hoth:∀i:I,i≠s->(c.put s l[k]).nl i=(d.nl i).take (bK (xs++[((s:C),(k:C))]) (i:C)).length:=λi hi=>by
  have e1:(c.put s l[k]).nl i=c.nl i:=ak hi;have e2:bK (xs++[((s:C),(k:C))]) (i:C)=bK xs (i:C):=by rw[nH,ak (λe=>hi (Int.ofNat_inj.1 e).symm)]
  rw[e1,e2];exact h i
 have hput:(c.put s l[k]).nl s=cZ (l.take m) l[k]:=by
  have:(c.put s l[k]).nl s=cZ (c.nl s) l[k]:=ay rfl;rw[this,hc]
 have hno:c.no s l[k]=(nK (l.take m) l[k]:C):=by unfold Cont.no;rw[hc]
 rcases jP k m with hkm|hkm
 .have hmem:l[k]∈l.take m:=by
   refine bQ (i:=k) ?_;rw[List.getElem?_take_of_lt hkm,eu hk]
  refine⟨λi=>?_,?_⟩
  .by_cases hi:i=s
   .subst hi
    have e:mO (up m) (k:C)=up m:=by unfold mO;rw[ay ((XF (GN _)).2 (Int.ofNat_lt.2 hkm))]
    rw[hput,pU hmem,hFn,e,BO,hl]
   .exact hoth i hi
  .rw[hno,WX hmem,XL hnl hk hkm]
 .have e:mO (up m) (k:C)=up m++[(k:C)]:=by unfold mO;rw[ak (λh=>by have:=(XF (GN k)).1 h;omega)]
  rw[e] at hF;have aoc:k=m:=by
   obtain⟨t,ht⟩:=hF;have h1:(up (d.nl s).length)[m]?=H (k:C):=by
    rw[<-ht,eG,uZ (by rw[BO];exact aA _),BO,Nat.sub_self];rfl
   have hlt:m<(d.nl s).length:=by rw[<-hl];omega
   rw[ag' hlt] at h1;injection h1 with h1;exact(Int.ofNat_inj.1 h1).symm
  subst aoc;have hnm:l[k]∉l.take k:=λhmem=>by
   obtain⟨j,hj⟩:=List.getElem?_of_mem hmem;obtain⟨h1,h2⟩:=bG.1 hj;rw[dN] at h1;rw[List.getElem_take] at h2;have:=JC hnl ah hk h2;omega
  refine⟨λi=>?_,?_⟩
  .by_cases hi:i=s
   .subst hi
    rw[hput,nE hnm,hFn,e,dH,BO,kT,<-hl,eO,eu hk];rfl
   .exact hoth i hi
  .rw[hno,Sm hnm,dN,zF ah]
def pG (l:A Bs)(v:kZ):To:=if v.k=0 then⟨[],0⟩ else⟨aS l v.t,v.k⟩
section
variable {d:Cont}(ho:JE d)(hn:∀i,(d.nl i).Nodup)
include ho hn
theorem rZ.ahg {c:Cont}{xs:A (C × C)}(h:rZ d xs c){v:kZ}{nt:I}(hv:iP v nt=U)(hp:xs++cO v<+:bI d):rZ d (xs++cO v) (c.bR (pG (d.nl 0) v)).1/\(c.bR (pG (d.nl 0) v)).2=v:=by
 obtain⟨t,k⟩:=v;unfold iP at hv;unfold cO at hp ⊢;unfold Cont.bR pG;by_cases hk:k=0
 .subst hk
  simp only[dw,bf] at hv;subst hv;simp only[dw,Int.lt_irrefl,fE,fw];exact⟨h,trivial⟩
 .simp only[ak hk] at hv ⊢
  simp only[aU,bf] at hv;simp only[ay hv.1.2] at hp ⊢;obtain⟨h1,h2⟩:=h.say ho hn (s:=0) ah hp;exact⟨h1,by rw[h2]⟩
theorem rZ.tsS:∀(ds:A C){c:Cont}{xs:A (C × C)},rZ d xs c->xs++ds.map (λt=>((0:C),t))<+:bI d->rZ d (xs++ds.map (λt=>((0:C),t))) (c.ts (ds.map (aS (d.nl 0)))).1/\(c.ts (ds.map (aS (d.nl 0)))).2=ds
 |[],c,xs,h,_=>by rw[mU,fw];exact⟨h,rfl⟩
 |t::ds,c,xs,h,hp=>by
  have e:xs++(t::ds).map (λt=>((0:C),t))=(xs++[((0:C),t)])++ds.map (λt=>((0:C),t)):=by simp
  rw[e] at hp ⊢;obtain⟨h1,h2⟩:=h.say ho hn (s:=0) ah ((fP _ _).trans hp);obtain⟨h3,h4⟩:=rZ.tsS ds h1 hp;exact⟨h3,by show _::_=_;rw[h2,h4]⟩
theorem rZ.scS:∀(sc:A Sn){c:Cont}{xs:A (C × C)},rZ d xs c->(∀s∈sc,iP s.v (d.nl 0).length=U)->xs++sc.flatMap (λs=>((2:C),s.obj)::cO s.v)<+:bI d->
  rZ d (xs++sc.flatMap (λs=>((2:C),s.obj)::cO s.v)) (c.sc (sc.map (λq=>(aS (d.nl 2) q.obj,pG (d.nl 0) q.v)))).1/\(c.sc (sc.map (λq=>(aS (d.nl 2) q.obj,pG (d.nl 0) q.v)))).2=sc
 |[],c,xs,h,_,_=>by rw[List.flatMap_nil,fw];exact⟨h,rfl⟩
 |s::sc,c,xs,h,hv,hp=>by
  have e:xs++(s::sc).flatMap (λs=>((2:C),s.obj)::cO s.v)=((xs++[((2:C),s.obj)])++cO s.v)++sc.flatMap (λs=>((2:C),s.obj)::cO s.v):=by simp
  rw[e] at hp ⊢;obtain⟨h1,h2⟩:=h.say ho hn (s:=2) ah (((fP _ _).trans (fP _ _)).trans hp);obtain⟨h3,h4⟩:=h1.ahg ho hn (hv s pY) ((fP _ _).trans hp);obtain⟨h5,h6⟩:=rZ.scS sc h3 (λx hx=>hv x (iJ _ hx)) hp;refine⟨h5,?_⟩;show _::_=_;rw[h6]
  congr 1
  rw[h2,h4]
end
theorem ahi (c:Cont)(a b:Bs)(lv:C):aO c ⟨1,[a,b],lv,[],O,0⟩=((c.put 0 a).put 1 b).ev {Cz with kind:=1,t:=c.no 0 a,dG:=(c.put 0 a).no 1 b,lvl:=lv} []:=rfl
theorem ahj (c:Cont)(a b:Bs):aO c ⟨2,[a,b],0,[],O,0⟩=((c.put 0 a).put 2 b).ev {Cz with kind:=2,t:=c.no 0 a,obj:=(c.put 0 a).no 2 b,v:=⟨c.no 0 a,(fK c.E (c.no 0 a) ((c.put 0 a).no 2 b):C)+1⟩} []:=rfl
theorem ahk (c:Cont)(a b:Bs)(v:To):aO c ⟨3,[a,b],0,[v],O,0⟩=(((c.put 0 a).put 2 b).bR v).1.ev {Cz with kind:=3,t:=c.no 0 a,obj:=(c.put 0 a).no 2 b,v:=(((c.put 0 a).put 2 b).bR v).2} []:=rfl
theorem ahl (c:Cont)(a b:Bs)(ns:A Bs)(vs:A To):aO c ⟨4,[a,b]++ns,0,vs,O,0⟩=(((c.put 0 a).put 3 b).sc (ns.zip vs)).1.ev {Cz with kind:=4,t:=c.no 0 a,pred:=(c.put 0 a).no 3 b} (((c.put 0 a).put 3 b).sc (ns.zip vs)).2:=rfl
theorem ahm (c:Cont)(a:Bs):aO c ⟨5,[a],0,[],O,0⟩=(c.put 0 a).ev {Cz with kind:=5,t:=c.no 0 a} []:=rfl
theorem ahn (c:Cont)(a:Bs):aO c ⟨6,[a],0,[],O,0⟩=(c.put 0 a).ev {Cz with kind:=6,t:=c.no 0 a} []:=rfl
theorem aho (c:Cont)(a:Bs)(ns:A Bs):aO c ⟨7,[a]++ns,0,[],O,0⟩={((c.put 2 a).ts ns).1 with D:=c.D++[⟨c.no 2 a,G,0,0⟩],SD:=c.SD++[((c.put 2 a).ts ns).2]}:=rfl
theorem ahp (c:Cont)(a b:Bs)(ns:A Bs)(f:Bool):aO c ⟨8,[a,b]++ns,0,[],f,0⟩={(((c.put 3 a).put 2 b).ts ns).1 with M:=c.M++[⟨c.no 3 a,(c.put 3 a).no 2 b,f,G,0,0⟩],SM:=c.SM++[(((c.put 3 a).put 2 b).ts ns).2]}:=rfl
theorem ahq (c:Cont)(a:Bs)(b:C):aO c ⟨9,[a],0,[],O,b⟩={c.put 1 a with Q:=c.Q++[⟨c.no 1 a,b⟩]}:=rfl
def qx (d:Cont)(e:EvC)(scan:A Sn):aP:=
 if e.kind=1 then⟨e.kind,[aS (d.nl 0) e.t,aS (d.nl 1) e.dG],e.lvl,[],O,0⟩
 else if e.kind=2 then⟨e.kind,[aS (d.nl 0) e.t,aS (d.nl 2) e.obj],0,[],O,0⟩
 else if e.kind=3 then⟨e.kind,[aS (d.nl 0) e.t,aS (d.nl 2) e.obj],0,[pG (d.nl 0) e.v],O,0⟩
 else if e.kind=4 then⟨e.kind,[aS (d.nl 0) e.t,aS (d.nl 3) e.pred]++scan.map (λq=>aS (d.nl 2) q.obj),0,scan.map (λq=>pG (d.nl 0) q.v),O,0⟩
 else⟨e.kind,[aS (d.nl 0) e.t],0,[],O,0⟩
structure Added (c z:Cont)(e:EvC)(l:A Sn):Prop where
 E:z.E=c.E++[e]
 SE:z.SE=c.SE++[l]
 D:z.D=c.D
 SD:z.SD=c.SD
 M:z.M=c.M
 SM:z.SM=c.SM
 Q:z.Q=c.Q
theorem Added.of {c z:Cont}(n:Nm c z)(e:EvC)(l:A Sn):Added c (z.ev e l) e l:=
 ⟨by show z.E++[e]=_;rw[n.e],by show z.SE++[l]=_;rw[n.se],n.d,n.sd,n.m,n.sm,n.q⟩
theorem P8 {α β γ:Type}(f:α->β)(g:α->γ):∀l:A α,(l.map f).zip (l.map g)=l.map (λx=>(f x,g x))
 |[]=>rfl
 |x::l=>by rw[lD,lD,List.zip_cons_cons,P8 f g l];rfl
theorem rZ.event {d c:Cont}{xs:A (C × C)}(ho:JE d)(hn:∀i,(d.nl i).Nodup)(h:rZ d xs c){e:EvC}{l:A Sn}{ns no np:I}(he:ja (d.nl 0).length ns no np e l=U)(hb:e.base=e)
  (hp:xs++dD e l<+:bI d) (hk:e.kind=2->e.v.k=(fK c.E e.t e.obj:C)+1):rZ d (xs++dD e l) (aO c (qx d e l))/\Added c (aO c (qx d e l)) e l:=by
 obtain⟨kd,t,dG,lvl,obj,v,pred,sa,sn,sc⟩:=e;have hb':(⟨kd,t,dG,lvl,obj,v,pred,G,0,0⟩:EvC)=⟨kd,t,dG,lvl,obj,v,pred,sa,sn,sc⟩:=hb;simp only[EvC.mk.injEq,true_and] at hb';obtain⟨rfl,rfl,rfl⟩:=hb';simp only[ja,aU,bf] at he;obtain⟨⟨⟨⟨h1,h7⟩,_⟩,hh⟩,hbr⟩:=he;have hkk:kd=1\/kd=2\/kd=3\/kd=4\/kd=5\/kd=6:=by omega
 rcases hkk with rfl|rfl|rfl|rfl|rfl|rfl
 .simp[gG] at hbr
  obtain⟨⟨⟨rfl,rfl⟩,rfl⟩,rfl⟩:=hbr;have e1:dD ⟨1,t,dG,lvl,0,⟨0,0⟩,0,G,0,0⟩ []=[((0:C),t)]++[((1:C),dG)]:=rfl;rw[e1] at hp ⊢;rw[<-eG] at hp ⊢;obtain⟨h2,h3⟩:=h.say ho hn (s:=0) ah ((fP _ _).trans hp);obtain⟨h4,h5⟩:=h2.say ho hn (s:=1) ah hp;have e2:qx d ⟨1,t,dG,lvl,0,⟨0,0⟩,0,G,0,0⟩ []=⟨1,[aS (d.nl 0) t,aS (d.nl 1) dG],lvl,[],O,0⟩:=rfl;rw[e2,ahi,h3,h5];exact⟨h4,Added.of ((Nm.put _ _ _).trans (Nm.put _ _ _)) _ _⟩
 .simp[gG] at hbr
  simp[hasB] at hh;obtain⟨⟨⟨rfl,rfl⟩,rfl⟩,rfl⟩:=hbr;have hkv:=hk rfl;simp only at hkv;obtain⟨vt,vk⟩:=v;simp only at hkv hh;obtain⟨⟨⟨_,_⟩,rfl⟩,hk0⟩:=hh;have e1:dD ⟨2,vt,0,0,obj,⟨vt,vk⟩,0,G,0,0⟩ []=[((0:C),vt)]++([((2:C),obj)]++[((0:C),vt)]):=by
   unfold dD cO;simp[hk0]
  rw[e1] at hp ⊢;rw[<-eG,<-eG] at hp ⊢;obtain⟨h2,h3⟩:=h.say ho hn (s:=0) ah (((fP _ _).trans (fP _ _)).trans hp);obtain⟨h4,h5⟩:=h2.say ho hn (s:=2) ah ((fP _ _).trans hp);obtain⟨h6,h7⟩:=h4.say ho hn (s:=0) ah hp;have e2:qx d ⟨2,vt,0,0,obj,⟨vt,vk⟩,0,G,0,0⟩ []=⟨2,[aS (d.nl 0) vt,aS (d.nl 2) obj],0,[],O,0⟩:=rfl;rw[e2,ahj,h3,h5,<-hkv];refine⟨λi=>?_,Added.of ((Nm.put _ _ _).trans (Nm.put _ _ _)) _ _⟩;refine Eq.trans ?_ (h6 i);show _=(if i=0 then cZ (((c.put 0 (aS (d.nl 0) vt)).put 2 (aS (d.nl 2) obj)).nl 0) (aS (d.nl 0) vt) else((c.put 0 (aS (d.nl 0) vt)).put 2 (aS (d.nl 2) obj)).nl i);by_cases hi:i=0
  .subst hi
   rw[ay rfl,pU]
   .rfl
   .have h9:((c.put 0 (aS (d.nl 0) vt)).put 2 (aS (d.nl 2) obj)).nl 0=cZ (c.nl 0) (aS (d.nl 0) vt):=rfl
    rw[h9];exact EN _ _
  .rw[ak hi];rfl
 .simp[gG] at hbr
  simp[hasB] at hh;obtain⟨⟨⟨rfl,rfl⟩,rfl⟩,rfl⟩:=hbr;have e1:dD ⟨3,t,0,0,obj,v,0,G,0,0⟩ []=[((0:C),t)]++([((2:C),obj)]++cO v):=by
   unfold dD;simp
  rw[e1] at hp ⊢;rw[<-eG,<-eG] at hp ⊢;obtain⟨h2,h3⟩:=h.say ho hn (s:=0) ah (((fP _ _).trans (fP _ _)).trans hp);obtain⟨h4,h5⟩:=h2.say ho hn (s:=2) ah ((fP _ _).trans hp);obtain⟨h6,h7⟩:=h4.ahg ho hn hh.2 hp;have e2:qx d ⟨3,t,0,0,obj,v,0,G,0,0⟩ []=⟨3,[aS (d.nl 0) t,aS (d.nl 2) obj],0,[pG (d.nl 0) v],O,0⟩:=rfl;rw[e2,ahk,h3,h5,h7];exact⟨h6,Added.of (((Nm.put _ _ _).trans (Nm.put _ _ _)).trans (Nm.bR _ _)) _ _⟩
 .simp[gG] at hbr
  simp[hasB] at hh;obtain⟨⟨⟨rfl,rfl⟩,rfl⟩,rfl⟩:=hbr;have e1:dD ⟨4,t,0,0,0,⟨0,0⟩,pred,G,0,0⟩ l=[((0:C),t)]++([((3:C),pred)]++l.flatMap (λs=>((2:C),s.obj)::cO s.v)):=by
   unfold dD;simp
  rw[e1] at hp ⊢;rw[<-eG,<-eG] at hp ⊢;obtain⟨h2,h3⟩:=h.say ho hn (s:=0) ah (((fP _ _).trans (fP _ _)).trans hp);obtain⟨h4,h5⟩:=h2.say ho hn (s:=3) ah ((fP _ _).trans hp);obtain⟨h6,h7⟩:=h4.scS ho hn l (λs hs=>by
   have:=hh.2 s hs;simp only[kU,aU] at this;exact this.2) hp
  have e2:qx d ⟨4,t,0,0,0,⟨0,0⟩,pred,G,0,0⟩ l=⟨4,[aS (d.nl 0) t,aS (d.nl 3) pred]++l.map (λq=>aS (d.nl 2) q.obj),0,l.map (λq=>pG (d.nl 0) q.v),O,0⟩:=rfl;rw[e2,ahl,P8,h3,h5,h7];exact⟨h6,Added.of (((Nm.put _ _ _).trans (Nm.put _ _ _)).trans (Nm.sc _ _)) _ _⟩
 .simp[gG] at hbr
  obtain⟨⟨⟨⟨⟨rfl,rfl⟩,rfl⟩,rfl⟩,rfl⟩,rfl⟩:=hbr;have e1:dD ⟨5,t,0,0,0,⟨0,0⟩,0,G,0,0⟩ []=[((0:C),t)]:=rfl;rw[e1] at hp ⊢;obtain⟨h2,h3⟩:=h.say ho hn (s:=0) ah hp;have e2:qx d ⟨5,t,0,0,0,⟨0,0⟩,0,G,0,0⟩ []=⟨5,[aS (d.nl 0) t],0,[],O,0⟩:=rfl;rw[e2,ahm,h3];exact⟨h2,Added.of (Nm.put _ _ _) _ _⟩
 .simp[gG] at hbr
  obtain⟨⟨⟨⟨⟨rfl,rfl⟩,rfl⟩,rfl⟩,rfl⟩,rfl⟩:=hbr;have e1:dD ⟨6,t,0,0,0,⟨0,0⟩,0,G,0,0⟩ []=[((0:C),t)]:=rfl;rw[e1] at hp ⊢;obtain⟨h2,h3⟩:=h.say ho hn (s:=0) ah hp;have e2:qx d ⟨6,t,0,0,0,⟨0,0⟩,0,G,0,0⟩ []=⟨6,[aS (d.nl 0) t],0,[],O,0⟩:=rfl;rw[e2,ahn,h3];exact⟨h2,Added.of (Nm.put _ _ _) _ _⟩
def DR (d:Cont)(x:aM)(l:A C):aP:=⟨7,[aS (d.nl 2) x.obj]++l.map (aS (d.nl 0)),0,[],O,0⟩
def DT (d:Cont)(x:aN)(l:A C):aP:=⟨8,[aS (d.nl 3) x.pred,aS (d.nl 2) x.obj]++l.map (aS (d.nl 0)),0,[],x.first,0⟩
def Hy (d:Cont)(x:Wa):aP:=⟨9,[aS (d.nl 1) x.dG],0,[],O,x.bits⟩
structure Has (c:Cont)(pe:A (EvC × A Sn))(pd:A (aM × A C))(pm:A (aN × A C))(pq:A Wa):Prop where
 E:c.E=pe.map Prod.fst
 SE:c.SE=pe.map Prod.snd
 D:c.D=pd.map Prod.fst
 SD:c.SD=pd.map Prod.snd
 M:c.M=pm.map Prod.fst
 SM:c.SM=pm.map Prod.snd
 Q:c.Q=pq
def mZ (d:Cont):Prop:=∀a e b,d.E=a++e::b->e.kind=2->e.v.k=(fK a e.t e.obj:C)+1
structure kE (d:Cont):Prop where
 e:∀e∈d.E,e.base=e
 o:∀x∈d.D,x.base=x
 m:∀x∈d.M,x.base=x
theorem rZ.order {d c:Cont}{xs:A (C × C)}(ho:JE d)(hn:∀i,(d.nl i).Nodup)(h:rZ d xs c){x:aM}{l:A C}{pe pd pm pq}(hh:Has c pe pd pm pq)(hb:x.base=x)(hp:xs++kF x l<+:bI d):
  rZ d (xs++kF x l) (aO c (DR d x l))/\Has (aO c (DR d x l)) pe (pd++[(x,l)]) pm pq:=by
 obtain⟨obj,sa,sn,sc⟩:=x;have hb':(⟨obj,G,0,0⟩:aM)=⟨obj,sa,sn,sc⟩:=hb;simp only[aM.mk.injEq,true_and] at hb';obtain⟨rfl,rfl,rfl⟩:=hb';have e1:kF ⟨obj,G,0,0⟩ l=[((2:C),obj)]++l.map (λt=>((0:C),t)):=rfl;rw[e1] at hp ⊢;rw[<-eG] at hp ⊢;obtain⟨h2,h3⟩:=h.say ho hn (s:=2) ah ((fP _ _).trans hp);obtain⟨h4,h5⟩:=h2.tsS ho hn l hp;have e2:DR d ⟨obj,G,0,0⟩ l=⟨7,[aS (d.nl 2) obj]++l.map (aS (d.nl 0)),0,[],O,0⟩:=rfl;have n:=(Nm.put c 2 (aS (d.nl 2) obj)).trans (Nm.ts (l.map (aS (d.nl 0))) _);rw[e2,aho,h3,h5];exact⟨h4,n.e.trans hh.E,n.se.trans hh.SE,by show c.D++_=_;rw[hh.D,gK];rfl,by show c.SD++_=_;rw[hh.SD,gK];rfl,n.m.trans hh.M,n.sm.trans hh.SM,n.q.trans hh.Q⟩
theorem rZ.NS {d c:Cont}{xs:A (C × C)}(ho:JE d)(hn:∀i,(d.nl i).Nodup)(h:rZ d xs c){x:aN}{l:A C}{pe pd pm pq}(hh:Has c pe pd pm pq)(hb:x.base=x)(hp:xs++mY x l<+:bI d):
  rZ d (xs++mY x l) (aO c (DT d x l))/\Has (aO c (DT d x l)) pe pd (pm++[(x,l)]) pq:=by
 obtain⟨pred,obj,fi,sa,sn,sc⟩:=x;have hb':(⟨pred,obj,fi,G,0,0⟩:aN)=⟨pred,obj,fi,sa,sn,sc⟩:=hb;simp only[aN.mk.injEq,true_and] at hb';obtain⟨rfl,rfl,rfl⟩:=hb';have e1:mY ⟨pred,obj,fi,G,0,0⟩ l=[((3:C),pred)]++([((2:C),obj)]++l.map (λt=>((0:C),t))):=rfl;rw[e1] at hp ⊢;rw[<-eG,<-eG] at hp ⊢;obtain⟨h2,h3⟩:=h.say ho hn (s:=3) ah (((fP _ _).trans (fP _ _)).trans hp);obtain⟨h4,h5⟩:=h2.say ho hn (s:=2) ah ((fP _ _).trans hp);obtain⟨h6,h7⟩:=h4.tsS ho hn l hp;have e2:DT d ⟨pred,obj,fi,G,0,0⟩ l=⟨8,[aS (d.nl 3) pred,aS (d.nl 2) obj]++l.map (aS (d.nl 0)),0,[],fi,0⟩:=rfl;have n:=((Nm.put c 3 (aS (d.nl 3) pred)).trans (Nm.put _ 2 (aS (d.nl 2) obj))).trans (Nm.ts (l.map (aS (d.nl 0))) _);rw[e2,ahp,h3,h5,h7];exact⟨h6,n.e.trans hh.E,n.se.trans hh.SE,n.d.trans hh.D,n.sd.trans hh.SD,by show c.M++_=_;rw[hh.M,gK];rfl,by show c.SM++_=_;rw[hh.SM,gK];rfl,n.q.trans hh.Q⟩
theorem rZ.want {d c:Cont}{xs:A (C × C)}(ho:JE d)(hn:∀i,(d.nl i).Nodup)(h:rZ d xs c){x:Wa}{pe pd pm pq}(hh:Has c pe pd pm pq)(hp:xs++qU x<+:bI d):
  rZ d (xs++qU x) (aO c (Hy d x))/\Has (aO c (Hy d x)) pe pd pm (pq++[x]):=by
 obtain⟨dG,bits⟩:=x;have e1:qU ⟨dG,bits⟩=[((1:C),dG)]:=rfl;rw[e1] at hp ⊢;obtain⟨h2,h3⟩:=h.say ho hn (s:=1) ah hp;have e2:Hy d ⟨dG,bits⟩=⟨9,[aS (d.nl 1) dG],0,[],O,bits⟩:=rfl;rw[e2,ahq,h3];exact⟨h2,hh.E,hh.SE,hh.D,hh.SD,hh.M,hh.SM,by show c.Q++_=_;rw[hh.Q]⟩
def qy (c:Cont)(ls:A aP):Cont:=ls.foldl aO c
theorem Gr.all:∀(ls:A aP)(c:Cont),Gr c (qy c ls)
 |[],c=>Gr.refl c
 |l::ls,c=>(Gr.add c l).trans (Gr.all ls _)
section
variable {d:Cont}(ho:JE d)(hn:∀i,(d.nl i).Nodup)(hs:iU d)(hb:kE d)(hc:mZ d)
include ho hn hs hb hc
omit hc in
omit hc in
omit hs hb hc in
structure EQ (c d:Cont):Prop where
 n:∀i,i<4->c.nl i=d.nl i
 E:c.E=d.E
 SE:c.SE=d.SE
 D:c.D=d.D
 SD:c.SD=d.SD
 M:c.M=d.M
 SM:c.SM=d.SM
 Q:c.Q=d.Q
end
theorem mZ.of {c z:Cont}(h:mZ c)(e:z.E=c.E):mZ z:=λa x b hx hk=>h a x b (by rw[<-e];exact hx) hk
theorem mZ.gP {c:Cont}(h:mZ c)(e:EvC)(l:A Sn)(he:e.kind=2->e.v.k=(fK c.E e.t e.obj:C)+1):mZ (c.ev e l):=by
 intro a x b hx hk;have hx':c.E++[e]=a++x::b:=hx;rcases List.eq_nil_or_concat b with rfl|⟨b',y,rfl⟩
 .obtain⟨h1,h2⟩:=List.append_inj' hx' rfl
  injection h2 with h2;subst h1 h2;exact he hk
 .have e2:a++x::(b'++[y])=(a++x::b')++[y]:=by simp
  rw[List.concat_eq_append,e2] at hx';exact h a x b' (List.append_inj' hx' rfl).1 hk
theorem mZ.zero:mZ jh:=λa x b hx=>by
 have hx':([]:A EvC)=a++x::b:=hx;simp at hx'
theorem mZ.add {c:Cont}(h:mZ c)(l:aP):mZ (aO c l):=by
 unfold aO;simp only[]
 split
 .exact mZ.gP (h.of rfl) _ [] (λhk=>by cases hk)
 .split
  .exact mZ.gP (h.of rfl) _ [] (λ_=>rfl)
  .split
   .exact mZ.gP (h.of (((Nm.put _ _ _).trans (Nm.put _ _ _)).trans (Nm.bR _ _)).e) _ [] (λhk=>by cases hk)
   .split
    .exact mZ.gP (h.of (((Nm.put _ _ _).trans (Nm.put _ _ _)).trans (Nm.sc _ _)).e) _ (((c.put 0 (l.names.getD 0 [])).put 3 (l.names.getD 1 [])).sc ((l.names.drop 2).zip l.aF)).2 (λhk=>by cases hk)
    .split
     .rename_i hk5
      exact mZ.gP (h.of rfl) _ [] (λhk=>by
       have hk':l.kind=2:=hk;omega)
     .split
      .exact h.of ((Nm.put _ _ _).trans (Nm.ts _ _)).e
      .split
       .exact h.of (((Nm.put _ _ _).trans (Nm.put _ _ _)).trans (Nm.ts _ _)).e
       .split
        .exact h.of rfl
        .exact h
theorem mZ.all:∀(ls:A aP){c:Cont},mZ c->mZ (qy c ls)
 |[],_,h=>h
 |l::ls,_,h=>mZ.all ls (h.add l)
theorem kE.of {c z:Cont}(h:kE c)(n:Nm c z):kE z:=⟨by rw[n.e];exact h.e,by rw[n.d];exact h.o,by rw[n.m];exact h.m⟩
theorem kE.gP {c:Cont}(h:kE c)(e:EvC)(l:A Sn)(he:e.base=e):kE (c.ev e l):=
 ⟨λx hx=>by
  rcases bJ.1 hx with hx|hx
  .exact h.e x hx
  .rw[bF.1 hx];exact he,h.o,h.m⟩
theorem kE.zero:kE jh:=⟨λx hx=>(by cases hx),λx hx=>(by cases hx),λx hx=>(by cases hx)⟩
theorem kE.add {c:Cont}(h:kE c)(l:aP):kE (aO c l):=by
 unfold aO;simp only[]
 split
 .exact kE.gP (h.of ((Nm.put _ _ _).trans (Nm.put _ _ _))) _ _ rfl
 .split
  .exact kE.gP (h.of ((Nm.put _ _ _).trans (Nm.put _ _ _))) _ _ rfl
  .split
   .exact kE.gP (h.of (((Nm.put _ _ _).trans (Nm.put _ _ _)).trans (Nm.bR _ _))) _ _ rfl
   .split
    .exact kE.gP (h.of (((Nm.put _ _ _).trans (Nm.put _ _ _)).trans (Nm.sc _ _))) _ _ rfl
    .split
     .exact kE.gP (h.of (Nm.put _ _ _)) _ _ rfl
     .split
      .have k:=h.of ((Nm.put c 2 (l.names.getD 0 [])).trans (Nm.ts (l.names.drop 1) _))
       refine⟨k.e,λx hx=>?_,k.m⟩;rcases bJ.1 hx with hx|hx
       .exact h.o x hx
       .rw[bF.1 hx];rfl
      .split
       .have k:=h.of (((Nm.put c 3 (l.names.getD 0 [])).trans (Nm.put _ 2 (l.names.getD 1 []))).trans (Nm.ts (l.names.drop 2) _))
        refine⟨k.e,k.o,λx hx=>?_⟩;rcases bJ.1 hx with hx|hx
        .exact h.m x hx
        .rw[bF.1 hx];rfl
       .split
        .exact⟨h.e,h.o,h.m⟩
        .exact h
theorem kE.all:∀(ls:A aP){c:Cont},kE c->kE (qy c ls)
 |[],_,h=>h
 |l::ls,_,h=>kE.all ls (h.add l)
theorem P9 {c:Cont}{l:aP}(h:l.kind=0):aO c l=c:=by
 unfold aO;simp[h]
theorem iU.all:∀(ls:A aP){c:Cont},iU c->(∀l∈ls,l.kind=0\/fB l)->aI (qy c ls)->iU (qy c ls)
 |[],_,h,_,_=>h
 |l::ls,c,h,hl,hf=>iU.all ls (c:=aO c l) (by
  rcases hl l pY with h0|h0
  .rw[P9 h0];exact h
  .exact h.add h0 ((Gr.all ls _).fits hf)) (λx hx=>hl x (iJ _ hx)) hf
theorem kE.number (c:Cont):kE (gJ c):=
 ⟨λx hx=>(by obtain⟨y,_,rfl⟩:=dQ.1 hx;rfl),λx hx=>(by obtain⟨y,_,rfl⟩:=dQ.1 hx;rfl),λx hx=>(by obtain⟨y,_,rfl⟩:=dQ.1 hx;rfl)⟩
theorem SN {l:A C}{a b:C}(ha:a∈l)(hb:b∈l)(h:dh l a=dh l b):a=b:=by
 unfold dh at h;rw[ay ha,ay hb] at h;have h1:=List.getElem_idxOf (GU ha);have h2:=List.getElem_idxOf (GU hb);have h3:=Int.ofNat_inj.1 h;rw[<-h1,<-h2];exact getElem_congr_idx h3
theorem XM {c:Cont}(h:c.E.length=c.SE.length){e:EvC}(he:e∈c.E):((0:C),e.t)∈bI c/\(e.kind=2->((2:C),e.obj)∈bI c):=by
 obtain⟨l,hl⟩:∃l,(e,l)∈c.E.zip c.SE:=by
  have:e∈(c.E.zip c.SE).map Prod.fst:=by rw[List.map_fst_zip (by rw[h];exact aA _)];exact he
  obtain⟨p,hp,rfl⟩:=dQ.1 this;exact⟨p.2,hp⟩
 have hin:∀x∈dD e l,x∈bI c:=λx hx=>by
  unfold bI;exact nP _ (nP _ (nP _ (ni.2 ⟨(e,l),hl,hx⟩)))
 refine⟨hin _ ?_,λhk=>hin _ ?_⟩
 .unfold dD;simp
 .unfold dD;simp[hk]
theorem mZ.number {c:Cont}(h:mZ c)(hl:c.E.length=c.SE.length):mZ (gJ c):=by
 intro a x b hx hk;obtain⟨F,hF⟩:∃F,F=bK (bI c):=⟨_,rfl⟩;have hx':c.E.map (Yd.gP F)=a++x::b:=by rw[hF];exact hx
 obtain⟨a',r,e1,rfl,e2⟩:=List.map_eq_append_iff.1 hx';obtain⟨x',b',rfl,rfl,rfl⟩:=List.map_eq_cons_iff.1 e2;have hk':x'.kind=2:=hk;have h1:=h a' x' b' e1 hk';have hmem:∀e∈c.E,e.t∈F 0/\(e.kind=2->e.obj∈F 2):=λe he=>by
  have:=XM hl he;rw[hF];exact⟨Lg _ this.1,λk=>Lg _ (this.2 k)⟩
 have hxm:=hmem x' (by rw[e1];simp);have e3:(Yd.gP F x').v.k=x'.v.k:=by
  unfold Yd.gP kH;simp only[hk',true_or,dw]
  split <;> rfl
 rw[e3,h1]
 congr 2
 unfold fK;rw[List.countP_map];refine List.countP_congr (λe he=>?_);have hem:=hmem e (by rw[e1];exact nP _ he);have eo:∀y:EvC,y.kind=2->(Yd.gP F y).obj=dh (F 2) y.obj:=λy hy=>by unfold Yd.gP;simp only[hy,true_or,dw]
 simp only[Function.comp,aU,xX]
 constructor
 .rintro⟨h2,h3,h4⟩
  refine⟨h2,dF (dh (F 0)) h3,?_⟩;rw[eo _ h2,eo _ hk',h4]
 .rintro⟨h2,h3,h4⟩
  have h2':e.kind=2:=h2;rw[eo _ h2',eo _ hk'] at h4;exact⟨h2',SN hem.1 hxm.1 h3,SN (hem.2 h2') (hxm.2 hk') h4⟩
section
variable {c:Cont}{F:C->A C}
end
theorem kJ {l z:A Bs}(h:l<+:z){n:C}(hn:bC n l.length=U):aS z n=aS l n:=by
 simp only[bC,aU,bf] at hn;obtain⟨k,rfl⟩:∃k:I,n=(k:C):=⟨n.toNat,by omega⟩;obtain⟨t,rfl⟩:=h;have hk:k<l.length:=by omega
 rw[uU _ (by rw[dH];omega),uU _ hk,List.getElem_append_left hk]
theorem Qa {l z:A Bs}(h:l<+:z){v:kZ}(hv:iP v l.length=U):pG z v=pG l v:=by
 unfold pG;by_cases hk:v.k=0
 .rw[ay hk,ay hk]
 .unfold iP at hv
  rw[ak hk] at hv ⊢;simp only[aU] at hv;rw[ak hk,kJ h hv.1.1]
theorem XO {c z:Cont}(g:Gr c z){e:EvC}{l:A Sn}(he:ja (c.nl 0).length (c.nl 1).length (c.nl 2).length (c.nl 3).length e l=U):qx z e l=qx c e l:=by
 simp only[ja,aU,bf] at he;obtain⟨⟨_,ht⟩,hh⟩:=he.1;unfold hasB at hh;unfold qx;rw[kJ (g.n 0) ht];by_cases h1:e.kind=1
 .rw[ay h1] at hh
  simp only[aU] at hh;rw[ay h1,ay h1,kJ (g.n 1) hh.1]
 .rw[ak h1] at hh ⊢
  rw[ak h1];by_cases h2:e.kind=2
  .rw[ay h2] at hh ⊢
   simp only[aU] at hh;rw[ay h2,kJ (g.n 2) hh.1.1.1]
  .rw[ak h2] at hh ⊢
   rw[ak h2];by_cases h3:e.kind=3
   .rw[ay h3] at hh ⊢
    simp only[aU] at hh;rw[ay h3,kJ (g.n 2) hh.1,Qa (g.n 0) hh.2]
   .rw[ak h3] at hh ⊢
    rw[ak h3];by_cases h4:e.kind=4
    .rw[ay h4] at hh ⊢
     simp only[aU,jc] at hh;have hs:∀s∈l,bC s.obj (c.nl 2).length=U/\iP s.v (c.nl 0).length=U:=λs hs=>by
      have:=hh.2 s hs
      simpa only[kU,aU] using this
     rw[ay h4,kJ (g.n 3) hh.1.1,wQ (λs h=>kJ (g.n 2) (hs s h).1),wQ (λs h=>Qa (g.n 0) (hs s h).2)]
    .rw[ak h4,ak h4]
theorem MN {c z:Cont}(g:Gr c z){l:A C}(h:gL (c.nl 0).length l=U):l.map (aS (z.nl 0))=l.map (aS (c.nl 0)):=by
 simp only[gL,aU,jc] at h;exact wQ (λt ht=>kJ (g.n 0) (h.2 t ht))
def lsE (c:Cont):A aP:=(c.E.zip c.SE).map (λp=>qx c p.1 p.2)
def lsD (c:Cont):A aP:=(c.D.zip c.SD).map (λp=>DR c p.1 p.2)
def lsM (c:Cont):A aP:=(c.M.zip c.SM).map (λp=>DT c p.1 p.2)
def lsQ (c:Cont):A aP:=c.Q.map (Hy c)
section
variable {c z:Cont}(h:iU c)(g:Gr c z)
include h g
theorem Hz:(c.E.zip c.SE).map (λp=>qx z p.1 p.2)=lsE c:=wQ (λp hp=>XO g (h.ev p hp))
theorem H9:(c.D.zip c.SD).map (λp=>DR z p.1 p.2)=lsD c:=wQ (λp hp=>by
 unfold DR;rw[kJ (g.n 2) (h.od p hp).1,MN g (h.od p hp).2])
theorem Ia:(c.M.zip c.SM).map (λp=>DT z p.1 p.2)=lsM c:=wQ (λp hp=>by
 unfold DT;rw[kJ (g.n 3) (h.ma p hp).1,kJ (g.n 2) (h.ma p hp).2.1,MN g (h.ma p hp).2.2])
theorem Ib:c.Q.map (Hy z)=lsQ c:=wQ (λp hp=>by
 unfold Hy;rw[kJ (g.n 1) (h.wa p hp).1])
end
theorem iG {c z:Cont}{i:I}{s:Bs}(g:Gr (c.put i s) z):aS (z.nl i) (c.no i s)=s:=by
 have e:(c.put i s).nl i=cZ (c.nl i) s:=ay rfl;rw[kJ (g.n i) (iq c i s),e];have hi:=GU (EN (c.nl i) s);show aS _ ((nK (c.nl i) s:I):C)=s;have e2:nK (c.nl i) s=(cZ (c.nl i) s).idxOf s:=rfl;rw[e2,uU _ hi,List.getElem_idxOf]
theorem Qb {c z:Cont}{v:To}(hv:qF v)(g:Gr (c.bR v).1 z):pG (z.nl 0) (c.bR v).2=v:=by
 rcases hv with rfl|⟨_,h0,_⟩
 .rfl
 .have hk:¬v.k=0:=by omega
  have e1:c.bR v=(c.put 0 v.name,⟨c.no 0 v.name,v.k⟩):=by unfold Cont.bR;rw[ak hk]
  rw[e1] at g ⊢;unfold pG;simp only[ak hk];rw[iG g]
theorem JF:∀(l:A Bs){c z:Cont},Gr (c.ts l).1 z->(c.ts l).2.map (aS (z.nl 0))=l
 |[],_,_,_=>rfl
 |s::r,c,z,g=>by
  show aS (z.nl 0) (c.no 0 s)::((c.put 0 s).ts r).2.map (aS (z.nl 0))=s::r;rw[JF r g,iG ((Gr.ts r _).trans g)]
theorem Qc:∀(l:A (Bs × To)){c z:Cont},(∀p∈l,qF p.2)->Gr (c.sc l).1 z->(c.sc l).2.map (λq=>aS (z.nl 2) q.obj)=l.map Prod.fst/\(c.sc l).2.map (λq=>pG (z.nl 0) q.v)=l.map Prod.snd
 |[],_,_,_,_=>⟨rfl,rfl⟩
 |p::r,c,z,hp,g=>by
  obtain⟨h1,h2⟩:=Qc r (λq hq=>hp q (iJ _ hq)) g;have g1:=(Gr.sc r ((c.put 2 p.1).bR p.2).1).trans g
  constructor
  .show aS (z.nl 2) (c.no 2 p.1)::_=p.1::_
   rw[h1,iG ((Gr.bR _ p.2).trans g1)]
  .show pG (z.nl 0) ((c.put 2 p.1).bR p.2).2::_=p.2::_
   rw[h2,Qb (hp p pY) g1]
structure mE (c z:Cont)(e d m q:A aP):Prop where
 e:lsE z=lsE c++e
 d:lsD z=lsD c++d
 m:lsM z=lsM c++m
 q:lsQ z=lsQ c++q
theorem mE.gP {c y:Cont}(h:iU c)(g:Gr c y)(n:Nm c y)(e:EvC)(l:A Sn)(x:aP)(hx:qx (y.ev e l) e l=x):mE c (y.ev e l) [x] [] [] []:=by
 have g2:=g.trans (Gr.ev y e l);refine⟨?_,?_,?_,?_⟩
 .show((y.E++[e]).zip (y.SE++[l])).map _=_
  rw[n.e,n.se,zn h.le,gK,Hz h g2,wR,hx]
 .show(y.D.zip y.SD).map _=_
  rw[n.d,n.sd,fw];exact H9 h g2
 .show(y.M.zip y.SM).map _=_
  rw[n.m,n.sm,fw];exact Ia h g2
 .show y.Q.map _=_
  rw[n.q,fw];exact Ib h g2
def uV (a b:C)(l:aP):A aP:=if a<=l.kind/\l.kind<=b then [l] else []
theorem qz {a b:C}{l:aP}(h:a<=l.kind/\l.kind<=b):uV a b l=[l]:=ay h
theorem iV {a b:C}{l:aP}(h:¬(a<=l.kind/\l.kind<=b)):uV a b l=[]:=ak h
theorem mE.add {c:Cont}(h:iU c){l:aP}(hl:fB l):mE c (aO c l) (uV 1 6 l) (uV 7 7 l) (uV 8 8 l) (uV 9 9 l):=by
 obtain⟨kd,ns,lv,vs,fi,bt⟩:=l;obtain⟨hw,hv,hc⟩:=hl;simp only at hw hv hc;rcases hc with⟨rfl,h1,rfl,⟨lw,rfl,h3,h4⟩,rfl,rfl⟩|⟨rfl,h1,rfl,rfl,rfl,rfl⟩|⟨rfl,h1,h2,rfl,rfl,rfl⟩|⟨rfl,⟨cc,h1,h2,h2'⟩,_,rfl,rfl,rfl⟩|⟨rfl,h1,rfl,rfl,rfl,rfl⟩|⟨rfl,h1,rfl,rfl,rfl,rfl⟩|⟨rfl,⟨cc,h1,h2'⟩,rfl,rfl,rfl,rfl⟩|⟨rfl,⟨cc,h1,h2'⟩,rfl,rfl,_,rfl⟩|⟨rfl,h1,rfl,rfl,rfl,⟨bb,rfl,h5⟩⟩
 .obtain⟨a,b,rfl⟩:=DC h1
  have g:=N (c.put 0 a) 1 b;refine mE.gP h ((N c 0 a).trans g) ((Nm.put c 0 a).trans (Nm.put _ 1 b)) _ _ _ ?_;show(⟨1,[aS (((c.put 0 a).put 1 b).nl 0) (c.no 0 a),aS (((c.put 0 a).put 1 b).nl 1) ((c.put 0 a).no 1 b)],_,[],O,0⟩:aP)=_;rw[iG g,iG (Gr.refl _)]
 .obtain⟨a,b,rfl⟩:=DC h1
  have g:=N (c.put 0 a) 2 b;refine mE.gP h ((N c 0 a).trans g) ((Nm.put c 0 a).trans (Nm.put _ 2 b)) _ _ _ ?_;show(⟨2,[aS (((c.put 0 a).put 2 b).nl 0) (c.no 0 a),aS (((c.put 0 a).put 2 b).nl 2) ((c.put 0 a).no 2 b)],_,[],O,0⟩:aP)=_;rw[iG g,iG (Gr.refl _)]
 .obtain⟨a,b,rfl⟩:=DC h1
  obtain⟨v,rfl⟩:=zV h2;have hvv:=hv v au;have g1:=Gr.bR ((c.put 0 a).put 2 b) v;have g:=(N (c.put 0 a) 2 b).trans g1;refine mE.gP h ((N c 0 a).trans g) (((Nm.put c 0 a).trans (Nm.put _ 2 b)).trans (Nm.bR _ v)) _ _ _ ?_;show(⟨3,[aS ((((c.put 0 a).put 2 b).bR v).1.nl 0) (c.no 0 a),aS ((((c.put 0 a).put 2 b).bR v).1.nl 2) ((c.put 0 a).no 2 b)],_,[pG ((((c.put 0 a).put 2 b).bR v).1.nl 0) (((c.put 0 a).put 2 b).bR v).2],O,0⟩:aP)=_;rw[iG g,iG g1,Qb hvv (Gr.refl _)]
 .match ns,h1 with
  |a::b::ns,h1=>
  have hz:∀p∈ns.zip vs,qF p.2:=λp hp=>hv _ (List.of_mem_zip hp).2
  have hlen:ns.length=vs.length:=by simp only[jd] at h1;omega
  have g1:=Gr.sc (ns.zip vs) ((c.put 0 a).put 3 b);have g:=(N (c.put 0 a) 3 b).trans g1;refine mE.gP h ((N c 0 a).trans g) (((Nm.put c 0 a).trans (Nm.put _ 3 b)).trans (Nm.sc (ns.zip vs) _)) _ _ _ ?_;obtain⟨h6,h7⟩:=Qc (ns.zip vs) hz (Gr.refl (((c.put 0 a).put 3 b).sc (ns.zip vs)).1);show(⟨4,[aS ((((c.put 0 a).put 3 b).sc (ns.zip vs)).1.nl 0) (c.no 0 a),aS ((((c.put 0 a).put 3 b).sc (ns.zip vs)).1.nl 3) ((c.put 0 a).no 3 b)]++(((c.put 0 a).put 3 b).sc (ns.zip vs)).2.map (λq=>aS ((((c.put 0 a).put 3 b).sc (ns.zip vs)).1.nl 2) q.obj),_,(((c.put 0 a).put 3 b).sc (ns.zip vs)).2.map (λq=>pG ((((c.put 0 a).put 3 b).sc (ns.zip vs)).1.nl 0) q.v),O,0⟩:aP)=_;rw[h6,h7,iG g,iG g1,List.map_fst_zip ah,List.map_snd_zip ah]
  rfl
 .obtain⟨a,rfl⟩:=zV h1
  refine mE.gP h (N c 0 a) (Nm.put c 0 a) _ _ _ ?_;show(⟨5,[aS ((c.put 0 a).nl 0) (c.no 0 a)],_,[],O,0⟩:aP)=_;rw[iG (Gr.refl _)]
 .obtain⟨a,rfl⟩:=zV h1
  refine mE.gP h (N c 0 a) (Nm.put c 0 a) _ _ _ ?_;show(⟨6,[aS ((c.put 0 a).nl 0) (c.no 0 a)],_,[],O,0⟩:aP)=_;rw[iG (Gr.refl _)]
 .match ns,h1 with
  |a::ns,h1=>
  have g1:=Gr.ts ns (c.put 2 a);have g:=(N c 2 a).trans g1;have n:=(Nm.put c 2 a).trans (Nm.ts ns (c.put 2 a));rw[iV au,qz au,iV au,iV au];obtain⟨y,hy⟩:∃y,y=((c.put 2 a).ts ns).1:=⟨_,rfl⟩;obtain⟨r,hr⟩:∃r,r=((c.put 2 a).ts ns).2:=⟨_,rfl⟩;have e0:aO c ⟨7,a::ns,0,[],O,0⟩={y with D:=c.D++[⟨c.no 2 a,G,0,0⟩],SD:=c.SD++[r]}:=by rw[hy,hr];rfl
  have h6:r.map (aS (y.nl 0))=ns:=by rw[hy,hr];exact JF ns (Gr.refl _)
  have h7:aS (y.nl 2) (c.no 2 a)=a:=by rw[hy];exact iG g1
  rw[<-hy] at g n;have g2:Gr c {y with D:=c.D++[⟨c.no 2 a,G,0,0⟩],SD:=c.SD++[r]}:=⟨g.n,g.e,fP _ _,g.m,g.q⟩;rw[e0];refine⟨?_,?_,?_,?_⟩
  .exact(dF (List.map _) (congr (dF List.zip n.e) n.se)).trans ((Hz h g2).trans (fw _).symm)
  .show((c.D++[_]).zip (c.SD++[r])).map _=_
   rw[zn h.ld,gK,H9 h g2,wR];show _++[(⟨7,[aS (y.nl 2) (c.no 2 a)]++r.map (aS (y.nl 0)),0,[],O,0⟩:aP)]=_;rw[h6,h7];rfl
  .exact(dF (List.map _) (congr (dF List.zip n.m) n.sm)).trans ((Ia h g2).trans (fw _).symm)
  .exact(dF (List.map _) n.q).trans ((Ib h g2).trans (fw _).symm)
 .match ns,h1 with
  |a::b::ns,h1=>
  have g1:=Gr.ts ns ((c.put 3 a).put 2 b);have g3:=(N (c.put 3 a) 2 b).trans g1;have g:=(N c 3 a).trans g3;have n:=((Nm.put c 3 a).trans (Nm.put (c.put 3 a) 2 b)).trans (Nm.ts ns _);rw[iV au,iV au,qz au,iV au];obtain⟨y,hy⟩:∃y,y=(((c.put 3 a).put 2 b).ts ns).1:=⟨_,rfl⟩;obtain⟨r,hr⟩:∃r,r=(((c.put 3 a).put 2 b).ts ns).2:=⟨_,rfl⟩;have e0:aO c ⟨8,a::b::ns,0,[],fi,0⟩={y with M:=c.M++[⟨c.no 3 a,(c.put 3 a).no 2 b,fi,G,0,0⟩],SM:=c.SM++[r]}:=by rw[hy,hr];rfl
  have h6:r.map (aS (y.nl 0))=ns:=by rw[hy,hr];exact JF ns (Gr.refl _)
  have h7:aS (y.nl 3) (c.no 3 a)=a:=by rw[hy];exact iG g3
  have h8:aS (y.nl 2) ((c.put 3 a).no 2 b)=b:=by rw[hy];exact iG g1
  rw[<-hy] at g n;have g2:Gr c {y with M:=c.M++[⟨c.no 3 a,(c.put 3 a).no 2 b,fi,G,0,0⟩],SM:=c.SM++[r]}:=⟨g.n,g.e,g.d,fP _ _,g.q⟩;rw[e0];refine⟨?_,?_,?_,?_⟩
  .exact(dF (List.map _) (congr (dF List.zip n.e) n.se)).trans ((Hz h g2).trans (fw _).symm)
  .exact(dF (List.map _) (congr (dF List.zip n.d) n.sd)).trans ((H9 h g2).trans (fw _).symm)
  .show((c.M++[_]).zip (c.SM++[r])).map _=_
   rw[zn h.lm,gK,Ia h g2,wR];show _++[(⟨8,[aS (y.nl 3) (c.no 3 a),aS (y.nl 2) ((c.put 3 a).no 2 b)]++r.map (aS (y.nl 0)),0,[],fi,0⟩:aP)]=_;rw[h6,h7,h8];rfl
  .exact(dF (List.map _) n.q).trans ((Ib h g2).trans (fw _).symm)
 .obtain⟨a,rfl⟩:=zV h1
  rw[iV au,iV au,iV au,qz au];have e0:aO c ⟨9,[a],0,[],O,(bb:C)⟩={c.put 1 a with Q:=c.Q++[⟨c.no 1 a,(bb:C)⟩]}:=rfl;have g:=N c 1 a;have g2:Gr c {c.put 1 a with Q:=c.Q++[⟨c.no 1 a,(bb:C)⟩]}:=⟨g.n,g.e,g.d,g.m,fP _ _⟩;rw[e0];refine⟨?_,?_,?_,?_⟩
  .exact(Hz (c:=c) h g2).trans (fw _).symm
  .exact(H9 (c:=c) h g2).trans (fw _).symm
  .exact(Ia (c:=c) h g2).trans (fw _).symm
  .show(c.Q++[_]).map _=_
   rw[gK,Ib h g2,wR];show _++[(⟨9,[aS ((c.put 1 a).nl 1) (c.no 1 a)],0,[],O,(bb:C)⟩:aP)]=_;rw[iG (Gr.refl _)]
theorem mE.trans {c y z:Cont}{e d m q e' d' m' q':A aP}(h:mE c y e d m q)(k:mE y z e' d' m' q'):mE c z (e++e') (d++d') (m++m') (q++q'):=
 ⟨by rw[k.e,h.e,eG],by rw[k.d,h.d,eG],by rw[k.m,h.m,eG],by rw[k.q,h.q,eG]⟩
theorem mE.refl (c:Cont):mE c c [] [] [] []:=⟨by rw[fw],by rw[fw],by rw[fw],by rw[fw]⟩
theorem mE.all:∀(ls:A aP){c:Cont},iU c->(∀l∈ls,l.kind=0\/fB l)->aI (qy c ls)->mE c (qy c ls) (ls.flatMap (uV 1 6)) (ls.flatMap (uV 7 7)) (ls.flatMap (uV 8 8)) (ls.flatMap (uV 9 9))
 |[],c,_,_,_=>mE.refl c
 |l::ls,c,h,hl,hf=>by
  have h2:=λx hx=>hl x (iJ l hx)
  rw[qP,qP,qP,qP];rcases hl l pY with h0|h0
  .have e:qy c (l::ls)=qy c ls:=by show qy (aO c l) ls=_;rw[P9 h0]
   rw[e] at hf ⊢;rw[iV ah,iV ah,iV ah,iV ah];exact mE.all ls h h2 hf
  .have hs:=h.add h0 ((Gr.all ls _).fits hf)
   exact(mE.add h h0).trans (mE.all ls hs h2 hf)
def Adds (f:Cont->Cont)(S:I->Bs->Prop):Prop:=∀c,(∀i x,x∈(f c).nl i↔x∈c.nl i\/S i x)/\((∀i,(c.nl i).Nodup)->∀i,((f c).nl i).Nodup)
theorem Adds.put (j:I)(s:Bs):Adds (λc=>c.put j s) (λi x=>i=j/\x=s):=λc=>by
 constructor
 .intro i x
  show x∈(if i=j then cZ (c.nl j) s else c.nl i)↔_
  split
  .rename_i h
   subst h
   constructor
   .intro h
    unfold cZ at h
    split at h
    .exact .inl h
    .rcases bJ.1 h with h|h
     .exact .inl h
     .exact .inr ⟨rfl,bF.1 h⟩
   .rintro(h|⟨_,rfl⟩)
    .exact(Jl _ _).subset h
    .exact EN _ _
  .rename_i h
   simp[h]
 .intro hn i
  show(if i=j then cZ (c.nl j) s else c.nl i).Nodup
  split
  .exact Ev (hn j)
  .exact hn i
theorem Adds.id:Adds (λc=>c) (λ_ _=>False):=λc=>⟨λi x=>by simp,λh=>h⟩
theorem Adds.comp {f g:Cont->Cont}{S T:I->Bs->Prop}(h:Adds f S)(k:Adds g T):Adds (λc=>g (f c)) (λi x=>S i x\/T i x):=λc=>
 ⟨λi x=>by rw[((k (f c)).1 i x),((h c).1 i x),or_assoc],λhn=>(k (f c)).2 ((h c).2 hn)⟩
theorem Adds.eq {f g:Cont->Cont}{S:I->Bs->Prop}(h:Adds f S)(e:∀c i,(g c).nl i=(f c).nl i):Adds g S:=λc=>
 ⟨λi x=>by rw[e];exact(h c).1 i x,λhn i=>by rw[e];exact(h c).2 hn i⟩
theorem Adds.bR (v:To):∃S,Adds (λc=>(c.bR v).1) S:=by
 by_cases hk:v.k=0
 .exact⟨_,Adds.id.eq (λc i=>by unfold Cont.bR;rw[ay hk])⟩
 .exact⟨_,(Adds.put 0 v.name).eq (λc i=>by unfold Cont.bR;rw[ak hk])⟩
theorem Adds.ts:∀l:A Bs,∃S,Adds (λc=>(c.ts l).1) S
 |[]=>⟨_,Adds.id⟩
 |s::r=>by
  obtain⟨S,h⟩:=Adds.ts r;exact⟨_,(Adds.put 0 s).comp h⟩
theorem Adds.sc:∀l:A (Bs × To),∃S,Adds (λc=>(c.sc l).1) S
 |[]=>⟨_,Adds.id⟩
 |p::r=>by
  obtain⟨S,h⟩:=Adds.sc r;obtain⟨T,k⟩:=Adds.bR p.2;exact⟨_,((Adds.put 2 p.1).comp k).comp h⟩
theorem Adds.add (l:aP):∃S,Adds (λc=>aO c l) S:=by
 obtain⟨S1,k1⟩:=Adds.bR (l.aF.getD 0 ⟨[],0⟩);obtain⟨S2,k2⟩:=Adds.sc ((l.names.drop 2).zip l.aF);obtain⟨S3,k3⟩:=Adds.ts (l.names.drop 1);obtain⟨S4,k4⟩:=Adds.ts (l.names.drop 2);unfold aO;simp only[]
 split
 .exact⟨_,((Adds.put 0 _).comp (Adds.put 1 _)).eq (λc i=>rfl)⟩
 .split
  .exact⟨_,((Adds.put 0 _).comp (Adds.put 2 _)).eq (λc i=>rfl)⟩
  .split
   .exact⟨_,(((Adds.put 0 _).comp (Adds.put 2 _)).comp k1).eq (λc i=>rfl)⟩
   .split
    .exact⟨_,(((Adds.put 0 _).comp (Adds.put 3 _)).comp k2).eq (λc i=>rfl)⟩
    .split
     .exact⟨_,(Adds.put 0 _).eq (λc i=>rfl)⟩
     .split
      .exact⟨_,((Adds.put 2 _).comp k3).eq (λc i=>rfl)⟩
      .split
       .exact⟨_,(((Adds.put 3 _).comp (Adds.put 2 _)).comp k4).eq (λc i=>rfl)⟩
       .split
        .exact⟨_,(Adds.put 1 _).eq (λc i=>rfl)⟩
        .exact⟨_,Adds.id⟩
def Says (l:aP)(i:I)(x:Bs):Prop:=x∈(aO jh l).nl i
theorem Says.zero {l:aP}(h:l.kind=0)(i:I)(x:Bs):¬Says l i x:=λk=>by
 unfold Says at k;rw[P9 h] at k
 cases k
def Gw (c:Cont):Prop:=∀e∈c.E,bC e.t (c.nl 0).length=U/\(e.kind=2->bC e.obj (c.nl 2).length=U)
def BQ (c:Cont)(e:EvC):C × Bs × Bs:=(e.kind,aS (c.nl 0) e.t,if e.kind=2 then aS (c.nl 2) e.obj else [])
def Lh (l:aP):C × Bs × Bs:=(l.kind,l.names.getD 0 [],if l.kind=2 then l.names.getD 1 [] else [])
def keys (c:Cont):A (C × Bs × Bs):=c.E.map (BQ c)
theorem ad9 {c z:Cont}(g:Gr c z){e:EvC}(h:bC e.t (c.nl 0).length=U/\(e.kind=2->bC e.obj (c.nl 2).length=U)):BQ z e=BQ c e:=by
 unfold BQ;rw[kJ (g.n 0) h.1];by_cases hk:e.kind=2
 .rw[ay hk,ay hk,kJ (g.n 2) (h.2 hk)]
 .rw[ak hk,ak hk]
theorem Gw.grow {c z:Cont}(h:Gw c)(g:Gr c z)(n:z.E=c.E):Gw z/\keys z=keys c:=by
 constructor
 .intro e he
  rw[n] at he;exact⟨dA (h e he).1 (g.len 0),λhk=>dA ((h e he).2 hk) (g.len 2)⟩
 .unfold keys
  rw[n];exact wQ (λe he=>ad9 g (h e he))
theorem Gw.gP {c y:Cont}(h:Gw c)(g:Gr c y)(n:Nm c y)(e:EvC)(s:A Sn)(ht:bC e.t (y.nl 0).length=U)(ho:e.kind=2->bC e.obj (y.nl 2).length=U){k:C × Bs × Bs}(hk:BQ y e=k):
  Gw (y.ev e s)/\keys (y.ev e s)=keys c++[k]:=by
 obtain⟨h1,h2⟩:=h.grow g n.e
 constructor
 .intro x hx
  rcases bJ.1 hx with hx|hx
  .exact h1 x hx
  .rw[bF.1 hx];exact⟨ht,ho⟩
 .show(y.E++[e]).map (BQ y)=_
  rw[gK,wR,hk];exact dF (·++[k]) h2
theorem Gw.zero:Gw jh:=λe he=>by cases he
theorem Gw.add {c:Cont}(h:Gw c)(l:aP):Gw (aO c l)/\keys (aO c l)=keys c++(uV 1 6 l).map Lh:=by
 unfold aO;simp only[]
 split
 .rename_i hk
  rw[qz ah,wR];refine h.gP ((N c 0 _).trans (N _ 1 _)) ((Nm.put c 0 _).trans (Nm.put _ 1 _)) _ _ (dA (iq c 0 _) ((N _ 1 _).len 0)) (λk=>by cases k) ?_;unfold BQ Lh;rw[iG (N _ 1 _),hk];rfl
 .split
  .rename_i hk
   rw[qz ah,wR];refine h.gP ((N c 0 _).trans (N _ 2 _)) ((Nm.put c 0 _).trans (Nm.put _ 2 _)) _ _ (dA (iq c 0 _) ((N _ 2 _).len 0)) (λ_=>iq _ 2 _) ?_;unfold BQ Lh;rw[iG (N _ 2 _),iG (Gr.refl _),hk]
  .split
   .rename_i hk
    rw[qz ah,wR];have g:=(N (c.put 0 (l.names.getD 0 [])) 2 (l.names.getD 1 [])).trans (Gr.bR _ (l.aF.getD 0 ⟨[],0⟩));refine h.gP ((N c 0 _).trans g) (((Nm.put c 0 _).trans (Nm.put _ 2 _)).trans (Nm.bR _ _)) _ _ (dA (iq c 0 _) (g.len 0)) (λk=>by cases k) ?_;unfold BQ Lh;rw[iG g,hk];rfl
   .split
    .rename_i hk
     rw[qz ah,wR];have g:=(N (c.put 0 (l.names.getD 0 [])) 3 (l.names.getD 1 [])).trans (Gr.sc ((l.names.drop 2).zip l.aF) _);refine h.gP ((N c 0 _).trans g) (((Nm.put c 0 _).trans (Nm.put _ 3 _)).trans (Nm.sc _ _)) _ _ (dA (iq c 0 _) (g.len 0)) (λk=>by cases k) ?_;unfold BQ Lh;rw[iG g,hk];rfl
    .split
     .rename_i h2 _ _ hk
      rw[qz ah,wR];refine h.gP (N c 0 _) (Nm.put c 0 _) _ _ (iq c 0 _) (λk=>absurd k h2) ?_;unfold BQ Lh;rw[iG (Gr.refl _)];simp only[ak h2]
     .split
      .rw[iV ah,mU,fw]
       have g:=(N c 2 (l.names.getD 0 [])).trans (Gr.ts (l.names.drop 1) _);exact h.grow ⟨g.n,g.e,fP _ _,g.m,g.q⟩ ((Nm.put c 2 _).trans (Nm.ts _ _)).e
      .split
       .rw[iV ah,mU,fw]
        have g:=((N c 3 (l.names.getD 0 [])).trans (N _ 2 (l.names.getD 1 []))).trans (Gr.ts (l.names.drop 2) _);exact h.grow ⟨g.n,g.e,g.d,fP _ _,g.q⟩ (((Nm.put c 3 _).trans (Nm.put _ 2 _)).trans (Nm.ts _ _)).e
       .split
        .rw[iV ah,mU,fw]
         have g:=N c 1 (l.names.getD 0 []);exact h.grow ⟨g.n,g.e,g.d,g.m,fP _ _⟩ rfl
        .rw[iV ah,mU,fw]
         exact⟨h,rfl⟩
theorem EQ.symm {a b:Cont}(h:EQ a b):EQ b a:=⟨λi hi=>(h.n i hi).symm,h.E.symm,h.SE.symm,h.D.symm,h.SD.symm,h.M.symm,h.SM.symm,h.Q.symm⟩
theorem EQ.trans {a b c:Cont}(h:EQ a b)(k:EQ b c):EQ a c:=⟨λi hi=>(h.n i hi).trans (k.n i hi),h.E.trans k.E,h.SE.trans k.SE,h.D.trans k.D,h.SD.trans k.SD,h.M.trans k.M,h.SM.trans k.SM,h.Q.trans k.Q⟩
def x9 (c:Cont):Bool:=
 (List.range 4).all (λi=>decide ((c.nl i).length<=jB i)) && decide (c.E.length<=3000) && decide (c.D.length<=3000) && decide (c.M.length<=3000) && decide (c.Q.length<=3000) && c.E.all (λe=>decide (e.kind=2->e.v.k<=999))
theorem nX (c:Cont):x9 c=U↔aI c:=by
 unfold x9 aI;simp only[aU,bf,jc,wT,and_assoc]
def uO (c:Cont):I->A aP->Except (I × C) Cont
 |_,[]=> .ok c
 |i,l::ls=>if nS l=U then(if x9 (aO c l)=U then uO (aO c l) (i+1) ls else .error (i,6)) else .error (i,220)
theorem SQ:∀(ls:A aP)(c:Cont)(i:I)(z:Cont),uO c i ls= .ok z->z=qy c ls/\(∀l∈ls,nS l=U)/\(aI c->aI (qy c ls))
 |[],c,i,z,h=>by
  injection h with h;exact⟨h.symm,λl hl=>(by cases hl),λh=>h⟩
 |l::ls,c,i,z,h=>by
  unfold uO at h
  split at h
  .rename_i hl
   split at h
   .rename_i hf
    obtain⟨h1,h2,h3⟩:=SQ ls (aO c l) (i+1) z h;refine⟨h1,λx hx=>?_,λ_=>h3 ((nX _).1 hf)⟩;rcases dP.1 hx with rfl|hx
    .exact hl
    .exact h2 x hx
   .cases h
  .cases h
theorem Gg:aI jh:=⟨λ_ _=>aV _,aV _,aV _,aV _,aV _,λe he=>by cases he⟩
theorem SF:∀(ls:A aP)(c:Cont)(i j:I)(e:C),uO c i ls= .error (j,e)->∃k l,j=i+k/\ls[k]?=H l/\(∀x∈ls.take k,nS x=U)/\((e=220/\nS l=O)\/(e=6/\nS l=U/\¬aI (qy c (ls.take (k+1)))))
 |[],_,_,_,_,h=>by cases h
 |l::ls,c,i,j,e,h=>by
  unfold uO at h
  split at h
  .rename_i hl
   split at h
   .obtain⟨k,l',h1,h2,h3,h4⟩:=SF ls (aO c l) (i+1) j e h
    refine⟨k+1,l',by omega,by rw[List.getElem?_cons_succ];exact h2,λx hx=>?_,h4⟩;rw[List.take_succ_cons] at hx;rcases dP.1 hx with rfl|hx
    .exact hl
    .exact h3 x hx
   .rename_i hf
    injection h with h;injection h with h1 h2;exact⟨0,l,by omega,rfl,λx hx=>(by cases hx),.inr ⟨h2.symm,hl,λk=>hf ((nX _).2 k)⟩⟩
  .rename_i hl
   injection h with h;injection h with h1 h2;exact⟨0,l,by omega,rfl,λx hx=>(by cases hx),.inl ⟨h2.symm,Bool.eq_false_iff.2 hl⟩⟩
theorem XP {ls:A aP}(h:∀l∈ls,nS l=U):∀l∈ls,l.kind=0\/fB l:=λl hl=>Bv (h l hl)
theorem XQ {ls:A aP}{z:Cont}(h:uO jh 0 ls= .ok z):iU z/\mZ z/\kE z/\aI z/\z=qy jh ls:=by
 obtain⟨rfl,h2,h3⟩:=SQ ls jh 0 z h;have hf:=h3 Gg;exact⟨iU.zero.all ls (XP h2) hf,mZ.zero.all ls,kE.zero.all ls,hf,rfl⟩
def Moved (w0 X:Z)(F:C->A C)(pre:A (C × J)):Prop:=
 ∀g cs T fz,w0.1[g]?=H (.cells cs T fz)->∃cs':Array Value,X.1[g]?=H (.cells cs' T fz)/\cs'.size=cs.size/\
  (∀j,(∀s,(s,(⟨g,j,G⟩:J))∉pre)->cs'[j]?=cs[j]?)/\(∀j s n,(s,(⟨g,j,G⟩:J))∈pre->cs[j]?=H (.int W n)->cs'[j]?=H (.int W (dh (F s) n)))
theorem Moved.start {w0 X:Z}{F:C->A C}(s:Same (λi=>i<w0.1.size) w0 X):Moved w0 X F []:=λg cs T fz h=>
 ⟨cs,(s.block g (dI.1 h).1 (dI.1 h).1).trans h,rfl,λ_ _=>rfl,λ_ _ _ h=>(by cases h)⟩
theorem Moved.same {w0 X Y:Z}{F:C->A C}{pre:A (C × J)}(h:Moved w0 X F pre)(s:Same (λi=>i<w0.1.size) X Y):Moved w0 Y F pre:=λg cs T fz hg=>
 (let⟨cs',h1,h2⟩:=h g cs T fz hg;⟨cs',(s.block g (dI.1 hg).1 (dI.1 h1).1).trans h1,h2⟩)
theorem cell_of {w:Z}{g j:I}{v:Value}(h:w.cell? ⟨g,j,G⟩=H v):∃cs T fz,w.1[g]?=H (.cells cs T fz)/\cs[j]?=H v:=by
 unfold World.cell? at h
 split at h
 .rename_i cs T fz hg
  exact⟨cs,T,fz,hg,by simpa using h⟩
 .cases h
theorem of_cell {w:Z}{g j:I}{v:Value}{cs:Array Value}{T:TypeId}{fz:I × I}(h:w.1[g]?=H (.cells cs T fz))(hj:cs[j]?=H v):w.cell? ⟨g,j,G⟩=H v:=by
 unfold World.cell?;simp[h,hj]
theorem Moved.cell {w0 X:Z}{F:C->A C}{pre:A (C × J)}(h:Moved w0 X F pre){g j:I}{v:Value}(hc:w0.cell? ⟨g,j,G⟩=H v)(hn:∀s,(s,(⟨g,j,G⟩:J))∉pre):X.cell? ⟨g,j,G⟩=H v:=by
 obtain⟨cs,T,fz,hg,hj⟩:=cell_of hc;obtain⟨cs',h1,h2,h3,h4⟩:=h g cs T fz hg;exact of_cell h1 ((h3 j hn).trans hj)
theorem Moved.step {w0 X:Z}{F:C->A C}{pre:A (C × J)}(h:Moved w0 X F pre){s:C}{g j:I}{n v:C}(hn:∀s',(s',(⟨g,j,G⟩:J))∉pre)(hc:w0.cell? ⟨g,j,G⟩=H (.int W n))(hv:v=dh (F s) n):
  Moved w0 (X.setCell ⟨g,j,G⟩ (.int W v)) F (pre++[(s,(⟨g,j,G⟩:J))]):=λg' cs T fz hg=>by
 obtain⟨cs',h1,h2,h3,h4⟩:=h g' cs T fz hg;by_cases e:g'=g
 .subst e
  refine⟨cs'.setIfInBounds j (.int W v),bT h1 _,by rw[Array.size_setIfInBounds];exact h2,λq hq=>?_,λq s' m hq hm=>?_⟩
  .have hne:j≠q:=λe=>hq s (by rw[e];simp)
   rw[jO hne];exact h3 q (λs' hs'=>hq s' (nP _ hs'))
  .obtain⟨cs2,T2,fz2,hg2,hj2⟩:=cell_of hc
   rw[hg] at hg2;injection hg2 with hg2;injection hg2 with q1 q2 q3;subst q1;have hlt:j<cs'.size:=by rw[h2];exact(dI.1 hj2).1
   rcases bJ.1 hq with hq|hq
   .have hne:j≠q:=λe=>by subst e;exact hn s' hq
    rw[jO hne];exact h4 q s' m hq hm
   .have hq:=bF.1 hq
    injection hq with e1 e2;injection e2 with _ e2 _;subst e1 e2;rw[hj2] at hm;injection hm with hm;injection hm with _ hm;rw[vQ hlt,hv,hm]
 .refine⟨cs',by rw[Below.heap_setCell _ _ _ _ (by exact e)];exact h1,h2,λq hq=>h3 q (λs' hs'=>hq s' (nP _ hs')),λq s' m hq hm=>?_⟩
  rcases bJ.1 hq with hq|hq
  .exact h4 q s' m hq hm
  .have hq:=bF.1 hq
   injection hq with _ e2;injection e2 with e2 _ _;exact absurd e2 e
theorem Own.moved {α:Type}{enc:α->A Value}{k:I}[hc:Cells enc k]{w0 X:Z}{B:I}{T:TypeId}{v:Value}{xs ys:A α}{F:C->A C}{items:A (C × J)}(h:Own w0 B T k enc v xs)(hM:Moved w0 X F items)(hlen:ys.length=xs.length)
  (hcell:∀g,v.ownBlock=H g->∀i x y j u,xs[i]?=H x->ys[i]?=H y->(enc x)[j]?=H u->((enc y)[j]?=H u/\∀s,(s,(⟨g,i*k+j,G⟩:J))∉items)\/(∃s n,(s,(⟨g,i*k+j,G⟩:J))∈items/\u= .int W n/\(enc y)[j]?=H (.int W (dh (F s) n)))):
  Own X B T k enc v ys:=by
 obtain⟨h1,h2⟩:=h;refine⟨zk _,?_⟩;rcases h2 with⟨e,h0⟩|⟨g,cap,cur,e,hB,hh,hn,hm,hs,ht⟩
 .exact .inl ⟨e,hlen.trans h0⟩
 .obtain⟨cs',k1,k2,k3,k4⟩:=hM g cur T _ hh
  refine .inr ⟨g,cap,cs',by rw[e,hlen],hB,k1,by rw[hlen];exact hn,hm,k2.trans hs,?_⟩;have xK:v.ownBlock=H g:=by rw[e];rfl
  rw[hlen]
  apply Eb
  intro q;have hle:xs.length*k<=cs'.size:=by rw[k2,hs];exact Nat.mul_le_mul_right _ hn
  by_cases hq:q<xs.length*k
  .rw[AB,ay hq]
   have hk:=hc.pos;have hi:q / k<xs.length:=(Nat.div_lt_iff_lt_mul hk).2 hq;have hj:q % k<k:=Nat.mod_lt _ hk;have hqe:q / k*k+q % k=q:=by rw[Eg];exact Nat.div_add_mod q k
   obtain⟨x,hx⟩:∃x,xs[q / k]?=H x:=⟨_,eu hi⟩;obtain⟨y,hy⟩:∃y,ys[q / k]?=H y:=⟨_,eu ah⟩;obtain⟨u,hu⟩:∃u,(enc x)[q % k]?=H u:=⟨_,eu (by rw[hc.len];exact hj)⟩;have hold:cur[q]?=H u:=by
    have:=flat_get (hc:=hc) xs _ _ _ _ hx hu;rw[hqe,<-ht,AB,ay hq] at this
    simpa using this
   have hnew:∀u',(enc y)[q % k]?=H u'->(ys.flatMap enc)[q]?=H u':=λu' hu'=>by
    have:=flat_get (hc:=hc) ys _ _ _ _ hy hu';rw[hqe] at this;exact this
   have hh:=hcell g xK (q / k) x y (q % k) u hx hy hu;rw[hqe] at hh;rcases hh with⟨e1,e2⟩|⟨s,n,e1,e2,e3⟩
   .rw[hnew u e1,Array.getElem?_toList,k3 q e2,hold]
   .subst e2
    rw[hnew _ e3,Array.getElem?_toList,k4 q s n e1 hold]
  .rw[AB,ak hq,wP (by rw[zk (hc:=hc),hlen];omega)]
def Ty (X:Z)(g:I)(T:TypeId):Prop:=∃cs fz,X.1[g]?=H (.cells cs T fz)
theorem Ty.ne {X:Z}{g g':I}{T T':TypeId}(h:Ty X g T)(h':Ty X g' T')(hT:T≠T'):g≠g':=by
 rintro rfl;obtain⟨_,_,e1⟩:=h;obtain⟨_,_,e2⟩:=h';rw[e1] at e2
 cases e2
 exact hT rfl
theorem Own.yF {α:Type}{enc:α->A Value}{k:I}{X:Z}{B:I}{T:TypeId}{a:Option J}{n c:I}{xs:A α}(h:Own X B T k enc (V a n c) xs):
  (a=G/\xs=[])\/∃g,a=H ⟨g,0,G⟩/\n=xs.length/\Ty X g T/\B<=g:=by
 obtain⟨h1,h2⟩:=h;rcases h2 with⟨he,h0⟩|⟨g,cap,cur,he,hB,hh,hn',_,hs,ht⟩
 .injection he with e1 _ _
  exact .inl ⟨e1,AA h0⟩
 .injection he with e1 e2 e3
  exact .inr ⟨g,e1,e2,⟨_,_,hh⟩,hB⟩
theorem Own.cells {α:Type}{enc:α->A Value}{k:I}[hc:Cells enc k]{X:Z}{B:I}{T:TypeId}{g n c:I}{xs:A α}(h:Own X B T k enc (V (H ⟨g,0,G⟩) n c) xs){i j:I}{x:α}{v:Value}(hx:xs[i]?=H x)(hv:(enc x)[j]?=H v):X.cell? ⟨g,i*k+j,G⟩=H v:=by
 have hi:=(bG.1 hx).1;obtain⟨h1,h2⟩:=h;have hn:0<n:=by
  rcases h2 with⟨he,h0⟩|⟨g,cap,cur,he,_⟩
  .cases he
  .injection he with _ e2 _
   omega
 obtain⟨g',cur,e,hbg,_,_,_,hcur⟩:=Own.open_ (hc:=hc) (⟨h1,h2⟩:Own X B T k enc (V (H ⟨g,0,G⟩) n c) xs) hn;injection e with e;injection e with e;subst e;exact(hbg.1 _).trans (hcur i x j v hx hv)
structure Lay (X:Z)(B:I)(h:HC)(es:A EvC)(ds:A aM)(ms:A aN)(qs:A Wa)(scan:EvC->A Sn)(dn:aM->A C)(mn:aN->A C):Prop where
 oe:Own X B 47 9 dO h.e.v es
 od:Own X B 74 2 eZ h.d.v ds
 om:Own X B 77 4 eP h.m.v ms
 oq:Own X B 79 2 fQ h.w.v qs
 se:∀x∈es,Own X B 117 3 bS x.val (scan x)
 sd:∀x∈ds,Own X B 3 1 aQ x.val (dn x)
 sm:∀x∈ms,Own X B 3 1 aQ x.val (mn x)
 pe:es.Pairwise (λx y=>∀g,x.val.ownBlock=H g->y.val.ownBlock≠H g)
 pd:ds.Pairwise (λx y=>∀g,x.val.ownBlock=H g->y.val.ownBlock≠H g)
 pm:ms.Pairwise (λx y=>∀g,x.val.ownBlock=H g->y.val.ownBlock≠H g)
 px:∀x∈ds,∀y∈ms,∀g,x.val.ownBlock=H g->y.val.ownBlock≠H g
theorem lY.pair {α β:Type}{B:I}{X:Z}{T:TypeId}{ek:I}{enc:β->A Value}{val:α->Value}{xs:A α}{Ls:A (A β)}(h:lY B X T ek enc val xs Ls xs.length):xs.Pairwise (λx y=>∀g,(val x).ownBlock=H g->(val y).ownBlock≠H g):=by
 rw[GX];intro i j hi hj hij g h1;exact h.2 i j xs[i] xs[j] hij hj (eu hi) (eu hj) g h1
theorem lY.fn {α β:Type}{B:I}{X:Z}{T:TypeId}{ek:I}{enc:β->A Value}[hc:Cells enc ek](hinj:∀x y,enc x=enc y->x=y){val:α->Value}{a:α->Option J}{n q:α->I}(hv:∀x,val x= V (a x) (n x) (q x)){xs:A α}{Ls:A (A β)}(h:lY B X T ek enc val xs Ls xs.length)(hlen:xs.length=Ls.length)
  (hL:∀L∈Ls,L.length<=140737488355328):∃f:α->A β,(∀x∈xs,Own X B T ek enc (val x) (f x))/\xs.map f=Ls:=by
 have key:∀i x,xs[i]?=H x->∃L,Ls[i]?=H L/\Own X B T ek enc (val x) L/\Classical.epsilon (λL=>Row X ek enc (a x) (n x) (q x) L)=L:=λi x hx=>by
  have hi:=(bG.1 hx).1;obtain⟨L,hL'⟩:∃L,Ls[i]?=H L:=⟨_,eu ah⟩;have ho:=h.1 i x L hi hx hL';have ho2:=ho;rw[hv x] at ho2;exact⟨L,hL',ho,Dz (hc:=hc) hinj (ho2.row (hc:=hc) (hL L (bQ hL')))⟩
 refine⟨λx=>Classical.epsilon (λL=>Row X ek enc (a x) (n x) (q x) L),λx hx=>?_,?_⟩
 .obtain⟨i,hi⟩:=u6.1 hx
  obtain⟨L,_,ho,e⟩:=key i x hi;show Own X B T ek enc (val x) (Classical.epsilon λL=>Row X ek enc (a x) (n x) (q x) L);rw[e];exact ho
 .apply Eb
  intro i;rw[lZ]
  cases hx:xs[i]? with
  |none=>rw[Option.map_none,wP (by rw[<-hlen];exact List.getElem?_eq_none_iff.1 hx)]
  |some x=>
   obtain⟨L,hL',_,e⟩:=key i x hx;rw[Option.map_some,hL'];exact dF H e
section
variable {X Y:Z}{B:I}{h:HC}{es:A EvC}{ds:A aM}{ms:A aN}{qs:A Wa}{scan:EvC->A Sn}{dn:aM->A C}{mn:aN->A C}
theorem Lay.same (l:Lay X B h es ds ms qs scan dn mn)(hs:Same (λi=>B<=i) X Y):Lay Y B h es ds ms qs scan dn mn:=
 ⟨l.oe.same hs (λg hg=>(l.oe.lt g hg).1),l.od.same hs (λg hg=>(l.od.lt g hg).1),l.om.same hs (λg hg=>(l.om.lt g hg).1),l.oq.same hs (λg hg=>(l.oq.lt g hg).1),λx hx=>(l.se x hx).same hs (λg hg=>((l.se x hx).lt g hg).1),λx hx=>(l.sd x hx).same hs (λg hg=>((l.sd x hx).lt g hg).1),λx hx=>(l.sm x hx).same hs (λg hg=>((l.sm x hx).lt g hg).1),l.pe,l.pd,l.pm,l.px⟩
theorem Qd {p:J}{v:kZ}(h:qh X p=v.t):(jZ p v).map (jU X)=cO v:=by
 unfold jZ cO jU
 split
 .simp only[lD,mU,h]
 .rfl
theorem uW {a:Option J}{n c:I}{l:A Sn}(ho:Own X B 117 3 bS (V a n c) l):((su a 0 l).map Prod.snd).Nodup/\(∀p∈su a 0 l,Ty X p.2.block 117/\(Value.slice a n c).ownBlock=H p.2.block)/\(su a 0 l).map (jU X)=l.flatMap (λs=>(2,s.obj)::cO s.v):=by
 rcases ho.yF with⟨rfl,rfl⟩|⟨g,rfl,hn,ht,hB⟩
 .exact⟨sD,λp hp=>(by cases hp),rfl⟩
 .refine⟨xg (b:=g) (k:=3) (blk:=λ_=>G) l 0 (λj x hx=>?_) (λx hx=>⟨sD,λp hp=>(by cases hp)⟩) (List.Pairwise.imp (λ_ _ h=>(by cases h)) (List.pairwise_of_forall (R:=λ_ _=>True) (λ_ _=>trivial))),λp hp=>?_,?_⟩
  .rw[bU];exact Oy j x
  .obtain⟨j,x,hx,hp⟩:=(fG l 0 p).1 hp
   rcases hp with hp|hp
   .have:=((Oy (b:=g) (0+j) x).2 p hp).1
    rw[this];exact⟨ht,rfl⟩
   .cases hp
  .refine Bu (jU X) _ l 0 (λj x hx=>?_)
   have h0:=ho.cells (hc:=oJ) hx (j:=0) rfl;have h1:=ho.cells (hc:=oJ) hx (j:=1) rfl;rw[mU,fw,bU];have e0:qh X ⟨g,0+j*3,G⟩=x.obj:=by rw[bU];exact lK h0
   have e1:qh X ⟨g,0+(j*3+1),G⟩=x.v.t:=by rw[bU];exact lK h1
   show jU X (2,(⟨g,0+j*3,G⟩:J))::(jZ ⟨g,0+(j*3+1),G⟩ x.v).map (jU X)=_;rw[Qd e1];unfold jU;simp only[e0]
theorem Gx {α β:Type}(f:α->β):∀l:A α,l.flatMap (λx=>[f x])=l.map f
 |[]=>rfl
 |x::l=>by rw[qP,Gx f l];rfl
theorem lQ {a:Option J}{n c:I}{l:A C}(ho:Own X B 3 1 aQ (V a n c) l):((nO a 0 l).map Prod.snd).Nodup/\(∀p∈nO a 0 l,Ty X p.2.block 3/\(Value.slice a n c).ownBlock=H p.2.block)/\(nO a 0 l).map (jU X)=l.map (λd=>(0,d)):=by
 rcases ho.yF with⟨rfl,rfl⟩|⟨g,rfl,hn,ht,hB⟩
 .exact⟨sD,λp hp=>(by cases hp),rfl⟩
 .refine⟨xg (b:=g) (k:=1) (blk:=λ_=>G) l 0 (λj x hx=>?_) (λx hx=>⟨sD,λp hp=>(by cases hp)⟩) (List.Pairwise.imp (λ_ _ h=>(by cases h)) (List.pairwise_of_forall (R:=λ_ _=>True) (λ_ _=>trivial))),λp hp=>?_,?_⟩
  .rw[bU];exact Wi j x
  .obtain⟨j,x,hx,hp⟩:=(fG l 0 p).1 hp
   rcases hp with hp|hp
   .have:=((Wi (b:=g) (0+j) x).2 p hp).1
    rw[this];exact⟨ht,rfl⟩
   .cases hp
  .rw[show l.map (λd=>((0:C),d))=l.flatMap (λd=>[(0,d)]) from(Gx _ l).symm]
   refine Bu (jU X) _ l 0 (λj x hx=>?_);have h0:=ho.cells (hc:=ig) hx (j:=0) rfl;rw[mU,fw,bU];have e0:qh X ⟨g,0+j,G⟩=x:=by rw[bU];exact lK (by simpa using h0)
   show [jU X (0,(⟨g,0+j,G⟩:J))]=_;unfold jU;simp only[e0]
end
def Ints (X:Z)(l:A (C × J)):Prop:=∀p∈l,∃n,X.cell? p.2=H (.int W n)
section
variable {X Y:Z}{B:I}{h:HC}{es:A EvC}{ds:A aM}{ms:A aN}{qs:A Wa}{scan:EvC->A Sn}{dn:aM->A C}{mn:aN->A C}
theorem Qe {g q:I}{v:kZ}(hc:X.cell? ⟨g,q,G⟩=H (.int W v.t)):Ints X (jZ ⟨g,q,G⟩ v):=λp hp=>by
 rw[(rG.1 hp).1];exact⟨_,hc⟩
theorem ad' {a:Option J}{n c:I}{l:A Sn}(ho:Own X B 117 3 bS (V a n c) l):Ints X (su a 0 l):=by
 rcases ho.yF with⟨rfl,rfl⟩|⟨g,rfl,hn,ht,hB⟩
 .exact λp hp=>by cases hp
 .intro p hp
  obtain⟨j,x,hx,hp⟩:=(fG l 0 p).1 hp;rcases hp with hp|hp
  .rw[bU] at hp
   have h0:=ho.cells (hc:=oJ) hx (j:=0) rfl;have h1:=ho.cells (hc:=oJ) hx (j:=1) rfl;rcases dP.1 hp with rfl|hp
   .exact⟨x.obj,by show X.cell? ⟨g,0+j*3,G⟩=_;rw[bU];exact h0⟩
   .exact Qe (v:=x.v) (by rw[bU];exact h1) p hp
  .cases hp
theorem SS {a:Option J}{n c:I}{l:A C}(ho:Own X B 3 1 aQ (V a n c) l):Ints X (nO a 0 l):=by
 rcases ho.yF with⟨rfl,rfl⟩|⟨g,rfl,hn,ht,hB⟩
 .exact λp hp=>by cases hp
 .intro p hp
  obtain⟨j,x,hx,hp⟩:=(fG l 0 p).1 hp;rcases hp with hp|hp
  .rw[bU] at hp
   have h0:=ho.cells (hc:=ig) hx (j:=0) rfl;rw[bF.1 hp];exact⟨x,by show X.cell? ⟨g,0+j,G⟩=_;rw[bU];simpa using h0⟩
  .cases hp
theorem CV (l:Lay X B h es ds ms qs scan dn mn):((pW h.e.a scan 0 es).map Prod.snd).Nodup/\
  (∀p∈pW h.e.a scan 0 es,Ty X p.2.block 47\/(Ty X p.2.block 117/\∃e∈es,p∈su e.sa 0 (scan e)))/\(pW h.e.a scan 0 es).map (jU X)=es.flatMap (λe=>dD e (scan e))/\Ints X (pW h.e.a scan 0 es):=by
 have ho:Own X B 47 9 dO (V h.e.a h.e.n h.e.c) es:=l.oe;rcases ho.yF with⟨ha,rfl⟩|⟨g,ha,hn,ht,hB⟩
 .exact⟨sD,λp hp=>(by cases hp),rfl,λp hp=>(by cases hp)⟩
 .rw[ha] at ho ⊢
  have hc:∀{j x},es[j]?=H x->∀{q v},(dO x)[q]?=H v->X.cell? ⟨g,j*9+q,G⟩=H v:=λhx _ _ hv=>ho.cells (hc:=sP) hx hv
  refine⟨xg (b:=g) (k:=9) (blk:=λe=>e.val.ownBlock) es 0 (λj x hx=>by rw[bU];exact Oz j x) (λx hx=>⟨(uW (l.se x hx)).1,λp hp=>⟨((uW (l.se x hx)).2.1 p hp).2,((uW (l.se x hx)).2.1 p hp).1.ne ht aj⟩⟩) l.pe,λp hp=>?_,?_,λp hp=>?_⟩
  .obtain⟨j,x,hx,hp⟩:=(fG es 0 p).1 hp
   rcases hp with hp|hp
   .rw[bU] at hp
    have:=((Oz (b:=g) j x).2 p hp).1;rw[this];exact .inl ht
   .have hm:=bQ hx
    exact .inr ⟨((uW (l.se x hm)).2.1 p hp).1,x,hm,hp⟩
  .refine Bu (jU X) _ es 0 (λj x hx=>?_)
   rw[bU];have hs:=(uW (l.se x (bQ hx))).2.2;rw[show(su x.sa 0 (scan x)).map (jU X)=_ from hs];have e1:qh X ⟨g,0+(j*9+1),G⟩=x.t:=by rw[bU];exact lK (hc hx rfl)
   have e2:qh X ⟨g,0+(j*9+2),G⟩=x.dG:=by rw[bU];exact lK (hc hx rfl)
   have e4:qh X ⟨g,0+(j*9+4),G⟩=x.obj:=by rw[bU];exact lK (hc hx rfl)
   have e5:qh X ⟨g,0+(j*9+5),G⟩=x.v.t:=by rw[bU];exact lK (hc hx rfl)
   have e7:qh X ⟨g,0+(j*9+7),G⟩=x.pred:=by rw[bU];exact lK (hc hx rfl)
   unfold dD vO
   congr 1
   rw[lD]
   congr 1
   .unfold jU;simp only[e1]
   .by_cases k1:x.kind=1
    .rw[ay k1,ay k1];unfold jU;simp only[lD,mU,e2]
    .rw[ak k1,ak k1]
     by_cases k2:x.kind=2\/x.kind=3
     .rw[ay k2,ay k2,lD,Qd e5];unfold jU;simp only[e4]
     .rw[ak k2,ak k2]
      by_cases k4:x.kind=4
      .rw[ay k4,ay k4];unfold jU;simp only[lD,mU,e7]
      .rw[ak k4,ak k4];rfl
  .obtain⟨j,x,hx,hp⟩:=(fG es 0 p).1 hp
   rcases hp with hp|hp
   .rw[bU] at hp
    unfold vO at hp;rcases dP.1 hp with rfl|hp
    .exact⟨x.t,by show X.cell? ⟨g,0+(j*9+1),G⟩=_;rw[bU];exact hc hx rfl⟩
    .split at hp
     .rw[bF.1 hp]
      exact⟨x.dG,by show X.cell? ⟨g,0+(j*9+2),G⟩=_;rw[bU];exact hc hx rfl⟩
     .split at hp
      .rcases dP.1 hp with rfl|hp
       .exact⟨x.obj,by show X.cell? ⟨g,0+(j*9+4),G⟩=_;rw[bU];exact hc hx rfl⟩
       .exact Qe (v:=x.v) (by rw[bU];exact hc hx rfl) p hp
      .split at hp
       .rw[bF.1 hp]
        exact⟨x.pred,by show X.cell? ⟨g,0+(j*9+7),G⟩=_;rw[bU];exact hc hx rfl⟩
       .cases hp
   .exact ad' (l.se x (bQ hx)) p hp
theorem CW (l:Lay X B h es ds ms qs scan dn mn):((tN h.d.a dn 0 ds).map Prod.snd).Nodup/\
  (∀p∈tN h.d.a dn 0 ds,Ty X p.2.block 74\/(Ty X p.2.block 3/\∃e∈ds,e.val.ownBlock=H p.2.block/\p∈nO e.sa 0 (dn e)))/\(tN h.d.a dn 0 ds).map (jU X)=ds.flatMap (λx=>kF x (dn x))/\Ints X (tN h.d.a dn 0 ds):=by
 have ho:Own X B 74 2 eZ (V h.d.a h.d.n h.d.c) ds:=l.od;rcases ho.yF with⟨ha,rfl⟩|⟨g,ha,hn,ht,hB⟩
 .exact⟨sD,λp hp=>(by cases hp),rfl,λp hp=>(by cases hp)⟩
 .rw[ha] at ho ⊢
  refine⟨xg (b:=g) (k:=2) (blk:=λe=>e.val.ownBlock) ds 0 (λj x hx=>by rw[bU];exact Wj j x) (λx hx=>⟨(lQ (l.sd x hx)).1,λp hp=>⟨((lQ (l.sd x hx)).2.1 p hp).2,((lQ (l.sd x hx)).2.1 p hp).1.ne ht aj⟩⟩) l.pd,λp hp=>?_,?_,λp hp=>?_⟩
  .obtain⟨j,x,hx,hp⟩:=(fG ds 0 p).1 hp
   rcases hp with hp|hp
   .rw[bU] at hp
    have:=((Wj (b:=g) j x).2 p hp).1;rw[this];exact .inl ht
   .have hm:=bQ hx
    exact .inr ⟨((lQ (l.sd x hm)).2.1 p hp).1,x,hm,((lQ (l.sd x hm)).2.1 p hp).2,hp⟩
  .refine Bu (jU X) _ ds 0 (λj x hx=>?_)
   rw[bU];have hs:=(lQ (l.sd x (bQ hx))).2.2;rw[show(nO x.sa 0 (dn x)).map (jU X)=_ from hs];have e0:qh X ⟨g,0+j*2,G⟩=x.obj:=by rw[bU];exact lK (ho.cells (hc:=uJ) hx (j:=0) rfl)
   unfold RN kF jU;simp only[lD,mU,e0,gF,j3]
  .obtain⟨j,x,hx,hp⟩:=(fG ds 0 p).1 hp
   rcases hp with hp|hp
   .rw[bU] at hp
    rw[bF.1 hp];exact⟨x.obj,by show X.cell? ⟨g,0+j*2,G⟩=_;rw[bU];exact ho.cells (hc:=uJ) hx (j:=0) rfl⟩
   .exact SS (l.sd x (bQ hx)) p hp
theorem CX (l:Lay X B h es ds ms qs scan dn mn):((tK h.m.a mn 0 ms).map Prod.snd).Nodup/\
  (∀p∈tK h.m.a mn 0 ms,Ty X p.2.block 77\/(Ty X p.2.block 3/\∃e∈ms,e.val.ownBlock=H p.2.block/\p∈nO e.sa 0 (mn e)))/\(tK h.m.a mn 0 ms).map (jU X)=ms.flatMap (λx=>mY x (mn x))/\Ints X (tK h.m.a mn 0 ms):=by
 have ho:Own X B 77 4 eP (V h.m.a h.m.n h.m.c) ms:=l.om;rcases ho.yF with⟨ha,rfl⟩|⟨g,ha,hn,ht,hB⟩
 .exact⟨sD,λp hp=>(by cases hp),rfl,λp hp=>(by cases hp)⟩
 .rw[ha] at ho ⊢
  refine⟨xg (b:=g) (k:=4) (blk:=λe=>e.val.ownBlock) ms 0 (λj x hx=>by rw[bU];exact Wl j x) (λx hx=>⟨(lQ (l.sm x hx)).1,λp hp=>⟨((lQ (l.sm x hx)).2.1 p hp).2,((lQ (l.sm x hx)).2.1 p hp).1.ne ht aj⟩⟩) l.pm,λp hp=>?_,?_,λp hp=>?_⟩
  .obtain⟨j,x,hx,hp⟩:=(fG ms 0 p).1 hp
   rcases hp with hp|hp
   .rw[bU] at hp
    have:=((Wl (b:=g) j x).2 p hp).1;rw[this];exact .inl ht
   .have hm:=bQ hx
    exact .inr ⟨((lQ (l.sm x hm)).2.1 p hp).1,x,hm,((lQ (l.sm x hm)).2.1 p hp).2,hp⟩
  .refine Bu (jU X) _ ms 0 (λj x hx=>?_)
   rw[bU];have hs:=(lQ (l.sm x (bQ hx))).2.2;rw[show(nO x.sa 0 (mn x)).map (jU X)=_ from hs];have e0:qh X ⟨g,0+j*4,G⟩=x.pred:=by rw[bU];exact lK (ho.cells (hc:=rJ) hx (j:=0) rfl)
   have e1:qh X ⟨g,0+(j*4+1),G⟩=x.obj:=by rw[bU];exact lK (ho.cells (hc:=rJ) hx (j:=1) rfl)
   unfold Ow mY jU;simp only[lD,mU,e0,e1,gF,j3]
  .obtain⟨j,x,hx,hp⟩:=(fG ms 0 p).1 hp
   rcases hp with hp|hp
   .rw[bU] at hp
    rcases dP.1 hp with rfl|hp
    .exact⟨x.pred,by show X.cell? ⟨g,0+j*4,G⟩=_;rw[bU];exact ho.cells (hc:=rJ) hx (j:=0) rfl⟩
    .rw[bF.1 hp]
     exact⟨x.obj,by show X.cell? ⟨g,0+(j*4+1),G⟩=_;rw[bU];exact ho.cells (hc:=rJ) hx (j:=1) rfl⟩
   .exact SS (l.sm x (bQ hx)) p hp
theorem CY (l:Lay X B h es ds ms qs scan dn mn):((xS h.w.a 0 qs).map Prod.snd).Nodup/\
  (∀p∈xS h.w.a 0 qs,Ty X p.2.block 79)/\(xS h.w.a 0 qs).map (jU X)=qs.flatMap qU/\Ints X (xS h.w.a 0 qs):=by
 have ho:Own X B 79 2 fQ (V h.w.a h.w.n h.w.c) qs:=l.oq;rcases ho.yF with⟨ha,rfl⟩|⟨g,ha,hn,ht,hB⟩
 .exact⟨sD,λp hp=>(by cases hp),rfl,λp hp=>(by cases hp)⟩
 .rw[ha] at ho ⊢
  refine⟨xg (b:=g) (k:=2) (blk:=λ_=>G) qs 0 (λj x hx=>by rw[bU];exact Wm j x) (λx hx=>⟨sD,λp hp=>(by cases hp)⟩) (List.Pairwise.imp (λ_ _ h=>(by cases h)) (List.pairwise_of_forall (R:=λ_ _=>True) (λ_ _=>trivial))),λp hp=>?_,?_,λp hp=>?_⟩
  .obtain⟨j,x,hx,hp⟩:=(fG qs 0 p).1 hp
   rcases hp with hp|hp
   .rw[bU] at hp
    have:=((Wm (b:=g) j x).2 p hp).1;rw[this];exact ht
   .cases hp
  .refine Bu (jU X) _ qs 0 (λj x hx=>?_)
   rw[bU];have e0:qh X ⟨g,0+j*2,G⟩=x.dG:=by rw[bU];exact lK (ho.cells (hc:=wC) hx (j:=0) rfl)
   unfold RO qU jU;simp only[lD,mU,e0,fw]
  .obtain⟨j,x,hx,hp⟩:=(fG qs 0 p).1 hp
   rcases hp with hp|hp
   .rw[bU] at hp
    rw[bF.1 hp];exact⟨x.dG,by show X.cell? ⟨g,0+j*2,G⟩=_;rw[bU];exact ho.cells (hc:=wC) hx (j:=0) rfl⟩
   .cases hp
theorem Ty.no {g:I}{T T':TypeId}(h:Ty X g T)(h':Ty X g T')(hT:T≠T'):False:=h.ne h' hT rfl
theorem Lay.nodup (l:Lay X B h es ds ms qs scan dn mn):((aT h es ds ms qs scan dn mn).map Prod.snd).Nodup:=by
 obtain⟨e1,e2,_⟩:=CV l;obtain⟨d1,d2,_⟩:=CW l;obtain⟨m1,m2,_⟩:=CX l;obtain⟨q1,q2,_⟩:=CY l;unfold aT;rw[gK,gK,gK];refine zC.2 ⟨e1,zC.2 ⟨d1,zC.2 ⟨m1,q1,?_⟩,?_⟩,?_⟩
 .intro p hp q hq e
  obtain⟨p',hp',rfl⟩:=dQ.1 hp;obtain⟨q',hq',rfl⟩:=dQ.1 hq;have t2:=q2 q' hq';rw[<-e] at t2;rcases m2 p' hp' with t1|⟨t1,_⟩
  .exact t1.no t2 aj
  .exact t1.no t2 aj
 .intro p hp q hq e
  obtain⟨p',hp',rfl⟩:=dQ.1 hp;rcases bJ.1 hq with hq|hq
  .obtain⟨q',hq',rfl⟩:=dQ.1 hq
   have t1:=d2 p' hp';have t2:=m2 q' hq';rw[<-e] at t2;rcases t1 with t1|⟨t1,x,hx,hbx,_⟩
   .rcases t2 with t2|⟨t2,_⟩
    .exact t1.no t2 aj
    .exact t1.no t2 aj
   .rcases t2 with t2|⟨t2,y,hy,hby,_⟩
    .exact t1.no t2 aj
    .exact l.px x hx y hy _ hbx hby
  .obtain⟨q',hq',rfl⟩:=dQ.1 hq
   have t2:=q2 q' hq';rw[<-e] at t2;rcases d2 p' hp' with t1|⟨t1,_⟩
   .exact t1.no t2 aj
   .exact t1.no t2 aj
 .intro p hp q hq e
  obtain⟨p',hp',rfl⟩:=dQ.1 hp;have t1:=e2 p' hp';rcases bJ.1 hq with hq|hq
  .obtain⟨q',hq',rfl⟩:=dQ.1 hq
   have t2:=d2 q' hq';rw[<-e] at t2;rcases t1 with t1|⟨t1,_⟩ <;> rcases t2 with t2|⟨t2,_⟩ <;> exact t1.no t2 aj
  .rcases bJ.1 hq with hq|hq
   .obtain⟨q',hq',rfl⟩:=dQ.1 hq
    have t2:=m2 q' hq';rw[<-e] at t2;rcases t1 with t1|⟨t1,_⟩ <;> rcases t2 with t2|⟨t2,_⟩ <;> exact t1.no t2 aj
   .obtain⟨q',hq',rfl⟩:=dQ.1 hq
    have t2:=q2 q' hq';rw[<-e] at t2;rcases t1 with t1|⟨t1,_⟩ <;> exact t1.no t2 aj
theorem Lay.vals (l:Lay X B h es ds ms qs scan dn mn):(aT h es ds ms qs scan dn mn).map (jU X)=oz es ds ms qs scan dn mn:=by
 unfold aT oz;rw[gK,gK,gK,(CV l).2.2.1,(CW l).2.2.1,(CX l).2.2.1,(CY l).2.2.1];simp only[eG]
theorem Lay.ints (l:Lay X B h es ds ms qs scan dn mn):Ints X (aT h es ds ms qs scan dn mn):=λp hp=>by
 unfold aT at hp;rcases bJ.1 hp with hp|hp
 .exact(CV l).2.2.2 p hp
 .rcases bJ.1 hp with hp|hp
  .exact(CW l).2.2.2 p hp
  .rcases bJ.1 hp with hp|hp
   .exact(CX l).2.2.2 p hp
   .exact(CY l).2.2.2 p hp
end
theorem SV {α:Type}{val:α->Value}{xs:A α}(h:xs.Pairwise (λx y=>∀g,(val x).ownBlock=H g->(val y).ownBlock≠H g)){x y:α}(hx:x∈xs)(hy:y∈xs){g:I}(h1:(val x).ownBlock=H g)(h2:(val y).ownBlock=H g):x=y:=by
 rw[GX] at h;obtain⟨i,hi,rfl⟩:=GV.1 hx;obtain⟨j,hj,rfl⟩:=GV.1 hy;rcases Nat.lt_trichotomy i j with q|q|q
 .exact absurd h2 (h i j hi hj q g h1)
 .subst q;rfl
 .exact absurd h1 (h j i hj hi q g h2)
theorem XR {g q i:I}{s:C}{e:EvC}(h:(s,(⟨g,q,G⟩:J))∈vO (H ⟨g,0,G⟩) i e):
  (q=i*9+1/\s=0)\/(q=i*9+2/\s=1/\e.kind=1)\/(q=i*9+4/\s=2/\(e.kind=2\/e.kind=3))\/(q=i*9+5/\s=0/\(e.kind=2\/e.kind=3)/\0<e.v.k)\/(q=i*9+7/\s=3/\e.kind=4):=by
 have ad:∀{u:C}{r:I},((s,(⟨g,q,G⟩:J)):C × J)=(u,(⟨g,0+r,G⟩:J))->q=r/\s=u:=λe=>by
  injection e with e1 e2;injection e2 with _ e2 _;exact⟨by omega,e1⟩
 unfold vO at h;rcases dP.1 h with h|h
 .have:=ad h;exact .inl this
 .by_cases k1:e.kind=1
  .rw[ay k1] at h
   have:=ad (bF.1 h);exact .inr (.inl ⟨this.1,this.2,k1⟩)
  .rw[ak k1] at h
   by_cases k2:e.kind=2\/e.kind=3
   .rw[ay k2] at h
    rcases dP.1 h with h|h
    .have:=ad h
     exact .inr (.inr (.inl ⟨this.1,this.2,k2⟩))
    .obtain⟨h1,h2⟩:=rG.1 h
     have:=ad h1;exact .inr (.inr (.inr (.inl ⟨this.1,this.2,k2,h2⟩)))
   .rw[ak k2] at h
    by_cases k4:e.kind=4
    .rw[ay k4] at h
     have:=ad (bF.1 h);exact .inr (.inr (.inr (.inr ⟨this.1,this.2,k4⟩)))
    .rw[ak k4] at h;cases h
theorem ajX (g i:I)(e:EvC):((0:C),(⟨g,i*9+1,G⟩:J))∈vO (H ⟨g,0,G⟩) i e:=by
 unfold vO;rw[show(⟨g,i*9+1,G⟩:J)=nM (H ⟨g,0,G⟩) (i*9+1) from by simp[nM]];exact pY
theorem ajY (g i:I){e:EvC}(k:e.kind=1):((1:C),(⟨g,i*9+2,G⟩:J))∈vO (H ⟨g,0,G⟩) i e:=by
 unfold vO;rw[ay k,show(⟨g,i*9+2,G⟩:J)=nM (H ⟨g,0,G⟩) (i*9+2) from by simp[nM]];exact iJ _ (bF.2 rfl)
theorem ajZ (g i:I){e:EvC}(k:e.kind=2\/e.kind=3):((2:C),(⟨g,i*9+4,G⟩:J))∈vO (H ⟨g,0,G⟩) i e:=by
 unfold vO;rw[ak ah,ay k,show(⟨g,i*9+4,G⟩:J)=nM (H ⟨g,0,G⟩) (i*9+4) from by simp[nM]];exact iJ _ pY
theorem aj0 (g i:I){e:EvC}(k:e.kind=2\/e.kind=3)(hk:0<e.v.k):((0:C),(⟨g,i*9+5,G⟩:J))∈vO (H ⟨g,0,G⟩) i e:=by
 unfold vO;rw[ak ah,ay k,show(⟨g,i*9+5,G⟩:J)=nM (H ⟨g,0,G⟩) (i*9+5) from by simp[nM]];exact iJ _ (iJ _ (rG.2 ⟨rfl,hk⟩))
theorem aj1 (g i:I){e:EvC}(k:e.kind=4):((3:C),(⟨g,i*9+7,G⟩:J))∈vO (H ⟨g,0,G⟩) i e:=by
 unfold vO;rw[ak ah,ak ah,ay k,show(⟨g,i*9+7,G⟩:J)=nM (H ⟨g,0,G⟩) (i*9+7) from by simp[nM]];exact iJ _ (bF.2 rfl)
def Ic (e:EvC):Prop:=(e.kind≠1->e.dG=0)/\(¬(e.kind=2\/e.kind=3)->e.obj=0/\e.v=⟨0,0⟩)/\(e.kind≠4->e.pred=0)
def evR (F:C->A C)(e:EvC):EvC:={gP F e with sa:=e.sa,sn:=e.sn,sc:=e.sc}
def orR (F:C->A C)(x:aM):aM:={x with obj:=dh (F 2) x.obj}
def maR (F:C->A C)(x:aN):aN:={x with pred:=dh (F 3) x.pred,obj:=dh (F 2) x.obj}
def waR (F:C->A C)(x:Wa):Wa:={x with dG:=dh (F 1) x.dG}
section
variable {X Y:Z}{B:I}{h:HC}{es:A EvC}{ds:A aM}{ms:A aN}{qs:A Wa}{scan:EvC->A Sn}{dn:aM->A C}{mn:aN->A C}
theorem acj {p:C × J}(h1:p∈pW h.e.a scan 0 es):p∈aT h es ds ms qs scan dn mn:=nP _ h1
theorem acn {p:C × J}(h1:p∈tN h.d.a dn 0 ds):p∈aT h es ds ms qs scan dn mn:=pX _ (nP _ h1)
theorem UJ {p:C × J}(h1:p∈tK h.m.a mn 0 ms):p∈aT h es ds ms qs scan dn mn:=pX _ (pX _ (nP _ h1))
theorem aj2 {p:C × J}(h1:p∈xS h.w.a 0 qs):p∈aT h es ds ms qs scan dn mn:=pX _ (pX _ (pX _ h1))
theorem Lay.which (l:Lay X B h es ds ms qs scan dn mn){p:C × J}(hp:p∈aT h es ds ms qs scan dn mn):
  (Ty X p.2.block 47/\∃i e,es[i]?=H e/\p∈vO h.e.a i e)\/(Ty X p.2.block 117/\∃e∈es,e.val.ownBlock=H p.2.block/\p∈su e.sa 0 (scan e))\/
  (Ty X p.2.block 74/\∃i x,ds[i]?=H x/\p∈RN h.d.a i x)\/(Ty X p.2.block 77/\∃i x,ms[i]?=H x/\p∈Ow h.m.a i x)\/(Ty X p.2.block 79/\∃i x,qs[i]?=H x/\p∈RO h.w.a i x)\/
  (Ty X p.2.block 3/\((∃x∈ds,x.val.ownBlock=H p.2.block/\p∈nO x.sa 0 (dn x))\/(∃x∈ms,x.val.ownBlock=H p.2.block/\p∈nO x.sa 0 (mn x)))):=by
 unfold aT at hp;rcases bJ.1 hp with hp|hp
 .have ht:=(CV l).2.1 p hp
  obtain⟨j,x,hx,hp'⟩:=(fG es 0 p).1 hp;rcases hp' with hp'|hp'
  .rw[bU] at hp'
   rcases ht with ht|⟨ht,y,hy,hpy⟩
   .exact .inl ⟨ht,j,x,hx,hp'⟩
   .exact .inr (.inl ⟨ht,y,hy,((uW (l.se y hy)).2.1 p hpy).2,hpy⟩)
  .have hm:=bQ hx
   exact .inr (.inl ⟨((uW (l.se x hm)).2.1 p hp').1,x,hm,((uW (l.se x hm)).2.1 p hp').2,hp'⟩)
 .rcases bJ.1 hp with hp|hp
  .have ht:=(CW l).2.1 p hp
   obtain⟨j,x,hx,hp'⟩:=(fG ds 0 p).1 hp;rcases ht with ht|⟨ht,y,hy,hb,hpy⟩
   .rcases hp' with hp'|hp'
    .rw[bU] at hp'
     exact .inr (.inr (.inl ⟨ht,j,x,hx,hp'⟩))
    .exact(ht.no ((lQ (l.sd x (bQ hx))).2.1 p hp').1 aj).elim
   .exact .inr (.inr (.inr (.inr (.inr ⟨ht,.inl ⟨y,hy,hb,hpy⟩⟩))))
  .rcases bJ.1 hp with hp|hp
   .have ht:=(CX l).2.1 p hp
    obtain⟨j,x,hx,hp'⟩:=(fG ms 0 p).1 hp;rcases ht with ht|⟨ht,y,hy,hb,hpy⟩
    .rcases hp' with hp'|hp'
     .rw[bU] at hp'
      exact .inr (.inr (.inr (.inl ⟨ht,j,x,hx,hp'⟩)))
     .exact(ht.no ((lQ (l.sm x (bQ hx))).2.1 p hp').1 aj).elim
    .exact .inr (.inr (.inr (.inr (.inr ⟨ht,.inr ⟨y,hy,hb,hpy⟩⟩))))
   .have ht:=(CY l).2.1 p hp
    obtain⟨j,x,hx,hp'⟩:=(fG qs 0 p).1 hp;rcases hp' with hp'|hp'
    .rw[bU] at hp'
     exact .inr (.inr (.inr (.inr (.inl ⟨ht,j,x,hx,hp'⟩))))
    .cases hp'
theorem Lay.aco (l:Lay X B h es ds ms qs scan dn mn){g i j:I}{s:C}(ha:h.e.a=H ⟨g,0,G⟩)(hj:j<9)(hp:(s,(⟨g,i*9+j,G⟩:J))∈aT h es ds ms qs scan dn mn):
  ∃e,es[i]?=H e/\((j=1/\s=0)\/(j=2/\s=1/\e.kind=1)\/(j=4/\s=2/\(e.kind=2\/e.kind=3))\/(j=5/\s=0/\(e.kind=2\/e.kind=3)/\0<e.v.k)\/(j=7/\s=3/\e.kind=4)):=by
 have hg:Ty X g 47:=l.oe.tag (by show(Value.slice h.e.a h.e.n h.e.c).ownBlock=H g;rw[ha];rfl);rcases l.which hp with⟨_,i',e,he,hh⟩|⟨t,_⟩|⟨t,_⟩|⟨t,_⟩|⟨t,_⟩|⟨t,_⟩
 .rw[ha] at hh
  have hc:=XR hh;obtain rfl:i'=i:=by rcases hc with c|c|c|c|c <;> (have:=c.1;omega)
  refine⟨e,he,?_⟩;rcases hc with c|c|c|c|c
  .exact .inl ⟨by omega,c.2⟩
  .exact .inr (.inl ⟨by omega,c.2⟩)
  .exact .inr (.inr (.inl ⟨by omega,c.2⟩))
  .exact .inr (.inr (.inr (.inl ⟨by omega,c.2⟩)))
  .exact .inr (.inr (.inr (.inr ⟨by omega,c.2⟩)))
 all_goals exact(hg.no t aj).elim
theorem Lay.ahv (l:Lay X B h es ds ms qs scan dn mn){F:C->A C}(hM:Moved X Y F (aT h es ds ms qs scan dn mn))(hb:∀e∈es,Ic e):Own Y B 47 9 dO h.e.v (es.map (evR F)):=by
 refine l.oe.moved (hc:=sP) hM (by rw[bH]) (λg hg i x y j u hx hy hu=>?_);have ho:Own X B 47 9 dO (V h.e.a h.e.n h.e.c) es:=l.oe;have ha:h.e.a=H ⟨g,0,G⟩:=by
  rcases ho.yF with⟨ha,_⟩|⟨g',ha,_⟩
  .rw[show h.e.v= V h.e.a h.e.n h.e.c from rfl,ha] at hg;cases hg
  .rw[show h.e.v= V h.e.a h.e.n h.e.c from rfl,ha] at hg;injection hg with hg;rw[ha];subst hg;rfl
 rw[lZ,hx] at hy;injection hy with hy;subst hy;have hm:=bQ hx;obtain⟨b1,b2,b3⟩:=hb x hm;have hno:∀{j:I},j<9->(∀s,¬((j=1/\s=(0:C))\/(j=2/\s=1/\x.kind=1)\/(j=4/\s=2/\(x.kind=2\/x.kind=3))\/(j=5/\s=0/\(x.kind=2\/x.kind=3)/\0<x.v.k)\/(j=7/\s=3/\x.kind=4)))->∀s,(s,(⟨g,i*9+j,G⟩:J))∉aT h es ds ms qs scan dn mn:=λhj hn s hp=>by
  obtain⟨e,he,hc⟩:=l.aco ha hj hp;rw[hx] at he;injection he with he;subst he;exact hn s hc
 have EP:∀{p:C × J},p∈vO (H ⟨g,0,G⟩) i x->p∈aT h es ds ms qs scan dn mn:=λhp=>acj ((fG es 0 _).2 ⟨i,x,hx,.inl (by rw[ha,bU];exact hp)⟩)
 have hj9:j<9:=by have:=(bG.1 hu).1;simpa[dO] using this
 have hj:j=0\/j=1\/j=2\/j=3\/j=4\/j=5\/j=6\/j=7\/j=8:=by omega
 rcases hj with rfl|rfl|rfl|rfl|rfl|rfl|rfl|rfl|rfl
 .exact .inl ⟨hu,hno ah (λs hc=>by omega)⟩
 .refine .inr ⟨0,x.t,EP (ajX g i x),?_,rfl⟩
  injection hu with hu;exact hu.symm
 .by_cases k:x.kind=1
  .refine .inr ⟨1,x.dG,EP (ajY g i k),?_,?_⟩
   .injection hu with hu;exact hu.symm
   .show H (K W (if x.kind=1 then dh (F 1) x.dG else 0))=_
    rw[ay k]
  .refine .inl ⟨?_,hno ah (λs hc=>by omega)⟩
   rw[<-hu];show H (K W (if x.kind=1 then dh (F 1) x.dG else 0))=H (K W x.dG);rw[ak k,b1 k]
 .exact .inl ⟨hu,hno ah (λs hc=>by omega)⟩
 .by_cases k:x.kind=2\/x.kind=3
  .refine .inr ⟨2,x.obj,EP (ajZ g i k),?_,?_⟩
   .injection hu with hu;exact hu.symm
   .show H (K W (if x.kind=2\/x.kind=3 then dh (F 2) x.obj else 0))=_
    rw[ay k]
  .refine .inl ⟨?_,hno ah (λs hc=>by omega)⟩
   rw[<-hu];show H (K W (if x.kind=2\/x.kind=3 then dh (F 2) x.obj else 0))=H (K W x.obj);rw[ak k,(b2 k).1]
 .by_cases k:x.kind=2\/x.kind=3
  .by_cases hk:0<x.v.k
   .refine .inr ⟨0,x.v.t,EP (aj0 g i k hk),?_,?_⟩
    .injection hu with hu;exact hu.symm
    .show H (K W (if x.kind=2\/x.kind=3 then kH F x.v else⟨0,0⟩).t)=_
     unfold kH;rw[ay k,ay hk]
   .refine .inl ⟨?_,hno ah (λs hc=>by omega)⟩
    rw[<-hu];show H (K W (if x.kind=2\/x.kind=3 then kH F x.v else⟨0,0⟩).t)=H (K W x.v.t);unfold kH;rw[ay k,ak hk]
  .refine .inl ⟨?_,hno ah (λs hc=>by omega)⟩
   rw[<-hu];show H (K W (if x.kind=2\/x.kind=3 then kH F x.v else⟨0,0⟩).t)=H (K W x.v.t);rw[ak k,(b2 k).2]
 .refine .inl ⟨?_,hno ah (λs hc=>by omega)⟩
  rw[<-hu];show H (K W (if x.kind=2\/x.kind=3 then kH F x.v else⟨0,0⟩).k)=H (K W x.v.k);by_cases k:x.kind=2\/x.kind=3
  .rw[ay k]
   unfold kH
   split <;> rfl
  .rw[ak k,(b2 k).2]
 .by_cases k:x.kind=4
  .refine .inr ⟨3,x.pred,EP (aj1 g i k),?_,?_⟩
   .injection hu with hu;exact hu.symm
   .show H (K W (if x.kind=4 then dh (F 3) x.pred else 0))=_
    rw[ay k]
  .refine .inl ⟨?_,hno ah (λs hc=>by omega)⟩
   rw[<-hu];show H (K W (if x.kind=4 then dh (F 3) x.pred else 0))=H (K W x.pred);rw[ak k,b3 k]
 .exact .inl ⟨hu,hno ah (λs hc=>by omega)⟩
end
theorem Gy {α:Type}{enc:α->A Value}{k:I}{X:Z}{B:I}{T:TypeId}{a:Option J}{n c:I}{xs:A α}(ho:Own X B T k enc (V a n c) xs){g:I}(hg:(Value.slice a n c).ownBlock=H g):a=H ⟨g,0,G⟩:=by
 rcases ho.yF with⟨ha,_⟩|⟨g',ha,_⟩
 .rw[ha] at hg;cases hg
 .rw[ha] at hg ⊢;injection hg with hg;subst hg;rfl
theorem sS {g q:I}{s u:C}{r:I}(e:((s,(⟨g,q,G⟩:J)):C × J)=(u,(⟨g,0+r,G⟩:J))):q=r/\s=u:=by
 injection e with e1 e2;injection e2 with _ e2 _;exact⟨by omega,e1⟩
section
variable {X Y:Z}{B:I}{h:HC}{es:A EvC}{ds:A aM}{ms:A aN}{qs:A Wa}{scan:EvC->A Sn}{dn:aM->A C}{mn:aN->A C}{F:C->A C}
theorem Lay.ahw (l:Lay X B h es ds ms qs scan dn mn)(hM:Moved X Y F (aT h es ds ms qs scan dn mn)):Own Y B 74 2 eZ h.d.v (ds.map (orR F)):=by
 refine l.od.moved (hc:=uJ) hM (by rw[bH]) (λg hg i x y j u hx hy hu=>?_);have ha:=Gy (show Own X B 74 2 eZ (V h.d.a h.d.n h.d.c) ds from l.od) hg;have ht:Ty X g 74:=l.od.tag hg;rw[lZ,hx] at hy;injection hy with hy;subst hy;have hj2:j<2:=by have:=(bG.1 hu).1;simpa[eZ] using this
 rcases(by omega:j=0\/j=1) with rfl|rfl
 .refine .inr ⟨2,x.obj,acn ((fG ds 0 _).2 ⟨i,x,hx,.inl ?_⟩),?_,rfl⟩
  .rw[ha,bU];simp[RN,nM]
  .injection hu with hu;exact hu.symm
 .refine .inl ⟨hu,λs hp=>?_⟩
  rcases l.which hp with⟨t,_⟩|⟨t,_⟩|⟨_,i',e,he,hh⟩|⟨t,_⟩|⟨t,_⟩|⟨t,_⟩
  .exact ht.no t aj
  .exact ht.no t aj
  .rw[ha] at hh
   have:=sS (bF.1 hh);omega
  .exact ht.no t aj
  .exact ht.no t aj
  .exact ht.no t aj
theorem Lay.ahx (l:Lay X B h es ds ms qs scan dn mn)(hM:Moved X Y F (aT h es ds ms qs scan dn mn)):Own Y B 77 4 eP h.m.v (ms.map (maR F)):=by
 refine l.om.moved (hc:=rJ) hM (by rw[bH]) (λg hg i x y j u hx hy hu=>?_);have ha:=Gy (show Own X B 77 4 eP (V h.m.a h.m.n h.m.c) ms from l.om) hg;have ht:Ty X g 77:=l.om.tag hg;rw[lZ,hx] at hy;injection hy with hy;subst hy;have hj4:j<4:=by have:=(bG.1 hu).1;simpa[eP] using this
 have hno:∀{j},j<4->2<=j->∀s,(s,(⟨g,i*4+j,G⟩:J))∉aT h es ds ms qs scan dn mn:=λhj h2 s hp=>by
  rcases l.which hp with⟨t,_⟩|⟨t,_⟩|⟨t,_⟩|⟨_,i',e,he,hh⟩|⟨t,_⟩|⟨t,_⟩
  .exact ht.no t aj
  .exact ht.no t aj
  .exact ht.no t aj
  .rw[ha] at hh
   rcases dP.1 hh with hh|hh
   .have:=sS hh;omega
   .have:=sS (bF.1 hh);omega
  .exact ht.no t aj
  .exact ht.no t aj
 rcases(by omega:j=0\/j=1\/j=2\/j=3) with rfl|rfl|rfl|rfl
 .refine .inr ⟨3,x.pred,UJ ((fG ms 0 _).2 ⟨i,x,hx,.inl ?_⟩),?_,rfl⟩
  .rw[ha,bU];simp[Ow,nM]
  .injection hu with hu;exact hu.symm
 .refine .inr ⟨2,x.obj,UJ ((fG ms 0 _).2 ⟨i,x,hx,.inl ?_⟩),?_,rfl⟩
  .rw[ha,bU];simp[Ow,nM]
  .injection hu with hu;exact hu.symm
 .exact .inl ⟨hu,hno ah ah⟩
 .exact .inl ⟨hu,hno ah ah⟩
theorem Lay.ahy (l:Lay X B h es ds ms qs scan dn mn)(hM:Moved X Y F (aT h es ds ms qs scan dn mn)):Own Y B 79 2 fQ h.w.v (qs.map (waR F)):=by
 refine l.oq.moved (hc:=wC) hM (by rw[bH]) (λg hg i x y j u hx hy hu=>?_);have ha:=Gy (show Own X B 79 2 fQ (V h.w.a h.w.n h.w.c) qs from l.oq) hg;have ht:Ty X g 79:=l.oq.tag hg;rw[lZ,hx] at hy;injection hy with hy;subst hy;have hj2:j<2:=by have:=(bG.1 hu).1;simpa[fQ] using this
 rcases(by omega:j=0\/j=1) with rfl|rfl
 .refine .inr ⟨1,x.dG,aj2 ((fG qs 0 _).2 ⟨i,x,hx,.inl ?_⟩),?_,rfl⟩
  .rw[ha,bU];simp[RO,nM]
  .injection hu with hu;exact hu.symm
 .refine .inl ⟨hu,λs hp=>?_⟩
  rcases l.which hp with⟨t,_⟩|⟨t,_⟩|⟨t,_⟩|⟨t,_⟩|⟨_,i',e,he,hh⟩|⟨t,_⟩
  .exact ht.no t aj
  .exact ht.no t aj
  .exact ht.no t aj
  .exact ht.no t aj
  .rw[ha] at hh
   have:=sS (bF.1 hh);omega
  .exact ht.no t aj
theorem Lay.ahz (l:Lay X B h es ds ms qs scan dn mn)(hM:Moved X Y F (aT h es ds ms qs scan dn mn)){e:EvC}(he:e∈es):Own Y B 117 3 bS e.val ((scan e).map (Fv F)):=by
 refine(l.se e he).moved (hc:=oJ) hM (by rw[bH]) (λg hg i x y j u hx hy hu=>?_);have ha:=Gy (show Own X B 117 3 bS (V e.sa e.sn e.sc) (scan e) from l.se e he) hg;have ht:Ty X g 117:=(l.se e he).tag hg;rw[lZ,hx] at hy;injection hy with hy;subst hy;have hj3:j<3:=by have:=(bG.1 hu).1;simpa[bS] using this
 have hin:∀{p},p∈Ov (H ⟨g,0,G⟩) i x->p∈aT h es ds ms qs scan dn mn:=λhp=>by
  obtain⟨q,hq⟩:=u6.1 he;refine acj ((fG es 0 _).2 ⟨q,e,hq,.inr ?_⟩);rw[ha];exact(fG (scan e) 0 _).2 ⟨i,x,hx,.inl (by rw[bU];exact hp)⟩
 have hno:∀{j s},j<3->(s,(⟨g,i*3+j,G⟩:J))∈aT h es ds ms qs scan dn mn->(s,(⟨g,i*3+j,G⟩:J))∈Ov (H ⟨g,0,G⟩) i x:=fun {j s} hj hp=>by
  rcases l.which hp with⟨t,_⟩|⟨_,e',he',hb',hh⟩|⟨t,_⟩|⟨t,_⟩|⟨t,_⟩|⟨t,_⟩
  .exact(ht.no t aj).elim
  .obtain rfl:=SV (val:=EvC.val) l.pe he he' hg hb'
   rw[ha] at hh;obtain⟨q,z,hz,hh⟩:=(fG (scan e) 0 _).1 hh;rcases hh with hh|hh
   .rw[bU] at hh
    have:=((Oy (b:=g) q z).2 _ hh).2;simp only at this;obtain rfl:q=i:=by omega
    rw[hx] at hz;injection hz with hz;subst hz;exact hh
   .cases hh
  .exact(ht.no t aj).elim
  .exact(ht.no t aj).elim
  .exact(ht.no t aj).elim
  .exact(ht.no t aj).elim
 rcases(by omega:j=0\/j=1\/j=2) with rfl|rfl|rfl
 .refine .inr ⟨2,x.obj,hin (by simp[Ov,nM]),?_,rfl⟩
  injection hu with hu;exact hu.symm
 .by_cases hk:0<x.v.k
  .refine .inr ⟨0,x.v.t,hin (iJ _ (rG.2 ⟨by simp[nM],hk⟩)),?_,?_⟩
   .injection hu with hu;exact hu.symm
   .show H (K W (kH F x.v).t)=_
    unfold kH;rw[ay hk]
  .refine .inl ⟨?_,λs hp=>?_⟩
   .rw[<-hu]
    show H (K W (kH F x.v).t)=H (K W x.v.t);unfold kH;rw[ak hk]
   .rcases dP.1 (hno ah hp) with hh|hh
    .have:=sS hh;omega
    .exact hk (rG.1 hh).2
 .refine .inl ⟨?_,λs hp=>?_⟩
  .rw[<-hu]
   show H (K W (kH F x.v).k)=H (K W x.v.k);unfold kH
   split <;> rfl
  .rcases dP.1 (hno ah hp) with hh|hh
   .have:=sS hh;omega
   .have:=sS (rG.1 hh).1;omega
theorem Lay.XT (l:Lay X B h es ds ms qs scan dn mn)(hM:Moved X Y F (aT h es ds ms qs scan dn mn)){a:Option J}{n c:I}{L:A C}(ho:Own X B 3 1 aQ (V a n c) L)(hin:∀p∈nO a 0 L,p∈aT h es ds ms qs scan dn mn):Own Y B 3 1 aQ (V a n c) (L.map (dh (F 0))):=by
 refine ho.moved (hc:=ig) hM (by rw[bH]) (λg hg i x y j u hx hy hu=>?_);have ha:=Gy ho hg;rw[lZ,hx] at hy;injection hy with hy;subst hy;have hj1:j<1:=by have:=(bG.1 hu).1;simpa[aQ] using this
 obtain rfl:j=0:=by omega
 refine .inr ⟨0,x,hin _ ?_,?_,rfl⟩
 .rw[ha]
  exact(fG L 0 _).2 ⟨i,x,hx,.inl (by simp[hdI,nM])⟩
 .injection hu with hu;exact hu.symm
theorem Lay.ahA (l:Lay X B h es ds ms qs scan dn mn)(hM:Moved X Y F (aT h es ds ms qs scan dn mn)){x:aM}(hx:x∈ds):Own Y B 3 1 aQ x.val ((dn x).map (dh (F 0))):=
 l.XT hM (l.sd x hx) (λp hp=>(let⟨q,hq⟩:=u6.1 hx;acn ((fG ds 0 _).2 ⟨q,x,hq,.inr hp⟩)))
theorem Lay.ahB (l:Lay X B h es ds ms qs scan dn mn)(hM:Moved X Y F (aT h es ds ms qs scan dn mn)){x:aN}(hx:x∈ms):Own Y B 3 1 aQ x.val ((mn x).map (dh (F 0))):=
 l.XT hM (l.sm x hx) (λp hp=>(let⟨q,hq⟩:=u6.1 hx;UJ ((fG ms 0 _).2 ⟨q,x,hq,.inr hp⟩)))
theorem Lay.aj3 (l:Lay X B h es ds ms qs scan dn mn){b o k j:I}(ha:h.e.a=H ⟨b,o,G⟩)(hj:j=0\/j=6\/j=8)(s:C):(s,(⟨b,o+k*9+j,G⟩:J))∉aT h es ds ms qs scan dn mn:=λhp=>by
 rcases(show Own X B 47 9 dO (V h.e.a h.e.n h.e.c) es from l.oe).yF with⟨q,_⟩|⟨g,q,_⟩
 .rw[ha] at q;cases q
 .rw[ha] at q
  injection q with q;injection q with q1 q2;subst q1 q2;rw[bU] at hp;obtain⟨e,_,hc⟩:=l.aco ha ah hp;omega
theorem Lay.aj4 (l:Lay X B h es ds ms qs scan dn mn){b o k:I}(ha:h.d.a=H ⟨b,o,G⟩)(s:C):(s,(⟨b,o+k*2+1,G⟩:J))∉aT h es ds ms qs scan dn mn:=λhp=>by
 have ho:Own X B 74 2 eZ (V h.d.a h.d.n h.d.c) ds:=l.od;rcases ho.yF with⟨q,_⟩|⟨g,q,_⟩
 .rw[ha] at q;cases q
 .rw[ha] at q
  injection q with q;injection q with q1 q2;subst q1 q2;have ht:Ty X b 74:=l.od.tag (by show(Value.slice h.d.a h.d.n h.d.c).ownBlock=H b;rw[ha];rfl);rcases l.which hp with⟨t,_⟩|⟨t,_⟩|⟨_,i',e,he,hh⟩|⟨t,_⟩|⟨t,_⟩|⟨t,_⟩
  .exact ht.no t aj
  .exact ht.no t aj
  .rw[ha] at hh
   have:=sS (bF.1 hh);omega
  .exact ht.no t aj
  .exact ht.no t aj
  .exact ht.no t aj
theorem Lay.aj5 (l:Lay X B h es ds ms qs scan dn mn){b o k:I}(ha:h.m.a=H ⟨b,o,G⟩)(s:C):(s,(⟨b,o+k*4+3,G⟩:J))∉aT h es ds ms qs scan dn mn:=λhp=>by
 have ho:Own X B 77 4 eP (V h.m.a h.m.n h.m.c) ms:=l.om;rcases ho.yF with⟨q,_⟩|⟨g,q,_⟩
 .rw[ha] at q;cases q
 .rw[ha] at q
  injection q with q;injection q with q1 q2;subst q1 q2;have ht:Ty X b 77:=l.om.tag (by show(Value.slice h.m.a h.m.n h.m.c).ownBlock=H b;rw[ha];rfl);rcases l.which hp with⟨t,_⟩|⟨t,_⟩|⟨t,_⟩|⟨_,i',e,he,hh⟩|⟨t,_⟩|⟨t,_⟩
  .exact ht.no t aj
  .exact ht.no t aj
  .exact ht.no t aj
  .rw[ha] at hh
   rcases dP.1 hh with hh|hh
   .have:=sS hh;omega
   .have:=sS (bF.1 hh);omega
  .exact ht.no t aj
  .exact ht.no t aj
theorem Lay.kC (l:Lay X B h es ds ms qs scan dn mn){e:EvC}(he:e∈es){b o k:I}(ha:e.sa=H ⟨b,o,G⟩)(s:C):(s,(⟨b,o+k*3+2,G⟩:J))∉aT h es ds ms qs scan dn mn:=λhp=>by
 have ho:Own X B 117 3 bS (V e.sa e.sn e.sc) (scan e):=l.se e he;rcases ho.yF with⟨q,_⟩|⟨g,q,_⟩
 .rw[ha] at q;cases q
 .rw[ha] at q
  injection q with q;injection q with q1 q2;subst q1 q2;have hg:e.val.ownBlock=H b:=by show(Value.slice e.sa e.sn e.sc).ownBlock=H b;rw[ha];rfl
  have ht:Ty X b 117:=(l.se e he).tag hg;rcases l.which hp with⟨t,_⟩|⟨_,e',he',hb',hh⟩|⟨t,_⟩|⟨t,_⟩|⟨t,_⟩|⟨t,_⟩
  .exact ht.no t aj
  .obtain rfl:=SV (val:=EvC.val) l.pe he he' hg hb'
   rw[ha] at hh;obtain⟨q,z,hz,hh⟩:=(fG (scan e) 0 _).1 hh;rcases hh with hh|hh
   .rw[bU] at hh
    rcases dP.1 hh with hh|hh
    .have:=sS hh;omega
    .have:=sS (rG.1 hh).1;omega
   .cases hh
  .exact ht.no t aj
  .exact ht.no t aj
  .exact ht.no t aj
  .exact ht.no t aj
end
end Yd
namespace Yd
open Option renaming none->G,some->S
open Go Go.RowKit Go.Proofs Go.Maps Tryz
open Go.Obj renaming cells->J
open Go.Value renaming slice->H
open Yd renaming hid->U
open _root_ renaming Int->I,List->O
section
variable {P:Program}{k e T:TypeId}{W W':World}{b n:Nat}{f:I->I->Option I}
theorem nG.ahC (h:nG P k e W b n f)(K:WideMaps.KeyLaw P k)(hT:P.underlying T=S (.map k e))(he:P.underlying e=S (.int .i64))(hz:(zeroValue e).run P W= .ok (.int .i64 0) W){t x:I}{kl:Lit}(hk:keyOf P k (nU t x)=S kl):
  (Instr.lookup T (.map (S b)) (nU t x) true).run P W= .ok (.tuple #[.int .i64 ((f t x).getD 0),.bool (f t x).isSome]) W:=by
 obtain⟨D,hD,⟨es,clock,hb,F,hs,hd⟩,hat⟩:=h;obtain⟨h1,h2⟩:=hat t x kl hk;rcases Maps.fit_look true (Keyed.of_law K) hT hz hb F hk with⟨hrun,_,hno⟩|⟨e0,y,_,_,hrun,hRv,hy,_⟩
 .have e1:=hno (.lit (.int .i64 0))
  rw[<-hd] at e1;rw[e1] at h1;injection h1 with h1;injection h1 with _ h1;have e2:=has_false_of_atKey (D:=D) (k:=kl) (λz=>by rw[hd];exact hno z);rw[h2] at e2;rw[<-h1,e2];exact hrun
 .obtain⟨c,hc1,hc2,_⟩:=plainElem_int_inv he hRv
  have e1:=hy (.lit (.int .i64 0));rw[<-hd,h1] at e1;rw[hc2] at e1;injection e1 with e1;injection e1 with _ e1;have e2:=has_true_of_atKey (D:=D) (k:=kl) (λz=>by rw[hd];exact hy z);rw[h2] at e2;rw[e1,e2];rw[hc1] at hrun;exact hrun
end
theorem XU:103<Tryz.prog.types.size:=xY av
theorem aea:(match Tryz.prog.underlying 103 with|some (.array _ _)|some (.struct _)=>true|_=>false)=true:=av
theorem aeb:laidOutB Tryz.prog=true:=av
theorem aj6:Tryz.prog.keyTypeAt 3 103=true:=av
theorem XV:WideMaps.KeyLaw Tryz.prog 103:=deep_law_laid aeb (m:=3) ah XU aj6 aea
theorem aec:Tryz.prog.keyType 103=true:=av
theorem Qf:Tryz.prog.cellsOf 103=2:=av
theorem ahD:Tryz.prog.cellsOf 3=1:=av
theorem aed (u:World):(zeroValue 3).run Tryz.prog u= .ok (.int .i64 0) u:=av
theorem aee (t x:I)(h1:(Lit.int .i64 t).wf=true)(h2:(Lit.int .i64 x).wf=true)(n:Nat):Tryz.prog.keyLits (n+2) 103 [.int .i64 t,.int .i64 x]=S [.int .i64 t,.int .i64 x]:=by
 have e1:Tryz.prog.keyLits (n+1) 3 [.int .i64 t]=S [.int .i64 t]:=by
  unfold Program.keyLits;rw[underlying3];simp[h1]
 have e2:Tryz.prog.keyLits (n+1) 3 [.int .i64 x]=S [.int .i64 x]:=by
  unfold Program.keyLits;rw[underlying3];simp[h2]
 unfold Program.keyLits;rw[underlying103];simp[Qf,ahD,List.mapM_cons,List.range,List.range.loop,e1,e2]
theorem XW {t x:I}(h1:(Lit.int .i64 t).wf=true)(h2:(Lit.int .i64 x).wf=true):keyOf Tryz.prog 103 (nU t x)=S (.string (keyBytes [.int .i64 t,.int .i64 x])):=by
 have hs:Tryz.prog.types.size+1=(Tryz.prog.types.size - 1)+2:=by have:=XU;omega
 unfold keyOf;rw[underlying103];simp only[aec,hs];rw[ay (by simp[Value.formed,underlying103,Qf])];rw[show(nU t x).cells.toList=[.int .i64 t,.int .i64 x] from rfl,aee t x h1 h2]
 rfl
def Fy (vs:O (I × I))(s n:I):Option I:=if n∈bK vs s then S ((bK vs s).idxOf n:I) else G
def Dn (vs:O (I × I)):Nat:=(bK vs 0).length+(bK vs 1).length+(bK vs 2).length+(bK vs 3).length
@[reducible] def xQ (m:Nat->Sl):Array Value:=#[(m 0).v,(m 1).v,(m 2).v,(m 3).v]
theorem sN (m:Nat->Sl){s:Nat}(hs:s<4):(xQ m)[s]?=S (m s).v:=by
 match s,hs with
 |0,_=>rfl
 |1,_=>rfl
 |2,_=>rfl
 |3,_=>rfl
theorem Bx.aj7 {X:World}{b:Nat}{m:Nat->Sl}(h:Bx X b (xQ m)){s:Nat}(hs:s<4)(v:Sl):Bx (X.setCell ⟨b,s,G⟩ v.v) b (xQ λi=>if i=s then v else m i):=by
 refine⟨λi=>?_,λi=>by rw[World.frozen?_setCell];exact h.2.1 i,by have:=h.2.2;simpa[World.setCell] using this⟩;by_cases hi:i=s
 .subst hi
  rw[World.cell?_setCell_same' _ _ _ (by rw[h.1 i,sN m hs];rfl),sN _ hs,ay rfl]
 .rw[World.cell?_setCell_other _ _ _ _ (λe=>by cases e;exact hi rfl),h.1 i]
  rcases jP i 4 with h4|h4
  .rw[sN m h4,sN _ h4,ak hi]
  .rw[D9 (by simpa using h4),D9 (by simpa using h4)]
theorem Gz {vs:O (I × I)}{s n:I}(h:n∈bK vs s):bK (vs++[(s,n)])=bK vs:=by
 funext t
 rw[nH];by_cases e:s=t
 .subst e
  rw[ay rfl];unfold mO;rw[ay h]
 .rw[ak e]
theorem zw {vs:O (I × I)}{s n:I}(h:n∉bK vs s)(t:I):bK (vs++[(s,n)]) t=if s=t then bK vs t++[n] else bK vs t:=by
 rw[nH];by_cases e:s=t
 .subst e
  rw[ay rfl,ay rfl];unfold mO;rw[ak h]
 .rw[ak e,ak e]
theorem aef {vs:O (I × I)}{s n:I}(h:n∉bK vs s):Fy (vs++[(s,n)])=λt x=>if t=s/\x=n then S ((bK vs s).length:I) else Fy vs t x:=by
 funext t x
 unfold Fy;rw[zw h];by_cases e:s=t
 .subst e
  rw[ay rfl];by_cases hx:x=n
  .subst hx
   have h1:x∈bK vs s++[x]:=by simp
   have h2:(bK vs s++[x]).idxOf x=(bK vs s).length:=by rw[List.idxOf_append,ak h];simp
   simp only[h1,h2,and_self,dw]
  .have h3:¬(s=s/\x=n):=λq=>hx q.2
   by_cases hm:x∈bK vs s
   .have h1:x∈bK vs s++[n]:=nP _ hm
    have h2:(bK vs s++[n]).idxOf x=(bK vs s).idxOf x:=by rw[List.idxOf_append,ay hm]
    rw[ay h1,h2];refine Eq.trans ?_ (ak h3).symm;rw[ay hm]
   .have h1:¬x∈bK vs s++[n]:=λq=>by
     rcases bJ.1 q with q|q
     .exact hm q
     .exact hx (bF.1 q)
    rw[ak h1];refine Eq.trans ?_ (ak h3).symm;rw[ak hm]
 .have h3:¬(t=s/\x=n):=λq=>e q.1.symm
  simp only[ak e,ak h3]
theorem oQ (a:Option Addr)(q:Nat):∃g o,nM a q=(⟨g,o,G⟩:Addr):=by
 cases a with
 |none=>exact⟨0,0,rfl⟩
 |some x=>exact⟨_,_,rfl⟩
def qA (l:O (I × Addr)):Prop:=∀p∈l,∃g o,p.2=(⟨g,o,G⟩:Addr)
theorem qA.gr {α:Type}{hd:Nat->α->O (I × Addr)}{sub:α->O (I × Addr)}{xs:O α}(h1:∀i x,qA (hd i x))(h2:∀x,qA (sub x)):qA (gr hd sub 0 xs):=λp hp=>by
 obtain⟨j,x,_,hp⟩:=(fG xs 0 p).1 hp;rcases hp with hp|hp
 .exact h1 _ _ p hp
 .exact h2 _ p hp
theorem qA.nil:qA []:=λp hp=>by cases hp
theorem qA.bR (a:Option Addr)(q:Nat)(v:kZ):qA (jZ (nM a q) v):=λp hp=>by
 rw[(rG.1 hp).1];exact oQ a q
theorem qA.sn (a:Option Addr)(l:O Sn):qA (su a 0 l):=qA.gr (λi x p hp=>by
 rcases dP.1 hp with rfl|hp
 .exact oQ a _
 .exact qA.bR a _ _ p hp) (λ_=>qA.nil)
theorem qA.ints (a:Option Addr)(l:O I):qA (nO a 0 l):=qA.gr (λi x p hp=>by
 rw[bF.1 hp];exact oQ a _) (λ_=>qA.nil)
theorem qA.all (h:HC)(es:O EvC)(ds:O aM)(ms:O aN)(qs:O Wa)(scan:EvC->O Sn)(dn:aM->O I)(mn:aN->O I):qA (aT h es ds ms qs scan dn mn):=λp hp=>by
 unfold aT at hp;rcases bJ.1 hp with hp|hp
 .refine qA.gr (λi x p hp=>?_) (λx=>qA.sn _ _) p hp
  unfold vO at hp;rcases dP.1 hp with rfl|hp
  .exact oQ _ _
  .split at hp
   .rw[bF.1 hp];exact oQ _ _
   .split at hp
    .rcases dP.1 hp with rfl|hp
     .exact oQ _ _
     .exact qA.bR _ _ _ p hp
    .split at hp
     .rw[bF.1 hp];exact oQ _ _
     .cases hp
 .rcases bJ.1 hp with hp|hp
  .exact qA.gr (λi x p hp=>by rw[bF.1 hp];exact oQ _ _) (λx=>qA.ints _ _) p hp
  .rcases bJ.1 hp with hp|hp
   .exact qA.gr (λi x p hp=>by
     rcases dP.1 hp with rfl|hp
     .exact oQ _ _
     .rw[bF.1 hp];exact oQ _ _) (λx=>qA.ints _ _) p hp
   .exact qA.gr (λi x p hp=>by rw[bF.1 hp];exact oQ _ _) (λ_=>qA.nil) p hp
theorem Own.ahE {α:Type}{enc:α->O Value}{k:Nat}{X:World}{B:Nat}{T:TypeId}{v:Value}{xs:O α}(h:Own X B T k enc v xs){g:Nat}(hv:v.ownBlock=S g):∃cs,X.1[g]?=S (J cs T (0,0)):=by
 obtain⟨_,h2⟩:=h;rcases h2 with⟨he,_⟩|⟨g',cap,cur,he,_,hh,_⟩
 .rw[he] at hv;cases hv
 .rw[he] at hv
  injection hv with hv;rw[<-hv];exact⟨cur,hh⟩
def GA (X:World)(g:Nat):Prop:=∃cs T,X.1[g]?=S (J cs T (0,0))
theorem GA.frozen {X:World}{g j:Nat}(h:GA X g):X.frozen? ⟨g,j,G⟩=false:=by
 obtain⟨cs,T,h⟩:=h;unfold World.frozen?;simp[h]
theorem Lay.soft {X:World}{B:Nat}{h:HC}{es:O EvC}{ds:O aM}{ms:O aN}{qs:O Wa}{scan:EvC->O Sn}{dn:aM->O I}{mn:aN->O I}(l:Lay X B h es ds ms qs scan dn mn){p:I × Addr}(hp:p∈aT h es ds ms qs scan dn mn):GA X p.2.block/\B<=p.2.block:=by
 have of:∀{α:Type}{enc:α->O Value}{k:Nat}{T:TypeId}{a:Option Addr}{n c:Nat}{xs:O α},Own X B T k enc (H a n c) xs->a.map Addr.block=S p.2.block->GA X p.2.block/\B<=p.2.block:=λho ha=>by
  rcases ho.yF with⟨q,_⟩|⟨g,q,_,_,hB⟩
  .rw[q] at ha;cases ha
  .rw[q] at ha
   injection ha with ha;have ha:g=p.2.block:=ha;obtain⟨cs,e⟩:=ho.ahE (g:=g) (by rw[q];rfl);rw[ha] at e hB;exact⟨⟨cs,_,e⟩,hB⟩
 have ofv:∀{α:Type}{enc:α->O Value}{k:Nat}{T:TypeId}{v:Value}{xs:O α},Own X B T k enc v xs->v.ownBlock=S p.2.block->GA X p.2.block/\B<=p.2.block:=λho ha=>(let⟨cs,e⟩:=ho.ahE ha;⟨⟨cs,_,e⟩,(ho.lt _ ha).1⟩)
 have ad:∀{a:Option Addr}{q:Nat},p.2=nM a q->a≠G->a.map Addr.block=S p.2.block:=λe hn=>by
  rename_i a q
  cases a with
  |none=>exact absurd rfl hn
  |some x=>rw[e];rfl
 have ne:∀{α:Type}{enc:α->O Value}{k:Nat}{T:TypeId}{a:Option Addr}{n c:Nat}{xs:O α}{i:Nat}{x:α},Own X B T k enc (H a n c) xs->xs[i]?=S x->a≠G:=λho hx e=>by
  rcases ho.yF with⟨_,q⟩|⟨g,q,_⟩
  .rw[q] at hx;cases hx
  .rw[e] at q;cases q
 rcases l.which hp with⟨t,i,e,he,hh⟩|⟨t,e,he,hb,_⟩|⟨t,i,x,hx,hh⟩|⟨t,i,x,hx,hh⟩|⟨t,i,x,hx,hh⟩|⟨t,⟨x,hx,hb,_⟩|⟨x,hx,hb,_⟩⟩
 .have hn:=ne (show Own X B 47 9 dO (H h.e.a h.e.n h.e.c) es from l.oe) he
  refine of (show Own X B 47 9 dO (H h.e.a h.e.n h.e.c) es from l.oe) ?_
  cases ha:h.e.a with
  |none=>exact absurd ha hn
  |some x=>
   rcases(show Own X B 47 9 dO (H h.e.a h.e.n h.e.c) es from l.oe).yF with⟨q,_⟩|⟨g,q,_⟩
   .exact absurd q hn
   .rw[ha] at q
    injection q with q;subst q;rw[ha] at hh;exact dF S ((Oz (b:=g) i e).2 p hh).1.symm
 .exact ofv (l.se e he) hb
 .rw[bF.1 hh] at ad
  exact of (show Own X B 74 2 eZ (H h.d.a h.d.n h.d.c) ds from l.od) (by rw[bF.1 hh];exact ad rfl (ne (show Own X B 74 2 eZ (H h.d.a h.d.n h.d.c) ds from l.od) hx))
 .refine of (show Own X B 77 4 eP (H h.m.a h.m.n h.m.c) ms from l.om) ?_
  have hn:=ne (show Own X B 77 4 eP (H h.m.a h.m.n h.m.c) ms from l.om) hx;rcases dP.1 hh with hh|hh
  .exact ad (by rw[hh]) hn
  .exact ad (by rw[bF.1 hh]) hn
 .exact of (show Own X B 79 2 fQ (H h.w.a h.w.n h.w.c) qs from l.oq) (ad (by rw[bF.1 hh]) (ne (show Own X B 79 2 fQ (H h.w.a h.w.n h.w.c) qs from l.oq) hx))
 .exact ofv (l.sd x hx) hb
 .exact ofv (l.sm x hx) hb
theorem Moved.soft {w0 X:World}{F:I->O I}{pre:O (I × Addr)}(h:Moved w0 X F pre){g:Nat}(hs:GA w0 g):GA X g:=by
 obtain⟨cs,T,e⟩:=hs;obtain⟨cs',e',_⟩:=h g cs T _ e;exact⟨cs',T,e'⟩
theorem QX {X Y:World}{B B':Nat}{h:HC}{es:O EvC}{ds:O aM}{ms:O aN}{qs:O Wa}{scan:EvC->O Sn}{dn:aM->O I}{mn:aN->O I}{F:I->O I}(l:Lay X B h es ds ms qs scan dn mn){pre:O (I × Addr)}(hsub:∀p∈pre,p∈aT h es ds ms qs scan dn mn)(hM:Moved X Y F pre){v:Value}{L:O Bs}(ho:Own X B' 9 1 encStr v L):Own Y B' 9 1 encStr v L:=by
 refine ho.moved (hc:=jQ) hM rfl (λg hg i x y j u hx hy hu=> .inl ⟨?_,λs hp=>?_⟩)
 .rw[hx] at hy;injection hy with hy;rw[<-hy];exact hu
 .have ht:Ty X g 9:=ho.tag hg
  rcases l.which (hsub _ hp) with⟨t,_⟩|⟨t,_⟩|⟨t,_⟩|⟨t,_⟩|⟨t,_⟩|⟨t,_⟩ <;> exact ht.no t aj
def lS (w3:World)(pre:O (I × Addr)):O (I × I):=pre.map (jU w3)
def XY (sl:Nat->Sl):Prop:=∀q q',q<4->q'<4->q≠q'->∀g,(sl q).v.ownBlock=S g->(sl q').v.ownBlock≠S g
structure NI (w w3:World)(N ws wa bm mo:Nat)(h:HC)(nl:Nat->O Bs)(F:I->O I)(xs pre:O (I × Addr))(X:World):Prop where
 sub:∀p∈pre,p∈xs
 b:Below w.1.size w X
 m:Moved w3 X F pre
 bx:Bx X w.1.size (aH h)
 r:Bx X (w.1.size+1) #[H G 0 0,H G 0 0,H G 0 0,H G 0 0,H G 0 0,H G 0 0,H G 0 0,H G 0 0]
 ws:Bx X ws #[h.t.v,h.s.v,h.o.v,h.p.v]
 wa:∃sl:Nat->Sl,Bx X wa (xQ sl)/\(∀s,s<4->Own X N 9 1 encStr (sl s).v ((bK (lS w3 pre) (s:I)).map (aS (nl s))))/\XY sl
 mv:Bx X bm #[.map (S mo)]
 mp:nG Tryz.prog 103 3 X mo (Dn (lS w3 pre)) (Fy (lS w3 pre))
theorem NI.same {w w3:World}{N ws wa bm mo V:Nat}{h:HC}{nl:Nat->O Bs}{F:I->O I}{xs pre:O (I × Addr)}{X Y:World}(i:NI w w3 N ws wa bm mo h nl F xs pre X)(hs:Same (λi=>i<V\/V+5<=i) X Y)(hN:V+5<=N)(h3:w3.1.size<=V)(hw:w.1.size+1<V)(h1:ws<V)(h2:wa<V)(h4:bm<V)(h5:mo<V):NI w w3 N ws wa bm mo h nl F xs pre Y:=
 ⟨i.sub,hs.below i.b (λq hq=> .inl ah) i.b.size,i.m.same (hs.mono (λq hq _=> .inl ah)),hs.bx i.bx (.inl ah),hs.bx i.r (.inl ah),hs.bx i.ws (.inl h1),
 (let⟨sl,a1,a2,a3⟩:=i.wa;⟨sl,hs.bx a1 (.inl h2),λs hs4=>(a2 s hs4).same hs (λg hg=> .inr (by have:=((a2 s hs4).lt g hg).1;omega)),a3⟩),hs.bx i.mv (.inl h4),i.mp.of_eq (hs.block mo (.inl h5) i.mp.lt)⟩
theorem NI.fin {w w3:World}{N ws wa bm mo:Nat}{h:HC}{nl:Nat->O Bs}{F:I->O I}{xs pre:O (I × Addr)}{Y:World}{s:I}{b o:Nat}{n v:I}(hsub:∀p∈pre++[(s,(⟨b,o,G⟩:Addr))],p∈xs)(hb:Below w.1.size w Y)(hm:Moved w3 Y F pre)(hbx:Bx Y w.1.size (aH h))
  (hr:Bx Y (w.1.size+1) #[H G 0 0,H G 0 0,H G 0 0,H G 0 0,H G 0 0,H G 0 0,H G 0 0,H G 0 0]) (hws:Bx Y ws #[h.t.v,h.s.v,h.o.v,h.p.v])
  (rD:∃sl:Nat->Sl,Bx Y wa (xQ sl)/\(∀q,q<4->Own Y N 9 1 encStr (sl q).v ((bK (lS w3 (pre++[(s,(⟨b,o,G⟩:Addr))])) (q:I)).map (aS (nl q))))/\XY sl) (hmv:Bx Y bm #[.map (S mo)])
  (hmp:nG Tryz.prog 103 3 Y mo (Dn (lS w3 (pre++[(s,(⟨b,o,G⟩:Addr))]))) (Fy (lS w3 (pre++[(s,(⟨b,o,G⟩:Addr))]))))
  (hnot:∀s',(s',(⟨b,o,G⟩:Addr))∉pre) (hn0:w3.cell? ⟨b,o,G⟩=S (.int .i64 n)) (hv:v=dh (F s) n) (hlo:w.1.size+1<b) (aod:b≠ws) (aoe:b≠wa) (aof:b≠bm) (aog:b≠mo) (hN:b<N):
  NI w w3 N ws wa bm mo h nl F xs (pre++[(s,(⟨b,o,G⟩:Addr))]) (Y.setCell ⟨b,o,G⟩ (.int .i64 v)):=by
 have hs:Same (λi=>i≠b) Y (Y.setCell ⟨b,o,G⟩ (.int .i64 v)):=(Same.refl' Y).setTail (λh=>h rfl);exact⟨hsub,hb.setCell (p:=⟨b,o,G⟩) (by show _<=b;omega) _,hm.step hnot hn0 hv,hs.bx hbx ah,hs.bx hr ah,hs.bx hws aod.symm,(let⟨sl,a1,a2,a3⟩:=rD;⟨sl,hs.bx a1 aoe.symm,λq hq=>(a2 q hq).same hs (λg hg e=>by have:=((a2 q hq).lt g hg).1;omega),a3⟩),hs.bx hmv aof.symm,hmp.of_eq (hs.block mo aog.symm hmp.lt)⟩
theorem Same.yx {A:Nat->Prop}{X Y:World}{b o:Nat}{v:Value}(s:Same A X Y)(h:X.cell? ⟨b,o,G⟩=S v)(ha:A b):Y.cell? ⟨b,o,G⟩=S v:=
 (World.cell?_of_block (a:=⟨b,o,G⟩) (s.block b ha (jC h))).trans h
theorem XZ {vs:O (I × I)}{s n:I}(h:n∈bK vs s):Fy (vs++[(s,n)])=Fy vs:=by
 funext t x
 unfold Fy;rw[Gz h]
theorem UK {vs:O (I × I)}{s n:I}(h:n∈bK vs s):Dn (vs++[(s,n)])=Dn vs:=by
 unfold Dn;rw[Gz h]
theorem aaB {vs:O (I × I)}{s:Nat}{n:I}(hs:s<4)(h:n∉bK vs (s:I)):Dn (vs++[((s:I),n)])=Dn vs+1:=by
 unfold Dn;rw[zw h,zw h,zw h,zw h];rcases(by omega:s=0\/s=1\/s=2\/s=3) with rfl|rfl|rfl|rfl
 .rw[ay aj,ak aj,ak aj,ak aj,dH];simp;omega
 .rw[ak aj,ay aj,ak aj,ak aj,dH];simp;omega
 .rw[ak aj,ak aj,ay aj,ak aj,dH];simp;omega
 .rw[ak aj,ak aj,ak aj,ay aj,dH];simp;omega
theorem aaC {α:Type}{pre xs:O α}{x:α}(h:pre++[x]<+:xs):∀p∈pre++[x],p∈xs:=λ_ hp=>h.subset hp
theorem Qg {α β:Type}{Y:World}{B:Nat}{T:TypeId}{ek:Nat}{enc:β->O Value}[hc:Cells enc ek](hinj:∀x y,enc x=enc y->x=y){a:α->Option Addr}{n q:α->Nat}{r:α->α}(ha:∀x,a (r x)=a x)(hn:∀x,n (r x)=n x)(hq:∀x,q (r x)=q x){xs:O α}{g:α->O β}(h:∀x∈xs,Own Y B T ek enc (H (a x) (n x) (q x)) (g x))(hl:∀x∈xs,(g x).length<=140737488355328):
  ∃f:α->O β,(∀y∈xs.map r,Own Y B T ek enc (H (a y) (n y) (q y)) (f y))/\(xs.map r).map f=xs.map g:=by
 have key:∀x∈xs,Classical.epsilon (λL=>Row Y ek enc (a (r x)) (n (r x)) (q (r x)) L)=g x:=λx hx=>by
  have hr:=(h x hx).row (hc:=hc) (hl x hx);rw[<-ha,<-hn,<-hq] at hr;exact Dz (hc:=hc) hinj hr
 refine⟨λy=>Classical.epsilon (λL=>Row Y ek enc (a y) (n y) (q y) L),λy hy=>?_,?_⟩
 .obtain⟨x,hx,rfl⟩:=dQ.1 hy
  show Own Y B T ek enc (H (a (r x)) (n (r x)) (q (r x))) (Classical.epsilon (λL=>Row Y ek enc (a (r x)) (n (r x)) (q (r x)) L));rw[key x hx,ha,hn,hq];exact h x hx
 .rw[tO]
  exact wQ (λx hx=>key x hx)
theorem bV {X:World}{b o b' o':Nat}{v u:Value}(h:X.cell? ⟨b,o,G⟩=S v)(hne:b≠b'):(X.setCell ⟨b',o',G⟩ u).cell? ⟨b,o,G⟩=S v:=
 (World.cell?_of_block (a:=⟨b,o,G⟩) (Below.heap_setCell X ⟨b',o',G⟩ u b hne)).trans h
structure iY (X:World)(B:Nat)(h:HC)(c:Cont)(es:O EvC)(ds:O aM)(ms:O aN)(scan:EvC->O Sn)(dn:aM->O I)(mn:aN->O I):Prop where
 oe:Own X B 47 9 dO (H h.e.a h.e.n h.e.c) es
 od:Own X B 74 2 eZ (H h.d.a h.d.n h.d.c) ds
 om:Own X B 77 4 eP (H h.m.a h.m.n h.m.c) ms
 oq:Own X B 79 2 fQ (H h.w.a h.w.n h.w.c) c.Q
 on:∀i,i<4->Own X B 9 1 encStr (H (h.nm i).a (h.nm i).n (h.nm i).c) (c.nl i)
 se:∀x∈es,Own X B 117 3 bS (H x.sa x.sn x.sc) (scan x)
 sd:∀x∈ds,Own X B 3 1 aQ (H x.sa x.sn x.sc) (dn x)
 sm:∀x∈ms,Own X B 3 1 aQ (H x.sa x.sn x.sc) (mn x)
 be:es.map EvC.base=c.E
 bd:ds.map aM.base=c.D
 bm:ms.map aN.base=c.M
 ss:es.map scan=c.SE
 ts:ds.map dn=c.SD
 us:ms.map mn=c.SM
structure CK (c:Cont):Prop where
 e:c.E.length<=2000000
 d:c.D.length<=2000000
 m:c.M.length<=2000000
 q:c.Q.length<=2000000
 n:∀i,i<4->(c.nl i).length<=2000000
 se:∀L∈c.SE,L.length<=2000000
 sd:∀L∈c.SD,L.length<=2000000
 sm:∀L∈c.SM,L.length<=2000000
section
variable {X Y:World}{B:Nat}{h:HC}{c:Cont}{es:O EvC}{ds:O aM}{ms:O aN}{scan:EvC->O Sn}{dn:aM->O I}{mn:aN->O I}
theorem iY.imp (o:iY X B h c es ds ms scan dn mn)(hi:∀{α:Type}{enc:α->O Value}{k:Nat}{T:TypeId}{v:Value}{xs:O α},Own X B T k enc v xs->Own Y B T k enc v xs):iY Y B h c es ds ms scan dn mn:=
 ⟨hi o.oe,hi o.od,hi o.om,hi o.oq,λi h=>hi (o.on i h),λx h=>hi (o.se x h),λx h=>hi (o.sd x h),λx h=>hi (o.sm x h),o.be,o.bd,o.bm,o.ss,o.ts,o.us⟩
theorem iY.same (o:iY X B h c es ds ms scan dn mn)(s:Same (λi=>B<=i) X Y):iY Y B h c es ds ms scan dn mn:=o.imp (λho=>ho.same s (λg hg=>(ho.lt g hg).1))
theorem iY.below (o:iY X B h c es ds ms scan dn mn)(s:Below X.1.size X Y):iY Y B h c es ds ms scan dn mn:=o.imp (λho=>ho.below s rfl)
theorem iY.mono {B':Nat}(o:iY X B h c es ds ms scan dn mn)(hB:B'<=B):iY X B' h c es ds ms scan dn mn:=
 ⟨o.oe.mono hB,o.od.mono hB,o.om.mono hB,o.oq.mono hB,λi h=>(o.on i h).mono hB,λx h=>(o.se x h).mono hB,λx h=>(o.sd x h).mono hB,λx h=>(o.sm x h).mono hB,o.be,o.bd,o.bm,o.ss,o.ts,o.us⟩
theorem iY.deep (o:iY X B h c es ds ms scan dn mn)(z:CK c):Deep X h es ds ms c.Q scan dn mn:=
 ⟨o.oe.row (hc:=sP) (by have:=z.e;rw[<-o.be,bH] at this;omega),o.od.row (hc:=uJ) (by have:=z.d;rw[<-o.bd,bH] at this;omega),o.om.row (hc:=rJ) (by have:=z.m;rw[<-o.bm,bH] at this;omega),o.oq.row (hc:=wC) (by have:=z.q;omega),
 λx hx=>(o.se x hx).row (hc:=oJ) (by have:=z.se (scan x) (by rw[<-o.ss];exact qQ hx);omega),λx hx=>(o.sd x hx).row (hc:=ig) (by have:=z.sd (dn x) (by rw[<-o.ts];exact qQ hx);omega),λx hx=>(o.sm x hx).row (hc:=ig) (by have:=z.sm (mn x) (by rw[<-o.us];exact qQ hx);omega)⟩
theorem iY.names (o:iY X B h c es ds ms scan dn mn)(z:CK c):∀i,i<4->Row X 1 encStr (h.nm i).a (h.nm i).n (h.nm i).c (c.nl i):=λi hi=>(o.on i hi).row (hc:=jQ) (by have:=z.n i hi;omega)
theorem iY.bulk (o:iY X B h c es ds ms scan dn mn)(z:CK c):Ni c.nl es ds ms c.Q scan dn mn:=
 ⟨by have:=z.e;rw[<-o.be,bH] at this;exact this,by have:=z.d;rw[<-o.bd,bH] at this;exact this,by have:=z.m;rw[<-o.bm,bH] at this;exact this,z.q,z.n,λx hx=>z.se _ (by rw[<-o.ss];exact qQ hx),λx hx=>z.sd _ (by rw[<-o.ts];exact qQ hx),λx hx=>z.sm _ (by rw[<-o.us];exact qQ hx)⟩
theorem iY.cont (o:iY X B h c es ds ms scan dn mn):c=zU es.length c.nl es ds ms c.Q scan dn mn:=by
 unfold zU;rw[List.take_length,o.be,o.bd,o.bm,o.ss,o.ts,o.us]
end
def UL (w:World)(c:Cont)(e:Ending)(X:World):Prop:=
 ∃h es ds ms,∃scan:EvC->O Sn,∃dn:aM->O I,∃mn:aN->O I,e= .returned (.tuple #[gH h,.int .i64 0])/\iY X w.1.size h c es ds ms scan dn mn/\Below w.1.size w X
theorem QY {w W3 X Y:World}{B N:Nat}{h:HC}{es:O EvC}{ds:O aM}{ms:O aN}{C:Cont}{scan:EvC->O Sn}{dn:aM->O I}{mn:aN->O I}{F:I->O I}{sl:Nat->Sl}(hF:F=bK (bI C))(l:Lay W3 B h es ds ms C.Q scan dn mn)
  (h1:es.map EvC.base=C.E) (h2:ds.map aM.base=C.D) (h3:ms.map aN.base=C.M) (h4:es.map scan=C.SE) (h5:ds.map dn=C.SD) (h6:ms.map mn=C.SM)
  (hM:Moved W3 X F (aT h es ds ms C.Q scan dn mn)) (hb:∀e∈C.E,Ic e) (hsl:∀s,s<4->Own X N 9 1 encStr (sl s).v ((F (s:I)).map (aS (C.nl s)))) (hN:B<=N) (hwB:w.1.size<=B)
  {D:Nat} (hD:∀cs T fz,X.1[D]?≠S (J cs T fz)) (hs:Same (λi=>B<=i/\i≠D) X Y) (BG:Below w.1.size w Y) (g1:∀L∈C.SE,L.length<=2000000) (g2:∀L∈C.SD,L.length<=2000000) (g3:∀L∈C.SM,L.length<=2000000):
  UL w (gJ C) (.returned (.tuple #[gH ⟨sl 0,sl 1,sl 2,sl 3,h.e,h.d,h.m,h.w⟩,.int .i64 0])) Y:=by
 have hbe:∀e∈es,Ic e:=λe he=>by
  have:=hb e.base (by rw[<-h1];exact qQ he);exact this
 have MO:∀{α:Type}{enc:α->O Value}{k:Nat}{T:TypeId}{v:Value}{xs:O α}{B':Nat},B<=B'->Own X B' T k enc v xs->Own Y B' T k enc v xs:=λhB' ho=>ho.same hs (λg hg=>⟨dL hB' (ho.lt g hg).1,λe=>by
  subst e;obtain⟨cs,fz,e'⟩:=ho.tag hg;exact hD _ _ _ e'⟩)
 have k1:Own Y B 47 9 dO h.e.v (es.map (evR F)):=MO (aA _) (l.ahv hM hbe);have k2:Own Y B 74 2 eZ h.d.v (ds.map (orR F)):=MO (aA _) (l.ahw hM);have k3:Own Y B 77 4 eP h.m.v (ms.map (maR F)):=MO (aA _) (l.ahx hM);have k4:Own Y B 79 2 fQ h.w.v (C.Q.map (waR F)):=MO (aA _) (l.ahy hM);have r1:∀x∈es,Own Y B 117 3 bS (H x.sa x.sn x.sc) ((scan x).map (Fv F)):=λx hx=>MO (aA _) (l.ahz hM hx)
 have r2:∀x∈ds,Own Y B 3 1 aQ (H x.sa x.sn x.sc) ((dn x).map (dh (F 0))):=λx hx=>MO (aA _) (l.ahA hM hx)
 have r3:∀x∈ms,Own Y B 3 1 aQ (H x.sa x.sn x.sc) ((mn x).map (dh (F 0))):=λx hx=>MO (aA _) (l.ahB hM hx)
 obtain⟨f1,a1,b1⟩:=Qg (hc:=oJ) Km (r:=evR F) (a:=EvC.sa) (n:=EvC.sn) (q:=EvC.sc) (λ_=>rfl) (λ_=>rfl) (λ_=>rfl) r1 (λx hx=>by rw[bH];have:=g1 (scan x) (by rw[<-h4];exact qQ hx);omega);obtain⟨f2,a2,b2⟩:=Qg (hc:=ig) xL (r:=orR F) (a:=aM.sa) (n:=aM.sn) (q:=aM.sc) (λ_=>rfl) (λ_=>rfl) (λ_=>rfl) r2 (λx hx=>by rw[bH];have:=g2 (dn x) (by rw[<-h5];exact qQ hx);omega);obtain⟨f3,a3,b3⟩:=Qg (hc:=ig) xL (r:=maR F) (a:=aN.sa) (n:=aN.sn) (q:=aN.sc) (λ_=>rfl) (λ_=>rfl) (λ_=>rfl) r3 (λx hx=>by rw[bH];have:=g3 (mn x) (by rw[<-h6];exact qQ hx);omega);have hnm:∀i,i<4->(⟨sl 0,sl 1,sl 2,sl 3,h.e,h.d,h.m,h.w⟩:HC).nm i=sl i:=λi hi=>by
  rcases(by omega:i=0\/i=1\/i=2\/i=3) with rfl|rfl|rfl|rfl <;> rfl
 subst hF;refine⟨_,es.map (evR (bK (bI C))),ds.map (orR (bK (bI C))),ms.map (maR (bK (bI C))),f1,f2,f3,rfl,iY.mono (B:=B) ⟨k1,k2,k3,k4,λi hi=>?_,a1,a2,a3,?_,?_,?_,?_,?_,?_⟩ hwB,BG⟩
 .rw[hnm i hi]
  exact(show Own Y N 9 1 encStr (H (sl i).a (sl i).n (sl i).c) _ from MO hN (hsl i hi)).mono hN
 .show _=C.E.map (gP (bK (bI C)))
  rw[<-h1,tO,tO];exact wQ (λx _=>rfl)
 .show _=C.D.map _
  rw[<-h2,tO,tO];exact wQ (λx _=>rfl)
 .show _=C.M.map _
  rw[<-h3,tO,tO];exact wQ (λx _=>rfl)
 .rw[b1];show _=C.SE.map _;rw[<-h4,tO];rfl
 .rw[b2];show _=C.SD.map _;rw[<-h5,tO];rfl
 .rw[b3];show _=C.SM.map _;rw[<-h6,tO];rfl
attribute [local go_sem] Oper.semAt_some
theorem oC {X:World}{b:Nat}{h h':HC}(hb:Bx X b (aH h)):Bx ((((((((X.setCell ⟨b,0,G⟩ h'.t.v).setCell ⟨b,1,G⟩ h'.s.v).setCell ⟨b,2,G⟩ h'.o.v).setCell ⟨b,3,G⟩ h'.p.v).setCell ⟨b,4,G⟩ h'.e.v).setCell ⟨b,5,G⟩ h'.d.v).setCell ⟨b,6,G⟩ h'.m.v).setCell ⟨b,7,G⟩ h'.w.v) b (aH h'):=by
 have:=((((((((hb).aZ 0 au h'.t.v).aZ 1 au h'.s.v).aZ 2 au h'.o.v).aZ 3 au h'.p.v).aZ 4 au h'.e.v).aZ 5 au h'.d.v).aZ 6 au h'.m.v).aZ 7 au h'.w.v
 simpa[aH] using this
theorem j5 {X:World}{b:Nat}{h':HC}:Same (λi=>i≠b) X ((((((((X.setCell ⟨b,0,G⟩ h'.t.v).setCell ⟨b,1,G⟩ h'.s.v).setCell ⟨b,2,G⟩ h'.o.v).setCell ⟨b,3,G⟩ h'.p.v).setCell ⟨b,4,G⟩ h'.e.v).setCell ⟨b,5,G⟩ h'.d.v).setCell ⟨b,6,G⟩ h'.m.v).setCell ⟨b,7,G⟩ h'.w.v):=(((((((((Same.refl' X)).setTail (λhn=>hn rfl)).setTail (λhn=>hn rfl)).setTail (λhn=>hn rfl)).setTail (λhn=>hn rfl)).setTail (λhn=>hn rfl)).setTail (λhn=>hn rfl)).setTail (λhn=>hn rfl)).setTail (λhn=>hn rfl)
theorem Zm.lay {w X:World}{h:HC}{es:O EvC}{ds:O aM}{ms:O aN}{c:Cont}(o:Zm w X h es ds ms c)(h1:∀L∈c.SE,L.length<=2000000)(h2:∀L∈c.SD,L.length<=2000000)(h3:∀L∈c.SM,L.length<=2000000):
  ∃scan dn mn,Lay X w.1.size h es ds ms c.Q scan dn mn/\es.map scan=c.SE/\ds.map dn=c.SD/\ms.map mn=c.SM:=by
 obtain⟨f1,a1,b1⟩:=lY.fn (hc:=oJ) Km (val:=EvC.val) (a:=EvC.sa) (n:=EvC.sn) (q:=EvC.sc) (λ_=>rfl) o.fe o.le (λL hL=>by have:=h1 L hL;omega);obtain⟨f2,a2,b2⟩:=lY.fn (hc:=ig) xL (val:=aM.val) (a:=aM.sa) (n:=aM.sn) (q:=aM.sc) (λ_=>rfl) o.fd o.ld (λL hL=>by have:=h2 L hL;omega);obtain⟨f3,a3,b3⟩:=lY.fn (hc:=ig) xL (val:=aN.val) (a:=aN.sa) (n:=aN.sn) (q:=aN.sc) (λ_=>rfl) o.fm o.lm (λL hL=>by have:=h3 L hL;omega);exact⟨f1,f2,f3,⟨o.oe,o.od,o.om,o.oq,a1,a2,a3,o.fe.pair,o.fd.pair,o.fm.pair,o.fx⟩,b1,b2,b3⟩
theorem uX {α β γ:Type}(f:α->β)(g:α->γ):∀l:O α,(l.map f).zip (l.map g)=l.map (λx=>(f x,g x))
 |[]=>rfl
 |x::l=>dF ((f x,g x):: ·) (uX f g l)
theorem IU {es:O EvC}{ds:O aM}{ms:O aN}{scan:EvC->O Sn}{dn:aM->O I}{mn:aN->O I}{c:Cont}(h1:es.map EvC.base=c.E)(h2:ds.map aM.base=c.D)(h3:ms.map aN.base=c.M)(h4:es.map scan=c.SE)(h5:ds.map dn=c.SD)(h6:ms.map mn=c.SM):
  oz es ds ms c.Q scan dn mn=bI c:=by
 unfold bI oz;rw[<-h1,<-h2,<-h3,<-h4,<-h5,<-h6,uX,uX,uX,List.flatMap_map,List.flatMap_map,List.flatMap_map]
 rfl
theorem Li (h:HC)(nl:Nat->O Bs)(es:O EvC)(ds:O aM)(ms:O aN)(qs:O Wa)(scan:EvC->O Sn)(dn:aM->O I)(mn:aN->O I)(w:World)(hg:Cw w)
  (hn:∀i,i<4->Row w 1 encStr (h.nm i).a (h.nm i).n (h.nm i).c (nl i)) (hd:Deep w h es ds ms qs scan dn mn) (hB:Ni nl es ds ms qs scan dn mn) (hS:rF h nl es ds ms qs scan dn mn=true)
  (C:Cont) (hC:C=zU es.length nl es ds ms qs scan dn mn) (hbare:∀e∈C.E,Ic e) (htold:∀x∈bI C,∃s:Nat,s<4/\x.1=(s:I)/\bC x.2 (C.nl s).length=true) (acp:∀s:Nat,s<4->(bK (bI C) (s:I)).length<=300/\(C.nl s).length<=300):
  Calls Tryz.prog 17 #[gH h] w (UL w (gJ C)):=by
 refine(callsIn_wide (n:=3)).1 ?_;refine callsIn_of_wp_marks Tryz.func17 rfl trivial ?_ rfl;simp only[Tryz.ntmps17,zD,jd,mg,Nat.reduceAdd,Nat.reduceSub,A9,Ba,xV,xU,j3,gF];refine wpIn_wide.2 ?_;have hb0:Below w.1.size w ((w.alloc (J (aH h) 36)).alloc (J #[H G 0 0,H G 0 0,H G 0 0,H G 0 0,H G 0 0,H G 0 0,H G 0 0,H G 0 0] 36)):=((Below.refl _ _).alloc (aA _) _).alloc au _;have Gh:=U (TM h nl es ds ms qs scan dn mn _ (hg.below hb0) (λi hi=>(hn i hi).below hb0 rfl) (hd.below hb0 rfl));rw[hS] at Gh;have HOWN:=U (λW (hW:Below w.1.size w W)=>(by have:=QH h nl es ds ms qs scan dn mn W (λi hi=>(hn i hi).below hW rfl) (hd.below hW rfl) hB;rw[<-hC] at this;exact this:Calls Tryz.prog 44 #[gH h] W (Nj W C)));have iT:=U ((Bx.new w (aH h) 36).alloc (J #[H G 0 0,H G 0 0,H G 0 0,H G 0 0,H G 0 0,H G 0 0,H G 0 0,H G 0 0] 36));have hbr:=Bx.new (w.alloc (J (aH h) 36)) #[H G 0 0,H G 0 0,H G 0 0,H G 0 0,H G 0 0,H G 0 0,H G 0 0,H G 0 0] 36;rw[World.size_alloc] at hbr;have yS:=U hbr;have hbt:((w.alloc (J (aH h) 36)).alloc (J #[H G 0 0,H G 0 0,H G 0 0,H G 0 0,H G 0 0,H G 0 0,H G 0 0,H G 0 0] 36)).1[w.1.size]?=S (J (aH h) 36 (0,0)):=(Below.heap_alloc _ _ _ au).trans (World.alloc_heap_new w _);have HBT:=U hbt;have HB0:=U hb0;have DN:Hid ((∀L∈C.SE,L.length<=2000000)/\(∀L∈C.SD,L.length<=2000000)/\(∀L∈C.SM,L.length<=2000000)):=U (by
  rw[hC];refine⟨λL hL=>?_,λL hL=>?_,λL hL=>?_⟩
  .obtain⟨x,hx,rfl⟩:=dQ.1 hL;exact hB.2.2.2.2.2.1 x (List.mem_of_mem_take hx)
  .obtain⟨x,hx,rfl⟩:=dQ.1 hL;exact hB.2.2.2.2.2.2.1 x hx
  .obtain⟨x,hx,rfl⟩:=dQ.1 hL;exact hB.2.2.2.2.2.2.2 x hx)
 have SX:Hid (C.E.length<=2000000/\C.D.length<=2000000/\C.M.length<=2000000/\C.Q.length<=2000000):=U (by
  rw[hC];refine⟨?_,?_,?_,hB.2.2.2.1⟩
  .show((es.take es.length).map _).length<=_;rw[bH,dN];have:=hB.1;omega
  .show(ds.map _).length<=_;rw[bH];exact hB.2.1
  .show(ms.map _).length<=_;rw[bH];exact hB.2.2.1)
 have aj8:=U hbare;have aj9:=U htold;have uG:=U acp;clear hC hS hb0 hbr hd hg hn hB hbare htold acp hbt;obtain⟨W0,hW0⟩:∃W,W=(w.alloc (J (aH h) 36)).alloc (J #[H G 0 0,H G 0 0,H G 0 0,H G 0 0,H G 0 0,H G 0 0,H G 0 0,H G 0 0] 36):=⟨_,rfl⟩;rw[<-hW0] at Gh iT yS HB0 HBT;go_wp2_with fail;rw[<-hW0];clear hW0;refine Gh.q.mono ?_;rintro e w1 ⟨rfl,hb1⟩;have HB1:=U (HB0.q.bO hb1);have bP:=U (iT.q.keep hb1);have HR1:=U (yS.q.keep hb1);have aoh:=U ((hb1.block _ iT.q.2.2).trans HBT.q);have aoi:=bP.q.1;clear hb1;go_wp2_with fail;refine(HOWN.q w1 HB1.q).mono ?_;rintro e w2 ⟨h',es',ds',ms',rfl,SY⟩;have bL:=U (bP.q.keep SY.b);have HR2:=U (HR1.q.keep SY.b);have HB2:=U (HB1.q.trans (SY.b.mono HB1.q.size));have asX:=U ((SY.b.block _ bP.q.2.2).trans aoh.q);have mI:=U SY;have hcx:=bL.q.1;have hfx:=bL.q.2.1;have hlx:=bL.q.2.2;clear SY aoi;go_wp2_with fail;obtain⟨W3,hW3⟩:∃W,W=((((((((w2.setCell ⟨w.1.size,0,G⟩ h'.t.v).setCell ⟨w.1.size,1,G⟩ h'.s.v).setCell ⟨w.1.size,2,G⟩ h'.o.v).setCell ⟨w.1.size,3,G⟩ h'.p.v).setCell ⟨w.1.size,4,G⟩ h'.e.v).setCell ⟨w.1.size,5,G⟩ h'.d.v).setCell ⟨w.1.size,6,G⟩ h'.m.v).setCell ⟨w.1.size,7,G⟩ h'.w.v):=⟨_,rfl⟩;have SX:Hid (es'.length<=140737488355328/\ds'.length<=140737488355328/\ms'.length<=140737488355328/\C.Q.length<=140737488355328):=U (by
  have:=SX.q;have e1:es'.length=C.E.length:=by rw[<-mI.q.be,bH]
  have e2:ds'.length=C.D.length:=by rw[<-mI.q.bd,bH]
  have e3:ms'.length=C.M.length:=by rw[<-mI.q.bm,bH]
  omega)
 have eX:Hid (Bx W3 w.1.size (aH h')):=U (by rw[hW3];exact oC bL.q);have JG:Hid (Same (λi=>i≠w.1.size) w2 W3):=U (by rw[hW3];exact j5);rw[<-hW3];clear hW3 hcx hfx hlx;have HR3:=U (JG.q.bx HR2.q ah);have HB3:Hid (Below w.1.size w W3):=U (JG.q.below HB2.q (λi hi=>by omega) HB2.q.size);have BR:Hid (w.1.size+1<W3.1.size):=U HR3.q.2.2;have ahG:w.1.size+1<w1.1.size:=HR1.q.2.2;have aaD:=U ahG;have aoj:Hid (∃vF DI DJ,Lay W3 w1.1.size h' es' ds' ms' C.Q vF DI DJ/\es'.map vF=C.SE/\ds'.map DI=C.SD/\ms'.map DJ=C.SM):=U (by
  obtain⟨f1,f2,f3,hl,b1,b2,b3⟩:=mI.q.lay DN.q.1 DN.q.2.1 DN.q.2.2;exact⟨f1,f2,f3,hl.same (JG.q.mono (λi hi _=>by omega)),b1,b2,b3⟩)
 have HON:Hid (∀q,q<4->Own W3 w1.1.size 9 1 encStr (h'.nm q).v (C.nl q)):=U (λq hq=>(mI.q.on q hq).same JG.q (λg hg e=>by have:=((mI.q.on q hq).lt g hg).1;omega));clear ahG;refine(nZ h' W3).mono ?_;rintro e w4 ⟨rfl,hb4⟩;have fU:=U hb4;clear hb4;have hmm:= @run_makeMap Tryz.prog
 go_wp2_with (go_at_call 46;refine(Wn _ _).mono ?_;rintro e w' ⟨rfl,rfl⟩)
 clear hmm;have Bc:(((((w4.alloc (J #[h'.t.v,h'.s.v,h'.o.v,h'.p.v] 95)).alloc (J #[H G 0 0,H G 0 0,H G 0 0,H G 0 0] 95)).alloc (.map #[] 0)).alloc (J #[.map (S (w4.1.size+2))] 97)).alloc (J #[.pointer (S ⟨w.1.size,0,G⟩)] 101)).1.size=w4.1.size+5:=by simp
 have X5:Below w4.1.size w4 (((((w4.alloc (J #[h'.t.v,h'.s.v,h'.o.v,h'.p.v] 95)).alloc (J #[H G 0 0,H G 0 0,H G 0 0,H G 0 0] 95)).alloc (.map #[] 0)).alloc (J #[.map (S (w4.1.size+2))] 97)).alloc (J #[.pointer (S ⟨w.1.size,0,G⟩)] 101)):=((((Below.refl _ _).alloc (aA _) _).alloc au _).alloc (by simp;omega) _).alloc (by simp;omega) _|>.alloc (by simp;omega) _;have hVW:Bx (((((w4.alloc (J #[h'.t.v,h'.s.v,h'.o.v,h'.p.v] 95)).alloc (J #[H G 0 0,H G 0 0,H G 0 0,H G 0 0] 95)).alloc (.map #[] 0)).alloc (J #[.map (S (w4.1.size+2))] 97)).alloc (J #[.pointer (S ⟨w.1.size,0,G⟩)] 101)) w4.1.size #[h'.t.v,h'.s.v,h'.o.v,h'.p.v]:=((((Bx.new w4 _ _).alloc _).alloc _).alloc _).alloc _;have hVA:Bx (((((w4.alloc (J #[h'.t.v,h'.s.v,h'.o.v,h'.p.v] 95)).alloc (J #[H G 0 0,H G 0 0,H G 0 0,H G 0 0] 95)).alloc (.map #[] 0)).alloc (J #[.map (S (w4.1.size+2))] 97)).alloc (J #[.pointer (S ⟨w.1.size,0,G⟩)] 101)) (w4.1.size+1) (xQ λ_=>⟨G,0,0⟩):=by
  have:=(((Bx.new (w4.alloc (J #[h'.t.v,h'.s.v,h'.o.v,h'.p.v] 95)) #[H G 0 0,H G 0 0,H G 0 0,H G 0 0] 95).alloc (.map #[] 0)).alloc (J #[.map (S (w4.1.size+2))] 97)).alloc (J #[.pointer (S ⟨w.1.size,0,G⟩)] 101);rw[World.size_alloc] at this;exact this
 have hVM:Bx (((((w4.alloc (J #[h'.t.v,h'.s.v,h'.o.v,h'.p.v] 95)).alloc (J #[H G 0 0,H G 0 0,H G 0 0,H G 0 0] 95)).alloc (.map #[] 0)).alloc (J #[.map (S (w4.1.size+2))] 97)).alloc (J #[.pointer (S ⟨w.1.size,0,G⟩)] 101)) (w4.1.size+3) #[.map (S (w4.1.size+2))]:=by
  have:=(Bx.new (((w4.alloc (J #[h'.t.v,h'.s.v,h'.o.v,h'.p.v] 95)).alloc (J #[H G 0 0,H G 0 0,H G 0 0,H G 0 0] 95)).alloc (.map #[] 0)) #[.map (S (w4.1.size+2))] 97).alloc (J #[.pointer (S ⟨w.1.size,0,G⟩)] 101);rw[World.size_alloc,World.size_alloc,World.size_alloc] at this;exact this
 have hVP:Bx (((((w4.alloc (J #[h'.t.v,h'.s.v,h'.o.v,h'.p.v] 95)).alloc (J #[H G 0 0,H G 0 0,H G 0 0,H G 0 0] 95)).alloc (.map #[] 0)).alloc (J #[.map (S (w4.1.size+2))] 97)).alloc (J #[.pointer (S ⟨w.1.size,0,G⟩)] 101)) (w4.1.size+4) #[.pointer (S ⟨w.1.size,0,G⟩)]:=by
  have:=Bx.new ((((w4.alloc (J #[h'.t.v,h'.s.v,h'.o.v,h'.p.v] 95)).alloc (J #[H G 0 0,H G 0 0,H G 0 0,H G 0 0] 95)).alloc (.map #[] 0)).alloc (J #[.map (S (w4.1.size+2))] 97)) #[.pointer (S ⟨w.1.size,0,G⟩)] 101;rw[World.size_alloc,World.size_alloc,World.size_alloc,World.size_alloc] at this;exact this
 have hVO:nG Tryz.prog 103 3 (((((w4.alloc (J #[h'.t.v,h'.s.v,h'.o.v,h'.p.v] 95)).alloc (J #[H G 0 0,H G 0 0,H G 0 0,H G 0 0] 95)).alloc (.map #[] 0)).alloc (J #[.map (S (w4.1.size+2))] 97)).alloc (J #[.pointer (S ⟨w.1.size,0,G⟩)] 101)) (w4.1.size+2) 0 (λ_ _=>G):=by
  have h0:=nG.new (P:=Tryz.prog) (k:=103) (e:=3) ((w4.alloc (J #[h'.t.v,h'.s.v,h'.o.v,h'.p.v] 95)).alloc (J #[H G 0 0,H G 0 0,H G 0 0,H G 0 0] 95));have e1:((w4.alloc (J #[h'.t.v,h'.s.v,h'.o.v,h'.p.v] 95)).alloc (J #[H G 0 0,H G 0 0,H G 0 0,H G 0 0] 95)).1.size=w4.1.size+2:=by simp
  rw[e1] at h0;exact h0.of_eq ((Below.heap_alloc _ _ _ au).trans (Below.heap_alloc _ _ _ au))
 have hVT:(((((w4.alloc (J #[h'.t.v,h'.s.v,h'.o.v,h'.p.v] 95)).alloc (J #[H G 0 0,H G 0 0,H G 0 0,H G 0 0] 95)).alloc (.map #[] 0)).alloc (J #[.map (S (w4.1.size+2))] 97)).alloc (J #[.pointer (S ⟨w.1.size,0,G⟩)] 101)).1[w.1.size]?=W3.1[w.1.size]?:=(X5.block _ (by have:=fU.q.size;have:=BR.q;omega)).trans (fU.q.block _ (by have:=BR.q;omega));revert Bc X5 hVW hVA hVM hVP hVO hVT;generalize((((w4.alloc (J #[h'.t.v,h'.s.v,h'.o.v,h'.p.v] 95)).alloc (J #[H G 0 0,H G 0 0,H G 0 0,H G 0 0] 95)).alloc (.map #[] 0)).alloc (J #[.map (S (w4.1.size+2))] 97)).alloc (J #[.pointer (S ⟨w.1.size,0,G⟩)] 101)=V;intro Bc X5 hVW hVA hVM hVP hVO hVT;obtain⟨vF,DI,DJ,zx,q1,q2,q3⟩:=aoj.q;have HL:=U zx;have HQ:=U (⟨q1,q2,q3⟩:_/\_/\_);have acy:W3.1.size<=w4.1.size:=fU.q.size;have Lj:Below W3.1.size W3 V:=fU.q.trans (X5.mono acy);have hsp:oz es' ds' ms' C.Q vF DI DJ=bI C:=IU mI.q.be mI.q.bd mI.q.bm q1 q2 q3;obtain⟨xs,hxs⟩:∃xs,xs=aT h' es' ds' ms' C.Q vF DI DJ:=⟨_,rfl⟩;have acz:lS W3 xs=bI C:=by rw[hxs,<-hsp];exact zx.vals
 have HXS:=U hxs;have aaE:=U acz;have aok:Hid (∀p∈xs,∃g o,p.2=(⟨g,o,G⟩:Addr)):=U (by rw[hxs];exact qA.all _ _ _ _ _ _ _ _);have aol:Hid (∀p∈xs,∃n,W3.cell? p.2=S (.int .i64 n)):=U (by rw[hxs];exact zx.ints);have aj':Hid (∀p∈xs,GA W3 p.2.block/\w1.1.size<=p.2.block):=U (by rw[hxs];exact λp hp=>zx.soft hp);have aom:Hid ((xs.map Prod.snd).Nodup):=U (by rw[hxs];exact zx.nodup);have akb:Hid (Deep W3 h' es' ds' ms' C.Q vF DI DJ):=U ⟨(show Own W3 w1.1.size 47 9 dO (H h'.e.a h'.e.n h'.e.c) es' from zx.oe).row (hc:=sP) SX.q.1,(show Own W3 w1.1.size 74 2 eZ (H h'.d.a h'.d.n h'.d.c) ds' from zx.od).row (hc:=uJ) SX.q.2.1,(show Own W3 w1.1.size 77 4 eP (H h'.m.a h'.m.n h'.m.c) ms' from zx.om).row (hc:=rJ) SX.q.2.2.1,(show Own W3 w1.1.size 79 2 fQ (H h'.w.a h'.w.n h'.w.c) C.Q from zx.oq).row (hc:=wC) SX.q.2.2.2,
  λx hx=>(show Own W3 w1.1.size 117 3 bS (H x.sa x.sn x.sc) (vF x) from zx.se x hx).row (hc:=oJ) (by have:=DN.q.1 (vF x) (by rw[<-q1];exact qQ hx);omega),
  λx hx=>(show Own W3 w1.1.size 3 1 aQ (H x.sa x.sn x.sc) (DI x) from zx.sd x hx).row (hc:=ig) (by have:=DN.q.2.1 (DI x) (by rw[<-q2];exact qQ hx);omega),
  λx hx=>(show Own W3 w1.1.size 3 1 aQ (H x.sa x.sn x.sc) (DJ x) from zx.sm x hx).row (hc:=ig) (by have:=DN.q.2.2 (DJ x) (by rw[<-q3];exact qQ hx);omega)⟩
 have hI0:NI w W3 (V.1.size+5) w4.1.size (w4.1.size+1) (w4.1.size+3) (w4.1.size+2) h' C.nl (bK (bI C)) xs [] V:=
  ⟨λp hp=>(by cases hp),HB3.q.bO Lj,Moved.start (Same.of_below Lj (λi hi _=>hi)),eX.q.keep Lj,HR3.q.keep Lj,hVW,⟨λ_=>⟨G,0,0⟩,hVA,λs _=>Own.fJ _ _ _ _ _,λ_ _ _ _ _ g hg=>by cases hg⟩,hVM,hVO⟩
 have HI0:=U hI0;have Ch:=U Bc;have tJ:=U acy;have aon:=U Lj;have HVP:=U hVP;clear hI0 X5 hVW hVA hVM hVP hVO hVT Lj q1 q2 q3 zx hsp hxs acz;refine wpIn_wide.1 (TP (n:=3) (gf:=92) (lb:=#[.pointer (S ⟨w4.1.size+4,0,G⟩)]) (by simp[go_sem]) OA
  (vS:=M4) (k:=3) (D:=λi=>i=w.1.size\/i=w4.1.size+4\/(V.1.size+2<=i/\i<V.1.size+5)) (R:=A8 (λa=>∃g j,a=(⟨g,j,G⟩:Addr)/\∀s,(s,a)∉xs) W3) (xs:=xs)
  (λW hW hWs=>by
   have e:=HXS.q;have aaF:Below W3.1.size W3 W:=aon.q.bO hW;rw[e];exact Nq h' es' ds' ms' C.Q vF DI DJ w.1.size (w4.1.size+4) _ _ W3 W akb.q (eX.q.keep aaF) (HVP.q.keep hW) (λa v _ hc=>bn aaF rfl hc) aaF.size (.inl rfl) (.inr (.inl rfl))
    (λb o ha k hk j hj=>⟨b,_,rfl,λs=>HL.q.aj3 ha hj s⟩) (λe he b o ha j hj=>⟨b,_,rfl,λs=>HL.q.kC he ha s⟩)
    (λb o ha k hk=>⟨b,_,rfl,λs=>HL.q.aj4 ha s⟩) (λb o ha k hk=>⟨b,_,rfl,λs=>HL.q.aj5 ha s⟩) (λi h1 h2=> .inr (.inr ⟨by omega,by omega⟩))) (by have:=BR.q;omega)
  (λx args X hx=>by rw[hx];rfl)
  (NI w W3 (V.1.size+5) w4.1.size (w4.1.size+1) (w4.1.size+3) (w4.1.size+2) h' C.nl (bK (bI C)) xs)
  (λ_ _ _=>False)
  (λpre X Y hh k=>hh.same (V:=V.1.size) (k.mono (λi hi _=>by omega)) (aA _) ah (by have:=BR.q;omega) ah ah ah ah)
  (λc pre X Y hh k=>hh)
  (λpre X hh a v hC hc=>by
   obtain⟨g,j,rfl,hno⟩:=hC;exact hh.m.cell hc (λs hs=>hno s (hh.sub _ hs)))
  (λc pre X hh=>hh.elim)
  HI0.q ?round ?done ?stop)
 case stop=>
  intro c pre X _ hh;exact hh.elim
 case round=>
  rintro pre ⟨x1,a0⟩ args X hI hpre rfl hsz m;have hmem:(x1,a0)∈xs:=hpre.subset au;obtain⟨b,o,ha0⟩:=aok.q _ hmem;simp only at ha0;subst ha0;obtain⟨n,hn0⟩:=aol.q _ hmem;simp only at hn0;have hval:jU W3 (x1,⟨b,o,G⟩)=(x1,n):=by unfold jU;rw[lK hn0]
  have htm:(x1,n)∈bI C:=by rw[<-aaE.q,<-hval];exact qQ hmem
  obtain⟨s,hs4,hs1,hs2⟩:=aj9.q _ htm;simp only at hs1 hs2;subst hs1;obtain⟨k,rfl,hk⟩:=BP hs2;have hnot:∀s',(s',(⟨b,o,G⟩:Addr))∉pre:=λs' hs'=>by
   obtain⟨t,ht⟩:=hpre;have hnd:=aom.q;rw[<-ht,gK,gK] at hnd;have:=(zC.1 (zC.1 hnd).1).2.2 _ (qQ hs') _ (qQ (bF.2 rfl));exact this rfl
  have hpv:lS W3 (pre++[((s:I),(⟨b,o,G⟩:Addr))])=lS W3 pre++[((s:I),(k:I))]:=by unfold lS;rw[gK,wR,hval]
  have hpf:lS W3 pre++[((s:I),(k:I))]<+:bI C:=by rw[<-hpv,<-aaE.q];exact hpre.map _
  have HPV:=U hpv;have nD:=U (aaC hpre);have HSF:=U (aj'.q _ hmem);have asY:=U hmem;have qY:=U hn0;have aaG:=U hnot;have HK:=U hk;have HPF:=U hpf;clear hval htm hs2 hmem hpre hn0 hnot hpv hpf hk
  gi_wp2
  refine⟨Below.refl _ _,λX2 hk2=>?_⟩;have hI2:=hI.same (V:=V.1.size) (hk2.mono (λi hi _=>by omega)) (aA _) (by have:=tJ.q;omega) (by have:=BR.q;have:=tJ.q;omega) ah ah ah ah;have hz2:V.1.size+5<=X2.1.size:=by have:=hk2.size;omega
  have hc2:=hI2.m.cell qY.q aaG.q;have hf2:=(hI2.m.soft HSF.q.1).frozen (j:=o);have hbl:b<W3.1.size:=by obtain⟨cs,T,e⟩:=HSF.q.1;exact(dI.1 e).1
  have xA:=U (⟨hbl,HSF.q.2⟩:b<W3.1.size/\w1.1.size<=b);obtain⟨⟨na,nn,nc⟩,hns⟩:∃z:Sl,z=h'.nm s:=⟨_,rfl⟩;have hrow:=(show Own X2 w1.1.size 9 1 encStr (H (h'.nm s).a (h'.nm s).n (h'.nm s).c) (C.nl s) from QX HL.q (λp hp=>by rw[<-HXS.q];exact hI2.sub p hp) hI2.m (HON.q s hs4)).row (hc:=jQ) (by have:=(uG.q s hs4).2;omega);have hcw:X2.cell? ⟨w4.1.size,s,G⟩=S (h'.nm s).v:=(hI2.ws.1 s).trans (sN h'.nm hs4);rw[<-hns] at hrow hcw;simp only at hrow;obtain⟨nm,gb,go,hnm,hab,hcn⟩:=hrow.at_ (i:=k) (by rw[<-hrow.len];exact HK.q);subst hab;have hkn:k<nn:=by rw[<-hrow.len];exact HK.q
  have HNS:=U hns;clear hns;obtain⟨sl,rD,hown,hap⟩:=hI2.wa;have hca:X2.cell? ⟨w4.1.size+1,s,G⟩=S (sl s).v:=(rD.1 s).trans (sN sl hs4);have hcm:=hI2.mv.1 0;have ahK:(Lit.int .i64 (s:I)).wf=true:=WalkArith.wf_i64 ah;have hkl:k<300:=by have:=(uG.q s hs4).2;have:=HK.q;omega
  have ahL:(Lit.int .i64 (k:I)).wf=true:=WalkArith.wf_i64 ah;have kr:=aB (Below.refl X2.1.size X2) (J #[.int .i64 (s:I),.int .i64 (k:I)] 103);have Qh:=hI2.mp.of_eq (kr.block _ hI2.mp.lt);have hlk:(Instr.lookup 97 (.map (S (w4.1.size+1+1))) (.agg #[.int .i64 (s:I),.int .i64 (k:I)]) true).run Tryz.prog (X2.alloc (J #[.int .i64 (s:I),.int .i64 (k:I)] 103))= .ok (.tuple #[.int .i64 ((Fy (lS W3 pre) (s:I) (k:I)).getD 0),.bool (Fy (lS W3 pre) (s:I) (k:I)).isSome]) (X2.alloc (J #[.int .i64 (s:I),.int .i64 (k:I)] 103)):=Qh.ahC XV underlying97 underlying3 (aed _) (XW ahK ahL);have hcm1:((X2.alloc (J #[.int .i64 (s:I),.int .i64 (k:I)] 103))).cell? ⟨w4.1.size+1+1+1,0,G⟩=S (.map (S (w4.1.size+1+1))):=bn kr rfl hcm;have hcA:=(Bx.new X2 #[.int .i64 (s:I),.int .i64 (k:I)] 103).1;have asZ:=hcA 0;have as0:=hcA 1;have oh:((X2.alloc (J #[.int .i64 (s:I),.int .i64 (k:I)] 103))).cell? ⟨b,o,G⟩=S (.int .i64 (k:I)):=bn kr rfl hc2;have Xa:((X2.alloc (J #[.int .i64 (s:I),.int .i64 (k:I)] 103))).frozen? ⟨b,o,G⟩=false:=(World.frozen?_of_block (a:=⟨b,o,G⟩) (kr.block b (by have:=fU.q.size;omega))).trans hf2;have HI2:=U hI2;by_cases hin:(k:I)∈bK (lS W3 pre) (s:I)
  .have hno:Fy (lS W3 pre) (s:I) (k:I)=S ((bK (lS W3 pre) (s:I)).idxOf (k:I):I):=ay hin
   rw[hno] at hlk;simp only[Option.getD_some,Option.isSome_some] at hlk;obtain⟨q,hq⟩:∃q:Nat,q=(bK (lS W3 pre) (s:I)).idxOf (k:I):=⟨_,rfl⟩;rw[<-hq] at hlk;have HQQ:=U hq;have Fj:=U hin;clear hno hq hin hrow hcn hnm hown hap rD Qh hI2 hI hcA hcm hca hcw;have Qi:=HI2.q.same (V:=V.1.size) (Same.of_below kr (λi hi hl=>hl)) (aA _) (by have:=tJ.q;omega) (by have:=BR.q;have:=tJ.q;omega) ah ah ah ah;rw[Bc] at Qi;have Av:=U Qi;have gU:=U kr;have HV:Hid ((q:I)=dh (bK (bI C) (s:I)) (k:I)):=U (by rw[R9 (AZ _ ((fP _ _).trans HPF.q)) Fj.q,HQQ.q]);clear Qi kr
   gi_wp2
   have hb1:=xA.q.1;have hb2:=xA.q.2;have hb3:=tJ.q;have hb4:=aaD.q;refine⟨⟨(Below.heap_setCell _ _ _ _ (by simp;omega)).trans (gU.q.block _ ah),(Below.heap_setCell _ _ _ _ (by simp;omega)).trans (gU.q.block _ ah)⟩,?_,?_⟩
   .exact(bg.of_below gU.q (λi _ hi=>hi)).trans (bg.setCell _ b o _ ah)
   .exact NI.fin nD.q Av.q.b Av.q.m Av.q.bx Av.q.r Av.q.ws (by rw[HPV.q,Gz Fj.q];exact Av.q.wa) Av.q.mv (by rw[HPV.q,UK Fj.q,XZ Fj.q];exact Av.q.mp) aaG.q qY.q HV.q ah ah ah ah ah ah
  .have hno:Fy (lS W3 pre) (s:I) (k:I)=G:=ak hin
   rw[hno] at hlk;simp only[Option.getD_none,Option.isSome_none] at hlk;obtain⟨⟨sa,sn,sc⟩,hsl⟩:∃z,z=sl s:=⟨_,rfl⟩;have hown0:=hown s hs4;rw[<-hsl] at hown0 hca;have hsn:sn=(bK (lS W3 pre) (s:I)).length:=by
    obtain⟨_,_,q,_⟩:=hown0.shape;simp only[Sl.v,Value.slice.injEq] at q;rw[q.2.1,bH]
   have ahM:sn<=300:=by rw[hsn];exact dL (AZ _ ((fP _ _).trans HPF.q)).length_le (uG.q s hs4).1
   have hwfn:(Lit.int .i64 (sn:I)).wf=true:=WalkArith.wf_i64 ah;have hFN:Dn (lS W3 pre)<=1200:=by
    have e:∀q:Nat,q<4->(bK (lS W3 pre) (q:I)).length<=300:=λq hq=>dL (AZ _ ((fP _ _).trans HPF.q)).length_le (uG.q q hq).1
    have e0:=e 0 ah;have e1:=e 1 ah;have e2:=e 2 ah;have e3:=e 3 ah;unfold Dn;exact dL (Nat.add_le_add (Nat.add_le_add (Nat.add_le_add e0 e1) e2) e3) ah
   obtain⟨W5,ahN,UM,hg5⟩:=Qh.put XV underlying97 underlying3 (by unfold maxLen;omega) (XW ahK ahL) hwfn;have ar3:(Instr.mapUpdate 97 (.map (S (w4.1.size+1+1))) (.agg #[.int .i64 (s:I),.int .i64 (k:I)]) (.int .i64 (sn:I))).run Tryz.prog (X2.alloc (J #[.int .i64 (s:I),.int .i64 (k:I)] 103))= .ok () W5:=ahN;rw[hsn,<-aef hin,<-aaB hs4 hin] at UM;have Qi:=HI2.q.same (V:=V.1.size) (Same.of_below kr (λi hi hl=>hl)) (aA _) (by have:=tJ.q;omega) (by have:=BR.q;have:=tJ.q;omega) ah ah ah ah;have hs5:Same (λi=>i≠w4.1.size+2) (X2.alloc (J #[.int .i64 (s:I),.int .i64 (k:I)] 103)) W5:=⟨hg5.os,hg5.tape,hg5.output,hg5.size,λi hi hl=>hg5.block i hl (λe=>hi (by injection e))⟩;rw[Bc] at Qi hown0;have hmN:W5.1[w4.1.size+2]?≠G:=by have:=UM.lt;simp;omega
   have hown5:Own W5 (w4.1.size+5+5) 9 1 encStr (H sa sn sc) ((bK (lS W3 pre) (s:I)).map (aS (C.nl s))):=(hown0.below kr rfl).same hs5 (λg hg e=>by have:=(hown0.lt g hg).1;omega);have ahO:W5.cell? ⟨w4.1.size+1,s,G⟩=S (H sa sn sc):=hs5.yx (bn kr rfl hca) ah;have ahP:W5.cell? ⟨w4.1.size,s,G⟩=S (H (S ⟨gb,go,G⟩) nn nc):=hs5.yx (bn kr rfl hcw) ah;have hb1:=xA.q.1;have hb2:=xA.q.2;have hb3:=tJ.q;have hb4:=aaD.q;have ahQ:W5.cell? ⟨b,o,G⟩=S (.int .i64 (k:I)):=hs5.yx oh ah;have aaH:X2.cell? ⟨gb,go+k,G⟩=S (.string ⟨nm.toArray⟩):=by have:=hcn 0 _ rfl;simpa using this
   have ahR:W5.cell? ⟨gb,go+k,G⟩=S (.string ⟨nm.toArray⟩):=hs5.yx (bn kr rfl aaH) (λe=>by
    obtain⟨q,clk,hq⟩:=Qh.obj;have:=bn kr rfl aaH;rw[e] at this;unfold World.cell? at this;simp[hq] at this)
   have Nl:=U hown5;have Av:=U Qi;have sU:=U hs5;have aaI:=U UM;have gU:=U kr;have uE:=U hnm;have Fj:=U hin;have Ck:=U hsn;have HSL:=U hsl;have Nn:=U hown;have HWA:=U rD;have ahS:=U ahM;have FT:=U hap;have as1:(X2.alloc (J #[.int .i64 (s:I),.int .i64 (k:I)] 103)).cell? ⟨w4.1.size+1,s,G⟩=S (H sa sn sc):=bn kr rfl hca;have jb:=U (⟨ahO,ahP,ahQ,ahR⟩:_/\_/\_/\_);have HGB:Hid ((Value.slice sa sn sc).ownBlock≠S gb):=U (λe=>by have h1:=(hown0.lt _ e).1;have h2:=((HON.q s hs4).lt gb (by rw[<-HNS.q];rfl)).2;omega);have hk0:(0:I)<=(k:I):=GN _;have hkn2:(k:I)<(nn:I):=by omega
   have as2:(s:I)<4:=by omega
   obtain⟨i,z,hi⟩:=uw;have HI:=U hi;have HLEN:Hid (((bK (lS W3 pre) (s:I)).map (aS (C.nl s))).length+1=sn+1):=U (by rw[bH,<-hsn]);have HWF:Hid (Bx W5 (w4.1.size+1) (xQ sl)):=U (hs5.bx (rD.keep kr) ah);have HFZ:Hid (W5.frozen? ⟨b,o,G⟩=false):=U ((World.frozen?_of_block (a:=⟨b,o,G⟩) (hs5.block b ah (by have:=kr.size;omega))).trans Xa);clear hown5 Qi hs5 UM kr hnm hin hsn hsl hown rD ahM hap hno ahO ahP ahQ ahR aaH hcn hrow hown0 Qh hg5 ahN hI2 hI hca hcw hcm hi hFN hwfn hcA hmN
   gi_wp2
   refine Bf 15 [(0,0),(1,0),(2,0),(3,0),(4,0),(5,0),(6,0),(7,0),(8,0),(9,0),(10,0),(11,0),(12,2),(13,2),(14,0),(15,2)] (λ_=>True) (λW'=>W'.cell? ⟨w4.1.size+1,s,G⟩=S (H sa sn sc)/\W'.cell? ⟨w4.1.size,s,G⟩=S (H (S ⟨gb,go,G⟩) nn nc)/\W'.cell? ⟨b,o,G⟩=S (.int .i64 (k:I))/\W'.cell? ⟨gb,go+k,G⟩=S (.string ⟨nm.toArray⟩)) av av av (trivial) (jb.q) ?_;refine qC ?_;refine aD rfl rfl (λK hK=>?_);go_simp;have hb6:Below W5.1.size W5 (W5.alloc (J #[.string ⟨nm.toArray⟩] 9)).drew:=(aB (Below.refl W5.1.size W5) (J #[.string ⟨nm.toArray⟩] 9)).drew;have vX:=U hb6;refine hK _ _ ⟨trivial,bn hb6 rfl jb.q.1,bn hb6 rfl jb.q.2.1,bn hb6 rfl jb.q.2.2.1,bn hb6 rfl jb.q.2.2.2⟩ ?_;clear hK K hb6;refine aD rfl rfl (λK hK=>?_);refine ko _ _ 27 rfl i z 16 underlying27 HI.q.1 HI.q.2.1 HI.q.2.2.1 HI.q.2.2.2.1 HI.q.2.2.2.2 rfl (Nl.q.below vX.q rfl) (S ⟨W5.1.size,0,G⟩) 1 1 (sn+1) [nm] rfl (Row.str1 W5 nm) HLEN.q (by have:=ahS.q;omega) (by have:=ahS.q;unfold maxLen;omega) (dL (by have:=sU.q.size;have:=gU.q.size;omega) vX.q.size) ?_;intro a' c' W9 fq dx lH;have Ot:Hid (∀g,(Value.slice sa sn sc).ownBlock=S g->w4.1.size+5+5<=g):=U (λg hg=>(Nl.q.lt g hg).1);have hw9:Bx W9 (w4.1.size+1) (xQ sl):=(HWF.q.keep vX.q).grown dx (λe=>by have:=Ot.q _ e;omega);have tV:W9.cell? ⟨w4.1.size+1,s,G⟩=S (H sa sn sc):=(hw9.1 s).trans (by rw[sN sl hs4,<-HSL.q]);have I5:∀g j v,W5.cell? ⟨g,j,G⟩=S v->(Value.slice sa sn sc).ownBlock≠S g->W9.cell? ⟨g,j,G⟩=S v:=λg j v hc hne=>(World.cell?_of_block (a:=⟨g,j,G⟩) (dx.block g (dz (jC hc) vX.q.size) (λe=>hne e.symm))).trans (bn vX.q rfl hc)
   have HW9:=U hw9;have qL:=U fq;have iw:=U dx;have aaJ:=U lH;refine hK _ _ ⟨trivial,tV,I5 _ _ _ jb.q.2.1 (λe=>by have:=Ot.q _ e;omega),I5 _ _ _ jb.q.2.2.1 (λe=>by have:=Ot.q _ e;omega),I5 _ _ _ jb.q.2.2.2 (λe=>HGB.q e)⟩ ?_;have Ap:=hw9.2.1 s;have as3:W9.frozen? ⟨b,o,G⟩=false:=(World.frozen?_of_block (a:=⟨b,o,G⟩) (dx.block b (by have:=vX.q.size;have:=sU.q.size;have:=gU.q.size;omega) (λe=>by have:=Ot.q _ e.symm;omega))).trans ((World.frozen?_of_block (a:=⟨b,o,G⟩) (vX.q.block b (by have:=sU.q.size;have:=gU.q.size;omega))).trans HFZ.q);have as4:=I5 _ _ _ jb.q.2.2.1 (λe=>by have:=Ot.q _ e;omega);clear hK K fq dx lH I5 hw9;refine qC ?_;refine bq rfl rfl rfl (λK hK=>?_);go_simp;refine hK _ _ trivial ?_;clear hK K;refine aJ ?_
   gi_wp2
   have hxw:=HW9.q.aj7 hs4 ⟨a',sn+1,c'⟩;have hsG:Same (λi=>i≠w4.1.size+2/\i≠w4.1.size+1/\(Value.slice sa sn sc).ownBlock≠S i) (X2.alloc (J #[.int .i64 (s:I),.int .i64 (k:I)] 103)) (W9.setCell ⟨w4.1.size+1,s,G⟩ (H a' (sn+1) c')):=
    (((sU.q.mono (λi hi _=>hi.1)).tr (Same.of_below vX.q (λi _ hl=>hl))).tr ⟨iw.q.os,iw.q.tape,iw.q.output,iw.q.size,λi hi hl=>iw.q.block i hl (λe=>hi.2.2 e.symm)⟩).setTail (λhh=>hh.2.1 rfl)
   have Au:Same (λi=>i<w4.1.size+5+5/\i≠w4.1.size+2/\i≠w4.1.size+1) (X2.alloc (J #[.int .i64 (s:I),.int .i64 (k:I)] 103)) (W9.setCell ⟨w4.1.size+1,s,G⟩ (H a' (sn+1) c')):=
    hsG.mono (λi hi _=>⟨hi.2.1,hi.2.2,λe=>by have:=(Nl.q.lt i e).1;have:=hi.1;omega⟩)
   have Oe:∀g,(Value.slice sa sn sc).ownBlock=S g->w4.1.size+5+5<=g:=λg hg=>(Nl.q.lt g hg).1
   have aoo:(W9.setCell ⟨w4.1.size+1,s,G⟩ (H a' (sn+1) c')).1[w4.1.size+2]?=W5.1[w4.1.size+2]?:=(Below.heap_setCell _ _ _ _ au).trans ((iw.q.block _ (by have:=aaI.q.lt;have:=vX.q.size;omega) (λe=>by have:=Oe _ e.symm;omega)).trans (vX.q.block _ aaI.q.lt));have aop:nm=aS (C.nl s) (k:I):=by rw[uU _ HK.q];exact((bG.1 uE.q).2).symm
   have HV:Hid ((sn:I)=dh (bK (bI C) (s:I)) (k:I)):=U (by rw[Ck.q];refine(adu ?_ Fj.q).symm;have:=AZ (s:I) HPF.q;rw[zw Fj.q,ay rfl] at this;exact this);have hn5:∀q,q<4->q≠s->∀g,(sl q).v.ownBlock=S g->(Value.slice sa sn sc).ownBlock≠S g:=λq hq Io g hg=>by
    have:=FT.q q s hq hs4 Io g hg;rw[<-HSL.q] at this;exact this
   refine⟨⟨?_,?_⟩,?_,?_⟩
   .exact(Below.heap_setCell _ _ _ _ (by show w4.1.size+5≠b;omega)).trans ((Au.block _ ⟨by omega,by omega,by omega⟩ (by have:=gU.q.size;omega)).trans (gU.q.block _ ah))
   .exact(Below.heap_setCell _ _ _ _ (by show w4.1.size+5+1≠b;omega)).trans ((Au.block _ ⟨by omega,by omega,by omega⟩ (by have:=gU.q.size;omega)).trans (gU.q.block _ ah))
   .refine(bg.of_below gU.q (λi _ hi=>hi)).trans ((bg.trans (B:=W9.setCell ⟨w4.1.size+1,s,G⟩ (H a' (sn+1) c')) ⟨Au.size,λi hi hl=>Au.block i ⟨?_,?_,?_⟩ hl⟩ (bg.setCell _ b o _ ah))) <;> omega
   .refine NI.fin nD.q (Au.below Av.q.b (λi hi=>⟨by omega,by omega,by omega⟩) Av.q.b.size) (Av.q.m.same (Au.mono (λi hi _=>⟨by omega,by omega,by omega⟩))) (Au.bx Av.q.bx ⟨by omega,by omega,by omega⟩) (Au.bx Av.q.r ⟨by omega,by omega,by omega⟩) (Au.bx Av.q.ws ⟨by omega,by omega,by omega⟩) ⟨_,hxw,?_,?_⟩ (Au.bx Av.q.mv ⟨by omega,by omega,by omega⟩) ?_ aaG.q qY.q HV.q ah ah ah ah ah ah
    .intro q hq4
     rw[HPV.q,zw Fj.q];by_cases Io:q=s
     .subst Io
      rw[ay rfl,ay rfl,gK,wR,<-aop];refine qL.q.same (Same.setTail (A:=λi=>i≠w4.1.size+1) (Same.refl' _) (λhh=>hh rfl)) (λg hg=>?_);have:=(qL.q.lt g hg).1;omega
     .rw[ak Io,ak ah]
      have hO:=Nn.q q hq4;rw[Ch.q] at hO;refine(hO.below gU.q rfl).same hsG (λg hg=>⟨?_,?_,hn5 q hq4 Io g hg⟩) <;> have:=(hO.lt g hg).1 <;> omega
    .have hnew:∀q,q<4->q≠s->∀g,(Value.slice a' (sn+1) c').ownBlock=S g->(sl q).v.ownBlock≠S g:=λq hq Io g hg e=>by
      rcases aaJ.q with h1|h1
      .exact hn5 q hq Io g e (h1.symm.trans hg)
      .rw[hg] at h1
       injection h1 with h1;have:=((Nn.q q hq).lt g e).2;have:=vX.q.size;have:=sU.q.size;have:=gU.q.size;omega
     intro q q' hq hq' hne g hg
     dsimp only at hg ⊢
     by_cases h1:q=s
     .subst h1
      rw[ay rfl] at hg;rw[ak (λe=>hne e.symm)];exact hnew q' hq' (λe=>hne e.symm) g hg
     .rw[ak h1] at hg
      by_cases h2:q'=s
      .subst h2
       rw[ay rfl];exact λe=>hnew q hq h1 g e hg
      .rw[ak h2]
       exact FT.q q q' hq hq' hne g hg
    .rw[HPV.q]
     exact aaI.q.of_eq aoo
 case done=>
  intro X hI hdef;rw[Bc] at hdef;obtain⟨sl,rD,hown,hap⟩:=hI.wa;obtain⟨s0,hs0⟩:∃z,z=sl 0:=⟨_,rfl⟩;obtain⟨s1,hs1⟩:∃z,z=sl 1:=⟨_,rfl⟩;obtain⟨s2,hs2⟩:∃z,z=sl 2:=⟨_,rfl⟩;obtain⟨s3,hs3⟩:∃z,z=sl 3:=⟨_,rfl⟩;have hc0:X.cell? ⟨w4.1.size+1,0,G⟩=S s0.v:=by rw[hs0];exact rD.1 0
  have hc1:X.cell? ⟨w4.1.size+1,1,G⟩=S s1.v:=by rw[hs1];exact rD.1 1
  have hc2:X.cell? ⟨w4.1.size+1,2,G⟩=S s2.v:=by rw[hs2];exact rD.1 2
  have hc3:X.cell? ⟨w4.1.size+1,3,G⟩=S s3.v:=by rw[hs3];exact rD.1 3
  have HCC:=U (⟨hc0,hc1,hc2,hc3⟩:_/\_/\_/\_);have HXB:=U hI.bx;have HRB:=U hI.r;have JO:=U hI;have I8:=U hdef;have Nn:=U hown;have Br:=U (⟨hs0,hs1,hs2,hs3⟩:_/\_/\_/\_);clear hc0 hc1 hc2 hc3 hI rD hown hap hdef hs0 hs1 hs2 hs3;simp only[Exit.inBlock,Exit.then]
  go_wp2
  refine aC 15 [(0,0),(1,0),(2,0),(3,0),(4,0),(5,0),(6,0),(7,0),(8,0),(9,2),(10,0),(11,2),(12,0),(13,2),(14,0),(15,2)] (λ_=>True) (λW'=>W'.cell? ⟨w4.1.size+1,0,G⟩=S s0.v/\W'.cell? ⟨w4.1.size+1,1,G⟩=S s1.v/\W'.cell? ⟨w4.1.size+1,2,G⟩=S s2.v/\W'.cell? ⟨w4.1.size+1,3,G⟩=S s3.v) av av (trivial) (HCC.q) ?_;refine qC ?_;refine aD rfl rfl (λK hK=>?_);go_simp;have UN:Hid (X.cell? ⟨w4.1.size+1,0,G⟩=S s0.v/\X.cell? ⟨w4.1.size+1,1,G⟩=S s1.v/\X.cell? ⟨w4.1.size+1,2,G⟩=S s2.v/\X.cell? ⟨w4.1.size+1,3,G⟩=S s3.v):=HCC;have hbx:=HXB.q;have hcx:=HXB.q.1;have hfx:=HXB.q.2.1;have hlx:=HXB.q.2.2;go_simp;have hne:w4.1.size+1≠w.1.size:=by have:=tJ.q;have:=BR.q;omega
  have Qj:=U (show _/\_/\_/\_ from⟨bV (o':=0) (u:=s0.v) UN.q.1 hne,bV (o':=0) (u:=s0.v) UN.q.2.1 hne,bV (o':=0) (u:=s0.v) UN.q.2.2.1 hne,bV (o':=0) (u:=s0.v) UN.q.2.2.2 hne⟩);refine hK _ _ ⟨trivial,Qj.q⟩ ?_;clear hne;have aoq:=U (hbx.aZ 0 au s0.v);clear hK K hbx hcx hfx hlx;refine qC ?_;refine aD rfl rfl (λK hK=>?_);go_simp;have hbx:=aoq.q;have hcx:=HXB.q.1;have hfx:=HXB.q.2.1;have hlx:=HXB.q.2.2;go_simp;have hne:w4.1.size+1≠w.1.size:=by have:=tJ.q;have:=BR.q;omega
  have Qk:=U (show _/\_/\_/\_ from⟨bV (o':=1) (u:=s1.v) Qj.q.1 hne,bV (o':=1) (u:=s1.v) Qj.q.2.1 hne,bV (o':=1) (u:=s1.v) Qj.q.2.2.1 hne,bV (o':=1) (u:=s1.v) Qj.q.2.2.2 hne⟩);refine hK _ _ ⟨trivial,Qk.q⟩ ?_;clear hne;have aor:=U (hbx.aZ 1 au s1.v);clear hK K hbx hcx hfx hlx;refine qC ?_;refine aD rfl rfl (λK hK=>?_);go_simp;have hbx:=aor.q;have hcx:=HXB.q.1;have hfx:=HXB.q.2.1;have hlx:=HXB.q.2.2;go_simp;have hne:w4.1.size+1≠w.1.size:=by have:=tJ.q;have:=BR.q;omega
  have aos:=U (show _/\_/\_/\_ from⟨bV (o':=2) (u:=s2.v) Qk.q.1 hne,bV (o':=2) (u:=s2.v) Qk.q.2.1 hne,bV (o':=2) (u:=s2.v) Qk.q.2.2.1 hne,bV (o':=2) (u:=s2.v) Qk.q.2.2.2 hne⟩);refine hK _ _ ⟨trivial,aos.q⟩ ?_;clear hne;have aot:=U (hbx.aZ 2 au s2.v);clear hK K hbx hcx hfx hlx;refine qC ?_;refine bq rfl rfl rfl (λK hK=>?_);go_simp;have hbx:=aot.q;have hcx:=HXB.q.1;have hfx:=HXB.q.2.1;have hlx:=HXB.q.2.2;go_simp;refine hK _ _ trivial ?_;have aou:=U (hbx.aZ 3 au s3.v);clear hK K hbx hcx hfx hlx;refine aJ ?_;have hY0:Bx ((((X.setCell ⟨w.1.size,0,G⟩ s0.v).setCell ⟨w.1.size,1,G⟩ s1.v).setCell ⟨w.1.size,2,G⟩ s2.v).setCell ⟨w.1.size,3,G⟩ s3.v).drew w.1.size (aH ⟨s0,s1,s2,s3,h'.e,h'.d,h'.m,h'.w⟩):=by
   have:=aou.q;have h2:Bx ((((X.setCell ⟨w.1.size,0,G⟩ s0.v).setCell ⟨w.1.size,1,G⟩ s1.v).setCell ⟨w.1.size,2,G⟩ s2.v).setCell ⟨w.1.size,3,G⟩ s3.v) w.1.size (aH ⟨s0,s1,s2,s3,h'.e,h'.d,h'.m,h'.w⟩):=by simpa[aH] using this
   exact h2.drew
  have X6:Same (λi=>i≠w.1.size) X ((((X.setCell ⟨w.1.size,0,G⟩ s0.v).setCell ⟨w.1.size,1,G⟩ s1.v).setCell ⟨w.1.size,2,G⟩ s2.v).setCell ⟨w.1.size,3,G⟩ s3.v).drew:=by
   have:=((((Same.refl' X).setTail (b:=w.1.size) (o:=0) (v:=s0.v) (A:=λi=>i≠w.1.size) (λhn=>hn rfl)).setTail (b:=w.1.size) (o:=1) (v:=s1.v) (λhn=>hn rfl)).setTail (b:=w.1.size) (o:=2) (v:=s2.v) (λhn=>hn rfl)).setTail (b:=w.1.size) (o:=3) (v:=s3.v) (λhn=>hn rfl);exact this.qD
  revert hY0 X6;generalize((((X.setCell ⟨w.1.size,0,G⟩ s0.v).setCell ⟨w.1.size,1,G⟩ s1.v).setCell ⟨w.1.size,2,G⟩ s2.v).setCell ⟨w.1.size,3,G⟩ s3.v).drew=Y;intro hY0 X6;have HY0:=U hY0;have wh:=U X6;have xR:=X6.bx HRB.q ah;have HRY:=U xR;have hcy:=hY0.1;have Aq:=hY0.2.1;have yT:=hY0.2.2;have hcr:=xR.1;have hfr:=xR.2.1;have hlr:=xR.2.2;clear hY0 X6 xR;go_wp2_with fail;have hz1:Bx ((((((((Y.setCell ⟨w.1.size+1,0,G⟩ s0.v).setCell ⟨w.1.size+1,1,G⟩ s1.v).setCell ⟨w.1.size+1,2,G⟩ s2.v).setCell ⟨w.1.size+1,3,G⟩ s3.v).setCell ⟨w.1.size+1,4,G⟩ h'.e.v).setCell ⟨w.1.size+1,5,G⟩ h'.d.v).setCell ⟨w.1.size+1,6,G⟩ h'.m.v).setCell ⟨w.1.size+1,7,G⟩ h'.w.v) (w.1.size+1) (aH ⟨s0,s1,s2,s3,h'.e,h'.d,h'.m,h'.w⟩):=by
   have:=(((((((HRY.q.aZ 0 au s0.v).aZ 1 au s1.v).aZ 2 au s2.v).aZ 3 au s3.v).aZ 4 au h'.e.v).aZ 5 au h'.d.v).aZ 6 au h'.m.v).aZ 7 au h'.w.v
   simpa[aH] using this
  have hz2:Same (λi=>i≠w.1.size+1) Y ((((((((Y.setCell ⟨w.1.size+1,0,G⟩ s0.v).setCell ⟨w.1.size+1,1,G⟩ s1.v).setCell ⟨w.1.size+1,2,G⟩ s2.v).setCell ⟨w.1.size+1,3,G⟩ s3.v).setCell ⟨w.1.size+1,4,G⟩ h'.e.v).setCell ⟨w.1.size+1,5,G⟩ h'.d.v).setCell ⟨w.1.size+1,6,G⟩ h'.m.v).setCell ⟨w.1.size+1,7,G⟩ h'.w.v):=j5 (b:=w.1.size+1) (h':=⟨s0,s1,s2,s3,h'.e,h'.d,h'.m,h'.w⟩);revert hz1 hz2;generalize((((((((Y.setCell ⟨w.1.size+1,0,G⟩ s0.v).setCell ⟨w.1.size+1,1,G⟩ s1.v).setCell ⟨w.1.size+1,2,G⟩ s2.v).setCell ⟨w.1.size+1,3,G⟩ s3.v).setCell ⟨w.1.size+1,4,G⟩ h'.e.v).setCell ⟨w.1.size+1,5,G⟩ h'.d.v).setCell ⟨w.1.size+1,6,G⟩ h'.m.v).setCell ⟨w.1.size+1,7,G⟩ h'.w.v)=Z;intro hz1 hz2;have hs0:=BR.q;have hs4:=tJ.q;have hsw:=aaD.q;have hdf:Z.1[w4.1.size+5]?=S (.deferred (S [])):=by
   have h1:=wh.q.block (w4.1.size+5) ah (dI.1 I8.q).1;have h2:=hz2.block (w4.1.size+5) ah (by have:=wh.q.size;have:=(dI.1 I8.q).1;omega);exact(h2.trans h1).trans I8.q
  have hp:=hz1.putObj (l:=w4.1.size+5) (.deferred G) ah;have hcp:=hp.1;have hsa:Same (λi=>w1.1.size<=i/\i≠w4.1.size+5) X (Z.putObj (w4.1.size+5) (.deferred G)):=(((wh.q.mono (λi hi _=>by have:=hi.1;omega)).tr (hz2.mono (λi hi _=>by have:=hi.1;omega))).tr (Same.putObj (A:=λi=>w1.1.size<=i/\i≠w4.1.size+5) _ _ (λhn=>hn.2 rfl)));refine⟨by simp,.inl ⟨_,_,rfl,run_takeDeferred hdf,?_⟩⟩;have hres:=QY (w:=w) (Y:=Z.putObj (w4.1.size+5) (.deferred G)) (sl:=sl) (N:=V.1.size+5) rfl HL.q mI.q.be mI.q.bd mI.q.bm HQ.q.1 HQ.q.2.1 HQ.q.2.2 (by rw[<-HXS.q];exact JO.q.m) aj8.q (λq hq=>by have:=Nn.q q hq;rw[<-aaE.q];exact this) (by have:=mI.q.b.size;have:=JG.q.size;omega) ah (λcs T fz e=>by have:=I8.q;rw[this] at e;cases e) hsa ?_ DN.q.1 DN.q.2.1 DN.q.2.2;refine⟨.tuple #[gH ⟨s0,s1,s2,s3,h'.e,h'.d,h'.m,h'.w⟩,.int .i64 0],?_,?_⟩
  .simp[results,results17,go_sem,hcp,aH]
  .rw[Br.q.1,Br.q.2.1,Br.q.2.2.1,Br.q.2.2.2]
   exact hres
  .have hq:Same (λi=>i<w.1.size) X (Z.putObj (w4.1.size+5) (.deferred G)):=((wh.q.mono (λi hi _=>by omega)).tr (hz2.mono (λi hi _=>by omega))).tr (Same.putObj (A:=λi=>i<w.1.size) _ _ (λhn=>by omega))
   exact hq.below JO.q.b (λi hi=>hi) JO.q.b.size
end Yd
namespace Yd
open Go Go.RowKit Go.Proofs Go.Maps
open _root_ renaming List->a
theorem KP {l:a Int}{m:Nat}(hn:l.Nodup)(h:∀x∈l,bC x m=true):l.length<=m:=by
 have:=List.Nodup.length_le_of_subset (l₂:=(List.range m).map (λk:Nat=>(k:Int))) hn (λx hx=>by
  obtain⟨k,rfl,hk⟩:=BP (h x hx);exact dQ.2 ⟨k,wT.2 hk,rfl⟩)
 rwa[bH,List.length_range] at this
theorem aeg {nt ns no np:Nat}{e:EvC}{l:a Sn}(h:ja nt ns no np e l=true):l.length<=40:=by
 unfold ja at h;simp only[aU,bf] at h;obtain⟨⟨⟨⟨h1,h2⟩,h3⟩,h4⟩,h5⟩:=h;by_cases hk:e.kind=4
 .unfold hasB at h4
  rw[ak ah,ak ah,ak ah,ay hk] at h4;simp only[aU,bf] at h4;exact h4.1.2
 .have:l=[]:=by
   unfold gG at h5
   split at h5
   .simp only[aU,bf] at h5;exact h5.2
   .split at h5
    .simp only[aU,bf] at h5;exact h5.2
    .simp only[aU,bf] at h5;exact h5.2
  rw[this];exact aV _
theorem aeh {nt ns no np:Nat}{e:EvC}{l:a Sn}(h:ja nt ns no np e l=true):Ic e:=by
 unfold ja at h;simp only[aU,bf] at h;have h5:=h.2;unfold gG at h5
 split at h5
 .rename_i hk
  simp only[aU,bf] at h5;exact⟨λk=>absurd hk k,λ_=>⟨h5.1.1.1,h5.1.1.2⟩,λ_=>h5.1.2⟩
 .rename_i hk1
  split at h5
  .rename_i hk
   simp only[aU,bf] at h5;exact⟨λ_=>h5.1.1.1,λk=>absurd hk k,λ_=>h5.1.2⟩
  .rename_i hk2
   split at h5
   .rename_i hk
    simp only[aU,bf] at h5;exact⟨λ_=>h5.1.1.1,λ_=>⟨h5.1.2,h5.2⟩,λk=>absurd hk k⟩
   .simp only[aU,bf] at h5
    exact⟨λ_=>h5.1.1.1.1.1,λ_=>⟨h5.1.1.1.2,h5.1.1.2⟩,λ_=>h5.1.2⟩
theorem aei {α β:Type}{xs:a α}{ys:a β}(h:xs.length=ys.length){x:α}(hx:x∈xs):∃y,(x,y)∈xs.zip ys:=by
 obtain⟨i,hi,rfl⟩:=GV.1 hx;exact⟨ys[i]' ah,GV.2 ⟨i,by rw[AJ];omega,by rw[List.getElem_zip]⟩⟩
theorem JH {α β:Type}{xs:a α}{ys:a β}(h:xs.length=ys.length){y:β}(hy:y∈ys):∃x,(x,y)∈xs.zip ys:=by
 obtain⟨i,hi,rfl⟩:=GV.1 hy;exact⟨xs[i]' ah,GV.2 ⟨i,by rw[AJ];omega,by rw[List.getElem_zip]⟩⟩
theorem MP {n:Nat}{l:a Int}(h:gL n l=true):l.length<=300:=by
 unfold gL at h;simp only[aU,bf] at h;exact h.1
theorem iU.Mq {c:Cont}(h:iU c)(hf:aI c):CK c:=
 ⟨by have:=hf.2.1;omega,by have:=hf.2.2.1;omega,by have:=hf.2.2.2.1;omega,by have:=hf.2.2.2.2.1;omega,λi hi=>by have:=hf.1 i hi;have:=vw i;omega,
 λL hL=>by obtain⟨x,hx⟩:=JH h.le hL;have:=aeg (h.ev _ hx);simp only at this;omega,
 λL hL=>by obtain⟨x,hx⟩:=JH h.ld hL;have:=MP (h.od _ hx).2;simp only at this;omega,
 λL hL=>by obtain⟨x,hx⟩:=JH h.lm hL;have:=MP (h.ma _ hx).2.2;simp only at this;omega⟩
theorem iU.bare {c:Cont}(h:iU c):∀e∈c.E,Ic e:=λe he=>by
 obtain⟨y,hy⟩:=aei h.le he;exact aeh (h.ev _ hy)
theorem iU.Xf {c:Cont}(h:iU c)(hf:aI c):∀s:Nat,s<4->(bK (bI c) (s:Int)).length<=300/\(c.nl s).length<=300:=λs hs=>by
 have h1:(c.nl s).length<=300:=dL (hf.1 s hs) (vw s);refine⟨dL (KP (Gv _ _) (λx hx=>?_)) h1,h1⟩;obtain⟨s',h1,h2,h3⟩:=wI h _ (Ht _ hx);simp only at h2 h3;have:s=s':=by omega
 rw[this];exact h3
theorem iY.lens {X:World}{B:Nat}{h:HC}{c:Cont}{es:a EvC}{ds:a aM}{ms:a aN}{scan:EvC->a Sn}{dn:aM->a Int}{mn:aN->a Int}(o:iY X B h c es ds ms scan dn mn):
  h.e.n=c.E.length/\h.d.n=c.D.length/\h.m.n=c.M.length/\h.w.n=c.Q.length/\∀i,i<4->(h.nm i).n=(c.nl i).length:=by
 refine⟨?_,?_,?_,?_,λi hi=>?_⟩
 .obtain⟨_,_,q,_⟩:=o.oe.shape;simp only[Value.slice.injEq] at q;rw[<-o.be,bH];exact q.2.1
 .obtain⟨_,_,q,_⟩:=o.od.shape;simp only[Value.slice.injEq] at q;rw[<-o.bd,bH];exact q.2.1
 .obtain⟨_,_,q,_⟩:=o.om.shape;simp only[Value.slice.injEq] at q;rw[<-o.bm,bH];exact q.2.1
 .obtain⟨_,_,q,_⟩:=o.oq.shape;simp only[Value.slice.injEq] at q;exact q.2.1
 .obtain⟨_,_,q,_⟩:=(o.on i hi).shape;simp only[Value.slice.injEq] at q;exact q.2.1
theorem iY.shaped {X:World}{B:Nat}{h:HC}{c:Cont}{es:a EvC}{ds:a aM}{ms:a aN}{scan:EvC->a Sn}{dn:aM->a Int}{mn:aN->a Int}(o:iY X B h c es ds ms scan dn mn)(hs:iU c)(hf:aI c):
  rF h c.nl es ds ms c.Q scan dn mn=true:=by
 obtain⟨le,ld,lm,lq,ln⟩:=o.lens;have h0:h.t.n=(c.nl 0).length:=ln 0 ah;have h1:h.s.n=(c.nl 1).length:=ln 1 ah;have h2:h.o.n=(c.nl 2).length:=ln 2 ah;have h3:h.p.n=(c.nl 3).length:=ln 3 ah;obtain⟨f1,f2,f3,f4,f5,_⟩:=hf;unfold rF;simp only[aU,jc];refine⟨⟨⟨⟨?_,λe he=>?_⟩,λx hx=>?_⟩,λx hx=>?_⟩,λx hx=>?_⟩
 .unfold wu
  simp only[aU,jc,wT];refine⟨?_,λi hi=>?_⟩
  .unfold TI
   simp only[aU,bf];refine⟨by omega,?_⟩
   split
   .omega
   .split <;> omega
  .unfold sI qg
   simp only[aU,jc,bf];refine⟨?_,λs hs'=>(hs.nm i).2 s hs',(hs.nm i).1⟩;have:=f1 i hi;rcases(by omega:i=0\/i=1\/i=2\/i=3) with rfl|rfl|rfl|rfl <;> (unfold jB at this;simp at this;simp only[KZ];omega)
 .rw[h0,h1,h2,h3]
  have hm:(e.base,scan e)∈c.E.zip c.SE:=by
   rw[<-o.be,<-o.ss,uX];exact dQ.2 ⟨e,he,rfl⟩
  exact hs.ev _ hm
 .have hm:(x.base,dn x)∈c.D.zip c.SD:=by
   rw[<-o.bd,<-o.ts,uX];exact dQ.2 ⟨x,hx,rfl⟩
  have:=hs.od _ hm;unfold TJ;rw[h0,h2,aU];exact this
 .have hm:(x.base,mn x)∈c.M.zip c.SM:=by
   rw[<-o.bm,<-o.us,uX];exact dQ.2 ⟨x,hx,rfl⟩
  have:=hs.ma _ hm;unfold TK;rw[h0,h2,h3,aU,aU];exact⟨⟨this.1,this.2.1⟩,this.2.2⟩
 .have:=hs.wa x hx
  unfold Nf;rw[h1,aU,aU,bf,bf];exact⟨⟨this.1,this.2.1⟩,this.2.2⟩
theorem QV {X:World}{B:Nat}{h:HC}{c:Cont}{es:a EvC}{ds:a aM}{ms:a aN}{scan:EvC->a Sn}{dn:aM->a Int}{mn:aN->a Int}(o:iY X B h c es ds ms scan dn mn)(hs:iU c)(hf:aI c)(hg:Cw X):
  Calls Tryz.prog 17 #[gH h] X (UL X (gJ c)):=
 Li h c.nl es ds ms c.Q scan dn mn X hg (o.names (hs.Mq hf)) (o.deep (hs.Mq hf)) (o.bulk (hs.Mq hf)) (o.shaped hs hf) c o.cont hs.bare (wI hs) (hs.Xf hf)
end Yd
namespace Yd
open Go Go.RowKit Go.Proofs
attribute [local go_sem] Oper.semAt_some
end Yd
namespace Yd
open Go Go.RowKit Go.Proofs
def wX (w:World)(B:Nat)(aW:List bB)(ls:List aP):Prop:=aW.length=ls.length/\∀(i:Nat)(l:bB),aW[i]?=some l->∃s,ls[i]?=some s/\iB w B l s
theorem wX.same {w w':World}{B:Nat}{aW:List bB}{ls:List aP}(h:wX w B aW ls){A:Nat->Prop}(hs:Same A w w')(hA:∀i,B<=i->A i):wX w' B aW ls:=
 ⟨h.1,λi l hl=>let⟨s,h1,h2⟩:=h.2 i l hl;⟨s,h1,h2.1,h2.2.1.same hs (λg hg=>hA g (h2.2.1.lt g hg).1),h2.2.2.same hs (λg hg=>hA g (h2.2.2.lt g hg).1)⟩⟩
theorem wX.below {w w':World}{B:Nat}{aW:List bB}{ls:List aP}(h:wX w B aW ls)(hb:Below w.1.size w w'):wX w' B aW ls:=
 ⟨h.1,λi l hl=>let⟨s,h1,h2⟩:=h.2 i l hl;⟨s,h1,h2.below hb⟩⟩
theorem wX.grown {w w':World}{B:Nat}{aW:List bB}{ls:List aP}(h:wX w B aW ls){row:Option Nat}(hg:w.grownBy w' row)(hr:∀g,row=some g->∃cs fz,w.1[g]?=some (.cells cs 30 fz)):wX w' B aW ls:=
 ⟨h.1,λi l hl=>let⟨s,h1,h2⟩:=h.2 i l hl;⟨s,h1,h2.1,
  h2.2.1.grown hg (λg hg' e=>by obtain⟨cs,fz,e1⟩:=hr g e;exact h2.2.1.Wp e1 aj hg'),
  h2.2.2.grown hg (λg hg' e=>by obtain⟨cs,fz,e1⟩:=hr g e;exact h2.2.2.Wp e1 aj hg')⟩⟩
theorem wX.snoc {w:World}{B:Nat}{aW:List bB}{ls:List aP}(h:wX w B aW ls){l:bB}{s:aP}(hl:iB w B l s):wX w B (aW++[l]) (ls++[s]):=by
 have e:=h.1;refine⟨by simp[h.1],λi q hq=>?_⟩;rcases jP i aW.length with hi|hi
 .rw[wO hi] at hq
  obtain⟨t,h1,h2⟩:=h.2 i q hq;exact⟨t,by rw[wO ah];exact h1,h2⟩
 .rw[uZ hi] at hq
  have h0:i - aW.length=0:=by
   rcases Nat.eq_zero_or_pos (i - aW.length) with h0|h0
   .exact h0
   .rw[wP (by simp;omega)] at hq;cases hq
  rw[h0] at hq;obtain rfl:l=q:=by simpa using hq
  exact⟨s,by rw[uZ ah,show i - ls.length=0 by omega];rfl,hl⟩
attribute [local go_sem] Oper.semAt_some
end Yd
namespace Yd
open Go Go.RowKit Go.Proofs
section
variable (h:HC)(nl:Nat->List Bs)(es:List EvC)(ds:List aM)(ms:List aN)(qs:List Wa)(scan:EvC->List Sn)(dn:aM->List Int)(mn:aN->List Int)(w:World)(hg:Cw w)
  (hn:∀i,i<4->Row w 1 encStr (h.nm i).a (h.nm i).n (h.nm i).c (nl i)) (hd:Deep w h es ds ms qs scan dn mn)
include hg hn hd
end
attribute [local go_sem] Oper.semAt_some
theorem Same.ahU {A:Nat->Prop}(X:World)(o:Obj):Same A X (X.alloc o):=Same.of_below (B:=X.1.size) (aB (Below.refl _ _) _) (λ_ _ h=>h)
theorem Same.cell_ {A:Nat->Prop}{X Y:World}(h:Same A X Y){p:Addr}{v:Value}(hc:X.cell? p=some v)(ha:A p.block):Y.cell? p=some v:=
 (World.cell?_of_block (a:=p) (h.block p.block ha (jC hc))).trans hc
theorem Ab.noCell {W:World}{b:Nat}{L:List (Int × Int)}(h:Ab W b L){p:Addr}{v:Value}(hc:W.cell? p=some v):p.block≠b:=λe=>by
 obtain⟨D,_,⟨es,clock,hb,_⟩,_⟩:=h;unfold World.cell? at hc;rw[e,hb] at hc
 cases hc
theorem Row.same {α:Type}{en:α->List Value}{k:Nat}{w X:World}{b n c:Nat}{a:Option Addr}{xs:List α}{L:List (Int × Int)}(h:Row w k en a n c xs)(hm:Ab w b L)(hs:Same (λi=>i≠b) w X):Row X k en a n c xs:=
 h.ext (λ_ _ hc=>hs.cell_ hc (hm.noCell hc))
end Yd
namespace Yd
open Go Go.RowKit Go.Proofs Tryz
open Same renaming of_below->d
attribute [local go_sem] Oper.semAt_some
theorem Row.ahV (w:World)(s:Int):Row (w.alloc (.cells #[.int .i64 s] 3)) 1 aQ (some ⟨w.1.size,0,none⟩) 1 1 [s]:=
 (Own.new (hc:=ig) w w.1.size 3 (enc:=aQ) #[.int .i64 s] [s] (aA _) rfl (by simp[maxLen])).row (hc:=ig) au
def ahW (B:Nat)(v:Value)(ys:List Int)(w:World)(e:Ending)(w':World):Prop:=
 ∃v',e= .returned v'/\Own w' B 3 1 aQ v' ys/\Same (λi=>some i≠v.ownBlock) w w'/\(v'.ownBlock=v.ownBlock\/∃g,w.1.size<=g/\v'.ownBlock=some g)
theorem aow (a:Option Addr)(n c:Nat)(xs:List Int)(x:Int)(w:World)(hr:Row w 1 aQ a n c xs):
  Calls Tryz.prog 59 #[.slice a n c,.int .i64 x] w λe w'=>∃r:Int,cK (.int .i64 r) w e w'/\decide (0<=r)=decide (x∈xs):=by
 have hn:=hr.le;have HR:=hid hr;have hcap:=hr.cap;clear hr;go_enter func59,ntmps59;go_wp2_with fail
 go_loopw [9] (λi wr=>∃k:Nat,k<=n/\i= .int .i64 k/\x∉xs.take k/\Below w.1.size w wr) (λi _=>n - (RowKit.intOf i).toNat)
 case atStart=>exact⟨0,aV _,rfl,by simp,Below.refl _ _⟩
 case round=>
  obtain⟨k,hk,rfl,hni,hb⟩:=hrel;by_cases hlt:k<n
  .obtain⟨y,b,o,hx,rfl,hc⟩:=HR.q.at_ hlt
   have h0:=bn hb rfl (hc 0 _ rfl);simp only[jo,bM] at h0;have HX:=hid hx;have HN:=hid hni;have HB:=hid hb;clear hc hx hni hb;by_cases he:y=x
   .subst he
    go_wp2_with fail;go_ret;exact⟨k,⟨rfl,HB.q⟩,by rw[bA (GN k),bA (bQ HX.q)]⟩
   .have hne:(y==x)=false:=by simpa using he
    have HE:=hid he;clear he;go_wp2_with fail;go_roundw
    case rel=>exact⟨k+1,by omega,by go_num,by rw[eO,HX.q];simp only[Option.toList_some,bJ,bF,not_or];exact⟨HN.q,λe=>HE.q e.symm⟩,HB.q⟩
    case measure=>simp[RowKit.intOf];omega
  .obtain rfl:n=k:=by omega
   have HN:=hid hni;have HB:=hid hb;clear hni hb;go_wp2_with fail;go_ret;exact⟨-1,⟨rfl,HB.q⟩,by
    have:=HN.q;rw[dR (by rw[HR.q.len];exact aA _)] at this;rw[aX this];rfl⟩
theorem ji (B:Nat)(v:Value)(xs:List Int)(x:Int)(w:World)(ho:Own w B 3 1 aQ v xs)(hB:B<=w.1.size)(hl:xs.length<=1000):
  Calls Tryz.prog 101 #[v,.int .i64 x] w (ahW B v (mO xs x) w):=by
 obtain⟨a,c,rfl,_,_⟩:=ho.shape;have hr:=ho.row (hc:=ig) ah;have HA:=hid (aow a xs.length c xs x w hr);by_cases hx:x∈xs
 .have HF:Hid (mO xs x=xs):=hid (by simp[mO,hx])
  have HX:=hid hx;have HO:=hid ho;clear hr ho hx;go_enter func101,ntmps101;go_wp2_with fail;refine HA.q.mono ?_;rintro e w1 ⟨r,⟨rfl,hb1⟩,hd⟩;rw[bA HX.q] at hd;have hr0:(0:Int)<=r:=xY hd;have HB1:=hid hb1;clear hb1 hd;go_wp2_with fail;go_ret;exact⟨_,rfl,by rw[HF.q];exact HO.q.below HB1.q rfl,d HB1.q (λ_ _ h=>h),.inl rfl⟩
 .have HF:Hid (mO xs x=xs++[x]):=hid (by simp[mO,hx])
  have HX:=hid hx;have HO:=hid ho;obtain⟨i,z,hi⟩:=yZ;have HI:=hid hi;obtain⟨n,hnn⟩:∃n,n=xs.length:=⟨_,rfl⟩;have HN:=hid hnn;have fT:Hid ((xs.length+1)*8<=140737488355328):=hid ah;have lV:Hid (xs.length+1<=maxLen):=hid (by unfold maxLen;omega);have gy:=hid hB;clear hr ho hx hi hnn hl;go_enter func101,ntmps101;go_wp2_with fail;refine HA.q.mono ?_;rintro e w1 ⟨r,⟨rfl,hb1⟩,hd⟩;rw[aX HX.q] at hd;have hr0:¬(0:Int)<=r:=of_decide_eq_false hd;have HB1:=hid hb1;have vZ:Hid (B<=(w1.alloc (.cells #[.int .i64 x] 3)).1.size):=hid (by have:=hb1.size;simp;omega);have gu:=hid ((HO.q.below hb1 rfl).alloc (.cells #[.int .i64 x] 3));clear hb1 hd hB
  go_wp2_with (at_builtin;refine eB rfl _ _ 72 rfl i z 8 underlying72 HI.q.1 HI.q.2.1 HI.q.2.2.1 HI.q.2.2.2.1 HI.q.2.2.2.2 rfl gu.q (some ⟨w1.1.size,0,none⟩) 1 1 (xs.length+1) [x] rfl (Row.ahV w1 x) rfl fT.q lV.q vZ.q ?_;intro a' c' w2 hown1 hg1 rz)
  go_ret;refine⟨_,rfl,by rw[HF.q];exact hown1,?_,?_⟩
  .have s1:Same (λi=>some i≠(Value.slice a xs.length c).ownBlock) w (w1.alloc (.cells #[.int .i64 x] 3)):=(d HB1.q (λ_ _ h=>h)).tr (Same.ahU _ _)
   exact s1.tr ⟨hg1.os,hg1.tape,hg1.output,hg1.size,λi hi hl=>hg1.block i hl hi⟩
  .rcases rz with h1|h1
   .exact .inl h1
   .exact .inr ⟨_,by have:=HB1.q.size;simp;omega,h1⟩
theorem BS (B:Nat)(v:Value)(xs:List Int)(u:kZ)(w:World)(ho:Own w B 3 1 aQ v xs)(hB:B<=w.1.size)(hl:xs.length<=1000):
  Calls Tryz.prog 102 #[v,.agg #[.int .i64 u.t,.int .i64 u.k]] w (ahW B v (PU xs u) w):=by
 obtain⟨ut,uk⟩:=u;have hb0:=aB (Below.refl w.1.size w) (.cells #[.int .i64 ut,.int .i64 uk] 44);by_cases hk:uk=0
 .subst hk
  have HO:=hid ho;have HB:=hid hb0;clear ho hb0;go_enter func102,ntmps102;go_wp2_with fail;go_ret;exact⟨_,rfl,HO.q.below HB.q rfl,d HB.q (λ_ _ h=>h),.inl rfl⟩
 .have hk':(uk==0)=false:=by simpa using hk
  have HF:=hid (ji B v xs ut _ (ho.below hb0 rfl) (dL hB hb0.size) hl);have HB:=hid hb0;have HV:Hid (PU xs ⟨ut,uk⟩=mO xs ut):=hid (by simp[PU,hk]);clear ho hb0 hk hl hB;go_enter func102,ntmps102;go_wp2_with fail;refine HF.q.mono ?_;rintro e w1 ⟨v',rfl,h1,h2,h3⟩;have HQ:=hid (⟨h1,h2,h3⟩:_/\_/\_);clear h1 h2 h3;go_wp2_with fail;go_ret;refine⟨_,rfl,by rw[HV.q];exact HQ.q.1,(d HB.q (λ_ _ h=>h)).tr HQ.q.2.1,?_⟩;rcases HQ.q.2.2 with h|⟨g,hg,h⟩
  .exact .inl h
  .exact .inr ⟨g,by have:=HB.q.size;omega,h⟩
end Yd
namespace Yd
open Go Go.RowKit Go.Proofs
attribute [local go_sem] Oper.semAt_some
section
variable {h:HC}{nl:Nat->List Bs}{es:List EvC}{ds:List aM}{ms:List aN}{qs:List Wa}{scan:EvC->List Sn}{dn:aM->List Int}{mn:aN->List Int}
end
end Yd
namespace Yd
open Go Go.RowKit Go.Proofs
theorem S9 {xs:List (Int × Int)}(s:Int)(h:∀x∈xs,0<=x.2/\x.2<300):(bK xs s).Nodup/\∀n∈bK xs s,0<=n/\n<300:=by
 have gen:∀(ys:List (Int × Int))(l:List Int),(∀x∈ys,0<=x.2/\x.2<300)->(l.Nodup/\∀n∈l,0<=n/\n<300)->
   (ys.foldl (λl x=>if x.1=s then mO l x.2 else l) l).Nodup/\∀n∈ys.foldl (λl x=>if x.1=s then mO l x.2 else l) l,0<=n/\n<300:=by
  intro ys
  induction ys with
  |nil=>intro l _ hl;exact hl
  |cons y ys ih=>
   intro l hy hl;refine ih _ (λx hx=>hy x (iJ _ hx)) ?_
   dsimp only
   split
   .refine⟨KL hl.1,λn hn=>?_⟩
    unfold mO at hn
    split at hn
    .exact hl.2 n hn
    .rcases bJ.1 hn with hn|hn
     .exact hl.2 n hn
     .obtain rfl:n=y.2:=by simpa using hn
      exact hy y au
   .exact hl
 exact gen xs [] h ⟨sD,by simp⟩
theorem QZ:∀(m:Nat)(l:List Int),l.Nodup->(∀n∈l,0<=n/\n<(m:Int))->l.length<=m:=by
 intro m
 induction m with
 |zero=>
  intro l _ h
  cases l with
  |nil=>exact aA _
  |cons a l=>have:=h a au;omega
 |succ m ih=>
  intro l hn h;have h1:=ih (l.erase (m:Int)) (hn.erase _) (λn hx=>by
   have hm:=(hn.mem_erase_iff).1 hx;have:=h n hm.2;have:=hm.1;omega)
  rw[List.length_erase] at h1
  split at h1 <;> omega
theorem aej {xs:List (Int × Int)}(s:Int)(h:∀x∈xs,0<=x.2/\x.2<300):(bK xs s).length<=1000:=
 dL (QZ 300 _ (S9 s h).1 (S9 s h).2) aj
structure V4 (w:World)(q:Nat)(c:Nat->Value)(pre:List (Int × Int))(bs:List (Nat × Array Value))(X:World):Prop where
 b:Below w.1.size w X
 Q:Bx X q #[c 0,c 1,c 2,c 3]
 o:∀i:Nat,i<4->Own X (q+1) 3 1 aQ (c i) (bK pre i)
 ap:∀i j:Nat,i<4->j<4->i≠j->∀g,(c i).ownBlock=some g->(c j).ownBlock≠some g
 E:∀p∈bs,Bx X p.1 p.2/\p.1≠q/\∀i:Nat,i<4->(c i).ownBlock≠some p.1
 ok:∀x∈pre,0<=x.2/\x.2<300
 hq:w.1.size<=q
section
variable {w X w1:World}{q:Nat}{c:Nat->Value}{pre:List (Int × Int)}{bs:List (Nat × Array Value)}
theorem V4.len (h:V4 w q c pre bs X)(s:Int):(bK pre s).length<=1000:=aej s h.ok
theorem V4.base (h:V4 w q c pre bs X):q+1<=X.1.size:=h.Q.2.2
theorem V4.aox (h:V4 w q c pre bs X){i:Nat}(hi:i<4):(c i).ownBlock≠some q:=λe=>by have:=((h.o i hi).lt q e).1;omega
theorem V4.below_ (h:V4 w q c pre bs X)(hb:Below X.1.size X w1):V4 w q c pre bs w1:=
 ⟨h.b.trans (hb.mono h.b.size),h.Q.keep hb,λi hi=>(h.o i hi).below hb rfl,h.ap,λp hp=>⟨(h.E p hp).1.keep hb,(h.E p hp).2⟩,h.ok,h.hq⟩
theorem V4.alloc (h:V4 w q c pre bs X)(cs:Array Value)(T:TypeId):V4 w q c pre ((X.1.size,cs)::bs) (X.alloc (.cells cs T)):=by
 have h1:=h.below_ (aB (Below.refl _ _) (.cells cs T));refine⟨h1.b,h1.Q,h1.o,h1.ap,λp hp=>?_,h1.ok,h1.hq⟩;rcases dP.1 hp with rfl|hp
 .exact⟨Bx.new X cs T,by have:=h.Q.2.2;show X.1.size≠q;omega,λi hi e=>Nat.lt_irrefl _ ((h.o i hi).lt _ e).2⟩
 .exact h1.E p hp
theorem V4.drop {p:Nat × Array Value}(h:V4 w q c pre (p::bs) X):V4 w q c pre bs X:=⟨h.b,h.Q,h.o,h.ap,λp hp=>h.E p (iJ _ hp),h.ok,h.hq⟩
theorem V4.bY {b:Nat}{cs:Array Value}(h:V4 w q c pre ((b,cs)::bs) X):Bx X b cs:=(h.E (b,cs) au).1
theorem V4.at_ (h:V4 w q c pre bs X){i:Nat}(hi:i<4):X.cell? ⟨q,i,none⟩=some (c i):=by
 rw[h.Q.1 i]
 match i,hi with
 |0,_=>rfl
 |1,_=>rfl
 |2,_=>rfl
 |3,_=>rfl
theorem V4.called (h:V4 w q c pre bs X){i:Nat}(hi:i<4)(hs:Same (λg=>some g≠(c i).ownBlock) X w1):Bx w1 q #[c 0,c 1,c 2,c 3]:=hs.bx h.Q (λe=>h.aox hi e.symm)
theorem V4.step (h:V4 w q c pre bs X){i:Nat}(hi:i<4){v:Value}{ys:List Int}(ns:List (Int × Int))(ho:Own w1 (q+1) 3 1 aQ v ys)(hs:Same (λg=>some g≠(c i).ownBlock) X w1)
  (hv:v.ownBlock=(c i).ownBlock\/∃g,X.1.size<=g/\v.ownBlock=some g) (hok:∀x∈ns,0<=x.2/\x.2<300)
  (hy:ys=bK (pre++ns) i) (hoth:∀j:Nat,j<4->j≠i->bK (pre++ns) j=bK pre j):∃c',V4 w q c' (pre++ns) bs (w1.setCell ⟨q,i,none⟩ v):=by
 have hvg:∀g,g<X.1.size->v.ownBlock=some g->(c i).ownBlock=some g:=λg hg e=>by
  rcases hv with h1|⟨g',h1,h2⟩
  .rw[<-h1];exact e
  .rw[h2] at e;injection e with e;omega
 have hqw:Same (λg=>g≠q) w1 (w1.setCell ⟨q,i,none⟩ v):=(Same.refl' _).setTail (λhn=>hn rfl);have hQ:=h.called hi hs;refine⟨λj=>if j=i then v else c j,?_,?_,?_,?_,?_,?_,h.hq⟩
 .refine hqw.below (hs.below h.b (λg hg e=>?_) h.b.size) (λg hg=>by have:=h.hq;omega) (dL h.b.size hs.size)
  have:=((h.o i hi).lt g e.symm).1;have:=h.hq;omega
 .have:=hQ.aZ i (by simpa using hi) v
  refine cast (dF (λz=>Bx _ q z) ?_) this
  match i,hi with
  |0,_=>rfl
  |1,_=>rfl
  |2,_=>rfl
  |3,_=>rfl
 .intro j hj
  by_cases hji:j=i
  .subst hji
   simp only[ay];rw[<-hy];exact ho.block λg hg=>hqw.block g (by have:=(ho.lt g hg).1;omega) (ho.lt g hg).2
  .simp only[ak hji]
   rw[hoth j hj hji];refine(h.o j hj).block λg hg=>?_
   have hl:=(h.o j hj).lt g hg;rw[hqw.block g ah (dz hl.2 hs.size)];exact hs.block g (λe=>h.ap i j hi hj (Ne.symm hji) g e.symm hg) hl.2
 .intro j k hj hk hjk g e1 e2
  by_cases hji:j=i
  .subst hji
   simp only[ay] at e1;rw[ak (Ne.symm hjk)] at e2;exact h.ap k j hk hj (Ne.symm hjk) g e2 (hvg g ((h.o k hk).lt g e2).2 e1)
  .rw[ak hji] at e1
   by_cases hki:k=i
   .subst hki
    simp only[ay] at e2;exact h.ap j k hj hk hjk g e1 (hvg g ((h.o j hj).lt g e1).2 e2)
   .rw[ak hki] at e2
    exact h.ap j k hj hk hjk g e1 e2
 .intro p hp
  obtain⟨h1,h2,h3⟩:=h.E p hp;refine⟨hqw.bx (hs.bx h1 (λe=>h3 i hi e.symm)) h2,h2,λj hj e=>?_⟩;by_cases hji:j=i
  .subst hji
   simp only[ay] at e;exact h3 j hj (hvg _ h1.2.2 e)
  .rw[ak hji] at e
   exact h3 j hj e
 .intro x hx
  rcases bJ.1 hx with hx|hx
  .exact h.ok x hx
  .exact hok x hx
theorem kR (pre:List (Int × Int))(i:Nat)(n:Int):mO (bK pre i) n=bK (pre++[((i:Int),n)]) i:=by rw[nH];simp
theorem iH (pre:List (Int × Int))(i:Nat)(n:Int):∀j:Nat,j<4->j≠i->bK (pre++[((i:Int),n)]) j=bK pre j:=λj _ hj=>by rw[nH,ak (by simp;omega)]
theorem BU {v:kZ}(pre:List (Int × Int))(hk:0<=v.k):PU (bK pre (0:Nat)) v=bK (pre++cO v) (0:Nat):=by
 unfold PU cO;by_cases h:v.k=0
 .rw[ay h,ak ah,fw]
 .rw[ak h,ay ah,nH];simp
theorem xw {v:kZ}(pre:List (Int × Int)):∀j:Nat,j<4->j≠0->bK (pre++cO v) j=bK pre j:=λj _ hj=>by
 unfold cO
 split
 .rw[nH,ak (by simp;omega)]
 .rw[fw]
end
theorem Ll {v:kZ}{nt:Nat}(h:iP v nt=true):0<=v.k:=by
 unfold iP at h
 split at h
 .omega
 .simp only[aU,bf] at h;omega
theorem aek {nt ns no np:Nat}{e:EvC}{scan:List Sn}(h:ja nt ns no np e scan=true):((e.kind=2\/e.kind=3)->0<=e.v.k)/\∀s∈scan,0<=s.v.k:=by
 simp only[ja,aU] at h;obtain⟨⟨⟨⟨_,_⟩,ht⟩,hh⟩,hb⟩:=h;refine⟨λk23=>?_,λs hs=>?_⟩
 .unfold hasB at hh
  rw[ak ah] at hh;rcases k23 with k2|k3
  .rw[ay k2] at hh;simp only[aU] at hh;exact Ll hh.1.1.2
  .rw[ak ah,ay k3] at hh;simp only[aU] at hh;exact Ll hh.2
 .by_cases k4:e.kind=4
  .simp[hasB,k4] at hh
   obtain⟨⟨_,_⟩,ha⟩:=hh;have:=ha s hs;simp only[kU,aU] at this;exact Ll this.2
  .have hn:scan=[]:=by
    unfold gG at hb;rw[ak k4] at hb
    split at hb
    .simpa using(by simp only[aU,bf] at hb;exact hb.2)
    .split at hb <;> (simp only[aU,bf] at hb;exact hb.2)
   rw[hn] at hs;cases hs
end Yd
