import Derived.Test.YtpeojoobplpcoaaGreatDoorPSpF
set_option linter.all false
set_option maxRecDepth 200000
set_option maxHeartbeats 8000000
namespace Yd
open Bool renaming false->A,true->B
open Int renaming ofNat_inj->I,ofNat_lt->R
open List renaming getElem_idxOf->G,zip_map->J,getElem?_take_of_lt->K,map_snd_zip->L,getElem_take->N,append_inj'->O
open Option renaming none->C
open Go Go.RowKit Go.Proofs
open _root_ renaming Int->u,List->w,Nat->H
theorem Ot (l:w u)(n:u):n∈ny l n:=by
 unfold ny
 split
 .assumption
 .simp
theorem GX {s n:u}(xs:w (u × u)):(s,n)∈xs->n∈cu xs s:=by
 refine yJ (P:=λxs=>(s,n)∈xs->n∈cu xs s) (λh=>by cases h) (λxs x ih h=>?_) xs;rcases dm.1 h with h|h
 .exact(AA xs x s).subset (ih h)
 .obtain rfl:x=(s,n):=(bT.1 h).symm
  rw[lQ,av rfl];exact Ot _ _
theorem Ll {s n:u}(xs:w (u × u)):n∈cu xs s->(s,n)∈xs:=by
 refine yJ (P:=λxs=>n∈cu xs s->(s,n)∈xs) (λh=>by cases h) (λxs x ih h=>?_) xs;rw[lQ] at h;by_cases hx:x.1=s
 .rw[av hx] at h
  unfold ny at h
  split at h
  .exact iJ _ (ih h)
  .rcases dm.1 h with h|h
   .exact iJ _ (ih h)
   .have:n=x.2:=by simpa using h
    refine jK _ ?_;rw[this,<-hx];simp
 .rw[au hx] at h
  exact iJ _ (ih h)
theorem FD (s:u)(xs:w (u × u)):(cu xs s).Nodup:=by
 refine yJ (P:=λxs=>(cu xs s).Nodup) tY (λxs x ih=>?_) xs;rw[lQ]
 split
 .exact Uu ih
 .exact ih
theorem zF {v:lK}{nt:H}(h:gI v nt=B):∀x∈jN v,x.1=0/\aV x.2 nt=B:=λx hx=>by
 unfold jN at hx
 split at hx
 .rename_i hk
  rw[bT.1 hx];unfold gI at h;rw[au ah] at h;simp only[aO] at h;exact⟨rfl,h.1.1⟩
 .cases hx
theorem zh {c:Cont}(h:gK c):∀x∈aY c,∃s:H,s<4/\x.1=(s:u)/\aV x.2 (c.nl s).length=B:=by
 intro x hx;unfold aY at hx;rcases dm.1 hx with hx|hx
 .rcases dm.1 hx with hx|hx
  .rcases dm.1 hx with hx|hx
   .obtain⟨p,hp,hx⟩:=lH.1 hx
    have he:=h.ev p hp;obtain⟨e,l⟩:=p;simp only[gL,aO,aW] at he;obtain⟨⟨⟨⟨_,_⟩,ht⟩,hh⟩,hb⟩:=he;unfold jv at hx;rcases dm.1 hx with hx|hx
    .rcases dU.1 hx with rfl|hx
     .exact⟨0,by omega,rfl,ht⟩
     .unfold hasB at hh
      split at hx
      .rename_i k;rw[av k] at hh
       simp only[aO] at hh;rw[bT.1 hx];exact⟨1,by omega,rfl,hh.1⟩
      .rename_i k1;rw[au k1] at hh
       split at hx
       .rename_i k
        have hov:aV e.obj (c.nl 2).length=B/\gI e.v (c.nl 0).length=B:=by
         by_cases k2:e.kind=2
         .rw[av k2] at hh
          simp only[aO] at hh;exact⟨hh.1.1.1,hh.1.1.2⟩
         .rw[au k2,av (k.resolve_left k2)] at hh
          simp only[aO] at hh;exact hh
        rcases dU.1 hx with rfl|hx
        .exact⟨2,by omega,rfl,hov.1⟩
        .have:=zF hov.2 x hx
         exact⟨0,by omega,this.1,this.2⟩
       .rename_i k2
        split at hx
        .rename_i k4
         rw[au (λe=>k2 (.inl e)),au (λe=>k2 (.inr e)),av k4] at hh;simp only[aO] at hh;rw[bT.1 hx];exact⟨3,by omega,rfl,hh.1.1⟩
        .cases hx
    .obtain⟨s,hs,hx⟩:=lH.1 hx
     have h4:e.kind=4:=by
      apply Classical.byContradiction
      intro hn4;have hl:l=[]:=by
       unfold gV at hb
       split at hb
       .simp only[aO,aW] at hb;exact hb.2
       .split at hb
        .simp only[aO,aW] at hb;exact hb.2
        .first|(rw[au hn4] at hb)|skip
         simp only[aO,aW] at hb;exact hb.2
      subst hl;cases hs
     unfold hasB at hh;rw[au ah,au ah,au ah,av h4] at hh;simp only[aO,fA] at hh;have hsn:=hh.2 s hs;simp only[jW,aO] at hsn;rcases dU.1 hx with rfl|hx
     .exact⟨2,by omega,rfl,hsn.1⟩
     .have:=zF hsn.2 x hx
      exact⟨0,by omega,this.1,this.2⟩
   .obtain⟨p,hp,hx⟩:=lH.1 hx
    have ho:=h.od p hp;unfold pz at hx;rcases dU.1 hx with rfl|hx
    .exact⟨2,by omega,rfl,ho.1⟩
    .obtain⟨d,hd,rfl⟩:=dI.1 hx
     have:=ho.2;simp only[eZ,aO,fA] at this;exact⟨0,by omega,rfl,this.2 d hd⟩
  .obtain⟨p,hp,hx⟩:=lH.1 hx
   have ho:=h.ma p hp;unfold nM at hx;rcases dU.1 hx with rfl|hx
   .exact⟨3,by omega,rfl,ho.1⟩
   .rcases dU.1 hx with rfl|hx
    .exact⟨2,by omega,rfl,ho.2.1⟩
    .obtain⟨d,hd,rfl⟩:=dI.1 hx
     have:=ho.2.2;simp only[eZ,aO,fA] at this;exact⟨0,by omega,rfl,this.2 d hd⟩
 .obtain⟨p,hp,hx⟩:=lH.1 hx
  have ho:=h.wa p hp;unfold oF at hx;rw[bT.1 hx];exact⟨1,by omega,rfl,ho.1⟩
theorem nN {l:w u}{n:u}(h:n∈l):aV (dZ l n) l.length=B:=by
 unfold dZ;rw[av h];have:=Ca h;unfold aV;exact Bool.and_eq_true_iff.2 ⟨bN (D6 _),bN (R.2 this)⟩
theorem Bd {n:u}{m:H}(h:aV n m=B):∃k:H,n=(k:u)/\k<m:=by
 simp only[aV,aO,aW] at h;exact⟨n.toNat,by omega,by omega⟩
theorem qK (l:w Bs){k:H}(h:k<l.length):aK l (k:u)=l[k]:=by
 unfold aK;rw[jB,List.getD_eq_getElem?_getD,fK h];rfl
theorem Jb {l:w Bs}(hn:l.Nodup){i j:H}(hi:i<l.length)(hj:j<l.length)(e:l[i]=l[j]):i=j:=by
 rcases Nat.lt_trichotomy i j with h|h|h
 .exact absurd e (GU.1 hn i j hi hj h)
 .exact h
 .exact absurd e.symm (GU.1 hn j i hj hi h)
theorem ZL {l:w Bs}(hn:l.Nodup){ns:w u}(h:∀n∈ns,aV n l.length=B)(hd:ns.Nodup):(ns.map (aK l)).Nodup/\∀s∈ns.map (aK l),s∈l:=by
 refine⟨?_,λs hs=>?_⟩
 .refine List.pairwise_map.2 (List.Pairwise.imp_of_mem (fun {a b} ha hb hne e=>hne ?_) hd)
  obtain⟨i,rfl,hi⟩:=Bd (h a ha);obtain⟨j,rfl,hj⟩:=Bd (h b hb);rw[qK l hi,qK l hj] at e;rw[Jb hn hi hj e]
 .obtain⟨n,hn',rfl⟩:=dI.1 hs
  obtain⟨i,rfl,hi⟩:=Bd (h n hn');rw[qK l hi];exact List.getElem_mem hi
theorem l9.number {c:Cont}(h:gK c):l9 (cO c):=λi=>by
 show((cu (aY c) (i:u)).map (aK (c.nl i))).Nodup/\∀s∈(cu (aY c) (i:u)).map (aK (c.nl i)),bF ⟨s.toArray⟩=B;have ht:∀n∈cu (aY c) (i:u),aV n (c.nl i).length=B:=λn hn=>by
  obtain⟨s,_,hs,ht⟩:=zh h _ (Ll _ hn);have:i=s:=I.1 hs;subst this;exact ht
 obtain⟨h1,h2⟩:=ZL (h.nm i).1 ht (FD _ _);exact⟨h1,λs hs=>(h.nm i).2 s (h2 s hs)⟩
theorem Ou {F:u->w u}{v:lK}{nt:H}(h:gI v nt=B)(hm:∀x∈jN v,x.2∈F 0):gI (lS F v) (F 0).length=B:=by
 unfold lS;by_cases hk:0<v.k
 .rw[av hk]
  unfold gI at h ⊢;rw[au ah] at h;rw[au (by simp only[];omega)];simp only[aO] at h ⊢;have:v.t∈F 0:=hm (0,v.t) (by unfold jN;rw[av hk];simp);exact⟨⟨nN this,h.1.2⟩,h.2⟩
 .rw[au hk]
  unfold gI at h ⊢;by_cases h0:v.k=0
  .rw[av h0] at h ⊢;exact h
  .rw[au h0] at h
   simp only[aO,aW] at h;omega
theorem aj6 {F:u->w u}{s:Sn}{nt no:H}(h:jW nt no s=B)(h2:s.obj∈F 2)(hm:∀x∈jN s.v,x.2∈F 0):jW (F 0).length (F 2).length (Cb F s)=B:=by
 simp only[jW,aO] at h ⊢;exact⟨nN h2,Ou h.2 hm⟩
theorem aj7 {F:u->w u}{e:EvC}{l:w Sn}{nt ns no np:H}(h:gL nt ns no np e l=B)(hm:∀x∈jv e l,x.2∈F x.1):gL (F 0).length (F 1).length (F 2).length (F 3).length (eT F e) (l.map (Cb F))=B:=by
 obtain⟨kd,t,bW,lvl,obj,v,pred,sa,sn,sc⟩:=e;simp only[gL,aO,aW] at h;obtain⟨⟨⟨⟨h1,h7⟩,ht⟩,hh⟩,hb⟩:=h;have hmt:t∈F 0:=hm (0,t) (by simp[jv]);have ht2:=nN hmt;have hk:kd=1\/kd=2\/kd=3\/kd=4\/kd=5\/kd=6:=by omega
 rcases hk with rfl|rfl|rfl|rfl|rfl|rfl
 .simp[hasB,gV] at hh hb
  have h2:=nN (hm (1,bW) (by simp[jv]));obtain⟨⟨⟨_,_⟩,_⟩,rfl⟩:=hb;simp[gL,hasB,gV,eT,ht2,h2,hh.2]
 .simp[hasB,gV] at hh hb
  have h2:=nN (hm (2,obj) (by simp[jv]));have h3:=Ou (F:=F) hh.1.1.2 (λx hx=>by have:=hm x (by simp[jv,hx]);have h0:=(zF hh.1.1.2 x hx).1;rw[h0] at this;exact this);obtain⟨⟨⟨_,rfl⟩,_⟩,rfl⟩:=hb;have hk:0<v.k:=hh.2;have hvt:(lS F v).t=dZ (F 0) t/\0<(lS F v).k:=by unfold lS;rw[av hk];exact⟨by rw[hh.1.2],hk⟩
  simp[gL,hasB,gV,eT,ht2,h2,h3,hvt.1,hvt.2]
 .simp[hasB,gV] at hh hb
  have h2:=nN (hm (2,obj) (by simp[jv]));have h3:=Ou (F:=F) hh.2 (λx hx=>by have:=hm x (by simp[jv,hx]);have h0:=(zF hh.2 x hx).1;rw[h0] at this;exact this);obtain⟨⟨⟨_,rfl⟩,_⟩,rfl⟩:=hb;simp[gL,hasB,gV,eT,ht2,h2,h3]
 .simp[hasB,gV] at hh hb
  have h2:=nN (hm (3,pred) (by simp[jv]));obtain⟨⟨⟨_,rfl⟩,_⟩,_⟩:=hb;have hs:∀s∈l,jW (F 0).length (F 2).length (Cb F s)=B:=λs hs=>by
   have hsb:=hh.2 s hs;refine aj6 hsb (hm (2,s.obj) ?_) (λx hx=>?_)
   .unfold jv;refine jK _ (lH.2 ⟨s,hs,by simp⟩)
   .have:=hm x (by unfold jv;exact jK _ (lH.2 ⟨s,hs,eD _ hx⟩))
    simp only[jW,aO] at hsb;have h0:=(zF hsb.2 x hx).1;rw[h0] at this;exact this
  simp[gL,hasB,gV,eT,ht2,h2,hh.1.2];exact hs
 .simp[hasB,gV] at hh hb
  obtain⟨⟨⟨⟨⟨_,rfl⟩,_⟩,_⟩,_⟩,rfl⟩:=hb;simp[gL,hasB,gV,eT,ht2]
 .simp[hasB,gV] at hh hb
  obtain⟨⟨⟨⟨⟨_,rfl⟩,_⟩,_⟩,_⟩,rfl⟩:=hb;simp[gL,hasB,gV,eT,ht2]
theorem Jc {α β γ δ:Type}(f:α->γ)(g:β->δ)(xs:w α)(ys:w β):(xs.map f).zip (ys.map g)=(xs.zip ys).map (λp=>(f p.1,g p.2)):=by
 rw[J];rfl
theorem Ov {F:u->w u}{nt:H}{l:w u}(h:eZ nt l=B)(hm:∀d∈l,d∈F 0):eZ (F 0).length (l.map (dZ (F 0)))=B:=by
 simp only[eZ,aO,fA,aW,bH] at h ⊢;refine⟨h.1,λx hx=>?_⟩;obtain⟨d,hd,rfl⟩:=dI.1 hx;exact nN (hm d hd)
theorem gK.number {c:Cont}(h:gK c):gK (cO c):=by
 have hF:∀x∈aY c,x.2∈cu (aY c) x.1:=λx hx=>GX _ hx
 have hl:∀i:H,((cO c).nl i).length=(cu (aY c) (i:u)).length:=λi=>bH _
 have l0:=hl 0;have l1:=hl 1;have l2:=hl 2;have l3:=hl 3;refine⟨l9.number h,?_,?_,?_,λp hp=>?_,λp hp=>?_,λp hp=>?_,λx hx=>?_⟩
 .show(c.E.map _).length=(c.SE.map _).length
  rw[bH,bH];exact h.le
 .show(c.D.map _).length=(c.SD.map _).length
  rw[bH,bH];exact h.ld
 .show(c.M.map _).length=(c.SM.map _).length
  rw[bH,bH];exact h.lm
 .have hp':p∈(c.E.map (Yd.eT (cu (aY c)))).zip (c.SE.map (λl=>l.map (Cb (cu (aY c))))):=hp
  rw[Jc] at hp';obtain⟨q,hq,rfl⟩:=dI.1 hp';rw[l0,l1,l2,l3];exact aj7 (h.ev q hq) (λx hx=>hF x (by unfold aY;exact iJ _ (iJ _ (iJ _ (lH.2 ⟨q,hq,hx⟩)))))
 .have hp':p∈(c.D.map (λx=>(⟨dZ (cu (aY c) 2) x.obj,C,0,0⟩:aM))).zip (c.SD.map (λl=>l.map (dZ (cu (aY c) 0)))):=hp
  rw[Jc] at hp';obtain⟨q,hq,rfl⟩:=dI.1 hp';have hx:=λx (hx:x∈pz q.1 q.2)=>hF x (by unfold aY;exact iJ _ (iJ _ (jK _ (lH.2 ⟨q,hq,hx⟩))))
  rw[l0,l2];exact⟨nN (hx (2,q.1.obj) (by simp[pz])),Ov (h.od q hq).2 (λd hd=>hx (0,d) (by simp[pz,hd]))⟩
 .have hp':p∈(c.M.map (λx=>(⟨dZ (cu (aY c) 3) x.pred,dZ (cu (aY c) 2) x.obj,x.first,C,0,0⟩:aN))).zip (c.SM.map (λl=>l.map (dZ (cu (aY c) 0)))):=hp
  rw[Jc] at hp';obtain⟨q,hq,rfl⟩:=dI.1 hp';have hx:=λx (hx:x∈nM q.1 q.2)=>hF x (by unfold aY;exact iJ _ (jK _ (lH.2 ⟨q,hq,hx⟩)))
  rw[l0,l2,l3];exact⟨nN (hx (3,q.1.pred) (by simp[nM])),nN (hx (2,q.1.obj) (by simp[nM])),Ov (h.ma q hq).2.2 (λd hd=>hx (0,d) (by simp[nM,hd]))⟩
 .have hx':x∈c.Q.map (λx=>(⟨dZ (cu (aY c) 1) x.bW,x.bits⟩:Wa)):=hx
  obtain⟨q,hq,rfl⟩:=dI.1 hx';have hx:=λx (hx:x∈oF q)=>hF x (by unfold aY;exact jK _ (lH.2 ⟨q,hq,hx⟩))
  rw[l1];exact⟨nN (hx (1,q.bW) (by simp[oF])),(h.wa q hq).2⟩
def D7 (d:Cont):Prop:=∀i:H,i<4->cu (aY d) (i:u)=up (d.nl i).length
def nA (d:Cont)(xs:w (u × u))(c:Cont):Prop:=∀i:H,c.nl i=(d.nl i).take (cu xs (i:u)).length
theorem AX {xs ys:w (u × u)}(s:u)(h:xs<+:ys):cu xs s<+:cu ys s:=by
 obtain⟨t,rfl⟩:=h;refine yJ (P:=λt=>cu xs s<+:cu (xs++t) s) (by rw[dB];exact gU _) (λt x ih=>?_) t;rw[<-dD];exact ih.trans (AA _ _ _)
theorem afP {l:w u}{n:H}(h:l<+:up n):l=up l.length:=by
 have h1:=List.prefix_iff_eq_take.1 h;have h2:=h.length_le;rw[pu] at h2;have h3:(up n).take l.length=up l.length:=by
  unfold up;rw[<-List.map_take,List.take_range,qY h2]
 rw[<-h3];exact h1
theorem WJ {l:w Bs}(hn:l.Nodup){k:H}(hk:k<l.length){m:H}(hkm:k<m):(l.take m).idxOf l[k]=k:=by
 have hk2:k<(l.take m).length:=by rw[fE];omega
 have hmem:l[k]∈l.take m:=by
  refine dP (i:=k) ?_;rw[K hkm,fK hk]
 have hi:=Ca hmem;have he:=G hi;rw[N] at he;exact Jb hn (by rw[fE] at hi;omega) hk he
theorem nA.say {d c:Cont}{xs:w (u × u)}(ho:D7 d)(hn:∀i,(d.nl i).Nodup)(h:nA d xs c){s:H}(hs:s<4){n:u}(hp:xs++[((s:u),n)]<+:aY d):
  nA d (xs++[((s:u),n)]) (c.put s (aK (d.nl s) n))/\c.no s (aK (d.nl s) n)=n:=by
 obtain⟨l,hl⟩:∃l,l=d.nl s:=⟨_,rfl⟩;have hF:=AX (s:u) hp;rw[ho s hs] at hF;have hx:=AX (s:u) ((eG xs [((s:u),n)]).trans hp);rw[ho s hs] at hx;obtain⟨m,hm⟩:∃m,m=(cu xs (s:u)).length:=⟨_,rfl⟩;have hu:cu xs (s:u)=up m:=by rw[hm];exact afP hx
 have hFn:cu (xs++[((s:u),n)]) (s:u)=ny (up m) n:=by rw[lQ,av rfl,hu]
 rw[hFn] at hF;obtain⟨k,rfl,hk⟩:∃k:H,n=(k:u)/\k<l.length:=by
  have h1:=hF.subset (Ot (up m) n);unfold up at h1;obtain⟨k,hk,e⟩:=dI.1 h1;exact⟨k,e.symm,by rw[hl];exact xL.1 hk⟩
 have hnl:=hn s;rw[<-hl] at hnl;have hc:c.nl s=l.take m:=by rw[hl,hm];exact h s
 have hml:m<=l.length:=by
  have:=hx.length_le;rw[pu,hu,pu] at this;rw[hl];exact this
 have hname:aK (d.nl s) (k:u)=l[k]:=by rw[<-hl];exact qK l hk
 rw[hname];have hoth:∀i:H,i≠s->(c.put s l[k]).nl i=(d.nl i).take (cu (xs++[((s:u),(k:u))]) (i:u)).length:=λi hi=>by
  have e1:(c.put s l[k]).nl i=c.nl i:=au hi;have e2:cu (xs++[((s:u),(k:u))]) (i:u)=cu xs (i:u):=by rw[lQ,au (λe=>hi (I.1 e).symm)]
  rw[e1,e2];exact h i
 have hput:(c.put s l[k]).nl s=dL (l.take m) l[k]:=by
  have:(c.put s l[k]).nl s=dL (c.nl s) l[k]:=av rfl;rw[this,hc]
 have hno:c.no s l[k]=(sN (l.take m) l[k]:u):=by unfold Cont.no;rw[hc]
 rcases gP k m with hkm|hkm
 .have hmem:l[k]∈l.take m:=by
   refine dP (i:=k) ?_;rw[K hkm,fK hk]
  refine⟨λi=>?_,?_⟩
  .by_cases hi:i=s
   .subst hi
    have e:ny (up m) (k:u)=up m:=by unfold ny;rw[av ((A9 (D6 _)).2 (R.2 hkm))]
    rw[hput,GV hmem,hFn,e,pu,hl]
   .exact hoth i hi
  .rw[hno,Wx hmem,WJ hnl hk hkm]
 .have e:ny (up m) (k:u)=up m++[(k:u)]:=by unfold ny;rw[au (λh=>by have:=(A9 (D6 k)).1 h;omega)]
  rw[e] at hF;have ani:k=m:=by
   obtain⟨t,ht⟩:=hF;have h1:(up (d.nl s).length)[m]?=some (k:u):=by
    rw[<-ht,dD,xJ (by rw[pu];exact aB _),pu,Nat.sub_self];rfl
   have hlt:m<(d.nl s).length:=by rw[<-hl];omega
   rw[WH hlt] at h1;injection h1 with h1;exact(I.1 h1).symm
  subst ani;have hnm:l[k]∉l.take k:=λhmem=>by
   obtain⟨j,hj⟩:=List.getElem?_of_mem hmem;obtain⟨h1,h2⟩:=bO.1 hj;rw[fE] at h1;rw[N] at h2;have:=Jb hnl ah hk h2;omega
  refine⟨λi=>?_,?_⟩
  .by_cases hi:i=s
   .subst hi
    rw[hput,DW hnm,hFn,e,bL,pu,kN,<-hl,jd,fK hk];rfl
   .exact hoth i hi
  .rw[hno,Sd hnm,fE,qY ah]
def jX (l:w Bs)(v:lK):To:=if v.k=0 then⟨[],0⟩ else⟨aK l v.t,v.k⟩
section
variable {d:Cont}(ho:D7 d)(hn:∀i,(d.nl i).Nodup)
include ho hn
theorem nA.afQ {c:Cont}{xs:w (u × u)}(h:nA d xs c){v:lK}{nt:H}(hv:gI v nt=B)(hp:xs++jN v<+:aY d):nA d (xs++jN v) (c.dz (jX (d.nl 0) v)).1/\(c.dz (jX (d.nl 0) v)).2=v:=by
 obtain⟨t,k⟩:=v;unfold gI at hv;unfold jN at hp ⊢;unfold Cont.dz jX;by_cases hk:k=0
 .subst hk
  simp only[bY,aW] at hv;subst hv;simp only[bY,Int.lt_irrefl,fF,dB];exact⟨h,trivial⟩
 .simp only[au hk] at hv ⊢
  simp only[aO,aW] at hv;simp only[av hv.1.2] at hp ⊢;obtain⟨h1,h2⟩:=h.say ho hn (s:=0) ah hp;exact⟨h1,by rw[h2]⟩
theorem nA.tsS:∀(ds:w u){c:Cont}{xs:w (u × u)},nA d xs c->xs++ds.map (λt=>((0:u),t))<+:aY d->nA d (xs++ds.map (λt=>((0:u),t))) (c.ts (ds.map (aK (d.nl 0)))).1/\(c.ts (ds.map (aK (d.nl 0)))).2=ds
 |[],c,xs,h,_=>by rw[mE,dB];exact⟨h,rfl⟩
 |t::ds,c,xs,h,hp=>by
  have e:xs++(t::ds).map (λt=>((0:u),t))=(xs++[((0:u),t)])++ds.map (λt=>((0:u),t)):=by simp
  rw[e] at hp ⊢;obtain⟨h1,h2⟩:=h.say ho hn (s:=0) ah ((eG _ _).trans hp);obtain⟨h3,h4⟩:=nA.tsS ds h1 hp;exact⟨h3,by show _::_=_;rw[h2,h4]⟩
theorem nA.scS:∀(sc:w Sn){c:Cont}{xs:w (u × u)},nA d xs c->(∀s∈sc,gI s.v (d.nl 0).length=B)->xs++sc.flatMap (λs=>((2:u),s.obj)::jN s.v)<+:aY d->
  nA d (xs++sc.flatMap (λs=>((2:u),s.obj)::jN s.v)) (c.sc (sc.map (λq=>(aK (d.nl 2) q.obj,jX (d.nl 0) q.v)))).1/\(c.sc (sc.map (λq=>(aK (d.nl 2) q.obj,jX (d.nl 0) q.v)))).2=sc
 |[],c,xs,h,_,_=>by rw[GY,dB];exact⟨h,rfl⟩
 |s::sc,c,xs,h,hv,hp=>by
  have e:xs++(s::sc).flatMap (λs=>((2:u),s.obj)::jN s.v)=((xs++[((2:u),s.obj)])++jN s.v)++sc.flatMap (λs=>((2:u),s.obj)::jN s.v):=by simp
  rw[e] at hp ⊢;obtain⟨h1,h2⟩:=h.say ho hn (s:=2) ah (((eG _ _).trans (eG _ _)).trans hp);obtain⟨h3,h4⟩:=h1.afQ ho hn (hv s fM) ((eG _ _).trans hp);obtain⟨h5,h6⟩:=nA.scS sc h3 (λx hx=>hv x (eD _ hx)) hp;refine⟨h5,?_⟩;show _::_=_;rw[h6]
  congr 1
  rw[h2,h4]
end
theorem afS (c:Cont)(a b:Bs)(lv:u):aR c ⟨1,[a,b],lv,[],A,0⟩=((c.put 0 a).put 1 b).ev {EX with kind:=1,t:=c.no 0 a,bW:=(c.put 0 a).no 1 b,lvl:=lv} []:=rfl
theorem afT (c:Cont)(a b:Bs):aR c ⟨2,[a,b],0,[],A,0⟩=((c.put 0 a).put 2 b).ev {EX with kind:=2,t:=c.no 0 a,obj:=(c.put 0 a).no 2 b,v:=⟨c.no 0 a,(iC c.E (c.no 0 a) ((c.put 0 a).no 2 b):u)+1⟩} []:=rfl
theorem afU (c:Cont)(a b:Bs)(v:To):aR c ⟨3,[a,b],0,[v],A,0⟩=(((c.put 0 a).put 2 b).dz v).1.ev {EX with kind:=3,t:=c.no 0 a,obj:=(c.put 0 a).no 2 b,v:=(((c.put 0 a).put 2 b).dz v).2} []:=rfl
theorem afV (c:Cont)(a b:Bs)(ns:w Bs)(vs:w To):aR c ⟨4,[a,b]++ns,0,vs,A,0⟩=(((c.put 0 a).put 3 b).sc (ns.zip vs)).1.ev {EX with kind:=4,t:=c.no 0 a,pred:=(c.put 0 a).no 3 b} (((c.put 0 a).put 3 b).sc (ns.zip vs)).2:=rfl
theorem afW (c:Cont)(a:Bs):aR c ⟨5,[a],0,[],A,0⟩=(c.put 0 a).ev {EX with kind:=5,t:=c.no 0 a} []:=rfl
theorem afX (c:Cont)(a:Bs):aR c ⟨6,[a],0,[],A,0⟩=(c.put 0 a).ev {EX with kind:=6,t:=c.no 0 a} []:=rfl
theorem afY (c:Cont)(a:Bs)(ns:w Bs):aR c ⟨7,[a]++ns,0,[],A,0⟩={((c.put 2 a).ts ns).1 with D:=c.D++[⟨c.no 2 a,C,0,0⟩],SD:=c.SD++[((c.put 2 a).ts ns).2]}:=rfl
theorem afZ (c:Cont)(a b:Bs)(ns:w Bs)(f:Bool):aR c ⟨8,[a,b]++ns,0,[],f,0⟩={(((c.put 3 a).put 2 b).ts ns).1 with M:=c.M++[⟨c.no 3 a,(c.put 3 a).no 2 b,f,C,0,0⟩],SM:=c.SM++[(((c.put 3 a).put 2 b).ts ns).2]}:=rfl
theorem af0 (c:Cont)(a:Bs)(b:u):aR c ⟨9,[a],0,[],A,b⟩={c.put 1 a with Q:=c.Q++[⟨c.no 1 a,b⟩]}:=rfl
def iD (d:Cont)(e:EvC)(scan:w Sn):aH:=
 if e.kind=1 then⟨e.kind,[aK (d.nl 0) e.t,aK (d.nl 1) e.bW],e.lvl,[],A,0⟩
 else if e.kind=2 then⟨e.kind,[aK (d.nl 0) e.t,aK (d.nl 2) e.obj],0,[],A,0⟩
 else if e.kind=3 then⟨e.kind,[aK (d.nl 0) e.t,aK (d.nl 2) e.obj],0,[jX (d.nl 0) e.v],A,0⟩
 else if e.kind=4 then⟨e.kind,[aK (d.nl 0) e.t,aK (d.nl 3) e.pred]++scan.map (λq=>aK (d.nl 2) q.obj),0,scan.map (λq=>jX (d.nl 0) q.v),A,0⟩
 else⟨e.kind,[aK (d.nl 0) e.t],0,[],A,0⟩
structure Added (c z:Cont)(e:EvC)(l:w Sn):Prop where
 E:z.E=c.E++[e]
 SE:z.SE=c.SE++[l]
 D:z.D=c.D
 SD:z.SD=c.SD
 M:z.M=c.M
 SM:z.SM=c.SM
 Q:z.Q=c.Q
theorem Added.of {c z:Cont}(n:Nm c z)(e:EvC)(l:w Sn):Added c (z.ev e l) e l:=
 ⟨by show z.E++[e]=_;rw[n.e],by show z.SE++[l]=_;rw[n.se],n.d,n.sd,n.m,n.sm,n.q⟩
theorem Ow {α β γ:Type}(f:α->β)(g:α->γ):∀l:w α,(l.map f).zip (l.map g)=l.map (λx=>(f x,g x))
 |[]=>rfl
 |x::l=>by rw[eu,eu,List.zip_cons_cons,Ow f g l];rfl
theorem nA.event {d c:Cont}{xs:w (u × u)}(ho:D7 d)(hn:∀i,(d.nl i).Nodup)(h:nA d xs c){e:EvC}{l:w Sn}{ns no np:H}(he:gL (d.nl 0).length ns no np e l=B)(hb:e.base=e)
  (hp:xs++jv e l<+:aY d) (hk:e.kind=2->e.v.k=(iC c.E e.t e.obj:u)+1):nA d (xs++jv e l) (aR c (iD d e l))/\Added c (aR c (iD d e l)) e l:=by
 obtain⟨kd,t,bW,lvl,obj,v,pred,sa,sn,sc⟩:=e;have hb':(⟨kd,t,bW,lvl,obj,v,pred,C,0,0⟩:EvC)=⟨kd,t,bW,lvl,obj,v,pred,sa,sn,sc⟩:=hb;simp only[EvC.mk.injEq,true_and] at hb';obtain⟨rfl,rfl,rfl⟩:=hb';simp only[gL,aO,aW] at he;obtain⟨⟨⟨⟨h1,h7⟩,_⟩,hh⟩,hbr⟩:=he;have hkk:kd=1\/kd=2\/kd=3\/kd=4\/kd=5\/kd=6:=by omega
 rcases hkk with rfl|rfl|rfl|rfl|rfl|rfl
 .simp[gV] at hbr
  obtain⟨⟨⟨rfl,rfl⟩,rfl⟩,rfl⟩:=hbr;have e1:jv ⟨1,t,bW,lvl,0,⟨0,0⟩,0,C,0,0⟩ []=[((0:u),t)]++[((1:u),bW)]:=rfl;rw[e1] at hp ⊢;rw[<-dD] at hp ⊢;obtain⟨h2,h3⟩:=h.say ho hn (s:=0) ah ((eG _ _).trans hp);obtain⟨h4,h5⟩:=h2.say ho hn (s:=1) ah hp;have e2:iD d ⟨1,t,bW,lvl,0,⟨0,0⟩,0,C,0,0⟩ []=⟨1,[aK (d.nl 0) t,aK (d.nl 1) bW],lvl,[],A,0⟩:=rfl;rw[e2,afS,h3,h5];exact⟨h4,Added.of ((Nm.put _ _ _).trans (Nm.put _ _ _)) _ _⟩
 .simp[gV] at hbr
  simp[hasB] at hh;obtain⟨⟨⟨rfl,rfl⟩,rfl⟩,rfl⟩:=hbr;have hkv:=hk rfl;simp only at hkv;obtain⟨vt,vk⟩:=v;simp only at hkv hh;obtain⟨⟨⟨_,_⟩,rfl⟩,hk0⟩:=hh;have e1:jv ⟨2,vt,0,0,obj,⟨vt,vk⟩,0,C,0,0⟩ []=[((0:u),vt)]++([((2:u),obj)]++[((0:u),vt)]):=by
   unfold jv jN;simp[hk0]
  rw[e1] at hp ⊢;rw[<-dD,<-dD] at hp ⊢;obtain⟨h2,h3⟩:=h.say ho hn (s:=0) ah (((eG _ _).trans (eG _ _)).trans hp);obtain⟨h4,h5⟩:=h2.say ho hn (s:=2) ah ((eG _ _).trans hp);obtain⟨h6,h7⟩:=h4.say ho hn (s:=0) ah hp;have e2:iD d ⟨2,vt,0,0,obj,⟨vt,vk⟩,0,C,0,0⟩ []=⟨2,[aK (d.nl 0) vt,aK (d.nl 2) obj],0,[],A,0⟩:=rfl;rw[e2,afT,h3,h5,<-hkv];refine⟨λi=>?_,Added.of ((Nm.put _ _ _).trans (Nm.put _ _ _)) _ _⟩;refine Eq.trans ?_ (h6 i);show _=(if i=0 then dL (((c.put 0 (aK (d.nl 0) vt)).put 2 (aK (d.nl 2) obj)).nl 0) (aK (d.nl 0) vt) else((c.put 0 (aK (d.nl 0) vt)).put 2 (aK (d.nl 2) obj)).nl i);by_cases hi:i=0
  .subst hi
   rw[av rfl,GV]
   .rfl
   .have h9:((c.put 0 (aK (d.nl 0) vt)).put 2 (aK (d.nl 2) obj)).nl 0=dL (c.nl 0) (aK (d.nl 0) vt):=rfl
    rw[h9];exact D8 _ _
  .rw[au hi];rfl
 .simp[gV] at hbr
  simp[hasB] at hh;obtain⟨⟨⟨rfl,rfl⟩,rfl⟩,rfl⟩:=hbr;have e1:jv ⟨3,t,0,0,obj,v,0,C,0,0⟩ []=[((0:u),t)]++([((2:u),obj)]++jN v):=by
   unfold jv;simp
  rw[e1] at hp ⊢;rw[<-dD,<-dD] at hp ⊢;obtain⟨h2,h3⟩:=h.say ho hn (s:=0) ah (((eG _ _).trans (eG _ _)).trans hp);obtain⟨h4,h5⟩:=h2.say ho hn (s:=2) ah ((eG _ _).trans hp);obtain⟨h6,h7⟩:=h4.afQ ho hn hh.2 hp;have e2:iD d ⟨3,t,0,0,obj,v,0,C,0,0⟩ []=⟨3,[aK (d.nl 0) t,aK (d.nl 2) obj],0,[jX (d.nl 0) v],A,0⟩:=rfl;rw[e2,afU,h3,h5,h7];exact⟨h6,Added.of (((Nm.put _ _ _).trans (Nm.put _ _ _)).trans (Nm.dz _ _)) _ _⟩
 .simp[gV] at hbr
  simp[hasB] at hh;obtain⟨⟨⟨rfl,rfl⟩,rfl⟩,rfl⟩:=hbr;have e1:jv ⟨4,t,0,0,0,⟨0,0⟩,pred,C,0,0⟩ l=[((0:u),t)]++([((3:u),pred)]++l.flatMap (λs=>((2:u),s.obj)::jN s.v)):=by
   unfold jv;simp
  rw[e1] at hp ⊢;rw[<-dD,<-dD] at hp ⊢;obtain⟨h2,h3⟩:=h.say ho hn (s:=0) ah (((eG _ _).trans (eG _ _)).trans hp);obtain⟨h4,h5⟩:=h2.say ho hn (s:=3) ah ((eG _ _).trans hp);obtain⟨h6,h7⟩:=h4.scS ho hn l (λs hs=>by
   have:=hh.2 s hs;simp only[jW,aO] at this;exact this.2) hp
  have e2:iD d ⟨4,t,0,0,0,⟨0,0⟩,pred,C,0,0⟩ l=⟨4,[aK (d.nl 0) t,aK (d.nl 3) pred]++l.map (λq=>aK (d.nl 2) q.obj),0,l.map (λq=>jX (d.nl 0) q.v),A,0⟩:=rfl;rw[e2,afV,Ow,h3,h5,h7];exact⟨h6,Added.of (((Nm.put _ _ _).trans (Nm.put _ _ _)).trans (Nm.sc _ _)) _ _⟩
 .simp[gV] at hbr
  obtain⟨⟨⟨⟨⟨rfl,rfl⟩,rfl⟩,rfl⟩,rfl⟩,rfl⟩:=hbr;have e1:jv ⟨5,t,0,0,0,⟨0,0⟩,0,C,0,0⟩ []=[((0:u),t)]:=rfl;rw[e1] at hp ⊢;obtain⟨h2,h3⟩:=h.say ho hn (s:=0) ah hp;have e2:iD d ⟨5,t,0,0,0,⟨0,0⟩,0,C,0,0⟩ []=⟨5,[aK (d.nl 0) t],0,[],A,0⟩:=rfl;rw[e2,afW,h3];exact⟨h2,Added.of (Nm.put _ _ _) _ _⟩
 .simp[gV] at hbr
  obtain⟨⟨⟨⟨⟨rfl,rfl⟩,rfl⟩,rfl⟩,rfl⟩,rfl⟩:=hbr;have e1:jv ⟨6,t,0,0,0,⟨0,0⟩,0,C,0,0⟩ []=[((0:u),t)]:=rfl;rw[e1] at hp ⊢;obtain⟨h2,h3⟩:=h.say ho hn (s:=0) ah hp;have e2:iD d ⟨6,t,0,0,0,⟨0,0⟩,0,C,0,0⟩ []=⟨6,[aK (d.nl 0) t],0,[],A,0⟩:=rfl;rw[e2,afX,h3];exact⟨h2,Added.of (Nm.put _ _ _) _ _⟩
def nT (d:Cont)(x:aM)(l:w u):aH:=⟨7,[aK (d.nl 2) x.obj]++l.map (aK (d.nl 0)),0,[],A,0⟩
def nU (d:Cont)(x:aN)(l:w u):aH:=⟨8,[aK (d.nl 3) x.pred,aK (d.nl 2) x.obj]++l.map (aK (d.nl 0)),0,[],x.first,0⟩
def sw (d:Cont)(x:Wa):aH:=⟨9,[aK (d.nl 1) x.bW],0,[],A,x.bits⟩
def eH (d:Cont):w aH:=
 (d.E.zip d.SE).map (λp=>iD d p.1 p.2)++(d.D.zip d.SD).map (λp=>nT d p.1 p.2)++(d.M.zip d.SM).map (λp=>nU d p.1 p.2)++d.Q.map (sw d)
structure Has (c:Cont)(pe:w (EvC × w Sn))(pd:w (aM × w u))(pm:w (aN × w u))(pq:w Wa):Prop where
 E:c.E=pe.map Prod.fst
 SE:c.SE=pe.map Prod.snd
 D:c.D=pd.map Prod.fst
 SD:c.SD=pd.map Prod.snd
 M:c.M=pm.map Prod.fst
 SM:c.SM=pm.map Prod.snd
 Q:c.Q=pq
def kH (d:Cont):Prop:=∀a e b,d.E=a++e::b->e.kind=2->e.v.k=(iC a e.t e.obj:u)+1
structure jD (d:Cont):Prop where
 e:∀e∈d.E,e.base=e
 o:∀x∈d.D,x.base=x
 m:∀x∈d.M,x.base=x
theorem nA.order {d c:Cont}{xs:w (u × u)}(ho:D7 d)(hn:∀i,(d.nl i).Nodup)(h:nA d xs c){x:aM}{l:w u}{pe pd pm pq}(hh:Has c pe pd pm pq)(hb:x.base=x)(hp:xs++pz x l<+:aY d):
  nA d (xs++pz x l) (aR c (nT d x l))/\Has (aR c (nT d x l)) pe (pd++[(x,l)]) pm pq:=by
 obtain⟨obj,sa,sn,sc⟩:=x;have hb':(⟨obj,C,0,0⟩:aM)=⟨obj,sa,sn,sc⟩:=hb;simp only[aM.mk.injEq,true_and] at hb';obtain⟨rfl,rfl,rfl⟩:=hb';have e1:pz ⟨obj,C,0,0⟩ l=[((2:u),obj)]++l.map (λt=>((0:u),t)):=rfl;rw[e1] at hp ⊢;rw[<-dD] at hp ⊢;obtain⟨h2,h3⟩:=h.say ho hn (s:=2) ah ((eG _ _).trans hp);obtain⟨h4,h5⟩:=h2.tsS ho hn l hp;have e2:nT d ⟨obj,C,0,0⟩ l=⟨7,[aK (d.nl 2) obj]++l.map (aK (d.nl 0)),0,[],A,0⟩:=rfl;have n:=(Nm.put c 2 (aK (d.nl 2) obj)).trans (Nm.ts (l.map (aK (d.nl 0))) _);rw[e2,afY,h3,h5];exact⟨h4,n.e.trans hh.E,n.se.trans hh.SE,by show c.D++_=_;rw[hh.D,eU];rfl,by show c.SD++_=_;rw[hh.SD,eU];rfl,n.m.trans hh.M,n.sm.trans hh.SM,n.q.trans hh.Q⟩
theorem nA.WK {d c:Cont}{xs:w (u × u)}(ho:D7 d)(hn:∀i,(d.nl i).Nodup)(h:nA d xs c){x:aN}{l:w u}{pe pd pm pq}(hh:Has c pe pd pm pq)(hb:x.base=x)(hp:xs++nM x l<+:aY d):
  nA d (xs++nM x l) (aR c (nU d x l))/\Has (aR c (nU d x l)) pe pd (pm++[(x,l)]) pq:=by
 obtain⟨pred,obj,fi,sa,sn,sc⟩:=x;have hb':(⟨pred,obj,fi,C,0,0⟩:aN)=⟨pred,obj,fi,sa,sn,sc⟩:=hb;simp only[aN.mk.injEq,true_and] at hb';obtain⟨rfl,rfl,rfl⟩:=hb';have e1:nM ⟨pred,obj,fi,C,0,0⟩ l=[((3:u),pred)]++([((2:u),obj)]++l.map (λt=>((0:u),t))):=rfl;rw[e1] at hp ⊢;rw[<-dD,<-dD] at hp ⊢;obtain⟨h2,h3⟩:=h.say ho hn (s:=3) ah (((eG _ _).trans (eG _ _)).trans hp);obtain⟨h4,h5⟩:=h2.say ho hn (s:=2) ah ((eG _ _).trans hp);obtain⟨h6,h7⟩:=h4.tsS ho hn l hp;have e2:nU d ⟨pred,obj,fi,C,0,0⟩ l=⟨8,[aK (d.nl 3) pred,aK (d.nl 2) obj]++l.map (aK (d.nl 0)),0,[],fi,0⟩:=rfl;have n:=((Nm.put c 3 (aK (d.nl 3) pred)).trans (Nm.put _ 2 (aK (d.nl 2) obj))).trans (Nm.ts (l.map (aK (d.nl 0))) _);rw[e2,afZ,h3,h5,h7];exact⟨h6,n.e.trans hh.E,n.se.trans hh.SE,n.d.trans hh.D,n.sd.trans hh.SD,by show c.M++_=_;rw[hh.M,eU];rfl,by show c.SM++_=_;rw[hh.SM,eU];rfl,n.q.trans hh.Q⟩
theorem nA.want {d c:Cont}{xs:w (u × u)}(ho:D7 d)(hn:∀i,(d.nl i).Nodup)(h:nA d xs c){x:Wa}{pe pd pm pq}(hh:Has c pe pd pm pq)(hp:xs++oF x<+:aY d):
  nA d (xs++oF x) (aR c (sw d x))/\Has (aR c (sw d x)) pe pd pm (pq++[x]):=by
 obtain⟨bW,bits⟩:=x;have e1:oF ⟨bW,bits⟩=[((1:u),bW)]:=rfl;rw[e1] at hp ⊢;obtain⟨h2,h3⟩:=h.say ho hn (s:=1) ah hp;have e2:sw d ⟨bW,bits⟩=⟨9,[aK (d.nl 1) bW],0,[],A,bits⟩:=rfl;rw[e2,af0,h3];exact⟨h2,hh.E,hh.SE,hh.D,hh.SD,hh.M,hh.SM,by show c.Q++_=_;rw[hh.Q]⟩
def dK (c:Cont)(ls:w aH):Cont:=ls.foldl aR c
theorem wD (c:Cont)(a b:w aH):dK c (a++b)=dK (dK c a) b:=List.foldl_append
theorem Gr.all:∀(ls:w aH)(c:Cont),Gr c (dK c ls)
 |[],c=>Gr.refl c
 |l::ls,c=>(Gr.add c l).trans (Gr.all ls _)
section
variable {d:Cont}(ho:D7 d)(hn:∀i,(d.nl i).Nodup)(hs:gK d)(hb:jD d)(hc:kH d)
include ho hn hs hb hc
theorem acJ:∀(r pe:w (EvC × w Sn)){c:Cont}{xs:w (u × u)},nA d xs c->Has c pe [] [] []->d.E.zip d.SE=pe++r->xs++r.flatMap (λp=>jv p.1 p.2)<+:aY d->
  nA d (xs++r.flatMap (λp=>jv p.1 p.2)) (dK c (r.map (λp=>iD d p.1 p.2)))/\Has (dK c (r.map (λp=>iD d p.1 p.2))) (pe++r) [] [] []
 |[],pe,c,xs,h,hh,_,_=>by rw[GY,dB,dB];exact⟨h,hh⟩
 |p::r,pe,c,xs,h,hh,hz,hp=>by
  have hpm:p∈d.E.zip d.SE:=by rw[hz];simp
  have he:=hs.ev p hpm;have hE:d.E=pe.map Prod.fst++p.1::r.map Prod.fst:=by
   have:=bU (List.map Prod.fst) hz;rw[D9 (by rw[hs.le];exact aB _)] at this;rw[this];simp
  have e:xs++(p::r).flatMap (λp=>jv p.1 p.2)=(xs++jv p.1 p.2)++r.flatMap (λp=>jv p.1 p.2):=by simp
  rw[e] at hp ⊢;obtain⟨h1,h2⟩:=h.event ho hn he (hb.e _ (by rw[hE];simp)) ((eG _ _).trans hp) (λhk=>by rw[hh.E];exact hc _ _ _ hE hk);have h3:Has (aR c (iD d p.1 p.2)) (pe++[p]) [] [] []:=
   ⟨by rw[h2.E,hh.E,eU];rfl,by rw[h2.SE,hh.SE,eU];rfl,h2.D.trans hh.D,h2.SD.trans hh.SD,h2.M.trans hh.M,h2.SM.trans hh.SM,h2.Q.trans hh.Q⟩
  have h4:=acJ r (pe++[p]) h1 h3 (by rw[hz];simp) hp;rw[dD pe [p] r,GZ] at h4;exact h4
omit hc in
theorem acK (pe:w (EvC × w Sn)):∀(r pd:w (aM × w u)){c:Cont}{xs:w (u × u)},nA d xs c->Has c pe pd [] []->d.D.zip d.SD=pd++r->xs++r.flatMap (λp=>pz p.1 p.2)<+:aY d->
  nA d (xs++r.flatMap (λp=>pz p.1 p.2)) (dK c (r.map (λp=>nT d p.1 p.2)))/\Has (dK c (r.map (λp=>nT d p.1 p.2))) pe (pd++r) [] []
 |[],pd,c,xs,h,hh,_,_=>by rw[GY,dB,dB];exact⟨h,hh⟩
 |p::r,pd,c,xs,h,hh,hz,hp=>by
  have hpm:p∈d.D.zip d.SD:=by rw[hz];simp
  have e:xs++(p::r).flatMap (λp=>pz p.1 p.2)=(xs++pz p.1 p.2)++r.flatMap (λp=>pz p.1 p.2):=by simp
  rw[e] at hp ⊢;obtain⟨h1,h2⟩:=h.order ho hn hh (hb.o _ (G5 hpm).1) ((eG _ _).trans hp);have h4:=acK pe r (pd++[p]) h1 h2 (by rw[hz];simp) hp;rw[dD pd [p] r,GZ] at h4;exact h4
omit hc in
theorem acL (pe:w (EvC × w Sn))(pd:w (aM × w u)):∀(r pm:w (aN × w u)){c:Cont}{xs:w (u × u)},nA d xs c->Has c pe pd pm []->d.M.zip d.SM=pm++r->xs++r.flatMap (λp=>nM p.1 p.2)<+:aY d->
  nA d (xs++r.flatMap (λp=>nM p.1 p.2)) (dK c (r.map (λp=>nU d p.1 p.2)))/\Has (dK c (r.map (λp=>nU d p.1 p.2))) pe pd (pm++r) []
 |[],pm,c,xs,h,hh,_,_=>by rw[GY,dB,dB];exact⟨h,hh⟩
 |p::r,pm,c,xs,h,hh,hz,hp=>by
  have hpm:p∈d.M.zip d.SM:=by rw[hz];simp
  have e:xs++(p::r).flatMap (λp=>nM p.1 p.2)=(xs++nM p.1 p.2)++r.flatMap (λp=>nM p.1 p.2):=by simp
  rw[e] at hp ⊢;obtain⟨h1,h2⟩:=h.WK ho hn hh (hb.m _ (G5 hpm).1) ((eG _ _).trans hp);have h4:=acL pe pd r (pm++[p]) h1 h2 (by rw[hz];simp) hp;rw[dD pm [p] r,GZ] at h4;exact h4
omit hs hb hc in
theorem acM (pe:w (EvC × w Sn))(pd:w (aM × w u))(pm:w (aN × w u)):∀(r pq:w Wa){c:Cont}{xs:w (u × u)},nA d xs c->Has c pe pd pm pq->xs++r.flatMap oF<+:aY d->
  nA d (xs++r.flatMap oF) (dK c (r.map (sw d)))/\Has (dK c (r.map (sw d))) pe pd pm (pq++r)
 |[],pq,c,xs,h,hh,_=>by rw[GY,dB,dB];exact⟨h,hh⟩
 |p::r,pq,c,xs,h,hh,hp=>by
  have e:xs++(p::r).flatMap oF=(xs++oF p)++r.flatMap oF:=by simp
  rw[e] at hp ⊢;obtain⟨h1,h2⟩:=h.want ho hn hh ((eG _ _).trans hp);have h4:=acM pe pd pm r (pq++[p]) h1 h2 hp;rw[dD pq [p] r,GZ] at h4;exact h4
structure qR (c d:Cont):Prop where
 n:∀i,i<4->c.nl i=d.nl i
 E:c.E=d.E
 SE:c.SE=d.SE
 D:c.D=d.D
 SD:c.SD=d.SD
 M:c.M=d.M
 SM:c.SM=d.SM
 Q:c.Q=d.Q
theorem FE:qR (dK eO (eH d)) d:=by
 have hS:aY d=(((([]:w (u × u))++(d.E.zip d.SE).flatMap (λp=>jv p.1 p.2))++(d.D.zip d.SD).flatMap (λp=>pz p.1 p.2))++(d.M.zip d.SM).flatMap (λp=>nM p.1 p.2))++d.Q.flatMap oF:=rfl;have h0:nA d [] eO:=λi=>by show []=_;exact(List.take_zero).symm
 have H0:Has eO [] [] [] []:=⟨rfl,rfl,rfl,rfl,rfl,rfl,rfl⟩;obtain⟨h1,H1⟩:=acJ ho hn hs hb hc (d.E.zip d.SE) [] h0 H0 rfl (by rw[hS];exact((eG _ _).trans (eG _ _)).trans (eG _ _));obtain⟨h2,H2⟩:=acK ho hn hs hb _ (d.D.zip d.SD) [] h1 H1 rfl (by rw[hS];exact(eG _ _).trans (eG _ _));obtain⟨h3,H3⟩:=acL ho hn hs hb _ _ (d.M.zip d.SM) [] h2 H2 rfl (by rw[hS];exact eG _ _);obtain⟨h4,H4⟩:=acM ho hn _ _ _ d.Q [] h3 H3 (by rw[hS];exact gU _);rw[<-hS] at h4;have eL:dK eO (eH d)=dK (dK (dK (dK eO ((d.E.zip d.SE).map (λp=>iD d p.1 p.2))) ((d.D.zip d.SD).map (λp=>nT d p.1 p.2))) ((d.M.zip d.SM).map (λp=>nU d p.1 p.2))) (d.Q.map (sw d)):=by
  unfold eH;rw[wD,wD,wD]
 rw[eL];refine⟨λi hi=>?_,?_,?_,?_,?_,?_,?_,?_⟩
 .rw[h4 i,ho i hi,pu,List.take_length]
 .rw[H4.E,fJ,D9 (by rw[hs.le];exact aB _)]
 .rw[H4.SE,fJ,L (by rw[hs.le];exact aB _)]
 .rw[H4.D,fJ,D9 (by rw[hs.ld];exact aB _)]
 .rw[H4.SD,fJ,L (by rw[hs.ld];exact aB _)]
 .rw[H4.M,fJ,D9 (by rw[hs.lm];exact aB _)]
 .rw[H4.SM,fJ,L (by rw[hs.lm];exact aB _)]
 .rw[H4.Q,fJ]
theorem WM (hf:aJ d)(a b:w aH)(e:eH d=a++b):aJ (dK eO a):=by
 have h:=FE ho hn hs hb hc;have hz:aJ (dK eO (eH d)):=
  ⟨λi hi=>by rw[h.n i hi];exact hf.1 i hi,by rw[h.E];exact hf.2.1,by rw[h.D];exact hf.2.2.1,by rw[h.M];exact hf.2.2.2.1,by rw[h.Q];exact hf.2.2.2.2.1,λx hx=>hf.2.2.2.2.2 x (by rw[<-h.E];exact hx)⟩
 rw[e,wD] at hz;exact(Gr.all b _).fits hz
end
theorem kH.of {c z:Cont}(h:kH c)(e:z.E=c.E):kH z:=λa x b hx hk=>h a x b (by rw[<-e];exact hx) hk
theorem kH.eT {c:Cont}(h:kH c)(e:EvC)(l:w Sn)(he:e.kind=2->e.v.k=(iC c.E e.t e.obj:u)+1):kH (c.ev e l):=by
 intro a x b hx hk;have hx':c.E++[e]=a++x::b:=hx;rcases List.eq_nil_or_concat b with rfl|⟨b',y,rfl⟩
 .obtain⟨h1,h2⟩:=O hx' rfl
  injection h2 with h2;subst h1 h2;exact he hk
 .have e2:a++x::(b'++[y])=(a++x::b')++[y]:=by simp
  rw[List.concat_eq_append,e2] at hx';exact h a x b' (O hx' rfl).1 hk
theorem kH.zero:kH eO:=λa x b hx=>by
 have hx':([]:w EvC)=a++x::b:=hx;simp at hx'
theorem kH.add {c:Cont}(h:kH c)(l:aH):kH (aR c l):=by
 unfold aR;simp only[]
 split
 .exact kH.eT (h.of rfl) _ [] (λhk=>by cases hk)
 .split
  .exact kH.eT (h.of rfl) _ [] (λ_=>rfl)
  .split
   .exact kH.eT (h.of (((Nm.put _ _ _).trans (Nm.put _ _ _)).trans (Nm.dz _ _)).e) _ [] (λhk=>by cases hk)
   .split
    .exact kH.eT (h.of (((Nm.put _ _ _).trans (Nm.put _ _ _)).trans (Nm.sc _ _)).e) _ (((c.put 0 (l.names.getD 0 [])).put 3 (l.names.getD 1 [])).sc ((l.names.drop 2).zip l.aG)).2 (λhk=>by cases hk)
    .split
     .rename_i hk5
      exact kH.eT (h.of rfl) _ [] (λhk=>by
       have hk':l.kind=2:=hk;omega)
     .split
      .exact h.of ((Nm.put _ _ _).trans (Nm.ts _ _)).e
      .split
       .exact h.of (((Nm.put _ _ _).trans (Nm.put _ _ _)).trans (Nm.ts _ _)).e
       .split
        .exact h.of rfl
        .exact h
theorem kH.all:∀(ls:w aH){c:Cont},kH c->kH (dK c ls)
 |[],_,h=>h
 |l::ls,_,h=>kH.all ls (h.add l)
theorem jD.of {c z:Cont}(h:jD c)(n:Nm c z):jD z:=⟨by rw[n.e];exact h.e,by rw[n.d];exact h.o,by rw[n.m];exact h.m⟩
theorem jD.eT {c:Cont}(h:jD c)(e:EvC)(l:w Sn)(he:e.base=e):jD (c.ev e l):=
 ⟨λx hx=>by
  rcases dm.1 hx with hx|hx
  .exact h.e x hx
  .rw[bT.1 hx];exact he,h.o,h.m⟩
theorem jD.zero:jD eO:=⟨λx hx=>(by cases hx),λx hx=>(by cases hx),λx hx=>(by cases hx)⟩
theorem jD.add {c:Cont}(h:jD c)(l:aH):jD (aR c l):=by
 unfold aR;simp only[]
 split
 .exact jD.eT (h.of ((Nm.put _ _ _).trans (Nm.put _ _ _))) _ _ rfl
 .split
  .exact jD.eT (h.of ((Nm.put _ _ _).trans (Nm.put _ _ _))) _ _ rfl
  .split
   .exact jD.eT (h.of (((Nm.put _ _ _).trans (Nm.put _ _ _)).trans (Nm.dz _ _))) _ _ rfl
   .split
    .exact jD.eT (h.of (((Nm.put _ _ _).trans (Nm.put _ _ _)).trans (Nm.sc _ _))) _ _ rfl
    .split
     .exact jD.eT (h.of (Nm.put _ _ _)) _ _ rfl
     .split
      .have k:=h.of ((Nm.put c 2 (l.names.getD 0 [])).trans (Nm.ts (l.names.drop 1) _))
       refine⟨k.e,λx hx=>?_,k.m⟩;rcases dm.1 hx with hx|hx
       .exact h.o x hx
       .rw[bT.1 hx];rfl
      .split
       .have k:=h.of (((Nm.put c 3 (l.names.getD 0 [])).trans (Nm.put _ 2 (l.names.getD 1 []))).trans (Nm.ts (l.names.drop 2) _))
        refine⟨k.e,k.o,λx hx=>?_⟩;rcases dm.1 hx with hx|hx
        .exact h.m x hx
        .rw[bT.1 hx];rfl
       .split
        .exact⟨h.e,h.o,h.m⟩
        .exact h
theorem jD.all:∀(ls:w aH){c:Cont},jD c->jD (dK c ls)
 |[],_,h=>h
 |l::ls,_,h=>jD.all ls (h.add l)
theorem Ox {c:Cont}{l:aH}(h:l.kind=0):aR c l=c:=by
 unfold aR;simp[h]
theorem gK.all:∀(ls:w aH){c:Cont},gK c->(∀l∈ls,l.kind=0\/dW l)->aJ (dK c ls)->gK (dK c ls)
 |[],_,h,_,_=>h
 |l::ls,c,h,hl,hf=>gK.all ls (c:=aR c l) (by
  rcases hl l fM with h0|h0
  .rw[Ox h0];exact h
  .exact h.add h0 ((Gr.all ls _).fits hf)) (λx hx=>hl x (eD _ hx)) hf
theorem jD.number (c:Cont):jD (cO c):=
 ⟨λx hx=>(by obtain⟨y,_,rfl⟩:=dI.1 hx;rfl),λx hx=>(by obtain⟨y,_,rfl⟩:=dI.1 hx;rfl),λx hx=>(by obtain⟨y,_,rfl⟩:=dI.1 hx;rfl)⟩
theorem Sw {l:w u}{a b:u}(ha:a∈l)(hb:b∈l)(h:dZ l a=dZ l b):a=b:=by
 unfold dZ at h;rw[av ha,av hb] at h;have h1:=G (Ca ha);have h2:=G (Ca hb);have h3:=I.1 h;rw[<-h1,<-h2];exact getElem_congr_idx h3
theorem WN {c:Cont}(h:c.E.length=c.SE.length){e:EvC}(he:e∈c.E):((0:u),e.t)∈aY c/\(e.kind=2->((2:u),e.obj)∈aY c):=by
 obtain⟨l,hl⟩:∃l,(e,l)∈c.E.zip c.SE:=by
  have:e∈(c.E.zip c.SE).map Prod.fst:=by rw[D9 (by rw[h];exact aB _)];exact he
  obtain⟨p,hp,rfl⟩:=dI.1 this;exact⟨p.2,hp⟩
 have hin:∀x∈jv e l,x∈aY c:=λx hx=>by
  unfold aY;exact iJ _ (iJ _ (iJ _ (lH.2 ⟨(e,l),hl,hx⟩)))
 refine⟨hin _ ?_,λhk=>hin _ ?_⟩
 .unfold jv;simp
 .unfold jv;simp[hk]
theorem kH.number {c:Cont}(h:kH c)(hl:c.E.length=c.SE.length):kH (cO c):=by
 intro a x b hx hk;obtain⟨F,hF⟩:∃F,F=cu (aY c):=⟨_,rfl⟩;have hx':c.E.map (Yd.eT F)=a++x::b:=by rw[hF];exact hx
 obtain⟨a',r,e1,rfl,e2⟩:=List.map_eq_append_iff.1 hx';obtain⟨x',b',rfl,rfl,rfl⟩:=List.map_eq_cons_iff.1 e2;have hk':x'.kind=2:=hk;have h1:=h a' x' b' e1 hk';have hmem:∀e∈c.E,e.t∈F 0/\(e.kind=2->e.obj∈F 2):=λe he=>by
  have:=WN hl he;rw[hF];exact⟨GX _ this.1,λk=>GX _ (this.2 k)⟩
 have hxm:=hmem x' (by rw[e1];simp);have e3:(Yd.eT F x').v.k=x'.v.k:=by
  unfold Yd.eT lS;simp only[hk',true_or,bY]
  split <;> rfl
 rw[e3,h1]
 congr 2
 unfold iC;rw[List.countP_map];refine List.countP_congr (λe he=>?_);have hem:=hmem e (by rw[e1];exact iJ _ he);have eo:∀y:EvC,y.kind=2->(Yd.eT F y).obj=dZ (F 2) y.obj:=λy hy=>by unfold Yd.eT;simp only[hy,true_or,bY]
 simp only[Function.comp,aO,vV]
 constructor
 .rintro⟨h2,h3,h4⟩
  refine⟨h2,bU (dZ (F 0)) h3,?_⟩;rw[eo _ h2,eo _ hk',h4]
 .rintro⟨h2,h3,h4⟩
  have h2':e.kind=2:=h2;rw[eo _ h2',eo _ hk'] at h4;exact⟨h2',Sw hem.1 hxm.1 h3,Sw (hem.2 h2') (hxm.2 hk') h4⟩
theorem qZ {F:w u}{l:w Bs}{n:u}(h:n∈F):aK (F.map (aK l)) (dZ F n)=aK l n:=by
 have hi:=Ca h;have e:dZ F n=(F.idxOf n:u):=by unfold dZ;rw[av h]
 rw[e,qK _ (by rw[bH];exact hi),List.getElem_map,G]
theorem Sy {F:u->w u}{l:w Bs}{v:lK}{nt:H}(hv:gI v nt=B)(h:∀x∈jN v,x.2∈F x.1):jX ((F 0).map (aK l)) (lS F v)=jX l v:=by
 unfold jX lS;by_cases hk:0<v.k
 .have hm:v.t∈F 0:=h (0,v.t) (by unfold jN;rw[av hk];simp)
  have hk0:¬v.k=0:=by omega
  rw[av hk];simp only[au hk0];rw[qZ hm]
 .have hk0:v.k=0:=by
   unfold gI at hv;by_cases h0:v.k=0
   .exact h0
   .rw[au h0] at hv
    simp only[aO,aW] at hv;exact absurd hv.1.2 hk
  rw[au hk,av hk0,av hk0]
section
variable {c:Cont}{F:u->w u}
theorem ZM {e:EvC}{l:w Sn}{ns no np:H}(he:gL (c.nl 0).length ns no np e l=B)(hF:∀x∈jv e l,x.2∈F x.1):iD (vG F c) (eT F e) (l.map (Cb F))=iD c e l:=by
 have hk:(eT F e).kind=e.kind:=rfl;have ht:aK ((vG F c).nl 0) (eT F e).t=aK (c.nl 0) e.t:=qZ (F:=F 0) (hF (0,e.t) (by unfold jv;simp));simp only[gL,aO,aW] at he;have hh:=he.1.2;unfold iD;rw[hk,ht];by_cases h1:e.kind=1
 .have e1:(eT F e).bW=dZ (F 1) e.bW:=by unfold eT;simp only[av h1]
  have e2:aK ((vG F c).nl 1) (eT F e).bW=aK (c.nl 1) e.bW:=by
   rw[e1];exact qZ (F:=F 1) (hF (1,e.bW) (by unfold jv;simp[h1]))
  rw[av h1,av h1,e2];rfl
 .rw[au h1,au h1]
  have sP:e.kind=2\/e.kind=3->aK ((vG F c).nl 2) (eT F e).obj=aK (c.nl 2) e.obj:=λhk=>by
   have e1:(eT F e).obj=dZ (F 2) e.obj:=by unfold eT;simp only[av hk]
   rw[e1];exact qZ (F:=F 2) (hF (2,e.obj) (by unfold jv;rw[au h1,av hk];simp))
  by_cases h2:e.kind=2
  .rw[av h2,av h2,sP (.inl h2)]
  .rw[au h2,au h2]
   by_cases h3:e.kind=3
   .have e1:(eT F e).v=lS F e.v:=by unfold eT;simp only[h3,or_true,bY]
    have e2:jX ((vG F c).nl 0) (eT F e).v=jX (c.nl 0) e.v:=by
     rw[e1];unfold hasB at hh;rw[au h1,au h2,av h3] at hh;simp only[aO] at hh;refine Sy (F:=F) hh.2 (λx hx=>hF x ?_);unfold jv;rw[au h1,av (.inr h3)];simp[hx]
    rw[av h3,av h3,sP (.inr h3),e2]
   .rw[au h3,au h3]
    by_cases h4:e.kind=4
    .have e1:(eT F e).pred=dZ (F 3) e.pred:=by unfold eT;simp only[av h4]
     have e2:aK ((vG F c).nl 3) (eT F e).pred=aK (c.nl 3) e.pred:=by
      rw[e1];exact qZ (F:=F 3) (hF (3,e.pred) (by unfold jv;simp[h4]))
     unfold hasB at hh;rw[au h1,au h2,au h3,av h4] at hh;simp only[aO,fA] at hh;have hsn:∀q∈l,∀x∈(((2:u),q.obj)::jN q.v),x.2∈F x.1:=λq hq x hx=>hF x (by
      unfold jv;exact jK _ (lH.2 ⟨q,hq,hx⟩))
     have e3:(l.map (Cb F)).map (λq=>aK ((vG F c).nl 2) q.obj)=l.map (λq=>aK (c.nl 2) q.obj):=by
      rw[iV];exact ni (λq hq=>qZ (F:=F 2) (hsn q hq (2,q.obj) fM))
     have e4:(l.map (Cb F)).map (λq=>jX ((vG F c).nl 0) q.v)=l.map (λq=>jX (c.nl 0) q.v):=by
      rw[iV];refine ni (λq hq=>Sy (F:=F) (nt:=(c.nl 0).length) ?_ (λx hx=>hsn q hq x (eD _ hx)));have:=hh.2 q hq;simp only[jW,aO] at this;exact this.2
     rw[av h4,av h4,e2,e3,e4]
    .rw[au h4,au h4]
theorem Oy {l:w u}(h:∀t∈l,t∈F 0):(l.map (dZ (F 0))).map (aK ((vG F c).nl 0))=l.map (aK (c.nl 0)):=by
 rw[iV];exact ni (λt ht=>qZ (F:=F 0) (h t ht))
end
theorem ZN {c:Cont}{F:u->w u}(h:gK c)(hF:∀x∈aY c,x.2∈F x.1):eH (vG F c)=eH c:=by
 unfold aY at hF;have hE:∀p∈c.E.zip c.SE,∀x∈jv p.1 p.2,x.2∈F x.1:=λp hp x hx=>hF x (iJ _ (iJ _ (iJ _ (lH.2 ⟨p,hp,hx⟩))))
 have hD:∀p∈c.D.zip c.SD,∀x∈pz p.1 p.2,x.2∈F x.1:=λp hp x hx=>hF x (iJ _ (iJ _ (jK _ (lH.2 ⟨p,hp,hx⟩))))
 have hM:∀p∈c.M.zip c.SM,∀x∈nM p.1 p.2,x.2∈F x.1:=λp hp x hx=>hF x (iJ _ (jK _ (lH.2 ⟨p,hp,hx⟩)))
 have hQ:∀p∈c.Q,p.bW∈F 1:=λp hp=>hF (1,p.bW) (jK _ (lH.2 ⟨p,hp,by unfold oF;simp⟩))
 unfold eH;refine congr (bU _ (congr (bU _ (congr (bU _ ?_) ?_)) ?_)) ?_
 .show((c.E.map (eT F)).zip (c.SE.map (λl=>l.map (Cb F)))).map _=_
  rw[J,iV];exact ni (λp hp=>ZM (h.ev p hp) (hE p hp))
 .show((c.D.map (λx=>(⟨dZ (F 2) x.obj,C,0,0⟩:aM))).zip (c.SD.map (λl=>l.map (dZ (F 0))))).map _=_
  rw[J,iV];refine ni (λp hp=>?_);show(⟨7,[aK ((vG F c).nl 2) (dZ (F 2) p.1.obj)]++(p.2.map (dZ (F 0))).map (aK ((vG F c).nl 0)),0,[],A,0⟩:aH)=nT c p.1 p.2;have e1:aK ((vG F c).nl 2) (dZ (F 2) p.1.obj)=aK (c.nl 2) p.1.obj:=qZ (F:=F 2) (hD p hp (2,p.1.obj) (by unfold pz;simp));rw[Oy (λt ht=>hD p hp (0,t) (by unfold pz;simp[ht])),e1];rfl
 .show((c.M.map (λx=>(⟨dZ (F 3) x.pred,dZ (F 2) x.obj,x.first,C,0,0⟩:aN))).zip (c.SM.map (λl=>l.map (dZ (F 0))))).map _=_
  rw[J,iV];refine ni (λp hp=>?_);show(⟨8,[aK ((vG F c).nl 3) (dZ (F 3) p.1.pred),aK ((vG F c).nl 2) (dZ (F 2) p.1.obj)]++(p.2.map (dZ (F 0))).map (aK ((vG F c).nl 0)),0,[],p.1.first,0⟩:aH)=nU c p.1 p.2;have e1:aK ((vG F c).nl 2) (dZ (F 2) p.1.obj)=aK (c.nl 2) p.1.obj:=qZ (F:=F 2) (hM p hp (2,p.1.obj) (by unfold nM;simp));have e2:aK ((vG F c).nl 3) (dZ (F 3) p.1.pred)=aK (c.nl 3) p.1.pred:=qZ (F:=F 3) (hM p hp (3,p.1.pred) (by unfold nM;simp));rw[Oy (λt ht=>hM p hp (0,t) (by unfold nM;simp[ht])),e1,e2];rfl
 .show(c.Q.map (λx=>(⟨dZ (F 1) x.bW,x.bits⟩:Wa))).map _=_
  rw[iV];refine ni (λp hp=>?_);show(⟨9,[aK ((vG F c).nl 1) (dZ (F 1) p.bW)],0,[],A,p.bits⟩:aH)=sw c p;have e1:aK ((vG F c).nl 1) (dZ (F 1) p.bW)=aK (c.nl 1) p.bW:=qZ (F:=F 1) (hQ p hp);rw[e1];rfl
theorem FH {c:Cont}(h:gK c):eH (cO c)=eH c:=ZN h (λx hx=>GX _ (by obtain⟨a,b⟩:=x;exact hx))
theorem Rt {c:Cont}(hs:gK c)(hc:kH c):qR (dK eO (eH c)) (cO c):=by
 have hn:=hs.number;rw[<-FH hs];exact FE (λi _=>FJ _ i) (λi=>(hn.nm i).1) hn (jD.number _) (hc.number hs.le)
theorem kT {l z:w Bs}(h:l<+:z){n:u}(hn:aV n l.length=B):aK z n=aK l n:=by
 simp only[aV,aO,aW] at hn;obtain⟨k,rfl⟩:∃k:H,n=(k:u):=⟨n.toNat,by omega⟩;obtain⟨t,rfl⟩:=h;have hk:k<l.length:=by omega
 rw[qK _ (by rw[bL];omega),qK _ hk,List.getElem_append_left hk]
theorem Oz {l z:w Bs}(h:l<+:z){v:lK}(hv:gI v l.length=B):jX z v=jX l v:=by
 unfold jX;by_cases hk:v.k=0
 .rw[av hk,av hk]
 .unfold gI at hv
  rw[au hk] at hv ⊢;simp only[aO] at hv;rw[au hk,kT h hv.1.1]
theorem WO {c z:Cont}(g:Gr c z){e:EvC}{l:w Sn}(he:gL (c.nl 0).length (c.nl 1).length (c.nl 2).length (c.nl 3).length e l=B):iD z e l=iD c e l:=by
 simp only[gL,aO,aW] at he;obtain⟨⟨_,ht⟩,hh⟩:=he.1;unfold hasB at hh;unfold iD;rw[kT (g.n 0) ht];by_cases h1:e.kind=1
 .rw[av h1] at hh
  simp only[aO] at hh;rw[av h1,av h1,kT (g.n 1) hh.1]
 .rw[au h1] at hh ⊢
  rw[au h1];by_cases h2:e.kind=2
  .rw[av h2] at hh ⊢
   simp only[aO] at hh;rw[av h2,kT (g.n 2) hh.1.1.1]
  .rw[au h2] at hh ⊢
   rw[au h2];by_cases h3:e.kind=3
   .rw[av h3] at hh ⊢
    simp only[aO] at hh;rw[av h3,kT (g.n 2) hh.1,Oz (g.n 0) hh.2]
   .rw[au h3] at hh ⊢
    rw[au h3];by_cases h4:e.kind=4
    .rw[av h4] at hh ⊢
     simp only[aO,fA] at hh;have hs:∀s∈l,aV s.obj (c.nl 2).length=B/\gI s.v (c.nl 0).length=B:=λs hs=>by
      have:=hh.2 s hs
      simpa only[jW,aO] using this
     rw[av h4,kT (g.n 3) hh.1.1,ni (λs h=>kT (g.n 2) (hs s h).1),ni (λs h=>Oz (g.n 0) (hs s h).2)]
    .rw[au h4,au h4]
theorem Md {c z:Cont}(g:Gr c z){l:w u}(h:eZ (c.nl 0).length l=B):l.map (aK (z.nl 0))=l.map (aK (c.nl 0)):=by
 simp only[eZ,aO,fA] at h;exact ni (λt ht=>kT (g.n 0) (h.2 t ht))
def J9 (c:Cont):w aH:=(c.E.zip c.SE).map (λp=>iD c p.1 p.2)
def Ij (c:Cont):w aH:=(c.D.zip c.SD).map (λp=>nT c p.1 p.2)
def Ik (c:Cont):w aH:=(c.M.zip c.SM).map (λp=>nU c p.1 p.2)
def Il (c:Cont):w aH:=c.Q.map (sw c)
section
variable {c z:Cont}(h:gK c)(g:Gr c z)
include h g
theorem G6:(c.E.zip c.SE).map (λp=>iD z p.1 p.2)=J9 c:=ni (λp hp=>WO g (h.ev p hp))
theorem G7:(c.D.zip c.SD).map (λp=>nT z p.1 p.2)=Ij c:=ni (λp hp=>by
 unfold nT;rw[kT (g.n 2) (h.od p hp).1,Md g (h.od p hp).2])
theorem G8:(c.M.zip c.SM).map (λp=>nU z p.1 p.2)=Ik c:=ni (λp hp=>by
 unfold nU;rw[kT (g.n 3) (h.ma p hp).1,kT (g.n 2) (h.ma p hp).2.1,Md g (h.ma p hp).2.2])
theorem G9:c.Q.map (sw z)=Il c:=ni (λp hp=>by
 unfold sw;rw[kT (g.n 1) (h.wa p hp).1])
end
theorem iN {c z:Cont}{i:H}{s:Bs}(g:Gr (c.put i s) z):aK (z.nl i) (c.no i s)=s:=by
 have e:(c.put i s).nl i=dL (c.nl i) s:=av rfl;rw[kT (g.n i) (iA c i s),e];have hi:=Ca (D8 (c.nl i) s);show aK _ ((sN (c.nl i) s:H):u)=s;have e2:sN (c.nl i) s=(dL (c.nl i) s).idxOf s:=rfl;rw[e2,qK _ hi,G]
theorem OA {c z:Cont}{v:To}(hv:j5 v)(g:Gr (c.dz v).1 z):jX (z.nl 0) (c.dz v).2=v:=by
 rcases hv with rfl|⟨_,h0,_⟩
 .rfl
 .have hk:¬v.k=0:=by omega
  have e1:c.dz v=(c.put 0 v.name,⟨c.no 0 v.name,v.k⟩):=by unfold Cont.dz;rw[au hk]
  rw[e1] at g ⊢;unfold jX;simp only[au hk];rw[iN g]
theorem Jd:∀(l:w Bs){c z:Cont},Gr (c.ts l).1 z->(c.ts l).2.map (aK (z.nl 0))=l
 |[],_,_,_=>rfl
 |s::r,c,z,g=>by
  show aK (z.nl 0) (c.no 0 s)::((c.put 0 s).ts r).2.map (aK (z.nl 0))=s::r;rw[Jd r g,iN ((Gr.ts r _).trans g)]
theorem OB:∀(l:w (Bs × To)){c z:Cont},(∀p∈l,j5 p.2)->Gr (c.sc l).1 z->(c.sc l).2.map (λq=>aK (z.nl 2) q.obj)=l.map Prod.fst/\(c.sc l).2.map (λq=>jX (z.nl 0) q.v)=l.map Prod.snd
 |[],_,_,_,_=>⟨rfl,rfl⟩
 |p::r,c,z,hp,g=>by
  obtain⟨h1,h2⟩:=OB r (λq hq=>hp q (eD _ hq)) g;have g1:=(Gr.sc r ((c.put 2 p.1).dz p.2).1).trans g
  constructor
  .show aK (z.nl 2) (c.no 2 p.1)::_=p.1::_
   rw[h1,iN ((Gr.dz _ p.2).trans g1)]
  .show jX (z.nl 0) ((c.put 2 p.1).dz p.2).2::_=p.2::_
   rw[h2,OA (hp p fM) g1]
structure lT (c z:Cont)(e d m q:w aH):Prop where
 e:J9 z=J9 c++e
 d:Ij z=Ij c++d
 m:Ik z=Ik c++m
 q:Il z=Il c++q
theorem lT.eT {c y:Cont}(h:gK c)(g:Gr c y)(n:Nm c y)(e:EvC)(l:w Sn)(x:aH)(hx:iD (y.ev e l) e l=x):lT c (y.ev e l) [x] [] [] []:=by
 have g2:=g.trans (Gr.ev y e l);refine⟨?_,?_,?_,?_⟩
 .show((y.E++[e]).zip (y.SE++[l])).map _=_
  rw[n.e,n.se,yK h.le,eU,G6 h g2,vv,hx]
 .show(y.D.zip y.SD).map _=_
  rw[n.d,n.sd,dB];exact G7 h g2
 .show(y.M.zip y.SM).map _=_
  rw[n.m,n.sm,dB];exact G8 h g2
 .show y.Q.map _=_
  rw[n.q,dB];exact G9 h g2
def jO (a b:u)(l:aH):w aH:=if a<=l.kind/\l.kind<=b then [l] else []
end Yd
namespace Yd
open Option renaming some->u,none->y
open Go Go.RowKit Go.Proofs Go.Maps
open Below renaming refl->D
open Go.IntKind renaming i64->p
open Go.Obj renaming cells->F
open Go.RowKit renaming Hid->A
open Go.Value renaming int->r,slice->M,string->O
open Same renaming of_below->C
open Tryz renaming prog->H
open World renaming cell?_of_block->J
open Yd renaming hid->f
open _root_ renaming trivial->G,Int->I,List->N
theorem Cc.map {R mb:Nat}{cs:Array Value}{c:Cont}{es:N EvC}{ds:N aM}{ms:N aN}{X Y:World}(h:Cc X R cs c es ds ms)(hm:∃q k,X.1[mb]?=u (.map q k))(hR:mb≠R)(hs:Same (λi=>i≠mb) X Y):Cc Y R cs c es ds ms:=by
 have hO:∀{β:Type}{T:TypeId}{k:Nat}{enc:β->N Value}{v:Value}{L:N β},Own X (R+1) T k enc v L->Own Y (R+1) T k enc v L:=λo=>o.same hs (λg hg e=>by
  obtain⟨_,_,q1⟩:=o.tag hg;obtain⟨_,_,q2⟩:=hm;rw[e,q2] at q1
  cases q1)
 exact⟨⟨hs.bx h.t.b (λe=>hR e.symm),λk hk=>(let⟨v,v1,v2⟩:=h.t.t k hk;⟨v,v1,hO v2⟩),h.t.n⟩,(let⟨v,v1,v2⟩:=h.e;⟨v,v1,hO v2⟩),(let⟨v,v1,v2⟩:=h.d;⟨v,v1,hO v2⟩),(let⟨v,v1,v2⟩:=h.m;⟨v,v1,hO v2⟩),(let⟨v,v1,v2⟩:=h.q;⟨v,v1,hO v2⟩),h.be,h.bd,h.bm,h.se.imp (λ_ _ o=>hO o),h.sd.imp (λ_ _ o=>hO o),h.sm.imp (λ_ _ o=>hO o)⟩
theorem acN {c:Cont}{k:Nat}{s:Bs}(hk:k<4)(hf:aJ (c.put k s)):(Lit.int p (c.no k s)).wf=true:=by
 have h1:=hf.1 k hk;have h2:=WQ (c.nl k) s;have h3:=He k;have e:(c.put k s).nl k=dL (c.nl k) s:=av rfl;rw[e] at h1;exact WalkArith.wf_i64 (by show _/\_;unfold Cont.no;omega)
section
variable {B K R:Nat}{cs:Array Value}{c:Cont}{es:N EvC}{ds:N aM}{ms:N aN}
theorem aek (ev:EvC)(l:N Sn)(w:World)(h:Cc w R cs c es ds ms)(hm:∃mb,cs[12]?=u (.map (u mb))/\kU w mb (c.E++[ev.base])/\B<=mb)(hB:B<=R)(hf:aJ c)(hl:Own w (R+1) 98 3 dV ev.val l)(hk:ev.kind=2->ev.v.k<=999)(hK:pE w K)(ru:R<K):
  Calls H 141 #[.pointer (u ⟨R,0,y⟩),fZ ev] w (λe w'=>((∀g q T fz,w.1[g]?=u (F q T fz)->T≠50->g≠R->w'.1[g]?=w.1[g]?)/\(∀(g:Nat)(q:Array MapEntry)(k:Nat),w.1[g]?=u (Obj.map q k)->w'.1[g]?=w.1[g]?)/\(aJ (c.ev ev.base l)->∀j,j≠4->w'.cell? ⟨R,j,y⟩=w.cell? ⟨R,j,y⟩))/\gW B K R (c.ev ev.base l) w e w'):=by
 obtain⟨v4,h4,hO⟩:=h.e;have hlen:es.length=c.E.length:=by rw[<-h.be,bH]
 refine(OC ev w h.t.b h4 hO (by rw[hlen];exact hf.2.1)).mono ?_;rintro e w' ⟨hS,he⟩;have hmap:∀g,(∃q k,w.1[g]?=u (.map q k))->g≠R/\v4.ownBlock≠u g:=λg hg=>⟨h.t.b.Bf h4 hg,λq=>by
  obtain⟨cs1,f1,e1⟩:=hO.tag q;obtain⟨_,_,e2⟩:=hg;rw[e1] at e2;cases e2⟩
 rw[gW,Sz hf,<-hlen];refine⟨⟨λg q T fz hg hT hgR=>hS.block g ⟨hgR,λq=>by
  obtain⟨cs1,f1,e1⟩:=hO.tag q;rw[e1] at hg
  cases hg
  exact hT rfl⟩ (dh.1 hg).1,λg q k hg=>hS.block g (hmap g ⟨q,k,hg⟩) (dh.1 hg).1,λhx j hj=>?_⟩,hS.mono (λi hi _=>⟨by omega,λq=>by
  rcases hi with hi|hi
  .have:=(hO.lt i q).1;omega
  .obtain⟨_,_,q1⟩:=hO.tag q
   obtain⟨_,T,_,q2,hT⟩:=hK i hi.1 hi.2;rw[q1] at q2
   cases q2
   exact hT.1 rfl⟩),?_⟩
 .rw[av hx.1] at he
  obtain⟨_,v',_,hB'⟩:=he;rw[hB'.1 j,h.t.b.1 j,tJ (λq=>hj q.symm)]
 .by_cases hx:es.length<3000
  .rw[av hx] at he
   obtain⟨rfl,v',WR,hB'⟩:=he;obtain⟨mb,m1,m2,m3⟩:=hm;refine⟨λ_=>⟨rfl,_,_,_,_,h.event h4 hS WR hB' hl,⟨mb,?_,?_,m3⟩,hB⟩,λhn=>absurd ⟨hx,hk⟩ hn⟩
   .rw[tJ ah];exact m1
   .exact m2.same hS (hmap mb m2.obj)
  .rw[au hx] at he
   exact⟨λhn=>absurd hn.1 hx,λ_=>he⟩
theorem WS (l:bE)(s:aH)(w:World)(h:jE B w R cs c es ds ms)(hf:aJ c)(hl:xM w B l s)(hk:s.kind=2)(hok:dW s)(hG:nG B K w)(pF:pE w K)(ru:R<K):
  Calls H 101 #[.pointer (u ⟨R,0,y⟩),dY l] w (gW B K R (aR c s) w):=by
 obtain⟨n0,n1,hn⟩:=names2 hok (.inr (.inl hk));have hnn:l.nn=2:=by rw[hl.k.2.2.2.2.1,hn];rfl
 obtain⟨nb,no,ha0,hb0,hd0⟩:=hl.name (i:=0) (x:=n0) (by rw[hn];rfl);obtain⟨nb',no',ha1,hb1,hd1⟩:=hl.name (i:=1) (x:=n1) (by rw[hn];rfl);rw[ha0] at ha1;injection ha1 with q;injection q with q1 q2;subst q1 q2;obtain⟨v7,h7,xO⟩:=h.s.e;obtain⟨a7,c7,rfl,_,OD⟩:=xO.shape;obtain⟨i,z,hi,hz,hsize,dx,hzs⟩:=Lm;have HI:=f (⟨hi,hz,hsize,dx,hzs⟩:_/\_/\_/\_/\_);clear hi hz hsize dx hzs;obtain⟨lk,la,ln,nc,lvl,va,vn,vc,lf,bits⟩:=l;obtain⟨k1,k2,k3,k4,k5,k6⟩:=hl.k;simp only at k1 k2 k3 k4 k5 k6 ha0 hnn;rw[hk] at k1;subst k1;have iZ:A (aR c s=((c.put 0 n0).put 2 n1).ev ⟨2,c.no 0 n0,0,0,(c.put 0 n0).no 2 n1,⟨c.no 0 n0,(iC c.E (c.no 0 n0) ((c.put 0 n0).no 2 n1):I)+1⟩,0,y,0,0⟩ []):=f (by unfold aR;simp only[hk,hn];rfl);subst ha0 hnn;have xP:=f pF;have fT:=f ru;have gy:A (K+3<=w.1.size):=f (let⟨q,T,fz,e,_⟩:=pF (K+2) ah ah;(dh.1 e).1);clear pF ru;have HB:=f h.b;have fG:A (R<w.1.size):=f h.s.t.b.2.2;obtain⟨V,hV⟩:∃V,V=w.alloc (F #[r p 2,M (u ⟨nb,no,y⟩) 2 nc,r p lvl,M va vn vc,.bool lf,r p bits] 66):=⟨_,rfl⟩;have cZ:A (Below w.1.size w V):=f (by rw[hV];exact aA (D w.1.size w) _);have HX:A (Bx V w.1.size #[r p 2,M (u ⟨nb,no,y⟩) 2 nc,r p lvl,M va vn vc,.bool lf,r p bits]):=f (by rw[hV];exact Bx.new w _ _);have zG:A (V.1[w.1.size]?=u (F #[r p 2,M (u ⟨nb,no,y⟩) 2 nc,r p lvl,M va vn vc,.bool lf,r p bits] 66 (0,0))):=f (by rw[hV];exact gX w _);have cB:A (∀W,W.1[w.1.size]?=V.1[w.1.size]?->Same (λi=>i<B\/(K<=i/\i<K+3)) w W->(λW'=>W'.cell? ⟨w.1.size,0,y⟩=u (r p 2)/\W'.cell? ⟨w.1.size,1,y⟩=u (M (u ⟨nb,no,y⟩) 2 nc)/\W'.cell? ⟨nb,no,y⟩=u (O ⟨n0.toArray⟩)/\W'.cell? ⟨nb,no+1,y⟩=u (O ⟨n1.toArray⟩)) W):=f (λW hb hs=>⟨(J (a:=⟨w.1.size,0,y⟩) hb).trans (HX.q.1 0),(J (a:=⟨w.1.size,1,y⟩) hb).trans (HX.q.1 1),hs.cell hd0 ah,hs.cell hd1 ah⟩);have iw:A (∀W,Same (λi=>i<B\/(K<=i/\i<K+3)) w W->¬aJ (aR c s)->gW B K R (aR c s) w (.panicked kK) W):=f (λW hs hn=>⟨hs,λk=>absurd k hn,λ_=>rfl⟩);have jP:A (True/\(aJ (aR c s)->aJ (c.put 0 n0))/\(aJ (aR c s)->aJ ((c.put 0 n0).put 2 n1))/\(aJ (aR c s)->(iC c.E (c.no 0 n0) ((c.put 0 n0).no 2 n1):I)+1<=999)):=f (by rw[iZ.q];exact⟨G,λk=>((Gr.put _ 2 _).trans (Gr.ev _ _ _)).fits k,λk=>(Gr.ev _ _ _).fits k,λk=>k.2.2.2.2.2 ⟨2,c.no 0 n0,0,0,(c.put 0 n0).no 2 n1,⟨c.no 0 n0,(iC c.E (c.no 0 n0) ((c.put 0 n0).no 2 n1):I)+1⟩,0,y,0,0⟩ (jK _ (bT.2 rfl)) rfl⟩);have yD:A (V.drew.1.size=w.1.size+1):=f (by show V.1.size=_;rw[hV];exact World.size_alloc _ _);have nV:A (Same (λi=>i≠R) V V.drew):=f (C (D _ _).drew (λ_ _ h=>h));have HT0:A (Same (λi=>i<B\/(K<=i/\i<K+3)) w V.drew):=f (C cZ.q.drew (λi hi hl=>by have:=HB.q;have:=fT.q;have:=gy.q;have:=fG.q;omega));have jw:=f (h.below cZ.q.drew);have yE:=f hf;have HG:=f hG;have HW:=f ((⟨hok.1 n0 (by rw[hn];simp),hok.1 n1 (by rw[hn];simp)⟩:_/\_));have uM:A (V.drew.1[w.1.size]?=V.1[w.1.size]?):=f rfl;have H7:=f h7;have qy:=f (xO.below cZ.q rfl);have hx7:V.cell? ⟨R,4,y⟩=u (M a7 es.length c7):=((h.s.t.b.keep cZ.q).1 4).trans h7;have vW:=f hx7;have Ea:(w.alloc (F #[r p 2,M (u ⟨nb,no,y⟩) 2 nc,r p lvl,M va vn vc,.bool lf,r p bits] 66)).cell? ⟨R,4,y⟩=u (M a7 es.length c7):=by rw[<-hV];exact hx7
 have uN:A (∀g,(Value.slice a7 es.length c7).ownBlock=u g->g≠w.1.size/\g≠R/\R+1<=g/\¬(K<=g/\g<K+3)):=f (λg hg=>⟨λe=>(by obtain⟨_,_,q⟩:=qy.q.tag hg;rw[e,zG.q] at q;cases q),λe=>(by have:=(qy.q.lt g hg).1;omega),(qy.q.lt g hg).1,λe=>(by obtain⟨_,_,q⟩:=qy.q.tag hg;obtain⟨_,T,_,q2,hT⟩:=xP.q g e.1 e.2;rw[cZ.q.block g (by have:=gy.q;omega),q2] at q;cases q;simp[Eb] at hT)⟩);clear k2 k3 k4 k5 k6 hk hn;have sD:A (w.1.size<V.drew.1.size):=f (by have:=yD.q;omega);clear h hf hG hl hok hb0 hd0 hb1 hd1 h7 xO hx7 Ea HI qy H7 vW uN OD;go_enter Tryz.func101,Tryz.ntmps101;go_wp2_with fail;rw[<-hV];clear hV;refine tZ 99 (.q 0 0 (.q 1 0 (.q 2 0 (.q 3 0 (.q 4 0 (.q 6 0 (.q 7 0 (.q 8 0 (.q 9 0 (.q 10 0 (.alt 5 (.alt 11 (.q 12 0 (.l 13 (.l 14 .nil))) 13 (.l 11 (.q 12 0 (.l 14 .nil)))) 13 (.l 5 (.l 11 (.q 12 0 (.l 14 .nil))))))))))))))) (λ_=>True) (λW'=>W'.cell? ⟨w.1.size,0,y⟩=u (r p 2)/\W'.cell? ⟨w.1.size,1,y⟩=u (M (u ⟨nb,no,y⟩) 2 nc)/\W'.cell? ⟨nb,no,y⟩=u (O ⟨n0.toArray⟩)/\W'.cell? ⟨nb,no+1,y⟩=u (O ⟨n1.toArray⟩)) (λch w'=>gW B K R (aR c s) w (.panicked ch) w') ay ay (λch a1 w1 hd hr=>⟨hd,hr⟩) G (cB.q _ uM.q HT0.q) ?_;refine qC ?_;obtain⟨V0,uG⟩:∃V0:World,V0=V.drew:=⟨_,rfl⟩;rw[<-uG] at nV HT0 jw uM sD yD ⊢;have rO:A (V0.1.size=V.1.size):=f (by rw[uG];rfl);clear uG;refine⟨?g9,?g10⟩
 case' g9=>
  refine iq rfl rfl (λK hK=>?_);go_simp;refine(iO 0 ah n0 _ jw.q yE.q HW.q.1 (HG.q.same HT0.q)).mono ?_;rintro e w1 ⟨hS,he⟩;have mg:=f hS;have gB:=f (nV.q.tr hS);have HT1:=f (HT0.q.tr (hS.mono (λi hi _=>by have:=HB.q;have:=fT.q;have:=gy.q;omega)));rcases iK (aJ (c.put 0 n0)) with hf|hf;rotate_left
  .obtain rfl:=he.2 hf
   exact⟨rfl,iw.q _ HT1.q (λk=>hf (jP.q.2.1 k))⟩
  obtain⟨rfl,cs1,hr,hz,ho⟩:=he.1 hf;have HR1:=f hr;have nW:=f hf;have Dl:=f ho;have mV:=f (gB.q.block w.1.size (by have:=fG.q;omega) HX.q.2.2);have mh:A (w.1.size<w1.1.size):=f (bM sD.q mg.q.size);have mh:A (w.1.size<w1.1.size):=f (bM sD.q mg.q.size);refine hK _ _ ⟨G,cB.q _ mV.q HT1.q⟩ ?_;clear hK K hr hz ho hf he hS;refine⟨?g11,?g12⟩
  case' g11=>
   refine iq rfl rfl (λK hK=>?_);go_simp;refine(iO 2 ah n1 _ HR1.q nW.q HW.q.2 (HG.q.same HT1.q)).mono ?_;rintro e w2 ⟨hS,he⟩;have ja:=f hS;have HS2:=f (gB.q.tr hS);have HT2:=f (HT1.q.tr (hS.mono (λi hi _=>by have:=HB.q;have:=fT.q;have:=gy.q;omega)));rcases iK (aJ ((c.put 0 n0).put 2 n1)) with hf|hf;rotate_left
   .obtain rfl:=he.2 hf
    exact⟨rfl,iw.q _ HT2.q (λk=>hf (jP.q.2.2.1 k))⟩
   obtain⟨rfl,cs2,hr,hz,ho⟩:=he.1 hf;have HR2:=f hr;have nH:=f hf;have l8:=f ho;have kW:=f (HS2.q.block w.1.size (by have:=fG.q;omega) HX.q.2.2);have lU:A (w.1.size<w2.1.size):=f (bM mh.q ja.q.size);have lU:A (w.1.size<w2.1.size):=f (bM mh.q ja.q.size);refine hK _ _ ⟨G,cB.q _ kW.q HT2.q⟩ ?_;clear hK K hr hz ho hf he hS;refine qC ?_;refine aF rfl rfl (λK hK=>?_);go_simp;have hba:=aA (D w2.1.size w2) (F #[r p 0,r p 0] 211);have gJ:A (Same (λi=>i≠R) (w2) (w2.alloc (F #[r p 0,r p 0] 211))):=f (C hba (λ_ _ h=>h));have iW:=f (HS2.q.tr gJ.q);have HT3:=f (HT2.q.tr (C hba (λi hi hl=>hl)));have HR3:=f (HR2.q.below hba);have uO:=nH;have lJ:=f (iW.q.block w.1.size (by have:=fG.q;omega) HX.q.2.2);have qh:A (w.1.size<(w2.alloc (F #[r p 0,r p 0] 211)).1.size):=f (bM lU.q gJ.q.size);have oQ:A (V.1.size<=w2.1.size):=f (by have:=HS2.q.size;have:=rO.q;omega);have pG:=f (Bx.new w2 #[r p 0,r p 0] 211);have rz:=f (gX w2 (F #[r p 0,r p 0] 211));have jQ:A (w2.1.size≠R):=f (λe=>by have:=HR2.q.s.t.b.2.2;omega);have qg:A (w.1.size<w2.1.size):=f lU.q;refine hK _ _ ⟨G,cB.q _ lJ.q HT3.q⟩ ?_;obtain⟨kb,hkb⟩:∃kb,kb=w2.1.size:=⟨_,rfl⟩;rw[<-hkb] at pG rz jQ qg oQ ⊢;generalize w2.alloc (F #[r p 0,r p 0] 211)=w3 at gJ iW HT3 HR3 lJ qh pG rz ⊢;clear hK K hba hkb
  case' g12=>
   refine iq rfl rfl (λK hK=>?_);go_simp;have hba:=aA (D w1.1.size w1) (F #[r p 0,r p 0] 211);have ja:A (Same (λi=>i≠R) (w1) (w1.alloc (F #[r p 0,r p 0] 211))):=f (C hba (λ_ _ h=>h));have HS2:=f (gB.q.tr ja.q);have HT2:=f (HT1.q.tr (C hba (λi hi hl=>hl)));have HR2:=f (HR1.q.below hba);have nH:=nW;have kW:=f (HS2.q.block w.1.size (by have:=fG.q;omega) HX.q.2.2);have lU:A (w.1.size<(w1.alloc (F #[r p 0,r p 0] 211)).1.size):=f (bM mh.q ja.q.size);have oQ:A (V.1.size<=w1.1.size):=f (by have:=gB.q.size;have:=rO.q;omega);have pI:=f (Bx.new w1 #[r p 0,r p 0] 211);have uQ:=f (gX w1 (F #[r p 0,r p 0] 211));have jQ:A (w1.1.size≠R):=f (λe=>by have:=HR1.q.s.t.b.2.2;omega);have qg:A (w.1.size<w1.1.size):=f mh.q;refine hK _ _ ⟨G,cB.q _ kW.q HT2.q⟩ ?_;obtain⟨kb,hkb⟩:∃kb,kb=w1.1.size:=⟨_,rfl⟩;rw[<-hkb] at pI uQ jQ qg oQ ⊢;generalize w1.alloc (F #[r p 0,r p 0] 211)=w2 at ja HS2 HT2 HR2 kW lU pI uQ ⊢;clear hK K hba hkb;refine aF rfl rfl (λK hK=>?_);go_simp;refine(iO 2 ah n1 _ HR2.q nH.q HW.q.2 (HG.q.same HT2.q)).mono ?_;rintro e w3 ⟨hS,he⟩;have gJ:=f hS;have iW:=f (HS2.q.tr hS);have HT3:=f (HT2.q.tr (hS.mono (λi hi _=>by have:=HB.q;have:=fT.q;have:=gy.q;omega)));rcases iK (aJ ((c.put 0 n0).put 2 n1)) with hf|hf;rotate_left
   .obtain rfl:=he.2 hf
    exact⟨rfl,iw.q _ HT3.q (λk=>hf (jP.q.2.2.1 k))⟩
   obtain⟨rfl,FK,hr,hz,ho⟩:=he.1 hf;have HR3:=f hr;have uO:=f hf;have zH:=f ho;have lJ:=f (iW.q.block w.1.size (by have:=fG.q;omega) HX.q.2.2);have qh:A (w.1.size<w3.1.size):=f (bM lU.q gJ.q.size);have qh:A (w.1.size<w3.1.size):=f (bM lU.q gJ.q.size);have pG:=f (gJ.q.bx pI.q jQ.q);have rz:=f ((gJ.q.block kb jQ.q pI.q.2.2).trans uQ.q);refine hK _ _ ⟨G,cB.q _ lJ.q HT3.q⟩ ?_;clear hK K hr hz ho hf he hS;refine qC ?_
 case' g10=>
  refine iq rfl rfl (λK hK=>?_);go_simp;have hba:=aA (D V0.1.size V0) (F #[r p 0,r p 0] 211);have mg:A (Same (λi=>i≠R) (V0) (V0.alloc (F #[r p 0,r p 0] 211))):=f (C hba (λ_ _ h=>h));have gB:=f (nV.q.tr mg.q);have HT1:=f (HT0.q.tr (C hba (λi hi hl=>hl)));have HR1:=f (jw.q.below hba);have nW:=yE;have mV:=f (gB.q.block w.1.size (by have:=fG.q;omega) HX.q.2.2);have mh:A (w.1.size<(V0.alloc (F #[r p 0,r p 0] 211)).1.size):=f (bM sD.q mg.q.size);have oQ:A (V.1.size<=V0.1.size):=f (by have:=nV.q.size;have:=rO.q;omega);have xQ:=f (Bx.new V0 #[r p 0,r p 0] 211);have Bg:=f (gX V0 (F #[r p 0,r p 0] 211));have jQ:A (V0.1.size≠R):=f (λe=>by have:=jw.q.s.t.b.2.2;omega);have qg:A (w.1.size<V0.1.size):=f sD.q;refine hK _ _ ⟨G,cB.q _ mV.q HT1.q⟩ ?_;obtain⟨kb,hkb⟩:∃kb,kb=V0.1.size:=⟨_,rfl⟩;rw[<-hkb] at xQ Bg jQ qg oQ ⊢;generalize V0.alloc (F #[r p 0,r p 0] 211)=w1 at mg gB HT1 HR1 mV mh xQ Bg ⊢;clear hK K hba hkb;refine aF rfl rfl (λK hK=>?_);go_simp;refine(iO 0 ah n0 _ HR1.q nW.q HW.q.1 (HG.q.same HT1.q)).mono ?_;rintro e w2 ⟨hS,he⟩;have ja:=f hS;have HS2:=f (gB.q.tr hS);have HT2:=f (HT1.q.tr (hS.mono (λi hi _=>by have:=HB.q;have:=fT.q;have:=gy.q;omega)));rcases iK (aJ (c.put 0 n0)) with hf|hf;rotate_left
  .obtain rfl:=he.2 hf
   exact⟨rfl,iw.q _ HT2.q (λk=>hf (jP.q.2.1 k))⟩
  obtain⟨rfl,cs2,hr,hz,ho⟩:=he.1 hf;have HR2:=f hr;have nH:=f hf;have l8:=f ho;have kW:=f (HS2.q.block w.1.size (by have:=fG.q;omega) HX.q.2.2);have lU:A (w.1.size<w2.1.size):=f (bM mh.q ja.q.size);have lU:A (w.1.size<w2.1.size):=f (bM mh.q ja.q.size);have pI:=f (ja.q.bx xQ.q jQ.q);have uQ:=f ((ja.q.block kb jQ.q xQ.q.2.2).trans Bg.q);refine hK _ _ ⟨G,cB.q _ kW.q HT2.q⟩ ?_;clear hK K hr hz ho hf he hS;refine aF rfl rfl (λK hK=>?_);go_simp;refine(iO 2 ah n1 _ HR2.q nH.q HW.q.2 (HG.q.same HT2.q)).mono ?_;rintro e w3 ⟨hS,he⟩;have gJ:=f hS;have iW:=f (HS2.q.tr hS);have HT3:=f (HT2.q.tr (hS.mono (λi hi _=>by have:=HB.q;have:=fT.q;have:=gy.q;omega)));rcases iK (aJ ((c.put 0 n0).put 2 n1)) with hf|hf;rotate_left
  .obtain rfl:=he.2 hf
   exact⟨rfl,iw.q _ HT3.q (λk=>hf (jP.q.2.2.1 k))⟩
  obtain⟨rfl,FK,hr,hz,ho⟩:=he.1 hf;have HR3:=f hr;have uO:=f hf;have zH:=f ho;have lJ:=f (iW.q.block w.1.size (by have:=fG.q;omega) HX.q.2.2);have qh:A (w.1.size<w3.1.size):=f (bM lU.q gJ.q.size);have qh:A (w.1.size<w3.1.size):=f (bM lU.q gJ.q.size);have pG:=f (gJ.q.bx pI.q jQ.q);have rz:=f ((gJ.q.block kb jQ.q pI.q.2.2).trans uQ.q);refine hK _ _ ⟨G,cB.q _ lJ.q HT3.q⟩ ?_;clear hK K hr hz ho hf he hS;refine qC ?_
 all_goals
  have hcK:=pG.q.1;have OE:=pG.q.2.1;refine aF rfl rfl (λK hK=>?_);go_simp;have fO:A (Same (λi=>i≠kb) w3 ((w3.setCell ⟨kb,0,y⟩ (r p (c.no 0 n0))).setCell ⟨kb,1,y⟩ (r p ((c.put 0 n0).no 2 n1)))):=f (((Same.refl' w3).setTail (λh=>h rfl)).setTail (λh=>h rfl));have xR:=f ((pG.q.bf 0 ak (r p (c.no 0 n0))).bf 1 ak (r p ((c.put 0 n0).no 2 n1)));have Ec:=f (bR (i:=1) (bR (i:=0) (rz.q) (r p (c.no 0 n0))) (r p ((c.put 0 n0).no 2 n1)));have HR4:=f (HR3.q.box (T:=211) ⟨_,_,rz.q⟩ aj aj aj aj aj (.inl aj) (.inl aj) (λe=>jQ.q e.symm) fO.q);have Im:=uO;have uf:A (Same (λi=>i≠R) V ((w3.setCell ⟨kb,0,y⟩ (r p (c.no 0 n0))).setCell ⟨kb,1,y⟩ (r p ((c.put 0 n0).no 2 n1)))):=f (((iW.q.mono (A':=λi=>i≠R/\i<V.1.size) (λi hi _=>hi.1)).tr (fO.q.mono (λi hi _=>by have:=oQ.q;have:=rO.q;omega))).mono (λi hi hl=>⟨hi,hl⟩));have xk:=f (HT3.q.tr (fO.q.mono (λi hi _=>by have:=qg.q;have:=fG.q;have:=HB.q;have:=fT.q;have:=gy.q;omega)));have uR:=f ((fO.q.block w.1.size (by have:=qg.q;omega) qh.q).trans lJ.q);have yL:=f (bM qh.q fO.q.size);refine hK _ _ ⟨G,cB.q _ uR.q xk.q⟩ ?_;generalize((w3.setCell ⟨kb,0,y⟩ (r p (c.no 0 n0))).setCell ⟨kb,1,y⟩ (r p ((c.put 0 n0).no 2 n1)))=w4 at fO xR Ec HR4 uf xk uR yL ⊢;clear hK K hcK OE;refine jA ?_;go_wp2_with fail;have hwt:=acN ah ((Gr.put (c.put 0 n0) 2 n1).fits Im.q);have hwx:=acN (c:=(c.put 0 n0)) (k:=2) ah Im.q;have HWT:=f hwt;have Me:=f hwx;obtain⟨mb,Uv,hmw,hmB⟩:=HR4.q.m;have Uw:kU w4.drew mb c.E:=hmw.of_eq rfl;obtain⟨cn,hcn⟩:∃cn:Nat,cn=iC c.E (c.no 0 n0) ((c.put 0 n0).no 2 n1):=⟨_,rfl⟩;have WT:=f hcn;have hEl:c.E.length<=3000:=Im.q.2.1;have hcl:cn<=3000:=by rw[hcn];exact bX (Mf _ _ _) hEl
  obtain⟨v0,st,W1,W2,r1,r2,r3,s1,s2,hm2⟩:=Uw.bump hEl ⟨2,c.no 0 n0,0,0,(c.put 0 n0).no 2 n1,⟨c.no 0 n0,((cn:I)+1)⟩,0,y,0,0⟩ rfl hwt hwx;have hlk:=Uw.look hwt hwx;have hlk2:=hm2.look hwt hwx;have hc1:iC (c.E++[⟨2,c.no 0 n0,0,0,(c.put 0 n0).no 2 n1,⟨c.no 0 n0,((cn:I)+1)⟩,0,y,0,0⟩]) (c.no 0 n0) ((c.put 0 n0).no 2 n1)=cn+1:=by rw[vX,av ⟨rfl,rfl,rfl⟩,hcn]
  rw[hc1] at hlk2;simp only at r1 r2 r3;rw[<-hcn] at r2 r3 hlk;have hw64:IntKind.i64.wrap ((cn:I)+1)=(cn:I)+1:=by rw[IntWalk.i64_left];unfold wrap64;omega
  rw[<-hw64] at r3;have hpush:((cn+1:Nat):I)=(cn:I)+1:=by omega
  rw[hpush] at hlk2;have ZO:=f (HR4.q.below (D w4.1.size w4).drew);have hmR:mb≠R:=HR4.q.s.t.b.Bf Uv hmw.obj;have hmk:mb≠kb:=λe=>(by obtain⟨_,_,q⟩:=hmw.obj;rw[e,Ec.q] at q;cases q)
  have hmW:mb≠w.1.size:=λe=>(by obtain⟨_,_,q⟩:=hmw.obj;rw[e,uR.q,zG.q] at q;cases q)
  have hmK:¬(K<=mb/\mb<K+3):=λe=>(by obtain⟨_,_,q⟩:=hmw.obj;obtain⟨_,T,_,q2,hT⟩:=(xk.q.Je xP.q) mb e.1 e.2;rw[q2] at q;cases q)
  have HMR:=f (⟨hmR,hmk,hmW,hmB⟩:_/\_/\_/\_);have Jf:=f Uv;have eX:A (Bx W1 R _/\Bx W1 kb _):=f ⟨s1.bx ZO.q.s.t.b hmR.symm,s1.bx xR.q.drew hmk.symm⟩;have fw:A (Bx W2 kb _):=f (s2.bx xR.q.drew hmk.symm);have xq:A (Cc W2 R _ ((c.put 0 n0).put 2 n1) es ds ms):=f (ZO.q.s.map Uw.obj hmR s2);have OG:A (Same (λi=>i<B\/(K<=i/\i<K+3)) w W2):=f ((xk.q.tr (C (D w4.1.size w4).drew (λi hi hl=>hl))).tr (s2.mono (λi hi _=>by omega)));have HVW:A (W2.1[w.1.size]?=V.1[w.1.size]?):=f ((s2.block w.1.size hmW.symm (by have:=yL.q;exact this)).trans uR.q);have Ed:A (W2.1[kb]?=u (F #[r p (c.no 0 n0),r p ((c.put 0 n0).no 2 n1)] 211 (0,0))):=f ((s2.block kb hmk.symm xR.q.2.2).trans Ec.q);have lM:=f hm2;have HLK:=f hlk;have HR2:=f r2;have ark:=f hlk2;have Mg:=f hcl;have af3:w4.drew.cell? ⟨R,12,y⟩=u (.map (u mb)):=(ZO.q.s.t.b.1 12).trans Uv;have anj:A (_/\_/\_/\_):=f (⟨af3,xR.q.drew.1 0,xR.q.drew.1 1,hlk⟩:(w4.drew.cell? ⟨R,12,y⟩=u (.map (u mb)))/\(w4.drew.cell? ⟨kb,0,y⟩=u (r p (c.no 0 n0)))/\(w4.drew.cell? ⟨kb,1,y⟩=u (r p ((c.put 0 n0).no 2 n1)))/\((Instr.lookup 118 (.map (u mb)) (.agg #[r p (c.no 0 n0),r p ((c.put 0 n0).no 2 n1)]) false).run H w4.drew= .ok (r p (cn:I)) w4.drew));clear hwt hwx hmw Uw hcn hEl s1 s2 hm2 hlk hlk2 r2 hc1 hw64 hpush hmR hmk hmW hmB hmK Uv af3;refine dA 9 [(0,0),(1,0),(2,0),(3,0),(4,0),(5,0),(6,0),(7,2),(8,0),(9,2)] (λ_=>True) (λW'=>W'.cell? ⟨R,12,y⟩=u (.map (u mb))/\W'.cell? ⟨kb,0,y⟩=u (r p (c.no 0 n0))/\W'.cell? ⟨kb,1,y⟩=u (r p ((c.put 0 n0).no 2 n1))/\(Instr.lookup 118 (.map (u mb)) (.agg #[r p (c.no 0 n0),r p ((c.put 0 n0).no 2 n1)]) false).run H W'= .ok (r p (cn:I)) W') (λch w'=>gW B K R (aR c s) w (.panicked ch) w') ay ay (λch a1 w1 hd hr=>⟨hd,hr⟩) (trivial) (anj.q) ?_;refine qC ?_;refine aF rfl rfl (λK hK=>?_);go_simp;refine hK _ _ ⟨G,(eX.q.1.1 12).trans Jf.q,eX.q.2.1 0,eX.q.2.1 1,HR2.q⟩ ?_;clear hK K r1;refine qC ?_;refine bC rfl rfl rfl (λK hK=>?_);go_simp;refine hK _ _ G ?_;clear hK K r3;refine jA ?_;go_wp2_with fail;have arl:A (∀W:World,W.1=W2.1->True):=f (λ_ _=>G);have Lp:A (Cc W2.drew R _ ((c.put 0 n0).put 2 n1) es ds ms):=f (xq.q.xS (C (D _ _).drew (λ_ _ h=>h)) (xq.q.t.below (D _ _).drew) (λ_ _=>rfl));have ank:A (kU W2.drew mb _):=f (lM.q.of_eq rfl);have af4:(Instr.lookup 118 (.map (u mb)) (.agg #[r p (c.no 0 n0),r p ((c.put 0 n0).no 2 n1)]) false).run H W2.drew= .ok (r p ((cn:I)+1)) W2.drew:=by have:=ank.q.look HWT.q Me.q;rw[show iC (c.E++[⟨2,c.no 0 n0,0,0,(c.put 0 n0).no 2 n1,⟨c.no 0 n0,((cn:I)+1)⟩,0,y,0,0⟩]) (c.no 0 n0) ((c.put 0 n0).no 2 n1)=cn+1 from by rw[vX,av ⟨rfl,rfl,rfl⟩,WT.q]] at this;rw[show((cn+1:Nat):I)=(cn:I)+1 by omega] at this;exact this
  have ZP:=f af4;clear af4;by_cases ZQ:cn+1<=999;rotate_left
  .have hq:decide ((cn:I)+1<=999)=false:=bq ah
   have WU:A (¬aJ (aR c s)):=f (λk=>by have:=jP.q.2.2.2 k;rw[<-WT.q] at this;omega);have HTD:A (Same (λi=>i<B\/(K<=i/\i<K+3)) w W2.drew):=f (OG.q.tr (C (D _ _).drew (λi hi hl=>hl)));clear ZQ;refine dA 99 [(0,0),(1,0),(2,0),(3,0),(4,0),(5,0),(6,0),(7,2)] (λ_=>True) (λW'=>W'.cell? ⟨R,12,y⟩=u (.map (u mb))/\W'.cell? ⟨kb,0,y⟩=u (r p (c.no 0 n0))/\W'.cell? ⟨kb,1,y⟩=u (r p ((c.put 0 n0).no 2 n1))/\(Instr.lookup 118 (.map (u mb)) (.agg #[r p (c.no 0 n0),r p ((c.put 0 n0).no 2 n1)]) false).run H W'= .ok (r p ((cn:I)+1)) W') (λch w'=>gW B K R (aR c s) w (.panicked ch) w') ay ay (λch a1 w1 hd hr=>⟨hd,hr⟩) (trivial) (⟨(Lp.q.t.b.1 12).trans Jf.q,fw.q.drew.1 0,fw.q.drew.1 1,ZP.q⟩) ?_;refine qC ?_;refine aF rfl rfl (λK hK=>?_);go_simp;refine(mU _ _).mono ?_;rintro e w' ⟨rfl,rfl⟩;rw[au ak];exact⟨rfl,iw.q _ HTD.q WU.q⟩
  have hq:decide ((cn:I)+1<=999)=true:=bN ah;have anl:=f ZQ;clear ZQ;refine dA 99 [(0,0),(1,0),(2,0),(3,0),(4,0),(5,0),(6,0),(7,2)] (λ_=>True) (λW'=>W'.cell? ⟨R,12,y⟩=u (.map (u mb))/\W'.cell? ⟨kb,0,y⟩=u (r p (c.no 0 n0))/\W'.cell? ⟨kb,1,y⟩=u (r p ((c.put 0 n0).no 2 n1))/\(Instr.lookup 118 (.map (u mb)) (.agg #[r p (c.no 0 n0),r p ((c.put 0 n0).no 2 n1)]) false).run H W'= .ok (r p ((cn:I)+1)) W') (λch w'=>gW B K R (aR c s) w (.panicked ch) w') ay ay (λch a1 w1 hd hr=>⟨hd,hr⟩) (trivial) (⟨(Lp.q.t.b.1 12).trans Jf.q,fw.q.drew.1 0,fw.q.drew.1 1,ZP.q⟩) ?_;refine qC ?_;refine aF rfl rfl (λK hK=>?_);go_simp;refine(mU _ _).mono ?_;rintro e w' ⟨rfl,rfl⟩;rw[av rfl];refine hK _ _ ⟨G,(Lp.q.t.b.1 12).trans Jf.q,fw.q.drew.1 0,fw.q.drew.1 1,ZP.q⟩ ?_;clear hK K hq;refine jA ?_;go_wp2_with fail;obtain⟨W3,hW3⟩:∃W:World,W=W2.drew.drew:=⟨_,rfl⟩;have af5:A (Cc W3 R _ ((c.put 0 n0).put 2 n1) es ds ms):=f (by rw[hW3];exact Lp.q.xS (C (D _ _).drew (λ_ _ h=>h)) (Lp.q.t.below (D _ _).drew) (λ_ _=>rfl));have tQ:A (kU W3 mb _):=f (by rw[hW3];exact lM.q.of_eq rfl);have HT3:A (Same (λi=>i<B\/(K<=i/\i<K+3)) w W3):=f (by rw[hW3];exact(OG.q.tr (C (D _ _).drew (λi hi hl=>hl))).tr (C (D _ _).drew (λi hi hl=>hl)));have HV3:A (W3.1[w.1.size]?=V.1[w.1.size]?):=f (by rw[hW3];exact HVW.q);have N8:A (W3.1[kb]?=u (F #[r p (c.no 0 n0),r p ((c.put 0 n0).no 2 n1)] 211 (0,0))):=f (by rw[hW3];exact Ed.q);have HB3:A (Bx W3 kb _):=f (by rw[hW3];exact fw.q.drew.drew);have af6:A (∀W:World,kU W mb (c.E++[⟨2,c.no 0 n0,0,0,(c.put 0 n0).no 2 n1,⟨c.no 0 n0,((cn:I)+1)⟩,0,y,0,0⟩])->(Instr.lookup 118 (.map (u mb)) (.agg #[r p (c.no 0 n0),r p ((c.put 0 n0).no 2 n1)]) false).run H W= .ok (r p ((cn:I)+1)) W):=f (λW hW=>by have:=hW.look HWT.q Me.q;rw[show iC (c.E++[⟨2,c.no 0 n0,0,0,(c.put 0 n0).no 2 n1,⟨c.no 0 n0,((cn:I)+1)⟩,0,y,0,0⟩]) (c.no 0 n0) ((c.put 0 n0).no 2 n1)=cn+1 from by rw[vX,av ⟨rfl,rfl,rfl⟩,WT.q]] at this;rw[show((cn+1:Nat):I)=(cn:I)+1 by omega] at this;exact this);have FL:A (∀W:World,W.1[w.1.size]?=V.1[w.1.size]?->W.cell? ⟨w.1.size,0,y⟩=u (r p 2)):=f (λW hb=>(J (a:=⟨w.1.size,0,y⟩) hb).trans (HX.q.1 0));refine dA 99 [(0,0),(1,0),(2,0),(3,0),(4,0),(5,0),(6,0),(7,0),(8,0),(9,0),(10,0),(11,0),(12,0),(13,0),(14,0),(15,0),(16,0),(17,2)] (λ_=>True) (λW'=>W'.cell? ⟨w.1.size,0,y⟩=u (r p 2)/\W'.cell? ⟨R,12,y⟩=u (.map (u mb))/\W'.cell? ⟨kb,0,y⟩=u (r p (c.no 0 n0))/\W'.cell? ⟨kb,1,y⟩=u (r p ((c.put 0 n0).no 2 n1))/\(Instr.lookup 118 (.map (u mb)) (.agg #[r p (c.no 0 n0),r p ((c.put 0 n0).no 2 n1)]) false).run H W'= .ok (r p ((cn:I)+1)) W') (λch w'=>gW B K R (aR c s) w (.panicked ch) w') ay ay (λch a1 w1 hd hr=>⟨hd,hr⟩) (trivial) (⟨FL.q _ (by exact HVW.q),(Lp.q.t.b.1 12).trans Jf.q,fw.q.drew.drew.1 0,fw.q.drew.drew.1 1,af6.q _ (lM.q.of_eq rfl)⟩) ?_;refine qC ?_;refine aF rfl rfl (λK hK=>?_);go_simp;rw[<-hW3];clear hW3;refine(aek ⟨2,c.no 0 n0,0,0,(c.put 0 n0).no 2 n1,⟨c.no 0 n0,((cn:I)+1)⟩,0,y,0,0⟩ [] _ af5.q ⟨mb,Jf.q,tQ.q,HMR.q.2.2.2⟩ HB.q Im.q (Own.jY _ _ _ _ _) (λ_=>by have:=anl.q;show(cn:I)+1<=999;omega) (HT3.q.Je xP.q) fT.q).mono ?_;rintro e w5 ⟨⟨hf1,hf2,hf3⟩,hS,he⟩;have xU:=f (HT3.q.tr hS);have ZR:A (aR c s=_):=f (by rw[iZ.q,<-WT.q]);rcases iK (aJ (aR c s)) with hf|hf;rotate_left
  .obtain rfl:=he.2 (by rw[ZR.q] at hf;exact hf)
   exact⟨rfl,iw.q _ xU.q hf⟩
  obtain⟨rfl,hr⟩:=he.1 (by rw[ZR.q] at hf;exact hf);have Dm:=f hr;have zJ:=f hf;have Mh:=(hf1 w.1.size _ _ _ (HV3.q.trans zG.q) aj (by have:=fG.q;omega)).trans HV3.q;have hK5:∀j,w5.cell? ⟨kb,j,y⟩=W3.cell? ⟨kb,j,y⟩:=λj=>J (a:=⟨kb,j,y⟩) (hf1 kb _ _ _ N8.q aj jQ.q)
  have hM5:kU w5 mb _:=tQ.q.of_eq (let⟨q,k,e⟩:=tQ.q.obj;hf2 mb q k e);refine hK _ _ ⟨G,FL.q _ Mh,((hf3 (by rw[ZR.q] at hf;exact hf) 12 ah).trans ((af5.q.t.b.1 12).trans Jf.q)),(hK5 0).trans (HB3.q.1 0),(hK5 1).trans (HB3.q.1 1),af6.q _ hM5⟩ ?_;clear hK K hr hf he hS hf1 hf2 hf3 Mh hK5 hM5;refine jA ?_;go_wp2_with fail;refine bodyPost_end (results_none rfl _ _ _) rfl ?_;exact⟨xU.q,λ_=>⟨rfl,by rw[iZ.q,<-WT.q];exact Dm.q⟩,λk=>absurd zJ.q k⟩
end
end Yd
namespace Yd
open Option renaming some->A,none->I
open Go Go.RowKit Go.Proofs Tryz
open Go renaming Addr->P,World->V
open Go.IntKind renaming i64->Z
open Go.Value renaming slice->J
open Value renaming int->N
open Yd renaming hid->G
open _root_ renaming List->H,Nat->O,trivial->S,Int->U
def mq {α β:Type}(B:O)(X:V)(T:TypeId)(ek:O)(enc:β->H Value)(val:α->Value)(xs:H α)(Ls:H (H β))(k:O):Prop:=
 (∀i x L,i<k->xs[i]?=A x->Ls[i]?=A L->Own X B T ek enc (val x) L)/\∀i j x y,i<j->j<k->xs[i]?=A x->xs[j]?=A y->∀g,(val x).ownBlock=A g->(val y).ownBlock≠A g
section
variable {α β:Type}{B:O}{X Y:V}{T:TypeId}{ek k:O}{enc:β->H Value}{val:α->Value}{xs:H α}{Ls:H (H β)}
theorem mq.zero:mq B X T ek enc val xs Ls 0:=⟨λ_ _ _ h=>absurd h (Nat.not_lt_zero _),λ_ _ _ _ _ h=>absurd h (Nat.not_lt_zero _)⟩
theorem mq.imp (h:mq B X T ek enc val xs Ls k)(hi:∀v L,Own X B T ek enc v L->Own Y B T ek enc v L):mq B Y T ek enc val xs Ls k:=⟨λi x L h1 h2 h3=>hi _ _ (h.1 i x L h1 h2 h3),h.2⟩
theorem mq.step {y:α}{L:H β}(hX:mq B X T ek enc val xs Ls k)(hY:mq B Y T ek enc val xs Ls k)(hlen:xs.length=Ls.length)(hk:k<xs.length)(hL:Ls[k]?=A L)(hy:Own Y X.1.size T ek enc (val y) L)(hB:B<=X.1.size):mq B Y T ek enc val (xs.set k y) Ls (k+1):=by
 refine⟨λi x M hi hx hM=>?_,λi j x z hij hj hx hz g hg hgz=>?_⟩
 .by_cases e:i=k
  .subst e
   rw[List.getElem?_set_self hk] at hx;injection hx with hx;rw[hL] at hM;injection hM with hM;subst hx hM;exact hy.mono hB
  .rw[List.getElem?_set_ne (λq=>e q.symm)] at hx
   exact hY.1 i x M ah hx hM
 .rw[List.getElem?_set_ne ah] at hx
  by_cases e:j=k
  .subst e
   rw[List.getElem?_set_self hk] at hz;injection hz with hz;subst hz;obtain⟨M,hM⟩:∃M,Ls[i]?=A M:=⟨_,fK (by have:=(bO.1 hx).1;omega)⟩;have h1:=((hX.1 i x M hij hx hM).lt g hg).2;have h2:=(hy.lt g hgz).1;omega
  .rw[List.getElem?_set_ne (λq=>e q.symm)] at hz
   exact hY.2 i j x z hij ah hx hz g hg hgz
end
structure HO (w X:V)(h:HC)(es:H EvC)(ds:H aM)(ms:H aN)(c:Cont)(i j k:O):Prop where
 st:St w X h es ds ms c
 oe:Own X w.1.size 50 9 eB h.e.v es
 od:Own X w.1.size 79 2 fB h.d.v ds
 om:Own X w.1.size 84 4 fD h.m.v ms
 oq:Own X w.1.size 88 2 gH h.w.v c.Q
 on:∀q,q<4->Own X w.1.size 9 1 encStr (h.nm q).v (c.nl q)
 fe:mq w.1.size X 98 3 dV EvC.val es c.SE i
 fd:mq w.1.size X 3 1 aX aM.val ds c.SD j
 fm:mq w.1.size X 3 1 aX aN.val ms c.SM k
 fx:∀i' j' x y,i'<j->j'<k->ds[i']?=A x->ms[j']?=A y->∀g,(aM.val x).ownBlock=A g->(aN.val y).ownBlock≠A g
section
variable {w X Y:V}{h:HC}{es:H EvC}{ds:H aM}{ms:H aN}{c:Cont}{i j k:O}
theorem HO.below (s:HO w X h es ds ms c i j k)(hb:Below X.1.size X Y):HO w Y h es ds ms c i j k:=
 ⟨s.st.below hb,s.oe.below hb rfl,s.od.below hb rfl,s.om.below hb rfl,s.oq.below hb rfl,λq hq=>(s.on q hq).below hb rfl,s.fe.imp (λ_ _ o=>o.below hb rfl),s.fd.imp (λ_ _ o=>o.below hb rfl),s.fm.imp (λ_ _ o=>o.below hb rfl),s.fx⟩
theorem HO.ZT {g:O}{x:EvC}{L:H Sn}(s:HO w X h es ds ms c i j k)(ha:h.e.a=A ⟨g,0,I⟩)(hx:es[i]?=A x)(hL:c.SE[i]?=A L)(hb:Below X.1.size X Y)(sl:Sl)(hl:L.length<=2000000)(hn:Own Y X.1.size 98 3 dV sl.v L):
  HO w (Y.setCell ⟨g,i*9+8,I⟩ sl.v) h (es.set i (x.wi sl)) ds ms c (i+1) j k:=by
 have s':=s.below hb;have sP:h.e.v.ownBlock=A g:=by simp only[Sl.v,ha];rfl
 have ht:=s'.oe.tag sP;have hs:Same (λq=>q≠g) Y (Y.setCell ⟨g,i*9+8,I⟩ sl.v):=(Same.refl' Y).setTail (λq=>q rfl);have hsz:w.1.size<=X.1.size:=s.st.b.size;obtain⟨h1,h2⟩:=s'.st.ZT s'.oe ha hx hL sl ⟨hl,.inr (hn.mono hsz)⟩;refine⟨h1,h2,s'.od.bD ht aj hs,s'.om.bD ht aj hs,s'.oq.bD ht aj hs,λq hq=>(s'.on q hq).bD ht aj hs,mq.step s.fe (s'.fe.imp (λ_ _ o=>o.bD ht aj hs)) s.st.se.1 (bO.1 hx).1 hL (hn.bD ht aj hs) hsz,s'.fd.imp (λ_ _ o=>o.bD ht aj hs),s'.fm.imp (λ_ _ o=>o.bD ht aj hs),s.fx⟩
theorem HO.ZU {g:O}{x:aM}{L:H U}(s:HO w X h es ds ms c i j k)(ha:h.d.a=A ⟨g,0,I⟩)(hx:ds[j]?=A x)(hL:c.SD[j]?=A L)(hb:Below X.1.size X Y)(sl:Sl)(hl:L.length<=2000000)(hn:Own Y X.1.size 3 1 aX sl.v L):
  HO w (Y.setCell ⟨g,j*2+1,I⟩ sl.v) h es (ds.set j (x.wi sl)) ms c i (j+1) k:=by
 have s':=s.below hb;have sP:h.d.v.ownBlock=A g:=by simp only[Sl.v,ha];rfl
 have ht:=s'.od.tag sP;have hs:Same (λq=>q≠g) Y (Y.setCell ⟨g,j*2+1,I⟩ sl.v):=(Same.refl' Y).setTail (λq=>q rfl);have hsz:w.1.size<=X.1.size:=s.st.b.size;obtain⟨h1,h2⟩:=s'.st.ZU s'.od ha hx hL sl ⟨hl,.inr (hn.mono hsz)⟩;refine⟨h1,s'.oe.bD ht aj hs,h2,s'.om.bD ht aj hs,s'.oq.bD ht aj hs,λq hq=>(s'.on q hq).bD ht aj hs,s'.fe.imp (λ_ _ o=>o.bD ht aj hs),mq.step s.fd (s'.fd.imp (λ_ _ o=>o.bD ht aj hs)) s.st.sd.1 (bO.1 hx).1 hL (hn.bD ht aj hs) hsz,s'.fm.imp (λ_ _ o=>o.bD ht aj hs),λi' j' x' y' hi hj hx' hy' g0 hg0 hg1=>?_⟩;by_cases e:i'=j
 .subst e
  rw[List.getElem?_set_self (bO.1 hx).1] at hx';injection hx' with hx';subst hx';obtain⟨M,hM⟩:∃M,c.SM[j']?=A M:=⟨_,fK (by have:=(bO.1 hy').1;have:=s.st.sm.1;omega)⟩;have h3:=((s.fm.1 j' y' M hj hy' hM).lt g0 hg1).2;have h4:=(hn.lt g0 hg0).1;omega
 .rw[List.getElem?_set_ne (λq=>e q.symm)] at hx'
  exact s.fx i' j' x' y' ah hj hx' hy' g0 hg0 hg1
theorem HO.ZV {g:O}{x:aN}{L:H U}(s:HO w X h es ds ms c i j k)(ha:h.m.a=A ⟨g,0,I⟩)(hx:ms[k]?=A x)(hL:c.SM[k]?=A L)(hb:Below X.1.size X Y)(sl:Sl)(hl:L.length<=2000000)(hn:Own Y X.1.size 3 1 aX sl.v L):
  HO w (Y.setCell ⟨g,k*4+3,I⟩ sl.v) h es ds (ms.set k (x.wi sl)) c i j (k+1):=by
 have s':=s.below hb;have sP:h.m.v.ownBlock=A g:=by simp only[Sl.v,ha];rfl
 have ht:=s'.om.tag sP;have hs:Same (λq=>q≠g) Y (Y.setCell ⟨g,k*4+3,I⟩ sl.v):=(Same.refl' Y).setTail (λq=>q rfl);have hsz:w.1.size<=X.1.size:=s.st.b.size;obtain⟨h1,h2⟩:=s'.st.ZV s'.om ha hx hL sl ⟨hl,.inr (hn.mono hsz)⟩;refine⟨h1,s'.oe.bD ht aj hs,s'.od.bD ht aj hs,h2,s'.oq.bD ht aj hs,λq hq=>(s'.on q hq).bD ht aj hs,s'.fe.imp (λ_ _ o=>o.bD ht aj hs),s'.fd.imp (λ_ _ o=>o.bD ht aj hs),mq.step s.fm (s'.fm.imp (λ_ _ o=>o.bD ht aj hs)) s.st.sm.1 (bO.1 hx).1 hL (hn.bD ht aj hs) hsz,λi' j' x' y' hi hj hx' hy' g0 hg0 hg1=>?_⟩;by_cases e:j'=k
 .subst e
  rw[List.getElem?_set_self (bO.1 hx).1] at hy';injection hy' with hy';subst hy';obtain⟨M,hM⟩:∃M,c.SD[i']?=A M:=⟨_,fK (by have:=(bO.1 hx').1;have:=s.st.sd.1;omega)⟩;have h3:=((s.fd.1 i' x' M hi hx' hM).lt g0 hg0).2;have h4:=(hn.lt g0 hg1).1;omega
 .rw[List.getElem?_set_ne (λq=>e q.symm)] at hy'
  exact s.fx i' j' x' y' hi ah hx' hy' g0 hg0 hg1
theorem Own.box {α:Type}{T:TypeId}{n:O}{enc:α->H Value}{v:Value}{xs:H α}(ho:Own X w.1.size T n enc v xs)(s:St w X h es ds ms c)(hT:T≠29)(q:O)(u:Value):Own (X.setCell ⟨w.1.size,q,I⟩ u) w.1.size T n enc v xs:=ho.bD s.tg hT (sameBox s q u)
end
structure ZW (w X:V)(h:HC)(es:H EvC)(ds:H aM)(ms:H aN)(c:Cont):Prop where
 b:Below w.1.size w X
 oe:Own X w.1.size 50 9 eB h.e.v es
 od:Own X w.1.size 79 2 fB h.d.v ds
 om:Own X w.1.size 84 4 fD h.m.v ms
 oq:Own X w.1.size 88 2 gH h.w.v c.Q
 on:∀q,q<4->Own X w.1.size 9 1 encStr (h.nm q).v (c.nl q)
 fe:mq w.1.size X 98 3 dV EvC.val es c.SE es.length
 fd:mq w.1.size X 3 1 aX aM.val ds c.SD ds.length
 fm:mq w.1.size X 3 1 aX aN.val ms c.SM ms.length
 be:es.map EvC.base=c.E
 bd:ds.map aM.base=c.D
 bm:ms.map aN.base=c.M
 fx:∀x∈ds,∀y∈ms,∀g,(aM.val x).ownBlock=A g->(aN.val y).ownBlock≠A g
 le:es.length=c.SE.length
 ld:ds.length=c.SD.length
 lm:ms.length=c.SM.length
def NM (w:V)(c:Cont)(e:Ending)(X:V):Prop:=∃h es ds ms,e= .returned (bG h)/\ZW w X h es ds ms c
theorem HO.fin {w X Y:V}{h:HC}{es:H EvC}{ds:H aM}{ms:H aN}{c:Cont}(s:HO w X h es ds ms c es.length ds.length ms.length)(hs:Same (λi=>i≠w.1.size+1) X Y):NM w c (.returned (bG h)) Y:=by
 have ht:=s.st.t2;exact⟨h,es,ds,ms,rfl,hs.below s.st.b (λi hi=>by omega) s.st.b.size,s.oe.bD ht aj hs,s.od.bD ht aj hs,s.om.bD ht aj hs,s.oq.bD ht aj hs,λq hq=>(s.on q hq).bD ht aj hs,
  s.fe.imp (λ_ _ o=>o.bD ht aj hs),s.fd.imp (λ_ _ o=>o.bD ht aj hs),s.fm.imp (λ_ _ o=>o.bD ht aj hs),s.st.be,s.st.bd,s.st.bm,λx hx y hy g h1 h2=>(let⟨i,hi⟩:=zi.1 hx;let⟨j,hj⟩:=zi.1 hy;s.fx i j x y (bO.1 hi).1 (bO.1 hj).1 hi hj g h1 h2),s.st.se.1,s.st.sd.1,s.st.sm.1⟩
theorem Ru (h:HC)(nl:O->H Bs)(es:H EvC)(ds:H aM)(ms:H aN)(qs:H Wa)(scan:EvC->H Sn)(dn:aM->H U)(mn:aN->H U)(w:V)
  (hn:∀i,i<4->Row w 1 encStr (h.nm i).a (h.nm i).n (h.nm i).c (nl i)) (hd:Deep w h es ds ms qs scan dn mn) (hB:NN nl es ds ms qs scan dn mn):
  Calls Tryz.prog 108 #[bG h] w (NM w (zK es.length nl es ds ms qs scan dn mn)):=by
 have hst:=St.start hn hd hB es.length (by rw[hd.1.len];exact aB _);obtain⟨C,hC⟩:∃C,C=zK es.length nl es ds ms qs scan dn mn:=⟨_,rfl⟩;rw[<-hC] at hst ⊢;have HST:=G hst;have HQS:Hid (C.Q=qs):=G (by rw[hC];rfl);have hle:=hst.e.1;have hld:=hst.d.1;have hlm:=hst.m.1;clear hn hd hB hC hst;obtain⟨ht,hs,ho,hp,he,hdd,hmm,WV⟩:=h;have hbx:=HST.q.bx;have hb2:=HST.q.b2;have hcx:=hbx.1;have hfx:=hbx.2.1;have hlx:=hbx.2.2;have hc2:=hb2.1;have hf2:=hb2.2.1;have hl2:=hb2.2.2;go_enter func108,ntmps108;go_wp2_with fail;refine aC 12 [(0,0),(1,0),(3,0),(4,0),(6,0),(7,0),(9,0),(10,0),(2,2),(12,1),(5,2),(8,2),(11,2),(13,2),(14,1),(15,2),(16,1),(17,2),(18,1),(19,2)] (λ_=>True) (λW'=>Bx W' w.1.size (aD ⟨ht,hs,ho,hp,he,hdd,hmm,WV⟩)) ay ay (trivial) (HST.q.bx) ?_;refine qC ?_;refine aF rfl rfl (λK hK=>?_);go_simp;have HD0:=G (HST.q.drew);clear hbx hb2 hcx hfx hlx hc2 hf2 hl2;have hrw:=(HD0.q.n 0 aj).row (hc:=ku) HD0.q.b;have hLn:=(HD0.q.n 0 aj).1;refine(show Calls _ _ _ _ (mO 9 1 encStr (C.nl 0) _) from by have:=A8 ht.a ht.c (C.nl 0) _ (by rw[hrw.len];exact hrw) ah;rw[show(C.nl 0).length=ht.n from hrw.len] at this;exact this).mono ?_;rintro en Y0 ⟨n0,d0,rfl,ho0,hb0⟩;have tO:=G (HD0.q.below hb0);have af9:=G (ho0.mono (HD0.q.b.size));have arn:=G hb0;have ZX:=G hLn;refine hK _ _ ⟨S,tO.q.bx⟩ ?_;clear hK K ho0 hb0 hrw hLn;refine qC ?_;refine aF rfl rfl (λK hK=>?_);go_simp;have hrw:=(tO.q.n 1 aj).row (hc:=ku) tO.q.b;have hLn:=(tO.q.n 1 aj).1;refine(show Calls _ _ _ _ (mO 9 1 encStr (C.nl 1) _) from by have:=A8 hs.a hs.c (C.nl 1) _ (by rw[hrw.len];exact hrw) ah;rw[show(C.nl 1).length=hs.n from hrw.len] at this;exact this).mono ?_;rintro en Y1 ⟨n1,d1,rfl,ho1,hb1⟩;have jU:=G (tO.q.below hb1);have af':=G (ho1.mono (tO.q.b.size));have anm:=G hb1;have ann:=G hLn;refine hK _ _ ⟨S,jU.q.bx⟩ ?_;clear hK K ho1 hb1 hrw hLn;refine aF rfl rfl (λK hK=>?_);go_simp;have hrw:=(jU.q.n 2 aj).row (hc:=ku) jU.q.b;have hLn:=(jU.q.n 2 aj).1;refine(show Calls _ _ _ _ (mO 9 1 encStr (C.nl 2) _) from by have:=A8 ho.a ho.c (C.nl 2) _ (by rw[hrw.len];exact hrw) ah;rw[show(C.nl 2).length=ho.n from hrw.len] at this;exact this).mono ?_;rintro en Y2 ⟨n2,d2,rfl,ho2,hb2⟩;have iU:=G (jU.q.below hb2);have aga:=G (ho2.mono (jU.q.b.size));have agb:=G hb2;have OH:=G hLn;refine hK _ _ ⟨S,iU.q.bx⟩ ?_;clear hK K ho2 hb2 hrw hLn;refine aF rfl rfl (λK hK=>?_);go_simp;have hrw:=(iU.q.n 3 aj).row (hc:=ku) iU.q.b;have hLn:=(iU.q.n 3 aj).1;refine(show Calls _ _ _ _ (mO 9 1 encStr (C.nl 3) _) from by have:=A8 hp.a hp.c (C.nl 3) _ (by rw[hrw.len];exact hrw) ah;rw[show(C.nl 3).length=hp.n from hrw.len] at this;exact this).mono ?_;rintro en Y3 ⟨n3,d3,rfl,ho3,hb3⟩;have iM:=G (iU.q.below hb3);have agc:=G (ho3.mono (iU.q.b.size));have ZY:=G hb3;have ano:=G hLn;refine hK _ _ ⟨S,iM.q.bx⟩ ?_;clear hK K ho3 hb3 hrw hLn;have hbx:=iM.q.bx;have hcx:=hbx.1;have hfx:=hbx.2.1;have hlx:=hbx.2.2;refine bC rfl rfl rfl (λK hK=>?_);go_simp;refine hK _ _ S ?_;clear hK K;refine qC ?_;refine bC rfl rfl rfl (λK hK=>?_);go_simp;refine hK _ _ S ?_;clear hK K;refine qC ?_;refine bC rfl rfl rfl (λK hK=>?_);go_simp;refine hK _ _ S ?_;clear hK K;refine qC ?_;refine bC rfl rfl rfl (λK hK=>?_);go_simp;refine hK _ _ S ?_;clear hK K;refine aP ?_;have vY:=G (((af9.q.below anm.q rfl).below agb.q rfl).below ZY.q rfl);have uS:=G ((af'.q.below agb.q rfl).below ZY.q rfl);have mX:=G (aga.q.below ZY.q rfl);have uT:=G agc.q;have hs0:=iM.q.aj8 ⟨n0,(C.nl 0).length,d0⟩ ⟨ZX.q,.inr vY.q⟩;have vY:=G (vY.q.box iM.q aj 0 (Sl.v ⟨n0,(C.nl 0).length,d0⟩));have uS:=G (uS.q.box iM.q aj 0 (Sl.v ⟨n0,(C.nl 0).length,d0⟩));have mX:=G (mX.q.box iM.q aj 0 (Sl.v ⟨n0,(C.nl 0).length,d0⟩));have uT:=G (uT.q.box iM.q aj 0 (Sl.v ⟨n0,(C.nl 0).length,d0⟩));have hs1:=hs0.aj9 ⟨n1,(C.nl 1).length,d1⟩ ⟨ann.q,.inr uS.q⟩;have vY:=G (vY.q.box hs0 aj 1 (Sl.v ⟨n1,(C.nl 1).length,d1⟩));have uS:=G (uS.q.box hs0 aj 1 (Sl.v ⟨n1,(C.nl 1).length,d1⟩));have mX:=G (mX.q.box hs0 aj 1 (Sl.v ⟨n1,(C.nl 1).length,d1⟩));have uT:=G (uT.q.box hs0 aj 1 (Sl.v ⟨n1,(C.nl 1).length,d1⟩));have hs2:=hs1.aj' ⟨n2,(C.nl 2).length,d2⟩ ⟨OH.q,.inr mX.q⟩;have vY:=G (vY.q.box hs1 aj 2 (Sl.v ⟨n2,(C.nl 2).length,d2⟩));have uS:=G (uS.q.box hs1 aj 2 (Sl.v ⟨n2,(C.nl 2).length,d2⟩));have mX:=G (mX.q.box hs1 aj 2 (Sl.v ⟨n2,(C.nl 2).length,d2⟩));have uT:=G (uT.q.box hs1 aj 2 (Sl.v ⟨n2,(C.nl 2).length,d2⟩));have hs3:=hs2.akb ⟨n3,(C.nl 3).length,d3⟩ ⟨ano.q,.inr uT.q⟩;have vY:=G (vY.q.box hs2 aj 3 (Sl.v ⟨n3,(C.nl 3).length,d3⟩));have uS:=G (uS.q.box hs2 aj 3 (Sl.v ⟨n3,(C.nl 3).length,d3⟩));have mX:=G (mX.q.box hs2 aj 3 (Sl.v ⟨n3,(C.nl 3).length,d3⟩));have uT:=G (uT.q.box hs2 aj 3 (Sl.v ⟨n3,(C.nl 3).length,d3⟩));have Dn:=G hs3;clear hs0 hs1 hs2 hs3 hbx hcx hfx hlx tO jU iU iM af9 af' aga agc;have hbx:=Dn.q.bx;have hb2:=Dn.q.b2;have hcx:=hbx.1;have hfx:=hbx.2.1;have hlx:=hbx.2.2;have hc2:=hb2.1;have hf2:=hb2.2.1;have hl2:=hb2.2.2;go_wp2_with fail;refine aC 12 [(0,0),(1,0),(3,0),(4,0),(6,0),(7,0),(9,0),(10,0),(2,2),(12,1),(5,2),(8,2),(11,2),(13,2),(14,1),(15,2),(16,1),(17,2),(18,1),(19,2)] (λ_=>True) (λW'=>Bx W' w.1.size (aD ⟨⟨n0,(C.nl 0).length,d0⟩,⟨n1,(C.nl 1).length,d1⟩,⟨n2,(C.nl 2).length,d2⟩,⟨n3,(C.nl 3).length,d3⟩,he,hdd,hmm,WV⟩)) ay ay (trivial) (Dn.q.bx) ?_;refine qC ?_;refine aF rfl rfl (λK hK=>?_);go_simp;have Mi:=G (Dn.q.drew);clear hbx hb2 hcx hfx hlx hc2 hf2 hl2;have hrw:=Mi.q.e.row (hc:=rA) Mi.q.b;have hLn:=Mi.q.e.1;refine(show Calls _ _ _ _ (mO 50 _ eB es _) from by have:=ael he.a he.c es _ (by rw[hrw.len];exact hrw) ah;rw[show es.length=he.n from hrw.len] at this;exact this).mono ?_;rintro en Z0 ⟨ae,ce,rfl,ho0,hb0⟩;have HZ0:=G (Mi.q.below hb0);have agd:=G (ho0.mono (Mi.q.b.size));have Ux:=G hb0;have anp:=G hLn;refine hK _ _ ⟨S,HZ0.q.bx⟩ ?_;clear hK K ho0 hb0 hrw hLn;refine qC ?_;refine aF rfl rfl (λK hK=>?_);go_simp;have hrw:=HZ0.q.d.row (hc:=rC) HZ0.q.b;have hLn:=HZ0.q.d.1;refine(show Calls _ _ _ _ (mO 79 _ fB ds _) from by have:=aem hdd.a hdd.c ds _ (by rw[hrw.len];exact hrw) ah;rw[show ds.length=hdd.n from hrw.len] at this;exact this).mono ?_;rintro en Z1 ⟨ad,cd,rfl,ho1,hb1⟩;have HZ1:=G (HZ0.q.below hb1);have agf:=G (ho1.mono (HZ0.q.b.size));have OI:=G hb1;have anq:=G hLn;refine hK _ _ ⟨S,HZ1.q.bx⟩ ?_;clear hK K ho1 hb1 hrw hLn;refine aF rfl rfl (λK hK=>?_);go_simp;have hrw:=HZ1.q.m.row (hc:=rD) HZ1.q.b;have hLn:=HZ1.q.m.1;refine(show Calls _ _ _ _ (mO 84 _ fD ms _) from by have:=aen hmm.a hmm.c ms _ (by rw[hrw.len];exact hrw) ah;rw[show ms.length=hmm.n from hrw.len] at this;exact this).mono ?_;rintro en Z2 ⟨am,cm,rfl,ho2,hb2⟩;have HZ2:=G (HZ1.q.below hb2);have agh:=G (ho2.mono (HZ1.q.b.size));have FM:=G hb2;have anr:=G hLn;refine hK _ _ ⟨S,HZ2.q.bx⟩ ?_;clear hK K ho2 hb2 hrw hLn;refine aF rfl rfl (λK hK=>?_);go_simp;have hrw:=HZ2.q.q.row (hc:=sQ) HZ2.q.b;have hLn:=HZ2.q.q.1;rw[HQS.q] at hrw hLn;refine(show Calls _ _ _ _ (mO 88 _ gH qs _) from by have:=aeo WV.a WV.c qs _ (by rw[hrw.len];exact hrw) ah;rw[show qs.length=WV.n from hrw.len] at this;exact this).mono ?_;rintro en Z3 ⟨aq,cq,rfl,ho3,hb3⟩;have HZ3:=G (HZ2.q.below hb3);have agi:=G (ho3.mono (HZ2.q.b.size));have Jg:=G hb3;have ant:=G hLn;refine hK _ _ ⟨S,HZ3.q.bx⟩ ?_;clear hK K ho3 hb3 hrw hLn;have hbx:=HZ3.q.bx;have hcx:=hbx.1;have hfx:=hbx.2.1;have hlx:=hbx.2.2;refine bC rfl rfl rfl (λK hK=>?_);go_simp;refine hK _ _ S ?_;clear hK K;refine qC ?_;refine bC rfl rfl rfl (λK hK=>?_);go_simp;refine hK _ _ S ?_;clear hK K;refine qC ?_;refine bC rfl rfl rfl (λK hK=>?_);go_simp;refine hK _ _ S ?_;clear hK K;refine qC ?_;refine bC rfl rfl rfl (λK hK=>?_);go_simp;refine hK _ _ S ?_;clear hK K;refine aP ?_;have jw:=G (((agd.q.below OI.q rfl).below FM.q rfl).below Jg.q rfl);have HR1:=G ((agf.q.below FM.q rfl).below Jg.q rfl);have HR2:=G (agh.q.below Jg.q rfl);have HR3:=G agi.q;have vY:=G (((((vY.q.below (Below.refl _ _).drew rfl).below Ux.q rfl).below OI.q rfl).below FM.q rfl).below Jg.q rfl);have uS:=G (((((uS.q.below (Below.refl _ _).drew rfl).below Ux.q rfl).below OI.q rfl).below FM.q rfl).below Jg.q rfl);have mX:=G (((((mX.q.below (Below.refl _ _).drew rfl).below Ux.q rfl).below OI.q rfl).below FM.q rfl).below Jg.q rfl);have uT:=G (((((uT.q.below (Below.refl _ _).drew rfl).below Ux.q rfl).below OI.q rfl).below FM.q rfl).below Jg.q rfl);have ht0:=HZ3.q.anu ⟨ae,es.length,ce⟩ es ⟨anp.q,.inr jw.q⟩ HZ3.q.be HZ3.q.se;have jw:=G (jw.q.box HZ3.q aj 4 (Sl.v ⟨ae,es.length,ce⟩));have vY:=G (vY.q.box HZ3.q aj 4 (Sl.v ⟨ae,es.length,ce⟩));have HR1:=G (HR1.q.box HZ3.q aj 4 (Sl.v ⟨ae,es.length,ce⟩));have uS:=G (uS.q.box HZ3.q aj 4 (Sl.v ⟨ae,es.length,ce⟩));have HR2:=G (HR2.q.box HZ3.q aj 4 (Sl.v ⟨ae,es.length,ce⟩));have mX:=G (mX.q.box HZ3.q aj 4 (Sl.v ⟨ae,es.length,ce⟩));have HR3:=G (HR3.q.box HZ3.q aj 4 (Sl.v ⟨ae,es.length,ce⟩));have uT:=G (uT.q.box HZ3.q aj 4 (Sl.v ⟨ae,es.length,ce⟩));have ht1:=ht0.anv ⟨ad,ds.length,cd⟩ ds ⟨anq.q,.inr HR1.q⟩ ht0.bd ht0.sd;have jw:=G (jw.q.box ht0 aj 5 (Sl.v ⟨ad,ds.length,cd⟩));have vY:=G (vY.q.box ht0 aj 5 (Sl.v ⟨ad,ds.length,cd⟩));have HR1:=G (HR1.q.box ht0 aj 5 (Sl.v ⟨ad,ds.length,cd⟩));have uS:=G (uS.q.box ht0 aj 5 (Sl.v ⟨ad,ds.length,cd⟩));have HR2:=G (HR2.q.box ht0 aj 5 (Sl.v ⟨ad,ds.length,cd⟩));have mX:=G (mX.q.box ht0 aj 5 (Sl.v ⟨ad,ds.length,cd⟩));have HR3:=G (HR3.q.box ht0 aj 5 (Sl.v ⟨ad,ds.length,cd⟩));have uT:=G (uT.q.box ht0 aj 5 (Sl.v ⟨ad,ds.length,cd⟩));have ht2:=ht1.anw ⟨am,ms.length,cm⟩ ms ⟨anr.q,.inr HR2.q⟩ ht1.bm ht1.sm;have jw:=G (jw.q.box ht1 aj 6 (Sl.v ⟨am,ms.length,cm⟩));have vY:=G (vY.q.box ht1 aj 6 (Sl.v ⟨am,ms.length,cm⟩));have HR1:=G (HR1.q.box ht1 aj 6 (Sl.v ⟨am,ms.length,cm⟩));have uS:=G (uS.q.box ht1 aj 6 (Sl.v ⟨am,ms.length,cm⟩));have HR2:=G (HR2.q.box ht1 aj 6 (Sl.v ⟨am,ms.length,cm⟩));have mX:=G (mX.q.box ht1 aj 6 (Sl.v ⟨am,ms.length,cm⟩));have HR3:=G (HR3.q.box ht1 aj 6 (Sl.v ⟨am,ms.length,cm⟩));have uT:=G (uT.q.box ht1 aj 6 (Sl.v ⟨am,ms.length,cm⟩));have ht3:=ht2.anx ⟨aq,qs.length,cq⟩ ⟨ant.q,.inr HR3.q⟩;have jw:=G (jw.q.box ht2 aj 7 (Sl.v ⟨aq,qs.length,cq⟩));have vY:=G (vY.q.box ht2 aj 7 (Sl.v ⟨aq,qs.length,cq⟩));have HR1:=G (HR1.q.box ht2 aj 7 (Sl.v ⟨aq,qs.length,cq⟩));have uS:=G (uS.q.box ht2 aj 7 (Sl.v ⟨aq,qs.length,cq⟩));have HR2:=G (HR2.q.box ht2 aj 7 (Sl.v ⟨aq,qs.length,cq⟩));have mX:=G (mX.q.box ht2 aj 7 (Sl.v ⟨aq,qs.length,cq⟩));have HR3:=G (HR3.q.box ht2 aj 7 (Sl.v ⟨aq,qs.length,cq⟩));have uT:=G (uT.q.box ht2 aj 7 (Sl.v ⟨aq,qs.length,cq⟩));have HSR:=G (ht3.cast (c':=C) (by have:=HQS.q;subst this;rfl));have HOe:Hid (HO w _ ⟨⟨n0,(C.nl 0).length,d0⟩,⟨n1,(C.nl 1).length,d1⟩,⟨n2,(C.nl 2).length,d2⟩,⟨n3,(C.nl 3).length,d3⟩,⟨ae,es.length,ce⟩,⟨ad,ds.length,cd⟩,⟨am,ms.length,cm⟩,⟨aq,qs.length,cq⟩⟩ es ds ms C 0 0 0):=G ⟨HSR.q,jw.q,HR1.q,HR2.q,by rw[HQS.q];exact HR3.q,λq hq=>(match q,hq with|0,_=>vY.q|1,_=>uS.q|2,_=>mX.q|3,_=>uT.q),mq.zero,mq.zero,mq.zero,λ_ _ _ _ h=>absurd h (Nat.not_lt_zero _)⟩;clear ht0 ht1 ht2 ht3 hbx hcx hfx hlx HZ0 HZ1 HZ2 HZ3 agd agf agh agi HSR jw HR1 HR2 HR3 vY uS mX uT;have hbx:=HOe.q.st.bx;have hb2:=HOe.q.st.b2;have hcx:=hbx.1;have hfx:=hbx.2.1;have hlx:=hbx.2.2;have hc2:=hb2.1;have hf2:=hb2.2.1;have hl2:=hb2.2.2;go_wp2_with fail;clear hbx hb2 hcx hfx hlx hc2 hf2 hl2
 go_loopw [41] (λi wr=>∃(k:O)(xe:H EvC),k<=es.length/\i= .int Z k/\HO w wr ⟨⟨n0,(C.nl 0).length,d0⟩,⟨n1,(C.nl 1).length,d1⟩,⟨n2,(C.nl 2).length,d2⟩,⟨n3,(C.nl 3).length,d3⟩,⟨ae,es.length,ce⟩,⟨ad,ds.length,cd⟩,⟨am,ms.length,cm⟩,⟨aq,qs.length,cq⟩⟩ xe ds ms C k 0 0) (λi _=>es.length - (RowKit.intOf i).toNat)
 case atStart=>exact⟨0,es,aZ _,rfl,HOe.q⟩
 case round=>
  obtain⟨k,xe,hk,rfl,hho⟩:=hrel;have hst:=hho.st;have hown:Own wr w.1.size 50 9 eB (J ae es.length ce) xe:=hho.oe;by_cases hlt:k<es.length
  .obtain⟨g,cur,rfl,hbg,hxl,hcap,hBg,hcur⟩:=hown.open_ (hc:=rA) ah
   obtain⟨x,hx⟩:∃x,xe[k]?=A x:=⟨_,fK ah⟩;have hsl:k<C.SE.length:=by rw[<-hst.se.1];omega
   obtain⟨L,hL⟩:∃L,C.SE[k]?=A L:=⟨_,fK hsl⟩;have xV:=hst.se.2 k x L hx hL;have hrow:=xV.row (hc:=pJ) hst.b;have hcx:=(hbg.1 (k*9+8)).trans (hcur k x 8 _ hx rfl);have Mg:Hid (∀W,Below wr.1.size wr W->Calls Tryz.prog 36 #[J x.sa x.sn x.sc] W (mO 98 3 dV L W)):=by
    refine G (λW hW=>?_);have hr:Row W 3 dV x.sa x.sn x.sc L:=hrow.below hW rfl;rw[show x.sn=L.length from hrow.len.symm] at hr ⊢;exact aep x.sa x.sc L W hr (by have:=xV.1;omega)
   have Bh:=G hho;have Fx:=G hbg;have HX:=G hx;have HL:=G hL;have Fz:=G xV.1;have Bj:=G hcx;have OJ:=G (hcur k x 8 _ hx rfl);have hle1:k<2000000:=by have:=hst.e.1;omega
   clear hho hst hown hbg hx hL xV hrow hcx hcur hsl;go_wp2_with fail;refine aC 10 [(0,0),(1,0),(2,0),(3,0),(4,0),(5,0),(6,0),(7,0),(8,0),(9,2),(10,1),(11,1),(12,2)] (λ_=>True) (λW'=>Bx W' w.1.size #[(J n0 (C.nl 0).length d0),(J n1 (C.nl 1).length d1),(J n2 (C.nl 2).length d2),(J n3 (C.nl 3).length d3),(J (A ⟨g,0,I⟩) es.length ce),(J ad ds.length cd),(J am ms.length cm),(J aq qs.length cq)]/\W'.cell? ⟨g,k*9+8,I⟩=A (J x.sa x.sn x.sc)) ay ay (trivial) (⟨Bh.q.st.bx,Bj.q⟩) ?_;refine qC ?_;refine aF rfl rfl (λK hK=>?_);go_simp;refine(Mg.q _ (Below.refl _ _).drew).mono ?_;rintro en Y ⟨a',c',rfl,Mj,Dp⟩;have WW:=G Mj;have vH:=G (show Below wr.1.size wr Y from(Below.refl _ _).drew.trans Dp);refine hK _ _ ⟨S,Bh.q.st.bx.keep vH.q,bn vH.q rfl Bj.q⟩ ?_;clear hK K Mj Dp;have xW:=Fx.q.keep vH.q;have WX:=xW.2.1;have OL:=xW.2.2;have OM:Y.cell? ⟨g,k*9+8,I⟩=A (J x.sa x.sn x.sc):=(xW.1 _).trans OJ.q;clear xW;refine qC ?_;refine bC rfl rfl rfl (λK hK=>?_);go_simp;refine hK _ _ S ?_;clear hK K;refine aP ?_;have Jh:=G (Bh.q.ZT rfl HX.q HL.q vH.q ⟨a',L.length,c'⟩ Fz.q WW.q);clear WX OL OM;go_wp2_with fail;go_roundw
   case rel=>exact⟨k+1,_,by omega,by go_num,Jh.q⟩
   case measure=>simp[RowKit.intOf];omega
  .obtain rfl:k=es.length:=by omega
   have Ic:=G (show xe.length=es.length from by obtain⟨_,_,q,_⟩:=hho.oe.shape;simp only[Sl.v,Value.slice.injEq] at q;exact q.2.1.symm);have Z4:=G hho;clear hho hst hown;have hbx:=Z4.q.st.bx;have hb2:=Z4.q.st.b2;have hcx:=hbx.1;have hfx:=hbx.2.1;have hlx:=hbx.2.2;have hc2:=hb2.1;have hf2:=hb2.2.1;have hl2:=hb2.2.2;go_wp2_with fail;have HOd:=Z4;clear hbx hb2 hcx hfx hlx hc2 hf2 hl2
   go_loopw [60] (λi wr=>∃(k:O)(xd:H aM),k<=ds.length/\i= .int Z k/\HO w wr ⟨⟨n0,(C.nl 0).length,d0⟩,⟨n1,(C.nl 1).length,d1⟩,⟨n2,(C.nl 2).length,d2⟩,⟨n3,(C.nl 3).length,d3⟩,⟨ae,es.length,ce⟩,⟨ad,ds.length,cd⟩,⟨am,ms.length,cm⟩,⟨aq,qs.length,cq⟩⟩ xe xd ms C es.length k 0) (λi _=>ds.length - (RowKit.intOf i).toNat)
   case atStart=>exact⟨0,ds,aZ _,rfl,HOd.q⟩
   case round=>
    obtain⟨k,xd,hk,rfl,hho⟩:=hrel;have hst:=hho.st;have hown:Own wr w.1.size 79 2 fB (J ad ds.length cd) xd:=hho.od;by_cases hlt:k<ds.length
    .obtain⟨g,cur,rfl,hbg,hxl,hcap,hBg,hcur⟩:=hown.open_ (hc:=rC) ah
     obtain⟨x,hx⟩:∃x,xd[k]?=A x:=⟨_,fK ah⟩;have hsl:k<C.SD.length:=by rw[<-hst.sd.1];omega
     obtain⟨L,hL⟩:∃L,C.SD[k]?=A L:=⟨_,fK hsl⟩;have xV:=hst.sd.2 k x L hx hL;have hrow:=xV.row (hc:=iP) hst.b;have hcx:=(hbg.1 (k*2+1)).trans (hcur k x 1 _ hx rfl);have Mg:Hid (∀W,Below wr.1.size wr W->Calls Tryz.prog 40 #[J x.sa x.sn x.sc] W (mO 3 1 aX L W)):=by
      refine G (λW hW=>?_);have hr:Row W 1 aX x.sa x.sn x.sc L:=hrow.below hW rfl;rw[show x.sn=L.length from hrow.len.symm] at hr ⊢;exact OO x.sa x.sc L W hr (by have:=xV.1;omega)
     have Bh:=G hho;have Fx:=G hbg;have HX:=G hx;have HL:=G hL;have Fz:=G xV.1;have Bj:=G hcx;have OJ:=G (hcur k x 1 _ hx rfl);have hle1:k<2000000:=by have:=hst.d.1;omega
     clear hho hst hown hbg hx hL xV hrow hcx hcur hsl;go_wp2_with fail;refine aC 10 [(0,0),(1,0),(2,0),(3,0),(4,0),(5,0),(6,0),(7,0),(8,0),(9,2),(10,1),(11,1),(12,2)] (λ_=>True) (λW'=>Bx W' w.1.size #[(J n0 (C.nl 0).length d0),(J n1 (C.nl 1).length d1),(J n2 (C.nl 2).length d2),(J n3 (C.nl 3).length d3),(J ae es.length ce),(J (A ⟨g,0,I⟩) ds.length cd),(J am ms.length cm),(J aq qs.length cq)]/\W'.cell? ⟨g,k*2+1,I⟩=A (J x.sa x.sn x.sc)) ay ay (trivial) (⟨Bh.q.st.bx,Bj.q⟩) ?_;refine qC ?_;refine aF rfl rfl (λK hK=>?_);go_simp;refine(Mg.q _ (Below.refl _ _).drew).mono ?_;rintro en Y ⟨a',c',rfl,Mj,Dp⟩;have WW:=G Mj;have vH:=G (show Below wr.1.size wr Y from(Below.refl _ _).drew.trans Dp);refine hK _ _ ⟨S,Bh.q.st.bx.keep vH.q,bn vH.q rfl Bj.q⟩ ?_;clear hK K Mj Dp;have xW:=Fx.q.keep vH.q;have WX:=xW.2.1;have OL:=xW.2.2;have OM:Y.cell? ⟨g,k*2+1,I⟩=A (J x.sa x.sn x.sc):=(xW.1 _).trans OJ.q;clear xW;refine qC ?_;refine bC rfl rfl rfl (λK hK=>?_);go_simp;refine hK _ _ S ?_;clear hK K;refine aP ?_;have Jh:=G (Bh.q.ZU rfl HX.q HL.q vH.q ⟨a',L.length,c'⟩ Fz.q WW.q);clear WX OL OM;go_wp2_with fail;go_roundw
     case rel=>exact⟨k+1,_,by omega,by go_num,Jh.q⟩
     case measure=>simp[RowKit.intOf];omega
    .obtain rfl:k=ds.length:=by omega
     have HLD:=G (show xd.length=ds.length from by obtain⟨_,_,q,_⟩:=hho.od.shape;simp only[Sl.v,Value.slice.injEq] at q;exact q.2.1.symm);have Z5:=G hho;clear hho hst hown;have hbx:=Z5.q.st.bx;have hb2:=Z5.q.st.b2;have hcx:=hbx.1;have hfx:=hbx.2.1;have hlx:=hbx.2.2;have hc2:=hb2.1;have hf2:=hb2.2.1;have hl2:=hb2.2.2;go_wp2_with fail;have HOm:=Z5;clear hbx hb2 hcx hfx hlx hc2 hf2 hl2
     go_loopw [79] (λi wr=>∃(k:O)(xm:H aN),k<=ms.length/\i= .int Z k/\HO w wr ⟨⟨n0,(C.nl 0).length,d0⟩,⟨n1,(C.nl 1).length,d1⟩,⟨n2,(C.nl 2).length,d2⟩,⟨n3,(C.nl 3).length,d3⟩,⟨ae,es.length,ce⟩,⟨ad,ds.length,cd⟩,⟨am,ms.length,cm⟩,⟨aq,qs.length,cq⟩⟩ xe xd xm C es.length ds.length k) (λi _=>ms.length - (RowKit.intOf i).toNat)
     case atStart=>exact⟨0,ms,aZ _,rfl,HOm.q⟩
     case round=>
      obtain⟨k,xm,hk,rfl,hho⟩:=hrel;have hst:=hho.st;have hown:Own wr w.1.size 84 4 fD (J am ms.length cm) xm:=hho.om;by_cases hlt:k<ms.length
      .obtain⟨g,cur,rfl,hbg,hxl,hcap,hBg,hcur⟩:=hown.open_ (hc:=rD) ah
       obtain⟨x,hx⟩:∃x,xm[k]?=A x:=⟨_,fK ah⟩;have hsl:k<C.SM.length:=by rw[<-hst.sm.1];omega
       obtain⟨L,hL⟩:∃L,C.SM[k]?=A L:=⟨_,fK hsl⟩;have xV:=hst.sm.2 k x L hx hL;have hrow:=xV.row (hc:=iP) hst.b;have hcx:=(hbg.1 (k*4+3)).trans (hcur k x 3 _ hx rfl);have Mg:Hid (∀W,Below wr.1.size wr W->Calls Tryz.prog 40 #[J x.sa x.sn x.sc] W (mO 3 1 aX L W)):=by
        refine G (λW hW=>?_);have hr:Row W 1 aX x.sa x.sn x.sc L:=hrow.below hW rfl;rw[show x.sn=L.length from hrow.len.symm] at hr ⊢;exact OO x.sa x.sc L W hr (by have:=xV.1;omega)
       have Bh:=G hho;have Fx:=G hbg;have HX:=G hx;have HL:=G hL;have Fz:=G xV.1;have Bj:=G hcx;have OJ:=G (hcur k x 3 _ hx rfl);have hle1:k<2000000:=by have:=hst.m.1;omega
       clear hho hst hown hbg hx hL xV hrow hcx hcur hsl;go_wp2_with fail;refine aC 10 [(0,0),(1,0),(2,0),(3,0),(4,0),(5,0),(6,0),(7,0),(8,0),(9,2),(10,1),(11,1),(12,2)] (λ_=>True) (λW'=>Bx W' w.1.size #[(J n0 (C.nl 0).length d0),(J n1 (C.nl 1).length d1),(J n2 (C.nl 2).length d2),(J n3 (C.nl 3).length d3),(J ae es.length ce),(J ad ds.length cd),(J (A ⟨g,0,I⟩) ms.length cm),(J aq qs.length cq)]/\W'.cell? ⟨g,k*4+3,I⟩=A (J x.sa x.sn x.sc)) ay ay (trivial) (⟨Bh.q.st.bx,Bj.q⟩) ?_;refine qC ?_;refine aF rfl rfl (λK hK=>?_);go_simp;refine(Mg.q _ (Below.refl _ _).drew).mono ?_;rintro en Y ⟨a',c',rfl,Mj,Dp⟩;have WW:=G Mj;have vH:=G (show Below wr.1.size wr Y from(Below.refl _ _).drew.trans Dp);refine hK _ _ ⟨S,Bh.q.st.bx.keep vH.q,bn vH.q rfl Bj.q⟩ ?_;clear hK K Mj Dp;have xW:=Fx.q.keep vH.q;have WX:=xW.2.1;have OL:=xW.2.2;have OM:Y.cell? ⟨g,k*4+3,I⟩=A (J x.sa x.sn x.sc):=(xW.1 _).trans OJ.q;clear xW;refine qC ?_;refine bC rfl rfl rfl (λK hK=>?_);go_simp;refine hK _ _ S ?_;clear hK K;refine aP ?_;have Jh:=G (Bh.q.ZV rfl HX.q HL.q vH.q ⟨a',L.length,c'⟩ Fz.q WW.q);clear WX OL OM;go_wp2_with fail;go_roundw
       case rel=>exact⟨k+1,_,by omega,by go_num,Jh.q⟩
       case measure=>simp[RowKit.intOf];omega
      .obtain rfl:k=ms.length:=by omega
       have HLM:=G (show xm.length=ms.length from by obtain⟨_,_,q,_⟩:=hho.om.shape;simp only[Sl.v,Value.slice.injEq] at q;exact q.2.1.symm);have Z6:=G hho;clear hho hst hown;have hbx:=Z6.q.st.bx;have hb2:=Z6.q.st.b2;have hcx:=hbx.1;have hfx:=hbx.2.1;have hlx:=hbx.2.2;have hc2:=hb2.1;have hf2:=hb2.2.1;have hl2:=hb2.2.2;go_wp2_with fail;have anz:Hid (∀Y,Same (λi=>i≠w.1.size+1) wr Y->NM w C (.returned (bG ⟨⟨n0,(C.nl 0).length,d0⟩,⟨n1,(C.nl 1).length,d1⟩,⟨n2,(C.nl 2).length,d2⟩,⟨n3,(C.nl 3).length,d3⟩,⟨ae,es.length,ce⟩,⟨ad,ds.length,cd⟩,⟨am,ms.length,cm⟩,⟨aq,qs.length,cq⟩⟩)) Y):=G (λY hs=>HO.fin (by rw[Ic.q,HLD.q,HLM.q];exact Z6.q) hs);refine bodyPost_ret (v:=bG ⟨⟨n0,(C.nl 0).length,d0⟩,⟨n1,(C.nl 1).length,d1⟩,⟨n2,(C.nl 2).length,d2⟩,⟨n3,(C.nl 3).length,d3⟩,⟨ae,es.length,ce⟩,⟨ad,ds.length,cd⟩,⟨am,ms.length,cm⟩,⟨aq,qs.length,cq⟩⟩) (by simp[results,results108,go_sem,hc2]) rfl (anz.q _ ?_)
       repeat(first|(with_reducible exact Same.refl' _)|(refine Same.setTail ?_ (λhn=>hn rfl)))
def Ty (X:V)(g:O)(T:TypeId):Prop:=∃cs fz,X.1[g]?=A (.cells cs T fz)
theorem Ty.ne {X:V}{g g':O}{T T':TypeId}(h:Ty X g T)(h':Ty X g' T')(hT:T≠T'):g≠g':=by
 rintro rfl;obtain⟨_,_,e1⟩:=h;obtain⟨_,_,e2⟩:=h';rw[e1] at e2
 cases e2
 exact hT rfl
theorem Own.xX {α:Type}{enc:α->H Value}{k:O}{X:V}{B:O}{T:TypeId}{a:Option P}{n c:O}{xs:H α}(h:Own X B T k enc (J a n c) xs):
  (a=I/\xs=[])\/∃g,a=A ⟨g,0,I⟩/\n=xs.length/\Ty X g T/\B<=g:=by
 obtain⟨h1,h2⟩:=h;rcases h2 with⟨he,h0⟩|⟨g,cap,cur,he,hB,hh,hn',_,hs,ht⟩
 .injection he with e1 _ _
  exact .inl ⟨e1,Av h0⟩
 .injection he with e1 e2 e3
  exact .inr ⟨g,e1,e2,⟨_,_,hh⟩,hB⟩
theorem Own.cells {α:Type}{enc:α->H Value}{k:O}[hc:Cells enc k]{X:V}{B:O}{T:TypeId}{g n c:O}{xs:H α}(h:Own X B T k enc (J (A ⟨g,0,I⟩) n c) xs){i j:O}{x:α}{v:Value}(hx:xs[i]?=A x)(hv:(enc x)[j]?=A v):X.cell? ⟨g,i*k+j,I⟩=A v:=by
 have hi:=(bO.1 hx).1;obtain⟨h1,h2⟩:=h;have hn:0<n:=by
  rcases h2 with⟨he,h0⟩|⟨g,cap,cur,he,_⟩
  .cases he
  .injection he with _ e2 _
   omega
 obtain⟨g',cur,e,hbg,_,_,_,hcur⟩:=Own.open_ (hc:=hc) (⟨h1,h2⟩:Own X B T k enc (J (A ⟨g,0,I⟩) n c) xs) hn;injection e with e;injection e with e;subst e;exact(hbg.1 _).trans (hcur i x j v hx hv)
structure Lay (X:V)(B:O)(h:HC)(es:H EvC)(ds:H aM)(ms:H aN)(qs:H Wa)(scan:EvC->H Sn)(dn:aM->H U)(mn:aN->H U):Prop where
 oe:Own X B 50 9 eB h.e.v es
 od:Own X B 79 2 fB h.d.v ds
 om:Own X B 84 4 fD h.m.v ms
 oq:Own X B 88 2 gH h.w.v qs
 se:∀x∈es,Own X B 98 3 dV x.val (scan x)
 sd:∀x∈ds,Own X B 3 1 aX x.val (dn x)
 sm:∀x∈ms,Own X B 3 1 aX x.val (mn x)
 pe:es.Pairwise (λx y=>∀g,x.val.ownBlock=A g->y.val.ownBlock≠A g)
 pd:ds.Pairwise (λx y=>∀g,x.val.ownBlock=A g->y.val.ownBlock≠A g)
 pm:ms.Pairwise (λx y=>∀g,x.val.ownBlock=A g->y.val.ownBlock≠A g)
 px:∀x∈ds,∀y∈ms,∀g,x.val.ownBlock=A g->y.val.ownBlock≠A g
theorem mq.pair {α β:Type}{B:O}{X:V}{T:TypeId}{ek:O}{enc:β->H Value}{val:α->Value}{xs:H α}{Ls:H (H β)}(h:mq B X T ek enc val xs Ls xs.length):xs.Pairwise (λx y=>∀g,(val x).ownBlock=A g->(val y).ownBlock≠A g):=by
 rw[GU];intro i j hi hj hij g h1;exact h.2 i j xs[i] xs[j] hij hj (fK hi) (fK hj) g h1
theorem mq.fn {α β:Type}{B:O}{X:V}{T:TypeId}{ek:O}{enc:β->H Value}[hc:Cells enc ek](hinj:∀x y,enc x=enc y->x=y){val:α->Value}{a:α->Option P}{n q:α->O}(hv:∀x,val x= J (a x) (n x) (q x)){xs:H α}{Ls:H (H β)}(h:mq B X T ek enc val xs Ls xs.length)(hlen:xs.length=Ls.length)
  (hL:∀L∈Ls,L.length<=140737488355328):∃f:α->H β,(∀x∈xs,Own X B T ek enc (val x) (f x))/\xs.map f=Ls:=by
 have key:∀i x,xs[i]?=A x->∃L,Ls[i]?=A L/\Own X B T ek enc (val x) L/\Classical.epsilon (λL=>Row X ek enc (a x) (n x) (q x) L)=L:=λi x hx=>by
  have hi:=(bO.1 hx).1;obtain⟨L,hL'⟩:∃L,Ls[i]?=A L:=⟨_,fK ah⟩;have ho:=h.1 i x L hi hx hL';have ho2:=ho;rw[hv x] at ho2;exact⟨L,hL',ho,Dq (hc:=hc) hinj (ho2.row (hc:=hc) (hL L (dP hL')))⟩
 refine⟨λx=>Classical.epsilon (λL=>Row X ek enc (a x) (n x) (q x) L),λx hx=>?_,?_⟩
 .obtain⟨i,hi⟩:=zi.1 hx
  obtain⟨L,_,ho,e⟩:=key i x hi;show Own X B T ek enc (val x) (Classical.epsilon λL=>Row X ek enc (a x) (n x) (q x) L);rw[e];exact ho
 .apply Ce
  intro i;rw[ug]
  cases hx:xs[i]? with
  |none=>rw[Option.map_none,xY (by rw[<-hlen];exact List.getElem?_eq_none_iff.1 hx)]
  |some x=>
   obtain⟨L,hL',_,e⟩:=key i x hx;rw[Option.map_some,hL'];exact bU A e
section
variable {X Y:V}{B:O}{h:HC}{es:H EvC}{ds:H aM}{ms:H aN}{qs:H Wa}{scan:EvC->H Sn}{dn:aM->H U}{mn:aN->H U}
theorem Lay.same (l:Lay X B h es ds ms qs scan dn mn)(hs:Same (λi=>B<=i) X Y):Lay Y B h es ds ms qs scan dn mn:=
 ⟨l.oe.same hs (λg hg=>(l.oe.lt g hg).1),l.od.same hs (λg hg=>(l.od.lt g hg).1),l.om.same hs (λg hg=>(l.om.lt g hg).1),l.oq.same hs (λg hg=>(l.oq.lt g hg).1),λx hx=>(l.se x hx).same hs (λg hg=>((l.se x hx).lt g hg).1),λx hx=>(l.sd x hx).same hs (λg hg=>((l.sd x hx).lt g hg).1),λx hx=>(l.sm x hx).same hs (λg hg=>((l.sm x hx).lt g hg).1),l.pe,l.pd,l.pm,l.px⟩
theorem OP {p:P}{v:lK}(h:p9 X p=v.t):(kr p v).map (iF X)=jN v:=by
 unfold kr jN iF
 split
 .simp only[eu,mE,h]
 .rfl
theorem uU {a:Option P}{n c:O}{l:H Sn}(ho:Own X B 98 3 dV (J a n c) l):((rE a 0 l).map Prod.snd).Nodup/\(∀p∈rE a 0 l,Ty X p.2.block 98/\(Value.slice a n c).ownBlock=A p.2.block)/\(rE a 0 l).map (iF X)=l.flatMap (λs=>(2,s.obj)::jN s.v):=by
 rcases ho.xX with⟨rfl,rfl⟩|⟨g,rfl,hn,ht,hB⟩
 .exact⟨tY,λp hp=>(by cases hp),rfl⟩
 .refine⟨wN (b:=g) (k:=3) (blk:=λ_=>I) l 0 (λj x hx=>?_) (λx hx=>⟨tY,λp hp=>(by cases hp)⟩) (List.Pairwise.imp (λ_ _ h=>(by cases h)) (List.pairwise_of_forall (R:=λ_ _=>True) (λ_ _=>S))),λp hp=>?_,?_⟩
  .rw[bA];exact OQ j x
  .obtain⟨j,x,hx,hp⟩:=(fU l 0 p).1 hp
   rcases hp with hp|hp
   .have:=((OQ (b:=g) (0+j) x).2 p hp).1
    rw[this];exact⟨ht,rfl⟩
   .cases hp
  .refine Bl (iF X) _ l 0 (λj x hx=>?_)
   have h0:=ho.cells (hc:=pJ) hx (j:=0) rfl;have h1:=ho.cells (hc:=pJ) hx (j:=1) rfl;rw[mE,dB,bA];have e0:p9 X ⟨g,0+j*3,I⟩=x.obj:=by rw[bA];exact kX h0
   have e1:p9 X ⟨g,0+(j*3+1),I⟩=x.v.t:=by rw[bA];exact kX h1
   show iF X (2,(⟨g,0+j*3,I⟩:P))::(kr ⟨g,0+(j*3+1),I⟩ x.v).map (iF X)=_;rw[OP e1];unfold iF;simp only[e0]
theorem FN {α β:Type}(f:α->β):∀l:H α,l.flatMap (λx=>[f x])=l.map f
 |[]=>rfl
 |x::l=>by rw[gY,FN f l];rfl
theorem lV {a:Option P}{n c:O}{l:H U}(ho:Own X B 3 1 aX (J a n c) l):((nO a 0 l).map Prod.snd).Nodup/\(∀p∈nO a 0 l,Ty X p.2.block 3/\(Value.slice a n c).ownBlock=A p.2.block)/\(nO a 0 l).map (iF X)=l.map (λd=>(0,d)):=by
 rcases ho.xX with⟨rfl,rfl⟩|⟨g,rfl,hn,ht,hB⟩
 .exact⟨tY,λp hp=>(by cases hp),rfl⟩
 .refine⟨wN (b:=g) (k:=1) (blk:=λ_=>I) l 0 (λj x hx=>?_) (λx hx=>⟨tY,λp hp=>(by cases hp)⟩) (List.Pairwise.imp (λ_ _ h=>(by cases h)) (List.pairwise_of_forall (R:=λ_ _=>True) (λ_ _=>S))),λp hp=>?_,?_⟩
  .rw[bA];exact WY j x
  .obtain⟨j,x,hx,hp⟩:=(fU l 0 p).1 hp
   rcases hp with hp|hp
   .have:=((WY (b:=g) (0+j) x).2 p hp).1
    rw[this];exact⟨ht,rfl⟩
   .cases hp
  .rw[show l.map (λd=>((0:U),d))=l.flatMap (λd=>[(0,d)]) from(FN _ l).symm]
   refine Bl (iF X) _ l 0 (λj x hx=>?_);have h0:=ho.cells (hc:=iP) hx (j:=0) rfl;rw[mE,dB,bA];have e0:p9 X ⟨g,0+j,I⟩=x:=by rw[bA];exact kX (by simpa using h0)
   show [iF X (0,(⟨g,0+j,I⟩:P))]=_;unfold iF;simp only[e0]
end
def Ints (X:V)(l:H (U × P)):Prop:=∀p∈l,∃n,X.cell? p.2=A (.int Z n)
section
variable {X Y:V}{B:O}{h:HC}{es:H EvC}{ds:H aM}{ms:H aN}{qs:H Wa}{scan:EvC->H Sn}{dn:aM->H U}{mn:aN->H U}
theorem OT {g q:O}{v:lK}(hc:X.cell? ⟨g,q,I⟩=A (.int Z v.t)):Ints X (kr ⟨g,q,I⟩ v):=λp hp=>by
 rw[(rF.1 hp).1];exact⟨_,hc⟩
theorem aer {a:Option P}{n c:O}{l:H Sn}(ho:Own X B 98 3 dV (J a n c) l):Ints X (rE a 0 l):=by
 rcases ho.xX with⟨rfl,rfl⟩|⟨g,rfl,hn,ht,hB⟩
 .exact λp hp=>by cases hp
 .intro p hp
  obtain⟨j,x,hx,hp⟩:=(fU l 0 p).1 hp;rcases hp with hp|hp
  .rw[bA] at hp
   have h0:=ho.cells (hc:=pJ) hx (j:=0) rfl;have h1:=ho.cells (hc:=pJ) hx (j:=1) rfl;rcases dU.1 hp with rfl|hp
   .exact⟨x.obj,by show X.cell? ⟨g,0+j*3,I⟩=_;rw[bA];exact h0⟩
   .exact OT (v:=x.v) (by rw[bA];exact h1) p hp
  .cases hp
theorem SA {a:Option P}{n c:O}{l:H U}(ho:Own X B 3 1 aX (J a n c) l):Ints X (nO a 0 l):=by
 rcases ho.xX with⟨rfl,rfl⟩|⟨g,rfl,hn,ht,hB⟩
 .exact λp hp=>by cases hp
 .intro p hp
  obtain⟨j,x,hx,hp⟩:=(fU l 0 p).1 hp;rcases hp with hp|hp
  .rw[bA] at hp
   have h0:=ho.cells (hc:=iP) hx (j:=0) rfl;rw[bT.1 hp];exact⟨x,by show X.cell? ⟨g,0+j,I⟩=_;rw[bA];simpa using h0⟩
  .cases hp
theorem Cg (l:Lay X B h es ds ms qs scan dn mn):((qz h.e.a scan 0 es).map Prod.snd).Nodup/\
  (∀p∈qz h.e.a scan 0 es,Ty X p.2.block 50\/(Ty X p.2.block 98/\∃e∈es,p∈rE e.sa 0 (scan e)))/\(qz h.e.a scan 0 es).map (iF X)=es.flatMap (λe=>jv e (scan e))/\Ints X (qz h.e.a scan 0 es):=by
 have ho:Own X B 50 9 eB (J h.e.a h.e.n h.e.c) es:=l.oe;rcases ho.xX with⟨ha,rfl⟩|⟨g,ha,hn,ht,hB⟩
 .exact⟨tY,λp hp=>(by cases hp),rfl,λp hp=>(by cases hp)⟩
 .rw[ha] at ho ⊢
  have hc:∀{j x},es[j]?=A x->∀{q v},(eB x)[q]?=A v->X.cell? ⟨g,j*9+q,I⟩=A v:=λhx _ _ hv=>ho.cells (hc:=rA) hx hv
  refine⟨wN (b:=g) (k:=9) (blk:=λe=>e.val.ownBlock) es 0 (λj x hx=>by rw[bA];exact OV j x) (λx hx=>⟨(uU (l.se x hx)).1,λp hp=>⟨((uU (l.se x hx)).2.1 p hp).2,((uU (l.se x hx)).2.1 p hp).1.ne ht aj⟩⟩) l.pe,λp hp=>?_,?_,λp hp=>?_⟩
  .obtain⟨j,x,hx,hp⟩:=(fU es 0 p).1 hp
   rcases hp with hp|hp
   .rw[bA] at hp
    have:=((OV (b:=g) j x).2 p hp).1;rw[this];exact .inl ht
   .have hm:=dP hx
    exact .inr ⟨((uU (l.se x hm)).2.1 p hp).1,x,hm,hp⟩
  .refine Bl (iF X) _ es 0 (λj x hx=>?_)
   rw[bA];have hs:=(uU (l.se x (dP hx))).2.2;rw[show(rE x.sa 0 (scan x)).map (iF X)=_ from hs];have e1:p9 X ⟨g,0+(j*9+1),I⟩=x.t:=by rw[bA];exact kX (hc hx rfl)
   have e2:p9 X ⟨g,0+(j*9+2),I⟩=x.bW:=by rw[bA];exact kX (hc hx rfl)
   have e4:p9 X ⟨g,0+(j*9+4),I⟩=x.obj:=by rw[bA];exact kX (hc hx rfl)
   have e5:p9 X ⟨g,0+(j*9+5),I⟩=x.v.t:=by rw[bA];exact kX (hc hx rfl)
   have e7:p9 X ⟨g,0+(j*9+7),I⟩=x.pred:=by rw[bA];exact kX (hc hx rfl)
   unfold jv vI
   congr 1
   rw[eu]
   congr 1
   .unfold iF;simp only[e1]
   .by_cases k1:x.kind=1
    .rw[av k1,av k1];unfold iF;simp only[eu,mE,e2]
    .rw[au k1,au k1]
     by_cases k2:x.kind=2\/x.kind=3
     .rw[av k2,av k2,eu,OP e5];unfold iF;simp only[e4]
     .rw[au k2,au k2]
      by_cases k4:x.kind=4
      .rw[av k4,av k4];unfold iF;simp only[eu,mE,e7]
      .rw[au k4,au k4];rfl
  .obtain⟨j,x,hx,hp⟩:=(fU es 0 p).1 hp
   rcases hp with hp|hp
   .rw[bA] at hp
    unfold vI at hp;rcases dU.1 hp with rfl|hp
    .exact⟨x.t,by show X.cell? ⟨g,0+(j*9+1),I⟩=_;rw[bA];exact hc hx rfl⟩
    .split at hp
     .rw[bT.1 hp]
      exact⟨x.bW,by show X.cell? ⟨g,0+(j*9+2),I⟩=_;rw[bA];exact hc hx rfl⟩
     .split at hp
      .rcases dU.1 hp with rfl|hp
       .exact⟨x.obj,by show X.cell? ⟨g,0+(j*9+4),I⟩=_;rw[bA];exact hc hx rfl⟩
       .exact OT (v:=x.v) (by rw[bA];exact hc hx rfl) p hp
      .split at hp
       .rw[bT.1 hp]
        exact⟨x.pred,by show X.cell? ⟨g,0+(j*9+7),I⟩=_;rw[bA];exact hc hx rfl⟩
       .cases hp
   .exact aer (l.se x (dP hx)) p hp
theorem Ch (l:Lay X B h es ds ms qs scan dn mn):((uh h.d.a dn 0 ds).map Prod.snd).Nodup/\
  (∀p∈uh h.d.a dn 0 ds,Ty X p.2.block 79\/(Ty X p.2.block 3/\∃e∈ds,e.val.ownBlock=A p.2.block/\p∈nO e.sa 0 (dn e)))/\(uh h.d.a dn 0 ds).map (iF X)=ds.flatMap (λx=>pz x (dn x))/\Ints X (uh h.d.a dn 0 ds):=by
 have ho:Own X B 79 2 fB (J h.d.a h.d.n h.d.c) ds:=l.od;rcases ho.xX with⟨ha,rfl⟩|⟨g,ha,hn,ht,hB⟩
 .exact⟨tY,λp hp=>(by cases hp),rfl,λp hp=>(by cases hp)⟩
 .rw[ha] at ho ⊢
  refine⟨wN (b:=g) (k:=2) (blk:=λe=>e.val.ownBlock) ds 0 (λj x hx=>by rw[bA];exact WZ j x) (λx hx=>⟨(lV (l.sd x hx)).1,λp hp=>⟨((lV (l.sd x hx)).2.1 p hp).2,((lV (l.sd x hx)).2.1 p hp).1.ne ht aj⟩⟩) l.pd,λp hp=>?_,?_,λp hp=>?_⟩
  .obtain⟨j,x,hx,hp⟩:=(fU ds 0 p).1 hp
   rcases hp with hp|hp
   .rw[bA] at hp
    have:=((WZ (b:=g) j x).2 p hp).1;rw[this];exact .inl ht
   .have hm:=dP hx
    exact .inr ⟨((lV (l.sd x hm)).2.1 p hp).1,x,hm,((lV (l.sd x hm)).2.1 p hp).2,hp⟩
  .refine Bl (iF X) _ ds 0 (λj x hx=>?_)
   rw[bA];have hs:=(lV (l.sd x (dP hx))).2.2;rw[show(nO x.sa 0 (dn x)).map (iF X)=_ from hs];have e0:p9 X ⟨g,0+j*2,I⟩=x.obj:=by rw[bA];exact kX (ho.cells (hc:=rC) hx (j:=0) rfl)
   unfold SB pz iF;simp only[eu,mE,e0,fu,fJ]
  .obtain⟨j,x,hx,hp⟩:=(fU ds 0 p).1 hp
   rcases hp with hp|hp
   .rw[bA] at hp
    rw[bT.1 hp];exact⟨x.obj,by show X.cell? ⟨g,0+j*2,I⟩=_;rw[bA];exact ho.cells (hc:=rC) hx (j:=0) rfl⟩
   .exact SA (l.sd x (dP hx)) p hp
theorem Ci (l:Lay X B h es ds ms qs scan dn mn):((uj h.m.a mn 0 ms).map Prod.snd).Nodup/\
  (∀p∈uj h.m.a mn 0 ms,Ty X p.2.block 84\/(Ty X p.2.block 3/\∃e∈ms,e.val.ownBlock=A p.2.block/\p∈nO e.sa 0 (mn e)))/\(uj h.m.a mn 0 ms).map (iF X)=ms.flatMap (λx=>nM x (mn x))/\Ints X (uj h.m.a mn 0 ms):=by
 have ho:Own X B 84 4 fD (J h.m.a h.m.n h.m.c) ms:=l.om;rcases ho.xX with⟨ha,rfl⟩|⟨g,ha,hn,ht,hB⟩
 .exact⟨tY,λp hp=>(by cases hp),rfl,λp hp=>(by cases hp)⟩
 .rw[ha] at ho ⊢
  refine⟨wN (b:=g) (k:=4) (blk:=λe=>e.val.ownBlock) ms 0 (λj x hx=>by rw[bA];exact Xa j x) (λx hx=>⟨(lV (l.sm x hx)).1,λp hp=>⟨((lV (l.sm x hx)).2.1 p hp).2,((lV (l.sm x hx)).2.1 p hp).1.ne ht aj⟩⟩) l.pm,λp hp=>?_,?_,λp hp=>?_⟩
  .obtain⟨j,x,hx,hp⟩:=(fU ms 0 p).1 hp
   rcases hp with hp|hp
   .rw[bA] at hp
    have:=((Xa (b:=g) j x).2 p hp).1;rw[this];exact .inl ht
   .have hm:=dP hx
    exact .inr ⟨((lV (l.sm x hm)).2.1 p hp).1,x,hm,((lV (l.sm x hm)).2.1 p hp).2,hp⟩
  .refine Bl (iF X) _ ms 0 (λj x hx=>?_)
   rw[bA];have hs:=(lV (l.sm x (dP hx))).2.2;rw[show(nO x.sa 0 (mn x)).map (iF X)=_ from hs];have e0:p9 X ⟨g,0+j*4,I⟩=x.pred:=by rw[bA];exact kX (ho.cells (hc:=rD) hx (j:=0) rfl)
   have e1:p9 X ⟨g,0+(j*4+1),I⟩=x.obj:=by rw[bA];exact kX (ho.cells (hc:=rD) hx (j:=1) rfl)
   unfold OW nM iF;simp only[eu,mE,e0,e1,fu,fJ]
  .obtain⟨j,x,hx,hp⟩:=(fU ms 0 p).1 hp
   rcases hp with hp|hp
   .rw[bA] at hp
    rcases dU.1 hp with rfl|hp
    .exact⟨x.pred,by show X.cell? ⟨g,0+j*4,I⟩=_;rw[bA];exact ho.cells (hc:=rD) hx (j:=0) rfl⟩
    .rw[bT.1 hp]
     exact⟨x.obj,by show X.cell? ⟨g,0+(j*4+1),I⟩=_;rw[bA];exact ho.cells (hc:=rD) hx (j:=1) rfl⟩
   .exact SA (l.sm x (dP hx)) p hp
theorem Cj (l:Lay X B h es ds ms qs scan dn mn):((xZ h.w.a 0 qs).map Prod.snd).Nodup/\
  (∀p∈xZ h.w.a 0 qs,Ty X p.2.block 88)/\(xZ h.w.a 0 qs).map (iF X)=qs.flatMap oF/\Ints X (xZ h.w.a 0 qs):=by
 have ho:Own X B 88 2 gH (J h.w.a h.w.n h.w.c) qs:=l.oq;rcases ho.xX with⟨ha,rfl⟩|⟨g,ha,hn,ht,hB⟩
 .exact⟨tY,λp hp=>(by cases hp),rfl,λp hp=>(by cases hp)⟩
 .rw[ha] at ho ⊢
  refine⟨wN (b:=g) (k:=2) (blk:=λ_=>I) qs 0 (λj x hx=>by rw[bA];exact Xb j x) (λx hx=>⟨tY,λp hp=>(by cases hp)⟩) (List.Pairwise.imp (λ_ _ h=>(by cases h)) (List.pairwise_of_forall (R:=λ_ _=>True) (λ_ _=>S))),λp hp=>?_,?_,λp hp=>?_⟩
  .obtain⟨j,x,hx,hp⟩:=(fU qs 0 p).1 hp
   rcases hp with hp|hp
   .rw[bA] at hp
    have:=((Xb (b:=g) j x).2 p hp).1;rw[this];exact ht
   .cases hp
  .refine Bl (iF X) _ qs 0 (λj x hx=>?_)
   rw[bA];have e0:p9 X ⟨g,0+j*2,I⟩=x.bW:=by rw[bA];exact kX (ho.cells (hc:=sQ) hx (j:=0) rfl)
   unfold SC oF iF;simp only[eu,mE,e0,dB]
  .obtain⟨j,x,hx,hp⟩:=(fU qs 0 p).1 hp
   rcases hp with hp|hp
   .rw[bA] at hp
    rw[bT.1 hp];exact⟨x.bW,by show X.cell? ⟨g,0+j*2,I⟩=_;rw[bA];exact ho.cells (hc:=sQ) hx (j:=0) rfl⟩
   .cases hp
theorem Ty.no {g:O}{T T':TypeId}(h:Ty X g T)(h':Ty X g T')(hT:T≠T'):False:=h.ne h' hT rfl
theorem Lay.nodup (l:Lay X B h es ds ms qs scan dn mn):((aT h es ds ms qs scan dn mn).map Prod.snd).Nodup:=by
 obtain⟨e1,e2,_⟩:=Cg l;obtain⟨d1,d2,_⟩:=Ch l;obtain⟨m1,m2,_⟩:=Ci l;obtain⟨q1,q2,_⟩:=Cj l;unfold aT;rw[eU,eU,eU];refine zk.2 ⟨e1,zk.2 ⟨d1,zk.2 ⟨m1,q1,?_⟩,?_⟩,?_⟩
 .intro p hp q hq e
  obtain⟨p',hp',rfl⟩:=dI.1 hp;obtain⟨q',hq',rfl⟩:=dI.1 hq;have t2:=q2 q' hq';rw[<-e] at t2;rcases m2 p' hp' with t1|⟨t1,_⟩
  .exact t1.no t2 aj
  .exact t1.no t2 aj
 .intro p hp q hq e
  obtain⟨p',hp',rfl⟩:=dI.1 hp;rcases dm.1 hq with hq|hq
  .obtain⟨q',hq',rfl⟩:=dI.1 hq
   have t1:=d2 p' hp';have t2:=m2 q' hq';rw[<-e] at t2;rcases t1 with t1|⟨t1,x,hx,hbx,_⟩
   .rcases t2 with t2|⟨t2,_⟩
    .exact t1.no t2 aj
    .exact t1.no t2 aj
   .rcases t2 with t2|⟨t2,y,hy,hby,_⟩
    .exact t1.no t2 aj
    .exact l.px x hx y hy _ hbx hby
  .obtain⟨q',hq',rfl⟩:=dI.1 hq
   have t2:=q2 q' hq';rw[<-e] at t2;rcases d2 p' hp' with t1|⟨t1,_⟩
   .exact t1.no t2 aj
   .exact t1.no t2 aj
 .intro p hp q hq e
  obtain⟨p',hp',rfl⟩:=dI.1 hp;have t1:=e2 p' hp';rcases dm.1 hq with hq|hq
  .obtain⟨q',hq',rfl⟩:=dI.1 hq
   have t2:=d2 q' hq';rw[<-e] at t2;rcases t1 with t1|⟨t1,_⟩ <;> rcases t2 with t2|⟨t2,_⟩ <;> exact t1.no t2 aj
  .rcases dm.1 hq with hq|hq
   .obtain⟨q',hq',rfl⟩:=dI.1 hq
    have t2:=m2 q' hq';rw[<-e] at t2;rcases t1 with t1|⟨t1,_⟩ <;> rcases t2 with t2|⟨t2,_⟩ <;> exact t1.no t2 aj
   .obtain⟨q',hq',rfl⟩:=dI.1 hq
    have t2:=q2 q' hq';rw[<-e] at t2;rcases t1 with t1|⟨t1,_⟩ <;> exact t1.no t2 aj
theorem Lay.vals (l:Lay X B h es ds ms qs scan dn mn):(aT h es ds ms qs scan dn mn).map (iF X)=lu es ds ms qs scan dn mn:=by
 unfold aT lu;rw[eU,eU,eU,(Cg l).2.2.1,(Ch l).2.2.1,(Ci l).2.2.1,(Cj l).2.2.1];simp only[dD]
theorem Lay.ints (l:Lay X B h es ds ms qs scan dn mn):Ints X (aT h es ds ms qs scan dn mn):=λp hp=>by
 unfold aT at hp;rcases dm.1 hp with hp|hp
 .exact(Cg l).2.2.2 p hp
 .rcases dm.1 hp with hp|hp
  .exact(Ch l).2.2.2 p hp
  .rcases dm.1 hp with hp|hp
   .exact(Ci l).2.2.2 p hp
   .exact(Cj l).2.2.2 p hp
end
theorem SF {α:Type}{val:α->Value}{xs:H α}(h:xs.Pairwise (λx y=>∀g,(val x).ownBlock=A g->(val y).ownBlock≠A g)){x y:α}(hx:x∈xs)(hy:y∈xs){g:O}(h1:(val x).ownBlock=A g)(h2:(val y).ownBlock=A g):x=y:=by
 rw[GU] at h;obtain⟨i,hi,rfl⟩:=Hf.1 hx;obtain⟨j,hj,rfl⟩:=Hf.1 hy;rcases Nat.lt_trichotomy i j with q|q|q
 .exact absurd h2 (h i j hi hj q g h1)
 .subst q;rfl
 .exact absurd h1 (h j i hj hi q g h2)
theorem Xc {g q i:O}{s:U}{e:EvC}(h:(s,(⟨g,q,I⟩:P))∈vI (A ⟨g,0,I⟩) i e):
  (q=i*9+1/\s=0)\/(q=i*9+2/\s=1/\e.kind=1)\/(q=i*9+4/\s=2/\(e.kind=2\/e.kind=3))\/(q=i*9+5/\s=0/\(e.kind=2\/e.kind=3)/\0<e.v.k)\/(q=i*9+7/\s=3/\e.kind=4):=by
 have ad:∀{u:U}{r:O},((s,(⟨g,q,I⟩:P)):U × P)=(u,(⟨g,0+r,I⟩:P))->q=r/\s=u:=λe=>by
  injection e with e1 e2;injection e2 with _ e2 _;exact⟨by omega,e1⟩
 unfold vI at h;rcases dU.1 h with h|h
 .have:=ad h;exact .inl this
 .by_cases k1:e.kind=1
  .rw[av k1] at h
   have:=ad (bT.1 h);exact .inr (.inl ⟨this.1,this.2,k1⟩)
  .rw[au k1] at h
   by_cases k2:e.kind=2\/e.kind=3
   .rw[av k2] at h
    rcases dU.1 h with h|h
    .have:=ad h
     exact .inr (.inr (.inl ⟨this.1,this.2,k2⟩))
    .obtain⟨h1,h2⟩:=rF.1 h
     have:=ad h1;exact .inr (.inr (.inr (.inl ⟨this.1,this.2,k2,h2⟩)))
   .rw[au k2] at h
    by_cases k4:e.kind=4
    .rw[av k4] at h
     have:=ad (bT.1 h);exact .inr (.inr (.inr (.inr ⟨this.1,this.2,k4⟩)))
    .rw[au k4] at h;cases h
theorem akc (g i:O)(e:EvC):((0:U),(⟨g,i*9+1,I⟩:P))∈vI (A ⟨g,0,I⟩) i e:=by
 unfold vI;rw[show(⟨g,i*9+1,I⟩:P)=nX (A ⟨g,0,I⟩) (i*9+1) from by simp[nX]];exact fM
theorem akd (g i:O){e:EvC}(k:e.kind=1):((1:U),(⟨g,i*9+2,I⟩:P))∈vI (A ⟨g,0,I⟩) i e:=by
 unfold vI;rw[av k,show(⟨g,i*9+2,I⟩:P)=nX (A ⟨g,0,I⟩) (i*9+2) from by simp[nX]];exact eD _ (bT.2 rfl)
theorem ake (g i:O){e:EvC}(k:e.kind=2\/e.kind=3):((2:U),(⟨g,i*9+4,I⟩:P))∈vI (A ⟨g,0,I⟩) i e:=by
 unfold vI;rw[au ah,av k,show(⟨g,i*9+4,I⟩:P)=nX (A ⟨g,0,I⟩) (i*9+4) from by simp[nX]];exact eD _ fM
theorem akf (g i:O){e:EvC}(k:e.kind=2\/e.kind=3)(hk:0<e.v.k):((0:U),(⟨g,i*9+5,I⟩:P))∈vI (A ⟨g,0,I⟩) i e:=by
 unfold vI;rw[au ah,av k,show(⟨g,i*9+5,I⟩:P)=nX (A ⟨g,0,I⟩) (i*9+5) from by simp[nX]];exact eD _ (eD _ (rF.2 ⟨rfl,hk⟩))
theorem akg (g i:O){e:EvC}(k:e.kind=4):((3:U),(⟨g,i*9+7,I⟩:P))∈vI (A ⟨g,0,I⟩) i e:=by
 unfold vI;rw[au ah,au ah,av k,show(⟨g,i*9+7,I⟩:P)=nX (A ⟨g,0,I⟩) (i*9+7) from by simp[nX]];exact eD _ (bT.2 rfl)
def Hg (e:EvC):Prop:=(e.kind≠1->e.bW=0)/\(¬(e.kind=2\/e.kind=3)->e.obj=0/\e.v=⟨0,0⟩)/\(e.kind≠4->e.pred=0)
def evR (F:U->H U)(e:EvC):EvC:={eT F e with sa:=e.sa,sn:=e.sn,sc:=e.sc}
def orR (F:U->H U)(x:aM):aM:={x with obj:=dZ (F 2) x.obj}
def maR (F:U->H U)(x:aN):aN:={x with pred:=dZ (F 3) x.pred,obj:=dZ (F 2) x.obj}
def waR (F:U->H U)(x:Wa):Wa:={x with bW:=dZ (F 1) x.bW}
section
variable {X Y:V}{B:O}{h:HC}{es:H EvC}{ds:H aM}{ms:H aN}{qs:H Wa}{scan:EvC->H Sn}{dn:aM->H U}{mn:aN->H U}
theorem acU {p:U × P}(h1:p∈qz h.e.a scan 0 es):p∈aT h es ds ms qs scan dn mn:=iJ _ h1
theorem acV {p:U × P}(h1:p∈uh h.d.a dn 0 ds):p∈aT h es ds ms qs scan dn mn:=jK _ (iJ _ h1)
theorem Uy {p:U × P}(h1:p∈uj h.m.a mn 0 ms):p∈aT h es ds ms qs scan dn mn:=jK _ (jK _ (iJ _ h1))
theorem akh {p:U × P}(h1:p∈xZ h.w.a 0 qs):p∈aT h es ds ms qs scan dn mn:=jK _ (jK _ (jK _ h1))
theorem Lay.which (l:Lay X B h es ds ms qs scan dn mn){p:U × P}(hp:p∈aT h es ds ms qs scan dn mn):
  (Ty X p.2.block 50/\∃i e,es[i]?=A e/\p∈vI h.e.a i e)\/(Ty X p.2.block 98/\∃e∈es,e.val.ownBlock=A p.2.block/\p∈rE e.sa 0 (scan e))\/
  (Ty X p.2.block 79/\∃i x,ds[i]?=A x/\p∈SB h.d.a i x)\/(Ty X p.2.block 84/\∃i x,ms[i]?=A x/\p∈OW h.m.a i x)\/(Ty X p.2.block 88/\∃i x,qs[i]?=A x/\p∈SC h.w.a i x)\/
  (Ty X p.2.block 3/\((∃x∈ds,x.val.ownBlock=A p.2.block/\p∈nO x.sa 0 (dn x))\/(∃x∈ms,x.val.ownBlock=A p.2.block/\p∈nO x.sa 0 (mn x)))):=by
 unfold aT at hp;rcases dm.1 hp with hp|hp
 .have ht:=(Cg l).2.1 p hp
  obtain⟨j,x,hx,hp'⟩:=(fU es 0 p).1 hp;rcases hp' with hp'|hp'
  .rw[bA] at hp'
   rcases ht with ht|⟨ht,y,hy,hpy⟩
   .exact .inl ⟨ht,j,x,hx,hp'⟩
   .exact .inr (.inl ⟨ht,y,hy,((uU (l.se y hy)).2.1 p hpy).2,hpy⟩)
  .have hm:=dP hx
   exact .inr (.inl ⟨((uU (l.se x hm)).2.1 p hp').1,x,hm,((uU (l.se x hm)).2.1 p hp').2,hp'⟩)
 .rcases dm.1 hp with hp|hp
  .have ht:=(Ch l).2.1 p hp
   obtain⟨j,x,hx,hp'⟩:=(fU ds 0 p).1 hp;rcases ht with ht|⟨ht,y,hy,hb,hpy⟩
   .rcases hp' with hp'|hp'
    .rw[bA] at hp'
     exact .inr (.inr (.inl ⟨ht,j,x,hx,hp'⟩))
    .exact(ht.no ((lV (l.sd x (dP hx))).2.1 p hp').1 aj).elim
   .exact .inr (.inr (.inr (.inr (.inr ⟨ht,.inl ⟨y,hy,hb,hpy⟩⟩))))
  .rcases dm.1 hp with hp|hp
   .have ht:=(Ci l).2.1 p hp
    obtain⟨j,x,hx,hp'⟩:=(fU ms 0 p).1 hp;rcases ht with ht|⟨ht,y,hy,hb,hpy⟩
    .rcases hp' with hp'|hp'
     .rw[bA] at hp'
      exact .inr (.inr (.inr (.inl ⟨ht,j,x,hx,hp'⟩)))
     .exact(ht.no ((lV (l.sm x (dP hx))).2.1 p hp').1 aj).elim
    .exact .inr (.inr (.inr (.inr (.inr ⟨ht,.inr ⟨y,hy,hb,hpy⟩⟩))))
   .have ht:=(Cj l).2.1 p hp
    obtain⟨j,x,hx,hp'⟩:=(fU qs 0 p).1 hp;rcases hp' with hp'|hp'
    .rw[bA] at hp'
     exact .inr (.inr (.inr (.inr (.inl ⟨ht,j,x,hx,hp'⟩))))
    .cases hp'
theorem Lay.acW (l:Lay X B h es ds ms qs scan dn mn){g i j:O}{s:U}(ha:h.e.a=A ⟨g,0,I⟩)(hj:j<9)(hp:(s,(⟨g,i*9+j,I⟩:P))∈aT h es ds ms qs scan dn mn):
  ∃e,es[i]?=A e/\((j=1/\s=0)\/(j=2/\s=1/\e.kind=1)\/(j=4/\s=2/\(e.kind=2\/e.kind=3))\/(j=5/\s=0/\(e.kind=2\/e.kind=3)/\0<e.v.k)\/(j=7/\s=3/\e.kind=4)):=by
 have hg:Ty X g 50:=l.oe.tag (by show(Value.slice h.e.a h.e.n h.e.c).ownBlock=A g;rw[ha];rfl);rcases l.which hp with⟨_,i',e,he,hh⟩|⟨t,_⟩|⟨t,_⟩|⟨t,_⟩|⟨t,_⟩|⟨t,_⟩
 .rw[ha] at hh
  have hc:=Xc hh;obtain rfl:i'=i:=by rcases hc with c|c|c|c|c <;> (have:=c.1;omega)
  refine⟨e,he,?_⟩;rcases hc with c|c|c|c|c
  .exact .inl ⟨by omega,c.2⟩
  .exact .inr (.inl ⟨by omega,c.2⟩)
  .exact .inr (.inr (.inl ⟨by omega,c.2⟩))
  .exact .inr (.inr (.inr (.inl ⟨by omega,c.2⟩)))
  .exact .inr (.inr (.inr (.inr ⟨by omega,c.2⟩)))
 all_goals exact(hg.no t aj).elim
theorem Lay.agk (l:Lay X B h es ds ms qs scan dn mn){F:U->H U}(hM:Moved X Y F (aT h es ds ms qs scan dn mn))(hb:∀e∈es,Hg e):Own Y B 50 9 eB h.e.v (es.map (evR F)):=by
 refine l.oe.moved (hc:=rA) hM (by rw[bH]) (λg hg i x y j u hx hy hu=>?_);have ho:Own X B 50 9 eB (J h.e.a h.e.n h.e.c) es:=l.oe;have ha:h.e.a=A ⟨g,0,I⟩:=by
  rcases ho.xX with⟨ha,_⟩|⟨g',ha,_⟩
  .rw[show h.e.v= J h.e.a h.e.n h.e.c from rfl,ha] at hg;cases hg
  .rw[show h.e.v= J h.e.a h.e.n h.e.c from rfl,ha] at hg;injection hg with hg;rw[ha];subst hg;rfl
 rw[ug,hx] at hy;injection hy with hy;subst hy;have hm:=dP hx;obtain⟨b1,b2,b3⟩:=hb x hm;have hno:∀{j:O},j<9->(∀s,¬((j=1/\s=(0:U))\/(j=2/\s=1/\x.kind=1)\/(j=4/\s=2/\(x.kind=2\/x.kind=3))\/(j=5/\s=0/\(x.kind=2\/x.kind=3)/\0<x.v.k)\/(j=7/\s=3/\x.kind=4)))->∀s,(s,(⟨g,i*9+j,I⟩:P))∉aT h es ds ms qs scan dn mn:=λhj hn s hp=>by
  obtain⟨e,he,hc⟩:=l.acW ha hj hp;rw[hx] at he;injection he with he;subst he;exact hn s hc
 have Ee:∀{p:U × P},p∈vI (A ⟨g,0,I⟩) i x->p∈aT h es ds ms qs scan dn mn:=λhp=>acU ((fU es 0 _).2 ⟨i,x,hx,.inl (by rw[ha,bA];exact hp)⟩)
 have hj9:j<9:=by have:=(bO.1 hu).1;simpa[eB] using this
 have hj:j=0\/j=1\/j=2\/j=3\/j=4\/j=5\/j=6\/j=7\/j=8:=by omega
 rcases hj with rfl|rfl|rfl|rfl|rfl|rfl|rfl|rfl|rfl
 .exact .inl ⟨hu,hno ah (λs hc=>by omega)⟩
 .refine .inr ⟨0,x.t,Ee (akc g i x),?_,rfl⟩
  injection hu with hu;exact hu.symm
 .by_cases k:x.kind=1
  .refine .inr ⟨1,x.bW,Ee (akd g i k),?_,?_⟩
   .injection hu with hu;exact hu.symm
   .show A (N Z (if x.kind=1 then dZ (F 1) x.bW else 0))=_
    rw[av k]
  .refine .inl ⟨?_,hno ah (λs hc=>by omega)⟩
   rw[<-hu];show A (N Z (if x.kind=1 then dZ (F 1) x.bW else 0))=A (N Z x.bW);rw[au k,b1 k]
 .exact .inl ⟨hu,hno ah (λs hc=>by omega)⟩
 .by_cases k:x.kind=2\/x.kind=3
  .refine .inr ⟨2,x.obj,Ee (ake g i k),?_,?_⟩
   .injection hu with hu;exact hu.symm
   .show A (N Z (if x.kind=2\/x.kind=3 then dZ (F 2) x.obj else 0))=_
    rw[av k]
  .refine .inl ⟨?_,hno ah (λs hc=>by omega)⟩
   rw[<-hu];show A (N Z (if x.kind=2\/x.kind=3 then dZ (F 2) x.obj else 0))=A (N Z x.obj);rw[au k,(b2 k).1]
 .by_cases k:x.kind=2\/x.kind=3
  .by_cases hk:0<x.v.k
   .refine .inr ⟨0,x.v.t,Ee (akf g i k hk),?_,?_⟩
    .injection hu with hu;exact hu.symm
    .show A (N Z (if x.kind=2\/x.kind=3 then lS F x.v else⟨0,0⟩).t)=_
     unfold lS;rw[av k,av hk]
   .refine .inl ⟨?_,hno ah (λs hc=>by omega)⟩
    rw[<-hu];show A (N Z (if x.kind=2\/x.kind=3 then lS F x.v else⟨0,0⟩).t)=A (N Z x.v.t);unfold lS;rw[av k,au hk]
  .refine .inl ⟨?_,hno ah (λs hc=>by omega)⟩
   rw[<-hu];show A (N Z (if x.kind=2\/x.kind=3 then lS F x.v else⟨0,0⟩).t)=A (N Z x.v.t);rw[au k,(b2 k).2]
 .refine .inl ⟨?_,hno ah (λs hc=>by omega)⟩
  rw[<-hu];show A (N Z (if x.kind=2\/x.kind=3 then lS F x.v else⟨0,0⟩).k)=A (N Z x.v.k);by_cases k:x.kind=2\/x.kind=3
  .rw[av k]
   unfold lS
   split <;> rfl
  .rw[au k,(b2 k).2]
 .by_cases k:x.kind=4
  .refine .inr ⟨3,x.pred,Ee (akg g i k),?_,?_⟩
   .injection hu with hu;exact hu.symm
   .show A (N Z (if x.kind=4 then dZ (F 3) x.pred else 0))=_
    rw[av k]
  .refine .inl ⟨?_,hno ah (λs hc=>by omega)⟩
   rw[<-hu];show A (N Z (if x.kind=4 then dZ (F 3) x.pred else 0))=A (N Z x.pred);rw[au k,b3 k]
 .exact .inl ⟨hu,hno ah (λs hc=>by omega)⟩
end
theorem FP {α:Type}{enc:α->H Value}{k:O}{X:V}{B:O}{T:TypeId}{a:Option P}{n c:O}{xs:H α}(ho:Own X B T k enc (J a n c) xs){g:O}(hg:(Value.slice a n c).ownBlock=A g):a=A ⟨g,0,I⟩:=by
 rcases ho.xX with⟨ha,_⟩|⟨g',ha,_⟩
 .rw[ha] at hg;cases hg
 .rw[ha] at hg ⊢;injection hg with hg;subst hg;rfl
theorem sS {g q:O}{s u:U}{r:O}(e:((s,(⟨g,q,I⟩:P)):U × P)=(u,(⟨g,0+r,I⟩:P))):q=r/\s=u:=by
 injection e with e1 e2;injection e2 with _ e2 _;exact⟨by omega,e1⟩
section
variable {X Y:V}{B:O}{h:HC}{es:H EvC}{ds:H aM}{ms:H aN}{qs:H Wa}{scan:EvC->H Sn}{dn:aM->H U}{mn:aN->H U}{F:U->H U}
theorem Lay.agl (l:Lay X B h es ds ms qs scan dn mn)(hM:Moved X Y F (aT h es ds ms qs scan dn mn)):Own Y B 79 2 fB h.d.v (ds.map (orR F)):=by
 refine l.od.moved (hc:=rC) hM (by rw[bH]) (λg hg i x y j u hx hy hu=>?_);have ha:=FP (show Own X B 79 2 fB (J h.d.a h.d.n h.d.c) ds from l.od) hg;have ht:Ty X g 79:=l.od.tag hg;rw[ug,hx] at hy;injection hy with hy;subst hy;have hj2:j<2:=by have:=(bO.1 hu).1;simpa[fB] using this
 rcases(by omega:j=0\/j=1) with rfl|rfl
 .refine .inr ⟨2,x.obj,acV ((fU ds 0 _).2 ⟨i,x,hx,.inl ?_⟩),?_,rfl⟩
  .rw[ha,bA];simp[SB,nX]
  .injection hu with hu;exact hu.symm
 .refine .inl ⟨hu,λs hp=>?_⟩
  rcases l.which hp with⟨t,_⟩|⟨t,_⟩|⟨_,i',e,he,hh⟩|⟨t,_⟩|⟨t,_⟩|⟨t,_⟩
  .exact ht.no t aj
  .exact ht.no t aj
  .rw[ha] at hh
   have:=sS (bT.1 hh);omega
  .exact ht.no t aj
  .exact ht.no t aj
  .exact ht.no t aj
theorem Lay.agm (l:Lay X B h es ds ms qs scan dn mn)(hM:Moved X Y F (aT h es ds ms qs scan dn mn)):Own Y B 84 4 fD h.m.v (ms.map (maR F)):=by
 refine l.om.moved (hc:=rD) hM (by rw[bH]) (λg hg i x y j u hx hy hu=>?_);have ha:=FP (show Own X B 84 4 fD (J h.m.a h.m.n h.m.c) ms from l.om) hg;have ht:Ty X g 84:=l.om.tag hg;rw[ug,hx] at hy;injection hy with hy;subst hy;have Mk:j<4:=by have:=(bO.1 hu).1;simpa[fD] using this
 have hno:∀{j},j<4->2<=j->∀s,(s,(⟨g,i*4+j,I⟩:P))∉aT h es ds ms qs scan dn mn:=λhj h2 s hp=>by
  rcases l.which hp with⟨t,_⟩|⟨t,_⟩|⟨t,_⟩|⟨_,i',e,he,hh⟩|⟨t,_⟩|⟨t,_⟩
  .exact ht.no t aj
  .exact ht.no t aj
  .exact ht.no t aj
  .rw[ha] at hh
   rcases dU.1 hh with hh|hh
   .have:=sS hh;omega
   .have:=sS (bT.1 hh);omega
  .exact ht.no t aj
  .exact ht.no t aj
 rcases(by omega:j=0\/j=1\/j=2\/j=3) with rfl|rfl|rfl|rfl
 .refine .inr ⟨3,x.pred,Uy ((fU ms 0 _).2 ⟨i,x,hx,.inl ?_⟩),?_,rfl⟩
  .rw[ha,bA];simp[OW,nX]
  .injection hu with hu;exact hu.symm
 .refine .inr ⟨2,x.obj,Uy ((fU ms 0 _).2 ⟨i,x,hx,.inl ?_⟩),?_,rfl⟩
  .rw[ha,bA];simp[OW,nX]
  .injection hu with hu;exact hu.symm
 .exact .inl ⟨hu,hno ah ah⟩
 .exact .inl ⟨hu,hno ah ah⟩
theorem Lay.agn (l:Lay X B h es ds ms qs scan dn mn)(hM:Moved X Y F (aT h es ds ms qs scan dn mn)):Own Y B 88 2 gH h.w.v (qs.map (waR F)):=by
 refine l.oq.moved (hc:=sQ) hM (by rw[bH]) (λg hg i x y j u hx hy hu=>?_);have ha:=FP (show Own X B 88 2 gH (J h.w.a h.w.n h.w.c) qs from l.oq) hg;have ht:Ty X g 88:=l.oq.tag hg;rw[ug,hx] at hy;injection hy with hy;subst hy;have hj2:j<2:=by have:=(bO.1 hu).1;simpa[gH] using this
 rcases(by omega:j=0\/j=1) with rfl|rfl
 .refine .inr ⟨1,x.bW,akh ((fU qs 0 _).2 ⟨i,x,hx,.inl ?_⟩),?_,rfl⟩
  .rw[ha,bA];simp[SC,nX]
  .injection hu with hu;exact hu.symm
 .refine .inl ⟨hu,λs hp=>?_⟩
  rcases l.which hp with⟨t,_⟩|⟨t,_⟩|⟨t,_⟩|⟨t,_⟩|⟨_,i',e,he,hh⟩|⟨t,_⟩
  .exact ht.no t aj
  .exact ht.no t aj
  .exact ht.no t aj
  .exact ht.no t aj
  .rw[ha] at hh
   have:=sS (bT.1 hh);omega
  .exact ht.no t aj
theorem Lay.agp (l:Lay X B h es ds ms qs scan dn mn)(hM:Moved X Y F (aT h es ds ms qs scan dn mn)){e:EvC}(he:e∈es):Own Y B 98 3 dV e.val ((scan e).map (Cb F)):=by
 refine(l.se e he).moved (hc:=pJ) hM (by rw[bH]) (λg hg i x y j u hx hy hu=>?_);have ha:=FP (show Own X B 98 3 dV (J e.sa e.sn e.sc) (scan e) from l.se e he) hg;have ht:Ty X g 98:=(l.se e he).tag hg;rw[ug,hx] at hy;injection hy with hy;subst hy;have hj3:j<3:=by have:=(bO.1 hu).1;simpa[dV] using this
 have hin:∀{p},p∈OX (A ⟨g,0,I⟩) i x->p∈aT h es ds ms qs scan dn mn:=λhp=>by
  obtain⟨q,hq⟩:=zi.1 he;refine acU ((fU es 0 _).2 ⟨q,e,hq,.inr ?_⟩);rw[ha];exact(fU (scan e) 0 _).2 ⟨i,x,hx,.inl (by rw[bA];exact hp)⟩
 have hno:∀{j s},j<3->(s,(⟨g,i*3+j,I⟩:P))∈aT h es ds ms qs scan dn mn->(s,(⟨g,i*3+j,I⟩:P))∈OX (A ⟨g,0,I⟩) i x:=fun {j s} hj hp=>by
  rcases l.which hp with⟨t,_⟩|⟨_,e',he',hb',hh⟩|⟨t,_⟩|⟨t,_⟩|⟨t,_⟩|⟨t,_⟩
  .exact(ht.no t aj).elim
  .obtain rfl:=SF (val:=EvC.val) l.pe he he' hg hb'
   rw[ha] at hh;obtain⟨q,z,hz,hh⟩:=(fU (scan e) 0 _).1 hh;rcases hh with hh|hh
   .rw[bA] at hh
    have:=((OQ (b:=g) q z).2 _ hh).2;simp only at this;obtain rfl:q=i:=by omega
    rw[hx] at hz;injection hz with hz;subst hz;exact hh
   .cases hh
  .exact(ht.no t aj).elim
  .exact(ht.no t aj).elim
  .exact(ht.no t aj).elim
  .exact(ht.no t aj).elim
 rcases(by omega:j=0\/j=1\/j=2) with rfl|rfl|rfl
 .refine .inr ⟨2,x.obj,hin (by simp[OX,nX]),?_,rfl⟩
  injection hu with hu;exact hu.symm
 .by_cases hk:0<x.v.k
  .refine .inr ⟨0,x.v.t,hin (eD _ (rF.2 ⟨by simp[nX],hk⟩)),?_,?_⟩
   .injection hu with hu;exact hu.symm
   .show A (N Z (lS F x.v).t)=_
    unfold lS;rw[av hk]
  .refine .inl ⟨?_,λs hp=>?_⟩
   .rw[<-hu]
    show A (N Z (lS F x.v).t)=A (N Z x.v.t);unfold lS;rw[au hk]
   .rcases dU.1 (hno ah hp) with hh|hh
    .have:=sS hh;omega
    .exact hk (rF.1 hh).2
 .refine .inl ⟨?_,λs hp=>?_⟩
  .rw[<-hu]
   show A (N Z (lS F x.v).k)=A (N Z x.v.k);unfold lS
   split <;> rfl
  .rcases dU.1 (hno ah hp) with hh|hh
   .have:=sS hh;omega
   .have:=sS (rF.1 hh).1;omega
theorem Lay.Xd (l:Lay X B h es ds ms qs scan dn mn)(hM:Moved X Y F (aT h es ds ms qs scan dn mn)){a:Option P}{n c:O}{L:H U}(ho:Own X B 3 1 aX (J a n c) L)(hin:∀p∈nO a 0 L,p∈aT h es ds ms qs scan dn mn):Own Y B 3 1 aX (J a n c) (L.map (dZ (F 0))):=by
 refine ho.moved (hc:=iP) hM (by rw[bH]) (λg hg i x y j u hx hy hu=>?_);have ha:=FP ho hg;rw[ug,hx] at hy;injection hy with hy;subst hy;have hj1:j<1:=by have:=(bO.1 hu).1;simpa[aX] using this
 obtain rfl:j=0:=by omega
 refine .inr ⟨0,x,hin _ ?_,?_,rfl⟩
 .rw[ha]
  exact(fU L 0 _).2 ⟨i,x,hx,.inl (by simp[hdI,nX])⟩
 .injection hu with hu;exact hu.symm
theorem Lay.agq (l:Lay X B h es ds ms qs scan dn mn)(hM:Moved X Y F (aT h es ds ms qs scan dn mn)){x:aM}(hx:x∈ds):Own Y B 3 1 aX x.val ((dn x).map (dZ (F 0))):=
 l.Xd hM (l.sd x hx) (λp hp=>(let⟨q,hq⟩:=zi.1 hx;acV ((fU ds 0 _).2 ⟨q,x,hq,.inr hp⟩)))
theorem Lay.agr (l:Lay X B h es ds ms qs scan dn mn)(hM:Moved X Y F (aT h es ds ms qs scan dn mn)){x:aN}(hx:x∈ms):Own Y B 3 1 aX x.val ((mn x).map (dZ (F 0))):=
 l.Xd hM (l.sm x hx) (λp hp=>(let⟨q,hq⟩:=zi.1 hx;Uy ((fU ms 0 _).2 ⟨q,x,hq,.inr hp⟩)))
theorem Lay.aki (l:Lay X B h es ds ms qs scan dn mn){b o k j:O}(ha:h.e.a=A ⟨b,o,I⟩)(hj:j=0\/j=6\/j=8)(s:U):(s,(⟨b,o+k*9+j,I⟩:P))∉aT h es ds ms qs scan dn mn:=λhp=>by
 rcases(show Own X B 50 9 eB (J h.e.a h.e.n h.e.c) es from l.oe).xX with⟨q,_⟩|⟨g,q,_⟩
 .rw[ha] at q;cases q
 .rw[ha] at q
  injection q with q;injection q with q1 q2;subst q1 q2;rw[bA] at hp;obtain⟨e,_,hc⟩:=l.acW ha ah hp;omega
theorem Lay.akj (l:Lay X B h es ds ms qs scan dn mn){b o k:O}(ha:h.d.a=A ⟨b,o,I⟩)(s:U):(s,(⟨b,o+k*2+1,I⟩:P))∉aT h es ds ms qs scan dn mn:=λhp=>by
 have ho:Own X B 79 2 fB (J h.d.a h.d.n h.d.c) ds:=l.od;rcases ho.xX with⟨q,_⟩|⟨g,q,_⟩
 .rw[ha] at q;cases q
 .rw[ha] at q
  injection q with q;injection q with q1 q2;subst q1 q2;have ht:Ty X b 79:=l.od.tag (by show(Value.slice h.d.a h.d.n h.d.c).ownBlock=A b;rw[ha];rfl);rcases l.which hp with⟨t,_⟩|⟨t,_⟩|⟨_,i',e,he,hh⟩|⟨t,_⟩|⟨t,_⟩|⟨t,_⟩
  .exact ht.no t aj
  .exact ht.no t aj
  .rw[ha] at hh
   have:=sS (bT.1 hh);omega
  .exact ht.no t aj
  .exact ht.no t aj
  .exact ht.no t aj
theorem Lay.akk (l:Lay X B h es ds ms qs scan dn mn){b o k:O}(ha:h.m.a=A ⟨b,o,I⟩)(s:U):(s,(⟨b,o+k*4+3,I⟩:P))∉aT h es ds ms qs scan dn mn:=λhp=>by
 have ho:Own X B 84 4 fD (J h.m.a h.m.n h.m.c) ms:=l.om;rcases ho.xX with⟨q,_⟩|⟨g,q,_⟩
 .rw[ha] at q;cases q
 .rw[ha] at q
  injection q with q;injection q with q1 q2;subst q1 q2;have ht:Ty X b 84:=l.om.tag (by show(Value.slice h.m.a h.m.n h.m.c).ownBlock=A b;rw[ha];rfl);rcases l.which hp with⟨t,_⟩|⟨t,_⟩|⟨t,_⟩|⟨_,i',e,he,hh⟩|⟨t,_⟩|⟨t,_⟩
  .exact ht.no t aj
  .exact ht.no t aj
  .exact ht.no t aj
  .rw[ha] at hh
   rcases dU.1 hh with hh|hh
   .have:=sS hh;omega
   .have:=sS (bT.1 hh);omega
  .exact ht.no t aj
  .exact ht.no t aj
theorem Lay.jh (l:Lay X B h es ds ms qs scan dn mn){e:EvC}(he:e∈es){b o k:O}(ha:e.sa=A ⟨b,o,I⟩)(s:U):(s,(⟨b,o+k*3+2,I⟩:P))∉aT h es ds ms qs scan dn mn:=λhp=>by
 have ho:Own X B 98 3 dV (J e.sa e.sn e.sc) (scan e):=l.se e he;rcases ho.xX with⟨q,_⟩|⟨g,q,_⟩
 .rw[ha] at q;cases q
 .rw[ha] at q
  injection q with q;injection q with q1 q2;subst q1 q2;have hg:e.val.ownBlock=A b:=by show(Value.slice e.sa e.sn e.sc).ownBlock=A b;rw[ha];rfl
  have ht:Ty X b 98:=(l.se e he).tag hg;rcases l.which hp with⟨t,_⟩|⟨_,e',he',hb',hh⟩|⟨t,_⟩|⟨t,_⟩|⟨t,_⟩|⟨t,_⟩
  .exact ht.no t aj
  .obtain rfl:=SF (val:=EvC.val) l.pe he he' hg hb'
   rw[ha] at hh;obtain⟨q,z,hz,hh⟩:=(fU (scan e) 0 _).1 hh;rcases hh with hh|hh
   .rw[bA] at hh
    rcases dU.1 hh with hh|hh
    .have:=sS hh;omega
    .have:=sS (rF.1 hh).1;omega
   .cases hh
  .exact ht.no t aj
  .exact ht.no t aj
  .exact ht.no t aj
  .exact ht.no t aj
end
end Yd
namespace Yd
open Option renaming none->J,some->S
open Go Go.RowKit Go.Proofs Go.Maps Tryz
open Go renaming World->R,Addr->U
open Go.IntKind renaming i64->Z
open Go.Value renaming slice->H
open _root_ renaming List->G,Int->I,Nat->O
section
variable {P:Program}{k e T:TypeId}{W W':R}{b n:O}{f:I->I->Option I}
theorem nP.ags (h:nP P k e W b n f)(K:WideMaps.KeyLaw P k)(hT:P.underlying T=S (.map k e))(he:P.underlying e=S (.int Z))(hz:(zeroValue e).run P W= .ok (.int Z 0) W){t x:I}{kl:Lit}(hk:keyOf P k (oG t x)=S kl):
  (Instr.lookup T (.map (S b)) (oG t x) true).run P W= .ok (.tuple #[.int Z ((f t x).getD 0),.bool (f t x).isSome]) W:=by
 obtain⟨D,hD,⟨es,clock,hb,F,hs,hd⟩,hat⟩:=h;obtain⟨h1,h2⟩:=hat t x kl hk;rcases Maps.fit_look true (Keyed.of_law K) hT hz hb F hk with⟨hrun,_,hno⟩|⟨e0,y,_,_,hrun,hRv,hy,_⟩
 .have e1:=hno (.lit (.int Z 0))
  rw[<-hd] at e1;rw[e1] at h1;injection h1 with h1;injection h1 with _ h1;have e2:=has_false_of_atKey (D:=D) (k:=kl) (λz=>by rw[hd];exact hno z);rw[h2] at e2;rw[<-h1,e2];exact hrun
 .obtain⟨c,hc1,hc2,_⟩:=plainElem_int_inv he hRv
  have e1:=hy (.lit (.int Z 0));rw[<-hd,h1] at e1;rw[hc2] at e1;injection e1 with e1;injection e1 with _ e1;have e2:=has_true_of_atKey (D:=D) (k:=kl) (λz=>by rw[hd];exact hy z);rw[h2] at e2;rw[e1,e2];rw[hc1] at hrun;exact hrun
end
theorem Xe:114<Tryz.prog.types.size:=xK ay
theorem aes:(match Tryz.prog.underlying 114 with|some (.array _ _)|some (.struct _)=>true|_=>false)=true:=ay
theorem aeu:laidOutB Tryz.prog=true:=ay
theorem akl:Tryz.prog.keyTypeAt 3 114=true:=ay
theorem Xf:WideMaps.KeyLaw Tryz.prog 114:=deep_law_laid aeu (m:=3) ah Xe akl aes
theorem aev:Tryz.prog.keyType 114=true:=ay
theorem OY:Tryz.prog.cellsOf 114=2:=ay
theorem agt:Tryz.prog.cellsOf 3=1:=ay
theorem aew (u:R):(zeroValue 3).run Tryz.prog u= .ok (.int Z 0) u:=ay
theorem aex (t x:I)(h1:(Lit.int Z t).wf=true)(h2:(Lit.int Z x).wf=true)(n:O):Tryz.prog.keyLits (n+2) 114 [.int Z t,.int Z x]=S [.int .i64 t,.int .i64 x]:=by
 have e1:Tryz.prog.keyLits (n+1) 3 [.int Z t]=S [.int .i64 t]:=by
  unfold Program.keyLits;rw[underlying3];simp[h1]
 have e2:Tryz.prog.keyLits (n+1) 3 [.int Z x]=S [.int .i64 x]:=by
  unfold Program.keyLits;rw[underlying3];simp[h2]
 unfold Program.keyLits;rw[underlying114];simp[OY,agt,List.mapM_cons,List.range,List.range.loop,e1,e2]
theorem Xg {t x:I}(h1:(Lit.int Z t).wf=true)(h2:(Lit.int Z x).wf=true):keyOf Tryz.prog 114 (oG t x)=S (.string (keyBytes [.int .i64 t,.int .i64 x])):=by
 have hs:Tryz.prog.types.size+1=(Tryz.prog.types.size - 1)+2:=by have:=Xe;omega
 unfold keyOf;rw[underlying114];simp only[aev,hs];rw[av (by simp[Value.formed,underlying114,OY])];rw[show(oG t x).cells.toList=[.int Z t,.int Z x] from rfl,aex t x h1 h2]
 rfl
def EY (vs:G (I × I))(s n:I):Option I:=if n∈cu vs s then S ((cu vs s).idxOf n:I) else J
def CU (vs:G (I × I)):O:=(cu vs 0).length+(cu vs 1).length+(cu vs 2).length+(cu vs 3).length
@[reducible] def xu (m:O->Sl):Array Value:=#[(m 0).v,(m 1).v,(m 2).v,(m 3).v]
theorem sF (m:O->Sl){s:O}(hs:s<4):(xu m)[s]?=S (m s).v:=by
 match s,hs with
 |0,_=>rfl
 |1,_=>rfl
 |2,_=>rfl
 |3,_=>rfl
theorem Bx.akm {X:R}{b:O}{m:O->Sl}(h:Bx X b (xu m)){s:O}(hs:s<4)(v:Sl):Bx (X.setCell ⟨b,s,J⟩ v.v) b (xu λi=>if i=s then v else m i):=by
 refine⟨λi=>?_,λi=>by rw[World.frozen?_setCell];exact h.2.1 i,by have:=h.2.2;simpa[World.setCell] using this⟩;by_cases hi:i=s
 .subst hi
  rw[World.cell?_setCell_same' _ _ _ (by rw[h.1 i,sF m hs];rfl),sF _ hs,av rfl]
 .rw[World.cell?_setCell_other _ _ _ _ (λe=>by cases e;exact hi rfl),h.1 i]
  rcases gP i 4 with h4|h4
  .rw[sF m h4,sF _ h4,au hi]
  .rw[Ef (by simpa using h4),Ef (by simpa using h4)]
theorem FQ {vs:G (I × I)}{s n:I}(h:n∈cu vs s):cu (vs++[(s,n)])=cu vs:=by
 funext t
 rw[lQ];by_cases e:s=t
 .subst e
  rw[av rfl];unfold ny;rw[av h]
 .rw[au e]
theorem yM {vs:G (I × I)}{s n:I}(h:n∉cu vs s)(t:I):cu (vs++[(s,n)]) t=if s=t then cu vs t++[n] else cu vs t:=by
 rw[lQ];by_cases e:s=t
 .subst e
  rw[av rfl,av rfl];unfold ny;rw[au h]
 .rw[au e,au e]
theorem aey {vs:G (I × I)}{s n:I}(h:n∉cu vs s):EY (vs++[(s,n)])=λt x=>if t=s/\x=n then S ((cu vs s).length:I) else EY vs t x:=by
 funext t x
 unfold EY;rw[yM h];by_cases e:s=t
 .subst e
  rw[av rfl];by_cases hx:x=n
  .subst hx
   have h1:x∈cu vs s++[x]:=by simp
   have h2:(cu vs s++[x]).idxOf x=(cu vs s).length:=by rw[List.idxOf_append,au h];simp
   simp only[h1,h2,and_self,bY]
  .have h3:¬(s=s/\x=n):=λq=>hx q.2
   by_cases hm:x∈cu vs s
   .have h1:x∈cu vs s++[n]:=iJ _ hm
    have h2:(cu vs s++[n]).idxOf x=(cu vs s).idxOf x:=by rw[List.idxOf_append,av hm]
    rw[av h1,h2];refine Eq.trans ?_ (au h3).symm;rw[av hm]
   .have h1:¬x∈cu vs s++[n]:=λq=>by
     rcases dm.1 q with q|q
     .exact hm q
     .exact hx (bT.1 q)
    rw[au h1];refine Eq.trans ?_ (au h3).symm;rw[au hm]
 .have h3:¬(t=s/\x=n):=λq=>e q.1.symm
  simp only[au e,au h3]
theorem pK (a:Option U)(q:O):∃g o,nX a q=(⟨g,o,J⟩:U):=by
 cases a with
 |none=>exact⟨0,0,rfl⟩
 |some x=>exact⟨_,_,rfl⟩
def qA (l:G (I × U)):Prop:=∀p∈l,∃g o,p.2=(⟨g,o,J⟩:U)
theorem qA.gr {α:Type}{hd:O->α->G (I × U)}{sub:α->G (I × U)}{xs:G α}(h1:∀i x,qA (hd i x))(h2:∀x,qA (sub x)):qA (gr hd sub 0 xs):=λp hp=>by
 obtain⟨j,x,_,hp⟩:=(fU xs 0 p).1 hp;rcases hp with hp|hp
 .exact h1 _ _ p hp
 .exact h2 _ p hp
theorem qA.nil:qA []:=λp hp=>by cases hp
theorem qA.dz (a:Option U)(q:O)(v:lK):qA (kr (nX a q) v):=λp hp=>by
 rw[(rF.1 hp).1];exact pK a q
theorem qA.sn (a:Option U)(l:G Sn):qA (rE a 0 l):=qA.gr (λi x p hp=>by
 rcases dU.1 hp with rfl|hp
 .exact pK a _
 .exact qA.dz a _ _ p hp) (λ_=>qA.nil)
theorem qA.ints (a:Option U)(l:G I):qA (nO a 0 l):=qA.gr (λi x p hp=>by
 rw[bT.1 hp];exact pK a _) (λ_=>qA.nil)
theorem qA.all (h:HC)(es:G EvC)(ds:G aM)(ms:G aN)(qs:G Wa)(scan:EvC->G Sn)(dn:aM->G I)(mn:aN->G I):qA (aT h es ds ms qs scan dn mn):=λp hp=>by
 unfold aT at hp;rcases dm.1 hp with hp|hp
 .refine qA.gr (λi x p hp=>?_) (λx=>qA.sn _ _) p hp
  unfold vI at hp;rcases dU.1 hp with rfl|hp
  .exact pK _ _
  .split at hp
   .rw[bT.1 hp];exact pK _ _
   .split at hp
    .rcases dU.1 hp with rfl|hp
     .exact pK _ _
     .exact qA.dz _ _ _ p hp
    .split at hp
     .rw[bT.1 hp];exact pK _ _
     .cases hp
 .rcases dm.1 hp with hp|hp
  .exact qA.gr (λi x p hp=>by rw[bT.1 hp];exact pK _ _) (λx=>qA.ints _ _) p hp
  .rcases dm.1 hp with hp|hp
   .exact qA.gr (λi x p hp=>by
     rcases dU.1 hp with rfl|hp
     .exact pK _ _
     .rw[bT.1 hp];exact pK _ _) (λx=>qA.ints _ _) p hp
   .exact qA.gr (λi x p hp=>by rw[bT.1 hp];exact pK _ _) (λ_=>qA.nil) p hp
theorem Own.agu {α:Type}{enc:α->G Value}{k:O}{X:R}{B:O}{T:TypeId}{v:Value}{xs:G α}(h:Own X B T k enc v xs){g:O}(hv:v.ownBlock=S g):∃cs,X.1[g]?=S (.cells cs T (0,0)):=by
 obtain⟨_,h2⟩:=h;rcases h2 with⟨he,_⟩|⟨g',cap,cur,he,_,hh,_⟩
 .rw[he] at hv;cases hv
 .rw[he] at hv
  injection hv with hv;rw[<-hv];exact⟨cur,hh⟩
def FR (X:R)(g:O):Prop:=∃cs T,X.1[g]?=S (.cells cs T (0,0))
theorem FR.frozen {X:R}{g j:O}(h:FR X g):X.frozen? ⟨g,j,J⟩=false:=by
 obtain⟨cs,T,h⟩:=h;unfold World.frozen?;simp[h]
theorem Lay.soft {X:R}{B:O}{h:HC}{es:G EvC}{ds:G aM}{ms:G aN}{qs:G Wa}{scan:EvC->G Sn}{dn:aM->G I}{mn:aN->G I}(l:Lay X B h es ds ms qs scan dn mn){p:I × U}(hp:p∈aT h es ds ms qs scan dn mn):FR X p.2.block/\B<=p.2.block:=by
 have of:∀{α:Type}{enc:α->G Value}{k:O}{T:TypeId}{a:Option U}{n c:O}{xs:G α},Own X B T k enc (H a n c) xs->a.map Addr.block=S p.2.block->FR X p.2.block/\B<=p.2.block:=λho ha=>by
  rcases ho.xX with⟨q,_⟩|⟨g,q,_,_,hB⟩
  .rw[q] at ha;cases ha
  .rw[q] at ha
   injection ha with ha;have ha:g=p.2.block:=ha;obtain⟨cs,e⟩:=ho.agu (g:=g) (by rw[q];rfl);rw[ha] at e hB;exact⟨⟨cs,_,e⟩,hB⟩
 have ofv:∀{α:Type}{enc:α->G Value}{k:O}{T:TypeId}{v:Value}{xs:G α},Own X B T k enc v xs->v.ownBlock=S p.2.block->FR X p.2.block/\B<=p.2.block:=λho ha=>(let⟨cs,e⟩:=ho.agu ha;⟨⟨cs,_,e⟩,(ho.lt _ ha).1⟩)
 have ad:∀{a:Option U}{q:O},p.2=nX a q->a≠J->a.map Addr.block=S p.2.block:=λe hn=>by
  rename_i a q
  cases a with
  |none=>exact absurd rfl hn
  |some x=>rw[e];rfl
 have ne:∀{α:Type}{enc:α->G Value}{k:O}{T:TypeId}{a:Option U}{n c:O}{xs:G α}{i:O}{x:α},Own X B T k enc (H a n c) xs->xs[i]?=S x->a≠J:=λho hx e=>by
  rcases ho.xX with⟨_,q⟩|⟨g,q,_⟩
  .rw[q] at hx;cases hx
  .rw[e] at q;cases q
 rcases l.which hp with⟨t,i,e,he,hh⟩|⟨t,e,he,hb,_⟩|⟨t,i,x,hx,hh⟩|⟨t,i,x,hx,hh⟩|⟨t,i,x,hx,hh⟩|⟨t,⟨x,hx,hb,_⟩|⟨x,hx,hb,_⟩⟩
 .have hn:=ne (show Own X B 50 9 eB (H h.e.a h.e.n h.e.c) es from l.oe) he
  refine of (show Own X B 50 9 eB (H h.e.a h.e.n h.e.c) es from l.oe) ?_
  cases ha:h.e.a with
  |none=>exact absurd ha hn
  |some x=>
   rcases(show Own X B 50 9 eB (H h.e.a h.e.n h.e.c) es from l.oe).xX with⟨q,_⟩|⟨g,q,_⟩
   .exact absurd q hn
   .rw[ha] at q
    injection q with q;subst q;rw[ha] at hh;exact bU S ((OV (b:=g) i e).2 p hh).1.symm
 .exact ofv (l.se e he) hb
 .rw[bT.1 hh] at ad
  exact of (show Own X B 79 2 fB (H h.d.a h.d.n h.d.c) ds from l.od) (by rw[bT.1 hh];exact ad rfl (ne (show Own X B 79 2 fB (H h.d.a h.d.n h.d.c) ds from l.od) hx))
 .refine of (show Own X B 84 4 fD (H h.m.a h.m.n h.m.c) ms from l.om) ?_
  have hn:=ne (show Own X B 84 4 fD (H h.m.a h.m.n h.m.c) ms from l.om) hx;rcases dU.1 hh with hh|hh
  .exact ad (by rw[hh]) hn
  .exact ad (by rw[bT.1 hh]) hn
 .exact of (show Own X B 88 2 gH (H h.w.a h.w.n h.w.c) qs from l.oq) (ad (by rw[bT.1 hh]) (ne (show Own X B 88 2 gH (H h.w.a h.w.n h.w.c) qs from l.oq) hx))
 .exact ofv (l.sd x hx) hb
 .exact ofv (l.sm x hx) hb
theorem Moved.soft {w0 X:R}{F:I->G I}{pre:G (I × U)}(h:Moved w0 X F pre){g:O}(hs:FR w0 g):FR X g:=by
 obtain⟨cs,T,e⟩:=hs;obtain⟨cs',e',_⟩:=h g cs T _ e;exact⟨cs',T,e'⟩
theorem Rv {X Y:R}{B B':O}{h:HC}{es:G EvC}{ds:G aM}{ms:G aN}{qs:G Wa}{scan:EvC->G Sn}{dn:aM->G I}{mn:aN->G I}{F:I->G I}(l:Lay X B h es ds ms qs scan dn mn){pre:G (I × U)}(hsub:∀p∈pre,p∈aT h es ds ms qs scan dn mn)(hM:Moved X Y F pre){v:Value}{L:G Bs}(ho:Own X B' 9 1 encStr v L):Own Y B' 9 1 encStr v L:=by
 refine ho.moved (hc:=ku) hM rfl (λg hg i x y j u hx hy hu=> .inl ⟨?_,λs hp=>?_⟩)
 .rw[hx] at hy;injection hy with hy;rw[<-hy];exact hu
 .have ht:Ty X g 9:=ho.tag hg
  rcases l.which (hsub _ hp) with⟨t,_⟩|⟨t,_⟩|⟨t,_⟩|⟨t,_⟩|⟨t,_⟩|⟨t,_⟩ <;> exact ht.no t aj
def lW (w3:R)(pre:G (I × U)):G (I × I):=pre.map (iF w3)
def Xh (sl:O->Sl):Prop:=∀q q',q<4->q'<4->q≠q'->∀g,(sl q).v.ownBlock=S g->(sl q').v.ownBlock≠S g
structure NI (w w3:R)(N ws wa bm mo:O)(h:HC)(nl:O->G Bs)(F:I->G I)(xs pre:G (I × U))(X:R):Prop where
 sub:∀p∈pre,p∈xs
 b:Below w.1.size w X
 m:Moved w3 X F pre
 bx:Bx X w.1.size (aD h)
 r:Bx X (w.1.size+1) #[H J 0 0,H J 0 0,H J 0 0,H J 0 0,H J 0 0,H J 0 0,H J 0 0,H J 0 0]
 ws:Bx X ws #[h.t.v,h.s.v,h.o.v,h.p.v]
 wa:∃sl:O->Sl,Bx X wa (xu sl)/\(∀s,s<4->Own X N 9 1 encStr (sl s).v ((cu (lW w3 pre) (s:I)).map (aK (nl s))))/\Xh sl
 mv:Bx X bm #[.map (S mo)]
 mp:nP Tryz.prog 114 3 X mo (CU (lW w3 pre)) (EY (lW w3 pre))
theorem NI.same {w w3:R}{N ws wa bm mo V:O}{h:HC}{nl:O->G Bs}{F:I->G I}{xs pre:G (I × U)}{X Y:R}(i:NI w w3 N ws wa bm mo h nl F xs pre X)(hs:Same (λi=>i<V\/V+5<=i) X Y)(hN:V+5<=N)(h3:w3.1.size<=V)(hw:w.1.size+1<V)(h1:ws<V)(h2:wa<V)(h4:bm<V)(h5:mo<V):NI w w3 N ws wa bm mo h nl F xs pre Y:=
 ⟨i.sub,hs.below i.b (λq hq=> .inl ah) i.b.size,i.m.same (hs.mono (λq hq _=> .inl ah)),hs.bx i.bx (.inl ah),hs.bx i.r (.inl ah),hs.bx i.ws (.inl h1),
 (let⟨sl,a1,a2,a3⟩:=i.wa;⟨sl,hs.bx a1 (.inl h2),λs hs4=>(a2 s hs4).same hs (λg hg=> .inr (by have:=((a2 s hs4).lt g hg).1;omega)),a3⟩),hs.bx i.mv (.inl h4),i.mp.of_eq (hs.block mo (.inl h5) i.mp.lt)⟩
theorem NI.fin {w w3:R}{N ws wa bm mo:O}{h:HC}{nl:O->G Bs}{F:I->G I}{xs pre:G (I × U)}{Y:R}{s:I}{b o:O}{n v:I}(hsub:∀p∈pre++[(s,(⟨b,o,J⟩:U))],p∈xs)(hb:Below w.1.size w Y)(hm:Moved w3 Y F pre)(hbx:Bx Y w.1.size (aD h))
  (hr:Bx Y (w.1.size+1) #[H J 0 0,H J 0 0,H J 0 0,H J 0 0,H J 0 0,H J 0 0,H J 0 0,H J 0 0]) (hws:Bx Y ws #[h.t.v,h.s.v,h.o.v,h.p.v])
  (vF:∃sl:O->Sl,Bx Y wa (xu sl)/\(∀q,q<4->Own Y N 9 1 encStr (sl q).v ((cu (lW w3 (pre++[(s,(⟨b,o,J⟩:U))])) (q:I)).map (aK (nl q))))/\Xh sl) (hmv:Bx Y bm #[.map (S mo)])
  (hmp:nP Tryz.prog 114 3 Y mo (CU (lW w3 (pre++[(s,(⟨b,o,J⟩:U))]))) (EY (lW w3 (pre++[(s,(⟨b,o,J⟩:U))]))))
  (hnot:∀s',(s',(⟨b,o,J⟩:U))∉pre) (hn0:w3.cell? ⟨b,o,J⟩=S (.int Z n)) (hv:v=dZ (F s) n) (hlo:w.1.size+1<b) (anA:b≠ws) (anB:b≠wa) (anC:b≠bm) (anD:b≠mo) (hN:b<N):
  NI w w3 N ws wa bm mo h nl F xs (pre++[(s,(⟨b,o,J⟩:U))]) (Y.setCell ⟨b,o,J⟩ (.int Z v)):=by
 have hs:Same (λi=>i≠b) Y (Y.setCell ⟨b,o,J⟩ (.int Z v)):=(Same.refl' Y).setTail (λh=>h rfl);exact⟨hsub,hb.setCell (p:=⟨b,o,J⟩) (by show _<=b;omega) _,hm.step hnot hn0 hv,hs.bx hbx ah,hs.bx hr ah,hs.bx hws anA.symm,(let⟨sl,a1,a2,a3⟩:=vF;⟨sl,hs.bx a1 anB.symm,λq hq=>(a2 q hq).same hs (λg hg e=>by have:=((a2 q hq).lt g hg).1;omega),a3⟩),hs.bx hmv anC.symm,hmp.of_eq (hs.block mo anD.symm hmp.lt)⟩
theorem Same.bP {A:O->Prop}{X Y:R}{b o:O}{v:Value}(s:Same A X Y)(h:X.cell? ⟨b,o,J⟩=S v)(ha:A b):Y.cell? ⟨b,o,J⟩=S v:=
 (World.cell?_of_block (a:=⟨b,o,J⟩) (s.block b ha (dR h))).trans h
theorem Xi {vs:G (I × I)}{s n:I}(h:n∈cu vs s):EY (vs++[(s,n)])=EY vs:=by
 funext t x
 unfold EY;rw[FQ h]
theorem Uz {vs:G (I × I)}{s n:I}(h:n∈cu vs s):CU (vs++[(s,n)])=CU vs:=by
 unfold CU;rw[FQ h]
theorem Z7 {vs:G (I × I)}{s:O}{n:I}(hs:s<4)(h:n∉cu vs (s:I)):CU (vs++[((s:I),n)])=CU vs+1:=by
 unfold CU;rw[yM h,yM h,yM h,yM h];rcases(by omega:s=0\/s=1\/s=2\/s=3) with rfl|rfl|rfl|rfl
 .rw[av aj,au aj,au aj,au aj,bL];simp;omega
 .rw[au aj,av aj,au aj,au aj,bL];simp;omega
 .rw[au aj,au aj,av aj,au aj,bL];simp;omega
 .rw[au aj,au aj,au aj,av aj,bL];simp;omega
theorem Z8 {α:Type}{pre xs:G α}{x:α}(h:pre++[x]<+:xs):∀p∈pre++[x],p∈xs:=λ_ hp=>h.subset hp
theorem OZ {α β:Type}{Y:R}{B:O}{T:TypeId}{ek:O}{enc:β->G Value}[hc:Cells enc ek](hinj:∀x y,enc x=enc y->x=y){a:α->Option U}{n q:α->O}{r:α->α}(ha:∀x,a (r x)=a x)(hn:∀x,n (r x)=n x)(hq:∀x,q (r x)=q x){xs:G α}{g:α->G β}(h:∀x∈xs,Own Y B T ek enc (H (a x) (n x) (q x)) (g x))(hl:∀x∈xs,(g x).length<=140737488355328):
  ∃f:α->G β,(∀y∈xs.map r,Own Y B T ek enc (H (a y) (n y) (q y)) (f y))/\(xs.map r).map f=xs.map g:=by
 have key:∀x∈xs,Classical.epsilon (λL=>Row Y ek enc (a (r x)) (n (r x)) (q (r x)) L)=g x:=λx hx=>by
  have hr:=(h x hx).row (hc:=hc) (hl x hx);rw[<-ha,<-hn,<-hq] at hr;exact Dq (hc:=hc) hinj hr
 refine⟨λy=>Classical.epsilon (λL=>Row Y ek enc (a y) (n y) (q y) L),λy hy=>?_,?_⟩
 .obtain⟨x,hx,rfl⟩:=dI.1 hy
  show Own Y B T ek enc (H (a (r x)) (n (r x)) (q (r x))) (Classical.epsilon (λL=>Row Y ek enc (a (r x)) (n (r x)) (q (r x)) L));rw[key x hx,ha,hn,hq];exact h x hx
 .rw[iV]
  exact ni (λx hx=>key x hx)
theorem bV {X:R}{b o b' o':O}{v u:Value}(h:X.cell? ⟨b,o,J⟩=S v)(hne:b≠b'):(X.setCell ⟨b',o',J⟩ u).cell? ⟨b,o,J⟩=S v:=
 (World.cell?_of_block (a:=⟨b,o,J⟩) (Below.heap_setCell X ⟨b',o',J⟩ u b hne)).trans h
structure gZ (X:R)(B:O)(h:HC)(c:Cont)(es:G EvC)(ds:G aM)(ms:G aN)(scan:EvC->G Sn)(dn:aM->G I)(mn:aN->G I):Prop where
 oe:Own X B 50 9 eB (H h.e.a h.e.n h.e.c) es
 od:Own X B 79 2 fB (H h.d.a h.d.n h.d.c) ds
 om:Own X B 84 4 fD (H h.m.a h.m.n h.m.c) ms
 oq:Own X B 88 2 gH (H h.w.a h.w.n h.w.c) c.Q
 on:∀i,i<4->Own X B 9 1 encStr (H (h.nm i).a (h.nm i).n (h.nm i).c) (c.nl i)
 se:∀x∈es,Own X B 98 3 dV (H x.sa x.sn x.sc) (scan x)
 sd:∀x∈ds,Own X B 3 1 aX (H x.sa x.sn x.sc) (dn x)
 sm:∀x∈ms,Own X B 3 1 aX (H x.sa x.sn x.sc) (mn x)
 be:es.map EvC.base=c.E
 bd:ds.map aM.base=c.D
 bm:ms.map aN.base=c.M
 ss:es.map scan=c.SE
 ts:ds.map dn=c.SD
 us:ms.map mn=c.SM
structure Ml (c:Cont):Prop where
 e:c.E.length<=2000000
 d:c.D.length<=2000000
 m:c.M.length<=2000000
 q:c.Q.length<=2000000
 n:∀i,i<4->(c.nl i).length<=2000000
 se:∀L∈c.SE,L.length<=2000000
 sd:∀L∈c.SD,L.length<=2000000
 sm:∀L∈c.SM,L.length<=2000000
section
variable {X Y:R}{B:O}{h:HC}{c:Cont}{es:G EvC}{ds:G aM}{ms:G aN}{scan:EvC->G Sn}{dn:aM->G I}{mn:aN->G I}
theorem gZ.imp (o:gZ X B h c es ds ms scan dn mn)(hi:∀{α:Type}{enc:α->G Value}{k:O}{T:TypeId}{v:Value}{xs:G α},Own X B T k enc v xs->Own Y B T k enc v xs):gZ Y B h c es ds ms scan dn mn:=
 ⟨hi o.oe,hi o.od,hi o.om,hi o.oq,λi h=>hi (o.on i h),λx h=>hi (o.se x h),λx h=>hi (o.sd x h),λx h=>hi (o.sm x h),o.be,o.bd,o.bm,o.ss,o.ts,o.us⟩
theorem gZ.same (o:gZ X B h c es ds ms scan dn mn)(s:Same (λi=>B<=i) X Y):gZ Y B h c es ds ms scan dn mn:=o.imp (λho=>ho.same s (λg hg=>(ho.lt g hg).1))
theorem gZ.below (o:gZ X B h c es ds ms scan dn mn)(s:Below X.1.size X Y):gZ Y B h c es ds ms scan dn mn:=o.imp (λho=>ho.below s rfl)
theorem gZ.mono {B':O}(o:gZ X B h c es ds ms scan dn mn)(hB:B'<=B):gZ X B' h c es ds ms scan dn mn:=
 ⟨o.oe.mono hB,o.od.mono hB,o.om.mono hB,o.oq.mono hB,λi h=>(o.on i h).mono hB,λx h=>(o.se x h).mono hB,λx h=>(o.sd x h).mono hB,λx h=>(o.sm x h).mono hB,o.be,o.bd,o.bm,o.ss,o.ts,o.us⟩
theorem gZ.deep (o:gZ X B h c es ds ms scan dn mn)(z:Ml c):Deep X h es ds ms c.Q scan dn mn:=
 ⟨o.oe.row (hc:=rA) (by have:=z.e;rw[<-o.be,bH] at this;omega),o.od.row (hc:=rC) (by have:=z.d;rw[<-o.bd,bH] at this;omega),o.om.row (hc:=rD) (by have:=z.m;rw[<-o.bm,bH] at this;omega),o.oq.row (hc:=sQ) (by have:=z.q;omega),
 λx hx=>(o.se x hx).row (hc:=pJ) (by have:=z.se (scan x) (by rw[<-o.ss];exact oH hx);omega),λx hx=>(o.sd x hx).row (hc:=iP) (by have:=z.sd (dn x) (by rw[<-o.ts];exact oH hx);omega),λx hx=>(o.sm x hx).row (hc:=iP) (by have:=z.sm (mn x) (by rw[<-o.us];exact oH hx);omega)⟩
theorem gZ.names (o:gZ X B h c es ds ms scan dn mn)(z:Ml c):∀i,i<4->Row X 1 encStr (h.nm i).a (h.nm i).n (h.nm i).c (c.nl i):=λi hi=>(o.on i hi).row (hc:=ku) (by have:=z.n i hi;omega)
theorem gZ.bulk (o:gZ X B h c es ds ms scan dn mn)(z:Ml c):NN c.nl es ds ms c.Q scan dn mn:=
 ⟨by have:=z.e;rw[<-o.be,bH] at this;exact this,by have:=z.d;rw[<-o.bd,bH] at this;exact this,by have:=z.m;rw[<-o.bm,bH] at this;exact this,z.q,z.n,λx hx=>z.se _ (by rw[<-o.ss];exact oH hx),λx hx=>z.sd _ (by rw[<-o.ts];exact oH hx),λx hx=>z.sm _ (by rw[<-o.us];exact oH hx)⟩
theorem gZ.cont (o:gZ X B h c es ds ms scan dn mn):c=zK es.length c.nl es ds ms c.Q scan dn mn:=by
 unfold zK;rw[List.take_length,o.be,o.bd,o.bm,o.ss,o.ts,o.us]
end
def UA (w:R)(c:Cont)(e:Ending)(X:R):Prop:=
 ∃h es ds ms,∃scan:EvC->G Sn,∃dn:aM->G I,∃mn:aN->G I,e= .returned (.tuple #[bG h,.int Z 0])/\gZ X w.1.size h c es ds ms scan dn mn/\Below w.1.size w X
theorem Rw {w W3 X Y:R}{B N:O}{h:HC}{es:G EvC}{ds:G aM}{ms:G aN}{C:Cont}{scan:EvC->G Sn}{dn:aM->G I}{mn:aN->G I}{F:I->G I}{sl:O->Sl}(hF:F=cu (aY C))(l:Lay W3 B h es ds ms C.Q scan dn mn)
  (h1:es.map EvC.base=C.E) (h2:ds.map aM.base=C.D) (h3:ms.map aN.base=C.M) (h4:es.map scan=C.SE) (h5:ds.map dn=C.SD) (h6:ms.map mn=C.SM)
  (hM:Moved W3 X F (aT h es ds ms C.Q scan dn mn)) (hb:∀e∈C.E,Hg e) (hsl:∀s,s<4->Own X N 9 1 encStr (sl s).v ((F (s:I)).map (aK (C.nl s)))) (hN:B<=N) (hwB:w.1.size<=B)
  {D:O} (hD:∀cs T fz,X.1[D]?≠S (.cells cs T fz)) (hs:Same (λi=>B<=i/\i≠D) X Y) (Dp:Below w.1.size w Y) (g1:∀L∈C.SE,L.length<=2000000) (g2:∀L∈C.SD,L.length<=2000000) (g3:∀L∈C.SM,L.length<=2000000):
  UA w (cO C) (.returned (.tuple #[bG ⟨sl 0,sl 1,sl 2,sl 3,h.e,h.d,h.m,h.w⟩,.int Z 0])) Y:=by
 have hbe:∀e∈es,Hg e:=λe he=>by
  have:=hb e.base (by rw[<-h1];exact oH he);exact this
 have Mq:∀{α:Type}{enc:α->G Value}{k:O}{T:TypeId}{v:Value}{xs:G α}{B':O},B<=B'->Own X B' T k enc v xs->Own Y B' T k enc v xs:=λhB' ho=>ho.same hs (λg hg=>⟨bX hB' (ho.lt g hg).1,λe=>by
  subst e;obtain⟨cs,fz,e'⟩:=ho.tag hg;exact hD _ _ _ e'⟩)
 have k1:Own Y B 50 9 eB h.e.v (es.map (evR F)):=Mq (aB _) (l.agk hM hbe);have k2:Own Y B 79 2 fB h.d.v (ds.map (orR F)):=Mq (aB _) (l.agl hM);have k3:Own Y B 84 4 fD h.m.v (ms.map (maR F)):=Mq (aB _) (l.agm hM);have k4:Own Y B 88 2 gH h.w.v (C.Q.map (waR F)):=Mq (aB _) (l.agn hM);have r1:∀x∈es,Own Y B 98 3 dV (H x.sa x.sn x.sc) ((scan x).map (Cb F)):=λx hx=>Mq (aB _) (l.agp hM hx)
 have r2:∀x∈ds,Own Y B 3 1 aX (H x.sa x.sn x.sc) ((dn x).map (dZ (F 0))):=λx hx=>Mq (aB _) (l.agq hM hx)
 have r3:∀x∈ms,Own Y B 3 1 aX (H x.sa x.sn x.sc) ((mn x).map (dZ (F 0))):=λx hx=>Mq (aB _) (l.agr hM hx)
 obtain⟨f1,a1,b1⟩:=OZ (hc:=pJ) Ka (r:=evR F) (a:=EvC.sa) (n:=EvC.sn) (q:=EvC.sc) (λ_=>rfl) (λ_=>rfl) (λ_=>rfl) r1 (λx hx=>by rw[bH];have:=g1 (scan x) (by rw[<-h4];exact oH hx);omega);obtain⟨f2,a2,b2⟩:=OZ (hc:=iP) xw (r:=orR F) (a:=aM.sa) (n:=aM.sn) (q:=aM.sc) (λ_=>rfl) (λ_=>rfl) (λ_=>rfl) r2 (λx hx=>by rw[bH];have:=g2 (dn x) (by rw[<-h5];exact oH hx);omega);obtain⟨f3,a3,b3⟩:=OZ (hc:=iP) xw (r:=maR F) (a:=aN.sa) (n:=aN.sn) (q:=aN.sc) (λ_=>rfl) (λ_=>rfl) (λ_=>rfl) r3 (λx hx=>by rw[bH];have:=g3 (mn x) (by rw[<-h6];exact oH hx);omega);have hnm:∀i,i<4->(⟨sl 0,sl 1,sl 2,sl 3,h.e,h.d,h.m,h.w⟩:HC).nm i=sl i:=λi hi=>by
  rcases(by omega:i=0\/i=1\/i=2\/i=3) with rfl|rfl|rfl|rfl <;> rfl
 subst hF;refine⟨_,es.map (evR (cu (aY C))),ds.map (orR (cu (aY C))),ms.map (maR (cu (aY C))),f1,f2,f3,rfl,gZ.mono (B:=B) ⟨k1,k2,k3,k4,λi hi=>?_,a1,a2,a3,?_,?_,?_,?_,?_,?_⟩ hwB,Dp⟩
 .rw[hnm i hi]
  exact(show Own Y N 9 1 encStr (H (sl i).a (sl i).n (sl i).c) _ from Mq hN (hsl i hi)).mono hN
 .show _=C.E.map (eT (cu (aY C)))
  rw[<-h1,iV,iV];exact ni (λx _=>rfl)
 .show _=C.D.map _
  rw[<-h2,iV,iV];exact ni (λx _=>rfl)
 .show _=C.M.map _
  rw[<-h3,iV,iV];exact ni (λx _=>rfl)
 .rw[b1];show _=C.SE.map _;rw[<-h4,iV];rfl
 .rw[b2];show _=C.SD.map _;rw[<-h5,iV];rfl
 .rw[b3];show _=C.SM.map _;rw[<-h6,iV];rfl
end Yd
