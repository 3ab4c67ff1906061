import Derived.Test.YtpeojoobplpcoaaGreatDoorPRdQ
set_option linter.all false
set_option maxRecDepth 200000
set_option maxHeartbeats 8000000
namespace Yd
open Option renaming none->C,some->E
open Go Go.RowKit Go.Proofs Tryz
open Below renaming refl->J
open Go.IntKind renaming i64->H
open Go.Obj renaming cells->L
open Go.RowKit renaming Hid->M
open Go.Value renaming string->G,int->I,pointer->S
open Yd renaming hid->y
open _root_ renaming Int->F,Nat->O
@[reducible] def addN (n:aH)(m:Bs):aH:={n with names:=n.names++[m]}
@[reducible] def ad5 (c:bE)(a:Option Addr)(k cc:O):bE:={c with na:=a,nn:=k,nc:=cc}
theorem eP.c3 {w:World}{R p:O}{s l:Bs}{c:bE}{n:aH}(h:eP w R s p l c n):w.cell? ⟨R,3,C⟩=E (.slice c.na c.nn c.nc):=h.x.1 3
theorem eP.c5 {w:World}{R p:O}{s l:Bs}{c:bE}{n:aH}(h:eP w R s p l c n):w.cell? ⟨R,5,C⟩=E (.slice c.va c.vn c.vc):=h.x.1 5
theorem eP.addN {w X Y:World}{R p:O}{s l m:Bs}{c:bE}{n:aH}(h:eP w R s p l c n)(hX:Below w.1.size w X)(a':Option Addr)(c':O)
  (hown:Own Y (R+1) 9 1 encStr (.slice a' (c.nn+1) c') (n.names++[m])) (hg:X.grownBy Y (Value.slice c.na c.nn c.nc).ownBlock)
  (hat:(Value.slice a' (c.nn+1) c').ownBlock=(Value.slice c.na c.nn c.nc).ownBlock\/(Value.slice a' (c.nn+1) c').ownBlock=E X.1.size):
  eP (Y.setCell ⟨R,3,C⟩ (.slice a' (c.nn+1) c')) R s p l (ad5 c a' (c.nn+1) c') (addN n m)/\Mv R c (ad5 c a' (c.nn+1) c') w (Y.setCell ⟨R,3,C⟩ (.slice a' (c.nn+1) c')):=by
 have Te:=h.x.2.2;have hsz:=hX.size;have hn1:(Value.slice c.na c.nn c.nc).ownBlock≠E R:=h.n.2.1.far' (.inl ah);have hap:=h.n.2.2.apart h.n.2.1 aj;have hxX:=h.x.keep hX;have hxY:Bx Y R (tC s p c):=hxX.grown hg hn1;have hv:Own Y (R+1) 144 2 sI (.slice c.va c.vn c.vc) n.aG:=(h.n.2.2.below hX rfl).grown hg (λg hg=>hap g hg);obtain⟨⟨e1,e2,e3,e4,e5,e6⟩,_,_⟩:=h.n;have hXY:Same (oO R c) X Y:=⟨hg.os,hg.tape,hg.output,hg.size,λi hi hl=>hg.block i hl (λe=>hi.2.1 e.symm)⟩;refine⟨⟨?_,⟨⟨e1,e2,e3,e4,by simp[e5],e6⟩,?_,?_⟩,h.d,h.le,h.lim⟩,((Same.of_below hX (λ_ _ h=>h)).tr hXY).tr (Same.setCell _ _ _ _ (λe=>e.1 rfl)),?_,λ_ h=> .inl h⟩
 .exact hxY.bf 3 ak _
 .exact hown.block λg hg=>Below.heap_setCell _ _ _ _ (by have:=(hown.lt g hg).1;simp;omega)
 .exact hv.block λg hg=>Below.heap_setCell _ _ _ _ (by have:=(hv.lt g hg).1;simp;omega)
 .intro g hgg
  rcases hat with e|e
  .exact .inl (e▸hgg)
  .right
   have:E g=E X.1.size:=hgg.symm.trans e;injection this with this;omega
@[reducible] def ET (n:aH)(v:To):aH:={n with aG:=n.aG++[v]}
@[reducible] def ad6 (c:bE)(a:Option Addr)(k cc:O):bE:={c with va:=a,vn:=k,vc:=cc}
theorem eP.ET {w X Y:World}{R p:O}{s l:Bs}{v:To}{c:bE}{n:aH}(h:eP w R s p l c n)(hX:Below w.1.size w X)(a':Option Addr)(c':O)
  (hown:Own Y (R+1) 144 2 sI (.slice a' (c.vn+1) c') (n.aG++[v])) (hg:X.grownBy Y (Value.slice c.va c.vn c.vc).ownBlock)
  (hat:(Value.slice a' (c.vn+1) c').ownBlock=(Value.slice c.va c.vn c.vc).ownBlock\/(Value.slice a' (c.vn+1) c').ownBlock=E X.1.size):
  eP (Y.setCell ⟨R,5,C⟩ (.slice a' (c.vn+1) c')) R s p l (ad6 c a' (c.vn+1) c') (ET n v)/\Mv R c (ad6 c a' (c.vn+1) c') w (Y.setCell ⟨R,5,C⟩ (.slice a' (c.vn+1) c')):=by
 have Te:=h.x.2.2;have hsz:=hX.size;have hn1:(Value.slice c.va c.vn c.vc).ownBlock≠E R:=h.n.2.2.far' (.inl ah);have hap:=h.n.2.1.apart h.n.2.2 aj;have hxX:=h.x.keep hX;have hxY:Bx Y R (tC s p c):=hxX.grown hg hn1;have hv:Own Y (R+1) 9 1 encStr (.slice c.na c.nn c.nc) n.names:=(h.n.2.1.below hX rfl).grown hg (λg hg=>hap g hg);obtain⟨⟨e1,e2,e3,e4,e5,e6⟩,_,_⟩:=h.n;have hXY:Same (oO R c) X Y:=⟨hg.os,hg.tape,hg.output,hg.size,λi hi hl=>hg.block i hl (λe=>hi.2.2 e.symm)⟩;refine⟨⟨?_,⟨⟨e1,e2,e3,e4,e5,by simp[e6]⟩,?_,?_⟩,h.d,h.le,h.lim⟩,((Same.of_below hX (λ_ _ h=>h)).tr hXY).tr (Same.setCell _ _ _ _ (λe=>e.1 rfl)),λ_ h=> .inl h,?_⟩
 .exact hxY.bf 5 ak _
 .exact hv.block λg hg=>Below.heap_setCell _ _ _ _ (by have:=(hv.lt g hg).1;simp;omega)
 .exact hown.block λg hg=>Below.heap_setCell _ _ _ _ (by have:=(hown.lt g hg).1;simp;omega)
 .intro g hgg
  rcases hat with e|e
  .exact .inl (e▸hgg)
  .right
   have:E g=E X.1.size:=hgg.symm.trans e;injection this with this;omega
theorem R4 {R p:O}{s l:Bs}{c:bE}{n:aH}(w:World)(h:eP w R s p l c n)(hT:Lib.Utf8Tabs 6 7 w)(hl:n.names.length<=1000):
  Calls Tryz.prog 160 #[S (E ⟨R,0,C⟩)] w (dQ R s c w (λ_:Unit=> .tuple #[]) (match dF l with| .error x=> .error x| .ok (m,r)=> .ok ((),addN n m,r))):=by
 obtain⟨X,hX⟩:∃X:Except Er (Unit × aH × Bs),X=(match dF l with| .error x=> .error x| .ok (m,r)=> .ok ((),addN n m,r)):=⟨_,rfl⟩;rw[<-hX];have RES:M (∀ch w',(∃(r:Bs)(m:F),dF l= .error (r,m)/\ch=o9 (s.length - r.length) m/\Same (oO R c) w.drew w')->dQ R s c w (λ_:Unit=> .tuple #[]) X (.panicked ch) w'):=y (by
  rintro ch w' ⟨r,m,h1,rfl,h2⟩;rw[hX,h1];exact⟨rfl,h2.os,h2.tape,h2.output,h2.size,h2.block⟩)
 have HX:=y hX;clear hX;have Ao:=y (λW (hb:Below w.1.size w W)=>GQ W (h.below hb) (Utf8Tabs_below hT hb));obtain⟨i,z,hi,hz,hsize,dx,hzs⟩:=nL;have HI:=y (⟨hi,hz,hsize,dx,hzs⟩:_/\_/\_/\_/\_);have HH:=y h;have HB0:M (Below w.1.size w w.drew):=y ((J _ _).drew);have MP:M ((Value.slice c.na c.nn c.nc).ownBlock≠E R):=y (h.n.2.1.far' (.inl ah));have hcn:=h.n.1.2.2.2.2.1;have jU:M (n.names.length+1=c.nn+1):=y ah;have iU:M ((c.nn+1)*16<=140737488355328):=y ah;have iM:M (c.nn+1<=maxLen):=y (by unfold maxLen;omega);clear hcn;clear h hT hi hz hsize dx hzs;go_enter func160,ntmps160;go_wp2_with fail;refine dA 13 [(0,1),(1,1),(2,1),(3,1),(4,1),(5,0),(6,1),(7,2),(8,2),(9,2),(10,1),(11,1),(12,1),(13,2)] (λ_=>True) (λW'=>W'.cell? ⟨R,3,C⟩=E (.slice c.na c.nn c.nc)) (λch w'=>∃(r:Bs)(m:F),dF l= .error (r,m)/\ch=o9 (s.length - r.length) m/\Same (oO R c) w.drew w') ay ay (λch a1 w1 hd hr=>⟨hd,RES.q ch w1 hr⟩) (trivial) (HH.q.drew.c3) ?_;refine qC ?_;refine aF rfl rfl (λK hK=>?_);go_simp;refine(Ao.q _ HB0.q).mono ?_;intro e w2 he
 cases hnm:dF l with
 |error x=>
  rw[hnm] at he;obtain⟨rfl,hs⟩:=he;exact⟨rfl,x.1,x.2,rfl,rfl,hs⟩
 |ok mr=>
 obtain⟨m,r⟩:=mr;rw[hnm] at he;obtain⟨rfl,p2,hc2,hm2⟩:=he;have eF:=y hc2;have lM:=y hm2;have Ig:=y hnm;refine hK _ _ ⟨trivial,hc2.c3⟩ ?_;have sO:M (R+1<=(w2.alloc (L #[G ⟨m.toArray⟩] 9)).1.size):=y (by have:=hc2.x.2.2;simp;omega);clear hK K hc2 hm2 hnm;refine aF rfl rfl (λK hK=>?_);go_simp;refine hK _ _ ⟨trivial,(eF.q.below (aA (J _ _) _)).c3⟩ ?_;clear hK K;refine aF rfl rfl (λK hK=>?_);refine lX _ _ 23 rfl i z 16 underlying23 HI.q.1 HI.q.2.1 HI.q.2.2.1 HI.q.2.2.2.1 HI.q.2.2.2.2 rfl (eF.q.n.2.1.alloc _) (E ⟨w2.1.size,0,C⟩) 1 1 (c.nn+1) [m] rfl (Row.str1 w2 m) jU.q iU.q iM.q sO.q ?_;intro a' c' w3 hown3 hg3 zY;have hx3:=(eF.q.x.keep (aA (J _ _) (L #[G ⟨m.toArray⟩] 9))).grown hg3 MP.q;have HAD:=y (eF.q.addN (aA (J _ _) (L #[G ⟨m.toArray⟩] 9)) a' c' hown3 hg3 zY);refine hK _ _ ⟨trivial,hx3.1 3⟩ ?_;have hc3:=hx3.1 3;have hf3:=hx3.2.1 3;clear hK K hown3 hg3 zY hx3;refine qC ?_;refine bC rfl rfl rfl (λK hK=>?_);go_simp;refine hK _ _ trivial ?_;clear hK K;refine jA ?_;go_wp2_with fail;refine bodyPost_end (results_none rfl _ _ _) rfl ?_;show dQ R s c w _ _ _ _;rw[HX.q,Ig.q];exact⟨rfl,p2,_,HAD.q.1,(Mv.of_below HB0.q).trans (lM.q.trans HAD.q.2)⟩
def vO (R:O)(w:World):Prop:=∃w0:World,w0.1.size<=R/\Below w0.1.size w0 w/\Lib.Utf8Tabs 6 7 w0/\Az w0/\kg w0
theorem vO.tabs {R:O}{w:World}(h:vO R w):Lib.Utf8Tabs 6 7 w:=let⟨_,_,h2,h3,_⟩:=h;Utf8Tabs_below h3 h2
theorem vO.e {R:O}{w:World}(h:vO R w):Az w:=let⟨_,_,h2,_,h4,_⟩:=h;h4.below h2
theorem vO.l {R:O}{w:World}(h:vO R w):kg w:=let⟨_,_,h2,_,_,h5⟩:=h;h5.below h2
theorem vO.below {R:O}{w w':World}(h:vO R w)(hb:Below w.1.size w w'):vO R w':=let⟨w0,h1,h2,h3⟩:=h;⟨w0,h1,h2.trans (hb.mono h2.size),h3⟩
theorem vO.mv {R p:O}{w w':World}{s l:Bs}{c:bE}{n:aH}(h:vO R w)(hc:eP w R s p l c n)(hs:Same (oO R c) w w'):vO R w':=
 let⟨w0,h1,h2,h3⟩:=h;⟨w0,h1,hs.below h2 (λi hi=>hc.old ah) h2.size,h3⟩
theorem eP.put {w:World}{R p:O}{s l:Bs}{c:bE}{n:aH}(h:eP w R s p l c n)(b i:O)(v:Value)(hb:oO R c b):eP (w.setCell ⟨b,i,C⟩ v) R s p l c n:=
 ⟨h.x.setOther b i v (Ne.symm hb.1),⟨h.n.1,h.n.2.1.block λg hg=>Below.heap_setCell _ _ _ _ (by rintro rfl;exact hb.2.1 hg),h.n.2.2.block λg hg=>Below.heap_setCell _ _ _ _ (by rintro rfl;exact hb.2.2 hg)⟩,h.d,h.le,h.lim⟩
theorem Mv.put {R:O}{c c':bE}{w Y:World}(h:Mv R c c' w Y)(b i:O)(v:Value)(hb:w.1.size<=b):Mv R c c' w (Y.setCell ⟨b,i,C⟩ v):=
 ⟨⟨h.same.os,h.same.tape,h.same.output,bX h.same.size (by simp[World.setCell]),λj hj hl=>(Below.heap_setCell _ _ _ _ (by simp;omega)).trans (h.same.block j hj hl)⟩,h.na,h.va⟩
theorem QB (q:UInt8->Bool):∀l:Bs,∀c∈l.takeWhile q,q c=true
 |[],_,h=>by simp at h
 |a::t,c,h=>by
  rw[nE] at h
  cases hq:q a
  .rw[hq] at h;simp at h
  .rw[hq,av rfl] at h
   rcases dU.1 h with rfl|h
   .exact hq
   .exact QB q t c h
theorem acf (nm:Bs)(l:Bs):((mF l).head?=C\/(mF l).head?=E 45\/(mF l).head?=E 48)/\wQ nm l= .error (l,220)\/
  (∃b t,mF l=b::t/\b.toNat≠45/\b.toNat≠48)/\mF l=l.takeWhile jf/\(∀c∈mF l,jf c=true)/\wQ nm l=(if 999<qJ (mF l) then .error (l,3) else .ok (⟨nm,qJ (mF l)⟩,l.drop (mF l).length)):=by
 by_cases h45:l.head?=E 45
 .obtain⟨t,rfl⟩:∃t,l=45::t:=by cases l with
   |nil=>simp at h45
   |cons a t=>exact⟨t,by simpa using h45⟩
  have hds:(45::t:Bs).takeWhile jf=[]:=by rw[nE];rfl
  left
  constructor
  .unfold mF
   rw[av (show(45::t:Bs).head?=E 45 from rfl)]
   split
   .exact .inl rfl
   .exact .inr (.inl rfl)
  .unfold wQ
   simp only[hds];rw[av (.inl rfl)]
 .have hh:mF l=l.takeWhile jf:=by unfold mF;rw[au h45]
  rw[hh];have hall:∀c∈l.takeWhile jf,jf c=true:=QB jf l
  cases hd:l.takeWhile jf with
  |nil=>
   left
   refine⟨.inl rfl,?_⟩;unfold wQ;simp only[hd];rw[av (.inl rfl)]
  |cons b t=>
   by_cases h48:b=48
   .left
    subst h48;refine⟨.inr (.inr rfl),?_⟩;unfold wQ;simp only[hd];rw[av (.inr rfl)]
   .right
    rw[hd] at hall;refine⟨⟨b,t,rfl,?_,λe=>h48 (jm.1 e)⟩,rfl,hall,?_⟩
    .intro e
     have:=hall b ak;rw[Ja,e] at this;exact absurd this aj
    .unfold wQ
     simp only[hd];rw[au (by simpa using h48)]
theorem eP.drewN {w:World}{R p:O}{s l:Bs}{c:bE}{n:aH}(h:eP w R s p l c n)(k:O):eP (w.drewN k) R s p l c n:=⟨h.x,h.n,h.d,h.le,h.lim⟩
theorem Same.Zh {A:O->Prop}(X:World)(n:O):Same A X (X.drewN n):=⟨rfl,rfl,rfl,aB _,λ_ _ _=>rfl⟩
theorem La {R p:O}{s l:Bs}{c:bE}{n:aH}(w:World)(h:eP w R s p l c n)(hG:vO R w)(hl:n.aG.length<=1000):
  Calls Tryz.prog 162 #[S (E ⟨R,0,C⟩)] w (dQ R s c w (λ_:Unit=> .tuple #[]) (match gM l with| .error x=> .error x| .ok (v,r)=> .ok ((),ET n v,r))):=by
 obtain⟨X,hX⟩:∃X:Except Er (Unit × aH × Bs),X=(match gM l with| .error x=> .error x| .ok (v,r)=> .ok ((),ET n v,r)):=⟨_,rfl⟩;rw[<-hX];have HX:=y hX;clear hX;have HEN:=y (λW (hb:Below w.1.size w W)=>GR W (h.below hb));have Ao:=y (λW (hb:Below w.1.size w W)=>GQ W (h.below hb) (hG.below hb).tabs);have HG:=y hG;obtain⟨i,z,hi,hz,hsize,dx,hzs⟩:=LG;have HI:=y (⟨hi,hz,hsize,dx,hzs⟩:_/\_/\_/\_/\_);have HH:=y h;have HB0:M (Below w.1.size w w.drew):=y ((J _ _).drew);have MP:M ((Value.slice c.va c.vn c.vc).ownBlock≠E R):=y (h.n.2.2.far' (.inl ah));have hcn:=h.n.1.2.2.2.2.2;have jU:M (n.aG.length+1=c.vn+1):=y ah;have iU:M ((c.vn+1)*24<=140737488355328):=y ah;have iM:M (c.vn+1<=maxLen):=y (by unfold maxLen;omega);have hlim:=h.lim;have hlen:=h.len;clear hcn h hG hi hz hsize dx hzs;by_cases hsg:∃t,l=45::t
 .obtain⟨t,rfl⟩:=hsg
  have Uc:M (dS (45::t)=false):=y (by rw[jI];rfl);have hix:=λW=>jM Tryz.underlying9 s p 45 HH.q.at_ W
  have hlt:p<s.length:=by simp at hlen;omega
  have vT:M (X= .ok ((),ET n ⟨[],0⟩,t)):=y (by rw[HX.q];unfold gM;rw[av (show(45::t:Bs).head?=E 45 from rfl)];rfl);go_enter func162,ntmps162;go_wp2_with fail;refine aC 99 [(0,0),(1,2),(2,0),(3,0),(4,0),(5,0),(6,0),(7,0),(8,0),(9,0),(10,0),(11,0),(12,0),(13,0),(14,0)] (λ_=>True) (λW'=>W'.cell? ⟨R,0,C⟩=E (G ⟨s.toArray⟩)/\W'.cell? ⟨R,1,C⟩=E (I H p)) ay ay (trivial) (⟨HH.q.drew.c0,HH.q.drew.c1⟩) ?_;refine qC ?_;refine aF rfl rfl (λK hK=>?_);go_simp;refine(HEN.q _ HB0.q).mono ?_;rintro e w1 ⟨rfl,hb1⟩;have hc1:=HH.q.drew.below hb1;have EZ:=y hc1;have HB1:=y (HB0.q.bZ hb1);rw[Uc.q];refine hK _ _ ⟨trivial,hc1.c0,hc1.c1⟩ ?_;clear hK K hb1 hc1;refine qC ?_;refine aP ?_;have HT1:=EZ.q.to 1 rfl ak (p+1) rfl;have HT:=y HT1.1;have HM:=y HT1.2;rw[BX] at HT HM;have c1:=EZ.q.c1;have z1:=f1 EZ.q 1;have c5:=EZ.q.c5;clear HT1;have E8:M ((w1.setCell ⟨R,1,C⟩ (I H ((p:F)+1))).1.size=w1.1.size):=y ak;have sO:M (R+1<=((w1.setCell ⟨R,1,C⟩ (I H ((p:F)+1))).alloc (L #[G ⟨([]:Bs).toArray⟩,I H 0] 144)).1.size):=y (by have:=HT.q.x.2.2;simp at*;omega)
  go_wp2_with (at_builtin;refine je rfl _ _ 64 rfl i z 24 underlying64 HI.q.1 HI.q.2.1 HI.q.2.2.1 HI.q.2.2.2.1 HI.q.2.2.2.2 rfl (HT.q.n.2.2.alloc _) (E ⟨w1.1.size,0,C⟩) 1 1 (c.vn+1) [⟨[],0⟩] rfl (Row.toN E8.q ⟨[],0⟩) jU.q iU.q iM.q sO.q ?_;intro a' c' w3 hown3 hg3 zY;have hx3:=(HT.q.x.keep (aA (J _ _) (L #[G ⟨([]:Bs).toArray⟩,I H 0] 144))).grown hg3 MP.q;have HAD:=y (HT.q.ET (aA (J _ _) (L #[G ⟨([]:Bs).toArray⟩,I H 0] 144)) a' c' hown3 hg3 zY);have hc3:=hx3.1 5;have hf3:=hx3.2.1 5;clear hown3 hg3 zY hx3)
  refine bodyPost_ret (results_none rfl _ _ _) rfl ?_;show dQ R s c w _ _ _ _;rw[vT.q];exact⟨rfl,p+1,_,HAD.q.1,(Mv.of_below HB1.q).trans (HM.q.trans HAD.q.2)⟩
 .have h45:¬l.head?=E 45:=λe=>hsg (by cases l with
   |nil=>simp at e
   |cons a t=>exact⟨t,by simp at e;rw[e]⟩)
  have MW:M (∀x,dF l= .error x->(match gM l with| .error x=> .error x| .ok (v,r)=> .ok ((),ET n v,r):Except Er (Unit × aH × Bs))= .error x):=y (λx hx=>by unfold gM;rw[au h45,hx]);have HVO:M (∀m r,dF l= .ok (m,r)->gM l=if r.head?=E 46 then wQ m r.tail else .error (r,220)):=y (λm r hx=>by unfold gM;rw[au h45,hx]);clear h45
  cases hee:dS l
  .obtain⟨b0,t0,rfl⟩:∃b0 t0,l=b0::t0:=by cases l with
    |nil=>exact absurd hee aj
    |cons a t=>exact⟨a,t,rfl⟩
   have Uc:M (dS (b0::t0)=false):=y hee;have arN:=λW=>jM Tryz.underlying9 s p b0 HH.q.at_ W
   have arO:p<s.length:=by simp at hlen;omega
   have ZJ:((b0.toNat:F)==45)=false:=aU.2 (λe=>hsg ⟨t0,by rw[show b0=45 from jm.1 (by show b0.toNat=45;omega)]⟩);clear hee hsg;go_enter func162,ntmps162;go_wp2_with fail;refine aC 99 [(0,0),(1,2),(2,0),(3,0),(4,0),(5,0),(6,0),(7,0),(8,0),(9,0),(10,0),(11,0),(12,0),(13,0),(14,0)] (λ_=>True) (λW'=>W'.cell? ⟨R,0,C⟩=E (G ⟨s.toArray⟩)/\W'.cell? ⟨R,1,C⟩=E (I H p)) ay ay (trivial) (⟨HH.q.drew.c0,HH.q.drew.c1⟩) ?_;refine qC ?_;refine aF rfl rfl (λK hK=>?_);go_simp;refine(HEN.q _ HB0.q).mono ?_;rintro e w1 ⟨rfl,hb1⟩;have hc1:=HH.q.drew.below hb1;have EZ:=y hc1;have HB1:=y (HB0.q.bZ hb1);rw[Uc.q];refine hK _ _ ⟨trivial,hc1.c0,hc1.c1⟩ ?_;clear hK K hb1 hc1;refine qC ?_;refine aP ?_;go_wp2_with fail;refine(Ao.q _ HB1.q).mono ?_;intro e w2 he
   cases hnm:dF (b0::t0) with
   |error x=>
    rw[hnm] at he;obtain⟨rfl,hs⟩:=he;refine⟨rfl,?_⟩;show dQ R s c w _ _ _ _;rw[HX.q,MW.q x hnm];exact⟨rfl,(Same.of_below HB1.q (λ_ _ h=>h)).tr hs⟩
   |ok mr=>
   obtain⟨m,r⟩:=mr;rw[hnm] at he;obtain⟨rfl,p2,hc2,hm2⟩:=he;have QY:=y (HVO.q m r hnm);have eF:=y hc2;have lM:=y ((Mv.of_below HB1.q).trans hm2);have hcA:=hc2.below (aA (J _ _) (L #[G ⟨m.toArray⟩,I H 0] 144));have HCA:=y hcA;have Rj:=y (lM.q.trans (Mv.of_below (aA (J w2.1.size w2) (L #[G ⟨m.toArray⟩,I H 0] 144))));have HYA:=y (Bx.new w2 #[G ⟨m.toArray⟩,I H 0] 144);have yC:=y (hc2.new (aB _));have CO:=hc2.len;have c0:=hcA.c0;have c1:=hcA.c1;have z1:=f1 hcA 1;have hz:=gQ s;clear hc2 hm2 hcA hnm
   cases hr:r with
   |nil=>
    have hd1:((p2:F)==(s.length:F))=true:=by rw[hr] at CO;simp at CO;simp[CO]
    have vT:M (gM (b0::t0)= .error ([],220)):=y (by rw[QY.q,hr];rfl);have HQ:M (s.length - ([]:Bs).length=p2):=y (by rw[hr] at CO;simp at CO ⊢;omega);clear hr CO
    go_wp2_with (go_quiet (fail))
    refine(mR p2 220 _).mono ?_;rintro e w9 ⟨rfl,rfl⟩;refine⟨rfl,?_⟩;show dQ R s c w _ _ _ _;rw[HX.q,vT.q];exact⟨by rw[HQ.q],Rj.q.same.tr (Same.Zh _ _)⟩
   |cons b2 t2=>
   subst hr;have hd1:((p2:F)==(s.length:F))=false:=aU.2 (by simp at CO;omega);have Qo:=λW=>jM Tryz.underlying9 s p2 b2 HCA.q.at_ W
   have HL2:=y CO;by_cases h46:b2=46
   .subst h46
    have abJ:(((46:UInt8).toNat:F)!=46)=false:=rfl;have vT:M (gM (b0::t0)=wQ m t2):=y (by rw[QY.q];rfl);have hp2:p2+1<=s.length:=by have:=HL2.q;simp at this;omega
    have hd3:s.drop (p2+1)=t2:=by rw[<-zq,HCA.q.d];rfl
    have hsl2:∀W,(Instr.slice 9 (G ⟨s.toArray⟩) (E (I H ((p2:F)+1))) C C).run Tryz.prog W= .ok (G ⟨t2.toArray⟩) W:=λW=>by have:=oZ Tryz.underlying9 s (p2+1) hp2 W;rw[hd3] at this;exact this
    have HHE:=λW=>y (Sk t2 (by have:=HL2.q;simp at this;omega) W)
    clear hd3;have mQ:=acf m t2;have hDl:(mF t2).length<=t2.length:=by unfold mF;split;split;exact aZ _;rw[fE];exact Nat.min_le_right _ _;have:=qi jf t2;omega
    revert HHE mQ hDl;generalize mF t2=D;intro HHE mQ hDl;have MS:=y hDl;have CY:=y mQ;clear hDl mQ
    go_wp2_with (go_quiet (fail))
    have HT1:=(HCA.q.drewN nq).to 1 rfl ak (p2+1) rfl;have Zi:M (eP (((w2.alloc (L #[G ⟨m.toArray⟩,I H 0] 144)).drewN nq).setCell ⟨R,1,C⟩ (I H ((p2:F)+1))) R s (p2+1) t2 c n):=y HT1.1;have HTM:M (Mv R c c w (((w2.alloc (L #[G ⟨m.toArray⟩,I H 0] 144)).drewN nq).setCell ⟨R,1,C⟩ (I H ((p2:F)+1)))):=y ((Rj.q.trans (Mv.of_below (gu (J _ _) nq))).trans HT1.2);have Gm:M (Bx (((w2.alloc (L #[G ⟨m.toArray⟩,I H 0] 144)).drewN nq).setCell ⟨R,1,C⟩ (I H ((p2:F)+1))) w2.1.size #[G ⟨m.toArray⟩,I H 0]):=y ((HYA.q.drewN nq).setOther R 1 (I H ((p2:F)+1)) (by have:=eF.q.x.2.2;omega));clear HT1 c0 c1 z1 hd1;revert Zi HTM Gm;generalize(((w2.alloc (L #[G ⟨m.toArray⟩,I H 0] 144)).drewN nq).setCell ⟨R,1,C⟩ (I H ((p2:F)+1)))=V;intro Zi HTM Gm;obtain⟨tb,htb⟩:∃tb,tb=w2.1.size:=⟨_,rfl⟩;rw[<-htb] at Gm yC ⊢;have HTB:M (tb≠R):=y (λe=>yC.q.1 e);have OG:M (w.1.size<=tb):=y (by rw[htb];exact lM.q.same.size);clear htb;refine aC 99 [(0,0),(1,0),(2,0),(3,0),(4,0),(5,0),(6,0),(7,0),(8,0),(9,2),(10,0),(11,0),(12,0),(13,0),(14,0)] (λ_=>True) (λW'=>W'.cell? ⟨R,0,C⟩=E (G ⟨s.toArray⟩)/\W'.cell? ⟨R,1,C⟩=E (I H ((p2:F)+1))) ay ay (trivial) (⟨Zi.q.drew.c0,Zi.q.drew.c1⟩) ?_;refine qC ?_;refine aF rfl rfl (λK hK=>?_);go_simp;refine(HHE _).q.mono ?_;rintro e w4 ⟨rfl,hb4⟩;have hc4:=Zi.q.drew.below hb4;have j6:=y hc4;have Fq:=y ((HTM.q.trans (Mv.of_below (J _ _).drew)).trans (Mv.of_below hb4));have nC:=y (Gm.q.drew.keep hb4);refine hK _ _ ⟨trivial,hc4.c0,hc4.c1⟩ ?_;clear hK K hb4 hc4;refine qC ?_;refine aP ?_;have c0:=j6.q.c0;have z1:=f1 j6.q 1;have c1:w4.cell? ⟨R,1,C⟩=E (I H ((p2:F)+1)):=j6.q.c1;clear hsl2;rcases CY.q with⟨hbad,Ud⟩|⟨⟨b3,t3,hh,h45,h48⟩,hht,hal,Ud⟩
    .have K8:=y Ud
     have HQ:M (s.length - t2.length=p2+1):=y (by have:=HL2.q;simp at this;omega);have HF:M (∀W,Calls Tryz.prog 138 #[I H ((p2:F)+1),I H 220] W λe w'=>e= .panicked (o9 (p2+1) 220)/\w'=W):=y (λW=>mR (p2+1) 220 W);clear Ud
     cases D with
     |nil=>
      go_wp2_with fail;refine(HF.q _).mono ?_;rintro e w9 ⟨rfl,rfl⟩;refine⟨rfl,?_⟩;show dQ R s c w _ _ _ _;rw[HX.q,vT.q,K8.q];exact⟨by rw[HQ.q],Fq.q.same⟩
     |cons b3 t3=>
      have hbb:b3=45\/b3=48:=by simpa using hbad
      have hi0:∀W,(Instr.index 9 (G ⟨(b3::t3).toArray⟩) (I H 0)).run Tryz.prog W= .ok (.int .u8 (b3.toNat:F)) W:=λW=>jM Tryz.underlying9 (b3::t3) 0 b3 rfl W
      have hem:((b3::t3)==([]:Bs))=false:=rfl;clear hbad;by_cases h45:b3.toNat=45
      .have e45:((b3.toNat:F)==45)=true:=by simp[h45]
       clear hbb h45;go_wp2_with fail;refine(HF.q _).mono ?_;rintro e w9 ⟨rfl,rfl⟩;refine⟨rfl,?_⟩;show dQ R s c w _ _ _ _;rw[HX.q,vT.q,K8.q];exact⟨by rw[HQ.q],Fq.q.same⟩
      .have h48:b3.toNat=48:=by rcases hbb with rfl|rfl;exact absurd rfl h45;rfl
       have e45:((b3.toNat:F)==45)=false:=aU.2 ah;have e48:((b3.toNat:F)==48)=true:=by simp[h48]
       clear hbb h45 h48;go_wp2_with fail;refine(HF.q _).mono ?_;rintro e w9 ⟨rfl,rfl⟩;refine⟨rfl,?_⟩;show dQ R s c w _ _ _ _;rw[HX.q,vT.q,K8.q];exact⟨by rw[HQ.q],Fq.q.same⟩
    .skip
     clear hht;subst hh;have hne:(b3::t3:Bs)≠[]:=by simp
     have hi0:∀W,(Instr.index 9 (G ⟨(b3::t3).toArray⟩) (I H 0)).run Tryz.prog W= .ok (.int .u8 (b3.toNat:F)) W:=λW=>jM Tryz.underlying9 (b3::t3) 0 b3 rfl W
     have e45:((b3.toNat:F)==45)=false:=aU.2 ah;have e48:((b3.toNat:F)==48)=false:=aU.2 ah;have hem:((b3::t3)==([]:Bs))=false:=rfl;have hzd:=gQ (b3::t3);have hle3:=j6.q.len;have hdl:=MS.q;have HAT:=y (aee (b3::t3) hne hal ah w4 ((HG.q.mv HH.q Fq.q.same).e));obtain⟨V,hV⟩:∃V,V=qJ (b3::t3):=⟨_,rfl⟩;rw[<-hV] at HAT Ud;have K8:=y Ud;have HL3:=y hle3;clear hal Ud h45 h48 hV hle3 hne;go_wp2_with fail;refine HAT.q.mono ?_;rintro e w5 ⟨kk,er,rfl,hb5,hkr⟩;have kF:=y (j6.q.below hb5);have BQ:=y (Fq.q.trans (Mv.of_below hb5));have nD:=y (nC.q.keep hb5);have z1:=f1 kF.q 1;have c1:w5.cell? ⟨R,1,C⟩=E (I H ((p2:F)+1)):=kF.q.c1;have uO:M (∀W,Calls Tryz.prog 138 #[I H ((p2:F)+1),I H 3] W λe w'=>e= .panicked (o9 (p2+1) 3)/\w'=W):=y (λW=>mR (p2+1) 3 W);have HQ:M (s.length - t2.length=p2+1):=y (by have:=HL2.q;simp at this;omega);clear hb5;rcases hkr with⟨rfl,rfl,hmx⟩|⟨h9,T,pp,rfl⟩
     .by_cases h9:999<V
      .have Q6:=y h9
       have hd9:decide ((999:F)<(V:F))=true:=bN ah;clear h9;go_wp2_with fail;refine(uO.q _).mono ?_;rintro e w9 ⟨rfl,rfl⟩;refine⟨rfl,?_⟩;show dQ R s c w _ _ _ _;rw[HX.q,vT.q,K8.q,av Q6.q];exact⟨by rw[HQ.q],BQ.q.same⟩
      .have Q6:=y h9
       have hd9:decide ((999:F)<(V:F))=false:=bq ah;obtain⟨q,hq⟩:∃q,q=p2+1+(b3::t3).length:=⟨_,rfl⟩;have hqi:(p2:F)+1+((b3::t3).length:F)=(q:F):=by omega
       have arP:(p2:F)+1+((t3.length:F)+1)=(q:F):=by simp at hq;omega
       have Ii:q<=2000000:=by have:=HL3.q;omega
       have Iz:=kF.q.to (b3::t3).length rfl MS.q q hq;have hcy:=nD.q.1;have BP:=nD.q.2.1;have hn1:¬tb=R:=HTB.q;have hn2:¬R=tb:=λe=>HTB.q e.symm
       have BL:=y (Iz.1.put tb 1 (I H (V:F)) yC.q);have Ue:=y ((BQ.q.trans Iz.2).put tb 1 (I H (V:F)) OG.q);have zA:M (Bx ((w5.setCell ⟨R,1,C⟩ (I H (q:F))).setCell ⟨tb,1,C⟩ (I H (V:F))) tb #[G ⟨m.toArray⟩,I H (V:F)]):=y ((nD.q.setOther R 1 (I H (q:F)) hn1).bf 1 ak (I H (V:F)));clear h9 hq Iz;go_wp2_with fail;revert BL Ue zA;generalize((w5.setCell ⟨R,1,C⟩ (I H (q:F))).setCell ⟨tb,1,C⟩ (I H (V:F)))=Z;intro BL Ue zA;clear hcy BP z1 c1;have sO:M (R+1<=(Z.drew.alloc (L #[G ⟨m.toArray⟩,I H (V:F)] 144)).1.size):=y (by have:=BL.q.x.2.2;simp;omega);refine aC 12 [(0,1),(1,1),(2,1),(3,1),(4,1),(5,0),(6,0),(7,2),(8,2),(9,1),(10,1),(11,1),(12,2)] (λ_=>True) (λW'=>W'.cell? ⟨R,5,C⟩=E (.slice c.va c.vn c.vc)/\W'.cell? ⟨tb,0,C⟩=E (G ⟨m.toArray⟩)/\W'.cell? ⟨tb,1,C⟩=E (I H (V:F))) ay ay (trivial) (⟨BL.q.drew.c5,zA.q.drew.1 0,zA.q.drew.1 1⟩) ?_;refine qC ?_;refine aF rfl rfl (λK hK=>?_);go_simp;refine hK _ _ ⟨trivial,(BL.q.drew.below (aA (J _ _) _)).c5,(zA.q.drew.alloc _).1 0,(zA.q.drew.alloc _).1 1⟩ ?_;clear hK K;refine aF rfl rfl (λK hK=>?_);refine lX _ _ 64 rfl i z 24 underlying64 HI.q.1 HI.q.2.1 HI.q.2.2.1 HI.q.2.2.2.1 HI.q.2.2.2.2 rfl (BL.q.drew.n.2.2.alloc _) (E ⟨Z.1.size,0,C⟩) 1 1 (c.vn+1) [⟨m,V⟩] rfl (Row.toN rfl ⟨m,V⟩) jU.q iU.q iM.q sO.q ?_;intro a' c' w7 ad7 Uf ajH;have hx7:=(BL.q.drew.x.keep (aA (J _ _) (L #[G ⟨m.toArray⟩,I H (V:F)] 144))).grown Uf MP.q;have HAD:=y (BL.q.drew.ET (aA (J _ _) (L #[G ⟨m.toArray⟩,I H (V:F)] 144)) a' c' ad7 Uf ajH);have hy7:Bx w7 tb #[G ⟨m.toArray⟩,I H (V:F)]:=(zA.q.drew.alloc _).grown Uf yC.q.2.2;refine hK _ _ ⟨trivial,hx7.1 5,hy7.1 0,hy7.1 1⟩ ?_;have hc7:=hx7.1 5;have hf7:=hx7.2.1 5;clear hK K ad7 Uf ajH hx7 hy7;refine qC ?_;refine bC rfl rfl rfl (λK hK=>?_);go_simp;refine hK _ _ trivial ?_;clear hK K;refine aP ?_;go_wp2_with fail;refine bodyPost_end (results_none rfl _ _ _) rfl ?_;show dQ R s c w _ _ _ _;rw[HX.q,vT.q,K8.q,au Q6.q];exact⟨rfl,q,_,HAD.q.1,(Ue.q.trans (Mv.of_below (J _ _).drew)).trans HAD.q.2⟩
     .have Q6:=y h9
      clear h9;go_wp2_with fail;refine(uO.q _).mono ?_;rintro e w9 ⟨rfl,rfl⟩;refine⟨rfl,?_⟩;show dQ R s c w _ _ _ _;rw[HX.q,vT.q,K8.q,av Q6.q];exact⟨by rw[HQ.q],BQ.q.same⟩
   .have abJ:((b2.toNat:F)!=46)=true:=mM.2 (λe=>h46 (jm.1 (by show b2.toNat=46;omega)))
    have vT:M (gM (b0::t0)= .error (b2::t2,220)):=y (by rw[QY.q,au (by simpa using h46)]);have HQ:M (s.length - (b2::t2).length=p2):=y ah;clear h46
    go_wp2_with (go_quiet (fail))
    refine(mR p2 220 _).mono ?_;rintro e w9 ⟨rfl,rfl⟩;refine⟨rfl,?_⟩;show dQ R s c w _ _ _ _;rw[HX.q,vT.q];exact⟨by rw[HQ.q],Rj.q.same.tr (Same.Zh _ _)⟩
  .have Uc:M (dS l=true):=y hee
   clear hee hsg;go_enter func162,ntmps162;go_wp2_with fail;refine aC 99 [(0,0),(1,2),(2,0),(3,0),(4,0),(5,0),(6,0),(7,0),(8,0),(9,0),(10,0),(11,0),(12,0),(13,0),(14,0)] (λ_=>True) (λW'=>W'.cell? ⟨R,0,C⟩=E (G ⟨s.toArray⟩)/\W'.cell? ⟨R,1,C⟩=E (I H p)) ay ay (trivial) (⟨HH.q.drew.c0,HH.q.drew.c1⟩) ?_;refine qC ?_;refine aF rfl rfl (λK hK=>?_);go_simp;refine(HEN.q _ HB0.q).mono ?_;rintro e w1 ⟨rfl,hb1⟩;have hc1:=HH.q.drew.below hb1;have EZ:=y hc1;have HB1:=y (HB0.q.bZ hb1);rw[Uc.q];refine hK _ _ ⟨trivial,hc1.c0,hc1.c1⟩ ?_;clear hK K hb1 hc1;refine qC ?_;refine aP ?_;go_wp2_with fail;refine(Ao.q _ HB1.q).mono ?_;intro e w2 he
   cases hnm:dF l with
   |error x=>
    rw[hnm] at he;obtain⟨rfl,hs⟩:=he;refine⟨rfl,?_⟩;show dQ R s c w _ _ _ _;rw[HX.q,MW.q x hnm];exact⟨rfl,(Same.of_below HB1.q (λ_ _ h=>h)).tr hs⟩
   |ok mr=>exact absurd hnm (by unfold dF;rw[av (by rw[Uc.q];rfl)];intro h;cases h)
theorem Own.aoQ {X:World}{g:O}(h:X.1.size=g)(l:List Bs)(hl:l.length<=maxLen):Own (X.alloc (L (l.map (λs=>Value.string ⟨s.toArray⟩)).toArray 9)) g 9 1 encStr (.slice (E ⟨g,0,C⟩) l.length l.length) l:=by
 subst h;exact Own.new (hc:=ku) X X.1.size 9 _ l (aB _) (by
  show l.map (λs=>Value.string ⟨s.toArray⟩)=l.flatMap encStr
  induction l with
  |nil=>rfl
  |cons a l ih=>rw[eu,gY,ih (by simp at hl;omega)];rfl) hl
theorem eP.EU {w:World}{R p:O}{s l:Bs}{c:bE}{n:aH}(h:eP w R s p l c n)(i:O)(v:Value)(c':bE)(n':aH)(hi:i<8)(hc:(tC s p c).setIfInBounds i v=tC s p c')
  (h1:c'.na=c.na/\c'.nn=c.nn/\c'.nc=c.nc/\c'.va=c.va/\c'.vn=c.vn/\c'.vc=c.vc) (h2:n'.names=n.names/\n'.aG=n.aG) (h3:c'.kind=n'.kind/\c'.lvl=n'.lvl/\c'.first=n'.first/\c'.bits=n'.bits):
  eP (w.setCell ⟨R,i,C⟩ v) R s p l c' n'/\Mv R c c' w (w.setCell ⟨R,i,C⟩ v):=by
 obtain⟨e1,e2,e3,e4,e5,e6⟩:=h1;obtain⟨⟨_,_,_,_,l1,l2⟩,o1,o2⟩:=h.n;have hx:=h.x.bf i (by simpa using hi) v;rw[hc] at hx;refine⟨⟨hx,⟨⟨h3.1,h3.2.1,h3.2.2.1,h3.2.2.2,by rw[e2,h2.1];exact l1,by rw[e5,h2.2];exact l2⟩,?_,?_⟩,h.d,h.le,h.lim⟩,Same.setCell _ _ _ _ (λe=>e.1 rfl),?_,?_⟩
 .rw[e1,e2,e3,h2.1];exact o1.block λg hg=>Below.heap_setCell _ _ _ _ (by have:=(o1.lt g hg).1;simp;omega)
 .rw[e4,e5,e6,h2.2];exact o2.block λg hg=>Below.heap_setCell _ _ _ _ (by have:=(o2.lt g hg).1;simp;omega)
 .rw[e1,e2,e3];exact λ_ h=> .inl h
 .rw[e4,e5,e6];exact λ_ h=> .inl h
theorem Nr:(∀x∈og,x.length<=100)/\(∀x∈og,(128:UInt8)∉x):=by decide
theorem acg {R p:O}{s l:Bs}{c:bE}{n:aH}(w:World)(h:eP w R s p l c n):
  Calls Tryz.prog 161 #[S (E ⟨R,0,C⟩)] w (dQ R s c w (λ_:Unit=> .tuple #[]) (match eY og l with| .error x=> .error x| .ok (i,r)=> .ok ((),{n with lvl:=1+(i:F)},r))):=by
 obtain⟨X,hX⟩:∃X:Except Er (Unit × aH × Bs),X=(match eY og l with| .error x=> .error x| .ok (i,r)=> .ok ((),{n with lvl:=1+(i:F)},r)):=⟨_,rfl⟩;rw[<-hX];have HX:=y hX;have hbl:=aA (J w.1.size w) (L #[G ⟨#[49]⟩,G ⟨#[50]⟩,G ⟨#[50,46,57,57]⟩,G ⟨#[51]⟩] 9);have yg:=y hbl;have HW:=y (Lg _ (h.below hbl) (E ⟨w.1.size,0,C⟩) 4 4 og ((Own.aoQ rfl og aj).row aj) aj Nr.1 Nr.2);clear hX h hbl;go_enter func161,ntmps161;go_wp2_with fail;refine HW.q.mono ?_;intro e w1 he
 cases hm:eY og l with
 |error x=>
  rw[hm] at he;obtain⟨rfl,hs⟩:=he;refine⟨rfl,?_⟩;show dQ R s c w _ _ _ _;rw[HX.q,hm];exact⟨rfl,(Same.of_below yg.q (λ_ _ h=>h)).tr hs⟩
 |ok ir=>
  obtain⟨i,r⟩:=ir;rw[hm] at he;obtain⟨rfl,q,hc,hmv⟩:=he;have hi:i<4:=by
   unfold eY at hm
   split at hm
   .rename_i j hj
    injection hm with hm;injection hm with hm _;have:=(Hz.1 hj).1;subst hm;exact this
   .cases hm
  have HC:=y hc;have HM:=y ((Mv.of_below yg.q).trans hmv);have HMX:=y hm;have hx4:=hc.x.1 4;have z4:=f1 hc 4;clear hc hmv hm;go_wp2_with fail;refine bodyPost_end (results_none rfl _ _ _) rfl ?_;show dQ R s c w _ _ _ _;rw[HX.q,HMX.q];have:=HC.q.EU 4 (I H (1+(i:F))) {c with lvl:=1+(i:F)} {n with lvl:=1+(i:F)} aj rfl ⟨rfl,rfl,rfl,rfl,rfl,rfl⟩ ⟨rfl,rfl⟩ ⟨HC.q.n.1.1,rfl,HC.q.n.1.2.2.1,HC.q.n.1.2.2.2.1⟩;exact⟨rfl,q,_,this.1,HM.q.trans this.2⟩
theorem ach {l r:Bs}{b:Bool}(h:dN l= .ok (b,r)):r=bI l:=by
 unfold dN at h
 split at h
 .injection h with h;injection h with _ h;exact h.symm
 .split at h
  .cases h
  .injection h with h;injection h with _ h;exact h.symm
theorem Zj {l r:Bs}(h:dN l= .ok (true,r)):dS r=false:=by
 have e:=ach h;unfold dN at h
 split at h
 .injection h with h;injection h with h _;cases h
 .rename_i h1;rw[e];simpa using h1
theorem aci {R p:O}{s l:Bs}{c:bE}{n:aH}(w:World)(h:eP w R s p l c n)(hn:n.first=false):
  Calls Tryz.prog 165 #[S (E ⟨R,0,C⟩)] w (dQ R s c w (λ_:Unit=> .tuple #[]) (match j4 l with| .error x=> .error x| .ok (f,r)=> .ok ((),{n with first:=f},r))):=by
 obtain⟨X,hX⟩:∃X:Except Er (Unit × aH × Bs),X=(match j4 l with| .error x=> .error x| .ok (f,r)=> .ok ((),{n with first:=f},r)):=⟨_,rfl⟩;rw[<-hX];have GK:=y (λW (hb:Below w.1.size w W)=>DI W (h.below hb));have HH:=y h;have HB0:M (Below w.1.size w w.drew):=y ((J _ _).drew);have c0:=h.c0;have c1:=h.c1;have z1:=f1 h 1;have hlen:=h.len;have hlim:=h.lim;have HFN:M ({n with first:=false}=n):=y (by rw[<-hn]);have HD:=y h.d;clear h hn
 cases hm:dN l with
 |error x=>
  have HX:M (X= .error x):=y (by rw[hX];unfold j4;rw[hm]);have Ap:=y hm;have RES:M (∀ch w',(ch=o9 (s.length - x.1.length) x.2/\Same (oO R c) w.drew w')->dQ R s c w (λ_:Unit=> .tuple #[]) X (.panicked ch) w'):=y (by
   rintro ch w' ⟨rfl,h2⟩;rw[HX.q];exact⟨rfl,h2.os,h2.tape,h2.output,h2.size,h2.block⟩)
  clear hX hm;go_enter func165,ntmps165;go_wp2_with fail;refine dA 99 [(0,0),(1,2),(2,0),(3,0),(4,0),(5,0),(6,0),(7,0),(8,0),(9,0),(10,0),(11,0),(12,0),(13,0)] (λ_=>True) (λW'=>W'.cell? ⟨R,0,C⟩=E (G ⟨s.toArray⟩)) (λch w'=>ch=o9 (s.length - x.1.length) x.2/\Same (oO R c) w.drew w') ay ay (λch a1 w1 hd hr=>⟨hd,RES.q ch w1 hr⟩) (trivial) (c0) ?_;refine qC ?_;refine aF rfl rfl (λK hK=>?_);go_simp;refine(GK.q _ HB0.q).mono ?_;intro e w2 he;rw[Ap.q] at he;obtain⟨rfl,hs⟩:=he;exact⟨rfl,rfl,hs⟩
 |ok br=>
  obtain⟨b,r⟩:=br
  cases b with
  |false=>
   have HX:M (X= .ok ((),{n with first:=false},l)):=y (by rw[hX];unfold j4;rw[hm]);have Ap:=y hm;clear hX hm;go_enter func165,ntmps165;go_wp2_with fail;refine aC 99 [(0,0),(1,2),(2,0),(3,0),(4,0),(5,0),(6,0),(7,0),(8,0),(9,0),(10,0),(11,0),(12,0),(13,0)] (λ_=>True) (λW'=>W'.cell? ⟨R,0,C⟩=E (G ⟨s.toArray⟩)) ay ay (trivial) (c0) ?_;refine qC ?_;refine aF rfl rfl (λK hK=>?_);go_simp;refine(GK.q _ HB0.q).mono ?_;intro e w2 he;rw[Ap.q] at he;obtain⟨rfl,q,hc2,hm2⟩:=he;have eF:=y hc2;have lM:=y ((Mv.of_below HB0.q).trans hm2);refine hK _ _ ⟨trivial,hc2.c0⟩ ?_;have hq1:=hc2.c1;have hzq:=f1 hc2 1;clear hK K hc2 hm2 c0 c1 z1;refine qC ?_;refine aP ?_;go_wp2_with fail;refine bodyPost_end (results_none rfl _ _ _) rfl ?_;show dQ R s c w _ _ _ _;rw[HX.q,HFN.q];have hx:=eF.q.x.bf 1 ak (I H (p:F));exact⟨rfl,p,c,⟨hx,⟨eF.q.n.1,eF.q.n.2.1.block λg hg=>Below.heap_setCell _ _ _ _ (by have:=(eF.q.n.2.1.lt g hg).1;simp;omega),eF.q.n.2.2.block λg hg=>Below.heap_setCell _ _ _ _ (by have:=(eF.q.n.2.2.lt g hg).1;simp;omega)⟩,HD.q,by omega,hlim⟩,lM.q.trans ⟨Same.setCell _ _ _ _ (λe=>e.1 rfl),λ_ h=> .inl h,λ_ h=> .inl h⟩⟩
  |true=>
   have hee:=Zj hm;obtain⟨b0,t0,rfl⟩:∃b0 t0,r=b0::t0:=by cases r with
    |nil=>exact absurd hee aj
    |cons a t=>exact⟨a,t,rfl⟩
   by_cases h45:b0=45
   .subst h45
    have HX:M (X= .ok ((),{n with first:=true},t0)):=y (by rw[hX];unfold j4;rw[hm];simp only[];rw[av (show(45::t0:Bs).head?=E 45 from rfl)];rfl);have Ap:=y hm;clear hX hm hee;go_enter func165,ntmps165;go_wp2_with fail;refine aC 99 [(0,0),(1,2),(2,0),(3,0),(4,0),(5,0),(6,0),(7,0),(8,0),(9,0),(10,2),(11,0),(12,0),(13,0)] (λ_=>True) (λW'=>W'.cell? ⟨R,0,C⟩=E (G ⟨s.toArray⟩)) ay ay (trivial) (c0) ?_;refine qC ?_;refine aF rfl rfl (λK hK=>?_);go_simp;refine(GK.q _ HB0.q).mono ?_;intro e w2 he;rw[Ap.q] at he;obtain⟨rfl,q,hc2,hm2⟩:=he;have eF:=y hc2;have lM:=y ((Mv.of_below HB0.q).trans hm2);refine hK _ _ ⟨trivial,hc2.c0⟩ ?_;have hq1:=hc2.c1;have hzq:=f1 hc2 1;have hix:=λW=>jM Tryz.underlying9 s q 45 hc2.at_ W
    clear hK K hc2 hm2 c0 c1 z1;refine qC ?_;refine aF rfl rfl (λK hK=>?_);go_simp;refine hK _ _ ⟨trivial,eF.q.c0⟩ ?_;clear hK K;refine qC ?_;refine aP ?_;have Ii:q<=1000000:=by have:=eF.q.le;have:=eF.q.lim;omega
    have HT1:=eF.q.to 1 rfl ak (q+1) rfl;have HT2:=HT1.1.EU 6 (.bool true) {c with first:=true} {n with first:=true} aj rfl ⟨rfl,rfl,rfl,rfl,rfl,rfl⟩ ⟨rfl,rfl⟩ ⟨eF.q.n.1.1,eF.q.n.1.2.1,rfl,eF.q.n.1.2.2.2.1⟩;rw[BX] at HT1 HT2;have HA1:=y HT1;have HA2:=y HT2;have hx6:=eF.q.x.1 6;have z6:=f1 eF.q 6;clear HT1 HT2;go_wp2_with fail;refine bodyPost_ret (results_none rfl _ _ _) rfl ?_;show dQ R s c w _ _ _ _;rw[HX.q];exact⟨rfl,q+1,_,HA2.q.1,lM.q.trans (HA1.q.2.trans HA2.q.2)⟩
   .have ZJ:((b0.toNat:F)==45)=false:=aU.2 (λe=>h45 (jm.1 (by show b0.toNat=45;omega)))
    have HX:M (X= .ok ((),{n with first:=false},l)):=y (by rw[hX];unfold j4;rw[hm];simp only[];rw[au (by simpa using h45)]);have Ap:=y hm;clear hX hm hee h45;go_enter func165,ntmps165;go_wp2_with fail;refine aC 99 [(0,0),(1,2),(2,0),(3,0),(4,0),(5,0),(6,0),(7,0),(8,0),(9,0),(10,2),(11,0),(12,0),(13,0)] (λ_=>True) (λW'=>W'.cell? ⟨R,0,C⟩=E (G ⟨s.toArray⟩)) ay ay (trivial) (c0) ?_;refine qC ?_;refine aF rfl rfl (λK hK=>?_);go_simp;refine(GK.q _ HB0.q).mono ?_;intro e w2 he;rw[Ap.q] at he;obtain⟨rfl,q,hc2,hm2⟩:=he;have eF:=y hc2;have lM:=y ((Mv.of_below HB0.q).trans hm2);refine hK _ _ ⟨trivial,hc2.c0⟩ ?_;have hq1:=hc2.c1;have hzq:=f1 hc2 1;have hix:=λW=>jM Tryz.underlying9 s q b0 hc2.at_ W
    clear hK K hc2 hm2 c0 c1 z1;refine qC ?_;refine aF rfl rfl (λK hK=>?_);go_simp;refine hK _ _ ⟨trivial,eF.q.c0⟩ ?_;clear hK K;refine qC ?_;refine aP ?_;go_wp2_with fail;refine bodyPost_end (results_none rfl _ _ _) rfl ?_;show dQ R s c w _ _ _ _;rw[HX.q,HFN.q];have hx:=eF.q.x.bf 1 ak (I H (p:F));exact⟨rfl,p,c,⟨hx,⟨eF.q.n.1,eF.q.n.2.1.block λg hg=>Below.heap_setCell _ _ _ _ (by have:=(eF.q.n.2.1.lt g hg).1;simp;omega),eF.q.n.2.2.block λg hg=>Below.heap_setCell _ _ _ _ (by have:=(eF.q.n.2.2.lt g hg).1;simp;omega)⟩,HD.q,by omega,hlim⟩,lM.q.trans ⟨Same.setCell _ _ _ _ (λe=>e.1 rfl),λ_ h=> .inl h,λ_ h=> .inl h⟩⟩
def EW:O->O
 |0=>160
 |1=>161
 |_=>162
def Aj (a:O)(n:aH)(l:Bs):Except Er (Unit × aH × Bs):=
 if a=0 then(match dF l with| .error x=> .error x| .ok (m,r)=> .ok ((),addN n m,r))
 else if a=1 then(match eY og l with| .error x=> .error x| .ok (i,r)=> .ok ((),{n with lvl:=1+(i:F)},r))
 else(match gM l with| .error x=> .error x| .ok (v,r)=> .ok ((),ET n v,r))
def l7:List O->aH->Bs->Except Er (Unit × aH × Bs)
 |[],n,l=> .ok ((),n,l)
 |a::t,n,l=>match d9 l with
  | .error x=> .error x
  | .ok r=>match Aj a n r with
   | .error x=> .error x
   | .ok (_,n',r')=>l7 t n' r'
def DN (R:O)(a:O):List Value:=[.func (.func (EW a)) #[S (E ⟨R,0,C⟩)] #[]]
theorem Zk:∀args w,(callFunc 160 args).run Tryz.prog w= .ok (.enter 160 args) w:=enters_of func160 ay rfl
theorem V9:∀args w,(callFunc 161 args).run Tryz.prog w= .ok (.enter 161 args) w:=enters_of func161 ay rfl
theorem Zl:∀args w,(callFunc 162 args).run Tryz.prog w= .ok (.enter 162 args) w:=enters_of func162 ay rfl
theorem ajJ {R p:O}{s l:Bs}{c:bE}{n:aH}(a:O)(w:World)(h:eP w R s p l c n)(hG:vO R w)(hn:n.names.length<=1000)(hv:n.aG.length<=1000):
  Calls Tryz.prog (EW a) #[S (E ⟨R,0,C⟩)] w (dQ R s c w (λ_:Unit=> .tuple #[]) (Aj a n l)):=by
 unfold Aj
 match a with
 |0=>exact R4 w h hG.tabs hn
 |1=>exact acg w h
 |a+2=>exact La w h hG hv
theorem Ug {a:O}{n n':aH}{l r:Bs}{u:Unit}(h:Aj a n l= .ok (u,n',r)):n'.names.length<=n.names.length+1/\n'.aG.length<=n.aG.length+1:=by
 unfold Aj at h
 split at h
 .split at h
  .cases h
  .injection h with h;injection h with _ h;injection h with h _;subst h;simp
 .split at h
  .split at h
   .cases h
   .injection h with h;injection h with _ h;injection h with h _;subst h;simp
  .split at h
   .cases h
   .injection h with h;injection h with _ h;injection h with h _;subst h;simp
theorem Mv.row {α:Type}{enc:α->List Value}{k:O}{R:O}{c c':bE}{w w':World}(hm:Mv R c c' w w'){b o n cc:O}{xs:List α}(h:Row w k enc (E ⟨b,o,C⟩) n cc xs)(hb:oO R c b)(hl:b<w.1.size):Row w' k enc (E ⟨b,o,C⟩) n cc xs:=
 ⟨h.1,h.2.1,h.2.2.1,h.2.2.2.1,λi x hx=>let⟨b',o',e,hc⟩:=h.2.2.2.2 i x hx;⟨b',o',e,λj v hv=>by
  injection e with e;injection e with e1 e2;subst e1;exact(World.cell?_of_block (a:=⟨b,o'+i*k+j,C⟩) (hm.same.block b hb hl)).trans (hc j v hv)⟩⟩
theorem yZ {R p:O}{s l:Bs}{c:bE}{n:aH}(w:World)(h:eP w R s p l c n)(hG:vO R w)(b o nn cc:O)(acts:List O)(hr:Row w 1 (DN R) (E ⟨b,o,C⟩) nn cc acts)(hb:oO R c b)(hbl:b<w.1.size)(hnn:nn<=10)(hn:n.names.length<=900)(hv:n.aG.length<=900):
  Calls Tryz.prog 163 #[S (E ⟨R,0,C⟩),.slice (E ⟨b,o,C⟩) nn cc] w (dQ R s c w (λ_:Unit=> .tuple #[]) (l7 acts n l)):=by
 obtain⟨X,hX⟩:∃X,X=l7 acts n l:=⟨_,rfl⟩;rw[<-hX];have HR:=y hr;have HH:=y h;have HG:=y hG;have kI:=y hb;have yg:=y hbl;have HX:=y hX;have HN:=y (⟨hn,hv⟩:_/\_);have hlen:=hr.len;clear hr h hG hb hbl hX hn hv;go_enter func163,ntmps163;go_wp2_with fail
 go_loopw [8] (λi wr=>∃(W:World)(k q:O)(l1:Bs)(c1:bE)(n1:aH),W=wr/\i= I H k/\k<=nn/\eP W R s q l1 c1 n1/\Mv R c c1 w W/\vO R W/\l7 (acts.drop k) n1 l1=X/\n1.names.length<=900+k/\n1.aG.length<=900+k) (λi _=>nn - (RowKit.intOf i).toNat)
 case atStart=>exact⟨_,0,p,l,c,n,rfl,rfl,aZ _,HH.q,Mv.refl _ _ _,HG.q,HX.q.symm,HN.q.1,HN.q.2⟩
 case round=>
  obtain⟨W,k,q,l1,c1,n1,rfl,rfl,hk,hc,hm,hg,hx,h1,h2⟩:=hrel;by_cases hlt:k<nn
  .obtain⟨a,b',o',hxa,hab,hcell⟩:=(hm.row HR.q kI.q yg.q).at_ hlt
   injection hab with hab;injection hab with e1 e2;subst e1 e2;have hc0:=hcell 0 _ rfl;simp only[gT,dM] at hc0;have hdr:acts.drop k=a::acts.drop (k+1):=by
    obtain⟨hl1,he⟩:=bO.1 hxa;rw[oD hl1,he]
   rw[hdr] at hx;simp only[l7] at hx;have HC:=y hc;have HM:=y hm;have Zm:=y hg;have xH:=y hx;have Fu:=y (⟨h1,h2⟩:_/\_);have HMU:=y (TJ W hc);clear hcell hxa hdr hc hm hg hx h1 h2;go_wp2_with fail;refine HMU.q.mono ?_;intro e w2 he
   cases hmu:d9 l1 with
   |error x=>
    rw[hmu] at he;obtain⟨rfl,hs⟩:=he;refine⟨rfl,?_⟩;show dQ R s c w _ _ _ _;rw[<-xH.q,hmu];exact⟨rfl,HM.q.jS hs⟩
   |ok r=>
    rw[hmu] at he;obtain⟨rfl,q2,hc2,hm2⟩:=he;have fw:M ((match Aj a n1 r with| .error x=> .error x| .ok (_,n',r')=>l7 (acts.drop (k+1)) n' r')=X):=y (by have:=xH.q;rw[hmu] at this;exact this);have eF:=y hc2;have lM:=y (HM.q.trans hm2);have HG2:=y (Zm.q.mv HC.q hm2.same);have HAC:=y (ajJ a w2 hc2 HG2.q (by have:=Fu.q;omega) (by have:=Fu.q;omega));have hcf:∀args w,(callFunc (EW a) args).run Tryz.prog w= .ok (.enter (EW a) args) w:=by
     match a with
     |0=>exact Zk
     |1=>exact V9
     |a+2=>exact Zl
    clear hc2 hm2 hmu;go_wp2_with fail;refine HAC.q.mono ?_;intro e w3 he
    cases ha:Aj a n1 r with
    |error x=>
     rw[ha] at he;obtain⟨rfl,hs⟩:=he;refine⟨rfl,?_⟩;show dQ R s c w _ _ _ _;rw[<-fw.q,ha];exact⟨rfl,lM.q.jS hs⟩
    |ok ur=>
     obtain⟨u,n3,r3⟩:=ur;rw[ha] at he;obtain⟨rfl,q3,c3,hc3,tN⟩:=he;have hal:=Ug ha;have kZ:M (l7 (acts.drop (k+1)) n3 r3=X):=y (by have:=fw.q;rw[ha] at this;exact this);have kR:=y hc3;have tQ:=y (lM.q.trans tN);have lN:=y (HG2.q.mv eF.q tN.same);have HAL:=y hal;clear hc3 tN hal ha;go_wp2_with fail;go_roundw
     case rel=>exact⟨_,k+1,q3,r3,c3,n3,rfl,by go_num,by omega,kR.q,tQ.q,lN.q,kZ.q,by have:=HAL.q;have:=Fu.q;omega,by have:=HAL.q;have:=Fu.q;omega⟩
     case measure=>simp[RowKit.intOf];omega
  .obtain rfl:k=nn:=by omega
   rw[List.drop_of_length_le ah] at hx;have xH:M (X= .ok ((),n1,l1)):=y hx.symm;have HC:=y hc;have HM:=y hm;clear hx hc hm hg h1 h2;go_wp2_with fail;refine bodyPost_end (results_none rfl _ _ _) rfl ?_;show dQ R s c w _ _ _ _;rw[xH.q];exact⟨rfl,q,c1,HC.q,HM.q⟩
theorem ajL:∀k:Fin 4,∀b:Fin 8,b.val<2 ^ k.val->Go.bits .or H (b.val:F) (2 ^ k.val:F)=(b.val:F)+2 ^ k.val:=by decide
theorem or_bit (k b:O)(hk:k<4)(hb:b<2 ^ k):Go.bits .or H (b:F) (2 ^ k:F)=(b:F)+2 ^ k:=by
 have h8:b<8:=bM hb (by
  have:k<=3:=by omega
  exact bX (DJ aj this) aj)
 exact ajL ⟨k,hk⟩ ⟨b,h8⟩ hb
theorem acj (k i:O)(h:k+i<4):wrap64 ((k:F)+(i:F))=((k+i:O):F):=by
 unfold wrap64;omega
theorem Ns (k i:O)(h:k+i<4):wrap64 ((k:F)+(i:F)+1)=((k+i+1:O):F):=by
 unfold wrap64;omega
theorem afj (m:O)(h:m<4)(W:World):(Go.Op.shift .shl H 1 H (m:F)).run Tryz.prog W= .ok (I H (2 ^ m)) W:=by
 rcases(by omega:m=0\/m=1\/m=2\/m=3) with rfl|rfl|rfl|rfl <;> rfl
theorem afk (k i:O)(h:k+i<4)(W:World):(Go.Op.shift .shl H 1 H ((k:F)+(i:F))).run Tryz.prog W= .ok (I H (2 ^ (k+i))) W:=by
 have:=afj (k+i) h W
 simpa using this
theorem Zn {w:World}(hg:kg w)(k:O)(hk:k<=4):Row w 1 encStr (E ⟨1,k,C⟩) (4 - k) (4 - k) (kJ.drop k):=by
 refine⟨by simp[kJ],aB _,by omega,λh=>(by cases h),λi x hx=>⟨1,k,rfl,λj v hv=>?_⟩⟩;rw[EI] at hx;have hi:k+i<4:=by
  have:=(bO.1 hx).1
  simpa[kJ] using this
 obtain rfl:j=0:=by
  have:=(bO.1 hv).1
  simpa[encStr] using this
 have hv':v= G ⟨x.toArray⟩:=by simpa[encStr] using hv.symm
 have hx':x=lg (k+i):=by
  have h4:∀m,m<4->kJ[m]?=E (lg m):=λm hm=>by
   rcases(by omega:m=0\/m=1\/m=2\/m=3) with rfl|rfl|rfl|rfl <;> rfl
  rw[h4 _ hi] at hx;injection hx with hx;exact hx.symm
 have:=hg.2.2.1 (k+i) hi;rw[hv',hx']
 simpa using this
def Wd (k:O):O:=if k=4 then 0 else k
theorem Zo (k:O)(hk:k<=4)(W:World):(Instr.sliceAt 145 (S (E ⟨1,0,C⟩)) (E (I H (k:F))) C C).run Tryz.prog W= .ok (.slice (E ⟨1,Wd k,C⟩) (4 - k) (4 - k)) W:=by
 rcases(by omega:k=0\/k=1\/k=2\/k=3\/k=4) with rfl|rfl|rfl|rfl|rfl <;> kernel_rfl
theorem Wi {w:World}(hg:kg w)(k:O)(hk:k<=4):Row w 1 encStr (E ⟨1,Wd k,C⟩) (4 - k) (4 - k) (kJ.drop k):=by
 by_cases h4:k=4
 .subst h4
  exact⟨rfl,aB _,by omega,λh=>(by cases h),λi x hx=>by simp[kJ] at hx⟩
 .unfold Wd;rw[au h4];exact Zn hg k hk
theorem Nt:(∀x∈kJ,x.length<=100)/\(∀x∈kJ,(128:UInt8)∉x):=by decide
theorem NH {R p:O}{s l:Bs}{c:bE}{n:aH}(w:World)(h:eP w R s p l c n)(hG:vO R w)(hb:n.bits=0):
  Calls Tryz.prog 164 #[S (E ⟨R,0,C⟩)] w (dQ R s c w (λ_:Unit=> .tuple #[]) (match jo 5 0 0 l with| .error x=> .error x| .ok (b,r)=> .ok ((),{n with bits:=b},r))):=by
 obtain⟨Y,hY⟩:∃Y:Except Er (Unit × aH × Bs),Y=(match jo 5 0 0 l with| .error x=> .error x| .ok (b,r)=> .ok ((),{n with bits:=b},r)):=⟨_,rfl⟩;rw[<-hY];have qQ:M (∀x,jo 5 0 0 l= .error x->Y= .error x):=y (λx hx=>by rw[hY,hx]);have yG:M (∀b r,jo 5 0 0 l= .ok (b,r)->Y= .ok ((),{n with bits:=b},r)):=y (λb r hx=>by rw[hY,hx]);clear hY;obtain⟨X,hX⟩:∃X:Except Er (F × Bs),X=jo 5 0 0 l:=⟨_,rfl⟩;rw[<-hX] at qQ yG;have HX:=y hX;have HH:=y h;have HG:=y hG;have HN:M (n={n with bits:=0}):=y (by cases n;simp at hb;subst hb;rfl);clear hX h hG hb;go_enter func164,ntmps164;go_wp2_with fail
 go_loopw [2] (λi wr=>∃(W:World)(k f q b:O)(l1:Bs)(c1:bE),W=wr/\i= I H k/\k<=4/\5<=f+k/\b<2 ^ k/\eP W R s q l1 c1 {n with bits:=b}/\Mv R c c1 w W/\vO R W/\jo f k b l1=X) (λi _=>4 - (RowKit.intOf i).toNat)
 case atStart=>exact⟨_,0,5,p,0,l,c,rfl,rfl,by omega,by omega,by decide,by have:=HH.q;rw[HN.q] at this;exact this,Mv.refl _ _ _,HG.q,HX.q.symm⟩
 case round=>
  obtain⟨W,k,f,q,b,l1,c1,rfl,rfl,hk,hf,hbk,hc,hm,hg,hx⟩:=hrel;obtain⟨f,rfl⟩:∃f',f=f'+1:=⟨f - 1,by omega⟩;simp only[jo] at hx;have HC:=y hc;have HM:=y hm;have Zm:=y hg;have xH:=y hx;have HBK:=y hbk;have HF:=y hf;have GK:=y (DI W hc);clear hc hm hg hx hbk;go_wp2_with fail;refine GK.q.mono ?_;intro e w2 he
  cases hmo:dN l1 with
  |error x=>
   rw[hmo] at he;obtain⟨rfl,hs⟩:=he;refine⟨rfl,?_⟩;show dQ R s c w _ _ _ _;rw[qQ.q x (by have:=xH.q;rw[hmo] at this;exact this.symm)];exact⟨rfl,HM.q.jS hs⟩
  |ok br=>
   obtain⟨bb,r⟩:=br;rw[hmo] at he;obtain⟨rfl,q2,hc2,hm2⟩:=he;have eF:=y hc2;have lM:=y (HM.q.trans hm2);have HG2:=y (Zm.q.mv HC.q hm2.same)
   cases bb
   .have fw:M (X= .ok ((b:F),r)):=y (by have:=xH.q;rw[hmo] at this;exact this.symm)
    clear hc2 hm2 hmo;go_wp2_with fail;refine bodyPost_end (results_none rfl _ _ _) rfl ?_;show dQ R s c w _ _ _ _;rw[yG.q _ _ fw.q];exact⟨rfl,q2,c1,eF.q,lM.q⟩
   .have fw:M ((match eY (kJ.drop k) r with| .error x=> .error x| .ok (i,r')=>jo f (k+i+1) ((b:F)+2 ^ (k+i)) r')=X):=y (by have:=xH.q;rw[hmo] at this;exact this)
    have hsg:=λW=>Zo k hk W
    have HW:=y (Lg w2 hc2 (E ⟨1,Wd k,C⟩) (4 - k) (4 - k) (kJ.drop k) (Wi HG2.q.l k hk) ah (λx hx=>Nt.1 x (AP hx)) (λx hx=>Nt.2 x (AP hx)));clear hc2 hm2 hmo;go_wp2_with fail;refine HW.q.mono ?_;intro e w3 he
    cases hwo:eY (kJ.drop k) r with
    |error x=>
     rw[hwo] at he;obtain⟨rfl,hs⟩:=he;refine⟨rfl,?_⟩;show dQ R s c w _ _ _ _;rw[qQ.q x (by have:=fw.q;rw[hwo] at this;exact this.symm)];exact⟨rfl,lM.q.jS hs⟩
    |ok ir=>
     obtain⟨i,r3⟩:=ir;rw[hwo] at he;obtain⟨rfl,q3,hc3,tN⟩:=he;have hi:k+i<4:=by
      unfold eY at hwo
      split at hwo
      .rename_i j hj
       injection hwo with hwo;injection hwo with hwo _;have:=(Hz.1 hj).1;subst hwo;simp[kJ] at this;omega
      .cases hwo
     have kZ:M (jo f (k+i+1) ((b:F)+2 ^ (k+i)) r3=X):=y (by have:=fw.q;rw[hwo] at this;exact this);have hor:=or_bit (k+i) b hi (bM HBK.q (DJ aj ah));have kR:=y hc3;have tQ:=y (lM.q.trans tN);have lN:=y (HG2.q.mv eF.q tN.same);have HI:=y hi;have zD:=y hor;clear hc3 tN hwo hi hor;have H7:M (w3.cell? ⟨R,7,C⟩=E (I H (b:F))):=y (by have h:=kR.q.x.1 7;have hb:c1.bits=(b:F):=kR.q.n.1.2.2.2.1;rw[<-hb];exact h);have hc7:=H7.q;have hf7:=f1 kR.q 7;have hsh:=λW=>afk k i HI.q W;have hor:=zD.q
     go_wp2_with fail;rw[acj k i HI.q];refine aC 11 [(0,1),(1,1),(2,1),(3,1),(4,0),(5,1),(6,1),(7,0),(8,1),(9,1),(10,1),(11,2)] (λ_=>True) (λW'=>W'.cell? ⟨R,7,C⟩=E (I H (b:F))) ay ay (trivial) (H7.q) ?_;refine qC ?_;refine bC rfl rfl rfl (λK hK=>?_);go_simp;refine hK _ _ trivial ?_;clear hK K;refine aP ?_;have h4:=kR.q.EU 7 (I H ((b:F)+2 ^ (k+i))) {c1 with bits:=(b:F)+2 ^ (k+i)} {n with bits:=(b:F)+2 ^ (k+i)} aj rfl ⟨rfl,rfl,rfl,rfl,rfl,rfl⟩ ⟨rfl,rfl⟩ ⟨kR.q.n.1.1,kR.q.n.1.2.1,kR.q.n.1.2.2.1,rfl⟩;have j6:=y h4.1.drew;have Fq:=y (tQ.q.trans (h4.2.trans (Mv.of_below (J _ _).drew)));have Zp:=y (lN.q.mv kR.q (h4.2.trans (Mv.of_below (J _ _).drew)).same);clear h4;go_wp2_with fail;go_roundw
     case rel=>exact⟨_,k+i+1,f,q3,b+2 ^ (k+i),r3,_,rfl,by rw[Ns k i HI.q],by have:=HI.q;omega,by have:=HF.q;omega,by have:=HBK.q;have:2 ^ k<=2 ^ (k+i):=DJ aj ah;rw[Nat.pow_succ];omega,by have:=j6.q;simpa using this,Fq.q,Zp.q,by have:=kZ.q;simpa using this⟩
     case measure=>have:=HI.q;rw[Ns k i HI.q];simp[RowKit.intOf] <;> omega
theorem GL {R p:O}{s l:Bs}{c:bE}{n:aH}(w:World)(h:eP w R s p l c n)(hG:vO R w)(rr:F)(most:O)(pairs:Bool)(hmr:ji rr=(most:F))(um:(rr==115)=pairs)(hml:most<=300)(hn:n.names.length<=600)(hv:n.aG.length<=600):
  Calls Tryz.prog 166 #[S (E ⟨R,0,C⟩),.int .i32 rr] w (dQ R s c w (λ_:Unit=> .tuple #[]) (match bK pairs most (most+1) 0 n.names n.aG l with| .error x=> .error x| .ok (b,r)=> .ok ((),{n with names:=b.1,aG:=b.2},r))):=by
 obtain⟨Y,hY⟩:∃Y:Except Er (Unit × aH × Bs),Y=(match bK pairs most (most+1) 0 n.names n.aG l with| .error x=> .error x| .ok (b,r)=> .ok ((),{n with names:=b.1,aG:=b.2},r)):=⟨_,rfl⟩;rw[<-hY];obtain⟨X,hX⟩:∃X:Except Er ((List Bs × List To) × Bs),X=bK pairs most (most+1) 0 n.names n.aG l:=⟨_,rfl⟩;rw[<-hX] at hY;have qQ:M (∀x,X= .error x->Y= .error x):=y (λx hx=>by rw[hY,hx]);have yG:M (∀b r,X= .ok (b,r)->Y= .ok ((),{n with names:=b.1,aG:=b.2},r)):=y (λb r hx=>by rw[hY,hx]);clear hY;obtain⟨i,z,hi,hz,hsize,dx,hzs⟩:=nL;have HI:=y (⟨hi,hz,hsize,dx,hzs⟩:_/\_/\_/\_/\_);have HX:=y hX;have HH:=y h;have HG:=y hG;have HN:=y (⟨hn,hv⟩:_/\_);have HMR:=y hmr;have HML:=y hml;clear hX h hG hn hv hi hz hsize dx hzs hml;have ajM:=y (λW=>PI rr W);clear hmr;go_enter func166,ntmps166;go_wp2_with fail
 go_loopw [4] (λi wr=>∃(W:World)(k f q:O)(l1:Bs)(c1:bE)(n1:aH),W=wr/\i= I H k/\k<=most/\most+1<=f+k/\eP W R s q l1 c1 n1/\Mv R c c1 w W/\vO R W/\bK pairs most f k n1.names n1.aG l1=X/\(∀ns vs,{n1 with names:=ns,aG:=vs}={n with names:=ns,aG:=vs})/\n1.names.length<=600+k/\n1.aG.length<=600+k) (λi _=>most - (RowKit.intOf i).toNat)
 case atStart=>exact⟨_,0,most+1,p,l,c,n,rfl,rfl,by omega,by omega,HH.q,Mv.refl _ _ _,HG.q,HX.q.symm,λ_ _=>rfl,HN.q.1,HN.q.2⟩
 case round=>
  obtain⟨W,k,f,q,l1,c1,n1,rfl,rfl,hk,hf,hc,hm,hg,hx,hq,h1,h2⟩:=hrel;obtain⟨f,rfl⟩:∃f',f=f'+1:=⟨f - 1,by omega⟩;simp only[bK] at hx;have HC:=y hc;have HM:=y hm;have Zm:=y hg;have xH:=y hx;have HQ:=y hq;have Fu:=y (⟨h1,h2⟩:_/\_);have HF:=y hf;have HK:=y hk;have GK:=y (DI W hc);clear hc hm hg hx hq h1 h2 hf;go_wp2_with fail;refine GK.q.mono ?_;intro e w2 he
  cases hmo:dN l1 with
  |error x=>
   rw[hmo] at he;obtain⟨rfl,hs⟩:=he;refine⟨rfl,?_⟩;show dQ R s c w _ _ _ _;rw[qQ.q x (by have:=xH.q;rw[hmo] at this;exact this.symm)];exact⟨rfl,HM.q.jS hs⟩
  |ok br=>
   obtain⟨bb,r⟩:=br;rw[hmo] at he;obtain⟨rfl,q2,hc2,hm2⟩:=he;have eF:=y hc2;have lM:=y (HM.q.trans hm2);have HG2:=y (Zm.q.mv HC.q hm2.same)
   cases bb
   .have fw:M (X= .ok ((n1.names,n1.aG),r)):=y (by have:=xH.q;rw[hmo] at this;exact this.symm)
    clear hc2 hm2 hmo;go_wp2_with fail;refine bodyPost_end (results_none rfl _ _ _) rfl ?_;show dQ R s c w _ _ _ _;rw[yG.q _ _ fw.q,<-HQ.q];exact⟨rfl,q2,c1,eF.q,lM.q⟩
   .have fw:M ((if k=most/\dJ r=true then .error (r,3) else match dF r with
     | .error x=> .error x
     | .ok (nm,r1)=>
      if pairs=true then match d9 r1 with
       | .error x=> .error x
       | .ok r2=>match gM r2 with
        | .error x=> .error x
        | .ok (v,r3)=>bK pairs most f (k+1) (n1.names++[nm]) (n1.aG++[v]) r3
      else bK pairs most f (k+1) (n1.names++[nm]) n1.aG r1)=X):=y (by have:=xH.q;rw[hmo] at this;exact this)
    have MP:M ((Value.slice c1.na c1.nn c1.nc).ownBlock≠E R):=y (hc2.n.2.1.far' (.inl ah));have hcn:=hc2.n.1.2.2.2.2.1;have jU:M (n1.names.length+1=c1.nn+1):=y ah;have iU:M ((c1.nn+1)*16<=140737488355328):=y (by have:=Fu.q;have:=HML.q;omega);have iM:M (c1.nn+1<=maxLen):=y (by have:=Fu.q;have:=HML.q;unfold maxLen;omega);clear hcn;by_cases hkm:k=most
    .have hev:((k:F)==ji rr)=true:=by rw[HMR.q,hkm];exact beq_self_eq_true _
     have HKM:=y hkm;clear hkm;have Fx:=y (λW (hb:Below w2.1.size w2 W)=>LW W (hc2.below hb) (Utf8Tabs_below HG2.q.tabs hb));clear hc2 hm2 hmo;go_wp2_with fail;refine(ajM.q w2).mono ?_;rintro e w3' ⟨rfl,Jq⟩;have acn:=y Jq;clear Jq;go_wp2_with fail;refine(Fx.q w3' acn.q).mono ?_;rintro e w3 ⟨rfl,hb3⟩;have cZ:=y (acn.q.trans (hb3.mono acn.q.size));clear hb3
     cases hbe:dJ r
     .have HE:M (∀x,dF r= .error x->X= .error x):=y (λx hx=>by rw[<-fw.q,au (by rw[hbe];simp),hx])
      have Kj:M (∀mr,dF r≠ .ok mr):=y (λmr hx=>by simp[dF,hbe] at hx);have kR:=y (eF.q.below cZ.q);have tQ:=y (lM.q.trans (Mv.of_below cZ.q));have lN:=y (HG2.q.mv eF.q (Mv.of_below cZ.q:Mv R c1 c1 w2 w3).same);have Ao:=y (λW (hb:Below w3.1.size w3 W)=>GQ W (kR.q.below hb) (Utf8Tabs_below lN.q.tabs hb));have HB0:M (Below w3.1.size w3 w3.drew):=y ((J _ _).drew);have RES:M (∀ch w',(∃(r':Bs)(m:F),dF r= .error (r',m)/\ch=o9 (s.length - r'.length) m/\Same (oO R c1) w3.drew w')->dQ R s c w (λ_:Unit=> .tuple #[]) Y (.panicked ch) w'):=y (by
       rintro ch w' ⟨r',m,h1,rfl,h2⟩;rw[qQ.q _ (HE.q _ h1)];exact⟨rfl,(tQ.q.trans (Mv.of_below HB0.q)).jS h2⟩)
      go_wp2_with fail;refine dA 13 [(0,1),(1,1),(2,1),(3,1),(4,1),(5,0),(6,1),(7,2),(8,2),(9,2),(10,1),(11,1),(12,1),(13,2)] (λ_=>True) (λW'=>W'.cell? ⟨R,3,C⟩=E (.slice c1.na c1.nn c1.nc)) (λch w'=>∃(r':Bs)(m:F),dF r= .error (r',m)/\ch=o9 (s.length - r'.length) m/\Same (oO R c1) w3.drew w') ay ay (λch a1 w1 hd hr=>⟨hd,RES.q ch w1 hr⟩) (trivial) (kR.q.drew.c3) ?_;refine qC ?_;refine aF rfl rfl (λK hK=>?_);go_simp;refine(Ao.q _ HB0.q).mono ?_;intro e w4 he
      cases hnm:dF r with
      |error x=>
       rw[hnm] at he;obtain⟨rfl,hs⟩:=he;exact⟨rfl,x.1,x.2,rfl,rfl,hs⟩
      |ok mr=>
      exact absurd hnm (Kj.q mr)
     .have HE:M (X= .error (r,3)):=y (by rw[<-fw.q,av ⟨HKM.q,hbe⟩])
      have kR:=y (eF.q.below cZ.q);have hc1:=kR.q.x.1 1;go_wp2_with fail;refine(mR q2 3 _).mono ?_;rintro e w4 ⟨rfl,rfl⟩;refine⟨rfl,?_⟩;show dQ R s c w _ _ _ _;rw[qQ.q _ HE.q];have hlen:=kR.q.len;exact⟨by rw[show s.length - r.length=q2 by omega],(lM.q.trans (Mv.of_below cZ.q)).same⟩
    .have hev:((k:F)==ji rr)=false:=by rw[HMR.q];exact aU.2 ah
     have HE:M (∀x,dF r= .error x->X= .error x):=y (λx hx=>by rw[<-fw.q,au (λe=>hkm e.1),hx]);clear hc2 hm2 hmo;go_wp2_with fail;refine(ajM.q w2).mono ?_;rintro e w3 ⟨rfl,hb3⟩;have cZ:=y hb3;clear hb3;have kR:=y (eF.q.below cZ.q);have tQ:=y (lM.q.trans (Mv.of_below cZ.q));have lN:=y (HG2.q.mv eF.q (Mv.of_below cZ.q:Mv R c1 c1 w2 w3).same);have Ao:=y (λW (hb:Below w3.1.size w3 W)=>GQ W (kR.q.below hb) (Utf8Tabs_below lN.q.tabs hb));have HB0:M (Below w3.1.size w3 w3.drew):=y ((J _ _).drew);have RES:M (∀ch w',(∃(r':Bs)(m:F),dF r= .error (r',m)/\ch=o9 (s.length - r'.length) m/\Same (oO R c1) w3.drew w')->dQ R s c w (λ_:Unit=> .tuple #[]) Y (.panicked ch) w'):=y (by
      rintro ch w' ⟨r',m,h1,rfl,h2⟩;rw[qQ.q _ (HE.q _ h1)];exact⟨rfl,(tQ.q.trans (Mv.of_below HB0.q)).jS h2⟩)
     go_wp2_with fail;refine dA 13 [(0,1),(1,1),(2,1),(3,1),(4,1),(5,0),(6,1),(7,2),(8,2),(9,2),(10,1),(11,1),(12,1),(13,2)] (λ_=>True) (λW'=>W'.cell? ⟨R,3,C⟩=E (.slice c1.na c1.nn c1.nc)) (λch w'=>∃(r':Bs)(m:F),dF r= .error (r',m)/\ch=o9 (s.length - r'.length) m/\Same (oO R c1) w3.drew w') ay ay (λch a1 w1 hd hr=>⟨hd,RES.q ch w1 hr⟩) (trivial) (kR.q.drew.c3) ?_;refine qC ?_;refine aF rfl rfl (λK hK=>?_);go_simp;refine(Ao.q _ HB0.q).mono ?_;intro e w4 he
     cases hnm:dF r with
     |error x=>
      rw[hnm] at he;obtain⟨rfl,hs⟩:=he;exact⟨rfl,x.1,x.2,rfl,rfl,hs⟩
     |ok mr=>
     obtain⟨m,r4⟩:=mr;rw[hnm] at he;obtain⟨rfl,p4,hc4,hm4⟩:=he;have j6:=y hc4;have Fq:=y ((tQ.q.trans (Mv.of_below HB0.q)).trans hm4);have Ig:=y hnm;refine hK _ _ ⟨trivial,hc4.c3⟩ ?_;have sO:M (R+1<=(w4.alloc (L #[G ⟨m.toArray⟩] 9)).1.size):=y (by have:=hc4.x.2.2;simp;omega);have Zp:=y (lN.q.mv kR.q ((Mv.of_below HB0.q:Mv R c1 c1 w3 w3.drew).trans hm4).same);clear hK K hc4 hm4 hnm;refine aF rfl rfl (λK hK=>?_);go_simp;refine hK _ _ ⟨trivial,(j6.q.below (aA (J _ _) _)).c3⟩ ?_;clear hK K;refine aF rfl rfl (λK hK=>?_);refine lX _ _ 23 rfl i z 16 underlying23 HI.q.1 HI.q.2.1 HI.q.2.2.1 HI.q.2.2.2.1 HI.q.2.2.2.2 rfl (j6.q.n.2.1.alloc _) (E ⟨w4.1.size,0,C⟩) 1 1 (c1.nn+1) [m] rfl (Row.str1 w4 m) jU.q iU.q iM.q sO.q ?_;intro a' c' w5 hown5 hg5 aco;have hx5:=(j6.q.x.keep (aA (J _ _) (L #[G ⟨m.toArray⟩] 9))).grown hg5 MP.q;have HAD:=y (j6.q.addN (aA (J _ _) (L #[G ⟨m.toArray⟩] 9)) a' c' hown5 hg5 aco);refine hK _ _ ⟨trivial,hx5.1 3⟩ ?_;have hc3:=hx5.1 3;have hf3:=hx5.2.1 3;clear hK K hown5 hg5 aco hx5;refine qC ?_;refine bC rfl rfl rfl (λK hK=>?_);go_simp;refine hK _ _ trivial ?_;clear hK K;refine jA ?_;have Uh:M (k+1<=most):=y (by have:=HK.q;omega);have qO:M ((if pairs=true then match d9 r4 with
       | .error x=> .error x
       | .ok r2=>match gM r2 with
        | .error x=> .error x
        | .ok (v,r3)=>bK pairs most f (k+1) (n1.names++[m]) (n1.aG++[v]) r3
      else bK pairs most f (k+1) (n1.names++[m]) n1.aG r4)=X):=y (by have:=fw.q;rw[au (λe=>hkm e.1),Ig.q] at this;exact this)
     have HA:=y HAD.q.1;have Rj:=y (Fq.q.trans HAD.q.2);have HGA:=y (Zp.q.mv j6.q HAD.q.2.same);have hwk:wrap64 ((k:F)+1)=((k+1:O):F):=by have:=Uh.q;have:=HML.q;unfold wrap64;omega
     cases pairs
     .go_wp2_with fail
      go_roundw
      case rel=>exact⟨_,k+1,f,p4,r4,_,_,rfl,by first|rfl|rw[hwk]|go_num,Uh.q,by have:=HF.q;omega,HA.q,Rj.q,HGA.q,qO.q,λns vs=>HQ.q ns vs,by have:=Fu.q.1;simp;omega,by have:=Fu.q.2;show n1.aG.length<=_;omega⟩
      case measure=>have:=Uh.q;(try rw[hwk]);simp[RowKit.intOf] <;> omega
     .have HMU:=y (TJ _ HA.q)
      go_wp2_with fail;refine HMU.q.mono ?_;intro e w6 he
      cases hmu:d9 r4 with
      |error x=>
       rw[hmu] at he;obtain⟨rfl,hs⟩:=he;refine⟨rfl,?_⟩;show dQ R s c w _ _ _ _;rw[qQ.q x (by have:=qO.q;rw[hmu] at this;exact this.symm)];exact⟨rfl,Rj.q.jS hs⟩
      |ok r6=>
       rw[hmu] at he;obtain⟨rfl,q6,hc6,hm6⟩:=he;have KD:M ((match gM r6 with
        | .error x=> .error x
        | .ok (v,r3)=>bK true most f (k+1) (n1.names++[m]) (n1.aG++[v]) r3)=X):=y (by have:=qO.q;rw[hmu] at this;exact this)
       have BL:=y hc6;have Ue:=y (Rj.q.trans hm6);have HG6:=y (HGA.q.mv HA.q hm6.same);have MW:=y (La w6 hc6 HG6.q (by have:=Fu.q.2;have:=Uh.q;have:=HML.q;show n1.aG.length<=1000;omega));clear hc6 hm6 hmu;go_wp2_with fail;refine MW.q.mono ?_;intro e w7 he
       cases MV:gM r6 with
       |error x=>
        rw[MV] at he;obtain⟨rfl,hs⟩:=he;refine⟨rfl,?_⟩;show dQ R s c w _ _ _ _;rw[qQ.q x (by have:=KD.q;rw[MV] at this;exact this.symm)];exact⟨rfl,Ue.q.jS hs⟩
       |ok vr=>
        obtain⟨v,r7⟩:=vr;rw[MV] at he;obtain⟨rfl,q7,c7,hc7,hm7⟩:=he;have vW:M (bK true most f (k+1) (n1.names++[m]) (n1.aG++[v]) r7=X):=y (by have:=KD.q;rw[MV] at this;exact this);have Fv:=y hc7;have I5:=y (Ue.q.trans hm7);have I6:=y (HG6.q.mv BL.q hm7.same);clear hc7 hm7 MV;go_wp2_with fail;go_roundw
        case rel=>exact⟨_,k+1,f,q7,r7,_,_,rfl,by first|rfl|rw[hwk]|go_num,Uh.q,by have:=HF.q;omega,Fv.q,I5.q,I6.q,vW.q,λns vs=>HQ.q ns vs,by have:=Fu.q.1;simp;omega,by have:=Fu.q.2;simp;omega⟩
        case measure=>have:=Uh.q;(try rw[hwk]);simp[RowKit.intOf] <;> omega
theorem aoR (W:World):(Instr.makeSlice 228 (I H 1) (I H 1)).run Tryz.prog W= .ok (.slice (E ⟨W.1.size,0,C⟩) 1 1) (W.alloc (L #[.nilFunc] 1)):=ay
theorem aoS (W:World):(Instr.makeSlice 228 (I H 2) (I H 2)).run Tryz.prog W= .ok (.slice (E ⟨W.1.size,0,C⟩) 2 2) (W.alloc (L #[.nilFunc,.nilFunc] 1)):=ay
theorem cp1 (W:World)(b B i n m c c':O)(v:Value)(hs:W.cell? ⟨b,0,C⟩=E v)(h1:v.oneCell'=true)(hc:(W.cell? ⟨B,i,C⟩).isSome=true)(hf:W.frozen? ⟨B,i,C⟩=false)(hn:1=Nat.min m n):
  (Builtin.copy_ #[228,228] 3 #[.slice (E ⟨B,i,C⟩) n c,.slice (E ⟨b,0,C⟩) m c']).run Tryz.prog W= .ok (goInt 1) (W.setCell ⟨B,i,C⟩ v):=by
 have h:=run_copy_cells (P:=Tryz.prog) W 228 228 3 1 B i n c ⟨b,0,C⟩ m c' [v] ay ay hn (λj u hj=>by
  obtain rfl:j=0:=by have:=(bO.1 hj).1;simpa using this
  simpa[Addr.add] using hs.trans hj) (λj hj=>by
    obtain rfl:j=0:=by simpa using hj
    exact hc) (λj hj=>by
      obtain rfl:j=0:=by simpa using hj
      exact hf) (λu hu=>by simp at hu;subst hu;exact h1)
 simp only[World.setCells] at h;exact h
theorem afl (w:World)(b:O)(v:Value)(hb:b<w.1.size)(hv:w.cell? ⟨b,0,C⟩=E v)(h1:v.oneCell'=true):
  Calls Tryz.prog 159 #[.slice (E ⟨b,0,C⟩) 1 1,I H 1] w (λe w'=>e= .returned (.slice (E ⟨w.1.size,0,C⟩) 1 1)/\Below w.1.size w w'/\Bx w' w.1.size #[v]):=by
 have hmk:=aoR;have acp:=y (λW=>Tryz.bits_Mul 1 1 aj aj W);go_enter func159,ntmps159;go_wp2_with fail;refine(acp.q w).mono ?_;rintro e w2 ⟨rfl,rfl⟩;have fQ:=Bx.new w2 #[.nilFunc] 1;have hcell:(w2.alloc (L #[.nilFunc] 1)).cell? ⟨b,0,C⟩=E v:=by
  have:=(aA (J w2.1.size w2) (L #[.nilFunc] 1)).cell (p:=⟨b,0,C⟩) hb;rw[this];exact hv
 have hcp:=cp1 (w2.alloc (L #[.nilFunc] 1)) b w2.1.size 0 1 1 1 1 v hcell h1 (by rw[fQ.1 0];rfl) (fQ.2.1 0) rfl;obtain⟨W,hW⟩:∃W,W=(w2.alloc (L #[.nilFunc] 1)).setCell ⟨w2.1.size,0,C⟩ v:=⟨_,rfl⟩;have JS:M (Below w2.1.size w2 W/\Bx W w2.1.size #[v]):=y (by
  rw[hW];exact⟨(aA (J w2.1.size w2) _).setCell (p:=⟨w2.1.size,0,C⟩) (aB w2.1.size) _,fQ.bf 0 ak v⟩)
 rw[<-hW] at hcp;clear hW;go_wp2_with fail
 go_loopw [8] (λi wr=>wr=W/\i= I H 1) (λi _=>0)
 case atStart=>exact⟨rfl,rfl⟩
 case round=>
  obtain⟨rfl,rfl⟩:=hrel;go_wp2_with fail;go_ret;exact⟨rfl,JS.q.1,JS.q.2⟩
theorem afm (w:World)(b:O)(v:Value)(hb:b<w.1.size)(hv:w.cell? ⟨b,0,C⟩=E v)(h1:v.oneCell'=true):
  Calls Tryz.prog 159 #[.slice (E ⟨b,0,C⟩) 1 1,I H 2] w (λe w'=>e= .returned (.slice (E ⟨w.1.size,0,C⟩) 2 2)/\Below w.1.size w w'/\Bx w' w.1.size #[v,v]):=by
 have hmk:=aoS;have acp:=y (λW=>Tryz.bits_Mul 1 2 aj aj W);go_enter func159,ntmps159;go_wp2_with fail;refine(acp.q w).mono ?_;rintro e w2 ⟨rfl,rfl⟩;have fQ:=Bx.new w2 #[.nilFunc,.nilFunc] 1;have hcell:(w2.alloc (L #[.nilFunc,.nilFunc] 1)).cell? ⟨b,0,C⟩=E v:=by
  have:=(aA (J w2.1.size w2) (L #[.nilFunc,.nilFunc] 1)).cell (p:=⟨b,0,C⟩) hb;rw[this];exact hv
 have hcp:=cp1 (w2.alloc (L #[.nilFunc,.nilFunc] 1)) b w2.1.size 0 2 1 2 1 v hcell h1 (by rw[fQ.1 0];rfl) (fQ.2.1 0) rfl;obtain⟨W,hW⟩:∃W,W=(w2.alloc (L #[.nilFunc,.nilFunc] 1)).setCell ⟨w2.1.size,0,C⟩ v:=⟨_,rfl⟩;have JS:M (Below w2.1.size w2 W/\Bx W w2.1.size #[v,.nilFunc]):=y (by
  rw[hW];exact⟨(aA (J w2.1.size w2) _).setCell (p:=⟨w2.1.size,0,C⟩) (aB w2.1.size) _,fQ.bf 0 ak v⟩)
 rw[<-hW] at hcp;clear hW;go_wp2_with fail
 go_loopw [8] (λi wr=>(wr=W/\i= I H 1)\/(i= I H 2/\Below w2.1.size w2 wr/\Bx wr w2.1.size #[v,v])) (λi _=>2 - (RowKit.intOf i).toNat)
 case atStart=>exact .inl ⟨rfl,rfl⟩
 case round=>
  rcases hrel with⟨rfl,rfl⟩|⟨rfl,hb2,hx2⟩
  .have HD:M (Bx wr.drew w2.1.size #[v,.nilFunc]):=y ⟨JS.q.2.1,JS.q.2.2.1,JS.q.2.2.2⟩
   have hcp2:=cp1 wr.drew w2.1.size w2.1.size 1 1 1 1 2 v (HD.q.1 0) h1 (by rw[HD.q.1 1];rfl) (HD.q.2.1 1) rfl;have HE2:M (Below w2.1.size w2 (wr.drew.setCell ⟨w2.1.size,1,C⟩ v)/\Bx (wr.drew.setCell ⟨w2.1.size,1,C⟩ v) w2.1.size #[v,v]):=y ⟨JS.q.1.drew.setCell (p:=⟨w2.1.size,1,C⟩) (aB w2.1.size) _,HD.q.bf 1 ak v⟩;go_wp2_with fail;refine aC 7 [(0,1),(1,1),(2,1),(3,1),(4,1),(5,1),(6,1),(7,2),(8,1),(9,1)] (λ_=>True) (λ_=>True) ay ay (trivial) (trivial) ?_;refine qC ?_;refine bC rfl rfl rfl (λK hK=>?_);go_simp;refine hK _ _ trivial ?_;clear hK K;refine qC ?_;refine aP ?_;go_wp2_with fail;go_roundw
   case rel=>exact .inr ⟨rfl,HE2.q.1,HE2.q.2⟩
   case measure=>decide
  .have HE2:=y (⟨hb2,hx2⟩:_/\_)
   go_wp2_with fail;go_ret;exact⟨rfl,HE2.q.1,HE2.q.2⟩
@[reducible] def wT:aH:=⟨0,[],0,[],false,0⟩
theorem Zq (acts:List O):∀(k:O)(n:aH)(l:Bs),l7 (List.replicate k 0++acts) n l=(match jH k n.names l with| .error x=> .error x| .ok (ns,r)=>l7 acts {n with names:=ns} r):=by
 intro k
 induction k with
 |zero=>intro n l;rfl
 |succ k ih=>
  intro n l;rw[List.replicate_succ,fu];simp only[l7,jH]
  cases d9 l with
  |error x=>rfl
  |ok r=>
   simp only[Aj,bY]
   cases dF r with
   |error x=>rfl
   |ok mr=>
    obtain⟨m,r'⟩:=mr;simp only[];rw[ih]
def nK (k:O):List O:=List.replicate (bS k).toNat 0++(if k=1 then [1] else if k=3 then [2] else [])
def oN (k:O)(n:aH)(l:Bs):Except Er (Unit × aH × Bs):=
 if k=9 then(match jo 5 0 0 l with| .error x=> .error x| .ok (b,r)=> .ok ((),{n with bits:=b},r))
 else if k=8 then match j4 l with
  | .error x=> .error x
  | .ok (f,r)=>match bK false 300 301 0 n.names n.aG r with
   | .error x=> .error x
   | .ok (b,r')=> .ok ((),{n with first:=f,names:=b.1,aG:=b.2},r')
 else if k=4 then match bK true 40 41 0 n.names n.aG l with
   | .error x=> .error x
   | .ok (b,r')=> .ok ((),{n with names:=b.1,aG:=b.2},r')
 else if k=7 then match bK false 300 301 0 n.names n.aG l with
   | .error x=> .error x
   | .ok (b,r')=> .ok ((),{n with names:=b.1,aG:=b.2},r')
 else .ok ((),n,l)
def Ia (x:Except Er (Unit × aH × Bs)):Except Er (aH × Bs):=
 match x with
 | .error x=> .error x
 | .ok (_,s,r2)=>match dN r2 with
  | .error x=> .error x
  | .ok (true,r3)=> .error (r3,220)
  | .ok (false,r3)=> .ok (s,r3)
theorem Wj (l r:Bs)(i:O)(hi:i<9)(hE:dS (bI l)=false)(hw:eY nu (bI l)= .ok (i,r)):
  jh l=(match l7 (nK (i+1)) {wT with kind:=((i+1:O):F)} r with| .error x=> .error x| .ok (_,n,r1)=>Ia (oN (i+1) n r1)):=by
 unfold jh;rw[au (by rw[hE];simp),hw];simp only[];rw[nK,Zq];simp only[]
 cases hns:jH (bS (i+1)).toNat [] r with
 |error x=>rfl
 |ok nr=>
  obtain⟨ns,r1⟩:=nr;simp only[];unfold jZ oN Ia;rcases(by omega:i=0\/i=1\/i=2\/i=3\/i=4\/i=5\/i=6\/i=7\/i=8) with rfl|rfl|rfl|rfl|rfl|rfl|rfl|rfl|rfl
  .simp only[Nat.reduceAdd,bY,l7,Aj,Nat.reduceEqDiff,fF,Nat.succ_ne_self]
   cases d9 r1 with
   |error x=>rfl
   |ok r2=>
    simp only[]
    cases eY og r2 with
    |error x=>rfl
    |ok jr=>rfl
  .rfl
  .simp only[Nat.reduceAdd,bY,l7,Aj,Nat.reduceEqDiff,fF]
   cases d9 r1 with
   |error x=>rfl
   |ok r2=>
    simp only[]
    cases gM r2 with
    |error x=>rfl
    |ok jr=>rfl
  .simp only[Nat.reduceAdd,bY,l7,Nat.reduceEqDiff,fF]
   cases bK true 40 41 0 ns [] r1 with
   |error x=>rfl
   |ok jr=>rfl
  .rfl
  .rfl
  .simp only[Nat.reduceAdd,bY,l7,Nat.reduceEqDiff,fF]
   cases bK false 300 301 0 ns [] r1 with
   |error x=>rfl
   |ok jr=>rfl
  .simp only[Nat.reduceAdd,bY,l7,Nat.reduceEqDiff,fF]
   cases j4 r1 with
   |error x=>rfl
   |ok fr=>
    obtain⟨f,r2⟩:=fr;simp only[]
    cases bK false 300 301 0 ns [] r2 with
    |error x=>rfl
    |ok jr=>rfl
  .simp only[Nat.reduceAdd,bY,l7,Nat.reduceEqDiff,fF]
   cases jo 5 0 0 r1 with
   |error x=>rfl
   |ok jr=>rfl
theorem acr {a:O}{n n':aH}{l r:Bs}{u:Unit}(h:Aj a n l= .ok (u,n',r)):n'.bits=n.bits/\n'.first=n.first/\n'.kind=n.kind:=by
 unfold Aj at h
 split at h
 .split at h
  .cases h
  .injection h with h;injection h with _ h;injection h with h _;subst h;simp
 .split at h
  .split at h
   .cases h
   .injection h with h;injection h with _ h;injection h with h _;subst h;simp
  .split at h
   .cases h
   .injection h with h;injection h with _ h;injection h with h _;subst h;simp
theorem Nu:∀(acts:List O){n n':aH}{l r:Bs}{u:Unit},l7 acts n l= .ok (u,n',r)->
  n'.bits=n.bits/\n'.first=n.first/\n'.kind=n.kind/\n'.names.length<=n.names.length+acts.length/\n'.aG.length<=n.aG.length+acts.length
 |[],n,n',l,r,u,h=>by
  simp only[l7] at h;injection h with h;injection h with _ h;injection h with h _;subst h;simp
 |a::t,n,n',l,r,u,h=>by
  simp only[l7] at h
  split at h
  .cases h
  .split at h
   .cases h
   .rename_i u1 n1 r1 h1
    have k1:=acr h1;have k2:=Ug h1;have k3:=Nu t h;simp only[dO];exact⟨k3.1.trans k1.1,k3.2.1.trans k1.2.1,k3.2.2.1.trans k1.2.2,by omega,by omega⟩
theorem ale:(Tryz.prog.info? 1).map (λi=>(i.zero.map (·.cells.size),i.size,i.bytes))=E (E 1,1,8):=ay
theorem ajR:∃i z,Tryz.prog.info? 1=E i/\i.zero=E z/\i.size=1/\i.bytes=8/\z.cells.size=1:=pV ale
theorem acs (k:O):∃N:O,bS (k+1)=(N:F)/\(N=1\/N=2):=by
 unfold bS
 split <;> first|exact⟨1,rfl,.inl rfl⟩|exact⟨2,rfl,.inr rfl⟩|(rename_i h;omega)
theorem ajS (N:O)(hN:N=1\/N=2)(w:World)(b:O)(v:Value)(hb:b<w.1.size)(hv:w.cell? ⟨b,0,C⟩=E v)(h1:v.oneCell'=true):
  Calls Tryz.prog 159 #[.slice (E ⟨b,0,C⟩) 1 1,I H N] w (λe w'=>e= .returned (.slice (E ⟨w.1.size,0,C⟩) N N)/\Below w.1.size w w'/\Bx w' w.1.size (Array.replicate N v)):=by
 rcases hN with rfl|rfl
 .exact afl w b v hb hv h1
 .exact afm w b v hb hv h1
theorem I7 {P:Program}{ops:Array Oper}{rest:List Oper}{o:Oper}{ac:Act}{w w':World}{Q:Exit->Act->World->Prop}{v u r:Value}(hgd:o.guard=C)(s x:Operand)(t:TypeId)
  (ho:o.op= .call {callee:= .builtin .append,args:=#[s,x],argTypes:=#[t,t]}) (hs:ac.eval s=v) (hx:ac.eval x=u) (hrun:(Builtin.append_ #[t,t] o.type #[v,u]).run P w= .ok r w')
  (h:wpList P ops Q rest (ac.put o.dst r) w'):wpList P ops Q (o::rest) ac w:=
 wpList_plain hgd λ_ hK=>by
  unfold Oper.wp execOp;simp only[ho,resolve,invoke,builtin,Sem.run_bind,Sem.run_pure,Result.andThen_ok,List.map_toArray,eu,mE,hs,hx,hrun];exact hK _ _ h
theorem ajT (N:O)(hN:N=1\/N=2)(W:World)(T U:O)(v x:Value)(hT:Bx W T (Array.replicate N v))(hU:W.cell? ⟨U,0,C⟩=E x):
  ∃(cap:O)(W':World),(Builtin.append_ #[228,228] 228 #[.slice (E ⟨T,0,C⟩) N N,.slice (E ⟨U,0,C⟩) 1 1]).run Tryz.prog W= .ok (.slice (E ⟨W.1.size,0,C⟩) (N+1) cap) W'/\N+1<=cap/\cap<=maxLen/\Below W.1.size W W'/\W.1.size<W'.1.size/\(∀i,i<N->W'.cell? ⟨W.1.size,i,C⟩=E v)/\W'.cell? ⟨W.1.size,N,C⟩=E x:=by
 obtain⟨i,z,hi,hz,hsize,hby,hzs⟩:=ajR;have hr:=run_append_grow (P:=Tryz.prog) W 228 228 1 i z ay hi hz ⟨T,0,C⟩ N N (List.replicate N v) (by rw[hsize];simp) (λj u hj=>by
  have hj':=hj;rw[List.getElem?_replicate] at hj';have hlt:j<N:=by
   apply Classical.byContradiction;intro hn;rw[au hn] at hj';cases hj'
  rw[av hlt] at hj';have:=hT.1 j;rw[Array.getElem?_replicate,av hlt] at this;have hz:=this.trans hj';unfold Addr.add
  split
  .rename_i h0;subst h0;exact hz
  .simpa using hz) ⟨U,0,C⟩ 1 1 [x] (by rw[hsize];rfl) (λj u hj=>by
  obtain rfl:j=0:=by have:=(bO.1 hj).1;simpa using this
  simpa[Addr.add] using hU.trans hj) ah ah (by rw[hby];rcases hN with rfl|rfl <;> exact Nat.le_of_ble_eq_true rfl)
 refine⟨_,_,hr,grownCap_ge W (N+1) N 1,grownCap_le_maxLen W (N+1) N 1 (by unfold maxLen;omega),(J _ _).drew.alloc (aB _) _,by simp,λi hi=>?_,?_⟩
 .have:=World.cell?_alloc_new W.drew ((List.replicate N v).toArray++[x].toArray++Builtin.zeroCells z.cells (grownCap W (N+1) N 1 - (N+1))) 1 i
  refine this.trans ?_;rw[Array.getElem?_append_left (by simp;omega),Array.getElem?_append_left (by simp;omega)];simp[hi]
 .have:=World.cell?_alloc_new W.drew ((List.replicate N v).toArray++[x].toArray++Builtin.zeroCells z.cells (grownCap W (N+1) N 1 - (N+1))) 1 N
  refine this.trans ?_;rw[Array.getElem?_append_left ak,Array.getElem?_append_right ak];simp
theorem Ui {w:World}{R b n c:O}(acts:List O)(hn:acts.length=n)(hc:n<=c)(hm:n<=1000)(h:∀(i:O)(a:O),acts[i]?=E a->w.cell? ⟨b,i,C⟩=E (.func (.func (EW a)) #[S (E ⟨R,0,C⟩)] #[])):Row w 1 (DN R) (E ⟨b,0,C⟩) n c acts:=
 ⟨hn,hc,by omega,(λe=>by cases e),λi a ha=>⟨b,0,rfl,λj v hv=>by
  obtain rfl:j=0:=by have:=(bO.1 hv).1;simpa[DN] using this
  have:v= .func (.func (EW a)) #[S (E ⟨R,0,C⟩)] #[]:=by simpa[DN] using hv.symm
  rw[this];simpa using h i a ha⟩⟩
theorem BN {w:World}{R b N:O}(hN:N<=2)(h:Bx w b (Array.replicate N (.func (.func (EW 0)) #[S (E ⟨R,0,C⟩)] #[]))):Row w 1 (DN R) (E ⟨b,0,C⟩) N N (List.replicate N 0):=
 Ui _ ak (aB _) ah λi a ha=>by
  rw[List.getElem?_replicate] at ha;have hlt:i<N:=by
   apply Classical.byContradiction;intro hn;rw[au hn] at ha;cases ha
  rw[av hlt] at ha;injection ha with ha;subst ha;rw[h.1 i,Array.getElem?_replicate,av hlt]
theorem Rk {w:World}{R b N c:O}(a:O)(hc:N+1<=c)(hm:N<=2)(h:∀i,i<N->w.cell? ⟨b,i,C⟩=E (.func (.func (EW 0)) #[S (E ⟨R,0,C⟩)] #[]))(h1:w.cell? ⟨b,N,C⟩=E (.func (.func (EW a)) #[S (E ⟨R,0,C⟩)] #[])):Row w 1 (DN R) (E ⟨b,0,C⟩) (N+1) c (List.replicate N 0++[a]):=
 Ui _ ak hc ah λi a' ha=>by
  by_cases hlt:i<N
  .rw[y8 (by simpa using hlt),List.getElem?_replicate,av hlt] at ha
   injection ha with ha;subst ha;exact h i hlt
  .rw[xJ (by simp;omega)] at ha
   obtain rfl:i=N:=by have:=(bO.1 ha).1;simp at this;omega
   simp at ha;subst ha;exact h1
theorem Zr:∀j:Fin 9,nu.take j.val++[bB (j.val+1)]=nu.take (j.val+1):=by decide
def Dc (x:Except Er (Unit × aH × Bs)):Except Er (Unit × aH × Bs):=match Ia x with| .error x=> .error x| .ok (n',r)=> .ok ((),n',r)
theorem Lb (x:Er):Dc (.error x)= .error x:=rfl
theorem Zt {u:Unit}{n:aH}{r:Bs}{x:Er}(h:dN r= .error x):Dc (.ok (u,n,r))= .error x:=by
 unfold Dc Ia;simp only[h]
theorem Zu {u:Unit}{n:aH}{r r3:Bs}(h:dN r= .ok (true,r3)):Dc (.ok (u,n,r))= .error (r3,220):=by
 unfold Dc Ia;simp only[h]
theorem Wl {u:Unit}{n:aH}{r r3:Bs}(h:dN r= .ok (false,r3)):Dc (.ok (u,n,r))= .ok ((),n,r3):=by
 unfold Dc Ia;simp only[h]
theorem aff {R p:O}{s l:Bs}{c:bE}(w:World)(h:eP w R s p l c wT)(hG:vO R w):
  Calls Tryz.prog 136 #[S (E ⟨R,0,C⟩)] w (dQ R s c w (λ_:Unit=> .tuple #[]) (match jh l with| .error x=> .error x| .ok (n',r)=> .ok ((),n',r))):=by
 obtain⟨Y,hY⟩:∃Y:Except Er (Unit × aH × Bs),Y=(match jh l with| .error x=> .error x| .ok (n',r)=> .ok ((),n',r)):=⟨_,rfl⟩;rw[<-hY];have HY:=y hY;have HG:=y hG;clear hY hG;have c0:=h.c0;have c1:=h.c1;have z1:=f1 h 1;have hlen:=h.len;have hlim:=h.lim;have hsl:=λW=>oZ Tryz.underlying9 s p ah W
 rw[h.d] at hsl;have hz:=gQ s;have hz2:=gQ (bI l);have hsk:=MX l;obtain⟨q,hq⟩:∃q:O,q=s.length - (bI l).length:=⟨_,rfl⟩;have HWQ:M (wrap64 ((s.length:F) - ((bI l).length:F))=(q:F)):=y (by
  rw[show(s.length:F) - ((bI l).length:F)=(q:F) by omega];exact IntWalk.wrap64_in _ ah)
 have aoT:M (IntKind.i64.wrap ((s.length:F) - ((bI l).length:F))=(q:F)):=y (by
  rw[show(s.length:F) - ((bI l).length:F)=(q:F) by omega];exact IntWalk.i64_in _ ah)
 have HH:=y h;have HLEN:=y hlen;have fO:=y hsk;have HQ:=y hq;clear h hlen hsk hq;go_enter func136,ntmps136;go_wp2_with fail;refine aC 20 [(0,1),(1,1),(2,1),(3,1),(4,0),(5,0),(6,1),(7,1),(8,1),(9,0),(10,1),(11,1),(12,1),(13,0),(14,0),(15,2),(16,0),(17,0),(18,1),(19,1),(20,2)] (λ_=>True) (λW'=>W'.cell? ⟨R,0,C⟩=E (G ⟨s.toArray⟩)/\W'.cell? ⟨R,1,C⟩=E (I H p)) ay ay (trivial) (⟨HH.q.c0,HH.q.c1⟩) ?_;refine qC ?_;refine aF rfl rfl (λK hK=>?_);go_simp;refine(TI l _).mono ?_;rintro e w2 ⟨rfl,hb2⟩;have KP:=HH.q.drew.below hb2;refine hK _ _ ⟨trivial,KP.c0,KP.c1⟩ ?_;have IB:=y KP;have HB2:=y hb2;clear hK K hb2 KP c0 c1 z1;have c1:=IB.q.c1;have z1:=f1 IB.q 1;have hwq:=HWQ.q;refine qC ?_;refine bC rfl rfl rfl (λK hK=>?_);go_simp;refine hK _ _ trivial ?_;clear hK K;refine aP ?_;have hb2:Below w.1.size w w2:=(J _ _).drew.trans HB2.q;have ht:=IB.q.to (l.length - (bI l).length) (KO l) ah q (by have:=HLEN.q;have:=fO.q;have:=HQ.q;omega);have HT:=y ht.1;have HM:=y ((Mv.of_below (R:=R) (c:=c) hb2).trans ht.2);have HGT:=y (HG.q.mv HH.q HM.q.same);clear ht hb2;rw[show IntKind.i64.wrap ((s.length:F) - ((bI l).length:F))=(q:F) from aoT.q];go_wp2_with fail;refine(GR _ HT.q).mono ?_;rintro e w3 ⟨rfl,hb3⟩;have HT3:=y (HT.q.below hb3);have tQ:=y (HM.q.trans (Mv.of_below hb3));have lN:=y (HGT.q.mv HT.q (Mv.of_below hb3:Mv R c c _ w3).same);clear hb3 c1 z1
 cases hE:dS (bI l)
 .obtain⟨i,z,hi,hz,hsize,dx,hzs⟩:=nL
  have HI:=y (⟨hi,hz,hsize,dx,hzs⟩:_/\_/\_/\_/\_);have HGL:=y lN.q.l;clear hi hz hsize dx hzs;go_wp2_with fail
  go_loopw [2,31] (λv i wr=>∃(k:O)(a0:Option Addr)(c0:O),k<=9/\v= .slice a0 k c0/\i= I H k/\Own wr w3.1.size 9 1 encStr (.slice a0 k c0) (nu.take k)/\Below w3.1.size w3 wr) (λ_ i _=>9 - (RowKit.intOf i).toNat)
  case atStart=>exact⟨0,C,0,aZ _,rfl,rfl,Own.jY _ _ _ _ _,J _ _⟩
  case round=>
   obtain⟨k,a0,c0,hk,rfl,rfl,how,hbw⟩:=hrel;by_cases hlt:k<9
   .obtain⟨hg1,hg2,hg3⟩:=(HGL.q.below (hbw:Below w3.1.size w3 wr)).2.1 (k+1) ah
    have hf1:wr.cell? ⟨0,3+k*3,C⟩=E (G ⟨(bB (k+1)).toArray⟩):=by rw[<-hg1];congr 2;omega
    have hf2:wr.cell? ⟨0,3+k*3+1,C⟩=E (I H (bS (k+1))):=by rw[<-hg2];congr 2;omega
    have hf3:wr.cell? ⟨0,3+k*3+2,C⟩=E (.int .i32 (dG (k+1))):=by rw[<-hg3];congr 2;omega
    have HOW:=y how;have cZ:=y hbw;clear hg1 hg2 hg3 how hbw;have HOZ:M (Own ((wr.alloc (L #[G ⟨(bB (k+1)).toArray⟩,I H (bS (k+1)),.int .i32 (dG (k+1))] 139)).alloc (L #[G ⟨(bB (k+1)).toArray⟩] 9)) w3.1.size 9 1 encStr (.slice a0 k c0) (nu.take k)):=y ((HOW.q.alloc _).alloc _);have mK:M (Below w3.1.size w3 ((wr.alloc (L #[G ⟨(bB (k+1)).toArray⟩,I H (bS (k+1)),.int .i32 (dG (k+1))] 139)).alloc (L #[G ⟨(bB (k+1)).toArray⟩] 9))):=y (aA (aA cZ.q _) _);have xq:M (Row ((wr.alloc (L #[G ⟨(bB (k+1)).toArray⟩,I H (bS (k+1)),.int .i32 (dG (k+1))] 139)).alloc (L #[G ⟨(bB (k+1)).toArray⟩] 9)) 1 encStr (E ⟨wr.1.size+1,0,C⟩) 1 1 [bB (k+1)]):=y (by have:=Row.str1 (wr.alloc (L #[G ⟨(bB (k+1)).toArray⟩,I H (bS (k+1)),.int .i32 (dG (k+1))] 139)) (bB (k+1));simpa using this);have jU:M ((nu.take k).length+1=k+1):=y (by rw[fE];show min k 9+1=k+1;omega);have iU:M ((k+1)*16<=140737488355328):=y ah;have iM:M (k+1<=maxLen):=y (by unfold maxLen;omega);have sO:M (w3.1.size<=((wr.alloc (L #[G ⟨(bB (k+1)).toArray⟩,I H (bS (k+1)),.int .i32 (dG (k+1))] 139)).alloc (L #[G ⟨(bB (k+1)).toArray⟩] 9)).1.size):=y mK.q.size;have hcl:(nu.take k)++[bB (k+1)]=nu.take (k+1):=Zr ⟨k,hlt⟩
    go_wp2_with (at_builtin;refine je rfl _ _ 23 rfl i z 16 underlying23 HI.q.1 HI.q.2.1 HI.q.2.2.1 HI.q.2.2.2.1 HI.q.2.2.2.2 rfl HOZ.q (E ⟨wr.1.size+1,0,C⟩) 1 1 (k+1) [bB (k+1)] rfl xq.q jU.q iU.q iM.q sO.q ?_;intro a' c' w5 hown5 hg5 aco)
    have kz:=below_app mK.q HOZ.q (aB _) sO.q hg5;refine⟨⟨k+1,a',c',by omega,rfl,rfl,by rw[<-hcl];exact hown5,kz⟩,?_⟩;simp[RowKit.intOf];omega
   .obtain rfl:k=9:=by omega
    have HOW:=y how;have cZ:=y hbw;have j6:=y (HT3.q.below hbw);have Fq:=y (tQ.q.trans (Mv.of_below hbw));have Zp:=y (lN.q.mv HT3.q (Mv.of_below hbw:Mv R c c w3 wr).same);have QY:M (Row wr 1 encStr a0 9 c0 nu):=y (show Row wr 1 encStr a0 9 c0 (nu.take 9) from Own.row how aj);clear how hbw;go_wp2_with fail;refine(Lg wr j6.q a0 9 c0 nu QY.q ah aj aj).mono ?_;intro e w5 he;have hRD:∀x,eY nu (bI l)= .error x->jh l= .error x:=λx hx=>by unfold jh;rw[au (by rw[hE];simp),hx]
    cases hwo:eY nu (bI l) with
    |error x=>
     rw[hwo] at he;obtain⟨rfl,hs⟩:=he;refine⟨rfl,?_⟩;show dQ R s c w _ _ _ _;rw[HY.q,hRD x hwo];exact⟨rfl,Fq.q.jS hs⟩
    |ok ir=>
     obtain⟨iv,r⟩:=ir;rw[hwo] at he;obtain⟨rfl,q5,BV,GH⟩:=he;have kF:=y BV;have BQ:=y (Fq.q.trans GH);have HG5:=y (Zp.q.mv j6.q GH.same);have Sq:=y hwo;have hc0:=BV.x.1 2;have hf0:=f1 BV 2;have hiv:iv<9:=by
      unfold eY at hwo
      split at hwo
      .rename_i j hj
       injection hwo with hwo;injection hwo with hwo _;have:=(Hz.1 hj).1;subst hwo
       simpa[nu] using this
      .cases hwo
     obtain⟨n6,hn6⟩:∃n6:aH,n6={wT with kind:=((iv+1:O):F)}:=⟨_,rfl⟩;have um:=Wj l r iv hiv hE hwo;rw[<-hn6] at um;have qQ:M (∀x,l7 (nK (iv+1)) n6 r= .error x->Y= .error x):=y (λx hx=>by rw[HY.q,um,hx]);have yG:M (∀u n r1,l7 (nK (iv+1)) n6 r= .ok (u,n,r1)->Y=Dc (oN (iv+1) n r1)):=y (λu n r1 hx=>by rw[HY.q,um,hx];rfl);have BO:M (n6.bits=0/\n6.first=false/\n6.names.length=0/\n6.aG.length=0):=y (by rw[hn6];exact⟨rfl,rfl,rfl,rfl⟩);have hwk:wrap64 (1+(iv:F))=((iv+1:O):F):=by unfold wrap64;omega
     have aoU:((iv:F)+1).toNat=iv+1:=by omega
     obtain⟨N,hN,acu⟩:=acs iv;obtain⟨rr,hrr⟩:∃rr:F,dG (iv+1)=rr:=⟨_,rfl⟩;obtain⟨hg1,hg2,hg3⟩:=HG5.q.l.2.1 (iv+1) ah;have hq1:w5.cell? ⟨0,(1+iv)*3,C⟩=E (G ⟨(bB (iv+1)).toArray⟩):=by rw[<-hg1];congr 2;omega
     have hq2:w5.cell? ⟨0,(1+iv)*3+1,C⟩=E (I H (N:F)):=by rw[<-hN,<-hg2];congr 2;omega
     have hq3:w5.cell? ⟨0,(1+iv)*3+2,C⟩=E (.int .i32 rr):=by rw[<-hrr,<-hg3];congr 2;omega
     have Qg:=y hiv;have xG:=y hN;have u6:=y acu;have HRR:=y hrr;have h9:(iv:F)+1<10:=by omega
     obtain⟨c6,hc6⟩:∃c6:bE,c6={c with kind:=1+(iv:F)}:=⟨_,rfl⟩;have hset:=kF.q.EU 2 (I H (1+(iv:F))) {c with kind:=1+(iv:F)} {wT with kind:=((iv+1:O):F)} aj rfl ⟨rfl,rfl,rfl,rfl,rfl,rfl⟩ ⟨rfl,rfl⟩ ⟨(by show 1+(iv:F)=((iv+1:O):F);omega),kF.q.n.1.2.1,kF.q.n.1.2.2.1,kF.q.n.1.2.2.2.1⟩;rw[<-hn6,<-hc6] at hset;have acv:=y hset.1;have HSM:=y (BQ.q.trans hset.2);have XQ:=y (HG5.q.mv kF.q hset.2.same);have hba:=aA (aA (J (w5.setCell ⟨R,2,C⟩ (I H (1+(iv:F)))).1.size _) (L #[G ⟨(bB (iv+1)).toArray⟩,I H (N:F),.int .i32 rr] 139)) (L #[.func (.func 160) #[S (E ⟨R,0,C⟩)] #[]] 1);have kI:=y hba;have zJ:=y ((Bx.new (w5.setCell ⟨R,2,C⟩ (I H (1+(iv:F)))) #[G ⟨(bB (iv+1)).toArray⟩,I H (N:F),.int .i32 rr] 139).alloc (L #[.func (.func 160) #[S (E ⟨R,0,C⟩)] #[]] 1));have hFT:=Bx.new ((w5.setCell ⟨R,2,C⟩ (I H (1+(iv:F)))).alloc (L #[G ⟨(bB (iv+1)).toArray⟩,I H (N:F),.int .i32 rr] 139)) #[.func (.func 160) #[S (E ⟨R,0,C⟩)] #[]] 1;rw[show((w5.setCell ⟨R,2,C⟩ (I H (1+(iv:F)))).alloc (L #[G ⟨(bB (iv+1)).toArray⟩,I H (N:F),.int .i32 rr] 139)).1.size=w5.1.size+1 by simp[World.setCell]] at hFT;have HFT:=y hFT;have P9:M ((w5.setCell ⟨R,2,C⟩ (I H (1+(iv:F)))).1.size=w5.1.size):=y (by simp[World.setCell]);have hcall:=y (λW (hb:w5.1.size+1<W.1.size) (hv:W.cell? ⟨w5.1.size+1,0,C⟩=E (.func (.func 160) #[S (E ⟨R,0,C⟩)] #[]))=>ajS N acu W (w5.1.size+1) (.func (.func 160) #[S (E ⟨R,0,C⟩)] #[]) hb hv rfl);clear BV GH hRD hwo um hg1 hg2 hg3 hset hba hFT hN acu hrr hiv hn6 hc6;go_wp2_with fail;refine(hcall.q _ HFT.q.2.2 (HFT.q.1 0)).mono ?_;rintro e w7 ⟨rfl,KE,hx7⟩;have Tc:=y (kI.q.bZ KE);have Fv:=y (acv.q.below Tc.q);have I5:=y (HSM.q.trans (Mv.of_below Tc.q));have I6:=y (XQ.q.below Tc.q);have Rl:=zJ.q.keep KE;rw[P9.q] at Rl;have Iy:M (oO R c6 w5.1.size):=y (acv.q.new (by rw[P9.q];exact aB _));have Uf:=bM (show w5.1.size<w5.1.size+1+1 by omega) (show w5.1.size+1+1<=w7.1.size by have:=KE.size;simpa[World.setCell] using this);have JU:=y Rl;have hf2:=Rl.1 2;have hf3:=Rl.2.1 2;rw[show(((w5.setCell ⟨R,2,C⟩ (I H (1+(iv:F)))).alloc (L #[G ⟨(bB (iv+1)).toArray⟩,I H (N:F),.int .i32 rr] 139)).alloc (L #[(.func (.func 160) #[S (E ⟨R,0,C⟩)] #[])] 1)).1.size=w5.1.size+1+1 by simp[World.setCell]] at hx7;have vW:=y hx7;have Zv:M (oO R c6 (w5.1.size+1+1)):=y (acv.q.new (by rw[P9.q];omega));have hcase:(iv=0/\rr=108)\/(iv=2/\rr=118)\/(iv=8/\rr=103)\/(iv=7/\rr=109)\/(iv=3/\rr=115)\/(iv=6/\rr=116)\/((iv=1\/iv=4\/iv=5)/\rr=0):=by
      have hiv:=Qg.q;have hrr:=HRR.q;rcases(by omega:iv=0\/iv=1\/iv=2\/iv=3\/iv=4\/iv=5\/iv=6\/iv=7\/iv=8) with rfl|rfl|rfl|rfl|rfl|rfl|rfl|rfl|rfl <;> simp[dG] at hrr <;> subst hrr <;> simp
     clear KE hx7 Rl hq1 hq2 hq3 hwk aoU h9 hc0 hf0 HRR;have HC0:=y (⟨Fv.q,I5.q,I6.q⟩:_/\_/\_);clear Uf;rcases hcase with⟨hi0,rfl⟩|⟨hi0,rfl⟩|⟨hi0,rfl⟩|⟨hi0,rfl⟩|⟨hi0,rfl⟩|⟨hi0,rfl⟩|⟨hi0,rfl⟩
     case' inl=>
      have HI0:=y hi0;clear hi0;have hact:nK (iv+1)=List.replicate N 0++[1]:=by rw[HI0.q];unfold nK;rw[<-HI0.q,xG.q,HI0.q];simp
      obtain⟨cap,w8,hrun,hcap1,hcap2,qx,JV,hcv,hcx⟩:=ajT N u6.q (w7.alloc (L #[(.func (.func 161) #[S (E ⟨R,0,C⟩)] #[])] 1)) (w5.1.size+1+1) w7.1.size (.func (.func 160) #[S (E ⟨R,0,C⟩)] #[]) (.func (.func 161) #[S (E ⟨R,0,C⟩)] #[]) (vW.q.alloc _) ((Bx.new w7 #[(.func (.func 161) #[S (E ⟨R,0,C⟩)] #[])] 1).1 0);rw[show(w7.alloc (L #[(.func (.func 161) #[S (E ⟨R,0,C⟩)] #[])] 1)).1.size=w7.1.size+1 by simp] at hrun JV hcv hcx;have hbb:=(aA (J w7.1.size w7) (L #[(.func (.func 161) #[S (E ⟨R,0,C⟩)] #[])] 1)).trans (qx.mono ak);have CP:=y (Fv.q.below hbb);have Nv:=y (I5.q.trans (Mv.of_below hbb));have CQ:=y (I6.q.below hbb);have Df:=y (JU.q.keep hbb);have pU:=y (Rk 1 hcap1 (by have:=u6.q;omega) hcv hcx);have acw:=y JV;have hf2:=Df.q.1 2;have acy:=y hrun;clear hcap1 hcap2 qx JV hcv hcx hbb hrun
      go_wp2_with (at_builtin;refine I7 rfl _ _ 228 rfl rfl rfl acy.q ?_)
      refine(yZ w8 CP.q CQ.q (w7.1.size+1) 0 (N+1) cap _ pU.q (Fv.q.new ah) acw.q (by have:=u6.q;omega) (by have:=BO.q;omega) (by have:=BO.q;omega)).mono ?_
     case' inr.inl=>
      have HI0:=y hi0;clear hi0;have hact:nK (iv+1)=List.replicate N 0++[2]:=by rw[HI0.q];unfold nK;rw[<-HI0.q,xG.q,HI0.q];simp
      obtain⟨cap,w8,hrun,hcap1,hcap2,qx,JV,hcv,hcx⟩:=ajT N u6.q (w7.alloc (L #[(.func (.func 162) #[S (E ⟨R,0,C⟩)] #[])] 1)) (w5.1.size+1+1) w7.1.size (.func (.func 160) #[S (E ⟨R,0,C⟩)] #[]) (.func (.func 162) #[S (E ⟨R,0,C⟩)] #[]) (vW.q.alloc _) ((Bx.new w7 #[(.func (.func 162) #[S (E ⟨R,0,C⟩)] #[])] 1).1 0);rw[show(w7.alloc (L #[(.func (.func 162) #[S (E ⟨R,0,C⟩)] #[])] 1)).1.size=w7.1.size+1 by simp] at hrun JV hcv hcx;have hbb:=(aA (J w7.1.size w7) (L #[(.func (.func 162) #[S (E ⟨R,0,C⟩)] #[])] 1)).trans (qx.mono ak);have CP:=y (Fv.q.below hbb);have Nv:=y (I5.q.trans (Mv.of_below hbb));have CQ:=y (I6.q.below hbb);have Df:=y (JU.q.keep hbb);have pU:=y (Rk 2 hcap1 (by have:=u6.q;omega) hcv hcx);have acw:=y JV;have hf2:=Df.q.1 2;have acy:=y hrun;clear hcap1 hcap2 qx JV hcv hcx hbb hrun
      go_wp2_with (at_builtin;refine I7 rfl _ _ 228 rfl rfl rfl acy.q ?_)
      refine(yZ w8 CP.q CQ.q (w7.1.size+1) 0 (N+1) cap _ pU.q (Fv.q.new ah) acw.q (by have:=u6.q;omega) (by have:=BO.q;omega) (by have:=BO.q;omega)).mono ?_
     case' inr.inr.inl=>
      have HI0:=y hi0;clear hi0;have hact:nK (iv+1)=List.replicate N 0:=by unfold nK;rw[xG.q,au (by have:=HI0.q;omega),au (by have:=HI0.q;omega)];simp
      have CP:=y Fv.q;have Nv:=y I5.q;have CQ:=y I6.q;have Df:=y JU.q;have pU:=y (BN (R:=R) (by have:=u6.q;omega) vW.q);go_wp2_with fail;refine(yZ w7 CP.q CQ.q (w5.1.size+1+1) 0 N N _ pU.q Zv.q vW.q.2.2 (by have:=u6.q;omega) (by have:=BO.q;omega) (by have:=BO.q;omega)).mono ?_
     case' inr.inr.inr.inl=>
      have HI0:=y hi0;clear hi0;have hact:nK (iv+1)=List.replicate N 0:=by unfold nK;rw[xG.q,au (by have:=HI0.q;omega),au (by have:=HI0.q;omega)];simp
      have CP:=y Fv.q;have Nv:=y I5.q;have CQ:=y I6.q;have Df:=y JU.q;have pU:=y (BN (R:=R) (by have:=u6.q;omega) vW.q);go_wp2_with fail;refine(yZ w7 CP.q CQ.q (w5.1.size+1+1) 0 N N _ pU.q Zv.q vW.q.2.2 (by have:=u6.q;omega) (by have:=BO.q;omega) (by have:=BO.q;omega)).mono ?_
     case' inr.inr.inr.inr.inl=>
      have HI0:=y hi0;clear hi0;have hact:nK (iv+1)=List.replicate N 0:=by unfold nK;rw[xG.q,au (by have:=HI0.q;omega),au (by have:=HI0.q;omega)];simp
      have CP:=y Fv.q;have Nv:=y I5.q;have CQ:=y I6.q;have Df:=y JU.q;have pU:=y (BN (R:=R) (by have:=u6.q;omega) vW.q);go_wp2_with fail;refine(yZ w7 CP.q CQ.q (w5.1.size+1+1) 0 N N _ pU.q Zv.q vW.q.2.2 (by have:=u6.q;omega) (by have:=BO.q;omega) (by have:=BO.q;omega)).mono ?_
     case' inr.inr.inr.inr.inr.inl=>
      have HI0:=y hi0;clear hi0;have hact:nK (iv+1)=List.replicate N 0:=by unfold nK;rw[xG.q,au (by have:=HI0.q;omega),au (by have:=HI0.q;omega)];simp
      have CP:=y Fv.q;have Nv:=y I5.q;have CQ:=y I6.q;have Df:=y JU.q;have pU:=y (BN (R:=R) (by have:=u6.q;omega) vW.q);go_wp2_with fail;refine(yZ w7 CP.q CQ.q (w5.1.size+1+1) 0 N N _ pU.q Zv.q vW.q.2.2 (by have:=u6.q;omega) (by have:=BO.q;omega) (by have:=BO.q;omega)).mono ?_
     case' inr.inr.inr.inr.inr.inr=>
      have HI0:=y hi0;clear hi0;have hact:nK (iv+1)=List.replicate N 0:=by unfold nK;rw[xG.q,au (by have:=HI0.q;omega),au (by have:=HI0.q;omega)];simp
      have CP:=y Fv.q;have Nv:=y I5.q;have CQ:=y I6.q;have Df:=y JU.q;have pU:=y (BN (R:=R) (by have:=u6.q;omega) vW.q);go_wp2_with fail;refine(yZ w7 CP.q CQ.q (w5.1.size+1+1) 0 N N _ pU.q Zv.q vW.q.2.2 (by have:=u6.q;omega) (by have:=BO.q;omega) (by have:=BO.q;omega)).mono ?_
     all_goals
      intro e w9 he;rw[<-hact] at he
      cases hdo:l7 (nK (iv+1)) n6 r
      case' error x=>
       rw[hdo] at he;obtain⟨rfl,hs⟩:=he;refine⟨rfl,?_⟩;show dQ R s c w _ _ _ _;rw[qQ.q x hdo];exact⟨rfl,Nv.q.jS hs⟩
      case' ok unr=>
       obtain⟨u,n9,r9⟩:=unr;rw[hdo] at he;obtain⟨rfl,q9,c9,Kn,Pm⟩:=he;have hkp:=Nu _ hdo;have hal:(nK (iv+1)).length<=3:=by rw[hact];have:=u6.q;simp;omega
       have KF:=y Kn;have Nw:=y (Nv.q.trans Pm);have lY:=y (CQ.q.mv CP.q Pm.same);have HY9:=y (yG.q _ _ _ hdo);have acz:=y (Pm.bx Df.q Iy.q);have hf2:=acz.q.1 2;have oU:M (n9.names.length<=3/\n9.aG.length<=3/\n9.bits=0/\n9.first=false):=y (by have:=BO.q;exact⟨by omega,by omega,by rw[hkp.1];exact this.1,by rw[hkp.2.1];exact this.2.1⟩);have HRB:M (w5.1.size<w9.1.size):=y (acz.q.2.2);have Kb:M (oO R c9 w5.1.size):=y (Pm.rda Iy.q Df.q.2.2);clear Kn Pm hkp hal hdo hact
     case' inr.inr.inl.ok=>
      have hrs:oN (iv+1) n9 r9=(match jo 5 0 0 r9 with| .error x=> .error x| .ok (b,r)=> .ok ((),{n9 with bits:=b},r)):=by unfold oN;rw[av (by have:=HI0.q;omega)] <;> rfl
      go_wp2_with fail;refine(NH _ KF.q lY.q oU.q.2.2.1).mono ?_;intro e Rm he;have he:dQ R s c9 w9 (λ_:Unit=> .tuple #[]) (oN (iv+1) n9 r9) e Rm:=by rw[hrs];exact he
     case' inr.inr.inr.inr.inl.ok=>
      have hrs:oN (iv+1) n9 r9=(match bK true 40 (40+1) 0 n9.names n9.aG r9 with| .error x=> .error x| .ok (b,r)=> .ok ((),{n9 with names:=b.1,aG:=b.2},r)):=by unfold oN;rw[au (by have:=HI0.q;omega),au (by have:=HI0.q;omega),av (by have:=HI0.q;omega)] <;> rfl
      go_wp2_with fail;refine(GL _ KF.q lY.q 115 40 true (by rfl) (by rfl) aj (by have:=oU.q;omega) (by have:=oU.q;omega)).mono ?_;intro e Rm he;have he:dQ R s c9 w9 (λ_:Unit=> .tuple #[]) (oN (iv+1) n9 r9) e Rm:=by rw[hrs];exact he
     case' inr.inr.inr.inr.inr.inl.ok=>
      have hrs:oN (iv+1) n9 r9=(match bK false 300 (300+1) 0 n9.names n9.aG r9 with| .error x=> .error x| .ok (b,r)=> .ok ((),{n9 with names:=b.1,aG:=b.2},r)):=by unfold oN;rw[au (by have:=HI0.q;omega),au (by have:=HI0.q;omega),au (by have:=HI0.q;omega),av (by have:=HI0.q;omega)] <;> rfl
      go_wp2_with fail;refine(GL _ KF.q lY.q 116 300 false (by rfl) (by rfl) aj (by have:=oU.q;omega) (by have:=oU.q;omega)).mono ?_;intro e Rm he;have he:dQ R s c9 w9 (λ_:Unit=> .tuple #[]) (oN (iv+1) n9 r9) e Rm:=by rw[hrs];exact he
     case' inr.inr.inr.inl.ok=>
      go_wp2_with fail;refine(aci _ KF.q oU.q.2.2.2).mono ?_;intro e wf he
      cases hfi:j4 r9
      case' error x=>
       rw[hfi] at he;obtain⟨rfl,hs⟩:=he;refine⟨rfl,?_⟩;show dQ R s c w _ _ _ _;rw[HY9.q,show oN (iv+1) n9 r9= .error x by unfold oN;rw[au (by have:=HI0.q;omega),av (by have:=HI0.q;omega),hfi],Lb];exact⟨rfl,Nw.q.jS hs⟩
      case' ok fr=>
       obtain⟨f,rf⟩:=fr;rw[hfi] at he;obtain⟨rfl,qf,cf,hcf,PL⟩:=he;have HCf:=y hcf;have HMf:=y (Nw.q.trans PL);have HGf:=y (lY.q.mv KF.q PL.same);have aoV:=y (PL.bx acz.q Kb.q);have hf2:=aoV.q.1 2;have hrs:oN (iv+1) n9 r9=(match bK false 300 (300+1) 0 {n9 with first:=f}.names {n9 with first:=f}.aG rf with| .error x=> .error x| .ok (b,r)=> .ok ((),{{n9 with first:=f} with names:=b.1,aG:=b.2},r)):=by unfold oN;rw[au (by have:=HI0.q;omega),av (by have:=HI0.q;omega),hfi] <;> rfl
       clear hcf PL hfi;go_wp2_with fail;refine(GL _ HCf.q HGf.q 109 300 false (by rfl) (by rfl) aj (by have:=oU.q;show n9.names.length<=600;omega) (by have:=oU.q;show n9.aG.length<=600;omega)).mono ?_;intro e Rm he;have he:dQ R s cf wf (λ_:Unit=> .tuple #[]) (oN (iv+1) n9 r9) e Rm:=by rw[hrs];exact he
       have Nw:=y HMf.q
     all_goals
      first
      |have hx:=he
       clear hx
       cases hre:oN (iv+1) n9 r9
       case' error x=>
        rw[hre] at he;obtain⟨rfl,hs⟩:=he;refine⟨rfl,?_⟩;show dQ R s c w _ _ _ _;rw[HY9.q,hre,Lb];exact⟨rfl,Nw.q.jS hs⟩
       case' ok unr=>
        obtain⟨u,n9,r9⟩:=unr;rw[hre] at he;obtain⟨rfl,q9,c9,ajW,ajX⟩:=he;have KF:=y ajW;have Nw:=y (Nw.q.trans ajX);have Qe:M (Y=Dc (.ok (u,n9,r9))):=y (by rw[HY9.q,hre]);clear ajW ajX hre hrs
      |have Qe:M (Y=Dc (.ok ((),n9,r9))):=y (HY9.q.trans (by unfold oN;rw[au (by have:=HI0.q;omega),au (by have:=HI0.q;omega),au (by have:=HI0.q;omega),au (by have:=HI0.q;omega)]))
     all_goals
      go_wp2_with fail;refine(DI _ KF.q).mono ?_;intro e wa he
      cases hmo:dN r9
      case' error x=>
       rw[hmo] at he;obtain⟨rfl,hs⟩:=he;refine⟨rfl,?_⟩;show dQ R s c w _ _ _ _;rw[Qe.q,Zt hmo];exact⟨rfl,Nw.q.jS hs⟩
      case' ok br=>
       obtain⟨bb,ra⟩:=br;rw[hmo] at he;obtain⟨rfl,qa,hca,hma⟩:=he;have HCa:=y hca;have HMa:=y (Nw.q.trans hma);have GK:=y hmo;have c1:=hca.c1;clear hca hma hmo
       cases bb
       .go_wp2_with fail
        refine bodyPost_end (results_none rfl _ _ _) rfl ?_;show dQ R s c w _ _ _ _;rw[Qe.q,Wl GK.q];exact⟨rfl,qa,_,HCa.q,HMa.q⟩
       .go_wp2_with fail
        refine(mR qa 220 _).mono ?_;rintro e wb ⟨rfl,rfl⟩;refine⟨rfl,?_⟩;show dQ R s c w _ _ _ _;rw[Qe.q,Zu GK.q];have:=HCa.q.len;exact⟨by rw[show s.length - ra.length=qa by omega],HMa.q.same⟩
 .go_wp2_with fail
  refine bodyPost_end (results_none rfl _ _ _) rfl ?_;show dQ R s c w _ _ _ _;rw[HY.q];unfold jh;rw[av hE];exact⟨rfl,q,c,HT3.q,tQ.q⟩
end Yd
