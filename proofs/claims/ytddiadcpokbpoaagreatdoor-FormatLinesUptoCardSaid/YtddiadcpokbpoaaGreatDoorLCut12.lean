import Derived.Test.YtddiadcpokbpoaaGreatDoorLCuK
import Derived.Test.YtddiadcpokbpoaaGreatDoorLD1
set_option linter.all false
set_option maxRecDepth 200000
set_option maxHeartbeats 8000000
namespace Yd
open Option renaming none->E,some->H
open Go Go.RowKit Go.Proofs Tryz
open Below renaming refl->O
open Go.IntKind renaming i64->F
open Go.Obj renaming cells->J
open Go.Value renaming int->G,string->L,pointer->M,slice->S
open Yd renaming hid->C
open _root_ renaming Int->I
def vN (R:Nat)(w:World):Prop:=∃w0:World,w0.1.size<=R/\Below w0.1.size w0 w/\Lib.Utf8Tabs 5 6 w0/\AP w0/\qc w0
theorem vN.tabs {R:Nat}{w:World}(h:vN R w):Lib.Utf8Tabs 5 6 w:=let⟨_,_,h2,h3,_⟩:=h;Utf8Tabs_below h3 h2
theorem vN.e {R:Nat}{w:World}(h:vN R w):AP w:=let⟨_,_,h2,_,h4,_⟩:=h;h4.below h2
theorem vN.l {R:Nat}{w:World}(h:vN R w):qc w:=let⟨_,_,h2,_,_,h5⟩:=h;h5.below h2
theorem vN.below {R:Nat}{w w':World}(h:vN R w)(hb:Below w.1.size w w'):vN R w':=let⟨w0,h1,h2,h3⟩:=h;⟨w0,h1,h2.trans (hb.mono h2.size),h3⟩
theorem vN.mv {R p:Nat}{w w':World}{s l:Bs}{c:bB}{n:aP}(h:vN R w)(hc:dY w R s p l c n)(hs:Same (nY R c) w w'):vN R w':=
 let⟨w0,h1,h2,h3⟩:=h;⟨w0,h1,hs.below h2 (λi hi=>hc.old ah) h2.size,h3⟩
theorem dY.put {w:World}{R p:Nat}{s l:Bs}{c:bB}{n:aP}(h:dY w R s p l c n)(b i:Nat)(v:Value)(hb:nY R c b):dY (w.setCell ⟨b,i,E⟩ v) R s p l c n:=
 ⟨h.x.setOther b i v (Ne.symm hb.1),⟨h.n.1,h.n.2.1.block λg hg=>Below.heap_setCell _ _ _ _ (by rintro rfl;exact hb.2.1 hg),h.n.2.2.block λg hg=>Below.heap_setCell _ _ _ _ (by rintro rfl;exact hb.2.2 hg)⟩,h.d,h.le,h.lim⟩
theorem Mv.put {R:Nat}{c c':bB}{w Y:World}(h:Mv R c c' w Y)(b i:Nat)(v:Value)(hb:w.1.size<=b):Mv R c c' w (Y.setCell ⟨b,i,E⟩ v):=
 ⟨⟨h.same.os,h.same.tape,h.same.output,dL h.same.size (by simp[World.setCell]),λj hj hl=>(Below.heap_setCell _ _ _ _ (by simp;omega)).trans (h.same.block j hj hl)⟩,h.na,h.va⟩
theorem NT (q:UInt8->Bool):∀l:Bs,∀c∈l.takeWhile q,q c=true
 |[],_,h=>by simp at h
 |a::t,c,h=>by
  rw[pu] at h
  cases hq:q a
  .rw[hq] at h;simp at h
  .rw[hq,ay rfl] at h
   rcases dP.1 h with rfl|h
   .exact hq
   .exact NT q t c h
theorem Yw (nm:Bs)(l:Bs):((mq l).head?=E\/(mq l).head?=H 45\/(mq l).head?=H 48)/\za nm l= .error (l,220)\/
  (∃b t,mq l=b::t/\b.toNat≠45/\b.toNat≠48)/\mq l=l.takeWhile jR/\(∀c∈mq l,jR c=true)/\za nm l=(if 999<vR (mq l) then .error (l,3) else .ok (⟨nm,vR (mq l)⟩,l.drop (mq l).length)):=by
 by_cases h45:l.head?=H 45
 .obtain⟨t,rfl⟩:∃t,l=45::t:=by cases l with
   |nil=>simp at h45
   |cons a t=>exact⟨t,by simpa using h45⟩
  have hds:(45::t:Bs).takeWhile jR=[]:=by rw[pu];rfl
  left
  constructor
  .unfold mq
   rw[ay (show(45::t:Bs).head?=H 45 from rfl)]
   split
   .exact .inl rfl
   .exact .inr (.inl rfl)
  .unfold za
   simp only[hds];rw[ay (.inl rfl)]
 .have hh:mq l=l.takeWhile jR:=by unfold mq;rw[ak h45]
  rw[hh];have hall:∀c∈l.takeWhile jR,jR c=true:=NT jR l
  cases hd:l.takeWhile jR with
  |nil=>
   left
   refine⟨.inl rfl,?_⟩;unfold za;simp only[hd];rw[ay (.inl rfl)]
  |cons b t=>
   by_cases h48:b=48
   .left
    subst h48;refine⟨.inr (.inr rfl),?_⟩;unfold za;simp only[hd];rw[ay (.inr rfl)]
   .right
    rw[hd] at hall;refine⟨⟨b,t,rfl,?_,λe=>h48 (mV.1 e)⟩,rfl,hall,?_⟩
    .intro e
     have:=hall b au;rw[Jd,e] at this;exact absurd this aj
    .unfold za
     simp only[hd];rw[ak (by simpa using h48)]
theorem dY.drewN {w:World}{R p:Nat}{s l:Bs}{c:bB}{n:aP}(h:dY w R s p l c n)(k:Nat):dY (w.drewN k) R s p l c n:=⟨h.x,h.n,h.d,h.le,h.lim⟩
theorem Same.Vr {A:Nat->Prop}(X:World)(n:Nat):Same A X (X.drewN n):=⟨rfl,rfl,rfl,aA _,λ_ _ _=>rfl⟩
theorem J7 {R p:Nat}{s l:Bs}{c:bB}{n:aP}(w:World)(h:dY w R s p l c n)(hG:vN R w)(hl:n.aF.length<=1000):
  Calls Tryz.prog 153 #[M (H ⟨R,0,E⟩)] w (dJ R s c w (λ_:Unit=> .tuple #[]) (match gZ l with| .error x=> .error x| .ok (v,r)=> .ok ((),El n v,r))):=by
 obtain⟨X,hX⟩:∃X:Except Er (Unit × aP × Bs),X=(match gZ l with| .error x=> .error x| .ok (v,r)=> .ok ((),El n v,r)):=⟨_,rfl⟩;rw[<-hX];have HX:=C hX;clear hX;have HEN:=C (λW (hb:Below w.1.size w W)=>Hg W (h.below hb));have uE:=C (λW (hb:Below w.1.size w W)=>Hl W (h.below hb) (hG.below hb).tabs);have HG:=C hG;obtain⟨i,z,hi⟩:=Rt;have HI:=C hi;have HH:=C h;have HB0:Hid (Below w.1.size w w.drew):=C ((O _ _).drew);have lU:Hid ((Value.slice c.va c.vn c.vc).ownBlock≠H R):=C (h.n.2.2.far' (.inl ah));have hcn:=h.n.1.2.2.2.2.2;have jW:Hid (n.aF.length+1=c.vn+1):=C ah;have fT:Hid ((c.vn+1)*24<=140737488355328):=C ah;have lV:Hid (c.vn+1<=maxLen):=C (by unfold maxLen;omega);have hlim:=h.lim;have hlen:=h.len;clear hcn h hG hi;by_cases hsg:∃t,l=45::t
 .obtain⟨t,rfl⟩:=hsg
  have Ru:Hid (jf (45::t)=false):=C (by rw[AO];rfl);have hix:=λW=>jH Tryz.underlying9 s p 45 HH.q.at_ W
  have hlt:p<s.length:=by simp at hlen;omega
  have tX:Hid (X= .ok ((),El n ⟨[],0⟩,t)):=C (by rw[HX.q];unfold gZ;rw[ay (show(45::t:Bs).head?=H 45 from rfl)];rfl);go_enter func153,ntmps153;go_wp2_with fail;refine aC 99 [(0,0),(1,2),(2,0),(3,0),(4,0),(5,0),(6,0),(7,0),(8,0),(9,0),(10,0),(11,0),(12,0),(13,0),(14,0)] (λ_=>True) (λW'=>W'.cell? ⟨R,0,E⟩=H (L ⟨s.toArray⟩)/\W'.cell? ⟨R,1,E⟩=H (G F p)) av av (trivial) (⟨HH.q.drew.c0,HH.q.drew.c1⟩) ?_;refine qC ?_;refine aD rfl rfl (λK hK=>?_);go_simp;refine(HEN.q _ HB0.q).mono ?_;rintro e w1 ⟨rfl,hb1⟩;have hc1:=HH.q.drew.below hb1;have vY:=C hc1;have HB1:=C (HB0.q.bO hb1);rw[Ru.q];refine hK _ _ ⟨trivial,hc1.c0,hc1.c1⟩ ?_;clear hK K hb1 hc1;refine qC ?_;refine aJ ?_;have HT1:=vY.q.to 1 rfl au (p+1) rfl;have HT:=C HT1.1;have HM:=C HT1.2;rw[Ce] at HT HM;have c1:=vY.q.c1;have z1:=f1 vY.q 1;have c5:=vY.q.c5;clear HT1;have Ch:Hid ((w1.setCell ⟨R,1,E⟩ (G F ((p:I)+1))).1.size=w1.1.size):=C au;have vZ:Hid (R+1<=((w1.setCell ⟨R,1,E⟩ (G F ((p:I)+1))).alloc (J #[L ⟨([]:Bs).toArray⟩,G F 0] 52)).1.size):=C (by have:=HT.q.x.2.2;simp at*;omega)
  go_wp2_with (at_builtin;refine eB rfl _ _ 28 rfl i z 24 underlying28 HI.q.1 HI.q.2.1 HI.q.2.2.1 HI.q.2.2.2.1 HI.q.2.2.2.2 rfl (HT.q.n.2.2.alloc _) (H ⟨w1.1.size,0,E⟩) 1 1 (c.vn+1) [⟨[],0⟩] rfl (Row.toN Ch.q ⟨[],0⟩) jW.q fT.q lV.q vZ.q ?_;intro a' c' w3 hown3 hg3 Je;have hx3:=(HT.q.x.keep (aB (O _ _) (J #[L ⟨([]:Bs).toArray⟩,G F 0] 52))).grown hg3 lU.q;have HAD:=C (HT.q.El (aB (O _ _) (J #[L ⟨([]:Bs).toArray⟩,G F 0] 52)) a' c' hown3 hg3 Je);have hc3:=hx3.1 5;have hf3:=hx3.2.1 5;clear hown3 hg3 Je hx3)
  refine bodyPost_ret (results_none rfl _ _ _) rfl ?_;show dJ R s c w _ _ _ _;rw[tX.q];exact⟨rfl,p+1,_,HAD.q.1,(Mv.of_below HB1.q).trans (HM.q.trans HAD.q.2)⟩
 .have h45:¬l.head?=H 45:=λe=>hsg (by cases l with
   |nil=>simp at e
   |cons a t=>exact⟨t,by simp at e;rw[e]⟩)
  have NU:Hid (∀x,dB l= .error x->(match gZ l with| .error x=> .error x| .ok (v,r)=> .ok ((),El n v,r):Except Er (Unit × aP × Bs))= .error x):=C (λx hx=>by unfold gZ;rw[ak h45,hx]);have HVO:Hid (∀m r,dB l= .ok (m,r)->gZ l=if r.head?=H 46 then za m r.tail else .error (r,220)):=C (λm r hx=>by unfold gZ;rw[ak h45,hx]);clear h45
  cases hee:jf l
  .obtain⟨b0,t0,rfl⟩:∃b0 t0,l=b0::t0:=by cases l with
    |nil=>exact absurd hee aj
    |cons a t=>exact⟨a,t,rfl⟩
   have Ru:Hid (jf (b0::t0)=false):=C hee;have asC:=λW=>jH Tryz.underlying9 s p b0 HH.q.at_ W
   have asD:p<s.length:=by simp at hlen;omega
   have Yx:((b0.toNat:I)==45)=false:=aR.2 (λe=>hsg ⟨t0,by rw[show b0=45 from mV.1 (by show b0.toNat=45;omega)]⟩);clear hee hsg;go_enter func153,ntmps153;go_wp2_with fail;refine aC 99 [(0,0),(1,2),(2,0),(3,0),(4,0),(5,0),(6,0),(7,0),(8,0),(9,0),(10,0),(11,0),(12,0),(13,0),(14,0)] (λ_=>True) (λW'=>W'.cell? ⟨R,0,E⟩=H (L ⟨s.toArray⟩)/\W'.cell? ⟨R,1,E⟩=H (G F p)) av av (trivial) (⟨HH.q.drew.c0,HH.q.drew.c1⟩) ?_;refine qC ?_;refine aD rfl rfl (λK hK=>?_);go_simp;refine(HEN.q _ HB0.q).mono ?_;rintro e w1 ⟨rfl,hb1⟩;have hc1:=HH.q.drew.below hb1;have vY:=C hc1;have HB1:=C (HB0.q.bO hb1);rw[Ru.q];refine hK _ _ ⟨trivial,hc1.c0,hc1.c1⟩ ?_;clear hK K hb1 hc1;refine qC ?_;refine aJ ?_;go_wp2_with fail;refine(uE.q _ HB1.q).mono ?_;intro e w2 he
   cases hnm:dB (b0::t0) with
   |error x=>
    rw[hnm] at he;obtain⟨rfl,hs⟩:=he;refine⟨rfl,?_⟩;show dJ R s c w _ _ _ _;rw[HX.q,NU.q x hnm];exact⟨rfl,(Same.of_below HB1.q (λ_ _ h=>h)).tr hs⟩
   |ok mr=>
   obtain⟨m,r⟩:=mr;rw[hnm] at he;obtain⟨rfl,p2,hc2,hm2⟩:=he;have yc:=C (HVO.q m r hnm);have eY:=C hc2;have ng:=C ((Mv.of_below HB1.q).trans hm2);have hcA:=hc2.below (aB (O _ _) (J #[L ⟨m.toArray⟩,G F 0] 52));have HCA:=C hcA;have NV:=C (ng.q.trans (Mv.of_below (aB (O w2.1.size w2) (J #[L ⟨m.toArray⟩,G F 0] 52))));have HYA:=C (Bx.new w2 #[L ⟨m.toArray⟩,G F 0] 52);have FT:=C (hc2.new (aA _));have Co:=hc2.len;have c0:=hcA.c0;have c1:=hcA.c1;have z1:=f1 hcA 1;have hz:=iM s;clear hc2 hm2 hcA hnm
   cases hr:r with
   |nil=>
    have hd1:((p2:I)==(s.length:I))=true:=by rw[hr] at Co;simp at Co;simp[Co]
    have tX:Hid (gZ (b0::t0)= .error ([],220)):=C (by rw[yc.q,hr];rfl);have HQ:Hid (s.length - ([]:Bs).length=p2):=C (by rw[hr] at Co;simp at Co ⊢;omega);clear hr Co
    go_wp2_with (go_quiet (fail))
    refine(mJ p2 220 _).mono ?_;rintro e w9 ⟨rfl,rfl⟩;refine⟨rfl,?_⟩;show dJ R s c w _ _ _ _;rw[HX.q,tX.q];exact⟨by rw[HQ.q],NV.q.same.tr (Same.Vr _ _)⟩
   |cons b2 t2=>
   subst hr;have hd1:((p2:I)==(s.length:I))=false:=aR.2 (by simp at Co;omega);have NW:=λW=>jH Tryz.underlying9 s p2 b2 HCA.q.at_ W
   have HL2:=C Co;by_cases h46:b2=46
   .subst h46
    have Yf:(((46:UInt8).toNat:I)!=46)=false:=rfl;have tX:Hid (gZ (b0::t0)=za m t2):=C (by rw[yc.q];rfl);have hp2:p2+1<=s.length:=by have:=HL2.q;simp at this;omega
    have hd3:s.drop (p2+1)=t2:=by rw[<-zB,HCA.q.d];rfl
    have hsl2:∀W,(Instr.slice 9 (L ⟨s.toArray⟩) (H (G F ((p2:I)+1))) E E).run Tryz.prog W= .ok (L ⟨t2.toArray⟩) W:=λW=>by have:=oD Tryz.underlying9 s (p2+1) hp2 W;rw[hd3] at this;exact this
    have HHE:=λW=>C (Rv t2 (by have:=HL2.q;simp at this;omega) W)
    clear hd3;have kX:=Yw m t2;have hDl:(mq t2).length<=t2.length:=by unfold mq;split;split;exact aV _;rw[dN];exact Nat.min_le_right _ _;have:=pV jR t2;omega
    revert HHE kX hDl;generalize mq t2=D;intro HHE kX hDl;have LJ:=C hDl;have ze:=C kX;clear hDl kX
    go_wp2_with (go_quiet (fail))
    have HT1:=(HCA.q.drewN nq).to 1 rfl au (p2+1) rfl;have Vs:Hid (dY (((w2.alloc (J #[L ⟨m.toArray⟩,G F 0] 52)).drewN nq).setCell ⟨R,1,E⟩ (G F ((p2:I)+1))) R s (p2+1) t2 c n):=C HT1.1;have Rw:Hid (Mv R c c w (((w2.alloc (J #[L ⟨m.toArray⟩,G F 0] 52)).drewN nq).setCell ⟨R,1,E⟩ (G F ((p2:I)+1)))):=C ((NV.q.trans (Mv.of_below (fA (O _ _) nq))).trans HT1.2);have Rj:Hid (Bx (((w2.alloc (J #[L ⟨m.toArray⟩,G F 0] 52)).drewN nq).setCell ⟨R,1,E⟩ (G F ((p2:I)+1))) w2.1.size #[L ⟨m.toArray⟩,G F 0]):=C ((HYA.q.drewN nq).setOther R 1 (G F ((p2:I)+1)) (by have:=eY.q.x.2.2;omega));clear HT1 c0 c1 z1 hd1;revert Vs Rw Rj;generalize(((w2.alloc (J #[L ⟨m.toArray⟩,G F 0] 52)).drewN nq).setCell ⟨R,1,E⟩ (G F ((p2:I)+1)))=V;intro Vs Rw Rj;obtain⟨tb,htb⟩:∃tb,tb=w2.1.size:=⟨_,rfl⟩;rw[<-htb] at Rj FT ⊢;have HTB:Hid (tb≠R):=C (λe=>FT.q.1 e);have NY:Hid (w.1.size<=tb):=C (by rw[htb];exact ng.q.same.size);clear htb;refine aC 99 [(0,0),(1,0),(2,0),(3,0),(4,0),(5,0),(6,0),(7,0),(8,0),(9,2),(10,0),(11,0),(12,0),(13,0),(14,0)] (λ_=>True) (λW'=>W'.cell? ⟨R,0,E⟩=H (L ⟨s.toArray⟩)/\W'.cell? ⟨R,1,E⟩=H (G F ((p2:I)+1))) av av (trivial) (⟨Vs.q.drew.c0,Vs.q.drew.c1⟩) ?_;refine qC ?_;refine aD rfl rfl (λK hK=>?_);go_simp;refine(HHE _).q.mono ?_;rintro e w4 ⟨rfl,hb4⟩;have hc4:=Vs.q.drew.below hb4;have gM:=C hc4;have Fe:=C ((Rw.q.trans (Mv.of_below (O _ _).drew)).trans (Mv.of_below hb4));have jX:=C (Rj.q.drew.keep hb4);refine hK _ _ ⟨trivial,hc4.c0,hc4.c1⟩ ?_;clear hK K hb4 hc4;refine qC ?_;refine aJ ?_;have c0:=gM.q.c0;have z1:=f1 gM.q 1;have c1:w4.cell? ⟨R,1,E⟩=H (G F ((p2:I)+1)):=gM.q.c1;clear hsl2;rcases ze.q with⟨hbad,Rx⟩|⟨⟨b3,t3,hh,h45,h48⟩,hht,hal,Rx⟩
    .have J8:=C Rx
     have HQ:Hid (s.length - t2.length=p2+1):=C (by have:=HL2.q;simp at this;omega);have HF:Hid (∀W,Calls Tryz.prog 133 #[G F ((p2:I)+1),G F 220] W λe w'=>e= .panicked (oH (p2+1) 220)/\w'=W):=C (λW=>mJ (p2+1) 220 W);clear Rx
     cases D with
     |nil=>
      go_wp2_with fail;refine(HF.q _).mono ?_;rintro e w9 ⟨rfl,rfl⟩;refine⟨rfl,?_⟩;show dJ R s c w _ _ _ _;rw[HX.q,tX.q,J8.q];exact⟨by rw[HQ.q],Fe.q.same⟩
     |cons b3 t3=>
      have hbb:b3=45\/b3=48:=by simpa using hbad
      have hi0:∀W,(Instr.index 9 (L ⟨(b3::t3).toArray⟩) (G F 0)).run Tryz.prog W= .ok (.int .u8 (b3.toNat:I)) W:=λW=>jH Tryz.underlying9 (b3::t3) 0 b3 rfl W
      have hem:((b3::t3)==([]:Bs))=false:=rfl;clear hbad;by_cases h45:b3.toNat=45
      .have e45:((b3.toNat:I)==45)=true:=by simp[h45]
       clear hbb h45;go_wp2_with fail;refine(HF.q _).mono ?_;rintro e w9 ⟨rfl,rfl⟩;refine⟨rfl,?_⟩;show dJ R s c w _ _ _ _;rw[HX.q,tX.q,J8.q];exact⟨by rw[HQ.q],Fe.q.same⟩
      .have h48:b3.toNat=48:=by rcases hbb with rfl|rfl;exact absurd rfl h45;rfl
       have e45:((b3.toNat:I)==45)=false:=aR.2 ah;have e48:((b3.toNat:I)==48)=true:=by simp[h48]
       clear hbb h45 h48;go_wp2_with fail;refine(HF.q _).mono ?_;rintro e w9 ⟨rfl,rfl⟩;refine⟨rfl,?_⟩;show dJ R s c w _ _ _ _;rw[HX.q,tX.q,J8.q];exact⟨by rw[HQ.q],Fe.q.same⟩
    .skip
     clear hht;subst hh;have hne:(b3::t3:Bs)≠[]:=by simp
     have hi0:∀W,(Instr.index 9 (L ⟨(b3::t3).toArray⟩) (G F 0)).run Tryz.prog W= .ok (.int .u8 (b3.toNat:I)) W:=λW=>jH Tryz.underlying9 (b3::t3) 0 b3 rfl W
     have e45:((b3.toNat:I)==45)=false:=aR.2 ah;have e48:((b3.toNat:I)==48)=false:=aR.2 ah;have hem:((b3::t3)==([]:Bs))=false:=rfl;have hzd:=iM (b3::t3);have hle3:=gM.q.len;have hdl:=LJ.q;have HAT:=C (ac6 (b3::t3) hne hal ah w4 ((HG.q.mv HH.q Fe.q.same).e));obtain⟨V,hV⟩:∃V,V=vR (b3::t3):=⟨_,rfl⟩;rw[<-hV] at HAT Rx;have J8:=C Rx;have HL3:=C hle3;clear hal Rx h45 h48 hV hle3 hne;go_wp2_with fail;refine HAT.q.mono ?_;rintro e w5 ⟨kk,er,rfl,hb5,hkr⟩;have jb:=C (gM.q.below hb5);have Cq:=C (Fe.q.trans (Mv.of_below hb5));have lG:=C (jX.q.keep hb5);have z1:=f1 jb.q 1;have c1:w5.cell? ⟨R,1,E⟩=H (G F ((p2:I)+1)):=jb.q.c1;have uG:Hid (∀W,Calls Tryz.prog 133 #[G F ((p2:I)+1),G F 3] W λe w'=>e= .panicked (oH (p2+1) 3)/\w'=W):=C (λW=>mJ (p2+1) 3 W);have HQ:Hid (s.length - t2.length=p2+1):=C (by have:=HL2.q;simp at this;omega);clear hb5;rcases hkr with⟨rfl,rfl,hmx⟩|⟨h9,T,pp,rfl⟩
     .by_cases h9:999<V
      .have NZ:=C h9
       have hd9:decide ((999:I)<(V:I))=true:=bA ah;clear h9;go_wp2_with fail;refine(uG.q _).mono ?_;rintro e w9 ⟨rfl,rfl⟩;refine⟨rfl,?_⟩;show dJ R s c w _ _ _ _;rw[HX.q,tX.q,J8.q,ay NZ.q];exact⟨by rw[HQ.q],Cq.q.same⟩
      .have NZ:=C h9
       have hd9:decide ((999:I)<(V:I))=false:=aX ah;obtain⟨q,hq⟩:∃q,q=p2+1+(b3::t3).length:=⟨_,rfl⟩;have hqi:(p2:I)+1+((b3::t3).length:I)=(q:I):=by omega
       have asE:(p2:I)+1+((t3.length:I)+1)=(q:I):=by simp at hq;omega
       have Iu:q<=2000000:=by have:=HL3.q;omega
       have Iw:=jb.q.to (b3::t3).length rfl LJ.q q hq;have hcy:=lG.q.1;have Aq:=lG.q.2.1;have hn1:¬tb=R:=HTB.q;have hn2:¬R=tb:=λe=>HTB.q e.symm
       have Bj:=C (Iw.1.put tb 1 (G F (V:I)) FT.q);have Ry:=C ((Cq.q.trans Iw.2).put tb 1 (G F (V:I)) NY.q);have qb:Hid (Bx ((w5.setCell ⟨R,1,E⟩ (G F (q:I))).setCell ⟨tb,1,E⟩ (G F (V:I))) tb #[L ⟨m.toArray⟩,G F (V:I)]):=C ((lG.q.setOther R 1 (G F (q:I)) hn1).aZ 1 au (G F (V:I)));clear h9 hq Iw;go_wp2_with fail;revert Bj Ry qb;generalize((w5.setCell ⟨R,1,E⟩ (G F (q:I))).setCell ⟨tb,1,E⟩ (G F (V:I)))=Z;intro Bj Ry qb;clear hcy Aq z1 c1;have vZ:Hid (R+1<=(Z.drew.alloc (J #[L ⟨m.toArray⟩,G F (V:I)] 52)).1.size):=C (by have:=Bj.q.x.2.2;simp;omega);refine aC 12 [(0,1),(1,1),(2,1),(3,1),(4,1),(5,0),(6,0),(7,2),(8,2),(9,1),(10,1),(11,1),(12,2)] (λ_=>True) (λW'=>W'.cell? ⟨R,5,E⟩=H (S c.va c.vn c.vc)/\W'.cell? ⟨tb,0,E⟩=H (L ⟨m.toArray⟩)/\W'.cell? ⟨tb,1,E⟩=H (G F (V:I))) av av (trivial) (⟨Bj.q.drew.c5,qb.q.drew.1 0,qb.q.drew.1 1⟩) ?_;refine qC ?_;refine aD rfl rfl (λK hK=>?_);go_simp;refine hK _ _ ⟨trivial,(Bj.q.drew.below (aB (O _ _) _)).c5,(qb.q.drew.alloc _).1 0,(qb.q.drew.alloc _).1 1⟩ ?_;clear hK K;refine aD rfl rfl (λK hK=>?_);refine ko _ _ 28 rfl i z 24 underlying28 HI.q.1 HI.q.2.1 HI.q.2.2.1 HI.q.2.2.2.1 HI.q.2.2.2.2 rfl (Bj.q.drew.n.2.2.alloc _) (H ⟨Z.1.size,0,E⟩) 1 1 (c.vn+1) [⟨m,V⟩] rfl (Row.toN rfl ⟨m,V⟩) jW.q fT.q lV.q vZ.q ?_;intro a' c' w7 abA Rz aff;have hx7:=(Bj.q.drew.x.keep (aB (O _ _) (J #[L ⟨m.toArray⟩,G F (V:I)] 52))).grown Rz lU.q;have HAD:=C (Bj.q.drew.El (aB (O _ _) (J #[L ⟨m.toArray⟩,G F (V:I)] 52)) a' c' abA Rz aff);have hy7:Bx w7 tb #[L ⟨m.toArray⟩,G F (V:I)]:=(qb.q.drew.alloc _).grown Rz FT.q.2.2;refine hK _ _ ⟨trivial,hx7.1 5,hy7.1 0,hy7.1 1⟩ ?_;have hc7:=hx7.1 5;have hf7:=hx7.2.1 5;clear hK K abA Rz aff hx7 hy7;refine qC ?_;refine bq rfl rfl rfl (λK hK=>?_);go_simp;refine hK _ _ trivial ?_;clear hK K;refine aJ ?_;go_wp2_with fail;refine bodyPost_end (results_none rfl _ _ _) rfl ?_;show dJ R s c w _ _ _ _;rw[HX.q,tX.q,J8.q,ak NZ.q];exact⟨rfl,q,_,HAD.q.1,(Ry.q.trans (Mv.of_below (O _ _).drew)).trans HAD.q.2⟩
     .have NZ:=C h9
      clear h9;go_wp2_with fail;refine(uG.q _).mono ?_;rintro e w9 ⟨rfl,rfl⟩;refine⟨rfl,?_⟩;show dJ R s c w _ _ _ _;rw[HX.q,tX.q,J8.q,ay NZ.q];exact⟨by rw[HQ.q],Cq.q.same⟩
   .have Yf:((b2.toNat:I)!=46)=true:=p8.2 (λe=>h46 (mV.1 (by show b2.toNat=46;omega)))
    have tX:Hid (gZ (b0::t0)= .error (b2::t2,220)):=C (by rw[yc.q,ak (by simpa using h46)]);have HQ:Hid (s.length - (b2::t2).length=p2):=C ah;clear h46
    go_wp2_with (go_quiet (fail))
    refine(mJ p2 220 _).mono ?_;rintro e w9 ⟨rfl,rfl⟩;refine⟨rfl,?_⟩;show dJ R s c w _ _ _ _;rw[HX.q,tX.q];exact⟨by rw[HQ.q],NV.q.same.tr (Same.Vr _ _)⟩
  .have Ru:Hid (jf l=true):=C hee
   clear hee hsg;go_enter func153,ntmps153;go_wp2_with fail;refine aC 99 [(0,0),(1,2),(2,0),(3,0),(4,0),(5,0),(6,0),(7,0),(8,0),(9,0),(10,0),(11,0),(12,0),(13,0),(14,0)] (λ_=>True) (λW'=>W'.cell? ⟨R,0,E⟩=H (L ⟨s.toArray⟩)/\W'.cell? ⟨R,1,E⟩=H (G F p)) av av (trivial) (⟨HH.q.drew.c0,HH.q.drew.c1⟩) ?_;refine qC ?_;refine aD rfl rfl (λK hK=>?_);go_simp;refine(HEN.q _ HB0.q).mono ?_;rintro e w1 ⟨rfl,hb1⟩;have hc1:=HH.q.drew.below hb1;have vY:=C hc1;have HB1:=C (HB0.q.bO hb1);rw[Ru.q];refine hK _ _ ⟨trivial,hc1.c0,hc1.c1⟩ ?_;clear hK K hb1 hc1;refine qC ?_;refine aJ ?_;go_wp2_with fail;refine(uE.q _ HB1.q).mono ?_;intro e w2 he
   cases hnm:dB l with
   |error x=>
    rw[hnm] at he;obtain⟨rfl,hs⟩:=he;refine⟨rfl,?_⟩;show dJ R s c w _ _ _ _;rw[HX.q,NU.q x hnm];exact⟨rfl,(Same.of_below HB1.q (λ_ _ h=>h)).tr hs⟩
   |ok mr=>exact absurd hnm (by unfold dB;rw[ay (by rw[Ru.q];rfl)];intro h;cases h)
theorem Own.ant {X:World}{g:Nat}(h:X.1.size=g)(l:List Bs)(hl:l.length<=maxLen):Own (X.alloc (J (l.map (λs=>Value.string ⟨s.toArray⟩)).toArray 9)) g 9 1 encStr (S (H ⟨g,0,E⟩) l.length l.length) l:=by
 subst h;exact Own.new (hc:=jQ) X X.1.size 9 _ l (aA _) (by
  show l.map (λs=>Value.string ⟨s.toArray⟩)=l.flatMap encStr
  induction l with
  |nil=>rfl
  |cons a l ih=>rw[lD,qP,ih (by simp at hl;omega)];rfl) hl
theorem dY.Em {w:World}{R p:Nat}{s l:Bs}{c:bB}{n:aP}(h:dY w R s p l c n)(i:Nat)(v:Value)(c':bB)(n':aP)(hi:i<8)(hc:(sZ s p c).setIfInBounds i v=sZ s p c')
  (h1:c'.na=c.na/\c'.nn=c.nn/\c'.nc=c.nc/\c'.va=c.va/\c'.vn=c.vn/\c'.vc=c.vc) (h2:n'.names=n.names/\n'.aF=n.aF) (h3:c'.kind=n'.kind/\c'.lvl=n'.lvl/\c'.first=n'.first/\c'.bits=n'.bits):
  dY (w.setCell ⟨R,i,E⟩ v) R s p l c' n'/\Mv R c c' w (w.setCell ⟨R,i,E⟩ v):=by
 obtain⟨e1,e2,e3,e4,e5,e6⟩:=h1;obtain⟨⟨_,_,_,_,l1,l2⟩,o1,o2⟩:=h.n;have hx:=h.x.aZ i (by simpa using hi) v;rw[hc] at hx;refine⟨⟨hx,⟨⟨h3.1,h3.2.1,h3.2.2.1,h3.2.2.2,by rw[e2,h2.1];exact l1,by rw[e5,h2.2];exact l2⟩,?_,?_⟩,h.d,h.le,h.lim⟩,Same.setCell _ _ _ _ (λe=>e.1 rfl),?_,?_⟩
 .rw[e1,e2,e3,h2.1];exact o1.block λg hg=>Below.heap_setCell _ _ _ _ (by have:=(o1.lt g hg).1;simp;omega)
 .rw[e4,e5,e6,h2.2];exact o2.block λg hg=>Below.heap_setCell _ _ _ _ (by have:=(o2.lt g hg).1;simp;omega)
 .rw[e1,e2,e3];exact λ_ h=> .inl h
 .rw[e4,e5,e6];exact λ_ h=> .inl h
theorem LK:(∀x∈oI,x.length<=100)/\(∀x∈oI,(128:UInt8)∉x):=by decide
theorem Yy {R p:Nat}{s l:Bs}{c:bB}{n:aP}(w:World)(h:dY w R s p l c n):
  Calls Tryz.prog 152 #[M (H ⟨R,0,E⟩)] w (dJ R s c w (λ_:Unit=> .tuple #[]) (match eT oI l with| .error x=> .error x| .ok (i,r)=> .ok ((),{n with lvl:=1+(i:I)},r))):=by
 obtain⟨X,hX⟩:∃X:Except Er (Unit × aP × Bs),X=(match eT oI l with| .error x=> .error x| .ok (i,r)=> .ok ((),{n with lvl:=1+(i:I)},r)):=⟨_,rfl⟩;rw[<-hX];have HX:=C hX;have hbl:=aB (O w.1.size w) (J #[L ⟨#[49]⟩,L ⟨#[50]⟩,L ⟨#[50,46,57,57]⟩,L ⟨#[51]⟩] 9);have xA:=C hbl;have HW:=C (KY _ (h.below hbl) (H ⟨w.1.size,0,E⟩) 4 4 oI ((Own.ant rfl oI aj).row aj) aj LK.1 LK.2);clear hX h hbl;go_enter func152,ntmps152;go_wp2_with fail;refine HW.q.mono ?_;intro e w1 he
 cases hm:eT oI l with
 |error x=>
  rw[hm] at he;obtain⟨rfl,hs⟩:=he;refine⟨rfl,?_⟩;show dJ R s c w _ _ _ _;rw[HX.q,hm];exact⟨rfl,(Same.of_below xA.q (λ_ _ h=>h)).tr hs⟩
 |ok ir=>
  obtain⟨i,r⟩:=ir;rw[hm] at he;obtain⟨rfl,q,hc,hmv⟩:=he;have hi:i<4:=by
   unfold eT at hm
   split at hm
   .rename_i j hj
    injection hm with hm;injection hm with hm _;have:=(GQ.1 hj).1;subst hm;exact this
   .cases hm
  have HC:=C hc;have HM:=C ((Mv.of_below xA.q).trans hmv);have HMX:=C hm;have hx4:=hc.x.1 4;have z4:=f1 hc 4;clear hc hmv hm;go_wp2_with fail;refine bodyPost_end (results_none rfl _ _ _) rfl ?_;show dJ R s c w _ _ _ _;rw[HX.q,HMX.q];have:=HC.q.Em 4 (G F (1+(i:I))) {c with lvl:=1+(i:I)} {n with lvl:=1+(i:I)} aj rfl ⟨rfl,rfl,rfl,rfl,rfl,rfl⟩ ⟨rfl,rfl⟩ ⟨HC.q.n.1.1,rfl,HC.q.n.1.2.2.1,HC.q.n.1.2.2.2.1⟩;exact⟨rfl,q,_,this.1,HM.q.trans this.2⟩
theorem Yz {l r:Bs}{b:Bool}(h:dU l= .ok (b,r)):r=bX l:=by
 unfold dU at h
 split at h
 .injection h with h;injection h with _ h;exact h.symm
 .split at h
  .cases h
  .injection h with h;injection h with _ h;exact h.symm
theorem Vt {l r:Bs}(h:dU l= .ok (true,r)):jf r=false:=by
 have e:=Yz h;unfold dU at h
 split at h
 .injection h with h;injection h with h _;cases h
 .rename_i h1;rw[e];simpa using h1
theorem YA {R p:Nat}{s l:Bs}{c:bB}{n:aP}(w:World)(h:dY w R s p l c n)(hn:n.first=false):
  Calls Tryz.prog 156 #[M (H ⟨R,0,E⟩)] w (dJ R s c w (λ_:Unit=> .tuple #[]) (match kN l with| .error x=> .error x| .ok (f,r)=> .ok ((),{n with first:=f},r))):=by
 obtain⟨X,hX⟩:∃X:Except Er (Unit × aP × Bs),X=(match kN l with| .error x=> .error x| .ok (f,r)=> .ok ((),{n with first:=f},r)):=⟨_,rfl⟩;rw[<-hX];have FU:=C (λW (hb:Below w.1.size w W)=>Du W (h.below hb));have HH:=C h;have HB0:Hid (Below w.1.size w w.drew):=C ((O _ _).drew);have c0:=h.c0;have c1:=h.c1;have z1:=f1 h 1;have hlen:=h.len;have hlim:=h.lim;have HFN:Hid ({n with first:=false}=n):=C (by rw[<-hn]);have HD:=C h.d;clear h hn
 cases hm:dU l with
 |error x=>
  have HX:Hid (X= .error x):=C (by rw[hX];unfold kN;rw[hm]);have N7:=C hm;have RES:Hid (∀ch w',(ch=oH (s.length - x.1.length) x.2/\Same (nY R c) w.drew w')->dJ R s c w (λ_:Unit=> .tuple #[]) X (.panicked ch) w'):=C (by
   rintro ch w' ⟨rfl,h2⟩;rw[HX.q];exact⟨rfl,h2.os,h2.tape,h2.output,h2.size,h2.block⟩)
  clear hX hm;go_enter func156,ntmps156;go_wp2_with fail;refine dm 99 [(0,0),(1,2),(2,0),(3,0),(4,0),(5,0),(6,0),(7,0),(8,0),(9,0),(10,0),(11,0),(12,0),(13,0)] (λ_=>True) (λW'=>W'.cell? ⟨R,0,E⟩=H (L ⟨s.toArray⟩)) (λch w'=>ch=oH (s.length - x.1.length) x.2/\Same (nY R c) w.drew w') av av (λch a1 w1 hd hr=>⟨hd,RES.q ch w1 hr⟩) (trivial) (c0) ?_;refine qC ?_;refine aD rfl rfl (λK hK=>?_);go_simp;refine(FU.q _ HB0.q).mono ?_;intro e w2 he;rw[N7.q] at he;obtain⟨rfl,hs⟩:=he;exact⟨rfl,rfl,hs⟩
 |ok br=>
  obtain⟨b,r⟩:=br
  cases b with
  |false=>
   have HX:Hid (X= .ok ((),{n with first:=false},l)):=C (by rw[hX];unfold kN;rw[hm]);have N7:=C hm;clear hX hm;go_enter func156,ntmps156;go_wp2_with fail;refine aC 99 [(0,0),(1,2),(2,0),(3,0),(4,0),(5,0),(6,0),(7,0),(8,0),(9,0),(10,0),(11,0),(12,0),(13,0)] (λ_=>True) (λW'=>W'.cell? ⟨R,0,E⟩=H (L ⟨s.toArray⟩)) av av (trivial) (c0) ?_;refine qC ?_;refine aD rfl rfl (λK hK=>?_);go_simp;refine(FU.q _ HB0.q).mono ?_;intro e w2 he;rw[N7.q] at he;obtain⟨rfl,q,hc2,hm2⟩:=he;have eY:=C hc2;have ng:=C ((Mv.of_below HB0.q).trans hm2);refine hK _ _ ⟨trivial,hc2.c0⟩ ?_;have hq1:=hc2.c1;have hzq:=f1 hc2 1;clear hK K hc2 hm2 c0 c1 z1;refine qC ?_;refine aJ ?_;go_wp2_with fail;refine bodyPost_end (results_none rfl _ _ _) rfl ?_;show dJ R s c w _ _ _ _;rw[HX.q,HFN.q];have hx:=eY.q.x.aZ 1 au (G F (p:I));exact⟨rfl,p,c,⟨hx,⟨eY.q.n.1,eY.q.n.2.1.block λg hg=>Below.heap_setCell _ _ _ _ (by have:=(eY.q.n.2.1.lt g hg).1;simp;omega),eY.q.n.2.2.block λg hg=>Below.heap_setCell _ _ _ _ (by have:=(eY.q.n.2.2.lt g hg).1;simp;omega)⟩,HD.q,by omega,hlim⟩,ng.q.trans ⟨Same.setCell _ _ _ _ (λe=>e.1 rfl),λ_ h=> .inl h,λ_ h=> .inl h⟩⟩
  |true=>
   have hee:=Vt hm;obtain⟨b0,t0,rfl⟩:∃b0 t0,r=b0::t0:=by cases r with
    |nil=>exact absurd hee aj
    |cons a t=>exact⟨a,t,rfl⟩
   by_cases h45:b0=45
   .subst h45
    have HX:Hid (X= .ok ((),{n with first:=true},t0)):=C (by rw[hX];unfold kN;rw[hm];simp only[];rw[ay (show(45::t0:Bs).head?=H 45 from rfl)];rfl);have N7:=C hm;clear hX hm hee;go_enter func156,ntmps156;go_wp2_with fail;refine aC 99 [(0,0),(1,2),(2,0),(3,0),(4,0),(5,0),(6,0),(7,0),(8,0),(9,0),(10,2),(11,0),(12,0),(13,0)] (λ_=>True) (λW'=>W'.cell? ⟨R,0,E⟩=H (L ⟨s.toArray⟩)) av av (trivial) (c0) ?_;refine qC ?_;refine aD rfl rfl (λK hK=>?_);go_simp;refine(FU.q _ HB0.q).mono ?_;intro e w2 he;rw[N7.q] at he;obtain⟨rfl,q,hc2,hm2⟩:=he;have eY:=C hc2;have ng:=C ((Mv.of_below HB0.q).trans hm2);refine hK _ _ ⟨trivial,hc2.c0⟩ ?_;have hq1:=hc2.c1;have hzq:=f1 hc2 1;have hix:=λW=>jH Tryz.underlying9 s q 45 hc2.at_ W
    clear hK K hc2 hm2 c0 c1 z1;refine qC ?_;refine aD rfl rfl (λK hK=>?_);go_simp;refine hK _ _ ⟨trivial,eY.q.c0⟩ ?_;clear hK K;refine qC ?_;refine aJ ?_;have Iu:q<=1000000:=by have:=eY.q.le;have:=eY.q.lim;omega
    have HT1:=eY.q.to 1 rfl au (q+1) rfl;have HT2:=HT1.1.Em 6 (.bool true) {c with first:=true} {n with first:=true} aj rfl ⟨rfl,rfl,rfl,rfl,rfl,rfl⟩ ⟨rfl,rfl⟩ ⟨eY.q.n.1.1,eY.q.n.1.2.1,rfl,eY.q.n.1.2.2.2.1⟩;rw[Ce] at HT1 HT2;have HA1:=C HT1;have HA2:=C HT2;have hx6:=eY.q.x.1 6;have z6:=f1 eY.q 6;clear HT1 HT2;go_wp2_with fail;refine bodyPost_ret (results_none rfl _ _ _) rfl ?_;show dJ R s c w _ _ _ _;rw[HX.q];exact⟨rfl,q+1,_,HA2.q.1,ng.q.trans (HA1.q.2.trans HA2.q.2)⟩
   .have Yx:((b0.toNat:I)==45)=false:=aR.2 (λe=>h45 (mV.1 (by show b0.toNat=45;omega)))
    have HX:Hid (X= .ok ((),{n with first:=false},l)):=C (by rw[hX];unfold kN;rw[hm];simp only[];rw[ak (by simpa using h45)]);have N7:=C hm;clear hX hm hee h45;go_enter func156,ntmps156;go_wp2_with fail;refine aC 99 [(0,0),(1,2),(2,0),(3,0),(4,0),(5,0),(6,0),(7,0),(8,0),(9,0),(10,2),(11,0),(12,0),(13,0)] (λ_=>True) (λW'=>W'.cell? ⟨R,0,E⟩=H (L ⟨s.toArray⟩)) av av (trivial) (c0) ?_;refine qC ?_;refine aD rfl rfl (λK hK=>?_);go_simp;refine(FU.q _ HB0.q).mono ?_;intro e w2 he;rw[N7.q] at he;obtain⟨rfl,q,hc2,hm2⟩:=he;have eY:=C hc2;have ng:=C ((Mv.of_below HB0.q).trans hm2);refine hK _ _ ⟨trivial,hc2.c0⟩ ?_;have hq1:=hc2.c1;have hzq:=f1 hc2 1;have hix:=λW=>jH Tryz.underlying9 s q b0 hc2.at_ W
    clear hK K hc2 hm2 c0 c1 z1;refine qC ?_;refine aD rfl rfl (λK hK=>?_);go_simp;refine hK _ _ ⟨trivial,eY.q.c0⟩ ?_;clear hK K;refine qC ?_;refine aJ ?_;go_wp2_with fail;refine bodyPost_end (results_none rfl _ _ _) rfl ?_;show dJ R s c w _ _ _ _;rw[HX.q,HFN.q];have hx:=eY.q.x.aZ 1 au (G F (p:I));exact⟨rfl,p,c,⟨hx,⟨eY.q.n.1,eY.q.n.2.1.block λg hg=>Below.heap_setCell _ _ _ _ (by have:=(eY.q.n.2.1.lt g hg).1;simp;omega),eY.q.n.2.2.block λg hg=>Below.heap_setCell _ _ _ _ (by have:=(eY.q.n.2.2.lt g hg).1;simp;omega)⟩,HD.q,by omega,hlim⟩,ng.q.trans ⟨Same.setCell _ _ _ _ (λe=>e.1 rfl),λ_ h=> .inl h,λ_ h=> .inl h⟩⟩
def En:Nat->Nat
 |0=>151
 |1=>152
 |_=>153
def Ad (a:Nat)(n:aP)(l:Bs):Except Er (Unit × aP × Bs):=
 if a=0 then(match dB l with| .error x=> .error x| .ok (m,r)=> .ok ((),addN n m,r))
 else if a=1 then(match eT oI l with| .error x=> .error x| .ok (i,r)=> .ok ((),{n with lvl:=1+(i:I)},r))
 else(match gZ l with| .error x=> .error x| .ok (v,r)=> .ok ((),El n v,r))
def lJ:List Nat->aP->Bs->Except Er (Unit × aP × Bs)
 |[],n,l=> .ok ((),n,l)
 |a::t,n,l=>match eU l with
  | .error x=> .error x
  | .ok r=>match Ad a n r with
   | .error x=> .error x
   | .ok (_,n',r')=>lJ t n' r'
def Dv (R:Nat)(a:Nat):List Value:=[.func (.func (En a)) #[M (H ⟨R,0,E⟩)] #[]]
theorem Vu:∀args w,(callFunc 151 args).run Tryz.prog w= .ok (.enter 151 args) w:=enters_of func151 av rfl
theorem Tx:∀args w,(callFunc 152 args).run Tryz.prog w= .ok (.enter 152 args) w:=enters_of func152 av rfl
theorem Vv:∀args w,(callFunc 153 args).run Tryz.prog w= .ok (.enter 153 args) w:=enters_of func153 av rfl
theorem afh {R p:Nat}{s l:Bs}{c:bB}{n:aP}(a:Nat)(w:World)(h:dY w R s p l c n)(hG:vN R w)(hn:n.names.length<=1000)(hv:n.aF.length<=1000):
  Calls Tryz.prog (En a) #[M (H ⟨R,0,E⟩)] w (dJ R s c w (λ_:Unit=> .tuple #[]) (Ad a n l)):=by
 unfold Ad
 match a with
 |0=>exact QF w h hG.tabs hn
 |1=>exact Yy w h
 |a+2=>exact J7 w h hG hv
theorem RA {a:Nat}{n n':aP}{l r:Bs}{u:Unit}(h:Ad a n l= .ok (u,n',r)):n'.names.length<=n.names.length+1/\n'.aF.length<=n.aF.length+1:=by
 unfold Ad at h
 split at h
 .split at h
  .cases h
  .injection h with h;injection h with _ h;injection h with h _;subst h;simp
 .split at h
  .split at h
   .cases h
   .injection h with h;injection h with _ h;injection h with h _;subst h;simp
  .split at h
   .cases h
   .injection h with h;injection h with _ h;injection h with h _;subst h;simp
theorem Mv.row {α:Type}{enc:α->List Value}{k:Nat}{R:Nat}{c c':bB}{w w':World}(hm:Mv R c c' w w'){b o n cc:Nat}{xs:List α}(h:Row w k enc (H ⟨b,o,E⟩) n cc xs)(hb:nY R c b)(hl:b<w.1.size):Row w' k enc (H ⟨b,o,E⟩) n cc xs:=
 ⟨h.1,h.2.1,h.2.2.1,h.2.2.2.1,λi x hx=>let⟨b',o',e,hc⟩:=h.2.2.2.2 i x hx;⟨b',o',e,λj v hv=>by
  injection e with e;injection e with e1 e2;subst e1;exact(World.cell?_of_block (a:=⟨b,o'+i*k+j,E⟩) (hm.same.block b hb hl)).trans (hc j v hv)⟩⟩
theorem zf {R p:Nat}{s l:Bs}{c:bB}{n:aP}(w:World)(h:dY w R s p l c n)(hG:vN R w)(b o nn cc:Nat)(acts:List Nat)(hr:Row w 1 (Dv R) (H ⟨b,o,E⟩) nn cc acts)(hb:nY R c b)(hbl:b<w.1.size)(hnn:nn<=10)(hn:n.names.length<=900)(hv:n.aF.length<=900):
  Calls Tryz.prog 154 #[M (H ⟨R,0,E⟩),S (H ⟨b,o,E⟩) nn cc] w (dJ R s c w (λ_:Unit=> .tuple #[]) (lJ acts n l)):=by
 obtain⟨X,hX⟩:∃X,X=lJ acts n l:=⟨_,rfl⟩;rw[<-hX];have HR:=C hr;have HH:=C h;have HG:=C hG;have gU:=C hb;have xA:=C hbl;have HX:=C hX;have HN:=C (⟨hn,hv⟩:_/\_);have hlen:=hr.len;clear hr h hG hb hbl hX hn hv;go_enter func154,ntmps154;go_wp2_with fail
 go_loopw [8] (λi wr=>∃(W:World)(k q:Nat)(l1:Bs)(c1:bB)(n1:aP),W=wr/\i= G F k/\k<=nn/\dY W R s q l1 c1 n1/\Mv R c c1 w W/\vN R W/\lJ (acts.drop k) n1 l1=X/\n1.names.length<=900+k/\n1.aF.length<=900+k) (λi _=>nn - (RowKit.intOf i).toNat)
 case atStart=>exact⟨_,0,p,l,c,n,rfl,rfl,aV _,HH.q,Mv.refl _ _ _,HG.q,HX.q.symm,HN.q.1,HN.q.2⟩
 case round=>
  obtain⟨W,k,q,l1,c1,n1,rfl,rfl,hk,hc,hm,hg,hx,h1,h2⟩:=hrel;by_cases hlt:k<nn
  .obtain⟨a,b',o',hxa,hab,hcell⟩:=(hm.row HR.q gU.q xA.q).at_ hlt
   injection hab with hab;injection hab with e1 e2;subst e1 e2;have hc0:=hcell 0 _ rfl;simp only[jo,bM] at hc0;have hdr:acts.drop k=a::acts.drop (k+1):=by
    obtain⟨hl1,he⟩:=bG.1 hxa;rw[nN hl1,he]
   rw[hdr] at hx;simp only[lJ] at hx;have HC:=C hc;have HM:=C hm;have Vw:=C hg;have lI:=C hx;have Fg:=C (⟨h1,h2⟩:_/\_);have HMU:=C (RB W hc);clear hcell hxa hdr hc hm hg hx h1 h2;go_wp2_with fail;refine HMU.q.mono ?_;intro e w2 he
   cases hmu:eU l1 with
   |error x=>
    rw[hmu] at he;obtain⟨rfl,hs⟩:=he;refine⟨rfl,?_⟩;show dJ R s c w _ _ _ _;rw[<-lI.q,hmu];exact⟨rfl,HM.q.jI hs⟩
   |ok r=>
    rw[hmu] at he;obtain⟨rfl,q2,hc2,hm2⟩:=he;have bL:Hid ((match Ad a n1 r with| .error x=> .error x| .ok (_,n',r')=>lJ (acts.drop (k+1)) n' r')=X):=C (by have:=lI.q;rw[hmu] at this;exact this);have eY:=C hc2;have ng:=C (HM.q.trans hm2);have HG2:=C (Vw.q.mv HC.q hm2.same);have HAC:=C (afh a w2 hc2 HG2.q (by have:=Fg.q;omega) (by have:=Fg.q;omega));have hcf:∀args w,(callFunc (En a) args).run Tryz.prog w= .ok (.enter (En a) args) w:=by
     match a with
     |0=>exact Vu
     |1=>exact Tx
     |a+2=>exact Vv
    clear hc2 hm2 hmu;go_wp2_with fail;refine HAC.q.mono ?_;intro e w3 he
    cases ha:Ad a n1 r with
    |error x=>
     rw[ha] at he;obtain⟨rfl,hs⟩:=he;refine⟨rfl,?_⟩;show dJ R s c w _ _ _ _;rw[<-bL.q,ha];exact⟨rfl,ng.q.jI hs⟩
    |ok ur=>
     obtain⟨u,n3,r3⟩:=ur;rw[ha] at he;obtain⟨rfl,q3,c3,hc3,xI⟩:=he;have hal:=RA ha;have eX:Hid (lJ (acts.drop (k+1)) n3 r3=X):=C (by have:=bL.q;rw[ha] at this;exact this);have gD:=C hc3;have tY:=C (ng.q.trans xI);have nu:=C (HG2.q.mv eY.q xI.same);have mG:=C hal;clear hc3 xI hal ha;go_wp2_with fail;go_roundw
     case rel=>exact⟨_,k+1,q3,r3,c3,n3,rfl,by go_num,by omega,gD.q,tY.q,nu.q,eX.q,by have:=mG.q;have:=Fg.q;omega,by have:=mG.q;have:=Fg.q;omega⟩
     case measure=>simp[RowKit.intOf];omega
  .obtain rfl:k=nn:=by omega
   rw[List.drop_of_length_le ah] at hx;have lI:Hid (X= .ok ((),n1,l1)):=C hx.symm;have HC:=C hc;have HM:=C hm;clear hx hc hm hg h1 h2;go_wp2_with fail;refine bodyPost_end (results_none rfl _ _ _) rfl ?_;show dJ R s c w _ _ _ _;rw[lI.q];exact⟨rfl,q,c1,HC.q,HM.q⟩
theorem afj:∀k:Fin 4,∀b:Fin 8,b.val<2 ^ k.val->Go.bits .or F (b.val:I) (2 ^ k.val:I)=(b.val:I)+2 ^ k.val:=by decide
theorem or_bit (k b:Nat)(hk:k<4)(hb:b<2 ^ k):Go.bits .or F (b:I) (2 ^ k:I)=(b:I)+2 ^ k:=by
 have h8:b<8:=dz hb (by
  have:k<=3:=by omega
  exact dL (GY aj this) aj)
 exact afj ⟨k,hk⟩ ⟨b,h8⟩ hb
theorem YB (k i:Nat)(h:k+i<4):wrap64 ((k:I)+(i:I))=((k+i:Nat):I):=by
 unfold wrap64;omega
theorem LM (k i:Nat)(h:k+i<4):wrap64 ((k:I)+(i:I)+1)=((k+i+1:Nat):I):=by
 unfold wrap64;omega
theorem ac7 (m:Nat)(h:m<4)(W:World):(Go.Op.shift .shl F 1 F (m:I)).run Tryz.prog W= .ok (G F (2 ^ m)) W:=by
 rcases(by omega:m=0\/m=1\/m=2\/m=3) with rfl|rfl|rfl|rfl <;> rfl
theorem ac8 (k i:Nat)(h:k+i<4)(W:World):(Go.Op.shift .shl F 1 F ((k:I)+(i:I))).run Tryz.prog W= .ok (G F (2 ^ (k+i))) W:=by
 have:=ac7 (k+i) h W
 simpa using this
theorem Vx {w:World}(hg:qc w)(k:Nat)(hk:k<=4):Row w 1 encStr (H ⟨4,k,E⟩) (4 - k) (4 - k) (kP.drop k):=by
 refine⟨by simp[kP],aA _,by omega,λh=>(by cases h),λi x hx=>⟨4,k,rfl,λj v hv=>?_⟩⟩;rw[Ed] at hx;have hi:k+i<4:=by
  have:=(bG.1 hx).1
  simpa[kP] using this
 obtain rfl:j=0:=by
  have:=(bG.1 hv).1
  simpa[encStr] using this
 have hv':v= L ⟨x.toArray⟩:=by simpa[encStr] using hv.symm
 have hx':x=yg (k+i):=by
  have h4:∀m,m<4->kP[m]?=H (yg m):=λm hm=>by
   rcases(by omega:m=0\/m=1\/m=2\/m=3) with rfl|rfl|rfl|rfl <;> rfl
  rw[h4 _ hi] at hx;injection hx with hx;exact hx.symm
 have:=hg.2.2.1 (k+i) hi;rw[hv',hx']
 simpa using this
def Tz (k:Nat):Nat:=if k=4 then 0 else k
theorem Vy (k:Nat)(hk:k<=4)(W:World):(Instr.sliceAt 229 (M (H ⟨4,0,E⟩)) (H (G F (k:I))) E E).run Tryz.prog W= .ok (S (H ⟨4,Tz k,E⟩) (4 - k) (4 - k)) W:=by
 rcases(by omega:k=0\/k=1\/k=2\/k=3\/k=4) with rfl|rfl|rfl|rfl|rfl <;> kernel_rfl
theorem TA {w:World}(hg:qc w)(k:Nat)(hk:k<=4):Row w 1 encStr (H ⟨4,Tz k,E⟩) (4 - k) (4 - k) (kP.drop k):=by
 by_cases h4:k=4
 .subst h4
  exact⟨rfl,aA _,by omega,λh=>(by cases h),λi x hx=>by simp[kP] at hx⟩
 .unfold Tz;rw[ak h4];exact Vx hg k hk
theorem LP:(∀x∈kP,x.length<=100)/\(∀x∈kP,(128:UInt8)∉x):=by decide
theorem MV {R p:Nat}{s l:Bs}{c:bB}{n:aP}(w:World)(h:dY w R s p l c n)(hG:vN R w)(hb:n.bits=0):
  Calls Tryz.prog 155 #[M (H ⟨R,0,E⟩)] w (dJ R s c w (λ_:Unit=> .tuple #[]) (match jS 5 0 0 l with| .error x=> .error x| .ok (b,r)=> .ok ((),{n with bits:=b},r))):=by
 obtain⟨Y,hY⟩:∃Y:Except Er (Unit × aP × Bs),Y=(match jS 5 0 0 l with| .error x=> .error x| .ok (b,r)=> .ok ((),{n with bits:=b},r)):=⟨_,rfl⟩;rw[<-hY];have wh:Hid (∀x,jS 5 0 0 l= .error x->Y= .error x):=C (λx hx=>by rw[hY,hx]);have Iy:Hid (∀b r,jS 5 0 0 l= .ok (b,r)->Y= .ok ((),{n with bits:=b},r)):=C (λb r hx=>by rw[hY,hx]);clear hY;obtain⟨X,hX⟩:∃X:Except Er (I × Bs),X=jS 5 0 0 l:=⟨_,rfl⟩;rw[<-hX] at wh Iy;have HX:=C hX;have HH:=C h;have HG:=C hG;have HN:Hid (n={n with bits:=0}):=C (by cases n;simp at hb;subst hb;rfl);clear hX h hG hb;go_enter func155,ntmps155;go_wp2_with fail
 go_loopw [2] (λi wr=>∃(W:World)(k f q b:Nat)(l1:Bs)(c1:bB),W=wr/\i= G F k/\k<=4/\5<=f+k/\b<2 ^ k/\dY W R s q l1 c1 {n with bits:=b}/\Mv R c c1 w W/\vN R W/\jS f k b l1=X) (λi _=>4 - (RowKit.intOf i).toNat)
 case atStart=>exact⟨_,0,5,p,0,l,c,rfl,rfl,by omega,by omega,by decide,by have:=HH.q;rw[HN.q] at this;exact this,Mv.refl _ _ _,HG.q,HX.q.symm⟩
 case round=>
  obtain⟨W,k,f,q,b,l1,c1,rfl,rfl,hk,hf,hbk,hc,hm,hg,hx⟩:=hrel;obtain⟨f,rfl⟩:∃f',f=f'+1:=⟨f - 1,by omega⟩;simp only[jS] at hx;have HC:=C hc;have HM:=C hm;have Vw:=C hg;have lI:=C hx;have RD:=C hbk;have HF:=C hf;have FU:=C (Du W hc);clear hc hm hg hx hbk;go_wp2_with fail;refine FU.q.mono ?_;intro e w2 he
  cases hmo:dU l1 with
  |error x=>
   rw[hmo] at he;obtain⟨rfl,hs⟩:=he;refine⟨rfl,?_⟩;show dJ R s c w _ _ _ _;rw[wh.q x (by have:=lI.q;rw[hmo] at this;exact this.symm)];exact⟨rfl,HM.q.jI hs⟩
  |ok br=>
   obtain⟨bb,r⟩:=br;rw[hmo] at he;obtain⟨rfl,q2,hc2,hm2⟩:=he;have eY:=C hc2;have ng:=C (HM.q.trans hm2);have HG2:=C (Vw.q.mv HC.q hm2.same)
   cases bb
   .have bL:Hid (X= .ok ((b:I),r)):=C (by have:=lI.q;rw[hmo] at this;exact this.symm)
    clear hc2 hm2 hmo;go_wp2_with fail;refine bodyPost_end (results_none rfl _ _ _) rfl ?_;show dJ R s c w _ _ _ _;rw[Iy.q _ _ bL.q];exact⟨rfl,q2,c1,eY.q,ng.q⟩
   .have bL:Hid ((match eT (kP.drop k) r with| .error x=> .error x| .ok (i,r')=>jS f (k+i+1) ((b:I)+2 ^ (k+i)) r')=X):=C (by have:=lI.q;rw[hmo] at this;exact this)
    have hsg:=λW=>Vy k hk W
    have HW:=C (KY w2 hc2 (H ⟨4,Tz k,E⟩) (4 - k) (4 - k) (kP.drop k) (TA HG2.q.l k hk) ah (λx hx=>LP.1 x (List.mem_of_mem_drop hx)) (λx hx=>LP.2 x (List.mem_of_mem_drop hx)));clear hc2 hm2 hmo;go_wp2_with fail;refine HW.q.mono ?_;intro e w3 he
    cases hwo:eT (kP.drop k) r with
    |error x=>
     rw[hwo] at he;obtain⟨rfl,hs⟩:=he;refine⟨rfl,?_⟩;show dJ R s c w _ _ _ _;rw[wh.q x (by have:=bL.q;rw[hwo] at this;exact this.symm)];exact⟨rfl,ng.q.jI hs⟩
    |ok ir=>
     obtain⟨i,r3⟩:=ir;rw[hwo] at he;obtain⟨rfl,q3,hc3,xI⟩:=he;have hi:k+i<4:=by
      unfold eT at hwo
      split at hwo
      .rename_i j hj
       injection hwo with hwo;injection hwo with hwo _;have:=(GQ.1 hj).1;subst hwo;simp[kP] at this;omega
      .cases hwo
     have eX:Hid (jS f (k+i+1) ((b:I)+2 ^ (k+i)) r3=X):=C (by have:=bL.q;rw[hwo] at this;exact this);have hor:=or_bit (k+i) b hi (dz RD.q (GY aj ah));have gD:=C hc3;have tY:=C (ng.q.trans xI);have nu:=C (HG2.q.mv eY.q xI.same);have HI:=C hi;have HOR:=C hor;clear hc3 xI hwo hi hor;have H7:Hid (w3.cell? ⟨R,7,E⟩=H (G F (b:I))):=C (by have h:=gD.q.x.1 7;have hb:c1.bits=(b:I):=gD.q.n.1.2.2.2.1;rw[<-hb];exact h);have hc7:=H7.q;have hf7:=f1 gD.q 7;have hsh:=λW=>ac8 k i HI.q W;have hor:=HOR.q
     go_wp2_with fail;rw[YB k i HI.q];refine aC 11 [(0,1),(1,1),(2,1),(3,1),(4,0),(5,1),(6,1),(7,0),(8,1),(9,1),(10,1),(11,2)] (λ_=>True) (λW'=>W'.cell? ⟨R,7,E⟩=H (G F (b:I))) av av (trivial) (H7.q) ?_;refine qC ?_;refine bq rfl rfl rfl (λK hK=>?_);go_simp;refine hK _ _ trivial ?_;clear hK K;refine aJ ?_;have h4:=gD.q.Em 7 (G F ((b:I)+2 ^ (k+i))) {c1 with bits:=(b:I)+2 ^ (k+i)} {n with bits:=(b:I)+2 ^ (k+i)} aj rfl ⟨rfl,rfl,rfl,rfl,rfl,rfl⟩ ⟨rfl,rfl⟩ ⟨gD.q.n.1.1,gD.q.n.1.2.1,gD.q.n.1.2.2.1,rfl⟩;have gM:=C h4.1.drew;have Fe:=C (tY.q.trans (h4.2.trans (Mv.of_below (O _ _).drew)));have Vz:=C (nu.q.mv gD.q (h4.2.trans (Mv.of_below (O _ _).drew)).same);clear h4;go_wp2_with fail;go_roundw
     case rel=>exact⟨_,k+i+1,f,q3,b+2 ^ (k+i),r3,_,rfl,by rw[LM k i HI.q],by have:=HI.q;omega,by have:=HF.q;omega,by have:=RD.q;have:2 ^ k<=2 ^ (k+i):=GY aj ah;rw[Nat.pow_succ];omega,by have:=gM.q;simpa using this,Fe.q,Vz.q,by have:=eX.q;simpa using this⟩
     case measure=>have:=HI.q;rw[LM k i HI.q];simp[RowKit.intOf] <;> omega
theorem FV {R p:Nat}{s l:Bs}{c:bB}{n:aP}(w:World)(h:dY w R s p l c n)(hG:vN R w)(rr:I)(most:Nat)(pairs:Bool)(hmr:jq rr=(most:I))(Cr:(rr==115)=pairs)(hml:most<=300)(hn:n.names.length<=600)(hv:n.aF.length<=600):
  Calls Tryz.prog 157 #[M (H ⟨R,0,E⟩),.int .i32 rr] w (dJ R s c w (λ_:Unit=> .tuple #[]) (match bW pairs most (most+1) 0 n.names n.aF l with| .error x=> .error x| .ok (b,r)=> .ok ((),{n with names:=b.1,aF:=b.2},r))):=by
 obtain⟨Y,hY⟩:∃Y:Except Er (Unit × aP × Bs),Y=(match bW pairs most (most+1) 0 n.names n.aF l with| .error x=> .error x| .ok (b,r)=> .ok ((),{n with names:=b.1,aF:=b.2},r)):=⟨_,rfl⟩;rw[<-hY];obtain⟨X,hX⟩:∃X:Except Er ((List Bs × List To) × Bs),X=bW pairs most (most+1) 0 n.names n.aF l:=⟨_,rfl⟩;rw[<-hX] at hY;have wh:Hid (∀x,X= .error x->Y= .error x):=C (λx hx=>by rw[hY,hx]);have Iy:Hid (∀b r,X= .ok (b,r)->Y= .ok ((),{n with names:=b.1,aF:=b.2},r)):=C (λb r hx=>by rw[hY,hx]);clear hY;obtain⟨i,z,hi⟩:=uw;have HI:=C hi;have HX:=C hX;have HH:=C h;have HG:=C hG;have HN:=C (⟨hn,hv⟩:_/\_);have HMR:=C hmr;have LQ:=C hml;clear hX h hG hn hv hi hml;have afk:=C (λW=>N8 rr W);clear hmr;go_enter func157,ntmps157;go_wp2_with fail
 go_loopw [4] (λi wr=>∃(W:World)(k f q:Nat)(l1:Bs)(c1:bB)(n1:aP),W=wr/\i= G F k/\k<=most/\most+1<=f+k/\dY W R s q l1 c1 n1/\Mv R c c1 w W/\vN R W/\bW pairs most f k n1.names n1.aF l1=X/\(∀ns vs,{n1 with names:=ns,aF:=vs}={n with names:=ns,aF:=vs})/\n1.names.length<=600+k/\n1.aF.length<=600+k) (λi _=>most - (RowKit.intOf i).toNat)
 case atStart=>exact⟨_,0,most+1,p,l,c,n,rfl,rfl,by omega,by omega,HH.q,Mv.refl _ _ _,HG.q,HX.q.symm,λ_ _=>rfl,HN.q.1,HN.q.2⟩
 case round=>
  obtain⟨W,k,f,q,l1,c1,n1,rfl,rfl,hk,hf,hc,hm,hg,hx,hq,h1,h2⟩:=hrel;obtain⟨f,rfl⟩:∃f',f=f'+1:=⟨f - 1,by omega⟩;simp only[bW] at hx;have HC:=C hc;have HM:=C hm;have Vw:=C hg;have lI:=C hx;have HQ:=C hq;have Fg:=C (⟨h1,h2⟩:_/\_);have HF:=C hf;have HK:=C hk;have FU:=C (Du W hc);clear hc hm hg hx hq h1 h2 hf;go_wp2_with fail;refine FU.q.mono ?_;intro e w2 he
  cases hmo:dU l1 with
  |error x=>
   rw[hmo] at he;obtain⟨rfl,hs⟩:=he;refine⟨rfl,?_⟩;show dJ R s c w _ _ _ _;rw[wh.q x (by have:=lI.q;rw[hmo] at this;exact this.symm)];exact⟨rfl,HM.q.jI hs⟩
  |ok br=>
   obtain⟨bb,r⟩:=br;rw[hmo] at he;obtain⟨rfl,q2,hc2,hm2⟩:=he;have eY:=C hc2;have ng:=C (HM.q.trans hm2);have HG2:=C (Vw.q.mv HC.q hm2.same)
   cases bb
   .have bL:Hid (X= .ok ((n1.names,n1.aF),r)):=C (by have:=lI.q;rw[hmo] at this;exact this.symm)
    clear hc2 hm2 hmo;go_wp2_with fail;refine bodyPost_end (results_none rfl _ _ _) rfl ?_;show dJ R s c w _ _ _ _;rw[Iy.q _ _ bL.q,<-HQ.q];exact⟨rfl,q2,c1,eY.q,ng.q⟩
   .have bL:Hid ((if k=most/\dX r=true then .error (r,3) else match dB r with
     | .error x=> .error x
     | .ok (nm,r1)=>
      if pairs=true then match eU r1 with
       | .error x=> .error x
       | .ok r2=>match gZ r2 with
        | .error x=> .error x
        | .ok (v,r3)=>bW pairs most f (k+1) (n1.names++[nm]) (n1.aF++[v]) r3
      else bW pairs most f (k+1) (n1.names++[nm]) n1.aF r1)=X):=C (by have:=lI.q;rw[hmo] at this;exact this)
    have lU:Hid ((Value.slice c1.na c1.nn c1.nc).ownBlock≠H R):=C (hc2.n.2.1.far' (.inl ah));have hcn:=hc2.n.1.2.2.2.2.1;have jW:Hid (n1.names.length+1=c1.nn+1):=C ah;have fT:Hid ((c1.nn+1)*16<=140737488355328):=C (by have:=Fg.q;have:=LQ.q;omega);have lV:Hid (c1.nn+1<=maxLen):=C (by have:=Fg.q;have:=LQ.q;unfold maxLen;omega);clear hcn;by_cases hkm:k=most
    .have hev:((k:I)==jq rr)=true:=by rw[HMR.q,hkm];exact beq_self_eq_true _
     have HKM:=C hkm;clear hkm;have FW:=C (λW (hb:Below w2.1.size w2 W)=>LU W (hc2.below hb) (Utf8Tabs_below HG2.q.tabs hb));clear hc2 hm2 hmo;go_wp2_with fail;refine(afk.q w2).mono ?_;rintro e w3' ⟨rfl,afl⟩;have YC:=C afl;clear afl;go_wp2_with fail;refine(FW.q w3' YC.q).mono ?_;rintro e w3 ⟨rfl,hb3⟩;have bE:=C (YC.q.trans (hb3.mono YC.q.size));clear hb3
     cases hbe:dX r
     .have HE:Hid (∀x,dB r= .error x->X= .error x):=C (λx hx=>by rw[<-bL.q,ak (by rw[hbe];simp),hx])
      have zN:Hid (∀mr,dB r≠ .ok mr):=C (λmr hx=>by simp[dB,hbe] at hx);have gD:=C (eY.q.below bE.q);have tY:=C (ng.q.trans (Mv.of_below bE.q));have nu:=C (HG2.q.mv eY.q (Mv.of_below bE.q:Mv R c1 c1 w2 w3).same);have uE:=C (λW (hb:Below w3.1.size w3 W)=>Hl W (gD.q.below hb) (Utf8Tabs_below nu.q.tabs hb));have HB0:Hid (Below w3.1.size w3 w3.drew):=C ((O _ _).drew);have RES:Hid (∀ch w',(∃(r':Bs)(m:I),dB r= .error (r',m)/\ch=oH (s.length - r'.length) m/\Same (nY R c1) w3.drew w')->dJ R s c w (λ_:Unit=> .tuple #[]) Y (.panicked ch) w'):=C (by
       rintro ch w' ⟨r',m,h1,rfl,h2⟩;rw[wh.q _ (HE.q _ h1)];exact⟨rfl,(tY.q.trans (Mv.of_below HB0.q)).jI h2⟩)
      go_wp2_with fail;refine dm 13 [(0,1),(1,1),(2,1),(3,1),(4,1),(5,0),(6,1),(7,2),(8,2),(9,2),(10,1),(11,1),(12,1),(13,2)] (λ_=>True) (λW'=>W'.cell? ⟨R,3,E⟩=H (S c1.na c1.nn c1.nc)) (λch w'=>∃(r':Bs)(m:I),dB r= .error (r',m)/\ch=oH (s.length - r'.length) m/\Same (nY R c1) w3.drew w') av av (λch a1 w1 hd hr=>⟨hd,RES.q ch w1 hr⟩) (trivial) (gD.q.drew.c3) ?_;refine qC ?_;refine aD rfl rfl (λK hK=>?_);go_simp;refine(uE.q _ HB0.q).mono ?_;intro e w4 he
      cases hnm:dB r with
      |error x=>
       rw[hnm] at he;obtain⟨rfl,hs⟩:=he;exact⟨rfl,x.1,x.2,rfl,rfl,hs⟩
      |ok mr=>
      exact absurd hnm (zN.q mr)
     .have HE:Hid (X= .error (r,3)):=C (by rw[<-bL.q,ay ⟨HKM.q,hbe⟩])
      have gD:=C (eY.q.below bE.q);have hc1:=gD.q.x.1 1;go_wp2_with fail;refine(mJ q2 3 _).mono ?_;rintro e w4 ⟨rfl,rfl⟩;refine⟨rfl,?_⟩;show dJ R s c w _ _ _ _;rw[wh.q _ HE.q];have hlen:=gD.q.len;exact⟨by rw[show s.length - r.length=q2 by omega],(ng.q.trans (Mv.of_below bE.q)).same⟩
    .have hev:((k:I)==jq rr)=false:=by rw[HMR.q];exact aR.2 ah
     have HE:Hid (∀x,dB r= .error x->X= .error x):=C (λx hx=>by rw[<-bL.q,ak (λe=>hkm e.1),hx]);clear hc2 hm2 hmo;go_wp2_with fail;refine(afk.q w2).mono ?_;rintro e w3 ⟨rfl,hb3⟩;have bE:=C hb3;clear hb3;have gD:=C (eY.q.below bE.q);have tY:=C (ng.q.trans (Mv.of_below bE.q));have nu:=C (HG2.q.mv eY.q (Mv.of_below bE.q:Mv R c1 c1 w2 w3).same);have uE:=C (λW (hb:Below w3.1.size w3 W)=>Hl W (gD.q.below hb) (Utf8Tabs_below nu.q.tabs hb));have HB0:Hid (Below w3.1.size w3 w3.drew):=C ((O _ _).drew);have RES:Hid (∀ch w',(∃(r':Bs)(m:I),dB r= .error (r',m)/\ch=oH (s.length - r'.length) m/\Same (nY R c1) w3.drew w')->dJ R s c w (λ_:Unit=> .tuple #[]) Y (.panicked ch) w'):=C (by
      rintro ch w' ⟨r',m,h1,rfl,h2⟩;rw[wh.q _ (HE.q _ h1)];exact⟨rfl,(tY.q.trans (Mv.of_below HB0.q)).jI h2⟩)
     go_wp2_with fail;refine dm 13 [(0,1),(1,1),(2,1),(3,1),(4,1),(5,0),(6,1),(7,2),(8,2),(9,2),(10,1),(11,1),(12,1),(13,2)] (λ_=>True) (λW'=>W'.cell? ⟨R,3,E⟩=H (S c1.na c1.nn c1.nc)) (λch w'=>∃(r':Bs)(m:I),dB r= .error (r',m)/\ch=oH (s.length - r'.length) m/\Same (nY R c1) w3.drew w') av av (λch a1 w1 hd hr=>⟨hd,RES.q ch w1 hr⟩) (trivial) (gD.q.drew.c3) ?_;refine qC ?_;refine aD rfl rfl (λK hK=>?_);go_simp;refine(uE.q _ HB0.q).mono ?_;intro e w4 he
     cases hnm:dB r with
     |error x=>
      rw[hnm] at he;obtain⟨rfl,hs⟩:=he;exact⟨rfl,x.1,x.2,rfl,rfl,hs⟩
     |ok mr=>
     obtain⟨m,r4⟩:=mr;rw[hnm] at he;obtain⟨rfl,p4,hc4,hm4⟩:=he;have gM:=C hc4;have Fe:=C ((tY.q.trans (Mv.of_below HB0.q)).trans hm4);have Fa:=C hnm;refine hK _ _ ⟨trivial,hc4.c3⟩ ?_;have vZ:Hid (R+1<=(w4.alloc (J #[L ⟨m.toArray⟩] 9)).1.size):=C (by have:=hc4.x.2.2;simp;omega);have Vz:=C (nu.q.mv gD.q ((Mv.of_below HB0.q:Mv R c1 c1 w3 w3.drew).trans hm4).same);clear hK K hc4 hm4 hnm;refine aD rfl rfl (λK hK=>?_);go_simp;refine hK _ _ ⟨trivial,(gM.q.below (aB (O _ _) _)).c3⟩ ?_;clear hK K;refine aD rfl rfl (λK hK=>?_);refine ko _ _ 27 rfl i z 16 underlying27 HI.q.1 HI.q.2.1 HI.q.2.2.1 HI.q.2.2.2.1 HI.q.2.2.2.2 rfl (gM.q.n.2.1.alloc _) (H ⟨w4.1.size,0,E⟩) 1 1 (c1.nn+1) [m] rfl (Row.str1 w4 m) jW.q fT.q lV.q vZ.q ?_;intro a' c' w5 hown5 hg5 YD;have hx5:=(gM.q.x.keep (aB (O _ _) (J #[L ⟨m.toArray⟩] 9))).grown hg5 lU.q;have HAD:=C (gM.q.addN (aB (O _ _) (J #[L ⟨m.toArray⟩] 9)) a' c' hown5 hg5 YD);refine hK _ _ ⟨trivial,hx5.1 3⟩ ?_;have hc3:=hx5.1 3;have hf3:=hx5.2.1 3;clear hK K hown5 hg5 YD hx5;refine qC ?_;refine bq rfl rfl rfl (λK hK=>?_);go_simp;refine hK _ _ trivial ?_;clear hK K;refine jm ?_;have lT:Hid (k+1<=most):=C (by have:=HK.q;omega);have lu:Hid ((if pairs=true then match eU r4 with
       | .error x=> .error x
       | .ok r2=>match gZ r2 with
        | .error x=> .error x
        | .ok (v,r3)=>bW pairs most f (k+1) (n1.names++[m]) (n1.aF++[v]) r3
      else bW pairs most f (k+1) (n1.names++[m]) n1.aF r4)=X):=C (by have:=bL.q;rw[ak (λe=>hkm e.1),Fa.q] at this;exact this)
     have HA:=C HAD.q.1;have NV:=C (Fe.q.trans HAD.q.2);have HGA:=C (Vz.q.mv gM.q HAD.q.2.same);have hwk:wrap64 ((k:I)+1)=((k+1:Nat):I):=by have:=lT.q;have:=LQ.q;unfold wrap64;omega
     cases pairs
     .go_wp2_with fail
      go_roundw
      case rel=>exact⟨_,k+1,f,p4,r4,_,_,rfl,by first|rfl|rw[hwk]|go_num,lT.q,by have:=HF.q;omega,HA.q,NV.q,HGA.q,lu.q,λns vs=>HQ.q ns vs,by have:=Fg.q.1;simp;omega,by have:=Fg.q.2;show n1.aF.length<=_;omega⟩
      case measure=>have:=lT.q;(try rw[hwk]);simp[RowKit.intOf] <;> omega
     .have HMU:=C (RB _ HA.q)
      go_wp2_with fail;refine HMU.q.mono ?_;intro e w6 he
      cases hmu:eU r4 with
      |error x=>
       rw[hmu] at he;obtain⟨rfl,hs⟩:=he;refine⟨rfl,?_⟩;show dJ R s c w _ _ _ _;rw[wh.q x (by have:=lu.q;rw[hmu] at this;exact this.symm)];exact⟨rfl,NV.q.jI hs⟩
      |ok r6=>
       rw[hmu] at he;obtain⟨rfl,q6,hc6,hm6⟩:=he;have LB:Hid ((match gZ r6 with
        | .error x=> .error x
        | .ok (v,r3)=>bW true most f (k+1) (n1.names++[m]) (n1.aF++[v]) r3)=X):=C (by have:=lu.q;rw[hmu] at this;exact this)
       have Bj:=C hc6;have Ry:=C (NV.q.trans hm6);have HG6:=C (HGA.q.mv HA.q hm6.same);have NU:=C (J7 w6 hc6 HG6.q (by have:=Fg.q.2;have:=lT.q;have:=LQ.q;show n1.aF.length<=1000;omega));clear hc6 hm6 hmu;go_wp2_with fail;refine NU.q.mono ?_;intro e w7 he
       cases VA:gZ r6 with
       |error x=>
        rw[VA] at he;obtain⟨rfl,hs⟩:=he;refine⟨rfl,?_⟩;show dJ R s c w _ _ _ _;rw[wh.q x (by have:=LB.q;rw[VA] at this;exact this.symm)];exact⟨rfl,Ry.q.jI hs⟩
       |ok vr=>
        obtain⟨v,r7⟩:=vr;rw[VA] at he;obtain⟨rfl,q7,c7,hc7,hm7⟩:=he;have wm:Hid (bW true most f (k+1) (n1.names++[m]) (n1.aF++[v]) r7=X):=C (by have:=LB.q;rw[VA] at this;exact this);have Fh:=C hc7;have Iz:=C (Ry.q.trans hm7);have IB:=C (HG6.q.mv Bj.q hm7.same);clear hc7 hm7 VA;go_wp2_with fail;go_roundw
        case rel=>exact⟨_,k+1,f,q7,r7,_,_,rfl,by first|rfl|rw[hwk]|go_num,lT.q,by have:=HF.q;omega,Fh.q,Iz.q,IB.q,wm.q,λns vs=>HQ.q ns vs,by have:=Fg.q.1;simp;omega,by have:=Fg.q.2;simp;omega⟩
        case measure=>have:=lT.q;(try rw[hwk]);simp[RowKit.intOf] <;> omega
theorem anu (W:World):(Instr.makeSlice 206 (G F 1) (G F 1)).run Tryz.prog W= .ok (S (H ⟨W.1.size,0,E⟩) 1 1) (W.alloc (J #[.nilFunc] 1)):=av
theorem anv (W:World):(Instr.makeSlice 206 (G F 2) (G F 2)).run Tryz.prog W= .ok (S (H ⟨W.1.size,0,E⟩) 2 2) (W.alloc (J #[.nilFunc,.nilFunc] 1)):=av
theorem cp1 (W:World)(b B i n m c c':Nat)(v:Value)(hs:W.cell? ⟨b,0,E⟩=H v)(h1:v.oneCell'=true)(hc:(W.cell? ⟨B,i,E⟩).isSome=true)(hf:W.frozen? ⟨B,i,E⟩=false)(hn:1=Nat.min m n):
  (Builtin.copy_ #[206,206] 3 #[S (H ⟨B,i,E⟩) n c,S (H ⟨b,0,E⟩) m c']).run Tryz.prog W= .ok (goInt 1) (W.setCell ⟨B,i,E⟩ v):=by
 have h:=run_copy_cells (P:=Tryz.prog) W 206 206 3 1 B i n c ⟨b,0,E⟩ m c' [v] av av hn (λj u hj=>by
  obtain rfl:j=0:=by have:=(bG.1 hj).1;simpa using this
  simpa[Addr.add] using hs.trans hj) (λj hj=>by
    obtain rfl:j=0:=by simpa using hj
    exact hc) (λj hj=>by
      obtain rfl:j=0:=by simpa using hj
      exact hf) (λu hu=>by simp at hu;subst hu;exact h1)
 simp only[World.setCells] at h;exact h
theorem ac9 (w:World)(b:Nat)(v:Value)(hb:b<w.1.size)(hv:w.cell? ⟨b,0,E⟩=H v)(h1:v.oneCell'=true):
  Calls Tryz.prog 150 #[S (H ⟨b,0,E⟩) 1 1,G F 1] w (λe w'=>e= .returned (S (H ⟨w.1.size,0,E⟩) 1 1)/\Below w.1.size w w'/\Bx w' w.1.size #[v]):=by
 have hmk:=anu;have YE:=C (λW=>Tryz.bits_Mul 1 1 aj aj W);go_enter func150,ntmps150;go_wp2_with fail;refine(YE.q w).mono ?_;rintro e w2 ⟨rfl,rfl⟩;have iT:=Bx.new w2 #[.nilFunc] 1;have hcell:(w2.alloc (J #[.nilFunc] 1)).cell? ⟨b,0,E⟩=H v:=by
  have:=(aB (O w2.1.size w2) (J #[.nilFunc] 1)).cell (p:=⟨b,0,E⟩) hb;rw[this];exact hv
 have hcp:=cp1 (w2.alloc (J #[.nilFunc] 1)) b w2.1.size 0 1 1 1 1 v hcell h1 (by rw[iT.1 0];rfl) (iT.2.1 0) rfl;obtain⟨W,hW⟩:∃W,W=(w2.alloc (J #[.nilFunc] 1)).setCell ⟨w2.1.size,0,E⟩ v:=⟨_,rfl⟩;have Jf:Hid (Below w2.1.size w2 W/\Bx W w2.1.size #[v]):=C (by
  rw[hW];exact⟨(aB (O w2.1.size w2) _).setCell (p:=⟨w2.1.size,0,E⟩) (aA w2.1.size) _,iT.aZ 0 au v⟩)
 rw[<-hW] at hcp;clear hW;go_wp2_with fail
 go_loopw [8] (λi wr=>wr=W/\i= G F 1) (λi _=>0)
 case atStart=>exact⟨rfl,rfl⟩
 case round=>
  obtain⟨rfl,rfl⟩:=hrel;go_wp2_with fail;go_ret;exact⟨rfl,Jf.q.1,Jf.q.2⟩
theorem ac' (w:World)(b:Nat)(v:Value)(hb:b<w.1.size)(hv:w.cell? ⟨b,0,E⟩=H v)(h1:v.oneCell'=true):
  Calls Tryz.prog 150 #[S (H ⟨b,0,E⟩) 1 1,G F 2] w (λe w'=>e= .returned (S (H ⟨w.1.size,0,E⟩) 2 2)/\Below w.1.size w w'/\Bx w' w.1.size #[v,v]):=by
 have hmk:=anv;have YE:=C (λW=>Tryz.bits_Mul 1 2 aj aj W);go_enter func150,ntmps150;go_wp2_with fail;refine(YE.q w).mono ?_;rintro e w2 ⟨rfl,rfl⟩;have iT:=Bx.new w2 #[.nilFunc,.nilFunc] 1;have hcell:(w2.alloc (J #[.nilFunc,.nilFunc] 1)).cell? ⟨b,0,E⟩=H v:=by
  have:=(aB (O w2.1.size w2) (J #[.nilFunc,.nilFunc] 1)).cell (p:=⟨b,0,E⟩) hb;rw[this];exact hv
 have hcp:=cp1 (w2.alloc (J #[.nilFunc,.nilFunc] 1)) b w2.1.size 0 2 1 2 1 v hcell h1 (by rw[iT.1 0];rfl) (iT.2.1 0) rfl;obtain⟨W,hW⟩:∃W,W=(w2.alloc (J #[.nilFunc,.nilFunc] 1)).setCell ⟨w2.1.size,0,E⟩ v:=⟨_,rfl⟩;have Jf:Hid (Below w2.1.size w2 W/\Bx W w2.1.size #[v,.nilFunc]):=C (by
  rw[hW];exact⟨(aB (O w2.1.size w2) _).setCell (p:=⟨w2.1.size,0,E⟩) (aA w2.1.size) _,iT.aZ 0 au v⟩)
 rw[<-hW] at hcp;clear hW;go_wp2_with fail
 go_loopw [8] (λi wr=>(wr=W/\i= G F 1)\/(i= G F 2/\Below w2.1.size w2 wr/\Bx wr w2.1.size #[v,v])) (λi _=>2 - (RowKit.intOf i).toNat)
 case atStart=>exact .inl ⟨rfl,rfl⟩
 case round=>
  rcases hrel with⟨rfl,rfl⟩|⟨rfl,hb2,hx2⟩
  .have HD:Hid (Bx wr.drew w2.1.size #[v,.nilFunc]):=C ⟨Jf.q.2.1,Jf.q.2.2.1,Jf.q.2.2.2⟩
   have hcp2:=cp1 wr.drew w2.1.size w2.1.size 1 1 1 1 2 v (HD.q.1 0) h1 (by rw[HD.q.1 1];rfl) (HD.q.2.1 1) rfl;have HE2:Hid (Below w2.1.size w2 (wr.drew.setCell ⟨w2.1.size,1,E⟩ v)/\Bx (wr.drew.setCell ⟨w2.1.size,1,E⟩ v) w2.1.size #[v,v]):=C ⟨Jf.q.1.drew.setCell (p:=⟨w2.1.size,1,E⟩) (aA w2.1.size) _,HD.q.aZ 1 au v⟩;go_wp2_with fail;refine aC 7 [(0,1),(1,1),(2,1),(3,1),(4,1),(5,1),(6,1),(7,2),(8,1),(9,1)] (λ_=>True) (λ_=>True) av av (trivial) (trivial) ?_;refine qC ?_;refine bq rfl rfl rfl (λK hK=>?_);go_simp;refine hK _ _ trivial ?_;clear hK K;refine qC ?_;refine aJ ?_;go_wp2_with fail;go_roundw
   case rel=>exact .inr ⟨rfl,HE2.q.1,HE2.q.2⟩
   case measure=>decide
  .have HE2:=C (⟨hb2,hx2⟩:_/\_)
   go_wp2_with fail;go_ret;exact⟨rfl,HE2.q.1,HE2.q.2⟩
@[reducible] def Ae:aP:=⟨0,[],0,[],false,0⟩
theorem VB (acts:List Nat):∀(k:Nat)(n:aP)(l:Bs),lJ (List.replicate k 0++acts) n l=(match ku k n.names l with| .error x=> .error x| .ok (ns,r)=>lJ acts {n with names:=ns} r):=by
 intro k
 induction k with
 |zero=>intro n l;rfl
 |succ k ih=>
  intro n l;rw[List.replicate_succ,gF];simp only[lJ,ku]
  cases eU l with
  |error x=>rfl
  |ok r=>
   simp only[Ad,dw]
   cases dB r with
   |error x=>rfl
   |ok mr=>
    obtain⟨m,r'⟩:=mr;simp only[];rw[ih]
def ny (k:Nat):List Nat:=List.replicate (cu k).toNat 0++(if k=1 then [1] else if k=3 then [2] else [])
def nR (k:Nat)(n:aP)(l:Bs):Except Er (Unit × aP × Bs):=
 if k=9 then(match jS 5 0 0 l with| .error x=> .error x| .ok (b,r)=> .ok ((),{n with bits:=b},r))
 else if k=8 then match kN l with
  | .error x=> .error x
  | .ok (f,r)=>match bW false 300 301 0 n.names n.aF r with
   | .error x=> .error x
   | .ok (b,r')=> .ok ((),{n with first:=f,names:=b.1,aF:=b.2},r')
 else if k=4 then match bW true 40 41 0 n.names n.aF l with
   | .error x=> .error x
   | .ok (b,r')=> .ok ((),{n with names:=b.1,aF:=b.2},r')
 else if k=7 then match bW false 300 301 0 n.names n.aF l with
   | .error x=> .error x
   | .ok (b,r')=> .ok ((),{n with names:=b.1,aF:=b.2},r')
 else .ok ((),n,l)
def Ho (x:Except Er (Unit × aP × Bs)):Except Er (aP × Bs):=
 match x with
 | .error x=> .error x
 | .ok (_,s,r2)=>match dU r2 with
  | .error x=> .error x
  | .ok (true,r3)=> .error (r3,220)
  | .ok (false,r3)=> .ok (s,r3)
theorem TB (l r:Bs)(i:Nat)(hi:i<9)(hE:jf (bX l)=false)(hw:eT nA (bX l)= .ok (i,r)):
  kC l=(match lJ (ny (i+1)) {Ae with kind:=((i+1:Nat):I)} r with| .error x=> .error x| .ok (_,n,r1)=>Ho (nR (i+1) n r1)):=by
 unfold kC;rw[ak (by rw[hE];simp),hw];simp only[];rw[ny,VB];simp only[]
 cases hns:ku (cu (i+1)).toNat [] r with
 |error x=>rfl
 |ok nr=>
  obtain⟨ns,r1⟩:=nr;simp only[];unfold vz nR Ho;rcases(by omega:i=0\/i=1\/i=2\/i=3\/i=4\/i=5\/i=6\/i=7\/i=8) with rfl|rfl|rfl|rfl|rfl|rfl|rfl|rfl|rfl
  .simp only[Nat.reduceAdd,dw,lJ,Ad,Nat.reduceEqDiff,fE,Nat.succ_ne_self]
   cases eU r1 with
   |error x=>rfl
   |ok r2=>
    simp only[]
    cases eT oI r2 with
    |error x=>rfl
    |ok jr=>rfl
  .rfl
  .simp only[Nat.reduceAdd,dw,lJ,Ad,Nat.reduceEqDiff,fE]
   cases eU r1 with
   |error x=>rfl
   |ok r2=>
    simp only[]
    cases gZ r2 with
    |error x=>rfl
    |ok jr=>rfl
  .simp only[Nat.reduceAdd,dw,lJ,Nat.reduceEqDiff,fE]
   cases bW true 40 41 0 ns [] r1 with
   |error x=>rfl
   |ok jr=>rfl
  .rfl
  .rfl
  .simp only[Nat.reduceAdd,dw,lJ,Nat.reduceEqDiff,fE]
   cases bW false 300 301 0 ns [] r1 with
   |error x=>rfl
   |ok jr=>rfl
  .simp only[Nat.reduceAdd,dw,lJ,Nat.reduceEqDiff,fE]
   cases kN r1 with
   |error x=>rfl
   |ok fr=>
    obtain⟨f,r2⟩:=fr;simp only[]
    cases bW false 300 301 0 ns [] r2 with
    |error x=>rfl
    |ok jr=>rfl
  .simp only[Nat.reduceAdd,dw,lJ,Nat.reduceEqDiff,fE]
   cases jS 5 0 0 r1 with
   |error x=>rfl
   |ok jr=>rfl
theorem YF {a:Nat}{n n':aP}{l r:Bs}{u:Unit}(h:Ad a n l= .ok (u,n',r)):n'.bits=n.bits/\n'.first=n.first/\n'.kind=n.kind:=by
 unfold Ad at h
 split at h
 .split at h
  .cases h
  .injection h with h;injection h with _ h;injection h with h _;subst h;simp
 .split at h
  .split at h
   .cases h
   .injection h with h;injection h with _ h;injection h with h _;subst h;simp
  .split at h
   .cases h
   .injection h with h;injection h with _ h;injection h with h _;subst h;simp
theorem LV:∀(acts:List Nat){n n':aP}{l r:Bs}{u:Unit},lJ acts n l= .ok (u,n',r)->
  n'.bits=n.bits/\n'.first=n.first/\n'.kind=n.kind/\n'.names.length<=n.names.length+acts.length/\n'.aF.length<=n.aF.length+acts.length
 |[],n,n',l,r,u,h=>by
  simp only[lJ] at h;injection h with h;injection h with _ h;injection h with h _;subst h;simp
 |a::t,n,n',l,r,u,h=>by
  simp only[lJ] at h
  split at h
  .cases h
  .split at h
   .cases h
   .rename_i u1 n1 r1 h1
    have k1:=YF h1;have k2:=RA h1;have k3:=LV t h;simp only[jd];exact⟨k3.1.trans k1.1,k3.2.1.trans k1.2.1,k3.2.2.1.trans k1.2.2,by omega,by omega⟩
theorem ajd:(Tryz.prog.info? 1).map (λi=>(i.zero.map (·.cells.size),i.size,i.bytes))=H (H 1,1,8):=av
theorem afq:∃i z,Tryz.prog.info? 1=H i/\i.zero=H z/\i.size=1/\i.bytes=8/\z.cells.size=1:=qE ajd
theorem YG (k:Nat):∃N:Nat,cu (k+1)=(N:I)/\(N=1\/N=2):=by
 unfold cu
 split <;> first|exact⟨1,rfl,.inl rfl⟩|exact⟨2,rfl,.inr rfl⟩|(rename_i h;omega)
theorem afr (N:Nat)(hN:N=1\/N=2)(w:World)(b:Nat)(v:Value)(hb:b<w.1.size)(hv:w.cell? ⟨b,0,E⟩=H v)(h1:v.oneCell'=true):
  Calls Tryz.prog 150 #[S (H ⟨b,0,E⟩) 1 1,G F N] w (λe w'=>e= .returned (S (H ⟨w.1.size,0,E⟩) N N)/\Below w.1.size w w'/\Bx w' w.1.size (Array.replicate N v)):=by
 rcases hN with rfl|rfl
 .exact ac9 w b v hb hv h1
 .exact ac' w b v hb hv h1
theorem IC {P:Program}{ops:Array Oper}{rest:List Oper}{o:Oper}{ac:Act}{w w':World}{Q:Exit->Act->World->Prop}{v u r:Value}(hgd:o.guard=E)(s x:Operand)(t:TypeId)
  (ho:o.op= .call {callee:= .builtin .append,args:=#[s,x],argTypes:=#[t,t]}) (hs:ac.eval s=v) (hx:ac.eval x=u) (hrun:(Builtin.append_ #[t,t] o.type #[v,u]).run P w= .ok r w')
  (h:wpList P ops Q rest (ac.put o.dst r) w'):wpList P ops Q (o::rest) ac w:=
 wpList_plain hgd λ_ hK=>by
  unfold Oper.wp execOp;simp only[ho,resolve,invoke,builtin,Sem.run_bind,Sem.run_pure,Result.andThen_ok,List.map_toArray,lD,mU,hs,hx,hrun];exact hK _ _ h
theorem afs (N:Nat)(hN:N=1\/N=2)(W:World)(T U:Nat)(v x:Value)(hT:Bx W T (Array.replicate N v))(hU:W.cell? ⟨U,0,E⟩=H x):
  ∃(cap:Nat)(W':World),(Builtin.append_ #[206,206] 206 #[S (H ⟨T,0,E⟩) N N,S (H ⟨U,0,E⟩) 1 1]).run Tryz.prog W= .ok (S (H ⟨W.1.size,0,E⟩) (N+1) cap) W'/\N+1<=cap/\cap<=maxLen/\Below W.1.size W W'/\W.1.size<W'.1.size/\(∀i,i<N->W'.cell? ⟨W.1.size,i,E⟩=H v)/\W'.cell? ⟨W.1.size,N,E⟩=H x:=by
 obtain⟨i,z,hi,hz,hsize,hby,hzs⟩:=afq;have hr:=run_append_grow (P:=Tryz.prog) W 206 206 1 i z av hi hz ⟨T,0,E⟩ N N (List.replicate N v) (by rw[hsize];simp) (λj u hj=>by
  have hj':=hj;rw[List.getElem?_replicate] at hj';have hlt:j<N:=by
   apply Classical.byContradiction;intro hn;rw[ak hn] at hj';cases hj'
  rw[ay hlt] at hj';have:=hT.1 j;rw[Array.getElem?_replicate,ay hlt] at this;have hz:=this.trans hj';unfold Addr.add
  split
  .rename_i h0;subst h0;exact hz
  .simpa using hz) ⟨U,0,E⟩ 1 1 [x] (by rw[hsize];rfl) (λj u hj=>by
  obtain rfl:j=0:=by have:=(bG.1 hj).1;simpa using this
  simpa[Addr.add] using hU.trans hj) ah ah (by rw[hby];rcases hN with rfl|rfl <;> exact Nat.le_of_ble_eq_true rfl)
 refine⟨_,_,hr,grownCap_ge W (N+1) N 1,grownCap_le_maxLen W (N+1) N 1 (by unfold maxLen;omega),(O _ _).drew.alloc (aA _) _,by simp,λi hi=>?_,?_⟩
 .have:=World.cell?_alloc_new W.drew ((List.replicate N v).toArray++[x].toArray++Builtin.zeroCells z.cells (grownCap W (N+1) N 1 - (N+1))) 1 i
  refine this.trans ?_;rw[Array.getElem?_append_left (by simp;omega),Array.getElem?_append_left (by simp;omega)];simp[hi]
 .have:=World.cell?_alloc_new W.drew ((List.replicate N v).toArray++[x].toArray++Builtin.zeroCells z.cells (grownCap W (N+1) N 1 - (N+1))) 1 N
  refine this.trans ?_;rw[Array.getElem?_append_left au,Array.getElem?_append_right au];simp
theorem RF {w:World}{R b n c:Nat}(acts:List Nat)(hn:acts.length=n)(hc:n<=c)(hm:n<=1000)(h:∀(i:Nat)(a:Nat),acts[i]?=H a->w.cell? ⟨b,i,E⟩=H (.func (.func (En a)) #[M (H ⟨R,0,E⟩)] #[])):Row w 1 (Dv R) (H ⟨b,0,E⟩) n c acts:=
 ⟨hn,hc,by omega,(λe=>by cases e),λi a ha=>⟨b,0,rfl,λj v hv=>by
  obtain rfl:j=0:=by have:=(bG.1 hv).1;simpa[Dv] using this
  have:v= .func (.func (En a)) #[M (H ⟨R,0,E⟩)] #[]:=by simpa[Dv] using hv.symm
  rw[this];simpa using h i a ha⟩⟩
theorem Bl {w:World}{R b N:Nat}(hN:N<=2)(h:Bx w b (Array.replicate N (.func (.func (En 0)) #[M (H ⟨R,0,E⟩)] #[]))):Row w 1 (Dv R) (H ⟨b,0,E⟩) N N (List.replicate N 0):=
 RF _ au (aA _) ah λi a ha=>by
  rw[List.getElem?_replicate] at ha;have hlt:i<N:=by
   apply Classical.byContradiction;intro hn;rw[ak hn] at ha;cases ha
  rw[ay hlt] at ha;injection ha with ha;subst ha;rw[h.1 i,Array.getElem?_replicate,ay hlt]
theorem N9 {w:World}{R b N c:Nat}(a:Nat)(hc:N+1<=c)(hm:N<=2)(h:∀i,i<N->w.cell? ⟨b,i,E⟩=H (.func (.func (En 0)) #[M (H ⟨R,0,E⟩)] #[]))(h1:w.cell? ⟨b,N,E⟩=H (.func (.func (En a)) #[M (H ⟨R,0,E⟩)] #[])):Row w 1 (Dv R) (H ⟨b,0,E⟩) (N+1) c (List.replicate N 0++[a]):=
 RF _ au hc ah λi a' ha=>by
  by_cases hlt:i<N
  .rw[wO (by simpa using hlt),List.getElem?_replicate,ay hlt] at ha
   injection ha with ha;subst ha;exact h i hlt
  .rw[uZ (by simp;omega)] at ha
   obtain rfl:i=N:=by have:=(bG.1 ha).1;simp at this;omega
   simp at ha;subst ha;exact h1
theorem VD:∀j:Fin 9,nA.take j.val++[fI (j.val+1)]=nA.take (j.val+1):=by decide
def Df (x:Except Er (Unit × aP × Bs)):Except Er (Unit × aP × Bs):=match Ho x with| .error x=> .error x| .ok (n',r)=> .ok ((),n',r)
theorem J9 (x:Er):Df (.error x)= .error x:=rfl
theorem VE {u:Unit}{n:aP}{r:Bs}{x:Er}(h:dU r= .error x):Df (.ok (u,n,r))= .error x:=by
 unfold Df Ho;simp only[h]
theorem VF {u:Unit}{n:aP}{r r3:Bs}(h:dU r= .ok (true,r3)):Df (.ok (u,n,r))= .error (r3,220):=by
 unfold Df Ho;simp only[h]
theorem TD {u:Unit}{n:aP}{r r3:Bs}(h:dU r= .ok (false,r3)):Df (.ok (u,n,r))= .ok ((),n,r3):=by
 unfold Df Ho;simp only[h]
theorem ada {R p:Nat}{s l:Bs}{c:bB}(w:World)(h:dY w R s p l c Ae)(hG:vN R w):
  Calls Tryz.prog 131 #[M (H ⟨R,0,E⟩)] w (dJ R s c w (λ_:Unit=> .tuple #[]) (match kC l with| .error x=> .error x| .ok (n',r)=> .ok ((),n',r))):=by
 obtain⟨Y,hY⟩:∃Y:Except Er (Unit × aP × Bs),Y=(match kC l with| .error x=> .error x| .ok (n',r)=> .ok ((),n',r)):=⟨_,rfl⟩;rw[<-hY];have HY:=C hY;have HG:=C hG;clear hY hG;have c0:=h.c0;have c1:=h.c1;have z1:=f1 h 1;have hlen:=h.len;have hlim:=h.lim;have hsl:=λW=>oD Tryz.underlying9 s p ah W
 rw[h.d] at hsl;have hz:=iM s;have hz2:=iM (bX l);have hsk:=LW l;obtain⟨q,hq⟩:∃q:Nat,q=s.length - (bX l).length:=⟨_,rfl⟩;have HWQ:Hid (wrap64 ((s.length:I) - ((bX l).length:I))=(q:I)):=C (by
  rw[show(s.length:I) - ((bX l).length:I)=(q:I) by omega];exact IntWalk.wrap64_in _ ah)
 have anw:Hid (IntKind.i64.wrap ((s.length:I) - ((bX l).length:I))=(q:I)):=C (by
  rw[show(s.length:I) - ((bX l).length:I)=(q:I) by omega];exact IntWalk.i64_in _ ah)
 have HH:=C h;have HLEN:=C hlen;have gB:=C hsk;have HQ:=C hq;clear h hlen hsk hq;go_enter func131,ntmps131;go_wp2_with fail;refine aC 20 [(0,1),(1,1),(2,1),(3,1),(4,0),(5,0),(6,1),(7,1),(8,1),(9,0),(10,1),(11,1),(12,1),(13,0),(14,0),(15,2),(16,0),(17,0),(18,1),(19,1),(20,2)] (λ_=>True) (λW'=>W'.cell? ⟨R,0,E⟩=H (L ⟨s.toArray⟩)/\W'.cell? ⟨R,1,E⟩=H (G F p)) av av (trivial) (⟨HH.q.c0,HH.q.c1⟩) ?_;refine qC ?_;refine aD rfl rfl (λK hK=>?_);go_simp;refine(RG l _).mono ?_;rintro e w2 ⟨rfl,hb2⟩;have Ka:=HH.q.drew.below hb2;refine hK _ _ ⟨trivial,Ka.c0,Ka.c1⟩ ?_;have LX:=C Ka;have HB2:=C hb2;clear hK K hb2 Ka c0 c1 z1;have c1:=LX.q.c1;have z1:=f1 LX.q 1;have hwq:=HWQ.q;refine qC ?_;refine bq rfl rfl rfl (λK hK=>?_);go_simp;refine hK _ _ trivial ?_;clear hK K;refine aJ ?_;have hb2:Below w.1.size w w2:=(O _ _).drew.trans HB2.q;have ht:=LX.q.to (l.length - (bX l).length) (Kb l) ah q (by have:=HLEN.q;have:=gB.q;have:=HQ.q;omega);have HT:=C ht.1;have HM:=C ((Mv.of_below (R:=R) (c:=c) hb2).trans ht.2);have HGT:=C (HG.q.mv HH.q HM.q.same);clear ht hb2;rw[show IntKind.i64.wrap ((s.length:I) - ((bX l).length:I))=(q:I) from anw.q];go_wp2_with fail;refine(Hg _ HT.q).mono ?_;rintro e w3 ⟨rfl,hb3⟩;have HT3:=C (HT.q.below hb3);have tY:=C (HM.q.trans (Mv.of_below hb3));have nu:=C (HGT.q.mv HT.q (Mv.of_below hb3:Mv R c c _ w3).same);clear hb3 c1 z1
 cases hE:jf (bX l)
 .obtain⟨i,z,hi⟩:=uw
  have HI:=C hi;have HGL:=C nu.q.l;clear hi;go_wp2_with fail
  go_loopw [2,31] (λv i wr=>∃(k:Nat)(a0:Option Addr)(c0:Nat),k<=9/\v= S a0 k c0/\i= G F k/\Own wr w3.1.size 9 1 encStr (S a0 k c0) (nA.take k)/\Below w3.1.size w3 wr) (λ_ i _=>9 - (RowKit.intOf i).toNat)
  case atStart=>exact⟨0,E,0,aV _,rfl,rfl,Own.fJ _ _ _ _ _,O _ _⟩
  case round=>
   obtain⟨k,a0,c0,hk,rfl,rfl,how,hbw⟩:=hrel;by_cases hlt:k<9
   .obtain⟨hg1,hg2,hg3⟩:=(HGL.q.below (hbw:Below w3.1.size w3 wr)).2.1 (k+1) ah
    have hf1:wr.cell? ⟨0,3+k*3,E⟩=H (L ⟨(fI (k+1)).toArray⟩):=by rw[<-hg1];congr 2;omega
    have hf2:wr.cell? ⟨0,3+k*3+1,E⟩=H (G F (cu (k+1))):=by rw[<-hg2];congr 2;omega
    have hf3:wr.cell? ⟨0,3+k*3+2,E⟩=H (.int .i32 (bZ (k+1))):=by rw[<-hg3];congr 2;omega
    have HOW:=C how;have bE:=C hbw;clear hg1 hg2 hg3 how hbw;have HOZ:Hid (Own ((wr.alloc (J #[L ⟨(fI (k+1)).toArray⟩,G F (cu (k+1)),.int .i32 (bZ (k+1))] 83)).alloc (J #[L ⟨(fI (k+1)).toArray⟩] 9)) w3.1.size 9 1 encStr (S a0 k c0) (nA.take k)):=C ((HOW.q.alloc _).alloc _);have iO:Hid (Below w3.1.size w3 ((wr.alloc (J #[L ⟨(fI (k+1)).toArray⟩,G F (cu (k+1)),.int .i32 (bZ (k+1))] 83)).alloc (J #[L ⟨(fI (k+1)).toArray⟩] 9))):=C (aB (aB bE.q _) _);have nk:Hid (Row ((wr.alloc (J #[L ⟨(fI (k+1)).toArray⟩,G F (cu (k+1)),.int .i32 (bZ (k+1))] 83)).alloc (J #[L ⟨(fI (k+1)).toArray⟩] 9)) 1 encStr (H ⟨wr.1.size+1,0,E⟩) 1 1 [fI (k+1)]):=C (by have:=Row.str1 (wr.alloc (J #[L ⟨(fI (k+1)).toArray⟩,G F (cu (k+1)),.int .i32 (bZ (k+1))] 83)) (fI (k+1));simpa using this);have jW:Hid ((nA.take k).length+1=k+1):=C (by rw[dN];show min k 9+1=k+1;omega);have fT:Hid ((k+1)*16<=140737488355328):=C ah;have lV:Hid (k+1<=maxLen):=C (by unfold maxLen;omega);have vZ:Hid (w3.1.size<=((wr.alloc (J #[L ⟨(fI (k+1)).toArray⟩,G F (cu (k+1)),.int .i32 (bZ (k+1))] 83)).alloc (J #[L ⟨(fI (k+1)).toArray⟩] 9)).1.size):=C iO.q.size;have hcl:(nA.take k)++[fI (k+1)]=nA.take (k+1):=VD ⟨k,hlt⟩
    go_wp2_with (at_builtin;refine eB rfl _ _ 27 rfl i z 16 underlying27 HI.q.1 HI.q.2.1 HI.q.2.2.1 HI.q.2.2.2.1 HI.q.2.2.2.2 rfl HOZ.q (H ⟨wr.1.size+1,0,E⟩) 1 1 (k+1) [fI (k+1)] rfl nk.q jW.q fT.q lV.q vZ.q ?_;intro a' c' w5 hown5 hg5 YD)
    have jv:=below_app iO.q HOZ.q (aA _) vZ.q hg5;refine⟨⟨k+1,a',c',by omega,rfl,rfl,by rw[<-hcl];exact hown5,jv⟩,?_⟩;simp[RowKit.intOf];omega
   .obtain rfl:k=9:=by omega
    have HOW:=C how;have bE:=C hbw;have gM:=C (HT3.q.below hbw);have Fe:=C (tY.q.trans (Mv.of_below hbw));have Vz:=C (nu.q.mv HT3.q (Mv.of_below hbw:Mv R c c w3 wr).same);have yc:Hid (Row wr 1 encStr a0 9 c0 nA):=C (show Row wr 1 encStr a0 9 c0 (nA.take 9) from Own.row how aj);clear how hbw;go_wp2_with fail;refine(KY wr gM.q a0 9 c0 nA yc.q ah aj aj).mono ?_;intro e w5 he;have hRD:∀x,eT nA (bX l)= .error x->kC l= .error x:=λx hx=>by unfold kC;rw[ak (by rw[hE];simp),hx]
    cases hwo:eT nA (bX l) with
    |error x=>
     rw[hwo] at he;obtain⟨rfl,hs⟩:=he;refine⟨rfl,?_⟩;show dJ R s c w _ _ _ _;rw[HY.q,hRD x hwo];exact⟨rfl,Fe.q.jI hs⟩
    |ok ir=>
     obtain⟨iv,r⟩:=ir;rw[hwo] at he;obtain⟨rfl,q5,pK,FX⟩:=he;have jb:=C pK;have Cq:=C (Fe.q.trans FX);have HG5:=C (Vz.q.mv gM.q FX.same);have RH:=C hwo;have hc0:=pK.x.1 2;have hf0:=f1 pK 2;have hiv:iv<9:=by
      unfold eT at hwo
      split at hwo
      .rename_i j hj
       injection hwo with hwo;injection hwo with hwo _;have:=(GQ.1 hj).1;subst hwo
       simpa[nA] using this
      .cases hwo
     obtain⟨n6,hn6⟩:∃n6:aP,n6={Ae with kind:=((iv+1:Nat):I)}:=⟨_,rfl⟩;have Cr:=TB l r iv hiv hE hwo;rw[<-hn6] at Cr;have wh:Hid (∀x,lJ (ny (iv+1)) n6 r= .error x->Y= .error x):=C (λx hx=>by rw[HY.q,Cr,hx]);have Iy:Hid (∀u n r1,lJ (ny (iv+1)) n6 r= .ok (u,n,r1)->Y=Df (nR (iv+1) n r1)):=C (λu n r1 hx=>by rw[HY.q,Cr,hx];rfl);have Bn:Hid (n6.bits=0/\n6.first=false/\n6.names.length=0/\n6.aF.length=0):=C (by rw[hn6];exact⟨rfl,rfl,rfl,rfl⟩);have hwk:wrap64 (1+(iv:I))=((iv+1:Nat):I):=by unfold wrap64;omega
     have anx:((iv:I)+1).toNat=iv+1:=by omega
     obtain⟨N,hN,YH⟩:=YG iv;obtain⟨rr,hrr⟩:∃rr:I,bZ (iv+1)=rr:=⟨_,rfl⟩;obtain⟨hg1,hg2,hg3⟩:=HG5.q.l.2.1 (iv+1) ah;have hq1:w5.cell? ⟨0,(1+iv)*3,E⟩=H (L ⟨(fI (iv+1)).toArray⟩):=by rw[<-hg1];congr 2;omega
     have hq2:w5.cell? ⟨0,(1+iv)*3+1,E⟩=H (G F (N:I)):=by rw[<-hN,<-hg2];congr 2;omega
     have hq3:w5.cell? ⟨0,(1+iv)*3+2,E⟩=H (.int .i32 rr):=by rw[<-hrr,<-hg3];congr 2;omega
     have HIV:=C hiv;have uD:=C hN;have uH:=C YH;have HRR:=C hrr;have h9:(iv:I)+1<10:=by omega
     obtain⟨c6,hc6⟩:∃c6:bB,c6={c with kind:=1+(iv:I)}:=⟨_,rfl⟩;have hset:=jb.q.Em 2 (G F (1+(iv:I))) {c with kind:=1+(iv:I)} {Ae with kind:=((iv+1:Nat):I)} aj rfl ⟨rfl,rfl,rfl,rfl,rfl,rfl⟩ ⟨rfl,rfl⟩ ⟨(by show 1+(iv:I)=((iv+1:Nat):I);omega),jb.q.n.1.2.1,jb.q.n.1.2.2.1,jb.q.n.1.2.2.2.1⟩;rw[<-hn6,<-hc6] at hset;have YI:=C hset.1;have Kc:=C (Cq.q.trans hset.2);have HGS:=C (HG5.q.mv jb.q hset.2.same);have hba:=aB (aB (O (w5.setCell ⟨R,2,E⟩ (G F (1+(iv:I)))).1.size _) (J #[L ⟨(fI (iv+1)).toArray⟩,G F (N:I),.int .i32 rr] 83)) (J #[.func (.func 151) #[M (H ⟨R,0,E⟩)] #[]] 1);have gU:=C hba;have zS:=C ((Bx.new (w5.setCell ⟨R,2,E⟩ (G F (1+(iv:I)))) #[L ⟨(fI (iv+1)).toArray⟩,G F (N:I),.int .i32 rr] 83).alloc (J #[.func (.func 151) #[M (H ⟨R,0,E⟩)] #[]] 1));have hFT:=Bx.new ((w5.setCell ⟨R,2,E⟩ (G F (1+(iv:I)))).alloc (J #[L ⟨(fI (iv+1)).toArray⟩,G F (N:I),.int .i32 rr] 83)) #[.func (.func 151) #[M (H ⟨R,0,E⟩)] #[]] 1;rw[show((w5.setCell ⟨R,2,E⟩ (G F (1+(iv:I)))).alloc (J #[L ⟨(fI (iv+1)).toArray⟩,G F (N:I),.int .i32 rr] 83)).1.size=w5.1.size+1 by simp[World.setCell]] at hFT;have HFT:=C hFT;have Oa:Hid ((w5.setCell ⟨R,2,E⟩ (G F (1+(iv:I)))).1.size=w5.1.size):=C (by simp[World.setCell]);have hcall:=C (λW (hb:w5.1.size+1<W.1.size) (hv:W.cell? ⟨w5.1.size+1,0,E⟩=H (.func (.func 151) #[M (H ⟨R,0,E⟩)] #[]))=>afr N YH W (w5.1.size+1) (.func (.func 151) #[M (H ⟨R,0,E⟩)] #[]) hb hv rfl);clear pK FX hRD hwo Cr hg1 hg2 hg3 hset hba hFT hN YH hrr hiv hn6 hc6;go_wp2_with fail;refine(hcall.q _ HFT.q.2.2 (HFT.q.1 0)).mono ?_;rintro e w7 ⟨rfl,IE,hx7⟩;have Ob:=C (gU.q.bO IE);have Fh:=C (YI.q.below Ob.q);have Iz:=C (Kc.q.trans (Mv.of_below Ob.q));have IB:=C (HGS.q.below Ob.q);have Oc:=zS.q.keep IE;rw[Oa.q] at Oc;have Am:Hid (nY R c6 w5.1.size):=C (YI.q.new (by rw[Oa.q];exact aA _));have Rz:=dz (show w5.1.size<w5.1.size+1+1 by omega) (show w5.1.size+1+1<=w7.1.size by have:=IE.size;simpa[World.setCell] using this);have Jg:=C Oc;have hf2:=Oc.1 2;have hf3:=Oc.2.1 2;rw[show(((w5.setCell ⟨R,2,E⟩ (G F (1+(iv:I)))).alloc (J #[L ⟨(fI (iv+1)).toArray⟩,G F (N:I),.int .i32 rr] 83)).alloc (J #[(.func (.func 151) #[M (H ⟨R,0,E⟩)] #[])] 1)).1.size=w5.1.size+1+1 by simp[World.setCell]] at hx7;have wm:=C hx7;have VG:Hid (nY R c6 (w5.1.size+1+1)):=C (YI.q.new (by rw[Oa.q];omega));have hcase:(iv=0/\rr=108)\/(iv=2/\rr=118)\/(iv=8/\rr=103)\/(iv=7/\rr=109)\/(iv=3/\rr=115)\/(iv=6/\rr=116)\/((iv=1\/iv=4\/iv=5)/\rr=0):=by
      have hiv:=HIV.q;have hrr:=HRR.q;rcases(by omega:iv=0\/iv=1\/iv=2\/iv=3\/iv=4\/iv=5\/iv=6\/iv=7\/iv=8) with rfl|rfl|rfl|rfl|rfl|rfl|rfl|rfl|rfl <;> simp[bZ] at hrr <;> subst hrr <;> simp
     clear IE hx7 Oc hq1 hq2 hq3 hwk anx h9 hc0 hf0 HRR;have HC0:=C (⟨Fh.q,Iz.q,IB.q⟩:_/\_/\_);clear Rz;rcases hcase with⟨hi0,rfl⟩|⟨hi0,rfl⟩|⟨hi0,rfl⟩|⟨hi0,rfl⟩|⟨hi0,rfl⟩|⟨hi0,rfl⟩|⟨hi0,rfl⟩
     case' inl=>
      have HI0:=C hi0;clear hi0;have hact:ny (iv+1)=List.replicate N 0++[1]:=by rw[HI0.q];unfold ny;rw[<-HI0.q,uD.q,HI0.q];simp
      obtain⟨cap,w8,hrun,hcap1,hcap2,Od,Jh,hcv,hcx⟩:=afs N uH.q (w7.alloc (J #[(.func (.func 152) #[M (H ⟨R,0,E⟩)] #[])] 1)) (w5.1.size+1+1) w7.1.size (.func (.func 151) #[M (H ⟨R,0,E⟩)] #[]) (.func (.func 152) #[M (H ⟨R,0,E⟩)] #[]) (wm.q.alloc _) ((Bx.new w7 #[(.func (.func 152) #[M (H ⟨R,0,E⟩)] #[])] 1).1 0);rw[show(w7.alloc (J #[(.func (.func 152) #[M (H ⟨R,0,E⟩)] #[])] 1)).1.size=w7.1.size+1 by simp] at hrun Jh hcv hcx;have hbb:=(aB (O w7.1.size w7) (J #[(.func (.func 152) #[M (H ⟨R,0,E⟩)] #[])] 1)).trans (Od.mono au);have Ct:=C (Fh.q.below hbb);have LY:=C (Iz.q.trans (Mv.of_below hbb));have xH:=C (IB.q.below hbb);have Dh:=C (Jg.q.keep hbb);have mX:=C (N9 1 hcap1 (by have:=uH.q;omega) hcv hcx);have YJ:=C Jh;have hf2:=Dh.q.1 2;have YK:=C hrun;clear hcap1 hcap2 Od Jh hcv hcx hbb hrun
      go_wp2_with (at_builtin;refine IC rfl _ _ 206 rfl rfl rfl YK.q ?_)
      refine(zf w8 Ct.q xH.q (w7.1.size+1) 0 (N+1) cap _ mX.q (Fh.q.new ah) YJ.q (by have:=uH.q;omega) (by have:=Bn.q;omega) (by have:=Bn.q;omega)).mono ?_
     case' inr.inl=>
      have HI0:=C hi0;clear hi0;have hact:ny (iv+1)=List.replicate N 0++[2]:=by rw[HI0.q];unfold ny;rw[<-HI0.q,uD.q,HI0.q];simp
      obtain⟨cap,w8,hrun,hcap1,hcap2,Od,Jh,hcv,hcx⟩:=afs N uH.q (w7.alloc (J #[(.func (.func 153) #[M (H ⟨R,0,E⟩)] #[])] 1)) (w5.1.size+1+1) w7.1.size (.func (.func 151) #[M (H ⟨R,0,E⟩)] #[]) (.func (.func 153) #[M (H ⟨R,0,E⟩)] #[]) (wm.q.alloc _) ((Bx.new w7 #[(.func (.func 153) #[M (H ⟨R,0,E⟩)] #[])] 1).1 0);rw[show(w7.alloc (J #[(.func (.func 153) #[M (H ⟨R,0,E⟩)] #[])] 1)).1.size=w7.1.size+1 by simp] at hrun Jh hcv hcx;have hbb:=(aB (O w7.1.size w7) (J #[(.func (.func 153) #[M (H ⟨R,0,E⟩)] #[])] 1)).trans (Od.mono au);have Ct:=C (Fh.q.below hbb);have LY:=C (Iz.q.trans (Mv.of_below hbb));have xH:=C (IB.q.below hbb);have Dh:=C (Jg.q.keep hbb);have mX:=C (N9 2 hcap1 (by have:=uH.q;omega) hcv hcx);have YJ:=C Jh;have hf2:=Dh.q.1 2;have YK:=C hrun;clear hcap1 hcap2 Od Jh hcv hcx hbb hrun
      go_wp2_with (at_builtin;refine IC rfl _ _ 206 rfl rfl rfl YK.q ?_)
      refine(zf w8 Ct.q xH.q (w7.1.size+1) 0 (N+1) cap _ mX.q (Fh.q.new ah) YJ.q (by have:=uH.q;omega) (by have:=Bn.q;omega) (by have:=Bn.q;omega)).mono ?_
     case' inr.inr.inl=>
      have HI0:=C hi0;clear hi0;have hact:ny (iv+1)=List.replicate N 0:=by unfold ny;rw[uD.q,ak (by have:=HI0.q;omega),ak (by have:=HI0.q;omega)];simp
      have Ct:=C Fh.q;have LY:=C Iz.q;have xH:=C IB.q;have Dh:=C Jg.q;have mX:=C (Bl (R:=R) (by have:=uH.q;omega) wm.q);go_wp2_with fail;refine(zf w7 Ct.q xH.q (w5.1.size+1+1) 0 N N _ mX.q VG.q wm.q.2.2 (by have:=uH.q;omega) (by have:=Bn.q;omega) (by have:=Bn.q;omega)).mono ?_
     case' inr.inr.inr.inl=>
      have HI0:=C hi0;clear hi0;have hact:ny (iv+1)=List.replicate N 0:=by unfold ny;rw[uD.q,ak (by have:=HI0.q;omega),ak (by have:=HI0.q;omega)];simp
      have Ct:=C Fh.q;have LY:=C Iz.q;have xH:=C IB.q;have Dh:=C Jg.q;have mX:=C (Bl (R:=R) (by have:=uH.q;omega) wm.q);go_wp2_with fail;refine(zf w7 Ct.q xH.q (w5.1.size+1+1) 0 N N _ mX.q VG.q wm.q.2.2 (by have:=uH.q;omega) (by have:=Bn.q;omega) (by have:=Bn.q;omega)).mono ?_
     case' inr.inr.inr.inr.inl=>
      have HI0:=C hi0;clear hi0;have hact:ny (iv+1)=List.replicate N 0:=by unfold ny;rw[uD.q,ak (by have:=HI0.q;omega),ak (by have:=HI0.q;omega)];simp
      have Ct:=C Fh.q;have LY:=C Iz.q;have xH:=C IB.q;have Dh:=C Jg.q;have mX:=C (Bl (R:=R) (by have:=uH.q;omega) wm.q);go_wp2_with fail;refine(zf w7 Ct.q xH.q (w5.1.size+1+1) 0 N N _ mX.q VG.q wm.q.2.2 (by have:=uH.q;omega) (by have:=Bn.q;omega) (by have:=Bn.q;omega)).mono ?_
     case' inr.inr.inr.inr.inr.inl=>
      have HI0:=C hi0;clear hi0;have hact:ny (iv+1)=List.replicate N 0:=by unfold ny;rw[uD.q,ak (by have:=HI0.q;omega),ak (by have:=HI0.q;omega)];simp
      have Ct:=C Fh.q;have LY:=C Iz.q;have xH:=C IB.q;have Dh:=C Jg.q;have mX:=C (Bl (R:=R) (by have:=uH.q;omega) wm.q);go_wp2_with fail;refine(zf w7 Ct.q xH.q (w5.1.size+1+1) 0 N N _ mX.q VG.q wm.q.2.2 (by have:=uH.q;omega) (by have:=Bn.q;omega) (by have:=Bn.q;omega)).mono ?_
     case' inr.inr.inr.inr.inr.inr=>
      have HI0:=C hi0;clear hi0;have hact:ny (iv+1)=List.replicate N 0:=by unfold ny;rw[uD.q,ak (by have:=HI0.q;omega),ak (by have:=HI0.q;omega)];simp
      have Ct:=C Fh.q;have LY:=C Iz.q;have xH:=C IB.q;have Dh:=C Jg.q;have mX:=C (Bl (R:=R) (by have:=uH.q;omega) wm.q);go_wp2_with fail;refine(zf w7 Ct.q xH.q (w5.1.size+1+1) 0 N N _ mX.q VG.q wm.q.2.2 (by have:=uH.q;omega) (by have:=Bn.q;omega) (by have:=Bn.q;omega)).mono ?_
     all_goals
      intro e w9 he;rw[<-hact] at he
      cases hdo:lJ (ny (iv+1)) n6 r
      case' error x=>
       rw[hdo] at he;obtain⟨rfl,hs⟩:=he;refine⟨rfl,?_⟩;show dJ R s c w _ _ _ _;rw[wh.q x hdo];exact⟨rfl,LY.q.jI hs⟩
      case' ok unr=>
       obtain⟨u,n9,r9⟩:=unr;rw[hdo] at he;obtain⟨rfl,q9,c9,tV,Oe⟩:=he;have hkp:=LV _ hdo;have hal:(ny (iv+1)).length<=3:=by rw[hact];have:=uH.q;simp;omega
       have Og:=C tV;have LZ:=C (LY.q.trans Oe);have iw:=C (xH.q.mv Ct.q Oe.same);have HY9:=C (Iy.q _ _ _ hdo);have YL:=C (Oe.bx Dh.q Am.q);have hf2:=YL.q.1 2;have nL:Hid (n9.names.length<=3/\n9.aF.length<=3/\n9.bits=0/\n9.first=false):=C (by have:=Bn.q;exact⟨by omega,by omega,by rw[hkp.1];exact this.1,by rw[hkp.2.1];exact this.2.1⟩);have HRB:Hid (w5.1.size<w9.1.size):=C (YL.q.2.2);have VH:Hid (nY R c9 w5.1.size):=C (Oe.rda Am.q Dh.q.2.2);clear tV Oe hkp hal hdo hact
     case' inr.inr.inl.ok=>
      have hrs:nR (iv+1) n9 r9=(match jS 5 0 0 r9 with| .error x=> .error x| .ok (b,r)=> .ok ((),{n9 with bits:=b},r)):=by unfold nR;rw[ay (by have:=HI0.q;omega)] <;> rfl
      go_wp2_with fail;refine(MV _ Og.q iw.q nL.q.2.2.1).mono ?_;intro e Oh he;have he:dJ R s c9 w9 (λ_:Unit=> .tuple #[]) (nR (iv+1) n9 r9) e Oh:=by rw[hrs];exact he
     case' inr.inr.inr.inr.inl.ok=>
      have hrs:nR (iv+1) n9 r9=(match bW true 40 (40+1) 0 n9.names n9.aF r9 with| .error x=> .error x| .ok (b,r)=> .ok ((),{n9 with names:=b.1,aF:=b.2},r)):=by unfold nR;rw[ak (by have:=HI0.q;omega),ak (by have:=HI0.q;omega),ay (by have:=HI0.q;omega)] <;> rfl
      go_wp2_with fail;refine(FV _ Og.q iw.q 115 40 true (by rfl) (by rfl) aj (by have:=nL.q;omega) (by have:=nL.q;omega)).mono ?_;intro e Oh he;have he:dJ R s c9 w9 (λ_:Unit=> .tuple #[]) (nR (iv+1) n9 r9) e Oh:=by rw[hrs];exact he
     case' inr.inr.inr.inr.inr.inl.ok=>
      have hrs:nR (iv+1) n9 r9=(match bW false 300 (300+1) 0 n9.names n9.aF r9 with| .error x=> .error x| .ok (b,r)=> .ok ((),{n9 with names:=b.1,aF:=b.2},r)):=by unfold nR;rw[ak (by have:=HI0.q;omega),ak (by have:=HI0.q;omega),ak (by have:=HI0.q;omega),ay (by have:=HI0.q;omega)] <;> rfl
      go_wp2_with fail;refine(FV _ Og.q iw.q 116 300 false (by rfl) (by rfl) aj (by have:=nL.q;omega) (by have:=nL.q;omega)).mono ?_;intro e Oh he;have he:dJ R s c9 w9 (λ_:Unit=> .tuple #[]) (nR (iv+1) n9 r9) e Oh:=by rw[hrs];exact he
     case' inr.inr.inr.inl.ok=>
      go_wp2_with fail;refine(YA _ Og.q nL.q.2.2.2).mono ?_;intro e wf he
      cases hfi:kN r9
      case' error x=>
       rw[hfi] at he;obtain⟨rfl,hs⟩:=he;refine⟨rfl,?_⟩;show dJ R s c w _ _ _ _;rw[HY9.q,show nR (iv+1) n9 r9= .error x by unfold nR;rw[ak (by have:=HI0.q;omega),ay (by have:=HI0.q;omega),hfi],J9];exact⟨rfl,LZ.q.jI hs⟩
      case' ok fr=>
       obtain⟨f,rf⟩:=fr;rw[hfi] at he;obtain⟨rfl,qf,cf,hcf,Oi⟩:=he;have HCf:=C hcf;have HMf:=C (LZ.q.trans Oi);have HGf:=C (iw.q.mv Og.q Oi.same);have anz:=C (Oi.bx YL.q VH.q);have hf2:=anz.q.1 2;have hrs:nR (iv+1) n9 r9=(match bW false 300 (300+1) 0 {n9 with first:=f}.names {n9 with first:=f}.aF rf with| .error x=> .error x| .ok (b,r)=> .ok ((),{{n9 with first:=f} with names:=b.1,aF:=b.2},r)):=by unfold nR;rw[ak (by have:=HI0.q;omega),ay (by have:=HI0.q;omega),hfi] <;> rfl
       clear hcf Oi hfi;go_wp2_with fail;refine(FV _ HCf.q HGf.q 109 300 false (by rfl) (by rfl) aj (by have:=nL.q;show n9.names.length<=600;omega) (by have:=nL.q;show n9.aF.length<=600;omega)).mono ?_;intro e Oh he;have he:dJ R s cf wf (λ_:Unit=> .tuple #[]) (nR (iv+1) n9 r9) e Oh:=by rw[hrs];exact he
       have LZ:=C HMf.q
     all_goals
      first
      |have hx:=he
       clear hx
       cases hre:nR (iv+1) n9 r9
       case' error x=>
        rw[hre] at he;obtain⟨rfl,hs⟩:=he;refine⟨rfl,?_⟩;show dJ R s c w _ _ _ _;rw[HY9.q,hre,J9];exact⟨rfl,LZ.q.jI hs⟩
       case' ok unr=>
        obtain⟨u,n9,r9⟩:=unr;rw[hre] at he;obtain⟨rfl,q9,c9,afw,afx⟩:=he;have Og:=C afw;have LZ:=C (LZ.q.trans afx);have HYN:Hid (Y=Df (.ok (u,n9,r9))):=C (by rw[HY9.q,hre]);clear afw afx hre hrs
      |have HYN:Hid (Y=Df (.ok ((),n9,r9))):=C (HY9.q.trans (by unfold nR;rw[ak (by have:=HI0.q;omega),ak (by have:=HI0.q;omega),ak (by have:=HI0.q;omega),ak (by have:=HI0.q;omega)]))
     all_goals
      go_wp2_with fail;refine(Du _ Og.q).mono ?_;intro e wa he
      cases hmo:dU r9
      case' error x=>
       rw[hmo] at he;obtain⟨rfl,hs⟩:=he;refine⟨rfl,?_⟩;show dJ R s c w _ _ _ _;rw[HYN.q,VE hmo];exact⟨rfl,LZ.q.jI hs⟩
      case' ok br=>
       obtain⟨bb,ra⟩:=br;rw[hmo] at he;obtain⟨rfl,qa,hca,hma⟩:=he;have HCa:=C hca;have HMa:=C (LZ.q.trans hma);have FU:=C hmo;have c1:=hca.c1;clear hca hma hmo
       cases bb
       .go_wp2_with fail
        refine bodyPost_end (results_none rfl _ _ _) rfl ?_;show dJ R s c w _ _ _ _;rw[HYN.q,TD FU.q];exact⟨rfl,qa,_,HCa.q,HMa.q⟩
       .go_wp2_with fail
        refine(mJ qa 220 _).mono ?_;rintro e wb ⟨rfl,rfl⟩;refine⟨rfl,?_⟩;show dJ R s c w _ _ _ _;rw[HYN.q,VF FU.q];have:=HCa.q.len;exact⟨by rw[show s.length - ra.length=qa by omega],HMa.q.same⟩
 .go_wp2_with fail
  refine bodyPost_end (results_none rfl _ _ _) rfl ?_;show dJ R s c w _ _ _ _;rw[HY.q];unfold kC;rw[ay hE];exact⟨rfl,q,c,HT3.q,tY.q⟩
def dK (s:Bs)(p:I):aP × I × I:=
 if p<0\/(s.length:I)<p then(Ae,0,2)
 else match wU (s.drop p.toNat) with
  | .ok (n,r)=>(n,((s.length - r.length:Nat):I),0)
  | .error (r,m)=>(Ae,((s.length - r.length:Nat):I),m)
def abH (x:aP × I × I)(w:World)(e:Ending)(w':World):Prop:=
 ∃c:bB,e= .returned (.tuple #[jg c,G F x.2.1,G F x.2.2])/\iB w' w.1.size c x.1/\Below w.1.size w w'
@[reducible] def Cu:bB:=⟨0,E,0,0,0,E,0,0,false,0⟩
theorem Dw (w:World)(B:Nat):iB w B Cu Ae:=⟨⟨rfl,rfl,rfl,rfl,rfl,rfl⟩,Own.fJ _ _ _ _ _,Own.fJ _ _ _ _ _⟩
theorem TF {l r:Bs}(h:dU l= .ok (false,r)):jf r=true:=by
 unfold dU at h
 split at h
 .rename_i h1
  injection h with h;injection h with _ h;rw[<-h];exact h1
 .split at h
  .cases h
  .injection h with h;injection h with h _;cases h
theorem VI {l r:Bs}{n:aP}(h:kC l= .ok (n,r)):jf r=true:=by
 unfold kC at h
 split at h
 .rename_i h1
  injection h with h;injection h with _ h;rw[<-h];exact h1
 .split at h
  .cases h
  .split at h
   .cases h
   .split at h
    .cases h
    .split at h
     .cases h
     .cases h
     .rename_i hm
      injection h with h;injection h with _ h;rw[<-h];exact TF hm
theorem size_alloc (w:World)(o:Obj):(w.alloc o).1.size=w.1.size+1:=by simp
theorem adb {l r:Bs}{n:aP}(h:kC l= .ok (n,r)):
  (uy r).2=0/\(∃t,wU l= .ok (n,t)/\t.length+(uy r).1=r.length)\/(uy r).2≠0/\(∃t,wU l= .error (t,220)/\t.length+(uy r).1=r.length):=by
 have asF:(kW r).length<=r.length:=by unfold kW;split <;> simp
 unfold wU;rw[h];unfold uy;simp only[];by_cases h1:(kW r).head?=E
 .rw[ay h1,ay h1];exact .inl ⟨rfl,[],rfl,by simp⟩
 .rw[ak h1,ak h1]
  by_cases h2:(kW r).head?=H 10
  .rw[ay h2,ay h2]
   refine .inl ⟨rfl,_,rfl,?_⟩;have:1<=(kW r).length:=by
    cases hq:kW r with
    |nil=>rw[hq] at h1;exact absurd rfl h1
    |cons a t=>simp
   simp only[List.length_tail];omega
  .rw[ak h2,ak h2]
   exact .inr ⟨by simp,_,rfl,by simp only[];omega⟩
theorem yh {n:aP}{nx er:I}(tmps:Array Value)(c:bB)(w w':World)(h4:tmps[4]?.getD undef= M (H ⟨w.1.size,0,E⟩))(h5:tmps[5]?.getD undef= M (H ⟨w.1.size+1,0,E⟩))
  (h6:tmps[6]?.getD undef= M (H ⟨w.1.size+1+1,0,E⟩)) (h1:Bx w' w.1.size (kg c)) (h2:Bx w' (w.1.size+1) #[G F nx]) (h3:Bx w' (w.1.size+1+1) #[G F er])
  (hl:iB w' w.1.size c n) (hb:Below w.1.size w w'):Leaves Tryz.prog Tryz.f104 tmps (abH (n,nx,er) w) [] .returning w':=by
 have a0:=h1.1 0;have a1:=h1.1 1;have a2:=h1.1 2;have a3:=h1.1 3;have a4:=h1.1 4;have a5:=h1.1 5;have b0:=h2.1 0;have c0:=h3.1 0;refine⟨.tuple #[jg c,G F nx,G F er],?_,c,rfl,hl,hb⟩;simp[results,results104,go_sem,h4,h5,h6,a0,a1,a2,a3,a4,a5,b0,c0]
theorem VJ (s:Bs)(at_:I)(hlim:s.length<=1000000)(w:World)(hT:Lib.Utf8Tabs 5 6 w)(hE:AP w)(hL:qc w):
  Calls Tryz.prog 104 #[L ⟨s.toArray⟩,G F at_] w (abH (dK s at_) w):=by
 have hz:=iM s;by_cases h0:at_<0
 .have hb0:decide (at_<0)=true:=by simpa using h0
  have hr:dK s at_=(Ae,0,2):=by unfold dK;rw[ay (.inl h0)]
  rw[hr];clear hr h0 hT hE hL
  go_enter_defers func104,ntmps104
  go_wp2_with fail;refine yh _ Cu w _ rfl rfl rfl ?_ ?_ ?_ ?_ ?_
  .exact((Bx.new w #[G F 0,S E 0 0,G F 0,S E 0 0,.bool false,G F 0] 30).alloc _).alloc _
  .have:=(Bx.new (w.alloc (J #[G F 0,S E 0 0,G F 0,S E 0 0,.bool false,G F 0] 30)) #[G F 0] 3).alloc (J #[G F 2] 37)
   rw[size_alloc] at this;exact this
  .have:=Bx.new ((w.alloc (J #[G F 0,S E 0 0,G F 0,S E 0 0,.bool false,G F 0] 30)).alloc (J #[G F 0] 3)) #[G F 2] 37
   rw[size_alloc,size_alloc] at this;exact this
  .exact Dw _ _
  .exact(((O w.1.size w).alloc (aA _) _).alloc au _).alloc (by simp;omega) _
 .have hb0:decide (at_<0)=false:=by simpa using h0
  by_cases h1:(s.length:I)<at_
  .have hb1:decide ((s.length:I)<at_)=true:=by simpa using h1
   have hr:dK s at_=(Ae,0,2):=by unfold dK;rw[ay (.inr h1)]
   rw[hr];clear hr h0 h1 hT hE hL
   go_enter_defers func104,ntmps104
   go_wp2_with fail;refine yh _ Cu w _ rfl rfl rfl ?_ ?_ ?_ ?_ ?_
   .exact((Bx.new w #[G F 0,S E 0 0,G F 0,S E 0 0,.bool false,G F 0] 30).alloc _).alloc _
   .have:=(Bx.new (w.alloc (J #[G F 0,S E 0 0,G F 0,S E 0 0,.bool false,G F 0] 30)) #[G F 0] 3).alloc (J #[G F 2] 37)
    rw[size_alloc] at this;exact this
   .have:=Bx.new ((w.alloc (J #[G F 0,S E 0 0,G F 0,S E 0 0,.bool false,G F 0] 30)).alloc (J #[G F 0] 3)) #[G F 2] 37
    rw[size_alloc,size_alloc] at this;exact this
   .exact Dw _ _
   .exact(((O w.1.size w).alloc (aA _) _).alloc au _).alloc (by simp;omega) _
  .have hb1:decide ((s.length:I)<at_)=false:=by simpa using h1
   obtain⟨p,rfl⟩:∃p:Nat,at_=(p:I):=⟨at_.toNat,by omega⟩;have hp:p<=s.length:=by omega
   have Oi:∀(fn:Fn)(first cap:Array Value)(w:World),(Instr.makeFunc fn first cap).run Tryz.prog w= .ok (.func fn first cap) w:=λ_ _ _ _=>rfl
   clear h0 h1
   go_enter_defers func104,ntmps104
   have hb4:=(((O w.1.size w).alloc (aA _) (J #[G F 0,S E 0 0,G F 0,S E 0 0,.bool false,G F 0] 30)).alloc au (J #[G F 0] 3)).alloc (by simp;omega) (J #[G F 0] 37)|>.alloc (by simp;omega) (J (sZ s p Cu) 185);have hx1:=(((Bx.new w #[G F 0,S E 0 0,G F 0,S E 0 0,.bool false,G F 0] 30).alloc (J #[G F 0] 3)).alloc (J #[G F 0] 37)).alloc (J (sZ s p Cu) 185);have hx2:=((Bx.new (w.alloc (J #[G F 0,S E 0 0,G F 0,S E 0 0,.bool false,G F 0] 30)) #[G F 0] 3).alloc (J #[G F 0] 37)).alloc (J (sZ s p Cu) 185);have hx3:=(Bx.new ((w.alloc (J #[G F 0,S E 0 0,G F 0,S E 0 0,.bool false,G F 0] 30)).alloc (J #[G F 0] 3)) #[G F 0] 37).alloc (J (sZ s p Cu) 185);have hx4:=Bx.new (((w.alloc (J #[G F 0,S E 0 0,G F 0,S E 0 0,.bool false,G F 0] 30)).alloc (J #[G F 0] 3)).alloc (J #[G F 0] 37)) (sZ s p Cu) 185;obtain⟨b,hb⟩:∃b,b=w.1.size:=⟨_,rfl⟩;obtain⟨W4,hW4⟩:∃W4,W4=(((w.alloc (J #[G F 0,S E 0 0,G F 0,S E 0 0,.bool false,G F 0] 30)).alloc (J #[G F 0] 3)).alloc (J #[G F 0] 37)).alloc (J #[L ⟨s.toArray⟩,G F (p:I),G F 0,S E 0 0,G F 0,S E 0 0,.bool false,G F 0] 185):=⟨_,rfl⟩;rw[<-hW4] at hb4 hx1 hx2 hx3 hx4;simp only[size_alloc] at hx2 hx3 hx4;have hgr:vN (w.1.size+1+1+1) W4:=⟨w,by omega,hb4,hT,hE,hL⟩;have hrc:dY W4 (w.1.size+1+1+1) s p (s.drop p) Cu Ae:=⟨hx4,Dw _ _,rfl,hp,hlim⟩;have yO:=C (ada W4 hrc hgr);have HX:=C (⟨hx1,hx2,hx3⟩:_/\_/\_);have HA1:Hid (nY (w.1.size+1+1+1) Cu w.1.size/\nY (w.1.size+1+1+1) Cu (w.1.size+1)/\nY (w.1.size+1+1+1) Cu (w.1.size+1+1)):=C ⟨hrc.old ah,hrc.old ah,hrc.old ah⟩;have fU:=C hb4;have HGR:=C hgr;have VH:=C hrc;have HW4:=C hW4;clear hW4 hx1 hx2 hx3 hx4 hb4 hgr hrc hE hL hb;go_wp2_with fail;rw[<-HW4.q];refine yO.q.mono ?_;intro e w5 he
   cases hrd:kC (s.drop p) with
   |error x=>
    rw[hrd] at he;obtain⟨rfl,hs⟩:=he;have hrl:dK s p=(Ae,((s.length - x.1.length:Nat):I),x.2):=by
     unfold dK wU;rw[ak ah,kS,hrd]
    rw[hrl];refine leaves_cons (f:=130) (args:=#[M (H ⟨w.1.size,0,E⟩),M (H ⟨w.1.size+1,0,E⟩),M (H ⟨w.1.size+1+1,0,E⟩)]) au (by simp[go_sem]) ?_;refine(LG w.1.size ((s.length - x.1.length:Nat):I) x.2 _ _ _ _ _ _ _ _ [] w5 (hs.bx HX.q.1 HA1.q.1) (hs.bx HX.q.2.1 HA1.q.2.1) (hs.bx HX.q.2.2 HA1.q.2.2)).mono ?_;rintro e u' w6 ⟨rfl,rfl,k1,k2,k3,k4⟩;exact yh _ Cu w w6 rfl rfl rfl k1 k2 k3 (Dw _ _) ((hs.below fU.q (λi hi=>VH.q.old ah) fU.q.size).trans k4)
   |ok nr=>
    obtain⟨n,r⟩:=nr;rw[hrd] at he;obtain⟨rfl,p5,c5,pK,FX⟩:=he;have HLO:=C (adb hrd);have jb:=C pK;have Cq:=C FX;have pO:=C (⟨FX.bx HX.q.1 HA1.q.1,FX.bx HX.q.2.1 HA1.q.2.1,FX.bx HX.q.2.2 HA1.q.2.2⟩:_/\_/\_);have Oj:=C (HGR.q.mv VH.q FX.same).tabs;have jv:=C (FX.same.below fU.q (λi hi=>VH.q.old ah) fU.q.size);have c1:=pK.c1;have anA:=C (VI hrd);have asG:=C hrd;clear pK FX hrd;go_wp2_with fail;refine(ae2 s p5 r jb.q.d jb.q.le hlim anA.q w5 Oj.q).mono ?_;rintro e w6 ⟨k,a,t,g,rfl,hb6⟩;have Bj:=C (jb.q.below hb6);have RI:=M7 pO.q hb6;have qb:=C RI;have vX:=C (jv.q.bO hb6);have y1:=RI.2.1.1 0;have y2:=RI.2.2.1 0;have g1:=RI.2.1.2.1 0;have g2:=RI.2.2.2.1 0;obtain⟨er,her⟩:∃er,er=(uy r).2:=⟨_,rfl⟩;obtain⟨nx,hnx⟩:∃nx,nx=p5+(uy r).1:=⟨_,rfl⟩;rw[<-her,<-hnx];rw[<-her] at HLO;have Fa:=C hnx;clear hb6 RI c1 her hnx;obtain⟨V,hV⟩:∃V:World,V=(w6.setCell ⟨w.1.size+1,0,E⟩ (G F (nx:I))).setCell ⟨w.1.size+1+1,0,E⟩ (G F er):=⟨_,rfl⟩;have HV:Hid (Bx V w.1.size #[G F 0,S E 0 0,G F 0,S E 0 0,.bool false,G F 0]/\Bx V (w.1.size+1) #[G F (nx:I)]/\Bx V (w.1.size+1+1) #[G F er]/\dY V (w.1.size+1+1+1) s p5 r c5 n/\Below w.1.size w V):=C (by
     rw[hV];refine⟨(qb.q.1.setOther _ _ _ ah).setOther _ _ _ ah,(qb.q.2.1.aZ 0 au _).setOther _ _ _ ah,(qb.q.2.2.setOther _ _ _ ah).aZ 0 au _,?_,?_⟩
     .have h1:=Bj.q.put (w.1.size+1) 0 (G F (nx:I)) (Bj.q.old ah)
      exact h1.put (w.1.size+1+1) 0 _ (h1.old ah)
     .exact(vX.q.setCell (p:=⟨w.1.size+1,0,E⟩) au _).setCell (p:=⟨w.1.size+1+1,0,E⟩) (by simp;omega) _)
    have NU:=C hV;clear hV;rcases HLO.q with⟨h0,t',hl,htl⟩|⟨h0,t',hl,htl⟩
    .subst h0
     have hrl:dK s p=(n,(nx:I),0):=by
      unfold dK;rw[ak ah,kS,hl];have:=jb.q.len;have:=Fa.q;simp only[show s.length - t'.length=nx by omega]
     have d9:=C hrl;clear hl htl hrl;go_wp2_with fail;rw[<-NU.q];have v1:=HV.q.2.1.1 0;have v2:=HV.q.2.2.1.1 0;have v0:=HV.q.1.1;have k0:=HV.q.1.2.1;have k1:=HV.q.2.1.2.1 0;have k2:=HV.q.2.2.1.2.1 0;have Ol:=HV.q.2.2.2.1.x.1;obtain⟨V2,hV2⟩:∃V2:World,V2=((((((V.setCell ⟨w.1.size,0,E⟩ (G F c5.kind)).setCell ⟨w.1.size,1,E⟩ (S c5.na c5.nn c5.nc)).setCell ⟨w.1.size,2,E⟩ (G F c5.lvl)).setCell ⟨w.1.size,3,E⟩ (S c5.va c5.vn c5.vc)).setCell ⟨w.1.size,4,E⟩ (.bool c5.first)).setCell ⟨w.1.size,5,E⟩ (G F c5.bits)).drew:=⟨_,rfl⟩;have rE:Hid (Bx V2 w.1.size (kg c5)/\Bx V2 (w.1.size+1) #[G F (nx:I)]/\Bx V2 (w.1.size+1+1) #[G F 0]/\dY V2 (w.1.size+1+1+1) s p5 r c5 n/\Below w.1.size w V2):=C (by
      rw[hV2];refine⟨?_,?_,?_,?_,?_⟩
      .exact((((((HV.q.1.aZ 0 au _).aZ 1 au _).aZ 2 au _).aZ 3 au _).aZ 4 au _).aZ 5 au _).drew
      .exact((((((HV.q.2.1.setOther _ 0 _ ah).setOther _ 1 _ ah).setOther _ 2 _ ah).setOther _ 3 _ ah).setOther _ 4 _ ah).setOther _ 5 _ ah).drew
      .exact((((((HV.q.2.2.1.setOther _ 0 _ ah).setOther _ 1 _ ah).setOther _ 2 _ ah).setOther _ 3 _ ah).setOther _ 4 _ ah).setOther _ 5 _ ah).drew
      .have hA:=HV.q.2.2.2.1.old (i:=w.1.size) ah
       exact((((((HV.q.2.2.2.1.put _ 0 _ hA).put _ 1 _ hA).put _ 2 _ hA).put _ 3 _ hA).put _ 4 _ hA).put _ 5 _ hA).drew
      .exact((((((HV.q.2.2.2.2.setCell (p:=⟨w.1.size,0,E⟩) (aA _) _).setCell (p:=⟨w.1.size,1,E⟩) (aA _) _).setCell (p:=⟨w.1.size,2,E⟩) (aA _) _).setCell (p:=⟨w.1.size,3,E⟩) (aA _) _).setCell (p:=⟨w.1.size,4,E⟩) (aA _) _).setCell (p:=⟨w.1.size,5,E⟩) (aA _) _).drew)
     have anB:=C hV2;clear hV2;refine aC 99 [(0,0),(1,0),(2,0),(3,0),(4,0),(5,2),(6,2),(7,2)] (λ_=>True) (λW'=>W'.cell? ⟨w.1.size+1+1+1,2,E⟩=H (G F c5.kind)/\W'.cell? ⟨w.1.size+1+1+1,3,E⟩=H (S c5.na c5.nn c5.nc)/\W'.cell? ⟨w.1.size+1+1+1,4,E⟩=H (G F c5.lvl)/\W'.cell? ⟨w.1.size+1+1+1,5,E⟩=H (S c5.va c5.vn c5.vc)/\W'.cell? ⟨w.1.size+1+1+1,6,E⟩=H (.bool c5.first)/\W'.cell? ⟨w.1.size+1+1+1,7,E⟩=H (G F c5.bits)/\W'.cell? ⟨w.1.size+1,0,E⟩=H (G F (nx:I))) av av (trivial) (⟨Ol 2,Ol 3,Ol 4,Ol 5,Ol 6,Ol 7,v1⟩) ?_;refine qC ?_;refine aD rfl rfl (λK hK=>?_);go_simp;rw[<-anB.q];refine hK _ _ ⟨trivial,rE.q.2.2.2.1.x.1 2,rE.q.2.2.2.1.x.1 3,rE.q.2.2.2.1.x.1 4,rE.q.2.2.2.1.x.1 5,rE.q.2.2.2.1.x.1 6,rE.q.2.2.2.1.x.1 7,rE.q.2.1.1 0⟩ ?_;clear hK K v1 v2 v0 k0 k1 k2 Ol;have v1:=rE.q.2.1.1 0;have v2:=rE.q.2.2.1.1 0;have k1:=rE.q.2.1.2.1 0;have k2:=rE.q.2.2.1.2.1 0;have hr1:=rE.q.2.2.2.1.put (w.1.size+1) 0 (G F (nx:I)) (rE.q.2.2.2.1.old ah);have hr2:=hr1.put (w.1.size+1+1) 0 (G F 0) (hr1.old ah);have hq1:=rE.q.2.1.aZ 0 au (G F (nx:I));have hq2:=hq1.setOther (w.1.size+1+1) 0 (G F 0) ah;have HR1:=C (⟨hr1,hq1⟩:_/\_);have HR2:=C (⟨hr2,hq2⟩:_/\_);clear hr1 hr2 hq1 hq2;refine aD rfl rfl (λK hK=>?_);go_simp;refine hK _ _ ⟨trivial,HR1.q.1.x.1 2,HR1.q.1.x.1 3,HR1.q.1.x.1 4,HR1.q.1.x.1 5,HR1.q.1.x.1 6,HR1.q.1.x.1 7,HR1.q.2.1 0⟩ ?_;clear hK K;refine aD rfl rfl (λK hK=>?_);go_simp;refine hK _ _ ⟨trivial,HR2.q.1.x.1 2,HR2.q.1.x.1 3,HR2.q.1.x.1 4,HR2.q.1.x.1 5,HR2.q.1.x.1 6,HR2.q.1.x.1 7,HR2.q.2.1 0⟩ ?_;clear hK K;refine aJ ?_;go_wp2_with fail;obtain⟨V3,Lx⟩:∃V3:World,V3=(V2.setCell ⟨w.1.size+1,0,E⟩ (G F (nx:I))).setCell ⟨w.1.size+1+1,0,E⟩ (G F 0):=⟨_,rfl⟩;rw[<-Lx];have hfin:Bx V3 w.1.size (kg c5)/\Bx V3 (w.1.size+1) #[G F (nx:I)]/\Bx V3 (w.1.size+1+1) #[G F 0]/\dY V3 (w.1.size+1+1+1) s p5 r c5 n/\Below w.1.size w V3:=by
      rw[Lx];refine⟨(rE.q.1.setOther _ 0 _ ah).setOther _ 0 _ ah,(rE.q.2.1.aZ 0 au _).setOther _ 0 _ ah,(rE.q.2.2.1.setOther _ 0 _ ah).aZ 0 au _,?_,?_⟩
      .have h1:=rE.q.2.2.2.1.put (w.1.size+1) 0 (G F (nx:I)) (rE.q.2.2.2.1.old ah)
       exact h1.put (w.1.size+1+1) 0 _ (h1.old ah)
      .exact(rE.q.2.2.2.2.setCell (p:=⟨w.1.size+1,0,E⟩) au _).setCell (p:=⟨w.1.size+1+1,0,E⟩) (by simp;omega) _
     refine leaves_cons (f:=130) (args:=#[M (H ⟨w.1.size,0,E⟩),M (H ⟨w.1.size+1,0,E⟩),M (H ⟨w.1.size+1+1,0,E⟩)]) au (by simp[go_sem]) ?_;refine(Yn w.1.size V3).mono ?_;rintro e u' w7 ⟨rfl,rfl,rfl⟩;rw[d9.q];exact yh _ c5 w w7 rfl rfl rfl hfin.1 hfin.2.1 hfin.2.2.1 (hfin.2.2.2.1.n.mono ah) hfin.2.2.2.2
    .have hne:(er !=0)=true:=by simpa using h0
     have hrl:dK s p=(Ae,(nx:I),220):=by
      unfold dK;rw[ak ah,kS,hl];have:=jb.q.len;have:=Fa.q;simp only[show s.length - t'.length=nx by omega]
     have d9:=C hrl;clear hl htl hrl;go_wp2_with fail;rw[<-NU.q];refine(mJ nx 220 _).mono ?_;rintro e wb ⟨rfl,rfl⟩;refine leaves_cons (f:=130) (args:=#[M (H ⟨w.1.size,0,E⟩),M (H ⟨w.1.size+1,0,E⟩),M (H ⟨w.1.size+1+1,0,E⟩)]) au (by simp[go_sem]) ?_;refine(LG w.1.size (nx:I) 220 _ _ _ _ _ _ _ _ [] wb HV.q.1 HV.q.2.1 HV.q.2.2.1).mono ?_;rintro e u' w7 ⟨rfl,rfl,k1,k2,k3,k4⟩;rw[d9.q];exact yh _ Cu w w7 rfl rfl rfl k1 k2 k3 (Dw _ _) (HV.q.2.2.2.2.trans k4)
theorem yj (pairs:Bool)(most:Nat):∀(f many:Nat)(ns:List Bs)(vs:List To)(l:Bs){x:List Bs × List To}{r:Bs},bW pairs most f many ns vs l= .ok (x,r)->x.1.length<=ns.length+f/\x.2.length<=vs.length+f
 |0,many,ns,vs,l,x,r,h=>by rw[bW] at h;injection h with h;injection h with h _;subst h;exact⟨aA _,aA _⟩
 |f+1,many,ns,vs,l,x,r,h=>by
  rw[bW] at h
  cases hm:dU l with
  |error y=>rw[hm] at h;cases h
  |ok y=>
   obtain⟨b,r0⟩:=y;rw[hm] at h
   cases b
   .injection h with h;injection h with h _;subst h;exact⟨by simp,by simp⟩
   .simp only[] at h
    by_cases hb:many=most/\dX r0=true
    .rw[ay hb] at h;cases h
    .rw[ak hb] at h
     cases hn:dB r0 with
     |error y=>rw[hn] at h;cases h
     |ok y=>
      obtain⟨nm,r1⟩:=y;rw[hn] at h;simp only[] at h;by_cases hp:pairs=true
      .rw[ay hp] at h
       cases hu:eU r1 with
       |error y=>rw[hu] at h;cases h
       |ok r2=>
        rw[hu] at h;simp only[] at h
        cases hv:gZ r2 with
        |error y=>rw[hv] at h;cases h
        |ok y=>
         obtain⟨v,r3⟩:=y;rw[hv] at h;have:=yj pairs most f (many+1) _ _ _ h;simp only[dH,kT] at this;omega
      .rw[ak hp] at h
       have:=yj pairs most f (many+1) _ _ _ h;simp only[dH,kT] at this;omega
theorem L6:∀(k:Nat)(acc:List Bs)(l:Bs){ns:List Bs}{r:Bs},ku k acc l= .ok (ns,r)->ns.length<=acc.length+k
 |0,acc,l,ns,r,h=>by rw[ku] at h;injection h with h;injection h with h _;subst h;exact aA _
 |k+1,acc,l,ns,r,h=>by
  rw[ku] at h
  cases hm:eU l with
  |error y=>rw[hm] at h;cases h
  |ok r0=>
   rw[hm] at h;simp only[] at h
   cases hn:dB r0 with
   |error y=>rw[hn] at h;cases h
   |ok y=>
    obtain⟨nm,r1⟩:=y;rw[hn] at h;have:=L6 k _ _ h;simp only[dH,kT] at this;omega
theorem YM {k:Nat}{ns:List Bs}{l r:Bs}{n:aP}(h:vz k ns l= .ok (n,r)):n.names.length<=ns.length+301/\n.aF.length<=301:=by
 unfold vz at h;by_cases h1:k=1
 .rw[ay h1] at h
  cases hm:eU l with
  |error y=>rw[hm] at h;cases h
  |ok r0=>
   rw[hm] at h;simp only[] at h
   cases hn:eT oI r0 with
   |error y=>rw[hn] at h;cases h
   |ok y=>rw[hn] at h;injection h with h;injection h with h _;subst h;exact⟨by simp,by simp⟩
 rw[ak h1] at h;by_cases h3:k=3
 .rw[ay h3] at h
  cases hm:eU l with
  |error y=>rw[hm] at h;cases h
  |ok r0=>
   rw[hm] at h;simp only[] at h
   cases hn:gZ r0 with
   |error y=>rw[hn] at h;cases h
   |ok y=>rw[hn] at h;injection h with h;injection h with h _;subst h;exact⟨by simp,by simp⟩
 rw[ak h3] at h;by_cases h9:k=9
 .rw[ay h9] at h
  cases hm:jS 5 0 0 l with
  |error y=>rw[hm] at h;cases h
  |ok y=>rw[hm] at h;injection h with h;injection h with h _;subst h;exact⟨by simp,by simp⟩
 rw[ak h9] at h;by_cases h8:k=8
 .rw[ay h8] at h
  cases hm:kN l with
  |error y=>rw[hm] at h;cases h
  |ok y=>
   obtain⟨f,r0⟩:=y;rw[hm] at h;simp only[] at h
   cases ho:bW false 300 301 0 ns [] r0 with
   |error y=>rw[ho] at h;cases h
   |ok y=>
    obtain⟨⟨a,b⟩,r1⟩:=y;have:=yj _ _ _ _ _ _ _ ho;rw[ho] at h;injection h with h;injection h with h _;subst h;simpa using this
 rw[ak h8] at h;by_cases h4:k=4
 .rw[ay h4] at h
  cases ho:bW true 40 41 0 ns [] l with
  |error y=>rw[ho] at h;cases h
  |ok y=>
   obtain⟨⟨a,b⟩,r1⟩:=y;have:=yj _ _ _ _ _ _ _ ho;rw[ho] at h;injection h with h;injection h with h _;subst h;simp only[mg] at this ⊢;omega
 rw[ak h4] at h;by_cases h7:k=7
 .rw[ay h7] at h
  cases ho:bW false 300 301 0 ns [] l with
  |error y=>rw[ho] at h;cases h
  |ok y=>
   obtain⟨⟨a,b⟩,r1⟩:=y;have:=yj _ _ _ _ _ _ _ ho;rw[ho] at h;injection h with h;injection h with h _;subst h;simpa using this
 rw[ak h7] at h;injection h with h;injection h with h _;subst h;exact⟨by simp,by simp⟩
theorem YN (k:Nat):(cu k).toNat<=2:=by
 match k with
 |0=>decide
 |1=>decide
 |2=>decide
 |3=>decide
 |4=>decide
 |5=>decide
 |6=>decide
 |7=>decide
 |8=>decide
 |k+9=>exact(by decide:(1:I).toNat<=2)
theorem VL {l r:Bs}{n:aP}(h:kC l= .ok (n,r)):n.names.length<=1000/\n.aF.length<=1000:=by
 unfold kC at h;by_cases he:jf (bX l)=true
 .rw[ay he] at h;injection h with h;injection h with h _;subst h;exact⟨by simp,by simp⟩
 rw[ak he] at h
 cases hw:eT nA (bX l) with
 |error y=>rw[hw] at h;cases h
 |ok y=>
  obtain⟨i,r0⟩:=y;rw[hw] at h;simp only[] at h
  cases hn:ku (cu (i+1)).toNat [] r0 with
  |error y=>rw[hn] at h;cases h
  |ok y=>
   obtain⟨ns,r1⟩:=y;rw[hn] at h;simp only[] at h;have h1:=L6 _ _ _ hn;have h2:=YN (i+1);simp only[mg] at h1
   cases ht:vz (i+1) ns r1 with
   |error y=>rw[ht] at h;cases h
   |ok y=>
    obtain⟨s,r2⟩:=y;rw[ht] at h;have h3:=YM ht;simp only[] at h
    cases hm:dU r2 with
    |error y=>rw[hm] at h;cases h
    |ok y=>
     obtain⟨b,r3⟩:=y;rw[hm] at h
     cases b
     .injection h with h;injection h with h _;subst h;omega
     .cases h
theorem TG (s:Bs)(p:I):(dK s p).1.names.length<=1000/\(dK s p).1.aF.length<=1000:=by
 unfold dK;by_cases h:p<0\/(s.length:I)<p
 .rw[ay h];exact⟨by simp,by simp⟩
 rw[ak h]
 cases hl:wU (s.drop p.toNat) with
 |error y=>exact⟨by simp,by simp⟩
 |ok y=>
  obtain⟨n,r⟩:=y;show n.names.length<=1000/\n.aF.length<=1000;unfold wU at hl
  cases hr:kC (s.drop p.toNat) with
  |error y=>rw[hr] at hl;cases hl
  |ok y=>
   obtain⟨n',r'⟩:=y;have:=VL hr;rw[hr] at hl;simp only[] at hl
   split at hl
   .injection hl with hl;injection hl with hl _;subst hl;exact this
   .split at hl
    .injection hl with hl;injection hl with hl _;subst hl;exact this
    .cases hl
end Yd
