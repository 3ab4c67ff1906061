import Derived.Test.YtnhnhmeogckgpaaGreatDoorRdN
set_option linter.all false
set_option maxRecDepth 200000
set_option maxHeartbeats 8000000
namespace Yd
open Bool renaming false→S
open Option renaming none→B,some→I
open Go Go.RowKit Go.Proofs Tryz
open Below renaming refl→F,heap_setCell→J
open Go renaming World→U
open Go.IntKind renaming i64→C
open Go.Obj renaming cells→N
open Go.RowKit renaming Hid→M
open Go.Value renaming string→E,int→G
open Tryz renaming prog→O,underlying9→P
open Yd renaming hid→y
open _root_ renaming Int→H,trivial→L,Nat→Q
theorem dG.apart {w:U} {R p:Q} {s l:Bs} {c:bf} {n:aB} (h:dG w R s p l c n) (b:Q) (hb:kz R c b) (k a:H) (t:Bs) (g:Bool):
  dG ((((w.setCell ⟨b,0,B⟩ (G C k)).setCell ⟨b,1,B⟩ (G C a)).setCell ⟨b,2,B⟩ (E ⟨t.toArray⟩)).setCell ⟨b,3,B⟩ (.bool g)) R s p l c n:=by
 have hs:∀{w:U} (h:dG w R s p l c n) (i:Q) (v:Value),dG (w.setCell ⟨b,i,B⟩ v) R s p l c n:=fun {w} h i v=>
  ⟨h.x.setOther b i v (Ne.symm hb.1),⟨h.n.1,h.n.2.1.block fun g hg=>J _ _ _ _ (by rintro rfl;exact hb.2.1 hg),h.n.2.2.block fun g hg=>J _ _ _ _ (by rintro rfl;exact hb.2.2 hg)⟩,h.d,h.le,h.lim⟩
 exact hs (hs (hs (hs h 0 _) 1 _) 2 _) 3 _
theorem Dc {R p:Q} {s l:Bs} {c:bf} {n:aB} (w:U) (h:dG w R s p l c n) (hT:Lib.Utf8Tabs 6 7 w):
  Calls O 245 #[.pointer (I ⟨R,0,B⟩)] w (kW R s c n w (fun m:Bs=> E ⟨m.toArray⟩) (cu l)):=by
 obtain⟨X,hX⟩:∃X,X=cu l:=⟨_,rfl⟩;rw[←hX];have HX:=y hX;have hlen:=h.len;have hlim:=h.lim;have hle:=h.le;have HE:=y (Df w h);have BX:=fun W (hb:Below w.heap.size w W)=>y (GZ W (h.below hb) (Utf8Tabs_below hT hb))
 have HH:=y h;clear hX h;by_cases hb:gY l=S∧dJ l=true
 ·obtain⟨he,hg⟩:=hb
  have Hz:=fun W (hb:Below w.heap.size w W)=>MW s p l HH.q.d hle hlim hg W (Utf8Tabs_below hT hb)
  have hrl:dF l≤l.length:=qM _ _ _ (Nat.le_refl _);by_cases uH:24<dF l
  ·simp only[if_pos uH] at Hz
   have Vb:=KA (l.take (dF l));obtain⟨q,hq⟩:∃q,q=p+rF (l.take (dF l)):=⟨_,rfl⟩;rw[←hq] at Hz;have HL:=y Hz;have l6:M (cu l= .error (l.drop (rF (l.take (dF l))),220)):=y (by unfold cu;rw[if_neg (by rw[he,hg];decide),if_pos uH]);have HQ:M (s.length - (l.drop (rF (l.take (dF l)))).length=q):=y (by rw[List.length_drop];omega);rw[he] at HE;have HG:=y hg;clear Hz he hg uH Vb hq hT hrl;go_enter func245,ntmps245;go_wp2_with fail;refine HE.q.mono ?_;rintro e w1 ⟨rfl,hb1⟩;have HB1:=y hb1;clear hb1;go_wp2_with fail;refine(BX _ HB1.q).q.mono ?_;rintro e w2 ⟨rfl,hb2⟩;rw[HG.q];have HB2:=y (HB1.q.bD hb2);have bM:=y (HH.q.below HB2.q);have xD:=y (bM.q.new (Nat.le_refl _));have c0:=bM.q.c0;have c1:=bM.q.c1;have z1:=f1 bM.q 1;clear hb2;go_wp2_with fail;refine Ag 99 (.q 0 0 (.q 1 0 (.q 2 0 (.q 3 0 (.q 4 0 (.q 5 0 (.q 6 0 (.q 7 0 (.alt 8 (.q 9 0 (.q 10 0 (.q 11 0 (.q 12 0 (.l 13 (.l 14 (.q 15 0 (.q 16 0 .nil)))))))) 13 (.l 8 (.q 9 0 (.q 10 0 (.q 11 0 (.q 12 0 (.l 14 (.q 15 0 (.q 16 0 .nil))))))))))))))))) (fun _=>True) (fun W'=>W'.cell? ⟨R,0,B⟩=I (E ⟨s.toArray⟩)∧W'.cell? ⟨R,1,B⟩=I (G C p)) au au L ⟨bM.q.drew.c0,bM.q.drew.c1⟩ ?_;refine qT ?_;refine⟨?_,?_⟩
   ·refine yD rfl rfl (fun K hK=>?_)
    go_simp;refine(HL.q _ HB2.q.drew).mono ?_;rintro e w4 ⟨g,rfl,hb4⟩;have hc4:=bM.q.drew.below hb4;have ig:=y hc4;have dL:=y (HB2.q.drew.trans (hb4.mono HB2.q.size));refine hK _ _ ⟨L,hc4.c0,hc4.c1⟩ ?_;clear hK K hb4 hc4 c0 c1 z1;refine qT ?_;refine wJ rfl rfl (fun K hK=>?_);go_simp;refine hK _ _ ⟨L,(ig.q.below (av (F _ _) _)).c0,(ig.q.below (av (F _ _) _)).c1⟩ ?_;clear hK K;refine wJ rfl rfl (fun K hK=>?_);go_simp;refine hK _ _ ⟨L,(ig.q.below (av (F _ _) _)).c0,(ig.q.below (av (F _ _) _)).c1⟩ ?_;clear hK K;refine qT ?_;have iO:=y (ig.q.below (av (F w4.heap.size w4) (N (ay 0 0 [] g) 162)));have dS:=y (av dL.q (N (ay 0 0 [] g) 162));have iF:=y (Bx.new w4 (ay 0 0 [] g) 162);have jv:M (w4.heap.size≠R):=y (by have:=ig.q.x.2.2;omega);refine AR ?_;have c0:=iO.q.c0;have c1:=iO.q.c1;have z1:=f1 iO.q 1;have hty:=iF.q.1;have vI:=y (Mv.of_below (R:=R) (c:=c) dS.q);go_wp2_with fail;refine(fA q 220 _).mono ?_;rintro e w6 ⟨rfl,rfl⟩;refine⟨rfl,?_⟩;show kW R s c n w _ _ _ _;rw[HX.q,l6.q];exact⟨by rw[HQ.q],vI.q.same⟩
   ·refine yD rfl rfl (fun K hK=>?_)
    go_simp;refine hK _ _ ⟨L,(bM.q.drew.below (av (F _ _) _)).c0,(bM.q.drew.below (av (F _ _) _)).c1⟩ ?_;clear hK K;refine wJ rfl rfl (fun K hK=>?_);go_simp;refine(HL.q _ (av HB2.q.drew (N (ay 0 0 [] S) 162))).mono ?_;rintro e w4 ⟨g,rfl,hb4⟩;have hc4:=(bM.q.drew.below (av (F _ _) (N (ay 0 0 [] S) 162))).below hb4;have ig:=y hc4;have dL:=y ((av HB2.q.drew (N (ay 0 0 [] S) 162)).trans (hb4.mono (av HB2.q.drew (N (ay 0 0 [] S) 162)).size));have hy4:Bx w4 w2.heap.size (ay 0 0 [] S):=(Bx.new w2.drew (ay 0 0 [] S) 162).keep hb4;have eY:=y hy4;have jv:M (w2.heap.size≠R):=y (by have:=bM.q.x.2.2;omega);have Fp:M (w.heap.size≤w2.heap.size):=y HB2.q.size;refine hK _ _ ⟨L,hc4.c0,hc4.c1⟩ ?_;clear hK K hb4 hc4 c0 c1 z1 hy4;have hcy:=eY.q.1;have rU:=eY.q.2.1;refine qT ?_;refine wJ rfl rfl (fun K hK=>?_);go_simp;refine hK _ _ ⟨L,((((ig.q.x.other (p:=⟨w2.heap.size,0,B⟩) jv.q.symm _).other (p:=⟨w2.heap.size,1,B⟩) jv.q.symm _).other (p:=⟨w2.heap.size,2,B⟩) jv.q.symm _).other (p:=⟨w2.heap.size,3,B⟩) jv.q.symm _).1 0,((((ig.q.x.other (p:=⟨w2.heap.size,0,B⟩) jv.q.symm _).other (p:=⟨w2.heap.size,1,B⟩) jv.q.symm _).other (p:=⟨w2.heap.size,2,B⟩) jv.q.symm _).other (p:=⟨w2.heap.size,3,B⟩) jv.q.symm _).1 1⟩ ?_;clear hK K hcy rU;refine qT ?_;have iO:=y (ig.q.apart w2.heap.size xD.q 0 0 [] g);have dS:=y ((((dL.q.setCell (p:=⟨w2.heap.size,0,B⟩) Fp.q (G C 0)).setCell (p:=⟨w2.heap.size,1,B⟩) Fp.q (G C 0)).setCell (p:=⟨w2.heap.size,2,B⟩) Fp.q (E ⟨[].toArray⟩)).setCell (p:=⟨w2.heap.size,3,B⟩) Fp.q (.bool g));have iF:=y ((((eY.q.aU 0 ak (G C 0)).aU 1 ak (G C 0)).aU 2 ak (E ⟨[].toArray⟩)).aU 3 ak (.bool g));refine AR ?_;have c0:=iO.q.c0;have c1:=iO.q.c1;have z1:=f1 iO.q 1;have hty:=iF.q.1;have vI:=y (Mv.of_below (R:=R) (c:=c) dS.q);go_wp2_with fail;refine(fA q 220 _).mono ?_;rintro e w6 ⟨rfl,rfl⟩;refine⟨rfl,?_⟩;show kW R s c n w _ _ _ _;rw[HX.q,l6.q];exact⟨by rw[HQ.q],vI.q.same⟩
  ·simp only[if_neg uH] at Hz
   obtain⟨q,hq⟩:∃q,q=p+dF l:=⟨_,rfl⟩;rw[←hq] at Hz;have HL:=y Hz;have l6:M (cu l= .ok (l.take (dF l),l.drop (dF l))):=y (by unfold cu;rw[if_neg (by rw[he,hg];decide),if_neg uH]);have HQ:=y hq;have Dw:=y hrl;rw[he] at HE;have HG:=y hg;clear Hz he hg uH hq hT hrl;go_enter func245,ntmps245;go_wp2_with fail;refine HE.q.mono ?_;rintro e w1 ⟨rfl,hb1⟩;have HB1:=y hb1;clear hb1;go_wp2_with fail;refine(BX _ HB1.q).q.mono ?_;rintro e w2 ⟨rfl,hb2⟩;rw[HG.q];have HB2:=y (HB1.q.bD hb2);have bM:=y (HH.q.below HB2.q);have xD:=y (bM.q.new (Nat.le_refl _));have c0:=bM.q.c0;have c1:=bM.q.c1;have z1:=f1 bM.q 1;clear hb2;go_wp2_with fail;refine Ag 99 (.q 0 0 (.q 1 0 (.q 2 0 (.q 3 0 (.q 4 0 (.q 5 0 (.q 6 0 (.q 7 0 (.alt 8 (.q 9 0 (.q 10 0 (.q 11 0 (.q 12 0 (.l 13 (.l 14 (.q 15 0 (.q 16 0 .nil)))))))) 13 (.l 8 (.q 9 0 (.q 10 0 (.q 11 0 (.q 12 0 (.l 14 (.q 15 0 (.q 16 0 .nil))))))))))))))))) (fun _=>True) (fun W'=>W'.cell? ⟨R,0,B⟩=I (E ⟨s.toArray⟩)∧W'.cell? ⟨R,1,B⟩=I (G C p)) au au L ⟨bM.q.drew.c0,bM.q.drew.c1⟩ ?_;refine qT ?_;refine⟨?_,?_⟩
   ·refine yD rfl rfl (fun K hK=>?_)
    go_simp;refine(HL.q _ HB2.q.drew).mono ?_;rintro e w4 ⟨g,rfl,hb4⟩;have hc4:=bM.q.drew.below hb4;have ig:=y hc4;have dL:=y (HB2.q.drew.trans (hb4.mono HB2.q.size));refine hK _ _ ⟨L,hc4.c0,hc4.c1⟩ ?_;clear hK K hb4 hc4 c0 c1 z1;refine qT ?_;refine wJ rfl rfl (fun K hK=>?_);go_simp;refine hK _ _ ⟨L,(ig.q.below (av (F _ _) _)).c0,(ig.q.below (av (F _ _) _)).c1⟩ ?_;clear hK K;refine wJ rfl rfl (fun K hK=>?_);go_simp;refine hK _ _ ⟨L,(ig.q.below (av (F _ _) _)).c0,(ig.q.below (av (F _ _) _)).c1⟩ ?_;clear hK K;refine qT ?_;have iO:=y (ig.q.below (av (F w4.heap.size w4) (N (ay 1 p (l.take (dF l)) g) 162)));have dS:=y (av dL.q (N (ay 1 p (l.take (dF l)) g) 162));have iF:=y (Bx.new w4 (ay 1 p (l.take (dF l)) g) 162);have jv:M (w4.heap.size≠R):=y (by have:=ig.q.x.2.2;omega);refine AR ?_;have c0:=iO.q.c0;have c1:=iO.q.c1;have z1:=f1 iO.q 1;have hty:=iF.q.1;have vI:=y (Mv.of_below (R:=R) (c:=c) dS.q);have ht:=iO.q.to (dF l) rfl Dw.q q HQ.q;have HT2:=y ht.1;have iq:=y (vI.q.trans ht.2);have mH:=y (iF.q.setOther R 1 (G C (q:H)) jv.q);have ag4:=mH.q.1;clear ht;go_wp2_with fail;go_ret;show kW R s c n w _ _ _ _;rw[HX.q,l6.q];exact⟨rfl,q,HT2.q,iq.q⟩
   ·refine yD rfl rfl (fun K hK=>?_)
    go_simp;refine hK _ _ ⟨L,(bM.q.drew.below (av (F _ _) _)).c0,(bM.q.drew.below (av (F _ _) _)).c1⟩ ?_;clear hK K;refine wJ rfl rfl (fun K hK=>?_);go_simp;refine(HL.q _ (av HB2.q.drew (N (ay 0 0 [] S) 162))).mono ?_;rintro e w4 ⟨g,rfl,hb4⟩;have hc4:=(bM.q.drew.below (av (F _ _) (N (ay 0 0 [] S) 162))).below hb4;have ig:=y hc4;have dL:=y ((av HB2.q.drew (N (ay 0 0 [] S) 162)).trans (hb4.mono (av HB2.q.drew (N (ay 0 0 [] S) 162)).size));have hy4:Bx w4 w2.heap.size (ay 0 0 [] S):=(Bx.new w2.drew (ay 0 0 [] S) 162).keep hb4;have eY:=y hy4;have jv:M (w2.heap.size≠R):=y (by have:=bM.q.x.2.2;omega);have Fp:M (w.heap.size≤w2.heap.size):=y HB2.q.size;refine hK _ _ ⟨L,hc4.c0,hc4.c1⟩ ?_;clear hK K hb4 hc4 c0 c1 z1 hy4;have hcy:=eY.q.1;have rU:=eY.q.2.1;refine qT ?_;refine wJ rfl rfl (fun K hK=>?_);go_simp;refine hK _ _ ⟨L,((((ig.q.x.other (p:=⟨w2.heap.size,0,B⟩) jv.q.symm _).other (p:=⟨w2.heap.size,1,B⟩) jv.q.symm _).other (p:=⟨w2.heap.size,2,B⟩) jv.q.symm _).other (p:=⟨w2.heap.size,3,B⟩) jv.q.symm _).1 0,((((ig.q.x.other (p:=⟨w2.heap.size,0,B⟩) jv.q.symm _).other (p:=⟨w2.heap.size,1,B⟩) jv.q.symm _).other (p:=⟨w2.heap.size,2,B⟩) jv.q.symm _).other (p:=⟨w2.heap.size,3,B⟩) jv.q.symm _).1 1⟩ ?_;clear hK K hcy rU;refine qT ?_;have iO:=y (ig.q.apart w2.heap.size xD.q 1 p (l.take (dF l)) g);have dS:=y ((((dL.q.setCell (p:=⟨w2.heap.size,0,B⟩) Fp.q (G C 1)).setCell (p:=⟨w2.heap.size,1,B⟩) Fp.q (G C p)).setCell (p:=⟨w2.heap.size,2,B⟩) Fp.q (E ⟨(l.take (dF l)).toArray⟩)).setCell (p:=⟨w2.heap.size,3,B⟩) Fp.q (.bool g));have iF:=y ((((eY.q.aU 0 ak (G C 1)).aU 1 ak (G C p)).aU 2 ak (E ⟨(l.take (dF l)).toArray⟩)).aU 3 ak (.bool g));refine AR ?_;have c0:=iO.q.c0;have c1:=iO.q.c1;have z1:=f1 iO.q 1;have hty:=iF.q.1;have vI:=y (Mv.of_below (R:=R) (c:=c) dS.q);have ht:=iO.q.to (dF l) rfl Dw.q q HQ.q;have HT2:=y ht.1;have iq:=y (vI.q.trans ht.2);have mH:=y (iF.q.setOther R 1 (G C (q:H)) jv.q);have ag4:=mH.q.1;clear ht;go_wp2_with fail;go_ret;show kW R s c n w _ _ _ _;rw[HX.q,l6.q];exact⟨rfl,q,HT2.q,iq.q⟩
 ·have l6:M (cu l= .error (l,220)):=y (by
   unfold cu;rw[if_pos]
   ·cases h1:gY l
    ·cases h2:dJ l
     ·rfl
     ·exact absurd ⟨h1,h2⟩ hb
    ·rfl)
  have HN:=y hb;have HQ:M (s.length - l.length=p):=y ah;clear hb hT;go_enter func245,ntmps245;go_wp2_with fail;refine HE.q.mono ?_;rintro e w1 ⟨rfl,hb1⟩;have HB1:=y hb1;have c1:=(HH.q.below hb1).c1;clear hb1
  cases he:gY l
  ·go_wp2_with fail
   refine(BX _ HB1.q).q.mono ?_;rintro e w2 ⟨rfl,hb2⟩;rw[show dJ l=S by cases h2:dJ l;rfl;exact absurd ⟨he,h2⟩ HN.q];have HB2:=y (HB1.q.bD hb2);have c1:=(HH.q.below HB2.q).c1;clear hb2;go_wp2_with fail;refine(fA p 220 _).mono ?_;rintro e w6 ⟨rfl,rfl⟩;refine⟨rfl,?_⟩;show kW R s c n w _ _ _ _;rw[HX.q,l6.q];exact⟨by rw[HQ.q],Same.of_below HB2.q (fun _ _ h=>h)⟩
  ·go_wp2_with fail
   refine(fA p 220 _).mono ?_;rintro e w6 ⟨rfl,rfl⟩;refine⟨rfl,?_⟩;show kW R s c n w _ _ _ _;rw[HX.q,l6.q];exact⟨by rw[HQ.q],Same.of_below HB1.q (fun _ _ h=>h)⟩
@[reducible] def addN (n:aB) (m:Bs):aB:={n with names:=n.names++[m]}
@[reducible] def Xc (c:bf) (a:Option Addr) (k cc:Q):bf:={c with na:=a,nn:=k,nc:=cc}
theorem dG.c3 {w:U} {R p:Q} {s l:Bs} {c:bf} {n:aB} (h:dG w R s p l c n):w.cell? ⟨R,3,B⟩=I (.slice c.na c.nn c.nc):=h.x.1 3
theorem dG.c5 {w:U} {R p:Q} {s l:Bs} {c:bf} {n:aB} (h:dG w R s p l c n):w.cell? ⟨R,5,B⟩=I (.slice c.va c.vn c.vc):=h.x.1 5
theorem dG.addN {w X Y:U} {R p:Q} {s l m:Bs} {c:bf} {n:aB} (h:dG w R s p l c n) (hX:Below w.heap.size w X) (a':Option Addr) (c':Q)
  (hown:Own Y (R+1) 9 1 encStr (.slice a' (c.nn+1) c') (n.names++[m])) (hg:X.grownBy Y (Value.slice c.na c.nn c.nc).ownBlock)
  (hat:(Value.slice a' (c.nn+1) c').ownBlock=(Value.slice c.na c.nn c.nc).ownBlock∨(Value.slice a' (c.nn+1) c').ownBlock=I X.heap.size):
  dG (Y.setCell ⟨R,3,B⟩ (.slice a' (c.nn+1) c')) R s p l (Xc c a' (c.nn+1) c') (addN n m)∧Mv R c (Xc c a' (c.nn+1) c') w (Y.setCell ⟨R,3,B⟩ (.slice a' (c.nn+1) c')):=by
 have Nz:=h.x.2.2;have hsz:=hX.size;have hn1:(Value.slice c.na c.nn c.nc).ownBlock≠I R:=h.n.2.1.far' (.inl ah);have hap:=h.n.2.2.apart h.n.2.1 aj;have hxX:=h.x.keep hX;have hxY:Bx Y R (qg s p c):=hxX.grown hg hn1;have hv:Own Y (R+1) 76 2 mR (.slice c.va c.vn c.vc) n.aF:=(h.n.2.2.below hX rfl).grown hg (fun g hg=>hap g hg);obtain⟨⟨e1,e2,e3,e4,e5,e6⟩,_,_⟩:=h.n;have hXY:Same (kz R c) X Y:=⟨hg.os,hg.tape,hg.output,hg.size,fun i hi hl=>hg.block i hl (fun e=>hi.2.1 e.symm)⟩;refine⟨⟨?_,⟨⟨e1,e2,e3,e4,by simp[e5],e6⟩,?_,?_⟩,h.d,h.le,h.lim⟩,((Same.of_below hX (fun _ _ h=>h)).tr hXY).tr (Same.setCell _ _ _ _ (fun e=>e.1 rfl)),?_,fun _ h=> .inl h⟩
 ·exact hxY.aU 3 ak _
 ·exact hown.block fun g hg=>J _ _ _ _ (by have:=(hown.lt g hg).1;simp;omega)
 ·exact hv.block fun g hg=>J _ _ _ _ (by have:=(hv.lt g hg).1;simp;omega)
 ·intro g hgg
  rcases hat with e|e
  ·exact .inl (e▸hgg)
  ·right
   have:I g=I X.heap.size:=hgg.symm.trans e;injection this with this;omega
@[reducible] def zG (n:aB) (v:To):aB:={n with aF:=n.aF++[v]}
@[reducible] def Xd (c:bf) (a:Option Addr) (k cc:Q):bf:={c with va:=a,vn:=k,vc:=cc}
theorem dG.zG {w X Y:U} {R p:Q} {s l:Bs} {v:To} {c:bf} {n:aB} (h:dG w R s p l c n) (hX:Below w.heap.size w X) (a':Option Addr) (c':Q)
  (hown:Own Y (R+1) 76 2 mR (.slice a' (c.vn+1) c') (n.aF++[v])) (hg:X.grownBy Y (Value.slice c.va c.vn c.vc).ownBlock)
  (hat:(Value.slice a' (c.vn+1) c').ownBlock=(Value.slice c.va c.vn c.vc).ownBlock∨(Value.slice a' (c.vn+1) c').ownBlock=I X.heap.size):
  dG (Y.setCell ⟨R,5,B⟩ (.slice a' (c.vn+1) c')) R s p l (Xd c a' (c.vn+1) c') (zG n v)∧Mv R c (Xd c a' (c.vn+1) c') w (Y.setCell ⟨R,5,B⟩ (.slice a' (c.vn+1) c')):=by
 have Nz:=h.x.2.2;have hsz:=hX.size;have hn1:(Value.slice c.va c.vn c.vc).ownBlock≠I R:=h.n.2.2.far' (.inl ah);have hap:=h.n.2.1.apart h.n.2.2 aj;have hxX:=h.x.keep hX;have hxY:Bx Y R (qg s p c):=hxX.grown hg hn1;have hv:Own Y (R+1) 9 1 encStr (.slice c.na c.nn c.nc) n.names:=(h.n.2.1.below hX rfl).grown hg (fun g hg=>hap g hg);obtain⟨⟨e1,e2,e3,e4,e5,e6⟩,_,_⟩:=h.n;have hXY:Same (kz R c) X Y:=⟨hg.os,hg.tape,hg.output,hg.size,fun i hi hl=>hg.block i hl (fun e=>hi.2.2 e.symm)⟩;refine⟨⟨?_,⟨⟨e1,e2,e3,e4,e5,by simp[e6]⟩,?_,?_⟩,h.d,h.le,h.lim⟩,((Same.of_below hX (fun _ _ h=>h)).tr hXY).tr (Same.setCell _ _ _ _ (fun e=>e.1 rfl)),fun _ h=> .inl h,?_⟩
 ·exact hxY.aU 5 ak _
 ·exact hv.block fun g hg=>J _ _ _ _ (by have:=(hv.lt g hg).1;simp;omega)
 ·exact hown.block fun g hg=>J _ _ _ _ (by have:=(hown.lt g hg).1;simp;omega)
 ·intro g hgg
  rcases hat with e|e
  ·exact .inl (e▸hgg)
  ·right
   have:I g=I X.heap.size:=hgg.symm.trans e;injection this with this;omega
theorem Mk {R p:Q} {s l:Bs} {c:bf} {n:aB} (w:U) (h:dG w R s p l c n) (hT:Lib.Utf8Tabs 6 7 w) (hl:n.names.length≤1000):
  Calls O 219 #[.pointer (I ⟨R,0,B⟩)] w (aX R s c w (fun _:Unit=> .tuple #[]) (match cu l with| .error x=> .error x| .ok (m,r)=> .ok ((),addN n m,r))):=by
 obtain⟨X,hX⟩:∃X:Except Er (Unit × aB × Bs),X=(match cu l with| .error x=> .error x| .ok (m,r)=> .ok ((),addN n m,r)):=⟨_,rfl⟩;rw[←hX];have RES:M (∀ch w',(∃(r:Bs) (m:H),cu l= .error (r,m)∧ch=kJ (s.length - r.length) m∧Same (kz R c) w.drew w')→aX R s c w (fun _:Unit=> .tuple #[]) X (.panicked ch) w'):=y (by
  rintro ch w' ⟨r,m,h1,rfl,h2⟩;rw[hX,h1];exact⟨rfl,h2.os,h2.tape,h2.output,h2.size,h2.block⟩)
 have HX:=y hX;clear hX;have xu:=y (fun W (hb:Below w.heap.size w W)=>Dc W (h.below hb) (Utf8Tabs_below hT hb));obtain⟨i,z,hi,hz,hsize,cZ,hzs⟩:=vT;have HI:=y (⟨hi,hz,hsize,cZ,hzs⟩:_∧_∧_∧_∧_);have HH:=y h;have HB0:M (Below w.heap.size w w.drew):=y ((F _ _).drew);have Fq:M ((Value.slice c.na c.nn c.nc).ownBlock≠I R):=y (h.n.2.1.far' (.inl ah));have hcn:=h.n.1.2.2.2.2.1;have eO:M (n.names.length+1=c.nn+1):=y ah;have dY:M ((c.nn+1)*16≤140737488355328):=y ah;have kX:M (c.nn+1≤maxLen):=y (by unfold maxLen;omega);clear hcn;clear h hT hi hz hsize cZ hzs;go_enter func219,ntmps219;go_wp2_with fail;refine bT 13 [(0,1),(1,1),(2,1),(3,1),(4,1),(5,0),(6,1),(7,2),(8,2),(9,2),(10,1),(11,1),(12,1),(13,2)] (fun _=>True) (fun W'=>W'.cell? ⟨R,3,B⟩=I (.slice c.na c.nn c.nc)) (fun ch w'=>∃(r:Bs) (m:H),cu l= .error (r,m)∧ch=kJ (s.length - r.length) m∧Same (kz R c) w.drew w') au au (fun ch a1 w1 hd hr=>⟨hd,RES.q ch w1 hr⟩) (trivial) (HH.q.drew.c3) ?_;refine qC ?_;refine aD rfl rfl (fun K hK=>?_);go_simp;refine(xu.q _ HB0.q).mono ?_;intro e w2 he
 cases hnm:cu l with
 |error x=>
  rw[hnm] at he;obtain⟨rfl,hs⟩:=he;exact⟨rfl,x.1,x.2,rfl,rfl,hs⟩
 |ok mr=>
 obtain⟨m,r⟩:=mr;rw[hnm] at he;obtain⟨rfl,p2,hc2,hm2⟩:=he;have bM:=y hc2;have iq:=y hm2;have DC:=y hnm;refine hK _ _ ⟨L,hc2.c3⟩ ?_;have uX:M (R+1≤(w2.alloc (N #[E ⟨m.toArray⟩] 9)).heap.size):=y (by have:=hc2.x.2.2;simp;omega);clear hK K hc2 hm2 hnm;refine aD rfl rfl (fun K hK=>?_);go_simp;refine hK _ _ ⟨L,(bM.q.below (av (F _ _) _)).c3⟩ ?_;clear hK K;refine aD rfl rfl (fun K hK=>?_);refine og _ _ 22 rfl i z 16 underlying22 HI.q.1 HI.q.2.1 HI.q.2.2.1 HI.q.2.2.2.1 HI.q.2.2.2.2 rfl (bM.q.n.2.1.alloc _) (I ⟨w2.heap.size,0,B⟩) 1 1 (c.nn+1) [m] rfl (Row.str1 w2 m) eO.q dY.q kX.q uX.q ?_;intro a' c' w3 hown3 hg3 Et;have hx3:=(bM.q.x.keep (av (F _ _) (N #[E ⟨m.toArray⟩] 9))).grown hg3 Fq.q;have HAD:=y (bM.q.addN (av (F _ _) (N #[E ⟨m.toArray⟩] 9)) a' c' hown3 hg3 Et);refine hK _ _ ⟨L,hx3.1 3⟩ ?_;have hc3:=hx3.1 3;have hf3:=hx3.2.1 3;clear hK K hown3 hg3 Et hx3;refine qC ?_;refine eF rfl rfl rfl (fun K hK=>?_);go_simp;refine hK _ _ L ?_;clear hK K;refine jy ?_;go_wp2_with fail;refine bodyPost_end (results_none rfl _ _ _) rfl ?_;show aX R s c w _ _ _ _;rw[HX.q,DC.q];exact⟨rfl,p2,_,HAD.q.1,(Mv.of_below HB0.q).trans (iq.q.trans HAD.q.2)⟩
def rX (R:Q) (w:U):Prop:=∃w0:U,w0.heap.size≤R∧Below w0.heap.size w0 w∧Lib.Utf8Tabs 6 7 w0∧xR w0∧nD w0
theorem rX.tabs {R:Q} {w:U} (h:rX R w):Lib.Utf8Tabs 6 7 w:=let⟨_,_,h2,h3,_⟩:=h;Utf8Tabs_below h3 h2
theorem rX.e {R:Q} {w:U} (h:rX R w):xR w:=let⟨_,_,h2,_,h4,_⟩:=h;h4.below h2
theorem rX.l {R:Q} {w:U} (h:rX R w):nD w:=let⟨_,_,h2,_,_,h5⟩:=h;h5.below h2
theorem rX.below {R:Q} {w w':U} (h:rX R w) (hb:Below w.heap.size w w'):rX R w':=let⟨w0,h1,h2,h3⟩:=h;⟨w0,h1,h2.trans (hb.mono h2.size),h3⟩
theorem rX.mv {R p:Q} {w w':U} {s l:Bs} {c:bf} {n:aB} (h:rX R w) (hc:dG w R s p l c n) (hs:Same (kz R c) w w'):rX R w':=
 let⟨w0,h1,h2,h3⟩:=h;⟨w0,h1,hs.below h2 (fun i hi=>hc.old ah) h2.size,h3⟩
theorem dG.put {w:U} {R p:Q} {s l:Bs} {c:bf} {n:aB} (h:dG w R s p l c n) (b i:Q) (v:Value) (hb:kz R c b):dG (w.setCell ⟨b,i,B⟩ v) R s p l c n:=
 ⟨h.x.setOther b i v (Ne.symm hb.1),⟨h.n.1,h.n.2.1.block fun g hg=>J _ _ _ _ (by rintro rfl;exact hb.2.1 hg),h.n.2.2.block fun g hg=>J _ _ _ _ (by rintro rfl;exact hb.2.2 hg)⟩,h.d,h.le,h.lim⟩
theorem Mv.put {R:Q} {c c':bf} {w Y:U} (h:Mv R c c' w Y) (b i:Q) (v:Value) (hb:w.heap.size≤b):Mv R c c' w (Y.setCell ⟨b,i,B⟩ v):=
 ⟨⟨h.same.os,h.same.tape,h.same.output,Nat.le_trans h.same.size (by simp[World.setCell]),fun j hj hl=>(J _ _ _ _ (by simp;omega)).trans (h.same.block j hj hl)⟩,h.na,h.va⟩
theorem Kl (q:UInt8→Bool):∀l:Bs,∀c∈l.takeWhile q,q c=true
 |[],_,h=>by simp at h
 |a::t,c,h=>by
  rw[List.takeWhile_cons] at h
  cases hq:q a
  ·rw[hq] at h;simp at h
  ·rw[hq,if_pos rfl] at h
   rcases List.mem_cons.1 h with rfl|h
   ·exact hq
   ·exact Kl q t c h
theorem KC (nm:Bs) (l:Bs):((jl l).head?=B∨(jl l).head?=I 45∨(jl l).head?=I 48)∧uS nm l= .error (l,220)∨
  (∃b t,jl l=b::t∧b.toNat≠45∧b.toNat≠48)∧jl l=l.takeWhile iN∧(∀c∈jl l,iN c=true)∧uS nm l=(if 999<qN (jl l) then .error (l,3) else .ok (⟨nm,qN (jl l)⟩,l.drop (jl l).length)):=by
 by_cases h45:l.head?=I 45
 ·obtain⟨t,rfl⟩:∃t,l=45::t:=by cases l with
   |nil=>simp at h45
   |cons a t=>exact⟨t,by simpa using h45⟩
  have hds:(45::t:Bs).takeWhile iN=[]:=by rw[List.takeWhile_cons];rfl
  left
  constructor
  ·unfold jl
   rw[if_pos (show(45::t:Bs).head?=I 45 from rfl)]
   split
   ·exact .inl rfl
   ·exact .inr (.inl rfl)
  ·unfold uS
   simp only[hds];rw[if_pos (.inl rfl)]
 ·have hh:jl l=l.takeWhile iN:=by unfold jl;rw[if_neg h45]
  rw[hh];have hall:∀c∈l.takeWhile iN,iN c=true:=Kl iN l
  cases hd:l.takeWhile iN with
  |nil=>
   left
   refine⟨.inl rfl,?_⟩;unfold uS;simp only[hd];rw[if_pos (.inl rfl)]
  |cons b t=>
   by_cases h48:b=48
   ·left
    subst h48;refine⟨.inr (.inr rfl),?_⟩;unfold uS;simp only[hd];rw[if_pos (.inr rfl)]
   ·right
    rw[hd] at hall;refine⟨⟨b,t,rfl,?_,fun e=>h48 (UInt8.toNat_inj.1 e)⟩,rfl,hall,?_⟩
    ·intro e
     have:=hall b ak;rw[Eu,e] at this;exact absurd this aj
    ·unfold uS
     simp only[hd];rw[if_neg (by simpa using h48)]
theorem dG.drewN {w:U} {R p:Q} {s l:Bs} {c:bf} {n:aB} (h:dG w R s p l c n) (k:Q):dG (w.drewN k) R s p l c n:=⟨h.x,h.n,h.d,h.le,h.lim⟩
theorem Same.Fu {A:Q→Prop} (X:U) (n:Q):Same A X (X.drewN n):=⟨rfl,rfl,rfl,Nat.le_refl _,fun _ _ _=>rfl⟩
theorem Fv {R p:Q} {s l:Bs} {c:bf} {n:aB} (w:U) (h:dG w R s p l c n) (hG:rX R w) (hl:n.aF.length≤1000):
  Calls O 221 #[.pointer (I ⟨R,0,B⟩)] w (aX R s c w (fun _:Unit=> .tuple #[]) (match fq l with| .error x=> .error x| .ok (v,r)=> .ok ((),zG n v,r))):=by
 obtain⟨X,hX⟩:∃X:Except Er (Unit × aB × Bs),X=(match fq l with| .error x=> .error x| .ok (v,r)=> .ok ((),zG n v,r)):=⟨_,rfl⟩;rw[←hX];have HX:=y hX;clear hX;have HEN:=y (fun W (hb:Below w.heap.size w W)=>Df W (h.below hb));have xu:=y (fun W (hb:Below w.heap.size w W)=>Dc W (h.below hb) (hG.below hb).tabs);have HG:=y hG;obtain⟨i,z,hi,hz,hsize,cZ,hzs⟩:=NA;have HI:=y (⟨hi,hz,hsize,cZ,hzs⟩:_∧_∧_∧_∧_);have HH:=y h;have HB0:M (Below w.heap.size w w.drew):=y ((F _ _).drew);have Fq:M ((Value.slice c.va c.vn c.vc).ownBlock≠I R):=y (h.n.2.2.far' (.inl ah));have hcn:=h.n.1.2.2.2.2.2;have eO:M (n.aF.length+1=c.vn+1):=y ah;have dY:M ((c.vn+1)*24≤140737488355328):=y ah;have kX:M (c.vn+1≤maxLen):=y (by unfold maxLen;omega);have hlim:=h.lim;have hlen:=h.len;clear hcn h hG hi hz hsize cZ hzs;by_cases hsg:∃t,l=45::t
 ·obtain⟨t,rfl⟩:=hsg
  have RB:M (gY (45::t)=S):=y (by rw[xS];rfl);have hix:=fun W=>eZ P s p 45 HH.q.at_ W
  have hlt:p<s.length:=by simp at hlen;omega
  have l6:M (X= .ok ((),zG n ⟨[],0⟩,t)):=y (by rw[HX.q];unfold fq;rw[if_pos (show(45::t:Bs).head?=I 45 from rfl)];rfl);go_enter func221,ntmps221;go_wp2_with fail;refine aI 99 [(0,0),(1,2),(2,0),(3,0),(4,0),(5,0),(6,0),(7,0),(8,0),(9,0),(10,0),(11,0),(12,0),(13,0),(14,0)] (fun _=>True) (fun W'=>W'.cell? ⟨R,0,B⟩=I (E ⟨s.toArray⟩)∧W'.cell? ⟨R,1,B⟩=I (G C p)) au au (trivial) (⟨HH.q.drew.c0,HH.q.drew.c1⟩) ?_;refine qC ?_;refine aD rfl rfl (fun K hK=>?_);go_simp;refine(HEN.q _ HB0.q).mono ?_;rintro e w1 ⟨rfl,hb1⟩;have hc1:=HH.q.drew.below hb1;have Bq:=y hc1;have HB1:=y (HB0.q.bD hb1);rw[RB.q];refine hK _ _ ⟨L,hc1.c0,hc1.c1⟩ ?_;clear hK K hb1 hc1;refine qC ?_;refine bn ?_;have HT1:=Bq.q.to 1 rfl ak (p+1) rfl;have HT:=y HT1.1;have HM:=y HT1.2;rw[Int.natCast_add] at HT HM;have c1:=Bq.q.c1;have z1:=f1 Bq.q 1;have c5:=Bq.q.c5;clear HT1;have DN:M ((w1.setCell ⟨R,1,B⟩ (G C ((p:H)+1))).heap.size=w1.heap.size):=y ak;have uX:M (R+1≤((w1.setCell ⟨R,1,B⟩ (G C ((p:H)+1))).alloc (N #[E ⟨([]:Bs).toArray⟩,G C 0] 76)).heap.size):=y (by have:=HT.q.x.2.2;simp at*;omega)
  go_wp2_with (at_builtin;refine dO rfl _ _ 32 rfl i z 24 underlying32 HI.q.1 HI.q.2.1 HI.q.2.2.1 HI.q.2.2.2.1 HI.q.2.2.2.2 rfl (HT.q.n.2.2.alloc _) (I ⟨w1.heap.size,0,B⟩) 1 1 (c.vn+1) [⟨[],0⟩] rfl (Row.toN DN.q ⟨[],0⟩) eO.q dY.q kX.q uX.q ?_;intro a' c' w3 hown3 hg3 Et;have hx3:=(HT.q.x.keep (av (F _ _) (N #[E ⟨([]:Bs).toArray⟩,G C 0] 76))).grown hg3 Fq.q;have HAD:=y (HT.q.zG (av (F _ _) (N #[E ⟨([]:Bs).toArray⟩,G C 0] 76)) a' c' hown3 hg3 Et);have hc3:=hx3.1 5;have hf3:=hx3.2.1 5;clear hown3 hg3 Et hx3)
  refine bodyPost_ret (results_none rfl _ _ _) rfl ?_;show aX R s c w _ _ _ _;rw[l6.q];exact⟨rfl,p+1,_,HAD.q.1,(Mv.of_below HB1.q).trans (HM.q.trans HAD.q.2)⟩
 ·have h45:¬l.head?=I 45:=fun e=>hsg (by cases l with
   |nil=>simp at e
   |cons a t=>exact⟨t,by simp at e;rw[e]⟩)
  have KD:M (∀x,cu l= .error x→(match fq l with| .error x=> .error x| .ok (v,r)=> .ok ((),zG n v,r):Except Er (Unit × aB × Bs))= .error x):=y (fun x hx=>by unfold fq;rw[if_neg h45,hx]);have HVO:M (∀m r,cu l= .ok (m,r)→fq l=if r.head?=I 46 then uS m r.tail else .error (r,220)):=y (fun m r hx=>by unfold fq;rw[if_neg h45,hx]);clear h45
  cases hee:gY l
  ·obtain⟨b0,t0,rfl⟩:∃b0 t0,l=b0::t0:=by cases l with
    |nil=>exact absurd hee aj
    |cons a t=>exact⟨a,t,rfl⟩
   have RB:M (gY (b0::t0)=S):=y hee;have aj5:=fun W=>eZ P s p b0 HH.q.at_ W
   have aj6:p<s.length:=by simp at hlen;omega
   have Vd:((b0.toNat:H)==45)=S:=beq_eq_false_iff_ne.2 (fun e=>hsg ⟨t0,by rw[show b0=45 from UInt8.toNat_inj.1 (by show b0.toNat=45;omega)]⟩);clear hee hsg;go_enter func221,ntmps221;go_wp2_with fail;refine aI 99 [(0,0),(1,2),(2,0),(3,0),(4,0),(5,0),(6,0),(7,0),(8,0),(9,0),(10,0),(11,0),(12,0),(13,0),(14,0)] (fun _=>True) (fun W'=>W'.cell? ⟨R,0,B⟩=I (E ⟨s.toArray⟩)∧W'.cell? ⟨R,1,B⟩=I (G C p)) au au (trivial) (⟨HH.q.drew.c0,HH.q.drew.c1⟩) ?_;refine qC ?_;refine aD rfl rfl (fun K hK=>?_);go_simp;refine(HEN.q _ HB0.q).mono ?_;rintro e w1 ⟨rfl,hb1⟩;have hc1:=HH.q.drew.below hb1;have Bq:=y hc1;have HB1:=y (HB0.q.bD hb1);rw[RB.q];refine hK _ _ ⟨L,hc1.c0,hc1.c1⟩ ?_;clear hK K hb1 hc1;refine qC ?_;refine bn ?_;go_wp2_with fail;refine(xu.q _ HB1.q).mono ?_;intro e w2 he
   cases hnm:cu (b0::t0) with
   |error x=>
    rw[hnm] at he;obtain⟨rfl,hs⟩:=he;refine⟨rfl,?_⟩;show aX R s c w _ _ _ _;rw[HX.q,KD.q x hnm];exact⟨rfl,(Same.of_below HB1.q (fun _ _ h=>h)).tr hs⟩
   |ok mr=>
   obtain⟨m,r⟩:=mr;rw[hnm] at he;obtain⟨rfl,p2,hc2,hm2⟩:=he;have BL:=y (HVO.q m r hnm);have bM:=y hc2;have iq:=y ((Mv.of_below HB1.q).trans hm2);have hcA:=hc2.below (av (F _ _) (N #[E ⟨m.toArray⟩,G C 0] 76));have KE:=y hcA;have Cm:=y (iq.q.trans (Mv.of_below (av (F w2.heap.size w2) (N #[E ⟨m.toArray⟩,G C 0] 76))));have HYA:=y (Bx.new w2 #[E ⟨m.toArray⟩,G C 0] 76);have xD:=y (hc2.new (Nat.le_refl _));have nE:=hc2.len;have c0:=hcA.c0;have c1:=hcA.c1;have z1:=f1 hcA 1;have hz:=fO s;clear hc2 hm2 hcA hnm
   cases hr:r with
   |nil=>
    have hd1:((p2:H)==(s.length:H))=true:=by rw[hr] at nE;simp at nE;simp[nE]
    have l6:M (fq (b0::t0)= .error ([],220)):=y (by rw[BL.q,hr];rfl);have HQ:M (s.length - ([]:Bs).length=p2):=y (by rw[hr] at nE;simp at nE ⊢;omega);clear hr nE
    go_wp2_with (go_quiet (fail))
    refine(fA p2 220 _).mono ?_;rintro e w9 ⟨rfl,rfl⟩;refine⟨rfl,?_⟩;show aX R s c w _ _ _ _;rw[HX.q,l6.q];exact⟨by rw[HQ.q],Cm.q.same.tr (Same.Fu _ _)⟩
   |cons b2 t2=>
   subst hr;have hd1:((p2:H)==(s.length:H))=S:=beq_eq_false_iff_ne.2 (by simp at nE;omega);have Gs:=fun W=>eZ P s p2 b2 KE.q.at_ W
   have HL2:=y nE;by_cases h46:b2=46
   ·subst h46
    have KF:(((46:UInt8).toNat:H)!=46)=S:=rfl;have l6:M (fq (b0::t0)=uS m t2):=y (by rw[BL.q];rfl);have hp2:p2+1≤s.length:=by have:=HL2.q;simp at this;omega
    have hd3:s.drop (p2+1)=t2:=by rw[←List.drop_drop,KE.q.d];rfl
    have hsl2:∀W,(Instr.slice 9 (E ⟨s.toArray⟩) (I (G C ((p2:H)+1))) B B).run O W= .ok (E ⟨t2.toArray⟩) W:=fun W=>by have:=lK P s (p2+1) hp2 W;rw[hd3] at this;exact this
    have KG:=fun W=>y (Gt t2 (by have:=HL2.q;simp at this;omega) W)
    clear hd3;have iD:=KC m t2;have hDl:(jl t2).length≤t2.length:=by unfold jl;split;split;exact Nat.zero_le _;rw[List.length_take];exact Nat.min_le_right _ _;have:=lI iN t2;omega
    revert KG iD hDl;generalize jl t2=D;intro KG iD hDl;have BV:=y hDl;have wV:=y iD;clear hDl iD
    go_wp2_with (go_quiet (fail))
    have HT1:=(KE.q.drewN nq).to 1 rfl ak (p2+1) rfl;have Cn:M (dG (((w2.alloc (N #[E ⟨m.toArray⟩,G C 0] 76)).drewN nq).setCell ⟨R,1,B⟩ (G C ((p2:H)+1))) R s (p2+1) t2 c n):=y HT1.1;have KH:M (Mv R c c w (((w2.alloc (N #[E ⟨m.toArray⟩,G C 0] 76)).drewN nq).setCell ⟨R,1,B⟩ (G C ((p2:H)+1)))):=y ((Cm.q.trans (Mv.of_below (dM (F _ _) nq))).trans HT1.2);have Fw:M (Bx (((w2.alloc (N #[E ⟨m.toArray⟩,G C 0] 76)).drewN nq).setCell ⟨R,1,B⟩ (G C ((p2:H)+1))) w2.heap.size #[E ⟨m.toArray⟩,G C 0]):=y ((HYA.q.drewN nq).setOther R 1 (G C ((p2:H)+1)) (by have:=bM.q.x.2.2;omega));clear HT1 c0 c1 z1 hd1;revert Cn KH Fw;generalize(((w2.alloc (N #[E ⟨m.toArray⟩,G C 0] 76)).drewN nq).setCell ⟨R,1,B⟩ (G C ((p2:H)+1)))=V;intro Cn KH Fw;obtain⟨tb,htb⟩:∃tb,tb=w2.heap.size:=⟨_,rfl⟩;rw[←htb] at Fw xD ⊢;have RD:M (tb≠R):=y (fun e=>xD.q.1 e);have Fx:M (w.heap.size≤tb):=y (by rw[htb];exact iq.q.same.size);clear htb;refine aI 99 [(0,0),(1,0),(2,0),(3,0),(4,0),(5,0),(6,0),(7,0),(8,0),(9,2),(10,0),(11,0),(12,0),(13,0),(14,0)] (fun _=>True) (fun W'=>W'.cell? ⟨R,0,B⟩=I (E ⟨s.toArray⟩)∧W'.cell? ⟨R,1,B⟩=I (G C ((p2:H)+1))) au au (trivial) (⟨Cn.q.drew.c0,Cn.q.drew.c1⟩) ?_;refine qC ?_;refine aD rfl rfl (fun K hK=>?_);go_simp;refine(KG _).q.mono ?_;rintro e w4 ⟨rfl,hb4⟩;have hc4:=Cn.q.drew.below hb4;have ig:=y hc4;have vJ:=y ((KH.q.trans (Mv.of_below (F _ _).drew)).trans (Mv.of_below hb4));have eY:=y (Fw.q.drew.keep hb4);refine hK _ _ ⟨L,hc4.c0,hc4.c1⟩ ?_;clear hK K hb4 hc4;refine qC ?_;refine bn ?_;have c0:=ig.q.c0;have z1:=f1 ig.q 1;have c1:w4.cell? ⟨R,1,B⟩=I (G C ((p2:H)+1)):=ig.q.c1;clear hsl2;rcases wV.q with⟨hbad,Ah⟩|⟨⟨b3,t3,hh,h45,h48⟩,hht,hal,Ah⟩
    ·have wD:=y Ah
     have HQ:M (s.length - t2.length=p2+1):=y (by have:=HL2.q;simp at this;omega);have HF:M (∀W,Calls O 164 #[G C ((p2:H)+1),G C 220] W fun e w'=>e= .panicked (kJ (p2+1) 220)∧w'=W):=y (fun W=>fA (p2+1) 220 W);clear Ah
     cases D with
     |nil=>
      go_wp2_with fail;refine(HF.q _).mono ?_;rintro e w9 ⟨rfl,rfl⟩;refine⟨rfl,?_⟩;show aX R s c w _ _ _ _;rw[HX.q,l6.q,wD.q];exact⟨by rw[HQ.q],vJ.q.same⟩
     |cons b3 t3=>
      have hbb:b3=45∨b3=48:=by simpa using hbad
      have hi0:∀W,(Instr.index 9 (E ⟨(b3::t3).toArray⟩) (G C 0)).run O W= .ok (.int .u8 (b3.toNat:H)) W:=fun W=>eZ P (b3::t3) 0 b3 rfl W
      have hem:((b3::t3)==([]:Bs))=S:=rfl;clear hbad;by_cases h45:b3.toNat=45
      ·have e45:((b3.toNat:H)==45)=true:=by simp[h45]
       clear hbb h45;go_wp2_with fail;refine(HF.q _).mono ?_;rintro e w9 ⟨rfl,rfl⟩;refine⟨rfl,?_⟩;show aX R s c w _ _ _ _;rw[HX.q,l6.q,wD.q];exact⟨by rw[HQ.q],vJ.q.same⟩
      ·have h48:b3.toNat=48:=by rcases hbb with rfl|rfl;exact absurd rfl h45;rfl
       have e45:((b3.toNat:H)==45)=S:=beq_eq_false_iff_ne.2 ah;have e48:((b3.toNat:H)==48)=true:=by simp[h48]
       clear hbb h45 h48;go_wp2_with fail;refine(HF.q _).mono ?_;rintro e w9 ⟨rfl,rfl⟩;refine⟨rfl,?_⟩;show aX R s c w _ _ _ _;rw[HX.q,l6.q,wD.q];exact⟨by rw[HQ.q],vJ.q.same⟩
    ·skip
     clear hht;subst hh;have hne:(b3::t3:Bs)≠[]:=by simp
     have hi0:∀W,(Instr.index 9 (E ⟨(b3::t3).toArray⟩) (G C 0)).run O W= .ok (.int .u8 (b3.toNat:H)) W:=fun W=>eZ P (b3::t3) 0 b3 rfl W
     have e45:((b3.toNat:H)==45)=S:=beq_eq_false_iff_ne.2 ah;have e48:((b3.toNat:H)==48)=S:=beq_eq_false_iff_ne.2 ah;have hem:((b3::t3)==([]:Bs))=S:=rfl;have hzd:=fO (b3::t3);have hle3:=ig.q.len;have hdl:=BV.q;have HAT:=y (NC (b3::t3) hne hal ah w4 ((HG.q.mv HH.q vJ.q.same).e));obtain⟨V,hV⟩:∃V,V=qN (b3::t3):=⟨_,rfl⟩;rw[←hV] at HAT Ah;have wD:=y Ah;have HL3:=y hle3;clear hal Ah h45 h48 hV hle3 hne;go_wp2_with fail;refine HAT.q.mono ?_;rintro e w5 ⟨kk,er,rfl,hb5,hkr⟩;have iO:=y (ig.q.below hb5);have vI:=y (vJ.q.trans (Mv.of_below hb5));have iF:=y (eY.q.keep hb5);have z1:=f1 iO.q 1;have c1:w5.cell? ⟨R,1,B⟩=I (G C ((p2:H)+1)):=iO.q.c1;have oO:M (∀W,Calls O 164 #[G C ((p2:H)+1),G C 3] W fun e w'=>e= .panicked (kJ (p2+1) 3)∧w'=W):=y (fun W=>fA (p2+1) 3 W);have HQ:M (s.length - t2.length=p2+1):=y (by have:=HL2.q;simp at this;omega);clear hb5;rcases hkr with⟨rfl,rfl,hmx⟩|⟨h9,T,pp,rfl⟩
     ·by_cases h9:999<V
      ·have zY:=y h9
       have hd9:decide ((999:H)<(V:H))=true:=decide_eq_true ah;clear h9;go_wp2_with fail;refine(oO.q _).mono ?_;rintro e w9 ⟨rfl,rfl⟩;refine⟨rfl,?_⟩;show aX R s c w _ _ _ _;rw[HX.q,l6.q,wD.q,if_pos zY.q];exact⟨by rw[HQ.q],vI.q.same⟩
      ·have zY:=y h9
       have hd9:decide ((999:H)<(V:H))=S:=decide_eq_false ah;obtain⟨q,hq⟩:∃q,q=p2+1+(b3::t3).length:=⟨_,rfl⟩;have hqi:(p2:H)+1+((b3::t3).length:H)=(q:H):=by omega
       have ag5:(p2:H)+1+((t3.length:H)+1)=(q:H):=by simp at hq;omega
       have Br:q≤2000000:=by have:=HL3.q;omega
       have rR:=iO.q.to (b3::t3).length rfl BV.q q hq;have hcy:=iF.q.1;have rU:=iF.q.2.1;have hn1:¬tb=R:=RD.q;have hn2:¬R=tb:=fun e=>RD.q e.symm
       have qp:=y (rR.1.put tb 1 (G C (V:H)) xD.q);have DR:=y ((vI.q.trans rR.2).put tb 1 (G C (V:H)) Fx.q);have mH:M (Bx ((w5.setCell ⟨R,1,B⟩ (G C (q:H))).setCell ⟨tb,1,B⟩ (G C (V:H))) tb #[E ⟨m.toArray⟩,G C (V:H)]):=y ((iF.q.setOther R 1 (G C (q:H)) hn1).aU 1 ak (G C (V:H)));clear h9 hq rR;go_wp2_with fail;revert qp DR mH;generalize((w5.setCell ⟨R,1,B⟩ (G C (q:H))).setCell ⟨tb,1,B⟩ (G C (V:H)))=Z;intro qp DR mH;clear hcy rU z1 c1;have uX:M (R+1≤(Z.drew.alloc (N #[E ⟨m.toArray⟩,G C (V:H)] 76)).heap.size):=y (by have:=qp.q.x.2.2;simp;omega);refine aI 12 [(0,1),(1,1),(2,1),(3,1),(4,1),(5,0),(6,0),(7,2),(8,2),(9,1),(10,1),(11,1),(12,2)] (fun _=>True) (fun W'=>W'.cell? ⟨R,5,B⟩=I (.slice c.va c.vn c.vc)∧W'.cell? ⟨tb,0,B⟩=I (E ⟨m.toArray⟩)∧W'.cell? ⟨tb,1,B⟩=I (G C (V:H))) au au (trivial) (⟨qp.q.drew.c5,mH.q.drew.1 0,mH.q.drew.1 1⟩) ?_;refine qC ?_;refine aD rfl rfl (fun K hK=>?_);go_simp;refine hK _ _ ⟨L,(qp.q.drew.below (av (F _ _) _)).c5,(mH.q.drew.alloc _).1 0,(mH.q.drew.alloc _).1 1⟩ ?_;clear hK K;refine aD rfl rfl (fun K hK=>?_);refine og _ _ 32 rfl i z 24 underlying32 HI.q.1 HI.q.2.1 HI.q.2.2.1 HI.q.2.2.2.1 HI.q.2.2.2.2 rfl (qp.q.drew.n.2.2.alloc _) (I ⟨Z.heap.size,0,B⟩) 1 1 (c.vn+1) [⟨m,V⟩] rfl (Row.toN rfl ⟨m,V⟩) eO.q dY.q kX.q uX.q ?_;intro a' c' w7 Fy Co KI;have hx7:=(qp.q.drew.x.keep (av (F _ _) (N #[E ⟨m.toArray⟩,G C (V:H)] 76))).grown Co Fq.q;have HAD:=y (qp.q.drew.zG (av (F _ _) (N #[E ⟨m.toArray⟩,G C (V:H)] 76)) a' c' Fy Co KI);have KJ:Bx w7 tb #[E ⟨m.toArray⟩,G C (V:H)]:=(mH.q.drew.alloc _).grown Co xD.q.2.2;refine hK _ _ ⟨L,hx7.1 5,KJ.1 0,KJ.1 1⟩ ?_;have RF:=hx7.1 5;have hf7:=hx7.2.1 5;clear hK K Fy Co KI hx7 KJ;refine qC ?_;refine eF rfl rfl rfl (fun K hK=>?_);go_simp;refine hK _ _ L ?_;clear hK K;refine bn ?_;go_wp2_with fail;refine bodyPost_end (results_none rfl _ _ _) rfl ?_;show aX R s c w _ _ _ _;rw[HX.q,l6.q,wD.q,if_neg zY.q];exact⟨rfl,q,_,HAD.q.1,(DR.q.trans (Mv.of_below (F _ _).drew)).trans HAD.q.2⟩
     ·have zY:=y h9
      clear h9;go_wp2_with fail;refine(oO.q _).mono ?_;rintro e w9 ⟨rfl,rfl⟩;refine⟨rfl,?_⟩;show aX R s c w _ _ _ _;rw[HX.q,l6.q,wD.q,if_pos zY.q];exact⟨by rw[HQ.q],vI.q.same⟩
   ·have KF:((b2.toNat:H)!=46)=true:=bne_iff_ne.2 (fun e=>h46 (UInt8.toNat_inj.1 (by show b2.toNat=46;omega)))
    have l6:M (fq (b0::t0)= .error (b2::t2,220)):=y (by rw[BL.q,if_neg (by simpa using h46)]);have HQ:M (s.length - (b2::t2).length=p2):=y ah;clear h46
    go_wp2_with (go_quiet (fail))
    refine(fA p2 220 _).mono ?_;rintro e w9 ⟨rfl,rfl⟩;refine⟨rfl,?_⟩;show aX R s c w _ _ _ _;rw[HX.q,l6.q];exact⟨by rw[HQ.q],Cm.q.same.tr (Same.Fu _ _)⟩
  ·have RB:M (gY l=true):=y hee
   clear hee hsg;go_enter func221,ntmps221;go_wp2_with fail;refine aI 99 [(0,0),(1,2),(2,0),(3,0),(4,0),(5,0),(6,0),(7,0),(8,0),(9,0),(10,0),(11,0),(12,0),(13,0),(14,0)] (fun _=>True) (fun W'=>W'.cell? ⟨R,0,B⟩=I (E ⟨s.toArray⟩)∧W'.cell? ⟨R,1,B⟩=I (G C p)) au au (trivial) (⟨HH.q.drew.c0,HH.q.drew.c1⟩) ?_;refine qC ?_;refine aD rfl rfl (fun K hK=>?_);go_simp;refine(HEN.q _ HB0.q).mono ?_;rintro e w1 ⟨rfl,hb1⟩;have hc1:=HH.q.drew.below hb1;have Bq:=y hc1;have HB1:=y (HB0.q.bD hb1);rw[RB.q];refine hK _ _ ⟨L,hc1.c0,hc1.c1⟩ ?_;clear hK K hb1 hc1;refine qC ?_;refine bn ?_;go_wp2_with fail;refine(xu.q _ HB1.q).mono ?_;intro e w2 he
   cases hnm:cu l with
   |error x=>
    rw[hnm] at he;obtain⟨rfl,hs⟩:=he;refine⟨rfl,?_⟩;show aX R s c w _ _ _ _;rw[HX.q,KD.q x hnm];exact⟨rfl,(Same.of_below HB1.q (fun _ _ h=>h)).tr hs⟩
   |ok mr=>
   obtain⟨m,r⟩:=mr;rw[hnm] at he;obtain⟨rfl,p2,hc2,hm2⟩:=he;have BL:=y (HVO.q m r hnm);have bM:=y hc2;have iq:=y ((Mv.of_below HB1.q).trans hm2);have hcA:=hc2.below (av (F _ _) (N #[E ⟨m.toArray⟩,G C 0] 76));have KE:=y hcA;have Cm:=y (iq.q.trans (Mv.of_below (av (F w2.heap.size w2) (N #[E ⟨m.toArray⟩,G C 0] 76))));have HYA:=y (Bx.new w2 #[E ⟨m.toArray⟩,G C 0] 76);have xD:=y (hc2.new (Nat.le_refl _));have nE:=hc2.len;have c0:=hcA.c0;have c1:=hcA.c1;have z1:=f1 hcA 1;have hz:=fO s;clear hc2 hm2 hcA hnm
   cases hr:r with
   |nil=>
    have hd1:((p2:H)==(s.length:H))=true:=by rw[hr] at nE;simp at nE;simp[nE]
    have l6:M (fq l= .error ([],220)):=y (by rw[BL.q,hr];rfl);have HQ:M (s.length - ([]:Bs).length=p2):=y (by rw[hr] at nE;simp at nE ⊢;omega);clear hr nE
    go_wp2_with (go_quiet (fail))
    refine(fA p2 220 _).mono ?_;rintro e w9 ⟨rfl,rfl⟩;refine⟨rfl,?_⟩;show aX R s c w _ _ _ _;rw[HX.q,l6.q];exact⟨by rw[HQ.q],Cm.q.same.tr (Same.Fu _ _)⟩
   |cons b2 t2=>
   subst hr;have hd1:((p2:H)==(s.length:H))=S:=beq_eq_false_iff_ne.2 (by simp at nE;omega);have Gs:=fun W=>eZ P s p2 b2 KE.q.at_ W
   have HL2:=y nE;by_cases h46:b2=46
   ·subst h46
    have KF:(((46:UInt8).toNat:H)!=46)=S:=rfl;have l6:M (fq l=uS m t2):=y (by rw[BL.q];rfl);have hp2:p2+1≤s.length:=by have:=HL2.q;simp at this;omega
    have hd3:s.drop (p2+1)=t2:=by rw[←List.drop_drop,KE.q.d];rfl
    have hsl2:∀W,(Instr.slice 9 (E ⟨s.toArray⟩) (I (G C ((p2:H)+1))) B B).run O W= .ok (E ⟨t2.toArray⟩) W:=fun W=>by have:=lK P s (p2+1) hp2 W;rw[hd3] at this;exact this
    have KG:=fun W=>y (Gt t2 (by have:=HL2.q;simp at this;omega) W)
    clear hd3;have iD:=KC m t2;have hDl:(jl t2).length≤t2.length:=by unfold jl;split;split;exact Nat.zero_le _;rw[List.length_take];exact Nat.min_le_right _ _;have:=lI iN t2;omega
    revert KG iD hDl;generalize jl t2=D;intro KG iD hDl;have BV:=y hDl;have wV:=y iD;clear hDl iD
    go_wp2_with (go_quiet (fail))
    have HT1:=(KE.q.drewN nq).to 1 rfl ak (p2+1) rfl;have Cn:M (dG (((w2.alloc (N #[E ⟨m.toArray⟩,G C 0] 76)).drewN nq).setCell ⟨R,1,B⟩ (G C ((p2:H)+1))) R s (p2+1) t2 c n):=y HT1.1;have KH:M (Mv R c c w (((w2.alloc (N #[E ⟨m.toArray⟩,G C 0] 76)).drewN nq).setCell ⟨R,1,B⟩ (G C ((p2:H)+1)))):=y ((Cm.q.trans (Mv.of_below (dM (F _ _) nq))).trans HT1.2);have Fw:M (Bx (((w2.alloc (N #[E ⟨m.toArray⟩,G C 0] 76)).drewN nq).setCell ⟨R,1,B⟩ (G C ((p2:H)+1))) w2.heap.size #[E ⟨m.toArray⟩,G C 0]):=y ((HYA.q.drewN nq).setOther R 1 (G C ((p2:H)+1)) (by have:=bM.q.x.2.2;omega));clear HT1 c0 c1 z1 hd1;revert Cn KH Fw;generalize(((w2.alloc (N #[E ⟨m.toArray⟩,G C 0] 76)).drewN nq).setCell ⟨R,1,B⟩ (G C ((p2:H)+1)))=V;intro Cn KH Fw;obtain⟨tb,htb⟩:∃tb,tb=w2.heap.size:=⟨_,rfl⟩;rw[←htb] at Fw xD ⊢;have RD:M (tb≠R):=y (fun e=>xD.q.1 e);have Fx:M (w.heap.size≤tb):=y (by rw[htb];exact iq.q.same.size);clear htb;refine aI 99 [(0,0),(1,0),(2,0),(3,0),(4,0),(5,0),(6,0),(7,0),(8,0),(9,2),(10,0),(11,0),(12,0),(13,0),(14,0)] (fun _=>True) (fun W'=>W'.cell? ⟨R,0,B⟩=I (E ⟨s.toArray⟩)∧W'.cell? ⟨R,1,B⟩=I (G C ((p2:H)+1))) au au (trivial) (⟨Cn.q.drew.c0,Cn.q.drew.c1⟩) ?_;refine qC ?_;refine aD rfl rfl (fun K hK=>?_);go_simp;refine(KG _).q.mono ?_;rintro e w4 ⟨rfl,hb4⟩;have hc4:=Cn.q.drew.below hb4;have ig:=y hc4;have vJ:=y ((KH.q.trans (Mv.of_below (F _ _).drew)).trans (Mv.of_below hb4));have eY:=y (Fw.q.drew.keep hb4);refine hK _ _ ⟨L,hc4.c0,hc4.c1⟩ ?_;clear hK K hb4 hc4;refine qC ?_;refine bn ?_;have c0:=ig.q.c0;have z1:=f1 ig.q 1;have c1:w4.cell? ⟨R,1,B⟩=I (G C ((p2:H)+1)):=ig.q.c1;clear hsl2;rcases wV.q with⟨hbad,Ah⟩|⟨⟨b3,t3,hh,h45,h48⟩,hht,hal,Ah⟩
    ·have wD:=y Ah
     have HQ:M (s.length - t2.length=p2+1):=y (by have:=HL2.q;simp at this;omega);have HF:M (∀W,Calls O 164 #[G C ((p2:H)+1),G C 220] W fun e w'=>e= .panicked (kJ (p2+1) 220)∧w'=W):=y (fun W=>fA (p2+1) 220 W);clear Ah
     cases D with
     |nil=>
      go_wp2_with fail;refine(HF.q _).mono ?_;rintro e w9 ⟨rfl,rfl⟩;refine⟨rfl,?_⟩;show aX R s c w _ _ _ _;rw[HX.q,l6.q,wD.q];exact⟨by rw[HQ.q],vJ.q.same⟩
     |cons b3 t3=>
      have hbb:b3=45∨b3=48:=by simpa using hbad
      have hi0:∀W,(Instr.index 9 (E ⟨(b3::t3).toArray⟩) (G C 0)).run O W= .ok (.int .u8 (b3.toNat:H)) W:=fun W=>eZ P (b3::t3) 0 b3 rfl W
      have hem:((b3::t3)==([]:Bs))=S:=rfl;clear hbad;by_cases h45:b3.toNat=45
      ·have e45:((b3.toNat:H)==45)=true:=by simp[h45]
       clear hbb h45;go_wp2_with fail;refine(HF.q _).mono ?_;rintro e w9 ⟨rfl,rfl⟩;refine⟨rfl,?_⟩;show aX R s c w _ _ _ _;rw[HX.q,l6.q,wD.q];exact⟨by rw[HQ.q],vJ.q.same⟩
      ·have h48:b3.toNat=48:=by rcases hbb with rfl|rfl;exact absurd rfl h45;rfl
       have e45:((b3.toNat:H)==45)=S:=beq_eq_false_iff_ne.2 ah;have e48:((b3.toNat:H)==48)=true:=by simp[h48]
       clear hbb h45 h48;go_wp2_with fail;refine(HF.q _).mono ?_;rintro e w9 ⟨rfl,rfl⟩;refine⟨rfl,?_⟩;show aX R s c w _ _ _ _;rw[HX.q,l6.q,wD.q];exact⟨by rw[HQ.q],vJ.q.same⟩
    ·skip
     clear hht;subst hh;have hne:(b3::t3:Bs)≠[]:=by simp
     have hi0:∀W,(Instr.index 9 (E ⟨(b3::t3).toArray⟩) (G C 0)).run O W= .ok (.int .u8 (b3.toNat:H)) W:=fun W=>eZ P (b3::t3) 0 b3 rfl W
     have e45:((b3.toNat:H)==45)=S:=beq_eq_false_iff_ne.2 ah;have e48:((b3.toNat:H)==48)=S:=beq_eq_false_iff_ne.2 ah;have hem:((b3::t3)==([]:Bs))=S:=rfl;have hzd:=fO (b3::t3);have hle3:=ig.q.len;have hdl:=BV.q;have HAT:=y (NC (b3::t3) hne hal ah w4 ((HG.q.mv HH.q vJ.q.same).e));obtain⟨V,hV⟩:∃V,V=qN (b3::t3):=⟨_,rfl⟩;rw[←hV] at HAT Ah;have wD:=y Ah;have HL3:=y hle3;clear hal Ah h45 h48 hV hle3 hne;go_wp2_with fail;refine HAT.q.mono ?_;rintro e w5 ⟨kk,er,rfl,hb5,hkr⟩;have iO:=y (ig.q.below hb5);have vI:=y (vJ.q.trans (Mv.of_below hb5));have iF:=y (eY.q.keep hb5);have z1:=f1 iO.q 1;have c1:w5.cell? ⟨R,1,B⟩=I (G C ((p2:H)+1)):=iO.q.c1;have oO:M (∀W,Calls O 164 #[G C ((p2:H)+1),G C 3] W fun e w'=>e= .panicked (kJ (p2+1) 3)∧w'=W):=y (fun W=>fA (p2+1) 3 W);have HQ:M (s.length - t2.length=p2+1):=y (by have:=HL2.q;simp at this;omega);clear hb5;rcases hkr with⟨rfl,rfl,hmx⟩|⟨h9,T,pp,rfl⟩
     ·by_cases h9:999<V
      ·have zY:=y h9
       have hd9:decide ((999:H)<(V:H))=true:=decide_eq_true ah;clear h9;go_wp2_with fail;refine(oO.q _).mono ?_;rintro e w9 ⟨rfl,rfl⟩;refine⟨rfl,?_⟩;show aX R s c w _ _ _ _;rw[HX.q,l6.q,wD.q,if_pos zY.q];exact⟨by rw[HQ.q],vI.q.same⟩
      ·have zY:=y h9
       have hd9:decide ((999:H)<(V:H))=S:=decide_eq_false ah;obtain⟨q,hq⟩:∃q,q=p2+1+(b3::t3).length:=⟨_,rfl⟩;have hqi:(p2:H)+1+((b3::t3).length:H)=(q:H):=by omega
       have ag5:(p2:H)+1+((t3.length:H)+1)=(q:H):=by simp at hq;omega
       have Br:q≤2000000:=by have:=HL3.q;omega
       have rR:=iO.q.to (b3::t3).length rfl BV.q q hq;have hcy:=iF.q.1;have rU:=iF.q.2.1;have hn1:¬tb=R:=RD.q;have hn2:¬R=tb:=fun e=>RD.q e.symm
       have qp:=y (rR.1.put tb 1 (G C (V:H)) xD.q);have DR:=y ((vI.q.trans rR.2).put tb 1 (G C (V:H)) Fx.q);have mH:M (Bx ((w5.setCell ⟨R,1,B⟩ (G C (q:H))).setCell ⟨tb,1,B⟩ (G C (V:H))) tb #[E ⟨m.toArray⟩,G C (V:H)]):=y ((iF.q.setOther R 1 (G C (q:H)) hn1).aU 1 ak (G C (V:H)));clear h9 hq rR;go_wp2_with fail;revert qp DR mH;generalize((w5.setCell ⟨R,1,B⟩ (G C (q:H))).setCell ⟨tb,1,B⟩ (G C (V:H)))=Z;intro qp DR mH;clear hcy rU z1 c1;have uX:M (R+1≤(Z.drew.alloc (N #[E ⟨m.toArray⟩,G C (V:H)] 76)).heap.size):=y (by have:=qp.q.x.2.2;simp;omega);refine aI 12 [(0,1),(1,1),(2,1),(3,1),(4,1),(5,0),(6,0),(7,2),(8,2),(9,1),(10,1),(11,1),(12,2)] (fun _=>True) (fun W'=>W'.cell? ⟨R,5,B⟩=I (.slice c.va c.vn c.vc)∧W'.cell? ⟨tb,0,B⟩=I (E ⟨m.toArray⟩)∧W'.cell? ⟨tb,1,B⟩=I (G C (V:H))) au au (trivial) (⟨qp.q.drew.c5,mH.q.drew.1 0,mH.q.drew.1 1⟩) ?_;refine qC ?_;refine aD rfl rfl (fun K hK=>?_);go_simp;refine hK _ _ ⟨L,(qp.q.drew.below (av (F _ _) _)).c5,(mH.q.drew.alloc _).1 0,(mH.q.drew.alloc _).1 1⟩ ?_;clear hK K;refine aD rfl rfl (fun K hK=>?_);refine og _ _ 32 rfl i z 24 underlying32 HI.q.1 HI.q.2.1 HI.q.2.2.1 HI.q.2.2.2.1 HI.q.2.2.2.2 rfl (qp.q.drew.n.2.2.alloc _) (I ⟨Z.heap.size,0,B⟩) 1 1 (c.vn+1) [⟨m,V⟩] rfl (Row.toN rfl ⟨m,V⟩) eO.q dY.q kX.q uX.q ?_;intro a' c' w7 Fy Co KI;have hx7:=(qp.q.drew.x.keep (av (F _ _) (N #[E ⟨m.toArray⟩,G C (V:H)] 76))).grown Co Fq.q;have HAD:=y (qp.q.drew.zG (av (F _ _) (N #[E ⟨m.toArray⟩,G C (V:H)] 76)) a' c' Fy Co KI);have KJ:Bx w7 tb #[E ⟨m.toArray⟩,G C (V:H)]:=(mH.q.drew.alloc _).grown Co xD.q.2.2;refine hK _ _ ⟨L,hx7.1 5,KJ.1 0,KJ.1 1⟩ ?_;have RF:=hx7.1 5;have hf7:=hx7.2.1 5;clear hK K Fy Co KI hx7 KJ;refine qC ?_;refine eF rfl rfl rfl (fun K hK=>?_);go_simp;refine hK _ _ L ?_;clear hK K;refine bn ?_;go_wp2_with fail;refine bodyPost_end (results_none rfl _ _ _) rfl ?_;show aX R s c w _ _ _ _;rw[HX.q,l6.q,wD.q,if_neg zY.q];exact⟨rfl,q,_,HAD.q.1,(DR.q.trans (Mv.of_below (F _ _).drew)).trans HAD.q.2⟩
     ·have zY:=y h9
      clear h9;go_wp2_with fail;refine(oO.q _).mono ?_;rintro e w9 ⟨rfl,rfl⟩;refine⟨rfl,?_⟩;show aX R s c w _ _ _ _;rw[HX.q,l6.q,wD.q,if_pos zY.q];exact⟨by rw[HQ.q],vI.q.same⟩
   ·have KF:((b2.toNat:H)!=46)=true:=bne_iff_ne.2 (fun e=>h46 (UInt8.toNat_inj.1 (by show b2.toNat=46;omega)))
    have l6:M (fq l= .error (b2::t2,220)):=y (by rw[BL.q,if_neg (by simpa using h46)]);have HQ:M (s.length - (b2::t2).length=p2):=y ah;clear h46
    go_wp2_with (go_quiet (fail))
    refine(fA p2 220 _).mono ?_;rintro e w9 ⟨rfl,rfl⟩;refine⟨rfl,?_⟩;show aX R s c w _ _ _ _;rw[HX.q,l6.q];exact⟨by rw[HQ.q],Cm.q.same.tr (Same.Fu _ _)⟩
theorem Own.ag6 {X:U} {g:Q} (h:X.heap.size=g) (l:List Bs) (hl:l.length≤maxLen):Own (X.alloc (N (l.map (fun s=>Value.string ⟨s.toArray⟩)).toArray 9)) g 9 1 encStr (.slice (I ⟨g,0,B⟩) l.length l.length) l:=by
 subst h;exact Own.new (hc:=kQ) X X.heap.size 9 _ l (Nat.le_refl _) (by
  show l.map (fun s=>Value.string ⟨s.toArray⟩)=l.flatMap encStr
  induction l with
  |nil=>rfl
  |cons a l ih=>rw[List.map_cons,List.flatMap_cons,ih (by simp at hl;omega)];rfl) hl
theorem dG.AU {w:U} {R p:Q} {s l:Bs} {c:bf} {n:aB} (h:dG w R s p l c n) (i:Q) (v:Value) (c':bf) (n':aB) (hi:i<8) (hc:(qg s p c).setIfInBounds i v=qg s p c')
  (h1:c'.na=c.na∧c'.nn=c.nn∧c'.nc=c.nc∧c'.va=c.va∧c'.vn=c.vn∧c'.vc=c.vc) (h2:n'.names=n.names∧n'.aF=n.aF) (h3:c'.kind=n'.kind∧c'.lvl=n'.lvl∧c'.first=n'.first∧c'.bits=n'.bits):
  dG (w.setCell ⟨R,i,B⟩ v) R s p l c' n'∧Mv R c c' w (w.setCell ⟨R,i,B⟩ v):=by
 obtain⟨e1,e2,e3,e4,e5,e6⟩:=h1;obtain⟨⟨_,_,_,_,l1,l2⟩,o1,o2⟩:=h.n;have hx:=h.x.aU i (by simpa using hi) v;rw[hc] at hx;refine⟨⟨hx,⟨⟨h3.1,h3.2.1,h3.2.2.1,h3.2.2.2,by rw[e2,h2.1];exact l1,by rw[e5,h2.2];exact l2⟩,?_,?_⟩,h.d,h.le,h.lim⟩,Same.setCell _ _ _ _ (fun e=>e.1 rfl),?_,?_⟩
 ·rw[e1,e2,e3,h2.1];exact o1.block fun g hg=>J _ _ _ _ (by have:=(o1.lt g hg).1;simp;omega)
 ·rw[e4,e5,e6,h2.2];exact o2.block fun g hg=>J _ _ _ _ (by have:=(o2.lt g hg).1;simp;omega)
 ·rw[e1,e2,e3];exact fun _ h=> .inl h
 ·rw[e4,e5,e6];exact fun _ h=> .inl h
theorem H8:(∀x∈mF,x.length≤100)∧(∀x∈mF,(128:UInt8)∉x):=by decide
theorem Ve {R p:Q} {s l:Bs} {c:bf} {n:aB} (w:U) (h:dG w R s p l c n):
  Calls O 220 #[.pointer (I ⟨R,0,B⟩)] w (aX R s c w (fun _:Unit=> .tuple #[]) (match dH mF l with| .error x=> .error x| .ok (i,r)=> .ok ((),{n with lvl:=1+(i:H)},r))):=by
 obtain⟨X,hX⟩:∃X:Except Er (Unit × aB × Bs),X=(match dH mF l with| .error x=> .error x| .ok (i,r)=> .ok ((),{n with lvl:=1+(i:H)},r)):=⟨_,rfl⟩;rw[←hX];have HX:=y hX;have hbl:=av (F w.heap.size w) (N #[E ⟨#[49]⟩,E ⟨#[50]⟩,E ⟨#[50,46,57,57]⟩,E ⟨#[51]⟩] 9);have Bt:=y hbl;have HW:=y (Gu _ (h.below hbl) (I ⟨w.heap.size,0,B⟩) 4 4 mF ((Own.ag6 rfl mF aj).row aj) aj H8.1 H8.2);clear hX h hbl;go_enter func220,ntmps220;go_wp2_with fail;refine HW.q.mono ?_;intro e w1 he
 cases hm:dH mF l with
 |error x=>
  rw[hm] at he;obtain⟨rfl,hs⟩:=he;refine⟨rfl,?_⟩;show aX R s c w _ _ _ _;rw[HX.q,hm];exact⟨rfl,(Same.of_below Bt.q (fun _ _ h=>h)).tr hs⟩
 |ok ir=>
  obtain⟨i,r⟩:=ir;rw[hm] at he;obtain⟨rfl,q,hc,hmv⟩:=he;have hi:i<4:=by
   unfold dH at hm
   split at hm
   ·rename_i j hj
    injection hm with hm;injection hm with hm _;have:=(List.findIdx?_eq_some_iff_getElem.1 hj).1;subst hm;exact this
   ·cases hm
  have HC:=y hc;have HM:=y ((Mv.of_below Bt.q).trans hmv);have HMX:=y hm;have hx4:=hc.x.1 4;have z4:=f1 hc 4;clear hc hmv hm;go_wp2_with fail;refine bodyPost_end (results_none rfl _ _ _) rfl ?_;show aX R s c w _ _ _ _;rw[HX.q,HMX.q];have:=HC.q.AU 4 (G C (1+(i:H))) {c with lvl:=1+(i:H)} {n with lvl:=1+(i:H)} aj rfl ⟨rfl,rfl,rfl,rfl,rfl,rfl⟩ ⟨rfl,rfl⟩ ⟨HC.q.n.1.1,rfl,HC.q.n.1.2.2.1,HC.q.n.1.2.2.2.1⟩;exact⟨rfl,q,_,this.1,HM.q.trans this.2⟩
theorem Vf {l r:Bs} {b:Bool} (h:cO l= .ok (b,r)):r=bL l:=by
 unfold cO at h
 split at h
 ·injection h with h;injection h with _ h;exact h.symm
 ·split at h
  ·cases h
  ·injection h with h;injection h with _ h;exact h.symm
theorem RG {l r:Bs} (h:cO l= .ok (true,r)):gY r=S:=by
 have e:=Vf h;unfold cO at h
 split at h
 ·injection h with h;injection h with h _;cases h
 ·rename_i h1;rw[e];simpa using h1
theorem Vg {R p:Q} {s l:Bs} {c:bf} {n:aB} (w:U) (h:dG w R s p l c n) (hn:n.first=S):
  Calls O 224 #[.pointer (I ⟨R,0,B⟩)] w (aX R s c w (fun _:Unit=> .tuple #[]) (match jF l with| .error x=> .error x| .ok (f,r)=> .ok ((),{n with first:=f},r))):=by
 obtain⟨X,hX⟩:∃X:Except Er (Unit × aB × Bs),X=(match jF l with| .error x=> .error x| .ok (f,r)=> .ok ((),{n with first:=f},r)):=⟨_,rfl⟩;rw[←hX];have nG:=y (fun W (hb:Below w.heap.size w W)=>oF W (h.below hb));have HH:=y h;have HB0:M (Below w.heap.size w w.drew):=y ((F _ _).drew);have c0:=h.c0;have c1:=h.c1;have z1:=f1 h 1;have hlen:=h.len;have hlim:=h.lim;have HFN:M ({n with first:=false}=n):=y (by rw[←hn]);have HD:=y h.d;clear h hn
 cases hm:cO l with
 |error x=>
  have HX:M (X= .error x):=y (by rw[hX];unfold jF;rw[hm]);have Cq:=y hm;have RES:M (∀ch w',(ch=kJ (s.length - x.1.length) x.2∧Same (kz R c) w.drew w')→aX R s c w (fun _:Unit=> .tuple #[]) X (.panicked ch) w'):=y (by
   rintro ch w' ⟨rfl,h2⟩;rw[HX.q];exact⟨rfl,h2.os,h2.tape,h2.output,h2.size,h2.block⟩)
  clear hX hm;go_enter func224,ntmps224;go_wp2_with fail;refine bT 99 [(0,0),(1,2),(2,0),(3,0),(4,0),(5,0),(6,0),(7,0),(8,0),(9,0),(10,0),(11,0),(12,0),(13,0)] (fun _=>True) (fun W'=>W'.cell? ⟨R,0,B⟩=I (E ⟨s.toArray⟩)) (fun ch w'=>ch=kJ (s.length - x.1.length) x.2∧Same (kz R c) w.drew w') au au (fun ch a1 w1 hd hr=>⟨hd,RES.q ch w1 hr⟩) (trivial) (c0) ?_;refine qC ?_;refine aD rfl rfl (fun K hK=>?_);go_simp;refine(nG.q _ HB0.q).mono ?_;intro e w2 he;rw[Cq.q] at he;obtain⟨rfl,hs⟩:=he;exact⟨rfl,rfl,hs⟩
 |ok br=>
  obtain⟨b,r⟩:=br
  cases b with
  |false=>
   have HX:M (X= .ok ((),{n with first:=false},l)):=y (by rw[hX];unfold jF;rw[hm]);have Cq:=y hm;clear hX hm;go_enter func224,ntmps224;go_wp2_with fail;refine aI 99 [(0,0),(1,2),(2,0),(3,0),(4,0),(5,0),(6,0),(7,0),(8,0),(9,0),(10,0),(11,0),(12,0),(13,0)] (fun _=>True) (fun W'=>W'.cell? ⟨R,0,B⟩=I (E ⟨s.toArray⟩)) au au (trivial) (c0) ?_;refine qC ?_;refine aD rfl rfl (fun K hK=>?_);go_simp;refine(nG.q _ HB0.q).mono ?_;intro e w2 he;rw[Cq.q] at he;obtain⟨rfl,q,hc2,hm2⟩:=he;have bM:=y hc2;have iq:=y ((Mv.of_below HB0.q).trans hm2);refine hK _ _ ⟨L,hc2.c0⟩ ?_;have hq1:=hc2.c1;have hzq:=f1 hc2 1;clear hK K hc2 hm2 c0 c1 z1;refine qC ?_;refine bn ?_;go_wp2_with fail;refine bodyPost_end (results_none rfl _ _ _) rfl ?_;show aX R s c w _ _ _ _;rw[HX.q,HFN.q];have hx:=bM.q.x.aU 1 ak (G C (p:H));exact⟨rfl,p,c,⟨hx,⟨bM.q.n.1,bM.q.n.2.1.block fun g hg=>J _ _ _ _ (by have:=(bM.q.n.2.1.lt g hg).1;simp;omega),bM.q.n.2.2.block fun g hg=>J _ _ _ _ (by have:=(bM.q.n.2.2.lt g hg).1;simp;omega)⟩,HD.q,by omega,hlim⟩,iq.q.trans ⟨Same.setCell _ _ _ _ (fun e=>e.1 rfl),fun _ h=> .inl h,fun _ h=> .inl h⟩⟩
  |true=>
   have hee:=RG hm;obtain⟨b0,t0,rfl⟩:∃b0 t0,r=b0::t0:=by cases r with
    |nil=>exact absurd hee aj
    |cons a t=>exact⟨a,t,rfl⟩
   by_cases h45:b0=45
   ·subst h45
    have HX:M (X= .ok ((),{n with first:=true},t0)):=y (by rw[hX];unfold jF;rw[hm];simp only[];rw[if_pos (show(45::t0:Bs).head?=I 45 from rfl)];rfl);have Cq:=y hm;clear hX hm hee;go_enter func224,ntmps224;go_wp2_with fail;refine aI 99 [(0,0),(1,2),(2,0),(3,0),(4,0),(5,0),(6,0),(7,0),(8,0),(9,0),(10,2),(11,0),(12,0),(13,0)] (fun _=>True) (fun W'=>W'.cell? ⟨R,0,B⟩=I (E ⟨s.toArray⟩)) au au (trivial) (c0) ?_;refine qC ?_;refine aD rfl rfl (fun K hK=>?_);go_simp;refine(nG.q _ HB0.q).mono ?_;intro e w2 he;rw[Cq.q] at he;obtain⟨rfl,q,hc2,hm2⟩:=he;have bM:=y hc2;have iq:=y ((Mv.of_below HB0.q).trans hm2);refine hK _ _ ⟨L,hc2.c0⟩ ?_;have hq1:=hc2.c1;have hzq:=f1 hc2 1;have hix:=fun W=>eZ P s q 45 hc2.at_ W
    clear hK K hc2 hm2 c0 c1 z1;refine qC ?_;refine aD rfl rfl (fun K hK=>?_);go_simp;refine hK _ _ ⟨L,bM.q.c0⟩ ?_;clear hK K;refine qC ?_;refine bn ?_;have Br:q≤1000000:=by have:=bM.q.le;have:=bM.q.lim;omega
    have HT1:=bM.q.to 1 rfl ak (q+1) rfl;have HT2:=HT1.1.AU 6 (.bool true) {c with first:=true} {n with first:=true} aj rfl ⟨rfl,rfl,rfl,rfl,rfl,rfl⟩ ⟨rfl,rfl⟩ ⟨bM.q.n.1.1,bM.q.n.1.2.1,rfl,bM.q.n.1.2.2.2.1⟩;rw[Int.natCast_add] at HT1 HT2;have HA1:=y HT1;have HA2:=y HT2;have hx6:=bM.q.x.1 6;have z6:=f1 bM.q 6;clear HT1 HT2;go_wp2_with fail;refine bodyPost_ret (results_none rfl _ _ _) rfl ?_;show aX R s c w _ _ _ _;rw[HX.q];exact⟨rfl,q+1,_,HA2.q.1,iq.q.trans (HA1.q.2.trans HA2.q.2)⟩
   ·have Vd:((b0.toNat:H)==45)=S:=beq_eq_false_iff_ne.2 (fun e=>h45 (UInt8.toNat_inj.1 (by show b0.toNat=45;omega)))
    have HX:M (X= .ok ((),{n with first:=false},l)):=y (by rw[hX];unfold jF;rw[hm];simp only[];rw[if_neg (by simpa using h45)]);have Cq:=y hm;clear hX hm hee h45;go_enter func224,ntmps224;go_wp2_with fail;refine aI 99 [(0,0),(1,2),(2,0),(3,0),(4,0),(5,0),(6,0),(7,0),(8,0),(9,0),(10,2),(11,0),(12,0),(13,0)] (fun _=>True) (fun W'=>W'.cell? ⟨R,0,B⟩=I (E ⟨s.toArray⟩)) au au (trivial) (c0) ?_;refine qC ?_;refine aD rfl rfl (fun K hK=>?_);go_simp;refine(nG.q _ HB0.q).mono ?_;intro e w2 he;rw[Cq.q] at he;obtain⟨rfl,q,hc2,hm2⟩:=he;have bM:=y hc2;have iq:=y ((Mv.of_below HB0.q).trans hm2);refine hK _ _ ⟨L,hc2.c0⟩ ?_;have hq1:=hc2.c1;have hzq:=f1 hc2 1;have hix:=fun W=>eZ P s q b0 hc2.at_ W
    clear hK K hc2 hm2 c0 c1 z1;refine qC ?_;refine aD rfl rfl (fun K hK=>?_);go_simp;refine hK _ _ ⟨L,bM.q.c0⟩ ?_;clear hK K;refine qC ?_;refine bn ?_;go_wp2_with fail;refine bodyPost_end (results_none rfl _ _ _) rfl ?_;show aX R s c w _ _ _ _;rw[HX.q,HFN.q];have hx:=bM.q.x.aU 1 ak (G C (p:H));exact⟨rfl,p,c,⟨hx,⟨bM.q.n.1,bM.q.n.2.1.block fun g hg=>J _ _ _ _ (by have:=(bM.q.n.2.1.lt g hg).1;simp;omega),bM.q.n.2.2.block fun g hg=>J _ _ _ _ (by have:=(bM.q.n.2.2.lt g hg).1;simp;omega)⟩,HD.q,by omega,hlim⟩,iq.q.trans ⟨Same.setCell _ _ _ _ (fun e=>e.1 rfl),fun _ h=> .inl h,fun _ h=> .inl h⟩⟩
def AV:Q→Q
 |0=>219
 |1=>220
 |_=>221
def wX (a:Q) (n:aB) (l:Bs):Except Er (Unit × aB × Bs):=
 if a=0 then(match cu l with| .error x=> .error x| .ok (m,r)=> .ok ((),addN n m,r))
 else if a=1 then(match dH mF l with| .error x=> .error x| .ok (i,r)=> .ok ((),{n with lvl:=1+(i:H)},r))
 else(match fq l with| .error x=> .error x| .ok (v,r)=> .ok ((),zG n v,r))
def iB:List Q→aB→Bs→Except Er (Unit × aB × Bs)
 |[],n,l=> .ok ((),n,l)
 |a::t,n,l=>match dQ l with
  | .error x=> .error x
  | .ok r=>match wX a n r with
   | .error x=> .error x
   | .ok (_,n',r')=>iB t n' r'
def Ai (R:Q) (a:Q):List Value:=[.func (.func (AV a)) #[.pointer (I ⟨R,0,B⟩)] #[]]
theorem RH:∀args w,(callFunc 219 args).run O w= .ok (.enter 219 args) w:=enters_of func219 au rfl
theorem O9:∀args w,(callFunc 220 args).run O w= .ok (.enter 220 args) w:=enters_of func220 au rfl
theorem RI:∀args w,(callFunc 221 args).run O w= .ok (.enter 221 args) w:=enters_of func221 au rfl
theorem abp {R p:Q} {s l:Bs} {c:bf} {n:aB} (a:Q) (w:U) (h:dG w R s p l c n) (hG:rX R w) (hn:n.names.length≤1000) (hv:n.aF.length≤1000):
  Calls O (AV a) #[.pointer (I ⟨R,0,B⟩)] w (aX R s c w (fun _:Unit=> .tuple #[]) (wX a n l)):=by
 unfold wX
 match a with
 |0=>exact Mk w h hG.tabs hn
 |1=>exact Ve w h
 |a+2=>exact Fv w h hG hv
theorem ND {a:Q} {n n':aB} {l r:Bs} {u:Unit} (h:wX a n l= .ok (u,n',r)):n'.names.length≤n.names.length+1∧n'.aF.length≤n.aF.length+1:=by
 unfold wX at h
 split at h
 ·split at h
  ·cases h
  ·injection h with h;injection h with _ h;injection h with h _;subst h;simp
 ·split at h
  ·split at h
   ·cases h
   ·injection h with h;injection h with _ h;injection h with h _;subst h;simp
  ·split at h
   ·cases h
   ·injection h with h;injection h with _ h;injection h with h _;subst h;simp
theorem Mv.row {α:Type} {enc:α→List Value} {k:Q} {R:Q} {c c':bf} {w w':U} (hm:Mv R c c' w w') {b o n cc:Q} {xs:List α} (h:Row w k enc (I ⟨b,o,B⟩) n cc xs) (hb:kz R c b) (hl:b<w.heap.size):Row w' k enc (I ⟨b,o,B⟩) n cc xs:=
 ⟨h.1,h.2.1,h.2.2.1,h.2.2.2.1,fun i x hx=>let⟨b',o',e,hc⟩:=h.2.2.2.2 i x hx;⟨b',o',e,fun j v hv=>by
  injection e with e;injection e with e1 e2;subst e1;exact(World.cell?_of_block (a:=⟨b,o'+i*k+j,B⟩) (hm.same.block b hb hl)).trans (hc j v hv)⟩⟩
theorem vU {R p:Q} {s l:Bs} {c:bf} {n:aB} (w:U) (h:dG w R s p l c n) (hG:rX R w) (b o nn cc:Q) (acts:List Q) (hr:Row w 1 (Ai R) (I ⟨b,o,B⟩) nn cc acts) (hb:kz R c b) (hbl:b<w.heap.size) (hnn:nn≤10) (hn:n.names.length≤900) (hv:n.aF.length≤900):
  Calls O 222 #[.pointer (I ⟨R,0,B⟩),.slice (I ⟨b,o,B⟩) nn cc] w (aX R s c w (fun _:Unit=> .tuple #[]) (iB acts n l)):=by
 obtain⟨X,hX⟩:∃X,X=iB acts n l:=⟨_,rfl⟩;rw[←hX];have HR:=y hr;have HH:=y h;have HG:=y hG;have je:=y hb;have Bt:=y hbl;have HX:=y hX;have HN:=y (⟨hn,hv⟩:_∧_);have hlen:=hr.len;clear hr h hG hb hbl hX hn hv;go_enter func222,ntmps222;go_wp2_with fail
 go_loopw [8] (fun i wr=>∃(W:U) (k q:Q) (l1:Bs) (c1:bf) (n1:aB),W=wr∧i= G C k∧k≤nn∧dG W R s q l1 c1 n1∧Mv R c c1 w W∧rX R W∧iB (acts.drop k) n1 l1=X∧n1.names.length≤900+k∧n1.aF.length≤900+k) (fun i _=>nn - (RowKit.intOf i).toNat)
 case atStart=>exact⟨_,0,p,l,c,n,rfl,rfl,Nat.zero_le _,HH.q,Mv.refl _ _ _,HG.q,HX.q.symm,HN.q.1,HN.q.2⟩
 case round=>
  obtain⟨W,k,q,l1,c1,n1,rfl,rfl,hk,hc,hm,hg,hx,h1,h2⟩:=hrel;by_cases hlt:k<nn
  ·obtain⟨a,b',o',hxa,hab,hcell⟩:=(hm.row HR.q je.q Bt.q).at_ hlt
   injection hab with hab;injection hab with e1 e2;subst e1 e2;have hc0:=hcell 0 _ rfl;simp only[Nat.mul_one,Nat.add_zero] at hc0;have hdr:acts.drop k=a::acts.drop (k+1):=by
    obtain⟨hl1,he⟩:=List.getElem?_eq_some_iff.1 hxa;rw[List.drop_eq_getElem_cons hl1,he]
   rw[hdr] at hx;simp only[iB] at hx;have HC:=y hc;have HM:=y hm;have RJ:=y hg;have qQ:=y hx;have Bu:=y (⟨h1,h2⟩:_∧_);have HMU:=y (NE W hc);clear hcell hxa hdr hc hm hg hx h1 h2;go_wp2_with fail;refine HMU.q.mono ?_;intro e w2 he
   cases hmu:dQ l1 with
   |error x=>
    rw[hmu] at he;obtain⟨rfl,hs⟩:=he;refine⟨rfl,?_⟩;show aX R s c w _ _ _ _;rw[←qQ.q,hmu];exact⟨rfl,HM.q.cK hs⟩
   |ok r=>
    rw[hmu] at he;obtain⟨rfl,q2,hc2,hm2⟩:=he;have aW:M ((match wX a n1 r with| .error x=> .error x| .ok (_,n',r')=>iB (acts.drop (k+1)) n' r')=X):=y (by have:=qQ.q;rw[hmu] at this;exact this);have bM:=y hc2;have iq:=y (HM.q.trans hm2);have HG2:=y (RJ.q.mv HC.q hm2.same);have HAC:=y (abp a w2 hc2 HG2.q (by have:=Bu.q;omega) (by have:=Bu.q;omega));have hcf:∀args w,(callFunc (AV a) args).run O w= .ok (.enter (AV a) args) w:=by
     match a with
     |0=>exact RH
     |1=>exact O9
     |a+2=>exact RI
    clear hc2 hm2 hmu;go_wp2_with fail;refine HAC.q.mono ?_;intro e w3 he
    cases ha:wX a n1 r with
    |error x=>
     rw[ha] at he;obtain⟨rfl,hs⟩:=he;refine⟨rfl,?_⟩;show aX R s c w _ _ _ _;rw[←aW.q,ha];exact⟨rfl,iq.q.cK hs⟩
    |ok ur=>
     obtain⟨u,n3,r3⟩:=ur;rw[ha] at he;obtain⟨rfl,q3,c3,hc3,tK⟩:=he;have hal:=ND ha;have eD:M (iB (acts.drop (k+1)) n3 r3=X):=y (by have:=aW.q;rw[ha] at this;exact this);have l5:=y hc3;have qy:=y (iq.q.trans tK);have lF:=y (HG2.q.mv bM.q tK.same);have HAL:=y hal;clear hc3 tK hal ha;go_wp2_with fail;go_roundw
     case rel=>exact⟨_,k+1,q3,r3,c3,n3,rfl,by go_num,by omega,l5.q,qy.q,lF.q,eD.q,by have:=HAL.q;have:=Bu.q;omega,by have:=HAL.q;have:=Bu.q;omega⟩
     case measure=>simp[RowKit.intOf];omega
  ·obtain rfl:k=nn:=by omega
   rw[List.drop_of_length_le ah] at hx;have qQ:M (X= .ok ((),n1,l1)):=y hx.symm;have HC:=y hc;have HM:=y hm;clear hx hc hm hg h1 h2;go_wp2_with fail;refine bodyPost_end (results_none rfl _ _ _) rfl ?_;show aX R s c w _ _ _ _;rw[qQ.q];exact⟨rfl,q,c1,HC.q,HM.q⟩
theorem abr:∀k:Fin 4,∀b:Fin 8,b.val<2 ^ k.val→Go.bits .or C (b.val:H) (2 ^ k.val:H)=(b.val:H)+2 ^ k.val:=by decide
theorem or_bit (k b:Q) (hk:k<4) (hb:b<2 ^ k):Go.bits .or C (b:H) (2 ^ k:H)=(b:H)+2 ^ k:=by
 have h8:b<8:=Nat.lt_of_lt_of_le hb (by
  have:k≤3:=by omega
  exact Nat.le_trans (Nat.pow_le_pow_right aj this) aj)
 exact abr ⟨k,hk⟩ ⟨b,h8⟩ hb
theorem Vh (k i:Q) (h:k+i<4):wrap64 ((k:H)+(i:H))=((k+i:Q):H):=by
 unfold wrap64;omega
theorem H9 (k i:Q) (h:k+i<4):wrap64 ((k:H)+(i:H)+1)=((k+i+1:Q):H):=by
 unfold wrap64;omega
theorem YO (m:Q) (h:m<4) (W:U):(Go.Op.shift .shl C 1 C (m:H)).run O W= .ok (G C (2 ^ m)) W:=by
 rcases(by omega:m=0∨m=1∨m=2∨m=3) with rfl|rfl|rfl|rfl <;> rfl
theorem YP (k i:Q) (h:k+i<4) (W:U):(Go.Op.shift .shl C 1 C ((k:H)+(i:H))).run O W= .ok (G C (2 ^ (k+i))) W:=by
 have:=YO (k+i) h W
 simpa using this
theorem RL {w:U} (hg:nD w) (k:Q) (hk:k≤4):Row w 1 encStr (I ⟨1,k,B⟩) (4 - k) (4 - k) (jG.drop k):=by
 refine⟨by simp[jG],Nat.le_refl _,by omega,fun h=>(by cases h),fun i x hx=>⟨1,k,rfl,fun j v hv=>?_⟩⟩;rw[List.getElem?_drop] at hx;have hi:k+i<4:=by
  have:=(List.getElem?_eq_some_iff.1 hx).1
  simpa[jG] using this
 obtain rfl:j=0:=by
  have:=(List.getElem?_eq_some_iff.1 hv).1
  simpa[encStr] using this
 have hv':v= E ⟨x.toArray⟩:=by simpa[encStr] using hv.symm
 have hx':x=uY (k+i):=by
  have h4:∀m,m<4→jG[m]?=I (uY m):=fun m hm=>by
   rcases(by omega:m=0∨m=1∨m=2∨m=3) with rfl|rfl|rfl|rfl <;> rfl
  rw[h4 _ hi] at hx;injection hx with hx;exact hx.symm
 have:=hg.2.2.1 (k+i) hi;rw[hv',hx']
 simpa using this
def Pb (k:Q):Q:=if k=4 then 0 else k
theorem RN (k:Q) (hk:k≤4) (W:U):(Instr.sliceAt 120 (.pointer (I ⟨1,0,B⟩)) (I (G C (k:H))) B B).run O W= .ok (.slice (I ⟨1,Pb k,B⟩) (4 - k) (4 - k)) W:=by
 rcases(by omega:k=0∨k=1∨k=2∨k=3∨k=4) with rfl|rfl|rfl|rfl|rfl <;> kernel_rfl
theorem Pd {w:U} (hg:nD w) (k:Q) (hk:k≤4):Row w 1 encStr (I ⟨1,Pb k,B⟩) (4 - k) (4 - k) (jG.drop k):=by
 by_cases h4:k=4
 ·subst h4
  exact⟨rfl,Nat.le_refl _,by omega,fun h=>(by cases h),fun i x hx=>by simp[jG] at hx⟩
 ·unfold Pb;rw[if_neg h4];exact RL hg k hk
theorem Ia:(∀x∈jG,x.length≤100)∧(∀x∈jG,(128:UInt8)∉x):=by decide
theorem IY {R p:Q} {s l:Bs} {c:bf} {n:aB} (w:U) (h:dG w R s p l c n) (hG:rX R w) (hb:n.bits=0):
  Calls O 223 #[.pointer (I ⟨R,0,B⟩)] w (aX R s c w (fun _:Unit=> .tuple #[]) (match iV 5 0 0 l with| .error x=> .error x| .ok (b,r)=> .ok ((),{n with bits:=b},r))):=by
 obtain⟨Y,hY⟩:∃Y:Except Er (Unit × aB × Bs),Y=(match iV 5 0 0 l with| .error x=> .error x| .ok (b,r)=> .ok ((),{n with bits:=b},r)):=⟨_,rfl⟩;rw[←hY];have o9:M (∀x,iV 5 0 0 l= .error x→Y= .error x):=y (fun x hx=>by rw[hY,hx]);have wK:M (∀b r,iV 5 0 0 l= .ok (b,r)→Y= .ok ((),{n with bits:=b},r)):=y (fun b r hx=>by rw[hY,hx]);clear hY;obtain⟨X,hX⟩:∃X:Except Er (H × Bs),X=iV 5 0 0 l:=⟨_,rfl⟩;rw[←hX] at o9 wK;have HX:=y hX;have HH:=y h;have HG:=y hG;have HN:M (n={n with bits:=0}):=y (by cases n;simp at hb;subst hb;rfl);clear hX h hG hb;go_enter func223,ntmps223;go_wp2_with fail
 go_loopw [2] (fun i wr=>∃(W:U) (k f q b:Q) (l1:Bs) (c1:bf),W=wr∧i= G C k∧k≤4∧5≤f+k∧b<2 ^ k∧dG W R s q l1 c1 {n with bits:=b}∧Mv R c c1 w W∧rX R W∧iV f k b l1=X) (fun i _=>4 - (RowKit.intOf i).toNat)
 case atStart=>exact⟨_,0,5,p,0,l,c,rfl,rfl,by omega,by omega,by decide,by have:=HH.q;rw[HN.q] at this;exact this,Mv.refl _ _ _,HG.q,HX.q.symm⟩
 case round=>
  obtain⟨W,k,f,q,b,l1,c1,rfl,rfl,hk,hf,hbk,hc,hm,hg,hx⟩:=hrel;obtain⟨f,rfl⟩:∃f',f=f'+1:=⟨f - 1,by omega⟩;simp only[iV] at hx;have HC:=y hc;have HM:=y hm;have RJ:=y hg;have qQ:=y hx;have MP:=y hbk;have HF:=y hf;have nG:=y (oF W hc);clear hc hm hg hx hbk;go_wp2_with fail;refine nG.q.mono ?_;intro e w2 he
  cases hmo:cO l1 with
  |error x=>
   rw[hmo] at he;obtain⟨rfl,hs⟩:=he;refine⟨rfl,?_⟩;show aX R s c w _ _ _ _;rw[o9.q x (by have:=qQ.q;rw[hmo] at this;exact this.symm)];exact⟨rfl,HM.q.cK hs⟩
  |ok br=>
   obtain⟨bb,r⟩:=br;rw[hmo] at he;obtain⟨rfl,q2,hc2,hm2⟩:=he;have bM:=y hc2;have iq:=y (HM.q.trans hm2);have HG2:=y (RJ.q.mv HC.q hm2.same)
   cases bb
   ·have aW:M (X= .ok ((b:H),r)):=y (by have:=qQ.q;rw[hmo] at this;exact this.symm)
    clear hc2 hm2 hmo;go_wp2_with fail;refine bodyPost_end (results_none rfl _ _ _) rfl ?_;show aX R s c w _ _ _ _;rw[wK.q _ _ aW.q];exact⟨rfl,q2,c1,bM.q,iq.q⟩
   ·have aW:M ((match dH (jG.drop k) r with| .error x=> .error x| .ok (i,r')=>iV f (k+i+1) ((b:H)+2 ^ (k+i)) r')=X):=y (by have:=qQ.q;rw[hmo] at this;exact this)
    have hsg:=fun W=>RN k hk W
    have HW:=y (Gu w2 hc2 (I ⟨1,Pb k,B⟩) (4 - k) (4 - k) (jG.drop k) (Pd HG2.q.l k hk) ah (fun x hx=>Ia.1 x (List.mem_of_mem_drop hx)) (fun x hx=>Ia.2 x (List.mem_of_mem_drop hx)));clear hc2 hm2 hmo;go_wp2_with fail;refine HW.q.mono ?_;intro e w3 he
    cases hwo:dH (jG.drop k) r with
    |error x=>
     rw[hwo] at he;obtain⟨rfl,hs⟩:=he;refine⟨rfl,?_⟩;show aX R s c w _ _ _ _;rw[o9.q x (by have:=aW.q;rw[hwo] at this;exact this.symm)];exact⟨rfl,iq.q.cK hs⟩
    |ok ir=>
     obtain⟨i,r3⟩:=ir;rw[hwo] at he;obtain⟨rfl,q3,hc3,tK⟩:=he;have hi:k+i<4:=by
      unfold dH at hwo
      split at hwo
      ·rename_i j hj
       injection hwo with hwo;injection hwo with hwo _;have:=(List.findIdx?_eq_some_iff_getElem.1 hj).1;subst hwo;simp[jG] at this;omega
      ·cases hwo
     have eD:M (iV f (k+i+1) ((b:H)+2 ^ (k+i)) r3=X):=y (by have:=aW.q;rw[hwo] at this;exact this);have hor:=or_bit (k+i) b hi (Nat.lt_of_lt_of_le MP.q (Nat.pow_le_pow_right aj ah));have l5:=y hc3;have qy:=y (iq.q.trans tK);have lF:=y (HG2.q.mv bM.q tK.same);have HI:=y hi;have HOR:=y hor;clear hc3 tK hwo hi hor;have H7:M (w3.cell? ⟨R,7,B⟩=I (G C (b:H))):=y (by have h:=l5.q.x.1 7;have hb:c1.bits=(b:H):=l5.q.n.1.2.2.2.1;rw[←hb];exact h);have RF:=H7.q;have hf7:=f1 l5.q 7;have hsh:=fun W=>YP k i HI.q W;have hor:=HOR.q
     go_wp2_with fail;rw[Vh k i HI.q];refine aI 11 [(0,1),(1,1),(2,1),(3,1),(4,0),(5,1),(6,1),(7,0),(8,1),(9,1),(10,1),(11,2)] (fun _=>True) (fun W'=>W'.cell? ⟨R,7,B⟩=I (G C (b:H))) au au (trivial) (H7.q) ?_;refine qC ?_;refine eF rfl rfl rfl (fun K hK=>?_);go_simp;refine hK _ _ L ?_;clear hK K;refine bn ?_;have h4:=l5.q.AU 7 (G C ((b:H)+2 ^ (k+i))) {c1 with bits:=(b:H)+2 ^ (k+i)} {n with bits:=(b:H)+2 ^ (k+i)} aj rfl ⟨rfl,rfl,rfl,rfl,rfl,rfl⟩ ⟨rfl,rfl⟩ ⟨l5.q.n.1.1,l5.q.n.1.2.1,l5.q.n.1.2.2.1,rfl⟩;have ig:=y h4.1.drew;have vJ:=y (qy.q.trans (h4.2.trans (Mv.of_below (F _ _).drew)));have RO:=y (lF.q.mv l5.q (h4.2.trans (Mv.of_below (F _ _).drew)).same);clear h4;go_wp2_with fail;go_roundw
     case rel=>exact⟨_,k+i+1,f,q3,b+2 ^ (k+i),r3,_,rfl,by rw[H9 k i HI.q],by have:=HI.q;omega,by have:=HF.q;omega,by have:=MP.q;have:2 ^ k≤2 ^ (k+i):=Nat.pow_le_pow_right aj ah;rw[Nat.pow_succ];omega,by have:=ig.q;simpa using this,vJ.q,RO.q,by have:=eD.q;simpa using this⟩
     case measure=>have:=HI.q;rw[H9 k i HI.q];simp[RowKit.intOf] <;> omega
end Yd
