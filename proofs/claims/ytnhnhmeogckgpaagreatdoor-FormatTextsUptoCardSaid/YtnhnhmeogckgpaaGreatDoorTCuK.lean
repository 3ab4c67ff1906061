import Derived.Test.YtnhnhmeogckgpaaGreatDoorTRdN
set_option linter.all false
set_option maxRecDepth 200000
set_option maxHeartbeats 8000000
namespace Yd
open Option renaming none→E,some→L
open Go Go.RowKit Go.Proofs Tryz
open Below renaming refl→F,heap_setCell→M
open Go renaming World→S
open Go.IntKind renaming i64→G
open Go.RowKit renaming Hid→U
open Go.Value renaming string→H,int→J
open Utf8 renaming decode→N
open Yd renaming hid→C
open _root_ renaming Int→I,Nat→O,trivial→P,if_pos→Q
theorem bX.apart {w:S} {R p:O} {s l:Bs} {c:aV} {n:aB} (h:bX w R s p l c n) (b:O) (hb:kS R c b) (k a:I) (t:Bs) (g:Bool):
  bX ((((w.setCell ⟨b,0,E⟩ (J G k)).setCell ⟨b,1,E⟩ (J G a)).setCell ⟨b,2,E⟩ (H ⟨t.toArray⟩)).setCell ⟨b,3,E⟩ (.bool g)) R s p l c n:=by
 have hs:∀{w:S} (h:bX w R s p l c n) (i:O) (v:Value),bX (w.setCell ⟨b,i,E⟩ v) R s p l c n:=fun {w} h i v=>
  ⟨h.x.setOther b i v (Ne.symm hb.1),⟨h.n.1,h.n.2.1.block fun g hg=>M _ _ _ _ (by rintro rfl;exact hb.2.1 hg),h.n.2.2.block fun g hg=>M _ _ _ _ (by rintro rfl;exact hb.2.2 hg)⟩,h.d,h.le,h.lim⟩
 exact hs (hs (hs (hs h 0 _) 1 _) 2 _) 3 _
theorem Ck {R p:O} {s l:Bs} {c:aV} {n:aB} (w:S) (h:bX w R s p l c n) (hT:Lib.Utf8Tabs 6 7 w):
  Calls Tryz.prog 245 #[.pointer (L ⟨R,0,E⟩)] w (kM R s c n w (fun m:Bs=> H ⟨m.toArray⟩) (bI l)):=by
 obtain⟨X,hX⟩:∃X,X=bI l:=⟨_,rfl⟩;rw[←hX];have HX:=C hX;have hlen:=h.len;have hlim:=h.lim;have hle:=h.le;have HE:=C (Cn w h);have Bg:=fun W (hb:Below w.heap.size w W)=>C (Gf W (h.below hb) (Utf8Tabs_below hT hb))
 have HH:=C h;clear hX h;by_cases hb:bR l=false∧bL l=true
 ·obtain⟨he,hg⟩:=hb
  have Hz:=fun W (hb:Below w.heap.size w W)=>MO s p l HH.q.d hle hlim hg W (Utf8Tabs_below hT hb)
  have hrl:bT l≤l.length:=pO _ _ _ (Nat.le_refl _);by_cases sM:24<bT l
  ·simp only[Q sM] at Hz
   have U9:=J6 (l.take (bT l));obtain⟨q,hq⟩:∃q,q=p+qd (l.take (bT l)):=⟨_,rfl⟩;rw[←hq] at Hz;have HL:=C Hz;have qN:U (bI l= .error (l.drop (qd (l.take (bT l))),220)):=C (by unfold bI;rw[if_neg (by rw[he,hg];decide),Q sM]);have HQ:U (s.length - (l.drop (qd (l.take (bT l)))).length=q):=C (by rw[List.length_drop];omega);rw[he] at HE;have HG:=C hg;clear Hz he hg sM U9 hq hT hrl;go_enter func245,ntmps245;go_wp2_with fail;refine HE.q.mono ?_;rintro e w1 ⟨rfl,hb1⟩;have HB1:=C hb1;clear hb1;go_wp2_with fail;refine(Bg _ HB1.q).q.mono ?_;rintro e w2 ⟨rfl,hb2⟩;rw[HG.q];have HB2:=C (HB1.q.bq hb2);have cu:=C (HH.q.below HB2.q);have Bt:=C (cu.q.new (Nat.le_refl _));have c0:=cu.q.c0;have c1:=cu.q.c1;have z1:=f1 cu.q 1;clear hb2;go_wp2_with fail;refine zh 99 (.q 0 0 (.q 1 0 (.q 2 0 (.q 3 0 (.q 4 0 (.q 5 0 (.q 6 0 (.q 7 0 (.alt 8 (.q 9 0 (.q 10 0 (.q 11 0 (.q 12 0 (.l 13 (.l 14 (.q 15 0 (.q 16 0 .nil)))))))) 13 (.l 8 (.q 9 0 (.q 10 0 (.q 11 0 (.q 12 0 (.l 14 (.q 15 0 (.q 16 0 .nil))))))))))))))))) (fun _=>True) (fun W'=>W'.cell? ⟨R,0,E⟩=L (H ⟨s.toArray⟩)∧W'.cell? ⟨R,1,E⟩=L (J G p)) au au P ⟨cu.q.drew.c0,cu.q.drew.c1⟩ ?_;refine qT ?_;refine⟨?_,?_⟩
   ·refine wX rfl rfl (fun K hK=>?_)
    go_simp;refine(HL.q _ HB2.q.drew).mono ?_;rintro e w4 ⟨g,rfl,hb4⟩;have hc4:=cu.q.drew.below hb4;have iG:=C hc4;have eH:=C (HB2.q.drew.trans (hb4.mono HB2.q.size));refine hK _ _ ⟨P,hc4.c0,hc4.c1⟩ ?_;clear hK K hb4 hc4 c0 c1 z1;refine qT ?_;refine vw rfl rfl (fun K hK=>?_);go_simp;refine hK _ _ ⟨P,(iG.q.below (av (F _ _) _)).c0,(iG.q.below (av (F _ _) _)).c1⟩ ?_;clear hK K;refine vw rfl rfl (fun K hK=>?_);go_simp;refine hK _ _ ⟨P,(iG.q.below (av (F _ _) _)).c0,(iG.q.below (av (F _ _) _)).c1⟩ ?_;clear hK K;refine qT ?_;have iQ:=C (iG.q.below (av (F w4.heap.size w4) (.cells (ay 0 0 [] g) 162)));have gY:=C (av eH.q (.cells (ay 0 0 [] g) 162));have kR:=C (Bx.new w4 (ay 0 0 [] g) 162);have jf:U (w4.heap.size≠R):=C (by have:=iG.q.x.2.2;omega);refine Aa ?_;have c0:=iQ.q.c0;have c1:=iQ.q.c1;have z1:=f1 iQ.q 1;have hty:=kR.q.1;have yg:=C (Mv.of_below (R:=R) (c:=c) gY.q);go_wp2_with fail;refine(jT q 220 _).mono ?_;rintro e w6 ⟨rfl,rfl⟩;refine⟨rfl,?_⟩;show kM R s c n w _ _ _ _;rw[HX.q,qN.q];exact⟨by rw[HQ.q],yg.q.same⟩
   ·refine wX rfl rfl (fun K hK=>?_)
    go_simp;refine hK _ _ ⟨P,(cu.q.drew.below (av (F _ _) _)).c0,(cu.q.drew.below (av (F _ _) _)).c1⟩ ?_;clear hK K;refine vw rfl rfl (fun K hK=>?_);go_simp;refine(HL.q _ (av HB2.q.drew (.cells (ay 0 0 [] false) 162))).mono ?_;rintro e w4 ⟨g,rfl,hb4⟩;have hc4:=(cu.q.drew.below (av (F _ _) (.cells (ay 0 0 [] false) 162))).below hb4;have iG:=C hc4;have eH:=C ((av HB2.q.drew (.cells (ay 0 0 [] false) 162)).trans (hb4.mono (av HB2.q.drew (.cells (ay 0 0 [] false) 162)).size));have hy4:Bx w4 w2.heap.size (ay 0 0 [] false):=(Bx.new w2.drew (ay 0 0 [] false) 162).keep hb4;have j4:=C hy4;have jf:U (w2.heap.size≠R):=C (by have:=cu.q.x.2.2;omega);have Fy:U (w.heap.size≤w2.heap.size):=C HB2.q.size;refine hK _ _ ⟨P,hc4.c0,hc4.c1⟩ ?_;clear hK K hb4 hc4 c0 c1 z1 hy4;have hcy:=j4.q.1;have xO:=j4.q.2.1;refine qT ?_;refine vw rfl rfl (fun K hK=>?_);go_simp;refine hK _ _ ⟨P,((((iG.q.x.other (p:=⟨w2.heap.size,0,E⟩) jf.q.symm _).other (p:=⟨w2.heap.size,1,E⟩) jf.q.symm _).other (p:=⟨w2.heap.size,2,E⟩) jf.q.symm _).other (p:=⟨w2.heap.size,3,E⟩) jf.q.symm _).1 0,((((iG.q.x.other (p:=⟨w2.heap.size,0,E⟩) jf.q.symm _).other (p:=⟨w2.heap.size,1,E⟩) jf.q.symm _).other (p:=⟨w2.heap.size,2,E⟩) jf.q.symm _).other (p:=⟨w2.heap.size,3,E⟩) jf.q.symm _).1 1⟩ ?_;clear hK K hcy xO;refine qT ?_;have iQ:=C (iG.q.apart w2.heap.size Bt.q 0 0 [] g);have gY:=C ((((eH.q.setCell (p:=⟨w2.heap.size,0,E⟩) Fy.q (J G 0)).setCell (p:=⟨w2.heap.size,1,E⟩) Fy.q (J G 0)).setCell (p:=⟨w2.heap.size,2,E⟩) Fy.q (H ⟨[].toArray⟩)).setCell (p:=⟨w2.heap.size,3,E⟩) Fy.q (.bool g));have kR:=C ((((j4.q.aR 0 ak (J G 0)).aR 1 ak (J G 0)).aR 2 ak (H ⟨[].toArray⟩)).aR 3 ak (.bool g));refine Aa ?_;have c0:=iQ.q.c0;have c1:=iQ.q.c1;have z1:=f1 iQ.q 1;have hty:=kR.q.1;have yg:=C (Mv.of_below (R:=R) (c:=c) gY.q);go_wp2_with fail;refine(jT q 220 _).mono ?_;rintro e w6 ⟨rfl,rfl⟩;refine⟨rfl,?_⟩;show kM R s c n w _ _ _ _;rw[HX.q,qN.q];exact⟨by rw[HQ.q],yg.q.same⟩
  ·simp only[if_neg sM] at Hz
   obtain⟨q,hq⟩:∃q,q=p+bT l:=⟨_,rfl⟩;rw[←hq] at Hz;have HL:=C Hz;have qN:U (bI l= .ok (l.take (bT l),l.drop (bT l))):=C (by unfold bI;rw[if_neg (by rw[he,hg];decide),if_neg sM]);have HQ:=C hq;have rG:=C hrl;rw[he] at HE;have HG:=C hg;clear Hz he hg sM hq hT hrl;go_enter func245,ntmps245;go_wp2_with fail;refine HE.q.mono ?_;rintro e w1 ⟨rfl,hb1⟩;have HB1:=C hb1;clear hb1;go_wp2_with fail;refine(Bg _ HB1.q).q.mono ?_;rintro e w2 ⟨rfl,hb2⟩;rw[HG.q];have HB2:=C (HB1.q.bq hb2);have cu:=C (HH.q.below HB2.q);have Bt:=C (cu.q.new (Nat.le_refl _));have c0:=cu.q.c0;have c1:=cu.q.c1;have z1:=f1 cu.q 1;clear hb2;go_wp2_with fail;refine zh 99 (.q 0 0 (.q 1 0 (.q 2 0 (.q 3 0 (.q 4 0 (.q 5 0 (.q 6 0 (.q 7 0 (.alt 8 (.q 9 0 (.q 10 0 (.q 11 0 (.q 12 0 (.l 13 (.l 14 (.q 15 0 (.q 16 0 .nil)))))))) 13 (.l 8 (.q 9 0 (.q 10 0 (.q 11 0 (.q 12 0 (.l 14 (.q 15 0 (.q 16 0 .nil))))))))))))))))) (fun _=>True) (fun W'=>W'.cell? ⟨R,0,E⟩=L (H ⟨s.toArray⟩)∧W'.cell? ⟨R,1,E⟩=L (J G p)) au au P ⟨cu.q.drew.c0,cu.q.drew.c1⟩ ?_;refine qT ?_;refine⟨?_,?_⟩
   ·refine wX rfl rfl (fun K hK=>?_)
    go_simp;refine(HL.q _ HB2.q.drew).mono ?_;rintro e w4 ⟨g,rfl,hb4⟩;have hc4:=cu.q.drew.below hb4;have iG:=C hc4;have eH:=C (HB2.q.drew.trans (hb4.mono HB2.q.size));refine hK _ _ ⟨P,hc4.c0,hc4.c1⟩ ?_;clear hK K hb4 hc4 c0 c1 z1;refine qT ?_;refine vw rfl rfl (fun K hK=>?_);go_simp;refine hK _ _ ⟨P,(iG.q.below (av (F _ _) _)).c0,(iG.q.below (av (F _ _) _)).c1⟩ ?_;clear hK K;refine vw rfl rfl (fun K hK=>?_);go_simp;refine hK _ _ ⟨P,(iG.q.below (av (F _ _) _)).c0,(iG.q.below (av (F _ _) _)).c1⟩ ?_;clear hK K;refine qT ?_;have iQ:=C (iG.q.below (av (F w4.heap.size w4) (.cells (ay 1 p (l.take (bT l)) g) 162)));have gY:=C (av eH.q (.cells (ay 1 p (l.take (bT l)) g) 162));have kR:=C (Bx.new w4 (ay 1 p (l.take (bT l)) g) 162);have jf:U (w4.heap.size≠R):=C (by have:=iG.q.x.2.2;omega);refine Aa ?_;have c0:=iQ.q.c0;have c1:=iQ.q.c1;have z1:=f1 iQ.q 1;have hty:=kR.q.1;have yg:=C (Mv.of_below (R:=R) (c:=c) gY.q);have ht:=iQ.q.to (bT l) rfl rG.q q HQ.q;have HT2:=C ht.1;have j6:=C (yg.q.trans ht.2);have xu:=C (kR.q.setOther R 1 (J G (q:I)) jf.q);have aiT:=xu.q.1;clear ht;go_wp2_with fail;go_ret;show kM R s c n w _ _ _ _;rw[HX.q,qN.q];exact⟨rfl,q,HT2.q,j6.q⟩
   ·refine wX rfl rfl (fun K hK=>?_)
    go_simp;refine hK _ _ ⟨P,(cu.q.drew.below (av (F _ _) _)).c0,(cu.q.drew.below (av (F _ _) _)).c1⟩ ?_;clear hK K;refine vw rfl rfl (fun K hK=>?_);go_simp;refine(HL.q _ (av HB2.q.drew (.cells (ay 0 0 [] false) 162))).mono ?_;rintro e w4 ⟨g,rfl,hb4⟩;have hc4:=(cu.q.drew.below (av (F _ _) (.cells (ay 0 0 [] false) 162))).below hb4;have iG:=C hc4;have eH:=C ((av HB2.q.drew (.cells (ay 0 0 [] false) 162)).trans (hb4.mono (av HB2.q.drew (.cells (ay 0 0 [] false) 162)).size));have hy4:Bx w4 w2.heap.size (ay 0 0 [] false):=(Bx.new w2.drew (ay 0 0 [] false) 162).keep hb4;have j4:=C hy4;have jf:U (w2.heap.size≠R):=C (by have:=cu.q.x.2.2;omega);have Fy:U (w.heap.size≤w2.heap.size):=C HB2.q.size;refine hK _ _ ⟨P,hc4.c0,hc4.c1⟩ ?_;clear hK K hb4 hc4 c0 c1 z1 hy4;have hcy:=j4.q.1;have xO:=j4.q.2.1;refine qT ?_;refine vw rfl rfl (fun K hK=>?_);go_simp;refine hK _ _ ⟨P,((((iG.q.x.other (p:=⟨w2.heap.size,0,E⟩) jf.q.symm _).other (p:=⟨w2.heap.size,1,E⟩) jf.q.symm _).other (p:=⟨w2.heap.size,2,E⟩) jf.q.symm _).other (p:=⟨w2.heap.size,3,E⟩) jf.q.symm _).1 0,((((iG.q.x.other (p:=⟨w2.heap.size,0,E⟩) jf.q.symm _).other (p:=⟨w2.heap.size,1,E⟩) jf.q.symm _).other (p:=⟨w2.heap.size,2,E⟩) jf.q.symm _).other (p:=⟨w2.heap.size,3,E⟩) jf.q.symm _).1 1⟩ ?_;clear hK K hcy xO;refine qT ?_;have iQ:=C (iG.q.apart w2.heap.size Bt.q 1 p (l.take (bT l)) g);have gY:=C ((((eH.q.setCell (p:=⟨w2.heap.size,0,E⟩) Fy.q (J G 1)).setCell (p:=⟨w2.heap.size,1,E⟩) Fy.q (J G p)).setCell (p:=⟨w2.heap.size,2,E⟩) Fy.q (H ⟨(l.take (bT l)).toArray⟩)).setCell (p:=⟨w2.heap.size,3,E⟩) Fy.q (.bool g));have kR:=C ((((j4.q.aR 0 ak (J G 1)).aR 1 ak (J G p)).aR 2 ak (H ⟨(l.take (bT l)).toArray⟩)).aR 3 ak (.bool g));refine Aa ?_;have c0:=iQ.q.c0;have c1:=iQ.q.c1;have z1:=f1 iQ.q 1;have hty:=kR.q.1;have yg:=C (Mv.of_below (R:=R) (c:=c) gY.q);have ht:=iQ.q.to (bT l) rfl rG.q q HQ.q;have HT2:=C ht.1;have j6:=C (yg.q.trans ht.2);have xu:=C (kR.q.setOther R 1 (J G (q:I)) jf.q);have aiT:=xu.q.1;clear ht;go_wp2_with fail;go_ret;show kM R s c n w _ _ _ _;rw[HX.q,qN.q];exact⟨rfl,q,HT2.q,j6.q⟩
 ·have qN:U (bI l= .error (l,220)):=C (by
   unfold bI;rw[Q]
   ·cases h1:bR l
    ·cases h2:bL l
     ·rfl
     ·exact absurd ⟨h1,h2⟩ hb
    ·rfl)
  have HN:=C hb;have HQ:U (s.length - l.length=p):=C ah;clear hb hT;go_enter func245,ntmps245;go_wp2_with fail;refine HE.q.mono ?_;rintro e w1 ⟨rfl,hb1⟩;have HB1:=C hb1;have c1:=(HH.q.below hb1).c1;clear hb1
  cases he:bR l
  ·go_wp2_with fail
   refine(Bg _ HB1.q).q.mono ?_;rintro e w2 ⟨rfl,hb2⟩;rw[show bL l=false by cases h2:bL l;rfl;exact absurd ⟨he,h2⟩ HN.q];have HB2:=C (HB1.q.bq hb2);have c1:=(HH.q.below HB2.q).c1;clear hb2;go_wp2_with fail;refine(jT p 220 _).mono ?_;rintro e w6 ⟨rfl,rfl⟩;refine⟨rfl,?_⟩;show kM R s c n w _ _ _ _;rw[HX.q,qN.q];exact⟨by rw[HQ.q],Same.of_below HB2.q (fun _ _ h=>h)⟩
  ·go_wp2_with fail
   refine(jT p 220 _).mono ?_;rintro e w6 ⟨rfl,rfl⟩;refine⟨rfl,?_⟩;show kM R s c n w _ _ _ _;rw[HX.q,qN.q];exact⟨by rw[HQ.q],Same.of_below HB1.q (fun _ _ h=>h)⟩
@[reducible] def addN (n:aB) (m:Bs):aB:={n with names:=n.names++[m]}
@[reducible] def YB (c:aV) (a:Option Addr) (k cc:O):aV:={c with na:=a,nn:=k,nc:=cc}
theorem bX.c3 {w:S} {R p:O} {s l:Bs} {c:aV} {n:aB} (h:bX w R s p l c n):w.cell? ⟨R,3,E⟩=L (.slice c.na c.nn c.nc):=h.x.1 3
theorem bX.c5 {w:S} {R p:O} {s l:Bs} {c:aV} {n:aB} (h:bX w R s p l c n):w.cell? ⟨R,5,E⟩=L (.slice c.va c.vn c.vc):=h.x.1 5
theorem bX.addN {w X Y:S} {R p:O} {s l m:Bs} {c:aV} {n:aB} (h:bX w R s p l c n) (hX:Below w.heap.size w X) (a':Option Addr) (c':O)
  (hown:Own Y (R+1) 9 1 encStr (.slice a' (c.nn+1) c') (n.names++[m])) (hg:X.grownBy Y (Value.slice c.na c.nn c.nc).ownBlock)
  (hat:(Value.slice a' (c.nn+1) c').ownBlock=(Value.slice c.na c.nn c.nc).ownBlock∨(Value.slice a' (c.nn+1) c').ownBlock=L X.heap.size):
  bX (Y.setCell ⟨R,3,E⟩ (.slice a' (c.nn+1) c')) R s p l (YB c a' (c.nn+1) c') (addN n m)∧Mv R c (YB c a' (c.nn+1) c') w (Y.setCell ⟨R,3,E⟩ (.slice a' (c.nn+1) c')):=by
 have Ma:=h.x.2.2;have hsz:=hX.size;have hn1:(Value.slice c.na c.nn c.nc).ownBlock≠L R:=h.n.2.1.far' (.inl ah);have hap:=h.n.2.2.apart h.n.2.1 aj;have hxX:=h.x.keep hX;have hxY:Bx Y R (oh s p c):=hxX.grown hg hn1;have hv:Own Y (R+1) 76 2 j3 (.slice c.va c.vn c.vc) n.aA:=(h.n.2.2.below hX rfl).grown hg (fun g hg=>hap g hg);obtain⟨⟨e1,e2,e3,e4,e5,e6⟩,_,_⟩:=h.n;have hXY:Same (kS R c) X Y:=⟨hg.os,hg.tape,hg.output,hg.size,fun i hi hl=>hg.block i hl (fun e=>hi.2.1 e.symm)⟩;refine⟨⟨?_,⟨⟨e1,e2,e3,e4,by simp[e5],e6⟩,?_,?_⟩,h.d,h.le,h.lim⟩,((Same.of_below hX (fun _ _ h=>h)).tr hXY).tr (Same.setCell _ _ _ _ (fun e=>e.1 rfl)),?_,fun _ h=> .inl h⟩
 ·exact hxY.aR 3 ak _
 ·exact hown.block fun g hg=>M _ _ _ _ (by have:=(hown.lt g hg).1;simp;omega)
 ·exact hv.block fun g hg=>M _ _ _ _ (by have:=(hv.lt g hg).1;simp;omega)
 ·intro g hgg
  rcases hat with e|e
  ·exact .inl (e▸hgg)
  ·right
   have:L g=L X.heap.size:=hgg.symm.trans e;injection this with this;omega
@[reducible] def Ag (n:aB) (v:To):aB:={n with aA:=n.aA++[v]}
@[reducible] def YC (c:aV) (a:Option Addr) (k cc:O):aV:={c with va:=a,vn:=k,vc:=cc}
theorem bX.Ag {w X Y:S} {R p:O} {s l:Bs} {v:To} {c:aV} {n:aB} (h:bX w R s p l c n) (hX:Below w.heap.size w X) (a':Option Addr) (c':O)
  (hown:Own Y (R+1) 76 2 j3 (.slice a' (c.vn+1) c') (n.aA++[v])) (hg:X.grownBy Y (Value.slice c.va c.vn c.vc).ownBlock)
  (hat:(Value.slice a' (c.vn+1) c').ownBlock=(Value.slice c.va c.vn c.vc).ownBlock∨(Value.slice a' (c.vn+1) c').ownBlock=L X.heap.size):
  bX (Y.setCell ⟨R,5,E⟩ (.slice a' (c.vn+1) c')) R s p l (YC c a' (c.vn+1) c') (Ag n v)∧Mv R c (YC c a' (c.vn+1) c') w (Y.setCell ⟨R,5,E⟩ (.slice a' (c.vn+1) c')):=by
 have Ma:=h.x.2.2;have hsz:=hX.size;have hn1:(Value.slice c.va c.vn c.vc).ownBlock≠L R:=h.n.2.2.far' (.inl ah);have hap:=h.n.2.1.apart h.n.2.2 aj;have hxX:=h.x.keep hX;have hxY:Bx Y R (oh s p c):=hxX.grown hg hn1;have hv:Own Y (R+1) 9 1 encStr (.slice c.na c.nn c.nc) n.names:=(h.n.2.1.below hX rfl).grown hg (fun g hg=>hap g hg);obtain⟨⟨e1,e2,e3,e4,e5,e6⟩,_,_⟩:=h.n;have hXY:Same (kS R c) X Y:=⟨hg.os,hg.tape,hg.output,hg.size,fun i hi hl=>hg.block i hl (fun e=>hi.2.2 e.symm)⟩;refine⟨⟨?_,⟨⟨e1,e2,e3,e4,e5,by simp[e6]⟩,?_,?_⟩,h.d,h.le,h.lim⟩,((Same.of_below hX (fun _ _ h=>h)).tr hXY).tr (Same.setCell _ _ _ _ (fun e=>e.1 rfl)),fun _ h=> .inl h,?_⟩
 ·exact hxY.aR 5 ak _
 ·exact hv.block fun g hg=>M _ _ _ _ (by have:=(hv.lt g hg).1;simp;omega)
 ·exact hown.block fun g hg=>M _ _ _ _ (by have:=(hown.lt g hg).1;simp;omega)
 ·intro g hgg
  rcases hat with e|e
  ·exact .inl (e▸hgg)
  ·right
   have:L g=L X.heap.size:=hgg.symm.trans e;injection this with this;omega
theorem L6 {R p:O} {s l:Bs} {c:aV} {n:aB} (w:S) (h:bX w R s p l c n) (hT:Lib.Utf8Tabs 6 7 w) (hl:n.names.length≤1000):
  Calls Tryz.prog 219 #[.pointer (L ⟨R,0,E⟩)] w (bQ R s c w (fun _:Unit=> .tuple #[]) (match bI l with| .error x=> .error x| .ok (m,r)=> .ok ((),addN n m,r))):=by
 obtain⟨X,hX⟩:∃X:Except Er (Unit × aB × Bs),X=(match bI l with| .error x=> .error x| .ok (m,r)=> .ok ((),addN n m,r)):=⟨_,rfl⟩;rw[←hX];have RES:U (∀ch w',(∃(r:Bs) (m:I),bI l= .error (r,m)∧ch=lM (s.length - r.length) m∧Same (kS R c) w.drew w')→bQ R s c w (fun _:Unit=> .tuple #[]) X (.panicked ch) w'):=C (by
  rintro ch w' ⟨r,m,h1,rfl,h2⟩;rw[hX,h1];exact⟨rfl,h2.os,h2.tape,h2.output,h2.size,h2.block⟩)
 have HX:=C hX;clear hX;have vH:=C (fun W (hb:Below w.heap.size w W)=>Ck W (h.below hb) (Utf8Tabs_below hT hb));obtain⟨i,z,hi,hz,hsize,bP,hzs⟩:=oZ;have HI:=C (⟨hi,hz,hsize,bP,hzs⟩:_∧_∧_∧_∧_);have HH:=C h;have HB0:U (Below w.heap.size w w.drew):=C ((F _ _).drew);have G6:U ((Value.slice c.na c.nn c.nc).ownBlock≠L R):=C (h.n.2.1.far' (.inl ah));have hcn:=h.n.1.2.2.2.2.1;have iK:U (n.names.length+1=c.nn+1):=C ah;have gX:U ((c.nn+1)*16≤140737488355328):=C ah;have fH:U (c.nn+1≤maxLen):=C (by unfold maxLen;omega);clear hcn;clear h hT hi hz hsize bP hzs;go_enter func219,ntmps219;go_wp2_with fail;refine bF 13 [(0,1),(1,1),(2,1),(3,1),(4,1),(5,0),(6,1),(7,2),(8,2),(9,2),(10,1),(11,1),(12,1),(13,2)] (fun _=>True) (fun W'=>W'.cell? ⟨R,3,E⟩=L (.slice c.na c.nn c.nc)) (fun ch w'=>∃(r:Bs) (m:I),bI l= .error (r,m)∧ch=lM (s.length - r.length) m∧Same (kS R c) w.drew w') au au (fun ch a1 w1 hd hr=>⟨hd,RES.q ch w1 hr⟩) (trivial) (HH.q.drew.c3) ?_;refine qC ?_;refine aF rfl rfl (fun K hK=>?_);go_simp;refine(vH.q _ HB0.q).mono ?_;intro e w2 he
 cases hnm:bI l with
 |error x=>
  rw[hnm] at he;obtain⟨rfl,hs⟩:=he;exact⟨rfl,x.1,x.2,rfl,rfl,hs⟩
 |ok mr=>
 obtain⟨m,r⟩:=mr;rw[hnm] at he;obtain⟨rfl,p2,hc2,hm2⟩:=he;have cu:=C hc2;have j6:=C hm2;have Cz:=C hnm;refine hK _ _ ⟨P,hc2.c3⟩ ?_;have ql:U (R+1≤(w2.alloc (.cells #[H ⟨m.toArray⟩] 9)).heap.size):=C (by have:=hc2.x.2.2;simp;omega);clear hK K hc2 hm2 hnm;refine aF rfl rfl (fun K hK=>?_);go_simp;refine hK _ _ ⟨P,(cu.q.below (av (F _ _) _)).c3⟩ ?_;clear hK K;refine aF rfl rfl (fun K hK=>?_);refine nk _ _ 22 rfl i z 16 underlying22 HI.q.1 HI.q.2.1 HI.q.2.2.1 HI.q.2.2.2.1 HI.q.2.2.2.2 rfl (cu.q.n.2.1.alloc _) (L ⟨w2.heap.size,0,E⟩) 1 1 (c.nn+1) [m] rfl (Row.str1 w2 m) iK.q gX.q fH.q ql.q ?_;intro a' c' w3 hown3 hg3 D9;have hx3:=(cu.q.x.keep (av (F _ _) (.cells #[H ⟨m.toArray⟩] 9))).grown hg3 G6.q;have HAD:=C (cu.q.addN (av (F _ _) (.cells #[H ⟨m.toArray⟩] 9)) a' c' hown3 hg3 D9);refine hK _ _ ⟨P,hx3.1 3⟩ ?_;have hc3:=hx3.1 3;have hf3:=hx3.2.1 3;clear hK K hown3 hg3 D9 hx3;refine qC ?_;refine dN rfl rfl rfl (fun K hK=>?_);go_simp;refine hK _ _ P ?_;clear hK K;refine iX ?_;go_wp2_with fail;refine bodyPost_end (results_none rfl _ _ _) rfl ?_;show bQ R s c w _ _ _ _;rw[HX.q,Cz.q];exact⟨rfl,p2,_,HAD.q.1,(Mv.of_below HB0.q).trans (j6.q.trans HAD.q.2)⟩
theorem FM {b:UInt8} {t:Bs} (h:eT b=true):aY (b::t)=aY t:=by unfold aY;rw[List.dropWhile_cons,Q h]
theorem vD {b:UInt8} {t:Bs} (h:eT b=false):aY (b::t)=b::t:=by unfold aY;rw[List.dropWhile_cons,h];rfl
def yw (c:UInt8):Bool:=lI c||decide (128≤c.toNat)
def Ah (l:Bs):O:=(l.takeWhile yw).length
def Qg (ws:List Bs) (l:Bs):Except Er (O × Bs):=
 match ws.findIdx? (fun s=>s==l.take (Ah l)) with
 |some i=> .ok (i,l.drop (Ah l))
 |none=> .error (l.drop (uy ws (l.take (Ah l))),220)
theorem aep {c:UInt8} (h:lI c=true):yw c=true:=by unfold yw;rw[h];rfl
theorem Li:∀l:Bs,l.takeWhile yw=l.takeWhile lI++(l.drop (l.takeWhile lI).length).takeWhile yw
 |[]=>rfl
 |a::t=>by
  rw[List.takeWhile_cons,List.takeWhile_cons]
  cases hb:lI a
  ·simp only[Bool.false_eq_true,if_false,List.nil_append,List.length_nil,List.drop_zero]
   rw[List.takeWhile_cons]
  ·rw[aep hb,Q rfl,Q rfl]
   simp only[List.length_cons,List.drop_succ_cons,List.cons_append];rw[←Li t]
theorem ZW (q:UInt8→Bool) (l:Bs):l.take (l.takeWhile q).length=l.takeWhile q:=by
 have:l=l.takeWhile q++l.dropWhile q:=(List.takeWhile_append_dropWhile).symm;generalize hx:l.takeWhile q=x at*;rw[this];simp
theorem drop_tw (q:UInt8→Bool) (l:Bs):l.drop (l.takeWhile q).length=l.dropWhile q:=by
 have:l=l.takeWhile q++l.dropWhile q:=(List.takeWhile_append_dropWhile).symm;generalize hx:l.takeWhile q=x at*;generalize hy:l.dropWhile q=y at*;rw[this];simp
theorem dw_head (q:UInt8→Bool):∀(l:Bs) (b:UInt8) (t:Bs),l.dropWhile q=b::t→q b=false
 |[],b,t,h=>by simp at h
 |a::l,b,t,h=>by
  rw[List.dropWhile_cons] at h
  cases hq:q a
  ·rw[hq] at h;simp at h;rw[←h.1];exact hq
  ·rw[hq] at h;exact dw_head q l b t (by simpa using h)
theorem Lj (b:UInt8) (u:Bs):∀(x a:Bs),(∀c∈x,c≠b)→gG x (a++b::u)=gG x a
 |[],a,_=>by simp[gG]
 |c::x,[],h=>by simp[gG,h c List.mem_cons_self]
 |c::x,d::a,h=>by
  rw[List.cons_append];simp only[gG];rw[Lj b u x a (fun e he=>h e (List.mem_cons_of_mem _ he))]
theorem ZX (b:UInt8) (u a:Bs) (ws:List Bs) (h:∀x∈ws,∀c∈x,c≠b):uy ws (a++b::u)=uy ws a:=by
 unfold uy;have:∀(ws:List Bs) (m:O),(∀x∈ws,∀c∈x,c≠b)→ws.foldl (fun m s=>max m (gG s (a++b::u))) m=ws.foldl (fun m s=>max m (gG s a)) m:=by
  intro ws
  induction ws with
  |nil=>intro m _;rfl
  |cons x ws ih=>
   intro m hm;simp only[List.foldl_cons];rw[Lj b u x a (hm x List.mem_cons_self),ih _ (fun y hy=>hm y (List.mem_cons_of_mem _ hy))]
 exact this ws 0 h
theorem DL (ws:List Bs) (l:Bs) (hw:∀x∈ws,∀c∈x,lI c=true):Qg ws l=bZ ws l:=by
 have hT:l.take (Ah l)=l.takeWhile yw:=ZW yw l;have hs:=Li l;have hd:=drop_tw lI l;unfold Qg bZ;rw[hT];have hst:cB l=l.takeWhile lI:=rfl
 cases hdw:l.dropWhile lI with
 |nil=>
  have hdr:l.drop (l.takeWhile lI).length=[]:=hd.trans hdw;rw[hdr] at hs;have hs':l.takeWhile yw=cB l:=by rw[hs];simp[cB]
  have Kk:kE l=cB l:=by unfold kE;rw[hst,hdr];rfl
  have hrun:Ah l=(cB l).length:=by unfold Ah;rw[hs']
  rw[hs',Kk,hrun]
  rfl
 |cons b t=>
  have hdr:l.drop (l.takeWhile lI).length=b::t:=hd.trans hdw;have hb:lI b=false:=dw_head lI l b t hdw;rw[hdr] at hs;by_cases h128:128≤b.toNat
  ·have hR:yw b=true:=by unfold yw;rw[decide_eq_true h128,Bool.or_true]
   rw[List.takeWhile_cons,hR,Q rfl] at hs;have Kk:kE l=cB l++[128]:=by
    unfold kE;rw[hst,hdr];simp only[List.head?_cons];rw[Q (show(128:UInt8)≤b from h128)]
   have n1:∀x∈ws,(x==l.takeWhile yw)=false:=fun x hx=>by
    rw[hs];refine beq_eq_false_iff_ne.2 (fun e=>?_);have:=hw x hx b (by rw[e];simp);rw[hb] at this;cases this
   have n2:∀x∈ws,(x==kE l)=false:=fun x hx=>by
    rw[Kk];refine beq_eq_false_iff_ne.2 (fun e=>?_);have:=hw x hx 128 (by rw[e];simp);revert this;decide
   rw[List.findIdx?_eq_none_iff.2 n1,List.findIdx?_eq_none_iff.2 n2];simp only[];rw[hs,ZX b _ _ ws (fun x hx c hc e=>by have:=hw x hx c hc;rw[e,hb] at this;cases this)]
   rfl
  ·have hR:yw b=false:=by unfold yw;rw[decide_eq_false h128,hb];rfl
   rw[List.takeWhile_cons,hR] at hs;have hs':l.takeWhile yw=cB l:=by rw[hs];simp[cB]
   have Kk:kE l=cB l:=by
    unfold kE;rw[hst,hdr];simp only[List.head?_cons];rw[if_neg (show ¬(128:UInt8)≤b from h128)]
   have hrun:Ah l=(cB l).length:=by unfold Ah;rw[hs']
   rw[hs',Kk,hrun]
   rfl
def Ll (l:Bs):I:=acH ⟨l.toArray⟩
def hdN (l:Bs):O:=if okB ⟨l.toArray⟩ 0=true then(N ⟨l.toArray⟩ 0).2 else 1
theorem Lm {l:Bs} (h:l≠[]):Ll l=if okB ⟨l.toArray⟩ 0=true then((N ⟨l.toArray⟩ 0).1:I) else -1:=by
 unfold Ll acH;rw[Q (by rw[dR];cases l with|nil=>exact absurd rfl h|cons a t=>simp)]
theorem X5 {b:UInt8} (t:Bs) (h:b.toNat<128):Ll (b::t)=b.toNat∧hdN (b::t)=1:=by
 rw[Lm ak];unfold hdN;rw[Iu b t h,Q rfl,Q rfl,mh b t h];exact⟨rfl,rfl⟩
theorem afQ {b:UInt8} (t:Bs) (h:128≤b.toNat):Ll (b::t)= -1∨128≤Ll (b::t):=by
 rw[Lm ak];have:=uV b t h
 split
 ·right;omega
 ·left;rfl
theorem afr (b:UInt8) (t:Bs) (k:O) (hk:k<128):(Ll (b::t)=(k:I))↔b.toNat=k:=by
 rcases Nat.lt_or_ge b.toNat 128 with h|h
 ·rw[(X5 t h).1];omega
 ·rcases afQ t h with e|e <;> constructor <;> intro <;> omega
theorem Tx (n n' b0 b1 b2 b3 c1 c2 c3 r w:O) (hw:Lib.decodeN n b0 b1 b2 b3=(r,w)) (hv:¬(r=65533∧w=1)) (hn:w≤n') (h1:1<w→c1=b1) (h2:2<w→c2=b2) (h3:3<w→c3=b3):Lib.decodeN n' b0 c1 c2 c3=(r,w):=by
 unfold Lib.decodeN at hw
 split at hw
 ·rename_i h
  unfold Lib.decodeN;rw[Q h];exact hw
 ·rename_i hA
  split at hw
  ·rename_i h
   split at hw
   ·rename_i hk
    injection hw with e1 e2;subst e2;obtain rfl:=h1 ah;unfold Lib.decodeN;rw[if_neg hA,Q ⟨h.1,by omega,h.2.2⟩,Q hk,e1]
   ·injection hw with e1 e2;exact absurd ⟨e1.symm,e2.symm⟩ hv
  ·rename_i hB
   split at hw
   ·rename_i h
    split at hw
    ·rename_i hk
     injection hw with e1 e2;subst e2;obtain rfl:=h1 ah;obtain rfl:=h2 ah;unfold Lib.decodeN;rw[if_neg hA,if_neg ah,Q ⟨h.1,⟨by omega,h.2.1.2⟩,by omega,h.2.2.2⟩,Q hk,e1]
    ·injection hw with e1 e2;exact absurd ⟨e1.symm,e2.symm⟩ hv
   ·rename_i hC
    split at hw
    ·rename_i h
     split at hw
     ·rename_i hk
      injection hw with e1 e2;subst e2;obtain rfl:=h1 ah;obtain rfl:=h2 ah;obtain rfl:=h3 ah;unfold Lib.decodeN;rw[if_neg hA,if_neg ah,if_neg ah,Q ⟨h.1,⟨by omega,h.2.1.2⟩,⟨by omega,h.2.2.1.2⟩,by omega,h.2.2.2.2⟩,Q hk,e1]
     ·injection hw with e1 e2;exact absurd ⟨e1.symm,e2.symm⟩ hv
    ·injection hw with e1 e2;exact absurd ⟨e1.symm,e2.symm⟩ hv
theorem afR {l:Bs} (h:okB ⟨l.toArray⟩ 0=true):¬((N ⟨l.toArray⟩ 0).1=65533∧(N ⟨l.toArray⟩ 0).2=1):=by
 rintro⟨h1,h2⟩;unfold okB at h;rw[h1,h2] at h;simp at h
theorem vY (l:Bs) (m k:O) (h:k<m):(l.take m).getD k 0=l.getD k 0:=by simp[List.getD,h]
theorem Lp (l:Bs):N ⟨l.toArray⟩ 0=Lib.decodeN l.length (l.getD 0 0).toNat (l.getD 1 0).toNat (l.getD 2 0).toNat (l.getD 3 0).toNat:=by
 have:=Lib.decode_N ⟨l.toArray⟩ 0
 simpa using this
theorem WT {l:Bs} {m:O} (h:okB ⟨l.toArray⟩ 0=true) (hm:(N ⟨l.toArray⟩ 0).2≤m) (hl:(N ⟨l.toArray⟩ 0).2≤l.length) (h0:0<m):N ⟨(l.take m).toArray⟩ 0=N ⟨l.toArray⟩ 0:=by
 have hv:=afR h;have hx:=Lp l;obtain⟨r,w,hq⟩:∃r w,N ⟨l.toArray⟩ 0=(r,w):=⟨_,_,rfl⟩;rw[hq] at hx hm hl hv ⊢;simp only at hm hl hv;rw[Lp (l.take m),vY l m 0 h0];refine Tx l.length _ _ _ _ _ _ _ _ r w hx.symm hv (by rw[List.length_take];omega) (fun h1=>?_) (fun h1=>?_) (fun h1=>?_)
 ·rw[vY l m 1 ah]
 ·rw[vY l m 2 ah]
 ·rw[vY l m 3 ah]
theorem WU (l:Bs) (h:l≠[]):bE ⟨l.toArray⟩ l.length 0=0::(bE ⟨(l.drop (N ⟨l.toArray⟩ 0).2).toArray⟩ (l.drop (N ⟨l.toArray⟩ 0).2).length 0).map ((N ⟨l.toArray⟩ 0).2+ ·):=by
 obtain⟨d,hd⟩:∃d,d=(N ⟨l.toArray⟩ 0).2:=⟨_,rfl⟩;have hw:=uI l h;rw[←hd] at hw ⊢;obtain⟨n,hn⟩:∃n,l.length=n+1:=⟨l.length - 1,by have:l.length≠0:=fun e=>h (List.eq_nil_of_length_eq_zero e);omega⟩;rw[hn];simp only[bE,dR];rw[Q ah,←hd,Nat.zero_add,←Nat.add_zero d,yM,Nat.add_zero,xB ⟨(l.drop d).toArray⟩ n (l.drop d).length 0 (by rw[dR,List.length_drop];omega) (by rw[dR];omega)]
theorem Tz {l:Bs} (h:l≠[]) (hk:(okB ⟨l.toArray⟩ 0 && fV ((N ⟨l.toArray⟩ 0).1:I))=true):bT l=(N ⟨l.toArray⟩ 0).2+bT (l.drop (N ⟨l.toArray⟩ 0).2):=by
 unfold bT;rw[dY l fV h,Q hk]
theorem Zq (l:Bs):bT l≤l.length:=pO fV _ l (Nat.le_refl _)
def BV (l:Bs) (k:O):Prop:=k≤bT l∧k+bT (l.drop k)=bT l∧
 ∃pre:List O,bE ⟨(l.take (bT l)).toArray⟩ (l.take (bT l)).length 0=pre++(bE ⟨((l.take (bT l)).drop k).toArray⟩ ((l.take (bT l)).drop k).length 0).map (k+ ·)∧∀x∈pre,x<k
theorem BV.zero (l:Bs):BV l 0:=⟨Nat.zero_le _,by simp,[],by simp,by simp⟩
theorem Ik {l:Bs} {k:O} (h:k+bT (l.drop k)=bT l):(l.take (bT l)).drop k=(l.drop k).take (bT (l.drop k)):=by
 rw[←h,List.drop_take];congr 1;omega
theorem BV.step {l:Bs} {k:O} (h:BV l k) (hne:l.drop k≠[]) (hk:(okB ⟨(l.drop k).toArray⟩ 0 && fV ((N ⟨(l.drop k).toArray⟩ 0).1:I))=true):
  BV l (k+(N ⟨(l.drop k).toArray⟩ 0).2)∧(24<k+(N ⟨(l.drop k).toArray⟩ 0).2→k≤24→24<bT l∧qd (l.take (bT l))=k):=by
 obtain⟨h1,h2,pre,hp,hx⟩:=h;have hst:=Tz hne hk;obtain⟨n,hn⟩:∃n,n=(N ⟨(l.drop k).toArray⟩ 0).2:=⟨_,rfl⟩;have hok:okB ⟨(l.drop k).toArray⟩ 0=true:=by
  revert hk;cases okB ⟨(l.drop k).toArray⟩ 0 <;> simp
 have hn1:=uI (l.drop k) hne;have hn2:=sO (l.drop k) hne;rw[←hn] at hst hn1 hn2 ⊢;rw[List.drop_drop] at hst;have htd:=Ik h2;have hdec:N ⟨((l.take (bT l)).drop k).toArray⟩ 0=N ⟨(l.drop k).toArray⟩ 0:=by
  rw[htd];exact WT hok (by rw[←hn];omega) (by rw[←hn];exact hn2) ah
 have hne2:(l.take (bT l)).drop k≠[]:=by
  rw[htd];intro e;have:=congrArg List.length e;rw[List.length_take] at this;simp only[List.length_nil] at this;have:=List.length_pos_iff.2 hne;omega
 have hpc:=WU _ hne2;rw[hdec,←hn,List.drop_drop] at hpc;have hall:bE ⟨(l.take (bT l)).toArray⟩ (l.take (bT l)).length 0=(pre++[k])++(bE ⟨((l.take (bT l)).drop (k+n)).toArray⟩ ((l.take (bT l)).drop (k+n)).length 0).map ((k+n)+ ·):=by
  rw[hp,hpc];simp[List.map_map,Function.comp_def,Nat.add_assoc]
 refine⟨⟨by omega,by omega,pre++[k],hall,fun x hxm=>?_⟩,fun sM aiU=>⟨by omega,?_⟩⟩
 ·rcases List.mem_append.1 hxm with hxm|hxm
  ·have:=hx x hxm;omega
  ·obtain rfl:x=k:=by simpa using hxm
   omega
 ·unfold qd
  rw[hall,List.filter_append,filter_all _ (pre++[k]) (fun x hxm=>?_),Hr _ _ (fun x hxm=>?_)]
  ·simp
  ·obtain⟨y,_,rfl⟩:=List.mem_map.1 hxm
   exact decide_eq_false ah
  ·rcases List.mem_append.1 hxm with hxm|hxm
   ·have:=hx x hxm;exact decide_eq_true ah
   ·obtain rfl:x=k:=by simpa using hxm
    exact decide_eq_true aiU
theorem FN (b:UInt8):fD b=true↔48≤b.toNat∧b.toNat≤57:=by
 unfold fD;rw[Bool.and_eq_true,decide_eq_true_eq,decide_eq_true_eq,UInt8.le_iff_toNat_le,UInt8.le_iff_toNat_le];rfl
theorem Gy (b:UInt8) (t:Bs):bL (b::t)=iO (Ll (b::t)):=by
 rw[Lm ak];unfold bL
 cases h:okB ⟨(b::t).toArray⟩ 0
 ·rw[if_neg ak];rfl
 ·rw[Q rfl];rfl
theorem O7 {c:I} (h:iO c=true):iY c=false:=by
 unfold iO at h;unfold iY;simp only[Bool.or_eq_true,Bool.and_eq_true,decide_eq_true_eq] at h;simp only[Bool.and_eq_false_iff,decide_eq_false_iff_not];omega
theorem Vp {l:Bs} (he:bR l=false) (hB:bL l=true) (h:bT l≤24):bI l= .ok (l.take (bT l),l.drop (bT l)):=by
 unfold bI;rw[if_neg (by rw[he,hB];simp),if_neg ah]
section
variable {w w':S} {B b:O} {c:aV} {n:aB}
theorem RL {l r:Bs} (h:bW l= .ok r):bN l= .ok (true,r):=by
 unfold bW at h
 cases hm:bN l with
 |error x=>rw[hm] at h;cases h
 |ok y=>
  obtain⟨b,r'⟩:=y;rw[hm] at h
  cases b
  ·cases h
  ·injection h with h;rw[h]
@[reducible] def WV (w:S) (g:O) (c:aV):S:=(((((w.setCell ⟨g,0,E⟩ (J G c.kind)).setCell ⟨g,1,E⟩ (.slice c.na c.nn c.nc)).setCell ⟨g,2,E⟩ (J G c.lvl)).setCell ⟨g,3,E⟩ (.slice c.va c.vn c.vc)).setCell ⟨g,4,E⟩ (.bool c.first)).setCell ⟨g,5,E⟩ (J G c.bits)
theorem H8 (w:S) (g:O) (c:aV):Same (fun i=>i≠g) w (WV w g c):=
 (((((Same.setCell _ _ _ _ ak).tr (Same.setCell _ _ _ _ ak)).tr (Same.setCell _ _ _ _ ak)).tr (Same.setCell _ _ _ _ ak)).tr (Same.setCell _ _ _ _ ak)).tr (Same.setCell _ _ _ _ ak)
theorem fq.WV {g:O} {c':aV} (h:fq w B c n) (h1:∀i,(Value.slice c.na c.nn c.nc).ownBlock=L i→i≠g) (h2:∀i,(Value.slice c.va c.vn c.vc).ownBlock=L i→i≠g):fq (WV w g c') B c n:=
 ⟨h.1,h.2.1.block fun i hi=>(H8 w g c').block i (h1 i hi) (h.2.1.lt i hi).2,h.2.2.block fun i hi=>(H8 w g c').block i (h2 i hi) (h.2.2.lt i hi).2⟩
end
theorem Vv {l:Bs} (h:bL l=false):bI l= .error (l,220):=by unfold bI;rw[Q (by rw[h];simp)]
theorem Kt (k:O):∀x∈iP.drop k,∀c∈x,lI c=true:=fun x hx=>by
 have:∀x∈iP,∀c∈x,lI c=true:=by decide
 exact this x (List.mem_of_mem_drop hx)
theorem Kv:∀x∈kD,∀c∈x,lI c=true:=by decide
theorem M8:∀x∈jV,∀c∈x,lI c=true:=by decide
theorem Zp {b:UInt8} {t:Bs} (h:bL (b::t)=true):0<bT (b::t):=by
 have hb:(okB ⟨(b::t).toArray⟩ 0 && iO ((N ⟨(b::t).toArray⟩ 0).1:I))=true:=by
  unfold bL at h
  simpa using h
 rw[Bool.and_eq_true] at hb;have hw:=uI (b::t) ak;unfold bT;rw[dY (b::t) fV ak,Q (by rw[hb.1];unfold fV;rw[hb.2];rfl)];omega
theorem Ku {ws:List Bs} {l r:Bs} {i:O} (h:Qg ws l= .ok (i,r)):i<ws.length:=by
 unfold Qg at h
 cases hf:ws.findIdx? (fun s=>s==l.take (Ah l)) with
 |none=>rw[hf] at h;cases h
 |some j=>
  rw[hf] at h;injection h with h;injection h with h _;subst h;exact(List.findIdx?_eq_some_iff_findIdx_eq.1 hf).1
def qp (R:O) (w:S):Prop:=∃w0:S,w0.heap.size≤R∧Below w0.heap.size w0 w∧Lib.Utf8Tabs 6 7 w0∧vW w0∧jY w0
theorem qp.tabs {R:O} {w:S} (h:qp R w):Lib.Utf8Tabs 6 7 w:=let⟨_,_,h2,h3,_⟩:=h;Utf8Tabs_below h3 h2
theorem qp.e {R:O} {w:S} (h:qp R w):vW w:=let⟨_,_,h2,_,h4,_⟩:=h;h4.below h2
theorem qp.l {R:O} {w:S} (h:qp R w):jY w:=let⟨_,_,h2,_,_,h5⟩:=h;h5.below h2
theorem qp.below {R:O} {w w':S} (h:qp R w) (hb:Below w.heap.size w w'):qp R w':=let⟨w0,h1,h2,h3⟩:=h;⟨w0,h1,h2.trans (hb.mono h2.size),h3⟩
theorem qp.mv {R p:O} {w w':S} {s l:Bs} {c:aV} {n:aB} (h:qp R w) (hc:bX w R s p l c n) (hs:Same (kS R c) w w'):qp R w':=
 let⟨w0,h1,h2,h3⟩:=h;⟨w0,h1,hs.below h2 (fun i hi=>hc.old ah) h2.size,h3⟩
theorem bX.put {w:S} {R p:O} {s l:Bs} {c:aV} {n:aB} (h:bX w R s p l c n) (b i:O) (v:Value) (hb:kS R c b):bX (w.setCell ⟨b,i,E⟩ v) R s p l c n:=
 ⟨h.x.setOther b i v (Ne.symm hb.1),⟨h.n.1,h.n.2.1.block fun g hg=>M _ _ _ _ (by rintro rfl;exact hb.2.1 hg),h.n.2.2.block fun g hg=>M _ _ _ _ (by rintro rfl;exact hb.2.2 hg)⟩,h.d,h.le,h.lim⟩
theorem Mv.put {R:O} {c c':aV} {w Y:S} (h:Mv R c c' w Y) (b i:O) (v:Value) (hb:w.heap.size≤b):Mv R c c' w (Y.setCell ⟨b,i,E⟩ v):=
 ⟨⟨h.same.os,h.same.tape,h.same.output,Nat.le_trans h.same.size (by simp[World.setCell]),fun j hj hl=>(M _ _ _ _ (by simp;omega)).trans (h.same.block j hj hl)⟩,h.na,h.va⟩
theorem Kn (q:UInt8→Bool):∀l:Bs,∀c∈l.takeWhile q,q c=true
 |[],_,h=>by simp at h
 |a::t,c,h=>by
  rw[List.takeWhile_cons] at h
  cases hq:q a
  ·rw[hq] at h;simp at h
  ·rw[hq,Q rfl] at h
   rcases List.mem_cons.1 h with rfl|h
   ·exact hq
   ·exact Kn q t c h
theorem WW (nm:Bs) (l:Bs):((jL l).head?=E∨(jL l).head?=L 45∨(jL l).head?=L 48)∧rz nm l= .error (l,220)∨
  (∃b t,jL l=b::t∧b.toNat≠45∧b.toNat≠48)∧jL l=l.takeWhile fD∧(∀c∈jL l,fD c=true)∧rz nm l=(if 999<mR (jL l) then .error (l,3) else .ok (⟨nm,mR (jL l)⟩,l.drop (jL l).length)):=by
 by_cases h45:l.head?=L 45
 ·obtain⟨t,rfl⟩:∃t,l=45::t:=by cases l with
   |nil=>simp at h45
   |cons a t=>exact⟨t,by simpa using h45⟩
  have hds:(45::t:Bs).takeWhile fD=[]:=by rw[List.takeWhile_cons];rfl
  left
  constructor
  ·unfold jL
   rw[Q (show(45::t:Bs).head?=L 45 from rfl)]
   split
   ·exact .inl rfl
   ·exact .inr (.inl rfl)
  ·unfold rz
   simp only[hds];rw[Q (.inl rfl)]
 ·have hh:jL l=l.takeWhile fD:=by unfold jL;rw[if_neg h45]
  rw[hh];have hall:∀c∈l.takeWhile fD,fD c=true:=Kn fD l
  cases hd:l.takeWhile fD with
  |nil=>
   left
   refine⟨.inl rfl,?_⟩;unfold rz;simp only[hd];rw[Q (.inl rfl)]
  |cons b t=>
   by_cases h48:b=48
   ·left
    subst h48;refine⟨.inr (.inr rfl),?_⟩;unfold rz;simp only[hd];rw[Q (.inr rfl)]
   ·right
    rw[hd] at hall;refine⟨⟨b,t,rfl,?_,fun e=>h48 (UInt8.toNat_inj.1 e)⟩,rfl,hall,?_⟩
    ·intro e
     have:=hall b ak;rw[D6,e] at this;exact absurd this aj
    ·unfold rz
     simp only[hd];rw[if_neg (by simpa using h48)]
theorem bX.drewN {w:S} {R p:O} {s l:Bs} {c:aV} {n:aB} (h:bX w R s p l c n) (k:O):bX (w.drewN k) R s p l c n:=⟨h.x,h.n,h.d,h.le,h.lim⟩
theorem Same.TA {A:O→Prop} (X:S) (n:O):Same A X (X.drewN n):=⟨rfl,rfl,rfl,Nat.le_refl _,fun _ _ _=>rfl⟩
theorem Fg {R p:O} {s l:Bs} {c:aV} {n:aB} (w:S) (h:bX w R s p l c n) (hG:qp R w) (hl:n.aA.length≤1000):
  Calls Tryz.prog 221 #[.pointer (L ⟨R,0,E⟩)] w (bQ R s c w (fun _:Unit=> .tuple #[]) (match dQ l with| .error x=> .error x| .ok (v,r)=> .ok ((),Ag n v,r))):=by
 obtain⟨X,hX⟩:∃X:Except Er (Unit × aB × Bs),X=(match dQ l with| .error x=> .error x| .ok (v,r)=> .ok ((),Ag n v,r)):=⟨_,rfl⟩;rw[←hX];have HX:=C hX;clear hX;have HEN:=C (fun W (hb:Below w.heap.size w W)=>Cn W (h.below hb));have vH:=C (fun W (hb:Below w.heap.size w W)=>Ck W (h.below hb) (hG.below hb).tabs);have HG:=C hG;obtain⟨i,z,hi,hz,hsize,bP,hzs⟩:=Mx;have HI:=C (⟨hi,hz,hsize,bP,hzs⟩:_∧_∧_∧_∧_);have HH:=C h;have HB0:U (Below w.heap.size w w.drew):=C ((F _ _).drew);have G6:U ((Value.slice c.va c.vn c.vc).ownBlock≠L R):=C (h.n.2.2.far' (.inl ah));have hcn:=h.n.1.2.2.2.2.2;have iK:U (n.aA.length+1=c.vn+1):=C ah;have gX:U ((c.vn+1)*24≤140737488355328):=C ah;have fH:U (c.vn+1≤maxLen):=C (by unfold maxLen;omega);have hlim:=h.lim;have hlen:=h.len;clear hcn h hG hi hz hsize bP hzs;by_cases hsg:∃t,l=45::t
 ·obtain⟨t,rfl⟩:=hsg
  have NN:U (bR (45::t)=false):=C (by rw[gF];rfl);have hix:=fun W=>gQ Tryz.underlying9 s p 45 HH.q.at_ W
  have hlt:p<s.length:=by simp at hlen;omega
  have qN:U (X= .ok ((),Ag n ⟨[],0⟩,t)):=C (by rw[HX.q];unfold dQ;rw[Q (show(45::t:Bs).head?=L 45 from rfl)];rfl);go_enter func221,ntmps221;go_wp2_with fail;refine aK 99 [(0,0),(1,2),(2,0),(3,0),(4,0),(5,0),(6,0),(7,0),(8,0),(9,0),(10,0),(11,0),(12,0),(13,0),(14,0)] (fun _=>True) (fun W'=>W'.cell? ⟨R,0,E⟩=L (H ⟨s.toArray⟩)∧W'.cell? ⟨R,1,E⟩=L (J G p)) au au (trivial) (⟨HH.q.drew.c0,HH.q.drew.c1⟩) ?_;refine qC ?_;refine aF rfl rfl (fun K hK=>?_);go_simp;refine(HEN.q _ HB0.q).mono ?_;rintro e w1 ⟨rfl,hb1⟩;have hc1:=HH.q.drew.below hb1;have Ai:=C hc1;have HB1:=C (HB0.q.bq hb1);rw[NN.q];refine hK _ _ ⟨P,hc1.c0,hc1.c1⟩ ?_;clear hK K hb1 hc1;refine qC ?_;refine bB ?_;have HT1:=Ai.q.to 1 rfl ak (p+1) rfl;have HT:=C HT1.1;have HM:=C HT1.2;rw[Int.natCast_add] at HT HM;have c1:=Ai.q.c1;have z1:=f1 Ai.q 1;have c5:=Ai.q.c5;clear HT1;have Aq:U ((w1.setCell ⟨R,1,E⟩ (J G ((p:I)+1))).heap.size=w1.heap.size):=C ak;have ql:U (R+1≤((w1.setCell ⟨R,1,E⟩ (J G ((p:I)+1))).alloc (.cells #[H ⟨([]:Bs).toArray⟩,J G 0] 76)).heap.size):=C (by have:=HT.q.x.2.2;simp at*;omega)
  go_wp2_with (at_builtin;refine dV rfl _ _ 32 rfl i z 24 underlying32 HI.q.1 HI.q.2.1 HI.q.2.2.1 HI.q.2.2.2.1 HI.q.2.2.2.2 rfl (HT.q.n.2.2.alloc _) (L ⟨w1.heap.size,0,E⟩) 1 1 (c.vn+1) [⟨[],0⟩] rfl (Row.toN Aq.q ⟨[],0⟩) iK.q gX.q fH.q ql.q ?_;intro a' c' w3 hown3 hg3 D9;have hx3:=(HT.q.x.keep (av (F _ _) (.cells #[H ⟨([]:Bs).toArray⟩,J G 0] 76))).grown hg3 G6.q;have HAD:=C (HT.q.Ag (av (F _ _) (.cells #[H ⟨([]:Bs).toArray⟩,J G 0] 76)) a' c' hown3 hg3 D9);have hc3:=hx3.1 5;have hf3:=hx3.2.1 5;clear hown3 hg3 D9 hx3)
  refine bodyPost_ret (results_none rfl _ _ _) rfl ?_;show bQ R s c w _ _ _ _;rw[qN.q];exact⟨rfl,p+1,_,HAD.q.1,(Mv.of_below HB1.q).trans (HM.q.trans HAD.q.2)⟩
 ·have h45:¬l.head?=L 45:=fun e=>hsg (by cases l with
   |nil=>simp at e
   |cons a t=>exact⟨t,by simp at e;rw[e]⟩)
  have E8:U (∀x,bI l= .error x→(match dQ l with| .error x=> .error x| .ok (v,r)=> .ok ((),Ag n v,r):Except Er (Unit × aB × Bs))= .error x):=C (fun x hx=>by unfold dQ;rw[if_neg h45,hx]);have HVO:U (∀m r,bI l= .ok (m,r)→dQ l=if r.head?=L 46 then rz m r.tail else .error (r,220)):=C (fun m r hx=>by unfold dQ;rw[if_neg h45,hx]);clear h45
  cases hee:bR l
  ·obtain⟨b0,t0,rfl⟩:∃b0 t0,l=b0::t0:=by cases l with
    |nil=>exact absurd hee aj
    |cons a t=>exact⟨a,t,rfl⟩
   have NN:U (bR (b0::t0)=false):=C hee;have aly:=fun W=>gQ Tryz.underlying9 s p b0 HH.q.at_ W
   have alz:p<s.length:=by simp at hlen;omega
   have VP:((b0.toNat:I)==45)=false:=beq_eq_false_iff_ne.2 (fun e=>hsg ⟨t0,by rw[show b0=45 from UInt8.toNat_inj.1 (by show b0.toNat=45;omega)]⟩);clear hee hsg;go_enter func221,ntmps221;go_wp2_with fail;refine aK 99 [(0,0),(1,2),(2,0),(3,0),(4,0),(5,0),(6,0),(7,0),(8,0),(9,0),(10,0),(11,0),(12,0),(13,0),(14,0)] (fun _=>True) (fun W'=>W'.cell? ⟨R,0,E⟩=L (H ⟨s.toArray⟩)∧W'.cell? ⟨R,1,E⟩=L (J G p)) au au (trivial) (⟨HH.q.drew.c0,HH.q.drew.c1⟩) ?_;refine qC ?_;refine aF rfl rfl (fun K hK=>?_);go_simp;refine(HEN.q _ HB0.q).mono ?_;rintro e w1 ⟨rfl,hb1⟩;have hc1:=HH.q.drew.below hb1;have Ai:=C hc1;have HB1:=C (HB0.q.bq hb1);rw[NN.q];refine hK _ _ ⟨P,hc1.c0,hc1.c1⟩ ?_;clear hK K hb1 hc1;refine qC ?_;refine bB ?_;go_wp2_with fail;refine(vH.q _ HB1.q).mono ?_;intro e w2 he
   cases hnm:bI (b0::t0) with
   |error x=>
    rw[hnm] at he;obtain⟨rfl,hs⟩:=he;refine⟨rfl,?_⟩;show bQ R s c w _ _ _ _;rw[HX.q,E8.q x hnm];exact⟨rfl,(Same.of_below HB1.q (fun _ _ h=>h)).tr hs⟩
   |ok mr=>
   obtain⟨m,r⟩:=mr;rw[hnm] at he;obtain⟨rfl,p2,hc2,hm2⟩:=he;have I5:=C (HVO.q m r hnm);have cu:=C hc2;have j6:=C ((Mv.of_below HB1.q).trans hm2);have hcA:=hc2.below (av (F _ _) (.cells #[H ⟨m.toArray⟩,J G 0] 76));have HCA:=C hcA;have KZ:=C (j6.q.trans (Mv.of_below (av (F w2.heap.size w2) (.cells #[H ⟨m.toArray⟩,J G 0] 76))));have HYA:=C (Bx.new w2 #[H ⟨m.toArray⟩,J G 0] 76);have Bt:=C (hc2.new (Nat.le_refl _));have yx:=hc2.len;have c0:=hcA.c0;have c1:=hcA.c1;have z1:=f1 hcA 1;have hz:=dR s;clear hc2 hm2 hcA hnm
   cases hr:r with
   |nil=>
    have hd1:((p2:I)==(s.length:I))=true:=by rw[hr] at yx;simp at yx;simp[yx]
    have qN:U (dQ (b0::t0)= .error ([],220)):=C (by rw[I5.q,hr];rfl);have HQ:U (s.length - ([]:Bs).length=p2):=C (by rw[hr] at yx;simp at yx ⊢;omega);clear hr yx
    go_wp2_with (go_quiet (fail))
    refine(jT p2 220 _).mono ?_;rintro e w9 ⟨rfl,rfl⟩;refine⟨rfl,?_⟩;show bQ R s c w _ _ _ _;rw[HX.q,qN.q];exact⟨by rw[HQ.q],KZ.q.same.tr (Same.TA _ _)⟩
   |cons b2 t2=>
   subst hr;have hd1:((p2:I)==(s.length:I))=false:=beq_eq_false_iff_ne.2 (by simp at yx;omega);have Jk:=fun W=>gQ Tryz.underlying9 s p2 b2 HCA.q.at_ W
   have HL2:=C yx;by_cases h46:b2=46
   ·subst h46
    have VR:(((46:UInt8).toNat:I)!=46)=false:=rfl;have qN:U (dQ (b0::t0)=rz m t2):=C (by rw[I5.q];rfl);have hp2:p2+1≤s.length:=by have:=HL2.q;simp at this;omega
    have hd3:s.drop (p2+1)=t2:=by rw[←List.drop_drop,HCA.q.d];rfl
    have hsl2:∀W,(Instr.slice 9 (H ⟨s.toArray⟩) (L (J G ((p2:I)+1))) E E).run Tryz.prog W= .ok (H ⟨t2.toArray⟩) W:=fun W=>by have:=lG Tryz.underlying9 s (p2+1) hp2 W;rw[hd3] at this;exact this
    have HHE:=fun W=>C (Nr t2 (by have:=HL2.q;simp at this;omega) W)
    clear hd3;have jR:=WW m t2;have hDl:(jL t2).length≤t2.length:=by unfold jL;split;split;exact Nat.zero_le _;rw[List.length_take];exact Nat.min_le_right _ _;have:=lY fD t2;omega
    revert HHE jR hDl;generalize jL t2=D;intro HHE jR hDl;have Gp:=C hDl;have Dl:=C jR;clear hDl jR
    go_wp2_with (go_quiet (fail))
    have HT1:=(HCA.q.drewN nq).to 1 rfl ak (p2+1) rfl;have TB:U (bX (((w2.alloc (.cells #[H ⟨m.toArray⟩,J G 0] 76)).drewN nq).setCell ⟨R,1,E⟩ (J G ((p2:I)+1))) R s (p2+1) t2 c n):=C HT1.1;have HTM:U (Mv R c c w (((w2.alloc (.cells #[H ⟨m.toArray⟩,J G 0] 76)).drewN nq).setCell ⟨R,1,E⟩ (J G ((p2:I)+1)))):=C ((KZ.q.trans (Mv.of_below (dA (F _ _) nq))).trans HT1.2);have YD:U (Bx (((w2.alloc (.cells #[H ⟨m.toArray⟩,J G 0] 76)).drewN nq).setCell ⟨R,1,E⟩ (J G ((p2:I)+1))) w2.heap.size #[H ⟨m.toArray⟩,J G 0]):=C ((HYA.q.drewN nq).setOther R 1 (J G ((p2:I)+1)) (by have:=cu.q.x.2.2;omega));clear HT1 c0 c1 z1 hd1;revert TB HTM YD;generalize(((w2.alloc (.cells #[H ⟨m.toArray⟩,J G 0] 76)).drewN nq).setCell ⟨R,1,E⟩ (J G ((p2:I)+1)))=V;intro TB HTM YD;obtain⟨tb,htb⟩:∃tb,tb=w2.heap.size:=⟨_,rfl⟩;rw[←htb] at YD Bt ⊢;have HTB:U (tb≠R):=C (fun e=>Bt.q.1 e);have IQ:U (w.heap.size≤tb):=C (by rw[htb];exact j6.q.same.size);clear htb;refine aK 99 [(0,0),(1,0),(2,0),(3,0),(4,0),(5,0),(6,0),(7,0),(8,0),(9,2),(10,0),(11,0),(12,0),(13,0),(14,0)] (fun _=>True) (fun W'=>W'.cell? ⟨R,0,E⟩=L (H ⟨s.toArray⟩)∧W'.cell? ⟨R,1,E⟩=L (J G ((p2:I)+1))) au au (trivial) (⟨TB.q.drew.c0,TB.q.drew.c1⟩) ?_;refine qC ?_;refine aF rfl rfl (fun K hK=>?_);go_simp;refine(HHE _).q.mono ?_;rintro e w4 ⟨rfl,hb4⟩;have hc4:=TB.q.drew.below hb4;have iG:=C hc4;have Az:=C ((HTM.q.trans (Mv.of_below (F _ _).drew)).trans (Mv.of_below hb4));have j4:=C (YD.q.drew.keep hb4);refine hK _ _ ⟨P,hc4.c0,hc4.c1⟩ ?_;clear hK K hb4 hc4;refine qC ?_;refine bB ?_;have c0:=iG.q.c0;have z1:=f1 iG.q 1;have c1:w4.cell? ⟨R,1,E⟩=L (J G ((p2:I)+1)):=iG.q.c1;clear hsl2;rcases Dl.q with⟨hbad,NP⟩|⟨⟨b3,t3,hh,h45,h48⟩,hht,hal,NP⟩
    ·have En:=C NP
     have HQ:U (s.length - t2.length=p2+1):=C (by have:=HL2.q;simp at this;omega);have HF:U (∀W,Calls Tryz.prog 164 #[J G ((p2:I)+1),J G 220] W fun e w'=>e= .panicked (lM (p2+1) 220)∧w'=W):=C (fun W=>jT (p2+1) 220 W);clear NP
     cases D with
     |nil=>
      go_wp2_with fail;refine(HF.q _).mono ?_;rintro e w9 ⟨rfl,rfl⟩;refine⟨rfl,?_⟩;show bQ R s c w _ _ _ _;rw[HX.q,qN.q,En.q];exact⟨by rw[HQ.q],Az.q.same⟩
     |cons b3 t3=>
      have hbb:b3=45∨b3=48:=by simpa using hbad
      have hi0:∀W,(Instr.index 9 (H ⟨(b3::t3).toArray⟩) (J G 0)).run Tryz.prog W= .ok (.int .u8 (b3.toNat:I)) W:=fun W=>gQ Tryz.underlying9 (b3::t3) 0 b3 rfl W
      have hem:((b3::t3)==([]:Bs))=false:=rfl;clear hbad;by_cases h45:b3.toNat=45
      ·have e45:((b3.toNat:I)==45)=true:=by simp[h45]
       clear hbb h45;go_wp2_with fail;refine(HF.q _).mono ?_;rintro e w9 ⟨rfl,rfl⟩;refine⟨rfl,?_⟩;show bQ R s c w _ _ _ _;rw[HX.q,qN.q,En.q];exact⟨by rw[HQ.q],Az.q.same⟩
      ·have h48:b3.toNat=48:=by rcases hbb with rfl|rfl;exact absurd rfl h45;rfl
       have e45:((b3.toNat:I)==45)=false:=beq_eq_false_iff_ne.2 ah;have e48:((b3.toNat:I)==48)=true:=by simp[h48]
       clear hbb h45 h48;go_wp2_with fail;refine(HF.q _).mono ?_;rintro e w9 ⟨rfl,rfl⟩;refine⟨rfl,?_⟩;show bQ R s c w _ _ _ _;rw[HX.q,qN.q,En.q];exact⟨by rw[HQ.q],Az.q.same⟩
    ·skip
     clear hht;subst hh;have hne:(b3::t3:Bs)≠[]:=by simp
     have hi0:∀W,(Instr.index 9 (H ⟨(b3::t3).toArray⟩) (J G 0)).run Tryz.prog W= .ok (.int .u8 (b3.toNat:I)) W:=fun W=>gQ Tryz.underlying9 (b3::t3) 0 b3 rfl W
     have e45:((b3.toNat:I)==45)=false:=beq_eq_false_iff_ne.2 ah;have e48:((b3.toNat:I)==48)=false:=beq_eq_false_iff_ne.2 ah;have hem:((b3::t3)==([]:Bs))=false:=rfl;have hzd:=dR (b3::t3);have hle3:=iG.q.len;have hdl:=Gp.q;have HAT:=C (Zr (b3::t3) hne hal ah w4 ((HG.q.mv HH.q Az.q.same).e));obtain⟨V,hV⟩:∃V,V=mR (b3::t3):=⟨_,rfl⟩;rw[←hV] at HAT NP;have En:=C NP;have HL3:=C hle3;clear hal NP h45 h48 hV hle3 hne;go_wp2_with fail;refine HAT.q.mono ?_;rintro e w5 ⟨kk,er,rfl,hb5,hkr⟩;have iQ:=C (iG.q.below hb5);have yg:=C (Az.q.trans (Mv.of_below hb5));have kR:=C (j4.q.keep hb5);have z1:=f1 iQ.q 1;have c1:w5.cell? ⟨R,1,E⟩=L (J G ((p2:I)+1)):=iQ.q.c1;have pz:U (∀W,Calls Tryz.prog 164 #[J G ((p2:I)+1),J G 3] W fun e w'=>e= .panicked (lM (p2+1) 3)∧w'=W):=C (fun W=>jT (p2+1) 3 W);have HQ:U (s.length - t2.length=p2+1):=C (by have:=HL2.q;simp at this;omega);clear hb5;rcases hkr with⟨rfl,rfl,hmx⟩|⟨h9,T,pp,rfl⟩
     ·by_cases h9:999<V
      ·have Jf:=C h9
       have hd9:decide ((999:I)<(V:I))=true:=decide_eq_true ah;clear h9;go_wp2_with fail;refine(pz.q _).mono ?_;rintro e w9 ⟨rfl,rfl⟩;refine⟨rfl,?_⟩;show bQ R s c w _ _ _ _;rw[HX.q,qN.q,En.q,Q Jf.q];exact⟨by rw[HQ.q],yg.q.same⟩
      ·have Jf:=C h9
       have hd9:decide ((999:I)<(V:I))=false:=decide_eq_false ah;obtain⟨q,hq⟩:∃q,q=p2+1+(b3::t3).length:=⟨_,rfl⟩;have hqi:(p2:I)+1+((b3::t3).length:I)=(q:I):=by omega
       have alA:(p2:I)+1+((t3.length:I)+1)=(q:I):=by simp at hq;omega
       have CQ:q≤2000000:=by have:=HL3.q;omega
       have Cx:=iQ.q.to (b3::t3).length rfl Gp.q q hq;have hcy:=kR.q.1;have xO:=kR.q.2.1;have hn1:¬tb=R:=HTB.q;have hn2:¬R=tb:=fun e=>HTB.q e.symm
       have wC:=C (Cx.1.put tb 1 (J G (V:I)) Bt.q);have ND:=C ((yg.q.trans Cx.2).put tb 1 (J G (V:I)) IQ.q);have xu:U (Bx ((w5.setCell ⟨R,1,E⟩ (J G (q:I))).setCell ⟨tb,1,E⟩ (J G (V:I))) tb #[H ⟨m.toArray⟩,J G (V:I)]):=C ((kR.q.setOther R 1 (J G (q:I)) hn1).aR 1 ak (J G (V:I)));clear h9 hq Cx;go_wp2_with fail;revert wC ND xu;generalize((w5.setCell ⟨R,1,E⟩ (J G (q:I))).setCell ⟨tb,1,E⟩ (J G (V:I)))=Z;intro wC ND xu;clear hcy xO z1 c1;have ql:U (R+1≤(Z.drew.alloc (.cells #[H ⟨m.toArray⟩,J G (V:I)] 76)).heap.size):=C (by have:=wC.q.x.2.2;simp;omega);refine aK 12 [(0,1),(1,1),(2,1),(3,1),(4,1),(5,0),(6,0),(7,2),(8,2),(9,1),(10,1),(11,1),(12,2)] (fun _=>True) (fun W'=>W'.cell? ⟨R,5,E⟩=L (.slice c.va c.vn c.vc)∧W'.cell? ⟨tb,0,E⟩=L (H ⟨m.toArray⟩)∧W'.cell? ⟨tb,1,E⟩=L (J G (V:I))) au au (trivial) (⟨wC.q.drew.c5,xu.q.drew.1 0,xu.q.drew.1 1⟩) ?_;refine qC ?_;refine aF rfl rfl (fun K hK=>?_);go_simp;refine hK _ _ ⟨P,(wC.q.drew.below (av (F _ _) _)).c5,(xu.q.drew.alloc _).1 0,(xu.q.drew.alloc _).1 1⟩ ?_;clear hK K;refine aF rfl rfl (fun K hK=>?_);refine nk _ _ 32 rfl i z 24 underlying32 HI.q.1 HI.q.2.1 HI.q.2.2.1 HI.q.2.2.2.1 HI.q.2.2.2.2 rfl (wC.q.drew.n.2.2.alloc _) (L ⟨Z.heap.size,0,E⟩) 1 1 (c.vn+1) [⟨m,V⟩] rfl (Row.toN rfl ⟨m,V⟩) iK.q gX.q fH.q ql.q ?_;intro a' c' w7 YE NJ aew;have hx7:=(wC.q.drew.x.keep (av (F _ _) (.cells #[H ⟨m.toArray⟩,J G (V:I)] 76))).grown NJ G6.q;have HAD:=C (wC.q.drew.Ag (av (F _ _) (.cells #[H ⟨m.toArray⟩,J G (V:I)] 76)) a' c' YE NJ aew);have hy7:Bx w7 tb #[H ⟨m.toArray⟩,J G (V:I)]:=(xu.q.drew.alloc _).grown NJ Bt.q.2.2;refine hK _ _ ⟨P,hx7.1 5,hy7.1 0,hy7.1 1⟩ ?_;have Yr:=hx7.1 5;have hf7:=hx7.2.1 5;clear hK K YE NJ aew hx7 hy7;refine qC ?_;refine dN rfl rfl rfl (fun K hK=>?_);go_simp;refine hK _ _ P ?_;clear hK K;refine bB ?_;go_wp2_with fail;refine bodyPost_end (results_none rfl _ _ _) rfl ?_;show bQ R s c w _ _ _ _;rw[HX.q,qN.q,En.q,if_neg Jf.q];exact⟨rfl,q,_,HAD.q.1,(ND.q.trans (Mv.of_below (F _ _).drew)).trans HAD.q.2⟩
     ·have Jf:=C h9
      clear h9;go_wp2_with fail;refine(pz.q _).mono ?_;rintro e w9 ⟨rfl,rfl⟩;refine⟨rfl,?_⟩;show bQ R s c w _ _ _ _;rw[HX.q,qN.q,En.q,Q Jf.q];exact⟨by rw[HQ.q],yg.q.same⟩
   ·have VR:((b2.toNat:I)!=46)=true:=bne_iff_ne.2 (fun e=>h46 (UInt8.toNat_inj.1 (by show b2.toNat=46;omega)))
    have qN:U (dQ (b0::t0)= .error (b2::t2,220)):=C (by rw[I5.q,if_neg (by simpa using h46)]);have HQ:U (s.length - (b2::t2).length=p2):=C ah;clear h46
    go_wp2_with (go_quiet (fail))
    refine(jT p2 220 _).mono ?_;rintro e w9 ⟨rfl,rfl⟩;refine⟨rfl,?_⟩;show bQ R s c w _ _ _ _;rw[HX.q,qN.q];exact⟨by rw[HQ.q],KZ.q.same.tr (Same.TA _ _)⟩
  ·have NN:U (bR l=true):=C hee
   clear hee hsg;go_enter func221,ntmps221;go_wp2_with fail;refine aK 99 [(0,0),(1,2),(2,0),(3,0),(4,0),(5,0),(6,0),(7,0),(8,0),(9,0),(10,0),(11,0),(12,0),(13,0),(14,0)] (fun _=>True) (fun W'=>W'.cell? ⟨R,0,E⟩=L (H ⟨s.toArray⟩)∧W'.cell? ⟨R,1,E⟩=L (J G p)) au au (trivial) (⟨HH.q.drew.c0,HH.q.drew.c1⟩) ?_;refine qC ?_;refine aF rfl rfl (fun K hK=>?_);go_simp;refine(HEN.q _ HB0.q).mono ?_;rintro e w1 ⟨rfl,hb1⟩;have hc1:=HH.q.drew.below hb1;have Ai:=C hc1;have HB1:=C (HB0.q.bq hb1);rw[NN.q];refine hK _ _ ⟨P,hc1.c0,hc1.c1⟩ ?_;clear hK K hb1 hc1;refine qC ?_;refine bB ?_;go_wp2_with fail;refine(vH.q _ HB1.q).mono ?_;intro e w2 he
   cases hnm:bI l with
   |error x=>
    rw[hnm] at he;obtain⟨rfl,hs⟩:=he;refine⟨rfl,?_⟩;show bQ R s c w _ _ _ _;rw[HX.q,E8.q x hnm];exact⟨rfl,(Same.of_below HB1.q (fun _ _ h=>h)).tr hs⟩
   |ok mr=>exact absurd hnm (by unfold bI;rw[Q (by rw[NN.q];rfl)];intro h;cases h)
theorem Own.aiV {X:S} {g:O} (h:X.heap.size=g) (l:List Bs) (hl:l.length≤maxLen):Own (X.alloc (.cells (l.map (fun s=>Value.string ⟨s.toArray⟩)).toArray 9)) g 9 1 encStr (.slice (L ⟨g,0,E⟩) l.length l.length) l:=by
 subst h;exact Own.new (hc:=iM) X X.heap.size 9 _ l (Nat.le_refl _) (by
  show l.map (fun s=>Value.string ⟨s.toArray⟩)=l.flatMap encStr
  induction l with
  |nil=>rfl
  |cons a l ih=>rw[List.map_cons,List.flatMap_cons,ih (by simp at hl;omega)];rfl) hl
theorem bX.Ae {w:S} {R p:O} {s l:Bs} {c:aV} {n:aB} (h:bX w R s p l c n) (i:O) (v:Value) (c':aV) (n':aB) (hi:i<8) (hc:(oh s p c).setIfInBounds i v=oh s p c')
  (h1:c'.na=c.na∧c'.nn=c.nn∧c'.nc=c.nc∧c'.va=c.va∧c'.vn=c.vn∧c'.vc=c.vc) (h2:n'.names=n.names∧n'.aA=n.aA) (h3:c'.kind=n'.kind∧c'.lvl=n'.lvl∧c'.first=n'.first∧c'.bits=n'.bits):
  bX (w.setCell ⟨R,i,E⟩ v) R s p l c' n'∧Mv R c c' w (w.setCell ⟨R,i,E⟩ v):=by
 obtain⟨e1,e2,e3,e4,e5,e6⟩:=h1;obtain⟨⟨_,_,_,_,l1,l2⟩,o1,o2⟩:=h.n;have hx:=h.x.aR i (by simpa using hi) v;rw[hc] at hx;refine⟨⟨hx,⟨⟨h3.1,h3.2.1,h3.2.2.1,h3.2.2.2,by rw[e2,h2.1];exact l1,by rw[e5,h2.2];exact l2⟩,?_,?_⟩,h.d,h.le,h.lim⟩,Same.setCell _ _ _ _ (fun e=>e.1 rfl),?_,?_⟩
 ·rw[e1,e2,e3,h2.1];exact o1.block fun g hg=>M _ _ _ _ (by have:=(o1.lt g hg).1;simp;omega)
 ·rw[e4,e5,e6,h2.2];exact o2.block fun g hg=>M _ _ _ _ (by have:=(o2.lt g hg).1;simp;omega)
 ·rw[e1,e2,e3];exact fun _ h=> .inl h
 ·rw[e4,e5,e6];exact fun _ h=> .inl h
theorem H9:(∀x∈kD,x.length≤100)∧(∀x∈kD,(128:UInt8)∉x):=by decide
theorem WX {R p:O} {s l:Bs} {c:aV} {n:aB} (w:S) (h:bX w R s p l c n):
  Calls Tryz.prog 220 #[.pointer (L ⟨R,0,E⟩)] w (bQ R s c w (fun _:Unit=> .tuple #[]) (match bZ kD l with| .error x=> .error x| .ok (i,r)=> .ok ((),{n with lvl:=1+(i:I)},r))):=by
 obtain⟨X,hX⟩:∃X:Except Er (Unit × aB × Bs),X=(match bZ kD l with| .error x=> .error x| .ok (i,r)=> .ok ((),{n with lvl:=1+(i:I)},r)):=⟨_,rfl⟩;rw[←hX];have HX:=C hX;have hbl:=av (F w.heap.size w) (.cells #[H ⟨#[49]⟩,H ⟨#[50]⟩,H ⟨#[50,46,57,57]⟩,H ⟨#[51]⟩] 9);have Al:=C hbl;have HW:=C (FW _ (h.below hbl) (L ⟨w.heap.size,0,E⟩) 4 4 kD ((Own.aiV rfl kD aj).row aj) aj H9.1 H9.2);clear hX h hbl;go_enter func220,ntmps220;go_wp2_with fail;refine HW.q.mono ?_;intro e w1 he
 cases hm:bZ kD l with
 |error x=>
  rw[hm] at he;obtain⟨rfl,hs⟩:=he;refine⟨rfl,?_⟩;show bQ R s c w _ _ _ _;rw[HX.q,hm];exact⟨rfl,(Same.of_below Al.q (fun _ _ h=>h)).tr hs⟩
 |ok ir=>
  obtain⟨i,r⟩:=ir;rw[hm] at he;obtain⟨rfl,q,hc,hmv⟩:=he;have hi:i<4:=by
   unfold bZ at hm
   split at hm
   ·rename_i j hj
    injection hm with hm;injection hm with hm _;have:=(List.findIdx?_eq_some_iff_getElem.1 hj).1;subst hm;exact this
   ·cases hm
  have HC:=C hc;have HM:=C ((Mv.of_below Al.q).trans hmv);have HMX:=C hm;have hx4:=hc.x.1 4;have z4:=f1 hc 4;clear hc hmv hm;go_wp2_with fail;refine bodyPost_end (results_none rfl _ _ _) rfl ?_;show bQ R s c w _ _ _ _;rw[HX.q,HMX.q];have:=HC.q.Ae 4 (J G (1+(i:I))) {c with lvl:=1+(i:I)} {n with lvl:=1+(i:I)} aj rfl ⟨rfl,rfl,rfl,rfl,rfl,rfl⟩ ⟨rfl,rfl⟩ ⟨HC.q.n.1.1,rfl,HC.q.n.1.2.2.1,HC.q.n.1.2.2.2.1⟩;exact⟨rfl,q,_,this.1,HM.q.trans this.2⟩
theorem WY {l r:Bs} {b:Bool} (h:bN l= .ok (b,r)):r=aY l:=by
 unfold bN at h
 split at h
 ·injection h with h;injection h with _ h;exact h.symm
 ·split at h
  ·cases h
  ·injection h with h;injection h with _ h;exact h.symm
theorem TD {l r:Bs} (h:bN l= .ok (true,r)):bR r=false:=by
 have e:=WY h;unfold bN at h
 split at h
 ·injection h with h;injection h with h _;cases h
 ·rename_i h1;rw[e];simpa using h1
theorem Wt {R p:O} {s l:Bs} {c:aV} {n:aB} (w:S) (h:bX w R s p l c n) (hn:n.first=false):
  Calls Tryz.prog 224 #[.pointer (L ⟨R,0,E⟩)] w (bQ R s c w (fun _:Unit=> .tuple #[]) (match iD l with| .error x=> .error x| .ok (f,r)=> .ok ((),{n with first:=f},r))):=by
 obtain⟨X,hX⟩:∃X:Except Er (Unit × aB × Bs),X=(match iD l with| .error x=> .error x| .ok (f,r)=> .ok ((),{n with first:=f},r)):=⟨_,rfl⟩;rw[←hX];have BQ:=C (fun W (hb:Below w.heap.size w W)=>zl W (h.below hb));have HH:=C h;have HB0:U (Below w.heap.size w w.drew):=C ((F _ _).drew);have c0:=h.c0;have c1:=h.c1;have z1:=f1 h 1;have hlen:=h.len;have hlim:=h.lim;have HFN:U ({n with first:=false}=n):=C (by rw[←hn]);have HD:=C h.d;clear h hn
 cases hm:bN l with
 |error x=>
  have HX:U (X= .error x):=C (by rw[hX];unfold iD;rw[hm]);have AJ:=C hm;have RES:U (∀ch w',(ch=lM (s.length - x.1.length) x.2∧Same (kS R c) w.drew w')→bQ R s c w (fun _:Unit=> .tuple #[]) X (.panicked ch) w'):=C (by
   rintro ch w' ⟨rfl,h2⟩;rw[HX.q];exact⟨rfl,h2.os,h2.tape,h2.output,h2.size,h2.block⟩)
  clear hX hm;go_enter func224,ntmps224;go_wp2_with fail;refine bF 99 [(0,0),(1,2),(2,0),(3,0),(4,0),(5,0),(6,0),(7,0),(8,0),(9,0),(10,0),(11,0),(12,0),(13,0)] (fun _=>True) (fun W'=>W'.cell? ⟨R,0,E⟩=L (H ⟨s.toArray⟩)) (fun ch w'=>ch=lM (s.length - x.1.length) x.2∧Same (kS R c) w.drew w') au au (fun ch a1 w1 hd hr=>⟨hd,RES.q ch w1 hr⟩) (trivial) (c0) ?_;refine qC ?_;refine aF rfl rfl (fun K hK=>?_);go_simp;refine(BQ.q _ HB0.q).mono ?_;intro e w2 he;rw[AJ.q] at he;obtain⟨rfl,hs⟩:=he;exact⟨rfl,rfl,hs⟩
 |ok br=>
  obtain⟨b,r⟩:=br
  cases b with
  |false=>
   have HX:U (X= .ok ((),{n with first:=false},l)):=C (by rw[hX];unfold iD;rw[hm]);have AJ:=C hm;clear hX hm;go_enter func224,ntmps224;go_wp2_with fail;refine aK 99 [(0,0),(1,2),(2,0),(3,0),(4,0),(5,0),(6,0),(7,0),(8,0),(9,0),(10,0),(11,0),(12,0),(13,0)] (fun _=>True) (fun W'=>W'.cell? ⟨R,0,E⟩=L (H ⟨s.toArray⟩)) au au (trivial) (c0) ?_;refine qC ?_;refine aF rfl rfl (fun K hK=>?_);go_simp;refine(BQ.q _ HB0.q).mono ?_;intro e w2 he;rw[AJ.q] at he;obtain⟨rfl,q,hc2,hm2⟩:=he;have cu:=C hc2;have j6:=C ((Mv.of_below HB0.q).trans hm2);refine hK _ _ ⟨P,hc2.c0⟩ ?_;have hq1:=hc2.c1;have hzq:=f1 hc2 1;clear hK K hc2 hm2 c0 c1 z1;refine qC ?_;refine bB ?_;go_wp2_with fail;refine bodyPost_end (results_none rfl _ _ _) rfl ?_;show bQ R s c w _ _ _ _;rw[HX.q,HFN.q];have hx:=cu.q.x.aR 1 ak (J G (p:I));exact⟨rfl,p,c,⟨hx,⟨cu.q.n.1,cu.q.n.2.1.block fun g hg=>M _ _ _ _ (by have:=(cu.q.n.2.1.lt g hg).1;simp;omega),cu.q.n.2.2.block fun g hg=>M _ _ _ _ (by have:=(cu.q.n.2.2.lt g hg).1;simp;omega)⟩,HD.q,by omega,hlim⟩,j6.q.trans ⟨Same.setCell _ _ _ _ (fun e=>e.1 rfl),fun _ h=> .inl h,fun _ h=> .inl h⟩⟩
  |true=>
   have hee:=TD hm;obtain⟨b0,t0,rfl⟩:∃b0 t0,r=b0::t0:=by cases r with
    |nil=>exact absurd hee aj
    |cons a t=>exact⟨a,t,rfl⟩
   by_cases h45:b0=45
   ·subst h45
    have HX:U (X= .ok ((),{n with first:=true},t0)):=C (by rw[hX];unfold iD;rw[hm];simp only[];rw[Q (show(45::t0:Bs).head?=L 45 from rfl)];rfl);have AJ:=C hm;clear hX hm hee;go_enter func224,ntmps224;go_wp2_with fail;refine aK 99 [(0,0),(1,2),(2,0),(3,0),(4,0),(5,0),(6,0),(7,0),(8,0),(9,0),(10,2),(11,0),(12,0),(13,0)] (fun _=>True) (fun W'=>W'.cell? ⟨R,0,E⟩=L (H ⟨s.toArray⟩)) au au (trivial) (c0) ?_;refine qC ?_;refine aF rfl rfl (fun K hK=>?_);go_simp;refine(BQ.q _ HB0.q).mono ?_;intro e w2 he;rw[AJ.q] at he;obtain⟨rfl,q,hc2,hm2⟩:=he;have cu:=C hc2;have j6:=C ((Mv.of_below HB0.q).trans hm2);refine hK _ _ ⟨P,hc2.c0⟩ ?_;have hq1:=hc2.c1;have hzq:=f1 hc2 1;have hix:=fun W=>gQ Tryz.underlying9 s q 45 hc2.at_ W
    clear hK K hc2 hm2 c0 c1 z1;refine qC ?_;refine aF rfl rfl (fun K hK=>?_);go_simp;refine hK _ _ ⟨P,cu.q.c0⟩ ?_;clear hK K;refine qC ?_;refine bB ?_;have CQ:q≤1000000:=by have:=cu.q.le;have:=cu.q.lim;omega
    have HT1:=cu.q.to 1 rfl ak (q+1) rfl;have HT2:=HT1.1.Ae 6 (.bool true) {c with first:=true} {n with first:=true} aj rfl ⟨rfl,rfl,rfl,rfl,rfl,rfl⟩ ⟨rfl,rfl⟩ ⟨cu.q.n.1.1,cu.q.n.1.2.1,rfl,cu.q.n.1.2.2.2.1⟩;rw[Int.natCast_add] at HT1 HT2;have HA1:=C HT1;have HA2:=C HT2;have hx6:=cu.q.x.1 6;have z6:=f1 cu.q 6;clear HT1 HT2;go_wp2_with fail;refine bodyPost_ret (results_none rfl _ _ _) rfl ?_;show bQ R s c w _ _ _ _;rw[HX.q];exact⟨rfl,q+1,_,HA2.q.1,j6.q.trans (HA1.q.2.trans HA2.q.2)⟩
   ·have VP:((b0.toNat:I)==45)=false:=beq_eq_false_iff_ne.2 (fun e=>h45 (UInt8.toNat_inj.1 (by show b0.toNat=45;omega)))
    have HX:U (X= .ok ((),{n with first:=false},l)):=C (by rw[hX];unfold iD;rw[hm];simp only[];rw[if_neg (by simpa using h45)]);have AJ:=C hm;clear hX hm hee h45;go_enter func224,ntmps224;go_wp2_with fail;refine aK 99 [(0,0),(1,2),(2,0),(3,0),(4,0),(5,0),(6,0),(7,0),(8,0),(9,0),(10,2),(11,0),(12,0),(13,0)] (fun _=>True) (fun W'=>W'.cell? ⟨R,0,E⟩=L (H ⟨s.toArray⟩)) au au (trivial) (c0) ?_;refine qC ?_;refine aF rfl rfl (fun K hK=>?_);go_simp;refine(BQ.q _ HB0.q).mono ?_;intro e w2 he;rw[AJ.q] at he;obtain⟨rfl,q,hc2,hm2⟩:=he;have cu:=C hc2;have j6:=C ((Mv.of_below HB0.q).trans hm2);refine hK _ _ ⟨P,hc2.c0⟩ ?_;have hq1:=hc2.c1;have hzq:=f1 hc2 1;have hix:=fun W=>gQ Tryz.underlying9 s q b0 hc2.at_ W
    clear hK K hc2 hm2 c0 c1 z1;refine qC ?_;refine aF rfl rfl (fun K hK=>?_);go_simp;refine hK _ _ ⟨P,cu.q.c0⟩ ?_;clear hK K;refine qC ?_;refine bB ?_;go_wp2_with fail;refine bodyPost_end (results_none rfl _ _ _) rfl ?_;show bQ R s c w _ _ _ _;rw[HX.q,HFN.q];have hx:=cu.q.x.aR 1 ak (J G (p:I));exact⟨rfl,p,c,⟨hx,⟨cu.q.n.1,cu.q.n.2.1.block fun g hg=>M _ _ _ _ (by have:=(cu.q.n.2.1.lt g hg).1;simp;omega),cu.q.n.2.2.block fun g hg=>M _ _ _ _ (by have:=(cu.q.n.2.2.lt g hg).1;simp;omega)⟩,HD.q,by omega,hlim⟩,j6.q.trans ⟨Same.setCell _ _ _ _ (fun e=>e.1 rfl),fun _ h=> .inl h,fun _ h=> .inl h⟩⟩
def Ad:O→O
 |0=>219
 |1=>220
 |_=>221
def vG (a:O) (n:aB) (l:Bs):Except Er (Unit × aB × Bs):=
 if a=0 then(match bI l with| .error x=> .error x| .ok (m,r)=> .ok ((),addN n m,r))
 else if a=1 then(match bZ kD l with| .error x=> .error x| .ok (i,r)=> .ok ((),{n with lvl:=1+(i:I)},r))
 else(match dQ l with| .error x=> .error x| .ok (v,r)=> .ok ((),Ag n v,r))
def jy:List O→aB→Bs→Except Er (Unit × aB × Bs)
 |[],n,l=> .ok ((),n,l)
 |a::t,n,l=>match bW l with
  | .error x=> .error x
  | .ok r=>match vG a n r with
   | .error x=> .error x
   | .ok (_,n',r')=>jy t n' r'
def zm (R:O) (a:O):List Value:=[.func (.func (Ad a)) #[.pointer (L ⟨R,0,E⟩)] #[]]
theorem TF:∀args w,(callFunc 219 args).run Tryz.prog w= .ok (.enter 219 args) w:=enters_of func219 au rfl
theorem Qh:∀args w,(callFunc 220 args).run Tryz.prog w= .ok (.enter 220 args) w:=enters_of func220 au rfl
theorem TG:∀args w,(callFunc 221 args).run Tryz.prog w= .ok (.enter 221 args) w:=enters_of func221 au rfl
theorem aey {R p:O} {s l:Bs} {c:aV} {n:aB} (a:O) (w:S) (h:bX w R s p l c n) (hG:qp R w) (hn:n.names.length≤1000) (hv:n.aA.length≤1000):
  Calls Tryz.prog (Ad a) #[.pointer (L ⟨R,0,E⟩)] w (bQ R s c w (fun _:Unit=> .tuple #[]) (vG a n l)):=by
 unfold vG
 match a with
 |0=>exact L6 w h hG.tabs hn
 |1=>exact WX w h
 |a+2=>exact Fg w h hG hv
theorem NE {a:O} {n n':aB} {l r:Bs} {u:Unit} (h:vG a n l= .ok (u,n',r)):n'.names.length≤n.names.length+1∧n'.aA.length≤n.aA.length+1:=by
 unfold vG at h
 split at h
 ·split at h
  ·cases h
  ·injection h with h;injection h with _ h;injection h with h _;subst h;simp
 ·split at h
  ·split at h
   ·cases h
   ·injection h with h;injection h with _ h;injection h with h _;subst h;simp
  ·split at h
   ·cases h
   ·injection h with h;injection h with _ h;injection h with h _;subst h;simp
theorem Mv.row {α:Type} {enc:α→List Value} {k:O} {R:O} {c c':aV} {w w':S} (hm:Mv R c c' w w') {b o n cc:O} {xs:List α} (h:Row w k enc (L ⟨b,o,E⟩) n cc xs) (hb:kS R c b) (hl:b<w.heap.size):Row w' k enc (L ⟨b,o,E⟩) n cc xs:=
 ⟨h.1,h.2.1,h.2.2.1,h.2.2.2.1,fun i x hx=>let⟨b',o',e,hc⟩:=h.2.2.2.2 i x hx;⟨b',o',e,fun j v hv=>by
  injection e with e;injection e with e1 e2;subst e1;exact(World.cell?_of_block (a:=⟨b,o'+i*k+j,E⟩) (hm.same.block b hb hl)).trans (hc j v hv)⟩⟩
theorem uE {R p:O} {s l:Bs} {c:aV} {n:aB} (w:S) (h:bX w R s p l c n) (hG:qp R w) (b o nn cc:O) (acts:List O) (hr:Row w 1 (zm R) (L ⟨b,o,E⟩) nn cc acts) (hb:kS R c b) (hbl:b<w.heap.size) (hnn:nn≤10) (hn:n.names.length≤900) (hv:n.aA.length≤900):
  Calls Tryz.prog 222 #[.pointer (L ⟨R,0,E⟩),.slice (L ⟨b,o,E⟩) nn cc] w (bQ R s c w (fun _:Unit=> .tuple #[]) (jy acts n l)):=by
 obtain⟨X,hX⟩:∃X,X=jy acts n l:=⟨_,rfl⟩;rw[←hX];have HR:=C hr;have HH:=C h;have HG:=C hG;have iN:=C hb;have Al:=C hbl;have HX:=C hX;have HN:=C (⟨hn,hv⟩:_∧_);have hlen:=hr.len;clear hr h hG hb hbl hX hn hv;go_enter func222,ntmps222;go_wp2_with fail
 go_loopw [8] (fun i wr=>∃(W:S) (k q:O) (l1:Bs) (c1:aV) (n1:aB),W=wr∧i= J G k∧k≤nn∧bX W R s q l1 c1 n1∧Mv R c c1 w W∧qp R W∧jy (acts.drop k) n1 l1=X∧n1.names.length≤900+k∧n1.aA.length≤900+k) (fun i _=>nn - (RowKit.intOf i).toNat)
 case atStart=>exact⟨_,0,p,l,c,n,rfl,rfl,Nat.zero_le _,HH.q,Mv.refl _ _ _,HG.q,HX.q.symm,HN.q.1,HN.q.2⟩
 case round=>
  obtain⟨W,k,q,l1,c1,n1,rfl,rfl,hk,hc,hm,hg,hx,h1,h2⟩:=hrel;by_cases hlt:k<nn
  ·obtain⟨a,b',o',hxa,hab,hcell⟩:=(hm.row HR.q iN.q Al.q).at_ hlt
   injection hab with hab;injection hab with e1 e2;subst e1 e2;have hc0:=hcell 0 _ rfl;simp only[Nat.mul_one,Nat.add_zero] at hc0;have hdr:acts.drop k=a::acts.drop (k+1):=by
    obtain⟨hl1,he⟩:=List.getElem?_eq_some_iff.1 hxa;rw[List.drop_eq_getElem_cons hl1,he]
   rw[hdr] at hx;simp only[jy] at hx;have HC:=C hc;have HM:=C hm;have SK:=C hg;have tF:=C hx;have Ay:=C (⟨h1,h2⟩:_∧_);have HMU:=C (NC W hc);clear hcell hxa hdr hc hm hg hx h1 h2;go_wp2_with fail;refine HMU.q.mono ?_;intro e w2 he
   cases hmu:bW l1 with
   |error x=>
    rw[hmu] at he;obtain⟨rfl,hs⟩:=he;refine⟨rfl,?_⟩;show bQ R s c w _ _ _ _;rw[←tF.q,hmu];exact⟨rfl,HM.q.gW hs⟩
   |ok r=>
    rw[hmu] at he;obtain⟨rfl,q2,hc2,hm2⟩:=he;have cO:U ((match vG a n1 r with| .error x=> .error x| .ok (_,n',r')=>jy (acts.drop (k+1)) n' r')=X):=C (by have:=tF.q;rw[hmu] at this;exact this);have cu:=C hc2;have j6:=C (HM.q.trans hm2);have HG2:=C (SK.q.mv HC.q hm2.same);have HAC:=C (aey a w2 hc2 HG2.q (by have:=Ay.q;omega) (by have:=Ay.q;omega));have hcf:∀args w,(callFunc (Ad a) args).run Tryz.prog w= .ok (.enter (Ad a) args) w:=by
     match a with
     |0=>exact TF
     |1=>exact Qh
     |a+2=>exact TG
    clear hc2 hm2 hmu;go_wp2_with fail;refine HAC.q.mono ?_;intro e w3 he
    cases ha:vG a n1 r with
    |error x=>
     rw[ha] at he;obtain⟨rfl,hs⟩:=he;refine⟨rfl,?_⟩;show bQ R s c w _ _ _ _;rw[←cO.q,ha];exact⟨rfl,j6.q.gW hs⟩
    |ok ur=>
     obtain⟨u,n3,r3⟩:=ur;rw[ha] at he;obtain⟨rfl,q3,c3,hc3,rM⟩:=he;have hal:=NE ha;have gL:U (jy (acts.drop (k+1)) n3 r3=X):=C (by have:=cO.q;rw[ha] at this;exact this);have jM:=C hc3;have oJ:=C (j6.q.trans rM);have jZ:=C (HG2.q.mv cu.q rM.same);have Tt:=C hal;clear hc3 rM hal ha;go_wp2_with fail;go_roundw
     case rel=>exact⟨_,k+1,q3,r3,c3,n3,rfl,by go_num,by omega,jM.q,oJ.q,jZ.q,gL.q,by have:=Tt.q;have:=Ay.q;omega,by have:=Tt.q;have:=Ay.q;omega⟩
     case measure=>simp[RowKit.intOf];omega
  ·obtain rfl:k=nn:=by omega
   rw[List.drop_of_length_le ah] at hx;have tF:U (X= .ok ((),n1,l1)):=C hx.symm;have HC:=C hc;have HM:=C hm;clear hx hc hm hg h1 h2;go_wp2_with fail;refine bodyPost_end (results_none rfl _ _ _) rfl ?_;show bQ R s c w _ _ _ _;rw[tF.q];exact⟨rfl,q,c1,HC.q,HM.q⟩
theorem aez:∀k:Fin 4,∀b:Fin 8,b.val<2 ^ k.val→Go.bits .or G (b.val:I) (2 ^ k.val:I)=(b.val:I)+2 ^ k.val:=by decide
theorem or_bit (k b:O) (hk:k<4) (hb:b<2 ^ k):Go.bits .or G (b:I) (2 ^ k:I)=(b:I)+2 ^ k:=by
 have h8:b<8:=Nat.lt_of_lt_of_le hb (by
  have:k≤3:=by omega
  exact Nat.le_trans (Nat.pow_le_pow_right aj this) aj)
 exact aez ⟨k,hk⟩ ⟨b,h8⟩ hb
theorem WZ (k i:O) (h:k+i<4):wrap64 ((k:I)+(i:I))=((k+i:O):I):=by
 unfold wrap64;omega
theorem Ia (k i:O) (h:k+i<4):wrap64 ((k:I)+(i:I)+1)=((k+i+1:O):I):=by
 unfold wrap64;omega
theorem ZY (m:O) (h:m<4) (W:S):(Go.Op.shift .shl G 1 G (m:I)).run Tryz.prog W= .ok (J G (2 ^ m)) W:=by
 rcases(by omega:m=0∨m=1∨m=2∨m=3) with rfl|rfl|rfl|rfl <;> rfl
theorem Z4 (k i:O) (h:k+i<4) (W:S):(Go.Op.shift .shl G 1 G ((k:I)+(i:I))).run Tryz.prog W= .ok (J G (2 ^ (k+i))) W:=by
 have:=ZY (k+i) h W
 simpa using this
theorem TH {w:S} (hg:jY w) (k:O) (hk:k≤4):Row w 1 encStr (L ⟨1,k,E⟩) (4 - k) (4 - k) (iP.drop k):=by
 refine⟨by simp[iP],Nat.le_refl _,by omega,fun h=>(by cases h),fun i x hx=>⟨1,k,rfl,fun j v hv=>?_⟩⟩;rw[List.getElem?_drop] at hx;have hi:k+i<4:=by
  have:=(List.getElem?_eq_some_iff.1 hx).1
  simpa[iP] using this
 obtain rfl:j=0:=by
  have:=(List.getElem?_eq_some_iff.1 hv).1
  simpa[encStr] using this
 have hv':v= H ⟨x.toArray⟩:=by simpa[encStr] using hv.symm
 have hx':x=gB (k+i):=by
  have h4:∀m,m<4→iP[m]?=L (gB m):=fun m hm=>by
   rcases(by omega:m=0∨m=1∨m=2∨m=3) with rfl|rfl|rfl|rfl <;> rfl
  rw[h4 _ hi] at hx;injection hx with hx;exact hx.symm
 have:=hg.2.2.1 (k+i) hi;rw[hv',hx']
 simpa using this
def Qi (k:O):O:=if k=4 then 0 else k
theorem TI (k:O) (hk:k≤4) (W:S):(Instr.sliceAt 120 (.pointer (L ⟨1,0,E⟩)) (L (J G (k:I))) E E).run Tryz.prog W= .ok (.slice (L ⟨1,Qi k,E⟩) (4 - k) (4 - k)) W:=by
 rcases(by omega:k=0∨k=1∨k=2∨k=3∨k=4) with rfl|rfl|rfl|rfl|rfl <;> kernel_rfl
theorem Qj {w:S} (hg:jY w) (k:O) (hk:k≤4):Row w 1 encStr (L ⟨1,Qi k,E⟩) (4 - k) (4 - k) (iP.drop k):=by
 by_cases h4:k=4
 ·subst h4
  exact⟨rfl,Nat.le_refl _,by omega,fun h=>(by cases h),fun i x hx=>by simp[iP] at hx⟩
 ·unfold Qi;rw[if_neg h4];exact TH hg k hk
theorem Ib:(∀x∈iP,x.length≤100)∧(∀x∈iP,(128:UInt8)∉x):=by decide
theorem Ii {R p:O} {s l:Bs} {c:aV} {n:aB} (w:S) (h:bX w R s p l c n) (hG:qp R w) (hb:n.bits=0):
  Calls Tryz.prog 223 #[.pointer (L ⟨R,0,E⟩)] w (bQ R s c w (fun _:Unit=> .tuple #[]) (match fP 5 0 0 l with| .error x=> .error x| .ok (b,r)=> .ok ((),{n with bits:=b},r))):=by
 obtain⟨Y,hY⟩:∃Y:Except Er (Unit × aB × Bs),Y=(match fP 5 0 0 l with| .error x=> .error x| .ok (b,r)=> .ok ((),{n with bits:=b},r)):=⟨_,rfl⟩;rw[←hY];have rY:U (∀x,fP 5 0 0 l= .error x→Y= .error x):=C (fun x hx=>by rw[hY,hx]);have BO:U (∀b r,fP 5 0 0 l= .ok (b,r)→Y= .ok ((),{n with bits:=b},r)):=C (fun b r hx=>by rw[hY,hx]);clear hY;obtain⟨X,hX⟩:∃X:Except Er (I × Bs),X=fP 5 0 0 l:=⟨_,rfl⟩;rw[←hX] at rY BO;have HX:=C hX;have HH:=C h;have HG:=C hG;have HN:U (n={n with bits:=0}):=C (by cases n;simp at hb;subst hb;rfl);clear hX h hG hb;go_enter func223,ntmps223;go_wp2_with fail
 go_loopw [2] (fun i wr=>∃(W:S) (k f q b:O) (l1:Bs) (c1:aV),W=wr∧i= J G k∧k≤4∧5≤f+k∧b<2 ^ k∧bX W R s q l1 c1 {n with bits:=b}∧Mv R c c1 w W∧qp R W∧fP f k b l1=X) (fun i _=>4 - (RowKit.intOf i).toNat)
 case atStart=>exact⟨_,0,5,p,0,l,c,rfl,rfl,by omega,by omega,by decide,by have:=HH.q;rw[HN.q] at this;exact this,Mv.refl _ _ _,HG.q,HX.q.symm⟩
 case round=>
  obtain⟨W,k,f,q,b,l1,c1,rfl,rfl,hk,hf,hbk,hc,hm,hg,hx⟩:=hrel;obtain⟨f,rfl⟩:∃f',f=f'+1:=⟨f - 1,by omega⟩;simp only[fP] at hx;have HC:=C hc;have HM:=C hm;have SK:=C hg;have tF:=C hx;have Nv:=C hbk;have HF:=C hf;have BQ:=C (zl W hc);clear hc hm hg hx hbk;go_wp2_with fail;refine BQ.q.mono ?_;intro e w2 he
  cases hmo:bN l1 with
  |error x=>
   rw[hmo] at he;obtain⟨rfl,hs⟩:=he;refine⟨rfl,?_⟩;show bQ R s c w _ _ _ _;rw[rY.q x (by have:=tF.q;rw[hmo] at this;exact this.symm)];exact⟨rfl,HM.q.gW hs⟩
  |ok br=>
   obtain⟨bb,r⟩:=br;rw[hmo] at he;obtain⟨rfl,q2,hc2,hm2⟩:=he;have cu:=C hc2;have j6:=C (HM.q.trans hm2);have HG2:=C (SK.q.mv HC.q hm2.same)
   cases bb
   ·have cO:U (X= .ok ((b:I),r)):=C (by have:=tF.q;rw[hmo] at this;exact this.symm)
    clear hc2 hm2 hmo;go_wp2_with fail;refine bodyPost_end (results_none rfl _ _ _) rfl ?_;show bQ R s c w _ _ _ _;rw[BO.q _ _ cO.q];exact⟨rfl,q2,c1,cu.q,j6.q⟩
   ·have cO:U ((match bZ (iP.drop k) r with| .error x=> .error x| .ok (i,r')=>fP f (k+i+1) ((b:I)+2 ^ (k+i)) r')=X):=C (by have:=tF.q;rw[hmo] at this;exact this)
    have hsg:=fun W=>TI k hk W
    have HW:=C (FW w2 hc2 (L ⟨1,Qi k,E⟩) (4 - k) (4 - k) (iP.drop k) (Qj HG2.q.l k hk) ah (fun x hx=>Ib.1 x (List.mem_of_mem_drop hx)) (fun x hx=>Ib.2 x (List.mem_of_mem_drop hx)));clear hc2 hm2 hmo;go_wp2_with fail;refine HW.q.mono ?_;intro e w3 he
    cases hwo:bZ (iP.drop k) r with
    |error x=>
     rw[hwo] at he;obtain⟨rfl,hs⟩:=he;refine⟨rfl,?_⟩;show bQ R s c w _ _ _ _;rw[rY.q x (by have:=cO.q;rw[hwo] at this;exact this.symm)];exact⟨rfl,j6.q.gW hs⟩
    |ok ir=>
     obtain⟨i,r3⟩:=ir;rw[hwo] at he;obtain⟨rfl,q3,hc3,rM⟩:=he;have hi:k+i<4:=by
      unfold bZ at hwo
      split at hwo
      ·rename_i j hj
       injection hwo with hwo;injection hwo with hwo _;have:=(List.findIdx?_eq_some_iff_getElem.1 hj).1;subst hwo;simp[iP] at this;omega
      ·cases hwo
     have gL:U (fP f (k+i+1) ((b:I)+2 ^ (k+i)) r3=X):=C (by have:=cO.q;rw[hwo] at this;exact this);have hor:=or_bit (k+i) b hi (Nat.lt_of_lt_of_le Nv.q (Nat.pow_le_pow_right aj ah));have jM:=C hc3;have oJ:=C (j6.q.trans rM);have jZ:=C (HG2.q.mv cu.q rM.same);have HI:=C hi;have HOR:=C hor;clear hc3 rM hwo hi hor;have H7:U (w3.cell? ⟨R,7,E⟩=L (J G (b:I))):=C (by have h:=jM.q.x.1 7;have hb:c1.bits=(b:I):=jM.q.n.1.2.2.2.1;rw[←hb];exact h);have Yr:=H7.q;have hf7:=f1 jM.q 7;have hsh:=fun W=>Z4 k i HI.q W;have hor:=HOR.q
     go_wp2_with fail;rw[WZ k i HI.q];refine aK 11 [(0,1),(1,1),(2,1),(3,1),(4,0),(5,1),(6,1),(7,0),(8,1),(9,1),(10,1),(11,2)] (fun _=>True) (fun W'=>W'.cell? ⟨R,7,E⟩=L (J G (b:I))) au au (trivial) (H7.q) ?_;refine qC ?_;refine dN rfl rfl rfl (fun K hK=>?_);go_simp;refine hK _ _ P ?_;clear hK K;refine bB ?_;have h4:=jM.q.Ae 7 (J G ((b:I)+2 ^ (k+i))) {c1 with bits:=(b:I)+2 ^ (k+i)} {n with bits:=(b:I)+2 ^ (k+i)} aj rfl ⟨rfl,rfl,rfl,rfl,rfl,rfl⟩ ⟨rfl,rfl⟩ ⟨jM.q.n.1.1,jM.q.n.1.2.1,jM.q.n.1.2.2.1,rfl⟩;have iG:=C h4.1.drew;have Az:=C (oJ.q.trans (h4.2.trans (Mv.of_below (F _ _).drew)));have SL:=C (jZ.q.mv jM.q (h4.2.trans (Mv.of_below (F _ _).drew)).same);clear h4;go_wp2_with fail;go_roundw
     case rel=>exact⟨_,k+i+1,f,q3,b+2 ^ (k+i),r3,_,rfl,by rw[Ia k i HI.q],by have:=HI.q;omega,by have:=HF.q;omega,by have:=Nv.q;have:2 ^ k≤2 ^ (k+i):=Nat.pow_le_pow_right aj ah;rw[Nat.pow_succ];omega,by have:=iG.q;simpa using this,Az.q,SL.q,by have:=gL.q;simpa using this⟩
     case measure=>have:=HI.q;rw[Ia k i HI.q];simp[RowKit.intOf] <;> omega
end Yd
