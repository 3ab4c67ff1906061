import Derived.Test.YtddiadcpokbpoaaGreatDoorLF2
import Derived.Recover
import Derived.Defers
import Derived.Test.YtddiadcpokbpoaaGreatDoorLChG
import Derived.Test.YtddiadcpokbpoaaGreatDoorLLnIn
set_option linter.all false
set_option maxRecDepth 200000
set_option maxHeartbeats 8000000
namespace Yd
open Bool renaming false->H
open Option renaming none->p,some->E
open Go Go.RowKit Go.Proofs
open Below renaming refl->I
open Go.IntKind renaming i64->u
open Go.Obj renaming cells->F
open Go.RowKit renaming Hid->y
open Go.Value renaming slice->j,int->r,bool->C,string->L
open Same renaming of_below->D,refl'->J
open Yd renaming hid->f
open _root_ renaming trivial->G
theorem jy.box {B R g:Nat}{cs:Array Value}{c:Cont}{es:List EvC}{ds:List aM}{ms:List aN}{X Y:World}{T:TypeId}(h:jy B X R cs c es ds ms)(hg:∃cs fz,X.1[g]?=E (F cs T fz))
  (h1:9≠T) (h2:74≠T) (h3:79≠T) (h4:117≠T) (h5:3≠T) (hE:47≠T\/∀v,cs[4]?=E v->v.ownBlock≠E g) (hM:77≠T\/∀v,cs[6]?=E v->v.ownBlock≠E g) (hR:R≠g) (hs:Same (λi=>i≠g) X Y):jy B Y R cs c es ds ms:=by
 have s:=h.s;refine⟨⟨s.t.apart hg h1 hR hs,?_,?_,?_,?_,s.be,s.bd,s.bm,s.se.imp (λ_ _ o=>o.aK hg h4 hs),s.sd.imp (λ_ _ o=>o.aK hg h5 hs),s.sm.imp (λ_ _ o=>o.aK hg h5 hs)⟩,?_,h.b⟩
 .obtain⟨v,v1,v2⟩:=s.e
  refine⟨v,v1,?_⟩;rcases hE with hE|hE
  .exact v2.aK hg hE hs
  .exact v2.same hs (λq hq e=>hE v v1 (by rw[hq,e]))
 .obtain⟨v,v1,v2⟩:=s.d
  exact⟨v,v1,v2.aK hg h2 hs⟩
 .obtain⟨v,v1,v2⟩:=s.m
  refine⟨v,v1,?_⟩;rcases hM with hM|hM
  .exact v2.aK hg hM hs
  .exact v2.same hs (λq hq e=>hM v v1 (by rw[hq,e]))
 .obtain⟨v,v1,v2⟩:=s.q
  exact⟨v,v1,v2.aK hg h3 hs⟩
 .obtain⟨mb,m1,m2,m3⟩:=h.m
  refine⟨mb,m1,m2.same hs (λe=>?_),m3⟩;obtain⟨q,fz,hq⟩:=hg;obtain⟨_,_,hm⟩:=m2.obj;rw[e,hq] at hm
  cases hm
theorem names8 {s:aP}(hok:fB s)(hk:s.kind=8):∃n0 n1 rs,s.names=n0::n1::rs/\rs.length<=300:=by
 have hlen:∃c:Nat,s.names.length=c+2/\c<=300:=by
  rcases hok.2.2 with h|h|h|h|h|h|h|h|h <;> (first|exact h.2.1|(exfalso;have:=h.1;omega))
 obtain⟨q,h1,h2⟩:=hlen
 match hn:s.names,h1 with
 |[],h1=>simp at h1
 |[_],h1=>simp at h1
 |a::b::l,h1=>exact⟨a,b,l,rfl,by simp at h1;omega⟩
section
variable {B K R:Nat}{cs:Array Value}{c:Cont}{es:List EvC}{ds:List aM}{ms:List aN}
theorem Xv (l:bB)(s:aP)(w:World)(h:jy B w R cs c es ds ms)(hf:aI c)(hl:vK w B l s)(hk:s.kind=8)(hok:fB s)(hG:nC B K w)(oN:oM w K)(rM:R<K):
  Calls Tryz.prog 41 #[.pointer (E ⟨R,0,p⟩),jg l] w (gN B K R (aO c s) w):=by
 obtain⟨n0,n1,rs,hn,hle⟩:=names8 hok hk;have hnn:l.nn=rs.length+2:=by rw[hl.k.2.2.2.2.1,hn];rfl
 obtain⟨nb,no,ha0,hb0,hd0⟩:=hl.name (i:=0) (x:=n0) (by rw[hn];rfl);obtain⟨nb',no',ha1,hb1,hd1⟩:=hl.name (i:=1) (x:=n1) (by rw[hn];rfl);rw[ha0] at ha1;injection ha1 with q;injection q with q1 q2;subst q1 q2;obtain⟨ra,hsl,hslA,hrow,hrb⟩:=Ej hl.n 2 ah;have hra:∀b o,ra=E ⟨b,o,p⟩->b<B:=λb o e=>(let⟨q,e1,e2⟩:=hrb b o e;by rw[ha0] at e1;injection e1 with e1;subst e1;subst e2;exact hb0)
 obtain⟨v7,h7,oG⟩:=h.s.m;obtain⟨a7,c7,rfl,_,Dc⟩:=oG.shape;obtain⟨i,z,hi⟩:=He;have HI:=f hi;clear hi;obtain⟨lk,la,ln,nc,lvl,va,vn,vc,lf,bits⟩:=l;obtain⟨k1,k2,k3,k4,k5,k6⟩:=hl.k;simp only at k1 k2 k3 k4 k5 k6 ha0 hnn hsl hslA hrow;rw[hk] at k1;subst k1;have fD:y (aO c s={(((c.put 3 n0).put 2 n1).ts rs).1 with M:=(((c.put 3 n0).put 2 n1).ts rs).1.M++[⟨c.no 3 n0,(c.put 3 n0).no 2 n1,lf,p,0,0⟩],SM:=(((c.put 3 n0).put 2 n1).ts rs).1.SM++[(((c.put 3 n0).put 2 n1).ts rs).2]}):=f (by unfold aO;simp only[hk,hn,<-k3];rw[(Nm.ts rs ((c.put 3 n0).put 2 n1)).m,(Nm.ts rs ((c.put 3 n0).put 2 n1)).sm];rfl);subst ha0 hnn;have hsl1:∀W,(Instr.slice 27 (j (E ⟨nb,no,p⟩) (rs.length+2) nc) (E (r u 2)) p p).run Tryz.prog W= .ok (j ra rs.length (nc - 2)) W:=hsl;have Tw:∀W,(Instr.sliceAt 27 (j (E ⟨nb,no,p⟩) (rs.length+2) nc) (E (r u 2)) p p).run Tryz.prog W= .ok (j ra rs.length (nc - 2)) W:=hslA;clear hsl hslA;have yB:=f oN;have fH:=f rM;have fM:y (K+3<=w.1.size):=f (let⟨q,T,fz,e,_⟩:=oN (K+2) ah ah;(dI.1 e).1);clear oN rM;have HB:=f h.b;have d9:y (R<w.1.size):=f h.s.t.b.2.2;obtain⟨V,hV⟩:∃V,V=w.alloc (F #[r u 8,j (E ⟨nb,no,p⟩) (rs.length+2) nc,r u lvl,j va vn vc,C lf,r u bits] 30):=⟨_,rfl⟩;have bE:y (Below w.1.size w V):=f (by rw[hV];exact aB (I w.1.size w) _);have HX:y (Bx V w.1.size #[r u 8,j (E ⟨nb,no,p⟩) (rs.length+2) nc,r u lvl,j va vn vc,C lf,r u bits]):=f (by rw[hV];exact Bx.new w _ _);have zW:y (V.1[w.1.size]?=E (F #[r u 8,j (E ⟨nb,no,p⟩) (rs.length+2) nc,r u lvl,j va vn vc,C lf,r u bits] 30 (0,0))):=f (by rw[hV];exact eH w _);have cB:y (∀W,W.1[w.1.size]?=V.1[w.1.size]?->Same (λi=>i<B\/(K<=i/\i<K+3)) w W->(λW'=>W'.cell? ⟨w.1.size,1,p⟩=E (j (E ⟨nb,no,p⟩) (rs.length+2) nc)/\W'.cell? ⟨w.1.size,4,p⟩=E (C lf)/\W'.cell? ⟨nb,no,p⟩=E (L ⟨n0.toArray⟩)/\W'.cell? ⟨nb,no+1,p⟩=E (L ⟨n1.toArray⟩)) W):=f (λW hb hs=>⟨(World.cell?_of_block (a:=⟨w.1.size,1,p⟩) hb).trans (HX.q.1 1),(World.cell?_of_block (a:=⟨w.1.size,4,p⟩) hb).trans (HX.q.1 4),hs.cell hd0 ah,hs.cell hd1 ah⟩);have gW:y (∀W,Same (λi=>i<B\/(K<=i/\i<K+3)) w W->¬aI (aO c s)->gN B K R (aO c s) w (.panicked kD) W):=f (λW hs hn=>⟨hs,λk=>absurd k hn,λ_=>rfl⟩);have jJ:y (True/\(aI (aO c s)->aI (c.put 3 n0))/\(aI (aO c s)->aI ((c.put 3 n0).put 2 n1))/\(aI (aO c s)->aI (((c.put 3 n0).put 2 n1).ts rs).1)):=f (by rw[fD.q];have hg:Gr (((c.put 3 n0).put 2 n1).ts rs).1 {(((c.put 3 n0).put 2 n1).ts rs).1 with M:=(((c.put 3 n0).put 2 n1).ts rs).1.M++[⟨c.no 3 n0,(c.put 3 n0).no 2 n1,lf,p,0,0⟩],SM:=(((c.put 3 n0).put 2 n1).ts rs).1.SM++[(((c.put 3 n0).put 2 n1).ts rs).2]}:=⟨λ_=>iK _,iK _,iK _,fP _ _,iK _⟩;exact⟨G,λk=>((Gr.put _ 2 _).trans ((Gr.ts rs _).trans hg)).fits k,λk=>((Gr.ts rs _).trans hg).fits k,λk=>hg.fits k⟩);have LJ:y ((((c.put 3 n0).put 2 n1).ts rs).1.M.length=ms.length):=f (by rw[(Nm.ts rs ((c.put 3 n0).put 2 n1)).m];show c.M.length=_;rw[<-h.s.bm,bH]);have jE:y (V.drew.1.size=w.1.size+1):=f (by show V.1.size=_;rw[hV];exact World.size_alloc _ _);have mP:y (Same (λi=>i≠R) V V.drew):=f (D (I _ _).drew (λ_ _ h=>h));have HT0:y (Same (λi=>i<B\/(K<=i/\i<K+3)) w V.drew):=f (D bE.q.drew (λi hi hl=>by have:=HB.q;have:=fH.q;have:=fM.q;have:=d9.q;omega));have gT:=f (h.below bE.q.drew);have yU:=f hf;have HG:=f hG;have HW:=f ((⟨hok.1 n0 (by rw[hn];simp),hok.1 n1 (by rw[hn];simp),λs' hs'=>hok.1 s' (by rw[hn];exact iJ _ (iJ _ hs'))⟩:_/\_/\_));have uK:y (V.drew.1[w.1.size]?=V.1[w.1.size]?):=f rfl;have H7:=f h7;have mF:=f (oG.below bE.q rfl);have hx7:V.cell? ⟨R,6,p⟩=E (j a7 ms.length c7):=((h.s.t.b.keep bE.q).1 6).trans h7;have wm:=f hx7;have EB:(w.alloc (F #[r u 8,j (E ⟨nb,no,p⟩) (rs.length+2) nc,r u lvl,j va vn vc,C lf,r u bits] 30)).cell? ⟨R,6,p⟩=E (j a7 ms.length c7):=by rw[<-hV];exact hx7
 have pI:y (∀g,(Value.slice a7 ms.length c7).ownBlock=E g->g≠w.1.size/\g≠R/\R+1<=g/\¬(K<=g/\g<K+3)):=f (λg hg=>⟨λe=>(by obtain⟨_,_,q⟩:=mF.q.tag hg;rw[e,zW.q] at q;cases q),λe=>(by have:=(mF.q.lt g hg).1;omega),(mF.q.lt g hg).1,λe=>(by obtain⟨_,_,q⟩:=mF.q.tag hg;obtain⟨_,T,_,q2,hT⟩:=yB.q g e.1 e.2;rw[bE.q.block g (by have:=fM.q;omega),q2] at q;cases q;simp[EA] at hT)⟩);rw[hn] at hrow;have Uf:y (Row w 1 encStr ra rs.length (nc - 2) rs):=f hrow;have Am:=f hra;have uF:=f hle;clear k2 k3 k4 k5 k6 hk hn;have hdl:ms.length<=3000:=by have:=hf.2.2.2.1;rw[<-h.s.bm,bH] at this;exact this
 have fT:y ((ms.length+1)*48<=140737488355328):=f ah;have lV:y (ms.length+1<=maxLen):=f (by unfold maxLen;omega);have AR:y (cs[6]?=E (j a7 ms.length c7)):=H7;have mD:y (Own V.drew (R+1) 77 4 eP (j a7 ms.length c7) ms):=mF;have sK:y (w.1.size<V.drew.1.size):=f (by have:=jE.q;omega);have pI:=pI;clear h hf hG hl hok hb0 hd0 hb1 hd1 h7 oG hrow hra hrb hle hdl;by_cases hroom:ms.length<3000;rotate_left
 .have hd:decide ((ms.length:Int)<3000)=H:=aX ah
  have OQ:y (¬aI (aO c s)):=f (λk=>hroom (by rw[fD.q] at k;have:=k.2.2.2.1;rw[dH,kT,LJ.q] at this;exact this));have HT:=f (D (A:=λi=>i<B\/(K<=i/\i<K+3)) bE.q (λi hi hl=>by have:=HB.q;have:=fH.q;have:=fM.q;have:=d9.q;omega));clear hroom;go_enter Tryz.func41,Tryz.ntmps41;go_wp2_with fail;refine(mK _ _).mono ?_;rintro e w2 ⟨rfl,rfl⟩;rw[ak au];rw[<-hV];exact⟨rfl,gW.q _ HT.q OQ.q⟩
 have Kr:=f hroom;have hd:decide ((ms.length:Int)<3000)=true:=bA ah;clear hroom;go_enter Tryz.func41,Tryz.ntmps41;go_wp2_with fail;refine(mK _ _).mono ?_;rintro e w2 ⟨rfl,rfl⟩;rw[ay rfl];rw[<-hV];clear hV EB;go_wp2_with fail;clear hx7;have hp0:(0:Int)<(rs.length:Int)+2:=by omega
 have hp1:(1:Int)<(rs.length:Int)+2:=by omega
 refine uo 99 (.q 0 0 (.q 1 0 (.q 2 0 (.q 3 0 (.q 4 0 (.q 6 0 (.q 7 0 (.q 8 0 (.q 9 0 (.q 10 0 (.q 12 0 (.q 13 0 (.alt 5 (.alt 11 (.q 14 0 (.l 15 (.l 16 .nil))) 15 (.l 11 (.q 14 0 (.l 16 .nil)))) 15 (.l 5 (.l 11 (.q 14 0 (.l 16 .nil))))))))))))))))) (λ_=>True) (λW'=>W'.cell? ⟨w.1.size,1,p⟩=E (j (E ⟨nb,no,p⟩) (rs.length+2) nc)/\W'.cell? ⟨w.1.size,4,p⟩=E (C lf)/\W'.cell? ⟨nb,no,p⟩=E (L ⟨n0.toArray⟩)/\W'.cell? ⟨nb,no+1,p⟩=E (L ⟨n1.toArray⟩)) (λch w'=>gN B K R (aO c s) w (.panicked ch) w') av av (λch a1 w1 hd hr=>⟨hd,hr⟩) G (cB.q _ uK.q HT0.q) ?_;refine qC ?_;obtain⟨V0,uq⟩:∃V0:World,V0=V.drew:=⟨_,rfl⟩;rw[<-uq] at mP HT0 gT uK mD sK jE ⊢;have qO:y (V0.1.size=V.1.size):=f (by rw[uq];rfl);clear uq;refine⟨?g1,?g2⟩
 case' g1=>
  refine dS rfl rfl (λK hK=>?_);go_simp;refine(iF 3 ah n0 _ gT.q yU.q HW.q.1 (HG.q.same HT0.q)).mono ?_;rintro e w1 ⟨hS,he⟩;have lW:=f hS;have iE:=f (mP.q.tr hS);have HT1:=f (HT0.q.tr (hS.mono (λi hi _=>by have:=HB.q;have:=fH.q;have:=fM.q;omega)));rcases iD (aI (c.put 3 n0)) with hf|hf;rotate_left
  .obtain rfl:=he.2 hf
   exact⟨rfl,gW.q _ HT1.q (λk=>hf (jJ.q.2.1 k))⟩
  obtain⟨rfl,cs1,hr,hz,ho⟩:=he.1 hf;have HR1:=f hr;have ug:=f hf;have gu:=f ho;have mM:=f (iE.q.block w.1.size (by have:=d9.q;omega) HX.q.2.2);have pF:y (cs1[6]?=_):=f ((gu.q 6 (.inl ah)).trans AR.q);have qW:=f (mD.q.gY lW.q);have lX:y (w.1.size<w1.1.size):=f (dz sK.q lW.q.size);refine hK _ _ ⟨G,cB.q _ mM.q HT1.q⟩ ?_;clear hK K hr hz ho hf he hS;refine⟨?g3,?g4⟩
  case' g3=>
   refine dS rfl rfl (λK hK=>?_);go_simp;refine(iF 2 ah n1 _ HR1.q ug.q HW.q.2.1 (HG.q.same HT1.q)).mono ?_;rintro e w2 ⟨hS,he⟩;have iR:=f hS;have HS2:=f (iE.q.tr hS);have HT2:=f (HT1.q.tr (hS.mono (λi hi _=>by have:=HB.q;have:=fH.q;have:=fM.q;omega)));rcases iD (aI ((c.put 3 n0).put 2 n1)) with hf|hf;rotate_left
   .obtain rfl:=he.2 hf
    exact⟨rfl,gW.q _ HT2.q (λk=>hf (jJ.q.2.2.1 k))⟩
   obtain⟨rfl,cs2,hr,hz,ho⟩:=he.1 hf;have HR2:=f hr;have sO:=f hf;have iA:=f ho;have kI:=f (HS2.q.block w.1.size (by have:=d9.q;omega) HX.q.2.2);have uh:y (cs2[6]?=_):=f ((iA.q 6 (.inl ah)).trans pF.q);have sM:=f (qW.q.gY iR.q);have lM:y (w.1.size<w2.1.size):=f (dz lX.q iR.q.size);refine hK _ _ ⟨G,cB.q _ kI.q HT2.q⟩ ?_;clear hK K hr hz ho hf he hS;refine qC ?_;refine aD rfl rfl (λK hK=>?_);go_simp;have hba:=aB (I w2.1.size w2) (F #[r u 0,r u 0,C H,j p 0 0] 77);have fZ:y (Same (λi=>i≠R) (w2) (w2.alloc (F #[r u 0,r u 0,C H,j p 0 0] 77))):=f (D hba (λ_ _ h=>h));have jD:=f (HS2.q.tr fZ.q);have HT3:=f (HT2.q.tr (D hba (λi hi hl=>hl)));have HR3:=f (HR2.q.below hba);have uG:=sO;have kY:=f (jD.q.block w.1.size (by have:=d9.q;omega) HX.q.2.2);have qX:=uh;have wV:=f (sM.q.gY fZ.q);have pR:y (w.1.size<(w2.alloc (F #[r u 0,r u 0,C H,j p 0 0] 77)).1.size):=f (dz lM.q fZ.q.size);have oo:y (V.1.size<=w2.1.size):=f (by have:=HS2.q.size;have:=qO.q;omega);have oU:=f (Bx.new w2 #[r u 0,r u 0,C H,j p 0 0] 77);have rQ:=f (eH w2 (F #[r u 0,r u 0,C H,j p 0 0] 77));have jL:y (w2.1.size≠R):=f (λe=>by have:=HR2.q.s.t.b.2.2;omega);have rR:y (w.1.size<w2.1.size):=f lM.q;refine hK _ _ ⟨G,cB.q _ kY.q HT3.q⟩ ?_;obtain⟨kb,hkb⟩:∃kb,kb=w2.1.size:=⟨_,rfl⟩;rw[<-hkb] at oU rQ jL rR oo ⊢;generalize w2.alloc (F #[r u 0,r u 0,C H,j p 0 0] 77)=w3 at fZ jD HT3 HR3 kY pR oU rQ wV ⊢;clear hK K hba hkb
  case' g4=>
   refine dS rfl rfl (λK hK=>?_);go_simp;have hba:=aB (I w1.1.size w1) (F #[r u 0,r u 0,C H,j p 0 0] 77);have iR:y (Same (λi=>i≠R) (w1) (w1.alloc (F #[r u 0,r u 0,C H,j p 0 0] 77))):=f (D hba (λ_ _ h=>h));have HS2:=f (iE.q.tr iR.q);have HT2:=f (HT1.q.tr (D hba (λi hi hl=>hl)));have HR2:=f (HR1.q.below hba);have sO:=ug;have kI:=f (HS2.q.block w.1.size (by have:=d9.q;omega) HX.q.2.2);have uh:=pF;have sM:=f (qW.q.gY iR.q);have lM:y (w.1.size<(w1.alloc (F #[r u 0,r u 0,C H,j p 0 0] 77)).1.size):=f (dz lX.q iR.q.size);have oo:y (V.1.size<=w1.1.size):=f (by have:=iE.q.size;have:=qO.q;omega);have oV:=f (Bx.new w1 #[r u 0,r u 0,C H,j p 0 0] 77);have uY:=f (eH w1 (F #[r u 0,r u 0,C H,j p 0 0] 77));have jL:y (w1.1.size≠R):=f (λe=>by have:=HR1.q.s.t.b.2.2;omega);have rR:y (w.1.size<w1.1.size):=f lX.q;refine hK _ _ ⟨G,cB.q _ kI.q HT2.q⟩ ?_;obtain⟨kb,hkb⟩:∃kb,kb=w1.1.size:=⟨_,rfl⟩;rw[<-hkb] at oV uY jL rR oo ⊢;generalize w1.alloc (F #[r u 0,r u 0,C H,j p 0 0] 77)=w2 at iR HS2 HT2 HR2 kI lM oV uY sM ⊢;clear hK K hba hkb;refine aD rfl rfl (λK hK=>?_);go_simp;refine(iF 2 ah n1 _ HR2.q sO.q HW.q.2.1 (HG.q.same HT2.q)).mono ?_;rintro e w3 ⟨hS,he⟩;have fZ:=f hS;have jD:=f (HS2.q.tr hS);have HT3:=f (HT2.q.tr (hS.mono (λi hi _=>by have:=HB.q;have:=fH.q;have:=fM.q;omega)));rcases iD (aI ((c.put 3 n0).put 2 n1)) with hf|hf;rotate_left
   .obtain rfl:=he.2 hf
    exact⟨rfl,gW.q _ HT3.q (λk=>hf (jJ.q.2.2.1 k))⟩
   obtain⟨rfl,tT,hr,hz,ho⟩:=he.1 hf;have HR3:=f hr;have uG:=f hf;have oK:=f ho;have kY:=f (jD.q.block w.1.size (by have:=d9.q;omega) HX.q.2.2);have qX:y (tT[6]?=_):=f ((oK.q 6 (.inl ah)).trans uh.q);have wV:=f (sM.q.gY fZ.q);have pR:y (w.1.size<w3.1.size):=f (dz lM.q fZ.q.size);have oU:=f (fZ.q.bx oV.q jL.q);have rQ:=f ((fZ.q.block kb jL.q oV.q.2.2).trans uY.q);refine hK _ _ ⟨G,cB.q _ kY.q HT3.q⟩ ?_;clear hK K hr hz ho hf he hS;refine qC ?_
 case' g2=>
  refine dS rfl rfl (λK hK=>?_);go_simp;have hba:=aB (I V0.1.size V0) (F #[r u 0,r u 0,C H,j p 0 0] 77);have lW:y (Same (λi=>i≠R) (V0) (V0.alloc (F #[r u 0,r u 0,C H,j p 0 0] 77))):=f (D hba (λ_ _ h=>h));have iE:=f (mP.q.tr lW.q);have HT1:=f (HT0.q.tr (D hba (λi hi hl=>hl)));have HR1:=f (gT.q.below hba);have ug:=yU;have mM:=f (iE.q.block w.1.size (by have:=d9.q;omega) HX.q.2.2);have pF:=AR;have qW:=f (mD.q.gY lW.q);have lX:y (w.1.size<(V0.alloc (F #[r u 0,r u 0,C H,j p 0 0] 77)).1.size):=f (dz sK.q lW.q.size);have oo:y (V.1.size<=V0.1.size):=f (by have:=mP.q.size;have:=qO.q;omega);have yJ:=f (Bx.new V0 #[r u 0,r u 0,C H,j p 0 0] 77);have BV:=f (eH V0 (F #[r u 0,r u 0,C H,j p 0 0] 77));have jL:y (V0.1.size≠R):=f (λe=>by have:=gT.q.s.t.b.2.2;omega);have rR:y (w.1.size<V0.1.size):=f sK.q;refine hK _ _ ⟨G,cB.q _ mM.q HT1.q⟩ ?_;obtain⟨kb,hkb⟩:∃kb,kb=V0.1.size:=⟨_,rfl⟩;rw[<-hkb] at yJ BV jL rR oo ⊢;generalize V0.alloc (F #[r u 0,r u 0,C H,j p 0 0] 77)=w1 at lW iE HT1 HR1 mM lX yJ BV qW ⊢;clear hK K hba hkb;refine aD rfl rfl (λK hK=>?_);go_simp;refine(iF 3 ah n0 _ HR1.q ug.q HW.q.1 (HG.q.same HT1.q)).mono ?_;rintro e w2 ⟨hS,he⟩;have iR:=f hS;have HS2:=f (iE.q.tr hS);have HT2:=f (HT1.q.tr (hS.mono (λi hi _=>by have:=HB.q;have:=fH.q;have:=fM.q;omega)));rcases iD (aI (c.put 3 n0)) with hf|hf;rotate_left
  .obtain rfl:=he.2 hf
   exact⟨rfl,gW.q _ HT2.q (λk=>hf (jJ.q.2.1 k))⟩
  obtain⟨rfl,cs2,hr,hz,ho⟩:=he.1 hf;have HR2:=f hr;have sO:=f hf;have iA:=f ho;have kI:=f (HS2.q.block w.1.size (by have:=d9.q;omega) HX.q.2.2);have uh:y (cs2[6]?=_):=f ((iA.q 6 (.inl ah)).trans pF.q);have sM:=f (qW.q.gY iR.q);have lM:y (w.1.size<w2.1.size):=f (dz lX.q iR.q.size);have oV:=f (iR.q.bx yJ.q jL.q);have uY:=f ((iR.q.block kb jL.q yJ.q.2.2).trans BV.q);refine hK _ _ ⟨G,cB.q _ kI.q HT2.q⟩ ?_;clear hK K hr hz ho hf he hS;refine aD rfl rfl (λK hK=>?_);go_simp;refine(iF 2 ah n1 _ HR2.q sO.q HW.q.2.1 (HG.q.same HT2.q)).mono ?_;rintro e w3 ⟨hS,he⟩;have fZ:=f hS;have jD:=f (HS2.q.tr hS);have HT3:=f (HT2.q.tr (hS.mono (λi hi _=>by have:=HB.q;have:=fH.q;have:=fM.q;omega)));rcases iD (aI ((c.put 3 n0).put 2 n1)) with hf|hf;rotate_left
  .obtain rfl:=he.2 hf
   exact⟨rfl,gW.q _ HT3.q (λk=>hf (jJ.q.2.2.1 k))⟩
  obtain⟨rfl,tT,hr,hz,ho⟩:=he.1 hf;have HR3:=f hr;have uG:=f hf;have oK:=f ho;have kY:=f (jD.q.block w.1.size (by have:=d9.q;omega) HX.q.2.2);have qX:y (tT[6]?=_):=f ((oK.q 6 (.inl ah)).trans uh.q);have wV:=f (sM.q.gY fZ.q);have pR:y (w.1.size<w3.1.size):=f (dz lM.q fZ.q.size);have oU:=f (fZ.q.bx oV.q jL.q);have rQ:=f ((fZ.q.block kb jL.q oV.q.2.2).trans uY.q);refine hK _ _ ⟨G,cB.q _ kY.q HT3.q⟩ ?_;clear hK K hr hz ho hf he hS;refine qC ?_
 all_goals
  have hcK:=oU.q.1;have xE:=oU.q.2.1;refine aD rfl rfl (λK hK=>?_);go_simp;have gB:y (Same (λi=>i≠kb) w3 ((((w3.setCell ⟨kb,0,p⟩ (r u (c.no 3 n0))).setCell ⟨kb,1,p⟩ (r u ((c.put 3 n0).no 2 n1))).setCell ⟨kb,2,p⟩ (C lf)).setCell ⟨kb,3,p⟩ (j p 0 0))):=f (((((J w3).setTail (λh=>h rfl)).setTail (λh=>h rfl)).setTail (λh=>h rfl)).setTail (λh=>h rfl));have yK:=f ((((oU.q.aZ 0 au (r u (c.no 3 n0))).aZ 1 au (r u ((c.put 3 n0).no 2 n1))).aZ 2 au (C lf)).aZ 3 au (j p 0 0));have ER:=f (bT (i:=3) (bT (i:=2) (bT (i:=1) (bT (i:=0) (rQ.q) (r u (c.no 3 n0))) (r u ((c.put 3 n0).no 2 n1))) (C lf)) (j p 0 0));have HR4:=f (HR3.q.box (T:=77) ⟨_,_,rQ.q⟩ aj aj aj aj aj (.inl aj) (.inr (λv hv e=>by rw[qX.q] at hv;injection hv with hv;subst hv;have:=(mD.q.lt kb e).2;have:=oo.q;have:=qO.q;omega)) (λe=>jL.q e.symm) gB.q);have Ar:=uG;have BF:y (Same (λi=>i≠R) V ((((w3.setCell ⟨kb,0,p⟩ (r u (c.no 3 n0))).setCell ⟨kb,1,p⟩ (r u ((c.put 3 n0).no 2 n1))).setCell ⟨kb,2,p⟩ (C lf)).setCell ⟨kb,3,p⟩ (j p 0 0))):=f (((jD.q.mono (A':=λi=>i≠R/\i<V.1.size) (λi hi _=>hi.1)).tr (gB.q.mono (λi hi _=>by have:=oo.q;have:=qO.q;omega))).mono (λi hi hl=>⟨hi,hl⟩));have xM:=f (HT3.q.tr (gB.q.mono (λi hi _=>by have:=rR.q;have:=d9.q;have:=HB.q;have:=fH.q;have:=fM.q;omega)));have uM:=f ((gB.q.block w.1.size (by have:=rR.q;omega) pR.q).trans kY.q);have zy:=f (dz pR.q gB.q.size);have UO:=qX;have Np:=f (wV.q.same gB.q (λg hg e=>by have:=(mD.q.lt g hg).2;have:=oo.q;have:=qO.q;omega));refine hK _ _ ⟨G,cB.q _ uM.q xM.q⟩ ?_;generalize((((w3.setCell ⟨kb,0,p⟩ (r u (c.no 3 n0))).setCell ⟨kb,1,p⟩ (r u ((c.put 3 n0).no 2 n1))).setCell ⟨kb,2,p⟩ (C lf)).setCell ⟨kb,3,p⟩ (j p 0 0))=w4 at gB yK ER HR4 BF xM uM zy Np ⊢;clear hK K hcK xE;refine jm ?_;have hcb:w4.cell? ⟨w.1.size,1,p⟩=E (j (E ⟨nb,no,p⟩) (rs.length+2) nc):=(cB.q _ uM.q xM.q).1;go_wp2_with fail;have Ug:y (Row w4 1 encStr ra rs.length (nc - 2) rs):=f (xM.q.row Uf.q (λb o e=> .inl (Am.q b o e)));refine(Wz rs ra rs.length _ _ HR4.q Ar.q Ug.q (λb o e=>by have:=Am.q b o e;have:=HB.q;have:=fH.q;have:=fM.q;omega) HW.q.2.2 (by have:=uF.q;omega) (HG.q.same xM.q) fH.q).mono ?_;rintro e w5 ⟨hS,he⟩;have UQ:=f hS;have sU:=f (BF.q.tr hS);have Oj:=f (xM.q.tr (hS.mono (λi hi _=>by have:=HB.q;have:=fH.q;have:=fM.q;omega)));rcases iD (aI (((c.put 3 n0).put 2 n1).ts rs).1) with hf|hf;rotate_left
  .obtain rfl:=he.2 hf
   exact⟨rfl,gW.q _ Oj.q (λk=>hf (jJ.q.2.2.2 k))⟩
  obtain⟨a2,q2,rfl,how,Rn,hr,hz,ho⟩:=he.1 hf;have Ta:=f hr;have Oa:=f hf;have Al:=f ho;have OP:=f (sU.q.block w.1.size (by have:=d9.q;omega) HX.q.2.2);have HOW:=f (how.mono (B':=R+1) (by have:=HR4.q.s.t.b.2.2;omega));have acE:y (Rn[6]?=_):=f ((Al.q 6 (.inl ah)).trans UO.q);have akd:=f (Np.q.gY UQ.q);have ahY:y (w.1.size<w5.1.size):=f (dz zy.q UQ.q.size);have UR:=f (UQ.q.bx yK.q jL.q);have UU:=f ((UQ.q.block kb jL.q yK.q.2.2).trans ER.q);clear hr hz ho hf he hS how hcb;have hcK:=UR.q.1 3;have xE:=UR.q.2.1 3;have hlK:=UR.q.2.2;go_wp2_with fail;have JI:y (Same (λi=>i≠kb) w5 (w5.setCell ⟨kb,3,p⟩ (j a2 rs.length q2))):=f ((J w5).setTail (λh=>h rfl));have ahZ:=f (UR.q.aZ 3 au (j a2 rs.length q2));have NN:=f (Ta.q.box (T:=77) ⟨_,_,UU.q⟩ aj aj aj aj aj (.inl aj) (.inr (λv hv e=>by rw[acE.q] at hv;injection hv with hv;subst hv;have:=(mD.q.lt kb e).2;have:=oo.q;have:=qO.q;omega)) (λe=>jL.q e.symm) JI.q);have HF6:=Oa;have Iw:=f (Oj.q.tr (JI.q.mono (λi hi _=>by have:=rR.q;have:=d9.q;have:=HB.q;have:=fH.q;have:=fM.q;omega)));have ah0:=f ((JI.q.block w.1.size (by have:=rR.q;omega) ahY.q).trans OP.q);have ah1:=f (dz ahY.q JI.q.size);have ake:=acE;have acF:=f (akd.q.same JI.q (λg hg e=>by have:=(mD.q.lt g hg).2;have:=oo.q;have:=qO.q;omega));have ah2:=f (HOW.q.aK ⟨_,_,UU.q⟩ aj JI.q);generalize(w5.setCell ⟨kb,3,p⟩ (j a2 rs.length q2))=w6 at JI ahZ NN Iw ah0 ah1 acF ah2 ⊢;clear hcK xE hlK;have Ql:=f (NN.q.below (I w6.1.size w6).drew);have HF7:=HF6;have HT7:=f (Iw.q.tr (D (I w6.1.size w6).drew (λi hi hl=>hl)));have aaK:y (w6.drew.1[w.1.size]?=V.1[w.1.size]?):=f ah0.q;have ah4:y (w.1.size<w6.drew.1.size):=f ah1.q;have Ie:=ake;have acH:y (Own w6.drew (R+1) 77 4 eP (j a7 ms.length c7) ms):=f acF.q;have aoy:y (Own w6.drew (R+1) 3 1 aQ (j a2 rs.length q2) _):=f ah2.q;have Ag:y (Bx w6.drew kb _):=f ahZ.q.drew;refine dm 12 [(0,0),(1,0),(2,0),(3,0),(4,0),(5,0),(6,0),(7,2),(8,2),(9,1),(10,1),(11,0),(12,2)] (λ_=>True) (λW'=>W'.cell? ⟨R,6,p⟩=E (j a7 ms.length c7)/\W'.cell? ⟨kb,0,p⟩=E (r u (c.no 3 n0))/\W'.cell? ⟨kb,1,p⟩=E (r u ((c.put 3 n0).no 2 n1))/\W'.cell? ⟨kb,2,p⟩=E (C lf)/\W'.cell? ⟨kb,3,p⟩=E (j a2 rs.length q2)) (λch w'=>gN B K R (aO c s) w (.panicked ch) w') av av (λch a1 w1 hd hr=>⟨hd,hr⟩) (trivial) (⟨(Ql.q.s.t.b.1 6).trans Ie.q,Ag.q.1 0,Ag.q.1 1,Ag.q.1 2,Ag.q.1 3⟩) ?_;refine qC ?_;refine aD rfl rfl (λK hK=>?_);go_simp;have hba:=aB (I w6.drew.1.size w6.drew) (F #[r u (c.no 3 n0),r u ((c.put 3 n0).no 2 n1),C lf,j a2 rs.length q2] 77);have gU:=f hba;have IQ:=f (HT7.q.tr (D hba (λi hi hl=>hl)));have Jr:y ((w6.drew.alloc (F #[r u (c.no 3 n0),r u ((c.put 3 n0).no 2 n1),C lf,j a2 rs.length q2] 77)).1[w.1.size]?=V.1[w.1.size]?):=f ((hba.block _ (by have:=ah4.q;omega)).trans aaK.q);have CG:=f (Ql.q.s.t.b.keep hba);refine hK _ _ ⟨G,(CG.q.1 6).trans Ie.q,(Ag.q.alloc _).1 0,(Ag.q.alloc _).1 1,(Ag.q.alloc _).1 2,(Ag.q.alloc _).1 3⟩ ?_;clear hK K hba;refine aD rfl rfl (λK hK=>?_);refine ko _ _ 33 rfl i z 48 Tryz.underlying33 HI.q.1 HI.q.2.1 HI.q.2.2.1 HI.q.2.2.2.1 HI.q.2.2.2.2 rfl (acH.q.below gU.q rfl) (E ⟨w6.drew.1.size,0,p⟩) 1 1 (ms.length+1) [⟨c.no 3 n0,(c.put 3 n0).no 2 n1,lf,a2,rs.length,q2⟩] rfl (Row.ma1 w6.drew _) rfl fT.q lV.q (dL (Nat.succ_le_of_lt Ql.q.s.t.b.2.2) gU.q.size) ?_;intro a' c' w9 fq dx lH;have Kt:=f (IQ.q.tr ⟨dx.os,dx.tape,dx.output,dx.size,λi hi hl=>dx.block i hl (λe=>by have:=(pI.q i e.symm).2.2.1;have:=(pI.q i e.symm).2.2.2;have:=HB.q;have:=fH.q;have:=fM.q;omega)⟩);have Ue:y (w9.1[w.1.size]?=V.1[w.1.size]?):=f ((dx.block w.1.size (dz ah4.q gU.q.size) (λe=>(pI.q _ e.symm).1 rfl)).trans Jr.q);have wz:=CG.q.grown dx (λe=>(pI.q _ e).2.1 rfl);refine hK _ _ ⟨G,(wz.1 6).trans Ie.q,((Ag.q.alloc _).grown dx (λe=>by have:=(mD.q.lt kb e).2;have:=oo.q;have:=qO.q;omega)).1 0,((Ag.q.alloc _).grown dx (λe=>by have:=(mD.q.lt kb e).2;have:=oo.q;have:=qO.q;omega)).1 1,((Ag.q.alloc _).grown dx (λe=>by have:=(mD.q.lt kb e).2;have:=oo.q;have:=qO.q;omega)).1 2,((Ag.q.alloc _).grown dx (λe=>by have:=(mD.q.lt kb e).2;have:=oo.q;have:=qO.q;omega)).1 3⟩ ?_;have tV:=(wz.1 6).trans Ie.q;have Ap:=wz.2.1 6;have Oq:=f wz;have qL:=f fq;have iw:=f dx;clear hK K wz fq dx lH;refine qC ?_;refine bq rfl rfl rfl (λK hK=>?_);go_simp;refine hK _ _ G ?_;clear hK K;refine jm ?_;have zS:y (aI (aO c s)):=f (by rw[fD.q];have k:=HF7.q;exact⟨k.1,k.2.1,k.2.2.1,by show((((c.put 3 n0).put 2 n1).ts rs).1.M++[_]).length<=3000;rw[dH,kT,LJ.q];exact Kr.q,k.2.2.2.2.1,k.2.2.2.2.2⟩);go_wp2_with fail;refine bodyPost_end (results_none rfl _ _ _) rfl ?_;refine⟨Kt.q.setTail (λh=>by have:=HB.q;have:=fH.q;have:=fM.q;omega),λ_=>⟨rfl,?_⟩,λk=>absurd zS.q k⟩;rw[fD.q];have Au:Same (λi=>i≠R/\(Value.slice a7 ms.length c7).ownBlock≠E i) w6.drew (w9.setCell ⟨R,6,p⟩ (j a' (ms.length+1) c')):=
   ((D gU.q (λ_ _ h=>h)).tr ⟨iw.q.os,iw.q.tape,iw.q.output,iw.q.size,λi hi hl=>iw.q.block i hl (λe=>hi.2 e.symm)⟩).setTail (λh=>h.1 rfl)
  exact⟨_,_,_,_,Ql.q.NS (x:=(⟨c.no 3 n0,(c.put 3 n0).no 2 n1,lf,a2,rs.length,q2⟩:aN)) Ie.q acH.q Au (qL.q.same (A:=λi=>i≠R) ((J _).setTail (λh=>h rfl)) (λg hg e=>by have:=(qL.q.lt g hg).1;omega)) (Oq.q.aZ 6 (dI.1 Ie.q).1 _) aoy.q⟩
end
end Yd
namespace Yd
open Option renaming some->u,none->y
open Go Go.RowKit Go.Proofs Go.Maps
open Below renaming refl->D
open Go.IntKind renaming i64->p
open Go.Obj renaming cells->F
open Go.RowKit renaming Hid->A
open Go.Value renaming int->r,slice->M,string->O
open Same renaming of_below->C
open Tryz renaming prog->H
open World renaming cell?_of_block->J
open Yd renaming hid->f
open _root_ renaming trivial->G,Int->I,List->N
theorem Fu.map {R mb:Nat}{cs:Array Value}{c:Cont}{es:N EvC}{ds:N aM}{ms:N aN}{X Y:World}(h:Fu X R cs c es ds ms)(hm:∃q k,X.1[mb]?=u (.map q k))(hR:mb≠R)(hs:Same (λi=>i≠mb) X Y):Fu Y R cs c es ds ms:=by
 have hO:∀{β:Type}{T:TypeId}{k:Nat}{enc:β->N Value}{v:Value}{L:N β},Own X (R+1) T k enc v L->Own Y (R+1) T k enc v L:=λo=>o.same hs (λg hg e=>by
  obtain⟨_,_,q1⟩:=o.tag hg;obtain⟨_,_,q2⟩:=hm;rw[e,q2] at q1
  cases q1)
 exact⟨⟨hs.bx h.t.b (λe=>hR e.symm),λk hk=>(let⟨v,v1,v2⟩:=h.t.t k hk;⟨v,v1,hO v2⟩),h.t.n⟩,(let⟨v,v1,v2⟩:=h.e;⟨v,v1,hO v2⟩),(let⟨v,v1,v2⟩:=h.d;⟨v,v1,hO v2⟩),(let⟨v,v1,v2⟩:=h.m;⟨v,v1,hO v2⟩),(let⟨v,v1,v2⟩:=h.q;⟨v,v1,hO v2⟩),h.be,h.bd,h.bm,h.se.imp (λ_ _ o=>hO o),h.sd.imp (λ_ _ o=>hO o),h.sm.imp (λ_ _ o=>hO o)⟩
theorem acI {c:Cont}{k:Nat}{s:Bs}(hk:k<4)(hf:aI (c.put k s)):(Lit.int p (c.no k s)).wf=true:=by
 have h1:=hf.1 k hk;have h2:=WB (c.nl k) s;have h3:=vw k;have e:(c.put k s).nl k=cZ (c.nl k) s:=ay rfl;rw[e] at h1;exact WalkArith.wf_i64 (by show _/\_;unfold Cont.no;omega)
section
variable {B K R:Nat}{cs:Array Value}{c:Cont}{es:N EvC}{ds:N aM}{ms:N aN}
theorem ael (ev:EvC)(l:N Sn)(w:World)(h:Fu w R cs c es ds ms)(hm:∃mb,cs[12]?=u (.map (u mb))/\kG w mb (c.E++[ev.base])/\B<=mb)(hB:B<=R)(hf:aI c)(hl:Own w (R+1) 117 3 bS ev.val l)(hk:ev.kind=2->ev.v.k<=999)(hK:oM w K)(rM:R<K):
  Calls H 68 #[.pointer (u ⟨R,0,y⟩),je ev] w (λe w'=>((∀g q T fz,w.1[g]?=u (F q T fz)->T≠47->g≠R->w'.1[g]?=w.1[g]?)/\(∀(g:Nat)(q:Array MapEntry)(k:Nat),w.1[g]?=u (Obj.map q k)->w'.1[g]?=w.1[g]?)/\(aI (c.ev ev.base l)->∀j,j≠4->w'.cell? ⟨R,j,y⟩=w.cell? ⟨R,j,y⟩))/\gN B K R (c.ev ev.base l) w e w'):=by
 obtain⟨v4,h4,hO⟩:=h.e;have hlen:es.length=c.E.length:=by rw[<-h.be,bH]
 refine(OL ev w h.t.b h4 hO (by rw[hlen];exact hf.2.1)).mono ?_;rintro e w' ⟨hS,he⟩;have hmap:∀g,(∃q k,w.1[g]?=u (.map q k))->g≠R/\v4.ownBlock≠u g:=λg hg=>⟨h.t.b.BB h4 hg,λq=>by
  obtain⟨cs1,f1,e1⟩:=hO.tag q;obtain⟨_,_,e2⟩:=hg;rw[e1] at e2;cases e2⟩
 rw[gN,R3 hf,<-hlen];refine⟨⟨λg q T fz hg hT hgR=>hS.block g ⟨hgR,λq=>by
  obtain⟨cs1,f1,e1⟩:=hO.tag q;rw[e1] at hg
  cases hg
  exact hT rfl⟩ (dI.1 hg).1,λg q k hg=>hS.block g (hmap g ⟨q,k,hg⟩) (dI.1 hg).1,λhx j hj=>?_⟩,hS.mono (λi hi _=>⟨by omega,λq=>by
  rcases hi with hi|hi
  .have:=(hO.lt i q).1;omega
  .obtain⟨_,_,q1⟩:=hO.tag q
   obtain⟨_,T,_,q2,hT⟩:=hK i hi.1 hi.2;rw[q1] at q2
   cases q2
   exact hT.1 rfl⟩),?_⟩
 .rw[ay hx.1] at he
  obtain⟨_,v',_,hB'⟩:=he;rw[hB'.1 j,h.t.b.1 j,jO (λq=>hj q.symm)]
 .by_cases hx:es.length<3000
  .rw[ay hx] at he
   obtain⟨rfl,v',OI,hB'⟩:=he;obtain⟨mb,m1,m2,m3⟩:=hm;refine⟨λ_=>⟨rfl,_,_,_,_,h.event h4 hS OI hB' hl,⟨mb,?_,?_,m3⟩,hB⟩,λhn=>absurd ⟨hx,hk⟩ hn⟩
   .rw[jO ah];exact m1
   .exact m2.same hS (hmap mb m2.obj)
  .rw[ak hx] at he
   exact⟨λhn=>absurd hn.1 hx,λ_=>he⟩
theorem Xu (l:bB)(s:aP)(w:World)(h:jy B w R cs c es ds ms)(hf:aI c)(hl:vK w B l s)(hk:s.kind=2)(hok:fB s)(hG:nC B K w)(oN:oM w K)(rM:R<K):
  Calls H 36 #[.pointer (u ⟨R,0,y⟩),jg l] w (gN B K R (aO c s) w):=by
 obtain⟨n0,n1,hn⟩:=names2 hok (.inr (.inl hk));have hnn:l.nn=2:=by rw[hl.k.2.2.2.2.1,hn];rfl
 obtain⟨nb,no,ha0,hb0,hd0⟩:=hl.name (i:=0) (x:=n0) (by rw[hn];rfl);obtain⟨nb',no',ha1,hb1,hd1⟩:=hl.name (i:=1) (x:=n1) (by rw[hn];rfl);rw[ha0] at ha1;injection ha1 with q;injection q with q1 q2;subst q1 q2;obtain⟨v7,h7,oG⟩:=h.s.e;obtain⟨a7,c7,rfl,_,Dc⟩:=oG.shape;obtain⟨i,z,hi⟩:=Dt;have HI:=f hi;clear hi;obtain⟨lk,la,ln,nc,lvl,va,vn,vc,lf,bits⟩:=l;obtain⟨k1,k2,k3,k4,k5,k6⟩:=hl.k;simp only at k1 k2 k3 k4 k5 k6 ha0 hnn;rw[hk] at k1;subst k1;have fD:A (aO c s=((c.put 0 n0).put 2 n1).ev ⟨2,c.no 0 n0,0,0,(c.put 0 n0).no 2 n1,⟨c.no 0 n0,(fK c.E (c.no 0 n0) ((c.put 0 n0).no 2 n1):I)+1⟩,0,y,0,0⟩ []):=f (by unfold aO;simp only[hk,hn];rfl);subst ha0 hnn;have yB:=f oN;have fH:=f rM;have fM:A (K+3<=w.1.size):=f (let⟨q,T,fz,e,_⟩:=oN (K+2) ah ah;(dI.1 e).1);clear oN rM;have HB:=f h.b;have d9:A (R<w.1.size):=f h.s.t.b.2.2;obtain⟨V,hV⟩:∃V,V=w.alloc (F #[r p 2,M (u ⟨nb,no,y⟩) 2 nc,r p lvl,M va vn vc,.bool lf,r p bits] 30):=⟨_,rfl⟩;have bE:A (Below w.1.size w V):=f (by rw[hV];exact aB (D w.1.size w) _);have HX:A (Bx V w.1.size #[r p 2,M (u ⟨nb,no,y⟩) 2 nc,r p lvl,M va vn vc,.bool lf,r p bits]):=f (by rw[hV];exact Bx.new w _ _);have zW:A (V.1[w.1.size]?=u (F #[r p 2,M (u ⟨nb,no,y⟩) 2 nc,r p lvl,M va vn vc,.bool lf,r p bits] 30 (0,0))):=f (by rw[hV];exact eH w _);have cB:A (∀W,W.1[w.1.size]?=V.1[w.1.size]?->Same (λi=>i<B\/(K<=i/\i<K+3)) w W->(λW'=>W'.cell? ⟨w.1.size,0,y⟩=u (r p 2)/\W'.cell? ⟨w.1.size,1,y⟩=u (M (u ⟨nb,no,y⟩) 2 nc)/\W'.cell? ⟨nb,no,y⟩=u (O ⟨n0.toArray⟩)/\W'.cell? ⟨nb,no+1,y⟩=u (O ⟨n1.toArray⟩)) W):=f (λW hb hs=>⟨(J (a:=⟨w.1.size,0,y⟩) hb).trans (HX.q.1 0),(J (a:=⟨w.1.size,1,y⟩) hb).trans (HX.q.1 1),hs.cell hd0 ah,hs.cell hd1 ah⟩);have gW:A (∀W,Same (λi=>i<B\/(K<=i/\i<K+3)) w W->¬aI (aO c s)->gN B K R (aO c s) w (.panicked kD) W):=f (λW hs hn=>⟨hs,λk=>absurd k hn,λ_=>rfl⟩);have jJ:A (True/\(aI (aO c s)->aI (c.put 0 n0))/\(aI (aO c s)->aI ((c.put 0 n0).put 2 n1))/\(aI (aO c s)->(fK c.E (c.no 0 n0) ((c.put 0 n0).no 2 n1):I)+1<=999)):=f (by rw[fD.q];exact⟨G,λk=>((Gr.put _ 2 _).trans (Gr.ev _ _ _)).fits k,λk=>(Gr.ev _ _ _).fits k,λk=>k.2.2.2.2.2 ⟨2,c.no 0 n0,0,0,(c.put 0 n0).no 2 n1,⟨c.no 0 n0,(fK c.E (c.no 0 n0) ((c.put 0 n0).no 2 n1):I)+1⟩,0,y,0,0⟩ (pX _ (bF.2 rfl)) rfl⟩);have jE:A (V.drew.1.size=w.1.size+1):=f (by show V.1.size=_;rw[hV];exact World.size_alloc _ _);have mP:A (Same (λi=>i≠R) V V.drew):=f (C (D _ _).drew (λ_ _ h=>h));have HT0:A (Same (λi=>i<B\/(K<=i/\i<K+3)) w V.drew):=f (C bE.q.drew (λi hi hl=>by have:=HB.q;have:=fH.q;have:=fM.q;have:=d9.q;omega));have gT:=f (h.below bE.q.drew);have yU:=f hf;have HG:=f hG;have HW:=f ((⟨hok.1 n0 (by rw[hn];simp),hok.1 n1 (by rw[hn];simp)⟩:_/\_));have uK:A (V.drew.1[w.1.size]?=V.1[w.1.size]?):=f rfl;have H7:=f h7;have mF:=f (oG.below bE.q rfl);have hx7:V.cell? ⟨R,4,y⟩=u (M a7 es.length c7):=((h.s.t.b.keep bE.q).1 4).trans h7;have wm:=f hx7;have EB:(w.alloc (F #[r p 2,M (u ⟨nb,no,y⟩) 2 nc,r p lvl,M va vn vc,.bool lf,r p bits] 30)).cell? ⟨R,4,y⟩=u (M a7 es.length c7):=by rw[<-hV];exact hx7
 have pI:A (∀g,(Value.slice a7 es.length c7).ownBlock=u g->g≠w.1.size/\g≠R/\R+1<=g/\¬(K<=g/\g<K+3)):=f (λg hg=>⟨λe=>(by obtain⟨_,_,q⟩:=mF.q.tag hg;rw[e,zW.q] at q;cases q),λe=>(by have:=(mF.q.lt g hg).1;omega),(mF.q.lt g hg).1,λe=>(by obtain⟨_,_,q⟩:=mF.q.tag hg;obtain⟨_,T,_,q2,hT⟩:=yB.q g e.1 e.2;rw[bE.q.block g (by have:=fM.q;omega),q2] at q;cases q;simp[EA] at hT)⟩);clear k2 k3 k4 k5 k6 hk hn;have sK:A (w.1.size<V.drew.1.size):=f (by have:=jE.q;omega);clear h hf hG hl hok hb0 hd0 hb1 hd1 h7 oG hx7 EB HI mF H7 wm pI Dc;go_enter Tryz.func36,Tryz.ntmps36;go_wp2_with fail;rw[<-hV];clear hV;refine uo 99 (.q 0 0 (.q 1 0 (.q 2 0 (.q 3 0 (.q 4 0 (.q 6 0 (.q 7 0 (.q 8 0 (.q 9 0 (.q 10 0 (.alt 5 (.alt 11 (.q 12 0 (.l 13 (.l 14 .nil))) 13 (.l 11 (.q 12 0 (.l 14 .nil)))) 13 (.l 5 (.l 11 (.q 12 0 (.l 14 .nil))))))))))))))) (λ_=>True) (λW'=>W'.cell? ⟨w.1.size,0,y⟩=u (r p 2)/\W'.cell? ⟨w.1.size,1,y⟩=u (M (u ⟨nb,no,y⟩) 2 nc)/\W'.cell? ⟨nb,no,y⟩=u (O ⟨n0.toArray⟩)/\W'.cell? ⟨nb,no+1,y⟩=u (O ⟨n1.toArray⟩)) (λch w'=>gN B K R (aO c s) w (.panicked ch) w') av av (λch a1 w1 hd hr=>⟨hd,hr⟩) G (cB.q _ uK.q HT0.q) ?_;refine qC ?_;obtain⟨V0,uq⟩:∃V0:World,V0=V.drew:=⟨_,rfl⟩;rw[<-uq] at mP HT0 gT uK sK jE ⊢;have qO:A (V0.1.size=V.1.size):=f (by rw[uq];rfl);clear uq;refine⟨?g9,?g10⟩
 case' g9=>
  refine dS rfl rfl (λK hK=>?_);go_simp;refine(iF 0 ah n0 _ gT.q yU.q HW.q.1 (HG.q.same HT0.q)).mono ?_;rintro e w1 ⟨hS,he⟩;have lW:=f hS;have iE:=f (mP.q.tr hS);have HT1:=f (HT0.q.tr (hS.mono (λi hi _=>by have:=HB.q;have:=fH.q;have:=fM.q;omega)));rcases iD (aI (c.put 0 n0)) with hf|hf;rotate_left
  .obtain rfl:=he.2 hf
   exact⟨rfl,gW.q _ HT1.q (λk=>hf (jJ.q.2.1 k))⟩
  obtain⟨rfl,cs1,hr,hz,ho⟩:=he.1 hf;have HR1:=f hr;have ug:=f hf;have gu:=f ho;have mM:=f (iE.q.block w.1.size (by have:=d9.q;omega) HX.q.2.2);have lX:A (w.1.size<w1.1.size):=f (dz sK.q lW.q.size);have lX:A (w.1.size<w1.1.size):=f (dz sK.q lW.q.size);refine hK _ _ ⟨G,cB.q _ mM.q HT1.q⟩ ?_;clear hK K hr hz ho hf he hS;refine⟨?g11,?g12⟩
  case' g11=>
   refine dS rfl rfl (λK hK=>?_);go_simp;refine(iF 2 ah n1 _ HR1.q ug.q HW.q.2 (HG.q.same HT1.q)).mono ?_;rintro e w2 ⟨hS,he⟩;have iR:=f hS;have HS2:=f (iE.q.tr hS);have HT2:=f (HT1.q.tr (hS.mono (λi hi _=>by have:=HB.q;have:=fH.q;have:=fM.q;omega)));rcases iD (aI ((c.put 0 n0).put 2 n1)) with hf|hf;rotate_left
   .obtain rfl:=he.2 hf
    exact⟨rfl,gW.q _ HT2.q (λk=>hf (jJ.q.2.2.1 k))⟩
   obtain⟨rfl,cs2,hr,hz,ho⟩:=he.1 hf;have HR2:=f hr;have sO:=f hf;have iA:=f ho;have kI:=f (HS2.q.block w.1.size (by have:=d9.q;omega) HX.q.2.2);have lM:A (w.1.size<w2.1.size):=f (dz lX.q iR.q.size);have lM:A (w.1.size<w2.1.size):=f (dz lX.q iR.q.size);refine hK _ _ ⟨G,cB.q _ kI.q HT2.q⟩ ?_;clear hK K hr hz ho hf he hS;refine qC ?_;refine aD rfl rfl (λK hK=>?_);go_simp;have hba:=aB (D w2.1.size w2) (F #[r p 0,r p 0] 132);have fZ:A (Same (λi=>i≠R) (w2) (w2.alloc (F #[r p 0,r p 0] 132))):=f (C hba (λ_ _ h=>h));have jD:=f (HS2.q.tr fZ.q);have HT3:=f (HT2.q.tr (C hba (λi hi hl=>hl)));have HR3:=f (HR2.q.below hba);have uG:=sO;have kY:=f (jD.q.block w.1.size (by have:=d9.q;omega) HX.q.2.2);have pR:A (w.1.size<(w2.alloc (F #[r p 0,r p 0] 132)).1.size):=f (dz lM.q fZ.q.size);have oo:A (V.1.size<=w2.1.size):=f (by have:=HS2.q.size;have:=qO.q;omega);have oU:=f (Bx.new w2 #[r p 0,r p 0] 132);have rQ:=f (eH w2 (F #[r p 0,r p 0] 132));have jL:A (w2.1.size≠R):=f (λe=>by have:=HR2.q.s.t.b.2.2;omega);have rR:A (w.1.size<w2.1.size):=f lM.q;refine hK _ _ ⟨G,cB.q _ kY.q HT3.q⟩ ?_;obtain⟨kb,hkb⟩:∃kb,kb=w2.1.size:=⟨_,rfl⟩;rw[<-hkb] at oU rQ jL rR oo ⊢;generalize w2.alloc (F #[r p 0,r p 0] 132)=w3 at fZ jD HT3 HR3 kY pR oU rQ ⊢;clear hK K hba hkb
  case' g12=>
   refine dS rfl rfl (λK hK=>?_);go_simp;have hba:=aB (D w1.1.size w1) (F #[r p 0,r p 0] 132);have iR:A (Same (λi=>i≠R) (w1) (w1.alloc (F #[r p 0,r p 0] 132))):=f (C hba (λ_ _ h=>h));have HS2:=f (iE.q.tr iR.q);have HT2:=f (HT1.q.tr (C hba (λi hi hl=>hl)));have HR2:=f (HR1.q.below hba);have sO:=ug;have kI:=f (HS2.q.block w.1.size (by have:=d9.q;omega) HX.q.2.2);have lM:A (w.1.size<(w1.alloc (F #[r p 0,r p 0] 132)).1.size):=f (dz lX.q iR.q.size);have oo:A (V.1.size<=w1.1.size):=f (by have:=iE.q.size;have:=qO.q;omega);have oV:=f (Bx.new w1 #[r p 0,r p 0] 132);have uY:=f (eH w1 (F #[r p 0,r p 0] 132));have jL:A (w1.1.size≠R):=f (λe=>by have:=HR1.q.s.t.b.2.2;omega);have rR:A (w.1.size<w1.1.size):=f lX.q;refine hK _ _ ⟨G,cB.q _ kI.q HT2.q⟩ ?_;obtain⟨kb,hkb⟩:∃kb,kb=w1.1.size:=⟨_,rfl⟩;rw[<-hkb] at oV uY jL rR oo ⊢;generalize w1.alloc (F #[r p 0,r p 0] 132)=w2 at iR HS2 HT2 HR2 kI lM oV uY ⊢;clear hK K hba hkb;refine aD rfl rfl (λK hK=>?_);go_simp;refine(iF 2 ah n1 _ HR2.q sO.q HW.q.2 (HG.q.same HT2.q)).mono ?_;rintro e w3 ⟨hS,he⟩;have fZ:=f hS;have jD:=f (HS2.q.tr hS);have HT3:=f (HT2.q.tr (hS.mono (λi hi _=>by have:=HB.q;have:=fH.q;have:=fM.q;omega)));rcases iD (aI ((c.put 0 n0).put 2 n1)) with hf|hf;rotate_left
   .obtain rfl:=he.2 hf
    exact⟨rfl,gW.q _ HT3.q (λk=>hf (jJ.q.2.2.1 k))⟩
   obtain⟨rfl,tT,hr,hz,ho⟩:=he.1 hf;have HR3:=f hr;have uG:=f hf;have oK:=f ho;have kY:=f (jD.q.block w.1.size (by have:=d9.q;omega) HX.q.2.2);have pR:A (w.1.size<w3.1.size):=f (dz lM.q fZ.q.size);have pR:A (w.1.size<w3.1.size):=f (dz lM.q fZ.q.size);have oU:=f (fZ.q.bx oV.q jL.q);have rQ:=f ((fZ.q.block kb jL.q oV.q.2.2).trans uY.q);refine hK _ _ ⟨G,cB.q _ kY.q HT3.q⟩ ?_;clear hK K hr hz ho hf he hS;refine qC ?_
 case' g10=>
  refine dS rfl rfl (λK hK=>?_);go_simp;have hba:=aB (D V0.1.size V0) (F #[r p 0,r p 0] 132);have lW:A (Same (λi=>i≠R) (V0) (V0.alloc (F #[r p 0,r p 0] 132))):=f (C hba (λ_ _ h=>h));have iE:=f (mP.q.tr lW.q);have HT1:=f (HT0.q.tr (C hba (λi hi hl=>hl)));have HR1:=f (gT.q.below hba);have ug:=yU;have mM:=f (iE.q.block w.1.size (by have:=d9.q;omega) HX.q.2.2);have lX:A (w.1.size<(V0.alloc (F #[r p 0,r p 0] 132)).1.size):=f (dz sK.q lW.q.size);have oo:A (V.1.size<=V0.1.size):=f (by have:=mP.q.size;have:=qO.q;omega);have yJ:=f (Bx.new V0 #[r p 0,r p 0] 132);have BV:=f (eH V0 (F #[r p 0,r p 0] 132));have jL:A (V0.1.size≠R):=f (λe=>by have:=gT.q.s.t.b.2.2;omega);have rR:A (w.1.size<V0.1.size):=f sK.q;refine hK _ _ ⟨G,cB.q _ mM.q HT1.q⟩ ?_;obtain⟨kb,hkb⟩:∃kb,kb=V0.1.size:=⟨_,rfl⟩;rw[<-hkb] at yJ BV jL rR oo ⊢;generalize V0.alloc (F #[r p 0,r p 0] 132)=w1 at lW iE HT1 HR1 mM lX yJ BV ⊢;clear hK K hba hkb;refine aD rfl rfl (λK hK=>?_);go_simp;refine(iF 0 ah n0 _ HR1.q ug.q HW.q.1 (HG.q.same HT1.q)).mono ?_;rintro e w2 ⟨hS,he⟩;have iR:=f hS;have HS2:=f (iE.q.tr hS);have HT2:=f (HT1.q.tr (hS.mono (λi hi _=>by have:=HB.q;have:=fH.q;have:=fM.q;omega)));rcases iD (aI (c.put 0 n0)) with hf|hf;rotate_left
  .obtain rfl:=he.2 hf
   exact⟨rfl,gW.q _ HT2.q (λk=>hf (jJ.q.2.1 k))⟩
  obtain⟨rfl,cs2,hr,hz,ho⟩:=he.1 hf;have HR2:=f hr;have sO:=f hf;have iA:=f ho;have kI:=f (HS2.q.block w.1.size (by have:=d9.q;omega) HX.q.2.2);have lM:A (w.1.size<w2.1.size):=f (dz lX.q iR.q.size);have lM:A (w.1.size<w2.1.size):=f (dz lX.q iR.q.size);have oV:=f (iR.q.bx yJ.q jL.q);have uY:=f ((iR.q.block kb jL.q yJ.q.2.2).trans BV.q);refine hK _ _ ⟨G,cB.q _ kI.q HT2.q⟩ ?_;clear hK K hr hz ho hf he hS;refine aD rfl rfl (λK hK=>?_);go_simp;refine(iF 2 ah n1 _ HR2.q sO.q HW.q.2 (HG.q.same HT2.q)).mono ?_;rintro e w3 ⟨hS,he⟩;have fZ:=f hS;have jD:=f (HS2.q.tr hS);have HT3:=f (HT2.q.tr (hS.mono (λi hi _=>by have:=HB.q;have:=fH.q;have:=fM.q;omega)));rcases iD (aI ((c.put 0 n0).put 2 n1)) with hf|hf;rotate_left
  .obtain rfl:=he.2 hf
   exact⟨rfl,gW.q _ HT3.q (λk=>hf (jJ.q.2.2.1 k))⟩
  obtain⟨rfl,tT,hr,hz,ho⟩:=he.1 hf;have HR3:=f hr;have uG:=f hf;have oK:=f ho;have kY:=f (jD.q.block w.1.size (by have:=d9.q;omega) HX.q.2.2);have pR:A (w.1.size<w3.1.size):=f (dz lM.q fZ.q.size);have pR:A (w.1.size<w3.1.size):=f (dz lM.q fZ.q.size);have oU:=f (fZ.q.bx oV.q jL.q);have rQ:=f ((fZ.q.block kb jL.q oV.q.2.2).trans uY.q);refine hK _ _ ⟨G,cB.q _ kY.q HT3.q⟩ ?_;clear hK K hr hz ho hf he hS;refine qC ?_
 all_goals
  have hcK:=oU.q.1;have xE:=oU.q.2.1;refine aD rfl rfl (λK hK=>?_);go_simp;have gB:A (Same (λi=>i≠kb) w3 ((w3.setCell ⟨kb,0,y⟩ (r p (c.no 0 n0))).setCell ⟨kb,1,y⟩ (r p ((c.put 0 n0).no 2 n1)))):=f (((Same.refl' w3).setTail (λh=>h rfl)).setTail (λh=>h rfl));have yK:=f ((oU.q.aZ 0 au (r p (c.no 0 n0))).aZ 1 au (r p ((c.put 0 n0).no 2 n1)));have ER:=f (bT (i:=1) (bT (i:=0) (rQ.q) (r p (c.no 0 n0))) (r p ((c.put 0 n0).no 2 n1)));have HR4:=f (HR3.q.box (T:=132) ⟨_,_,rQ.q⟩ aj aj aj aj aj (.inl aj) (.inl aj) (λe=>jL.q e.symm) gB.q);have Ar:=uG;have BF:A (Same (λi=>i≠R) V ((w3.setCell ⟨kb,0,y⟩ (r p (c.no 0 n0))).setCell ⟨kb,1,y⟩ (r p ((c.put 0 n0).no 2 n1)))):=f (((jD.q.mono (A':=λi=>i≠R/\i<V.1.size) (λi hi _=>hi.1)).tr (gB.q.mono (λi hi _=>by have:=oo.q;have:=qO.q;omega))).mono (λi hi hl=>⟨hi,hl⟩));have xM:=f (HT3.q.tr (gB.q.mono (λi hi _=>by have:=rR.q;have:=d9.q;have:=HB.q;have:=fH.q;have:=fM.q;omega)));have uM:=f ((gB.q.block w.1.size (by have:=rR.q;omega) pR.q).trans kY.q);have zy:=f (dz pR.q gB.q.size);refine hK _ _ ⟨G,cB.q _ uM.q xM.q⟩ ?_;generalize((w3.setCell ⟨kb,0,y⟩ (r p (c.no 0 n0))).setCell ⟨kb,1,y⟩ (r p ((c.put 0 n0).no 2 n1)))=w4 at gB yK ER HR4 BF xM uM zy ⊢;clear hK K hcK xE;refine jm ?_;go_wp2_with fail;have hwt:=acI ah ((Gr.put (c.put 0 n0) 2 n1).fits Ar.q);have hwx:=acI (c:=(c.put 0 n0)) (k:=2) ah Ar.q;have HWT:=f hwt;have MQ:=f hwx;obtain⟨mb,UW,hmw,hmB⟩:=HR4.q.m;have UY:kG w4.drew mb c.E:=hmw.of_eq rfl;obtain⟨cn,hcn⟩:∃cn:Nat,cn=fK c.E (c.no 0 n0) ((c.put 0 n0).no 2 n1):=⟨_,rfl⟩;have Fb:=f hcn;have hEl:c.E.length<=3000:=Ar.q.2.1;have hcl:cn<=3000:=by rw[hcn];exact dL (FN _ _ _) hEl
  obtain⟨v0,st,W1,W2,r1,r2,r3,s1,s2,hm2⟩:=UY.bump hEl ⟨2,c.no 0 n0,0,0,(c.put 0 n0).no 2 n1,⟨c.no 0 n0,((cn:I)+1)⟩,0,y,0,0⟩ rfl hwt hwx;have hlk:=UY.look hwt hwx;have hlk2:=hm2.look hwt hwx;have hc1:fK (c.E++[⟨2,c.no 0 n0,0,0,(c.put 0 n0).no 2 n1,⟨c.no 0 n0,((cn:I)+1)⟩,0,y,0,0⟩]) (c.no 0 n0) ((c.put 0 n0).no 2 n1)=cn+1:=by rw[mW,ay ⟨rfl,rfl,rfl⟩,hcn]
  rw[hc1] at hlk2;simp only at r1 r2 r3;rw[<-hcn] at r2 r3 hlk;have hw64:IntKind.i64.wrap ((cn:I)+1)=(cn:I)+1:=by rw[IntWalk.i64_left];unfold wrap64;omega
  rw[<-hw64] at r3;have hpush:((cn+1:Nat):I)=(cn:I)+1:=by omega
  rw[hpush] at hlk2;have aaL:=f (HR4.q.below (D w4.1.size w4).drew);have hmR:mb≠R:=HR4.q.s.t.b.BB UW hmw.obj;have hmk:mb≠kb:=λe=>(by obtain⟨_,_,q⟩:=hmw.obj;rw[e,ER.q] at q;cases q)
  have hmW:mb≠w.1.size:=λe=>(by obtain⟨_,_,q⟩:=hmw.obj;rw[e,uM.q,zW.q] at q;cases q)
  have hmK:¬(K<=mb/\mb<K+3):=λe=>(by obtain⟨_,_,q⟩:=hmw.obj;obtain⟨_,T,_,q2,hT⟩:=(xM.q.Jq yB.q) mb e.1 e.2;rw[q2] at q;cases q)
  have HMR:=f (⟨hmR,hmk,hmW,hmB⟩:_/\_/\_/\_);have JJ:=f UW;have bP:A (Bx W1 R _/\Bx W1 kb _):=f ⟨s1.bx aaL.q.s.t.b hmR.symm,s1.bx yK.q.drew hmk.symm⟩;have bL:A (Bx W2 kb _):=f (s2.bx yK.q.drew hmk.symm);have nk:A (Fu W2 R _ ((c.put 0 n0).put 2 n1) es ds ms):=f (aaL.q.s.map UY.obj hmR s2);have NY:A (Same (λi=>i<B\/(K<=i/\i<K+3)) w W2):=f ((xM.q.tr (C (D w4.1.size w4).drew (λi hi hl=>hl))).tr (s2.mono (λi hi _=>by omega)));have Cv:A (W2.1[w.1.size]?=V.1[w.1.size]?):=f ((s2.block w.1.size hmW.symm (by have:=zy.q;exact this)).trans uM.q);have aoz:A (W2.1[kb]?=u (F #[r p (c.no 0 n0),r p ((c.put 0 n0).no 2 n1)] 132 (0,0))):=f ((s2.block kb hmk.symm yK.q.2.2).trans ER.q);have ng:=f hm2;have HLK:=f hlk;have HR2:=f r2;have as6:=f hlk2;have Sc:=f hcl;have ah6:w4.drew.cell? ⟨R,12,y⟩=u (.map (u mb)):=(aaL.q.s.t.b.1 12).trans UW;have aoA:A (_/\_/\_/\_):=f (⟨ah6,yK.q.drew.1 0,yK.q.drew.1 1,hlk⟩:(w4.drew.cell? ⟨R,12,y⟩=u (.map (u mb)))/\(w4.drew.cell? ⟨kb,0,y⟩=u (r p (c.no 0 n0)))/\(w4.drew.cell? ⟨kb,1,y⟩=u (r p ((c.put 0 n0).no 2 n1)))/\((Instr.lookup 56 (.map (u mb)) (.agg #[r p (c.no 0 n0),r p ((c.put 0 n0).no 2 n1)]) false).run H w4.drew= .ok (r p (cn:I)) w4.drew));clear hwt hwx hmw UY hcn hEl s1 s2 hm2 hlk hlk2 r2 hc1 hw64 hpush hmR hmk hmW hmB hmK UW ah6;refine dm 9 [(0,0),(1,0),(2,0),(3,0),(4,0),(5,0),(6,0),(7,2),(8,0),(9,2)] (λ_=>True) (λW'=>W'.cell? ⟨R,12,y⟩=u (.map (u mb))/\W'.cell? ⟨kb,0,y⟩=u (r p (c.no 0 n0))/\W'.cell? ⟨kb,1,y⟩=u (r p ((c.put 0 n0).no 2 n1))/\(Instr.lookup 56 (.map (u mb)) (.agg #[r p (c.no 0 n0),r p ((c.put 0 n0).no 2 n1)]) false).run H W'= .ok (r p (cn:I)) W') (λch w'=>gN B K R (aO c s) w (.panicked ch) w') av av (λch a1 w1 hd hr=>⟨hd,hr⟩) (trivial) (aoA.q) ?_;refine qC ?_;refine aD rfl rfl (λK hK=>?_);go_simp;refine hK _ _ ⟨G,(bP.q.1.1 12).trans JJ.q,bP.q.2.1 0,bP.q.2.1 1,HR2.q⟩ ?_;clear hK K r1;refine qC ?_;refine bq rfl rfl rfl (λK hK=>?_);go_simp;refine hK _ _ G ?_;clear hK K r3;refine jm ?_;go_wp2_with fail;have as7:A (∀W:World,W.1=W2.1->True):=f (λ_ _=>G);have Lm:A (Fu W2.drew R _ ((c.put 0 n0).put 2 n1) es ds ms):=f (nk.q.qR (C (D _ _).drew (λ_ _ h=>h)) (nk.q.t.below (D _ _).drew) (λ_ _=>rfl));have aoB:A (kG W2.drew mb _):=f (ng.q.of_eq rfl);have ah7:(Instr.lookup 56 (.map (u mb)) (.agg #[r p (c.no 0 n0),r p ((c.put 0 n0).no 2 n1)]) false).run H W2.drew= .ok (r p ((cn:I)+1)) W2.drew:=by have:=aoB.q.look HWT.q MQ.q;rw[show fK (c.E++[⟨2,c.no 0 n0,0,0,(c.put 0 n0).no 2 n1,⟨c.no 0 n0,((cn:I)+1)⟩,0,y,0,0⟩]) (c.no 0 n0) ((c.put 0 n0).no 2 n1)=cn+1 from by rw[mW,ay ⟨rfl,rfl,rfl⟩,Fb.q]] at this;rw[show((cn+1:Nat):I)=(cn:I)+1 by omega] at this;exact this
  have aaM:=f ah7;clear ah7;by_cases aaN:cn+1<=999;rotate_left
  .have hq:decide ((cn:I)+1<=999)=false:=aX ah
   have HNO:A (¬aI (aO c s)):=f (λk=>by have:=jJ.q.2.2.2 k;rw[<-Fb.q] at this;omega);have HTD:A (Same (λi=>i<B\/(K<=i/\i<K+3)) w W2.drew):=f (NY.q.tr (C (D _ _).drew (λi hi hl=>hl)));clear aaN;refine dm 99 [(0,0),(1,0),(2,0),(3,0),(4,0),(5,0),(6,0),(7,2)] (λ_=>True) (λW'=>W'.cell? ⟨R,12,y⟩=u (.map (u mb))/\W'.cell? ⟨kb,0,y⟩=u (r p (c.no 0 n0))/\W'.cell? ⟨kb,1,y⟩=u (r p ((c.put 0 n0).no 2 n1))/\(Instr.lookup 56 (.map (u mb)) (.agg #[r p (c.no 0 n0),r p ((c.put 0 n0).no 2 n1)]) false).run H W'= .ok (r p ((cn:I)+1)) W') (λch w'=>gN B K R (aO c s) w (.panicked ch) w') av av (λch a1 w1 hd hr=>⟨hd,hr⟩) (trivial) (⟨(Lm.q.t.b.1 12).trans JJ.q,bL.q.drew.1 0,bL.q.drew.1 1,aaM.q⟩) ?_;refine qC ?_;refine aD rfl rfl (λK hK=>?_);go_simp;refine(mK _ _).mono ?_;rintro e w' ⟨rfl,rfl⟩;rw[ak au];exact⟨rfl,gW.q _ HTD.q HNO.q⟩
  have hq:decide ((cn:I)+1<=999)=true:=bA ah;have aoC:=f aaN;clear aaN;refine dm 99 [(0,0),(1,0),(2,0),(3,0),(4,0),(5,0),(6,0),(7,2)] (λ_=>True) (λW'=>W'.cell? ⟨R,12,y⟩=u (.map (u mb))/\W'.cell? ⟨kb,0,y⟩=u (r p (c.no 0 n0))/\W'.cell? ⟨kb,1,y⟩=u (r p ((c.put 0 n0).no 2 n1))/\(Instr.lookup 56 (.map (u mb)) (.agg #[r p (c.no 0 n0),r p ((c.put 0 n0).no 2 n1)]) false).run H W'= .ok (r p ((cn:I)+1)) W') (λch w'=>gN B K R (aO c s) w (.panicked ch) w') av av (λch a1 w1 hd hr=>⟨hd,hr⟩) (trivial) (⟨(Lm.q.t.b.1 12).trans JJ.q,bL.q.drew.1 0,bL.q.drew.1 1,aaM.q⟩) ?_;refine qC ?_;refine aD rfl rfl (λK hK=>?_);go_simp;refine(mK _ _).mono ?_;rintro e w' ⟨rfl,rfl⟩;rw[ay rfl];refine hK _ _ ⟨G,(Lm.q.t.b.1 12).trans JJ.q,bL.q.drew.1 0,bL.q.drew.1 1,aaM.q⟩ ?_;clear hK K hq;refine jm ?_;go_wp2_with fail;obtain⟨W3,hW3⟩:∃W:World,W=W2.drew.drew:=⟨_,rfl⟩;have ah8:A (Fu W3 R _ ((c.put 0 n0).put 2 n1) es ds ms):=f (by rw[hW3];exact Lm.q.qR (C (D _ _).drew (λ_ _ h=>h)) (Lm.q.t.below (D _ _).drew) (λ_ _=>rfl));have tY:A (kG W3 mb _):=f (by rw[hW3];exact ng.q.of_eq rfl);have HT3:A (Same (λi=>i<B\/(K<=i/\i<K+3)) w W3):=f (by rw[hW3];exact(NY.q.tr (C (D _ _).drew (λi hi hl=>hl))).tr (C (D _ _).drew (λi hi hl=>hl)));have Gm:A (W3.1[w.1.size]?=V.1[w.1.size]?):=f (by rw[hW3];exact Cv.q);have J5:A (W3.1[kb]?=u (F #[r p (c.no 0 n0),r p ((c.put 0 n0).no 2 n1)] 132 (0,0))):=f (by rw[hW3];exact aoz.q);have HB3:A (Bx W3 kb _):=f (by rw[hW3];exact bL.q.drew.drew);have ah9:A (∀W:World,kG W mb (c.E++[⟨2,c.no 0 n0,0,0,(c.put 0 n0).no 2 n1,⟨c.no 0 n0,((cn:I)+1)⟩,0,y,0,0⟩])->(Instr.lookup 56 (.map (u mb)) (.agg #[r p (c.no 0 n0),r p ((c.put 0 n0).no 2 n1)]) false).run H W= .ok (r p ((cn:I)+1)) W):=f (λW hW=>by have:=hW.look HWT.q MQ.q;rw[show fK (c.E++[⟨2,c.no 0 n0,0,0,(c.put 0 n0).no 2 n1,⟨c.no 0 n0,((cn:I)+1)⟩,0,y,0,0⟩]) (c.no 0 n0) ((c.put 0 n0).no 2 n1)=cn+1 from by rw[mW,ay ⟨rfl,rfl,rfl⟩,Fb.q]] at this;rw[show((cn+1:Nat):I)=(cn:I)+1 by omega] at this;exact this);have FC:A (∀W:World,W.1[w.1.size]?=V.1[w.1.size]?->W.cell? ⟨w.1.size,0,y⟩=u (r p 2)):=f (λW hb=>(J (a:=⟨w.1.size,0,y⟩) hb).trans (HX.q.1 0));refine dm 99 [(0,0),(1,0),(2,0),(3,0),(4,0),(5,0),(6,0),(7,0),(8,0),(9,0),(10,0),(11,0),(12,0),(13,0),(14,0),(15,0),(16,0),(17,2)] (λ_=>True) (λW'=>W'.cell? ⟨w.1.size,0,y⟩=u (r p 2)/\W'.cell? ⟨R,12,y⟩=u (.map (u mb))/\W'.cell? ⟨kb,0,y⟩=u (r p (c.no 0 n0))/\W'.cell? ⟨kb,1,y⟩=u (r p ((c.put 0 n0).no 2 n1))/\(Instr.lookup 56 (.map (u mb)) (.agg #[r p (c.no 0 n0),r p ((c.put 0 n0).no 2 n1)]) false).run H W'= .ok (r p ((cn:I)+1)) W') (λch w'=>gN B K R (aO c s) w (.panicked ch) w') av av (λch a1 w1 hd hr=>⟨hd,hr⟩) (trivial) (⟨FC.q _ (by exact Cv.q),(Lm.q.t.b.1 12).trans JJ.q,bL.q.drew.drew.1 0,bL.q.drew.drew.1 1,ah9.q _ (ng.q.of_eq rfl)⟩) ?_;refine qC ?_;refine aD rfl rfl (λK hK=>?_);go_simp;rw[<-hW3];clear hW3;refine(ael ⟨2,c.no 0 n0,0,0,(c.put 0 n0).no 2 n1,⟨c.no 0 n0,((cn:I)+1)⟩,0,y,0,0⟩ [] _ ah8.q ⟨mb,JJ.q,tY.q,HMR.q.2.2.2⟩ HB.q Ar.q (Own.fJ _ _ _ _ _) (λ_=>by have:=aoC.q;show(cn:I)+1<=999;omega) (HT3.q.Jq yB.q) fH.q).mono ?_;rintro e w5 ⟨⟨hf1,hf2,hf3⟩,hS,he⟩;have zX:=f (HT3.q.tr hS);have aaO:A (aO c s=_):=f (by rw[fD.q,<-Fb.q]);rcases iD (aI (aO c s)) with hf|hf;rotate_left
  .obtain rfl:=he.2 (by rw[aaO.q] at hf;exact hf)
   exact⟨rfl,gW.q _ zX.q hf⟩
  obtain⟨rfl,hr⟩:=he.1 (by rw[aaO.q] at hf;exact hf);have BD:=f hr;have zS:=f hf;have LA:=(hf1 w.1.size _ _ _ (Gm.q.trans zW.q) aj (by have:=d9.q;omega)).trans Gm.q;have hK5:∀j,w5.cell? ⟨kb,j,y⟩=W3.cell? ⟨kb,j,y⟩:=λj=>J (a:=⟨kb,j,y⟩) (hf1 kb _ _ _ J5.q aj jL.q)
  have hM5:kG w5 mb _:=tY.q.of_eq (let⟨q,k,e⟩:=tY.q.obj;hf2 mb q k e);refine hK _ _ ⟨G,FC.q _ LA,((hf3 (by rw[aaO.q] at hf;exact hf) 12 ah).trans ((ah8.q.t.b.1 12).trans JJ.q)),(hK5 0).trans (HB3.q.1 0),(hK5 1).trans (HB3.q.1 1),ah9.q _ hM5⟩ ?_;clear hK K hr hf he hS hf1 hf2 hf3 LA hK5 hM5;refine jm ?_;go_wp2_with fail;refine bodyPost_end (results_none rfl _ _ _) rfl ?_;exact⟨zX.q,λ_=>⟨rfl,by rw[fD.q,<-Fb.q];exact BD.q⟩,λk=>absurd zS.q k⟩
end
end Yd
namespace Yd
open Go Go.RowKit Go.Proofs Tryz
open Below renaming refl->f
open Go renaming World->i
open Go.IntKind renaming i64->d
open Go.Value renaming int->c
open Tryz renaming prog->g,ntmps33->j,func33->m
theorem aaP (W:i):(binOp .neq 20 (.iface 37 (c d 6)) (.iface 37 (c d 6))).run g W= .ok (.bool false) W:=av
theorem Uy (b:Nat)(a0:Value)(w:i)(h1:Bx w b #[a0]):
  CallsD g 33 #[.pointer (some ⟨b,0,none⟩)] (.panicking ({v:= .iface 37 (c d 6),recovered:=false}::[])) w λe u' w'=>
   e= .returned (.tuple #[])/\u'= .panicking ({v:= .iface 37 (c d 6),recovered:=true}::[])/\w'=w.setCell ⟨b,0,none⟩ (.bool false):=by
 refine callsD_of_wpS m rfl λc₀ cs hu=>?_
 apply wpS_seq
 apply wpS_region
 simp[wpOpsS,go_sem,recoverD,hu,j,Exit.thenS];refine wpS_of_wp ?_;have hc:=h1.1 0;have hf:=h1.2.1 0;have hne:=aaP w;simp only[A9,Ba,xV,xU,j3,gF,tQ,sG,sF];go_wp2_with fail
 cases c₀
 simp_all[bodyPostS,results,results33]
theorem Xt (b:Nat)(w:i):
  CallsD g 33 #[.pointer (some ⟨b,0,none⟩)] .returning w λe u' w'=>e= .returned (.tuple #[])/\u'= .returning/\w'=w:=by
 refine callsD_of_wpS m rfl λc₀ cs hu=>?_
 apply wpS_seq
 apply wpS_region
 simp[wpOpsS,go_sem,recoverD,hu,j,Exit.thenS];refine wpS_of_wp ?_;go_wp2_with fail
 cases c₀
 simp_all[bodyPostS,results,results33]
attribute [local go_sem] Oper.semAt_some
theorem aoD (W:i):(Instr.index 161 (.agg #[c d 0,c d 2,c d 2,c d 2,c d 2,c d 1,c d 1,c d 1,c d 2,c d 1]) (c d 0)).run g W= .ok (c d 0) W:=av
theorem aoE (W:i):(Instr.index 161 (.agg #[c d 0,c d 2,c d 2,c d 2,c d 2,c d 1,c d 1,c d 1,c d 2,c d 1]) (c d 1)).run g W= .ok (c d 2) W:=av
theorem aoF (W:i):(Instr.index 161 (.agg #[c d 0,c d 2,c d 2,c d 2,c d 2,c d 1,c d 1,c d 1,c d 2,c d 1]) (c d 2)).run g W= .ok (c d 2) W:=av
theorem aoG (W:i):(Instr.index 161 (.agg #[c d 0,c d 2,c d 2,c d 2,c d 2,c d 1,c d 1,c d 1,c d 2,c d 1]) (c d 3)).run g W= .ok (c d 2) W:=av
theorem aoH (W:i):(Instr.index 161 (.agg #[c d 0,c d 2,c d 2,c d 2,c d 2,c d 1,c d 1,c d 1,c d 2,c d 1]) (c d 4)).run g W= .ok (c d 2) W:=av
theorem aoI (W:i):(Instr.index 161 (.agg #[c d 0,c d 2,c d 2,c d 2,c d 2,c d 1,c d 1,c d 1,c d 2,c d 1]) (c d 5)).run g W= .ok (c d 1) W:=av
theorem aoJ (W:i):(Instr.index 161 (.agg #[c d 0,c d 2,c d 2,c d 2,c d 2,c d 1,c d 1,c d 1,c d 2,c d 1]) (c d 6)).run g W= .ok (c d 1) W:=av
theorem aoK (W:i):(Instr.index 161 (.agg #[c d 0,c d 2,c d 2,c d 2,c d 2,c d 1,c d 1,c d 1,c d 2,c d 1]) (c d 7)).run g W= .ok (c d 1) W:=av
theorem aoL (W:i):(Instr.index 161 (.agg #[c d 0,c d 2,c d 2,c d 2,c d 2,c d 1,c d 1,c d 1,c d 2,c d 1]) (c d 8)).run g W= .ok (c d 2) W:=av
theorem aoM (W:i):(Instr.index 161 (.agg #[c d 0,c d 2,c d 2,c d 2,c d 2,c d 1,c d 1,c d 1,c d 2,c d 1]) (c d 9)).run g W= .ok (c d 1) W:=av
theorem Na (k:Nat)(hk:k<10)(w:i):Calls g 47 #[c d (k:Int)] w (sH (c d (cu k)) (c d (cu k+jq (bZ k))) w):=by
 rcases(by omega:k=0\/k=1\/k=2\/k=3\/k=4\/k=5\/k=6\/k=7\/k=8\/k=9) with rfl|rfl|rfl|rfl|rfl|rfl|rfl|rfl|rfl|rfl
 .have hix:=aoD
  go_enter func47,ntmps47;go_wp2_with fail
  go_ret2
  exact⟨rfl,f _ _⟩
 .have hix:=aoE
  go_enter func47,ntmps47;go_wp2_with fail
  go_ret2
  exact⟨rfl,f _ _⟩
 .have hix:=aoF
  go_enter func47,ntmps47;go_wp2_with fail
  go_ret2
  exact⟨rfl,f _ _⟩
 .have hix:=aoG
  go_enter func47,ntmps47;go_wp2_with fail
  go_ret2
  exact⟨rfl,f _ _⟩
 .have hix:=aoH
  go_enter func47,ntmps47;go_wp2_with fail
  go_ret2
  exact⟨rfl,f _ _⟩
 .have hix:=aoI
  go_enter func47,ntmps47;go_wp2_with fail
  go_ret2
  exact⟨rfl,f _ _⟩
 .have hix:=aoJ
  go_enter func47,ntmps47;go_wp2_with fail
  go_ret2
  exact⟨rfl,f _ _⟩
 .have hix:=aoK
  go_enter func47,ntmps47;go_wp2_with fail
  go_ret2
  exact⟨rfl,f _ _⟩
 .have hix:=aoL
  go_enter func47,ntmps47;go_wp2_with fail
  go_ret2
  exact⟨rfl,f _ _⟩
 .have hix:=aoM
  go_enter func47,ntmps47;go_wp2_with fail
  go_ret2
  exact⟨rfl,f _ _⟩
theorem AQ (k:Nat)(hk:k<10)(n:Nat)(hn:n<=1000000)(w:i):Calls g 48 #[c d (k:Int),c d (n:Int)] w (cK (c d (pz (bZ k) ((n:Int) - cu k))) w):=by
 have hw:wrap64 ((n:Int) - 2)=(n:Int) - 2:=IntWalk.wrap64_in _ ah;rcases(by omega:k=0\/k=1\/k=2\/k=3\/k=4\/k=5\/k=6\/k=7\/k=8\/k=9) with rfl|rfl|rfl|rfl|rfl|rfl|rfl|rfl|rfl|rfl
 .go_enter func48,ntmps48
  go_wp2_with fail;go_ret;exact⟨rfl,f _ _⟩
 .go_enter func48,ntmps48
  go_wp2_with fail;go_ret;exact⟨rfl,f _ _⟩
 .go_enter func48,ntmps48
  go_wp2_with fail;go_ret;exact⟨rfl,f _ _⟩
 .go_enter func48,ntmps48
  go_wp2_with fail;go_ret;exact⟨rfl,f _ _⟩
 .go_enter func48,ntmps48
  go_wp2_with fail;go_ret;exact⟨rfl,f _ _⟩
 .go_enter func48,ntmps48
  go_wp2_with fail;go_ret;exact⟨rfl,f _ _⟩
 .go_enter func48,ntmps48
  go_wp2_with fail;go_ret;exact⟨rfl,f _ _⟩
 .go_enter func48,ntmps48
  go_wp2_with fail;go_ret;exact⟨rfl,f _ _⟩
 .go_enter func48,ntmps48
  go_wp2_with fail;go_ret;exact⟨rfl,f _ _⟩
 .go_enter func48,ntmps48
  go_wp2_with fail;go_ret;exact⟨rfl,f _ _⟩
theorem aem (a:UInt8)(l:Bs):((⟨(a::l).toArray⟩:ByteArray)==(⟨#[]⟩:ByteArray))=false:=by
 show((a::l).toArray==#[])=false;simp
theorem aaQ (a:UInt8)(l:Bs):((⟨(a::l).toArray⟩:ByteArray).toList==[])=false:=by
 have h:=EG ⟨(a::l).toArray⟩;rw[iM] at h
 cases hc:(⟨(a::l).toArray⟩:ByteArray).toList with
 |nil=>rw[hc] at h;simp at h
 |cons b t=>rfl
theorem zG (t:To)(w:i):Calls g 50 #[vB t] w (cK (.bool (toB t)) w):=by
 obtain⟨n,k⟩:=t;have hb0:=aB (f w.1.size w) (.cells #[.string ⟨n.toArray⟩,c d k] 52);have HB:=hid hb0;have HX:=hid (Bx.new w #[.string ⟨n.toArray⟩,c d k] 52);clear hb0;by_cases h0:k=0
 .subst h0
  cases n with
  |nil=>
   have hb:toB ⟨[],0⟩=true:=rfl;rw[hb];go_enter func50,ntmps50;go_wp2_with fail;go_ret;exact⟨rfl,HB.q⟩
  |cons a l=>
   have hb:toB ⟨a::l,0⟩=false:=by unfold toB;rw[ay rfl];simp
   rw[hb];have he:=aem a l;have he2:=aaQ a l;clear hb;go_enter func50,ntmps50;go_wp2_with fail;go_ret;exact⟨rfl,HB.q⟩
 .have hk:(k==0)=false:=aR.2 h0
  have hB:toB ⟨n,k⟩=(bD ⟨n.toArray⟩ && (decide (0<k) && decide (k<=999))):=by unfold toB;rw[ak h0]
  rw[hB];have HW:=hid (λW=>Bo ⟨n.toArray⟩ W);rw[yw] at HW;clear h0 hB
  cases hw:bD ⟨n.toArray⟩
  .rw[hw] at HW
   clear hw;go_enter func50,ntmps50;go_wp2_with fail;refine(HW.q _).mono ?_;rintro e w1 ⟨rfl,hb1⟩;have HB1:=hid (HB.q.bO hb1);clear hb1;go_wp2_with fail;go_ret;exact⟨rfl,HB1.q⟩
  .rw[hw] at HW
   clear hw
   cases h1:decide (0<k)
   .go_enter func50,ntmps50
    go_wp2_with fail;refine(HW.q _).mono ?_;rintro e w1 ⟨rfl,hb1⟩;have hx:=(HX.q.keep hb1).1;have HB1:=hid (HB.q.bO hb1);clear hb1;go_wp2_with fail;go_ret;exact⟨rfl,HB1.q⟩
   .cases h2:decide (k<=999)
    all_goals
     go_enter func50,ntmps50;go_wp2_with fail;refine(HW.q _).mono ?_;rintro e w1 ⟨rfl,hb1⟩;have hx:=(HX.q.keep hb1).1;have HB1:=hid (HB.q.bO hb1);clear hb1;go_wp2_with fail;go_ret;exact⟨rfl,HB1.q⟩
end Yd
