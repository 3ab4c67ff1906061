import Derived.Test.YtpeojoobplpcoaaGreatDoorPTxG
import Derived.Test.YtpeojoobplpcoaaGreatDoorPPtext
import Derived.Test.YtpeojoobplpcoaaGreatDoorPLawOwn
set_option linter.all false
set_option maxRecDepth 200000
set_option maxHeartbeats 8000000
namespace Yd
open Option renaming none->u,some->F
open Go Go.RowKit Go.Proofs
open Go.Obj renaming cells->r
open Go.Value renaming string->f,int->z,pointer->G
open Lib renaming byteCells->C,byteCells_length->H,strCells->J
open Same renaming setTail->y,refl'->E,of_below->I,putObj->K
open Yd renaming hid->d
attribute [local go_sem] Oper.semAt_some
def XC (ls:List aH)(w:World)(e:Ending)(w':World):Prop:=
 e= .returned (if(jG ls).length<=131072 then .tuple #[f ⟨(jG ls).toArray⟩,z .i64 0] else .tuple #[f ⟨#[]⟩,z .i64 3])/\Below w.1.size w w'
structure Jp (h:HC)(ls:List aH)(w w1:World)(l:Nat)(X:World):Prop where
 b:Below w.1.size w X
 x1:Bx X (w.1.size+1) #[f ⟨#[]⟩]
 x2:Bx X (w.1.size+2) #[z .i64 0]
 la:rH h (w1.1.size+1) X
 bl:tX w1.1.size l (jG ls) X
 le:(jG ls).length<=131072
 sz:l<=X.1.size
theorem Jp.same {h:HC}{ls:List aH}{w w1 X Y:World}{l:Nat}(s:Jp h ls w w1 l X)(hs:Same (λi=>i<l\/l+2<=i) X Y)(h3:w.1.size+3<=w1.1.size)(hl:w1.1.size+8<=l):Jp h ls w w1 l Y:=
 ⟨hs.below s.b (λi hi=> .inl ah) s.b.size,hs.bx s.x1 (.inl ah),hs.bx s.x2 (.inl ah),s.la.keep (λi _ h2=>hs.block i (.inl ah) (by have:=s.la.lt;omega)),s.bl.same hs ah,s.le,bX s.sz hs.size⟩
theorem rH.kept {h:HC}{b:Nat}{X Y:World}(s:rH h b X)(hk:∀i o,b<=i/\i<b+7->(∀c fz,o≠Obj.cells c 5 fz)->X.1[i]?=F o->Y.1[i]?=F o):∀i,b<=i->i<b+7->Y.1[i]?=X.1[i]?:=by
 intro i h1 h2;obtain⟨j,rfl⟩:∃j,i=b+j:=⟨i - b,by omega⟩;have hj:j=0\/j=1\/j=2\/j=3\/j=4\/j=5\/j=6:=by omega
 rcases hj with rfl|rfl|rfl|rfl|rfl|rfl|rfl
 .exact(hk _ _ ⟨h1,h2⟩ (λ_ _ e=>by cases e) s.o0).trans s.o0.symm
 .exact(hk _ _ ⟨h1,h2⟩ (λ_ _ e=>by cases e) s.o1).trans s.o1.symm
 .exact(hk _ _ ⟨h1,h2⟩ (λ_ _ e=>by cases e) s.o2).trans s.o2.symm
 .exact(hk _ _ ⟨h1,h2⟩ (λ_ _ e=>by cases e) s.o3).trans s.o3.symm
 .exact(hk _ _ ⟨h1,h2⟩ (λ_ _ e=>by cases e) s.o4).trans s.o4.symm
 .exact(hk _ _ ⟨h1,h2⟩ (λ_ _ e=>by cases e) s.o5).trans s.o5.symm
 .exact(hk _ _ ⟨h1,h2⟩ (λ_ _ e=>by cases e) s.o6).trans s.o6.symm
structure UQ (w w1:World)(l:Nat)(X:World):Prop where
 b:Below w.1.size w X
 x1:Bx X (w.1.size+1) #[f ⟨#[]⟩]
 x2:Bx X (w.1.size+2) #[z .i64 3]
theorem UQ.same {w w1 X Y:World}{l:Nat}(s:UQ w w1 l X)(hs:Same (λi=>i<l\/l+2<=i) X Y)(h3:w.1.size+3<=w1.1.size)(hl:w1.1.size+8<=l):UQ w w1 l Y:=
 ⟨hs.below s.b (λi hi=> .inl ah) s.b.size,hs.bx s.x1 (.inl ah),hs.bx s.x2 (.inl ah)⟩
section
variable (h:HC)(nl:Nat->List Bs)(es:List EvC)(ds:List aM)(ms:List aN)(qs:List Wa)(scan:EvC->List Sn)(dn:aM->List Int)(mn:aN->List Int)(w:World)(hg:kg w)
  (hn:∀i,i<4->Row w 1 encStr (h.nm i).a (h.nm i).n (h.nm i).c (nl i)) (hd:Deep w h es ds ms qs scan dn mn)
include hg hn hd
theorem MJ (hc:nS h nl es ds ms qs scan dn mn=true)(hok:∀x∈fV nl es ds ms qs scan dn mn,dW x):Calls Tryz.prog 7 #[bG h] w (XC (fV nl es ds ms qs scan dn mn) w):=by
 have hsh:jq h nl es ds ms qs scan dn mn=true:=by simp only[nS,aO] at hc;exact hc.1.1
 have hb0:=aA (aA (aA (Below.refl w.1.size w) (r (aD h) 29)) (r #[f ⟨#[]⟩] 9)) (r #[z .i64 0] 30);have HC:=d (FZ h nl es ds ms qs scan dn mn _ (hg.1.below hb0) (λi hi=>(hn i hi).below hb0 rfl) (hd.below hb0 rfl));rw[hc] at HC;have HB:=d hb0;have zR:=d hsh;have HN:=d hn;have HD:=d hd;have HG:=d hg;have anZ:=d hok;have HX0:=d (Bx.alloc (Bx.alloc (Bx.new w (aD h) 29) (r #[f ⟨#[]⟩] 9)) (r #[z .i64 0] 30));have eX:=d (Bx.alloc (Bx.new1 (b:=w.1.size+1) (cs:=#[f ⟨#[]⟩]) (X:=w.alloc (r (aD h) 29)) (T:=9) ak) (r #[z .i64 0] 30));have fw:Hid (Bx (((w.alloc (r (aD h) 29)).alloc (r #[f ⟨#[]⟩] 9)).alloc (r #[z .i64 0] 30)) (w.1.size+2) #[z .i64 0]):=d (Bx.new1 ak);have hz0:(((w.alloc (r (aD h) 29)).alloc (r #[f ⟨#[]⟩] 9)).alloc (r #[z .i64 0] 30)).1.size=w.1.size+3:=by simp
 clear hg hn hd hc hb0 hsh hok;refine(callsIn_wide (n:=3)).1 ?_;refine callsIn_of_wp_marks Tryz.func7 rfl trivial ?_ rfl;simp only[Tryz.ntmps7,p8,dO,iy,Nat.reduceAdd,Nat.reduceSub,rX,rY,oz,oC,fJ,fu];refine wpIn_wide.2 ?_;go_wp2_with fail;refine HC.q.mono ?_;rintro e w1 ⟨rfl,hb1⟩;have HB1:=d (HB.q.bZ hb1);have hx0:=HX0.q.keep hb1;have hx1:=eX.q.keep hb1;have hx2:=fw.q.keep hb1;have hz1:w.1.size+3<=w1.1.size:=by have:=hb1.size;omega
 have F5:=d (⟨hx0,hx1,hx2⟩:_/\_/\_);have hc0:=hx0.1;have hl0:w.1.size<w1.1.size:=by omega
 clear hb1 hx0 hx1 hx2 HX0 eX fw HC hz0;rw[show F3 true=0 from rfl]
 go_wp2_with (go_at_call 17;refine(O6 _ _).mono ?_;rintro e W ⟨rfl,hsz,hbW,hLA⟩)
 have hbb:W.1[w1.1.size]?=F (r #[G u,.slice u 0 0] 58 (0,0)):=(hbW.block _ ak).trans (World.alloc_heap_new w1 _);have ahi:tX w1.1.size W.1.size (jG []) W:=
  ⟨.inl ⟨aB _,.slice u 0 0,hbb,World.ownsRowF_nil _ _ _ _,λe=>(by cases e)⟩,λp v hb=>by rw[hbb] at hb;cases hb;exact⟨λe=>(by cases e),λe=>(by cases e)⟩⟩
 have Fb:W.1.size=w1.1.size+8:=by rw[hsz];simp
 have hbw:Below w.1.size w W:=(HB1.q.alloc HB1.q.size _).trans (hbW.mono (by have:=HB1.q.size;simp;omega));have hkW:Below w1.1.size w1 W:=(aA (Below.refl _ _) _).trans (hbW.mono ak);have hpt:Jp h [] w w1 W.1.size W:=⟨hbw,F5.q.2.1.keep hkW,F5.q.2.2.keep hkW,by have:=hLA;simpa using this,ahi,aZ _,aB _⟩;have HPT:=d hpt;have HL:=d (Mx (HD.q) zR.q);clear hbb ahi hkW hbW hLA hpt;refine wpIn_wide.1 (UR (n:=3) (gf:=58) (lb:=#[G (F ⟨w1.1.size+1,0,u⟩),G (F ⟨w1.1.size+1+3,0,u⟩),G (F ⟨w1.1.size+1+4,0,u⟩),G (F ⟨w1.1.size+1+5,0,u⟩),G (F ⟨w1.1.size+1+6,0,u⟩)]) (by simp[go_sem]) SI
  (qP:=y9 (W.1.size+2)) (k:=0) (D:=λi=>i<w.1.size\/(w1.1.size+1<=i/\i<w1.1.size+1+7)) (xs:=fV nl es ds ms qs scan dn mn)
  (λW' hW hWs=>by
   have:=Kc h nl es ds ms qs scan dn mn (w1.1.size+1) (λi=>i<w.1.size\/(w1.1.size+1<=i/\i<w1.1.size+1+7)) w W' HN.q HD.q zR.q
    (HPT.q.la.keep (λi _ h2=>hW.block i ah)) (λa v hc=>(bn hW rfl (bn hbw rfl hc))) (bX hbw.size hW.size) (λi hi=> .inl hi) (λi h1 h2=> .inr ⟨h1,h2⟩)
   rwa[hWs] at this) ah
  (λx args X hx=>by obtain⟨_,rfl,_⟩:=hx;rfl)
  (λpre X=>Jp h pre w w1 W.1.size X)
  (λc _ X=>c= .ret/\131072<(jG (fV nl es ds ms qs scan dn mn)).length/\UQ w w1 W.1.size X)
  (λpre X Y hh k=>hh.same (k.mono (λi hi _=>by omega)) ah ah)
  (λc _ X Y hh k=>⟨hh.1,hh.2.1,hh.2.2.same (k.mono (λi hi _=>by omega)) ah ah⟩)
  HPT.q ?round ?done ?stop)
 case round=>
  rintro pre x args X hpt hpre ⟨lc,rfl,hln⟩ arA m;have HP:=d hpt;have oU:=d hln;have Ta:=d Fb;clear hpt hln hsz;have hmem:x∈fV nl es ds ms qs scan dn mn:=by obtain⟨t,e⟩:=hpre;rw[<-e];simp
  have zP:=d (anZ.q x hmem);have Aa:=d hpre;clear hmem hpre Fb
  gi_wp2
  refine⟨aA (Below.refl _ _) _,λX2 hk hd0 hd1=>?_⟩;have Fb:=Ta.q;have hp2:Jp h pre w w1 W.1.size X2:=by
   have h1:Jp h pre w w1 W.1.size (X.alloc (r (bJ lc) 66)):=HP.q.same (I (B:=X.1.size) (aA (Below.refl _ _) _) (λi _ hi=>hi)) ah ah;exact h1.same (hk.mono (λi hi _=>by omega)) ah ah
  have hl2:=hk.bx (Bx.new1 (b:=X.1.size) rfl) ah;have hn2:gD X2 (W.1.size+2) lc x:=⟨oU.q.1,((oU.q.2.1.alloc _).same hk (λg hg=>by have:=(oU.q.2.1.lt g hg).1;omega)),((oU.q.2.2.alloc _).same hk (λg hg=>by have:=(oU.q.2.2.lt g hg).1;omega))⟩;have mX:=d hp2;have xU:=d (aax hn2 zP.q (HG.q.below mX.q.b));have hcl:=hl2.1;have HD0:=d hd0;have HD1:=d hd1;clear hk hp2 hl2 hn2 hd0 hd1 Fb
  gi_wp2
  refine⟨trivial,by simp[Fence.wide],(CallsIn.inRound _ (callsIn_wide.2 xU.q)).mono ?_⟩;rintro e X3 ⟨rfl,hb3⟩;have HB3:=d hb3;have Jq:=mX.q.bl.call hb3;have hlen:(C (jG pre)).length+(⟨(jL x).toArray⟩:ByteArray).size<=140737488355328:=by
   have h1:=XD zP.q;have h2:=mX.q.le;rw[H];simp only[ByteArray.size,p8];omega
  have HW:=d (WI w1.1.size w1.1.size (C (jG pre)) ⟨(jL x).toArray⟩ X3 Jq.is hlen (Nat.le_of_lt Jq.lt));have an0:=d Jq;clear hb3 Jq hlen
  gi_wp2
  refine⟨trivial,λh=>(by cases h),(CallsIn.inRound _ (callsIn_wide.2 HW.q)).mono ?_⟩;rintro e X4 ⟨rfl,UU,hb4,hk4⟩;have htx:jG (pre++[x])=jG pre++jL x:=by simp[jG]
  have hcs:C (jG pre)++J ⟨(jL x).toArray⟩=C (jG (pre++[x])):=by rw[htx];simp[C,J]
  rw[hcs] at UU;have HLEN:=d (Tryz.Builder_Len_f w1.1.size w1.1.size _ X4 (.inr UU));have an1:=d UU;have ig:=d hb4;have Ie:=d hk4;clear UU hb4 hk4 htx hcs
  gi_wp2
  refine⟨trivial,λh=>(by cases h),(CallsIn.inRound _ (callsIn_wide.2 HLEN.q)).mono ?_⟩;rintro e X5 ⟨rfl,rfl⟩;rw[H];have Fb:=Ta.q;have hfr:∀i o,X2.1[i]?=F o->i≠w1.1.size->(∀c fz,o≠ r c 5 fz)->X5.1[i]?=F o:=λi o h1 h2 h3=>
   Ie.q i o ((HB3.q.block i (dh.1 h1).1).trans h1) (by simpa using h2) h3
  have hst:Same (λi=>i<w1.1.size) X2 X5:=(I (A:=λi=>i<w1.1.size) ((HB3.q.mono (by have:=mX.q.sz;omega)).trans ig.q) (λi hi _=>hi));have hla:∀i,w1.1.size+1<=i->i<w1.1.size+1+7->X5.1[i]?=X2.1[i]?:=mX.q.la.kept (λi o h1 h2 h3=>hfr i o h3 ah h2);have hdl:X5.1[W.1.size]?=X2.1[W.1.size]?:=(hfr _ _ HD0.q ah (λ_ _ e=>by cases e)).trans HD0.q.symm;have ahj:X5.1[W.1.size+1]?=X2.1[W.1.size+1]?:=by obtain⟨o,ho⟩:=HD1.q;exact(hfr _ _ ho ah (λ_ _ e=>by cases e)).trans ho.symm
  have ahk:tX w1.1.size W.1.size (jG (pre++[x])) X5:=by
   obtain⟨o,ho⟩:=HD1.q;exact an0.q.wrote (.inr an1.q) Ie.q ah ((HB3.q.block _ (dh.1 HD0.q).1).trans HD0.q) ((HB3.q.block _ (dh.1 ho).1).trans ho) (λ_ _ e=>by cases e) (λ_ _ e=>by cases e)
  have hsz5:=hst.size;have hp5:Below w.1.size w X5:=hst.below mX.q.b (λi hi=>by omega) mX.q.b.size;have PE:=hst.bx mX.q.x1 ah;have PG:=hst.bx mX.q.x2 ah;have hkd:aQ (λi=>i<w.1.size\/(w1.1.size+1<=i/\i<w1.1.size+1+7)) X2 X5:=⟨hst.size,λi hi hl=>hi.elim (λhi=>hst.block i ah hl) (λhi=>hla i hi.1 hi.2)⟩;have HE:=d (⟨⟨hdl,ahj⟩,hkd,hp5,PE,PG,mX.q.la.keep hla,ahk,bX mX.q.sz hsz5⟩:(_/\_)/\_/\_/\_/\_/\_/\_/\_);have hq1:=PE.1;have hf1:=PE.2.1;have hl1:=PE.2.2;have hq2:=PG.1;have hf2:=PG.2.1;have hl2:=PG.2.2;clear hfr hst hla hdl ahj ahk hsz5 hp5 hkd Fb PE PG;by_cases hle:(jG (pre++[x])).length<=131072
  .have hgt:¬(((jG (pre++[x])).length:Int)>131072):=by omega
   gi_wp2
   obtain⟨⟨e1,e2⟩,e3,e4,e5,e6,e7,e8,e9⟩:=HE.q;exact⟨⟨e1,e2⟩,e3,e4,e5,e6,e7,e8,hle,e9⟩
  .have hgt:(((jG (pre++[x])).length:Int)>131072):=by omega
   gi_wp2
   obtain⟨⟨e1,e2⟩,e3,e4,e5,e6,_,_,e9⟩:=HE.q;have Fb:=Ta.q;have hpz:=mX.q.b.size;have hs2:Same (λi=>i≠w.1.size+1/\i≠w.1.size+2) X5 ((X5.setCell ⟨w.1.size+1,0,u⟩ (f ⟨#[]⟩)).setCell ⟨w.1.size+2,0,u⟩ (z .i64 3)):=y (y (E _) ak) ak;have hz5:W.1.size+2<=X5.1.size:=by obtain⟨o,ho⟩:=HD1.q;rw[<-e2] at ho;have:=(dh.1 ho).1;omega
   have hbig:131072<(jG (fV nl es ds ms qs scan dn mn)).length:=by
    obtain⟨t,e⟩:=Aa.q;rw[<-e];simp only[jG,List.flatMap_append,bL] at hle ⊢;omega
   exact⟨⟨(hs2.block _ ah ah).trans e1,(hs2.block _ ah ah).trans e2⟩,
    e3.trans ⟨hs2.size,λi hi hl=>hs2.block i (by rcases hi with hi|hi <;> omega) hl⟩,rfl,hbig,
    ⟨hs2.below e4 (λi hi=>by omega) e4.size,(y (A:=λi=>i≠w.1.size+2) (E _) ak).bx (Bx.set1 e5 _) ak,Bx.set1 ((y (A:=λi=>i≠w.1.size+1) (E _) ak).bx e6 ak) _⟩⟩
 case done=>
  intro X hpt hdef;have HP:=d hpt;clear hpt;simp only[Exit.inBlock,Exit.then];have hst:=Tryz.Builder_String_any_k w1.1.size w1.1.size (jG (fV nl es ds ms qs scan dn mn)) X HP.q.bl.is (by have:=HP.q.sz;omega);have HST:=d hst;have Ta:=d Fb;clear hst Fb hsz
  go_wp2_with (go_at_call 21;refine HST.q.mono ?_;rintro e Y ⟨rfl,hbl,Dp,hkY⟩;have Fb:=Ta.q;have rR:=I (A:=λi=>i<w1.1.size) Dp (λi hi _=>hi);have hy1:=rR.bx HP.q.x1 ah;have hy2:=rR.bx HP.q.x2 ah;have hdY:=hkY _ _ hdef (by simp;omega) (λ_ _ e=>by cases e);have vH:=d (rR.below HP.q.b (λi hi=>by omega) HP.q.b.size);clear hbl Dp hkY rR;have HDY:=d hdY;clear hdY;have hq1:=hy1.1;have hf1:=hy1.2.1;have hl1:=hy1.2.2;have hq2:=hy2.1;have hf2:=hy2.2.1;have hl2:=hy2.2.2;have qQ:=d hy1;have yG:=d hy2;clear hy1 hy2 Fb)
  have Fb:=Ta.q;have hz1:Bx ((Y.setCell ⟨w.1.size+1,0,u⟩ (f ⟨(jG (fV nl es ds ms qs scan dn mn)).toArray⟩)).setCell ⟨w.1.size+2,0,u⟩ (z .i64 0)) (w.1.size+1) #[f ⟨(jG (fV nl es ds ms qs scan dn mn)).toArray⟩]:=
   (y (A:=λi=>i≠w.1.size+2) (E _) ak).bx (Bx.set1 qQ.q _) ak
  have hz2:Bx ((Y.setCell ⟨w.1.size+1,0,u⟩ (f ⟨(jG (fV nl es ds ms qs scan dn mn)).toArray⟩)).setCell ⟨w.1.size+2,0,u⟩ (z .i64 0)) (w.1.size+2) #[z .i64 0]:=
   Bx.set1 ((y (A:=λi=>i≠w.1.size+1) (E _) ak).bx yG.q ak) _
  have hzd:((Y.setCell ⟨w.1.size+1,0,u⟩ (f ⟨(jG (fV nl es ds ms qs scan dn mn)).toArray⟩)).setCell ⟨w.1.size+2,0,u⟩ (z .i64 0)).1[W.1.size]?=F (.deferred (F [])):=
   (Below.heap_setCell _ _ _ _ (by simp;omega)).trans ((Below.heap_setCell _ _ _ _ (by simp;omega)).trans HDY.q)
  have hzb:Below w.1.size w ((Y.setCell ⟨w.1.size+1,0,u⟩ (f ⟨(jG (fV nl es ds ms qs scan dn mn)).toArray⟩)).setCell ⟨w.1.size+2,0,u⟩ (z .i64 0)):=
   (vH.q.setCell (p:=⟨w.1.size+1,0,u⟩) ak _).setCell (p:=⟨w.1.size+2,0,u⟩) ak _
  have hs:∀X',Same (λi=>i≠W.1.size) X' (X'.putObj W.1.size (.deferred u)):=λX'=>K X' _ ak
  have hw1:=(hs _).bx hz1 ah;have hw2:=(hs _).bx hz2 ah;have e1:=hw1.1 0;have e2:=hw2.1 0;refine⟨by simp,.inl ⟨_,_,rfl,run_takeDeferred hzd,?_⟩⟩;refine⟨.tuple #[f ⟨(jG (fV nl es ds ms qs scan dn mn)).toArray⟩,z .i64 0],by simp[results,Tryz.results7,go_sem,e1,e2],?_,(hs _).below hzb (λi hi=>by omega) hzb.size⟩;rw[av HP.q.le]
 case stop=>
  rintro c pre X _ ⟨rfl,hbig,hex⟩ hdef;have uy:=d hex;have an2:=d hbig;clear hex hbig;refine wpIn_wide.2 ?_;go_wp2_with fail;have hs:Same (λi=>i≠W.1.size) X (X.putObj W.1.size (.deferred u)):=K X _ ak;have hy1:=hs.bx uy.q.x1 ah;have hy2:=hs.bx uy.q.x2 ah;have e1:=hy1.1 0;have e2:=hy2.1 0;refine⟨by simp,.inl ⟨_,_,rfl,run_takeDeferred hdef,?_⟩⟩;refine⟨.tuple #[f ⟨#[]⟩,z .i64 3],by simp[results,Tryz.results7,go_sem,e1,e2],?_,hs.below uy.q.b (λi hi=>by omega) uy.q.b.size⟩;rw[au (by have:=an2.q;omega)]
end
end Yd
namespace Yd
open Go Go.RowKit Go.Proofs
attribute [local go_sem] Oper.semAt_some
def Fe:Nat->List Bs
 |0=>[[84,48]]
 |1=>[[115]]
 |2=>[[120]]
 |_=>[]
def rJ (k:Int):List EvC:=[⟨1,0,0,3,0,⟨0,0⟩,0,none,0,0⟩,⟨2,0,0,0,0,⟨0,k⟩,0,none,0,0⟩,⟨3,0,0,0,0,⟨0,1⟩,0,none,0,0⟩,⟨5,0,0,0,0,⟨0,0⟩,0,none,0,0⟩]
structure jc (B:Nat)(X:World)(h:HC)(k:Int)(ds:List aM):Prop where
 n:∀i,i<4->Own X B 9 1 encStr (h.nm i).v (Fe i)
 e:Own X B 50 9 eB h.e.v (rJ k)
 d:Own X B 79 2 fB h.d.v ds
 dt:∃a:Option Addr,ds=[⟨0,a,1,1⟩]/\Own X B 3 1 aX (.slice a 1 1) [0]
 m:h.m=⟨none,0,0⟩
 q:Own X B 88 2 gH h.w.v [⟨0,2⟩]
theorem jc.same {B:Nat}{X Y:World}{h:HC}{k:Int}{ds:List aM}(s:jc B X h k ds){b:Nat}(hb:b<B)(hs:Same (λi=>i≠b) X Y):jc B Y h k ds:=by
 obtain⟨a,h1,h2⟩:=s.dt;exact⟨λi hi=>(s.n i hi).same hs (λg hg=>by have:=((s.n i hi).lt g hg).1;omega),s.e.same hs (λg hg=>by have:=(s.e.lt g hg).1;omega),s.d.same hs (λg hg=>by have:=(s.d.lt g hg).1;omega),
  ⟨a,h1,h2.same hs (λg hg=>by have:=(h2.lt g hg).1;omega)⟩,s.m,s.q.same hs (λg hg=>by have:=(s.q.lt g hg).1;omega)⟩
theorem jc.below {B:Nat}{X Y:World}{h:HC}{k:Int}{ds:List aM}(s:jc B X h k ds)(hb:Below X.1.size X Y):jc B Y h k ds:=by
 obtain⟨a,h1,h2⟩:=s.dt;exact⟨λi hi=>(s.n i hi).below hb rfl,s.e.below hb rfl,s.d.below hb rfl,⟨a,h1,h2.below hb rfl⟩,s.m,s.q.below hb rfl⟩
theorem Own.Jr {α:Type}{en:α->List Value}{k:Nat}[hc:Cells en k]{X:World}{B g n:Nat}{E:TypeId}{cs:Array Value}{xs:List α}(hg:X.1.size=g)(hB:B<=g)(he:cs.toList=xs.flatMap en)(hn:xs.length=n)(hle:n<=maxLen):
  Own (X.alloc (.cells cs E)) B E k en (.slice (some ⟨g,0,none⟩) n n) xs:=by
 subst hg hn;exact Own.new (hc:=hc) X B E cs xs hB he hle
theorem Cq (w:World):Calls Tryz.prog 13 #[] w λen w'=>∃h ds,en= .returned (bG h)/\jc (w.1.size+1) w' h 1 ds/\Below w.1.size w w':=by
 go_enter Tryz.func13,Tryz.ntmps13;go_wp2_with fail;refine bodyPost_ret (v:=bG ⟨⟨some ⟨w.1.size+1+1,0,none⟩,1,1⟩,⟨some ⟨w.1.size+1+1+1,0,none⟩,1,1⟩,⟨some ⟨w.1.size+1+1+1+1,0,none⟩,1,1⟩,⟨none,0,0⟩,⟨some ⟨w.1.size+1+1+1+1+1,0,none⟩,4,4⟩,
  ⟨some ⟨w.1.size+1+1+1+1+1+1+1,0,none⟩,1,1⟩,⟨none,0,0⟩,⟨some ⟨w.1.size+1+1+1+1+1+1+1+1,0,none⟩,1,1⟩⟩) ?_ rfl ⟨_,[⟨0,some ⟨w.1.size+1+1+1+1+1+1,0,none⟩,1,1⟩],rfl,⟨λi hi=>?_,?_,?_,⟨_,rfl,?_⟩,rfl,?_⟩,?_⟩
 .simp[results,Tryz.results13,go_sem]
 .match i,hi with
  |0,_=>
   show Own _ _ _ _ _ (.slice (some ⟨w.1.size+1+1,0,none⟩) 1 1) [[84,48]];exact Own.alloc (Own.alloc (Own.alloc (Own.alloc (Own.alloc (Own.alloc (Own.Jr (hc:=ku) ak ah (by simp[encStr]) rfl (by simp[maxLen])) _) _) _) _) _) _
  |1,_=>
   show Own _ _ _ _ _ (.slice (some ⟨w.1.size+1+1+1,0,none⟩) 1 1) [[115]];exact Own.alloc (Own.alloc (Own.alloc (Own.alloc (Own.alloc (Own.Jr (hc:=ku) ak ah (by simp[encStr]) rfl (by simp[maxLen])) _) _) _) _) _
  |2,_=>
   show Own _ _ _ _ _ (.slice (some ⟨w.1.size+1+1+1+1,0,none⟩) 1 1) [[120]];exact Own.alloc (Own.alloc (Own.alloc (Own.alloc (Own.Jr (hc:=ku) ak ah (by simp[encStr]) rfl (by simp[maxLen])) _) _) _) _
  |3,_=>exact Own.jY _ _ _ _ _
 .exact Own.alloc (Own.alloc (Own.alloc (Own.Jr (hc:=rA) ak ah (by simp[eB,rJ]) rfl (by simp[maxLen,rJ])) _) _) _
 .exact Own.alloc (Own.Jr (hc:=rC) ak ah (by simp[fB]) rfl (by simp[maxLen])) _
 .exact Own.alloc (Own.alloc (Own.Jr (hc:=iP) ak ah (by simp[aX]) rfl (by simp[maxLen])) _) _
 .exact Own.Jr (hc:=sQ) ak ah (by simp[gH]) rfl (by simp[maxLen])
 .exact aA (aA (aA (aA (aA (aA (aA (aA (aA (Below.refl _ _) _) _) _) _) _) _) _) _) _
end Yd
namespace Yd
open Go Go.RowKit Go.Proofs
open Tryz renaming prog->l
attribute [local go_sem] Oper.semAt_some
def ahl:Bs:=[98,101,103,105,110,32,84,48,32,115,32,50,46,57,57,10,119,114,105,116,101,32,84,48,32,120,10,114,101,97,100,32,84,48,32,120,32,84,48,46,49,10,99,111,109,109,105,116,32,84,48,10,111,114,100,101,114,32,120,32,84,48,10,119,97,110,116,32,115,32,109,114,10]
theorem smT (a:Option Addr):jG (fV Fe (rJ 1) [⟨0,a,1,1⟩] [] [⟨0,2⟩] (λ_=>[]) (λ_=>[0]) (λ_=>[]))=ahl:=ay
theorem smC (a b c d e f g h x:Option Addr)(ca cb cc cd ce cf cg ch:Nat):nS ⟨⟨a,1,ca⟩,⟨b,1,cb⟩,⟨c,1,cc⟩,⟨d,0,cd⟩,⟨e,4,ce⟩,⟨f,1,cf⟩,⟨g,0,cg⟩,⟨h,1,ch⟩⟩ Fe (rJ 1) [⟨0,x,1,1⟩] [] [⟨0,2⟩] (λ_=>[]) (λ_=>[0]) (λ_=>[])=true:=ay
theorem an3 (a:Option Addr):∀x∈fV Fe (rJ 1) [⟨0,a,1,1⟩] [] [⟨0,2⟩] (λ_=>[]) (λ_=>[0]) (λ_=>[]),dW x:=λx hx=>by
 have h0:(fV Fe (rJ 1) [⟨0,a,1,1⟩] [] [⟨0,2⟩] (λ_=>[]) (λ_=>[0]) (λ_=>[])).all (λs=>iX s && s.kind !=0)=true:=ay;have h:=fA.1 h0 x hx;simp only[aO,mM] at h;exact(yN h.1).resolve_left h.2
theorem an4:zZ [] (rJ 1)=true:=by decide
theorem an5:zZ [] (rJ 2)=false:=by decide
section
variable {B:Nat}{X:World}{h:HC}{k:Int}{ds:List aM}
theorem jc.rows (s:jc B X h k ds)(i:Nat)(hi:i<4):Row X 1 encStr (h.nm i).a (h.nm i).n (h.nm i).c (Fe i):=
 (s.n i hi).row (hc:=ku) (by match i,hi with|0,_=>decide|1,_=>decide|2,_=>decide|3,_=>decide)
theorem jc.deep (s:jc B X h k ds):Deep X h (rJ k) ds [] [⟨0,2⟩] (λ_=>[]) (λ_=>[0]) (λ_=>[]):=by
 obtain⟨a,h1,h2⟩:=s.dt;refine⟨s.e.row (hc:=rA) (by simp[rJ]),s.d.row (hc:=rC) (by simp[h1]),?_,s.q.row (hc:=sQ) aj,λx hx=>?_,λx hx=>?_,λx hx=>by cases hx⟩
 .rw[s.m];exact Row.jY
 .simp only[rJ,dU,List.mem_nil_iff,or_false] at hx
  rcases hx with rfl|rfl|rfl|rfl <;> exact Row.jY
 .rw[h1,bT] at hx
  subst hx;exact h2.row (hc:=iP) aj
theorem jc.check (s:jc B X h 1 ds):nS h Fe (rJ 1) ds [] [⟨0,2⟩] (λ_=>[]) (λ_=>[0]) (λ_=>[])=true:=by
 obtain⟨a,h1,_⟩:=s.dt;have e0:=(s.rows 0 aj).len;have e1:=(s.rows 1 aj).len;have e2:=(s.rows 2 aj).len;have e3:=(s.rows 3 aj).len;have e4:=s.deep.1.len;have e5:=s.deep.2.1.len;have e7:=s.deep.2.2.2.1.len;have e6:=s.m;obtain⟨⟨a0,n0,c0⟩,⟨a1,n1,c1⟩,⟨a2,n2,c2⟩,⟨a3,n3,c3⟩,⟨a4,n4,c4⟩,⟨a5,n5,c5⟩,⟨a6,n6,c6⟩,⟨a7,n7,c7⟩⟩:=h;rw[h1] at e5;simp only[HC.nm,Fe,rJ,dO,iy] at e0 e1 e2 e3 e4 e5 e7;injection e6 with _ e6 _;subst e0 e1 e2 e3 e4 e5 e6 e7;rw[h1];exact smC _ _ _ _ _ _ _ _ _ _ _ _ _ _ _ _ _
theorem jc.text (s:jc B X h 1 ds)(hg:kg X):Calls l 7 #[bG h] X (uF (.string ⟨#[98,101,103,105,110,32,84,48,32,115,32,50,46,57,57,10,119,114,105,116,101,32,84,48,32,120,10,114,101,97,100,32,84,48,32,120,32,84,48,46,49,10,99,111,109,109,105,116,32,84,48,10,111,114,100,101,114,32,120,32,84,48,10,119,97,110,116,32,115,32,109,114,10]⟩) (.int .i64 0) X):=by
 refine(MJ h Fe (rJ 1) ds [] [⟨0,2⟩] (λ_=>[]) (λ_=>[0]) (λ_=>[]) X hg (λi hi=>s.rows i hi) s.deep s.check (by obtain⟨a,h1,_⟩:=s.dt;rw[h1];exact an3 a)).mono ?_;rintro e Y ⟨rfl,hb⟩;obtain⟨a,h1,_⟩:=s.dt;rw[h1,smT,av aj];exact⟨rfl,hb⟩
theorem jc.lines (s:jc B X h 1 ds)(hg:kg X):Calls l 14 #[bG h] X (λe Y=>(∃a c,e= .returned (.tuple #[.slice a 6 c,.int .i64 0]))/\Below X.1.size X Y):=by
 refine(UD h Fe (rJ 1) ds [] [⟨0,2⟩] (λ_=>[]) (λ_=>[0]) (λ_=>[]) X hg.1 (λi hi=>s.rows i hi) s.deep s.check).mono ?_;rintro e Y ⟨a,c,bg,rfl,_,hl,hb⟩;obtain⟨x,h1,_⟩:=s.dt;have:bg.length=6:=by rw[hl.1,h1];rfl
 exact⟨⟨a,c,by rw[this]⟩,hb⟩
theorem jc.aay (s:jc B X h 1 ds)(hg:kg X):Calls l 9 #[bG h] X (dw (.bool true) X):=by
 have:=CV h Fe (rJ 1) ds [] [⟨0,2⟩] (λ_=>[]) (λ_=>[0]) (λ_=>[]) X hg.1 (λi hi=>s.rows i hi) s.deep;rw[s.check,an4] at this;exact this
theorem jc.aaz (s:jc B X h 2 ds)(hg:kg X):Calls l 9 #[bG h] X (dw (.bool false) X):=by
 have:=CV h Fe (rJ 2) ds [] [⟨0,2⟩] (λ_=>[]) (λ_=>[0]) (λ_=>[]) X hg.1 (λi hi=>s.rows i hi) s.deep;rw[an5,Bool.and_false] at this;exact this
end
theorem XE (w:World)(hg:kg w):Calls l 5 #[] w (dw (.bool true) w):=by
 have HG:=hid hg;clear hg;go_enter Tryz.func5,Tryz.ntmps5;go_wp2_with fail;refine(Cq w).mono ?_;rintro e w1 ⟨h1,d1,rfl,hs1,hb1⟩;have HT:=hid (hs1.text (HG.q.below hb1));have HB1:=hid hb1;clear hs1 hb1;go_wp2_with fail;refine HT.q.mono ?_;rintro e w2 ⟨rfl,hb2⟩;have HB2:=hid (HB1.q.bZ hb2);clear hb2;go_wp2_with fail;refine(Cq w2).mono ?_;rintro e w3 ⟨h3,d3,rfl,hs3,hb3⟩;have HB3:=hid (HB2.q.bZ hb3);have HL:=hid (hs3.lines (HG.q.below HB3.q));clear hs3 hb3;go_wp2_with fail;refine HL.q.mono ?_;rintro e w4 ⟨⟨la,lc,rfl⟩,hb4⟩;have ig:=hid (HB3.q.bZ hb4);clear hb4;go_wp2_with fail;refine(Cq w4).mono ?_;rintro e w5 ⟨h5,d5,rfl,hs5,hb5⟩;have vK:=hid hs5;have kz:=hid (ig.q.bZ hb5);obtain⟨g,cur,ha,hbg,_,_,hBg,hcur⟩:=hs5.e.open_ (hc:=rA) (n:=h5.e.n) (by have:=hs5.deep.1.len;simp[rJ] at this;omega);have hlen:=hs5.deep.1.len;have hcell:w5.cell? ⟨g,15,none⟩=some (.int .i64 1):=(hbg.1 15).trans (hcur 1 _ 6 _ rfl rfl);have hcell2:=bP (.cells (aD h5) 29) hcell;have aaA:=hbg.alloc (.cells (aD h5) 29);have hfg:=aaA.2.1;have hlg:=aaA.2.2;have hSZ:Hid (∀Z,Z=(w5.alloc (.cells (aD h5) 29)).setCell ⟨g,15,none⟩ (.int .i64 2)->jc (w4.1.size+1) Z h5 2 d5/\Below w.1.size w Z/\Bx Z w5.1.size (aD h5)):=hid (by
  rintro Z rfl;have ho:=hs5.e.alloc (.cells (aD h5) 29);have sP:h5.e.v.ownBlock=some g:=by simp only[Sl.v,ha];rfl
  have htg:=ho.tag sP;have hs:Same (λi=>i≠g) (w5.alloc (.cells (aD h5) 29)) ((w5.alloc (.cells (aD h5) 29)).setCell ⟨g,15,none⟩ (.int .i64 2)):=(Same.refl' _).setTail (λhn=>hn rfl);have e:h5.e.v= .slice (some ⟨g,0,none⟩) h5.e.n h5.e.c:=by simp only[Sl.v,ha]
  obtain⟨a,q1,q2⟩:=hs5.dt;have hgl:g<w5.1.size:=hbg.2.2;refine⟨⟨λi hi=>((hs5.n i hi).alloc _).bD htg aj hs,?_,(hs5.d.alloc _).bD htg aj hs,⟨a,q1,(q2.alloc _).bD htg aj hs⟩,hs5.m,(hs5.q.alloc _).bD htg aj hs⟩,?_,hs.bx (Bx.new1 rfl) ah⟩
  .rw[e] at ho ⊢
   exact ho.put (i:=1) (j:=6) (x:=⟨2,0,0,0,0,⟨0,1⟩,0,none,0,0⟩) (y:=⟨2,0,0,0,0,⟨0,2⟩,0,none,0,0⟩) rfl aj rfl
  .exact hs.below (aA kz.q _) (λi hi=>by have:=ig.q.size;omega) (by have:=kz.q.size;simp;omega))
 obtain⟨t5,s5,o5,p5,⟨ea,en,ec⟩,dd5,mm5,ww5⟩:=h5;simp only at ha hlen;subst ha;simp only[rJ,dO,iy] at hlen;subst hlen;clear hbg aaA hcur hs5 hb5 hcell hBg;go_wp2_with fail;obtain⟨hsZ,hbZ,hxZ⟩:=hSZ.q _ rfl;have uV:=hid hsZ;have mK:=hid hbZ;have HXZ:=hid hxZ;clear hsZ hbZ hxZ hcell2 hfg hlg hSZ;refine(Cq _).mono ?_;rintro e w6 ⟨h6,d6,rfl,hs6,hb6⟩;have yF:=hid (mK.q.bZ hb6);have EZ:=hid (hs6.aay (HG.q.below yF.q));have HS6:=hid (uV.q.below hb6);have KD:=hid (HXZ.q.keep hb6);clear hs6 hb6;go_wp2_with fail;refine EZ.q.mono ?_;rintro e w7 ⟨rfl,KE⟩;have Tc:=hid (yF.q.bZ KE);have eF:=hid ((HS6.q.below KE).aaz (HG.q.below Tc.q));have hx7:=KD.q.keep KE;have hcx:=hx7.1;have hfx:=hx7.2.1;have hlx:=hx7.2.2;clear KE hx7;go_wp2_with fail;refine eF.q.mono ?_;rintro e w8 ⟨rfl,qx⟩;have HB8:=hid (Tc.q.bZ qx);clear qx;go_wp2_with fail;go_ret;exact⟨rfl,HB8.q⟩
end Yd
