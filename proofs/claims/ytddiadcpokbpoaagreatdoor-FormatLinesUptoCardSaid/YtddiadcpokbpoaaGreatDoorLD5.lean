import Derived.Test.YtddiadcpokbpoaaGreatDoorLRST
import Derived.Test.YtddiadcpokbpoaaGreatDoorLFm14
set_option linter.all false
set_option maxRecDepth 200000
set_option maxHeartbeats 8000000
namespace Yd
open Bool renaming false->H,true->S
open Option renaming none->u,some->F
open Go Go.RowKit Go.Proofs Tryz
open Below renaming refl->J
open Go.IntKind renaming i64->p
open Go.Obj renaming cells->Y
open Go.RowKit renaming Hid->G
open Go.Value renaming int->f,slice->B,bool->D,string->P
open RowKit renaming intOf->Q
open Same renaming of_below->Z
open Yd renaming hid->C
open _root_ renaming Int->I,trivial->N,List->U
attribute [local go_sem] Oper.semAt_some
def Yo (R:Nat)(d:Cont)(w:World)(e:Ending)(w':World):Prop:=
 e= .returned (.tuple #[])/\Same (λi=>i<R) w w'/\∃cs es ds ms g,lg w' R cs d es ds ms g/\(g && rA d.nl)=x9 d
theorem NH {s:aP}(hok:fB s)(h:s.kind≠1):s.lvl=0:=by
 rcases hok.2.2 with q|q|q|q|q|q|q|q|q
 .exact absurd q.1 h
 all_goals exact q.2.2.2.1
theorem sW (c:Cont)(i:Nat)(s:Bs)(j:Nat):((c.put i s).nl j).length<=(c.nl j).length+1:=by
 show(if j=i then cZ (c.nl i) s else c.nl j).length<=_
 split
 .rename_i h;subst h;unfold cZ;split <;> simp
 .omega
theorem Ri:∀(l:U (Bs × To))(c:Cont)(j:Nat),((c.sc l).1.nl j).length<=(c.nl j).length+2*l.length
 |[],_,_=>aA _
 |q::l,c,j=>by
  have h1:=Ri l ((c.put 2 q.1).bR q.2).1 j;have h2:=sW c 2 q.1 j;have h3:(((c.put 2 q.1).bR q.2).1.nl j).length<=((c.put 2 q.1).nl j).length+1:=by
   unfold Cont.bR
   split
   .exact Nat.le_succ _
   .exact sW _ 0 _ j
  show(((((c.put 2 q.1).bR q.2).1).sc l).1.nl j).length<=_;rw[jd];omega
theorem lg.JZ {W:World}{R:Nat}{cs:Array Value}{c:Cont}{es:U EvC}{ds:U aM}{ms:U aN}{g:Bool}(h:lg W R cs c es ds ms g):∃a q,cs[4]?=F (B a es.length q)/\W.cell? ⟨R,4,u⟩=F (B a es.length q)/\Own W (R+1) 47 9 dO (B a es.length q) es:=by
 obtain⟨v,h4,hO⟩:=h.s.e;obtain⟨a,q,rfl,_,_⟩:=hO.shape;exact⟨a,q,h4,(h.s.t.b.1 4).trans h4,hO⟩
def Cj (w W:World)(R kb bl:Nat)(LC:Array Value)(c:Cont)(s:aP)(es:U EvC)(ds:U aM)(ms:U aN):Prop:=
 ∃cs c' g ev L,EvS w W R kb bl LC cs c' es ds ms g ev/\Own W (R+1) 117 3 bS ev.val L/\aO c s=c'.ev ev.base L/\Nm c c'/\g=(decide (ev.kind=2->ev.v.k<=999) && decide ((es.length:I)<3000))
theorem EvS.Dr {w W:World}{R kb bl:Nat}{LC cs:Array Value}{c:Cont}{es:U EvC}{ds:U aM}{ms:U aN}{g:Bool}{ev:EvC}(h:EvS w W R kb bl LC cs c es ds ms g ev):∃b,b=(g && rA c.nl)/\W.cell? ⟨R,8,u⟩=F (D b):=
 ⟨_,rfl,(h.r.s.t.b.1 8).trans h.r.k⟩
theorem EvS.fin {w W:World}{R kb bl:Nat}{LC cs:Array Value}{c c':Cont}{s:aP}{es:U EvC}{ds:U aM}{ms:U aN}{g:Bool}{ev:EvC}{L:U Sn}(h:EvS w W R kb bl LC cs c' es ds ms g ev)(ho:Own W kb 117 3 bS ev.val L)(ha:aO c s=c'.ev ev.base L)(hm:Nm c c')(hg:g=decide (ev.kind=2->ev.v.k<=999))(b:Bool)(hb:b=(g && rA c'.nl)):
  Cj w (W.setCell ⟨R,8,u⟩ (D (b && decide ((es.length:I)<3000)))) R kb bl LC c s es ds ms:=by
 refine⟨_,c',g && decide ((es.length:I)<3000),ev,L,h.flag (by rw[hb];cases g <;> cases rA c'.nl <;> cases decide ((es.length:I)<3000) <;> rfl),(ho.same (A:=λi=>i≠R) ((Same.refl' W).setTail (λh=>h rfl)) (λq hq e=>by have:=(ho.lt q hq).1;have:=h.n;omega)).mono (by have:=h.n;omega),ha,hm,by rw[hg]⟩
theorem ae3 {s:aP}(hok:fB s):∃n0 r,s.names=n0::r:=by
 have hlen:0<s.names.length:=by
  rcases hok.2.2 with h|h|h|h|h|h|h|h|h
  all_goals
   obtain⟨_,h,_⟩:=h
   first|omega|(obtain⟨cc,h,_⟩:=h;omega)
 match s.names,hlen with
 |a::l,_=>exact⟨a,l,rfl⟩
section
variable {R:Nat}{cs:Array Value}{c:Cont}{es:U EvC}{ds:U aM}{ms:U aN}
theorem ac5 (l:bB)(s:aP)(w:World)(h:lg w R cs c es ds ms S)(hf:aI c)(hl:vK w R l s)(hk:1<=s.kind/\s.kind<=6)(hok:fB s):
  Calls Tryz.prog 56 #[.pointer (F ⟨R,0,u⟩),jg l] w (Yo R (aO c s) w):=by
 obtain⟨n0,rs,hn⟩:=ae3 hok;obtain⟨nb,no,ha0,hb0,hd0⟩:=hl.name (i:=0) (x:=n0) (by rw[hn];rfl);have hnl:0<l.nn:=by rw[hl.k.2.2.2.2.1,hn];simp
 have hll:=hl;obtain⟨lk,la,nn,nc,lvl,va,vn,vc,lf,bits⟩:=l;obtain⟨k1,k2,k3,k4,k5,k6⟩:=hl.k;simp only at k1 k2 k3 k4 k5 k6 ha0 hnl;subst ha0;have j4:=C hll;have qK:=C hok;have lT:=C k1;have Aj:=C k2;have HK6:=C k6;have HKK:G (1<=lk/\lk<=6):=C (by rw[k1];exact hk);have HF:=C hf;have uD:=C hn;have zN:=C hb0;have d9:G (R<w.1.size):=C h.s.t.b.2.2;obtain⟨V,hV⟩:∃V,V=w.alloc (Y #[f p lk,B (F ⟨nb,no,u⟩) nn nc,f p lvl,B va vn vc,D lf,f p bits] 30):=⟨_,rfl⟩;have bE:G (Below w.1.size w V):=C (by rw[hV];exact aB (J w.1.size w) _);have HX:G (Bx V w.1.size #[f p lk,B (F ⟨nb,no,u⟩) nn nc,f p lvl,B va vn vc,D lf,f p bits]):=C (by rw[hV];exact Bx.new w _ _);have Ch:G (V.1.size=w.1.size+1):=C (by rw[hV];exact World.size_alloc _ _);have Fb:G (V.cell? ⟨nb,no,u⟩=F (P ⟨n0.toArray⟩)):=C (bn bE.q rfl (by simpa using hd0));have gT:=C (h.below bE.q.drew);have qY:G ((c.nl 0).length<=1000000):=C (by have:=hf.1 0 aj;have:=vw 0;omega);obtain⟨v4,h4,hO4⟩:=h.s.e;have H4:=C h4;have J2:G (∀q,v4.ownBlock=F q->q<w.1.size):=C (λq hq=>(hO4.lt q hq).2);have HSB:G (∀x∈es,∀q,x.val.ownBlock=F q->q<w.1.size):=C (λx hx q hq=>by
  obtain⟨i,hi⟩:=u6.1 hx;obtain⟨M,hM⟩:∃M,c.SE[i]?=F M:=⟨_,eu (by have:=(bG.1 hi).1;have:=h.s.se.1;omega)⟩;exact((h.s.se.2 i x M hi hM).lt q hq).2)
 have xD:G (es.length=c.E.length):=C (by rw[<-h.s.be,bH]);have zO:G (es.map EvC.base=c.E):=C h.s.be;have asw:(0:I)<(nn:I):=by omega
 have asx:0<nn:=hnl;clear h hf hl hok hk k1 k2 k3 k4 k5 k6 hd0 hb0 hnl hn h4 hO4 hll;go_enter func56,ntmps56;go_wp2_with fail;rw[<-hV];clear hV;refine ou 99 (.q 0 0 (.q 1 0 (.q 2 0 (.q 3 0 (.q 4 0 (.q 5 0 (.q 6 0 (.q 8 0 (.q 9 0 (.alt 7 (.q 10 0 (.l 11 (.l 12 .nil))) 11 (.l 7 (.q 10 0 (.l 12 .nil))))))))))))) (λ_=>True) (λW'=>Bx W' w.1.size #[f p lk,B (F ⟨nb,no,u⟩) nn nc,f p lvl,B va vn vc,D lf,f p bits]/\W'.cell? ⟨nb,no,u⟩=F (P ⟨n0.toArray⟩)) av av (trivial) (⟨HX.q.drew,Fb.q⟩) ?_;refine qC ?_;refine⟨?ga,?gb⟩
 case' ga=>
  refine dS rfl rfl (λK hK=>?_);go_simp;refine(JY n0 _ gT.q qY.q).mono ?_;rintro e w1 ⟨rfl,hS,cs1,hr,ho⟩;have hl1:=hS.bx HX.q.drew (by have:=d9.q;omega);have hc1:=hS.cell (X:=V.drew) Fb.q (by have:=zN.q;omega);refine hK _ _ ⟨N,hl1,hc1⟩ ?_;clear hK K;refine qC ?_;refine aD rfl rfl (λK hK=>?_);go_simp;have hsz:w.1.size+1<=w1.1.size:=by have:=hS.size;have:=Ch.q;exact dL (Nat.le_of_eq this.symm) hS.size
  have hsw:Same (λi=>i<R) w w1:=((Z bE.q.drew (λi hi hl=>hl)).mono (A':=λi=>i<R) (λi hi hl=>hl)).tr (hS.mono (λi hi _=>by omega));have HZ:G (EvS w (w1.alloc (Y #[f p 0,f p 0,f p 0,f p 0,f p 0,f p 0,f p 0,f p 0,B u 0 0] 47)) R w1.1.size w.1.size #[f p lk,B (F ⟨nb,no,u⟩) nn nc,f p lvl,B va vn vc,D lf,f p bits] cs1 (c.put 0 n0) es ds ms S ⟨0,0,0,0,0,⟨0,0⟩,0,u,0,0⟩):=C ⟨hr.below (aB (J _ _) _),hl1.alloc _,Bx.new w1 _ _,⟨_,_,eH w1 _⟩,hsw.tr (Z (aB (J _ _) _) (λi hi hl=>hl)),by have:=d9.q;omega,λv hv e=>by rw[ho 4 ah ah,H4.q] at hv;injection hv with hv;subst hv;have:=J2.q _ e;omega,λx hx q hq=>by have:=HSB.q x hx q hq;omega⟩;refine hK _ _ ⟨N,hl1.alloc _,bn (aB (J _ _) _) rfl hc1⟩ ?_;obtain⟨kb,hkb⟩:∃kb,kb=w1.1.size:=⟨_,rfl⟩;rw[<-hkb] at HZ ⊢;generalize w1.alloc (Y #[f p 0,f p 0,f p 0,f p 0,f p 0,f p 0,f p 0,f p 0,B u 0 0] 47)=w2 at HZ ⊢;clear hK K hl1 hc1 hr hS hsz hsw hkb ho
 case' gb=>
  refine dS rfl rfl (λK hK=>?_);go_simp;have hba:=aB (J V.drew.1.size V.drew) (Y #[f p 0,f p 0,f p 0,f p 0,f p 0,f p 0,f p 0,f p 0,B u 0 0] 47);have hl1:=HX.q.drew.alloc (Y #[f p 0,f p 0,f p 0,f p 0,f p 0,f p 0,f p 0,f p 0,B u 0 0] 47);have hc1:=bn hba rfl (show V.drew.cell? ⟨nb,no,u⟩=_ from Fb.q);refine hK _ _ ⟨N,hl1,hc1⟩ ?_;clear hK K;refine aD rfl rfl (λK hK=>?_);go_simp;refine(JY n0 _ (gT.q.below hba) qY.q).mono ?_;rintro e w1 ⟨rfl,hS,cs1,hr,ho⟩;have hsz:V.1.size=w.1.size+1:=Ch.q;have ano:V.drew.1.size=w.1.size+1:=Ch.q;have he1:=hS.bx (Bx.new V.drew #[f p 0,f p 0,f p 0,f p 0,f p 0,f p 0,f p 0,f p 0,B u 0 0] 47) (by have:=d9.q;omega);have hl2:=hS.bx hl1 (by have:=d9.q;omega);have hc2:=hS.cell hc1 (by have:=zN.q;omega);have hsw:Same (λi=>i<R) w w1:=((Z bE.q.drew (λi hi hl=>hl)).mono (A':=λi=>i<R) (λi hi hl=>hl)).tr (((Z hba (λi hi hl=>hl)).mono (A':=λi=>i<R) (λi hi hl=>hl)).tr (hS.mono (λi hi _=>by omega)));have HZ:G (EvS w w1 R V.1.size w.1.size #[f p lk,B (F ⟨nb,no,u⟩) nn nc,f p lvl,B va vn vc,D lf,f p bits] cs1 (c.put 0 n0) es ds ms S ⟨0,0,0,0,0,⟨0,0⟩,0,u,0,0⟩):=C ⟨hr,hl2,he1,⟨_,_,(hS.block _ (by have:=d9.q;omega) (Bx.new V.drew #[f p 0,f p 0,f p 0,f p 0,f p 0,f p 0,f p 0,f p 0,B u 0 0] 47).2.2).trans (eH V.drew _)⟩,hsw,by have:=d9.q;omega,λv hv e=>by rw[ho 4 ah ah,H4.q] at hv;injection hv with hv;subst hv;have:=J2.q _ e;omega,λx hx q hq=>by have:=HSB.q x hx q hq;omega⟩;refine hK _ _ ⟨N,hl2,hc2⟩ ?_;obtain⟨kb,hkb⟩:∃kb,kb=V.1.size:=⟨_,rfl⟩;rw[<-hkb] at HZ ⊢;obtain⟨w2,hw2⟩:∃w2,w2=w1:=⟨_,rfl⟩;rw[<-hw2] at HZ ⊢;clear hK K hl1 hc1 hl2 hc2 he1 hr hS hsz ano hsw hkb hba hw2 ho;refine qC ?_
 all_goals
  have hcK:=HZ.q.e.1;have xE:=HZ.q.e.2.1;refine aD rfl rfl (λK hK=>?_);go_simp;have HY:=C (HZ.q.all lk (c.no 0 n0) 0 lvl 0 0 0 0 u 0 0);generalize(((((((((w2.setCell ⟨kb,0,u⟩ (f p lk)).setCell ⟨kb,1,u⟩ (f p (c.no 0 n0))).setCell ⟨kb,2,u⟩ (f p 0)).setCell ⟨kb,3,u⟩ (f p lvl)).setCell ⟨kb,4,u⟩ (f p 0)).setCell ⟨kb,5,u⟩ (f p 0)).setCell ⟨kb,6,u⟩ (f p 0)).setCell ⟨kb,7,u⟩ (f p 0)).setCell ⟨kb,8,u⟩ (B u 0 0))=W at HY ⊢;have hN:∀i x,s.names[i]?=F x->W.cell? ⟨nb,no+i,u⟩=F (P ⟨x.toArray⟩):=λi x hi=>by
   obtain⟨b,o,q1,hb,q2⟩:=j4.q.name hi;injection q1 with q1;injection q1 with q1 q3;subst q1 q3;exact HY.q.s.cell q2 hb
  refine hK _ _ ⟨N,HY.q.l,by have:=hN 0 n0 (by rw[uD.q];rfl);simpa using this⟩ ?_;clear hK K hcK xE HZ;refine aJ ?_;have hcl:=HY.q.l.1;have uE:=C hN;have hln:∀j,j<4->((c.put 0 n0).nl j).length<=301:=λj hj=>by have:=sW c 0 n0 j;have:=HF.q.1 j hj;have:=vw j;omega
  have nL:=C hln;clear hN hln;rcases(by have:=HKK.q;omega:lk=1\/lk=2\/lk=3\/lk=4\/lk=5\/lk=6) with rfl|rfl|rfl|rfl|rfl|rfl
  case' inl=>
   obtain⟨n1,hn2⟩:∃n1,s.names=[n0,n1]:=by obtain⟨a,b,q⟩:=names2 qK.q (.inl lT.q.symm);rw[uD.q] at q;injection q with q1 q2;exact⟨b,by rw[uD.q,q2]⟩
   have hc1:=uE.q 1 n1 (by rw[hn2];rfl);have fT:=C hn2;have Jc:(1:I)<(nn:I):=by have:=j4.q.k.2.2.2.2.1;rw[hn2] at this;simp only[jd,mg] at this;omega
   have Ip:1<nn:=by omega
   clear hn2;go_wp2_with fail;refine(Vj n1 W HY.q.r (by have:=nL.q 1 aj;omega)).mono ?_;rintro e w3 ⟨rfl,hS,tT,hr,ho⟩;have jM:=C (HY.q.call hS hr ho);have hcK:=jM.q.e.1;have xE:=jM.q.e.2.1;clear hcl hc1 hS hr ho Jc Ip;have kK:G (EvS w (w3.setCell ⟨kb,2,u⟩ (f p ((c.put 0 n0).no 1 n1))) R kb w.1.size #[f p 1,B (F ⟨nb,no,u⟩) nn nc,f p lvl,B va vn vc,D lf,f p bits] _ ((c.put 0 n0).put 1 n1) es ds ms S ⟨1,c.no 0 n0,(c.put 0 n0).no 1 n1,lvl,0,⟨0,0⟩,0,u,0,0⟩):=C (jM.q.set ⟨1,c.no 0 n0,(c.put 0 n0).no 1 n1,lvl,0,⟨0,0⟩,0,u,0,0⟩ (j:=2) (x:= f p ((c.put 0 n0).no 1 n1)) aj rfl);have HAD:G (Own (w3.setCell ⟨kb,2,u⟩ (f p ((c.put 0 n0).no 1 n1))) kb 117 3 bS (EvC.val ⟨1,c.no 0 n0,(c.put 0 n0).no 1 n1,lvl,0,⟨0,0⟩,0,u,0,0⟩) []/\aO c s=Cont.ev ((c.put 0 n0).put 1 n1) (EvC.base ⟨1,c.no 0 n0,(c.put 0 n0).no 1 n1,lvl,0,⟨0,0⟩,0,u,0,0⟩) []/\Nm c ((c.put 0 n0).put 1 n1)):=C ⟨Own.fJ _ _ _ _ _,by unfold aO;simp only[<-lT.q,fT.q,<-Aj.q];rfl,(Nm.put c 0 n0).trans (Nm.put _ 1 n1)⟩;obtain⟨b,hb,h8⟩:=jM.q.Dr;have rU:=jM.q.r.s.t.b.2.1 8;have Bg:=jM.q.r.s.t.b.2.2;obtain⟨a4,q4,h4,hx4,hO4⟩:=jM.q.r.JZ;have hkr:kb≠R:=by have:=jM.q.n;omega
   have zP:R≠kb:=λe=>hkr e.symm
   have yQ:=C hb;clear hb h4 hO4
   cases b
   case' false=>
    go_wp2_with fail;have HT:G (Cj w ((w3.setCell ⟨kb,2,u⟩ (f p ((c.put 0 n0).no 1 n1))).setCell ⟨R,8,u⟩ (D H)) R kb w.1.size #[f p 1,B (F ⟨nb,no,u⟩) nn nc,f p lvl,B va vn vc,D lf,f p bits] c s es ds ms):=C (kK.q.fin HAD.q.1 HAD.q.2.1 HAD.q.2.2 rfl H yQ.q);generalize((w3.setCell ⟨kb,2,u⟩ (f p ((c.put 0 n0).no 1 n1))).setCell ⟨R,8,u⟩ (D H))=W5 at HT ⊢;clear h8 rU Bg hx4 hkr zP
   case' true=>
    go_wp2_with fail;have HT:G (Cj w ((w3.setCell ⟨kb,2,u⟩ (f p ((c.put 0 n0).no 1 n1))).setCell ⟨R,8,u⟩ (D (decide ((es.length:I)<3000)))) R kb w.1.size #[f p 1,B (F ⟨nb,no,u⟩) nn nc,f p lvl,B va vn vc,D lf,f p bits] c s es ds ms):=C (kK.q.fin HAD.q.1 HAD.q.2.1 HAD.q.2.2 rfl S yQ.q);generalize((w3.setCell ⟨kb,2,u⟩ (f p ((c.put 0 n0).no 1 n1))).setCell ⟨R,8,u⟩ (D (decide ((es.length:I)<3000))))=W5 at HT ⊢;clear h8 rU Bg hx4 hkr zP
  case' inr.inr.inr.inr.inl=>
   have hv0:lvl=0:=by rw[Aj.q];exact NH qK.q (by have:=lT.q;omega)
   subst hv0;have hn2:s.names=[n0]:=by obtain⟨a,q⟩:=FM qK.q (by have:=lT.q;omega);rw[uD.q] at q;injection q with q1 q2;rw[uD.q,q2]
   have fT:=C hn2;clear hn2;have kK:G (EvS w (W) R kb w.1.size #[f p 5,B (F ⟨nb,no,u⟩) nn nc,f p 0,B va vn vc,D lf,f p bits] _ (c.put 0 n0) es ds ms S ⟨5,c.no 0 n0,0,0,0,⟨0,0⟩,0,u,0,0⟩):=C (HY.q);have HAD:G (Own (W) kb 117 3 bS (EvC.val ⟨5,c.no 0 n0,0,0,0,⟨0,0⟩,0,u,0,0⟩) []/\aO c s=Cont.ev (c.put 0 n0) (EvC.base ⟨5,c.no 0 n0,0,0,0,⟨0,0⟩,0,u,0,0⟩) []/\Nm c (c.put 0 n0)):=C ⟨Own.fJ _ _ _ _ _,by unfold aO;simp only[<-lT.q,fT.q];rfl,Nm.put c 0 n0⟩;obtain⟨b,hb,h8⟩:=HY.q.Dr;have rU:=HY.q.r.s.t.b.2.1 8;have Bg:=HY.q.r.s.t.b.2.2;obtain⟨a4,q4,h4,hx4,hO4⟩:=HY.q.r.JZ;have hkr:kb≠R:=by have:=HY.q.n;omega
   have zP:R≠kb:=λe=>hkr e.symm
   have yQ:=C hb;clear hb h4 hO4
   cases b
   case' false=>
    go_wp2_with fail;have HT:G (Cj w ((W).setCell ⟨R,8,u⟩ (D H)) R kb w.1.size #[f p 5,B (F ⟨nb,no,u⟩) nn nc,f p 0,B va vn vc,D lf,f p bits] c s es ds ms):=C (kK.q.fin HAD.q.1 HAD.q.2.1 HAD.q.2.2 rfl H yQ.q);generalize((W).setCell ⟨R,8,u⟩ (D H))=W5 at HT ⊢;clear h8 rU Bg hx4 hkr zP
   case' true=>
    go_wp2_with fail;have HT:G (Cj w ((W).setCell ⟨R,8,u⟩ (D (decide ((es.length:I)<3000)))) R kb w.1.size #[f p 5,B (F ⟨nb,no,u⟩) nn nc,f p 0,B va vn vc,D lf,f p bits] c s es ds ms):=C (kK.q.fin HAD.q.1 HAD.q.2.1 HAD.q.2.2 rfl S yQ.q);generalize((W).setCell ⟨R,8,u⟩ (D (decide ((es.length:I)<3000))))=W5 at HT ⊢;clear h8 rU Bg hx4 hkr zP
  case' inr.inr.inr.inr.inr=>
   have hv0:lvl=0:=by rw[Aj.q];exact NH qK.q (by have:=lT.q;omega)
   subst hv0;have hn2:s.names=[n0]:=by obtain⟨a,q⟩:=FM qK.q (by have:=lT.q;omega);rw[uD.q] at q;injection q with q1 q2;rw[uD.q,q2]
   have fT:=C hn2;clear hn2;have kK:G (EvS w (W) R kb w.1.size #[f p 6,B (F ⟨nb,no,u⟩) nn nc,f p 0,B va vn vc,D lf,f p bits] _ (c.put 0 n0) es ds ms S ⟨6,c.no 0 n0,0,0,0,⟨0,0⟩,0,u,0,0⟩):=C (HY.q);have HAD:G (Own (W) kb 117 3 bS (EvC.val ⟨6,c.no 0 n0,0,0,0,⟨0,0⟩,0,u,0,0⟩) []/\aO c s=Cont.ev (c.put 0 n0) (EvC.base ⟨6,c.no 0 n0,0,0,0,⟨0,0⟩,0,u,0,0⟩) []/\Nm c (c.put 0 n0)):=C ⟨Own.fJ _ _ _ _ _,by unfold aO;simp only[<-lT.q,fT.q];rfl,Nm.put c 0 n0⟩;obtain⟨b,hb,h8⟩:=HY.q.Dr;have rU:=HY.q.r.s.t.b.2.1 8;have Bg:=HY.q.r.s.t.b.2.2;obtain⟨a4,q4,h4,hx4,hO4⟩:=HY.q.r.JZ;have hkr:kb≠R:=by have:=HY.q.n;omega
   have zP:R≠kb:=λe=>hkr e.symm
   have yQ:=C hb;clear hb h4 hO4
   cases b
   case' false=>
    go_wp2_with fail;have HT:G (Cj w ((W).setCell ⟨R,8,u⟩ (D H)) R kb w.1.size #[f p 6,B (F ⟨nb,no,u⟩) nn nc,f p 0,B va vn vc,D lf,f p bits] c s es ds ms):=C (kK.q.fin HAD.q.1 HAD.q.2.1 HAD.q.2.2 rfl H yQ.q);generalize((W).setCell ⟨R,8,u⟩ (D H))=W5 at HT ⊢;clear h8 rU Bg hx4 hkr zP
   case' true=>
    go_wp2_with fail;have HT:G (Cj w ((W).setCell ⟨R,8,u⟩ (D (decide ((es.length:I)<3000)))) R kb w.1.size #[f p 6,B (F ⟨nb,no,u⟩) nn nc,f p 0,B va vn vc,D lf,f p bits] c s es ds ms):=C (kK.q.fin HAD.q.1 HAD.q.2.1 HAD.q.2.2 rfl S yQ.q);generalize((W).setCell ⟨R,8,u⟩ (D (decide ((es.length:I)<3000))))=W5 at HT ⊢;clear h8 rU Bg hx4 hkr zP
  case' inr.inl=>
   obtain⟨n1,hn2⟩:∃n1,s.names=[n0,n1]:=by obtain⟨a,b,q⟩:=names2 qK.q (.inr (.inl lT.q.symm));rw[uD.q] at q;injection q with q1 q2;exact⟨b,by rw[uD.q,q2]⟩
   have hc1:=uE.q 1 n1 (by rw[hn2];rfl);have fT:=C hn2;have Jc:(1:I)<(nn:I):=by have:=j4.q.k.2.2.2.2.1;rw[hn2] at this;simp only[jd,mg] at this;omega
   have Ip:1<nn:=by omega
   clear hn2;have hv0:lvl=0:=by rw[Aj.q];exact NH qK.q (by have:=lT.q;omega)
   subst hv0;go_wp2_with fail;refine(FK n1 W HY.q.r (by have:=nL.q 2 aj;omega)).mono ?_;rintro e w3 ⟨rfl,hS,tT,hr,ho⟩;have jM:=C (HY.q.call hS hr ho);have gD:G (aO c s=Cont.ev ((c.put 0 n0).put 2 n1) (EvC.base ⟨2,c.no 0 n0,0,0,(c.put 0 n0).no 2 n1,⟨c.no 0 n0,1+(fK c.E (c.no 0 n0) ((c.put 0 n0).no 2 n1):I)⟩,0,u,0,0⟩) []/\Nm c ((c.put 0 n0).put 2 n1)):=C ⟨by unfold aO;simp only[<-lT.q,fT.q];rw[Int.add_comm];rfl,(Nm.put c 0 n0).trans (Nm.put _ 2 n1)⟩;obtain⟨c2,hc2⟩:∃c2,c2=(c.put 0 n0).put 2 n1:=⟨_,rfl⟩;rw[<-hc2] at jM gD;obtain⟨T,hT⟩:∃T,T=c.no 0 n0:=⟨_,rfl⟩;obtain⟨O,hO⟩:∃O,O=(c.put 0 n0).no 2 n1:=⟨_,rfl⟩;rw[<-hT,<-hO] at gD;rw[<-hT] at jM;rw[<-hO];have hcK:=jM.q.e.1;have xE:=jM.q.e.2.1;clear hcl hc1 hS hr ho Jc Ip hc2 hT hO;have jX:=C (((jM.q.set ⟨2,T,0,0,O,⟨0,0⟩,0,u,0,0⟩ (j:=4) (x:= f p O) aj rfl).set ⟨2,T,0,0,O,⟨T,0⟩,0,u,0,0⟩ (j:=5) (x:= f p T) aj rfl).set ⟨2,T,0,0,O,⟨T,1⟩,0,u,0,0⟩ (j:=6) (x:= f p 1) aj rfl);obtain⟨a4,q4,h4,hx4,hO4⟩:=jM.q.r.JZ;have hkr:kb≠R:=by have:=jM.q.n;omega
   have zP:R≠kb:=λe=>hkr e.symm
   have ae4:G (es.length<=3000):=C (by rw[xD.q];exact HF.q.2.1);have H44:=C h4;have anp:es.length<=3000:=ae4.q;have Yp:=(hO4.row (hc:=sP) ah).cap;clear h4 hO4;obtain⟨n,hn⟩:∃n,n=es.length:=⟨_,rfl⟩;have jG:=C hn;rw[<-hn] at hx4 anp Yp;clear hn;go_wp2_with fail;clear hx4 hcK xE hkr zP
   go_loopw [50] (λi wr=>∃k:Nat,k<=n/\i= f p k/\EvS w wr R kb w.1.size #[f p 2,B (F ⟨nb,no,u⟩) nn nc,f p 0,B va vn vc,D lf,f p bits] tT c2 es ds ms S ⟨2,T,0,0,O,⟨T,1+(fK (c.E.take k) T O:I)⟩,0,u,0,0⟩) (λi _=>n - (Q i).toNat)
   case' atStart=>exact⟨0,aV _,rfl,jX.q⟩
   case' round=>
    obtain⟨k,hk,rfl,hz⟩:=hrel;have HZ:=C hz;clear hz;by_cases hlt:k<n
    .obtain⟨a5,q5,h5,hx5,vM⟩:=HZ.q.r.JZ
     rw[H44.q] at h5;injection h5 with h5;injection h5 with h51 _ h52;subst h51 h52;obtain⟨y,b,o,hy,rfl,hc⟩:=(vM.row (hc:=sP) (by have:=ae4.q;omega)).at_ (by rw[<-jG.q];exact hlt);have vU:G (c.E.take (k+1)=c.E.take k++[y.base]):=C (by rw[eO,<-zO.q,lZ,hy];rfl);have hb0:=aB (J wr.1.size wr) (Y (aY y) 47);have HZ2:=C (HZ.q.below hb0);have Rj:=C (Bx.new wr (aY y) 47);have HCB:G (fK (c.E.take k) T O<=3000):=C (by have:=FN (c.E.take k) T O;rw[dN,<-xD.q,<-jG.q] at this;omega);have h0:=hc 0 _ rfl;have h1:=hc 1 _ rfl;have h2:=hc 2 _ rfl;have h3:=hc 3 _ rfl;have h4:=hc 4 _ rfl;have h5:=hc 5 _ rfl;have h6:=hc 6 _ rfl;have h7:=hc 7 _ rfl;have h8:=hc 8 _ rfl;simp only[bM] at h0;obtain⟨ek,et,es_,el,eo,⟨vV,vW⟩,ep,ea,en,eq⟩:=y;have hcB:=Rj.q.1;have hcE:=HZ2.q.e.1;have hfE:=HZ2.q.e.2.1;clear hc hx5 vM hy hb0;by_cases q1:ek=2
     .subst q1
      by_cases q2:et=T
      .subst q2
       by_cases q3:eo=O
       .subst q3
        obtain⟨m,hm⟩:∃m:Nat,m=fK (c.E.take k) et eo:=⟨_,rfl⟩;have HM:=C hm;rw[<-hm] at hcE HCB;have hmb:m<=3000:=HCB.q;have hw1:wrap64 (1+(m:I)+1)=1+((m+1:Nat):I):=by unfold wrap64;omega
        clear hm;go_wp2_with fail;go_roundw
        case rel=>
         refine⟨k+1,by omega,by go_num,?_⟩;have e:(fK (c.E.take (k+1)) et eo:I)=((m+1:Nat):I):=by rw[vU.q,mW,<-HM.q,ay ⟨rfl,rfl,rfl⟩]
         rw[e];exact HZ2.q.set ⟨2,et,0,0,eo,⟨et,1+((m+1:Nat):I)⟩,0,u,0,0⟩ (j:=6) (x:= f p (1+((m+1:Nat):I))) aj rfl
        case measure=>simp[Q];omega
       .have hne:(eo==O)=H:=aR.2 q3
        have HQ:=C q3;clear q3;go_wp2_with fail;go_roundw
        case rel=>exact⟨k+1,by omega,by go_num,by rw[vU.q,mW,ak (λh=>HQ.q h.2.2)];exact HZ2.q⟩
        case measure=>simp[Q];omega
      .have hne:(et==T)=H:=aR.2 q2
       have HQ:=C q2;clear q2;go_wp2_with fail;go_roundw
       case rel=>exact⟨k+1,by omega,by go_num,by rw[vU.q,mW,ak (λh=>HQ.q h.2.1)];exact HZ2.q⟩
       case measure=>simp[Q];omega
     .have hne:(ek==2)=H:=aR.2 q1
      have HQ:=C q1;clear q1;go_wp2_with fail;go_roundw
      case rel=>exact⟨k+1,by omega,by go_num,by rw[vU.q,mW,ak (λh=>HQ.q h.1)];exact HZ2.q⟩
      case measure=>simp[Q];omega
    obtain rfl:n=k:=by omega
    have htk:c.E.take n=c.E:=dR (by rw[<-xD.q,<-jG.q];exact aA _);rw[htk] at HZ;obtain⟨K9,hK9⟩:∃K9:I,K9=1+(fK c.E T O:I):=⟨_,rfl⟩;rw[<-hK9] at HZ gD;obtain⟨o9,Bh⟩:∃o9,o9=decide (K9<=999):=⟨_,rfl⟩;have qL:=C Bh;obtain⟨b,hb,h8⟩:=HZ.q.Dr;have rU:=HZ.q.r.s.t.b.2.1 8;obtain⟨a5,q5,h5,hx5,vM⟩:=HZ.q.r.JZ;have hcE:=HZ.q.e.1;have Bg:=HZ.q.r.s.t.b.2.2;have hkr:kb≠R:=by have:=HZ.q.n;omega
    have zP:R≠kb:=λe=>hkr e.symm
    have yQ:=C hb;have asy:=Bh.symm;have Rk:G (∀b1,b1=(b && o9)->EvS w (wr.setCell ⟨R,8,u⟩ (D b1)) R kb w.1.size #[f p 2,B (F ⟨nb,no,u⟩) nn nc,f p 0,B va vn vc,D lf,f p bits] (tT.setIfInBounds 8 (D b1)) c2 es ds ms o9 ⟨2,T,0,0,O,⟨T,K9⟩,0,u,0,0⟩/\b1=(o9 && rA c2.nl)):=C (λb1 h1=>by
     have e:b1=(o9 && rA c2.nl):=by rw[h1,yQ.q,Bool.true_and,Bool.and_comm]
     exact⟨HZ.q.flag e,e⟩)
    clear hb h5 vM htk hK9 Bh hk hlt
    cases b
    case' false=>
     go_wp2_with fail;have HT:G (Cj w ((wr.setCell ⟨R,8,u⟩ (D H)).setCell ⟨R,8,u⟩ (D H)) R kb w.1.size #[f p 2,B (F ⟨nb,no,u⟩) nn nc,f p 0,B va vn vc,D lf,f p bits] c s es ds ms):=C ((Rk.q H rfl).1.fin (Own.fJ _ _ _ _ _) gD.q.1 gD.q.2 (by rw[qL.q];exact decide_eq_decide.2 ⟨λh _=>h,λh=>h rfl⟩) H (Rk.q H rfl).2);generalize((wr.setCell ⟨R,8,u⟩ (D H)).setCell ⟨R,8,u⟩ (D H))=W5 at HT ⊢
    case' true=>
     cases o9
     case' false=>
      go_wp2_with fail;have HT:G (Cj w ((wr.setCell ⟨R,8,u⟩ (D H)).setCell ⟨R,8,u⟩ (D H)) R kb w.1.size #[f p 2,B (F ⟨nb,no,u⟩) nn nc,f p 0,B va vn vc,D lf,f p bits] c s es ds ms):=C ((Rk.q H rfl).1.fin (Own.fJ _ _ _ _ _) gD.q.1 gD.q.2 (by rw[qL.q];exact decide_eq_decide.2 ⟨λh _=>h,λh=>h rfl⟩) H (Rk.q H rfl).2);generalize((wr.setCell ⟨R,8,u⟩ (D H)).setCell ⟨R,8,u⟩ (D H))=W5 at HT ⊢
     case' true=>
      go_wp2_with fail;have HT:G (Cj w ((wr.setCell ⟨R,8,u⟩ (D S)).setCell ⟨R,8,u⟩ (D (decide ((es.length:I)<3000)))) R kb w.1.size #[f p 2,B (F ⟨nb,no,u⟩) nn nc,f p 0,B va vn vc,D lf,f p bits] c s es ds ms):=C ((Rk.q S rfl).1.fin (Own.fJ _ _ _ _ _) gD.q.1 gD.q.2 (by rw[qL.q];exact decide_eq_decide.2 ⟨λh _=>h,λh=>h rfl⟩) S (Rk.q S rfl).2);generalize((wr.setCell ⟨R,8,u⟩ (D S)).setCell ⟨R,8,u⟩ (D (decide ((es.length:I)<3000))))=W5 at HT ⊢
  case' inr.inr.inl=>
   obtain⟨n1,hn2⟩:∃n1,s.names=[n0,n1]:=by obtain⟨a,b,q⟩:=names2 qK.q (.inr (.inr lT.q.symm));rw[uD.q] at q;injection q with q1 q2;exact⟨b,by rw[uD.q,q2]⟩
   have hc1:=uE.q 1 n1 (by rw[hn2];rfl);have fT:=C hn2;have Jc:(1:I)<(nn:I):=by have:=j4.q.k.2.2.2.2.1;rw[hn2] at this;simp only[jd,mg] at this;omega
   have Ip:1<nn:=by omega
   clear hn2;have hv0:lvl=0:=by rw[Aj.q];exact NH qK.q (by have:=lT.q;omega)
   subst hv0;obtain⟨v0,hv⟩:=abr qK.q lT.q.symm;obtain⟨vb,vo,hva,hvb,hv1,hv2⟩:=j4.q.bR (i:=0) (x:=v0) (by rw[hv];rfl);have J3:vn=1:=by have:=HK6.q;rw[hv] at this;simpa using this
   simp only at hva;subst hva J3;simp only[Nat.zero_mul,bM] at hv1 hv2;obtain⟨xG,vk⟩:=v0;have HV:=C hv;have oF:G (∀X,Same (λi=>i<R) w X->X.cell? ⟨nb,no+1,u⟩=F (P ⟨n1.toArray⟩)/\X.cell? ⟨vb,vo,u⟩=F (P ⟨xG.toArray⟩)/\X.cell? ⟨vb,vo+1,u⟩=F (f p vk)):=C (λX hX=>by
    obtain⟨b,o,q1,hb,q2⟩:=j4.q.name (i:=1) (x:=n1) (by rw[fT.q];rfl);injection q1 with q1;injection q1 with q1 q3;subst q1 q3;exact⟨hX.cell q2 hb,hX.cell hv1 hvb,hX.cell hv2 hvb⟩)
   have HYD:=C (HY.q.below (J _ _).drew);clear hv hvb hv1 hv2 hc1;go_wp2_with fail;refine aC 99 [(0,0),(1,0),(2,0),(3,0),(4,0),(6,0),(7,0),(8,0),(9,0),(10,0),(5,2),(12,0),(11,2),(13,2),(14,0),(15,2)] (λ_=>True) (λW'=>Bx W' w.1.size #[f p 3,B (F ⟨nb,no,u⟩) nn nc,f p 0,B (F ⟨vb,vo,u⟩) 1 vc,D lf,f p bits]/\W'.cell? ⟨nb,no+1,u⟩=F (P ⟨n1.toArray⟩)/\W'.cell? ⟨vb,vo,u⟩=F (P ⟨xG.toArray⟩)/\W'.cell? ⟨vb,vo+1,u⟩=F (f p vk)) av av (trivial) (⟨HYD.q.l,oF.q _ HYD.q.s⟩) ?_;refine qC ?_;refine aD rfl rfl (λK hK=>?_);go_simp;refine(FK n1 W.drew HYD.q.r (by have:=nL.q 2 aj;omega)).mono ?_;rintro e w3 ⟨rfl,hS,tT,hr,ho⟩;have jM:=C (HYD.q.call hS hr ho);refine hK _ _ ⟨N,jM.q.l,oF.q _ jM.q.s⟩ ?_;clear hK K hS hr ho hcl Jc;refine qC ?_;refine aD rfl rfl (λK hK=>?_);go_simp;refine(LH ⟨xG,vk⟩ w3 jM.q.r (by have:=nL.q 0 aj;have:=sW (c.put 0 n0) 2 n1 0;omega)).mono ?_;rintro e w4 ⟨rfl,hS,Rl,hr,ho⟩;have jX:=C (jM.q.call hS hr ho);refine hK _ _ ⟨N,jX.q.l,oF.q _ jX.q.s⟩ ?_;clear hK K hS hr ho;have gM:G (aO c s=Cont.ev (((c.put 0 n0).put 2 n1).bR ⟨xG,vk⟩).1 (EvC.base ⟨3,c.no 0 n0,0,0,(c.put 0 n0).no 2 n1,(((c.put 0 n0).put 2 n1).bR ⟨xG,vk⟩).2,0,u,0,0⟩) []/\Nm c (((c.put 0 n0).put 2 n1).bR ⟨xG,vk⟩).1):=C ⟨by unfold aO;simp only[<-lT.q,fT.q,HV.q];rfl,((Nm.put c 0 n0).trans (Nm.put _ 2 n1)).trans (Nm.bR _ _)⟩;obtain⟨c4,hc4⟩:∃c4,c4=(((c.put 0 n0).put 2 n1).bR ⟨xG,vk⟩).1:=⟨_,rfl⟩;obtain⟨tv,htv⟩:∃tv,tv=(((c.put 0 n0).put 2 n1).bR ⟨xG,vk⟩).2:=⟨_,rfl⟩;rw[<-hc4,<-htv] at gM;rw[<-hc4] at jX;rw[<-htv];obtain⟨NJ,Rm⟩:=tv;clear hc4 htv;have hcK:=jX.q.e.1;have xE:=jX.q.e.2.1;refine aD rfl rfl (λK hK=>?_);go_simp;have lG:=C (jX.q.set ⟨3,c.no 0 n0,0,0,(c.put 0 n0).no 2 n1,⟨0,0⟩,0,u,0,0⟩ (j:=4) (x:= f p ((c.put 0 n0).no 2 n1)) aj rfl);refine hK _ _ ⟨N,lG.q.l,oF.q _ lG.q.s⟩ ?_;generalize(w4.setCell ⟨kb,4,u⟩ (f p ((c.put 0 n0).no 2 n1)))=w5 at lG ⊢;clear hK K hcK xE;have hcK:=lG.q.e.1;have xE:=lG.q.e.2.1;refine qC ?_;refine aD rfl rfl (λK hK=>?_);go_simp;have qb:=C ((lG.q.set ⟨3,c.no 0 n0,0,0,(c.put 0 n0).no 2 n1,⟨NJ,0⟩,0,u,0,0⟩ (j:=5) (x:= f p NJ) aj rfl).set ⟨3,c.no 0 n0,0,0,(c.put 0 n0).no 2 n1,⟨NJ,Rm⟩,0,u,0,0⟩ (j:=6) (x:= f p Rm) aj rfl);refine hK _ _ ⟨N,qb.q.l,oF.q _ qb.q.s⟩ ?_;generalize((w5.setCell ⟨kb,5,u⟩ (f p NJ)).setCell ⟨kb,6,u⟩ (f p Rm))=W4 at qb ⊢;clear hK K hcK xE;refine aJ ?_;have kK:G (EvS w (W4) R kb w.1.size #[f p 3,B (F ⟨nb,no,u⟩) nn nc,f p 0,B (F ⟨vb,vo,u⟩) 1 vc,D lf,f p bits] _ c4 es ds ms S ⟨3,c.no 0 n0,0,0,(c.put 0 n0).no 2 n1,⟨NJ,Rm⟩,0,u,0,0⟩):=C (qb.q);have HAD:G (Own (W4) kb 117 3 bS (EvC.val ⟨3,c.no 0 n0,0,0,(c.put 0 n0).no 2 n1,⟨NJ,Rm⟩,0,u,0,0⟩) []/\aO c s=Cont.ev c4 (EvC.base ⟨3,c.no 0 n0,0,0,(c.put 0 n0).no 2 n1,⟨NJ,Rm⟩,0,u,0,0⟩) []/\Nm c c4):=C ⟨Own.fJ _ _ _ _ _,gM.q.1,gM.q.2⟩;obtain⟨b,hb,h8⟩:=qb.q.Dr;have rU:=qb.q.r.s.t.b.2.1 8;have Bg:=qb.q.r.s.t.b.2.2;obtain⟨a4,q4,h4,hx4,hO4⟩:=qb.q.r.JZ;have hkr:kb≠R:=by have:=qb.q.n;omega
   have zP:R≠kb:=λe=>hkr e.symm
   have yQ:=C hb;clear hb h4 hO4
   cases b
   case' false=>
    go_wp2_with fail;have HT:G (Cj w ((W4).setCell ⟨R,8,u⟩ (D H)) R kb w.1.size #[f p 3,B (F ⟨nb,no,u⟩) nn nc,f p 0,B (F ⟨vb,vo,u⟩) 1 vc,D lf,f p bits] c s es ds ms):=C (kK.q.fin HAD.q.1 HAD.q.2.1 HAD.q.2.2 rfl H yQ.q);generalize((W4).setCell ⟨R,8,u⟩ (D H))=W5 at HT ⊢;clear h8 rU Bg hx4 hkr zP
   case' true=>
    go_wp2_with fail;have HT:G (Cj w ((W4).setCell ⟨R,8,u⟩ (D (decide ((es.length:I)<3000)))) R kb w.1.size #[f p 3,B (F ⟨nb,no,u⟩) nn nc,f p 0,B (F ⟨vb,vo,u⟩) 1 vc,D lf,f p bits] c s es ds ms):=C (kK.q.fin HAD.q.1 HAD.q.2.1 HAD.q.2.2 rfl S yQ.q);generalize((W4).setCell ⟨R,8,u⟩ (D (decide ((es.length:I)<3000))))=W5 at HT ⊢;clear h8 rU Bg hx4 hkr zP
  case' inr.inr.inr.inl=>
   have hv0:lvl=0:=by rw[Aj.q];exact NH qK.q (by have:=lT.q;omega)
   subst hv0;obtain⟨n1,rs,hn2,hlv,hle⟩:∃n1 rs,s.names=n0::n1::rs/\s.aF.length=rs.length/\rs.length<=40:=by
    obtain⟨a,b,r,q1,q2,q3⟩:=Vm qK.q lT.q.symm;rw[uD.q] at q1;injection q1 with q1 q4;exact⟨b,r,by rw[uD.q,q4],q2,q3⟩
   have hc1:=uE.q 1 n1 (by rw[hn2];rfl);have fT:=C hn2;have J4:=C hlv;have uF:=C hle;have hnn:nn=rs.length+2:=by have:=j4.q.k.2.2.2.2.1;rw[hn2] at this;simpa using this
   have J3:vn=rs.length:=by have:=HK6.q;rw[hlv] at this;simpa using this
   subst hnn J3;have Jc:(1:I)<((rs.length+2:Nat):I):=by omega
   have Ip:1<rs.length+2:=by omega
   clear hn2 hlv hle;go_wp2_with fail;refine(Vk n1 W HY.q.r (by have:=nL.q 3 aj;omega)).mono ?_;rintro e w3 ⟨rfl,hS,tT,hr,ho⟩;have jM:=C (HY.q.call hS hr ho);have gD:G (aO c s=Cont.ev (((c.put 0 n0).put 3 n1).sc (rs.zip s.aF)).1 ⟨4,c.no 0 n0,0,0,0,⟨0,0⟩,(c.put 0 n0).no 3 n1,u,0,0⟩ (((c.put 0 n0).put 3 n1).sc (rs.zip s.aF)).2/\Nm c (((c.put 0 n0).put 3 n1).sc (rs.zip s.aF)).1):=C ⟨by unfold aO;simp only[<-lT.q,fT.q];rfl,((Nm.put c 0 n0).trans (Nm.put _ 3 n1)).trans (Nm.sc _ _)⟩;have Tt:G (∀j,j<4->(((c.put 0 n0).put 3 n1).nl j).length<=302):=C (λj hj=>by have:=nL.q j hj;have:=sW (c.put 0 n0) 3 n1 j;omega);obtain⟨c3,hc3⟩:∃c3,c3=(c.put 0 n0).put 3 n1:=⟨_,rfl⟩;rw[<-hc3] at jM gD Tt;obtain⟨T,hT⟩:∃T,T=c.no 0 n0:=⟨_,rfl⟩;obtain⟨O,hO⟩:∃O,O=(c.put 0 n0).no 3 n1:=⟨_,rfl⟩;rw[<-hT,<-hO] at gD;rw[<-hT] at jM;rw[<-hO];have hcK:=jM.q.e.1;have xE:=jM.q.e.2.1;clear hcl hc1 hS hr ho Jc Ip hc3 hT hO;have jX:=C (jM.q.set ⟨4,T,0,0,0,⟨0,0⟩,O,u,0,0⟩ (j:=7) (x:= f p O) aj rfl);have hcl:=jM.q.l.1;have hkb:kb≠w.1.size:=by have:=jM.q.n;omega
   have hbk:w.1.size≠kb:=λe=>hkb e.symm
   obtain⟨i,z,hi⟩:=Dt;have HI:=C hi;clear hi;have anq:rs.length<=40:=uF.q;go_wp2_with fail;clear hcl hcK xE hkb hbk
   go_loopw [119] (λi wr=>∃(k:Nat)(a0:Option Addr)(q0:Nat)(cs':Array Value),k<=rs.length/\i= f p k/\EvS w wr R kb w.1.size #[f p 4,B (F ⟨nb,no,u⟩) (rs.length+2) nc,f p 0,B va rs.length vc,D lf,f p bits] cs' (c3.sc ((rs.zip s.aF).take k)).1 es ds ms S ⟨4,T,0,0,0,⟨0,0⟩,O,a0,k,q0⟩/\Own wr kb 117 3 bS (B a0 k q0) (c3.sc ((rs.zip s.aF).take k)).2) (λi _=>rs.length - (Q i).toNat)
   case' atStart=>exact⟨0,u,0,_,aV _,rfl,jX.q,Own.fJ _ _ _ _ _⟩
   case' round=>
    obtain⟨k,a0,q0,Rn,hk,rfl,hz,how⟩:=hrel;have HZ:=C hz;have HOW:=C how;clear hz how;by_cases hlt:k<rs.length
    .obtain⟨nm,hnm⟩:∃nm,rs[k]?=F nm:=⟨_,eu hlt⟩
     obtain⟨v0,hv0⟩:∃v0,s.aF[k]?=F v0:=⟨_,eu (by rw[J4.q];exact hlt)⟩;obtain⟨vb,vo,hva,hvb,hv1,hv2⟩:=j4.q.bR hv0;simp only at hva;subst hva;obtain⟨xG,vk⟩:=v0;have vU:G ((rs.zip s.aF).take (k+1)=(rs.zip s.aF).take k++[(nm,⟨xG,vk⟩)]):=C (by rw[eO,(List.getElem?_zip_eq_some.2 ⟨hnm,hv0⟩:(rs.zip s.aF)[k]?=F (nm,⟨xG,vk⟩))];rfl);have oF:G (∀X,Same (λi=>i<R) w X->X.cell? ⟨nb,no+(k+2),u⟩=F (P ⟨nm.toArray⟩)/\X.cell? ⟨vb,vo+k*2,u⟩=F (P ⟨xG.toArray⟩)/\X.cell? ⟨vb,vo+k*2+1,u⟩=F (f p vk)):=C (λX hX=>by
      obtain⟨b,o,q1,hb,q2⟩:=j4.q.name (i:=k+2) (x:=nm) (by rw[fT.q];exact hnm);injection q1 with q1;injection q1 with q1 q3;subst q1 q3;exact⟨hX.cell q2 hb,hX.cell hv1 hvb,hX.cell hv2 hvb⟩)
     have hv1:=(oF.q _ HZ.q.s).2.1;have hv2:=(oF.q _ HZ.q.s).2.2;obtain⟨wa,rD⟩:∃W,W=wr.alloc (Y #[P ⟨xG.toArray⟩,f p vk] 52):=⟨_,rfl⟩;have kr:Below wr.1.size wr wa:=by rw[rD];exact aB (J _ _) _
     have HVX:G (Bx wa.drew wr.1.size #[P ⟨xG.toArray⟩,f p vk]):=C (by rw[rD];exact(Bx.new wr _ _).drew);have nW:=C ((HZ.q.below kr).below (J _ _).drew);have zQ:=C (HOW.q.below kr.drew rfl);have HWR:G (kb<wr.1.size/\R<wr.1.size):=C ⟨HZ.q.e.2.2,HZ.q.r.s.t.b.2.2⟩;have Yq:G (∀j,j<4->((c3.sc ((rs.zip s.aF).take k)).1.nl j).length<=400):=C (λj hj=>by have h1:=Ri ((rs.zip s.aF).take k) c3 j;have h2:=Tt.q j hj;rw[dN,AJ] at h1;have:=uF.q;omega);have Tv:G ((c3.sc ((rs.zip s.aF).take k)).2.length+1=k+1):=C (by rw[NK,dN,AJ,J4.q];omega);obtain⟨ck,hck⟩:∃ck,ck=c3.sc ((rs.zip s.aF).take k):=⟨_,rfl⟩;rw[<-hck] at nW zQ Yq Tv;have Ck:G (c3.sc ((rs.zip s.aF).take (k+1))=(((ck.1.put 2 nm).bR ⟨xG,vk⟩).1,ck.2++[⟨ck.1.no 2 nm,((ck.1.put 2 nm).bR ⟨xG,vk⟩).2⟩])):=C (by rw[vU.q,G7,hck]);have ae6:k<40:=by omega
     have FP:=C ae6;have hw0:IntKind.i64.wrap ((k:I)+2)=((k+2:Nat):I):=Go.IntWalk.i64_in ((k:I)+2) ah;have hlt2:((k+2:Nat):I)<((rs.length+2:Nat):I):=by omega
     have hlt3:k+2<rs.length+2:=by omega
     have asz:(k:I)+2<(rs.length:I)+2:=by omega
     have asA:¬((k:I)+2<0):=by omega
     have asB:(0:I)<=(k:I)+2:=by omega
     have htn:((k:I)+2).toNat=k+2:=by omega
     clear hvb hnm hv0 hck;go_wp2_with fail;rw[<-rD];clear hv1 hv2 rD;refine aC 17 [(0,0),(1,0),(2,0),(3,0),(4,0),(5,0),(6,0),(7,0),(8,0),(10,0),(11,0),(9,2),(12,2),(13,0),(14,2),(15,2),(16,0),(17,2)] (λ_=>True) (λW'=>Bx W' kb (aY ⟨4,T,0,0,0,⟨0,0⟩,O,a0,k,q0⟩)/\Bx W' w.1.size #[f p 4,B (F ⟨nb,no,u⟩) (rs.length+2) nc,f p 0,B (F ⟨vb,vo,u⟩) rs.length vc,D lf,f p bits]/\W'.cell? ⟨nb,no+(k+2),u⟩=F (P ⟨nm.toArray⟩)/\Bx W' wr.1.size #[P ⟨xG.toArray⟩,f p vk]) av av (trivial) (⟨nW.q.e,nW.q.l,(oF.q _ nW.q.s).1,HVX.q⟩) ?_;refine qC ?_;refine aD rfl rfl (λK hK=>?_);go_simp;refine(FK nm wa.drew nW.q.r (by have:=Yq.q 2 aj;omega)).mono ?_;rintro e w5 ⟨rfl,hS,cs6,hr,ho⟩;have Ak:=C (nW.q.call hS hr ho);have Al:=C (zQ.q.same hS (λq hq e=>by have:=(zQ.q.lt q hq).1;have:=nW.q.n;omega));have HV5:=C (hS.bx HVX.q (by have:=HWR.q;omega));refine hK _ _ ⟨N,Ak.q.e,Ak.q.l,(oF.q _ Ak.q.s).1,HV5.q⟩ ?_;clear hK K hS hr ho;refine aD rfl rfl (λK hK=>?_);go_simp;refine(LH ⟨xG,vk⟩ w5 Ak.q.r (by have:=Yq.q 0 aj;have:=sW ck.1 2 nm 0;omega)).mono ?_;rintro e w7 ⟨rfl,hS,cs7,hr,ho⟩;have HZ7:=C (Ak.q.call hS hr ho);have mF:=C (Al.q.same hS (λq hq e=>by have:=(Al.q.lt q hq).1;have:=nW.q.n;omega));have Cm:=C (hS.bx HV5.q (by have:=HWR.q;omega));refine hK _ _ ⟨N,HZ7.q.e,HZ7.q.l,(oF.q _ HZ7.q.s).1,Cm.q⟩ ?_;clear hK K hS hr ho;obtain⟨x,hx⟩:∃x:Sn,x=⟨ck.1.no 2 nm,((ck.1.put 2 nm).bR ⟨xG,vk⟩).2⟩:=⟨_,rfl⟩;rw[<-hx] at Ck;have hx1:ck.1.no 2 nm=x.obj:=by rw[hx]
     have hx2:((ck.1.put 2 nm).bR ⟨xG,vk⟩).2=x.v:=by rw[hx]
     rw[hx1,hx2];clear hx hx1 hx2;refine qC ?_;refine aD rfl rfl (λK hK=>?_);go_simp;have hba:=aB (J w7.1.size w7) (Y #[f p x.obj,f p x.v.t,f p x.v.k] 117);have Vn:=C (HZ7.q.below hba);have Vo:=C (mF.q.below hba rfl);have HV8:=C (Cm.q.keep hba);have yQ:G (kb<=(w7.alloc (Y #[f p x.obj,f p x.v.t,f p x.v.k] 117)).1.size):=C (Nat.le_of_lt Vn.q.e.2.2);refine hK _ _ ⟨N,Vn.q.e,Vn.q.l,(oF.q _ Vn.q.s).1,HV8.q⟩ ?_;clear hK K hba;refine aD rfl rfl (λK hK=>?_);refine ko _ _ 45 rfl i z 24 underlying45 HI.q.1 HI.q.2.1 HI.q.2.2.1 HI.q.2.2.2.1 HI.q.2.2.2.2 rfl Vo.q (F ⟨w7.1.size,0,u⟩) 1 1 (k+1) [x] rfl (Row.sn1 w7 x) Tv.q (by have:=FP.q;omega) (by have:=FP.q;unfold maxLen;omega) yQ.q ?_;intro a' c' w9 fq dx lH;have Ro:=HV8.q.grown dx (λe=>by have:=(HOW.q.lt _ e).2;omega);have NM:=C (Vn.q.grown Vo.q dx);have qL:=C fq;refine hK _ _ ⟨N,NM.q.e,NM.q.l,(oF.q _ NM.q.s).1,Ro⟩ ?_;have hcK:=NM.q.e.1;have xE:=NM.q.e.2.1;clear hK K Ro fq dx lH;refine qC ?_;refine bq rfl rfl rfl (λK hK=>?_);go_simp;refine hK _ _ N ?_;clear hK K hcK xE;refine aJ ?_;have HZX:=C (NM.q.set ⟨4,T,0,0,0,⟨0,0⟩,O,a',k+1,c'⟩ (j:=8) (x:= B a' (k+1) c') aj rfl);have HOX:=C (qL.q.aK NM.q.t aj ((Same.refl' w9).setTail (o:=8) (v:= B a' (k+1) c') (λh=>h rfl)));go_wp2_with fail;go_roundw
     case rel=>
      refine⟨k+1,a',c',cs7,by omega,by go_num,?_,?_⟩
      .rw[Ck.q];exact HZX.q
      .rw[Ck.q];exact HOX.q
     case measure=>simp[Q];omega
    obtain rfl:k=rs.length:=by omega
    have htk:(rs.zip s.aF).take rs.length=rs.zip s.aF:=dR (by rw[AJ,J4.q];omega);rw[htk] at HZ HOW;clear htk hk hlt anq;have kK:G (EvS w (wr) R kb w.1.size #[f p 4,B (F ⟨nb,no,u⟩) (rs.length+2) nc,f p 0,B va rs.length vc,D lf,f p bits] _ (c3.sc (rs.zip s.aF)).1 es ds ms S ⟨4,T,0,0,0,⟨0,0⟩,O,a0,rs.length,q0⟩):=C (HZ.q);have HAD:G (Own (wr) kb 117 3 bS (EvC.val ⟨4,T,0,0,0,⟨0,0⟩,O,a0,rs.length,q0⟩) (c3.sc (rs.zip s.aF)).2/\aO c s=Cont.ev (c3.sc (rs.zip s.aF)).1 (EvC.base ⟨4,T,0,0,0,⟨0,0⟩,O,a0,rs.length,q0⟩) (c3.sc (rs.zip s.aF)).2/\Nm c (c3.sc (rs.zip s.aF)).1):=C ⟨HOW.q,gD.q.1,gD.q.2⟩;obtain⟨b,hb,h8⟩:=HZ.q.Dr;have rU:=HZ.q.r.s.t.b.2.1 8;have Bg:=HZ.q.r.s.t.b.2.2;obtain⟨a4,q4,h4,hx4,hO4⟩:=HZ.q.r.JZ;have hkr:kb≠R:=by have:=HZ.q.n;omega
    have zP:R≠kb:=λe=>hkr e.symm
    have yQ:=C hb;clear hb h4 hO4
    cases b
    case' false=>
     go_wp2_with fail;have HT:G (Cj w ((wr).setCell ⟨R,8,u⟩ (D H)) R kb w.1.size #[f p 4,B (F ⟨nb,no,u⟩) (rs.length+2) nc,f p 0,B va rs.length vc,D lf,f p bits] c s es ds ms):=C (kK.q.fin HAD.q.1 HAD.q.2.1 HAD.q.2.2 rfl H yQ.q);generalize((wr).setCell ⟨R,8,u⟩ (D H))=W5 at HT ⊢;clear h8 rU Bg hx4 hkr zP
    case' true=>
     go_wp2_with fail;have HT:G (Cj w ((wr).setCell ⟨R,8,u⟩ (D (decide ((es.length:I)<3000)))) R kb w.1.size #[f p 4,B (F ⟨nb,no,u⟩) (rs.length+2) nc,f p 0,B va rs.length vc,D lf,f p bits] c s es ds ms):=C (kK.q.fin HAD.q.1 HAD.q.2.1 HAD.q.2.2 rfl S yQ.q);generalize((wr).setCell ⟨R,8,u⟩ (D (decide ((es.length:I)<3000))))=W5 at HT ⊢;clear h8 rU Bg hx4 hkr zP
  all_goals
   obtain⟨cs',c',g',ev,L,ht,ho,ha,hm,hg⟩:=HT.q;obtain⟨a,q,h4,hx4,hO⟩:=ht.r.JZ;obtain⟨i,z,hi⟩:=G8;have HI:=C hi;obtain⟨W6,hW6⟩:∃W6,W6=(W5.alloc (Y (aY ev) 47)).drew:=⟨_,rfl⟩;have hb6:Below W5.1.size W5 W6:=by rw[hW6];exact(aB (J _ _) _).drew
   have vX:=C hb6;have Rp:=C ht;have HOW:=C ho;have HA:=C (⟨ha,hm,hg⟩:_/\_/\_);have H4:=C h4;have HO6:=C (hO.below hb6 rfl);have HE6:=C (ht.e.keep hb6);have NN:=C (ht.r.s.t.b.keep hb6);have Al:=C hO;have mX:G (Row W6 9 dO (F ⟨W5.1.size,0,u⟩) 1 1 [ev]):=C (by rw[hW6];exact(Row.ev1 W5 ev).below (J _ _).drew rfl);have HLEN:G (es.length<=3000):=C (by rw[xD.q];exact HF.q.2.1);have lU:G ((Value.slice a es.length q).ownBlock≠F R):=C (λe=>by have:=(hO.lt R e).1;omega);have jG:G ((Value.slice a es.length q).ownBlock≠F kb):=C (ht.v _ h4);have kM:G (R+1<=W6.1.size):=C (by have:=(ht.r.s.t.b.keep hb6).2.2;omega);clear HT ht ho ha hm hg h4 hO hi hb6;obtain⟨kd,tt,ss,lv,ob,⟨vt,vk⟩,pd,sa,sn,sc⟩:=ev;have hcE:=Rp.q.e.1;go_wp2_with fail;refine aC 12 [(0,0),(1,0),(2,0),(3,0),(4,0),(5,0),(6,0),(7,2),(8,2),(9,1),(10,1),(11,1),(12,2)] (λ_=>True) (λW'=>W'.cell? ⟨R,4,u⟩=F (B a es.length q)/\Bx W' kb (aY ⟨kd,tt,ss,lv,ob,⟨vt,vk⟩,pd,sa,sn,sc⟩)) av av (trivial) (⟨hx4,Rp.q.e.drew⟩) ?_;refine qC ?_;refine aD rfl rfl (λK hK=>?_);go_simp;have hW7:W6=(W5.alloc (Y #[f p kd,f p tt,f p ss,f p lv,f p ob,f p vt,f p vk,f p pd,B sa sn sc] 47)).drew:=hW6;rw[<-hW7];refine hK _ _ ⟨N,(NN.q.1 4).trans H4.q,HE6.q⟩ ?_;clear hK K hW6 hW7 hcE;refine aD rfl rfl (λK hK=>?_);refine ko _ _ 31 rfl i z 88 underlying31 HI.q.1 HI.q.2.1 HI.q.2.2.1 HI.q.2.2.2.1 HI.q.2.2.2.2 rfl HO6.q (F ⟨W5.1.size,0,u⟩) 1 1 (es.length+1) [⟨kd,tt,ss,lv,ob,⟨vt,vk⟩,pd,sa,sn,sc⟩] rfl mX.q rfl (by have:=HLEN.q;omega) (by have:=HLEN.q;unfold maxLen;omega) kM.q ?_;intro a' c1 w8 aby hg8 anr;have Vp:=NN.q.grown hg8 lU.q;have Iq:=HE6.q.grown hg8 jG.q;refine hK _ _ ⟨N,(Vp.1 4).trans H4.q,Iq⟩ ?_;have hc8:=(Vp.1 4).trans H4.q;have rU:=Vp.2.1 4;have HR8:=C Vp;have Vo:=C aby;have xH:=C hg8;clear hK K Vp Iq aby hg8 anr;refine qC ?_;refine bq rfl rfl rfl (λK hK=>?_);go_simp;refine hK _ _ N ?_;clear hK K;refine aJ ?_;go_wp2_with fail;refine bodyPost_end (results_none rfl _ _ _) rfl ?_;have h1:Same (λi=>i≠R/\(Value.slice a es.length q).ownBlock≠F i) W5 (w8.setCell ⟨R,4,u⟩ (B a' (es.length+1) c1)):=((Z vX.q (λ_ _ h=>h)).tr ⟨xH.q.os,xH.q.tape,xH.q.output,xH.q.size,λi hi hl=>xH.q.block i hl (λe=>hi.2 e.symm)⟩).setTail (λh=>h.1 rfl);have NP:4<cs'.size:=(dI.1 H4.q).1;have hE:=Rp.q.r.s.event H4.q h1 (ev:=⟨kd,tt,ss,lv,ob,⟨vt,vk⟩,pd,sa,sn,sc⟩) (l:=L) (Vo.q.same (A:=λi=>i≠R) ((Same.refl' _).setTail (λh=>h rfl)) (λg hg e=>by have:=(Vo.q.lt g hg).1;omega)) (HR8.q.aZ 4 NP _) HOW.q;refine⟨rfl,Rp.q.s.tr (h1.mono (λi hi _=>⟨by omega,λe=>by have:=(Al.q.lt i e).1;omega⟩)),cs'.setIfInBounds 4 (B a' (es.length+1) c1),es++[⟨kd,tt,ss,lv,ob,⟨vt,vk⟩,pd,sa,sn,sc⟩],ds,ms,g',?_,?_⟩
   .rw[HA.q.1]
    exact⟨hE,by rw[Array.size_setIfInBounds];exact Rp.q.r.z,by rw[jO ah];exact Rp.q.r.k⟩
   .rw[HA.q.1,Yr HF.q HA.q.2.1,HA.q.2.2,<-xD.q]
    have e9:decide ((es.length:I)<3000)=decide (es.length<3000):=decide_eq_decide.2 ah;rw[e9]
    rfl
end
end Yd
namespace Yd
open Array renaming size_setIfInBounds->H
open Option renaming none->y,some->B
open Go Go.RowKit Go.Proofs Tryz
open Below renaming refl->J
open Go renaming bodyPost_end->T,results_none->U
open Go.IntKind renaming i64->u
open Go.Obj renaming cells->F
open Go.Value renaming slice->f,int->p,bool->C,string->V
open Same renaming refl'->I,of_below->O
open Tryz renaming ntmps19->S,func19->Y,prog->Z
open Value renaming slice->N
open Yd renaming hid->a
open _root_ renaming trivial->G,Int->P
attribute [local go_sem] Oper.semAt_some
theorem Yt {c d:Cont}(hf:aI c)(h:Nm c d)(x:aM)(L:List P):x9 {d with D:=d.D++[x],SD:=d.SD++[L]}=(decide (c.D.length<3000) && rA d.nl):=by
 rw[Bool.eq_iff_iff,nX,aU,bf,y8];have e1:(d.D++[x]).length=c.D.length+1:=by rw[dH,h.d];rfl
 constructor
 .rintro⟨q1,_,q2,_⟩
  exact⟨by simp only[e1] at q2;omega,q1⟩
 .rintro⟨q1,q2⟩
  exact⟨q2,by show d.E.length<=_;rw[h.e];exact hf.2.1,by simp only[e1];omega,by show d.M.length<=_;rw[h.m];exact hf.2.2.2.1,by show d.Q.length<=_;rw[h.q];exact hf.2.2.2.2.1,λe he hk=>hf.2.2.2.2.2 e (by rw[<-h.e];exact he) hk⟩
theorem Yu {c d:Cont}(hf:aI c)(h:Nm c d)(x:aN)(L:List P):x9 {d with M:=d.M++[x],SM:=d.SM++[L]}=(decide (c.M.length<3000) && rA d.nl):=by
 rw[Bool.eq_iff_iff,nX,aU,bf,y8];have e1:(d.M++[x]).length=c.M.length+1:=by rw[dH,h.m];rfl
 constructor
 .rintro⟨q1,_,_,q2,_⟩
  exact⟨by simp only[e1] at q2;omega,q1⟩
 .rintro⟨q1,q2⟩
  exact⟨q2,by show d.E.length<=_;rw[h.e];exact hf.2.1,by show d.D.length<=_;rw[h.d];exact hf.2.2.1,by simp only[e1];omega,by show d.Q.length<=_;rw[h.q];exact hf.2.2.2.2.1,λe he hk=>hf.2.2.2.2.2 e (by rw[<-h.e];exact he) hk⟩
theorem Yv {c d:Cont}(hf:aI c)(h:Nm c d)(x:Wa):x9 {d with Q:=d.Q++[x]}=(decide (c.Q.length<3000) && rA d.nl):=by
 rw[Bool.eq_iff_iff,nX,aU,bf,y8];have e1:(d.Q++[x]).length=c.Q.length+1:=by rw[dH,h.q];rfl
 constructor
 .rintro⟨q1,_,_,_,q2,_⟩
  exact⟨by simp only[e1] at q2;omega,q1⟩
 .rintro⟨q1,q2⟩
  exact⟨q2,by show d.E.length<=_;rw[h.e];exact hf.2.1,by show d.D.length<=_;rw[h.d];exact hf.2.2.1,by show d.M.length<=_;rw[h.m];exact hf.2.2.2.1,by simp only[e1];omega,λe he hk=>hf.2.2.2.2.2 e (by rw[<-h.e];exact he) hk⟩
structure Ir (w W:World)(R bl:Nat)(LC:Array Value)(cs:Array Value)(c:Cont)(es:List EvC)(ds:List aM)(ms:List aN)(g:Bool):Prop where
 r:lg W R cs c es ds ms g
 l:Bx W bl LC
 s:Same (λi=>i<R) w W
 n:R<bl
section
variable {w W W':World}{R bl:Nat}{LC cs cs':Array Value}{c c':Cont}{es:List EvC}{ds:List aM}{ms:List aN}{g g':Bool}
theorem Ir.call (h:Ir w W R bl LC cs c es ds ms g)(hS:Same (λi=>i≠R) W W')(hr:lg W' R cs' c' es ds ms g):Ir w W' R bl LC cs' c' es ds ms g:=
 ⟨hr,hS.bx h.l (by have:=h.n;omega),h.s.tr (hS.mono λi hi _=>by omega),h.n⟩
theorem Ir.below (h:Ir w W R bl LC cs c es ds ms g)(hb:Below W.1.size W W'):Ir w W' R bl LC cs c es ds ms g:=
 h.call (O hb (λ_ _ h=>h)) (h.r.below hb)
theorem Ir.flag (h:Ir w W R bl LC cs c es ds ms g){b:Bool}(hb:b=(g' && rA c.nl)):Ir w (W.setCell ⟨R,8,y⟩ (C b)) R bl LC (cs.setIfInBounds 8 (C b)) c es ds ms g':=
 have hS:Same (λi=>i≠R) W (W.setCell ⟨R,8,y⟩ (C b)):=(I W).setTail (λh=>h rfl)
 ⟨h.r.flag hb,hS.bx h.l (by have:=h.n;omega),h.s.tr (hS.mono λi hi _=>by omega),h.n⟩
end
theorem y9 {c:Cont}(h:aI c):rA c.nl=true:=(y8 _).2 h.1
section
variable {R:Nat}{cs:Array Value}{c:Cont}{es:List EvC}{ds:List aM}{ms:List aN}
theorem ajc (l:bB)(s:aP)(w:World)(h:lg w R cs c es ds ms true)(hf:aI c)(hl:vK w R l s)(hok:s.kind=0\/fB s):
  Calls Z 19 #[.pointer (B ⟨R,0,y⟩),jg l] w (Yo R (aO c s) w):=by
 obtain⟨lk,la,nn,nc,lvl,va,vn,vc,lf,bits⟩:=l;obtain⟨k1,k2,k3,k4,k5,k6⟩:=hl.k;simp only at k1 k2 k3 k4 k5 k6;have j4:=a hl;have qK:=a hok;have lT:=a k1;have J5:=a k3;have J6:=a k4;have Rq:=a k5;have HF:=a hf;have gT:=a h;have d9:Hid (R<w.1.size):=a h.s.t.b.2.2;have hb0:=aB (J w.1.size w) (F #[p u lk,f la nn nc,p u lvl,f va vn vc,C lf,p u bits] 30);have HB0:=a hb0;have HR1:=a (h.below hb0);have HX:=a (Bx.new w #[p u lk,f la nn nc,p u lvl,f va vn vc,C lf,p u bits] 30);have HZ:Hid (Ir w (w.alloc (F #[p u lk,f la nn nc,p u lvl,f va vn vc,C lf,p u bits] 30)) R w.1.size #[p u lk,f la nn nc,p u lvl,f va vn vc,C lf,p u bits] cs c es ds ms true):=a ⟨HR1.q,HX.q,O hb0 (λi hi hl=>hl),d9.q⟩;have hkk:lk=0\/lk=7\/lk=8\/lk=9\/(1<=lk/\lk<=6):=by
  rcases hok with e|e
  .left;omega
  .rcases e.2.2 with q|q|q|q|q|q|q|q|q <;> (have:=q.1;omega)
 clear h hf hl hok k1 k2 k3 k4 k5 k6 hb0;rcases hkk with rfl|rfl|rfl|rfl|hkk
 .go_enter Y,S
  go_wp2_with fail;refine T (U rfl _ _ _) rfl ?_;have e:aO c s=c:=by unfold aO;simp only[<-lT.q];rfl
  rw[e];exact⟨rfl,HZ.q.s,cs,es,ds,ms,true,HZ.q.r,by rw[y9 HF.q,(nX c).2 HF.q];rfl⟩
 .have hok:fB s:=qK.q.resolve_left (by have:=lT.q;omega)
  obtain⟨n0,rs,hn,hle⟩:=names7 hok lT.q.symm;have hnn:nn=rs.length+1:=by have:=Rq.q;rw[hn] at this;simpa using this
  obtain⟨nb,no,ha0,hb0,hd0⟩:=j4.q.name (i:=0) (x:=n0) (by rw[hn];rfl);simp only[bM] at ha0 hd0;subst ha0 hnn;obtain⟨ra,hsl,hslA,hrow,hrb⟩:=Ej j4.q.n 1 (by show 1<=rs.length+1;omega);have hra:∀b o,ra=B ⟨b,o,y⟩->b<R:=λb o e=>(let⟨q,e1,e2⟩:=hrb b o e;by injection e1 with e1;subst e1;subst e2;exact hb0)
  rw[hn] at hrow;have mX:Hid (Row w 1 encStr ra rs.length (nc - 1) rs):=a hrow;have Am:=a hra;have uF:=a hle;have hsl1:∀W,(Instr.slice 27 (f (B ⟨nb,no,y⟩) (rs.length+1) nc) (B (p u 1)) y y).run Z W= .ok (f ra rs.length (nc - 1)) W:=hsl;have Tw:∀W,(Instr.sliceAt 27 (f (B ⟨nb,no,y⟩) (rs.length+1) nc) (B (p u 1)) y y).run Z W= .ok (f ra rs.length (nc - 1)) W:=hslA;clear hsl hslA hrow hra hrb hle;have zN:=a hb0;have HN:=a hn;have HD0:=a hd0;obtain⟨v7,h7,oG⟩:=gT.q.s.d;obtain⟨a7,q7,rfl,_,Dc⟩:=oG.shape;have hlen:ds.length<=3000:=by have h:=HF.q.2.2.1;rw[<-gT.q.s.bd,bH] at h;exact h
  have nL:=a hlen;have H7:=a h7;have HOLD:Hid (∀g,(N a7 ds.length q7).ownBlock=B g->g<w.1.size):=a (λg hg=>(oG.lt g hg).2);have Rs:Hid (ds.length=c.D.length):=a (by rw[<-gT.q.s.bd,bH]);have h8:(w.alloc (F #[p u 7,f (B ⟨nb,no,y⟩) (rs.length+1) nc,p u lvl,f va vn vc,C lf,p u bits] 30)).cell? ⟨R,8,y⟩=B (C true):=by have:=(HZ.q.r.s.t.b.1 8).trans HZ.q.r.k;rw[y9 HF.q] at this;exact this
  have rU:=HZ.q.r.s.t.b.2.1 8;have hx7:=(HZ.q.r.s.t.b.1 5).trans h7;have pI:Hid (∀j,j<4->(c.nl j).length<=300):=a (λj hj=>by have:=HF.q.1 j hj;have:=vw j;omega);obtain⟨i,z,hi⟩:=G9;have HI:=a hi;clear hi h7 oG hok hn hd0 hb0;have hcx:=HX.q.1;go_enter Y,S;go_wp2_with fail;have HZ1:=a (HZ.q.flag (b:=decide ((ds.length:P)<3000)) (g':=decide ((ds.length:P)<3000)) (by rw[y9 HF.q,Bool.and_true]));generalize((w.alloc (F #[p u 7,f (B ⟨nb,no,y⟩) (rs.length+1) nc,p u lvl,f va vn vc,C lf,p u bits] 30)).setCell ⟨R,8,y⟩ (C (decide ((ds.length:P)<3000))))=W1 at HZ1 ⊢;obtain⟨g1,hg1⟩:∃g1,g1=decide ((ds.length:P)<3000):=⟨_,rfl⟩;rw[<-hg1] at HZ1;have Vq:=a hg1;have oF:Hid (∀X,Same (λi=>i<R) w X->X.cell? ⟨nb,no,y⟩=B (V ⟨n0.toArray⟩)):=a (λX hX=>hX.cell HD0.q zN.q);have vY:Hid ((cs.setIfInBounds 8 (C g1))[5]?=B (f a7 ds.length q7)):=a (by rw[jO ah];exact H7.q);have HZ2:=a (HZ1.q.below (J _ _).drew);clear h8 rU hx7 hcx hg1 HZ1;go_wp2_with fail;refine aC 23 [(0,0),(1,0),(2,0),(3,0),(4,0),(5,0),(6,0),(7,0),(8,0),(9,0),(10,0),(12,0),(13,0),(14,0),(15,0),(11,2),(16,2),(17,0),(18,2),(19,2),(20,1),(21,1),(22,1),(23,2)] (λ_=>True) (λW'=>Bx W' w.1.size #[p u 7,f (B ⟨nb,no,y⟩) (rs.length+1) nc,p u lvl,f va vn vc,C lf,p u bits]/\W'.cell? ⟨R,5,y⟩=B (f a7 ds.length q7)/\W'.cell? ⟨nb,no,y⟩=B (V ⟨n0.toArray⟩)) av av (trivial) (⟨HZ2.q.l,(HZ2.q.r.s.t.b.1 5).trans vY.q,oF.q _ HZ2.q.s⟩) ?_;refine qC ?_;refine aD rfl rfl (λK hK=>?_);go_simp;refine(FK n0 W1.drew HZ2.q.r (by have h:=pI.q 2 aj;omega)).mono ?_;rintro e w3 ⟨rfl,hS,tT,hr,ho⟩;have HZ3:=a (HZ2.q.call hS hr);have gD:Hid (tT[5]?=_):=a ((ho 5 ah ah).trans vY.q);refine hK _ _ ⟨G,HZ3.q.l,(HZ3.q.r.s.t.b.1 5).trans gD.q,oF.q _ HZ3.q.s⟩ ?_;clear hK K hS hr ho;refine aD rfl rfl (λK hK=>?_);go_simp;refine(ae9 rs ra rs.length _ w3 HZ3.q.r (Same.row HZ3.q.s mX.q Am.q) (λb o e=>by have:=Am.q b o e;omega) (by have:=uF.q;omega) (by have h:=pI.q 0 aj;have:=sW c 2 n0 0;omega)).mono ?_;rintro e w4 ⟨a2,q2,⟨rfl,hS,Rl,hr,ho⟩,how⟩;have Ao:=a (HZ3.q.call hS hr);have gM:Hid (Rl[5]?=_):=a ((ho 5 ah ah).trans gD.q);have HOW:=a (how.mono (B':=R+1) HZ3.q.r.s.t.b.2.2);refine hK _ _ ⟨G,Ao.q.l,(Ao.q.r.s.t.b.1 5).trans gM.q,oF.q _ Ao.q.s⟩ ?_;clear hK K hS hr ho how;obtain⟨o7,Cn⟩:=Ao.q.r.s.d;have FQ:=Cn.2;rw[gM.q] at Cn;obtain rfl:_=o7:=by have h:=Cn.1;injection h
  have mF:=a FQ;clear Cn FQ;refine qC ?_;refine aD rfl rfl (λK hK=>?_);go_simp;obtain⟨x,hx⟩:∃x:aM,x=⟨c.no 2 n0,a2,rs.length,q2⟩:=⟨_,rfl⟩;have lI:=a hx;have hba:=aB (J w4.1.size w4) (F #[p u (c.no 2 n0),f a2 rs.length q2] 74);have gU:=a hba;have nW:=a (Ao.q.below hba);have zQ:=a (mF.q.below hba rfl);have HR1:Hid (Row (w4.alloc (F #[p u (c.no 2 n0),f a2 rs.length q2] 74)) 2 eZ (B ⟨w4.1.size,0,y⟩) 1 1 [x]):=a (by rw[hx];exact Row.or1 w4 ⟨c.no 2 n0,a2,rs.length,q2⟩);have HB1:Hid (R+1<=(w4.alloc (F #[p u (c.no 2 n0),f a2 rs.length q2] 74)).1.size):=a nW.q.r.s.t.b.2.2;refine hK _ _ ⟨G,nW.q.l,(nW.q.r.s.t.b.1 5).trans gM.q,oF.q _ nW.q.s⟩ ?_;clear hK K hba hx;refine aD rfl rfl (λK hK=>?_);refine ko _ _ 32 rfl i z 32 underlying32 HI.q.1 HI.q.2.1 HI.q.2.2.1 HI.q.2.2.2.1 HI.q.2.2.2.2 rfl zQ.q (B ⟨w4.1.size,0,y⟩) 1 1 (ds.length+1) [x] rfl HR1.q rfl (by have:=nL.q;omega) (by have:=nL.q;unfold maxLen;omega) HB1.q ?_;intro a' c' w9 fq dx lH;have zR:=nW.q.r.s.t.b.grown dx (λe=>by have:=(zQ.q.lt R e).1;omega);have rV:Same (λi=>i<R) w w9:=nW.q.s.tr ⟨dx.os,dx.tape,dx.output,dx.size,λi hi hl=>dx.block i hl (λe=>by have:=(zQ.q.lt i e.symm).1;omega)⟩;have jl:=a (oF.q _ rV);refine hK _ _ ⟨G,nW.q.l.grown dx (λe=>by have:=HOLD.q _ e;omega),(zR.1 5).trans gM.q,jl.q⟩ ?_;have tV:=(zR.1 5).trans gM.q;have Ap:=zR.2.1 5;have NQ:=a zR;have qL:=a fq;have iw:=a dx;have FR:=a rV;clear hK K zR fq dx lH rV;refine qC ?_;refine bq rfl rfl rfl (λK hK=>?_);go_simp;refine hK _ _ G ?_;clear hK K;refine aJ ?_;go_wp2_with fail;refine T (U rfl _ _ _) rfl ?_;have h1:Same (λi=>i≠R/\(N a7 ds.length q7).ownBlock≠B i) w4 (w9.setCell ⟨R,5,y⟩ (f a' (ds.length+1) c')):=((O gU.q (λ_ _ h=>h)).tr ⟨iw.q.os,iw.q.tape,iw.q.output,iw.q.size,λi hi hl=>iw.q.block i hl (λe=>hi.2 e.symm)⟩).setTail (λh=>h.1 rfl);have NP:5<Rl.size:=(dI.1 gM.q).1;have hE:=Ao.q.r.s.order gM.q h1 (x:=x) (l:=(Cont.ts (Cont.put c 2 n0) rs).2) (qL.q.same (A:=λi=>i≠R) ((I _).setTail (λh=>h rfl)) (λg hg e=>by have:=(qL.q.lt g hg).1;omega)) (NQ.q.aZ 5 NP _) (by rw[lI.q];exact HOW.q);have fD:aO c s={(Cont.ts (Cont.put c 2 n0) rs).1 with D:=((Cont.ts (Cont.put c 2 n0) rs).1).D++[x.base],SD:=((Cont.ts (Cont.put c 2 n0) rs).1).SD++[(Cont.ts (Cont.put c 2 n0) rs).2]}:=by unfold aO;simp only[<-lT.q,HN.q];rw[lI.q,(Nm.ts rs (c.put 2 n0)).d,(Nm.ts rs (c.put 2 n0)).sd];rfl
  have NR:Nm c (Cont.ts (Cont.put c 2 n0) rs).1:=(Nm.put c 2 n0).trans (Nm.ts rs _);rw[fD];refine⟨rfl,FR.q.tr ((I w9).setTail (λh=>by omega)),_,es,_,ms,g1,⟨hE,?_,?_⟩,?_⟩
  .rw[H];exact Ao.q.r.z
  .rw[jO ah];exact Ao.q.r.k
  .rw[Yt HF.q NR,Vq.q,Rs.q]
   have e9:decide ((c.D.length:P)<3000)=decide (c.D.length<3000):=decide_eq_decide.2 ah;rw[e9]
 .have hok:fB s:=qK.q.resolve_left (by have:=lT.q;omega)
  obtain⟨n0,n1,rs,hn,hle⟩:=names8 hok lT.q.symm;have hnn:nn=rs.length+2:=by have:=Rq.q;rw[hn] at this;simpa using this
  obtain⟨nb,no,ha0,hb0,hd0⟩:=j4.q.name (i:=0) (x:=n0) (by rw[hn];rfl);simp only[bM] at ha0 hd0;subst ha0 hnn;obtain⟨nb',no',ha1,hb1,hd1⟩:=j4.q.name (i:=1) (x:=n1) (by rw[hn];rfl);injection ha1 with q;injection q with q1 q2;subst q1 q2;have hp1:(1:P)<(rs.length:P)+2:=by omega
  have hp2:1<rs.length+2:=by omega
  have hp3:(0:P)<(rs.length:P)+2:=by omega
  obtain⟨ra,hsl,hslA,hrow,hrb⟩:=Ej j4.q.n 2 (by show 2<=rs.length+2;omega);have hra:∀b o,ra=B ⟨b,o,y⟩->b<R:=λb o e=>(let⟨q,e1,e2⟩:=hrb b o e;by injection e1 with e1;subst e1;subst e2;exact hb0)
  rw[hn] at hrow;have mX:Hid (Row w 1 encStr ra rs.length (nc - 2) rs):=a hrow;have Am:=a hra;have uF:=a hle;have hsl1:∀W,(Instr.slice 27 (f (B ⟨nb,no,y⟩) (rs.length+2) nc) (B (p u 2)) y y).run Z W= .ok (f ra rs.length (nc - 2)) W:=hsl;have Tw:∀W,(Instr.sliceAt 27 (f (B ⟨nb,no,y⟩) (rs.length+2) nc) (B (p u 2)) y y).run Z W= .ok (f ra rs.length (nc - 2)) W:=hslA;clear hsl hslA hrow hra hrb hle;have zN:=a hb0;have HN:=a hn;have HD0:=a hd0;have HD1:=a hd1;obtain⟨v7,h7,oG⟩:=gT.q.s.m;obtain⟨a7,q7,rfl,_,Dc⟩:=oG.shape;have hlen:ms.length<=3000:=by have h:=HF.q.2.2.2.1;rw[<-gT.q.s.bm,bH] at h;exact h
  have nL:=a hlen;have H7:=a h7;have HOLD:Hid (∀g,(N a7 ms.length q7).ownBlock=B g->g<w.1.size):=a (λg hg=>(oG.lt g hg).2);have Rs:Hid (ms.length=c.M.length):=a (by rw[<-gT.q.s.bm,bH]);have h8:(w.alloc (F #[p u 8,f (B ⟨nb,no,y⟩) (rs.length+2) nc,p u lvl,f va vn vc,C lf,p u bits] 30)).cell? ⟨R,8,y⟩=B (C true):=by have:=(HZ.q.r.s.t.b.1 8).trans HZ.q.r.k;rw[y9 HF.q] at this;exact this
  have rU:=HZ.q.r.s.t.b.2.1 8;have hx7:=(HZ.q.r.s.t.b.1 6).trans h7;have pI:Hid (∀j,j<4->(c.nl j).length<=300):=a (λj hj=>by have:=HF.q.1 j hj;have:=vw j;omega);obtain⟨i,z,hi⟩:=He;have HI:=a hi;clear hi h7 oG hok hn hd0 hb0 hb1 hd1;have hcx:=HX.q.1;go_enter Y,S;go_wp2_with fail;have HZ1:=a (HZ.q.flag (b:=decide ((ms.length:P)<3000)) (g':=decide ((ms.length:P)<3000)) (by rw[y9 HF.q,Bool.and_true]));generalize((w.alloc (F #[p u 8,f (B ⟨nb,no,y⟩) (rs.length+2) nc,p u lvl,f va vn vc,C lf,p u bits] 30)).setCell ⟨R,8,y⟩ (C (decide ((ms.length:P)<3000))))=W1 at HZ1 ⊢;obtain⟨g1,hg1⟩:∃g1,g1=decide ((ms.length:P)<3000):=⟨_,rfl⟩;rw[<-hg1] at HZ1;have Vq:=a hg1;have oF:Hid (∀X,Same (λi=>i<R) w X->X.cell? ⟨nb,no+1,y⟩=B (V ⟨n1.toArray⟩)/\X.cell? ⟨nb,no,y⟩=B (V ⟨n0.toArray⟩)):=a (λX hX=>⟨hX.cell HD1.q zN.q,hX.cell HD0.q zN.q⟩);have vY:Hid ((cs.setIfInBounds 8 (C g1))[6]?=B (f a7 ms.length q7)):=a (by rw[jO ah];exact H7.q);have HZ2:=a (HZ1.q.below (J _ _).drew);clear h8 rU hx7 hcx hg1 HZ1;go_wp2_with fail;refine aC 31 [(0,0),(1,0),(2,0),(3,0),(4,0),(5,0),(6,0),(7,0),(8,0),(9,0),(10,0),(12,0),(13,0),(14,0),(15,0),(16,0),(18,0),(19,0),(20,0),(21,0),(22,0),(23,0),(11,2),(17,2),(24,2),(25,0),(26,2),(27,2),(28,1),(29,1),(30,1),(31,2)] (λ_=>True) (λW'=>Bx W' w.1.size #[p u 8,f (B ⟨nb,no,y⟩) (rs.length+2) nc,p u lvl,f va vn vc,C lf,p u bits]/\W'.cell? ⟨R,6,y⟩=B (f a7 ms.length q7)/\W'.cell? ⟨nb,no+1,y⟩=B (V ⟨n1.toArray⟩)/\W'.cell? ⟨nb,no,y⟩=B (V ⟨n0.toArray⟩)) av av (trivial) (⟨HZ2.q.l,(HZ2.q.r.s.t.b.1 6).trans vY.q,oF.q _ HZ2.q.s⟩) ?_;refine qC ?_;refine aD rfl rfl (λK hK=>?_);go_simp;refine(Vk n0 W1.drew HZ2.q.r (by have h:=pI.q 3 aj;omega)).mono ?_;rintro e w3 ⟨rfl,hS,tT,hr,ho⟩;have HZ3:=a (HZ2.q.call hS hr);have gD:Hid (tT[6]?=_):=a ((ho 6 ah ah).trans vY.q);refine hK _ _ ⟨G,HZ3.q.l,(HZ3.q.r.s.t.b.1 6).trans gD.q,oF.q _ HZ3.q.s⟩ ?_;clear hK K hS hr ho;refine aD rfl rfl (λK hK=>?_);go_simp;refine(FK n1 w3 HZ3.q.r (by have h:=pI.q 2 aj;have:=sW c 3 n0 2;omega)).mono ?_;rintro e w4 ⟨rfl,hS,Rl,hr,ho⟩;have Ao:=a (HZ3.q.call hS hr);have gM:Hid (Rl[6]?=_):=a ((ho 6 ah ah).trans gD.q);refine hK _ _ ⟨G,Ao.q.l,(Ao.q.r.s.t.b.1 6).trans gM.q,oF.q _ Ao.q.s⟩ ?_;clear hK K hS hr ho;refine aD rfl rfl (λK hK=>?_);go_simp;refine(ae9 rs ra rs.length _ w4 Ao.q.r (Same.row Ao.q.s mX.q Am.q) (λb o e=>by have:=Am.q b o e;omega) (by have:=uF.q;omega) (by have h:=pI.q 0 aj;have:=sW c 3 n0 0;have:=sW (c.put 3 n0) 2 n1 0;omega)).mono ?_;rintro e w5 ⟨a2,q2,⟨rfl,hS,Rn,hr,ho⟩,how⟩;have Ak:=a (Ao.q.call hS hr);have jb:Hid (Rn[6]?=_):=a ((ho 6 ah ah).trans gM.q);have HOW:=a (how.mono (B':=R+1) Ao.q.r.s.t.b.2.2);refine hK _ _ ⟨G,Ak.q.l,(Ak.q.r.s.t.b.1 6).trans jb.q,oF.q _ Ak.q.s⟩ ?_;clear hK K hS hr ho how;obtain⟨o7,Cn⟩:=Ak.q.r.s.m;have FQ:=Cn.2;rw[jb.q] at Cn;obtain rfl:_=o7:=by have h:=Cn.1;injection h
  have mF:=a FQ;clear Cn FQ;refine qC ?_;refine aD rfl rfl (λK hK=>?_);go_simp;obtain⟨x,hx⟩:∃x:aN,x=⟨c.no 3 n0,(c.put 3 n0).no 2 n1,lf,a2,rs.length,q2⟩:=⟨_,rfl⟩;have lI:=a hx;have hba:=aB (J w5.1.size w5) (F #[p u (c.no 3 n0),p u ((c.put 3 n0).no 2 n1),C lf,f a2 rs.length q2] 77);have gU:=a hba;have nW:=a (Ak.q.below hba);have zQ:=a (mF.q.below hba rfl);have HR1:Hid (Row (w5.alloc (F #[p u (c.no 3 n0),p u ((c.put 3 n0).no 2 n1),C lf,f a2 rs.length q2] 77)) 4 eP (B ⟨w5.1.size,0,y⟩) 1 1 [x]):=a (by rw[hx];exact Row.ma1 w5 ⟨c.no 3 n0,(c.put 3 n0).no 2 n1,lf,a2,rs.length,q2⟩);have HB1:Hid (R+1<=(w5.alloc (F #[p u (c.no 3 n0),p u ((c.put 3 n0).no 2 n1),C lf,f a2 rs.length q2] 77)).1.size):=a nW.q.r.s.t.b.2.2;refine hK _ _ ⟨G,nW.q.l,(nW.q.r.s.t.b.1 6).trans jb.q,oF.q _ nW.q.s⟩ ?_;clear hK K hba hx;refine aD rfl rfl (λK hK=>?_);refine ko _ _ 33 rfl i z 48 underlying33 HI.q.1 HI.q.2.1 HI.q.2.2.1 HI.q.2.2.2.1 HI.q.2.2.2.2 rfl zQ.q (B ⟨w5.1.size,0,y⟩) 1 1 (ms.length+1) [x] rfl HR1.q rfl (by have:=nL.q;omega) (by have:=nL.q;unfold maxLen;omega) HB1.q ?_;intro a' c' w9 fq dx lH;have zR:=nW.q.r.s.t.b.grown dx (λe=>by have:=(zQ.q.lt R e).1;omega);have rV:Same (λi=>i<R) w w9:=nW.q.s.tr ⟨dx.os,dx.tape,dx.output,dx.size,λi hi hl=>dx.block i hl (λe=>by have:=(zQ.q.lt i e.symm).1;omega)⟩;have jl:=a (oF.q _ rV);refine hK _ _ ⟨G,nW.q.l.grown dx (λe=>by have:=HOLD.q _ e;omega),(zR.1 6).trans jb.q,jl.q⟩ ?_;have tV:=(zR.1 6).trans jb.q;have Ap:=zR.2.1 6;have NQ:=a zR;have qL:=a fq;have iw:=a dx;have FR:=a rV;clear hK K zR fq dx lH rV;refine qC ?_;refine bq rfl rfl rfl (λK hK=>?_);go_simp;refine hK _ _ G ?_;clear hK K;refine aJ ?_;go_wp2_with fail;refine T (U rfl _ _ _) rfl ?_;have h1:Same (λi=>i≠R/\(N a7 ms.length q7).ownBlock≠B i) w5 (w9.setCell ⟨R,6,y⟩ (f a' (ms.length+1) c')):=((O gU.q (λ_ _ h=>h)).tr ⟨iw.q.os,iw.q.tape,iw.q.output,iw.q.size,λi hi hl=>iw.q.block i hl (λe=>hi.2 e.symm)⟩).setTail (λh=>h.1 rfl);have NP:6<Rn.size:=(dI.1 jb.q).1;have hE:=Ak.q.r.s.NS jb.q h1 (x:=x) (l:=(Cont.ts (Cont.put (Cont.put c 3 n0) 2 n1) rs).2) (qL.q.same (A:=λi=>i≠R) ((I _).setTail (λh=>h rfl)) (λg hg e=>by have:=(qL.q.lt g hg).1;omega)) (NQ.q.aZ 6 NP _) (by rw[lI.q];exact HOW.q);have fD:aO c s={(Cont.ts (Cont.put (Cont.put c 3 n0) 2 n1) rs).1 with M:=((Cont.ts (Cont.put (Cont.put c 3 n0) 2 n1) rs).1).M++[x.base],SM:=((Cont.ts (Cont.put (Cont.put c 3 n0) 2 n1) rs).1).SM++[(Cont.ts (Cont.put (Cont.put c 3 n0) 2 n1) rs).2]}:=by unfold aO;simp only[<-lT.q,HN.q,<-J5.q];rw[lI.q,(Nm.ts rs ((c.put 3 n0).put 2 n1)).m,(Nm.ts rs ((c.put 3 n0).put 2 n1)).sm];rfl
  have NR:Nm c (Cont.ts (Cont.put (Cont.put c 3 n0) 2 n1) rs).1:=((Nm.put c 3 n0).trans (Nm.put _ 2 n1)).trans (Nm.ts rs _);rw[fD];refine⟨rfl,FR.q.tr ((I w9).setTail (λh=>by omega)),_,es,ds,_,g1,⟨hE,?_,?_⟩,?_⟩
  .rw[H];exact Ak.q.r.z
  .rw[jO ah];exact Ak.q.r.k
  .rw[Yu HF.q NR,Vq.q,Rs.q]
   have e9:decide ((c.M.length:P)<3000)=decide (c.M.length<3000):=decide_eq_decide.2 ah;rw[e9]
 .have hok:fB s:=qK.q.resolve_left (by have:=lT.q;omega)
  obtain⟨n0,hn⟩:=FM hok (by have:=lT.q;omega);have hnn:nn=1:=by have:=Rq.q;rw[hn] at this;simpa using this
  obtain⟨nb,no,ha0,hb0,hd0⟩:=j4.q.name (i:=0) (x:=n0) (by rw[hn];rfl);simp only[bM] at ha0 hd0;subst ha0 hnn;have zN:=a hb0;have HN:=a hn;have HD0:=a hd0;obtain⟨v7,h7,oG⟩:=gT.q.s.q;obtain⟨a7,q7,rfl,_,Dc⟩:=oG.shape;have hlen:c.Q.length<=3000:=by have h:=HF.q.2.2.2.2.1;exact h
  have nL:=a hlen;have H7:=a h7;have HOLD:Hid (∀g,(N a7 c.Q.length q7).ownBlock=B g->g<w.1.size):=a (λg hg=>(oG.lt g hg).2);have Rs:Hid (c.Q.length=c.Q.length):=a (rfl);have h8:(w.alloc (F #[p u 9,f (B ⟨nb,no,y⟩) (1) nc,p u lvl,f va vn vc,C lf,p u bits] 30)).cell? ⟨R,8,y⟩=B (C true):=by have:=(HZ.q.r.s.t.b.1 8).trans HZ.q.r.k;rw[y9 HF.q] at this;exact this
  have rU:=HZ.q.r.s.t.b.2.1 8;have hx7:=(HZ.q.r.s.t.b.1 7).trans h7;have pI:Hid (∀j,j<4->(c.nl j).length<=300):=a (λj hj=>by have:=HF.q.1 j hj;have:=vw j;omega);obtain⟨i,z,hi⟩:=Hf;have HI:=a hi;clear hi h7 oG hok hn hd0 hb0;have hcx:=HX.q.1;go_enter Y,S;go_wp2_with fail;have HZ1:=a (HZ.q.flag (b:=decide ((c.Q.length:P)<3000)) (g':=decide ((c.Q.length:P)<3000)) (by rw[y9 HF.q,Bool.and_true]));generalize((w.alloc (F #[p u 9,f (B ⟨nb,no,y⟩) (1) nc,p u lvl,f va vn vc,C lf,p u bits] 30)).setCell ⟨R,8,y⟩ (C (decide ((c.Q.length:P)<3000))))=W1 at HZ1 ⊢;obtain⟨g1,hg1⟩:∃g1,g1=decide ((c.Q.length:P)<3000):=⟨_,rfl⟩;rw[<-hg1] at HZ1;have Vq:=a hg1;have oF:Hid (∀X,Same (λi=>i<R) w X->X.cell? ⟨nb,no,y⟩=B (V ⟨n0.toArray⟩)):=a (λX hX=>hX.cell HD0.q zN.q);have vY:Hid ((cs.setIfInBounds 8 (C g1))[7]?=B (f a7 c.Q.length q7)):=a (by rw[jO ah];exact H7.q);have HZ2:=a (HZ1.q.below (J _ _).drew);clear h8 rU hx7 hcx hg1 HZ1;go_wp2_with fail;refine aC 20 [(0,0),(1,0),(2,0),(3,0),(4,0),(5,0),(6,0),(7,0),(8,0),(9,0),(10,0),(12,0),(13,0),(11,2),(14,0),(15,2),(16,2),(17,1),(18,1),(19,1),(20,2)] (λ_=>True) (λW'=>Bx W' w.1.size #[p u 9,f (B ⟨nb,no,y⟩) (1) nc,p u lvl,f va vn vc,C lf,p u bits]/\W'.cell? ⟨R,7,y⟩=B (f a7 c.Q.length q7)/\W'.cell? ⟨nb,no,y⟩=B (V ⟨n0.toArray⟩)) av av (trivial) (⟨HZ2.q.l,(HZ2.q.r.s.t.b.1 7).trans vY.q,oF.q _ HZ2.q.s⟩) ?_;refine qC ?_;refine aD rfl rfl (λK hK=>?_);go_simp;refine(Vj n0 W1.drew HZ2.q.r (by have h:=pI.q 1 aj;omega)).mono ?_;rintro e w3 ⟨rfl,hS,tT,hr,ho⟩;have HZ3:=a (HZ2.q.call hS hr);have gD:Hid (tT[7]?=_):=a ((ho 7 ah ah).trans vY.q);refine hK _ _ ⟨G,HZ3.q.l,(HZ3.q.r.s.t.b.1 7).trans gD.q,oF.q _ HZ3.q.s⟩ ?_;clear hK K hS hr ho;obtain⟨o7,Cn⟩:=HZ3.q.r.s.q;have FQ:=Cn.2;rw[gD.q] at Cn;obtain rfl:_=o7:=by have h:=Cn.1;injection h
  have mF:=a FQ;clear Cn FQ;refine qC ?_;refine aD rfl rfl (λK hK=>?_);go_simp;obtain⟨x,hx⟩:∃x:Wa,x=⟨c.no 1 n0,bits⟩:=⟨_,rfl⟩;have lI:=a hx;have hba:=aB (J w3.1.size w3) (F #[p u (c.no 1 n0),p u bits] 79);have gU:=a hba;have nW:=a (HZ3.q.below hba);have zQ:=a (mF.q.below hba rfl);have HR1:Hid (Row (w3.alloc (F #[p u (c.no 1 n0),p u bits] 79)) 2 fQ (B ⟨w3.1.size,0,y⟩) 1 1 [x]):=a (by rw[hx];exact Row.wa1 w3 ⟨c.no 1 n0,bits⟩);have HB1:Hid (R+1<=(w3.alloc (F #[p u (c.no 1 n0),p u bits] 79)).1.size):=a nW.q.r.s.t.b.2.2;refine hK _ _ ⟨G,nW.q.l,(nW.q.r.s.t.b.1 7).trans gD.q,oF.q _ nW.q.s⟩ ?_;clear hK K hba hx;refine aD rfl rfl (λK hK=>?_);refine ko _ _ 34 rfl i z 16 underlying34 HI.q.1 HI.q.2.1 HI.q.2.2.1 HI.q.2.2.2.1 HI.q.2.2.2.2 rfl zQ.q (B ⟨w3.1.size,0,y⟩) 1 1 (c.Q.length+1) [x] rfl HR1.q rfl (by have:=nL.q;omega) (by have:=nL.q;unfold maxLen;omega) HB1.q ?_;intro a' c' w9 fq dx lH;have zR:=nW.q.r.s.t.b.grown dx (λe=>by have:=(zQ.q.lt R e).1;omega);have rV:Same (λi=>i<R) w w9:=nW.q.s.tr ⟨dx.os,dx.tape,dx.output,dx.size,λi hi hl=>dx.block i hl (λe=>by have:=(zQ.q.lt i e.symm).1;omega)⟩;have jl:=a (oF.q _ rV);refine hK _ _ ⟨G,nW.q.l.grown dx (λe=>by have:=HOLD.q _ e;omega),(zR.1 7).trans gD.q,jl.q⟩ ?_;have tV:=(zR.1 7).trans gD.q;have Ap:=zR.2.1 7;have NQ:=a zR;have qL:=a fq;have iw:=a dx;have FR:=a rV;clear hK K zR fq dx lH rV;refine qC ?_;refine bq rfl rfl rfl (λK hK=>?_);go_simp;refine hK _ _ G ?_;clear hK K;refine aJ ?_;go_wp2_with fail;refine T (U rfl _ _ _) rfl ?_;have h1:Same (λi=>i≠R/\(N a7 c.Q.length q7).ownBlock≠B i) w3 (w9.setCell ⟨R,7,y⟩ (f a' (c.Q.length+1) c')):=((O gU.q (λ_ _ h=>h)).tr ⟨iw.q.os,iw.q.tape,iw.q.output,iw.q.size,λi hi hl=>iw.q.block i hl (λe=>hi.2 e.symm)⟩).setTail (λh=>h.1 rfl);have NP:7<tT.size:=(dI.1 gD.q).1;have hE:=HZ3.q.r.s.want gD.q h1 (x:=x) (qL.q.same (A:=λi=>i≠R) ((I _).setTail (λh=>h rfl)) (λg hg e=>by have:=(qL.q.lt g hg).1;omega)) (NQ.q.aZ 7 NP _);have fD:aO c s={(Cont.put c 1 n0) with Q:=((Cont.put c 1 n0)).Q++[x]}:=by unfold aO;simp only[<-lT.q,HN.q,<-J6.q];rw[lI.q];rfl
  have NR:Nm c (Cont.put c 1 n0):=Nm.put c 1 n0;rw[fD];refine⟨rfl,FR.q.tr ((I w9).setTail (λh=>by omega)),_,es,ds,ms,g1,⟨hE,?_,?_⟩,?_⟩
  .rw[H];exact HZ3.q.r.z
  .rw[jO ah];exact HZ3.q.r.k
  .rw[Yv HF.q NR,Vq.q]
   have e9:decide ((c.Q.length:P)<3000)=decide (c.Q.length<3000):=decide_eq_decide.2 ah;rw[e9]
 .have h0:(lk==0)=false:=aR.2 ah
  have h7:(lk==7)=false:=aR.2 ah;have h8:(lk==8)=false:=aR.2 ah;have h9:(lk==9)=false:=aR.2 ah;have hcx:=HX.q.1;have hL:vK (w.alloc (F #[p u lk,f la nn nc,p u lvl,f va vn vc,C lf,p u bits] 30)) R ⟨lk,la,nn,nc,lvl,va,vn,vc,lf,bits⟩ s:=⟨j4.q.k,j4.q.n.below HB0.q rfl,j4.q.v.below HB0.q rfl,j4.q.na,j4.q.va⟩;have HE:=a (ac5 ⟨lk,la,nn,nc,lvl,va,vn,vc,lf,bits⟩ s _ HR1.q HF.q hL (by rw[<-lT.q];exact hkk) (qK.q.resolve_left (by have:=lT.q;omega)));clear hL hkk;go_enter Y,S;go_wp2_with fail;refine HE.q.mono ?_;rintro e w1 ⟨rfl,hS,hq⟩;have HS:=a hS;have HQ:=a hq;clear hS hq hcx;go_wp2_with fail;refine T (U rfl _ _ _) rfl ?_;exact⟨rfl,HZ.q.s.tr HS.q,HQ.q⟩
end
end Yd
