import Derived.Test.YtddiadcpokbpoaaGreatDoorLD5
import Derived.Test.YtddiadcpokbpoaaGreatDoorLOf2
import Derived.Test.YtddiadcpokbpoaaGreatDoorLRRx
set_option linter.all false
set_option maxRecDepth 200000
set_option maxHeartbeats 8000000
namespace Yd
open Option renaming none->g,some->n
open Go Go.RowKit Go.Proofs Tryz
open Go.Value renaming slice->j
open Yd renaming hid->l
attribute [local go_sem] Oper.semAt_some
def Ut (h:HC)(c:Cont)(X:World):Prop:=Calls Tryz.prog 20 #[gH h] X (λe Y=>Below X.1.size X Y/\
 ∃h' es ds ms,∃scan:EvC->List Sn,∃dn:aM->List Int,∃mn:aN->List Int,e= .returned (gH h')/\iY Y X.1.size h' (gJ c) es ds ms scan dn mn)
@[reducible] def Gf:Array Value:=#[j g 0 0,j g 0 0,j g 0 0,j g 0 0,j g 0 0,j g 0 0,j g 0 0,j g 0 0,.bool true]
theorem lg.start (W:World):lg (W.alloc (.cells Gf 68)) W.1.size Gf jh [] [] [] true:=by
 have nil:∀{α:Type}{enc:α->List Value}{k:Nat}{T:TypeId},Own (W.alloc (.cells Gf 68)) (W.1.size+1) T k enc (j g 0 0) []:=Own.fJ _ _ _ _ _;refine⟨⟨⟨Bx.new W _ _,λk hk=>⟨j g 0 0,?_,nil⟩,trivial⟩,⟨_,rfl,nil⟩,⟨_,rfl,nil⟩,⟨_,rfl,nil⟩,⟨_,rfl,nil⟩,rfl,rfl,rfl,⟨rfl,λi x L hx=>(by cases hx)⟩,⟨rfl,λi x L hx=>(by cases hx)⟩,⟨rfl,λi x L hx=>(by cases hx)⟩⟩,rfl,rfl⟩;rcases(by omega:k=0\/k=1\/k=2\/k=3) with rfl|rfl|rfl|rfl <;> rfl
theorem Ml {X:World}{b:Nat}(hb:Bx X b (aH gQ)):Bx ((((((((X.setCell ⟨b,0,g⟩ (j g 0 0)).setCell ⟨b,1,g⟩ (j g 0 0)).setCell ⟨b,2,g⟩ (j g 0 0)).setCell ⟨b,3,g⟩ (j g 0 0)).setCell ⟨b,4,g⟩ (j g 0 0)).setCell ⟨b,5,g⟩ (j g 0 0)).setCell ⟨b,6,g⟩ (j g 0 0)).setCell ⟨b,7,g⟩ (j g 0 0)) b (aH gQ)/\Same (λi=>i≠b) X ((((((((X.setCell ⟨b,0,g⟩ (j g 0 0)).setCell ⟨b,1,g⟩ (j g 0 0)).setCell ⟨b,2,g⟩ (j g 0 0)).setCell ⟨b,3,g⟩ (j g 0 0)).setCell ⟨b,4,g⟩ (j g 0 0)).setCell ⟨b,5,g⟩ (j g 0 0)).setCell ⟨b,6,g⟩ (j g 0 0)).setCell ⟨b,7,g⟩ (j g 0 0)):=
 ⟨oC (h':=gQ) hb,j5 (h':=gQ)⟩
theorem an0 (Pj:∀(X:World)(B:Nat)(h:HC)(c:Cont)(es:List EvC)(ds:List aM)(ms:List aN)(scan:EvC->List Sn)(dn:aM->List Int)(mn:aN->List Int),iY X B h c es ds ms scan dn mn->iU c->aI c->Ut h c X)
  (a:Option Addr) (c:Nat) (aW:List bB) (ls:List aP) (B0:Nat) (w:World) (hr:Row w 6 mh a aW.length c aW) (hl:qH w B0 aW ls) (hb:∀s∈ls,s.names.length<=1000/\s.aF.length<=1000):
  Calls Tryz.prog 8 #[j a aW.length c] w (ab2 w ls):=by
 have hnn:aW.length<=140737488355328:=hr.le;have HR:=l hr;have HL:=l hl;have WZ:=l hb;have HLEN:=l hl.1;have uE:=l Pj;clear hr hl hb Pj;have HB1:=l (aB (aB (Below.refl w.1.size w) (.cells (aH gQ) 36)) (.cells Gf 68));have bP:=l ((Bx.new w (aH gQ) 36).alloc (.cells Gf 68));have hrg:=lg.start (w.alloc (.cells (aH gQ) 36));rw[World.size_alloc] at hrg;have an1:=l hrg;clear hrg;go_enter Tryz.func8,Tryz.ntmps8;go_wp2_with fail
 go_loopw [12] (λi X=>∃(k:Nat)(cs:Array Value)(cc:Cont)(es:List EvC)(ds:List aM)(ms:List aN),k<=aW.length/\i= .int .i64 k/\Below w.1.size w X/\Bx X w.1.size (aH gQ)/\lg X (w.1.size+1) cs cc es ds ms true/\aI cc/\iU cc/\uO jh 0 ls=uO cc k (ls.drop k)) (λi _=>aW.length - (RowKit.intOf i).toNat)
 case atStart=>exact⟨0,_,jh,[],[],[],aV _,rfl,HB1.q,bP.q,an1.q,Gg,iU.zero,by rw[List.drop_zero]⟩
 case round=>
  obtain⟨k,cs,cc,es,ds,ms,hk,rfl,hb,hbx,hrg,hf,hsh,hof⟩:=hrel;have HB:=l hb;have iT:=l hbx;have Fq:=l hrg;have HF:=l hf;have Gh:=l hsh;have kM:Hid (w.1.size+1<wr.1.size):=l hrg.s.t.b.2.2;by_cases hlt:k<aW.length
  .obtain⟨x,b,o,hx,rfl,hc⟩:=HR.q.at_ hlt
   have h0:=bn hb rfl (hc 0 _ rfl);have h1:=bn hb rfl (hc 1 _ rfl);have h2:=bn hb rfl (hc 2 _ rfl);have h3:=bn hb rfl (hc 3 _ rfl);have h4:=bn hb rfl (hc 4 _ rfl);have h5:=bn hb rfl (hc 5 _ rfl);simp only[bM] at h0;obtain⟨s,hs,hat⟩:=HL.q.2 k x hx;have hbn:=WZ.q s (bQ hs);have hdr:ls.drop k=s::ls.drop (k+1):=by
    obtain⟨hk',e⟩:=bG.1 hs;rw[<-e];exact nN hk'
   rw[hdr] at hof;have zZ:Hid (uO jh 0 ls=if nS s=true then(if x9 (aO cc s)=true then uO (aO cc s) (k+1) (ls.drop (k+1)) else .error (k,6)) else .error (k,220)):=l hof;have hba:=aB (Below.refl wr.1.size wr) (.cells (kg x) 30);have gU:=l hba;have Kz:=l (Pk (hat.below (HB.q.trans (hba.mono hb.size))) hbn.1 hbn.2);have fD:Hid (∀W,Below wr.1.size wr W->nS s=true->Calls Tryz.prog 19 #[.pointer (n ⟨w.1.size+1,0,g⟩),jg x] W (Yo (w.1.size+1) (aO cc s) W)):=l (λW hW hok=>
    ajc x s W (Fq.q.below hW) HF.q ((hat.lnR hbn.1 hbn.2 (Nat.le_succ w.1.size)).below (HB.q.bO hW)) (Bv hok))
   obtain⟨ok,hok⟩:∃ok,ok=nS s:=⟨_,rfl⟩;rw[<-hok] at Kz zZ fD;have hcx:=hbx.1;have hfx:=hbx.2.1;have hlx:=hbx.2.2;have HLM:Hid (ok=true->s.kind=0\/fB s):=l (λe=>Bv (by rw[<-hok];exact e));clear hb hbx hrg hf hsh hof hdr hbn hat hs hx hc hok hba
   cases ok
   .go_wp2_with fail
    refine Kz.q.mono ?_;rintro e w1 ⟨rfl,hb1⟩;have xA:=l (gU.q.bO hb1);have bL:=l (iT.q.keep xA.q);clear hcx hfx hlx hb1;have hcx:=bL.q.1;have hfx:=bL.q.2.1;have hlx:=bL.q.2.2;go_wp2_with fail;obtain⟨hz1,hz2⟩:=Ml bL.q;revert hz1 hz2;generalize((((((((w1.setCell ⟨w.1.size,0,g⟩ (j g 0 0)).setCell ⟨w.1.size,1,g⟩ (j g 0 0)).setCell ⟨w.1.size,2,g⟩ (j g 0 0)).setCell ⟨w.1.size,3,g⟩ (j g 0 0)).setCell ⟨w.1.size,4,g⟩ (j g 0 0)).setCell ⟨w.1.size,5,g⟩ (j g 0 0)).setCell ⟨w.1.size,6,g⟩ (j g 0 0)).setCell ⟨w.1.size,7,g⟩ (j g 0 0))=Z;intro hz1 hz2;have hcz:=hz1.1;have iO:=HB.q.trans (xA.q.mono HB.q.size);refine bodyPost_ret (v:= .tuple #[gH gQ,.int .i64 (k:Int),.int .i64 220]) (by simp[results,results8,go_sem,hcz]) rfl ⟨hz2.below iO (λi hi=>by omega) iO.size,?_⟩;rw[zZ.q,ak aj]
   .clear hcx hfx hlx
    go_wp2_with fail;refine Kz.q.mono ?_;rintro e w1 ⟨rfl,hb1⟩;have xA:=l (gU.q.bO hb1);have hcl:=((Bx.new wr (kg x) 30).keep hb1).1;clear hb1;go_wp2_with fail;refine(fD.q _ xA.q (by trivial)).mono ?_;rintro e w2 ⟨rfl,hS,cs2,es2,KA,KC,g2,hr2,hg2⟩;have HR2:=l hr2;have HG2:=l hg2;have bL:=l (hS.bx (iT.q.keep xA.q) ah);have HB2:Hid (Below w.1.size w w2):=l (hS.below (HB.q.trans (xA.q.mono HB.q.size)) (λi hi=>by omega) (HB.q.trans (xA.q.mono HB.q.size)).size);obtain⟨f,Xa⟩:∃f,f=x9 (aO cc s):=⟨_,rfl⟩;have h8:w2.cell? ⟨w.1.size+1,8,g⟩=n (.bool f):=by rw[Xa,<-hg2];exact(hr2.s.t.b.1 8).trans hr2.k
    have JR:=l Xa;clear hS hr2 hg2 hcl Xa
    cases f
    .have hcx:=bL.q.1;have hfx:=bL.q.2.1;have hlx:=bL.q.2.2
     go_wp2_with fail;obtain⟨hz1,hz2⟩:=Ml bL.q;revert hz1 hz2;generalize((((((((w2.setCell ⟨w.1.size,0,g⟩ (j g 0 0)).setCell ⟨w.1.size,1,g⟩ (j g 0 0)).setCell ⟨w.1.size,2,g⟩ (j g 0 0)).setCell ⟨w.1.size,3,g⟩ (j g 0 0)).setCell ⟨w.1.size,4,g⟩ (j g 0 0)).setCell ⟨w.1.size,5,g⟩ (j g 0 0)).setCell ⟨w.1.size,6,g⟩ (j g 0 0)).setCell ⟨w.1.size,7,g⟩ (j g 0 0))=Z;intro hz1 hz2;have hcz:=hz1.1;refine bodyPost_ret (v:= .tuple #[gH gQ,.int .i64 (k:Int),.int .i64 6]) (by simp[results,results8,go_sem,hcz]) rfl ⟨hz2.below HB2.q (λi hi=>by omega) HB2.q.size,?_⟩;rw[zZ.q,ay trivial,<-JR.q,ak aj]
    .have HGT:Hid (g2=true):=l (by have:=HG2.q;rw[<-JR.q] at this;cases g2 <;> simp_all)
     have Gi:Hid (aI (aO cc s)):=l ((nX _).1 JR.q.symm);go_wp2_with fail;go_roundw
     case rel=>exact⟨k+1,cs2,aO cc s,es2,KA,KC,by omega,by go_num,HB2.q,bL.q,by have:=HR2.q;rw[HGT.q] at this;exact this,Gi.q,Gh.q.all [s] (λy hy=>by rw[bF.1 hy];exact HLM.q (by trivial)) Gi.q,by rw[zZ.q,ay trivial,<-JR.q,ay rfl]⟩
     case measure=>simp[RowKit.intOf];omega
  .obtain rfl:k=aW.length:=by omega
   rw[HLEN.q,List.drop_length] at hof;have Gj:uO jh 0 ls= .ok cc:=hof;obtain⟨h',scan,dn,mn,c8,c4,c5,c6,c7,ho⟩:=hrg.s.his (hsh.Mq hf) (Same.refl' wr);have hR:=hrg.s.t.b;have hq0:wr.cell? ⟨w.1.size+1,0,g⟩=n h'.t.v:=(hR.1 0).trans (c8 0 ah);have hq1:wr.cell? ⟨w.1.size+1,1,g⟩=n h'.s.v:=(hR.1 1).trans (c8 1 ah);have hq2:wr.cell? ⟨w.1.size+1,2,g⟩=n h'.o.v:=(hR.1 2).trans (c8 2 ah);have hq3:wr.cell? ⟨w.1.size+1,3,g⟩=n h'.p.v:=(hR.1 3).trans (c8 3 ah);have hq4:wr.cell? ⟨w.1.size+1,4,g⟩=n h'.e.v:=(hR.1 4).trans c4;have Sq:wr.cell? ⟨w.1.size+1,5,g⟩=n h'.d.v:=(hR.1 5).trans c5;have Sr:wr.cell? ⟨w.1.size+1,6,g⟩=n h'.m.v:=(hR.1 6).trans c6;have Sv:wr.cell? ⟨w.1.size+1,7,g⟩=n h'.w.v:=(hR.1 7).trans c7;have ze:=l (uE.q wr (w.1.size+1+1) h' cc es ds ms scan dn mn ho hsh hf);have zZ:=l Gj;clear hof Gj c8 c4 c5 c6 c7 ho hR hb hbx hrg hf hsh;go_wp2_with fail;refine ze.q.mono ?_;rintro e X2 ⟨hb2,h2,es2,KA,KC,KD,Xb,Xc,rfl,Pm⟩;have ZI:=l Pm;have HB2:=l (HB.q.bO hb2);have bL:=l (iT.q.keep hb2);clear hq0 hq1 hq2 hq3 hq4 Sq Sr Sv hb2 Pm;have hcx:=bL.q.1;have hfx:=bL.q.2.1;have hlx:=bL.q.2.2;go_wp2_with fail;have hz1:=oC (h':=h2) bL.q;have hz2:=j5 (X:=X2) (b:=w.1.size) (h':=h2);revert hz1 hz2;generalize((((((((X2.setCell ⟨w.1.size,0,g⟩ h2.t.v).setCell ⟨w.1.size,1,g⟩ h2.s.v).setCell ⟨w.1.size,2,g⟩ h2.o.v).setCell ⟨w.1.size,3,g⟩ h2.p.v).setCell ⟨w.1.size,4,g⟩ h2.e.v).setCell ⟨w.1.size,5,g⟩ h2.d.v).setCell ⟨w.1.size,6,g⟩ h2.m.v).setCell ⟨w.1.size,7,g⟩ h2.w.v)=Z;intro hz1 hz2;have hcz:=hz1.1;refine bodyPost_ret (v:= .tuple #[gH h2,.int .i64 (aW.length:Int),.int .i64 0]) (by simp[results,results8,go_sem,hcz]) rfl ⟨hz2.below HB2.q (λi hi=>by omega) HB2.q.size,?_⟩;rw[zZ.q,HLEN.q];refine⟨h2,es2,KA,KC,KD,Xb,Xc,rfl,((ZI.q.same (hz2.mono (λi hi _=>by have:=kM.q;omega))).mono (by have:=kM.q;omega))⟩
end Yd
namespace Yd
open Array renaming size_setIfInBounds->u
open Option renaming some->f,none->C
open Go Go.RowKit Go.Proofs
open Go renaming Value->A
open _root_ renaming List->y,trivial->F
attribute [local go_sem] Oper.semAt_some
structure j6 (B:Nat)(W:World)(bo:Nat)(cs:Array A)(c:Cont)(es:y EvC)(ds:y aM)(ms:y aN):Prop where
 b:Bx W bo cs
 z:cs.size=8
 g:∃q fz,W.1[bo]?=f (.cells q 36 fz)
 n:∀k,k<4->∃v,cs[k]?=f v/\Own W (B+1) 9 1 encStr v (c.nl k)
 e:∃v,cs[4]?=f v/\Own W (B+1) 47 9 dO v es
 d:∃v,cs[5]?=f v/\Own W (B+1) 74 2 eZ v ds
 m:∃v,cs[6]?=f v/\Own W (B+1) 77 4 eP v ms
 q:∃v,cs[7]?=f v/\Own W (B+1) 79 2 fQ v c.Q
 be:es.map EvC.base=c.E
 bd:ds.map aM.base=c.D
 bm:ms.map aN.base=c.M
 se:tF W B 117 3 bS EvC.val es c.SE
 sd:tF W B 3 1 aQ aM.val ds c.SD
 sm:tF W B 3 1 aQ aN.val ms c.SM
section
variable {B bo:Nat}{X Y:World}{cs:Array A}{c:Cont}{es:y EvC}{ds:y aM}{ms:y aN}
theorem j6.imp (h:j6 B X bo cs c es ds ms)(hb:Bx Y bo cs)(hg:∃q fz,Y.1[bo]?=f (.cells q 36 fz))(hi:∀{α:Type}{enc:α->y A}{k:Nat}{T:TypeId}{v:A}{xs:y α},Own X (B+1) T k enc v xs->T≠47->T≠117->Own Y (B+1) T k enc v xs)
  (he:∀v,cs[4]?=f v->Own X (B+1) 47 9 dO v es->Own Y (B+1) 47 9 dO v es) (hs:tF X B 117 3 bS EvC.val es c.SE->tF Y B 117 3 bS EvC.val es c.SE):j6 B Y bo cs c es ds ms:=
 ⟨hb,h.z,hg,λk hk=>(let⟨v,h1,h2⟩:=h.n k hk;⟨v,h1,hi h2 aj aj⟩),(let⟨v,h1,h2⟩:=h.e;⟨v,h1,he v h1 h2⟩),(let⟨v,h1,h2⟩:=h.d;⟨v,h1,hi h2 aj aj⟩),(let⟨v,h1,h2⟩:=h.m;⟨v,h1,hi h2 aj aj⟩),(let⟨v,h1,h2⟩:=h.q;⟨v,h1,hi h2 aj aj⟩),
  h.be,h.bd,h.bm,hs h.se,h.sd.imp (λ_ _ o=>hi o aj aj),h.sm.imp (λ_ _ o=>hi o aj aj)⟩
theorem j6.below (h:j6 B X bo cs c es ds ms)(hb:Below X.1.size X Y):j6 B Y bo cs c es ds ms:=
 h.imp (h.b.keep hb) (let⟨q,fz,e⟩:=h.g;⟨q,fz,(hb.block bo h.b.2.2).trans e⟩) (λo _ _=>o.below hb rfl) (λ_ _ o=>o.below hb rfl) (λo=>o.imp λ_ _ o=>o.below hb rfl)
theorem j6.ZJ {b:Nat}(h:j6 B X bo cs c es ds ms)(hg:∃cs fz,X.1[b]?=f (.cells cs 47 fz))(hR:bo≠b)(hv:∀v,cs[4]?=f v->v.ownBlock≠f b)(hs:Same (λi=>i≠b) X Y):j6 B Y bo cs c es ds ms:=
 h.imp (hs.bx h.b hR) (let⟨q,fz,e⟩:=h.g;⟨q,fz,(hs.block bo hR h.b.2.2).trans e⟩) (λo h1 _=>o.aK hg h1 hs) (λv h1 o=>o.same hs (λg hg e=>hv v h1 (by rw[hg,e]))) (λo=>o.imp λ_ _ o=>o.aK hg aj hs)
theorem j6.seen {v:A}{L:y Sn}{K:Nat}(h:j6 B X bo cs c es ds ms)(hO:Own X K 117 3 bS v L)(hne:∀x∈es,∀q,v.ownBlock=f q->x.val.ownBlock≠f q)(hg:X.grownBy Y v.ownBlock):j6 B Y bo cs c es ds ms:=by
 cases hv:v.ownBlock with
 |none=>
  rw[hv] at hg;have hs:Same (λ_=>True) X Y:=⟨hg.os,hg.tape,hg.output,hg.size,λi _ hl=>hg.block i hl (λe=>by cases e)⟩;exact h.imp (hs.bx h.b F) (let⟨q,fz,e⟩:=h.g;⟨q,fz,(hs.block bo F h.b.2.2).trans e⟩) (λo _ _=>o.same hs (λ_ _=>F)) (λ_ _ o=>o.same hs (λ_ _=>F)) (λo=>o.imp λ_ _ o=>o.same hs (λ_ _=>F))
 |some q=>
  rw[hv] at hg;have hs:Same (λi=>i≠q) X Y:=⟨hg.os,hg.tape,hg.output,hg.size,λi hi hl=>hg.block i hl (λe=>hi (by injection e))⟩;have ht:=hO.tag hv;have hR:bo≠q:=λe=>by
   obtain⟨_,_,e1⟩:=h.g;obtain⟨_,_,e2⟩:=ht;rw[e,e2] at e1;cases e1
  exact h.imp (hs.bx h.b hR) (let⟨q,fz,e⟩:=h.g;⟨q,fz,(hs.block bo hR h.b.2.2).trans e⟩) (λo _ h2=>o.aK ht h2 hs) (λ_ _ o=>o.aK ht aj hs)
   (λo=>⟨o.1,λi x M h1 h2=>(o.2 i x M h1 h2).same hs (λg' hg' e=>hne x (bQ h1) q hv (by rw[hg',e]))⟩)
theorem Own.iZ {β γ:Type}{K K4:Nat}{T T4:TypeId}{k k4:Nat}{enc:β->y A}{enc4:γ->y A}{v v4:A}{L:y β}{L4:y γ}(h:Own X K T k enc v L)(hg:∃q fz,X.1[bo]?=f (.cells q 36 fz))(h4:Own X K4 T4 k4 enc4 v4 L4)(hT:T≠T4)(hT2:T≠36)(hs:Same (λi=>i≠bo/\v4.ownBlock≠f i) X Y):Own Y K T k enc v L:=
 h.same hs (λg hv=>⟨λe=>by
  obtain⟨c1,f1,e1⟩:=h.tag hv;obtain⟨c2,f2,e2⟩:=hg;rw[e,e2] at e1;cases e1;exact hT2 rfl,λe=>by
  obtain⟨c1,f1,e1⟩:=h.tag hv;obtain⟨c2,f2,e2⟩:=h4.tag e;rw[e1] at e2;cases e2;exact hT rfl⟩)
theorem j6.event (h:j6 B X bo cs c es ds ms){v4 v':A}(h4:cs[4]?=f v4)(hs:Same (λi=>i≠bo/\v4.ownBlock≠f i) X Y){ev:EvC}{l:y Sn}
  (hO:Own Y (B+1) 47 9 dO v' (es++[ev])) (hB:Bx Y bo (cs.setIfInBounds 4 v')) (hg:∃q fz,Y.1[bo]?=f (.cells q 36 fz)) (hl:Own X (B+1) 117 3 bS ev.val l):j6 B Y bo (cs.setIfInBounds 4 v') (c.ev ev.base l) (es++[ev]) ds ms:=by
 obtain⟨v0,h0,hO4⟩:=h.e;obtain rfl:v0=v4:=by rw[h4] at h0;injection h0 with h0;exact h0.symm
 have ho:∀j,4≠j->(cs.setIfInBounds 4 v')[j]?=cs[j]?:=λj hj=>jO hj
 refine⟨hB,by rw[u];exact h.z,hg,λk hk=>?_,⟨v',vQ (by rw[h.z];decide),hO⟩,?_,?_,?_,?_,h.bd,h.bm,?_,?_,?_⟩
 .obtain⟨v,h1,h2⟩:=h.n k hk
  exact⟨v,(ho _ ah).trans h1,h2.iZ h.g hO4 aj aj hs⟩
 .obtain⟨v,h1,h2⟩:=h.d
  exact⟨v,(ho _ ah).trans h1,h2.iZ h.g hO4 aj aj hs⟩
 .obtain⟨v,h1,h2⟩:=h.m
  exact⟨v,(ho _ ah).trans h1,h2.iZ h.g hO4 aj aj hs⟩
 .obtain⟨v,h1,h2⟩:=h.q
  exact⟨v,(ho _ ah).trans h1,h2.iZ h.g hO4 aj aj hs⟩
 .show(es++[ev]).map EvC.base=c.E++[ev.base]
  rw[gK,h.be];rfl
 .exact(h.se.imp (λ_ _ h'=>h'.iZ h.g hO4 aj aj hs)).snoc (hl.iZ h.g hO4 aj aj hs)
 .exact h.sd.imp (λ_ _ h'=>h'.iZ h.g hO4 aj aj hs)
 .exact h.sm.imp (λ_ _ h'=>h'.iZ h.g hO4 aj aj hs)
theorem j6.order (h:j6 B X bo cs c es ds ms){v4 v':A}(h4:cs[5]?=f v4)(hs:Same (λi=>i≠bo/\v4.ownBlock≠f i) X Y){x:aM}{l:y Int}
  (hO:Own Y (B+1) 74 2 eZ v' (ds++[x])) (hB:Bx Y bo (cs.setIfInBounds 5 v')) (hg:∃q fz,Y.1[bo]?=f (.cells q 36 fz)) (hl:Own X (B+1) 3 1 aQ x.val l):j6 B Y bo (cs.setIfInBounds 5 v') {c with D:=c.D++[x.base],SD:=c.SD++[l]} es (ds++[x]) ms:=by
 obtain⟨v0,h0,hO4⟩:=h.d;obtain rfl:v0=v4:=by rw[h4] at h0;injection h0 with h0;exact h0.symm
 have ho:∀j,5≠j->(cs.setIfInBounds 5 v')[j]?=cs[j]?:=λj hj=>jO hj
 refine⟨hB,by rw[u];exact h.z,hg,λk hk=>?_,?_,⟨v',vQ (by rw[h.z];decide),hO⟩,?_,?_,h.be,(by show(ds++[x]).map aM.base=c.D++[x.base];rw[gK,h.bd];rfl),h.bm,?_,?_,?_⟩
 .obtain⟨v,h1,h2⟩:=h.n k hk
  exact⟨v,(ho _ ah).trans h1,h2.iZ h.g hO4 aj aj hs⟩
 .obtain⟨v,h1,h2⟩:=h.e
  exact⟨v,(ho _ ah).trans h1,h2.iZ h.g hO4 aj aj hs⟩
 .obtain⟨v,h1,h2⟩:=h.m
  exact⟨v,(ho _ ah).trans h1,h2.iZ h.g hO4 aj aj hs⟩
 .obtain⟨v,h1,h2⟩:=h.q
  exact⟨v,(ho _ ah).trans h1,h2.iZ h.g hO4 aj aj hs⟩
 .exact h.se.imp (λ_ _ h'=>h'.iZ h.g hO4 aj aj hs)
 .exact(h.sd.imp (λ_ _ h'=>h'.iZ h.g hO4 aj aj hs)).snoc (hl.iZ h.g hO4 aj aj hs)
 .exact h.sm.imp (λ_ _ h'=>h'.iZ h.g hO4 aj aj hs)
theorem j6.NS (h:j6 B X bo cs c es ds ms){v4 v':A}(h4:cs[6]?=f v4)(hs:Same (λi=>i≠bo/\v4.ownBlock≠f i) X Y){x:aN}{l:y Int}
  (hO:Own Y (B+1) 77 4 eP v' (ms++[x])) (hB:Bx Y bo (cs.setIfInBounds 6 v')) (hg:∃q fz,Y.1[bo]?=f (.cells q 36 fz)) (hl:Own X (B+1) 3 1 aQ x.val l):j6 B Y bo (cs.setIfInBounds 6 v') {c with M:=c.M++[x.base],SM:=c.SM++[l]} es ds (ms++[x]):=by
 obtain⟨v0,h0,hO4⟩:=h.m;obtain rfl:v0=v4:=by rw[h4] at h0;injection h0 with h0;exact h0.symm
 have ho:∀j,6≠j->(cs.setIfInBounds 6 v')[j]?=cs[j]?:=λj hj=>jO hj
 refine⟨hB,by rw[u];exact h.z,hg,λk hk=>?_,?_,?_,⟨v',vQ (by rw[h.z];decide),hO⟩,?_,h.be,h.bd,(by show(ms++[x]).map aN.base=c.M++[x.base];rw[gK,h.bm];rfl),?_,?_,?_⟩
 .obtain⟨v,h1,h2⟩:=h.n k hk
  exact⟨v,(ho _ ah).trans h1,h2.iZ h.g hO4 aj aj hs⟩
 .obtain⟨v,h1,h2⟩:=h.e
  exact⟨v,(ho _ ah).trans h1,h2.iZ h.g hO4 aj aj hs⟩
 .obtain⟨v,h1,h2⟩:=h.d
  exact⟨v,(ho _ ah).trans h1,h2.iZ h.g hO4 aj aj hs⟩
 .obtain⟨v,h1,h2⟩:=h.q
  exact⟨v,(ho _ ah).trans h1,h2.iZ h.g hO4 aj aj hs⟩
 .exact h.se.imp (λ_ _ h'=>h'.iZ h.g hO4 aj aj hs)
 .exact h.sd.imp (λ_ _ h'=>h'.iZ h.g hO4 aj aj hs)
 .exact(h.sm.imp (λ_ _ h'=>h'.iZ h.g hO4 aj aj hs)).snoc (hl.iZ h.g hO4 aj aj hs)
theorem j6.want (h:j6 B X bo cs c es ds ms){v4 v':A}(h4:cs[7]?=f v4)(hs:Same (λi=>i≠bo/\v4.ownBlock≠f i) X Y){x:Wa}
  (hO:Own Y (B+1) 79 2 fQ v' (c.Q++[x])) (hB:Bx Y bo (cs.setIfInBounds 7 v')) (hg:∃q fz,Y.1[bo]?=f (.cells q 36 fz)):j6 B Y bo (cs.setIfInBounds 7 v') {c with Q:=c.Q++[x]} es ds ms:=by
 obtain⟨v0,h0,hO4⟩:=h.q;obtain rfl:v0=v4:=by rw[h4] at h0;injection h0 with h0;exact h0.symm
 have ho:∀j,7≠j->(cs.setIfInBounds 7 v')[j]?=cs[j]?:=λj hj=>jO hj
 refine⟨hB,by rw[u];exact h.z,hg,λk hk=>?_,?_,?_,?_,⟨v',vQ (by rw[h.z];decide),hO⟩,h.be,h.bd,h.bm,?_,?_,?_⟩
 .obtain⟨v,h1,h2⟩:=h.n k hk
  exact⟨v,(ho _ ah).trans h1,h2.iZ h.g hO4 aj aj hs⟩
 .obtain⟨v,h1,h2⟩:=h.e
  exact⟨v,(ho _ ah).trans h1,h2.iZ h.g hO4 aj aj hs⟩
 .obtain⟨v,h1,h2⟩:=h.d
  exact⟨v,(ho _ ah).trans h1,h2.iZ h.g hO4 aj aj hs⟩
 .obtain⟨v,h1,h2⟩:=h.m
  exact⟨v,(ho _ ah).trans h1,h2.iZ h.g hO4 aj aj hs⟩
 .exact h.se.imp (λ_ _ h'=>h'.iZ h.g hO4 aj aj hs)
 .exact h.sd.imp (λ_ _ h'=>h'.iZ h.g hO4 aj aj hs)
 .exact h.sm.imp (λ_ _ h'=>h'.iZ h.g hO4 aj aj hs)
end
structure yV (B:Nat)(w W:World)(bo kb:Nat)(cs:Array A)(c:Cont)(es:y EvC)(ds:y aM)(ms:y aN)(ev:EvC):Prop where
 r:j6 B W bo cs c es ds ms
 e:Bx W kb (aY ev)
 t:∃q fz,W.1[kb]?=f (.cells q 47 fz)
 s:Below (B+1) w W
 n:B<bo/\B<kb/\bo≠kb
 v:∀v,cs[4]?=f v->v.ownBlock≠f kb
 o:∀x∈es,∀q,x.val.ownBlock=f q->q<kb
section
variable {B bo kb:Nat}{w W W':World}{cs:Array A}{c:Cont}{es:y EvC}{ds:y aM}{ms:y aN}{ev:EvC}
theorem yV.below (h:yV B w W bo kb cs c es ds ms ev)(hb:Below W.1.size W W'):yV B w W' bo kb cs c es ds ms ev:=
 ⟨h.r.below hb,h.e.keep hb,(let⟨q,fz,e⟩:=h.t;⟨q,fz,(hb.block kb h.e.2.2).trans e⟩),h.s.trans (hb.mono (by have:=h.e.2.2;have:=h.n;omega)),h.n,h.v,h.o⟩
theorem yV.set (h:yV B w W bo kb cs c es ds ms ev)(ev':EvC){j:Nat}{x:A}(hj:j<9)(he:aY ev'=(aY ev).setIfInBounds j x):yV B w (W.setCell ⟨kb,j,C⟩ x) bo kb cs c es ds ms ev':=
 ⟨h.r.ZJ h.t h.n.2.2 h.v ((Same.refl' W).setTail (λh=>h rfl)),by rw[he];exact h.e.aZ j hj x,rO h.t,h.s.setCell (p:=⟨kb,j,C⟩) (by have:=h.n;show B+1<=kb;omega) _,h.n,h.v,h.o⟩
theorem yV.grown (h:yV B w W bo kb cs c es ds ms ev){v:A}{L:y Sn}(hO:Own W kb 117 3 bS v L)(hg:W.grownBy W' v.ownBlock):yV B w W' bo kb cs c es ds ms ev:=by
 have hk:v.ownBlock≠f kb:=λe=>by
  obtain⟨_,_,q1⟩:=hO.tag e;obtain⟨_,_,q2⟩:=h.t;rw[q2] at q1;cases q1
 exact⟨h.r.seen hO (λx hx q hq e=>by have:=h.o x hx q e;have:=(hO.lt q hq).1;omega) hg,h.e.grown hg hk,(let⟨q,fz,e⟩:=h.t;⟨q,fz,(hg.block kb h.e.2.2 (λe=>hk e.symm)).trans e⟩),h.s.grown hg (by have:=h.e.2.2;have:=h.n;omega) (λg e=>by have:=(hO.lt g e).1;have:=h.n;omega),h.n,h.v,h.o⟩
theorem yV.all (h:yV B w W bo kb cs c es ds ms ev)(k t s l o vt vk p:Int)(a:Option Addr)(n q:Nat):
  yV B w (((((((((W.setCell ⟨kb,0,C⟩ (.int .i64 k)).setCell ⟨kb,1,C⟩ (.int .i64 t)).setCell ⟨kb,2,C⟩ (.int .i64 s)).setCell ⟨kb,3,C⟩ (.int .i64 l)).setCell ⟨kb,4,C⟩ (.int .i64 o)).setCell ⟨kb,5,C⟩ (.int .i64 vt)).setCell ⟨kb,6,C⟩ (.int .i64 vk)).setCell ⟨kb,7,C⟩ (.int .i64 p)).setCell ⟨kb,8,C⟩ (.slice a n q)) bo kb cs c es ds ms ⟨k,t,s,l,o,⟨vt,vk⟩,p,a,n,q⟩:=by
 obtain⟨k0,t0,s0,l0,o0,⟨Gl,DF⟩,p0,a0,n0,q0⟩:=ev;exact((((((((h.set ⟨k,t0,s0,l0,o0,⟨Gl,DF⟩,p0,a0,n0,q0⟩ aj rfl).set ⟨k,t,s0,l0,o0,⟨Gl,DF⟩,p0,a0,n0,q0⟩ aj rfl).set ⟨k,t,s,l0,o0,⟨Gl,DF⟩,p0,a0,n0,q0⟩ aj rfl).set ⟨k,t,s,l,o0,⟨Gl,DF⟩,p0,a0,n0,q0⟩ aj rfl).set ⟨k,t,s,l,o,⟨Gl,DF⟩,p0,a0,n0,q0⟩ aj rfl).set ⟨k,t,s,l,o,⟨vt,DF⟩,p0,a0,n0,q0⟩ aj rfl).set ⟨k,t,s,l,o,⟨vt,vk⟩,p0,a0,n0,q0⟩ aj rfl).set ⟨k,t,s,l,o,⟨vt,vk⟩,p,a0,n0,q0⟩ aj rfl).set ⟨k,t,s,l,o,⟨vt,vk⟩,p,a,n,q⟩ aj rfl
end
end Yd
namespace Yd
open Option renaming none->r,some->G
open Go Go.RowKit Go.Proofs
open Go renaming World->U,Value->J
open Go.Obj renaming cells->I
open _root_ renaming List->p,Nat->H,Int->K,Array->N
attribute [local go_sem] Oper.semAt_some
theorem adI {P:Program}{c:Code}{Q:Exit->Act->U->Prop}{a:Act}{w:U}{F:H->U->Prop}{A:H->Act}(h:c.wp P (λe b Z=>e= .normal/\∃k,F k Z/\b=A k) a w)(hq:∀k Z,F k Z->Q .normal (A k) Z):c.wp P Q a w:=
 wp_mono h (λ_ _ Z ⟨h1,k,h2,h3⟩=>by subst h1 h3;exact hq k Z h2)
theorem ZK {P:Program}{c:Code}{Q:Exit->Act->U->Prop}{a:Act}{w:U}{F:H->Sl->Sl->Sl->Sl->U->Prop}{A:H->Sl->Sl->Sl->Sl->Act}(h:c.wp P (λe b Z=>e= .normal/\∃k x y u v,F k x y u v Z/\b=A k x y u v) a w)(hq:∀k x y u v Z,F k x y u v Z->Q .normal (A k x y u v) Z):c.wp P Q a w:=
 wp_mono h (λ_ _ Z ⟨h1,k,x,y,u,v,h2,h3⟩=>by subst h1 h3;exact hq k x y u v Z h2)
def mR (F:K->p K)(c:Cont)(k d m q:H):Cont:=IL F ⟨c.nl,c.E.take k,c.SE.take k,c.D.take d,c.SD.take d,c.M.take m,c.SM.take m,c.Q.take q⟩
theorem take_one {α β:Type}{f:α->β}{l:p α}{k:H}{x:α}(h:l[k]?=G x):(l.take (k+1)).map f=(l.take k).map f++[f x]:=by
 rw[eO,h];simp
section
variable {F:K->p K}{c:Cont}{k d m q:H}
theorem agy {e:EvC}{l:p Sn}(h:c.E[k]?=G e)(h2:c.SE[k]?=G l):mR F c (k+1) d m q=(mR F c k d m q).ev (gP F e) (l.map (Fv F)):=by
 unfold mR IL Cont.ev;simp only[take_one h,take_one h2]
theorem agz {x:aM}{l:p K}(h:c.D[d]?=G x)(h2:c.SD[d]?=G l):mR F c k (d+1) m q={mR F c k d m q with D:=(mR F c k d m q).D++[⟨dh (F 2) x.obj,r,0,0⟩],SD:=(mR F c k d m q).SD++[l.map (dh (F 0))]}:=by
 unfold mR IL;simp only[take_one h,take_one h2]
theorem agA {x:aN}{l:p K}(h:c.M[m]?=G x)(h2:c.SM[m]?=G l):mR F c k d (m+1) q={mR F c k d m q with M:=(mR F c k d m q).M++[⟨dh (F 3) x.pred,dh (F 2) x.obj,x.first,r,0,0⟩],SM:=(mR F c k d m q).SM++[l.map (dh (F 0))]}:=by
 unfold mR IL;simp only[take_one h,take_one h2]
theorem agB {x:Wa}(h:c.Q[q]?=G x):mR F c k d m (q+1)={mR F c k d m q with Q:=(mR F c k d m q).Q++[⟨dh (F 1) x.dG,x.bits⟩]}:=by
 unfold mR IL;simp only[take_one h]
theorem adJ (he:c.E.length<=k)(hse:c.SE.length<=k)(hd:c.D.length<=d)(hsd:c.SD.length<=d)(hm:c.M.length<=m)(hsm:c.SM.length<=m)(hq:c.Q.length<=q):mR F c k d m q=IL F c:=by
 unfold mR;rw[dR he,dR hse,dR hd,dR hsd,dR hm,dR hsm,dR hq]
end
theorem j6.start {B bo:H}{W:U}{x y u v:Sl}{F:K->p K}{c:Cont}(hb:Bx W bo (aH ⟨x,y,u,v,⟨r,0,0⟩,⟨r,0,0⟩,⟨r,0,0⟩,⟨r,0,0⟩⟩))(hg:∃q fz,W.1[bo]?=G (I q 36 fz))
  (h0:Own W (B+1) 9 1 encStr x.v ((F 0).map (aS (c.nl 0)))) (h1:Own W (B+1) 9 1 encStr y.v ((F 1).map (aS (c.nl 1)))) (h2:Own W (B+1) 9 1 encStr u.v ((F 2).map (aS (c.nl 2)))) (h3:Own W (B+1) 9 1 encStr v.v ((F 3).map (aS (c.nl 3)))):
  j6 B W bo (aH ⟨x,y,u,v,⟨r,0,0⟩,⟨r,0,0⟩,⟨r,0,0⟩,⟨r,0,0⟩⟩) (mR F c 0 0 0 0) [] [] []:=by
 have nil:∀{α:Type}{enc:α->p J}{k:H}{T:TypeId},Own W (B+1) T k enc (.slice r 0 0) []:=Own.fJ _ _ _ _ _;refine⟨hb,rfl,hg,λk hk=>?_,⟨_,rfl,nil⟩,⟨_,rfl,nil⟩,⟨_,rfl,nil⟩,⟨_,rfl,nil⟩,rfl,rfl,rfl,⟨rfl,λi x L hx=>(by cases hx)⟩,⟨rfl,λi x L hx=>(by cases hx)⟩,⟨rfl,λi x L hx=>(by cases hx)⟩⟩;rcases(by omega:k=0\/k=1\/k=2\/k=3) with rfl|rfl|rfl|rfl
 .exact⟨_,rfl,h0⟩
 .exact⟨_,rfl,h1⟩
 .exact⟨_,rfl,h2⟩
 .exact⟨_,rfl,h3⟩
theorem j6.his {B bo:H}{W Y:U}{cs:N J}{c:Cont}{es:p EvC}{ds:p aM}{ms:p aN}(h:j6 B W bo cs c es ds ms)(z:CK c)(hs:Same (λi=>B<i) W Y):
  ∃h':HC,∃scan:EvC->p Sn,∃dn:aM->p K,∃mn:aN->p K,cs=aH h'/\iY Y (B+1) h' c es ds ms scan dn mn:=by
 obtain⟨h',scan,dn,mn,c0,c4,c5,c6,c7,ho⟩:=Xe (d:=0) (cs:=cs) (λk hk=>by rw[Nat.mul_zero,bU];exact h.n k hk) h.e h.d h.m h.q h.be h.bd h.bm h.se h.sd h.sm z (λo=>o.same hs (λg hg=>(o.lt g hg).1));refine⟨h',scan,dn,mn,?_,ho⟩;refine Array.ext_getElem? (λi=>?_);by_cases hi:i<8
 .rcases(by omega:i=0\/i=1\/i=2\/i=3\/i=4\/i=5\/i=6\/i=7) with rfl|rfl|rfl|rfl|rfl|rfl|rfl|rfl
  .exact c0 0 aj
  .exact c0 1 aj
  .exact c0 2 aj
  .exact c0 3 aj
  .exact c4
  .exact c5
  .exact c6
  .exact c7
 .rw[D9 (by rw[h.z];omega),D9 (by show 8<=i;omega)]
theorem BH (X:U):Bx (X.alloc (I (aH gQ) 36)) X.1.size (aH gQ)/\∃q fz,(X.alloc (I (aH gQ) 36)).1[X.1.size]?=G (I q 36 fz):=⟨Bx.new X _ _,_,_,eH X _⟩
theorem og {X Y:U}{bo:H}{cs:N J}(h:Bx X bo cs/\∃q fz,X.1[bo]?=G (I q 36 fz))(hb:Below X.1.size X Y):Bx Y bo cs/\∃q fz,Y.1[bo]?=G (I q 36 fz):=⟨h.1.keep hb,let⟨q,fz,e⟩:=h.2;⟨q,fz,(hb.block bo h.1.2.2).trans e⟩⟩
theorem lN {la:Option Addr}{ln lc:H}{L:p Bs}{a:Option Addr}{n c:H}{xs:p K}{w:U}(B:H)(hL:Row w 1 encStr la ln lc L)(hr:Row w 1 aQ a n c xs)(hx:∀x∈xs,0<=x/\x<(L.length:K))(hn:xs.length<=300)(hB:B<=w.1.size):
  Calls Tryz.prog 58 #[.slice la ln lc,.slice a n c] w (λe w'=>∃s:Sl,e= .returned s.v/\Own w' B 9 1 encStr s.v (xs.map (aS L))/\Below w.1.size w w'):=
 (adK la ln lc L a n c xs w hL hr hx (by have:=hr.len;omega)).mono (λ_ _ ⟨a',c',h1,h2,h3⟩=>⟨⟨a',_,c'⟩,h1,h2.mono hB,h3⟩)
theorem Mr {la:Option Addr}{ln lc:H}{L:p K}{a:Option Addr}{n c:H}{xs:p K}{w:U}(B:H)(hL:Row w 1 aQ la ln lc L)(hr:Row w 1 aQ a n c xs)(hn:xs.length<=2000000)(hB:B<=w.1.size):
  Calls Tryz.prog 61 #[.slice la ln lc,.slice a n c] w (λe w'=>∃s:Sl,e= .returned s.v/\Own w' B 3 1 aQ s.v (xs.map (dh L))/\Below w.1.size w w'):=
 (ZL la ln lc L a n c xs w hL hr (by have:=hr.len;omega)).mono (λ_ _ ⟨a',c',h1,h2,h3⟩=>⟨⟨a',_,c'⟩,h1,h2.mono hB,h3⟩)
theorem BI {X:U}{b:H}{T:TypeId}{v0 v1 v2 v3 v4 v5 v6 v7:J}(h:∃q fz,X.1[b]?=G (I q T fz)):∃q fz,((((((((X.setCell ⟨b,0,r⟩ v0).setCell ⟨b,1,r⟩ v1).setCell ⟨b,2,r⟩ v2).setCell ⟨b,3,r⟩ v3).setCell ⟨b,4,r⟩ v4).setCell ⟨b,5,r⟩ v5).setCell ⟨b,6,r⟩ v6).setCell ⟨b,7,r⟩ v7).1[b]?=G (I q T fz):=
 rO (rO (rO (rO (rO (rO (rO (rO h)))))))
theorem yV.start {B bo:H}{w X:U}{cs:N J}{c:Cont}{es:p EvC}{ds:p aM}{ms:p aN}(ev:EvC)(h:j6 B X bo cs c es ds ms)(hs:Below (B+1) w X)(hB:B+1<=X.1.size)(hn:B<bo):yV B w (X.alloc (I (aY ev) 47)) bo X.1.size cs c es ds ms ev:=by
 have hl:=h.b.2.2;refine⟨h.below (aB (Below.refl _ _) _),Bx.new X _ _,⟨_,_,eH X _⟩,hs.trans (aB (Below.refl _ _) _|>.mono hB),⟨hn,hB,by omega⟩,λv hv e=>?_,λx hx q hq=>?_⟩
 .obtain⟨v',h1,h2⟩:=h.e
  rw[hv] at h1;injection h1 with h1;subst h1;have:=(h2.lt _ e).2;omega
 .obtain⟨i,hi⟩:=u6.1 hx
  obtain⟨M,hM⟩:∃M,c.SE[i]?=G M:=⟨_,eu (by have:=(bG.1 hi).1;have:=h.se.1;omega)⟩;exact((h.se.2 i x M hi hM).lt q hq).2
def BJ (B:H)(w:U)(kx:H)(C:N J)(W:U)(bo kb:H)(cs:N J)(c:Cont)(es:p EvC)(ds:p aM)(ms:p aN)(ev:EvC):Prop:=yV B w W bo kb cs c es ds ms ev/\Bx W kx C/\kx<kb
section
variable {B kx bo kb:H}{w W W':U}{C cs:N J}{c:Cont}{es:p EvC}{ds:p aM}{ms:p aN}{ev:EvC}
theorem BJ.below (h:BJ B w kx C W bo kb cs c es ds ms ev)(hb:Below W.1.size W W'):BJ B w kx C W' bo kb cs c es ds ms ev:=⟨h.1.below hb,h.2.1.keep hb,h.2.2⟩
theorem BJ.set (h:BJ B w kx C W bo kb cs c es ds ms ev)(ev':EvC){j:H}{x:J}(hj:j<9)(he:aY ev'=(aY ev).setIfInBounds j x):BJ B w kx C (W.setCell ⟨kb,j,r⟩ x) bo kb cs c es ds ms ev':=
 ⟨h.1.set ev' hj he,((Same.refl' W).setTail (A:=λi=>i≠kb) (λh=>h rfl)).bx h.2.1 (by have:=h.2.2;omega),h.2.2⟩
theorem BJ.grown (h:BJ B w kx C W bo kb cs c es ds ms ev){v:J}{L:p Sn}(hO:Own W kb 117 3 bS v L)(hg:W.grownBy W' v.ownBlock):BJ B w kx C W' bo kb cs c es ds ms ev:=
 ⟨h.1.grown hO hg,h.2.1.grown hg (λe=>by have:=(hO.lt _ e).1;have:=h.2.2;omega),h.2.2⟩
end
theorem j6.app {α:Type}{T:TypeId}{k B bo j:H}{enc:α->p J}{v v':J}{L L':p α}{obj:Obj}{X Y:U}{cs:N J}{c:Cont}{es:p EvC}{ds:p aM}{ms:p aN}(h:j6 B X bo cs c es ds ms)(hO:Own X (B+1) T k enc v L)(hT:T≠36)(hj:j<8)(hg:(X.alloc obj).grownBy Y v.ownBlock)(OI:Own Y (B+1) T k enc v' L'):
  Bx Y bo cs/\Same (λi=>i≠bo/\v.ownBlock≠G i) X (Y.setCell ⟨bo,j,r⟩ v')/\Own (Y.setCell ⟨bo,j,r⟩ v') (B+1) T k enc v' L'/\Bx (Y.setCell ⟨bo,j,r⟩ v') bo (cs.setIfInBounds j v')/\∃q fz,(Y.setCell ⟨bo,j,r⟩ v').1[bo]?=G (I q 36 fz):=by
 have ne:v.ownBlock≠G bo:=λe=>by
  obtain⟨_,_,e1⟩:=hO.tag e;obtain⟨_,_,e2⟩:=h.g;rw[e1] at e2;cases e2;exact hT rfl
 have hb:=aB (Below.refl X.1.size X) obj;have bx1:=h.b.keep hb;have bx9:=bx1.grown hg ne;have tg:∃q fz,Y.1[bo]?=G (I q 36 fz):=let⟨q,fz,e⟩:=h.g;⟨q,fz,(hg.block bo bx1.2.2 (λe=>ne e.symm)).trans ((hb.block bo h.b.2.2).trans e)⟩;exact⟨bx9,((Same.of_below hb (λ_ _ h=>h)).tr ⟨hg.os,hg.tape,hg.output,hg.size,λi hi hl=>hg.block i hl (λe=>hi.2 e.symm)⟩).setTail (λh=>h.1 rfl),OI.aK tg hT ((Same.refl' Y).setTail (λh=>h rfl)),bx9.aZ j (by rw[h.z];exact hj) v',rO tg⟩
end Yd
namespace Yd
open Option renaming none->J
open Go Go.RowKit Go.Proofs Tryz
open Below renaming refl->P
open Go.IntKind renaming i64->H
open Go.Obj renaming cells->R
open Go.RowKit renaming Below->V
open Go.Value renaming int->G,slice->I
open RowKit renaming intOf->U
open Yd renaming hid->C
open _root_ renaming trivial->N
attribute [local go_sem] Oper.semAt_some
theorem ZM (w:World)(B0:Nat)(h:HC)(c:Cont)(es:List EvC)(ds:List aM)(ms:List aN)(scan:EvC->List Sn)(dn:aM->List Int)(mn:aN->List Int)(o:iY w B0 h c es ds ms scan dn mn)(hsh:iU c)(hf:aI c):Ut h c w:=by
 have z:=hsh.Mq hf;have HD:=C (o.deep z);have HN:=C (o.names z);have tX:=C (λW (hW:V w.1.size w W)=>(by have:=ZN h c.nl es ds ms c.Q scan dn mn W (λi hi=>(o.names z i hi).below hW rfl) ((o.deep z).below hW rfl) (o.shaped hsh hf);rw[IU o.be o.bd o.bm o.ss o.ts o.us] at this;exact this:Calls Tryz.prog 57 #[gH h] W (ZO (bI c) W)));obtain⟨F,hF⟩:∃F,F=bK (bI c):=⟨_,rfl⟩;have qN:Hid (∀i:Nat,i<4->(∀x∈F (i:Int),0<=x/\x<((c.nl i).length:Int))/\(F (i:Int)).length<=300):=C (λi hi=>⟨λx hx=>by
  rw[hF] at hx;obtain⟨s,h1,h2,h3⟩:=wI hsh _ (Ht _ hx);simp only at h2 h3;obtain rfl:i=s:=by omega
  simpa[bC] using h3,by rw[hF];exact(hsh.Xf hf i hi).1⟩)
 have HNC:Hid (gJ c=IL F c):=C (by rw[hF];rfl);have HZN:Hid (CK (IL F c)):=C (by rw[<-HNC.q];exact hsh.number.Mq (IV hsh hf));have zO:=C (⟨o.be,o.bd,o.bm,o.ss,o.ts,o.us⟩:_/\_/\_/\_/\_/\_);have uF:=C o.lens;have HZ:=C z;have HF:=C hf;have JR:=C hF;clear o hsh hf z hF;obtain⟨ht,hs,ho,hp,⟨ea,en,ec⟩,⟨da,dZ,dc⟩,⟨ma,eD,mc⟩,⟨wa,wn,wc⟩⟩:=h;unfold Ut;have HB0:=C (aB (aB (P w.1.size w) (R #[ht.v,hs.v,ho.v,hp.v,I ea en ec,I da dZ dc,I ma eD mc,I wa wn wc] 36)) (R (aH gQ) 36));have hx0:=(Bx.new w #[ht.v,hs.v,ho.v,hp.v,I ea en ec,I da dZ dc,I ma eD mc,I wa wn wc] 36).alloc (R (aH gQ) 36);have HX0:=C hx0;have hz0:=Bx.new (w.alloc (R #[ht.v,hs.v,ho.v,hp.v,I ea en ec,I da dZ dc,I ma eD mc,I wa wn wc] 36)) (aH gQ) 36;rw[World.size_alloc] at hz0;have HZ0:=C hz0;have hcx:=hx0.1;clear hx0 hz0;go_enter Tryz.func20,Tryz.ntmps20;go_wp2_with fail;refine(tX.q _ HB0.q).mono ?_;rintro e w2 ⟨c',rfl,hcr,hb2⟩;obtain⟨q,hq⟩:=Classical.axiomOfChoice (r:=λ(i:Nat)(s:Sl)=>i<4->c' i=s.v/\Row w2 1 aQ s.a s.n s.c (F (i:Int))) (λi=>by
  by_cases hi:i<4
  .obtain⟨a,n,cc,h1,h2⟩:=hcr i hi
   exact⟨⟨a,n,cc⟩,λ_=>⟨h1,by rw[JR.q];exact h2⟩⟩
  .exact⟨⟨J,0,0⟩,λh=>absurd h hi⟩)
 rw[(hq 0 aj).1,(hq 1 aj).1,(hq 2 aj).1,(hq 3 aj).1];have HB2:=C (HB0.q.bO hb2);have bL:=C (HX0.q.keep hb2);have HZ2:=C (HZ0.q.keep hb2);have HQ:=C (λi hi=>(hq i hi).2);clear hcr hb2 hq hcx JR tX;go_wp2_with fail;have ha:Bx (w2.alloc (R #[(q 0).v,(q 1).v,(q 2).v,(q 3).v] 111)) w2.1.size #[(q 0).v,(q 1).v,(q 2).v,(q 3).v]:=Bx.new w2 _ _;have hb:=aB (P w2.1.size w2) (R #[(q 0).v,(q 1).v,(q 2).v,(q 3).v] 111);have hsz:(w2.alloc (R #[(q 0).v,(q 1).v,(q 2).v,(q 3).v] 111)).1.size=w2.1.size+1:=World.size_alloc _ _;revert ha hb hsz;generalize w2.alloc (R #[(q 0).v,(q 1).v,(q 2).v,(q 3).v] 111)=W1;intro ha hb hsz;have HHS:Hid (w.1.size+1<w2.1.size):=C HZ2.q.2.2;have bE:Hid (V w.1.size w W1):=C (HB2.q.bO hb);have HST:Hid (∀W,V (w2.1.size+1) W1 W->Bx W w.1.size #[ht.v,hs.v,ho.v,hp.v,I ea en ec,I da dZ dc,I ma eD mc,I wa wn wc]/\Bx W w2.1.size #[(q 0).v,(q 1).v,(q 2).v,(q 3).v]):=C (λW hW=>⟨(bL.q.keep hb).keep (hsz▸hW),ha.keep (hsz▸hW)⟩);have HZW:Hid (∀W,V (w2.1.size+1) W1 W->Bx W (w.1.size+1) (aH gQ)):=C (λW hW=>(HZ2.q.keep hb).keep (hsz▸hW));have ql:Hid (∀W,V (w2.1.size+1) W1 W->∀i:Nat,i<4->Row W 1 aQ (q i).a (q i).n (q i).c (F (i:Int))):=C (λW hW i hi=>((HQ.q i hi).below hb rfl).below hW hsz.symm);have lU:Hid (∀W,V (w2.1.size+1) W1 W->∀i:Nat,i<4->_):=C (λW hW i hi=>((HN.q i hi).below bE.q rfl).below hW (B:=w2.1.size+1) hsz.symm);have HDR:Hid (∀W,V (w2.1.size+1) W1 W->_):=C (λW hW=>(HD.q.below bE.q rfl).below hW (B:=w2.1.size+1) hsz.symm);have gy:Hid (∀X Y,V (w2.1.size+1) W1 X->V X.1.size X Y->V (w2.1.size+1) W1 Y):=C (λX Y h1 h2=>h1.trans (h2.mono (hsz▸h1.size)));have jl:Hid (∀X,V (w2.1.size+1) W1 X->w2.1.size+1<=X.1.size):=C (λX h1=>hsz▸h1.size);have HB1:Hid (V (w2.1.size+1) W1 W1):=C (P _ _);clear ha hb hsz HQ HN HD bL HZ2 HB2;obtain⟨b3,hb3⟩:∃b3,b3=w2.1.size:=⟨_,rfl⟩;rw[<-hb3] at HHS HST HZW ql lU HDR gy jl HB1 ⊢;clear hb3
 apply ZK (F:=λbo x y u v Z=>j6 b3 Z bo (aH ⟨x,y,u,v,⟨J,0,0⟩,⟨J,0,0⟩,⟨J,0,0⟩,⟨J,0,0⟩⟩) (mR F c 0 0 0 0) [] [] []/\V (b3+1) W1 Z/\b3<bo)
 case h=>
  refine ou 22 (.q 0 0 (.q 1 0 (.q 2 0 (.q 3 0 (.q 5 0 (.q 6 0 (.q 7 0 (.q 8 0 (.q 10 0 (.q 11 0 (.q 12 0 (.q 13 0 (.q 15 0 (.q 16 0 (.q 17 0 (.q 18 0 (.alt 4 (.alt 9 (.alt 14 (.alt 19 (.q 20 0 (.l 21 (.l 22 .nil))) 21 (.l 19 (.q 20 0 (.l 22 .nil)))) 21 (.l 14 (.l 19 (.q 20 0 (.l 22 .nil))))) 21 (.l 9 (.l 14 (.l 19 (.q 20 0 (.l 22 .nil)))))) 21 (.l 4 (.l 9 (.l 14 (.l 19 (.q 20 0 (.l 22 .nil))))))))))))))))))))))) (λ_=>True) (λW'=>Bx W' w.1.size #[ht.v,hs.v,ho.v,hp.v,I ea en ec,I da dZ dc,I ma eD mc,I wa wn wc]/\Bx W' b3 #[(q 0).v,(q 1).v,(q 2).v,(q 3).v]) av av N (HST.q _ (HB1.q.trans (P _ _).drew)) ?_;have HB:Hid (V (b3+1) W1 W1.drew):=C (P _ _).drew;revert HB;generalize W1.drew=X0;intro HB;refine qC ?_;refine⟨?_,?_⟩
  .refine dS rfl rfl (λK hK=>?_)
   go_simp;refine(lN (b3+1) (lU.q _ HB.q 0 aj) (ql.q _ HB.q 0 aj) (qN.q 0 aj).1 (qN.q 0 aj).2 (jl.q _ HB.q)).mono ?_;rintro e X1 ⟨x,rfl,h1,h2⟩;have HB:=C (gy.q _ _ HB.q h2);have jN:=C h1;refine hK _ _ ⟨N,HST.q _ HB.q⟩ ?_;clear hK K h1 h2;refine⟨?_,?_⟩
   .refine dS rfl rfl (λK hK=>?_)
    go_simp;refine(lN (b3+1) (lU.q _ HB.q 1 aj) (ql.q _ HB.q 1 aj) (qN.q 1 aj).1 (qN.q 1 aj).2 (jl.q _ HB.q)).mono ?_;rintro e X2 ⟨y,rfl,h1,h2⟩;have HB:=C (gy.q _ _ HB.q h2);have jN:=C (jN.q.below h2 rfl);have gu:=C h1;refine hK _ _ ⟨N,HST.q _ HB.q⟩ ?_;clear hK K h1 h2;refine⟨?_,?_⟩
    .refine dS rfl rfl (λK hK=>?_)
     go_simp;refine(lN (b3+1) (lU.q _ HB.q 2 aj) (ql.q _ HB.q 2 aj) (qN.q 2 aj).1 (qN.q 2 aj).2 (jl.q _ HB.q)).mono ?_;rintro e X3 ⟨u,rfl,h1,h2⟩;have HB:=C (gy.q _ _ HB.q h2);have jN:=C (jN.q.below h2 rfl);have gu:=C (gu.q.below h2 rfl);have iA:=C h1;refine hK _ _ ⟨N,HST.q _ HB.q⟩ ?_;clear hK K h1 h2;refine⟨?_,?_⟩
     .refine dS rfl rfl (λK hK=>?_)
      go_simp;refine(lN (b3+1) (lU.q _ HB.q 3 aj) (ql.q _ HB.q 3 aj) (qN.q 3 aj).1 (qN.q 3 aj).2 (jl.q _ HB.q)).mono ?_;rintro e X4 ⟨v,rfl,h1,h2⟩;have HB:=C (gy.q _ _ HB.q h2);have jN:=C (jN.q.below h2 rfl);have gu:=C (gu.q.below h2 rfl);have iA:=C (iA.q.below h2 rfl);have oK:=C h1;refine hK _ _ ⟨N,HST.q _ HB.q⟩ ?_;clear hK K h1 h2;refine qC ?_;refine aD rfl rfl (λK hK=>?_);go_simp;have h1:=aB (P X4.1.size X4) (R (aH gQ) 36);have uj:=C (gy.q _ _ HB.q h1);have jN:=C (jN.q.below h1 rfl);have gu:=C (gu.q.below h1 rfl);have iA:=C (iA.q.below h1 rfl);have oK:=C (oK.q.below h1 rfl);have hxo:=BH X4;have uQ:=C (jl.q _ HB.q);refine hK _ _ ⟨N,HST.q _ uj.q⟩ ?_;clear hK K h1;obtain⟨bo,z8⟩:∃bo,bo=X4.1.size:=⟨_,rfl⟩;rw[<-z8] at hxo uQ ⊢;have dW:=C hxo;have HB:=C uj.q;clear hxo uj;revert HB dW jN gu iA oK;generalize X4.alloc (R #[I J 0 0,I J 0 0,I J 0 0,I J 0 0,I J 0 0,I J 0 0,I J 0 0,I J 0 0] 36)=XA;intro jN gu iA oK dW HB;clear z8;have hcb:=dW.q.1.1;have oh:=dW.q.1.2.1;have hlb:=dW.q.1.2.2;refine bq rfl rfl rfl (λK hK=>?_);go_simp;refine hK _ _ N ?_;clear hK K hcb oh hlb;refine aJ ?_;have h1:=oC (h':=⟨x,y,u,v,⟨J,0,0⟩,⟨J,0,0⟩,⟨J,0,0⟩,⟨J,0,0⟩⟩) dW.q.1;have h2:=j5 (X:=XA) (b:=bo) (h':=⟨x,y,u,v,⟨J,0,0⟩,⟨J,0,0⟩,⟨J,0,0⟩,⟨J,0,0⟩⟩);have hB:=uQ.q;exact⟨rfl,bo,x,y,u,v,⟨j6.start h1 (BI dW.q.2) (jN.q.aK dW.q.2 aj h2) (gu.q.aK dW.q.2 aj h2) (iA.q.aK dW.q.2 aj h2) (oK.q.aK dW.q.2 aj h2),h2.below HB.q (λi hi=>by omega) (jl.q _ HB.q),by omega⟩,rfl⟩
     .refine dS rfl rfl (λK hK=>?_)
      go_simp;have h1:=aB (P X3.1.size X3) (R (aH gQ) 36);have uj:=C (gy.q _ _ HB.q h1);have jN:=C (jN.q.below h1 rfl);have gu:=C (gu.q.below h1 rfl);have iA:=C (iA.q.below h1 rfl);have hxo:=BH X3;have uQ:=C (jl.q _ HB.q);refine hK _ _ ⟨N,HST.q _ uj.q⟩ ?_;clear hK K h1;obtain⟨bo,z8⟩:∃bo,bo=X3.1.size:=⟨_,rfl⟩;rw[<-z8] at hxo uQ ⊢;have dW:=C hxo;have HB:=C uj.q;clear hxo uj;revert HB dW jN gu iA;generalize X3.alloc (R #[I J 0 0,I J 0 0,I J 0 0,I J 0 0,I J 0 0,I J 0 0,I J 0 0,I J 0 0] 36)=XA;intro jN gu iA dW HB;clear z8;refine aD rfl rfl (λK hK=>?_);go_simp;refine(lN (b3+1) (lU.q _ HB.q 3 aj) (ql.q _ HB.q 3 aj) (qN.q 3 aj).1 (qN.q 3 aj).2 (jl.q _ HB.q)).mono ?_;rintro e X4 ⟨v,rfl,h1,h2⟩;have HB:=C (gy.q _ _ HB.q h2);have jN:=C (jN.q.below h2 rfl);have gu:=C (gu.q.below h2 rfl);have iA:=C (iA.q.below h2 rfl);have oK:=C h1;have dW:=C (og dW.q h2);refine hK _ _ ⟨N,HST.q _ HB.q⟩ ?_;clear hK K h1 h2;refine qC ?_;have hcb:=dW.q.1.1;have oh:=dW.q.1.2.1;have hlb:=dW.q.1.2.2;refine bq rfl rfl rfl (λK hK=>?_);go_simp;refine hK _ _ N ?_;clear hK K hcb oh hlb;refine aJ ?_;have h1:=oC (h':=⟨x,y,u,v,⟨J,0,0⟩,⟨J,0,0⟩,⟨J,0,0⟩,⟨J,0,0⟩⟩) dW.q.1;have h2:=j5 (X:=X4) (b:=bo) (h':=⟨x,y,u,v,⟨J,0,0⟩,⟨J,0,0⟩,⟨J,0,0⟩,⟨J,0,0⟩⟩);have hB:=uQ.q;exact⟨rfl,bo,x,y,u,v,⟨j6.start h1 (BI dW.q.2) (jN.q.aK dW.q.2 aj h2) (gu.q.aK dW.q.2 aj h2) (iA.q.aK dW.q.2 aj h2) (oK.q.aK dW.q.2 aj h2),h2.below HB.q (λi hi=>by omega) (jl.q _ HB.q),by omega⟩,rfl⟩
    .refine dS rfl rfl (λK hK=>?_)
     go_simp;have h1:=aB (P X2.1.size X2) (R (aH gQ) 36);have uj:=C (gy.q _ _ HB.q h1);have jN:=C (jN.q.below h1 rfl);have gu:=C (gu.q.below h1 rfl);have hxo:=BH X2;have uQ:=C (jl.q _ HB.q);refine hK _ _ ⟨N,HST.q _ uj.q⟩ ?_;clear hK K h1;obtain⟨bo,z8⟩:∃bo,bo=X2.1.size:=⟨_,rfl⟩;rw[<-z8] at hxo uQ ⊢;have dW:=C hxo;have HB:=C uj.q;clear hxo uj;revert HB dW jN gu;generalize X2.alloc (R #[I J 0 0,I J 0 0,I J 0 0,I J 0 0,I J 0 0,I J 0 0,I J 0 0,I J 0 0] 36)=XA;intro jN gu dW HB;clear z8;refine aD rfl rfl (λK hK=>?_);go_simp;refine(lN (b3+1) (lU.q _ HB.q 2 aj) (ql.q _ HB.q 2 aj) (qN.q 2 aj).1 (qN.q 2 aj).2 (jl.q _ HB.q)).mono ?_;rintro e X3 ⟨u,rfl,h1,h2⟩;have HB:=C (gy.q _ _ HB.q h2);have jN:=C (jN.q.below h2 rfl);have gu:=C (gu.q.below h2 rfl);have iA:=C h1;have dW:=C (og dW.q h2);refine hK _ _ ⟨N,HST.q _ HB.q⟩ ?_;clear hK K h1 h2;refine aD rfl rfl (λK hK=>?_);go_simp;refine(lN (b3+1) (lU.q _ HB.q 3 aj) (ql.q _ HB.q 3 aj) (qN.q 3 aj).1 (qN.q 3 aj).2 (jl.q _ HB.q)).mono ?_;rintro e X4 ⟨v,rfl,h1,h2⟩;have HB:=C (gy.q _ _ HB.q h2);have jN:=C (jN.q.below h2 rfl);have gu:=C (gu.q.below h2 rfl);have iA:=C (iA.q.below h2 rfl);have oK:=C h1;have dW:=C (og dW.q h2);refine hK _ _ ⟨N,HST.q _ HB.q⟩ ?_;clear hK K h1 h2;refine qC ?_;have hcb:=dW.q.1.1;have oh:=dW.q.1.2.1;have hlb:=dW.q.1.2.2;refine bq rfl rfl rfl (λK hK=>?_);go_simp;refine hK _ _ N ?_;clear hK K hcb oh hlb;refine aJ ?_;have h1:=oC (h':=⟨x,y,u,v,⟨J,0,0⟩,⟨J,0,0⟩,⟨J,0,0⟩,⟨J,0,0⟩⟩) dW.q.1;have h2:=j5 (X:=X4) (b:=bo) (h':=⟨x,y,u,v,⟨J,0,0⟩,⟨J,0,0⟩,⟨J,0,0⟩,⟨J,0,0⟩⟩);have hB:=uQ.q;exact⟨rfl,bo,x,y,u,v,⟨j6.start h1 (BI dW.q.2) (jN.q.aK dW.q.2 aj h2) (gu.q.aK dW.q.2 aj h2) (iA.q.aK dW.q.2 aj h2) (oK.q.aK dW.q.2 aj h2),h2.below HB.q (λi hi=>by omega) (jl.q _ HB.q),by omega⟩,rfl⟩
   .refine dS rfl rfl (λK hK=>?_)
    go_simp;have h1:=aB (P X1.1.size X1) (R (aH gQ) 36);have uj:=C (gy.q _ _ HB.q h1);have jN:=C (jN.q.below h1 rfl);have hxo:=BH X1;have uQ:=C (jl.q _ HB.q);refine hK _ _ ⟨N,HST.q _ uj.q⟩ ?_;clear hK K h1;obtain⟨bo,z8⟩:∃bo,bo=X1.1.size:=⟨_,rfl⟩;rw[<-z8] at hxo uQ ⊢;have dW:=C hxo;have HB:=C uj.q;clear hxo uj;revert HB dW jN;generalize X1.alloc (R #[I J 0 0,I J 0 0,I J 0 0,I J 0 0,I J 0 0,I J 0 0,I J 0 0,I J 0 0] 36)=XA;intro jN dW HB;clear z8;refine aD rfl rfl (λK hK=>?_);go_simp;refine(lN (b3+1) (lU.q _ HB.q 1 aj) (ql.q _ HB.q 1 aj) (qN.q 1 aj).1 (qN.q 1 aj).2 (jl.q _ HB.q)).mono ?_;rintro e X2 ⟨y,rfl,h1,h2⟩;have HB:=C (gy.q _ _ HB.q h2);have jN:=C (jN.q.below h2 rfl);have gu:=C h1;have dW:=C (og dW.q h2);refine hK _ _ ⟨N,HST.q _ HB.q⟩ ?_;clear hK K h1 h2;refine aD rfl rfl (λK hK=>?_);go_simp;refine(lN (b3+1) (lU.q _ HB.q 2 aj) (ql.q _ HB.q 2 aj) (qN.q 2 aj).1 (qN.q 2 aj).2 (jl.q _ HB.q)).mono ?_;rintro e X3 ⟨u,rfl,h1,h2⟩;have HB:=C (gy.q _ _ HB.q h2);have jN:=C (jN.q.below h2 rfl);have gu:=C (gu.q.below h2 rfl);have iA:=C h1;have dW:=C (og dW.q h2);refine hK _ _ ⟨N,HST.q _ HB.q⟩ ?_;clear hK K h1 h2;refine aD rfl rfl (λK hK=>?_);go_simp;refine(lN (b3+1) (lU.q _ HB.q 3 aj) (ql.q _ HB.q 3 aj) (qN.q 3 aj).1 (qN.q 3 aj).2 (jl.q _ HB.q)).mono ?_;rintro e X4 ⟨v,rfl,h1,h2⟩;have HB:=C (gy.q _ _ HB.q h2);have jN:=C (jN.q.below h2 rfl);have gu:=C (gu.q.below h2 rfl);have iA:=C (iA.q.below h2 rfl);have oK:=C h1;have dW:=C (og dW.q h2);refine hK _ _ ⟨N,HST.q _ HB.q⟩ ?_;clear hK K h1 h2;refine qC ?_;have hcb:=dW.q.1.1;have oh:=dW.q.1.2.1;have hlb:=dW.q.1.2.2;refine bq rfl rfl rfl (λK hK=>?_);go_simp;refine hK _ _ N ?_;clear hK K hcb oh hlb;refine aJ ?_;have h1:=oC (h':=⟨x,y,u,v,⟨J,0,0⟩,⟨J,0,0⟩,⟨J,0,0⟩,⟨J,0,0⟩⟩) dW.q.1;have h2:=j5 (X:=X4) (b:=bo) (h':=⟨x,y,u,v,⟨J,0,0⟩,⟨J,0,0⟩,⟨J,0,0⟩,⟨J,0,0⟩⟩);have hB:=uQ.q;exact⟨rfl,bo,x,y,u,v,⟨j6.start h1 (BI dW.q.2) (jN.q.aK dW.q.2 aj h2) (gu.q.aK dW.q.2 aj h2) (iA.q.aK dW.q.2 aj h2) (oK.q.aK dW.q.2 aj h2),h2.below HB.q (λi hi=>by omega) (jl.q _ HB.q),by omega⟩,rfl⟩
  .refine dS rfl rfl (λK hK=>?_)
   go_simp;have h1:=aB (P X0.1.size X0) (R (aH gQ) 36);have uj:=C (gy.q _ _ HB.q h1);have hxo:=BH X0;have uQ:=C (jl.q _ HB.q);refine hK _ _ ⟨N,HST.q _ uj.q⟩ ?_;clear hK K h1;obtain⟨bo,z8⟩:∃bo,bo=X0.1.size:=⟨_,rfl⟩;rw[<-z8] at hxo uQ ⊢;have dW:=C hxo;have HB:=C uj.q;clear hxo uj;revert HB dW;generalize X0.alloc (R #[I J 0 0,I J 0 0,I J 0 0,I J 0 0,I J 0 0,I J 0 0,I J 0 0,I J 0 0] 36)=XA;intro dW HB;clear z8;refine aD rfl rfl (λK hK=>?_);go_simp;refine(lN (b3+1) (lU.q _ HB.q 0 aj) (ql.q _ HB.q 0 aj) (qN.q 0 aj).1 (qN.q 0 aj).2 (jl.q _ HB.q)).mono ?_;rintro e X1 ⟨x,rfl,h1,h2⟩;have HB:=C (gy.q _ _ HB.q h2);have jN:=C h1;have dW:=C (og dW.q h2);refine hK _ _ ⟨N,HST.q _ HB.q⟩ ?_;clear hK K h1 h2;refine aD rfl rfl (λK hK=>?_);go_simp;refine(lN (b3+1) (lU.q _ HB.q 1 aj) (ql.q _ HB.q 1 aj) (qN.q 1 aj).1 (qN.q 1 aj).2 (jl.q _ HB.q)).mono ?_;rintro e X2 ⟨y,rfl,h1,h2⟩;have HB:=C (gy.q _ _ HB.q h2);have jN:=C (jN.q.below h2 rfl);have gu:=C h1;have dW:=C (og dW.q h2);refine hK _ _ ⟨N,HST.q _ HB.q⟩ ?_;clear hK K h1 h2;refine aD rfl rfl (λK hK=>?_);go_simp;refine(lN (b3+1) (lU.q _ HB.q 2 aj) (ql.q _ HB.q 2 aj) (qN.q 2 aj).1 (qN.q 2 aj).2 (jl.q _ HB.q)).mono ?_;rintro e X3 ⟨u,rfl,h1,h2⟩;have HB:=C (gy.q _ _ HB.q h2);have jN:=C (jN.q.below h2 rfl);have gu:=C (gu.q.below h2 rfl);have iA:=C h1;have dW:=C (og dW.q h2);refine hK _ _ ⟨N,HST.q _ HB.q⟩ ?_;clear hK K h1 h2;refine aD rfl rfl (λK hK=>?_);go_simp;refine(lN (b3+1) (lU.q _ HB.q 3 aj) (ql.q _ HB.q 3 aj) (qN.q 3 aj).1 (qN.q 3 aj).2 (jl.q _ HB.q)).mono ?_;rintro e X4 ⟨v,rfl,h1,h2⟩;have HB:=C (gy.q _ _ HB.q h2);have jN:=C (jN.q.below h2 rfl);have gu:=C (gu.q.below h2 rfl);have iA:=C (iA.q.below h2 rfl);have oK:=C h1;have dW:=C (og dW.q h2);refine hK _ _ ⟨N,HST.q _ HB.q⟩ ?_;clear hK K h1 h2;refine qC ?_;have hcb:=dW.q.1.1;have oh:=dW.q.1.2.1;have hlb:=dW.q.1.2.2;refine bq rfl rfl rfl (λK hK=>?_);go_simp;refine hK _ _ N ?_;clear hK K hcb oh hlb;refine aJ ?_;have h1:=oC (h':=⟨x,y,u,v,⟨J,0,0⟩,⟨J,0,0⟩,⟨J,0,0⟩,⟨J,0,0⟩⟩) dW.q.1;have h2:=j5 (X:=X4) (b:=bo) (h':=⟨x,y,u,v,⟨J,0,0⟩,⟨J,0,0⟩,⟨J,0,0⟩,⟨J,0,0⟩⟩);have hB:=uQ.q;exact⟨rfl,bo,x,y,u,v,⟨j6.start h1 (BI dW.q.2) (jN.q.aK dW.q.2 aj h2) (gu.q.aK dW.q.2 aj h2) (iA.q.aK dW.q.2 aj h2) (oK.q.aK dW.q.2 aj h2),h2.below HB.q (λi hi=>by omega) (jl.q _ HB.q),by omega⟩,rfl⟩
 rintro bo x y u v Z ⟨hn,hb,z8⟩;have hcx:=(HST.q _ hb).1.1;have HB:=C hb;have Fx:=C hn;have uQ:=C z8;clear hn hb z8;go_wp2_with fail;clear hcx
 go_loopw [42] (λi wr=>∃(k:Nat)(cs:Array Value)(es':List EvC),k<=en/\i= G H k/\V (b3+1) W1 wr/\j6 b3 wr bo cs (mR F c k 0 0 0) es' [] []) (λi _=>en - (U i).toNat)
 case atStart=>exact⟨0,_,[],aV _,rfl,HB.q,Fx.q⟩
 case' round=>
  obtain⟨k,cs,es',hk,rfl,hb,hn⟩:=hrel;have HB:=C hb;have Fx:=C hn;by_cases hlt:k<en
  case' pos=>
   obtain⟨y,b,o,hy,rfl,hc⟩:=(HDR.q _ hb).1.at_ hlt;have h0:=hc 0 _ rfl;have h1:=hc 1 _ rfl;have h2:=hc 2 _ rfl;have h3:=hc 3 _ rfl;have h4:=hc 4 _ rfl;have h5:=hc 5 _ rfl;have h6:=hc 6 _ rfl;have h7:=hc 7 _ rfl;have h8:=hc 8 _ rfl;simp only[bM] at h0;have hye:c.E[k]?=some y.base:=by rw[<-zO.q.1,lZ,hy];rfl
   have hys:c.SE[k]?=some (scan y):=by rw[<-zO.q.2.2.2.1,lZ,hy];rfl
   have vU:=C (λd m q=>agy (F:=F) (d:=d) (m:=m) (q:=q) hye hys);have zY:=C (λW (hW:V (b3+1) W1 W)=>(HDR.q W hW).2.2.2.2.1 y (bQ hy));have j4:Hid ((scan y).length<=2000000):=C (HZ.q.se _ (bQ hys));have xD:Hid (es'.length=k):=C (by have h:=dF List.length hn.be;rw[bH] at h;rw[h];show((c.E.take k).map (gP F)).length=k;rw[bH,dN];have:=(bG.1 hye).1;omega);obtain⟨L,hL⟩:∃L,L=scan y:=⟨_,rfl⟩;simp only[<-hL] at vU zY j4;clear hc hy hye hys hL hn hb;obtain⟨ek,et,ess,el,eo,⟨vV,vW⟩,ep,xa,xn,xc⟩:=y;simp only at zY;have hk0:=aB (P wr.1.size wr) (R #[G H ek,G H et,G H ess,G H el,G H eo,G H vV,G H vW,G H ep,I xa xn xc] 47);have hxk:=Bx.new wr #[G H ek,G H et,G H ess,G H el,G H eo,G H vV,G H vW,G H ep,I xa xn xc] 47;have uj:=C (gy.q _ _ HB.q hk0);have Uu:=C (Fx.q.below hk0);have kM:=C (jl.q _ HB.q);have Xg:=C hxk;have hcx:=hxk.1;clear hk0 hxk;go_wp2_with fail;clear h0 h1 h2 h3 h4 h5 h6 h7 h8 hcx;revert uj Uu Xg;generalize wr.alloc (R #[G H ek,G H et,G H ess,G H el,G H eo,G H vV,G H vW,G H ep,I xa xn xc] 47)=Wk;intro uj Uu Xg;obtain⟨kx,hkx⟩:∃kx,kx=wr.1.size:=⟨_,rfl⟩;rw[<-hkx] at Xg kM ⊢;clear hkx HB Fx;have HB:=C uj.q;have Fx:=C Uu.q;clear uj Uu
   apply adI (F:=λkb Z=>yV b3 W1 Z bo kb cs (mR F c k 0 0 0) es' [] [] ⟨ek,dh (F 0) et,0,el,0,⟨0,0⟩,0,J,0,0⟩/\Bx Z kx #[G H ek,G H et,G H ess,G H el,G H eo,G H vV,G H vW,G H ep,I xa xn xc]/\kx<kb)
   case' h=>
    refine ou 11 (.q 0 0 (.q 1 0 (.q 2 0 (.q 3 0 (.q 4 0 (.q 5 0 (.q 7 0 (.q 8 0 (.alt 6 (.q 9 0 (.l 10 (.l 11 .nil))) 10 (.l 6 (.q 9 0 (.l 11 .nil)))))))))))) (λ_=>True) (λW'=>Bx W' b3 #[(q 0).v,(q 1).v,(q 2).v,(q 3).v]/\Bx W' kx #[G H ek,G H et,G H ess,G H el,G H eo,G H vV,G H vW,G H ep,I xa xn xc]) av av N ⟨(HST.q _ HB.q).2.drew,Xg.q.drew⟩ ?_;have HX0:Hid (V (b3+1) W1 Wk.drew/\Bx Wk.drew kx #[G H ek,G H et,G H ess,G H el,G H eo,G H vV,G H vW,G H ep,I xa xn xc]/\j6 b3 Wk.drew bo cs (mR F c k 0 0 0) es' [] []):=C ⟨HB.q.trans (P _ _).drew,Xg.q.drew,Fx.q.below (P _ _).drew⟩;revert HX0;generalize Wk.drew=X0;intro HX0;refine qC ?_;refine⟨?_,?_⟩
    .refine dS rfl rfl (λK hK=>?_)
     go_simp;refine(Af _ _ _ (F 0) et X0 (ql.q _ HX0.q.1 0 aj)).mono ?_;rintro e X1 ⟨rfl,h1⟩;have bP:Hid (V (b3+1) W1 X1/\Bx X1 kx #[G H ek,G H et,G H ess,G H el,G H eo,G H vV,G H vW,G H ep,I xa xn xc]/\j6 b3 X1 bo cs (mR F c k 0 0 0) es' [] []):=C ⟨gy.q _ _ HX0.q.1 h1,HX0.q.2.1.keep h1,HX0.q.2.2.below h1⟩;refine hK _ _ ⟨N,(HST.q _ bP.q.1).2,bP.q.2.1⟩ ?_;clear hK K h1;refine qC ?_;refine aD rfl rfl (λK hK=>?_);go_simp;have hv:=yV.start (w:=W1) ⟨0,0,0,0,0,⟨0,0⟩,0,J,0,0⟩ bP.q.2.2 bP.q.1 (jl.q _ bP.q.1) uQ.q;have hx:=bP.q.2.1.alloc (R #[G H 0,G H 0,G H 0,G H 0,G H 0,G H 0,G H 0,G H 0,I J 0 0] 47);have zM:=C bP.q.2.1.2.2;refine hK _ _ ⟨N,(HST.q _ (gy.q _ _ bP.q.1 (aB (P _ _) _))).2,hx⟩ ?_;clear hK K;obtain⟨kb,hkb⟩:∃kb,kb=X1.1.size:=⟨_,rfl⟩;rw[<-hkb] at hv zM ⊢;revert hv hx;generalize X1.alloc (R #[G H 0,G H 0,G H 0,G H 0,G H 0,G H 0,G H 0,G H 0,I J 0 0] 47)=X2;intro hx hv;have HV:=C hv;have lI:=C hx;have hcb:=hv.e.1;have oh:=hv.e.2.1;have hlb:=hv.e.2.2;clear hv hx hkb;refine bq rfl rfl rfl (λK hK=>?_);go_simp;refine hK _ _ N ?_;clear hK K hcb oh hlb;refine aJ ?_;exact⟨rfl,kb,⟨HV.q.all _ _ _ _ _ _ _ _ _ _ _,(Same.refl' X2|>.setTail (λh=>h rfl)|>.setTail (λh=>h rfl)|>.setTail (λh=>h rfl)|>.setTail (λh=>h rfl)|>.setTail (λh=>h rfl)|>.setTail (λh=>h rfl)|>.setTail (λh=>h rfl)|>.setTail (λh=>h rfl)|>.setTail (A:=λi=>i≠kb) (λh=>h rfl)).bx lI.q (by have:=zM.q;omega),zM.q⟩,rfl⟩
    .refine dS rfl rfl (λK hK=>?_)
     go_simp;have hv:=yV.start (w:=W1) ⟨0,0,0,0,0,⟨0,0⟩,0,J,0,0⟩ HX0.q.2.2 HX0.q.1 (jl.q _ HX0.q.1) uQ.q;have hx:=HX0.q.2.1.alloc (R #[G H 0,G H 0,G H 0,G H 0,G H 0,G H 0,G H 0,G H 0,I J 0 0] 47);have zM:=C HX0.q.2.1.2.2;refine hK _ _ ⟨N,(HST.q _ (gy.q _ _ HX0.q.1 (aB (P _ _) _))).2,hx⟩ ?_;clear hK K;obtain⟨kb,hkb⟩:∃kb,kb=X0.1.size:=⟨_,rfl⟩;rw[<-hkb] at hv zM ⊢;revert hv hx;generalize X0.alloc (R #[G H 0,G H 0,G H 0,G H 0,G H 0,G H 0,G H 0,G H 0,I J 0 0] 47)=X2;intro hx hv;have rE:=C hv;have an2:=C hx;clear hv hx hkb;refine aD rfl rfl (λK hK=>?_);go_simp;refine(Af _ _ _ (F 0) et X2 (ql.q _ rE.q.s 0 aj)).mono ?_;rintro e X3 ⟨rfl,h1⟩;have hv:=rE.q.below h1;have hx:=an2.q.keep h1;refine hK _ _ ⟨N,(HST.q _ hv.s).2,hx⟩ ?_;clear hK K h1;refine qC ?_;have hkb:=zM.q;have HV:=C hv;have lI:=C hx;have hcb:=hv.e.1;have oh:=hv.e.2.1;have hlb:=hv.e.2.2;clear hv hx hkb;refine bq rfl rfl rfl (λK hK=>?_);go_simp;refine hK _ _ N ?_;clear hK K hcb oh hlb;refine aJ ?_;exact⟨rfl,kb,⟨HV.q.all _ _ _ _ _ _ _ _ _ _ _,(Same.refl' X3|>.setTail (λh=>h rfl)|>.setTail (λh=>h rfl)|>.setTail (λh=>h rfl)|>.setTail (λh=>h rfl)|>.setTail (λh=>h rfl)|>.setTail (λh=>h rfl)|>.setTail (λh=>h rfl)|>.setTail (λh=>h rfl)|>.setTail (A:=λi=>i≠kb) (λh=>h rfl)).bx lI.q (by have:=zM.q;omega),zM.q⟩,rfl⟩
   rintro kb Z ⟨hv,hx,hlt2⟩;have HV:Hid (BJ b3 W1 kx #[G H ek,G H et,G H ess,G H el,G H eo,G H vV,G H vW,G H ep,I xa xn xc] Z bo kb cs (mR F c k 0 0 0) es' [] [] ⟨ek,dh (F 0) et,0,el,0,⟨0,0⟩,0,J,0,0⟩):=C ⟨hv,hx,hlt2⟩;have hcx:=hx.1;have hca:=(HST.q _ hv.s).2.1;have hcb:=hv.e.1;have oh:=hv.e.2.1;have hkk:kx≠kb:=by omega
   have hkk':kb≠kx:=by omega
   clear hv hx hlt2;have hcs:ek=1\/(ek=2\/ek=3)\/ek=4\/(ek≠1/\ek≠2/\ek≠3/\ek≠4):=by omega
   rcases hcs with q1|q1|q1|q1
   case' inl=>
    have e1:(ek==1)=true:=by rw[q1];rfl
    have HQ:=C q1;clear q1;go_wp2_with fail;refine(Af _ _ _ (F 1) ess Z (ql.q _ HV.q.1.s 1 aj)).mono ?_;rintro e Z4 ⟨rfl,h1⟩;have um:=C (HV.q.below h1);clear hcx hca hcb oh h1;have hcb:=um.q.1.e.1;have oh:=um.q.1.e.2.1;have hcx:=um.q.2.1.1;go_wp2_with fail;have HV5:=C (um.q.set ⟨ek,dh (F 0) et,dh (F 1) ess,el,0,⟨0,0⟩,0,J,0,0⟩ (j:=2) (x:= G H (dh (F 1) ess)) aj rfl);generalize(Z4.setCell ⟨kb,2,J⟩ (G H (dh (F 1) ess)))=Z5 at HV5 ⊢;have HT:Hid (∃T S O VT VK PR,BJ b3 W1 kx #[G H ek,G H et,G H ess,G H el,G H eo,G H vV,G H vW,G H ep,I xa xn xc] Z5 bo kb cs (mR F c k 0 0 0) es' [] [] ⟨ek,T,S,el,O,⟨VT,VK⟩,PR,J,0,0⟩/\(⟨ek,T,S,el,O,⟨VT,VK⟩,PR,J,0,0⟩:EvC)=gP F (EvC.base ⟨ek,et,ess,el,eo,⟨vV,vW⟩,ep,xa,xn,xc⟩)):=C ⟨_,_,_,_,_,_,HV5.q,by have h:=HQ.q;subst h;rfl⟩;clear HV5 um hcb oh hcx HV e1
   case' inr.inl=>
    rcases q1 with q1|q1
    case' inl=>
     have e1:(ek==1)=false:=by rw[q1];rfl
     have e2:(ek==2)=true:=by rw[q1];rfl
     have HQ:=C q1;clear q1
    case' inr=>
     have e1:(ek==1)=false:=by rw[q1];rfl
     have e2:(ek==2)=false:=by rw[q1];rfl
     have e3:(ek==3)=true:=by rw[q1];rfl
     have HQ:=C q1;clear q1
    all_goals
     go_wp2_with fail;refine aC 13 [(0,0),(1,0),(2,0),(3,0),(5,0),(6,0),(7,0),(8,0),(4,2),(10,0),(9,2),(11,2),(12,0),(13,2)] (λ_=>True) (λW'=>Bx W' b3 #[(q 0).v,(q 1).v,(q 2).v,(q 3).v]/\Bx W' kx #[G H ek,G H et,G H ess,G H el,G H eo,G H vV,G H vW,G H ep,I xa xn xc]) av av N ⟨(HST.q _ HV.q.1.s).2.drew,HV.q.2.1.drew⟩ ?_;have CO:=C (HV.q.below (P _ _).drew);revert CO;generalize Z.drew=Zd;intro CO;clear hcx hca hcb oh;refine qC ?_;refine aD rfl rfl (λK hK=>?_);go_simp;refine(Af _ _ _ (F 2) eo Zd (ql.q _ CO.q.1.s 2 aj)).mono ?_;rintro e Z4 ⟨rfl,h1⟩;have um:=C (CO.q.below h1);refine hK _ _ ⟨N,(HST.q _ um.q.1.s).2,um.q.2.1⟩ ?_;clear hK K h1;refine qC ?_;refine aD rfl rfl (λK hK=>?_);go_simp;refine(Xh _ _ _ F ⟨vV,vW⟩ Z4 (ql.q _ um.q.1.s 0 aj)).mono ?_;rintro e Z6 ⟨rfl,h1⟩;have Sw:=C (um.q.below h1);refine hK _ _ ⟨N,(HST.q _ Sw.q.1.s).2,Sw.q.2.1⟩ ?_;clear hK K h1;obtain⟨vv,hvv⟩:∃vv,vv=kH F ⟨vV,vW⟩:=⟨_,rfl⟩;rw[<-hvv];obtain⟨vt,vk⟩:=vv;have HVV:=C hvv.symm;clear hvv;simp only;have hcb:=Sw.q.1.e.1;have oh:=Sw.q.1.e.2.1;refine aD rfl rfl (λK hK=>?_);go_simp;have Cm:=C (Sw.q.set ⟨ek,dh (F 0) et,0,el,dh (F 2) eo,⟨0,0⟩,0,J,0,0⟩ (j:=4) (x:= G H (dh (F 2) eo)) aj rfl);refine hK _ _ ⟨N,(HST.q _ Cm.q.1.s).2,Cm.q.2.1⟩ ?_;clear hK K hcb oh;generalize(Z6.setCell ⟨kb,4,J⟩ (G H (dh (F 2) eo)))=Z7 at Cm ⊢;have hcb:=Cm.q.1.e.1;have oh:=Cm.q.1.e.2.1;refine qC ?_;refine bq rfl rfl rfl (λK hK=>?_);go_simp;refine hK _ _ N ?_;clear hK K hcb oh;refine aJ ?_;have HV5:=C ((Cm.q.set ⟨ek,dh (F 0) et,0,el,dh (F 2) eo,⟨vt,0⟩,0,J,0,0⟩ (j:=5) (x:= G H vt) aj rfl).set ⟨ek,dh (F 0) et,0,el,dh (F 2) eo,⟨vt,vk⟩,0,J,0,0⟩ (j:=6) (x:= G H vk) aj rfl);generalize((Z7.setCell ⟨kb,5,J⟩ (G H vt)).setCell ⟨kb,6,J⟩ (G H vk))=Z5 at HV5 ⊢;have hcx:=HV5.q.2.1.1;go_wp2_with fail;have HT:Hid (∃T S O VT VK PR,BJ b3 W1 kx #[G H ek,G H et,G H ess,G H el,G H eo,G H vV,G H vW,G H ep,I xa xn xc] Z5 bo kb cs (mR F c k 0 0 0) es' [] [] ⟨ek,T,S,el,O,⟨VT,VK⟩,PR,J,0,0⟩/\(⟨ek,T,S,el,O,⟨VT,VK⟩,PR,J,0,0⟩:EvC)=gP F (EvC.base ⟨ek,et,ess,el,eo,⟨vV,vW⟩,ep,xa,xn,xc⟩)):=C ⟨_,_,_,_,_,_,HV5.q,by have h:=HQ.q;have h2:=HVV.q;subst h;simp[gP,EvC.base,Cz,h2]⟩;clear HV5 Cm Sw um CO hcx HV HVV e1 e2
   case' inr.inr.inl=>
    have e1:(ek==1)=false:=by rw[q1];rfl
    have e2:(ek==2)=false:=by rw[q1];rfl
    have e3:(ek==3)=false:=by rw[q1];rfl
    have e4:(ek==4)=true:=by rw[q1];rfl
    have HQ:=C q1;clear q1;go_wp2_with fail;refine(Af _ _ _ (F 3) ep Z (ql.q _ HV.q.1.s 3 aj)).mono ?_;rintro e Z4 ⟨rfl,h1⟩;have um:=C (HV.q.below h1);clear hcx hca hcb oh h1;have hcb:=um.q.1.e.1;have oh:=um.q.1.e.2.1;have hcx:=um.q.2.1.1;go_wp2_with fail;have HV5:=C (um.q.set ⟨ek,dh (F 0) et,0,el,0,⟨0,0⟩,dh (F 3) ep,J,0,0⟩ (j:=7) (x:= G H (dh (F 3) ep)) aj rfl);generalize(Z4.setCell ⟨kb,7,J⟩ (G H (dh (F 3) ep)))=Z5 at HV5 ⊢;have HT:Hid (∃T S O VT VK PR,BJ b3 W1 kx #[G H ek,G H et,G H ess,G H el,G H eo,G H vV,G H vW,G H ep,I xa xn xc] Z5 bo kb cs (mR F c k 0 0 0) es' [] [] ⟨ek,T,S,el,O,⟨VT,VK⟩,PR,J,0,0⟩/\(⟨ek,T,S,el,O,⟨VT,VK⟩,PR,J,0,0⟩:EvC)=gP F (EvC.base ⟨ek,et,ess,el,eo,⟨vV,vW⟩,ep,xa,xn,xc⟩)):=C ⟨_,_,_,_,_,_,HV5.q,by have h:=HQ.q;subst h;rfl⟩;clear HV5 um hcb oh hcx HV e1 e2 e3 e4
   case' inr.inr.inr=>
    have e1:(ek==1)=false:=aR.2 q1.1;have e2:(ek==2)=false:=aR.2 q1.2.1;have e3:(ek==3)=false:=aR.2 q1.2.2.1;have e4:(ek==4)=false:=aR.2 q1.2.2.2;have HQ:=C q1;clear q1;go_wp2_with fail;have HT:Hid (∃T S O VT VK PR,BJ b3 W1 kx #[G H ek,G H et,G H ess,G H el,G H eo,G H vV,G H vW,G H ep,I xa xn xc] Z bo kb cs (mR F c k 0 0 0) es' [] [] ⟨ek,T,S,el,O,⟨VT,VK⟩,PR,J,0,0⟩/\(⟨ek,T,S,el,O,⟨VT,VK⟩,PR,J,0,0⟩:EvC)=gP F (EvC.base ⟨ek,et,ess,el,eo,⟨vV,vW⟩,ep,xa,xn,xc⟩)):=C ⟨_,_,_,_,_,_,HV.q,by obtain⟨h1,h2,h3,h4⟩:=HQ.q;simp[gP,EvC.base,Cz,h1,h2,h3,h4]⟩;clear HV hcx hca hcb oh e1 e2 e3 e4
   all_goals
    obtain⟨T,S,O,VT,VK,PR,hv,hev⟩:=HT.q;have HV:=C hv;have kK:=C hev;clear HT hv hev;obtain⟨i,z,hi⟩:=Dt;have HI:=C hi;clear hi hkk hkk';have HXL:Hid (L.length=xn):=C (zY.q _ HV.q.1.s).len
    go_loopw [92] (λj wv=>∃(m:Nat)(a0:Option Addr)(q0:Nat),m<=xn/\j= G H m/\BJ b3 W1 kx #[G H ek,G H et,G H ess,G H el,G H eo,G H vV,G H vW,G H ep,I xa xn xc] wv bo kb cs (mR F c k 0 0 0) es' [] [] ⟨ek,T,S,el,O,⟨VT,VK⟩,PR,a0,m,q0⟩/\Own wv kb 117 3 bS (I a0 m q0) ((L.take m).map (Fv F))) (λj _=>xn - (U j).toNat)
    case' atStart=>exact⟨0,J,0,aV _,rfl,HV.q,Own.fJ _ _ _ _ _⟩
    case' round=>
     obtain⟨m,a0,q0,hm,rfl,hv,hO⟩:=hrel;have HV:=C hv;have HO:=C hO;by_cases hlm:m<xn
     case' pos=>
      obtain⟨s,b2,o2,hs,rfl,hcs⟩:=(zY.q _ hv.1.s).at_ hlm;have f0:=hcs 0 _ rfl;have f1:=hcs 1 _ rfl;have f2:=hcs 2 _ rfl;simp only[bM] at f0;have Rw:=C (take_one (f:=Fv F) hs);have nL:Hid (((L.take m).map (Fv F)).length+1=m+1):=C (by rw[bH,dN,HXL.q];omega);have LQ:Hid (m<2000000):=C (by have:=j4.q;have:=HXL.q;omega);obtain⟨so,⟨Pn,Po⟩⟩:=s;have hk0:=aB (P wr.1.size wr) (R #[G H so,G H Pn,G H Po] 117);have hxs:=Bx.new wr #[G H so,G H Pn,G H Po] 117;have CO:=C ((hv.below hk0).below (P _ _).drew);have jA:=C ((hO.below hk0 rfl).below (P _ _).drew rfl);have gV:=C hxs.drew;have wJ:Hid (∀g,(Value.slice a0 m q0).ownBlock=some g->g<wr.1.size):=C (λg e=>(hO.lt g e).2);have hcx:=hxs.1;clear hk0 hxs hcs hs hv hO;go_wp2_with fail;clear f0 f1 f2 hcx;revert CO jA gV;generalize(wr.alloc (R #[G H so,G H Pn,G H Po] 117))=Xk;intro CO jA gV;obtain⟨ks,hks⟩:∃ks,ks=wr.1.size:=⟨_,rfl⟩;rw[<-hks] at gV wJ ⊢;clear hks;refine aC 16 [(0,0),(1,0),(2,0),(3,0),(4,0),(5,0),(7,0),(8,0),(9,0),(10,0),(6,2),(11,2),(12,0),(13,2),(14,2),(15,0),(16,2)] (λ_=>True) (λW'=>Bx W' kb (aY ⟨ek,T,S,el,O,⟨VT,VK⟩,PR,a0,m,q0⟩)/\Bx W' b3 #[(q 0).v,(q 1).v,(q 2).v,(q 3).v]/\Bx W' ks #[G H so,G H Pn,G H Po]) av av N ⟨CO.q.1.e,(HST.q _ CO.q.1.s).2,gV.q⟩ ?_;revert CO jA gV;generalize Xk.drew=Xd;intro CO jA gV;refine qC ?_;refine aD rfl rfl (λK hK=>?_);go_simp;refine(Af _ _ _ (F 2) so Xd (ql.q _ CO.q.1.s 2 aj)).mono ?_;rintro e Y1 ⟨rfl,h1⟩;have HV1:=C (CO.q.below h1);have gu:=C (jA.q.below h1 rfl);have bP:=C (gV.q.keep h1);refine hK _ _ ⟨N,HV1.q.1.e,(HST.q _ HV1.q.1.s).2,bP.q⟩ ?_;clear hK K h1;refine aD rfl rfl (λK hK=>?_);go_simp;refine(Xh _ _ _ F ⟨Pn,Po⟩ Y1 (ql.q _ HV1.q.1.s 0 aj)).mono ?_;rintro e Y2 ⟨rfl,h1⟩;have rE:=C (HV1.q.below h1);have iA:=C (gu.q.below h1 rfl);have bL:=C (bP.q.keep h1);refine hK _ _ ⟨N,rE.q.1.e,(HST.q _ rE.q.1.s).2,bL.q⟩ ?_;clear hK K h1;obtain⟨x,hx⟩:∃x:Sn,x=Fv F ⟨so,⟨Pn,Po⟩⟩:=⟨_,rfl⟩;rw[<-hx] at Rw;have hx1:dh (F 2) so=x.obj:=by rw[hx];rfl
      have hx2:kH F ⟨Pn,Po⟩=x.v:=by rw[hx];rfl
      rw[hx1,hx2];clear hx hx1 hx2;refine qC ?_;refine aD rfl rfl (λK hK=>?_);go_simp;have hba:=aB (P Y2.1.size Y2) (R #[G H x.obj,G H x.v.t,G H x.v.k] 117);have Gm:=C (rE.q.below hba);have oK:=C (iA.q.below hba rfl);have eX:=C (bL.q.keep hba);have HB3:Hid (kb<=(Y2.alloc (R #[G H x.obj,G H x.v.t,G H x.v.k] 117)).1.size):=C (Nat.le_of_lt Gm.q.1.e.2.2);refine hK _ _ ⟨N,Gm.q.1.e,(HST.q _ Gm.q.1.s).2,eX.q⟩ ?_;clear hK K hba;refine aD rfl rfl (λK hK=>?_);refine ko _ _ 45 rfl i z 24 underlying45 HI.q.1 HI.q.2.1 HI.q.2.2.1 HI.q.2.2.2.1 HI.q.2.2.2.2 rfl oK.q (some ⟨Y2.1.size,0,J⟩) 1 1 (m+1) [x] rfl (Row.sn1 Y2 x) nL.q (by have:=LQ.q;omega) (by have:=LQ.q;unfold maxLen;omega) HB3.q ?_;intro a' c' Y4 fq dx lH;have um:=C (Gm.q.grown oK.q dx);have J2:=C fq;have lu:=C (eX.q.grown dx (λe=>by have:=wJ.q _ e;omega));refine hK _ _ ⟨N,um.q.1.e,(HST.q _ um.q.1.s).2,lu.q⟩ ?_;clear hK K fq dx lH;have hcb:=um.q.1.e.1;have oh:=um.q.1.e.2.1;refine qC ?_;refine bq rfl rfl rfl (λK hK=>?_);go_simp;refine hK _ _ N ?_;clear hK K hcb oh;refine aJ ?_;have HV5:=C (um.q.set ⟨ek,T,S,el,O,⟨VT,VK⟩,PR,a',m+1,c'⟩ (j:=8) (x:= I a' (m+1) c') aj rfl);have Al:=C (J2.q.aK um.q.1.t aj ((Same.refl' Y4).setTail (o:=8) (v:= I a' (m+1) c') (λh=>h rfl)));have hml:=LQ.q;go_wp2_with fail;go_roundw
      case' rel=>exact⟨m+1,a',c',by omega,by go_num,HV5.q,by rw[Rw.q];exact Al.q⟩
      case' measure=>simp[U];omega
     case' neg=>
      obtain rfl:xn=m:=by omega
      have htk:L.take xn=L:=dR (by rw[HXL.q];exact aA _);rw[htk] at hO;obtain⟨v4,h4,hO4⟩:=hv.1.r.e;obtain⟨a4,q4,rfl,_,Yp⟩:=hO4.shape;have hcb:=hv.1.e.1;have oh:=hv.1.e.2.1;rw[xD.q] at h4 hO4;have hx4:=(hv.1.r.b.1 4).trans h4;have hf4:=hv.1.r.b.2.1 4;have HO:=C (hO.mono (B':=b3+1) hv.1.n.2.1);have H4:=C h4;have J2:=C hO4;have HN:=C hv.1.r;have iT:=C hv.1.s;obtain⟨i,z,hi⟩:=G8;have HI:=C hi;clear hi;have an3:Hid (es'.length+1=k+1):=C (by rw[xD.q]);have hen:en=c.E.length:=uF.q.1;have hkn:k<2000000:=by have:=HZ.q.e;omega
      have kM:Hid (b3+1<=(wr.alloc (R (aY ⟨ek,T,S,el,O,⟨VT,VK⟩,PR,a0,xn,q0⟩) 47)).1.size):=C (by have h:=jl.q _ hv.1.s;rw[World.size_alloc];omega);clear hv hO h4 hO4 htk Yp hen
      go_wp2_with (at_builtin;refine eB rfl _ _ 31 rfl i z 88 underlying31 HI.q.1 HI.q.2.1 HI.q.2.2.1 HI.q.2.2.2.1 HI.q.2.2.2.2 rfl (J2.q.alloc _) (some ⟨wr.1.size,0,J⟩) 1 1 (k+1) [⟨ek,T,S,el,O,⟨VT,VK⟩,PR,a0,xn,q0⟩] rfl (Row.ev1 wr ⟨ek,T,S,el,O,⟨VT,VK⟩,PR,a0,xn,q0⟩) an3.q ah (by unfold maxLen;omega) kM.q ?_;intro a' c' w9 fq dx lH;obtain⟨qM,rV,Bh,tV,Gn⟩:=HN.q.app (j:=4) J2.q aj aj dx fq;have Ap:=qM.2.1 4;have KE:=qM.2.2;have pK:=(qM.1 4).trans H4.q;have uR:=C (⟨rV,Bh,tV,Gn⟩:_/\_/\_/\_);clear fq dx lH rV Bh tV Gn qM)
      clear Ap KE pK hx4 hf4 hcb oh;go_roundw
      case' rel=>exact⟨k+1,_,_,by omega,by go_num,uR.q.1.below iT.q (λi hi=>⟨by have:=uQ.q;omega,λe=>by have:=(J2.q.lt _ e).1;omega⟩) (jl.q _ iT.q),by rw[vU.q,<-kK.q];exact HN.q.event H4.q uR.q.1 uR.q.2.1 uR.q.2.2.1 uR.q.2.2.2 HO.q⟩
      case' measure=>simp[U];omega
  case' neg=>
   obtain rfl:en=k:=by omega
   clear hlt hk;have hcx:=(HST.q _ hb).1.1;go_wp2_with fail;clear hcx hb hn
   go_loopw [123] (λi wr=>∃(k:Nat)(cs:Array Value)(xd:List aM),k<=dZ/\i= G H k/\V (b3+1) W1 wr/\j6 b3 wr bo cs (mR F c en k 0 0) es' xd []) (λi _=>dZ - (U i).toNat)
   case' atStart=>exact⟨0,_,[],aV _,rfl,HB.q,Fx.q⟩
   case' round=>
    obtain⟨k,cs,xd,hk,rfl,hb,hn⟩:=hrel;have HB:=C hb;have Fx:=C hn;by_cases hlt:k<dZ
    case' pos=>
     obtain⟨y,b,o,hy,rfl,hc⟩:=(HDR.q _ hb).2.1.at_ hlt;have e0:=hc 0 _ rfl;have e1:=hc 1 _ rfl;simp only[bM] at e0;have hye:c.D[k]?=some y.base:=by rw[<-zO.q.2.1,lZ,hy];rfl
     have hys:c.SD[k]?=some (dn y):=by rw[<-zO.q.2.2.2.2.1,lZ,hy];rfl
     have vU:=C (agz (F:=F) (k:=en) (m:=0) (q:=0) hye hys);have zY:=C (λW (hW:V (b3+1) W1 W)=>(HDR.q W hW).2.2.2.2.2.1 y (bQ hy));have j4:Hid ((dn y).length<=2000000):=C (HZ.q.sd _ (bQ hys));have hkn:k<2000000:=by have:=HZ.q.d;have:=(bG.1 hye).1;omega
     have hel:xd.length=k:=by have h:=dF List.length hn.bd;rw[bH] at h;rw[h];show((c.D.take k).map _).length=k;rw[bH,dN];have:=(bG.1 hye).1;omega
     obtain⟨L,hL⟩:∃L,L=dn y:=⟨_,rfl⟩;simp only[<-hL] at vU zY j4;clear hc hye hys hL hy;obtain⟨xo,xa,xn,xc⟩:=y;simp only at zY;obtain⟨v5,h5,vM⟩:=hn.d;obtain⟨a5,q5,rfl,_,_⟩:=vM.shape;rw[hel] at h5 vM;have H5:=C h5;have xD:=C hel;have hk0:=aB (P wr.1.size wr) (R #[G H xo,I xa xn xc] 74);have hxs:=Bx.new wr #[G H xo,I xa xn xc] 74;have fO:=C (gy.q _ _ (gy.q _ _ hb hk0) (P _ _).drew);have jK:=C ((hn.below hk0).below (P _ _).drew);have jA:=C ((vM.below hk0 rfl).below (P _ _).drew rfl);have gV:=C hxs.drew;have wJ:Hid (∀g,(Value.slice a5 k q5).ownBlock=some g->g<wr.1.size):=C (λg e=>(vM.lt g e).2);obtain⟨i,z,hi⟩:=G9;have HI:=C hi;have hcx:=hxs.1;clear hi hk0 hxs hb hn vM h5 hel;go_wp2_with fail;clear e0 e1 hcx;revert fO jK jA gV;generalize(wr.alloc (R #[G H xo,I xa xn xc] 74))=Xk;intro fO jK jA gV;obtain⟨ks,hks⟩:∃ks,ks=wr.1.size:=⟨_,rfl⟩;rw[<-hks] at gV wJ ⊢;clear hks;have pK:=(jK.q.b.1 5).trans H5.q;refine aC 16 [(0,0),(1,0),(2,0),(3,0),(4,0),(5,0),(7,0),(8,0),(9,0),(10,0),(6,2),(11,2),(12,0),(13,2),(14,2),(15,0),(16,2)] (λ_=>True) (λW'=>W'.cell? ⟨bo,5,J⟩=some (I a5 k q5)/\Bx W' b3 #[(q 0).v,(q 1).v,(q 2).v,(q 3).v]/\Bx W' ks #[G H xo,I xa xn xc]) av av N ⟨pK,(HST.q _ fO.q).2,gV.q⟩ ?_;clear pK;revert fO jK jA gV;generalize Xk.drew=Y0;intro fO jK jA gV;refine qC ?_;refine aD rfl rfl (λK hK=>?_);go_simp;refine(Af _ _ _ (F 2) xo Y0 (ql.q _ fO.q 2 aj)).mono ?_;rintro e Y1 ⟨rfl,h1⟩;have fO:=C (gy.q _ _ fO.q h1);have jK:=C (jK.q.below h1);have jA:=C (jA.q.below h1 rfl);have gV:=C (gV.q.keep h1);refine hK _ _ ⟨N,(jK.q.b.1 5).trans H5.q,(HST.q _ fO.q).2,gV.q⟩ ?_;clear hK K h1;refine aD rfl rfl (λK hK=>?_);go_simp;refine(Mr (b3+1) (ql.q _ fO.q 0 aj) (zY.q _ fO.q) j4.q (jl.q _ fO.q)).mono ?_;rintro e Y2 ⟨⟨sa,sn,sc⟩,rfl,h2,h1⟩;have fO:=C (gy.q _ _ fO.q h1);have jK:=C (jK.q.below h1);have jA:=C (jA.q.below h1 rfl);have gV:=C (gV.q.keep h1);have HOW:=C h2;clear h2;refine hK _ _ ⟨N,(jK.q.b.1 5).trans H5.q,(HST.q _ fO.q).2,gV.q⟩ ?_;clear hK K h1;refine qC ?_;refine aD rfl rfl (λK hK=>?_);go_simp;obtain⟨x,hx⟩:∃x,x=(⟨dh (F 2) xo,sa,sn,sc⟩:aM):=⟨_,rfl⟩;have lI:=C hx;have h1:=aB (P Y2.1.size Y2) (R #[G H (dh (F 2) xo),I sa sn sc] 74);have Ms:=C jK.q;have Mt:=C jA.q;have Mw:=C fO.q;have HR1:Hid (Row (Y2.alloc (R #[G H (dh (F 2) xo),I sa sn sc] 74)) 2 eZ (some ⟨Y2.1.size,0,J⟩) 1 1 [x]):=C (by rw[hx];exact Row.or1 Y2 (⟨dh (F 2) xo,sa,sn,sc⟩:aM));have fO:=C (gy.q _ _ fO.q h1);have jK:=C (jK.q.below h1);have jA:=C (jA.q.below h1 rfl);have gV:=C (gV.q.keep h1);refine hK _ _ ⟨N,(jK.q.b.1 5).trans H5.q,(HST.q _ fO.q).2,gV.q⟩ ?_;clear hK K h1;clear hx;have kM:=C (jl.q _ fO.q);refine aD rfl rfl (λK hK=>?_);refine ko _ _ 32 rfl i z 32 underlying32 HI.q.1 HI.q.2.1 HI.q.2.2.1 HI.q.2.2.2.1 HI.q.2.2.2.2 rfl jA.q (some ⟨Y2.1.size,0,J⟩) 1 1 (k+1) [x] rfl HR1.q (by rw[xD.q]) ah (by unfold maxLen;omega) kM.q ?_;intro a' c' w9 fq dx lH;obtain⟨qM,rV,Bh,tV,Gn⟩:=Ms.q.app (j:=5) Mt.q aj aj dx fq;have uR:=C (⟨rV,Bh,tV,Gn⟩:_/\_/\_/\_);have Ou:=C (fO.q.grown dx kM.q (λg e=>(jA.q.lt g e).1));refine hK _ _ ⟨N,(qM.1 5).trans H5.q,(HST.q _ Ou.q).2,gV.q.grown dx (λe=>by have:=wJ.q _ e;omega)⟩ ?_;have Ap:=qM.2.1 5;have KE:=qM.2.2;have pK:=(qM.1 5).trans H5.q;clear hK K fq dx lH qM rV Bh tV Gn;refine qC ?_;refine bq rfl rfl rfl (λK hK=>?_);go_simp;refine hK _ _ N ?_;clear hK K Ap KE pK;refine aJ ?_;go_wp2_with fail;go_roundw
     case' rel=>exact⟨k+1,_,_,by omega,by go_num,uR.q.1.below Mw.q (λi hi=>⟨by have:=uQ.q;omega,λe=>by have:=(Mt.q.lt _ e).1;omega⟩) (jl.q _ Mw.q),by rw[vU.q];have h:=Ms.q.order H5.q uR.q.1 uR.q.2.1 uR.q.2.2.1 uR.q.2.2.2 (by rw[lI.q];exact HOW.q);rw[lI.q] at h;exact h⟩
     case' measure=>simp[U];omega
    case' neg=>
     obtain rfl:dZ=k:=by omega
     clear hlt hk;have hcx:=(HST.q _ hb).1.1;go_wp2_with fail;clear hcx hb hn
     go_loopw [147] (λi wr=>∃(k:Nat)(cs:Array Value)(xm:List aN),k<=eD/\i= G H k/\V (b3+1) W1 wr/\j6 b3 wr bo cs (mR F c en dZ k 0) es' xd xm) (λi _=>eD - (U i).toNat)
     case' atStart=>exact⟨0,_,[],aV _,rfl,HB.q,Fx.q⟩
     case' round=>
      obtain⟨k,cs,xm,hk,rfl,hb,hn⟩:=hrel;have HB:=C hb;have Fx:=C hn;by_cases hlt:k<eD
      case' pos=>
       obtain⟨y,b,o,hy,rfl,hc⟩:=(HDR.q _ hb).2.2.1.at_ hlt;have e0:=hc 0 _ rfl;have e1:=hc 1 _ rfl;have e2:=hc 2 _ rfl;have e3:=hc 3 _ rfl;simp only[bM] at e0;have hye:c.M[k]?=some y.base:=by rw[<-zO.q.2.2.1,lZ,hy];rfl
       have hys:c.SM[k]?=some (mn y):=by rw[<-zO.q.2.2.2.2.2,lZ,hy];rfl
       have vU:=C (agA (F:=F) (k:=en) (d:=dZ) (q:=0) hye hys);have zY:=C (λW (hW:V (b3+1) W1 W)=>(HDR.q W hW).2.2.2.2.2.2 y (bQ hy));have j4:Hid ((mn y).length<=2000000):=C (HZ.q.sm _ (bQ hys));have hkn:k<2000000:=by have:=HZ.q.m;have:=(bG.1 hye).1;omega
       have hel:xm.length=k:=by have h:=dF List.length hn.bm;rw[bH] at h;rw[h];show((c.M.take k).map _).length=k;rw[bH,dN];have:=(bG.1 hye).1;omega
       obtain⟨L,hL⟩:∃L,L=mn y:=⟨_,rfl⟩;simp only[<-hL] at vU zY j4;clear hc hye hys hL hy;obtain⟨xp,xo,xf,xa,xn,xc⟩:=y;simp only at zY;obtain⟨v5,h5,vM⟩:=hn.m;obtain⟨a5,q5,rfl,_,_⟩:=vM.shape;rw[hel] at h5 vM;have H5:=C h5;have xD:=C hel;have hk0:=aB (P wr.1.size wr) (R #[G H xp,G H xo,.bool xf,I xa xn xc] 77);have hxs:=Bx.new wr #[G H xp,G H xo,.bool xf,I xa xn xc] 77;have fO:=C (gy.q _ _ (gy.q _ _ hb hk0) (P _ _).drew);have jK:=C ((hn.below hk0).below (P _ _).drew);have jA:=C ((vM.below hk0 rfl).below (P _ _).drew rfl);have gV:=C hxs.drew;have wJ:Hid (∀g,(Value.slice a5 k q5).ownBlock=some g->g<wr.1.size):=C (λg e=>(vM.lt g e).2);obtain⟨i,z,hi⟩:=He;have HI:=C hi;have hcx:=hxs.1;clear hi hk0 hxs hb hn vM h5 hel;go_wp2_with fail;clear e0 e1 e2 e3 hcx;revert fO jK jA gV;generalize(wr.alloc (R #[G H xp,G H xo,.bool xf,I xa xn xc] 77))=Xk;intro fO jK jA gV;obtain⟨ks,hks⟩:∃ks,ks=wr.1.size:=⟨_,rfl⟩;rw[<-hks] at gV wJ ⊢;clear hks;have pK:=(jK.q.b.1 6).trans H5.q;refine aC 23 [(0,0),(1,0),(2,0),(3,0),(4,0),(5,0),(7,0),(8,0),(9,0),(10,0),(12,0),(13,0),(14,0),(15,0),(16,0),(17,0),(6,2),(11,2),(18,2),(19,0),(20,2),(21,2),(22,0),(23,2)] (λ_=>True) (λW'=>W'.cell? ⟨bo,6,J⟩=some (I a5 k q5)/\Bx W' b3 #[(q 0).v,(q 1).v,(q 2).v,(q 3).v]/\Bx W' ks #[G H xp,G H xo,.bool xf,I xa xn xc]) av av N ⟨pK,(HST.q _ fO.q).2,gV.q⟩ ?_;clear pK;revert fO jK jA gV;generalize Xk.drew=Y0;intro fO jK jA gV;refine qC ?_;refine aD rfl rfl (λK hK=>?_);go_simp;refine(Af _ _ _ (F 3) xp Y0 (ql.q _ fO.q 3 aj)).mono ?_;rintro e Y1 ⟨rfl,h1⟩;have fO:=C (gy.q _ _ fO.q h1);have jK:=C (jK.q.below h1);have jA:=C (jA.q.below h1 rfl);have gV:=C (gV.q.keep h1);refine hK _ _ ⟨N,(jK.q.b.1 6).trans H5.q,(HST.q _ fO.q).2,gV.q⟩ ?_;clear hK K h1;refine aD rfl rfl (λK hK=>?_);go_simp;refine(Af _ _ _ (F 2) xo Y1 (ql.q _ fO.q 2 aj)).mono ?_;rintro e Y2 ⟨rfl,h1⟩;have fO:=C (gy.q _ _ fO.q h1);have jK:=C (jK.q.below h1);have jA:=C (jA.q.below h1 rfl);have gV:=C (gV.q.keep h1);refine hK _ _ ⟨N,(jK.q.b.1 6).trans H5.q,(HST.q _ fO.q).2,gV.q⟩ ?_;clear hK K h1;refine aD rfl rfl (λK hK=>?_);go_simp;refine(Mr (b3+1) (ql.q _ fO.q 0 aj) (zY.q _ fO.q) j4.q (jl.q _ fO.q)).mono ?_;rintro e Y3 ⟨⟨sa,sn,sc⟩,rfl,h2,h1⟩;have fO:=C (gy.q _ _ fO.q h1);have jK:=C (jK.q.below h1);have jA:=C (jA.q.below h1 rfl);have gV:=C (gV.q.keep h1);have HOW:=C h2;clear h2;refine hK _ _ ⟨N,(jK.q.b.1 6).trans H5.q,(HST.q _ fO.q).2,gV.q⟩ ?_;clear hK K h1;refine qC ?_;refine aD rfl rfl (λK hK=>?_);go_simp;obtain⟨x,hx⟩:∃x,x=(⟨dh (F 3) xp,dh (F 2) xo,xf,sa,sn,sc⟩:aN):=⟨_,rfl⟩;have lI:=C hx;have h1:=aB (P Y3.1.size Y3) (R #[G H (dh (F 3) xp),G H (dh (F 2) xo),.bool xf,I sa sn sc] 77);have Ms:=C jK.q;have Mt:=C jA.q;have Mw:=C fO.q;have HR1:Hid (Row (Y3.alloc (R #[G H (dh (F 3) xp),G H (dh (F 2) xo),.bool xf,I sa sn sc] 77)) 4 eP (some ⟨Y3.1.size,0,J⟩) 1 1 [x]):=C (by rw[hx];exact Row.ma1 Y3 (⟨dh (F 3) xp,dh (F 2) xo,xf,sa,sn,sc⟩:aN));have fO:=C (gy.q _ _ fO.q h1);have jK:=C (jK.q.below h1);have jA:=C (jA.q.below h1 rfl);have gV:=C (gV.q.keep h1);refine hK _ _ ⟨N,(jK.q.b.1 6).trans H5.q,(HST.q _ fO.q).2,gV.q⟩ ?_;clear hK K h1;clear hx;have kM:=C (jl.q _ fO.q);refine aD rfl rfl (λK hK=>?_);refine ko _ _ 33 rfl i z 48 underlying33 HI.q.1 HI.q.2.1 HI.q.2.2.1 HI.q.2.2.2.1 HI.q.2.2.2.2 rfl jA.q (some ⟨Y3.1.size,0,J⟩) 1 1 (k+1) [x] rfl HR1.q (by rw[xD.q]) ah (by unfold maxLen;omega) kM.q ?_;intro a' c' w9 fq dx lH;obtain⟨qM,rV,Bh,tV,Gn⟩:=Ms.q.app (j:=6) Mt.q aj aj dx fq;have uR:=C (⟨rV,Bh,tV,Gn⟩:_/\_/\_/\_);have Ou:=C (fO.q.grown dx kM.q (λg e=>(jA.q.lt g e).1));refine hK _ _ ⟨N,(qM.1 6).trans H5.q,(HST.q _ Ou.q).2,gV.q.grown dx (λe=>by have:=wJ.q _ e;omega)⟩ ?_;have Ap:=qM.2.1 6;have KE:=qM.2.2;have pK:=(qM.1 6).trans H5.q;clear hK K fq dx lH qM rV Bh tV Gn;refine qC ?_;refine bq rfl rfl rfl (λK hK=>?_);go_simp;refine hK _ _ N ?_;clear hK K Ap KE pK;refine aJ ?_;go_wp2_with fail;go_roundw
       case' rel=>exact⟨k+1,_,_,by omega,by go_num,uR.q.1.below Mw.q (λi hi=>⟨by have:=uQ.q;omega,λe=>by have:=(Mt.q.lt _ e).1;omega⟩) (jl.q _ Mw.q),by rw[vU.q];have h:=Ms.q.NS H5.q uR.q.1 uR.q.2.1 uR.q.2.2.1 uR.q.2.2.2 (by rw[lI.q];exact HOW.q);rw[lI.q] at h;exact h⟩
       case' measure=>simp[U];omega
      case' neg=>
       obtain rfl:eD=k:=by omega
       clear hlt hk;have hcx:=(HST.q _ hb).1.1;go_wp2_with fail;clear hcx hb hn
       go_loopw [178] (λi wr=>∃(k:Nat)(cs:Array Value),k<=wn/\i= G H k/\V (b3+1) W1 wr/\j6 b3 wr bo cs (mR F c en dZ eD k) es' xd xm) (λi _=>wn - (U i).toNat)
       case' atStart=>exact⟨0,_,aV _,rfl,HB.q,Fx.q⟩
       case' round=>
        obtain⟨k,cs,hk,rfl,hb,hn⟩:=hrel;have HB:=C hb;have Fx:=C hn;by_cases hlt:k<wn
        case' pos=>
         obtain⟨y,b,o,hy,rfl,hc⟩:=(HDR.q _ hb).2.2.2.1.at_ hlt;have e0:=hc 0 _ rfl;have e1:=hc 1 _ rfl;simp only[bM] at e0;have vU:=C (agB (F:=F) (k:=en) (d:=dZ) (m:=eD) hy);have hkn:k<2000000:=by have:=HZ.q.q;have:=(bG.1 hy).1;omega
         have hel:(mR F c en dZ eD k).Q.length=k:=by show((c.Q.take k).map _).length=k;rw[bH,dN];have:=(bG.1 hy).1;omega
         clear hc hy;obtain⟨xq,xb⟩:=y;obtain⟨v5,h5,vM⟩:=hn.q;obtain⟨a5,q5,rfl,_,_⟩:=vM.shape;rw[hel] at h5 vM;have H5:=C h5;have xD:=C hel;have hk0:=aB (P wr.1.size wr) (R #[G H xq,G H xb] 79);have hxs:=Bx.new wr #[G H xq,G H xb] 79;have fO:=C (gy.q _ _ (gy.q _ _ hb hk0) (P _ _).drew);have jK:=C ((hn.below hk0).below (P _ _).drew);have jA:=C ((vM.below hk0 rfl).below (P _ _).drew rfl);have gV:=C hxs.drew;have wJ:Hid (∀g,(Value.slice a5 k q5).ownBlock=some g->g<wr.1.size):=C (λg e=>(vM.lt g e).2);obtain⟨i,z,hi⟩:=Hf;have HI:=C hi;have hcx:=hxs.1;clear hi hk0 hxs hb hn vM h5 hel;go_wp2_with fail;clear e0 e1 hcx;revert fO jK jA gV;generalize(wr.alloc (R #[G H xq,G H xb] 79))=Xk;intro fO jK jA gV;obtain⟨ks,hks⟩:∃ks,ks=wr.1.size:=⟨_,rfl⟩;rw[<-hks] at gV wJ ⊢;clear hks;have pK:=(jK.q.b.1 7).trans H5.q;refine aC 13 [(0,0),(1,0),(2,0),(3,0),(4,0),(5,0),(7,0),(8,0),(6,2),(9,0),(10,2),(11,2),(12,0),(13,2)] (λ_=>True) (λW'=>W'.cell? ⟨bo,7,J⟩=some (I a5 k q5)/\Bx W' b3 #[(q 0).v,(q 1).v,(q 2).v,(q 3).v]/\Bx W' ks #[G H xq,G H xb]) av av N ⟨pK,(HST.q _ fO.q).2,gV.q⟩ ?_;clear pK;revert fO jK jA gV;generalize Xk.drew=Y0;intro fO jK jA gV;refine qC ?_;refine aD rfl rfl (λK hK=>?_);go_simp;refine(Af _ _ _ (F 1) xq Y0 (ql.q _ fO.q 1 aj)).mono ?_;rintro e Y1 ⟨rfl,h1⟩;have fO:=C (gy.q _ _ fO.q h1);have jK:=C (jK.q.below h1);have jA:=C (jA.q.below h1 rfl);have gV:=C (gV.q.keep h1);refine hK _ _ ⟨N,(jK.q.b.1 7).trans H5.q,(HST.q _ fO.q).2,gV.q⟩ ?_;clear hK K h1;refine qC ?_;refine aD rfl rfl (λK hK=>?_);go_simp;obtain⟨x,hx⟩:∃x,x=(⟨dh (F 1) xq,xb⟩:Wa):=⟨_,rfl⟩;have lI:=C hx;have h1:=aB (P Y1.1.size Y1) (R #[G H (dh (F 1) xq),G H xb] 79);have Ms:=C jK.q;have Mt:=C jA.q;have Mw:=C fO.q;have HR1:Hid (Row (Y1.alloc (R #[G H (dh (F 1) xq),G H xb] 79)) 2 fQ (some ⟨Y1.1.size,0,J⟩) 1 1 [x]):=C (by rw[hx];exact Row.wa1 Y1 (⟨dh (F 1) xq,xb⟩:Wa));have fO:=C (gy.q _ _ fO.q h1);have jK:=C (jK.q.below h1);have jA:=C (jA.q.below h1 rfl);have gV:=C (gV.q.keep h1);refine hK _ _ ⟨N,(jK.q.b.1 7).trans H5.q,(HST.q _ fO.q).2,gV.q⟩ ?_;clear hK K h1;clear hx;have kM:=C (jl.q _ fO.q);refine aD rfl rfl (λK hK=>?_);refine ko _ _ 34 rfl i z 16 underlying34 HI.q.1 HI.q.2.1 HI.q.2.2.1 HI.q.2.2.2.1 HI.q.2.2.2.2 rfl jA.q (some ⟨Y1.1.size,0,J⟩) 1 1 (k+1) [x] rfl HR1.q (by rw[xD.q]) ah (by unfold maxLen;omega) kM.q ?_;intro a' c' w9 fq dx lH;obtain⟨qM,rV,Bh,tV,Gn⟩:=Ms.q.app (j:=7) Mt.q aj aj dx fq;have uR:=C (⟨rV,Bh,tV,Gn⟩:_/\_/\_/\_);have Ou:=C (fO.q.grown dx kM.q (λg e=>(jA.q.lt g e).1));refine hK _ _ ⟨N,(qM.1 7).trans H5.q,(HST.q _ Ou.q).2,gV.q.grown dx (λe=>by have:=wJ.q _ e;omega)⟩ ?_;have Ap:=qM.2.1 7;have KE:=qM.2.2;have pK:=(qM.1 7).trans H5.q;clear hK K fq dx lH qM rV Bh tV Gn;refine qC ?_;refine bq rfl rfl rfl (λK hK=>?_);go_simp;refine hK _ _ N ?_;clear hK K Ap KE pK;refine aJ ?_;go_wp2_with fail;go_roundw
         case' rel=>exact⟨k+1,_,by omega,by go_num,uR.q.1.below Mw.q (λi hi=>⟨by have:=uQ.q;omega,λe=>by have:=(Mt.q.lt _ e).1;omega⟩) (jl.q _ Mw.q),by rw[vU.q];have h:=Ms.q.want H5.q uR.q.1 uR.q.2.1 uR.q.2.2.1 uR.q.2.2.2;rw[lI.q] at h;exact h⟩
         case' measure=>simp[U];omega
        case' neg=>
         obtain rfl:wn=k:=by omega
         clear hlt hk;have hle:en=c.E.length:=uF.q.1;have hld:dZ=c.D.length:=uF.q.2.1;have hlm:eD=c.M.length:=uF.q.2.2.1;have Xi:wn=c.Q.length:=uF.q.2.2.2.1;have hse:c.SE.length=c.E.length:=by rw[<-zO.q.1,<-zO.q.2.2.2.1,bH,bH]
         have hsd:c.SD.length=c.D.length:=by rw[<-zO.q.2.1,<-zO.q.2.2.2.2.1,bH,bH]
         have hsm:c.SM.length=c.M.length:=by rw[<-zO.q.2.2.1,<-zO.q.2.2.2.2.2,bH,bH]
         have hall:mR F c en dZ eD wn=IL F c:=adJ ah ah ah ah ah ah ah;rw[hall] at hn;clear hle hld hlm Xi hse hsd hsm hall;obtain⟨h',vF,DI,DJ,rfl,ho⟩:=hn.his HZN.q (Same.refl' wr);have yD:=C ho;have iT:=C hn.b;have hcb:=hn.b.1;have hzz:=HZW.q _ hb;have HZZ:=C hzz;have hcx:=hzz.1;have hfx:=hzz.2.1;have hlx:=hzz.2.2;clear hn hb ho hzz;go_wp2_with fail;have hz1:=oC (h':=h') HZZ.q;have hz2:=j5 (X:=wr) (b:=w.1.size+1) (h':=h');revert hz1 hz2;generalize((((((((wr.setCell ⟨w.1.size+1,0,J⟩ h'.t.v).setCell ⟨w.1.size+1,1,J⟩ h'.s.v).setCell ⟨w.1.size+1,2,J⟩ h'.o.v).setCell ⟨w.1.size+1,3,J⟩ h'.p.v).setCell ⟨w.1.size+1,4,J⟩ h'.e.v).setCell ⟨w.1.size+1,5,J⟩ h'.d.v).setCell ⟨w.1.size+1,6,J⟩ h'.m.v).setCell ⟨w.1.size+1,7,J⟩ h'.w.v)=Z9;intro hz1 hz2;have hcz:=hz1.1;have hHS:=HHS.q;have hBZ:=bE.q.trans (HB.q.mono ah);refine bodyPost_ret (v:=gH h') (by simp[results,results20,go_sem,hcz]) rfl ⟨hz2.below hBZ (λi hi=>by omega) hBZ.size,h',es',xd,xm,vF,DI,DJ,rfl,?_⟩;rw[HNC.q];exact(yD.q.same (hz2.mono (λi hi _=>by omega))).mono ah
end Yd
