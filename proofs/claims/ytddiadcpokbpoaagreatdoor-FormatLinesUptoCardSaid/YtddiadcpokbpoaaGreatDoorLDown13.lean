import Derived.Test.YtddiadcpokbpoaaGreatDoorLRRi
import Derived.Test.YtddiadcpokbpoaaGreatDoorRows
import Derived.ProofKit
import Derived.OpenShut
import Derived.Deep.Slices
import Derived.Test.YtddiadcpokbpoaaGreatDoorLCuK
import Derived.Test.YtddiadcpokbpoaaGreatDoorCards
import Derived.Test.YtddiadcpokbpoaaGreatDoorTie
import Derived.Deep.DeepHandedRow
import Derived.Lib.LaidU8
import Derived.LaidMore
set_option linter.all false
set_option maxRecDepth 200000
set_option maxHeartbeats 8000000
namespace Yd
open Bool renaming false->m
open Go Go.RowKit Go.Proofs
open Go.IntKind renaming i64->d
open Go.Value renaming int->c,slice->g,bool->p
open RowKit renaming intOf->n
open Yd renaming hid->a
open _root_ renaming Int->f
attribute [local go_sem] Oper.semAt_some
theorem VN {w:World}{B:Nat}{l:bB}{s:aP}(k:Nat)(hk:k<10)(he1:((k:f)==1)=m)(Iq:((k:f)==8)=m)(Om:((k:f)==9)=m)(h:iB w B l s)(hkd:s.kind=(k:f))(hn:s.names.length<=1000)(hv:s.aF.length<=1000):
  Calls Tryz.prog 18 #[jg l] w (cK (p (jT k s)) w):=by
 have lU:=a (h.2.1.row ah);have yc:=a (h.2.2.row ah);obtain⟨⟨q1,q2,q3,q4,q5,q6⟩, -, -⟩:=h;obtain⟨lk,na,nn,nc,lvl,va,vn,vc,lf,bits⟩:=l;obtain⟨sk,names,slv,aF,first,sbt⟩:=s;simp only at q1 q2 q3 q4 q5 q6 hkd hn hv lU yc;subst q1 q2 q3 q4 hkd;obtain⟨N,hN⟩:∃N:f,cu k=N:=⟨_,rfl⟩;obtain⟨M,hM⟩:∃M:f,cu k+jq (bZ k)=M:=⟨_,rfl⟩;obtain⟨V,hV⟩:∃V:f,pz (bZ k) ((nn:f) - cu k)=V:=⟨_,rfl⟩;have Oo:Hid (∀W,Calls Tryz.prog 47 #[c d (k:f)] W (sH (c d N) (c d M) W)):=a (λW=>by have:=Na k hk W;rw[hM,hN] at this;exact this);have Cv:Hid (∀W,Calls Tryz.prog 48 #[c d (k:f),c d (nn:f)] W (cK (c d V) W)):=a (λW=>by have:=AQ k hk nn ah W;rw[hV] at this;exact this);have yu:Hid (jT k ⟨(k:f),names,lvl,aF,lf,bits⟩=((!decide ((nn:f)<N) && !decide (M<(nn:f)) && ((vn:f)==V) && aF.all toB) && names.all (λx=>bD ⟨x.toArray⟩) && ((lvl==0) && (!lf||false) && (bits==0||(m && (decide (0<bits) && decide (bits<16))))))):=a (by
  have hr:bZ k≠108/\bZ k≠109/\bZ k≠103:=by
   have h1:=he1;have h8:=Iq;have h9:=Om;simp only[aR,ne_eq] at h1 h8 h9;rcases(by omega:k=0\/k=1\/k=2\/k=3\/k=4\/k=5\/k=6\/k=7\/k=8\/k=9) with rfl|rfl|rfl|rfl|rfl|rfl|rfl|rfl|rfl|rfl <;> first|decide|omega
  unfold jT;simp only[];rw[<-q5,<-q6,hV,hN];rw[show decide (N<=(nn:f))=!decide ((nn:f)<N) by rw[<-decide_not];exact decide_eq_decide.2 ah,show decide ((nn:f) - N<=jq (bZ k))=!decide (M<(nn:f)) by rw[<-decide_not];exact decide_eq_decide.2 ah,show decide ((vn:f)=V)=((vn:f)==V) from rfl];rw[show(bZ k==108)=m from aR.2 hr.1,show(bZ k==109)=m from aR.2 hr.2.1,show(bZ k==103)=m from aR.2 hr.2.2];have hl:((lvl !=0))=!(lvl==0):=rfl;rw[hl];rw[show decide (bits<=15)=decide (bits<16) from decide_eq_decide.2 ah];generalize(!decide ((nn:f)<N) && !decide (M<(nn:f)) && ((vn:f)==V) && aF.all toB)=a1;generalize names.all (λx=>bD ⟨x.toArray⟩)=a2;generalize fF lvl=a3;generalize(lvl==0)=a4;generalize(bits==0)=a5;generalize decide (0<bits)=a6;generalize decide (bits<16)=a7;revert a1 a2 a3 a4 a5 a6 a7 lf;decide)
 obtain⟨out,hO⟩:∃out:Bool,out=jT k ⟨(k:f),names,lvl,aF,lf,bits⟩:=⟨_,rfl⟩;rw[<-hO];have fV:=a (hO.trans yu.q);have hle:nn<=1000:=by omega
 have hle2:vn<=1000:=by omega
 have h10:(k:f)<10:=by omega
 have h09:decide (9<(k:f))=m:=by simp;omega
 have HQ:=a (⟨q5,q6⟩:_/\_);clear hO hN hM hV yu q5 q6 hn hv;have hn1:((k:f)!=1)=true:=by unfold bne;rw[he1];rfl
 have HX0:=a (Bx.new w #[c d (k:f),g na nn nc,c d lvl,g va vn vc,p lf,c d bits] 30);have HB0:=a (aB (Below.refl w.1.size w) (.cells #[c d (k:f),g na nn nc,c d lvl,g va vn vc,p lf,c d bits] 30));go_enter Tryz.func18,Tryz.ntmps18;have hcx:=HX0.q.1;go_wp2_with fail;refine(Oo.q _).mono ?_;rintro e w1 ⟨rfl,hb1⟩;have bP:=a (HX0.q.keep hb1);have HB1:=a (HB0.q.bO hb1);clear hb1 hcx;have hcx:=bP.q.1
 cases h1:decide ((nn:f)<N)
 case true=>
  have H1:=a h1;go_wp2_with fail;refine aC 99 [(0,0),(1,0),(2,0),(3,0),(4,0),(5,0),(6,0),(7,0),(8,0),(9,0),(10,0),(11,0),(12,0),(13,0),(14,0),(15,0),(16,0),(17,0),(18,0),(19,0),(20,0),(21,0),(22,0),(23,0)] (λ_=>True) (λW'=>Bx W' w.1.size #[c d (k:f),g na nn nc,c d lvl,g va vn vc,p lf,c d bits]) av av (trivial) (bP.q.drew) ?_;refine qC ?_;refine aJ ?_;have hout:out=m:=by rw[fV.q];simp[H1.q]
  go_wp2_with fail;go_ret;rw[hout];exact⟨rfl,HB1.q.drew⟩
 have H1:=a h1
 cases h2:decide (M<(nn:f))
 case true=>
  have H2:=a h2;go_wp2_with fail;refine aC 99 [(0,0),(1,0),(2,0),(3,0),(4,0),(5,0),(6,0),(7,0),(8,0),(9,0),(10,0),(11,0),(12,0),(13,0),(14,0),(15,0),(16,0),(17,0),(18,0),(19,0),(20,0),(21,0),(22,0),(23,0)] (λ_=>True) (λW'=>Bx W' w.1.size #[c d (k:f),g na nn nc,c d lvl,g va vn vc,p lf,c d bits]) av av (trivial) (bP.q.drew) ?_;refine qC ?_;refine aJ ?_;have hout:out=m:=by rw[fV.q];simp[H1.q,H2.q]
  go_wp2_with fail;go_ret;rw[hout];exact⟨rfl,HB1.q.drew⟩
 have H2:=a h2
 cases h3:((vn:f)==V)
 case false=>
  have FY:((vn:f)!=V)=true:=by unfold bne;rw[h3];rfl
  have H3:=a h3;clear h3;go_wp2_with fail;refine aC 99 [(0,0),(1,0),(2,0),(3,0),(4,0),(5,0),(6,0),(7,0),(8,0),(9,0),(10,0),(11,0),(12,0),(13,0),(14,0),(15,0),(16,0),(17,0),(18,0),(19,0),(20,0),(21,2),(22,0),(23,0)] (λ_=>True) (λW'=>Bx W' w.1.size #[c d (k:f),g na nn nc,c d lvl,g va vn vc,p lf,c d bits]) av av (trivial) (bP.q.drew) ?_;refine qC ?_;refine aD rfl rfl (λK hK=>?_);go_simp;refine(Cv.q _).mono ?_;rintro e w2 ⟨rfl,hb2⟩;have bL:=a (bP.q.drew.keep hb2);have HB2:=a (HB1.q.drew.trans (hb2.mono HB1.q.drew.size));refine hK _ _ ⟨trivial,bL.q⟩ ?_;clear hK K hb2 hcx;have hcx:=bL.q.1;refine qC ?_;refine aJ ?_;have hout:out=m:=by rw[fV.q];simp[H1.q,H2.q,H3.q]
  go_wp2_with fail;go_ret;rw[hout];exact⟨rfl,HB2.q⟩
 case true=>
  have FY:((vn:f)!=V)=m:=by unfold bne;rw[h3];rfl
  have H3:=a h3;clear h3;go_wp2_with fail;refine aC 99 [(0,0),(1,0),(2,0),(3,0),(4,0),(5,0),(6,0),(7,0),(8,0),(9,0),(10,0),(11,0),(12,0),(13,0),(14,0),(15,0),(16,0),(17,0),(18,0),(19,0),(20,0),(21,2),(22,0),(23,0)] (λ_=>True) (λW'=>Bx W' w.1.size #[c d (k:f),g na nn nc,c d lvl,g va vn vc,p lf,c d bits]) av av (trivial) (bP.q.drew) ?_;refine qC ?_;refine aD rfl rfl (λK hK=>?_);go_simp;refine(Cv.q _).mono ?_;rintro e w2 ⟨rfl,hb2⟩;have bL:=a (bP.q.drew.keep hb2);have HB2:=a (HB1.q.drew.trans (hb2.mono HB1.q.drew.size));refine hK _ _ ⟨trivial,bL.q⟩ ?_;clear hK K hb2 hcx;have hcx:=bL.q.1;refine qC ?_;refine aJ ?_;go_wp2_with fail;clear hcx h1 h2 FY
  go_loopw [51] (λi wr=>∃j:Nat,j<=nn/\i= c d j/\Below w.1.size w wr/\Bx wr w.1.size #[c d (k:f),g na nn nc,c d lvl,g va vn vc,p lf,c d bits]/\(names.take j).all (λx=>bD ⟨x.toArray⟩)=true) (λi _=>nn - (n i).toNat)
  case atStart=>exact⟨0,aV _,rfl,HB2.q,bL.q,rfl⟩
  case round=>
   obtain⟨j,hj,rfl,hbw,hxw,hall⟩:=hrel;have bE:=a hbw;have gI:=a hxw;have tC:=a hall;clear hbw hxw hall;by_cases hlt:j<nn
   .obtain⟨x,b,o,hx,rfl,hc⟩:=(lU.q.below bE.q rfl).at_ hlt
    have e0:=hc 0 _ rfl;simp only[jo,bM] at e0;have uI:=a hx;clear hx hc;go_wp2_with fail;refine(Bo ⟨x.toArray⟩ _).mono ?_;rintro e w3 ⟨rfl,hb3⟩;rw[yw];have eX:=a (gI.q.keep hb3);have HB3:=a (bE.q.bO hb3);clear hb3 e0
    cases hw:bD ⟨x.toArray⟩
    .have HW:=a hw
     clear hw;have hal:names.all (λx=>bD ⟨x.toArray⟩)=m:=List.all_eq_false.2 ⟨x,bQ uI.q,by rw[HW.q];simp⟩;have mG:=a hal;clear hal;have hout:out=m:=by rw[fV.q];simp[mG.q]
     go_wp2_with fail;go_ret;rw[hout];exact⟨rfl,HB3.q⟩
    .have HW:=a hw
     clear hw;go_wp2_with fail;go_roundw
     case rel=>exact⟨j+1,by omega,by go_num,HB3.q,eX.q,by rw[eO,uI.q,List.all_append,tC.q];simp[HW.q]⟩
     case measure=>simp[n];omega
   .obtain rfl:nn=j:=by omega
    have mG:Hid (names.all (λx=>bD ⟨x.toArray⟩)=true):=a (by have:=tC.q;rwa[dR (by have:=HQ.q;omega)] at this);have hcx:=gI.q.1;go_wp2_with fail;clear hcx
    go_loopw [62] (λi wr=>∃j:Nat,j<=vn/\i= c d j/\Below w.1.size w wr/\Bx wr w.1.size #[c d (k:f),g na nn nc,c d lvl,g va vn vc,p lf,c d bits]/\(aF.take j).all toB=true) (λi _=>vn - (n i).toNat)
    case atStart=>exact⟨0,aV _,rfl,bE.q,gI.q,rfl⟩
    case round=>
     obtain⟨j,hj,rfl,hbw,hxw,hall⟩:=hrel;have mH:=a hbw;have yR:=a hxw;have Bp:=a hall;clear hbw hxw hall;by_cases hlt:j<vn
     .obtain⟨x,b,o,hx,rfl,hc⟩:=(yc.q.below mH.q rfl).at_ hlt
      have e0:=hc 0 _ rfl;have e1:=hc 1 _ rfl;simp only[bM] at e0;have uI:=a hx;clear hx hc;have FZ:=a (yR.q.alloc (.cells (tq x) 52));have iO:=a (aB mH.q (.cells (tq x) 52));go_wp2_with fail;refine(zG x _).mono ?_;rintro e w3 ⟨rfl,hb3⟩;have eX:=a (FZ.q.keep hb3);have HB3:=a (iO.q.bO hb3);clear hb3 e0 e1
      cases hw:toB x
      .have HW:=a hw
       clear hw;have hal:aF.all toB=m:=List.all_eq_false.2 ⟨x,bQ uI.q,by rw[HW.q];simp⟩;have jE:=a hal;clear hal;have hout:out=m:=by rw[fV.q];simp[jE.q]
       go_wp2_with fail;go_ret;rw[hout];exact⟨rfl,HB3.q⟩
      .have HW:=a hw
       clear hw;go_wp2_with fail;go_roundw
       case rel=>exact⟨j+1,by omega,by go_num,HB3.q,eX.q,by rw[eO,uI.q,List.all_append,Bp.q];simp[HW.q]⟩
       case measure=>simp[n];omega
     .obtain rfl:vn=j:=by omega
      have jE:Hid (aF.all toB=true):=a (by have:=Bp.q;rwa[dR (by have:=HQ.q;omega)] at this);have hcx:=yR.q.1
      cases h6:(lvl==0)
      .skip
       go_wp2_with fail;go_ret;have hout:out=m:=by rw[fV.q];simp[H1.q,H2.q,H3.q,mG.q,jE.q,h6]
       rw[hout];exact⟨rfl,mH.q⟩
      .skip
       cases lf
       .skip
        cases h8:(bits==0)
        .skip
         go_wp2_with fail;go_ret;have hout:out=m:=by rw[fV.q];simp[H1.q,H2.q,H3.q,mG.q,jE.q,h6,h8]
         rw[hout];exact⟨rfl,mH.q⟩
        .skip
         go_wp2_with fail;go_ret;have hout:out=true:=by rw[fV.q];simp[H1.q,H2.q,H3.q,mG.q,jE.q,h6,h8]
         rw[hout];exact⟨rfl,mH.q⟩
       .skip
        go_wp2_with fail;go_ret;have hout:out=m:=by rw[fV.q];simp[H1.q,H2.q,H3.q,mG.q,jE.q,h6]
        rw[hout];exact⟨rfl,mH.q⟩
end Yd
namespace Yd
open Bool renaming false->g,true->r
open Go Go.RowKit Go.Proofs
open Go.IntKind renaming i64->d
open Go.Value renaming int->c,slice->m,bool->n
open RowKit renaming intOf->p
open Yd renaming hid->a
open _root_ renaming Int->f
attribute [local go_sem] Oper.semAt_some
theorem VO {w:World}{B:Nat}{l:bB}{s:aP}(k:Nat)(hk:k<10)(he1:((k:f)==1)=r)(Iq:((k:f)==8)=g)(Om:((k:f)==9)=g)(h:iB w B l s)(hkd:s.kind=(k:f))(hn:s.names.length<=1000)(hv:s.aF.length<=1000):
  Calls Tryz.prog 18 #[jg l] w (cK (n (jT k s)) w):=by
 have lU:=a (h.2.1.row ah);have yc:=a (h.2.2.row ah);obtain⟨⟨q1,q2,q3,q4,q5,q6⟩, -, -⟩:=h;obtain⟨lk,na,nn,nc,lvl,va,vn,vc,lf,bits⟩:=l;obtain⟨sk,names,slv,aF,first,sbt⟩:=s;simp only at q1 q2 q3 q4 q5 q6 hkd hn hv lU yc;subst q1 q2 q3 q4 hkd;obtain⟨N,hN⟩:∃N:f,cu k=N:=⟨_,rfl⟩;obtain⟨M,hM⟩:∃M:f,cu k+jq (bZ k)=M:=⟨_,rfl⟩;obtain⟨V,hV⟩:∃V:f,pz (bZ k) ((nn:f) - cu k)=V:=⟨_,rfl⟩;have Oo:Hid (∀W,Calls Tryz.prog 47 #[c d (k:f)] W (sH (c d N) (c d M) W)):=a (λW=>by have:=Na k hk W;rw[hM,hN] at this;exact this);have Cv:Hid (∀W,Calls Tryz.prog 48 #[c d (k:f),c d (nn:f)] W (cK (c d V) W)):=a (λW=>by have:=AQ k hk nn ah W;rw[hV] at this;exact this);have yu:Hid (jT k ⟨(k:f),names,lvl,aF,lf,bits⟩=((!decide ((nn:f)<N) && !decide (M<(nn:f)) && ((vn:f)==V) && aF.all toB) && names.all (λx=>bD ⟨x.toArray⟩) && (fF lvl && (!lf||false) && (bits==0||(g && (decide (0<bits) && decide (bits<16))))))):=a (by
  have hr:bZ k=108:=by
   have h1:=he1;have h8:=Iq;have h9:=Om;simp only[xX,aR,ne_eq] at h1 h8 h9;rcases(by omega:k=0\/k=1\/k=2\/k=3\/k=4\/k=5\/k=6\/k=7\/k=8\/k=9) with rfl|rfl|rfl|rfl|rfl|rfl|rfl|rfl|rfl|rfl <;> first|decide|omega
  unfold jT;simp only[];rw[<-q5,<-q6,hV,hN];rw[show decide (N<=(nn:f))=!decide ((nn:f)<N) by rw[<-decide_not];exact decide_eq_decide.2 ah,show decide ((nn:f) - N<=jq (bZ k))=!decide (M<(nn:f)) by rw[<-decide_not];exact decide_eq_decide.2 ah,show decide ((vn:f)=V)=((vn:f)==V) from rfl];rw[hr];rw[show(lvl !=0)=!(lvl==0) from rfl];have hl:(lvl==0)=r->fF lvl=g:=λh=>by rw[eq_of_beq h];rfl
  rw[show decide (bits<=15)=decide (bits<16) from decide_eq_decide.2 ah];revert hl;generalize(!decide ((nn:f)<N) && !decide (M<(nn:f)) && ((vn:f)==V) && aF.all toB)=a1;generalize names.all (λx=>bD ⟨x.toArray⟩)=a2;generalize fF lvl=a3;generalize(lvl==0)=a4;generalize(bits==0)=a5;generalize decide (0<bits)=a6;generalize decide (bits<16)=a7;revert a1 a2 a3 a4 a5 a6 a7 lf;decide)
 obtain⟨out,hO⟩:∃out:Bool,out=jT k ⟨(k:f),names,lvl,aF,lf,bits⟩:=⟨_,rfl⟩;rw[<-hO];have fV:=a (hO.trans yu.q);have hle:nn<=1000:=by omega
 have hle2:vn<=1000:=by omega
 have h10:(k:f)<10:=by omega
 have h09:decide (9<(k:f))=g:=by simp;omega
 have HQ:=a (⟨q5,q6⟩:_/\_);clear hO hN hM hV yu q5 q6 hn hv;have hn1:((k:f)!=1)=g:=by unfold bne;rw[he1];rfl
 have HX0:=a (Bx.new w #[c d (k:f),m na nn nc,c d lvl,m va vn vc,n lf,c d bits] 30);have HB0:=a (aB (Below.refl w.1.size w) (.cells #[c d (k:f),m na nn nc,c d lvl,m va vn vc,n lf,c d bits] 30));go_enter Tryz.func18,Tryz.ntmps18;have hcx:=HX0.q.1;go_wp2_with fail;refine(Oo.q _).mono ?_;rintro e w1 ⟨rfl,hb1⟩;have bP:=a (HX0.q.keep hb1);have HB1:=a (HB0.q.bO hb1);clear hb1 hcx;have hcx:=bP.q.1
 cases h1:decide ((nn:f)<N)
 case true=>
  have H1:=a h1;go_wp2_with fail;refine aC 99 [(0,0),(1,0),(2,0),(3,0),(4,0),(5,0),(6,0),(7,0),(8,0),(9,0),(10,0),(11,0),(12,0),(13,0),(14,0),(15,0),(16,0),(17,0),(18,0),(19,0),(20,0),(21,0),(22,0),(23,0)] (λ_=>True) (λW'=>Bx W' w.1.size #[c d (k:f),m na nn nc,c d lvl,m va vn vc,n lf,c d bits]) av av (trivial) (bP.q.drew) ?_;refine qC ?_;refine aJ ?_;have hout:out=g:=by rw[fV.q];simp[H1.q]
  go_wp2_with fail;go_ret;rw[hout];exact⟨rfl,HB1.q.drew⟩
 have H1:=a h1
 cases h2:decide (M<(nn:f))
 case true=>
  have H2:=a h2;go_wp2_with fail;refine aC 99 [(0,0),(1,0),(2,0),(3,0),(4,0),(5,0),(6,0),(7,0),(8,0),(9,0),(10,0),(11,0),(12,0),(13,0),(14,0),(15,0),(16,0),(17,0),(18,0),(19,0),(20,0),(21,0),(22,0),(23,0)] (λ_=>True) (λW'=>Bx W' w.1.size #[c d (k:f),m na nn nc,c d lvl,m va vn vc,n lf,c d bits]) av av (trivial) (bP.q.drew) ?_;refine qC ?_;refine aJ ?_;have hout:out=g:=by rw[fV.q];simp[H1.q,H2.q]
  go_wp2_with fail;go_ret;rw[hout];exact⟨rfl,HB1.q.drew⟩
 have H2:=a h2
 cases h3:((vn:f)==V)
 case false=>
  have FY:((vn:f)!=V)=r:=by unfold bne;rw[h3];rfl
  have H3:=a h3;clear h3;go_wp2_with fail;refine aC 99 [(0,0),(1,0),(2,0),(3,0),(4,0),(5,0),(6,0),(7,0),(8,0),(9,0),(10,0),(11,0),(12,0),(13,0),(14,0),(15,0),(16,0),(17,0),(18,0),(19,0),(20,0),(21,2),(22,0),(23,0)] (λ_=>True) (λW'=>Bx W' w.1.size #[c d (k:f),m na nn nc,c d lvl,m va vn vc,n lf,c d bits]) av av (trivial) (bP.q.drew) ?_;refine qC ?_;refine aD rfl rfl (λK hK=>?_);go_simp;refine(Cv.q _).mono ?_;rintro e w2 ⟨rfl,hb2⟩;have bL:=a (bP.q.drew.keep hb2);have HB2:=a (HB1.q.drew.trans (hb2.mono HB1.q.drew.size));refine hK _ _ ⟨trivial,bL.q⟩ ?_;clear hK K hb2 hcx;have hcx:=bL.q.1;refine qC ?_;refine aJ ?_;have hout:out=g:=by rw[fV.q];simp[H1.q,H2.q,H3.q]
  go_wp2_with fail;go_ret;rw[hout];exact⟨rfl,HB2.q⟩
 case true=>
  have FY:((vn:f)!=V)=g:=by unfold bne;rw[h3];rfl
  have H3:=a h3;clear h3;go_wp2_with fail;refine aC 99 [(0,0),(1,0),(2,0),(3,0),(4,0),(5,0),(6,0),(7,0),(8,0),(9,0),(10,0),(11,0),(12,0),(13,0),(14,0),(15,0),(16,0),(17,0),(18,0),(19,0),(20,0),(21,2),(22,0),(23,0)] (λ_=>True) (λW'=>Bx W' w.1.size #[c d (k:f),m na nn nc,c d lvl,m va vn vc,n lf,c d bits]) av av (trivial) (bP.q.drew) ?_;refine qC ?_;refine aD rfl rfl (λK hK=>?_);go_simp;refine(Cv.q _).mono ?_;rintro e w2 ⟨rfl,hb2⟩;have bL:=a (bP.q.drew.keep hb2);have HB2:=a (HB1.q.drew.trans (hb2.mono HB1.q.drew.size));refine hK _ _ ⟨trivial,bL.q⟩ ?_;clear hK K hb2 hcx;have hcx:=bL.q.1;refine qC ?_;refine aJ ?_;go_wp2_with fail;clear hcx h1 h2 FY
  go_loopw [51] (λi wr=>∃j:Nat,j<=nn/\i= c d j/\Below w.1.size w wr/\Bx wr w.1.size #[c d (k:f),m na nn nc,c d lvl,m va vn vc,n lf,c d bits]/\(names.take j).all (λx=>bD ⟨x.toArray⟩)=r) (λi _=>nn - (p i).toNat)
  case atStart=>exact⟨0,aV _,rfl,HB2.q,bL.q,rfl⟩
  case round=>
   obtain⟨j,hj,rfl,hbw,hxw,hall⟩:=hrel;have bE:=a hbw;have gI:=a hxw;have tC:=a hall;clear hbw hxw hall;by_cases hlt:j<nn
   .obtain⟨x,b,o,hx,rfl,hc⟩:=(lU.q.below bE.q rfl).at_ hlt
    have e0:=hc 0 _ rfl;simp only[jo,bM] at e0;have uI:=a hx;clear hx hc;go_wp2_with fail;refine(Bo ⟨x.toArray⟩ _).mono ?_;rintro e w3 ⟨rfl,hb3⟩;rw[yw];have eX:=a (gI.q.keep hb3);have HB3:=a (bE.q.bO hb3);clear hb3 e0
    cases hw:bD ⟨x.toArray⟩
    .have HW:=a hw
     clear hw;have hal:names.all (λx=>bD ⟨x.toArray⟩)=g:=List.all_eq_false.2 ⟨x,bQ uI.q,by rw[HW.q];simp⟩;have mG:=a hal;clear hal;have hout:out=g:=by rw[fV.q];simp[mG.q]
     go_wp2_with fail;go_ret;rw[hout];exact⟨rfl,HB3.q⟩
    .have HW:=a hw
     clear hw;go_wp2_with fail;go_roundw
     case rel=>exact⟨j+1,by omega,by go_num,HB3.q,eX.q,by rw[eO,uI.q,List.all_append,tC.q];simp[HW.q]⟩
     case measure=>simp[p];omega
   .obtain rfl:nn=j:=by omega
    have mG:Hid (names.all (λx=>bD ⟨x.toArray⟩)=r):=a (by have:=tC.q;rwa[dR (by have:=HQ.q;omega)] at this);have hcx:=gI.q.1;go_wp2_with fail;clear hcx
    go_loopw [62] (λi wr=>∃j:Nat,j<=vn/\i= c d j/\Below w.1.size w wr/\Bx wr w.1.size #[c d (k:f),m na nn nc,c d lvl,m va vn vc,n lf,c d bits]/\(aF.take j).all toB=r) (λi _=>vn - (p i).toNat)
    case atStart=>exact⟨0,aV _,rfl,bE.q,gI.q,rfl⟩
    case round=>
     obtain⟨j,hj,rfl,hbw,hxw,hall⟩:=hrel;have mH:=a hbw;have yR:=a hxw;have Bp:=a hall;clear hbw hxw hall;by_cases hlt:j<vn
     .obtain⟨x,b,o,hx,rfl,hc⟩:=(yc.q.below mH.q rfl).at_ hlt
      have e0:=hc 0 _ rfl;have e1:=hc 1 _ rfl;simp only[bM] at e0;have uI:=a hx;clear hx hc;have FZ:=a (yR.q.alloc (.cells (tq x) 52));have iO:=a (aB mH.q (.cells (tq x) 52));go_wp2_with fail;refine(zG x _).mono ?_;rintro e w3 ⟨rfl,hb3⟩;have eX:=a (FZ.q.keep hb3);have HB3:=a (iO.q.bO hb3);clear hb3 e0 e1
      cases hw:toB x
      .have HW:=a hw
       clear hw;have hal:aF.all toB=g:=List.all_eq_false.2 ⟨x,bQ uI.q,by rw[HW.q];simp⟩;have jE:=a hal;clear hal;have hout:out=g:=by rw[fV.q];simp[jE.q]
       go_wp2_with fail;go_ret;rw[hout];exact⟨rfl,HB3.q⟩
      .have HW:=a hw
       clear hw;go_wp2_with fail;go_roundw
       case rel=>exact⟨j+1,by omega,by go_num,HB3.q,eX.q,by rw[eO,uI.q,List.all_append,Bp.q];simp[HW.q]⟩
       case measure=>simp[p];omega
     .obtain rfl:vn=j:=by omega
      have jE:Hid (aF.all toB=r):=a (by have:=Bp.q;rwa[dR (by have:=HQ.q;omega)] at this);have hcx:=yR.q.1;have hln:∀W,Calls Tryz.prog 51 #[c d lvl] W (cK (n (fF lvl)) W):=λW=>ade lvl W
      have nL:=a hln;clear hln
      cases h6:(lvl==0)
      .skip
       go_wp2_with fail;refine(nL.q _).mono ?_;rintro e w4 ⟨rfl,hb4⟩;have lu:=a (yR.q.keep hb4);have fU:=a (mH.q.bO hb4);clear hb4 hcx;have hcx:=lu.q.1
       cases h7:fF lvl
       .skip
        go_wp2_with fail;go_ret;have hout:out=g:=by rw[fV.q];simp[H1.q,H2.q,H3.q,mG.q,jE.q,h7]
        rw[hout];exact⟨rfl,fU.q⟩
       .skip
        cases lf
        .skip
         cases h8:(bits==0)
         .skip
          go_wp2_with fail;go_ret;have hout:out=g:=by rw[fV.q];simp[H1.q,H2.q,H3.q,mG.q,jE.q,h7,h8]
          rw[hout];exact⟨rfl,fU.q⟩
         .skip
          go_wp2_with fail;go_ret;have hout:out=r:=by rw[fV.q];simp[H1.q,H2.q,H3.q,mG.q,jE.q,h7,h8]
          rw[hout];exact⟨rfl,fU.q⟩
        .skip
         go_wp2_with fail;go_ret;have hout:out=g:=by rw[fV.q];simp[H1.q,H2.q,H3.q,mG.q,jE.q,h7]
         rw[hout];exact⟨rfl,fU.q⟩
      .skip
       go_wp2_with fail;refine(nL.q _).mono ?_;rintro e w4 ⟨rfl,hb4⟩;have lu:=a (yR.q.keep hb4);have fU:=a (mH.q.bO hb4);clear hb4 hcx;have hcx:=lu.q.1
       cases h7:fF lvl
       .skip
        go_wp2_with fail;go_ret;have hout:out=g:=by rw[fV.q];simp[H1.q,H2.q,H3.q,mG.q,jE.q,h7]
        rw[hout];exact⟨rfl,fU.q⟩
       .skip
        cases lf
        .skip
         cases h8:(bits==0)
         .skip
          go_wp2_with fail;go_ret;have hout:out=g:=by rw[fV.q];simp[H1.q,H2.q,H3.q,mG.q,jE.q,h7,h8]
          rw[hout];exact⟨rfl,fU.q⟩
         .skip
          go_wp2_with fail;go_ret;have hout:out=r:=by rw[fV.q];simp[H1.q,H2.q,H3.q,mG.q,jE.q,h7,h8]
          rw[hout];exact⟨rfl,fU.q⟩
        .skip
         go_wp2_with fail;go_ret;have hout:out=g:=by rw[fV.q];simp[H1.q,H2.q,H3.q,mG.q,jE.q,h7]
         rw[hout];exact⟨rfl,fU.q⟩
end Yd
namespace Yd
open Bool renaming false->m,true->r
open Go Go.RowKit Go.Proofs
open Go.IntKind renaming i64->d
open Go.Value renaming int->c,slice->g,bool->p
open RowKit renaming intOf->n
open Yd renaming hid->a
open _root_ renaming Int->f
attribute [local go_sem] Oper.semAt_some
theorem VP {w:World}{B:Nat}{l:bB}{s:aP}(k:Nat)(hk:k<10)(he1:((k:f)==1)=m)(Iq:((k:f)==8)=m)(Om:((k:f)==9)=r)(h:iB w B l s)(hkd:s.kind=(k:f))(hn:s.names.length<=1000)(hv:s.aF.length<=1000):
  Calls Tryz.prog 18 #[jg l] w (cK (p (jT k s)) w):=by
 have lU:=a (h.2.1.row ah);have yc:=a (h.2.2.row ah);obtain⟨⟨q1,q2,q3,q4,q5,q6⟩, -, -⟩:=h;obtain⟨lk,na,nn,nc,lvl,va,vn,vc,lf,bits⟩:=l;obtain⟨sk,names,slv,aF,first,sbt⟩:=s;simp only at q1 q2 q3 q4 q5 q6 hkd hn hv lU yc;subst q1 q2 q3 q4 hkd;obtain⟨N,hN⟩:∃N:f,cu k=N:=⟨_,rfl⟩;obtain⟨M,hM⟩:∃M:f,cu k+jq (bZ k)=M:=⟨_,rfl⟩;obtain⟨V,hV⟩:∃V:f,pz (bZ k) ((nn:f) - cu k)=V:=⟨_,rfl⟩;have Oo:Hid (∀W,Calls Tryz.prog 47 #[c d (k:f)] W (sH (c d N) (c d M) W)):=a (λW=>by have:=Na k hk W;rw[hM,hN] at this;exact this);have Cv:Hid (∀W,Calls Tryz.prog 48 #[c d (k:f),c d (nn:f)] W (cK (c d V) W)):=a (λW=>by have:=AQ k hk nn ah W;rw[hV] at this;exact this);have yu:Hid (jT k ⟨(k:f),names,lvl,aF,lf,bits⟩=((!decide ((nn:f)<N) && !decide (M<(nn:f)) && ((vn:f)==V) && aF.all toB) && names.all (λx=>bD ⟨x.toArray⟩) && ((lvl==0) && (!lf||false) && (bits==0||(r && (decide (0<bits) && decide (bits<16))))))):=a (by
  have hr:bZ k=103:=by
   have h1:=he1;have h8:=Iq;have h9:=Om;simp only[xX,aR,ne_eq] at h1 h8 h9;rcases(by omega:k=0\/k=1\/k=2\/k=3\/k=4\/k=5\/k=6\/k=7\/k=8\/k=9) with rfl|rfl|rfl|rfl|rfl|rfl|rfl|rfl|rfl|rfl <;> first|decide|omega
  unfold jT;simp only[];rw[<-q5,<-q6,hV,hN];rw[show decide (N<=(nn:f))=!decide ((nn:f)<N) by rw[<-decide_not];exact decide_eq_decide.2 ah,show decide ((nn:f) - N<=jq (bZ k))=!decide (M<(nn:f)) by rw[<-decide_not];exact decide_eq_decide.2 ah,show decide ((vn:f)=V)=((vn:f)==V) from rfl];rw[hr];have hl:((lvl !=0))=!(lvl==0):=rfl;rw[hl];rw[show decide (bits<=15)=decide (bits<16) from decide_eq_decide.2 ah];generalize(!decide ((nn:f)<N) && !decide (M<(nn:f)) && ((vn:f)==V) && aF.all toB)=a1;generalize names.all (λx=>bD ⟨x.toArray⟩)=a2;generalize fF lvl=a3;generalize(lvl==0)=a4;generalize(bits==0)=a5;generalize decide (0<bits)=a6;generalize decide (bits<16)=a7;revert a1 a2 a3 a4 a5 a6 a7 lf;decide)
 obtain⟨out,hO⟩:∃out:Bool,out=jT k ⟨(k:f),names,lvl,aF,lf,bits⟩:=⟨_,rfl⟩;rw[<-hO];have fV:=a (hO.trans yu.q);have hle:nn<=1000:=by omega
 have hle2:vn<=1000:=by omega
 have h10:(k:f)<10:=by omega
 have h09:decide (9<(k:f))=m:=by simp;omega
 have HQ:=a (⟨q5,q6⟩:_/\_);clear hO hN hM hV yu q5 q6 hn hv;have hn1:((k:f)!=1)=r:=by unfold bne;rw[he1];rfl
 have HX0:=a (Bx.new w #[c d (k:f),g na nn nc,c d lvl,g va vn vc,p lf,c d bits] 30);have HB0:=a (aB (Below.refl w.1.size w) (.cells #[c d (k:f),g na nn nc,c d lvl,g va vn vc,p lf,c d bits] 30));go_enter Tryz.func18,Tryz.ntmps18;have hcx:=HX0.q.1;go_wp2_with fail;refine(Oo.q _).mono ?_;rintro e w1 ⟨rfl,hb1⟩;have bP:=a (HX0.q.keep hb1);have HB1:=a (HB0.q.bO hb1);clear hb1 hcx;have hcx:=bP.q.1
 cases h1:decide ((nn:f)<N)
 case true=>
  have H1:=a h1;go_wp2_with fail;refine aC 99 [(0,0),(1,0),(2,0),(3,0),(4,0),(5,0),(6,0),(7,0),(8,0),(9,0),(10,0),(11,0),(12,0),(13,0),(14,0),(15,0),(16,0),(17,0),(18,0),(19,0),(20,0),(21,0),(22,0),(23,0)] (λ_=>True) (λW'=>Bx W' w.1.size #[c d (k:f),g na nn nc,c d lvl,g va vn vc,p lf,c d bits]) av av (trivial) (bP.q.drew) ?_;refine qC ?_;refine aJ ?_;have hout:out=m:=by rw[fV.q];simp[H1.q]
  go_wp2_with fail;go_ret;rw[hout];exact⟨rfl,HB1.q.drew⟩
 have H1:=a h1
 cases h2:decide (M<(nn:f))
 case true=>
  have H2:=a h2;go_wp2_with fail;refine aC 99 [(0,0),(1,0),(2,0),(3,0),(4,0),(5,0),(6,0),(7,0),(8,0),(9,0),(10,0),(11,0),(12,0),(13,0),(14,0),(15,0),(16,0),(17,0),(18,0),(19,0),(20,0),(21,0),(22,0),(23,0)] (λ_=>True) (λW'=>Bx W' w.1.size #[c d (k:f),g na nn nc,c d lvl,g va vn vc,p lf,c d bits]) av av (trivial) (bP.q.drew) ?_;refine qC ?_;refine aJ ?_;have hout:out=m:=by rw[fV.q];simp[H1.q,H2.q]
  go_wp2_with fail;go_ret;rw[hout];exact⟨rfl,HB1.q.drew⟩
 have H2:=a h2
 cases h3:((vn:f)==V)
 case false=>
  have FY:((vn:f)!=V)=r:=by unfold bne;rw[h3];rfl
  have H3:=a h3;clear h3;go_wp2_with fail;refine aC 99 [(0,0),(1,0),(2,0),(3,0),(4,0),(5,0),(6,0),(7,0),(8,0),(9,0),(10,0),(11,0),(12,0),(13,0),(14,0),(15,0),(16,0),(17,0),(18,0),(19,0),(20,0),(21,2),(22,0),(23,0)] (λ_=>True) (λW'=>Bx W' w.1.size #[c d (k:f),g na nn nc,c d lvl,g va vn vc,p lf,c d bits]) av av (trivial) (bP.q.drew) ?_;refine qC ?_;refine aD rfl rfl (λK hK=>?_);go_simp;refine(Cv.q _).mono ?_;rintro e w2 ⟨rfl,hb2⟩;have bL:=a (bP.q.drew.keep hb2);have HB2:=a (HB1.q.drew.trans (hb2.mono HB1.q.drew.size));refine hK _ _ ⟨trivial,bL.q⟩ ?_;clear hK K hb2 hcx;have hcx:=bL.q.1;refine qC ?_;refine aJ ?_;have hout:out=m:=by rw[fV.q];simp[H1.q,H2.q,H3.q]
  go_wp2_with fail;go_ret;rw[hout];exact⟨rfl,HB2.q⟩
 case true=>
  have FY:((vn:f)!=V)=m:=by unfold bne;rw[h3];rfl
  have H3:=a h3;clear h3;go_wp2_with fail;refine aC 99 [(0,0),(1,0),(2,0),(3,0),(4,0),(5,0),(6,0),(7,0),(8,0),(9,0),(10,0),(11,0),(12,0),(13,0),(14,0),(15,0),(16,0),(17,0),(18,0),(19,0),(20,0),(21,2),(22,0),(23,0)] (λ_=>True) (λW'=>Bx W' w.1.size #[c d (k:f),g na nn nc,c d lvl,g va vn vc,p lf,c d bits]) av av (trivial) (bP.q.drew) ?_;refine qC ?_;refine aD rfl rfl (λK hK=>?_);go_simp;refine(Cv.q _).mono ?_;rintro e w2 ⟨rfl,hb2⟩;have bL:=a (bP.q.drew.keep hb2);have HB2:=a (HB1.q.drew.trans (hb2.mono HB1.q.drew.size));refine hK _ _ ⟨trivial,bL.q⟩ ?_;clear hK K hb2 hcx;have hcx:=bL.q.1;refine qC ?_;refine aJ ?_;go_wp2_with fail;clear hcx h1 h2 FY
  go_loopw [51] (λi wr=>∃j:Nat,j<=nn/\i= c d j/\Below w.1.size w wr/\Bx wr w.1.size #[c d (k:f),g na nn nc,c d lvl,g va vn vc,p lf,c d bits]/\(names.take j).all (λx=>bD ⟨x.toArray⟩)=r) (λi _=>nn - (n i).toNat)
  case atStart=>exact⟨0,aV _,rfl,HB2.q,bL.q,rfl⟩
  case round=>
   obtain⟨j,hj,rfl,hbw,hxw,hall⟩:=hrel;have bE:=a hbw;have gI:=a hxw;have tC:=a hall;clear hbw hxw hall;by_cases hlt:j<nn
   .obtain⟨x,b,o,hx,rfl,hc⟩:=(lU.q.below bE.q rfl).at_ hlt
    have e0:=hc 0 _ rfl;simp only[jo,bM] at e0;have uI:=a hx;clear hx hc;go_wp2_with fail;refine(Bo ⟨x.toArray⟩ _).mono ?_;rintro e w3 ⟨rfl,hb3⟩;rw[yw];have eX:=a (gI.q.keep hb3);have HB3:=a (bE.q.bO hb3);clear hb3 e0
    cases hw:bD ⟨x.toArray⟩
    .have HW:=a hw
     clear hw;have hal:names.all (λx=>bD ⟨x.toArray⟩)=m:=List.all_eq_false.2 ⟨x,bQ uI.q,by rw[HW.q];simp⟩;have mG:=a hal;clear hal;have hout:out=m:=by rw[fV.q];simp[mG.q]
     go_wp2_with fail;go_ret;rw[hout];exact⟨rfl,HB3.q⟩
    .have HW:=a hw
     clear hw;go_wp2_with fail;go_roundw
     case rel=>exact⟨j+1,by omega,by go_num,HB3.q,eX.q,by rw[eO,uI.q,List.all_append,tC.q];simp[HW.q]⟩
     case measure=>simp[n];omega
   .obtain rfl:nn=j:=by omega
    have mG:Hid (names.all (λx=>bD ⟨x.toArray⟩)=r):=a (by have:=tC.q;rwa[dR (by have:=HQ.q;omega)] at this);have hcx:=gI.q.1;go_wp2_with fail;clear hcx
    go_loopw [62] (λi wr=>∃j:Nat,j<=vn/\i= c d j/\Below w.1.size w wr/\Bx wr w.1.size #[c d (k:f),g na nn nc,c d lvl,g va vn vc,p lf,c d bits]/\(aF.take j).all toB=r) (λi _=>vn - (n i).toNat)
    case atStart=>exact⟨0,aV _,rfl,bE.q,gI.q,rfl⟩
    case round=>
     obtain⟨j,hj,rfl,hbw,hxw,hall⟩:=hrel;have mH:=a hbw;have yR:=a hxw;have Bp:=a hall;clear hbw hxw hall;by_cases hlt:j<vn
     .obtain⟨x,b,o,hx,rfl,hc⟩:=(yc.q.below mH.q rfl).at_ hlt
      have e0:=hc 0 _ rfl;have e1:=hc 1 _ rfl;simp only[bM] at e0;have uI:=a hx;clear hx hc;have FZ:=a (yR.q.alloc (.cells (tq x) 52));have iO:=a (aB mH.q (.cells (tq x) 52));go_wp2_with fail;refine(zG x _).mono ?_;rintro e w3 ⟨rfl,hb3⟩;have eX:=a (FZ.q.keep hb3);have HB3:=a (iO.q.bO hb3);clear hb3 e0 e1
      cases hw:toB x
      .have HW:=a hw
       clear hw;have hal:aF.all toB=m:=List.all_eq_false.2 ⟨x,bQ uI.q,by rw[HW.q];simp⟩;have jE:=a hal;clear hal;have hout:out=m:=by rw[fV.q];simp[jE.q]
       go_wp2_with fail;go_ret;rw[hout];exact⟨rfl,HB3.q⟩
      .have HW:=a hw
       clear hw;go_wp2_with fail;go_roundw
       case rel=>exact⟨j+1,by omega,by go_num,HB3.q,eX.q,by rw[eO,uI.q,List.all_append,Bp.q];simp[HW.q]⟩
       case measure=>simp[n];omega
     .obtain rfl:vn=j:=by omega
      have jE:Hid (aF.all toB=r):=a (by have:=Bp.q;rwa[dR (by have:=HQ.q;omega)] at this);have hcx:=yR.q.1
      cases h6:(lvl==0)
      .skip
       go_wp2_with fail;go_ret;have hout:out=m:=by rw[fV.q];simp[H1.q,H2.q,H3.q,mG.q,jE.q,h6]
       rw[hout];exact⟨rfl,mH.q⟩
      .skip
       cases lf
       .skip
        cases h8:(bits==0)
        .skip
         cases ha:decide (0<bits)
         .skip
          go_wp2_with fail;go_ret;have hout:out=m:=by rw[fV.q];simp[H1.q,H2.q,H3.q,mG.q,jE.q,h6,h8,ha]
          rw[hout];exact⟨rfl,mH.q⟩
         .cases hb_:decide (bits<16)
          .skip
           go_wp2_with fail;go_ret;have hout:out=m:=by rw[fV.q];simp[H1.q,H2.q,H3.q,mG.q,jE.q,h6,h8,ha,hb_]
           rw[hout];exact⟨rfl,mH.q⟩
          .skip
           go_wp2_with fail;go_ret;have hout:out=r:=by rw[fV.q];simp[H1.q,H2.q,H3.q,mG.q,jE.q,h6,h8,ha,hb_]
           rw[hout];exact⟨rfl,mH.q⟩
        .skip
         go_wp2_with fail;go_ret;have hout:out=r:=by rw[fV.q];simp[H1.q,H2.q,H3.q,mG.q,jE.q,h6,h8]
         rw[hout];exact⟨rfl,mH.q⟩
       .skip
        go_wp2_with fail;go_ret;have hout:out=m:=by rw[fV.q];simp[H1.q,H2.q,H3.q,mG.q,jE.q,h6]
        rw[hout];exact⟨rfl,mH.q⟩
end Yd
namespace Yd
open Go Go.RowKit Go.Proofs Go.ChangeShapes Go.WideShapes Go.ChangeAt
open Go.Proofs.YtddiadcpokbpoaaGreatDoor.Rows (uptoBulk uptoBulkAll)
section
variable {H:Type}{enc:TypeId × Value->H}{w:World}{base:Nat}{spare:Nat->Bool}{held:Bool}
theorem YO {d:DataW H}{l:List (DataW H)}(h:d∈l):uptoBulk d<=uptoBulkAll l:=by
 induction l with
 |nil=>cases h
 |cons x r ih=>
  simp only[uptoBulkAll]
  cases dP.1 h with
  |inl e=>subst e;omega
  |inr e=>have:=ih e;omega
theorem YP (d:DataW H):1<=uptoBulk d:=by
 cases d with
 |lit l=>cases l <;> simp[uptoBulk]
 |nil=>simp[uptoBulk]
 |ptr d=>simp[uptoBulk]
 |slice elems spare=>simp[uptoBulk]
 |agg parts=>simp[uptoBulk]
 |iface t d=>simp[uptoBulk]
 |map entries=>simp[uptoBulk]
 |held h=>simp[uptoBulk]
theorem YQ (l:List (DataW H)):l.length<=uptoBulkAll l:=by
 induction l with
 |nil=>simp[uptoBulkAll]
 |cons x r ih=>have:=YP x;simp only[uptoBulkAll,jd];omega
def TH {α:Type}(enc:TypeId × Value->H)(w:World)(base:Nat)(spare:Nat->Bool)(held:Bool)(N:Nat)(e:TypeId)(en:α->List Value)(Q:α->Prop):Prop:=
 ∀n cs y,DataW.trod enc Tryz.prog w base spare held n e cs=some y->uptoBulk y.1<=N->∃x,cs=en x/\Q x
theorem L8 {α:Type}{p:Nat->α->Prop}:∀(m:Nat),(∀i,i<m->∃x,p i x)->∃xs:List α,xs.length=m/\∀i x,xs[i]?=some x->p i x
 |0,_=>⟨[],rfl,λi x h=>by simp at h⟩
 |m+1,h=>by
  obtain⟨xs,hl,hx⟩:=L8 m (λi hi=>h i ah);obtain⟨x,hp⟩:=h m ah;refine⟨xs++[x],by simp[hl],λi y hy=>?_⟩;rcases jP i m with hi|hi
  .rw[wO ah] at hy
   exact hx i y hy
  .rw[uZ ah,hl] at hy
   have:i=m:=by
    rcases jP (i - m) 1 with h1|h1
    .omega
    .rw[wP (by simpa using h1)] at hy;cases hy
   subst this;simp at hy;subst hy;exact hp
theorem VQ {w:World}{a:Addr}{v:Value}(h:w.cell? a=some v):a.spot=none:=by
 unfold World.cell? at h
 split at h
 .split at h
  .cases h
  .rename_i hs
   cases hsp:a.spot with
   |none=>rfl
   |some x=>rw[hsp] at hs;exact absurd rfl hs
 .cases h
theorem Eo {α:Type}{en:α->List Value}{k:Nat}[hc:Cells en k]{t e:TypeId}{Q:α->Prop}{N:Nat}(hN:N<=140737488355328)(ht:Tryz.prog.underlying t=some (.slice e))(hk:Tryz.prog.cellsOf e=k)(hr:TH enc w base spare held N e en Q)
  {n:Nat} {cs:List Value} {y:DataW H × List MemPlace} (h:DataW.trod enc Tryz.prog w base spare held n t cs=some y) (hb:uptoBulk y.1<=N):
  ∃s:Sl,∃xs:List α,cs=[s.v]/\Row w k en s.a s.n s.c xs/\xs.length<=N/\∀x∈xs,Q x:=by
 rcases DataW.trod_slice ht h with⟨rfl,rfl⟩|⟨a,len,cap,elems,rest,n',rfl,rfl,rfl,hba,hl,hm,hel,hget,_,_⟩
 .exact⟨⟨none,0,0⟩,[],rfl,Row.fJ,aV _,λx hx=>by cases hx⟩
 .have aje:uptoBulkAll (elems.map (·.1))<=N:=by simp only[uptoBulk] at hb;omega
  have hlen:len<=N:=by
   have:=YQ (elems.map (·.1));rw[bH,hel] at this;omega
  obtain⟨xs,hxl,hx⟩:=L8 (p:=λi x=>(∀j v,(en x)[j]?=some v->w.cell? (a.add (i*k+j))=some v)/\Q x) len (λi hi=>by
   have hg:=hget i hi;rw[eu ah] at hg;obtain⟨cs',h1,h2⟩:=Option.bind_eq_some_iff.1 hg;obtain⟨x,rfl,hq⟩:=hr _ _ _ h2 (dL (YO (dQ.2 ⟨_,List.getElem_mem ah,rfl⟩)) aje);obtain⟨_,hl',hcell⟩:=World.cells?_some h1;refine⟨x,λj v hv=>?_,hq⟩;have hj:j<k:=by have:=(bG.1 hv).1;rw[hc.len] at this;exact this
   have:=hcell j (by rw[hk];exact hj);rw[Go.Deep.add_add,hk,hv] at this;exact this)
  refine⟨⟨some a,len,cap⟩,xs,rfl,⟨hxl,hl,dL hlen hN,λh=>(by cases h),λi x hxi=>?_⟩,by omega,λx hxm=>?_⟩
  .have hi:i<xs.length:=(bG.1 hxi).1
   have hsp:a.spot=none:=by
    obtain⟨x0,hx0⟩:∃x0,xs[0]?=some x0:=⟨_,eu ah⟩;have hp:=hc.pos;obtain⟨v0,hv0⟩:∃v0,(en x0)[0]?=some v0:=⟨_,eu (by rw[hc.len];exact hp)⟩;have:=(hx 0 x0 hx0).1 0 v0 hv0;rw[Nat.zero_mul,bM] at this;exact VQ this
   refine⟨a.block,a.off,by obtain⟨b,o,s⟩:=a;simp only at hsp;rw[hsp],λj v hv=>?_⟩;have:=(hx i x hxi).1 j v hv;unfold Addr.add at this
   split at this
   .rename_i h0
    rw[show a.off+i*k+j=a.off by omega];obtain⟨b,o,s⟩:=a;simp only at hsp;rw[hsp] at this;exact this
   .rw[Nat.add_assoc];exact this
  .obtain⟨i,hi⟩:=u6.1 hxm
   exact(hx i x hi).2
variable {N:Nat}
theorem afA:TH enc w base spare held N 9 encStr (λ_=>True):=λn cs y h _=>by
 obtain⟨s,rfl,_,_⟩:=DataW.trod_string Tryz.underlying9 h;exact⟨s.data.toList,by simp[encStr],trivial⟩
theorem adf {n:Nat}{cs:List Value}{y:DataW H × List MemPlace}(h:DataW.trod enc Tryz.prog w base spare held n 4 cs=some y):∃b,cs=[.bool b]:=by
 obtain⟨b,rfl,_⟩:=DataW.trod_bool Tryz.underlying4 h;exact⟨b,rfl⟩
theorem Nb:Tryz.prog.cellsOf 3=1:=av
theorem Nc:Tryz.prog.cellsOf 9=1:=av
theorem afB:Tryz.prog.cellsOf 4=1:=av
theorem afC:Tryz.prog.cellsOf 27=1:=av
end
end Yd
namespace Yd
open Go Go.RowKit Go.Proofs Go.ChangeShapes Go.WideShapes Go.ChangeAt Tryz
open Go.Proofs.YtddiadcpokbpoaaGreatDoor.Rows (uptoBulk uptoBulkAll)
section
variable {H:Type}{enc:TypeId × Value->H}{w:World}{base:Nat}{spare:Nat->Bool}{held:Bool}{N:Nat}
theorem afD:Tryz.prog.cellsOf 52=2:=av
theorem afE:Tryz.prog.cellsOf 30=6:=av
theorem ajf:Tryz.prog.cellsOf 28=1:=av
theorem ajg:TH enc w base spare held N 52 pE (λ_=>True):=λn cs y h _=>by
 obtain⟨xs,n',_,rfl,hl,hlen,hf⟩:=DataW.trod_struct underlying52 h;rw[afD] at hl
 match xs,hlen,cs,hl with
 |[y0,y1],_,[c0,c1],_=>
  have f0:=hf 0 _ rfl;have f1:=hf 1 _ rfl;simp[Nb,Nc] at f0 f1;obtain⟨a,e0,_⟩:=DataW.trod_string Tryz.underlying9 f0;obtain⟨b,e1,_⟩:=DataW.trod_int underlying3 f1;simp at e0 e1;exact⟨⟨a.data.toList,b⟩,by rw[e0,e1];simp[pE],trivial⟩
theorem VR {n:Nat}{cs:List Value}{y:DataW H × List MemPlace}(h:DataW.trod enc Tryz.prog w base spare held n 30 cs=some y)(hb:uptoBulk y.1<=1048576):
  ∃(l:bB)(s:aP),cs=(kg l).toList/\Di w l s:=by
 obtain⟨xs,n',_,rfl,hl,hlen,hf⟩:=DataW.trod_struct underlying30 h;rw[afE] at hl
 match xs,hlen,cs,hl,hb with
 |[y0,y1,y2,y3,y4,y5],_,[c0,c1,c2,c3,c4,c5],_,hb=>
  simp only[lD,mU,uptoBulk,uptoBulkAll] at hb;have f0:=hf 0 _ rfl;have f1:=hf 1 _ rfl;have f2:=hf 2 _ rfl;have f3:=hf 3 _ rfl;have f4:=hf 4 _ rfl;have f5:=hf 5 _ rfl;simp[Nb,afC,ajf,afB] at f0 f1 f2 f3 f4 f5;obtain⟨a0,e0,_⟩:=DataW.trod_int underlying3 f0;obtain⟨s1,l1,e1,r1,b1,_⟩:=Eo (hc:=jQ) (N:=1048576) aj underlying27 Nc afA f1 ah;obtain⟨a2,e2,_⟩:=DataW.trod_int underlying3 f2;obtain⟨s3,l3,e3,r3,b3,_⟩:=Eo (hc:=Ke) (N:=1048576) aj underlying28 afD ajg f3 ah;obtain⟨a4,e4⟩:=adf f4;obtain⟨a5,e5,_⟩:=DataW.trod_int underlying3 f5;simp at e0 e1 e2 e3 e4 e5;exact⟨⟨a0,s1.a,s1.n,s1.c,a2,s3.a,s3.n,s3.c,a4,a5⟩,⟨a0,l1,a2,l3,a4,a5⟩,by rw[e0,e1,e2,e3,e4,e5],⟨rfl,rfl,rfl,rfl⟩,r1,r3⟩
theorem ajh:TH enc w base spare held 1048576 30 mh (λl=>∃s,Di w l s):=λn cs y h hb=>by
 obtain⟨l,s,rfl,hl⟩:=VR h hb;exact⟨l,rfl,s,hl⟩
theorem RJ {w:World}:∀xs:List bB,(∀x∈xs,∃s,Di w x s)->∃ls:List aP,xs.length=ls.length/\∀(i:Nat)(l:bB),xs[i]?=some l->∃s,ls[i]?=some s/\Di w l s
 |[],_=>⟨[],rfl,λi l h=>(by cases h)⟩
 |x::xs,h=>by
  obtain⟨ls,h1,h2⟩:=RJ xs (λy hy=>h y (iJ _ hy));obtain⟨s,hs⟩:=h x pY;refine⟨s::ls,by simp[h1],λi l hi=>?_⟩
  cases i with
  |zero=>injection hi with hi;subst hi;exact⟨s,rfl,hs⟩
  |succ i=>exact h2 i l hi
theorem YR {n:Nat}{cs:List Value}{y:DataW H × List MemPlace}(h:DataW.trod enc Tryz.prog w base spare held n 22 cs=some y)(hb:uptoBulk y.1<=1048576):
  ∃(a:Option Addr)(c:Nat)(aW:List bB)(ls:List aP),cs=[.slice a aW.length c]/\Row w 6 mh a aW.length c aW/\aW.length=ls.length/\∀(i:Nat)(l:bB),aW[i]?=some l->∃s,ls[i]?=some s/\Di w l s:=by
 obtain⟨s,xs,rfl,hr,_,hq⟩:=Eo (hc:=Bq) (N:=1048576) aj underlying22 afE ajh h hb;obtain⟨ls,h1,h2⟩:=RJ xs hq;exact⟨s.a,s.c,xs,ls,by rw[hr.len],by rw[hr.len];exact hr,h1,h2⟩
end
end Yd
namespace Yd
open Go Go.RowKit Go.Proofs
theorem Hq (w r:Bs)(i:Nat)(h:i<w.length):ByteArray.get! ⟨(w++r).toArray⟩ i=ByteArray.get! ⟨w.toArray⟩ i:=by
 simp only[ByteArray.get!];rw[getElem!_pos (w++r).toArray i (by simp;omega),getElem!_pos w.toArray i (by simpa using h)];simp[List.getElem_append_left h]
theorem afF {s:ByteArray}(h:okB s 0=true):Utf8.decode s 0≠(65533,1):=λe=>by
 unfold okB at h;rw[e] at h;simp at h
def Stops (p:Int->Bool)(r:Bs):Prop:=r=[]\/(okB ⟨r.toArray⟩ 0 && p ((Utf8.decode ⟨r.toArray⟩ 0).1:Int))=false
def Sp (b:Bs):Prop:=b≠[]/\∀c∈b,rC c=true
def Cut (r:Bs):Prop:=∀c t,r=c::t->rC c=true\/c=10\/c=35
def glue:List (Bs × Bs)->Bs->Bs
 |[],e=>e
 |p::ps,e=>p.1++(p.2++glue ps e)
def Up:Nat->List Nat->Prop
 |_,[]=>True
 |k,j::js=>k<=j/\j<4/\Up (j+1) js
end Yd
namespace Yd
open Go Go.RowKit Go.Proofs Go.Lib Tryz
open Tryz renaming prog->c,underlying9->f
open Go.Proofs.YtddiadcpokbpoaaGreatDoor
theorem YS:Rows.laid_unicode_utf8_first=firstData:=av
theorem VU:(Rows.laid_unicode_utf8_acceptRanges:DataW Unit)=acceptData:=av
theorem u8x:U8Extra c Tryz.lays260_ren:=⟨by kernel_rfl,by kernel_rfl,by kernel_rfl,by kernel_rfl,by kernel_rfl,by kernel_rfl,by kernel_rfl⟩
section
variable {W:World}
theorem VW {n fuel:Nat}{t:TypeId}{cs:List Value}{ds:List (DataW Unit)}{p:List MemPlace}(ht:Tryz.prog.underlying t=some (.array n 9))(h:DataW.trod (λ_=>()) c W 0 (λ_=>true) false fuel t cs=some (.agg ds,p))
  (i:Nat) (hi:i<n) {b:Bs} (hd:ds[i]?=some (.lit (.string b))):cs[i]?=some (.string ⟨b.toArray⟩):=by
 obtain⟨f',d,q,h1,h2⟩:=array_elem ht h i hi;rw[hd] at h1;injection h1 with h1;subst h1;rw[show Tryz.prog.cellsOf 9=1 from Nc] at h2;obtain⟨s,e1,e2,_⟩:=DataW.trod_string f h2;simp only[Prod.mk.injEq,DataW.lit.injEq,Lit.string.injEq] at e2;have e3:=dF (·[0]?) e1;simp only[AB,Ed] at e3;have:s=⟨b.toArray⟩:=by
  obtain⟨⟨l⟩⟩:=s;simp at e2;rw[e2.1]
 rw[<-this]
 simpa using e3
theorem VX {n fuel:Nat}{t:TypeId}{cs:List Value}{ds:List (DataW Unit)}{p:List MemPlace}(ht:Tryz.prog.underlying t=some (.array n 3))(h:DataW.trod (λ_=>()) c W 0 (λ_=>true) false fuel t cs=some (.agg ds,p))
  (i:Nat) (hi:i<n) {b:Int} (hd:ds[i]?=some (.lit (.int .i64 b))):cs[i]?=some (.int .i64 b):=by
 obtain⟨f',d,q,h1,h2⟩:=array_elem ht h i hi;rw[hd] at h1;injection h1 with h1;subst h1;rw[show Tryz.prog.cellsOf 3=1 from Nb] at h2;obtain⟨s,e1,e2,_⟩:=DataW.trod_int underlying3 h2;simp only[Prod.mk.injEq,DataW.lit.injEq,Lit.int.injEq,true_and] at e2;have e3:=dF (·[0]?) e1;simp only[AB,Ed] at e3;rw[e2.1]
 simpa using e3
theorem aji:Tryz.prog.cellsOf 21=1:=av
theorem VY:Tryz.prog.cellsOf 83=3:=av
theorem adg {fuel:Nat}{cs:List Value}{ds:List (DataW Unit)}{p:List MemPlace}(h:DataW.trod (λ_=>()) c W 0 (λ_=>true) false fuel 84 cs=some (.agg ds,p))
  (k:Nat) (hk:k<10) {b:Bs} {n r:Int} (hd:ds[k]?=some (.agg [.lit (.string b),.lit (.int .i64 n),.lit (.int .i32 r)])):
  cs[3*k]?=some (.string ⟨b.toArray⟩)/\cs[3*k+1]?=some (.int .i64 n)/\cs[3*k+2]?=some (.int .i32 r):=by
 obtain⟨f',d,q,h1,h2⟩:=array_elem underlying84 h k hk;rw[hd] at h1;injection h1 with h1;subst h1;rw[VY] at h2;obtain⟨xs,n',_,e,hl,hlen,hf⟩:=DataW.trod_struct underlying83 h2;rw[VY] at hl;obtain⟨cs',hcs⟩:∃cs',cs'=(cs.drop (k*3)).take 3:=⟨_,rfl⟩;rw[<-hcs] at hl hf;have g0:cs[3*k]?=cs'[0]?:=by rw[hcs];simp[Ed,Eg]
 have g1:cs[3*k+1]?=cs'[1]?:=by rw[hcs];simp[Ed,Eg]
 have g2:cs[3*k+2]?=cs'[2]?:=by rw[hcs];simp[Ed,Eg]
 rw[g0,g1,g2];clear g0 g1 g2 hcs
 match xs,hlen,cs',hl,e with
 |[y0,y1,y2],_,[c0,c1,c2],_,e=>
  simp only[lD,mU,Prod.mk.injEq,DataW.agg.injEq,List.cons.injEq,and_true] at e;have f0:=hf 0 _ rfl;have f1:=hf 1 _ rfl;have f2:=hf 2 _ rfl;simp[Nb,Nc,aji] at f0 f1 f2;obtain⟨s,e0,q0,_⟩:=DataW.trod_string f f0;obtain⟨a,e1,q1,_⟩:=DataW.trod_int underlying3 f1;obtain⟨a2,e2,q2,_⟩:=DataW.trod_int Tryz.underlying21 f2;rw[q0,q1,q2] at e;simp only[DataW.lit.injEq,Lit.string.injEq,Lit.int.injEq,true_and] at e;have:s=⟨b.toArray⟩:=by
   obtain⟨⟨l⟩⟩:=s;simp at e;rw[e.1.1]
  simp at e0 e1 e2;rw[e0,e1,e2,e.1.2.1,e.1.2.2,this];exact⟨rfl,rfl,rfl⟩
theorem zh {name:String}{d:DataW Unit}{g:Nat}{t:TypeId}(h:VarReads c W name d)(hg:Tryz.prog.globalNamed name=some g)(hy:(Tryz.prog.globals[g]?).map (·.type)=some t):
  ∃cs:Array Value,∃fuel p,DataW.trod (λ_=>()) c W 0 (λ_=>true) false fuel t cs.toList=some (d,p)/\∀i,W.cell? ⟨g,i,none⟩=cs.toList[i]?:=by
 obtain⟨g',t',cs,fuel,p,hg',hy',hv,hd⟩:=h;obtain rfl:=xW (hg.symm.trans hg');obtain rfl:=xW (hy.symm.trans hy');exact⟨cs,fuel,p,hd,λi=>by rw[Array.getElem?_toList];exact World.var?_cell hg hv i⟩
end
end Yd
