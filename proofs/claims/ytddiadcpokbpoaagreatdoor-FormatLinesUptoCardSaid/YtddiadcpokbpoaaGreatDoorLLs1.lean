import Derived.Test.YtddiadcpokbpoaaGreatDoorLDown13
import Derived.Test.YtddiadcpokbpoaaGreatDoorLCut12
import Derived.Test.YtddiadcpokbpoaaGreatDoorLRSpk
set_option linter.all false
set_option maxRecDepth 200000
set_option maxHeartbeats 8000000
namespace Yd
open Bool renaming true->z,false->F
open Int renaming reduceEq->Q
open List renaming dropWhile_suffix->G,length_eq_zero_iff->M,drop_suffix->N,tail_suffix->R,length_pos_iff->U,foldl_cons->Z
open Option renaming some->H,none->O
open Go Go.RowKit Go.Proofs Tryz
open Go.IntKind renaming i64->E
open Go.Value renaming int->C,pointer->I
open Lib renaming decodeN->P,decode_at->T
open Utf8 renaming decode->L
open _root_ renaming Int->o,Nat->u,List->A,absurd->S,trivial->V,Bool->Y
theorem ZU (n m b0 b1 b2 b3 c1 c2 c3:u)(h1:1<n->c1=b1)(h2:2<n->c2=b2)(h3:3<n->c3=b3)(hok:P (n+m) b0 c1 c2 c3≠(65533,1))(hd:(P (n+m) b0 c1 c2 c3).2<=n):P n b0 b1 b2 b3=P (n+m) b0 c1 c2 c3:=by
 unfold P at hok hd ⊢;by_cases a:b0<128
 .rw[ay a,ay a]
 rw[ak a] at hok hd ⊢;rw[ak a];by_cases hA:b0 / 32=6/\(1<n+m/\c1 / 64=2)
 .rw[ay hA] at hok hd ⊢
  by_cases hv:b0 % 32*64+c1 % 64≥128
  .rw[ay hv] at hd ⊢
   have hn:1<n:=hd;rw[ay (by rw[<-h1 hn];exact⟨hA.1,hn,hA.2.2⟩),<-h1 hn,ay hv]
  .rw[ak hv] at hok;exact S rfl hok
 rw[ak hA] at hok hd ⊢;by_cases hB:b0 / 16=14/\(1<n+m/\c1 / 64=2)/\(2<n+m/\c2 / 64=2)
 .rw[ay hB] at hok hd ⊢
  by_cases hv:b0 % 16*4096+c1 % 64*64+c2 % 64≥2048/\(b0 % 16*4096+c1 % 64*64+c2 % 64<55296\/(57344<=b0 % 16*4096+c1 % 64*64+c2 % 64/\b0 % 16*4096+c1 % 64*64+c2 % 64<=1114111))
  .rw[ay hv] at hd ⊢
   have hn:2<n:=hd;rw[ak ah,ay (by rw[<-h1 ah,<-h2 hn];exact⟨hB.1,⟨by omega,hB.2.1.2⟩,hn,hB.2.2.2⟩),<-h1 ah,<-h2 hn,ay hv]
  .rw[ak hv] at hok;exact S rfl hok
 rw[ak hB] at hok hd ⊢;by_cases hC:b0 / 8=30/\(1<n+m/\c1 / 64=2)/\(2<n+m/\c2 / 64=2)/\(3<n+m/\c3 / 64=2)
 .rw[ay hC] at hok hd ⊢
  by_cases hv:b0 % 8*262144+c1 % 64*4096+c2 % 64*64+c3 % 64≥65536/\(b0 % 8*262144+c1 % 64*4096+c2 % 64*64+c3 % 64<55296\/(57344<=b0 % 8*262144+c1 % 64*4096+c2 % 64*64+c3 % 64/\b0 % 8*262144+c1 % 64*4096+c2 % 64*64+c3 % 64<=1114111))
  .rw[ay hv] at hd ⊢
   have hn:3<n:=hd;rw[ak ah,ak ah,ay (by rw[<-h1 ah,<-h2 ah,<-h3 hn];exact⟨hC.1,⟨by omega,hC.2.1.2⟩,⟨by omega,hC.2.2.1.2⟩,hn,hC.2.2.2.2⟩),<-h1 ah,<-h2 ah,<-h3 hn,ay hv]
  .rw[ak hv] at hok;exact S rfl hok
 rw[ak hC] at hok;exact S rfl hok
theorem adV (w r:Bs)(hw:w≠[])(hok:okB ⟨(w++r).toArray⟩ 0=z)(hd:(L ⟨(w++r).toArray⟩ 0).2<=w.length):L ⟨w.toArray⟩ 0=L ⟨(w++r).toArray⟩ 0:=by
 have hne:=afF hok;have hl:0<w.length:=U.2 hw;rw[T,iM,dH,Nat.sub_zero] at hne hd;rw[T,T,iM,iM,dH,Nat.sub_zero,Nat.sub_zero];rw[Hq w r 0 hl] at hne hd ⊢;refine ZU _ _ _ _ _ _ _ _ _ (λh=>?_) (λh=>?_) (λh=>?_) hne hd
 .rw[Hq w r (0+1) ah]
 .rw[Hq w r (0+2) ah]
 .rw[Hq w r (0+3) ah]
theorem IY (p:o->Y):∀(n:u)(l:Bs),l.length<=n->iy ⟨(l.take (iy ⟨l.toArray⟩ p)).toArray⟩ p=iy ⟨l.toArray⟩ p
 |0,l,hn=>by
  have:l=[]:=M.1 ah;subst this;rfl
 |n+1,l,hn=>by
  by_cases h0:l=[]
  .subst h0;rfl
  .have hle:=uz p l.length l (aA _)
   have hw:=lC l p h0;by_cases hc:(okB ⟨l.toArray⟩ 0 && p ((L ⟨l.toArray⟩ 0).1:o))=z
   .rw[ay hc] at hw
    rw[aU] at hc;have h1:=Cy l h0;have h2:=Bz l h0;obtain⟨d,hd⟩:∃d,d=(L ⟨l.toArray⟩ 0).2:=⟨_,rfl⟩;obtain⟨k,hk⟩:∃k,k=iy ⟨(l.drop d).toArray⟩ p:=⟨_,rfl⟩;rw[<-hd] at hw h1 h2;rw[<-hk] at hw;have ih:=IY p n (l.drop d) (by rw[kz];omega);rw[<-hk] at ih;rw[hw] at hle ⊢;have hsp:l=l.take (d+k)++l.drop (d+k):=(Cg _ _).symm;have htl:(l.take (d+k)).length=d+k:=by rw[dN];omega
    have htn:l.take (d+k)≠[]:=by intro e;rw[e] at htl;simp at htl;omega
    have hdec:L ⟨(l.take (d+k)).toArray⟩ 0=L ⟨l.toArray⟩ 0:=by
     have:=adV (l.take (d+k)) (l.drop (d+k)) htn (by rw[<-hsp];exact hc.1) (by rw[<-hsp,<-hd,htl];omega);rw[<-hsp] at this;exact this
    have hok2:okB ⟨(l.take (d+k)).toArray⟩ 0=z:=by unfold okB;rw[hdec];exact hc.1
    rw[lC _ p htn,hok2,hdec,hc.2,ay (show(z && z)=z from rfl),<-hd];have:(l.take (d+k)).drop d=(l.drop d).take k:=by rw[List.drop_take];congr 1;omega
    rw[this,ih]
   .rw[ak hc] at hw
    rw[hw];rfl
theorem CP {l m r:Bs}(h:dB l= .ok (m,r)):bD ⟨m.toArray⟩=z:=by
 unfold dB at h;by_cases h1:(jf l||!dX l)=z
 .rw[ay h1] at h;cases h
 rw[ak h1] at h;by_cases h2:24<dV l
 .rw[ay h2] at h;cases h
 rw[ak h2] at h;injection h with h;injection h with hm _;have hb:dX l=z:=by
  cases hq:dX l
  .rw[hq] at h1;simp at h1
  .rfl
 cases l with
 |nil=>simp[dX] at hb
 |cons b t=>
  have hpos:=adF hb;have hrl:=adD (b::t);have hml:m.length=dV (b::t):=by rw[<-hm,dN];omega
  have hwm:iy ⟨m.toArray⟩ jY=m.length:=by rw[hml,<-hm];exact IY jY _ (b::t) (aA _)
  have hmc:∃t',m=b::t':=by
   rw[<-hm];obtain⟨k,hk⟩:∃k,dV (b::t)=k+1:=⟨dV (b::t) - 1,by omega⟩;rw[hk,List.take_succ_cons];exact⟨_,rfl⟩
  obtain⟨t',rfl⟩:=hmc;unfold bD;rw[iM,hwm,aU,aU,aU];refine⟨⟨⟨by simp,bA ah⟩,?_⟩,by simp⟩;have hle:=WN b t;rw[hb] at hle;have hf:uN ⟨(b::t').toArray⟩=(b.toNat:o):=by
   unfold uN;rw[dif_pos (by rw[iM];simp)];show wrap32 (b.toNat:o)=_;have:=b.toNat_lt;unfold wrap32;omega
  rw[hf];rcases jP b.toNat 128 with hlo|hhi
  .rw[(ajy t hlo).1] at hle
   rw[Um hle.symm];rfl
  .unfold gq
   rw[Bool.not_eq_true',Bool.and_eq_false_iff]
   right
   exact aX ah
theorem SB:∀(l:Bs)(n:u),0<n->0<l.foldl (λn (c:UInt8)=>n*10+(c.toNat - 48)) n
 |[],_,h=>h
 |c::t,n,h=>by rw[Z];exact SB t _ ah
theorem SC {l r:Bs}{v:To}(h:gZ l= .ok (v,r)):qF v:=by
 unfold gZ at h;by_cases h0:l.head?=H 45
 .rw[ay h0] at h;injection h with h;injection h with h _;subst h;exact .inl rfl
 rw[ak h0] at h
 cases hn:dB l with
 |error x=>rw[hn] at h;cases h
 |ok y=>
  obtain⟨nm,r1⟩:=y;rw[hn] at h;simp only[] at h;by_cases h46:r1.head?=H 46
  .rw[ay h46] at h
   unfold za at h;simp only[] at h;by_cases hd:(r1.tail.takeWhile jR).head?=O\/(r1.tail.takeWhile jR).head?=H 48
   .rw[ay hd] at h;cases h
   rw[ak hd] at h;by_cases h9:999<vR (r1.tail.takeWhile jR)
   .rw[ay h9] at h;cases h
   rw[ak h9] at h;injection h with h;injection h with h _;subst h;refine .inr ⟨CP hn,?_,by show((vR _:u):o)<=999;omega⟩
   cases hq:r1.tail.takeWhile jR with
   |nil=>rw[hq] at hd;exact S (.inl rfl) hd
   |cons c t=>
    rw[hq] at hd;have hdg:jR c=z:=NT jR r1.tail c (by rw[hq];exact pY);have hc:=(adE c).1 hdg;have hne:c.toNat≠48:=λe=>hd (.inr (by rw[GR];exact dF H (mV.1 e)))
    have:=SB t (0*10+(c.toNat - 48)) ah;show(0:o)<((vR (c::t):u):o);unfold vR;rw[Z];omega
  .rw[ak h46] at h;cases h
theorem uS {l r:Bs}{b:Y}(h:dU l= .ok (b,r)):r.length+(if b=z then 1 else 0)<=l.length:=by
 unfold dU at h;have hs:(bX l).length<=l.length:=(G _).length_le
 split at h
 .injection h with h;injection h with h1 h2;subst h1 h2;simpa using hs
 .split at h
  .cases h
  .injection h with h;injection h with h1 h2;subst h1 h2;simp only[dw];omega
theorem EJ {l r:Bs}(h:eU l= .ok r):r.length+1<=l.length:=by
 unfold eU at h
 cases hm:dU l with
 |error y=>rw[hm] at h;cases h
 |ok y=>
  obtain⟨b,r0⟩:=y;rw[hm] at h
  cases b
  .cases h
  .injection h with h;subst h;exact uS hm
theorem EK {l m r:Bs}(h:dB l= .ok (m,r)):r.length+1<=l.length:=by
 have hw:=CP h;unfold dB at h
 split at h
 .cases h
 split at h
 .cases h
 injection h with h;injection h with h1 h2;have hl:m.length+r.length=l.length:=by rw[<-h1,<-h2,<-dH,Cg]
 cases m with
 |nil=>simp[bD] at hw
 |cons c t=>simp only[jd] at hl;omega
theorem Pz {l r:Bs}{v:To}(h:gZ l= .ok (v,r)):r.length+1<=l.length:=by
 unfold gZ at h;by_cases h0:l.head?=H 45
 .rw[ay h0] at h;injection h with h;injection h with _ h;subst h
  cases l with
  |nil=>cases h0
  |cons c t=>exact aA _
 .rw[ak h0] at h
  cases hn:dB l with
  |error x=>rw[hn] at h;cases h
  |ok y=>
   obtain⟨nm,r1⟩:=y;rw[hn] at h;have:=EK hn;simp only[] at h
   split at h
   .unfold za at h
    simp only[] at h
    split at h
    .cases h
    split at h
    .cases h
    injection h with h;injection h with _ h;subst h;simp only[kz,List.length_tail];omega
   .cases h
theorem Jv {ws:A Bs}{l r:Bs}{i:u}(hw:∀x∈ws,∀c∈x,rX c=z)(h0:∀x∈ws,x≠[])(h:eT ws l= .ok (i,r)):r.length+1<=l.length:=by
 unfold eT at h
 cases hf:ws.findIdx? (λs=>s==qi l) with
 |none=>rw[hf] at h;cases h
 |some j=>
  rw[hf] at h;injection h with h;injection h with _ h;subst h;obtain⟨hj,he,_⟩:=GQ.1 hf;have hm:=List.getElem_mem hj;rw[xX.1 he] at hm;have hle:(fu l).length<=l.length:=(List.takeWhile_prefix _).length_le;rw[kz];have:fu l≠[]:=λe=>by
   have h2:qi l=fu l\/qi l=fu l++[128]:=by
    unfold qi
    split
    .split
     .exact .inr rfl
     .exact .inl rfl
    .exact .inl rfl
   rw[e] at h2;rcases h2 with h2|h2
   .exact h0 _ hm h2
   .exact S (hw _ hm 128 (by rw[h2];simp)) aj
  have:=U.2 this;omega
theorem UC:∀m:Fin 4,∀b:Fin 16,b.val<2 ^ m.val->(zl ((b.val:o)+2 ^ m.val)).length=(zl (b.val:o)).length+1:=by decide
theorem PD {α β:Type}(f g:α->β):∀l:A α,(l.flatMap (λp=>[f p,g p])).length=2*l.length
 |[]=>rfl
 |a::l=>by rw[qP,dH,PD f g l];simp only[jd,mg];omega
theorem MG:∀(k:u)(acc:A Bs)(l:Bs){ns:A Bs}{r:Bs},ku k acc l= .ok (ns,r)->(∀x∈acc,bD ⟨x.toArray⟩=z)->ns.length=acc.length+k/\(∀x∈ns,bD ⟨x.toArray⟩=z)/\r.length+2*k<=l.length
 |0,acc,l,ns,r,h,ha=>by rw[ku] at h;injection h with h;injection h with h h2;subst h h2;exact⟨rfl,ha,aA _⟩
 |k+1,acc,l,ns,r,h,ha=>by
  rw[ku] at h
  cases hm:eU l with
  |error y=>rw[hm] at h;cases h
  |ok r0=>
   rw[hm] at h;simp only[] at h
   cases hn:dB r0 with
   |error y=>rw[hn] at h;cases h
   |ok y=>
    obtain⟨nm,r1⟩:=y;rw[hn] at h;have:=MG k _ _ h (λx hx=>by
     rcases bJ.1 hx with hx|hx
     .exact ha x hx
     .rw[bF.1 hx];exact CP hn)
    simp only[dH,kT] at this;have h1:=EJ hm;have h2:=EK hn;exact⟨by omega,this.2.1,by omega⟩
theorem yG (pairs:Y)(most:u):∀(f many:u)(ns:A Bs)(vs:A To)(l:Bs){a:A Bs}{b:A To}{r:Bs},bW pairs most f many ns vs l= .ok ((a,b),r)->most+1<=f+many->many<=most->(∀x∈ns,bD ⟨x.toArray⟩=z)->(∀v∈vs,qF v)->
  ∃c:u,a.length=ns.length+c/\b.length=vs.length+(if pairs=z then c else 0)/\many+c<=most/\(∀x∈a,bD ⟨x.toArray⟩=z)/\(∀v∈b,qF v)/\r.length+(if pairs=z then 4*c else 2*c)<=l.length
 |0,many,ns,vs,l,a,b,r,h,hf,hm,hns,hvs=>by omega
 |f+1,many,ns,vs,l,a,b,r,h,hf,hm,hns,hvs=>by
  rw[bW] at h
  cases hmo:dU l with
  |error y=>rw[hmo] at h;cases h
  |ok y=>
   obtain⟨bo,r0⟩:=y;rw[hmo] at h
   cases bo
   .injection h with h;injection h with h h3;injection h with h1 h2;subst h1 h2 h3
    exact⟨0,rfl,by split <;> rfl,hm,hns,hvs,by have:=uS hmo;simp only[Nat.mul_zero,ite_self];omega⟩
   .simp only[] at h
    by_cases hb:many=most/\dX r0=z
    .rw[ay hb] at h;cases h
    .rw[ak hb] at h
     cases hn:dB r0 with
     |error y=>rw[hn] at h;cases h
     |ok y=>
      obtain⟨nm,r1⟩:=y;rw[hn] at h;simp only[] at h;have hmn:many<most:=by
       rcases jP many most with h'|h'
       .exact h'
       .exfalso
        have hbe:dX r0=F:=by
         cases hq:dX r0
         .rfl
         .exact S ⟨by omega,hq⟩ hb
        rw[ZA hbe] at hn;cases hn
      have agK:∀x∈ns++[nm],bD ⟨x.toArray⟩=z:=λx hx=>by
       rcases bJ.1 hx with hx|hx
       .exact hns x hx
       .rw[bF.1 hx];exact CP hn
      by_cases hp:pairs=z
      .rw[ay hp] at h
       cases hu:eU r1 with
       |error y=>rw[hu] at h;cases h
       |ok r2=>
        rw[hu] at h;simp only[] at h
        cases hv:gZ r2 with
        |error y=>rw[hv] at h;cases h
        |ok y=>
         obtain⟨v,r3⟩:=y;rw[hv] at h;obtain⟨c,h1,h2,h3,h4,h5,h6⟩:=yG pairs most f (many+1) _ _ _ h ah ah agK (λx hx=>by
          rcases bJ.1 hx with hx|hx
          .exact hvs x hx
          .rw[bF.1 hx];exact SC hv)
         rw[ay hp] at h2 h6;simp only[dH,kT] at h1 h2;have l1:=uS hmo;have l2:=EK hn;have l3:=EJ hu;have l4:=Pz hv;rw[ay rfl] at l1;exact⟨c+1,by omega,by rw[ay hp];omega,by omega,h4,h5,by rw[ay hp];omega⟩
      .rw[ak hp] at h
       obtain⟨c,h1,h2,h3,h4,h5,h6⟩:=yG pairs most f (many+1) _ _ _ h ah ah agK hvs;rw[ak hp] at h2 h6;simp only[dH,kT] at h1;have l1:=uS hmo;have l2:=EK hn;rw[ay rfl] at l1;exact⟨c+1,by omega,by rw[ak hp];omega,by omega,h4,h5,by rw[ak hp];omega⟩
theorem PE:∀(f k:u)(b:o)(l:Bs){x:o}{r:Bs},jS f k b l= .ok (x,r)->(∃m:u,b=m/\m<2 ^ k/\k<=4)->(∃m:u,x=m/\m<=15)/\r.length+2*(zl x).length<=l.length+2*(zl b).length
 |0,k,b,l,x,r,h,⟨m,hm,hlt,hk⟩=>by
  rw[jS] at h;injection h with h;injection h with h h2;subst h h2;refine⟨⟨m,hm,?_⟩,aA _⟩;have:(2:u) ^ k<=2 ^ 4:=GY aj hk;omega
 |f+1,k,b,l,x,r,h,⟨m,hm,hlt,hk⟩=>by
  rw[jS] at h;have h16:(2:u) ^ k<=2 ^ 4:=GY aj hk
  cases hmo:dU l with
  |error y=>rw[hmo] at h;cases h
  |ok y=>
   obtain⟨bo,r0⟩:=y;rw[hmo] at h
   cases bo
   .injection h with h;injection h with h h2;subst h h2
    exact⟨⟨m,hm,by omega⟩,by have:=uS hmo;omega⟩
   .simp only[] at h
    cases hw:eT (kP.drop k) r0 with
    |error y=>rw[hw] at h;cases h
    |ok y=>
     obtain⟨i,r1⟩:=y;rw[hw] at h;have l1:=uS hmo;have l2:=Jv (O7 k) (λx hx=>(show ∀x∈kP,x≠[] by decide) x (List.mem_of_mem_drop hx)) hw;rw[ay rfl] at l1;rw[<-Jt _ _ (O7 k)] at hw;have hi:=O9 hw;rw[kz] at hi;have h4:kP.length=4:=rfl;have hpw:(2:u) ^ k<=2 ^ (k+i):=GY aj ah;have hga:=UC ⟨k+i,by omega⟩ ⟨m,by omega⟩ (by show m<2 ^ (k+i);omega);have:=PE f (k+i+1) _ _ h ⟨m+2 ^ (k+i),by rw[hm];push_cast;rfl,by rw[Nat.pow_succ];omega,by omega⟩;simp only[] at hga;rw[hm,hga,<-hm] at this;exact⟨this.1,by omega⟩
theorem qo (s:aP):(Kj s).length<=1+s.names.length+(if bZ s.kind.toNat=108 then 1 else if bZ s.kind.toNat=118 then 1 else if bZ s.kind.toNat=103 then(zl s.bits).length else if bZ s.kind.toNat=109/\s.first=z then 1 else 0)+(if bZ s.kind.toNat=115 then s.aF.length else 0):=by
 unfold Kj;simp only[jd,dH];have h1:(s.names.take (cu s.kind.toNat).toNat).length+(s.names.drop (cu s.kind.toNat).toNat).length=s.names.length:=by rw[<-dH,Cg]
 have h2:((s.names.drop (cu s.kind.toNat).toNat).zip s.aF|>.flatMap (λp=>[p.1,Ng p.2])).length<=(s.names.drop (cu s.kind.toNat).toNat).length+s.aF.length:=by rw[PD,AJ];omega
 have h3:(s.aF.take 1|>.map Ng).length<=1:=by rw[bH,dN];omega
 generalize bZ s.kind.toNat=q at*;by_cases ZV:q=108
 .subst ZV;simp only[dw,Q,fE,kT];omega
 by_cases ZW:q=118
 .subst ZW;simp only[dw,Q,fE];omega
 by_cases ZX:q=103
 .subst ZX;simp only[dw,Q,fE];omega
 by_cases ZY:q=109/\s.first=z
 .obtain⟨rfl,hf⟩:=ZY;simp only[hf,and_self,dw,Q,fE,kT];omega
 rw[ak ZV,ak ZW,ak ZX,ak ZY,ak ZV,ak ZW,ak ZX,ak ZY];by_cases UD:q=115
 .rw[ay UD,ay UD,mg];omega
 .rw[ak UD,ak UD,mg];omega
theorem Xw {l r:Bs}{b:Y}(h:kN l= .ok (b,r)):r.length+(if b=z then 2 else 0)<=l.length:=by
 unfold kN at h
 cases hm:dU l with
 |error y=>rw[hm] at h;cases h
 |ok y=>
  obtain⟨c,r0⟩:=y;have l1:=uS hm;rw[hm] at h
  cases c
  .injection h with h;injection h with h h2;subst h h2;simp
  .simp only[] at h
   rw[ay rfl] at l1
   split at h
   .rename_i h0
    injection h with h;injection h with h h2;subst h h2
    cases r0 with
    |nil=>cases h0
    |cons c t=>simp only[jd,List.tail_cons,dw] at*;omega
   .injection h with h;injection h with h h2;subst h h2;simp
theorem Z8 {l r:Bs}{n:aP}(h:kC l= .ok (n,r)):n=⟨0,[],0,[],F,0⟩\/(fB n/\r.length+2*(Kj n).length<=l.length+1):=by
 unfold kC at h;by_cases he:jf (bX l)=z
 .rw[ay he] at h;injection h with h;injection h with h _;exact .inl h.symm
 rw[ak he] at h
 right
 cases hw:eT nA (bX l) with
 |error y=>rw[hw] at h;cases h
 |ok y=>
  obtain⟨i,r0⟩:=y;rw[hw] at h;simp only[] at h;have k1:=Jv Sg aj hw;have k0:(bX l).length<=l.length:=(G _).length_le;rw[<-Jt _ _ Sg] at hw;have hi:i<9:=O9 hw
  cases hn:ku (cu (i+1)).toNat [] r0 with
  |error y=>rw[hn] at h;cases h
  |ok y=>
   obtain⟨ns,r1⟩:=y;rw[hn] at h;simp only[] at h;have h1:=MG _ _ _ hn au
   cases ht:vz (i+1) ns r1 with
   |error y=>rw[ht] at h;cases h
   |ok y=>
    obtain⟨s,r2⟩:=y;rw[ht] at h;simp only[] at h;have hs:s=n/\r.length<=r2.length:=by
     cases hm:dU r2 with
     |error y=>rw[hm] at h;cases h
     |ok y=>
      obtain⟨b,r3⟩:=y;have:=uS hm;rw[hm] at h
      cases b
      .injection h with h;injection h with h h2;subst h2;exact⟨h,by omega⟩
      .cases h
    obtain⟨rfl,k3⟩:=hs;have k2:=h1.2.2;have h1:=And.intro h1.1 h1.2.1;clear h hn hw he;have hk:i=0\/i=1\/i=2\/i=3\/i=4\/i=5\/i=6\/i=7\/i=8:=by omega
    unfold vz at ht;rcases hk with rfl|rfl|rfl|rfl|rfl|rfl|rfl|rfl|rfl
    .rw[ay rfl] at ht
     cases hm:eU r1 with
     |error y=>rw[hm] at ht;cases ht
     |ok r0=>
      rw[hm] at ht;simp only[] at ht
      cases hq:eT oI r0 with
      |error y=>rw[hq] at ht;cases ht
      |ok y=>
       obtain⟨j,r3⟩:=y;rw[hq] at ht;injection ht with ht;injection ht with ht ht2;subst ht ht2;have q2:=Jv O8 aj hq;rw[<-Jt _ _ O8] at hq;have hj:j<4:=O9 hq;refine⟨⟨h1.2,by simp,.inl ⟨rfl,h1.1.trans aj,rfl,⟨1+j,by push_cast;rfl,by omega,by omega⟩,rfl,rfl⟩⟩,?_⟩;have kq:(cu (0+1)).toNat=2:=rfl;have hn0:ns.length=2:=h1.1.trans aj;have q1:=EJ hm;have:=qo ⟨((0+1:u):o),ns,1+(j:o),[],F,0⟩;simp[bZ] at this ⊢;omega
    .injection ht with ht;injection ht with ht ht2;subst ht ht2
     refine⟨⟨h1.2,by simp,.inr (.inl ⟨rfl,h1.1.trans aj,rfl,rfl,rfl,rfl⟩)⟩,?_⟩;have kq:(cu (1+1)).toNat=2:=rfl;have hn0:ns.length=2:=h1.1.trans aj;have:=qo ⟨((1+1:u):o),ns,0,[],F,0⟩;simp[bZ] at this ⊢;omega
    .rw[ak aj,ay rfl] at ht
     cases hm:eU r1 with
     |error y=>rw[hm] at ht;cases ht
     |ok r0=>
      rw[hm] at ht;simp only[] at ht
      cases hq:gZ r0 with
      |error y=>rw[hq] at ht;cases ht
      |ok y=>
       obtain⟨v,r3⟩:=y;rw[hq] at ht;injection ht with ht;injection ht with ht ht2;subst ht ht2;refine⟨⟨h1.2,λt ht=>by rw[bF.1 ht];exact SC hq,.inr (.inr (.inl ⟨rfl,h1.1.trans aj,rfl,rfl,rfl,rfl⟩))⟩,?_⟩;have kq:(cu (2+1)).toNat=2:=rfl;have hn0:ns.length=2:=h1.1.trans aj;have q1:=EJ hm;have q2:=Pz hq;have:=qo ⟨((2+1:u):o),ns,0,[v],F,0⟩;simp[bZ] at this ⊢;omega
    .rw[ak aj,ak aj,ak aj,ak aj,ay rfl] at ht
     cases ho:bW z 40 41 0 ns [] r1 with
     |error y=>rw[ho] at ht;cases ht
     |ok y=>
      obtain⟨⟨a,b⟩,r3⟩:=y;rw[ho] at ht;injection ht with ht;injection ht with ht ht2;subst ht ht2;obtain⟨c,e1,e2,e3,e4,e5,e6⟩:=yG _ _ _ _ _ _ _ ho ah ah h1.2 au;have hl:ns.length=2:=h1.1.trans aj;refine⟨⟨e4,e5,.inr (.inr (.inr (.inl ⟨rfl,⟨c,by show a.length=_;omega,by show b.length=_;simpa using e2,by omega⟩,V,rfl,rfl,rfl⟩)))⟩,?_⟩;have kq:(cu (3+1)).toNat=2:=rfl;rw[ay rfl] at e6;have:=qo ⟨((3+1:u):o),a,0,b,F,0⟩;simp[bZ] at this e2 ⊢;omega
    .injection ht with ht;injection ht with ht ht2;subst ht ht2
     refine⟨⟨h1.2,by simp,.inr (.inr (.inr (.inr (.inl ⟨rfl,h1.1.trans aj,rfl,rfl,rfl,rfl⟩))))⟩,?_⟩;have kq:(cu (4+1)).toNat=1:=rfl;have hn0:ns.length=1:=h1.1.trans aj;have:=qo ⟨((4+1:u):o),ns,0,[],F,0⟩;simp[bZ] at this ⊢;omega
    .injection ht with ht;injection ht with ht ht2;subst ht ht2
     refine⟨⟨h1.2,by simp,.inr (.inr (.inr (.inr (.inr (.inl ⟨rfl,h1.1.trans aj,rfl,rfl,rfl,rfl⟩)))))⟩,?_⟩;have kq:(cu (5+1)).toNat=1:=rfl;have hn0:ns.length=1:=h1.1.trans aj;have:=qo ⟨((5+1:u):o),ns,0,[],F,0⟩;simp[bZ] at this ⊢;omega
    .rw[ak aj,ak aj,ak aj,ak aj,ak aj,ay rfl] at ht
     cases ho:bW F 300 301 0 ns [] r1 with
     |error y=>rw[ho] at ht;cases ht
     |ok y=>
      obtain⟨⟨a,b⟩,r3⟩:=y;rw[ho] at ht;injection ht with ht;injection ht with ht ht2;subst ht ht2;obtain⟨c,e1,e2,e3,e4,e5,e6⟩:=yG _ _ _ _ _ _ _ ho ah ah h1.2 au;have hl:ns.length=1:=h1.1.trans aj;have hb:b=[]:=M.1 (by simpa using e2);refine⟨⟨e4,e5,.inr (.inr (.inr (.inr (.inr (.inr (.inl ⟨rfl,⟨c,by show a.length=_;omega,by omega⟩,hb,rfl,rfl,rfl⟩))))))⟩,?_⟩;have kq:(cu (6+1)).toNat=1:=rfl;rw[ak aj] at e6;have:=qo ⟨((6+1:u):o),a,0,b,F,0⟩;simp[bZ] at this ⊢;omega
    .rw[ak aj,ak aj,ak aj,ay rfl] at ht
     cases hf:kN r1 with
     |error y=>rw[hf] at ht;cases ht
     |ok y=>
      obtain⟨fi,r0⟩:=y;rw[hf] at ht;simp only[] at ht
      cases ho:bW F 300 301 0 ns [] r0 with
      |error y=>rw[ho] at ht;cases ht
      |ok y=>
       obtain⟨⟨a,b⟩,r3⟩:=y;rw[ho] at ht;injection ht with ht;injection ht with ht ht2;subst ht ht2;obtain⟨c,e1,e2,e3,e4,e5,e6⟩:=yG _ _ _ _ _ _ _ ho ah ah h1.2 au;have hl:ns.length=2:=h1.1.trans aj;have hb:b=[]:=M.1 (by simpa using e2);refine⟨⟨e4,e5,.inr (.inr (.inr (.inr (.inr (.inr (.inr (.inl ⟨rfl,⟨c,by show a.length=_;omega,by omega⟩,hb,rfl,V,rfl⟩)))))))⟩,?_⟩;have kq:(cu (7+1)).toNat=2:=rfl;rw[ak aj] at e6;have q1:=Xw hf;have:=qo ⟨((7+1:u):o),a,0,b,fi,0⟩;simp[bZ] at this ⊢;cases fi <;> simp at this q1 <;> omega
    .rw[ak aj,ak aj,ay rfl] at ht
     cases hg:jS 5 0 0 r1 with
     |error y=>rw[hg] at ht;cases ht
     |ok y=>
      obtain⟨b,r3⟩:=y;rw[hg] at ht;injection ht with ht;injection ht with ht ht2;subst ht ht2;obtain⟨⟨m,hm,h15⟩,q0⟩:=PE _ _ _ _ hg ⟨0,rfl,by decide,by decide⟩;refine⟨⟨h1.2,by simp,.inr (.inr (.inr (.inr (.inr (.inr (.inr (.inr ⟨rfl,h1.1.trans aj,rfl,rfl,rfl,⟨m,hm,h15⟩⟩)))))))⟩,?_⟩;have kq:(cu (8+1)).toNat=1:=rfl;have hn0:ns.length=1:=h1.1.trans aj;have:=qo ⟨((8+1:u):o),ns,0,[],F,b⟩;simp[bZ] at this ⊢;have q1:(zl 0).length=0:=by decide
      omega
theorem BM {l r:Bs}{b:Y}(h:dU l= .ok (b,r)):r<:+l:=by
 have hs:bX l<:+l:=by unfold bX;exact G _
 unfold dU at h
 split at h
 .injection h with h;injection h with _ h;rw[<-h];exact hs
 .split at h
  .cases h
  .injection h with h;injection h with _ h;rw[<-h];exact hs
theorem EL {l r:Bs}(h:eU l= .ok r):r<:+l:=BM (WO h)
theorem Jw {l r m:Bs}(h:dB l= .ok (m,r)):r<:+l:=by
 unfold dB at h
 split at h
 .cases h
 .split at h
  .cases h
  .injection h with h;injection h with _ h;rw[<-h];exact N _ _
theorem Jy {ws:A Bs}{l r:Bs}{i:u}(h:eT ws l= .ok (i,r)):r<:+l:=by
 unfold eT at h
 split at h
 .injection h with h;injection h with _ h;rw[<-h];exact N _ _
 .cases h
theorem PG {l r:Bs}{v:To}(h:gZ l= .ok (v,r)):r<:+l:=by
 unfold gZ at h;by_cases h0:l.head?=H 45
 .rw[ay h0] at h;injection h with h;injection h with _ h;rw[<-h];exact R _
 rw[ak h0] at h
 cases hn:dB l with
 |error x=>rw[hn] at h;cases h
 |ok y=>
  obtain⟨nm,r1⟩:=y;have h1:=Jw hn;rw[hn] at h;simp only[] at h;by_cases h46:r1.head?=H 46
  .rw[ay h46] at h
   unfold za at h;simp only[] at h
   split at h
   .cases h
   .split at h
    .cases h
    .injection h with h;injection h with _ h;rw[<-h];exact((N _ _).trans (R _)).trans h1
  .rw[ak h46] at h;cases h
theorem MH:∀(k:u)(acc:A Bs)(l:Bs){ns:A Bs}{r:Bs},ku k acc l= .ok (ns,r)->r<:+l
 |0,acc,l,ns,r,h=>by rw[ku] at h;injection h with h;injection h with _ h;subst h;exact Ef _
 |k+1,acc,l,ns,r,h=>by
  rw[ku] at h
  cases hm:eU l with
  |error y=>rw[hm] at h;cases h
  |ok r0=>
   rw[hm] at h;simp only[] at h
   cases hn:dB r0 with
   |error y=>rw[hn] at h;cases h
   |ok y=>
    obtain⟨nm,r1⟩:=y;rw[hn] at h;exact((MH k _ _ h).trans (Jw hn)).trans (EL hm)
theorem yH (pairs:Y)(most:u):∀(f many:u)(ns:A Bs)(vs:A To)(l:Bs){x:A Bs × A To}{r:Bs},bW pairs most f many ns vs l= .ok (x,r)->r<:+l
 |0,many,ns,vs,l,x,r,h=>by rw[bW] at h;injection h with h;injection h with _ h;subst h;exact Ef _
 |f+1,many,ns,vs,l,x,r,h=>by
  rw[bW] at h
  cases hmo:dU l with
  |error y=>rw[hmo] at h;cases h
  |ok y=>
   obtain⟨bo,r0⟩:=y;have h0:=BM hmo;rw[hmo] at h
   cases bo
   .injection h with h;injection h with _ h;subst h;exact h0
   .simp only[] at h
    by_cases hb:many=most/\dX r0=z
    .rw[ay hb] at h;cases h
    .rw[ak hb] at h
     cases hn:dB r0 with
     |error y=>rw[hn] at h;cases h
     |ok y=>
      obtain⟨nm,r1⟩:=y;have h1:=Jw hn;rw[hn] at h;simp only[] at h;by_cases hp:pairs=z
      .rw[ay hp] at h
       cases hu:eU r1 with
       |error y=>rw[hu] at h;cases h
       |ok r2=>
        have h2:=EL hu;rw[hu] at h;simp only[] at h
        cases hv:gZ r2 with
        |error y=>rw[hv] at h;cases h
        |ok y=>
         obtain⟨v,r3⟩:=y;have h3:=PG hv;rw[hv] at h;exact((((yH pairs most f _ _ _ _ h).trans h3).trans h2).trans h1).trans h0
      .rw[ak hp] at h
       exact((yH pairs most f _ _ _ _ h).trans h1).trans h0
theorem PI:∀(f k:u)(b:o)(l:Bs){x:o}{r:Bs},jS f k b l= .ok (x,r)->r<:+l
 |0,k,b,l,x,r,h=>by rw[jS] at h;injection h with h;injection h with _ h;subst h;exact Ef _
 |f+1,k,b,l,x,r,h=>by
  rw[jS] at h
  cases hmo:dU l with
  |error y=>rw[hmo] at h;cases h
  |ok y=>
   obtain⟨bo,r0⟩:=y;have h0:=BM hmo;rw[hmo] at h
   cases bo
   .injection h with h;injection h with _ h;subst h;exact h0
   .simp only[] at h
    cases hw:eT (kP.drop k) r0 with
    |error y=>rw[hw] at h;cases h
    |ok y=>
     obtain⟨i,r1⟩:=y;have h1:=Jy hw;rw[hw] at h;exact((PI f _ _ _ h).trans h1).trans h0
theorem Xx {l r:Bs}{b:Y}(h:kN l= .ok (b,r)):r<:+l:=by
 unfold kN at h
 cases hmo:dU l with
 |error y=>rw[hmo] at h;cases h
 |ok y=>
  obtain⟨bo,r0⟩:=y;have h0:=BM hmo;rw[hmo] at h
  cases bo
  .injection h with h;injection h with _ h;subst h;exact Ef _
  .simp only[] at h
   split at h
   .injection h with h;injection h with _ h;rw[<-h];exact(R _).trans h0
   .injection h with h;injection h with _ h;subst h;exact Ef _
theorem aac {k:u}{ns:A Bs}{l r:Bs}{n:aP}(h:vz k ns l= .ok (n,r)):r<:+l:=by
 unfold vz at h;by_cases h1:k=1
 .rw[ay h1] at h
  cases hm:eU l with
  |error y=>rw[hm] at h;cases h
  |ok r0=>
   rw[hm] at h;simp only[] at h
   cases hn:eT oI r0 with
   |error y=>rw[hn] at h;cases h
   |ok y=>obtain⟨i,r1⟩:=y;rw[hn] at h;injection h with h;injection h with _ h;subst h;exact(Jy hn).trans (EL hm)
 rw[ak h1] at h;by_cases h3:k=3
 .rw[ay h3] at h
  cases hm:eU l with
  |error y=>rw[hm] at h;cases h
  |ok r0=>
   rw[hm] at h;simp only[] at h
   cases hn:gZ r0 with
   |error y=>rw[hn] at h;cases h
   |ok y=>obtain⟨i,r1⟩:=y;rw[hn] at h;injection h with h;injection h with _ h;subst h;exact(PG hn).trans (EL hm)
 rw[ak h3] at h;by_cases h9:k=9
 .rw[ay h9] at h
  cases hm:jS 5 0 0 l with
  |error y=>rw[hm] at h;cases h
  |ok y=>obtain⟨b,r1⟩:=y;rw[hm] at h;injection h with h;injection h with _ h;subst h;exact PI _ _ _ _ hm
 rw[ak h9] at h;by_cases h8:k=8
 .rw[ay h8] at h
  cases hm:kN l with
  |error y=>rw[hm] at h;cases h
  |ok y=>
   obtain⟨f,r0⟩:=y;rw[hm] at h;simp only[] at h
   cases ho:bW F 300 301 0 ns [] r0 with
   |error y=>rw[ho] at h;cases h
   |ok y=>
    obtain⟨⟨a,b⟩,r1⟩:=y;rw[ho] at h;injection h with h;injection h with _ h;subst h;exact(yH _ _ _ _ _ _ _ ho).trans (Xx hm)
 rw[ak h8] at h;by_cases h4:k=4
 .rw[ay h4] at h
  cases ho:bW z 40 41 0 ns [] l with
  |error y=>rw[ho] at h;cases h
  |ok y=>obtain⟨⟨a,b⟩,r1⟩:=y;rw[ho] at h;injection h with h;injection h with _ h;subst h;exact yH _ _ _ _ _ _ _ ho
 rw[ak h4] at h;by_cases h7:k=7
 .rw[ay h7] at h
  cases ho:bW F 300 301 0 ns [] l with
  |error y=>rw[ho] at h;cases h
  |ok y=>obtain⟨⟨a,b⟩,r1⟩:=y;rw[ho] at h;injection h with h;injection h with _ h;subst h;exact yH _ _ _ _ _ _ _ ho
 rw[ak h7] at h;injection h with h;injection h with _ h;subst h;exact Ef _
theorem aad {l r:Bs}{n:aP}(h:kC l= .ok (n,r)):r<:+l:=by
 have hs:bX l<:+l:=by unfold bX;exact G _
 unfold kC at h;by_cases he:jf (bX l)=z
 .rw[ay he] at h;injection h with h;injection h with _ h;subst h;exact hs
 rw[ak he] at h
 cases hw:eT nA (bX l) with
 |error y=>rw[hw] at h;cases h
 |ok y=>
  obtain⟨i,r0⟩:=y;rw[hw] at h;simp only[] at h
  cases hn:ku (cu (i+1)).toNat [] r0 with
  |error y=>rw[hn] at h;cases h
  |ok y=>
   obtain⟨ns,r1⟩:=y;rw[hn] at h;simp only[] at h
   cases ht:vz (i+1) ns r1 with
   |error y=>rw[ht] at h;cases h
   |ok y=>
    obtain⟨s,r2⟩:=y;rw[ht] at h;simp only[] at h
    cases hm:dU r2 with
    |error y=>rw[hm] at h;cases h
    |ok y=>
     obtain⟨b,r3⟩:=y;rw[hm] at h
     cases b
     .injection h with h;injection h with _ h;subst h
      exact((((BM hm).trans (aac ht)).trans (MH _ _ _ hn)).trans (Jy hw)).trans hs
     .cases h
theorem aae {l r:Bs}{n:aP}(h:wU l= .ok (n,r)):(n=⟨0,[],0,[],F,0⟩\/fB n)/\(r=[]\/(10::r)<:+l):=by
 unfold wU at h
 cases hr:kC l with
 |error y=>rw[hr] at h;cases h
 |ok y=>
  obtain⟨s,r0⟩:=y;have h0:=aad hr;have h1:=(Z8 hr).imp_right And.left;have h2:kW r0<:+r0:=by unfold kW;split;exact N _ _;exact Ef _
  rw[hr] at h;simp only[] at h;by_cases hn:(kW r0).head?=O
  .rw[ay hn] at h;injection h with h;injection h with h h';subst h;exact⟨h1,.inl h'.symm⟩
  .rw[ak hn] at h
   by_cases h10:(kW r0).head?=H 10
   .rw[ay h10] at h;injection h with h;injection h with h h';subst h
    refine⟨h1,.inr ?_⟩;have:10::r=kW r0:=by
     cases hq:kW r0 with
     |nil=>rw[hq] at h10;cases h10
     |cons c t=>rw[hq] at h10 h';rw[List.tail_cons] at h';rw[GR] at h10;rw[<-xW h10,h']
    rw[this];exact h2.trans h0
   .rw[ak h10] at h;cases h
def Bad {α:Type}(x:Except Er α):Prop:=∀r m,x= .error (r,m)->m≠0
theorem BN (l:Bs):Bad (dU l):=λr m h=>by
 unfold dU at h
 split at h
 .cases h
 .split at h
  .injection h with h;injection h with _ h;subst h;decide
  .cases h
theorem EM (l:Bs):Bad (eU l):=λr m h=>by
 unfold eU at h
 cases hm:dU l with
 |error x=>obtain⟨r',m'⟩:=x;rw[hm] at h;injection h with h;injection h with _ h;subst h;exact BN l _ _ hm
 |ok y=>
  obtain⟨b,r'⟩:=y;rw[hm] at h
  cases b
  .injection h with h;injection h with _ h;subst h;decide
  .cases h
theorem Jz (l:Bs):Bad (dB l):=λr m h=>by
 unfold dB at h
 split at h
 .injection h with h;injection h with _ h;subst h;decide
 .split at h
  .injection h with h;injection h with _ h;subst h;decide
  .cases h
theorem JA (ws:A Bs)(l:Bs):Bad (eT ws l):=λr m h=>by
 unfold eT at h
 split at h
 .cases h
 .injection h with h;injection h with _ h;subst h;decide
theorem PK (l:Bs):Bad (gZ l):=λr m h=>by
 unfold gZ at h
 split at h
 .cases h
 .cases hn:dB l with
  |error x=>obtain⟨r',m'⟩:=x;rw[hn] at h;injection h with h;injection h with _ h;subst h;exact Jz l _ _ hn
  |ok y=>
   obtain⟨nm,r1⟩:=y;rw[hn] at h;simp only[] at h
   split at h
   .unfold za at h
    simp only[] at h
    split at h
    .injection h with h;injection h with _ h;subst h;decide
    .split at h
     .injection h with h;injection h with _ h;subst h;decide
     .cases h
   .injection h with h;injection h with _ h;subst h;decide
theorem MI:∀(k:u)(acc:A Bs)(l:Bs),Bad (ku k acc l)
 |0,acc,l=>λr m h=>by rw[ku] at h;cases h
 |k+1,acc,l=>λr m h=>by
  rw[ku] at h
  cases hm:eU l with
  |error x=>obtain⟨r',m'⟩:=x;rw[hm] at h;injection h with h;injection h with _ h;subst h;exact EM l _ _ hm
  |ok r0=>
   rw[hm] at h;simp only[] at h
   cases hn:dB r0 with
   |error x=>obtain⟨r',m'⟩:=x;rw[hn] at h;injection h with h;injection h with _ h;subst h;exact Jz _ _ _ hn
   |ok y=>obtain⟨nm,r1⟩:=y;rw[hn] at h;exact MI k _ _ _ _ h
theorem yI (pairs:Y)(most:u):∀(f many:u)(ns:A Bs)(vs:A To)(l:Bs),Bad (bW pairs most f many ns vs l)
 |0,many,ns,vs,l=>λr m h=>by rw[bW] at h;cases h
 |f+1,many,ns,vs,l=>λr m h=>by
  rw[bW] at h
  cases hmo:dU l with
  |error x=>obtain⟨r',m'⟩:=x;rw[hmo] at h;injection h with h;injection h with _ h;subst h;exact BN l _ _ hmo
  |ok y=>
   obtain⟨bo,r0⟩:=y;rw[hmo] at h
   cases bo
   .cases h
   .simp only[] at h
    by_cases hb:many=most/\dX r0=z
    .rw[ay hb] at h;injection h with h;injection h with _ h;subst h;decide
    .rw[ak hb] at h
     cases hn:dB r0 with
     |error x=>obtain⟨r',m'⟩:=x;rw[hn] at h;injection h with h;injection h with _ h;subst h;exact Jz _ _ _ hn
     |ok y=>
      obtain⟨nm,r1⟩:=y;rw[hn] at h;simp only[] at h;by_cases hp:pairs=z
      .rw[ay hp] at h
       cases hu:eU r1 with
       |error x=>obtain⟨r',m'⟩:=x;rw[hu] at h;injection h with h;injection h with _ h;subst h;exact EM _ _ _ hu
       |ok r2=>
        rw[hu] at h;simp only[] at h
        cases hv:gZ r2 with
        |error x=>obtain⟨r',m'⟩:=x;rw[hv] at h;injection h with h;injection h with _ h;subst h;exact PK _ _ _ hv
        |ok y=>obtain⟨v,r3⟩:=y;rw[hv] at h;exact yI pairs most f _ _ _ _ _ _ h
      .rw[ak hp] at h
       exact yI pairs most f _ _ _ _ _ _ h
theorem PL:∀(f k:u)(b:o)(l:Bs),Bad (jS f k b l)
 |0,k,b,l=>λr m h=>by rw[jS] at h;cases h
 |f+1,k,b,l=>λr m h=>by
  rw[jS] at h
  cases hmo:dU l with
  |error x=>obtain⟨r',m'⟩:=x;rw[hmo] at h;injection h with h;injection h with _ h;subst h;exact BN l _ _ hmo
  |ok y=>
   obtain⟨bo,r0⟩:=y;rw[hmo] at h
   cases bo
   .cases h
   .simp only[] at h
    cases hw:eT (kP.drop k) r0 with
    |error x=>obtain⟨r',m'⟩:=x;rw[hw] at h;injection h with h;injection h with _ h;subst h;exact JA _ _ _ _ hw
    |ok y=>obtain⟨i,r1⟩:=y;rw[hw] at h;exact PL f _ _ _ _ _ h
theorem Xy (l:Bs):Bad (kN l):=λr m h=>by
 unfold kN at h
 cases hmo:dU l with
 |error x=>obtain⟨r',m'⟩:=x;rw[hmo] at h;injection h with h;injection h with _ h;subst h;exact BN l _ _ hmo
 |ok y=>
  obtain⟨bo,r0⟩:=y;rw[hmo] at h
  cases bo
  .cases h
  .simp only[] at h
   split at h <;> cases h
theorem aaf (k:u)(ns:A Bs)(l:Bs):Bad (vz k ns l):=λr m h=>by
 unfold vz at h;by_cases h1:k=1
 .rw[ay h1] at h
  cases hm:eU l with
  |error x=>obtain⟨r',m'⟩:=x;rw[hm] at h;injection h with h;injection h with _ h;subst h;exact EM _ _ _ hm
  |ok r0=>
   rw[hm] at h;simp only[] at h
   cases hn:eT oI r0 with
   |error x=>obtain⟨r',m'⟩:=x;rw[hn] at h;injection h with h;injection h with _ h;subst h;exact JA _ _ _ _ hn
   |ok y=>rw[hn] at h;cases h
 rw[ak h1] at h;by_cases h3:k=3
 .rw[ay h3] at h
  cases hm:eU l with
  |error x=>obtain⟨r',m'⟩:=x;rw[hm] at h;injection h with h;injection h with _ h;subst h;exact EM _ _ _ hm
  |ok r0=>
   rw[hm] at h;simp only[] at h
   cases hn:gZ r0 with
   |error x=>obtain⟨r',m'⟩:=x;rw[hn] at h;injection h with h;injection h with _ h;subst h;exact PK _ _ _ hn
   |ok y=>rw[hn] at h;cases h
 rw[ak h3] at h;by_cases h9:k=9
 .rw[ay h9] at h
  cases hm:jS 5 0 0 l with
  |error x=>obtain⟨r',m'⟩:=x;rw[hm] at h;injection h with h;injection h with _ h;subst h;exact PL _ _ _ _ _ _ hm
  |ok y=>rw[hm] at h;cases h
 rw[ak h9] at h;by_cases h8:k=8
 .rw[ay h8] at h
  cases hm:kN l with
  |error x=>obtain⟨r',m'⟩:=x;rw[hm] at h;injection h with h;injection h with _ h;subst h;exact Xy _ _ _ hm
  |ok y=>
   obtain⟨f,r0⟩:=y;rw[hm] at h;simp only[] at h
   cases ho:bW F 300 301 0 ns [] r0 with
   |error x=>obtain⟨r',m'⟩:=x;rw[ho] at h;injection h with h;injection h with _ h;subst h;exact yI _ _ _ _ _ _ _ _ _ ho
   |ok y=>rw[ho] at h;cases h
 rw[ak h8] at h;by_cases h4:k=4
 .rw[ay h4] at h
  cases ho:bW z 40 41 0 ns [] l with
  |error x=>obtain⟨r',m'⟩:=x;rw[ho] at h;injection h with h;injection h with _ h;subst h;exact yI _ _ _ _ _ _ _ _ _ ho
  |ok y=>rw[ho] at h;cases h
 rw[ak h4] at h;by_cases h7:k=7
 .rw[ay h7] at h
  cases ho:bW F 300 301 0 ns [] l with
  |error x=>obtain⟨r',m'⟩:=x;rw[ho] at h;injection h with h;injection h with _ h;subst h;exact yI _ _ _ _ _ _ _ _ _ ho
  |ok y=>rw[ho] at h;cases h
 rw[ak h7] at h
 cases h
theorem aag (l:Bs):Bad (kC l):=λr m h=>by
 unfold kC at h;by_cases he:jf (bX l)=z
 .rw[ay he] at h;cases h
 rw[ak he] at h
 cases hw:eT nA (bX l) with
 |error x=>obtain⟨r',m'⟩:=x;rw[hw] at h;injection h with h;injection h with _ h;subst h;exact JA _ _ _ _ hw
 |ok y=>
  obtain⟨i,r0⟩:=y;rw[hw] at h;simp only[] at h
  cases hn:ku (cu (i+1)).toNat [] r0 with
  |error x=>obtain⟨r',m'⟩:=x;rw[hn] at h;injection h with h;injection h with _ h;subst h;exact MI _ _ _ _ _ hn
  |ok y=>
   obtain⟨ns,r1⟩:=y;rw[hn] at h;simp only[] at h
   cases ht:vz (i+1) ns r1 with
   |error x=>obtain⟨r',m'⟩:=x;rw[ht] at h;injection h with h;injection h with _ h;subst h;exact aaf _ _ _ _ _ ht
   |ok y=>
    obtain⟨s,r2⟩:=y;rw[ht] at h;simp only[] at h
    cases hm:dU r2 with
    |error x=>obtain⟨r',m'⟩:=x;rw[hm] at h;injection h with h;injection h with _ h;subst h;exact BN _ _ _ hm
    |ok y=>
     obtain⟨b,r3⟩:=y;rw[hm] at h
     cases b
     .cases h
     .injection h with h;injection h with _ h;subst h;decide
theorem aah (l:Bs):Bad (wU l):=λr m h=>by
 unfold wU at h
 cases hr:kC l with
 |error x=>obtain⟨r',m'⟩:=x;rw[hr] at h;injection h with h;injection h with _ h;subst h;exact aag _ _ _ hr
 |ok y=>
  obtain⟨s,r0⟩:=y;rw[hr] at h;simp only[] at h
  split at h
  .cases h
  .split at h
   .cases h
   .injection h with h;injection h with _ h;subst h;decide
def xZ (s:Bs):u->u->Except (o × o) (A (aP × o))
 |0,_=> .ok []
 |n+1,at_=>
  if at_<s.length then
   (if(dK s at_).2.2=0 then
    (match xZ s n (dK s at_).2.1.toNat with
     | .ok r=> .ok (((dK s at_).1,(at_:o))::r)
     | .error x=> .error x)
   else .error ((dK s at_).2.1,(dK s at_).2.2))
  else .ok []
def adW:u->A aP->A (aP × o)
 |_,[]=>[]
 |n,s::ls=>(s,(n:o))::adW (n+(ajq s).length) ls
theorem IZ {s:Bs}{p:u}(hp:p<s.length)(h:(dK s (p:o)).2.2=0):∃q:u,(dK s (p:o)).2.1=(q:o)/\p<q/\q<=s.length:=by
 unfold dK at h ⊢;rw[ak ah,kS] at h ⊢
 cases hl:wU (s.drop p) with
 |error x=>
  obtain⟨r,m⟩:=x;rw[hl] at h;exact S h (aah _ _ _ hl)
 |ok x=>
  obtain⟨n,r⟩:=x;refine⟨s.length - r.length,rfl,?_,by omega⟩;rcases(aae hl).2 with rfl|hs
  .simpa using hp
  .have:=hs.length_le
   rw[jd,kz] at this;omega
structure Ai where
 fr:o
 to:o
 ln:aP
 er:o
def jF (s:Bs):u->u->A Ai
 |0,_=>[]
 |n+1,p=>if p<s.length then⟨(p:o),(dK s (p:o)).2.1,(dK s (p:o)).1,(dK s (p:o)).2.2⟩::(if(dK s (p:o)).2.2=0 then jF s n (dK s (p:o)).2.1.toNat else []) else []
theorem vT (s:Bs):∀(n p:u),s.length<n+p->
  ((∀x∈jF s n p,x.er=0)/\xZ s n p= .ok ((jF s n p).map (λx=>(x.ln,x.fr))))\/
  (∃pre x,jF s n p=pre++[x]/\(∀y∈pre,y.er=0)/\x.er≠0/\xZ s n p= .error (x.to,x.er))
 |0,p,h=> .inl ⟨λx hx=>(by cases hx),rfl⟩
 |n+1,p,h=>by
  by_cases hp:p<s.length
  .by_cases h0:(dK s (p:o)).2.2=0
   .obtain⟨q,e1,e2,e3⟩:=IZ hp h0
    have hi:jF s (n+1) p=⟨(p:o),(dK s (p:o)).2.1,(dK s (p:o)).1,(dK s (p:o)).2.2⟩::jF s n q:=by
     show(if p<s.length then _ else _)=_;rw[ay hp,ay h0,e1,kS]
    have hl:xZ s (n+1) p=match xZ s n q with| .ok r=> .ok (((dK s (p:o)).1,(p:o))::r)| .error x=> .error x:=by
     show(if p<s.length then _ else _)=_;rw[ay hp,ay h0,e1,kS]
     all_goals (cases xZ s n q <;> rfl)
    rcases vT s n q ah with⟨a,b⟩|⟨pre,x,a,b,c,d⟩
    .refine .inl ⟨λx hx=>?_,?_⟩
     .rw[hi] at hx
      rcases dP.1 hx with rfl|hx
      .exact h0
      .exact a x hx
     .rw[hl,b,hi];rfl
    .refine .inr ⟨⟨(p:o),(dK s (p:o)).2.1,(dK s (p:o)).1,(dK s (p:o)).2.2⟩::pre,x,by rw[hi,a];rfl,λy hy=>?_,c,by rw[hl,d]⟩
     rcases dP.1 hy with rfl|hy
     .exact h0
     .exact b y hy
   .refine .inr ⟨[],⟨(p:o),(dK s (p:o)).2.1,(dK s (p:o)).1,(dK s (p:o)).2.2⟩,?_,λy hy=>(by cases hy),h0,?_⟩
    .show(if p<s.length then _ else _)=_
     rw[ay hp,ak h0];rfl
    .show(if p<s.length then _ else _)=_
     rw[ay hp,ak h0]
  .refine .inl ⟨λx hx=>?_,?_⟩
   .unfold jF at hx
    rw[ak hp] at hx;cases hx
   .unfold jF xZ
    rw[ak hp,ak hp];rfl
theorem UE {s:Bs}{n p:u}(hp:p<s.length):jF s (n+1) p=⟨(p:o),(dK s (p:o)).2.1,(dK s (p:o)).1,(dK s (p:o)).2.2⟩::(if(dK s (p:o)).2.2=0 then jF s n (dK s (p:o)).2.1.toNat else []):=by
 show(if p<s.length then _ else _)=_;rw[ay hp]
theorem MJ (s:Bs):∀(n p:u)(x:Ai),x∈jF s n p->x.ln.names.length<=1000/\x.ln.aF.length<=1000
 |0,_,x,h=>by cases h
 |n+1,p,x,h=>by
  unfold jF at h
  split at h
  .rcases dP.1 h with rfl|h
   .exact TG s _
   .split at h
    .exact MJ s n _ x h
    .cases h
  .cases h
attribute [local go_sem] Oper.semAt_some
def Eh (w:World):Prop:=qc w/\AP w
theorem Eh.below {w w':World}(h:Eh w)(hb:Below w.1.size w w'):Eh w':=⟨h.1.below hb,h.2.below hb⟩
theorem U9 (s:ByteArray)(w:World):Calls Tryz.prog 63 #[.string s] w λe w'=>e= .returned (.func (.func 103) #[] #[I (H ⟨w.1.size,0,O⟩)])/\w'=w.alloc (.cells #[.string s] 9):=by
 go_enter func63,ntmps63;go_wp2_with fail;go_ret;exact⟨rfl,rfl⟩
def abh (B:u)(x:Ai)(args:Array Value)(X:World):Prop:=
 ∃b4 b6 l,B<=b4/\b4<b6/\args=#[.agg #[C E x.fr,C E x.to],.func (.func 105) #[] #[I (H ⟨b4,0,O⟩),I (H ⟨b6,0,O⟩)]]/\Bx X b4 (kg l)/\Bx X b6 #[C E x.er]/\iB X B l x.ln/\∃cs fz,X.1[b6]?=H (.cells cs 37 fz)
def Ye (B:u)(x:Ai)(args:Array Value)(X:World):Prop:=
 ∃b4 b6,B<=b6/\args=#[.agg #[C E x.fr,C E x.to],.func (.func 105) #[] #[I (H ⟨b4,0,O⟩),I (H ⟨b6,0,O⟩)]]/\Bx X b6 #[C E x.er]
theorem acZ (b4 b6:u)(l:bB)(er:o)(w:World)(h4:Bx w b4 (kg l))(h6:Bx w b6 #[C E er]):
  Calls Tryz.prog 105 #[I (H ⟨b4,0,O⟩),I (H ⟨b6,0,O⟩)] w (sH (jg l) (C E er) w):=by
 obtain⟨lk,la,ln,nc,lvl,va,vn,vc,lf,bits⟩:=l;have hl4:=h4.2.2;have hl6:=h6.2.2;have H4:=hid h4;have H6:=hid h6;clear h4 h6;go_enter func105,ntmps105;go_wp2_with fail;refine aC 3 [(0,0),(1,0),(2,2),(3,1)] (λ_=>True) (λW'=>Bx W' b4 #[C E lk,.slice la ln nc,C E lvl,.slice va vn vc,.bool lf,C E bits]/\Bx W' b6 #[C E er]) av av (trivial) (⟨(H4.q.alloc _).drew,(H6.q.alloc _).drew⟩) ?_;refine qC ?_;refine aD rfl rfl (λK hK=>?_);go_simp;refine hK _ _ ⟨V,(H4.q.alloc _).drew,(H6.q.alloc _).drew⟩ ?_;clear hK K;refine qC ?_;refine aJ ?_;have hcz:=(Bx.new w #[C E lk,.slice la ln nc,C E lvl,.slice va vn vc,.bool lf,C E bits] 30).drew.1;go_wp2_with fail;refine bodyPost_ret (v:= .tuple #[jg ⟨lk,la,ln,nc,lvl,va,vn,vc,lf,bits⟩,C E er]) (by simp[results,results105,go_sem,hcz]) rfl ⟨rfl,(aB (Below.refl _ _) _).drew⟩
theorem aew:∀args w,(callFunc 103 args).run Tryz.prog w= .ok (.enter 103 args) w:=enters_of func103 av rfl
theorem QE (s:Bs)(hlim:s.length<=1000000)(bs:u)(D:u->Prop)(W:World)(hs:Bx W bs #[.string ⟨s.toArray⟩])(WQ:D bs):
  abO Tryz.prog 103 #[I (H ⟨bs,0,O⟩)] (abh W.1.size) 0 D Eh (Ye W.1.size) (jF s (s.length+1) 0) W:=by
 intro n l J Jx hJ hJx hJR asV hY h0;refine callsIn_of_wp func103 rfl V ?_ rfl;simp only[ntmps103,zD,jd,mg,Nat.reduceAdd,Nat.reduceSub,A9,Ba,xV,xU,j3,gF];have hz:=iM s
 gi_wp2
 gi_loopw [3] (λi wr=>∃(p fuel:u)(pre:A Ai),i= C E p/\pre++jF s fuel p=jF s (s.length+1) 0/\J pre wr/\Bx wr bs #[.string ⟨s.toArray⟩]/\W.1.size<=wr.1.size/\s.length<fuel+p/\p<=s.length) (λi _=>s.length - (RowKit.intOf i).toNat)
 case atStart=>exact⟨0,s.length+1,[],rfl,rfl,h0,hs,aA _,by omega,aV _⟩
 case round=>
  obtain⟨p,fuel,pre,rfl,hpre,hj,hsr,an6,hfu,asW⟩:=hrel;have hc:=hsr.1;by_cases hp:p<s.length
  .obtain⟨f,rfl⟩:∃f,fuel=f+1:=⟨fuel - 1,by omega⟩
   have hgd:=hJR _ _ hj;have yO:=hid (VJ s (p:o) hlim wr hgd.1.1.1 hgd.2 hgd.1);obtain⟨rd,hrd⟩:∃rd,rd=dK s (p:o):=⟨_,rfl⟩;have hst:=UE (n:=f) hp;rw[<-hrd] at hst;rw[hst] at hpre;have hnx:rd.2.2=0->∃q:u,rd.2.1=(q:o)/\p<q/\q<=s.length:=by rw[hrd];exact IZ hp
   rw[<-hrd] at yO;obtain⟨rn,ro,er⟩:=rd;have nD:=hid hpre;have HJ:=hid hj;have zY:=hid hsr;have Fa:=hid hnx;have HWZ:=hid an6;have hp2:(p:o)<(s.length:o):=by omega
   clear hpre hj hsr hst hrd hnx hgd
   gi_wp2
   refine⟨V,λh=>(by cases h),?_⟩;refine(callsIn_wide.2 yO.q).mono ?_;rintro e w1 ⟨cl,rfl,hat,hb1⟩;have HAT:=hid hat;have HB1:=hid hb1;clear hat hb1 yO;obtain⟨X,hX⟩:∃X,X=(w1.alloc (.cells (kg cl) 30)).alloc (.cells #[C E er] 37):=⟨_,rfl⟩;have hbX:Below wr.1.size wr X:=by rw[hX];exact(HB1.q.alloc HB1.q.size _).alloc (by have:=HB1.q.size;simp;omega) _
   have WR:X.1.size=w1.1.size+2:=by rw[hX];simp
   have hx4:Bx X w1.1.size (kg cl):=by rw[hX];exact(Bx.new w1 _ _).alloc _
   have hx6:Bx X (w1.1.size+1) #[C E er]:=by
    rw[hX];have:=Bx.new (w1.alloc (.cells (kg cl) 30)) #[C E er] 37;rw[World.size_alloc] at this;exact this
   have Wd:iB X W.1.size cl rn:=by rw[hX];exact((HAT.q.below (((Below.refl w1.1.size w1).alloc (aA _) _).alloc au _)).mono HWZ.q)
   have hty:∃cs fz,X.1[w1.1.size+1]?=H (.cells cs 37 fz):=by
    rw[hX];have:=World.alloc_heap_new (w1.alloc (.cells (kg cl) 30)) (.cells #[C E er] 37);rw[World.size_alloc] at this;exact⟨_,_,this⟩
   have WS:J pre X:=hJ _ _ _ HJ.q (Same.of_below hbX (λi _ hl=>hl));have hw1:=HB1.q.size;obtain⟨fn,tmps,assign,body,hy,hR⟩:=hY pre ⟨(p:o),ro,rn,er⟩ #[.agg #[C E (p:o),C E ro],.func (.func 105) #[] #[I (H ⟨w1.1.size,0,O⟩),I (H ⟨w1.1.size+1,0,O⟩)]] X WS
    ⟨_,by rw[<-nD.q];simp;rfl⟩ ⟨w1.1.size,w1.1.size+1,cl,by have:=HWZ.q;omega,by omega,rfl,hx4,hx6,Wd,hty⟩ (by have:=HWZ.q;omega) (n - 1)
   have HX:=hid hX;have jl:Hid (Bx X bs #[.string ⟨s.toArray⟩]):=hid (zY.q.keep hbX);have kM:Hid (W.1.size<=X.1.size):=hid (by have:=HWZ.q;omega);rw[hX] at hy hR;clear hX hbX WR hx4 hx6 Wd WS hw1
   gi_wp2
   refine⟨λh=>(by cases h),?_⟩;refine hR.mono ?_;rintro e W' (⟨rfl,hJ',hk,hkp⟩|⟨rfl,F5,_⟩)
   .clear hR hy
    obtain⟨b4',b6',_,hargs,agL⟩:=hkp;simp at hargs;obtain⟨rfl,rfl⟩:=hargs;rw[<-HX.q] at hk;have Uq:Bx W' bs #[.string ⟨s.toArray⟩]:=⟨λi=>(World.cell?_of_block (a:=⟨bs,i,O⟩) (hk.2 _ WQ jl.q.2.2)).trans (jl.q.1 i),λi=>(World.frozen?_of_block (a:=⟨bs,i,O⟩) (hk.2 _ WQ jl.q.2.2)).trans (jl.q.2.1 i),dz jl.q.2.2 hk.1⟩;have an7:=hid Uq;have HJ3:=hid hJ';have HW3:Hid (W.1.size<=W'.1.size):=hid (dL kM.q hk.1);have hc6:=agL.1;clear hk Uq hJ' agL;by_cases h0:er=0
    .subst h0
     obtain⟨q,hq,hq1,hq2⟩:=Fa.q rfl;have HQ:=hid hq;have HQ1:=hid hq1;have HQ2:=hid hq2;clear hq hq1 hq2
     gi_wp2
     go_roundw
     case rel=>
      have hro:ro=(q:o):=HQ.q;refine⟨q,f,pre++[⟨(p:o),ro,rn,0⟩],by rw[hro],?_,HJ3.q,an7.q,HW3.q,by have:=HQ1.q;omega,HQ2.q⟩;have:=nD.q;simp only[dw] at this;simp only[hro,kS] at this ⊢;rw[<-this];simp
     case measure=>
      have hro:ro=(q:o):=HQ.q;rw[hro];have:=HQ1.q;have:=HQ2.q;simp only[RowKit.intOf,kS];omega
    .have hne1:(er==0)=F:=aR.2 h0
     have hne2:(er !=0)=z:=by simp[h0]
     have H0:=hid h0;clear h0
     gi_wp2
     refine bodyPost_ret (results_none rfl _ _ _) rfl ?_;have:=nD.q;rw[ak H0.q] at this;exact⟨_,rfl,.inl (by rw[<-this];exact HJ3.q)⟩
   .clear hR hy
    gi_wp2
    refine bodyPost_ret (results_none rfl _ _ _) rfl ?_;exact⟨_,rfl,.inr ⟨pre++[⟨(p:o),ro,rn,er⟩],⟨_,by rw[<-nD.q];simp;rfl⟩,F5⟩⟩
  .have hp2:¬(p:o)<(s.length:o):=by omega
   have nD:=hid hpre;have HJ:=hid hj;clear hpre hj
   gi_wp2
   go_end0
   refine⟨⟨_,rfl⟩,.inl ?_⟩;have h1:jF s fuel p=[]:=by
    cases fuel with
    |zero=>rfl
    |succ f=>unfold jF;rw[ak hp]
   have h2:=nD.q;rw[h1,fw] at h2;rw[<-h2];exact HJ.q
end Yd
