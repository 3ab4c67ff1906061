import Derived.Test.YtiheclemhihpeaaGreatDoorZCu13
set_option linter.all false
set_option maxRecDepth 200000
set_option maxHeartbeats 8000000
namespace Yd
open Bool renaming false->I,true->O
open Option renaming none->G,some->H
open Go Go.RowKit Go.Proofs Tryz
open Below renaming refl->N
open Go renaming bodyPost_ret->M
open Go.IntKind renaming i64->L
open Go.IntWalk renaming i64_in->V
open Go.Value renaming int->J,string->U
open Yd renaming hid->C
open _root_ renaming Int->D
theorem aae{p:Prop}(h:p:=by simp[results,results48,go_sem,u]):p:=h
theorem cB.qG {w:World}{B p:Nat}{s l:Bs}{e:D}(h:cB w B s p l e)(b i:Nat)(v:Value)(a:b≠B):cB (w.setCell ⟨b,i,G⟩ v) B s p l e:=
 ⟨h.x.setOther b i v (Ne.symm a),h.d,h.le,h.lim⟩
theorem jY {B b:Nat}{w X:World}(h:Cs B w X)(j:w.1.size<=b)(i:Nat)(v:Value):Cs B w (X.setCell ⟨b,i,G⟩ v):=by
 have f:Same (λi=>i≠B/\i<w.1.size) X (X.setCell ⟨b,i,G⟩ v):=Same.setCell _ _ _ _ (λe=>by have:b<w.1.size:=e.2;omega);have g:Same (λi=>i≠B/\i<w.1.size) w X:=⟨h.os,h.tape,h.output,h.size,λi d c=>h.block i d.1 c⟩;have a:=g.tr f;exact⟨a.os,a.tape,a.output,a.size,λi d c=>a.block i ⟨d,c⟩ c⟩
theorem Ja (t:Bs):dN (45::t)= .ok (⟨[],0⟩,t):=by unfold dN;rw[aA (by rfl)];rfl
theorem Na {b:UInt8}(t:Bs)(h:b≠45):dN (b::t)=match bU (b::t) with
  | .error x=> .error x
  | .ok (a,r)=>if r.head?=H 46 then rY a r.tail else .error (r,220):=by
 unfold dN;rw[ay (by simpa using h)];rfl
theorem Qm {B p:Nat}{s t:Bs}{b:UInt8}(w:World)(h:cB w B s p (b::t) 0)(j9:jF b=I)(q5:dO (b::t)=I):
  Calls Tryz.prog 48 #[.pointer (H ⟨B,0,G⟩)] w (xZ B s w (λv:To=>iZ v) (dN (b::t))):=by
 have q6:=C (λW (hb:Below w.1.size w W)=>uW W (h.below hb));rw[q5] at q6;have y7:=λW=>dQ Tryz.underlying9 s p b h.at_ W
 have v6:=C (λW (A:cB W B s p (b::t) 0)=>Dh W A j9 q5);have y8:p<=1000000:=cO h.le h.lim;have HH:=C h;have ε:=C (aB (N w.1.size w) (.cells (dX ⟨[],0⟩) 61));have z0:=C (Bx.new w (dX ⟨[],0⟩) 61);have j:=C (show w.1.size≠B from λe=>by have:=h.lt;omega);have n:=(h.below ε.q).x.1 0;have o:=(h.below ε.q).x.1 1;have S:=(h.below ε.q).x.1 2;clear h j9 q5;go_enter func48,ntmps48;go_wp2_with fail
 cases q7:((b.toNat:D)==45)
 .skip
  refine aD 99 [(0,0),(1,0),(2,0),(3,0),(4,0),(5,0),(6,0),(7,2),(8,0),(9,0),(10,0),(11,0),(12,0),(13,0),(14,0),(15,0),(16,0),(17,0),(18,0),(19,0),(20,0),(21,0)] (λ_=>True) (λg=>g.cell? ⟨B,0,G⟩=H (U ⟨s.toArray⟩)/\g.cell? ⟨B,1,G⟩=H (J L (p:D))/\g.cell? ⟨B,2,G⟩=H (J L 0)) au au (trivial) (⟨n,o,S⟩) ?_;refine qC ?_;refine aG rfl rfl (λK P=>?_);go_simp;refine(q6.q _ (ε.q.drew)).mono ?_;rintro e w1 ⟨rfl,θ⟩;have ο:=C (ε.q.drew.trans (θ.mono ε.q.drew.size));have Φ:=C ((z0.q.drew).keep θ);have T:=C (HH.q.below ο.q);refine P _ _ ⟨trivial,T.q.x.1 0,T.q.x.1 1,T.q.x.1 2⟩ ?_;clear P K θ n o S;refine qC ?_;refine aH ?_;have φ:=C (Na (b:=b) t (λe=>by rw[e] at q7;cases q7));go_wp2_with fail;refine(v6.q _ T.q).mono ?_;rintro e i ⟨a,p2,l2,er,rfl,A,hs,Q⟩;have v7:=C (show w.1.size<=i.1.size from cO ο.q.size hs.size);have ι:=C (show i.1.size≠B from λe=>by have:=A.lt;omega);have v8:=C (show w.1.size≠i.1.size from λe=>by have:=hs.size;have:=Φ.q.2.2;omega);have hv:=Bx.new i (dX ⟨a,0⟩) 61;have ha:Below i.1.size i (i.alloc (.cells (dX ⟨a,0⟩) 61)):=aB (N i.1.size i) (.cells (dX ⟨a,0⟩) 61);have q8:=A.below ha;have z2:=((Cs.of_below (B:=B) ο.q).tr hs).tr (Cs.of_below ha);have Ψ:=(hs.bx Φ.q j.q).keep ha;have HV:=C hv;have γ:=C q8;have Ω:=C z2;have q9:=C Ψ;have Y:=hv.1;have α:=hv.2.1;have S:=q8.x.1 2;have u:=Ψ.1;have β:=Ψ.2.1;clear hv q8 z2 Ψ ha hs A;obtain⟨X,hX⟩:∃X,X=bU (b::t):=⟨_,rfl⟩;rw[<-hX] at φ Q;clear hX
  cases X with
  |error x=>
   obtain⟨r,m⟩:=x;obtain⟨rfl,rfl,hm⟩:=Q;have y9:(er !=0)=O:=by rw[bne,aN.2 hm];rfl
   have HM:=C hm;clear hm;go_wp2_with fail;have v9:=C ((γ.q.qG w.1.size 0 (U ⟨a.toArray⟩) j.q).qG w.1.size 1 (J L 0) j.q);refine M (v:=iZ ⟨a,0⟩) aae rfl ?_;refine⟨⟨a,0⟩,p2,_,er,rfl,v9.q,jY (jY Ω.q (aC _) 0 _) (aC _) 1 _,?_⟩;rw[φ.q];exact⟨rfl,rfl,HM.q⟩
  |ok y=>
   obtain⟨x0,r⟩:=y;obtain⟨hn,hl,he⟩:=Q;subst hn hl he;have n:=γ.q.x.1 0;have o:=γ.q.x.1 1;have z1:=γ.q.x.2.1 1;have π:=γ.q.len;have hz:=dW s;have x1:p2<=1000000:=cO γ.q.le γ.q.lim
   cases l2 with
   |nil=>
    as_aux_lemma=>
    have x2:((p2:D)==(s.length:D))=O:=by simp at π;simp;omega
    have ζ:Hid (dN (b::t)= .error ([],220)):=C (by rw[φ.q];rfl);clear π
    go_wp2_with (go_quiet (fail))
    refine(gq _ (γ.q.drewN nq) 0 (aS _) p2 rfl 220).mono ?_;rintro e w4 ⟨rfl,δ,z⟩;have E:Bx w4 i.1.size (dX ⟨a,0⟩):=z.bx (show Bx (World.drewN _ nq) _ _ from HV.q) ι.q;have F:Bx w4 w.1.size (dX ⟨[],0⟩):=z.bx (show Bx (World.drewN _ nq) _ _ from q9.q) j.q;have κ:=C δ;have μ:=C ((Ω.q.tr (Cs.drewN B _ nq)).tr z);clear Y α S u β n o z1;have Y:=E.1;have α:=E.2.1;have u:=F.1;have β:=F.2.1;clear δ z E F;go_wp2_with fail;refine M (v:=iZ ⟨a,0⟩) aae rfl ?_;refine⟨⟨a,0⟩,p2,_,220,rfl,(κ.q.qG _ 0 _ j.q).qG _ 1 _ j.q,jY (jY μ.q (aC _) 0 _) (aC _) 1 _,?_⟩;rw[ζ.q];exact⟨rfl,rfl,by decide⟩
   |cons c r=>
    have x3:((p2:D)==(s.length:D))=I:=aN.2 (by simp at π;omega);have k0:=λW=>dQ Tryz.underlying9 s p2 c γ.q.at_ W
    cases χ:((c.toNat:D)==46)
    .as_aux_lemma=>
     have k1:((c.toNat:D)!=46)=O:=by rw[bne,χ];rfl
     have ζ:Hid (dN (b::t)= .error (c::r,220)):=C (by rw[φ.q];exact ay (by intro e;rw[Ai,Option.some.injEq] at e;rw[e] at χ;cases χ));clear π
     go_wp2_with (go_quiet (fail))
     refine(gq _ (γ.q.drewN nq) 0 (aS _) p2 rfl 220).mono ?_;rintro e w4 ⟨rfl,δ,z⟩;have E:Bx w4 i.1.size (dX ⟨a,0⟩):=z.bx (show Bx (World.drewN _ nq) _ _ from HV.q) ι.q;have F:Bx w4 w.1.size (dX ⟨[],0⟩):=z.bx (show Bx (World.drewN _ nq) _ _ from q9.q) j.q;have κ:=C δ;have μ:=C ((Ω.q.tr (Cs.drewN B _ nq)).tr z);clear Y α S u β n o z1;have Y:=E.1;have α:=E.2.1;have u:=F.1;have β:=F.2.1;clear δ z E F;go_wp2_with fail;refine M (v:=iZ ⟨a,0⟩) aae rfl ?_;refine⟨⟨a,0⟩,p2,_,220,rfl,(κ.q.qG _ 0 _ j.q).qG _ 1 _ j.q,jY (jY μ.q (aC _) 0 _) (aC _) 1 _,?_⟩;rw[ζ.q];exact⟨rfl,rfl,by decide⟩
    .have k1:((c.toNat:D)!=46)=I:=by rw[bne,χ];rfl
     have j0:Hid (dN (b::t)=rY a r):=C (by
      rw[φ.q];exact aA (by rw[Ai];exact cZ H (gD.1 (by have:=eq_of_beq χ;show c.toNat=46;omega))))
     obtain⟨f,hf⟩:∃f,f=p2+1:=⟨_,rfl⟩;have x4:(p2:D)+1=(f:D):=by omega
     have α:f<=1000001:=by omega
     have ψ:=C (λnq=>((γ.q.drewN nq).go 1 ak f hf));have ω:=C (show f+r.length=s.length by simp at π;omega);clear π hf
     go_wp2_with (go_quiet (fail))
     have z3:Bx _ i.1.size (dX ⟨a,0⟩):=(show Bx ((i.alloc (.cells (dX ⟨a,0⟩) 61)).drewN nq) _ _ from HV.q).setOther B 1 (J L (f:D)) ι.q;have z4:Bx _ w.1.size (dX ⟨[],0⟩):=(show Bx ((i.alloc (.cells (dX ⟨a,0⟩) 61)).drewN nq) _ _ from q9.q).setOther B 1 (J L (f:D)) j.q;have z5:=(ψ.q nq).1;have z6:=(Ω.q.tr (Cs.drewN B _ nq)).tr (ψ.q nq).2;have k2:=C z3;have k3:=C z4;have z7:=C z5;have k4:=C z6;clear z3 z4 z5 z6 n o S z1 Y α u β
     go_loopw [] (λwr=>∃(W:World)(k:Nat),W=wr/\cB W B s (f+k) (r.drop k) 0/\Cs B w W/\Bx W i.1.size (dX ⟨a,qF (r.take k)⟩)/\Bx W w.1.size (dX ⟨[],0⟩)/\uJ r k) (λwr=>(match wr.cell? ⟨B,1,G⟩ with|some (J _ q)=>s.length - q.toNat|_=>0))
     case atStart=>exact⟨_,0,rfl,z7.q,k4.q,k2.q,k3.q,uJ.zero r⟩
     case round=>
      as_aux_lemma=>
      obtain⟨W,k,rfl,A,hs,hv,Q,q0⟩:=hrel;have HC:=C A;have HS:=C hs;have ρ:=C hv;have q2:=C Q;have Γ:=C q0;obtain⟨K,P⟩:∃K,K=qF (r.take k):=⟨_,rfl⟩;rw[<-P] at ρ hv;have x5:K<=10000:=by rw[P];exact Qn _ 0 ah q0.all
      obtain⟨q,hq⟩:∃q,q=f+k:=⟨_,rfl⟩;rw[<-hq] at HC A;have HQ:=C hq;have q3:=C P;have n:=A.x.1 0;have o:=A.x.1 1;have S:=A.x.1 2;have z1:=A.x.2.1 1;have Y:=hv.1;have α:=hv.2.1;have u:=Q.1;have β:=Q.2.1;have x6:=q0.le;have x7:q<=1000001:=by have:=A.le;have:=A.lim;omega
      have k5:=C (λx (Q:r[k]?=H x)=>(show s[q]?=H x by have:=cZ (λl=>l[0]?) A.d;simp only[rZ,bK] at this;rw[this];exact Q));clear A hs hv Q q0 P hq
      cases η:r[k]?
      case' none=>
       have k6:decide ((q:D)<(s.length:D))=I:=by have:=ω.q;have:=HQ.q;have:=List.getElem?_eq_none_iff.1 η;simp;omega
       have k7:decide (q<s.length)=I:=by have:=ω.q;have:=HQ.q;have:=List.getElem?_eq_none_iff.1 η;simp;omega
       have ν:=C η;clear η;have σ:=C (Aj a r k Γ.q (λx Q=>by rw[ν.q] at Q;cases Q))
      case' some x=>
       have k0:=λg=>dQ Tryz.underlying9 s q x (k5.q x η) g
       have k6:decide ((q:D)<(s.length:D))=O:=by have:=ω.q;have:=HQ.q;have:=(bq.1 η).1;simp;omega
       have k7:decide (q<s.length)=O:=by have:=ω.q;have:=HQ.q;have:=(bq.1 η).1;simp;omega
       have ν:=C η;clear η;by_cases Δ:48<=x.toNat
       case' neg=>
        have τ:Hid (fE x=I):=C (by rw[Bool.eq_false_iff];intro e;exact Δ ((ko x).1 e).1);have z8:decide ((48:D)<=(x.toNat:D))=I:=by simp;omega
        have z9:decide (48<=x.toNat)=I:=by simp;omega
        clear Δ;have σ:=C (Aj a r k Γ.q (λy hy=>by rw[ν.q] at hy;cases hy;exact .inl τ.q))
       case' pos=>
        by_cases q4:x.toNat<=57
        case' neg=>
         have τ:Hid (fE x=I):=C (by rw[Bool.eq_false_iff];intro e;exact q4 ((ko x).1 e).2);have z8:decide ((48:D)<=(x.toNat:D))=O:=by simp;omega
         have z9:decide (48<=x.toNat)=O:=by simp;omega
         have k8:decide ((x.toNat:D)<=57)=I:=by simp;omega
         have k9:decide (x.toNat<=57)=I:=by simp;omega
         clear Δ q4;have σ:=C (Aj a r k Γ.q (λy hy=>by rw[ν.q] at hy;cases hy;exact .inl τ.q))
        case' pos=>
         have τ:Hid (fE x=O):=C ((ko x).2 ⟨Δ,q4⟩);have z8:decide ((48:D)<=(x.toNat:D))=O:=by simp;omega
         have z9:decide (48<=x.toNat)=O:=by simp;omega
         have k8:decide ((x.toNat:D)<=57)=O:=by simp;omega
         have k9:decide (x.toNat<=57)=O:=by simp;omega
         clear Δ q4;rcases Nat.eq_zero_or_pos k with ξ|Θ
         case' inl=>
          have dg:decide ((f:D)<(q:D))=I:=by have:=HQ.q;simp;omega
          have y0:decide (f<q)=I:=by have:=HQ.q;simp;omega
          by_cases υ:x=48
          case' pos=>
           have y1:((x.toNat:D)!=48)=I:=by rw[υ];rfl
           have σ:=C (Aj a r k Γ.q (λy hy=>by rw[ν.q] at hy;cases hy;exact .inr ⟨ξ,υ⟩));have y2:=C ξ;clear ξ υ
          case' neg=>
           have y1:((x.toNat:D)!=48)=O:=by rw[bne,aN.2 (λe=>υ (gD.1 (by show x.toNat=48;omega)))];rfl
           have H0:Hid (k=0->x≠48):=C (λ_=>υ);clear ξ υ
         case' inr=>
          have dg:decide ((f:D)<(q:D))=O:=by have:=HQ.q;simp;omega
          have y0:decide (f<q)=O:=by have:=HQ.q;simp;omega
          have H0:Hid (k=0->x≠48):=C (λh=>by omega);clear Θ
      iterate 2
       .as_aux_lemma=>
        have j1:=C (Γ.q.step ν.q τ.q H0.q);obtain⟨q1,v0⟩:∃q1,q1=q+1:=⟨_,rfl⟩;have x8:(q:D)+1=(q1:D):=by omega
        have j2:=C v0;clear v0;by_cases h9:K<=999
        case' pos=>
         obtain⟨d,hd⟩:∃d:Nat,d=x.toNat - 48:=⟨_,rfl⟩;have y3:=(ko x).1 τ.q;have x9:(x.toNat:D) - 48=(d:D):=by omega
         have b0:IntKind.u8.wrap (d:D)=(d:D):=Go.IntWalk.u8_in _ ah;have b1:IntKind.i64.wrap (d:D)=(d:D):=V _ ah;obtain⟨m,hm⟩:∃m:Nat,m=10*K:=⟨_,rfl⟩;have b2:(10:D)*(K:D)=(m:D):=by omega
         have b3:IntKind.i64.wrap (m:D)=(m:D):=V _ ah;obtain⟨K2,y4⟩:∃K2:Nat,K2=m+d:=⟨_,rfl⟩;have b4:(m:D)+(d:D)=(K2:D):=by omega
         have b5:IntKind.i64.wrap (K2:D)=(K2:D):=V _ ah;have v1:=C (show qF (r.take (k+1))=K2 by rw[j1.q.2,<-q3.q];unfold wX;rw[aA h9];omega);clear hd y3 hm y4;have d9:decide ((K:D)<=999)=O:=by simp;omega
         have j3:decide (K<=999)=O:=by simp;omega
         clear h9;have y5:=ρ.q.1 1;go_wp2_with fail;refine aD 99 [(0,0),(1,0),(2,0),(3,0),(4,0),(5,0),(6,0),(7,0),(8,0),(9,0),(10,0),(11,0),(12,0),(13,0),(14,0),(15,0),(16,0),(17,0),(18,0),(19,0),(20,0),(21,0),(22,0),(23,0),(24,0),(25,0),(26,0),(27,0),(28,0),(29,0),(30,0),(31,0),(32,0),(33,0),(34,0),(35,0),(36,0),(37,0),(38,0),(39,0),(40,0),(41,0),(42,0),(43,0),(44,0),(45,0),(46,0),(47,0),(48,0),(49,0),(50,0),(51,0),(52,0),(53,0)] (λ_=>True) (λg=>g.cell? ⟨B,0,G⟩=H (U ⟨s.toArray⟩)/\g.cell? ⟨B,1,G⟩=H (J L (q:D))) au au (trivial) (⟨n,o⟩) ?_;refine qC ?_;refine aH ?_;go_wp2_with fail;refine aD 16 [(0,1),(1,0),(2,1),(3,1),(4,1),(5,1),(6,0),(7,1),(8,1),(9,1),(10,0),(11,1),(12,1),(13,1),(14,1),(15,1),(16,2)] (λ_=>True) (λg=>(g.cell? ⟨B,0,G⟩=H (U ⟨s.toArray⟩)/\g.cell? ⟨B,1,G⟩=H (J L (q:D)))/\g.cell? ⟨i.1.size,1,G⟩=H (J L (K:D))) au au (trivial) (⟨⟨n,o⟩,y5⟩) ?_;refine qC ?_;refine bA rfl rfl rfl (λK P=>?_);go_simp;refine P _ _ trivial ?_;clear P;refine aH ?_;obtain⟨Z,R⟩:∃Z:World,Z=(W.setCell ⟨i.1.size,1,G⟩ (J L (K2:D))).drew.drew:=⟨_,rfl⟩;have j4:Hid (Bx Z i.1.size (dX ⟨a,K2⟩)):=C (by rw[R];exact ρ.q.aX 1 ak (J L (K2:D)));have v2:Hid (Bx Z w.1.size (dX ⟨[],0⟩)):=C (by rw[R];exact q2.q.setOther i.1.size 1 (J L (K2:D)) v8.q);have Ξ:Hid (cB Z B s q (r.drop k) 0):=C (by rw[R];exact((HC.q.qG i.1.size 1 (J L (K2:D)) ι.q).drew).drew);have v3:Hid (Cs B w Z):=C (by rw[R];exact((jY HS.q v7.q 1 (J L (K2:D))).tr (Cs.of_below (N _ _).drew)).tr (Cs.of_below (N _ _).drew));rw[<-R];clear R
        case' neg=>
         have d9:decide ((K:D)<=999)=I:=by simp;omega
         have j3:decide (K<=999)=I:=by simp;omega
         have v1:=C (show qF (r.take (k+1))=K by rw[j1.q.2,<-q3.q];unfold wX;rw[ay h9]);clear h9;go_wp2_with fail;refine aD 99 [(0,0),(1,0),(2,0),(3,0),(4,0),(5,0),(6,0),(7,0),(8,0),(9,0),(10,0),(11,0),(12,0),(13,0),(14,0),(15,0),(16,0),(17,0),(18,0),(19,0),(20,0),(21,0),(22,0),(23,0),(24,0),(25,0),(26,0),(27,0),(28,0),(29,0),(30,0),(31,0),(32,0),(33,0),(34,0),(35,0),(36,0),(37,0),(38,0),(39,0),(40,0),(41,0),(42,0),(43,0),(44,0),(45,0),(46,0),(47,0),(48,0),(49,0),(50,0),(51,0),(52,0),(53,0)] (λ_=>True) (λg=>g.cell? ⟨B,0,G⟩=H (U ⟨s.toArray⟩)/\g.cell? ⟨B,1,G⟩=H (J L (q:D))) au au (trivial) (⟨n,o⟩) ?_;refine qC ?_;refine aH ?_;obtain⟨Z,R⟩:∃Z:World,Z=W.drew:=⟨_,rfl⟩;have j4:Hid (Bx Z i.1.size (dX ⟨a,K⟩)):=C (by rw[R];exact ρ.q);have v2:Hid (Bx Z w.1.size (dX ⟨[],0⟩)):=C (by rw[R];exact q2.q);have Ξ:Hid (cB Z B s q (r.drop k) 0):=C (by rw[R];exact HC.q.drew);have v3:Hid (Cs B w Z):=C (by rw[R];exact HS.q.tr (Cs.of_below (N _ _).drew));rw[<-R];clear R
        all_goals
         clear n o S z1 Y α u β;have n:=Ξ.q.x.1 0;have o:=Ξ.q.x.1 1;have z1:=Ξ.q.x.2.1 1;have Y:=j4.q.1;have v4:=C (show 1<=(r.drop k).length by rw[dY];have:=(bq.1 ν.q).1;omega);have j5:=C (Ξ.q.go 1 v4.q q1 j2.q);go_wp2_with fail;go_roundw
         case rel=>exact⟨_,k+1,rfl,(by have h:=j5.q.1;rw[mD] at h;rw[show f+(k+1)=q1 by have:=HQ.q;have:=j2.q;omega];exact h),v3.q.tr j5.q.2,(by rw[v1.q];exact j4.q.setOther B 1 _ ι.q),v2.q.setOther B 1 _ j.q,j1.q.1⟩
         case measure=>
          have e1:(Z.setCell ⟨B,1,G⟩ (J L (q1:D))).cell? ⟨B,1,G⟩=H (J L (q1:D)):=j5.q.1.x.1 1;have e0:W.cell? ⟨B,1,G⟩=H (J L (q:D)):=HC.q.x.1 1;have:=HC.q.len;have:=v4.q;have:=j2.q;simp only[e1,e0,gF];omega
      all_goals
       rcases Nat.eq_zero_or_pos k with ξ|Θ
       .as_aux_lemma=>
        have j6:=C ξ
        clear ξ;have y6:((q:D)==(f:D))=O:=by have:=HQ.q;have:=j6.q;simp;omega
        have ζ:Hid (dN (b::t)= .error (r,220)):=C (by rw[j0.q,σ.q,aA j6.q]);go_wp2_with fail;refine aD 99 [(0,0),(1,0),(2,0),(3,0),(4,0),(5,0),(6,0),(7,0),(8,0),(9,0),(10,0),(11,0),(12,0),(13,0),(14,0),(15,0),(16,0),(17,0),(18,0),(19,0),(20,0),(21,0),(22,0),(23,0),(24,0),(25,0),(26,0),(27,0),(28,0),(29,0),(30,0),(31,0),(32,0),(33,0),(34,0),(35,0),(36,0),(37,0),(38,0),(39,0),(40,0),(41,0),(42,0),(43,0),(44,0),(45,0),(46,0),(47,0),(48,0),(49,0),(50,0),(51,0),(52,0),(53,0)] (λ_=>True) (λg=>g.cell? ⟨B,0,G⟩=H (U ⟨s.toArray⟩)/\g.cell? ⟨B,1,G⟩=H (J L (q:D))) au au (trivial) (⟨n,o⟩) ?_;refine qC ?_;refine aH ?_;go_wp2_with fail;refine(gq _ (HC.q.drew) 0 (aS _) q rfl 220).mono ?_;rintro e w4 ⟨rfl,δ,z⟩;have E:Bx w4 i.1.size (dX ⟨a,K⟩):=z.bx (show Bx (W.drew) _ _ from ρ.q) ι.q;have F:Bx w4 w.1.size (dX ⟨[],0⟩):=z.bx (show Bx (W.drew) _ _ from q2.q) j.q;have κ:=C δ;have μ:=C ((HS.q.tr (Cs.of_below (N _ _).drew)).tr z);clear Y α S u β n o z1;have Y:=E.1;have α:=E.2.1;have u:=F.1;have β:=F.2.1;clear δ z E F;go_wp2_with fail;refine M (v:=iZ ⟨a,K⟩) aae rfl ?_;refine⟨⟨a,K⟩,q,_,220,rfl,(κ.q.qG _ 0 _ j.q).qG _ 1 _ j.q,jY (jY μ.q (aC _) 0 _) (aC _) 1 _,?_⟩;rw[ζ.q];exact⟨by rw[j6.q];rfl,rfl,by decide⟩
       all_goals try exact absurd y2.q (Nat.ne_of_gt Θ)
       all_goals
        have j7:=C Θ;clear Θ;have y6:((q:D)==(f:D))=I:=aN.2 (by have:=HQ.q;have:=j7.q;omega);by_cases h9:999<K
        .as_aux_lemma=>
         have d9:decide ((999:D)<(K:D))=O:=by simp;omega
         have j3:decide (999<K)=O:=by simp;omega
         have ζ:Hid (dN (b::t)= .error (r,3)):=C (by rw[j0.q,σ.q,ay (by have:=j7.q;omega),<-q3.q,aA h9]);clear h9;go_wp2_with fail;refine aD 99 [(0,0),(1,0),(2,0),(3,0),(4,0),(5,0),(6,0),(7,0),(8,0),(9,0),(10,0),(11,0),(12,0),(13,0),(14,0),(15,0),(16,0),(17,0),(18,0),(19,0),(20,0),(21,0),(22,0),(23,0),(24,0),(25,0),(26,0),(27,0),(28,0),(29,0),(30,0),(31,0),(32,0),(33,0),(34,0),(35,0),(36,0),(37,0),(38,0),(39,0),(40,0),(41,0),(42,0),(43,0),(44,0),(45,0),(46,0),(47,0),(48,0),(49,0),(50,0),(51,0),(52,0),(53,0)] (λ_=>True) (λg=>g.cell? ⟨B,0,G⟩=H (U ⟨s.toArray⟩)/\g.cell? ⟨B,1,G⟩=H (J L (q:D))) au au (trivial) (⟨n,o⟩) ?_;refine qC ?_;refine aH ?_;go_wp2_with fail;refine(GA _ (HC.q.drew) f (by have:=ω.q;omega) 3).mono ?_;rintro e w4 ⟨rfl,δ,z⟩;have E:Bx w4 i.1.size (dX ⟨a,K⟩):=z.bx (show Bx (W.drew) _ _ from ρ.q) ι.q;have F:Bx w4 w.1.size (dX ⟨[],0⟩):=z.bx (show Bx (W.drew) _ _ from q2.q) j.q;have κ:=C δ;have μ:=C ((HS.q.tr (Cs.of_below (N _ _).drew)).tr z);clear Y α S u β n o z1;have Y:=E.1;have α:=E.2.1;have u:=F.1;have β:=F.2.1;clear δ z E F;go_wp2_with fail;refine M (v:=iZ ⟨a,K⟩) aae rfl ?_;refine⟨⟨a,K⟩,f,_,3,rfl,(κ.q.qG _ 0 _ j.q).qG _ 1 _ j.q,jY (jY μ.q (aC _) 0 _) (aC _) 1 _,?_⟩;rw[ζ.q];exact⟨z7.q.d,rfl,by decide⟩
        .as_aux_lemma=>
         have d9:decide ((999:D)<(K:D))=I:=by simp;omega
         have j3:decide (999<K)=I:=by simp;omega
         have ζ:Hid (dN (b::t)= .ok (⟨a,K⟩,r.drop k)):=C (by rw[j0.q,σ.q,ay (by have:=j7.q;omega),<-q3.q,ay h9]);clear h9;go_wp2_with fail;refine aD 99 [(0,0),(1,0),(2,0),(3,0),(4,0),(5,0),(6,0),(7,0),(8,0),(9,0),(10,0),(11,0),(12,0),(13,0),(14,0),(15,0),(16,0),(17,0),(18,0),(19,0),(20,0),(21,0),(22,0),(23,0),(24,0),(25,0),(26,0),(27,0),(28,0),(29,0),(30,0),(31,0),(32,0),(33,0),(34,0),(35,0),(36,0),(37,0),(38,0),(39,0),(40,0),(41,0),(42,0),(43,0),(44,0),(45,0),(46,0),(47,0),(48,0),(49,0),(50,0),(51,0),(52,0),(53,0)] (λ_=>True) (λg=>g.cell? ⟨B,0,G⟩=H (U ⟨s.toArray⟩)/\g.cell? ⟨B,1,G⟩=H (J L (q:D))) au au (trivial) (⟨n,o⟩) ?_;refine qC ?_;refine aH ?_;go_wp2_with fail;refine M (v:=iZ ⟨a,K⟩) aae rfl ?_;refine⟨⟨a,K⟩,q,_,0,rfl,((HC.q.drew).qG _ 0 _ j.q).qG _ 1 _ j.q,jY (jY (HS.q.tr (Cs.of_below (N _ _).drew)) (aC _) 0 _) (aC _) 1 _,?_⟩;rw[ζ.q];exact⟨rfl,rfl,rfl⟩
 .as_aux_lemma=>
  refine aD 99 [(0,0),(1,0),(2,0),(3,0),(4,0),(5,0),(6,0),(7,2),(8,0),(9,0),(10,0),(11,0),(12,0),(13,0),(14,0),(15,0),(16,0),(17,0),(18,0),(19,0),(20,0),(21,0)] (λ_=>True) (λg=>g.cell? ⟨B,0,G⟩=H (U ⟨s.toArray⟩)/\g.cell? ⟨B,1,G⟩=H (J L (p:D))/\g.cell? ⟨B,2,G⟩=H (J L 0)) au au (trivial) (⟨n,o,S⟩) ?_;refine qC ?_;refine aG rfl rfl (λK P=>?_);go_simp;refine(q6.q _ (ε.q.drew)).mono ?_;rintro e w1 ⟨rfl,θ⟩;have ο:=C (ε.q.drew.trans (θ.mono ε.q.drew.size));have Φ:=C ((z0.q.drew).keep θ);have T:=C (HH.q.below ο.q);refine P _ _ ⟨trivial,T.q.x.1 0,T.q.x.1 1,T.q.x.1 2⟩ ?_;clear P K θ n o S;refine qC ?_;refine aH ?_;have HV:Hid (dN (b::t)= .ok (⟨[],0⟩,t)):=C (by rw[show b=45 from gD.1 (by have:=eq_of_beq q7;show b.toNat=45;omega)];exact Ja t);have n:=T.q.x.1 0;have o:=T.q.x.1 1;have z1:=T.q.x.2.1 1;have v5:=T.q.go 1 ak (p+1) rfl;have ψ:=C v5;have j8:=Φ.q.setOther B 1 (J L ((p:D)+1)) j.q;have u:=j8.1;have β:=j8.2.1;clear j8 v5;go_wp2_with fail;refine M (v:=iZ ⟨[],0⟩) aae rfl ?_;refine⟨⟨[],0⟩,p+1,t,0,rfl,(ψ.q.1.qG _ 0 _ j.q).qG _ 1 _ j.q,jY (jY ((Cs.of_below ο.q).tr ψ.q.2) (aC _) 0 _) (aC _) 1 _,?_⟩;rw[HV.q];exact⟨rfl,rfl,rfl⟩
end Yd
