import Derived.Test.YtiheclemhihpeaaGreatDoorZTell3
set_option linter.all false
set_option maxRecDepth 200000
set_option maxHeartbeats 8000000
namespace Yd
open Go Go.RowKit Go.Proofs Tryz
open Go.IntKind renaming i64->I
open RowKit renaming intOf->G
open Tryz renaming underlying9->H,prog->N
open Value renaming int->L
open Yd renaming hid->C
open _root_ renaming Int->D,Nat->J,List->M
theorem abt{p:Prop}(h:p:=by have:=jG (.inr (.inr ⟨z,A,ρ.q,σ.q,HE.q⟩));have:=β.q;omega):p:=h
theorem zW {x t:Bs}{k:J}{a:UInt8}(b:x[k]?=some a)(c:t[k]?=some a):gI (x.drop k) (t.drop k)=gI (x.drop (k+1)) (t.drop (k+1))+1:=by
 obtain⟨d,e⟩:=bq.1 b;obtain⟨f,g⟩:=bq.1 c;rw[jV d,jV f,e,g];simp[gI]
theorem jG {x t:Bs}{k:J}(h:x.length<=k\/t.length<=k\/∃a b,x[k]?=some a/\t[k]?=some b/\a≠b):gI (x.drop k) (t.drop k)=0:=by
 rcases h with h|h|⟨a,b,c,d,e⟩
 .rw[sG h];simp[gI]
 .rw[sG h];cases x.drop k <;> simp[gI]
 .obtain⟨f,g⟩:=bq.1 c
  obtain⟨i,j⟩:=bq.1 d;rw[jV f,jV i,g,j];simp[gI,e]
theorem R7 (x t:Bs):gI x t<=t.length:=by
 induction x generalizing t with
 |nil=>simp[gI]
 |cons a x c=>
  cases t with
  |nil=>simp[gI]
  |cons b t=>
   simp only[gI]
   split
   .have:=c t;simp;omega
   .simp
theorem BH (a:M Bs)(s t:Bs):rA (a++[s]) t=max (rA a t) (gI s t):=by simp[rA]
theorem Gc (a:M Bs)(t:Bs):rA a t<=t.length:=by
 have:∀(a:M Bs)(m:J),m<=t.length->a.foldl (λm s=>max m (gI s t)) m<=t.length:=by
  intro a
  induction a with
  |nil=>intro m b;exact b
  |cons s a c=>intro m b;exact c (max m (gI s t)) (Nat.max_le.2 ⟨b,R7 s t⟩)
 exact this a 0 (aS _)
theorem DC {R p:J}{s l:Bs}{c:aW}{n:aK}(w:World)(h:dL w R s p l c n)(a:Option Addr)(E cc:J)(g:M Bs)(hr:Row w 1 encStr a E cc g)(j5:E<=100)(hw:∀x∈g,x.length<=100)(Φ:∀x∈g,(128:UInt8)∉x):
  Calls N 96 #[.pointer (some ⟨R,0,none⟩),.slice a E cc] w (lq R s c n w (λi:J=> .int I i) (gW g l)):=by
 have HS:=C (JN w h);obtain⟨X,hX⟩:∃X,X=gW g l:=⟨_,rfl⟩;rw[<-hX];obtain⟨T,hT⟩:∃T,T=fO l:=⟨_,rfl⟩;rw[<-hT] at HS;obtain⟨d,Q⟩:∃d,d=qO l:=⟨_,rfl⟩;have q1:T.length<=l.length:=by rw[hT];have:=kJ oI l;unfold fO;omega
 have q2:(l.drop T.length=[]/\d=T)\/(∃b t,l.drop T.length=b::t/\b.toNat<128/\d=T)\/(∃b t,l.drop T.length=b::t/\128<=b.toNat/\d=T++[128]):=by
  unfold qO at Q;rw[<-hT] at Q
  cases F:l.drop T.length with
  |nil=>rw[F] at Q;exact .inl ⟨rfl,Q⟩
  |cons b t=>
   rw[F] at Q;simp only[Ai] at Q;by_cases u:(128:UInt8)<=b
   .rw[aA u] at Q;exact .inr (.inr ⟨b,t,rfl,u,Q⟩)
   .rw[ay u] at Q;exact .inr (.inl ⟨b,t,rfl,Nat.lt_of_not_le u,Q⟩)
 have j6:=h.len;have j7:=h.lim;have HX:=C hX;have HT:=C hT;have ω:=C Q;have HH:=C h;have HR:=C hr;have HW:=C hw;have q3:=C Φ;have hz:=dW s;have j8:=dW T;clear hX hT Q h hr hw Φ;rcases q2 with⟨F,ε⟩|⟨b,t,F,hb,ε⟩|⟨b,t,F,hb,ε⟩
 case' inr.inr=>
  have Ψ:p+T.length<s.length:=by
   have:=cZ List.length F;simp at this;omega
  have φ:decide ((p:D)+(T.length:D)<(s.length:D))=true:=bG ah;have ν:s[p+T.length]?=some b:=by
   have:=cZ (λl=>l[0]?) F;rw[<-HH.q.d] at this
   simpa using this
  have Γ:=λW=>dQ H s (p+T.length) b ν W
  rw[lV] at Γ;have q4:decide ((128:D)<=(b.toNat:D))=true:=bG ah;have j9:((⟨T.toArray⟩:ByteArray)++⟨#[128]⟩)=⟨d.toArray⟩:=by rw[ε];exact XF T [128]
  have q5:=C ε;clear F ν ε;go_enter func96,ntmps96;go_wp2_with fail;refine HS.q.mono ?_;rintro e w1 ⟨rfl,ζ⟩;have H1:=C (HH.q.below ζ);have Δ:=C ζ;have c0:=H1.q.c0;have c1:=H1.q.c1;clear ζ
  go_wp2_with (go_quiet (fail))
  clear φ c0 c1
  go_loopw [8,47] (λf i wr=>∃k m:J,k<=E/\i= .int I k/\f= .int I m/\m=rA (g.take k) T/\(∀x∈g.take k,x≠d)/\Below w.1.size w wr) (λ_ i _=>E - (G i).toNat)
  case atStart=>exact⟨0,0,aS _,rfl,rfl,rfl,by simp,dm Δ.q _⟩
  case round=>
   obtain⟨k,m,hk,rfl,rfl,K,S,v⟩:=hrel;have q6:m<=T.length:=by rw[K];exact Gc _ _
   have q7:m<=1000000:=by omega
   by_cases Θ:k<E
   .obtain⟨x,b',o,hx,rfl,hc⟩:=(HR.q.below v rfl).at_ Θ
    have Ξ:=hc 0 _ rfl;simp only[gP,bK] at Ξ;have η:x∈g:=bS hx;have q8:=HW.q x η;have γ:=C v;have HM:=C K;have χ:=C S;have μ:=C hx;have Ω:=C η;have Z:=C (HH.q.below v);have c1:=Z.q.c1;have z1:=f1 Z.q 1;clear hc v K S hx η
    cases δ:x==d
    .clear c1 z1
     have θ:Hid (∀(W':World)(q:J),Below w.1.size w W'->gI x T=q->∃k' m':J,k'<=E/\L I ((k:D)+1)= .int I k'/\L I (max (m:D) (q:D))= .int I m'/\m'=rA (g.take k') T/\(∀y∈g.take k',y≠d)/\Below w.1.size w W'):=C (λW' q hb hq=>
      ⟨k+1,max m q,by omega,by rw[lV];rfl,cZ (L I) ah,by rw[eD,μ.q,Option.toList_some,BH,hq,<-HM.q],λy r=>by
       rw[eD,μ.q] at r;rcases cu.1 r with r|r
       .exact χ.q y r
       .obtain rfl:y=x:=by simpa using r
        exact λe=>by rw[e] at δ;simp at δ,hb⟩)
     go_wp2_with fail
     go_loopw [11] (λj wx=>∃W,W=wx/\∃q:J,j= .int I q/\q<=T.length/\q<=x.length/\gI (x.drop q) (T.drop q)+q=gI x T/\Below w.1.size w W) (λj _=>T.length - (G j).toNat)
     case atStart=>exact⟨_,rfl,0,rfl,aS _,aS _,by simp,γ.q⟩
     case round=>
      obtain⟨W,rfl,q,rfl,q9,j0,ξ,ο⟩:=hrel;have α:=C ο;have β:=C ξ;clear ο ξ;by_cases u:q<x.length
      .by_cases Y:q<T.length
       .have π:decide ((q:D)<min (x.length:D) (T.length:D))=true:=bG ah
        obtain⟨z,ι⟩:∃z,x[q]?=some z:=⟨_,dM u⟩;obtain⟨A,κ⟩:∃A,T[q]?=some A:=⟨_,dM Y⟩;have j1:=λW=>dQ H x q z ι W
        have j2:=λW=>dQ H T q A κ W
        have ρ:=C ι;have σ:=C κ;have B:=C (⟨u,Y⟩:_/\_);clear ι κ u Y;by_cases P:z=A
        .have hb:((z.toNat:D)==(A.toNat:D))=true:=by simp[P]
         have HE:=C P;clear P
         go_wp2_with (go_quiet (fail))
         go_roundw
         case rel=>exact⟨_,rfl,q+1,by go_num,B.q.2,B.q.1,by have:=zW ρ.q (HE.q▸σ.q);have:=β.q;omega,dm α.q _⟩
         case measure=>have:=B.q.2;simp[G];omega
        .have hb:((z.toNat:D)==(A.toNat:D))=false:=aN.2 (λe=>P (gD.1 ah))
         have HE:=C P;clear P
         go_wp2_with (go_quiet (fail))
         go_roundw
         case rel=>exact θ.q _ q (dm α.q _) abt
         case measure=>simp[G];omega
       .have π:decide ((q:D)<min (x.length:D) (T.length:D))=false:=bn ah
        have B:=C Y;clear Y
        go_wp2_with (go_quiet (fail))
        go_roundw
        case rel=>exact θ.q _ q (dm α.q _) (by have:=jG (x:=x) (t:=T) (k:=q) (.inr (.inl (by have:=B.q;omega)));have:=β.q;omega)
        case measure=>simp[G];omega
      .have π:decide ((q:D)<min (x.length:D) (T.length:D))=false:=bn ah
       have B:=C u;clear u
       go_wp2_with (go_quiet (fail))
       go_roundw
       case rel=>exact θ.q _ q (dm α.q _) (by have:=jG (x:=x) (t:=T) (k:=q) (.inl (by have:=B.q;omega));have:=β.q;omega)
       case measure=>simp[G];omega
    .exfalso
     have ψ:x=d:=by simpa using δ
     have q0:=q3.q x Ω.q;rw[ψ,q5.q] at q0;exact q0 ak
   .obtain rfl:k=E:=by omega
    have hF:∀W,Calls N 43 #[.int I ((p:D)+(m:D)),.int I 220] W (λe w'=>e= .panicked (lS (p+m) 220)/\w'=W):=λW=>by
     have:=jS (p+m) 220 W
     rwa[lV] at this
    have HF:=λW=>C (hF W)
    have τ:g.take k=g:=eF (by rw[HR.q.len];exact aC _);rw[τ] at K S;have υ:Hid (gW g l= .error (l.drop m,220)):=C (by
     unfold gW;rw[<-HT.q,<-ω.q,wE.2 (λy r=>by simpa using S y r),<-K])
    have γ:=C v;have Z:=C (HH.q.below v);have c1:=Z.q.c1;clear K S v hF τ;go_wp2_with fail;refine(HF _).q.mono ?_;rintro e w4 ⟨rfl,rfl⟩;refine⟨rfl,?_⟩;show lq R s c n w _ _ _ _;rw[HX.q,υ.q];refine⟨?_,Same.of_below γ.q (λ_ _ h=>h)⟩;rw[show s.length - (l.drop m).length=p+m by rw[dY];omega]
 case' inl=>
  have Ψ:p+T.length=s.length:=by
   have:=cZ List.length F;simp at this;omega
  subst ε;have φ:decide ((p:D)+(d.length:D)<(s.length:D))=false:=bn ah;clear F
 case' inr.inl=>
  have Ψ:p+T.length<s.length:=by
   have:=cZ List.length F;simp at this;omega
  subst ε;have φ:decide ((p:D)+(d.length:D)<(s.length:D))=true:=bG ah;have ν:s[p+d.length]?=some b:=by
   have:=cZ (λl=>l[0]?) F;rw[<-HH.q.d] at this
   simpa using this
  have Γ:=λW=>dQ H s (p+d.length) b ν W
  rw[lV] at Γ;have q4:decide ((128:D)<=(b.toNat:D))=false:=bn ah;clear F ν
 all_goals
  go_enter func96,ntmps96;go_wp2_with fail;refine HS.q.mono ?_;rintro e w1 ⟨rfl,ζ⟩;have H1:=C (HH.q.below ζ);have Δ:=C ζ;have c0:=H1.q.c0;have c1:=H1.q.c1;clear ζ
  go_wp2_with (go_quiet (fail))
  clear φ c0 c1
  go_loopw [8,47] (λf i wr=>∃k m:J,k<=E/\i= .int I k/\f= .int I m/\m=rA (g.take k) d/\(∀x∈g.take k,x≠d)/\Below w.1.size w wr) (λ_ i _=>E - (G i).toNat)
  case atStart=>exact⟨0,0,aS _,rfl,rfl,rfl,by simp,dm Δ.q _⟩
  case round=>
   obtain⟨k,m,hk,rfl,rfl,K,S,v⟩:=hrel;have q6:m<=d.length:=by rw[K];exact Gc _ _
   have q7:m<=1000000:=by omega
   by_cases Θ:k<E
   .obtain⟨x,b',o,hx,rfl,hc⟩:=(HR.q.below v rfl).at_ Θ
    have Ξ:=hc 0 _ rfl;simp only[gP,bK] at Ξ;have η:x∈g:=bS hx;have q8:=HW.q x η;have γ:=C v;have HM:=C K;have χ:=C S;have μ:=C hx;have Ω:=C η;have Z:=C (HH.q.below v);have c1:=Z.q.c1;have z1:=f1 Z.q 1;clear hc v K S hx η
    cases δ:x==d
    .clear c1 z1
     have θ:Hid (∀(W':World)(q:J),Below w.1.size w W'->gI x d=q->∃k' m':J,k'<=E/\L I ((k:D)+1)= .int I k'/\L I (max (m:D) (q:D))= .int I m'/\m'=rA (g.take k') d/\(∀y∈g.take k',y≠d)/\Below w.1.size w W'):=C (λW' q hb hq=>
      ⟨k+1,max m q,by omega,by rw[lV];rfl,cZ (L I) ah,by rw[eD,μ.q,Option.toList_some,BH,hq,<-HM.q],λy r=>by
       rw[eD,μ.q] at r;rcases cu.1 r with r|r
       .exact χ.q y r
       .obtain rfl:y=x:=by simpa using r
        exact λe=>by rw[e] at δ;simp at δ,hb⟩)
     go_wp2_with fail
     go_loopw [11] (λj wx=>∃W,W=wx/\∃q:J,j= .int I q/\q<=d.length/\q<=x.length/\gI (x.drop q) (d.drop q)+q=gI x d/\Below w.1.size w W) (λj _=>d.length - (G j).toNat)
     case atStart=>exact⟨_,rfl,0,rfl,aS _,aS _,by simp,γ.q⟩
     case round=>
      obtain⟨W,rfl,q,rfl,q9,j0,ξ,ο⟩:=hrel;have α:=C ο;have β:=C ξ;clear ο ξ;by_cases u:q<x.length
      .by_cases Y:q<d.length
       .have π:decide ((q:D)<min (x.length:D) (d.length:D))=true:=bG ah
        obtain⟨z,ι⟩:∃z,x[q]?=some z:=⟨_,dM u⟩;obtain⟨A,κ⟩:∃A,d[q]?=some A:=⟨_,dM Y⟩;have j1:=λW=>dQ H x q z ι W
        have j2:=λW=>dQ H d q A κ W
        have ρ:=C ι;have σ:=C κ;have B:=C (⟨u,Y⟩:_/\_);clear ι κ u Y;by_cases P:z=A
        .have hb:((z.toNat:D)==(A.toNat:D))=true:=by simp[P]
         have HE:=C P;clear P
         go_wp2_with (go_quiet (fail))
         go_roundw
         case rel=>exact⟨_,rfl,q+1,by go_num,B.q.2,B.q.1,by have:=zW ρ.q (HE.q▸σ.q);have:=β.q;omega,dm α.q _⟩
         case measure=>have:=B.q.2;simp[G];omega
        .have hb:((z.toNat:D)==(A.toNat:D))=false:=aN.2 (λe=>P (gD.1 ah))
         have HE:=C P;clear P
         go_wp2_with (go_quiet (fail))
         go_roundw
         case rel=>exact θ.q _ q (dm α.q _) abt
         case measure=>simp[G];omega
       .have π:decide ((q:D)<min (x.length:D) (d.length:D))=false:=bn ah
        have B:=C Y;clear Y
        go_wp2_with (go_quiet (fail))
        go_roundw
        case rel=>exact θ.q _ q (dm α.q _) (by have:=jG (x:=x) (t:=d) (k:=q) (.inr (.inl (by have:=B.q;omega)));have:=β.q;omega)
        case measure=>simp[G];omega
      .have π:decide ((q:D)<min (x.length:D) (d.length:D))=false:=bn ah
       have B:=C u;clear u
       go_wp2_with (go_quiet (fail))
       go_roundw
       case rel=>exact θ.q _ q (dm α.q _) (by have:=jG (x:=x) (t:=d) (k:=q) (.inl (by have:=B.q;omega));have:=β.q;omega)
       case measure=>simp[G];omega
    .obtain⟨q,hq⟩:∃q:J,q=p+d.length:=⟨_,rfl⟩
     have ψ:x=d:=by simpa using δ
     have z0:(p:D)+(x.length:D)=(q:D):=by rw[ψ];omega
     have z2:q<=1000000:=by omega
     have ht:=Z.q.to d.length rfl q1 q hq;have j3:=C ht.1;have j4:=C ((Mv.of_below (R:=R) (c:=c) γ.q).trans ht.2);have υ:Hid (gW g l= .ok (k,l.drop d.length)):=C (by
      unfold gW;rw[<-HT.q,<-ω.q,findIdx?_take (λs=>s==d) g k (wE.2 (λy r=>by simpa using χ.q y r)) x μ.q δ])
     clear ht hq ψ;go_wp2_with fail;go_ret;show lq R s c n w _ _ _ _;rw[HX.q,υ.q];exact⟨rfl,q,j3.q,j4.q⟩
   .obtain rfl:k=E:=by omega
    have hF:∀W,Calls N 43 #[.int I ((p:D)+(m:D)),.int I 220] W (λe w'=>e= .panicked (lS (p+m) 220)/\w'=W):=λW=>by
     have:=jS (p+m) 220 W
     rwa[lV] at this
    have HF:=λW=>C (hF W)
    have τ:g.take k=g:=eF (by rw[HR.q.len];exact aC _);rw[τ] at K S;have υ:Hid (gW g l= .error (l.drop m,220)):=C (by
     unfold gW;rw[<-HT.q,<-ω.q,wE.2 (λy r=>by simpa using S y r),<-K])
    have γ:=C v;have Z:=C (HH.q.below v);have c1:=Z.q.c1;clear K S v hF τ;go_wp2_with fail;refine(HF _).q.mono ?_;rintro e w4 ⟨rfl,rfl⟩;refine⟨rfl,?_⟩;show lq R s c n w _ _ _ _;rw[HX.q,υ.q];refine⟨?_,Same.of_below γ.q (λ_ _ h=>h)⟩;rw[show s.length - (l.drop m).length=p+m by rw[dY];omega]
def Gd {α:Type}(k:J):Except Er (α × Bs)->Prop
 | .ok (_,r)=>r.length<=k
 | .error (_,m)=>m≠0
theorem Gd.mono {α:Type}{j k:J}{x:Except Er (α × Bs)}(h:Gd j x)(e:j<=k):Gd k x:=by
 unfold Gd at*
 grind
theorem I4 (l:Bs):(bg l).length<=l.length:=by unfold bg;exact(List.dropWhile_suffix _).length_le
theorem tu (l:Bs):Gd l.length (dB l):=by
 have:=I4 l;unfold dB
 grind [Gd]
theorem Au {l r:Bs}(h:fu l= .ok r):r.length<=l.length:=by
 have:=tu l;unfold fu at h
 grind [Gd]
theorem DL {l:Bs}{x:Er}(h:fu l= .error x):x.2≠0:=by
 have:=tu l;unfold fu at h
 grind [Gd]
theorem DN (a:M Bs)(l:Bs):Gd l.length (gW a l):=by
 unfold gW
 grind [Gd]
theorem DR (l:Bs):Gd l.length (bU l):=by
 unfold bU
 grind [Gd]
theorem Dn (l:Bs):Gd l.length (dN l):=by
 have:=DR l;unfold dN rY
 grind [Gd]
theorem Gx:∀(k:J)(b:M Bs)(l:Bs),Gd l.length (mK k b l)
 |0,b,l=>aC _
 |k+1,b,l=>by
  have c:=λa r (e:r.length<=l.length)=>(Gx k a r).mono e
  rw[mK]
  grind [Gd,!DR,->Au,->DL]
theorem I5:∀(f k:J)(b:D)(l:Bs),Gd l.length (kD f k b l)
 |0,k,b,l=>aC _
 |f+1,k,b,l=>by
  have d:=tu l;have g:=λa c r (e:r.length<=l.length)=>(I5 f a c r).mono e
  rw[kD]
  grind [Gd,!DN]
theorem Eu (d:Bool)(j:J):∀(f g:J)(h:M Bs)(i:M To)(l:Bs),Gd l.length (bR d j f g h i l)
 |0,g,h,i,l=>aC _
 |f+1,g,h,i,l=>by
  have k:=tu l;have m:=λa b c r (e:r.length<=l.length)=>(Eu d j f a b c r).mono e
  rw[bR]
  cases d <;> simp only[xw,ku,dG]
  all_goals
   repeat' split
   all_goals grind [Gd,!DR,!Dn,->Au,->DL]
theorem Pt (l:Bs):Gd l.length (jh l):=by
 have a:=tu l;unfold jh
 grind [Gd]
theorem R8 (k:J)(a:M Bs)(l:Bs):Gd l.length (uS k a l):=by
 unfold uS
 grind [Gd,->Au,->DL,!DN,!Dn,!Eu,!I5,!Pt]
theorem R9 (l:Bs):Gd l.length (jv l):=by
 have a:=I4 l;unfold jv
 grind (splits:=30) (ematch:=20) (gen:=20) [Gd,!DN,!Gx,!R8,!tu]
theorem QT (l:Bs):match sj l with| .ok (_,r)=>r.length<l.length\/r=[]| .error (_,m)=>m≠0:=by
 have a:=R9 l;unfold sj
 cases b:jv l with
 |error x=>rw[b] at a;exact a
 |ok x=>
  rw[b] at a;have c:(dI x.2).length<=l.length:=cO (by unfold dI;grind) a
  cases d:dI x.2 <;> grind
attribute [local go_sem] Oper.semAt_some
end Yd
namespace Yd
open Go Go.RowKit Go.Proofs
open Go.Value renaming string->c
attribute [local go_sem] Oper.semAt_some
theorem Qr (w:World):Calls Tryz.prog 28 #[] w (jf 9 1 encStr ([[],[98,101,103,105,110],[119,114,105,116,101],[114,101,97,100],[115,99,97,110],[99,111,109,109,105,116],[97,98,111,114,116],[111,114,100,101,114],[109,97,116,99,104],[119,97,110,116]]:List Bs) w):=by
 have a:=hid (Own.new (hc:=gy) w w.1.size 9 (enc:=encStr) #[c ⟨#[]⟩,c ⟨#[98,101,103,105,110]⟩,c ⟨#[119,114,105,116,101]⟩,c ⟨#[114,101,97,100]⟩,c ⟨#[115,99,97,110]⟩,c ⟨#[99,111,109,109,105,116]⟩,c ⟨#[97,98,111,114,116]⟩,c ⟨#[111,114,100,101,114]⟩,c ⟨#[109,97,116,99,104]⟩,c ⟨#[119,97,110,116]⟩] ([[],[98,101,103,105,110],[119,114,105,116,101],[114,101,97,100],[115,99,97,110],[99,111,109,109,105,116],[97,98,111,114,116],[111,114,100,101,114],[109,97,116,99,104],[119,97,110,116]]:List Bs) (aC _) rfl (by simp[maxLen]));have b:=hid (aB (Below.refl w.1.size w) (.cells #[c ⟨#[]⟩,c ⟨#[98,101,103,105,110]⟩,c ⟨#[119,114,105,116,101]⟩,c ⟨#[114,101,97,100]⟩,c ⟨#[115,99,97,110]⟩,c ⟨#[99,111,109,109,105,116]⟩,c ⟨#[97,98,111,114,116]⟩,c ⟨#[111,114,100,101,114]⟩,c ⟨#[109,97,116,99,104]⟩,c ⟨#[119,97,110,116]⟩] 9));go_enter Tryz.func28,Tryz.ntmps28
 go_wp2
 go_ret;exact⟨_,_,rfl,a,b⟩
theorem Nc (w:World):Calls Tryz.prog 49 #[] w (jf 9 1 encStr ([[114,121,119],[109,114],[109,119],[119,102,114]]:List Bs) w):=by
 have a:=hid (Own.new (hc:=gy) w w.1.size 9 (enc:=encStr) #[c ⟨#[114,121,119]⟩,c ⟨#[109,114]⟩,c ⟨#[109,119]⟩,c ⟨#[119,102,114]⟩] ([[114,121,119],[109,114],[109,119],[119,102,114]]:List Bs) (aC _) rfl (by simp[maxLen]));have b:=hid (aB (Below.refl w.1.size w) (.cells #[c ⟨#[114,121,119]⟩,c ⟨#[109,114]⟩,c ⟨#[109,119]⟩,c ⟨#[119,102,114]⟩] 9));go_enter Tryz.func49,Tryz.ntmps49
 go_wp2
 go_ret;exact⟨_,_,rfl,a,b⟩
end Yd
