import Derived.Test.YtddiadcpokbpoabGreatDoorKPoke
import Derived.Laws.RangeString
import Derived.Recover
import Derived.Defers
import Derived.Test.YtddiadcpokbpoabGreatDoorKMp
import Derived.DeepKeys4
set_option linter.all false
set_option maxRecDepth 200000
set_option maxHeartbeats 8000000
namespace Yd
open Go Go.RowKit Go.Proofs
attribute [local go_sem] Oper.semAt_some
def V8 (s:ByteArray):Int:=if 0<s.size then(if okB s 0=true then((Utf8.decode s 0).1:Int) else -1) else -1
end Yd
namespace Yd
open Bool renaming true->O
open Option renaming none->H,some->I
open Go Go.RowKit Go.Proofs Tryz
open Go.IntKind renaming i64->U
open Go.Value renaming slice->L
open Yd renaming hid->J
open _root_ renaming Int->C,List->G,Nat->V
theorem FE {x t:Bs}{k:V}{a:UInt8}(l:x[k]?=I a)(m:t[k]?=I a):jl (x.drop k) (t.drop k)=jl (x.drop (k+1)) (t.drop (k+1))+1:=by
 obtain⟨o,p⟩:=bK.1 l;obtain⟨q,r⟩:=bK.1 m;rw[lW o,lW q,p,r];simp[jl]
theorem sU {x t:Bs}{k:V}(l:x.length<=k\/t.length<=k\/∃a b,x[k]?=I a/\t[k]?=I b/\a≠b):jl (x.drop k) (t.drop k)=0:=by
 rcases l with l|l|⟨a,b,m,o,p⟩
 .rw[pU l];simp[jl]
 .rw[pU l];cases x.drop k <;> simp[jl]
 .obtain⟨q,r⟩:=bK.1 m
  obtain⟨s,u⟩:=bK.1 o;rw[lW q,lW s,r,u];simp[jl,p]
theorem Uo (x t:Bs):jl x t<=t.length:=by
 induction x generalizing t with
 |nil=>simp[jl]
 |cons a x l=>
  cases t with
  |nil=>simp[jl]
  |cons b t=>
   simp only[jl]
   split
   .have:=l t;simp;omega
   .simp
theorem Ie (a:G Bs)(s t:Bs):uw (a++[s]) t=max (uw a t) (jl s t):=by simp[uw]
theorem Ow (a:G Bs)(t:Bs):uw a t<=t.length:=by
 have:∀(a:G Bs)(m:V),m<=t.length->a.foldl (λm s=>max m (jl s t)) m<=t.length:=by
  intro a
  induction a with
  |nil=>intro m l;exact l
  |cons s a o=>intro m l;exact o (max m (jl s t)) (Nat.max_le.2 ⟨l,Uo s t⟩)
 exact this a 0 (bn _)
variable{R p:V}{l:Bs}
theorem EH {s:Bs}{c:bH}{n:aJ}(w:World)(h:eT w R s p l c n)(a:Option Addr)(Z cc:V)(u:G Bs)(hr:Row w 1 encStr a Z cc u)(j9:Z<=100)(hw:∀x∈u,x.length<=100)(q1:∀x∈u,(128:UInt8)∉x):
  Calls Tryz.prog 162 #[.pointer (I ⟨R,0,H⟩),L a Z cc] w (mQ R s c n w (λi:V=> .int U i) (fo u l)):=by
 have HS:=J (L8 w h);obtain⟨X,hX⟩:∃X,X=fo u l:=⟨_,rfl⟩;rw[<-hX];obtain⟨T,hT⟩:∃T,T=fw l:=⟨_,rfl⟩;rw[<-hT] at HS;obtain⟨r,γ⟩:∃r,r=mG l:=⟨_,rfl⟩;have q5:T.length<=l.length:=by rw[hT];have:=nN nD l;unfold fw;omega
 have q6:(l.drop T.length=[]/\r=T)\/(∃b t,l.drop T.length=b::t/\b.toNat<128/\r=T)\/(∃b t,l.drop T.length=b::t/\128<=b.toNat/\r=T++[128]):=by
  unfold mG at γ;rw[<-hT] at γ
  cases hd:l.drop T.length with
  |nil=>rw[hd] at γ;exact .inl ⟨rfl,γ⟩
  |cons b t=>
   rw[hd] at γ;simp only[qG] at γ;by_cases A:(128:UInt8)<=b
   .rw[av A] at γ;exact .inr (.inr ⟨b,t,rfl,A,γ⟩)
   .rw[au A] at γ;exact .inr (.inl ⟨b,t,rfl,Nat.lt_of_not_le A,γ⟩)
 have z0:=h.len;have z2:=h.lim;have HX:=J hX;have HT:=J hT;have Ξ:=J γ;have HH:=J h;have HR:=J hr;have HW:=J hw;have q7:=J q1;have hz:=gN s;have z3:=gN T;clear hX hT γ h hr hw q1;rcases q6 with⟨hd,ι⟩|⟨b,t,hd,hb,ι⟩|⟨b,t,hd,hb,ι⟩
 case' inr.inr=>
  have q2:p+T.length<s.length:=by
   have:=bJ List.length hd;simp at this;omega
  have Γ:decide ((p:C)+(T.length:C)<(s.length:C))=O:=bT ah;have ρ:s[p+T.length]?=I b:=by
   have:=bJ (λl=>l[0]?) hd;rw[<-HH.q.d] at this
   simpa using this
  have Φ:=λW=>jA Tryz.underlying9 s (p+T.length) b ρ W
  rw[xw] at Φ;have q8:decide ((128:C)<=(b.toNat:C))=O:=bT ah;have z4:((⟨T.toArray⟩:ByteArray)++⟨#[128]⟩)=⟨r.toArray⟩:=by rw[ι];exact L9 T [128]
  have q9:=J ι;clear hd ρ ι;go_enter func162,ntmps162;go_wp2_with fail;refine HS.q.mono ?_;rintro e w1 ⟨rfl,κ⟩;have H1:=J (HH.q.below κ);have Ψ:=J κ;have c0:=H1.q.c0;have c1:=H1.q.c1;clear κ
  go_wp2_with (go_quiet (fail))
  clear Γ c0 c1
  go_loopw [8,47] (λf i wr=>∃k m:V,k<=Z/\i= .int U k/\f= .int U m/\m=uw (u.take k) T/\(∀x∈u.take k,x≠r)/\Below w.1.size w wr) (λ_ i _=>Z - (RowKit.intOf i).toNat)
  case atStart=>exact⟨0,0,bn _,rfl,rfl,rfl,by simp,gu Ψ.q _⟩
  case round=>
   obtain⟨k,m,hk,rfl,rfl,hm,δ,E⟩:=hrel;have j0:m<=T.length:=by rw[hm];exact Ow _ _
   have j1:m<=1000000:=by omega
   by_cases Ω:k<Z
   .obtain⟨x,b',o,hx,rfl,hc⟩:=(HR.q.below E rfl).at_ Ω
    have q0:=hc 0 _ rfl;simp only[gJ,dB] at q0;have μ:x∈u:=dA hx;have j2:=HW.q x μ;have η:=J E;have HM:=J hm;have Δ:=J δ;have π:=J hx;have q3:=J μ;have HC:=J (HH.q.below E);have c1:=HC.q.c1;have z1:=f1 HC.q 1;clear hc E hm δ hx μ
    cases θ:x==r
    .clear c1 z1
     have ν:Hid (∀(W':World)(q:V),Below w.1.size w W'->jl x T=q->∃k' m':V,k'<=Z/\Value.int U ((k:C)+1)= .int U k'/\Value.int U (max (m:C) (q:C))= .int U m'/\m'=uw (u.take k') T/\(∀y∈u.take k',y≠r)/\Below w.1.size w W'):=J (λW' q hb hq=>
      ⟨k+1,max m q,by omega,by rw[xw];rfl,bJ (Value.int U) ah,by rw[ig,π.q,Option.toList_some,Ie,hq,<-HM.q],λy v=>by
       rw[ig,π.q] at v;rcases cu.1 v with v|v
       .exact Δ.q y v
       .obtain rfl:y=x:=by simpa using v
        exact λe=>by rw[e] at θ;simp at θ,hb⟩)
     go_wp2_with fail
     go_loopw [11] (λj wx=>∃W,W=wx/\∃q:V,j= .int U q/\q<=T.length/\q<=x.length/\jl (x.drop q) (T.drop q)+q=jl x T/\Below w.1.size w W) (λj _=>T.length - (RowKit.intOf j).toNat)
     case atStart=>exact⟨_,rfl,0,rfl,bn _,bn _,by simp,η.q⟩
     case round=>
      obtain⟨W,rfl,q,rfl,j3,j4,σ,τ⟩:=hrel;have ε:=J τ;have ζ:=J σ;clear τ σ;by_cases A:q<x.length
      .by_cases h2:q<T.length
       .have υ:decide ((q:C)<min (x.length:C) (T.length:C))=O:=bT ah
        obtain⟨K,ξ⟩:∃K,x[q]?=I K:=⟨_,cB A⟩;obtain⟨Q,ο⟩:∃Q,T[q]?=I Q:=⟨_,cB h2⟩;have j5:=λW=>jA Tryz.underlying9 x q K ξ W
        have j6:=λW=>jA Tryz.underlying9 T q Q ο W
        have φ:=J ξ;have χ:=J ο;have S:=J (⟨A,h2⟩:_/\_);clear ξ ο A h2;by_cases he:K=Q
        .have hb:((K.toNat:C)==(Q.toNat:C))=O:=by simp[he]
         have HE:=J he;clear he
         go_wp2_with (go_quiet (fail))
         go_roundw
         case rel=>exact⟨_,rfl,q+1,by go_num,S.q.2,S.q.1,by have:=FE φ.q (HE.q▸χ.q);have:=ζ.q;omega,gu ε.q _⟩
         case measure=>have:=S.q.2;simp[RowKit.intOf];omega
        .have hb:((K.toNat:C)==(Q.toNat:C))=false:=aX.2 (λe=>he (iV.1 ah))
         have HE:=J he;clear he
         go_wp2_with (go_quiet (fail))
         go_roundw
         case rel=>exact ν.q _ q (gu ε.q _) (by have:=sU (.inr (.inr ⟨K,Q,φ.q,χ.q,HE.q⟩));have:=ζ.q;omega)
         case measure=>simp[RowKit.intOf];omega
       .have υ:decide ((q:C)<min (x.length:C) (T.length:C))=false:=bE ah
        have S:=J h2;clear h2
        go_wp2_with (go_quiet (fail))
        go_roundw
        case rel=>exact ν.q _ q (gu ε.q _) (by have:=sU (x:=x) (t:=T) (k:=q) (.inr (.inl (by have:=S.q;omega)));have:=ζ.q;omega)
        case measure=>simp[RowKit.intOf];omega
      .have υ:decide ((q:C)<min (x.length:C) (T.length:C))=false:=bE ah
       have S:=J A;clear A
       go_wp2_with (go_quiet (fail))
       go_roundw
       case rel=>exact ν.q _ q (gu ε.q _) (by have:=sU (x:=x) (t:=T) (k:=q) (.inl (by have:=S.q;omega));have:=ζ.q;omega)
       case measure=>simp[RowKit.intOf];omega
    .exfalso
     have Θ:x=r:=by simpa using θ
     have q4:=q7.q x q3.q;rw[Θ,q9.q] at q4;exact q4 ak
   .obtain rfl:k=Z:=by omega
    have hF:∀W,Calls Tryz.prog 148 #[.int U ((p:C)+(m:C)),.int U 220] W (λe w'=>e= .panicked (nu (p+m) 220)/\w'=W):=λW=>by
     have:=lH (p+m) 220 W
     rwa[xw] at this
    have HF:=λW=>J (hF W)
    have ψ:u.take k=u:=gF (by rw[HR.q.len];exact aB _);rw[ψ] at hm δ;have ω:Hid (fo u l= .error (l.drop m,220)):=J (by
     unfold fo;rw[<-HT.q,<-Ξ.q,zy.2 (λy v=>by simpa using δ y v),<-hm])
    have η:=J E;have HC:=J (HH.q.below E);have c1:=HC.q.c1;clear hm δ E hF ψ;go_wp2_with fail;refine(HF _).q.mono ?_;rintro e w4 ⟨rfl,rfl⟩;refine⟨rfl,?_⟩;show mQ R s c n w _ _ _ _;rw[HX.q,ω.q];refine⟨?_,Same.of_below η.q (λ_ _ h=>h)⟩;rw[show s.length - (l.drop m).length=p+m by rw[gI];omega]
 case' inl=>
  have q2:p+T.length=s.length:=by
   have:=bJ List.length hd;simp at this;omega
  subst ι;have Γ:decide ((p:C)+(r.length:C)<(s.length:C))=false:=bE ah;clear hd
 case' inr.inl=>
  have q2:p+T.length<s.length:=by
   have:=bJ List.length hd;simp at this;omega
  subst ι;have Γ:decide ((p:C)+(r.length:C)<(s.length:C))=O:=bT ah;have ρ:s[p+r.length]?=I b:=by
   have:=bJ (λl=>l[0]?) hd;rw[<-HH.q.d] at this
   simpa using this
  have Φ:=λW=>jA Tryz.underlying9 s (p+r.length) b ρ W
  rw[xw] at Φ;have q8:decide ((128:C)<=(b.toNat:C))=false:=bE ah;clear hd ρ
 all_goals
  go_enter func162,ntmps162;go_wp2_with fail;refine HS.q.mono ?_;rintro e w1 ⟨rfl,κ⟩;have H1:=J (HH.q.below κ);have Ψ:=J κ;have c0:=H1.q.c0;have c1:=H1.q.c1;clear κ
  go_wp2_with (go_quiet (fail))
  clear Γ c0 c1
  go_loopw [8,47] (λf i wr=>∃k m:V,k<=Z/\i= .int U k/\f= .int U m/\m=uw (u.take k) r/\(∀x∈u.take k,x≠r)/\Below w.1.size w wr) (λ_ i _=>Z - (RowKit.intOf i).toNat)
  case atStart=>exact⟨0,0,bn _,rfl,rfl,rfl,by simp,gu Ψ.q _⟩
  case round=>
   obtain⟨k,m,hk,rfl,rfl,hm,δ,E⟩:=hrel;have j0:m<=r.length:=by rw[hm];exact Ow _ _
   have j1:m<=1000000:=by omega
   by_cases Ω:k<Z
   .obtain⟨x,b',o,hx,rfl,hc⟩:=(HR.q.below E rfl).at_ Ω
    have q0:=hc 0 _ rfl;simp only[gJ,dB] at q0;have μ:x∈u:=dA hx;have j2:=HW.q x μ;have η:=J E;have HM:=J hm;have Δ:=J δ;have π:=J hx;have q3:=J μ;have HC:=J (HH.q.below E);have c1:=HC.q.c1;have z1:=f1 HC.q 1;clear hc E hm δ hx μ
    cases θ:x==r
    .clear c1 z1
     have ν:Hid (∀(W':World)(q:V),Below w.1.size w W'->jl x r=q->∃k' m':V,k'<=Z/\Value.int U ((k:C)+1)= .int U k'/\Value.int U (max (m:C) (q:C))= .int U m'/\m'=uw (u.take k') r/\(∀y∈u.take k',y≠r)/\Below w.1.size w W'):=J (λW' q hb hq=>
      ⟨k+1,max m q,by omega,by rw[xw];rfl,bJ (Value.int U) ah,by rw[ig,π.q,Option.toList_some,Ie,hq,<-HM.q],λy v=>by
       rw[ig,π.q] at v;rcases cu.1 v with v|v
       .exact Δ.q y v
       .obtain rfl:y=x:=by simpa using v
        exact λe=>by rw[e] at θ;simp at θ,hb⟩)
     go_wp2_with fail
     go_loopw [11] (λj wx=>∃W,W=wx/\∃q:V,j= .int U q/\q<=r.length/\q<=x.length/\jl (x.drop q) (r.drop q)+q=jl x r/\Below w.1.size w W) (λj _=>r.length - (RowKit.intOf j).toNat)
     case atStart=>exact⟨_,rfl,0,rfl,bn _,bn _,by simp,η.q⟩
     case round=>
      obtain⟨W,rfl,q,rfl,j3,j4,σ,τ⟩:=hrel;have ε:=J τ;have ζ:=J σ;clear τ σ;by_cases A:q<x.length
      .by_cases h2:q<r.length
       .have υ:decide ((q:C)<min (x.length:C) (r.length:C))=O:=bT ah
        obtain⟨K,ξ⟩:∃K,x[q]?=I K:=⟨_,cB A⟩;obtain⟨Q,ο⟩:∃Q,r[q]?=I Q:=⟨_,cB h2⟩;have j5:=λW=>jA Tryz.underlying9 x q K ξ W
        have j6:=λW=>jA Tryz.underlying9 r q Q ο W
        have φ:=J ξ;have χ:=J ο;have S:=J (⟨A,h2⟩:_/\_);clear ξ ο A h2;by_cases he:K=Q
        .have hb:((K.toNat:C)==(Q.toNat:C))=O:=by simp[he]
         have HE:=J he;clear he
         go_wp2_with (go_quiet (fail))
         go_roundw
         case rel=>exact⟨_,rfl,q+1,by go_num,S.q.2,S.q.1,by have:=FE φ.q (HE.q▸χ.q);have:=ζ.q;omega,gu ε.q _⟩
         case measure=>have:=S.q.2;simp[RowKit.intOf];omega
        .have hb:((K.toNat:C)==(Q.toNat:C))=false:=aX.2 (λe=>he (iV.1 ah))
         have HE:=J he;clear he
         go_wp2_with (go_quiet (fail))
         go_roundw
         case rel=>exact ν.q _ q (gu ε.q _) (by have:=sU (.inr (.inr ⟨K,Q,φ.q,χ.q,HE.q⟩));have:=ζ.q;omega)
         case measure=>simp[RowKit.intOf];omega
       .have υ:decide ((q:C)<min (x.length:C) (r.length:C))=false:=bE ah
        have S:=J h2;clear h2
        go_wp2_with (go_quiet (fail))
        go_roundw
        case rel=>exact ν.q _ q (gu ε.q _) (by have:=sU (x:=x) (t:=r) (k:=q) (.inr (.inl (by have:=S.q;omega)));have:=ζ.q;omega)
        case measure=>simp[RowKit.intOf];omega
      .have υ:decide ((q:C)<min (x.length:C) (r.length:C))=false:=bE ah
       have S:=J A;clear A
       go_wp2_with (go_quiet (fail))
       go_roundw
       case rel=>exact ν.q _ q (gu ε.q _) (by have:=sU (x:=x) (t:=r) (k:=q) (.inl (by have:=S.q;omega));have:=ζ.q;omega)
       case measure=>simp[RowKit.intOf];omega
    .obtain⟨q,hq⟩:∃q:V,q=p+r.length:=⟨_,rfl⟩
     have Θ:x=r:=by simpa using θ
     have z5:(p:C)+(x.length:C)=(q:C):=by rw[Θ];omega
     have z6:q<=1000000:=by omega
     have ht:=HC.q.to r.length rfl q5 q hq;have j7:=J ht.1;have j8:=J ((Mv.of_below (R:=R) (c:=c) η.q).trans ht.2);have ω:Hid (fo u l= .ok (k,l.drop r.length)):=J (by
      unfold fo;rw[<-HT.q,<-Ξ.q,findIdx?_take (λs=>s==r) u k (zy.2 (λy v=>by simpa using Δ.q y v)) x π.q θ])
     clear ht hq Θ;go_wp2_with fail;go_ret;show mQ R s c n w _ _ _ _;rw[HX.q,ω.q];exact⟨rfl,q,j7.q,j8.q⟩
   .obtain rfl:k=Z:=by omega
    have hF:∀W,Calls Tryz.prog 148 #[.int U ((p:C)+(m:C)),.int U 220] W (λe w'=>e= .panicked (nu (p+m) 220)/\w'=W):=λW=>by
     have:=lH (p+m) 220 W
     rwa[xw] at this
    have HF:=λW=>J (hF W)
    have ψ:u.take k=u:=gF (by rw[HR.q.len];exact aB _);rw[ψ] at hm δ;have ω:Hid (fo u l= .error (l.drop m,220)):=J (by
     unfold fo;rw[<-HT.q,<-Ξ.q,zy.2 (λy v=>by simpa using δ y v),<-hm])
    have η:=J E;have HC:=J (HH.q.below E);have c1:=HC.q.c1;clear hm δ E hF ψ;go_wp2_with fail;refine(HF _).q.mono ?_;rintro e w4 ⟨rfl,rfl⟩;refine⟨rfl,?_⟩;show mQ R s c n w _ _ _ _;rw[HX.q,ω.q];refine⟨?_,Same.of_below η.q (λ_ _ h=>h)⟩;rw[show s.length - (l.drop m).length=p+m by rw[gI];omega]
def qP (l:Bs):V × C:=if(jF l).head?=H then(l.length,0) else if(jF l).head?=I 10 then(l.length - (jF l).length+1,0) else(l.length - (jF l).length,120)
theorem Ox (a:dR l=O):bL l=l:=by
 cases l with
 |nil=>rfl
 |cons b t=>
  rw[jg] at a;have:iC b=false:=by
   rw[<-AB];unfold vD;simp only[rV,oJ] at a;rw[aX.2 ah,aX.2 ah];rfl
  unfold bL;rw[zA,this];rfl
theorem Uq (a:dR l=O):l.drop (nM l)=jF l/\nM l=l.length - (jF l).length/\(jF l).length<=l.length/\sP l=((jF l).head?==H||(jF l).head?==I 10):=by
 have e:=Ox a;have p:(l.takeWhile iC).length=0:=by have:=KF l;rw[e] at this;omega
 have m:l.drop (nM l)=jF l:=by
  unfold nM jF;rw[p,e,bD]
  split <;> simp
 have s:nM l<=l.length:=by
  unfold nM;rw[p,e]
  split
  .have:=qN CQ _ l (aB _);omega
  .omega
 refine⟨m,by rw[<-m,gI];omega,by rw[<-m,gI];omega,?_⟩;unfold sP;rw[m,e];by_cases o:l.head?=I 35
 .rw[o];rfl
 .have q:jF l=l:=by unfold jF;rw[au o]
  rw[q];have r:(l.head?==H||l.head?==I 10)=O:=by
   unfold dR at a;simp only[rV,oJ] at a ⊢;rcases a with(a|a)|a
   .exact .inl a
   .exact .inr a
   .exact absurd a o
  rw[r];simp
def V9 (l:V)(m:C)(w:World)(e:Ending)(o:World):Prop:=∃k a t,Gw k a t l m w e o
theorem Wd (s:Bs)(p:V)(l:Bs)(R:s.drop p=l)(hp:p<=s.length)(κ:s.length<=1000000)(he:dR l=O)(w:World)(hT:Lib.Utf8Tabs 6 7 w):
  Calls Tryz.prog 147 #[.string ⟨s.toArray⟩,.int U p] w (V9 (p+(qP l).1) (qP l).2 w):=by
 have μ:p+l.length=s.length:=by rw[<-R,gI];omega
 obtain⟨k1,k2,k3,k4⟩:=Uq he;obtain⟨q,hq⟩:∃q,q=p+nM l:=⟨_,rfl⟩;obtain⟨r,S⟩:∃r,r=jF l:=⟨_,rfl⟩;have ζ:s.drop q=r:=by rw[hq,S,<-k1,<-uS,R]
 have ν:q<=s.length:=by omega
 have Z:qP l=if r.head?=H then(l.length,0) else if r.head?=I 10 then(l.length - r.length+1,0) else(l.length - r.length,120):=by unfold qP;rw[S]
 rw[<-S] at k1 k2 k3 k4;have δ:Hid (sP l=(r.head?==H||r.head?==I 10)):=J k4;have HS:=λW (hb:Below w.1.size w W)=>J (qi s p l R hp κ W (Utf8Tabs_below hT hb))
 rw[<-hq] at HS;have ξ:=λW=>nk Tryz.underlying9 s q ν W
 rw[ζ] at ξ;have hz:=gN s;have τ:p<=q:=by omega
 have HQ:Hid (q+r.length=s.length/\p+l.length=s.length/\q=p+(l.length - r.length)):=J ah;clear k1 k2 k3 k4 R he hT S μ hq
 cases r
 case' nil=>
  have K:Hid (((([]:Bs).head?==H||([]:Bs).head?==I 10):Bool)=O):=J rfl;have y:Hid (p+(qP l).1=q/\(qP l).2=0):=J (by rw[Z,av (show([]:Bs).head?=H from rfl)];exact⟨by have:=HQ.q;simp at this;simp only[];omega,rfl⟩)
 case' cons b t=>
  have υ:∀W,(Instr.index 9 (.string ⟨(b::t).toArray⟩) (.int U 0)).run Tryz.prog W= .ok (.int .u8 (b.toNat:C)) W:=λW=>jA Tryz.underlying9 (b::t) 0 b rfl W
  have φ:∀W,(Instr.slice 9 (.string ⟨(b::t).toArray⟩) H (I (.int U 1)) H).run Tryz.prog W= .ok (.string ⟨[b].toArray⟩) W:=λW=>wz Tryz.underlying9 (b::t) 1 ak W
  have χ:((b::t)==([]:Bs))=false:=rfl;have ψ:q+1<=s.length:=by have:=HQ.q;simp at this;omega
  by_cases E:b=10
  case' pos=>
   subst E;have K:Hid (((((10::t:Bs).head?)==H||((10::t:Bs).head?)==I 10):Bool)=O):=J rfl;have y:Hid (p+(qP l).1=q+1/\(qP l).2=0):=J (by rw[Z,au ak,av (show(10::t:Bs).head?=I 10 from rfl)];exact⟨by have:=HQ.q;simp only[] at this ⊢;omega,rfl⟩)
  case' neg=>
   have K:Hid (((((b::t:Bs).head?)==H||((b::t:Bs).head?)==I 10):Bool)=false):=J (by simp[E]);have y:Hid (p+(qP l).1=q/\(qP l).2=120):=J (by rw[Z,au ak,au (by simpa using E)];exact⟨by have:=HQ.q;simp only[] at this ⊢;omega,rfl⟩)
 all_goals
  clear Z ζ;by_cases η:q=p
  case' pos=>
   subst η;by_cases θ:q=0
   case' pos=>
    have ο:decide ((0:C)<(q:C))=false:=bE ah;have π:decide (0<q)=false:=bE ah;clear θ;go_enter func147,ntmps147;go_wp2_with fail;refine(HS _ (aA (Below.refl _ _) _)).q.mono ?_;rintro e w1 ⟨rfl,o⟩;have m:=J ((aA (Below.refl w.1.size w) (.cells (aH 0 0 [] false) 214)).trans (o.mono ak));have a:=J ((Bx.new w (aH 0 0 [] false) 214).keep o);clear o;rw[δ.q,K.q];have A:=(a.q.alloc (.cells (aH 0 q [] false) 214)).1;have γ:=(a.q.alloc (.cells (aH 0 q [] false) 214)).2.1;have Q:=J (aA m.q (.cells (aH 0 q [] false) 214))
   case' neg=>
    have ο:decide ((0:C)<(q:C))=O:=bT ah;have π:decide (0<q)=O:=bT ah;obtain⟨u,ι⟩:∃u,s[q - 1]?=I u:=⟨_,cB ah⟩;have ρ:=λW=>jA Tryz.underlying9 s (q - 1) u ι W
    rw[show((q - 1:V):C)=(q:C) - 1 by omega] at ρ;have ω:wrap32 (u.toNat:C)=(u.toNat:C):=IntWalk.wrap32_in _ (by have:=u.toNat_lt;omega);clear ι θ;go_enter func147,ntmps147;go_wp2_with fail;refine(HS _ (aA (Below.refl _ _) _)).q.mono ?_;rintro e w1 ⟨rfl,o⟩;have m:=J ((aA (Below.refl w.1.size w) (.cells (aH 0 0 [] false) 214)).trans (o.mono ak));have a:=J ((Bx.new w (aH 0 0 [] false) 214).keep o);clear o;rw[δ.q,K.q];go_wp2_with fail;refine(CR _ _).mono ?_;rintro e w2 ⟨rfl,x⟩
    cases Γ:vD (u.toNat:C)
    case' false=>
     cases E:((u.toNat:C)==10)
     case' false=>
      have σ:((u.toNat:C)!=10)=O:=by rw[bne,E];rfl
      replace m:=J (m.q.bQ x);replace a:=J (a.q.keep x)
      clear x;have A:=(a.q.alloc (.cells (aH 0 q [] O) 214)).1;have γ:=(a.q.alloc (.cells (aH 0 q [] O) 214)).2.1;have Q:=J (aA m.q (.cells (aH 0 q [] O) 214))
     case' true=>
      have σ:((u.toNat:C)!=10)=false:=by rw[bne,E];rfl
      replace m:=J (m.q.bQ x);replace a:=J (a.q.keep x)
      clear x;have A:=(a.q.alloc (.cells (aH 0 q [] false) 214)).1;have γ:=(a.q.alloc (.cells (aH 0 q [] false) 214)).2.1;have Q:=J (aA m.q (.cells (aH 0 q [] false) 214))
    case' true=>
     replace m:=J (m.q.bQ x);replace a:=J (a.q.keep x)
     clear x;have A:=(a.q.alloc (.cells (aH 0 q [] false) 214)).1;have γ:=(a.q.alloc (.cells (aH 0 q [] false) 214)).2.1;have Q:=J (aA m.q (.cells (aH 0 q [] false) 214))
  case' neg=>
   have Δ:((q:C)==(p:C))=false:=aX.2 ah;clear η;go_enter func147,ntmps147;go_wp2_with fail;refine(HS _ (aA (Below.refl _ _) _)).q.mono ?_;rintro e w1 ⟨rfl,o⟩;have m:=J ((aA (Below.refl w.1.size w) (.cells (aH 0 0 [] false) 214)).trans (o.mono ak));have a:=J ((Bx.new w (aH 0 0 [] false) 214).keep o);clear o;rw[δ.q,K.q];have A:=(a.q.alloc (.cells (aH 0 q [] false) 214)).1;have γ:=(a.q.alloc (.cells (aH 0 q [] false) 214)).2.1;have Q:=J (aA m.q (.cells (aH 0 q [] false) 214))
 all_goals
  go_wp2_with fail;have ε:IntKind.i64.wrap ((q:C)+1)=(q:C)+1:=Go.IntWalk.i64_in _ ah
  first
  |refine bodyPost_ret (v:= .tuple #[.agg (aH 5 q [] false),.int U (q:C),.int U 0]) ?_ rfl ⟨5,q,[],false,?_,?_⟩
   focus (simp[results,results147,go_sem,A,ε];done)
   focus (rw[y.q.1,y.q.2] <;> rfl)
  |refine bodyPost_ret (v:= .tuple #[.agg (aH 0 0 [] false),.int U (q:C),.int U 120]) ?_ rfl ⟨0,0,[],false,?_,?_⟩
   focus (simp[results,results147,go_sem,A,ε];done)
   focus (rw[y.q.1,y.q.2] <;> rfl)
  |refine bodyPost_ret (v:= .tuple #[.agg (aH 4 q [10] false),.int U ((q:C)+1),.int U 0]) ?_ rfl ⟨4,q,[10],false,?_,?_⟩
   focus (simp[results,results147,go_sem,A,ε];done)
   focus (rw[y.q.1,y.q.2] <;> rfl)
  exact(((Q.q.setCell (p:=⟨w.1.size,0,H⟩) (aB _) _).setCell (p:=⟨w.1.size,1,H⟩) (aB _) _).setCell (p:=⟨w.1.size,2,H⟩) (aB _) _).setCell (p:=⟨w.1.size,3,H⟩) (aB _) _
theorem Z5 (v:Value)(W:World):(Instr.typeAssert (.iface 209 v) 20 209 O).run Tryz.prog W= .ok (.tuple #[v,.bool O]) W:=ay
theorem FH (b:V)(p m:C)(a0 a1 a2 a3 a4 a5 u x:Value)(E:G PanicEntry)(w:World)(Q:Bx w b #[a0,a1,a2,a3,a4,a5])(h2:Bx w (b+1) #[u])(R:Bx w (b+2) #[x]):
  CallsD Tryz.prog 145 #[.pointer (I ⟨b,0,H⟩),.pointer (I ⟨b+1,0,H⟩),.pointer (I ⟨b+2,0,H⟩)] (.panicking ({v:= .iface 209 (.agg #[.int U p,.int U m]),recovered:=false}::E)) w λe u' l=>
   e= .returned (.tuple #[])/\u'= .panicking ({v:= .iface 209 (.agg #[.int U p,.int U m]),recovered:=true}::E)/\
   Bx l b #[.int U 0,L H 0 0,.int U 0,L H 0 0,.bool false,.int U 0]/\Bx l (b+1) #[.int U p]/\Bx l (b+2) #[.int U m]/\Below b w l:=by
 refine callsD_of_wpS func145 rfl λζ cs hu=>?_
 apply wpS_seq
 apply wpS_region
 simp[wpOpsS,go_sem,recoverD,hu,ntmps145,Exit.thenS];refine wpS_of_wp ?_;have η:=Z5 (.agg #[.int U p,.int U m]);simp only[pE,pF,mJ,mK,fK,fA,lu,kF,kK];have S:=Bx.new w #[.int U p,.int U m] 209;obtain⟨Z,y⟩:∃Z:World,Z=(((((w.setCell ⟨b,0,H⟩ (.int U 0)).setCell ⟨b,1,H⟩ (L H 0 0)).setCell ⟨b,2,H⟩ (.int U 0)).setCell ⟨b,3,H⟩ (L H 0 0)).setCell ⟨b,4,H⟩ (.bool false)).setCell ⟨b,5,H⟩ (.int U 0):=⟨_,rfl⟩;have s:Hid (Bx Z b #[.int U 0,L H 0 0,.int U 0,L H 0 0,.bool false,.int U 0]/\Bx Z (b+1) #[u]/\Bx Z (b+2) #[x]/\Z.1.size=w.1.size/\Below b w Z):=J (by
  rw[y];refine⟨?_,?_,?_,by simp[World.setCell],?_⟩
  .exact(((((Q.bB 0 ak _).bB 1 ak _).bB 2 ak _).bB 3 ak _).bB 4 ak _).bB 5 ak _
  .exact(((((h2.setOther b 0 _ ah).setOther b 1 _ ah).setOther b 2 _ ah).setOther b 3 _ ah).setOther b 4 _ ah).setOther b 5 _ ah
  .exact(((((R.setOther b 0 _ ah).setOther b 1 _ ah).setOther b 2 _ ah).setOther b 3 _ ah).setOther b 4 _ ah).setOther b 5 _ ah
  .exact((((((Below.refl b w).setCell (p:=⟨b,0,H⟩) (aB b) _).setCell (p:=⟨b,1,H⟩) (aB b) _).setCell (p:=⟨b,2,H⟩) (aB b) _).setCell (p:=⟨b,3,H⟩) (aB b) _).setCell (p:=⟨b,4,H⟩) (aB b) _).setCell (p:=⟨b,5,H⟩) (aB b) _)
 obtain⟨o,r⟩:∃o:World,o=(Z.alloc (.cells #[.int U p,.int U m] 209)).drew:=⟨_,rfl⟩;have γ:Bx o w.1.size #[.int U p,.int U m]:=by
  have:=Bx.new Z #[.int U p,.int U m] 209;rw[s.q.2.2.2.1] at this;rw[r];exact this
 have a:Hid (Bx o b #[.int U 0,L H 0 0,.int U 0,L H 0 0,.bool false,.int U 0]/\Bx o (b+1) #[u]/\Bx o (b+2) #[x]/\Bx o w.1.size #[.int U p,.int U m]/\Below b w o):=J (by
  refine⟨?_,?_,?_,γ,?_⟩
  .rw[r];exact(s.q.1.alloc _).drew
  .rw[r];exact(s.q.2.1.alloc _).drew
  .rw[r];exact(s.q.2.2.1.alloc _).drew
  .rw[r];exact(s.q.2.2.2.2.alloc (by have:=s.q.2.2.2.1;have:=Q.2.2;omega) _).drew)
 have t:Hid (b+2<w.1.size):=J R.2.2;have θ:Hid (Bx o (b+1) #[u]):=J a.q.2.1;clear γ;go_wp2_with fail;refine aC 99 [(0,0),(1,0),(2,0),(3,0),(4,0),(5,2),(6,2),(7,2)] (λ_=>True) (λW'=>W'.cell? ⟨w.1.size,0,H⟩=I (.int U p)/\W'.cell? ⟨w.1.size,1,H⟩=I (.int U m)) ay ay (trivial) (⟨S.1 0,S.1 1⟩) ?_;refine qC ?_;refine aF rfl rfl (λK q=>?_);go_simp;rw[<-y,<-r];refine q _ _ ⟨trivial,a.q.2.2.2.1.1 0,a.q.2.2.2.1.1 1⟩ ?_;have z1:=a.q.2.1.1 0;have δ:=a.q.2.1.2.1 0;clear q K y r;refine aF rfl rfl (λK q=>?_);go_simp;refine q _ _ ⟨trivial,(a.q.2.2.2.1.setOther (b+1) 0 _ (by have:=t.q;omega)).1 0,(a.q.2.2.2.1.setOther (b+1) 0 _ (by have:=t.q;omega)).1 1⟩ ?_;clear q K z1 δ;have z1:=a.q.2.2.1.1 0;have δ:=a.q.2.2.1.2.1 0;refine aF rfl rfl (λK q=>?_);go_simp;refine q _ _ ⟨trivial,((a.q.2.2.2.1.setOther (b+1) 0 _ (by have:=t.q;omega)).setOther (b+2) 0 _ (by have:=t.q;omega)).1 0,((a.q.2.2.2.1.setOther (b+1) 0 _ (by have:=t.q;omega)).setOther (b+2) 0 _ (by have:=t.q;omega)).1 1⟩ ?_;clear q K;refine aO ?_;go_wp2_with fail;obtain⟨l,A⟩:∃l:World,l=(o.setCell ⟨b+1,0,H⟩ (.int U p)).setCell ⟨b+2,0,H⟩ (.int U m):=⟨_,rfl⟩;have ε:Bx l b #[.int U 0,L H 0 0,.int U 0,L H 0 0,.bool false,.int U 0]/\Bx l (b+1) #[.int U p]/\Bx l (b+2) #[.int U m]/\Below b w l:=by
  rw[A];refine⟨((a.q.1.setOther (b+1) 0 _ ah).setOther (b+2) 0 _ ah),((a.q.2.1.bB 0 ak _).setOther (b+2) 0 _ ah),((a.q.2.2.1.setOther (b+1) 0 _ ah).bB 0 ak _),?_⟩;exact(a.q.2.2.2.2.setCell (p:=⟨b+1,0,H⟩) ak _).setCell (p:=⟨b+2,0,H⟩) ak _
 rw[<-A];have HF:=J ε;clear A ε
 cases ζ
 simp_all[bodyPostS,results,results145]
 exact HF.q
theorem Q0 (b:V)(w:World):
  CallsD Tryz.prog 145 #[.pointer (I ⟨b,0,H⟩),.pointer (I ⟨b+1,0,H⟩),.pointer (I ⟨b+2,0,H⟩)] .returning w λe a l=>e= .returned (.tuple #[])/\a= .returning/\l=w:=by
 refine callsD_of_wpS func145 rfl λm p o=>?_
 apply wpS_seq
 apply wpS_region
 simp[wpOpsS,go_sem,recoverD,o,ntmps145,Exit.thenS];refine wpS_of_wp ?_;go_wp2_with fail
 cases m
 simp_all[bodyPostS,results,results145]
variable{a:V}
theorem dG {n:C}{b:V}(l:aY n a=O)(m:a<=b):aY n b=O:=by
 simp only[aY,aM,aV] at l ⊢;omega
theorem xG {v:kg}{b:V}(l:gq v a=O)(o:a<=b):gq v b=O:=by
 unfold gq at l ⊢
 split
 .rename_i m;rw[av m] at l;exact l
 .rename_i m
  rw[au m] at l;simp only[aM] at l ⊢;exact⟨⟨dG l.1.1 o,l.1.2⟩,l.2⟩
theorem Ma {s:Sn}{b c:V}(l:jG a c s=O)(m:a<=b)(o:c<=R):jG b R s=O:=by
 simp only[jG,aM] at l ⊢;exact⟨dG l.1 o,xG l.2 m⟩
theorem Oy {e:EvC}{l:G Sn}{b c o c' q:V}(m:hasB a b c R e l=O)(ha:a<=o)(r:b<=p)(hc:c<=c')(t:R<=q):hasB o p c' q e l=O:=by
 unfold hasB at m ⊢
 split
 .rename_i k;rw[av k] at m
  simp only[aM] at m ⊢;exact⟨dG m.1 r,m.2⟩
 .rename_i u;rw[au u] at m
  split
  .rename_i k;rw[av k] at m
   simp only[aM] at m ⊢;exact⟨⟨⟨dG m.1.1.1 hc,xG m.1.1.2 ha⟩,m.1.2⟩,m.2⟩
  .rename_i v;rw[au v] at m
   split
   .rename_i k;rw[av k] at m
    simp only[aM] at m ⊢;exact⟨dG m.1 hc,xG m.2 ha⟩
   .rename_i x;rw[au x] at m
    split
    .rename_i k;rw[av k] at m
     simp only[aM,dZ] at m ⊢;exact⟨⟨dG m.1.1 t,m.1.2⟩,λs hs=>Ma (m.2 s hs) ha hc⟩
    .rfl
theorem Q5 {e:EvC}{l:G Sn}{b c o c' q:V}(m:fZ a b c R e l=O)(ha:a<=o)(r:b<=p)(hc:c<=c')(s:R<=q):fZ o p c' q e l=O:=by
 unfold fZ at m ⊢;simp only[aM] at m ⊢;exact⟨⟨⟨m.1.1.1,dG m.1.1.2 ha⟩,Oy m.1.2 ha r hc s⟩,m.2⟩
def kZ (c:Cont):Prop:=∀i,(c.nl i).Nodup/\∀s∈c.nl i,bG ⟨s.toArray⟩=O
variable{c:Cont}
theorem kZ.put (l:kZ c)(i:V){s:Bs}(m:bG ⟨s.toArray⟩=O):kZ (c.put i s):=λj=>by
 show(if j=i then dJ (c.nl i) s else c.nl j).Nodup/\∀x∈(if j=i then dJ (c.nl i) s else c.nl j),bG ⟨x.toArray⟩=O
 split
 .refine⟨zB (l i).1,λx a=>?_⟩
  unfold dJ at a
  split at a
  .exact(l i).2 x a
  .rcases cu.1 a with a|a
   .exact(l i).2 x a
   .rw[bX.1 a];exact m
 .exact l j
theorem kZ.dh (a:kZ c){v:To}(l:jK v):kZ (c.dh v).1:=by
 unfold Cont.dh;rcases l with rfl|⟨m,o,_⟩
 .rw[av rfl];exact a
 .rw[au ah];exact a.put 0 m
theorem kZ.ts:∀(l:G Bs){c:Cont},kZ c->(∀s∈l,bG ⟨s.toArray⟩=O)->kZ (c.ts l).1
 |[],_,h,_=>h
 |s::r,_,h,a=>kZ.ts r (h.put 0 (a s fQ)) (λx m=>a x (d9 _ m))
theorem kZ.sc:∀(l:G (Bs × To)){c:Cont},kZ c->(∀p∈l,bG ⟨p.1.toArray⟩=O/\jK p.2)->kZ (c.sc l).1
 |[],_,h,_=>h
 |p::r,_,h,a=>kZ.sc r ((h.put 2 (a p fQ).1).dh (a p fQ).2) (λx m=>a x (d9 _ m))
theorem gT (c:Cont)(i:V)(s:Bs):aY (c.no i s) ((c.put i s).nl i).length=O:=by
 have h:=Oj (c.nl i) s;have e:(c.put i s).nl i=dJ (c.nl i) s:=av rfl;rw[e];have a:(0:C)<=(qd (c.nl i) s:C):=zC _;have l:(qd (c.nl i) s:C)<((dJ (c.nl i) s).length:C):=Int.ofNat_lt.2 h;unfold aY Cont.no;exact Bool.and_eq_true_iff.2 ⟨bT a,bT l⟩
theorem Gr.len {a:Cont}(l:Gr c a)(i:V):(c.nl i).length<=(a.nl i).length:=(l.n i).length_le
theorem KG (c:Cont){v:To}(a:jK v):gq (c.dh v).2 ((c.dh v).1.nl 0).length=O:=by
 unfold Cont.dh;rcases a with rfl|⟨_,l,m⟩
 .rw[av rfl];rfl
 .rw[au ah]
  unfold gq;rw[au (by simp only[];omega)];simp only[gT,bT l,bT m,Bool.and_self]
theorem Mc:∀(l:G Bs)(c:Cont),(∀x∈(c.ts l).2,aY x ((c.ts l).1.nl 0).length=O)/\(c.ts l).2.length=l.length
 |[],_=>⟨λx a=>(by cases a),rfl⟩
 |s::r,c=>by
  obtain⟨m,o⟩:=Mc r (c.put 0 s);refine⟨λx a=>?_,?_⟩
  .rcases dO.1 a with rfl|a
   .exact dG (gT c 0 s) ((Gr.ts r (c.put 0 s)).len 0)
   .exact m x a
  .show(_::_).length=_
   rw[dK,o];rfl
theorem Te:∀(l:G (Bs × To))(c:Cont),(∀p∈l,jK p.2)->(∀x∈(c.sc l).2,jG ((c.sc l).1.nl 0).length ((c.sc l).1.nl 2).length x=O)/\(c.sc l).2.length=l.length
 |[],_,_=>⟨λx a=>(by cases a),rfl⟩
 |p::r,c,m=>by
  have q:=m p fQ;obtain⟨s,t⟩:=Te r ((c.put 2 p.1).dh p.2).1 (λx a=>m x (d9 _ a));have o:=Gr.sc r ((c.put 2 p.1).dh p.2).1;refine⟨λx a=>?_,?_⟩
  .rcases dO.1 a with rfl|a
   .show jG (((c.put 2 p.1).dh p.2).1.sc r|>.1.nl 0).length (((c.put 2 p.1).dh p.2).1.sc r|>.1.nl 2).length ⟨c.no 2 p.1,((c.put 2 p.1).dh p.2).2⟩=O
    simp only[jG,aM];exact⟨dG (gT c 2 p.1) (((Gr.dh (c.put 2 p.1) p.2).trans o).len 2),xG (KG (c.put 2 p.1) q) (o.len 0)⟩
   .exact s x a
  .show(_::_).length=_
   rw[dK,t];rfl
structure fJ (c:Cont):Prop where
 nm:kZ c
 le:c.E.length=c.SE.length
 ld:c.D.length=c.SD.length
 lm:c.M.length=c.SM.length
 ev:∀p∈c.E.zip c.SE,fZ (c.nl 0).length (c.nl 1).length (c.nl 2).length (c.nl 3).length p.1 p.2=O
 od:∀p∈c.D.zip c.SD,aY p.1.obj (c.nl 2).length=O/\fu (c.nl 0).length p.2=O
 ma:∀p∈c.M.zip c.SM,aY p.1.pred (c.nl 3).length=O/\aY p.1.obj (c.nl 2).length=O/\fu (c.nl 0).length p.2=O
 wa:∀x∈c.Q,aY x.eH (c.nl 1).length=O/\0<=x.bits/\x.bits<=15
theorem Cc {b:V}{l:G C}(m:fu a l=O)(o:a<=b):fu b l=O:=by
 simp only[fu,aM,dZ] at m ⊢;exact⟨m.1,λx p=>dG (m.2 x p) o⟩
theorem fJ.zero:fJ eZ:=⟨λ_=>⟨oI,λs hs=>(by cases hs)⟩,rfl,rfl,rfl,λp a=>(by cases a),λp a=>(by cases a),λp a=>(by cases a),λp a=>(by cases a)⟩
theorem fJ.grow {m:Cont}(l:fJ c)(g:Gr c m)(n:Nm c m)(k:kZ m):fJ m:=by
 refine⟨k,by rw[n.e,n.se];exact l.le,by rw[n.d,n.sd];exact l.ld,by rw[n.m,n.sm];exact l.lm,λp a=>?_,λp a=>?_,λp a=>?_,λx o=>?_⟩
 .rw[n.e,n.se] at a
  exact Q5 (l.ev p a) (g.len 0) (g.len 1) (g.len 2) (g.len 3)
 .rw[n.d,n.sd] at a
  have:=l.od p a;exact⟨dG this.1 (g.len 2),Cc this.2 (g.len 0)⟩
 .rw[n.m,n.sm] at a
  have:=l.ma p a;exact⟨dG this.1 (g.len 3),dG this.2.1 (g.len 2),Cc this.2.2 (g.len 0)⟩
 .rw[n.q] at o
  have:=l.wa x o;exact⟨dG this.1 (g.len 1),this.2⟩
theorem uy {l m:Type}{a:G l}{b:G m}(o:a.length=b.length)(x:l)(y:m):(a++[x]).zip (b++[y])=a.zip b++[(x,y)]:=by
 rw[List.zip_append o];rfl
theorem fJ.eU (a:fJ c)(e:EvC)(m:G Sn)(o:fZ (c.nl 0).length (c.nl 1).length (c.nl 2).length (c.nl 3).length e m=O):fJ (c.ev e m):=by
 refine⟨a.nm,?_,a.ld,a.lm,λp q=>?_,a.od,a.ma,a.wa⟩
 .show(c.E++[e]).length=(c.SE++[m]).length
  rw[bO,bO,a.le];rfl
 .have l:p∈(c.E++[e]).zip (c.SE++[m]):=q
  rw[uy a.le] at l;rcases cu.1 l with l|l
  .exact a.ev p l
  .rw[bX.1 l];exact o
theorem fJ.odA (a:fJ c)(x:aG)(m:G C)(o:aY x.obj (c.nl 2).length=O/\fu (c.nl 0).length m=O):fJ {c with D:=c.D++[x],SD:=c.SD++[m]}:=by
 refine⟨a.nm,a.le,?_,a.lm,a.ev,λp q=>?_,a.ma,a.wa⟩
 .show(c.D++[x]).length=(c.SD++[m]).length
  rw[bO,bO,a.ld];rfl
 .have l:p∈(c.D++[x]).zip (c.SD++[m]):=q
  rw[uy a.ld] at l;rcases cu.1 l with l|l
  .exact a.od p l
  .rw[bX.1 l];exact o
theorem fJ.maA (a:fJ c)(x:aK)(m:G C)(o:aY x.pred (c.nl 3).length=O/\aY x.obj (c.nl 2).length=O/\fu (c.nl 0).length m=O):fJ {c with M:=c.M++[x],SM:=c.SM++[m]}:=by
 refine⟨a.nm,a.le,a.ld,?_,a.ev,a.od,λp q=>?_,a.wa⟩
 .show(c.M++[x]).length=(c.SM++[m]).length
  rw[bO,bO,a.lm];rfl
 .have l:p∈(c.M++[x]).zip (c.SM++[m]):=q
  rw[uy a.lm] at l;rcases cu.1 l with l|l
  .exact a.ma p l
  .rw[bX.1 l];exact o
theorem fJ.waA (a:fJ c)(x:Wa)(m:aY x.eH (c.nl 1).length=O/\0<=x.bits/\x.bits<=15):fJ {c with Q:=c.Q++[x]}:=by
 refine⟨a.nm,a.le,a.ld,a.lm,a.ev,a.od,a.ma,λy l=>?_⟩;rcases cu.1 l with l|l
 .exact a.wa y l
 .rw[bX.1 l];exact m
theorem yL {l:G Bs}(m:l.length=2):∃a b,l=[a,b]:=by
 match l,m with
 |[a,b],_=>exact⟨a,b,rfl⟩
theorem vE {m:Type}{l:G m}(o:l.length=1):∃a,l=[a]:=by
 match l,o with
 |[a],_=>exact⟨a,rfl⟩
theorem fJ.add (q:fJ c){l:aJ}(hl:eF l)(hf:aI (aT c l)):fJ (aT c l):=by
 obtain⟨kd,m,lv,t,fi,bt⟩:=l;obtain⟨r,hv,hc⟩:=hl;simp only at r hv hc;rcases hc with⟨rfl,o,u,⟨lw,rfl,A,Q⟩,E,h6⟩|⟨rfl,o,u,A,Q,E⟩|⟨rfl,o,u,A,Q,E⟩|⟨rfl,⟨cc,o,u,γ⟩,_,A,Q,E⟩|⟨rfl,o,u,A,Q,E⟩|⟨rfl,o,u,A,Q,E⟩|⟨rfl,⟨cc,o,γ⟩,u,A,Q,E⟩|⟨rfl,⟨cc,o,γ⟩,u,A,_,E⟩|⟨rfl,o,u,A,Q,⟨bb,rfl,E⟩⟩
 .obtain⟨a,b,rfl⟩:=yL o
  have g:=(Gr.put c 0 a).trans (Gr.put (c.put 0 a) 1 b);have k:=(q.nm.put 0 (r a ak)).put 1 (r b ak);refine(q.grow g ((Nm.put c 0 a).trans (Nm.put _ 1 b)) k).eU _ _ ?_;have s:=dG (gT c 0 a) ((Gr.put (c.put 0 a) 1 b).len 0);have y:=gT (c.put 0 a) 1 b;simp[fZ,hasB,gD,fO,s,y];omega
 .obtain⟨a,b,rfl⟩:=yL o
  have g:=(Gr.put c 0 a).trans (Gr.put (c.put 0 a) 2 b);have k:=(q.nm.put 0 (r a ak)).put 2 (r b ak);refine(q.grow g ((Nm.put c 0 a).trans (Nm.put _ 2 b)) k).eU _ _ ?_;have s:=dG (gT c 0 a) ((Gr.put (c.put 0 a) 2 b).len 0);have y:=gT (c.put 0 a) 2 b;have hk:((fC c.E (c.no 0 a) ((c.put 0 a).no 2 b):C)+1)<=999:=hf.2.2.2.2.2 _ (jq _ fQ) rfl;have ε:¬((fC c.E (c.no 0 a) ((c.put 0 a).no 2 b):C)+1)=0:=by omega
  have ζ:0<((fC c.E (c.no 0 a) ((c.put 0 a).no 2 b):C)+1):=by omega
  simp[fZ,hasB,gD,gq,s,y,hk,ε,ζ]
 .obtain⟨a,b,rfl⟩:=yL o
  obtain⟨v,rfl⟩:=vE u;have δ:=hv v ak;have g:=((Gr.put c 0 a).trans (Gr.put (c.put 0 a) 2 b)).trans (Gr.dh _ v);have k:=((q.nm.put 0 (r a ak)).put 2 (r b ak)).dh δ;refine(q.grow g (((Nm.put c 0 a).trans (Nm.put _ 2 b)).trans (Nm.dh _ v)) k).eU _ _ ?_;have s:=dG (gT c 0 a) (((Gr.put (c.put 0 a) 2 b).trans (Gr.dh _ v)).len 0);have y:=dG (gT (c.put 0 a) 2 b) ((Gr.dh _ v).len 2);have K:=KG ((c.put 0 a).put 2 b) δ;simp[fZ,hasB,gD,s,y,K]
 .match m,o with
  |a::b::m,o=>
  have hz:∀p∈m.zip t,bG ⟨p.1.toArray⟩=O/\jK p.2:=λp Z=>⟨r _ (d9 _ (d9 _ (BF Z).1)),hv _ (BF Z).2⟩
  have g:=((Gr.put c 0 a).trans (Gr.put (c.put 0 a) 3 b)).trans (Gr.sc (m.zip t) _);have k:=kZ.sc (m.zip t) ((q.nm.put 0 (r a ak)).put 3 (r b ak)) hz;refine(q.grow g (((Nm.put c 0 a).trans (Nm.put _ 3 b)).trans (Nm.sc (m.zip t) _)) k).eU _ _ ?_;have s:=dG (gT c 0 a) (((Gr.put (c.put 0 a) 3 b).trans (Gr.sc (m.zip t) _)).len 0);have y:=dG (gT (c.put 0 a) 3 b) ((Gr.sc (m.zip t) _).len 3);obtain⟨K,R⟩:=Te (m.zip t) ((c.put 0 a).put 3 b) (λp Z=>(hz p Z).2);have t5:(((c.put 0 a).put 3 b).sc (m.zip t)).2.length<=40:=by rw[R,xD];omega
  have t6:(((c.put 0 a).put 3 b).sc (m.zip t)).2.all (jG ((((c.put 0 a).put 3 b).sc (m.zip t)).1.nl 0).length ((((c.put 0 a).put 3 b).sc (m.zip t)).1.nl 2).length)=O:=dZ.2 K;simp only[fZ,hasB,gD];simp[s,y,t5];exact λx S=>K x S
 .obtain⟨a,rfl⟩:=vE o
  refine(q.grow (Gr.put c 0 a) (Nm.put c 0 a) (q.nm.put 0 (r a ak))).eU _ _ ?_;have s:=gT c 0 a;simp[fZ,hasB,gD,s]
 .obtain⟨a,rfl⟩:=vE o
  refine(q.grow (Gr.put c 0 a) (Nm.put c 0 a) (q.nm.put 0 (r a ak))).eU _ _ ?_;have s:=gT c 0 a;simp[fZ,hasB,gD,s]
 .match m,o with
  |a::m,o=>
  have g:=(Gr.put c 2 a).trans (Gr.ts m (c.put 2 a));have k:=kZ.ts m (q.nm.put 2 (r a ak)) (λx S=>r x (d9 _ S));have n:=(Nm.put c 2 a).trans (Nm.ts m (c.put 2 a));have s:=dG (gT c 2 a) ((Gr.ts m (c.put 2 a)).len 2);obtain⟨K,R⟩:=Mc m (c.put 2 a);have:=(q.grow g n k).odA ⟨c.no 2 a,H,0,0⟩ ((c.put 2 a).ts m).2 ⟨s,by simp only[fu,aM,aV,dZ];exact⟨by rw[R];simp only[dK] at o;omega,K⟩⟩;rw[n.d,n.sd] at this;exact this
 .match m,o with
  |a::b::m,o=>
  have g:=((Gr.put c 3 a).trans (Gr.put (c.put 3 a) 2 b)).trans (Gr.ts m _);have k:=kZ.ts m ((q.nm.put 3 (r a ak)).put 2 (r b ak)) (λx S=>r x (d9 _ (d9 _ S)));have n:=((Nm.put c 3 a).trans (Nm.put (c.put 3 a) 2 b)).trans (Nm.ts m _);have s:=dG (gT c 3 a) (((Gr.put (c.put 3 a) 2 b).trans (Gr.ts m _)).len 3);have y:=dG (gT (c.put 3 a) 2 b) ((Gr.ts m _).len 2);obtain⟨K,R⟩:=Mc m ((c.put 3 a).put 2 b);have:=(q.grow g n k).maA ⟨c.no 3 a,(c.put 3 a).no 2 b,fi,H,0,0⟩ (((c.put 3 a).put 2 b).ts m).2 ⟨s,y,by simp only[fu,aM,aV,dZ];exact⟨by rw[R];simp only[dK] at o;omega,K⟩⟩;rw[n.m,n.sm] at this;exact this
 .obtain⟨a,rfl⟩:=vE o
  have n:=Nm.put c 1 a;have:=(q.grow (Gr.put c 1 a) n (q.nm.put 1 (r a ak))).waA ⟨c.no 1 a,(bb:C)⟩ ⟨gT c 1 a,by simp only[];omega,by simp only[];omega⟩;rw[n.q] at this;exact this
def aZ (c:Cont):G (C × C):=
 (c.E.zip c.SE).flatMap (λp=>iG p.1 p.2)++(c.D.zip c.SD).flatMap (λp=>nE p.1 p.2)++(c.M.zip c.SM).flatMap (λp=>l9 p.1 p.2)++c.Q.flatMap mR
def dY (l:G C)(n:C):C:=if n∈l then(l.idxOf n:C) else -1
def kS (F:C->G C)(v:kg):kg:=if 0<v.k then⟨dY (F 0) v.t,v.k⟩ else v
def xH (F:C->G C)(s:Sn):Sn:=⟨dY (F 2) s.obj,kS F s.v⟩
def eU (F:C->G C)(e:EvC):EvC:=
 {zZ with kind:=e.kind,t:=dY (F 0) e.t,lvl:=e.lvl,eH:=if e.kind=1 then dY (F 1) e.eH else 0,obj:=if e.kind=2\/e.kind=3 then dY (F 2) e.obj else 0,v:=if e.kind=2\/e.kind=3 then kS F e.v else⟨0,0⟩,pred:=if e.kind=4 then dY (F 3) e.pred else 0}
def aP (l:G Bs)(n:C):Bs:=l.getD n.toNat []
def rF (F:C->G C)(c:Cont):Cont:=
 ⟨λi=>(F (i:C)).map (aP (c.nl i)),c.E.map (eU F),c.SE.map (λl=>l.map (xH F)),c.D.map (λx=>⟨dY (F 2) x.obj,H,0,0⟩),c.SD.map (λl=>l.map (dY (F 0))),
 c.M.map (λx=>⟨dY (F 3) x.pred,dY (F 2) x.obj,x.first,H,0,0⟩),c.SM.map (λl=>l.map (dY (F 0))),c.Q.map (λx=>⟨dY (F 1) x.eH,x.bits⟩)⟩
def eG (c:Cont):Cont:=rF (bV (aZ c)) c
def vJ (F:C->G C)(x:C × C):C × C:=(x.1,dY (F x.1) x.2)
variable{l:G C}
theorem EI {g:G C}{n:C}(a:l<+:g)(m:n∈l):dY g n=(l.idxOf n:C):=by
 unfold dY;rw[av (a.subset m)];obtain⟨t,rfl⟩:=a;rw[List.idxOf_append,av m]
theorem KH {g:G C}{n:C}(a:l++[n]<+:g)(m:n∉l):dY g n=(l.length:C):=by
 rw[EI a ak,List.idxOf_append,au m];simp
theorem Ur (s:C)(a:C->G C)(xs:G (C × C)):bV xs s<+:a s->bV (xs.map (vJ a)) s=up (bV xs s).length:=by
 refine uq (P:=λxs=>bV xs s<+:a s->bV (xs.map (vJ a)) s=up (bV xs s).length) (λ_=>rfl) (λxs x p l=>?_) xs;have p:=p ((vX xs x s).trans l);rw[eY,rz,kP,p];by_cases m:x.1=s
 .have q:(vJ a x).1=s:=m
  have t:(vJ a x).2=dY (a s) x.2:=by unfold vJ;rw[m]
  rw[av q,t];have e:bV (xs++[x]) s=kQ (bV xs s) x.2:=by rw[kP,av m]
  rw[e] at l ⊢;by_cases o:x.2∈bV xs s
  .have r:kQ (bV xs s) x.2=bV xs s:=by unfold kQ;rw[av o]
   rw[r] at l ⊢;rw[EI l o];unfold kQ;rw[av ((wF (zC _)).2 (Int.ofNat_lt.2 (xI o)))]
  .have r:kQ (bV xs s) x.2=bV xs s++[x.2]:=by unfold kQ;rw[au o]
   rw[r] at l ⊢;rw[KH l o];unfold kQ;rw[au (λh=>by have:=(wF (zC _)).1 h;omega),bO,kG,Kn]
 .have q:¬(vJ a x).1=s:=m
  rw[au q,kP,au m]
theorem Ig (F:C->G C)(v:kg):jm (kS F v)=(jm v).map (vJ F):=by
 unfold jm kS;by_cases h:0<v.k
 .rw[av h,av h,av h];rfl
 .rw[au h,au h];rfl
theorem Us (F:C->G C)(l:G Sn):(l.map (xH F)).flatMap (λs=>(2,s.obj)::jm s.v)=(l.flatMap (λs=>(2,s.obj)::jm s.v)).map (vJ F):=by
 induction l with
 |nil=>rfl
 |cons s l a=>
  rw[dX,gZ,gZ,eY,a]
  congr 1
  rw[dX,<-Ig];rfl
theorem Ut (F:C->G C)(e:EvC)(l:G Sn):iG (eU F e) (l.map (xH F))=(iG e l).map (vJ F):=by
 have p:(eU F e).kind=e.kind:=rfl;unfold iG;rw[Us,p,eY,dX]
 congr 2
 by_cases m:e.kind=1
 .rw[av m,av m]
  have:(eU F e).eH=dY (F 1) e.eH:=by unfold eU;simp only[av m]
  rw[this];rfl
 .rw[au m,au m]
  by_cases a:e.kind=2\/e.kind=3
  .rw[av a,av a]
   have q:(eU F e).obj=dY (F 2) e.obj:=by unfold eU;simp only[av a]
   have r:(eU F e).v=kS F e.v:=by unfold eU;simp only[av a]
   rw[q,r,Ig];rfl
  .rw[au a,au a]
   by_cases o:e.kind=4
   .rw[av o,av o]
    have:(eU F e).pred=dY (F 3) e.pred:=by unfold eU;simp only[av o]
    rw[this];rfl
   .rw[au o,au o];rfl
theorem zD {l m γ δ:Type}(f:l->γ)(g:m->δ)(N:γ->δ->G (C × C))(K:l->m->G (C × C))(F:C->G C)(o:∀a b,N (f a) (g b)=(K a b).map (vJ F)):
  ∀(xs:G l)(ys:G m),((xs.map f).zip (ys.map g)).flatMap (λp=>N p.1 p.2)=((xs.zip ys).flatMap (λp=>K p.1 p.2)).map (vJ F)
 |[],_=>by simp
 |_::_,[]=>by simp
 |a::xs,b::ys=>by
  rw[dX,dX,List.zip_cons_cons,List.zip_cons_cons,gZ,gZ,eY,zD f g N K F o xs ys,o]
theorem Oz (F:C->G C)(c:Cont):aZ (rF F c)=(aZ c).map (vJ F):=by
 unfold aZ;rw[eY,eY,eY];refine congr (bJ _ (congr (bJ _ (congr (bJ _ ?_) ?_)) ?_)) ?_
 .exact zD (eU F) (λl=>l.map (xH F)) iG iG F (Ut F) c.E c.SE
 .refine zD (λx:aG=>(⟨dY (F 2) x.obj,H,0,0⟩:aG)) (λl=>l.map (dY (F 0))) nE nE F (λa b=>?_) c.D c.SD
  unfold nE;rw[dX,iF,iF];rfl
 .refine zD (λx:aK=>(⟨dY (F 3) x.pred,dY (F 2) x.obj,x.first,H,0,0⟩:aK)) (λl=>l.map (dY (F 0))) l9 l9 F (λa b=>?_) c.M c.SM
  unfold l9;rw[dX,dX,iF,iF];rfl
 .show(c.Q.map _).flatMap mR=_
  induction c.Q with
  |nil=>rfl
  |cons x q m=>rw[dX,gZ,gZ,eY,m];rfl
theorem Fh (c:Cont)(i:V):bV (aZ (eG c)) (i:C)=up ((eG c).nl i).length:=by
 unfold eG;rw[Oz,Ur _ _ _ (gH _)];show up _=up ((bV (aZ c) (i:C)).map _).length;rw[bg]
theorem Ih (l:G C)(n:C):n∈kQ l n:=by
 unfold kQ
 split
 .assumption
 .simp
theorem BG {s n:C}(xs:G (C × C)):(s,n)∈xs->n∈bV xs s:=by
 refine uq (P:=λxs=>(s,n)∈xs->n∈bV xs s) (λh=>by cases h) (λxs x a h=>?_) xs;rcases cu.1 h with h|h
 .exact(vX xs x s).subset (a h)
 .obtain rfl:x=(s,n):=(bX.1 h).symm
  rw[kP,av rfl];exact Ih _ _
theorem EJ {s n:C}(xs:G (C × C)):n∈bV xs s->(s,n)∈xs:=by
 refine uq (P:=λxs=>n∈bV xs s->(s,n)∈xs) (λh=>by cases h) (λxs x a h=>?_) xs;rw[kP] at h;by_cases l:x.1=s
 .rw[av l] at h
  unfold kQ at h
  split at h
  .exact iw _ (a h)
  .rcases cu.1 h with h|h
   .exact iw _ (a h)
   .have:n=x.2:=by simpa using h
    refine jq _ ?_;rw[this,<-l];simp
 .rw[au l] at h
  exact iw _ (a h)
theorem AJ (s:C)(xs:G (C × C)):(bV xs s).Nodup:=by
 refine uq (P:=λxs=>(bV xs s).Nodup) oI (λxs x a=>?_) xs;rw[kP]
 split
 .exact D5 a
 .exact a
variable{v:kg}{nt:V}
theorem vF (a:gq v nt=O):∀x∈jm v,x.1=0/\aY x.2 nt=O:=λx l=>by
 unfold jm at l
 split at l
 .rename_i m
  rw[bX.1 l];unfold gq at a;rw[au ah] at a;simp only[aM] at a;exact⟨rfl,a.1.1⟩
 .cases l
theorem uZ (r:fJ c):∀x∈aZ c,∃s:V,s<4/\x.1=(s:C)/\aY x.2 (c.nl s).length=O:=by
 intro x a;unfold aZ at a;rcases cu.1 a with a|a
 .rcases cu.1 a with a|a
  .rcases cu.1 a with a|a
   .obtain⟨p,o,a⟩:=kH.1 a
    have v:=r.ev p o;obtain⟨e,l⟩:=p;simp only[fZ,aM,aV] at v;obtain⟨⟨⟨⟨_,_⟩,A⟩,m⟩,hb⟩:=v;unfold iG at a;rcases cu.1 a with a|a
    .rcases dO.1 a with rfl|a
     .exact⟨0,by omega,rfl,A⟩
     .unfold hasB at m
      split at a
      .rename_i k;rw[av k] at m
       simp only[aM] at m;rw[bX.1 a];exact⟨1,by omega,rfl,m.1⟩
      .rename_i E;rw[au E] at m
       split at a
       .rename_i k
        have y:aY e.obj (c.nl 2).length=O/\gq e.v (c.nl 0).length=O:=by
         by_cases q:e.kind=2
         .rw[av q] at m
          simp only[aM] at m;exact⟨m.1.1.1,m.1.1.2⟩
         .rw[au q,av (k.resolve_left q)] at m
          simp only[aM] at m;exact m
        rcases dO.1 a with rfl|a
        .exact⟨2,by omega,rfl,y.1⟩
        .have:=vF y.2 x a
         exact⟨0,by omega,this.1,this.2⟩
       .rename_i q
        split at a
        .rename_i K
         rw[au (λe=>q (.inl e)),au (λe=>q (.inr e)),av K] at m;simp only[aM] at m;rw[bX.1 a];exact⟨3,by omega,rfl,m.1.1⟩
        .cases a
    .obtain⟨s,hs,a⟩:=kH.1 a
     have Q:e.kind=4:=by
      apply Classical.byContradiction
      intro R;have S:l=[]:=by
       unfold gD at hb
       split at hb
       .simp only[aM,aV] at hb;exact hb.2
       .split at hb
        .simp only[aM,aV] at hb;exact hb.2
        .first|(rw[au R] at hb)|skip
         simp only[aM,aV] at hb;exact hb.2
      subst S;cases hs
     unfold hasB at m;rw[au ah,au ah,au ah,av Q] at m;simp only[aM,dZ] at m;have t:=m.2 s hs;simp only[jG,aM] at t;rcases dO.1 a with rfl|a
     .exact⟨2,by omega,rfl,t.1⟩
     .have:=vF t.2 x a
      exact⟨0,by omega,this.1,this.2⟩
   .obtain⟨p,o,a⟩:=kH.1 a
    have ho:=r.od p o;unfold nE at a;rcases dO.1 a with rfl|a
    .exact⟨2,by omega,rfl,ho.1⟩
    .obtain⟨d,u,rfl⟩:=bS.1 a
     have:=ho.2;simp only[fu,aM,dZ] at this;exact⟨0,by omega,rfl,this.2 d u⟩
  .obtain⟨p,o,a⟩:=kH.1 a
   have ho:=r.ma p o;unfold l9 at a;rcases dO.1 a with rfl|a
   .exact⟨3,by omega,rfl,ho.1⟩
   .rcases dO.1 a with rfl|a
    .exact⟨2,by omega,rfl,ho.2.1⟩
    .obtain⟨d,u,rfl⟩:=bS.1 a
     have:=ho.2.2;simp only[fu,aM,dZ] at this;exact⟨0,by omega,rfl,this.2 d u⟩
 .obtain⟨p,o,a⟩:=kH.1 a
  have ho:=r.wa p o;unfold mR at a;rw[bX.1 a];exact⟨1,by omega,rfl,ho.1⟩
theorem mg {n:C}(a:n∈l):aY (dY l n) l.length=O:=by
 unfold dY;rw[av a];have:=xI a;unfold aY;exact Bool.and_eq_true_iff.2 ⟨bT (zC _),bT (Int.ofNat_lt.2 this)⟩
theorem wJ {n:C}{m:V}(a:aY n m=O):∃k:V,n=(k:C)/\k<m:=by
 simp only[aY,aM,aV] at a;exact⟨n.toNat,by omega,by omega⟩
theorem oD (l:G Bs){k:V}(a:k<l.length):aP l (k:C)=l[k]:=by
 unfold aP;rw[jL,List.getD_eq_getElem?_getD,cB a];rfl
variable{i j:V}
theorem CS {l:G Bs}(a:l.Nodup)(m:i<l.length)(o:j<l.length)(e:l[i]=l[j]):i=j:=by
 rcases Nat.lt_trichotomy i j with h|h|h
 .exact absurd e (BB.1 a i j m o h)
 .exact h
 .exact absurd e.symm (BB.1 a j i o m h)
theorem Q6 {l:G Bs}(q:l.Nodup){ns:G C}(o:∀n∈ns,aY n l.length=O)(r:ns.Nodup):(ns.map (aP l)).Nodup/\∀s∈ns.map (aP l),s∈l:=by
 refine⟨?_,λs hs=>?_⟩
 .refine List.pairwise_map.2 (List.Pairwise.imp_of_mem (fun {a b} ha hb t e=>t ?_) r)
  obtain⟨i,rfl,m⟩:=wJ (o a ha);obtain⟨j,rfl,p⟩:=wJ (o b hb);rw[oD l m,oD l p] at e;rw[CS q m p e]
 .obtain⟨n,u,rfl⟩:=bS.1 hs
  obtain⟨i,rfl,m⟩:=wJ (o n u);rw[oD l m];exact List.getElem_mem m
theorem kZ.number (a:fJ c):kZ (eG c):=λi=>by
 show((bV (aZ c) (i:C)).map (aP (c.nl i))).Nodup/\∀s∈(bV (aZ c) (i:C)).map (aP (c.nl i)),bG ⟨s.toArray⟩=O;have l:∀n∈bV (aZ c) (i:C),aY n (c.nl i).length=O:=λn hn=>by
  obtain⟨s,_,hs,l⟩:=uZ a _ (EJ _ hn);have:i=s:=Int.ofNat_inj.1 hs;subst this;exact l
 obtain⟨m,o⟩:=Q6 (a.nm i).1 l (AJ _ _);exact⟨m,λs hs=>(a.nm i).2 s (o s hs)⟩
variable{F:C->G C}
theorem Ii (a:gq v nt=O)(o:∀x∈jm v,x.2∈F 0):gq (kS F v) (F 0).length=O:=by
 unfold kS;by_cases l:0<v.k
 .rw[av l]
  unfold gq at a ⊢;rw[au ah] at a;rw[au (by simp only[];omega)];simp only[aM] at a ⊢;have:v.t∈F 0:=o (0,v.t) (by unfold jm;rw[av l];simp);exact⟨⟨mg this,a.1.2⟩,a.2⟩
 .rw[au l]
  unfold gq at a ⊢;by_cases m:v.k=0
  .rw[av m] at a ⊢;exact a
  .rw[au m] at a
   simp only[aM,aV] at a;omega
theorem YJ {s:Sn}(a:jG nt R s=O)(l:s.obj∈F 2)(m:∀x∈jm s.v,x.2∈F 0):jG (F 0).length (F 2).length (xH F s)=O:=by
 simp only[jG,aM] at a ⊢;exact⟨mg l,Ii a.2 m⟩
variable{ns:V}
theorem YK {e:EvC}{l:G Sn}{Z:V}(K:fZ nt ns R Z e l=O)(m:∀x∈iG e l,x.2∈F x.1):fZ (F 0).length (F 1).length (F 2).length (F 3).length (eU F e) (l.map (xH F))=O:=by
 obtain⟨q,t,γ,ζ,Q,v,δ,sa,sn,sc⟩:=e;simp only[fZ,aM,aV] at K;obtain⟨⟨⟨⟨h1,h7⟩,ht⟩,a⟩,hb⟩:=K;have ε:t∈F 0:=m (0,t) (by simp[iG]);have r:=mg ε;have y:q=1\/q=2\/q=3\/q=4\/q=5\/q=6:=by omega
 rcases y with rfl|rfl|rfl|rfl|rfl|rfl
 .simp[hasB,gD] at a hb
  have p:=mg (m (1,γ) (by simp[iG]));obtain⟨⟨⟨_,_⟩,_⟩,rfl⟩:=hb;simp[fZ,hasB,gD,eU,r,p,a.2]
 .simp[hasB,gD] at a hb
  have p:=mg (m (2,Q) (by simp[iG]));have A:=Ii (F:=F) a.1.1.2 (λx o=>by have:=m x (by simp[iG,o]);have u:=(vF a.1.1.2 x o).1;rw[u] at this;exact this);obtain⟨⟨⟨_,rfl⟩,_⟩,rfl⟩:=hb;have y:0<v.k:=a.2;have S:(kS F v).t=dY (F 0) t/\0<(kS F v).k:=by unfold kS;rw[av y];exact⟨by rw[a.1.2],y⟩
  simp[fZ,hasB,gD,eU,r,p,A,S.1,S.2]
 .simp[hasB,gD] at a hb
  have p:=mg (m (2,Q) (by simp[iG]));have A:=Ii (F:=F) a.2 (λx o=>by have:=m x (by simp[iG,o]);have u:=(vF a.2 x o).1;rw[u] at this;exact this);obtain⟨⟨⟨_,rfl⟩,_⟩,rfl⟩:=hb;simp[fZ,hasB,gD,eU,r,p,A]
 .simp[hasB,gD] at a hb
  have p:=mg (m (3,δ) (by simp[iG]));obtain⟨⟨⟨_,rfl⟩,_⟩,_⟩:=hb;have hs:∀s∈l,jG (F 0).length (F 2).length (xH F s)=O:=λs hs=>by
   have E:=a.2 s hs;refine YJ E (m (2,s.obj) ?_) (λx o=>?_)
   .unfold iG;refine jq _ (kH.2 ⟨s,hs,by simp⟩)
   .have:=m x (by unfold iG;exact jq _ (kH.2 ⟨s,hs,d9 _ o⟩))
    simp only[jG,aM] at E;have u:=(vF E.2 x o).1;rw[u] at this;exact this
  simp[fZ,hasB,gD,eU,r,p,a.1.2];exact hs
 .simp[hasB,gD] at a hb
  obtain⟨⟨⟨⟨⟨_,rfl⟩,_⟩,_⟩,_⟩,rfl⟩:=hb;simp[fZ,hasB,gD,eU,r]
 .simp[hasB,gD] at a hb
  obtain⟨⟨⟨⟨⟨_,rfl⟩,_⟩,_⟩,_⟩,rfl⟩:=hb;simp[fZ,hasB,gD,eU,r]
theorem CU {a l γ δ:Type}(f:a->γ)(g:l->δ)(xs:G a)(ys:G l):(xs.map f).zip (ys.map g)=(xs.zip ys).map (λp=>(f p.1,g p.2)):=by
 rw[List.zip_map];rfl
theorem Ij (a:fu nt l=O)(m:∀d∈l,d∈F 0):fu (F 0).length (l.map (dY (F 0)))=O:=by
 simp only[fu,aM,dZ,aV,bg] at a ⊢;refine⟨a.1,λx o=>?_⟩;obtain⟨d,p,rfl⟩:=bS.1 o;exact mg (m d p)
theorem fJ.number (o:fJ c):fJ (eG c):=by
 have t:∀x∈aZ c,x.2∈bV (aZ c) x.1:=λx a=>BG _ a
 have u:∀i:V,((eG c).nl i).length=(bV (aZ c) (i:C)).length:=λi=>bg _
 have v:=u 0;have E:=u 1;have y:=u 2;have K:=u 3;refine⟨kZ.number o,?_,?_,?_,λp s=>?_,λp s=>?_,λp s=>?_,λx a=>?_⟩
 .show(c.E.map _).length=(c.SE.map _).length
  rw[bg,bg];exact o.le
 .show(c.D.map _).length=(c.SD.map _).length
  rw[bg,bg];exact o.ld
 .show(c.M.map _).length=(c.SM.map _).length
  rw[bg,bg];exact o.lm
 .have r:p∈(c.E.map (Yd.eU (bV (aZ c)))).zip (c.SE.map (λl=>l.map (xH (bV (aZ c))))):=s
  rw[CU] at r;obtain⟨q,m,rfl⟩:=bS.1 r;rw[v,E,y,K];exact YK (o.ev q m) (λx a=>t x (by unfold aZ;exact iw _ (iw _ (iw _ (kH.2 ⟨q,m,a⟩)))))
 .have r:p∈(c.D.map (λx=>(⟨dY (bV (aZ c) 2) x.obj,H,0,0⟩:aG))).zip (c.SD.map (λl=>l.map (dY (bV (aZ c) 0)))):=s
  rw[CU] at r;obtain⟨q,m,rfl⟩:=bS.1 r;have a:=λx (a:x∈nE q.1 q.2)=>t x (by unfold aZ;exact iw _ (iw _ (jq _ (kH.2 ⟨q,m,a⟩))))
  rw[v,y];exact⟨mg (a (2,q.1.obj) (by simp[nE])),Ij (o.od q m).2 (λd A=>a (0,d) (by simp[nE,A]))⟩
 .have r:p∈(c.M.map (λx=>(⟨dY (bV (aZ c) 3) x.pred,dY (bV (aZ c) 2) x.obj,x.first,H,0,0⟩:aK))).zip (c.SM.map (λl=>l.map (dY (bV (aZ c) 0)))):=s
  rw[CU] at r;obtain⟨q,m,rfl⟩:=bS.1 r;have a:=λx (a:x∈l9 q.1 q.2)=>t x (by unfold aZ;exact iw _ (jq _ (kH.2 ⟨q,m,a⟩)))
  rw[v,y,K];exact⟨mg (a (3,q.1.pred) (by simp[l9])),mg (a (2,q.1.obj) (by simp[l9])),Ij (o.ma q m).2.2 (λd A=>a (0,d) (by simp[l9,A]))⟩
 .have Q:x∈c.Q.map (λx=>(⟨dY (bV (aZ c) 1) x.eH,x.bits⟩:Wa)):=a
  obtain⟨q,m,rfl⟩:=bS.1 Q;have a:=λx (a:x∈mR q)=>t x (by unfold aZ;exact jq _ (kH.2 ⟨q,m,a⟩))
  rw[E];exact⟨mg (a (1,q.eH) (by simp[mR])),(o.wa q m).2⟩
def um (a:Cont):Prop:=∀i:V,i<4->bV (aZ a) (i:C)=up (a.nl i).length
def lS (a:Cont)(xs:G (C × C))(c:Cont):Prop:=∀i:V,c.nl i=(a.nl i).take (bV xs (i:C)).length
theorem wB {xs ys:G (C × C)}(s:C)(a:xs<+:ys):bV xs s<+:bV ys s:=by
 obtain⟨t,rfl⟩:=a;refine uq (P:=λt=>bV xs s<+:bV (xs++t) s) (by rw[dm];exact gH _) (λt x l=>?_) t;rw[<-dw];exact l.trans (vX _ _ _)
theorem Wh {n:V}(a:l<+:up n):l=up l.length:=by
 have o:=List.prefix_iff_eq_take.1 a;have m:=a.length_le;rw[ny] at m;have p:(up n).take l.length=up l.length:=by
  unfold up;rw[<-List.map_take,List.take_range,nX m]
 rw[<-p];exact o
theorem OA {l:G Bs}(q:l.Nodup){k:V}(a:k<l.length){m:V}(r:k<m):(l.take m).idxOf l[k]=k:=by
 have t:k<(l.take m).length:=by rw[fB];omega
 have s:l[k]∈l.take m:=by
  refine dA (i:=k) ?_;rw[List.getElem?_take_of_lt r,cB a]
 have o:=xI s;have p:=List.getElem_idxOf o;rw[List.getElem_take] at p;exact CS q (by rw[fB] at o;omega) a p
variable{a:Cont}
theorem lS.say {xs:G (C × C)}(Q:um a)(hn:∀i,(a.nl i).Nodup)(v:lS a xs c){s:V}(R:s<4){n:C}(S:xs++[((s:C),n)]<+:aZ a):
  lS a (xs++[((s:C),n)]) (c.put s (aP (a.nl s) n))/\c.no s (aP (a.nl s) n)=n:=by
 obtain⟨l,p⟩:∃l,l=a.nl s:=⟨_,rfl⟩;have u:=wB (s:C) S;rw[Q s R] at u;have A:=wB (s:C) ((eu xs [((s:C),n)]).trans S);rw[Q s R] at A;obtain⟨m,Z⟩:∃m,m=(bV xs (s:C)).length:=⟨_,rfl⟩;have hu:bV xs (s:C)=up m:=by rw[Z];exact Wh A
 have E:bV (xs++[((s:C),n)]) (s:C)=kQ (up m) n:=by rw[kP,av rfl,hu]
 rw[E] at u;obtain⟨k,rfl,r⟩:∃k:V,n=(k:C)/\k<l.length:=by
  have o:=u.subset (Ih (up m) n);unfold up at o;obtain⟨k,r,e⟩:=bS.1 o;exact⟨k,e.symm,by rw[p];exact oG.1 r⟩
 have K:=hn s;rw[<-p] at K;have hc:c.nl s=l.take m:=by rw[p,Z];exact v s
 have κ:m<=l.length:=by
  have:=A.length_le;rw[ny,hu,ny] at this;rw[p];exact this
 have η:aP (a.nl s) (k:C)=l[k]:=by rw[<-p];exact oD l r
 rw[η];have γ:∀i:V,i≠s->(c.put s l[k]).nl i=(a.nl i).take (bV (xs++[((s:C),(k:C))]) (i:C)).length:=λi q=>by
  have e1:(c.put s l[k]).nl i=c.nl i:=au q;have e2:bV (xs++[((s:C),(k:C))]) (i:C)=bV xs (i:C):=by rw[kP,au (λe=>q (Int.ofNat_inj.1 e).symm)]
  rw[e1,e2];exact v i
 have δ:(c.put s l[k]).nl s=dJ (l.take m) l[k]:=by
  have:(c.put s l[k]).nl s=dJ (c.nl s) l[k]:=av rfl;rw[this,hc]
 have ε:c.no s l[k]=(qd (l.take m) l[k]:C):=by unfold Cont.no;rw[hc]
 rcases iM k m with x|x
 .have y:l[k]∈l.take m:=by
   refine dA (i:=k) ?_;rw[List.getElem?_take_of_lt x,cB r]
  refine⟨λi=>?_,?_⟩
  .by_cases q:i=s
   .subst q
    have e:kQ (up m) (k:C)=up m:=by unfold kQ;rw[av ((wF (zC _)).2 (Int.ofNat_lt.2 x))]
    rw[δ,BD y,E,e,ny,p]
   .exact γ i q
  .rw[ε,Ov y,OA K r x]
 .have e:kQ (up m) (k:C)=up m++[(k:C)]:=by unfold kQ;rw[au (λv=>by have:=(wF (zC k)).1 v;omega)]
  rw[e] at u;have θ:k=m:=by
   obtain⟨t,ht⟩:=u;have o:(up (a.nl s).length)[m]?=I (k:C):=by
    rw[<-ht,dw,pG (by rw[ny];exact aB _),ny,Nat.sub_self];rfl
   have ι:m<(a.nl s).length:=by rw[<-p];omega
   rw[N8 ι] at o;injection o with o;exact(Int.ofNat_inj.1 o).symm
  subst θ;have ζ:l[k]∉l.take k:=λy=>by
   obtain⟨j,hj⟩:=List.getElem?_of_mem y;obtain⟨o,h2⟩:=bK.1 hj;rw[fB] at o;rw[List.getElem_take] at h2;have:=CS K ah r h2;omega
  refine⟨λi=>?_,?_⟩
  .by_cases q:i=s
   .subst q
    rw[δ,zx ζ,E,e,bO,ny,kG,<-p,ig,cB r];rfl
   .exact γ i q
  .rw[ε,KE ζ,fB,nX ah]
def jH (l:G Bs)(v:kg):To:=if v.k=0 then⟨[],0⟩ else⟨aP l v.t,v.k⟩
section
variable {d:Cont}(ho:um d)(hn:∀i,(d.nl i).Nodup)
include ho hn
theorem lS.Wi {xs:G (C × C)}(m:lS d xs c)(a:gq v nt=O)(l:xs++jm v<+:aZ d):lS d (xs++jm v) (c.dh (jH (d.nl 0) v)).1/\(c.dh (jH (d.nl 0) v)).2=v:=by
 obtain⟨t,k⟩:=v;unfold gq at a;unfold jm at l ⊢;unfold Cont.dh jH;by_cases o:k=0
 .subst o
  simp only[bR,aV] at a;subst a;simp only[bR,Int.lt_irrefl,fG,dm];exact⟨m,trivial⟩
 .simp only[au o] at a ⊢
  simp only[aM,aV] at a;simp only[av a.1.2] at l ⊢;obtain⟨p,q⟩:=m.say ho hn (s:=0) ah l;exact⟨p,by rw[q]⟩
theorem lS.Wj:∀(a:G C){c:Cont}{xs:G (C × C)},lS d xs c->xs++a.map (λt=>((0:C),t))<+:aZ d->lS d (xs++a.map (λt=>((0:C),t))) (c.ts (a.map (aP (d.nl 0)))).1/\(c.ts (a.map (aP (d.nl 0)))).2=a
 |[],c,xs,h,_=>by rw[jN,dm];exact⟨h,rfl⟩
 |t::a,c,xs,h,l=>by
  have e:xs++(t::a).map (λt=>((0:C),t))=(xs++[((0:C),t)])++a.map (λt=>((0:C),t)):=by simp
  rw[e] at l ⊢;obtain⟨m,o⟩:=h.say ho hn (s:=0) ah ((eu _ _).trans l);obtain⟨p,q⟩:=lS.Wj a m l;exact⟨p,by show _::_=_;rw[o,q]⟩
theorem lS.Zw:∀(a:G Sn){c:Cont}{xs:G (C × C)},lS d xs c->(∀s∈a,gq s.v (d.nl 0).length=O)->xs++a.flatMap (λs=>((2:C),s.obj)::jm s.v)<+:aZ d->
  lS d (xs++a.flatMap (λs=>((2:C),s.obj)::jm s.v)) (c.sc (a.map (λq=>(aP (d.nl 2) q.obj,jH (d.nl 0) q.v)))).1/\(c.sc (a.map (λq=>(aP (d.nl 2) q.obj,jH (d.nl 0) q.v)))).2=a
 |[],c,xs,h,_,_=>by rw[BH,dm];exact⟨h,rfl⟩
 |s::a,c,xs,h,m,l=>by
  have e:xs++(s::a).flatMap (λs=>((2:C),s.obj)::jm s.v)=((xs++[((2:C),s.obj)])++jm s.v)++a.flatMap (λs=>((2:C),s.obj)::jm s.v):=by simp
  rw[e] at l ⊢;obtain⟨o,p⟩:=h.say ho hn (s:=2) ah (((eu _ _).trans (eu _ _)).trans l);obtain⟨r,t⟩:=o.Wi ho hn (m s fQ) ((eu _ _).trans l);obtain⟨u,v⟩:=lS.Zw a r (λx y=>m x (d9 _ y)) l;refine⟨u,?_⟩;show _::_=_;rw[v]
  congr 1
  rw[p,t]
end
theorem Wl (c:Cont)(a b:Bs)(l:C):aT c ⟨1,[a,b],l,[],false,0⟩=((c.put 0 a).put 1 b).ev {zZ with kind:=1,t:=c.no 0 a,eH:=(c.put 0 a).no 1 b,lvl:=l} []:=rfl
theorem Wm (c:Cont)(a b:Bs):aT c ⟨2,[a,b],0,[],false,0⟩=((c.put 0 a).put 2 b).ev {zZ with kind:=2,t:=c.no 0 a,obj:=(c.put 0 a).no 2 b,v:=⟨c.no 0 a,(fC c.E (c.no 0 a) ((c.put 0 a).no 2 b):C)+1⟩} []:=rfl
theorem Wn (c:Cont)(a b:Bs)(v:To):aT c ⟨3,[a,b],0,[v],false,0⟩=(((c.put 0 a).put 2 b).dh v).1.ev {zZ with kind:=3,t:=c.no 0 a,obj:=(c.put 0 a).no 2 b,v:=(((c.put 0 a).put 2 b).dh v).2} []:=rfl
theorem Wo (c:Cont)(a b:Bs)(ns:G Bs)(l:G To):aT c ⟨4,[a,b]++ns,0,l,false,0⟩=(((c.put 0 a).put 3 b).sc (ns.zip l)).1.ev {zZ with kind:=4,t:=c.no 0 a,pred:=(c.put 0 a).no 3 b} (((c.put 0 a).put 3 b).sc (ns.zip l)).2:=rfl
theorem Wp (c:Cont)(a:Bs):aT c ⟨5,[a],0,[],false,0⟩=(c.put 0 a).ev {zZ with kind:=5,t:=c.no 0 a} []:=rfl
theorem Wq (c:Cont)(a:Bs):aT c ⟨6,[a],0,[],false,0⟩=(c.put 0 a).ev {zZ with kind:=6,t:=c.no 0 a} []:=rfl
theorem Ws (c:Cont)(a:Bs)(ns:G Bs):aT c ⟨7,[a]++ns,0,[],false,0⟩={((c.put 2 a).ts ns).1 with D:=c.D++[⟨c.no 2 a,H,0,0⟩],SD:=c.SD++[((c.put 2 a).ts ns).2]}:=rfl
theorem Wt (c:Cont)(a b:Bs)(ns:G Bs)(f:Bool):aT c ⟨8,[a,b]++ns,0,[],f,0⟩={(((c.put 3 a).put 2 b).ts ns).1 with M:=c.M++[⟨c.no 3 a,(c.put 3 a).no 2 b,f,H,0,0⟩],SM:=c.SM++[(((c.put 3 a).put 2 b).ts ns).2]}:=rfl
theorem Wu (c:Cont)(a:Bs)(b:C):aT c ⟨9,[a],0,[],false,b⟩={c.put 1 a with Q:=c.Q++[⟨c.no 1 a,b⟩]}:=rfl
def fM (a:Cont)(e:EvC)(l:G Sn):aJ:=
 if e.kind=1 then⟨e.kind,[aP (a.nl 0) e.t,aP (a.nl 1) e.eH],e.lvl,[],false,0⟩
 else if e.kind=2 then⟨e.kind,[aP (a.nl 0) e.t,aP (a.nl 2) e.obj],0,[],false,0⟩
 else if e.kind=3 then⟨e.kind,[aP (a.nl 0) e.t,aP (a.nl 2) e.obj],0,[jH (a.nl 0) e.v],false,0⟩
 else if e.kind=4 then⟨e.kind,[aP (a.nl 0) e.t,aP (a.nl 3) e.pred]++l.map (λq=>aP (a.nl 2) q.obj),0,l.map (λq=>jH (a.nl 0) q.v),false,0⟩
 else⟨e.kind,[aP (a.nl 0) e.t],0,[],false,0⟩
structure Added (c z:Cont)(e:EvC)(l:G Sn):Prop where
 E:z.E=c.E++[e]
 SE:z.SE=c.SE++[l]
 D:z.D=c.D
 SD:z.SD=c.SD
 M:z.M=c.M
 SM:z.SM=c.SM
 Q:z.Q=c.Q
variable{z:Cont}
theorem Added.of (n:Nm c z)(e:EvC)(l:G Sn):Added c (z.ev e l) e l:=
 ⟨by show z.E++[e]=_;rw[n.e],by show z.SE++[l]=_;rw[n.se],n.d,n.sd,n.m,n.sm,n.q⟩
theorem Ik {a m γ:Type}(f:a->m)(g:a->γ):∀l:G a,(l.map f).zip (l.map g)=l.map (λx=>(f x,g x))
 |[]=>rfl
 |x::l=>by rw[dX,dX,List.zip_cons_cons,Ik f g l];rfl
theorem lS.event {xs:G (C × C)}(o:um a)(p:∀i,(a.nl i).Nodup)(h:lS a xs c){e:EvC}{l:G Sn}{np:V}(he:fZ (a.nl 0).length ns R np e l=O)(hb:e.base=e)
  (m:xs++iG e l<+:aZ a) (hk:e.kind=2->e.v.k=(fC c.E e.t e.obj:C)+1):lS a (xs++iG e l) (aT c (fM a e l))/\Added c (aT c (fM a e l)) e l:=by
 obtain⟨Q,t,γ,ε,r,v,δ,sa,sn,sc⟩:=e;have η:(⟨Q,t,γ,ε,r,v,δ,H,0,0⟩:EvC)=⟨Q,t,γ,ε,r,v,δ,sa,sn,sc⟩:=hb;simp only[EvC.mk.injEq,true_and] at η;obtain⟨rfl,rfl,rfl⟩:=η;simp only[fZ,aM,aV] at he;obtain⟨⟨⟨⟨h1,h7⟩,_⟩,S⟩,u⟩:=he;have θ:Q=1\/Q=2\/Q=3\/Q=4\/Q=5\/Q=6:=by omega
 rcases θ with rfl|rfl|rfl|rfl|rfl|rfl
 .simp[gD] at u
  obtain⟨⟨⟨rfl,rfl⟩,rfl⟩,rfl⟩:=u;have y:iG ⟨1,t,γ,ε,0,⟨0,0⟩,0,H,0,0⟩ []=[((0:C),t)]++[((1:C),γ)]:=rfl;rw[y] at m ⊢;rw[<-dw] at m ⊢;obtain⟨A,E⟩:=h.say o p (s:=0) ah ((eu _ _).trans m);obtain⟨Z,h5⟩:=A.say o p (s:=1) ah m;have K:fM a ⟨1,t,γ,ε,0,⟨0,0⟩,0,H,0,0⟩ []=⟨1,[aP (a.nl 0) t,aP (a.nl 1) γ],ε,[],false,0⟩:=rfl;rw[K,Wl,E,h5];exact⟨Z,Added.of ((Nm.put _ _ _).trans (Nm.put _ _ _)) _ _⟩
 .simp[gD] at u
  simp[hasB] at S;obtain⟨⟨⟨rfl,rfl⟩,rfl⟩,rfl⟩:=u;have ζ:=hk rfl;simp only at ζ;obtain⟨x,vk⟩:=v;simp only at ζ S;obtain⟨⟨⟨_,_⟩,rfl⟩,ι⟩:=S;have y:iG ⟨2,x,0,0,r,⟨x,vk⟩,0,H,0,0⟩ []=[((0:C),x)]++([((2:C),r)]++[((0:C),x)]):=by
   unfold iG jm;simp[ι]
  rw[y] at m ⊢;rw[<-dw,<-dw] at m ⊢;obtain⟨A,E⟩:=h.say o p (s:=0) ah (((eu _ _).trans (eu _ _)).trans m);obtain⟨Z,h5⟩:=A.say o p (s:=2) ah ((eu _ _).trans m);obtain⟨h6,h7⟩:=Z.say o p (s:=0) ah m;have K:fM a ⟨2,x,0,0,r,⟨x,vk⟩,0,H,0,0⟩ []=⟨2,[aP (a.nl 0) x,aP (a.nl 2) r],0,[],false,0⟩:=rfl;rw[K,Wm,E,h5,<-ζ];refine⟨λi=>?_,Added.of ((Nm.put _ _ _).trans (Nm.put _ _ _)) _ _⟩;refine Eq.trans ?_ (h6 i);show _=(if i=0 then dJ (((c.put 0 (aP (a.nl 0) x)).put 2 (aP (a.nl 2) r)).nl 0) (aP (a.nl 0) x) else((c.put 0 (aP (a.nl 0) x)).put 2 (aP (a.nl 2) r)).nl i);by_cases hi:i=0
  .subst hi
   rw[av rfl,BD]
   .rfl
   .have h9:((c.put 0 (aP (a.nl 0) x)).put 2 (aP (a.nl 2) r)).nl 0=dJ (c.nl 0) (aP (a.nl 0) x):=rfl
    rw[h9];exact zF _ _
  .rw[au hi];rfl
 .simp[gD] at u
  simp[hasB] at S;obtain⟨⟨⟨rfl,rfl⟩,rfl⟩,rfl⟩:=u;have y:iG ⟨3,t,0,0,r,v,0,H,0,0⟩ []=[((0:C),t)]++([((2:C),r)]++jm v):=by
   unfold iG;simp
  rw[y] at m ⊢;rw[<-dw,<-dw] at m ⊢;obtain⟨A,E⟩:=h.say o p (s:=0) ah (((eu _ _).trans (eu _ _)).trans m);obtain⟨Z,h5⟩:=A.say o p (s:=2) ah ((eu _ _).trans m);obtain⟨h6,h7⟩:=Z.Wi o p S.2 m;have K:fM a ⟨3,t,0,0,r,v,0,H,0,0⟩ []=⟨3,[aP (a.nl 0) t,aP (a.nl 2) r],0,[jH (a.nl 0) v],false,0⟩:=rfl;rw[K,Wn,E,h5,h7];exact⟨h6,Added.of (((Nm.put _ _ _).trans (Nm.put _ _ _)).trans (Nm.dh _ _)) _ _⟩
 .simp[gD] at u
  simp[hasB] at S;obtain⟨⟨⟨rfl,rfl⟩,rfl⟩,rfl⟩:=u;have y:iG ⟨4,t,0,0,0,⟨0,0⟩,δ,H,0,0⟩ l=[((0:C),t)]++([((3:C),δ)]++l.flatMap (λs=>((2:C),s.obj)::jm s.v)):=by
   unfold iG;simp
  rw[y] at m ⊢;rw[<-dw,<-dw] at m ⊢;obtain⟨A,E⟩:=h.say o p (s:=0) ah (((eu _ _).trans (eu _ _)).trans m);obtain⟨Z,h5⟩:=A.say o p (s:=3) ah ((eu _ _).trans m);obtain⟨h6,h7⟩:=Z.Zw o p l (λs hs=>by
   have:=S.2 s hs;simp only[jG,aM] at this;exact this.2) m
  have K:fM a ⟨4,t,0,0,0,⟨0,0⟩,δ,H,0,0⟩ l=⟨4,[aP (a.nl 0) t,aP (a.nl 3) δ]++l.map (λq=>aP (a.nl 2) q.obj),0,l.map (λq=>jH (a.nl 0) q.v),false,0⟩:=rfl;rw[K,Wo,Ik,E,h5,h7];exact⟨h6,Added.of (((Nm.put _ _ _).trans (Nm.put _ _ _)).trans (Nm.sc _ _)) _ _⟩
 .simp[gD] at u
  obtain⟨⟨⟨⟨⟨rfl,rfl⟩,rfl⟩,rfl⟩,rfl⟩,rfl⟩:=u;have y:iG ⟨5,t,0,0,0,⟨0,0⟩,0,H,0,0⟩ []=[((0:C),t)]:=rfl;rw[y] at m ⊢;obtain⟨A,E⟩:=h.say o p (s:=0) ah m;have K:fM a ⟨5,t,0,0,0,⟨0,0⟩,0,H,0,0⟩ []=⟨5,[aP (a.nl 0) t],0,[],false,0⟩:=rfl;rw[K,Wp,E];exact⟨A,Added.of (Nm.put _ _ _) _ _⟩
 .simp[gD] at u
  obtain⟨⟨⟨⟨⟨rfl,rfl⟩,rfl⟩,rfl⟩,rfl⟩,rfl⟩:=u;have y:iG ⟨6,t,0,0,0,⟨0,0⟩,0,H,0,0⟩ []=[((0:C),t)]:=rfl;rw[y] at m ⊢;obtain⟨A,E⟩:=h.say o p (s:=0) ah m;have K:fM a ⟨6,t,0,0,0,⟨0,0⟩,0,H,0,0⟩ []=⟨6,[aP (a.nl 0) t],0,[],false,0⟩:=rfl;rw[K,Wq,E];exact⟨A,Added.of (Nm.put _ _ _) _ _⟩
def mD (a:Cont)(x:aG)(l:G C):aJ:=⟨7,[aP (a.nl 2) x.obj]++l.map (aP (a.nl 0)),0,[],false,0⟩
def mE (a:Cont)(x:aK)(l:G C):aJ:=⟨8,[aP (a.nl 3) x.pred,aP (a.nl 2) x.obj]++l.map (aP (a.nl 0)),0,[],x.first,0⟩
def pI (a:Cont)(x:Wa):aJ:=⟨9,[aP (a.nl 1) x.eH],0,[],false,x.bits⟩
def dL (a:Cont):G aJ:=
 (a.E.zip a.SE).map (λp=>fM a p.1 p.2)++(a.D.zip a.SD).map (λp=>mD a p.1 p.2)++(a.M.zip a.SM).map (λp=>mE a p.1 p.2)++a.Q.map (pI a)
structure Has (c:Cont)(pe:G (EvC × G Sn))(pd:G (aG × G C))(pm:G (aK × G C))(pq:G Wa):Prop where
 E:c.E=pe.map Prod.fst
 SE:c.SE=pe.map Prod.snd
 D:c.D=pd.map Prod.fst
 SD:c.SD=pd.map Prod.snd
 M:c.M=pm.map Prod.fst
 SM:c.SM=pm.map Prod.snd
 Q:c.Q=pq
def jw (l:Cont):Prop:=∀a e b,l.E=a++e::b->e.kind=2->e.v.k=(fC a e.t e.obj:C)+1
structure iq (d:Cont):Prop where
 e:∀e∈d.E,e.base=e
 o:∀x∈d.D,x.base=x
 m:∀x∈d.M,x.base=x
theorem lS.order {xs:G (C × C)}(q:um a)(r:∀i,(a.nl i).Nodup)(v:lS a xs c){x:aG}{pe pd pm pq}(m:Has c pe pd pm pq)(y:x.base=x)(p:xs++nE x l<+:aZ a):
  lS a (xs++nE x l) (aT c (mD a x l))/\Has (aT c (mD a x l)) pe (pd++[(x,l)]) pm pq:=by
 obtain⟨o,A,E,K⟩:=x;have u:(⟨o,H,0,0⟩:aG)=⟨o,A,E,K⟩:=y;simp only[aG.mk.injEq,true_and] at u;obtain⟨rfl,rfl,rfl⟩:=u;have Q:nE ⟨o,H,0,0⟩ l=[((2:C),o)]++l.map (λt=>((0:C),t)):=rfl;rw[Q] at p ⊢;rw[<-dw] at p ⊢;obtain⟨R,S⟩:=v.say q r (s:=2) ah ((eu _ _).trans p);obtain⟨Z,h5⟩:=R.Wj q r l p;have e2:mD a ⟨o,H,0,0⟩ l=⟨7,[aP (a.nl 2) o]++l.map (aP (a.nl 0)),0,[],false,0⟩:=rfl;have n:=(Nm.put c 2 (aP (a.nl 2) o)).trans (Nm.ts (l.map (aP (a.nl 0))) _);rw[e2,Ws,S,h5];exact⟨Z,n.e.trans m.E,n.se.trans m.SE,by show c.D++_=_;rw[m.D,eY];rfl,by show c.SD++_=_;rw[m.SD,eY];rfl,n.m.trans m.M,n.sm.trans m.SM,n.q.trans m.Q⟩
theorem lS.Oe {xs:G (C × C)}(u:um a)(v:∀i,(a.nl i).Nodup)(A:lS a xs c){x:aK}{pe pd pm pq}(m:Has c pe pd pm pq)(E:x.base=x)(q:xs++l9 x l<+:aZ a):
  lS a (xs++l9 x l) (aT c (mE a x l))/\Has (aT c (mE a x l)) pe pd (pm++[(x,l)]) pq:=by
 obtain⟨o,p,r,K,Q,R⟩:=x;have y:(⟨o,p,r,H,0,0⟩:aK)=⟨o,p,r,K,Q,R⟩:=E;simp only[aK.mk.injEq,true_and] at y;obtain⟨rfl,rfl,rfl⟩:=y;have S:l9 ⟨o,p,r,H,0,0⟩ l=[((3:C),o)]++([((2:C),p)]++l.map (λt=>((0:C),t))):=rfl;rw[S] at q ⊢;rw[<-dw,<-dw] at q ⊢;obtain⟨Z,h3⟩:=A.say u v (s:=3) ah (((eu _ _).trans (eu _ _)).trans q);obtain⟨h4,h5⟩:=Z.say u v (s:=2) ah ((eu _ _).trans q);obtain⟨h6,h7⟩:=h4.Wj u v l q;have e2:mE a ⟨o,p,r,H,0,0⟩ l=⟨8,[aP (a.nl 3) o,aP (a.nl 2) p]++l.map (aP (a.nl 0)),0,[],r,0⟩:=rfl;have n:=((Nm.put c 3 (aP (a.nl 3) o)).trans (Nm.put _ 2 (aP (a.nl 2) p))).trans (Nm.ts (l.map (aP (a.nl 0))) _);rw[e2,Wt,h3,h5,h7];exact⟨h6,n.e.trans m.E,n.se.trans m.SE,n.d.trans m.D,n.sd.trans m.SD,by show c.M++_=_;rw[m.M,eY];rfl,by show c.SM++_=_;rw[m.SM,eY];rfl,n.q.trans m.Q⟩
theorem lS.want {xs:G (C × C)}(q:um a)(r:∀i,(a.nl i).Nodup)(t:lS a xs c){x:Wa}{pe pd pm pq}(l:Has c pe pd pm pq)(p:xs++mR x<+:aZ a):
  lS a (xs++mR x) (aT c (pI a x))/\Has (aT c (pI a x)) pe pd pm (pq++[x]):=by
 obtain⟨m,o⟩:=x;have u:mR ⟨m,o⟩=[((1:C),m)]:=rfl;rw[u] at p ⊢;obtain⟨v,y⟩:=t.say q r (s:=1) ah p;have A:pI a ⟨m,o⟩=⟨9,[aP (a.nl 1) m],0,[],false,o⟩:=rfl;rw[A,Wu,y];exact⟨v,l.E,l.SE,l.D,l.SD,l.M,l.SM,by show c.Q++_=_;rw[l.Q]⟩
def dI (c:Cont)(ls:G aJ):Cont:=ls.foldl aT c
theorem sD (c:Cont)(a b:G aJ):dI c (a++b)=dI (dI c a) b:=List.foldl_append
theorem Gr.all:∀(ls:G aJ)(c:Cont),Gr c (dI c ls)
 |[],c=>Gr.refl c
 |l::ls,c=>(Gr.add c l).trans (Gr.all ls _)
section
variable {d:Cont}(ho:um d)(hn:∀i,(d.nl i).Nodup)(hs:fJ d)(hb:iq d)(hc:jw d)
include ho hn hs hb hc
theorem Tf:∀(r l:G (EvC × G Sn)){c:Cont}{xs:G (C × C)},lS d xs c->Has c l [] [] []->d.E.zip d.SE=l++r->xs++r.flatMap (λp=>iG p.1 p.2)<+:aZ d->
  lS d (xs++r.flatMap (λp=>iG p.1 p.2)) (dI c (r.map (λp=>fM d p.1 p.2)))/\Has (dI c (r.map (λp=>fM d p.1 p.2))) (l++r) [] [] []
 |[],l,c,xs,h,a,_,_=>by rw[BH,dm,dm];exact⟨h,a⟩
 |p::r,l,c,xs,h,a,o,q=>by
  have u:p∈d.E.zip d.SE:=by rw[o];simp
  have v:=hs.ev p u;have s:d.E=l.map Prod.fst++p.1::r.map Prod.fst:=by
   have:=bJ (List.map Prod.fst) o;rw[zG (by rw[hs.le];exact aB _)] at this;rw[this];simp
  have e:xs++(p::r).flatMap (λp=>iG p.1 p.2)=(xs++iG p.1 p.2)++r.flatMap (λp=>iG p.1 p.2):=by simp
  rw[e] at q ⊢;obtain⟨x,m⟩:=h.event ho hn v (hb.e _ (by rw[s];simp)) ((eu _ _).trans q) (λy=>by rw[a.E];exact hc _ _ _ s y);have A:Has (aT c (fM d p.1 p.2)) (l++[p]) [] [] []:=
   ⟨by rw[m.E,a.E,eY];rfl,by rw[m.SE,a.SE,eY];rfl,m.D.trans a.D,m.SD.trans a.SD,m.M.trans a.M,m.SM.trans a.SM,m.Q.trans a.Q⟩
  have t:=Tf r (l++[p]) x A (by rw[o];simp) q;rw[dw l [p] r,BI] at t;exact t
omit hc in
theorem Tg (l:G (EvC × G Sn)):∀(r a:G (aG × G C)){c:Cont}{xs:G (C × C)},lS d xs c->Has c l a [] []->d.D.zip d.SD=a++r->xs++r.flatMap (λp=>nE p.1 p.2)<+:aZ d->
  lS d (xs++r.flatMap (λp=>nE p.1 p.2)) (dI c (r.map (λp=>mD d p.1 p.2)))/\Has (dI c (r.map (λp=>mD d p.1 p.2))) l (a++r) [] []
 |[],a,c,xs,h,m,_,_=>by rw[BH,dm,dm];exact⟨h,m⟩
 |p::r,a,c,xs,h,m,q,o=>by
  have t:p∈d.D.zip d.SD:=by rw[q];simp
  have e:xs++(p::r).flatMap (λp=>nE p.1 p.2)=(xs++nE p.1 p.2)++r.flatMap (λp=>nE p.1 p.2):=by simp
  rw[e] at o ⊢;obtain⟨u,v⟩:=h.order ho hn m (hb.o _ (BF t).1) ((eu _ _).trans o);have s:=Tg l r (a++[p]) u v (by rw[q];simp) o;rw[dw a [p] r,BI] at s;exact s
omit hc in
theorem Ti (l:G (EvC × G Sn))(m:G (aG × G C)):∀(r a:G (aK × G C)){c:Cont}{xs:G (C × C)},lS d xs c->Has c l m a []->d.M.zip d.SM=a++r->xs++r.flatMap (λp=>l9 p.1 p.2)<+:aZ d->
  lS d (xs++r.flatMap (λp=>l9 p.1 p.2)) (dI c (r.map (λp=>mE d p.1 p.2)))/\Has (dI c (r.map (λp=>mE d p.1 p.2))) l m (a++r) []
 |[],a,c,xs,h,o,_,_=>by rw[BH,dm,dm];exact⟨h,o⟩
 |p::r,a,c,xs,h,o,s,q=>by
  have u:p∈d.M.zip d.SM:=by rw[s];simp
  have e:xs++(p::r).flatMap (λp=>l9 p.1 p.2)=(xs++l9 p.1 p.2)++r.flatMap (λp=>l9 p.1 p.2):=by simp
  rw[e] at q ⊢;obtain⟨v,x⟩:=h.Oe ho hn o (hb.m _ (BF u).1) ((eu _ _).trans q);have t:=Ti l m r (a++[p]) v x (by rw[s];simp) q;rw[dw a [p] r,BI] at t;exact t
omit hs hb hc in
theorem Tj (l:G (EvC × G Sn))(m:G (aG × G C))(o:G (aK × G C)):∀(r a:G Wa){c:Cont}{xs:G (C × C)},lS d xs c->Has c l m o a->xs++r.flatMap mR<+:aZ d->
  lS d (xs++r.flatMap mR) (dI c (r.map (pI d)))/\Has (dI c (r.map (pI d))) l m o (a++r)
 |[],a,c,xs,h,q,_=>by rw[BH,dm,dm];exact⟨h,q⟩
 |p::r,a,c,xs,h,q,s=>by
  have e:xs++(p::r).flatMap mR=(xs++mR p)++r.flatMap mR:=by simp
  rw[e] at s ⊢;obtain⟨u,v⟩:=h.want ho hn q ((eu _ _).trans s);have t:=Tj l m o r (a++[p]) u v s;rw[dw a [p] r,BI] at t;exact t
structure lU (c d:Cont):Prop where
 n:∀i,i<4->c.nl i=d.nl i
 E:c.E=d.E
 SE:c.SE=d.SE
 D:c.D=d.D
 SD:c.SD=d.SD
 M:c.M=d.M
 SM:c.SM=d.SM
 Q:c.Q=d.Q
theorem AL:lU (dI eZ (dL d)) d:=by
 have l:aZ d=(((([]:G (C × C))++(d.E.zip d.SE).flatMap (λp=>iG p.1 p.2))++(d.D.zip d.SD).flatMap (λp=>nE p.1 p.2))++(d.M.zip d.SM).flatMap (λp=>l9 p.1 p.2))++d.Q.flatMap mR:=rfl;have o:lS d [] eZ:=λi=>by show []=_;exact(List.take_zero).symm
 have q:Has eZ [] [] [] []:=⟨rfl,rfl,rfl,rfl,rfl,rfl,rfl⟩;obtain⟨r,s⟩:=Tf ho hn hs hb hc (d.E.zip d.SE) [] o q rfl (by rw[l];exact((eu _ _).trans (eu _ _)).trans (eu _ _));obtain⟨t,u⟩:=Tg ho hn hs hb _ (d.D.zip d.SD) [] r s rfl (by rw[l];exact(eu _ _).trans (eu _ _));obtain⟨v,x⟩:=Ti ho hn hs hb _ _ (d.M.zip d.SM) [] t u rfl (by rw[l];exact eu _ _);obtain⟨m,a⟩:=Tj ho hn _ _ _ d.Q [] v x (by rw[l];exact gH _);rw[<-l] at m;have y:dI eZ (dL d)=dI (dI (dI (dI eZ ((d.E.zip d.SE).map (λp=>fM d p.1 p.2))) ((d.D.zip d.SD).map (λp=>mD d p.1 p.2))) ((d.M.zip d.SM).map (λp=>mE d p.1 p.2))) (d.Q.map (pI d)):=by
  unfold dL;rw[sD,sD,sD]
 rw[y];refine⟨λi A=>?_,?_,?_,?_,?_,?_,?_,?_⟩
 .rw[m i,ho i A,ny,List.take_length]
 .rw[a.E,fK,zG (by rw[hs.le];exact aB _)]
 .rw[a.SE,fK,List.map_snd_zip (by rw[hs.le];exact aB _)]
 .rw[a.D,fK,zG (by rw[hs.ld];exact aB _)]
 .rw[a.SD,fK,List.map_snd_zip (by rw[hs.ld];exact aB _)]
 .rw[a.M,fK,zG (by rw[hs.lm];exact aB _)]
 .rw[a.SM,fK,List.map_snd_zip (by rw[hs.lm];exact aB _)]
 .rw[a.Q,fK]
theorem OB (l:aI d)(a b:G aJ)(e:dL d=a++b):aI (dI eZ a):=by
 have h:=AL ho hn hs hb hc;have m:aI (dI eZ (dL d)):=
  ⟨λi o=>by rw[h.n i o];exact l.1 i o,by rw[h.E];exact l.2.1,by rw[h.D];exact l.2.2.1,by rw[h.M];exact l.2.2.2.1,by rw[h.Q];exact l.2.2.2.2.1,λx p=>l.2.2.2.2.2 x (by rw[<-h.E];exact p)⟩
 rw[e,sD] at m;exact(Gr.all b _).fits m
end
theorem jw.of (l:jw c)(e:z.E=c.E):jw z:=λa x b m o=>l a x b (by rw[<-e];exact m) o
theorem jw.eU (r:jw c)(e:EvC)(l:G Sn)(s:e.kind=2->e.v.k=(fC c.E e.t e.obj:C)+1):jw (c.ev e l):=by
 intro a x b t q;have m:c.E++[e]=a++x::b:=t;rcases List.eq_nil_or_concat b with rfl|⟨o,y,rfl⟩
 .obtain⟨u,p⟩:=List.append_inj' m rfl
  injection p with p;subst u p;exact s q
 .have v:a++x::(o++[y])=(a++x::o)++[y]:=by simp
  rw[List.concat_eq_append,v] at m;exact r a x o (List.append_inj' m rfl).1 q
theorem jw.zero:jw eZ:=λa x b l=>by
 have m:([]:G EvC)=a++x::b:=l;simp at m
theorem jw.add (a:jw c)(l:aJ):jw (aT c l):=by
 unfold aT;simp only[]
 split
 .exact jw.eU (a.of rfl) _ [] (λm=>by cases m)
 .split
  .exact jw.eU (a.of rfl) _ [] (λ_=>rfl)
  .split
   .exact jw.eU (a.of (((Nm.put _ _ _).trans (Nm.put _ _ _)).trans (Nm.dh _ _)).e) _ [] (λm=>by cases m)
   .split
    .exact jw.eU (a.of (((Nm.put _ _ _).trans (Nm.put _ _ _)).trans (Nm.sc _ _)).e) _ (((c.put 0 (l.names.getD 0 [])).put 3 (l.names.getD 1 [])).sc ((l.names.drop 2).zip l.aN)).2 (λm=>by cases m)
    .split
     .rename_i o
      exact jw.eU (a.of rfl) _ [] (λm=>by
       have p:l.kind=2:=m;omega)
     .split
      .exact a.of ((Nm.put _ _ _).trans (Nm.ts _ _)).e
      .split
       .exact a.of (((Nm.put _ _ _).trans (Nm.put _ _ _)).trans (Nm.ts _ _)).e
       .split
        .exact a.of rfl
        .exact a
theorem jw.all:∀(ls:G aJ){c:Cont},jw c->jw (dI c ls)
 |[],_,h=>h
 |l::ls,_,h=>jw.all ls (h.add l)
theorem iq.of (a:iq c)(n:Nm c z):iq z:=⟨by rw[n.e];exact a.e,by rw[n.d];exact a.o,by rw[n.m];exact a.m⟩
theorem iq.eU (m:iq c)(e:EvC)(l:G Sn)(o:e.base=e):iq (c.ev e l):=
 ⟨λx a=>by
  rcases cu.1 a with a|a
  .exact m.e x a
  .rw[bX.1 a];exact o,m.o,m.m⟩
theorem iq.zero:iq eZ:=⟨λx a=>(by cases a),λx a=>(by cases a),λx a=>(by cases a)⟩
theorem iq.add (a:iq c)(l:aJ):iq (aT c l):=by
 unfold aT;simp only[]
 split
 .exact iq.eU (a.of ((Nm.put _ _ _).trans (Nm.put _ _ _))) _ _ rfl
 .split
  .exact iq.eU (a.of ((Nm.put _ _ _).trans (Nm.put _ _ _))) _ _ rfl
  .split
   .exact iq.eU (a.of (((Nm.put _ _ _).trans (Nm.put _ _ _)).trans (Nm.dh _ _))) _ _ rfl
   .split
    .exact iq.eU (a.of (((Nm.put _ _ _).trans (Nm.put _ _ _)).trans (Nm.sc _ _))) _ _ rfl
    .split
     .exact iq.eU (a.of (Nm.put _ _ _)) _ _ rfl
     .split
      .have k:=a.of ((Nm.put c 2 (l.names.getD 0 [])).trans (Nm.ts (l.names.drop 1) _))
       refine⟨k.e,λx m=>?_,k.m⟩;rcases cu.1 m with m|m
       .exact a.o x m
       .rw[bX.1 m];rfl
      .split
       .have k:=a.of (((Nm.put c 3 (l.names.getD 0 [])).trans (Nm.put _ 2 (l.names.getD 1 []))).trans (Nm.ts (l.names.drop 2) _))
        refine⟨k.e,k.o,λx m=>?_⟩;rcases cu.1 m with m|m
        .exact a.m x m
        .rw[bX.1 m];rfl
       .split
        .exact⟨a.e,a.o,a.m⟩
        .exact a
theorem iq.all:∀(ls:G aJ){c:Cont},iq c->iq (dI c ls)
 |[],_,h=>h
 |l::ls,_,h=>iq.all ls (h.add l)
theorem Il {l:aJ}(a:l.kind=0):aT c l=c:=by
 unfold aT;simp[a]
theorem fJ.all:∀(ls:G aJ){c:Cont},fJ c->(∀l∈ls,l.kind=0\/eF l)->aI (dI c ls)->fJ (dI c ls)
 |[],_,h,_,_=>h
 |l::ls,c,h,m,o=>fJ.all ls (c:=aT c l) (by
  rcases m l fQ with a|a
  .rw[Il a];exact h
  .exact h.add a ((Gr.all ls _).fits o)) (λx p=>m x (d9 _ p)) o
theorem iq.number (c:Cont):iq (eG c):=
 ⟨λx a=>(by obtain⟨y,_,rfl⟩:=bS.1 a;rfl),λx a=>(by obtain⟨y,_,rfl⟩:=bS.1 a;rfl),λx a=>(by obtain⟨y,_,rfl⟩:=bS.1 a;rfl)⟩
variable{a:C}
theorem KI {b:C}(ha:a∈l)(o:b∈l)(m:dY l a=dY l b):a=b:=by
 unfold dY at m;rw[av ha,av o] at m;have p:=List.getElem_idxOf (xI ha);have q:=List.getElem_idxOf (xI o);have r:=Int.ofNat_inj.1 m;rw[<-p,<-q];exact getElem_congr_idx r
theorem OC (m:c.E.length=c.SE.length){e:EvC}(o:e∈c.E):((0:C),e.t)∈aZ c/\(e.kind=2->((2:C),e.obj)∈aZ c):=by
 obtain⟨l,q⟩:∃l,(e,l)∈c.E.zip c.SE:=by
  have:e∈(c.E.zip c.SE).map Prod.fst:=by rw[zG (by rw[m];exact aB _)];exact o
  obtain⟨p,r,rfl⟩:=bS.1 this;exact⟨p.2,r⟩
 have a:∀x∈iG e l,x∈aZ c:=λx s=>by
  unfold aZ;exact iw _ (iw _ (iw _ (kH.2 ⟨(e,l),q,s⟩)))
 refine⟨a _ ?_,λt=>a _ ?_⟩
 .unfold iG;simp
 .unfold iG;simp[t]
theorem jw.number (R:jw c)(S:c.E.length=c.SE.length):jw (eG c):=by
 intro a x b Z hk;obtain⟨F,A⟩:∃F,F=bV (aZ c):=⟨_,rfl⟩;have γ:c.E.map (Yd.eU F)=a++x::b:=by rw[A];exact Z
 obtain⟨a',r,s,rfl,e2⟩:=List.map_eq_append_iff.1 γ;obtain⟨l,b',rfl,rfl,rfl⟩:=List.map_eq_cons_iff.1 e2;have m:l.kind=2:=hk;have h1:=R a' l b' s m;have E:∀e∈c.E,e.t∈F 0/\(e.kind=2->e.obj∈F 2):=λe t=>by
  have:=OC S t;rw[A];exact⟨BG _ this.1,λk=>BG _ (this.2 k)⟩
 have K:=E l (by rw[s];simp);have e3:(Yd.eU F l).v.k=l.v.k:=by
  unfold Yd.eU kS;simp only[m,true_or,bR]
  split <;> rfl
 rw[e3,h1]
 congr 2
 unfold fC;rw[List.countP_map];refine List.countP_congr (λe t=>?_);have Q:=E e (by rw[s];exact iw _ t);have o:∀y:EvC,y.kind=2->(Yd.eU F y).obj=dY (F 2) y.obj:=λy hy=>by unfold Yd.eU;simp only[hy,true_or,bR]
 simp only[Function.comp,aM,oJ]
 constructor
 .rintro⟨p,u,q⟩
  refine⟨p,bJ (dY (F 0)) u,?_⟩;rw[o _ p,o _ m,q]
 .rintro⟨p,u,q⟩
  have v:e.kind=2:=p;rw[o _ v,o _ m] at q;exact⟨v,KI Q.1 K.1 u,KI (Q.2 v) (K.2 m) q⟩
theorem oO {F:G C}{l:G Bs}{n:C}(a:n∈F):aP (F.map (aP l)) (dY F n)=aP l n:=by
 have m:=xI a;have e:dY F n=(F.idxOf n:C):=by unfold dY;rw[av a]
 rw[e,oD _ (by rw[bg];exact m),List.getElem_map,List.getElem_idxOf]
theorem KJ {l:G Bs}(a:gq v nt=O)(q:∀x∈jm v,x.2∈F x.1):jH ((F 0).map (aP l)) (kS F v)=jH l v:=by
 unfold jH kS;by_cases m:0<v.k
 .have r:v.t∈F 0:=q (0,v.t) (by unfold jm;rw[av m];simp)
  have o:¬v.k=0:=by omega
  rw[av m];simp only[au o];rw[oO r]
 .have o:v.k=0:=by
   unfold gq at a;by_cases p:v.k=0
   .exact p
   .rw[au p] at a
    simp only[aM,aV] at a;exact absurd a.1.2 m
  rw[au m,av o,av o]
section
variable {c:Cont}{F:C->G C}
theorem Q7 {e:EvC}{l:G Sn}{S:V}(E:fZ (c.nl 0).length ns R S e l=O)(t:∀x∈iG e l,x.2∈F x.1):fM (rF F c) (eU F e) (l.map (xH F))=fM c e l:=by
 have A:(eU F e).kind=e.kind:=rfl;have Z:aP ((rF F c).nl 0) (eU F e).t=aP (c.nl 0) e.t:=oO (F:=F 0) (t (0,e.t) (by unfold iG;simp));simp only[fZ,aM,aV] at E;have o:=E.1.2;unfold fM;rw[A,Z];by_cases a:e.kind=1
 .have p:(eU F e).eH=dY (F 1) e.eH:=by unfold eU;simp only[av a]
  have v:aP ((rF F c).nl 1) (eU F e).eH=aP (c.nl 1) e.eH:=by
   rw[p];exact oO (F:=F 1) (t (1,e.eH) (by unfold iG;simp[a]))
  rw[av a,av a,v];rfl
 .rw[au a,au a]
  have K:e.kind=2\/e.kind=3->aP ((rF F c).nl 2) (eU F e).obj=aP (c.nl 2) e.obj:=λA=>by
   have p:(eU F e).obj=dY (F 2) e.obj:=by unfold eU;simp only[av A]
   rw[p];exact oO (F:=F 2) (t (2,e.obj) (by unfold iG;rw[au a,av A];simp))
  by_cases r:e.kind=2
  .rw[av r,av r,K (.inl r)]
  .rw[au r,au r]
   by_cases m:e.kind=3
   .have p:(eU F e).v=kS F e.v:=by unfold eU;simp only[m,or_true,bR]
    have v:jH ((rF F c).nl 0) (eU F e).v=jH (c.nl 0) e.v:=by
     rw[p];unfold hasB at o;rw[au a,au r,av m] at o;simp only[aM] at o;refine KJ (F:=F) o.2 (λx y=>t x ?_);unfold iG;rw[au a,av (.inr m)];simp[y]
    rw[av m,av m,K (.inr m),v]
   .rw[au m,au m]
    by_cases s:e.kind=4
    .have p:(eU F e).pred=dY (F 3) e.pred:=by unfold eU;simp only[av s]
     have v:aP ((rF F c).nl 3) (eU F e).pred=aP (c.nl 3) e.pred:=by
      rw[p];exact oO (F:=F 3) (t (3,e.pred) (by unfold iG;simp[s]))
     unfold hasB at o;rw[au a,au r,au m,av s] at o;simp only[aM,dZ] at o;have Q:∀q∈l,∀x∈(((2:C),q.obj)::jm q.v),x.2∈F x.1:=λq u x y=>t x (by
      unfold iG;exact jq _ (kH.2 ⟨q,u,y⟩))
     have e3:(l.map (xH F)).map (λq=>aP ((rF F c).nl 2) q.obj)=l.map (λq=>aP (c.nl 2) q.obj):=by
      rw[iF];exact lN (λq u=>oO (F:=F 2) (Q q u (2,q.obj) fQ))
     have e4:(l.map (xH F)).map (λq=>jH ((rF F c).nl 0) q.v)=l.map (λq=>jH (c.nl 0) q.v):=by
      rw[iF];refine lN (λq u=>KJ (F:=F) (nt:=(c.nl 0).length) ?_ (λx y=>Q q u x (d9 _ y)));have:=o.2 q u;simp only[jG,aM] at this;exact this.2
     rw[av s,av s,v,e3,e4]
    .rw[au s,au s]
theorem Im (a:∀t∈l,t∈F 0):(l.map (dY (F 0))).map (aP ((rF F c).nl 0))=l.map (aP (c.nl 0)):=by
 rw[iF];exact lN (λt m=>oO (F:=F 0) (a t m))
end
theorem Q8 (v:fJ c)(m:∀x∈aZ c,x.2∈F x.1):dL (rF F c)=dL c:=by
 unfold aZ at m;have y:∀p∈c.E.zip c.SE,∀x∈iG p.1 p.2,x.2∈F x.1:=λp a x o=>m x (iw _ (iw _ (iw _ (kH.2 ⟨p,a,o⟩))))
 have u:∀p∈c.D.zip c.SD,∀x∈nE p.1 p.2,x.2∈F x.1:=λp a x o=>m x (iw _ (iw _ (jq _ (kH.2 ⟨p,a,o⟩))))
 have r:∀p∈c.M.zip c.SM,∀x∈l9 p.1 p.2,x.2∈F x.1:=λp a x o=>m x (iw _ (jq _ (kH.2 ⟨p,a,o⟩)))
 have A:∀p∈c.Q,p.eH∈F 1:=λp a=>m (1,p.eH) (jq _ (kH.2 ⟨p,a,by unfold mR;simp⟩))
 unfold dL;refine congr (bJ _ (congr (bJ _ (congr (bJ _ ?_) ?_)) ?_)) ?_
 .show((c.E.map (eU F)).zip (c.SE.map (λl=>l.map (xH F)))).map _=_
  rw[List.zip_map,iF];exact lN (λp a=>Q7 (v.ev p a) (y p a))
 .show((c.D.map (λx=>(⟨dY (F 2) x.obj,H,0,0⟩:aG))).zip (c.SD.map (λl=>l.map (dY (F 0))))).map _=_
  rw[List.zip_map,iF];refine lN (λp a=>?_);show(⟨7,[aP ((rF F c).nl 2) (dY (F 2) p.1.obj)]++(p.2.map (dY (F 0))).map (aP ((rF F c).nl 0)),0,[],false,0⟩:aJ)=mD c p.1 p.2;have q:aP ((rF F c).nl 2) (dY (F 2) p.1.obj)=aP (c.nl 2) p.1.obj:=oO (F:=F 2) (u p a (2,p.1.obj) (by unfold nE;simp));rw[Im (λt s=>u p a (0,t) (by unfold nE;simp[s])),q];rfl
 .show((c.M.map (λx=>(⟨dY (F 3) x.pred,dY (F 2) x.obj,x.first,H,0,0⟩:aK))).zip (c.SM.map (λl=>l.map (dY (F 0))))).map _=_
  rw[List.zip_map,iF];refine lN (λp a=>?_);show(⟨8,[aP ((rF F c).nl 3) (dY (F 3) p.1.pred),aP ((rF F c).nl 2) (dY (F 2) p.1.obj)]++(p.2.map (dY (F 0))).map (aP ((rF F c).nl 0)),0,[],p.1.first,0⟩:aJ)=mE c p.1 p.2;have q:aP ((rF F c).nl 2) (dY (F 2) p.1.obj)=aP (c.nl 2) p.1.obj:=oO (F:=F 2) (r p a (2,p.1.obj) (by unfold l9;simp));have E:aP ((rF F c).nl 3) (dY (F 3) p.1.pred)=aP (c.nl 3) p.1.pred:=oO (F:=F 3) (r p a (3,p.1.pred) (by unfold l9;simp));rw[Im (λt s=>r p a (0,t) (by unfold l9;simp[s])),q,E];rfl
 .show(c.Q.map (λx=>(⟨dY (F 1) x.eH,x.bits⟩:Wa))).map _=_
  rw[iF];refine lN (λp a=>?_);show(⟨9,[aP ((rF F c).nl 1) (dY (F 1) p.eH)],0,[],false,p.bits⟩:aJ)=pI c p;have q:aP ((rF F c).nl 1) (dY (F 1) p.eH)=aP (c.nl 1) p.eH:=oO (F:=F 1) (A p a);rw[q];rfl
theorem Io (l:fJ c):dL (eG c)=dL c:=Q8 l (λx m=>BG _ (by obtain⟨a,b⟩:=x;exact m))
theorem JR (a:fJ c)(hc:jw c):lU (dI eZ (dL c)) (eG c):=by
 have hn:=a.number;rw[<-Io a];exact AL (λi _=>Fh _ i) (λi=>(hn.nm i).1) hn (iq.number _) (hc.number a.le)
theorem jX {l z:G Bs}(m:l<+:z){n:C}(o:aY n l.length=O):aP z n=aP l n:=by
 simp only[aY,aM,aV] at o;obtain⟨k,rfl⟩:∃k:V,n=(k:C):=⟨n.toNat,by omega⟩;obtain⟨t,rfl⟩:=m;have a:k<l.length:=by omega
 rw[oD _ (by rw[bO];omega),oD _ a,List.getElem_append_left a]
theorem Ip {l z:G Bs}(o:l<+:z)(a:gq v l.length=O):jH z v=jH l v:=by
 unfold jH;by_cases m:v.k=0
 .rw[av m,av m]
 .unfold gq at a
  rw[au m] at a ⊢;simp only[aM] at a;rw[au m,jX o a.1.1]
theorem OD (g:Gr c z){e:EvC}{l:G Sn}(r:fZ (c.nl 0).length (c.nl 1).length (c.nl 2).length (c.nl 3).length e l=O):fM z e l=fM c e l:=by
 simp only[fZ,aM,aV] at r;obtain⟨⟨_,t⟩,a⟩:=r.1;unfold hasB at a;unfold fM;rw[jX (g.n 0) t];by_cases m:e.kind=1
 .rw[av m] at a
  simp only[aM] at a;rw[av m,av m,jX (g.n 1) a.1]
 .rw[au m] at a ⊢
  rw[au m];by_cases o:e.kind=2
  .rw[av o] at a ⊢
   simp only[aM] at a;rw[av o,jX (g.n 2) a.1.1.1]
  .rw[au o] at a ⊢
   rw[au o];by_cases p:e.kind=3
   .rw[av p] at a ⊢
    simp only[aM] at a;rw[av p,jX (g.n 2) a.1,Ip (g.n 0) a.2]
   .rw[au p] at a ⊢
    rw[au p];by_cases q:e.kind=4
    .rw[av q] at a ⊢
     simp only[aM,dZ] at a;have hs:∀s∈l,aY s.obj (c.nl 2).length=O/\gq s.v (c.nl 0).length=O:=λs hs=>by
      have:=a.2 s hs
      simpa only[jG,aM] using this
     rw[av q,jX (g.n 3) a.1.1,lN (λs h=>jX (g.n 2) (hs s h).1),lN (λs h=>Ip (g.n 0) (hs s h).2)]
    .rw[au q,au q]
theorem FJ (g:Gr c z)(a:fu (c.nl 0).length l=O):l.map (aP (z.nl 0))=l.map (aP (c.nl 0)):=by
 simp only[fu,aM,dZ] at a;exact lN (λt m=>jX (g.n 0) (a.2 t m))
def D6 (c:Cont):G aJ:=(c.E.zip c.SE).map (λp=>fM c p.1 p.2)
def Ce (c:Cont):G aJ:=(c.D.zip c.SD).map (λp=>mD c p.1 p.2)
def Cg (c:Cont):G aJ:=(c.M.zip c.SM).map (λp=>mE c p.1 p.2)
def Ch (c:Cont):G aJ:=c.Q.map (pI c)
section
variable {c z:Cont}(h:fJ c)(g:Gr c z)
include h g
theorem BJ:(c.E.zip c.SE).map (λp=>fM z p.1 p.2)=D6 c:=lN (λp a=>OD g (h.ev p a))
theorem BK:(c.D.zip c.SD).map (λp=>mD z p.1 p.2)=Ce c:=lN (λp a=>by
 unfold mD;rw[jX (g.n 2) (h.od p a).1,FJ g (h.od p a).2])
theorem BL:(c.M.zip c.SM).map (λp=>mE z p.1 p.2)=Cg c:=lN (λp a=>by
 unfold mE;rw[jX (g.n 3) (h.ma p a).1,jX (g.n 2) (h.ma p a).2.1,FJ g (h.ma p a).2.2])
theorem BM:c.Q.map (pI z)=Ch c:=lN (λp a=>by
 unfold pI;rw[jX (g.n 1) (h.wa p a).1])
end
theorem iD {s:Bs}(g:Gr (c.put i s) z):aP (z.nl i) (c.no i s)=s:=by
 have e:(c.put i s).nl i=dJ (c.nl i) s:=av rfl;rw[jX (g.n i) (gT c i s),e];have a:=xI (zF (c.nl i) s);show aP _ ((qd (c.nl i) s:V):C)=s;have l:qd (c.nl i) s=(dJ (c.nl i) s).idxOf s:=rfl;rw[l,oD _ a,List.getElem_idxOf]
theorem Iq {v:To}(l:jK v)(g:Gr (c.dh v).1 z):jH (z.nl 0) (c.dh v).2=v:=by
 rcases l with rfl|⟨_,o,_⟩
 .rfl
 .have a:¬v.k=0:=by omega
  have m:c.dh v=(c.put 0 v.name,⟨c.no 0 v.name,v.k⟩):=by unfold Cont.dh;rw[au a]
  rw[m] at g ⊢;unfold jH;simp only[au a];rw[iD g]
theorem CV:∀(l:G Bs){c z:Cont},Gr (c.ts l).1 z->(c.ts l).2.map (aP (z.nl 0))=l
 |[],_,_,_=>rfl
 |s::r,c,z,g=>by
  show aP (z.nl 0) (c.no 0 s)::((c.put 0 s).ts r).2.map (aP (z.nl 0))=s::r;rw[CV r g,iD ((Gr.ts r _).trans g)]
theorem Ir:∀(l:G (Bs × To)){c z:Cont},(∀p∈l,jK p.2)->Gr (c.sc l).1 z->(c.sc l).2.map (λq=>aP (z.nl 2) q.obj)=l.map Prod.fst/\(c.sc l).2.map (λq=>jH (z.nl 0) q.v)=l.map Prod.snd
 |[],_,_,_,_=>⟨rfl,rfl⟩
 |p::r,c,z,a,g=>by
  obtain⟨o,s⟩:=Ir r (λq t=>a q (d9 _ t)) g;have m:=(Gr.sc r ((c.put 2 p.1).dh p.2).1).trans g
  constructor
  .show aP (z.nl 2) (c.no 2 p.1)::_=p.1::_
   rw[o,iD ((Gr.dh _ p.2).trans m)]
  .show jH (z.nl 0) ((c.put 2 p.1).dh p.2).2::_=p.2::_
   rw[s,Iq (a p fQ) m]
structure kT (c z:Cont)(e d m q:G aJ):Prop where
 e:D6 z=D6 c++e
 d:Ce z=Ce c++d
 m:Cg z=Cg c++m
 q:Ch z=Ch c++q
variable{y:Cont}
theorem kT.eU (a:fJ c)(g:Gr c y)(n:Nm c y)(e:EvC)(l:G Sn)(x:aJ)(o:fM (y.ev e l) e l=x):kT c (y.ev e l) [x] [] [] []:=by
 have m:=g.trans (Gr.ev y e l);refine⟨?_,?_,?_,?_⟩
 .show((y.E++[e]).zip (y.SE++[l])).map _=_
  rw[n.e,n.se,uy a.le,eY,BJ a m,rz,o]
 .show(y.D.zip y.SD).map _=_
  rw[n.d,n.sd,dm];exact BK a m
 .show(y.M.zip y.SM).map _=_
  rw[n.m,n.sm,dm];exact BL a m
 .show y.Q.map _=_
  rw[n.q,dm];exact BM a m
def lT (a b:C)(l:aJ):G aJ:=if a<=l.kind/\l.kind<=b then [l] else []
variable{l:aJ}
theorem mU {b:C}(m:a<=l.kind/\l.kind<=b):lT a b l=[l]:=av m
theorem gW {b:C}(m:¬(a<=l.kind/\l.kind<=b)):lT a b l=[]:=au m
theorem kT.add (s:fJ c)(hl:eF l):kT c (aT c l) (lT 1 6 l) (lT 7 7 l) (lT 8 8 l) (lT 9 9 l):=by
 obtain⟨kd,m,lv,u,Z,bt⟩:=l;obtain⟨hw,hv,hc⟩:=hl;simp only at hw hv hc;rcases hc with⟨rfl,o,rfl,⟨lw,rfl,h3,h4⟩,rfl,rfl⟩|⟨rfl,o,rfl,rfl,rfl,rfl⟩|⟨rfl,o,h2,rfl,rfl,rfl⟩|⟨rfl,⟨cc,o,h2,γ⟩,_,rfl,rfl,rfl⟩|⟨rfl,o,rfl,rfl,rfl,rfl⟩|⟨rfl,o,rfl,rfl,rfl,rfl⟩|⟨rfl,⟨cc,o,γ⟩,rfl,rfl,rfl,rfl⟩|⟨rfl,⟨cc,o,γ⟩,rfl,rfl,_,rfl⟩|⟨rfl,o,rfl,rfl,rfl,⟨bb,rfl,h5⟩⟩
 .obtain⟨a,b,rfl⟩:=yL o
  have g:=Gr.put (c.put 0 a) 1 b;refine kT.eU s ((Gr.put c 0 a).trans g) ((Nm.put c 0 a).trans (Nm.put _ 1 b)) _ _ _ ?_;show(⟨1,[aP (((c.put 0 a).put 1 b).nl 0) (c.no 0 a),aP (((c.put 0 a).put 1 b).nl 1) ((c.put 0 a).no 1 b)],_,[],false,0⟩:aJ)=_;rw[iD g,iD (Gr.refl _)]
 .obtain⟨a,b,rfl⟩:=yL o
  have g:=Gr.put (c.put 0 a) 2 b;refine kT.eU s ((Gr.put c 0 a).trans g) ((Nm.put c 0 a).trans (Nm.put _ 2 b)) _ _ _ ?_;show(⟨2,[aP (((c.put 0 a).put 2 b).nl 0) (c.no 0 a),aP (((c.put 0 a).put 2 b).nl 2) ((c.put 0 a).no 2 b)],_,[],false,0⟩:aJ)=_;rw[iD g,iD (Gr.refl _)]
 .obtain⟨a,b,rfl⟩:=yL o
  obtain⟨v,rfl⟩:=vE h2;have δ:=hv v ak;have x:=Gr.dh ((c.put 0 a).put 2 b) v;have g:=(Gr.put (c.put 0 a) 2 b).trans x;refine kT.eU s ((Gr.put c 0 a).trans g) (((Nm.put c 0 a).trans (Nm.put _ 2 b)).trans (Nm.dh _ v)) _ _ _ ?_;show(⟨3,[aP ((((c.put 0 a).put 2 b).dh v).1.nl 0) (c.no 0 a),aP ((((c.put 0 a).put 2 b).dh v).1.nl 2) ((c.put 0 a).no 2 b)],_,[jH ((((c.put 0 a).put 2 b).dh v).1.nl 0) (((c.put 0 a).put 2 b).dh v).2],false,0⟩:aJ)=_;rw[iD g,iD x,Iq δ (Gr.refl _)]
 .match m,o with
  |a::b::m,o=>
  have hz:∀p∈m.zip u,jK p.2:=λp hp=>hv _ (BF hp).2
  have ε:m.length=u.length:=by simp only[dK] at o;omega
  have x:=Gr.sc (m.zip u) ((c.put 0 a).put 3 b);have g:=(Gr.put (c.put 0 a) 3 b).trans x;refine kT.eU s ((Gr.put c 0 a).trans g) (((Nm.put c 0 a).trans (Nm.put _ 3 b)).trans (Nm.sc (m.zip u) _)) _ _ _ ?_;obtain⟨E,K⟩:=Ir (m.zip u) hz (Gr.refl (((c.put 0 a).put 3 b).sc (m.zip u)).1);show(⟨4,[aP ((((c.put 0 a).put 3 b).sc (m.zip u)).1.nl 0) (c.no 0 a),aP ((((c.put 0 a).put 3 b).sc (m.zip u)).1.nl 3) ((c.put 0 a).no 3 b)]++(((c.put 0 a).put 3 b).sc (m.zip u)).2.map (λq=>aP ((((c.put 0 a).put 3 b).sc (m.zip u)).1.nl 2) q.obj),_,(((c.put 0 a).put 3 b).sc (m.zip u)).2.map (λq=>jH ((((c.put 0 a).put 3 b).sc (m.zip u)).1.nl 0) q.v),false,0⟩:aJ)=_;rw[E,K,iD g,iD x,zG ah,List.map_snd_zip ah]
  rfl
 .obtain⟨a,rfl⟩:=vE o
  refine kT.eU s (Gr.put c 0 a) (Nm.put c 0 a) _ _ _ ?_;show(⟨5,[aP ((c.put 0 a).nl 0) (c.no 0 a)],_,[],false,0⟩:aJ)=_;rw[iD (Gr.refl _)]
 .obtain⟨a,rfl⟩:=vE o
  refine kT.eU s (Gr.put c 0 a) (Nm.put c 0 a) _ _ _ ?_;show(⟨6,[aP ((c.put 0 a).nl 0) (c.no 0 a)],_,[],false,0⟩:aJ)=_;rw[iD (Gr.refl _)]
 .match m,o with
  |a::m,o=>
  have x:=Gr.ts m (c.put 2 a);have g:=(Gr.put c 2 a).trans x;have n:=(Nm.put c 2 a).trans (Nm.ts m (c.put 2 a));rw[gW ak,mU ak,gW ak,gW ak];obtain⟨y,A⟩:∃y,y=((c.put 2 a).ts m).1:=⟨_,rfl⟩;obtain⟨r,R⟩:∃r,r=((c.put 2 a).ts m).2:=⟨_,rfl⟩;have S:aT c ⟨7,a::m,0,[],false,0⟩={y with D:=c.D++[⟨c.no 2 a,H,0,0⟩],SD:=c.SD++[r]}:=by rw[A,R];rfl
  have E:r.map (aP (y.nl 0))=m:=by rw[A,R];exact CV m (Gr.refl _)
  have K:aP (y.nl 2) (c.no 2 a)=a:=by rw[A];exact iD x
  rw[<-A] at g n;have t:Gr c {y with D:=c.D++[⟨c.no 2 a,H,0,0⟩],SD:=c.SD++[r]}:=⟨g.n,g.e,eu _ _,g.m,g.q⟩;rw[S];refine⟨?_,?_,?_,?_⟩
  .exact(bJ (List.map _) (congr (bJ List.zip n.e) n.se)).trans ((BJ s t).trans (dm _).symm)
  .show((c.D++[_]).zip (c.SD++[r])).map _=_
   rw[uy s.ld,eY,BK s t,rz];show _++[(⟨7,[aP (y.nl 2) (c.no 2 a)]++r.map (aP (y.nl 0)),0,[],false,0⟩:aJ)]=_;rw[E,K];rfl
  .exact(bJ (List.map _) (congr (bJ List.zip n.m) n.sm)).trans ((BL s t).trans (dm _).symm)
  .exact(bJ (List.map _) n.q).trans ((BM s t).trans (dm _).symm)
 .match m,o with
  |a::b::m,o=>
  have x:=Gr.ts m ((c.put 3 a).put 2 b);have g3:=(Gr.put (c.put 3 a) 2 b).trans x;have g:=(Gr.put c 3 a).trans g3;have n:=((Nm.put c 3 a).trans (Nm.put (c.put 3 a) 2 b)).trans (Nm.ts m _);rw[gW ak,gW ak,mU ak,gW ak];obtain⟨y,A⟩:∃y,y=(((c.put 3 a).put 2 b).ts m).1:=⟨_,rfl⟩;obtain⟨r,R⟩:∃r,r=(((c.put 3 a).put 2 b).ts m).2:=⟨_,rfl⟩;have S:aT c ⟨8,a::b::m,0,[],Z,0⟩={y with M:=c.M++[⟨c.no 3 a,(c.put 3 a).no 2 b,Z,H,0,0⟩],SM:=c.SM++[r]}:=by rw[A,R];rfl
  have E:r.map (aP (y.nl 0))=m:=by rw[A,R];exact CV m (Gr.refl _)
  have K:aP (y.nl 3) (c.no 3 a)=a:=by rw[A];exact iD g3
  have h8:aP (y.nl 2) ((c.put 3 a).no 2 b)=b:=by rw[A];exact iD x
  rw[<-A] at g n;have t:Gr c {y with M:=c.M++[⟨c.no 3 a,(c.put 3 a).no 2 b,Z,H,0,0⟩],SM:=c.SM++[r]}:=⟨g.n,g.e,g.d,eu _ _,g.q⟩;rw[S];refine⟨?_,?_,?_,?_⟩
  .exact(bJ (List.map _) (congr (bJ List.zip n.e) n.se)).trans ((BJ s t).trans (dm _).symm)
  .exact(bJ (List.map _) (congr (bJ List.zip n.d) n.sd)).trans ((BK s t).trans (dm _).symm)
  .show((c.M++[_]).zip (c.SM++[r])).map _=_
   rw[uy s.lm,eY,BL s t,rz];show _++[(⟨8,[aP (y.nl 3) (c.no 3 a),aP (y.nl 2) ((c.put 3 a).no 2 b)]++r.map (aP (y.nl 0)),0,[],Z,0⟩:aJ)]=_;rw[E,K,h8];rfl
  .exact(bJ (List.map _) n.q).trans ((BM s t).trans (dm _).symm)
 .obtain⟨a,rfl⟩:=vE o
  rw[gW ak,gW ak,gW ak,mU ak];have S:aT c ⟨9,[a],0,[],false,(bb:C)⟩={c.put 1 a with Q:=c.Q++[⟨c.no 1 a,(bb:C)⟩]}:=rfl;have g:=Gr.put c 1 a;have t:Gr c {c.put 1 a with Q:=c.Q++[⟨c.no 1 a,(bb:C)⟩]}:=⟨g.n,g.e,g.d,g.m,eu _ _⟩;rw[S];refine⟨?_,?_,?_,?_⟩
  .exact(BJ (c:=c) s t).trans (dm _).symm
  .exact(BK (c:=c) s t).trans (dm _).symm
  .exact(BL (c:=c) s t).trans (dm _).symm
  .show(c.Q++[_]).map _=_
   rw[eY,BM s t,rz];show _++[(⟨9,[aP ((c.put 1 a).nl 1) (c.no 1 a)],0,[],false,(bb:C)⟩:aJ)]=_;rw[iD (Gr.refl _)]
theorem kT.trans {e l m q o p r s:G aJ}(a:kT c y e l m q)(k:kT y z o p r s):kT c z (e++o) (l++p) (m++r) (q++s):=
 ⟨by rw[k.e,a.e,dw],by rw[k.d,a.d,dw],by rw[k.m,a.m,dw],by rw[k.q,a.q,dw]⟩
theorem kT.refl (c:Cont):kT c c [] [] [] []:=⟨by rw[dm],by rw[dm],by rw[dm],by rw[dm]⟩
def Gz (ls:G aJ):G aJ:=ls.flatMap (lT 1 6)++ls.flatMap (lT 7 7)++ls.flatMap (lT 8 8)++ls.flatMap (lT 9 9)
theorem kT.all:∀(ls:G aJ){c:Cont},fJ c->(∀l∈ls,l.kind=0\/eF l)->aI (dI c ls)->kT c (dI c ls) (ls.flatMap (lT 1 6)) (ls.flatMap (lT 7 7)) (ls.flatMap (lT 8 8)) (ls.flatMap (lT 9 9))
 |[],c,_,_,_=>kT.refl c
 |l::ls,c,h,o,a=>by
  have p:=λx q=>o x (d9 l q)
  rw[gZ,gZ,gZ,gZ];rcases o l fQ with m|m
  .have e:dI c (l::ls)=dI c ls:=by show dI (aT c l) ls=_;rw[Il m]
   rw[e] at a ⊢;rw[gW ah,gW ah,gW ah,gW ah];exact kT.all ls h p a
  .have hs:=h.add m ((Gr.all ls _).fits a)
   exact(kT.add h m).trans (kT.all ls hs p a)
theorem OE {ls:G aJ}(a:∀l∈ls,l.kind=0\/eF l)(m:aI (dI eZ ls)):dL (dI eZ ls)=Gz ls:=by
 have h:=kT.all ls fJ.zero a m;have e:dL (dI eZ ls)=D6 (dI eZ ls)++Ce (dI eZ ls)++Cg (dI eZ ls)++Ch (dI eZ ls):=rfl;rw[e,h.e,h.d,h.m,h.q]
 rfl
theorem JS {ls:G aJ}(a:∀l∈ls,l.kind=0\/eF l)(m:aI (dI eZ ls)):lU (dI eZ (Gz ls)) (eG (dI eZ ls)):=by
 rw[<-OE a m];exact JR (fJ.zero.all ls a m) (jw.zero.all ls)
def Adds (f:Cont->Cont)(S:V->Bs->Prop):Prop:=∀c,(∀i x,x∈(f c).nl i↔x∈c.nl i\/S i x)/\((∀i,(c.nl i).Nodup)->∀i,((f c).nl i).Nodup)
theorem Adds.put (j:V)(s:Bs):Adds (λc=>c.put j s) (λi x=>i=j/\x=s):=λc=>by
 constructor
 .intro i x
  show x∈(if i=j then dJ (c.nl j) s else c.nl i)↔_
  split
  .rename_i h
   subst h
   constructor
   .intro h
    unfold dJ at h
    split at h
    .exact .inl h
    .rcases cu.1 h with h|h
     .exact .inl h
     .exact .inr ⟨rfl,bX.1 h⟩
   .rintro(h|⟨_,rfl⟩)
    .exact(CW _ _).subset h
    .exact zF _ _
  .rename_i h
   simp[h]
 .intro hn i
  show(if i=j then dJ (c.nl j) s else c.nl i).Nodup
  split
  .exact zB (hn j)
  .exact hn i
theorem Adds.id:Adds (λc=>c) (λ_ _=>False):=λc=>⟨λi x=>by simp,λh=>h⟩
theorem Adds.comp {f g:Cont->Cont}{S T:V->Bs->Prop}(a:Adds f S)(k:Adds g T):Adds (λc=>g (f c)) (λi x=>S i x\/T i x):=λc=>
 ⟨λi x=>by rw[((k (f c)).1 i x),((a c).1 i x),or_assoc],λhn=>(k (f c)).2 ((a c).2 hn)⟩
theorem Adds.eq {f g:Cont->Cont}{S:V->Bs->Prop}(a:Adds f S)(e:∀c i,(g c).nl i=(f c).nl i):Adds g S:=λc=>
 ⟨λi x=>by rw[e];exact(a c).1 i x,λhn i=>by rw[e];exact(a c).2 hn i⟩
theorem Adds.dh (v:To):∃S,Adds (λc=>(c.dh v).1) S:=by
 by_cases a:v.k=0
 .exact⟨_,Adds.id.eq (λc i=>by unfold Cont.dh;rw[av a])⟩
 .exact⟨_,(Adds.put 0 v.name).eq (λc i=>by unfold Cont.dh;rw[au a])⟩
theorem Adds.ts:∀l:G Bs,∃S,Adds (λc=>(c.ts l).1) S
 |[]=>⟨_,Adds.id⟩
 |s::r=>by
  obtain⟨S,h⟩:=Adds.ts r;exact⟨_,(Adds.put 0 s).comp h⟩
theorem Adds.sc:∀l:G (Bs × To),∃S,Adds (λc=>(c.sc l).1) S
 |[]=>⟨_,Adds.id⟩
 |p::r=>by
  obtain⟨S,h⟩:=Adds.sc r;obtain⟨T,k⟩:=Adds.dh p.2;exact⟨_,((Adds.put 2 p.1).comp k).comp h⟩
theorem Adds.add (l:aJ):∃S,Adds (λc=>aT c l) S:=by
 obtain⟨q,a⟩:=Adds.dh (l.aN.getD 0 ⟨[],0⟩);obtain⟨r,m⟩:=Adds.sc ((l.names.drop 2).zip l.aN);obtain⟨s,o⟩:=Adds.ts (l.names.drop 1);obtain⟨t,p⟩:=Adds.ts (l.names.drop 2);unfold aT;simp only[]
 split
 .exact⟨_,((Adds.put 0 _).comp (Adds.put 1 _)).eq (λc i=>rfl)⟩
 .split
  .exact⟨_,((Adds.put 0 _).comp (Adds.put 2 _)).eq (λc i=>rfl)⟩
  .split
   .exact⟨_,(((Adds.put 0 _).comp (Adds.put 2 _)).comp a).eq (λc i=>rfl)⟩
   .split
    .exact⟨_,(((Adds.put 0 _).comp (Adds.put 3 _)).comp m).eq (λc i=>rfl)⟩
    .split
     .exact⟨_,(Adds.put 0 _).eq (λc i=>rfl)⟩
     .split
      .exact⟨_,((Adds.put 2 _).comp o).eq (λc i=>rfl)⟩
      .split
       .exact⟨_,(((Adds.put 3 _).comp (Adds.put 2 _)).comp p).eq (λc i=>rfl)⟩
       .split
        .exact⟨_,(Adds.put 1 _).eq (λc i=>rfl)⟩
        .exact⟨_,Adds.id⟩
def Says (l:aJ)(i:V)(x:Bs):Prop:=x∈(aT eZ l).nl i
theorem Says.zero (a:l.kind=0)(i:V)(x:Bs):¬Says l i x:=λk=>by
 unfold Says at k;rw[Il a] at k
 cases k
def AO (c:Cont):Prop:=∀e∈c.E,aY e.t (c.nl 0).length=O/\(e.kind=2->aY e.obj (c.nl 2).length=O)
def wK (c:Cont)(e:EvC):C × Bs × Bs:=(e.kind,aP (c.nl 0) e.t,if e.kind=2 then aP (c.nl 2) e.obj else [])
def EK (l:aJ):C × Bs × Bs:=(l.kind,l.names.getD 0 [],if l.kind=2 then l.names.getD 1 [] else [])
def keys (c:Cont):G (C × Bs × Bs):=c.E.map (wK c)
theorem Uu (g:Gr c z){e:EvC}(l:aY e.t (c.nl 0).length=O/\(e.kind=2->aY e.obj (c.nl 2).length=O)):wK z e=wK c e:=by
 unfold wK;rw[jX (g.n 0) l.1];by_cases a:e.kind=2
 .rw[av a,av a,jX (g.n 2) (l.2 a)]
 .rw[au a,au a]
theorem AO.grow (l:AO c)(g:Gr c z)(n:z.E=c.E):AO z/\keys z=keys c:=by
 constructor
 .intro e a
  rw[n] at a;exact⟨dG (l e a).1 (g.len 0),λm=>dG ((l e a).2 m) (g.len 2)⟩
 .unfold keys
  rw[n];exact lN (λe a=>Uu g (l e a))
theorem AO.eU (l:AO c)(g:Gr c y)(n:Nm c y)(e:EvC)(s:G Sn)(m:aY e.t (y.nl 0).length=O)(o:e.kind=2->aY e.obj (y.nl 2).length=O){k:C × Bs × Bs}(p:wK y e=k):
  AO (y.ev e s)/\keys (y.ev e s)=keys c++[k]:=by
 obtain⟨q,r⟩:=l.grow g n.e
 constructor
 .intro x a
  rcases cu.1 a with a|a
  .exact q x a
  .rw[bX.1 a];exact⟨m,o⟩
 .show(y.E++[e]).map (wK y)=_
  rw[eY,rz,p];exact bJ (·++[k]) r
theorem AO.zero:AO eZ:=λe a=>by cases a
theorem AO.add (a:AO c)(l:aJ):AO (aT c l)/\keys (aT c l)=keys c++(lT 1 6 l).map EK:=by
 unfold aT;simp only[]
 split
 .rename_i m
  rw[mU ah,rz];refine a.eU ((Gr.put c 0 _).trans (Gr.put _ 1 _)) ((Nm.put c 0 _).trans (Nm.put _ 1 _)) _ _ (dG (gT c 0 _) ((Gr.put _ 1 _).len 0)) (λk=>by cases k) ?_;unfold wK EK;rw[iD (Gr.put _ 1 _),m];rfl
 .split
  .rename_i m
   rw[mU ah,rz];refine a.eU ((Gr.put c 0 _).trans (Gr.put _ 2 _)) ((Nm.put c 0 _).trans (Nm.put _ 2 _)) _ _ (dG (gT c 0 _) ((Gr.put _ 2 _).len 0)) (λ_=>gT _ 2 _) ?_;unfold wK EK;rw[iD (Gr.put _ 2 _),iD (Gr.refl _),m]
  .split
   .rename_i m
    rw[mU ah,rz];have g:=(Gr.put (c.put 0 (l.names.getD 0 [])) 2 (l.names.getD 1 [])).trans (Gr.dh _ (l.aN.getD 0 ⟨[],0⟩));refine a.eU ((Gr.put c 0 _).trans g) (((Nm.put c 0 _).trans (Nm.put _ 2 _)).trans (Nm.dh _ _)) _ _ (dG (gT c 0 _) (g.len 0)) (λk=>by cases k) ?_;unfold wK EK;rw[iD g,m];rfl
   .split
    .rename_i m
     rw[mU ah,rz];have g:=(Gr.put (c.put 0 (l.names.getD 0 [])) 3 (l.names.getD 1 [])).trans (Gr.sc ((l.names.drop 2).zip l.aN) _);refine a.eU ((Gr.put c 0 _).trans g) (((Nm.put c 0 _).trans (Nm.put _ 3 _)).trans (Nm.sc _ _)) _ _ (dG (gT c 0 _) (g.len 0)) (λk=>by cases k) ?_;unfold wK EK;rw[iD g,m];rfl
    .split
     .rename_i o _ _ m
      rw[mU ah,rz];refine a.eU (Gr.put c 0 _) (Nm.put c 0 _) _ _ (gT c 0 _) (λk=>absurd k o) ?_;unfold wK EK;rw[iD (Gr.refl _)];simp only[au o]
     .split
      .rw[gW ah,jN,dm]
       have g:=(Gr.put c 2 (l.names.getD 0 [])).trans (Gr.ts (l.names.drop 1) _);exact a.grow ⟨g.n,g.e,eu _ _,g.m,g.q⟩ ((Nm.put c 2 _).trans (Nm.ts _ _)).e
      .split
       .rw[gW ah,jN,dm]
        have g:=((Gr.put c 3 (l.names.getD 0 [])).trans (Gr.put _ 2 (l.names.getD 1 []))).trans (Gr.ts (l.names.drop 2) _);exact a.grow ⟨g.n,g.e,g.d,eu _ _,g.q⟩ (((Nm.put c 3 _).trans (Nm.put _ 2 _)).trans (Nm.ts _ _)).e
       .split
        .rw[gW ah,jN,dm]
         have g:=Gr.put c 1 (l.names.getD 0 []);exact a.grow ⟨g.n,g.e,g.d,g.m,eu _ _⟩ rfl
        .rw[gW ah,jN,dm]
         exact⟨a,rfl⟩
variable{a:Cont}
theorem lU.symm {b:Cont}(l:lU a b):lU b a:=⟨λi m=>(l.n i m).symm,l.E.symm,l.SE.symm,l.D.symm,l.SD.symm,l.M.symm,l.SM.symm,l.Q.symm⟩
theorem lU.trans {b:Cont}(l:lU a b)(k:lU b c):lU a c:=⟨λi m=>(l.n i m).trans (k.n i m),l.E.trans k.E,l.SE.trans k.SE,l.D.trans k.D,l.SD.trans k.SD,l.M.trans k.M,l.SM.trans k.SM,l.Q.trans k.Q⟩
theorem kD (l:kZ a){n:C}(m:aY n (a.nl i).length=O):bG ⟨(aP (a.nl i) n).toArray⟩=O:=by
 simp only[aY,aM,aV] at m;obtain⟨k,rfl⟩:∃k:V,n=(k:C):=⟨n.toNat,by omega⟩;rw[oD _ ah];exact(l i).2 _ (List.getElem_mem _)
theorem FK {l:Cont}(o:kZ l)(a:gq v (l.nl 0).length=O):jK (jH (l.nl 0) v):=by
 unfold jH;by_cases m:v.k=0
 .rw[av m];exact .inl rfl
 .unfold gq at a
  rw[au m] at a ⊢;simp only[aM,aV] at a;exact .inr ⟨kD o a.1.1,a.1.2,a.2⟩
theorem Iu {p:Cont}(q:kZ p){e:EvC}{l:G Sn}(R:fZ (p.nl 0).length (p.nl 1).length (p.nl 2).length (p.nl 3).length e l=O):eF (fM p e l)/\(fM p e l).kind=e.kind/\1<=e.kind/\e.kind<=6:=by
 simp only[fZ,aM,aV] at R;obtain⟨⟨⟨⟨γ,δ⟩,o⟩,a⟩,_⟩:=R;have u:=kD q o;unfold hasB at a;unfold fM;by_cases v:e.kind=1
 .rw[av v] at a ⊢
  simp only[aM,fO,aV] at a;have r:=kD q a.1;refine⟨⟨λx m=>?_,λt o=>(by cases o),.inl ⟨v,rfl,rfl,⟨e.lvl.toNat,by simp only[];omega,by omega,by omega⟩,rfl,rfl⟩⟩,rfl,by omega,by omega⟩;simp only[dO,BN,or_false] at m;rcases m with rfl|rfl
  .exact u
  .exact r
 .rw[au v] at a ⊢
  by_cases y:e.kind=2
  .rw[av y] at a ⊢
   simp only[aM] at a;have r:=kD q a.1.1.1;refine⟨⟨λx m=>?_,λt o=>(by cases o),.inr (.inl ⟨y,rfl,rfl,rfl,rfl,rfl⟩)⟩,rfl,by omega,by omega⟩;simp only[dO,BN,or_false] at m;rcases m with rfl|rfl
   .exact u
   .exact r
  .rw[au y] at a ⊢
   by_cases A:e.kind=3
   .rw[av A] at a ⊢
    simp only[aM] at a;have r:=kD q a.1;refine⟨⟨λx m=>?_,λt o=>?_,.inr (.inr (.inl ⟨A,rfl,rfl,rfl,rfl,rfl⟩))⟩,rfl,by omega,by omega⟩
    .simp only[dO,BN,or_false] at m
     rcases m with rfl|rfl
     .exact u
     .exact r
    .rw[bX.1 o];exact FK q a.2
   .rw[au A] at a ⊢
    by_cases E:e.kind=4
    .rw[av E] at a ⊢
     simp only[aM,dZ,aV] at a;have hs:∀s∈l,aY s.obj (p.nl 2).length=O/\gq s.v (p.nl 0).length=O:=λs hs=>by
      have:=a.2 s hs
      simpa only[jG,aM] using this
     have r:=kD q a.1.1;refine⟨⟨λx m=>?_,λt o=>?_,.inr (.inr (.inr (.inl ⟨E,⟨l.length,by simp,by simp,a.1.2⟩,trivial,rfl,rfl,rfl⟩)))⟩,rfl,by omega,by omega⟩
     .rcases cu.1 m with m|m
      .simp only[dO,BN,or_false] at m
       rcases m with rfl|rfl
       .exact u
       .exact r
      .obtain⟨s,K,rfl⟩:=bS.1 m
       exact kD q (hs s K).1
     .obtain⟨s,K,rfl⟩:=bS.1 o
      exact FK q (hs s K).2
    .rw[au E]
     have Z:e.kind=5\/e.kind=6:=by omega
     have S:∀x∈[aP (p.nl 0) e.t],bG ⟨x.toArray⟩=O:=λx m=>by rw[bX.1 m];exact u
     rcases Z with Q|Q
     .exact⟨⟨S,λt o=>(by cases o),.inr (.inr (.inr (.inr (.inl ⟨Q,rfl,rfl,rfl,rfl,rfl⟩))))⟩,rfl,by omega,by omega⟩
     .exact⟨⟨S,λt o=>(by cases o),.inr (.inr (.inr (.inr (.inr (.inl ⟨Q,rfl,rfl,rfl,rfl,rfl⟩)))))⟩,rfl,by omega,by omega⟩
theorem Q9 (q:kZ a){x:aG}{l:G C}(r:aY x.obj (a.nl 2).length=O)(o:fu (a.nl 0).length l=O):eF (mD a x l):=by
 simp only[fu,aM,dZ,aV] at o;refine⟨λy m=>?_,λt p=>(by cases p),.inr (.inr (.inr (.inr (.inr (.inr (.inl ⟨rfl,⟨l.length,by simp[mD],o.1⟩,rfl,rfl,rfl,rfl⟩))))))⟩;rcases cu.1 (show y∈[aP (a.nl 2) x.obj]++l.map (aP (a.nl 0)) from m) with m|m
 .rw[bX.1 m];exact kD q r
 .obtain⟨t,p,rfl⟩:=bS.1 m
  exact kD q (o.2 t p)
theorem Ra (o:kZ a){x:aK}{l:G C}(r:aY x.pred (a.nl 3).length=O)(s:aY x.obj (a.nl 2).length=O)(p:fu (a.nl 0).length l=O):eF (mE a x l):=by
 simp only[fu,aM,dZ,aV] at p;refine⟨λy m=>?_,λt q=>(by cases q),.inr (.inr (.inr (.inr (.inr (.inr (.inr (.inl ⟨rfl,⟨l.length,by simp[mE],p.1⟩,rfl,rfl,trivial,rfl⟩)))))))⟩;rcases cu.1 (show y∈[aP (a.nl 3) x.pred,aP (a.nl 2) x.obj]++l.map (aP (a.nl 0)) from m) with m|m
 .simp only[dO,BN,or_false] at m
  rcases m with rfl|rfl
  .exact kD o r
  .exact kD o s
 .obtain⟨t,q,rfl⟩:=bS.1 m
  exact kD o (p.2 t q)
theorem Uv (l:kZ a){x:Wa}(m:aY x.eH (a.nl 1).length=O)(q:0<=x.bits)(r:x.bits<=15):eF (pI a x):=by
 refine⟨λy o=>?_,λt p=>(by cases p),.inr (.inr (.inr (.inr (.inr (.inr (.inr (.inr ⟨rfl,rfl,rfl,rfl,rfl,⟨x.bits.toNat,by show x.bits=_;omega,by omega⟩⟩)))))))⟩;rw[bX.1 (show y∈[aP (a.nl 1) x.eH] from o)];exact kD l m
theorem xu {q:Cont}(m:fJ q):∀l∈dL q,eF l:=λl a=>by
 unfold dL at a;rcases cu.1 a with a|a
 .rcases cu.1 a with a|a
  .rcases cu.1 a with a|a
   .obtain⟨p,o,rfl⟩:=bS.1 a
    exact(Iu m.nm (m.ev p o)).1
   .obtain⟨p,o,rfl⟩:=bS.1 a
    exact Q9 m.nm (m.od p o).1 (m.od p o).2
  .obtain⟨p,o,rfl⟩:=bS.1 a
   exact Ra m.nm (m.ma p o).1 (m.ma p o).2.1 (m.ma p o).2.2
 .obtain⟨p,o,rfl⟩:=bS.1 a
  exact Uv m.nm (m.wa p o).1 (m.wa p o).2.1 (m.wa p o).2.2
theorem wM {a b:C}:∀{ls:G aJ},(∀l∈ls,a<=l.kind/\l.kind<=b)->ls.flatMap (lT a b)=ls
 |[],_=>rfl
 |l::ls,h=>by rw[gZ,mU (h l fQ),wM (λx m=>h x (d9 _ m))];rfl
theorem kE {a b:C}:∀{ls:G aJ},(∀l∈ls,¬(a<=l.kind/\l.kind<=b))->ls.flatMap (lT a b)=[]
 |[],_=>rfl
 |l::ls,h=>by rw[gZ,gW (h l fQ),kE (λx m=>h x (d9 _ m))];rfl
theorem Md {o:Cont}(v:fJ o):Gz (dL o)=dL o:=by
 have q:∀l∈D6 o,1<=l.kind/\l.kind<=6:=λl m=>by
  obtain⟨p,r,rfl⟩:=bS.1 m;have:=(Iu v.nm (v.ev p r)).2;rw[this.1];exact this.2
 have s:∀l∈Ce o,l.kind=7:=λl m=>by obtain⟨p,r,rfl⟩:=bS.1 m;rfl
 have t:∀l∈Cg o,l.kind=8:=λl m=>by obtain⟨p,r,rfl⟩:=bS.1 m;rfl
 have u:∀l∈Ch o,l.kind=9:=λl m=>by obtain⟨p,r,rfl⟩:=bS.1 m;rfl
 have e:dL o=D6 o++Ce o++Cg o++Ch o:=rfl;unfold Gz;rw[e];simp only[List.flatMap_append];rw[wM q,kE (a:=7) (ls:=D6 o) (λl m=>by have:=q l m;omega),kE (a:=8) (ls:=D6 o) (λl m=>by have:=q l m;omega),kE (a:=9) (ls:=D6 o) (λl m=>by have:=q l m;omega),
  kE (a:=1) (ls:=Ce o) (λl m=>by have:=s l m;omega),wM (a:=7) (ls:=Ce o) (λl m=>by have:=s l m;omega),kE (a:=8) (ls:=Ce o) (λl m=>by have:=s l m;omega),kE (a:=9) (ls:=Ce o) (λl m=>by have:=s l m;omega),
  kE (a:=1) (ls:=Cg o) (λl m=>by have:=t l m;omega),kE (a:=7) (ls:=Cg o) (λl m=>by have:=t l m;omega),wM (a:=8) (ls:=Cg o) (λl m=>by have:=t l m;omega),kE (a:=9) (ls:=Cg o) (λl m=>by have:=t l m;omega),
  kE (a:=1) (ls:=Ch o) (λl m=>by have:=u l m;omega),kE (a:=7) (ls:=Ch o) (λl m=>by have:=u l m;omega),kE (a:=8) (ls:=Ch o) (λl m=>by have:=u l m;omega),wM (a:=9) (ls:=Ch o) (λl m=>by have:=u l m;omega)]
 simp
theorem Me (o:um a)(m:fJ a)(p:iq a)(hc:jw a)(r:aI a):aI (dI eZ (dL a))/\lU (eG (dI eZ (dL a))) a:=by
 have hn:=λi=>(m.nm i).1
 have q:=OB o hn m p hc r (dL a) [] (dm _).symm;have h:=JS (λl s=> .inr (xu m l s)) q;rw[Md m] at h;exact⟨q,h.symm.trans (AL o hn m p hc)⟩
def lg {a l:Type}(B:V)(X:World)(T:TypeId)(o:V)(enc:l->G Value)(val:a->Value)(xs:G a)(p:G (G l))(k:V):Prop:=
 (∀i x m,i<k->xs[i]?=I x->p[i]?=I m->Own X B T o enc (val x) m)/\∀i j x y,i<j->j<k->xs[i]?=I x->xs[j]?=I y->∀g,(val x).ownBlock=I g->(val y).ownBlock≠I g
section
variable {α β:Type}{B:V}{X Y:World}{T:TypeId}{ek k:V}{enc:β->G Value}{val:α->Value}{xs:G α}{Ls:G (G β)}
theorem lg.zero:lg B X T ek enc val xs Ls 0:=⟨λ_ _ _ h=>absurd h (Nat.not_lt_zero _),λ_ _ _ _ _ h=>absurd h (Nat.not_lt_zero _)⟩
theorem lg.imp (l:lg B X T ek enc val xs Ls k)(m:∀v a,Own X B T ek enc v a->Own Y B T ek enc v a):lg B Y T ek enc val xs Ls k:=⟨λi x a o p q=>m _ _ (l.1 i x a o p q),l.2⟩
theorem lg.step {y:α}{p:G β}(E:lg B X T ek enc val xs Ls k)(r:lg B Y T ek enc val xs Ls k)(R:xs.length=Ls.length)(s:k<xs.length)(K:Ls[k]?=I p)(t:Own Y X.1.size T ek enc (val y) p)(Q:B<=X.1.size):lg B Y T ek enc val (xs.set k y) Ls (k+1):=by
 refine⟨λi x o S a l=>?_,λi j x z u Z a m g v A=>?_⟩
 .by_cases e:i=k
  .subst e
   rw[List.getElem?_set_self s] at a;injection a with a;rw[K] at l;injection l with l;subst a l;exact t.mono Q
  .rw[List.getElem?_set_ne (λq=>e q.symm)] at a
   exact r.1 i x o ah a l
 .rw[List.getElem?_set_ne ah] at a
  by_cases e:j=k
  .subst e
   rw[List.getElem?_set_self s] at m;injection m with m;subst m;obtain⟨o,l⟩:∃o,Ls[i]?=I o:=⟨_,cB (by have:=(bK.1 a).1;omega)⟩;have h1:=((E.1 i x o u a l).lt g v).2;have h2:=(t.lt g A).1;omega
  .rw[List.getElem?_set_ne (λq=>e q.symm)] at m
   exact r.2 i j x z u ah a m g v A
end
structure HO (w X:World)(h:HC)(es:G EvC)(ds:G aG)(ms:G aK)(c:Cont)(i j k:V):Prop where
 st:St w X h es ds ms c
 oe:Own X w.1.size 49 9 dx h.e.v es
 od:Own X w.1.size 57 2 dV h.d.v ds
 om:Own X w.1.size 60 4 eB h.m.v ms
 oq:Own X w.1.size 63 2 fE h.w.v c.Q
 on:∀q,q<4->Own X w.1.size 9 1 encStr (h.nm q).v (c.nl q)
 fe:lg w.1.size X 53 3 cZ EvC.val es c.SE i
 fd:lg w.1.size X 3 1 aS aG.val ds c.SD j
 fm:lg w.1.size X 3 1 aS aK.val ms c.SM k
 fx:∀i' j' x y,i'<j->j'<k->ds[i']?=I x->ms[j']?=I y->∀g,(aG.val x).ownBlock=I g->(aK.val y).ownBlock≠I g
section
variable {w X Y:World}{h:HC}{es:G EvC}{ds:G aG}{ms:G aK}{c:Cont}{i j k:V}
theorem HO.below (s:HO w X h es ds ms c i j k)(a:Below X.1.size X Y):HO w Y h es ds ms c i j k:=
 ⟨s.st.below a,s.oe.below a rfl,s.od.below a rfl,s.om.below a rfl,s.oq.below a rfl,λq l=>(s.on q l).below a rfl,s.fe.imp (λ_ _ o=>o.below a rfl),s.fd.imp (λ_ _ o=>o.below a rfl),s.fm.imp (λ_ _ o=>o.below a rfl),s.fx⟩
theorem HO.Iw {g:V}{x:EvC}{m:G Sn}(s:HO w X h es ds ms c i j k)(ha:h.e.a=I ⟨g,0,H⟩)(p:es[i]?=I x)(r:c.SE[i]?=I m)(v:Below X.1.size X Y)(sl:Sl)(y:m.length<=2000000)(t:Own Y X.1.size 53 3 cZ sl.v m):
  HO w (Y.setCell ⟨g,i*9+8,H⟩ sl.v) h (es.set i (x.wi sl)) ds ms c (i+1) j k:=by
 have a:=s.below v;have A:h.e.v.ownBlock=I g:=by simp only[Sl.v,ha];rfl
 have l:=a.oe.tag A;have hs:Same (λq=>q≠g) Y (Y.setCell ⟨g,i*9+8,H⟩ sl.v):=(Same.refl' Y).setTail (λq=>q rfl);have u:w.1.size<=X.1.size:=s.st.b.size;obtain⟨E,K⟩:=a.st.Iw a.oe ha p r sl ⟨y,.inr (t.mono u)⟩;refine⟨E,K,a.od.aQ l aj hs,a.om.aQ l aj hs,a.oq.aQ l aj hs,λq Q=>(a.on q Q).aQ l aj hs,lg.step s.fe (a.fe.imp (λ_ _ o=>o.aQ l aj hs)) s.st.se.1 (bK.1 p).1 r (t.aQ l aj hs) u,a.fd.imp (λ_ _ o=>o.aQ l aj hs),a.fm.imp (λ_ _ o=>o.aQ l aj hs),s.fx⟩
theorem HO.Iy {g:V}{x:aG}{p:G C}(s:HO w X h es ds ms c i j k)(ha:h.d.a=I ⟨g,0,H⟩)(r:ds[j]?=I x)(E:c.SD[j]?=I p)(hb:Below X.1.size X Y)(sl:Sl)(hl:p.length<=2000000)(t:Own Y X.1.size 3 1 aS sl.v p):
  HO w (Y.setCell ⟨g,j*2+1,H⟩ sl.v) h es (ds.set j (x.wi sl)) ms c i (j+1) k:=by
 have a:=s.below hb;have δ:h.d.v.ownBlock=I g:=by simp only[Sl.v,ha];rfl
 have l:=a.od.tag δ;have hs:Same (λq=>q≠g) Y (Y.setCell ⟨g,j*2+1,H⟩ sl.v):=(Same.refl' Y).setTail (λq=>q rfl);have K:w.1.size<=X.1.size:=s.st.b.size;obtain⟨h1,h2⟩:=a.st.Iy a.od ha r E sl ⟨hl,.inr (t.mono K)⟩;refine⟨h1,a.oe.aQ l aj hs,h2,a.om.aQ l aj hs,a.oq.aQ l aj hs,λq hq=>(a.on q hq).aQ l aj hs,a.fe.imp (λ_ _ o=>o.aQ l aj hs),lg.step s.fd (a.fd.imp (λ_ _ o=>o.aQ l aj hs)) s.st.sd.1 (bK.1 r).1 E (t.aQ l aj hs) K,a.fm.imp (λ_ _ o=>o.aQ l aj hs),λQ u x' R hi S m v y Z γ=>?_⟩;by_cases e:Q=j
 .subst e
  rw[List.getElem?_set_self (bK.1 r).1] at m;injection m with m;subst m;obtain⟨A,hM⟩:∃A,c.SM[u]?=I A:=⟨_,cB (by have:=(bK.1 v).1;have:=s.st.sm.1;omega)⟩;have h3:=((s.fm.1 u R A S v hM).lt y γ).2;have h4:=(t.lt y Z).1;omega
 .rw[List.getElem?_set_ne (λq=>e q.symm)] at m
  exact s.fx Q u x' R ah S m v y Z γ
theorem HO.Iz {g:V}{x:aK}{p:G C}(s:HO w X h es ds ms c i j k)(ha:h.m.a=I ⟨g,0,H⟩)(r:ms[k]?=I x)(E:c.SM[k]?=I p)(hb:Below X.1.size X Y)(sl:Sl)(hl:p.length<=2000000)(t:Own Y X.1.size 3 1 aS sl.v p):
  HO w (Y.setCell ⟨g,k*4+3,H⟩ sl.v) h es ds (ms.set k (x.wi sl)) c i j (k+1):=by
 have a:=s.below hb;have δ:h.m.v.ownBlock=I g:=by simp only[Sl.v,ha];rfl
 have l:=a.om.tag δ;have hs:Same (λq=>q≠g) Y (Y.setCell ⟨g,k*4+3,H⟩ sl.v):=(Same.refl' Y).setTail (λq=>q rfl);have K:w.1.size<=X.1.size:=s.st.b.size;obtain⟨h1,h2⟩:=a.st.Iz a.om ha r E sl ⟨hl,.inr (t.mono K)⟩;refine⟨h1,a.oe.aQ l aj hs,a.od.aQ l aj hs,h2,a.oq.aQ l aj hs,λq hq=>(a.on q hq).aQ l aj hs,a.fe.imp (λ_ _ o=>o.aQ l aj hs),a.fd.imp (λ_ _ o=>o.aQ l aj hs),lg.step s.fm (a.fm.imp (λ_ _ o=>o.aQ l aj hs)) s.st.sm.1 (bK.1 r).1 E (t.aQ l aj hs) K,λu Q R y' S hj v m y Z γ=>?_⟩;by_cases e:Q=k
 .subst e
  rw[List.getElem?_set_self (bK.1 r).1] at m;injection m with m;subst m;obtain⟨A,hM⟩:∃A,c.SD[u]?=I A:=⟨_,cB (by have:=(bK.1 v).1;have:=s.st.sd.1;omega)⟩;have h3:=((s.fd.1 u R A S v hM).lt y Z).2;have h4:=(t.lt y γ).1;omega
 .rw[List.getElem?_set_ne (λq=>e q.symm)] at m
  exact s.fx u Q R y' S ah v m y Z γ
theorem Own.box {a:Type}{T:TypeId}{n:V}{enc:a->G Value}{v:Value}{xs:G a}(l:Own X w.1.size T n enc v xs)(s:St w X h es ds ms c)(m:T≠28)(q:V)(u:Value):Own (X.setCell ⟨w.1.size,q,H⟩ u) w.1.size T n enc v xs:=l.aQ s.tg m (sameBox s q u)
end
structure Rb (w X:World)(h:HC)(es:G EvC)(ds:G aG)(ms:G aK)(c:Cont):Prop where
 b:Below w.1.size w X
 oe:Own X w.1.size 49 9 dx h.e.v es
 od:Own X w.1.size 57 2 dV h.d.v ds
 om:Own X w.1.size 60 4 eB h.m.v ms
 oq:Own X w.1.size 63 2 fE h.w.v c.Q
 on:∀q,q<4->Own X w.1.size 9 1 encStr (h.nm q).v (c.nl q)
 fe:lg w.1.size X 53 3 cZ EvC.val es c.SE es.length
 fd:lg w.1.size X 3 1 aS aG.val ds c.SD ds.length
 fm:lg w.1.size X 3 1 aS aK.val ms c.SM ms.length
 be:es.map EvC.base=c.E
 bd:ds.map aG.base=c.D
 bm:ms.map aK.base=c.M
 fx:∀x∈ds,∀y∈ms,∀g,(aG.val x).ownBlock=I g->(aK.val y).ownBlock≠I g
 le:es.length=c.SE.length
 ld:ds.length=c.SD.length
 lm:ms.length=c.SM.length
def GA (w:World)(c:Cont)(e:Ending)(X:World):Prop:=∃h es ds ms,e= .returned (bC h)/\Rb w X h es ds ms c
variable{w X:World}
theorem HO.fin {Y:World}{m:HC}{es:G EvC}{p:G aG}{r:G aK}(s:HO w X m es p r c es.length p.length r.length)(a:Same (λi=>i≠w.1.size+1) X Y):GA w c (.returned (bC m)) Y:=by
 have l:=s.st.t2;exact⟨m,es,p,r,rfl,a.below s.st.b (λi t=>by omega) s.st.b.size,s.oe.aQ l aj a,s.od.aQ l aj a,s.om.aQ l aj a,s.oq.aQ l aj a,λq v=>(s.on q v).aQ l aj a,
  s.fe.imp (λ_ _ o=>o.aQ l aj a),s.fd.imp (λ_ _ o=>o.aQ l aj a),s.fm.imp (λ_ _ o=>o.aQ l aj a),s.st.be,s.st.bd,s.st.bm,λx A y E g K Q=>(let⟨i,t⟩:=pO.1 A;let⟨j,u⟩:=pO.1 E;s.fx i j x y (bK.1 t).1 (bK.1 u).1 t u g K Q),s.st.se.1,s.st.sd.1,s.st.sm.1⟩
theorem JU (h:HC)(nl:V->G Bs)(es:G EvC)(p:G aG)(r:G aK)(u:G Wa)(v2:EvC->G Sn)(dn:aG->G C)(mn:aK->G C)(w:World)
  (hn:∀i,i<4->Row w 1 encStr (h.nm i).a (h.nm i).n (h.nm i).c (nl i)) (hd:Deep w h es p r u v2 dn mn) (hB:sj nl es p r u v2 dn mn):
  Calls Tryz.prog 133 #[bC h] w (GA w (iA es.length nl es p r u v2 dn mn)):=by
 have t:=St.start hn hd hB es.length (by rw[hd.1.len];exact aB _);obtain⟨a,hC⟩:∃a,a=iA es.length nl es p r u v2 dn mn:=⟨_,rfl⟩;rw[<-hC] at t ⊢;have v3:=J t;have v6:Hid (a.Q=u):=J (by rw[hC];rfl);have b5:=t.e.1;have b6:=t.d.1;have b7:=t.m.1;clear hn hd hB hC t;obtain⟨ht,hs,ho,hp,he,j3,j4,j5⟩:=h;have o:=v3.q.bx;have s:=v3.q.b2;have E:=o.1;have δ:=o.2.1;have ε:=o.2.2;have ν:=s.1;have ψ:=s.2.1;have ω:=s.2.2;go_enter func133,ntmps133;go_wp2_with fail;refine aC 12 [(0,0),(1,0),(3,0),(4,0),(6,0),(7,0),(9,0),(10,0),(2,2),(12,1),(5,2),(8,2),(11,2),(13,2),(14,1),(15,2),(16,1),(17,2),(18,1),(19,2)] (λ_=>True) (λW'=>Bx W' w.1.size (aD ⟨ht,hs,ho,hp,he,j3,j4,j5⟩)) ay ay (trivial) (v3.q.bx) ?_;refine qC ?_;refine aF rfl rfl (λK l=>?_);go_simp;have j6:=J (v3.q.drew);clear o s E δ ε ν ψ ω;have m:=(j6.q.n 0 aj).row (hc:=eX) j6.q.b;have A:=(j6.q.n 0 aj).1;refine(show Calls _ _ _ _ (eO 9 1 encStr (a.nl 0) _) from by have:=lJ ht.a ht.c (a.nl 0) _ (by rw[m.len];exact m) ah;rw[show(a.nl 0).length=ht.n from m.len] at this;exact this).mono ?_;rintro en Y0 ⟨n0,d0,rfl,j7,Ω⟩;have q0:=J (j6.q.below Ω);have k2:=J (j7.mono (j6.q.b.size));have b8:=J Ω;have x0:=J A;refine l _ _ ⟨trivial,q0.q.bx⟩ ?_;clear l K j7 Ω m A;refine qC ?_;refine aF rfl rfl (λK l=>?_);go_simp;have m:=(q0.q.n 1 aj).row (hc:=eX) q0.q.b;have A:=(q0.q.n 1 aj).1;refine(show Calls _ _ _ _ (eO 9 1 encStr (a.nl 1) _) from by have:=lJ hs.a hs.c (a.nl 1) _ (by rw[m.len];exact m) ah;rw[show(a.nl 1).length=hs.n from m.len] at this;exact this).mono ?_;rintro en Y1 ⟨n1,d1,rfl,j8,q1⟩;have q2:=J (q0.q.below q1);have k3:=J (j8.mono (q0.q.b.size));have x1:=J q1;have x2:=J A;refine l _ _ ⟨trivial,q2.q.bx⟩ ?_;clear l K j8 q1 m A;refine aF rfl rfl (λK l=>?_);go_simp;have m:=(q2.q.n 2 aj).row (hc:=eX) q2.q.b;have A:=(q2.q.n 2 aj).1;refine(show Calls _ _ _ _ (eO 9 1 encStr (a.nl 2) _) from by have:=lJ ho.a ho.c (a.nl 2) _ (by rw[m.len];exact m) ah;rw[show(a.nl 2).length=ho.n from m.len] at this;exact this).mono ?_;rintro en Y2 ⟨n2,d2,rfl,j9,s⟩;have q3:=J (q2.q.below s);have k4:=J (j9.mono (q2.q.b.size));have k5:=J s;have x3:=J A;refine l _ _ ⟨trivial,q3.q.bx⟩ ?_;clear l K j9 s m A;refine aF rfl rfl (λK l=>?_);go_simp;have m:=(q3.q.n 3 aj).row (hc:=eX) q3.q.b;have A:=(q3.q.n 3 aj).1;refine(show Calls _ _ _ _ (eO 9 1 encStr (a.nl 3) _) from by have:=lJ hp.a hp.c (a.nl 3) _ (by rw[m.len];exact m) ah;rw[show(a.nl 3).length=hp.n from m.len] at this;exact this).mono ?_;rintro en Y3 ⟨n3,d3,rfl,z0,q4⟩;have Δ:=J (q3.q.below q4);have k6:=J (z0.mono (q3.q.b.size));have v7:=J q4;have x4:=J A;refine l _ _ ⟨trivial,Δ.q.bx⟩ ?_;clear l K z0 q4 m A;have o:=Δ.q.bx;have E:=o.1;have δ:=o.2.1;have ε:=o.2.2;refine aW rfl rfl rfl (λK l=>?_);go_simp;refine l _ _ trivial ?_;clear l K;refine qC ?_;refine aW rfl rfl rfl (λK l=>?_);go_simp;refine l _ _ trivial ?_;clear l K;refine qC ?_;refine aW rfl rfl rfl (λK l=>?_);go_simp;refine l _ _ trivial ?_;clear l K;refine qC ?_;refine aW rfl rfl rfl (λK l=>?_);go_simp;refine l _ _ trivial ?_;clear l K;refine aO ?_;have R:=J (((k2.q.below x1.q rfl).below k5.q rfl).below v7.q rfl);have S:=J ((k3.q.below k5.q rfl).below v7.q rfl);have Z:=J (k4.q.below v7.q rfl);have γ:=J k6.q;have q9:=Δ.q.Mf ⟨n0,(a.nl 0).length,d0⟩ ⟨x0.q,.inr R.q⟩;have R:=J (R.q.box Δ.q aj 0 (Sl.v ⟨n0,(a.nl 0).length,d0⟩));have S:=J (S.q.box Δ.q aj 0 (Sl.v ⟨n0,(a.nl 0).length,d0⟩));have Z:=J (Z.q.box Δ.q aj 0 (Sl.v ⟨n0,(a.nl 0).length,d0⟩));have γ:=J (γ.q.box Δ.q aj 0 (Sl.v ⟨n0,(a.nl 0).length,d0⟩));have j0:=q9.Mg ⟨n1,(a.nl 1).length,d1⟩ ⟨x2.q,.inr S.q⟩;have R:=J (R.q.box q9 aj 1 (Sl.v ⟨n1,(a.nl 1).length,d1⟩));have S:=J (S.q.box q9 aj 1 (Sl.v ⟨n1,(a.nl 1).length,d1⟩));have Z:=J (Z.q.box q9 aj 1 (Sl.v ⟨n1,(a.nl 1).length,d1⟩));have γ:=J (γ.q.box q9 aj 1 (Sl.v ⟨n1,(a.nl 1).length,d1⟩));have j1:=j0.Mh ⟨n2,(a.nl 2).length,d2⟩ ⟨x3.q,.inr Z.q⟩;have R:=J (R.q.box j0 aj 2 (Sl.v ⟨n2,(a.nl 2).length,d2⟩));have S:=J (S.q.box j0 aj 2 (Sl.v ⟨n2,(a.nl 2).length,d2⟩));have Z:=J (Z.q.box j0 aj 2 (Sl.v ⟨n2,(a.nl 2).length,d2⟩));have γ:=J (γ.q.box j0 aj 2 (Sl.v ⟨n2,(a.nl 2).length,d2⟩));have k7:=j1.Mi ⟨n3,(a.nl 3).length,d3⟩ ⟨x4.q,.inr γ.q⟩;have R:=J (R.q.box j1 aj 3 (Sl.v ⟨n3,(a.nl 3).length,d3⟩));have S:=J (S.q.box j1 aj 3 (Sl.v ⟨n3,(a.nl 3).length,d3⟩));have Z:=J (Z.q.box j1 aj 3 (Sl.v ⟨n3,(a.nl 3).length,d3⟩));have γ:=J (γ.q.box j1 aj 3 (Sl.v ⟨n3,(a.nl 3).length,d3⟩));have v4:=J k7;clear q9 j0 j1 k7 o E δ ε q0 q2 q3 Δ k2 k3 k4 k6;have o:=v4.q.bx;have s:=v4.q.b2;have E:=o.1;have δ:=o.2.1;have ε:=o.2.2;have ν:=s.1;have ψ:=s.2.1;have ω:=s.2.2;go_wp2_with fail;refine aC 12 [(0,0),(1,0),(3,0),(4,0),(6,0),(7,0),(9,0),(10,0),(2,2),(12,1),(5,2),(8,2),(11,2),(13,2),(14,1),(15,2),(16,1),(17,2),(18,1),(19,2)] (λ_=>True) (λW'=>Bx W' w.1.size (aD ⟨⟨n0,(a.nl 0).length,d0⟩,⟨n1,(a.nl 1).length,d1⟩,⟨n2,(a.nl 2).length,d2⟩,⟨n3,(a.nl 3).length,d3⟩,he,j3,j4,j5⟩)) ay ay (trivial) (v4.q.bx) ?_;refine qC ?_;refine aF rfl rfl (λK l=>?_);go_simp;have z1:=J (v4.q.drew);clear o s E δ ε ν ψ ω;have m:=z1.q.e.row (hc:=jI) z1.q.b;have A:=z1.q.e.1;refine(show Calls _ _ _ _ (eO 49 _ dx es _) from by have:=EL he.a he.c es _ (by rw[m.len];exact m) ah;rw[show es.length=he.n from m.len] at this;exact this).mono ?_;rintro en Z0 ⟨ae,ce,rfl,j7,Ω⟩;have q5:=J (z1.q.below Ω);have k8:=J (j7.mono (z1.q.b.size));have v5:=J Ω;have x5:=J A;refine l _ _ ⟨trivial,q5.q.bx⟩ ?_;clear l K j7 Ω m A;refine qC ?_;refine aF rfl rfl (λK l=>?_);go_simp;have m:=q5.q.d.row (hc:=kr) q5.q.b;have A:=q5.q.d.1;refine(show Calls _ _ _ _ (eO 57 _ dV p _) from by have:=EM j3.a j3.c p _ (by rw[m.len];exact m) ah;rw[show p.length=j3.n from m.len] at this;exact this).mono ?_;rintro en Z1 ⟨ad,cd,rfl,j8,q1⟩;have q6:=J (q5.q.below q1);have k9:=J (j8.mono (q5.q.b.size));have z2:=J q1;have x6:=J A;refine l _ _ ⟨trivial,q6.q.bx⟩ ?_;clear l K j8 q1 m A;refine aF rfl rfl (λK l=>?_);go_simp;have m:=q6.q.m.row (hc:=ku) q6.q.b;have A:=q6.q.m.1;refine(show Calls _ _ _ _ (eO 60 _ eB r _) from by have:=EN j4.a j4.c r _ (by rw[m.len];exact m) ah;rw[show r.length=j4.n from m.len] at this;exact this).mono ?_;rintro en Z2 ⟨am,cm,rfl,j9,s⟩;have q7:=J (q6.q.below s);have y0:=J (j9.mono (q6.q.b.size));have j2:=J s;have x7:=J A;refine l _ _ ⟨trivial,q7.q.bx⟩ ?_;clear l K j9 s m A;refine aF rfl rfl (λK l=>?_);go_simp;have m:=q7.q.q.row (hc:=lQ) q7.q.b;have A:=q7.q.q.1;rw[v6.q] at m A;refine(show Calls _ _ _ _ (eO 63 _ fE u _) from by have:=EO j5.a j5.c u _ (by rw[m.len];exact m) ah;rw[show u.length=j5.n from m.len] at this;exact this).mono ?_;rintro en Z3 ⟨aq,cq,rfl,z0,q4⟩;have ζ:=J (q7.q.below q4);have y1:=J (z0.mono (q7.q.b.size));have q8:=J q4;have x8:=J A;refine l _ _ ⟨trivial,ζ.q.bx⟩ ?_;clear l K z0 q4 m A;have o:=ζ.q.bx;have E:=o.1;have δ:=o.2.1;have ε:=o.2.2;refine aW rfl rfl rfl (λK l=>?_);go_simp;refine l _ _ trivial ?_;clear l K;refine qC ?_;refine aW rfl rfl rfl (λK l=>?_);go_simp;refine l _ _ trivial ?_;clear l K;refine qC ?_;refine aW rfl rfl rfl (λK l=>?_);go_simp;refine l _ _ trivial ?_;clear l K;refine qC ?_;refine aW rfl rfl rfl (λK l=>?_);go_simp;refine l _ _ trivial ?_;clear l K;refine aO ?_;have ξ:=J (((k8.q.below z2.q rfl).below j2.q rfl).below q8.q rfl);have ο:=J ((k9.q.below j2.q rfl).below q8.q rfl);have π:=J (y0.q.below q8.q rfl);have ρ:=J y1.q;have R:=J (((((R.q.below (Below.refl _ _).drew rfl).below v5.q rfl).below z2.q rfl).below j2.q rfl).below q8.q rfl);have S:=J (((((S.q.below (Below.refl _ _).drew rfl).below v5.q rfl).below z2.q rfl).below j2.q rfl).below q8.q rfl);have Z:=J (((((Z.q.below (Below.refl _ _).drew rfl).below v5.q rfl).below z2.q rfl).below j2.q rfl).below q8.q rfl);have γ:=J (((((γ.q.below (Below.refl _ _).drew rfl).below v5.q rfl).below z2.q rfl).below j2.q rfl).below q8.q rfl);have κ:=ζ.q.Rc ⟨ae,es.length,ce⟩ es ⟨x5.q,.inr ξ.q⟩ ζ.q.be ζ.q.se;have ξ:=J (ξ.q.box ζ.q aj 4 (Sl.v ⟨ae,es.length,ce⟩));have R:=J (R.q.box ζ.q aj 4 (Sl.v ⟨ae,es.length,ce⟩));have ο:=J (ο.q.box ζ.q aj 4 (Sl.v ⟨ae,es.length,ce⟩));have S:=J (S.q.box ζ.q aj 4 (Sl.v ⟨ae,es.length,ce⟩));have π:=J (π.q.box ζ.q aj 4 (Sl.v ⟨ae,es.length,ce⟩));have Z:=J (Z.q.box ζ.q aj 4 (Sl.v ⟨ae,es.length,ce⟩));have ρ:=J (ρ.q.box ζ.q aj 4 (Sl.v ⟨ae,es.length,ce⟩));have γ:=J (γ.q.box ζ.q aj 4 (Sl.v ⟨ae,es.length,ce⟩));have μ:=κ.Rf ⟨ad,p.length,cd⟩ p ⟨x6.q,.inr ο.q⟩ κ.bd κ.sd;have ξ:=J (ξ.q.box κ aj 5 (Sl.v ⟨ad,p.length,cd⟩));have R:=J (R.q.box κ aj 5 (Sl.v ⟨ad,p.length,cd⟩));have ο:=J (ο.q.box κ aj 5 (Sl.v ⟨ad,p.length,cd⟩));have S:=J (S.q.box κ aj 5 (Sl.v ⟨ad,p.length,cd⟩));have π:=J (π.q.box κ aj 5 (Sl.v ⟨ad,p.length,cd⟩));have Z:=J (Z.q.box κ aj 5 (Sl.v ⟨ad,p.length,cd⟩));have ρ:=J (ρ.q.box κ aj 5 (Sl.v ⟨ad,p.length,cd⟩));have γ:=J (γ.q.box κ aj 5 (Sl.v ⟨ad,p.length,cd⟩));have Γ:=μ.Rh ⟨am,r.length,cm⟩ r ⟨x7.q,.inr π.q⟩ μ.bm μ.sm;have ξ:=J (ξ.q.box μ aj 6 (Sl.v ⟨am,r.length,cm⟩));have R:=J (R.q.box μ aj 6 (Sl.v ⟨am,r.length,cm⟩));have ο:=J (ο.q.box μ aj 6 (Sl.v ⟨am,r.length,cm⟩));have S:=J (S.q.box μ aj 6 (Sl.v ⟨am,r.length,cm⟩));have π:=J (π.q.box μ aj 6 (Sl.v ⟨am,r.length,cm⟩));have Z:=J (Z.q.box μ aj 6 (Sl.v ⟨am,r.length,cm⟩));have ρ:=J (ρ.q.box μ aj 6 (Sl.v ⟨am,r.length,cm⟩));have γ:=J (γ.q.box μ aj 6 (Sl.v ⟨am,r.length,cm⟩));have y2:=Γ.Ri ⟨aq,u.length,cq⟩ ⟨x8.q,.inr ρ.q⟩;have ξ:=J (ξ.q.box Γ aj 7 (Sl.v ⟨aq,u.length,cq⟩));have R:=J (R.q.box Γ aj 7 (Sl.v ⟨aq,u.length,cq⟩));have ο:=J (ο.q.box Γ aj 7 (Sl.v ⟨aq,u.length,cq⟩));have S:=J (S.q.box Γ aj 7 (Sl.v ⟨aq,u.length,cq⟩));have π:=J (π.q.box Γ aj 7 (Sl.v ⟨aq,u.length,cq⟩));have Z:=J (Z.q.box Γ aj 7 (Sl.v ⟨aq,u.length,cq⟩));have ρ:=J (ρ.q.box Γ aj 7 (Sl.v ⟨aq,u.length,cq⟩));have γ:=J (γ.q.box Γ aj 7 (Sl.v ⟨aq,u.length,cq⟩));have y3:=J (y2.cast (c':=a) (by have:=v6.q;subst this;rfl));have v8:Hid (HO w _ ⟨⟨n0,(a.nl 0).length,d0⟩,⟨n1,(a.nl 1).length,d1⟩,⟨n2,(a.nl 2).length,d2⟩,⟨n3,(a.nl 3).length,d3⟩,⟨ae,es.length,ce⟩,⟨ad,p.length,cd⟩,⟨am,r.length,cm⟩,⟨aq,u.length,cq⟩⟩ es p r a 0 0 0):=J ⟨y3.q,ξ.q,ο.q,π.q,by rw[v6.q];exact ρ.q,λq hq=>(match q,hq with|0,_=>R.q|1,_=>S.q|2,_=>Z.q|3,_=>γ.q),lg.zero,lg.zero,lg.zero,λ_ _ _ _ h=>absurd h (Nat.not_lt_zero _)⟩;clear κ μ Γ y2 o E δ ε q5 q6 q7 ζ k8 k9 y0 y1 y3 ξ ο π ρ R S Z γ;have o:=v8.q.st.bx;have s:=v8.q.st.b2;have E:=o.1;have δ:=o.2.1;have ε:=o.2.2;have ν:=s.1;have ψ:=s.2.1;have ω:=s.2.2;go_wp2_with fail;clear o s E δ ε ν ψ ω
 go_loopw [41] (λi wr=>∃(k:V)(xe:G EvC),k<=es.length/\i= .int U k/\HO w wr ⟨⟨n0,(a.nl 0).length,d0⟩,⟨n1,(a.nl 1).length,d1⟩,⟨n2,(a.nl 2).length,d2⟩,⟨n3,(a.nl 3).length,d3⟩,⟨ae,es.length,ce⟩,⟨ad,p.length,cd⟩,⟨am,r.length,cm⟩,⟨aq,u.length,cq⟩⟩ xe p r a k 0 0) (λi _=>es.length - (RowKit.intOf i).toNat)
 case atStart=>exact⟨0,es,bn _,rfl,v8.q⟩
 case round=>
  obtain⟨k,xe,hk,rfl,Q⟩:=hrel;have t:=Q.st;have σ:Own wr w.1.size 49 9 dx (L ae es.length ce) xe:=Q.oe;by_cases y4:k<es.length
  .obtain⟨g,y5,rfl,τ,y6,y7,y8,υ⟩:=σ.open_ (hc:=jI) ah
   obtain⟨x,hx⟩:∃x,xe[k]?=I x:=⟨_,cB ah⟩;have Θ:k<a.SE.length:=by rw[<-t.se.1];omega
   obtain⟨y,hL⟩:∃y,a.SE[k]?=I y:=⟨_,cB Θ⟩;have η:=t.se.2 k x y hx hL;have φ:=η.row (hc:=ko) t.b;have E:=(τ.1 (k*9+8)).trans (υ k x 8 _ hx rfl);have z3:Hid (∀W,Below wr.1.size wr W->Calls Tryz.prog 15 #[L x.sa x.sn x.sc] W (eO 53 3 cZ y W)):=by
    refine J (λW hW=>?_);have hr:Row W 3 cZ x.sa x.sn x.sc y:=φ.below hW rfl;rw[show x.sn=y.length from φ.len.symm] at hr ⊢;exact EP x.sa x.sc y W hr (by have:=η.1;omega)
   have χ:=J Q;have z4:=J τ;have HX:=J hx;have HL:=J hL;have z5:=J η.1;have Ξ:=J E;have z6:=J (υ k x 8 _ hx rfl);have y9:k<2000000:=by have:=t.e.1;omega
   clear Q t σ τ hx hL η φ E υ Θ;go_wp2_with fail;refine aC 10 [(0,0),(1,0),(2,0),(3,0),(4,0),(5,0),(6,0),(7,0),(8,0),(9,2),(10,1),(11,1),(12,2)] (λ_=>True) (λW'=>Bx W' w.1.size #[(L n0 (a.nl 0).length d0),(L n1 (a.nl 1).length d1),(L n2 (a.nl 2).length d2),(L n3 (a.nl 3).length d3),(L (I ⟨g,0,H⟩) es.length ce),(L ad p.length cd),(L am r.length cm),(L aq u.length cq)]/\W'.cell? ⟨g,k*9+8,H⟩=I (L x.sa x.sn x.sc)) ay ay (trivial) (⟨χ.q.st.bx,Ξ.q⟩) ?_;refine qC ?_;refine aF rfl rfl (λK l=>?_);go_simp;refine(z3.q _ (Below.refl _ _).drew).mono ?_;rintro en Y ⟨a',c',rfl,Φ,Ψ⟩;have z7:=J Φ;have θ:=J (show Below wr.1.size wr Y from(Below.refl _ _).drew.trans Ψ);refine l _ _ ⟨trivial,χ.q.st.bx.keep θ.q,bq θ.q rfl Ξ.q⟩ ?_;clear l K Φ Ψ;have ι:=z4.q.keep θ.q;have z8:=ι.2.1;have z9:=ι.2.2;have v0:Y.cell? ⟨g,k*9+8,H⟩=I (L x.sa x.sn x.sc):=(ι.1 _).trans z6.q;clear ι;refine qC ?_;refine aW rfl rfl rfl (λK l=>?_);go_simp;refine l _ _ trivial ?_;clear l K;refine aO ?_;have v1:=J (χ.q.Iw rfl HX.q HL.q θ.q ⟨a',y.length,c'⟩ z5.q z7.q);clear z8 z9 v0;go_wp2_with fail;go_roundw
   case rel=>exact⟨k+1,_,by omega,by go_num,v1.q⟩
   case measure=>simp[RowKit.intOf];omega
  .obtain rfl:k=es.length:=by omega
   have x9:=J (show xe.length=es.length from by obtain⟨_,_,q,_⟩:=Q.oe.shape;simp only[Sl.v,Value.slice.injEq] at q;exact q.2.1.symm);have v9:=J Q;clear Q t σ;have o:=v9.q.st.bx;have s:=v9.q.st.b2;have E:=o.1;have δ:=o.2.1;have ε:=o.2.2;have ν:=s.1;have ψ:=s.2.1;have ω:=s.2.2;go_wp2_with fail;have b0:=v9;clear o s E δ ε ν ψ ω
   go_loopw [60] (λi wr=>∃(k:V)(xd:G aG),k<=p.length/\i= .int U k/\HO w wr ⟨⟨n0,(a.nl 0).length,d0⟩,⟨n1,(a.nl 1).length,d1⟩,⟨n2,(a.nl 2).length,d2⟩,⟨n3,(a.nl 3).length,d3⟩,⟨ae,es.length,ce⟩,⟨ad,p.length,cd⟩,⟨am,r.length,cm⟩,⟨aq,u.length,cq⟩⟩ xe xd r a es.length k 0) (λi _=>p.length - (RowKit.intOf i).toNat)
   case atStart=>exact⟨0,p,bn _,rfl,b0.q⟩
   case round=>
    obtain⟨k,xd,hk,rfl,Q⟩:=hrel;have t:=Q.st;have σ:Own wr w.1.size 57 2 dV (L ad p.length cd) xd:=Q.od;by_cases y4:k<p.length
    .obtain⟨g,y5,rfl,τ,y6,y7,y8,υ⟩:=σ.open_ (hc:=kr) ah
     obtain⟨x,hx⟩:∃x,xd[k]?=I x:=⟨_,cB ah⟩;have Θ:k<a.SD.length:=by rw[<-t.sd.1];omega
     obtain⟨y,hL⟩:∃y,a.SD[k]?=I y:=⟨_,cB Θ⟩;have η:=t.sd.2 k x y hx hL;have φ:=η.row (hc:=eP) t.b;have E:=(τ.1 (k*2+1)).trans (υ k x 1 _ hx rfl);have z3:Hid (∀W,Below wr.1.size wr W->Calls Tryz.prog 19 #[L x.sa x.sn x.sc] W (eO 3 1 aS y W)):=by
      refine J (λW hW=>?_);have hr:Row W 1 aS x.sa x.sn x.sc y:=φ.below hW rfl;rw[show x.sn=y.length from φ.len.symm] at hr ⊢;exact uz x.sa x.sc y W hr (by have:=η.1;omega)
     have χ:=J Q;have z4:=J τ;have HX:=J hx;have HL:=J hL;have z5:=J η.1;have Ξ:=J E;have z6:=J (υ k x 1 _ hx rfl);have y9:k<2000000:=by have:=t.d.1;omega
     clear Q t σ τ hx hL η φ E υ Θ;go_wp2_with fail;refine aC 10 [(0,0),(1,0),(2,0),(3,0),(4,0),(5,0),(6,0),(7,0),(8,0),(9,2),(10,1),(11,1),(12,2)] (λ_=>True) (λW'=>Bx W' w.1.size #[(L n0 (a.nl 0).length d0),(L n1 (a.nl 1).length d1),(L n2 (a.nl 2).length d2),(L n3 (a.nl 3).length d3),(L ae es.length ce),(L (I ⟨g,0,H⟩) p.length cd),(L am r.length cm),(L aq u.length cq)]/\W'.cell? ⟨g,k*2+1,H⟩=I (L x.sa x.sn x.sc)) ay ay (trivial) (⟨χ.q.st.bx,Ξ.q⟩) ?_;refine qC ?_;refine aF rfl rfl (λK l=>?_);go_simp;refine(z3.q _ (Below.refl _ _).drew).mono ?_;rintro en Y ⟨a',c',rfl,Φ,Ψ⟩;have z7:=J Φ;have θ:=J (show Below wr.1.size wr Y from(Below.refl _ _).drew.trans Ψ);refine l _ _ ⟨trivial,χ.q.st.bx.keep θ.q,bq θ.q rfl Ξ.q⟩ ?_;clear l K Φ Ψ;have ι:=z4.q.keep θ.q;have z8:=ι.2.1;have z9:=ι.2.2;have v0:Y.cell? ⟨g,k*2+1,H⟩=I (L x.sa x.sn x.sc):=(ι.1 _).trans z6.q;clear ι;refine qC ?_;refine aW rfl rfl rfl (λK l=>?_);go_simp;refine l _ _ trivial ?_;clear l K;refine aO ?_;have v1:=J (χ.q.Iy rfl HX.q HL.q θ.q ⟨a',y.length,c'⟩ z5.q z7.q);clear z8 z9 v0;go_wp2_with fail;go_roundw
     case rel=>exact⟨k+1,_,by omega,by go_num,v1.q⟩
     case measure=>simp[RowKit.intOf];omega
    .obtain rfl:k=p.length:=by omega
     have b1:=J (show xd.length=p.length from by obtain⟨_,_,q,_⟩:=Q.od.shape;simp only[Sl.v,Value.slice.injEq] at q;exact q.2.1.symm);have k0:=J Q;clear Q t σ;have o:=k0.q.st.bx;have s:=k0.q.st.b2;have E:=o.1;have δ:=o.2.1;have ε:=o.2.2;have ν:=s.1;have ψ:=s.2.1;have ω:=s.2.2;go_wp2_with fail;have b2:=k0;clear o s E δ ε ν ψ ω
     go_loopw [79] (λi wr=>∃(k:V)(xm:G aK),k<=r.length/\i= .int U k/\HO w wr ⟨⟨n0,(a.nl 0).length,d0⟩,⟨n1,(a.nl 1).length,d1⟩,⟨n2,(a.nl 2).length,d2⟩,⟨n3,(a.nl 3).length,d3⟩,⟨ae,es.length,ce⟩,⟨ad,p.length,cd⟩,⟨am,r.length,cm⟩,⟨aq,u.length,cq⟩⟩ xe xd xm a es.length p.length k) (λi _=>r.length - (RowKit.intOf i).toNat)
     case atStart=>exact⟨0,r,bn _,rfl,b2.q⟩
     case round=>
      obtain⟨k,xm,hk,rfl,Q⟩:=hrel;have t:=Q.st;have σ:Own wr w.1.size 60 4 eB (L am r.length cm) xm:=Q.om;by_cases y4:k<r.length
      .obtain⟨g,y5,rfl,τ,y6,y7,y8,υ⟩:=σ.open_ (hc:=ku) ah
       obtain⟨x,hx⟩:∃x,xm[k]?=I x:=⟨_,cB ah⟩;have Θ:k<a.SM.length:=by rw[<-t.sm.1];omega
       obtain⟨y,hL⟩:∃y,a.SM[k]?=I y:=⟨_,cB Θ⟩;have η:=t.sm.2 k x y hx hL;have φ:=η.row (hc:=eP) t.b;have E:=(τ.1 (k*4+3)).trans (υ k x 3 _ hx rfl);have z3:Hid (∀W,Below wr.1.size wr W->Calls Tryz.prog 19 #[L x.sa x.sn x.sc] W (eO 3 1 aS y W)):=by
        refine J (λW hW=>?_);have hr:Row W 1 aS x.sa x.sn x.sc y:=φ.below hW rfl;rw[show x.sn=y.length from φ.len.symm] at hr ⊢;exact uz x.sa x.sc y W hr (by have:=η.1;omega)
       have χ:=J Q;have z4:=J τ;have HX:=J hx;have HL:=J hL;have z5:=J η.1;have Ξ:=J E;have z6:=J (υ k x 3 _ hx rfl);have y9:k<2000000:=by have:=t.m.1;omega
       clear Q t σ τ hx hL η φ E υ Θ;go_wp2_with fail;refine aC 10 [(0,0),(1,0),(2,0),(3,0),(4,0),(5,0),(6,0),(7,0),(8,0),(9,2),(10,1),(11,1),(12,2)] (λ_=>True) (λW'=>Bx W' w.1.size #[(L n0 (a.nl 0).length d0),(L n1 (a.nl 1).length d1),(L n2 (a.nl 2).length d2),(L n3 (a.nl 3).length d3),(L ae es.length ce),(L ad p.length cd),(L (I ⟨g,0,H⟩) r.length cm),(L aq u.length cq)]/\W'.cell? ⟨g,k*4+3,H⟩=I (L x.sa x.sn x.sc)) ay ay (trivial) (⟨χ.q.st.bx,Ξ.q⟩) ?_;refine qC ?_;refine aF rfl rfl (λK l=>?_);go_simp;refine(z3.q _ (Below.refl _ _).drew).mono ?_;rintro en Y ⟨a',c',rfl,Φ,Ψ⟩;have z7:=J Φ;have θ:=J (show Below wr.1.size wr Y from(Below.refl _ _).drew.trans Ψ);refine l _ _ ⟨trivial,χ.q.st.bx.keep θ.q,bq θ.q rfl Ξ.q⟩ ?_;clear l K Φ Ψ;have ι:=z4.q.keep θ.q;have z8:=ι.2.1;have z9:=ι.2.2;have v0:Y.cell? ⟨g,k*4+3,H⟩=I (L x.sa x.sn x.sc):=(ι.1 _).trans z6.q;clear ι;refine qC ?_;refine aW rfl rfl rfl (λK l=>?_);go_simp;refine l _ _ trivial ?_;clear l K;refine aO ?_;have v1:=J (χ.q.Iz rfl HX.q HL.q θ.q ⟨a',y.length,c'⟩ z5.q z7.q);clear z8 z9 v0;go_wp2_with fail;go_roundw
       case rel=>exact⟨k+1,_,by omega,by go_num,v1.q⟩
       case measure=>simp[RowKit.intOf];omega
      .obtain rfl:k=r.length:=by omega
       have b3:=J (show xm.length=r.length from by obtain⟨_,_,q,_⟩:=Q.om.shape;simp only[Sl.v,Value.slice.injEq] at q;exact q.2.1.symm);have k1:=J Q;clear Q t σ;have o:=k1.q.st.bx;have s:=k1.q.st.b2;have E:=o.1;have δ:=o.2.1;have ε:=o.2.2;have ν:=s.1;have ψ:=s.2.1;have ω:=s.2.2;go_wp2_with fail;have b4:Hid (∀Y,Same (λi=>i≠w.1.size+1) wr Y->GA w a (.returned (bC ⟨⟨n0,(a.nl 0).length,d0⟩,⟨n1,(a.nl 1).length,d1⟩,⟨n2,(a.nl 2).length,d2⟩,⟨n3,(a.nl 3).length,d3⟩,⟨ae,es.length,ce⟩,⟨ad,p.length,cd⟩,⟨am,r.length,cm⟩,⟨aq,u.length,cq⟩⟩)) Y):=J (λY hs=>HO.fin (by rw[x9.q,b1.q,b3.q];exact k1.q) hs);refine bodyPost_ret (v:=bC ⟨⟨n0,(a.nl 0).length,d0⟩,⟨n1,(a.nl 1).length,d1⟩,⟨n2,(a.nl 2).length,d2⟩,⟨n3,(a.nl 3).length,d3⟩,⟨ae,es.length,ce⟩,⟨ad,p.length,cd⟩,⟨am,r.length,cm⟩,⟨aq,u.length,cq⟩⟩) (by simp[results,results133,go_sem,ν]) rfl (b4.q _ ?_)
       repeat(first|(with_reducible exact Same.refl' _)|(refine Same.setTail ?_ (λhn=>hn rfl)))
def Moved (p X:World)(F:C->G C)(m:G (C × Addr)):Prop:=
 ∀g a T o,p.1[g]?=I (.cells a T o)->∃l:Array Value,X.1[g]?=I (.cells l T o)/\l.size=a.size/\
  (∀j,(∀s,(s,(⟨g,j,H⟩:Addr))∉m)->l[j]?=a[j]?)/\(∀j s n,(s,(⟨g,j,H⟩:Addr))∈m->a[j]?=I (.int U n)->l[j]?=I (.int U (dY (F s) n)))
variable{a:World}
theorem Moved.start (s:Same (λi=>i<a.1.size) a X):Moved a X F []:=λg l T m h=>
 ⟨l,(s.block g (dS.1 h).1 (dS.1 h).1).trans h,rfl,λ_ _=>rfl,λ_ _ _ h=>(by cases h)⟩
theorem Moved.same {Y:World}{l:G (C × Addr)}(p:Moved a X F l)(s:Same (λi=>i<a.1.size) X Y):Moved a Y F l:=λg q T r m=>
 (let⟨t,o,u⟩:=p g q T r m;⟨t,(s.block g (dS.1 m).1 (dS.1 o).1).trans o,u⟩)
variable{v:Value}
theorem cell_of {g:V}(a:w.cell? ⟨g,j,H⟩=I v):∃cs T l,w.1[g]?=I (.cells cs T l)/\cs[j]?=I v:=by
 unfold World.cell? at a
 split at a
 .rename_i cs T l m
  exact⟨cs,T,l,m,by simpa using a⟩
 .cases a
variable{T:TypeId}
theorem of_cell {g:V}{cs:Array Value}{a:V × V}(l:w.1[g]?=I (.cells cs T a))(m:cs[j]?=I v):w.cell? ⟨g,j,H⟩=I v:=by
 unfold World.cell?;simp[l,m]
theorem Moved.cell {l:G (C × Addr)}(m:Moved a X F l){g:V}(hc:a.cell? ⟨g,j,H⟩=I v)(o:∀s,(s,(⟨g,j,H⟩:Addr))∉l):X.cell? ⟨g,j,H⟩=I v:=by
 obtain⟨p,T,q,r,t⟩:=cell_of hc;obtain⟨y,u,A,x,E⟩:=m g p T q r;exact of_cell u ((x j o).trans t)
variable{s:C}
theorem Moved.step {t:World}{u:G (C × Addr)}(h:Moved t X F u){g:V}{n v:C}(hn:∀l,(l,(⟨g,j,H⟩:Addr))∉u)(hc:t.cell? ⟨g,j,H⟩=I (.int U n))(hv:v=dY (F s) n):
  Moved t (X.setCell ⟨g,j,H⟩ (.int U v)) F (u++[(s,(⟨g,j,H⟩:Addr))]):=λK cs T fz Q=>by
 obtain⟨x,R,y,S,Z⟩:=h K cs T fz Q;by_cases e:K=g
 .subst e
  refine⟨x.setIfInBounds j (.int U v),bW R _,by rw[Array.size_setIfInBounds];exact y,λq a=>?_,λq l m a o=>?_⟩
  .have A:j≠q:=λe=>a s (by rw[e];simp)
   rw[qx A];exact S q (λl E=>a l (iw _ E))
  .obtain⟨ε,T2,ζ,r,γ⟩:=cell_of hc
   rw[Q] at r;injection r with r;injection r with q1 q2 q3;subst q1;have δ:j<x.size:=by rw[y];exact(dS.1 γ).1
   rcases cu.1 a with a|a
   .have A:j≠q:=λe=>by subst e;exact hn l a
    rw[qx A];exact Z q l m a o
   .have a:=bX.1 a
    injection a with e1 p;injection p with _ p _;subst e1 p;rw[γ] at o;injection o with o;injection o with _ o;rw[yX δ,hv,o]
 .refine⟨x,by rw[Below.heap_setCell _ _ _ _ (by exact e)];exact R,y,λq a=>S q (λl E=>a l (iw _ E)),λq l m a o=>?_⟩
  rcases cu.1 a with a|a
  .exact Z q l m a o
  .have a:=bX.1 a
   injection a with _ p;injection p with p _ _;exact absurd p e
theorem Own.moved {E:Type}{enc:E->G Value}{k:V}[hc:Cells enc k]{K:World}{B:V}{xs ys:G E}{o:G (C × Addr)}(h:Own K B T k enc v xs)(hM:Moved K X F o)(a:ys.length=xs.length)
  (ε:∀g,v.ownBlock=I g->∀i x y j u,xs[i]?=I x->ys[i]?=I y->(enc x)[j]?=I u->((enc y)[j]?=I u/\∀s,(s,(⟨g,i*k+j,H⟩:Addr))∉o)\/(∃s n,(s,(⟨g,i*k+j,H⟩:Addr))∈o/\u= .int U n/\(enc y)[j]?=I (.int U (dY (F s) n)))):
  Own X B T k enc v ys:=by
 obtain⟨h1,h2⟩:=h;refine⟨uD _,?_⟩;rcases h2 with⟨e,h0⟩|⟨g,ζ,Q,e,hB,l,hn,hm,hs,ht⟩
 .exact .inl ⟨e,a.trans h0⟩
 .obtain⟨R,k1,S,k3,k4⟩:=hM g Q T _ l
  refine .inr ⟨g,ζ,R,by rw[e,a],hB,k1,by rw[a];exact hn,hm,S.trans hs,?_⟩;have η:v.ownBlock=I g:=by rw[e];rfl
  rw[a]
  apply tF
  intro q;have ι:xs.length*k<=R.size:=by rw[S,hs];exact Nat.mul_le_mul_right _ hn
  by_cases m:q<xs.length*k
  .rw[uT,av m]
   have Z:=hc.pos;have hi:q / k<xs.length:=(Nat.div_lt_iff_lt_mul Z).2 m;have hj:q % k<k:=Nat.mod_lt _ Z;have p:q / k*k+q % k=q:=by rw[rR];exact Nat.div_add_mod q k
   obtain⟨x,hx⟩:∃x,xs[q / k]?=I x:=⟨_,cB hi⟩;obtain⟨y,hy⟩:∃y,ys[q / k]?=I y:=⟨_,cB ah⟩;obtain⟨u,hu⟩:∃u,(enc x)[q % k]?=I u:=⟨_,cB (by rw[hc.len];exact hj)⟩;have γ:Q[q]?=I u:=by
    have:=flat_get (hc:=hc) xs _ _ _ _ hx hu;rw[p,<-ht,uT,av m] at this
    simpa using this
   have δ:∀r,(enc y)[q % k]?=I r->(ys.flatMap enc)[q]?=I r:=λr θ=>by
    have:=flat_get (hc:=hc) ys _ _ _ _ hy θ;rw[p] at this;exact this
   have l:=ε g η (q / k) x y (q % k) u hx hy hu;rw[p] at l;rcases l with⟨t,A⟩|⟨s,n,t,A,e3⟩
   .rw[δ u t,Array.getElem?_toList,k3 q A,γ]
   .subst A
    rw[δ _ e3,Array.getElem?_toList,k4 q s n t γ]
  .rw[uT,au m,qB (by rw[uD (hc:=hc),a];omega)]
def Ty (X:World)(g:V)(T:TypeId):Prop:=∃a l,X.1[g]?=I (.cells a T l)
theorem Ty.ne {g:V}{T':TypeId}(l:Ty X g T)(h':Ty X R T')(m:T≠T'):g≠R:=by
 rintro rfl;obtain⟨_,_,o⟩:=l;obtain⟨_,_,a⟩:=h';rw[o] at a
 cases a
 exact m rfl
variable{a:Option Addr}
theorem Own.tC {o:Type}{enc:o->G Value}{k:V}{B:V}{n c:V}{xs:G o}(p:Own X B T k enc (L a n c) xs):
  (a=H/\xs=[])\/∃g,a=I ⟨g,0,H⟩/\n=xs.length/\Ty X g T/\B<=g:=by
 obtain⟨v,q⟩:=p;rcases q with⟨l,r⟩|⟨g,x,y,l,s,t,A,_,hs,E⟩
 .injection l with m _ _
  exact .inl ⟨m,vU r⟩
 .injection l with m u K
  exact .inr ⟨g,m,u,⟨_,_,t⟩,s⟩
theorem Own.cells {a:Type}{enc:a->G Value}{k:V}[hc:Cells enc k]{B:V}{g n c:V}{xs:G a}(p:Own X B T k enc (L (I ⟨g,0,H⟩) n c) xs){x:a}(m:xs[i]?=I x)(q:(enc x)[j]?=I v):X.cell? ⟨g,i*k+j,H⟩=I v:=by
 have y:=(bK.1 m).1;obtain⟨r,o⟩:=p;have hn:0<n:=by
  rcases o with⟨l,A⟩|⟨g,E,s,l,_⟩
  .cases l
  .injection l with _ K _
   omega
 obtain⟨Q,s,e,t,_,_,_,u⟩:=Own.open_ (hc:=hc) (⟨r,o⟩:Own X B T k enc (L (I ⟨g,0,H⟩) n c) xs) hn;injection e with e;injection e with e;subst e;exact(t.1 _).trans (u i x j v m q)
structure Lay (X:World)(B:V)(h:HC)(es:G EvC)(ds:G aG)(ms:G aK)(qs:G Wa)(scan:EvC->G Sn)(dn:aG->G C)(mn:aK->G C):Prop where
 oe:Own X B 49 9 dx h.e.v es
 od:Own X B 57 2 dV h.d.v ds
 om:Own X B 60 4 eB h.m.v ms
 oq:Own X B 63 2 fE h.w.v qs
 se:∀x∈es,Own X B 53 3 cZ x.val (scan x)
 sd:∀x∈ds,Own X B 3 1 aS x.val (dn x)
 sm:∀x∈ms,Own X B 3 1 aS x.val (mn x)
 pe:es.Pairwise (λx y=>∀g,x.val.ownBlock=I g->y.val.ownBlock≠I g)
 pd:ds.Pairwise (λx y=>∀g,x.val.ownBlock=I g->y.val.ownBlock≠I g)
 pm:ms.Pairwise (λx y=>∀g,x.val.ownBlock=I g->y.val.ownBlock≠I g)
 px:∀x∈ds,∀y∈ms,∀g,x.val.ownBlock=I g->y.val.ownBlock≠I g
theorem lg.pair {a l:Type}{B:V}{enc:l->G Value}{val:a->Value}{xs:G a}{o:G (G l)}(p:lg B X T R enc val xs o xs.length):xs.Pairwise (λx y=>∀g,(val x).ownBlock=I g->(val y).ownBlock≠I g):=by
 rw[BB];intro i j q m r g s;exact p.2 i j xs[i] xs[j] r m (cB q) (cB m) g s
theorem lg.fn {p s:Type}{B:V}{enc:s->G Value}[hc:Cells enc R](A:∀x y,enc x=enc y->x=y){val:p->Value}{a:p->Option Addr}{n q:p->V}(E:∀x,val x= L (a x) (n x) (q x)){xs:G p}{o:G (G s)}(K:lg B X T R enc val xs o xs.length)(Q:xs.length=o.length)
  (S:∀l∈o,l.length<=140737488355328):∃f:p->G s,(∀x∈xs,Own X B T R enc (val x) (f x))/\xs.map f=o:=by
 have u:∀i x,xs[i]?=I x->∃l,o[i]?=I l/\Own X B T R enc (val x) l/\Classical.epsilon (λl=>Row X R enc (a x) (n x) (q x) l)=l:=λi x m=>by
  have t:=(bK.1 m).1;obtain⟨l,r⟩:∃l,o[i]?=I l:=⟨_,cB ah⟩;have ho:=K.1 i x l t m r;have v:=ho;rw[E x] at v;exact⟨l,r,ho,yM (hc:=hc) A (v.row (hc:=hc) (S l (dA r)))⟩
 refine⟨λx=>Classical.epsilon (λl=>Row X R enc (a x) (n x) (q x) l),λx m=>?_,?_⟩
 .obtain⟨i,t⟩:=pO.1 m
  obtain⟨l,_,ho,e⟩:=u i x t;show Own X B T R enc (val x) (Classical.epsilon λl=>Row X R enc (a x) (n x) (q x) l);rw[e];exact ho
 .apply tF
  intro i;rw[nS]
  cases m:xs[i]? with
  |none=>rw[Option.map_none,qB (by rw[<-Q];exact List.getElem?_eq_none_iff.1 m)]
  |some x=>
   obtain⟨l,r,_,e⟩:=u i x m;rw[Option.map_some,r];exact bJ I e
section
variable {X Y:World}{B:V}{h:HC}{es:G EvC}{ds:G aG}{ms:G aK}{qs:G Wa}{scan:EvC->G Sn}{dn:aG->G C}{mn:aK->G C}
theorem Lay.same (l:Lay X B h es ds ms qs scan dn mn)(o:Same (λi=>B<=i) X Y):Lay Y B h es ds ms qs scan dn mn:=
 ⟨l.oe.same o (λg a=>(l.oe.lt g a).1),l.od.same o (λg a=>(l.od.lt g a).1),l.om.same o (λg a=>(l.om.lt g a).1),l.oq.same o (λg a=>(l.oq.lt g a).1),λx m=>(l.se x m).same o (λg a=>((l.se x m).lt g a).1),λx m=>(l.sd x m).same o (λg a=>((l.sd x m).lt g a).1),λx m=>(l.sm x m).same o (λg a=>((l.sm x m).lt g a).1),l.pe,l.pd,l.pm,l.px⟩
theorem IB {p:Addr}{v:kg}(a:nL X p=v.t):(jO p v).map (gV X)=jm v:=by
 unfold jO jm gV
 split
 .simp only[dX,jN,a]
 .rfl
theorem qQ {n c:V}{l:G Sn}(q:Own X B 53 3 cZ (L a n c) l):((oQ a 0 l).map Prod.snd).Nodup/\(∀p∈oQ a 0 l,Ty X p.2.block 53/\(Value.slice a n c).ownBlock=I p.2.block)/\(oQ a 0 l).map (gV X)=l.flatMap (λs=>(2,s.obj)::jm s.v):=by
 rcases q.tC with⟨rfl,rfl⟩|⟨g,rfl,hn,r,A⟩
 .exact⟨oI,λp m=>(by cases m),rfl⟩
 .refine⟨sK (b:=g) (k:=3) (blk:=λ_=>H) l 0 (λj x o=>?_) (λx o=>⟨oI,λp m=>(by cases m)⟩) (List.Pairwise.imp (λ_ _ h=>(by cases h)) (List.pairwise_of_forall (R:=λ_ _=>True) (λ_ _=>trivial))),λp m=>?_,?_⟩
  .rw[bD];exact IC j x
  .obtain⟨j,x,o,m⟩:=(fP l 0 p).1 m
   rcases m with m|m
   .have:=((IC (b:=g) (0+j) x).2 p m).1
    rw[this];exact⟨r,rfl⟩
   .cases m
  .refine wN (gV X) _ l 0 (λj x o=>?_)
   have t:=q.cells (hc:=ko) o (j:=0) rfl;have u:=q.cells (hc:=ko) o (j:=1) rfl;rw[jN,dm,bD];have v:nL X ⟨g,0+j*3,H⟩=x.obj:=by rw[bD];exact jY t
   have y:nL X ⟨g,0+(j*3+1),H⟩=x.v.t:=by rw[bD];exact jY u
   show gV X (2,(⟨g,0+j*3,H⟩:Addr))::(jO ⟨g,0+(j*3+1),H⟩ x.v).map (gV X)=_;rw[IB y];unfold gV;simp only[v]
theorem AP {a m:Type}(f:a->m):∀l:G a,l.flatMap (λx=>[f x])=l.map f
 |[]=>rfl
 |x::l=>by rw[gZ,AP f l];rfl
theorem kU {n c:V}{l:G C}(r:Own X B 3 1 aS (L a n c) l):((mh a 0 l).map Prod.snd).Nodup/\(∀p∈mh a 0 l,Ty X p.2.block 3/\(Value.slice a n c).ownBlock=I p.2.block)/\(mh a 0 l).map (gV X)=l.map (λo=>(0,o)):=by
 rcases r.tC with⟨rfl,rfl⟩|⟨g,rfl,hn,s,v⟩
 .exact⟨oI,λp m=>(by cases m),rfl⟩
 .refine⟨sK (b:=g) (k:=1) (blk:=λ_=>H) l 0 (λj x q=>?_) (λx q=>⟨oI,λp m=>(by cases m)⟩) (List.Pairwise.imp (λ_ _ h=>(by cases h)) (List.pairwise_of_forall (R:=λ_ _=>True) (λ_ _=>trivial))),λp m=>?_,?_⟩
  .rw[bD];exact OG j x
  .obtain⟨j,x,q,m⟩:=(fP l 0 p).1 m
   rcases m with m|m
   .have:=((OG (b:=g) (0+j) x).2 p m).1
    rw[this];exact⟨s,rfl⟩
   .cases m
  .rw[show l.map (λo=>((0:C),o))=l.flatMap (λo=>[(0,o)]) from(AP _ l).symm]
   refine wN (gV X) _ l 0 (λj x q=>?_);have t:=r.cells (hc:=eP) q (j:=0) rfl;rw[jN,dm,bD];have u:nL X ⟨g,0+j,H⟩=x:=by rw[bD];exact jY (by simpa using t)
   show [gV X (0,(⟨g,0+j,H⟩:Addr))]=_;unfold gV;simp only[u]
end
def Ints (X:World)(l:G (C × Addr)):Prop:=∀p∈l,∃n,X.cell? p.2=I (.int U n)
section
variable {X Y:World}{B:V}{h:HC}{es:G EvC}{ds:G aG}{ms:G aK}{qs:G Wa}{scan:EvC->G Sn}{dn:aG->G C}{mn:aK->G C}
theorem IE {g q:V}{v:kg}(hc:X.cell? ⟨g,q,H⟩=I (.int U v.t)):Ints X (jO ⟨g,q,H⟩ v):=λp a=>by
 rw[(oU.1 a).1];exact⟨_,hc⟩
theorem Uw {n c:V}{l:G Sn}(o:Own X B 53 3 cZ (L a n c) l):Ints X (oQ a 0 l):=by
 rcases o.tC with⟨rfl,rfl⟩|⟨g,rfl,hn,t,u⟩
 .exact λp m=>by cases m
 .intro p m
  obtain⟨j,x,q,m⟩:=(fP l 0 p).1 m;rcases m with m|m
  .rw[bD] at m
   have r:=o.cells (hc:=ko) q (j:=0) rfl;have s:=o.cells (hc:=ko) q (j:=1) rfl;rcases dO.1 m with rfl|m
   .exact⟨x.obj,by show X.cell? ⟨g,0+j*3,H⟩=_;rw[bD];exact r⟩
   .exact IE (v:=x.v) (by rw[bD];exact s) p m
  .cases m
theorem KL {n c:V}{l:G C}(o:Own X B 3 1 aS (L a n c) l):Ints X (mh a 0 l):=by
 rcases o.tC with⟨rfl,rfl⟩|⟨g,rfl,hn,s,t⟩
 .exact λp m=>by cases m
 .intro p m
  obtain⟨j,x,q,m⟩:=(fP l 0 p).1 m;rcases m with m|m
  .rw[bD] at m
   have r:=o.cells (hc:=eP) q (j:=0) rfl;rw[bX.1 m];exact⟨x,by show X.cell? ⟨g,0+j,H⟩=_;rw[bD];simpa using r⟩
  .cases m
theorem xJ (l:Lay X B h es ds ms qs scan dn mn):((nY h.e.a scan 0 es).map Prod.snd).Nodup/\
  (∀p∈nY h.e.a scan 0 es,Ty X p.2.block 49\/(Ty X p.2.block 53/\∃e∈es,p∈oQ e.sa 0 (scan e)))/\(nY h.e.a scan 0 es).map (gV X)=es.flatMap (λe=>iG e (scan e))/\Ints X (nY h.e.a scan 0 es):=by
 have ho:Own X B 49 9 dx (L h.e.a h.e.n h.e.c) es:=l.oe;rcases ho.tC with⟨ha,rfl⟩|⟨g,ha,hn,t,S⟩
 .exact⟨oI,λp a=>(by cases a),rfl,λp a=>(by cases a)⟩
 .rw[ha] at ho ⊢
  have hc:∀{j x},es[j]?=I x->∀{q v},(dx x)[q]?=I v->X.cell? ⟨g,j*9+q,H⟩=I v:=λm _ _ y=>ho.cells (hc:=jI) m y
  refine⟨sK (b:=g) (k:=9) (blk:=λe=>e.val.ownBlock) es 0 (λj x m=>by rw[bD];exact IG j x) (λx m=>⟨(qQ (l.se x m)).1,λp a=>⟨((qQ (l.se x m)).2.1 p a).2,((qQ (l.se x m)).2.1 p a).1.ne t aj⟩⟩) l.pe,λp a=>?_,?_,λp a=>?_⟩
  .obtain⟨j,x,m,a⟩:=(fP es 0 p).1 a
   rcases a with a|a
   .rw[bD] at a
    have:=((IG (b:=g) j x).2 p a).1;rw[this];exact .inl t
   .have u:=dA m
    exact .inr ⟨((qQ (l.se x u)).2.1 p a).1,x,u,a⟩
  .refine wN (gV X) _ es 0 (λj x m=>?_)
   rw[bD];have hs:=(qQ (l.se x (dA m))).2.2;rw[show(oQ x.sa 0 (scan x)).map (gV X)=_ from hs];have A:nL X ⟨g,0+(j*9+1),H⟩=x.t:=by rw[bD];exact jY (hc m rfl)
   have E:nL X ⟨g,0+(j*9+2),H⟩=x.eH:=by rw[bD];exact jY (hc m rfl)
   have K:nL X ⟨g,0+(j*9+4),H⟩=x.obj:=by rw[bD];exact jY (hc m rfl)
   have Q:nL X ⟨g,0+(j*9+5),H⟩=x.v.t:=by rw[bD];exact jY (hc m rfl)
   have R:nL X ⟨g,0+(j*9+7),H⟩=x.pred:=by rw[bD];exact jY (hc m rfl)
   unfold iG rG
   congr 1
   rw[dX]
   congr 1
   .unfold gV;simp only[A]
   .by_cases o:x.kind=1
    .rw[av o,av o];unfold gV;simp only[dX,jN,E]
    .rw[au o,au o]
     by_cases r:x.kind=2\/x.kind=3
     .rw[av r,av r,dX,IB Q];unfold gV;simp only[K]
     .rw[au r,au r]
      by_cases s:x.kind=4
      .rw[av s,av s];unfold gV;simp only[dX,jN,R]
      .rw[au s,au s];rfl
  .obtain⟨j,x,m,a⟩:=(fP es 0 p).1 a
   rcases a with a|a
   .rw[bD] at a
    unfold rG at a;rcases dO.1 a with rfl|a
    .exact⟨x.t,by show X.cell? ⟨g,0+(j*9+1),H⟩=_;rw[bD];exact hc m rfl⟩
    .split at a
     .rw[bX.1 a]
      exact⟨x.eH,by show X.cell? ⟨g,0+(j*9+2),H⟩=_;rw[bD];exact hc m rfl⟩
     .split at a
      .rcases dO.1 a with rfl|a
       .exact⟨x.obj,by show X.cell? ⟨g,0+(j*9+4),H⟩=_;rw[bD];exact hc m rfl⟩
       .exact IE (v:=x.v) (by rw[bD];exact hc m rfl) p a
      .split at a
       .rw[bX.1 a]
        exact⟨x.pred,by show X.cell? ⟨g,0+(j*9+7),H⟩=_;rw[bD];exact hc m rfl⟩
       .cases a
   .exact Uw (l.se x (dA m)) p a
theorem xK (l:Lay X B h es ds ms qs scan dn mn):((qH h.d.a dn 0 ds).map Prod.snd).Nodup/\
  (∀p∈qH h.d.a dn 0 ds,Ty X p.2.block 57\/(Ty X p.2.block 3/\∃e∈ds,e.val.ownBlock=I p.2.block/\p∈mh e.sa 0 (dn e)))/\(qH h.d.a dn 0 ds).map (gV X)=ds.flatMap (λx=>nE x (dn x))/\Ints X (qH h.d.a dn 0 ds):=by
 have ho:Own X B 57 2 dV (L h.d.a h.d.n h.d.c) ds:=l.od;rcases ho.tC with⟨ha,rfl⟩|⟨g,ha,hn,q,s⟩
 .exact⟨oI,λp a=>(by cases a),rfl,λp a=>(by cases a)⟩
 .rw[ha] at ho ⊢
  refine⟨sK (b:=g) (k:=2) (blk:=λe=>e.val.ownBlock) ds 0 (λj x m=>by rw[bD];exact OH j x) (λx m=>⟨(kU (l.sd x m)).1,λp a=>⟨((kU (l.sd x m)).2.1 p a).2,((kU (l.sd x m)).2.1 p a).1.ne q aj⟩⟩) l.pd,λp a=>?_,?_,λp a=>?_⟩
  .obtain⟨j,x,m,a⟩:=(fP ds 0 p).1 a
   rcases a with a|a
   .rw[bD] at a
    have:=((OH (b:=g) j x).2 p a).1;rw[this];exact .inl q
   .have o:=dA m
    exact .inr ⟨((kU (l.sd x o)).2.1 p a).1,x,o,((kU (l.sd x o)).2.1 p a).2,a⟩
  .refine wN (gV X) _ ds 0 (λj x m=>?_)
   rw[bD];have hs:=(kU (l.sd x (dA m))).2.2;rw[show(mh x.sa 0 (dn x)).map (gV X)=_ from hs];have r:nL X ⟨g,0+j*2,H⟩=x.obj:=by rw[bD];exact jY (ho.cells (hc:=kr) m (j:=0) rfl)
   unfold KM nE gV;simp only[dX,jN,r,fA,fK]
  .obtain⟨j,x,m,a⟩:=(fP ds 0 p).1 a
   rcases a with a|a
   .rw[bD] at a
    rw[bX.1 a];exact⟨x.obj,by show X.cell? ⟨g,0+j*2,H⟩=_;rw[bD];exact ho.cells (hc:=kr) m (j:=0) rfl⟩
   .exact KL (l.sd x (dA m)) p a
theorem xL (l:Lay X B h es ds ms qs scan dn mn):((qI h.m.a mn 0 ms).map Prod.snd).Nodup/\
  (∀p∈qI h.m.a mn 0 ms,Ty X p.2.block 60\/(Ty X p.2.block 3/\∃e∈ms,e.val.ownBlock=I p.2.block/\p∈mh e.sa 0 (mn e)))/\(qI h.m.a mn 0 ms).map (gV X)=ms.flatMap (λx=>l9 x (mn x))/\Ints X (qI h.m.a mn 0 ms):=by
 have ho:Own X B 60 4 eB (L h.m.a h.m.n h.m.c) ms:=l.om;rcases ho.tC with⟨ha,rfl⟩|⟨g,ha,hn,q,t⟩
 .exact⟨oI,λp a=>(by cases a),rfl,λp a=>(by cases a)⟩
 .rw[ha] at ho ⊢
  refine⟨sK (b:=g) (k:=4) (blk:=λe=>e.val.ownBlock) ms 0 (λj x m=>by rw[bD];exact OI j x) (λx m=>⟨(kU (l.sm x m)).1,λp a=>⟨((kU (l.sm x m)).2.1 p a).2,((kU (l.sm x m)).2.1 p a).1.ne q aj⟩⟩) l.pm,λp a=>?_,?_,λp a=>?_⟩
  .obtain⟨j,x,m,a⟩:=(fP ms 0 p).1 a
   rcases a with a|a
   .rw[bD] at a
    have:=((OI (b:=g) j x).2 p a).1;rw[this];exact .inl q
   .have o:=dA m
    exact .inr ⟨((kU (l.sm x o)).2.1 p a).1,x,o,((kU (l.sm x o)).2.1 p a).2,a⟩
  .refine wN (gV X) _ ms 0 (λj x m=>?_)
   rw[bD];have hs:=(kU (l.sm x (dA m))).2.2;rw[show(mh x.sa 0 (mn x)).map (gV X)=_ from hs];have r:nL X ⟨g,0+j*4,H⟩=x.pred:=by rw[bD];exact jY (ho.cells (hc:=ku) m (j:=0) rfl)
   have s:nL X ⟨g,0+(j*4+1),H⟩=x.obj:=by rw[bD];exact jY (ho.cells (hc:=ku) m (j:=1) rfl)
   unfold II l9 gV;simp only[dX,jN,r,s,fA,fK]
  .obtain⟨j,x,m,a⟩:=(fP ms 0 p).1 a
   rcases a with a|a
   .rw[bD] at a
    rcases dO.1 a with rfl|a
    .exact⟨x.pred,by show X.cell? ⟨g,0+j*4,H⟩=_;rw[bD];exact ho.cells (hc:=ku) m (j:=0) rfl⟩
    .rw[bX.1 a]
     exact⟨x.obj,by show X.cell? ⟨g,0+(j*4+1),H⟩=_;rw[bD];exact ho.cells (hc:=ku) m (j:=1) rfl⟩
   .exact KL (l.sm x (dA m)) p a
theorem xM (l:Lay X B h es ds ms qs scan dn mn):((tT h.w.a 0 qs).map Prod.snd).Nodup/\
  (∀p∈tT h.w.a 0 qs,Ty X p.2.block 63)/\(tT h.w.a 0 qs).map (gV X)=qs.flatMap mR/\Ints X (tT h.w.a 0 qs):=by
 have ho:Own X B 63 2 fE (L h.w.a h.w.n h.w.c) qs:=l.oq;rcases ho.tC with⟨ha,rfl⟩|⟨g,ha,hn,o,r⟩
 .exact⟨oI,λp a=>(by cases a),rfl,λp a=>(by cases a)⟩
 .rw[ha] at ho ⊢
  refine⟨sK (b:=g) (k:=2) (blk:=λ_=>H) qs 0 (λj x m=>by rw[bD];exact OJ j x) (λx m=>⟨oI,λp a=>(by cases a)⟩) (List.Pairwise.imp (λ_ _ h=>(by cases h)) (List.pairwise_of_forall (R:=λ_ _=>True) (λ_ _=>trivial))),λp a=>?_,?_,λp a=>?_⟩
  .obtain⟨j,x,m,a⟩:=(fP qs 0 p).1 a
   rcases a with a|a
   .rw[bD] at a
    have:=((OJ (b:=g) j x).2 p a).1;rw[this];exact o
   .cases a
  .refine wN (gV X) _ qs 0 (λj x m=>?_)
   rw[bD];have q:nL X ⟨g,0+j*2,H⟩=x.eH:=by rw[bD];exact jY (ho.cells (hc:=lQ) m (j:=0) rfl)
   unfold KN mR gV;simp only[dX,jN,q,dm]
  .obtain⟨j,x,m,a⟩:=(fP qs 0 p).1 a
   rcases a with a|a
   .rw[bD] at a
    rw[bX.1 a];exact⟨x.eH,by show X.cell? ⟨g,0+j*2,H⟩=_;rw[bD];exact ho.cells (hc:=lQ) m (j:=0) rfl⟩
   .cases a
theorem Ty.no {g:V}{T':TypeId}(a:Ty X g T)(h':Ty X g T')(l:T≠T'):False:=a.ne h' l rfl
theorem Lay.nodup (l:Lay X B h es ds ms qs scan dn mn):((aU h es ds ms qs scan dn mn).map Prod.snd).Nodup:=by
 obtain⟨Q,R,_⟩:=xJ l;obtain⟨S,A,_⟩:=xK l;obtain⟨Z,E,_⟩:=xL l;obtain⟨q1,K,_⟩:=xM l;unfold aU;rw[eY,eY,eY];refine vg.2 ⟨Q,vg.2 ⟨S,vg.2 ⟨Z,q1,?_⟩,?_⟩,?_⟩
 .intro p v q o e
  obtain⟨t,u,rfl⟩:=bS.1 v;obtain⟨r,s,rfl⟩:=bS.1 o;have a:=K r s;rw[<-e] at a;rcases E t u with m|⟨m,_⟩
  .exact m.no a aj
  .exact m.no a aj
 .intro p v q o e
  obtain⟨t,u,rfl⟩:=bS.1 v;rcases cu.1 o with o|o
  .obtain⟨r,s,rfl⟩:=bS.1 o
   have m:=A t u;have a:=E r s;rw[<-e] at a;rcases m with m|⟨m,x,hx,γ,_⟩
   .rcases a with a|⟨a,_⟩
    .exact m.no a aj
    .exact m.no a aj
   .rcases a with a|⟨a,y,hy,δ,_⟩
    .exact m.no a aj
    .exact l.px x hx y hy _ γ δ
  .obtain⟨r,s,rfl⟩:=bS.1 o
   have a:=K r s;rw[<-e] at a;rcases A t u with m|⟨m,_⟩
   .exact m.no a aj
   .exact m.no a aj
 .intro p v q o e
  obtain⟨t,u,rfl⟩:=bS.1 v;have m:=R t u;rcases cu.1 o with o|o
  .obtain⟨r,s,rfl⟩:=bS.1 o
   have a:=A r s;rw[<-e] at a;rcases m with m|⟨m,_⟩ <;> rcases a with a|⟨a,_⟩ <;> exact m.no a aj
  .rcases cu.1 o with o|o
   .obtain⟨r,s,rfl⟩:=bS.1 o
    have a:=E r s;rw[<-e] at a;rcases m with m|⟨m,_⟩ <;> rcases a with a|⟨a,_⟩ <;> exact m.no a aj
   .obtain⟨r,s,rfl⟩:=bS.1 o
    have a:=K r s;rw[<-e] at a;rcases m with m|⟨m,_⟩ <;> exact m.no a aj
theorem Lay.vals (l:Lay X B h es ds ms qs scan dn mn):(aU h es ds ms qs scan dn mn).map (gV X)=kz es ds ms qs scan dn mn:=by
 unfold aU kz;rw[eY,eY,eY,(xJ l).2.2.1,(xK l).2.2.1,(xL l).2.2.1,(xM l).2.2.1];simp only[dw]
theorem Lay.ints (l:Lay X B h es ds ms qs scan dn mn):Ints X (aU h es ds ms qs scan dn mn):=λp a=>by
 unfold aU at a;rcases cu.1 a with a|a
 .exact(xJ l).2.2.2 p a
 .rcases cu.1 a with a|a
  .exact(xK l).2.2.2 p a
  .rcases cu.1 a with a|a
   .exact(xL l).2.2.2 p a
   .exact(xM l).2.2.2 p a
end
theorem KO {a:Type}{val:a->Value}{xs:G a}(l:xs.Pairwise (λx y=>∀g,(val x).ownBlock=I g->(val y).ownBlock≠I g)){x y:a}(s:x∈xs)(t:y∈xs){g:V}(m:(val x).ownBlock=I g)(o:(val y).ownBlock=I g):x=y:=by
 rw[BB] at l;obtain⟨i,p,rfl⟩:=BO.1 s;obtain⟨j,r,rfl⟩:=BO.1 t;rcases Nat.lt_trichotomy i j with q|q|q
 .exact absurd o (l i j p r q g m)
 .subst q;rfl
 .exact absurd m (l j i r p q g o)
theorem OL {g q:V}{e:EvC}(a:(s,(⟨g,q,H⟩:Addr))∈rG (I ⟨g,0,H⟩) i e):
  (q=i*9+1/\s=0)\/(q=i*9+2/\s=1/\e.kind=1)\/(q=i*9+4/\s=2/\(e.kind=2\/e.kind=3))\/(q=i*9+5/\s=0/\(e.kind=2\/e.kind=3)/\0<e.v.k)\/(q=i*9+7/\s=3/\e.kind=4):=by
 have l:∀{u:C}{r:V},((s,(⟨g,q,H⟩:Addr)):C × Addr)=(u,(⟨g,0+r,H⟩:Addr))->q=r/\s=u:=λe=>by
  injection e with v t;injection t with _ t _;exact⟨by omega,v⟩
 unfold rG at a;rcases dO.1 a with a|a
 .have:=l a;exact .inl this
 .by_cases o:e.kind=1
  .rw[av o] at a
   have:=l (bX.1 a);exact .inr (.inl ⟨this.1,this.2,o⟩)
  .rw[au o] at a
   by_cases m:e.kind=2\/e.kind=3
   .rw[av m] at a
    rcases dO.1 a with a|a
    .have:=l a
     exact .inr (.inr (.inl ⟨this.1,this.2,m⟩))
    .obtain⟨x,y⟩:=oU.1 a
     have:=l x;exact .inr (.inr (.inr (.inl ⟨this.1,this.2,m,y⟩)))
   .rw[au m] at a
    by_cases p:e.kind=4
    .rw[av p] at a
     have:=l (bX.1 a);exact .inr (.inr (.inr (.inr ⟨this.1,this.2,p⟩)))
    .rw[au p] at a;cases a
theorem YL (g i:V)(e:EvC):((0:C),(⟨g,i*9+1,H⟩:Addr))∈rG (I ⟨g,0,H⟩) i e:=by
 unfold rG;rw[show(⟨g,i*9+1,H⟩:Addr)=mH (I ⟨g,0,H⟩) (i*9+1) from by simp[mH]];exact fQ
theorem YM (g i:V){e:EvC}(k:e.kind=1):((1:C),(⟨g,i*9+2,H⟩:Addr))∈rG (I ⟨g,0,H⟩) i e:=by
 unfold rG;rw[av k,show(⟨g,i*9+2,H⟩:Addr)=mH (I ⟨g,0,H⟩) (i*9+2) from by simp[mH]];exact d9 _ (bX.2 rfl)
theorem YN (g i:V){e:EvC}(k:e.kind=2\/e.kind=3):((2:C),(⟨g,i*9+4,H⟩:Addr))∈rG (I ⟨g,0,H⟩) i e:=by
 unfold rG;rw[au ah,av k,show(⟨g,i*9+4,H⟩:Addr)=mH (I ⟨g,0,H⟩) (i*9+4) from by simp[mH]];exact d9 _ fQ
theorem YO (g i:V){e:EvC}(k:e.kind=2\/e.kind=3)(a:0<e.v.k):((0:C),(⟨g,i*9+5,H⟩:Addr))∈rG (I ⟨g,0,H⟩) i e:=by
 unfold rG;rw[au ah,av k,show(⟨g,i*9+5,H⟩:Addr)=mH (I ⟨g,0,H⟩) (i*9+5) from by simp[mH]];exact d9 _ (d9 _ (oU.2 ⟨rfl,a⟩))
theorem YP (g i:V){e:EvC}(k:e.kind=4):((3:C),(⟨g,i*9+7,H⟩:Addr))∈rG (I ⟨g,0,H⟩) i e:=by
 unfold rG;rw[au ah,au ah,av k,show(⟨g,i*9+7,H⟩:Addr)=mH (I ⟨g,0,H⟩) (i*9+7) from by simp[mH]];exact d9 _ (bX.2 rfl)
def BP (e:EvC):Prop:=(e.kind≠1->e.eH=0)/\(¬(e.kind=2\/e.kind=3)->e.obj=0/\e.v=⟨0,0⟩)/\(e.kind≠4->e.pred=0)
def Tk (F:C->G C)(e:EvC):EvC:={eU F e with sa:=e.sa,sn:=e.sn,sc:=e.sc}
def Tm (F:C->G C)(x:aG):aG:={x with obj:=dY (F 2) x.obj}
def Tn (F:C->G C)(x:aK):aK:={x with pred:=dY (F 3) x.pred,obj:=dY (F 2) x.obj}
def Zx (F:C->G C)(x:Wa):Wa:={x with eH:=dY (F 1) x.eH}
section
variable {X Y:World}{B:V}{h:HC}{es:G EvC}{ds:G aG}{ms:G aK}{qs:G Wa}{scan:EvC->G Sn}{dn:aG->G C}{mn:aK->G C}
variable{p:C × Addr}
theorem Tp (a:p∈nY h.e.a scan 0 es):p∈aU h es ds ms qs scan dn mn:=iw _ a
theorem Tq (a:p∈qH h.d.a dn 0 ds):p∈aU h es ds ms qs scan dn mn:=jq _ (iw _ a)
theorem Mj (a:p∈qI h.m.a mn 0 ms):p∈aU h es ds ms qs scan dn mn:=jq _ (jq _ (iw _ a))
theorem YQ (a:p∈tT h.w.a 0 qs):p∈aU h es ds ms qs scan dn mn:=jq _ (jq _ (jq _ a))
theorem Lay.which (l:Lay X B h es ds ms qs scan dn mn)(o:p∈aU h es ds ms qs scan dn mn):
  (Ty X p.2.block 49/\∃i e,es[i]?=I e/\p∈rG h.e.a i e)\/(Ty X p.2.block 53/\∃e∈es,e.val.ownBlock=I p.2.block/\p∈oQ e.sa 0 (scan e))\/
  (Ty X p.2.block 57/\∃i x,ds[i]?=I x/\p∈KM h.d.a i x)\/(Ty X p.2.block 60/\∃i x,ms[i]?=I x/\p∈II h.m.a i x)\/(Ty X p.2.block 63/\∃i x,qs[i]?=I x/\p∈KN h.w.a i x)\/
  (Ty X p.2.block 3/\((∃x∈ds,x.val.ownBlock=I p.2.block/\p∈mh x.sa 0 (dn x))\/(∃x∈ms,x.val.ownBlock=I p.2.block/\p∈mh x.sa 0 (mn x)))):=by
 unfold aU at o;rcases cu.1 o with o|o
 .have m:=(xJ l).2.1 p o
  obtain⟨j,x,q,a⟩:=(fP es 0 p).1 o;rcases a with a|a
  .rw[bD] at a
   rcases m with m|⟨m,y,r,s⟩
   .exact .inl ⟨m,j,x,q,a⟩
   .exact .inr (.inl ⟨m,y,r,((qQ (l.se y r)).2.1 p s).2,s⟩)
  .have t:=dA q
   exact .inr (.inl ⟨((qQ (l.se x t)).2.1 p a).1,x,t,((qQ (l.se x t)).2.1 p a).2,a⟩)
 .rcases cu.1 o with o|o
  .have m:=(xK l).2.1 p o
   obtain⟨j,x,q,a⟩:=(fP ds 0 p).1 o;rcases m with m|⟨m,y,r,hb,s⟩
   .rcases a with a|a
    .rw[bD] at a
     exact .inr (.inr (.inl ⟨m,j,x,q,a⟩))
    .exact(m.no ((kU (l.sd x (dA q))).2.1 p a).1 aj).elim
   .exact .inr (.inr (.inr (.inr (.inr ⟨m,.inl ⟨y,r,hb,s⟩⟩))))
  .rcases cu.1 o with o|o
   .have m:=(xL l).2.1 p o
    obtain⟨j,x,q,a⟩:=(fP ms 0 p).1 o;rcases m with m|⟨m,y,r,hb,s⟩
    .rcases a with a|a
     .rw[bD] at a
      exact .inr (.inr (.inr (.inl ⟨m,j,x,q,a⟩)))
     .exact(m.no ((kU (l.sm x (dA q))).2.1 p a).1 aj).elim
    .exact .inr (.inr (.inr (.inr (.inr ⟨m,.inr ⟨y,r,hb,s⟩⟩))))
   .have m:=(xM l).2.1 p o
    obtain⟨j,x,q,a⟩:=(fP qs 0 p).1 o;rcases a with a|a
    .rw[bD] at a
     exact .inr (.inr (.inr (.inr (.inl ⟨m,j,x,q,a⟩))))
    .cases a
theorem Lay.Tt (l:Lay X B h es ds ms qs scan dn mn){g:V}(ha:h.e.a=I ⟨g,0,H⟩)(r:j<9)(m:(s,(⟨g,i*9+j,H⟩:Addr))∈aU h es ds ms qs scan dn mn):
  ∃e,es[i]?=I e/\((j=1/\s=0)\/(j=2/\s=1/\e.kind=1)\/(j=4/\s=2/\(e.kind=2\/e.kind=3))\/(j=5/\s=0/\(e.kind=2\/e.kind=3)/\0<e.v.k)\/(j=7/\s=3/\e.kind=4)):=by
 have o:Ty X g 49:=l.oe.tag (by show(Value.slice h.e.a h.e.n h.e.c).ownBlock=I g;rw[ha];rfl);rcases l.which m with⟨_,p,e,q,a⟩|⟨t,_⟩|⟨t,_⟩|⟨t,_⟩|⟨t,_⟩|⟨t,_⟩
 .rw[ha] at a
  have hc:=OL a;obtain rfl:p=i:=by rcases hc with c|c|c|c|c <;> (have:=c.1;omega)
  refine⟨e,q,?_⟩;rcases hc with c|c|c|c|c
  .exact .inl ⟨by omega,c.2⟩
  .exact .inr (.inl ⟨by omega,c.2⟩)
  .exact .inr (.inr (.inl ⟨by omega,c.2⟩))
  .exact .inr (.inr (.inr (.inl ⟨by omega,c.2⟩)))
  .exact .inr (.inr (.inr (.inr ⟨by omega,c.2⟩)))
 all_goals exact(o.no t aj).elim
theorem Lay.Wv (l:Lay X B h es ds ms qs scan dn mn)(R:Moved X Y F (aU h es ds ms qs scan dn mn))(S:∀e∈es,BP e):Own Y B 49 9 dx h.e.v (es.map (Tk F)):=by
 refine l.oe.moved (hc:=jI) R (by rw[bg]) (λg o i x y j u r t a=>?_);have ho:Own X B 49 9 dx (L h.e.a h.e.n h.e.c) es:=l.oe;have ha:h.e.a=I ⟨g,0,H⟩:=by
  rcases ho.tC with⟨ha,_⟩|⟨g',ha,_⟩
  .rw[show h.e.v= L h.e.a h.e.n h.e.c from rfl,ha] at o;cases o
  .rw[show h.e.v= L h.e.a h.e.n h.e.c from rfl,ha] at o;injection o with o;rw[ha];subst o;rfl
 rw[nS,r] at t;injection t with t;subst t;have Z:=dA r;obtain⟨b1,A,b3⟩:=S x Z;have m:∀{j:V},j<9->(∀s,¬((j=1/\s=(0:C))\/(j=2/\s=1/\x.kind=1)\/(j=4/\s=2/\(x.kind=2\/x.kind=3))\/(j=5/\s=0/\(x.kind=2\/x.kind=3)/\0<x.v.k)\/(j=7/\s=3/\x.kind=4)))->∀s,(s,(⟨g,i*9+j,H⟩:Addr))∉aU h es ds ms qs scan dn mn:=λE hn s K=>by
  obtain⟨e,v,hc⟩:=l.Tt ha E K;rw[r] at v;injection v with v;subst v;exact hn s hc
 have q:∀{p:C × Addr},p∈rG (I ⟨g,0,H⟩) i x->p∈aU h es ds ms qs scan dn mn:=λK=>Tp ((fP es 0 _).2 ⟨i,x,r,.inl (by rw[ha,bD];exact K)⟩)
 have γ:j<9:=by have:=(bK.1 a).1;simpa[dx] using this
 have E:j=0\/j=1\/j=2\/j=3\/j=4\/j=5\/j=6\/j=7\/j=8:=by omega
 rcases E with rfl|rfl|rfl|rfl|rfl|rfl|rfl|rfl|rfl
 .exact .inl ⟨a,m ah (λs hc=>by omega)⟩
 .refine .inr ⟨0,x.t,q (YL g i x),?_,rfl⟩
  injection a with a;exact a.symm
 .by_cases k:x.kind=1
  .refine .inr ⟨1,x.eH,q (YM g i k),?_,?_⟩
   .injection a with a;exact a.symm
   .show I (Value.int U (if x.kind=1 then dY (F 1) x.eH else 0))=_
    rw[av k]
  .refine .inl ⟨?_,m ah (λs hc=>by omega)⟩
   rw[<-a];show I (Value.int U (if x.kind=1 then dY (F 1) x.eH else 0))=I (Value.int U x.eH);rw[au k,b1 k]
 .exact .inl ⟨a,m ah (λs hc=>by omega)⟩
 .by_cases k:x.kind=2\/x.kind=3
  .refine .inr ⟨2,x.obj,q (YN g i k),?_,?_⟩
   .injection a with a;exact a.symm
   .show I (Value.int U (if x.kind=2\/x.kind=3 then dY (F 2) x.obj else 0))=_
    rw[av k]
  .refine .inl ⟨?_,m ah (λs hc=>by omega)⟩
   rw[<-a];show I (Value.int U (if x.kind=2\/x.kind=3 then dY (F 2) x.obj else 0))=I (Value.int U x.obj);rw[au k,(A k).1]
 .by_cases k:x.kind=2\/x.kind=3
  .by_cases Q:0<x.v.k
   .refine .inr ⟨0,x.v.t,q (YO g i k Q),?_,?_⟩
    .injection a with a;exact a.symm
    .show I (Value.int U (if x.kind=2\/x.kind=3 then kS F x.v else⟨0,0⟩).t)=_
     unfold kS;rw[av k,av Q]
   .refine .inl ⟨?_,m ah (λs hc=>by omega)⟩
    rw[<-a];show I (Value.int U (if x.kind=2\/x.kind=3 then kS F x.v else⟨0,0⟩).t)=I (Value.int U x.v.t);unfold kS;rw[av k,au Q]
  .refine .inl ⟨?_,m ah (λs hc=>by omega)⟩
   rw[<-a];show I (Value.int U (if x.kind=2\/x.kind=3 then kS F x.v else⟨0,0⟩).t)=I (Value.int U x.v.t);rw[au k,(A k).2]
 .refine .inl ⟨?_,m ah (λs hc=>by omega)⟩
  rw[<-a];show I (Value.int U (if x.kind=2\/x.kind=3 then kS F x.v else⟨0,0⟩).k)=I (Value.int U x.v.k);by_cases k:x.kind=2\/x.kind=3
  .rw[av k]
   unfold kS
   split <;> rfl
  .rw[au k,(A k).2]
 .by_cases k:x.kind=4
  .refine .inr ⟨3,x.pred,q (YP g i k),?_,?_⟩
   .injection a with a;exact a.symm
   .show I (Value.int U (if x.kind=4 then dY (F 3) x.pred else 0))=_
    rw[av k]
  .refine .inl ⟨?_,m ah (λs hc=>by omega)⟩
   rw[<-a];show I (Value.int U (if x.kind=4 then dY (F 3) x.pred else 0))=I (Value.int U x.pred);rw[au k,b3 k]
 .exact .inl ⟨a,m ah (λs hc=>by omega)⟩
end
theorem AQ {m:Type}{enc:m->G Value}{k:V}{B:V}{n c:V}{xs:G m}(o:Own X B T k enc (L a n c) xs){g:V}(l:(Value.slice a n c).ownBlock=I g):a=I ⟨g,0,H⟩:=by
 rcases o.tC with⟨ha,_⟩|⟨p,ha,_⟩
 .rw[ha] at l;cases l
 .rw[ha] at l ⊢;injection l with l;subst l;rfl
theorem qg {g q:V}{u:C}{r:V}(e:((s,(⟨g,q,H⟩:Addr)):C × Addr)=(u,(⟨g,0+r,H⟩:Addr))):q=r/\s=u:=by
 injection e with l a;injection a with _ a _;exact⟨by omega,l⟩
section
variable {X Y:World}{B:V}{h:HC}{es:G EvC}{ds:G aG}{ms:G aK}{qs:G Wa}{scan:EvC->G Sn}{dn:aG->G C}{mn:aK->G C}{F:C->G C}
theorem Lay.Ww (l:Lay X B h es ds ms qs scan dn mn)(v:Moved X Y F (aU h es ds ms qs scan dn mn)):Own Y B 57 2 dV h.d.v (ds.map (Tm F)):=by
 refine l.od.moved (hc:=kr) v (by rw[bg]) (λg p i x y j u q o a=>?_);have ha:=AQ (show Own X B 57 2 dV (L h.d.a h.d.n h.d.c) ds from l.od) p;have m:Ty X g 57:=l.od.tag p;rw[nS,q] at o;injection o with o;subst o;have E:j<2:=by have:=(bK.1 a).1;simpa[dV] using this
 rcases(by omega:j=0\/j=1) with rfl|rfl
 .refine .inr ⟨2,x.obj,Tq ((fP ds 0 _).2 ⟨i,x,q,.inl ?_⟩),?_,rfl⟩
  .rw[ha,bD];simp[KM,mH]
  .injection a with a;exact a.symm
 .refine .inl ⟨a,λs A=>?_⟩
  rcases l.which A with⟨t,_⟩|⟨t,_⟩|⟨_,K,e,Q,r⟩|⟨t,_⟩|⟨t,_⟩|⟨t,_⟩
  .exact m.no t aj
  .exact m.no t aj
  .rw[ha] at r
   have:=qg (bX.1 r);omega
  .exact m.no t aj
  .exact m.no t aj
  .exact m.no t aj
theorem Lay.Wx (l:Lay X B h es ds ms qs scan dn mn)(A:Moved X Y F (aU h es ds ms qs scan dn mn)):Own Y B 60 4 eB h.m.v (ms.map (Tn F)):=by
 refine l.om.moved (hc:=ku) A (by rw[bg]) (λg r i x y j u q p a=>?_);have ha:=AQ (show Own X B 60 4 eB (L h.m.a h.m.n h.m.c) ms from l.om) r;have o:Ty X g 60:=l.om.tag r;rw[nS,q] at p;injection p with p;subst p;have K:j<4:=by have:=(bK.1 a).1;simpa[eB] using this
 have v:∀{j},j<4->2<=j->∀s,(s,(⟨g,i*4+j,H⟩:Addr))∉aU h es ds ms qs scan dn mn:=λQ R s E=>by
  rcases l.which E with⟨t,_⟩|⟨t,_⟩|⟨t,_⟩|⟨_,S,e,Z,m⟩|⟨t,_⟩|⟨t,_⟩
  .exact o.no t aj
  .exact o.no t aj
  .exact o.no t aj
  .rw[ha] at m
   rcases dO.1 m with m|m
   .have:=qg m;omega
   .have:=qg (bX.1 m);omega
  .exact o.no t aj
  .exact o.no t aj
 rcases(by omega:j=0\/j=1\/j=2\/j=3) with rfl|rfl|rfl|rfl
 .refine .inr ⟨3,x.pred,Mj ((fP ms 0 _).2 ⟨i,x,q,.inl ?_⟩),?_,rfl⟩
  .rw[ha,bD];simp[II,mH]
  .injection a with a;exact a.symm
 .refine .inr ⟨2,x.obj,Mj ((fP ms 0 _).2 ⟨i,x,q,.inl ?_⟩),?_,rfl⟩
  .rw[ha,bD];simp[II,mH]
  .injection a with a;exact a.symm
 .exact .inl ⟨a,v ah ah⟩
 .exact .inl ⟨a,v ah ah⟩
theorem Lay.Wy (l:Lay X B h es ds ms qs scan dn mn)(v:Moved X Y F (aU h es ds ms qs scan dn mn)):Own Y B 63 2 fE h.w.v (qs.map (Zx F)):=by
 refine l.oq.moved (hc:=lQ) v (by rw[bg]) (λg p i x y j u q o a=>?_);have ha:=AQ (show Own X B 63 2 fE (L h.w.a h.w.n h.w.c) qs from l.oq) p;have m:Ty X g 63:=l.oq.tag p;rw[nS,q] at o;injection o with o;subst o;have E:j<2:=by have:=(bK.1 a).1;simpa[fE] using this
 rcases(by omega:j=0\/j=1) with rfl|rfl
 .refine .inr ⟨1,x.eH,YQ ((fP qs 0 _).2 ⟨i,x,q,.inl ?_⟩),?_,rfl⟩
  .rw[ha,bD];simp[KN,mH]
  .injection a with a;exact a.symm
 .refine .inl ⟨a,λs A=>?_⟩
  rcases l.which A with⟨t,_⟩|⟨t,_⟩|⟨t,_⟩|⟨t,_⟩|⟨_,K,e,Q,r⟩|⟨t,_⟩
  .exact m.no t aj
  .exact m.no t aj
  .exact m.no t aj
  .exact m.no t aj
  .rw[ha] at r
   have:=qg (bX.1 r);omega
  .exact m.no t aj
theorem Lay.Wz (l:Lay X B h es ds ms qs scan dn mn)(hM:Moved X Y F (aU h es ds ms qs scan dn mn)){e:EvC}(r:e∈es):Own Y B 53 3 cZ e.val ((scan e).map (xH F)):=by
 refine(l.se e r).moved (hc:=ko) hM (by rw[bg]) (λg Q i x y j u R A m=>?_);have ha:=AQ (show Own X B 53 3 cZ (L e.sa e.sn e.sc) (scan e) from l.se e r) Q;have v:Ty X g 53:=(l.se e r).tag Q;rw[nS,R] at A;injection A with A;subst A;have ε:j<3:=by have:=(bK.1 m).1;simpa[cZ] using this
 have S:∀{p},p∈IJ (I ⟨g,0,H⟩) i x->p∈aU h es ds ms qs scan dn mn:=λo=>by
  obtain⟨q,hq⟩:=pO.1 r;refine Tp ((fP es 0 _).2 ⟨q,e,hq,.inr ?_⟩);rw[ha];exact(fP (scan e) 0 _).2 ⟨i,x,R,.inl (by rw[bD];exact o)⟩
 have Z:∀{j s},j<3->(s,(⟨g,i*3+j,H⟩:Addr))∈aU h es ds ms qs scan dn mn->(s,(⟨g,i*3+j,H⟩:Addr))∈IJ (I ⟨g,0,H⟩) i x:=fun {j s} hj o=>by
  rcases l.which o with⟨t,_⟩|⟨_,e',γ,δ,a⟩|⟨t,_⟩|⟨t,_⟩|⟨t,_⟩|⟨t,_⟩
  .exact(v.no t aj).elim
  .obtain rfl:=KO (val:=EvC.val) l.pe r γ Q δ
   rw[ha] at a;obtain⟨q,z,E,a⟩:=(fP (scan e) 0 _).1 a;rcases a with a|a
   .rw[bD] at a
    have:=((IC (b:=g) q z).2 _ a).2;simp only at this;obtain rfl:q=i:=by omega
    rw[R] at E;injection E with E;subst E;exact a
   .cases a
  .exact(v.no t aj).elim
  .exact(v.no t aj).elim
  .exact(v.no t aj).elim
  .exact(v.no t aj).elim
 rcases(by omega:j=0\/j=1\/j=2) with rfl|rfl|rfl
 .refine .inr ⟨2,x.obj,S (by simp[IJ,mH]),?_,rfl⟩
  injection m with m;exact m.symm
 .by_cases K:0<x.v.k
  .refine .inr ⟨0,x.v.t,S (d9 _ (oU.2 ⟨by simp[mH],K⟩)),?_,?_⟩
   .injection m with m;exact m.symm
   .show I (Value.int U (kS F x.v).t)=_
    unfold kS;rw[av K]
  .refine .inl ⟨?_,λs o=>?_⟩
   .rw[<-m]
    show I (Value.int U (kS F x.v).t)=I (Value.int U x.v.t);unfold kS;rw[au K]
   .rcases dO.1 (Z ah o) with a|a
    .have:=qg a;omega
    .exact K (oU.1 a).2
 .refine .inl ⟨?_,λs o=>?_⟩
  .rw[<-m]
   show I (Value.int U (kS F x.v).k)=I (Value.int U x.v.k);unfold kS
   split <;> rfl
  .rcases dO.1 (Z ah o) with a|a
   .have:=qg a;omega
   .have:=qg (oU.1 a).1;omega
theorem Lay.OM (l:Lay X B h es ds ms qs scan dn mn)(t:Moved X Y F (aU h es ds ms qs scan dn mn)){n c:V}{m:G C}(r:Own X B 3 1 aS (L a n c) m)(v:∀p∈mh a 0 m,p∈aU h es ds ms qs scan dn mn):Own Y B 3 1 aS (L a n c) (m.map (dY (F 0))):=by
 refine r.moved (hc:=eP) t (by rw[bg]) (λg A i x y j u s o q=>?_);have ha:=AQ r A;rw[nS,s] at o;injection o with o;subst o;have E:j<1:=by have:=(bK.1 q).1;simpa[aS] using this
 obtain rfl:j=0:=by omega
 refine .inr ⟨0,x,v _ ?_,?_,rfl⟩
 .rw[ha]
  exact(fP m 0 _).2 ⟨i,x,s,.inl (by simp[Tv,mH])⟩
 .injection q with q;exact q.symm
theorem Lay.WA (l:Lay X B h es ds ms qs scan dn mn)(m:Moved X Y F (aU h es ds ms qs scan dn mn)){x:aG}(a:x∈ds):Own Y B 3 1 aS x.val ((dn x).map (dY (F 0))):=
 l.OM m (l.sd x a) (λp o=>(let⟨q,r⟩:=pO.1 a;Tq ((fP ds 0 _).2 ⟨q,x,r,.inr o⟩)))
theorem Lay.WB (l:Lay X B h es ds ms qs scan dn mn)(m:Moved X Y F (aU h es ds ms qs scan dn mn)){x:aK}(a:x∈ms):Own Y B 3 1 aS x.val ((mn x).map (dY (F 0))):=
 l.OM m (l.sm x a) (λp o=>(let⟨q,r⟩:=pO.1 a;Mj ((fP ms 0 _).2 ⟨q,x,r,.inr o⟩)))
variable{o:V}
theorem Lay.YR (l:Lay X B h es ds ms qs scan dn mn){b k:V}(ha:h.e.a=I ⟨b,o,H⟩)(r:j=0\/j=6\/j=8)(s:C):(s,(⟨b,o+k*9+j,H⟩:Addr))∉aU h es ds ms qs scan dn mn:=λa=>by
 rcases(show Own X B 49 9 dx (L h.e.a h.e.n h.e.c) es from l.oe).tC with⟨q,_⟩|⟨g,q,_⟩
 .rw[ha] at q;cases q
 .rw[ha] at q
  injection q with q;injection q with m p;subst m p;rw[bD] at a;obtain⟨e,_,hc⟩:=l.Tt ha ah a;omega
theorem Lay.YS (l:Lay X B h es ds ms qs scan dn mn){b k:V}(ha:h.d.a=I ⟨b,o,H⟩)(s:C):(s,(⟨b,o+k*2+1,H⟩:Addr))∉aU h es ds ms qs scan dn mn:=λp=>by
 have ho:Own X B 57 2 dV (L h.d.a h.d.n h.d.c) ds:=l.od;rcases ho.tC with⟨q,_⟩|⟨g,q,_⟩
 .rw[ha] at q;cases q
 .rw[ha] at q
  injection q with q;injection q with r u;subst r u;have a:Ty X b 57:=l.od.tag (by show(Value.slice h.d.a h.d.n h.d.c).ownBlock=I b;rw[ha];rfl);rcases l.which p with⟨t,_⟩|⟨t,_⟩|⟨_,v,e,x,m⟩|⟨t,_⟩|⟨t,_⟩|⟨t,_⟩
  .exact a.no t aj
  .exact a.no t aj
  .rw[ha] at m
   have:=qg (bX.1 m);omega
  .exact a.no t aj
  .exact a.no t aj
  .exact a.no t aj
theorem Lay.YT (l:Lay X B h es ds ms qs scan dn mn){b k:V}(ha:h.m.a=I ⟨b,o,H⟩)(s:C):(s,(⟨b,o+k*4+3,H⟩:Addr))∉aU h es ds ms qs scan dn mn:=λp=>by
 have ho:Own X B 60 4 eB (L h.m.a h.m.n h.m.c) ms:=l.om;rcases ho.tC with⟨q,_⟩|⟨g,q,_⟩
 .rw[ha] at q;cases q
 .rw[ha] at q
  injection q with q;injection q with r u;subst r u;have m:Ty X b 60:=l.om.tag (by show(Value.slice h.m.a h.m.n h.m.c).ownBlock=I b;rw[ha];rfl);rcases l.which p with⟨t,_⟩|⟨t,_⟩|⟨t,_⟩|⟨_,v,e,x,a⟩|⟨t,_⟩|⟨t,_⟩
  .exact m.no t aj
  .exact m.no t aj
  .exact m.no t aj
  .rw[ha] at a
   rcases dO.1 a with a|a
   .have:=qg a;omega
   .have:=qg (bX.1 a);omega
  .exact m.no t aj
  .exact m.no t aj
theorem Lay.iX (l:Lay X B h es ds ms qs scan dn mn){e:EvC}(p:e∈es){b k:V}(ha:e.sa=I ⟨b,o,H⟩)(s:C):(s,(⟨b,o+k*3+2,H⟩:Addr))∉aU h es ds ms qs scan dn mn:=λu=>by
 have ho:Own X B 53 3 cZ (L e.sa e.sn e.sc) (scan e):=l.se e p;rcases ho.tC with⟨q,_⟩|⟨g,q,_⟩
 .rw[ha] at q;cases q
 .rw[ha] at q
  injection q with q;injection q with v x;subst v x;have r:e.val.ownBlock=I b:=by show(Value.slice e.sa e.sn e.sc).ownBlock=I b;rw[ha];rfl
  have m:Ty X b 53:=(l.se e p).tag r;rcases l.which u with⟨t,_⟩|⟨_,E,y,A,a⟩|⟨t,_⟩|⟨t,_⟩|⟨t,_⟩|⟨t,_⟩
  .exact m.no t aj
  .obtain rfl:=KO (val:=EvC.val) l.pe p y r A
   rw[ha] at a;obtain⟨q,z,K,a⟩:=(fP (scan e) 0 _).1 a;rcases a with a|a
   .rw[bD] at a
    rcases dO.1 a with a|a
    .have:=qg a;omega
    .have:=qg (oU.1 a).1;omega
   .cases a
  .exact m.no t aj
  .exact m.no t aj
  .exact m.no t aj
  .exact m.no t aj
end
end Yd
namespace Yd
open Option renaming none->G,some->U
open Go Go.RowKit Go.Proofs Go.Maps Tryz
open Go.Obj renaming cells->J
open Go.Value renaming slice->H
open _root_ renaming Int->I,List->O
section
variable {P:Program}{k e T:TypeId}{W W':World}{b n:Nat}{f:I->I->Option I}
theorem l5.WC (E:l5 P k e W b n f)(K:WideMaps.KeyLaw P k)(Q:P.underlying T=U (.map k e))(R:P.underlying e=U (.int .i64))(S:(zeroValue e).run P W= .ok (.int .i64 0) W){t x:I}{o:Lit}(r:keyOf P k (mI t x)=U o):
  (Instr.lookup T (.map (U b)) (mI t x) true).run P W= .ok (.tuple #[.int .i64 ((f t x).getD 0),.bool (f t x).isSome]) W:=by
 obtain⟨s,hD,⟨es,ζ,hb,F,hs,p⟩,Z⟩:=E;obtain⟨l,u⟩:=Z t x o r;rcases Maps.fit_look true (Keyed.of_law K) Q S hb F r with⟨q,_,v⟩|⟨e0,y,_,_,q,γ,A,_⟩
 .have a:=v (.lit (.int .i64 0))
  rw[<-p] at a;rw[a] at l;injection l with l;injection l with _ l;have m:=has_false_of_atKey (D:=s) (k:=o) (λz=>by rw[p];exact v z);rw[u] at m;rw[<-l,m];exact q
 .obtain⟨c,δ,ε,_⟩:=plainElem_int_inv R γ
  have a:=A (.lit (.int .i64 0));rw[<-p,l] at a;rw[ε] at a;injection a with a;injection a with _ a;have m:=has_true_of_atKey (D:=s) (k:=o) (λz=>by rw[p];exact A z);rw[u] at m;rw[a,m];rw[δ] at q;exact q
end
theorem OO:154<Tryz.prog.types.size:=rJ ay
theorem Ux:(match Tryz.prog.underlying 154 with|some (.array _ _)|some (.struct _)=>true|_=>false)=true:=ay
theorem Uy:laidOutB Tryz.prog=true:=ay
theorem YU:Tryz.prog.keyTypeAt 3 154=true:=ay
theorem OP:WideMaps.KeyLaw Tryz.prog 154:=deep_law_laid Uy (m:=3) ah OO YU Ux
theorem Uz:Tryz.prog.keyType 154=true:=ay
theorem IK:Tryz.prog.cellsOf 154=2:=ay
theorem WE:Tryz.prog.cellsOf 3=1:=ay
theorem UA (u:World):(zeroValue 3).run Tryz.prog u= .ok (.int .i64 0) u:=ay
theorem UB (t x:I)(a:(Lit.int .i64 t).wf=true)(l:(Lit.int .i64 x).wf=true)(n:Nat):Tryz.prog.keyLits (n+2) 154 [.int .i64 t,.int .i64 x]=U [.int .i64 t,.int .i64 x]:=by
 have m:Tryz.prog.keyLits (n+1) 3 [.int .i64 t]=U [.int .i64 t]:=by
  unfold Program.keyLits;rw[underlying3];simp[a]
 have o:Tryz.prog.keyLits (n+1) 3 [.int .i64 x]=U [.int .i64 x]:=by
  unfold Program.keyLits;rw[underlying3];simp[l]
 unfold Program.keyLits;rw[underlying154];simp[IK,WE,List.mapM_cons,List.range,List.range.loop,m,o]
theorem OQ {t x:I}(a:(Lit.int .i64 t).wf=true)(l:(Lit.int .i64 x).wf=true):keyOf Tryz.prog 154 (mI t x)=U (.string (keyBytes [.int .i64 t,.int .i64 x])):=by
 have hs:Tryz.prog.types.size+1=(Tryz.prog.types.size - 1)+2:=by have:=OO;omega
 unfold keyOf;rw[underlying154];simp only[Uz,hs];rw[av (by simp[Value.formed,underlying154,IK])];rw[show(mI t x).cells.toList=[.int .i64 t,.int .i64 x] from rfl,UB t x a l]
 rfl
def Aa (a:O (I × I))(s n:I):Option I:=if n∈bV a s then U ((bV a s).idxOf n:I) else G
def yu (a:O (I × I)):Nat:=(bV a 0).length+(bV a 1).length+(bV a 2).length+(bV a 3).length
@[reducible] def sV (m:Nat->Sl):Array Value:=#[(m 0).v,(m 1).v,(m 2).v,(m 3).v]
theorem pV (m:Nat->Sl){s:Nat}(a:s<4):(sV m)[s]?=U (m s).v:=by
 match s,a with
 |0,_=>rfl
 |1,_=>rfl
 |2,_=>rfl
 |3,_=>rfl
variable{X:World}{b:Nat}
theorem Bx.YV {m:Nat->Sl}(l:Bx X b (sV m)){s:Nat}(p:s<4)(v:Sl):Bx (X.setCell ⟨b,s,G⟩ v.v) b (sV λi=>if i=s then v else m i):=by
 refine⟨λi=>?_,λi=>by rw[World.frozen?_setCell];exact l.2.1 i,by have:=l.2.2;simpa[World.setCell] using this⟩;by_cases o:i=s
 .subst o
  rw[World.cell?_setCell_same' _ _ _ (by rw[l.1 i,pV m p];rfl),pV _ p,av rfl]
 .rw[World.cell?_setCell_other _ _ _ _ (λe=>by cases e;exact o rfl),l.1 i]
  rcases iM i 4 with a|a
  .rw[pV m a,pV _ a,au o]
  .rw[yU (by simpa using a),yU (by simpa using a)]
variable{p:O (I × I)}{s:I}
theorem AR {n:I}(a:n∈bV p s):bV (p++[(s,n)])=bV p:=by
 funext t
 rw[kP];by_cases e:s=t
 .subst e
  rw[av rfl];unfold kQ;rw[av a]
 .rw[au e]
theorem uE {n:I}(a:n∉bV p s)(t:I):bV (p++[(s,n)]) t=if s=t then bV p t++[n] else bV p t:=by
 rw[kP];by_cases e:s=t
 .subst e
  rw[av rfl,av rfl];unfold kQ;rw[au a]
 .rw[au e,au e]
theorem UC {n:I}(u:n∉bV p s):Aa (p++[(s,n)])=λt x=>if t=s/\x=n then U ((bV p s).length:I) else Aa p t x:=by
 funext t x
 unfold Aa;rw[uE u];by_cases e:s=t
 .subst e
  rw[av rfl];by_cases o:x=n
  .subst o
   have a:x∈bV p s++[x]:=by simp
   have r:(bV p s++[x]).idxOf x=(bV p s).length:=by rw[List.idxOf_append,au u];simp
   simp only[a,r,and_self,bR]
  .have m:¬(s=s/\x=n):=λq=>o q.2
   by_cases l:x∈bV p s
   .have a:x∈bV p s++[n]:=iw _ l
    have r:(bV p s++[n]).idxOf x=(bV p s).idxOf x:=by rw[List.idxOf_append,av l]
    rw[av a,r];refine Eq.trans ?_ (au m).symm;rw[av l]
   .have a:¬x∈bV p s++[n]:=λq=>by
     rcases cu.1 q with q|q
     .exact l q
     .exact o (bX.1 q)
    rw[au a];refine Eq.trans ?_ (au m).symm;rw[au l]
 .have m:¬(t=s/\x=n):=λq=>e q.1.symm
  simp only[au e,au m]
theorem nG (a:Option Addr)(q:Nat):∃g o,mH a q=(⟨g,o,G⟩:Addr):=by
 cases a with
 |none=>exact⟨0,0,rfl⟩
 |some x=>exact⟨_,_,rfl⟩
def nZ (l:O (I × Addr)):Prop:=∀p∈l,∃g o,p.2=(⟨g,o,G⟩:Addr)
theorem nZ.gr {l:Type}{m:Nat->l->O (I × Addr)}{o:l->O (I × Addr)}{xs:O l}(q:∀i x,nZ (m i x))(r:∀x,nZ (o x)):nZ (gr m o 0 xs):=λp a=>by
 obtain⟨j,x,_,a⟩:=(fP xs 0 p).1 a;rcases a with a|a
 .exact q _ _ p a
 .exact r _ p a
theorem nZ.nil:nZ []:=λp a=>by cases a
theorem nZ.dh (a:Option Addr)(q:Nat)(v:kg):nZ (jO (mH a q) v):=λp l=>by
 rw[(oU.1 l).1];exact nG a q
theorem nZ.sn (a:Option Addr)(l:O Sn):nZ (oQ a 0 l):=nZ.gr (λi x p m=>by
 rcases dO.1 m with rfl|m
 .exact nG a _
 .exact nZ.dh a _ _ p m) (λ_=>nZ.nil)
theorem nZ.ints (a:Option Addr)(l:O I):nZ (mh a 0 l):=nZ.gr (λi x p m=>by
 rw[bX.1 m];exact nG a _) (λ_=>nZ.nil)
theorem nZ.all (l:HC)(es:O EvC)(m:O aG)(o:O aK)(q:O Wa)(r:EvC->O Sn)(s:aG->O I)(t:aK->O I):nZ (aU l es m o q r s t):=λp a=>by
 unfold aU at a;rcases cu.1 a with a|a
 .refine nZ.gr (λi x p a=>?_) (λx=>nZ.sn _ _) p a
  unfold rG at a;rcases dO.1 a with rfl|a
  .exact nG _ _
  .split at a
   .rw[bX.1 a];exact nG _ _
   .split at a
    .rcases dO.1 a with rfl|a
     .exact nG _ _
     .exact nZ.dh _ _ _ p a
    .split at a
     .rw[bX.1 a];exact nG _ _
     .cases a
 .rcases cu.1 a with a|a
  .exact nZ.gr (λi x p a=>by rw[bX.1 a];exact nG _ _) (λx=>nZ.ints _ _) p a
  .rcases cu.1 a with a|a
   .exact nZ.gr (λi x p a=>by
     rcases dO.1 a with rfl|a
     .exact nG _ _
     .rw[bX.1 a];exact nG _ _) (λx=>nZ.ints _ _) p a
   .exact nZ.gr (λi x p a=>by rw[bX.1 a];exact nG _ _) (λ_=>nZ.nil) p a
variable{v:Value}
theorem Own.WG {m:Type}{enc:m->O Value}{k:Nat}{B:Nat}{T:TypeId}{xs:O m}(o:Own X B T k enc v xs){g:Nat}(a:v.ownBlock=U g):∃cs,X.1[g]?=U (J cs T (0,0)):=by
 obtain⟨_,p⟩:=o;rcases p with⟨l,_⟩|⟨s,t,q,l,_,r,_⟩
 .rw[l] at a;cases a
 .rw[l] at a
  injection a with a;rw[<-a];exact⟨q,r⟩
def AU (X:World)(g:Nat):Prop:=∃a T,X.1[g]?=U (J a T (0,0))
theorem AU.frozen {g j:Nat}(a:AU X g):X.frozen? ⟨g,j,G⟩=false:=by
 obtain⟨l,T,a⟩:=a;unfold World.frozen?;simp[a]
variable{m:HC}
theorem Lay.soft {B:Nat}{es:O EvC}{u:O aG}{y:O aK}{A:O Wa}{Z:EvC->O Sn}{dn:aG->O I}{mn:aK->O I}(l:Lay X B m es u y A Z dn mn){p:I × Addr}(hp:p∈aU m es u y A Z dn mn):AU X p.2.block/\B<=p.2.block:=by
 have E:∀{α:Type}{enc:α->O Value}{k:Nat}{T:TypeId}{a:Option Addr}{n c:Nat}{xs:O α},Own X B T k enc (H a n c) xs->a.map Addr.block=U p.2.block->AU X p.2.block/\B<=p.2.block:=λho ha=>by
  rcases ho.tC with⟨q,_⟩|⟨g,q,_,_,hB⟩
  .rw[q] at ha;cases ha
  .rw[q] at ha
   injection ha with ha;have ha:g=p.2.block:=ha;obtain⟨Q,e⟩:=ho.WG (g:=g) (by rw[q];rfl);rw[ha] at e hB;exact⟨⟨Q,_,e⟩,hB⟩
 have R:∀{α:Type}{enc:α->O Value}{k:Nat}{T:TypeId}{v:Value}{xs:O α},Own X B T k enc v xs->v.ownBlock=U p.2.block->AU X p.2.block/\B<=p.2.block:=λho ha=>(let⟨Q,e⟩:=ho.WG ha;⟨⟨Q,_,e⟩,(ho.lt _ ha).1⟩)
 have s:∀{a:Option Addr}{q:Nat},p.2=mH a q->a≠G->a.map Addr.block=U p.2.block:=λe hn=>by
  rename_i a q
  cases a with
  |none=>exact absurd rfl hn
  |some x=>rw[e];rfl
 have K:∀{α:Type}{enc:α->O Value}{k:Nat}{T:TypeId}{a:Option Addr}{n c:Nat}{xs:O α}{i:Nat}{x:α},Own X B T k enc (H a n c) xs->xs[i]?=U x->a≠G:=λho r e=>by
  rcases ho.tC with⟨_,q⟩|⟨g,q,_⟩
  .rw[q] at r;cases r
  .rw[e] at q;cases q
 rcases l.which hp with⟨t,i,e,S,o⟩|⟨t,e,S,hb,_⟩|⟨t,i,x,r,o⟩|⟨t,i,x,r,o⟩|⟨t,i,x,r,o⟩|⟨t,⟨x,r,hb,_⟩|⟨x,r,hb,_⟩⟩
 .have hn:=K (show Own X B 49 9 dx (H m.e.a m.e.n m.e.c) es from l.oe) S
  refine E (show Own X B 49 9 dx (H m.e.a m.e.n m.e.c) es from l.oe) ?_
  cases ha:m.e.a with
  |none=>exact absurd ha hn
  |some x=>
   rcases(show Own X B 49 9 dx (H m.e.a m.e.n m.e.c) es from l.oe).tC with⟨q,_⟩|⟨g,q,_⟩
   .exact absurd q hn
   .rw[ha] at q
    injection q with q;subst q;rw[ha] at o;exact bJ U ((IG (b:=g) i e).2 p o).1.symm
 .exact R (l.se e S) hb
 .rw[bX.1 o] at s
  exact E (show Own X B 57 2 dV (H m.d.a m.d.n m.d.c) u from l.od) (by rw[bX.1 o];exact s rfl (K (show Own X B 57 2 dV (H m.d.a m.d.n m.d.c) u from l.od) r))
 .refine E (show Own X B 60 4 eB (H m.m.a m.m.n m.m.c) y from l.om) ?_
  have hn:=K (show Own X B 60 4 eB (H m.m.a m.m.n m.m.c) y from l.om) r;rcases dO.1 o with o|o
  .exact s (by rw[o]) hn
  .exact s (by rw[bX.1 o]) hn
 .exact E (show Own X B 63 2 fE (H m.w.a m.w.n m.w.c) A from l.oq) (s (by rw[bX.1 o]) (K (show Own X B 63 2 fE (H m.w.a m.w.n m.w.c) A from l.oq) r))
 .exact R (l.sd x r) hb
 .exact R (l.sm x r) hb
theorem Moved.soft {a:World}{F:I->O I}{l:O (I × Addr)}(m:Moved a X F l){g:Nat}(o:AU a g):AU X g:=by
 obtain⟨p,T,e⟩:=o;obtain⟨q,r,_⟩:=m g p T _ e;exact⟨q,T,r⟩
variable{Y:World}
theorem JV {B B':Nat}{es:O EvC}{o:O aG}{q:O aK}{r:O Wa}{A:EvC->O Sn}{E:aG->O I}{K:aK->O I}{F:I->O I}(l:Lay X B m es o q r A E K){Q:O (I × Addr)}(Z:∀p∈Q,p∈aU m es o q r A E K)(hM:Moved X Y F Q){R:O Bs}(S:Own X B' 9 1 encStr v R):Own Y B' 9 1 encStr v R:=by
 refine S.moved (hc:=eX) hM rfl (λg hg i x y j u hx a hu=> .inl ⟨?_,λs hp=>?_⟩)
 .rw[hx] at a;injection a with a;rw[<-a];exact hu
 .have ht:Ty X g 9:=S.tag hg
  rcases l.which (Z _ hp) with⟨t,_⟩|⟨t,_⟩|⟨t,_⟩|⟨t,_⟩|⟨t,_⟩|⟨t,_⟩ <;> exact ht.no t aj
def kW (a:World)(l:O (I × Addr)):O (I × I):=l.map (gV a)
def OT (sl:Nat->Sl):Prop:=∀q a,q<4->a<4->q≠a->∀g,(sl q).v.ownBlock=U g->(sl a).v.ownBlock≠U g
structure NI (w w3:World)(N ws wa bm mo:Nat)(h:HC)(nl:Nat->O Bs)(F:I->O I)(xs pre:O (I × Addr))(X:World):Prop where
 sub:∀p∈pre,p∈xs
 b:Below w.1.size w X
 m:Moved w3 X F pre
 bx:Bx X w.1.size (aD h)
 r:Bx X (w.1.size+1) #[H G 0 0,H G 0 0,H G 0 0,H G 0 0,H G 0 0,H G 0 0,H G 0 0,H G 0 0]
 ws:Bx X ws #[h.t.v,h.s.v,h.o.v,h.p.v]
 wa:∃sl:Nat->Sl,Bx X wa (sV sl)/\(∀s,s<4->Own X N 9 1 encStr (sl s).v ((bV (kW w3 pre) (s:I)).map (aP (nl s))))/\OT sl
 mv:Bx X bm #[.map (U mo)]
 mp:l5 Tryz.prog 154 3 X mo (yu (kW w3 pre)) (Aa (kW w3 pre))
variable{w:World}{N R:Nat}
theorem NI.same {o:World}{p r l V:Nat}{t:Nat->O Bs}{F:I->O I}{xs u:O (I × Addr)}(i:NI w o N R p r l m t F xs u X)(a:Same (λi=>i<V\/V+5<=i) X Y)(hN:V+5<=N)(h3:o.1.size<=V)(hw:w.1.size+1<V)(y:R<V)(A:p<V)(E:r<V)(K:l<V):NI w o N R p r l m t F xs u Y:=
 ⟨i.sub,a.below i.b (λq Q=> .inl ah) i.b.size,i.m.same (a.mono (λq Q _=> .inl ah)),a.bx i.bx (.inl ah),a.bx i.r (.inl ah),a.bx i.ws (.inl y),
 (let⟨S,Z,v,a3⟩:=i.wa;⟨S,a.bx Z (.inl A),λs x=>(v s x).same a (λg hg=> .inr (by have:=((v s x).lt g hg).1;omega)),a3⟩),a.bx i.mv (.inl E),i.mp.of_eq (a.block l (.inl K) i.mp.lt)⟩
variable{o:Nat}
theorem NI.fin {l:World}{u x r:Nat}{y:Nat->O Bs}{F:I->O I}{xs a:O (I × Addr)}{n v:I}(Q:∀p∈a++[(s,(⟨b,o,G⟩:Addr))],p∈xs)(S:Below w.1.size w Y)(Z:Moved l Y F a)(γ:Bx Y w.1.size (aD m))
  (hr:Bx Y (w.1.size+1) #[H G 0 0,H G 0 0,H G 0 0,H G 0 0,H G 0 0,H G 0 0,H G 0 0,H G 0 0]) (δ:Bx Y R #[m.t.v,m.s.v,m.o.v,m.p.v])
  (ε:∃t:Nat->Sl,Bx Y u (sV t)/\(∀q,q<4->Own Y N 9 1 encStr (t q).v ((bV (kW l (a++[(s,(⟨b,o,G⟩:Addr))])) (q:I)).map (aP (y q))))/\OT t) (ζ:Bx Y x #[.map (U r)])
  (A:l5 Tryz.prog 154 3 Y r (yu (kW l (a++[(s,(⟨b,o,G⟩:Addr))]))) (Aa (kW l (a++[(s,(⟨b,o,G⟩:Addr))]))))
  (η:∀s',(s',(⟨b,o,G⟩:Addr))∉a) (θ:l.cell? ⟨b,o,G⟩=U (.int .i64 n)) (hv:v=dY (F s) n) (ξ:w.1.size+1<b) (ι:b≠R) (κ:b≠u) (μ:b≠x) (ν:b≠r) (hN:b<N):
  NI w l N R u x r m y F xs (a++[(s,(⟨b,o,G⟩:Addr))]) (Y.setCell ⟨b,o,G⟩ (.int .i64 v)):=by
 have hs:Same (λi=>i≠b) Y (Y.setCell ⟨b,o,G⟩ (.int .i64 v)):=(Same.refl' Y).setTail (λm=>m rfl);exact⟨Q,S.setCell (p:=⟨b,o,G⟩) (by show _<=b;omega) _,Z.step η θ hv,hs.bx γ ah,hs.bx hr ah,hs.bx δ ι.symm,(let⟨t,a1,E,a3⟩:=ε;⟨t,hs.bx a1 κ.symm,λq K=>(E q K).same hs (λg hg e=>by have:=((E q K).lt g hg).1;omega),a3⟩),hs.bx ζ μ.symm,A.of_eq (hs.block r ν.symm A.lt)⟩
theorem Same.bU {A:Nat->Prop}(s:Same A X Y)(l:X.cell? ⟨b,o,G⟩=U v)(ha:A b):Y.cell? ⟨b,o,G⟩=U v:=
 (World.cell?_of_block (a:=⟨b,o,G⟩) (s.block b ha (dQ l))).trans l
theorem OV {n:I}(a:n∈bV p s):Aa (p++[(s,n)])=Aa p:=by
 funext t x
 unfold Aa;rw[AR a]
theorem Mk {n:I}(a:n∈bV p s):yu (p++[(s,n)])=yu p:=by
 unfold yu;rw[AR a]
theorem Rj {s:Nat}{n:I}(l:s<4)(a:n∉bV p (s:I)):yu (p++[((s:I),n)])=yu p+1:=by
 unfold yu;rw[uE a,uE a,uE a,uE a];rcases(by omega:s=0\/s=1\/s=2\/s=3) with rfl|rfl|rfl|rfl
 .rw[av aj,au aj,au aj,au aj,bO];simp;omega
 .rw[au aj,av aj,au aj,au aj,bO];simp;omega
 .rw[au aj,au aj,av aj,au aj,bO];simp;omega
 .rw[au aj,au aj,au aj,av aj,bO];simp;omega
theorem Rk {a:Type}{l xs:O a}{x:a}(m:l++[x]<+:xs):∀p∈l++[x],p∈xs:=λ_ o=>m.subset o
theorem IL {l p:Type}{B:Nat}{T:TypeId}{enc:p->O Value}[hc:Cells enc R](E:∀x y,enc x=enc y->x=y){a:l->Option Addr}{n q:l->Nat}{r:l->l}(ha:∀x,a (r x)=a x)(s:∀x,n (r x)=n x)(t:∀x,q (r x)=q x){xs:O l}{g:l->O p}(u:∀x∈xs,Own Y B T R enc (H (a x) (n x) (q x)) (g x))(K:∀x∈xs,(g x).length<=140737488355328):
  ∃f:l->O p,(∀y∈xs.map r,Own Y B T R enc (H (a y) (n y) (q y)) (f y))/\(xs.map r).map f=xs.map g:=by
 have v:∀x∈xs,Classical.epsilon (λo=>Row Y R enc (a (r x)) (n (r x)) (q (r x)) o)=g x:=λx m=>by
  have A:=(u x m).row (hc:=hc) (K x m);rw[<-ha,<-s,<-t] at A;exact yM (hc:=hc) E A
 refine⟨λy=>Classical.epsilon (λo=>Row Y R enc (a y) (n y) (q y) o),λy Q=>?_,?_⟩
 .obtain⟨x,m,rfl⟩:=bS.1 Q
  show Own Y B T R enc (H (a (r x)) (n (r x)) (q (r x))) (Classical.epsilon (λo=>Row Y R enc (a (r x)) (n (r x)) (q (r x)) o));rw[v x m,ha,s,t];exact u x m
 .rw[iF]
  exact lN (λx m=>v x m)
theorem bZ {o':Nat}{u:Value}(l:X.cell? ⟨b,o,G⟩=U v)(m:b≠R):(X.setCell ⟨R,o',G⟩ u).cell? ⟨b,o,G⟩=U v:=
 (World.cell?_of_block (a:=⟨b,o,G⟩) (Below.heap_setCell X ⟨R,o',G⟩ u b m)).trans l
structure gQ (X:World)(B:Nat)(h:HC)(c:Cont)(es:O EvC)(ds:O aG)(ms:O aK)(scan:EvC->O Sn)(dn:aG->O I)(mn:aK->O I):Prop where
 oe:Own X B 49 9 dx (H h.e.a h.e.n h.e.c) es
 od:Own X B 57 2 dV (H h.d.a h.d.n h.d.c) ds
 om:Own X B 60 4 eB (H h.m.a h.m.n h.m.c) ms
 oq:Own X B 63 2 fE (H h.w.a h.w.n h.w.c) c.Q
 on:∀i,i<4->Own X B 9 1 encStr (H (h.nm i).a (h.nm i).n (h.nm i).c) (c.nl i)
 se:∀x∈es,Own X B 53 3 cZ (H x.sa x.sn x.sc) (scan x)
 sd:∀x∈ds,Own X B 3 1 aS (H x.sa x.sn x.sc) (dn x)
 sm:∀x∈ms,Own X B 3 1 aS (H x.sa x.sn x.sc) (mn x)
 be:es.map EvC.base=c.E
 bd:ds.map aG.base=c.D
 bm:ms.map aK.base=c.M
 ss:es.map scan=c.SE
 ts:ds.map dn=c.SD
 us:ms.map mn=c.SM
structure DJ (c:Cont):Prop where
 e:c.E.length<=2000000
 d:c.D.length<=2000000
 m:c.M.length<=2000000
 q:c.Q.length<=2000000
 n:∀i,i<4->(c.nl i).length<=2000000
 se:∀L∈c.SE,L.length<=2000000
 sd:∀L∈c.SD,L.length<=2000000
 sm:∀L∈c.SM,L.length<=2000000
section
variable {X Y:World}{B:Nat}{h:HC}{c:Cont}{es:O EvC}{ds:O aG}{ms:O aK}{scan:EvC->O Sn}{dn:aG->O I}{mn:aK->O I}
theorem gQ.imp (o:gQ X B h c es ds ms scan dn mn)(a:∀{α:Type}{enc:α->O Value}{k:Nat}{T:TypeId}{v:Value}{xs:O α},Own X B T k enc v xs->Own Y B T k enc v xs):gQ Y B h c es ds ms scan dn mn:=
 ⟨a o.oe,a o.od,a o.om,a o.oq,λi h=>a (o.on i h),λx h=>a (o.se x h),λx h=>a (o.sd x h),λx h=>a (o.sm x h),o.be,o.bd,o.bm,o.ss,o.ts,o.us⟩
theorem gQ.same (o:gQ X B h c es ds ms scan dn mn)(s:Same (λi=>B<=i) X Y):gQ Y B h c es ds ms scan dn mn:=o.imp (λho=>ho.same s (λg a=>(ho.lt g a).1))
theorem gQ.below (o:gQ X B h c es ds ms scan dn mn)(s:Below X.1.size X Y):gQ Y B h c es ds ms scan dn mn:=o.imp (λho=>ho.below s rfl)
theorem gQ.mono {B':Nat}(o:gQ X B h c es ds ms scan dn mn)(a:B'<=B):gQ X B' h c es ds ms scan dn mn:=
 ⟨o.oe.mono a,o.od.mono a,o.om.mono a,o.oq.mono a,λi h=>(o.on i h).mono a,λx h=>(o.se x h).mono a,λx h=>(o.sd x h).mono a,λx h=>(o.sm x h).mono a,o.be,o.bd,o.bm,o.ss,o.ts,o.us⟩
theorem gQ.deep (o:gQ X B h c es ds ms scan dn mn)(z:DJ c):Deep X h es ds ms c.Q scan dn mn:=
 ⟨o.oe.row (hc:=jI) (by have:=z.e;rw[<-o.be,bg] at this;omega),o.od.row (hc:=kr) (by have:=z.d;rw[<-o.bd,bg] at this;omega),o.om.row (hc:=ku) (by have:=z.m;rw[<-o.bm,bg] at this;omega),o.oq.row (hc:=lQ) (by have:=z.q;omega),
 λx a=>(o.se x a).row (hc:=ko) (by have:=z.se (scan x) (by rw[<-o.ss];exact jS a);omega),λx a=>(o.sd x a).row (hc:=eP) (by have:=z.sd (dn x) (by rw[<-o.ts];exact jS a);omega),λx a=>(o.sm x a).row (hc:=eP) (by have:=z.sm (mn x) (by rw[<-o.us];exact jS a);omega)⟩
theorem gQ.names (o:gQ X B h c es ds ms scan dn mn)(z:DJ c):∀i,i<4->Row X 1 encStr (h.nm i).a (h.nm i).n (h.nm i).c (c.nl i):=λi a=>(o.on i a).row (hc:=eX) (by have:=z.n i a;omega)
theorem gQ.bulk (o:gQ X B h c es ds ms scan dn mn)(z:DJ c):sj c.nl es ds ms c.Q scan dn mn:=
 ⟨by have:=z.e;rw[<-o.be,bg] at this;exact this,by have:=z.d;rw[<-o.bd,bg] at this;exact this,by have:=z.m;rw[<-o.bm,bg] at this;exact this,z.q,z.n,λx a=>z.se _ (by rw[<-o.ss];exact jS a),λx a=>z.sd _ (by rw[<-o.ts];exact jS a),λx a=>z.sm _ (by rw[<-o.us];exact jS a)⟩
theorem gQ.cont (o:gQ X B h c es ds ms scan dn mn):c=iA es.length c.nl es ds ms c.Q scan dn mn:=by
 unfold iA;rw[List.take_length,o.be,o.bd,o.bm,o.ss,o.ts,o.us]
end
def Ml (w:World)(c:Cont)(e:Ending)(X:World):Prop:=
 ∃h es ds ms,∃scan:EvC->O Sn,∃dn:aG->O I,∃mn:aK->O I,e= .returned (.tuple #[bC h,.int .i64 0])/\gQ X w.1.size h c es ds ms scan dn mn/\Below w.1.size w X
theorem JW {Z:World}{B:Nat}{es:O EvC}{t:O aG}{u:O aK}{C:Cont}{A:EvC->O Sn}{E:aG->O I}{K:aK->O I}{F:I->O I}{sl:Nat->Sl}(hF:F=bV (aZ C))(l:Lay Z B m es t u C.Q A E K)
  (h1:es.map EvC.base=C.E) (h2:t.map aG.base=C.D) (h3:u.map aK.base=C.M) (h4:es.map A=C.SE) (h5:t.map E=C.SD) (h6:u.map K=C.SM)
  (y:Moved Z X F (aU m es t u C.Q A E K)) (hb:∀e∈C.E,BP e) (γ:∀s,s<4->Own X N 9 1 encStr (sl s).v ((F (s:I)).map (aP (C.nl s)))) (hN:B<=N) (δ:w.1.size<=B)
  {D:Nat} (hD:∀cs T fz,X.1[D]?≠U (J cs T fz)) (hs:Same (λi=>B<=i/\i≠D) X Y) (ε:Below w.1.size w Y) (g1:∀Q∈C.SE,Q.length<=2000000) (g2:∀Q∈C.SD,Q.length<=2000000) (g3:∀Q∈C.SM,Q.length<=2000000):
  Ml w (eG C) (.returned (.tuple #[bC ⟨sl 0,sl 1,sl 2,sl 3,m.e,m.d,m.m,m.w⟩,.int .i64 0])) Y:=by
 have ζ:∀e∈es,BP e:=λe he=>by
  have:=hb e.base (by rw[<-h1];exact jS he);exact this
 have p:∀{α:Type}{enc:α->O Value}{k:Nat}{T:TypeId}{v:Value}{xs:O α}{R:Nat},B<=R->Own X R T k enc v xs->Own Y R T k enc v xs:=λη ho=>ho.same hs (λg hg=>⟨bI η (ho.lt g hg).1,λe=>by
  subst e;obtain⟨cs,fz,e'⟩:=ho.tag hg;exact hD _ _ _ e'⟩)
 have k1:Own Y B 49 9 dx m.e.v (es.map (Tk F)):=p (aB _) (l.Wv y ζ);have k2:Own Y B 57 2 dV m.d.v (t.map (Tm F)):=p (aB _) (l.Ww y);have k3:Own Y B 60 4 eB m.m.v (u.map (Tn F)):=p (aB _) (l.Wx y);have k4:Own Y B 63 2 fE m.w.v (C.Q.map (Zx F)):=p (aB _) (l.Wy y);have r1:∀x∈es,Own Y B 53 3 cZ (H x.sa x.sn x.sc) ((A x).map (xH F)):=λx o=>p (aB _) (l.Wz y o)
 have r2:∀x∈t,Own Y B 3 1 aS (H x.sa x.sn x.sc) ((E x).map (dY (F 0))):=λx o=>p (aB _) (l.WA y o)
 have r3:∀x∈u,Own Y B 3 1 aS (H x.sa x.sn x.sc) ((K x).map (dY (F 0))):=λx o=>p (aB _) (l.WB y o)
 obtain⟨f1,a1,b1⟩:=IL (hc:=ko) yN (r:=Tk F) (a:=EvC.sa) (n:=EvC.sn) (q:=EvC.sc) (λ_=>rfl) (λ_=>rfl) (λ_=>rfl) r1 (λx o=>by rw[bg];have:=g1 (A x) (by rw[<-h4];exact jS o);omega);obtain⟨f2,a2,b2⟩:=IL (hc:=eP) nP (r:=Tm F) (a:=aG.sa) (n:=aG.sn) (q:=aG.sc) (λ_=>rfl) (λ_=>rfl) (λ_=>rfl) r2 (λx o=>by rw[bg];have:=g2 (E x) (by rw[<-h5];exact jS o);omega);obtain⟨f3,a3,b3⟩:=IL (hc:=eP) nP (r:=Tn F) (a:=aK.sa) (n:=aK.sn) (q:=aK.sc) (λ_=>rfl) (λ_=>rfl) (λ_=>rfl) r3 (λx o=>by rw[bg];have:=g3 (K x) (by rw[<-h6];exact jS o);omega);have θ:∀i,i<4->(⟨sl 0,sl 1,sl 2,sl 3,m.e,m.d,m.m,m.w⟩:HC).nm i=sl i:=λi S=>by
  rcases(by omega:i=0\/i=1\/i=2\/i=3) with rfl|rfl|rfl|rfl <;> rfl
 subst hF;refine⟨_,es.map (Tk (bV (aZ C))),t.map (Tm (bV (aZ C))),u.map (Tn (bV (aZ C))),f1,f2,f3,rfl,gQ.mono (B:=B) ⟨k1,k2,k3,k4,λi S=>?_,a1,a2,a3,?_,?_,?_,?_,?_,?_⟩ δ,ε⟩
 .rw[θ i S]
  exact(show Own Y N 9 1 encStr (H (sl i).a (sl i).n (sl i).c) _ from p hN (γ i S)).mono hN
 .show _=C.E.map (eU (bV (aZ C)))
  rw[<-h1,iF,iF];exact lN (λx _=>rfl)
 .show _=C.D.map _
  rw[<-h2,iF,iF];exact lN (λx _=>rfl)
 .show _=C.M.map _
  rw[<-h3,iF,iF];exact lN (λx _=>rfl)
 .rw[b1];show _=C.SE.map _;rw[<-h4,iF];rfl
 .rw[b2];show _=C.SD.map _;rw[<-h5,iF];rfl
 .rw[b3];show _=C.SM.map _;rw[<-h6,iF];rfl
attribute [local go_sem] Oper.semAt_some
theorem yG {h':HC}(a:Bx X b (aD m)):Bx ((((((((X.setCell ⟨b,0,G⟩ h'.t.v).setCell ⟨b,1,G⟩ h'.s.v).setCell ⟨b,2,G⟩ h'.o.v).setCell ⟨b,3,G⟩ h'.p.v).setCell ⟨b,4,G⟩ h'.e.v).setCell ⟨b,5,G⟩ h'.d.v).setCell ⟨b,6,G⟩ h'.m.v).setCell ⟨b,7,G⟩ h'.w.v) b (aD h'):=by
 have:=((((((((a).bB 0 ak h'.t.v).bB 1 ak h'.s.v).bB 2 ak h'.o.v).bB 3 ak h'.p.v).bB 4 ak h'.e.v).bB 5 ak h'.d.v).bB 6 ak h'.m.v).bB 7 ak h'.w.v
 simpa[aD] using this
theorem sN {h':HC}:Same (λi=>i≠b) X ((((((((X.setCell ⟨b,0,G⟩ h'.t.v).setCell ⟨b,1,G⟩ h'.s.v).setCell ⟨b,2,G⟩ h'.o.v).setCell ⟨b,3,G⟩ h'.p.v).setCell ⟨b,4,G⟩ h'.e.v).setCell ⟨b,5,G⟩ h'.d.v).setCell ⟨b,6,G⟩ h'.m.v).setCell ⟨b,7,G⟩ h'.w.v):=(((((((((Same.refl' X)).setTail (λhn=>hn rfl)).setTail (λhn=>hn rfl)).setTail (λhn=>hn rfl)).setTail (λhn=>hn rfl)).setTail (λhn=>hn rfl)).setTail (λhn=>hn rfl)).setTail (λhn=>hn rfl)).setTail (λhn=>hn rfl)
theorem Rb.lay {es:O EvC}{r:O aG}{s:O aK}{c:Cont}(o:Rb w X m es r s c)(x:∀l∈c.SE,l.length<=2000000)(y:∀l∈c.SD,l.length<=2000000)(A:∀l∈c.SM,l.length<=2000000):
  ∃t u v,Lay X w.1.size m es r s c.Q t u v/\es.map t=c.SE/\r.map u=c.SD/\s.map v=c.SM:=by
 obtain⟨E,K,Q⟩:=lg.fn (hc:=ko) yN (val:=EvC.val) (a:=EvC.sa) (n:=EvC.sn) (q:=EvC.sc) (λ_=>rfl) o.fe o.le (λl p=>by have:=x l p;omega);obtain⟨R,S,Z⟩:=lg.fn (hc:=eP) nP (val:=aG.val) (a:=aG.sa) (n:=aG.sn) (q:=aG.sc) (λ_=>rfl) o.fd o.ld (λl p=>by have:=y l p;omega);obtain⟨f3,a3,b3⟩:=lg.fn (hc:=eP) nP (val:=aK.val) (a:=aK.sa) (n:=aK.sn) (q:=aK.sc) (λ_=>rfl) o.fm o.lm (λl p=>by have:=A l p;omega);exact⟨E,R,f3,⟨o.oe,o.od,o.om,o.oq,K,S,a3,o.fe.pair,o.fd.pair,o.fm.pair,o.fx⟩,Q,Z,b3⟩
theorem jy {a m γ:Type}(f:a->m)(g:a->γ):∀l:O a,(l.map f).zip (l.map g)=l.map (λx=>(f x,g x))
 |[]=>rfl
 |x::l=>bJ ((f x,g x):: ·) (jy f g l)
theorem uQ {es:O EvC}{a:O aG}{l:O aK}{m:EvC->O Sn}{o:aG->O I}{p:aK->O I}{c:Cont}(q:es.map EvC.base=c.E)(r:a.map aG.base=c.D)(s:l.map aK.base=c.M)(t:es.map m=c.SE)(u:a.map o=c.SD)(v:l.map p=c.SM):
  kz es a l c.Q m o p=aZ c:=by
 unfold aZ kz;rw[<-q,<-r,<-s,<-t,<-u,<-v,jy,jy,jy,List.flatMap_map,List.flatMap_map,List.flatMap_map]
 rfl
theorem EQ (h:HC)(nl:Nat->O Bs)(es:O EvC)(ds:O aG)(ms:O aK)(qs:O Wa)(j5:EvC->O Sn)(dn:aG->O I)(mn:aK->O I)(w:World)(S:qD w)
  (hn:∀i,i<4->Row w 1 encStr (h.nm i).a (h.nm i).n (h.nm i).c (nl i)) (hd:Deep w h es ds ms qs j5 dn mn) (hB:sj nl es ds ms qs j5 dn mn) (hS:gB h nl es ds ms qs j5 dn mn=true)
  (C:Cont) (hC:C=iA es.length nl es ds ms qs j5 dn mn) (m4:∀e∈C.E,BP e) (m5:∀x∈aZ C,∃s:Nat,s<4/\x.1=(s:I)/\aY x.2 (C.nl s).length=true) (m6:∀s:Nat,s<4->(bV (aZ C) (s:I)).length<=300/\(C.nl s).length<=300):
  Calls Tryz.prog 83 #[bC h] w (Ml w (eG C)):=by
 refine(callsIn_wide (n:=3)).1 ?_;refine callsIn_of_wp_marks func83 rfl trivial ?_ rfl;simp only[ntmps83,nK,dK,gY,Nat.reduceAdd,Nat.reduceSub,pE,pF,mJ,mK,fK,fA];refine wpIn_wide.2 ?_;have z6:Below w.1.size w ((w.alloc (J (aD h) 28)).alloc (J #[H G 0 0,H G 0 0,H G 0 0,H G 0 0,H G 0 0,H G 0 0,H G 0 0,H G 0 0] 28)):=((Below.refl _ _).alloc (aB _) _).alloc ak _;have b0:=hid (D7 h nl es ds ms qs j5 dn mn _ (S.below z6) (λi Q=>(hn i Q).below z6 rfl) (hd.below z6 rfl));rw[hS] at b0;have HOWN:=hid (λW (hW:Below w.1.size w W)=>(by have:=JU h nl es ds ms qs j5 dn mn W (λi Q=>(hn i Q).below hW rfl) (hd.below hW rfl) hB;rw[<-hC] at this;exact this:Calls Tryz.prog 133 #[bC h] W (GA W C)));have b4:=hid ((Bx.new w (aD h) 28).alloc (J #[H G 0 0,H G 0 0,H G 0 0,H G 0 0,H G 0 0,H G 0 0,H G 0 0,H G 0 0] 28));have b5:=Bx.new (w.alloc (J (aD h) 28)) #[H G 0 0,H G 0 0,H G 0 0,H G 0 0,H G 0 0,H G 0 0,H G 0 0,H G 0 0] 28;rw[World.size_alloc] at b5;have m7:=hid b5;have m8:((w.alloc (J (aD h) 28)).alloc (J #[H G 0 0,H G 0 0,H G 0 0,H G 0 0,H G 0 0,H G 0 0,H G 0 0,H G 0 0] 28)).1[w.1.size]?=U (J (aD h) 28 (0,0)):=(Below.heap_alloc _ _ _ ak).trans (World.alloc_heap_new w _);have m9:=hid m8;have b6:=hid z6;have υ:Hid ((∀L∈C.SE,L.length<=2000000)/\(∀L∈C.SD,L.length<=2000000)/\(∀L∈C.SM,L.length<=2000000)):=hid (by
  rw[hC];refine⟨λL hL=>?_,λL hL=>?_,λL hL=>?_⟩
  .obtain⟨x,hx,rfl⟩:=bS.1 hL;exact hB.2.2.2.2.2.1 x (vT hx)
  .obtain⟨x,hx,rfl⟩:=bS.1 hL;exact hB.2.2.2.2.2.2.1 x hx
  .obtain⟨x,hx,rfl⟩:=bS.1 hL;exact hB.2.2.2.2.2.2.2 x hx)
 have j6:Hid (C.E.length<=2000000/\C.D.length<=2000000/\C.M.length<=2000000/\C.Q.length<=2000000):=hid (by
  rw[hC];refine⟨?_,?_,?_,hB.2.2.2.1⟩
  .show((es.take es.length).map _).length<=_;rw[bg,fB];have:=hB.1;omega
  .show(ds.map _).length<=_;rw[bg];exact hB.2.1
  .show(ms.map _).length<=_;rw[bg];exact hB.2.2.1)
 have YW:=hid m4;have YX:=hid m5;have k4:=hid m6;clear hC hS z6 b5 hd S hn hB m4 m5 m6 m8;obtain⟨W0,b7⟩:∃W,W=(w.alloc (J (aD h) 28)).alloc (J #[H G 0 0,H G 0 0,H G 0 0,H G 0 0,H G 0 0,H G 0 0,H G 0 0,H G 0 0] 28):=⟨_,rfl⟩;rw[<-b7] at b0 b4 m7 b6 m9;go_wp2_with fail;rw[<-b7];clear b7;refine b0.q.mono ?_;rintro e w1 ⟨rfl,q5⟩;have b8:=hid (b6.q.bQ q5);have b9:=hid (b4.q.keep q5);have p0:=hid (m7.q.keep q5);have Z6:=hid ((q5.block _ b4.q.2.2).trans m9.q);have Z7:=b9.q.1;clear q5;go_wp2_with fail;refine(HOWN.q w1 b8.q).mono ?_;rintro e w2 ⟨r,φ,χ,ψ,rfl,j7⟩;have k5:=hid (b9.q.keep j7.b);have HR2:=hid (p0.q.keep j7.b);have p1:=hid (b8.q.trans (j7.b.mono b8.q.size));have acE:=hid ((j7.b.block _ b9.q.2.2).trans Z6.q);have θ:=hid j7;have ω:=k5.q.1;have Γ:=k5.q.2.1;have Δ:=k5.q.2.2;clear j7 Z7;go_wp2_with fail;obtain⟨E,k6⟩:∃W,W=((((((((w2.setCell ⟨w.1.size,0,G⟩ r.t.v).setCell ⟨w.1.size,1,G⟩ r.s.v).setCell ⟨w.1.size,2,G⟩ r.o.v).setCell ⟨w.1.size,3,G⟩ r.p.v).setCell ⟨w.1.size,4,G⟩ r.e.v).setCell ⟨w.1.size,5,G⟩ r.d.v).setCell ⟨w.1.size,6,G⟩ r.m.v).setCell ⟨w.1.size,7,G⟩ r.w.v):=⟨_,rfl⟩;have j6:Hid (φ.length<=140737488355328/\χ.length<=140737488355328/\ψ.length<=140737488355328/\C.Q.length<=140737488355328):=hid (by
  have:=j6.q;have e1:φ.length=C.E.length:=by rw[<-θ.q.be,bg]
  have e2:χ.length=C.D.length:=by rw[<-θ.q.bd,bg]
  have e3:ψ.length=C.M.length:=by rw[<-θ.q.bm,bg]
  omega)
 have p2:Hid (Bx E w.1.size (aD r)):=hid (by rw[k6];exact yG k5.q);have z7:Hid (Same (λi=>i≠w.1.size) w2 E):=hid (by rw[k6];exact sN);rw[<-k6];clear k6 ω Γ Δ;have p3:=hid (z7.q.bx HR2.q ah);have p4:Hid (Below w.1.size w E):=hid (z7.q.below p1.q (λi Q=>by omega) p1.q.size);have ο:Hid (w.1.size+1<E.1.size):=hid p3.q.2.2;have p5:w.1.size+1<w1.1.size:=p0.q.2.2;have f0:=hid p5;have Z8:Hid (∃Θ Ξ Φ,Lay E w1.1.size r φ χ ψ C.Q Θ Ξ Φ/\φ.map Θ=C.SE/\χ.map Ξ=C.SD/\ψ.map Φ=C.SM):=hid (by
  obtain⟨f1,f2,f3,hl,b1,b2,b3⟩:=θ.q.lay υ.q.1 υ.q.2.1 υ.q.2.2;exact⟨f1,f2,f3,hl.same (z7.q.mono (λi Q _=>by omega)),b1,b2,b3⟩)
 have p6:Hid (∀q,q<4->Own E w1.1.size 9 1 encStr (r.nm q).v (C.nl q)):=hid (λq hq=>(θ.q.on q hq).same z7.q (λg S e=>by have:=((θ.q.on q hq).lt g S).1;omega));clear p5;refine(kC r E).mono ?_;rintro e y ⟨rfl,k7⟩;have z8:=hid k7;clear k7;have hmm:= @run_makeMap Tryz.prog
 go_wp2_with (go_at_call 27;refine(FL _ _).mono ?_;rintro e w' ⟨rfl,rfl⟩)
 clear hmm;have j8:(((((y.alloc (J #[r.t.v,r.s.v,r.o.v,r.p.v] 91)).alloc (J #[H G 0 0,H G 0 0,H G 0 0,H G 0 0] 91)).alloc (.map #[] 0)).alloc (J #[.map (U (y.1.size+2))] 153)).alloc (J #[.pointer (U ⟨w.1.size,0,G⟩)] 89)).1.size=y.1.size+5:=by simp
 have z9:Below y.1.size y (((((y.alloc (J #[r.t.v,r.s.v,r.o.v,r.p.v] 91)).alloc (J #[H G 0 0,H G 0 0,H G 0 0,H G 0 0] 91)).alloc (.map #[] 0)).alloc (J #[.map (U (y.1.size+2))] 153)).alloc (J #[.pointer (U ⟨w.1.size,0,G⟩)] 89)):=((((Below.refl _ _).alloc (aB _) _).alloc ak _).alloc (by simp;omega) _).alloc (by simp;omega) _|>.alloc (by simp;omega) _;have k8:Bx (((((y.alloc (J #[r.t.v,r.s.v,r.o.v,r.p.v] 91)).alloc (J #[H G 0 0,H G 0 0,H G 0 0,H G 0 0] 91)).alloc (.map #[] 0)).alloc (J #[.map (U (y.1.size+2))] 153)).alloc (J #[.pointer (U ⟨w.1.size,0,G⟩)] 89)) y.1.size #[r.t.v,r.s.v,r.o.v,r.p.v]:=((((Bx.new y _ _).alloc _).alloc _).alloc _).alloc _;have k9:Bx (((((y.alloc (J #[r.t.v,r.s.v,r.o.v,r.p.v] 91)).alloc (J #[H G 0 0,H G 0 0,H G 0 0,H G 0 0] 91)).alloc (.map #[] 0)).alloc (J #[.map (U (y.1.size+2))] 153)).alloc (J #[.pointer (U ⟨w.1.size,0,G⟩)] 89)) (y.1.size+1) (sV λ_=>⟨G,0,0⟩):=by
  have:=(((Bx.new (y.alloc (J #[r.t.v,r.s.v,r.o.v,r.p.v] 91)) #[H G 0 0,H G 0 0,H G 0 0,H G 0 0] 91).alloc (.map #[] 0)).alloc (J #[.map (U (y.1.size+2))] 153)).alloc (J #[.pointer (U ⟨w.1.size,0,G⟩)] 89);rw[World.size_alloc] at this;exact this
 have y0:Bx (((((y.alloc (J #[r.t.v,r.s.v,r.o.v,r.p.v] 91)).alloc (J #[H G 0 0,H G 0 0,H G 0 0,H G 0 0] 91)).alloc (.map #[] 0)).alloc (J #[.map (U (y.1.size+2))] 153)).alloc (J #[.pointer (U ⟨w.1.size,0,G⟩)] 89)) (y.1.size+3) #[.map (U (y.1.size+2))]:=by
  have:=(Bx.new (((y.alloc (J #[r.t.v,r.s.v,r.o.v,r.p.v] 91)).alloc (J #[H G 0 0,H G 0 0,H G 0 0,H G 0 0] 91)).alloc (.map #[] 0)) #[.map (U (y.1.size+2))] 153).alloc (J #[.pointer (U ⟨w.1.size,0,G⟩)] 89);rw[World.size_alloc,World.size_alloc,World.size_alloc] at this;exact this
 have y1:Bx (((((y.alloc (J #[r.t.v,r.s.v,r.o.v,r.p.v] 91)).alloc (J #[H G 0 0,H G 0 0,H G 0 0,H G 0 0] 91)).alloc (.map #[] 0)).alloc (J #[.map (U (y.1.size+2))] 153)).alloc (J #[.pointer (U ⟨w.1.size,0,G⟩)] 89)) (y.1.size+4) #[.pointer (U ⟨w.1.size,0,G⟩)]:=by
  have:=Bx.new ((((y.alloc (J #[r.t.v,r.s.v,r.o.v,r.p.v] 91)).alloc (J #[H G 0 0,H G 0 0,H G 0 0,H G 0 0] 91)).alloc (.map #[] 0)).alloc (J #[.map (U (y.1.size+2))] 153)) #[.pointer (U ⟨w.1.size,0,G⟩)] 89;rw[World.size_alloc,World.size_alloc,World.size_alloc,World.size_alloc] at this;exact this
 have y2:l5 Tryz.prog 154 3 (((((y.alloc (J #[r.t.v,r.s.v,r.o.v,r.p.v] 91)).alloc (J #[H G 0 0,H G 0 0,H G 0 0,H G 0 0] 91)).alloc (.map #[] 0)).alloc (J #[.map (U (y.1.size+2))] 153)).alloc (J #[.pointer (U ⟨w.1.size,0,G⟩)] 89)) (y.1.size+2) 0 (λ_ _=>G):=by
  have h0:=l5.new (P:=Tryz.prog) (k:=154) (e:=3) ((y.alloc (J #[r.t.v,r.s.v,r.o.v,r.p.v] 91)).alloc (J #[H G 0 0,H G 0 0,H G 0 0,H G 0 0] 91));have e1:((y.alloc (J #[r.t.v,r.s.v,r.o.v,r.p.v] 91)).alloc (J #[H G 0 0,H G 0 0,H G 0 0,H G 0 0] 91)).1.size=y.1.size+2:=by simp
  rw[e1] at h0;exact h0.of_eq ((Below.heap_alloc _ _ _ ak).trans (Below.heap_alloc _ _ _ ak))
 have f4:(((((y.alloc (J #[r.t.v,r.s.v,r.o.v,r.p.v] 91)).alloc (J #[H G 0 0,H G 0 0,H G 0 0,H G 0 0] 91)).alloc (.map #[] 0)).alloc (J #[.map (U (y.1.size+2))] 153)).alloc (J #[.pointer (U ⟨w.1.size,0,G⟩)] 89)).1[w.1.size]?=E.1[w.1.size]?:=(z9.block _ (by have:=z8.q.size;have:=ο.q;omega)).trans (z8.q.block _ (by have:=ο.q;omega));revert j8 z9 k8 k9 y0 y1 y2 f4;generalize((((y.alloc (J #[r.t.v,r.s.v,r.o.v,r.p.v] 91)).alloc (J #[H G 0 0,H G 0 0,H G 0 0,H G 0 0] 91)).alloc (.map #[] 0)).alloc (J #[.map (U (y.1.size+2))] 153)).alloc (J #[.pointer (U ⟨w.1.size,0,G⟩)] 89)=V;intro j8 z9 k8 k9 y0 y1 y2 f4;obtain⟨Θ,Ξ,Φ,ι,q1,q2,q3⟩:=Z8.q;have HL:=hid ι;have HQ:=hid (⟨q1,q2,q3⟩:_/\_/\_);have p7:E.1.size<=y.1.size:=z8.q.size;have j9:Below E.1.size E V:=z8.q.trans (z9.mono p7);have p8:kz φ χ ψ C.Q Θ Ξ Φ=aZ C:=uQ θ.q.be θ.q.bd θ.q.bm q1 q2 q3;obtain⟨xs,q6⟩:∃xs,xs=aU r φ χ ψ C.Q Θ Ξ Φ:=⟨_,rfl⟩;have p9:kW E xs=aZ C:=by rw[q6,<-p8];exact ι.vals
 have f5:=hid q6;have f6:=hid p9;have Z9:Hid (∀p∈xs,∃g o,p.2=(⟨g,o,G⟩:Addr)):=hid (by rw[q6];exact nZ.all _ _ _ _ _ _ _ _);have aac:Hid (∀p∈xs,∃n,E.cell? p.2=U (.int .i64 n)):=hid (by rw[q6];exact ι.ints);have YZ:Hid (∀p∈xs,AU E p.2.block/\w1.1.size<=p.2.block):=hid (by rw[q6];exact λp hp=>ι.soft hp);have aad:Hid ((xs.map Prod.snd).Nodup):=hid (by rw[q6];exact ι.nodup);have Y5:Hid (Deep E r φ χ ψ C.Q Θ Ξ Φ):=hid ⟨(show Own E w1.1.size 49 9 dx (H r.e.a r.e.n r.e.c) φ from ι.oe).row (hc:=jI) j6.q.1,(show Own E w1.1.size 57 2 dV (H r.d.a r.d.n r.d.c) χ from ι.od).row (hc:=kr) j6.q.2.1,(show Own E w1.1.size 60 4 eB (H r.m.a r.m.n r.m.c) ψ from ι.om).row (hc:=ku) j6.q.2.2.1,(show Own E w1.1.size 63 2 fE (H r.w.a r.w.n r.w.c) C.Q from ι.oq).row (hc:=lQ) j6.q.2.2.2,
  λx hx=>(show Own E w1.1.size 53 3 cZ (H x.sa x.sn x.sc) (Θ x) from ι.se x hx).row (hc:=ko) (by have:=υ.q.1 (Θ x) (by rw[<-q1];exact jS hx);omega),
  λx hx=>(show Own E w1.1.size 3 1 aS (H x.sa x.sn x.sc) (Ξ x) from ι.sd x hx).row (hc:=eP) (by have:=υ.q.2.1 (Ξ x) (by rw[<-q2];exact jS hx);omega),
  λx hx=>(show Own E w1.1.size 3 1 aS (H x.sa x.sn x.sc) (Φ x) from ι.sm x hx).row (hc:=eP) (by have:=υ.q.2.2 (Φ x) (by rw[<-q3];exact jS hx);omega)⟩
 have r0:NI w E (V.1.size+5) y.1.size (y.1.size+1) (y.1.size+3) (y.1.size+2) r C.nl (bV (aZ C)) xs [] V:=
  ⟨λp hp=>(by cases hp),p4.q.bQ j9,Moved.start (Same.of_below j9 (λi Q _=>Q)),p2.q.keep j9,p3.q.keep j9,k8,⟨λ_=>⟨G,0,0⟩,k9,λs _=>Own.jv _ _ _ _ _,λ_ _ _ _ _ g S=>by cases S⟩,y0,y2⟩
 have HI0:=hid r0;have HVS:=hid j8;have ν:=hid p7;have r1:=hid j9;have HVP:=hid y1;clear r0 z9 k8 k9 y0 y1 y2 f4 j9 q1 q2 q3 ι p8 q6 p9;refine wpIn_wide.1 (Mq (n:=3) (gf:=77) (lb:=#[.pointer (U ⟨y.1.size+4,0,G⟩)]) (by simp[go_sem]) AV
  (kY:=GD) (k:=3) (D:=λi=>i=w.1.size\/i=y.1.size+4\/(V.1.size+2<=i/\i<V.1.size+5)) (R:=qh (λa=>∃g j,a=(⟨g,j,G⟩:Addr)/\∀s,(s,a)∉xs) E) (xs:=xs)
  (λW hW hWs=>by
   have e:=f5.q;have f7:Below E.1.size E W:=r1.q.bQ hW;rw[e];exact AX r φ χ ψ C.Q Θ Ξ Φ w.1.size (y.1.size+4) _ _ E W Y5.q (p2.q.keep f7) (HVP.q.keep hW) (λa v _ hc=>bq f7 rfl hc) f7.size (.inl rfl) (.inr (.inl rfl))
    (λb o ha k hk j hj=>⟨b,_,rfl,λs=>HL.q.YR ha hj s⟩) (λe he b o ha j hj=>⟨b,_,rfl,λs=>HL.q.iX he ha s⟩)
    (λb o ha k hk=>⟨b,_,rfl,λs=>HL.q.YS ha s⟩) (λb o ha k hk=>⟨b,_,rfl,λs=>HL.q.YT ha s⟩) (λi h1 h2=> .inr (.inr ⟨by omega,by omega⟩))) (by have:=ο.q;omega)
  (λx args X hx=>by rw[hx];rfl)
  (NI w E (V.1.size+5) y.1.size (y.1.size+1) (y.1.size+3) (y.1.size+2) r C.nl (bV (aZ C)) xs)
  (λ_ _ _=>False)
  (λδ X Y hh k=>hh.same (V:=V.1.size) (k.mono (λi Q _=>by omega)) (aB _) ah (by have:=ο.q;omega) ah ah ah ah)
  (λc δ X Y hh k=>hh)
  (λδ X hh a v hC hc=>by
   obtain⟨g,j,rfl,q7⟩:=hC;exact hh.m.cell hc (λs hs=>q7 s (hh.sub _ hs)))
  (λc δ X hh=>hh.elim)
  HI0.q ?round ?done ?stop)
 case stop=>
  intro c δ X _ hh;exact hh.elim
 case round=>
  rintro δ ⟨x1,a0⟩ args X hI v0 rfl hsz m;have z0:(x1,a0)∈xs:=v0.subset ak;obtain⟨b,o,r2⟩:=Z9.q _ z0;simp only at r2;subst r2;obtain⟨n,y3⟩:=aac.q _ z0;simp only at y3;have f8:gV E (x1,⟨b,o,G⟩)=(x1,n):=by unfold gV;rw[jY y3]
  have r3:(x1,n)∈aZ C:=by rw[<-f6.q,<-f8];exact jS z0
  obtain⟨s,κ,z1,q8⟩:=YX.q _ r3;simp only at z1 q8;subst z1;obtain⟨k,rfl,hk⟩:=wJ q8;have r4:∀s',(s',(⟨b,o,G⟩:Addr))∉δ:=λs' hs'=>by
   obtain⟨t,ht⟩:=v0;have r5:=aad.q;rw[<-ht,eY,eY] at r5;have:=(vg.1 (vg.1 r5).1).2.2 _ (jS hs') _ (jS (bX.2 rfl));exact this rfl
  have f9:kW E (δ++[((s:I),(⟨b,o,G⟩:Addr))])=kW E δ++[((s:I),(k:I))]:=by unfold kW;rw[eY,rz,f8]
  have r6:kW E δ++[((s:I),(k:I))]<+:aZ C:=by rw[<-f9,<-f6.q];exact v0.map _
  have y4:=hid f9;have r7:=hid (Rk v0);have g0:=hid (YZ.q _ z0);have acF:=hid z0;have g1:=hid y3;have g2:=hid r4;have HK:=hid hk;have y5:=hid r6;clear f8 r3 q8 z0 v0 y3 r4 f9 r6 hk
  gi_wp2
  refine⟨Below.refl _ _,λX2 r8=>?_⟩;have ξ:=hI.same (V:=V.1.size) (r8.mono (λi Q _=>by omega)) (aB _) (by have:=ν.q;omega) (by have:=ο.q;have:=ν.q;omega) ah ah ah ah;have z2:V.1.size+5<=X2.1.size:=by have:=r8.size;omega
  have y6:=ξ.m.cell g1.q g2.q;have hf2:=(ξ.m.soft g0.q.1).frozen (j:=o);have hbl:b<E.1.size:=by obtain⟨cs,T,e⟩:=g0.q.1;exact(dS.1 e).1
  have y7:=hid (⟨hbl,g0.q.2⟩:b<E.1.size/\w1.1.size<=b);obtain⟨⟨na,nn,nc⟩,g3⟩:∃z:Sl,z=r.nm s:=⟨_,rfl⟩;have q9:=(show Own X2 w1.1.size 9 1 encStr (H (r.nm s).a (r.nm s).n (r.nm s).c) (C.nl s) from JV HL.q (λp hp=>by rw[<-f5.q];exact ξ.sub p hp) ξ.m (p6.q s κ)).row (hc:=eX) (by have:=(k4.q s κ).2;omega);have y8:X2.cell? ⟨y.1.size,s,G⟩=U (r.nm s).v:=(ξ.ws.1 s).trans (pV r.nm κ);rw[<-g3] at q9 y8;simp only at q9;obtain⟨nm,gb,go,g4,hab,g5⟩:=q9.at_ (i:=k) (by rw[<-q9.len];exact HK.q);subst hab;have hkn:k<nn:=by rw[<-q9.len];exact HK.q
  have HNS:=hid g3;clear g3;obtain⟨sl,π,j0,v1⟩:=ξ.wa;have v2:X2.cell? ⟨y.1.size+1,s,G⟩=U (sl s).v:=(π.1 s).trans (pV sl κ);have g6:=ξ.mv.1 0;have r9:(Lit.int .i64 (s:I)).wf=true:=WalkArith.wf_i64 ah;have hkl:k<300:=by have:=(k4.q s κ).2;have:=HK.q;omega
  have u0:(Lit.int .i64 (k:I)).wf=true:=WalkArith.wf_i64 ah;have ε:=aA (Below.refl X2.1.size X2) (J #[.int .i64 (s:I),.int .i64 (k:I)] 154);have v3:=ξ.mp.of_eq (ε.block _ ξ.mp.lt);have v4:(Instr.lookup 153 (.map (U (y.1.size+1+1))) (.agg #[.int .i64 (s:I),.int .i64 (k:I)]) true).run Tryz.prog (X2.alloc (J #[.int .i64 (s:I),.int .i64 (k:I)] 154))= .ok (.tuple #[.int .i64 ((Aa (kW E δ) (s:I) (k:I)).getD 0),.bool (Aa (kW E δ) (s:I) (k:I)).isSome]) (X2.alloc (J #[.int .i64 (s:I),.int .i64 (k:I)] 154)):=v3.WC OP underlying153 underlying3 (UA _) (OQ r9 u0);have hcm1:((X2.alloc (J #[.int .i64 (s:I),.int .i64 (k:I)] 154))).cell? ⟨y.1.size+1+1+1,0,G⟩=U (.map (U (y.1.size+1+1))):=bq ε rfl g6;have y9:=(Bx.new X2 #[.int .i64 (s:I),.int .i64 (k:I)] 154).1;have acG:=y9 0;have acH:=y9 1;have hfb:((X2.alloc (J #[.int .i64 (s:I),.int .i64 (k:I)] 154))).cell? ⟨b,o,G⟩=U (.int .i64 (k:I)):=bq ε rfl y6;have hff:((X2.alloc (J #[.int .i64 (s:I),.int .i64 (k:I)] 154))).frozen? ⟨b,o,G⟩=false:=(World.frozen?_of_block (a:=⟨b,o,G⟩) (ε.block b (by have:=z8.q.size;omega))).trans hf2;have u1:=hid ξ;by_cases q0:(k:I)∈bV (kW E δ) (s:I)
  .have q7:Aa (kW E δ) (s:I) (k:I)=U ((bV (kW E δ) (s:I)).idxOf (k:I):I):=av q0
   rw[q7] at v4;simp only[Option.getD_some,Option.isSome_some] at v4;obtain⟨q,hq⟩:∃q:Nat,q=(bV (kW E δ) (s:I)).idxOf (k:I):=⟨_,rfl⟩;rw[<-hq] at v4;have HQQ:=hid hq;have q4:=hid q0;clear q7 hq q0 q9 g5 g4 j0 v1 π v3 ξ hI y9 g6 v2 y8;have j1:=u1.q.same (V:=V.1.size) (Same.of_below ε (λi Q hl=>hl)) (aB _) (by have:=ν.q;omega) (by have:=ο.q;have:=ν.q;omega) ah ah ah ah;rw[j8] at j1;have ζ:=hid j1;have η:=hid ε;have HV:Hid ((q:I)=dY (bV (aZ C) (s:I)) (k:I)):=hid (by rw[EI (wB _ ((eu _ _).trans y5.q)) q4.q,HQQ.q]);clear j1 ε
   gi_wp2
   have q5:=y7.q.1;have hb2:=y7.q.2;have hb3:=ν.q;have k7:=f0.q;refine⟨⟨(Below.heap_setCell _ _ _ _ (by simp;omega)).trans (η.q.block _ ah),(Below.heap_setCell _ _ _ _ (by simp;omega)).trans (η.q.block _ ah)⟩,?_,?_⟩
   .exact(bA.of_below η.q (λi _ Q=>Q)).trans (bA.setCell _ b o _ ah)
   .exact NI.fin r7.q ζ.q.b ζ.q.m ζ.q.bx ζ.q.r ζ.q.ws (by rw[y4.q,AR q4.q];exact ζ.q.wa) ζ.q.mv (by rw[y4.q,Mk q4.q,OV q4.q];exact ζ.q.mp) g2.q g1.q HV.q ah ah ah ah ah ah
  .have q7:Aa (kW E δ) (s:I) (k:I)=G:=au q0
   rw[q7] at v4;simp only[Option.getD_none,Option.isSome_none] at v4;obtain⟨⟨sa,sn,sc⟩,g7⟩:∃z,z=sl s:=⟨_,rfl⟩;have j2:=j0 s κ;rw[<-g7] at j2 v2;have v5:sn=(bV (kW E δ) (s:I)).length:=by
    obtain⟨_,_,q,_⟩:=j2.shape;simp only[Sl.v,Value.slice.injEq] at q;rw[q.2.1,bg]
   have u2:sn<=300:=by rw[v5];exact bI (wB _ ((eu _ _).trans y5.q)).length_le (k4.q s κ).1
   have u3:(Lit.int .i64 (sn:I)).wf=true:=WalkArith.wf_i64 ah;have hFN:yu (kW E δ)<=1200:=by
    have e:∀q:Nat,q<4->(bV (kW E δ) (q:I)).length<=300:=λq hq=>bI (wB _ ((eu _ _).trans y5.q)).length_le (k4.q q hq).1
    have e0:=e 0 ah;have e1:=e 1 ah;have e2:=e 2 ah;have e3:=e 3 ah;unfold yu;exact bI (Nat.add_le_add (Nat.add_le_add (Nat.add_le_add e0 e1) e2) e3) ah
   obtain⟨W5,u4,x0,z3⟩:=v3.put OP underlying153 underlying3 (by unfold maxLen;omega) (OQ r9 u0) u3;have acB:(Instr.mapUpdate 153 (.map (U (y.1.size+1+1))) (.agg #[.int .i64 (s:I),.int .i64 (k:I)]) (.int .i64 (sn:I))).run Tryz.prog (X2.alloc (J #[.int .i64 (s:I),.int .i64 (k:I)] 154))= .ok () W5:=u4;rw[v5,<-UC q0,<-Rj κ q0] at x0;have j1:=u1.q.same (V:=V.1.size) (Same.of_below ε (λi Q hl=>hl)) (aB _) (by have:=ν.q;omega) (by have:=ο.q;have:=ν.q;omega) ah ah ah ah;have Ψ:Same (λi=>i≠y.1.size+2) (X2.alloc (J #[.int .i64 (s:I),.int .i64 (k:I)] 154)) W5:=⟨z3.os,z3.tape,z3.output,z3.size,λi Q hl=>z3.block i hl (λe=>Q (by injection e))⟩;rw[j8] at j1 j2;have hmN:W5.1[y.1.size+2]?≠G:=by have:=x0.lt;simp;omega
   have u5:Own W5 (y.1.size+5+5) 9 1 encStr (H sa sn sc) ((bV (kW E δ) (s:I)).map (aP (C.nl s))):=(j2.below ε rfl).same Ψ (λg S e=>by have:=(j2.lt g S).1;omega);have u6:W5.cell? ⟨y.1.size+1,s,G⟩=U (H sa sn sc):=Ψ.bU (bq ε rfl v2) ah;have u7:W5.cell? ⟨y.1.size,s,G⟩=U (H (U ⟨gb,go,G⟩) nn nc):=Ψ.bU (bq ε rfl y8) ah;have q5:=y7.q.1;have hb2:=y7.q.2;have hb3:=ν.q;have k7:=f0.q;have u8:W5.cell? ⟨b,o,G⟩=U (.int .i64 (k:I)):=Ψ.bU hfb ah;have g8:X2.cell? ⟨gb,go+k,G⟩=U (.string ⟨nm.toArray⟩):=by have:=g5 0 _ rfl;simpa using this
   have u9:W5.cell? ⟨gb,go+k,G⟩=U (.string ⟨nm.toArray⟩):=Ψ.bU (bq ε rfl g8) (λe=>by
    obtain⟨q,clk,hq⟩:=v3.obj;have:=bq ε rfl g8;rw[e] at this;unfold World.cell? at this;simp[hq] at this)
   have x2:=hid u5;have ζ:=hid j1;have v6:=hid Ψ;have g9:=hid x0;have η:=hid ε;have VT:=hid g4;have q4:=hid q0;have HSN:=hid v5;have w0:=hid g7;have x3:=hid j0;have HWA:=hid π;have w3:=hid u2;have w5:=hid v1;have acI:(X2.alloc (J #[.int .i64 (s:I),.int .i64 (k:I)] 154)).cell? ⟨y.1.size+1,s,G⟩=U (H sa sn sc):=bq ε rfl v2;have Ω:=hid (⟨u6,u7,u8,u9⟩:_/\_/\_/\_);have HGB:Hid ((Value.slice sa sn sc).ownBlock≠U gb):=hid (λe=>by have h1:=(j2.lt _ e).1;have h2:=((p6.q s κ).lt gb (by rw[<-HNS.q];rfl)).2;omega);have hk0:(0:I)<=(k:I):=zC _;have hkn2:(k:I)<(nn:I):=by omega
   have acJ:(s:I)<4:=by omega
   obtain⟨i,z,Q⟩:=l8;have HI:=hid Q;have HLEN:Hid (((bV (kW E δ) (s:I)).map (aP (C.nl s))).length+1=sn+1):=hid (by rw[bg,<-v5]);have HWF:Hid (Bx W5 (y.1.size+1) (sV sl)):=hid (Ψ.bx (π.keep ε) ah);have HFZ:Hid (W5.frozen? ⟨b,o,G⟩=false):=hid ((World.frozen?_of_block (a:=⟨b,o,G⟩) (Ψ.block b ah (by have:=ε.size;omega))).trans hff);clear u5 j1 Ψ x0 ε g4 q0 v5 g7 j0 π u2 v1 q7 u6 u7 u8 u9 g8 g5 q9 j2 v3 z3 u4 ξ hI v2 y8 g6 Q hFN u3 y9 hmN
   gi_wp2
   refine ng 15 [(0,0),(1,0),(2,0),(3,0),(4,0),(5,0),(6,0),(7,0),(8,0),(9,0),(10,0),(11,0),(12,2),(13,2),(14,0),(15,2)] (λ_=>True) (λW'=>W'.cell? ⟨y.1.size+1,s,G⟩=U (H sa sn sc)/\W'.cell? ⟨y.1.size,s,G⟩=U (H (U ⟨gb,go,G⟩) nn nc)/\W'.cell? ⟨b,o,G⟩=U (.int .i64 (k:I))/\W'.cell? ⟨gb,go+k,G⟩=U (.string ⟨nm.toArray⟩)) ay ay ay (trivial) (Ω.q) ?_;refine qC ?_;refine aF rfl rfl (λK hK=>?_);go_simp;have z4:Below W5.1.size W5 (W5.alloc (J #[.string ⟨nm.toArray⟩] 9)).drew:=(aA (Below.refl W5.1.size W5) (J #[.string ⟨nm.toArray⟩] 9)).drew;have ρ:=hid z4;refine hK _ _ ⟨trivial,bq z4 rfl Ω.q.1,bq z4 rfl Ω.q.2.1,bq z4 rfl Ω.q.2.2.1,bq z4 rfl Ω.q.2.2.2⟩ ?_;clear hK K z4;refine aF rfl rfl (λK hK=>?_);refine kM _ _ 22 rfl i z 16 underlying22 HI.q.1 HI.q.2.1 HI.q.2.2.1 HI.q.2.2.2.1 HI.q.2.2.2.2 rfl (x2.q.below ρ.q rfl) (U ⟨W5.1.size,0,G⟩) 1 1 (sn+1) [nm] rfl (Row.str1 W5 nm) HLEN.q (by have:=w3.q;omega) (by have:=w3.q;unfold maxLen;omega) (bI (by have:=v6.q.size;have:=η.q.size;omega) ρ.q.size) ?_;intro a' c' W9 w6 v7 w7;have v8:Hid (∀g,(Value.slice sa sn sc).ownBlock=U g->y.1.size+5+5<=g):=hid (λg S=>(x2.q.lt g S).1);have x4:Bx W9 (y.1.size+1) (sV sl):=(HWF.q.keep ρ.q).grown v7 (λe=>by have:=v8.q _ e;omega);have SY:W9.cell? ⟨y.1.size+1,s,G⟩=U (H sa sn sc):=(x4.1 s).trans (by rw[pV sl κ,<-w0.q]);have v9:∀g j v,W5.cell? ⟨g,j,G⟩=U v->(Value.slice sa sn sc).ownBlock≠U g->W9.cell? ⟨g,j,G⟩=U v:=λg j v hc γ=>(World.cell?_of_block (a:=⟨g,j,G⟩) (v7.block g (bP (dQ hc) ρ.q.size) (λe=>γ e.symm))).trans (bq ρ.q rfl hc)
   have HW9:=hid x4;have w8:=hid w6;have z5:=hid v7;have QN:=hid w7;refine hK _ _ ⟨trivial,SY,v9 _ _ _ Ω.q.2.1 (λe=>by have:=v8.q _ e;omega),v9 _ _ _ Ω.q.2.2.1 (λe=>by have:=v8.q _ e;omega),v9 _ _ _ Ω.q.2.2.2 (λe=>HGB.q e)⟩ ?_;have VP:=x4.2.1 s;have acK:W9.frozen? ⟨b,o,G⟩=false:=(World.frozen?_of_block (a:=⟨b,o,G⟩) (v7.block b (by have:=ρ.q.size;have:=v6.q.size;have:=η.q.size;omega) (λe=>by have:=v8.q _ e.symm;omega))).trans ((World.frozen?_of_block (a:=⟨b,o,G⟩) (ρ.q.block b (by have:=v6.q.size;have:=η.q.size;omega))).trans HFZ.q);have acL:=v9 _ _ _ Ω.q.2.2.1 (λe=>by have:=v8.q _ e;omega);clear hK K w6 v7 w7 v9 x4;refine qC ?_;refine aW rfl rfl rfl (λK hK=>?_);go_simp;refine hK _ _ trivial ?_;clear hK K;refine aO ?_
   gi_wp2
   have hxw:=HW9.q.YV κ ⟨a',sn+1,c'⟩;have w9:Same (λi=>i≠y.1.size+2/\i≠y.1.size+1/\(Value.slice sa sn sc).ownBlock≠U i) (X2.alloc (J #[.int .i64 (s:I),.int .i64 (k:I)] 154)) (W9.setCell ⟨y.1.size+1,s,G⟩ (H a' (sn+1) c')):=
    (((v6.q.mono (λi Q _=>Q.1)).tr (Same.of_below ρ.q (λi _ hl=>hl))).tr ⟨z5.q.os,z5.q.tape,z5.q.output,z5.q.size,λi Q hl=>z5.q.block i hl (λe=>Q.2.2 e.symm)⟩).setTail (λhh=>hh.2.1 rfl)
   have τ:Same (λi=>i<y.1.size+5+5/\i≠y.1.size+2/\i≠y.1.size+1) (X2.alloc (J #[.int .i64 (s:I),.int .i64 (k:I)] 154)) (W9.setCell ⟨y.1.size+1,s,G⟩ (H a' (sn+1) c')):=
    w9.mono (λi Q _=>⟨Q.2.1,Q.2.2,λe=>by have:=(x2.q.lt i e).1;have:=Q.1;omega⟩)
   have hm9:∀g,(Value.slice sa sn sc).ownBlock=U g->y.1.size+5+5<=g:=λg S=>(x2.q.lt g S).1
   have aae:(W9.setCell ⟨y.1.size+1,s,G⟩ (H a' (sn+1) c')).1[y.1.size+2]?=W5.1[y.1.size+2]?:=(Below.heap_setCell _ _ _ _ ak).trans ((z5.q.block _ (by have:=g9.q.lt;have:=ρ.q.size;omega) (λe=>by have:=hm9 _ e.symm;omega)).trans (ρ.q.block _ g9.q.lt));have aaf:nm=aP (C.nl s) (k:I):=by rw[oD _ HK.q];exact((bK.1 VT.q).2).symm
   have HV:Hid ((sn:I)=dY (bV (aZ C) (s:I)) (k:I)):=hid (by rw[HSN.q];refine(KH ?_ q4.q).symm;have:=wB (s:I) y5.q;rw[uE q4.q,av rfl] at this;exact this);have Zy:∀q,q<4->q≠s->∀g,(sl q).v.ownBlock=U g->(Value.slice sa sn sc).ownBlock≠U g:=λq hq j3 g S=>by
    have:=w5.q q s hq κ j3 g S;rw[<-w0.q] at this;exact this
   refine⟨⟨?_,?_⟩,?_,?_⟩
   .exact(Below.heap_setCell _ _ _ _ (by show y.1.size+5≠b;omega)).trans ((τ.block _ ⟨by omega,by omega,by omega⟩ (by have:=η.q.size;omega)).trans (η.q.block _ ah))
   .exact(Below.heap_setCell _ _ _ _ (by show y.1.size+5+1≠b;omega)).trans ((τ.block _ ⟨by omega,by omega,by omega⟩ (by have:=η.q.size;omega)).trans (η.q.block _ ah))
   .refine(bA.of_below η.q (λi _ Q=>Q)).trans ((bA.trans (B:=W9.setCell ⟨y.1.size+1,s,G⟩ (H a' (sn+1) c')) ⟨τ.size,λi Q hl=>τ.block i ⟨?_,?_,?_⟩ hl⟩ (bA.setCell _ b o _ ah))) <;> omega
   .refine NI.fin r7.q (τ.below ζ.q.b (λi Q=>⟨by omega,by omega,by omega⟩) ζ.q.b.size) (ζ.q.m.same (τ.mono (λi Q _=>⟨by omega,by omega,by omega⟩))) (τ.bx ζ.q.bx ⟨by omega,by omega,by omega⟩) (τ.bx ζ.q.r ⟨by omega,by omega,by omega⟩) (τ.bx ζ.q.ws ⟨by omega,by omega,by omega⟩) ⟨_,hxw,?_,?_⟩ (τ.bx ζ.q.mv ⟨by omega,by omega,by omega⟩) ?_ g2.q g1.q HV.q ah ah ah ah ah ah
    .intro q hq4
     rw[y4.q,uE q4.q];by_cases j3:q=s
     .subst j3
      rw[av rfl,av rfl,eY,rz,<-aaf];refine w8.q.same (Same.setTail (A:=λi=>i≠y.1.size+1) (Same.refl' _) (λhh=>hh rfl)) (λg S=>?_);have:=(w8.q.lt g S).1;omega
     .rw[au j3,au ah]
      have hO:=x3.q q hq4;rw[HVS.q] at hO;refine(hO.below η.q rfl).same w9 (λg S=>⟨?_,?_,Zy q hq4 j3 g S⟩) <;> have:=(hO.lt g S).1 <;> omega
    .have hnew:∀q,q<4->q≠s->∀g,(Value.slice a' (sn+1) c').ownBlock=U g->(sl q).v.ownBlock≠U g:=λq hq j3 g S e=>by
      rcases QN.q with h1|h1
      .exact Zy q hq j3 g e (h1.symm.trans S)
      .rw[S] at h1
       injection h1 with h1;have:=((x3.q q hq).lt g e).2;have:=ρ.q.size;have:=v6.q.size;have:=η.q.size;omega
     intro q q' hq hq' γ g S
     dsimp only at S ⊢
     by_cases h1:q=s
     .subst h1
      rw[av rfl] at S;rw[au (λe=>γ e.symm)];exact hnew q' hq' (λe=>γ e.symm) g S
     .rw[au h1] at S
      by_cases h2:q'=s
      .subst h2
       rw[av rfl];exact λe=>hnew q hq h1 g e S
      .rw[au h2]
       exact w5.q q q' hq hq' γ g S
    .rw[y4.q]
     exact g9.q.of_eq aae
 case done=>
  intro X hI m0;rw[j8] at m0;obtain⟨sl,π,j0,v1⟩:=hI.wa;obtain⟨s0,x5⟩:∃z,z=sl 0:=⟨_,rfl⟩;obtain⟨s1,z1⟩:∃z,z=sl 1:=⟨_,rfl⟩;obtain⟨s2,q8⟩:∃z,z=sl 2:=⟨_,rfl⟩;obtain⟨s3,m1⟩:∃z,z=sl 3:=⟨_,rfl⟩;have hc0:X.cell? ⟨y.1.size+1,0,G⟩=U s0.v:=by rw[x5];exact π.1 0
  have hc1:X.cell? ⟨y.1.size+1,1,G⟩=U s1.v:=by rw[z1];exact π.1 1
  have y6:X.cell? ⟨y.1.size+1,2,G⟩=U s2.v:=by rw[q8];exact π.1 2
  have hc3:X.cell? ⟨y.1.size+1,3,G⟩=U s3.v:=by rw[m1];exact π.1 3
  have Zz:=hid (⟨hc0,hc1,y6,hc3⟩:_/\_/\_/\_);have μ:=hid hI.bx;have HRB:=hid hI.r;have m2:=hid hI;have x6:=hid m0;have x3:=hid j0;have x7:=hid (⟨x5,z1,q8,m1⟩:_/\_/\_/\_);clear hc0 hc1 y6 hc3 hI π j0 v1 m0 x5 z1 q8 m1;simp only[Exit.inBlock,Exit.then]
  go_wp2
  refine aC 15 [(0,0),(1,0),(2,0),(3,0),(4,0),(5,0),(6,0),(7,0),(8,0),(9,2),(10,0),(11,2),(12,0),(13,2),(14,0),(15,2)] (λ_=>True) (λW'=>W'.cell? ⟨y.1.size+1,0,G⟩=U s0.v/\W'.cell? ⟨y.1.size+1,1,G⟩=U s1.v/\W'.cell? ⟨y.1.size+1,2,G⟩=U s2.v/\W'.cell? ⟨y.1.size+1,3,G⟩=U s3.v) ay ay (trivial) (Zz.q) ?_;refine qC ?_;refine aF rfl rfl (λK hK=>?_);go_simp;have x8:Hid (X.cell? ⟨y.1.size+1,0,G⟩=U s0.v/\X.cell? ⟨y.1.size+1,1,G⟩=U s1.v/\X.cell? ⟨y.1.size+1,2,G⟩=U s2.v/\X.cell? ⟨y.1.size+1,3,G⟩=U s3.v):=Zz;have σ:=μ.q;have ω:=μ.q.1;have Γ:=μ.q.2.1;have Δ:=μ.q.2.2;go_simp;have γ:y.1.size+1≠w.1.size:=by have:=ν.q;have:=ο.q;omega
  have k0:=hid (show _/\_/\_/\_ from⟨bZ (o':=0) (u:=s0.v) x8.q.1 γ,bZ (o':=0) (u:=s0.v) x8.q.2.1 γ,bZ (o':=0) (u:=s0.v) x8.q.2.2.1 γ,bZ (o':=0) (u:=s0.v) x8.q.2.2.2 γ⟩);refine hK _ _ ⟨trivial,k0.q⟩ ?_;clear γ;have aag:=hid (σ.bB 0 ak s0.v);clear hK K σ ω Γ Δ;refine qC ?_;refine aF rfl rfl (λK hK=>?_);go_simp;have σ:=aag.q;have ω:=μ.q.1;have Γ:=μ.q.2.1;have Δ:=μ.q.2.2;go_simp;have γ:y.1.size+1≠w.1.size:=by have:=ν.q;have:=ο.q;omega
  have k1:=hid (show _/\_/\_/\_ from⟨bZ (o':=1) (u:=s1.v) k0.q.1 γ,bZ (o':=1) (u:=s1.v) k0.q.2.1 γ,bZ (o':=1) (u:=s1.v) k0.q.2.2.1 γ,bZ (o':=1) (u:=s1.v) k0.q.2.2.2 γ⟩);refine hK _ _ ⟨trivial,k1.q⟩ ?_;clear γ;have aah:=hid (σ.bB 1 ak s1.v);clear hK K σ ω Γ Δ;refine qC ?_;refine aF rfl rfl (λK hK=>?_);go_simp;have σ:=aah.q;have ω:=μ.q.1;have Γ:=μ.q.2.1;have Δ:=μ.q.2.2;go_simp;have γ:y.1.size+1≠w.1.size:=by have:=ν.q;have:=ο.q;omega
  have aai:=hid (show _/\_/\_/\_ from⟨bZ (o':=2) (u:=s2.v) k1.q.1 γ,bZ (o':=2) (u:=s2.v) k1.q.2.1 γ,bZ (o':=2) (u:=s2.v) k1.q.2.2.1 γ,bZ (o':=2) (u:=s2.v) k1.q.2.2.2 γ⟩);refine hK _ _ ⟨trivial,aai.q⟩ ?_;clear γ;have aaj:=hid (σ.bB 2 ak s2.v);clear hK K σ ω Γ Δ;refine qC ?_;refine aW rfl rfl rfl (λK hK=>?_);go_simp;have σ:=aaj.q;have ω:=μ.q.1;have Γ:=μ.q.2.1;have Δ:=μ.q.2.2;go_simp;refine hK _ _ trivial ?_;have aak:=hid (σ.bB 3 ak s3.v);clear hK K σ ω Γ Δ;refine aO ?_;have j4:Bx ((((X.setCell ⟨w.1.size,0,G⟩ s0.v).setCell ⟨w.1.size,1,G⟩ s1.v).setCell ⟨w.1.size,2,G⟩ s2.v).setCell ⟨w.1.size,3,G⟩ s3.v).drew w.1.size (aD ⟨s0,s1,s2,s3,r.e,r.d,r.m,r.w⟩):=by
   have:=aak.q;have h2:Bx ((((X.setCell ⟨w.1.size,0,G⟩ s0.v).setCell ⟨w.1.size,1,G⟩ s1.v).setCell ⟨w.1.size,2,G⟩ s2.v).setCell ⟨w.1.size,3,G⟩ s3.v) w.1.size (aD ⟨s0,s1,s2,s3,r.e,r.d,r.m,r.w⟩):=by simpa[aD] using this
   exact h2.drew
  have k2:Same (λi=>i≠w.1.size) X ((((X.setCell ⟨w.1.size,0,G⟩ s0.v).setCell ⟨w.1.size,1,G⟩ s1.v).setCell ⟨w.1.size,2,G⟩ s2.v).setCell ⟨w.1.size,3,G⟩ s3.v).drew:=by
   have:=((((Same.refl' X).setTail (b:=w.1.size) (o:=0) (v:=s0.v) (A:=λi=>i≠w.1.size) (λhn=>hn rfl)).setTail (b:=w.1.size) (o:=1) (v:=s1.v) (λhn=>hn rfl)).setTail (b:=w.1.size) (o:=2) (v:=s2.v) (λhn=>hn rfl)).setTail (b:=w.1.size) (o:=3) (v:=s3.v) (λhn=>hn rfl);exact this.l6
  revert j4 k2;generalize((((X.setCell ⟨w.1.size,0,G⟩ s0.v).setCell ⟨w.1.size,1,G⟩ s1.v).setCell ⟨w.1.size,2,G⟩ s2.v).setCell ⟨w.1.size,3,G⟩ s3.v).drew=Y;intro j4 k2;have HY0:=hid j4;have x9:=hid k2;have k3:=k2.bx HRB.q ah;have HRY:=hid k3;have hcy:=j4.1;have hfy:=j4.2.1;have hly:=j4.2.2;have hcr:=k3.1;have hfr:=k3.2.1;have hlr:=k3.2.2;clear j4 k2 k3;go_wp2_with fail;have m3:Bx ((((((((Y.setCell ⟨w.1.size+1,0,G⟩ s0.v).setCell ⟨w.1.size+1,1,G⟩ s1.v).setCell ⟨w.1.size+1,2,G⟩ s2.v).setCell ⟨w.1.size+1,3,G⟩ s3.v).setCell ⟨w.1.size+1,4,G⟩ r.e.v).setCell ⟨w.1.size+1,5,G⟩ r.d.v).setCell ⟨w.1.size+1,6,G⟩ r.m.v).setCell ⟨w.1.size+1,7,G⟩ r.w.v) (w.1.size+1) (aD ⟨s0,s1,s2,s3,r.e,r.d,r.m,r.w⟩):=by
   have:=(((((((HRY.q.bB 0 ak s0.v).bB 1 ak s1.v).bB 2 ak s2.v).bB 3 ak s3.v).bB 4 ak r.e.v).bB 5 ak r.d.v).bB 6 ak r.m.v).bB 7 ak r.w.v
   simpa[aD] using this
  have z2:Same (λi=>i≠w.1.size+1) Y ((((((((Y.setCell ⟨w.1.size+1,0,G⟩ s0.v).setCell ⟨w.1.size+1,1,G⟩ s1.v).setCell ⟨w.1.size+1,2,G⟩ s2.v).setCell ⟨w.1.size+1,3,G⟩ s3.v).setCell ⟨w.1.size+1,4,G⟩ r.e.v).setCell ⟨w.1.size+1,5,G⟩ r.d.v).setCell ⟨w.1.size+1,6,G⟩ r.m.v).setCell ⟨w.1.size+1,7,G⟩ r.w.v):=sN (b:=w.1.size+1) (h':=⟨s0,s1,s2,s3,r.e,r.d,r.m,r.w⟩);revert m3 z2;generalize((((((((Y.setCell ⟨w.1.size+1,0,G⟩ s0.v).setCell ⟨w.1.size+1,1,G⟩ s1.v).setCell ⟨w.1.size+1,2,G⟩ s2.v).setCell ⟨w.1.size+1,3,G⟩ s3.v).setCell ⟨w.1.size+1,4,G⟩ r.e.v).setCell ⟨w.1.size+1,5,G⟩ r.d.v).setCell ⟨w.1.size+1,6,G⟩ r.m.v).setCell ⟨w.1.size+1,7,G⟩ r.w.v)=Z;intro m3 z2;have x5:=ο.q;have κ:=ν.q;have hsw:=f0.q;have hdf:Z.1[y.1.size+5]?=U (.deferred (U [])):=by
   have h1:=x9.q.block (y.1.size+5) ah (dS.1 x6.q).1;have h2:=z2.block (y.1.size+5) ah (by have:=x9.q.size;have:=(dS.1 x6.q).1;omega);exact(h2.trans h1).trans x6.q
  have hp:=m3.putObj (l:=y.1.size+5) (.deferred G) ah;have hcp:=hp.1;have hsa:Same (λi=>w1.1.size<=i/\i≠y.1.size+5) X (Z.putObj (y.1.size+5) (.deferred G)):=(((x9.q.mono (λi Q _=>by have:=Q.1;omega)).tr (z2.mono (λi Q _=>by have:=Q.1;omega))).tr (Same.putObj (A:=λi=>w1.1.size<=i/\i≠y.1.size+5) _ _ (λhn=>hn.2 rfl)));refine⟨by simp,.inl ⟨_,_,rfl,run_takeDeferred hdf,?_⟩⟩;have hres:=JW (w:=w) (Y:=Z.putObj (y.1.size+5) (.deferred G)) (sl:=sl) (N:=V.1.size+5) rfl HL.q θ.q.be θ.q.bd θ.q.bm HQ.q.1 HQ.q.2.1 HQ.q.2.2 (by rw[<-f5.q];exact m2.q.m) YW.q (λq hq=>by have:=x3.q q hq;rw[<-f6.q];exact this) (by have:=θ.q.b.size;have:=z7.q.size;omega) ah (λcs T fz e=>by have:=x6.q;rw[this] at e;cases e) hsa ?_ υ.q.1 υ.q.2.1 υ.q.2.2;refine⟨.tuple #[bC ⟨s0,s1,s2,s3,r.e,r.d,r.m,r.w⟩,.int .i64 0],?_,?_⟩
  .simp[results,results83,go_sem,hcp,aD]
  .rw[x7.q.1,x7.q.2.1,x7.q.2.2.1,x7.q.2.2.2]
   exact hres
  .have hq:Same (λi=>i<w.1.size) X (Z.putObj (y.1.size+5) (.deferred G)):=((x9.q.mono (λi Q _=>by omega)).tr (z2.mono (λi Q _=>by omega))).tr (Same.putObj (A:=λi=>i<w.1.size) _ _ (λhn=>by omega))
   exact hq.below m2.q.b (λi Q=>Q) m2.q.b.size
end Yd
namespace Yd
open Go Go.RowKit Go.Proofs Go.Maps
open _root_ renaming List->b
theorem D8 {l:b Int}{m:Nat}(a:l.Nodup)(o:∀x∈l,aY x m=true):l.length<=m:=by
 have:=List.Nodup.length_le_of_subset (l₂:=(List.range m).map (λk:Nat=>(k:Int))) a (λx p=>by
  obtain⟨k,rfl,q⟩:=wJ (o x p);exact bS.2 ⟨k,oG.2 q,rfl⟩)
 rwa[bg,List.length_range] at this
theorem UD {nt ns R p:Nat}{e:EvC}{l:b Sn}(o:fZ nt ns R p e l=true):l.length<=40:=by
 unfold fZ at o;simp only[aM,aV] at o;obtain⟨⟨⟨⟨r,s⟩,t⟩,m⟩,a⟩:=o;by_cases q:e.kind=4
 .unfold hasB at m
  rw[au ah,au ah,au ah,av q] at m;simp only[aM,aV] at m;exact m.1.2
 .have:l=[]:=by
   unfold gD at a
   split at a
   .simp only[aM,aV] at a;exact a.2
   .split at a
    .simp only[aM,aV] at a;exact a.2
    .simp only[aM,aV] at a;exact a.2
  rw[this];exact bn _
theorem UE {nt ns R p:Nat}{e:EvC}{l:b Sn}(o:fZ nt ns R p e l=true):BP e:=by
 unfold fZ at o;simp only[aM,aV] at o;have a:=o.2;unfold gD at a
 split at a
 .rename_i m
  simp only[aM,aV] at a;exact⟨λk=>absurd m k,λ_=>⟨a.1.1.1,a.1.1.2⟩,λ_=>a.1.2⟩
 .rename_i q
  split at a
  .rename_i m
   simp only[aM,aV] at a;exact⟨λ_=>a.1.1.1,λk=>absurd m k,λ_=>a.1.2⟩
  .rename_i r
   split at a
   .rename_i m
    simp only[aM,aV] at a;exact⟨λ_=>a.1.1.1,λ_=>⟨a.1.2,a.2⟩,λk=>absurd m k⟩
   .simp only[aM,aV] at a
    exact⟨λ_=>a.1.1.1.1.1,λ_=>⟨a.1.1.1.2,a.1.1.2⟩,λ_=>a.1.2⟩
theorem UF {a l:Type}{xs:b a}{ys:b l}(o:xs.length=ys.length){x:a}(m:x∈xs):∃y,(x,y)∈xs.zip ys:=by
 obtain⟨i,p,rfl⟩:=BO.1 m;exact⟨ys[i]' ah,BO.2 ⟨i,by rw[xD];omega,by rw[List.getElem_zip]⟩⟩
theorem CX {l a:Type}{xs:b l}{ys:b a}(o:xs.length=ys.length){y:a}(m:y∈ys):∃x,(x,y)∈xs.zip ys:=by
 obtain⟨i,p,rfl⟩:=BO.1 m;exact⟨xs[i]' ah,BO.2 ⟨i,by rw[xD];omega,by rw[List.getElem_zip]⟩⟩
theorem FM {n:Nat}{l:b Int}(a:fu n l=true):l.length<=300:=by
 unfold fu at a;simp only[aM,aV] at a;exact a.1
variable{c:Cont}
theorem fJ.BZ (a:fJ c)(l:aI c):DJ c:=
 ⟨by have:=l.2.1;omega,by have:=l.2.2.1;omega,by have:=l.2.2.2.1;omega,by have:=l.2.2.2.2.1;omega,λi q=>by have:=l.1 i q;have:=BA i;omega,
 λp m=>by obtain⟨x,o⟩:=CX a.le m;have:=UD (a.ev _ o);simp only at this;omega,
 λp m=>by obtain⟨x,o⟩:=CX a.ld m;have:=FM (a.od _ o).2;simp only at this;omega,
 λp m=>by obtain⟨x,o⟩:=CX a.lm m;have:=FM (a.ma _ o).2.2;simp only at this;omega⟩
theorem fJ.bare (a:fJ c):∀e∈c.E,BP e:=λe l=>by
 obtain⟨y,m⟩:=UF a.le l;exact UE (a.ev _ m)
theorem fJ.WH (m:fJ c)(o:aI c):∀s:Nat,s<4->(bV (aZ c) (s:Int)).length<=300/\(c.nl s).length<=300:=λs hs=>by
 have a:(c.nl s).length<=300:=bI (o.1 s hs) (BA s);refine⟨bI (D8 (AJ _ _) (λx p=>?_)) a,a⟩;obtain⟨q,a,r,l⟩:=uZ m _ (EJ _ p);simp only at r l;have:s=q:=by omega
 rw[this];exact l
variable{X:World}{m:HC}
theorem gQ.lens {B:Nat}{es:b EvC}{a:b aG}{l:b aK}{p:EvC->b Sn}{r:aG->b Int}{s:aK->b Int}(o:gQ X B m c es a l p r s):
  m.e.n=c.E.length/\m.d.n=c.D.length/\m.m.n=c.M.length/\m.w.n=c.Q.length/\∀i,i<4->(m.nm i).n=(c.nl i).length:=by
 refine⟨?_,?_,?_,?_,λi t=>?_⟩
 .obtain⟨_,_,q,_⟩:=o.oe.shape;simp only[Value.slice.injEq] at q;rw[<-o.be,bg];exact q.2.1
 .obtain⟨_,_,q,_⟩:=o.od.shape;simp only[Value.slice.injEq] at q;rw[<-o.bd,bg];exact q.2.1
 .obtain⟨_,_,q,_⟩:=o.om.shape;simp only[Value.slice.injEq] at q;rw[<-o.bm,bg];exact q.2.1
 .obtain⟨_,_,q,_⟩:=o.oq.shape;simp only[Value.slice.injEq] at q;exact q.2.1
 .obtain⟨_,_,q,_⟩:=(o.on i t).shape;simp only[Value.slice.injEq] at q;exact q.2.1
theorem gQ.shaped {B:Nat}{es:b EvC}{A:b aG}{E:b aK}{r:EvC->b Sn}{t:aG->b Int}{u:aK->b Int}(o:gQ X B m c es A E r t u)(a:fJ c)(R:aI c):
  gB m c.nl es A E c.Q r t u=true:=by
 obtain⟨le,ld,lm,lq,q⟩:=o.lens;have v:m.t.n=(c.nl 0).length:=q 0 ah;have K:m.s.n=(c.nl 1).length:=q 1 ah;have y:m.o.n=(c.nl 2).length:=q 2 ah;have Q:m.p.n=(c.nl 3).length:=q 3 ah;obtain⟨S,f2,f3,f4,f5,_⟩:=R;unfold gB;simp only[aM,dZ];refine⟨⟨⟨⟨?_,λe Z=>?_⟩,λx l=>?_⟩,λx l=>?_⟩,λx l=>?_⟩
 .unfold ni
  simp only[aM,dZ,oG];refine⟨?_,λi hi=>?_⟩
  .unfold Bt
   simp only[aM,aV];refine⟨by omega,?_⟩
   split
   .omega
   .split <;> omega
  .unfold nT mO
   simp only[aM,dZ,aV];refine⟨?_,λs γ=>(a.nm i).2 s γ,(a.nm i).1⟩;have:=S i hi;rcases(by omega:i=0\/i=1\/i=2\/i=3) with rfl|rfl|rfl|rfl <;> (unfold jU at this;simp at this;simp only[zf];omega)
 .rw[v,K,y,Q]
  have p:(e.base,r e)∈c.E.zip c.SE:=by
   rw[<-o.be,<-o.ss,jy];exact bS.2 ⟨e,Z,rfl⟩
  exact a.ev _ p
 .have p:(x.base,t x)∈c.D.zip c.SD:=by
   rw[<-o.bd,<-o.ts,jy];exact bS.2 ⟨x,l,rfl⟩
  have:=a.od _ p;unfold Cz;rw[v,y,aM];exact this
 .have p:(x.base,u x)∈c.M.zip c.SM:=by
   rw[<-o.bm,<-o.us,jy];exact bS.2 ⟨x,l,rfl⟩
  have:=a.ma _ p;unfold CB;rw[v,y,Q,aM,aM];exact⟨⟨this.1,this.2.1⟩,this.2.2⟩
 .have:=a.wa x l
  unfold zh;rw[K,aM,aM,aV,aV];exact⟨⟨this.1,this.2.1⟩,this.2.2⟩
theorem JX {B:Nat}{es:b EvC}{p:b aG}{q:b aK}{r:EvC->b Sn}{s:aG->b Int}{t:aK->b Int}(o:gQ X B m c es p q r s t)(a:fJ c)(l:aI c)(u:qD X):
  Calls Tryz.prog 83 #[bC m] X (Ml X (eG c)):=
 EQ m c.nl es p q c.Q r s t X u (o.names (a.BZ l)) (o.deep (a.BZ l)) (o.bulk (a.BZ l)) (o.shaped a l) c o.cont a.bare (uZ a) (a.WH l)
end Yd
namespace Yd
open Go Go.RowKit Go.Proofs Tryz
open Below renaming refl->C
open Go.Value renaming slice->j
open RowKit renaming intOf->B
open Yd renaming hid->f
open _root_ renaming trivial->z,List->D
theorem Row.takeA {p:Type}{enc:p->D Value}{w:World}{k:Nat}{a:Option Addr}{n c:Nat}{xs:D p}(l:Row w k enc a n c xs){m:Nat}(q:m<=n):Row w k enc a m c (xs.take m):=by
 refine⟨by rw[fB,l.len];omega,bI q l.cap,bI q l.le,l.2.2.2.1,λi x o=>?_⟩;rw[uT] at o
 split at o
 .exact l.2.2.2.2 i x o
 .cases o
theorem TU (h:HC)(nl:Nat->D Bs)(es:D EvC)(A:D aG)(u:D aK)(qs:D Wa)(Δ:EvC->D Sn)(dn:aG->D Int)(mn:aK->D Int)(w:World)
  (hn:∀i,i<4->Row w 1 encStr (h.nm i).a (h.nm i).n (h.nm i).c (nl i)) (hd:Deep w h es A u qs Δ dn mn) (hB:sj nl es A u qs Δ dn mn):
  Calls Tryz.prog 5 #[bC h] w (Mr w (iA 120 nl es A u qs Δ dn mn)):=by
 have s:=St.start hn hd hB h.e.n (aB _);have Φ:=hd.1.takeA (m:=min h.e.n 120) ah;obtain⟨t,z7⟩:∃t,t=es.take (min h.e.n 120):=⟨_,rfl⟩;have z8:t=es.take 120:=by
  rw[z7];by_cases k1:h.e.n<=120
  .rw[nX k1,gF (by rw[hd.1.len];exact aB _),gF (by rw[hd.1.len];exact k1)]
  .rw[Nat.min_eq_right ah]
 rw[<-z7] at Φ;have k2:=Φ.len;rw[<-k2] at Φ;have g8:min (h.e.n:Int) 120=(t.length:Int):=by omega
 have g9:t.length<=120:=by omega
 have m0:(t.length:Int)<=(h.e.c:Int):=by have:=Φ.cap;omega
 have z9:∀x∈t,x∈es:=λx R=>vT (by rw[<-z8];exact R)
 have x8:=f (λX=>nH.start (X:=X) (T:=53) (sl:=EvC.sl) Δ (λx (R:x∈t)=>⟨hB.2.2.2.2.2.1 x (z9 x R),hd.2.2.2.2.1 x (z9 x R)⟩));obtain⟨l,hC⟩:∃l,l=iA 120 nl es A u qs Δ dn mn:=⟨_,rfl⟩;have HC:=f hC;rw[<-hC];have x9:Hid (∀{X h' es1 ds1 ms1},St w X h' es1 ds1 ms1 {iA h.e.n nl es A u qs Δ dn mn with E:=t.map EvC.base,SE:=t.map Δ}->St w X h' es1 ds1 ms1 l):=by
  rw[hC,z8];exact f (λh=>h)
 have k3:w.1.size<=((w.alloc (.cells (aD h) 28)).alloc (.cells (Array.replicate 8 (j none 0 0)) 28)).1.size:=by simp;omega
 have Θ:=f (EL h.e.a h.e.c t _ (Φ.below s.b rfl) ah);have δ:=f s;have b0:=f k3;have p:=s.bx;have r:=s.b2;have Q:=p.1;have ε:=p.2.1;have ζ:=p.2.2;have k4:Hid (l.Q=qs):=f (by rw[hC];rfl);clear hn hd Φ z7 z8 k2 s z9 hC hB k3 p r;obtain⟨ht,hs,ho,hp,⟨ea,en,ec⟩,Ψ,Ω,q0⟩:=h;go_enter func5,ntmps5;go_wp2_with fail;refine Θ.q.mono ?_;rintro e w1 ⟨ae,ce,rfl,v0,τ⟩;have π:=f (δ.q.below τ);have υ:=f (v0.mono b0.q);have k5:∀g,(Value.slice ae t.length ce).ownBlock=some g->g≠w.1.size:=λg hg=>by have:=(v0.lt g hg).1;simp at this;omega
 have b1:=f k5;clear τ v0 k5 Q ε ζ;have p:=π.q.bx;have r:=π.q.b2;have Q:=p.1;have ε:=p.2.1;have ζ:=p.2.2;have ι:=r.1;have ρ:=r.2.1;have σ:=r.2.2;go_wp2_with fail;have b2:=f (x9.q (π.q.Rc ⟨ae,t.length,ce⟩ t ⟨by omega,.inr υ.q⟩ rfl (x8.q w1)));have b3:=f (υ.q.same (sameBox π.q 4 (j ae t.length ce)) (λg hg=>b1.q g hg));clear p r Q ε ζ ι ρ σ
 go_loopw [18] (λi wr=>∃(k:Nat)(xe:D EvC),k<=t.length/\i= .int .i64 k/\St w wr ⟨ht,hs,ho,hp,⟨ae,t.length,ce⟩,Ψ,Ω,q0⟩ xe A u l/\Own wr w.1.size 49 9 dx (j ae t.length ce) xe) (λi _=>t.length - (B i).toNat)
 case atStart=>exact⟨0,t,bn _,rfl,b2.q,b3.q⟩
 case round=>
  obtain⟨k,xe,hk,rfl,s,γ⟩:=hrel;skip;by_cases k6:k<t.length
  .obtain⟨g,k7,rfl,κ,k8,k9,y0,μ⟩:=γ.open_ (hc:=jI) ah
   obtain⟨x,R⟩:∃x,xe[k]?=some x:=⟨_,cB ah⟩;have φ:k<l.SE.length:=by rw[<-s.se.1];omega
   obtain⟨y,hL⟩:∃y,l.SE[k]?=some y:=⟨_,cB φ⟩;have η:=s.se.2 k x y R hL;have ν:=η.row (hc:=ko) s.b;have Q:=(κ.1 (k*9+8)).trans (μ k x 8 _ R rfl);have Θ:Hid (∀W,Below wr.1.size wr W->Calls Tryz.prog 15 #[j x.sa x.sn x.sc] W (eO 53 3 cZ y W)):=by
    refine f (λW hW=>?_);have hr:Row W 3 cZ x.sa x.sn x.sc y:=ν.below hW rfl;rw[show x.sn=y.length from ν.len.symm] at hr ⊢;exact EP x.sa x.sc y W hr (by have:=η.1;omega)
   have δ:=f s;have q1:=f γ;have q8:=f κ;have HX:=f R;have HL:=f hL;have q9:=f η.1;have χ:=f Q;have j0:=f (μ k x 8 _ R rfl);have y1:k<2000000:=by have:=s.e.1;omega
   clear s γ κ R hL η ν Q μ φ;go_wp2_with fail;refine aC 10 [(0,0),(1,0),(2,0),(3,0),(4,0),(5,0),(6,0),(7,0),(8,0),(9,2),(10,1),(11,1),(12,2)] (λ_=>True) (λW'=>Bx W' w.1.size #[ht.v,hs.v,ho.v,hp.v,(j (some ⟨g,0,none⟩) t.length ce),Ψ.v,Ω.v,q0.v]/\W'.cell? ⟨g,k*9+8,none⟩=some (j x.sa x.sn x.sc)) ay ay (trivial) (⟨δ.q.bx,χ.q⟩) ?_;refine qC ?_;refine aF rfl rfl (λK a=>?_);go_simp;refine(Θ.q _ (C _ _).drew).mono ?_;rintro en Y ⟨a',c',rfl,ψ,ω⟩;have j1:=f ψ;have Z:=f (show Below wr.1.size wr Y from(C _ _).drew.trans ω);refine a _ _ ⟨z,δ.q.bx.keep Z.q,bq Z.q rfl χ.q⟩ ?_;clear a K ψ ω;have θ:=q8.q.keep Z.q;have j2:=θ.2.1;have j3:=θ.2.2;have j4:Y.cell? ⟨g,k*9+8,none⟩=some (j x.sa x.sn x.sc):=(θ.1 _).trans j0.q;clear θ;refine qC ?_;refine aW rfl rfl rfl (λK a=>?_);go_simp;refine a _ _ z ?_;clear a K;refine aO ?_;have ξ:=(δ.q.below Z.q).Iw (i:=k) (q1.q.below Z.q rfl) rfl HX.q HL.q ⟨a',y.length,c'⟩ ⟨q9.q,.inr (j1.q.mono (by have:=δ.q.b.size;simpa using this))⟩;have π:=f ξ.1;have υ:=f ξ.2;clear ξ j2 j3 j4;go_wp2_with fail;go_roundw
   case rel=>exact⟨k+1,_,by omega,by go_num,π.q,υ.q⟩
   case measure=>simp[B];omega
  .obtain rfl:k=t.length:=by omega
   have z0:=f s;have m1:=f γ;clear s γ;have p:=z0.q.bx;have r:=z0.q.b2;have Q:=p.1;have ε:=p.2.1;have ζ:=p.2.2;have ι:=r.1;have ρ:=r.2.1;have σ:=r.2.2;go_wp2_with fail;refine aC 9 [(0,0),(1,0),(3,0),(4,0),(6,0),(7,0),(2,2),(9,1),(5,2),(8,2),(10,2),(11,1),(12,2),(13,1),(14,2)] (λ_=>True) (λW'=>Bx W' w.1.size (aD ⟨ht,hs,ho,hp,⟨ae,t.length,ce⟩,Ψ,Ω,q0⟩)) ay ay (trivial) (z0.q.bx) ?_;refine qC ?_;refine aF rfl rfl (λK a=>?_);go_simp;have ο:=f (z0.q.drew);clear p r Q ε ζ ι ρ σ;have q:=ο.q.d.row (hc:=kr) ο.q.b;have S:=ο.q.d.1;refine(show Calls _ _ _ _ (eO 57 2 dV A _) from by have:=EM Ψ.a Ψ.c A _ (by rw[q.len];exact q) ah;rw[show A.length=Ψ.n from q.len] at this;exact this).mono ?_;rintro en Y1 ⟨ad,cd,rfl,j5,τ⟩;have q2:=f (ο.q.below τ);have b4:=f (j5.mono ο.q.b.size);have b5:=f S;refine a _ _ ⟨z,q2.q.bx⟩ ?_;clear a K j5 τ q S;refine qC ?_;refine aF rfl rfl (λK a=>?_);go_simp;have q:=q2.q.m.row (hc:=ku) q2.q.b;have S:=q2.q.m.1;refine(show Calls _ _ _ _ (eO 60 4 eB u _) from by have:=EN Ω.a Ω.c u _ (by rw[q.len];exact q) ah;rw[show u.length=Ω.n from q.len] at this;exact this).mono ?_;rintro en Y2 ⟨am,cm,rfl,j6,v1⟩;have q3:=f (q2.q.below v1);have b6:=f (j6.mono q2.q.b.size);have b7:=f S;have b8:=f (b4.q.below v1 rfl);refine a _ _ ⟨z,q3.q.bx⟩ ?_;clear a K j6 v1 q S;refine aF rfl rfl (λK a=>?_);go_simp;have q:=q3.q.q.row (hc:=lQ) q3.q.b;have S:=q3.q.q.1;rw[k4.q] at q S;refine(show Calls _ _ _ _ (eO 63 2 fE qs _) from by have:=EO q0.a q0.c qs _ (by rw[q.len];exact q) ah;rw[show qs.length=q0.n from q.len] at this;exact this).mono ?_;rintro en Y3 ⟨aq,cq,rfl,j7,Γ⟩;have Ξ:=f (q3.q.below Γ);have b9:=f (j7.mono q3.q.b.size);have f0:=f S;have y2:=f (b6.q.below Γ rfl);have y3:=f (b8.q.below Γ rfl);refine a _ _ ⟨z,Ξ.q.bx⟩ ?_;clear a K j7 Γ q S;have p:=Ξ.q.bx;have Q:=p.1;have ε:=p.2.1;have ζ:=p.2.2;refine aW rfl rfl rfl (λK a=>?_);go_simp;refine a _ _ z ?_;clear a K;refine qC ?_;refine aW rfl rfl rfl (λK a=>?_);go_simp;refine a _ _ z ?_;clear a K;refine qC ?_;refine aW rfl rfl rfl (λK a=>?_);go_simp;refine a _ _ z ?_;clear a K;refine aO ?_;have z1:=f Ξ.q.tg;have z2:=f (sameBox Ξ.q 5 (Sl.v ⟨ad,A.length,cd⟩));have q4:=Ξ.q.Rf ⟨ad,A.length,cd⟩ A ⟨b5.q,.inr y3.q⟩ Ξ.q.bd Ξ.q.sd;have v2:=f q4.tg;have v3:=f (sameBox q4 6 (Sl.v ⟨am,u.length,cm⟩));have z3:=q4.Rh ⟨am,u.length,cm⟩ u (gX.same ⟨b7.q,.inr y2.q⟩ z1.q.choose_spec.choose_spec aj z2.q) q4.bm q4.sm;have y4:=f (sameBox z3 7 (Sl.v ⟨aq,qs.length,cq⟩));have y5:=f z3.tg;have y6:=z3.Ri ⟨aq,qs.length,cq⟩ (gX.same (gX.same ⟨f0.q,.inr b9.q⟩ z1.q.choose_spec.choose_spec aj z2.q) v2.q.choose_spec.choose_spec aj v3.q);have f1:=f (((y3.q.aQ z1.q aj z2.q).aQ v2.q aj v3.q).aQ y5.q aj y4.q);have f2:=f (((y2.q.aQ z1.q aj z2.q).aQ v2.q aj v3.q).aQ y5.q aj y4.q);have v4:=f (y6.cast (c':=l) (by have:=k4.q;subst this;rfl));clear q4 z3 y6 p Q ε ζ;have p:=v4.q.bx;have r:=v4.q.b2;have Q:=p.1;have ε:=p.2.1;have ζ:=p.2.2;have ι:=r.1;have ρ:=r.2.1;have σ:=r.2.2;go_wp2_with fail;clear p r Q ε ζ ι ρ σ
   go_loopw [49] (λi wr=>∃(k:Nat)(xd:D aG),k<=A.length/\i= .int .i64 k/\St w wr ⟨ht,hs,ho,hp,⟨ae,t.length,ce⟩,⟨ad,A.length,cd⟩,⟨am,u.length,cm⟩,⟨aq,qs.length,cq⟩⟩ xe xd u l/\Own wr w.1.size 57 2 dV (j ad A.length cd) xd/\Own wr w.1.size 60 4 eB (j am u.length cm) u) (λi _=>A.length - (B i).toNat)
   case atStart=>exact⟨0,A,bn _,rfl,v4.q,f1.q,f2.q⟩
   case round=>
    obtain⟨k,xd,hk,rfl,s,γ,y7⟩:=hrel;have y8:=f y7;clear y7;by_cases k6:k<A.length
    .obtain⟨g,k7,rfl,κ,k8,k9,y0,μ⟩:=γ.open_ (hc:=kr) ah
     obtain⟨x,R⟩:∃x,xd[k]?=some x:=⟨_,cB ah⟩;have φ:k<l.SD.length:=by rw[<-s.sd.1];omega
     obtain⟨y,hL⟩:∃y,l.SD[k]?=some y:=⟨_,cB φ⟩;have η:=s.sd.2 k x y R hL;have ν:=η.row (hc:=eP) s.b;have Q:=(κ.1 (k*2+1)).trans (μ k x 1 _ R rfl);have Θ:Hid (∀W,Below wr.1.size wr W->Calls Tryz.prog 19 #[j x.sa x.sn x.sc] W (eO 3 1 aS y W)):=by
      refine f (λW hW=>?_);have hr:Row W 1 aS x.sa x.sn x.sc y:=ν.below hW rfl;rw[show x.sn=y.length from ν.len.symm] at hr ⊢;exact uz x.sa x.sc y W hr (by have:=η.1;omega)
     have δ:=f s;have q1:=f γ;have q8:=f κ;have HX:=f R;have HL:=f hL;have q9:=f η.1;have χ:=f Q;have j0:=f (μ k x 1 _ R rfl);have y1:k<2000000:=by have:=s.d.1;omega
     clear s γ κ R hL η ν Q μ φ;go_wp2_with fail;refine aC 10 [(0,0),(1,0),(2,0),(3,0),(4,0),(5,0),(6,0),(7,0),(8,0),(9,2),(10,1),(11,1),(12,2)] (λ_=>True) (λW'=>Bx W' w.1.size #[ht.v,hs.v,ho.v,hp.v,(j ae t.length ce),(j (some ⟨g,0,none⟩) A.length cd),(j am u.length cm),(j aq qs.length cq)]/\W'.cell? ⟨g,k*2+1,none⟩=some (j x.sa x.sn x.sc)) ay ay (trivial) (⟨δ.q.bx,χ.q⟩) ?_;refine qC ?_;refine aF rfl rfl (λK a=>?_);go_simp;refine(Θ.q _ (C _ _).drew).mono ?_;rintro en Y ⟨a',c',rfl,ψ,ω⟩;have j1:=f ψ;have Z:=f (show Below wr.1.size wr Y from(C _ _).drew.trans ω);refine a _ _ ⟨z,δ.q.bx.keep Z.q,bq Z.q rfl χ.q⟩ ?_;clear a K ψ ω;have θ:=q8.q.keep Z.q;have j2:=θ.2.1;have j3:=θ.2.2;have j4:Y.cell? ⟨g,k*2+1,none⟩=some (j x.sa x.sn x.sc):=(θ.1 _).trans j0.q;clear θ;refine qC ?_;refine aW rfl rfl rfl (λK a=>?_);go_simp;refine a _ _ z ?_;clear a K;refine aO ?_;have ξ:=(δ.q.below Z.q).Iy (i:=k) (q1.q.below Z.q rfl) rfl HX.q HL.q ⟨a',y.length,c'⟩ ⟨q9.q,.inr (j1.q.mono (by have:=δ.q.b.size;simpa using this))⟩;have π:=f ξ.1;have υ:=f ξ.2;have f3:=f ((y8.q.below Z.q rfl).aQ ((q1.q.below Z.q rfl).tag rfl) aj ((Same.refl' Y).setTail (b:=g) (o:=k*2+1) (v:= j a' y.length c') (λhn=>hn rfl)));clear ξ j2 j3 j4;go_wp2_with fail;go_roundw
     case rel=>exact⟨k+1,_,by omega,by go_num,π.q,υ.q,f3.q⟩
     case measure=>simp[B];omega
    .obtain rfl:k=A.length:=by omega
     have v5:=f s;have m2:=f γ;clear s γ;have p:=v5.q.bx;have r:=v5.q.b2;have Q:=p.1;have ε:=p.2.1;have ζ:=p.2.2;have ι:=r.1;have ρ:=r.2.1;have σ:=r.2.2;go_wp2_with fail;have f4:=v5;have f5:=y8;clear p r Q ε ζ ι ρ σ
     go_loopw [68] (λi wr=>∃(k:Nat)(xm:D aK),k<=u.length/\i= .int .i64 k/\St w wr ⟨ht,hs,ho,hp,⟨ae,t.length,ce⟩,⟨ad,A.length,cd⟩,⟨am,u.length,cm⟩,⟨aq,qs.length,cq⟩⟩ xe xd xm l/\Own wr w.1.size 60 4 eB (j am u.length cm) xm) (λi _=>u.length - (B i).toNat)
     case atStart=>exact⟨0,u,bn _,rfl,f4.q,f5.q⟩
     case round=>
      obtain⟨k,xm,hk,rfl,s,γ⟩:=hrel;skip;by_cases k6:k<u.length
      .obtain⟨g,k7,rfl,κ,k8,k9,y0,μ⟩:=γ.open_ (hc:=ku) ah
       obtain⟨x,R⟩:∃x,xm[k]?=some x:=⟨_,cB ah⟩;have φ:k<l.SM.length:=by rw[<-s.sm.1];omega
       obtain⟨y,hL⟩:∃y,l.SM[k]?=some y:=⟨_,cB φ⟩;have η:=s.sm.2 k x y R hL;have ν:=η.row (hc:=eP) s.b;have Q:=(κ.1 (k*4+3)).trans (μ k x 3 _ R rfl);have Θ:Hid (∀W,Below wr.1.size wr W->Calls Tryz.prog 19 #[j x.sa x.sn x.sc] W (eO 3 1 aS y W)):=by
        refine f (λW hW=>?_);have hr:Row W 1 aS x.sa x.sn x.sc y:=ν.below hW rfl;rw[show x.sn=y.length from ν.len.symm] at hr ⊢;exact uz x.sa x.sc y W hr (by have:=η.1;omega)
       have δ:=f s;have q1:=f γ;have q8:=f κ;have HX:=f R;have HL:=f hL;have q9:=f η.1;have χ:=f Q;have j0:=f (μ k x 3 _ R rfl);have y1:k<2000000:=by have:=s.m.1;omega
       clear s γ κ R hL η ν Q μ φ;go_wp2_with fail;refine aC 10 [(0,0),(1,0),(2,0),(3,0),(4,0),(5,0),(6,0),(7,0),(8,0),(9,2),(10,1),(11,1),(12,2)] (λ_=>True) (λW'=>Bx W' w.1.size #[ht.v,hs.v,ho.v,hp.v,(j ae t.length ce),(j ad A.length cd),(j (some ⟨g,0,none⟩) u.length cm),(j aq qs.length cq)]/\W'.cell? ⟨g,k*4+3,none⟩=some (j x.sa x.sn x.sc)) ay ay (trivial) (⟨δ.q.bx,χ.q⟩) ?_;refine qC ?_;refine aF rfl rfl (λK a=>?_);go_simp;refine(Θ.q _ (C _ _).drew).mono ?_;rintro en Y ⟨a',c',rfl,ψ,ω⟩;have j1:=f ψ;have Z:=f (show Below wr.1.size wr Y from(C _ _).drew.trans ω);refine a _ _ ⟨z,δ.q.bx.keep Z.q,bq Z.q rfl χ.q⟩ ?_;clear a K ψ ω;have θ:=q8.q.keep Z.q;have j2:=θ.2.1;have j3:=θ.2.2;have j4:Y.cell? ⟨g,k*4+3,none⟩=some (j x.sa x.sn x.sc):=(θ.1 _).trans j0.q;clear θ;refine qC ?_;refine aW rfl rfl rfl (λK a=>?_);go_simp;refine a _ _ z ?_;clear a K;refine aO ?_;have ξ:=(δ.q.below Z.q).Iz (i:=k) (q1.q.below Z.q rfl) rfl HX.q HL.q ⟨a',y.length,c'⟩ ⟨q9.q,.inr (j1.q.mono (by have:=δ.q.b.size;simpa using this))⟩;have π:=f ξ.1;have υ:=f ξ.2;clear ξ j2 j3 j4;go_wp2_with fail;go_roundw
       case rel=>exact⟨k+1,_,by omega,by go_num,π.q,υ.q⟩
       case measure=>simp[B];omega
      .obtain rfl:k=u.length:=by omega
       have z4:=f s;have m3:=f γ;clear s γ;have p:=z4.q.bx;have r:=z4.q.b2;have Q:=p.1;have ε:=p.2.1;have ζ:=p.2.2;have ι:=r.1;have ρ:=r.2.1;have σ:=r.2.2;go_wp2_with fail;refine aC 12 [(0,0),(1,0),(3,0),(4,0),(6,0),(7,0),(9,0),(10,0),(2,2),(12,1),(5,2),(8,2),(11,2),(13,2),(14,1),(15,2),(16,1),(17,2),(18,1),(19,2)] (λ_=>True) (λW'=>Bx W' w.1.size (aD ⟨ht,hs,ho,hp,⟨ae,t.length,ce⟩,⟨ad,A.length,cd⟩,⟨am,u.length,cm⟩,⟨aq,qs.length,cq⟩⟩)) ay ay (trivial) (z4.q.bx) ?_;refine qC ?_;refine aF rfl rfl (λK a=>?_);go_simp;have ο:=f (z4.q.drew);clear p r Q ε ζ ι ρ σ;have q:=(ο.q.n 0 aj).row (hc:=eX) ο.q.b;have S:=(ο.q.n 0 aj).1;refine(show Calls _ _ _ _ (eO 9 1 encStr (l.nl 0) _) from by have:=lJ ht.a ht.c (l.nl 0) _ (by rw[q.len];exact q) ah;rw[show(l.nl 0).length=ht.n from q.len] at this;exact this).mono ?_;rintro en Y0 ⟨n0,d0,rfl,y9,v6⟩;have q5:=f (ο.q.below v6);have f6:=f (y9.mono (ο.q.b.size));have m4:=f v6;have f7:=f S;refine a _ _ ⟨z,q5.q.bx⟩ ?_;clear a K y9 v6 q S;refine qC ?_;refine aF rfl rfl (λK a=>?_);go_simp;have q:=(q5.q.n 1 aj).row (hc:=eX) q5.q.b;have S:=(q5.q.n 1 aj).1;refine(show Calls _ _ _ _ (eO 9 1 encStr (l.nl 1) _) from by have:=lJ hs.a hs.c (l.nl 1) _ (by rw[q.len];exact q) ah;rw[show(l.nl 1).length=hs.n from q.len] at this;exact this).mono ?_;rintro en Y1 ⟨n1,d1,rfl,j5,τ⟩;have q6:=f (q5.q.below τ);have f8:=f (j5.mono (q5.q.b.size));have f9:=f τ;have g0:=f S;refine a _ _ ⟨z,q6.q.bx⟩ ?_;clear a K j5 τ q S;refine aF rfl rfl (λK a=>?_);go_simp;have q:=(q6.q.n 2 aj).row (hc:=eX) q6.q.b;have S:=(q6.q.n 2 aj).1;refine(show Calls _ _ _ _ (eO 9 1 encStr (l.nl 2) _) from by have:=lJ ho.a ho.c (l.nl 2) _ (by rw[q.len];exact q) ah;rw[show(l.nl 2).length=ho.n from q.len] at this;exact this).mono ?_;rintro en Y2 ⟨n2,d2,rfl,j6,r⟩;have q7:=f (q6.q.below r);have g1:=f (j6.mono (q6.q.b.size));have x0:=f r;have g2:=f S;refine a _ _ ⟨z,q7.q.bx⟩ ?_;clear a K j6 r q S;refine aF rfl rfl (λK a=>?_);go_simp;have q:=(q7.q.n 3 aj).row (hc:=eX) q7.q.b;have S:=(q7.q.n 3 aj).1;refine(show Calls _ _ _ _ (eO 9 1 encStr (l.nl 3) _) from by have:=lJ hp.a hp.c (l.nl 3) _ (by rw[q.len];exact q) ah;rw[show(l.nl 3).length=hp.n from q.len] at this;exact this).mono ?_;rintro en Y3 ⟨n3,d3,rfl,j7,Γ⟩;have j8:=f (q7.q.below Γ);have g3:=f (j7.mono (q7.q.b.size));have v7:=f Γ;have g4:=f S;refine a _ _ ⟨z,j8.q.bx⟩ ?_;clear a K j7 Γ q S;have p:=j8.q.bx;have Q:=p.1;have ε:=p.2.1;have ζ:=p.2.2;refine aW rfl rfl rfl (λK a=>?_);go_simp;refine a _ _ z ?_;clear a K;refine qC ?_;refine aW rfl rfl rfl (λK a=>?_);go_simp;refine a _ _ z ?_;clear a K;refine qC ?_;refine aW rfl rfl rfl (λK a=>?_);go_simp;refine a _ _ z ?_;clear a K;refine qC ?_;refine aW rfl rfl rfl (λK a=>?_);go_simp;refine a _ _ z ?_;clear a K;refine aO ?_;have x1:gX w Y3 9 1 encStr ⟨n0,(l.nl 0).length,d0⟩ (l.nl 0):=⟨f7.q,.inr (((f6.q.below f9.q rfl).below x0.q rfl).below v7.q rfl)⟩;have x2:gX w Y3 9 1 encStr ⟨n1,(l.nl 1).length,d1⟩ (l.nl 1):=⟨g0.q,.inr ((f8.q.below x0.q rfl).below v7.q rfl)⟩;have x3:gX w Y3 9 1 encStr ⟨n2,(l.nl 2).length,d2⟩ (l.nl 2):=⟨g2.q,.inr (g1.q.below v7.q rfl)⟩;have x4:gX w Y3 9 1 encStr ⟨n3,(l.nl 3).length,d3⟩ (l.nl 3):=⟨g4.q,.inr g3.q⟩;have v8:=f (j8.q.tg);have v9:=f (sameBox j8.q 0 (Sl.v ⟨n0,(l.nl 0).length,d0⟩));have z5:=j8.q.Mf ⟨n0,(l.nl 0).length,d0⟩ x1;have x5:=f (z5.tg);have x6:=f (sameBox z5 1 (Sl.v ⟨n1,(l.nl 1).length,d1⟩));have z6:=z5.Mg ⟨n1,(l.nl 1).length,d1⟩ (x2.same v8.q.choose_spec.choose_spec aj v9.q);have g5:=f (z6.tg);have g6:=f (sameBox z6 2 (Sl.v ⟨n2,(l.nl 2).length,d2⟩));have x7:=z6.Mh ⟨n2,(l.nl 2).length,d2⟩ ((x3.same v8.q.choose_spec.choose_spec aj v9.q).same x5.q.choose_spec.choose_spec aj x6.q);have k0:=x7.Mi ⟨n3,(l.nl 3).length,d3⟩ (((x4.same v8.q.choose_spec.choose_spec aj v9.q).same x5.q.choose_spec.choose_spec aj x6.q).same g5.q.choose_spec.choose_spec aj g6.q);have j9:=f k0;have m5:=f k0.b;clear z5 z6 x7 k0 x1 x2 x3 x4 p Q ε ζ;have p:=j9.q.bx;have r:=j9.q.b2;have Q:=p.1;have ε:=p.2.1;have ζ:=p.2.2;have ι:=r.1;have ρ:=r.2.1;have σ:=r.2.2;go_wp2_with fail;have g7:Hid (∀Y,Same (λi=>i≠w.1.size+1) _ Y->Mr w l (.returned (bC ⟨⟨n0,(l.nl 0).length,d0⟩,⟨n1,(l.nl 1).length,d1⟩,⟨n2,(l.nl 2).length,d2⟩,⟨n3,(l.nl 3).length,d3⟩,⟨ae,t.length,ce⟩,⟨ad,A.length,cd⟩,⟨am,u.length,cm⟩,⟨aq,qs.length,cq⟩⟩)) Y):=f (λY hs=>j9.q.WI hs (hs.below j9.q.b (λi hi=>by omega) j9.q.b.size));refine bodyPost_ret (v:=bC ⟨⟨n0,(l.nl 0).length,d0⟩,⟨n1,(l.nl 1).length,d1⟩,⟨n2,(l.nl 2).length,d2⟩,⟨n3,(l.nl 3).length,d3⟩,⟨ae,t.length,ce⟩,⟨ad,A.length,cd⟩,⟨am,u.length,cm⟩,⟨aq,qs.length,cq⟩⟩) (by simp[results,results5,go_sem,ι]) rfl (g7.q _ ?_)
       repeat(first|(with_reducible exact Same.refl' _)|(refine Same.setTail ?_ (λhn=>hn rfl)))
attribute [local go_sem] Oper.semAt_some
end Yd
namespace Yd
open Go Go.RowKit Go.Proofs
attribute [local go_sem] Oper.semAt_some
end Yd
