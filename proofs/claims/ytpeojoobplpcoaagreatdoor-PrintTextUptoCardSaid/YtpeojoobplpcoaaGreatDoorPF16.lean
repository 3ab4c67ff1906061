import Derived.Test.YtpeojoobplpcoaaGreatDoorPBk11
import Derived.Test.YtpeojoobplpcoaaGreatDoorPLnR
import Derived.Test.YtpeojoobplpcoaaGreatDoorPPtext
set_option linter.all false
set_option maxRecDepth 200000
set_option maxHeartbeats 8000000
namespace Yd
open Go Go.RowKit Go.Proofs
theorem VP {s:aH}(h:iX s=true)(hk:s.kind=0):s=wT:=by
 obtain⟨kd,names,lvl,aG,first,bits⟩:=s;simp only at hk;subst hk;unfold iX zo at h;simp only[aO,aW] at h;obtain⟨_,⟨⟨⟨⟨⟨h1,h2⟩,h3⟩,_⟩,_⟩,⟨h4,h5⟩,h6⟩,_⟩:=h;have hn:names=[]:=Hy.1 (by
  have:((names.length:Int) - 0<=0):=h2;omega)
 subst hn;have hv:aG=[]:=Hy.1 (by
  have:((aG.length:Int)=0):=h3;omega)
 subst hv;have hl:lvl=0:=by
  have h4':(false==(lvl !=0))=true:=h4
  simpa using h4'
 have hf:first=false:=by
  have h5':(!first||false)=true:=h5
  simpa using h5'
 have hb:bits=0:=by
  have h6':(bits==0||(false && _))=true:=h6
  simpa using h6'
 subst hl hf hb
 rfl
theorem aiK:iX wT=true:=by decide
def Bad {α:Type}(x:Except Er α):Prop:=∀r m,x= .error (r,m)->m≠0
theorem BK (l:Bs):Bad (dN l):=λr m h=>by
 unfold dN at h
 split at h
 .cases h
 .split at h
  .injection h with h;injection h with _ h;subst h;decide
  .cases h
theorem EO (l:Bs):Bad (d9 l):=λr m h=>by
 unfold d9 at h
 cases hm:dN l with
 |error x=>obtain⟨r',m'⟩:=x;rw[hm] at h;injection h with h;injection h with _ h;subst h;exact BK l _ _ hm
 |ok y=>
  obtain⟨b,r'⟩:=y;rw[hm] at h
  cases b
  .injection h with h;injection h with _ h;subst h;decide
  .cases h
theorem JN (l:Bs):Bad (dF l):=λr m h=>by
 unfold dF at h
 split at h
 .injection h with h;injection h with _ h;subst h;decide
 .split at h
  .injection h with h;injection h with _ h;subst h;decide
  .cases h
theorem JO (ws:List Bs)(l:Bs):Bad (eY ws l):=λr m h=>by
 unfold eY at h
 split at h
 .cases h
 .injection h with h;injection h with _ h;subst h;decide
theorem QV (l:Bs):Bad (gM l):=λr m h=>by
 unfold gM at h
 split at h
 .cases h
 .cases hn:dF l with
  |error x=>obtain⟨r',m'⟩:=x;rw[hn] at h;injection h with h;injection h with _ h;subst h;exact JN l _ _ hn
  |ok y=>
   obtain⟨nm,r1⟩:=y;rw[hn] at h;simp only[] at h
   split at h
   .unfold wQ at h
    simp only[] at h
    split at h
    .injection h with h;injection h with _ h;subst h;decide
    .split at h
     .injection h with h;injection h with _ h;subst h;decide
     .cases h
   .injection h with h;injection h with _ h;subst h;decide
theorem Nk:∀(k:Nat)(acc:List Bs)(l:Bs),Bad (jH k acc l)
 |0,acc,l=>λr m h=>by rw[jH] at h;cases h
 |k+1,acc,l=>λr m h=>by
  rw[jH] at h
  cases hm:d9 l with
  |error x=>obtain⟨r',m'⟩:=x;rw[hm] at h;injection h with h;injection h with _ h;subst h;exact EO l _ _ hm
  |ok r0=>
   rw[hm] at h;simp only[] at h
   cases hn:dF r0 with
   |error x=>obtain⟨r',m'⟩:=x;rw[hn] at h;injection h with h;injection h with _ h;subst h;exact JN _ _ _ hn
   |ok y=>obtain⟨nm,r1⟩:=y;rw[hn] at h;exact Nk k _ _ _ _ h
theorem yx (pairs:Bool)(most:Nat):∀(f many:Nat)(ns:List Bs)(vs:List To)(l:Bs),Bad (bK pairs most f many ns vs l)
 |0,many,ns,vs,l=>λr m h=>by rw[bK] at h;cases h
 |f+1,many,ns,vs,l=>λr m h=>by
  rw[bK] at h
  cases hmo:dN l with
  |error x=>obtain⟨r',m'⟩:=x;rw[hmo] at h;injection h with h;injection h with _ h;subst h;exact BK l _ _ hmo
  |ok y=>
   obtain⟨bo,r0⟩:=y;rw[hmo] at h
   cases bo
   .cases h
   .simp only[] at h
    by_cases hb:many=most/\dJ r0=true
    .rw[av hb] at h;injection h with h;injection h with _ h;subst h;decide
    .rw[au hb] at h
     cases hn:dF r0 with
     |error x=>obtain⟨r',m'⟩:=x;rw[hn] at h;injection h with h;injection h with _ h;subst h;exact JN _ _ _ hn
     |ok y=>
      obtain⟨nm,r1⟩:=y;rw[hn] at h;simp only[] at h;by_cases hp:pairs=true
      .rw[av hp] at h
       cases hu:d9 r1 with
       |error x=>obtain⟨r',m'⟩:=x;rw[hu] at h;injection h with h;injection h with _ h;subst h;exact EO _ _ _ hu
       |ok r2=>
        rw[hu] at h;simp only[] at h
        cases hv:gM r2 with
        |error x=>obtain⟨r',m'⟩:=x;rw[hv] at h;injection h with h;injection h with _ h;subst h;exact QV _ _ _ hv
        |ok y=>obtain⟨v,r3⟩:=y;rw[hv] at h;exact yx pairs most f _ _ _ _ _ _ h
      .rw[au hp] at h
       exact yx pairs most f _ _ _ _ _ _ h
theorem QW:∀(f k:Nat)(b:Int)(l:Bs),Bad (jo f k b l)
 |0,k,b,l=>λr m h=>by rw[jo] at h;cases h
 |f+1,k,b,l=>λr m h=>by
  rw[jo] at h
  cases hmo:dN l with
  |error x=>obtain⟨r',m'⟩:=x;rw[hmo] at h;injection h with h;injection h with _ h;subst h;exact BK l _ _ hmo
  |ok y=>
   obtain⟨bo,r0⟩:=y;rw[hmo] at h
   cases bo
   .cases h
   .simp only[] at h
    cases hw:eY (kJ.drop k) r0 with
    |error x=>obtain⟨r',m'⟩:=x;rw[hw] at h;injection h with h;injection h with _ h;subst h;exact JO _ _ _ _ hw
    |ok y=>obtain⟨i,r1⟩:=y;rw[hw] at h;exact QW f _ _ _ _ _ h
theorem YV (l:Bs):Bad (j4 l):=λr m h=>by
 unfold j4 at h
 cases hmo:dN l with
 |error x=>obtain⟨r',m'⟩:=x;rw[hmo] at h;injection h with h;injection h with _ h;subst h;exact BK l _ _ hmo
 |ok y=>
  obtain⟨bo,r0⟩:=y;rw[hmo] at h
  cases bo
  .cases h
  .simp only[] at h
   split at h <;> cases h
theorem abP (k:Nat)(ns:List Bs)(l:Bs):Bad (jZ k ns l):=λr m h=>by
 unfold jZ at h;by_cases h1:k=1
 .rw[av h1] at h
  cases hm:d9 l with
  |error x=>obtain⟨r',m'⟩:=x;rw[hm] at h;injection h with h;injection h with _ h;subst h;exact EO _ _ _ hm
  |ok r0=>
   rw[hm] at h;simp only[] at h
   cases hn:eY og r0 with
   |error x=>obtain⟨r',m'⟩:=x;rw[hn] at h;injection h with h;injection h with _ h;subst h;exact JO _ _ _ _ hn
   |ok y=>rw[hn] at h;cases h
 rw[au h1] at h;by_cases h3:k=3
 .rw[av h3] at h
  cases hm:d9 l with
  |error x=>obtain⟨r',m'⟩:=x;rw[hm] at h;injection h with h;injection h with _ h;subst h;exact EO _ _ _ hm
  |ok r0=>
   rw[hm] at h;simp only[] at h
   cases hn:gM r0 with
   |error x=>obtain⟨r',m'⟩:=x;rw[hn] at h;injection h with h;injection h with _ h;subst h;exact QV _ _ _ hn
   |ok y=>rw[hn] at h;cases h
 rw[au h3] at h;by_cases h9:k=9
 .rw[av h9] at h
  cases hm:jo 5 0 0 l with
  |error x=>obtain⟨r',m'⟩:=x;rw[hm] at h;injection h with h;injection h with _ h;subst h;exact QW _ _ _ _ _ _ hm
  |ok y=>rw[hm] at h;cases h
 rw[au h9] at h;by_cases h8:k=8
 .rw[av h8] at h
  cases hm:j4 l with
  |error x=>obtain⟨r',m'⟩:=x;rw[hm] at h;injection h with h;injection h with _ h;subst h;exact YV _ _ _ hm
  |ok y=>
   obtain⟨f,r0⟩:=y;rw[hm] at h;simp only[] at h
   cases ho:bK false 300 301 0 ns [] r0 with
   |error x=>obtain⟨r',m'⟩:=x;rw[ho] at h;injection h with h;injection h with _ h;subst h;exact yx _ _ _ _ _ _ _ _ _ ho
   |ok y=>rw[ho] at h;cases h
 rw[au h8] at h;by_cases h4:k=4
 .rw[av h4] at h
  cases ho:bK true 40 41 0 ns [] l with
  |error x=>obtain⟨r',m'⟩:=x;rw[ho] at h;injection h with h;injection h with _ h;subst h;exact yx _ _ _ _ _ _ _ _ _ ho
  |ok y=>rw[ho] at h;cases h
 rw[au h4] at h;by_cases h7:k=7
 .rw[av h7] at h
  cases ho:bK false 300 301 0 ns [] l with
  |error x=>obtain⟨r',m'⟩:=x;rw[ho] at h;injection h with h;injection h with _ h;subst h;exact yx _ _ _ _ _ _ _ _ _ ho
  |ok y=>rw[ho] at h;cases h
 rw[au h7] at h
 cases h
theorem abQ (l:Bs):Bad (jh l):=λr m h=>by
 unfold jh at h;by_cases he:dS (bI l)=true
 .rw[av he] at h;cases h
 rw[au he] at h
 cases hw:eY nu (bI l) with
 |error x=>obtain⟨r',m'⟩:=x;rw[hw] at h;injection h with h;injection h with _ h;subst h;exact JO _ _ _ _ hw
 |ok y=>
  obtain⟨i,r0⟩:=y;rw[hw] at h;simp only[] at h
  cases hn:jH (bS (i+1)).toNat [] r0 with
  |error x=>obtain⟨r',m'⟩:=x;rw[hn] at h;injection h with h;injection h with _ h;subst h;exact Nk _ _ _ _ _ hn
  |ok y=>
   obtain⟨ns,r1⟩:=y;rw[hn] at h;simp only[] at h
   cases ht:jZ (i+1) ns r1 with
   |error x=>obtain⟨r',m'⟩:=x;rw[ht] at h;injection h with h;injection h with _ h;subst h;exact abP _ _ _ _ _ ht
   |ok y=>
    obtain⟨s,r2⟩:=y;rw[ht] at h;simp only[] at h
    cases hm:dN r2 with
    |error x=>obtain⟨r',m'⟩:=x;rw[hm] at h;injection h with h;injection h with _ h;subst h;exact BK _ _ _ hm
    |ok y=>
     obtain⟨b,r3⟩:=y;rw[hm] at h
     cases b
     .cases h
     .injection h with h;injection h with _ h;subst h;decide
theorem EP (l:Bs):Bad (mJ l):=λr m h=>by
 unfold mJ at h
 cases hr:jh l with
 |error x=>obtain⟨r',m'⟩:=x;rw[hr] at h;injection h with h;injection h with _ h;subst h;exact abQ _ _ _ hr
 |ok y=>
  obtain⟨s,r0⟩:=y;rw[hr] at h;simp only[] at h
  split at h
  .cases h
  .split at h
   .cases h
   .injection h with h;injection h with _ h;subst h;decide
theorem abR (t:Bs):(∃n nx,bQ t 0=(n,nx,0)/\iX n=true/\(nx=(t.length:Int)\/∃q:Nat,nx=((q+1:Nat):Int)/\t[q]?=some 10/\q+1<=t.length))\/(∃nx er,bQ t 0=(wT,nx,er)/\er≠0/\0<=nx/\nx<=(t.length:Int)):=by
 unfold bQ;rw[au ah,show(0:Int).toNat=0 from rfl,Ez]
 cases h:mJ t with
 |error x=>
  obtain⟨r,m⟩:=x;exact .inr ⟨_,_,rfl,EP t r m h,by omega,by omega⟩
 |ok y=>
  obtain⟨n,r⟩:=y;obtain⟨h1,h2⟩:=JL h;refine .inl ⟨_,_,rfl,?_,?_⟩
  .rcases h1 with rfl|h1
   .exact aiK
   .exact Eo h1
  .rcases h2 with rfl|⟨pre,hp⟩
   .left;simp
   .right
    have hl:pre.length+(r.length+1)=t.length:=by rw[<-hp];simp
    refine⟨pre.length,?_,?_,by omega⟩
    .rw[show t.length - r.length=pre.length+1 by omega]
    .rw[<-hp];simp
def mP (s:Bs):Nat->Nat->Except (Int × Int) (List (aH × Int))
 |0,_=> .ok []
 |n+1,at_=>
  if at_<s.length then
   (if(bQ s at_).2.2=0 then
    (match mP s n (bQ s at_).2.1.toNat with
     | .ok r=> .ok (((bQ s at_).1,(at_:Int))::r)
     | .error x=> .error x)
   else .error ((bQ s at_).2.1,(bQ s at_).2.2))
  else .ok []
theorem aiL (r:Bs):bI (10::r)=10::r:=by unfold bI;rw[Ey];rfl
theorem VQ {s:aH}(hs:iX s=true)(r:Bs):mJ (oJ s++r)= .ok (s,r):=by
 unfold oJ
 split
 .rename_i hk
  rw[VP hs hk];have e:([10]:Bs)++r=10::r:=rfl;have hr:jh (10::r)= .ok (⟨0,[],0,[],false,0⟩,10::r):=by
   unfold jh;rw[aiL,av (by rw[jI];rfl)]
  have hm:jl (10::r)=10::r:=by unfold jl;rw[au ak]
  rw[e];unfold mJ;rw[hr];simp only[hm,tV]
  rfl
 .rename_i hk
  exact YB ((yN hs).resolve_left hk) r
theorem Nl (s:aH):0<(oJ s).length:=by
 unfold oJ
 split
 .decide
 .unfold jL;rw[bL];simp
theorem RY {s:aH}(hs:iX s=true)(pre r:Bs):bQ (pre++(oJ s++r)) (pre.length:Int)=(s,((pre++oJ s).length:Int),0):=by
 unfold bQ;have h:¬((pre.length:Int)<0\/((pre++(oJ s++r)).length:Int)<(pre.length:Int)):=by simp only[bL];omega
 rw[au h,jB,List.drop_left,VQ hs];have e:(pre++(oJ s++r)).length - r.length=(pre++oJ s).length:=by simp only[bL];omega
 simp only[e]
def yX:Nat->List aH->List (aH × Int)
 |_,[]=>[]
 |n,s::ls=>(s,(n:Int))::yX (n+(oJ s).length) ls
theorem K6:∀(ls:List aH)(pre:Bs)(n:Nat),(∀l∈ls,iX l=true)->ls.length<n->mP (pre++ls.flatMap oJ) n pre.length= .ok (yX pre.length ls)
 |[],pre,n,_,hn=>by
  obtain⟨m,rfl⟩:∃m,n=m+1:=⟨n - 1,by omega⟩;unfold mP;rw[au ak];rfl
 |s::ls,pre,n,hl,hn=>by
  obtain⟨m,rfl⟩:∃m,n=m+1:=⟨n - 1,by simp only[dO] at hn;omega⟩;have hs:=hl s fM;have ih:=K6 ls (pre++oJ s) m (λx hx=>hl x (eD _ hx)) (by simp only[dO] at hn;omega);rw[dD] at ih;unfold mP;rw[gY,RY hs,av (by have:=Nl s;simp only[bL];omega)];simp only[bY,jB];rw[ih];show Except.ok ((s,(pre.length:Int))::yX (pre++oJ s).length ls)=Except.ok ((s,(pre.length:Int))::yX (pre.length+(oJ s).length) ls);rw[bL]
theorem K7:∀(ls:List aH)(n:Nat),(yX n ls).map Prod.fst=ls
 |[],_=>rfl
 |s::ls,n=>by unfold yX;rw[eu,K7 ls]
theorem Nn (s:Bs)(hread:∀at_:Nat,at_<s.length->(bQ s at_).2.2=0->iX (bQ s at_).1=true):∀(n at_:Nat)(r:List (aH × Int)),mP s n at_= .ok r->∀x∈r,iX x.1=true
 |0,_,r,h=>by injection h with h;subst h;exact λx hx=>by cases hx
 |n+1,at_,r,h=>by
  unfold mP at h
  split at h
  .rename_i hat
   split at h
   .rename_i h0
    split at h
    .rename_i r' hr'
     injection h with h;subst h;intro x hx;rcases dU.1 hx with rfl|hx
     .exact hread at_ hat h0
     .exact Nn s hread n _ r' hr' x hx
    .cases h
   .cases h
  .injection h with h;subst h;exact λx hx=>by cases hx
end Yd
