import Derived.Test.YtddiadcpokbpoabGreatDoorKPCntY
import Derived.Test.YtddiadcpokbpoabGreatDoorKLnR
import Derived.Test.YtddiadcpokbpoabGreatDoorKSaC
set_option linter.all false
set_option maxRecDepth 200000
set_option maxHeartbeats 8000000
namespace Yd
open Go Go.RowKit Go.Proofs
variable{s:aJ}
theorem Nq (h:jP s=true)(a:s.kind=0):s=uH:=by
 obtain⟨u,b,c,d,first,e⟩:=s;simp only at a;subst a;unfold jP vv at h;simp only[aM,aV] at h;obtain⟨_,⟨⟨⟨⟨⟨v,f⟩,g⟩,_⟩,_⟩,⟨i,j⟩,k⟩,_⟩:=h;have l:b=[]:=BS.1 (by
  have:((b.length:Int) - 0<=0):=f;omega)
 subst l;have m:d=[]:=BS.1 (by
  have:((d.length:Int)=0):=g;omega)
 subst m;have n:c=0:=by
  have o:(false==(c !=0))=true:=i
  simpa using o
 have p:first=false:=by
  have q:(!first||false)=true:=j
  simpa using q
 have r:e=0:=by
  have t:(e==0||(false && _))=true:=k
  simpa using t
 subst n p r
 rfl
def Bad {α:Type}(x:Except Er α):Prop:=∀r m,x= .error (r,m)->m≠0
theorem wY (l:Bs):Bad (dM l):=λr m h=>by
 unfold dM at h
 split at h
 .cases h
 .split at h
  .injection h with h;injection h with _ h;subst h;decide
  .cases h
theorem zX (l:Bs):Bad (eD l):=λr m h=>by
 unfold eD at h
 cases a:dM l with
 |error x=>obtain⟨c,d⟩:=x;rw[a] at h;injection h with h;injection h with _ h;subst h;exact wY l _ _ a
 |ok y=>
  obtain⟨b,c⟩:=y;rw[a] at h
  cases b
  .injection h with h;injection h with _ h;subst h;decide
  .cases h
theorem Dp (l:Bs):Bad (dF l):=λr m h=>by
 unfold dF at h
 split at h
 .injection h with h;injection h with _ h;subst h;decide
 .split at h
  .injection h with h;injection h with _ h;subst h;decide
  .cases h
theorem Dq (a:List Bs)(l:Bs):Bad (fo a l):=λr m h=>by
 unfold fo at h
 split at h
 .cases h
 .injection h with h;injection h with _ h;subst h;decide
theorem JA (l:Bs):Bad (gG l):=λr m h=>by
 unfold gG at h
 split at h
 .cases h
 .cases a:dF l with
  |error x=>obtain⟨b,c⟩:=x;rw[a] at h;injection h with h;injection h with _ h;subst h;exact Dp l _ _ a
  |ok y=>
   obtain⟨d,e⟩:=y;rw[a] at h;simp only[] at h
   split at h
   .unfold sH at h
    simp only[] at h
    split at h
    .injection h with h;injection h with _ h;subst h;decide
    .split at h
     .injection h with h;injection h with _ h;subst h;decide
     .cases h
   .injection h with h;injection h with _ h;subst h;decide
theorem Gi:∀(k:Nat)(a:List Bs)(l:Bs),Bad (jk k a l)
 |0,a,l=>λr m h=>by rw[jk] at h;cases h
 |k+1,a,l=>λr m h=>by
  rw[jk] at h
  cases b:eD l with
  |error x=>obtain⟨d,e⟩:=x;rw[b] at h;injection h with h;injection h with _ h;subst h;exact zX l _ _ b
  |ok f=>
   rw[b] at h;simp only[] at h
   cases c:dF f with
   |error x=>obtain⟨d,e⟩:=x;rw[c] at h;injection h with h;injection h with _ h;subst h;exact Dp _ _ _ c
   |ok y=>obtain⟨g,i⟩:=y;rw[c] at h;exact Gi k _ _ _ _ h
theorem ug (a:Bool)(b:Nat):∀(f c:Nat)(ns:List Bs)(d:List To)(l:Bs),Bad (bN a b f c ns d l)
 |0,c,ns,d,l=>λr m h=>by rw[bN] at h;cases h
 |f+1,c,ns,d,l=>λr m h=>by
  rw[bN] at h
  cases e:dM l with
  |error x=>obtain⟨g,i⟩:=x;rw[e] at h;injection h with h;injection h with _ h;subst h;exact wY l _ _ e
  |ok y=>
   obtain⟨s,o⟩:=y;rw[e] at h
   cases s
   .cases h
   .simp only[] at h
    by_cases p:c=b/\dH o=true
    .rw[av p] at h;injection h with h;injection h with _ h;subst h;decide
    .rw[au p] at h
     cases j:dF o with
     |error x=>obtain⟨g,i⟩:=x;rw[j] at h;injection h with h;injection h with _ h;subst h;exact Dp _ _ _ j
     |ok y=>
      obtain⟨w,t⟩:=y;rw[j] at h;simp only[] at h;by_cases q:a=true
      .rw[av q] at h
       cases k:eD t with
       |error x=>obtain⟨g,i⟩:=x;rw[k] at h;injection h with h;injection h with _ h;subst h;exact zX _ _ _ k
       |ok u=>
        rw[k] at h;simp only[] at h
        cases n:gG u with
        |error x=>obtain⟨g,i⟩:=x;rw[n] at h;injection h with h;injection h with _ h;subst h;exact JA _ _ _ n
        |ok y=>obtain⟨v,z⟩:=y;rw[n] at h;exact ug a b f _ _ _ _ _ _ h
      .rw[au q] at h
       exact ug a b f _ _ _ _ _ _ h
theorem JB:∀(f k:Nat)(b:Int)(l:Bs),Bad (iW f k b l)
 |0,k,b,l=>λr m h=>by rw[iW] at h;cases h
 |f+1,k,b,l=>λr m h=>by
  rw[iW] at h
  cases a:dM l with
  |error x=>obtain⟨d,e⟩:=x;rw[a] at h;injection h with h;injection h with _ h;subst h;exact wY l _ _ a
  |ok y=>
   obtain⟨g,j⟩:=y;rw[a] at h
   cases g
   .cases h
   .simp only[] at h
    cases c:fo (jR.drop k) j with
    |error x=>obtain⟨d,e⟩:=x;rw[c] at h;injection h with h;injection h with _ h;subst h;exact Dq _ _ _ _ c
    |ok y=>obtain⟨i,n⟩:=y;rw[c] at h;exact JB f _ _ _ _ _ h
theorem Qg (l:Bs):Bad (jJ l):=λr m h=>by
 unfold jJ at h
 cases a:dM l with
 |error x=>obtain⟨c,d⟩:=x;rw[a] at h;injection h with h;injection h with _ h;subst h;exact wY l _ _ a
 |ok y=>
  obtain⟨b,e⟩:=y;rw[a] at h
  cases b
  .cases h
  .simp only[] at h
   split at h <;> cases h
theorem SH (k:Nat)(ns:List Bs)(l:Bs):Bad (jE k ns l):=λr m h=>by
 unfold jE at h;by_cases i:k=1
 .rw[av i] at h
  cases a:eD l with
  |error x=>obtain⟨c,d⟩:=x;rw[a] at h;injection h with h;injection h with _ h;subst h;exact zX _ _ _ a
  |ok g=>
   rw[a] at h;simp only[] at h
   cases e:fo mF g with
   |error x=>obtain⟨c,d⟩:=x;rw[e] at h;injection h with h;injection h with _ h;subst h;exact Dq _ _ _ _ e
   |ok y=>rw[e] at h;cases h
 rw[au i] at h;by_cases j:k=3
 .rw[av j] at h
  cases a:eD l with
  |error x=>obtain⟨c,d⟩:=x;rw[a] at h;injection h with h;injection h with _ h;subst h;exact zX _ _ _ a
  |ok g=>
   rw[a] at h;simp only[] at h
   cases e:gG g with
   |error x=>obtain⟨c,d⟩:=x;rw[e] at h;injection h with h;injection h with _ h;subst h;exact JA _ _ _ e
   |ok y=>rw[e] at h;cases h
 rw[au j] at h;by_cases n:k=9
 .rw[av n] at h
  cases a:iW 5 0 0 l with
  |error x=>obtain⟨c,d⟩:=x;rw[a] at h;injection h with h;injection h with _ h;subst h;exact JB _ _ _ _ _ _ a
  |ok y=>rw[a] at h;cases h
 rw[au n] at h;by_cases o:k=8
 .rw[av o] at h
  cases a:jJ l with
  |error x=>obtain⟨c,d⟩:=x;rw[a] at h;injection h with h;injection h with _ h;subst h;exact Qg _ _ _ a
  |ok y=>
   obtain⟨f,g⟩:=y;rw[a] at h;simp only[] at h
   cases b:bN false 300 301 0 ns [] g with
   |error x=>obtain⟨c,d⟩:=x;rw[b] at h;injection h with h;injection h with _ h;subst h;exact ug _ _ _ _ _ _ _ _ _ b
   |ok y=>rw[b] at h;cases h
 rw[au o] at h;by_cases p:k=4
 .rw[av p] at h
  cases b:bN true 40 41 0 ns [] l with
  |error x=>obtain⟨c,d⟩:=x;rw[b] at h;injection h with h;injection h with _ h;subst h;exact ug _ _ _ _ _ _ _ _ _ b
  |ok y=>rw[b] at h;cases h
 rw[au p] at h;by_cases q:k=7
 .rw[av q] at h
  cases b:bN false 300 301 0 ns [] l with
  |error x=>obtain⟨c,d⟩:=x;rw[b] at h;injection h with h;injection h with _ h;subst h;exact ug _ _ _ _ _ _ _ _ _ b
  |ok y=>rw[b] at h;cases h
 rw[au q] at h
 cases h
theorem SI (l:Bs):Bad (iX l):=λr m h=>by
 unfold iX at h;by_cases j:dR (bL l)=true
 .rw[av j] at h;cases h
 rw[au j] at h
 cases a:fo lM (bL l) with
 |error x=>obtain⟨c,d⟩:=x;rw[a] at h;injection h with h;injection h with _ h;subst h;exact Dq _ _ _ _ a
 |ok y=>
  obtain⟨i,k⟩:=y;rw[a] at h;simp only[] at h
  cases e:jk (bY (i+1)).toNat [] k with
  |error x=>obtain⟨c,d⟩:=x;rw[e] at h;injection h with h;injection h with _ h;subst h;exact Gi _ _ _ _ _ e
  |ok y=>
   obtain⟨n,o⟩:=y;rw[e] at h;simp only[] at h
   cases f:jE (i+1) n o with
   |error x=>obtain⟨c,d⟩:=x;rw[f] at h;injection h with h;injection h with _ h;subst h;exact SH _ _ _ _ _ f
   |ok y=>
    obtain⟨s,p⟩:=y;rw[f] at h;simp only[] at h
    cases g:dM p with
    |error x=>obtain⟨c,d⟩:=x;rw[g] at h;injection h with h;injection h with _ h;subst h;exact wY _ _ _ g
    |ok y=>
     obtain⟨b,q⟩:=y;rw[g] at h
     cases b
     .cases h
     .injection h with h;injection h with _ h;subst h;decide
theorem Qj (l:Bs):Bad (oH l):=λr m h=>by
 unfold oH at h
 cases a:iX l with
 |error x=>obtain⟨b,c⟩:=x;rw[a] at h;injection h with h;injection h with _ h;subst h;exact SI _ _ _ a
 |ok y=>
  obtain⟨s,d⟩:=y;rw[a] at h;simp only[] at h
  split at h
  .cases h
  .split at h
   .cases h
   .injection h with h;injection h with _ h;subst h;decide
def qc (s:Bs):Nat->Nat->Except (Int × Int) (List (aJ × Int))
 |0,_=> .ok []
 |n+1,a=>
  if a<s.length then
   (if(dN s a).2.2=0 then
    (match qc s n (dN s a).2.1.toNat with
     | .ok r=> .ok (((dN s a).1,(a:Int))::r)
     | .error x=> .error x)
   else .error ((dN s a).2.1,(dN s a).2.2))
  else .ok []
theorem X7 (r:Bs):bL (10::r)=10::r:=by unfold bL;rw[zA];rfl
theorem Nr (b:jP s=true)(r:Bs):oH (mM s++r)= .ok (s,r):=by
 unfold mM
 split
 .rename_i a
  rw[Nq b a];have e:([10]:Bs)++r=10::r:=rfl;have c:iX (10::r)= .ok (⟨0,[],0,[],false,0⟩,10::r):=by
   unfold iX;rw[X7,av (by rw[jg];rfl)]
  have d:jF (10::r)=10::r:=by unfold jF;rw[au ak]
  rw[e];unfold oH;rw[c];simp only[d,qG]
  rfl
 .rename_i a
  exact P5 ((wO b).resolve_left a) r
theorem Fe (s:aJ):0<(mM s).length:=by
 unfold mM
 split
 .decide
 .unfold lC;rw[bO];simp
theorem Ka (b:jP s=true)(a r:Bs):dN (a++(mM s++r)) (a.length:Int)=(s,((a++mM s).length:Int),0):=by
 unfold dN;have h:¬((a.length:Int)<0\/((a++(mM s++r)).length:Int)<(a.length:Int)):=by simp only[bO];omega
 rw[au h,jL,List.drop_left,Nr b];have e:(a++(mM s++r)).length - r.length=(a++mM s).length:=by simp only[bO];omega
 simp only[e]
def uo:Nat->List aJ->List (aJ × Int)
 |_,[]=>[]
 |n,s::a=>(s,(n:Int))::uo (n+(mM s).length) a
theorem Dz:∀(ls:List aJ)(a:Bs)(n:Nat),(∀l∈ls,jP l=true)->ls.length<n->qc (a++ls.flatMap mM) n a.length= .ok (uo a.length ls)
 |[],a,n,_,b=>by
  obtain⟨m,rfl⟩:∃m,n=m+1:=⟨n - 1,by omega⟩;unfold qc;rw[au ak];rfl
 |s::ls,a,n,c,b=>by
  obtain⟨m,rfl⟩:∃m,n=m+1:=⟨n - 1,by simp only[dK] at b;omega⟩;have e:=c s fQ;have d:=Dz ls (a++mM s) m (λx f=>c x (d9 _ f)) (by simp only[dK] at b;omega);rw[dw] at d;unfold qc;rw[gZ,Ka e,av (by have:=Fe s;simp only[bO];omega)];simp only[bR,jL];rw[d];show Except.ok ((s,(a.length:Int))::uo (a++mM s).length ls)=Except.ok ((s,(a.length:Int))::uo (a.length+(mM s).length) ls);rw[bO]
theorem DC:∀(ls:List aJ)(n:Nat),(uo n ls).map Prod.fst=ls
 |[],_=>rfl
 |s::ls,n=>by unfold uo;rw[dX,DC ls]
end Yd
