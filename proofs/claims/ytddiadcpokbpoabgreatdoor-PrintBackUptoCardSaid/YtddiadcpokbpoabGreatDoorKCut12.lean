import Derived.Test.YtddiadcpokbpoabGreatDoorKPCntY
import Derived.Test.YtddiadcpokbpoabGreatDoorKLnR
set_option linter.all false
set_option maxRecDepth 200000
set_option maxHeartbeats 8000000
namespace Yd
open Go Go.RowKit Go.Proofs
theorem aaZ{p:Prop}(h:p:=by simp):p:=h
theorem tQ (c:Bool)(d:Nat):∀(f a:Nat)(ns:List Bs)(e:List To)(l:Bs){x:List Bs × List To}{r:Bs},bN c d f a ns e l= .ok (x,r)->x.1.length<=ns.length+f/\x.2.length<=e.length+f
 |0,a,ns,e,l,x,r,h=>by rw[bN] at h;injection h with h;injection h with h _;subst h;exact⟨aB _,aB _⟩
 |f+1,a,ns,e,l,x,r,h=>by
  rw[bN] at h
  cases g:dM l with
  |error y=>rw[g] at h;cases h
  |ok y=>
   obtain⟨b,i⟩:=y;rw[g] at h
   cases b
   .injection h with h;injection h with h _;subst h;exact⟨aaZ,aaZ⟩
   .simp only[] at h
    by_cases j:a=d/\dH i=true
    .rw[av j] at h;cases h
    .rw[au j] at h
     cases k:dF i with
     |error y=>rw[k] at h;cases h
     |ok y=>
      obtain⟨s,p⟩:=y;rw[k] at h;simp only[] at h;by_cases m:c=true
      .rw[av m] at h
       cases n:eD p with
       |error y=>rw[n] at h;cases h
       |ok q=>
        rw[n] at h;simp only[] at h
        cases o:gG q with
        |error y=>rw[o] at h;cases h
        |ok y=>
         obtain⟨v,t⟩:=y;rw[o] at h;have:=tQ c d f (a+1) _ _ _ h;simp only[bO,kG] at this;omega
      .rw[au m] at h
       have:=tQ c d f (a+1) _ _ _ h;simp only[bO,kG] at this;omega
theorem FC:∀(k:Nat)(a:List Bs)(l:Bs){ns:List Bs}{r:Bs},jk k a l= .ok (ns,r)->ns.length<=a.length+k
 |0,a,l,ns,r,h=>by rw[jk] at h;injection h with h;injection h with h _;subst h;exact aB _
 |k+1,a,l,ns,r,h=>by
  rw[jk] at h
  cases b:eD l with
  |error y=>rw[b] at h;cases h
  |ok d=>
   rw[b] at h;simp only[] at h
   cases c:dF d with
   |error y=>rw[c] at h;cases h
   |ok y=>
    obtain⟨e,f⟩:=y;rw[c] at h;have:=FC k _ _ h;simp only[bO,kG] at this;omega
theorem QT {k:Nat}{ns:List Bs}{l r:Bs}{n:aJ}(h:jE k ns l= .ok (n,r)):n.names.length<=ns.length+301/\n.aN.length<=301:=by
 unfold jE at h;by_cases i:k=1
 .rw[av i] at h
  cases c:eD l with
  |error y=>rw[c] at h;cases h
  |ok e=>
   rw[c] at h;simp only[] at h
   cases g:fo mF e with
   |error y=>rw[g] at h;cases h
   |ok y=>rw[g] at h;injection h with h;injection h with h _;subst h;exact⟨aaZ,aaZ⟩
 rw[au i] at h;by_cases j:k=3
 .rw[av j] at h
  cases c:eD l with
  |error y=>rw[c] at h;cases h
  |ok e=>
   rw[c] at h;simp only[] at h
   cases g:gG e with
   |error y=>rw[g] at h;cases h
   |ok y=>rw[g] at h;injection h with h;injection h with h _;subst h;exact⟨aaZ,aaZ⟩
 rw[au j] at h;by_cases m:k=9
 .rw[av m] at h
  cases c:iW 5 0 0 l with
  |error y=>rw[c] at h;cases h
  |ok y=>rw[c] at h;injection h with h;injection h with h _;subst h;exact⟨aaZ,aaZ⟩
 rw[au m] at h;by_cases o:k=8
 .rw[av o] at h
  cases c:jJ l with
  |error y=>rw[c] at h;cases h
  |ok y=>
   obtain⟨f,e⟩:=y;rw[c] at h;simp only[] at h
   cases d:bN false 300 301 0 ns [] e with
   |error y=>rw[d] at h;cases h
   |ok y=>
    obtain⟨⟨a,b⟩,p⟩:=y;have:=tQ _ _ _ _ _ _ _ d;rw[d] at h;injection h with h;injection h with h _;subst h;simpa using this
 rw[au o] at h;by_cases q:k=4
 .rw[av q] at h
  cases d:bN true 40 41 0 ns [] l with
  |error y=>rw[d] at h;cases h
  |ok y=>
   obtain⟨⟨a,b⟩,p⟩:=y;have:=tQ _ _ _ _ _ _ _ d;rw[d] at h;injection h with h;injection h with h _;subst h;simp only[gY] at this ⊢;omega
 rw[au q] at h;by_cases s:k=7
 .rw[av s] at h
  cases d:bN false 300 301 0 ns [] l with
  |error y=>rw[d] at h;cases h
  |ok y=>
   obtain⟨⟨a,b⟩,p⟩:=y;have:=tQ _ _ _ _ _ _ _ d;rw[d] at h;injection h with h;injection h with h _;subst h;simpa using this
 rw[au s] at h;injection h with h;injection h with h _;subst h;exact⟨aaZ,aaZ⟩
theorem QU (k:Nat):(bY k).toNat<=2:=by
 match k with
 |0=>decide
 |1=>decide
 |2=>decide
 |3=>decide
 |4=>decide
 |5=>decide
 |6=>decide
 |7=>decide
 |8=>decide
 |k+9=>exact(by decide:(1:Int).toNat<=2)
theorem Oo {l r:Bs}{n:aJ}(h:iX l= .ok (n,r)):n.names.length<=1000/\n.aN.length<=1000:=by
 unfold iX at h;by_cases d:dR (bL l)=true
 .rw[av d] at h;injection h with h;injection h with h _;subst h;exact⟨aaZ,aaZ⟩
 rw[au d] at h
 cases e:fo lM (bL l) with
 |error y=>rw[e] at h;cases h
 |ok y=>
  obtain⟨i,g⟩:=y;rw[e] at h;simp only[] at h
  cases a:jk (bY (i+1)).toNat [] g with
  |error y=>rw[a] at h;cases h
  |ok y=>
   obtain⟨j,k⟩:=y;rw[a] at h;simp only[] at h;have m:=FC _ _ _ a;have p:=QU (i+1);simp only[gY] at m
   cases c:jE (i+1) j k with
   |error y=>rw[c] at h;cases h
   |ok y=>
    obtain⟨s,o⟩:=y;rw[c] at h;have q:=QT c;simp only[] at h
    cases f:dM o with
    |error y=>rw[f] at h;cases h
    |ok y=>
     obtain⟨b,t⟩:=y;rw[f] at h
     cases b
     .injection h with h;injection h with h _;subst h;omega
     .cases h
theorem Lu (s:Bs)(p:Int):(dN s p).1.names.length<=1000/\(dN s p).1.aN.length<=1000:=by
 unfold dN;by_cases h:p<0\/(s.length:Int)<p
 .rw[av h];exact⟨aaZ,aaZ⟩
 rw[au h]
 cases a:oH (s.drop p.toNat) with
 |error y=>exact⟨aaZ,aaZ⟩
 |ok y=>
  obtain⟨n,r⟩:=y;show n.names.length<=1000/\n.aN.length<=1000;unfold oH at a
  cases b:iX (s.drop p.toNat) with
  |error y=>rw[b] at a;cases a
  |ok y=>
   obtain⟨c,d⟩:=y;have:=Oo b;rw[b] at a;simp only[] at a
   split at a
   .injection a with a;injection a with a _;subst a;exact this
   .split at a
    .injection a with a;injection a with a _;subst a;exact this
    .cases a
end Yd
