import Derived.Test.YtnhnhmeogckgpaaGreatDoorBk11
import Derived.Test.YtnhnhmeogckgpaaGreatDoorLnR
set_option linter.all false
set_option maxRecDepth 200000
set_option maxHeartbeats 8000000
namespace Yd
open List renaming length_singleton→c,length_append→g,length_nil→j
open Go Go.RowKit Go.Proofs
open _root_ renaming if_pos→d,if_neg→e
theorem uR (pairs:Bool) (most:Nat):∀(f many:Nat) (ns:List Bs) (vs:List To) (l:Bs) {x:List Bs × List To} {r:Bs},bJ pairs most f many ns vs l= .ok (x,r)→x.1.length≤ns.length+f∧x.2.length≤vs.length+f
 |0,many,ns,vs,l,x,r,h=>by rw[bJ] at h;injection h with h;injection h with h _;subst h;exact⟨Nat.le_refl _,Nat.le_refl _⟩
 |f+1,many,ns,vs,l,x,r,h=>by
  rw[bJ] at h
  cases hm:cO l with
  |error y=>rw[hm] at h;cases h
  |ok y=>
   obtain⟨b,r0⟩:=y;rw[hm] at h
   cases b
   ·injection h with h;injection h with h _;subst h;exact⟨by simp,by simp⟩
   ·simp only[] at h
    by_cases hb:many=most∧dJ r0=true
    ·rw[d hb] at h;cases h
    ·rw[e hb] at h
     cases hn:cu r0 with
     |error y=>rw[hn] at h;cases h
     |ok y=>
      obtain⟨nm,r1⟩:=y;rw[hn] at h;simp only[] at h;by_cases hp:pairs=true
      ·rw[d hp] at h
       cases hu:dQ r1 with
       |error y=>rw[hu] at h;cases h
       |ok r2=>
        rw[hu] at h;simp only[] at h
        cases hv:fq r2 with
        |error y=>rw[hv] at h;cases h
        |ok y=>
         obtain⟨v,r3⟩:=y;rw[hv] at h;have:=uR pairs most f (many+1) _ _ _ h;simp only[g,c] at this;omega
      ·rw[e hp] at h
       have:=uR pairs most f (many+1) _ _ _ h;simp only[g,c] at this;omega
theorem Hl:∀(k:Nat) (acc:List Bs) (l:Bs) {ns:List Bs} {r:Bs},jg k acc l= .ok (ns,r)→ns.length≤acc.length+k
 |0,acc,l,ns,r,h=>by rw[jg] at h;injection h with h;injection h with h _;subst h;exact Nat.le_refl _
 |k+1,acc,l,ns,r,h=>by
  rw[jg] at h
  cases hm:dQ l with
  |error y=>rw[hm] at h;cases h
  |ok r0=>
   rw[hm] at h;simp only[] at h
   cases hn:cu r0 with
   |error y=>rw[hn] at h;cases h
   |ok y=>
    obtain⟨nm,r1⟩:=y;rw[hn] at h;have:=Hl k _ _ h;simp only[g,c] at this;omega
theorem UL {k:Nat} {ns:List Bs} {l r:Bs} {n:aB} (h:rD k ns l= .ok (n,r)):n.names.length≤ns.length+301∧n.aF.length≤301:=by
 unfold rD at h;by_cases h1:k=1
 ·rw[d h1] at h
  cases hm:dQ l with
  |error y=>rw[hm] at h;cases h
  |ok r0=>
   rw[hm] at h;simp only[] at h
   cases hn:dH mF r0 with
   |error y=>rw[hn] at h;cases h
   |ok y=>rw[hn] at h;injection h with h;injection h with h _;subst h;exact⟨by simp,by simp⟩
 rw[e h1] at h;by_cases h3:k=3
 ·rw[d h3] at h
  cases hm:dQ l with
  |error y=>rw[hm] at h;cases h
  |ok r0=>
   rw[hm] at h;simp only[] at h
   cases hn:fq r0 with
   |error y=>rw[hn] at h;cases h
   |ok y=>rw[hn] at h;injection h with h;injection h with h _;subst h;exact⟨by simp,by simp⟩
 rw[e h3] at h;by_cases h9:k=9
 ·rw[d h9] at h
  cases hm:iV 5 0 0 l with
  |error y=>rw[hm] at h;cases h
  |ok y=>rw[hm] at h;injection h with h;injection h with h _;subst h;exact⟨by simp,by simp⟩
 rw[e h9] at h;by_cases h8:k=8
 ·rw[d h8] at h
  cases hm:jF l with
  |error y=>rw[hm] at h;cases h
  |ok y=>
   obtain⟨f,r0⟩:=y;rw[hm] at h;simp only[] at h
   cases ho:bJ false 300 301 0 ns [] r0 with
   |error y=>rw[ho] at h;cases h
   |ok y=>
    obtain⟨⟨a,b⟩,r1⟩:=y;have:=uR _ _ _ _ _ _ _ ho;rw[ho] at h;injection h with h;injection h with h _;subst h;simpa using this
 rw[e h8] at h;by_cases h4:k=4
 ·rw[d h4] at h
  cases ho:bJ true 40 41 0 ns [] l with
  |error y=>rw[ho] at h;cases h
  |ok y=>
   obtain⟨⟨a,b⟩,r1⟩:=y;have:=uR _ _ _ _ _ _ _ ho;rw[ho] at h;injection h with h;injection h with h _;subst h;simp only[j] at this ⊢;omega
 rw[e h4] at h;by_cases h7:k=7
 ·rw[d h7] at h
  cases ho:bJ false 300 301 0 ns [] l with
  |error y=>rw[ho] at h;cases h
  |ok y=>
   obtain⟨⟨a,b⟩,r1⟩:=y;have:=uR _ _ _ _ _ _ _ ho;rw[ho] at h;injection h with h;injection h with h _;subst h;simpa using this
 rw[e h7] at h;injection h with h;injection h with h _;subst h;exact⟨by simp,by simp⟩
theorem UM (k:Nat):(bX k).toNat≤2:=by
 match k with
 |0=>decide
 |1=>decide
 |2=>decide
 |3=>decide
 |4=>decide
 |5=>decide
 |6=>decide
 |7=>decide
 |8=>decide
 |k+9=>exact(by decide:(1:Int).toNat≤2)
theorem Rk {l r:Bs} {n:aB} (h:jk l= .ok (n,r)):n.names.length≤1000∧n.aF.length≤1000:=by
 unfold jk at h;by_cases he:gY (bL l)=true
 ·rw[d he] at h;injection h with h;injection h with h _;subst h;exact⟨by simp,by simp⟩
 rw[e he] at h
 cases hw:dH lG (bL l) with
 |error y=>rw[hw] at h;cases h
 |ok y=>
  obtain⟨i,r0⟩:=y;rw[hw] at h;simp only[] at h
  cases hn:jg (bX (i+1)).toNat [] r0 with
  |error y=>rw[hn] at h;cases h
  |ok y=>
   obtain⟨ns,r1⟩:=y;rw[hn] at h;simp only[] at h;have h1:=Hl _ _ _ hn;have h2:=UM (i+1);simp only[j] at h1
   cases ht:rD (i+1) ns r1 with
   |error y=>rw[ht] at h;cases h
   |ok y=>
    obtain⟨s,r2⟩:=y;rw[ht] at h;have h3:=UL ht;simp only[] at h
    cases hm:cO r2 with
    |error y=>rw[hm] at h;cases h
    |ok y=>
     obtain⟨b,r3⟩:=y;rw[hm] at h
     cases b
     ·injection h with h;injection h with h _;subst h;omega
     ·cases h
theorem OY (s:Bs) (p:Int):(bZ s p).1.names.length≤1000∧(bZ s p).1.aF.length≤1000:=by
 unfold bZ;by_cases h:p<0∨(s.length:Int)<p
 ·rw[d h];exact⟨by simp,by simp⟩
 rw[e h]
 cases hl:rE (s.drop p.toNat) with
 |error y=>exact⟨by simp,by simp⟩
 |ok y=>
  obtain⟨n,r⟩:=y;show n.names.length≤1000∧n.aF.length≤1000;unfold rE at hl
  cases hr:jk (s.drop p.toNat) with
  |error y=>rw[hr] at hl;cases hl
  |ok y=>
   obtain⟨n',r'⟩:=y;have:=Rk hr;rw[hr] at hl;simp only[] at hl
   split at hl
   ·injection hl with hl;injection hl with hl _;subst hl;exact this
   ·split at hl
    ·injection hl with hl;injection hl with hl _;subst hl;exact this
    ·cases hl
end Yd
