import Derived.Test.YtpeojoobplpcoaaGreatDoorPBk11
import Derived.Test.YtpeojoobplpcoaaGreatDoorPLnR
set_option linter.all false
set_option maxRecDepth 200000
set_option maxHeartbeats 8000000
namespace Yd
open Go Go.RowKit Go.Proofs
theorem yw (pairs:Bool)(most:Nat):∀(f many:Nat)(ns:List Bs)(vs:List To)(l:Bs){x:List Bs × List To}{r:Bs},bK pairs most f many ns vs l= .ok (x,r)->x.1.length<=ns.length+f/\x.2.length<=vs.length+f
 |0,many,ns,vs,l,x,r,h=>by rw[bK] at h;injection h with h;injection h with h _;subst h;exact⟨aB _,aB _⟩
 |f+1,many,ns,vs,l,x,r,h=>by
  rw[bK] at h
  cases hm:dN l with
  |error y=>rw[hm] at h;cases h
  |ok y=>
   obtain⟨b,r0⟩:=y;rw[hm] at h
   cases b
   .injection h with h;injection h with h _;subst h;exact⟨by simp,by simp⟩
   .simp only[] at h
    by_cases hb:many=most/\dJ r0=true
    .rw[av hb] at h;cases h
    .rw[au hb] at h
     cases hn:dF r0 with
     |error y=>rw[hn] at h;cases h
     |ok y=>
      obtain⟨nm,r1⟩:=y;rw[hn] at h;simp only[] at h;by_cases hp:pairs=true
      .rw[av hp] at h
       cases hu:d9 r1 with
       |error y=>rw[hu] at h;cases h
       |ok r2=>
        rw[hu] at h;simp only[] at h
        cases hv:gM r2 with
        |error y=>rw[hv] at h;cases h
        |ok y=>
         obtain⟨v,r3⟩:=y;rw[hv] at h;have:=yw pairs most f (many+1) _ _ _ h;simp only[bL,kN] at this;omega
      .rw[au hp] at h
       have:=yw pairs most f (many+1) _ _ _ h;simp only[bL,kN] at this;omega
theorem Nf:∀(k:Nat)(acc:List Bs)(l:Bs){ns:List Bs}{r:Bs},jH k acc l= .ok (ns,r)->ns.length<=acc.length+k
 |0,acc,l,ns,r,h=>by rw[jH] at h;injection h with h;injection h with h _;subst h;exact aB _
 |k+1,acc,l,ns,r,h=>by
  rw[jH] at h
  cases hm:d9 l with
  |error y=>rw[hm] at h;cases h
  |ok r0=>
   rw[hm] at h;simp only[] at h
   cases hn:dF r0 with
   |error y=>rw[hn] at h;cases h
   |ok y=>
    obtain⟨nm,r1⟩:=y;rw[hn] at h;have:=Nf k _ _ h;simp only[bL,kN] at this;omega
theorem abF {k:Nat}{ns:List Bs}{l r:Bs}{n:aH}(h:jZ k ns l= .ok (n,r)):n.names.length<=ns.length+301/\n.aG.length<=301:=by
 unfold jZ at h;by_cases h1:k=1
 .rw[av h1] at h
  cases hm:d9 l with
  |error y=>rw[hm] at h;cases h
  |ok r0=>
   rw[hm] at h;simp only[] at h
   cases hn:eY og r0 with
   |error y=>rw[hn] at h;cases h
   |ok y=>rw[hn] at h;injection h with h;injection h with h _;subst h;exact⟨by simp,by simp⟩
 rw[au h1] at h;by_cases h3:k=3
 .rw[av h3] at h
  cases hm:d9 l with
  |error y=>rw[hm] at h;cases h
  |ok r0=>
   rw[hm] at h;simp only[] at h
   cases hn:gM r0 with
   |error y=>rw[hn] at h;cases h
   |ok y=>rw[hn] at h;injection h with h;injection h with h _;subst h;exact⟨by simp,by simp⟩
 rw[au h3] at h;by_cases h9:k=9
 .rw[av h9] at h
  cases hm:jo 5 0 0 l with
  |error y=>rw[hm] at h;cases h
  |ok y=>rw[hm] at h;injection h with h;injection h with h _;subst h;exact⟨by simp,by simp⟩
 rw[au h9] at h;by_cases h8:k=8
 .rw[av h8] at h
  cases hm:j4 l with
  |error y=>rw[hm] at h;cases h
  |ok y=>
   obtain⟨f,r0⟩:=y;rw[hm] at h;simp only[] at h
   cases ho:bK false 300 301 0 ns [] r0 with
   |error y=>rw[ho] at h;cases h
   |ok y=>
    obtain⟨⟨a,b⟩,r1⟩:=y;have:=yw _ _ _ _ _ _ _ ho;rw[ho] at h;injection h with h;injection h with h _;subst h;simpa using this
 rw[au h8] at h;by_cases h4:k=4
 .rw[av h4] at h
  cases ho:bK true 40 41 0 ns [] l with
  |error y=>rw[ho] at h;cases h
  |ok y=>
   obtain⟨⟨a,b⟩,r1⟩:=y;have:=yw _ _ _ _ _ _ _ ho;rw[ho] at h;injection h with h;injection h with h _;subst h;simp only[iy] at this ⊢;omega
 rw[au h4] at h;by_cases h7:k=7
 .rw[av h7] at h
  cases ho:bK false 300 301 0 ns [] l with
  |error y=>rw[ho] at h;cases h
  |ok y=>
   obtain⟨⟨a,b⟩,r1⟩:=y;have:=yw _ _ _ _ _ _ _ ho;rw[ho] at h;injection h with h;injection h with h _;subst h;simpa using this
 rw[au h7] at h;injection h with h;injection h with h _;subst h;exact⟨by simp,by simp⟩
theorem abG (k:Nat):(bS k).toNat<=2:=by
 match k with
 |0=>decide
 |1=>decide
 |2=>decide
 |3=>decide
 |4=>decide
 |5=>decide
 |6=>decide
 |7=>decide
 |8=>decide
 |k+9=>exact(by decide:(1:Int).toNat<=2)
theorem YJ {l r:Bs}{n:aH}(h:jh l= .ok (n,r)):n.names.length<=1000/\n.aG.length<=1000:=by
 unfold jh at h;by_cases he:dS (bI l)=true
 .rw[av he] at h;injection h with h;injection h with h _;subst h;exact⟨by simp,by simp⟩
 rw[au he] at h
 cases hw:eY nu (bI l) with
 |error y=>rw[hw] at h;cases h
 |ok y=>
  obtain⟨i,r0⟩:=y;rw[hw] at h;simp only[] at h
  cases hn:jH (bS (i+1)).toNat [] r0 with
  |error y=>rw[hn] at h;cases h
  |ok y=>
   obtain⟨ns,r1⟩:=y;rw[hn] at h;simp only[] at h;have h1:=Nf _ _ _ hn;have h2:=abG (i+1);simp only[iy] at h1
   cases ht:jZ (i+1) ns r1 with
   |error y=>rw[ht] at h;cases h
   |ok y=>
    obtain⟨s,r2⟩:=y;rw[ht] at h;have h3:=abF ht;simp only[] at h
    cases hm:dN r2 with
    |error y=>rw[hm] at h;cases h
    |ok y=>
     obtain⟨b,r3⟩:=y;rw[hm] at h
     cases b
     .injection h with h;injection h with h _;subst h;omega
     .cases h
theorem VJ (s:Bs)(p:Int):(bQ s p).1.names.length<=1000/\(bQ s p).1.aG.length<=1000:=by
 unfold bQ;by_cases h:p<0\/(s.length:Int)<p
 .rw[av h];exact⟨by simp,by simp⟩
 rw[au h]
 cases hl:mJ (s.drop p.toNat) with
 |error y=>exact⟨by simp,by simp⟩
 |ok y=>
  obtain⟨n,r⟩:=y;show n.names.length<=1000/\n.aG.length<=1000;unfold mJ at hl
  cases hr:jh (s.drop p.toNat) with
  |error y=>rw[hr] at hl;cases hl
  |ok y=>
   obtain⟨n',r'⟩:=y;have:=YJ hr;rw[hr] at hl;simp only[] at hl
   split at hl
   .injection hl with hl;injection hl with hl _;subst hl;exact this
   .split at hl
    .injection hl with hl;injection hl with hl _;subst hl;exact this
    .cases hl
end Yd
