import Derived.Test.YtnhnhmeogckgpaaGreatDoorBk11
import Derived.Test.YtnhnhmeogckgpaaGreatDoorLnR
import Derived.Test.YtnhnhmeogckgpaaGreatDoorF14
set_option linter.all false
set_option maxRecDepth 200000
set_option maxHeartbeats 8000000
namespace Yd
open Go Go.RowKit Go.Proofs
theorem abX:j4 vZ=true:=by decide
def Bad {α:Type} (x:Except Er α):Prop:=∀r m,x= .error (r,m)→m≠0
theorem yQ (l:Bs):Bad (cO l):=fun r m h=>by
 unfold cO at h
 split at h
 ·cases h
 ·split at h
  ·injection h with h;injection h with _ h;subst h;decide
  ·cases h
theorem Bn (l:Bs):Bad (dQ l):=fun r m h=>by
 unfold dQ at h
 cases hm:cO l with
 |error x=>obtain⟨r',m'⟩:=x;rw[hm] at h;injection h with h;injection h with _ h;subst h;exact yQ l _ _ hm
 |ok y=>
  obtain⟨b,r'⟩:=y;rw[hm] at h
  cases b
  ·injection h with h;injection h with _ h;subst h;decide
  ·cases h
theorem EQ (l:Bs):Bad (cu l):=fun r m h=>by
 unfold cu at h
 split at h
 ·injection h with h;injection h with _ h;subst h;decide
 ·split at h
  ·injection h with h;injection h with _ h;subst h;decide
  ·cases h
theorem ER (ws:List Bs) (l:Bs):Bad (dH ws l):=fun r m h=>by
 unfold dH at h
 split at h
 ·cases h
 ·injection h with h;injection h with _ h;subst h;decide
theorem LU (l:Bs):Bad (fq l):=fun r m h=>by
 unfold fq at h
 split at h
 ·cases h
 ·cases hn:cu l with
  |error x=>obtain⟨r',m'⟩:=x;rw[hn] at h;injection h with h;injection h with _ h;subst h;exact EQ l _ _ hn
  |ok y=>
   obtain⟨nm,r1⟩:=y;rw[hn] at h;simp only[] at h
   split at h
   ·unfold uS at h
    simp only[] at h
    split at h
    ·injection h with h;injection h with _ h;subst h;decide
    ·split at h
     ·injection h with h;injection h with _ h;subst h;decide
     ·cases h
   ·injection h with h;injection h with _ h;subst h;decide
theorem IQ:∀(k:Nat) (acc:List Bs) (l:Bs),Bad (jg k acc l)
 |0,acc,l=>fun r m h=>by rw[jg] at h;cases h
 |k+1,acc,l=>fun r m h=>by
  rw[jg] at h
  cases hm:dQ l with
  |error x=>obtain⟨r',m'⟩:=x;rw[hm] at h;injection h with h;injection h with _ h;subst h;exact Bn l _ _ hm
  |ok r0=>
   rw[hm] at h;simp only[] at h
   cases hn:cu r0 with
   |error x=>obtain⟨r',m'⟩:=x;rw[hn] at h;injection h with h;injection h with _ h;subst h;exact EQ _ _ _ hn
   |ok y=>obtain⟨nm,r1⟩:=y;rw[hn] at h;exact IQ k _ _ _ _ h
theorem vD (pairs:Bool) (most:Nat):∀(f many:Nat) (ns:List Bs) (vs:List To) (l:Bs),Bad (bJ pairs most f many ns vs l)
 |0,many,ns,vs,l=>fun r m h=>by rw[bJ] at h;cases h
 |f+1,many,ns,vs,l=>fun r m h=>by
  rw[bJ] at h
  cases hmo:cO l with
  |error x=>obtain⟨r',m'⟩:=x;rw[hmo] at h;injection h with h;injection h with _ h;subst h;exact yQ l _ _ hmo
  |ok y=>
   obtain⟨bo,r0⟩:=y;rw[hmo] at h
   cases bo
   ·cases h
   ·simp only[] at h
    by_cases hb:many=most∧dJ r0=true
    ·rw[if_pos hb] at h;injection h with h;injection h with _ h;subst h;decide
    ·rw[if_neg hb] at h
     cases hn:cu r0 with
     |error x=>obtain⟨r',m'⟩:=x;rw[hn] at h;injection h with h;injection h with _ h;subst h;exact EQ _ _ _ hn
     |ok y=>
      obtain⟨nm,r1⟩:=y;rw[hn] at h;simp only[] at h;by_cases hp:pairs=true
      ·rw[if_pos hp] at h
       cases hu:dQ r1 with
       |error x=>obtain⟨r',m'⟩:=x;rw[hu] at h;injection h with h;injection h with _ h;subst h;exact Bn _ _ _ hu
       |ok r2=>
        rw[hu] at h;simp only[] at h
        cases hv:fq r2 with
        |error x=>obtain⟨r',m'⟩:=x;rw[hv] at h;injection h with h;injection h with _ h;subst h;exact LU _ _ _ hv
        |ok y=>obtain⟨v,r3⟩:=y;rw[hv] at h;exact vD pairs most f _ _ _ _ _ _ h
      ·rw[if_neg hp] at h
       exact vD pairs most f _ _ _ _ _ _ h
theorem LV:∀(f k:Nat) (b:Int) (l:Bs),Bad (iV f k b l)
 |0,k,b,l=>fun r m h=>by rw[iV] at h;cases h
 |f+1,k,b,l=>fun r m h=>by
  rw[iV] at h
  cases hmo:cO l with
  |error x=>obtain⟨r',m'⟩:=x;rw[hmo] at h;injection h with h;injection h with _ h;subst h;exact yQ l _ _ hmo
  |ok y=>
   obtain⟨bo,r0⟩:=y;rw[hmo] at h
   cases bo
   ·cases h
   ·simp only[] at h
    cases hw:dH (jG.drop k) r0 with
    |error x=>obtain⟨r',m'⟩:=x;rw[hw] at h;injection h with h;injection h with _ h;subst h;exact ER _ _ _ _ hw
    |ok y=>obtain⟨i,r1⟩:=y;rw[hw] at h;exact LV f _ _ _ _ _ h
theorem Tt (l:Bs):Bad (jF l):=fun r m h=>by
 unfold jF at h
 cases hmo:cO l with
 |error x=>obtain⟨r',m'⟩:=x;rw[hmo] at h;injection h with h;injection h with _ h;subst h;exact yQ l _ _ hmo
 |ok y=>
  obtain⟨bo,r0⟩:=y;rw[hmo] at h
  cases bo
  ·cases h
  ·simp only[] at h
   split at h <;> cases h
theorem Ww (k:Nat) (ns:List Bs) (l:Bs):Bad (rD k ns l):=fun r m h=>by
 unfold rD at h;by_cases h1:k=1
 ·rw[if_pos h1] at h
  cases hm:dQ l with
  |error x=>obtain⟨r',m'⟩:=x;rw[hm] at h;injection h with h;injection h with _ h;subst h;exact Bn _ _ _ hm
  |ok r0=>
   rw[hm] at h;simp only[] at h
   cases hn:dH mF r0 with
   |error x=>obtain⟨r',m'⟩:=x;rw[hn] at h;injection h with h;injection h with _ h;subst h;exact ER _ _ _ _ hn
   |ok y=>rw[hn] at h;cases h
 rw[if_neg h1] at h;by_cases h3:k=3
 ·rw[if_pos h3] at h
  cases hm:dQ l with
  |error x=>obtain⟨r',m'⟩:=x;rw[hm] at h;injection h with h;injection h with _ h;subst h;exact Bn _ _ _ hm
  |ok r0=>
   rw[hm] at h;simp only[] at h
   cases hn:fq r0 with
   |error x=>obtain⟨r',m'⟩:=x;rw[hn] at h;injection h with h;injection h with _ h;subst h;exact LU _ _ _ hn
   |ok y=>rw[hn] at h;cases h
 rw[if_neg h3] at h;by_cases h9:k=9
 ·rw[if_pos h9] at h
  cases hm:iV 5 0 0 l with
  |error x=>obtain⟨r',m'⟩:=x;rw[hm] at h;injection h with h;injection h with _ h;subst h;exact LV _ _ _ _ _ _ hm
  |ok y=>rw[hm] at h;cases h
 rw[if_neg h9] at h;by_cases h8:k=8
 ·rw[if_pos h8] at h
  cases hm:jF l with
  |error x=>obtain⟨r',m'⟩:=x;rw[hm] at h;injection h with h;injection h with _ h;subst h;exact Tt _ _ _ hm
  |ok y=>
   obtain⟨f,r0⟩:=y;rw[hm] at h;simp only[] at h
   cases ho:bJ false 300 301 0 ns [] r0 with
   |error x=>obtain⟨r',m'⟩:=x;rw[ho] at h;injection h with h;injection h with _ h;subst h;exact vD _ _ _ _ _ _ _ _ _ ho
   |ok y=>rw[ho] at h;cases h
 rw[if_neg h8] at h;by_cases h4:k=4
 ·rw[if_pos h4] at h
  cases ho:bJ true 40 41 0 ns [] l with
  |error x=>obtain⟨r',m'⟩:=x;rw[ho] at h;injection h with h;injection h with _ h;subst h;exact vD _ _ _ _ _ _ _ _ _ ho
  |ok y=>rw[ho] at h;cases h
 rw[if_neg h4] at h;by_cases h7:k=7
 ·rw[if_pos h7] at h
  cases ho:bJ false 300 301 0 ns [] l with
  |error x=>obtain⟨r',m'⟩:=x;rw[ho] at h;injection h with h;injection h with _ h;subst h;exact vD _ _ _ _ _ _ _ _ _ ho
  |ok y=>rw[ho] at h;cases h
 rw[if_neg h7] at h
 cases h
theorem Wx (l:Bs):Bad (jk l):=fun r m h=>by
 unfold jk at h;by_cases he:gY (bL l)=true
 ·rw[if_pos he] at h;cases h
 rw[if_neg he] at h
 cases hw:dH lG (bL l) with
 |error x=>obtain⟨r',m'⟩:=x;rw[hw] at h;injection h with h;injection h with _ h;subst h;exact ER _ _ _ _ hw
 |ok y=>
  obtain⟨i,r0⟩:=y;rw[hw] at h;simp only[] at h
  cases hn:jg (bX (i+1)).toNat [] r0 with
  |error x=>obtain⟨r',m'⟩:=x;rw[hn] at h;injection h with h;injection h with _ h;subst h;exact IQ _ _ _ _ _ hn
  |ok y=>
   obtain⟨ns,r1⟩:=y;rw[hn] at h;simp only[] at h
   cases ht:rD (i+1) ns r1 with
   |error x=>obtain⟨r',m'⟩:=x;rw[ht] at h;injection h with h;injection h with _ h;subst h;exact Ww _ _ _ _ _ ht
   |ok y=>
    obtain⟨s,r2⟩:=y;rw[ht] at h;simp only[] at h
    cases hm:cO r2 with
    |error x=>obtain⟨r',m'⟩:=x;rw[hm] at h;injection h with h;injection h with _ h;subst h;exact yQ _ _ _ hm
    |ok y=>
     obtain⟨b,r3⟩:=y;rw[hm] at h
     cases b
     ·cases h
     ·injection h with h;injection h with _ h;subst h;decide
theorem K9 (l:Bs):Bad (rE l):=fun r m h=>by
 unfold rE at h
 cases hr:jk l with
 |error x=>obtain⟨r',m'⟩:=x;rw[hr] at h;injection h with h;injection h with _ h;subst h;exact Wx _ _ _ hr
 |ok y=>
  obtain⟨s,r0⟩:=y;rw[hr] at h;simp only[] at h
  split at h
  ·cases h
  ·split at h
   ·cases h
   ·injection h with h;injection h with _ h;subst h;decide
def vv (s:Bs):Nat→Nat→Except (Int × Int) (List (aB × Int))
 |0,_=> .ok []
 |n+1,at_=>
  if at_<s.length then
   (if(bZ s at_).2.2=0 then
    (match vv s n (bZ s at_).2.1.toNat with
     | .ok r=> .ok (((bZ s at_).1,(at_:Int))::r)
     | .error x=> .error x)
   else .error ((bZ s at_).2.1,(bZ s at_).2.2))
  else .ok []
def Zx:Nat→List aB→List (aB × Int)
 |_,[]=>[]
 |n,s::ls=>(s,(n:Int))::Zx (n+(aeP s).length) ls
end Yd
