import Derived.Test.YtnhnhmeogckgpaaGreatDoorTBk11
import Derived.Test.YtnhnhmeogckgpaaGreatDoorTCut12
import Derived.Test.YtnhnhmeogckgpaaGreatDoorTTxB
set_option linter.all false
set_option maxRecDepth 200000
set_option maxHeartbeats 8000000
namespace Yd
open Int renaming toNat_natCast→C
open List renaming length_append→g,length_cons→t,mem_cons→L,mem_cons_of_mem→N,mem_singleton→P,mem_cons_self→Q,length_drop→R,length_eq_zero_iff→S,mem_append→T,mem_of_mem_take→U,mem_of_mem_drop→V,flatMap_cons→Y,length_take→Z
open Go Go.RowKit Go.Proofs Tryz
open Go.IntKind renaming i64→G
open Go.Value renaming int→F,pointer→I
open Lib renaming joinTail→M
open _root_ renaming Int→o,if_neg→A,if_pos→E,Nat→H,List→O
theorem ED {s:aB} (h:fo s=true) (hk:s.kind=0):s=uh:=by
 obtain⟨kd,names,lvl,aA,first,bits⟩:=s;simp only at hk;subst hk;unfold fo uJ at h;simp only[Bool.and_eq_true,decide_eq_true_eq] at h;obtain⟨_,⟨⟨⟨⟨⟨h1,h2⟩,h3⟩,_⟩,_⟩,⟨h4,h5⟩,h6⟩,_⟩:=h;have hn:names=[]:=S.1 (by
  have:((names.length:o) - 0≤0):=h2;omega)
 subst hn;have hv:aA=[]:=S.1 (by
  have:((aA.length:o)=0):=h3;omega)
 subst hv;have hl:lvl=0:=by
  have h4':(false==(lvl !=0))=true:=h4
  simpa using h4'
 have hf:first=false:=by
  have h5':(!first||false)=true:=h5
  simpa using h5'
 have hb:bits=0:=by
  have h6':(bits==0||(false && _))=true:=h6
  simpa using h6'
 subst hl hf hb
 rfl
theorem CB:∀(k n:H),n<10 ^ k→(fZ n).length≤k
 |0,n,h=>by
  have:n=0:=by simpa using h
  subst this;exact Nat.le_refl _
 |k+1,n,h=>by
  rcases Nat.eq_zero_or_pos n with h0|h0
  ·subst h0;exact Nat.zero_le _
  ·rw[uW h0,g,List.length_singleton]
   have:=CB k (n / 10) (by rw[Nat.pow_succ] at h;omega);omega
theorem CF {v:To} (h:gZ v):(dm v).length≤40:=by
 unfold dm;rcases h with rfl|⟨hw,h0,h9⟩
 ·rw[E rfl];decide
 ·rw[A ah,g,t]
  have:=(sP hw).2.1;have:=CB 3 v.k.toNat ah;omega
theorem LH (k:H):(aO k).length≤40:=by
 match k with
 |0=>decide
 |1=>decide
 |2=>decide
 |3=>decide
 |4=>decide
 |5=>decide
 |6=>decide
 |7=>decide
 |8=>decide
 |k+9=>exact(by decide:(aO 9).length≤40)
theorem JG (k:H):(fJ k).length≤40:=by
 match k with
 |0=>decide
 |1=>decide
 |2=>decide
 |3=>decide
 |k+4=>exact(by decide:(fJ 4).length≤40)
theorem JH (k:H):(gB k).length≤40:=by
 match k with
 |0=>decide
 |1=>decide
 |2=>decide
 |k+3=>exact(by decide:(gB 3).length≤40)
theorem EF (b:o):∀j,∀x∈jA b j,x.length≤40
 |0,x,hx=>by cases hx
 |j+1,x,hx=>by
  rw[jA] at hx;rcases T.1 hx with hx|hx
  ·exact EF b j x hx
  ·split at hx
   ·rw[P.1 hx];exact JH j
   ·cases hx
theorem JI {s:aB} (hs:dh s):∀x∈gT s,x.length≤40:=by
 have hn:∀x∈s.names,x.length≤40:=fun x hx=>by have:=(sP (hs.1 x hx)).2.1;omega
 intro x hx;unfold gT at hx;simp only[] at hx;rcases T.1 hx with hx|hx
 ·rcases L.1 hx with rfl|hx
  ·exact LH _
  ·exact hn x (U hx)
 ·rcases T.1 hx with hx|hx
  ·split at hx
   ·rw[P.1 hx];exact JG _
   ·split at hx
    ·obtain⟨v,hv,rfl⟩:=List.mem_map.1 hx
     exact CF (hs.2.1 v (U hv))
    ·split at hx
     ·exact EF _ _ x hx
     ·split at hx
      ·rw[P.1 hx];decide
      ·cases hx
  ·split at hx
   ·obtain⟨p,hp,hx⟩:=List.mem_flatMap.1 hx
    have hz:=List.of_mem_zip hp;simp only[L,List.not_mem_nil,or_false] at hx;rcases hx with rfl|rfl
    ·exact hn _ (V hz.1)
    ·exact CF (hs.2.1 _ hz.2)
   ·exact hn x (V hx)
theorem Bd:∀zs:O (Bs × To),(zs.flatMap (fun p=>[p.1,dm p.2])).length=2*zs.length
 |[]=>rfl
 |z::zs=>by rw[Y,g,Bd zs,t];simp;omega
theorem OD {s:aB} (hs:dh s):(gT s).length≤6000:=by
 obtain⟨h1,h2⟩:=hs.len;have hg:=CG s.bits 4;unfold gT;simp only[g,t,Z];have hA:∀c1 c2 c3 c4:Prop,[Decidable c1]→[Decidable c2]→[Decidable c3]→[Decidable c4]→(if c1 then [fJ s.lvl.toNat] else if c2 then(s.aA.take 1).map dm else if c3 then j5 s.bits else if c4 then [[45]] else []).length≤1000:=fun c1 c2 c3 c4 _ _ _ _=>by
  split
  ·simp
  ·split
   ·rw[List.length_map,Z];omega
   ·split
    ·unfold j5;omega
    ·split <;> simp
 have hB:(if bH s.kind.toNat=115 then((s.names.drop (bA s.kind.toNat).toNat).zip s.aA).flatMap (fun p=>[p.1,dm p.2]) else s.names.drop (bA s.kind.toNat).toNat).length≤2000:=by
  split
  ·rw[Bd,List.length_zip,R];omega
  ·rw[R];omega
 have hA':=hA (bH s.kind.toNat=108) (bH s.kind.toNat=118) (bH s.kind.toNat=103) (bH s.kind.toNat=109∧s.first=true);omega
theorem CJ:∀ws:O Bs,(∀x∈ws,x.length≤40)→(M [32] ws).length≤41*ws.length
 |[],_=>by simp[M]
 |x::ws,h=>by
  have e:M [32] (x::ws)=[32]++(x++M [32] ws):=by simp[M]
  have:=CJ ws (fun y hy=>h y (N _ hy));have:=h x Q;rw[e,g,g,t];simp;omega
theorem UH {s:aB} (hs:dh s):(qc s).length≤300000:=by
 have h1:=JI hs;have h2:=OD hs;unfold qc;rw[zH s] at h1 h2 ⊢;rw[Lib.join_cons,g,g];have:=CJ _ (fun x hx=>h1 x (N _ hx));have:=h1 _ Q;simp only[t] at*;simp;omega
theorem JJ {s:aB} (h:fo s=true):(dP s).length≤300000∧(dP s).count 10=1∧mq (dP s)= .ok (s,[]):=by
 rcases uj h with h0|hs
 ·have:=ED h h0
  subst this;exact⟨by decide,by decide,by rfl⟩
 ·have hk:dP s=qc s:=by
   unfold dP;rw[A];rcases hs.2.2 with h|h|h|h|h|h|h|h|h <;> rw[h.1] <;> decide
  rw[hk];refine⟨UH hs,?_,by have:=Gh hs [];rwa[List.append_nil] at this⟩;obtain⟨u,hu,hn⟩:=Q0 hs;rw[hu,List.count_append,List.count_eq_zero.2 (fun h=>hn 10 h rfl)]
  rfl
def Bad {α:Type} (x:Except Er α):Prop:=∀r m,x= .error (r,m)→m≠0
theorem wJ (l:Bs):Bad (bN l):=fun r m h=>by
 unfold bN at h
 split at h
 ·cases h
 ·split at h
  ·injection h with h;injection h with _ h;subst h;decide
  ·cases h
theorem zJ (l:Bs):Bad (bW l):=fun r m h=>by
 unfold bW at h
 cases hm:bN l with
 |error x=>obtain⟨r',m'⟩:=x;rw[hm] at h;injection h with h;injection h with _ h;subst h;exact wJ l _ _ hm
 |ok y=>
  obtain⟨b,r'⟩:=y;rw[hm] at h
  cases b
  ·injection h with h;injection h with _ h;subst h;decide
  ·cases h
theorem Dq (l:Bs):Bad (bI l):=fun r m h=>by
 unfold bI at h
 split at h
 ·injection h with h;injection h with _ h;subst h;decide
 ·split at h
  ·injection h with h;injection h with _ h;subst h;decide
  ·cases h
theorem Dr (ws:O Bs) (l:Bs):Bad (bZ ws l):=fun r m h=>by
 unfold bZ at h
 split at h
 ·cases h
 ·injection h with h;injection h with _ h;subst h;decide
theorem JK (l:Bs):Bad (dQ l):=fun r m h=>by
 unfold dQ at h
 split at h
 ·cases h
 ·cases hn:bI l with
  |error x=>obtain⟨r',m'⟩:=x;rw[hn] at h;injection h with h;injection h with _ h;subst h;exact Dq l _ _ hn
  |ok y=>
   obtain⟨nm,r1⟩:=y;rw[hn] at h;simp only[] at h
   split at h
   ·unfold rz at h
    simp only[] at h
    split at h
    ·injection h with h;injection h with _ h;subst h;decide
    ·split at h
     ·injection h with h;injection h with _ h;subst h;decide
     ·cases h
   ·injection h with h;injection h with _ h;subst h;decide
theorem Gi:∀(k:H) (acc:O Bs) (l:Bs),Bad (gD k acc l)
 |0,acc,l=>fun r m h=>by rw[gD] at h;cases h
 |k+1,acc,l=>fun r m h=>by
  rw[gD] at h
  cases hm:bW l with
  |error x=>obtain⟨r',m'⟩:=x;rw[hm] at h;injection h with h;injection h with _ h;subst h;exact zJ l _ _ hm
  |ok r0=>
   rw[hm] at h;simp only[] at h
   cases hn:bI r0 with
   |error x=>obtain⟨r',m'⟩:=x;rw[hn] at h;injection h with h;injection h with _ h;subst h;exact Dq _ _ _ hn
   |ok y=>obtain⟨nm,r1⟩:=y;rw[hn] at h;exact Gi k _ _ _ _ h
theorem sQ (pairs:Bool) (most:H):∀(f many:H) (ns:O Bs) (vs:O To) (l:Bs),Bad (bf pairs most f many ns vs l)
 |0,many,ns,vs,l=>fun r m h=>by rw[bf] at h;cases h
 |f+1,many,ns,vs,l=>fun r m h=>by
  rw[bf] at h
  cases hmo:bN l with
  |error x=>obtain⟨r',m'⟩:=x;rw[hmo] at h;injection h with h;injection h with _ h;subst h;exact wJ l _ _ hmo
  |ok y=>
   obtain⟨bo,r0⟩:=y;rw[hmo] at h
   cases bo
   ·cases h
   ·simp only[] at h
    by_cases hb:many=most∧bL r0=true
    ·rw[E hb] at h;injection h with h;injection h with _ h;subst h;decide
    ·rw[A hb] at h
     cases hn:bI r0 with
     |error x=>obtain⟨r',m'⟩:=x;rw[hn] at h;injection h with h;injection h with _ h;subst h;exact Dq _ _ _ hn
     |ok y=>
      obtain⟨nm,r1⟩:=y;rw[hn] at h;simp only[] at h;by_cases hp:pairs=true
      ·rw[E hp] at h
       cases hu:bW r1 with
       |error x=>obtain⟨r',m'⟩:=x;rw[hu] at h;injection h with h;injection h with _ h;subst h;exact zJ _ _ _ hu
       |ok r2=>
        rw[hu] at h;simp only[] at h
        cases hv:dQ r2 with
        |error x=>obtain⟨r',m'⟩:=x;rw[hv] at h;injection h with h;injection h with _ h;subst h;exact JK _ _ _ hv
        |ok y=>obtain⟨v,r3⟩:=y;rw[hv] at h;exact sQ pairs most f _ _ _ _ _ _ h
      ·rw[A hp] at h
       exact sQ pairs most f _ _ _ _ _ _ h
theorem JL:∀(f k:H) (b:o) (l:Bs),Bad (fP f k b l)
 |0,k,b,l=>fun r m h=>by rw[fP] at h;cases h
 |f+1,k,b,l=>fun r m h=>by
  rw[fP] at h
  cases hmo:bN l with
  |error x=>obtain⟨r',m'⟩:=x;rw[hmo] at h;injection h with h;injection h with _ h;subst h;exact wJ l _ _ hmo
  |ok y=>
   obtain⟨bo,r0⟩:=y;rw[hmo] at h
   cases bo
   ·cases h
   ·simp only[] at h
    cases hw:bZ (iP.drop k) r0 with
    |error x=>obtain⟨r',m'⟩:=x;rw[hw] at h;injection h with h;injection h with _ h;subst h;exact Dr _ _ _ _ hw
    |ok y=>obtain⟨i,r1⟩:=y;rw[hw] at h;exact JL f _ _ _ _ _ h
theorem Q5 (l:Bs):Bad (iD l):=fun r m h=>by
 unfold iD at h
 cases hmo:bN l with
 |error x=>obtain⟨r',m'⟩:=x;rw[hmo] at h;injection h with h;injection h with _ h;subst h;exact wJ l _ _ hmo
 |ok y=>
  obtain⟨bo,r0⟩:=y;rw[hmo] at h
  cases bo
  ·cases h
  ·simp only[] at h
   split at h <;> cases h
theorem UI (k:H) (ns:O Bs) (l:Bs):Bad (iy k ns l):=fun r m h=>by
 unfold iy at h;by_cases h1:k=1
 ·rw[E h1] at h
  cases hm:bW l with
  |error x=>obtain⟨r',m'⟩:=x;rw[hm] at h;injection h with h;injection h with _ h;subst h;exact zJ _ _ _ hm
  |ok r0=>
   rw[hm] at h;simp only[] at h
   cases hn:bZ kD r0 with
   |error x=>obtain⟨r',m'⟩:=x;rw[hn] at h;injection h with h;injection h with _ h;subst h;exact Dr _ _ _ _ hn
   |ok y=>rw[hn] at h;cases h
 rw[A h1] at h;by_cases h3:k=3
 ·rw[E h3] at h
  cases hm:bW l with
  |error x=>obtain⟨r',m'⟩:=x;rw[hm] at h;injection h with h;injection h with _ h;subst h;exact zJ _ _ _ hm
  |ok r0=>
   rw[hm] at h;simp only[] at h
   cases hn:dQ r0 with
   |error x=>obtain⟨r',m'⟩:=x;rw[hn] at h;injection h with h;injection h with _ h;subst h;exact JK _ _ _ hn
   |ok y=>rw[hn] at h;cases h
 rw[A h3] at h;by_cases h9:k=9
 ·rw[E h9] at h
  cases hm:fP 5 0 0 l with
  |error x=>obtain⟨r',m'⟩:=x;rw[hm] at h;injection h with h;injection h with _ h;subst h;exact JL _ _ _ _ _ _ hm
  |ok y=>rw[hm] at h;cases h
 rw[A h9] at h;by_cases h8:k=8
 ·rw[E h8] at h
  cases hm:iD l with
  |error x=>obtain⟨r',m'⟩:=x;rw[hm] at h;injection h with h;injection h with _ h;subst h;exact Q5 _ _ _ hm
  |ok y=>
   obtain⟨f,r0⟩:=y;rw[hm] at h;simp only[] at h
   cases ho:bf false 300 301 0 ns [] r0 with
   |error x=>obtain⟨r',m'⟩:=x;rw[ho] at h;injection h with h;injection h with _ h;subst h;exact sQ _ _ _ _ _ _ _ _ _ ho
   |ok y=>rw[ho] at h;cases h
 rw[A h8] at h;by_cases h4:k=4
 ·rw[E h4] at h
  cases ho:bf true 40 41 0 ns [] l with
  |error x=>obtain⟨r',m'⟩:=x;rw[ho] at h;injection h with h;injection h with _ h;subst h;exact sQ _ _ _ _ _ _ _ _ _ ho
  |ok y=>rw[ho] at h;cases h
 rw[A h4] at h;by_cases h7:k=7
 ·rw[E h7] at h
  cases ho:bf false 300 301 0 ns [] l with
  |error x=>obtain⟨r',m'⟩:=x;rw[ho] at h;injection h with h;injection h with _ h;subst h;exact sQ _ _ _ _ _ _ _ _ _ ho
  |ok y=>rw[ho] at h;cases h
 rw[A h7] at h
 cases h
theorem UJ (l:Bs):Bad (fQ l):=fun r m h=>by
 unfold fQ at h;by_cases he:bR (aY l)=true
 ·rw[E he] at h;cases h
 rw[A he] at h
 cases hw:bZ jV (aY l) with
 |error x=>obtain⟨r',m'⟩:=x;rw[hw] at h;injection h with h;injection h with _ h;subst h;exact Dr _ _ _ _ hw
 |ok y=>
  obtain⟨i,r0⟩:=y;rw[hw] at h;simp only[] at h
  cases hn:gD (bA (i+1)).toNat [] r0 with
  |error x=>obtain⟨r',m'⟩:=x;rw[hn] at h;injection h with h;injection h with _ h;subst h;exact Gi _ _ _ _ _ hn
  |ok y=>
   obtain⟨ns,r1⟩:=y;rw[hn] at h;simp only[] at h
   cases ht:iy (i+1) ns r1 with
   |error x=>obtain⟨r',m'⟩:=x;rw[ht] at h;injection h with h;injection h with _ h;subst h;exact UI _ _ _ _ _ ht
   |ok y=>
    obtain⟨s,r2⟩:=y;rw[ht] at h;simp only[] at h
    cases hm:bN r2 with
    |error x=>obtain⟨r',m'⟩:=x;rw[hm] at h;injection h with h;injection h with _ h;subst h;exact wJ _ _ _ hm
    |ok y=>
     obtain⟨b,r3⟩:=y;rw[hm] at h
     cases b
     ·cases h
     ·injection h with h;injection h with _ h;subst h;decide
theorem UK (l:Bs):Bad (mq l):=fun r m h=>by
 unfold mq at h
 cases hr:fQ l with
 |error x=>obtain⟨r',m'⟩:=x;rw[hr] at h;injection h with h;injection h with _ h;subst h;exact UJ _ _ _ hr
 |ok y=>
  obtain⟨s,r0⟩:=y;rw[hr] at h;simp only[] at h
  split at h
  ·cases h
  ·split at h
   ·cases h
   ·injection h with h;injection h with _ h;subst h;decide
def nX (s:Bs):H→H→Except (o × o) (O (aB × o))
 |0,_=> .ok []
 |n+1,at_=>
  if at_<s.length then
   (if(bO s at_).2.2=0 then
    (match nX s n (bO s at_).2.1.toNat with
     | .ok r=> .ok (((bO s at_).1,(at_:o))::r)
     | .error x=> .error x)
   else .error ((bO s at_).2.1,(bO s at_).2.2))
  else .ok []
theorem aby (r:Bs):aY (10::r)=10::r:=by unfold aY;rw[List.dropWhile_cons];rfl
theorem OE {s:aB} (hs:fo s=true) (r:Bs):mq (dP s++r)= .ok (s,r):=by
 unfold dP
 split
 ·rename_i hk
  rw[ED hs hk];have e:([10]:Bs)++r=10::r:=rfl;have hr:fQ (10::r)= .ok (⟨0,[],0,[],false,0⟩,10::r):=by
   unfold fQ;rw[aby,E (by rw[gF];rfl)]
  have hm:iA (10::r)=10::r:=by unfold iA;rw[A ak]
  rw[e];unfold mq;rw[hr];simp only[hm,List.head?_cons]
  rfl
 ·rename_i hk
  exact Gh ((uj hs).resolve_left hk) r
theorem Gj (s:aB):0<(dP s).length:=by
 unfold dP
 split
 ·decide
 ·unfold qc;rw[g];simp
theorem LJ {s:aB} (hs:fo s=true) (pre r:Bs):bO (pre++(dP s++r)) (pre.length:o)=(s,((pre++dP s).length:o),0):=by
 unfold bO;have h:¬((pre.length:o)<0∨((pre++(dP s++r)).length:o)<(pre.length:o)):=by simp only[g];omega
 rw[A h,C,List.drop_left,OE hs];have e:(pre++(dP s++r)).length - r.length=(pre++dP s).length:=by simp only[g];omega
 simp only[e]
def jS:H→O aB→O (aB × o)
 |_,[]=>[]
 |n,s::ls=>(s,(n:o))::jS (n+(dP s).length) ls
theorem EG:∀(ls:O aB) (pre:Bs) (n:H),(∀l∈ls,fo l=true)→ls.length<n→nX (pre++ls.flatMap dP) n pre.length= .ok (jS pre.length ls)
 |[],pre,n,_,hn=>by
  obtain⟨m,rfl⟩:∃m,n=m+1:=⟨n - 1,by omega⟩;unfold nX;rw[A ak];rfl
 |s::ls,pre,n,hl,hn=>by
  obtain⟨m,rfl⟩:∃m,n=m+1:=⟨n - 1,by simp only[t] at hn;omega⟩;have hs:=hl s Q;have ih:=EG ls (pre++dP s) m (fun x hx=>hl x (N _ hx)) (by simp only[t] at hn;omega);rw[List.append_assoc] at ih;unfold nX;rw[Y,LJ hs,E (by have:=Gj s;simp only[g];omega)];simp only[if_true,C];rw[ih];show Except.ok ((s,(pre.length:o))::jS (pre++dP s).length ls)=Except.ok ((s,(pre.length:o))::jS (pre.length+(dP s).length) ls);rw[g]
theorem sS:∀(ls:O aB) (n:H),(jS n ls).map Prod.fst=ls
 |[],_=>rfl
 |s::ls,n=>by unfold jS;rw[List.map_cons,sS ls]
theorem CK {s:Bs} {p:H} (hp:p<s.length) (h:(bO s (p:o)).2.2=0):∃q:H,(bO s (p:o)).2.1=(q:o)∧p<q∧q≤s.length:=by
 unfold bO at h ⊢;rw[A ah,C] at h ⊢
 cases hl:mq (s.drop p) with
 |error x=>
  obtain⟨r,m⟩:=x;rw[hl] at h;exact absurd h (UK _ _ _ hl)
 |ok x=>
  obtain⟨n,r⟩:=x;refine⟨s.length - r.length,rfl,?_,by omega⟩;rcases(UL hl).2 with rfl|hs
  ·simpa using hp
  ·have:=hs.length_le
   rw[t,R] at this;omega
structure vK where
 fr:o
 to:o
 ln:aB
 er:o
def gU (s:Bs):H→H→O vK
 |0,_=>[]
 |n+1,p=>if p<s.length then⟨(p:o),(bO s (p:o)).2.1,(bO s (p:o)).1,(bO s (p:o)).2.2⟩::(if(bO s (p:o)).2.2=0 then gU s n (bO s (p:o)).2.1.toNat else []) else []
theorem qH (s:Bs):∀(n p:H),s.length<n+p→
  ((∀x∈gU s n p,x.er=0)∧nX s n p= .ok ((gU s n p).map (fun x=>(x.ln,x.fr))))∨
  (∃pre x,gU s n p=pre++[x]∧(∀y∈pre,y.er=0)∧x.er≠0∧nX s n p= .error (x.to,x.er))
 |0,p,h=> .inl ⟨fun x hx=>(by cases hx),rfl⟩
 |n+1,p,h=>by
  by_cases hp:p<s.length
  ·by_cases h0:(bO s (p:o)).2.2=0
   ·obtain⟨q,e1,e2,e3⟩:=CK hp h0
    have hi:gU s (n+1) p=⟨(p:o),(bO s (p:o)).2.1,(bO s (p:o)).1,(bO s (p:o)).2.2⟩::gU s n q:=by
     show(if p<s.length then _ else _)=_;rw[E hp,E h0,e1,C]
    have hl:nX s (n+1) p=match nX s n q with| .ok r=> .ok (((bO s (p:o)).1,(p:o))::r)| .error x=> .error x:=by
     show(if p<s.length then _ else _)=_;rw[E hp,E h0,e1,C]
     all_goals (cases nX s n q <;> rfl)
    rcases qH s n q ah with⟨a,b⟩|⟨pre,x,a,b,c,d⟩
    ·refine .inl ⟨fun x hx=>?_,?_⟩
     ·rw[hi] at hx
      rcases L.1 hx with rfl|hx
      ·exact h0
      ·exact a x hx
     ·rw[hl,b,hi];rfl
    ·refine .inr ⟨⟨(p:o),(bO s (p:o)).2.1,(bO s (p:o)).1,(bO s (p:o)).2.2⟩::pre,x,by rw[hi,a];rfl,fun y hy=>?_,c,by rw[hl,d]⟩
     rcases L.1 hy with rfl|hy
     ·exact h0
     ·exact b y hy
   ·refine .inr ⟨[],⟨(p:o),(bO s (p:o)).2.1,(bO s (p:o)).1,(bO s (p:o)).2.2⟩,?_,fun y hy=>(by cases hy),h0,?_⟩
    ·show(if p<s.length then _ else _)=_
     rw[E hp,A h0];rfl
    ·show(if p<s.length then _ else _)=_
     rw[E hp,A h0]
  ·refine .inl ⟨fun x hx=>?_,?_⟩
   ·unfold gU at hx
    rw[A hp] at hx;cases hx
   ·unfold gU nX
    rw[A hp,A hp];rfl
theorem OG {s:Bs} {n p:H} (hp:p<s.length):gU s (n+1) p=⟨(p:o),(bO s (p:o)).2.1,(bO s (p:o)).1,(bO s (p:o)).2.2⟩::(if(bO s (p:o)).2.2=0 then gU s n (bO s (p:o)).2.1.toNat else []):=by
 show(if p<s.length then _ else _)=_;rw[E hp]
theorem Gl (s:Bs):∀(n p:H) (x:vK),x∈gU s n p→x.ln.names.length≤1000∧x.ln.aA.length≤1000
 |0,_,x,h=>by cases h
 |n+1,p,x,h=>by
  unfold gU at h
  split at h
  ·rcases L.1 h with rfl|h
   ·exact OH s _
   ·split at h
    ·exact Gl s n _ x h
    ·cases h
  ·cases h
attribute [local go_sem] Oper.semAt_some
def zK (w:World):Prop:=jY w∧vW w
theorem zK.below {w w':World} (h:zK w) (hb:Below w.heap.size w w'):zK w':=⟨h.1.below hb,h.2.below hb⟩
theorem UM (s:ByteArray) (w:World):Calls Tryz.prog 34 #[.string s] w fun e w'=>e= .returned (.func (.func 77) #[] #[I (some ⟨w.heap.size,0,none⟩)])∧w'=w.alloc (.cells #[.string s] 9):=by
 go_enter Tryz.func34,Tryz.ntmps34;go_wp2_with fail;go_ret;exact⟨rfl,rfl⟩
def Xz (B:H) (x:vK) (args:Array Value) (X:World):Prop:=
 ∃b4 b6 l,B≤b4∧b4<b6∧args=#[.agg #[F G x.fr,F G x.to],.func (.func 79) #[] #[I (some ⟨b4,0,none⟩),I (some ⟨b6,0,none⟩)]]∧Bx X b4 (gI l)∧Bx X b6 #[F G x.er]∧fq X B l x.ln∧∃cs fz,X.heap[b6]?=some (.cells cs 27 fz)
def UN (B:H) (x:vK) (args:Array Value) (X:World):Prop:=
 ∃b4 b6,B≤b6∧args=#[.agg #[F G x.fr,F G x.to],.func (.func 79) #[] #[I (some ⟨b4,0,none⟩),I (some ⟨b6,0,none⟩)]]∧Bx X b6 #[F G x.er]
theorem YV (b4 b6:H) (l:aV) (er:o) (w:World) (h4:Bx w b4 (gI l)) (h6:Bx w b6 #[F G er]):
  Calls Tryz.prog 79 #[I (some ⟨b4,0,none⟩),I (some ⟨b6,0,none⟩)] w (pG (gu l) (F G er) w):=by
 obtain⟨lk,la,ln,nc,lvl,va,vn,vc,lf,bits⟩:=l;have hl4:=h4.2.2;have hl6:=h6.2.2;have H4:=hid h4;have H6:=hid h6;clear h4 h6;go_enter func79,ntmps79;go_wp2_with fail;refine aK 3 [(0,0),(1,0),(2,2),(3,1)] (fun _=>True) (fun W'=>Bx W' b4 #[F G lk,.slice la ln nc,F G lvl,.slice va vn vc,.bool lf,F G bits]∧Bx W' b6 #[F G er]) au au (trivial) (⟨(H4.q.alloc _).drew,(H6.q.alloc _).drew⟩) ?_;refine qC ?_;refine aF rfl rfl (fun K hK=>?_);go_simp;refine hK _ _ ⟨trivial,(H4.q.alloc _).drew,(H6.q.alloc _).drew⟩ ?_;clear hK K;refine qC ?_;refine bB ?_;have hcz:=(Bx.new w #[F G lk,.slice la ln nc,F G lvl,.slice va vn vc,.bool lf,F G bits] 34).drew.1;go_wp2_with fail;refine bodyPost_ret (v:= .tuple #[gu ⟨lk,la,ln,nc,lvl,va,vn,vc,lf,bits⟩,F G er]) (by simp[results,results79,go_sem,hcz]) rfl ⟨rfl,(av (Below.refl _ _) _).drew⟩
theorem abz:∀args w,(callFunc 77 args).run Tryz.prog w= .ok (.enter 77 args) w:=enters_of func77 au rfl
theorem LK (s:Bs) (hlim:s.length≤1000000) (bs:H) (D:H→Prop) (W:World) (hs:Bx W bs #[.string ⟨s.toArray⟩]) (QH:D bs):
  Xy Tryz.prog 77 #[I (some ⟨bs,0,none⟩)] (Xz W.heap.size) 0 D zK (UN W.heap.size) (gU s (s.length+1) 0) W:=by
 intro n l J Jx hJ hJx hJR ak8 hY h0;refine callsIn_of_wp func77 rfl trivial ?_ rfl;simp only[ntmps77,List.size_toArray,t,List.length_nil,Nat.reduceAdd,Nat.reduceSub,Array.replicate_succ,Array.replicate_zero,List.push_toArray,List.append_toArray,List.nil_append,List.cons_append];have hz:=dR s
 gi_wp2
 gi_loopw [3] (fun i wr=>∃(p fuel:H) (pre:O vK),i= F G p∧pre++gU s fuel p=gU s (s.length+1) 0∧J pre wr∧Bx wr bs #[.string ⟨s.toArray⟩]∧W.heap.size≤wr.heap.size∧s.length<fuel+p∧p≤s.length) (fun i _=>s.length - (RowKit.intOf i).toNat)
 case atStart=>exact⟨0,s.length+1,[],rfl,rfl,h0,hs,Nat.le_refl _,by omega,Nat.zero_le _⟩
 case round=>
  obtain⟨p,fuel,pre,rfl,hpre,hj,hsr,ahI,hfu,ak9⟩:=hrel;have hc:=hsr.1;by_cases hp:p<s.length
  ·obtain⟨f,rfl⟩:∃f,fuel=f+1:=⟨fuel - 1,by omega⟩
   have hgd:=hJR _ _ hj;have rT:=hid (Q6 s (p:o) hlim wr hgd.1.1.1 hgd.2 hgd.1);obtain⟨rd,hrd⟩:∃rd,rd=bO s (p:o):=⟨_,rfl⟩;have hst:=OG (n:=f) hp;rw[←hrd] at hst;rw[hst] at hpre;have hnx:rd.2.2=0→∃q:H,rd.2.1=(q:o)∧p<q∧q≤s.length:=by rw[hrd];exact CK hp
   rw[←hrd] at rT;obtain⟨rn,ro,er⟩:=rd;have yE:=hid hpre;have HJ:=hid hj;have XA:=hid hsr;have Cz:=hid hnx;have XB:=hid ahI;have hp2:(p:o)<(s.length:o):=by omega
   clear hpre hj hsr hst hrd hnx hgd
   gi_wp2
   refine⟨trivial,fun h=>(by cases h),?_⟩;refine(callsIn_wide.2 rT.q).mono ?_;rintro e w1 ⟨cl,rfl,hat,hb1⟩;have HAT:=hid hat;have HB1:=hid hb1;clear hat hb1 rT;obtain⟨X,hX⟩:∃X,X=(w1.alloc (.cells (gI cl) 34)).alloc (.cells #[F G er] 27):=⟨_,rfl⟩;have hbX:Below wr.heap.size wr X:=by rw[hX];exact(HB1.q.alloc HB1.q.size _).alloc (by have:=HB1.q.size;simp;omega) _
   have QI:X.heap.size=w1.heap.size+2:=by rw[hX];simp
   have hx4:Bx X w1.heap.size (gI cl):=by rw[hX];exact(Bx.new w1 _ _).alloc _
   have hx6:Bx X (w1.heap.size+1) #[F G er]:=by
    rw[hX];have:=Bx.new (w1.alloc (.cells (gI cl) 34)) #[F G er] 27;rw[World.size_alloc] at this;exact this
   have QG:fq X W.heap.size cl rn:=by rw[hX];exact((HAT.q.below (((Below.refl w1.heap.size w1).alloc (Nat.le_refl _) _).alloc ak _)).mono XB.q)
   have hty:∃cs fz,X.heap[w1.heap.size+1]?=some (.cells cs 27 fz):=by
    rw[hX];have:=World.alloc_heap_new (w1.alloc (.cells (gI cl) 34)) (.cells #[F G er] 27);rw[World.size_alloc] at this;exact⟨_,_,this⟩
   have QJ:J pre X:=hJ _ _ _ HJ.q (Same.of_below hbX (fun i _ hl=>hl));have hw1:=HB1.q.size;obtain⟨fn,tmps,assign,body,hy,hR⟩:=hY pre ⟨(p:o),ro,rn,er⟩ #[.agg #[F G (p:o),F G ro],.func (.func 79) #[] #[I (some ⟨w1.heap.size,0,none⟩),I (some ⟨w1.heap.size+1,0,none⟩)]] X QJ
    ⟨_,by rw[←yE.q];simp;rfl⟩ ⟨w1.heap.size,w1.heap.size+1,cl,by have:=XB.q;omega,by omega,rfl,hx4,hx6,QG,hty⟩ (by have:=XB.q;omega) (n - 1)
   have HX:=hid hX;have Q7:Hid (Bx X bs #[.string ⟨s.toArray⟩]):=hid (XA.q.keep hbX);have uO:Hid (W.heap.size≤X.heap.size):=hid (by have:=XB.q;omega);rw[hX] at hy hR;clear hX hbX QI hx4 hx6 QG QJ hw1
   gi_wp2
   refine⟨fun h=>(by cases h),?_⟩;refine hR.mono ?_;rintro e W' (⟨rfl,hJ',hk,hkp⟩|⟨rfl,AZ,_⟩)
   ·clear hR hy
    obtain⟨b4',b6',_,hargs,abA⟩:=hkp;simp at hargs;obtain⟨rfl,rfl⟩:=hargs;rw[←HX.q] at hk;have Oo:Bx W' bs #[.string ⟨s.toArray⟩]:=⟨fun i=>(World.cell?_of_block (a:=⟨bs,i,none⟩) (hk.2 _ QH Q7.q.2.2)).trans (Q7.q.1 i),fun i=>(World.frozen?_of_block (a:=⟨bs,i,none⟩) (hk.2 _ QH Q7.q.2.2)).trans (Q7.q.2.1 i),Nat.lt_of_lt_of_le Q7.q.2.2 hk.1⟩;have ahJ:=hid Oo;have HJ3:=hid hJ';have HW3:Hid (W.heap.size≤W'.heap.size):=hid (Nat.le_trans uO.q hk.1);have hc6:=abA.1;clear hk Oo hJ' abA;by_cases h0:er=0
    ·subst h0
     obtain⟨q,hq,hq1,hq2⟩:=Cz.q rfl;have HQ:=hid hq;have HQ1:=hid hq1;have Xl:=hid hq2;clear hq hq1 hq2
     gi_wp2
     go_roundw
     case rel=>
      have hro:ro=(q:o):=HQ.q;refine⟨q,f,pre++[⟨(p:o),ro,rn,0⟩],by rw[hro],?_,HJ3.q,ahJ.q,HW3.q,by have:=HQ1.q;omega,Xl.q⟩;have:=yE.q;simp only[if_true] at this;simp only[hro,C] at this ⊢;rw[←this];simp
     case measure=>
      have hro:ro=(q:o):=HQ.q;rw[hro];have:=HQ1.q;have:=Xl.q;simp only[RowKit.intOf,C];omega
    ·have hne1:(er==0)=false:=beq_eq_false_iff_ne.2 h0
     have hne2:(er !=0)=true:=by simp[h0]
     have H0:=hid h0;clear h0
     gi_wp2
     refine bodyPost_ret (results_none rfl _ _ _) rfl ?_;have:=yE.q;rw[A H0.q] at this;exact⟨_,rfl,.inl (by rw[←this];exact HJ3.q)⟩
   ·clear hR hy
    gi_wp2
    refine bodyPost_ret (results_none rfl _ _ _) rfl ?_;exact⟨_,rfl,.inr ⟨pre++[⟨(p:o),ro,rn,er⟩],⟨_,by rw[←yE.q];simp;rfl⟩,AZ⟩⟩
  ·have hp2:¬(p:o)<(s.length:o):=by omega
   have yE:=hid hpre;have HJ:=hid hj;clear hpre hj
   gi_wp2
   go_end0
   refine⟨⟨_,rfl⟩,.inl ?_⟩;have h1:gU s fuel p=[]:=by
    cases fuel with
    |zero=>rfl
    |succ f=>unfold gU;rw[A hp]
   have h2:=yE.q;rw[h1,List.append_nil] at h2;rw[←h2];exact HJ.q
end Yd
