import Derived.Test.YtnhnhmeogckgpaaGreatDoorShaped
set_option linter.all false
set_option maxRecDepth 200000
set_option maxHeartbeats 8000000
namespace Yd
open Bool renaming and_eq_true→f,true→u
open List renaming mem_cons→r,mem_flatMap→C,all_eq_true→E,mem_append→F
open Go Go.RowKit Go.Proofs
open _root_ renaming Int→g,List→j,decide_eq_true_eq→z,Nat→A,if_neg→B,if_pos→G
def dN (e:EvC) (scan:j Sn):j (g × g):=
 (0,e.t)::(if e.kind=1 then [(1,e.bR)] else if e.kind=2∨e.kind=3 then(2,e.obj)::dh e.v else if e.kind=4 then [(3,e.pred)] else [])++scan.flatMap (fun s=>(2,s.obj)::dh s.v)
def jQ (x:aK) (ds:j g):j (g × g):=(2,x.obj)::ds.map (fun d=>(0,d))
def jf (x:aM) (ds:j g):j (g × g):=(3,x.pred)::(2,x.obj)::ds.map (fun d=>(0,d))
def jY (x:Wa):j (g × g):=[(1,x.bR)]
def aY (es:j EvC) (ds:j aK) (ms:j aM) (qs:j Wa) (scan:EvC→j Sn) (dn:aK→j g) (mn:aM→j g):j (g × g):=
 es.flatMap (fun e=>dN e (scan e))++ds.flatMap (fun x=>jQ x (dn x))++ms.flatMap (fun x=>jf x (mn x))++qs.flatMap jY
def Reads (w X:World):Prop:=∀a v,w.cell? a=some v→X.cell? a=some v
theorem Reads.keep {w X Y:World} {D:A→Prop} (h:Reads w X) (k:aO D X Y) (hd:∀i,i<w.heap.size→D i) (hs:w.heap.size≤X.heap.size):Reads w Y:=fun a v hc=>by
 have hl:=fw hc;rw[World.cell?_of_block (k.2 a.block (hd _ hl) (Nat.lt_of_lt_of_le hl hs))];exact h a v hc
theorem Row.reads {α:Type} {w X:World} {k:A} {enc:α→j Value} {a:Option Addr} {n c:A} {xs:j α} (h:Row w k enc a n c xs) (hr:Reads w X):Row X k enc a n c xs:=h.ext hr
def AP (st:(A→g) × Bool) (x:g × g):(A→g) × Bool:=
 if st.2=u∧x.2≤st.1 x.1.toNat then(fun s=>if s=x.1.toNat then(if x.2+1>st.1 s then x.2+1 else st.1 s) else st.1 s,u) else(st.1,false)
def gP (xs:j (g × g)):(A→g) × Bool:=xs.foldl AP (fun _=>0,u)
theorem ze (xs:j (g × g)) (x:g × g):gP (xs++[x])=AP (gP xs) x:=by simp[gP]
theorem YM {pre xs:j (g × g)} (h:pre<+:xs) (hf:(gP pre).2=false):(gP xs).2=false:=by
 obtain⟨t,rfl⟩:=h;rw[gP,List.foldl_append];show(t.foldl AP (gP pre)).2=false;generalize gP pre=st at hf
 induction t generalizing st with
 |nil=>exact hf
 |cons y t ih=>exact ih _ (by simp[AP,hf])
theorem Nv {st:(A→g) × Bool} {x:g × g} (h:x.2>st.1 x.1.toNat):(AP st x).2=false:=by
 unfold AP;rw[B ah]
theorem Ku {m:A→g} {b:Bool} {s:A} {n:g} (hb:b=u) (h:n≤m s):AP (m,b) ((s:g),n)=(fun i=>if i=s then(if n+1>m i then n+1 else m i) else m i,u):=by
 unfold AP;rw[G ⟨hb,by simpa using h⟩];simp
theorem Gn {n:g} {m:A} (h:aV n m=u):0≤n∧n<m:=by simpa[aV] using h
theorem abb {v:kT} {nt:A} (h:gI v nt=u) (hk:0<v.k):0≤v.t∧v.t<nt:=by
 unfold gI at h;rw[B ah] at h;simp only[f] at h;exact Gn h.1.1
def uV (x:g × g):Prop:=(0≤x.1∧x.1<4)∧0≤x.2∧x.2<300
theorem Ny {v:kT} {nt:A} (h:gI v nt=u) (hn:nt≤300):∀x∈dh v,uV x:=by
 intro x hx;unfold dh at hx
 split at hx
 ·obtain rfl:x=(0,v.t):=by simpa using hx
  have:=abb h ‹_›;exact⟨⟨by simp,by simp⟩,this.1,by have:=this.2;show v.t<300;omega⟩
 ·cases hx
theorem qd {a n:g} {m:A} (ha:0≤a) (ha4:a<4) (h:aV n m=u) (hm:m≤300):uV (a,n):=
 ⟨⟨ha,ha4⟩,(Gn h).1,by have:=(Gn h).2;show n<300;omega⟩
theorem abd {nt ns no np:A} {e:EvC} {scan:j Sn} (h:gT nt ns no np e scan=u) (h1:nt≤300) (h2:ns≤300) (h3:no≤300) (h4:np≤300):∀x∈dN e scan,uV x:=by
 simp only[gT,f] at h;obtain⟨⟨⟨⟨_,_⟩,ht⟩,hh⟩,hb⟩:=h;have hscan:∀s∈scan,uV (2,s.obj)∧∀x∈dh s.v,uV x:=by
  intro s hs;by_cases k4:e.kind=4
  ·simp[hasB,k4] at hh
   obtain⟨⟨_,_⟩,ha⟩:=hh;have:=ha s hs;simp only[jK,f] at this;exact⟨qd aj aj this.1 h3,Ny this.2 h1⟩
  ·have hn:scan=[]:=by
    unfold fG at hb;rw[B k4] at hb
    split at hb
    ·simpa using(by simp only[f,z] at hb;exact hb.2)
    ·split at hb <;> (simp only[f,z] at hb;exact hb.2)
   rw[hn] at hs;cases hs
 intro x hx;simp only[dN,F,r,C] at hx;rcases hx with(rfl|hx)|⟨s,hs,hx⟩
 ·exact qd aj aj ht h1
 ·unfold hasB at hh
  split at hx
  ·rw[G ‹_›] at hh
   obtain rfl:x=(1,e.bR):=by simpa using hx
   simp only[f] at hh;exact qd aj aj hh.1 h2
  ·rename_i k1
   rw[B k1] at hh
   split at hx
   ·rename_i k23
    have hov:aV e.obj no=u∧gI e.v nt=u:=by
     rcases k23 with k2|k3
     ·rw[G k2] at hh;simp only[f] at hh;exact hh.1.1
     ·rw[B ah,G k3] at hh;simp only[f] at hh;exact hh
    rcases r.1 hx with rfl|hx
    ·exact qd aj aj hov.1 h3
    ·exact Ny hov.2 h1 x hx
   ·rename_i k23
    split at hx
    ·rename_i k4
     rw[B ah,B ah,G k4] at hh;simp only[f] at hh;obtain rfl:x=(3,e.pred):=by simpa using hx
     exact qd aj aj hh.1.1 h4
    ·cases hx
 ·rcases hx with rfl|hx
  ·exact(hscan s hs).1
  ·exact(hscan s hs).2 x hx
theorem Hy {h:HC} {nl:A→j Bs} {es:j EvC} {ds:j aK} {ms:j aM} {qs:j Wa} {scan:EvC→j Sn} {dn:aK→j g} {mn:aM→j g} (hs:mZ h nl es ds ms qs scan dn mn=u)
  (hlen:∀i,i<4→(nl i).length=(h.nm i).n):∀x∈aY es ds ms qs scan dn mn,uV x:=by
 simp only[mZ,uW,f,E,List.mem_range] at hs;obtain⟨⟨⟨⟨⟨_,hnm⟩,he⟩,hd⟩,hm⟩,hw⟩:=hs;have lim:∀i,i<4→(h.nm i).n≤300:=fun i hi=>by
  have:=hnm i hi;simp only[pK,f,z] at this;have h1:=this.1;rw[hlen i hi] at h1;have:Gp i≤300:=by
   match i,hi with
   |0,_=>decide
   |1,_=>decide
   |2,_=>decide
   |3,_=>decide
  omega
 have lt:h.t.n≤300:=lim 0 aj;have ls:h.s.n≤300:=lim 1 aj;have lo:h.o.n≤300:=lim 2 aj;have lp:h.p.n≤300:=lim 3 aj;have ltd:∀(l:j g),fH h.t.n l=u→∀x∈l.map (fun d=>((0:g),d)),uV x:=fun l hl x hx=>by
  obtain⟨d,hdm,rfl⟩:=List.mem_map.1 hx;simp only[fH,f,E] at hl;exact qd aj aj (hl.2 d hdm) lt
 intro x hx;simp only[aY,F,C] at hx;rcases hx with((⟨e,hem,hx⟩|⟨d,hdm,hx⟩)|⟨m,hmm,hx⟩)|⟨q,hqm,hx⟩
 ·exact abd (he e hem) lt ls lo lp x hx
 ·have:=hd d hdm
  simp only[O7,f] at this;rcases r.1 hx with rfl|hx
  ·exact qd aj aj this.1 lo
  ·exact ltd _ this.2 x hx
 ·have:=hm m hmm
  simp only[O8,f] at this;rcases r.1 hx with rfl|hx
  ·exact qd aj aj this.1.1 lp
  ·rcases r.1 hx with rfl|hx
   ·exact qd aj aj this.1.2 lo
   ·exact ltd _ this.2 x hx
 ·have:=hw q hqm
  simp only[Jc,f] at this;obtain rfl:x=(1,q.bR):=by simpa[jY] using hx
  exact qd aj aj this.1.1 ls
end Yd
