import Derived.Test.YtnhnhmeogckgpaaGreatDoorTSpJ
set_option linter.all false
set_option maxRecDepth 200000
set_option maxHeartbeats 8000000
namespace Yd
open Option renaming none→G,some→S
open Go Go.RowKit Go.Proofs Go.Maps Tryz
open Go.Obj renaming cells→J
open Go.Value renaming slice→H
open Yd renaming hid→U
open _root_ renaming Int→I,List→O
section
variable {P:Program} {k e T:TypeId} {W W':World} {b n:Nat} {f:I→I→Option I}
theorem ko.ab7 (h:ko P k e W b n f) (K:WideMaps.KeyLaw P k) (hT:P.underlying T=S (.map k e)) (he:P.underlying e=S (.int .i64)) (hz:(zeroValue e).run P W= .ok (.int .i64 0) W) {t x:I} {kl:Lit} (hk:keyOf P k (kL t x)=S kl):
  (Instr.lookup T (.map (S b)) (kL t x) true).run P W= .ok (.tuple #[.int .i64 ((f t x).getD 0),.bool (f t x).isSome]) W:=by
 obtain⟨D,hD,⟨es,clock,hb,F,hs,hd⟩,hat⟩:=h;obtain⟨h1,h2⟩:=hat t x kl hk;rcases Maps.fit_look true (Keyed.of_law K) hT hz hb F hk with⟨hrun,_,hno⟩|⟨e0,y,_,_,hrun,hRv,hy,_⟩
 ·have e1:=hno (.lit (.int .i64 0))
  rw[←hd] at e1;rw[e1] at h1;injection h1 with h1;injection h1 with _ h1;have e2:=has_false_of_atKey (D:=D) (k:=kl) (fun z=>by rw[hd];exact hno z);rw[h2] at e2;rw[←h1,e2];exact hrun
 ·obtain⟨c,hc1,hc2,_⟩:=plainElem_int_inv he hRv
  have e1:=hy (.lit (.int .i64 0));rw[←hd,h1] at e1;rw[hc2] at e1;injection e1 with e1;injection e1 with _ e1;have e2:=has_true_of_atKey (D:=D) (k:=kl) (fun z=>by rw[hd];exact hy z);rw[h2] at e2;rw[e1,e2];rw[hc1] at hrun;exact hrun
end
theorem Ro:70<Tryz.prog.types.size:=of_decide_eq_true au
theorem Zc:(match Tryz.prog.underlying 70 with|some (.array _ _)|some (.struct _)=>true|_=>false)=true:=au
theorem Zd:laidOutB Tryz.prog=true:=au
theorem afl:Tryz.prog.keyTypeAt 3 70=true:=au
theorem Rp:WideMaps.KeyLaw Tryz.prog 70:=deep_law_laid Zd (m:=3) ah Ro afl Zc
theorem Ze:Tryz.prog.keyType 70=true:=au
theorem J7:Tryz.prog.cellsOf 70=2:=au
theorem ab8:Tryz.prog.cellsOf 3=1:=au
theorem Zf (u:World):(zeroValue 3).run Tryz.prog u= .ok (.int .i64 0) u:=au
theorem Zg (t x:I) (h1:(Lit.int .i64 t).wf=true) (h2:(Lit.int .i64 x).wf=true) (n:Nat):Tryz.prog.keyLits (n+2) 70 [.int .i64 t,.int .i64 x]=S [.int .i64 t,.int .i64 x]:=by
 have e1:Tryz.prog.keyLits (n+1) 3 [.int .i64 t]=S [.int .i64 t]:=by
  unfold Program.keyLits;rw[underlying3];simp[h1]
 have e2:Tryz.prog.keyLits (n+1) 3 [.int .i64 x]=S [.int .i64 x]:=by
  unfold Program.keyLits;rw[underlying3];simp[h2]
 unfold Program.keyLits;rw[underlying70];simp[J7,ab8,List.mapM_cons,List.range,List.range.loop,e1,e2]
theorem Rq {t x:I} (h1:(Lit.int .i64 t).wf=true) (h2:(Lit.int .i64 x).wf=true):keyOf Tryz.prog 70 (kL t x)=S (.string (keyBytes [.int .i64 t,.int .i64 x])):=by
 have hs:Tryz.prog.types.size+1=(Tryz.prog.types.size - 1)+2:=by have:=Ro;omega
 unfold keyOf;rw[underlying70];simp only[Ze,hs];rw[if_pos (by simp[Value.formed,underlying70,J7])];rw[show(kL t x).cells.toList=[.int .i64 t,.int .i64 x] from rfl,Zg t x h1 h2]
 rfl
def Ap (vs:O (I × I)) (s n:I):Option I:=if n∈bS vs s then S ((bS vs s).idxOf n:I) else G
def yG (vs:O (I × I)):Nat:=(bS vs 0).length+(bS vs 1).length+(bS vs 2).length+(bS vs 3).length
@[reducible] def rV (m:Nat→Sl):Array Value:=#[(m 0).v,(m 1).v,(m 2).v,(m 3).v]
theorem nQ (m:Nat→Sl) {s:Nat} (hs:s<4):(rV m)[s]?=S (m s).v:=by
 match s,hs with
 |0,_=>rfl
 |1,_=>rfl
 |2,_=>rfl
 |3,_=>rfl
theorem Bx.afm {X:World} {b:Nat} {m:Nat→Sl} (h:Bx X b (rV m)) {s:Nat} (hs:s<4) (v:Sl):Bx (X.setCell ⟨b,s,G⟩ v.v) b (rV fun i=>if i=s then v else m i):=by
 refine⟨fun i=>?_,fun i=>by rw[World.frozen?_setCell];exact h.2.1 i,by have:=h.2.2;simpa[World.setCell] using this⟩;by_cases hi:i=s
 ·subst hi
  rw[World.cell?_setCell_same' _ _ _ (by rw[h.1 i,nQ m hs];rfl),nQ _ hs,if_pos rfl]
 ·rw[World.cell?_setCell_other _ _ _ _ (fun e=>by cases e;exact hi rfl),h.1 i]
  rcases Nat.lt_or_ge i 4 with h4|h4
  ·rw[nQ m h4,nQ _ h4,if_neg hi]
  ·rw[Array.getElem?_eq_none (by simpa using h4),Array.getElem?_eq_none (by simpa using h4)]
theorem Bp {vs:O (I × I)} {s n:I} (h:n∈bS vs s):bS (vs++[(s,n)])=bS vs:=by
 funext t
 rw[pQ];by_cases e:s=t
 ·subst e
  rw[if_pos rfl];unfold qx;rw[if_pos h]
 ·rw[if_neg e]
theorem um {vs:O (I × I)} {s n:I} (h:n∉bS vs s) (t:I):bS (vs++[(s,n)]) t=if s=t then bS vs t++[n] else bS vs t:=by
 rw[pQ];by_cases e:s=t
 ·subst e
  rw[if_pos rfl,if_pos rfl];unfold qx;rw[if_neg h]
 ·rw[if_neg e,if_neg e]
theorem Zh {vs:O (I × I)} {s n:I} (h:n∉bS vs s):Ap (vs++[(s,n)])=fun t x=>if t=s∧x=n then S ((bS vs s).length:I) else Ap vs t x:=by
 funext t x
 unfold Ap;rw[um h];by_cases e:s=t
 ·subst e
  rw[if_pos rfl];by_cases hx:x=n
  ·subst hx
   have h1:x∈bS vs s++[x]:=by simp
   have h2:(bS vs s++[x]).idxOf x=(bS vs s).length:=by rw[List.idxOf_append,if_neg h];simp
   simp only[h1,h2,and_self,if_true]
  ·have h3:¬(s=s∧x=n):=fun q=>hx q.2
   by_cases hm:x∈bS vs s
   ·have h1:x∈bS vs s++[n]:=List.mem_append_left _ hm
    have h2:(bS vs s++[n]).idxOf x=(bS vs s).idxOf x:=by rw[List.idxOf_append,if_pos hm]
    rw[if_pos h1,h2];refine Eq.trans ?_ (if_neg h3).symm;rw[if_pos hm]
   ·have h1:¬x∈bS vs s++[n]:=fun q=>by
     rcases List.mem_append.1 q with q|q
     ·exact hm q
     ·exact hx (List.mem_singleton.1 q)
    rw[if_neg h1];refine Eq.trans ?_ (if_neg h3).symm;rw[if_neg hm]
 ·have h3:¬(t=s∧x=n):=fun q=>e q.1.symm
  simp only[if_neg e,if_neg h3]
theorem lH (a:Option Addr) (q:Nat):∃g o,kC a q=(⟨g,o,G⟩:Addr):=by
 cases a with
 |none=>exact⟨0,0,rfl⟩
 |some x=>exact⟨_,_,rfl⟩
def mE (l:O (I × Addr)):Prop:=∀p∈l,∃g o,p.2=(⟨g,o,G⟩:Addr)
theorem mE.gr {α:Type} {hd:Nat→α→O (I × Addr)} {sub:α→O (I × Addr)} {xs:O α} (h1:∀i x,mE (hd i x)) (h2:∀x,mE (sub x)):mE (gr hd sub 0 xs):=fun p hp=>by
 obtain⟨j,x,_,hp⟩:=(dH xs 0 p).1 hp;rcases hp with hp|hp
 ·exact h1 _ _ p hp
 ·exact h2 _ p hp
theorem mE.nil:mE []:=fun p hp=>by cases hp
theorem mE.bG (a:Option Addr) (q:Nat) (v:lg):mE (iJ (kC a q) v):=fun p hp=>by
 rw[(nA.1 hp).1];exact lH a q
theorem mE.sn (a:Option Addr) (l:O Sn):mE (nP a 0 l):=mE.gr (fun i x p hp=>by
 rcases List.mem_cons.1 hp with rfl|hp
 ·exact lH a _
 ·exact mE.bG a _ _ p hp) (fun _=>mE.nil)
theorem mE.ints (a:Option Addr) (l:O I):mE (kK a 0 l):=mE.gr (fun i x p hp=>by
 rw[List.mem_singleton.1 hp];exact lH a _) (fun _=>mE.nil)
theorem mE.all (h:HC) (es:O EvC) (ds:O aH) (ms:O aI) (qs:O Wa) (scan:EvC→O Sn) (dn:aH→O I) (mn:aI→O I):mE (aJ h es ds ms qs scan dn mn):=fun p hp=>by
 unfold aJ at hp;rcases List.mem_append.1 hp with hp|hp
 ·refine mE.gr (fun i x p hp=>?_) (fun x=>mE.sn _ _) p hp
  unfold qo at hp;rcases List.mem_cons.1 hp with rfl|hp
  ·exact lH _ _
  ·split at hp
   ·rw[List.mem_singleton.1 hp];exact lH _ _
   ·split at hp
    ·rcases List.mem_cons.1 hp with rfl|hp
     ·exact lH _ _
     ·exact mE.bG _ _ _ p hp
    ·split at hp
     ·rw[List.mem_singleton.1 hp];exact lH _ _
     ·cases hp
 ·rcases List.mem_append.1 hp with hp|hp
  ·exact mE.gr (fun i x p hp=>by rw[List.mem_singleton.1 hp];exact lH _ _) (fun x=>mE.ints _ _) p hp
  ·rcases List.mem_append.1 hp with hp|hp
   ·exact mE.gr (fun i x p hp=>by
     rcases List.mem_cons.1 hp with rfl|hp
     ·exact lH _ _
     ·rw[List.mem_singleton.1 hp];exact lH _ _) (fun x=>mE.ints _ _) p hp
   ·exact mE.gr (fun i x p hp=>by rw[List.mem_singleton.1 hp];exact lH _ _) (fun _=>mE.nil) p hp
theorem Own.ab9 {α:Type} {enc:α→O Value} {k:Nat} {X:World} {B:Nat} {T:TypeId} {v:Value} {xs:O α} (h:Own X B T k enc v xs) {g:Nat} (hv:v.ownBlock=S g):∃cs,X.heap[g]?=S (J cs T (0,0)):=by
 obtain⟨_,h2⟩:=h;rcases h2 with⟨he,_⟩|⟨g',cap,cur,he,_,hh,_⟩
 ·rw[he] at hv;cases hv
 ·rw[he] at hv
  injection hv with hv;rw[←hv];exact⟨cur,hh⟩
def Bq (X:World) (g:Nat):Prop:=∃cs T,X.heap[g]?=S (J cs T (0,0))
theorem Bq.frozen {X:World} {g j:Nat} (h:Bq X g):X.frozen? ⟨g,j,G⟩=false:=by
 obtain⟨cs,T,h⟩:=h;unfold World.frozen?;simp[h]
theorem Lay.soft {X:World} {B:Nat} {h:HC} {es:O EvC} {ds:O aH} {ms:O aI} {qs:O Wa} {scan:EvC→O Sn} {dn:aH→O I} {mn:aI→O I} (l:Lay X B h es ds ms qs scan dn mn) {p:I × Addr} (hp:p∈aJ h es ds ms qs scan dn mn):Bq X p.2.block∧B≤p.2.block:=by
 have of:∀{α:Type} {enc:α→O Value} {k:Nat} {T:TypeId} {a:Option Addr} {n c:Nat} {xs:O α},Own X B T k enc (H a n c) xs→a.map Addr.block=S p.2.block→Bq X p.2.block∧B≤p.2.block:=fun ho ha=>by
  rcases ho.sD with⟨q,_⟩|⟨g,q,_,_,hB⟩
  ·rw[q] at ha;cases ha
  ·rw[q] at ha
   injection ha with ha;have ha:g=p.2.block:=ha;obtain⟨cs,e⟩:=ho.ab9 (g:=g) (by rw[q];rfl);rw[ha] at e hB;exact⟨⟨cs,_,e⟩,hB⟩
 have ofv:∀{α:Type} {enc:α→O Value} {k:Nat} {T:TypeId} {v:Value} {xs:O α},Own X B T k enc v xs→v.ownBlock=S p.2.block→Bq X p.2.block∧B≤p.2.block:=fun ho ha=>(let⟨cs,e⟩:=ho.ab9 ha;⟨⟨cs,_,e⟩,(ho.lt _ ha).1⟩)
 have ad:∀{a:Option Addr} {q:Nat},p.2=kC a q→a≠G→a.map Addr.block=S p.2.block:=fun e hn=>by
  rename_i a q
  cases a with
  |none=>exact absurd rfl hn
  |some x=>rw[e];rfl
 have ne:∀{α:Type} {enc:α→O Value} {k:Nat} {T:TypeId} {a:Option Addr} {n c:Nat} {xs:O α} {i:Nat} {x:α},Own X B T k enc (H a n c) xs→xs[i]?=S x→a≠G:=fun ho hx e=>by
  rcases ho.sD with⟨_,q⟩|⟨g,q,_⟩
  ·rw[q] at hx;cases hx
  ·rw[e] at q;cases q
 rcases l.which hp with⟨t,i,e,he,hh⟩|⟨t,e,he,hb,_⟩|⟨t,i,x,hx,hh⟩|⟨t,i,x,hx,hh⟩|⟨t,i,x,hx,hh⟩|⟨t,⟨x,hx,hb,_⟩|⟨x,hx,hb,_⟩⟩
 ·have hn:=ne (show Own X B 65 9 cZ (H h.e.a h.e.n h.e.c) es from l.oe) he
  refine of (show Own X B 65 9 cZ (H h.e.a h.e.n h.e.c) es from l.oe) ?_
  cases ha:h.e.a with
  |none=>exact absurd ha hn
  |some x=>
   rcases(show Own X B 65 9 cZ (H h.e.a h.e.n h.e.c) es from l.oe).sD with⟨q,_⟩|⟨g,q,_⟩
   ·exact absurd q hn
   ·rw[ha] at q
    injection q with q;subst q;rw[ha] at hh;exact congrArg S ((JA (b:=g) i e).2 p hh).1.symm
 ·exact ofv (l.se e he) hb
 ·rw[List.mem_singleton.1 hh] at ad
  exact of (show Own X B 79 2 dD (H h.d.a h.d.n h.d.c) ds from l.od) (by rw[List.mem_singleton.1 hh];exact ad rfl (ne (show Own X B 79 2 dD (H h.d.a h.d.n h.d.c) ds from l.od) hx))
 ·refine of (show Own X B 81 4 dx (H h.m.a h.m.n h.m.c) ms from l.om) ?_
  have hn:=ne (show Own X B 81 4 dx (H h.m.a h.m.n h.m.c) ms from l.om) hx;rcases List.mem_cons.1 hh with hh|hh
  ·exact ad (by rw[hh]) hn
  ·exact ad (by rw[List.mem_singleton.1 hh]) hn
 ·exact of (show Own X B 83 2 eu (H h.w.a h.w.n h.w.c) qs from l.oq) (ad (by rw[List.mem_singleton.1 hh]) (ne (show Own X B 83 2 eu (H h.w.a h.w.n h.w.c) qs from l.oq) hx))
 ·exact ofv (l.sd x hx) hb
 ·exact ofv (l.sm x hx) hb
theorem Moved.soft {w0 X:World} {F:I→O I} {pre:O (I × Addr)} (h:Moved w0 X F pre) {g:Nat} (hs:Bq w0 g):Bq X g:=by
 obtain⟨cs,T,e⟩:=hs;obtain⟨cs',e',_⟩:=h g cs T _ e;exact⟨cs',T,e'⟩
theorem LQ {X Y:World} {B B':Nat} {h:HC} {es:O EvC} {ds:O aH} {ms:O aI} {qs:O Wa} {scan:EvC→O Sn} {dn:aH→O I} {mn:aI→O I} {F:I→O I} (l:Lay X B h es ds ms qs scan dn mn) {pre:O (I × Addr)} (hsub:∀p∈pre,p∈aJ h es ds ms qs scan dn mn) (hM:Moved X Y F pre) {v:Value} {L:O Bs} (ho:Own X B' 9 1 encStr v L):Own Y B' 9 1 encStr v L:=by
 refine ho.moved (hc:=iM) hM rfl (fun g hg i x y j u hx hy hu=> .inl ⟨?_,fun s hp=>?_⟩)
 ·rw[hx] at hy;injection hy with hy;rw[←hy];exact hu
 ·have ht:Ty X g 9:=ho.tag hg
  rcases l.which (hsub _ hp) with⟨t,_⟩|⟨t,_⟩|⟨t,_⟩|⟨t,_⟩|⟨t,_⟩|⟨t,_⟩ <;> exact ht.no t aj
def jq (w3:World) (pre:O (I × Addr)):O (I × I):=pre.map (iw w3)
def Rs (sl:Nat→Sl):Prop:=∀q q',q<4→q'<4→q≠q'→∀g,(sl q).v.ownBlock=S g→(sl q').v.ownBlock≠S g
structure NI (w w3:World) (N ws wa bm mo:Nat) (h:HC) (nl:Nat→O Bs) (F:I→O I) (xs pre:O (I × Addr)) (X:World):Prop where
 sub:∀p∈pre,p∈xs
 b:Below w.heap.size w X
 m:Moved w3 X F pre
 bx:Bx X w.heap.size (aC h)
 r:Bx X (w.heap.size+1) #[H G 0 0,H G 0 0,H G 0 0,H G 0 0,H G 0 0,H G 0 0,H G 0 0,H G 0 0]
 ws:Bx X ws #[h.t.v,h.s.v,h.o.v,h.p.v]
 wa:∃sl:Nat→Sl,Bx X wa (rV sl)∧(∀s,s<4→Own X N 9 1 encStr (sl s).v ((bS (jq w3 pre) (s:I)).map (aN (nl s))))∧Rs sl
 mv:Bx X bm #[.map (S mo)]
 mp:ko Tryz.prog 70 3 X mo (yG (jq w3 pre)) (Ap (jq w3 pre))
theorem NI.same {w w3:World} {N ws wa bm mo V:Nat} {h:HC} {nl:Nat→O Bs} {F:I→O I} {xs pre:O (I × Addr)} {X Y:World} (i:NI w w3 N ws wa bm mo h nl F xs pre X) (hs:Same (fun i=>i<V∨V+5≤i) X Y) (hN:V+5≤N) (h3:w3.heap.size≤V) (hw:w.heap.size+1<V) (h1:ws<V) (h2:wa<V) (h4:bm<V) (h5:mo<V):NI w w3 N ws wa bm mo h nl F xs pre Y:=
 ⟨i.sub,hs.below i.b (fun q hq=> .inl ah) i.b.size,i.m.same (hs.mono (fun q hq _=> .inl ah)),hs.bx i.bx (.inl ah),hs.bx i.r (.inl ah),hs.bx i.ws (.inl h1),
 (let⟨sl,a1,a2,a3⟩:=i.wa;⟨sl,hs.bx a1 (.inl h2),fun s hs4=>(a2 s hs4).same hs (fun g hg=> .inr (by have:=((a2 s hs4).lt g hg).1;omega)),a3⟩),hs.bx i.mv (.inl h4),i.mp.of_eq (hs.block mo (.inl h5) i.mp.lt)⟩
theorem NI.fin {w w3:World} {N ws wa bm mo:Nat} {h:HC} {nl:Nat→O Bs} {F:I→O I} {xs pre:O (I × Addr)} {Y:World} {s:I} {b o:Nat} {n v:I} (hsub:∀p∈pre++[(s,(⟨b,o,G⟩:Addr))],p∈xs) (hb:Below w.heap.size w Y) (hm:Moved w3 Y F pre) (hbx:Bx Y w.heap.size (aC h))
  (hr:Bx Y (w.heap.size+1) #[H G 0 0,H G 0 0,H G 0 0,H G 0 0,H G 0 0,H G 0 0,H G 0 0,H G 0 0]) (hws:Bx Y ws #[h.t.v,h.s.v,h.o.v,h.p.v])
  (qm:∃sl:Nat→Sl,Bx Y wa (rV sl)∧(∀q,q<4→Own Y N 9 1 encStr (sl q).v ((bS (jq w3 (pre++[(s,(⟨b,o,G⟩:Addr))])) (q:I)).map (aN (nl q))))∧Rs sl) (hmv:Bx Y bm #[.map (S mo)])
  (hmp:ko Tryz.prog 70 3 Y mo (yG (jq w3 (pre++[(s,(⟨b,o,G⟩:Addr))]))) (Ap (jq w3 (pre++[(s,(⟨b,o,G⟩:Addr))]))))
  (hnot:∀s',(s',(⟨b,o,G⟩:Addr))∉pre) (hn0:w3.cell? ⟨b,o,G⟩=S (.int .i64 n)) (hv:v=fG (F s) n) (hlo:w.heap.size+1<b) (ahZ:b≠ws) (ah0:b≠wa) (ah1:b≠bm) (ah2:b≠mo) (hN:b<N):
  NI w w3 N ws wa bm mo h nl F xs (pre++[(s,(⟨b,o,G⟩:Addr))]) (Y.setCell ⟨b,o,G⟩ (.int .i64 v)):=by
 have hs:Same (fun i=>i≠b) Y (Y.setCell ⟨b,o,G⟩ (.int .i64 v)):=(Same.refl' Y).setTail (fun h=>h rfl);exact⟨hsub,hb.setCell (p:=⟨b,o,G⟩) (by show _≤b;omega) _,hm.step hnot hn0 hv,hs.bx hbx ah,hs.bx hr ah,hs.bx hws ahZ.symm,(let⟨sl,a1,a2,a3⟩:=qm;⟨sl,hs.bx a1 ah0.symm,fun q hq=>(a2 q hq).same hs (fun g hg e=>by have:=((a2 q hq).lt g hg).1;omega),a3⟩),hs.bx hmv ah1.symm,hmp.of_eq (hs.block mo ah2.symm hmp.lt)⟩
theorem Same.EI {A:Nat→Prop} {X Y:World} {b o:Nat} {v:Value} (s:Same A X Y) (h:X.cell? ⟨b,o,G⟩=S v) (ha:A b):Y.cell? ⟨b,o,G⟩=S v:=
 (World.cell?_of_block (a:=⟨b,o,G⟩) (s.block b ha (dS h))).trans h
theorem Rt {vs:O (I × I)} {s n:I} (h:n∈bS vs s):Ap (vs++[(s,n)])=Ap vs:=by
 funext t x
 unfold Ap;rw[Bp h]
theorem OY {vs:O (I × I)} {s n:I} (h:n∈bS vs s):yG (vs++[(s,n)])=yG vs:=by
 unfold yG;rw[Bp h]
theorem Va {vs:O (I × I)} {s:Nat} {n:I} (hs:s<4) (h:n∉bS vs (s:I)):yG (vs++[((s:I),n)])=yG vs+1:=by
 unfold yG;rw[um h,um h,um h,um h];rcases(by omega:s=0∨s=1∨s=2∨s=3) with rfl|rfl|rfl|rfl
 ·rw[if_pos aj,if_neg aj,if_neg aj,if_neg aj,List.length_append];simp;omega
 ·rw[if_neg aj,if_pos aj,if_neg aj,if_neg aj,List.length_append];simp;omega
 ·rw[if_neg aj,if_neg aj,if_pos aj,if_neg aj,List.length_append];simp;omega
 ·rw[if_neg aj,if_neg aj,if_neg aj,if_pos aj,List.length_append];simp;omega
theorem Vb {α:Type} {pre xs:O α} {x:α} (h:pre++[x]<+:xs):∀p∈pre++[x],p∈xs:=fun _ hp=>h.subset hp
theorem J8 {α β:Type} {Y:World} {B:Nat} {T:TypeId} {ek:Nat} {enc:β→O Value} [hc:Cells enc ek] (hinj:∀x y,enc x=enc y→x=y) {a:α→Option Addr} {n q:α→Nat} {r:α→α} (ha:∀x,a (r x)=a x) (hn:∀x,n (r x)=n x) (hq:∀x,q (r x)=q x) {xs:O α} {g:α→O β} (h:∀x∈xs,Own Y B T ek enc (H (a x) (n x) (q x)) (g x)) (hl:∀x∈xs,(g x).length≤140737488355328):
  ∃f:α→O β,(∀y∈xs.map r,Own Y B T ek enc (H (a y) (n y) (q y)) (f y))∧(xs.map r).map f=xs.map g:=by
 have key:∀x∈xs,Classical.epsilon (fun L=>Row Y ek enc (a (r x)) (n (r x)) (q (r x)) L)=g x:=fun x hx=>by
  have hr:=(h x hx).row (hc:=hc) (hl x hx);rw[←ha,←hn,←hq] at hr;exact yR (hc:=hc) hinj hr
 refine⟨fun y=>Classical.epsilon (fun L=>Row Y ek enc (a y) (n y) (q y) L),fun y hy=>?_,?_⟩
 ·obtain⟨x,hx,rfl⟩:=List.mem_map.1 hy
  show Own Y B T ek enc (H (a (r x)) (n (r x)) (q (r x))) (Classical.epsilon (fun L=>Row Y ek enc (a (r x)) (n (r x)) (q (r x)) L));rw[key x hx,ha,hn,hq];exact h x hx
 ·rw[List.map_map]
  exact List.map_congr_left (fun x hx=>key x hx)
theorem bC {X:World} {b o b' o':Nat} {v u:Value} (h:X.cell? ⟨b,o,G⟩=S v) (hne:b≠b'):(X.setCell ⟨b',o',G⟩ u).cell? ⟨b,o,G⟩=S v:=
 (World.cell?_of_block (a:=⟨b,o,G⟩) (Below.heap_setCell X ⟨b',o',G⟩ u b hne)).trans h
structure gK (X:World) (B:Nat) (h:HC) (c:Cont) (es:O EvC) (ds:O aH) (ms:O aI) (scan:EvC→O Sn) (dn:aH→O I) (mn:aI→O I):Prop where
 oe:Own X B 65 9 cZ (H h.e.a h.e.n h.e.c) es
 od:Own X B 79 2 dD (H h.d.a h.d.n h.d.c) ds
 om:Own X B 81 4 dx (H h.m.a h.m.n h.m.c) ms
 oq:Own X B 83 2 eu (H h.w.a h.w.n h.w.c) c.Q
 on:∀i,i<4→Own X B 9 1 encStr (H (h.nm i).a (h.nm i).n (h.nm i).c) (c.nl i)
 se:∀x∈es,Own X B 148 3 bV (H x.sa x.sn x.sc) (scan x)
 sd:∀x∈ds,Own X B 3 1 aQ (H x.sa x.sn x.sc) (dn x)
 sm:∀x∈ms,Own X B 3 1 aQ (H x.sa x.sn x.sc) (mn x)
 be:es.map EvC.base=c.E
 bd:ds.map aH.base=c.D
 bm:ms.map aI.base=c.M
 ss:es.map scan=c.SE
 ts:ds.map dn=c.SD
 us:ms.map mn=c.SM
structure Aj (c:Cont):Prop where
 e:c.E.length≤2000000
 d:c.D.length≤2000000
 m:c.M.length≤2000000
 q:c.Q.length≤2000000
 n:∀i,i<4→(c.nl i).length≤2000000
 se:∀L∈c.SE,L.length≤2000000
 sd:∀L∈c.SD,L.length≤2000000
 sm:∀L∈c.SM,L.length≤2000000
section
variable {X Y:World} {B:Nat} {h:HC} {c:Cont} {es:O EvC} {ds:O aH} {ms:O aI} {scan:EvC→O Sn} {dn:aH→O I} {mn:aI→O I}
theorem gK.imp (o:gK X B h c es ds ms scan dn mn) (hi:∀{α:Type} {enc:α→O Value} {k:Nat} {T:TypeId} {v:Value} {xs:O α},Own X B T k enc v xs→Own Y B T k enc v xs):gK Y B h c es ds ms scan dn mn:=
 ⟨hi o.oe,hi o.od,hi o.om,hi o.oq,fun i h=>hi (o.on i h),fun x h=>hi (o.se x h),fun x h=>hi (o.sd x h),fun x h=>hi (o.sm x h),o.be,o.bd,o.bm,o.ss,o.ts,o.us⟩
theorem gK.same (o:gK X B h c es ds ms scan dn mn) (s:Same (fun i=>B≤i) X Y):gK Y B h c es ds ms scan dn mn:=o.imp (fun ho=>ho.same s (fun g hg=>(ho.lt g hg).1))
theorem gK.below (o:gK X B h c es ds ms scan dn mn) (s:Below X.heap.size X Y):gK Y B h c es ds ms scan dn mn:=o.imp (fun ho=>ho.below s rfl)
theorem gK.mono {B':Nat} (o:gK X B h c es ds ms scan dn mn) (hB:B'≤B):gK X B' h c es ds ms scan dn mn:=
 ⟨o.oe.mono hB,o.od.mono hB,o.om.mono hB,o.oq.mono hB,fun i h=>(o.on i h).mono hB,fun x h=>(o.se x h).mono hB,fun x h=>(o.sd x h).mono hB,fun x h=>(o.sm x h).mono hB,o.be,o.bd,o.bm,o.ss,o.ts,o.us⟩
theorem gK.deep (o:gK X B h c es ds ms scan dn mn) (z:Aj c):Deep X h es ds ms c.Q scan dn mn:=
 ⟨o.oe.row (hc:=qF) (by have:=z.e;rw[←o.be,List.length_map] at this;omega),o.od.row (hc:=pI) (by have:=z.d;rw[←o.bd,List.length_map] at this;omega),o.om.row (hc:=ny) (by have:=z.m;rw[←o.bm,List.length_map] at this;omega),o.oq.row (hc:=qE) (by have:=z.q;omega),
 fun x hx=>(o.se x hx).row (hc:=kV) (by have:=z.se (scan x) (by rw[←o.ss];exact List.mem_map_of_mem hx);omega),fun x hx=>(o.sd x hx).row (hc:=eG) (by have:=z.sd (dn x) (by rw[←o.ts];exact List.mem_map_of_mem hx);omega),fun x hx=>(o.sm x hx).row (hc:=eG) (by have:=z.sm (mn x) (by rw[←o.us];exact List.mem_map_of_mem hx);omega)⟩
theorem gK.names (o:gK X B h c es ds ms scan dn mn) (z:Aj c):∀i,i<4→Row X 1 encStr (h.nm i).a (h.nm i).n (h.nm i).c (c.nl i):=fun i hi=>(o.on i hi).row (hc:=iM) (by have:=z.n i hi;omega)
theorem gK.bulk (o:gK X B h c es ds ms scan dn mn) (z:Aj c):Iz c.nl es ds ms c.Q scan dn mn:=
 ⟨by have:=z.e;rw[←o.be,List.length_map] at this;exact this,by have:=z.d;rw[←o.bd,List.length_map] at this;exact this,by have:=z.m;rw[←o.bm,List.length_map] at this;exact this,z.q,z.n,fun x hx=>z.se _ (by rw[←o.ss];exact List.mem_map_of_mem hx),fun x hx=>z.sd _ (by rw[←o.ts];exact List.mem_map_of_mem hx),fun x hx=>z.sm _ (by rw[←o.us];exact List.mem_map_of_mem hx)⟩
theorem gK.cont (o:gK X B h c es ds ms scan dn mn):c=uX es.length c.nl es ds ms c.Q scan dn mn:=by
 unfold uX;rw[List.take_length,o.be,o.bd,o.bm,o.ss,o.ts,o.us]
end
def OZ (w:World) (c:Cont) (e:Ending) (X:World):Prop:=
 ∃h es ds ms,∃scan:EvC→O Sn,∃dn:aH→O I,∃mn:aI→O I,e= .returned (.tuple #[eF h,.int .i64 0])∧gK X w.heap.size h c es ds ms scan dn mn∧Below w.heap.size w X
theorem LU {w W3 X Y:World} {B N:Nat} {h:HC} {es:O EvC} {ds:O aH} {ms:O aI} {C:Cont} {scan:EvC→O Sn} {dn:aH→O I} {mn:aI→O I} {F:I→O I} {sl:Nat→Sl} (hF:F=bS (aZ C)) (l:Lay W3 B h es ds ms C.Q scan dn mn)
  (h1:es.map EvC.base=C.E) (h2:ds.map aH.base=C.D) (h3:ms.map aI.base=C.M) (h4:es.map scan=C.SE) (h5:ds.map dn=C.SD) (h6:ms.map mn=C.SM)
  (hM:Moved W3 X F (aJ h es ds ms C.Q scan dn mn)) (hb:∀e∈C.E,Ca e) (hsl:∀s,s<4→Own X N 9 1 encStr (sl s).v ((F (s:I)).map (aN (C.nl s)))) (hN:B≤N) (hwB:w.heap.size≤B)
  {D:Nat} (hD:∀cs T fz,X.heap[D]?≠S (J cs T fz)) (hs:Same (fun i=>B≤i∧i≠D) X Y) (CO:Below w.heap.size w Y) (g1:∀L∈C.SE,L.length≤2000000) (g2:∀L∈C.SD,L.length≤2000000) (g3:∀L∈C.SM,L.length≤2000000):
  OZ w (fB C) (.returned (.tuple #[eF ⟨sl 0,sl 1,sl 2,sl 3,h.e,h.d,h.m,h.w⟩,.int .i64 0])) Y:=by
 have hbe:∀e∈es,Ca e:=fun e he=>by
  have:=hb e.base (by rw[←h1];exact List.mem_map_of_mem he);exact this
 have Gv:∀{α:Type} {enc:α→O Value} {k:Nat} {T:TypeId} {v:Value} {xs:O α} {B':Nat},B≤B'→Own X B' T k enc v xs→Own Y B' T k enc v xs:=fun hB' ho=>ho.same hs (fun g hg=>⟨Nat.le_trans hB' (ho.lt g hg).1,fun e=>by
  subst e;obtain⟨cs,fz,e'⟩:=ho.tag hg;exact hD _ _ _ e'⟩)
 have k1:Own Y B 65 9 cZ h.e.v (es.map (XE F)):=Gv (Nat.le_refl _) (l.abP hM hbe);have k2:Own Y B 79 2 dD h.d.v (ds.map (XF F)):=Gv (Nat.le_refl _) (l.abQ hM);have k3:Own Y B 81 4 dx h.m.v (ms.map (XG F)):=Gv (Nat.le_refl _) (l.abR hM);have k4:Own Y B 83 2 eu h.w.v (C.Q.map (waR F)):=Gv (Nat.le_refl _) (l.abS hM);have r1:∀x∈es,Own Y B 148 3 bV (H x.sa x.sn x.sc) ((scan x).map (JZ F)):=fun x hx=>Gv (Nat.le_refl _) (l.abT hM hx)
 have r2:∀x∈ds,Own Y B 3 1 aQ (H x.sa x.sn x.sc) ((dn x).map (fG (F 0))):=fun x hx=>Gv (Nat.le_refl _) (l.abU hM hx)
 have r3:∀x∈ms,Own Y B 3 1 aQ (H x.sa x.sn x.sc) ((mn x).map (fG (F 0))):=fun x hx=>Gv (Nat.le_refl _) (l.abV hM hx)
 obtain⟨f1,a1,b1⟩:=J8 (hc:=kV) Ei (r:=XE F) (a:=EvC.sa) (n:=EvC.sn) (q:=EvC.sc) (fun _=>rfl) (fun _=>rfl) (fun _=>rfl) r1 (fun x hx=>by rw[List.length_map];have:=g1 (scan x) (by rw[←h4];exact List.mem_map_of_mem hx);omega);obtain⟨f2,a2,b2⟩:=J8 (hc:=eG) rF (r:=XF F) (a:=aH.sa) (n:=aH.sn) (q:=aH.sc) (fun _=>rfl) (fun _=>rfl) (fun _=>rfl) r2 (fun x hx=>by rw[List.length_map];have:=g2 (dn x) (by rw[←h5];exact List.mem_map_of_mem hx);omega);obtain⟨f3,a3,b3⟩:=J8 (hc:=eG) rF (r:=XG F) (a:=aI.sa) (n:=aI.sn) (q:=aI.sc) (fun _=>rfl) (fun _=>rfl) (fun _=>rfl) r3 (fun x hx=>by rw[List.length_map];have:=g3 (mn x) (by rw[←h6];exact List.mem_map_of_mem hx);omega);have hnm:∀i,i<4→(⟨sl 0,sl 1,sl 2,sl 3,h.e,h.d,h.m,h.w⟩:HC).nm i=sl i:=fun i hi=>by
  rcases(by omega:i=0∨i=1∨i=2∨i=3) with rfl|rfl|rfl|rfl <;> rfl
 subst hF;refine⟨_,es.map (XE (bS (aZ C))),ds.map (XF (bS (aZ C))),ms.map (XG (bS (aZ C))),f1,f2,f3,rfl,gK.mono (B:=B) ⟨k1,k2,k3,k4,fun i hi=>?_,a1,a2,a3,?_,?_,?_,?_,?_,?_⟩ hwB,CO⟩
 ·rw[hnm i hi]
  exact(show Own Y N 9 1 encStr (H (sl i).a (sl i).n (sl i).c) _ from Gv hN (hsl i hi)).mono hN
 ·show _=C.E.map (fI (bS (aZ C)))
  rw[←h1,List.map_map,List.map_map];exact List.map_congr_left (fun x _=>rfl)
 ·show _=C.D.map _
  rw[←h2,List.map_map,List.map_map];exact List.map_congr_left (fun x _=>rfl)
 ·show _=C.M.map _
  rw[←h3,List.map_map,List.map_map];exact List.map_congr_left (fun x _=>rfl)
 ·rw[b1];show _=C.SE.map _;rw[←h4,List.map_map];rfl
 ·rw[b2];show _=C.SD.map _;rw[←h5,List.map_map];rfl
 ·rw[b3];show _=C.SM.map _;rw[←h6,List.map_map];rfl
attribute [local go_sem] Oper.semAt_some
theorem y9 {X:World} {b:Nat} {h h':HC} (hb:Bx X b (aC h)):Bx ((((((((X.setCell ⟨b,0,G⟩ h'.t.v).setCell ⟨b,1,G⟩ h'.s.v).setCell ⟨b,2,G⟩ h'.o.v).setCell ⟨b,3,G⟩ h'.p.v).setCell ⟨b,4,G⟩ h'.e.v).setCell ⟨b,5,G⟩ h'.d.v).setCell ⟨b,6,G⟩ h'.m.v).setCell ⟨b,7,G⟩ h'.w.v) b (aC h'):=by
 have:=((((((((hb).aR 0 ak h'.t.v).aR 1 ak h'.s.v).aR 2 ak h'.o.v).aR 3 ak h'.p.v).aR 4 ak h'.e.v).aR 5 ak h'.d.v).aR 6 ak h'.m.v).aR 7 ak h'.w.v
 simpa[aC] using this
theorem rX {X:World} {b:Nat} {h':HC}:Same (fun i=>i≠b) X ((((((((X.setCell ⟨b,0,G⟩ h'.t.v).setCell ⟨b,1,G⟩ h'.s.v).setCell ⟨b,2,G⟩ h'.o.v).setCell ⟨b,3,G⟩ h'.p.v).setCell ⟨b,4,G⟩ h'.e.v).setCell ⟨b,5,G⟩ h'.d.v).setCell ⟨b,6,G⟩ h'.m.v).setCell ⟨b,7,G⟩ h'.w.v):=(((((((((Same.refl' X)).setTail (fun hn=>hn rfl)).setTail (fun hn=>hn rfl)).setTail (fun hn=>hn rfl)).setTail (fun hn=>hn rfl)).setTail (fun hn=>hn rfl)).setTail (fun hn=>hn rfl)).setTail (fun hn=>hn rfl)).setTail (fun hn=>hn rfl)
theorem Row.ah3 (w:World) (s:Bs):Row (w.alloc (J #[.string ⟨s.toArray⟩] 9)) 1 encStr (S ⟨w.heap.size,0,G⟩) 1 1 [s]:=
 (Own.new (hc:=iM) w w.heap.size 9 #[.string ⟨s.toArray⟩] [s] (Nat.le_refl _) rfl (by simp[maxLen])).row ak
theorem U0.lay {w X:World} {h:HC} {es:O EvC} {ds:O aH} {ms:O aI} {c:Cont} (o:U0 w X h es ds ms c) (h1:∀L∈c.SE,L.length≤2000000) (h2:∀L∈c.SD,L.length≤2000000) (h3:∀L∈c.SM,L.length≤2000000):
  ∃scan dn mn,Lay X w.heap.size h es ds ms c.Q scan dn mn∧es.map scan=c.SE∧ds.map dn=c.SD∧ms.map mn=c.SM:=by
 obtain⟨f1,a1,b1⟩:=jG.fn (hc:=kV) Ei (val:=EvC.val) (a:=EvC.sa) (n:=EvC.sn) (q:=EvC.sc) (fun _=>rfl) o.fe o.le (fun L hL=>by have:=h1 L hL;omega);obtain⟨f2,a2,b2⟩:=jG.fn (hc:=eG) rF (val:=aH.val) (a:=aH.sa) (n:=aH.sn) (q:=aH.sc) (fun _=>rfl) o.fd o.ld (fun L hL=>by have:=h2 L hL;omega);obtain⟨f3,a3,b3⟩:=jG.fn (hc:=eG) rF (val:=aI.val) (a:=aI.sa) (n:=aI.sn) (q:=aI.sc) (fun _=>rfl) o.fm o.lm (fun L hL=>by have:=h3 L hL;omega);exact⟨f1,f2,f3,⟨o.oe,o.od,o.om,o.oq,a1,a2,a3,o.fe.pair,o.fd.pair,o.fm.pair,o.fx⟩,b1,b2,b3⟩
theorem l6 {α β γ:Type} (f:α→β) (g:α→γ):∀l:O α,(l.map f).zip (l.map g)=l.map (fun x=>(f x,g x))
 |[]=>rfl
 |x::l=>congrArg ((f x,g x):: ·) (l6 f g l)
theorem LV {es:O EvC} {ds:O aH} {ms:O aI} {scan:EvC→O Sn} {dn:aH→O I} {mn:aI→O I} {c:Cont} (h1:es.map EvC.base=c.E) (h2:ds.map aH.base=c.D) (h3:ms.map aI.base=c.M) (h4:es.map scan=c.SE) (h5:ds.map dn=c.SD) (h6:ms.map mn=c.SM):
  yY es ds ms c.Q scan dn mn=aZ c:=by
 unfold aZ yY;rw[←h1,←h2,←h3,←h4,←h5,←h6,l6,l6,l6,List.flatMap_map,List.flatMap_map,List.flatMap_map]
 rfl
theorem FI (h:HC) (nl:Nat→O Bs) (es:O EvC) (ds:O aH) (ms:O aI) (qs:O Wa) (scan:EvC→O Sn) (dn:aH→O I) (mn:aI→O I) (w:World) (hg:zC w)
  (hn:∀i,i<4→Row w 1 encStr (h.nm i).a (h.nm i).n (h.nm i).c (nl i)) (hd:Deep w h es ds ms qs scan dn mn) (hB:Iz nl es ds ms qs scan dn mn) (hS:uf h nl es ds ms qs scan dn mn=true)
  (C:Cont) (hC:C=uX es.length nl es ds ms qs scan dn mn) (hbare:∀e∈C.E,Ca e) (htold:∀x∈aZ C,∃s:Nat,s<4∧x.1=(s:I)∧aT x.2 (C.nl s).length=true) (XP:∀s:Nat,s<4→(bS (aZ C) (s:I)).length≤300∧(C.nl s).length≤300):
  Calls Tryz.prog 44 #[eF h] w (OZ w (fB C)):=by
 refine(callsIn_wide (n:=3)).1 ?_;refine callsIn_of_wp_marks Tryz.func44 rfl trivial ?_ rfl;simp only[Tryz.ntmps44,List.size_toArray,List.length_cons,List.length_nil,Nat.reduceAdd,Nat.reduceSub,Array.replicate_succ,Array.replicate_zero,List.push_toArray,List.append_toArray,List.nil_append,List.cons_append];refine wpIn_wide.2 ?_;have hb0:Below w.heap.size w ((w.alloc (J (aC h) 41)).alloc (J #[H G 0 0,H G 0 0,H G 0 0,H G 0 0,H G 0 0,H G 0 0,H G 0 0,H G 0 0] 41)):=((Below.refl _ _).alloc (Nat.le_refl _) _).alloc ak _;have J9:=U (Oh h nl es ds ms qs scan dn mn _ (hg.below hb0) (fun i hi=>(hn i hi).below hb0 rfl) (hd.below hb0 rfl));rw[hS] at J9;have HOWN:=U (fun W (hW:Below w.heap.size w W)=>(by have:=LM h nl es ds ms qs scan dn mn W (fun i hi=>(hn i hi).below hW rfl) (hd.below hW rfl) hB;rw[←hC] at this;exact this:Calls Tryz.prog 106 #[eF h] W (Iy W C)));have fM:=U ((Bx.new w (aC h) 41).alloc (J #[H G 0 0,H G 0 0,H G 0 0,H G 0 0,H G 0 0,H G 0 0,H G 0 0,H G 0 0] 41));have hbr:=Bx.new (w.alloc (J (aC h) 41)) #[H G 0 0,H G 0 0,H G 0 0,H G 0 0,H G 0 0,H G 0 0,H G 0 0,H G 0 0] 41;rw[World.size_alloc] at hbr;have yN:=U hbr;have hbt:((w.alloc (J (aC h) 41)).alloc (J #[H G 0 0,H G 0 0,H G 0 0,H G 0 0,H G 0 0,H G 0 0,H G 0 0,H G 0 0] 41)).heap[w.heap.size]?=S (J (aC h) 41 (0,0)):=(Below.heap_alloc _ _ _ ak).trans (World.alloc_heap_new w _);have Z6:=U hbt;have HB0:=U hb0;have EJ:Hid ((∀L∈C.SE,L.length≤2000000)∧(∀L∈C.SD,L.length≤2000000)∧(∀L∈C.SM,L.length≤2000000)):=U (by
  rw[hC];refine⟨fun L hL=>?_,fun L hL=>?_,fun L hL=>?_⟩
  ·obtain⟨x,hx,rfl⟩:=List.mem_map.1 hL;exact hB.2.2.2.2.2.1 x (List.mem_of_mem_take hx)
  ·obtain⟨x,hx,rfl⟩:=List.mem_map.1 hL;exact hB.2.2.2.2.2.2.1 x hx
  ·obtain⟨x,hx,rfl⟩:=List.mem_map.1 hL;exact hB.2.2.2.2.2.2.2 x hx)
 have Br:Hid (C.E.length≤2000000∧C.D.length≤2000000∧C.M.length≤2000000∧C.Q.length≤2000000):=U (by
  rw[hC];refine⟨?_,?_,?_,hB.2.2.2.1⟩
  ·show((es.take es.length).map _).length≤_;rw[List.length_map,List.length_take];have:=hB.1;omega
  ·show(ds.map _).length≤_;rw[List.length_map];exact hB.2.1
  ·show(ms.map _).length≤_;rw[List.length_map];exact hB.2.2.1)
 have afn:=U hbare;have afo:=U htold;have pz:=U XP;clear hC hS hb0 hbr hd hg hn hB hbare htold XP hbt;obtain⟨W0,hW0⟩:∃W,W=(w.alloc (J (aC h) 41)).alloc (J #[H G 0 0,H G 0 0,H G 0 0,H G 0 0,H G 0 0,H G 0 0,H G 0 0,H G 0 0] 41):=⟨_,rfl⟩;rw[←hW0] at J9 fM yN HB0 Z6;go_wp2_with fail;rw[←hW0];clear hW0;refine J9.q.mono ?_;rintro e w1 ⟨rfl,hb1⟩;have HB1:=U (HB0.q.bq hb1);have cK:=U (fM.q.keep hb1);have HR1:=U (yN.q.keep hb1);have ah4:=U ((hb1.block _ fM.q.2.2).trans Z6.q);have ah5:=cK.q.1;clear hb1;go_wp2_with fail;refine(HOWN.q w1 HB1.q).mono ?_;rintro e w2 ⟨h',es',ds',ms',rfl,MZ⟩;have cO:=U (cK.q.keep MZ.b);have HR2:=U (HR1.q.keep MZ.b);have HB2:=U (HB1.q.trans (MZ.b.mono HB1.q.size));have ala:=U ((MZ.b.block _ cK.q.2.2).trans ah4.q);have jN:=U MZ;have hcx:=cO.q.1;have hfx:=cO.q.2.1;have hlx:=cO.q.2.2;clear MZ ah5;go_wp2_with fail;obtain⟨W3,hW3⟩:∃W,W=((((((((w2.setCell ⟨w.heap.size,0,G⟩ h'.t.v).setCell ⟨w.heap.size,1,G⟩ h'.s.v).setCell ⟨w.heap.size,2,G⟩ h'.o.v).setCell ⟨w.heap.size,3,G⟩ h'.p.v).setCell ⟨w.heap.size,4,G⟩ h'.e.v).setCell ⟨w.heap.size,5,G⟩ h'.d.v).setCell ⟨w.heap.size,6,G⟩ h'.m.v).setCell ⟨w.heap.size,7,G⟩ h'.w.v):=⟨_,rfl⟩;have Br:Hid (es'.length≤140737488355328∧ds'.length≤140737488355328∧ms'.length≤140737488355328∧C.Q.length≤140737488355328):=U (by
  have:=Br.q;have e1:es'.length=C.E.length:=by rw[←jN.q.be,List.length_map]
  have e2:ds'.length=C.D.length:=by rw[←jN.q.bd,List.length_map]
  have e3:ms'.length=C.M.length:=by rw[←jN.q.bm,List.length_map]
  omega)
 have gL:Hid (Bx W3 w.heap.size (aC h')):=U (by rw[hW3];exact y9 cO.q);have Ka:Hid (Same (fun i=>i≠w.heap.size) w2 W3):=U (by rw[hW3];exact rX);rw[←hW3];clear hW3 hcx hfx hlx;have HR3:=U (Ka.q.bx HR2.q ah);have HB3:Hid (Below w.heap.size w W3):=U (Ka.q.below HB2.q (fun i hi=>by omega) HB2.q.size);have wO:Hid (w.heap.size+1<W3.heap.size):=U HR3.q.2.2;have acd:w.heap.size+1<w1.heap.size:=HR1.q.2.2;have Vd:=U acd;have ah6:Hid (∃jH ku oD,Lay W3 w1.heap.size h' es' ds' ms' C.Q jH ku oD∧es'.map jH=C.SE∧ds'.map ku=C.SD∧ms'.map oD=C.SM):=U (by
  obtain⟨f1,f2,f3,hl,b1,b2,b3⟩:=jN.q.lay EJ.q.1 EJ.q.2.1 EJ.q.2.2;exact⟨f1,f2,f3,hl.same (Ka.q.mono (fun i hi _=>by omega)),b1,b2,b3⟩)
 have XO:Hid (∀q,q<4→Own W3 w1.heap.size 9 1 encStr (h'.nm q).v (C.nl q)):=U (fun q hq=>(jN.q.on q hq).same Ka.q (fun g hg e=>by have:=((jN.q.on q hq).lt g hg).1;omega));clear acd;refine(jC h' W3).mono ?_;rintro e w4 ⟨rfl,hb4⟩;have eH:=U hb4;clear hb4;have hmm:= @run_makeMap Tryz.prog
 go_wp2_with (go_at_call 57;refine(Ru _ _).mono ?_;rintro e w' ⟨rfl,rfl⟩)
 clear hmm;have wF:(((((w4.alloc (J #[h'.t.v,h'.s.v,h'.o.v,h'.p.v] 101)).alloc (J #[H G 0 0,H G 0 0,H G 0 0,H G 0 0] 101)).alloc (.map #[] 0)).alloc (J #[.map (S (w4.heap.size+2))] 172)).alloc (J #[.pointer (S ⟨w.heap.size,0,G⟩)] 113)).heap.size=w4.heap.size+5:=by simp
 have Rv:Below w4.heap.size w4 (((((w4.alloc (J #[h'.t.v,h'.s.v,h'.o.v,h'.p.v] 101)).alloc (J #[H G 0 0,H G 0 0,H G 0 0,H G 0 0] 101)).alloc (.map #[] 0)).alloc (J #[.map (S (w4.heap.size+2))] 172)).alloc (J #[.pointer (S ⟨w.heap.size,0,G⟩)] 113)):=((((Below.refl _ _).alloc (Nat.le_refl _) _).alloc ak _).alloc (by simp;omega) _).alloc (by simp;omega) _|>.alloc (by simp;omega) _;have XQ:Bx (((((w4.alloc (J #[h'.t.v,h'.s.v,h'.o.v,h'.p.v] 101)).alloc (J #[H G 0 0,H G 0 0,H G 0 0,H G 0 0] 101)).alloc (.map #[] 0)).alloc (J #[.map (S (w4.heap.size+2))] 172)).alloc (J #[.pointer (S ⟨w.heap.size,0,G⟩)] 113)) w4.heap.size #[h'.t.v,h'.s.v,h'.o.v,h'.p.v]:=((((Bx.new w4 _ _).alloc _).alloc _).alloc _).alloc _;have XR:Bx (((((w4.alloc (J #[h'.t.v,h'.s.v,h'.o.v,h'.p.v] 101)).alloc (J #[H G 0 0,H G 0 0,H G 0 0,H G 0 0] 101)).alloc (.map #[] 0)).alloc (J #[.map (S (w4.heap.size+2))] 172)).alloc (J #[.pointer (S ⟨w.heap.size,0,G⟩)] 113)) (w4.heap.size+1) (rV fun _=>⟨G,0,0⟩):=by
  have:=(((Bx.new (w4.alloc (J #[h'.t.v,h'.s.v,h'.o.v,h'.p.v] 101)) #[H G 0 0,H G 0 0,H G 0 0,H G 0 0] 101).alloc (.map #[] 0)).alloc (J #[.map (S (w4.heap.size+2))] 172)).alloc (J #[.pointer (S ⟨w.heap.size,0,G⟩)] 113);rw[World.size_alloc] at this;exact this
 have XT:Bx (((((w4.alloc (J #[h'.t.v,h'.s.v,h'.o.v,h'.p.v] 101)).alloc (J #[H G 0 0,H G 0 0,H G 0 0,H G 0 0] 101)).alloc (.map #[] 0)).alloc (J #[.map (S (w4.heap.size+2))] 172)).alloc (J #[.pointer (S ⟨w.heap.size,0,G⟩)] 113)) (w4.heap.size+3) #[.map (S (w4.heap.size+2))]:=by
  have:=(Bx.new (((w4.alloc (J #[h'.t.v,h'.s.v,h'.o.v,h'.p.v] 101)).alloc (J #[H G 0 0,H G 0 0,H G 0 0,H G 0 0] 101)).alloc (.map #[] 0)) #[.map (S (w4.heap.size+2))] 172).alloc (J #[.pointer (S ⟨w.heap.size,0,G⟩)] 113);rw[World.size_alloc,World.size_alloc,World.size_alloc] at this;exact this
 have XU:Bx (((((w4.alloc (J #[h'.t.v,h'.s.v,h'.o.v,h'.p.v] 101)).alloc (J #[H G 0 0,H G 0 0,H G 0 0,H G 0 0] 101)).alloc (.map #[] 0)).alloc (J #[.map (S (w4.heap.size+2))] 172)).alloc (J #[.pointer (S ⟨w.heap.size,0,G⟩)] 113)) (w4.heap.size+4) #[.pointer (S ⟨w.heap.size,0,G⟩)]:=by
  have:=Bx.new ((((w4.alloc (J #[h'.t.v,h'.s.v,h'.o.v,h'.p.v] 101)).alloc (J #[H G 0 0,H G 0 0,H G 0 0,H G 0 0] 101)).alloc (.map #[] 0)).alloc (J #[.map (S (w4.heap.size+2))] 172)) #[.pointer (S ⟨w.heap.size,0,G⟩)] 113;rw[World.size_alloc,World.size_alloc,World.size_alloc,World.size_alloc] at this;exact this
 have XV:ko Tryz.prog 70 3 (((((w4.alloc (J #[h'.t.v,h'.s.v,h'.o.v,h'.p.v] 101)).alloc (J #[H G 0 0,H G 0 0,H G 0 0,H G 0 0] 101)).alloc (.map #[] 0)).alloc (J #[.map (S (w4.heap.size+2))] 172)).alloc (J #[.pointer (S ⟨w.heap.size,0,G⟩)] 113)) (w4.heap.size+2) 0 (fun _ _=>G):=by
  have h0:=ko.new (P:=Tryz.prog) (k:=70) (e:=3) ((w4.alloc (J #[h'.t.v,h'.s.v,h'.o.v,h'.p.v] 101)).alloc (J #[H G 0 0,H G 0 0,H G 0 0,H G 0 0] 101));have e1:((w4.alloc (J #[h'.t.v,h'.s.v,h'.o.v,h'.p.v] 101)).alloc (J #[H G 0 0,H G 0 0,H G 0 0,H G 0 0] 101)).heap.size=w4.heap.size+2:=by simp
  rw[e1] at h0;exact h0.of_eq ((Below.heap_alloc _ _ _ ak).trans (Below.heap_alloc _ _ _ ak))
 have hVT:(((((w4.alloc (J #[h'.t.v,h'.s.v,h'.o.v,h'.p.v] 101)).alloc (J #[H G 0 0,H G 0 0,H G 0 0,H G 0 0] 101)).alloc (.map #[] 0)).alloc (J #[.map (S (w4.heap.size+2))] 172)).alloc (J #[.pointer (S ⟨w.heap.size,0,G⟩)] 113)).heap[w.heap.size]?=W3.heap[w.heap.size]?:=(Rv.block _ (by have:=eH.q.size;have:=wO.q;omega)).trans (eH.q.block _ (by have:=wO.q;omega));revert wF Rv XQ XR XT XU XV hVT;generalize((((w4.alloc (J #[h'.t.v,h'.s.v,h'.o.v,h'.p.v] 101)).alloc (J #[H G 0 0,H G 0 0,H G 0 0,H G 0 0] 101)).alloc (.map #[] 0)).alloc (J #[.map (S (w4.heap.size+2))] 172)).alloc (J #[.pointer (S ⟨w.heap.size,0,G⟩)] 113)=V;intro wF Rv XQ XR XT XU XV hVT;obtain⟨jH,ku,oD,uo,q1,q2,q3⟩:=ah6.q;have HL:=U uo;have HQ:=U (⟨q1,q2,q3⟩:_∧_∧_);have XW:W3.heap.size≤w4.heap.size:=eH.q.size;have FJ:Below W3.heap.size W3 V:=eH.q.trans (Rv.mono XW);have hsp:yY es' ds' ms' C.Q jH ku oD=aZ C:=LV jN.q.be jN.q.bd jN.q.bm q1 q2 q3;obtain⟨xs,hxs⟩:∃xs,xs=aJ h' es' ds' ms' C.Q jH ku oD:=⟨_,rfl⟩;have XY:jq W3 xs=aZ C:=by rw[hxs,←hsp];exact uo.vals
 have M0:=U hxs;have Ve:=U XY;have ah7:Hid (∀p∈xs,∃g o,p.2=(⟨g,o,G⟩:Addr)):=U (by rw[hxs];exact mE.all _ _ _ _ _ _ _ _);have ah8:Hid (∀p∈xs,∃n,W3.cell? p.2=S (.int .i64 n)):=U (by rw[hxs];exact uo.ints);have afp:Hid (∀p∈xs,Bq W3 p.2.block∧w1.heap.size≤p.2.block):=U (by rw[hxs];exact fun p hp=>uo.soft hp);have ah9:Hid ((xs.map Prod.snd).Nodup):=U (by rw[hxs];exact uo.nodup);have afq:Hid (Deep W3 h' es' ds' ms' C.Q jH ku oD):=U ⟨(show Own W3 w1.heap.size 65 9 cZ (H h'.e.a h'.e.n h'.e.c) es' from uo.oe).row (hc:=qF) Br.q.1,(show Own W3 w1.heap.size 79 2 dD (H h'.d.a h'.d.n h'.d.c) ds' from uo.od).row (hc:=pI) Br.q.2.1,(show Own W3 w1.heap.size 81 4 dx (H h'.m.a h'.m.n h'.m.c) ms' from uo.om).row (hc:=ny) Br.q.2.2.1,(show Own W3 w1.heap.size 83 2 eu (H h'.w.a h'.w.n h'.w.c) C.Q from uo.oq).row (hc:=qE) Br.q.2.2.2,
  fun x hx=>(show Own W3 w1.heap.size 148 3 bV (H x.sa x.sn x.sc) (jH x) from uo.se x hx).row (hc:=kV) (by have:=EJ.q.1 (jH x) (by rw[←q1];exact List.mem_map_of_mem hx);omega),
  fun x hx=>(show Own W3 w1.heap.size 3 1 aQ (H x.sa x.sn x.sc) (ku x) from uo.sd x hx).row (hc:=eG) (by have:=EJ.q.2.1 (ku x) (by rw[←q2];exact List.mem_map_of_mem hx);omega),
  fun x hx=>(show Own W3 w1.heap.size 3 1 aQ (H x.sa x.sn x.sc) (oD x) from uo.sm x hx).row (hc:=eG) (by have:=EJ.q.2.2 (oD x) (by rw[←q3];exact List.mem_map_of_mem hx);omega)⟩
 have hI0:NI w W3 (V.heap.size+5) w4.heap.size (w4.heap.size+1) (w4.heap.size+3) (w4.heap.size+2) h' C.nl (bS (aZ C)) xs [] V:=
  ⟨fun p hp=>(by cases hp),HB3.q.bq FJ,Moved.start (Same.of_below FJ (fun i hi _=>hi)),gL.q.keep FJ,HR3.q.keep FJ,XQ,⟨fun _=>⟨G,0,0⟩,XR,fun s _=>Own.iE _ _ _ _ _,fun _ _ _ _ _ g hg=>by cases hg⟩,XT,XV⟩
 have HI0:=U hI0;have Aq:=U wF;have vC:=U XW;have ah':=U FJ;have HVP:=U XU;clear hI0 Rv XQ XR XT XU XV hVT FJ q1 q2 q3 uo hsp hxs XY;refine wpIn_wide.1 (Ox (n:=3) (gf:=137) (lb:=#[.pointer (S ⟨w4.heap.size+4,0,G⟩)]) (by simp[go_sem]) Kb
  (qD:=Ip) (k:=3) (D:=fun i=>i=w.heap.size∨i=w4.heap.size+4∨(V.heap.size+2≤i∧i<V.heap.size+5)) (R:=wG (fun a=>∃g j,a=(⟨g,j,G⟩:Addr)∧∀s,(s,a)∉xs) W3) (xs:=xs)
  (fun W hW hWs=>by
   have e:=M0.q;have Vf:Below W3.heap.size W3 W:=ah'.q.bq hW;rw[e];exact J3 h' es' ds' ms' C.Q jH ku oD w.heap.size (w4.heap.size+4) _ _ W3 W afq.q (gL.q.keep Vf) (HVP.q.keep hW) (fun a v _ hc=>aM Vf rfl hc) Vf.size (.inl rfl) (.inr (.inl rfl))
    (fun b o ha k hk j hj=>⟨b,_,rfl,fun s=>HL.q.afe ha hj s⟩) (fun e he b o ha j hj=>⟨b,_,rfl,fun s=>HL.q.fQ he ha s⟩)
    (fun b o ha k hk=>⟨b,_,rfl,fun s=>HL.q.aff ha s⟩) (fun b o ha k hk=>⟨b,_,rfl,fun s=>HL.q.afg ha s⟩) (fun i h1 h2=> .inr (.inr ⟨by omega,by omega⟩))) (by have:=wO.q;omega)
  (fun x args X hx=>by rw[hx];rfl)
  (NI w W3 (V.heap.size+5) w4.heap.size (w4.heap.size+1) (w4.heap.size+3) (w4.heap.size+2) h' C.nl (bS (aZ C)) xs)
  (fun _ _ _=>False)
  (fun pre X Y hh k=>hh.same (V:=V.heap.size) (k.mono (fun i hi _=>by omega)) (Nat.le_refl _) ah (by have:=wO.q;omega) ah ah ah ah)
  (fun c pre X Y hh k=>hh)
  (fun pre X hh a v hC hc=>by
   obtain⟨g,j,rfl,hno⟩:=hC;exact hh.m.cell hc (fun s hs=>hno s (hh.sub _ hs)))
  (fun c pre X hh=>hh.elim)
  HI0.q ?round ?done ?stop)
 case stop=>
  intro c pre X _ hh;exact hh.elim
 case round=>
  rintro pre ⟨x1,a0⟩ args X hI hpre rfl hsz m;have hmem:(x1,a0)∈xs:=hpre.subset ak;obtain⟨b,o,ha0⟩:=ah7.q _ hmem;simp only at ha0;subst ha0;obtain⟨n,hn0⟩:=ah8.q _ hmem;simp only at hn0;have hval:iw W3 (x1,⟨b,o,G⟩)=(x1,n):=by unfold iw;rw[jl hn0]
  have htm:(x1,n)∈aZ C:=by rw[←Ve.q,←hval];exact List.mem_map_of_mem hmem
  obtain⟨s,hs4,hs1,hs2⟩:=afo.q _ htm;simp only at hs1 hs2;subst hs1;obtain⟨k,rfl,hk⟩:=wP hs2;have hnot:∀s',(s',(⟨b,o,G⟩:Addr))∉pre:=fun s' hs'=>by
   obtain⟨t,ht⟩:=hpre;have hnd:=ah9.q;rw[←ht,List.map_append,List.map_append] at hnd;have:=(List.nodup_append.1 (List.nodup_append.1 hnd).1).2.2 _ (List.mem_map_of_mem hs') _ (List.mem_map_of_mem (List.mem_singleton.2 rfl));exact this rfl
  have hpv:jq W3 (pre++[((s:I),(⟨b,o,G⟩:Addr))])=jq W3 pre++[((s:I),(k:I))]:=by unfold jq;rw[List.map_append,List.map_singleton,hval]
  have hpf:jq W3 pre++[((s:I),(k:I))]<+:aZ C:=by rw[←hpv,←Ve.q];exact hpre.map _
  have XZ:=U hpv;have yE:=U (Vb hpre);have HSF:=U (afp.q _ hmem);have alb:=U hmem;have oN:=U hn0;have Vg:=U hnot;have HK:=U hk;have X0:=U hpf;clear hval htm hs2 hmem hpre hn0 hnot hpv hpf hk
  gi_wp2
  refine⟨Below.refl _ _,fun X2 hk2=>?_⟩;have hI2:=hI.same (V:=V.heap.size) (hk2.mono (fun i hi _=>by omega)) (Nat.le_refl _) (by have:=vC.q;omega) (by have:=wO.q;have:=vC.q;omega) ah ah ah ah;have hz2:V.heap.size+5≤X2.heap.size:=by have:=hk2.size;omega
  have hc2:=hI2.m.cell oN.q Vg.q;have hf2:=(hI2.m.soft HSF.q.1).frozen (j:=o);have hbl:b<W3.heap.size:=by obtain⟨cs,T,e⟩:=HSF.q.1;exact(Array.getElem?_eq_some_iff.1 e).1
  have Al:=U (⟨hbl,HSF.q.2⟩:b<W3.heap.size∧w1.heap.size≤b);obtain⟨⟨na,nn,nc⟩,hns⟩:∃z:Sl,z=h'.nm s:=⟨_,rfl⟩;have hrow:=(show Own X2 w1.heap.size 9 1 encStr (H (h'.nm s).a (h'.nm s).n (h'.nm s).c) (C.nl s) from LQ HL.q (fun p hp=>by rw[←M0.q];exact hI2.sub p hp) hI2.m (XO.q s hs4)).row (hc:=iM) (by have:=(pz.q s hs4).2;omega);have hcw:X2.cell? ⟨w4.heap.size,s,G⟩=S (h'.nm s).v:=(hI2.ws.1 s).trans (nQ h'.nm hs4);rw[←hns] at hrow hcw;simp only at hrow;obtain⟨nm,gb,go,hnm,hab,hcn⟩:=hrow.at_ (i:=k) (by rw[←hrow.len];exact HK.q);subst hab;have hkn:k<nn:=by rw[←hrow.len];exact HK.q
  have HNS:=U hns;clear hns;obtain⟨sl,qm,hown,hap⟩:=hI2.wa;have hca:X2.cell? ⟨w4.heap.size+1,s,G⟩=S (sl s).v:=(qm.1 s).trans (nQ sl hs4);have hcm:=hI2.mv.1 0;have acg:(Lit.int .i64 (s:I)).wf=true:=WalkArith.wf_i64 ah;have hkl:k<300:=by have:=(pz.q s hs4).2;have:=HK.q;omega
  have ach:(Lit.int .i64 (k:I)).wf=true:=WalkArith.wf_i64 ah;have je:=av (Below.refl X2.heap.size X2) (J #[.int .i64 (s:I),.int .i64 (k:I)] 70);have Kc:=hI2.mp.of_eq (je.block _ hI2.mp.lt);have hlk:(Instr.lookup 172 (.map (S (w4.heap.size+1+1))) (.agg #[.int .i64 (s:I),.int .i64 (k:I)]) true).run Tryz.prog (X2.alloc (J #[.int .i64 (s:I),.int .i64 (k:I)] 70))= .ok (.tuple #[.int .i64 ((Ap (jq W3 pre) (s:I) (k:I)).getD 0),.bool (Ap (jq W3 pre) (s:I) (k:I)).isSome]) (X2.alloc (J #[.int .i64 (s:I),.int .i64 (k:I)] 70)):=Kc.ab7 Rp underlying172 underlying3 (Zf _) (Rq acg ach);have hcm1:((X2.alloc (J #[.int .i64 (s:I),.int .i64 (k:I)] 70))).cell? ⟨w4.heap.size+1+1+1,0,G⟩=S (.map (S (w4.heap.size+1+1))):=aM je rfl hcm;have hcA:=(Bx.new X2 #[.int .i64 (s:I),.int .i64 (k:I)] 70).1;have alc:=hcA 0;have ald:=hcA 1;have hfb:((X2.alloc (J #[.int .i64 (s:I),.int .i64 (k:I)] 70))).cell? ⟨b,o,G⟩=S (.int .i64 (k:I)):=aM je rfl hc2;have hff:((X2.alloc (J #[.int .i64 (s:I),.int .i64 (k:I)] 70))).frozen? ⟨b,o,G⟩=false:=(World.frozen?_of_block (a:=⟨b,o,G⟩) (je.block b (by have:=eH.q.size;omega))).trans hf2;have HI2:=U hI2;by_cases hin:(k:I)∈bS (jq W3 pre) (s:I)
  ·have hno:Ap (jq W3 pre) (s:I) (k:I)=S ((bS (jq W3 pre) (s:I)).idxOf (k:I):I):=if_pos hin
   rw[hno] at hlk;simp only[Option.getD_some,Option.isSome_some] at hlk;obtain⟨q,hq⟩:∃q:Nat,q=(bS (jq W3 pre) (s:I)).idxOf (k:I):=⟨_,rfl⟩;rw[←hq] at hlk;have HQQ:=U hq;have Ao:=U hin;clear hno hq hin hrow hcn hnm hown hap qm Kc hI2 hI hcA hcm hca hcw;have Ke:=HI2.q.same (V:=V.heap.size) (Same.of_below je (fun i hi hl=>hl)) (Nat.le_refl _) (by have:=vC.q;omega) (by have:=wO.q;have:=vC.q;omega) ah ah ah ah;rw[wF] at Ke;have vO:=U Ke;have iN:=U je;have HV:Hid ((q:I)=fG (bS (aZ C) (s:I)) (k:I)):=U (by rw[M4 (wh _ ((List.prefix_append _ _).trans X0.q)) Ao.q,HQQ.q]);clear Ke je
   gi_wp2
   have hb1:=Al.q.1;have hb2:=Al.q.2;have hb3:=vC.q;have hb4:=Vd.q;refine⟨⟨(Below.heap_setCell _ _ _ _ (by simp;omega)).trans (iN.q.block _ ah),(Below.heap_setCell _ _ _ _ (by simp;omega)).trans (iN.q.block _ ah)⟩,?_,?_⟩
   ·exact(aP.of_below iN.q (fun i _ hi=>hi)).trans (aP.setCell _ b o _ ah)
   ·exact NI.fin yE.q vO.q.b vO.q.m vO.q.bx vO.q.r vO.q.ws (by rw[XZ.q,Bp Ao.q];exact vO.q.wa) vO.q.mv (by rw[XZ.q,OY Ao.q,Rt Ao.q];exact vO.q.mp) Vg.q oN.q HV.q ah ah ah ah ah ah
  ·have hno:Ap (jq W3 pre) (s:I) (k:I)=G:=if_neg hin
   rw[hno] at hlk;simp only[Option.getD_none,Option.isSome_none] at hlk;obtain⟨⟨sa,sn,sc⟩,hsl⟩:∃z,z=sl s:=⟨_,rfl⟩;have hown0:=hown s hs4;rw[←hsl] at hown0 hca;have hsn:sn=(bS (jq W3 pre) (s:I)).length:=by
    obtain⟨_,_,q,_⟩:=hown0.shape;simp only[Sl.v,Value.slice.injEq] at q;rw[q.2.1,List.length_map]
   have aci:sn≤300:=by rw[hsn];exact Nat.le_trans (wh _ ((List.prefix_append _ _).trans X0.q)).length_le (pz.q s hs4).1
   have hwfn:(Lit.int .i64 (sn:I)).wf=true:=WalkArith.wf_i64 ah;have hFN:yG (jq W3 pre)≤1200:=by
    have e:∀q:Nat,q<4→(bS (jq W3 pre) (q:I)).length≤300:=fun q hq=>Nat.le_trans (wh _ ((List.prefix_append _ _).trans X0.q)).length_le (pz.q q hq).1
    have e0:=e 0 ah;have e1:=e 1 ah;have e2:=e 2 ah;have e3:=e 3 ah;unfold yG;exact Nat.le_trans (Nat.add_le_add (Nat.add_le_add (Nat.add_le_add e0 e1) e2) e3) ah
   obtain⟨W5,acj,O0,hg5⟩:=Kc.put Rp underlying172 underlying3 (by unfold maxLen;omega) (Rq acg ach) hwfn;have akZ:(Instr.mapUpdate 172 (.map (S (w4.heap.size+1+1))) (.agg #[.int .i64 (s:I),.int .i64 (k:I)]) (.int .i64 (sn:I))).run Tryz.prog (X2.alloc (J #[.int .i64 (s:I),.int .i64 (k:I)] 70))= .ok () W5:=acj;rw[hsn,←Zh hin,←Va hs4 hin] at O0;have Ke:=HI2.q.same (V:=V.heap.size) (Same.of_below je (fun i hi hl=>hl)) (Nat.le_refl _) (by have:=vC.q;omega) (by have:=wO.q;have:=vC.q;omega) ah ah ah ah;have hs5:Same (fun i=>i≠w4.heap.size+2) (X2.alloc (J #[.int .i64 (s:I),.int .i64 (k:I)] 70)) W5:=⟨hg5.os,hg5.tape,hg5.output,hg5.size,fun i hi hl=>hg5.block i hl (fun e=>hi (by injection e))⟩;rw[wF] at Ke hown0;have hmN:W5.heap[w4.heap.size+2]?≠G:=by have:=O0.lt;simp;omega
   have hown5:Own W5 (w4.heap.size+5+5) 9 1 encStr (H sa sn sc) ((bS (jq W3 pre) (s:I)).map (aN (C.nl s))):=(hown0.below je rfl).same hs5 (fun g hg e=>by have:=(hown0.lt g hg).1;omega);have acn:W5.cell? ⟨w4.heap.size+1,s,G⟩=S (H sa sn sc):=hs5.EI (aM je rfl hca) ah;have aco:W5.cell? ⟨w4.heap.size,s,G⟩=S (H (S ⟨gb,go,G⟩) nn nc):=hs5.EI (aM je rfl hcw) ah;have hb1:=Al.q.1;have hb2:=Al.q.2;have hb3:=vC.q;have hb4:=Vd.q;have acp:W5.cell? ⟨b,o,G⟩=S (.int .i64 (k:I)):=hs5.EI hfb ah;have Vh:X2.cell? ⟨gb,go+k,G⟩=S (.string ⟨nm.toArray⟩):=by have:=hcn 0 _ rfl;simpa using this
   have acr:W5.cell? ⟨gb,go+k,G⟩=S (.string ⟨nm.toArray⟩):=hs5.EI (aM je rfl Vh) (fun e=>by
    obtain⟨q,clk,hq⟩:=Kc.obj;have:=aM je rfl Vh;rw[e] at this;unfold World.cell? at this;simp[hq] at this)
   have IE:=U hown5;have vO:=U Ke;have wB:=U hs5;have Vi:=U O0;have iN:=U je;have vH:=U hnm;have Ao:=U hin;have Cu:=U hsn;have HSL:=U hsl;have IG:=U hown;have HWA:=U qm;have acs:=U aci;have Bt:=U hap;have ale:(X2.alloc (J #[.int .i64 (s:I),.int .i64 (k:I)] 70)).cell? ⟨w4.heap.size+1,s,G⟩=S (H sa sn sc):=aM je rfl hca;have iQ:=U (⟨acn,aco,acp,acr⟩:_∧_∧_∧_);have HGB:Hid ((Value.slice sa sn sc).ownBlock≠S gb):=U (fun e=>by have h1:=(hown0.lt _ e).1;have h2:=((XO.q s hs4).lt gb (by rw[←HNS.q];rfl)).2;omega);have hk0:(0:I)≤(k:I):=Int.natCast_nonneg _;have hkn2:(k:I)<(nn:I):=by omega
   have alf:(s:I)<4:=by omega
   obtain⟨i,z,hi,hz,hsize,bP,hzs⟩:=oZ;have HI:=U (⟨hi,hz,hsize,bP,hzs⟩:_∧_∧_∧_∧_);have HLEN:Hid (((bS (jq W3 pre) (s:I)).map (aN (C.nl s))).length+1=sn+1):=U (by rw[List.length_map,←hsn]);have HWF:Hid (Bx W5 (w4.heap.size+1) (rV sl)):=U (hs5.bx (qm.keep je) ah);have HFZ:Hid (W5.frozen? ⟨b,o,G⟩=false):=U ((World.frozen?_of_block (a:=⟨b,o,G⟩) (hs5.block b ah (by have:=je.size;omega))).trans hff);clear hown5 Ke hs5 O0 je hnm hin hsn hsl hown qm aci hap hno acn aco acp acr Vh hcn hrow hown0 Kc hg5 acj hI2 hI hca hcw hcm hi hz hsize bP hzs hFN hwfn hcA hmN
   gi_wp2
   refine wQ 15 [(0,0),(1,0),(2,0),(3,0),(4,0),(5,0),(6,0),(7,0),(8,0),(9,0),(10,0),(11,0),(12,2),(13,2),(14,0),(15,2)] (fun _=>True) (fun W'=>W'.cell? ⟨w4.heap.size+1,s,G⟩=S (H sa sn sc)∧W'.cell? ⟨w4.heap.size,s,G⟩=S (H (S ⟨gb,go,G⟩) nn nc)∧W'.cell? ⟨b,o,G⟩=S (.int .i64 (k:I))∧W'.cell? ⟨gb,go+k,G⟩=S (.string ⟨nm.toArray⟩)) au au au (trivial) (iQ.q) ?_;refine qC ?_;refine aF rfl rfl (fun K hK=>?_);go_simp;have hb6:Below W5.heap.size W5 (W5.alloc (J #[.string ⟨nm.toArray⟩] 9)).drew:=(av (Below.refl W5.heap.size W5) (J #[.string ⟨nm.toArray⟩] 9)).drew;have sZ:=U hb6;refine hK _ _ ⟨trivial,aM hb6 rfl iQ.q.1,aM hb6 rfl iQ.q.2.1,aM hb6 rfl iQ.q.2.2.1,aM hb6 rfl iQ.q.2.2.2⟩ ?_;clear hK K hb6;refine aF rfl rfl (fun K hK=>?_);refine nk _ _ 22 rfl i z 16 underlying22 HI.q.1 HI.q.2.1 HI.q.2.2.1 HI.q.2.2.2.1 HI.q.2.2.2.2 rfl (IE.q.below sZ.q rfl) (S ⟨W5.heap.size,0,G⟩) 1 1 (sn+1) [nm] rfl (Row.ah3 W5 nm) HLEN.q (by have:=acs.q;omega) (by have:=acs.q;unfold maxLen;omega) (Nat.le_trans (by have:=wB.q.size;have:=iN.q.size;omega) sZ.q.size) ?_;intro a' c' W9 oH iC wD;have Jl:Hid (∀g,(Value.slice sa sn sc).ownBlock=S g→w4.heap.size+5+5≤g):=U (fun g hg=>(IE.q.lt g hg).1);have X4:Bx W9 (w4.heap.size+1) (rV sl):=(HWF.q.keep sZ.q).grown iC (fun e=>by have:=Jl.q _ e;omega);have Eo:W9.cell? ⟨w4.heap.size+1,s,G⟩=S (H sa sn sc):=(X4.1 s).trans (by rw[nQ sl hs4,←HSL.q]);have Gw:∀g j v,W5.cell? ⟨g,j,G⟩=S v→(Value.slice sa sn sc).ownBlock≠S g→W9.cell? ⟨g,j,G⟩=S v:=fun g j v hc hne=>(World.cell?_of_block (a:=⟨g,j,G⟩) (iC.block g (Nat.lt_of_lt_of_le (dS hc) sZ.q.size) (fun e=>hne e.symm))).trans (aM sZ.q rfl hc)
   have HW9:=U X4;have yU:=U oH;have jh:=U iC;have TY:=U wD;refine hK _ _ ⟨trivial,Eo,Gw _ _ _ iQ.q.2.1 (fun e=>by have:=Jl.q _ e;omega),Gw _ _ _ iQ.q.2.2.1 (fun e=>by have:=Jl.q _ e;omega),Gw _ _ _ iQ.q.2.2.2 (fun e=>HGB.q e)⟩ ?_;have Qx:=X4.2.1 s;have alg:W9.frozen? ⟨b,o,G⟩=false:=(World.frozen?_of_block (a:=⟨b,o,G⟩) (iC.block b (by have:=sZ.q.size;have:=wB.q.size;have:=iN.q.size;omega) (fun e=>by have:=Jl.q _ e.symm;omega))).trans ((World.frozen?_of_block (a:=⟨b,o,G⟩) (sZ.q.block b (by have:=wB.q.size;have:=iN.q.size;omega))).trans HFZ.q);have alh:=Gw _ _ _ iQ.q.2.2.1 (fun e=>by have:=Jl.q _ e;omega);clear hK K oH iC wD Gw X4;refine qC ?_;refine dN rfl rfl rfl (fun K hK=>?_);go_simp;refine hK _ _ trivial ?_;clear hK K;refine bB ?_
   gi_wp2
   have hxw:=HW9.q.afm hs4 ⟨a',sn+1,c'⟩;have hsG:Same (fun i=>i≠w4.heap.size+2∧i≠w4.heap.size+1∧(Value.slice sa sn sc).ownBlock≠S i) (X2.alloc (J #[.int .i64 (s:I),.int .i64 (k:I)] 70)) (W9.setCell ⟨w4.heap.size+1,s,G⟩ (H a' (sn+1) c')):=
    (((wB.q.mono (fun i hi _=>hi.1)).tr (Same.of_below sZ.q (fun i _ hl=>hl))).tr ⟨jh.q.os,jh.q.tape,jh.q.output,jh.q.size,fun i hi hl=>jh.q.block i hl (fun e=>hi.2.2 e.symm)⟩).setTail (fun hh=>hh.2.1 rfl)
   have vM:Same (fun i=>i<w4.heap.size+5+5∧i≠w4.heap.size+2∧i≠w4.heap.size+1) (X2.alloc (J #[.int .i64 (s:I),.int .i64 (k:I)] 70)) (W9.setCell ⟨w4.heap.size+1,s,G⟩ (H a' (sn+1) c')):=
    hsG.mono (fun i hi _=>⟨hi.2.1,hi.2.2,fun e=>by have:=(IE.q.lt i e).1;have:=hi.1;omega⟩)
   have Kg:∀g,(Value.slice sa sn sc).ownBlock=S g→w4.heap.size+5+5≤g:=fun g hg=>(IE.q.lt g hg).1
   have aia:(W9.setCell ⟨w4.heap.size+1,s,G⟩ (H a' (sn+1) c')).heap[w4.heap.size+2]?=W5.heap[w4.heap.size+2]?:=(Below.heap_setCell _ _ _ _ ak).trans ((jh.q.block _ (by have:=Vi.q.lt;have:=sZ.q.size;omega) (fun e=>by have:=Kg _ e.symm;omega)).trans (sZ.q.block _ Vi.q.lt));have aib:nm=aN (C.nl s) (k:I):=by rw[pR _ HK.q];exact((List.getElem?_eq_some_iff.1 vH.q).2).symm
   have HV:Hid ((sn:I)=fG (bS (aZ C) (s:I)) (k:I)):=U (by rw[Cu.q];refine(Zi ?_ Ao.q).symm;have:=wh (s:I) X0.q;rw[um Ao.q,if_pos rfl] at this;exact this);have hn5:∀q,q<4→q≠s→∀g,(sl q).v.ownBlock=S g→(Value.slice sa sn sc).ownBlock≠S g:=fun q hq yZ g hg=>by
    have:=Bt.q q s hq hs4 yZ g hg;rw[←HSL.q] at this;exact this
   refine⟨⟨?_,?_⟩,?_,?_⟩
   ·exact(Below.heap_setCell _ _ _ _ (by show w4.heap.size+5≠b;omega)).trans ((vM.block _ ⟨by omega,by omega,by omega⟩ (by have:=iN.q.size;omega)).trans (iN.q.block _ ah))
   ·exact(Below.heap_setCell _ _ _ _ (by show w4.heap.size+5+1≠b;omega)).trans ((vM.block _ ⟨by omega,by omega,by omega⟩ (by have:=iN.q.size;omega)).trans (iN.q.block _ ah))
   ·refine(aP.of_below iN.q (fun i _ hi=>hi)).trans ((aP.trans (B:=W9.setCell ⟨w4.heap.size+1,s,G⟩ (H a' (sn+1) c')) ⟨vM.size,fun i hi hl=>vM.block i ⟨?_,?_,?_⟩ hl⟩ (aP.setCell _ b o _ ah))) <;> omega
   ·refine NI.fin yE.q (vM.below vO.q.b (fun i hi=>⟨by omega,by omega,by omega⟩) vO.q.b.size) (vO.q.m.same (vM.mono (fun i hi _=>⟨by omega,by omega,by omega⟩))) (vM.bx vO.q.bx ⟨by omega,by omega,by omega⟩) (vM.bx vO.q.r ⟨by omega,by omega,by omega⟩) (vM.bx vO.q.ws ⟨by omega,by omega,by omega⟩) ⟨_,hxw,?_,?_⟩ (vM.bx vO.q.mv ⟨by omega,by omega,by omega⟩) ?_ Vg.q oN.q HV.q ah ah ah ah ah ah
    ·intro q hq4
     rw[XZ.q,um Ao.q];by_cases yZ:q=s
     ·subst yZ
      rw[if_pos rfl,if_pos rfl,List.map_append,List.map_singleton,←aib];refine yU.q.same (Same.setTail (A:=fun i=>i≠w4.heap.size+1) (Same.refl' _) (fun hh=>hh rfl)) (fun g hg=>?_);have:=(yU.q.lt g hg).1;omega
     ·rw[if_neg yZ,if_neg ah]
      have hO:=IG.q q hq4;rw[Aq.q] at hO;refine(hO.below iN.q rfl).same hsG (fun g hg=>⟨?_,?_,hn5 q hq4 yZ g hg⟩) <;> have:=(hO.lt g hg).1 <;> omega
    ·have hnew:∀q,q<4→q≠s→∀g,(Value.slice a' (sn+1) c').ownBlock=S g→(sl q).v.ownBlock≠S g:=fun q hq yZ g hg e=>by
      rcases TY.q with h1|h1
      ·exact hn5 q hq yZ g e (h1.symm.trans hg)
      ·rw[hg] at h1
       injection h1 with h1;have:=((IG.q q hq).lt g e).2;have:=sZ.q.size;have:=wB.q.size;have:=iN.q.size;omega
     intro q q' hq hq' hne g hg
     dsimp only at hg ⊢
     by_cases h1:q=s
     ·subst h1
      rw[if_pos rfl] at hg;rw[if_neg (fun e=>hne e.symm)];exact hnew q' hq' (fun e=>hne e.symm) g hg
     ·rw[if_neg h1] at hg
      by_cases h2:q'=s
      ·subst h2
       rw[if_pos rfl];exact fun e=>hnew q hq h1 g e hg
      ·rw[if_neg h2]
       exact Bt.q q q' hq hq' hne g hg
    ·rw[XZ.q]
     exact Vi.q.of_eq aia
 case done=>
  intro X hI hdef;rw[wF] at hdef;obtain⟨sl,qm,hown,hap⟩:=hI.wa;obtain⟨s0,hs0⟩:∃z,z=sl 0:=⟨_,rfl⟩;obtain⟨s1,hs1⟩:∃z,z=sl 1:=⟨_,rfl⟩;obtain⟨s2,hs2⟩:∃z,z=sl 2:=⟨_,rfl⟩;obtain⟨s3,hs3⟩:∃z,z=sl 3:=⟨_,rfl⟩;have hc0:X.cell? ⟨w4.heap.size+1,0,G⟩=S s0.v:=by rw[hs0];exact qm.1 0
  have hc1:X.cell? ⟨w4.heap.size+1,1,G⟩=S s1.v:=by rw[hs1];exact qm.1 1
  have hc2:X.cell? ⟨w4.heap.size+1,2,G⟩=S s2.v:=by rw[hs2];exact qm.1 2
  have hc3:X.cell? ⟨w4.heap.size+1,3,G⟩=S s3.v:=by rw[hs3];exact qm.1 3
  have HCC:=U (⟨hc0,hc1,hc2,hc3⟩:_∧_∧_∧_);have HXB:=U hI.bx;have HRB:=U hI.r;have EK:=U hI;have DC:=U hdef;have IG:=U hown;have Am:=U (⟨hs0,hs1,hs2,hs3⟩:_∧_∧_∧_);clear hc0 hc1 hc2 hc3 hI qm hown hap hdef hs0 hs1 hs2 hs3;simp only[Exit.inBlock,Exit.then]
  go_wp2
  refine aK 15 [(0,0),(1,0),(2,0),(3,0),(4,0),(5,0),(6,0),(7,0),(8,0),(9,2),(10,0),(11,2),(12,0),(13,2),(14,0),(15,2)] (fun _=>True) (fun W'=>W'.cell? ⟨w4.heap.size+1,0,G⟩=S s0.v∧W'.cell? ⟨w4.heap.size+1,1,G⟩=S s1.v∧W'.cell? ⟨w4.heap.size+1,2,G⟩=S s2.v∧W'.cell? ⟨w4.heap.size+1,3,G⟩=S s3.v) au au (trivial) (HCC.q) ?_;refine qC ?_;refine aF rfl rfl (fun K hK=>?_);go_simp;have O1:Hid (X.cell? ⟨w4.heap.size+1,0,G⟩=S s0.v∧X.cell? ⟨w4.heap.size+1,1,G⟩=S s1.v∧X.cell? ⟨w4.heap.size+1,2,G⟩=S s2.v∧X.cell? ⟨w4.heap.size+1,3,G⟩=S s3.v):=HCC;have hbx:=HXB.q;have hcx:=HXB.q.1;have hfx:=HXB.q.2.1;have hlx:=HXB.q.2.2;go_simp;have hne:w4.heap.size+1≠w.heap.size:=by have:=vC.q;have:=wO.q;omega
  have Kh:=U (show _∧_∧_∧_ from⟨bC (o':=0) (u:=s0.v) O1.q.1 hne,bC (o':=0) (u:=s0.v) O1.q.2.1 hne,bC (o':=0) (u:=s0.v) O1.q.2.2.1 hne,bC (o':=0) (u:=s0.v) O1.q.2.2.2 hne⟩);refine hK _ _ ⟨trivial,Kh.q⟩ ?_;clear hne;have aic:=U (hbx.aR 0 ak s0.v);clear hK K hbx hcx hfx hlx;refine qC ?_;refine aF rfl rfl (fun K hK=>?_);go_simp;have hbx:=aic.q;have hcx:=HXB.q.1;have hfx:=HXB.q.2.1;have hlx:=HXB.q.2.2;go_simp;have hne:w4.heap.size+1≠w.heap.size:=by have:=vC.q;have:=wO.q;omega
  have Ki:=U (show _∧_∧_∧_ from⟨bC (o':=1) (u:=s1.v) Kh.q.1 hne,bC (o':=1) (u:=s1.v) Kh.q.2.1 hne,bC (o':=1) (u:=s1.v) Kh.q.2.2.1 hne,bC (o':=1) (u:=s1.v) Kh.q.2.2.2 hne⟩);refine hK _ _ ⟨trivial,Ki.q⟩ ?_;clear hne;have aie:=U (hbx.aR 1 ak s1.v);clear hK K hbx hcx hfx hlx;refine qC ?_;refine aF rfl rfl (fun K hK=>?_);go_simp;have hbx:=aie.q;have hcx:=HXB.q.1;have hfx:=HXB.q.2.1;have hlx:=HXB.q.2.2;go_simp;have hne:w4.heap.size+1≠w.heap.size:=by have:=vC.q;have:=wO.q;omega
  have aif:=U (show _∧_∧_∧_ from⟨bC (o':=2) (u:=s2.v) Ki.q.1 hne,bC (o':=2) (u:=s2.v) Ki.q.2.1 hne,bC (o':=2) (u:=s2.v) Ki.q.2.2.1 hne,bC (o':=2) (u:=s2.v) Ki.q.2.2.2 hne⟩);refine hK _ _ ⟨trivial,aif.q⟩ ?_;clear hne;have aii:=U (hbx.aR 2 ak s2.v);clear hK K hbx hcx hfx hlx;refine qC ?_;refine dN rfl rfl rfl (fun K hK=>?_);go_simp;have hbx:=aii.q;have hcx:=HXB.q.1;have hfx:=HXB.q.2.1;have hlx:=HXB.q.2.2;go_simp;refine hK _ _ trivial ?_;have aij:=U (hbx.aR 3 ak s3.v);clear hK K hbx hcx hfx hlx;refine bB ?_;have hY0:Bx ((((X.setCell ⟨w.heap.size,0,G⟩ s0.v).setCell ⟨w.heap.size,1,G⟩ s1.v).setCell ⟨w.heap.size,2,G⟩ s2.v).setCell ⟨w.heap.size,3,G⟩ s3.v).drew w.heap.size (aC ⟨s0,s1,s2,s3,h'.e,h'.d,h'.m,h'.w⟩):=by
   have:=aij.q;have h2:Bx ((((X.setCell ⟨w.heap.size,0,G⟩ s0.v).setCell ⟨w.heap.size,1,G⟩ s1.v).setCell ⟨w.heap.size,2,G⟩ s2.v).setCell ⟨w.heap.size,3,G⟩ s3.v) w.heap.size (aC ⟨s0,s1,s2,s3,h'.e,h'.d,h'.m,h'.w⟩):=by simpa[aC] using this
   exact h2.drew
  have Rw:Same (fun i=>i≠w.heap.size) X ((((X.setCell ⟨w.heap.size,0,G⟩ s0.v).setCell ⟨w.heap.size,1,G⟩ s1.v).setCell ⟨w.heap.size,2,G⟩ s2.v).setCell ⟨w.heap.size,3,G⟩ s3.v).drew:=by
   have:=((((Same.refl' X).setTail (b:=w.heap.size) (o:=0) (v:=s0.v) (A:=fun i=>i≠w.heap.size) (fun hn=>hn rfl)).setTail (b:=w.heap.size) (o:=1) (v:=s1.v) (fun hn=>hn rfl)).setTail (b:=w.heap.size) (o:=2) (v:=s2.v) (fun hn=>hn rfl)).setTail (b:=w.heap.size) (o:=3) (v:=s3.v) (fun hn=>hn rfl);exact this.mP
  revert hY0 Rw;generalize((((X.setCell ⟨w.heap.size,0,G⟩ s0.v).setCell ⟨w.heap.size,1,G⟩ s1.v).setCell ⟨w.heap.size,2,G⟩ s2.v).setCell ⟨w.heap.size,3,G⟩ s3.v).drew=Y;intro hY0 Rw;have HY0:=U hY0;have rY:=U Rw;have Rx:=Rw.bx HRB.q ah;have HRY:=U Rx;have hcy:=hY0.1;have xO:=hY0.2.1;have EL:=hY0.2.2;have hcr:=Rx.1;have hfr:=Rx.2.1;have hlr:=Rx.2.2;clear hY0 Rw Rx;go_wp2_with fail;have hz1:Bx ((((((((Y.setCell ⟨w.heap.size+1,0,G⟩ s0.v).setCell ⟨w.heap.size+1,1,G⟩ s1.v).setCell ⟨w.heap.size+1,2,G⟩ s2.v).setCell ⟨w.heap.size+1,3,G⟩ s3.v).setCell ⟨w.heap.size+1,4,G⟩ h'.e.v).setCell ⟨w.heap.size+1,5,G⟩ h'.d.v).setCell ⟨w.heap.size+1,6,G⟩ h'.m.v).setCell ⟨w.heap.size+1,7,G⟩ h'.w.v) (w.heap.size+1) (aC ⟨s0,s1,s2,s3,h'.e,h'.d,h'.m,h'.w⟩):=by
   have:=(((((((HRY.q.aR 0 ak s0.v).aR 1 ak s1.v).aR 2 ak s2.v).aR 3 ak s3.v).aR 4 ak h'.e.v).aR 5 ak h'.d.v).aR 6 ak h'.m.v).aR 7 ak h'.w.v
   simpa[aC] using this
  have hz2:Same (fun i=>i≠w.heap.size+1) Y ((((((((Y.setCell ⟨w.heap.size+1,0,G⟩ s0.v).setCell ⟨w.heap.size+1,1,G⟩ s1.v).setCell ⟨w.heap.size+1,2,G⟩ s2.v).setCell ⟨w.heap.size+1,3,G⟩ s3.v).setCell ⟨w.heap.size+1,4,G⟩ h'.e.v).setCell ⟨w.heap.size+1,5,G⟩ h'.d.v).setCell ⟨w.heap.size+1,6,G⟩ h'.m.v).setCell ⟨w.heap.size+1,7,G⟩ h'.w.v):=rX (b:=w.heap.size+1) (h':=⟨s0,s1,s2,s3,h'.e,h'.d,h'.m,h'.w⟩);revert hz1 hz2;generalize((((((((Y.setCell ⟨w.heap.size+1,0,G⟩ s0.v).setCell ⟨w.heap.size+1,1,G⟩ s1.v).setCell ⟨w.heap.size+1,2,G⟩ s2.v).setCell ⟨w.heap.size+1,3,G⟩ s3.v).setCell ⟨w.heap.size+1,4,G⟩ h'.e.v).setCell ⟨w.heap.size+1,5,G⟩ h'.d.v).setCell ⟨w.heap.size+1,6,G⟩ h'.m.v).setCell ⟨w.heap.size+1,7,G⟩ h'.w.v)=Z;intro hz1 hz2;have hs0:=wO.q;have hs4:=vC.q;have hsw:=Vd.q;have hdf:Z.heap[w4.heap.size+5]?=S (.deferred (S [])):=by
   have h1:=rY.q.block (w4.heap.size+5) ah (Array.getElem?_eq_some_iff.1 DC.q).1;have h2:=hz2.block (w4.heap.size+5) ah (by have:=rY.q.size;have:=(Array.getElem?_eq_some_iff.1 DC.q).1;omega);exact(h2.trans h1).trans DC.q
  have hp:=hz1.putObj (l:=w4.heap.size+5) (.deferred G) ah;have hcp:=hp.1;have hsa:Same (fun i=>w1.heap.size≤i∧i≠w4.heap.size+5) X (Z.putObj (w4.heap.size+5) (.deferred G)):=(((rY.q.mono (fun i hi _=>by have:=hi.1;omega)).tr (hz2.mono (fun i hi _=>by have:=hi.1;omega))).tr (Same.putObj (A:=fun i=>w1.heap.size≤i∧i≠w4.heap.size+5) _ _ (fun hn=>hn.2 rfl)));refine⟨by simp,.inl ⟨_,_,rfl,run_takeDeferred hdf,?_⟩⟩;have hres:=LU (w:=w) (Y:=Z.putObj (w4.heap.size+5) (.deferred G)) (sl:=sl) (N:=V.heap.size+5) rfl HL.q jN.q.be jN.q.bd jN.q.bm HQ.q.1 HQ.q.2.1 HQ.q.2.2 (by rw[←M0.q];exact EK.q.m) afn.q (fun q hq=>by have:=IG.q q hq;rw[←Ve.q];exact this) (by have:=jN.q.b.size;have:=Ka.q.size;omega) ah (fun cs T fz e=>by have:=DC.q;rw[this] at e;cases e) hsa ?_ EJ.q.1 EJ.q.2.1 EJ.q.2.2;refine⟨.tuple #[eF ⟨s0,s1,s2,s3,h'.e,h'.d,h'.m,h'.w⟩,.int .i64 0],?_,?_⟩
  ·simp[results,results44,go_sem,hcp,aC]
  ·rw[Am.q.1,Am.q.2.1,Am.q.2.2.1,Am.q.2.2.2]
   exact hres
  ·have hq:Same (fun i=>i<w.heap.size) X (Z.putObj (w4.heap.size+5) (.deferred G)):=((rY.q.mono (fun i hi _=>by omega)).tr (hz2.mono (fun i hi _=>by omega))).tr (Same.putObj (A:=fun i=>i<w.heap.size) _ _ (fun hn=>by omega))
   exact hq.below EK.q.b (fun i hi=>hi) EK.q.b.size
end Yd
namespace Yd
open Bool renaming and_eq_true→a
open List renaming mem_iff_getElem→g,length_map→j,mem_map→r,all_eq_true→u,getElem_zip→v,length_zip→z,mem_range→A
open Go Go.RowKit Go.Proofs Go.Maps
open _root_ renaming decide_eq_true_eq→b,List→f
theorem Ez {l:f Int} {m:Nat} (hn:l.Nodup) (h:∀x∈l,aT x m=true):l.length≤m:=by
 have:=List.Nodup.length_le_of_subset (l₂:=(List.range m).map (fun k:Nat=>(k:Int))) hn (fun x hx=>by
  obtain⟨k,rfl,hk⟩:=wP (h x hx);exact r.2 ⟨k,A.2 hk,rfl⟩)
 rwa[j,List.length_range] at this
theorem Zj {nt ns no np:Nat} {e:EvC} {l:f Sn} (h:gP nt ns no np e l=true):l.length≤40:=by
 unfold gP at h;simp only[a,b] at h;obtain⟨⟨⟨⟨h1,h2⟩,h3⟩,h4⟩,h5⟩:=h;by_cases hk:e.kind=4
 ·unfold hasB at h4
  rw[if_neg ah,if_neg ah,if_neg ah,if_pos hk] at h4;simp only[a,b] at h4;exact h4.1.2
 ·have:l=[]:=by
   unfold dZ at h5
   split at h5
   ·simp only[a,b] at h5;exact h5.2
   ·split at h5
    ·simp only[a,b] at h5;exact h5.2
    ·simp only[a,b] at h5;exact h5.2
  rw[this];exact Nat.zero_le _
theorem Zk {nt ns no np:Nat} {e:EvC} {l:f Sn} (h:gP nt ns no np e l=true):Ca e:=by
 unfold gP at h;simp only[a,b] at h;have h5:=h.2;unfold dZ at h5
 split at h5
 ·rename_i hk
  simp only[a,b] at h5;exact⟨fun k=>absurd hk k,fun _=>⟨h5.1.1.1,h5.1.1.2⟩,fun _=>h5.1.2⟩
 ·rename_i hk1
  split at h5
  ·rename_i hk
   simp only[a,b] at h5;exact⟨fun _=>h5.1.1.1,fun k=>absurd hk k,fun _=>h5.1.2⟩
  ·rename_i hk2
   split at h5
   ·rename_i hk
    simp only[a,b] at h5;exact⟨fun _=>h5.1.1.1,fun _=>⟨h5.1.2,h5.2⟩,fun k=>absurd hk k⟩
   ·simp only[a,b] at h5
    exact⟨fun _=>h5.1.1.1.1.1,fun _=>⟨h5.1.1.1.2,h5.1.1.2⟩,fun _=>h5.1.2⟩
theorem Zl {α β:Type} {xs:f α} {ys:f β} (h:xs.length=ys.length) {x:α} (hx:x∈xs):∃y,(x,y)∈xs.zip ys:=by
 obtain⟨i,hi,rfl⟩:=g.1 hx;exact⟨ys[i]' ah,g.2 ⟨i,by rw[z];omega,by rw[v]⟩⟩
theorem DF {α β:Type} {xs:f α} {ys:f β} (h:xs.length=ys.length) {y:β} (hy:y∈ys):∃x,(x,y)∈xs.zip ys:=by
 obtain⟨i,hi,rfl⟩:=g.1 hy;exact⟨xs[i]' ah,g.2 ⟨i,by rw[z];omega,by rw[v]⟩⟩
theorem Gx {n:Nat} {l:f Int} (h:eP n l=true):l.length≤300:=by
 unfold eP at h;simp only[a,b] at h;exact h.1
theorem M5 (i:Nat):jd i≤300:=by unfold jd;split <;> omega
theorem gJ.QX {c:Cont} (h:gJ c) (hf:aD c):Aj c:=
 ⟨by have:=hf.2.1;omega,by have:=hf.2.2.1;omega,by have:=hf.2.2.2.1;omega,by have:=hf.2.2.2.2.1;omega,fun i hi=>by have:=hf.1 i hi;have:=M5 i;omega,
 fun L hL=>by obtain⟨x,hx⟩:=DF h.le hL;have:=Zj (h.ev _ hx);simp only at this;omega,
 fun L hL=>by obtain⟨x,hx⟩:=DF h.ld hL;have:=Gx (h.od _ hx).2;simp only at this;omega,
 fun L hL=>by obtain⟨x,hx⟩:=DF h.lm hL;have:=Gx (h.ma _ hx).2.2;simp only at this;omega⟩
theorem gJ.bare {c:Cont} (h:gJ c):∀e∈c.E,Ca e:=fun e he=>by
 obtain⟨y,hy⟩:=Zl h.le he;exact Zk (h.ev _ hy)
theorem gJ.acu {c:Cont} (h:gJ c) (hf:aD c):∀s:Nat,s<4→(bS (aZ c) (s:Int)).length≤300∧(c.nl s).length≤300:=fun s hs=>by
 have h1:(c.nl s).length≤300:=Nat.le_trans (hf.1 s hs) (M5 s);refine⟨Nat.le_trans (Ez (Ba _ _) (fun x hx=>?_)) h1,h1⟩;obtain⟨s',h1,h2,h3⟩:=uH h _ (FE _ hx);simp only at h2 h3;have:s=s':=by omega
 rw[this];exact h3
theorem gK.lens {X:World} {B:Nat} {h:HC} {c:Cont} {es:f EvC} {ds:f aH} {ms:f aI} {scan:EvC→f Sn} {dn:aH→f Int} {mn:aI→f Int} (o:gK X B h c es ds ms scan dn mn):
  h.e.n=c.E.length∧h.d.n=c.D.length∧h.m.n=c.M.length∧h.w.n=c.Q.length∧∀i,i<4→(h.nm i).n=(c.nl i).length:=by
 refine⟨?_,?_,?_,?_,fun i hi=>?_⟩
 ·obtain⟨_,_,q,_⟩:=o.oe.shape;simp only[Value.slice.injEq] at q;rw[←o.be,j];exact q.2.1
 ·obtain⟨_,_,q,_⟩:=o.od.shape;simp only[Value.slice.injEq] at q;rw[←o.bd,j];exact q.2.1
 ·obtain⟨_,_,q,_⟩:=o.om.shape;simp only[Value.slice.injEq] at q;rw[←o.bm,j];exact q.2.1
 ·obtain⟨_,_,q,_⟩:=o.oq.shape;simp only[Value.slice.injEq] at q;exact q.2.1
 ·obtain⟨_,_,q,_⟩:=(o.on i hi).shape;simp only[Value.slice.injEq] at q;exact q.2.1
theorem gK.shaped {X:World} {B:Nat} {h:HC} {c:Cont} {es:f EvC} {ds:f aH} {ms:f aI} {scan:EvC→f Sn} {dn:aH→f Int} {mn:aI→f Int} (o:gK X B h c es ds ms scan dn mn) (hs:gJ c) (hf:aD c):
  uf h c.nl es ds ms c.Q scan dn mn=true:=by
 obtain⟨le,ld,lm,lq,ln⟩:=o.lens;have h0:h.t.n=(c.nl 0).length:=ln 0 ah;have h1:h.s.n=(c.nl 1).length:=ln 1 ah;have h2:h.o.n=(c.nl 2).length:=ln 2 ah;have h3:h.p.n=(c.nl 3).length:=ln 3 ah;obtain⟨f1,f2,f3,f4,f5,_⟩:=hf;unfold uf;simp only[a,u];refine⟨⟨⟨⟨?_,fun e he=>?_⟩,fun x hx=>?_⟩,fun x hx=>?_⟩,fun x hx=>?_⟩
 ·unfold uS
  simp only[a,u,A];refine⟨?_,fun i hi=>?_⟩
  ·unfold Od
   simp only[a,b];refine⟨by omega,?_⟩
   split
   ·omega
   ·split <;> omega
  ·unfold oI l8
   simp only[a,u,b];refine⟨?_,fun s hs'=>(hs.nm i).2 s hs',(hs.nm i).1⟩;have:=f1 i hi;rcases(by omega:i=0∨i=1∨i=2∨i=3) with rfl|rfl|rfl|rfl <;> (unfold jd at this;simp at this;simp only[Ji];omega)
 ·rw[h0,h1,h2,h3]
  have hm:(e.base,scan e)∈c.E.zip c.SE:=by
   rw[←o.be,←o.ss,l6];exact r.2 ⟨e,he,rfl⟩
  exact hs.ev _ hm
 ·have hm:(x.base,dn x)∈c.D.zip c.SD:=by
   rw[←o.bd,←o.ts,l6];exact r.2 ⟨x,hx,rfl⟩
  have:=hs.od _ hm;unfold Ue;rw[h0,h2,a];exact this
 ·have hm:(x.base,mn x)∈c.M.zip c.SM:=by
   rw[←o.bm,←o.us,l6];exact r.2 ⟨x,hx,rfl⟩
  have:=hs.ma _ hm;unfold Uf;rw[h0,h2,h3,a,a];exact⟨⟨this.1,this.2.1⟩,this.2.2⟩
 ·have:=hs.wa x hx
  unfold Oe;rw[h1,a,a,b,b];exact⟨⟨this.1,this.2.1⟩,this.2.2⟩
theorem LW {X:World} {B:Nat} {h:HC} {c:Cont} {es:f EvC} {ds:f aH} {ms:f aI} {scan:EvC→f Sn} {dn:aH→f Int} {mn:aI→f Int} (o:gK X B h c es ds ms scan dn mn) (hs:gJ c) (hf:aD c) (hg:zC X):
  Calls Tryz.prog 44 #[eF h] X (OZ X (fB c)):=
 FI h c.nl es ds ms c.Q scan dn mn X hg (o.names (hs.QX hf)) (o.deep (hs.QX hf)) (o.bulk (hs.QX hf)) (o.shaped hs hf) c o.cont hs.bare (uH hs) (hs.acu hf)
end Yd
