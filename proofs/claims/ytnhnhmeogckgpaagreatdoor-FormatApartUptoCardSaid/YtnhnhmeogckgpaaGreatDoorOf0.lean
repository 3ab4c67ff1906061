import Derived.Test.YtnhnhmeogckgpaaGreatDoorSpJ
import Derived.Test.YtnhnhmeogckgpaaGreatDoorSpD
set_option linter.all false
set_option maxRecDepth 200000
set_option maxHeartbeats 8000000
namespace Yd
open Option renaming none→G,some→S
open Go Go.RowKit Go.Proofs Go.Maps Tryz
open Go.Obj renaming cells→J
open Go.Value renaming slice→H
open Yd renaming hid→U
open _root_ renaming Int→I,List→O
section
variable {P:Program} {k e T:TypeId} {W W':World} {b n:Nat} {f:I→I→Option I}
theorem lH.ada (h:lH P k e W b n f) (K:WideMaps.KeyLaw P k) (hT:P.underlying T=S (.map k e)) (he:P.underlying e=S (.int .i64)) (hz:(zeroValue e).run P W= .ok (.int .i64 0) W) {t x:I} {kl:Lit} (hk:keyOf P k (lU t x)=S kl):
  (Instr.lookup T (.map (S b)) (lU t x) true).run P W= .ok (.tuple #[.int .i64 ((f t x).getD 0),.bool (f t x).isSome]) W:=by
 obtain⟨D,hD,⟨es,clock,hb,F,hs,hd⟩,hat⟩:=h;obtain⟨h1,h2⟩:=hat t x kl hk;rcases Maps.fit_look true (Keyed.of_law K) hT hz hb F hk with⟨hrun,_,hno⟩|⟨e0,y,_,_,hrun,hRv,hy,_⟩
 ·have e1:=hno (.lit (.int .i64 0))
  rw[←hd] at e1;rw[e1] at h1;injection h1 with h1;injection h1 with _ h1;have e2:=has_false_of_atKey (D:=D) (k:=kl) (fun z=>by rw[hd];exact hno z);rw[h2] at e2;rw[←h1,e2];exact hrun
 ·obtain⟨c,hc1,hc2,_⟩:=plainElem_int_inv he hRv
  have e1:=hy (.lit (.int .i64 0));rw[←hd,h1] at e1;rw[hc2] at e1;injection e1 with e1;injection e1 with _ e1;have e2:=has_true_of_atKey (D:=D) (k:=kl) (fun z=>by rw[hd];exact hy z);rw[h2] at e2;rw[e1,e2];rw[hc1] at hrun;exact hrun
end
theorem Te:70<Tryz.prog.types.size:=of_decide_eq_true au
theorem Zm:(match Tryz.prog.underlying 70 with|some (.array _ _)|some (.struct _)=>true|_=>false)=true:=au
theorem Zn:laidOutB Tryz.prog=true:=au
theorem ae4:Tryz.prog.keyTypeAt 3 70=true:=au
theorem Tf:WideMaps.KeyLaw Tryz.prog 70:=deep_law_laid Zn (m:=3) ah Te ae4 Zm
theorem Zo:Tryz.prog.keyType 70=true:=au
theorem LB:Tryz.prog.cellsOf 70=2:=au
theorem adb:Tryz.prog.cellsOf 3=1:=au
theorem Zp (u:World):(zeroValue 3).run Tryz.prog u= .ok (.int .i64 0) u:=au
theorem Zq (t x:I) (h1:(Lit.int .i64 t).wf=true) (h2:(Lit.int .i64 x).wf=true) (n:Nat):Tryz.prog.keyLits (n+2) 70 [.int .i64 t,.int .i64 x]=S [.int .i64 t,.int .i64 x]:=by
 have e1:Tryz.prog.keyLits (n+1) 3 [.int .i64 t]=S [.int .i64 t]:=by
  unfold Program.keyLits;rw[underlying3];simp[h1]
 have e2:Tryz.prog.keyLits (n+1) 3 [.int .i64 x]=S [.int .i64 x]:=by
  unfold Program.keyLits;rw[underlying3];simp[h2]
 unfold Program.keyLits;rw[underlying70];simp[LB,adb,List.mapM_cons,List.range,List.range.loop,e1,e2]
theorem Tg {t x:I} (h1:(Lit.int .i64 t).wf=true) (h2:(Lit.int .i64 x).wf=true):keyOf Tryz.prog 70 (lU t x)=S (.string (keyBytes [.int .i64 t,.int .i64 x])):=by
 have hs:Tryz.prog.types.size+1=(Tryz.prog.types.size - 1)+2:=by have:=Te;omega
 unfold keyOf;rw[underlying70];simp only[Zo,hs];rw[if_pos (by simp[Value.formed,underlying70,LB])];rw[show(lU t x).cells.toList=[.int .i64 t,.int .i64 x] from rfl,Zq t x h1 h2]
 rfl
def BK (vs:O (I × I)) (s n:I):Option I:=if n∈bN vs s then S ((bN vs s).idxOf n:I) else G
def zR (vs:O (I × I)):Nat:=(bN vs 0).length+(bN vs 1).length+(bN vs 2).length+(bN vs 3).length
@[reducible] def uo (m:Nat→Sl):Array Value:=#[(m 0).v,(m 1).v,(m 2).v,(m 3).v]
theorem pU (m:Nat→Sl) {s:Nat} (hs:s<4):(uo m)[s]?=S (m s).v:=by
 match s,hs with
 |0,_=>rfl
 |1,_=>rfl
 |2,_=>rfl
 |3,_=>rfl
theorem Bx.ae5 {X:World} {b:Nat} {m:Nat→Sl} (h:Bx X b (uo m)) {s:Nat} (hs:s<4) (v:Sl):Bx (X.setCell ⟨b,s,G⟩ v.v) b (uo fun i=>if i=s then v else m i):=by
 refine⟨fun i=>?_,fun i=>by rw[World.frozen?_setCell];exact h.2.1 i,by have:=h.2.2;simpa[World.setCell] using this⟩;by_cases hi:i=s
 ·subst hi
  rw[World.cell?_setCell_same' _ _ _ (by rw[h.1 i,pU m hs];rfl),pU _ hs,if_pos rfl]
 ·rw[World.cell?_setCell_other _ _ _ _ (fun e=>by cases e;exact hi rfl),h.1 i]
  rcases Nat.lt_or_ge i 4 with h4|h4
  ·rw[pU m h4,pU _ h4,if_neg hi]
  ·rw[Array.getElem?_eq_none (by simpa using h4),Array.getElem?_eq_none (by simpa using h4)]
theorem CU {vs:O (I × I)} {s n:I} (h:n∈bN vs s):bN (vs++[(s,n)])=bN vs:=by
 funext t
 rw[j5];by_cases e:s=t
 ·subst e
  rw[if_pos rfl];unfold lg;rw[if_pos h]
 ·rw[if_neg e]
theorem wh {vs:O (I × I)} {s n:I} (h:n∉bN vs s) (t:I):bN (vs++[(s,n)]) t=if s=t then bN vs t++[n] else bN vs t:=by
 rw[j5];by_cases e:s=t
 ·subst e
  rw[if_pos rfl,if_pos rfl];unfold lg;rw[if_neg h]
 ·rw[if_neg e,if_neg e]
theorem Zr {vs:O (I × I)} {s n:I} (h:n∉bN vs s):BK (vs++[(s,n)])=fun t x=>if t=s∧x=n then S ((bN vs s).length:I) else BK vs t x:=by
 funext t x
 unfold BK;rw[wh h];by_cases e:s=t
 ·subst e
  rw[if_pos rfl];by_cases hx:x=n
  ·subst hx
   have h1:x∈bN vs s++[x]:=by simp
   have h2:(bN vs s++[x]).idxOf x=(bN vs s).length:=by rw[List.idxOf_append,if_neg h];simp
   simp only[h1,h2,and_self,if_true]
  ·have h3:¬(s=s∧x=n):=fun q=>hx q.2
   by_cases hm:x∈bN vs s
   ·have h1:x∈bN vs s++[n]:=List.mem_append_left _ hm
    have h2:(bN vs s++[n]).idxOf x=(bN vs s).idxOf x:=by rw[List.idxOf_append,if_pos hm]
    rw[if_pos h1,h2];refine Eq.trans ?_ (if_neg h3).symm;rw[if_pos hm]
   ·have h1:¬x∈bN vs s++[n]:=fun q=>by
     rcases List.mem_append.1 q with q|q
     ·exact hm q
     ·exact hx (List.mem_singleton.1 q)
    rw[if_neg h1];refine Eq.trans ?_ (if_neg h3).symm;rw[if_neg hm]
 ·have h3:¬(t=s∧x=n):=fun q=>e q.1.symm
  simp only[if_neg e,if_neg h3]
theorem mP (a:Option Addr) (q:Nat):∃g o,lM a q=(⟨g,o,G⟩:Addr):=by
 cases a with
 |none=>exact⟨0,0,rfl⟩
 |some x=>exact⟨_,_,rfl⟩
def nK (l:O (I × Addr)):Prop:=∀p∈l,∃g o,p.2=(⟨g,o,G⟩:Addr)
theorem nK.gr {α:Type} {hd:Nat→α→O (I × Addr)} {sub:α→O (I × Addr)} {xs:O α} (h1:∀i x,nK (hd i x)) (h2:∀x,nK (sub x)):nK (gr hd sub 0 xs):=fun p hp=>by
 obtain⟨j,x,_,hp⟩:=(eP xs 0 p).1 hp;rcases hp with hp|hp
 ·exact h1 _ _ p hp
 ·exact h2 _ p hp
theorem nK.nil:nK []:=fun p hp=>by cases hp
theorem nK.bU (a:Option Addr) (q:Nat) (v:kT):nK (iy (lM a q) v):=fun p hp=>by
 rw[(ou.1 hp).1];exact mP a q
theorem nK.sn (a:Option Addr) (l:O Sn):nK (kF a 0 l):=nK.gr (fun i x p hp=>by
 rcases List.mem_cons.1 hp with rfl|hp
 ·exact mP a _
 ·exact nK.bU a _ _ p hp) (fun _=>nK.nil)
theorem nK.ints (a:Option Addr) (l:O I):nK (lV a 0 l):=nK.gr (fun i x p hp=>by
 rw[List.mem_singleton.1 hp];exact mP a _) (fun _=>nK.nil)
theorem nK.all (h:HC) (es:O EvC) (ds:O aK) (ms:O aM) (qs:O Wa) (scan:EvC→O Sn) (dn:aK→O I) (mn:aM→O I):nK (aG h es ds ms qs scan dn mn):=fun p hp=>by
 unfold aG at hp;rcases List.mem_append.1 hp with hp|hp
 ·refine nK.gr (fun i x p hp=>?_) (fun x=>nK.sn _ _) p hp
  unfold rV at hp;rcases List.mem_cons.1 hp with rfl|hp
  ·exact mP _ _
  ·split at hp
   ·rw[List.mem_singleton.1 hp];exact mP _ _
   ·split at hp
    ·rcases List.mem_cons.1 hp with rfl|hp
     ·exact mP _ _
     ·exact nK.bU _ _ _ p hp
    ·split at hp
     ·rw[List.mem_singleton.1 hp];exact mP _ _
     ·cases hp
 ·rcases List.mem_append.1 hp with hp|hp
  ·exact nK.gr (fun i x p hp=>by rw[List.mem_singleton.1 hp];exact mP _ _) (fun x=>nK.ints _ _) p hp
  ·rcases List.mem_append.1 hp with hp|hp
   ·exact nK.gr (fun i x p hp=>by
     rcases List.mem_cons.1 hp with rfl|hp
     ·exact mP _ _
     ·rw[List.mem_singleton.1 hp];exact mP _ _) (fun x=>nK.ints _ _) p hp
   ·exact nK.gr (fun i x p hp=>by rw[List.mem_singleton.1 hp];exact mP _ _) (fun _=>nK.nil) p hp
theorem Own.ade {α:Type} {enc:α→O Value} {k:Nat} {X:World} {B:Nat} {T:TypeId} {v:Value} {xs:O α} (h:Own X B T k enc v xs) {g:Nat} (hv:v.ownBlock=S g):∃cs,X.heap[g]?=S (J cs T (0,0)):=by
 obtain⟨_,h2⟩:=h;rcases h2 with⟨he,_⟩|⟨g',cap,cur,he,_,hh,_⟩
 ·rw[he] at hv;cases hv
 ·rw[he] at hv
  injection hv with hv;rw[←hv];exact⟨cur,hh⟩
def CV (X:World) (g:Nat):Prop:=∃cs T,X.heap[g]?=S (J cs T (0,0))
theorem CV.frozen {X:World} {g j:Nat} (h:CV X g):X.frozen? ⟨g,j,G⟩=false:=by
 obtain⟨cs,T,h⟩:=h;unfold World.frozen?;simp[h]
theorem Lay.soft {X:World} {B:Nat} {h:HC} {es:O EvC} {ds:O aK} {ms:O aM} {qs:O Wa} {scan:EvC→O Sn} {dn:aK→O I} {mn:aM→O I} (l:Lay X B h es ds ms qs scan dn mn) {p:I × Addr} (hp:p∈aG h es ds ms qs scan dn mn):CV X p.2.block∧B≤p.2.block:=by
 have of:∀{α:Type} {enc:α→O Value} {k:Nat} {T:TypeId} {a:Option Addr} {n c:Nat} {xs:O α},Own X B T k enc (H a n c) xs→a.map Addr.block=S p.2.block→CV X p.2.block∧B≤p.2.block:=fun ho ha=>by
  rcases ho.uO with⟨q,_⟩|⟨g,q,_,_,hB⟩
  ·rw[q] at ha;cases ha
  ·rw[q] at ha
   injection ha with ha;have ha:g=p.2.block:=ha;obtain⟨cs,e⟩:=ho.ade (g:=g) (by rw[q];rfl);rw[ha] at e hB;exact⟨⟨cs,_,e⟩,hB⟩
 have ofv:∀{α:Type} {enc:α→O Value} {k:Nat} {T:TypeId} {v:Value} {xs:O α},Own X B T k enc v xs→v.ownBlock=S p.2.block→CV X p.2.block∧B≤p.2.block:=fun ho ha=>(let⟨cs,e⟩:=ho.ade ha;⟨⟨cs,_,e⟩,(ho.lt _ ha).1⟩)
 have ad:∀{a:Option Addr} {q:Nat},p.2=lM a q→a≠G→a.map Addr.block=S p.2.block:=fun e hn=>by
  rename_i a q
  cases a with
  |none=>exact absurd rfl hn
  |some x=>rw[e];rfl
 have ne:∀{α:Type} {enc:α→O Value} {k:Nat} {T:TypeId} {a:Option Addr} {n c:Nat} {xs:O α} {i:Nat} {x:α},Own X B T k enc (H a n c) xs→xs[i]?=S x→a≠G:=fun ho hx e=>by
  rcases ho.uO with⟨_,q⟩|⟨g,q,_⟩
  ·rw[q] at hx;cases hx
  ·rw[e] at q;cases q
 rcases l.which hp with⟨t,i,e,he,hh⟩|⟨t,e,he,hb,_⟩|⟨t,i,x,hx,hh⟩|⟨t,i,x,hx,hh⟩|⟨t,i,x,hx,hh⟩|⟨t,⟨x,hx,hb,_⟩|⟨x,hx,hb,_⟩⟩
 ·have hn:=ne (show Own X B 65 9 dP (H h.e.a h.e.n h.e.c) es from l.oe) he
  refine of (show Own X B 65 9 dP (H h.e.a h.e.n h.e.c) es from l.oe) ?_
  cases ha:h.e.a with
  |none=>exact absurd ha hn
  |some x=>
   rcases(show Own X B 65 9 dP (H h.e.a h.e.n h.e.c) es from l.oe).uO with⟨q,_⟩|⟨g,q,_⟩
   ·exact absurd q hn
   ·rw[ha] at q
    injection q with q;subst q;rw[ha] at hh;exact congrArg S ((JX (b:=g) i e).2 p hh).1.symm
 ·exact ofv (l.se e he) hb
 ·rw[List.mem_singleton.1 hh] at ad
  exact of (show Own X B 79 2 eu (H h.d.a h.d.n h.d.c) ds from l.od) (by rw[List.mem_singleton.1 hh];exact ad rfl (ne (show Own X B 79 2 eu (H h.d.a h.d.n h.d.c) ds from l.od) hx))
 ·refine of (show Own X B 81 4 dW (H h.m.a h.m.n h.m.c) ms from l.om) ?_
  have hn:=ne (show Own X B 81 4 dW (H h.m.a h.m.n h.m.c) ms from l.om) hx;rcases List.mem_cons.1 hh with hh|hh
  ·exact ad (by rw[hh]) hn
  ·exact ad (by rw[List.mem_singleton.1 hh]) hn
 ·exact of (show Own X B 83 2 fK (H h.w.a h.w.n h.w.c) qs from l.oq) (ad (by rw[List.mem_singleton.1 hh]) (ne (show Own X B 83 2 fK (H h.w.a h.w.n h.w.c) qs from l.oq) hx))
 ·exact ofv (l.sd x hx) hb
 ·exact ofv (l.sm x hx) hb
theorem Moved.soft {w0 X:World} {F:I→O I} {pre:O (I × Addr)} (h:Moved w0 X F pre) {g:Nat} (hs:CV w0 g):CV X g:=by
 obtain⟨cs,T,e⟩:=hs;obtain⟨cs',e',_⟩:=h g cs T _ e;exact⟨cs',T,e'⟩
theorem MG {X Y:World} {B B':Nat} {h:HC} {es:O EvC} {ds:O aK} {ms:O aM} {qs:O Wa} {scan:EvC→O Sn} {dn:aK→O I} {mn:aM→O I} {F:I→O I} (l:Lay X B h es ds ms qs scan dn mn) {pre:O (I × Addr)} (hsub:∀p∈pre,p∈aG h es ds ms qs scan dn mn) (hM:Moved X Y F pre) {v:Value} {L:O Bs} (ho:Own X B' 9 1 encStr v L):Own Y B' 9 1 encStr v L:=by
 refine ho.moved (hc:=kQ) hM rfl (fun g hg i x y j u hx hy hu=> .inl ⟨?_,fun s hp=>?_⟩)
 ·rw[hx] at hy;injection hy with hy;rw[←hy];exact hu
 ·have ht:Ty X g 9:=ho.tag hg
  rcases l.which (hsub _ hp) with⟨t,_⟩|⟨t,_⟩|⟨t,_⟩|⟨t,_⟩|⟨t,_⟩|⟨t,_⟩ <;> exact ht.no t aj
def kr (w3:World) (pre:O (I × Addr)):O (I × I):=pre.map (ja w3)
def Ti (sl:Nat→Sl):Prop:=∀q q',q<4→q'<4→q≠q'→∀g,(sl q).v.ownBlock=S g→(sl q').v.ownBlock≠S g
structure NI (w w3:World) (N ws wa bm mo:Nat) (h:HC) (nl:Nat→O Bs) (F:I→O I) (xs pre:O (I × Addr)) (X:World):Prop where
 sub:∀p∈pre,p∈xs
 b:Below w.heap.size w X
 m:Moved w3 X F pre
 bx:Bx X w.heap.size (aA h)
 r:Bx X (w.heap.size+1) #[H G 0 0,H G 0 0,H G 0 0,H G 0 0,H G 0 0,H G 0 0,H G 0 0,H G 0 0]
 ws:Bx X ws #[h.t.v,h.s.v,h.o.v,h.p.v]
 wa:∃sl:Nat→Sl,Bx X wa (uo sl)∧(∀s,s<4→Own X N 9 1 encStr (sl s).v ((bN (kr w3 pre) (s:I)).map (aH (nl s))))∧Ti sl
 mv:Bx X bm #[.map (S mo)]
 mp:lH Tryz.prog 70 3 X mo (zR (kr w3 pre)) (BK (kr w3 pre))
theorem NI.same {w w3:World} {N ws wa bm mo V:Nat} {h:HC} {nl:Nat→O Bs} {F:I→O I} {xs pre:O (I × Addr)} {X Y:World} (i:NI w w3 N ws wa bm mo h nl F xs pre X) (hs:Same (fun i=>i<V∨V+5≤i) X Y) (hN:V+5≤N) (h3:w3.heap.size≤V) (hw:w.heap.size+1<V) (h1:ws<V) (h2:wa<V) (h4:bm<V) (h5:mo<V):NI w w3 N ws wa bm mo h nl F xs pre Y:=
 ⟨i.sub,hs.below i.b (fun q hq=> .inl ah) i.b.size,i.m.same (hs.mono (fun q hq _=> .inl ah)),hs.bx i.bx (.inl ah),hs.bx i.r (.inl ah),hs.bx i.ws (.inl h1),
 (let⟨sl,a1,a2,a3⟩:=i.wa;⟨sl,hs.bx a1 (.inl h2),fun s hs4=>(a2 s hs4).same hs (fun g hg=> .inr (by have:=((a2 s hs4).lt g hg).1;omega)),a3⟩),hs.bx i.mv (.inl h4),i.mp.of_eq (hs.block mo (.inl h5) i.mp.lt)⟩
theorem NI.fin {w w3:World} {N ws wa bm mo:Nat} {h:HC} {nl:Nat→O Bs} {F:I→O I} {xs pre:O (I × Addr)} {Y:World} {s:I} {b o:Nat} {n v:I} (hsub:∀p∈pre++[(s,(⟨b,o,G⟩:Addr))],p∈xs) (hb:Below w.heap.size w Y) (hm:Moved w3 Y F pre) (hbx:Bx Y w.heap.size (aA h))
  (hr:Bx Y (w.heap.size+1) #[H G 0 0,H G 0 0,H G 0 0,H G 0 0,H G 0 0,H G 0 0,H G 0 0,H G 0 0]) (hws:Bx Y ws #[h.t.v,h.s.v,h.o.v,h.p.v])
  (rP:∃sl:Nat→Sl,Bx Y wa (uo sl)∧(∀q,q<4→Own Y N 9 1 encStr (sl q).v ((bN (kr w3 (pre++[(s,(⟨b,o,G⟩:Addr))])) (q:I)).map (aH (nl q))))∧Ti sl) (hmv:Bx Y bm #[.map (S mo)])
  (hmp:lH Tryz.prog 70 3 Y mo (zR (kr w3 (pre++[(s,(⟨b,o,G⟩:Addr))]))) (BK (kr w3 (pre++[(s,(⟨b,o,G⟩:Addr))]))))
  (hnot:∀s',(s',(⟨b,o,G⟩:Addr))∉pre) (hn0:w3.cell? ⟨b,o,G⟩=S (.int .i64 n)) (hv:v=dx (F s) n) (hlo:w.heap.size+1<b) (ahK:b≠ws) (ahL:b≠wa) (ahM:b≠bm) (ahN:b≠mo) (hN:b<N):
  NI w w3 N ws wa bm mo h nl F xs (pre++[(s,(⟨b,o,G⟩:Addr))]) (Y.setCell ⟨b,o,G⟩ (.int .i64 v)):=by
 have hs:Same (fun i=>i≠b) Y (Y.setCell ⟨b,o,G⟩ (.int .i64 v)):=(Same.refl' Y).setTail (fun h=>h rfl);exact⟨hsub,hb.setCell (p:=⟨b,o,G⟩) (by show _≤b;omega) _,hm.step hnot hn0 hv,hs.bx hbx ah,hs.bx hr ah,hs.bx hws ahK.symm,(let⟨sl,a1,a2,a3⟩:=rP;⟨sl,hs.bx a1 ahL.symm,fun q hq=>(a2 q hq).same hs (fun g hg e=>by have:=((a2 q hq).lt g hg).1;omega),a3⟩),hs.bx hmv ahM.symm,hmp.of_eq (hs.block mo ahN.symm hmp.lt)⟩
theorem Same.F4 {A:Nat→Prop} {X Y:World} {b o:Nat} {v:Value} (s:Same A X Y) (h:X.cell? ⟨b,o,G⟩=S v) (ha:A b):Y.cell? ⟨b,o,G⟩=S v:=
 (World.cell?_of_block (a:=⟨b,o,G⟩) (s.block b ha (fw h))).trans h
theorem Tj {vs:O (I × I)} {s n:I} (h:n∈bN vs s):BK (vs++[(s,n)])=BK vs:=by
 funext t x
 unfold BK;rw[CU h]
theorem Qi {vs:O (I × I)} {s n:I} (h:n∈bN vs s):zR (vs++[(s,n)])=zR vs:=by
 unfold zR;rw[CU h]
theorem Wi {vs:O (I × I)} {s:Nat} {n:I} (hs:s<4) (h:n∉bN vs (s:I)):zR (vs++[((s:I),n)])=zR vs+1:=by
 unfold zR;rw[wh h,wh h,wh h,wh h];rcases(by omega:s=0∨s=1∨s=2∨s=3) with rfl|rfl|rfl|rfl
 ·rw[if_pos aj,if_neg aj,if_neg aj,if_neg aj,List.length_append];simp;omega
 ·rw[if_neg aj,if_pos aj,if_neg aj,if_neg aj,List.length_append];simp;omega
 ·rw[if_neg aj,if_neg aj,if_pos aj,if_neg aj,List.length_append];simp;omega
 ·rw[if_neg aj,if_neg aj,if_neg aj,if_pos aj,List.length_append];simp;omega
theorem Wj {α:Type} {pre xs:O α} {x:α} (h:pre++[x]<+:xs):∀p∈pre++[x],p∈xs:=fun _ hp=>h.subset hp
theorem LC {α β:Type} {Y:World} {B:Nat} {T:TypeId} {ek:Nat} {enc:β→O Value} [hc:Cells enc ek] (hinj:∀x y,enc x=enc y→x=y) {a:α→Option Addr} {n q:α→Nat} {r:α→α} (ha:∀x,a (r x)=a x) (hn:∀x,n (r x)=n x) (hq:∀x,q (r x)=q x) {xs:O α} {g:α→O β} (h:∀x∈xs,Own Y B T ek enc (H (a x) (n x) (q x)) (g x)) (hl:∀x∈xs,(g x).length≤140737488355328):
  ∃f:α→O β,(∀y∈xs.map r,Own Y B T ek enc (H (a y) (n y) (q y)) (f y))∧(xs.map r).map f=xs.map g:=by
 have key:∀x∈xs,Classical.epsilon (fun L=>Row Y ek enc (a (r x)) (n (r x)) (q (r x)) L)=g x:=fun x hx=>by
  have hr:=(h x hx).row (hc:=hc) (hl x hx);rw[←ha,←hn,←hq] at hr;exact Ab (hc:=hc) hinj hr
 refine⟨fun y=>Classical.epsilon (fun L=>Row Y ek enc (a y) (n y) (q y) L),fun y hy=>?_,?_⟩
 ·obtain⟨x,hx,rfl⟩:=List.mem_map.1 hy
  show Own Y B T ek enc (H (a (r x)) (n (r x)) (q (r x))) (Classical.epsilon (fun L=>Row Y ek enc (a (r x)) (n (r x)) (q (r x)) L));rw[key x hx,ha,hn,hq];exact h x hx
 ·rw[List.map_map]
  exact List.map_congr_left (fun x hx=>key x hx)
theorem bI {X:World} {b o b' o':Nat} {v u:Value} (h:X.cell? ⟨b,o,G⟩=S v) (hne:b≠b'):(X.setCell ⟨b',o',G⟩ u).cell? ⟨b,o,G⟩=S v:=
 (World.cell?_of_block (a:=⟨b,o,G⟩) (Below.heap_setCell X ⟨b',o',G⟩ u b hne)).trans h
structure gU (X:World) (B:Nat) (h:HC) (c:Cont) (es:O EvC) (ds:O aK) (ms:O aM) (scan:EvC→O Sn) (dn:aK→O I) (mn:aM→O I):Prop where
 oe:Own X B 65 9 dP (H h.e.a h.e.n h.e.c) es
 od:Own X B 79 2 eu (H h.d.a h.d.n h.d.c) ds
 om:Own X B 81 4 dW (H h.m.a h.m.n h.m.c) ms
 oq:Own X B 83 2 fK (H h.w.a h.w.n h.w.c) c.Q
 on:∀i,i<4→Own X B 9 1 encStr (H (h.nm i).a (h.nm i).n (h.nm i).c) (c.nl i)
 se:∀x∈es,Own X B 148 3 dB (H x.sa x.sn x.sc) (scan x)
 sd:∀x∈ds,Own X B 3 1 aZ (H x.sa x.sn x.sc) (dn x)
 sm:∀x∈ms,Own X B 3 1 aZ (H x.sa x.sn x.sc) (mn x)
 be:es.map EvC.base=c.E
 bd:ds.map aK.base=c.D
 bm:ms.map aM.base=c.M
 ss:es.map scan=c.SE
 ts:ds.map dn=c.SD
 us:ms.map mn=c.SM
structure Bw (c:Cont):Prop where
 e:c.E.length≤2000000
 d:c.D.length≤2000000
 m:c.M.length≤2000000
 q:c.Q.length≤2000000
 n:∀i,i<4→(c.nl i).length≤2000000
 se:∀L∈c.SE,L.length≤2000000
 sd:∀L∈c.SD,L.length≤2000000
 sm:∀L∈c.SM,L.length≤2000000
section
variable {X Y:World} {B:Nat} {h:HC} {c:Cont} {es:O EvC} {ds:O aK} {ms:O aM} {scan:EvC→O Sn} {dn:aK→O I} {mn:aM→O I}
theorem gU.imp (o:gU X B h c es ds ms scan dn mn) (hi:∀{α:Type} {enc:α→O Value} {k:Nat} {T:TypeId} {v:Value} {xs:O α},Own X B T k enc v xs→Own Y B T k enc v xs):gU Y B h c es ds ms scan dn mn:=
 ⟨hi o.oe,hi o.od,hi o.om,hi o.oq,fun i h=>hi (o.on i h),fun x h=>hi (o.se x h),fun x h=>hi (o.sd x h),fun x h=>hi (o.sm x h),o.be,o.bd,o.bm,o.ss,o.ts,o.us⟩
theorem gU.same (o:gU X B h c es ds ms scan dn mn) (s:Same (fun i=>B≤i) X Y):gU Y B h c es ds ms scan dn mn:=o.imp (fun ho=>ho.same s (fun g hg=>(ho.lt g hg).1))
theorem gU.below (o:gU X B h c es ds ms scan dn mn) (s:Below X.heap.size X Y):gU Y B h c es ds ms scan dn mn:=o.imp (fun ho=>ho.below s rfl)
theorem gU.mono {B':Nat} (o:gU X B h c es ds ms scan dn mn) (hB:B'≤B):gU X B' h c es ds ms scan dn mn:=
 ⟨o.oe.mono hB,o.od.mono hB,o.om.mono hB,o.oq.mono hB,fun i h=>(o.on i h).mono hB,fun x h=>(o.se x h).mono hB,fun x h=>(o.sd x h).mono hB,fun x h=>(o.sm x h).mono hB,o.be,o.bd,o.bm,o.ss,o.ts,o.us⟩
theorem gU.deep (o:gU X B h c es ds ms scan dn mn) (z:Bw c):Deep X h es ds ms c.Q scan dn mn:=
 ⟨o.oe.row (hc:=sO) (by have:=z.e;rw[←o.be,List.length_map] at this;omega),o.od.row (hc:=qJ) (by have:=z.d;rw[←o.bd,List.length_map] at this;omega),o.om.row (hc:=oo) (by have:=z.m;rw[←o.bm,List.length_map] at this;omega),o.oq.row (hc:=sH) (by have:=z.q;omega),
 fun x hx=>(o.se x hx).row (hc:=l9) (by have:=z.se (scan x) (by rw[←o.ss];exact List.mem_map_of_mem hx);omega),fun x hx=>(o.sd x hx).row (hc:=gZ) (by have:=z.sd (dn x) (by rw[←o.ts];exact List.mem_map_of_mem hx);omega),fun x hx=>(o.sm x hx).row (hc:=gZ) (by have:=z.sm (mn x) (by rw[←o.us];exact List.mem_map_of_mem hx);omega)⟩
theorem gU.names (o:gU X B h c es ds ms scan dn mn) (z:Bw c):∀i,i<4→Row X 1 encStr (h.nm i).a (h.nm i).n (h.nm i).c (c.nl i):=fun i hi=>(o.on i hi).row (hc:=kQ) (by have:=z.n i hi;omega)
theorem gU.bulk (o:gU X B h c es ds ms scan dn mn) (z:Bw c):I8 c.nl es ds ms c.Q scan dn mn:=
 ⟨by have:=z.e;rw[←o.be,List.length_map] at this;exact this,by have:=z.d;rw[←o.bd,List.length_map] at this;exact this,by have:=z.m;rw[←o.bm,List.length_map] at this;exact this,z.q,z.n,fun x hx=>z.se _ (by rw[←o.ss];exact List.mem_map_of_mem hx),fun x hx=>z.sd _ (by rw[←o.ts];exact List.mem_map_of_mem hx),fun x hx=>z.sm _ (by rw[←o.us];exact List.mem_map_of_mem hx)⟩
theorem gU.cont (o:gU X B h c es ds ms scan dn mn):c=wG es.length c.nl es ds ms c.Q scan dn mn:=by
 unfold wG;rw[List.take_length,o.be,o.bd,o.bm,o.ss,o.ts,o.us]
end
def Qj (w:World) (c:Cont) (e:Ending) (X:World):Prop:=
 ∃h es ds ms,∃scan:EvC→O Sn,∃dn:aK→O I,∃mn:aM→O I,e= .returned (.tuple #[fJ h,.int .i64 0])∧gU X w.heap.size h c es ds ms scan dn mn∧Below w.heap.size w X
theorem MH {w W3 X Y:World} {B N:Nat} {h:HC} {es:O EvC} {ds:O aK} {ms:O aM} {C:Cont} {scan:EvC→O Sn} {dn:aK→O I} {mn:aM→O I} {F:I→O I} {sl:Nat→Sl} (hF:F=bN (aS C)) (l:Lay W3 B h es ds ms C.Q scan dn mn)
  (h1:es.map EvC.base=C.E) (h2:ds.map aK.base=C.D) (h3:ms.map aM.base=C.M) (h4:es.map scan=C.SE) (h5:ds.map dn=C.SD) (h6:ms.map mn=C.SM)
  (hM:Moved W3 X F (aG h es ds ms C.Q scan dn mn)) (hb:∀e∈C.E,C8 e) (hsl:∀s,s<4→Own X N 9 1 encStr (sl s).v ((F (s:I)).map (aH (C.nl s)))) (hN:B≤N) (hwB:w.heap.size≤B)
  {D:Nat} (hD:∀cs T fz,X.heap[D]?≠S (J cs T fz)) (hs:Same (fun i=>B≤i∧i≠D) X Y) (DF:Below w.heap.size w Y) (g1:∀L∈C.SE,L.length≤2000000) (g2:∀L∈C.SD,L.length≤2000000) (g3:∀L∈C.SM,L.length≤2000000):
  Qj w (bV C) (.returned (.tuple #[fJ ⟨sl 0,sl 1,sl 2,sl 3,h.e,h.d,h.m,h.w⟩,.int .i64 0])) Y:=by
 have hbe:∀e∈es,C8 e:=fun e he=>by
  have:=hb e.base (by rw[←h1];exact List.mem_map_of_mem he);exact this
 have IG:∀{α:Type} {enc:α→O Value} {k:Nat} {T:TypeId} {v:Value} {xs:O α} {B':Nat},B≤B'→Own X B' T k enc v xs→Own Y B' T k enc v xs:=fun hB' ho=>ho.same hs (fun g hg=>⟨Nat.le_trans hB' (ho.lt g hg).1,fun e=>by
  subst e;obtain⟨cs,fz,e'⟩:=ho.tag hg;exact hD _ _ _ e'⟩)
 have k1:Own Y B 65 9 dP h.e.v (es.map (WM F)):=IG (Nat.le_refl _) (l.aaE hM hbe);have k2:Own Y B 79 2 eu h.d.v (ds.map (WN F)):=IG (Nat.le_refl _) (l.aaF hM);have k3:Own Y B 81 4 dW h.m.v (ms.map (WO F)):=IG (Nat.le_refl _) (l.aaG hM);have k4:Own Y B 83 2 fK h.w.v (C.Q.map (waR F)):=IG (Nat.le_refl _) (l.aaH hM);have r1:∀x∈es,Own Y B 148 3 dB (H x.sa x.sn x.sc) ((scan x).map (yY F)):=fun x hx=>IG (Nat.le_refl _) (l.aaI hM hx)
 have r2:∀x∈ds,Own Y B 3 1 aZ (H x.sa x.sn x.sc) ((dn x).map (dx (F 0))):=fun x hx=>IG (Nat.le_refl _) (l.aaJ hM hx)
 have r3:∀x∈ms,Own Y B 3 1 aZ (H x.sa x.sn x.sc) ((mn x).map (dx (F 0))):=fun x hx=>IG (Nat.le_refl _) (l.aaK hM hx)
 obtain⟨f1,a1,b1⟩:=LC (hc:=l9) FH (r:=WM F) (a:=EvC.sa) (n:=EvC.sn) (q:=EvC.sc) (fun _=>rfl) (fun _=>rfl) (fun _=>rfl) r1 (fun x hx=>by rw[List.length_map];have:=g1 (scan x) (by rw[←h4];exact List.mem_map_of_mem hx);omega);obtain⟨f2,a2,b2⟩:=LC (hc:=gZ) tX (r:=WN F) (a:=aK.sa) (n:=aK.sn) (q:=aK.sc) (fun _=>rfl) (fun _=>rfl) (fun _=>rfl) r2 (fun x hx=>by rw[List.length_map];have:=g2 (dn x) (by rw[←h5];exact List.mem_map_of_mem hx);omega);obtain⟨f3,a3,b3⟩:=LC (hc:=gZ) tX (r:=WO F) (a:=aM.sa) (n:=aM.sn) (q:=aM.sc) (fun _=>rfl) (fun _=>rfl) (fun _=>rfl) r3 (fun x hx=>by rw[List.length_map];have:=g3 (mn x) (by rw[←h6];exact List.mem_map_of_mem hx);omega);have hnm:∀i,i<4→(⟨sl 0,sl 1,sl 2,sl 3,h.e,h.d,h.m,h.w⟩:HC).nm i=sl i:=fun i hi=>by
  rcases(by omega:i=0∨i=1∨i=2∨i=3) with rfl|rfl|rfl|rfl <;> rfl
 subst hF;refine⟨_,es.map (WM (bN (aS C))),ds.map (WN (bN (aS C))),ms.map (WO (bN (aS C))),f1,f2,f3,rfl,gU.mono (B:=B) ⟨k1,k2,k3,k4,fun i hi=>?_,a1,a2,a3,?_,?_,?_,?_,?_,?_⟩ hwB,DF⟩
 ·rw[hnm i hi]
  exact(show Own Y N 9 1 encStr (H (sl i).a (sl i).n (sl i).c) _ from IG hN (hsl i hi)).mono hN
 ·show _=C.E.map (dK (bN (aS C)))
  rw[←h1,List.map_map,List.map_map];exact List.map_congr_left (fun x _=>rfl)
 ·show _=C.D.map _
  rw[←h2,List.map_map,List.map_map];exact List.map_congr_left (fun x _=>rfl)
 ·show _=C.M.map _
  rw[←h3,List.map_map,List.map_map];exact List.map_congr_left (fun x _=>rfl)
 ·rw[b1];show _=C.SE.map _;rw[←h4,List.map_map];rfl
 ·rw[b2];show _=C.SD.map _;rw[←h5,List.map_map];rfl
 ·rw[b3];show _=C.SM.map _;rw[←h6,List.map_map];rfl
attribute [local go_sem] Oper.semAt_some
theorem Ad {X:World} {b:Nat} {h h':HC} (hb:Bx X b (aA h)):Bx ((((((((X.setCell ⟨b,0,G⟩ h'.t.v).setCell ⟨b,1,G⟩ h'.s.v).setCell ⟨b,2,G⟩ h'.o.v).setCell ⟨b,3,G⟩ h'.p.v).setCell ⟨b,4,G⟩ h'.e.v).setCell ⟨b,5,G⟩ h'.d.v).setCell ⟨b,6,G⟩ h'.m.v).setCell ⟨b,7,G⟩ h'.w.v) b (aA h'):=by
 have:=((((((((hb).aU 0 ak h'.t.v).aU 1 ak h'.s.v).aU 2 ak h'.o.v).aU 3 ak h'.p.v).aU 4 ak h'.e.v).aU 5 ak h'.d.v).aU 6 ak h'.m.v).aU 7 ak h'.w.v
 simpa[aA] using this
theorem tV {X:World} {b:Nat} {h':HC}:Same (fun i=>i≠b) X ((((((((X.setCell ⟨b,0,G⟩ h'.t.v).setCell ⟨b,1,G⟩ h'.s.v).setCell ⟨b,2,G⟩ h'.o.v).setCell ⟨b,3,G⟩ h'.p.v).setCell ⟨b,4,G⟩ h'.e.v).setCell ⟨b,5,G⟩ h'.d.v).setCell ⟨b,6,G⟩ h'.m.v).setCell ⟨b,7,G⟩ h'.w.v):=(((((((((Same.refl' X)).setTail (fun hn=>hn rfl)).setTail (fun hn=>hn rfl)).setTail (fun hn=>hn rfl)).setTail (fun hn=>hn rfl)).setTail (fun hn=>hn rfl)).setTail (fun hn=>hn rfl)).setTail (fun hn=>hn rfl)).setTail (fun hn=>hn rfl)
theorem Row.ahO (w:World) (s:Bs):Row (w.alloc (J #[.string ⟨s.toArray⟩] 9)) 1 encStr (S ⟨w.heap.size,0,G⟩) 1 1 [s]:=
 (Own.new (hc:=kQ) w w.heap.size 9 #[.string ⟨s.toArray⟩] [s] (Nat.le_refl _) rfl (by simp[maxLen])).row ak
theorem UB.lay {w X:World} {h:HC} {es:O EvC} {ds:O aK} {ms:O aM} {c:Cont} (o:UB w X h es ds ms c) (h1:∀L∈c.SE,L.length≤2000000) (h2:∀L∈c.SD,L.length≤2000000) (h3:∀L∈c.SM,L.length≤2000000):
  ∃scan dn mn,Lay X w.heap.size h es ds ms c.Q scan dn mn∧es.map scan=c.SE∧ds.map dn=c.SD∧ms.map mn=c.SM:=by
 obtain⟨f1,a1,b1⟩:=kE.fn (hc:=l9) FH (val:=EvC.val) (a:=EvC.sa) (n:=EvC.sn) (q:=EvC.sc) (fun _=>rfl) o.fe o.le (fun L hL=>by have:=h1 L hL;omega);obtain⟨f2,a2,b2⟩:=kE.fn (hc:=gZ) tX (val:=aK.val) (a:=aK.sa) (n:=aK.sn) (q:=aK.sc) (fun _=>rfl) o.fd o.ld (fun L hL=>by have:=h2 L hL;omega);obtain⟨f3,a3,b3⟩:=kE.fn (hc:=gZ) tX (val:=aM.val) (a:=aM.sa) (n:=aM.sn) (q:=aM.sc) (fun _=>rfl) o.fm o.lm (fun L hL=>by have:=h3 L hL;omega);exact⟨f1,f2,f3,⟨o.oe,o.od,o.om,o.oq,a1,a2,a3,o.fe.pair,o.fd.pair,o.fm.pair,o.fx⟩,b1,b2,b3⟩
theorem nH {α β γ:Type} (f:α→β) (g:α→γ):∀l:O α,(l.map f).zip (l.map g)=l.map (fun x=>(f x,g x))
 |[]=>rfl
 |x::l=>congrArg ((f x,g x):: ·) (nH f g l)
theorem DW {es:O EvC} {ds:O aK} {ms:O aM} {scan:EvC→O Sn} {dn:aK→O I} {mn:aM→O I} {c:Cont} (h1:es.map EvC.base=c.E) (h2:ds.map aK.base=c.D) (h3:ms.map aM.base=c.M) (h4:es.map scan=c.SE) (h5:ds.map dn=c.SD) (h6:ms.map mn=c.SM):
  aY es ds ms c.Q scan dn mn=aS c:=by
 unfold aS aY;rw[←h1,←h2,←h3,←h4,←h5,←h6,nH,nH,nH,List.flatMap_map,List.flatMap_map,List.flatMap_map]
 rfl
theorem GH (h:HC) (nl:Nat→O Bs) (es:O EvC) (ds:O aK) (ms:O aM) (qs:O Wa) (scan:EvC→O Sn) (dn:aK→O I) (mn:aM→O I) (w:World) (hg:xU w)
  (hn:∀i,i<4→Row w 1 encStr (h.nm i).a (h.nm i).n (h.nm i).c (nl i)) (hd:Deep w h es ds ms qs scan dn mn) (hB:I8 nl es ds ms qs scan dn mn) (hS:mZ h nl es ds ms qs scan dn mn=true)
  (C:Cont) (hC:C=wG es.length nl es ds ms qs scan dn mn) (hbare:∀e∈C.E,C8 e) (htold:∀x∈aS C,∃s:Nat,s<4∧x.1=(s:I)∧aV x.2 (C.nl s).length=true) (XU:∀s:Nat,s<4→(bN (aS C) (s:I)).length≤300∧(C.nl s).length≤300):
  Calls Tryz.prog 44 #[fJ h] w (Qj w (bV C)):=by
 refine(callsIn_wide (n:=3)).1 ?_;refine callsIn_of_wp_marks Tryz.func44 rfl trivial ?_ rfl;simp only[Tryz.ntmps44,List.size_toArray,List.length_cons,List.length_nil,Nat.reduceAdd,Nat.reduceSub,Array.replicate_succ,Array.replicate_zero,List.push_toArray,List.append_toArray,List.nil_append,List.cons_append];refine wpIn_wide.2 ?_;have hb0:Below w.heap.size w ((w.alloc (J (aA h) 41)).alloc (J #[H G 0 0,H G 0 0,H G 0 0,H G 0 0,H G 0 0,H G 0 0,H G 0 0,H G 0 0] 41)):=((Below.refl _ _).alloc (Nat.le_refl _) _).alloc ak _;have Cg:=U (FU h nl es ds ms qs scan dn mn _ (hg.below hb0) (fun i hi=>(hn i hi).below hb0 rfl) (hd.below hb0 rfl));rw[hS] at Cg;have HOWN:=U (fun W (hW:Below w.heap.size w W)=>(by have:=Mg h nl es ds ms qs scan dn mn W (fun i hi=>(hn i hi).below hW rfl) (hd.below hW rfl) hB;rw[←hC] at this;exact this:Calls Tryz.prog 106 #[fJ h] W (I7 W C)));have gL:=U ((Bx.new w (aA h) 41).alloc (J #[H G 0 0,H G 0 0,H G 0 0,H G 0 0,H G 0 0,H G 0 0,H G 0 0,H G 0 0] 41));have hbr:=Bx.new (w.alloc (J (aA h) 41)) #[H G 0 0,H G 0 0,H G 0 0,H G 0 0,H G 0 0,H G 0 0,H G 0 0,H G 0 0] 41;rw[World.size_alloc] at hbr;have zk:=U hbr;have hbt:((w.alloc (J (aA h) 41)).alloc (J #[H G 0 0,H G 0 0,H G 0 0,H G 0 0,H G 0 0,H G 0 0,H G 0 0,H G 0 0] 41)).heap[w.heap.size]?=S (J (aA h) 41 (0,0)):=(Below.heap_alloc _ _ _ ak).trans (World.alloc_heap_new w _);have HBT:=U hbt;have HB0:=U hb0;have F8:Hid ((∀L∈C.SE,L.length≤2000000)∧(∀L∈C.SD,L.length≤2000000)∧(∀L∈C.SM,L.length≤2000000)):=U (by
  rw[hC];refine⟨fun L hL=>?_,fun L hL=>?_,fun L hL=>?_⟩
  ·obtain⟨x,hx,rfl⟩:=List.mem_map.1 hL;exact hB.2.2.2.2.2.1 x (List.mem_of_mem_take hx)
  ·obtain⟨x,hx,rfl⟩:=List.mem_map.1 hL;exact hB.2.2.2.2.2.2.1 x hx
  ·obtain⟨x,hx,rfl⟩:=List.mem_map.1 hL;exact hB.2.2.2.2.2.2.2 x hx)
 have Oi:Hid (C.E.length≤2000000∧C.D.length≤2000000∧C.M.length≤2000000∧C.Q.length≤2000000):=U (by
  rw[hC];refine⟨?_,?_,?_,hB.2.2.2.1⟩
  ·show((es.take es.length).map _).length≤_;rw[List.length_map,List.length_take];have:=hB.1;omega
  ·show(ds.map _).length≤_;rw[List.length_map];exact hB.2.1
  ·show(ms.map _).length≤_;rw[List.length_map];exact hB.2.2.1)
 have ae6:=U hbare;have ae7:=U htold;have oO:=U XU;clear hC hS hb0 hbr hd hg hn hB hbare htold XU hbt;obtain⟨W0,hW0⟩:∃W,W=(w.alloc (J (aA h) 41)).alloc (J #[H G 0 0,H G 0 0,H G 0 0,H G 0 0,H G 0 0,H G 0 0,H G 0 0,H G 0 0] 41):=⟨_,rfl⟩;rw[←hW0] at Cg gL zk HB0 HBT;go_wp2_with fail;rw[←hW0];clear hW0;refine Cg.q.mono ?_;rintro e w1 ⟨rfl,hb1⟩;have HB1:=U (HB0.q.bD hb1);have bE:=U (gL.q.keep hb1);have HR1:=U (zk.q.keep hb1);have ahP:=U ((hb1.block _ gL.q.2.2).trans HBT.q);have VT:=bE.q.1;clear hb1;go_wp2_with fail;refine(HOWN.q w1 HB1.q).mono ?_;rintro e w2 ⟨h',es',ds',ms',rfl,Oj⟩;have aW:=U (bE.q.keep Oj.b);have HR2:=U (HR1.q.keep Oj.b);have HB2:=U (HB1.q.trans (Oj.b.mono HB1.q.size));have aki:=U ((Oj.b.block _ bE.q.2.2).trans ahP.q);have kK:=U Oj;have hcx:=aW.q.1;have hfx:=aW.q.2.1;have hlx:=aW.q.2.2;clear Oj VT;go_wp2_with fail;obtain⟨W3,hW3⟩:∃W,W=((((((((w2.setCell ⟨w.heap.size,0,G⟩ h'.t.v).setCell ⟨w.heap.size,1,G⟩ h'.s.v).setCell ⟨w.heap.size,2,G⟩ h'.o.v).setCell ⟨w.heap.size,3,G⟩ h'.p.v).setCell ⟨w.heap.size,4,G⟩ h'.e.v).setCell ⟨w.heap.size,5,G⟩ h'.d.v).setCell ⟨w.heap.size,6,G⟩ h'.m.v).setCell ⟨w.heap.size,7,G⟩ h'.w.v):=⟨_,rfl⟩;have Oi:Hid (es'.length≤140737488355328∧ds'.length≤140737488355328∧ms'.length≤140737488355328∧C.Q.length≤140737488355328):=U (by
  have:=Oi.q;have e1:es'.length=C.E.length:=by rw[←kK.q.be,List.length_map]
  have e2:ds'.length=C.D.length:=by rw[←kK.q.bd,List.length_map]
  have e3:ms'.length=C.M.length:=by rw[←kK.q.bm,List.length_map]
  omega)
 have eD:Hid (Bx W3 w.heap.size (aA h')):=U (by rw[hW3];exact Ad aW.q);have LD:Hid (Same (fun i=>i≠w.heap.size) w2 W3):=U (by rw[hW3];exact tV);rw[←hW3];clear hW3 hcx hfx hlx;have HR3:=U (LD.q.bx HR2.q ah);have HB3:Hid (Below w.heap.size w W3):=U (LD.q.below HB2.q (fun i hi=>by omega) HB2.q.size);have yO:Hid (w.heap.size+1<W3.heap.size):=U HR3.q.2.2;have adg:w.heap.size+1<w1.heap.size:=HR1.q.2.2;have Wl:=U adg;have ahQ:Hid (∃jJ kZ oZ,Lay W3 w1.heap.size h' es' ds' ms' C.Q jJ kZ oZ∧es'.map jJ=C.SE∧ds'.map kZ=C.SD∧ms'.map oZ=C.SM):=U (by
  obtain⟨f1,f2,f3,hl,b1,b2,b3⟩:=kK.q.lay F8.q.1 F8.q.2.1 F8.q.2.2;exact⟨f1,f2,f3,hl.same (LD.q.mono (fun i hi _=>by omega)),b1,b2,b3⟩)
 have Ol:Hid (∀q,q<4→Own W3 w1.heap.size 9 1 encStr (h'.nm q).v (C.nl q)):=U (fun q hq=>(kK.q.on q hq).same LD.q (fun g hg e=>by have:=((kK.q.on q hq).lt g hg).1;omega));clear adg;refine(jH h' W3).mono ?_;rintro e w4 ⟨rfl,hb4⟩;have dL:=U hb4;clear hb4;have hmm:= @run_makeMap Tryz.prog
 go_wp2_with (go_at_call 57;refine(Iz _ _).mono ?_;rintro e w' ⟨rfl,rfl⟩)
 clear hmm;have uG:(((((w4.alloc (J #[h'.t.v,h'.s.v,h'.o.v,h'.p.v] 101)).alloc (J #[H G 0 0,H G 0 0,H G 0 0,H G 0 0] 101)).alloc (.map #[] 0)).alloc (J #[.map (S (w4.heap.size+2))] 172)).alloc (J #[.pointer (S ⟨w.heap.size,0,G⟩)] 113)).heap.size=w4.heap.size+5:=by simp
 have BH:Below w4.heap.size w4 (((((w4.alloc (J #[h'.t.v,h'.s.v,h'.o.v,h'.p.v] 101)).alloc (J #[H G 0 0,H G 0 0,H G 0 0,H G 0 0] 101)).alloc (.map #[] 0)).alloc (J #[.map (S (w4.heap.size+2))] 172)).alloc (J #[.pointer (S ⟨w.heap.size,0,G⟩)] 113)):=((((Below.refl _ _).alloc (Nat.le_refl _) _).alloc ak _).alloc (by simp;omega) _).alloc (by simp;omega) _|>.alloc (by simp;omega) _;have XV:Bx (((((w4.alloc (J #[h'.t.v,h'.s.v,h'.o.v,h'.p.v] 101)).alloc (J #[H G 0 0,H G 0 0,H G 0 0,H G 0 0] 101)).alloc (.map #[] 0)).alloc (J #[.map (S (w4.heap.size+2))] 172)).alloc (J #[.pointer (S ⟨w.heap.size,0,G⟩)] 113)) w4.heap.size #[h'.t.v,h'.s.v,h'.o.v,h'.p.v]:=((((Bx.new w4 _ _).alloc _).alloc _).alloc _).alloc _;have XW:Bx (((((w4.alloc (J #[h'.t.v,h'.s.v,h'.o.v,h'.p.v] 101)).alloc (J #[H G 0 0,H G 0 0,H G 0 0,H G 0 0] 101)).alloc (.map #[] 0)).alloc (J #[.map (S (w4.heap.size+2))] 172)).alloc (J #[.pointer (S ⟨w.heap.size,0,G⟩)] 113)) (w4.heap.size+1) (uo fun _=>⟨G,0,0⟩):=by
  have:=(((Bx.new (w4.alloc (J #[h'.t.v,h'.s.v,h'.o.v,h'.p.v] 101)) #[H G 0 0,H G 0 0,H G 0 0,H G 0 0] 101).alloc (.map #[] 0)).alloc (J #[.map (S (w4.heap.size+2))] 172)).alloc (J #[.pointer (S ⟨w.heap.size,0,G⟩)] 113);rw[World.size_alloc] at this;exact this
 have FY:Bx (((((w4.alloc (J #[h'.t.v,h'.s.v,h'.o.v,h'.p.v] 101)).alloc (J #[H G 0 0,H G 0 0,H G 0 0,H G 0 0] 101)).alloc (.map #[] 0)).alloc (J #[.map (S (w4.heap.size+2))] 172)).alloc (J #[.pointer (S ⟨w.heap.size,0,G⟩)] 113)) (w4.heap.size+3) #[.map (S (w4.heap.size+2))]:=by
  have:=(Bx.new (((w4.alloc (J #[h'.t.v,h'.s.v,h'.o.v,h'.p.v] 101)).alloc (J #[H G 0 0,H G 0 0,H G 0 0,H G 0 0] 101)).alloc (.map #[] 0)) #[.map (S (w4.heap.size+2))] 172).alloc (J #[.pointer (S ⟨w.heap.size,0,G⟩)] 113);rw[World.size_alloc,World.size_alloc,World.size_alloc] at this;exact this
 have FZ:Bx (((((w4.alloc (J #[h'.t.v,h'.s.v,h'.o.v,h'.p.v] 101)).alloc (J #[H G 0 0,H G 0 0,H G 0 0,H G 0 0] 101)).alloc (.map #[] 0)).alloc (J #[.map (S (w4.heap.size+2))] 172)).alloc (J #[.pointer (S ⟨w.heap.size,0,G⟩)] 113)) (w4.heap.size+4) #[.pointer (S ⟨w.heap.size,0,G⟩)]:=by
  have:=Bx.new ((((w4.alloc (J #[h'.t.v,h'.s.v,h'.o.v,h'.p.v] 101)).alloc (J #[H G 0 0,H G 0 0,H G 0 0,H G 0 0] 101)).alloc (.map #[] 0)).alloc (J #[.map (S (w4.heap.size+2))] 172)) #[.pointer (S ⟨w.heap.size,0,G⟩)] 113;rw[World.size_alloc,World.size_alloc,World.size_alloc,World.size_alloc] at this;exact this
 have XY:lH Tryz.prog 70 3 (((((w4.alloc (J #[h'.t.v,h'.s.v,h'.o.v,h'.p.v] 101)).alloc (J #[H G 0 0,H G 0 0,H G 0 0,H G 0 0] 101)).alloc (.map #[] 0)).alloc (J #[.map (S (w4.heap.size+2))] 172)).alloc (J #[.pointer (S ⟨w.heap.size,0,G⟩)] 113)) (w4.heap.size+2) 0 (fun _ _=>G):=by
  have h0:=lH.new (P:=Tryz.prog) (k:=70) (e:=3) ((w4.alloc (J #[h'.t.v,h'.s.v,h'.o.v,h'.p.v] 101)).alloc (J #[H G 0 0,H G 0 0,H G 0 0,H G 0 0] 101));have e1:((w4.alloc (J #[h'.t.v,h'.s.v,h'.o.v,h'.p.v] 101)).alloc (J #[H G 0 0,H G 0 0,H G 0 0,H G 0 0] 101)).heap.size=w4.heap.size+2:=by simp
  rw[e1] at h0;exact h0.of_eq ((Below.heap_alloc _ _ _ ak).trans (Below.heap_alloc _ _ _ ak))
 have hVT:(((((w4.alloc (J #[h'.t.v,h'.s.v,h'.o.v,h'.p.v] 101)).alloc (J #[H G 0 0,H G 0 0,H G 0 0,H G 0 0] 101)).alloc (.map #[] 0)).alloc (J #[.map (S (w4.heap.size+2))] 172)).alloc (J #[.pointer (S ⟨w.heap.size,0,G⟩)] 113)).heap[w.heap.size]?=W3.heap[w.heap.size]?:=(BH.block _ (by have:=dL.q.size;have:=yO.q;omega)).trans (dL.q.block _ (by have:=yO.q;omega));revert uG BH XV XW FY FZ XY hVT;generalize((((w4.alloc (J #[h'.t.v,h'.s.v,h'.o.v,h'.p.v] 101)).alloc (J #[H G 0 0,H G 0 0,H G 0 0,H G 0 0] 101)).alloc (.map #[] 0)).alloc (J #[.map (S (w4.heap.size+2))] 172)).alloc (J #[.pointer (S ⟨w.heap.size,0,G⟩)] 113)=V;intro uG BH XV XW FY FZ XY hVT;obtain⟨jJ,kZ,oZ,wm,q1,q2,q3⟩:=ahQ.q;have HL:=U wm;have HQ:=U (⟨q1,q2,q3⟩:_∧_∧_);have XZ:W3.heap.size≤w4.heap.size:=dL.q.size;have GI:Below W3.heap.size W3 V:=dL.q.trans (BH.mono XZ);have hsp:aY es' ds' ms' C.Q jJ kZ oZ=aS C:=DW kK.q.be kK.q.bd kK.q.bm q1 q2 q3;obtain⟨xs,hxs⟩:∃xs,xs=aG h' es' ds' ms' C.Q jJ kZ oZ:=⟨_,rfl⟩;have X0:kr W3 xs=aS C:=by rw[hxs,←hsp];exact wm.vals
 have SS:=U hxs;have Wm:=U X0;have ahR:Hid (∀p∈xs,∃g o,p.2=(⟨g,o,G⟩:Addr)):=U (by rw[hxs];exact nK.all _ _ _ _ _ _ _ _);have ahS:Hid (∀p∈xs,∃n,W3.cell? p.2=S (.int .i64 n)):=U (by rw[hxs];exact wm.ints);have ae8:Hid (∀p∈xs,CV W3 p.2.block∧w1.heap.size≤p.2.block):=U (by rw[hxs];exact fun p hp=>wm.soft hp);have ahT:Hid ((xs.map Prod.snd).Nodup):=U (by rw[hxs];exact wm.nodup);have ae9:Hid (Deep W3 h' es' ds' ms' C.Q jJ kZ oZ):=U ⟨(show Own W3 w1.heap.size 65 9 dP (H h'.e.a h'.e.n h'.e.c) es' from wm.oe).row (hc:=sO) Oi.q.1,(show Own W3 w1.heap.size 79 2 eu (H h'.d.a h'.d.n h'.d.c) ds' from wm.od).row (hc:=qJ) Oi.q.2.1,(show Own W3 w1.heap.size 81 4 dW (H h'.m.a h'.m.n h'.m.c) ms' from wm.om).row (hc:=oo) Oi.q.2.2.1,(show Own W3 w1.heap.size 83 2 fK (H h'.w.a h'.w.n h'.w.c) C.Q from wm.oq).row (hc:=sH) Oi.q.2.2.2,
  fun x hx=>(show Own W3 w1.heap.size 148 3 dB (H x.sa x.sn x.sc) (jJ x) from wm.se x hx).row (hc:=l9) (by have:=F8.q.1 (jJ x) (by rw[←q1];exact List.mem_map_of_mem hx);omega),
  fun x hx=>(show Own W3 w1.heap.size 3 1 aZ (H x.sa x.sn x.sc) (kZ x) from wm.sd x hx).row (hc:=gZ) (by have:=F8.q.2.1 (kZ x) (by rw[←q2];exact List.mem_map_of_mem hx);omega),
  fun x hx=>(show Own W3 w1.heap.size 3 1 aZ (H x.sa x.sn x.sc) (oZ x) from wm.sm x hx).row (hc:=gZ) (by have:=F8.q.2.2 (oZ x) (by rw[←q3];exact List.mem_map_of_mem hx);omega)⟩
 have hI0:NI w W3 (V.heap.size+5) w4.heap.size (w4.heap.size+1) (w4.heap.size+3) (w4.heap.size+2) h' C.nl (bN (aS C)) xs [] V:=
  ⟨fun p hp=>(by cases hp),HB3.q.bD GI,Moved.start (Same.of_below GI (fun i hi _=>hi)),eD.q.keep GI,HR3.q.keep GI,XV,⟨fun _=>⟨G,0,0⟩,XW,fun s _=>Own.iJ _ _ _ _ _,fun _ _ _ _ _ g hg=>by cases hg⟩,FY,XY⟩
 have HI0:=U hI0;have DN:=U uG;have xq:=U XZ;have ahU:=U GI;have HVP:=U FZ;clear hI0 BH XV XW FY FZ XY hVT GI q1 q2 q3 wm hsp hxs X0;refine wpIn_wide.1 (Qk (n:=3) (gf:=137) (lb:=#[.pointer (S ⟨w4.heap.size+4,0,G⟩)]) (by simp[go_sem]) CJ
  (rT:=Jh) (k:=3) (D:=fun i=>i=w.heap.size∨i=w4.heap.size+4∨(V.heap.size+2≤i∧i<V.heap.size+5)) (R:=yP (fun a=>∃g j,a=(⟨g,j,G⟩:Addr)∧∀s,(s,a)∉xs) W3) (xs:=xs)
  (fun W hW hWs=>by
   have e:=SS.q;have Wn:Below W3.heap.size W3 W:=ahU.q.bD hW;rw[e];exact LF h' es' ds' ms' C.Q jJ kZ oZ w.heap.size (w4.heap.size+4) _ _ W3 W ae9.q (eD.q.keep Wn) (HVP.q.keep hW) (fun a v _ hc=>aT Wn rfl hc) Wn.size (.inl rfl) (.inr (.inl rfl))
    (fun b o ha k hk j hj=>⟨b,_,rfl,fun s=>HL.q.aei ha hj s⟩) (fun e he b o ha j hj=>⟨b,_,rfl,fun s=>HL.q.jk he ha s⟩)
    (fun b o ha k hk=>⟨b,_,rfl,fun s=>HL.q.aej ha s⟩) (fun b o ha k hk=>⟨b,_,rfl,fun s=>HL.q.aek ha s⟩) (fun i h1 h2=> .inr (.inr ⟨by omega,by omega⟩))) (by have:=yO.q;omega)
  (fun x args X hx=>by rw[hx];rfl)
  (NI w W3 (V.heap.size+5) w4.heap.size (w4.heap.size+1) (w4.heap.size+3) (w4.heap.size+2) h' C.nl (bN (aS C)) xs)
  (fun _ _ _=>False)
  (fun pre X Y hh k=>hh.same (V:=V.heap.size) (k.mono (fun i hi _=>by omega)) (Nat.le_refl _) ah (by have:=yO.q;omega) ah ah ah ah)
  (fun c pre X Y hh k=>hh)
  (fun pre X hh a v hC hc=>by
   obtain⟨g,j,rfl,hno⟩:=hC;exact hh.m.cell hc (fun s hs=>hno s (hh.sub _ hs)))
  (fun c pre X hh=>hh.elim)
  HI0.q ?round ?done ?stop)
 case stop=>
  intro c pre X _ hh;exact hh.elim
 case round=>
  rintro pre ⟨x1,a0⟩ args X hI hpre rfl hsz m;have hmem:(x1,a0)∈xs:=hpre.subset ak;obtain⟨b,o,ha0⟩:=ahR.q _ hmem;simp only at ha0;subst ha0;obtain⟨n,hn0⟩:=ahS.q _ hmem;simp only at hn0;have hval:ja W3 (x1,⟨b,o,G⟩)=(x1,n):=by unfold ja;rw[kR hn0]
  have htm:(x1,n)∈aS C:=by rw[←Wm.q,←hval];exact List.mem_map_of_mem hmem
  obtain⟨s,hs4,hs1,hs2⟩:=ae7.q _ htm;simp only at hs1 hs2;subst hs1;obtain⟨k,rfl,hk⟩:=yF hs2;have hnot:∀s',(s',(⟨b,o,G⟩:Addr))∉pre:=fun s' hs'=>by
   obtain⟨t,ht⟩:=hpre;have hnd:=ahT.q;rw[←ht,List.map_append,List.map_append] at hnd;have:=(List.nodup_append.1 (List.nodup_append.1 hnd).1).2.2 _ (List.mem_map_of_mem hs') _ (List.mem_map_of_mem (List.mem_singleton.2 rfl));exact this rfl
  have hpv:kr W3 (pre++[((s:I),(⟨b,o,G⟩:Addr))])=kr W3 pre++[((s:I),(k:I))]:=by unfold kr;rw[List.map_append,List.map_singleton,hval]
  have hpf:kr W3 pre++[((s:I),(k:I))]<+:aS C:=by rw[←hpv,←Wm.q];exact hpre.map _
  have X6:=U hpv;have zO:=U (Wj hpre);have HSF:=U (ae8.q _ hmem);have ahx:=U hmem;have lZ:=U hn0;have Wo:=U hnot;have HK:=U hk;have X8:=U hpf;clear hval htm hs2 hmem hpre hn0 hnot hpv hpf hk
  gi_wp2
  refine⟨Below.refl _ _,fun X2 hk2=>?_⟩;have hI2:=hI.same (V:=V.heap.size) (hk2.mono (fun i hi _=>by omega)) (Nat.le_refl _) (by have:=xq.q;omega) (by have:=yO.q;have:=xq.q;omega) ah ah ah ah;have hz2:V.heap.size+5≤X2.heap.size:=by have:=hk2.size;omega
  have hc2:=hI2.m.cell lZ.q Wo.q;have hf2:=(hI2.m.soft HSF.q.1).frozen (j:=o);have hbl:b<W3.heap.size:=by obtain⟨cs,T,e⟩:=HSF.q.1;exact(Array.getElem?_eq_some_iff.1 e).1
  have Bt:=U (⟨hbl,HSF.q.2⟩:b<W3.heap.size∧w1.heap.size≤b);obtain⟨⟨na,nn,nc⟩,hns⟩:∃z:Sl,z=h'.nm s:=⟨_,rfl⟩;have hrow:=(show Own X2 w1.heap.size 9 1 encStr (H (h'.nm s).a (h'.nm s).n (h'.nm s).c) (C.nl s) from MG HL.q (fun p hp=>by rw[←SS.q];exact hI2.sub p hp) hI2.m (Ol.q s hs4)).row (hc:=kQ) (by have:=(oO.q s hs4).2;omega);have hcw:X2.cell? ⟨w4.heap.size,s,G⟩=S (h'.nm s).v:=(hI2.ws.1 s).trans (pU h'.nm hs4);rw[←hns] at hrow hcw;simp only at hrow;obtain⟨nm,gb,go,hnm,hab,hcn⟩:=hrow.at_ (i:=k) (by rw[←hrow.len];exact HK.q);subst hab;have hkn:k<nn:=by rw[←hrow.len];exact HK.q
  have HNS:=U hns;clear hns;obtain⟨sl,rP,hown,hap⟩:=hI2.wa;have hca:X2.cell? ⟨w4.heap.size+1,s,G⟩=S (sl s).v:=(rP.1 s).trans (pU sl hs4);have hcm:=hI2.mv.1 0;have adj:(Lit.int .i64 (s:I)).wf=true:=WalkArith.wf_i64 ah;have hkl:k<300:=by have:=(oO.q s hs4).2;have:=HK.q;omega
  have adk:(Lit.int .i64 (k:I)).wf=true:=WalkArith.wf_i64 ah;have jT:=av (Below.refl X2.heap.size X2) (J #[.int .i64 (s:I),.int .i64 (k:I)] 70);have LG:=hI2.mp.of_eq (jT.block _ hI2.mp.lt);have hlk:(Instr.lookup 172 (.map (S (w4.heap.size+1+1))) (.agg #[.int .i64 (s:I),.int .i64 (k:I)]) true).run Tryz.prog (X2.alloc (J #[.int .i64 (s:I),.int .i64 (k:I)] 70))= .ok (.tuple #[.int .i64 ((BK (kr W3 pre) (s:I) (k:I)).getD 0),.bool (BK (kr W3 pre) (s:I) (k:I)).isSome]) (X2.alloc (J #[.int .i64 (s:I),.int .i64 (k:I)] 70)):=LG.ada Tf underlying172 underlying3 (Zp _) (Tg adj adk);have hcm1:((X2.alloc (J #[.int .i64 (s:I),.int .i64 (k:I)] 70))).cell? ⟨w4.heap.size+1+1+1,0,G⟩=S (.map (S (w4.heap.size+1+1))):=aT jT rfl hcm;have hcA:=(Bx.new X2 #[.int .i64 (s:I),.int .i64 (k:I)] 70).1;have akj:=hcA 0;have akk:=hcA 1;have hfb:((X2.alloc (J #[.int .i64 (s:I),.int .i64 (k:I)] 70))).cell? ⟨b,o,G⟩=S (.int .i64 (k:I)):=aT jT rfl hc2;have hff:((X2.alloc (J #[.int .i64 (s:I),.int .i64 (k:I)] 70))).frozen? ⟨b,o,G⟩=false:=(World.frozen?_of_block (a:=⟨b,o,G⟩) (jT.block b (by have:=dL.q.size;omega))).trans hf2;have HI2:=U hI2;by_cases hin:(k:I)∈bN (kr W3 pre) (s:I)
  ·have hno:BK (kr W3 pre) (s:I) (k:I)=S ((bN (kr W3 pre) (s:I)).idxOf (k:I):I):=if_pos hin
   rw[hno] at hlk;simp only[Option.getD_some,Option.isSome_some] at hlk;obtain⟨q,hq⟩:∃q:Nat,q=(bN (kr W3 pre) (s:I)).idxOf (k:I):=⟨_,rfl⟩;rw[←hq] at hlk;have HQQ:=U hq;have BF:=U hin;clear hno hq hin hrow hcn hnm hown hap rP LG hI2 hI hcA hcm hca hcw;have LH:=HI2.q.same (V:=V.heap.size) (Same.of_below jT (fun i hi hl=>hl)) (Nat.le_refl _) (by have:=xq.q;omega) (by have:=yO.q;have:=xq.q;omega) ah ah ah ah;rw[uG] at LH;have xE:=U LH;have je:=U jT;have HV:Hid ((q:I)=dx (bN (aS C) (s:I)) (k:I)):=U (by rw[Gw (xX _ ((List.prefix_append _ _).trans X8.q)) BF.q,HQQ.q]);clear LH jT
   gi_wp2
   have hb1:=Bt.q.1;have hb2:=Bt.q.2;have hb3:=xq.q;have hb4:=Wl.q;refine⟨⟨(Below.heap_setCell _ _ _ _ (by simp;omega)).trans (je.q.block _ ah),(Below.heap_setCell _ _ _ _ (by simp;omega)).trans (je.q.block _ ah)⟩,?_,?_⟩
   ·exact(aO.of_below je.q (fun i _ hi=>hi)).trans (aO.setCell _ b o _ ah)
   ·exact NI.fin zO.q xE.q.b xE.q.m xE.q.bx xE.q.r xE.q.ws (by rw[X6.q,CU BF.q];exact xE.q.wa) xE.q.mv (by rw[X6.q,Qi BF.q,Tj BF.q];exact xE.q.mp) Wo.q lZ.q HV.q ah ah ah ah ah ah
  ·have hno:BK (kr W3 pre) (s:I) (k:I)=G:=if_neg hin
   rw[hno] at hlk;simp only[Option.getD_none,Option.isSome_none] at hlk;obtain⟨⟨sa,sn,sc⟩,hsl⟩:∃z,z=sl s:=⟨_,rfl⟩;have hown0:=hown s hs4;rw[←hsl] at hown0 hca;have hsn:sn=(bN (kr W3 pre) (s:I)).length:=by
    obtain⟨_,_,q,_⟩:=hown0.shape;simp only[Sl.v,Value.slice.injEq] at q;rw[q.2.1,List.length_map]
   have adl:sn≤300:=by rw[hsn];exact Nat.le_trans (xX _ ((List.prefix_append _ _).trans X8.q)).length_le (oO.q s hs4).1
   have hwfn:(Lit.int .i64 (sn:I)).wf=true:=WalkArith.wf_i64 ah;have hFN:zR (kr W3 pre)≤1200:=by
    have e:∀q:Nat,q<4→(bN (kr W3 pre) (q:I)).length≤300:=fun q hq=>Nat.le_trans (xX _ ((List.prefix_append _ _).trans X8.q)).length_le (oO.q q hq).1
    have e0:=e 0 ah;have e1:=e 1 ah;have e2:=e 2 ah;have e3:=e 3 ah;unfold zR;exact Nat.le_trans (Nat.add_le_add (Nat.add_le_add (Nat.add_le_add e0 e1) e2) e3) ah
   obtain⟨W5,adn,Ql,hg5⟩:=LG.put Tf underlying172 underlying3 (by unfold maxLen;omega) (Tg adj adk) hwfn;have ajZ:(Instr.mapUpdate 172 (.map (S (w4.heap.size+1+1))) (.agg #[.int .i64 (s:I),.int .i64 (k:I)]) (.int .i64 (sn:I))).run Tryz.prog (X2.alloc (J #[.int .i64 (s:I),.int .i64 (k:I)] 70))= .ok () W5:=adn;rw[hsn,←Zr hin,←Wi hs4 hin] at Ql;have LH:=HI2.q.same (V:=V.heap.size) (Same.of_below jT (fun i hi hl=>hl)) (Nat.le_refl _) (by have:=xq.q;omega) (by have:=yO.q;have:=xq.q;omega) ah ah ah ah;have hs5:Same (fun i=>i≠w4.heap.size+2) (X2.alloc (J #[.int .i64 (s:I),.int .i64 (k:I)] 70)) W5:=⟨hg5.os,hg5.tape,hg5.output,hg5.size,fun i hi hl=>hg5.block i hl (fun e=>hi (by injection e))⟩;rw[uG] at LH hown0;have hmN:W5.heap[w4.heap.size+2]?≠G:=by have:=Ql.lt;simp;omega
   have hown5:Own W5 (w4.heap.size+5+5) 9 1 encStr (H sa sn sc) ((bN (kr W3 pre) (s:I)).map (aH (C.nl s))):=(hown0.below jT rfl).same hs5 (fun g hg e=>by have:=(hown0.lt g hg).1;omega);have ado:W5.cell? ⟨w4.heap.size+1,s,G⟩=S (H sa sn sc):=hs5.F4 (aT jT rfl hca) ah;have adp:W5.cell? ⟨w4.heap.size,s,G⟩=S (H (S ⟨gb,go,G⟩) nn nc):=hs5.F4 (aT jT rfl hcw) ah;have hb1:=Bt.q.1;have hb2:=Bt.q.2;have hb3:=xq.q;have hb4:=Wl.q;have adq:W5.cell? ⟨b,o,G⟩=S (.int .i64 (k:I)):=hs5.F4 hfb ah;have Wp:X2.cell? ⟨gb,go+k,G⟩=S (.string ⟨nm.toArray⟩):=by have:=hcn 0 _ rfl;simpa using this
   have ads:W5.cell? ⟨gb,go+k,G⟩=S (.string ⟨nm.toArray⟩):=hs5.F4 (aT jT rfl Wp) (fun e=>by
    obtain⟨q,clk,hq⟩:=LG.obj;have:=aT jT rfl Wp;rw[e] at this;unfold World.cell? at this;simp[hq] at this)
   have Ji:=U hown5;have xE:=U LH;have x9:=U hs5;have Wq:=U Ql;have je:=U jT;have xu:=U hnm;have BF:=U hin;have rO:=U hsn;have HSL:=U hsl;have Jj:=U hown;have HWA:=U rP;have adt:=U adl;have xD:=U hap;have akl:(X2.alloc (J #[.int .i64 (s:I),.int .i64 (k:I)] 70)).cell? ⟨w4.heap.size+1,s,G⟩=S (H sa sn sc):=aT jT rfl hca;have iO:=U (⟨ado,adp,adq,ads⟩:_∧_∧_∧_);have HGB:Hid ((Value.slice sa sn sc).ownBlock≠S gb):=U (fun e=>by have h1:=(hown0.lt _ e).1;have h2:=((Ol.q s hs4).lt gb (by rw[←HNS.q];rfl)).2;omega);have hk0:(0:I)≤(k:I):=Int.natCast_nonneg _;have hkn2:(k:I)<(nn:I):=by omega
   have akm:(s:I)<4:=by omega
   obtain⟨i,z,hi,hz,hsize,cZ,hzs⟩:=vT;have HI:=U (⟨hi,hz,hsize,cZ,hzs⟩:_∧_∧_∧_∧_);have HLEN:Hid (((bN (kr W3 pre) (s:I)).map (aH (C.nl s))).length+1=sn+1):=U (by rw[List.length_map,←hsn]);have HWF:Hid (Bx W5 (w4.heap.size+1) (uo sl)):=U (hs5.bx (rP.keep jT) ah);have HFZ:Hid (W5.frozen? ⟨b,o,G⟩=false):=U ((World.frozen?_of_block (a:=⟨b,o,G⟩) (hs5.block b ah (by have:=jT.size;omega))).trans hff);clear hown5 LH hs5 Ql jT hnm hin hsn hsl hown rP adl hap hno ado adp adq ads Wp hcn hrow hown0 LG hg5 adn hI2 hI hca hcw hcm hi hz hsize cZ hzs hFN hwfn hcA hmN
   gi_wp2
   refine mM 15 [(0,0),(1,0),(2,0),(3,0),(4,0),(5,0),(6,0),(7,0),(8,0),(9,0),(10,0),(11,0),(12,2),(13,2),(14,0),(15,2)] (fun _=>True) (fun W'=>W'.cell? ⟨w4.heap.size+1,s,G⟩=S (H sa sn sc)∧W'.cell? ⟨w4.heap.size,s,G⟩=S (H (S ⟨gb,go,G⟩) nn nc)∧W'.cell? ⟨b,o,G⟩=S (.int .i64 (k:I))∧W'.cell? ⟨gb,go+k,G⟩=S (.string ⟨nm.toArray⟩)) au au au (trivial) (iO.q) ?_;refine qC ?_;refine aD rfl rfl (fun K hK=>?_);go_simp;have hb6:Below W5.heap.size W5 (W5.alloc (J #[.string ⟨nm.toArray⟩] 9)).drew:=(av (Below.refl W5.heap.size W5) (J #[.string ⟨nm.toArray⟩] 9)).drew;have oC:=U hb6;refine hK _ _ ⟨trivial,aT hb6 rfl iO.q.1,aT hb6 rfl iO.q.2.1,aT hb6 rfl iO.q.2.2.1,aT hb6 rfl iO.q.2.2.2⟩ ?_;clear hK K hb6;refine aD rfl rfl (fun K hK=>?_);refine og _ _ 22 rfl i z 16 underlying22 HI.q.1 HI.q.2.1 HI.q.2.2.1 HI.q.2.2.2.1 HI.q.2.2.2.2 rfl (Ji.q.below oC.q rfl) (S ⟨W5.heap.size,0,G⟩) 1 1 (sn+1) [nm] rfl (Row.ahO W5 nm) HLEN.q (by have:=adt.q;omega) (by have:=adt.q;unfold maxLen;omega) (Nat.le_trans (by have:=x9.q.size;have:=je.q.size;omega) oC.q.size) ?_;intro a' c' W9 qw iX yg;have Le:Hid (∀g,(Value.slice sa sn sc).ownBlock=S g→w4.heap.size+5+5≤g):=U (fun g hg=>(Ji.q.lt g hg).1);have X9:Bx W9 (w4.heap.size+1) (uo sl):=(HWF.q.keep oC.q).grown iX (fun e=>by have:=Le.q _ e;omega);have oh:W9.cell? ⟨w4.heap.size+1,s,G⟩=S (H sa sn sc):=(X9.1 s).trans (by rw[pU sl hs4,←HSL.q]);have Hf:∀g j v,W5.cell? ⟨g,j,G⟩=S v→(Value.slice sa sn sc).ownBlock≠S g→W9.cell? ⟨g,j,G⟩=S v:=fun g j v hc hne=>(World.cell?_of_block (a:=⟨g,j,G⟩) (iX.block g (Nat.lt_of_lt_of_le (fw hc) oC.q.size) (fun e=>hne e.symm))).trans (aT oC.q rfl hc)
   have HW9:=U X9;have zX:=U qw;have iY:=U iX;have T9:=U yg;refine hK _ _ ⟨trivial,oh,Hf _ _ _ iO.q.2.1 (fun e=>by have:=Le.q _ e;omega),Hf _ _ _ iO.q.2.2.1 (fun e=>by have:=Le.q _ e;omega),Hf _ _ _ iO.q.2.2.2 (fun e=>HGB.q e)⟩ ?_;have QF:=X9.2.1 s;have akn:W9.frozen? ⟨b,o,G⟩=false:=(World.frozen?_of_block (a:=⟨b,o,G⟩) (iX.block b (by have:=oC.q.size;have:=x9.q.size;have:=je.q.size;omega) (fun e=>by have:=Le.q _ e.symm;omega))).trans ((World.frozen?_of_block (a:=⟨b,o,G⟩) (oC.q.block b (by have:=x9.q.size;have:=je.q.size;omega))).trans HFZ.q);have ako:=Hf _ _ _ iO.q.2.2.1 (fun e=>by have:=Le.q _ e;omega);clear hK K qw iX yg Hf X9;refine qC ?_;refine eF rfl rfl rfl (fun K hK=>?_);go_simp;refine hK _ _ trivial ?_;clear hK K;refine bn ?_
   gi_wp2
   have hxw:=HW9.q.ae5 hs4 ⟨a',sn+1,c'⟩;have hsG:Same (fun i=>i≠w4.heap.size+2∧i≠w4.heap.size+1∧(Value.slice sa sn sc).ownBlock≠S i) (X2.alloc (J #[.int .i64 (s:I),.int .i64 (k:I)] 70)) (W9.setCell ⟨w4.heap.size+1,s,G⟩ (H a' (sn+1) c')):=
    (((x9.q.mono (fun i hi _=>hi.1)).tr (Same.of_below oC.q (fun i _ hl=>hl))).tr ⟨iY.q.os,iY.q.tape,iY.q.output,iY.q.size,fun i hi hl=>iY.q.block i hl (fun e=>hi.2.2 e.symm)⟩).setTail (fun hh=>hh.2.1 rfl)
   have xB:Same (fun i=>i<w4.heap.size+5+5∧i≠w4.heap.size+2∧i≠w4.heap.size+1) (X2.alloc (J #[.int .i64 (s:I),.int .i64 (k:I)] 70)) (W9.setCell ⟨w4.heap.size+1,s,G⟩ (H a' (sn+1) c')):=
    hsG.mono (fun i hi _=>⟨hi.2.1,hi.2.2,fun e=>by have:=(Ji.q.lt i e).1;have:=hi.1;omega⟩)
   have jh:∀g,(Value.slice sa sn sc).ownBlock=S g→w4.heap.size+5+5≤g:=fun g hg=>(Ji.q.lt g hg).1
   have ahV:(W9.setCell ⟨w4.heap.size+1,s,G⟩ (H a' (sn+1) c')).heap[w4.heap.size+2]?=W5.heap[w4.heap.size+2]?:=(Below.heap_setCell _ _ _ _ ak).trans ((iY.q.block _ (by have:=Wq.q.lt;have:=oC.q.size;omega) (fun e=>by have:=jh _ e.symm;omega)).trans (oC.q.block _ Wq.q.lt));have ahW:nm=aH (C.nl s) (k:I):=by rw[mK _ HK.q];exact((List.getElem?_eq_some_iff.1 xu.q).2).symm
   have HV:Hid ((sn:I)=dx (bN (aS C) (s:I)) (k:I)):=U (by rw[rO.q];refine(NS ?_ BF.q).symm;have:=xX (s:I) X8.q;rw[wh BF.q,if_pos rfl] at this;exact this);have hn5:∀q,q<4→q≠s→∀g,(sl q).v.ownBlock=S g→(Value.slice sa sn sc).ownBlock≠S g:=fun q hq DY g hg=>by
    have:=xD.q q s hq hs4 DY g hg;rw[←HSL.q] at this;exact this
   refine⟨⟨?_,?_⟩,?_,?_⟩
   ·exact(Below.heap_setCell _ _ _ _ (by show w4.heap.size+5≠b;omega)).trans ((xB.block _ ⟨by omega,by omega,by omega⟩ (by have:=je.q.size;omega)).trans (je.q.block _ ah))
   ·exact(Below.heap_setCell _ _ _ _ (by show w4.heap.size+5+1≠b;omega)).trans ((xB.block _ ⟨by omega,by omega,by omega⟩ (by have:=je.q.size;omega)).trans (je.q.block _ ah))
   ·refine(aO.of_below je.q (fun i _ hi=>hi)).trans ((aO.trans (B:=W9.setCell ⟨w4.heap.size+1,s,G⟩ (H a' (sn+1) c')) ⟨xB.size,fun i hi hl=>xB.block i ⟨?_,?_,?_⟩ hl⟩ (aO.setCell _ b o _ ah))) <;> omega
   ·refine NI.fin zO.q (xB.below xE.q.b (fun i hi=>⟨by omega,by omega,by omega⟩) xE.q.b.size) (xE.q.m.same (xB.mono (fun i hi _=>⟨by omega,by omega,by omega⟩))) (xB.bx xE.q.bx ⟨by omega,by omega,by omega⟩) (xB.bx xE.q.r ⟨by omega,by omega,by omega⟩) (xB.bx xE.q.ws ⟨by omega,by omega,by omega⟩) ⟨_,hxw,?_,?_⟩ (xB.bx xE.q.mv ⟨by omega,by omega,by omega⟩) ?_ Wo.q lZ.q HV.q ah ah ah ah ah ah
    ·intro q hq4
     rw[X6.q,wh BF.q];by_cases DY:q=s
     ·subst DY
      rw[if_pos rfl,if_pos rfl,List.map_append,List.map_singleton,←ahW];refine zX.q.same (Same.setTail (A:=fun i=>i≠w4.heap.size+1) (Same.refl' _) (fun hh=>hh rfl)) (fun g hg=>?_);have:=(zX.q.lt g hg).1;omega
     ·rw[if_neg DY,if_neg ah]
      have hO:=Jj.q q hq4;rw[DN.q] at hO;refine(hO.below je.q rfl).same hsG (fun g hg=>⟨?_,?_,hn5 q hq4 DY g hg⟩) <;> have:=(hO.lt g hg).1 <;> omega
    ·have hnew:∀q,q<4→q≠s→∀g,(Value.slice a' (sn+1) c').ownBlock=S g→(sl q).v.ownBlock≠S g:=fun q hq DY g hg e=>by
      rcases T9.q with h1|h1
      ·exact hn5 q hq DY g e (h1.symm.trans hg)
      ·rw[hg] at h1
       injection h1 with h1;have:=((Jj.q q hq).lt g e).2;have:=oC.q.size;have:=x9.q.size;have:=je.q.size;omega
     intro q q' hq hq' hne g hg
     dsimp only at hg ⊢
     by_cases h1:q=s
     ·subst h1
      rw[if_pos rfl] at hg;rw[if_neg (fun e=>hne e.symm)];exact hnew q' hq' (fun e=>hne e.symm) g hg
     ·rw[if_neg h1] at hg
      by_cases h2:q'=s
      ·subst h2
       rw[if_pos rfl];exact fun e=>hnew q hq h1 g e hg
      ·rw[if_neg h2]
       exact xD.q q q' hq hq' hne g hg
    ·rw[X6.q]
     exact Wq.q.of_eq ahV
 case done=>
  intro X hI hdef;rw[uG] at hdef;obtain⟨sl,rP,hown,hap⟩:=hI.wa;obtain⟨s0,hs0⟩:∃z,z=sl 0:=⟨_,rfl⟩;obtain⟨s1,hs1⟩:∃z,z=sl 1:=⟨_,rfl⟩;obtain⟨s2,hs2⟩:∃z,z=sl 2:=⟨_,rfl⟩;obtain⟨s3,hs3⟩:∃z,z=sl 3:=⟨_,rfl⟩;have hc0:X.cell? ⟨w4.heap.size+1,0,G⟩=S s0.v:=by rw[hs0];exact rP.1 0
  have hc1:X.cell? ⟨w4.heap.size+1,1,G⟩=S s1.v:=by rw[hs1];exact rP.1 1
  have hc2:X.cell? ⟨w4.heap.size+1,2,G⟩=S s2.v:=by rw[hs2];exact rP.1 2
  have hc3:X.cell? ⟨w4.heap.size+1,3,G⟩=S s3.v:=by rw[hs3];exact rP.1 3
  have HCC:=U (⟨hc0,hc1,hc2,hc3⟩:_∧_∧_∧_);have HXB:=U hI.bx;have IE:=U hI.r;have FR:=U hI;have zN:=U hdef;have Jj:=U hown;have Bv:=U (⟨hs0,hs1,hs2,hs3⟩:_∧_∧_∧_);clear hc0 hc1 hc2 hc3 hI rP hown hap hdef hs0 hs1 hs2 hs3;simp only[Exit.inBlock,Exit.then]
  go_wp2
  refine aI 15 [(0,0),(1,0),(2,0),(3,0),(4,0),(5,0),(6,0),(7,0),(8,0),(9,2),(10,0),(11,2),(12,0),(13,2),(14,0),(15,2)] (fun _=>True) (fun W'=>W'.cell? ⟨w4.heap.size+1,0,G⟩=S s0.v∧W'.cell? ⟨w4.heap.size+1,1,G⟩=S s1.v∧W'.cell? ⟨w4.heap.size+1,2,G⟩=S s2.v∧W'.cell? ⟨w4.heap.size+1,3,G⟩=S s3.v) au au (trivial) (HCC.q) ?_;refine qC ?_;refine aD rfl rfl (fun K hK=>?_);go_simp;have Qm:Hid (X.cell? ⟨w4.heap.size+1,0,G⟩=S s0.v∧X.cell? ⟨w4.heap.size+1,1,G⟩=S s1.v∧X.cell? ⟨w4.heap.size+1,2,G⟩=S s2.v∧X.cell? ⟨w4.heap.size+1,3,G⟩=S s3.v):=HCC;have hbx:=HXB.q;have hcx:=HXB.q.1;have hfx:=HXB.q.2.1;have hlx:=HXB.q.2.2;go_simp;have hne:w4.heap.size+1≠w.heap.size:=by have:=xq.q;have:=yO.q;omega
  have LJ:=U (show _∧_∧_∧_ from⟨bI (o':=0) (u:=s0.v) Qm.q.1 hne,bI (o':=0) (u:=s0.v) Qm.q.2.1 hne,bI (o':=0) (u:=s0.v) Qm.q.2.2.1 hne,bI (o':=0) (u:=s0.v) Qm.q.2.2.2 hne⟩);refine hK _ _ ⟨trivial,LJ.q⟩ ?_;clear hne;have ahX:=U (hbx.aU 0 ak s0.v);clear hK K hbx hcx hfx hlx;refine qC ?_;refine aD rfl rfl (fun K hK=>?_);go_simp;have hbx:=ahX.q;have hcx:=HXB.q.1;have hfx:=HXB.q.2.1;have hlx:=HXB.q.2.2;go_simp;have hne:w4.heap.size+1≠w.heap.size:=by have:=xq.q;have:=yO.q;omega
  have LK:=U (show _∧_∧_∧_ from⟨bI (o':=1) (u:=s1.v) LJ.q.1 hne,bI (o':=1) (u:=s1.v) LJ.q.2.1 hne,bI (o':=1) (u:=s1.v) LJ.q.2.2.1 hne,bI (o':=1) (u:=s1.v) LJ.q.2.2.2 hne⟩);refine hK _ _ ⟨trivial,LK.q⟩ ?_;clear hne;have ahY:=U (hbx.aU 1 ak s1.v);clear hK K hbx hcx hfx hlx;refine qC ?_;refine aD rfl rfl (fun K hK=>?_);go_simp;have hbx:=ahY.q;have hcx:=HXB.q.1;have hfx:=HXB.q.2.1;have hlx:=HXB.q.2.2;go_simp;have hne:w4.heap.size+1≠w.heap.size:=by have:=xq.q;have:=yO.q;omega
  have ahZ:=U (show _∧_∧_∧_ from⟨bI (o':=2) (u:=s2.v) LK.q.1 hne,bI (o':=2) (u:=s2.v) LK.q.2.1 hne,bI (o':=2) (u:=s2.v) LK.q.2.2.1 hne,bI (o':=2) (u:=s2.v) LK.q.2.2.2 hne⟩);refine hK _ _ ⟨trivial,ahZ.q⟩ ?_;clear hne;have ah0:=U (hbx.aU 2 ak s2.v);clear hK K hbx hcx hfx hlx;refine qC ?_;refine eF rfl rfl rfl (fun K hK=>?_);go_simp;have hbx:=ah0.q;have hcx:=HXB.q.1;have hfx:=HXB.q.2.1;have hlx:=HXB.q.2.2;go_simp;refine hK _ _ trivial ?_;have ah1:=U (hbx.aU 3 ak s3.v);clear hK K hbx hcx hfx hlx;refine bn ?_;have hY0:Bx ((((X.setCell ⟨w.heap.size,0,G⟩ s0.v).setCell ⟨w.heap.size,1,G⟩ s1.v).setCell ⟨w.heap.size,2,G⟩ s2.v).setCell ⟨w.heap.size,3,G⟩ s3.v).drew w.heap.size (aA ⟨s0,s1,s2,s3,h'.e,h'.d,h'.m,h'.w⟩):=by
   have:=ah1.q;have h2:Bx ((((X.setCell ⟨w.heap.size,0,G⟩ s0.v).setCell ⟨w.heap.size,1,G⟩ s1.v).setCell ⟨w.heap.size,2,G⟩ s2.v).setCell ⟨w.heap.size,3,G⟩ s3.v) w.heap.size (aA ⟨s0,s1,s2,s3,h'.e,h'.d,h'.m,h'.w⟩):=by simpa[aA] using this
   exact h2.drew
  have Tk:Same (fun i=>i≠w.heap.size) X ((((X.setCell ⟨w.heap.size,0,G⟩ s0.v).setCell ⟨w.heap.size,1,G⟩ s1.v).setCell ⟨w.heap.size,2,G⟩ s2.v).setCell ⟨w.heap.size,3,G⟩ s3.v).drew:=by
   have:=((((Same.refl' X).setTail (b:=w.heap.size) (o:=0) (v:=s0.v) (A:=fun i=>i≠w.heap.size) (fun hn=>hn rfl)).setTail (b:=w.heap.size) (o:=1) (v:=s1.v) (fun hn=>hn rfl)).setTail (b:=w.heap.size) (o:=2) (v:=s2.v) (fun hn=>hn rfl)).setTail (b:=w.heap.size) (o:=3) (v:=s3.v) (fun hn=>hn rfl);exact this.nO
  revert hY0 Tk;generalize((((X.setCell ⟨w.heap.size,0,G⟩ s0.v).setCell ⟨w.heap.size,1,G⟩ s1.v).setCell ⟨w.heap.size,2,G⟩ s2.v).setCell ⟨w.heap.size,3,G⟩ s3.v).drew=Y;intro hY0 Tk;have HY0:=U hY0;have o9:=U Tk;have Tm:=Tk.bx IE.q ah;have HRY:=U Tm;have hcy:=hY0.1;have rU:=hY0.2.1;have hly:=hY0.2.2;have hcr:=Tm.1;have hfr:=Tm.2.1;have hlr:=Tm.2.2;clear hY0 Tk Tm;go_wp2_with fail;have hz1:Bx ((((((((Y.setCell ⟨w.heap.size+1,0,G⟩ s0.v).setCell ⟨w.heap.size+1,1,G⟩ s1.v).setCell ⟨w.heap.size+1,2,G⟩ s2.v).setCell ⟨w.heap.size+1,3,G⟩ s3.v).setCell ⟨w.heap.size+1,4,G⟩ h'.e.v).setCell ⟨w.heap.size+1,5,G⟩ h'.d.v).setCell ⟨w.heap.size+1,6,G⟩ h'.m.v).setCell ⟨w.heap.size+1,7,G⟩ h'.w.v) (w.heap.size+1) (aA ⟨s0,s1,s2,s3,h'.e,h'.d,h'.m,h'.w⟩):=by
   have:=(((((((HRY.q.aU 0 ak s0.v).aU 1 ak s1.v).aU 2 ak s2.v).aU 3 ak s3.v).aU 4 ak h'.e.v).aU 5 ak h'.d.v).aU 6 ak h'.m.v).aU 7 ak h'.w.v
   simpa[aA] using this
  have hz2:Same (fun i=>i≠w.heap.size+1) Y ((((((((Y.setCell ⟨w.heap.size+1,0,G⟩ s0.v).setCell ⟨w.heap.size+1,1,G⟩ s1.v).setCell ⟨w.heap.size+1,2,G⟩ s2.v).setCell ⟨w.heap.size+1,3,G⟩ s3.v).setCell ⟨w.heap.size+1,4,G⟩ h'.e.v).setCell ⟨w.heap.size+1,5,G⟩ h'.d.v).setCell ⟨w.heap.size+1,6,G⟩ h'.m.v).setCell ⟨w.heap.size+1,7,G⟩ h'.w.v):=tV (b:=w.heap.size+1) (h':=⟨s0,s1,s2,s3,h'.e,h'.d,h'.m,h'.w⟩);revert hz1 hz2;generalize((((((((Y.setCell ⟨w.heap.size+1,0,G⟩ s0.v).setCell ⟨w.heap.size+1,1,G⟩ s1.v).setCell ⟨w.heap.size+1,2,G⟩ s2.v).setCell ⟨w.heap.size+1,3,G⟩ s3.v).setCell ⟨w.heap.size+1,4,G⟩ h'.e.v).setCell ⟨w.heap.size+1,5,G⟩ h'.d.v).setCell ⟨w.heap.size+1,6,G⟩ h'.m.v).setCell ⟨w.heap.size+1,7,G⟩ h'.w.v)=Z;intro hz1 hz2;have hs0:=yO.q;have hs4:=xq.q;have hsw:=Wl.q;have hdf:Z.heap[w4.heap.size+5]?=S (.deferred (S [])):=by
   have h1:=o9.q.block (w4.heap.size+5) ah (Array.getElem?_eq_some_iff.1 zN.q).1;have h2:=hz2.block (w4.heap.size+5) ah (by have:=o9.q.size;have:=(Array.getElem?_eq_some_iff.1 zN.q).1;omega);exact(h2.trans h1).trans zN.q
  have hp:=hz1.putObj (l:=w4.heap.size+5) (.deferred G) ah;have hcp:=hp.1;have hsa:Same (fun i=>w1.heap.size≤i∧i≠w4.heap.size+5) X (Z.putObj (w4.heap.size+5) (.deferred G)):=(((o9.q.mono (fun i hi _=>by have:=hi.1;omega)).tr (hz2.mono (fun i hi _=>by have:=hi.1;omega))).tr (Same.putObj (A:=fun i=>w1.heap.size≤i∧i≠w4.heap.size+5) _ _ (fun hn=>hn.2 rfl)));refine⟨by simp,.inl ⟨_,_,rfl,run_takeDeferred hdf,?_⟩⟩;have hres:=MH (w:=w) (Y:=Z.putObj (w4.heap.size+5) (.deferred G)) (sl:=sl) (N:=V.heap.size+5) rfl HL.q kK.q.be kK.q.bd kK.q.bm HQ.q.1 HQ.q.2.1 HQ.q.2.2 (by rw[←SS.q];exact FR.q.m) ae6.q (fun q hq=>by have:=Jj.q q hq;rw[←Wm.q];exact this) (by have:=kK.q.b.size;have:=LD.q.size;omega) ah (fun cs T fz e=>by have:=zN.q;rw[this] at e;cases e) hsa ?_ F8.q.1 F8.q.2.1 F8.q.2.2;refine⟨.tuple #[fJ ⟨s0,s1,s2,s3,h'.e,h'.d,h'.m,h'.w⟩,.int .i64 0],?_,?_⟩
  ·simp[results,results44,go_sem,hcp,aA]
  ·rw[Bv.q.1,Bv.q.2.1,Bv.q.2.2.1,Bv.q.2.2.2]
   exact hres
  ·have hq:Same (fun i=>i<w.heap.size) X (Z.putObj (w4.heap.size+5) (.deferred G)):=((o9.q.mono (fun i hi _=>by omega)).tr (hz2.mono (fun i hi _=>by omega))).tr (Same.putObj (A:=fun i=>i<w.heap.size) _ _ (fun hn=>by omega))
   exact hq.below FR.q.b (fun i hi=>hi) FR.q.b.size
end Yd
namespace Yd
open Bool renaming and_eq_true→a
open List renaming mem_iff_getElem→g,length_map→j,mem_map→r,all_eq_true→u,getElem_zip→v,length_zip→z,mem_range→A
open Go Go.RowKit Go.Proofs Go.Maps
open _root_ renaming decide_eq_true_eq→b,List→f
theorem FN {l:f Int} {m:Nat} (hn:l.Nodup) (h:∀x∈l,aV x m=true):l.length≤m:=by
 have:=List.Nodup.length_le_of_subset (l₂:=(List.range m).map (fun k:Nat=>(k:Int))) hn (fun x hx=>by
  obtain⟨k,rfl,hk⟩:=yF (h x hx);exact r.2 ⟨k,A.2 hk,rfl⟩)
 rwa[j,List.length_range] at this
theorem Zt {nt ns no np:Nat} {e:EvC} {l:f Sn} (h:gT nt ns no np e l=true):l.length≤40:=by
 unfold gT at h;simp only[a,b] at h;obtain⟨⟨⟨⟨h1,h2⟩,h3⟩,h4⟩,h5⟩:=h;by_cases hk:e.kind=4
 ·unfold hasB at h4
  rw[if_neg ah,if_neg ah,if_neg ah,if_pos hk] at h4;simp only[a,b] at h4;exact h4.1.2
 ·have:l=[]:=by
   unfold fG at h5
   split at h5
   ·simp only[a,b] at h5;exact h5.2
   ·split at h5
    ·simp only[a,b] at h5;exact h5.2
    ·simp only[a,b] at h5;exact h5.2
  rw[this];exact Nat.zero_le _
theorem Zu {nt ns no np:Nat} {e:EvC} {l:f Sn} (h:gT nt ns no np e l=true):C8 e:=by
 unfold gT at h;simp only[a,b] at h;have h5:=h.2;unfold fG at h5
 split at h5
 ·rename_i hk
  simp only[a,b] at h5;exact⟨fun k=>absurd hk k,fun _=>⟨h5.1.1.1,h5.1.1.2⟩,fun _=>h5.1.2⟩
 ·rename_i hk1
  split at h5
  ·rename_i hk
   simp only[a,b] at h5;exact⟨fun _=>h5.1.1.1,fun k=>absurd hk k,fun _=>h5.1.2⟩
  ·rename_i hk2
   split at h5
   ·rename_i hk
    simp only[a,b] at h5;exact⟨fun _=>h5.1.1.1,fun _=>⟨h5.1.2,h5.2⟩,fun k=>absurd hk k⟩
   ·simp only[a,b] at h5
    exact⟨fun _=>h5.1.1.1.1.1,fun _=>⟨h5.1.1.1.2,h5.1.1.2⟩,fun _=>h5.1.2⟩
theorem Zv {α β:Type} {xs:f α} {ys:f β} (h:xs.length=ys.length) {x:α} (hx:x∈xs):∃y,(x,y)∈xs.zip ys:=by
 obtain⟨i,hi,rfl⟩:=g.1 hx;exact⟨ys[i]' ah,g.2 ⟨i,by rw[z];omega,by rw[v]⟩⟩
theorem EP {α β:Type} {xs:f α} {ys:f β} (h:xs.length=ys.length) {y:β} (hy:y∈ys):∃x,(x,y)∈xs.zip ys:=by
 obtain⟨i,hi,rfl⟩:=g.1 hy;exact⟨xs[i]' ah,g.2 ⟨i,by rw[z];omega,by rw[v]⟩⟩
theorem II {n:Nat} {l:f Int} (h:fH n l=true):l.length≤300:=by
 unfold fH at h;simp only[a,b] at h;exact h.1
theorem Om (i:Nat):jP i≤300:=by unfold jP;split <;> omega
theorem fT.J4 {c:Cont} (h:fT c) (hf:aC c):Bw c:=
 ⟨by have:=hf.2.1;omega,by have:=hf.2.2.1;omega,by have:=hf.2.2.2.1;omega,by have:=hf.2.2.2.2.1;omega,fun i hi=>by have:=hf.1 i hi;have:=Om i;omega,
 fun L hL=>by obtain⟨x,hx⟩:=EP h.le hL;have:=Zt (h.ev _ hx);simp only at this;omega,
 fun L hL=>by obtain⟨x,hx⟩:=EP h.ld hL;have:=II (h.od _ hx).2;simp only at this;omega,
 fun L hL=>by obtain⟨x,hx⟩:=EP h.lm hL;have:=II (h.ma _ hx).2.2;simp only at this;omega⟩
theorem fT.bare {c:Cont} (h:fT c):∀e∈c.E,C8 e:=fun e he=>by
 obtain⟨y,hy⟩:=Zv h.le he;exact Zu (h.ev _ hy)
theorem fT.adu {c:Cont} (h:fT c) (hf:aC c):∀s:Nat,s<4→(bN (aS c) (s:Int)).length≤300∧(c.nl s).length≤300:=fun s hs=>by
 have h1:(c.nl s).length≤300:=Nat.le_trans (hf.1 s hs) (Om s);refine⟨Nat.le_trans (FN (Cv _ _) (fun x hx=>?_)) h1,h1⟩;obtain⟨s',h1,h2,h3⟩:=wz h _ (Gx _ hx);simp only at h2 h3;have:s=s':=by omega
 rw[this];exact h3
theorem gU.lens {X:World} {B:Nat} {h:HC} {c:Cont} {es:f EvC} {ds:f aK} {ms:f aM} {scan:EvC→f Sn} {dn:aK→f Int} {mn:aM→f Int} (o:gU X B h c es ds ms scan dn mn):
  h.e.n=c.E.length∧h.d.n=c.D.length∧h.m.n=c.M.length∧h.w.n=c.Q.length∧∀i,i<4→(h.nm i).n=(c.nl i).length:=by
 refine⟨?_,?_,?_,?_,fun i hi=>?_⟩
 ·obtain⟨_,_,q,_⟩:=o.oe.shape;simp only[Value.slice.injEq] at q;rw[←o.be,j];exact q.2.1
 ·obtain⟨_,_,q,_⟩:=o.od.shape;simp only[Value.slice.injEq] at q;rw[←o.bd,j];exact q.2.1
 ·obtain⟨_,_,q,_⟩:=o.om.shape;simp only[Value.slice.injEq] at q;rw[←o.bm,j];exact q.2.1
 ·obtain⟨_,_,q,_⟩:=o.oq.shape;simp only[Value.slice.injEq] at q;exact q.2.1
 ·obtain⟨_,_,q,_⟩:=(o.on i hi).shape;simp only[Value.slice.injEq] at q;exact q.2.1
theorem gU.shaped {X:World} {B:Nat} {h:HC} {c:Cont} {es:f EvC} {ds:f aK} {ms:f aM} {scan:EvC→f Sn} {dn:aK→f Int} {mn:aM→f Int} (o:gU X B h c es ds ms scan dn mn) (hs:fT c) (hf:aC c):
  mZ h c.nl es ds ms c.Q scan dn mn=true:=by
 obtain⟨le,ld,lm,lq,ln⟩:=o.lens;have h0:h.t.n=(c.nl 0).length:=ln 0 ah;have h1:h.s.n=(c.nl 1).length:=ln 1 ah;have h2:h.o.n=(c.nl 2).length:=ln 2 ah;have h3:h.p.n=(c.nl 3).length:=ln 3 ah;obtain⟨f1,f2,f3,f4,f5,_⟩:=hf;unfold mZ;simp only[a,u];refine⟨⟨⟨⟨?_,fun e he=>?_⟩,fun x hx=>?_⟩,fun x hx=>?_⟩,fun x hx=>?_⟩
 ·unfold uW
  simp only[a,u,A];refine⟨?_,fun i hi=>?_⟩
  ·unfold PV
   simp only[a,b];refine⟨by omega,?_⟩
   split
   ·omega
   ·split <;> omega
  ·unfold pK nI
   simp only[a,u,b];refine⟨?_,fun s hs'=>(hs.nm i).2 s hs',(hs.nm i).1⟩;have:=f1 i hi;rcases(by omega:i=0∨i=1∨i=2∨i=3) with rfl|rfl|rfl|rfl <;> (unfold jP at this;simp at this;simp only[Gp];omega)
 ·rw[h0,h1,h2,h3]
  have hm:(e.base,scan e)∈c.E.zip c.SE:=by
   rw[←o.be,←o.ss,nH];exact r.2 ⟨e,he,rfl⟩
  exact hs.ev _ hm
 ·have hm:(x.base,dn x)∈c.D.zip c.SD:=by
   rw[←o.bd,←o.ts,nH];exact r.2 ⟨x,hx,rfl⟩
  have:=hs.od _ hm;unfold O7;rw[h0,h2,a];exact this
 ·have hm:(x.base,mn x)∈c.M.zip c.SM:=by
   rw[←o.bm,←o.us,nH];exact r.2 ⟨x,hx,rfl⟩
  have:=hs.ma _ hm;unfold O8;rw[h0,h2,h3,a,a];exact⟨⟨this.1,this.2.1⟩,this.2.2⟩
 ·have:=hs.wa x hx
  unfold Jc;rw[h1,a,a,b,b];exact⟨⟨this.1,this.2.1⟩,this.2.2⟩
theorem Mh {X:World} {B:Nat} {h:HC} {c:Cont} {es:f EvC} {ds:f aK} {ms:f aM} {scan:EvC→f Sn} {dn:aK→f Int} {mn:aM→f Int} (o:gU X B h c es ds ms scan dn mn) (hs:fT c) (hf:aC c) (hg:xU X):
  Calls Tryz.prog 44 #[fJ h] X (Qj X (bV c)):=
 GH h c.nl es ds ms c.Q scan dn mn X hg (o.names (hs.J4 hf)) (o.deep (hs.J4 hf)) (o.bulk (hs.J4 hf)) (o.shaped hs hf) c o.cont hs.bare (wz hs) (hs.adu hf)
end Yd
