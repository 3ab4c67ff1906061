import Derived.Test.YtnhnhmeogckgpaaGreatDoorTLaidK
import Derived.Test.YtnhnhmeogckgpaaGreatDoorTLnIn
import Derived.Test.YtnhnhmeogckgpaaGreatDoorTMp
import Derived.DeepKeys4
set_option linter.all false
set_option maxRecDepth 200000
set_option maxHeartbeats 8000000
namespace Yd
open Array renaming getElem?_setIfInBounds_self_of_lt→b,getElem?_setIfInBounds_ne→f,getElem?_eq_some_iff→p
open Go Go.RowKit Go.Proofs
open Go renaming Value→o,World→r,TypeId→u
open _root_ renaming List→a,Nat→s,Array→z
def EvC.val (e:EvC):o:= .slice e.sa e.sn e.sc
def aH.val (e:aH):o:= .slice e.sa e.sn e.sc
def aI.val (e:aI):o:= .slice e.sa e.sn e.sc
def yA {α β:Type} (w:r) (R:s) (T:u) (k:s) (enc:β→a o) (val:α→o) (xs:a α) (Ls:a (a β)):Prop:=
 xs.length=Ls.length∧∀(i:s) (x:α) (L:a β),xs[i]?=some x→Ls[i]?=some L→Own w (R+1) T k enc (val x) L
theorem yA.imp {α β:Type} {w w':r} {R:s} {T:u} {k:s} {enc:β→a o} {val:α→o} {xs:a α} {Ls:a (a β)} (h:yA w R T k enc val xs Ls) (hi:∀v L,Own w (R+1) T k enc v L→Own w' (R+1) T k enc v L):yA w' R T k enc val xs Ls:=
 ⟨h.1,fun i x L h1 h2=>hi _ _ (h.2 i x L h1 h2)⟩
theorem yA.snoc {α β:Type} {w:r} {R:s} {T:u} {k:s} {enc:β→a o} {val:α→o} {xs:a α} {Ls:a (a β)} (h:yA w R T k enc val xs Ls) {x:α} {L:a β} (hx:Own w (R+1) T k enc (val x) L):yA w R T k enc val (xs++[x]) (Ls++[L]):=by
 refine⟨by rw[List.length_append,List.length_append,h.1];rfl,fun i y M h1 h2=>?_⟩;rcases Nat.lt_or_ge i xs.length with hi|hi
 ·rw[List.getElem?_append_left hi] at h1
  rw[List.getElem?_append_left (by rw[←h.1];exact hi)] at h2;exact h.2 i y M h1 h2
 ·rw[List.getElem?_append_right hi] at h1
  rw[List.getElem?_append_right (by rw[←h.1];exact hi),←h.1] at h2;obtain⟨j,hj⟩:∃j,j=i - xs.length:=⟨_,rfl⟩;rw[←hj] at h1 h2
  cases j with
  |zero=>
   injection h1 with h1;injection h2 with h2;subst h1 h2;exact hx
  |succ j=>cases h1
structure nG (w:r) (R:s) (cs:z o) (c:Cont) (es:a EvC) (ds:a aH) (ms:a aI):Prop where
 t:sU w R cs c.nl
 e:∃v,cs[4]?=some v∧Own w (R+1) 65 9 cZ v es
 d:∃v,cs[5]?=some v∧Own w (R+1) 79 2 dD v ds
 m:∃v,cs[6]?=some v∧Own w (R+1) 81 4 dx v ms
 q:∃v,cs[7]?=some v∧Own w (R+1) 83 2 eu v c.Q
 be:es.map EvC.base=c.E
 bd:ds.map aH.base=c.D
 bm:ms.map aI.base=c.M
 se:yA w R 148 3 bV EvC.val es c.SE
 sd:yA w R 3 1 aQ aH.val ds c.SD
 sm:yA w R 3 1 aQ aI.val ms c.SM
theorem Own.eY {β:Type} {X Y:r} {R:s} {T:u} {k:s} {enc:β→a o} {v:o} {L:a β} (h:Own X (R+1) T k enc v L) (hs:Same (fun i=>i≠R) X Y):Own Y (R+1) T k enc v L:=
 h.same hs (fun g hg e=>by have:=(h.lt g hg).1;omega)
theorem nG.vQ {X Y:r} {R:s} {cs cs':z o} {c:Cont} {es:a EvC} {ds:a aH} {ms:a aI} {nl:s→a Bs} (h:nG X R cs c es ds ms) (hs:Same (fun i=>i≠R) X Y) (hT:sU Y R cs' nl) (ho:∀j,j<8→cs'[j]?=cs[j]?):
  nG Y R cs' {c with nl:=nl} es ds ms:=
 ⟨hT,(let⟨v,h1,h2⟩:=h.e;⟨v,(ho 4 ah).trans h1,h2.eY hs⟩),(let⟨v,h1,h2⟩:=h.d;⟨v,(ho 5 ah).trans h1,h2.eY hs⟩),(let⟨v,h1,h2⟩:=h.m;⟨v,(ho 6 ah).trans h1,h2.eY hs⟩),
 (let⟨v,h1,h2⟩:=h.q;⟨v,(ho 7 ah).trans h1,h2.eY hs⟩),h.be,h.bd,h.bm,h.se.imp (fun _ _ h=>h.eY hs),h.sd.imp (fun _ _ h=>h.eY hs),h.sm.imp (fun _ _ h=>h.eY hs)⟩
theorem Own.fC {β γ:Type} {X Y:r} {R:s} {T T4:u} {k k4:s} {enc:β→a o} {enc4:γ→a o} {v v4:o} {L:a β} {L4:a γ} (h:Own X (R+1) T k enc v L) (h4:Own X (R+1) T4 k4 enc4 v4 L4) (hT:T≠T4) (hs:Same (fun i=>i≠R∧v4.ownBlock≠some i) X Y):Own Y (R+1) T k enc v L:=
 h.same hs (fun g hg=>⟨fun e=>by have:=(h.lt g hg).1;omega,fun e=>by
  obtain⟨c1,f1,e1⟩:=h.tag hg;obtain⟨c2,f2,e2⟩:=h4.tag e;rw[e1] at e2
  cases e2
  exact hT rfl⟩)
theorem nG.event {X Y:r} {R:s} {cs:z o} {c:Cont} {es:a EvC} {ds:a aH} {ms:a aI} (h:nG X R cs c es ds ms) {v4 v':o} (h4:cs[4]?=some v4) (hs:Same (fun i=>i≠R∧v4.ownBlock≠some i) X Y) {ev:EvC} {l:a Sn}
  (hO:Own Y (R+1) 65 9 cZ v' (es++[ev])) (hB:Bx Y R (cs.setIfInBounds 4 v')) (hl:Own X (R+1) 148 3 bV ev.val l):nG Y R (cs.setIfInBounds 4 v') (c.ev ev.base l) (es++[ev]) ds ms:=by
 obtain⟨v0,h0,hO4⟩:=h.e;obtain rfl:v0=v4:=by rw[h4] at h0;injection h0 with h0;exact h0.symm
 have hsz:4<cs.size:=(p.1 h4).1;have ho:∀j,4≠j→(cs.setIfInBounds 4 v')[j]?=cs[j]?:=fun j hj=>f hj
 refine⟨⟨hB,fun k hk=>?_,h.t.n⟩,⟨v',b hsz,hO⟩,?_,?_,?_,?_,h.bd,h.bm,?_,?_,?_⟩
 ·obtain⟨v,h1,h2⟩:=h.t.t k hk
  exact⟨v,(ho _ ah).trans h1,h2.fC hO4 aj hs⟩
 ·obtain⟨v,h1,h2⟩:=h.d
  exact⟨v,(ho _ ah).trans h1,h2.fC hO4 aj hs⟩
 ·obtain⟨v,h1,h2⟩:=h.m
  exact⟨v,(ho _ ah).trans h1,h2.fC hO4 aj hs⟩
 ·obtain⟨v,h1,h2⟩:=h.q
  exact⟨v,(ho _ ah).trans h1,h2.fC hO4 aj hs⟩
 ·show(es++[ev]).map EvC.base=c.E++[ev.base]
  rw[List.map_append,h.be];rfl
 ·exact(h.se.imp (fun _ _ h=>h.fC hO4 aj hs)).snoc (hl.fC hO4 aj hs)
 ·exact h.sd.imp (fun _ _ h=>h.fC hO4 aj hs)
 ·exact h.sm.imp (fun _ _ h=>h.fC hO4 aj hs)
theorem nG.order {X Y:r} {R:s} {cs:z o} {c:Cont} {es:a EvC} {ds:a aH} {ms:a aI} (h:nG X R cs c es ds ms) {v4 v':o} (h4:cs[5]?=some v4) (hs:Same (fun i=>i≠R∧v4.ownBlock≠some i) X Y) {x:aH} {l:a Int}
  (hO:Own Y (R+1) 79 2 dD v' (ds++[x])) (hB:Bx Y R (cs.setIfInBounds 5 v')) (hl:Own X (R+1) 3 1 aQ x.val l):nG Y R (cs.setIfInBounds 5 v') {c with D:=c.D++[x.base],SD:=c.SD++[l]} es (ds++[x]) ms:=by
 obtain⟨v0,h0,hO4⟩:=h.d;obtain rfl:v0=v4:=by rw[h4] at h0;injection h0 with h0;exact h0.symm
 have hsz:5<cs.size:=(p.1 h4).1;have ho:∀j,5≠j→(cs.setIfInBounds 5 v')[j]?=cs[j]?:=fun j hj=>f hj
 refine⟨⟨hB,fun k hk=>?_,h.t.n⟩,?_,?_,?_,?_,h.be,(by show(ds++[x]).map aH.base=c.D++[x.base];rw[List.map_append,h.bd];rfl),h.bm,?_,?_,?_⟩
 ·obtain⟨v,h1,h2⟩:=h.t.t k hk
  exact⟨v,(ho _ ah).trans h1,h2.fC hO4 aj hs⟩
 ·obtain⟨v,h1,h2⟩:=h.e
  exact⟨v,(ho _ ah).trans h1,h2.fC hO4 aj hs⟩
 ·exact⟨v',b hsz,hO⟩
 ·obtain⟨v,h1,h2⟩:=h.m
  exact⟨v,(ho _ ah).trans h1,h2.fC hO4 aj hs⟩
 ·obtain⟨v,h1,h2⟩:=h.q
  exact⟨v,(ho _ ah).trans h1,h2.fC hO4 aj hs⟩
 ·exact h.se.imp (fun _ _ h=>h.fC hO4 aj hs)
 ·exact(h.sd.imp (fun _ _ h=>h.fC hO4 aj hs)).snoc (hl.fC hO4 aj hs)
 ·exact h.sm.imp (fun _ _ h=>h.fC hO4 aj hs)
theorem nG.XC {X Y:r} {R:s} {cs:z o} {c:Cont} {es:a EvC} {ds:a aH} {ms:a aI} (h:nG X R cs c es ds ms) {v4 v':o} (h4:cs[6]?=some v4) (hs:Same (fun i=>i≠R∧v4.ownBlock≠some i) X Y) {x:aI} {l:a Int}
  (hO:Own Y (R+1) 81 4 dx v' (ms++[x])) (hB:Bx Y R (cs.setIfInBounds 6 v')) (hl:Own X (R+1) 3 1 aQ x.val l):nG Y R (cs.setIfInBounds 6 v') {c with M:=c.M++[x.base],SM:=c.SM++[l]} es ds (ms++[x]):=by
 obtain⟨v0,h0,hO4⟩:=h.m;obtain rfl:v0=v4:=by rw[h4] at h0;injection h0 with h0;exact h0.symm
 have hsz:6<cs.size:=(p.1 h4).1;have ho:∀j,6≠j→(cs.setIfInBounds 6 v')[j]?=cs[j]?:=fun j hj=>f hj
 refine⟨⟨hB,fun k hk=>?_,h.t.n⟩,?_,?_,?_,?_,h.be,h.bd,(by show(ms++[x]).map aI.base=c.M++[x.base];rw[List.map_append,h.bm];rfl),?_,?_,?_⟩
 ·obtain⟨v,h1,h2⟩:=h.t.t k hk
  exact⟨v,(ho _ ah).trans h1,h2.fC hO4 aj hs⟩
 ·obtain⟨v,h1,h2⟩:=h.e
  exact⟨v,(ho _ ah).trans h1,h2.fC hO4 aj hs⟩
 ·obtain⟨v,h1,h2⟩:=h.d
  exact⟨v,(ho _ ah).trans h1,h2.fC hO4 aj hs⟩
 ·exact⟨v',b hsz,hO⟩
 ·obtain⟨v,h1,h2⟩:=h.q
  exact⟨v,(ho _ ah).trans h1,h2.fC hO4 aj hs⟩
 ·exact h.se.imp (fun _ _ h=>h.fC hO4 aj hs)
 ·exact h.sd.imp (fun _ _ h=>h.fC hO4 aj hs)
 ·exact(h.sm.imp (fun _ _ h=>h.fC hO4 aj hs)).snoc (hl.fC hO4 aj hs)
theorem nG.want {X Y:r} {R:s} {cs:z o} {c:Cont} {es:a EvC} {ds:a aH} {ms:a aI} (h:nG X R cs c es ds ms) {v4 v':o} (h4:cs[7]?=some v4) (hs:Same (fun i=>i≠R∧v4.ownBlock≠some i) X Y) {x:Wa}
  (hO:Own Y (R+1) 83 2 eu v' (c.Q++[x])) (hB:Bx Y R (cs.setIfInBounds 7 v')):nG Y R (cs.setIfInBounds 7 v') {c with Q:=c.Q++[x]} es ds ms:=by
 obtain⟨v0,h0,hO4⟩:=h.q;obtain rfl:v0=v4:=by rw[h4] at h0;injection h0 with h0;exact h0.symm
 have hsz:7<cs.size:=(p.1 h4).1;have ho:∀j,7≠j→(cs.setIfInBounds 7 v')[j]?=cs[j]?:=fun j hj=>f hj
 refine⟨⟨hB,fun k hk=>?_,h.t.n⟩,?_,?_,?_,?_,h.be,h.bd,h.bm,?_,?_,?_⟩
 ·obtain⟨v,h1,h2⟩:=h.t.t k hk
  exact⟨v,(ho _ ah).trans h1,h2.fC hO4 aj hs⟩
 ·obtain⟨v,h1,h2⟩:=h.e
  exact⟨v,(ho _ ah).trans h1,h2.fC hO4 aj hs⟩
 ·obtain⟨v,h1,h2⟩:=h.d
  exact⟨v,(ho _ ah).trans h1,h2.fC hO4 aj hs⟩
 ·obtain⟨v,h1,h2⟩:=h.m
  exact⟨v,(ho _ ah).trans h1,h2.fC hO4 aj hs⟩
 ·exact⟨v',b hsz,hO⟩
 ·exact h.se.imp (fun _ _ h=>h.fC hO4 aj hs)
 ·exact h.sd.imp (fun _ _ h=>h.fC hO4 aj hs)
 ·exact h.sm.imp (fun _ _ h=>h.fC hO4 aj hs)
end Yd
namespace Yd
open Array renaming getElem?_setIfInBounds_ne→H,getElem?_eq_some_iff→L
open Option renaming some→F
open Go Go.RowKit Go.Proofs Go.Maps Tryz
open Go renaming World→p,Value→N
open Go.IntKind renaming i64→y
open Go.Value renaming int→G,pointer→O
open Tryz renaming prog→z
open _root_ renaming List→C,Nat→D,if_pos→I,if_neg→J,absurd→M
theorem MP:240<Tryz.prog.types.size:=of_decide_eq_true au
theorem UO:(match Tryz.prog.underlying 240 with|some (.array _ _)|some (.struct _)=>true|_=>false)=true:=au
theorem YW:laidOutB z=true:=au
theorem abB:Tryz.prog.keyTypeAt 3 240=true:=au
theorem MQ:WideMaps.KeyLaw z 240:=deep_law_laid YW (m:=3) ah MP abB UO
theorem UQ:Tryz.prog.keyType 240=true:=au
theorem Gm:Tryz.prog.cellsOf 240=2:=au
theorem Q8:Tryz.prog.cellsOf 3=1:=au
theorem MR (u:p):(zeroValue 3).run z u= .ok (G y 0) u:=au
def ae0 (t x:Int):Lit:= .string (keyBytes [.int .i64 t,.int .i64 x])
theorem UR (t x:Int) (h1:(Lit.int y t).wf=true) (h2:(Lit.int y x).wf=true) (n:D):Tryz.prog.keyLits (n+2) 240 [G y t,G y x]=F [.int .i64 t,.int .i64 x]:=by
 have e1:Tryz.prog.keyLits (n+1) 3 [G y t]=F [.int .i64 t]:=by
  unfold Program.keyLits;rw[underlying3];simp[h1]
 have e2:Tryz.prog.keyLits (n+1) 3 [G y x]=F [.int .i64 x]:=by
  unfold Program.keyLits;rw[underlying3];simp[h2]
 unfold Program.keyLits;rw[underlying240];simp[Gm,Q8,List.mapM_cons,e1,e2]
theorem JM {t x:Int} (h1:(Lit.int y t).wf=true) (h2:(Lit.int y x).wf=true):keyOf z 240 (kL t x)=F (ae0 t x):=by
 have hs:Tryz.prog.types.size+1=(Tryz.prog.types.size - 1)+2:=by have:=MP;omega
 unfold keyOf;rw[underlying240];simp only[UQ,hs];rw[I (by simp[Value.formed,underlying240,Gm])];rw[show(kL t x).cells.toList=[G y t,G y x] from rfl,UR t x h1 h2]
 rfl
def iV (W:p) (b:D) (E:C EvC):Prop:=∃n f,n≤E.length∧ko z 240 3 W b n f∧∀t x,(f t x).getD 0=(fK E t x:Int)
theorem iV.new (w:p):iV (w.alloc (.map #[] 0)) w.heap.size []:=⟨0,_,Nat.zero_le _,ko.new w,fun _ _=>rfl⟩
theorem iV.of_eq {W W':p} {b:D} {E:C EvC} (h:iV W b E) (q:W'.heap[b]?=W.heap[b]?):iV W' b E:=(let⟨n,f,h1,h2,h3⟩:=h;⟨n,f,h1,h2.of_eq q,h3⟩)
theorem iV.obj {W:p} {b:D} {E:C EvC} (h:iV W b E):∃es clock,W.heap[b]?=F (.map es clock):=(let⟨_,_,_,h2,_⟩:=h;h2.obj)
theorem iV.lt {W:p} {b:D} {E:C EvC} (h:iV W b E):b<W.heap.size:=(let⟨_,_,_,h2,_⟩:=h;h2.lt)
theorem iV.same {A:D→Prop} {W W':p} {b:D} {E:C EvC} (h:iV W b E) (s:Same A W W') (hb:A b):iV W' b E:=h.of_eq (s.block b hb h.lt)
theorem iV.other {W:p} {b:D} {E:C EvC} {e:EvC} (h:iV W b E) (he:e.kind≠2):iV W b (E++[e]):=
 (let⟨n,f,h1,h2,h3⟩:=h;⟨n,f,by rw[List.length_append];omega,h2,fun t x=>by rw[h3,qI,J (fun k=>he k.1)];rfl⟩)
theorem iV.look {W:p} {b:D} {E:C EvC} (h:iV W b E) {t x:Int} (h1:(Lit.int y t).wf=true) (h2:(Lit.int y x).wf=true):
  (Instr.lookup 89 (.map (F b)) (.agg #[G y t,G y x]) false).run z W= .ok (G y (fK E t x:Int)) W:=by
 obtain⟨n,f,_,hm,hf⟩:=h;rw[←hf];exact hm.look MQ underlying89 underlying3 (MR W) (JM h1 h2)
theorem iV.bump {W:p} {b:D} {E:C EvC} (h:iV W b E) (hE:E.length≤3000) (e:EvC) (he:e.kind=2) (h1:(Lit.int y e.t).wf=true) (h2:(Lit.int y e.obj).wf=true):
  ∃(v0:N) (st:D) (W1 W2:p),(Instr.mapEntry 89 (.map (F b)) (.agg #[G y e.t,G y e.obj])).run z W= .ok (.tuple #[v0,G y st]) W1∧
   (Instr.lookup 89 (.map (F b)) (.agg #[G y e.t,G y e.obj]) false).run z W1= .ok (G y (fK E e.t e.obj:Int)) W1∧
   (Instr.entryStore 89 (.map (F b)) (G y st) (G y ((fK E e.t e.obj:Int)+1))).run z W1= .ok () W2∧Same (fun i=>i≠b) W W1∧Same (fun i=>i≠b) W W2∧iV W2 b (E++[e]):=by
 obtain⟨n,f,hn,hm,hf⟩:=h;have hl:=Gn E e.t e.obj;obtain⟨v0,st,W1,W2,r1,r2,r3,⟨o1,e1⟩,⟨o2,e2⟩,hm2⟩:=hm.entry MQ underlying89 underlying3 MR (by unfold maxLen;omega) (JM h1 h2) (v:=(fK E e.t e.obj:Int)+1) (WalkArith.wf_i64 ah);rw[hf] at r2;have hs:∀o,Same (fun i=>i≠b) W (ChangeMaps.setBlock W b o):=fun o=>⟨rfl,rfl,rfl,by simp[ChangeMaps.setBlock],fun i hi _=>by
  show(W.heap.setIfInBounds b o)[i]?=_;rw[H (fun q=>hi q.symm)]⟩
 refine⟨v0,st,W1,W2,r1,r2,r3,e1▸hs o1,e2▸hs o2,n+1,_,by rw[List.length_append,List.length_singleton];omega,hm2,fun t x=>?_⟩;rw[qI];show((if t=e.t∧x=e.obj then F _ else f t x:Option Int)).getD 0=_;by_cases hx:t=e.t∧x=e.obj
 ·rw[I hx,I ⟨he,hx.1.symm,hx.2.symm⟩,hx.1,hx.2];rfl
 ·rw[J hx,J (fun k=>hx ⟨k.2.1.symm,k.2.2.symm⟩),hf];rfl
theorem ae1 {c d:Cont} {n:D→C Bs} (h:Nm c d) (hn:d.nl=n):{c with nl:=n}=d:=by
 obtain⟨d1,d2,d3,d4,d5,d6,d7,d8⟩:=d;obtain⟨k1,k2,k3,k4,k5,k6,k7⟩:=h;simp only at hn k1 k2 k3 k4 k5 k6 k7;subst hn k1 k2 k3 k4 k5 k6 k7
 rfl
structure gq (B:D) (w:p) (R:D) (cs:Array N) (c:Cont) (es:C EvC) (ds:C aH) (ms:C aI):Prop where
 s:nG w R cs c es ds ms
 m:∃mb,cs[12]?=F (.map (F mb))∧iV w mb c.E∧B≤mb
 b:B≤R
theorem Bx.wK {w:p} {R mb:D} {cs:Array N} {v:N} {j:D} (h:Bx w R cs) (hj:cs[j]?=F v) (hm:∃es clock,w.heap[mb]?=F (.map es clock)):mb≠R:=fun e=>by
 obtain⟨es,clock,hm⟩:=hm;subst e;have:=(h.1 j).trans hj;unfold World.cell? at this;simp[hm] at this
theorem gq.vQ {B:D} {X Y:p} {R:D} {cs cs':Array N} {c:Cont} {es:C EvC} {ds:C aH} {ms:C aI} {nl:D→C Bs} (h:gq B X R cs c es ds ms) (hs:Same (fun i=>i≠R) X Y) (hT:sU Y R cs' nl) (ho:∀j,j<8∨j=12→cs'[j]?=cs[j]?):
  gq B Y R cs' {c with nl:=nl} es ds ms:=
 ⟨h.s.vQ hs hT (fun j hj=>ho j (.inl hj)),(let⟨mb,h1,h2,h3⟩:=h.m;⟨mb,(ho 12 (.inr rfl)).trans h1,h2.same hs (h.s.t.b.wK h1 h2.obj),h3⟩),h.b⟩
theorem gq.below {B:D} {X Y:p} {R:D} {cs:Array N} {c:Cont} {es:C EvC} {ds:C aH} {ms:C aI} (h:gq B X R cs c es ds ms) (hb:Below X.heap.size X Y):gq B Y R cs c es ds ms:=
 h.vQ (Same.of_below hb (fun _ _ h=>h)) (h.s.t.below hb) (fun _ _=>rfl)
def zA (T:TypeId):Prop:=T≠65∧T≠79∧T≠81∧T≠83∧T≠148
def kU (w:p) (K:D):Prop:=∀i,K≤i→i<K+3→∃q T fz,w.heap[i]?=F (.cells q T fz)∧zA T
def jX (B K:D) (w:p):Prop:=∀W,Same (fun i=>i<B∨(K≤i∧i<K+3)) w W→pY W
theorem jX.same {B K:D} {w X:p} (h:jX B K w) (s:Same (fun i=>i<B∨(K≤i∧i<K+3)) w X):jX B K X:=fun W k=>h W (s.tr k)
theorem jX.r {B K R:D} {w:p} (h:jX B K w) (hB:B≤R) (hK:R<K):zM R w:=fun W k=>h W (k.mono (fun i hi _=>by omega))
theorem jX.here {B K:D} {w:p} (h:jX B K w):pY w:=h w (Same.refl' w)
theorem Same.Dm {B K:D} {w X:p} (s:Same (fun i=>i<B∨(K≤i∧i<K+3)) w X) (h:kU w K):kU X K:=
 fun i h1 h2=>(let⟨q,T,fz,e,hT⟩:=h i h1 h2;⟨q,T,fz,(s.block i (.inr ⟨h1,h2⟩) (L.1 e).1).trans e,hT⟩)
def dU (B K R:D) (d:Cont) (w:p) (e:Ending) (w':p):Prop:=
 Same (fun i=>i<B∨(K≤i∧i<K+3)) w w'∧(aD d→e= .returned (.tuple #[])∧∃cs es ds ms,gq B w' R cs d es ds ms)∧(¬aD d→e= .panicked iR)
section
variable {B K R:D} {cs:Array N} {c:Cont} {es:C EvC} {ds:C aH} {ms:C aI}
theorem eO (k:D) (hk:k<4) (s:Bs) (w:p) (h:gq B w R cs c es ds ms) (hf:aD c) (hs:aU ⟨s.toArray⟩=true) (hG:jX B K w):
  Calls z 180 #[O (F ⟨R,0,none⟩),G y (k:Int),.string ⟨s.toArray⟩] w (fun e w'=>Same (fun i=>i≠R) w w'∧
   (aD (c.put k s)→e= .returned (G y (c.no k s))∧∃cs',gq B w' R cs' (c.put k s) es ds ms∧cs'.size=cs.size∧∀j,j<8∨j=12→cs'[j]?=cs[j]?)∧(¬aD (c.put k s)→e= .panicked iR)):=by
 refine(Bf k hk s w h.s.t hs hG.here).mono ?_;rintro e w' ⟨hS,he⟩;refine⟨hS,?_⟩;rw[JN hf hk];by_cases hx:(bM (c.nl k) s).length≤jd k
 ·rw[I hx] at he
  obtain⟨rfl,cs',hT,hsz,ho⟩:=he;exact⟨fun _=>⟨rfl,cs',h.vQ hS hT (fun j hj=>ho j ah),hsz,fun j hj=>ho j ah⟩,fun hn=>M hx hn⟩
 ·rw[J hx] at he
  exact⟨fun hn=>M hn hx,fun _=>he⟩
theorem Mg (v:To) (w:p) (h:gq B w R cs c es ds ms) (hf:aD c) (hv:gZ v) (hG:jX B K w):
  Calls z 182 #[O (F ⟨R,0,none⟩),qQ v] w (fun e w'=>Same (fun i=>i≠R) w w'∧
   (aD (c.bG v).1→e= .returned (.agg #[G y (c.bG v).2.t,G y (c.bG v).2.k])∧∃cs',gq B w' R cs' (c.bG v).1 es ds ms∧cs'.size=cs.size∧∀j,j<8∨j=12→cs'[j]?=cs[j]?)∧(¬aD (c.bG v).1→e= .panicked iR)):=by
 refine(OI v hv w h.s.t hG.here).mono ?_;rintro e w' ⟨hS,he⟩;refine⟨hS,?_⟩;rw[UU hf];by_cases hx:v.k=0∨(bM (c.nl 0) v.name).length≤jd 0
 ·rw[I hx] at he
  obtain⟨rfl,cs',hT,hsz,ho⟩:=he;refine⟨fun _=>⟨?_,cs',?_,hsz,fun j hj=>ho j ah⟩,fun hn=>M hx hn⟩
  ·unfold Cont.bG
   by_cases h0:v.k=0
   ·rw[I h0,I h0,h0]
   ·rw[J h0,J h0];rfl
  ·have:=h.vQ hS hT (fun j hj=>ho j ah)
   unfold Cont.bG;unfold XD at this;by_cases h0:v.k=0
   ·rw[I h0] at this ⊢;exact this
   ·rw[J h0] at this ⊢;exact this
 ·rw[J hx] at he
  exact⟨fun hn=>M hn hx,fun _=>he⟩
theorem Q9 (l:C Bs) (ta:Option Addr) (n tc:D) (w:p) (h:gq B w R cs c es ds ms) (hf:aD c) (hr:Row w 1 encStr ta n tc l) (hne:∀b o,ta=F ⟨b,o,none⟩→b≠R) (hw:∀s∈l,aU ⟨s.toArray⟩=true) (hn:n≤100000) (hG:jX B K w) (mZ:R<K):
  Calls z 183 #[O (F ⟨R,0,none⟩),.slice ta n tc] w (fun e w'=>Same (fun i=>i≠R) w w'∧
   (aD (c.ts l).1→∃a q,e= .returned (.slice a l.length q)∧Own w' w.heap.size 3 1 aQ (.slice a l.length q) (c.ts l).2∧∃cs',gq B w' R cs' (c.ts l).1 es ds ms∧cs'.size=cs.size∧∀j,j<8∨j=12→cs'[j]?=cs[j]?)∧(¬aD (c.ts l).1→e= .panicked iR)):=by
 refine(ae2 l ta n tc w h.s.t hr hne hw hn (hG.r h.b mZ)).mono ?_;rintro e w' ⟨hS,he⟩;refine⟨hS,?_⟩;rw[YX hf];by_cases hx:((jm c.nl l).1 0).length≤jd 0
 ·rw[I hx] at he
  obtain⟨a,q,cs',rfl,hO,hT,hsz,ho⟩:=he;have e2:{c with nl:=(jm c.nl l).1}=(c.ts l).1:=ae1 (Nm.ts l c) (Iw l c).1;refine⟨fun _=>⟨a,q,rfl,by rw[(Iw l c).2];exact hO,cs',?_,hsz,fun j hj=>ho j ah⟩,fun hn=>M hx hn⟩;rw[←e2];exact h.vQ hS hT (fun j hj=>ho j ah)
 ·rw[J hx] at he
  exact⟨fun hn=>M hn hx,fun _=>he⟩
theorem Es (ev:EvC) (l:C Sn) (w:p) (h:nG w R cs c es ds ms) (hm:∃mb,cs[12]?=F (.map (F mb))∧iV w mb (c.E++[ev.base])∧B≤mb) (hB:B≤R) (hf:aD c) (hl:Own w (R+1) 148 3 bV ev.val l) (hk:ev.kind=2→ev.v.k≤999) (hK:kU w K) (mZ:R<K):
  Calls z 179 #[O (F ⟨R,0,none⟩),fO ev] w (fun e w'=>(∀g q T fz,w.heap[g]?=F (.cells q T fz)→T≠65→g≠R→w'.heap[g]?=w.heap[g]?)∧dU B K R (c.ev ev.base l) w e w'):=by
 obtain⟨v4,h4,hO⟩:=h.e;have hlen:es.length=c.E.length:=by rw[←h.be,List.length_map]
 refine(JO ev w h.t.b h4 hO (by rw[hlen];exact hf.2.1)).mono ?_;rintro e w' ⟨hS,he⟩;refine⟨fun g q T fz hg hT hgR=>hS.block g ⟨hgR,fun q=>by
  obtain⟨cs1,f1,e1⟩:=hO.tag q;rw[e1] at hg
  cases hg
  exact hT rfl⟩ (L.1 hg).1,hS.mono (fun i hi _=>⟨by omega,fun q=>by
  rcases hi with hi|hi
  ·have:=(hO.lt i q).1;omega
  ·obtain⟨_,_,q1⟩:=hO.tag q
   obtain⟨_,T,_,q2,hT⟩:=hK i hi.1 hi.2;rw[q1] at q2
   cases q2
   exact hT.1 rfl⟩),?_⟩
 rw[MS hf,←hlen];by_cases hx:es.length<3000
 ·rw[I hx] at he
  obtain⟨rfl,v',Ra,hB'⟩:=he;obtain⟨mb,m1,m2,m3⟩:=hm;refine⟨fun _=>⟨rfl,_,_,_,_,h.event h4 hS Ra hB' hl,⟨mb,?_,?_,m3⟩,hB⟩,fun hn=>M ⟨hx,hk⟩ hn⟩
  ·rw[H ah];exact m1
  ·refine m2.same hS ⟨h.t.b.wK m1 m2.obj,fun q=>?_⟩
   obtain⟨cs1,f1,e1⟩:=hO.tag q;obtain⟨_,_,e2⟩:=m2.obj;rw[e1] at e2;cases e2
 ·rw[J hx] at he
  exact⟨fun hn=>M hn.1 hx,fun _=>he⟩
end
end Yd
namespace Yd
open List renaming getElem?_eq_some_iff→P
open Nat renaming zero_add→N
open Option renaming some→H,none→I
open Go Go.RowKit Go.Proofs Tryz
open Go.IntKind renaming i64→S
open Go.Value renaming slice→J,int→U
open Yd renaming hid→G
open _root_ renaming List→O,trivial→Z
structure sw (w:World) (B:Nat) (l:aV) (s:aB):Prop where
 k:l.kind=s.kind∧l.lvl=s.lvl∧l.first=s.first∧l.bits=s.bits∧l.nn=s.names.length∧l.vn=s.aA.length
 n:Row w 1 encStr l.na l.nn l.nc s.names
 v:Row w 2 j3 l.va l.vn l.vc s.aA
 na:∀b o,l.na=H ⟨b,o,I⟩→b<B
 va:∀b o,l.va=H ⟨b,o,I⟩→b<B
theorem Same.row {α:Type} {A:Nat→Prop} {X Y:World} {k n c:Nat} {enc:α→O Value} {a:Option Addr} {xs:O α} (s:Same A X Y) (h:Row X k enc a n c xs) (ha:∀b o,a=H ⟨b,o,I⟩→A b):Row Y k enc a n c xs:=
 ⟨h.1,h.2.1,h.2.2.1,h.2.2.2.1,fun i x hx=>(let⟨b,o,hab,hc⟩:=h.2.2.2.2 i x hx;⟨b,o,hab,fun j v hv=>(World.cell?_of_block (a:=⟨b,o+i*k+j,I⟩) (s.block b (ha b o hab) (dS (hc j v hv)))).trans (hc j v hv)⟩)⟩
theorem Same.cell {A:Nat→Prop} {X Y:World} {b o:Nat} {v:Value} (s:Same A X Y) (h:X.cell? ⟨b,o,I⟩=H v) (ha:A b):Y.cell? ⟨b,o,I⟩=H v:=
 (World.cell?_of_block (a:=⟨b,o,I⟩) (s.block b ha (dS h))).trans h
theorem Rb {s:aB} (hok:dh s) (hk:s.kind=5∨s.kind=6∨s.kind=9):∃n0,s.names=[n0]:=by
 have hlen:s.names.length=1:=by
  rcases hok.2.2 with h|h|h|h|h|h|h|h|h <;> (first|exact h.2.1|(exfalso;have:=h.1;omega))
 match s.names,hlen with
 |[a],_=>exact⟨a,rfl⟩
theorem names2 {s:aB} (hok:dh s) (hk:s.kind=1∨s.kind=2∨s.kind=3):∃n0 n1,s.names=[n0,n1]:=by
 have hlen:s.names.length=2:=by
  rcases hok.2.2 with h|h|h|h|h|h|h|h|h <;> (first|exact h.2.1|(exfalso;have:=h.1;omega))
 match s.names,hlen with
 |[a,b],_=>exact⟨a,b,rfl⟩
theorem ae3 {s:aB} (hok:dh s) (hk:s.kind=3):∃v0,s.aA=[v0]:=by
 have hlen:s.aA.length=1:=by
  rcases hok.2.2 with h|h|h|h|h|h|h|h|h <;> (first|exact h.2.2.1|(exfalso;have:=h.1;omega))
 match s.aA,hlen with
 |[a],_=>exact⟨a,rfl⟩
theorem sw.bG {w:World} {B:Nat} {l:aV} {s:aB} (h:sw w B l s) {i:Nat} {x:To} (hi:s.aA[i]?=H x):∃nb no,l.va=H ⟨nb,no,I⟩∧nb<B∧w.cell? ⟨nb,no+i*2,I⟩=H (.string ⟨x.name.toArray⟩)∧w.cell? ⟨nb,no+i*2+1,I⟩=H (U S x.k):=by
 obtain⟨b,o,ha,hc⟩:=h.v.2.2.2.2 i x hi;exact⟨b,o,ha,h.va b o ha,hc 0 _ rfl,hc 1 _ rfl⟩
theorem sw.name {w:World} {B:Nat} {l:aV} {s:aB} (h:sw w B l s) {i:Nat} {x:Bs} (hi:s.names[i]?=H x):∃nb no,l.na=H ⟨nb,no,I⟩∧nb<B∧w.cell? ⟨nb,no+i,I⟩=H (.string ⟨x.toArray⟩):=by
 obtain⟨b,o,ha,hc⟩:=h.n.2.2.2.2 i x hi;exact⟨b,o,ha,h.na b o ha,by have:=hc 0 _ rfl;simpa using this⟩
section
variable {B K R:Nat} {cs:Array Value} {c:Cont} {es:O EvC} {ds:O aH} {ms:O aI}
theorem Qm (l:aV) (s:aB) (w:World) (h:gq B w R cs c es ds ms) (hf:aD c) (hl:sw w B l s) (hk:s.kind=1) (hok:dh s) (hG:jX B K w) (kW:kU w K) (mZ:R<K):
  Calls Tryz.prog 98 #[.pointer (H ⟨R,0,I⟩),gu l] w (dU B K R (aG c s) w):=by
 obtain⟨n0,n1,hn⟩:=names2 hok (.inl hk);have hnn:l.nn=2:=by rw[hl.k.2.2.2.2.1,hn];rfl
 obtain⟨nb,no,ha0,hb0,hd0⟩:=hl.name (i:=0) (x:=n0) (by rw[hn];rfl);obtain⟨nb',no',ha1,hb1,hd1⟩:=hl.name (i:=1) (x:=n1) (by rw[hn];rfl);rw[ha0] at ha1;injection ha1 with q;injection q with q1 q2;subst q1 q2;obtain⟨lk,la,ln,nc,lvl,va,vn,vc,lf,bits⟩:=l;obtain⟨k1,k2,k3,k4,k5,k6⟩:=hl.k;simp only at k1 k2 k3 k4 k5 k6 ha0 hnn;rw[hk] at k1;subst k1;have fu:Hid (aG c s=((c.put 0 n0).put 1 n1).ev ⟨1,c.no 0 n0,(c.put 0 n0).no 1 n1,lvl,0,⟨0,0⟩,0,I,0,0⟩ []):=G (by unfold aG;simp only[hk,hn,←k2,←k3,←k4];rfl);subst ha0 hnn;have sG:=G kW;have dG:=G mZ;have dI:Hid (K+3≤w.heap.size):=G (let⟨q,T,fz,e,_⟩:=kW (K+2) ah ah;(Array.getElem?_eq_some_iff.1 e).1);clear kW mZ;have HB:=G h.b;have dz:Hid (R<w.heap.size):=G h.s.t.b.2.2;obtain⟨V,hV⟩:∃V,V=w.alloc (.cells #[U S 1,J (H ⟨nb,no,I⟩) 2 nc,U S lvl,J va vn vc,.bool lf,U S bits] 34):=⟨_,rfl⟩;have bK:Hid (Below w.heap.size w V):=G (by rw[hV];exact av (Below.refl w.heap.size w) _);have HX:Hid (Bx V w.heap.size #[U S 1,J (H ⟨nb,no,I⟩) 2 nc,U S lvl,J va vn vc,.bool lf,U S bits]):=G (by rw[hV];exact Bx.new w _ _);have uQ:Hid (V.heap[w.heap.size]?=H (.cells #[U S 1,J (H ⟨nb,no,I⟩) 2 nc,U S lvl,J va vn vc,.bool lf,U S bits] 34 (0,0))):=G (by rw[hV];exact dW w _);have bD:Hid (∀W,W.heap[w.heap.size]?=V.heap[w.heap.size]?→Same (fun i=>i<B∨(K≤i∧i<K+3)) w W→(fun W'=>W'.cell? ⟨w.heap.size,0,I⟩=H (U S 1)∧W'.cell? ⟨w.heap.size,1,I⟩=H (J (H ⟨nb,no,I⟩) 2 nc)∧W'.cell? ⟨w.heap.size,2,I⟩=H (U S lvl)∧W'.cell? ⟨nb,no,I⟩=H (.string ⟨n0.toArray⟩)∧W'.cell? ⟨nb,no+1,I⟩=H (.string ⟨n1.toArray⟩)) W):=G (fun W hb hs=>⟨(World.cell?_of_block (a:=⟨w.heap.size,0,I⟩) hb).trans (HX.q.1 0),(World.cell?_of_block (a:=⟨w.heap.size,1,I⟩) hb).trans (HX.q.1 1),(World.cell?_of_block (a:=⟨w.heap.size,2,I⟩) hb).trans (HX.q.1 2),hs.cell hd0 ah,hs.cell hd1 ah⟩);have dX:Hid (∀W,Same (fun i=>i<B∨(K≤i∧i<K+3)) w W→¬aD (aG c s)→dU B K R (aG c s) w (.panicked iR) W):=G (fun W hs hn=>⟨hs,fun k=>absurd k hn,fun _=>rfl⟩);have gM:Hid (True∧(aD (aG c s)→aD ((c.put 0 n0)))∧(aD (aG c s)→aD (((c.put 0 n0).put 1 n1)))):=G (by rw[fu.q];exact⟨Z,fun k=>((Gr.put _ 1 _).trans (Gr.ev _ _ _)).fits k,fun k=>(Gr.ev _ _ _).fits k⟩);have kz:Hid (Same (fun i=>i≠R) V V.drew):=G (Same.of_below (Below.refl _ _).drew (fun _ _ h=>h));have HT0:Hid (Same (fun i=>i<B∨(K≤i∧i<K+3)) w V.drew):=G (Same.of_below bK.q.drew (fun i hi hl=>by have:=HB.q;have:=dG.q;have:=dI.q;have:=dz.q;omega));have fT:=G (h.below bK.q.drew);have tQ:=G hf;have HG:=G hG;have HW:=G ((⟨hok.1 n0 (by rw[hn];simp),hok.1 n1 (by rw[hn];simp)⟩:_∧_));have o8:Hid (V.drew.heap[w.heap.size]?=V.heap[w.heap.size]?):=G rfl;clear k2 k3 k4 k5 k6 hk hn;clear h hf hG hl hok hb0 hd0 hb1 hd1;go_enter func98,ntmps98;go_wp2_with fail;rw[←hV];clear hV;refine bF 99 [(0,0),(1,0),(2,0),(3,0),(4,0),(5,0),(6,0),(7,0),(9,0),(10,0),(11,0),(12,0),(13,0),(15,0),(16,0),(8,2),(14,2),(17,0),(18,2)] (fun _=>True) (fun W'=>W'.cell? ⟨w.heap.size,0,I⟩=H (U S 1)∧W'.cell? ⟨w.heap.size,1,I⟩=H (J (H ⟨nb,no,I⟩) 2 nc)∧W'.cell? ⟨w.heap.size,2,I⟩=H (U S lvl)∧W'.cell? ⟨nb,no,I⟩=H (.string ⟨n0.toArray⟩)∧W'.cell? ⟨nb,no+1,I⟩=H (.string ⟨n1.toArray⟩)) (fun ch w'=>dU B K R (aG c s) w (.panicked ch) w') au au (fun ch a1 w1 hd hr=>⟨hd,hr⟩) (trivial) (bD.q _ o8.q HT0.q) ?_;refine qC ?_;refine aF rfl rfl (fun K hK=>?_);go_simp;refine(eO 0 ah n0 _ fT.q tQ.q HW.q.1 (HG.q.same HT0.q)).mono ?_;rintro e w1 ⟨hS,he⟩;have gy:=G (kz.q.tr hS);have HT1:=G (HT0.q.tr (hS.mono (fun i hi _=>by have:=HB.q;have:=dG.q;have:=dI.q;omega)));rcases Classical.em (aD (c.put 0 n0)) with hf|hf;rotate_left
 ·obtain rfl:=he.2 hf
  exact⟨rfl,dX.q _ HT1.q (fun k=>hf (gM.q.2.1 k))⟩
 obtain⟨rfl,cs1,hr,hz,ho⟩:=he.1 hf;have HR1:=G hr;have oF:=G hf;have yT:=G ho;have jQ:=G (gy.q.block w.heap.size (by have:=dz.q;omega) HX.q.2.2);refine hK _ _ ⟨Z,bD.q _ jQ.q HT1.q⟩ ?_;clear hK K hr hz ho hf he hS;refine aF rfl rfl (fun K hK=>?_);go_simp;refine(eO 1 ah n1 _ HR1.q oF.q HW.q.2 (HG.q.same HT1.q)).mono ?_;rintro e w2 ⟨hS,he⟩;have HS2:=G (gy.q.tr hS);have HT2:=G (HT1.q.tr (hS.mono (fun i hi _=>by have:=HB.q;have:=dG.q;have:=dI.q;omega)));rcases Classical.em (aD ((c.put 0 n0).put 1 n1)) with hf|hf;rotate_left
 ·obtain rfl:=he.2 hf
  exact⟨rfl,dX.q _ HT2.q (fun k=>hf (gM.q.2.2 k))⟩
 obtain⟨rfl,cs2,hr,hz,ho⟩:=he.1 hf;have HR2:=G hr;have nW:=G hf;have tT:=G ho;have iW:=G (HS2.q.block w.heap.size (by have:=dz.q;omega) HX.q.2.2);refine hK _ _ ⟨Z,bD.q _ iW.q HT2.q⟩ ?_;clear hK K hr hz ho hf he hS;refine qC ?_;refine aF rfl rfl (fun K hK=>?_);go_simp;refine(Es ⟨1,c.no 0 n0,(c.put 0 n0).no 1 n1,lvl,0,⟨0,0⟩,0,I,0,0⟩ [] _ HR2.q.s (let⟨mb,m1,m2,m3⟩:=HR2.q.m;⟨mb,m1,m2.other (by show(1:Int)≠2;decide),m3⟩) HB.q nW.q (Own.iE _ _ _ _ _) (fun k=>absurd k (by show(1:Int)≠2;decide)) (HT2.q.Dm sG.q) dG.q).mono ?_;rintro e w3 ⟨hfr,hS,he⟩;have sK:=G (HT2.q.tr hS);have jc:=G ((hfr w.heap.size _ _ _ (iW.q.trans uQ.q) aj (by have:=dz.q;omega)).trans iW.q);rcases Classical.em (aD (aG c s)) with hf|hf;rotate_left
 ·obtain rfl:=he.2 (by rw[fu.q] at hf;exact hf)
  exact⟨rfl,dX.q _ sK.q hf⟩
 obtain⟨rfl,hr⟩:=he.1 (by rw[fu.q] at hf;exact hf);have yO:=G hr;have uR:=G hf;refine hK _ _ ⟨Z,bD.q _ jc.q sK.q⟩ ?_;clear hK K hr hf he hS hfr;refine iX ?_;go_wp2_with fail;refine bodyPost_end (results_none rfl _ _ _) rfl ?_;exact⟨sK.q,fun _=>⟨rfl,by rw[fu.q];exact yO.q⟩,fun k=>absurd uR.q k⟩
theorem Mc (l:aV) (s:aB) (w:World) (h:gq B w R cs c es ds ms) (hf:aD c) (hl:sw w B l s) (hk:s.kind=5∨s.kind=6) (hok:dh s) (hG:jX B K w) (kW:kU w K) (mZ:R<K):
  Calls Tryz.prog 102 #[.pointer (H ⟨R,0,I⟩),gu l] w (dU B K R (aG c s) w):=by
 obtain⟨n0,hn⟩:=Rb hok ah;have hnn:l.nn=1:=by rw[hl.k.2.2.2.2.1,hn];rfl
 obtain⟨nb,no,ha0,hb0,hd0⟩:=hl.name (i:=0) (x:=n0) (by rw[hn];rfl);obtain⟨lk,la,ln,nc,lvl,va,vn,vc,lf,bits⟩:=l;obtain⟨k1,k2,k3,k4,k5,k6⟩:=hl.k;simp only at k1 k2 k3 k4 k5 k6 ha0 hnn;rw[←k1] at hk;have fu:Hid (aG c s=(c.put 0 n0).ev ⟨lk,c.no 0 n0,0,0,0,⟨0,0⟩,0,I,0,0⟩ []):=G (by unfold aG;rw[←k1];simp only[hn];rcases hk with rfl|rfl <;> rfl);have Em:Hid (lk≠2):=G ah;subst ha0 hnn;have sG:=G kW;have dG:=G mZ;have dI:Hid (K+3≤w.heap.size):=G (let⟨q,T,fz,e,_⟩:=kW (K+2) ah ah;(Array.getElem?_eq_some_iff.1 e).1);clear kW mZ;have HB:=G h.b;have dz:Hid (R<w.heap.size):=G h.s.t.b.2.2;obtain⟨V,hV⟩:∃V,V=w.alloc (.cells #[U S lk,J (H ⟨nb,no,I⟩) 1 nc,U S lvl,J va vn vc,.bool lf,U S bits] 34):=⟨_,rfl⟩;have bK:Hid (Below w.heap.size w V):=G (by rw[hV];exact av (Below.refl w.heap.size w) _);have HX:Hid (Bx V w.heap.size #[U S lk,J (H ⟨nb,no,I⟩) 1 nc,U S lvl,J va vn vc,.bool lf,U S bits]):=G (by rw[hV];exact Bx.new w _ _);have uQ:Hid (V.heap[w.heap.size]?=H (.cells #[U S lk,J (H ⟨nb,no,I⟩) 1 nc,U S lvl,J va vn vc,.bool lf,U S bits] 34 (0,0))):=G (by rw[hV];exact dW w _);have bD:Hid (∀W,W.heap[w.heap.size]?=V.heap[w.heap.size]?→Same (fun i=>i<B∨(K≤i∧i<K+3)) w W→(fun W'=>W'.cell? ⟨w.heap.size,0,I⟩=H (U S lk)∧W'.cell? ⟨w.heap.size,1,I⟩=H (J (H ⟨nb,no,I⟩) 1 nc)∧W'.cell? ⟨nb,no,I⟩=H (.string ⟨n0.toArray⟩)) W):=G (fun W hb hs=>⟨(World.cell?_of_block (a:=⟨w.heap.size,0,I⟩) hb).trans (HX.q.1 0),(World.cell?_of_block (a:=⟨w.heap.size,1,I⟩) hb).trans (HX.q.1 1),hs.cell hd0 ah⟩);have dX:Hid (∀W,Same (fun i=>i<B∨(K≤i∧i<K+3)) w W→¬aD (aG c s)→dU B K R (aG c s) w (.panicked iR) W):=G (fun W hs hn=>⟨hs,fun k=>absurd k hn,fun _=>rfl⟩);have gM:Hid (True∧(aD (aG c s)→aD ((c.put 0 n0)))):=G (by rw[fu.q];exact⟨Z,fun k=>(Gr.ev _ _ _).fits k⟩);have kz:Hid (Same (fun i=>i≠R) V V.drew):=G (Same.of_below (Below.refl _ _).drew (fun _ _ h=>h));have HT0:Hid (Same (fun i=>i<B∨(K≤i∧i<K+3)) w V.drew):=G (Same.of_below bK.q.drew (fun i hi hl=>by have:=HB.q;have:=dG.q;have:=dI.q;have:=dz.q;omega));have fT:=G (h.below bK.q.drew);have tQ:=G hf;have HG:=G hG;have HW:=G (hok.1 n0 (by rw[hn];simp));have o8:Hid (V.drew.heap[w.heap.size]?=V.heap[w.heap.size]?):=G rfl;clear k1 k2 k3 k4 k5 k6 hk hn;clear h hf hG hl hok hb0 hd0;go_enter func102,ntmps102;go_wp2_with fail;rw[←hV];clear hV;refine bF 99 [(0,0),(1,0),(2,0),(3,0),(4,0),(5,0),(6,0),(7,0),(8,2),(9,0),(10,2)] (fun _=>True) (fun W'=>W'.cell? ⟨w.heap.size,0,I⟩=H (U S lk)∧W'.cell? ⟨w.heap.size,1,I⟩=H (J (H ⟨nb,no,I⟩) 1 nc)∧W'.cell? ⟨nb,no,I⟩=H (.string ⟨n0.toArray⟩)) (fun ch w'=>dU B K R (aG c s) w (.panicked ch) w') au au (fun ch a1 w1 hd hr=>⟨hd,hr⟩) (trivial) (bD.q _ o8.q HT0.q) ?_;refine qC ?_;refine aF rfl rfl (fun K hK=>?_);go_simp;refine(eO 0 ah n0 _ fT.q tQ.q HW.q (HG.q.same HT0.q)).mono ?_;rintro e w1 ⟨hS,he⟩;have gy:=G (kz.q.tr hS);have HT1:=G (HT0.q.tr (hS.mono (fun i hi _=>by have:=HB.q;have:=dG.q;have:=dI.q;omega)));rcases Classical.em (aD (c.put 0 n0)) with hf|hf;rotate_left
 ·obtain rfl:=he.2 hf
  exact⟨rfl,dX.q _ HT1.q (fun k=>hf (gM.q.2 k))⟩
 obtain⟨rfl,cs1,hr,hz,ho⟩:=he.1 hf;have HR1:=G hr;have oF:=G hf;have yT:=G ho;have jQ:=G (gy.q.block w.heap.size (by have:=dz.q;omega) HX.q.2.2);refine hK _ _ ⟨Z,bD.q _ jQ.q HT1.q⟩ ?_;clear hK K hr hz ho hf he hS;refine qC ?_;refine aF rfl rfl (fun K hK=>?_);go_simp;refine(Es ⟨lk,c.no 0 n0,0,0,0,⟨0,0⟩,0,I,0,0⟩ [] _ HR1.q.s (let⟨mb,m1,m2,m3⟩:=HR1.q.m;⟨mb,m1,m2.other Em.q,m3⟩) HB.q oF.q (Own.iE _ _ _ _ _) (fun k=>absurd k Em.q) (HT1.q.Dm sG.q) dG.q).mono ?_;rintro e w2 ⟨hfr,hS,he⟩;have sK:=G (HT1.q.tr hS);have iW:=G ((hfr w.heap.size _ _ _ (jQ.q.trans uQ.q) aj (by have:=dz.q;omega)).trans jQ.q);rcases Classical.em (aD (aG c s)) with hf|hf;rotate_left
 ·obtain rfl:=he.2 (by rw[fu.q] at hf;exact hf)
  exact⟨rfl,dX.q _ sK.q hf⟩
 obtain⟨rfl,hr⟩:=he.1 (by rw[fu.q] at hf;exact hf);have yO:=G hr;have uR:=G hf;refine hK _ _ ⟨Z,bD.q _ iW.q sK.q⟩ ?_;clear hK K hr hf he hS hfr;refine iX ?_;go_wp2_with fail;refine bodyPost_end (results_none rfl _ _ _) rfl ?_;exact⟨sK.q,fun _=>⟨rfl,by rw[fu.q];exact yO.q⟩,fun k=>absurd uR.q k⟩
theorem TR (l:aV) (s:aB) (w:World) (h:gq B w R cs c es ds ms) (hf:aD c) (hl:sw w B l s) (hk:s.kind=3) (hok:dh s) (hG:jX B K w) (kW:kU w K) (mZ:R<K):
  Calls Tryz.prog 100 #[.pointer (H ⟨R,0,I⟩),gu l] w (dU B K R (aG c s) w):=by
 obtain⟨n0,n1,hn⟩:=names2 hok (.inr (.inr hk));obtain⟨v0,hv⟩:=ae3 hok hk;have IZ:l.vn=1:=by rw[hl.k.2.2.2.2.2,hv];rfl
 obtain⟨vb,vo,hva,hbv,abC,abD⟩:=hl.bG (i:=0) (x:=v0) (by rw[hv];rfl);have hnn:l.nn=2:=by rw[hl.k.2.2.2.2.1,hn];rfl
 obtain⟨nb,no,ha0,hb0,hd0⟩:=hl.name (i:=0) (x:=n0) (by rw[hn];rfl);obtain⟨nb',no',ha1,hb1,hd1⟩:=hl.name (i:=1) (x:=n1) (by rw[hn];rfl);rw[ha0] at ha1;injection ha1 with q;injection q with q1 q2;subst q1 q2;obtain⟨lk,la,ln,nc,lvl,va,vn,vc,lf,bits⟩:=l;simp only at hva IZ;subst hva IZ;obtain⟨k1,k2,k3,k4,k5,k6⟩:=hl.k;simp only at k1 k2 k3 k4 k5 k6 ha0 hnn;rw[hk] at k1;subst k1;have fu:Hid (aG c s=(((c.put 0 n0).put 2 n1).bG v0).1.ev ⟨3,c.no 0 n0,0,0,(c.put 0 n0).no 2 n1,(((c.put 0 n0).put 2 n1).bG v0).2,0,I,0,0⟩ []):=G (by unfold aG;simp only[hk,hn,hv,←k2,←k3,←k4];rfl);subst ha0 hnn;have sG:=G kW;have dG:=G mZ;have dI:Hid (K+3≤w.heap.size):=G (let⟨q,T,fz,e,_⟩:=kW (K+2) ah ah;(Array.getElem?_eq_some_iff.1 e).1);clear kW mZ;have HB:=G h.b;have dz:Hid (R<w.heap.size):=G h.s.t.b.2.2;obtain⟨V,hV⟩:∃V,V=w.alloc (.cells #[U S 3,J (H ⟨nb,no,I⟩) 2 nc,U S lvl,J (H ⟨vb,vo,I⟩) 1 vc,.bool lf,U S bits] 34):=⟨_,rfl⟩;have bK:Hid (Below w.heap.size w V):=G (by rw[hV];exact av (Below.refl w.heap.size w) _);have HX:Hid (Bx V w.heap.size #[U S 3,J (H ⟨nb,no,I⟩) 2 nc,U S lvl,J (H ⟨vb,vo,I⟩) 1 vc,.bool lf,U S bits]):=G (by rw[hV];exact Bx.new w _ _);have uQ:Hid (V.heap[w.heap.size]?=H (.cells #[U S 3,J (H ⟨nb,no,I⟩) 2 nc,U S lvl,J (H ⟨vb,vo,I⟩) 1 vc,.bool lf,U S bits] 34 (0,0))):=G (by rw[hV];exact dW w _);have bD:Hid (∀W,W.heap[w.heap.size]?=V.heap[w.heap.size]?→Same (fun i=>i<B∨(K≤i∧i<K+3)) w W→(fun W'=>W'.cell? ⟨w.heap.size,1,I⟩=H (J (H ⟨nb,no,I⟩) 2 nc)∧W'.cell? ⟨nb,no,I⟩=H (.string ⟨n0.toArray⟩)∧W'.cell? ⟨nb,no+1,I⟩=H (.string ⟨n1.toArray⟩)∧W'.cell? ⟨w.heap.size,0,I⟩=H (U S 3)∧W'.cell? ⟨w.heap.size,3,I⟩=H (J (H ⟨vb,vo,I⟩) 1 vc)∧W'.cell? ⟨vb,vo,I⟩=H (.string ⟨v0.name.toArray⟩)∧W'.cell? ⟨vb,vo+1,I⟩=H (U S v0.k)) W):=G (fun W hb hs=>⟨(World.cell?_of_block (a:=⟨w.heap.size,1,I⟩) hb).trans (HX.q.1 1),hs.cell hd0 ah,hs.cell hd1 ah,(World.cell?_of_block (a:=⟨w.heap.size,0,I⟩) hb).trans (HX.q.1 0),(World.cell?_of_block (a:=⟨w.heap.size,3,I⟩) hb).trans (HX.q.1 3),hs.cell abC ah,hs.cell abD ah⟩);have dX:Hid (∀W,Same (fun i=>i<B∨(K≤i∧i<K+3)) w W→¬aD (aG c s)→dU B K R (aG c s) w (.panicked iR) W):=G (fun W hs hn=>⟨hs,fun k=>absurd k hn,fun _=>rfl⟩);have gM:Hid (True∧(aD (aG c s)→aD ((c.put 0 n0)))∧(aD (aG c s)→aD (((c.put 0 n0).put 2 n1)))∧(aD (aG c s)→aD ((((c.put 0 n0).put 2 n1).bG v0).1))):=G (by rw[fu.q];exact⟨Z,fun k=>((Gr.put _ 2 _).trans ((Gr.bG _ _).trans (Gr.ev _ _ _))).fits k,fun k=>((Gr.bG _ _).trans (Gr.ev _ _ _)).fits k,fun k=>(Gr.ev _ _ _).fits k⟩);have kz:Hid (Same (fun i=>i≠R) V V.drew):=G (Same.of_below (Below.refl _ _).drew (fun _ _ h=>h));have HT0:Hid (Same (fun i=>i<B∨(K≤i∧i<K+3)) w V.drew):=G (Same.of_below bK.q.drew (fun i hi hl=>by have:=HB.q;have:=dG.q;have:=dI.q;have:=dz.q;omega));have fT:=G (h.below bK.q.drew);have tQ:=G hf;have HG:=G hG;have HW:=G ((⟨hok.1 n0 (by rw[hn];simp),hok.1 n1 (by rw[hn];simp),hok.2.1 v0 (by rw[hv];simp)⟩:_∧_∧_));have o8:Hid (V.drew.heap[w.heap.size]?=V.heap[w.heap.size]?):=G rfl;clear k2 k3 k4 k5 k6 hk hn;clear h hf hG hl hok hbv abC abD hb0 hd0 hb1 hd1;go_enter func100,ntmps100;go_wp2_with fail;rw[←hV];clear hV;refine bF 99 [(0,0),(1,0),(2,0),(3,0),(4,0),(6,0),(7,0),(8,0),(9,0),(10,0),(5,2),(11,2),(12,0),(13,0)] (fun _=>True) (fun W'=>W'.cell? ⟨w.heap.size,1,I⟩=H (J (H ⟨nb,no,I⟩) 2 nc)∧W'.cell? ⟨nb,no,I⟩=H (.string ⟨n0.toArray⟩)∧W'.cell? ⟨nb,no+1,I⟩=H (.string ⟨n1.toArray⟩)∧W'.cell? ⟨w.heap.size,0,I⟩=H (U S 3)∧W'.cell? ⟨w.heap.size,3,I⟩=H (J (H ⟨vb,vo,I⟩) 1 vc)∧W'.cell? ⟨vb,vo,I⟩=H (.string ⟨v0.name.toArray⟩)∧W'.cell? ⟨vb,vo+1,I⟩=H (U S v0.k)) (fun ch w'=>dU B K R (aG c s) w (.panicked ch) w') au au (fun ch a1 w1 hd hr=>⟨hd,hr⟩) (trivial) (bD.q _ o8.q HT0.q) ?_;refine qC ?_;refine aF rfl rfl (fun K hK=>?_);go_simp;refine(eO 0 ah n0 _ fT.q tQ.q HW.q.1 (HG.q.same HT0.q)).mono ?_;rintro e w1 ⟨hS,he⟩;have gy:=G (kz.q.tr hS);have HT1:=G (HT0.q.tr (hS.mono (fun i hi _=>by have:=HB.q;have:=dG.q;have:=dI.q;omega)));rcases Classical.em (aD (c.put 0 n0)) with hf|hf;rotate_left
 ·obtain rfl:=he.2 hf
  exact⟨rfl,dX.q _ HT1.q (fun k=>hf (gM.q.2.1 k))⟩
 obtain⟨rfl,cs1,hr,hz,ho⟩:=he.1 hf;have HR1:=G hr;have oF:=G hf;have yT:=G ho;have jQ:=G (gy.q.block w.heap.size (by have:=dz.q;omega) HX.q.2.2);refine hK _ _ ⟨Z,bD.q _ jQ.q HT1.q⟩ ?_;clear hK K hr hz ho hf he hS;refine aF rfl rfl (fun K hK=>?_);go_simp;refine(eO 2 ah n1 _ HR1.q oF.q HW.q.2.1 (HG.q.same HT1.q)).mono ?_;rintro e w2 ⟨hS,he⟩;have HS2:=G (gy.q.tr hS);have HT2:=G (HT1.q.tr (hS.mono (fun i hi _=>by have:=HB.q;have:=dG.q;have:=dI.q;omega)));rcases Classical.em (aD ((c.put 0 n0).put 2 n1)) with hf|hf;rotate_left
 ·obtain rfl:=he.2 hf
  exact⟨rfl,dX.q _ HT2.q (fun k=>hf (gM.q.2.2.1 k))⟩
 obtain⟨rfl,cs2,hr,hz,ho⟩:=he.1 hf;have HR2:=G hr;have nW:=G hf;have tT:=G ho;have iW:=G (HS2.q.block w.heap.size (by have:=dz.q;omega) HX.q.2.2);refine hK _ _ ⟨Z,bD.q _ iW.q HT2.q⟩ ?_;clear hK K hr hz ho hf he hS;refine qC ?_;refine iX ?_;have iU:=G (HS2.q.tr (Same.of_below (Below.refl w2.heap.size w2).drew (fun _ _ h=>h)));have HT3:=G (HT2.q.tr (Same.of_below (Below.refl w2.heap.size w2).drew (fun _ _ h=>h)));have HR3:=G (HR2.q.below (Below.refl w2.heap.size w2).drew);have pz:=nW;have jc:Hid (w2.drew.heap[w.heap.size]?=V.heap[w.heap.size]?):=G iW.q;go_wp2_with fail;refine bF 99 [(0,0),(1,0),(2,0),(3,0),(4,0),(5,0),(6,0),(7,0),(8,0),(9,0),(10,2),(11,0),(12,2)] (fun _=>True) (fun W'=>W'.cell? ⟨w.heap.size,1,I⟩=H (J (H ⟨nb,no,I⟩) 2 nc)∧W'.cell? ⟨nb,no,I⟩=H (.string ⟨n0.toArray⟩)∧W'.cell? ⟨nb,no+1,I⟩=H (.string ⟨n1.toArray⟩)∧W'.cell? ⟨w.heap.size,0,I⟩=H (U S 3)∧W'.cell? ⟨w.heap.size,3,I⟩=H (J (H ⟨vb,vo,I⟩) 1 vc)∧W'.cell? ⟨vb,vo,I⟩=H (.string ⟨v0.name.toArray⟩)∧W'.cell? ⟨vb,vo+1,I⟩=H (U S v0.k)) (fun ch w'=>dU B K R (aG c s) w (.panicked ch) w') au au (fun ch a1 w1 hd hr=>⟨hd,hr⟩) (trivial) (bD.q _ jc.q HT3.q) ?_;refine qC ?_;refine aF rfl rfl (fun K hK=>?_);go_simp;refine(Mg v0 _ HR3.q pz.q HW.q.2.2 (HG.q.same HT3.q)).mono ?_;rintro e w4 ⟨hS,he⟩;have AL:=G (iU.q.tr hS);have rH:=G (HT3.q.tr (hS.mono (fun i hi _=>by have:=HB.q;have:=dG.q;have:=dI.q;omega)));rcases Classical.em (aD (((c.put 0 n0).put 2 n1).bG v0).1) with hf|hf;rotate_left
 ·obtain rfl:=he.2 hf
  exact⟨rfl,dX.q _ rH.q (fun k=>hf (gM.q.2.2.2 k))⟩
 obtain⟨rfl,cs4,hr,hz,ho⟩:=he.1 hf;have HR4:=G hr;have Ct:=G hf;have HO4:=G ho;have pF:=G (AL.q.block w.heap.size (by have:=dz.q;omega) HX.q.2.2);refine hK _ _ ⟨Z,bD.q _ pF.q rH.q⟩ ?_;clear hK K hr hz ho hf he hS;refine qC ?_;refine aF rfl rfl (fun K hK=>?_);go_simp;refine(Es ⟨3,c.no 0 n0,0,0,(c.put 0 n0).no 2 n1,(((c.put 0 n0).put 2 n1).bG v0).2,0,I,0,0⟩ [] _ HR4.q.s (let⟨mb,m1,m2,m3⟩:=HR4.q.m;⟨mb,m1,m2.other (by show(3:Int)≠2;decide),m3⟩) HB.q Ct.q (Own.iE _ _ _ _ _) (fun k=>absurd k (by show(3:Int)≠2;decide)) (rH.q.Dm sG.q) dG.q).mono ?_;rintro e w5 ⟨hfr,hS,he⟩;have sK:=G (rH.q.tr hS);have Jb:=G ((hfr w.heap.size _ _ _ (pF.q.trans uQ.q) aj (by have:=dz.q;omega)).trans pF.q);rcases Classical.em (aD (aG c s)) with hf|hf;rotate_left
 ·obtain rfl:=he.2 (by rw[fu.q] at hf;exact hf)
  exact⟨rfl,dX.q _ sK.q hf⟩
 obtain⟨rfl,hr⟩:=he.1 (by rw[fu.q] at hf;exact hf);have yO:=G hr;have uR:=G hf;refine hK _ _ ⟨Z,bD.q _ Jb.q sK.q⟩ ?_;clear hK K hr hf he hS hfr;refine iX ?_;go_wp2_with fail;refine bodyPost_end (results_none rfl _ _ _) rfl ?_;exact⟨sK.q,fun _=>⟨rfl,by rw[fu.q];exact yO.q⟩,fun k=>absurd uR.q k⟩
end
theorem gq.want {B R:Nat} {cs:Array Value} {c:Cont} {es:O EvC} {ds:O aH} {ms:O aI} {X Y:World} (h:gq B X R cs c es ds ms) {v4 v':Value} (h4:cs[7]?=H v4) (hO4:Own X (R+1) 83 2 eu v4 c.Q) (hs:Same (fun i=>i≠R∧v4.ownBlock≠H i) X Y) {x:Wa}
  (hO:Own Y (R+1) 83 2 eu v' (c.Q++[x])) (hB:Bx Y R (cs.setIfInBounds 7 v')):gq B Y R (cs.setIfInBounds 7 v') {c with Q:=c.Q++[x]} es ds ms:=
 ⟨h.s.want h4 hs hO hB,(let⟨mb,m1,m2,m3⟩:=h.m;⟨mb,by rw[Array.getElem?_setIfInBounds_ne ah];exact m1,m2.same hs ⟨h.s.t.b.wK m1 m2.obj,fun q=>by
  obtain⟨cs1,f1,e1⟩:=hO4.tag q;obtain⟨_,_,e2⟩:=m2.obj;rw[e1] at e2;cases e2⟩,m3⟩),h.b⟩
theorem gq.order {B R:Nat} {cs:Array Value} {c:Cont} {es:O EvC} {ds:O aH} {ms:O aI} {X Y:World} (h:gq B X R cs c es ds ms) {v4 v':Value} (h4:cs[5]?=H v4) (hO4:Own X (R+1) 79 2 dD v4 ds) (hs:Same (fun i=>i≠R∧v4.ownBlock≠H i) X Y) {x:aH} {l:O Int}
  (hO:Own Y (R+1) 79 2 dD v' (ds++[x])) (hB:Bx Y R (cs.setIfInBounds 5 v')) (hl:Own X (R+1) 3 1 aQ x.val l):gq B Y R (cs.setIfInBounds 5 v') {c with D:=c.D++[x.base],SD:=c.SD++[l]} es (ds++[x]) ms:=
 ⟨h.s.order h4 hs hO hB hl,(let⟨mb,m1,m2,m3⟩:=h.m;⟨mb,by rw[Array.getElem?_setIfInBounds_ne ah];exact m1,m2.same hs ⟨h.s.t.b.wK m1 m2.obj,fun q=>by
  obtain⟨cs1,f1,e1⟩:=hO4.tag q;obtain⟨_,_,e2⟩:=m2.obj;rw[e1] at e2;cases e2⟩,m3⟩),h.b⟩
theorem gq.XC {B R:Nat} {cs:Array Value} {c:Cont} {es:O EvC} {ds:O aH} {ms:O aI} {X Y:World} (h:gq B X R cs c es ds ms) {v4 v':Value} (h4:cs[6]?=H v4) (hO4:Own X (R+1) 81 4 dx v4 ms) (hs:Same (fun i=>i≠R∧v4.ownBlock≠H i) X Y) {x:aI} {l:O Int}
  (hO:Own Y (R+1) 81 4 dx v' (ms++[x])) (hB:Bx Y R (cs.setIfInBounds 6 v')) (hl:Own X (R+1) 3 1 aQ x.val l):gq B Y R (cs.setIfInBounds 6 v') {c with M:=c.M++[x.base],SM:=c.SM++[l]} es ds (ms++[x]):=
 ⟨h.s.XC h4 hs hO hB hl,(let⟨mb,m1,m2,m3⟩:=h.m;⟨mb,by rw[Array.getElem?_setIfInBounds_ne ah];exact m1,m2.same hs ⟨h.s.t.b.wK m1 m2.obj,fun q=>by
  obtain⟨cs1,f1,e1⟩:=hO4.tag q;obtain⟨_,_,e2⟩:=m2.obj;rw[e1] at e2;cases e2⟩,m3⟩),h.b⟩
theorem Row.wa1 (w:World) (x:Wa):Row (w.alloc (.cells #[U S x.bU,U S x.bits] 83)) 2 eu (H ⟨w.heap.size,0,I⟩) 1 1 [x]:=
 (Own.new (hc:=qE) w w.heap.size 83 (enc:=eu) #[U S x.bU,U S x.bits] [x] (Nat.le_refl _) rfl (by simp[maxLen])).row (hc:=qE) ak
theorem Row.or1 (w:World) (x:aH):Row (w.alloc (.cells #[U S x.obj,J x.sa x.sn x.sc] 79)) 2 dD (H ⟨w.heap.size,0,I⟩) 1 1 [x]:=
 (Own.new (hc:=pI) w w.heap.size 79 (enc:=dD) #[U S x.obj,J x.sa x.sn x.sc] [x] (Nat.le_refl _) rfl (by simp[maxLen])).row (hc:=pI) ak
theorem Row.ma1 (w:World) (x:aI):Row (w.alloc (.cells #[U S x.pred,U S x.obj,.bool x.first,J x.sa x.sn x.sc] 81)) 4 dx (H ⟨w.heap.size,0,I⟩) 1 1 [x]:=
 (Own.new (hc:=ny) w w.heap.size 81 (enc:=dx) #[U S x.pred,U S x.obj,.bool x.first,J x.sa x.sn x.sc] [x] (Nat.le_refl _) rfl (by simp[maxLen])).row (hc:=ny) ak
section
variable {B K R:Nat} {cs:Array Value} {c:Cont} {es:O EvC} {ds:O aH} {ms:O aI}
theorem TT (l:aV) (s:aB) (w:World) (h:gq B w R cs c es ds ms) (hf:aD c) (hl:sw w B l s) (hk:s.kind=9) (hok:dh s) (hG:jX B K w) (kW:kU w K) (mZ:R<K):
  Calls Tryz.prog 105 #[.pointer (H ⟨R,0,I⟩),gu l] w (dU B K R (aG c s) w):=by
 obtain⟨n0,hn⟩:=Rb hok ah;have hnn:l.nn=1:=by rw[hl.k.2.2.2.2.1,hn];rfl
 obtain⟨nb,no,ha0,hb0,hd0⟩:=hl.name (i:=0) (x:=n0) (by rw[hn];rfl);obtain⟨v7,h7,sF⟩:=h.s.q;obtain⟨a7,c7,rfl,_,I4⟩:=sF.shape;obtain⟨i,z,hi,hz,hsize,bP,hzs⟩:=MF;have HI:=G (⟨hi,hz,hsize,bP,hzs⟩:_∧_∧_∧_∧_);clear hi hz hsize bP hzs;obtain⟨lk,la,ln,nc,lvl,va,vn,vc,lf,bits⟩:=l;obtain⟨k1,k2,k3,k4,k5,k6⟩:=hl.k;simp only at k1 k2 k3 k4 k5 k6 ha0 hnn;rw[hk] at k1;subst k1;have fu:Hid (aG c s={c.put 1 n0 with Q:=c.Q++[⟨c.no 1 n0,bits⟩]}):=G (by unfold aG;simp only[hk,hn,←k4];rfl);subst ha0 hnn;have sG:=G kW;have dG:=G mZ;have dI:Hid (K+3≤w.heap.size):=G (let⟨q,T,fz,e,_⟩:=kW (K+2) ah ah;(Array.getElem?_eq_some_iff.1 e).1);clear kW mZ;have HB:=G h.b;have dz:Hid (R<w.heap.size):=G h.s.t.b.2.2;obtain⟨V,hV⟩:∃V,V=w.alloc (.cells #[U S 9,J (H ⟨nb,no,I⟩) 1 nc,U S lvl,J va vn vc,.bool lf,U S bits] 34):=⟨_,rfl⟩;have bK:Hid (Below w.heap.size w V):=G (by rw[hV];exact av (Below.refl w.heap.size w) _);have HX:Hid (Bx V w.heap.size #[U S 9,J (H ⟨nb,no,I⟩) 1 nc,U S lvl,J va vn vc,.bool lf,U S bits]):=G (by rw[hV];exact Bx.new w _ _);have uQ:Hid (V.heap[w.heap.size]?=H (.cells #[U S 9,J (H ⟨nb,no,I⟩) 1 nc,U S lvl,J va vn vc,.bool lf,U S bits] 34 (0,0))):=G (by rw[hV];exact dW w _);have bD:Hid (∀W,W.heap[w.heap.size]?=V.heap[w.heap.size]?→Same (fun i=>i<B∨(K≤i∧i<K+3)) w W→W.cell? ⟨R,7,I⟩=H (J a7 c.Q.length c7)→(fun W'=>W'.cell? ⟨w.heap.size,1,I⟩=H (J (H ⟨nb,no,I⟩) 1 nc)∧W'.cell? ⟨w.heap.size,5,I⟩=H (U S bits)∧W'.cell? ⟨nb,no,I⟩=H (.string ⟨n0.toArray⟩)∧W'.cell? ⟨R,7,I⟩=H (J a7 c.Q.length c7)) W):=G (fun W hb hs hr=>⟨(World.cell?_of_block (a:=⟨w.heap.size,1,I⟩) hb).trans (HX.q.1 1),(World.cell?_of_block (a:=⟨w.heap.size,5,I⟩) hb).trans (HX.q.1 5),hs.cell hd0 ah,hr⟩);have dX:Hid (∀W,Same (fun i=>i<B∨(K≤i∧i<K+3)) w W→¬aD (aG c s)→dU B K R (aG c s) w (.panicked iR) W):=G (fun W hs hn=>⟨hs,fun k=>absurd k hn,fun _=>rfl⟩);have gM:Hid (True∧(aD (aG c s)→aD (c.put 1 n0))):=G ⟨Z,by rw[fu.q];exact fun k=>(show Gr (c.put 1 n0) {c.put 1 n0 with Q:=c.Q++[⟨c.no 1 n0,bits⟩]} from⟨fun _=>List.prefix_refl _,List.prefix_refl _,List.prefix_refl _,List.prefix_refl _,List.prefix_append _ _⟩).fits k⟩;have yS:Hid (V.drew.heap.size=w.heap.size+1):=G (by show V.heap.size=_;rw[hV];exact World.size_alloc _ _);have kz:Hid (Same (fun i=>i≠R) V V.drew):=G (Same.of_below (Below.refl _ _).drew (fun _ _ h=>h));have HT0:Hid (Same (fun i=>i<B∨(K≤i∧i<K+3)) w V.drew):=G (Same.of_below bK.q.drew (fun i hi hl=>by have:=HB.q;have:=dG.q;have:=dI.q;have:=dz.q;omega));have fT:=G (h.below bK.q.drew);have tQ:=G hf;have HG:=G hG;have HW:=G (hok.1 n0 (by rw[hn];simp));have o8:Hid (V.drew.heap[w.heap.size]?=V.heap[w.heap.size]?):=G rfl;have H7:=G h7;have l7:=G (sF.below bK.q rfl);have hx7:V.cell? ⟨R,7,I⟩=H (J a7 c.Q.length c7):=((h.s.t.b.keep bK.q).1 7).trans h7;have qA:=G hx7;have zy:(w.alloc (.cells #[U S 9,J (H ⟨nb,no,I⟩) 1 nc,U S lvl,J va vn vc,.bool lf,U S bits] 34)).cell? ⟨R,7,I⟩=H (J a7 c.Q.length c7):=by rw[←hV];exact hx7
 have o9:Hid (∀g,(Value.slice a7 c.Q.length c7).ownBlock=H g→g≠w.heap.size∧g≠R∧R+1≤g∧¬(K≤g∧g<K+3)):=G (fun g hg=>⟨fun e=>(by obtain⟨_,_,q⟩:=l7.q.tag hg;rw[e,uQ.q] at q;cases q),fun e=>(by have:=(l7.q.lt g hg).1;omega),(l7.q.lt g hg).1,fun e=>(by obtain⟨_,_,q⟩:=l7.q.tag hg;obtain⟨_,T,_,q2,hT⟩:=sG.q g e.1 e.2;rw[bK.q.block g (by have:=dI.q;omega),q2] at q;cases q;simp[zA] at hT)⟩);clear k2 k3 k4 k5 k6 hk hn;have gX:Hid ((c.Q.length+1)*16≤140737488355328):=G (by have:=hf.2.2.2.2.1;omega);have fH:Hid (c.Q.length+1≤maxLen):=G (by have:=hf.2.2.2.2.1;unfold maxLen;omega);have vR:Hid (cs[7]?=H (J a7 c.Q.length c7)):=H7;have jI:Hid (Own V.drew (R+1) 83 2 eu (J a7 c.Q.length c7) c.Q):=l7;have nL:Hid (w.heap.size<V.drew.heap.size):=G (by have:=yS.q;omega);clear h hf hG hl hok hb0 hd0 h7 sF;by_cases hroom:c.Q.length<3000;rotate_left
 ·have hd:decide ((c.Q.length:Int)<3000)=false:=decide_eq_false ah
  have JQ:Hid (¬aD (aG c s)):=G (fun k=>hroom (by rw[fu.q] at k;have:=k.2.2.2.2.1;rw[List.length_append,List.length_singleton] at this;exact this));have HT:=G (Same.of_below (A:=fun i=>i<B∨(K≤i∧i<K+3)) bK.q (fun i hi hl=>by have:=HB.q;have:=dG.q;have:=dI.q;have:=dz.q;omega));clear hroom;go_enter func105,ntmps105;go_wp2_with fail;refine(jO _ _).mono ?_;rintro e w2 ⟨rfl,rfl⟩;rw[if_neg ak];rw[←hV];exact⟨rfl,dX.q _ HT.q JQ.q⟩
 have EH:=G hroom;have hd:decide ((c.Q.length:Int)<3000)=true:=decide_eq_true ah;clear hroom;go_enter func105,ntmps105;go_wp2_with fail;refine(jO _ _).mono ?_;rintro e w2 ⟨rfl,rfl⟩;rw[if_pos rfl];rw[←hV];clear hV zy;go_wp2_with fail;refine bF 20 [(0,0),(1,0),(2,0),(3,0),(4,0),(5,0),(6,0),(7,0),(8,0),(9,0),(10,0),(12,0),(13,0),(11,2),(14,0),(15,2),(16,2),(17,1),(18,1),(19,0),(20,2)] (fun _=>True) (fun W'=>W'.cell? ⟨w.heap.size,1,I⟩=H (J (H ⟨nb,no,I⟩) 1 nc)∧W'.cell? ⟨w.heap.size,5,I⟩=H (U S bits)∧W'.cell? ⟨nb,no,I⟩=H (.string ⟨n0.toArray⟩)∧W'.cell? ⟨R,7,I⟩=H (J a7 c.Q.length c7)) (fun ch w'=>dU B K R (aG c s) w (.panicked ch) w') au au (fun ch a1 w1 hd hr=>⟨hd,hr⟩) (trivial) (bD.q _ o8.q HT0.q qA.q) ?_;refine qC ?_;refine aF rfl rfl (fun K hK=>?_);go_simp;refine(eO 1 ah n0 _ fT.q tQ.q HW.q (HG.q.same HT0.q)).mono ?_;rintro e w1 ⟨hS,he⟩;have jE:=G hS;have gy:=G (kz.q.tr hS);have HT1:=G (HT0.q.tr (hS.mono (fun i hi _=>by have:=HB.q;have:=dG.q;have:=dI.q;omega)));rcases Classical.em (aD (c.put 1 n0)) with hf|hf;rotate_left
 ·obtain rfl:=he.2 hf
  exact⟨rfl,dX.q _ HT1.q (fun k=>hf (gM.q.2 k))⟩
 obtain⟨rfl,cs1,hr,hz,ho⟩:=he.1 hf;have HR1:=G hr;have oF:=G hf;have yT:=G ho;have jQ:=G (gy.q.block w.heap.size (by have:=dz.q;omega) HX.q.2.2);have lQ:Hid (cs1[7]?=_):=G ((yT.q 7 (.inl ah)).trans vR.q);have mV:=G (jI.q.eY jE.q);have jF:Hid (w.heap.size<w1.heap.size):=G (Nat.lt_of_lt_of_le nL.q jE.q.size);refine hK _ _ ⟨Z,bD.q _ jQ.q HT1.q ((HR1.q.s.t.b.1 7).trans lQ.q)⟩ ?_;clear hK K hr hz ho hf he hS;refine qC ?_;refine aF rfl rfl (fun K hK=>?_);go_simp;have hba:=av (Below.refl w1.heap.size w1) (.cells #[U S (c.no 1 n0),U S bits] 83);have iN:=G hba;have Cw:=G (HT1.q.tr (Same.of_below hba (fun i hi hl=>hl)));have Dt:Hid ((w1.alloc (.cells #[U S (c.no 1 n0),U S bits] 83)).heap[w.heap.size]?=V.heap[w.heap.size]?):=G ((hba.block _ (by have:=jF.q;omega)).trans jQ.q);have lU:=G (HR1.q.s.t.b.keep hba);refine hK _ _ ⟨Z,bD.q _ Dt.q Cw.q ((lU.q.1 7).trans lQ.q)⟩ ?_;clear hK K hba;refine aF rfl rfl (fun K hK=>?_);refine nk _ _ 39 rfl i z 16 underlying39 HI.q.1 HI.q.2.1 HI.q.2.2.1 HI.q.2.2.2.1 HI.q.2.2.2.2 rfl (mV.q.below iN.q rfl) (H ⟨w1.heap.size,0,I⟩) 1 1 (c.Q.length+1) [⟨c.no 1 n0,bits⟩] rfl (Row.wa1 w1 _) rfl gX.q fH.q (Nat.le_trans (Nat.succ_le_of_lt HR1.q.s.t.b.2.2) iN.q.size) ?_;intro a' c' w9 oH iC wD;have Ep:=G (Cw.q.tr ⟨iC.os,iC.tape,iC.output,iC.size,fun i hi hl=>iC.block i hl (fun e=>by have:=(o9.q i e.symm).2.2.1;have:=(o9.q i e.symm).2.2.2;have:=HB.q;have:=dG.q;have:=dI.q;omega)⟩);have OJ:Hid (w9.heap[w.heap.size]?=V.heap[w.heap.size]?):=G ((iC.block w.heap.size (Nat.lt_of_lt_of_le jF.q iN.q.size) (fun e=>(o9.q _ e.symm).1 rfl)).trans Dt.q);have qB:=lU.q.grown iC (fun e=>(o9.q _ e).2.1 rfl);refine hK _ _ ⟨Z,bD.q _ OJ.q Ep.q ((qB.1 7).trans lQ.q)⟩ ?_;have Eo:=(qB.1 7).trans lQ.q;have Qx:=qB.2.1 7;have AU:=G qB;have yU:=G oH;have jh:=G iC;clear hK K qB oH iC wD;refine qC ?_;refine dN rfl rfl rfl (fun K hK=>?_);go_simp;refine hK _ _ Z ?_;clear hK K;refine iX ?_;have uR:Hid (aD (aG c s)):=G (by rw[fu.q];have k:=oF.q;exact⟨k.1,k.2.1,k.2.2.1,k.2.2.2.1,by show(c.Q++[_]).length≤3000;rw[List.length_append,List.length_singleton];have:=EH.q;omega,k.2.2.2.2.2⟩);go_wp2_with fail;refine bodyPost_end (results_none rfl _ _ _) rfl ?_;refine⟨Ep.q.setTail (fun h=>by have:=HB.q;have:=dG.q;have:=dI.q;omega),fun _=>⟨rfl,?_⟩,fun k=>absurd uR.q k⟩;rw[fu.q];have vM:Same (fun i=>i≠R∧(Value.slice a7 c.Q.length c7).ownBlock≠H i) w1 (w9.setCell ⟨R,7,I⟩ (J a' (c.Q.length+1) c')):=
  ((Same.of_below iN.q (fun _ _ h=>h)).tr ⟨jh.q.os,jh.q.tape,jh.q.output,jh.q.size,fun i hi hl=>jh.q.block i hl (fun e=>hi.2 e.symm)⟩).setTail (fun h=>h.1 rfl)
 exact⟨_,_,_,_,HR1.q.want (x:=(⟨c.no 1 n0,bits⟩:Wa)) lQ.q mV.q vM (yU.q.same (A:=fun i=>i≠R) ((Same.refl' _).setTail (fun h=>h rfl)) (fun g hg e=>by have:=(yU.q.lt g hg).1;omega)) (AU.q.aR 7 (Array.getElem?_eq_some_iff.1 lQ.q).1 _)⟩
end
theorem names7 {s:aB} (hok:dh s) (hk:s.kind=7):∃n0 rs,s.names=n0::rs∧rs.length≤300:=by
 have hlen:∃c:Nat,s.names.length=c+1∧c≤300:=by
  rcases hok.2.2 with h|h|h|h|h|h|h|h|h <;> (first|exact h.2.1|(exfalso;have:=h.1;omega))
 obtain⟨q,h1,h2⟩:=hlen
 match hn:s.names,h1 with
 |a::l,h1=>exact⟨a,l,rfl,by simp at h1;omega⟩
section
variable {B K R:Nat} {cs:Array Value} {c:Cont} {es:O EvC} {ds:O aH} {ms:O aI}
theorem Qo (l:aV) (s:aB) (w:World) (h:gq B w R cs c es ds ms) (hf:aD c) (hl:sw w B l s) (hk:s.kind=7) (hok:dh s) (hG:jX B K w) (kW:kU w K) (mZ:R<K):
  Calls Tryz.prog 103 #[.pointer (H ⟨R,0,I⟩),gu l] w (dU B K R (aG c s) w):=by
 obtain⟨n0,rs,hn,hle⟩:=names7 hok hk;have hnn:l.nn=rs.length+1:=by rw[hl.k.2.2.2.2.1,hn];rfl
 obtain⟨nb,no,ha0,hb0,hd0⟩:=hl.name (i:=0) (x:=n0) (by rw[hn];rfl);obtain⟨ra,hsl,hslA,hrow,hrb⟩:=Du hl.n 1 ah;have hra:∀b o,ra=H ⟨b,o,I⟩→b<B:=fun b o e=>(let⟨q,e1,e2⟩:=hrb b o e;by rw[ha0] at e1;injection e1 with e1;subst e1;subst e2;exact hb0)
 obtain⟨v7,h7,sF⟩:=h.s.d;obtain⟨a7,c7,rfl,_,I4⟩:=sF.shape;obtain⟨i,z,hi,hz,hsize,bP,hzs⟩:=MB;have HI:=G (⟨hi,hz,hsize,bP,hzs⟩:_∧_∧_∧_∧_);clear hi hz hsize bP hzs;obtain⟨lk,la,ln,nc,lvl,va,vn,vc,lf,bits⟩:=l;obtain⟨k1,k2,k3,k4,k5,k6⟩:=hl.k;simp only at k1 k2 k3 k4 k5 k6 ha0 hnn hsl hslA hrow;rw[hk] at k1;subst k1;have fu:Hid (aG c s={((c.put 2 n0).ts rs).1 with D:=((c.put 2 n0).ts rs).1.D++[⟨c.no 2 n0,I,0,0⟩],SD:=((c.put 2 n0).ts rs).1.SD++[((c.put 2 n0).ts rs).2]}):=G (by unfold aG;simp only[hk,hn];rw[(Nm.ts rs (c.put 2 n0)).d,(Nm.ts rs (c.put 2 n0)).sd];rfl);subst ha0 hnn;have hsl1:∀W,(Instr.slice 22 (J (H ⟨nb,no,I⟩) (rs.length+1) nc) (H (U S 1)) I I).run Tryz.prog W= .ok (J ra rs.length (nc - 1)) W:=hsl;have ae4:∀W,(Instr.sliceAt 22 (J (H ⟨nb,no,I⟩) (rs.length+1) nc) (H (U S 1)) I I).run Tryz.prog W= .ok (J ra rs.length (nc - 1)) W:=hslA;clear hsl hslA;have sG:=G kW;have dG:=G mZ;have dI:Hid (K+3≤w.heap.size):=G (let⟨q,T,fz,e,_⟩:=kW (K+2) ah ah;(Array.getElem?_eq_some_iff.1 e).1);clear kW mZ;have HB:=G h.b;have dz:Hid (R<w.heap.size):=G h.s.t.b.2.2;obtain⟨V,hV⟩:∃V,V=w.alloc (.cells #[U S 7,J (H ⟨nb,no,I⟩) (rs.length+1) nc,U S lvl,J va vn vc,.bool lf,U S bits] 34):=⟨_,rfl⟩;have bK:Hid (Below w.heap.size w V):=G (by rw[hV];exact av (Below.refl w.heap.size w) _);have HX:Hid (Bx V w.heap.size #[U S 7,J (H ⟨nb,no,I⟩) (rs.length+1) nc,U S lvl,J va vn vc,.bool lf,U S bits]):=G (by rw[hV];exact Bx.new w _ _);have uQ:Hid (V.heap[w.heap.size]?=H (.cells #[U S 7,J (H ⟨nb,no,I⟩) (rs.length+1) nc,U S lvl,J va vn vc,.bool lf,U S bits] 34 (0,0))):=G (by rw[hV];exact dW w _);have bD:Hid (∀W,W.heap[w.heap.size]?=V.heap[w.heap.size]?→Same (fun i=>i<B∨(K≤i∧i<K+3)) w W→W.cell? ⟨R,5,I⟩=H (J a7 ds.length c7)→(fun W'=>W'.cell? ⟨w.heap.size,1,I⟩=H (J (H ⟨nb,no,I⟩) (rs.length+1) nc)∧W'.cell? ⟨R,5,I⟩=H (J a7 ds.length c7)) W):=G (fun W hb hs hr=>⟨(World.cell?_of_block (a:=⟨w.heap.size,1,I⟩) hb).trans (HX.q.1 1),hr⟩);have dX:Hid (∀W,Same (fun i=>i<B∨(K≤i∧i<K+3)) w W→¬aD (aG c s)→dU B K R (aG c s) w (.panicked iR) W):=G (fun W hs hn=>⟨hs,fun k=>absurd k hn,fun _=>rfl⟩);have gM:Hid (True∧(aD (aG c s)→aD (c.put 2 n0))∧(aD (aG c s)→aD ((c.put 2 n0).ts rs).1)):=G (by rw[fu.q];have hg:Gr ((c.put 2 n0).ts rs).1 {((c.put 2 n0).ts rs).1 with D:=((c.put 2 n0).ts rs).1.D++[⟨c.no 2 n0,I,0,0⟩],SD:=((c.put 2 n0).ts rs).1.SD++[((c.put 2 n0).ts rs).2]}:=⟨fun _=>List.prefix_refl _,List.prefix_refl _,List.prefix_append _ _,List.prefix_refl _,List.prefix_refl _⟩;exact⟨Z,fun k=>((Gr.ts rs _).trans hg).fits k,fun k=>hg.fits k⟩);have Gp:Hid (((c.put 2 n0).ts rs).1.D.length=ds.length):=G (by rw[(Nm.ts rs (c.put 2 n0)).d];show c.D.length=_;rw[←h.s.bd,List.length_map]);have yS:Hid (V.heap.size=w.heap.size+1):=G (by show V.heap.size=_;rw[hV];exact World.size_alloc _ _);have kz:Hid (Same (fun i=>i≠R) V V):=G (Same.of_below (Below.refl _ _) (fun _ _ h=>h));have HT0:Hid (Same (fun i=>i<B∨(K≤i∧i<K+3)) w V):=G (Same.of_below bK.q (fun i hi hl=>by have:=HB.q;have:=dG.q;have:=dI.q;have:=dz.q;omega));have fT:=G (h.below bK.q);have tQ:=G hf;have HG:=G hG;have HW:=G ((⟨hok.1 n0 (by rw[hn];simp),fun s' hs'=>hok.1 s' (by rw[hn];exact List.mem_cons_of_mem _ hs')⟩:_∧_));have o8:Hid (V.heap[w.heap.size]?=V.heap[w.heap.size]?):=G rfl;have H7:=G h7;have l7:=G (sF.below bK.q rfl);have hx7:V.cell? ⟨R,5,I⟩=H (J a7 ds.length c7):=((h.s.t.b.keep bK.q).1 5).trans h7;have qA:=G hx7;have zy:(w.alloc (.cells #[U S 7,J (H ⟨nb,no,I⟩) (rs.length+1) nc,U S lvl,J va vn vc,.bool lf,U S bits] 34)).cell? ⟨R,5,I⟩=H (J a7 ds.length c7):=by rw[←hV];exact hx7
 have o9:Hid (∀g,(Value.slice a7 ds.length c7).ownBlock=H g→g≠w.heap.size∧g≠R∧R+1≤g∧¬(K≤g∧g<K+3)):=G (fun g hg=>⟨fun e=>(by obtain⟨_,_,q⟩:=l7.q.tag hg;rw[e,uQ.q] at q;cases q),fun e=>(by have:=(l7.q.lt g hg).1;omega),(l7.q.lt g hg).1,fun e=>(by obtain⟨_,_,q⟩:=l7.q.tag hg;obtain⟨_,T,_,q2,hT⟩:=sG.q g e.1 e.2;rw[bK.q.block g (by have:=dI.q;omega),q2] at q;cases q;simp[zA] at hT)⟩);rw[hn] at hrow;have OL:Hid (Row w 1 encStr ra rs.length (nc - 1) rs):=G hrow;have Cv:=G hra;have rG:=G hle;clear k2 k3 k4 k5 k6 hk hn;have hdl:ds.length≤3000:=by have:=hf.2.2.1;rw[←h.s.bd,List.length_map] at this;exact this
 have gX:Hid ((ds.length+1)*32≤140737488355328):=G ah;have fH:Hid (ds.length+1≤maxLen):=G (by unfold maxLen;omega);have vR:Hid (cs[5]?=H (J a7 ds.length c7)):=H7;have jI:Hid (Own V (R+1) 79 2 dD (J a7 ds.length c7) ds):=l7;have nL:Hid (w.heap.size<V.heap.size):=G (by have:=yS.q;omega);have hcb:V.cell? ⟨w.heap.size,1,I⟩=H (J (H ⟨nb,no,I⟩) (rs.length+1) nc):=HX.q.1 1;have hcn:V.cell? ⟨nb,no,I⟩=H (.string ⟨n0.toArray⟩):=HT0.q.cell hd0 ah;clear h hf hG hl hok hb0 hd0 h7 sF hrow hra hrb hle hdl;by_cases hroom:ds.length<3000;rotate_left
 ·have hd:decide ((ds.length:Int)<3000)=false:=decide_eq_false ah
  have JQ:Hid (¬aD (aG c s)):=G (fun k=>hroom (by rw[fu.q] at k;have:=k.2.2.1;rw[List.length_append,List.length_singleton,Gp.q] at this;exact this));have HT:=G (Same.of_below (A:=fun i=>i<B∨(K≤i∧i<K+3)) bK.q (fun i hi hl=>by have:=HB.q;have:=dG.q;have:=dI.q;have:=dz.q;omega));clear hroom;go_enter func103,ntmps103;go_wp2_with fail;refine(jO _ _).mono ?_;rintro e w2 ⟨rfl,rfl⟩;rw[if_neg ak];rw[←hV];exact⟨rfl,dX.q _ HT.q JQ.q⟩
 have EH:=G hroom;have hd:decide ((ds.length:Int)<3000)=true:=decide_eq_true ah;clear hroom;go_enter func103,ntmps103;go_wp2_with fail;refine(jO _ _).mono ?_;rintro e w2 ⟨rfl,rfl⟩;rw[if_pos rfl];rw[←hV];clear hV zy;go_wp2_with fail;refine(eO 2 ah n0 _ fT.q tQ.q HW.q.1 (HG.q.same HT0.q)).mono ?_;rintro e w1 ⟨hS,he⟩;have jE:=G hS;have gy:=G (kz.q.tr hS);have HT1:=G (HT0.q.tr (hS.mono (fun i hi _=>by have:=HB.q;have:=dG.q;have:=dI.q;omega)));rcases Classical.em (aD (c.put 2 n0)) with hf|hf;rotate_left
 ·obtain rfl:=he.2 hf
  exact⟨rfl,dX.q _ HT1.q (fun k=>hf (gM.q.2.1 k))⟩
 obtain⟨rfl,cs1,hr,hz,ho⟩:=he.1 hf;have HR1:=G hr;have oF:=G hf;have yT:=G ho;have jQ:=G (gy.q.block w.heap.size (by have:=dz.q;omega) HX.q.2.2);have lQ:Hid (cs1[5]?=_):=G ((yT.q 5 (.inl ah)).trans vR.q);have mV:=G (jI.q.eY jE.q);have jF:Hid (w.heap.size<w1.heap.size):=G (Nat.lt_of_lt_of_le nL.q jE.q.size);clear hr hz ho hf he hS hx7 hcb hcn;go_wp2_with fail;have fw:=G (Same.of_below (A:=fun i=>i≠R) (Below.refl w1.heap.size w1).drew (fun _ _ h=>h));have HS2:=G (gy.q.tr fw.q);have HT2:=G (HT1.q.tr (Same.of_below (Below.refl w1.heap.size w1).drew (fun i hi hl=>hl)));have HR2:=G (HR1.q.below (Below.refl w1.heap.size w1).drew);have nW:=oF;have iW:Hid (w1.drew.heap[w.heap.size]?=V.heap[w.heap.size]?):=G jQ.q;have oG:=lQ;have nM:=G (mV.q.eY fw.q);have jg:Hid (w.heap.size<w1.drew.heap.size):=G jF.q;have OM:Hid (Row w1.drew 1 encStr ra rs.length (nc - 1) rs):=G (HT2.q.row OL.q (fun b o e=> .inl (Cv.q b o e)));refine bF 18 [(0,0),(1,0),(2,0),(3,0),(4,0),(5,0),(6,0),(7,0),(8,0),(9,0),(10,0),(11,2),(12,0),(13,2),(14,2),(15,1),(16,1),(17,0),(18,2)] (fun _=>True) (fun W'=>W'.cell? ⟨w.heap.size,1,I⟩=H (J (H ⟨nb,no,I⟩) (rs.length+1) nc)∧W'.cell? ⟨R,5,I⟩=H (J a7 ds.length c7)) (fun ch w'=>dU B K R (aG c s) w (.panicked ch) w') au au (fun ch a1 w1 hd hr=>⟨hd,hr⟩) (trivial) (bD.q _ iW.q HT2.q ((HR2.q.s.t.b.1 5).trans oG.q)) ?_;refine qC ?_;refine aF rfl rfl (fun K hK=>?_);go_simp;refine(Q9 rs ra rs.length _ _ HR2.q nW.q OM.q (fun b o e=>by have:=Cv.q b o e;have:=HB.q;have:=dG.q;have:=dI.q;omega) HW.q.2 (by have:=rG.q;omega) (HG.q.same HT2.q) dG.q).mono ?_;rintro e w3 ⟨hS,he⟩;have dL:=G hS;have iU:=G (HS2.q.tr hS);have HT3:=G (HT2.q.tr (hS.mono (fun i hi _=>by have:=HB.q;have:=dG.q;have:=dI.q;omega)));rcases Classical.em (aD ((c.put 2 n0).ts rs).1) with hf|hf;rotate_left
 ·obtain rfl:=he.2 hf
  exact⟨rfl,dX.q _ HT3.q (fun k=>hf (gM.q.2.2 k))⟩
 obtain⟨a2,q2,rfl,how,AP,hr,hz,ho⟩:=he.1 hf;have HR3:=G hr;have pz:=G hf;have xH:=G ho;have jc:=G (iU.q.block w.heap.size (by have:=dz.q;omega) HX.q.2.2);have HOW:=G (how.mono (B':=R+1) (by have:=HR2.q.s.t.b.2.2;omega));have mW:Hid (AP[5]?=_):=G ((xH.q 5 (.inl ah)).trans oG.q);have qP:=G (nM.q.eY dL.q);have lV:Hid (w.heap.size<w3.heap.size):=G (Nat.lt_of_lt_of_le jg.q dL.q.size);refine hK _ _ ⟨Z,bD.q _ jc.q HT3.q ((HR3.q.s.t.b.1 5).trans mW.q)⟩ ?_;clear hK K hr hz ho hf he hS how;refine qC ?_;refine aF rfl rfl (fun K hK=>?_);go_simp;have hba:=av (Below.refl w3.heap.size w3) (.cells #[U S (c.no 2 n0),J a2 rs.length q2] 79);have iN:=G hba;have Cw:=G (HT3.q.tr (Same.of_below hba (fun i hi hl=>hl)));have Dt:Hid ((w3.alloc (.cells #[U S (c.no 2 n0),J a2 rs.length q2] 79)).heap[w.heap.size]?=V.heap[w.heap.size]?):=G ((hba.block _ (by have:=lV.q;omega)).trans jc.q);have lU:=G (HR3.q.s.t.b.keep hba);refine hK _ _ ⟨Z,bD.q _ Dt.q Cw.q ((lU.q.1 5).trans mW.q)⟩ ?_;clear hK K hba;refine aF rfl rfl (fun K hK=>?_);refine nk _ _ 37 rfl i z 32 underlying37 HI.q.1 HI.q.2.1 HI.q.2.2.1 HI.q.2.2.2.1 HI.q.2.2.2.2 rfl (qP.q.below iN.q rfl) (H ⟨w3.heap.size,0,I⟩) 1 1 (ds.length+1) [⟨c.no 2 n0,a2,rs.length,q2⟩] rfl (Row.or1 w3 _) rfl gX.q fH.q (Nat.le_trans (Nat.succ_le_of_lt HR3.q.s.t.b.2.2) iN.q.size) ?_;intro a' c' w9 oH iC wD;have Ep:=G (Cw.q.tr ⟨iC.os,iC.tape,iC.output,iC.size,fun i hi hl=>iC.block i hl (fun e=>by have:=(o9.q i e.symm).2.2.1;have:=(o9.q i e.symm).2.2.2;have:=HB.q;have:=dG.q;have:=dI.q;omega)⟩);have OJ:Hid (w9.heap[w.heap.size]?=V.heap[w.heap.size]?):=G ((iC.block w.heap.size (Nat.lt_of_lt_of_le lV.q iN.q.size) (fun e=>(o9.q _ e.symm).1 rfl)).trans Dt.q);have qB:=lU.q.grown iC (fun e=>(o9.q _ e).2.1 rfl);refine hK _ _ ⟨Z,bD.q _ OJ.q Ep.q ((qB.1 5).trans mW.q)⟩ ?_;have Eo:=(qB.1 5).trans mW.q;have Qx:=qB.2.1 5;have AU:=G qB;have yU:=G oH;have jh:=G iC;clear hK K qB oH iC wD;refine qC ?_;refine dN rfl rfl rfl (fun K hK=>?_);go_simp;refine hK _ _ Z ?_;clear hK K;refine iX ?_;have uR:Hid (aD (aG c s)):=G (by rw[fu.q];have k:=pz.q;exact⟨k.1,k.2.1,by show(((c.put 2 n0).ts rs).1.D++[_]).length≤3000;rw[List.length_append,List.length_singleton,Gp.q];exact EH.q,k.2.2.2.1,k.2.2.2.2.1,k.2.2.2.2.2⟩);go_wp2_with fail;refine bodyPost_end (results_none rfl _ _ _) rfl ?_;refine⟨Ep.q.setTail (fun h=>by have:=HB.q;have:=dG.q;have:=dI.q;omega),fun _=>⟨rfl,?_⟩,fun k=>absurd uR.q k⟩;rw[fu.q];have vM:Same (fun i=>i≠R∧(Value.slice a7 ds.length c7).ownBlock≠H i) w3 (w9.setCell ⟨R,5,I⟩ (J a' (ds.length+1) c')):=
  ((Same.of_below iN.q (fun _ _ h=>h)).tr ⟨jh.q.os,jh.q.tape,jh.q.output,jh.q.size,fun i hi hl=>jh.q.block i hl (fun e=>hi.2 e.symm)⟩).setTail (fun h=>h.1 rfl)
 exact⟨_,_,_,_,HR3.q.order (x:=(⟨c.no 2 n0,a2,rs.length,q2⟩:aH)) mW.q qP.q vM (yU.q.same (A:=fun i=>i≠R) ((Same.refl' _).setTail (fun h=>h rfl)) (fun g hg e=>by have:=(yU.q.lt g hg).1;omega)) (AU.q.aR 5 (Array.getElem?_eq_some_iff.1 mW.q).1 _) HOW.q⟩
end
def jG {α β:Type} (B:Nat) (X:World) (T:TypeId) (ek:Nat) (enc:β→O Value) (val:α→Value) (xs:O α) (Ls:O (O β)) (k:Nat):Prop:=
 (∀i x L,i<k→xs[i]?=H x→Ls[i]?=H L→Own X B T ek enc (val x) L)∧∀i j x y,i<j→j<k→xs[i]?=H x→xs[j]?=H y→∀g,(val x).ownBlock=H g→(val y).ownBlock≠H g
section
variable {α β:Type} {B:Nat} {X Y:World} {T:TypeId} {ek k:Nat} {enc:β→O Value} {val:α→Value} {xs:O α} {Ls:O (O β)}
theorem jG.zero:jG B X T ek enc val xs Ls 0:=⟨fun _ _ _ h=>absurd h (Nat.not_lt_zero _),fun _ _ _ _ _ h=>absurd h (Nat.not_lt_zero _)⟩
theorem jG.imp (h:jG B X T ek enc val xs Ls k) (hi:∀v L,Own X B T ek enc v L→Own Y B T ek enc v L):jG B Y T ek enc val xs Ls k:=⟨fun i x L h1 h2 h3=>hi _ _ (h.1 i x L h1 h2 h3),h.2⟩
theorem jG.step {y:α} {L:O β} (hX:jG B X T ek enc val xs Ls k) (hY:jG B Y T ek enc val xs Ls k) (hlen:xs.length=Ls.length) (hk:k<xs.length) (hL:Ls[k]?=H L) (hy:Own Y X.heap.size T ek enc (val y) L) (hB:B≤X.heap.size):jG B Y T ek enc val (xs.set k y) Ls (k+1):=by
 refine⟨fun i x M hi hx hM=>?_,fun i j x z hij hj hx hz g hg hgz=>?_⟩
 ·by_cases e:i=k
  ·subst e
   rw[List.getElem?_set_self hk] at hx;injection hx with hx;rw[hL] at hM;injection hM with hM;subst hx hM;exact hy.mono hB
  ·rw[List.getElem?_set_ne (fun q=>e q.symm)] at hx
   exact hY.1 i x M ah hx hM
 ·rw[List.getElem?_set_ne ah] at hx
  by_cases e:j=k
  ·subst e
   rw[List.getElem?_set_self hk] at hz;injection hz with hz;subst hz;obtain⟨M,hM⟩:∃M,Ls[i]?=H M:=⟨_,List.getElem?_eq_getElem (by have:=(P.1 hx).1;omega)⟩;have h1:=((hX.1 i x M hij hx hM).lt g hg).2;have h2:=(hy.lt g hgz).1;omega
  ·rw[List.getElem?_set_ne (fun q=>e q.symm)] at hz
   exact hY.2 i j x z hij ah hx hz g hg hgz
end
structure HO (w X:World) (h:HC) (es:O EvC) (ds:O aH) (ms:O aI) (c:Cont) (i j k:Nat):Prop where
 st:St w X h es ds ms c
 oe:Own X w.heap.size 65 9 cZ h.e.v es
 od:Own X w.heap.size 79 2 dD h.d.v ds
 om:Own X w.heap.size 81 4 dx h.m.v ms
 oq:Own X w.heap.size 83 2 eu h.w.v c.Q
 on:∀q,q<4→Own X w.heap.size 9 1 encStr (h.nm q).v (c.nl q)
 fe:jG w.heap.size X 148 3 bV EvC.val es c.SE i
 fd:jG w.heap.size X 3 1 aQ aH.val ds c.SD j
 fm:jG w.heap.size X 3 1 aQ aI.val ms c.SM k
 fx:∀i' j' x y,i'<j→j'<k→ds[i']?=H x→ms[j']?=H y→∀g,(aH.val x).ownBlock=H g→(aI.val y).ownBlock≠H g
section
variable {w X Y:World} {h:HC} {es:O EvC} {ds:O aH} {ms:O aI} {c:Cont} {i j k:Nat}
theorem HO.below (s:HO w X h es ds ms c i j k) (hb:Below X.heap.size X Y):HO w Y h es ds ms c i j k:=
 ⟨s.st.below hb,s.oe.below hb rfl,s.od.below hb rfl,s.om.below hb rfl,s.oq.below hb rfl,fun q hq=>(s.on q hq).below hb rfl,s.fe.imp (fun _ _ o=>o.below hb rfl),s.fd.imp (fun _ _ o=>o.below hb rfl),s.fm.imp (fun _ _ o=>o.below hb rfl),s.fx⟩
theorem HO.UW {g:Nat} {x:EvC} {L:O Sn} (s:HO w X h es ds ms c i j k) (ha:h.e.a=H ⟨g,0,I⟩) (hx:es[i]?=H x) (hL:c.SE[i]?=H L) (hb:Below X.heap.size X Y) (sl:Sl) (hl:L.length≤2000000) (hn:Own Y X.heap.size 148 3 bV sl.v L):
  HO w (Y.setCell ⟨g,i*9+8,I⟩ sl.v) h (es.set i (x.wi sl)) ds ms c (i+1) j k:=by
 have s':=s.below hb;have rJ:h.e.v.ownBlock=H g:=by simp only[Sl.v,ha];rfl
 have ht:=s'.oe.tag rJ;have hs:Same (fun q=>q≠g) Y (Y.setCell ⟨g,i*9+8,I⟩ sl.v):=(Same.refl' Y).setTail (fun q=>q rfl);have hsz:w.heap.size≤X.heap.size:=s.st.b.size;obtain⟨h1,h2⟩:=s'.st.UW s'.oe ha hx hL sl ⟨hl,.inr (hn.mono hsz)⟩;refine⟨h1,h2,s'.od.aX ht aj hs,s'.om.aX ht aj hs,s'.oq.aX ht aj hs,fun q hq=>(s'.on q hq).aX ht aj hs,jG.step s.fe (s'.fe.imp (fun _ _ o=>o.aX ht aj hs)) s.st.se.1 (P.1 hx).1 hL (hn.aX ht aj hs) hsz,s'.fd.imp (fun _ _ o=>o.aX ht aj hs),s'.fm.imp (fun _ _ o=>o.aX ht aj hs),s.fx⟩
theorem HO.UY {g:Nat} {x:aH} {L:O Int} (s:HO w X h es ds ms c i j k) (ha:h.d.a=H ⟨g,0,I⟩) (hx:ds[j]?=H x) (hL:c.SD[j]?=H L) (hb:Below X.heap.size X Y) (sl:Sl) (hl:L.length≤2000000) (hn:Own Y X.heap.size 3 1 aQ sl.v L):
  HO w (Y.setCell ⟨g,j*2+1,I⟩ sl.v) h es (ds.set j (x.wi sl)) ms c i (j+1) k:=by
 have s':=s.below hb;have rJ:h.d.v.ownBlock=H g:=by simp only[Sl.v,ha];rfl
 have ht:=s'.od.tag rJ;have hs:Same (fun q=>q≠g) Y (Y.setCell ⟨g,j*2+1,I⟩ sl.v):=(Same.refl' Y).setTail (fun q=>q rfl);have hsz:w.heap.size≤X.heap.size:=s.st.b.size;obtain⟨h1,h2⟩:=s'.st.UY s'.od ha hx hL sl ⟨hl,.inr (hn.mono hsz)⟩;refine⟨h1,s'.oe.aX ht aj hs,h2,s'.om.aX ht aj hs,s'.oq.aX ht aj hs,fun q hq=>(s'.on q hq).aX ht aj hs,s'.fe.imp (fun _ _ o=>o.aX ht aj hs),jG.step s.fd (s'.fd.imp (fun _ _ o=>o.aX ht aj hs)) s.st.sd.1 (P.1 hx).1 hL (hn.aX ht aj hs) hsz,s'.fm.imp (fun _ _ o=>o.aX ht aj hs),fun i' j' x' y' hi hj hx' hy' g0 hg0 hg1=>?_⟩;by_cases e:i'=j
 ·subst e
  rw[List.getElem?_set_self (P.1 hx).1] at hx';injection hx' with hx';subst hx';obtain⟨M,hM⟩:∃M,c.SM[j']?=H M:=⟨_,List.getElem?_eq_getElem (by have:=(P.1 hy').1;have:=s.st.sm.1;omega)⟩;have h3:=((s.fm.1 j' y' M hj hy' hM).lt g0 hg1).2;have h4:=(hn.lt g0 hg0).1;omega
 ·rw[List.getElem?_set_ne (fun q=>e q.symm)] at hx'
  exact s.fx i' j' x' y' ah hj hx' hy' g0 hg0 hg1
theorem HO.UZ {g:Nat} {x:aI} {L:O Int} (s:HO w X h es ds ms c i j k) (ha:h.m.a=H ⟨g,0,I⟩) (hx:ms[k]?=H x) (hL:c.SM[k]?=H L) (hb:Below X.heap.size X Y) (sl:Sl) (hl:L.length≤2000000) (hn:Own Y X.heap.size 3 1 aQ sl.v L):
  HO w (Y.setCell ⟨g,k*4+3,I⟩ sl.v) h es ds (ms.set k (x.wi sl)) c i j (k+1):=by
 have s':=s.below hb;have rJ:h.m.v.ownBlock=H g:=by simp only[Sl.v,ha];rfl
 have ht:=s'.om.tag rJ;have hs:Same (fun q=>q≠g) Y (Y.setCell ⟨g,k*4+3,I⟩ sl.v):=(Same.refl' Y).setTail (fun q=>q rfl);have hsz:w.heap.size≤X.heap.size:=s.st.b.size;obtain⟨h1,h2⟩:=s'.st.UZ s'.om ha hx hL sl ⟨hl,.inr (hn.mono hsz)⟩;refine⟨h1,s'.oe.aX ht aj hs,s'.od.aX ht aj hs,h2,s'.oq.aX ht aj hs,fun q hq=>(s'.on q hq).aX ht aj hs,s'.fe.imp (fun _ _ o=>o.aX ht aj hs),s'.fd.imp (fun _ _ o=>o.aX ht aj hs),jG.step s.fm (s'.fm.imp (fun _ _ o=>o.aX ht aj hs)) s.st.sm.1 (P.1 hx).1 hL (hn.aX ht aj hs) hsz,fun i' j' x' y' hi hj hx' hy' g0 hg0 hg1=>?_⟩;by_cases e:j'=k
 ·subst e
  rw[List.getElem?_set_self (P.1 hx).1] at hy';injection hy' with hy';subst hy';obtain⟨M,hM⟩:∃M,c.SD[i']?=H M:=⟨_,List.getElem?_eq_getElem (by have:=(P.1 hx').1;have:=s.st.sd.1;omega)⟩;have h3:=((s.fd.1 i' x' M hi hx' hM).lt g0 hg0).2;have h4:=(hn.lt g0 hg1).1;omega
 ·rw[List.getElem?_set_ne (fun q=>e q.symm)] at hy'
  exact s.fx i' j' x' y' hi ah hx' hy' g0 hg0 hg1
theorem Own.box {α:Type} {T:TypeId} {n:Nat} {enc:α→O Value} {v:Value} {xs:O α} (ho:Own X w.heap.size T n enc v xs) (s:St w X h es ds ms c) (hT:T≠41) (q:Nat) (u:Value):Own (X.setCell ⟨w.heap.size,q,I⟩ u) w.heap.size T n enc v xs:=ho.aX s.tg hT (sameBox s q u)
end
structure U0 (w X:World) (h:HC) (es:O EvC) (ds:O aH) (ms:O aI) (c:Cont):Prop where
 b:Below w.heap.size w X
 oe:Own X w.heap.size 65 9 cZ h.e.v es
 od:Own X w.heap.size 79 2 dD h.d.v ds
 om:Own X w.heap.size 81 4 dx h.m.v ms
 oq:Own X w.heap.size 83 2 eu h.w.v c.Q
 on:∀q,q<4→Own X w.heap.size 9 1 encStr (h.nm q).v (c.nl q)
 fe:jG w.heap.size X 148 3 bV EvC.val es c.SE es.length
 fd:jG w.heap.size X 3 1 aQ aH.val ds c.SD ds.length
 fm:jG w.heap.size X 3 1 aQ aI.val ms c.SM ms.length
 be:es.map EvC.base=c.E
 bd:ds.map aH.base=c.D
 bm:ms.map aI.base=c.M
 fx:∀x∈ds,∀y∈ms,∀g,(aH.val x).ownBlock=H g→(aI.val y).ownBlock≠H g
 le:es.length=c.SE.length
 ld:ds.length=c.SD.length
 lm:ms.length=c.SM.length
def Iy (w:World) (c:Cont) (e:Ending) (X:World):Prop:=∃h es ds ms,e= .returned (eF h)∧U0 w X h es ds ms c
theorem HO.fin {w X Y:World} {h:HC} {es:O EvC} {ds:O aH} {ms:O aI} {c:Cont} (s:HO w X h es ds ms c es.length ds.length ms.length) (hs:Same (fun i=>i≠w.heap.size+1) X Y):Iy w c (.returned (eF h)) Y:=by
 have ht:=s.st.t2;exact⟨h,es,ds,ms,rfl,hs.below s.st.b (fun i hi=>by omega) s.st.b.size,s.oe.aX ht aj hs,s.od.aX ht aj hs,s.om.aX ht aj hs,s.oq.aX ht aj hs,fun q hq=>(s.on q hq).aX ht aj hs,
  s.fe.imp (fun _ _ o=>o.aX ht aj hs),s.fd.imp (fun _ _ o=>o.aX ht aj hs),s.fm.imp (fun _ _ o=>o.aX ht aj hs),s.st.be,s.st.bd,s.st.bm,fun x hx y hy g h1 h2=>(let⟨i,hi⟩:=List.mem_iff_getElem?.1 hx;let⟨j,hj⟩:=List.mem_iff_getElem?.1 hy;s.fx i j x y (P.1 hi).1 (P.1 hj).1 hi hj g h1 h2),s.st.se.1,s.st.sd.1,s.st.sm.1⟩
theorem LM (h:HC) (nl:Nat→O Bs) (es:O EvC) (ds:O aH) (ms:O aI) (qs:O Wa) (scan:EvC→O Sn) (dn:aH→O Int) (mn:aI→O Int) (w:World)
  (hn:∀i,i<4→Row w 1 encStr (h.nm i).a (h.nm i).n (h.nm i).c (nl i)) (hd:Deep w h es ds ms qs scan dn mn) (hB:Iz nl es ds ms qs scan dn mn):
  Calls Tryz.prog 106 #[eF h] w (Iy w (uX es.length nl es ds ms qs scan dn mn)):=by
 have hst:=St.start hn hd hB es.length (by rw[hd.1.len];exact Nat.le_refl _);obtain⟨C,hC⟩:∃C,C=uX es.length nl es ds ms qs scan dn mn:=⟨_,rfl⟩;rw[←hC] at hst ⊢;have HST:=G hst;have HQS:Hid (C.Q=qs):=G (by rw[hC];rfl);have hle:=hst.e.1;have hld:=hst.d.1;have hlm:=hst.m.1;clear hn hd hB hC hst;obtain⟨ht,hs,ho,hp,he,hdd,hmm,Rc⟩:=h;have hbx:=HST.q.bx;have hb2:=HST.q.b2;have hcx:=hbx.1;have hfx:=hbx.2.1;have hlx:=hbx.2.2;have hc2:=hb2.1;have hf2:=hb2.2.1;have hl2:=hb2.2.2;go_enter func106,ntmps106;go_wp2_with fail;refine aK 12 [(0,0),(1,0),(3,0),(4,0),(6,0),(7,0),(9,0),(10,0),(2,2),(12,1),(5,2),(8,2),(11,2),(13,2),(14,1),(15,2),(16,1),(17,2),(18,1),(19,2)] (fun _=>True) (fun W'=>Bx W' w.heap.size (aC ⟨ht,hs,ho,hp,he,hdd,hmm,Rc⟩)) au au (trivial) (HST.q.bx) ?_;refine qC ?_;refine aF rfl rfl (fun K hK=>?_);go_simp;have HD0:=G (HST.q.drew);clear hbx hb2 hcx hfx hlx hc2 hf2 hl2;have hrw:=(HD0.q.n 0 aj).row (hc:=iM) HD0.q.b;have hLn:=(HD0.q.n 0 aj).1;refine(show Calls _ _ _ _ (jk 9 1 encStr (C.nl 0) _) from by have:=tY ht.a ht.c (C.nl 0) _ (by rw[hrw.len];exact hrw) ah;rw[show(C.nl 0).length=ht.n from hrw.len] at this;exact this).mono ?_;rintro en Y0 ⟨n0,d0,rfl,ho0,hb0⟩;have oN:=G (HD0.q.below hb0);have abF:=G (ho0.mono (HD0.q.b.size));have ak':=G hb0;have U1:=G hLn;refine hK _ _ ⟨Z,oN.q.bx⟩ ?_;clear hK K ho0 hb0 hrw hLn;refine qC ?_;refine aF rfl rfl (fun K hK=>?_);go_simp;have hrw:=(oN.q.n 1 aj).row (hc:=iM) oN.q.b;have hLn:=(oN.q.n 1 aj).1;refine(show Calls _ _ _ _ (jk 9 1 encStr (C.nl 1) _) from by have:=tY hs.a hs.c (C.nl 1) _ (by rw[hrw.len];exact hrw) ah;rw[show(C.nl 1).length=hs.n from hrw.len] at this;exact this).mono ?_;rintro en Y1 ⟨n1,d1,rfl,ho1,hb1⟩;have iK:=G (oN.q.below hb1);have abG:=G (ho1.mono (oN.q.b.size));have ahK:=G hb1;have ahL:=G hLn;refine hK _ _ ⟨Z,iK.q.bx⟩ ?_;clear hK K ho1 hb1 hrw hLn;refine aF rfl rfl (fun K hK=>?_);go_simp;have hrw:=(iK.q.n 2 aj).row (hc:=iM) iK.q.b;have hLn:=(iK.q.n 2 aj).1;refine(show Calls _ _ _ _ (jk 9 1 encStr (C.nl 2) _) from by have:=tY ho.a ho.c (C.nl 2) _ (by rw[hrw.len];exact hrw) ah;rw[show(C.nl 2).length=ho.n from hrw.len] at this;exact this).mono ?_;rintro en Y2 ⟨n2,d2,rfl,ho2,hb2⟩;have gX:=G (iK.q.below hb2);have abH:=G (ho2.mono (iK.q.b.size));have abI:=G hb2;have ahM:=G hLn;refine hK _ _ ⟨Z,gX.q.bx⟩ ?_;clear hK K ho2 hb2 hrw hLn;refine aF rfl rfl (fun K hK=>?_);go_simp;have hrw:=(gX.q.n 3 aj).row (hc:=iM) gX.q.b;have hLn:=(gX.q.n 3 aj).1;refine(show Calls _ _ _ _ (jk 9 1 encStr (C.nl 3) _) from by have:=tY hp.a hp.c (C.nl 3) _ (by rw[hrw.len];exact hrw) ah;rw[show(C.nl 3).length=hp.n from hrw.len] at this;exact this).mono ?_;rintro en Y3 ⟨n3,d3,rfl,ho3,hb3⟩;have fH:=G (gX.q.below hb3);have abJ:=G (ho3.mono (gX.q.b.size));have U2:=G hb3;have ahN:=G hLn;refine hK _ _ ⟨Z,fH.q.bx⟩ ?_;clear hK K ho3 hb3 hrw hLn;have hbx:=fH.q.bx;have hcx:=hbx.1;have hfx:=hbx.2.1;have hlx:=hbx.2.2;refine dN rfl rfl rfl (fun K hK=>?_);go_simp;refine hK _ _ Z ?_;clear hK K;refine qC ?_;refine dN rfl rfl rfl (fun K hK=>?_);go_simp;refine hK _ _ Z ?_;clear hK K;refine qC ?_;refine dN rfl rfl rfl (fun K hK=>?_);go_simp;refine hK _ _ Z ?_;clear hK K;refine qC ?_;refine dN rfl rfl rfl (fun K hK=>?_);go_simp;refine hK _ _ Z ?_;clear hK K;refine bB ?_;have qJ:=G (((abF.q.below ahK.q rfl).below abI.q rfl).below U2.q rfl);have qK:=G ((abG.q.below abI.q rfl).below U2.q rfl);have qL:=G (abH.q.below U2.q rfl);have qM:=G abJ.q;have hs0:=fH.q.ae5 ⟨n0,(C.nl 0).length,d0⟩ ⟨U1.q,.inr qJ.q⟩;have qJ:=G (qJ.q.box fH.q aj 0 (Sl.v ⟨n0,(C.nl 0).length,d0⟩));have qK:=G (qK.q.box fH.q aj 0 (Sl.v ⟨n0,(C.nl 0).length,d0⟩));have qL:=G (qL.q.box fH.q aj 0 (Sl.v ⟨n0,(C.nl 0).length,d0⟩));have qM:=G (qM.q.box fH.q aj 0 (Sl.v ⟨n0,(C.nl 0).length,d0⟩));have hs1:=hs0.ae6 ⟨n1,(C.nl 1).length,d1⟩ ⟨ahL.q,.inr qK.q⟩;have qJ:=G (qJ.q.box hs0 aj 1 (Sl.v ⟨n1,(C.nl 1).length,d1⟩));have qK:=G (qK.q.box hs0 aj 1 (Sl.v ⟨n1,(C.nl 1).length,d1⟩));have qL:=G (qL.q.box hs0 aj 1 (Sl.v ⟨n1,(C.nl 1).length,d1⟩));have qM:=G (qM.q.box hs0 aj 1 (Sl.v ⟨n1,(C.nl 1).length,d1⟩));have hs2:=hs1.ae7 ⟨n2,(C.nl 2).length,d2⟩ ⟨ahM.q,.inr qL.q⟩;have qJ:=G (qJ.q.box hs1 aj 2 (Sl.v ⟨n2,(C.nl 2).length,d2⟩));have qK:=G (qK.q.box hs1 aj 2 (Sl.v ⟨n2,(C.nl 2).length,d2⟩));have qL:=G (qL.q.box hs1 aj 2 (Sl.v ⟨n2,(C.nl 2).length,d2⟩));have qM:=G (qM.q.box hs1 aj 2 (Sl.v ⟨n2,(C.nl 2).length,d2⟩));have hs3:=hs2.ae8 ⟨n3,(C.nl 3).length,d3⟩ ⟨ahN.q,.inr qM.q⟩;have qJ:=G (qJ.q.box hs2 aj 3 (Sl.v ⟨n3,(C.nl 3).length,d3⟩));have qK:=G (qK.q.box hs2 aj 3 (Sl.v ⟨n3,(C.nl 3).length,d3⟩));have qL:=G (qL.q.box hs2 aj 3 (Sl.v ⟨n3,(C.nl 3).length,d3⟩));have qM:=G (qM.q.box hs2 aj 3 (Sl.v ⟨n3,(C.nl 3).length,d3⟩));have Cu:=G hs3;clear hs0 hs1 hs2 hs3 hbx hcx hfx hlx oN iK gX fH abF abG abH abJ;have hbx:=Cu.q.bx;have hb2:=Cu.q.b2;have hcx:=hbx.1;have hfx:=hbx.2.1;have hlx:=hbx.2.2;have hc2:=hb2.1;have hf2:=hb2.2.1;have hl2:=hb2.2.2;go_wp2_with fail;refine aK 12 [(0,0),(1,0),(3,0),(4,0),(6,0),(7,0),(9,0),(10,0),(2,2),(12,1),(5,2),(8,2),(11,2),(13,2),(14,1),(15,2),(16,1),(17,2),(18,1),(19,2)] (fun _=>True) (fun W'=>Bx W' w.heap.size (aC ⟨⟨n0,(C.nl 0).length,d0⟩,⟨n1,(C.nl 1).length,d1⟩,⟨n2,(C.nl 2).length,d2⟩,⟨n3,(C.nl 3).length,d3⟩,he,hdd,hmm,Rc⟩)) au au (trivial) (Cu.q.bx) ?_;refine qC ?_;refine aF rfl rfl (fun K hK=>?_);go_simp;have F8:=G (Cu.q.drew);clear hbx hb2 hcx hfx hlx hc2 hf2 hl2;have hrw:=F8.q.e.row (hc:=qF) F8.q.b;have hLn:=F8.q.e.1;refine(show Calls _ _ _ _ (jk 65 _ cZ es _) from by have:=YZ he.a he.c es _ (by rw[hrw.len];exact hrw) ah;rw[show es.length=he.n from hrw.len] at this;exact this).mono ?_;rintro en Z0 ⟨ae,ce,rfl,ho0,hb0⟩;have HZ0:=G (F8.q.below hb0);have abK:=G (ho0.mono (F8.q.b.size));have OO:=G hb0;have ahO:=G hLn;refine hK _ _ ⟨Z,HZ0.q.bx⟩ ?_;clear hK K ho0 hb0 hrw hLn;refine qC ?_;refine aF rfl rfl (fun K hK=>?_);go_simp;have hrw:=HZ0.q.d.row (hc:=pI) HZ0.q.b;have hLn:=HZ0.q.d.1;refine(show Calls _ _ _ _ (jk 79 _ dD ds _) from by have:=Y4 hdd.a hdd.c ds _ (by rw[hrw.len];exact hrw) ah;rw[show ds.length=hdd.n from hrw.len] at this;exact this).mono ?_;rintro en Z1 ⟨ad,cd,rfl,ho1,hb1⟩;have HZ1:=G (HZ0.q.below hb1);have abL:=G (ho1.mono (HZ0.q.b.size));have JR:=G hb1;have ahP:=G hLn;refine hK _ _ ⟨Z,HZ1.q.bx⟩ ?_;clear hK K ho1 hb1 hrw hLn;refine aF rfl rfl (fun K hK=>?_);go_simp;have hrw:=HZ1.q.m.row (hc:=ny) HZ1.q.b;have hLn:=HZ1.q.m.1;refine(show Calls _ _ _ _ (jk 81 _ dx ms _) from by have:=Y5 hmm.a hmm.c ms _ (by rw[hrw.len];exact hrw) ah;rw[show ms.length=hmm.n from hrw.len] at this;exact this).mono ?_;rintro en Z2 ⟨am,cm,rfl,ho2,hb2⟩;have HZ2:=G (HZ1.q.below hb2);have abM:=G (ho2.mono (HZ1.q.b.size));have FH:=G hb2;have ahQ:=G hLn;refine hK _ _ ⟨Z,HZ2.q.bx⟩ ?_;clear hK K ho2 hb2 hrw hLn;refine aF rfl rfl (fun K hK=>?_);go_simp;have hrw:=HZ2.q.q.row (hc:=qE) HZ2.q.b;have hLn:=HZ2.q.q.1;rw[HQS.q] at hrw hLn;refine(show Calls _ _ _ _ (jk 83 _ eu qs _) from by have:=Y6 Rc.a Rc.c qs _ (by rw[hrw.len];exact hrw) ah;rw[show qs.length=Rc.n from hrw.len] at this;exact this).mono ?_;rintro en Z3 ⟨aq,cq,rfl,ho3,hb3⟩;have HZ3:=G (HZ2.q.below hb3);have abN:=G (ho3.mono (HZ2.q.b.size));have Dv:=G hb3;have ahR:=G hLn;refine hK _ _ ⟨Z,HZ3.q.bx⟩ ?_;clear hK K ho3 hb3 hrw hLn;have hbx:=HZ3.q.bx;have hcx:=hbx.1;have hfx:=hbx.2.1;have hlx:=hbx.2.2;refine dN rfl rfl rfl (fun K hK=>?_);go_simp;refine hK _ _ Z ?_;clear hK K;refine qC ?_;refine dN rfl rfl rfl (fun K hK=>?_);go_simp;refine hK _ _ Z ?_;clear hK K;refine qC ?_;refine dN rfl rfl rfl (fun K hK=>?_);go_simp;refine hK _ _ Z ?_;clear hK K;refine qC ?_;refine dN rfl rfl rfl (fun K hK=>?_);go_simp;refine hK _ _ Z ?_;clear hK K;refine bB ?_;have fT:=G (((abK.q.below JR.q rfl).below FH.q rfl).below Dv.q rfl);have HR1:=G ((abL.q.below FH.q rfl).below Dv.q rfl);have HR2:=G (abM.q.below Dv.q rfl);have HR3:=G abN.q;have qJ:=G (((((qJ.q.below (Below.refl _ _).drew rfl).below OO.q rfl).below JR.q rfl).below FH.q rfl).below Dv.q rfl);have qK:=G (((((qK.q.below (Below.refl _ _).drew rfl).below OO.q rfl).below JR.q rfl).below FH.q rfl).below Dv.q rfl);have qL:=G (((((qL.q.below (Below.refl _ _).drew rfl).below OO.q rfl).below JR.q rfl).below FH.q rfl).below Dv.q rfl);have qM:=G (((((qM.q.below (Below.refl _ _).drew rfl).below OO.q rfl).below JR.q rfl).below FH.q rfl).below Dv.q rfl);have ht0:=HZ3.q.ahS ⟨ae,es.length,ce⟩ es ⟨ahO.q,.inr fT.q⟩ HZ3.q.be HZ3.q.se;have fT:=G (fT.q.box HZ3.q aj 4 (Sl.v ⟨ae,es.length,ce⟩));have qJ:=G (qJ.q.box HZ3.q aj 4 (Sl.v ⟨ae,es.length,ce⟩));have HR1:=G (HR1.q.box HZ3.q aj 4 (Sl.v ⟨ae,es.length,ce⟩));have qK:=G (qK.q.box HZ3.q aj 4 (Sl.v ⟨ae,es.length,ce⟩));have HR2:=G (HR2.q.box HZ3.q aj 4 (Sl.v ⟨ae,es.length,ce⟩));have qL:=G (qL.q.box HZ3.q aj 4 (Sl.v ⟨ae,es.length,ce⟩));have HR3:=G (HR3.q.box HZ3.q aj 4 (Sl.v ⟨ae,es.length,ce⟩));have qM:=G (qM.q.box HZ3.q aj 4 (Sl.v ⟨ae,es.length,ce⟩));have ht1:=ht0.ahT ⟨ad,ds.length,cd⟩ ds ⟨ahP.q,.inr HR1.q⟩ ht0.bd ht0.sd;have fT:=G (fT.q.box ht0 aj 5 (Sl.v ⟨ad,ds.length,cd⟩));have qJ:=G (qJ.q.box ht0 aj 5 (Sl.v ⟨ad,ds.length,cd⟩));have HR1:=G (HR1.q.box ht0 aj 5 (Sl.v ⟨ad,ds.length,cd⟩));have qK:=G (qK.q.box ht0 aj 5 (Sl.v ⟨ad,ds.length,cd⟩));have HR2:=G (HR2.q.box ht0 aj 5 (Sl.v ⟨ad,ds.length,cd⟩));have qL:=G (qL.q.box ht0 aj 5 (Sl.v ⟨ad,ds.length,cd⟩));have HR3:=G (HR3.q.box ht0 aj 5 (Sl.v ⟨ad,ds.length,cd⟩));have qM:=G (qM.q.box ht0 aj 5 (Sl.v ⟨ad,ds.length,cd⟩));have ht2:=ht1.ahU ⟨am,ms.length,cm⟩ ms ⟨ahQ.q,.inr HR2.q⟩ ht1.bm ht1.sm;have fT:=G (fT.q.box ht1 aj 6 (Sl.v ⟨am,ms.length,cm⟩));have qJ:=G (qJ.q.box ht1 aj 6 (Sl.v ⟨am,ms.length,cm⟩));have HR1:=G (HR1.q.box ht1 aj 6 (Sl.v ⟨am,ms.length,cm⟩));have qK:=G (qK.q.box ht1 aj 6 (Sl.v ⟨am,ms.length,cm⟩));have HR2:=G (HR2.q.box ht1 aj 6 (Sl.v ⟨am,ms.length,cm⟩));have qL:=G (qL.q.box ht1 aj 6 (Sl.v ⟨am,ms.length,cm⟩));have HR3:=G (HR3.q.box ht1 aj 6 (Sl.v ⟨am,ms.length,cm⟩));have qM:=G (qM.q.box ht1 aj 6 (Sl.v ⟨am,ms.length,cm⟩));have ht3:=ht2.ahV ⟨aq,qs.length,cq⟩ ⟨ahR.q,.inr HR3.q⟩;have fT:=G (fT.q.box ht2 aj 7 (Sl.v ⟨aq,qs.length,cq⟩));have qJ:=G (qJ.q.box ht2 aj 7 (Sl.v ⟨aq,qs.length,cq⟩));have HR1:=G (HR1.q.box ht2 aj 7 (Sl.v ⟨aq,qs.length,cq⟩));have qK:=G (qK.q.box ht2 aj 7 (Sl.v ⟨aq,qs.length,cq⟩));have HR2:=G (HR2.q.box ht2 aj 7 (Sl.v ⟨aq,qs.length,cq⟩));have qL:=G (qL.q.box ht2 aj 7 (Sl.v ⟨aq,qs.length,cq⟩));have HR3:=G (HR3.q.box ht2 aj 7 (Sl.v ⟨aq,qs.length,cq⟩));have qM:=G (qM.q.box ht2 aj 7 (Sl.v ⟨aq,qs.length,cq⟩));have XA:=G (ht3.cast (c':=C) (by have:=HQS.q;subst this;rfl));have HOe:Hid (HO w _ ⟨⟨n0,(C.nl 0).length,d0⟩,⟨n1,(C.nl 1).length,d1⟩,⟨n2,(C.nl 2).length,d2⟩,⟨n3,(C.nl 3).length,d3⟩,⟨ae,es.length,ce⟩,⟨ad,ds.length,cd⟩,⟨am,ms.length,cm⟩,⟨aq,qs.length,cq⟩⟩ es ds ms C 0 0 0):=G ⟨XA.q,fT.q,HR1.q,HR2.q,by rw[HQS.q];exact HR3.q,fun q hq=>(match q,hq with|0,_=>qJ.q|1,_=>qK.q|2,_=>qL.q|3,_=>qM.q),jG.zero,jG.zero,jG.zero,fun _ _ _ _ h=>absurd h (Nat.not_lt_zero _)⟩;clear ht0 ht1 ht2 ht3 hbx hcx hfx hlx HZ0 HZ1 HZ2 HZ3 abK abL abM abN XA fT HR1 HR2 HR3 qJ qK qL qM;have hbx:=HOe.q.st.bx;have hb2:=HOe.q.st.b2;have hcx:=hbx.1;have hfx:=hbx.2.1;have hlx:=hbx.2.2;have hc2:=hb2.1;have hf2:=hb2.2.1;have hl2:=hb2.2.2;go_wp2_with fail;clear hbx hb2 hcx hfx hlx hc2 hf2 hl2
 go_loopw [41] (fun i wr=>∃(k:Nat) (xe:O EvC),k≤es.length∧i= U S k∧HO w wr ⟨⟨n0,(C.nl 0).length,d0⟩,⟨n1,(C.nl 1).length,d1⟩,⟨n2,(C.nl 2).length,d2⟩,⟨n3,(C.nl 3).length,d3⟩,⟨ae,es.length,ce⟩,⟨ad,ds.length,cd⟩,⟨am,ms.length,cm⟩,⟨aq,qs.length,cq⟩⟩ xe ds ms C k 0 0) (fun i _=>es.length - (RowKit.intOf i).toNat)
 case atStart=>exact⟨0,es,Nat.zero_le _,rfl,HOe.q⟩
 case round=>
  obtain⟨k,xe,hk,rfl,hho⟩:=hrel;have hst:=hho.st;have hown:Own wr w.heap.size 65 9 cZ (J ae es.length ce) xe:=hho.oe;by_cases hlt:k<es.length
  ·obtain⟨g,cur,rfl,hbg,hxl,hcap,hBg,hcur⟩:=hown.open_ (hc:=qF) ah
   obtain⟨x,hx⟩:∃x,xe[k]?=H x:=⟨_,List.getElem?_eq_getElem ah⟩;have hsl:k<C.SE.length:=by rw[←hst.se.1];omega
   obtain⟨L,hL⟩:∃L,C.SE[k]?=H L:=⟨_,List.getElem?_eq_getElem hsl⟩;have sV:=hst.se.2 k x L hx hL;have hrow:=sV.row (hc:=kV) hst.b;have hcx:=(hbg.1 (k*9+8)).trans (hcur k x 8 _ hx rfl);have Gq:Hid (∀W,Below wr.heap.size wr W→Calls Tryz.prog 72 #[J x.sa x.sn x.sc] W (jk 148 3 bV L W)):=by
    refine G (fun W hW=>?_);have hr:Row W 3 bV x.sa x.sn x.sc L:=hrow.below hW rfl;rw[show x.sn=L.length from hrow.len.symm] at hr ⊢;exact Y7 x.sa x.sc L W hr (by have:=sV.1;omega)
   have wM:=G hho;have Bg:=G hbg;have HX:=G hx;have HL:=G hL;have xG:=G sV.1;have Gs:=G hcx;have JS:=G (hcur k x 8 _ hx rfl);have hle1:k<2000000:=by have:=hst.e.1;omega
   clear hho hst hown hbg hx hL sV hrow hcx hcur hsl;go_wp2_with fail;refine aK 10 [(0,0),(1,0),(2,0),(3,0),(4,0),(5,0),(6,0),(7,0),(8,0),(9,2),(10,1),(11,1),(12,2)] (fun _=>True) (fun W'=>Bx W' w.heap.size #[(J n0 (C.nl 0).length d0),(J n1 (C.nl 1).length d1),(J n2 (C.nl 2).length d2),(J n3 (C.nl 3).length d3),(J (H ⟨g,0,I⟩) es.length ce),(J ad ds.length cd),(J am ms.length cm),(J aq qs.length cq)]∧W'.cell? ⟨g,k*9+8,I⟩=H (J x.sa x.sn x.sc)) au au (trivial) (⟨wM.q.st.bx,Gs.q⟩) ?_;refine qC ?_;refine aF rfl rfl (fun K hK=>?_);go_simp;refine(Gq.q _ (Below.refl _ _).drew).mono ?_;rintro en Y ⟨a',c',rfl,Gt,CO⟩;have Rf:=G Gt;have rU:=G (show Below wr.heap.size wr Y from(Below.refl _ _).drew.trans CO);refine hK _ _ ⟨Z,wM.q.st.bx.keep rU.q,aM rU.q rfl Gs.q⟩ ?_;clear hK K Gt CO;have sW:=Bg.q.keep rU.q;have Rh:=sW.2.1;have JU:=sW.2.2;have JV:Y.cell? ⟨g,k*9+8,I⟩=H (J x.sa x.sn x.sc):=(sW.1 _).trans JS.q;clear sW;refine qC ?_;refine dN rfl rfl rfl (fun K hK=>?_);go_simp;refine hK _ _ Z ?_;clear hK K;refine bB ?_;have Dw:=G (wM.q.UW rfl HX.q HL.q rU.q ⟨a',L.length,c'⟩ xG.q Rf.q);clear Rh JU JV;go_wp2_with fail;go_roundw
   case rel=>exact⟨k+1,_,by omega,by go_num,Dw.q⟩
   case measure=>simp[RowKit.intOf];omega
  ·obtain rfl:k=es.length:=by omega
   have rG:=G (show xe.length=es.length from by obtain⟨_,_,q,_⟩:=hho.oe.shape;simp only[Sl.v,Value.slice.injEq] at q;exact q.2.1.symm);have U3:=G hho;clear hho hst hown;have hbx:=U3.q.st.bx;have hb2:=U3.q.st.b2;have hcx:=hbx.1;have hfx:=hbx.2.1;have hlx:=hbx.2.2;have hc2:=hb2.1;have hf2:=hb2.2.1;have hl2:=hb2.2.2;go_wp2_with fail;have HOd:=U3;clear hbx hb2 hcx hfx hlx hc2 hf2 hl2
   go_loopw [60] (fun i wr=>∃(k:Nat) (xd:O aH),k≤ds.length∧i= U S k∧HO w wr ⟨⟨n0,(C.nl 0).length,d0⟩,⟨n1,(C.nl 1).length,d1⟩,⟨n2,(C.nl 2).length,d2⟩,⟨n3,(C.nl 3).length,d3⟩,⟨ae,es.length,ce⟩,⟨ad,ds.length,cd⟩,⟨am,ms.length,cm⟩,⟨aq,qs.length,cq⟩⟩ xe xd ms C es.length k 0) (fun i _=>ds.length - (RowKit.intOf i).toNat)
   case atStart=>exact⟨0,ds,Nat.zero_le _,rfl,HOd.q⟩
   case round=>
    obtain⟨k,xd,hk,rfl,hho⟩:=hrel;have hst:=hho.st;have hown:Own wr w.heap.size 79 2 dD (J ad ds.length cd) xd:=hho.od;by_cases hlt:k<ds.length
    ·obtain⟨g,cur,rfl,hbg,hxl,hcap,hBg,hcur⟩:=hown.open_ (hc:=pI) ah
     obtain⟨x,hx⟩:∃x,xd[k]?=H x:=⟨_,List.getElem?_eq_getElem ah⟩;have hsl:k<C.SD.length:=by rw[←hst.sd.1];omega
     obtain⟨L,hL⟩:∃L,C.SD[k]?=H L:=⟨_,List.getElem?_eq_getElem hsl⟩;have sV:=hst.sd.2 k x L hx hL;have hrow:=sV.row (hc:=eG) hst.b;have hcx:=(hbg.1 (k*2+1)).trans (hcur k x 1 _ hx rfl);have Gq:Hid (∀W,Below wr.heap.size wr W→Calls Tryz.prog 76 #[J x.sa x.sn x.sc] W (jk 3 1 aQ L W)):=by
      refine G (fun W hW=>?_);have hr:Row W 1 aQ x.sa x.sn x.sc L:=hrow.below hW rfl;rw[show x.sn=L.length from hrow.len.symm] at hr ⊢;exact JW x.sa x.sc L W hr (by have:=sV.1;omega)
     have wM:=G hho;have Bg:=G hbg;have HX:=G hx;have HL:=G hL;have xG:=G sV.1;have Gs:=G hcx;have JS:=G (hcur k x 1 _ hx rfl);have hle1:k<2000000:=by have:=hst.d.1;omega
     clear hho hst hown hbg hx hL sV hrow hcx hcur hsl;go_wp2_with fail;refine aK 10 [(0,0),(1,0),(2,0),(3,0),(4,0),(5,0),(6,0),(7,0),(8,0),(9,2),(10,1),(11,1),(12,2)] (fun _=>True) (fun W'=>Bx W' w.heap.size #[(J n0 (C.nl 0).length d0),(J n1 (C.nl 1).length d1),(J n2 (C.nl 2).length d2),(J n3 (C.nl 3).length d3),(J ae es.length ce),(J (H ⟨g,0,I⟩) ds.length cd),(J am ms.length cm),(J aq qs.length cq)]∧W'.cell? ⟨g,k*2+1,I⟩=H (J x.sa x.sn x.sc)) au au (trivial) (⟨wM.q.st.bx,Gs.q⟩) ?_;refine qC ?_;refine aF rfl rfl (fun K hK=>?_);go_simp;refine(Gq.q _ (Below.refl _ _).drew).mono ?_;rintro en Y ⟨a',c',rfl,Gt,CO⟩;have Rf:=G Gt;have rU:=G (show Below wr.heap.size wr Y from(Below.refl _ _).drew.trans CO);refine hK _ _ ⟨Z,wM.q.st.bx.keep rU.q,aM rU.q rfl Gs.q⟩ ?_;clear hK K Gt CO;have sW:=Bg.q.keep rU.q;have Rh:=sW.2.1;have JU:=sW.2.2;have JV:Y.cell? ⟨g,k*2+1,I⟩=H (J x.sa x.sn x.sc):=(sW.1 _).trans JS.q;clear sW;refine qC ?_;refine dN rfl rfl rfl (fun K hK=>?_);go_simp;refine hK _ _ Z ?_;clear hK K;refine bB ?_;have Dw:=G (wM.q.UY rfl HX.q HL.q rU.q ⟨a',L.length,c'⟩ xG.q Rf.q);clear Rh JU JV;go_wp2_with fail;go_roundw
     case rel=>exact⟨k+1,_,by omega,by go_num,Dw.q⟩
     case measure=>simp[RowKit.intOf];omega
    ·obtain rfl:k=ds.length:=by omega
     have HLD:=G (show xd.length=ds.length from by obtain⟨_,_,q,_⟩:=hho.od.shape;simp only[Sl.v,Value.slice.injEq] at q;exact q.2.1.symm);have U4:=G hho;clear hho hst hown;have hbx:=U4.q.st.bx;have hb2:=U4.q.st.b2;have hcx:=hbx.1;have hfx:=hbx.2.1;have hlx:=hbx.2.2;have hc2:=hb2.1;have hf2:=hb2.2.1;have hl2:=hb2.2.2;go_wp2_with fail;have HOm:=U4;clear hbx hb2 hcx hfx hlx hc2 hf2 hl2
     go_loopw [79] (fun i wr=>∃(k:Nat) (xm:O aI),k≤ms.length∧i= U S k∧HO w wr ⟨⟨n0,(C.nl 0).length,d0⟩,⟨n1,(C.nl 1).length,d1⟩,⟨n2,(C.nl 2).length,d2⟩,⟨n3,(C.nl 3).length,d3⟩,⟨ae,es.length,ce⟩,⟨ad,ds.length,cd⟩,⟨am,ms.length,cm⟩,⟨aq,qs.length,cq⟩⟩ xe xd xm C es.length ds.length k) (fun i _=>ms.length - (RowKit.intOf i).toNat)
     case atStart=>exact⟨0,ms,Nat.zero_le _,rfl,HOm.q⟩
     case round=>
      obtain⟨k,xm,hk,rfl,hho⟩:=hrel;have hst:=hho.st;have hown:Own wr w.heap.size 81 4 dx (J am ms.length cm) xm:=hho.om;by_cases hlt:k<ms.length
      ·obtain⟨g,cur,rfl,hbg,hxl,hcap,hBg,hcur⟩:=hown.open_ (hc:=ny) ah
       obtain⟨x,hx⟩:∃x,xm[k]?=H x:=⟨_,List.getElem?_eq_getElem ah⟩;have hsl:k<C.SM.length:=by rw[←hst.sm.1];omega
       obtain⟨L,hL⟩:∃L,C.SM[k]?=H L:=⟨_,List.getElem?_eq_getElem hsl⟩;have sV:=hst.sm.2 k x L hx hL;have hrow:=sV.row (hc:=eG) hst.b;have hcx:=(hbg.1 (k*4+3)).trans (hcur k x 3 _ hx rfl);have Gq:Hid (∀W,Below wr.heap.size wr W→Calls Tryz.prog 76 #[J x.sa x.sn x.sc] W (jk 3 1 aQ L W)):=by
        refine G (fun W hW=>?_);have hr:Row W 1 aQ x.sa x.sn x.sc L:=hrow.below hW rfl;rw[show x.sn=L.length from hrow.len.symm] at hr ⊢;exact JW x.sa x.sc L W hr (by have:=sV.1;omega)
       have wM:=G hho;have Bg:=G hbg;have HX:=G hx;have HL:=G hL;have xG:=G sV.1;have Gs:=G hcx;have JS:=G (hcur k x 3 _ hx rfl);have hle1:k<2000000:=by have:=hst.m.1;omega
       clear hho hst hown hbg hx hL sV hrow hcx hcur hsl;go_wp2_with fail;refine aK 10 [(0,0),(1,0),(2,0),(3,0),(4,0),(5,0),(6,0),(7,0),(8,0),(9,2),(10,1),(11,1),(12,2)] (fun _=>True) (fun W'=>Bx W' w.heap.size #[(J n0 (C.nl 0).length d0),(J n1 (C.nl 1).length d1),(J n2 (C.nl 2).length d2),(J n3 (C.nl 3).length d3),(J ae es.length ce),(J ad ds.length cd),(J (H ⟨g,0,I⟩) ms.length cm),(J aq qs.length cq)]∧W'.cell? ⟨g,k*4+3,I⟩=H (J x.sa x.sn x.sc)) au au (trivial) (⟨wM.q.st.bx,Gs.q⟩) ?_;refine qC ?_;refine aF rfl rfl (fun K hK=>?_);go_simp;refine(Gq.q _ (Below.refl _ _).drew).mono ?_;rintro en Y ⟨a',c',rfl,Gt,CO⟩;have Rf:=G Gt;have rU:=G (show Below wr.heap.size wr Y from(Below.refl _ _).drew.trans CO);refine hK _ _ ⟨Z,wM.q.st.bx.keep rU.q,aM rU.q rfl Gs.q⟩ ?_;clear hK K Gt CO;have sW:=Bg.q.keep rU.q;have Rh:=sW.2.1;have JU:=sW.2.2;have JV:Y.cell? ⟨g,k*4+3,I⟩=H (J x.sa x.sn x.sc):=(sW.1 _).trans JS.q;clear sW;refine qC ?_;refine dN rfl rfl rfl (fun K hK=>?_);go_simp;refine hK _ _ Z ?_;clear hK K;refine bB ?_;have Dw:=G (wM.q.UZ rfl HX.q HL.q rU.q ⟨a',L.length,c'⟩ xG.q Rf.q);clear Rh JU JV;go_wp2_with fail;go_roundw
       case rel=>exact⟨k+1,_,by omega,by go_num,Dw.q⟩
       case measure=>simp[RowKit.intOf];omega
      ·obtain rfl:k=ms.length:=by omega
       have HLM:=G (show xm.length=ms.length from by obtain⟨_,_,q,_⟩:=hho.om.shape;simp only[Sl.v,Value.slice.injEq] at q;exact q.2.1.symm);have U5:=G hho;clear hho hst hown;have hbx:=U5.q.st.bx;have hb2:=U5.q.st.b2;have hcx:=hbx.1;have hfx:=hbx.2.1;have hlx:=hbx.2.2;have hc2:=hb2.1;have hf2:=hb2.2.1;have hl2:=hb2.2.2;go_wp2_with fail;have ahW:Hid (∀Y,Same (fun i=>i≠w.heap.size+1) wr Y→Iy w C (.returned (eF ⟨⟨n0,(C.nl 0).length,d0⟩,⟨n1,(C.nl 1).length,d1⟩,⟨n2,(C.nl 2).length,d2⟩,⟨n3,(C.nl 3).length,d3⟩,⟨ae,es.length,ce⟩,⟨ad,ds.length,cd⟩,⟨am,ms.length,cm⟩,⟨aq,qs.length,cq⟩⟩)) Y):=G (fun Y hs=>HO.fin (by rw[rG.q,HLD.q,HLM.q];exact U5.q) hs);refine bodyPost_ret (v:=eF ⟨⟨n0,(C.nl 0).length,d0⟩,⟨n1,(C.nl 1).length,d1⟩,⟨n2,(C.nl 2).length,d2⟩,⟨n3,(C.nl 3).length,d3⟩,⟨ae,es.length,ce⟩,⟨ad,ds.length,cd⟩,⟨am,ms.length,cm⟩,⟨aq,qs.length,cq⟩⟩) (by simp[results,results106,go_sem,hc2]) rfl (ahW.q _ ?_)
       repeat(first|(with_reducible exact Same.refl' _)|(refine Same.setTail ?_ (fun hn=>hn rfl)))
def Ty (X:World) (g:Nat) (T:TypeId):Prop:=∃cs fz,X.heap[g]?=H (.cells cs T fz)
theorem Ty.ne {X:World} {g g':Nat} {T T':TypeId} (h:Ty X g T) (h':Ty X g' T') (hT:T≠T'):g≠g':=by
 rintro rfl;obtain⟨_,_,e1⟩:=h;obtain⟨_,_,e2⟩:=h';rw[e1] at e2
 cases e2
 exact hT rfl
theorem Own.sD {α:Type} {enc:α→O Value} {k:Nat} {X:World} {B:Nat} {T:TypeId} {a:Option Addr} {n c:Nat} {xs:O α} (h:Own X B T k enc (J a n c) xs):
  (a=I∧xs=[])∨∃g,a=H ⟨g,0,I⟩∧n=xs.length∧Ty X g T∧B≤g:=by
 obtain⟨h1,h2⟩:=h;rcases h2 with⟨he,h0⟩|⟨g,cap,cur,he,hB,hh,hn',_,hs,ht⟩
 ·injection he with e1 _ _
  exact .inl ⟨e1,List.eq_nil_of_length_eq_zero h0⟩
 ·injection he with e1 e2 e3
  exact .inr ⟨g,e1,e2,⟨_,_,hh⟩,hB⟩
theorem Own.cells {α:Type} {enc:α→O Value} {k:Nat} [hc:Cells enc k] {X:World} {B:Nat} {T:TypeId} {g n c:Nat} {xs:O α} (h:Own X B T k enc (J (H ⟨g,0,I⟩) n c) xs) {i j:Nat} {x:α} {v:Value} (hx:xs[i]?=H x) (hv:(enc x)[j]?=H v):X.cell? ⟨g,i*k+j,I⟩=H v:=by
 have hi:=(P.1 hx).1;obtain⟨h1,h2⟩:=h;have hn:0<n:=by
  rcases h2 with⟨he,h0⟩|⟨g,cap,cur,he,_⟩
  ·cases he
  ·injection he with _ e2 _
   omega
 obtain⟨g',cur,e,hbg,_,_,_,hcur⟩:=Own.open_ (hc:=hc) (⟨h1,h2⟩:Own X B T k enc (J (H ⟨g,0,I⟩) n c) xs) hn;injection e with e;injection e with e;subst e;exact(hbg.1 _).trans (hcur i x j v hx hv)
structure Lay (X:World) (B:Nat) (h:HC) (es:O EvC) (ds:O aH) (ms:O aI) (qs:O Wa) (scan:EvC→O Sn) (dn:aH→O Int) (mn:aI→O Int):Prop where
 oe:Own X B 65 9 cZ h.e.v es
 od:Own X B 79 2 dD h.d.v ds
 om:Own X B 81 4 dx h.m.v ms
 oq:Own X B 83 2 eu h.w.v qs
 se:∀x∈es,Own X B 148 3 bV x.val (scan x)
 sd:∀x∈ds,Own X B 3 1 aQ x.val (dn x)
 sm:∀x∈ms,Own X B 3 1 aQ x.val (mn x)
 pe:es.Pairwise (fun x y=>∀g,x.val.ownBlock=H g→y.val.ownBlock≠H g)
 pd:ds.Pairwise (fun x y=>∀g,x.val.ownBlock=H g→y.val.ownBlock≠H g)
 pm:ms.Pairwise (fun x y=>∀g,x.val.ownBlock=H g→y.val.ownBlock≠H g)
 px:∀x∈ds,∀y∈ms,∀g,x.val.ownBlock=H g→y.val.ownBlock≠H g
theorem jG.pair {α β:Type} {B:Nat} {X:World} {T:TypeId} {ek:Nat} {enc:β→O Value} {val:α→Value} {xs:O α} {Ls:O (O β)} (h:jG B X T ek enc val xs Ls xs.length):xs.Pairwise (fun x y=>∀g,(val x).ownBlock=H g→(val y).ownBlock≠H g):=by
 rw[List.pairwise_iff_getElem];intro i j hi hj hij g h1;exact h.2 i j xs[i] xs[j] hij hj (List.getElem?_eq_getElem hi) (List.getElem?_eq_getElem hj) g h1
theorem jG.fn {α β:Type} {B:Nat} {X:World} {T:TypeId} {ek:Nat} {enc:β→O Value} [hc:Cells enc ek] (hinj:∀x y,enc x=enc y→x=y) {val:α→Value} {a:α→Option Addr} {n q:α→Nat} (hv:∀x,val x= J (a x) (n x) (q x)) {xs:O α} {Ls:O (O β)} (h:jG B X T ek enc val xs Ls xs.length) (hlen:xs.length=Ls.length)
  (hL:∀L∈Ls,L.length≤140737488355328):∃f:α→O β,(∀x∈xs,Own X B T ek enc (val x) (f x))∧xs.map f=Ls:=by
 have key:∀i x,xs[i]?=H x→∃L,Ls[i]?=H L∧Own X B T ek enc (val x) L∧Classical.epsilon (fun L=>Row X ek enc (a x) (n x) (q x) L)=L:=fun i x hx=>by
  have hi:=(P.1 hx).1;obtain⟨L,hL'⟩:∃L,Ls[i]?=H L:=⟨_,List.getElem?_eq_getElem ah⟩;have ho:=h.1 i x L hi hx hL';have ho2:=ho;rw[hv x] at ho2;exact⟨L,hL',ho,yR (hc:=hc) hinj (ho2.row (hc:=hc) (hL L (List.mem_of_getElem? hL')))⟩
 refine⟨fun x=>Classical.epsilon (fun L=>Row X ek enc (a x) (n x) (q x) L),fun x hx=>?_,?_⟩
 ·obtain⟨i,hi⟩:=List.mem_iff_getElem?.1 hx
  obtain⟨L,_,ho,e⟩:=key i x hi;show Own X B T ek enc (val x) (Classical.epsilon fun L=>Row X ek enc (a x) (n x) (q x) L);rw[e];exact ho
 ·apply List.ext_getElem?
  intro i;rw[List.getElem?_map]
  cases hx:xs[i]? with
  |none=>rw[Option.map_none,List.getElem?_eq_none (by rw[←hlen];exact List.getElem?_eq_none_iff.1 hx)]
  |some x=>
   obtain⟨L,hL',_,e⟩:=key i x hx;rw[Option.map_some,hL'];exact congrArg H e
section
variable {X Y:World} {B:Nat} {h:HC} {es:O EvC} {ds:O aH} {ms:O aI} {qs:O Wa} {scan:EvC→O Sn} {dn:aH→O Int} {mn:aI→O Int}
theorem Lay.same (l:Lay X B h es ds ms qs scan dn mn) (hs:Same (fun i=>B≤i) X Y):Lay Y B h es ds ms qs scan dn mn:=
 ⟨l.oe.same hs (fun g hg=>(l.oe.lt g hg).1),l.od.same hs (fun g hg=>(l.od.lt g hg).1),l.om.same hs (fun g hg=>(l.om.lt g hg).1),l.oq.same hs (fun g hg=>(l.oq.lt g hg).1),fun x hx=>(l.se x hx).same hs (fun g hg=>((l.se x hx).lt g hg).1),fun x hx=>(l.sd x hx).same hs (fun g hg=>((l.sd x hx).lt g hg).1),fun x hx=>(l.sm x hx).same hs (fun g hg=>((l.sm x hx).lt g hg).1),l.pe,l.pd,l.pm,l.px⟩
theorem JX {p:Addr} {v:lg} (h:mg X p=v.t):(iJ p v).map (iw X)=lu v:=by
 unfold iJ lu iw
 split
 ·simp only[List.map_cons,List.map_nil,h]
 ·rfl
theorem pJ {a:Option Addr} {n c:Nat} {l:O Sn} (ho:Own X B 148 3 bV (J a n c) l):((nP a 0 l).map Prod.snd).Nodup∧(∀p∈nP a 0 l,Ty X p.2.block 148∧(Value.slice a n c).ownBlock=H p.2.block)∧(nP a 0 l).map (iw X)=l.flatMap (fun s=>(2,s.obj)::lu s.v):=by
 rcases ho.sD with⟨rfl,rfl⟩|⟨g,rfl,hn,ht,hB⟩
 ·exact⟨List.nodup_nil,fun p hp=>(by cases hp),rfl⟩
 ·refine⟨ru (b:=g) (k:=3) (blk:=fun _=>I) l 0 (fun j x hx=>?_) (fun x hx=>⟨List.nodup_nil,fun p hp=>(by cases hp)⟩) (List.Pairwise.imp (fun _ _ h=>(by cases h)) (List.pairwise_of_forall (R:=fun _ _=>True) (fun _ _=>Z))),fun p hp=>?_,?_⟩
  ·rw[N];exact Jz j x
  ·obtain⟨j,x,hx,hp⟩:=(dH l 0 p).1 hp
   rcases hp with hp|hp
   ·have:=((Jz (b:=g) (0+j) x).2 p hp).1
    rw[this];exact⟨ht,rfl⟩
   ·cases hp
  ·refine wH (iw X) _ l 0 (fun j x hx=>?_)
   have h0:=ho.cells (hc:=kV) hx (j:=0) rfl;have h1:=ho.cells (hc:=kV) hx (j:=1) rfl;rw[List.map_nil,List.append_nil,N];have e0:mg X ⟨g,0+j*3,I⟩=x.obj:=by rw[N];exact jl h0
   have e1:mg X ⟨g,0+(j*3+1),I⟩=x.v.t:=by rw[N];exact jl h1
   show iw X (2,(⟨g,0+j*3,I⟩:Addr))::(iJ ⟨g,0+(j*3+1),I⟩ x.v).map (iw X)=_;rw[JX e1];unfold iw;simp only[e0]
theorem Bh {α β:Type} (f:α→β):∀l:O α,l.flatMap (fun x=>[f x])=l.map f
 |[]=>rfl
 |x::l=>by rw[List.flatMap_cons,Bh f l];rfl
theorem jo {a:Option Addr} {n c:Nat} {l:O Int} (ho:Own X B 3 1 aQ (J a n c) l):((kK a 0 l).map Prod.snd).Nodup∧(∀p∈kK a 0 l,Ty X p.2.block 3∧(Value.slice a n c).ownBlock=H p.2.block)∧(kK a 0 l).map (iw X)=l.map (fun d=>(0,d)):=by
 rcases ho.sD with⟨rfl,rfl⟩|⟨g,rfl,hn,ht,hB⟩
 ·exact⟨List.nodup_nil,fun p hp=>(by cases hp),rfl⟩
 ·refine⟨ru (b:=g) (k:=1) (blk:=fun _=>I) l 0 (fun j x hx=>?_) (fun x hx=>⟨List.nodup_nil,fun p hp=>(by cases hp)⟩) (List.Pairwise.imp (fun _ _ h=>(by cases h)) (List.pairwise_of_forall (R:=fun _ _=>True) (fun _ _=>Z))),fun p hp=>?_,?_⟩
  ·rw[N];exact QS j x
  ·obtain⟨j,x,hx,hp⟩:=(dH l 0 p).1 hp
   rcases hp with hp|hp
   ·have:=((QS (b:=g) (0+j) x).2 p hp).1
    rw[this];exact⟨ht,rfl⟩
   ·cases hp
  ·rw[show l.map (fun d=>((0:Int),d))=l.flatMap (fun d=>[(0,d)]) from(Bh _ l).symm]
   refine wH (iw X) _ l 0 (fun j x hx=>?_);have h0:=ho.cells (hc:=eG) hx (j:=0) rfl;rw[List.map_nil,List.append_nil,N];have e0:mg X ⟨g,0+j,I⟩=x:=by rw[N];exact jl (by simpa using h0)
   show [iw X (0,(⟨g,0+j,I⟩:Addr))]=_;unfold iw;simp only[e0]
end
def Ints (X:World) (l:O (Int × Addr)):Prop:=∀p∈l,∃n,X.cell? p.2=H (U S n)
section
variable {X Y:World} {B:Nat} {h:HC} {es:O EvC} {ds:O aH} {ms:O aI} {qs:O Wa} {scan:EvC→O Sn} {dn:aH→O Int} {mn:aI→O Int}
theorem JY {g q:Nat} {v:lg} (hc:X.cell? ⟨g,q,I⟩=H (U S v.t)):Ints X (iJ ⟨g,q,I⟩ v):=fun p hp=>by
 rw[(nA.1 hp).1];exact⟨_,hc⟩
theorem Y8 {a:Option Addr} {n c:Nat} {l:O Sn} (ho:Own X B 148 3 bV (J a n c) l):Ints X (nP a 0 l):=by
 rcases ho.sD with⟨rfl,rfl⟩|⟨g,rfl,hn,ht,hB⟩
 ·exact fun p hp=>by cases hp
 ·intro p hp
  obtain⟨j,x,hx,hp⟩:=(dH l 0 p).1 hp;rcases hp with hp|hp
  ·rw[N] at hp
   have h0:=ho.cells (hc:=kV) hx (j:=0) rfl;have h1:=ho.cells (hc:=kV) hx (j:=1) rfl;rcases List.mem_cons.1 hp with rfl|hp
   ·exact⟨x.obj,by show X.cell? ⟨g,0+j*3,I⟩=_;rw[N];exact h0⟩
   ·exact JY (v:=x.v) (by rw[N];exact h1) p hp
  ·cases hp
theorem MU {a:Option Addr} {n c:Nat} {l:O Int} (ho:Own X B 3 1 aQ (J a n c) l):Ints X (kK a 0 l):=by
 rcases ho.sD with⟨rfl,rfl⟩|⟨g,rfl,hn,ht,hB⟩
 ·exact fun p hp=>by cases hp
 ·intro p hp
  obtain⟨j,x,hx,hp⟩:=(dH l 0 p).1 hp;rcases hp with hp|hp
  ·rw[N] at hp
   have h0:=ho.cells (hc:=eG) hx (j:=0) rfl;rw[List.mem_singleton.1 hp];exact⟨x,by show X.cell? ⟨g,0+j,I⟩=_;rw[N];simpa using h0⟩
  ·cases hp
theorem xP (l:Lay X B h es ds ms qs scan dn mn):((l9 h.e.a scan 0 es).map Prod.snd).Nodup∧
  (∀p∈l9 h.e.a scan 0 es,Ty X p.2.block 65∨(Ty X p.2.block 148∧∃e∈es,p∈nP e.sa 0 (scan e)))∧(l9 h.e.a scan 0 es).map (iw X)=es.flatMap (fun e=>mD e (scan e))∧Ints X (l9 h.e.a scan 0 es):=by
 have ho:Own X B 65 9 cZ (J h.e.a h.e.n h.e.c) es:=l.oe;rcases ho.sD with⟨ha,rfl⟩|⟨g,ha,hn,ht,hB⟩
 ·exact⟨List.nodup_nil,fun p hp=>(by cases hp),rfl,fun p hp=>(by cases hp)⟩
 ·rw[ha] at ho ⊢
  have hc:∀{j x},es[j]?=H x→∀{q v},(cZ x)[q]?=H v→X.cell? ⟨g,j*9+q,I⟩=H v:=fun hx _ _ hv=>ho.cells (hc:=qF) hx hv
  refine⟨ru (b:=g) (k:=9) (blk:=fun e=>e.val.ownBlock) es 0 (fun j x hx=>by rw[N];exact JA j x) (fun x hx=>⟨(pJ (l.se x hx)).1,fun p hp=>⟨((pJ (l.se x hx)).2.1 p hp).2,((pJ (l.se x hx)).2.1 p hp).1.ne ht aj⟩⟩) l.pe,fun p hp=>?_,?_,fun p hp=>?_⟩
  ·obtain⟨j,x,hx,hp⟩:=(dH es 0 p).1 hp
   rcases hp with hp|hp
   ·rw[N] at hp
    have:=((JA (b:=g) j x).2 p hp).1;rw[this];exact .inl ht
   ·have hm:=List.mem_of_getElem? hx
    exact .inr ⟨((pJ (l.se x hm)).2.1 p hp).1,x,hm,hp⟩
  ·refine wH (iw X) _ es 0 (fun j x hx=>?_)
   rw[N];have hs:=(pJ (l.se x (List.mem_of_getElem? hx))).2.2;rw[show(nP x.sa 0 (scan x)).map (iw X)=_ from hs];have e1:mg X ⟨g,0+(j*9+1),I⟩=x.t:=by rw[N];exact jl (hc hx rfl)
   have e2:mg X ⟨g,0+(j*9+2),I⟩=x.bU:=by rw[N];exact jl (hc hx rfl)
   have e4:mg X ⟨g,0+(j*9+4),I⟩=x.obj:=by rw[N];exact jl (hc hx rfl)
   have e5:mg X ⟨g,0+(j*9+5),I⟩=x.v.t:=by rw[N];exact jl (hc hx rfl)
   have e7:mg X ⟨g,0+(j*9+7),I⟩=x.pred:=by rw[N];exact jl (hc hx rfl)
   unfold mD qo
   congr 1
   rw[List.map_cons]
   congr 1
   ·unfold iw;simp only[e1]
   ·by_cases k1:x.kind=1
    ·rw[if_pos k1,if_pos k1];unfold iw;simp only[List.map_cons,List.map_nil,e2]
    ·rw[if_neg k1,if_neg k1]
     by_cases k2:x.kind=2∨x.kind=3
     ·rw[if_pos k2,if_pos k2,List.map_cons,JX e5];unfold iw;simp only[e4]
     ·rw[if_neg k2,if_neg k2]
      by_cases k4:x.kind=4
      ·rw[if_pos k4,if_pos k4];unfold iw;simp only[List.map_cons,List.map_nil,e7]
      ·rw[if_neg k4,if_neg k4];rfl
  ·obtain⟨j,x,hx,hp⟩:=(dH es 0 p).1 hp
   rcases hp with hp|hp
   ·rw[N] at hp
    unfold qo at hp;rcases List.mem_cons.1 hp with rfl|hp
    ·exact⟨x.t,by show X.cell? ⟨g,0+(j*9+1),I⟩=_;rw[N];exact hc hx rfl⟩
    ·split at hp
     ·rw[List.mem_singleton.1 hp]
      exact⟨x.bU,by show X.cell? ⟨g,0+(j*9+2),I⟩=_;rw[N];exact hc hx rfl⟩
     ·split at hp
      ·rcases List.mem_cons.1 hp with rfl|hp
       ·exact⟨x.obj,by show X.cell? ⟨g,0+(j*9+4),I⟩=_;rw[N];exact hc hx rfl⟩
       ·exact JY (v:=x.v) (by rw[N];exact hc hx rfl) p hp
      ·split at hp
       ·rw[List.mem_singleton.1 hp]
        exact⟨x.pred,by show X.cell? ⟨g,0+(j*9+7),I⟩=_;rw[N];exact hc hx rfl⟩
       ·cases hp
   ·exact Y8 (l.se x (List.mem_of_getElem? hx)) p hp
theorem xQ (l:Lay X B h es ds ms qs scan dn mn):((oO h.d.a dn 0 ds).map Prod.snd).Nodup∧
  (∀p∈oO h.d.a dn 0 ds,Ty X p.2.block 79∨(Ty X p.2.block 3∧∃e∈ds,e.val.ownBlock=H p.2.block∧p∈kK e.sa 0 (dn e)))∧(oO h.d.a dn 0 ds).map (iw X)=ds.flatMap (fun x=>wN x (dn x))∧Ints X (oO h.d.a dn 0 ds):=by
 have ho:Own X B 79 2 dD (J h.d.a h.d.n h.d.c) ds:=l.od;rcases ho.sD with⟨ha,rfl⟩|⟨g,ha,hn,ht,hB⟩
 ·exact⟨List.nodup_nil,fun p hp=>(by cases hp),rfl,fun p hp=>(by cases hp)⟩
 ·rw[ha] at ho ⊢
  refine⟨ru (b:=g) (k:=2) (blk:=fun e=>e.val.ownBlock) ds 0 (fun j x hx=>by rw[N];exact QT j x) (fun x hx=>⟨(jo (l.sd x hx)).1,fun p hp=>⟨((jo (l.sd x hx)).2.1 p hp).2,((jo (l.sd x hx)).2.1 p hp).1.ne ht aj⟩⟩) l.pd,fun p hp=>?_,?_,fun p hp=>?_⟩
  ·obtain⟨j,x,hx,hp⟩:=(dH ds 0 p).1 hp
   rcases hp with hp|hp
   ·rw[N] at hp
    have:=((QT (b:=g) j x).2 p hp).1;rw[this];exact .inl ht
   ·have hm:=List.mem_of_getElem? hx
    exact .inr ⟨((jo (l.sd x hm)).2.1 p hp).1,x,hm,((jo (l.sd x hm)).2.1 p hp).2,hp⟩
  ·refine wH (iw X) _ ds 0 (fun j x hx=>?_)
   rw[N];have hs:=(jo (l.sd x (List.mem_of_getElem? hx))).2.2;rw[show(kK x.sa 0 (dn x)).map (iw X)=_ from hs];have e0:mg X ⟨g,0+j*2,I⟩=x.obj:=by rw[N];exact jl (ho.cells (hc:=pI) hx (j:=0) rfl)
   unfold MK wN iw;simp only[List.map_cons,List.map_nil,e0,List.cons_append,List.nil_append]
  ·obtain⟨j,x,hx,hp⟩:=(dH ds 0 p).1 hp
   rcases hp with hp|hp
   ·rw[N] at hp
    rw[List.mem_singleton.1 hp];exact⟨x.obj,by show X.cell? ⟨g,0+j*2,I⟩=_;rw[N];exact ho.cells (hc:=pI) hx (j:=0) rfl⟩
   ·exact MU (l.sd x (List.mem_of_getElem? hx)) p hp
theorem xR (l:Lay X B h es ds ms qs scan dn mn):((oQ h.m.a mn 0 ms).map Prod.snd).Nodup∧
  (∀p∈oQ h.m.a mn 0 ms,Ty X p.2.block 81∨(Ty X p.2.block 3∧∃e∈ms,e.val.ownBlock=H p.2.block∧p∈kK e.sa 0 (mn e)))∧(oQ h.m.a mn 0 ms).map (iw X)=ms.flatMap (fun x=>vB x (mn x))∧Ints X (oQ h.m.a mn 0 ms):=by
 have ho:Own X B 81 4 dx (J h.m.a h.m.n h.m.c) ms:=l.om;rcases ho.sD with⟨ha,rfl⟩|⟨g,ha,hn,ht,hB⟩
 ·exact⟨List.nodup_nil,fun p hp=>(by cases hp),rfl,fun p hp=>(by cases hp)⟩
 ·rw[ha] at ho ⊢
  refine⟨ru (b:=g) (k:=4) (blk:=fun e=>e.val.ownBlock) ms 0 (fun j x hx=>by rw[N];exact QU j x) (fun x hx=>⟨(jo (l.sm x hx)).1,fun p hp=>⟨((jo (l.sm x hx)).2.1 p hp).2,((jo (l.sm x hx)).2.1 p hp).1.ne ht aj⟩⟩) l.pm,fun p hp=>?_,?_,fun p hp=>?_⟩
  ·obtain⟨j,x,hx,hp⟩:=(dH ms 0 p).1 hp
   rcases hp with hp|hp
   ·rw[N] at hp
    have:=((QU (b:=g) j x).2 p hp).1;rw[this];exact .inl ht
   ·have hm:=List.mem_of_getElem? hx
    exact .inr ⟨((jo (l.sm x hm)).2.1 p hp).1,x,hm,((jo (l.sm x hm)).2.1 p hp).2,hp⟩
  ·refine wH (iw X) _ ms 0 (fun j x hx=>?_)
   rw[N];have hs:=(jo (l.sm x (List.mem_of_getElem? hx))).2.2;rw[show(kK x.sa 0 (mn x)).map (iw X)=_ from hs];have e0:mg X ⟨g,0+j*4,I⟩=x.pred:=by rw[N];exact jl (ho.cells (hc:=ny) hx (j:=0) rfl)
   have e1:mg X ⟨g,0+(j*4+1),I⟩=x.obj:=by rw[N];exact jl (ho.cells (hc:=ny) hx (j:=1) rfl)
   unfold Jv vB iw;simp only[List.map_cons,List.map_nil,e0,e1,List.cons_append,List.nil_append]
  ·obtain⟨j,x,hx,hp⟩:=(dH ms 0 p).1 hp
   rcases hp with hp|hp
   ·rw[N] at hp
    rcases List.mem_cons.1 hp with rfl|hp
    ·exact⟨x.pred,by show X.cell? ⟨g,0+j*4,I⟩=_;rw[N];exact ho.cells (hc:=ny) hx (j:=0) rfl⟩
    ·rw[List.mem_singleton.1 hp]
     exact⟨x.obj,by show X.cell? ⟨g,0+(j*4+1),I⟩=_;rw[N];exact ho.cells (hc:=ny) hx (j:=1) rfl⟩
   ·exact MU (l.sm x (List.mem_of_getElem? hx)) p hp
theorem xS (l:Lay X B h es ds ms qs scan dn mn):((sN h.w.a 0 qs).map Prod.snd).Nodup∧
  (∀p∈sN h.w.a 0 qs,Ty X p.2.block 83)∧(sN h.w.a 0 qs).map (iw X)=qs.flatMap uK∧Ints X (sN h.w.a 0 qs):=by
 have ho:Own X B 83 2 eu (J h.w.a h.w.n h.w.c) qs:=l.oq;rcases ho.sD with⟨ha,rfl⟩|⟨g,ha,hn,ht,hB⟩
 ·exact⟨List.nodup_nil,fun p hp=>(by cases hp),rfl,fun p hp=>(by cases hp)⟩
 ·rw[ha] at ho ⊢
  refine⟨ru (b:=g) (k:=2) (blk:=fun _=>I) qs 0 (fun j x hx=>by rw[N];exact QV j x) (fun x hx=>⟨List.nodup_nil,fun p hp=>(by cases hp)⟩) (List.Pairwise.imp (fun _ _ h=>(by cases h)) (List.pairwise_of_forall (R:=fun _ _=>True) (fun _ _=>Z))),fun p hp=>?_,?_,fun p hp=>?_⟩
  ·obtain⟨j,x,hx,hp⟩:=(dH qs 0 p).1 hp
   rcases hp with hp|hp
   ·rw[N] at hp
    have:=((QV (b:=g) j x).2 p hp).1;rw[this];exact ht
   ·cases hp
  ·refine wH (iw X) _ qs 0 (fun j x hx=>?_)
   rw[N];have e0:mg X ⟨g,0+j*2,I⟩=x.bU:=by rw[N];exact jl (ho.cells (hc:=qE) hx (j:=0) rfl)
   unfold ML uK iw;simp only[List.map_cons,List.map_nil,e0,List.append_nil]
  ·obtain⟨j,x,hx,hp⟩:=(dH qs 0 p).1 hp
   rcases hp with hp|hp
   ·rw[N] at hp
    rw[List.mem_singleton.1 hp];exact⟨x.bU,by show X.cell? ⟨g,0+j*2,I⟩=_;rw[N];exact ho.cells (hc:=qE) hx (j:=0) rfl⟩
   ·cases hp
theorem Ty.no {g:Nat} {T T':TypeId} (h:Ty X g T) (h':Ty X g T') (hT:T≠T'):False:=h.ne h' hT rfl
theorem Lay.nodup (l:Lay X B h es ds ms qs scan dn mn):((aJ h es ds ms qs scan dn mn).map Prod.snd).Nodup:=by
 obtain⟨e1,e2,_⟩:=xP l;obtain⟨d1,d2,_⟩:=xQ l;obtain⟨m1,m2,_⟩:=xR l;obtain⟨q1,q2,_⟩:=xS l;unfold aJ;rw[List.map_append,List.map_append,List.map_append];refine List.nodup_append.2 ⟨e1,List.nodup_append.2 ⟨d1,List.nodup_append.2 ⟨m1,q1,?_⟩,?_⟩,?_⟩
 ·intro p hp q hq e
  obtain⟨p',hp',rfl⟩:=List.mem_map.1 hp;obtain⟨q',hq',rfl⟩:=List.mem_map.1 hq;have t2:=q2 q' hq';rw[←e] at t2;rcases m2 p' hp' with t1|⟨t1,_⟩
  ·exact t1.no t2 aj
  ·exact t1.no t2 aj
 ·intro p hp q hq e
  obtain⟨p',hp',rfl⟩:=List.mem_map.1 hp;rcases List.mem_append.1 hq with hq|hq
  ·obtain⟨q',hq',rfl⟩:=List.mem_map.1 hq
   have t1:=d2 p' hp';have t2:=m2 q' hq';rw[←e] at t2;rcases t1 with t1|⟨t1,x,hx,hbx,_⟩
   ·rcases t2 with t2|⟨t2,_⟩
    ·exact t1.no t2 aj
    ·exact t1.no t2 aj
   ·rcases t2 with t2|⟨t2,y,hy,hby,_⟩
    ·exact t1.no t2 aj
    ·exact l.px x hx y hy _ hbx hby
  ·obtain⟨q',hq',rfl⟩:=List.mem_map.1 hq
   have t2:=q2 q' hq';rw[←e] at t2;rcases d2 p' hp' with t1|⟨t1,_⟩
   ·exact t1.no t2 aj
   ·exact t1.no t2 aj
 ·intro p hp q hq e
  obtain⟨p',hp',rfl⟩:=List.mem_map.1 hp;have t1:=e2 p' hp';rcases List.mem_append.1 hq with hq|hq
  ·obtain⟨q',hq',rfl⟩:=List.mem_map.1 hq
   have t2:=d2 q' hq';rw[←e] at t2;rcases t1 with t1|⟨t1,_⟩ <;> rcases t2 with t2|⟨t2,_⟩ <;> exact t1.no t2 aj
  ·rcases List.mem_append.1 hq with hq|hq
   ·obtain⟨q',hq',rfl⟩:=List.mem_map.1 hq
    have t2:=m2 q' hq';rw[←e] at t2;rcases t1 with t1|⟨t1,_⟩ <;> rcases t2 with t2|⟨t2,_⟩ <;> exact t1.no t2 aj
   ·obtain⟨q',hq',rfl⟩:=List.mem_map.1 hq
    have t2:=q2 q' hq';rw[←e] at t2;rcases t1 with t1|⟨t1,_⟩ <;> exact t1.no t2 aj
theorem Lay.vals (l:Lay X B h es ds ms qs scan dn mn):(aJ h es ds ms qs scan dn mn).map (iw X)=yY es ds ms qs scan dn mn:=by
 unfold aJ yY;rw[List.map_append,List.map_append,List.map_append,(xP l).2.2.1,(xQ l).2.2.1,(xR l).2.2.1,(xS l).2.2.1];simp only[List.append_assoc]
theorem Lay.ints (l:Lay X B h es ds ms qs scan dn mn):Ints X (aJ h es ds ms qs scan dn mn):=fun p hp=>by
 unfold aJ at hp;rcases List.mem_append.1 hp with hp|hp
 ·exact(xP l).2.2.2 p hp
 ·rcases List.mem_append.1 hp with hp|hp
  ·exact(xQ l).2.2.2 p hp
  ·rcases List.mem_append.1 hp with hp|hp
   ·exact(xR l).2.2.2 p hp
   ·exact(xS l).2.2.2 p hp
end
theorem MV {α:Type} {val:α→Value} {xs:O α} (h:xs.Pairwise (fun x y=>∀g,(val x).ownBlock=H g→(val y).ownBlock≠H g)) {x y:α} (hx:x∈xs) (hy:y∈xs) {g:Nat} (h1:(val x).ownBlock=H g) (h2:(val y).ownBlock=H g):x=y:=by
 rw[List.pairwise_iff_getElem] at h;obtain⟨i,hi,rfl⟩:=List.mem_iff_getElem.1 hx;obtain⟨j,hj,rfl⟩:=List.mem_iff_getElem.1 hy;rcases Nat.lt_trichotomy i j with q|q|q
 ·exact absurd h2 (h i j hi hj q g h1)
 ·subst q;rfl
 ·exact absurd h1 (h j i hj hi q g h2)
theorem Ri {g q i:Nat} {s:Int} {e:EvC} (h:(s,(⟨g,q,I⟩:Addr))∈qo (H ⟨g,0,I⟩) i e):
  (q=i*9+1∧s=0)∨(q=i*9+2∧s=1∧e.kind=1)∨(q=i*9+4∧s=2∧(e.kind=2∨e.kind=3))∨(q=i*9+5∧s=0∧(e.kind=2∨e.kind=3)∧0<e.v.k)∨(q=i*9+7∧s=3∧e.kind=4):=by
 have ad:∀{u:Int} {r:Nat},((s,(⟨g,q,I⟩:Addr)):Int × Addr)=(u,(⟨g,0+r,I⟩:Addr))→q=r∧s=u:=fun e=>by
  injection e with e1 e2;injection e2 with _ e2 _;exact⟨by omega,e1⟩
 unfold qo at h;rcases List.mem_cons.1 h with h|h
 ·have:=ad h;exact .inl this
 ·by_cases k1:e.kind=1
  ·rw[if_pos k1] at h
   have:=ad (List.mem_singleton.1 h);exact .inr (.inl ⟨this.1,this.2,k1⟩)
  ·rw[if_neg k1] at h
   by_cases k2:e.kind=2∨e.kind=3
   ·rw[if_pos k2] at h
    rcases List.mem_cons.1 h with h|h
    ·have:=ad h
     exact .inr (.inr (.inl ⟨this.1,this.2,k2⟩))
    ·obtain⟨h1,h2⟩:=nA.1 h
     have:=ad h1;exact .inr (.inr (.inr (.inl ⟨this.1,this.2,k2,h2⟩)))
   ·rw[if_neg k2] at h
    by_cases k4:e.kind=4
    ·rw[if_pos k4] at h
     have:=ad (List.mem_singleton.1 h);exact .inr (.inr (.inr (.inr ⟨this.1,this.2,k4⟩)))
    ·rw[if_neg k4] at h;cases h
theorem ae9 (g i:Nat) (e:EvC):((0:Int),(⟨g,i*9+1,I⟩:Addr))∈qo (H ⟨g,0,I⟩) i e:=by
 unfold qo;rw[show(⟨g,i*9+1,I⟩:Addr)=kC (H ⟨g,0,I⟩) (i*9+1) from by simp[kC]];exact List.mem_cons_self
theorem ae' (g i:Nat) {e:EvC} (k:e.kind=1):((1:Int),(⟨g,i*9+2,I⟩:Addr))∈qo (H ⟨g,0,I⟩) i e:=by
 unfold qo;rw[if_pos k,show(⟨g,i*9+2,I⟩:Addr)=kC (H ⟨g,0,I⟩) (i*9+2) from by simp[kC]];exact List.mem_cons_of_mem _ (List.mem_singleton.2 rfl)
theorem afa (g i:Nat) {e:EvC} (k:e.kind=2∨e.kind=3):((2:Int),(⟨g,i*9+4,I⟩:Addr))∈qo (H ⟨g,0,I⟩) i e:=by
 unfold qo;rw[if_neg ah,if_pos k,show(⟨g,i*9+4,I⟩:Addr)=kC (H ⟨g,0,I⟩) (i*9+4) from by simp[kC]];exact List.mem_cons_of_mem _ List.mem_cons_self
theorem afb (g i:Nat) {e:EvC} (k:e.kind=2∨e.kind=3) (hk:0<e.v.k):((0:Int),(⟨g,i*9+5,I⟩:Addr))∈qo (H ⟨g,0,I⟩) i e:=by
 unfold qo;rw[if_neg ah,if_pos k,show(⟨g,i*9+5,I⟩:Addr)=kC (H ⟨g,0,I⟩) (i*9+5) from by simp[kC]];exact List.mem_cons_of_mem _ (List.mem_cons_of_mem _ (nA.2 ⟨rfl,hk⟩))
theorem afc (g i:Nat) {e:EvC} (k:e.kind=4):((3:Int),(⟨g,i*9+7,I⟩:Addr))∈qo (H ⟨g,0,I⟩) i e:=by
 unfold qo;rw[if_neg ah,if_neg ah,if_pos k,show(⟨g,i*9+7,I⟩:Addr)=kC (H ⟨g,0,I⟩) (i*9+7) from by simp[kC]];exact List.mem_cons_of_mem _ (List.mem_singleton.2 rfl)
def Ca (e:EvC):Prop:=(e.kind≠1→e.bU=0)∧(¬(e.kind=2∨e.kind=3)→e.obj=0∧e.v=⟨0,0⟩)∧(e.kind≠4→e.pred=0)
def XE (F:Int→O Int) (e:EvC):EvC:={fI F e with sa:=e.sa,sn:=e.sn,sc:=e.sc}
def XF (F:Int→O Int) (x:aH):aH:={x with obj:=fG (F 2) x.obj}
def XG (F:Int→O Int) (x:aI):aI:={x with pred:=fG (F 3) x.pred,obj:=fG (F 2) x.obj}
def waR (F:Int→O Int) (x:Wa):Wa:={x with bU:=fG (F 1) x.bU}
section
variable {X Y:World} {B:Nat} {h:HC} {es:O EvC} {ds:O aH} {ms:O aI} {qs:O Wa} {scan:EvC→O Sn} {dn:aH→O Int} {mn:aI→O Int}
theorem XH {p:Int × Addr} (h1:p∈l9 h.e.a scan 0 es):p∈aJ h es ds ms qs scan dn mn:=List.mem_append_left _ h1
theorem XI {p:Int × Addr} (h1:p∈oO h.d.a dn 0 ds):p∈aJ h es ds ms qs scan dn mn:=List.mem_append_right _ (List.mem_append_left _ h1)
theorem OP {p:Int × Addr} (h1:p∈oQ h.m.a mn 0 ms):p∈aJ h es ds ms qs scan dn mn:=List.mem_append_right _ (List.mem_append_right _ (List.mem_append_left _ h1))
theorem afd {p:Int × Addr} (h1:p∈sN h.w.a 0 qs):p∈aJ h es ds ms qs scan dn mn:=List.mem_append_right _ (List.mem_append_right _ (List.mem_append_right _ h1))
theorem Lay.which (l:Lay X B h es ds ms qs scan dn mn) {p:Int × Addr} (hp:p∈aJ h es ds ms qs scan dn mn):
  (Ty X p.2.block 65∧∃i e,es[i]?=H e∧p∈qo h.e.a i e)∨(Ty X p.2.block 148∧∃e∈es,e.val.ownBlock=H p.2.block∧p∈nP e.sa 0 (scan e))∨
  (Ty X p.2.block 79∧∃i x,ds[i]?=H x∧p∈MK h.d.a i x)∨(Ty X p.2.block 81∧∃i x,ms[i]?=H x∧p∈Jv h.m.a i x)∨(Ty X p.2.block 83∧∃i x,qs[i]?=H x∧p∈ML h.w.a i x)∨
  (Ty X p.2.block 3∧((∃x∈ds,x.val.ownBlock=H p.2.block∧p∈kK x.sa 0 (dn x))∨(∃x∈ms,x.val.ownBlock=H p.2.block∧p∈kK x.sa 0 (mn x)))):=by
 unfold aJ at hp;rcases List.mem_append.1 hp with hp|hp
 ·have ht:=(xP l).2.1 p hp
  obtain⟨j,x,hx,hp'⟩:=(dH es 0 p).1 hp;rcases hp' with hp'|hp'
  ·rw[N] at hp'
   rcases ht with ht|⟨ht,y,hy,hpy⟩
   ·exact .inl ⟨ht,j,x,hx,hp'⟩
   ·exact .inr (.inl ⟨ht,y,hy,((pJ (l.se y hy)).2.1 p hpy).2,hpy⟩)
  ·have hm:=List.mem_of_getElem? hx
   exact .inr (.inl ⟨((pJ (l.se x hm)).2.1 p hp').1,x,hm,((pJ (l.se x hm)).2.1 p hp').2,hp'⟩)
 ·rcases List.mem_append.1 hp with hp|hp
  ·have ht:=(xQ l).2.1 p hp
   obtain⟨j,x,hx,hp'⟩:=(dH ds 0 p).1 hp;rcases ht with ht|⟨ht,y,hy,hb,hpy⟩
   ·rcases hp' with hp'|hp'
    ·rw[N] at hp'
     exact .inr (.inr (.inl ⟨ht,j,x,hx,hp'⟩))
    ·exact(ht.no ((jo (l.sd x (List.mem_of_getElem? hx))).2.1 p hp').1 aj).elim
   ·exact .inr (.inr (.inr (.inr (.inr ⟨ht,.inl ⟨y,hy,hb,hpy⟩⟩))))
  ·rcases List.mem_append.1 hp with hp|hp
   ·have ht:=(xR l).2.1 p hp
    obtain⟨j,x,hx,hp'⟩:=(dH ms 0 p).1 hp;rcases ht with ht|⟨ht,y,hy,hb,hpy⟩
    ·rcases hp' with hp'|hp'
     ·rw[N] at hp'
      exact .inr (.inr (.inr (.inl ⟨ht,j,x,hx,hp'⟩)))
     ·exact(ht.no ((jo (l.sm x (List.mem_of_getElem? hx))).2.1 p hp').1 aj).elim
    ·exact .inr (.inr (.inr (.inr (.inr ⟨ht,.inr ⟨y,hy,hb,hpy⟩⟩))))
   ·have ht:=(xS l).2.1 p hp
    obtain⟨j,x,hx,hp'⟩:=(dH qs 0 p).1 hp;rcases hp' with hp'|hp'
    ·rw[N] at hp'
     exact .inr (.inr (.inr (.inr (.inl ⟨ht,j,x,hx,hp'⟩))))
    ·cases hp'
theorem Lay.XJ (l:Lay X B h es ds ms qs scan dn mn) {g i j:Nat} {s:Int} (ha:h.e.a=H ⟨g,0,I⟩) (hj:j<9) (hp:(s,(⟨g,i*9+j,I⟩:Addr))∈aJ h es ds ms qs scan dn mn):
  ∃e,es[i]?=H e∧((j=1∧s=0)∨(j=2∧s=1∧e.kind=1)∨(j=4∧s=2∧(e.kind=2∨e.kind=3))∨(j=5∧s=0∧(e.kind=2∨e.kind=3)∧0<e.v.k)∨(j=7∧s=3∧e.kind=4)):=by
 have hg:Ty X g 65:=l.oe.tag (by show(Value.slice h.e.a h.e.n h.e.c).ownBlock=H g;rw[ha];rfl);rcases l.which hp with⟨_,i',e,he,hh⟩|⟨t,_⟩|⟨t,_⟩|⟨t,_⟩|⟨t,_⟩|⟨t,_⟩
 ·rw[ha] at hh
  have hc:=Ri hh;obtain rfl:i'=i:=by rcases hc with c|c|c|c|c <;> (have:=c.1;omega)
  refine⟨e,he,?_⟩;rcases hc with c|c|c|c|c
  ·exact .inl ⟨by omega,c.2⟩
  ·exact .inr (.inl ⟨by omega,c.2⟩)
  ·exact .inr (.inr (.inl ⟨by omega,c.2⟩))
  ·exact .inr (.inr (.inr (.inl ⟨by omega,c.2⟩)))
  ·exact .inr (.inr (.inr (.inr ⟨by omega,c.2⟩)))
 all_goals exact(hg.no t aj).elim
theorem Lay.abP (l:Lay X B h es ds ms qs scan dn mn) {F:Int→O Int} (hM:Moved X Y F (aJ h es ds ms qs scan dn mn)) (hb:∀e∈es,Ca e):Own Y B 65 9 cZ h.e.v (es.map (XE F)):=by
 refine l.oe.moved (hc:=qF) hM (by rw[List.length_map]) (fun g hg i x y j u hx hy hu=>?_);have ho:Own X B 65 9 cZ (J h.e.a h.e.n h.e.c) es:=l.oe;have ha:h.e.a=H ⟨g,0,I⟩:=by
  rcases ho.sD with⟨ha,_⟩|⟨g',ha,_⟩
  ·rw[show h.e.v= J h.e.a h.e.n h.e.c from rfl,ha] at hg;cases hg
  ·rw[show h.e.v= J h.e.a h.e.n h.e.c from rfl,ha] at hg;injection hg with hg;rw[ha];subst hg;rfl
 rw[List.getElem?_map,hx] at hy;injection hy with hy;subst hy;have hm:=List.mem_of_getElem? hx;obtain⟨b1,b2,b3⟩:=hb x hm;have hno:∀{j:Nat},j<9→(∀s,¬((j=1∧s=(0:Int))∨(j=2∧s=1∧x.kind=1)∨(j=4∧s=2∧(x.kind=2∨x.kind=3))∨(j=5∧s=0∧(x.kind=2∨x.kind=3)∧0<x.v.k)∨(j=7∧s=3∧x.kind=4)))→∀s,(s,(⟨g,i*9+j,I⟩:Addr))∉aJ h es ds ms qs scan dn mn:=fun hj hn s hp=>by
  obtain⟨e,he,hc⟩:=l.XJ ha hj hp;rw[hx] at he;injection he with he;subst he;exact hn s hc
 have zN:∀{p:Int × Addr},p∈qo (H ⟨g,0,I⟩) i x→p∈aJ h es ds ms qs scan dn mn:=fun hp=>XH ((dH es 0 _).2 ⟨i,x,hx,.inl (by rw[ha,N];exact hp)⟩)
 have hj9:j<9:=by have:=(P.1 hu).1;simpa[cZ] using this
 have hj:j=0∨j=1∨j=2∨j=3∨j=4∨j=5∨j=6∨j=7∨j=8:=by omega
 rcases hj with rfl|rfl|rfl|rfl|rfl|rfl|rfl|rfl|rfl
 ·exact .inl ⟨hu,hno ah (fun s hc=>by omega)⟩
 ·refine .inr ⟨0,x.t,zN (ae9 g i x),?_,rfl⟩
  injection hu with hu;exact hu.symm
 ·by_cases k:x.kind=1
  ·refine .inr ⟨1,x.bU,zN (ae' g i k),?_,?_⟩
   ·injection hu with hu;exact hu.symm
   ·show H (Value.int S (if x.kind=1 then fG (F 1) x.bU else 0))=_
    rw[if_pos k]
  ·refine .inl ⟨?_,hno ah (fun s hc=>by omega)⟩
   rw[←hu];show H (Value.int S (if x.kind=1 then fG (F 1) x.bU else 0))=H (Value.int S x.bU);rw[if_neg k,b1 k]
 ·exact .inl ⟨hu,hno ah (fun s hc=>by omega)⟩
 ·by_cases k:x.kind=2∨x.kind=3
  ·refine .inr ⟨2,x.obj,zN (afa g i k),?_,?_⟩
   ·injection hu with hu;exact hu.symm
   ·show H (Value.int S (if x.kind=2∨x.kind=3 then fG (F 2) x.obj else 0))=_
    rw[if_pos k]
  ·refine .inl ⟨?_,hno ah (fun s hc=>by omega)⟩
   rw[←hu];show H (Value.int S (if x.kind=2∨x.kind=3 then fG (F 2) x.obj else 0))=H (Value.int S x.obj);rw[if_neg k,(b2 k).1]
 ·by_cases k:x.kind=2∨x.kind=3
  ·by_cases hk:0<x.v.k
   ·refine .inr ⟨0,x.v.t,zN (afb g i k hk),?_,?_⟩
    ·injection hu with hu;exact hu.symm
    ·show H (Value.int S (if x.kind=2∨x.kind=3 then lF F x.v else⟨0,0⟩).t)=_
     unfold lF;rw[if_pos k,if_pos hk]
   ·refine .inl ⟨?_,hno ah (fun s hc=>by omega)⟩
    rw[←hu];show H (Value.int S (if x.kind=2∨x.kind=3 then lF F x.v else⟨0,0⟩).t)=H (Value.int S x.v.t);unfold lF;rw[if_pos k,if_neg hk]
  ·refine .inl ⟨?_,hno ah (fun s hc=>by omega)⟩
   rw[←hu];show H (Value.int S (if x.kind=2∨x.kind=3 then lF F x.v else⟨0,0⟩).t)=H (Value.int S x.v.t);rw[if_neg k,(b2 k).2]
 ·refine .inl ⟨?_,hno ah (fun s hc=>by omega)⟩
  rw[←hu];show H (Value.int S (if x.kind=2∨x.kind=3 then lF F x.v else⟨0,0⟩).k)=H (Value.int S x.v.k);by_cases k:x.kind=2∨x.kind=3
  ·rw[if_pos k]
   unfold lF
   split <;> rfl
  ·rw[if_neg k,(b2 k).2]
 ·by_cases k:x.kind=4
  ·refine .inr ⟨3,x.pred,zN (afc g i k),?_,?_⟩
   ·injection hu with hu;exact hu.symm
   ·show H (Value.int S (if x.kind=4 then fG (F 3) x.pred else 0))=_
    rw[if_pos k]
  ·refine .inl ⟨?_,hno ah (fun s hc=>by omega)⟩
   rw[←hu];show H (Value.int S (if x.kind=4 then fG (F 3) x.pred else 0))=H (Value.int S x.pred);rw[if_neg k,b3 k]
 ·exact .inl ⟨hu,hno ah (fun s hc=>by omega)⟩
end
theorem Bj {α:Type} {enc:α→O Value} {k:Nat} {X:World} {B:Nat} {T:TypeId} {a:Option Addr} {n c:Nat} {xs:O α} (ho:Own X B T k enc (J a n c) xs) {g:Nat} (hg:(Value.slice a n c).ownBlock=H g):a=H ⟨g,0,I⟩:=by
 rcases ho.sD with⟨ha,_⟩|⟨g',ha,_⟩
 ·rw[ha] at hg;cases hg
 ·rw[ha] at hg ⊢;injection hg with hg;subst hg;rfl
theorem nY {g q:Nat} {s u:Int} {r:Nat} (e:((s,(⟨g,q,I⟩:Addr)):Int × Addr)=(u,(⟨g,0+r,I⟩:Addr))):q=r∧s=u:=by
 injection e with e1 e2;injection e2 with _ e2 _;exact⟨by omega,e1⟩
section
variable {X Y:World} {B:Nat} {h:HC} {es:O EvC} {ds:O aH} {ms:O aI} {qs:O Wa} {scan:EvC→O Sn} {dn:aH→O Int} {mn:aI→O Int} {F:Int→O Int}
theorem Lay.abQ (l:Lay X B h es ds ms qs scan dn mn) (hM:Moved X Y F (aJ h es ds ms qs scan dn mn)):Own Y B 79 2 dD h.d.v (ds.map (XF F)):=by
 refine l.od.moved (hc:=pI) hM (by rw[List.length_map]) (fun g hg i x y j u hx hy hu=>?_);have ha:=Bj (show Own X B 79 2 dD (J h.d.a h.d.n h.d.c) ds from l.od) hg;have ht:Ty X g 79:=l.od.tag hg;rw[List.getElem?_map,hx] at hy;injection hy with hy;subst hy;have hj2:j<2:=by have:=(P.1 hu).1;simpa[dD] using this
 rcases(by omega:j=0∨j=1) with rfl|rfl
 ·refine .inr ⟨2,x.obj,XI ((dH ds 0 _).2 ⟨i,x,hx,.inl ?_⟩),?_,rfl⟩
  ·rw[ha,N];simp[MK,kC]
  ·injection hu with hu;exact hu.symm
 ·refine .inl ⟨hu,fun s hp=>?_⟩
  rcases l.which hp with⟨t,_⟩|⟨t,_⟩|⟨_,i',e,he,hh⟩|⟨t,_⟩|⟨t,_⟩|⟨t,_⟩
  ·exact ht.no t aj
  ·exact ht.no t aj
  ·rw[ha] at hh
   have:=nY (List.mem_singleton.1 hh);omega
  ·exact ht.no t aj
  ·exact ht.no t aj
  ·exact ht.no t aj
theorem Lay.abR (l:Lay X B h es ds ms qs scan dn mn) (hM:Moved X Y F (aJ h es ds ms qs scan dn mn)):Own Y B 81 4 dx h.m.v (ms.map (XG F)):=by
 refine l.om.moved (hc:=ny) hM (by rw[List.length_map]) (fun g hg i x y j u hx hy hu=>?_);have ha:=Bj (show Own X B 81 4 dx (J h.m.a h.m.n h.m.c) ms from l.om) hg;have ht:Ty X g 81:=l.om.tag hg;rw[List.getElem?_map,hx] at hy;injection hy with hy;subst hy;have Rj:j<4:=by have:=(P.1 hu).1;simpa[dx] using this
 have hno:∀{j},j<4→2≤j→∀s,(s,(⟨g,i*4+j,I⟩:Addr))∉aJ h es ds ms qs scan dn mn:=fun hj h2 s hp=>by
  rcases l.which hp with⟨t,_⟩|⟨t,_⟩|⟨t,_⟩|⟨_,i',e,he,hh⟩|⟨t,_⟩|⟨t,_⟩
  ·exact ht.no t aj
  ·exact ht.no t aj
  ·exact ht.no t aj
  ·rw[ha] at hh
   rcases List.mem_cons.1 hh with hh|hh
   ·have:=nY hh;omega
   ·have:=nY (List.mem_singleton.1 hh);omega
  ·exact ht.no t aj
  ·exact ht.no t aj
 rcases(by omega:j=0∨j=1∨j=2∨j=3) with rfl|rfl|rfl|rfl
 ·refine .inr ⟨3,x.pred,OP ((dH ms 0 _).2 ⟨i,x,hx,.inl ?_⟩),?_,rfl⟩
  ·rw[ha,N];simp[Jv,kC]
  ·injection hu with hu;exact hu.symm
 ·refine .inr ⟨2,x.obj,OP ((dH ms 0 _).2 ⟨i,x,hx,.inl ?_⟩),?_,rfl⟩
  ·rw[ha,N];simp[Jv,kC]
  ·injection hu with hu;exact hu.symm
 ·exact .inl ⟨hu,hno ah ah⟩
 ·exact .inl ⟨hu,hno ah ah⟩
theorem Lay.abS (l:Lay X B h es ds ms qs scan dn mn) (hM:Moved X Y F (aJ h es ds ms qs scan dn mn)):Own Y B 83 2 eu h.w.v (qs.map (waR F)):=by
 refine l.oq.moved (hc:=qE) hM (by rw[List.length_map]) (fun g hg i x y j u hx hy hu=>?_);have ha:=Bj (show Own X B 83 2 eu (J h.w.a h.w.n h.w.c) qs from l.oq) hg;have ht:Ty X g 83:=l.oq.tag hg;rw[List.getElem?_map,hx] at hy;injection hy with hy;subst hy;have hj2:j<2:=by have:=(P.1 hu).1;simpa[eu] using this
 rcases(by omega:j=0∨j=1) with rfl|rfl
 ·refine .inr ⟨1,x.bU,afd ((dH qs 0 _).2 ⟨i,x,hx,.inl ?_⟩),?_,rfl⟩
  ·rw[ha,N];simp[ML,kC]
  ·injection hu with hu;exact hu.symm
 ·refine .inl ⟨hu,fun s hp=>?_⟩
  rcases l.which hp with⟨t,_⟩|⟨t,_⟩|⟨t,_⟩|⟨t,_⟩|⟨_,i',e,he,hh⟩|⟨t,_⟩
  ·exact ht.no t aj
  ·exact ht.no t aj
  ·exact ht.no t aj
  ·exact ht.no t aj
  ·rw[ha] at hh
   have:=nY (List.mem_singleton.1 hh);omega
  ·exact ht.no t aj
theorem Lay.abT (l:Lay X B h es ds ms qs scan dn mn) (hM:Moved X Y F (aJ h es ds ms qs scan dn mn)) {e:EvC} (he:e∈es):Own Y B 148 3 bV e.val ((scan e).map (JZ F)):=by
 refine(l.se e he).moved (hc:=kV) hM (by rw[List.length_map]) (fun g hg i x y j u hx hy hu=>?_);have ha:=Bj (show Own X B 148 3 bV (J e.sa e.sn e.sc) (scan e) from l.se e he) hg;have ht:Ty X g 148:=(l.se e he).tag hg;rw[List.getElem?_map,hx] at hy;injection hy with hy;subst hy;have hj3:j<3:=by have:=(P.1 hu).1;simpa[bV] using this
 have hin:∀{p},p∈Ju (H ⟨g,0,I⟩) i x→p∈aJ h es ds ms qs scan dn mn:=fun hp=>by
  obtain⟨q,hq⟩:=List.mem_iff_getElem?.1 he;refine XH ((dH es 0 _).2 ⟨q,e,hq,.inr ?_⟩);rw[ha];exact(dH (scan e) 0 _).2 ⟨i,x,hx,.inl (by rw[N];exact hp)⟩
 have hno:∀{j s},j<3→(s,(⟨g,i*3+j,I⟩:Addr))∈aJ h es ds ms qs scan dn mn→(s,(⟨g,i*3+j,I⟩:Addr))∈Ju (H ⟨g,0,I⟩) i x:=fun {j s} hj hp=>by
  rcases l.which hp with⟨t,_⟩|⟨_,e',he',hb',hh⟩|⟨t,_⟩|⟨t,_⟩|⟨t,_⟩|⟨t,_⟩
  ·exact(ht.no t aj).elim
  ·obtain rfl:=MV (val:=EvC.val) l.pe he he' hg hb'
   rw[ha] at hh;obtain⟨q,z,hz,hh⟩:=(dH (scan e) 0 _).1 hh;rcases hh with hh|hh
   ·rw[N] at hh
    have:=((Jz (b:=g) q z).2 _ hh).2;simp only at this;obtain rfl:q=i:=by omega
    rw[hx] at hz;injection hz with hz;subst hz;exact hh
   ·cases hh
  ·exact(ht.no t aj).elim
  ·exact(ht.no t aj).elim
  ·exact(ht.no t aj).elim
  ·exact(ht.no t aj).elim
 rcases(by omega:j=0∨j=1∨j=2) with rfl|rfl|rfl
 ·refine .inr ⟨2,x.obj,hin (by simp[Ju,kC]),?_,rfl⟩
  injection hu with hu;exact hu.symm
 ·by_cases hk:0<x.v.k
  ·refine .inr ⟨0,x.v.t,hin (List.mem_cons_of_mem _ (nA.2 ⟨by simp[kC],hk⟩)),?_,?_⟩
   ·injection hu with hu;exact hu.symm
   ·show H (Value.int S (lF F x.v).t)=_
    unfold lF;rw[if_pos hk]
  ·refine .inl ⟨?_,fun s hp=>?_⟩
   ·rw[←hu]
    show H (Value.int S (lF F x.v).t)=H (Value.int S x.v.t);unfold lF;rw[if_neg hk]
   ·rcases List.mem_cons.1 (hno ah hp) with hh|hh
    ·have:=nY hh;omega
    ·exact hk (nA.1 hh).2
 ·refine .inl ⟨?_,fun s hp=>?_⟩
  ·rw[←hu]
   show H (Value.int S (lF F x.v).k)=H (Value.int S x.v.k);unfold lF
   split <;> rfl
  ·rcases List.mem_cons.1 (hno ah hp) with hh|hh
   ·have:=nY hh;omega
   ·have:=nY (nA.1 hh).1;omega
theorem Lay.Rk (l:Lay X B h es ds ms qs scan dn mn) (hM:Moved X Y F (aJ h es ds ms qs scan dn mn)) {a:Option Addr} {n c:Nat} {L:O Int} (ho:Own X B 3 1 aQ (J a n c) L) (hin:∀p∈kK a 0 L,p∈aJ h es ds ms qs scan dn mn):Own Y B 3 1 aQ (J a n c) (L.map (fG (F 0))):=by
 refine ho.moved (hc:=eG) hM (by rw[List.length_map]) (fun g hg i x y j u hx hy hu=>?_);have ha:=Bj ho hg;rw[List.getElem?_map,hx] at hy;injection hy with hy;subst hy;have hj1:j<1:=by have:=(P.1 hu).1;simpa[aQ] using this
 obtain rfl:j=0:=by omega
 refine .inr ⟨0,x,hin _ ?_,?_,rfl⟩
 ·rw[ha]
  exact(dH L 0 _).2 ⟨i,x,hx,.inl (by simp[Xv,kC])⟩
 ·injection hu with hu;exact hu.symm
theorem Lay.abU (l:Lay X B h es ds ms qs scan dn mn) (hM:Moved X Y F (aJ h es ds ms qs scan dn mn)) {x:aH} (hx:x∈ds):Own Y B 3 1 aQ x.val ((dn x).map (fG (F 0))):=
 l.Rk hM (l.sd x hx) (fun p hp=>(let⟨q,hq⟩:=List.mem_iff_getElem?.1 hx;XI ((dH ds 0 _).2 ⟨q,x,hq,.inr hp⟩)))
theorem Lay.abV (l:Lay X B h es ds ms qs scan dn mn) (hM:Moved X Y F (aJ h es ds ms qs scan dn mn)) {x:aI} (hx:x∈ms):Own Y B 3 1 aQ x.val ((mn x).map (fG (F 0))):=
 l.Rk hM (l.sm x hx) (fun p hp=>(let⟨q,hq⟩:=List.mem_iff_getElem?.1 hx;OP ((dH ms 0 _).2 ⟨q,x,hq,.inr hp⟩)))
theorem Lay.afe (l:Lay X B h es ds ms qs scan dn mn) {b o k j:Nat} (ha:h.e.a=H ⟨b,o,I⟩) (hj:j=0∨j=6∨j=8) (s:Int):(s,(⟨b,o+k*9+j,I⟩:Addr))∉aJ h es ds ms qs scan dn mn:=fun hp=>by
 rcases(show Own X B 65 9 cZ (J h.e.a h.e.n h.e.c) es from l.oe).sD with⟨q,_⟩|⟨g,q,_⟩
 ·rw[ha] at q;cases q
 ·rw[ha] at q
  injection q with q;injection q with q1 q2;subst q1 q2;rw[N] at hp;obtain⟨e,_,hc⟩:=l.XJ ha ah hp;omega
theorem Lay.aff (l:Lay X B h es ds ms qs scan dn mn) {b o k:Nat} (ha:h.d.a=H ⟨b,o,I⟩) (s:Int):(s,(⟨b,o+k*2+1,I⟩:Addr))∉aJ h es ds ms qs scan dn mn:=fun hp=>by
 have ho:Own X B 79 2 dD (J h.d.a h.d.n h.d.c) ds:=l.od;rcases ho.sD with⟨q,_⟩|⟨g,q,_⟩
 ·rw[ha] at q;cases q
 ·rw[ha] at q
  injection q with q;injection q with q1 q2;subst q1 q2;have ht:Ty X b 79:=l.od.tag (by show(Value.slice h.d.a h.d.n h.d.c).ownBlock=H b;rw[ha];rfl);rcases l.which hp with⟨t,_⟩|⟨t,_⟩|⟨_,i',e,he,hh⟩|⟨t,_⟩|⟨t,_⟩|⟨t,_⟩
  ·exact ht.no t aj
  ·exact ht.no t aj
  ·rw[ha] at hh
   have:=nY (List.mem_singleton.1 hh);omega
  ·exact ht.no t aj
  ·exact ht.no t aj
  ·exact ht.no t aj
theorem Lay.afg (l:Lay X B h es ds ms qs scan dn mn) {b o k:Nat} (ha:h.m.a=H ⟨b,o,I⟩) (s:Int):(s,(⟨b,o+k*4+3,I⟩:Addr))∉aJ h es ds ms qs scan dn mn:=fun hp=>by
 have ho:Own X B 81 4 dx (J h.m.a h.m.n h.m.c) ms:=l.om;rcases ho.sD with⟨q,_⟩|⟨g,q,_⟩
 ·rw[ha] at q;cases q
 ·rw[ha] at q
  injection q with q;injection q with q1 q2;subst q1 q2;have ht:Ty X b 81:=l.om.tag (by show(Value.slice h.m.a h.m.n h.m.c).ownBlock=H b;rw[ha];rfl);rcases l.which hp with⟨t,_⟩|⟨t,_⟩|⟨t,_⟩|⟨_,i',e,he,hh⟩|⟨t,_⟩|⟨t,_⟩
  ·exact ht.no t aj
  ·exact ht.no t aj
  ·exact ht.no t aj
  ·rw[ha] at hh
   rcases List.mem_cons.1 hh with hh|hh
   ·have:=nY hh;omega
   ·have:=nY (List.mem_singleton.1 hh);omega
  ·exact ht.no t aj
  ·exact ht.no t aj
theorem Lay.fQ (l:Lay X B h es ds ms qs scan dn mn) {e:EvC} (he:e∈es) {b o k:Nat} (ha:e.sa=H ⟨b,o,I⟩) (s:Int):(s,(⟨b,o+k*3+2,I⟩:Addr))∉aJ h es ds ms qs scan dn mn:=fun hp=>by
 have ho:Own X B 148 3 bV (J e.sa e.sn e.sc) (scan e):=l.se e he;rcases ho.sD with⟨q,_⟩|⟨g,q,_⟩
 ·rw[ha] at q;cases q
 ·rw[ha] at q
  injection q with q;injection q with q1 q2;subst q1 q2;have hg:e.val.ownBlock=H b:=by show(Value.slice e.sa e.sn e.sc).ownBlock=H b;rw[ha];rfl
  have ht:Ty X b 148:=(l.se e he).tag hg;rcases l.which hp with⟨t,_⟩|⟨_,e',he',hb',hh⟩|⟨t,_⟩|⟨t,_⟩|⟨t,_⟩|⟨t,_⟩
  ·exact ht.no t aj
  ·obtain rfl:=MV (val:=EvC.val) l.pe he he' hg hb'
   rw[ha] at hh;obtain⟨q,z,hz,hh⟩:=(dH (scan e) 0 _).1 hh;rcases hh with hh|hh
   ·rw[N] at hh
    rcases List.mem_cons.1 hh with hh|hh
    ·have:=nY hh;omega
    ·have:=nY (nA.1 hh).1;omega
   ·cases hh
  ·exact ht.no t aj
  ·exact ht.no t aj
  ·exact ht.no t aj
  ·exact ht.no t aj
end
end Yd
