import Derived.Test.YtnhnhmeogckgpaaGreatDoorTSpD
import Derived.Test.YtnhnhmeogckgpaaGreatDoorTNum
import Derived.RangeFuncBound
import Derived.IntWalk
import Derived.Test.YtnhnhmeogckgpaaGreatDoorTLineC
import Derived.Laws.BytesArg
import Derived.Lib.Join
import Derived.Laws.RangeAny
import Derived.WalkSmall
set_option linter.all false
set_option maxRecDepth 200000
set_option maxHeartbeats 8000000
namespace Yd
open Go Go.RowKit Go.Proofs Tryz
def nE (w:World) (ps:List (Int × Addr)) (xs:List (Int × Int)):Prop:=ps.map (iw w)=xs∧∀p∈ps,∃b o n,p.2=⟨b,o,none⟩∧w.cell? p.2=some (.int .i64 n)
section
variable {w:World} {ps qs:List (Int × Addr)} {xs ys:List (Int × Int)} {a:Option Addr} {n c:Nat}
theorem nE.nil:nE w [] []:=⟨rfl,fun p hp=>by cases hp⟩
theorem nE.cons {s:Int} {b o:Nat} {n:Int} (hc:w.cell? ⟨b,o,none⟩=some (.int .i64 n)) (h:nE w ps xs):nE w ((s,⟨b,o,none⟩)::ps) ((s,n)::xs):=
 ⟨by rw[List.map_cons,h.1];show(s,mg w _)::xs=_;rw[jl hc],fun p hp=>by
  rcases List.mem_cons.1 hp with rfl|hp
  ·exact⟨b,o,n,rfl,hc⟩
  ·exact h.2 p hp⟩
theorem nE.app (h:nE w ps xs) (k:nE w qs ys):nE w (ps++qs) (xs++ys):=⟨by rw[List.map_append,h.1,k.1],fun p hp=>(List.mem_append.1 hp).elim (h.2 p) (k.2 p)⟩
theorem nE.gr {α:Type} {hd:Nat→α→List (Int × Addr)} {sub:α→List (Int × Addr)} (g:α→List (Int × Int)):∀(l:List α) (i:Nat),(∀j x,l[j]?=some x→nE w (hd (i+j) x++sub x) (g x))→nE w (Yd.gr hd sub i l) (l.flatMap g)
 |[],_,_=>nE.nil
 |x::l,i,h=>by
  show nE w (hd i x++(sub x++Yd.gr hd sub (i+1) l)) _;rw[←List.append_assoc,List.flatMap_cons];exact(h 0 x rfl).app (nE.gr g l (i+1) fun j y hy=>by rw[show i+1+j=i+(j+1) by omega];exact h (j+1) y hy)
theorem nE.bG {b o:Nat} {v:lg} (hc:w.cell? ⟨b,o,none⟩=some (.int .i64 v.t)):nE w (iJ ⟨b,o,none⟩ v) (lu v):=by
 unfold iJ lu;by_cases h:0<v.k
 ·rw[if_pos h,if_pos h];exact nE.cons hc nE.nil
 ·rw[if_neg h,if_neg h];exact nE.nil
end
attribute [local go_sem] Oper.semAt_some
theorem Ru (p:Addr) (w:World):Calls Tryz.prog 57 #[.pointer (some p)] w fun e w'=>
  e= .returned (.func (.func 137) #[] #[.pointer (some ⟨w.heap.size,0,none⟩)])∧w'=w.alloc (.cells #[.pointer (some p)] 113):=by
 go_enter func57,ntmps57;go_wp2_with fail;go_ret;exact⟨rfl,rfl⟩
theorem Kb:∀args w,(callFunc 137 args).run Tryz.prog w= .ok (.enter 137 args) w:=enters_of func137 au rfl
theorem Bx.putObj {X:World} {b:Nat} {cs:Array Value} (h:Bx X b cs) {l:Nat} (o:Obj) (hl:b≠l):Bx (X.putObj l o) b cs:=(Same.putObj (A:=fun i=>i≠l) X o ak).bx h hl
theorem Deep.below {w w':World} {h:HC} {es:List EvC} {ds:List aH} {ms:List aI} {qs:List Wa} {scan:EvC→List Sn} {dn:aH→List Int} {mn:aI→List Int} (hd:Deep w h es ds ms qs scan dn mn) {B:Nat}
  (hb:Below B w w') (hB:B=w.heap.size):Deep w' h es ds ms qs scan dn mn:=
 ⟨hd.1.below hb hB,hd.2.1.below hb hB,hd.2.2.1.below hb hB,hd.2.2.2.1.below hb hB,fun x hx=>(hd.2.2.2.2.1 x hx).below hb hB,fun x hx=>(hd.2.2.2.2.2.1 x hx).below hb hB,fun x hx=>(hd.2.2.2.2.2.2 x hx).below hb hB⟩
theorem max2 (a b:Int) (w:World):(Builtin.max_ #[3,3] 3 #[.int .i64 a,.int .i64 b]).run Tryz.prog w= .ok (.int .i64 (if b>a then b else a)) w:=by
 simp[Builtin.max_,Builtin.max2]
end Yd
namespace Yd
open Bool renaming false→O
open Option renaming some→H,none→N
open Go Go.RowKit Go.Proofs Tryz
open Below renaming refl→V
open Go renaming World→G,Value→Z
open Go.Value renaming string→J
open Tryz renaming prog→S
open Utf8 renaming decode→U
open _root_ renaming Nat→C,List→F,Int→I
structure aB where
 kind:I
 names:F Bs
 lvl:I
 aA:F To
 first:Bool
 bits:I
 deriving DecidableEq
def fq (w:G) (B:C) (l:aV) (s:aB):Prop:=
 (l.kind=s.kind∧l.lvl=s.lvl∧l.first=s.first∧l.bits=s.bits∧l.nn=s.names.length∧l.vn=s.aA.length)∧
 Own w B 9 1 encStr (.slice l.na l.nn l.nc) s.names∧Own w B 76 2 j3 (.slice l.va l.vn l.vc) s.aA
theorem fq.below {w w':G} {B:C} {l:aV} {s:aB} (h:fq w B l s) (hb:Below w.heap.size w w'):fq w' B l s:=⟨h.1,h.2.1.below hb rfl,h.2.2.below hb rfl⟩
theorem fq.mono {w:G} {B B':C} {l:aV} {s:aB} (h:fq w B l s) (hB:B'≤B):fq w B' l s:=⟨h.1,h.2.1.mono hB,h.2.2.mono hB⟩
theorem Bx.new1 {X:G} {b:C} {cs:Array Z} {T:TypeId} (h:X.heap.size=b):Bx (X.alloc (.cells cs T)) b cs:=h▸Bx.new X cs T
theorem Row.str1 (w:G) (s:Bs):Row (w.alloc (.cells #[J ⟨s.toArray⟩] 9)) 1 encStr (H ⟨w.heap.size,0,N⟩) 1 1 [s]:=
 (Own.new (hc:=iM) w w.heap.size 9 #[J ⟨s.toArray⟩] [s] (Nat.le_refl _) rfl (by simp[maxLen])).row ak
theorem Row.adZ {X:G} {g:C} (h:X.heap.size=g) (s:Bs):Row (X.alloc (.cells #[J ⟨s.toArray⟩] 9)) 1 encStr (H ⟨g,0,N⟩) 1 1 [s]:=h▸Row.str1 X s
theorem Row.drew {α:Type} {w:G} {k:C} {enc:α→F Z} {a:Option Addr} {n c:C} {xs:F α} (h:Row w k enc a n c xs):Row w.drew k enc a n c xs:=h
theorem EI {X:G} {p:Addr} {v:Z} (o:Obj) (h:X.cell? p=H v):(X.alloc o).cell? p=H v:=(((V X.heap.size X).alloc (Nat.le_refl _) o).cell (dS h)).trans h
theorem Same.refl' {A:C→Prop} (X:G):Same A X X:=⟨rfl,rfl,rfl,Nat.le_refl _,fun _ _ _=>rfl⟩
theorem Same.setTail {A:C→Prop} {X Y:G} {b o:C} {v:Z} (h:Same A X Y) (hb:¬A b):Same A X (Y.setCell ⟨b,o,N⟩ v):=
 ⟨h.os,h.tape,h.output,by have:=h.size;simpa[World.setCell] using this,fun i hi hl=>(Below.heap_setCell _ _ _ _ (fun e=>by have e':i=b:=e;rw[e'] at hi;exact hb hi)).trans (h.block i hi hl)⟩
theorem Same.mP {A:C→Prop} {X Y:G} (h:Same A X Y):Same A X Y.drew:=⟨h.os,h.tape,h.output,h.size,h.block⟩
section
variable {α:Type} {enc:α→F Z} {k:C} {w w':G} {B:C} {E:TypeId} {v:Z} {xs:F α}
theorem Own.grown (h:Own w B E k enc v xs) {row:Option C} (hg:w.grownBy w' row) (hne:∀g,v.ownBlock=H g→row≠H g):Own w' B E k enc v xs:=
 h.block fun g hg'=>hg.block g (h.lt g hg').2 (fun e=>hne g hg' e.symm)
theorem Own.same (h:Own w B E k enc v xs) {A:C→Prop} (hs:Same A w w') (hA:∀g,v.ownBlock=H g→A g):Own w' B E k enc v xs:=h.block fun g hg=>hs.block g (hA g hg) (h.lt g hg).2
theorem Own.tag (h:Own w B E k enc v xs) {g:C} (hg:v.ownBlock=H g):∃cs fz,w.heap[g]?=H (.cells cs E fz):=by
 rcases h.2 with⟨rfl,_⟩|⟨g',cap,cur,rfl,_,hh,_⟩
 ·cases hg
 ·obtain rfl:g'=g:=by simpa[Value.ownBlock] using hg
  exact⟨_,_,hh⟩
theorem Own.apart {β:Type} {enc':β→F Z} {k' B':C} {E':TypeId} {v':Z} {ys:F β} (h:Own w B E k enc v xs) (h':Own w B' E' k' enc' v' ys) (hE:E≠E'):∀g,v.ownBlock=H g→v'.ownBlock≠H g:=fun g hg hg'=>by
 obtain⟨cs,fz,e1⟩:=h.tag hg;obtain⟨cs',Yw,e2⟩:=h'.tag hg';rw[e1] at e2
 cases e2
 exact hE rfl
theorem Own.far' (h:Own w B E k enc v xs) {i:C} (hi:i<B∨w.heap.size≤i):v.ownBlock≠H i:=fun e=>by
 have:=h.lt i e;omega
end
structure Kept (w:G) (l:aV) (w':G):Prop where
 size:w.heap.size≤w'.heap.size
 block:∀i,i<w.heap.size→H i≠(Value.slice l.na l.nn l.nc).ownBlock→H i≠(Value.slice l.va l.vn l.vc).ownBlock→w'.heap[i]?=w.heap[i]?
def aiJ (w:G) (l l':aV):Prop:=
 (∀g,(Value.slice l'.na l'.nn l'.nc).ownBlock=H g→(Value.slice l.na l.nn l.nc).ownBlock=H g∨w.heap.size≤g)∧(∀g,(Value.slice l'.va l'.vn l'.vc).ownBlock=H g→(Value.slice l.va l.vn l.vc).ownBlock=H g∨w.heap.size≤g)
theorem Bx.aR {X:G} {b:C} {cs:Array Z} (h:Bx X b cs) (i:C) (hi:i<cs.size) (v:Z):Bx (X.setCell ⟨b,i,N⟩ v) b (cs.setIfInBounds i v):=by
 refine⟨fun j=>?_,fun j=>by rw[World.frozen?_setCell];exact h.2.1 j,by have:=h.2.2;simpa[World.setCell] using this⟩;by_cases hj:j=i
 ·subst hj
  rw[World.cell?_setCell_same' _ _ _ (by rw[h.1 j,Array.getElem?_eq_getElem hi];rfl),Array.getElem?_setIfInBounds_self_of_lt hi]
 ·rw[World.cell?_setCell_other _ _ _ _ (fun e=>by cases e;exact hj rfl),h.1 j,Array.getElem?_setIfInBounds_ne (fun e=>hj e.symm)]
theorem Row.toN {X:G} {g:C} (h:X.heap.size=g) (s:To):Row (X.alloc (.cells #[J ⟨s.name.toArray⟩,.int .i64 s.k] 76)) 2 j3 (H ⟨g,0,N⟩) 1 1 [s]:=
 h▸(Own.new (hc:=yP) X X.heap.size 76 #[J ⟨s.name.toArray⟩,.int .i64 s.k] [s] (Nat.le_refl _) rfl (by simp[maxLen])).row ak
theorem afI {X:G} {o:Obj} {g:C} (h:X.heap.size=g):(X.alloc o).heap[g]?=H o:=h▸World.alloc_heap_new X o
theorem afJ {X:G} {b:C} {o':Obj} (o:Obj) (h:X.heap[b]?=H o'):(X.alloc o).heap[b]?=H o':=(Below.heap_alloc _ _ _ (Array.getElem?_eq_some_iff.1 h).1).trans h
theorem bn {w:G} {b i:C} {cs:Array Z} {T:TypeId} {fr:C × C} (hb:w.heap[b]?=H (.cells cs T fr)) (v:Z):(w.setCell ⟨b,i,N⟩ v).heap[b]?=H (.cells (cs.setIfInBounds i v) T fr):=by
 simp[World.setCell,Array.getElem?_modify,hb]
section
variable {α:Type} {enc:α→F Z} {k:C}
theorem K7 [hc:Cells enc k]:∀(xs:F α) (i j:C) (x y:α) (v:Z),xs[i]?=H x→j<k→(enc x).set j v=enc y→(xs.flatMap enc).set (i*k+j) v=(xs.set i y).flatMap enc
 |[],i,j,x,y,v,h,_,_=>by simp at h
 |a::xs,0,j,x,y,v,h,hj,he=>by
  obtain rfl:a=x:=by simpa using h
  rw[List.flatMap_cons,List.set_cons_zero,List.flatMap_cons,Nat.zero_mul,Nat.zero_add,List.set_append_left _ _ (by rw[hc.len];exact hj),he]
 |a::xs,i+1,j,x,y,v,h,hj,he=>by
  have ih:=K7 xs i j x y v (by simpa using h) hj he;rw[List.flatMap_cons,List.set_cons_succ,List.flatMap_cons,List.set_append_right _ _ (by rw[hc.len,Nat.succ_mul];omega),hc.len,←ih]
  congr 2
  rw[Nat.succ_mul];omega
theorem Own.put [hc:Cells enc k] {w:G} {B g n c i j:C} {E:TypeId} {xs:F α} {x y:α} {v:Z} (h:Own w B E k enc (.slice (H ⟨g,0,N⟩) n c) xs) (hx:xs[i]?=H x) (hj:j<k) (he:(enc x).set j v=enc y):
  Own (w.setCell ⟨g,i*k+j,N⟩ v) B E k enc (.slice (H ⟨g,0,N⟩) n c) (xs.set i y):=by
 obtain⟨h1,h2⟩:=h;refine⟨ug _,?_⟩;rcases h2 with⟨e,_⟩|⟨g',cap,cur,e,hB,hh,hn,hm,hs,ht⟩
 ·cases e
 ·injection e with e1 e2 e3
  injection e1 with e1;injection e1 with e1;subst e1;refine .inr ⟨g,cap,cur.setIfInBounds (i*k+j) v,?_,hB,bn hh v,by rw[List.length_set];exact hn,hm,by rw[Array.size_setIfInBounds];exact hs,?_⟩
  ·rw[List.length_set,e2,e3]
  ·rw[List.length_set,Array.toList_setIfInBounds,List.take_set,ht]
   exact K7 xs i j x y v hx hj he
end
theorem Row.uniq {α:Type} {enc:α→F Z} {k:C} [hc:Cells enc k] (hinj:∀x y,enc x=enc y→x=y) {w:G} {a:Option Addr} {n c:C} {xs ys:F α} (h:Row w k enc a n c xs) (h':Row w k enc a n c ys):xs=ys:=by
 apply List.ext_getElem?
 intro i;rcases Nat.lt_or_ge i n with hi|hi
 ·obtain⟨x,b,o,hx,ha,hx'⟩:=h.at_ hi
  obtain⟨y,b',o',hy,ha',hy'⟩:=h'.at_ hi;rw[ha] at ha';injection ha' with ha';injection ha' with e1 e2;subst e1 e2;rw[hx,hy];refine congrArg H (hinj x y (List.ext_getElem? fun j=>?_));have hlx:=hc.len x;have EL:=hc.len y;rcases Nat.lt_or_ge j k with hj|hj
  ·have h1:(enc x)[j]?=H ((enc x)[j]' ah):=List.getElem?_eq_getElem _
   have h2:(enc y)[j]?=H ((enc y)[j]' ah):=List.getElem?_eq_getElem _;have g1:=hx' j _ h1;have g2:=hy' j _ h2;rw[h1,h2,←g1,←g2]
  ·rw[List.getElem?_eq_none ah,List.getElem?_eq_none ah]
 ·rw[List.getElem?_eq_none (by rw[h.len];omega),List.getElem?_eq_none (by rw[h'.len];omega)]
def jU {β:Type} (w X:G) (T:TypeId) (k:C) (enc:β→F Z) (s:Sl) (L:F β):Prop:=
 L.length≤2000000∧(Row w k enc s.a s.n s.c L∨Own X w.heap.size T k enc s.v L)
section
variable {β:Type} {w X Y:G} {T:TypeId} {k:C} {enc:β→F Z} {s:Sl} {L:F β}
theorem jU.same (h:jU w X T k enc s L) {g:C} {cs:Array Z} {T':TypeId} {fz:C × C} (hg:X.heap[g]?=H (.cells cs T' fz)) (hT:T≠T') (hs:Same (fun i=>i≠g) X Y):jU w Y T k enc s L:=by
 obtain⟨hL,h|h⟩:=h
 ·exact⟨hL,.inl h⟩
 ·refine⟨hL,.inr (h.same hs (fun i hi e=>?_))⟩
  subst e;obtain⟨cs',Yw,e'⟩:=h.tag hi;rw[hg] at e'
  cases e'
  exact hT rfl
theorem jU.below (h:jU w X T k enc s L) (hb:Below X.heap.size X Y):jU w Y T k enc s L:=by
 obtain⟨hL,h|h⟩:=h
 ·exact⟨hL,.inl h⟩
 ·exact⟨hL,.inr (h.below hb rfl)⟩
theorem jU.row [hc:Cells enc k] (h:jU w X T k enc s L) (hb:Below w.heap.size w X):Row X k enc s.a s.n s.c L:=by
 obtain⟨hL,h|h⟩:=h
 ·exact h.below hb rfl
 ·obtain⟨a,c,e,_,_⟩:=h.shape
  obtain⟨sa,sn,sc⟩:=s;injection e with e1 e2 e3;subst e1 e2 e3;exact h.row ah
theorem jU.own (h:Own X w.heap.size T k enc s.v L) (hL:L.length≤2000000):jU w X T k enc s L:=⟨hL,.inr h⟩
end
theorem Own.aX {β:Type} {X Y:G} {B:C} {T T':TypeId} {k:C} {enc:β→F Z} {v:Z} {L:F β} (h:Own X B T k enc v L) {g:C} (hg:∃cs fz,X.heap[g]?=H (.cells cs T' fz)) (hT:T≠T') (hs:Same (fun i=>i≠g) X Y):Own Y B T k enc v L:=by
 obtain⟨cs,fz,hg⟩:=hg;exact h.same hs (fun i hi e=>by
  subst e;obtain⟨cs',Yw,e'⟩:=h.tag hi;rw[hg] at e'
  cases e'
  exact hT rfl)
def oW {α β:Type} (w X:G) (T:TypeId) (k:C) (enc:β→F Z) (sl:α→Sl) (xs:F α) (Ls:F (F β)):Prop:=
 xs.length=Ls.length∧∀(i:C) (x:α) (L:F β),xs[i]?=H x→Ls[i]?=H L→jU w X T k enc (sl x) L
section
variable {α β:Type} {w X Y:G} {T:TypeId} {k:C} {enc:β→F Z} {sl:α→Sl} {xs:F α} {Ls:F (F β)}
theorem oW.same (h:oW w X T k enc sl xs Ls) {g:C} {cs:Array Z} {T':TypeId} {fz:C × C} (hg:X.heap[g]?=H (.cells cs T' fz)) (hT:T≠T') (hs:Same (fun i=>i≠g) X Y):oW w Y T k enc sl xs Ls:=
 ⟨h.1,fun i x L h1 h2=>(h.2 i x L h1 h2).same hg hT hs⟩
theorem oW.below (h:oW w X T k enc sl xs Ls) (hb:Below X.heap.size X Y):oW w Y T k enc sl xs Ls:=⟨h.1,fun i x L h1 h2=>(h.2 i x L h1 h2).below hb⟩
theorem oW.set (h:oW w X T k enc sl xs Ls) {i:C} {y:α} {L:F β} (hL:Ls[i]?=H L) (hy:jU w X T k enc (sl y) L):oW w X T k enc sl (xs.set i y) Ls:=by
 refine⟨by rw[List.length_set];exact h.1,fun j x L' h1 h2=>?_⟩;rw[List.getElem?_set] at h1
 split at h1
 ·rename_i e
  subst e
  split at h1
  ·injection h1 with h1
   subst h1;rw[hL] at h2;injection h2 with h2;subst h2;exact hy
  ·cases h1
 ·exact h.2 j x L' h1 h2
theorem oW.rows [hc:Cells enc k] (h:oW w X T k enc sl xs Ls) (hb:Below w.heap.size w X) (i:C) (x:α) (hx:xs[i]?=H x):∃L,Ls[i]?=H L∧Row X k enc (sl x).a (sl x).n (sl x).c L:=by
 have hi:i<Ls.length:=by rw[←h.1];exact(List.getElem?_eq_some_iff.1 hx).1
 exact⟨Ls[i],List.getElem?_eq_getElem hi,(h.2 i x _ hx (List.getElem?_eq_getElem hi)).row hb⟩
end
@[reducible] def EvC.sl (x:EvC):Sl:=⟨x.sa,x.sn,x.sc⟩
@[reducible] def aH.sl (x:aH):Sl:=⟨x.sa,x.sn,x.sc⟩
@[reducible] def aI.sl (x:aI):Sl:=⟨x.sa,x.sn,x.sc⟩
@[reducible] def EvC.wi (x:EvC) (s:Sl):EvC:={x with sa:=s.a,sn:=s.n,sc:=s.c}
@[reducible] def aH.wi (x:aH) (s:Sl):aH:={x with sa:=s.a,sn:=s.n,sc:=s.c}
@[reducible] def aI.wi (x:aI) (s:Sl):aI:={x with sa:=s.a,sn:=s.n,sc:=s.c}
def EvC.base (x:EvC):EvC:=x.wi ⟨N,0,0⟩
def aH.base (x:aH):aH:=x.wi ⟨N,0,0⟩
def aI.base (x:aI):aI:=x.wi ⟨N,0,0⟩
theorem xw {α γ:Type} {f:α→γ} {xs:F α} {i:C} {x y:α} (hx:xs[i]?=H x) (he:f y=f x):(xs.set i y).map f=xs.map f:=by
 apply List.ext_getElem?
 intro j;rw[List.getElem?_map,List.getElem?_map,List.getElem?_set]
 split
 ·rename_i e
  subst e;rw[hx,if_pos (List.getElem?_eq_some_iff.1 hx).1];simp[he]
 ·rfl
structure Cont where
 nl:C→F Bs
 E:F EvC
 SE:F (F Sn)
 D:F aH
 SD:F (F I)
 M:F aI
 SM:F (F I)
 Q:F Wa
structure St (w X:G) (h:HC) (es:F EvC) (ds:F aH) (ms:F aI) (c:Cont):Prop where
 b:Below w.heap.size w X
 bx:Bx X w.heap.size (aC h)
 tg:∃cs fz,X.heap[w.heap.size]?=H (.cells cs 41 fz)
 b2:Bx X (w.heap.size+1) (Array.replicate 8 (.slice N 0 0))
 t2:∃cs fz,X.heap[w.heap.size+1]?=H (.cells cs 41 fz)
 e:jU w X 65 9 cZ h.e es
 d:jU w X 79 2 dD h.d ds
 m:jU w X 81 4 dx h.m ms
 q:jU w X 83 2 eu h.w c.Q
 n:∀i,i<4→jU w X 9 1 encStr (h.nm i) (c.nl i)
 be:es.map EvC.base=c.E
 bd:ds.map aH.base=c.D
 bm:ms.map aI.base=c.M
 se:oW w X 148 3 bV EvC.sl es c.SE
 sd:oW w X 3 1 aQ aH.sl ds c.SD
 sm:oW w X 3 1 aQ aI.sl ms c.SM
section
variable {w X Y:G} {h:HC} {es:F EvC} {ds:F aH} {ms:F aI} {c:Cont}
theorem St.below (s:St w X h es ds ms c) (hb:Below X.heap.size X Y):St w Y h es ds ms c:=by
 obtain⟨cs,fz,ht⟩:=s.tg;obtain⟨cs',Yw,ht'⟩:=s.t2;exact⟨s.b.trans (hb.mono s.b.size),s.bx.keep hb,⟨cs,fz,(hb.block _ s.bx.2.2).trans ht⟩,s.b2.keep hb,⟨cs',Yw,(hb.block _ s.b2.2.2).trans ht'⟩,s.e.below hb,s.d.below hb,s.m.below hb,s.q.below hb,fun i hi=>(s.n i hi).below hb,s.be,s.bd,s.bm,s.se.below hb,s.sd.below hb,s.sm.below hb⟩
theorem St.drew (s:St w X h es ds ms c):St w X.drew h es ds ms c:=s.below (V _ _).drew
theorem sameBox (_s:St w X h es ds ms c) (j:C) (v:Z):Same (fun i=>i≠w.heap.size) X (X.setCell ⟨w.heap.size,j,N⟩ v):=(Same.refl' X).setTail (fun hn=>hn rfl)
theorem nK (s:St w X h es ds ms c) (j:C) (v:Z):Below w.heap.size w (X.setCell ⟨w.heap.size,j,N⟩ v):=(sameBox s j v).below s.b (fun i hi=>by omega) s.b.size
theorem St.ahS (s:St w X h es ds ms c) (sl:Sl) (es':F EvC) {E' SE'} (h1:jU w X 65 9 cZ sl es') (h2:es'.map EvC.base=E') (h3:oW w X 148 3 bV EvC.sl es' SE'):
  St w (X.setCell ⟨w.heap.size,4,N⟩ sl.v) {h with e:=sl} es' ds ms {c with E:=E',SE:=SE'}:=by
 obtain⟨cs,fz,ht⟩:=s.tg;have hs:=sameBox s 4 sl.v;exact⟨nK s _ _,s.bx.aR 4 ak _,⟨_,_,bn ht _⟩,hs.bx s.b2 ah,⟨_,_,(hs.block _ ah s.b2.2.2).trans s.t2.choose_spec.choose_spec⟩,h1.same ht aj hs,s.d.same ht aj hs,s.m.same ht aj hs,s.q.same ht aj hs,fun i hi=>(show jU w X 9 1 encStr (({h with e:=sl}:HC).nm i) (c.nl i) from(match i,hi with|0,_=>s.n 0 aj|1,_=>s.n 1 aj|2,_=>s.n 2 aj|3,_=>s.n 3 aj)).same ht aj hs,h2,s.bd,s.bm,h3.same ht aj hs,s.sd.same ht aj hs,s.sm.same ht aj hs⟩
theorem St.UW (s:St w X h es ds ms c) {g i:C} {x:EvC} {L} (ho:Own X w.heap.size 65 9 cZ h.e.v es) (ha:h.e.a=H ⟨g,0,N⟩) (hx:es[i]?=H x) (hL:c.SE[i]?=H L) (sl:Sl) (hy:jU w X 148 3 bV sl L):
  St w (X.setCell ⟨g,i*9+8,N⟩ sl.v) h (es.set i (x.wi sl)) ds ms c∧Own (X.setCell ⟨g,i*9+8,N⟩ sl.v) w.heap.size 65 9 cZ h.e.v (es.set i (x.wi sl)):=by
 have rJ:h.e.v.ownBlock=H g:=by simp only[Sl.v,ha];rfl
 obtain⟨cs,fz,ht⟩:=ho.tag rJ;have hlt:=ho.lt g rJ;have hs:Same (fun i=>i≠g) X (X.setCell ⟨g,i*9+8,N⟩ sl.v):=(Same.refl' X).setTail (fun hn=>hn rfl);have ho':Own (X.setCell ⟨g,i*9+8,N⟩ sl.v) w.heap.size 65 9 cZ h.e.v (es.set i (x.wi sl)):=by
  have e:h.e.v= .slice (H ⟨g,0,N⟩) h.e.n h.e.c:=by simp only[Sl.v,ha]
  rw[e] at ho ⊢;exact ho.put hx aj rfl
 obtain⟨cs0,fz0,ht0⟩:=s.tg;have hg:w.heap.size≠g:=fun e=>by
  rw[e,ht] at ht0
  cases ht0
 obtain⟨cs2,X8,ht2⟩:=s.t2;have hg2:w.heap.size+1≠g:=fun e=>by
  rw[e,ht] at ht2
  cases ht2
 exact⟨⟨hs.below s.b (fun i hi=>by omega) s.b.size,hs.bx s.bx hg,⟨_,_,(hs.block _ hg s.bx.2.2).trans ht0⟩,hs.bx s.b2 hg2,⟨_,_,(hs.block _ hg2 s.b2.2.2).trans ht2⟩,⟨by rw[List.length_set];exact s.e.1,.inr ho'⟩,s.d.same ht aj hs,s.m.same ht aj hs,s.q.same ht aj hs,fun j hj=>(s.n j hj).same ht aj hs,(xw (f:=EvC.base) (y:=x.wi sl) hx rfl).trans s.be,s.bd,s.bm,(s.se.same ht aj hs).set hL (hy.same ht aj hs),s.sd.same ht aj hs,s.sm.same ht aj hs⟩,ho'⟩
theorem St.ahT (s:St w X h es ds ms c) (sl:Sl) (ds':F aH) {D' SD'} (h1:jU w X 79 2 dD sl ds') (h2:ds'.map aH.base=D') (h3:oW w X 3 1 aQ aH.sl ds' SD'):
  St w (X.setCell ⟨w.heap.size,5,N⟩ sl.v) {h with d:=sl} es ds' ms {c with D:=D',SD:=SD'}:=by
 obtain⟨cs,fz,ht⟩:=s.tg;have hs:=sameBox s 5 sl.v;exact⟨nK s _ _,s.bx.aR 5 ak _,⟨_,_,bn ht _⟩,hs.bx s.b2 ah,⟨_,_,(hs.block _ ah s.b2.2.2).trans s.t2.choose_spec.choose_spec⟩,s.e.same ht aj hs,h1.same ht aj hs,s.m.same ht aj hs,s.q.same ht aj hs,fun i hi=>(show jU w X 9 1 encStr (({h with d:=sl}:HC).nm i) (c.nl i) from(match i,hi with|0,_=>s.n 0 aj|1,_=>s.n 1 aj|2,_=>s.n 2 aj|3,_=>s.n 3 aj)).same ht aj hs,s.be,h2,s.bm,s.se.same ht aj hs,h3.same ht aj hs,s.sm.same ht aj hs⟩
theorem St.UY (s:St w X h es ds ms c) {g i:C} {x:aH} {L} (ho:Own X w.heap.size 79 2 dD h.d.v ds) (ha:h.d.a=H ⟨g,0,N⟩) (hx:ds[i]?=H x) (hL:c.SD[i]?=H L) (sl:Sl) (hy:jU w X 3 1 aQ sl L):
  St w (X.setCell ⟨g,i*2+1,N⟩ sl.v) h es (ds.set i (x.wi sl)) ms c∧Own (X.setCell ⟨g,i*2+1,N⟩ sl.v) w.heap.size 79 2 dD h.d.v (ds.set i (x.wi sl)):=by
 have rJ:h.d.v.ownBlock=H g:=by simp only[Sl.v,ha];rfl
 obtain⟨cs,fz,ht⟩:=ho.tag rJ;have hlt:=ho.lt g rJ;have hs:Same (fun i=>i≠g) X (X.setCell ⟨g,i*2+1,N⟩ sl.v):=(Same.refl' X).setTail (fun hn=>hn rfl);have ho':Own (X.setCell ⟨g,i*2+1,N⟩ sl.v) w.heap.size 79 2 dD h.d.v (ds.set i (x.wi sl)):=by
  have e:h.d.v= .slice (H ⟨g,0,N⟩) h.d.n h.d.c:=by simp only[Sl.v,ha]
  rw[e] at ho ⊢;exact ho.put hx aj rfl
 obtain⟨cs0,fz0,ht0⟩:=s.tg;have hg:w.heap.size≠g:=fun e=>by
  rw[e,ht] at ht0
  cases ht0
 obtain⟨cs2,X8,ht2⟩:=s.t2;have hg2:w.heap.size+1≠g:=fun e=>by
  rw[e,ht] at ht2
  cases ht2
 exact⟨⟨hs.below s.b (fun i hi=>by omega) s.b.size,hs.bx s.bx hg,⟨_,_,(hs.block _ hg s.bx.2.2).trans ht0⟩,hs.bx s.b2 hg2,⟨_,_,(hs.block _ hg2 s.b2.2.2).trans ht2⟩,s.e.same ht aj hs,⟨by rw[List.length_set];exact s.d.1,.inr ho'⟩,s.m.same ht aj hs,s.q.same ht aj hs,fun j hj=>(s.n j hj).same ht aj hs,s.be,(xw (f:=aH.base) (y:=x.wi sl) hx rfl).trans s.bd,s.bm,s.se.same ht aj hs,(s.sd.same ht aj hs).set hL (hy.same ht aj hs),s.sm.same ht aj hs⟩,ho'⟩
theorem St.ahU (s:St w X h es ds ms c) (sl:Sl) (ms':F aI) {M' SM'} (h1:jU w X 81 4 dx sl ms') (h2:ms'.map aI.base=M') (h3:oW w X 3 1 aQ aI.sl ms' SM'):
  St w (X.setCell ⟨w.heap.size,6,N⟩ sl.v) {h with m:=sl} es ds ms' {c with M:=M',SM:=SM'}:=by
 obtain⟨cs,fz,ht⟩:=s.tg;have hs:=sameBox s 6 sl.v;exact⟨nK s _ _,s.bx.aR 6 ak _,⟨_,_,bn ht _⟩,hs.bx s.b2 ah,⟨_,_,(hs.block _ ah s.b2.2.2).trans s.t2.choose_spec.choose_spec⟩,s.e.same ht aj hs,s.d.same ht aj hs,h1.same ht aj hs,s.q.same ht aj hs,fun i hi=>(show jU w X 9 1 encStr (({h with m:=sl}:HC).nm i) (c.nl i) from(match i,hi with|0,_=>s.n 0 aj|1,_=>s.n 1 aj|2,_=>s.n 2 aj|3,_=>s.n 3 aj)).same ht aj hs,s.be,s.bd,h2,s.se.same ht aj hs,s.sd.same ht aj hs,h3.same ht aj hs⟩
theorem St.UZ (s:St w X h es ds ms c) {g i:C} {x:aI} {L} (ho:Own X w.heap.size 81 4 dx h.m.v ms) (ha:h.m.a=H ⟨g,0,N⟩) (hx:ms[i]?=H x) (hL:c.SM[i]?=H L) (sl:Sl) (hy:jU w X 3 1 aQ sl L):
  St w (X.setCell ⟨g,i*4+3,N⟩ sl.v) h es ds (ms.set i (x.wi sl)) c∧Own (X.setCell ⟨g,i*4+3,N⟩ sl.v) w.heap.size 81 4 dx h.m.v (ms.set i (x.wi sl)):=by
 have rJ:h.m.v.ownBlock=H g:=by simp only[Sl.v,ha];rfl
 obtain⟨cs,fz,ht⟩:=ho.tag rJ;have hlt:=ho.lt g rJ;have hs:Same (fun i=>i≠g) X (X.setCell ⟨g,i*4+3,N⟩ sl.v):=(Same.refl' X).setTail (fun hn=>hn rfl);have ho':Own (X.setCell ⟨g,i*4+3,N⟩ sl.v) w.heap.size 81 4 dx h.m.v (ms.set i (x.wi sl)):=by
  have e:h.m.v= .slice (H ⟨g,0,N⟩) h.m.n h.m.c:=by simp only[Sl.v,ha]
  rw[e] at ho ⊢;exact ho.put hx aj rfl
 obtain⟨cs0,fz0,ht0⟩:=s.tg;have hg:w.heap.size≠g:=fun e=>by
  rw[e,ht] at ht0
  cases ht0
 obtain⟨cs2,X8,ht2⟩:=s.t2;have hg2:w.heap.size+1≠g:=fun e=>by
  rw[e,ht] at ht2
  cases ht2
 exact⟨⟨hs.below s.b (fun i hi=>by omega) s.b.size,hs.bx s.bx hg,⟨_,_,(hs.block _ hg s.bx.2.2).trans ht0⟩,hs.bx s.b2 hg2,⟨_,_,(hs.block _ hg2 s.b2.2.2).trans ht2⟩,s.e.same ht aj hs,s.d.same ht aj hs,⟨by rw[List.length_set];exact s.m.1,.inr ho'⟩,s.q.same ht aj hs,fun j hj=>(s.n j hj).same ht aj hs,s.be,s.bd,(xw (f:=aI.base) (y:=x.wi sl) hx rfl).trans s.bm,s.se.same ht aj hs,s.sd.same ht aj hs,(s.sm.same ht aj hs).set hL (hy.same ht aj hs)⟩,ho'⟩
theorem St.ahV (s:St w X h es ds ms c) (sl:Sl) {Q'} (h1:jU w X 83 2 eu sl Q'):
  St w (X.setCell ⟨w.heap.size,7,N⟩ sl.v) {h with w:=sl} es ds ms {c with Q:=Q'}:=by
 obtain⟨cs,fz,ht⟩:=s.tg;have hs:=sameBox s 7 sl.v;exact⟨nK s _ _,s.bx.aR 7 ak _,⟨_,_,bn ht _⟩,hs.bx s.b2 ah,⟨_,_,(hs.block _ ah s.b2.2.2).trans s.t2.choose_spec.choose_spec⟩,s.e.same ht aj hs,s.d.same ht aj hs,s.m.same ht aj hs,h1.same ht aj hs,fun i hi=>(show jU w X 9 1 encStr (({h with w:=sl}:HC).nm i) (c.nl i) from(match i,hi with|0,_=>s.n 0 aj|1,_=>s.n 1 aj|2,_=>s.n 2 aj|3,_=>s.n 3 aj)).same ht aj hs,s.be,s.bd,s.bm,s.se.same ht aj hs,s.sd.same ht aj hs,s.sm.same ht aj hs⟩
theorem St.ae5 (s:St w X h es ds ms c) (sl:Sl) (h1:jU w X 9 1 encStr sl (c.nl 0)):
  St w (X.setCell ⟨w.heap.size,0,N⟩ sl.v) {h with t:=sl} es ds ms c:=by
 obtain⟨cs,fz,ht⟩:=s.tg;have hs:=sameBox s 0 sl.v;exact⟨nK s _ _,s.bx.aR 0 ak _,⟨_,_,bn ht _⟩,hs.bx s.b2 ah,⟨_,_,(hs.block _ ah s.b2.2.2).trans s.t2.choose_spec.choose_spec⟩,s.e.same ht aj hs,s.d.same ht aj hs,s.m.same ht aj hs,s.q.same ht aj hs,fun i hi=>(show jU w X 9 1 encStr (({h with t:=sl}:HC).nm i) (c.nl i) from(match i,hi with|0,_=>h1|1,_=>s.n 1 aj|2,_=>s.n 2 aj|3,_=>s.n 3 aj)).same ht aj hs,s.be,s.bd,s.bm,s.se.same ht aj hs,s.sd.same ht aj hs,s.sm.same ht aj hs⟩
theorem St.ae6 (s:St w X h es ds ms c) (sl:Sl) (h1:jU w X 9 1 encStr sl (c.nl 1)):
  St w (X.setCell ⟨w.heap.size,1,N⟩ sl.v) {h with s:=sl} es ds ms c:=by
 obtain⟨cs,fz,ht⟩:=s.tg;have hs:=sameBox s 1 sl.v;exact⟨nK s _ _,s.bx.aR 1 ak _,⟨_,_,bn ht _⟩,hs.bx s.b2 ah,⟨_,_,(hs.block _ ah s.b2.2.2).trans s.t2.choose_spec.choose_spec⟩,s.e.same ht aj hs,s.d.same ht aj hs,s.m.same ht aj hs,s.q.same ht aj hs,fun i hi=>(show jU w X 9 1 encStr (({h with s:=sl}:HC).nm i) (c.nl i) from(match i,hi with|0,_=>s.n 0 aj|1,_=>h1|2,_=>s.n 2 aj|3,_=>s.n 3 aj)).same ht aj hs,s.be,s.bd,s.bm,s.se.same ht aj hs,s.sd.same ht aj hs,s.sm.same ht aj hs⟩
theorem St.ae7 (s:St w X h es ds ms c) (sl:Sl) (h1:jU w X 9 1 encStr sl (c.nl 2)):
  St w (X.setCell ⟨w.heap.size,2,N⟩ sl.v) {h with o:=sl} es ds ms c:=by
 obtain⟨cs,fz,ht⟩:=s.tg;have hs:=sameBox s 2 sl.v;exact⟨nK s _ _,s.bx.aR 2 ak _,⟨_,_,bn ht _⟩,hs.bx s.b2 ah,⟨_,_,(hs.block _ ah s.b2.2.2).trans s.t2.choose_spec.choose_spec⟩,s.e.same ht aj hs,s.d.same ht aj hs,s.m.same ht aj hs,s.q.same ht aj hs,fun i hi=>(show jU w X 9 1 encStr (({h with o:=sl}:HC).nm i) (c.nl i) from(match i,hi with|0,_=>s.n 0 aj|1,_=>s.n 1 aj|2,_=>h1|3,_=>s.n 3 aj)).same ht aj hs,s.be,s.bd,s.bm,s.se.same ht aj hs,s.sd.same ht aj hs,s.sm.same ht aj hs⟩
theorem St.ae8 (s:St w X h es ds ms c) (sl:Sl) (h1:jU w X 9 1 encStr sl (c.nl 3)):
  St w (X.setCell ⟨w.heap.size,3,N⟩ sl.v) {h with p:=sl} es ds ms c:=by
 obtain⟨cs,fz,ht⟩:=s.tg;have hs:=sameBox s 3 sl.v;exact⟨nK s _ _,s.bx.aR 3 ak _,⟨_,_,bn ht _⟩,hs.bx s.b2 ah,⟨_,_,(hs.block _ ah s.b2.2.2).trans s.t2.choose_spec.choose_spec⟩,s.e.same ht aj hs,s.d.same ht aj hs,s.m.same ht aj hs,s.q.same ht aj hs,fun i hi=>(show jU w X 9 1 encStr (({h with p:=sl}:HC).nm i) (c.nl i) from(match i,hi with|0,_=>s.n 0 aj|1,_=>s.n 1 aj|2,_=>s.n 2 aj|3,_=>h1)).same ht aj hs,s.be,s.bd,s.bm,s.se.same ht aj hs,s.sd.same ht aj hs,s.sm.same ht aj hs⟩
end
theorem yR {β:Type} {X:G} {k:C} {enc:β→F Z} [hc:Cells enc k] (hinj:∀x y,enc x=enc y→x=y) {a:Option Addr} {n c:C} {L:F β} (h:Row X k enc a n c L):Classical.epsilon (fun L=>Row X k enc a n c L)=L:=
 Row.uniq (hc:=hc) hinj (Classical.epsilon_spec ⟨L,h⟩) h
theorem Ei (x y:Sn) (h:bV x=bV y):x=y:=by
 obtain⟨a,b,c⟩:=x;obtain⟨d,e,f⟩:=y;simp[bV] at h;simp[h]
theorem rF (x y:I) (h:aQ x=aQ y):x=y:=by simpa[aQ] using h
theorem oW.eps {α β:Type} {w X:G} {T:TypeId} {k:C} {enc:β→F Z} [hc:Cells enc k] {sl:α→Sl} {xs:F α} {Ls:F (F β)} (hinj:∀x y,enc x=enc y→x=y) (h:oW w X T k enc sl xs Ls) (hb:Below w.heap.size w X):
  (∀x∈xs,Row X k enc (sl x).a (sl x).n (sl x).c (Classical.epsilon (fun L=>Row X k enc (sl x).a (sl x).n (sl x).c L)))∧xs.map (fun x=>Classical.epsilon (fun L=>Row X k enc (sl x).a (sl x).n (sl x).c L))=Ls:=by
 constructor
 ·intro x hx
  obtain⟨i,hi⟩:=List.mem_iff_getElem?.1 hx;obtain⟨L,_,hr⟩:=h.rows (hc:=hc) hb i x hi;rw[yR (hc:=hc) hinj hr];exact hr
 ·apply List.ext_getElem?
  intro i;rw[List.getElem?_map]
  cases hx:xs[i]? with
  |none=>rw[Option.map_none,List.getElem?_eq_none (by rw[←h.1];exact List.getElem?_eq_none_iff.1 hx)]
  |some x=>
   obtain⟨L,hL,hr⟩:=h.rows (hc:=hc) hb i x hx;rw[Option.map_some,yR (hc:=hc) hinj hr,hL]
def aiK (w:G) (c:Cont) (e:Ending) (X:G):Prop:=
 ∃h es ds ms,∃scan:EvC→F Sn,∃dn:aH→F I,∃mn:aI→F I,e= .returned (eF h)∧Deep X h es ds ms c.Q scan dn mn∧(∀i,i<4→Row X 1 encStr (h.nm i).a (h.nm i).n (h.nm i).c (c.nl i))∧
  es.map EvC.base=c.E∧ds.map aH.base=c.D∧ms.map aI.base=c.M∧es.map scan=c.SE∧ds.map dn=c.SD∧ms.map mn=c.SM∧Below w.heap.size w X
section
variable {w X Y:G} {h:HC} {es:F EvC} {ds:F aH} {ms:F aI} {c:Cont}
theorem St.cast {c':Cont} (s:St w X h es ds ms c) (e:c=c'):St w X h es ds ms c':=e▸s
end
theorem St.ret {w X:G} {h:HC} {es:F EvC} {ds:F aH} {ms:F aI} {c:Cont} (s:St w X h es ds ms c):aiK w c (.returned (eF h)) X:=by
 obtain⟨h1,h2⟩:=s.se.eps (hc:=kV) Ei s.b;obtain⟨h3,h4⟩:=s.sd.eps (hc:=eG) rF s.b;obtain⟨h5,h6⟩:=s.sm.eps (hc:=eG) rF s.b;exact⟨h,es,ds,ms,_,_,_,rfl,⟨s.e.row (hc:=qF) s.b,s.d.row (hc:=pI) s.b,s.m.row (hc:=ny) s.b,s.q.row (hc:=qE) s.b,h1,h3,h5⟩,fun i hi=>(s.n i hi).row (hc:=iM) s.b,s.be,s.bd,s.bm,h2,h4,h6,s.b⟩
theorem oW.start {α β:Type} {w X:G} {T:TypeId} {k:C} {enc:β→F Z} {sl:α→Sl} {xs:F α} (f:α→F β) (h:∀x∈xs,(f x).length≤2000000∧Row w k enc (sl x).a (sl x).n (sl x).c (f x)):oW w X T k enc sl xs (xs.map f):=by
 refine⟨by rw[List.length_map],fun i x L hx hL=>?_⟩;rw[List.getElem?_map,hx] at hL;injection hL with hL;subst hL;have:=h x (List.mem_of_getElem? hx);exact⟨this.1,.inl this.2⟩
def Iz (nl:C→F Bs) (es:F EvC) (ds:F aH) (ms:F aI) (qs:F Wa) (scan:EvC→F Sn) (dn:aH→F I) (mn:aI→F I):Prop:=
 es.length≤2000000∧ds.length≤2000000∧ms.length≤2000000∧qs.length≤2000000∧(∀i,i<4→(nl i).length≤2000000)∧(∀x∈es,(scan x).length≤2000000)∧(∀x∈ds,(dn x).length≤2000000)∧(∀x∈ms,(mn x).length≤2000000)
def uX (m:C) (nl:C→F Bs) (es:F EvC) (ds:F aH) (ms:F aI) (qs:F Wa) (scan:EvC→F Sn) (dn:aH→F I) (mn:aI→F I):Cont:=
 ⟨nl,(es.take m).map EvC.base,(es.take m).map scan,ds.map aH.base,ds.map dn,ms.map aI.base,ms.map mn,qs⟩
theorem St.start {h:HC} {nl:C→F Bs} {es:F EvC} {ds:F aH} {ms:F aI} {qs:F Wa} {scan:EvC→F Sn} {dn:aH→F I} {mn:aI→F I} {w:G} (hn:∀i,i<4→Row w 1 encStr (h.nm i).a (h.nm i).n (h.nm i).c (nl i))
  (hd:Deep w h es ds ms qs scan dn mn) (hB:Iz nl es ds ms qs scan dn mn) (m:C) (hm:h.e.n≤m):
  St w ((w.alloc (.cells (aC h) 41)).alloc (.cells (Array.replicate 8 (.slice N 0 0)) 41)) h es ds ms (uX m nl es ds ms qs scan dn mn):=by
 obtain⟨b1,b2,b3,b4,b5,b6,b7,b8⟩:=hB;have hl:=hd.1.len;have ht:es.take m=es:=List.take_of_length_le ah;refine⟨av (av (V w.heap.size w) _) _,Bx.alloc (Bx.new w (aC h) 41) _,⟨_,_,afJ _ (dW w _)⟩,Bx.new1 ak,⟨_,_,afI ak⟩,⟨b1,.inl hd.1⟩,⟨b2,.inl hd.2.1⟩,⟨b3,.inl hd.2.2.1⟩,⟨b4,.inl hd.2.2.2.1⟩,fun i hi=>⟨b5 i hi,.inl (hn i hi)⟩,?_,rfl,rfl,?_,oW.start dn (fun x hx=>⟨b7 x hx,hd.2.2.2.2.2.1 x hx⟩),oW.start mn (fun x hx=>⟨b8 x hx,hd.2.2.2.2.2.2 x hx⟩)⟩
 ·simp only[uX,ht]
 ·simp only[uX,ht]
  exact oW.start scan (fun x hx=>⟨b6 x hx,hd.2.2.2.2.1 x hx⟩)
theorem Own.open_ {α:Type} {enc:α→F Z} {k:C} [hc:Cells enc k] {X:G} {B:C} {E:TypeId} {a:Option Addr} {n c:C} {xs:F α} (h:Own X B E k enc (.slice a n c) xs) (hn:0<n):
  ∃g cur,a=H ⟨g,0,N⟩∧Bx X g cur∧xs.length=n∧n≤c∧B≤g∧(∀i x j v,xs[i]?=H x→(enc x)[j]?=H v→cur[i*k+j]?=H v):=by
 obtain⟨h1,h2⟩:=h;rcases h2 with⟨he,h0⟩|⟨g,cap,cur,he,hB,hh,hn',_,hs,ht⟩
 ·injection he with _ e2 _
  omega
 ·injection he with e1 e2 e3
  subst e1 e2 e3;refine⟨g,cur,rfl,⟨fun i=>?_,fun i=>?_,(Array.getElem?_eq_some_iff.1 hh).1⟩,rfl,hn',hB,fun i x j v hx hv=>?_⟩
  ·simp[World.cell?,hh]
  ·simp[World.frozen?,hh]
  ·have hf:=flat_get (hc:=hc) xs i x j v hx hv
   have hlt:i*k+j<xs.length*k:=by rw[←h1];exact(List.getElem?_eq_some_iff.1 hf).1
   rw[←ht,List.getElem?_take,if_pos hlt] at hf
   simpa using hf
def fE (r:I):I:=if r=115 then 40 else if r=116∨r=109 then 300 else 0
structure Af (w:G) (na:Option Addr) (nn nc:C) (va:Option Addr) (vn vc:C) (names:F Bs) (aA:F To):Prop where
 rn:Row w 1 encStr na nn nc names
 rv:Row w 2 j3 va vn vc aA
 wn:∀s∈names,aU ⟨s.toArray⟩=true
 wv:∀t∈aA,gZ t
 g:jY w
 T:Lib.Utf8Tabs 6 7 w
theorem Af.below {w w':G} {na:Option Addr} {nn nc:C} {va:Option Addr} {vn vc:C} {names:F Bs} {aA:F To} (h:Af w na nn nc va vn vc names aA) (hb:Below w.heap.size w w'):Af w' na nn nc va vn vc names aA:=
 ⟨h.rn.below hb rfl,h.rv.below hb rfl,h.wn,h.wv,h.g.below hb,Utf8Tabs_below h.T hb⟩
theorem Nc:∀args w,(callFunc 91 args).run S w= .ok (.enter 91 args) w:=enters_of func91 au rfl
theorem Nb:∀args w,(callFunc 94 args).run S w= .ok (.enter 94 args) w:=enters_of func94 au rfl
theorem Af.names {w:G} {na:Option Addr} {nn nc:C} {va:Option Addr} {vn vc:C} {names:F Bs} {aA:F To} (h:Af w na nn nc va vn vc names aA):
  Calls S 93 #[.slice na nn nc,.func (.func 94) #[] #[]] w (aW (.bool O) w):=by
 have:=Ms na nn nc 94 #[] names (fun s=>!aU ⟨s.toArray⟩) w h.rn Nb (fun x _ W hb=>by simpa using EC x W (Utf8Tabs_below h.T hb))
 rwa[List.any_eq_false.2 (fun s hs=>by simp[h.wn s hs])] at this
theorem Af.aA {w:G} {na:Option Addr} {nn nc:C} {va:Option Addr} {vn vc:C} {names:F Bs} {aA:F To} (h:Af w na nn nc va vn vc names aA):
  Calls S 90 #[.slice va vn vc,.func (.func 91) #[] #[]] w (aW (.bool O) w):=by
 have:=QE va vn vc 91 #[] aA (fun _=>O) w h.rv Nc (fun x hx W hb=>by simpa using QZ x W (Utf8Tabs_below h.T hb) (h.wv x hx))
 rwa[List.any_eq_false.2 (fun s hs=>by simp)] at this
theorem KV (r:I) (w:G):Calls S 89 #[.int .i32 r] w (aW (.int .i64 (fE r)) w):=by
 by_cases h1:r=115
 ·subst h1
  go_enter func89,ntmps89;go_wp2_with fail;go_ret;exact⟨rfl,V _ _⟩
 ·have e1:(r==115)=O:=beq_eq_false_iff_ne.2 h1
  by_cases h2:r=116
  ·subst h2
   go_enter func89,ntmps89;go_wp2_with fail;go_ret;exact⟨rfl,V _ _⟩
  ·have e2:(r==116)=O:=beq_eq_false_iff_ne.2 h2
   by_cases h3:r=109
   ·subst h3
    go_enter func89,ntmps89;go_wp2_with fail;go_ret;exact⟨rfl,V _ _⟩
   ·have e3:(r==109)=O:=beq_eq_false_iff_ne.2 h3
    have hm:fE r=0:=by unfold fE;rw[if_neg h1,if_neg ah]
    rw[hm];go_enter func89,ntmps89;go_wp2_with fail;go_ret;exact⟨rfl,V _ _⟩
def Fu (b:UInt8):F Z:=[.int .u8 (b.toNat:I)]
instance ad2:Cells Fu 1:=⟨fun _=>rfl,by decide,fun x u h=>by simp[Fu] at h;subst h;rfl⟩
theorem ad3:(Tryz.prog.info? 5).map (fun i=>(i.zero.map (·.cells.size),i.size,i.bytes))=H (H 1,1,1):=au
theorem ZP:∃i z,Tryz.prog.info? 5=H i∧i.zero=H z∧i.size=1∧i.bytes=1∧z.cells.size=1:=lD ad3
def xA:C→C→Bs
 |0,_=>[]
 |f+1,n=>if n=0 then [] else xA f (n / 10)++[UInt8.ofNat (48+n % 10)]
theorem Dh:∀(f g n:C),n≤f→n≤g→xA f n=xA g n
 |0,0,_,_,_=>rfl
 |0,g+1,n,hf,_=>by
   obtain rfl:n=0:=by omega
   simp[xA]
 |f+1,0,n,_,hg=>by
   obtain rfl:n=0:=by omega
   simp[xA]
 |f+1,g+1,n,hf,hg=>by
  simp only[xA]
  split
  ·rfl
  ·rw[Dh f g (n / 10) ah ah]
def fZ (n:C):Bs:=xA n n
theorem uW {n:C} (h:0<n):fZ n=fZ (n / 10)++[UInt8.ofNat (48+n % 10)]:=by
 obtain⟨m,rfl⟩:∃m,n=m+1:=⟨n - 1,by omega⟩;show xA (m+1) (m+1)=_;simp only[xA];rw[if_neg ah,Dh m ((m+1) / 10) _ ah (Nat.le_refl _)]
 rfl
theorem Ed:∀(d n:C),n<10 ^ d→(fZ n).length≤d
 |d,0,_=>by simp[fZ,xA]
 |0,n+1,h=>by simp at h
 |d+1,n+1,h=>by
  rw[uW ah,List.length_append,List.length_singleton];have:=Ed d ((n+1) / 10) (by rw[Nat.pow_succ] at h;omega);omega
theorem Own.afK (X:G) (B m:C) (hB:B≤X.heap.size):Own (X.alloc (.cells #[.int .u8 (48+(m:I) % 10)] 5)) B 5 1 Fu (.slice (H ⟨X.heap.size,0,N⟩) 1 1) [UInt8.ofNat (48+m % 10)]:=
 Own.new (hc:=ad2) X B 5 #[.int .u8 (48+(m:I) % 10)] [UInt8.ofNat (48+m % 10)] hB (by
  simp[Fu];omega) (by simp[maxLen])
theorem PY (n:C) (h1:1≤n) (hn:n≤100000) (w:G):Calls S 141 #[.int .i64 n] w (aW (J ⟨(fZ n).toArray⟩) w):=by
 obtain⟨i,z,hi,hz,hsize,bP,hzs⟩:=ZP;have HI:=hid (⟨hi,hz,hsize,bP,hzs⟩:_∧_∧_∧_∧_);clear hi hz hsize bP hzs;go_enter func141,ntmps141;go_wp2_with fail
 go_loopw [3,4,5] (fun v o b wr=>∃(m:C) (a0:Option Addr) (c0:C) (ds:Bs) (f:Bool),v= .int .u64 m∧o= .slice a0 ds.length c0∧b= .bool f∧fZ n=fZ m++ds∧(f=true→0<m)∧m≤n∧ds.length≤n∧ds.length+m≤n∧
   Own wr w.heap.size 5 1 Fu (.slice a0 ds.length c0) ds∧Below w.heap.size w wr) (fun v _ _ _=>(RowKit.intOf v).toNat)
 case atStart=>exact⟨n,N,0,[],true,rfl,rfl,rfl,by simp,fun _=>by omega,Nat.le_refl _,Nat.zero_le _,by simp,Own.iE _ _ _ _ _,V _ _⟩
 case round=>
  obtain⟨m,a0,c0,ds,f,rfl,rfl,rfl,hd,hf,hm,hl,hlm,how,hbw⟩:=hrel;by_cases h0:0<m
  ·have HOW:=hid how;have bK:=hid hbw;have HD:=hid hd
   have HGT:((10:I)>0):=by decide
   clear how hbw hd;have hm0:((m:I)>0):=by omega
   have Mi:=hid (Own.afK wr w.heap.size m bK.q.size);have lC:=hid ((HOW.q.below (av (V _ _) (.cells #[.int .u8 (48+(m:I) % 10)] 5)) rfl).row ah);have iK:Hid ([UInt8.ofNat (48+m % 10)].length+ds.length=1+ds.length):=hid rfl;have gX:Hid ((1+ds.length)*1≤140737488355328):=hid ah;have fH:Hid (1+ds.length≤maxLen):=hid (by unfold maxLen;omega);have ql:Hid (w.heap.size≤(wr.alloc (.cells #[.int .u8 (48+(m:I) % 10)] 5)).heap.size):=hid (by have:=bK.q.size;simp;omega);have HB2:=hid ((bK.q).alloc bK.q.size (.cells #[.int .u8 (48+(m:I) % 10)] 5));have HD2:Hid (fZ n=fZ (m / 10)++(UInt8.ofNat (48+m % 10)::ds)):=hid (by rw[HD.q,uW h0,List.append_assoc];rfl);clear hf
   cases f
   ·go_wp2_with (at_builtin;refine dV rfl _ _ 127 rfl i z 1 underlying127 HI.q.1 HI.q.2.1 HI.q.2.2.1 HI.q.2.2.2.1 HI.q.2.2.2.2 rfl Mi.q a0 ds.length c0 (1+ds.length) ds rfl lC.q iK.q gX.q fH.q ql.q ?_;intro a' c' w1 hown1 hg1 qX)
    have HR1:=hid (⟨hown1,below_app HB2.q Mi.q (Nat.le_refl _) ql.q hg1⟩:_∧_);clear hown1 hg1 qX;go_roundw
    case rel=>exact⟨m / 10,a',c',UInt8.ofNat (48+m % 10)::ds,O,by go_num,by rw[List.length_cons,Nat.add_comm],rfl,HD2.q,fun h=>(by cases h),by omega,by rw[List.length_cons];omega,by rw[List.length_cons];omega,by rw[List.length_cons,Nat.add_comm];exact HR1.q.1,HR1.q.2⟩
    case measure=>simp[RowKit.intOf];omega
   ·go_wp2_with (at_builtin;refine dV rfl _ _ 127 rfl i z 1 underlying127 HI.q.1 HI.q.2.1 HI.q.2.2.1 HI.q.2.2.2.1 HI.q.2.2.2.2 rfl Mi.q a0 ds.length c0 (1+ds.length) ds rfl lC.q iK.q gX.q fH.q ql.q ?_;intro a' c' w1 hown1 hg1 qX)
    have HR1:=hid (⟨hown1,below_app HB2.q Mi.q (Nat.le_refl _) ql.q hg1⟩:_∧_);clear hown1 hg1 qX;go_roundw
    case rel=>exact⟨m / 10,a',c',UInt8.ofNat (48+m % 10)::ds,O,by go_num,by rw[List.length_cons,Nat.add_comm],rfl,HD2.q,fun h=>(by cases h),by omega,by rw[List.length_cons];omega,by rw[List.length_cons];omega,by rw[List.length_cons,Nat.add_comm];exact HR1.q.1,HR1.q.2⟩
    case measure=>simp[RowKit.intOf];omega
  ·obtain rfl:m=0:=by omega
   obtain rfl:f=O:=by cases f;rfl;exact absurd (hf rfl) ah
   obtain rfl:ds=fZ n:=by simpa[fZ,xA] using hd.symm
   have hpos:0<(fZ n).length:=by rw[uW ah];simp
   have hrow:=how.row ah;obtain⟨_,bb,oo,_,rfl,_⟩:=hrow.at_ hpos;have hcv:(convert 127 9 (.slice (H ⟨bb,oo,N⟩) (fZ n).length c0)).run S wr= .ok (.string (strOfNums ((fZ n).map (fun u=>(u.toNat:I))))) wr:=
    run_convert_bytes_arg wr 127 5 underlying127 Tryz.underlying5 bb oo _ c0 ((fZ n).map (fun u=>(u.toNat:I))) ak (fun i hi=>by
     obtain⟨x,b',o',hx,hab,hc⟩:=hrow.at_ hi
     cases hab
     have:=hc 0 _ rfl;rw[Nat.mul_one,Nat.add_zero] at this;rw[this,List.getD_eq_getElem?_getD,List.getElem?_map,hx];rfl) 9 Tryz.underlying9
   have hst:strOfNums ((fZ n).map (fun u=>(u.toNat:I)))=⟨(fZ n).toArray⟩:=by
    unfold strOfNums;rw[List.map_map]
    congr 2
    conv=>rhs;rw[←List.map_id (fZ n)]
    apply List.map_congr_left
    intro u _;simp
   rw[hst] at hcv;have bK:=hid hbw;clear how hbw hd hrow hst hpos;go_wp2_with fail;go_ret;exact⟨rfl,bK.q⟩
theorem KN (a b:Bs):(⟨a.toArray⟩++⟨b.toArray⟩:ByteArray)=⟨(a++b).toArray⟩:=by
 apply ByteArray.ext;simp
theorem aiL (a b c:Bs):(⟨a.toArray⟩++⟨b.toArray⟩++⟨c.toArray⟩:ByteArray)=⟨(a++(b++c)).toArray⟩:=by
 rw[KN,KN,List.append_assoc]
def dm (t:To):Bs:=if t.k=0 then [45] else t.name++46::fZ t.k.toNat
theorem Hq (t:To) (h0:0≤t.k) (h9:t.k≤999) (hn:t.name.length≤100000) (w:G):Calls S 59 #[qQ t] w (aW (J ⟨(dm t).toArray⟩) w):=by
 obtain⟨n,k⟩:=t;simp only at h0 h9 hn;obtain⟨m,rfl⟩:∃m:C,k=m:=⟨k.toNat,by omega⟩;by_cases hm:m=0
 ·subst hm
  go_enter func59,ntmps59;go_wp2_with fail;go_ret;exact⟨rfl,av (V _ _) _⟩
 ·have hk:((m:I)==0)=O:=beq_eq_false_iff_ne.2 ah
  have hq:dm ⟨n,m⟩=n++46::fZ m:=by
   unfold dm;rw[if_neg (by simpa using hm),Int.toNat_natCast]
  rw[hq];have HD:=fun W=>hid (PY m ah ah W)
  have HB:=hid (av (V w.heap.size w) (.cells #[J ⟨n.toArray⟩,.int .i64 m] 76));have HX:=hid (Bx.new w #[J ⟨n.toArray⟩,.int .i64 m] 76);have hd3:(fZ m).length≤3:=Ed 3 m ah;have hN1:¬(9223372036854775807<n.length+1):=by omega
  have hN2:¬(9223372036854775807<n.length+1+(fZ m).length):=by omega
  clear hq h0 h9;go_enter func59,ntmps59;go_wp2_with fail;refine aK 8 [(0,0),(1,0),(2,0),(3,0),(4,0),(5,2),(6,0),(7,0)] (fun _=>True) (fun W'=>W'.cell? ⟨w.heap.size,0,N⟩=H (J ⟨n.toArray⟩)∧W'.cell? ⟨w.heap.size,1,N⟩=H (.int .i64 m)) au au (trivial) (⟨HX.q.1 0,HX.q.1 1⟩) ?_;refine qC ?_;refine aF rfl rfl (fun K hK=>?_);go_simp;refine(HD _).q.mono ?_;rintro en w2 ⟨rfl,hb2⟩;have HB2:=hid (HB.q.drew.trans (hb2.mono HB.q.drew.size));refine hK _ _ ⟨trivial,(HX.q.drew.keep hb2).1 0,(HX.q.drew.keep hb2).1 1⟩ ?_;clear hK K hb2;refine qC ?_;refine bB ?_;go_wp2_with fail;go_ret;exact⟨congrArg (fun s=>Ending.returned (.string s)) (aiL n [46] (fZ m)),HB2.q⟩
structure akC (h:HC) (l:aV) (w0 w:G) (Lk:aV) (ns:F Bs) (vs:F To) (X:G):Prop where
 b0:Bx X w.heap.size (aC h)
 b1:Bx X (w.heap.size+1) (gI Lk)
 b3:Bx X (w.heap.size+3) #[.int .i64 0,.slice N 0 0,.int .i64 0,.slice N 0 0,.bool O,.int .i64 0]
 on:Own X w0.heap.size 9 1 encStr (.slice Lk.na Lk.nn Lk.nc) ns
 ov:Own X w0.heap.size 76 2 j3 (.slice Lk.va Lk.vn Lk.vc) vs
 fn:∀g,(Value.slice Lk.na Lk.nn Lk.nc).ownBlock=H g→g<w.heap.size∨w.heap.size+4≤g
 fv:∀g,(Value.slice Lk.va Lk.vn Lk.vc).ownBlock=H g→g<w.heap.size∨w.heap.size+4≤g
 be:Below w0.heap.size w0 X
 kw:Kept w l X
 gr:aiJ w l Lk
 sz:w.heap.size+4≤X.heap.size
theorem Own.strs {X:G} {g:C} (h:X.heap.size=g) (l:F Bs) (hl:l.length≤maxLen):Own (X.alloc (.cells (l.map (fun s=>Value.string ⟨s.toArray⟩)).toArray 9)) g 9 1 encStr (.slice (H ⟨g,0,N⟩) l.length l.length) l:=by
 subst h;exact Own.new (hc:=iM) X X.heap.size 9 _ l (Nat.le_refl _) (by
  show l.map (fun s=>Value.string ⟨s.toArray⟩)=l.flatMap encStr
  induction l with
  |nil=>rfl
  |cons a l ih=>rw[List.map_cons,List.flatMap_cons,ih (by simp at hl;omega)];rfl) hl
def jA (b:I):C→F Bs
 |0=>[]
 |j+1=>jA b j++if b / 2 ^ j % 2=1 then [gB j] else []
def j5 (b:I):F Bs:=jA b 4
theorem CG (b:I):∀j,(jA b j).length≤j
 |0=>Nat.le_refl _
 |j+1=>by
  have:=CG b j;simp only[jA,List.length_append]
  split <;> simp <;> omega
theorem Di {b:I} {x:Bs}:∀{j:C},x∈jA b j→∃i,x=gB i
 |0,h=>by simp[jA] at h
 |j+1,h=>by
  simp only[jA,List.mem_append] at h;rcases h with h|h
  ·exact Di h
  ·split at h
   ·exact⟨j,by simpa using h⟩
   ·cases h
def gT (s:aB):F Bs:=
 let k:=s.kind.toNat
 let fn:=(bA k).toNat
 let r:=bH k
 aO k::s.names.take fn++
  ((if r=108 then [fJ s.lvl.toNat] else if r=118 then s.aA.take 1|>.map dm else if r=103 then j5 s.bits else if r=109∧s.first=true then [[45]] else [])++
  if r=115 then(s.names.drop fn).zip s.aA|>.flatMap (fun p=>[p.1,dm p.2]) else s.names.drop fn)
def qc (s:aB):Bs:=Lib.join (gT s) [32]++[10]
theorem Row.takeN {α:Type} {enc:α→F Z} {w:G} {k:C} {b o n c:C} {xs:F α} (h:Row w k enc (H ⟨b,o,N⟩) n c xs) {m c':C} (hm:m≤n) (hc:m≤c'):Row w k enc (H ⟨b,o,N⟩) m c' (xs.take m):=by
 refine⟨by rw[List.length_take,h.len];omega,hc,Nat.le_trans hm h.le,fun h=>(by cases h),fun i x hx=>?_⟩;rw[List.getElem?_take] at hx
 split at hx
 ·exact h.2.2.2.2 i x hx
 ·cases hx
theorem Own.len {α:Type} {enc:α→F Z} {w:G} {B k n c:C} {E:TypeId} {a:Option Addr} {xs:F α} (h:Own w B E k enc (.slice a n c) xs):n=xs.length:=by
 obtain⟨a',c',e,_⟩:=h.shape;injection e
structure pX (w w1:G) (c0 c1:Array Z) (X:G) (a:Option Addr) (n c:C) (ws:F Bs):Prop where
 x:Bx X w.heap.size c0
 y:Bx X w1.heap.size c1
 o:Own X (w1.heap.size+1) 9 1 encStr (.slice a n c) ws
 b:Below w.heap.size w X
 s:w1.heap.size+1≤X.heap.size
theorem pX.snoc {w w1 X X':G} {c0 c1:Array Z} {a a':Option Addr} {n c c':C} {ws:F Bs} {s:Bs} (h:pX w w1 c0 c1 X a n c ws) (hlt:w.heap.size<w1.heap.size)
  (hown:Own X' (w1.heap.size+1) 9 1 encStr (.slice a' (n+1) c') (ws++[s])) (hg:(X.alloc (.cells #[J ⟨s.toArray⟩] 9)).grownBy X' (Value.slice a n c).ownBlock):pX w w1 c0 c1 X' a' (n+1) c' (ws++[s]):=
 ⟨(h.x.alloc _).grown hg (fun e=>by have:=(h.o.lt _ e).1;omega),(h.y.alloc _).grown hg (fun e=>by have:=(h.o.lt _ e).1;omega),hown,
  below_app (h.b.alloc h.b.size _) (h.o.alloc _) ah (by have:=h.s;simp;omega) hg,by have:=hg.size;have:=h.s;simp at*;omega⟩
theorem pX.call {w w1 X X':G} {c0 c1:Array Z} {a:Option Addr} {n c:C} {ws:F Bs} (h:pX w w1 c0 c1 X a n c ws) (hb:Below X.heap.size X X'):pX w w1 c0 c1 X' a n c ws:=
 ⟨h.x.keep hb,h.y.keep hb,h.o.below hb rfl,h.b.trans (hb.mono h.b.size),Nat.le_trans h.s hb.size⟩
theorem K8 (ws:F Bs) (h:∀x∈ws,x.length≤40):(Lib.join ws [32]).length≤41*ws.length:=by
 show([32].intercalate ws:Bs).length≤_
 induction ws with
 |nil=>simp
 |cons a l ih=>
  have h1:=h a List.mem_cons_self;have h2:=ih (fun x hx=>h x (List.mem_cons_of_mem _ hx))
  cases l with
  |nil=>simp;omega
  |cons b r=>
   rw[List.intercalate_cons_cons];simp only[List.length_append,List.length_cons,List.length_nil] at*;omega
theorem Ww (a:Option Addr) (n c:C) (ws:F Bs) (w:G) (hr:Row w 1 encStr a n c ws) (hn:0<n) (hw:∀x∈ws,x.length≤40) (hl:n≤100000):
  Calls S 60 #[.slice a n c,J ⟨#[32]⟩] w (aW (J ⟨(Lib.join ws [32]).toArray⟩) w):=by
 obtain⟨_,b,o,_,rfl,hc⟩:=hr.at_ hn;have hlen:=hr.len;subst hlen;have hm:(ws.map (fun s=>(⟨s.toArray⟩:ByteArray))).map (·.data.toList)=ws:=by
  rw[List.map_map]
  conv=>rhs;rw[←List.map_id ws]
  exact List.map_congr_left (fun x _=>rfl)
 have hj:=K8 ws hw;have hbk:b<w.heap.size:=by
  have:=hc 0 _ rfl;exact dS this
 have:=Tryz.strings_Join b o c (ws.map (fun s=>(⟨s.toArray⟩:ByteArray))) ⟨#[32]⟩ w (fun j x hx=>by
  rw[List.getElem?_map] at hx
  cases hy:ws[j]? with
  |none=>rw[hy] at hx;cases hx
  |some y=>
   rw[hy] at hx;simp only[Option.map_some,Option.some.injEq] at hx;subst hx;obtain⟨_,b',o',hx',hab,hc'⟩:=hr.at_ (i:=j) (List.getElem?_eq_some_iff.1 hy).1
   cases hab
   rw[hy] at hx';cases hx';have:=hc' 0 _ rfl
   rwa[Nat.mul_one,Nat.add_zero] at this) hbk (by rw[List.length_map];omega) (by rw[List.length_map];exact hr.cap) (by rw[hm];show(Lib.join ws [32]).length≤_;omega)
 rw[hm,List.length_map] at this;exact this
theorem Ee {s:Bs} (h:aU ⟨s.toArray⟩=true):s.length≤24:=by
 simp only[aU,Bool.and_eq_true,decide_eq_true_eq] at h;have:=h.1.1.2;simp only[ByteArray.size,List.size_toArray] at this;omega
theorem K9 {t:To} (h:gZ t):(dm t).length≤40:=by
 unfold dm;rcases h with rfl|⟨h1,h2,h3⟩
 ·decide
 ·rw[if_neg ah]
  have:=Ee h1;have:=Ed 3 t.k.toNat ah;simp;omega
theorem Tf {t:To} (h:gZ t):0≤t.k∧t.k≤999∧t.name.length≤100000:=by
 rcases h with rfl|⟨h1,h2,h3⟩
 ·decide
 ·have:=Ee h1
  exact⟨by omega,h3,by omega⟩
theorem Tg (i:C):(fJ i).length≤40:=by unfold fJ;split <;> decide
theorem Wx (i:C):(aO i).length≤40:=by unfold aO;split <;> decide
theorem Ti (i:C):(gB i).length≤40:=by unfold gB;split <;> decide
theorem Tj (s:aB) (hn:∀x∈s.names,aU ⟨x.toArray⟩=true) (hv:∀t∈s.aA,gZ t):∀x∈gT s,x.length≤40:=by
 have hn':∀x∈s.names,x.length≤40:=fun x hx=>by have:=Ee (hn x hx);omega
 intro x hx;simp only[gT,List.cons_append,List.mem_cons,List.mem_append] at hx;rcases hx with rfl|hx|hx|hx
 ·exact Wx _
 ·exact hn' x (List.mem_of_mem_take hx)
 ·split at hx
  ·simp only[List.mem_singleton] at hx;subst hx;exact Tg _
  ·split at hx
   ·obtain⟨t,ht,rfl⟩:=List.mem_map.1 hx
    exact K9 (hv t (List.mem_of_mem_take ht))
   ·split at hx
    ·obtain⟨i,rfl⟩:=Di hx
     exact Ti _
    ·split at hx
     ·simp only[List.mem_singleton] at hx;subst hx;decide
     ·cases hx
 ·split at hx
  ·obtain⟨p,hp,hx⟩:=List.mem_flatMap.1 hx
   obtain⟨h1,h2⟩:=List.of_mem_zip hp;simp only[List.mem_cons,List.not_mem_nil,or_false] at hx;rcases hx with rfl|rfl
   ·exact hn' _ (List.mem_of_mem_drop h1)
   ·exact K9 (hv _ h2)
  ·exact hn' x (List.mem_of_mem_drop hx)
theorem Wy (W:G):(Instr.index 120 (.agg #[J ⟨#[114,121,119]⟩,J ⟨#[109,114]⟩,J ⟨#[109,119]⟩,J ⟨#[119,102,114]⟩]) (.int .i64 0)).run S W= .ok (J ⟨#[114,121,119]⟩) W:=au
theorem Wz (W:G):(Instr.index 120 (.agg #[J ⟨#[114,121,119]⟩,J ⟨#[109,114]⟩,J ⟨#[109,119]⟩,J ⟨#[119,102,114]⟩]) (.int .i64 1)).run S W= .ok (J ⟨#[109,114]⟩) W:=au
theorem WA (W:G):(Instr.index 120 (.agg #[J ⟨#[114,121,119]⟩,J ⟨#[109,114]⟩,J ⟨#[109,119]⟩,J ⟨#[119,102,114]⟩]) (.int .i64 2)).run S W= .ok (J ⟨#[109,119]⟩) W:=au
theorem WB (W:G):(Instr.index 120 (.agg #[J ⟨#[114,121,119]⟩,J ⟨#[109,114]⟩,J ⟨#[109,119]⟩,J ⟨#[119,102,114]⟩]) (.int .i64 3)).run S W= .ok (J ⟨#[119,102,114]⟩) W:=au
theorem WC:∀b:Fin 16,∀j:Fin 4,(Go.bits .and .i64 ((b.val:I) / 2 ^ j.val) 1==1)=decide ((b.val:I) / 2 ^ j.val % 2=1):=by decide
theorem WE (b j:C) (hb:b≤15) (hj:j<4):(Go.bits .and .i64 ((b:I) / 2 ^ j) 1==1)=decide ((b:I) / 2 ^ j % 2=1):=WC ⟨b,by omega⟩ ⟨j,hj⟩
abbrev Er:=Bs × I
def eT (c:UInt8):Bool:=c==32||c==9
def aY (l:Bs):Bs:=l.dropWhile eT
def bR (l:Bs):Bool:=l.head?==N||l.head?==H 10||l.head?==H 35
def bN (l:Bs):Except Er (Bool × Bs):=
 if bR (aY l)=true then .ok (O,aY l) else if(aY l).length=l.length then .error (aY l,220) else .ok (true,aY l)
def bW (l:Bs):Except Er Bs:=
 match bN l with
 | .error x=> .error x
 | .ok (true,r)=> .ok r
 | .ok (O,r)=> .error (r,220)
def lI (c:UInt8):Bool:=(c==46||c==95)||(decide (48≤c) && decide (c≤57))||(decide (97≤c) && decide (c≤122))||(decide (65≤c) && decide (c≤90))
def cB (l:Bs):Bs:=l.takeWhile lI
def kE (l:Bs):Bs:=match(l.drop (cB l).length).head? with
 |some c=>if 128≤c then cB l++[128] else cB l
 |none=>cB l
def gG:Bs→Bs→C
 |a::x,b::y=>if a=b then gG x y+1 else 0
 |_,_=>0
def uy (ws:F Bs) (t:Bs):C:=ws.foldl (fun m s=>max m (gG s t)) 0
def bZ (ws:F Bs) (l:Bs):Except Er (C × Bs):=
 match ws.findIdx? (fun s=>s==kE l) with
 |some i=> .ok (i,l.drop (cB l).length)
 |none=> .error (l.drop (uy ws (cB l)),220)
def bT (l:Bs):C:=dO ⟨l.toArray⟩ fV
def bL (l:Bs):Bool:=!l.isEmpty && (okB ⟨l.toArray⟩ 0 && iO (U ⟨l.toArray⟩ 0).1)
def qd (l:Bs):C:=(((bE ⟨l.toArray⟩ l.length 0).filter (fun i=>decide (i≤24))).getLast?).getD 0
def bI (l:Bs):Except Er (Bs × Bs):=
 if(bR l||!bL l)=true then .error (l,220)
 else if 24<bT l then .error (l.drop (qd (l.take (bT l))),220)
 else .ok (l.take (bT l),l.drop (bT l))
def fD (c:UInt8):Bool:=decide (48≤c) && decide (c≤57)
def mR (l:Bs):C:=l.foldl (fun n c=>n*10+(c.toNat - 48)) 0
def rz (nm:Bs) (l:Bs):Except Er (To × Bs):=
 let ds:=l.takeWhile fD
 if ds.head?=N∨ds.head?=H 48 then .error (l,220)
 else if 999<mR ds then .error (l,3)
 else .ok (⟨nm,mR ds⟩,l.drop ds.length)
def dQ (l:Bs):Except Er (To × Bs):=
 if l.head?=H 45 then .ok (⟨[],0⟩,l.tail)
 else match bI l with
  | .error x=> .error x
  | .ok (nm,r)=>if r.head?=H 46 then rz nm r.tail else .error (r,220)
def gD:C→F Bs→Bs→Except Er (F Bs × Bs)
 |0,acc,l=> .ok (acc,l)
 |k+1,acc,l=>
  match bW l with
  | .error x=> .error x
  | .ok r=>match bI r with
   | .error x=> .error x
   | .ok (nm,r')=>gD k (acc++[nm]) r'
def iP:F Bs:=[gB 0,gB 1,gB 2,gB 3]
def kD:F Bs:=[fJ 1,fJ 2,fJ 3,fJ 4]
def jV:F Bs:=[aO 1,aO 2,aO 3,aO 4,aO 5,aO 6,aO 7,aO 8,aO 9]
def fP:C→C→I→Bs→Except Er (I × Bs)
 |0,_,b,l=> .ok (b,l)
 |f+1,k,b,l=>
  match bN l with
  | .error x=> .error x
  | .ok (O,r)=> .ok (b,r)
  | .ok (true,r)=>match bZ (iP.drop k) r with
   | .error x=> .error x
   | .ok (i,r')=>fP f (k+i+1) (b+2 ^ (k+i)) r'
def bf (pairs:Bool) (most:C):C→C→F Bs→F To→Bs→Except Er ((F Bs × F To) × Bs)
 |0,_,ns,vs,l=> .ok ((ns,vs),l)
 |f+1,many,ns,vs,l=>
  match bN l with
  | .error x=> .error x
  | .ok (O,r)=> .ok ((ns,vs),r)
  | .ok (true,r)=>
   if many=most∧bL r=true then .error (r,3)
   else match bI r with
    | .error x=> .error x
    | .ok (nm,r1)=>
     if pairs=true then match bW r1 with
      | .error x=> .error x
      | .ok r2=>match dQ r2 with
       | .error x=> .error x
       | .ok (v,r3)=>bf pairs most f (many+1) (ns++[nm]) (vs++[v]) r3
     else bf pairs most f (many+1) (ns++[nm]) vs r1
def iD (l:Bs):Except Er (Bool × Bs):=
 match bN l with
 | .error x=> .error x
 | .ok (true,r)=>if r.head?=H 45 then .ok (true,r.tail) else .ok (O,l)
 | .ok (O,_)=> .ok (O,l)
def iy (k:C) (ns:F Bs) (l:Bs):Except Er (aB × Bs):=
 if k=1 then match bW l with
  | .error x=> .error x
  | .ok r=>match bZ kD r with
   | .error x=> .error x
   | .ok (i,r')=> .ok (⟨k,ns,1+i,[],O,0⟩,r')
 else if k=3 then match bW l with
  | .error x=> .error x
  | .ok r=>match dQ r with
   | .error x=> .error x
   | .ok (v,r')=> .ok (⟨k,ns,0,[v],O,0⟩,r')
 else if k=9 then match fP 5 0 0 l with
  | .error x=> .error x
  | .ok (b,r)=> .ok (⟨k,ns,0,[],O,b⟩,r)
 else if k=8 then match iD l with
  | .error x=> .error x
  | .ok (f,r)=>match bf O 300 301 0 ns [] r with
   | .error x=> .error x
   | .ok ((ns',vs'),r')=> .ok (⟨k,ns',0,vs',f,0⟩,r')
 else if k=4 then match bf true 40 41 0 ns [] l with
   | .error x=> .error x
   | .ok ((ns',vs'),r')=> .ok (⟨k,ns',0,vs',O,0⟩,r')
 else if k=7 then match bf O 300 301 0 ns [] l with
   | .error x=> .error x
   | .ok ((ns',vs'),r')=> .ok (⟨k,ns',0,vs',O,0⟩,r')
 else .ok (⟨k,ns,0,[],O,0⟩,l)
def fQ (l:Bs):Except Er (aB × Bs):=
 if bR (aY l)=true then .ok (⟨0,[],0,[],O,0⟩,aY l)
 else match bZ jV (aY l) with
  | .error x=> .error x
  | .ok (i,r)=>match gD (bA (i+1)).toNat [] r with
   | .error x=> .error x
   | .ok (ns,r1)=>match iy (i+1) ns r1 with
    | .error x=> .error x
    | .ok (s,r2)=>match bN r2 with
     | .error x=> .error x
     | .ok (true,r3)=> .error (r3,220)
     | .ok (O,r3)=> .ok (s,r3)
def Dx (r:I):Bool:=decide (32≤r)||r==9
def iA (l:Bs):Bs:=if l.head?=H 35 then l.drop (dO ⟨l.toArray⟩ Dx) else l
def mq (l:Bs):Except Er (aB × Bs):=
 match fQ l with
 | .error x=> .error x
 | .ok (s,r)=>
  if(iA r).head?=N then .ok (s,[]) else if(iA r).head?=H 10 then .ok (s,(iA r).tail) else .error (iA r,220)
@[reducible] def oh (s:Bs) (p:C) (c:aV):Array Z:=#[J ⟨s.toArray⟩,.int .i64 p,.int .i64 c.kind,.slice c.na c.nn c.nc,.int .i64 c.lvl,.slice c.va c.vn c.vc,.bool c.first,.int .i64 c.bits]
structure bX (w:G) (R:C) (s:Bs) (p:C) (l:Bs) (c:aV) (n:aB):Prop where
 x:Bx w R (oh s p c)
 n:fq w (R+1) c n
 d:s.drop p=l
 le:p≤s.length
 lim:s.length≤1000000
def kS (R:C) (c:aV) (i:C):Prop:=i≠R∧(Value.slice c.na c.nn c.nc).ownBlock≠H i∧(Value.slice c.va c.vn c.vc).ownBlock≠H i
structure Mv (R:C) (c c':aV) (w w':G):Prop where
 same:Same (kS R c) w w'
 na:∀g,(Value.slice c'.na c'.nn c'.nc).ownBlock=H g→(Value.slice c.na c.nn c.nc).ownBlock=H g∨w.heap.size≤g
 va:∀g,(Value.slice c'.va c'.vn c'.vc).ownBlock=H g→(Value.slice c.va c.vn c.vc).ownBlock=H g∨w.heap.size≤g
theorem Mv.refl (R:C) (c:aV) (w:G):Mv R c c w w:=⟨Same.refl' _,fun _ h=> .inl h,fun _ h=> .inl h⟩
theorem Mv.of_below {R:C} {c:aV} {w w':G} (h:Below w.heap.size w w'):Mv R c c w w':=⟨Same.of_below h (fun _ _ h=>h),fun _ h=> .inl h,fun _ h=> .inl h⟩
theorem Mv.rda {R:C} {c c':aV} {w w':G} (h:Mv R c c' w w') {i:C} (hi:kS R c i) (hl:i<w.heap.size):kS R c' i:=
 ⟨hi.1,fun e=>(h.na i e).elim hi.2.1 (fun k=>by omega),fun e=>(h.va i e).elim hi.2.2 (fun k=>by omega)⟩
theorem Mv.gW {R:C} {c c':aV} {w w' w'':G} (h:Mv R c c' w w') (k:Same (kS R c') w' w''):Same (kS R c) w w'':=
 ⟨k.os.trans h.same.os,k.tape.trans h.same.tape,k.output.trans h.same.output,Nat.le_trans h.same.size k.size,fun i hi hl=>(k.block i (h.rda hi hl) (Nat.lt_of_lt_of_le hl h.same.size)).trans (h.same.block i hi hl)⟩
theorem Mv.trans {R:C} {c c' c'':aV} {w w' w'':G} (h:Mv R c c' w w') (k:Mv R c' c'' w' w''):Mv R c c'' w w'':=
 ⟨h.gW k.same,fun g hg=>(k.na g hg).elim (fun e=>h.na g e) (fun e=> .inr (Nat.le_trans h.same.size e)),fun g hg=>(k.va g hg).elim (fun e=>h.va g e) (fun e=> .inr (Nat.le_trans h.same.size e))⟩
theorem Mv.bx {R:C} {c c':aV} {w w':G} (h:Mv R c c' w w') {b:C} {cs:Array Z} (hb:Bx w b cs) (hA:kS R c b):Bx w' b cs:=h.same.bx hb hA
theorem bX.new {w:G} {R p:C} {s l:Bs} {c:aV} {n:aB} (h:bX w R s p l c n) {i:C} (hi:w.heap.size≤i):kS R c i:=
 ⟨by have:=h.x.2.2;omega,h.n.2.1.far' (.inr hi),h.n.2.2.far' (.inr hi)⟩
theorem bX.old {w:G} {R p:C} {s l:Bs} {c:aV} {n:aB} (h:bX w R s p l c n) {i:C} (hi:i<R):kS R c i:=
 ⟨by omega,h.n.2.1.far' (.inl ah),h.n.2.2.far' (.inl ah)⟩
theorem bX.below {w w':G} {R p:C} {s l:Bs} {c:aV} {n:aB} (h:bX w R s p l c n) (hb:Below w.heap.size w w'):bX w' R s p l c n:=
 ⟨h.x.keep hb,h.n.below hb,h.d,h.le,h.lim⟩
theorem bX.len {w:G} {R p:C} {s l:Bs} {c:aV} {n:aB} (h:bX w R s p l c n):p+l.length=s.length:=by
 have:=h.le;rw[←h.d,List.length_drop];omega
theorem bX.go {w:G} {R p:C} {s l:Bs} {c:aV} {n:aB} (h:bX w R s p l c n) (k:C) (hk:k≤l.length):
  bX (w.setCell ⟨R,1,N⟩ (.int .i64 ((p+k:C):I))) R s (p+k) (l.drop k) c n∧Mv R c c w (w.setCell ⟨R,1,N⟩ (.int .i64 ((p+k:C):I))):=by
 have hx:=h.x.aR 1 ak (.int .i64 ((p+k:C):I));have hs:Same (kS R c) w (w.setCell ⟨R,1,N⟩ (.int .i64 ((p+k:C):I))):=Same.setCell _ _ _ _ (fun e=>e.1 rfl);refine⟨⟨hx,⟨h.n.1,h.n.2.1.block fun g hg=>?_,h.n.2.2.block fun g hg=>?_⟩,?_,?_,h.lim⟩,hs,fun _ h=> .inl h,fun _ h=> .inl h⟩
 ·exact Below.heap_setCell _ _ _ _ (by have:=(h.n.2.1.lt g hg).1;simp;omega)
 ·exact Below.heap_setCell _ _ _ _ (by have:=(h.n.2.2.lt g hg).1;simp;omega)
 ·rw[←h.d,List.drop_drop]
 ·have:=h.len;omega
theorem dR (l:Bs):ByteArray.size ⟨l.toArray⟩=l.length:=by simp[ByteArray.size]
theorem Ef (s:Bs) (p:C):(⟨s.toArray⟩:ByteArray).extract p s.length=⟨(s.drop p).toArray⟩:=by
 apply ByteArray.ext
 rw[ByteArray.data_extract]
 apply Array.ext'
 simp[List.take_of_length_le]
theorem mM (s:Bs) (p:C):(⟨s.toArray⟩:ByteArray).extract 0 p=⟨(s.take p).toArray⟩:=by
 apply ByteArray.ext
 rw[ByteArray.data_extract]
 apply Array.ext'
 simp
theorem nT (l:Bs) (p:C):U ⟨l.toArray⟩ p=U ⟨(l.drop p).toArray⟩ 0:=by
 rw[←Ef];have:=Lib.tail_decode ⟨l.toArray⟩ p 0;rw[dR] at this;rw[this,Nat.add_zero]
theorem La (l:Bs) (p:C):okB ⟨l.toArray⟩ p=okB ⟨(l.drop p).toArray⟩ 0:=by unfold okB;rw[nT]
theorem mh (b:UInt8) (t:Bs) (h:b.toNat<128):U ⟨(b::t).toArray⟩ 0=(b.toNat,1):=decode_ascii ⟨(b::t).toArray⟩ 0 (by rw[dR];simp) h
theorem uV (b:UInt8) (t:Bs) (h:128≤b.toNat):128≤(U ⟨(b::t).toArray⟩ 0).1∧1≤(U ⟨(b::t).toArray⟩ 0).2:=decode_high ⟨(b::t).toArray⟩ 0 (by rw[dR];simp) h
theorem uI (l:Bs) (h:l≠[]):1≤(U ⟨l.toArray⟩ 0).2:=by
 cases l with
 |nil=>exact absurd rfl h
 |cons b t=>
  rcases Nat.lt_or_ge b.toNat 128 with h1|h1
  ·rw[mh b t h1];exact Nat.le_refl _
  ·exact(uV b t h1).2
theorem Iu (b:UInt8) (t:Bs) (h:b.toNat<128):okB ⟨(b::t).toArray⟩ 0=true:=by
 unfold okB;rw[mh b t h];rw[show((b.toNat:I)==65533)=O from beq_eq_false_iff_ne.2 ah];rfl
theorem yM (l:Bs) (d:C):∀(n p:C),bE ⟨l.toArray⟩ n (d+p)=(bE ⟨(l.drop d).toArray⟩ n p).map (d+ ·)
 |0,_=>rfl
 |n+1,p=>by
  simp only[bE,dR,List.length_drop];have e:U ⟨l.toArray⟩ (d+p)=U ⟨(l.drop d).toArray⟩ p:=by
   rw[nT l (d+p),nT (l.drop d) p,List.drop_drop]
  by_cases h:d+p<l.length
  ·rw[if_pos h,if_pos ah,e,Nat.add_assoc,yM l d n];rfl
  ·rw[if_neg h,if_neg ah];rfl
theorem xB (s:ByteArray):∀(n m p:C),s.size≤p+n→s.size≤p+m→bE s n p=bE s m p
 |0,m,p,h1,_=>by cases m <;> simp only[bE];rw[if_neg ah]
 |n+1,0,p,_,h2=>by simp only[bE];rw[if_neg ah]
 |n+1,m+1,p,h1,h2=>by
  simp only[bE];by_cases h:p<s.size
  ·rw[if_pos h,if_pos h]
   have:=width_pos s p h;rw[xB s n m _ ah ah]
  ·rw[if_neg h,if_neg h]
theorem sO (l:Bs) (h:l≠[]):(U ⟨l.toArray⟩ 0).2≤l.length:=by
 have h1:1≤l.length:=by
  cases l with
  |nil=>exact absurd rfl h
  |cons b t=>simp
 unfold U;simp only[dR]
 split
 ·exact h1
 split
 ·rename_i g
  simp only[Bool.and_eq_true,decide_eq_true_eq] at g
  split
  ·show 2≤_;omega
  ·exact h1
 split
 ·rename_i g
  simp only[Bool.and_eq_true,decide_eq_true_eq] at g
  split
  ·show 3≤_;omega
  ·exact h1
 split
 ·rename_i g
  simp only[Bool.and_eq_true,decide_eq_true_eq] at g
  split
  ·show 4≤_;omega
  ·exact h1
 ·exact h1
theorem PZ (l:Bs) (p:I→Bool) (d q:C):oM ⟨l.toArray⟩ p (d+q)=oM ⟨(l.drop d).toArray⟩ p q:=by
 unfold oM;rw[La l (d+q),La (l.drop d) q,nT l (d+q),nT (l.drop d) q,List.drop_drop]
theorem dY (l:Bs) (p:I→Bool) (h:l≠[]):dO ⟨l.toArray⟩ p=
  if(okB ⟨l.toArray⟩ 0 && p ((U ⟨l.toArray⟩ 0).1:I))=true then(U ⟨l.toArray⟩ 0).2+dO ⟨(l.drop (U ⟨l.toArray⟩ 0).2).toArray⟩ p else 0:=by
 obtain⟨d,hd⟩:∃d,d=(U ⟨l.toArray⟩ 0).2:=⟨_,rfl⟩;have hw:=uI l h;rw[←hd] at hw ⊢;obtain⟨n,hn⟩:∃n,l.length=n+1:=⟨l.length - 1,by have:l.length≠0:=fun e=>h (List.eq_nil_of_length_eq_zero e);omega⟩;have hp:bE ⟨l.toArray⟩ l.length 0=0::(bE ⟨(l.drop d).toArray⟩ (l.drop d).length 0).map (d+ ·):=by
  rw[hn];simp only[bE,dR];rw[if_pos ah,←hd,Nat.zero_add,←Nat.add_zero d,yM,Nat.add_zero,xB ⟨(l.drop d).toArray⟩ n (l.drop d).length 0 (by rw[dR,List.length_drop];omega) (by rw[dR];omega)]
 unfold dO;rw[dR,dR,hp];simp only[List.find?_cons,List.find?_map];unfold oM
 cases hk:(okB ⟨l.toArray⟩ 0 && p ((U ⟨l.toArray⟩ 0).1:I))
 ·simp
 ·simp only[Bool.not_true,if_true]
  have e:((fun pos=>!(okB ⟨l.toArray⟩ pos && p ((U ⟨l.toArray⟩ pos).1:I)))∘fun x=>d+x)=oM ⟨(l.drop d).toArray⟩ p:=by
   funext q
   exact PZ l p d q
  have e2:(fun pos=>!(okB ⟨(l.drop d).toArray⟩ pos && p ((U ⟨(l.drop d).toArray⟩ pos).1:I)))=oM ⟨(l.drop d).toArray⟩ p:=rfl;rw[e,e2]
  cases hf:List.find? (oM ⟨(l.drop d).toArray⟩ p) (bE ⟨(l.drop d).toArray⟩ (l.drop d).length 0) with
  |none=>
   simp only[Option.map_none,Option.getD_none];have hx:d≤l.length:=by rw[hd];exact sO l h
   rw[List.length_drop];omega
  |some q=>simp
theorem BS (p:I→Bool) (q:UInt8→Bool) (h:∀b:UInt8,b.toNat<128→p (b.toNat:I)=q b) (hh:∀r:C,128≤r→p (r:I)=O) (hq:∀b:UInt8,128≤b.toNat→q b=O):
  ∀l:Bs,dO ⟨l.toArray⟩ p=(l.takeWhile q).length
 |[]=>rfl
 |b::t=>by
  rw[dY (b::t) p ak];rcases Nat.lt_or_ge b.toNat 128 with h1|h1
  ·rw[mh b t h1,Iu b t h1,Bool.true_and,h b h1]
   cases hb:q b
   ·rw[List.takeWhile_cons,hb];rfl
   ·rw[if_pos rfl,List.takeWhile_cons,hb,if_pos rfl]
    show 1+dO ⟨t.toArray⟩ p=_;rw[BS p q h hh hq t,List.length_cons];omega
  ·rw[hh _ (uV b t h1).1,Bool.and_false,List.takeWhile_cons,hq b h1];rfl
theorem AB (p:C→Bool) (q:UInt8→Bool) (h:∀b:UInt8,b.toNat<128→p b.toNat=q b) (hh:∀r:C,128≤r→p r=O) (hq:∀b:UInt8,128≤b.toNat→q b=O) (l:Bs):
  ∀f pos:C,l.length≤pos+f→pos≤l.length→Lib.idxFuncFrom p O ⟨l.toArray⟩ f pos=if pos+((l.drop pos).takeWhile q).length<l.length then((pos+((l.drop pos).takeWhile q).length:C):I) else -1
 |0,pos,h1,h2=>by
  have e:pos=l.length:=by omega
  subst e;rw[if_neg ah];rfl
 |f+1,pos,h1,h2=>by
  unfold Lib.idxFuncFrom;rw[dR];by_cases hp:pos<l.length
  ·rw[if_pos hp]
   obtain⟨b,t,hbt⟩:∃b t,l.drop pos=b::t:=⟨_,_,List.drop_eq_getElem_cons hp⟩;rw[nT l pos,hbt];rcases Nat.lt_or_ge b.toNat 128 with h3|h3
   ·rw[mh b t h3]
    simp only[h b h3]
    cases hb:q b
    ·rw[if_pos rfl,List.takeWhile_cons,hb]
     simp only[Bool.false_eq_true,if_false,List.length_nil,Nat.add_zero];rw[if_pos hp]
    ·rw[if_neg ak,AB p q h hh hq l f (pos+1) ah ah]
     have ht:l.drop (pos+1)=t:=by rw[←List.drop_drop,hbt];rfl
     rw[ht,List.takeWhile_cons,hb,if_pos rfl,List.length_cons,show pos+1+(t.takeWhile q).length=pos+((t.takeWhile q).length+1) by omega]
   ·rw[if_pos (hh _ (uV b t h3).1),List.takeWhile_cons,hq b h3]
    simp only[Bool.false_eq_true,if_false,List.length_nil,Nat.add_zero];rw[if_pos hp]
  ·rw[if_neg hp,if_neg ah]
theorem uF {α:Type} (q:α→Bool) (l:F α):l.drop (l.takeWhile q).length=l.dropWhile q:=by
 induction l with
 |nil=>rfl
 |cons b t ih=>
  rw[List.takeWhile_cons,List.dropWhile_cons]
  cases q b
  ·rfl
  ·simpa using ih
theorem lY {α:Type} (q:α→Bool) (l:F α):(l.takeWhile q).length+(l.dropWhile q).length=l.length:=by
 rw[←List.length_append,List.takeWhile_append_dropWhile]
theorem P5 (p:C→Bool) (q:UInt8→Bool) (h:∀b:UInt8,b.toNat<128→p b.toNat=q b) (hh:∀r:C,128≤r→p r=O) (hq:∀b:UInt8,128≤b.toNat→q b=O) (l:Bs):
  Lib.trimLeftF p ⟨l.toArray⟩=⟨(l.dropWhile q).toArray⟩:=by
 have hl:=lY q l;unfold Lib.trimLeftF Lib.idxFunc;rw[dR,AB p q h hh hq l l.length 0 ah ah];simp only[List.drop_zero,Nat.zero_add];by_cases hp:(l.takeWhile q).length<l.length
 ·rw[if_pos hp,if_neg ah,Int.toNat_natCast,Ef,uF]
 ·rw[if_neg hp,if_pos rfl,List.eq_nil_of_length_eq_zero (l:=l.dropWhile q) ah]
def uY (r:I):Bool:=r==32||r==9
theorem Bl (b:UInt8):uY (b.toNat:I)=eT b:=by
 have hx:∀n:C,(((b.toNat:I)==(n:I))=decide (b.toNat=n)):=fun n=>by
  by_cases h:b.toNat=n
  ·simp[h]
  ·rw[beq_eq_false_iff_ne.2 ah];simp[h]
 have hy:∀c:UInt8,(b==c)=decide (b.toNat=c.toNat):=fun c=>by
  by_cases h:b=c
  ·simp[h]
  ·rw[beq_eq_false_iff_ne.2 h,decide_eq_false (fun e=>h (UInt8.toNat_inj.1 e))]
 unfold uY eT;rw[hy 32,hy 9,show(32:I)=((32:C):I) from rfl,show(9:I)=((9:C):I) from rfl,hx,hx];rfl
theorem Lb (r:C) (h:128≤r):uY (r:I)=O:=by
 unfold uY;rw[beq_eq_false_iff_ne.2 ah,beq_eq_false_iff_ne.2 ah];rfl
theorem Tk (b:UInt8) (h:128≤b.toNat):eT b=O:=by rw[←Bl];exact Lb _ h
theorem WG (l:Bs):dO ⟨l.toArray⟩ uY=(l.takeWhile eT).length:=BS uY eT (fun b _=>Bl b) Lb Tk l
theorem ZQ (l:Bs):Lib.trimLeftF (fun r=>uY (r:I)) ⟨l.toArray⟩=⟨(aY l).toArray⟩:=P5 _ eT (fun b _=>Bl b) Lb Tk l
theorem G9 (l:Bs):(aY l).length≤l.length:=by have:=lY eT l;unfold aY;omega
theorem Fj (l:Bs):l.drop (l.length - (aY l).length)=aY l:=by
 have:=lY eT l;unfold aY at*;rw[show l.length - (l.dropWhile eT).length=(l.takeWhile eT).length by omega,uF]
theorem ZR (l:Bs) (i:C) (b:UInt8) (h:l[i]?=H b):∃hi:i<ByteArray.size ⟨l.toArray⟩,(⟨l.toArray⟩:ByteArray)[i]'hi=b:=by
 obtain⟨h1,h2⟩:=List.getElem?_eq_some_iff.1 h;exact⟨by rw[dR];exact h1,by rw[←h2];rfl⟩
theorem gQ {P:Program} {t:TypeId} (ht:P.underlying t=H .string) (l:Bs) (i:C) (b:UInt8) (h:l[i]?=H b) (W:G):(Instr.index t (J ⟨l.toArray⟩) (.int .i64 (i:I))).run P W= .ok (.int .u8 (b.toNat:I)) W:=by
 obtain⟨hi,hx⟩:=ZR l i b h;rw[run_index_string W t _ .i64 i ht,dif_pos ⟨by omega,by omega⟩];simp only[Int.toNat_natCast,hx]
theorem lG {P:Program} {t:TypeId} (ht:P.underlying t=H .string) (l:Bs) (i:C) (h:i≤l.length) (W:G):(Instr.slice t (J ⟨l.toArray⟩) (H (.int .i64 (i:I))) N N).run P W= .ok (J ⟨(l.drop i).toArray⟩) W:=by
 rw[run_slice_string_l W t _ ht .i64 i ah (by rw[dR];omega),Int.toNat_natCast,dR,Ef]
theorem vZ {P:Program} {t:TypeId} (ht:P.underlying t=H .string) (l:Bs) (i:C) (h:i≤l.length) (W:G):(Instr.slice t (J ⟨l.toArray⟩) N (H (.int .i64 (i:I))) N).run P W= .ok (J ⟨(l.take i).toArray⟩) W:=by
 rw[run_slice_string_h W t _ ht .i64 i ah (by rw[dR];omega),Int.toNat_natCast,mM]
theorem P6 (b c:UInt8):(b==c)=((b.toNat:I)==(c.toNat:I)):=by
 by_cases h:b=c
 ·simp[h]
 ·rw[beq_eq_false_iff_ne.2 h,beq_eq_false_iff_ne.2 (fun e=>h (UInt8.toNat_inj.1 ah))]
theorem gF (b:UInt8) (t:Bs):bR (b::t)=(((b.toNat:I)==10)||((b.toNat:I)==35)):=by
 unfold bR;simp only[List.head?_cons];rw[show((H b==N):Bool)=O from rfl,Bool.false_or];show((b==10)||(b==35))=_;rw[P6 b 10,P6 b 35];rfl
def lM (p:C) (m:I):F PanicEntry:=[⟨.iface 223 (.agg #[.int .i64 p,.int .i64 m]),O,O⟩]
theorem jT (p:C) (m:I) (w:G):Calls S 164 #[.int .i64 p,.int .i64 m] w fun e w'=>e= .panicked (lM p m)∧w'=w:=by
 go_enter func164,ntmps164
 go_wp2
 exact⟨rfl,rfl,rfl⟩
theorem WH (r:I) (w:G):Calls S 215 #[.int .i32 r] w fun e w'=>e= .returned (.bool (uY r))∧∃q,w'=w.drewN q:=by
 unfold uY
 cases h1:r==32 <;> cases h2:r==9
 all_goals
  go_enter func215,ntmps215
  go_wp2
  go_ret;exact⟨rfl,0,rfl⟩
theorem P7:∀args w,(callFunc 215 args).run S w= .ok (.enter 215 args) w:=enters_of func215 au rfl
theorem NH (l:Bs) (w:G):Calls S 214 #[J ⟨l.toArray⟩,.func (.func 215) #[] #[]] w (aW (J ⟨(aY l).toArray⟩) w):=by
 have:=Tryz.strings_TrimLeftFunc 215 #[] P7 (fun r=>uY (r:I)) ⟨l.toArray⟩ w (fun W r _=>by unfold FnGives;exact WH (r:I) W);rw[ZQ] at this;exact this
theorem bX.c0 {w:G} {R p:C} {s l:Bs} {c:aV} {n:aB} (h:bX w R s p l c n):w.cell? ⟨R,0,N⟩=H (J ⟨s.toArray⟩):=h.x.1 0
theorem bX.c1 {w:G} {R p:C} {s l:Bs} {c:aV} {n:aB} (h:bX w R s p l c n):w.cell? ⟨R,1,N⟩=H (.int .i64 p):=h.x.1 1
theorem bX.at_ {w:G} {R p:C} {s t:Bs} {b:UInt8} {c:aV} {n:aB} (h:bX w R s p (b::t) c n):s[p]?=H b:=by
 have:=congrArg (fun l=>l[0]?) h.d
 simpa using this
theorem Cn {R p:C} {s l:Bs} {c:aV} {n:aB} (w:G) (h:bX w R s p l c n):Calls S 216 #[.pointer (H ⟨R,0,N⟩)] w (aW (.bool (bR l)) w):=by
 have c0:=h.c0;have c1:=h.c1;have hlen:=h.len;have hlim:=h.lim
 cases hl:l with
 |nil=>
  obtain rfl:p=s.length:=by rw[hl] at hlen;simpa using hlen
  have hz:=dR s;clear h hlen;go_enter func216,ntmps216
  go_wp2_with (go_quiet (fail))
  go_ret;exact⟨rfl,dA (V _ _) _⟩
 |cons b t=>
  subst hl;have hix:=fun W=>gQ Tryz.underlying9 s p b h.at_ W
  have hlt:p<s.length:=by simp at hlen;omega
  have hz:=dR s;have hne:((p:I)==(s.length:I))=O:=beq_eq_false_iff_ne.2 ah;clear h hlen;by_cases h10:b.toNat=10
  ·have hb:((b.toNat:I)==10)=true:=by simp[h10]
   go_enter func216,ntmps216
   go_wp2_with (go_quiet (fail))
   go_ret;exact⟨by rw[gF,hb];rfl,dA (V _ _) _⟩
  ·have hb:((b.toNat:I)==10)=O:=beq_eq_false_iff_ne.2 ah
   cases J2:((b.toNat:I)==35)
   all_goals
    go_enter func216,ntmps216
    go_wp2_with (go_quiet (fail))
    go_ret;exact⟨by rw[gF,hb,J2];rfl,dA (V _ _) _⟩
def bQ {α:Type} (R:C) (s:Bs) (c:aV) (w:G) (val:α→Z) (x:Except Er (α × aB × Bs)) (e:Ending) (w':G):Prop:=
 match x with
 | .error (r,m)=>e= .panicked (lM (s.length - r.length) m)∧Same (kS R c) w w'
 | .ok (a,n',r)=>e= .returned (val a)∧∃p' c',bX w' R s p' r c' n'∧Mv R c c' w w'
def kM {α:Type} (R:C) (s:Bs) (c:aV) (n:aB) (w:G) (val:α→Z) (x:Except Er (α × Bs)) (e:Ending) (w':G):Prop:=
 match x with
 | .error (r,m)=>e= .panicked (lM (s.length - r.length) m)∧Same (kS R c) w w'
 | .ok (a,r)=>e= .returned (val a)∧∃p',bX w' R s p' r c n∧Mv R c c w w'
theorem bX.to {w:G} {R p:C} {s l r:Bs} {c:aV} {n:aB} (h:bX w R s p l c n) (k:C) (hk:l.drop k=r) (hle:k≤l.length) (q:C) (hq:q=p+k):
  bX (w.setCell ⟨R,1,N⟩ (.int .i64 (q:I))) R s q r c n∧Mv R c c w (w.setCell ⟨R,1,N⟩ (.int .i64 (q:I))):=by
 subst hq hk;exact h.go k hle
theorem bX.drew {w:G} {R p:C} {s l:Bs} {c:aV} {n:aB} (h:bX w R s p l c n):bX w.drew R s p l c n:=⟨h.x,h.n,h.d,h.le,h.lim⟩
theorem f1 {w:G} {R p:C} {s l:Bs} {c:aV} {n:aB} (h:bX w R s p l c n) (i:C):w.frozen? ⟨R,i,N⟩=O:=h.x.2.1 i
theorem zl {R p:C} {s l:Bs} {c:aV} {n:aB} (w:G) (h:bX w R s p l c n):
  Calls S 226 #[.pointer (H ⟨R,0,N⟩)] w (kM R s c n w (fun b:Bool=> .bool b) (bN l)):=by
 have c0:=h.c0;have c1:=h.c1;have z1:=f1 h 1;have hlen:=h.len;have hlim:=h.lim;have hsl:=fun W=>lG Tryz.underlying9 s p ah W
 rw[h.d] at hsl;have hz:=dR s;have hz2:=dR (aY l);have hsk:=G9 l;have HH:=hid h;have HLEN:=hid hlen;have dM:=hid hsk;clear h hlen hsk;go_enter func226,ntmps226;go_wp2_with fail;refine aK 11 [(0,0),(1,0),(2,0),(3,0),(4,0),(5,0),(6,0),(7,0),(8,0),(9,2),(10,0)] (fun _=>True) (fun W'=>W'.cell? ⟨R,0,N⟩=H (J ⟨s.toArray⟩)∧W'.cell? ⟨R,1,N⟩=H (.int .i64 p)) au au (trivial) (⟨HH.q.c0,HH.q.c1⟩) ?_;refine qC ?_;refine aF rfl rfl (fun K hK=>?_);go_simp;refine(NH l _).mono ?_;rintro e w2 ⟨rfl,hb2⟩;have tV:=HH.q.drew.below hb2;refine hK _ _ ⟨trivial,tV.c0,tV.c1⟩ ?_;have He:=hid tV;have HB2:=hid hb2;clear hK K hb2 tV c0 c1 z1;refine qC ?_;refine bB ?_;have hb2:Below w.heap.size w w2:=(V _ _).drew.trans HB2.q;obtain⟨q,hq⟩:∃q:C,q=s.length - (aY l).length:=⟨_,rfl⟩;have hwq:wrap64 ((s.length:I) - ((aY l).length:I))=(q:I):=by
  have:=HLEN.q;have:=dM.q;rw[show(s.length:I) - ((aY l).length:I)=(q:I) by omega];exact IntWalk.wrap64_in _ ah
 have ht:=He.q.to (l.length - (aY l).length) (Fj l) ah q (by have:=HLEN.q;have:=dM.q;omega);have HT:=hid ht.1;have HM:=hid ((Mv.of_below (R:=R) (c:=c) hb2).trans ht.2);have HQ:=hid hq;have c0:=He.q.c0;have c1:=He.q.c1;have z1:=f1 He.q 1;have hMS:bN l=if bR (aY l)=true then .ok (O,aY l) else if q=p then .error (aY l,220) else .ok (true,aY l):=by
  unfold bN;have:=HLEN.q;have:=dM.q;by_cases h1:bR (aY l)=true
  ·rw[if_pos h1,if_pos h1]
  ·rw[if_neg h1,if_neg h1]
   by_cases h2:q=p
   ·rw[if_pos h2,if_pos ah]
   ·rw[if_neg h2,if_neg ah]
 have HMS:=hid hMS;clear ht hq hb2 hMS;go_wp2_with fail;refine(Cn _ HT.q).mono ?_;rintro e w3 ⟨rfl,hb3⟩;have HT3:=hid (HT.q.below hb3);have oJ:=hid (HM.q.trans (Mv.of_below hb3));clear hb3 c0 c1 z1;have c1:=HT3.q.c1
 cases hE:bR (aY l)
 ·by_cases hpq:q=p
  ·have hb:((q:I)==(p:I))=true:=by simp[hpq]
   go_wp2_with fail;refine(jT p 220 _).mono ?_;rintro e w4 ⟨rfl,rfl⟩;refine⟨rfl,?_⟩;show kM R s c n w _ _ _ _;rw[HMS.q,hE,if_neg ak,if_pos hpq];exact⟨by rw[←HQ.q,hpq],oJ.q.same⟩
  ·have hb:((q:I)==(p:I))=O:=beq_eq_false_iff_ne.2 ah
   go_wp2_with fail;go_ret;show kM R s c n w _ _ _ _;rw[HMS.q,hE,if_neg ak,if_neg hpq];exact⟨rfl,q,HT3.q,oJ.q⟩
 ·go_wp2_with fail
  go_ret;show kM R s c n w _ _ _ _;rw[HMS.q,hE,if_pos rfl];exact⟨rfl,q,HT3.q,oJ.q⟩
theorem NC {R p:C} {s l:Bs} {c:aV} {n:aB} (w:G) (h:bX w R s p l c n):
  Calls S 248 #[.pointer (H ⟨R,0,N⟩)] w (kM R s c n w (fun _:Unit=> .tuple #[]) (match bW l with| .error x=> .error x| .ok r=> .ok ((),r))):=by
 have HR:=hid (zl w h);clear h;obtain⟨X,hX⟩:∃X:Except Er (Unit × Bs),X=(match bW l with| .error x=> .error x| .ok r=> .ok ((),r)):=⟨_,rfl⟩;rw[←hX];have HX:=hid hX;clear hX;go_enter func248,ntmps248;go_wp2_with fail;refine HR.q.mono ?_;rintro e w1 he
 cases hm:bN l with
 |error x=>
  rw[hm] at he;obtain⟨rfl,hs⟩:=he;refine⟨rfl,?_⟩;show kM R s c n w _ _ _ _;rw[HX.q,show bW l= .error x by unfold bW;rw[hm]];exact⟨rfl,hs⟩
 |ok br=>
  obtain⟨b,r⟩:=br;rw[hm] at he;obtain⟨rfl,q,hc,hmv⟩:=he;have HC:=hid hc;have HM:=hid hmv;have c1:=hc.c1;clear hc hmv
  cases b
  ·go_wp2_with fail
   refine(jT q 220 _).mono ?_;rintro e w4 ⟨rfl,rfl⟩;refine⟨rfl,?_⟩;show kM R s c n w _ _ _ _;rw[HX.q,show bW l= .error (r,220) by unfold bW;rw[hm]];have:=HC.q.len;exact⟨by rw[show s.length - r.length=q by omega],HM.q.same⟩
  ·go_wp2_with fail
   refine bodyPost_end (results_none rfl _ _ _) rfl ?_;show kM R s c n w _ _ _ _;rw[HX.q,show bW l= .ok r by unfold bW;rw[hm]];exact⟨rfl,q,HC.q,HM.q⟩
theorem Dy (r:I) (w:G):Calls S 228 #[.int .i32 r] w (aW (.bool (uY r)) w):=by
 unfold uY
 cases h1:r==32 <;> cases h2:r==9
 all_goals
  go_enter func228,ntmps228
  go_wp2
  go_ret;exact⟨rfl,V _ _⟩
theorem Lc:∀args w,(callFunc 228 args).run S w= .ok (.enter 228 args) w:=enters_of func228 au rfl
theorem ad5 (r:I) (w:G):Calls S 250 #[.int .i32 r] w (aW (.bool (Dx r)) w):=by
 unfold Dx;by_cases h1:32≤r <;> cases h2:r==9
 all_goals
  go_enter func250,ntmps250
  go_wp2
  go_ret;exact⟨by simp[h1],V _ _⟩
theorem P8:∀args w,(callFunc 250 args).run S w= .ok (.enter 250 args) w:=enters_of func250 au rfl
theorem pO (p:I→Bool):∀(n:C) (l:Bs),l.length≤n→dO ⟨l.toArray⟩ p≤l.length
 |0,l,h=>by rw[List.eq_nil_of_length_eq_zero (l:=l) ah];exact Nat.le_refl _
 |n+1,l,h=>by
  by_cases h0:l=[]
  ·subst h0;exact Nat.le_refl _
  ·rw[dY l p h0]
   split
   ·have h1:=uI l h0;have h2:=sO l h0
    have:=pO p n (l.drop (U ⟨l.toArray⟩ 0).2) (by rw[List.length_drop];omega);rw[List.length_drop] at this;omega
   ·exact Nat.zero_le _
def lT (l:Bs):C:=(l.takeWhile eT).length+if(aY l).head?=H 35 then dO ⟨(aY l).toArray⟩ Dx else 0
def rR (l:Bs):Bool:=!((aY l).head?==H 35)||((l.drop (lT l)).head?==N||(l.drop (lT l)).head?==H 10)
theorem MX (l:Bs):(l.takeWhile eT).length+(aY l).length=l.length:=lY eT l
theorem og (s:Bs) (p:C) (l:Bs) (hd:s.drop p=l) (hp:p≤s.length) (hlim:s.length≤1000000) (w:G) (hT:Lib.Utf8Tabs 6 7 w):
  Calls S 227 #[J ⟨s.toArray⟩,.int .i64 p] w (pG (.int .i64 ((p+lT l:C):I)) (.bool (rR l)) w):=by
 have hll:p+l.length=s.length:=by rw[←hd,List.length_drop];omega
 obtain⟨q,hq⟩:∃q,q=p+(l.takeWhile eT).length:=⟨_,rfl⟩;have hst:=MX l;have yZ:q≤s.length:=by omega
 have CP:s.drop q=aY l:=by rw[hq,←List.drop_drop,hd,uF];rfl
 have hsl:=fun W=>lG Tryz.underlying9 s p ah W
 rw[hd] at hsl;have hz:=dR s;have hqi:(p:I)+((l.takeWhile eT).length:I)=(q:I):=by omega
 have HT:=hid hT;have HW:=fun W (hb:Below w.heap.size w W)=>hid (rQ ⟨l.toArray⟩ 228 #[] Lc uY W (fun r W' _=>Dy r W') (Utf8Tabs_below hT hb))
 rw[WG] at HW;clear hT
 cases hk:aY l with
 |nil=>
  have hqe:q=s.length:=by have:=congrArg List.length CP;rw[List.length_drop,hk] at this;simp at this;omega
  have HN:Hid (lT l=(l.takeWhile eT).length∧rR l=true):=hid (by unfold rR lT;rw[hk];simp);have hd1:((q:I)==(s.length:I))=true:=by simp[hqe]
  have HQ:=hid hq;have HE:=hid hqe;clear CP hk hst hqe hq;go_enter func227,ntmps227;go_wp2_with fail;refine(HW _ (V _ _)).q.mono ?_;rintro e w1 ⟨rfl,hb1⟩;have HB1:=hid hb1;clear hb1;go_wp2_with fail
  go_ret2
  refine⟨?_,HB1.q⟩;rw[HN.q.1,HN.q.2,←HQ.q];rfl
 |cons b t=>
  have CQ:s[q]?=H b:=by
   have:=congrArg (fun l=>l[0]?) CP;rw[hk] at this
   simpa using this
  have alu:q<s.length:=(List.getElem?_eq_some_iff.1 CQ).1;have hix:=fun W=>gQ Tryz.underlying9 s q b CQ W
  have hd1:((q:I)==(s.length:I))=O:=beq_eq_false_iff_ne.2 ah;by_cases hb:b.toNat=35
  ·have P9:b=35:=UInt8.toNat_inj.1 hb
   have hd2:((b.toNat:I)==35)=true:=by simp[hb]
   obtain⟨m,hm⟩:∃m,m=dO ⟨(aY l).toArray⟩ Dx:=⟨_,rfl⟩;have hsk:lT l=(l.takeWhile eT).length+m:=by unfold lT;rw[if_pos (by rw[hk,P9];rfl),←hm]
   have hml:m≤(aY l).length:=by rw[hm];exact pO _ _ _ (Nat.le_refl _)
   obtain⟨q2,hq2⟩:∃q2,q2=q+m:=⟨_,rfl⟩;have alv:(q:I)+(m:I)=(q2:I):=by omega
   have alx:q2≤s.length:=by omega
   have Qa:s.drop q2=l.drop (lT l):=by
    have e:lT l=(l.takeWhile eT).length+m:=hsk;rw[e,hq2,hq,←hd,List.drop_drop,Nat.add_assoc]
   have HN:Hid (p+lT l=q2):=hid ah;have hsl2:=fun W=>lG Tryz.underlying9 s q ah W
   rw[CP] at hsl2;have HW2:=fun W (hb:Below w.heap.size w W)=>hid (rQ ⟨(aY l).toArray⟩ 250 #[] P8 Dx W (fun r W' _=>ad5 r W') (Utf8Tabs_below HT.q hb))
   rw[←hm] at HW2;have HSO:Hid (rR l=((l.drop (lT l)).head?==N||(l.drop (lT l)).head?==H 10)):=hid (by unfold rR;rw[hk,P9];rfl)
   cases hk2:l.drop (lT l) with
   |nil=>
    have hqe:q2=s.length:=by have:=congrArg List.length Qa;rw[List.length_drop,hk2] at this;simp at this;omega
    have hd3:((q2:I)==(s.length:I))=true:=by simp[hqe]
    have iU:Hid (rR l=true):=hid (by rw[HSO.q,hk2];rfl);clear hsk CP hk hst hq CQ hb P9 hm hml hq2 Qa hqe hk2;go_enter func227,ntmps227;go_wp2_with fail;refine(HW _ (V _ _)).q.mono ?_;rintro e w1 ⟨rfl,hb1⟩;have HB1:=hid hb1;clear hb1;go_wp2_with fail;refine(HW2 _ HB1.q).q.mono ?_;rintro e w2 ⟨rfl,hb2⟩;have HB2:=hid (HB1.q.bq hb2);clear hb2
    go_wp2_with (go_quiet (fail))
    go_ret2
    exact⟨by rw[HN.q,iU.q];rfl,dA HB2.q _⟩
   |cons b2 t2=>
    have WI:s[q2]?=H b2:=by
     have:=congrArg (fun l=>l[0]?) Qa;rw[hk2] at this
     simpa using this
    have ak0:q2<s.length:=(List.getElem?_eq_some_iff.1 WI).1;have Jk:=fun W=>gQ Tryz.underlying9 s q2 b2 WI W
    have hd3:((q2:I)==(s.length:I))=O:=beq_eq_false_iff_ne.2 ah;have iU:Hid (rR l=((b2.toNat:I)==10)):=hid (by rw[HSO.q,hk2];show(b2==10)=_;rw[P6];rfl);clear hsk CP hk hst hq CQ hb P9 hm hml hq2 Qa hk2 WI
    cases hd4:((b2.toNat:I)==10)
    all_goals
     rw[hd4] at iU;go_enter func227,ntmps227;go_wp2_with fail;refine(HW _ (V _ _)).q.mono ?_;rintro e w1 ⟨rfl,hb1⟩;have HB1:=hid hb1;clear hb1;go_wp2_with fail;refine(HW2 _ HB1.q).q.mono ?_;rintro e w2 ⟨rfl,hb2⟩;have HB2:=hid (HB1.q.bq hb2);clear hb2
     go_wp2_with (go_quiet (fail))
     go_ret2
     exact⟨by rw[HN.q,iU.q];rfl,dA HB2.q _⟩
  ·have hd2:((b.toNat:I)==35)=O:=beq_eq_false_iff_ne.2 ah
   have hb':¬b=35:=fun e=>hb (by rw[e];rfl)
   have HN:Hid (lT l=(l.takeWhile eT).length∧rR l=true):=hid (by unfold rR lT;rw[hk];simp[hb']);have HQ:=hid hq;clear CP hk hst hq CQ hb hb';go_enter func227,ntmps227;go_wp2_with fail;refine(HW _ (V _ _)).q.mono ?_;rintro e w1 ⟨rfl,hb1⟩;have HB1:=hid hb1;clear hb1;go_wp2_with fail
   go_ret2
   refine⟨?_,HB1.q⟩;rw[HN.q.1,HN.q.2,←HQ.q];rfl
theorem Fv (s:ByteArray):∀(n p:C),∀x∈bE s n p,p≤x
 |0,_,_,h=>by simp[bE] at h
 |n+1,p,x,h=>by
  simp only[bE] at h
  split at h
  ·rcases List.mem_cons.1 h with rfl|h
   ·exact Nat.le_refl _
   ·exact Nat.le_trans (Nat.le_add_right _ _) (Fv s n _ x h)
  ·cases h
theorem filter_all {α:Type} (p:α→Bool) (l:F α) (h:∀x∈l,p x=true):l.filter p=l:=List.filter_eq_self.2 h
theorem Hr {α:Type} (p:α→Bool) (l:F α) (h:∀x∈l,p x=O):l.filter p=[]:=List.filter_eq_nil_iff.2 (fun x hx=>by rw[h x hx];simp)
theorem Zb (u:Bs) (hlim:u.length≤1000000) (w:G):Calls S 230 #[J ⟨u.toArray⟩] w (aW (.int .i64 (qd u:I)) w):=by
 obtain⟨X,hX⟩:∃X,X=qd u:=⟨_,rfl⟩;rw[←hX];have hbz:=dR u;have HX:Hid (X=(((bE ⟨u.toArray⟩ u.length 0).filter (fun i=>decide (i≤24))).getLast?).getD 0):=hid hX;clear hX;go_enter func230,ntmps230;go_wp2_with fail
 go_loopw [3] (fun v wr=>∃(pos fuel:C) (pre:F C),v= .int .i64 (pre.getLast?.getD 0:C)∧pre++bE ⟨u.toArray⟩ fuel pos=bE ⟨u.toArray⟩ u.length 0∧(∀x∈pre,x≤24)∧u.length≤pos+fuel∧pos≤2000000∧wr.heap[w.heap.size]?=H (.stringIter ⟨u.toArray⟩ pos)∧Below w.heap.size w wr) (fun _ wr=>u.length - wr.iterPos w.heap.size)
 case atStart=>exact⟨0,u.length,[],rfl,rfl,by simp,by omega,by omega,World.iter_heap w ⟨u.toArray⟩ 0,iq w ⟨u.toArray⟩⟩
 case round=>
  obtain⟨pos,fuel,pre,rfl,hpre,hall,hfu,hpb,hit,hbw⟩:=hrel;by_cases hp:pos<u.length
  ·have hnx:∀ty,(Instr.next (.pointer (H ⟨w.heap.size,0,N⟩)) true ty).run S wr=_:=fun ty=>Lib.run_next_any_at wr w.heap.size ⟨u.toArray⟩ pos ty hit (by rw[hbz];exact hp)
   have hwd:=width_pos ⟨u.toArray⟩ pos (by rw[hbz];exact hp);obtain⟨d,hd⟩:∃d,d=(U ⟨u.toArray⟩ pos).2:=⟨_,rfl⟩;have hw4:d≤u.length - pos:=by
    have:=sO (u.drop pos) (by intro e;have:=congrArg List.length e;rw[List.length_drop] at this;simp at this;omega);rw[←nT,←hd,List.length_drop] at this;exact this
   rw[←hd] at hnx hwd;obtain⟨f,rfl⟩:∃f,fuel=f+1:=⟨fuel - 1,by omega⟩;have Ev:bE ⟨u.toArray⟩ (f+1) pos=pos::bE ⟨u.toArray⟩ f (pos+d):=by simp[bE,hbz,hp,hd]
   have hit2:=Lib.iterAt_heap wr w.heap.size ⟨u.toArray⟩ pos (pos+d) hit;have hbw2:=Lib.below_iterAt hbw (k:=w.heap.size) (Nat.le_refl _) ⟨u.toArray⟩ (pos+d);have HI:=hid hit;have HI2:=hid hit2;have HB2:=hid hbw2;have HP:=hid (Ev▸hpre);have HA:=hid hall;clear hit hit2 hbw hbw2 Ev hpre hall hd;by_cases sM:pos≤24
   ·have hd1:decide ((24:I)<(pos:I))=O:=decide_eq_false ah
    go_wp2_with fail;go_roundw
    case rel=>exact⟨pos+d,f,pre++[pos],by simp,by rw[←HP.q];simp,fun x hx=>by
     rcases List.mem_append.1 hx with hx|hx
     ·exact HA.q x hx
     ·obtain rfl:x=pos:=by simpa using hx
      exact sM,by omega,by omega,HI2.q,HB2.q⟩
    case measure=>rw[iterPos_of HI2.q,iterPos_of HI.q];omega
   ·have hd1:decide ((24:I)<(pos:I))=true:=decide_eq_true ah
    have HE:Hid (X=pre.getLast?.getD 0):=hid (by
     rw[HX.q,←HP.q,List.filter_append,filter_all _ pre (fun x hx=>by simpa using HA.q x hx),Hr _ _ (fun x hx=>?_),List.append_nil];rcases List.mem_cons.1 hx with rfl|hx
     ·simpa using sM
     ·have:=Fv _ _ _ x hx;simp;omega)
    go_wp2_with fail;go_ret;exact⟨by rw[HE.q];rfl,HB2.q⟩
  ·have hnx:∀ty,(Instr.next (.pointer (H ⟨w.heap.size,0,N⟩)) true ty).run S wr=_:=fun ty=>Lib.run_next_end_at wr w.heap.size ⟨u.toArray⟩ pos ty hit (by rw[hbz];exact hp)
   have HE:Hid (X=pre.getLast?.getD 0):=hid (by
    have e:bE ⟨u.toArray⟩ fuel pos=[]:=by cases fuel <;> simp[bE,hbz,hp]
    rw[HX.q,←hpre,e,List.append_nil,filter_all _ pre (fun x hx=>by simpa using hall x hx)])
   have HB:=hid hbw;clear hpre hall hbw;go_wp2_with fail;go_ret;exact⟨by rw[HE.q];rfl,HB.q⟩
def dh (s:aB):Prop:=(∀x∈s.names,aU ⟨x.toArray⟩=true)∧(∀t∈s.aA,gZ t)∧
 ((s.kind=1∧s.names.length=2∧s.aA=[]∧(∃lv:C,s.lvl=lv∧1≤lv∧lv≤4)∧s.first=O∧s.bits=0)∨
 (s.kind=2∧s.names.length=2∧s.aA=[]∧s.lvl=0∧s.first=O∧s.bits=0)∨
 (s.kind=3∧s.names.length=2∧s.aA.length=1∧s.lvl=0∧s.first=O∧s.bits=0)∨
 (s.kind=4∧(∃c:C,s.names.length=c+2∧s.aA.length=c∧c≤40)∧True∧s.lvl=0∧s.first=O∧s.bits=0)∨
 (s.kind=5∧s.names.length=1∧s.aA=[]∧s.lvl=0∧s.first=O∧s.bits=0)∨
 (s.kind=6∧s.names.length=1∧s.aA=[]∧s.lvl=0∧s.first=O∧s.bits=0)∨
 (s.kind=7∧(∃c:C,s.names.length=c+1∧c≤300)∧s.aA=[]∧s.lvl=0∧s.first=O∧s.bits=0)∨
 (s.kind=8∧(∃c:C,s.names.length=c+2∧c≤300)∧s.aA=[]∧s.lvl=0∧True∧s.bits=0)∨
 (s.kind=9∧s.names.length=1∧s.aA=[]∧s.lvl=0∧s.first=O∧(∃b:C,s.bits=b∧b≤15)))
theorem dh.len {s:aB} (h:dh s):s.names.length≤1000∧s.aA.length≤1000:=by
 rcases h.2.2 with⟨_,h1,h2,_⟩|⟨_,h1,h2,_⟩|⟨_,h1,h2,_⟩|⟨_,h1,h2,_⟩|⟨_,h1,h2,_⟩|⟨_,h1,h2,_⟩|⟨_,h1,h2,_⟩|⟨_,h1,h2,_⟩|⟨_,h1,h2,_⟩
 ·rw[h2];exact⟨by omega,by decide⟩
 ·rw[h2];exact⟨by omega,by decide⟩
 ·omega
 ·obtain⟨c,h1,h2,h3⟩:=h1;omega
 ·rw[h2];exact⟨by omega,by decide⟩
 ·rw[h2];exact⟨by omega,by decide⟩
 ·obtain⟨c,h1,h3⟩:=h1;rw[h2];exact⟨by omega,by decide⟩
 ·obtain⟨c,h1,h3⟩:=h1;rw[h2];exact⟨by omega,by decide⟩
 ·rw[h2];exact⟨by omega,by decide⟩
end Yd
