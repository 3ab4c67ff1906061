import Derived.Test.YtnhnhmeogckgpaaGreatDoorOwn
import Derived.Laws.Slices
set_option linter.all false
set_option maxRecDepth 200000
set_option maxHeartbeats 8000000
namespace Yd
open List renaming prefix_refl→d,prefix_append→f,nodup_append→g
open Go Go.RowKit
open _root_ renaming List→b,Int→c
def jP (i:Nat):Nat:=if i=0∨i=2 then 300 else 60
def bY (l:b Bs) (s:Bs):b Bs:=if s∈l then l else l++[s]
def p9 (l:b Bs) (s:Bs):Nat:=(bY l s).idxOf s
theorem Bb (l:b Bs) (s:Bs):s∈bY l s:=by
 unfold bY
 split
 ·assumption
 ·simp
theorem Ey (l:b Bs) (s:Bs):l<+:bY l s:=by
 unfold bY
 split
 ·exact d _
 ·exact f _ _
theorem Di {l:b Bs} {s:Bs} (h:s∈l):bY l s=l:=by unfold bY;rw[if_pos h]
theorem AZ {l:b Bs} {s:Bs} (h:s∉l):bY l s=l++[s]:=by unfold bY;rw[if_neg h]
theorem Sk {l:b Bs} {s:Bs} (h:s∈l):p9 l s=l.idxOf s:=by unfold p9;rw[Di h]
theorem NT {l:b Bs} {s:Bs} (h:s∉l):p9 l s=l.length:=by
 unfold p9;rw[AZ h,List.idxOf_append,if_neg h];simp
theorem Sg (l:b Bs) (s:Bs):p9 l s<(bY l s).length:=List.idxOf_lt_length_of_mem (Bb l s)
theorem AY {l:b Bs} {s:Bs} (h:l.Nodup):(bY l s).Nodup:=by
 unfold bY
 split
 ·exact h
 ·rename_i hs
  refine g.2 ⟨h,by simp,fun p hp q hq e=>?_⟩;rw[List.mem_singleton.1 hq] at e;exact hs (e▸hp)
def lg (xs:b c) (x:c):b c:=if x∈xs then xs else xs++[x]
def bN (xs:b (c × c)) (s:c):b c:=xs.foldl (fun l x=>if x.1=s then lg l x.2 else l) []
theorem j5 (xs:b (c × c)) (x:c × c) (s:c):bN (xs++[x]) s=if x.1=s then lg (bN xs s) x.2 else bN xs s:=by simp[bN]
theorem Pz {l:b c} {x:c} (h:l.Nodup):(lg l x).Nodup:=by
 unfold lg
 split
 ·exact h
 ·refine g.2 ⟨h,by simp,fun p hp q hq e=>?_⟩
  simp at hq;subst hq e
  contradiction
theorem vS {α:Type} {P:b α→Prop} (h0:P []) (h1:∀xs x,P xs→P (xs++[x])) (xs:b α):P xs:=by
 have h:∀ys:b α,P ys.reverse:=by
  intro ys
  induction ys with
  |nil=>exact h0
  |cons y ys ih=>rw[List.reverse_cons];exact h1 _ _ ih
 simpa using h xs.reverse
def up (n:Nat):b c:=(List.range n).map fun i:Nat=>(i:c)
theorem mI (n:Nat):(up n).length=n:=by simp[up]
theorem Nu (n:Nat):up (n+1)=up n++[(n:c)]:=by simp[up,List.range_succ]
theorem Rw {n i:Nat} (h:i<n):(up n)[i]?=some (i:c):=by simp[up,h]
theorem yC {n:Nat} {x:c} (h0:0≤x):x∈up n↔x<n:=by
 unfold up;simp only[List.mem_map,List.mem_range]
 constructor
 ·rintro⟨a,h,rfl⟩;omega
 ·intro h;exact⟨x.toNat,by omega,by omega⟩
theorem aa' {n m:Nat} (h:up n=up m):n=m:=by have:=congrArg List.length h;rwa[mI,mI] at this
theorem MI (l:b c) (x:c):l<+:lg l x:=by
 unfold lg
 split
 ·exact d _
 ·exact f _ _
theorem xQ (xs:b (c × c)) (x:c × c) (s:c):bN xs s<+:bN (xs++[x]) s:=by
 rw[j5]
 split
 ·exact MI _ _
 ·exact d _
end Yd
namespace Yd
open Go Go.RowKit Go.Proofs
open Tryz renaming prog→d
theorem Tn:Tryz.prog.elem 22=9:=au
theorem Tp:Tryz.prog.underlying 22=some (.slice (Tryz.prog.elem 22)):=by rw[Tn];exact Tryz.underlying22
theorem adv (W:World):(Go.sizeOf (Tryz.prog.elem 22)).run d W=Result.ok 1 W:=by
 rw[Tn]
 kernel_rfl
theorem JM {w:World} {a:Option Addr} {n c:Nat} {xs:List Bs} (h:Row w 1 encStr a n c xs) (k:Nat) (hk:k≤n):∃a':Option Addr,(∀W:World,(Instr.slice 22 (.slice a n c) (some (.int .i64 (k:Int))) none none).run d W= .ok (.slice a' (n - k) (c - k)) W)∧
  (∀W:World,(Instr.sliceAt 22 (.slice a n c) (some (.int .i64 (k:Int))) none none).run d W= .ok (.slice a' (n - k) (c - k)) W)∧Row w 1 encStr a' (n - k) (c - k) (xs.drop k)∧∀b o,a'=some ⟨b,o,none⟩→∃q,a=some q∧q.block=b:=by
 have hs:∀W:World,(Instr.slice 22 (.slice a n c) (some (.int .i64 (k:Int))) none none).run d W= .ok (.slice (if c=k then a else a.map (·.add (k*1))) (n - k) (c - k)) W:=fun W=>by
  rw[run_slice_l (P:=d) W 22 a n c Tp .i64 (k:Int) ah (by have:=h.cap;omega),adv];simp[Result.andThen,sliced]
 refine⟨if c=k then a else a.map (·.add (k*1)),hs,fun W=>(run_sliceAt_slice (P:=d) W 22 _ _ _ _ Tp).trans (hs W),?_,?_⟩
 ·obtain⟨h1,h2,h3,h4,h5⟩:=h
  refine⟨by rw[List.length_drop,h1],by omega,by omega,fun e=>?_,fun i x hx=>?_⟩
  ·by_cases hc:c=k
   ·omega
   ·rw[if_neg hc] at e
    cases a with
    |none=>rw[h4 rfl];omega
    |some ad=>cases e
  ·rw[List.getElem?_drop] at hx
   obtain⟨b,o,ha,hcell⟩:=h5 _ x hx;have hlt:=(List.getElem?_eq_some_iff.1 hx).1;rw[if_neg ah,ha];refine⟨b,o+k,?_,fun j v hv=>?_⟩
   ·show some (Addr.add ⟨b,o,none⟩ (k*1))=_
    unfold Addr.add;rw[Nat.mul_one];by_cases h0:k=0
    ·rw[if_pos h0,h0];rfl
    ·rw[if_neg h0]
   ·rw[show o+k+i*1+j=o+(k+i)*1+j by omega];exact hcell j v hv
 ·intro b o e
  split at e
  ·exact⟨_,e,rfl⟩
  ·cases a with
   |none=>cases e
   |some ad=>
    refine⟨ad,rfl,?_⟩;have e2:ad.add (k*1)=⟨b,o,none⟩:=by simpa using e
    have e3:(ad.add (k*1)).block=ad.block:=by
     unfold Addr.add
     split <;> rfl
    rw[e2] at e3;exact e3.symm
end Yd
namespace Yd
open Go
def tu (nl:Nat→List Bs) (i:Nat) (s:Bs):Nat→List Bs:=fun j=>if j=i then bY (nl i) s else nl j
def jW (nl:Nat→List Bs):List Bs→(Nat→List Bs) × List Int
 |[]=>(nl,[])
 |s::r=>((jW (tu nl 0 s) r).1,(p9 (nl 0) s:Int)::(jW (tu nl 0 s) r).2)
theorem Ew:∀(l:List Bs) (nl:Nat→List Bs) (s:Bs),jW nl (l++[s])=(tu (jW nl l).1 0 s,(jW nl l).2++[(p9 ((jW nl l).1 0) s:Int)])
 |[],_,_=>rfl
 |t::l,nl,s=>by
  have h:=Ew l (tu nl 0 t) s;show((jW (tu nl 0 t) (l++[s])).1,_::(jW (tu nl 0 t) (l++[s])).2)=_;rw[h];rfl
theorem Oo:∀(l:List Bs) (nl:Nat→List Bs) (j:Nat),nl j<+:(jW nl l).1 j
 |[],_,_=>List.prefix_refl _
 |s::r,nl,j=>by
  refine List.IsPrefix.trans ?_ (Oo r (tu nl 0 s) j);unfold tu
  split
  ·rename_i h;subst h;exact Ey _ _
  ·exact List.prefix_refl _
theorem Oq:∀(l m:List Bs) (nl:Nat→List Bs),(jW nl (l++m)).1=(jW (jW nl l).1 m).1
 |[],_,_=>rfl
 |_::l,m,nl=>Oq l m (tu nl 0 _)
theorem Vm {l:List Bs} {nl:Nat→List Bs} {i:Nat} {s:Bs} {n:Nat} (hs:l[i]?=some s) (h:((jW nl l).1 0).length≤n):(bY ((jW nl (l.take i)).1 0) s).length≤n:=by
 obtain⟨hi,he⟩:=List.getElem?_eq_some_iff.1 hs;have e:l=(l.take i++[s])++l.drop (i+1):=by
  rw[←he,List.append_assoc,List.singleton_append,←List.drop_eq_getElem_cons hi,List.take_append_drop]
 rw[e,Oq,Ew] at h;have h2:=(Oo (l.drop (i+1)) (tu (jW nl (l.take i)).1 0 s) 0).length_le;exact Nat.le_trans h2 h
end Yd
