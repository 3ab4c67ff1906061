import Derived.Test.YtnhnhmeogckgpaaGreatDoorTInfo
import Derived.Laws.Slices
set_option linter.all false
set_option maxRecDepth 200000
set_option maxHeartbeats 8000000
namespace Yd
open Go Go.RowKit
def jd (i:Nat):Nat:=if i=0∨i=2 then 300 else 60
def bM (l:List Bs) (s:Bs):List Bs:=if s∈l then l else l++[s]
def nV (l:List Bs) (s:Bs):Nat:=(bM l s).idxOf s
theorem zX (l:List Bs) (s:Bs):s∈bM l s:=by
 unfold bM
 split
 ·assumption
 ·simp
theorem DT (l:List Bs) (s:Bs):l<+:bM l s:=by
 unfold bM
 split
 ·exact List.prefix_refl _
 ·exact List.prefix_append _ _
theorem BX {l:List Bs} {s:Bs} (h:s∈l):bM l s=l:=by unfold bM;rw[if_pos h]
theorem zx {l:List Bs} {s:Bs} (h:s∉l):bM l s=l++[s]:=by unfold bM;rw[if_neg h]
theorem Qr {l:List Bs} {s:Bs} (h:s∈l):nV l s=l.idxOf s:=by unfold nV;rw[BX h]
theorem Me {l:List Bs} {s:Bs} (h:s∉l):nV l s=l.length:=by
 unfold nV;rw[zx h,List.idxOf_append,if_neg h];simp
theorem RY (l:List Bs) (s:Bs):nV l s<(bM l s).length:=List.idxOf_lt_length_of_mem (zX l s)
theorem zV {l:List Bs} {s:Bs} (h:l.Nodup):(bM l s).Nodup:=by
 unfold bM
 split
 ·exact h
 ·rename_i hs
  refine List.nodup_append.2 ⟨h,by simp,fun p hp q hq e=>?_⟩;rw[List.mem_singleton.1 hq] at e;exact hs (e▸hp)
end Yd
namespace Yd
open Go Go.RowKit Go.Proofs
open Tryz renaming prog→d
theorem R7:Tryz.prog.elem 22=9:=au
theorem R8:Tryz.prog.underlying 22=some (.slice (Tryz.prog.elem 22)):=by rw[R7];exact Tryz.underlying22
theorem ac0 (W:World):(Go.sizeOf (Tryz.prog.elem 22)).run d W=Result.ok 1 W:=by
 rw[R7]
 kernel_rfl
theorem Du {w:World} {a:Option Addr} {n c:Nat} {xs:List Bs} (h:Row w 1 encStr a n c xs) (k:Nat) (hk:k≤n):∃a':Option Addr,(∀W:World,(Instr.slice 22 (.slice a n c) (some (.int .i64 (k:Int))) none none).run d W= .ok (.slice a' (n - k) (c - k)) W)∧
  (∀W:World,(Instr.sliceAt 22 (.slice a n c) (some (.int .i64 (k:Int))) none none).run d W= .ok (.slice a' (n - k) (c - k)) W)∧Row w 1 encStr a' (n - k) (c - k) (xs.drop k)∧∀b o,a'=some ⟨b,o,none⟩→∃q,a=some q∧q.block=b:=by
 have hs:∀W:World,(Instr.slice 22 (.slice a n c) (some (.int .i64 (k:Int))) none none).run d W= .ok (.slice (if c=k then a else a.map (·.add (k*1))) (n - k) (c - k)) W:=fun W=>by
  rw[run_slice_l (P:=d) W 22 a n c R8 .i64 (k:Int) ah (by have:=h.cap;omega),ac0];simp[Result.andThen,sliced]
 refine⟨if c=k then a else a.map (·.add (k*1)),hs,fun W=>(run_sliceAt_slice (P:=d) W 22 _ _ _ _ R8).trans (hs W),?_,?_⟩
 ·obtain⟨h1,h2,h3,h4,h5⟩:=h
  refine⟨by rw[List.length_drop,h1],by omega,by omega,fun e=>?_,fun i x hx=>?_⟩
  ·by_cases hc:c=k
   ·omega
   ·rw[if_neg hc] at e
    cases a with
    |none=>rw[h4 rfl];omega
    |some ad=>cases e
  ·rw[List.getElem?_drop] at hx
   obtain⟨b,o,ha,hcell⟩:=h5 _ x hx;have hlt:=(List.getElem?_eq_some_iff.1 hx).1;rw[if_neg ah,ha];refine⟨b,o+k,?_,fun j v hv=>?_⟩
   ·show some (Addr.add ⟨b,o,none⟩ (k*1))=_
    unfold Addr.add;rw[Nat.mul_one];by_cases h0:k=0
    ·rw[if_pos h0,h0];rfl
    ·rw[if_neg h0]
   ·rw[show o+k+i*1+j=o+(k+i)*1+j by omega];exact hcell j v hv
 ·intro b o e
  split at e
  ·exact⟨_,e,rfl⟩
  ·cases a with
   |none=>cases e
   |some ad=>
    refine⟨ad,rfl,?_⟩;have e2:ad.add (k*1)=⟨b,o,none⟩:=by simpa using e
    have e3:(ad.add (k*1)).block=ad.block:=by
     unfold Addr.add
     split <;> rfl
    rw[e2] at e3;exact e3.symm
end Yd
namespace Yd
open Go
def rA (nl:Nat→List Bs) (i:Nat) (s:Bs):Nat→List Bs:=fun j=>if j=i then bM (nl i) s else nl j
def jm (nl:Nat→List Bs):List Bs→(Nat→List Bs) × List Int
 |[]=>(nl,[])
 |s::r=>((jm (rA nl 0 s) r).1,(nV (nl 0) s:Int)::(jm (rA nl 0 s) r).2)
theorem DY:∀(l:List Bs) (nl:Nat→List Bs) (s:Bs),jm nl (l++[s])=(rA (jm nl l).1 0 s,(jm nl l).2++[(nV ((jm nl l).1 0) s:Int)])
 |[],_,_=>rfl
 |t::l,nl,s=>by
  have h:=DY l (rA nl 0 t) s;show((jm (rA nl 0 t) (l++[s])).1,_::(jm (rA nl 0 t) (l++[s])).2)=_;rw[h];rfl
theorem Nj:∀(l:List Bs) (nl:Nat→List Bs) (j:Nat),nl j<+:(jm nl l).1 j
 |[],_,_=>List.prefix_refl _
 |s::r,nl,j=>by
  refine List.IsPrefix.trans ?_ (Nj r (rA nl 0 s) j);unfold rA
  split
  ·rename_i h;subst h;exact DT _ _
  ·exact List.prefix_refl _
theorem Nk:∀(l m:List Bs) (nl:Nat→List Bs),(jm nl (l++m)).1=(jm (jm nl l).1 m).1
 |[],_,_=>rfl
 |_::l,m,nl=>Nk l m (rA nl 0 _)
theorem VI {l:List Bs} {nl:Nat→List Bs} {i:Nat} {s:Bs} {n:Nat} (hs:l[i]?=some s) (h:((jm nl l).1 0).length≤n):(bM ((jm nl (l.take i)).1 0) s).length≤n:=by
 obtain⟨hi,he⟩:=List.getElem?_eq_some_iff.1 hs;have e:l=(l.take i++[s])++l.drop (i+1):=by
  rw[←he,List.append_assoc,List.singleton_append,←List.drop_eq_getElem_cons hi,List.take_append_drop]
 rw[e,Nk,DY] at h;have h2:=(Nj (l.drop (i+1)) (rA (jm nl (l.take i)).1 0 s) 0).length_le;exact Nat.le_trans h2 h
end Yd
