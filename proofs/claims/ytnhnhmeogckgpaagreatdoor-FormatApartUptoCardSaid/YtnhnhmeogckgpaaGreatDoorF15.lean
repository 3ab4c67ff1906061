import Derived.Test.YtnhnhmeogckgpaaGreatDoorF14
set_option linter.all false
set_option maxRecDepth 200000
set_option maxHeartbeats 8000000
namespace Yd
open List renaming flatMap_append→c,flatMap_cons→d,append_nil→f,mem_append→g,mem_singleton→j,mem_append_right→m,filter_cons→n
open Go Go.RowKit Go.Proofs
abbrev Ho:aB:=⟨0,[],0,[],false,0⟩
def jR (p:Nat→Bool):Nat→List aB→List aB
 |_,[]=>[]
 |i,y::l=>(if 7≤y.kind then [] else [y])++((if p i=true then [Ho] else [])++jR p (i+1) l)
def jI (l:List aB):List aB:=l.filter (fun y=>decide (7≤y.kind))
theorem Xb {a b:Int} (ha:1≤a):bF a b Ho=[]:=bg (fun h=>by have h1:a≤0:=h.1;omega)
theorem Gm (p:Nat→Bool) {a b:Int} (ha:1≤a) (hb:b≤6):∀(l:List aB) (i:Nat),(jR p i l).flatMap (bF a b)=l.flatMap (bF a b)
 |[],_=>rfl
 |y::l,i=>by
  unfold jR;rw[c,c,Gm p ha hb l (i+1),d];have e0:(if p i=true then [Ho] else []).flatMap (bF a b)=[]:=by
   split
   ·rw[d,Xb ha];rfl
   ·rfl
  rw[e0,List.nil_append]
  congr 1
  split
  ·rw[bg ah];rfl
  ·rw[d,List.flatMap_nil,f]
theorem Es (p:Nat→Bool) {a b:Int} (ha:7≤a):∀(l:List aB) (i:Nat),(jR p i l).flatMap (bF a b)=[]
 |[],_=>rfl
 |y::l,i=>by
  unfold jR;rw[c,c,Es p ha l (i+1),f];have e0:(if p i=true then [Ho] else []).flatMap (bF a b)=[]:=by
   split
   ·rw[d,Xb ah];rfl
   ·rfl
  rw[e0,f]
  split
  ·rfl
  ·rw[d,bg ah];rfl
theorem AQ {a b:Int} (hb:b≤6):∀l:List aB,(jI l).flatMap (bF a b)=[]
 |[]=>rfl
 |y::l=>by
  unfold jI;rw[n]
  split
  ·rename_i h
   have h:=of_decide_eq_true h;rw[d,bg ah];exact AQ hb l
  ·exact AQ hb l
theorem zh {a b:Int} (ha:7≤a):∀l:List aB,(jI l).flatMap (bF a b)=l.flatMap (bF a b)
 |[]=>rfl
 |y::l=>by
  unfold jI;rw[n,d]
  split
  ·rw[d]
   exact congrArg _ (zh ha l)
  ·rename_i h
   have h:¬7≤y.kind:=fun k=>h (decide_eq_true k)
   rw[bg ah];exact zh ha l
theorem Ae (p:Nat→Bool) (x:aB):∀(l:List aB) (i:Nat),(x∈jR p i l→x=Ho∨x∈l)∧(x∈l→¬7≤x.kind→x∈jR p i l)
 |[],_=>⟨fun h=>(by cases h),fun h=>(by cases h)⟩
 |y::l,i=>by
  obtain⟨h1,h2⟩:=Ae p x l (i+1);unfold jR
  constructor
  ·intro h
   rcases g.1 h with h|h
   ·split at h
    ·cases h
    ·rw[j.1 h];exact .inr List.mem_cons_self
   ·rcases g.1 h with h|h
    ·split at h
     ·exact .inl (j.1 h)
     ·cases h
    ·exact(h1 h).imp_right (List.mem_cons_of_mem _)
  ·intro h hk
   rcases List.mem_cons.1 h with rfl|h
   ·rw[if_neg hk];exact List.mem_append_left _ (j.2 rfl)
   ·exact m _ (m _ (h2 h hk))
theorem AA {x:aB} {l:List aB}:x∈jI l↔x∈l∧7≤x.kind:=by
 unfold jI;rw[List.mem_filter,decide_eq_true_eq]
theorem Nq {l:List aB} {z:Cont} (h:nS bK 0 l= .ok z) (p:Nat→Bool) (first:Bool):
  ∃y,nS bK 0 (if first=true then jI l++jR p 0 l else jR p 0 l++jI l)= .ok y∧kV (bV y) (bV z):=by
 have hB:=(Db l bK 0 z h).2.1;have hm:∀x,x∈(if first=true then jI l++jR p 0 l else jR p 0 l++jI l)↔x∈jR p 0 l∨x∈jI l:=fun x=>by
  split
  ·rw[g,or_comm]
  ·rw[g]
 have hf:∀{a b:Int},1≤a→(b≤6∨7≤a)→l.flatMap (bF a b)=(if first=true then jI l++jR p 0 l else jR p 0 l++jI l).flatMap (bF a b):=fun h1 h2=>by
  rcases h2 with h2|h2
  ·split
   ·rw[c,AQ h2,Gm p h1 h2];rfl
   ·rw[c,AQ h2,Gm p h1 h2,f]
  ·split
   ·rw[c,zh h2,Es p h2,f]
   ·rw[c,zh h2,Es p h2];rfl
 refine U7 h (fun x hx=>?_) (fun x hx=>?_) (hf ah (.inl ah)) (hf ah (.inr ah)) (hf ah (.inr ah)) (hf ah (.inr ah))
 ·rcases(hm x).1 hx with hx|hx
  ·rcases(Ae p x l 0).1 hx with rfl|hx
   ·decide
   ·exact hB x hx
  ·exact hB x (AA.1 hx).1
 ·rw[hm]
  constructor
  ·intro hl
   by_cases hk:7≤x.kind
   ·exact .inr (AA.2 ⟨hl,hk⟩)
   ·exact .inl ((Ae p x l 0).2 hl hk)
  ·rintro(hl|hl)
   ·exact((Ae p x l 0).1 hl).resolve_left (fun e=>hx (by rw[e]))
   ·exact(AA.1 hl).1
end Yd
