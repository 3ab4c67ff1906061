import Derived.Test.YtnhnhmeogckgpaaGreatDoorChG
set_option linter.all false
set_option maxRecDepth 200000
set_option maxHeartbeats 8000000
namespace Yd
open Nat renaming zero_le→d
open Go Go.RowKit Go.Proofs
def Ja (c:Cont):Bool:=
 (List.range 4).all (fun i=>decide ((c.nl i).length≤jP i)) && decide (c.E.length≤3000) && decide (c.D.length≤3000) && decide (c.M.length≤3000) && decide (c.Q.length≤3000) && c.E.all (fun e=>decide (e.kind=2→e.v.k≤999))
theorem wI (c:Cont):Ja c=true↔aC c:=by
 unfold Ja aC;simp only[Bool.and_eq_true,decide_eq_true_eq,List.all_eq_true,List.mem_range,and_assoc]
def nS (c:Cont):Nat→List aB→Except (Nat × Int) Cont
 |_,[]=> .ok c
 |i,l::ls=>if j4 l=true then(if Ja (aJ c l)=true then nS (aJ c l) (i+1) ls else .error (i,6)) else .error (i,220)
theorem Db:∀(ls:List aB) (c:Cont) (i:Nat) (z:Cont),nS c i ls= .ok z→z=bA c ls∧(∀l∈ls,j4 l=true)∧(aC c→aC (bA c ls))
 |[],c,i,z,h=>by
  injection h with h;exact⟨h.symm,fun l hl=>(by cases hl),fun h=>h⟩
 |l::ls,c,i,z,h=>by
  unfold nS at h
  split at h
  ·rename_i hl
   split at h
   ·rename_i hf
    obtain⟨h1,h2,h3⟩:=Db ls (aJ c l) (i+1) z h;refine⟨h1,fun x hx=>?_,fun _=>h3 ((wI _).1 hf)⟩;rcases List.mem_cons.1 hx with rfl|hx
    ·exact hl
    ·exact h2 x hx
   ·cases h
  ·cases h
theorem Oz:∀(ls:List aB) (c:Cont) (i:Nat),(∀l∈ls,j4 l=true)→aC (bA c ls)→nS c i ls= .ok (bA c ls)
 |[],_,_,_,_=>rfl
 |l::ls,c,i,hl,hf=>by
  unfold nS;rw[if_pos (hl l List.mem_cons_self),if_pos ((wI _).2 ((Gr.all ls (aJ c l)).fits hf))];exact Oz ls (aJ c l) (i+1) (fun x hx=>hl x (List.mem_cons_of_mem _ hx)) hf
theorem Ce:aC bK:=⟨fun _ _=>d _,d _,d _,d _,d _,fun e he=>by cases he⟩
theorem Ou:∀(ls:List aB) (c:Cont) (i j:Nat) (e:Int),nS c i ls= .error (j,e)→∃k l,j=i+k∧ls[k]?=some l∧(∀x∈ls.take k,j4 x=true)∧((e=220∧j4 l=false)∨(e=6∧j4 l=true∧¬aC (bA c (ls.take (k+1)))))
 |[],_,_,_,_,h=>by cases h
 |l::ls,c,i,j,e,h=>by
  unfold nS at h
  split at h
  ·rename_i hl
   split at h
   ·obtain⟨k,l',h1,h2,h3,h4⟩:=Ou ls (aJ c l) (i+1) j e h
    refine⟨k+1,l',by omega,by rw[List.getElem?_cons_succ];exact h2,fun x hx=>?_,h4⟩;rw[List.take_succ_cons] at hx;rcases List.mem_cons.1 hx with rfl|hx
    ·exact hl
    ·exact h3 x hx
   ·rename_i hf
    injection h with h;injection h with h1 h2;exact⟨0,l,by omega,rfl,fun x hx=>(by cases hx),.inr ⟨h2.symm,hl,fun k=>hf ((wI _).2 k)⟩⟩
  ·rename_i hl
   injection h with h;injection h with h1 h2;exact⟨0,l,by omega,rfl,fun x hx=>(by cases hx),.inl ⟨h2.symm,Bool.eq_false_iff.2 hl⟩⟩
theorem CZ {ls:List aB} (h:∀l∈ls,j4 l=true):∀l∈ls,l.kind=0∨fC l:=fun l hl=>El (h l hl)
theorem Il {ls:List aB} {z:Cont} (h:nS bK 0 ls= .ok z):fT z∧jB z∧jc z∧aC z∧z=bA bK ls:=by
 obtain⟨rfl,h2,h3⟩:=Db ls bK 0 z h;have hf:=h3 Ce;exact⟨fT.zero.all ls (CZ h2) hf,jB.zero.all ls,jc.zero.all ls,hf,rfl⟩
theorem U7 {a b:List aB} {z:Cont} (ha:nS bK 0 a= .ok z) (hb:∀l∈b,j4 l=true) (h:∀l,l.kind≠0→(l∈a↔l∈b)) (h1:a.flatMap (bF 1 6)=b.flatMap (bF 1 6)) (h7:a.flatMap (bF 7 7)=b.flatMap (bF 7 7)) (h8:a.flatMap (bF 8 8)=b.flatMap (bF 8 8))
  (h9:a.flatMap (bF 9 9)=b.flatMap (bF 9 9)):∃y,nS bK 0 b= .ok y∧kV (bV y) (bV z):=by
 obtain⟨rfl,h2,h3⟩:=Db a bK 0 z ha;have hf:=h3 Ce;exact⟨_,Oz b _ _ hb (Ij h h1 h7 h8 h9 hf),(PD (CZ h2) (CZ hb) h h1 h7 h8 h9 hf).symm⟩
end Yd
