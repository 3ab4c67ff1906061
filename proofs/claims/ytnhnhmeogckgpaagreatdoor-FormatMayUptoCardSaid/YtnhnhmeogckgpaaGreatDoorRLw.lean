import Derived.Test.YtnhnhmeogckgpaaGreatDoorFsP
import Derived.Test.YtnhnhmeogckgpaaGreatDoorAto
set_option linter.all false
set_option maxRecDepth 200000
set_option maxHeartbeats 8000000
namespace Yd
open List renaming length_append→c,range→d
open Go Go.RowKit Go.Proofs
theorem Rv (xs:List (Int × Int)):(∀x∈xs,uV x)→
  ((gP xs).2=true∧∀s:Nat,∃m:Nat,(gP xs).1 s=m∧bN xs s=up m)∨((gP xs).2=false∧∃s:Nat,s<4∧∀n,¬bN xs s<+:up n):=by
 refine vS (P:=fun xs=>(∀x∈xs,uV x)→((gP xs).2=true∧∀s:Nat,∃m:Nat,(gP xs).1 s=m∧bN xs s=up m)∨((gP xs).2=false∧∃s:Nat,s<4∧∀n,¬bN xs s<+:up n)) ?_ ?_ xs
 ·intro _
  exact .inl ⟨rfl,fun s=>⟨0,rfl,rfl⟩⟩
 ·intro xs x ih hx
  have hx0:=hx x ak;rcases ih (fun y hy=>hx y (List.mem_append_left _ hy)) with⟨h2,hs⟩|⟨h2,s,hs4,hn⟩
  ·obtain⟨a,n⟩:=x
   obtain⟨⟨ha0,ha4⟩,hn0,_⟩:=hx0;simp only at ha0 ha4 hn0;obtain⟨s,rfl⟩:∃s:Nat,a=s:=⟨a.toNat,by omega⟩;obtain⟨m,hm,hf⟩:=hs s;by_cases hle:n≤m
   ·left
    have hst:gP (xs++[((s:Int),n)])=(fun i=>if i=s then(if n+1>(gP xs).1 i then n+1 else(gP xs).1 i) else(gP xs).1 i,true):=by
     rw[ze,←Ku (b:=(gP xs).2) h2 (by rw[hm];exact hle)]
    rw[hst];refine⟨rfl,fun t=>?_⟩;by_cases hts:t=s
    ·subst hts
     rw[j5,if_pos rfl,hf];simp only[if_pos];rw[hm];by_cases hlt:n<m
     ·refine⟨m,by rw[if_neg ah],?_⟩
      unfold lg;rw[if_pos ((yC hn0).2 hlt)]
     ·have hnm:n=m:=by omega
      refine⟨m+1,by rw[if_pos ah,hnm];rfl,?_⟩;unfold lg;rw[if_neg (fun h=>hlt ((yC hn0).1 h)),Nu,hnm]
    ·obtain⟨k,hk,Jq⟩:=hs t
     refine⟨k,by simp only[if_neg hts];exact hk,?_⟩;rw[j5,if_neg (by simp;omega)];exact Jq
   ·right
    refine⟨by rw[ze];exact Nv (by show n>(gP xs).1 (s:Int).toNat;rw[Int.toNat_natCast,hm];omega),s,by omega,fun k hp=>?_⟩;rw[j5,if_pos rfl,hf] at hp;unfold lg at hp;rw[if_neg (fun h=>by have:=(yC hn0).1 h;omega)] at hp;have hg:(up m++[n])[m]?=some n:=by rw[List.getElem?_append_right (by rw[mI];exact Nat.le_refl _),mI];simp
    obtain⟨t,ht⟩:=hp;have hl:=congrArg List.length ht;rw[c,c,mI,mI] at hl;simp at hl;have hk:(up k)[m]?=some n:=by rw[←ht,List.getElem?_append_left (by rw[c,mI];simp)];exact hg
    rw[Rw ah] at hk;injection hk with hk;omega
  ·right
   refine⟨by rw[ze];unfold AP;rw[if_neg (by rw[h2];simp)],s,hs4,fun n hp=>hn n ((xQ xs x s).trans hp)⟩
theorem YK {xs:List (Int × Int)} (hx:∀x∈xs,uV x) (N:Nat→Nat):
  ((gP xs).2 && (d 4).all (fun i=>decide ((gP xs).1 i=(N i:Int))))=(d 4).all (fun i:Nat=>decide (bN xs i=up (N i))):=by
 rcases Rv xs hx with⟨h2,hs⟩|⟨h2,s,hs4,hn⟩
 ·rw[h2,Bool.true_and]
  congr 1
  funext i
  obtain⟨m,hm,hf⟩:=hs i;rw[hm,hf];refine decide_eq_decide.2 ⟨fun h=>by rw[Int.ofNat_inj.1 h],fun h=>by rw[aa' h]⟩
 ·rw[h2,Bool.false_and]
  symm
  rw[←Bool.not_eq_true,List.all_eq_true];intro h;have:=of_decide_eq_true (h s (by simpa using hs4));exact hn (N s) (by rw[this];exact List.prefix_refl _)
theorem Mi {h:HC} {nl:Nat→List Bs} {es:List EvC} {ds:List aK} {ms:List aM} {qs:List Wa} {scan:EvC→List Sn} {dn:aK→List Int} {mn:aM→List Int} (hs:mZ h nl es ds ms qs scan dn mn=true)
  (hlen:∀i,i<4→(nl i).length=(h.nm i).n):Ck h nl es ds ms qs scan dn mn=(d 4).all (fun i:Nat=>decide (bN (aY es ds ms qs scan dn mn) i=up (h.nm i).n)):=by
 unfold Ck;rw[hs,Bool.true_and,YK (Hy hs hlen) (fun i=>(h.nm i).n)]
end Yd
