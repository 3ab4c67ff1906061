import Derived.Test.YtnhnhmeogckgpaaGreatDoorRdG
import Derived.Test.YtnhnhmeogckgpaaGreatDoorChG
set_option linter.all false
set_option maxRecDepth 200000
set_option maxHeartbeats 8000000
namespace Yd
open Bool renaming true→C,false→G,and_eq_true→H
open List renaming length_append→D,suffix_refl→I,length_singleton→J,takeWhile_cons→L,dropWhile_suffix→N,length_cons→O,length_take→P,length_drop→Q,length_nil→R,mem_append→S,mem_singleton→V,length_eq_zero_iff→X,drop_suffix→Z
open Nat renaming le_refl→Y
open Go Go.RowKit Go.Proofs
open Lib renaming decodeN→F
open Same renaming setCell→U
open Utf8 renaming decode→A
open _root_ renaming if_pos→o,if_neg→z,Nat→E,List→K,Int→M,UInt8→T,absurd→W
def y9 (c:T):Bool:=o8 c||decide (128≤c.toNat)
def AB (l:Bs):E:=(l.takeWhile y9).length
theorem UO (s:Bs) (i j:E) (_h:i≤j):(⟨s.toArray⟩:ByteArray).extract i j=⟨((s.drop i).take (j - i)).toArray⟩:=by
 apply ByteArray.ext
 rw[ByteArray.data_extract]
 apply Array.ext'
 rw[Array.toList_extract]
def O0 (ws:K Bs) (l:Bs):Except Er (E × Bs):=
 match ws.findIdx? (fun s=>s==l.take (AB l)) with
 |some i=> .ok (i,l.drop (AB l))
 |none=> .error (l.drop (tq ws (l.take (AB l))),220)
theorem aa5 {c:T} (h:o8 c=C):y9 c=C:=by unfold y9;rw[h];rfl
theorem Ke:∀l:Bs,l.takeWhile y9=l.takeWhile o8++(l.drop (l.takeWhile o8).length).takeWhile y9
 |[]=>rfl
 |a::t=>by
  rw[L,L]
  cases hb:o8 a
  ·simp only[Bool.false_eq_true,if_false,List.nil_append,R,List.drop_zero]
   rw[L]
  ·rw[aa5 hb,o rfl,o rfl]
   simp only[O,List.drop_succ_cons,List.cons_append];rw[←Ke t]
theorem YE (q:T→Bool) (l:Bs):l.take (l.takeWhile q).length=l.takeWhile q:=by
 have:l=l.takeWhile q++l.dropWhile q:=(List.takeWhile_append_dropWhile).symm;generalize hx:l.takeWhile q=x at*;rw[this];simp
theorem drop_tw (q:T→Bool) (l:Bs):l.drop (l.takeWhile q).length=l.dropWhile q:=by
 have:l=l.takeWhile q++l.dropWhile q:=(List.takeWhile_append_dropWhile).symm;generalize hx:l.takeWhile q=x at*;generalize hy:l.dropWhile q=y at*;rw[this];simp
theorem dw_head (q:T→Bool):∀(l:Bs) (b:T) (t:Bs),l.dropWhile q=b::t→q b=G
 |[],b,t,h=>by simp at h
 |a::l,b,t,h=>by
  rw[List.dropWhile_cons] at h
  cases hq:q a
  ·rw[hq] at h;simp at h;rw[←h.1];exact hq
  ·rw[hq] at h;exact dw_head q l b t (by simpa using h)
theorem Kg (b:T) (u:Bs):∀(x a:Bs),(∀c∈x,c≠b)→gD x (a++b::u)=gD x a
 |[],a,_=>by simp[gD]
 |c::x,[],h=>by simp[gD,h c List.mem_cons_self]
 |c::x,d::a,h=>by
  rw[List.cons_append];simp only[gD];rw[Kg b u x a (fun e he=>h e (List.mem_cons_of_mem _ he))]
theorem YF (b:T) (u a:Bs) (ws:K Bs) (h:∀x∈ws,∀c∈x,c≠b):tq ws (a++b::u)=tq ws a:=by
 unfold tq;have:∀(ws:K Bs) (m:E),(∀x∈ws,∀c∈x,c≠b)→ws.foldl (fun m s=>max m (gD s (a++b::u))) m=ws.foldl (fun m s=>max m (gD s a)) m:=by
  intro ws
  induction ws with
  |nil=>intro m _;rfl
  |cons x ws ih=>
   intro m hm;simp only[List.foldl_cons];rw[Kg b u x a (hm x List.mem_cons_self),ih _ (fun y hy=>hm y (List.mem_cons_of_mem _ hy))]
 exact this ws 0 h
theorem Em (ws:K Bs) (l:Bs) (hw:∀x∈ws,∀c∈x,o8 c=C):O0 ws l=dH ws l:=by
 have hT:l.take (AB l)=l.takeWhile y9:=YE y9 l;have hs:=Ke l;have hd:=drop_tw o8 l;unfold O0 dH;rw[hT];have hst:dU l=l.takeWhile o8:=rfl
 cases hdw:l.dropWhile o8 with
 |nil=>
  have hdr:l.drop (l.takeWhile o8).length=[]:=hd.trans hdw;rw[hdr] at hs;have hs':l.takeWhile y9=dU l:=by rw[hs];simp[dU]
  have Rm:nA l=dU l:=by unfold nA;rw[hst,hdr];rfl
  have hrun:AB l=(dU l).length:=by unfold AB;rw[hs']
  rw[hs',Rm,hrun]
  rfl
 |cons b t=>
  have hdr:l.drop (l.takeWhile o8).length=b::t:=hd.trans hdw;have hb:o8 b=G:=dw_head o8 l b t hdw;rw[hdr] at hs;by_cases h128:128≤b.toNat
  ·have hR:y9 b=C:=by unfold y9;rw[decide_eq_true h128,Bool.or_true]
   rw[L,hR,o rfl] at hs;have Rm:nA l=dU l++[128]:=by
    unfold nA;rw[hst,hdr];simp only[List.head?_cons];rw[o (show(128:T)≤b from h128)]
   have n1:∀x∈ws,(x==l.takeWhile y9)=G:=fun x hx=>by
    rw[hs];refine beq_eq_false_iff_ne.2 (fun e=>?_);have:=hw x hx b (by rw[e];simp);rw[hb] at this;cases this
   have n2:∀x∈ws,(x==nA l)=G:=fun x hx=>by
    rw[Rm];refine beq_eq_false_iff_ne.2 (fun e=>?_);have:=hw x hx 128 (by rw[e];simp);revert this;decide
   rw[List.findIdx?_eq_none_iff.2 n1,List.findIdx?_eq_none_iff.2 n2];simp only[];rw[hs,YF b _ _ ws (fun x hx c hc e=>by have:=hw x hx c hc;rw[e,hb] at this;cases this)]
   rfl
  ·have hR:y9 b=G:=by unfold y9;rw[decide_eq_false h128,hb];rfl
   rw[L,hR] at hs;have hs':l.takeWhile y9=dU l:=by rw[hs];simp[dU]
   have Rm:nA l=dU l:=by
    unfold nA;rw[hst,hdr];simp only[List.head?_cons];rw[z (show ¬(128:T)≤b from h128)]
   have hrun:AB l=(dU l).length:=by unfold AB;rw[hs']
   rw[hs',Rm,hrun]
   rfl
def Xa (l:Bs):M:=aa6 ⟨l.toArray⟩
def hdN (l:Bs):E:=if okB ⟨l.toArray⟩ 0=C then(A ⟨l.toArray⟩ 0).2 else 1
theorem Rn {l:Bs} (h:l≠[]):Xa l=if okB ⟨l.toArray⟩ 0=C then((A ⟨l.toArray⟩ 0).1:M) else -1:=by
 unfold Xa aa6;rw[o (by rw[fO];cases l with|nil=>exact W rfl h|cons a t=>simp)]
theorem aeF {b:T} (t:Bs) (h:b.toNat<128):Xa (b::t)=b.toNat∧hdN (b::t)=1:=by
 rw[Rn ak];unfold hdN;rw[I5 b t h,o rfl,o rfl,pY b t h];exact⟨rfl,rfl⟩
theorem Ro (n n' b0 b1 b2 b3 c1 c2 c3 r w:E) (hw:F n b0 b1 b2 b3=(r,w)) (hv:¬(r=65533∧w=1)) (hn:w≤n') (h1:1<w→c1=b1) (h2:2<w→c2=b2) (h3:3<w→c3=b3):F n' b0 c1 c2 c3=(r,w):=by
 unfold F at hw
 split at hw
 ·rename_i h
  unfold F;rw[o h];exact hw
 ·rename_i hA
  split at hw
  ·rename_i h
   split at hw
   ·rename_i hk
    injection hw with e1 e2;subst e2;obtain rfl:=h1 ah;unfold F;rw[z hA,o ⟨h.1,by omega,h.2.2⟩,o hk,e1]
   ·injection hw with e1 e2;exact W ⟨e1.symm,e2.symm⟩ hv
  ·rename_i hB
   split at hw
   ·rename_i h
    split at hw
    ·rename_i hk
     injection hw with e1 e2;subst e2;obtain rfl:=h1 ah;obtain rfl:=h2 ah;unfold F;rw[z hA,z ah,o ⟨h.1,⟨by omega,h.2.1.2⟩,by omega,h.2.2.2⟩,o hk,e1]
    ·injection hw with e1 e2;exact W ⟨e1.symm,e2.symm⟩ hv
   ·rename_i hC
    split at hw
    ·rename_i h
     split at hw
     ·rename_i hk
      injection hw with e1 e2;subst e2;obtain rfl:=h1 ah;obtain rfl:=h2 ah;obtain rfl:=h3 ah;unfold F;rw[z hA,z ah,z ah,o ⟨h.1,⟨by omega,h.2.1.2⟩,⟨by omega,h.2.2.1.2⟩,by omega,h.2.2.2.2⟩,o hk,e1]
     ·injection hw with e1 e2;exact W ⟨e1.symm,e2.symm⟩ hv
    ·injection hw with e1 e2;exact W ⟨e1.symm,e2.symm⟩ hv
theorem aeG {l:Bs} (h:okB ⟨l.toArray⟩ 0=C):¬((A ⟨l.toArray⟩ 0).1=65533∧(A ⟨l.toArray⟩ 0).2=1):=by
 rintro⟨h1,h2⟩;unfold okB at h;rw[h1,h2] at h;simp at h
theorem xP (l:Bs) (m k:E) (h:k<m):(l.take m).getD k 0=l.getD k 0:=by simp[List.getD,h]
theorem Kh (l:Bs):A ⟨l.toArray⟩ 0=F l.length (l.getD 0 0).toNat (l.getD 1 0).toNat (l.getD 2 0).toNat (l.getD 3 0).toNat:=by
 have:=Lib.decode_N ⟨l.toArray⟩ 0
 simpa using this
theorem UQ {l:Bs} {m:E} (h:okB ⟨l.toArray⟩ 0=C) (hm:(A ⟨l.toArray⟩ 0).2≤m) (hl:(A ⟨l.toArray⟩ 0).2≤l.length) (h0:0<m):A ⟨(l.take m).toArray⟩ 0=A ⟨l.toArray⟩ 0:=by
 have hv:=aeG h;have hx:=Kh l;obtain⟨r,w,hq⟩:∃r w,A ⟨l.toArray⟩ 0=(r,w):=⟨_,_,rfl⟩;rw[hq] at hx hm hl hv ⊢;simp only at hm hl hv;rw[Kh (l.take m),xP l m 0 h0];refine Ro l.length _ _ _ _ _ _ _ _ r w hx.symm hv (by rw[P];omega) (fun h1=>?_) (fun h1=>?_) (fun h1=>?_)
 ·rw[xP l m 1 ah]
 ·rw[xP l m 2 ah]
 ·rw[xP l m 3 ah]
theorem UR (l:Bs) (h:l≠[]):bQ ⟨l.toArray⟩ l.length 0=0::(bQ ⟨(l.drop (A ⟨l.toArray⟩ 0).2).toArray⟩ (l.drop (A ⟨l.toArray⟩ 0).2).length 0).map ((A ⟨l.toArray⟩ 0).2+ ·):=by
 obtain⟨d,hd⟩:∃d,d=(A ⟨l.toArray⟩ 0).2:=⟨_,rfl⟩;have hw:=yS l h;rw[←hd] at hw ⊢;obtain⟨n,hn⟩:∃n,l.length=n+1:=⟨l.length - 1,by have:l.length≠0:=fun e=>h (List.eq_nil_of_length_eq_zero e);omega⟩;rw[hn];simp only[bQ,fO];rw[o ah,←hd,Nat.zero_add,←Nat.add_zero d,zF,Nat.add_zero,yA ⟨(l.drop d).toArray⟩ n (l.drop d).length 0 (by rw[fO,Q];omega) (by rw[fO];omega)]
theorem Rp {l:Bs} (h:l≠[]) (hk:(okB ⟨l.toArray⟩ 0 && kN ((A ⟨l.toArray⟩ 0).1:M))=C):dF l=(A ⟨l.toArray⟩ 0).2+dF (l.drop (A ⟨l.toArray⟩ 0).2):=by
 unfold dF;rw[jU l kN h,o hk]
theorem YG (l:Bs):dF l≤l.length:=qM kN _ l (Y _)
def Cj (l:Bs) (k:E):Prop:=k≤dF l∧k+dF (l.drop k)=dF l∧
 ∃pre:K E,bQ ⟨(l.take (dF l)).toArray⟩ (l.take (dF l)).length 0=pre++(bQ ⟨((l.take (dF l)).drop k).toArray⟩ ((l.take (dF l)).drop k).length 0).map (k+ ·)∧∀x∈pre,x<k
theorem Cj.zero (l:Bs):Cj l 0:=⟨Nat.zero_le _,by simp,[],by simp,by simp⟩
theorem IX {l:Bs} {k:E} (h:k+dF (l.drop k)=dF l):(l.take (dF l)).drop k=(l.drop k).take (dF (l.drop k)):=by
 rw[←h,List.drop_take];congr 1;omega
theorem Cj.step {l:Bs} {k:E} (h:Cj l k) (hne:l.drop k≠[]) (hk:(okB ⟨(l.drop k).toArray⟩ 0 && kN ((A ⟨(l.drop k).toArray⟩ 0).1:M))=C):
  Cj l (k+(A ⟨(l.drop k).toArray⟩ 0).2)∧(24<k+(A ⟨(l.drop k).toArray⟩ 0).2→k≤24→24<dF l∧rF (l.take (dF l))=k):=by
 obtain⟨h1,h2,pre,hp,hx⟩:=h;have hst:=Rp hne hk;obtain⟨n,hn⟩:∃n,n=(A ⟨(l.drop k).toArray⟩ 0).2:=⟨_,rfl⟩;have hok:okB ⟨(l.drop k).toArray⟩ 0=C:=by
  revert hk;cases okB ⟨(l.drop k).toArray⟩ 0 <;> simp
 have hn1:=yS (l.drop k) hne;have hn2:=yh (l.drop k) hne;rw[←hn] at hst hn1 hn2 ⊢;rw[List.drop_drop] at hst;have htd:=IX h2;have hdec:A ⟨((l.take (dF l)).drop k).toArray⟩ 0=A ⟨(l.drop k).toArray⟩ 0:=by
  rw[htd];exact UQ hok (by rw[←hn];omega) (by rw[←hn];exact hn2) ah
 have hne2:(l.take (dF l)).drop k≠[]:=by
  rw[htd];intro e;have:=congrArg List.length e;rw[P] at this;simp only[R] at this;have:=List.length_pos_iff.2 hne;omega
 have hpc:=UR _ hne2;rw[hdec,←hn,List.drop_drop] at hpc;have hall:bQ ⟨(l.take (dF l)).toArray⟩ (l.take (dF l)).length 0=(pre++[k])++(bQ ⟨((l.take (dF l)).drop (k+n)).toArray⟩ ((l.take (dF l)).drop (k+n)).length 0).map ((k+n)+ ·):=by
  rw[hp,hpc];simp[List.map_map,Function.comp_def,Nat.add_assoc]
 refine⟨⟨by omega,by omega,pre++[k],hall,fun x hxm=>?_⟩,fun uH ag3=>⟨by omega,?_⟩⟩
 ·rcases S.1 hxm with hxm|hxm
  ·have:=hx x hxm;omega
  ·obtain rfl:x=k:=by simpa using hxm
   omega
 ·unfold rF
  rw[hall,List.filter_append,filter_all _ (pre++[k]) (fun x hxm=>?_),Hr _ _ (fun x hxm=>?_)]
  ·simp
  ·obtain⟨y,_,rfl⟩:=List.mem_map.1 hxm
   exact decide_eq_false ah
  ·rcases S.1 hxm with hxm|hxm
   ·have:=hx x hxm;exact decide_eq_true ah
   ·obtain rfl:x=k:=by simpa using hxm
    exact decide_eq_true ag3
theorem YH (b:T):iN b=C↔48≤b.toNat∧b.toNat≤57:=by
 unfold iN;rw[H,decide_eq_true_eq,decide_eq_true_eq,UInt8.le_iff_toNat_le,UInt8.le_iff_toNat_le];rfl
theorem Rq (b:T) (t:Bs):dJ (b::t)=jO (Xa (b::t)):=by
 rw[Rn ak];unfold dJ
 cases h:okB ⟨(b::t).toArray⟩ 0
 ·rw[z ak];rfl
 ·rw[o rfl];rfl
theorem O1 {c:M} (h:jO c=C):jN c=G:=by
 unfold jO at h;unfold jN;simp only[Bool.or_eq_true,H,decide_eq_true_eq] at h;simp only[Bool.and_eq_false_iff,decide_eq_false_iff_not];omega
section
variable {w w':World} {B b:E} {c:bf} {n:aB}
theorem Rs {l r:Bs} (h:dQ l= .ok r):cO l= .ok (C,r):=by
 unfold dQ at h
 cases hm:cO l with
 |error x=>rw[hm] at h;cases h
 |ok y=>
  obtain⟨b,r'⟩:=y;rw[hm] at h
  cases b
  ·cases h
  ·injection h with h;rw[h]
@[reducible] def UU (w:World) (g:E) (c:bf):World:=(((((w.setCell ⟨g,0,none⟩ (.int .i64 c.kind)).setCell ⟨g,1,none⟩ (.slice c.na c.nn c.nc)).setCell ⟨g,2,none⟩ (.int .i64 c.lvl)).setCell ⟨g,3,none⟩ (.slice c.va c.vn c.vc)).setCell ⟨g,4,none⟩ (.bool c.first)).setCell ⟨g,5,none⟩ (.int .i64 c.bits)
theorem Ht (w:World) (g:E) (c:bf):Same (fun i=>i≠g) w (UU w g c):=
 (((((U _ _ _ _ ak).tr (U _ _ _ _ ak)).tr (U _ _ _ _ ak)).tr (U _ _ _ _ ak)).tr (U _ _ _ _ ak)).tr (U _ _ _ _ ak)
theorem gM.UU {g:E} {c':bf} (h:gM w B c n) (h1:∀i,(Value.slice c.na c.nn c.nc).ownBlock=some i→i≠g) (h2:∀i,(Value.slice c.va c.vn c.vc).ownBlock=some i→i≠g):gM (UU w g c') B c n:=
 ⟨h.1,h.2.1.block fun i hi=>(Ht w g c').block i (h1 i hi) (h.2.1.lt i hi).2,h.2.2.block fun i hi=>(Ht w g c').block i (h2 i hi) (h.2.2.lt i hi).2⟩
end
theorem UW {l:Bs} (h:dJ l=G):cu l= .error (l,220):=by unfold cu;rw[o (by rw[h];simp)]
theorem Ki (k:E):∀x∈jG.drop k,∀c∈x,o8 c=C:=fun x hx=>by
 have:∀x∈jG,∀c∈x,o8 c=C:=by decide
 exact this x (List.mem_of_mem_drop hx)
theorem Kj:∀x∈mF,∀c∈x,o8 c=C:=by decide
theorem Nr:∀x∈lG,∀c∈x,o8 c=C:=by decide
theorem YI {b:T} {t:Bs} (h:dJ (b::t)=C):0<dF (b::t):=by
 have hb:(okB ⟨(b::t).toArray⟩ 0 && jO ((A ⟨(b::t).toArray⟩ 0).1:M))=C:=by
  unfold dJ at h
  simpa using h
 rw[H] at hb;have hw:=yS (b::t) ak;unfold dF;rw[jU (b::t) kN ak,o (by rw[hb.1];unfold kN;rw[hb.2];rfl)];omega
theorem Kk {ws:K Bs} {l r:Bs} {i:E} (h:O0 ws l= .ok (i,r)):i<ws.length:=by
 unfold O0 at h
 cases hf:ws.findIdx? (fun s=>s==l.take (AB l)) with
 |none=>rw[hf] at h;cases h
 |some j=>
  rw[hf] at h;injection h with h;injection h with h _;subst h;exact(List.findIdx?_eq_some_iff_findIdx_eq.1 hf).1
theorem Da (w r:Bs) (i:E) (h:i<w.length):ByteArray.get! ⟨(w++r).toArray⟩ i=ByteArray.get! ⟨w.toArray⟩ i:=by
 simp only[ByteArray.get!];rw[getElem!_pos (w++r).toArray i (by simp;omega),getElem!_pos w.toArray i (by simpa using h)];simp[List.getElem_append_left h]
theorem aa7 {s:ByteArray} (h:okB s 0=C):A s 0≠(65533,1):=fun e=>by
 unfold okB at h;rw[e] at h;simp at h
def Stops (p:M→Bool) (r:Bs):Prop:=r=[]∨(okB ⟨r.toArray⟩ 0 && p ((A ⟨r.toArray⟩ 0).1:M))=G
def Sp (b:Bs):Prop:=b≠[]∧∀c∈b,oD c=C
def Cut (r:Bs):Prop:=∀c t,r=c::t→oD c=C∨c=10∨c=35
def glue:K (Bs × Bs)→Bs→Bs
 |[],e=>e
 |p::ps,e=>p.1++(p.2++glue ps e)
def Up:E→K E→Prop
 |_,[]=>True
 |k,j::js=>k≤j∧j<4∧Up (j+1) js
theorem UY (n m b0 b1 b2 b3 c1 c2 c3:E) (h1:1<n→c1=b1) (h2:2<n→c2=b2) (h3:3<n→c3=b3) (hok:F (n+m) b0 c1 c2 c3≠(65533,1)) (hd:(F (n+m) b0 c1 c2 c3).2≤n):F n b0 b1 b2 b3=F (n+m) b0 c1 c2 c3:=by
 unfold F at hok hd ⊢;by_cases a:b0<128
 ·rw[o a,o a]
 rw[z a] at hok hd ⊢;rw[z a];by_cases hA:b0 / 32=6∧(1<n+m∧c1 / 64=2)
 ·rw[o hA] at hok hd ⊢
  by_cases hv:b0 % 32*64+c1 % 64≥128
  ·rw[o hv] at hd ⊢
   have hn:1<n:=hd;rw[o (by rw[←h1 hn];exact⟨hA.1,hn,hA.2.2⟩),←h1 hn,o hv]
  ·rw[z hv] at hok;exact W rfl hok
 rw[z hA] at hok hd ⊢;by_cases hB:b0 / 16=14∧(1<n+m∧c1 / 64=2)∧(2<n+m∧c2 / 64=2)
 ·rw[o hB] at hok hd ⊢
  by_cases hv:b0 % 16*4096+c1 % 64*64+c2 % 64≥2048∧(b0 % 16*4096+c1 % 64*64+c2 % 64<55296∨(57344≤b0 % 16*4096+c1 % 64*64+c2 % 64∧b0 % 16*4096+c1 % 64*64+c2 % 64≤1114111))
  ·rw[o hv] at hd ⊢
   have hn:2<n:=hd;rw[z ah,o (by rw[←h1 ah,←h2 hn];exact⟨hB.1,⟨by omega,hB.2.1.2⟩,hn,hB.2.2.2⟩),←h1 ah,←h2 hn,o hv]
  ·rw[z hv] at hok;exact W rfl hok
 rw[z hB] at hok hd ⊢;by_cases hC:b0 / 8=30∧(1<n+m∧c1 / 64=2)∧(2<n+m∧c2 / 64=2)∧(3<n+m∧c3 / 64=2)
 ·rw[o hC] at hok hd ⊢
  by_cases hv:b0 % 8*262144+c1 % 64*4096+c2 % 64*64+c3 % 64≥65536∧(b0 % 8*262144+c1 % 64*4096+c2 % 64*64+c3 % 64<55296∨(57344≤b0 % 8*262144+c1 % 64*4096+c2 % 64*64+c3 % 64∧b0 % 8*262144+c1 % 64*4096+c2 % 64*64+c3 % 64≤1114111))
  ·rw[o hv] at hd ⊢
   have hn:3<n:=hd;rw[z ah,z ah,o (by rw[←h1 ah,←h2 ah,←h3 hn];exact⟨hC.1,⟨by omega,hC.2.1.2⟩,⟨by omega,hC.2.2.1.2⟩,hn,hC.2.2.2.2⟩),←h1 ah,←h2 ah,←h3 hn,o hv]
  ·rw[z hv] at hok;exact W rfl hok
 rw[z hC] at hok;exact W rfl hok
theorem YJ (w r:Bs) (hw:w≠[]) (hok:okB ⟨(w++r).toArray⟩ 0=C) (hd:(A ⟨(w++r).toArray⟩ 0).2≤w.length):A ⟨w.toArray⟩ 0=A ⟨(w++r).toArray⟩ 0:=by
 have hne:=aa7 hok;have hl:0<w.length:=List.length_pos_iff.2 hw;rw[Lib.decode_at,fO,D,Nat.sub_zero] at hne hd;rw[Lib.decode_at,Lib.decode_at,fO,fO,D,Nat.sub_zero,Nat.sub_zero];rw[Da w r 0 hl] at hne hd ⊢;refine UY _ _ _ _ _ _ _ _ _ (fun h=>?_) (fun h=>?_) (fun h=>?_) hne hd
 ·rw[Da w r (0+1) ah]
 ·rw[Da w r (0+2) ah]
 ·rw[Da w r (0+3) ah]
theorem DL (p:M→Bool):∀(n:E) (l:Bs),l.length≤n→gK ⟨(l.take (gK ⟨l.toArray⟩ p)).toArray⟩ p=gK ⟨l.toArray⟩ p
 |0,l,hn=>by
  have:l=[]:=X.1 ah;subst this;rfl
 |n+1,l,hn=>by
  by_cases h0:l=[]
  ·subst h0;rfl
  ·have hle:=qM p l.length l (Y _)
   have hw:=jU l p h0;by_cases hc:(okB ⟨l.toArray⟩ 0 && p ((A ⟨l.toArray⟩ 0).1:M))=C
   ·rw[o hc] at hw
    rw[H] at hc;have h1:=yS l h0;have h2:=yh l h0;obtain⟨d,hd⟩:∃d,d=(A ⟨l.toArray⟩ 0).2:=⟨_,rfl⟩;obtain⟨k,hk⟩:∃k,k=gK ⟨(l.drop d).toArray⟩ p:=⟨_,rfl⟩;rw[←hd] at hw h1 h2;rw[←hk] at hw;have ih:=DL p n (l.drop d) (by rw[Q];omega);rw[←hk] at ih;rw[hw] at hle ⊢;have hsp:l=l.take (d+k)++l.drop (d+k):=(List.take_append_drop _ _).symm;have htl:(l.take (d+k)).length=d+k:=by rw[P];omega
    have htn:l.take (d+k)≠[]:=by intro e;rw[e] at htl;simp at htl;omega
    have hdec:A ⟨(l.take (d+k)).toArray⟩ 0=A ⟨l.toArray⟩ 0:=by
     have:=YJ (l.take (d+k)) (l.drop (d+k)) htn (by rw[←hsp];exact hc.1) (by rw[←hsp,←hd,htl];omega);rw[←hsp] at this;exact this
    have hok2:okB ⟨(l.take (d+k)).toArray⟩ 0=C:=by unfold okB;rw[hdec];exact hc.1
    rw[jU _ p htn,hok2,hdec,hc.2,o (show(C && C)=C from rfl),←hd];have:(l.take (d+k)).drop d=(l.drop d).take k:=by rw[List.drop_take];congr 1;omega
    rw[this,ih]
   ·rw[z hc] at hw
    rw[hw];rfl
theorem za {l m r:Bs} (h:cu l= .ok (m,r)):bS ⟨m.toArray⟩=C:=by
 unfold cu at h;by_cases h1:(gY l||!dJ l)=C
 ·rw[o h1] at h;cases h
 rw[z h1] at h;by_cases h2:24<dF l
 ·rw[o h2] at h;cases h
 rw[z h2] at h;injection h with h;injection h with hm _;have hb:dJ l=C:=by
  cases hq:dJ l
  ·rw[hq] at h1;simp at h1
  ·rfl
 cases l with
 |nil=>simp[dJ] at hb
 |cons b t=>
  have hpos:=YI hb;have hrl:=YG (b::t);have hml:m.length=dF (b::t):=by rw[←hm,P];omega
  have hwm:gK ⟨m.toArray⟩ kN=m.length:=by rw[hml,←hm];exact DL kN _ (b::t) (Y _)
  have hmc:∃t',m=b::t':=by
   rw[←hm];obtain⟨k,hk⟩:∃k,dF (b::t)=k+1:=⟨dF (b::t) - 1,by omega⟩;rw[hk,List.take_succ_cons];exact⟨_,rfl⟩
  obtain⟨t',rfl⟩:=hmc;unfold bS;rw[fO,hwm,H,H,H];refine⟨⟨⟨by simp,decide_eq_true ah⟩,?_⟩,by simp⟩;have hle:=Rq b t;rw[hb] at hle;have hf:zZ ⟨(b::t').toArray⟩=(b.toNat:M):=by
   unfold zZ;rw[dif_pos (by rw[fO];simp)];show wrap32 (b.toNat:M)=_;have:=b.toNat_lt;unfold wrap32;omega
  rw[hf];rcases Nat.lt_or_ge b.toNat 128 with hlo|hhi
  ·rw[(aeF t hlo).1] at hle
   rw[O1 hle.symm];rfl
  ·unfold jN
   rw[Bool.not_eq_true',Bool.and_eq_false_iff]
   right
   exact decide_eq_false ah
theorem Ns:∀(l:Bs) (n:E),0<n→0<l.foldl (fun n (c:T)=>n*10+(c.toNat - 48)) n
 |[],_,h=>h
 |c::t,n,h=>by rw[List.foldl_cons];exact Ns t _ ah
theorem Nt {l r:Bs} {v:To} (h:fq l= .ok (v,r)):nM v:=by
 unfold fq at h;by_cases h0:l.head?=some 45
 ·rw[o h0] at h;injection h with h;injection h with h _;subst h;exact .inl rfl
 rw[z h0] at h
 cases hn:cu l with
 |error x=>rw[hn] at h;cases h
 |ok y=>
  obtain⟨nm,r1⟩:=y;rw[hn] at h;simp only[] at h;by_cases h46:r1.head?=some 46
  ·rw[o h46] at h
   unfold uS at h;simp only[] at h;by_cases hd:(r1.tail.takeWhile iN).head?=none∨(r1.tail.takeWhile iN).head?=some 48
   ·rw[o hd] at h;cases h
   rw[z hd] at h;by_cases h9:999<qN (r1.tail.takeWhile iN)
   ·rw[o h9] at h;cases h
   rw[z h9] at h;injection h with h;injection h with h _;subst h;refine .inr ⟨za hn,?_,by show((qN _:E):M)≤999;omega⟩
   cases hq:r1.tail.takeWhile iN with
   |nil=>rw[hq] at hd;exact W (.inl rfl) hd
   |cons c t=>
    rw[hq] at hd;have hdg:iN c=C:=Kl iN r1.tail c (by rw[hq];exact List.mem_cons_self);have hc:=(YH c).1 hdg;have hne:c.toNat≠48:=fun e=>hd (.inr (by rw[List.head?_cons];exact congrArg some (UInt8.toNat_inj.1 e)))
    have:=Ns t (0*10+(c.toNat - 48)) ah;show(0:M)<((qN (c::t):E):M);unfold qN;rw[List.foldl_cons];omega
  ·rw[z h46] at h;cases h
theorem qP {l r:Bs} {b:Bool} (h:cO l= .ok (b,r)):r.length+(if b=C then 1 else 0)≤l.length:=by
 unfold cO at h;have hs:(bL l).length≤l.length:=(N _).length_le
 split at h
 ·injection h with h;injection h with h1 h2;subst h1 h2;simpa using hs
 ·split at h
  ·cases h
  ·injection h with h;injection h with h1 h2;subst h1 h2;simp only[if_true];omega
theorem AJ {l r:Bs} (h:dQ l= .ok r):r.length+1≤l.length:=by
 unfold dQ at h
 cases hm:cO l with
 |error y=>rw[hm] at h;cases h
 |ok y=>
  obtain⟨b,r0⟩:=y;rw[hm] at h
  cases b
  ·cases h
  ·injection h with h;subst h;exact qP hm
theorem AL {l m r:Bs} (h:cu l= .ok (m,r)):r.length+1≤l.length:=by
 have hw:=za h;unfold cu at h
 split at h
 ·cases h
 split at h
 ·cases h
 injection h with h;injection h with h1 h2;have hl:m.length+r.length=l.length:=by rw[←h1,←h2,←D,List.take_append_drop]
 cases m with
 |nil=>simp[bS] at hw
 |cons c t=>simp only[O] at hl;omega
theorem Km {l r:Bs} {v:To} (h:fq l= .ok (v,r)):r.length+1≤l.length:=by
 unfold fq at h;by_cases h0:l.head?=some 45
 ·rw[o h0] at h;injection h with h;injection h with _ h;subst h
  cases l with
  |nil=>cases h0
  |cons c t=>exact Y _
 ·rw[z h0] at h
  cases hn:cu l with
  |error x=>rw[hn] at h;cases h
  |ok y=>
   obtain⟨nm,r1⟩:=y;rw[hn] at h;have:=AL hn;simp only[] at h
   split at h
   ·unfold uS at h
    simp only[] at h
    split at h
    ·cases h
    split at h
    ·cases h
    injection h with h;injection h with _ h;subst h;simp only[Q,List.length_tail];omega
   ·cases h
theorem En {ws:K Bs} {l r:Bs} {i:E} (hw:∀x∈ws,∀c∈x,o8 c=C) (h0:∀x∈ws,x≠[]) (h:dH ws l= .ok (i,r)):r.length+1≤l.length:=by
 unfold dH at h
 cases hf:ws.findIdx? (fun s=>s==nA l) with
 |none=>rw[hf] at h;cases h
 |some j=>
  rw[hf] at h;injection h with h;injection h with _ h;subst h;obtain⟨hj,he,_⟩:=List.findIdx?_eq_some_iff_getElem.1 hf;have hm:=List.getElem_mem hj;rw[beq_iff_eq.1 he] at hm;have hle:(dU l).length≤l.length:=(List.takeWhile_prefix _).length_le;rw[Q];have:dU l≠[]:=fun e=>by
   have h2:nA l=dU l∨nA l=dU l++[128]:=by
    unfold nA
    split
    ·split
     ·exact .inr rfl
     ·exact .inl rfl
    ·exact .inl rfl
   rw[e] at h2;rcases h2 with h2|h2
   ·exact h0 _ hm h2
   ·exact W (hw _ hm 128 (by rw[h2];simp)) aj
  have:=List.length_pos_iff.2 this;omega
theorem O3:∀m:Fin 4,∀b:Fin 16,b.val<2 ^ m.val→(vR ((b.val:M)+2 ^ m.val)).length=(vR (b.val:M)).length+1:=by decide
theorem Kn {α β:Type} (f g:α→β):∀l:K α,(l.flatMap (fun p=>[f p,g p])).length=2*l.length
 |[]=>rfl
 |a::l=>by rw[List.flatMap_cons,D,Kn f g l];simp only[O,R];omega
theorem Hu:∀(k:E) (acc:K Bs) (l:Bs) {ns:K Bs} {r:Bs},jg k acc l= .ok (ns,r)→(∀x∈acc,bS ⟨x.toArray⟩=C)→ns.length=acc.length+k∧(∀x∈ns,bS ⟨x.toArray⟩=C)∧r.length+2*k≤l.length
 |0,acc,l,ns,r,h,ha=>by rw[jg] at h;injection h with h;injection h with h h2;subst h h2;exact⟨rfl,ha,Y _⟩
 |k+1,acc,l,ns,r,h,ha=>by
  rw[jg] at h
  cases hm:dQ l with
  |error y=>rw[hm] at h;cases h
  |ok r0=>
   rw[hm] at h;simp only[] at h
   cases hn:cu r0 with
   |error y=>rw[hn] at h;cases h
   |ok y=>
    obtain⟨nm,r1⟩:=y;rw[hn] at h;have:=Hu k _ _ h (fun x hx=>by
     rcases S.1 hx with hx|hx
     ·exact ha x hx
     ·rw[V.1 hx];exact za hn)
    simp only[D,J] at this;have h1:=AJ hm;have h2:=AL hn;exact⟨by omega,this.2.1,by omega⟩
theorem uT (pairs:Bool) (most:E):∀(f many:E) (ns:K Bs) (vs:K To) (l:Bs) {a:K Bs} {b:K To} {r:Bs},bJ pairs most f many ns vs l= .ok ((a,b),r)→most+1≤f+many→many≤most→(∀x∈ns,bS ⟨x.toArray⟩=C)→(∀v∈vs,nM v)→
  ∃c:E,a.length=ns.length+c∧b.length=vs.length+(if pairs=C then c else 0)∧many+c≤most∧(∀x∈a,bS ⟨x.toArray⟩=C)∧(∀v∈b,nM v)∧r.length+(if pairs=C then 4*c else 2*c)≤l.length
 |0,many,ns,vs,l,a,b,r,h,hf,hm,hns,hvs=>by omega
 |f+1,many,ns,vs,l,a,b,r,h,hf,hm,hns,hvs=>by
  rw[bJ] at h
  cases hmo:cO l with
  |error y=>rw[hmo] at h;cases h
  |ok y=>
   obtain⟨bo,r0⟩:=y;rw[hmo] at h
   cases bo
   ·injection h with h;injection h with h h3;injection h with h1 h2;subst h1 h2 h3
    exact⟨0,rfl,by split <;> rfl,hm,hns,hvs,by have:=qP hmo;simp only[Nat.mul_zero,ite_self];omega⟩
   ·simp only[] at h
    by_cases hb:many=most∧dJ r0=C
    ·rw[o hb] at h;cases h
    ·rw[z hb] at h
     cases hn:cu r0 with
     |error y=>rw[hn] at h;cases h
     |ok y=>
      obtain⟨nm,r1⟩:=y;rw[hn] at h;simp only[] at h;have hmn:many<most:=by
       rcases Nat.lt_or_ge many most with h'|h'
       ·exact h'
       ·exfalso
        have hbe:dJ r0=G:=by
         cases hq:dJ r0
         ·rfl
         ·exact W ⟨by omega,hq⟩ hb
        rw[UW hbe] at hn;cases hn
      have aa8:∀x∈ns++[nm],bS ⟨x.toArray⟩=C:=fun x hx=>by
       rcases S.1 hx with hx|hx
       ·exact hns x hx
       ·rw[V.1 hx];exact za hn
      by_cases hp:pairs=C
      ·rw[o hp] at h
       cases hu:dQ r1 with
       |error y=>rw[hu] at h;cases h
       |ok r2=>
        rw[hu] at h;simp only[] at h
        cases hv:fq r2 with
        |error y=>rw[hv] at h;cases h
        |ok y=>
         obtain⟨v,r3⟩:=y;rw[hv] at h;obtain⟨c,h1,h2,h3,h4,h5,h6⟩:=uT pairs most f (many+1) _ _ _ h ah ah aa8 (fun x hx=>by
          rcases S.1 hx with hx|hx
          ·exact hvs x hx
          ·rw[V.1 hx];exact Nt hv)
         rw[o hp] at h2 h6;simp only[D,J] at h1 h2;have l1:=qP hmo;have l2:=AL hn;have l3:=AJ hu;have l4:=Km hv;rw[o rfl] at l1;exact⟨c+1,by omega,by rw[o hp];omega,by omega,h4,h5,by rw[o hp];omega⟩
      ·rw[z hp] at h
       obtain⟨c,h1,h2,h3,h4,h5,h6⟩:=uT pairs most f (many+1) _ _ _ h ah ah aa8 hvs;rw[z hp] at h2 h6;simp only[D,J] at h1;have l1:=qP hmo;have l2:=AL hn;rw[o rfl] at l1;exact⟨c+1,by omega,by rw[z hp];omega,by omega,h4,h5,by rw[z hp];omega⟩
theorem Ko:∀(f k:E) (b:M) (l:Bs) {x:M} {r:Bs},iV f k b l= .ok (x,r)→(∃m:E,b=m∧m<2 ^ k∧k≤4)→(∃m:E,x=m∧m≤15)∧r.length+2*(vR x).length≤l.length+2*(vR b).length
 |0,k,b,l,x,r,h,⟨m,hm,hlt,hk⟩=>by
  rw[iV] at h;injection h with h;injection h with h h2;subst h h2;refine⟨⟨m,hm,?_⟩,Y _⟩;have:(2:E) ^ k≤2 ^ 4:=Nat.pow_le_pow_right aj hk;omega
 |f+1,k,b,l,x,r,h,⟨m,hm,hlt,hk⟩=>by
  rw[iV] at h;have h16:(2:E) ^ k≤2 ^ 4:=Nat.pow_le_pow_right aj hk
  cases hmo:cO l with
  |error y=>rw[hmo] at h;cases h
  |ok y=>
   obtain⟨bo,r0⟩:=y;rw[hmo] at h
   cases bo
   ·injection h with h;injection h with h h2;subst h h2
    exact⟨⟨m,hm,by omega⟩,by have:=qP hmo;omega⟩
   ·simp only[] at h
    cases hw:dH (jG.drop k) r0 with
    |error y=>rw[hw] at h;cases h
    |ok y=>
     obtain⟨i,r1⟩:=y;rw[hw] at h;have l1:=qP hmo;have l2:=En (Ki k) (fun x hx=>(show ∀x∈jG,x≠[] by decide) x (List.mem_of_mem_drop hx)) hw;rw[o rfl] at l1;rw[←Em _ _ (Ki k)] at hw;have hi:=Kk hw;rw[Q] at hi;have h4:jG.length=4:=rfl;have hpw:(2:E) ^ k≤2 ^ (k+i):=Nat.pow_le_pow_right aj ah;have hga:=O3 ⟨k+i,by omega⟩ ⟨m,by omega⟩ (by show m<2 ^ (k+i);omega);have:=Ko f (k+i+1) _ _ h ⟨m+2 ^ (k+i),by rw[hm];push_cast;rfl,by rw[Nat.pow_succ];omega,by omega⟩;simp only[] at hga;rw[hm,hga,←hm] at this;exact⟨this.1,by omega⟩
theorem nC (s:aB):(Fg s).length≤1+s.names.length+(if dm s.kind.toNat=108 then 1 else if dm s.kind.toNat=118 then 1 else if dm s.kind.toNat=103 then(vR s.bits).length else if dm s.kind.toNat=109∧s.first=C then 1 else 0)+(if dm s.kind.toNat=115 then s.aF.length else 0):=by
 unfold Fg;simp only[O,D];have h1:(s.names.take (bX s.kind.toNat).toNat).length+(s.names.drop (bX s.kind.toNat).toNat).length=s.names.length:=by rw[←D,List.take_append_drop]
 have h2:((s.names.drop (bX s.kind.toNat).toNat).zip s.aF|>.flatMap (fun p=>[p.1,Jb p.2])).length≤(s.names.drop (bX s.kind.toNat).toNat).length+s.aF.length:=by rw[Kn,List.length_zip];omega
 have h3:(s.aF.take 1|>.map Jb).length≤1:=by rw[List.length_map,P];omega
 generalize dm s.kind.toNat=q at*;by_cases UZ:q=108
 ·subst UZ;simp only[if_true,Int.reduceEq,if_false,J];omega
 by_cases U0:q=118
 ·subst U0;simp only[if_true,Int.reduceEq,if_false];omega
 by_cases U1:q=103
 ·subst U1;simp only[if_true,Int.reduceEq,if_false];omega
 by_cases U2:q=109∧s.first=C
 ·obtain⟨rfl,hf⟩:=U2;simp only[hf,and_self,if_true,Int.reduceEq,if_false,J];omega
 rw[z UZ,z U0,z U1,z U2,z UZ,z U0,z U1,z U2];by_cases O4:q=115
 ·rw[o O4,o O4,R];omega
 ·rw[z O4,z O4,R];omega
theorem Rt {l r:Bs} {b:Bool} (h:jF l= .ok (b,r)):r.length+(if b=C then 2 else 0)≤l.length:=by
 unfold jF at h
 cases hm:cO l with
 |error y=>rw[hm] at h;cases h
 |ok y=>
  obtain⟨c,r0⟩:=y;have l1:=qP hm;rw[hm] at h
  cases c
  ·injection h with h;injection h with h h2;subst h h2;simp
  ·simp only[] at h
   rw[o rfl] at l1
   split at h
   ·rename_i h0
    injection h with h;injection h with h h2;subst h h2
    cases r0 with
    |nil=>cases h0
    |cons c t=>simp only[O,List.tail_cons,if_true] at*;omega
   ·injection h with h;injection h with h h2;subst h h2;simp
theorem U3 {l r:Bs} {n:aB} (h:jk l= .ok (n,r)):n=⟨0,[],0,[],G,0⟩∨(fC n∧r.length+2*(Fg n).length≤l.length+1):=by
 unfold jk at h;by_cases he:gY (bL l)=C
 ·rw[o he] at h;injection h with h;injection h with h _;exact .inl h.symm
 rw[z he] at h
 right
 cases hw:dH lG (bL l) with
 |error y=>rw[hw] at h;cases h
 |ok y=>
  obtain⟨i,r0⟩:=y;rw[hw] at h;simp only[] at h;have k1:=En Nr aj hw;have k0:(bL l).length≤l.length:=(N _).length_le;rw[←Em _ _ Nr] at hw;have hi:i<9:=Kk hw
  cases hn:jg (bX (i+1)).toNat [] r0 with
  |error y=>rw[hn] at h;cases h
  |ok y=>
   obtain⟨ns,r1⟩:=y;rw[hn] at h;simp only[] at h;have h1:=Hu _ _ _ hn ak
   cases ht:rD (i+1) ns r1 with
   |error y=>rw[ht] at h;cases h
   |ok y=>
    obtain⟨s,r2⟩:=y;rw[ht] at h;simp only[] at h;have hs:s=n∧r.length≤r2.length:=by
     cases hm:cO r2 with
     |error y=>rw[hm] at h;cases h
     |ok y=>
      obtain⟨b,r3⟩:=y;have:=qP hm;rw[hm] at h
      cases b
      ·injection h with h;injection h with h h2;subst h2;exact⟨h,by omega⟩
      ·cases h
    obtain⟨rfl,k3⟩:=hs;have k2:=h1.2.2;have h1:=And.intro h1.1 h1.2.1;clear h hn hw he;have hk:i=0∨i=1∨i=2∨i=3∨i=4∨i=5∨i=6∨i=7∨i=8:=by omega
    unfold rD at ht;rcases hk with rfl|rfl|rfl|rfl|rfl|rfl|rfl|rfl|rfl
    ·rw[o rfl] at ht
     cases hm:dQ r1 with
     |error y=>rw[hm] at ht;cases ht
     |ok r0=>
      rw[hm] at ht;simp only[] at ht
      cases hq:dH mF r0 with
      |error y=>rw[hq] at ht;cases ht
      |ok y=>
       obtain⟨j,r3⟩:=y;rw[hq] at ht;injection ht with ht;injection ht with ht ht2;subst ht ht2;have q2:=En Kj aj hq;rw[←Em _ _ Kj] at hq;have hj:j<4:=Kk hq;refine⟨⟨h1.2,by simp,.inl ⟨rfl,h1.1.trans aj,rfl,⟨1+j,by push_cast;rfl,by omega,by omega⟩,rfl,rfl⟩⟩,?_⟩;have kq:(bX (0+1)).toNat=2:=rfl;have hn0:ns.length=2:=h1.1.trans aj;have q1:=AJ hm;have:=nC ⟨((0+1:E):M),ns,1+(j:M),[],G,0⟩;simp[dm] at this ⊢;omega
    ·injection ht with ht;injection ht with ht ht2;subst ht ht2
     refine⟨⟨h1.2,by simp,.inr (.inl ⟨rfl,h1.1.trans aj,rfl,rfl,rfl,rfl⟩)⟩,?_⟩;have kq:(bX (1+1)).toNat=2:=rfl;have hn0:ns.length=2:=h1.1.trans aj;have:=nC ⟨((1+1:E):M),ns,0,[],G,0⟩;simp[dm] at this ⊢;omega
    ·rw[z aj,o rfl] at ht
     cases hm:dQ r1 with
     |error y=>rw[hm] at ht;cases ht
     |ok r0=>
      rw[hm] at ht;simp only[] at ht
      cases hq:fq r0 with
      |error y=>rw[hq] at ht;cases ht
      |ok y=>
       obtain⟨v,r3⟩:=y;rw[hq] at ht;injection ht with ht;injection ht with ht ht2;subst ht ht2;refine⟨⟨h1.2,fun t ht=>by rw[V.1 ht];exact Nt hq,.inr (.inr (.inl ⟨rfl,h1.1.trans aj,rfl,rfl,rfl,rfl⟩))⟩,?_⟩;have kq:(bX (2+1)).toNat=2:=rfl;have hn0:ns.length=2:=h1.1.trans aj;have q1:=AJ hm;have q2:=Km hq;have:=nC ⟨((2+1:E):M),ns,0,[v],G,0⟩;simp[dm] at this ⊢;omega
    ·rw[z aj,z aj,z aj,z aj,o rfl] at ht
     cases ho:bJ C 40 41 0 ns [] r1 with
     |error y=>rw[ho] at ht;cases ht
     |ok y=>
      obtain⟨⟨a,b⟩,r3⟩:=y;rw[ho] at ht;injection ht with ht;injection ht with ht ht2;subst ht ht2;obtain⟨c,e1,e2,e3,e4,e5,e6⟩:=uT _ _ _ _ _ _ _ ho ah ah h1.2 ak;have hl:ns.length=2:=h1.1.trans aj;refine⟨⟨e4,e5,.inr (.inr (.inr (.inl ⟨rfl,⟨c,by show a.length=_;omega,by show b.length=_;simpa using e2,by omega⟩,trivial,rfl,rfl,rfl⟩)))⟩,?_⟩;have kq:(bX (3+1)).toNat=2:=rfl;rw[o rfl] at e6;have:=nC ⟨((3+1:E):M),a,0,b,G,0⟩;simp[dm] at this e2 ⊢;omega
    ·injection ht with ht;injection ht with ht ht2;subst ht ht2
     refine⟨⟨h1.2,by simp,.inr (.inr (.inr (.inr (.inl ⟨rfl,h1.1.trans aj,rfl,rfl,rfl,rfl⟩))))⟩,?_⟩;have kq:(bX (4+1)).toNat=1:=rfl;have hn0:ns.length=1:=h1.1.trans aj;have:=nC ⟨((4+1:E):M),ns,0,[],G,0⟩;simp[dm] at this ⊢;omega
    ·injection ht with ht;injection ht with ht ht2;subst ht ht2
     refine⟨⟨h1.2,by simp,.inr (.inr (.inr (.inr (.inr (.inl ⟨rfl,h1.1.trans aj,rfl,rfl,rfl,rfl⟩)))))⟩,?_⟩;have kq:(bX (5+1)).toNat=1:=rfl;have hn0:ns.length=1:=h1.1.trans aj;have:=nC ⟨((5+1:E):M),ns,0,[],G,0⟩;simp[dm] at this ⊢;omega
    ·rw[z aj,z aj,z aj,z aj,z aj,o rfl] at ht
     cases ho:bJ G 300 301 0 ns [] r1 with
     |error y=>rw[ho] at ht;cases ht
     |ok y=>
      obtain⟨⟨a,b⟩,r3⟩:=y;rw[ho] at ht;injection ht with ht;injection ht with ht ht2;subst ht ht2;obtain⟨c,e1,e2,e3,e4,e5,e6⟩:=uT _ _ _ _ _ _ _ ho ah ah h1.2 ak;have hl:ns.length=1:=h1.1.trans aj;have hb:b=[]:=X.1 (by simpa using e2);refine⟨⟨e4,e5,.inr (.inr (.inr (.inr (.inr (.inr (.inl ⟨rfl,⟨c,by show a.length=_;omega,by omega⟩,hb,rfl,rfl,rfl⟩))))))⟩,?_⟩;have kq:(bX (6+1)).toNat=1:=rfl;rw[z aj] at e6;have:=nC ⟨((6+1:E):M),a,0,b,G,0⟩;simp[dm] at this ⊢;omega
    ·rw[z aj,z aj,z aj,o rfl] at ht
     cases hf:jF r1 with
     |error y=>rw[hf] at ht;cases ht
     |ok y=>
      obtain⟨fi,r0⟩:=y;rw[hf] at ht;simp only[] at ht
      cases ho:bJ G 300 301 0 ns [] r0 with
      |error y=>rw[ho] at ht;cases ht
      |ok y=>
       obtain⟨⟨a,b⟩,r3⟩:=y;rw[ho] at ht;injection ht with ht;injection ht with ht ht2;subst ht ht2;obtain⟨c,e1,e2,e3,e4,e5,e6⟩:=uT _ _ _ _ _ _ _ ho ah ah h1.2 ak;have hl:ns.length=2:=h1.1.trans aj;have hb:b=[]:=X.1 (by simpa using e2);refine⟨⟨e4,e5,.inr (.inr (.inr (.inr (.inr (.inr (.inr (.inl ⟨rfl,⟨c,by show a.length=_;omega,by omega⟩,hb,rfl,trivial,rfl⟩)))))))⟩,?_⟩;have kq:(bX (7+1)).toNat=2:=rfl;rw[z aj] at e6;have q1:=Rt hf;have:=nC ⟨((7+1:E):M),a,0,b,fi,0⟩;simp[dm] at this ⊢;cases fi <;> simp at this q1 <;> omega
    ·rw[z aj,z aj,o rfl] at ht
     cases hg:iV 5 0 0 r1 with
     |error y=>rw[hg] at ht;cases ht
     |ok y=>
      obtain⟨b,r3⟩:=y;rw[hg] at ht;injection ht with ht;injection ht with ht ht2;subst ht ht2;obtain⟨⟨m,hm,h15⟩,q0⟩:=Ko _ _ _ _ hg ⟨0,rfl,by decide,by decide⟩;refine⟨⟨h1.2,by simp,.inr (.inr (.inr (.inr (.inr (.inr (.inr (.inr ⟨rfl,h1.1.trans aj,rfl,rfl,rfl,⟨m,hm,h15⟩⟩)))))))⟩,?_⟩;have kq:(bX (8+1)).toNat=1:=rfl;have hn0:ns.length=1:=h1.1.trans aj;have:=nC ⟨((8+1:E):M),ns,0,[],G,b⟩;simp[dm] at this ⊢;have q1:(vR 0).length=0:=by decide
      omega
theorem yB {l r:Bs} {b:Bool} (h:cO l= .ok (b,r)):r<:+l:=by
 have hs:bL l<:+l:=by unfold bL;exact N _
 unfold cO at h
 split at h
 ·injection h with h;injection h with _ h;rw[←h];exact hs
 ·split at h
  ·cases h
  ·injection h with h;injection h with _ h;rw[←h];exact hs
theorem AO {l r:Bs} (h:dQ l= .ok r):r<:+l:=yB (Rs h)
theorem Eo {l r m:Bs} (h:cu l= .ok (m,r)):r<:+l:=by
 unfold cu at h
 split at h
 ·cases h
 ·split at h
  ·cases h
  ·injection h with h;injection h with _ h;rw[←h];exact Z _ _
theorem Ep {ws:K Bs} {l r:Bs} {i:E} (h:dH ws l= .ok (i,r)):r<:+l:=by
 unfold dH at h
 split at h
 ·injection h with h;injection h with _ h;rw[←h];exact Z _ _
 ·cases h
theorem Kq {l r:Bs} {v:To} (h:fq l= .ok (v,r)):r<:+l:=by
 unfold fq at h;by_cases h0:l.head?=some 45
 ·rw[o h0] at h;injection h with h;injection h with _ h;rw[←h];exact List.tail_suffix _
 rw[z h0] at h
 cases hn:cu l with
 |error x=>rw[hn] at h;cases h
 |ok y=>
  obtain⟨nm,r1⟩:=y;have h1:=Eo hn;rw[hn] at h;simp only[] at h;by_cases h46:r1.head?=some 46
  ·rw[o h46] at h
   unfold uS at h;simp only[] at h
   split at h
   ·cases h
   ·split at h
    ·cases h
    ·injection h with h;injection h with _ h;rw[←h];exact((Z _ _).trans (List.tail_suffix _)).trans h1
  ·rw[z h46] at h;cases h
theorem Hw:∀(k:E) (acc:K Bs) (l:Bs) {ns:K Bs} {r:Bs},jg k acc l= .ok (ns,r)→r<:+l
 |0,acc,l,ns,r,h=>by rw[jg] at h;injection h with h;injection h with _ h;subst h;exact I _
 |k+1,acc,l,ns,r,h=>by
  rw[jg] at h
  cases hm:dQ l with
  |error y=>rw[hm] at h;cases h
  |ok r0=>
   rw[hm] at h;simp only[] at h
   cases hn:cu r0 with
   |error y=>rw[hn] at h;cases h
   |ok y=>
    obtain⟨nm,r1⟩:=y;rw[hn] at h;exact((Hw k _ _ h).trans (Eo hn)).trans (AO hm)
theorem uU (pairs:Bool) (most:E):∀(f many:E) (ns:K Bs) (vs:K To) (l:Bs) {x:K Bs × K To} {r:Bs},bJ pairs most f many ns vs l= .ok (x,r)→r<:+l
 |0,many,ns,vs,l,x,r,h=>by rw[bJ] at h;injection h with h;injection h with _ h;subst h;exact I _
 |f+1,many,ns,vs,l,x,r,h=>by
  rw[bJ] at h
  cases hmo:cO l with
  |error y=>rw[hmo] at h;cases h
  |ok y=>
   obtain⟨bo,r0⟩:=y;have h0:=yB hmo;rw[hmo] at h
   cases bo
   ·injection h with h;injection h with _ h;subst h;exact h0
   ·simp only[] at h
    by_cases hb:many=most∧dJ r0=C
    ·rw[o hb] at h;cases h
    ·rw[z hb] at h
     cases hn:cu r0 with
     |error y=>rw[hn] at h;cases h
     |ok y=>
      obtain⟨nm,r1⟩:=y;have h1:=Eo hn;rw[hn] at h;simp only[] at h;by_cases hp:pairs=C
      ·rw[o hp] at h
       cases hu:dQ r1 with
       |error y=>rw[hu] at h;cases h
       |ok r2=>
        have h2:=AO hu;rw[hu] at h;simp only[] at h
        cases hv:fq r2 with
        |error y=>rw[hv] at h;cases h
        |ok y=>
         obtain⟨v,r3⟩:=y;have h3:=Kq hv;rw[hv] at h;exact((((uU pairs most f _ _ _ _ h).trans h3).trans h2).trans h1).trans h0
      ·rw[z hp] at h
       exact((uU pairs most f _ _ _ _ h).trans h1).trans h0
theorem Kr:∀(f k:E) (b:M) (l:Bs) {x:M} {r:Bs},iV f k b l= .ok (x,r)→r<:+l
 |0,k,b,l,x,r,h=>by rw[iV] at h;injection h with h;injection h with _ h;subst h;exact I _
 |f+1,k,b,l,x,r,h=>by
  rw[iV] at h
  cases hmo:cO l with
  |error y=>rw[hmo] at h;cases h
  |ok y=>
   obtain⟨bo,r0⟩:=y;have h0:=yB hmo;rw[hmo] at h
   cases bo
   ·injection h with h;injection h with _ h;subst h;exact h0
   ·simp only[] at h
    cases hw:dH (jG.drop k) r0 with
    |error y=>rw[hw] at h;cases h
    |ok y=>
     obtain⟨i,r1⟩:=y;have h1:=Ep hw;rw[hw] at h;exact((Kr f _ _ _ h).trans h1).trans h0
theorem Ru {l r:Bs} {b:Bool} (h:jF l= .ok (b,r)):r<:+l:=by
 unfold jF at h
 cases hmo:cO l with
 |error y=>rw[hmo] at h;cases h
 |ok y=>
  obtain⟨bo,r0⟩:=y;have h0:=yB hmo;rw[hmo] at h
  cases bo
  ·injection h with h;injection h with _ h;subst h;exact I _
  ·simp only[] at h
   split at h
   ·injection h with h;injection h with _ h;rw[←h];exact(List.tail_suffix _).trans h0
   ·injection h with h;injection h with _ h;subst h;exact I _
theorem U4 {k:E} {ns:K Bs} {l r:Bs} {n:aB} (h:rD k ns l= .ok (n,r)):r<:+l:=by
 unfold rD at h;by_cases h1:k=1
 ·rw[o h1] at h
  cases hm:dQ l with
  |error y=>rw[hm] at h;cases h
  |ok r0=>
   rw[hm] at h;simp only[] at h
   cases hn:dH mF r0 with
   |error y=>rw[hn] at h;cases h
   |ok y=>obtain⟨i,r1⟩:=y;rw[hn] at h;injection h with h;injection h with _ h;subst h;exact(Ep hn).trans (AO hm)
 rw[z h1] at h;by_cases h3:k=3
 ·rw[o h3] at h
  cases hm:dQ l with
  |error y=>rw[hm] at h;cases h
  |ok r0=>
   rw[hm] at h;simp only[] at h
   cases hn:fq r0 with
   |error y=>rw[hn] at h;cases h
   |ok y=>obtain⟨i,r1⟩:=y;rw[hn] at h;injection h with h;injection h with _ h;subst h;exact(Kq hn).trans (AO hm)
 rw[z h3] at h;by_cases h9:k=9
 ·rw[o h9] at h
  cases hm:iV 5 0 0 l with
  |error y=>rw[hm] at h;cases h
  |ok y=>obtain⟨b,r1⟩:=y;rw[hm] at h;injection h with h;injection h with _ h;subst h;exact Kr _ _ _ _ hm
 rw[z h9] at h;by_cases h8:k=8
 ·rw[o h8] at h
  cases hm:jF l with
  |error y=>rw[hm] at h;cases h
  |ok y=>
   obtain⟨f,r0⟩:=y;rw[hm] at h;simp only[] at h
   cases ho:bJ G 300 301 0 ns [] r0 with
   |error y=>rw[ho] at h;cases h
   |ok y=>
    obtain⟨⟨a,b⟩,r1⟩:=y;rw[ho] at h;injection h with h;injection h with _ h;subst h;exact(uU _ _ _ _ _ _ _ ho).trans (Ru hm)
 rw[z h8] at h;by_cases h4:k=4
 ·rw[o h4] at h
  cases ho:bJ C 40 41 0 ns [] l with
  |error y=>rw[ho] at h;cases h
  |ok y=>obtain⟨⟨a,b⟩,r1⟩:=y;rw[ho] at h;injection h with h;injection h with _ h;subst h;exact uU _ _ _ _ _ _ _ ho
 rw[z h4] at h;by_cases h7:k=7
 ·rw[o h7] at h
  cases ho:bJ G 300 301 0 ns [] l with
  |error y=>rw[ho] at h;cases h
  |ok y=>obtain⟨⟨a,b⟩,r1⟩:=y;rw[ho] at h;injection h with h;injection h with _ h;subst h;exact uU _ _ _ _ _ _ _ ho
 rw[z h7] at h;injection h with h;injection h with _ h;subst h;exact I _
theorem U5 {l r:Bs} {n:aB} (h:jk l= .ok (n,r)):r<:+l:=by
 have hs:bL l<:+l:=by unfold bL;exact N _
 unfold jk at h;by_cases he:gY (bL l)=C
 ·rw[o he] at h;injection h with h;injection h with _ h;subst h;exact hs
 rw[z he] at h
 cases hw:dH lG (bL l) with
 |error y=>rw[hw] at h;cases h
 |ok y=>
  obtain⟨i,r0⟩:=y;rw[hw] at h;simp only[] at h
  cases hn:jg (bX (i+1)).toNat [] r0 with
  |error y=>rw[hn] at h;cases h
  |ok y=>
   obtain⟨ns,r1⟩:=y;rw[hn] at h;simp only[] at h
   cases ht:rD (i+1) ns r1 with
   |error y=>rw[ht] at h;cases h
   |ok y=>
    obtain⟨s,r2⟩:=y;rw[ht] at h;simp only[] at h
    cases hm:cO r2 with
    |error y=>rw[hm] at h;cases h
    |ok y=>
     obtain⟨b,r3⟩:=y;rw[hm] at h
     cases b
     ·injection h with h;injection h with _ h;subst h
      exact((((yB hm).trans (U4 ht)).trans (Hw _ _ _ hn)).trans (Ep hw)).trans hs
     ·cases h
theorem Kt {l r:Bs} {n:aB} (h:rE l= .ok (n,r)):(n=⟨0,[],0,[],G,0⟩∨fC n)∧(r=[]∨(10::r)<:+l):=by
 unfold rE at h
 cases hr:jk l with
 |error y=>rw[hr] at h;cases h
 |ok y=>
  obtain⟨s,r0⟩:=y;have h0:=U5 hr;have h1:=(U3 hr).imp_right And.left;have h2:jS r0<:+r0:=by unfold jS;split;exact Z _ _;exact I _
  rw[hr] at h;simp only[] at h;by_cases hn:(jS r0).head?=none
  ·rw[o hn] at h;injection h with h;injection h with h h';subst h;exact⟨h1,.inl h'.symm⟩
  ·rw[z hn] at h
   by_cases h10:(jS r0).head?=some 10
   ·rw[o h10] at h;injection h with h;injection h with h h';subst h
    refine⟨h1,.inr ?_⟩;have:10::r=jS r0:=by
     cases hq:jS r0 with
     |nil=>rw[hq] at h10;cases h10
     |cons c t=>rw[hq] at h10 h';rw[List.tail_cons] at h';rw[List.head?_cons] at h10;rw[←Option.some.inj h10,h']
    rw[this];exact h2.trans h0
   ·rw[z h10] at h;cases h
end Yd
