import Derived.Test.YtnhnhmeogckgpaaGreatDoorTCuK
import Derived.Test.YtnhnhmeogckgpaaGreatDoorTChG
set_option linter.all false
set_option maxRecDepth 200000
set_option maxHeartbeats 8000000
namespace Yd
open Bool renaming true→D,false→F,and_eq_true→R
open List renaming mem_cons_self→E,mem_cons_of_mem→H,mem_append_right→I,length_append→J,length_map→K,length_drop→M,mem_append→O,mem_singleton→Q,take_append_drop→T,mem_append_left→U,append_assoc→V,head?_cons→W,length_pos_iff→Y,take_of_length_le→Z
open Go Go.RowKit Go.Proofs
open Lib renaming decodeN→P
open Utf8 renaming decode→N
open _root_ renaming if_neg→o,if_pos→C,List→G,Nat→L,Int→S
theorem rZ (w r:Bs) (i:L) (h:i<w.length):ByteArray.get! ⟨(w++r).toArray⟩ i=ByteArray.get! ⟨w.toArray⟩ i:=by
 simp only[ByteArray.get!];rw[getElem!_pos (w++r).toArray i (by simp;omega),getElem!_pos w.toArray i (by simpa using h)];simp[List.getElem_append_left h]
theorem Vo (n m b0 b1 b2 b3 c1 c2 c3:L) (h1:1<n→c1=b1) (h2:2<n→c2=b2) (h3:3<n→c3=b3) (hok:P n b0 b1 b2 b3≠(65533,1)):P (n+m) b0 c1 c2 c3=P n b0 b1 b2 b3:=by
 unfold P at hok ⊢;by_cases a:b0<128
 ·rw[C a,C a]
 rw[o a] at hok ⊢;rw[o a];by_cases hA:b0 / 32=6∧(1<n∧b1 / 64=2)
 ·rw[C hA]
  rw[C (by rw[h1 hA.2.1];omega),h1 hA.2.1]
 rw[o hA] at hok ⊢;by_cases hB:b0 / 16=14∧(1<n∧b1 / 64=2)∧(2<n∧b2 / 64=2)
 ·rw[C hB]
  rw[o ah,C (by rw[h1 ah,h2 ah];omega),h1 ah,h2 ah]
 rw[o hB] at hok ⊢;by_cases hC:b0 / 8=30∧(1<n∧b1 / 64=2)∧(2<n∧b2 / 64=2)∧(3<n∧b3 / 64=2)
 ·rw[C hC]
  rw[o ah,o ah,C (by rw[h1 ah,h2 ah,h3 ah];omega),h1 ah,h2 ah,h3 ah]
 rw[o hC] at hok;exact absurd rfl hok
theorem Kj {s:ByteArray} (h:okB s 0=D):N s 0≠(65533,1):=fun e=>by
 unfold okB at h;rw[e] at h;simp at h
theorem FL (w r:Bs) (hw:w≠[]) (hok:okB ⟨w.toArray⟩ 0=D):N ⟨(w++r).toArray⟩ 0=N ⟨w.toArray⟩ 0:=by
 have hne:=Kj hok;have hl:0<w.length:=Y.2 hw;rw[Lib.decode_at,Lib.decode_at,dR,dR,J,Nat.sub_zero,Nat.sub_zero] at*;rw[rZ w r 0 hl];refine Vo _ _ _ _ _ _ _ _ _ (fun h=>?_) (fun h=>?_) (fun h=>?_) hne
 ·rw[rZ w r (0+1) ah]
 ·rw[rZ w r (0+2) ah]
 ·rw[rZ w r (0+3) ah]
theorem RB (w r:Bs) (hw:w≠[]) (hok:okB ⟨w.toArray⟩ 0=D):okB ⟨(w++r).toArray⟩ 0=D:=by
 unfold okB at hok ⊢;rw[FL w r hw hok];exact hok
def Stops (p:S→Bool) (r:Bs):Prop:=r=[]∨(okB ⟨r.toArray⟩ 0 && p ((N ⟨r.toArray⟩ 0).1:S))=F
theorem Bu {p:S→Bool} {r:Bs} (h:Stops p r):dO ⟨r.toArray⟩ p=0:=by
 rcases h with rfl|h
 ·rfl
 ·by_cases hr:r=[]
  ·subst hr;rfl
  ·rw[dY r p hr,h];rfl
theorem EN (p:S→Bool):∀(n:L) (w r:Bs),w.length≤n→dO ⟨w.toArray⟩ p=w.length→Stops p r→dO ⟨(w++r).toArray⟩ p=w.length
 |0,w,r,hn,_,hs=>by
  have:w=[]:=List.length_eq_zero_iff.1 ah;subst this;exact Bu hs
 |n+1,w,r,hn,hw,hs=>by
  by_cases h0:w=[]
  ·subst h0;exact Bu hs
  ·have hpos:0<w.length:=Y.2 h0
   rw[dY w p h0] at hw;by_cases hc:(okB ⟨w.toArray⟩ 0 && p ((N ⟨w.toArray⟩ 0).1:S))=D
   ·rw[C hc] at hw
    rw[R] at hc;have hd:=FL w r h0 hc.1;have h1:=uI w h0;have h2:=sO w h0;rw[dY (w++r) p (by simp[h0]),hd,RB w r h0 hc.1,hc.2,C (show(D && D)=D from rfl),List.drop_append_of_le_length h2];rw[EN p n (w.drop (N ⟨w.toArray⟩ 0).2) r (by rw[M];omega) (by rw[M];omega) hs,M];omega
   ·rw[o hc] at hw;omega
theorem tq {c:UInt8} (t:Bs) (h:c.toNat<128) (he:fV (c.toNat:S)=F):Stops fV (c::t):= .inr (by rw[mh c t h];show(_ && fV (c.toNat:S))=F;rw[he,Bool.and_false])
theorem sP {w:Bs} (h:aU ⟨w.toArray⟩=D):w≠[]∧w.length≤24∧bT w=w.length∧bL w=D:=by
 unfold aU at h;simp only[R,decide_eq_true_eq,Bool.not_eq_true'] at h;obtain⟨⟨⟨h1,h2⟩,h3⟩,h4⟩:=h;have hne:w≠[]:=by rintro rfl;simp at h1
 have hpos:0<w.length:=Y.2 hne;rw[dR] at h2 h4;refine⟨hne,by omega,h4,?_⟩;have hc:(okB ⟨w.toArray⟩ 0 && fV ((N ⟨w.toArray⟩ 0).1:S))=D:=by
  apply Classical.byContradiction
  intro hno;rw[dY w fV hne,o hno] at h4;omega
 rw[R] at hc;unfold bL;rw[hc.1,Bool.true_and]
 cases w with
 |nil=>exact absurd rfl hne
 |cons b t=>
  show(D && iO _)=D;rw[Bool.true_and];have hc2:=hc.2;unfold fV at hc2;rcases Bool.or_eq_true _ _▸hc2 with h|h
  ·exact h
  ·exfalso
   rcases Nat.lt_or_ge b.toNat 128 with hb|hb
   ·rw[mh b t hb] at h
    have:uU ⟨(b::t).toArray⟩=(b.toNat:S):=by
     unfold uU;rw[dif_pos (by rw[dR];simp)];show wrap32 (b.toNat:S)=_;unfold wrap32;omega
    rw[this] at h3;rw[h3] at h;cases h
   ·have:=(uV b t hb).1
    unfold iY at h;simp only[R,decide_eq_true_eq] at h;omega
theorem EO {w r:Bs} (hw:w≠[]) (h:bL w=D):bL (w++r)=D:=by
 unfold bL at h ⊢;simp only[R,Bool.not_eq_true'] at h ⊢;have hok:=h.2.1;refine⟨by cases w with|nil=>exact absurd rfl hw|cons b t=>rfl,RB w r hw hok,?_⟩;rw[FL w r hw hok];exact h.2.2
theorem CR {b:UInt8} {t:Bs} (h:bL (b::t)=D):bR (b::t)=F∧eT b=F∧b≠45:=by
 have hl:=Gy b t;rw[h] at hl;have hb:∀k:L,k<128→iO (k:S)=F→b.toNat≠k:=fun k hk hf e=>by
  rw[(afr b t k hk).2 e,hf] at hl;cases hl
 refine⟨?_,?_,fun e=>hb 45 aj rfl (by rw[e];rfl)⟩
 ·rw[gF]
  have h1:=hb 10 aj rfl;have h2:=hb 35 aj rfl;rw[beq_eq_false_iff_ne.2 ah,beq_eq_false_iff_ne.2 ah];rfl
 ·unfold eT
  rw[beq_eq_false_iff_ne.2 (fun e=>hb 32 aj rfl (by rw[e];rfl)),beq_eq_false_iff_ne.2 (fun e=>hb 9 aj rfl (by rw[e];rfl))];rfl
theorem xU {w r:Bs} (hw:aU ⟨w.toArray⟩=D) (hs:Stops fV r):bI (w++r)= .ok (w,r):=by
 obtain⟨hne,hl,hr,hb⟩:=sP hw;have hB:=EO (r:=r) hne hb;have hrun:bT (w++r)=w.length:=EN fV w.length w r (Nat.le_refl _) hr hs;have hE:bR (w++r)=F:=by
  cases w with
  |nil=>exact absurd rfl hne
  |cons b t=>exact(CR hB).1
 rw[Vp hE hB ah,hrun,List.take_left,List.drop_left]
def Sp (b:Bs):Prop:=b≠[]∧∀c∈b,eT c=D
def Cut (r:Bs):Prop:=∀c t,r=c::t→eT c=D∨c=10∨c=35
theorem xV:∀(b r:Bs),(∀c∈b,eT c=D)→aY (b++r)=aY r
 |[],r,_=>rfl
 |c::b,r,h=>by
  rw[List.cons_append,FM (h c E)];exact xV b r (fun x hx=>h x (H _ hx))
theorem O4 {r:Bs} (h:∀c t,r=c::t→eT c=F):aY r=r:=by
 cases r with
 |nil=>rfl
 |cons c t=>exact vD (h c t rfl)
theorem O5 {e:Bs} (h:bR e=D):aY e=e:=O4 fun c t hc=>by
 subst hc;rw[gF] at h;unfold eT;rcases Bool.or_eq_true _ _▸h with h|h
 ·have:c=10:=UInt8.toNat_inj.1 (by have:=eq_of_beq h;show c.toNat=10;omega)
  rw[this];rfl
 ·have:c=35:=UInt8.toNat_inj.1 (by have:=eq_of_beq h;show c.toNat=35;omega)
  rw[this];rfl
theorem zR {b:Bs} (hb:Sp b) {c:UInt8} {t:Bs} (hc:eT c=F) (he:bR (c::t)=F):bN (b++c::t)= .ok (D,c::t):=by
 unfold bN;rw[xV b _ hb.2,vD hc,o (by rw[he];simp),o];have h0:=Y.2 hb.1;intro e;rw[J] at e;omega
theorem mQ {b e:Bs} (hb:∀c∈b,eT c=D) (he:bR e=D):bN (b++e)= .ok (F,e):=by
 unfold bN;rw[xV b _ hb,O5 he,C he]
theorem DI {b:Bs} (hb:Sp b) {c:UInt8} {t:Bs} (hc:eT c=F) (he:bR (c::t)=F):bW (b++c::t)= .ok (c::t):=by
 unfold bW;rw[zR hb hc he]
theorem Cut.stops {r:Bs} (h:Cut r):Stops fV r:=by
 cases r with
 |nil=>exact .inl rfl
 |cons c t=>
  have hk:=h c t rfl;have hc:c=32∨c=9∨c=10∨c=35:=by
   rcases hk with hk|hk|hk
   ·unfold eT at hk
    rcases Bool.or_eq_true _ _▸hk with hk|hk
    ·exact .inl (eq_of_beq hk)
    ·exact .inr (.inl (eq_of_beq hk))
   ·exact .inr (.inr (.inl hk))
   ·exact .inr (.inr (.inr hk))
  rcases hc with rfl|rfl|rfl|rfl
  ·exact tq t aj aj
  ·exact tq t aj aj
  ·exact tq t aj aj
  ·exact tq t aj aj
theorem Cut.byte {c:UInt8} {t:Bs} (h:Cut (c::t)):lI c=F∧¬(128≤c)∧fD c=F:=by
 have hc:c=32∨c=9∨c=10∨c=35:=by
  rcases h c t rfl with hk|hk|hk
  ·unfold eT at hk
   rcases Bool.or_eq_true _ _▸hk with hk|hk
   ·exact .inl (eq_of_beq hk)
   ·exact .inr (.inl (eq_of_beq hk))
  ·exact .inr (.inr (.inl hk))
  ·exact .inr (.inr (.inr hk))
 rcases hc with rfl|rfl|rfl|rfl <;> exact⟨by decide,by decide,by decide⟩
theorem Cut.ends {e:Bs} (he:bR e=D):Cut e:=fun c t hc=>by
 subst hc;rw[gF] at he;rcases Bool.or_eq_true _ _▸he with h|h
 ·exact .inr (.inl (UInt8.toNat_inj.1 (by have:=eq_of_beq h;show c.toNat=10;omega)))
 ·exact .inr (.inr (UInt8.toNat_inj.1 (by have:=eq_of_beq h;show c.toNat=35;omega)))
theorem Cut.sp {b r:Bs} (hb:Sp b):Cut (b++r):=fun c t hc=>by
 cases b with
 |nil=>exact absurd rfl hb.1
 |cons x b=>rw[List.cons_append] at hc;injection hc with h1 _;subst h1;exact .inl (hb.2 _ E)
theorem Cut.blanks {b e:Bs} (hb:∀c∈b,eT c=D) (he:bR e=D):Cut (b++e):=fun c t hc=>by
 cases b with
 |nil=>exact Cut.ends he c t hc
 |cons x b=>rw[List.cons_append] at hc;injection hc with h1 _;subst h1;exact .inl (hb _ E)
def glue:G (Bs × Bs)→Bs→Bs
 |[],e=>e
 |p::ps,e=>p.1++(p.2++glue ps e)
theorem DJ:∀(ps qs:G (Bs × Bs)) (e:Bs),glue (ps++qs) e=glue ps (glue qs e)
 |[],_,_=>rfl
 |p::ps,qs,e=>by rw[List.cons_append,glue,glue,DJ ps qs e]
theorem nR:∀(ps:G (Bs × Bs)) (e:Bs),(∀p∈ps,Sp p.1)→Cut e→Cut (glue ps e)
 |[],_,_,h=>h
 |p::_ps,_e,hs,_=>Cut.sp (hs p E)
theorem u6 {w r:Bs} (hw:aU ⟨w.toArray⟩=D):∃c t,w++r=c::t∧eT c=F∧bR (c::t)=F∧bL (c::t)=D∧c≠45:=by
 obtain⟨hne,_,_,hb⟩:=sP hw;have hB:=EO (r:=r) hne hb
 cases w with
 |nil=>exact absurd rfl hne
 |cons c t=>
  have h:=CR hB;exact⟨c,t++r,rfl,h.2.1,h.1,hB,h.2.2⟩
theorem RD {b w r:Bs} (hb:Sp b) (hw:aU ⟨w.toArray⟩=D):bW (b++(w++r))= .ok (w++r):=by
 obtain⟨c,t,h1,h2,h3,_⟩:=u6 (r:=r) hw;rw[h1];exact DI hb h2 h3
theorem Bv {b w r:Bs} (hb:Sp b) (hw:aU ⟨w.toArray⟩=D):bN (b++(w++r))= .ok (D,w++r):=by
 obtain⟨c,t,h1,h2,h3,_⟩:=u6 (r:=r) hw;rw[h1];exact zR hb h2 h3
theorem EP:∀(ps:G (Bs × Bs)) (acc:G Bs) (e:Bs),(∀p∈ps,Sp p.1∧aU ⟨p.2.toArray⟩=D)→Cut e→gD ps.length acc (glue ps e)= .ok (acc++ps.map (·.2),e)
 |[],acc,e,_,_=>by rw[List.map_nil,List.append_nil];rfl
 |p::ps,acc,e,h,he=>by
  have hp:=h p E;rw[List.length_cons,gD,glue,RD hp.1 hp.2];simp only[];rw[xU hp.2 (nR ps e (fun q hq=>(h q (H _ hq)).1) he).stops];show gD ps.length (acc++[p.2]) (glue ps e)=_;rw[EP ps (acc++[p.2]) e (fun q hq=>h q (H _ hq)) he,List.map_cons,V];rfl
theorem yH (most:L) (tb e:Bs) (htb:∀c∈tb,eT c=D) (he:bR e=D):∀(ps:G (Bs × Bs)) (f many:L) (ns:G Bs) (vs:G To),(∀p∈ps,Sp p.1∧aU ⟨p.2.toArray⟩=D)→ps.length<f→many+ps.length≤most→
  bf F most f many ns vs (glue ps (tb++e))= .ok ((ns++ps.map (·.2),vs),e)
 |[],f,many,ns,vs,_,hf,_=>by
  obtain⟨g,rfl⟩:∃g,f=g+1:=⟨f - 1,by simp at hf;omega⟩;rw[bf,glue,mQ htb he,List.map_nil,List.append_nil]
 |p::ps,f,many,ns,vs,h,hf,hm=>by
  obtain⟨g,rfl⟩:∃g,f=g+1:=⟨f - 1,by simp at hf;omega⟩;have hp:=h p E;rw[bf,glue,Bv hp.1 hp.2];simp only[];rw[o (by simp at hm;omega),xU hp.2 (nR ps _ (fun q hq=>(h q (H _ hq)).1) (Cut.blanks htb he)).stops];simp only[Bool.false_eq_true,if_false];rw[yH most tb e htb he ps g (many+1) (ns++[p.2]) vs (fun q hq=>h q (H _ hq)) (by simp at hf;omega) (by simp at hm;omega),List.map_cons,V];rfl
theorem Bw {ws:G Bs} {w r:Bs} {i:L} (hi:ws.findIdx? (fun s=>s==w)=some i) (hw:∀c∈w,lI c=D) (hr:Cut r):bZ ws (w++r)= .ok (i,r):=by
 have hst:cB (w++r)=w:=by
  unfold cB;rw[List.takeWhile_append_of_pos hw]
  cases r with
  |nil=>simp
  |cons c t=>rw[List.takeWhile_cons,hr.byte.1];simp
 have Kk:kE (w++r)=w:=by
  unfold kE;rw[hst,List.drop_left]
  cases r with
  |nil=>rfl
  |cons c t=>simp only[W];rw[o hr.byte.2.1]
 unfold bZ;rw[Kk,hst,hi,List.drop_left]
theorem Gz (l:Bs) (c:UInt8):mR (l++[c])=mR l*10+(c.toNat - 48):=by unfold mR;rw[List.foldl_append];rfl
theorem EQ (n:L):0<n→mR (fZ n)=n∧(fZ n).all fD=D∧(fZ n).head?≠some 48∧(fZ n).head?≠none:=by
 induction n using Nat.strongRecOn with
 |_ n ih=>
  intro h;have hc:(UInt8.ofNat (48+n % 10)).toNat=48+n % 10:=by simp;omega
  have hdg:fD (UInt8.ofNat (48+n % 10))=D:=(FN _).2 ah;rw[uW h];rcases Nat.eq_zero_or_pos (n / 10) with h0|h0
  ·have hd:fZ (n / 10)=[]:=by rw[h0];rfl
   rw[hd,List.nil_append];refine⟨?_,by rw[List.all_cons,hdg];rfl,?_,by simp⟩
   ·show mR ([]++[_])=n
    rw[Gz,hc];show 0*10+_=n;omega
   ·rw[W]
    intro e;have:=congrArg UInt8.toNat (Option.some.inj e);rw[hc] at this;have h48:(48:UInt8).toNat=48:=rfl;omega
  ·obtain⟨h1,h2,h3,h4⟩:=ih (n / 10) ah h0
   cases hq:fZ (n / 10) with
   |nil=>rw[hq] at h4;exact absurd rfl h4
   |cons a t=>
    rw[hq] at h1 h2 h3;refine⟨?_,?_,?_,by simp⟩
    ·rw[Gz,hc,h1];omega
    ·rw[List.all_append,h2,List.all_cons,hdg];rfl
    ·simpa using h3
theorem Vq {nm r:Bs} {k:L} (h0:0<k) (h9:k≤999) (hr:Cut r):rz nm (fZ k++r)= .ok (⟨nm,k⟩,r):=by
 obtain⟨h1,h2,h3,h4⟩:=EQ k h0;have hall:∀c∈fZ k,fD c=D:=List.all_eq_true.1 h2;have ht:(fZ k++r).takeWhile fD=fZ k:=by
  rw[List.takeWhile_append_of_pos hall]
  cases r with
  |nil=>simp
  |cons c t=>rw[List.takeWhile_cons,hr.byte.2.2];simp
 unfold rz;simp only[ht];rw[o (fun e=>e.elim h4 h3),h1,o ah,List.drop_left]
theorem Kl {v:To} {r:Bs} (hv:gZ v) (hr:Cut r):dQ (dm v++r)= .ok (v,r):=by
 unfold dm;rcases hv with rfl|⟨hw,h0,h9⟩
 ·rw[C rfl];rfl
 ·rw[o ah,V,List.cons_append]
  obtain⟨c,t,hc,_,_,_,hne⟩:=u6 (r:=46::(fZ v.k.toNat++r)) hw;unfold dQ;rw[hc,W,o (by simp;exact hne),←hc,xU hw (tq _ aj aj)];simp only[W,if_true,List.tail_cons];rw[Vq ah ah hr];obtain⟨n,k⟩:=v;simp only at h0 ⊢;rw[show((k.toNat:L):S)=k by omega]
theorem RF {v:To} {r:Bs} (hv:gZ v):∃c t,dm v++r=c::t∧eT c=F∧bR (c::t)=F:=by
 unfold dm;rcases hv with rfl|⟨hw,h0,h9⟩
 ·rw[C rfl];exact⟨45,r,rfl,by decide,by rw[gF];decide⟩
 ·rw[o ah,V]
  obtain⟨c,t,h1,h2,h3,_⟩:=u6 (r:=46::fZ v.k.toNat++r) hw;exact⟨c,t,h1,h2,h3⟩
theorem GA {b r:Bs} {v:To} (hb:Sp b) (hv:gZ v):bW (b++(dm v++r))= .ok (dm v++r):=by
 obtain⟨c,t,h1,h2,h3⟩:=RF (r:=r) hv;rw[h1];exact DI hb h2 h3
theorem ER (most:L) (tb e:Bs) (htb:∀c∈tb,eT c=D) (he:bR e=D):∀(ps:G ((Bs × Bs) × (Bs × To))) (f many:L) (ns:G Bs) (vs:G To),(∀p∈ps,(Sp p.1.1∧aU ⟨p.1.2.toArray⟩=D)∧Sp p.2.1∧gZ p.2.2)→ps.length<f→many+ps.length≤most→
  bf D most f many ns vs (glue (ps.flatMap fun p=>[p.1,(p.2.1,dm p.2.2)]) (tb++e))= .ok ((ns++ps.map (·.1.2),vs++ps.map (·.2.2)),e)
 |[],f,many,ns,vs,_,hf,_=>by
  obtain⟨g,rfl⟩:∃g,f=g+1:=⟨f - 1,by simp at hf;omega⟩;rw[bf,List.flatMap_nil,glue,mQ htb he];simp
 |p::ps,f,many,ns,vs,h,hf,hm=>by
  obtain⟨g,rfl⟩:∃g,f=g+1:=⟨f - 1,by simp at hf;omega⟩;have hp:=h p E;have hcut:Cut (glue (ps.flatMap fun p=>[p.1,(p.2.1,dm p.2.2)]) (tb++e)):=nR _ _ (fun q hq=>by
   obtain⟨x,hx,hq⟩:=List.mem_flatMap.1 hq;have hx':=h x (H _ hx);simp at hq;rcases hq with rfl|rfl
   ·exact hx'.1.1
   ·exact hx'.2.1) (Cut.blanks htb he)
  rw[bf,List.flatMap_cons];show(match bN (p.1.1++(p.1.2++(p.2.1++(dm p.2.2++glue (ps.flatMap fun p=>[p.1,(p.2.1,dm p.2.2)]) (tb++e))))) with| .error x=>_| .ok (F,r)=>_| .ok (D,r)=>_)=_;rw[Bv hp.1.1 hp.1.2];simp only[];rw[o (by simp at hm;omega),xU hp.1.2 (Cut.sp hp.2.1).stops];simp only[if_true];rw[GA hp.2.1 hp.2.2];simp only[];rw[Kl hp.2.2 hcut];simp only[];rw[ER most tb e htb he ps g (many+1) (ns++[p.1.2]) (vs++[p.2.2]) (fun q hq=>h q (H _ hq)) (by simp at hf;omega) (by simp at hm;omega),List.map_cons,List.map_cons,V,V];rfl
def Up:L→G L→Prop
 |_,[]=>True
 |k,j::js=>k≤j∧j<4∧Up (j+1) js
theorem Vr (k j:L) (h:k≤j) (hj:j<4):(iP.drop k).findIdx? (fun s=>s==gB j)=some (j - k):=by
 have hk4:k=0∨k=1∨k=2∨k=3:=by omega
 have Rj:j=0∨j=1∨j=2∨j=3:=by omega
 rcases hk4 with rfl|rfl|rfl|rfl <;> rcases Rj with rfl|rfl|rfl|rfl <;> first|rfl|(exfalso;omega)
theorem O6 (j:L) (hj:j<4) (r:Bs):∃c t,gB j++r=c::t∧eT c=F∧bR (c::t)=F:=by
 have:j=0∨j=1∨j=2∨j=3:=by omega
 rcases this with rfl|rfl|rfl|rfl <;> exact⟨_,_,rfl,by decide,by rw[gF];decide⟩
theorem Vs (j:L) (hj:j<4):∀c∈gB j,lI c=D:=by
 have:j=0∨j=1∨j=2∨j=3:=by omega
 rcases this with rfl|rfl|rfl|rfl <;> decide
theorem GD (tb e:Bs) (htb:∀c∈tb,eT c=D) (he:bR e=D):∀(js:G L) (ps:G (Bs × Bs)) (f k:L) (b:S),Up k js→js.length<f→(∀p∈ps,Sp p.1)→ps.map (·.2)=js.map gB→
  fP f k b (glue ps (tb++e))= .ok (js.foldl (fun a j=>a+2 ^ j) b,e)
 |[],ps,f,k,b,_,hf,_,hm=>by
  obtain⟨g,rfl⟩:∃g,f=g+1:=⟨f - 1,by simp at hf;omega⟩;have:ps=[]:=by simpa using hm
  subst this;rw[fP,glue,mQ htb he];rfl
 |j::js,ps,f,k,b,hu,hf,hs,hm=>by
  obtain⟨g,rfl⟩:∃g,f=g+1:=⟨f - 1,by simp at hf;omega⟩
  cases ps with
  |nil=>simp at hm
  |cons p ps=>
   rw[List.map_cons,List.map_cons] at hm;injection hm with hm1 hm2;have hcut:=nR ps (tb++e) (fun q hq=>hs q (H _ hq)) (Cut.blanks htb he);obtain⟨c,t,h1,h2,h3⟩:=O6 j hu.2.1 (glue ps (tb++e));have hw:=Bw (Vr k j hu.1 hu.2.1) (Vs j hu.2.1) hcut;rw[fP,glue,hm1,h1,zR (hs p E) h2 h3];simp only[];rw[←h1,hw];simp only[];rw[show k+(j - k)=j by have:=hu.1;omega];exact GD tb e htb he js ps g (j+1) (b+2 ^ j) hu.2.2 (by simp at hf;omega) (fun q hq=>hs q (H _ hq)) hm2
theorem RG (b:L) (hb:b≤15):∃js:G L,Up 0 js∧js.length<5∧j5 (b:S)=js.map gB∧js.foldl (fun a j=>a+2 ^ j) (0:S)=(b:S):=by
 have hc:b=0∨b=1∨b=2∨b=3∨b=4∨b=5∨b=6∨b=7∨b=8∨b=9∨b=10∨b=11∨b=12∨b=13∨b=14∨b=15:=by omega
 rcases hc with rfl|rfl|rfl|rfl|rfl|rfl|rfl|rfl|rfl|rfl|rfl|rfl|rfl|rfl|rfl|rfl
 ·exact⟨[],by simp[Up],by decide,by decide,by decide⟩
 ·exact⟨[0],by simp[Up],by decide,by decide,by decide⟩
 ·exact⟨[1],by simp[Up],by decide,by decide,by decide⟩
 ·exact⟨[0,1],by simp[Up],by decide,by decide,by decide⟩
 ·exact⟨[2],by simp[Up],by decide,by decide,by decide⟩
 ·exact⟨[0,2],by simp[Up],by decide,by decide,by decide⟩
 ·exact⟨[1,2],by simp[Up],by decide,by decide,by decide⟩
 ·exact⟨[0,1,2],by simp[Up],by decide,by decide,by decide⟩
 ·exact⟨[3],by simp[Up],by decide,by decide,by decide⟩
 ·exact⟨[0,3],by simp[Up],by decide,by decide,by decide⟩
 ·exact⟨[1,3],by simp[Up],by decide,by decide,by decide⟩
 ·exact⟨[0,1,3],by simp[Up],by decide,by decide,by decide⟩
 ·exact⟨[2,3],by simp[Up],by decide,by decide,by decide⟩
 ·exact⟨[0,2,3],by simp[Up],by decide,by decide,by decide⟩
 ·exact⟨[1,2,3],by simp[Up],by decide,by decide,by decide⟩
 ·exact⟨[0,1,2,3],by simp[Up],by decide,by decide,by decide⟩
theorem nS (k:L) (hk:1≤k∧k≤9) (lead:Bs) (hlead:∀c∈lead,eT c=D) (ps1 ps2:G (Bs × Bs)) (hlen:ps1.length=(bA k).toNat) (h1:∀p∈ps1,Sp p.1∧aU ⟨p.2.toArray⟩=D) (X:Bs) (hX:Cut (glue ps2 X)):
  fQ (lead++(aO k++glue (ps1++ps2) X))=(match iy k (ps1.map (·.2)) (glue ps2 X) with
   | .error x=> .error x
   | .ok (s,r2)=>match bN r2 with
    | .error x=> .error x
    | .ok (D,r3)=> .error (r3,220)
    | .ok (F,r3)=> .ok (s,r3)):=by
 have hcut:Cut (glue (ps1++ps2) X):=by rw[DJ];exact nR ps1 _ (fun p hp=>(h1 p hp).1) hX
 have hv:jV.findIdx? (fun s=>s==aO k)=some (k - 1)∧(∀c∈aO k,lI c=D)∧(∃c t,aO k=c::t∧eT c=F∧((c.toNat:S)==10)=F∧((c.toNat:S)==35)=F):=by
  have:k=1∨k=2∨k=3∨k=4∨k=5∨k=6∨k=7∨k=8∨k=9:=by omega
  rcases this with rfl|rfl|rfl|rfl|rfl|rfl|rfl|rfl|rfl <;> exact⟨rfl,by decide,_,_,rfl,by decide,by decide,by decide⟩
 obtain⟨hv1,hv2,c,t,hv3,hv4,hv5,hv6⟩:=hv;have hw:=Bw hv1 hv2 hcut;have hsk:aY (lead++(aO k++glue (ps1++ps2) X))=aO k++glue (ps1++ps2) X:=by
  rw[xV lead _ hlead,hv3,List.cons_append,vD hv4]
 have hen:bR (aO k++glue (ps1++ps2) X)=F:=by
  rw[hv3,List.cons_append,gF,hv5,hv6];rfl
 unfold fQ;rw[hsk,o (by rw[hen];simp),hw];simp only[];rw[show k - 1+1=k by omega,←hlen,DJ,EP ps1 [] _ h1 hX,List.nil_append]
 rfl
theorem uq {α β:Type} {f:α→β} {ps:G α} {A B:G β} (h:ps.map f=A++B):∃p1 p2,ps=p1++p2∧p1.map f=A∧p2.map f=B:=List.map_eq_append_iff.1 h
theorem FP {α β:Type} {f:α→β} {ps:G α} {b:β} (h:ps.map f=[b]):∃p,ps=[p]∧f p=b:=by
 cases ps with
 |nil=>simp at h
 |cons p ps=>
  cases ps with
  |nil=>simp at h;exact⟨p,rfl,h⟩
  |cons q qs=>simp at h
theorem GH:∀(zs:G (Bs × To)) (ps:G (Bs × Bs)),ps.map (·.2)=zs.flatMap (fun p=>[p.1,dm p.2])→∃qs:G ((Bs × Bs) × (Bs × To)),ps=qs.flatMap (fun p=>[p.1,(p.2.1,dm p.2.2)])∧qs.map (fun q=>(q.1.2,q.2.2))=zs
 |[],ps,h=>⟨[],by simpa using h,rfl⟩
 |z::zs,ps,h=>by
  rw[List.flatMap_cons] at h
  cases ps with
  |nil=>simp at h
  |cons p ps=>
   cases ps with
   |nil=>simp at h
   |cons q ps=>
    rw[List.map_cons,List.map_cons] at h;simp only[List.cons_append,List.nil_append] at h;injection h with h1 h;injection h with h2 h3;obtain⟨qs,e1,e2⟩:=GH zs ps h3;refine⟨((p.1,p.2),(q.1,z.2))::qs,?_,?_⟩
    ·rw[List.flatMap_cons,←e1,←h2];rfl
    ·rw[List.map_cons,e2,h1]
theorem Vt (lv:L) (h1:1≤lv) (h4:lv≤4) (r:Bs):kD.findIdx? (fun s=>s==fJ lv)=some (lv - 1)∧(∀c∈fJ lv,lI c=D)∧∃c t,fJ lv++r=c::t∧eT c=F∧bR (c::t)=F:=by
 have:lv=1∨lv=2∨lv=3∨lv=4:=by omega
 rcases this with rfl|rfl|rfl|rfl <;> exact⟨rfl,by decide,_,_,rfl,by decide,by rw[gF];decide⟩
theorem acy {ns:G Bs} {b tb e:Bs} {lv:L} (h1:1≤lv) (h4:lv≤4) (hb:Sp b) (hr:Cut (tb++e)):iy 1 ns (glue [(b,fJ lv)] (tb++e))= .ok (⟨1,ns,lv,[],F,0⟩,tb++e):=by
 obtain⟨hf,hw,c,t,e1,e2,e3⟩:=Vt lv h1 h4 (tb++e);unfold iy;rw[C rfl];show(match bW (b++(fJ lv++(tb++e))) with| .error x=>_| .ok r=>_)=_;rw[e1,DI hb e2 e3];simp only[];rw[←e1,Bw hf hw hr];simp only[];rw[show(1:S)+((lv - 1:L):S)=(lv:S) by omega];rfl
theorem acz {ns:G Bs} {b tb e:Bs} {v:To} (hv:gZ v) (hb:Sp b) (hr:Cut (tb++e)):iy 3 ns (glue [(b,dm v)] (tb++e))= .ok (⟨3,ns,0,[v],F,0⟩,tb++e):=by
 unfold iy;rw[o aj,C rfl];show(match bW (b++(dm v++(tb++e))) with| .error x=>_| .ok r=>_)=_;rw[GA hb hv];simp only[];rw[Kl hv hr]
 rfl
theorem acA {ns:G Bs} {tb e:Bs} {b:L} (hb:b≤15) {ps:G (Bs × Bs)} (hs:∀p∈ps,Sp p.1) (hm:ps.map (·.2)=j5 (b:S)) (htb:∀c∈tb,eT c=D) (he:bR e=D):iy 9 ns (glue ps (tb++e))= .ok (⟨9,ns,0,[],F,b⟩,e):=by
 obtain⟨js,h1,h2,h3,h4⟩:=RG b hb;unfold iy;rw[o aj,o aj,C rfl,GD tb e htb he js ps 5 0 0 h1 h2 hs (hm.trans h3)];simp only[];rw[h4];rfl
theorem acB {ns:G Bs} {tb e:Bs} {fi:Bool} {b:Bs} {ps:G (Bs × Bs)} (hb:Sp b) (hp:∀p∈ps,Sp p.1∧aU ⟨p.2.toArray⟩=D) (hl:ps.length≤300) (htb:∀c∈tb,eT c=D) (he:bR e=D):
  iy 8 ns (glue ((if fi=D then [(b,[45])] else [])++ps) (tb++e))= .ok (⟨8,ns++ps.map (·.2),0,[],fi,0⟩,e):=by
 have ho:=yH 300 tb e htb he ps 301 0 ns [] hp ah ah;unfold iy;rw[o aj,o aj,o aj,C rfl];have hf:iD (glue ((if fi=D then [(b,[45])] else [])++ps) (tb++e))= .ok (fi,glue ps (tb++e)):=by
  unfold iD
  cases fi
  ·rw[o ak,List.nil_append]
   cases ps with
   |nil=>rw[glue,mQ htb he]
   |cons p ps=>
    have h0:=hp p E;rw[glue,Bv h0.1 h0.2];simp only[];obtain⟨c,t,hc,_,_,_,hne⟩:=u6 (r:=glue ps (tb++e)) h0.2;rw[hc,W,o (by simp;exact hne)]
  ·rw[C rfl]
   show(match bN (b++(45::glue ps (tb++e))) with| .error x=>_| .ok (D,r)=>_| .ok (F,r)=>_)=_;rw[zR hb aj (by rw[gF];decide)];simp only[W,if_true,List.tail_cons]
 rw[hf];simp only[];rw[ho]
 rfl
theorem acC {ns:G Bs} {tb e:Bs} {ps:G (Bs × Bs)} (hp:∀p∈ps,Sp p.1∧aU ⟨p.2.toArray⟩=D) (hl:ps.length≤300) (htb:∀c∈tb,eT c=D) (he:bR e=D):
  iy 7 ns (glue ps (tb++e))= .ok (⟨7,ns++ps.map (·.2),0,[],F,0⟩,e):=by
 have ho:=yH 300 tb e htb he ps 301 0 ns [] hp ah ah;unfold iy;rw[o aj,o aj,o aj,o aj,o aj,C rfl,ho]
 rfl
theorem acD {ns:G Bs} {tb e:Bs} {qs:G ((Bs × Bs) × (Bs × To))} (hp:∀p∈qs,(Sp p.1.1∧aU ⟨p.1.2.toArray⟩=D)∧Sp p.2.1∧gZ p.2.2) (hl:qs.length≤40) (htb:∀c∈tb,eT c=D) (he:bR e=D):
  iy 4 ns (glue (qs.flatMap fun p=>[p.1,(p.2.1,dm p.2.2)]) (tb++e))= .ok (⟨4,ns++qs.map (·.1.2),0,qs.map (·.2.2),F,0⟩,e):=by
 have ho:=ER 40 tb e htb he qs 41 0 ns [] hp ah ah;unfold iy;rw[o aj,o aj,o aj,o aj,C rfl,ho,List.nil_append]
 rfl
theorem Km {k:L} {ns:G Bs} {l:Bs} (h:k=2∨k=5∨k=6):iy k ns l= .ok (⟨k,ns,0,[],F,0⟩,l):=by
 rcases h with rfl|rfl|rfl <;> rfl
theorem lJ {ns:G Bs} {ps:G (Bs × Bs)} (hw:∀x∈ns,aU ⟨x.toArray⟩=D) (hs:∀p∈ps,Sp p.1) (hm:ps.map (·.2)=ns):∀p∈ps,Sp p.1∧aU ⟨p.2.toArray⟩=D:=
 fun p hp=>⟨hs p hp,hw _ (by rw[←hm];exact List.mem_map_of_mem hp)⟩
theorem RH {s:aB} (hs:dh s) (lead tb e:Bs) (hlead:∀c∈lead,eT c=D) (htb:∀c∈tb,eT c=D) (he:bR e=D) (ps:G (Bs × Bs)) (hsep:∀p∈ps,Sp p.1) (hps:ps.map (·.2)=(gT s).tail):
  fQ (lead++(aO s.kind.toNat++glue ps (tb++e)))= .ok (s,e):=by
 have hcut:Cut (tb++e):=Cut.blanks htb he;have me:bN e= .ok (F,e):=mQ (b:=[]) ak he;obtain⟨kd,ns,lv,vs,fi,bt⟩:=s;obtain⟨hw,hv,hc⟩:=hs;simp only at hw hv hc;rcases hc with⟨rfl,hl,rfl,⟨lw,rfl,h1,h4⟩,rfl,rfl⟩|⟨rfl,hl,rfl,rfl,rfl,rfl⟩|⟨rfl,hl,hvl,rfl,rfl,rfl⟩|⟨rfl,⟨cc,hl,hvl,hcc⟩,_,rfl,rfl,rfl⟩|⟨rfl,hl,rfl,rfl,rfl,rfl⟩|⟨rfl,hl,rfl,rfl,rfl,rfl⟩|⟨rfl,⟨cc,hl,hcc⟩,rfl,rfl,rfl,rfl⟩|⟨rfl,⟨cc,hl,hcc⟩,rfl,rfl,_,rfl⟩|⟨rfl,hl,rfl,rfl,rfl,⟨bb,rfl,hbb⟩⟩
 ·have lK:ps.map (·.2)=ns++[fJ lw]:=hps.trans (by
   show(aO 1::ns.take 2++([fJ lw]++ns.drop 2)).tail=_;rw[Z ah,List.drop_eq_nil_of_le ah];simp)
  obtain⟨p1,p2,rfl,m1,m2⟩:=uq lK;obtain⟨⟨qb,qw⟩,rfl,hq⟩:=FP m2;simp only at hq;subst hq;have hsp1:∀p∈p1,Sp p.1:=fun p hp=>hsep p (U _ hp)
  have hq:Sp qb:=hsep _ (I _ E);have hk:=nS 1 aj lead hlead p1 [(qb,fJ lw)] (by rw[←K (f:=fun p:Bs × Bs=>p.2),m1,hl];rfl) (lJ hw hsp1 m1) (tb++e) (Cut.sp hq);rw[m1,acy h1 h4 hq hcut] at hk;simp only[] at hk;rw[mQ htb he] at hk;exact hk
 ·have lK:ps.map (·.2)=ns:=hps.trans (by
   show(aO 2::ns.take 2++([]++ns.drop 2)).tail=_;rw[Z ah,List.drop_eq_nil_of_le ah];simp)
  have hk:=nS 2 aj lead hlead ps [] (by rw[←K (f:=fun p:Bs × Bs=>p.2),lK,hl];rfl) (lJ hw hsep lK) (tb++e) hcut;rw[lK,Km aj,List.append_nil] at hk;simp only[glue] at hk;rw[mQ htb he] at hk;exact hk
 ·obtain⟨v,rfl⟩:∃v,vs=[v]:=by
   cases vs with
   |nil=>simp at hvl
   |cons v vs=>cases vs with
    |nil=>exact⟨v,rfl⟩
    |cons a b=>simp at hvl
  have hv0:=hv v E;have lK:ps.map (·.2)=ns++[dm v]:=hps.trans (by
   show(aO 3::ns.take 2++([dm v]++ns.drop 2)).tail=_;rw[Z ah,List.drop_eq_nil_of_le ah];simp)
  obtain⟨p1,p2,rfl,m1,m2⟩:=uq lK;obtain⟨⟨qb,qw⟩,rfl,hq⟩:=FP m2;simp only at hq;subst hq;have hsp1:∀p∈p1,Sp p.1:=fun p hp=>hsep p (U _ hp)
  have hq:Sp qb:=hsep _ (I _ E);have hk:=nS 3 aj lead hlead p1 [(qb,dm v)] (by rw[←K (f:=fun p:Bs × Bs=>p.2),m1,hl];rfl) (lJ hw hsp1 m1) (tb++e) (Cut.sp hq);rw[m1,acz hv0 hq hcut] at hk;simp only[] at hk;rw[mQ htb he] at hk;exact hk
 ·have lK:ps.map (·.2)=ns.take 2++((ns.drop 2).zip vs).flatMap (fun(p:Bs × To)=>[p.1,dm p.2]):=hps.trans (by
   show(aO 4::ns.take 2++([]++((ns.drop 2).zip vs).flatMap (fun(p:Bs × To)=>[p.1,dm p.2]))).tail=_;simp)
  obtain⟨p1,p2,rfl,m1,m2⟩:=uq lK;obtain⟨qs,rfl,yZ⟩:=GH _ _ m2;have hsp1:∀p∈p1,Sp p.1:=fun p hp=>hsep p (U _ hp)
  have hsp2:∀q∈qs,Sp q.1.1∧Sp q.2.1:=fun q hq=>⟨hsep _ (I _ (List.mem_flatMap.2 ⟨q,hq,by simp⟩)),hsep (q.2.1,dm q.2.2) (I _ (List.mem_flatMap.2 ⟨q,hq,by simp⟩))⟩
  have hdl:(ns.drop 2).length=vs.length:=by rw[M];omega
  have e1:qs.map (·.1.2)=ns.drop 2:=by
   have:=congrArg (List.map Prod.fst) yZ;rw[List.map_map,List.map_fst_zip ah] at this;exact this
  have e2:qs.map (·.2.2)=vs:=by
   have:=congrArg (List.map Prod.snd) yZ;rw[List.map_map,List.map_snd_zip ah] at this;exact this
  have hql:qs.length≤40:=by
   have:=congrArg List.length e2;rw[K] at this;omega
  have hp:∀p∈qs,(Sp p.1.1∧aU ⟨p.1.2.toArray⟩=D)∧Sp p.2.1∧gZ p.2.2:=fun q hq=>⟨⟨(hsp2 q hq).1,hw _ (List.mem_of_mem_drop (by rw[←e1];exact List.mem_map_of_mem (f:=fun q:(Bs × Bs) × (Bs × To)=>q.1.2) hq))⟩,(hsp2 q hq).2,hv _ (by rw[←e2];exact List.mem_map_of_mem (f:=fun q:(Bs × Bs) × (Bs × To)=>q.2.2) hq)⟩
  have afs:Cut (glue (qs.flatMap fun(p:(Bs × Bs) × (Bs × To))=>[p.1,(p.2.1,dm p.2.2)]) (tb++e)):=nR _ _ (fun p hp=>hsep p (I _ hp)) hcut;have hk:=nS 4 aj lead hlead p1 _ (by rw[←K (f:=fun p:Bs × Bs=>p.2),m1,List.length_take,hl,Nat.min_eq_left ah];rfl) (lJ (fun x hx=>hw x (List.mem_of_mem_take hx)) hsp1 m1) (tb++e) afs;rw[m1,acD hp hql htb he] at hk;simp only[] at hk;rw[me,e1,e2,T] at hk;exact hk
 ·have lK:ps.map (·.2)=ns:=hps.trans (by
   show(aO 5::ns.take 1++([]++ns.drop 1)).tail=_;rw[Z ah,List.drop_eq_nil_of_le ah];simp)
  have hk:=nS 5 aj lead hlead ps [] (by rw[←K (f:=fun p:Bs × Bs=>p.2),lK,hl];rfl) (lJ hw hsep lK) (tb++e) hcut;rw[lK,Km aj,List.append_nil] at hk;simp only[glue] at hk;rw[mQ htb he] at hk;exact hk
 ·have lK:ps.map (·.2)=ns:=hps.trans (by
   show(aO 6::ns.take 1++([]++ns.drop 1)).tail=_;rw[Z ah,List.drop_eq_nil_of_le ah];simp)
  have hk:=nS 6 aj lead hlead ps [] (by rw[←K (f:=fun p:Bs × Bs=>p.2),lK,hl];rfl) (lJ hw hsep lK) (tb++e) hcut;rw[lK,Km aj,List.append_nil] at hk;simp only[glue] at hk;rw[mQ htb he] at hk;exact hk
 ·have lK:ps.map (·.2)=ns.take 1++ns.drop 1:=hps.trans (by
   show(aO 7::ns.take 1++([]++ns.drop 1)).tail=_;simp)
  obtain⟨p1,p2,rfl,m1,m2⟩:=uq lK;have hsp1:∀p∈p1,Sp p.1:=fun p hp=>hsep p (U _ hp)
  have hsp2:∀p∈p2,Sp p.1:=fun p hp=>hsep p (I _ hp)
  have hp2:=lJ (fun x hx=>hw x (List.mem_of_mem_drop hx)) hsp2 m2;have hpl:p2.length≤300:=by rw[←K (f:=fun p:Bs × Bs=>p.2),m2,M];omega
  have hk:=nS 7 aj lead hlead p1 p2 (by rw[←K (f:=fun p:Bs × Bs=>p.2),m1,List.length_take,hl,Nat.min_eq_left ah];rfl) (lJ (fun x hx=>hw x (List.mem_of_mem_take hx)) hsp1 m1) (tb++e) (nR _ _ hsp2 hcut);rw[m1,acC hp2 hpl htb he] at hk;simp only[] at hk;rw[me,m2,T] at hk;exact hk
 ·have lK:ps.map (·.2)=ns.take 2++((if fi=D then [[45]] else [])++ns.drop 2):=hps.trans (by
   cases fi
   ·show(aO 8::ns.take 2++([]++ns.drop 2)).tail=_
    simp
   ·show(aO 8::ns.take 2++([[45]]++ns.drop 2)).tail=_
    simp)
  obtain⟨p1,p23,rfl,m1,m23⟩:=uq lK;obtain⟨p2,p3,rfl,m2,m3⟩:=uq m23;have hsp1:∀p∈p1,Sp p.1:=fun p hp=>hsep p (U _ hp)
  have hsp2:∀p∈p2,Sp p.1:=fun p hp=>hsep p (I _ (U _ hp))
  have acE:∀p∈p3,Sp p.1:=fun p hp=>hsep p (I _ (I _ hp))
  have hp3:=lJ (fun x hx=>hw x (List.mem_of_mem_drop hx)) acE m3;have hpl:p3.length≤300:=by rw[←K (f:=fun p:Bs × Bs=>p.2),m3,M];omega
  obtain⟨b,hb,hp2⟩:∃b:Bs,Sp b∧p2=(if fi=D then [(b,[45])] else []):=by
   cases fi
   ·refine⟨[32],⟨by simp,by decide⟩,?_⟩
    simpa using m2
   ·obtain⟨⟨qb,qw⟩,rfl,hq⟩:=FP m2
    simp only at hq;subst hq;exact⟨qb,hsp2 _ E,rfl⟩
  have hk:=nS 8 aj lead hlead p1 (p2++p3) (by rw[←K (f:=fun p:Bs × Bs=>p.2),m1,List.length_take,hl,Nat.min_eq_left ah];rfl) (lJ (fun x hx=>hw x (List.mem_of_mem_take hx)) hsp1 m1) (tb++e) (nR _ _ (fun p hp=>(O.1 hp).elim (hsp2 p) (acE p)) hcut);have ht:=acB (ns:=ns.take 2) (fi:=fi) hb hp3 hpl htb he;rw[←hp2] at ht;rw[m1,ht] at hk;simp only[] at hk;rw[me,m3,T] at hk;exact hk
 ·have lK:ps.map (·.2)=ns++j5 (bb:S):=hps.trans (by
   show(aO 9::ns.take 1++(j5 (bb:S)++ns.drop 1)).tail=_;rw[Z ah,List.drop_eq_nil_of_le ah];simp)
  obtain⟨p1,p2,rfl,m1,m2⟩:=uq lK;have hsp1:∀p∈p1,Sp p.1:=fun p hp=>hsep p (U _ hp)
  have hsp2:∀p∈p2,Sp p.1:=fun p hp=>hsep p (I _ hp)
  have hk:=nS 9 aj lead hlead p1 p2 (by rw[←K (f:=fun p:Bs × Bs=>p.2),m1,hl];rfl) (lJ hw hsp1 m1) (tb++e) (nR _ _ hsp2 hcut);rw[m1,acA hbb hsp2 m2 htb he] at hk;simp only[] at hk;rw[me] at hk;exact hk
theorem GI:∀(ws:G Bs) (e:Bs),Lib.joinTail [32] ws++e=glue (ws.map (fun x=>([32],x))) e
 |[],e=>by simp[Lib.joinTail,glue]
 |x::ws,e=>by
  rw[List.map_cons,glue,←GI ws e];simp[Lib.joinTail]
theorem RI (w:Bs) (ws:G Bs) (e:Bs):Lib.join (w::ws) [32]++e=w++glue (ws.map (fun x=>([32],x))) e:=by
 rw[Lib.join_cons,V,GI]
theorem acF:Sp [32]:=⟨by simp,by decide⟩
theorem zH (s:aB):gT s=aO s.kind.toNat::(gT s).tail:=rfl
theorem Gh {s:aB} (hs:dh s) (r:Bs):mq (qc s++r)= .ok (s,r):=by
 have ht:qc s++r=[]++(aO s.kind.toNat++glue ((gT s).tail.map (fun x=>([32],x))) ([]++(10::r))):=by
  unfold qc;rw[zH s,V,RI];rfl
 have hk:=RH hs [] [] (10::r) ak ak (by rw[gF];rfl) ((gT s).tail.map (fun x=>([32],x))) (fun p hp=>by
  obtain⟨x,_,rfl⟩:=List.mem_map.1 hp;exact acF) (by rw[List.map_map];exact List.map_id _)
 unfold mq;rw[ht,hk];have hr:iA (10::r)=10::r:=by unfold iA;rw[o ak]
 simp only[hr,W]
 rfl
theorem Vu (n m b0 b1 b2 b3 c1 c2 c3:L) (h1:1<n→c1=b1) (h2:2<n→c2=b2) (h3:3<n→c3=b3) (hok:P (n+m) b0 c1 c2 c3≠(65533,1)) (hd:(P (n+m) b0 c1 c2 c3).2≤n):P n b0 b1 b2 b3=P (n+m) b0 c1 c2 c3:=by
 unfold P at hok hd ⊢;by_cases a:b0<128
 ·rw[C a,C a]
 rw[o a] at hok hd ⊢;rw[o a];by_cases hA:b0 / 32=6∧(1<n+m∧c1 / 64=2)
 ·rw[C hA] at hok hd ⊢
  by_cases hv:b0 % 32*64+c1 % 64≥128
  ·rw[C hv] at hd ⊢
   have hn:1<n:=hd;rw[C (by rw[←h1 hn];exact⟨hA.1,hn,hA.2.2⟩),←h1 hn,C hv]
  ·rw[o hv] at hok;exact absurd rfl hok
 rw[o hA] at hok hd ⊢;by_cases hB:b0 / 16=14∧(1<n+m∧c1 / 64=2)∧(2<n+m∧c2 / 64=2)
 ·rw[C hB] at hok hd ⊢
  by_cases hv:b0 % 16*4096+c1 % 64*64+c2 % 64≥2048∧(b0 % 16*4096+c1 % 64*64+c2 % 64<55296∨(57344≤b0 % 16*4096+c1 % 64*64+c2 % 64∧b0 % 16*4096+c1 % 64*64+c2 % 64≤1114111))
  ·rw[C hv] at hd ⊢
   have hn:2<n:=hd;rw[o ah,C (by rw[←h1 ah,←h2 hn];exact⟨hB.1,⟨by omega,hB.2.1.2⟩,hn,hB.2.2.2⟩),←h1 ah,←h2 hn,C hv]
  ·rw[o hv] at hok;exact absurd rfl hok
 rw[o hB] at hok hd ⊢;by_cases hC:b0 / 8=30∧(1<n+m∧c1 / 64=2)∧(2<n+m∧c2 / 64=2)∧(3<n+m∧c3 / 64=2)
 ·rw[C hC] at hok hd ⊢
  by_cases hv:b0 % 8*262144+c1 % 64*4096+c2 % 64*64+c3 % 64≥65536∧(b0 % 8*262144+c1 % 64*4096+c2 % 64*64+c3 % 64<55296∨(57344≤b0 % 8*262144+c1 % 64*4096+c2 % 64*64+c3 % 64∧b0 % 8*262144+c1 % 64*4096+c2 % 64*64+c3 % 64≤1114111))
  ·rw[C hv] at hd ⊢
   have hn:3<n:=hd;rw[o ah,o ah,C (by rw[←h1 ah,←h2 ah,←h3 hn];exact⟨hC.1,⟨by omega,hC.2.1.2⟩,⟨by omega,hC.2.2.1.2⟩,hn,hC.2.2.2.2⟩),←h1 ah,←h2 ah,←h3 hn,C hv]
  ·rw[o hv] at hok;exact absurd rfl hok
 rw[o hC] at hok;exact absurd rfl hok
theorem Zo (w r:Bs) (hw:w≠[]) (hok:okB ⟨(w++r).toArray⟩ 0=D) (hd:(N ⟨(w++r).toArray⟩ 0).2≤w.length):N ⟨w.toArray⟩ 0=N ⟨(w++r).toArray⟩ 0:=by
 have hne:=Kj hok;have hl:0<w.length:=Y.2 hw;rw[Lib.decode_at,dR,J,Nat.sub_zero] at hne hd;rw[Lib.decode_at,Lib.decode_at,dR,dR,J,Nat.sub_zero,Nat.sub_zero];rw[rZ w r 0 hl] at hne hd ⊢;refine Vu _ _ _ _ _ _ _ _ _ (fun h=>?_) (fun h=>?_) (fun h=>?_) hne hd
 ·rw[rZ w r (0+1) ah]
 ·rw[rZ w r (0+2) ah]
 ·rw[rZ w r (0+3) ah]
theorem CS (p:S→Bool):∀(n:L) (l:Bs),l.length≤n→dO ⟨(l.take (dO ⟨l.toArray⟩ p)).toArray⟩ p=dO ⟨l.toArray⟩ p
 |0,l,hn=>by
  have:l=[]:=List.length_eq_zero_iff.1 ah;subst this;rfl
 |n+1,l,hn=>by
  by_cases h0:l=[]
  ·subst h0;rfl
  ·have hle:=pO p l.length l (Nat.le_refl _)
   have hw:=dY l p h0;by_cases hc:(okB ⟨l.toArray⟩ 0 && p ((N ⟨l.toArray⟩ 0).1:S))=D
   ·rw[C hc] at hw
    rw[R] at hc;have h1:=uI l h0;have h2:=sO l h0;obtain⟨d,hd⟩:∃d,d=(N ⟨l.toArray⟩ 0).2:=⟨_,rfl⟩;obtain⟨k,hk⟩:∃k,k=dO ⟨(l.drop d).toArray⟩ p:=⟨_,rfl⟩;rw[←hd] at hw h1 h2;rw[←hk] at hw;have ih:=CS p n (l.drop d) (by rw[M];omega);rw[←hk] at ih;rw[hw] at hle ⊢;have hsp:l=l.take (d+k)++l.drop (d+k):=(T _ _).symm;have htl:(l.take (d+k)).length=d+k:=by rw[List.length_take];omega
    have htn:l.take (d+k)≠[]:=by intro e;rw[e] at htl;simp at htl;omega
    have hdec:N ⟨(l.take (d+k)).toArray⟩ 0=N ⟨l.toArray⟩ 0:=by
     have:=Zo (l.take (d+k)) (l.drop (d+k)) htn (by rw[←hsp];exact hc.1) (by rw[←hsp,←hd,htl];omega);rw[←hsp] at this;exact this
    have hok2:okB ⟨(l.take (d+k)).toArray⟩ 0=D:=by unfold okB;rw[hdec];exact hc.1
    rw[dY _ p htn,hok2,hdec,hc.2,C (show(D && D)=D from rfl),←hd];have:(l.take (d+k)).drop d=(l.drop d).take k:=by rw[List.drop_take];congr 1;omega
    rw[this,ih]
   ·rw[o hc] at hw
    rw[hw];rfl
theorem xW {l m r:Bs} (h:bI l= .ok (m,r)):aU ⟨m.toArray⟩=D:=by
 unfold bI at h;by_cases h1:(bR l||!bL l)=D
 ·rw[C h1] at h;cases h
 rw[o h1] at h;by_cases h2:24<bT l
 ·rw[C h2] at h;cases h
 rw[o h2] at h;injection h with h;injection h with hm _;have hb:bL l=D:=by
  cases hq:bL l
  ·rw[hq] at h1;simp at h1
  ·rfl
 cases l with
 |nil=>simp[bL] at hb
 |cons b t=>
  have hpos:=Zp hb;have hrl:=Zq (b::t);have hml:m.length=bT (b::t):=by rw[←hm,List.length_take];omega
  have hwm:dO ⟨m.toArray⟩ fV=m.length:=by rw[hml,←hm];exact CS fV _ (b::t) (Nat.le_refl _)
  have hmc:∃t',m=b::t':=by
   rw[←hm];obtain⟨k,hk⟩:∃k,bT (b::t)=k+1:=⟨bT (b::t) - 1,by omega⟩;rw[hk,List.take_succ_cons];exact⟨_,rfl⟩
  obtain⟨t',rfl⟩:=hmc;unfold aU;rw[dR,hwm,R,R,R];refine⟨⟨⟨by simp,decide_eq_true ah⟩,?_⟩,by simp⟩;have hle:=Gy b t;rw[hb] at hle;have hf:uU ⟨(b::t').toArray⟩=(b.toNat:S):=by
   unfold uU;rw[dif_pos (by rw[dR];simp)];show wrap32 (b.toNat:S)=_;have:=b.toNat_lt;unfold wrap32;omega
  rw[hf];rcases Nat.lt_or_ge b.toNat 128 with hlo|hhi
  ·rw[(X5 t hlo).1] at hle
   rw[O7 hle.symm];rfl
  ·unfold iY
   rw[Bool.not_eq_true',Bool.and_eq_false_iff]
   right
   exact decide_eq_false ah
theorem M6:∀(l:Bs) (n:L),0<n→0<l.foldl (fun n (c:UInt8)=>n*10+(c.toNat - 48)) n
 |[],_,h=>h
 |c::t,n,h=>by rw[List.foldl_cons];exact M6 t _ ah
theorem M7 {l r:Bs} {v:To} (h:dQ l= .ok (v,r)):gZ v:=by
 unfold dQ at h;by_cases h0:l.head?=some 45
 ·rw[C h0] at h;injection h with h;injection h with h _;subst h;exact .inl rfl
 rw[o h0] at h
 cases hn:bI l with
 |error x=>rw[hn] at h;cases h
 |ok y=>
  obtain⟨nm,r1⟩:=y;rw[hn] at h;simp only[] at h;by_cases h46:r1.head?=some 46
  ·rw[C h46] at h
   unfold rz at h;simp only[] at h;by_cases hd:(r1.tail.takeWhile fD).head?=none∨(r1.tail.takeWhile fD).head?=some 48
   ·rw[C hd] at h;cases h
   rw[o hd] at h;by_cases h9:999<mR (r1.tail.takeWhile fD)
   ·rw[C h9] at h;cases h
   rw[o h9] at h;injection h with h;injection h with h _;subst h;refine .inr ⟨xW hn,?_,by show((mR _:L):S)≤999;omega⟩
   cases hq:r1.tail.takeWhile fD with
   |nil=>rw[hq] at hd;exact absurd (.inl rfl) hd
   |cons c t=>
    rw[hq] at hd;have hdg:fD c=D:=Kn fD r1.tail c (by rw[hq];exact E);have hc:=(FN c).1 hdg;have hne:c.toNat≠48:=fun e=>hd (.inr (by rw[W];exact congrArg some (UInt8.toNat_inj.1 e)))
    have:=M6 t (0*10+(c.toNat - 48)) ah;show(0:S)<((mR (c::t):L):S);unfold mR;rw[List.foldl_cons];omega
  ·rw[o h46] at h;cases h
theorem pU {l r:Bs} {b:Bool} (h:bN l= .ok (b,r)):r.length+(if b=D then 1 else 0)≤l.length:=by
 unfold bN at h;have hs:(aY l).length≤l.length:=(List.dropWhile_suffix _).length_le
 split at h
 ·injection h with h;injection h with h1 h2;subst h1 h2;simpa using hs
 ·split at h
  ·cases h
  ·injection h with h;injection h with h1 h2;subst h1 h2;simp only[if_true];omega
theorem zS {l r:Bs} (h:bW l= .ok r):r.length+1≤l.length:=by
 unfold bW at h
 cases hm:bN l with
 |error y=>rw[hm] at h;cases h
 |ok y=>
  obtain⟨b,r0⟩:=y;rw[hm] at h
  cases b
  ·cases h
  ·injection h with h;subst h;exact pU hm
theorem zT {l m r:Bs} (h:bI l= .ok (m,r)):r.length+1≤l.length:=by
 have hw:=xW h;unfold bI at h
 split at h
 ·cases h
 split at h
 ·cases h
 injection h with h;injection h with h1 h2;have hl:m.length+r.length=l.length:=by rw[←h1,←h2,←J,T]
 cases m with
 |nil=>simp[aU] at hw
 |cons c t=>simp only[List.length_cons] at hl;omega
theorem Ko {l r:Bs} {v:To} (h:dQ l= .ok (v,r)):r.length+1≤l.length:=by
 unfold dQ at h;by_cases h0:l.head?=some 45
 ·rw[C h0] at h;injection h with h;injection h with _ h;subst h
  cases l with
  |nil=>cases h0
  |cons c t=>exact Nat.le_refl _
 ·rw[o h0] at h
  cases hn:bI l with
  |error x=>rw[hn] at h;cases h
  |ok y=>
   obtain⟨nm,r1⟩:=y;rw[hn] at h;have:=zT hn;simp only[] at h
   split at h
   ·unfold rz at h
    simp only[] at h
    split at h
    ·cases h
    split at h
    ·cases h
    injection h with h;injection h with _ h;subst h;simp only[M,List.length_tail];omega
   ·cases h
theorem DK {ws:G Bs} {l r:Bs} {i:L} (hw:∀x∈ws,∀c∈x,lI c=D) (h0:∀x∈ws,x≠[]) (h:bZ ws l= .ok (i,r)):r.length+1≤l.length:=by
 unfold bZ at h
 cases hf:ws.findIdx? (fun s=>s==kE l) with
 |none=>rw[hf] at h;cases h
 |some j=>
  rw[hf] at h;injection h with h;injection h with _ h;subst h;obtain⟨hj,he,_⟩:=List.findIdx?_eq_some_iff_getElem.1 hf;have hm:=List.getElem_mem hj;rw[beq_iff_eq.1 he] at hm;have hle:(cB l).length≤l.length:=(List.takeWhile_prefix _).length_le;rw[M];have:cB l≠[]:=fun e=>by
   have h2:kE l=cB l∨kE l=cB l++[128]:=by
    unfold kE
    split
    ·split
     ·exact .inr rfl
     ·exact .inl rfl
    ·exact .inl rfl
   rw[e] at h2;rcases h2 with h2|h2
   ·exact h0 _ hm h2
   ·exact absurd (hw _ hm 128 (by rw[h2];simp)) aj
  have:=Y.2 this;omega
theorem O8:∀m:Fin 4,∀b:Fin 16,b.val<2 ^ m.val→(j5 ((b.val:S)+2 ^ m.val)).length=(j5 (b.val:S)).length+1:=by decide
theorem Kq {α β:Type} (f g:α→β):∀l:G α,(l.flatMap (fun p=>[f p,g p])).length=2*l.length
 |[]=>rfl
 |a::l=>by rw[List.flatMap_cons,J,Kq f g l];simp only[List.length_cons,List.length_nil];omega
theorem GJ:∀(k:L) (acc:G Bs) (l:Bs) {ns:G Bs} {r:Bs},gD k acc l= .ok (ns,r)→(∀x∈acc,aU ⟨x.toArray⟩=D)→ns.length=acc.length+k∧(∀x∈ns,aU ⟨x.toArray⟩=D)∧r.length+2*k≤l.length
 |0,acc,l,ns,r,h,ha=>by rw[gD] at h;injection h with h;injection h with h h2;subst h h2;exact⟨rfl,ha,Nat.le_refl _⟩
 |k+1,acc,l,ns,r,h,ha=>by
  rw[gD] at h
  cases hm:bW l with
  |error y=>rw[hm] at h;cases h
  |ok r0=>
   rw[hm] at h;simp only[] at h
   cases hn:bI r0 with
   |error y=>rw[hn] at h;cases h
   |ok y=>
    obtain⟨nm,r1⟩:=y;rw[hn] at h;have:=GJ k _ _ h (fun x hx=>by
     rcases O.1 hx with hx|hx
     ·exact ha x hx
     ·rw[Q.1 hx];exact xW hn)
    simp only[J,List.length_singleton] at this;have h1:=zS hm;have h2:=zT hn;exact⟨by omega,this.2.1,by omega⟩
theorem tu (pairs:Bool) (most:L):∀(f many:L) (ns:G Bs) (vs:G To) (l:Bs) {a:G Bs} {b:G To} {r:Bs},bf pairs most f many ns vs l= .ok ((a,b),r)→most+1≤f+many→many≤most→(∀x∈ns,aU ⟨x.toArray⟩=D)→(∀v∈vs,gZ v)→
  ∃c:L,a.length=ns.length+c∧b.length=vs.length+(if pairs=D then c else 0)∧many+c≤most∧(∀x∈a,aU ⟨x.toArray⟩=D)∧(∀v∈b,gZ v)∧r.length+(if pairs=D then 4*c else 2*c)≤l.length
 |0,many,ns,vs,l,a,b,r,h,hf,hm,hns,hvs=>by omega
 |f+1,many,ns,vs,l,a,b,r,h,hf,hm,hns,hvs=>by
  rw[bf] at h
  cases hmo:bN l with
  |error y=>rw[hmo] at h;cases h
  |ok y=>
   obtain⟨bo,r0⟩:=y;rw[hmo] at h
   cases bo
   ·injection h with h;injection h with h h3;injection h with h1 h2;subst h1 h2 h3
    exact⟨0,rfl,by split <;> rfl,hm,hns,hvs,by have:=pU hmo;simp only[Nat.mul_zero,ite_self];omega⟩
   ·simp only[] at h
    by_cases hb:many=most∧bL r0=D
    ·rw[C hb] at h;cases h
    ·rw[o hb] at h
     cases hn:bI r0 with
     |error y=>rw[hn] at h;cases h
     |ok y=>
      obtain⟨nm,r1⟩:=y;rw[hn] at h;simp only[] at h;have hmn:many<most:=by
       rcases Nat.lt_or_ge many most with h'|h'
       ·exact h'
       ·exfalso
        have hbe:bL r0=F:=by
         cases hq:bL r0
         ·rfl
         ·exact absurd ⟨by omega,hq⟩ hb
        rw[Vv hbe] at hn;cases hn
      have acG:∀x∈ns++[nm],aU ⟨x.toArray⟩=D:=fun x hx=>by
       rcases O.1 hx with hx|hx
       ·exact hns x hx
       ·rw[Q.1 hx];exact xW hn
      by_cases hp:pairs=D
      ·rw[C hp] at h
       cases hu:bW r1 with
       |error y=>rw[hu] at h;cases h
       |ok r2=>
        rw[hu] at h;simp only[] at h
        cases hv:dQ r2 with
        |error y=>rw[hv] at h;cases h
        |ok y=>
         obtain⟨v,r3⟩:=y;rw[hv] at h;obtain⟨c,h1,h2,h3,h4,h5,h6⟩:=tu pairs most f (many+1) _ _ _ h ah ah acG (fun x hx=>by
          rcases O.1 hx with hx|hx
          ·exact hvs x hx
          ·rw[Q.1 hx];exact M7 hv)
         rw[C hp] at h2 h6;simp only[J,List.length_singleton] at h1 h2;have l1:=pU hmo;have l2:=zT hn;have l3:=zS hu;have l4:=Ko hv;rw[C rfl] at l1;exact⟨c+1,by omega,by rw[C hp];omega,by omega,h4,h5,by rw[C hp];omega⟩
      ·rw[o hp] at h
       obtain⟨c,h1,h2,h3,h4,h5,h6⟩:=tu pairs most f (many+1) _ _ _ h ah ah acG hvs;rw[o hp] at h2 h6;simp only[J,List.length_singleton] at h1;have l1:=pU hmo;have l2:=zT hn;rw[C rfl] at l1;exact⟨c+1,by omega,by rw[o hp];omega,by omega,h4,h5,by rw[o hp];omega⟩
theorem Kr:∀(f k:L) (b:S) (l:Bs) {x:S} {r:Bs},fP f k b l= .ok (x,r)→(∃m:L,b=m∧m<2 ^ k∧k≤4)→(∃m:L,x=m∧m≤15)∧r.length+2*(j5 x).length≤l.length+2*(j5 b).length
 |0,k,b,l,x,r,h,⟨m,hm,hlt,hk⟩=>by
  rw[fP] at h;injection h with h;injection h with h h2;subst h h2;refine⟨⟨m,hm,?_⟩,Nat.le_refl _⟩;have:(2:L) ^ k≤2 ^ 4:=Nat.pow_le_pow_right aj hk;omega
 |f+1,k,b,l,x,r,h,⟨m,hm,hlt,hk⟩=>by
  rw[fP] at h;have h16:(2:L) ^ k≤2 ^ 4:=Nat.pow_le_pow_right aj hk
  cases hmo:bN l with
  |error y=>rw[hmo] at h;cases h
  |ok y=>
   obtain⟨bo,r0⟩:=y;rw[hmo] at h
   cases bo
   ·injection h with h;injection h with h h2;subst h h2
    exact⟨⟨m,hm,by omega⟩,by have:=pU hmo;omega⟩
   ·simp only[] at h
    cases hw:bZ (iP.drop k) r0 with
    |error y=>rw[hw] at h;cases h
    |ok y=>
     obtain⟨i,r1⟩:=y;rw[hw] at h;have l1:=pU hmo;have l2:=DK (Kt k) (fun x hx=>(show ∀x∈iP,x≠[] by decide) x (List.mem_of_mem_drop hx)) hw;rw[C rfl] at l1;rw[←DL _ _ (Kt k)] at hw;have hi:=Ku hw;rw[M] at hi;have h4:iP.length=4:=rfl;have hpw:(2:L) ^ k≤2 ^ (k+i):=Nat.pow_le_pow_right aj ah;have hga:=O8 ⟨k+i,by omega⟩ ⟨m,by omega⟩ (by show m<2 ^ (k+i);omega);have:=Kr f (k+i+1) _ _ h ⟨m+2 ^ (k+i),by rw[hm];push_cast;rfl,by rw[Nat.pow_succ];omega,by omega⟩;simp only[] at hga;rw[hm,hga,←hm] at this;exact⟨this.1,by omega⟩
theorem mF (s:aB):(gT s).length≤1+s.names.length+(if bH s.kind.toNat=108 then 1 else if bH s.kind.toNat=118 then 1 else if bH s.kind.toNat=103 then(j5 s.bits).length else if bH s.kind.toNat=109∧s.first=D then 1 else 0)+(if bH s.kind.toNat=115 then s.aA.length else 0):=by
 unfold gT;simp only[List.length_cons,J];have h1:(s.names.take (bA s.kind.toNat).toNat).length+(s.names.drop (bA s.kind.toNat).toNat).length=s.names.length:=by rw[←J,T]
 have h2:((s.names.drop (bA s.kind.toNat).toNat).zip s.aA|>.flatMap (fun p=>[p.1,dm p.2])).length≤(s.names.drop (bA s.kind.toNat).toNat).length+s.aA.length:=by rw[Kq,List.length_zip];omega
 have h3:(s.aA.take 1|>.map dm).length≤1:=by rw[K,List.length_take];omega
 generalize bH s.kind.toNat=q at*;by_cases Vw:q=108
 ·subst Vw;simp only[if_true,Int.reduceEq,if_false,List.length_singleton];omega
 by_cases Vx:q=118
 ·subst Vx;simp only[if_true,Int.reduceEq,if_false];omega
 by_cases Vy:q=103
 ·subst Vy;simp only[if_true,Int.reduceEq,if_false];omega
 by_cases Vz:q=109∧s.first=D
 ·obtain⟨rfl,hf⟩:=Vz;simp only[hf,and_self,if_true,Int.reduceEq,if_false,List.length_singleton];omega
 rw[o Vw,o Vx,o Vy,o Vz,o Vw,o Vx,o Vy,o Vz];by_cases O9:q=115
 ·rw[C O9,C O9,List.length_nil];omega
 ·rw[o O9,o O9,List.length_nil];omega
theorem RJ {l r:Bs} {b:Bool} (h:iD l= .ok (b,r)):r.length+(if b=D then 2 else 0)≤l.length:=by
 unfold iD at h
 cases hm:bN l with
 |error y=>rw[hm] at h;cases h
 |ok y=>
  obtain⟨c,r0⟩:=y;have l1:=pU hm;rw[hm] at h
  cases c
  ·injection h with h;injection h with h h2;subst h h2;simp
  ·simp only[] at h
   rw[C rfl] at l1
   split at h
   ·rename_i h0
    injection h with h;injection h with h h2;subst h h2
    cases r0 with
    |nil=>cases h0
    |cons c t=>simp only[List.length_cons,List.tail_cons,if_true] at*;omega
   ·injection h with h;injection h with h h2;subst h h2;simp
theorem VA {l r:Bs} {n:aB} (h:fQ l= .ok (n,r)):n=⟨0,[],0,[],F,0⟩∨(dh n∧r.length+2*(gT n).length≤l.length+1):=by
 unfold fQ at h;by_cases he:bR (aY l)=D
 ·rw[C he] at h;injection h with h;injection h with h _;exact .inl h.symm
 rw[o he] at h
 right
 cases hw:bZ jV (aY l) with
 |error y=>rw[hw] at h;cases h
 |ok y=>
  obtain⟨i,r0⟩:=y;rw[hw] at h;simp only[] at h;have k1:=DK M8 aj hw;have k0:(aY l).length≤l.length:=(List.dropWhile_suffix _).length_le;rw[←DL _ _ M8] at hw;have hi:i<9:=Ku hw
  cases hn:gD (bA (i+1)).toNat [] r0 with
  |error y=>rw[hn] at h;cases h
  |ok y=>
   obtain⟨ns,r1⟩:=y;rw[hn] at h;simp only[] at h;have h1:=GJ _ _ _ hn ak
   cases ht:iy (i+1) ns r1 with
   |error y=>rw[ht] at h;cases h
   |ok y=>
    obtain⟨s,r2⟩:=y;rw[ht] at h;simp only[] at h;have hs:s=n∧r.length≤r2.length:=by
     cases hm:bN r2 with
     |error y=>rw[hm] at h;cases h
     |ok y=>
      obtain⟨b,r3⟩:=y;have:=pU hm;rw[hm] at h
      cases b
      ·injection h with h;injection h with h h2;subst h2;exact⟨h,by omega⟩
      ·cases h
    obtain⟨rfl,k3⟩:=hs;have k2:=h1.2.2;have h1:=And.intro h1.1 h1.2.1;clear h hn hw he;have hk:i=0∨i=1∨i=2∨i=3∨i=4∨i=5∨i=6∨i=7∨i=8:=by omega
    unfold iy at ht;rcases hk with rfl|rfl|rfl|rfl|rfl|rfl|rfl|rfl|rfl
    ·rw[C rfl] at ht
     cases hm:bW r1 with
     |error y=>rw[hm] at ht;cases ht
     |ok r0=>
      rw[hm] at ht;simp only[] at ht
      cases hq:bZ kD r0 with
      |error y=>rw[hq] at ht;cases ht
      |ok y=>
       obtain⟨j,r3⟩:=y;rw[hq] at ht;injection ht with ht;injection ht with ht ht2;subst ht ht2;have q2:=DK Kv aj hq;rw[←DL _ _ Kv] at hq;have hj:j<4:=Ku hq;refine⟨⟨h1.2,by simp,.inl ⟨rfl,h1.1.trans aj,rfl,⟨1+j,by push_cast;rfl,by omega,by omega⟩,rfl,rfl⟩⟩,?_⟩;have kq:(bA (0+1)).toNat=2:=rfl;have hn0:ns.length=2:=h1.1.trans aj;have q1:=zS hm;have:=mF ⟨((0+1:L):S),ns,1+(j:S),[],F,0⟩;simp[bH] at this ⊢;omega
    ·injection ht with ht;injection ht with ht ht2;subst ht ht2
     refine⟨⟨h1.2,by simp,.inr (.inl ⟨rfl,h1.1.trans aj,rfl,rfl,rfl,rfl⟩)⟩,?_⟩;have kq:(bA (1+1)).toNat=2:=rfl;have hn0:ns.length=2:=h1.1.trans aj;have:=mF ⟨((1+1:L):S),ns,0,[],F,0⟩;simp[bH] at this ⊢;omega
    ·rw[o aj,C rfl] at ht
     cases hm:bW r1 with
     |error y=>rw[hm] at ht;cases ht
     |ok r0=>
      rw[hm] at ht;simp only[] at ht
      cases hq:dQ r0 with
      |error y=>rw[hq] at ht;cases ht
      |ok y=>
       obtain⟨v,r3⟩:=y;rw[hq] at ht;injection ht with ht;injection ht with ht ht2;subst ht ht2;refine⟨⟨h1.2,fun t ht=>by rw[Q.1 ht];exact M7 hq,.inr (.inr (.inl ⟨rfl,h1.1.trans aj,rfl,rfl,rfl,rfl⟩))⟩,?_⟩;have kq:(bA (2+1)).toNat=2:=rfl;have hn0:ns.length=2:=h1.1.trans aj;have q1:=zS hm;have q2:=Ko hq;have:=mF ⟨((2+1:L):S),ns,0,[v],F,0⟩;simp[bH] at this ⊢;omega
    ·rw[o aj,o aj,o aj,o aj,C rfl] at ht
     cases ho:bf D 40 41 0 ns [] r1 with
     |error y=>rw[ho] at ht;cases ht
     |ok y=>
      obtain⟨⟨a,b⟩,r3⟩:=y;rw[ho] at ht;injection ht with ht;injection ht with ht ht2;subst ht ht2;obtain⟨c,e1,e2,e3,e4,e5,e6⟩:=tu _ _ _ _ _ _ _ ho ah ah h1.2 ak;have hl:ns.length=2:=h1.1.trans aj;refine⟨⟨e4,e5,.inr (.inr (.inr (.inl ⟨rfl,⟨c,by show a.length=_;omega,by show b.length=_;simpa using e2,by omega⟩,trivial,rfl,rfl,rfl⟩)))⟩,?_⟩;have kq:(bA (3+1)).toNat=2:=rfl;rw[C rfl] at e6;have:=mF ⟨((3+1:L):S),a,0,b,F,0⟩;simp[bH] at this e2 ⊢;omega
    ·injection ht with ht;injection ht with ht ht2;subst ht ht2
     refine⟨⟨h1.2,by simp,.inr (.inr (.inr (.inr (.inl ⟨rfl,h1.1.trans aj,rfl,rfl,rfl,rfl⟩))))⟩,?_⟩;have kq:(bA (4+1)).toNat=1:=rfl;have hn0:ns.length=1:=h1.1.trans aj;have:=mF ⟨((4+1:L):S),ns,0,[],F,0⟩;simp[bH] at this ⊢;omega
    ·injection ht with ht;injection ht with ht ht2;subst ht ht2
     refine⟨⟨h1.2,by simp,.inr (.inr (.inr (.inr (.inr (.inl ⟨rfl,h1.1.trans aj,rfl,rfl,rfl,rfl⟩)))))⟩,?_⟩;have kq:(bA (5+1)).toNat=1:=rfl;have hn0:ns.length=1:=h1.1.trans aj;have:=mF ⟨((5+1:L):S),ns,0,[],F,0⟩;simp[bH] at this ⊢;omega
    ·rw[o aj,o aj,o aj,o aj,o aj,C rfl] at ht
     cases ho:bf F 300 301 0 ns [] r1 with
     |error y=>rw[ho] at ht;cases ht
     |ok y=>
      obtain⟨⟨a,b⟩,r3⟩:=y;rw[ho] at ht;injection ht with ht;injection ht with ht ht2;subst ht ht2;obtain⟨c,e1,e2,e3,e4,e5,e6⟩:=tu _ _ _ _ _ _ _ ho ah ah h1.2 ak;have hl:ns.length=1:=h1.1.trans aj;have hb:b=[]:=List.length_eq_zero_iff.1 (by simpa using e2);refine⟨⟨e4,e5,.inr (.inr (.inr (.inr (.inr (.inr (.inl ⟨rfl,⟨c,by show a.length=_;omega,by omega⟩,hb,rfl,rfl,rfl⟩))))))⟩,?_⟩;have kq:(bA (6+1)).toNat=1:=rfl;rw[o aj] at e6;have:=mF ⟨((6+1:L):S),a,0,b,F,0⟩;simp[bH] at this ⊢;omega
    ·rw[o aj,o aj,o aj,C rfl] at ht
     cases hf:iD r1 with
     |error y=>rw[hf] at ht;cases ht
     |ok y=>
      obtain⟨fi,r0⟩:=y;rw[hf] at ht;simp only[] at ht
      cases ho:bf F 300 301 0 ns [] r0 with
      |error y=>rw[ho] at ht;cases ht
      |ok y=>
       obtain⟨⟨a,b⟩,r3⟩:=y;rw[ho] at ht;injection ht with ht;injection ht with ht ht2;subst ht ht2;obtain⟨c,e1,e2,e3,e4,e5,e6⟩:=tu _ _ _ _ _ _ _ ho ah ah h1.2 ak;have hl:ns.length=2:=h1.1.trans aj;have hb:b=[]:=List.length_eq_zero_iff.1 (by simpa using e2);refine⟨⟨e4,e5,.inr (.inr (.inr (.inr (.inr (.inr (.inr (.inl ⟨rfl,⟨c,by show a.length=_;omega,by omega⟩,hb,rfl,trivial,rfl⟩)))))))⟩,?_⟩;have kq:(bA (7+1)).toNat=2:=rfl;rw[o aj] at e6;have q1:=RJ hf;have:=mF ⟨((7+1:L):S),a,0,b,fi,0⟩;simp[bH] at this ⊢;cases fi <;> simp at this q1 <;> omega
    ·rw[o aj,o aj,C rfl] at ht
     cases hg:fP 5 0 0 r1 with
     |error y=>rw[hg] at ht;cases ht
     |ok y=>
      obtain⟨b,r3⟩:=y;rw[hg] at ht;injection ht with ht;injection ht with ht ht2;subst ht ht2;obtain⟨⟨m,hm,h15⟩,q0⟩:=Kr _ _ _ _ hg ⟨0,rfl,by decide,by decide⟩;refine⟨⟨h1.2,by simp,.inr (.inr (.inr (.inr (.inr (.inr (.inr (.inr ⟨rfl,h1.1.trans aj,rfl,rfl,rfl,⟨m,hm,h15⟩⟩)))))))⟩,?_⟩;have kq:(bA (8+1)).toNat=1:=rfl;have hn0:ns.length=1:=h1.1.trans aj;have:=mF ⟨((8+1:L):S),ns,0,[],F,b⟩;simp[bH] at this ⊢;have q1:(j5 0).length=0:=by decide
      omega
theorem wR {l r:Bs} {b:Bool} (h:bN l= .ok (b,r)):r<:+l:=by
 have hs:aY l<:+l:=by unfold aY;exact List.dropWhile_suffix _
 unfold bN at h
 split at h
 ·injection h with h;injection h with _ h;rw[←h];exact hs
 ·split at h
  ·cases h
  ·injection h with h;injection h with _ h;rw[←h];exact hs
theorem zU {l r:Bs} (h:bW l= .ok r):r<:+l:=wR (RL h)
theorem DN {l r m:Bs} (h:bI l= .ok (m,r)):r<:+l:=by
 unfold bI at h
 split at h
 ·cases h
 ·split at h
  ·cases h
  ·injection h with h;injection h with _ h;rw[←h];exact List.drop_suffix _ _
theorem DR {ws:G Bs} {l r:Bs} {i:L} (h:bZ ws l= .ok (i,r)):r<:+l:=by
 unfold bZ at h
 split at h
 ·injection h with h;injection h with _ h;rw[←h];exact List.drop_suffix _ _
 ·cases h
theorem Kw {l r:Bs} {v:To} (h:dQ l= .ok (v,r)):r<:+l:=by
 unfold dQ at h;by_cases h0:l.head?=some 45
 ·rw[C h0] at h;injection h with h;injection h with _ h;rw[←h];exact List.tail_suffix _
 rw[o h0] at h
 cases hn:bI l with
 |error x=>rw[hn] at h;cases h
 |ok y=>
  obtain⟨nm,r1⟩:=y;have h1:=DN hn;rw[hn] at h;simp only[] at h;by_cases h46:r1.head?=some 46
  ·rw[C h46] at h
   unfold rz at h;simp only[] at h
   split at h
   ·cases h
   ·split at h
    ·cases h
    ·injection h with h;injection h with _ h;rw[←h];exact((List.drop_suffix _ _).trans (List.tail_suffix _)).trans h1
  ·rw[o h46] at h;cases h
theorem GK:∀(k:L) (acc:G Bs) (l:Bs) {ns:G Bs} {r:Bs},gD k acc l= .ok (ns,r)→r<:+l
 |0,acc,l,ns,r,h=>by rw[gD] at h;injection h with h;injection h with _ h;subst h;exact List.suffix_refl _
 |k+1,acc,l,ns,r,h=>by
  rw[gD] at h
  cases hm:bW l with
  |error y=>rw[hm] at h;cases h
  |ok r0=>
   rw[hm] at h;simp only[] at h
   cases hn:bI r0 with
   |error y=>rw[hn] at h;cases h
   |ok y=>
    obtain⟨nm,r1⟩:=y;rw[hn] at h;exact((GK k _ _ h).trans (DN hn)).trans (zU hm)
theorem tC (pairs:Bool) (most:L):∀(f many:L) (ns:G Bs) (vs:G To) (l:Bs) {x:G Bs × G To} {r:Bs},bf pairs most f many ns vs l= .ok (x,r)→r<:+l
 |0,many,ns,vs,l,x,r,h=>by rw[bf] at h;injection h with h;injection h with _ h;subst h;exact List.suffix_refl _
 |f+1,many,ns,vs,l,x,r,h=>by
  rw[bf] at h
  cases hmo:bN l with
  |error y=>rw[hmo] at h;cases h
  |ok y=>
   obtain⟨bo,r0⟩:=y;have h0:=wR hmo;rw[hmo] at h
   cases bo
   ·injection h with h;injection h with _ h;subst h;exact h0
   ·simp only[] at h
    by_cases hb:many=most∧bL r0=D
    ·rw[C hb] at h;cases h
    ·rw[o hb] at h
     cases hn:bI r0 with
     |error y=>rw[hn] at h;cases h
     |ok y=>
      obtain⟨nm,r1⟩:=y;have h1:=DN hn;rw[hn] at h;simp only[] at h;by_cases hp:pairs=D
      ·rw[C hp] at h
       cases hu:bW r1 with
       |error y=>rw[hu] at h;cases h
       |ok r2=>
        have h2:=zU hu;rw[hu] at h;simp only[] at h
        cases hv:dQ r2 with
        |error y=>rw[hv] at h;cases h
        |ok y=>
         obtain⟨v,r3⟩:=y;have h3:=Kw hv;rw[hv] at h;exact((((tC pairs most f _ _ _ _ h).trans h3).trans h2).trans h1).trans h0
      ·rw[o hp] at h
       exact((tC pairs most f _ _ _ _ h).trans h1).trans h0
theorem Ky:∀(f k:L) (b:S) (l:Bs) {x:S} {r:Bs},fP f k b l= .ok (x,r)→r<:+l
 |0,k,b,l,x,r,h=>by rw[fP] at h;injection h with h;injection h with _ h;subst h;exact List.suffix_refl _
 |f+1,k,b,l,x,r,h=>by
  rw[fP] at h
  cases hmo:bN l with
  |error y=>rw[hmo] at h;cases h
  |ok y=>
   obtain⟨bo,r0⟩:=y;have h0:=wR hmo;rw[hmo] at h
   cases bo
   ·injection h with h;injection h with _ h;subst h;exact h0
   ·simp only[] at h
    cases hw:bZ (iP.drop k) r0 with
    |error y=>rw[hw] at h;cases h
    |ok y=>
     obtain⟨i,r1⟩:=y;have h1:=DR hw;rw[hw] at h;exact((Ky f _ _ _ h).trans h1).trans h0
theorem RN {l r:Bs} {b:Bool} (h:iD l= .ok (b,r)):r<:+l:=by
 unfold iD at h
 cases hmo:bN l with
 |error y=>rw[hmo] at h;cases h
 |ok y=>
  obtain⟨bo,r0⟩:=y;have h0:=wR hmo;rw[hmo] at h
  cases bo
  ·injection h with h;injection h with _ h;subst h;exact List.suffix_refl _
  ·simp only[] at h
   split at h
   ·injection h with h;injection h with _ h;rw[←h];exact(List.tail_suffix _).trans h0
   ·injection h with h;injection h with _ h;subst h;exact List.suffix_refl _
theorem VB {k:L} {ns:G Bs} {l r:Bs} {n:aB} (h:iy k ns l= .ok (n,r)):r<:+l:=by
 unfold iy at h;by_cases h1:k=1
 ·rw[C h1] at h
  cases hm:bW l with
  |error y=>rw[hm] at h;cases h
  |ok r0=>
   rw[hm] at h;simp only[] at h
   cases hn:bZ kD r0 with
   |error y=>rw[hn] at h;cases h
   |ok y=>obtain⟨i,r1⟩:=y;rw[hn] at h;injection h with h;injection h with _ h;subst h;exact(DR hn).trans (zU hm)
 rw[o h1] at h;by_cases h3:k=3
 ·rw[C h3] at h
  cases hm:bW l with
  |error y=>rw[hm] at h;cases h
  |ok r0=>
   rw[hm] at h;simp only[] at h
   cases hn:dQ r0 with
   |error y=>rw[hn] at h;cases h
   |ok y=>obtain⟨i,r1⟩:=y;rw[hn] at h;injection h with h;injection h with _ h;subst h;exact(Kw hn).trans (zU hm)
 rw[o h3] at h;by_cases h9:k=9
 ·rw[C h9] at h
  cases hm:fP 5 0 0 l with
  |error y=>rw[hm] at h;cases h
  |ok y=>obtain⟨b,r1⟩:=y;rw[hm] at h;injection h with h;injection h with _ h;subst h;exact Ky _ _ _ _ hm
 rw[o h9] at h;by_cases h8:k=8
 ·rw[C h8] at h
  cases hm:iD l with
  |error y=>rw[hm] at h;cases h
  |ok y=>
   obtain⟨f,r0⟩:=y;rw[hm] at h;simp only[] at h
   cases ho:bf F 300 301 0 ns [] r0 with
   |error y=>rw[ho] at h;cases h
   |ok y=>
    obtain⟨⟨a,b⟩,r1⟩:=y;rw[ho] at h;injection h with h;injection h with _ h;subst h;exact(tC _ _ _ _ _ _ _ ho).trans (RN hm)
 rw[o h8] at h;by_cases h4:k=4
 ·rw[C h4] at h
  cases ho:bf D 40 41 0 ns [] l with
  |error y=>rw[ho] at h;cases h
  |ok y=>obtain⟨⟨a,b⟩,r1⟩:=y;rw[ho] at h;injection h with h;injection h with _ h;subst h;exact tC _ _ _ _ _ _ _ ho
 rw[o h4] at h;by_cases h7:k=7
 ·rw[C h7] at h
  cases ho:bf F 300 301 0 ns [] l with
  |error y=>rw[ho] at h;cases h
  |ok y=>obtain⟨⟨a,b⟩,r1⟩:=y;rw[ho] at h;injection h with h;injection h with _ h;subst h;exact tC _ _ _ _ _ _ _ ho
 rw[o h7] at h;injection h with h;injection h with _ h;subst h;exact List.suffix_refl _
theorem VD {l r:Bs} {n:aB} (h:fQ l= .ok (n,r)):r<:+l:=by
 have hs:aY l<:+l:=by unfold aY;exact List.dropWhile_suffix _
 unfold fQ at h;by_cases he:bR (aY l)=D
 ·rw[C he] at h;injection h with h;injection h with _ h;subst h;exact hs
 rw[o he] at h
 cases hw:bZ jV (aY l) with
 |error y=>rw[hw] at h;cases h
 |ok y=>
  obtain⟨i,r0⟩:=y;rw[hw] at h;simp only[] at h
  cases hn:gD (bA (i+1)).toNat [] r0 with
  |error y=>rw[hn] at h;cases h
  |ok y=>
   obtain⟨ns,r1⟩:=y;rw[hn] at h;simp only[] at h
   cases ht:iy (i+1) ns r1 with
   |error y=>rw[ht] at h;cases h
   |ok y=>
    obtain⟨s,r2⟩:=y;rw[ht] at h;simp only[] at h
    cases hm:bN r2 with
    |error y=>rw[hm] at h;cases h
    |ok y=>
     obtain⟨b,r3⟩:=y;rw[hm] at h
     cases b
     ·injection h with h;injection h with _ h;subst h
      exact((((wR hm).trans (VB ht)).trans (GK _ _ _ hn)).trans (DR hw)).trans hs
     ·cases h
theorem UL {l r:Bs} {n:aB} (h:mq l= .ok (n,r)):(n=⟨0,[],0,[],F,0⟩∨dh n)∧(r=[]∨(10::r)<:+l):=by
 unfold mq at h
 cases hr:fQ l with
 |error y=>rw[hr] at h;cases h
 |ok y=>
  obtain⟨s,r0⟩:=y;have h0:=VD hr;have h1:=(VA hr).imp_right And.left;have h2:iA r0<:+r0:=by unfold iA;split;exact List.drop_suffix _ _;exact List.suffix_refl _
  rw[hr] at h;simp only[] at h;by_cases hn:(iA r0).head?=none
  ·rw[C hn] at h;injection h with h;injection h with h h';subst h;exact⟨h1,.inl h'.symm⟩
  ·rw[o hn] at h
   by_cases h10:(iA r0).head?=some 10
   ·rw[C h10] at h;injection h with h;injection h with h h';subst h
    refine⟨h1,.inr ?_⟩;have:10::r=iA r0:=by
     cases hq:iA r0 with
     |nil=>rw[hq] at h10;cases h10
     |cons c t=>rw[hq] at h10 h';rw[List.tail_cons] at h';rw[W] at h10;rw[←Option.some.inj h10,h']
    rw[this];exact h2.trans h0
   ·rw[o h10] at h;cases h
theorem Pb (n b0 b1 b2 b3:L) (hok:P n b0 b1 b2 b3≠(65533,1)):(b0<128∧P n b0 b1 b2 b3=(b0,1))∨
  (128≤b0∧(1<(P n b0 b1 b2 b3).2→128≤b1)∧(2<(P n b0 b1 b2 b3).2→128≤b2)∧(3<(P n b0 b1 b2 b3).2→128≤b3)∧(P n b0 b1 b2 b3).2≤4):=by
 unfold P at hok ⊢;by_cases a:b0<128
 ·rw[C a];exact .inl ⟨a,rfl⟩
 rw[o a] at hok ⊢
 right
 refine⟨by omega,?_⟩;by_cases hA:b0 / 32=6∧(1<n∧b1 / 64=2)
 ·rw[C hA] at hok ⊢
  split at hok
  ·rename_i hv;rw[C hv];exact⟨fun _=>by omega,fun h=>by omega,fun h=>by omega,by omega⟩
  ·exact absurd rfl hok
 rw[o hA] at hok ⊢;by_cases hB:b0 / 16=14∧(1<n∧b1 / 64=2)∧(2<n∧b2 / 64=2)
 ·rw[C hB] at hok ⊢
  split at hok
  ·rename_i hv;rw[C hv];exact⟨fun _=>by omega,fun h=>by omega,fun h=>by omega,by omega⟩
  ·exact absurd rfl hok
 rw[o hB] at hok ⊢;by_cases hC:b0 / 8=30∧(1<n∧b1 / 64=2)∧(2<n∧b2 / 64=2)∧(3<n∧b3 / 64=2)
 ·rw[C hC] at hok ⊢
  split at hok
  ·rename_i hv;rw[C hv];exact⟨fun _=>by omega,fun h=>by omega,fun h=>by omega,by omega⟩
  ·exact absurd rfl hok
 rw[o hC] at hok;exact absurd rfl hok
theorem get_at (l:Bs) (i:L) (h:i<l.length):ByteArray.get! ⟨l.toArray⟩ i=l[i]:=by
 simp only[ByteArray.get!];rw[getElem!_pos l.toArray i (by simpa using h)];simp
theorem Kz (p:S→Bool) (b:UInt8) (hb:b.toNat<128) (hp:p (b.toNat:S)=F):∀(n:L) (w:Bs),w.length≤n→dO ⟨w.toArray⟩ p=w.length→∀c∈w,c≠b
 |0,w,hn,_=>by
  have:w=[]:=List.length_eq_zero_iff.1 ah;subst this;intro c hc;cases hc
 |n+1,w,hn,hw=>by
  by_cases h0:w=[]
  ·subst h0;intro c hc;cases hc
  ·have hpos:0<w.length:=Y.2 h0
   rw[dY w p h0] at hw;by_cases hc:(okB ⟨w.toArray⟩ 0 && p ((N ⟨w.toArray⟩ 0).1:S))=D
   ·rw[C hc] at hw
    rw[R] at hc;have h1:=uI w h0;have h2:=sO w h0;have ih:=Kz p b hb hp n (w.drop (N ⟨w.toArray⟩ 0).2) (by rw[M];omega) (by rw[M];omega);have hsh:=Pb _ _ _ _ _ (by have:=Kj hc.1;rw[Lib.decode_at] at this;exact this);rw[←Lib.decode_at] at hsh;intro c hcm;rw[←T (N ⟨w.toArray⟩ 0).2 w] at hcm;rcases O.1 hcm with hcm|hcm
    ·obtain⟨i,hi,hci⟩:=List.getElem_of_mem hcm
     rw[List.length_take] at hi;have hiw:i<w.length:=by omega
     rw[List.getElem_take] at hci;have hg:=get_at w i hiw;rw[hci] at hg;rcases hsh with⟨hlo,he⟩|⟨hhi,k1,k2,k3,k4⟩
     ·rw[he] at hi hc
      have hi0:i=0:=by have:min 1 w.length≤1:=Nat.min_le_left _ _;omega
      subst hi0;rw[hg] at hc;intro e;rw[e] at hc;have:=hc.2;simp only[] at this;rw[hp] at this;cases this
     ·have hge:128≤(ByteArray.get! ⟨w.toArray⟩ i).toNat:=by
       have:i=0∨i=1∨i=2∨i=3:=by omega
       rcases this with rfl|rfl|rfl|rfl
       ·exact hhi
       ·exact k1 ah
       ·exact k2 ah
       ·exact k3 ah
      rw[hg] at hge;intro e;rw[e] at hge;omega
    ·exact ih c hcm
   ·rw[o hc] at hw;omega
theorem xX {w:Bs} (h:aU ⟨w.toArray⟩=D):∀c∈w,c≠10:=Kz fV 10 aj aj w.length w (Nat.le_refl _) (sP h).2.2.1
theorem RO (n:L) (h:0<n):∀c∈fZ n,c≠10:=fun c hc e=>by
 have:=(FN c).1 (List.all_eq_true.1 (EQ n h).2.1 c hc);rw[e] at this;exact absurd this.1 aj
theorem GL {v:To} (h:gZ v):∀c∈dm v,c≠10:=fun c hc=>by
 unfold dm at hc;rcases h with rfl|⟨hw,h0,h9⟩
 ·rw[C rfl] at hc;rw[Q.1 hc];decide
 ·rw[o ah] at hc
  rcases O.1 hc with hc|hc
  ·exact xX hw c hc
  ·rcases List.mem_cons.1 hc with rfl|hc
   ·decide
   ·exact RO _ ah c hc
theorem RQ (k:L):∀c∈aO k,c≠10:=by
 match k with
 |0=>decide
 |1=>decide
 |2=>decide
 |3=>decide
 |4=>decide
 |5=>decide
 |6=>decide
 |7=>decide
 |8=>decide
 |k+9=>exact(by decide:∀c∈aO 9,c≠10)
theorem Pd (k:L):∀c∈fJ k,c≠10:=by
 match k with
 |0=>decide
 |1=>decide
 |2=>decide
 |3=>decide
 |k+4=>exact(by decide:∀c∈fJ 4,c≠10)
theorem Pe (k:L):∀c∈gB k,c≠10:=by
 match k with
 |0=>decide
 |1=>decide
 |2=>decide
 |k+3=>exact(by decide:∀c∈gB 3,c≠10)
theorem CU (b:S):∀j,∀x∈jA b j,∀c∈x,c≠10
 |0,x,hx=>by cases hx
 |j+1,x,hx=>by
  rw[jA] at hx;rcases O.1 hx with hx|hx
  ·exact CU b j x hx
  ·split at hx
   ·rw[Q.1 hx];exact Pe j
   ·cases hx
theorem Pf {s:aB} (hs:dh s):∀x∈gT s,∀c∈x,c≠10:=by
 intro x hx;unfold gT at hx;simp only[] at hx;rcases O.1 hx with hx|hx
 ·rcases List.mem_cons.1 hx with rfl|hx
  ·exact RQ _
  ·exact xX (hs.1 x (List.mem_of_mem_take hx))
 ·rcases O.1 hx with hx|hx
  ·split at hx
   ·rw[Q.1 hx];exact Pd _
   ·split at hx
    ·obtain⟨v,hv,rfl⟩:=List.mem_map.1 hx
     exact GL (hs.2.1 v (List.mem_of_mem_take hv))
    ·split at hx
     ·exact CU _ _ x hx
     ·split at hx
      ·rw[Q.1 hx];decide
      ·cases hx
  ·split at hx
   ·obtain⟨p,hp,hx⟩:=List.mem_flatMap.1 hx
    have hz:=List.of_mem_zip hp;simp only[List.mem_cons,List.not_mem_nil,or_false] at hx;rcases hx with rfl|rfl
    ·exact xX (hs.1 _ (List.mem_of_mem_drop hz.1))
    ·exact GL (hs.2.1 _ hz.2)
   ·exact xX (hs.1 x (List.mem_of_mem_drop hx))
theorem GN:∀(ws:G Bs),(∀x∈ws,∀c∈x,c≠10)→∀c∈Lib.joinTail [32] ws,c≠10
 |[],_,c,hc=>by simp[Lib.joinTail] at hc
 |x::ws,h,c,hc=>by
  have e:Lib.joinTail [32] (x::ws)=[32]++(x++Lib.joinTail [32] ws):=by simp[Lib.joinTail]
  rw[e] at hc;rcases O.1 hc with hc|hc
  ·rw[Q.1 hc];decide
  ·rcases O.1 hc with hc|hc
   ·exact h x E c hc
   ·exact GN ws (fun y hy=>h y (H _ hy)) c hc
theorem Q0 {s:aB} (hs:dh s):∃u:Bs,qc s=u++[10]∧∀c∈u,c≠10:=by
 refine⟨Lib.join (gT s) [32],rfl,?_⟩;have h:=Pf hs;rw[zH s] at h ⊢;rw[Lib.join_cons];intro c hc;rcases O.1 hc with hc|hc
 ·exact h _ E c hc
 ·exact GN _ (fun x hx=>h x (H _ hx)) c hc
end Yd
