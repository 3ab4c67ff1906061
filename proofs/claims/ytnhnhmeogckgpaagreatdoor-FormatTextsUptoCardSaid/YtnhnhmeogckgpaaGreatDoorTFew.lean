import Derived.Test.YtnhnhmeogckgpaaGreatDoorTLs1
import Derived.Test.YtnhnhmeogckgpaaGreatDoorTSaC
set_option linter.all false
set_option maxRecDepth 200000
set_option maxHeartbeats 8000000
namespace Yd
open List renaming take_of_length_le→G,getElem?_append_right→L,getElem?_append_left→M,length_take→P,take_take→U
open Option renaming some→E,none→F
open Go Go.RowKit Go.Proofs
open Go renaming World→D,Value→O
open Go.IntKind renaming i64→u
open Go.Obj renaming cells→H
open Go.Value renaming slice→d,int→f,bool→Q
open Same renaming of_below→I,refl'→R
open Yd renaming hid→z
open _root_ renaming List→y,Nat→C,trivial→J,Option→S
theorem vX {A:C→Prop} {X Y:D} {row:S C} (hg:X.grownBy Y row) (h:∀g,row=E g→¬A g):Same A X Y:=
 ⟨hg.os,hg.tape,hg.output,hg.size,fun i hi hl=>hg.block i hl (fun e=>h i e.symm hi)⟩
theorem own_ne {α β:Type} {enc:α→y O} {enc':β→y O} {k k':C} {X:D} {B B':C} {T T':TypeId} {v v':O} {xs:y α} {ys:y β} (h:Own X B T k enc v xs) (h':Own X B' T' k' enc' v' ys) (hT:T≠T') {g:C} (e:v.ownBlock=E g):v'.ownBlock≠E g:=fun e'=>by
 obtain⟨_,_,e1⟩:=h.tag e;obtain⟨_,_,e2⟩:=h'.tag e';rw[e1] at e2
 cases e2
 exact hT rfl
theorem fq.wW {X Y:D} {B:C} {l:aV} {s:aB} {row:S C} (h:fq X B l s) (hg:X.grownBy Y row) (hr:∀g,row=E g→∃cs T fz,X.heap[g]?=E (H cs T fz)∧9≠T∧76≠T):fq Y B l s:=by
 refine⟨h.1,h.2.1.grown hg (fun g hv e=>?_),h.2.2.grown hg (fun g hv e=>?_)⟩
 ·obtain⟨cs,T,fz,e1,e2,_⟩:=hr g e
  obtain⟨_,_,e3⟩:=h.2.1.tag hv;rw[e1] at e3;cases e3;exact e2 rfl
 ·obtain⟨cs,T,fz,e1,_,e2⟩:=hr g e
  obtain⟨_,_,e3⟩:=h.2.2.tag hv;rw[e1] at e3;cases e3;exact e2 rfl
theorem oz.wW {X Y:D} {B:C} {aS:y aV} {ls:y aB} {row:S C} (h:oz X B aS ls) (hg:X.grownBy Y row) (hr:∀g,row=E g→∃cs T fz,X.heap[g]?=E (H cs T fz)∧9≠T∧76≠T):oz Y B aS ls:=
 ⟨h.1,fun i l hl=>let⟨s,h1,h2⟩:=h.2 i l hl;⟨s,h1,h2.wW hg hr⟩⟩
theorem oz.same {w w':D} {B:C} {aS:y aV} {ls:y aB} (h:oz w B aS ls) {A:C→Prop} (hs:Same A w w') (hA:∀i,B≤i→A i):oz w' B aS ls:=
 ⟨h.1,fun i l hl=>let⟨s,h1,h2⟩:=h.2 i l hl;⟨s,h1,h2.1,h2.2.1.same hs (fun g hg=>hA g (h2.2.1.lt g hg).1),h2.2.2.same hs (fun g hg=>hA g (h2.2.2.lt g hg).1)⟩⟩
theorem oz.snoc {w:D} {B:C} {aS:y aV} {ls:y aB} (h:oz w B aS ls) {l:aV} {s:aB} (hl:fq w B l s):oz w B (aS++[l]) (ls++[s]):=by
 have e:=h.1;refine⟨by simp[h.1],fun i q hq=>?_⟩;rcases Nat.lt_or_ge i aS.length with hi|hi
 ·rw[M hi] at hq
  obtain⟨t,h1,h2⟩:=h.2 i q hq;exact⟨t,by rw[M ah];exact h1,h2⟩
 ·rw[L hi] at hq
  have h0:i - aS.length=0:=by
   rcases Nat.eq_zero_or_pos (i - aS.length) with h0|h0
   ·exact h0
   ·rw[List.getElem?_eq_none (by simp;omega)] at hq;cases hq
  rw[h0] at hq;injection hq with hq;subst hq;exact⟨s,by rw[L ah,show i - ls.length=0 by omega];rfl,hl⟩
theorem fq.same {w w':D} {B:C} {l:aV} {s:aB} (h:fq w B l s) {A:C→Prop} (hs:Same A w w') (hA:∀i,B≤i→A i):fq w' B l s:=
 ⟨h.1,h.2.1.same hs (fun g hg=>hA g (h.2.1.lt g hg).1),h.2.2.same hs (fun g hg=>hA g (h.2.2.lt g hg).1)⟩
structure nD (K N:C) (X:D) (v4 v5 vL:O) (aS:y aV) (ls:y aB) (vP:O) (ps:y Int):Prop where
 x4:Bx X K #[v4]
 x5:Bx X (K+1) #[v5]
 oL:Own X N 34 6 mU vL aS
 aL:oz X N aS ls
 oP:Own X N 3 1 aQ vP ps
section
variable {K N:C} {X Y:D} {v4 v5 vL vP v':O} {aS:y aV} {ls:y aB} {ps:y Int}
theorem nD.same (h:nD K N X v4 v5 vL aS ls vP ps) {A:C→Prop} (s:Same A X Y) (h4:A K) (h5:A (K+1)) (hN:∀i,N≤i→A i):nD K N Y v4 v5 vL aS ls vP ps:=
 ⟨s.bx h.x4 h4,s.bx h.x5 h5,h.oL.same s (fun g hg=>hN g (h.oL.lt g hg).1),h.aL.same s hN,h.oP.same s (fun g hg=>hN g (h.oP.lt g hg).1)⟩
theorem nD.below (h:nD K N X v4 v5 vL aS ls vP ps) (hb:Below X.heap.size X Y):nD K N Y v4 v5 vL aS ls vP ps:=h.same (A:=fun _=>True) (I hb (fun i _ hl=>hl)) J J (fun _ _=>J)
theorem nD.adn (h:nD K N X v4 v5 vL aS ls vP ps):∀g,vL.ownBlock=E g→∃cs T fz,X.heap[g]?=E (H cs T fz)∧9≠T∧76≠T:=fun g hg=>(let⟨cs,fz,e⟩:=h.oL.tag hg;⟨cs,_,fz,e,by decide,by decide⟩)
theorem nD.aix (h:nD K N X v4 v5 vL aS ls vP ps):∀g,vP.ownBlock=E g→∃cs T fz,X.heap[g]?=E (H cs T fz)∧9≠T∧76≠T:=fun g hg=>(let⟨cs,fz,e⟩:=h.oP.tag hg;⟨cs,_,fz,e,by decide,by decide⟩)
theorem nD.afy (h:nD K N X v4 v5 vL aS ls vP ps) {l:aV} {s:aB} (hl:fq X N l s) (ho:Own Y N 34 6 mU v' (aS++[l])) (hg:X.grownBy Y vL.ownBlock) (hK:K+1<N):nD K N Y v4 v5 v' (aS++[l]) (ls++[s]) vP ps:=
 ⟨h.x4.grown hg (fun e=>by have:=(h.oL.lt _ e).1;omega),h.x5.grown hg (fun e=>by have:=(h.oL.lt _ e).1;omega),ho,(h.aL.wW hg h.adn).snoc (hl.wW hg h.adn),h.oP.grown hg (fun g hv e=>own_ne h.oP h.oL aj hv e)⟩
theorem nD.afz (h:nD K N X v4 v5 vL aS ls vP ps) {p:Int} (ho:Own Y N 3 1 aQ v' (ps++[p])) (hg:X.grownBy Y vP.ownBlock) (hK:K+1<N):nD K N Y v4 v5 vL aS ls v' (ps++[p]):=
 ⟨h.x4.grown hg (fun e=>by have:=(h.oP.lt _ e).1;omega),h.x5.grown hg (fun e=>by have:=(h.oP.lt _ e).1;omega),h.oL.grown hg (fun g hv e=>own_ne h.oL h.oP aj hv e),h.aL.wW hg h.aix,ho⟩
theorem nD.aiv (h:nD K N X v4 v5 vL aS ls vP ps) (v:O) (hK:K+1<N):nD K N (X.setCell ⟨K,0,F⟩ v) v v5 vL aS ls vP ps:=by
 have s:Same (fun i=>i≠K) X (X.setCell ⟨K,0,F⟩ v):=(R X).setTail (fun h=>h rfl);exact⟨h.x4.set1 v,s.bx h.x5 ah,h.oL.same s (fun g hg=>by have:=(h.oL.lt g hg).1;omega),h.aL.same s (fun _ hi=>by omega),h.oP.same s (fun g hg=>by have:=(h.oP.lt g hg).1;omega)⟩
theorem nD.aiw (h:nD K N X v4 v5 vL aS ls vP ps) (v:O) (hK:K+1<N):nD K N (X.setCell ⟨K+1,0,F⟩ v) v4 v vL aS ls vP ps:=by
 have s:Same (fun i=>i≠K+1) X (X.setCell ⟨K+1,0,F⟩ v):=(R X).setTail (fun h=>h rfl);exact⟨s.bx h.x4 ah,h.x5.set1 v,h.oL.same s (fun g hg=>by have:=(h.oL.lt g hg).1;omega),h.aL.same s (fun _ hi=>by omega),h.oP.same s (fun g hg=>by have:=(h.oP.lt g hg).1;omega)⟩
end
theorem yI (s:Bs):∀(n p:C),(gU s n p).length≤n
 |0,_=>Nat.le_refl _
 |n+1,p=>by
  unfold gU
  split
  ·rw[List.length_cons]
   split
   ·exact Nat.succ_le_succ (yI s n _)
   ·exact Nat.succ_le_succ (Nat.zero_le _)
  ·exact Nat.zero_le _
theorem Row.ln1 (X:D) (l:aV):Row (X.alloc (H #[f u l.kind,d l.na l.nn l.nc,f u l.lvl,d l.va l.vn l.vc,Q l.first,f u l.bits] 34)) 6 mU (E ⟨X.heap.size,0,F⟩) 1 1 [l]:=
 (Own.new (hc:=uT) X X.heap.size 34 (gI l) [l] (Nat.le_refl _) rfl (by simp[maxLen])).row ak
def kF (s:Bs):Except (Int × Int) (y (aB × Int)):=if 131072<s.length then .error (0,3) else nX s (s.length+1) 0
def Yj (s:Bs) (w:D) (e:Ending) (X:D):Prop:=
 Below w.heap.size w X∧
 match kF s with
 | .ok r=>∃a c aS pa pc,e= .returned (.tuple #[d a aS.length c,d pa r.length pc,f u (s.length:Int),f u 0])∧Own X w.heap.size 34 6 mU (d a aS.length c) aS∧oz X w.heap.size aS (r.map Prod.fst)∧Own X w.heap.size 3 1 aQ (d pa r.length pc) (r.map Prod.snd)
 | .error (n,m)=>e= .returned (.tuple #[d F 0 0,d F 0 0,f u n,f u m])
@[reducible] def VT (s:aB):aB:={s with names:=s.names.take 320,aA:=s.aA.take 50}
def rC (ls:y aB):y aB:=(ls.take 80).map VT
theorem VU {ls:y aB} {k:C} {s:aB} (h:ls[k]?=E s) (hk:k<80):rC (ls.take (k+1))=rC (ls.take k)++[VT s]:=by
 unfold rC;have e:ls.take (k+1)=ls.take k++[s]:=by rw[List.take_add_one,h];rfl
 rw[e,G (by simp;omega),G (l:=ls.take k) (by simp;omega),List.map_append]
 rfl
theorem VW {ls:y aB} {k:C} (hk:80≤k):rC (ls.take (k+1))=rC (ls.take k):=by
 unfold rC;rw[U,U,Nat.min_eq_left ah,Nat.min_eq_left hk]
theorem Nu (ls:y aB):(rC ls).length≤80:=by unfold rC;rw[List.length_map,P];omega
structure su (X:D) (N:C) (v:O) (aS:y aV) (ls:y aB):Prop where
 o:Own X N 34 6 mU v aS
 a:oz X N aS ls
section
variable {X Y:D} {N:C} {v v':O} {aS:y aV} {ls:y aB}
theorem su.same (h:su X N v aS ls) {A:C→Prop} (s:Same A X Y) (hN:∀i,N≤i→A i):su Y N v aS ls:=⟨h.o.same s (fun g hg=>hN g (h.o.lt g hg).1),h.a.same s hN⟩
theorem su.below (h:su X N v aS ls) (hb:Below X.heap.size X Y):su Y N v aS ls:=h.same (A:=fun _=>True) (I hb (fun i _ hl=>hl)) (fun _ _=>J)
theorem su.afA (h:su X N v aS ls) (s:Same (fun i=>i<X.heap.size) X Y):su Y N v aS ls:=
 ⟨h.o.same s (fun g hg=>(h.o.lt g hg).2),h.a.1,fun i l hl=>let⟨q,h1,h2⟩:=h.a.2 i l hl;⟨q,h1,h2.1,h2.2.1.same s (fun g hg=>(h2.2.1.lt g hg).2),h2.2.2.same s (fun g hg=>(h2.2.2.lt g hg).2)⟩⟩
theorem su.tag (h:su X N v aS ls):∀g,v.ownBlock=E g→∃cs T fz,X.heap[g]?=E (H cs T fz)∧9≠T∧76≠T:=fun g hg=>(let⟨cs,fz,e⟩:=h.o.tag hg;⟨cs,_,fz,e,by decide,by decide⟩)
theorem su.grow (h:su X N v aS ls) {l:aV} {s:aB} (hl:fq X N l s) (ho:Own Y N 34 6 mU v' (aS++[l])) (hg:X.grownBy Y v.ownBlock):su Y N v' (aS++[l]) (ls++[s]):=⟨ho,(h.a.wW hg h.tag).snoc (hl.wW hg h.tag)⟩
theorem su.nil (X:D) (N:C):su X N (d F 0 0) [] []:=⟨Own.iE _ _ _ _ _,rfl,fun i l h=>(by cases h)⟩
end
def ado (w:D) (ls:y aB) (e:Ending) (X:D):Prop:=∃a c aS,e= .returned (d a aS.length c)∧su X w.heap.size (d a aS.length c) aS ls∧Below w.heap.size w X
theorem ZC (a:S Addr) (c:C) (aS:y aV) (ls:y aB) (w:D) (hr:Row w 6 mU a aS.length c aS) (hl:aS.length=ls.length) (hin:∀(i:C) (l:aV),aS[i]?=E l→∃s,ls[i]?=E s∧yF w l s):
  Calls Tryz.prog 20 #[d a aS.length c] w (ado w (rC ls)):=by
 have HR:=z hr;have HI:=z hin;have HLEN:=z hl;have hnn:=hr.le;obtain⟨ii,zi,hi,hz,hsize,bP,hzs⟩:=MG;have BG:=z (⟨hi,hz,hsize,bP,hzs⟩:_∧_∧_∧_∧_);clear hr hin hl hi hz hsize bP hzs;go_enter Tryz.func20,Tryz.ntmps20;go_wp2_with fail
 go_loopw [3,8] (fun v i X=>∃(k:C) (a0:S Addr) (c0:C) (out:y aV),k≤aS.length∧v= d a0 out.length c0∧i= f u k∧su X w.heap.size (d a0 out.length c0) out (rC (ls.take k))∧out.length≤80∧Below w.heap.size w X) (fun _ i _=>aS.length - (RowKit.intOf i).toNat)
 case atStart=>exact⟨0,F,0,[],Nat.zero_le _,rfl,rfl,su.nil _ _,Nat.zero_le _,Below.refl _ _⟩
 case round=>
  obtain⟨k,a0,c0,out,hk,rfl,rfl,hrow,hol,hb⟩:=hrel;by_cases hlt:k<aS.length
  ·obtain⟨x,b,o,hx,rfl,hc⟩:=HR.q.at_ hlt
   obtain⟨s,hs,hat⟩:=HI.q k x hx;have h0:=aM hb rfl (hc 0 _ rfl);have h1:=aM hb rfl (hc 1 _ rfl);have h2:=aM hb rfl (hc 2 _ rfl);have h3:=aM hb rfl (hc 3 _ rfl);have h4:=aM hb rfl (hc 4 _ rfl);have h5:=aM hb rfl (hc 5 _ rfl);simp only[Nat.add_zero] at h0;obtain⟨lk,na,nn,nc,lvl,va,vn,vc,lf,bits⟩:=x;obtain⟨sk,xs,sl,vs,sf,sb⟩:=s;obtain⟨⟨q1,q2,q3,q4⟩,hn,hv⟩:=hat;simp only at q1 q2 q3 q4 hn hv h0 h1 h2 h3 h4 h5;subst q1 q2 q3 q4;by_cases aiy:k<80
   ·have hstep:=VU hs aiy
    have hln:=hn.len;have hlv:=hv.len;have hcn:=hn.2.1;have hcv:=hv.2.1;have hmn:min (nn:Int) 320=((min nn 320:C):Int):=by omega
    have hmv:min (vn:Int) 50=((min vn 50:C):Int):=by omega
    have e1:(xs.take 320).length=min nn 320:=by rw[P];omega
    have e2:(vs.take 50).length=min vn 50:=by rw[P];omega
    obtain⟨m,hm⟩:∃m,m=min nn 320:=⟨_,rfl⟩;obtain⟨j,hj⟩:∃j,j=min vn 50:=⟨_,rfl⟩;rw[←hm] at hmn e1;rw[←hj] at hmv e2;have alq:m≤nc:=by omega
    have hjle:j≤vc:=by omega
    have GU:=z (fun W (hb:Below w.heap.size w W)=>tY na nc (xs.take 320) W ((hn.M9 320).below hb rfl) ah);have Cy:=z (fun W (hb:Below w.heap.size w W)=>ZE va vc (vs.take 50) W ((hv.M9 50).below hb rfl) ah);rw[e1] at GU;rw[e2] at Cy;have HB1:=z (av hb (H #[f u lk,d na nn nc,f u lvl,d va vn vc,Q lf,f u bits] 34));have cK:=z (Bx.new wr #[f u lk,d na nn nc,f u lvl,d va vn vc,Q lf,f u bits] 34);have HR1:=z hrow;have gy:Hid (Same (fun i=>i<wr.heap.size) wr (wr.alloc (H #[f u lk,d na nn nc,f u lvl,d va vn vc,Q lf,f u bits] 34)).drew):=z (I (av (Below.refl wr.heap.size wr) _).drew (fun i h _=>h));have HE:=z (⟨e1,e2⟩:_∧_);have Oi:=z hstep;have HOL:=z hol;have Ai:=z (⟨cK.q.1 1,cK.q.1 3⟩:_∧_);have bK:Hid (w.heap.size≤wr.heap.size):=z hb.size;clear hc hx hs hn hv hln hlv hcn hcv hm hj e1 e2 hrow hstep;go_wp2_with fail;refine aK 17 [(0,0),(1,0),(2,0),(3,0),(4,1),(5,1),(6,1),(8,0),(9,0),(10,0),(11,0),(12,1),(13,1),(14,1),(7,2),(16,1),(15,2),(17,2),(18,1),(19,2)] (fun _=>True) (fun W'=>W'.cell? ⟨wr.heap.size,1,F⟩=E (d na nn nc)∧W'.cell? ⟨wr.heap.size,3,F⟩=E (d va vn vc)) au au (trivial) (Ai.q) ?_;refine qC ?_;refine aF rfl rfl (fun K hK=>?_);go_simp;refine(GU.q _ HB1.q.drew).mono ?_;rintro e w1 ⟨a1,c1,rfl,ho1,hb1⟩;rw[HE.q.1] at ho1 ⊢;go_simp;refine hK _ _ ⟨J,aM hb1 rfl Ai.q.1,aM hb1 rfl Ai.q.2⟩ ?_;have HB2:=z (HB1.q.drew.trans (hb1.mono HB1.q.size));have cO:=z (cK.q.drew.keep hb1);have tT:=z ho1;have HS2:=z (gy.q.tr (I hb1 (fun i _ h=>h)));clear hK K hb1 ho1;refine qC ?_;refine aF rfl rfl (fun K hK=>?_);go_simp;refine(Cy.q _ HB2.q).mono ?_;rintro e w2 ⟨a2,c2,rfl,ho2,hb2⟩;rw[HE.q.2] at ho2 ⊢;go_simp;refine hK _ _ ⟨J,aM hb2 rfl (cO.q.1 1),aM hb2 rfl (cO.q.1 3)⟩ ?_;have HB3:=z (HB2.q.bq hb2);have gL:=z (cO.q.keep hb2);have fH:=z (tT.q.below hb2 rfl);have Nn:=z ho2;have iU:=z (HS2.q.tr (I hb2 (fun i _ h=>h)));have HZ3:Hid (wr.heap.size<w1.heap.size):=z cO.q.2.2;clear hK K hb2 ho2;refine dN rfl rfl rfl (fun K hK=>?_);go_simp;have hcx:=gL.q.1;have hfx:=gL.q.2.1;have hlx:=gL.q.2.2;go_simp;refine hK _ _ J ?_;clear hK K hcx hfx hlx;have mY:Hid (Bx (w2.setCell ⟨wr.heap.size,1,F⟩ (d a1 m c1)) wr.heap.size #[f u lk,d a1 m c1,f u lvl,d va vn vc,Q lf,f u bits]):=z (gL.q.aR 1 ak _);refine qC ?_;refine dN rfl rfl rfl (fun K hK=>?_);go_simp;have hcx:=gL.q.1;have hfx:=gL.q.2.1;have hlx:=gL.q.2.2;go_simp;refine hK _ _ J ?_;clear hK K hcx hfx hlx;have oU:Hid (Bx ((w2.setCell ⟨wr.heap.size,1,F⟩ (d a1 m c1)).setCell ⟨wr.heap.size,3,F⟩ (d a2 j c2)) wr.heap.size #[f u lk,d a1 m c1,f u lvl,d a2 j c2,Q lf,f u bits]):=z (mY.q.aR 3 ak _);refine bB ?_;have hs:Same (fun i=>i≠wr.heap.size) w2 ((w2.setCell ⟨wr.heap.size,1,F⟩ (d a1 m c1)).setCell ⟨wr.heap.size,3,F⟩ (d a2 j c2)):=((R w2).setTail (fun h=>h rfl)).setTail (fun h=>h rfl);revert oU hs;generalize(w2.setCell ⟨wr.heap.size,1,F⟩ (d a1 m c1)).setCell ⟨wr.heap.size,3,F⟩ (d a2 j c2)=Z;intro oU hs;have ji:=z (hs.below HB3.q (fun i hi=>by have:=HB1.q.size;have:=gL.q.2.2;have:=bK.q;omega) HB3.q.size);have Qy:=z (HR1.q.afA (iU.q.tr (hs.mono (fun i hi _=>by omega))));have Ak:Hid (fq Z w.heap.size ⟨lk,a1,m,c1,lvl,a2,j,c2,lf,bits⟩ (VT ⟨lk,xs,lvl,vs,lf,bits⟩)):=z ⟨⟨rfl,rfl,rfl,rfl,HE.q.1.symm,HE.q.2.symm⟩,(fH.q.same hs (fun g hg=>by have:=(fH.q.lt g hg).1;simp at this;omega)).mono HB1.q.drew.size,(Nn.q.same hs (fun g hg=>by have:=(Nn.q.lt g hg).1;have:=HZ3.q;omega)).mono HB2.q.size⟩;clear hs iU fH Nn;have hx5:=oU.q.1
    go_wp2_with (at_builtin;refine dV rfl _ _ 25 rfl ii zi 80 Tryz.underlying25 BG.q.1 BG.q.2.1 BG.q.2.2.1 BG.q.2.2.2.1 BG.q.2.2.2.2 rfl (Qy.q.o.alloc _) (E ⟨Z.heap.size,0,F⟩) 1 1 (out.length+1) [⟨lk,a1,m,c1,lvl,a2,j,c2,lf,bits⟩] rfl (Row.ln1 Z _) rfl (by have:=HOL.q;omega) (by have:=HOL.q;unfold maxLen;omega) (by have:=ji.q.size;simp;omega) ?_;intro a' c' w5 hown hg hat)
    have je:=av (Below.refl Z.heap.size Z) (H #[f u lk,d a1 m c1,f u lvl,d a2 j c2,Q lf,f u bits] 34);have e1:(out++[(⟨lk,a1,m,c1,lvl,a2,j,c2,lf,bits⟩:aV)]).length=out.length+1:=by simp
    have Mf:Hid (su w5 w.heap.size (d a' (out.length+1) c') (out++[⟨lk,a1,m,c1,lvl,a2,j,c2,lf,bits⟩]) (rC (ls.take (k+1)))):=z (by
     rw[Oi.q];exact(Qy.q.below je).grow (Ak.q.below je) hown hg)
    have gY:Hid (Below w.heap.size w w5):=z ((vX (A:=fun i=>i<w.heap.size) hg (fun g e h=>by have:=(Qy.q.o.lt g e).1;omega)).below (av ji.q _) (fun i hi=>hi) (av ji.q _).size);have xI:=z e1;clear hown hg hat je e1 hx5;go_roundw
    case rel=>exact⟨k+1,a',c',_,by omega,by rw[xI.q],by go_num,by rw[xI.q];exact Mf.q,by rw[Mf.q.a.1];exact Nu _,gY.q⟩
    case measure=>simp[RowKit.intOf];omega
   ·have hstep:=VW (ls:=ls) (k:=k) ah
    have HRK:=z (hrow.below (av (Below.refl _ _) (H #[f u lk,d na nn nc,f u lvl,d va vn vc,Q lf,f u bits] 34)));have Nv:=z (av hb (H #[f u lk,d na nn nc,f u lvl,d va vn vc,Q lf,f u bits] 34));have HOL:=z hol;have HST:=z hstep;clear hc hx hs hn hv hrow hb hol hstep;go_wp2_with fail;go_roundw
    case rel=>exact⟨k+1,a0,c0,out,by omega,rfl,by go_num,by rw[HST.q];exact HRK.q,HOL.q,Nv.q⟩
    case measure=>simp[RowKit.intOf];omega
  ·have hkk:k=aS.length:=by omega
   have e:rC (ls.take k)=rC ls:=by rw[G (by have:=HLEN.q;omega)]
   rw[e] at hrow;have HRK:=z hrow;have Nv:=z hb;clear hrow hb e hkk;go_wp2_with fail;go_ret;exact⟨a0,c0,out,rfl,HRK.q,Nv.q⟩
end Yd
