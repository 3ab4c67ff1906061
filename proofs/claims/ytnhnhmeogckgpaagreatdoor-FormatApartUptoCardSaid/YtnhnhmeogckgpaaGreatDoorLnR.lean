import Derived.Test.YtnhnhmeogckgpaaGreatDoorRdG
import Derived.Test.YtnhnhmeogckgpaaGreatDoorLnC
set_option linter.all false
set_option maxRecDepth 200000
set_option maxHeartbeats 8000000
namespace Yd
open Bool renaming false→M
open List renaming replicate→O
open Nat renaming le_refl→Z
open Option renaming none→A,some→F
open Go Go.RowKit Go.Proofs Tryz
open Below renaming refl→S
open Go.IntKind renaming i64→D
open Go.Obj renaming cells→E
open Go.RowKit renaming Hid→L
open Go.Value renaming int→C,slice→G,pointer→H
open Yd renaming hid→y
open _root_ renaming if_neg→I,Int→J
theorem CP {R p:Nat} {s l:Bs} {c:bf} {n:aB} (w:World) (h:dG w R s p l c n) (hG:rX R w) (rr:J) (most:Nat) (pairs:Bool) (hmr:iA rr=(most:J)) (yZ:(rr==115)=pairs) (hml:most≤300) (hn:n.names.length≤600) (hv:n.aF.length≤600):
  Calls Tryz.prog 225 #[H (F ⟨R,0,A⟩),.int .i32 rr] w (aX R s c w (fun _:Unit=> .tuple #[]) (match bJ pairs most (most+1) 0 n.names n.aF l with| .error x=> .error x| .ok (b,r)=> .ok ((),{n with names:=b.1,aF:=b.2},r))):=by
 obtain⟨Y,hY⟩:∃Y:Except Er (Unit × aB × Bs),Y=(match bJ pairs most (most+1) 0 n.names n.aF l with| .error x=> .error x| .ok (b,r)=> .ok ((),{n with names:=b.1,aF:=b.2},r)):=⟨_,rfl⟩;rw[←hY];obtain⟨X,hX⟩:∃X:Except Er ((List Bs × List To) × Bs),X=bJ pairs most (most+1) 0 n.names n.aF l:=⟨_,rfl⟩;rw[←hX] at hY;have o9:L (∀x,X= .error x→Y= .error x):=y (fun x hx=>by rw[hY,hx]);have wK:L (∀b r,X= .ok (b,r)→Y= .ok ((),{n with names:=b.1,aF:=b.2},r)):=y (fun b r hx=>by rw[hY,hx]);clear hY;obtain⟨i,z,hi,hz,hsize,cZ,hzs⟩:=vT;have HI:=y (⟨hi,hz,hsize,cZ,hzs⟩:_∧_∧_∧_∧_);have HX:=y hX;have HH:=y h;have HG:=y hG;have HN:=y (⟨hn,hv⟩:_∧_);have XH:=y hmr;have XQ:=y hml;clear hX h hG hn hv hi hz hsize cZ hzs hml;have ac0:=y (fun W=>Kv rr W);clear hmr;go_enter func225,ntmps225;go_wp2_with fail
 go_loopw [4] (fun i wr=>∃(W:World) (k f q:Nat) (l1:Bs) (c1:bf) (n1:aB),W=wr∧i= C D k∧k≤most∧most+1≤f+k∧dG W R s q l1 c1 n1∧Mv R c c1 w W∧rX R W∧bJ pairs most f k n1.names n1.aF l1=X∧(∀ns vs,{n1 with names:=ns,aF:=vs}={n with names:=ns,aF:=vs})∧n1.names.length≤600+k∧n1.aF.length≤600+k) (fun i _=>most - (RowKit.intOf i).toNat)
 case atStart=>exact⟨_,0,most+1,p,l,c,n,rfl,rfl,by omega,by omega,HH.q,Mv.refl _ _ _,HG.q,HX.q.symm,fun _ _=>rfl,HN.q.1,HN.q.2⟩
 case round=>
  obtain⟨W,k,f,q,l1,c1,n1,rfl,rfl,hk,hf,hc,hm,hg,hx,hq,h1,h2⟩:=hrel;obtain⟨f,rfl⟩:∃f',f=f'+1:=⟨f - 1,by omega⟩;simp only[bJ] at hx;have HC:=y hc;have HM:=y hm;have RJ:=y hg;have qQ:=y hx;have HQ:=y hq;have Bu:=y (⟨h1,h2⟩:_∧_);have HF:=y hf;have HK:=y hk;have nG:=y (oF W hc);clear hc hm hg hx hq h1 h2 hf;go_wp2_with fail;refine nG.q.mono ?_;intro e w2 he
  cases hmo:cO l1 with
  |error x=>
   rw[hmo] at he;obtain⟨rfl,hs⟩:=he;refine⟨rfl,?_⟩;show aX R s c w _ _ _ _;rw[o9.q x (by have:=qQ.q;rw[hmo] at this;exact this.symm)];exact⟨rfl,HM.q.cK hs⟩
  |ok br=>
   obtain⟨bb,r⟩:=br;rw[hmo] at he;obtain⟨rfl,q2,hc2,hm2⟩:=he;have bM:=y hc2;have iq:=y (HM.q.trans hm2);have HG2:=y (RJ.q.mv HC.q hm2.same)
   cases bb
   ·have aW:L (X= .ok ((n1.names,n1.aF),r)):=y (by have:=qQ.q;rw[hmo] at this;exact this.symm)
    clear hc2 hm2 hmo;go_wp2_with fail;refine bodyPost_end (results_none rfl _ _ _) rfl ?_;show aX R s c w _ _ _ _;rw[wK.q _ _ aW.q,←HQ.q];exact⟨rfl,q2,c1,bM.q,iq.q⟩
   ·have aW:L ((if k=most∧dJ r=true then .error (r,3) else match cu r with
     | .error x=> .error x
     | .ok (nm,r1)=>
      if pairs=true then match dQ r1 with
       | .error x=> .error x
       | .ok r2=>match fq r2 with
        | .error x=> .error x
        | .ok (v,r3)=>bJ pairs most f (k+1) (n1.names++[nm]) (n1.aF++[v]) r3
      else bJ pairs most f (k+1) (n1.names++[nm]) n1.aF r1)=X):=y (by have:=qQ.q;rw[hmo] at this;exact this)
    have Fq:L ((Value.slice c1.na c1.nn c1.nc).ownBlock≠F R):=y (hc2.n.2.1.far' (.inl ah));have hcn:=hc2.n.1.2.2.2.2.1;have eO:L (n1.names.length+1=c1.nn+1):=y ah;have dY:L ((c1.nn+1)*16≤140737488355328):=y (by have:=Bu.q;have:=XQ.q;omega);have kX:L (c1.nn+1≤maxLen):=y (by have:=Bu.q;have:=XQ.q;unfold maxLen;omega);clear hcn;by_cases hkm:k=most
    ·have hev:((k:J)==iA rr)=true:=by rw[XH.q,hkm];exact beq_self_eq_true _
     have HKM:=y hkm;clear hkm;have BX:=y (fun W (hb:Below w2.heap.size w2 W)=>GZ W (hc2.below hb) (Utf8Tabs_below HG2.q.tabs hb));clear hc2 hm2 hmo;go_wp2_with fail;refine(ac0.q w2).mono ?_;rintro e w3' ⟨rfl,ac1⟩;have VY:=y ac1;clear ac1;go_wp2_with fail;refine(BX.q w3' VY.q).mono ?_;rintro e w3 ⟨rfl,hb3⟩;have bP:=y (VY.q.trans (hb3.mono VY.q.size));clear hb3
     cases hbe:dJ r
     ·have HE:L (∀x,cu r= .error x→X= .error x):=y (fun x hx=>by rw[←aW.q,I (by rw[hbe];simp),hx])
      have ZO:L (∀mr,cu r≠ .ok mr):=y (fun mr hx=>by simp[cu,hbe] at hx);have l5:=y (bM.q.below bP.q);have qy:=y (iq.q.trans (Mv.of_below bP.q));have lF:=y (HG2.q.mv bM.q (Mv.of_below bP.q:Mv R c1 c1 w2 w3).same);have xu:=y (fun W (hb:Below w3.heap.size w3 W)=>Dc W (l5.q.below hb) (Utf8Tabs_below lF.q.tabs hb));have HB0:L (Below w3.heap.size w3 w3.drew):=y ((S _ _).drew);have RES:L (∀ch w',(∃(r':Bs) (m:J),cu r= .error (r',m)∧ch=kJ (s.length - r'.length) m∧Same (kz R c1) w3.drew w')→aX R s c w (fun _:Unit=> .tuple #[]) Y (.panicked ch) w'):=y (by
       rintro ch w' ⟨r',m,h1,rfl,h2⟩;rw[o9.q _ (HE.q _ h1)];exact⟨rfl,(qy.q.trans (Mv.of_below HB0.q)).cK h2⟩)
      go_wp2_with fail;refine bT 13 [(0,1),(1,1),(2,1),(3,1),(4,1),(5,0),(6,1),(7,2),(8,2),(9,2),(10,1),(11,1),(12,1),(13,2)] (fun _=>True) (fun W'=>W'.cell? ⟨R,3,A⟩=F (G c1.na c1.nn c1.nc)) (fun ch w'=>∃(r':Bs) (m:J),cu r= .error (r',m)∧ch=kJ (s.length - r'.length) m∧Same (kz R c1) w3.drew w') au au (fun ch a1 w1 hd hr=>⟨hd,RES.q ch w1 hr⟩) (trivial) (l5.q.drew.c3) ?_;refine qC ?_;refine aD rfl rfl (fun K hK=>?_);go_simp;refine(xu.q _ HB0.q).mono ?_;intro e w4 he
      cases hnm:cu r with
      |error x=>
       rw[hnm] at he;obtain⟨rfl,hs⟩:=he;exact⟨rfl,x.1,x.2,rfl,rfl,hs⟩
      |ok mr=>
      exact absurd hnm (ZO.q mr)
     ·have HE:L (X= .error (r,3)):=y (by rw[←aW.q,if_pos ⟨HKM.q,hbe⟩])
      have l5:=y (bM.q.below bP.q);have hc1:=l5.q.x.1 1;go_wp2_with fail;refine(fA q2 3 _).mono ?_;rintro e w4 ⟨rfl,rfl⟩;refine⟨rfl,?_⟩;show aX R s c w _ _ _ _;rw[o9.q _ HE.q];have hlen:=l5.q.len;exact⟨by rw[show s.length - r.length=q2 by omega],(iq.q.trans (Mv.of_below bP.q)).same⟩
    ·have hev:((k:J)==iA rr)=M:=by rw[XH.q];exact beq_eq_false_iff_ne.2 ah
     have HE:L (∀x,cu r= .error x→X= .error x):=y (fun x hx=>by rw[←aW.q,I (fun e=>hkm e.1),hx]);clear hc2 hm2 hmo;go_wp2_with fail;refine(ac0.q w2).mono ?_;rintro e w3 ⟨rfl,hb3⟩;have bP:=y hb3;clear hb3;have l5:=y (bM.q.below bP.q);have qy:=y (iq.q.trans (Mv.of_below bP.q));have lF:=y (HG2.q.mv bM.q (Mv.of_below bP.q:Mv R c1 c1 w2 w3).same);have xu:=y (fun W (hb:Below w3.heap.size w3 W)=>Dc W (l5.q.below hb) (Utf8Tabs_below lF.q.tabs hb));have HB0:L (Below w3.heap.size w3 w3.drew):=y ((S _ _).drew);have RES:L (∀ch w',(∃(r':Bs) (m:J),cu r= .error (r',m)∧ch=kJ (s.length - r'.length) m∧Same (kz R c1) w3.drew w')→aX R s c w (fun _:Unit=> .tuple #[]) Y (.panicked ch) w'):=y (by
      rintro ch w' ⟨r',m,h1,rfl,h2⟩;rw[o9.q _ (HE.q _ h1)];exact⟨rfl,(qy.q.trans (Mv.of_below HB0.q)).cK h2⟩)
     go_wp2_with fail;refine bT 13 [(0,1),(1,1),(2,1),(3,1),(4,1),(5,0),(6,1),(7,2),(8,2),(9,2),(10,1),(11,1),(12,1),(13,2)] (fun _=>True) (fun W'=>W'.cell? ⟨R,3,A⟩=F (G c1.na c1.nn c1.nc)) (fun ch w'=>∃(r':Bs) (m:J),cu r= .error (r',m)∧ch=kJ (s.length - r'.length) m∧Same (kz R c1) w3.drew w') au au (fun ch a1 w1 hd hr=>⟨hd,RES.q ch w1 hr⟩) (trivial) (l5.q.drew.c3) ?_;refine qC ?_;refine aD rfl rfl (fun K hK=>?_);go_simp;refine(xu.q _ HB0.q).mono ?_;intro e w4 he
     cases hnm:cu r with
     |error x=>
      rw[hnm] at he;obtain⟨rfl,hs⟩:=he;exact⟨rfl,x.1,x.2,rfl,rfl,hs⟩
     |ok mr=>
     obtain⟨m,r4⟩:=mr;rw[hnm] at he;obtain⟨rfl,p4,hc4,hm4⟩:=he;have ig:=y hc4;have vJ:=y ((qy.q.trans (Mv.of_below HB0.q)).trans hm4);have DC:=y hnm;refine hK _ _ ⟨trivial,hc4.c3⟩ ?_;have uX:L (R+1≤(w4.alloc (E #[.string ⟨m.toArray⟩] 9)).heap.size):=y (by have:=hc4.x.2.2;simp;omega);have RO:=y (lF.q.mv l5.q ((Mv.of_below HB0.q:Mv R c1 c1 w3 w3.drew).trans hm4).same);clear hK K hc4 hm4 hnm;refine aD rfl rfl (fun K hK=>?_);go_simp;refine hK _ _ ⟨trivial,(ig.q.below (av (S _ _) _)).c3⟩ ?_;clear hK K;refine aD rfl rfl (fun K hK=>?_);refine og _ _ 22 rfl i z 16 underlying22 HI.q.1 HI.q.2.1 HI.q.2.2.1 HI.q.2.2.2.1 HI.q.2.2.2.2 rfl (ig.q.n.2.1.alloc _) (F ⟨w4.heap.size,0,A⟩) 1 1 (c1.nn+1) [m] rfl (Row.str1 w4 m) eO.q dY.q kX.q uX.q ?_;intro a' c' w5 hown5 hg5 VZ;have hx5:=(ig.q.x.keep (av (S _ _) (E #[.string ⟨m.toArray⟩] 9))).grown hg5 Fq.q;have HAD:=y (ig.q.addN (av (S _ _) (E #[.string ⟨m.toArray⟩] 9)) a' c' hown5 hg5 VZ);refine hK _ _ ⟨trivial,hx5.1 3⟩ ?_;have hc3:=hx5.1 3;have hf3:=hx5.2.1 3;clear hK K hown5 hg5 VZ hx5;refine qC ?_;refine eF rfl rfl rfl (fun K hK=>?_);go_simp;refine hK _ _ trivial ?_;clear hK K;refine jy ?_;have Og:L (k+1≤most):=y (by have:=HK.q;omega);have jd:L ((if pairs=true then match dQ r4 with
       | .error x=> .error x
       | .ok r2=>match fq r2 with
        | .error x=> .error x
        | .ok (v,r3)=>bJ pairs most f (k+1) (n1.names++[m]) (n1.aF++[v]) r3
      else bJ pairs most f (k+1) (n1.names++[m]) n1.aF r4)=X):=y (by have:=aW.q;rw[I (fun e=>hkm e.1),DC.q] at this;exact this)
     have HA:=y HAD.q.1;have Cm:=y (vJ.q.trans HAD.q.2);have Np:=y (RO.q.mv ig.q HAD.q.2.same);have hwk:wrap64 ((k:J)+1)=((k+1:Nat):J):=by have:=Og.q;have:=XQ.q;unfold wrap64;omega
     cases pairs
     ·go_wp2_with fail
      go_roundw
      case rel=>exact⟨_,k+1,f,p4,r4,_,_,rfl,by first|rfl|rw[hwk]|go_num,Og.q,by have:=HF.q;omega,HA.q,Cm.q,Np.q,jd.q,fun ns vs=>HQ.q ns vs,by have:=Bu.q.1;simp;omega,by have:=Bu.q.2;show n1.aF.length≤_;omega⟩
      case measure=>have:=Og.q;(try rw[hwk]);simp[RowKit.intOf] <;> omega
     ·have HMU:=y (NE _ HA.q)
      go_wp2_with fail;refine HMU.q.mono ?_;intro e w6 he
      cases hmu:dQ r4 with
      |error x=>
       rw[hmu] at he;obtain⟨rfl,hs⟩:=he;refine⟨rfl,?_⟩;show aX R s c w _ _ _ _;rw[o9.q x (by have:=jd.q;rw[hmu] at this;exact this.symm)];exact⟨rfl,Cm.q.cK hs⟩
      |ok r6=>
       rw[hmu] at he;obtain⟨rfl,q6,hc6,hm6⟩:=he;have Af:L ((match fq r6 with
        | .error x=> .error x
        | .ok (v,r3)=>bJ true most f (k+1) (n1.names++[m]) (n1.aF++[v]) r3)=X):=y (by have:=jd.q;rw[hmu] at this;exact this)
       have qp:=y hc6;have DR:=y (Cm.q.trans hm6);have HG6:=y (Np.q.mv HA.q hm6.same);have KD:=y (Fv w6 hc6 HG6.q (by have:=Bu.q.2;have:=Og.q;have:=XQ.q;show n1.aF.length≤1000;omega));clear hc6 hm6 hmu;go_wp2_with fail;refine KD.q.mono ?_;intro e w7 he
       cases SX:fq r6 with
       |error x=>
        rw[SX] at he;obtain⟨rfl,hs⟩:=he;refine⟨rfl,?_⟩;show aX R s c w _ _ _ _;rw[o9.q x (by have:=Af.q;rw[SX] at this;exact this.symm)];exact⟨rfl,DR.q.cK hs⟩
       |ok vr=>
        obtain⟨v,r7⟩:=vr;rw[SX] at he;obtain⟨rfl,q7,c7,RF,hm7⟩:=he;have sw:L (bJ true most f (k+1) (n1.names++[m]) (n1.aF++[v]) r7=X):=y (by have:=Af.q;rw[SX] at this;exact this);have BJ:=y RF;have D9:=y (DR.q.trans hm7);have Ea:=y (HG6.q.mv qp.q hm7.same);clear RF hm7 SX;go_wp2_with fail;go_roundw
        case rel=>exact⟨_,k+1,f,q7,r7,_,_,rfl,by first|rfl|rw[hwk]|go_num,Og.q,by have:=HF.q;omega,BJ.q,D9.q,Ea.q,sw.q,fun ns vs=>HQ.q ns vs,by have:=Bu.q.1;simp;omega,by have:=Bu.q.2;simp;omega⟩
        case measure=>have:=Og.q;(try rw[hwk]);simp[RowKit.intOf] <;> omega
theorem ahD (W:World):(Instr.makeSlice 263 (C D 1) (C D 1)).run Tryz.prog W= .ok (G (F ⟨W.heap.size,0,A⟩) 1 1) (W.alloc (E #[.nilFunc] 1)):=au
theorem ahE (W:World):(Instr.makeSlice 263 (C D 2) (C D 2)).run Tryz.prog W= .ok (G (F ⟨W.heap.size,0,A⟩) 2 2) (W.alloc (E #[.nilFunc,.nilFunc] 1)):=au
theorem cp1 (W:World) (b B i n m c c':Nat) (v:Value) (hs:W.cell? ⟨b,0,A⟩=F v) (h1:v.oneCell'=true) (hc:(W.cell? ⟨B,i,A⟩).isSome=true) (hf:W.frozen? ⟨B,i,A⟩=M) (hn:1=Nat.min m n):
  (Builtin.copy_ #[263,263] 3 #[G (F ⟨B,i,A⟩) n c,G (F ⟨b,0,A⟩) m c']).run Tryz.prog W= .ok (goInt 1) (W.setCell ⟨B,i,A⟩ v):=by
 have h:=run_copy_cells (P:=Tryz.prog) W 263 263 3 1 B i n c ⟨b,0,A⟩ m c' [v] au au hn (fun j u hj=>by
  obtain rfl:j=0:=by have:=(List.getElem?_eq_some_iff.1 hj).1;simpa using this
  simpa[Addr.add] using hs.trans hj) (fun j hj=>by
    obtain rfl:j=0:=by simpa using hj
    exact hc) (fun j hj=>by
      obtain rfl:j=0:=by simpa using hj
      exact hf) (fun u hu=>by simp at hu;subst hu;exact h1)
 simp only[World.setCells] at h;exact h
theorem Zi (w:World) (b:Nat) (v:Value) (hb:b<w.heap.size) (hv:w.cell? ⟨b,0,A⟩=F v) (h1:v.oneCell'=true):
  Calls Tryz.prog 218 #[G (F ⟨b,0,A⟩) 1 1,C D 1] w (fun e w'=>e= .returned (G (F ⟨w.heap.size,0,A⟩) 1 1)∧Below w.heap.size w w'∧Bx w' w.heap.size #[v]):=by
 have hmk:=ahD;have V4:=y (fun W=>Tryz.bits_Mul 1 1 aj aj W);go_enter func218,ntmps218;go_wp2_with fail;refine(V4.q w).mono ?_;rintro e w2 ⟨rfl,rfl⟩;have gL:=Bx.new w2 #[.nilFunc] 1;have hcell:(w2.alloc (E #[.nilFunc] 1)).cell? ⟨b,0,A⟩=F v:=by
  have:=(av (S w2.heap.size w2) (E #[.nilFunc] 1)).cell (p:=⟨b,0,A⟩) hb;rw[this];exact hv
 have hcp:=cp1 (w2.alloc (E #[.nilFunc] 1)) b w2.heap.size 0 1 1 1 1 v hcell h1 (by rw[gL.1 0];rfl) (gL.2.1 0) rfl;obtain⟨W,hW⟩:∃W,W=(w2.alloc (E #[.nilFunc] 1)).setCell ⟨w2.heap.size,0,A⟩ v:=⟨_,rfl⟩;have EL:L (Below w2.heap.size w2 W∧Bx W w2.heap.size #[v]):=y (by
  rw[hW];exact⟨(av (S w2.heap.size w2) _).setCell (p:=⟨w2.heap.size,0,A⟩) (Z w2.heap.size) _,gL.aU 0 ak v⟩)
 rw[←hW] at hcp;clear hW;go_wp2_with fail
 go_loopw [8] (fun i wr=>wr=W∧i= C D 1) (fun i _=>0)
 case atStart=>exact⟨rfl,rfl⟩
 case round=>
  obtain⟨rfl,rfl⟩:=hrel;go_wp2_with fail;go_ret;exact⟨rfl,EL.q.1,EL.q.2⟩
theorem Zj (w:World) (b:Nat) (v:Value) (hb:b<w.heap.size) (hv:w.cell? ⟨b,0,A⟩=F v) (h1:v.oneCell'=true):
  Calls Tryz.prog 218 #[G (F ⟨b,0,A⟩) 1 1,C D 2] w (fun e w'=>e= .returned (G (F ⟨w.heap.size,0,A⟩) 2 2)∧Below w.heap.size w w'∧Bx w' w.heap.size #[v,v]):=by
 have hmk:=ahE;have V4:=y (fun W=>Tryz.bits_Mul 1 2 aj aj W);go_enter func218,ntmps218;go_wp2_with fail;refine(V4.q w).mono ?_;rintro e w2 ⟨rfl,rfl⟩;have gL:=Bx.new w2 #[.nilFunc,.nilFunc] 1;have hcell:(w2.alloc (E #[.nilFunc,.nilFunc] 1)).cell? ⟨b,0,A⟩=F v:=by
  have:=(av (S w2.heap.size w2) (E #[.nilFunc,.nilFunc] 1)).cell (p:=⟨b,0,A⟩) hb;rw[this];exact hv
 have hcp:=cp1 (w2.alloc (E #[.nilFunc,.nilFunc] 1)) b w2.heap.size 0 2 1 2 1 v hcell h1 (by rw[gL.1 0];rfl) (gL.2.1 0) rfl;obtain⟨W,hW⟩:∃W,W=(w2.alloc (E #[.nilFunc,.nilFunc] 1)).setCell ⟨w2.heap.size,0,A⟩ v:=⟨_,rfl⟩;have EL:L (Below w2.heap.size w2 W∧Bx W w2.heap.size #[v,.nilFunc]):=y (by
  rw[hW];exact⟨(av (S w2.heap.size w2) _).setCell (p:=⟨w2.heap.size,0,A⟩) (Z w2.heap.size) _,gL.aU 0 ak v⟩)
 rw[←hW] at hcp;clear hW;go_wp2_with fail
 go_loopw [8] (fun i wr=>(wr=W∧i= C D 1)∨(i= C D 2∧Below w2.heap.size w2 wr∧Bx wr w2.heap.size #[v,v])) (fun i _=>2 - (RowKit.intOf i).toNat)
 case atStart=>exact .inl ⟨rfl,rfl⟩
 case round=>
  rcases hrel with⟨rfl,rfl⟩|⟨rfl,hb2,hx2⟩
  ·have HD:L (Bx wr.drew w2.heap.size #[v,.nilFunc]):=y ⟨EL.q.2.1,EL.q.2.2.1,EL.q.2.2.2⟩
   have hcp2:=cp1 wr.drew w2.heap.size w2.heap.size 1 1 1 1 2 v (HD.q.1 0) h1 (by rw[HD.q.1 1];rfl) (HD.q.2.1 1) rfl;have HE2:L (Below w2.heap.size w2 (wr.drew.setCell ⟨w2.heap.size,1,A⟩ v)∧Bx (wr.drew.setCell ⟨w2.heap.size,1,A⟩ v) w2.heap.size #[v,v]):=y ⟨EL.q.1.drew.setCell (p:=⟨w2.heap.size,1,A⟩) (Z w2.heap.size) _,HD.q.aU 1 ak v⟩;go_wp2_with fail;refine aI 7 [(0,1),(1,1),(2,1),(3,1),(4,1),(5,1),(6,1),(7,2),(8,1),(9,1)] (fun _=>True) (fun _=>True) au au (trivial) (trivial) ?_;refine qC ?_;refine eF rfl rfl rfl (fun K hK=>?_);go_simp;refine hK _ _ trivial ?_;clear hK K;refine qC ?_;refine bn ?_;go_wp2_with fail;go_roundw
   case rel=>exact .inr ⟨rfl,HE2.q.1,HE2.q.2⟩
   case measure=>decide
  ·have HE2:=y (⟨hb2,hx2⟩:_∧_)
   go_wp2_with fail;go_ret;exact⟨rfl,HE2.q.1,HE2.q.2⟩
@[reducible] def vZ:aB:=⟨0,[],0,[],M,0⟩
theorem SY (acts:List Nat):∀(k:Nat) (n:aB) (l:Bs),iB (O k 0++acts) n l=(match jg k n.names l with| .error x=> .error x| .ok (ns,r)=>iB acts {n with names:=ns} r):=by
 intro k
 induction k with
 |zero=>intro n l;rfl
 |succ k ih=>
  intro n l;rw[List.replicate_succ,List.cons_append];simp only[iB,jg]
  cases dQ l with
  |error x=>rfl
  |ok r=>
   simp only[wX,if_true]
   cases cu r with
   |error x=>rfl
   |ok mr=>
    obtain⟨m,r'⟩:=mr;simp only[];rw[ih]
def gF (k:Nat):List Nat:=O (bX k).toNat 0++(if k=1 then [1] else if k=3 then [2] else [])
def jL (k:Nat) (n:aB) (l:Bs):Except Er (Unit × aB × Bs):=
 if k=9 then(match iV 5 0 0 l with| .error x=> .error x| .ok (b,r)=> .ok ((),{n with bits:=b},r))
 else if k=8 then match jF l with
  | .error x=> .error x
  | .ok (f,r)=>match bJ M 300 301 0 n.names n.aF r with
   | .error x=> .error x
   | .ok (b,r')=> .ok ((),{n with first:=f,names:=b.1,aF:=b.2},r')
 else if k=4 then match bJ true 40 41 0 n.names n.aF l with
   | .error x=> .error x
   | .ok (b,r')=> .ok ((),{n with names:=b.1,aF:=b.2},r')
 else if k=7 then match bJ M 300 301 0 n.names n.aF l with
   | .error x=> .error x
   | .ok (b,r')=> .ok ((),{n with names:=b.1,aF:=b.2},r')
 else .ok ((),n,l)
def Dt (x:Except Er (Unit × aB × Bs)):Except Er (aB × Bs):=
 match x with
 | .error x=> .error x
 | .ok (_,s,r2)=>match cO r2 with
  | .error x=> .error x
  | .ok (true,r3)=> .error (r3,220)
  | .ok (M,r3)=> .ok (s,r3)
theorem Qg (l r:Bs) (i:Nat) (hi:i<9) (hE:gY (bL l)=M) (hw:dH lG (bL l)= .ok (i,r)):
  jk l=(match iB (gF (i+1)) {vZ with kind:=((i+1:Nat):J)} r with| .error x=> .error x| .ok (_,n,r1)=>Dt (jL (i+1) n r1)):=by
 unfold jk;rw[I (by rw[hE];simp),hw];simp only[];rw[gF,SY];simp only[]
 cases hns:jg (bX (i+1)).toNat [] r with
 |error x=>rfl
 |ok nr=>
  obtain⟨ns,r1⟩:=nr;simp only[];unfold rD jL Dt;rcases(by omega:i=0∨i=1∨i=2∨i=3∨i=4∨i=5∨i=6∨i=7∨i=8) with rfl|rfl|rfl|rfl|rfl|rfl|rfl|rfl|rfl
  ·simp only[Nat.reduceAdd,if_true,iB,wX,Nat.reduceEqDiff,if_false,Nat.succ_ne_self]
   cases dQ r1 with
   |error x=>rfl
   |ok r2=>
    simp only[]
    cases dH mF r2 with
    |error x=>rfl
    |ok jr=>rfl
  ·rfl
  ·simp only[Nat.reduceAdd,if_true,iB,wX,Nat.reduceEqDiff,if_false]
   cases dQ r1 with
   |error x=>rfl
   |ok r2=>
    simp only[]
    cases fq r2 with
    |error x=>rfl
    |ok jr=>rfl
  ·simp only[Nat.reduceAdd,if_true,iB,Nat.reduceEqDiff,if_false]
   cases bJ true 40 41 0 ns [] r1 with
   |error x=>rfl
   |ok jr=>rfl
  ·rfl
  ·rfl
  ·simp only[Nat.reduceAdd,if_true,iB,Nat.reduceEqDiff,if_false]
   cases bJ M 300 301 0 ns [] r1 with
   |error x=>rfl
   |ok jr=>rfl
  ·simp only[Nat.reduceAdd,if_true,iB,Nat.reduceEqDiff,if_false]
   cases jF r1 with
   |error x=>rfl
   |ok fr=>
    obtain⟨f,r2⟩:=fr;simp only[]
    cases bJ M 300 301 0 ns [] r2 with
    |error x=>rfl
    |ok jr=>rfl
  ·simp only[Nat.reduceAdd,if_true,iB,Nat.reduceEqDiff,if_false]
   cases iV 5 0 0 r1 with
   |error x=>rfl
   |ok jr=>rfl
theorem V5 {a:Nat} {n n':aB} {l r:Bs} {u:Unit} (h:wX a n l= .ok (u,n',r)):n'.bits=n.bits∧n'.first=n.first∧n'.kind=n.kind:=by
 unfold wX at h
 split at h
 ·split at h
  ·cases h
  ·injection h with h;injection h with _ h;injection h with h _;subst h;simp
 ·split at h
  ·split at h
   ·cases h
   ·injection h with h;injection h with _ h;injection h with h _;subst h;simp
  ·split at h
   ·cases h
   ·injection h with h;injection h with _ h;injection h with h _;subst h;simp
theorem pE:∀(acts:List Nat) {n n':aB} {l r:Bs} {u:Unit},iB acts n l= .ok (u,n',r)→
  n'.bits=n.bits∧n'.first=n.first∧n'.kind=n.kind∧n'.names.length≤n.names.length+acts.length∧n'.aF.length≤n.aF.length+acts.length
 |[],n,n',l,r,u,h=>by
  simp only[iB] at h;injection h with h;injection h with _ h;injection h with h _;subst h;simp
 |a::t,n,n',l,r,u,h=>by
  simp only[iB] at h
  split at h
  ·cases h
  ·split at h
   ·cases h
   ·rename_i u1 n1 r1 h1
    have k1:=V5 h1;have k2:=ND h1;have k3:=pE t h;simp only[List.length_cons];exact⟨k3.1.trans k1.1,k3.2.1.trans k1.2.1,k3.2.2.1.trans k1.2.2,by omega,by omega⟩
theorem ae3:(Tryz.prog.info? 1).map (fun i=>(i.zero.map (·.cells.size),i.size,i.bytes))=F (F 1,1,8):=au
theorem ac6:∃i z,Tryz.prog.info? 1=F i∧i.zero=F z∧i.size=1∧i.bytes=8∧z.cells.size=1:=nQ ae3
theorem V6 (k:Nat):∃N:Nat,bX (k+1)=(N:J)∧(N=1∨N=2):=by
 unfold bX
 split <;> first|exact⟨1,rfl,.inl rfl⟩|exact⟨2,rfl,.inr rfl⟩|(rename_i h;omega)
theorem ac7 (N:Nat) (hN:N=1∨N=2) (w:World) (b:Nat) (v:Value) (hb:b<w.heap.size) (hv:w.cell? ⟨b,0,A⟩=F v) (h1:v.oneCell'=true):
  Calls Tryz.prog 218 #[G (F ⟨b,0,A⟩) 1 1,C D N] w (fun e w'=>e= .returned (G (F ⟨w.heap.size,0,A⟩) N N)∧Below w.heap.size w w'∧Bx w' w.heap.size (Array.replicate N v)):=by
 rcases hN with rfl|rfl
 ·exact Zi w b v hb hv h1
 ·exact Zj w b v hb hv h1
theorem Eb {P:Program} {ops:Array Oper} {rest:List Oper} {o:Oper} {ac:Act} {w w':World} {Q:Exit→Act→World→Prop} {v u r:Value} (hgd:o.guard=A) (s x:Operand) (t:TypeId)
  (ho:o.op= .call {callee:= .builtin .append,args:=#[s,x],argTypes:=#[t,t]}) (hs:ac.eval s=v) (hx:ac.eval x=u) (hrun:(Builtin.append_ #[t,t] o.type #[v,u]).run P w= .ok r w')
  (h:wpList P ops Q rest (ac.put o.dst r) w'):wpList P ops Q (o::rest) ac w:=
 wpList_plain hgd fun _ hK=>by
  unfold Oper.wp execOp;simp only[ho,resolve,invoke,builtin,Sem.run_bind,Sem.run_pure,Result.andThen_ok,List.map_toArray,List.map_cons,List.map_nil,hs,hx,hrun];exact hK _ _ h
theorem ac8 (N:Nat) (hN:N=1∨N=2) (W:World) (T U:Nat) (v x:Value) (hT:Bx W T (Array.replicate N v)) (hU:W.cell? ⟨U,0,A⟩=F x):
  ∃(cap:Nat) (W':World),(Builtin.append_ #[263,263] 263 #[G (F ⟨T,0,A⟩) N N,G (F ⟨U,0,A⟩) 1 1]).run Tryz.prog W= .ok (G (F ⟨W.heap.size,0,A⟩) (N+1) cap) W'∧N+1≤cap∧cap≤maxLen∧Below W.heap.size W W'∧W.heap.size<W'.heap.size∧(∀i,i<N→W'.cell? ⟨W.heap.size,i,A⟩=F v)∧W'.cell? ⟨W.heap.size,N,A⟩=F x:=by
 obtain⟨i,z,hi,hz,hsize,hby,hzs⟩:=ac6;have hr:=run_append_grow (P:=Tryz.prog) W 263 263 1 i z au hi hz ⟨T,0,A⟩ N N (O N v) (by rw[hsize];simp) (fun j u hj=>by
  have hj':=hj;rw[List.getElem?_replicate] at hj';have hlt:j<N:=by
   apply Classical.byContradiction;intro hn;rw[I hn] at hj';cases hj'
  rw[if_pos hlt] at hj';have:=hT.1 j;rw[Array.getElem?_replicate,if_pos hlt] at this;have hz:=this.trans hj';unfold Addr.add
  split
  ·rename_i h0;subst h0;exact hz
  ·simpa using hz) ⟨U,0,A⟩ 1 1 [x] (by rw[hsize];rfl) (fun j u hj=>by
  obtain rfl:j=0:=by have:=(List.getElem?_eq_some_iff.1 hj).1;simpa using this
  simpa[Addr.add] using hU.trans hj) ah ah (by rw[hby];rcases hN with rfl|rfl <;> exact Nat.le_of_ble_eq_true rfl)
 refine⟨_,_,hr,grownCap_ge W (N+1) N 1,grownCap_le_maxLen W (N+1) N 1 (by unfold maxLen;omega),(S _ _).drew.alloc (Z _) _,by simp,fun i hi=>?_,?_⟩
 ·have:=World.cell?_alloc_new W.drew ((O N v).toArray++[x].toArray++Builtin.zeroCells z.cells (grownCap W (N+1) N 1 - (N+1))) 1 i
  refine this.trans ?_;rw[Array.getElem?_append_left (by simp;omega),Array.getElem?_append_left (by simp;omega)];simp[hi]
 ·have:=World.cell?_alloc_new W.drew ((O N v).toArray++[x].toArray++Builtin.zeroCells z.cells (grownCap W (N+1) N 1 - (N+1))) 1 N
  refine this.trans ?_;rw[Array.getElem?_append_left ak,Array.getElem?_append_right ak];simp
theorem Oh {w:World} {R b n c:Nat} (acts:List Nat) (hn:acts.length=n) (hc:n≤c) (hm:n≤1000) (h:∀(i:Nat) (a:Nat),acts[i]?=F a→w.cell? ⟨b,i,A⟩=F (.func (.func (AV a)) #[H (F ⟨R,0,A⟩)] #[])):Row w 1 (Ai R) (F ⟨b,0,A⟩) n c acts:=
 ⟨hn,hc,by omega,(fun e=>by cases e),fun i a ha=>⟨b,0,rfl,fun j v hv=>by
  obtain rfl:j=0:=by have:=(List.getElem?_eq_some_iff.1 hv).1;simpa[Ai] using this
  have:v= .func (.func (AV a)) #[H (F ⟨R,0,A⟩)] #[]:=by simpa[Ai] using hv.symm
  rw[this];simpa using h i a ha⟩⟩
theorem yK {w:World} {R b N:Nat} (hN:N≤2) (h:Bx w b (Array.replicate N (.func (.func (AV 0)) #[H (F ⟨R,0,A⟩)] #[]))):Row w 1 (Ai R) (F ⟨b,0,A⟩) N N (O N 0):=
 Oh _ ak (Z _) ah fun i a ha=>by
  rw[List.getElem?_replicate] at ha;have hlt:i<N:=by
   apply Classical.byContradiction;intro hn;rw[I hn] at ha;cases ha
  rw[if_pos hlt] at ha;injection ha with ha;subst ha;rw[h.1 i,Array.getElem?_replicate,if_pos hlt]
theorem Lu {w:World} {R b N c:Nat} (a:Nat) (hc:N+1≤c) (hm:N≤2) (h:∀i,i<N→w.cell? ⟨b,i,A⟩=F (.func (.func (AV 0)) #[H (F ⟨R,0,A⟩)] #[])) (h1:w.cell? ⟨b,N,A⟩=F (.func (.func (AV a)) #[H (F ⟨R,0,A⟩)] #[])):Row w 1 (Ai R) (F ⟨b,0,A⟩) (N+1) c (O N 0++[a]):=
 Oh _ ak hc ah fun i a' ha=>by
  by_cases hlt:i<N
  ·rw[List.getElem?_append_left (by simpa using hlt),List.getElem?_replicate,if_pos hlt] at ha
   injection ha with ha;subst ha;exact h i hlt
  ·rw[List.getElem?_append_right (by simp;omega)] at ha
   obtain rfl:i=N:=by have:=(List.getElem?_eq_some_iff.1 ha).1;simp at this;omega
   simp at ha;subst ha;exact h1
theorem S9:∀j:Fin 9,lG.take j.val++[eU (j.val+1)]=lG.take (j.val+1):=by decide
def tF (x:Except Er (Unit × aB × Bs)):Except Er (Unit × aB × Bs):=match Dt x with| .error x=> .error x| .ok (n',r)=> .ok ((),n',r)
theorem vB (x:Er):tF (.error x)= .error x:=rfl
theorem ru {u:Unit} {n:aB} {r:Bs} {x:Er} (h:cO r= .error x):tF (.ok (u,n,r))= .error x:=by
 unfold tF Dt;simp only[h]
theorem rz {u:Unit} {n:aB} {r r3:Bs} (h:cO r= .ok (true,r3)):tF (.ok (u,n,r))= .error (r3,220):=by
 unfold tF Dt;simp only[h]
theorem pR {u:Unit} {n:aB} {r r3:Bs} (h:cO r= .ok (M,r3)):tF (.ok (u,n,r))= .ok ((),n,r3):=by
 unfold tF Dt;simp only[h]
theorem Zk {R p:Nat} {s l:Bs} {c:bf} (w:World) (h:dG w R s p l c vZ) (hG:rX R w):
  Calls Tryz.prog 162 #[H (F ⟨R,0,A⟩)] w (aX R s c w (fun _:Unit=> .tuple #[]) (match jk l with| .error x=> .error x| .ok (n',r)=> .ok ((),n',r))):=by
 obtain⟨Y,hY⟩:∃Y:Except Er (Unit × aB × Bs),Y=(match jk l with| .error x=> .error x| .ok (n',r)=> .ok ((),n',r)):=⟨_,rfl⟩;rw[←hY];have HY:=y hY;have HG:=y hG;clear hY hG;have c0:=h.c0;have c1:=h.c1;have z1:=f1 h 1;have hlen:=h.len;have hlim:=h.lim;have hsl:=fun W=>lK Tryz.underlying9 s p ah W
 rw[h.d] at hsl;have hz:=fO s;have hz2:=fO (bL l);have hsk:=IC l;obtain⟨q,hq⟩:∃q:Nat,q=s.length - (bL l).length:=⟨_,rfl⟩;have HWQ:L (wrap64 ((s.length:J) - ((bL l).length:J))=(q:J)):=y (by
  rw[show(s.length:J) - ((bL l).length:J)=(q:J) by omega];exact IntWalk.wrap64_in _ ah)
 have ahF:L (IntKind.i64.wrap ((s.length:J) - ((bL l).length:J))=(q:J)):=y (by
  rw[show(s.length:J) - ((bL l).length:J)=(q:J) by omega];exact IntWalk.i64_in _ ah)
 have HH:=y h;have HLEN:=y hlen;have dw:=y hsk;have HQ:=y hq;clear h hlen hsk hq;go_enter func162,ntmps162;go_wp2_with fail;refine aI 20 [(0,1),(1,1),(2,1),(3,1),(4,0),(5,0),(6,1),(7,1),(8,1),(9,0),(10,1),(11,1),(12,1),(13,0),(14,0),(15,2),(16,0),(17,0),(18,1),(19,1),(20,2)] (fun _=>True) (fun W'=>W'.cell? ⟨R,0,A⟩=F (.string ⟨s.toArray⟩)∧W'.cell? ⟨R,1,A⟩=F (C D p)) au au (trivial) (⟨HH.q.c0,HH.q.c1⟩) ?_;refine qC ?_;refine aD rfl rfl (fun K hK=>?_);go_simp;refine(Od l _).mono ?_;rintro e w2 ⟨rfl,hb2⟩;have vK:=HH.q.drew.below hb2;refine hK _ _ ⟨trivial,vK.c0,vK.c1⟩ ?_;have D7:=y vK;have HB2:=y hb2;clear hK K hb2 vK c0 c1 z1;have c1:=D7.q.c1;have z1:=f1 D7.q 1;have hwq:=HWQ.q;refine qC ?_;refine eF rfl rfl rfl (fun K hK=>?_);go_simp;refine hK _ _ trivial ?_;clear hK K;refine bn ?_;have hb2:Below w.heap.size w w2:=(S _ _).drew.trans HB2.q;have ht:=D7.q.to (l.length - (bL l).length) (F5 l) ah q (by have:=HLEN.q;have:=dw.q;have:=HQ.q;omega);have HT:=y ht.1;have HM:=y ((Mv.of_below (R:=R) (c:=c) hb2).trans ht.2);have HGT:=y (HG.q.mv HH.q HM.q.same);clear ht hb2;rw[show IntKind.i64.wrap ((s.length:J) - ((bL l).length:J))=(q:J) from ahF.q];go_wp2_with fail;refine(Df _ HT.q).mono ?_;rintro e w3 ⟨rfl,hb3⟩;have HT3:=y (HT.q.below hb3);have qy:=y (HM.q.trans (Mv.of_below hb3));have lF:=y (HGT.q.mv HT.q (Mv.of_below hb3:Mv R c c _ w3).same);clear hb3 c1 z1
 cases hE:gY (bL l)
 ·obtain⟨i,z,hi,hz,hsize,cZ,hzs⟩:=vT
  have HI:=y (⟨hi,hz,hsize,cZ,hzs⟩:_∧_∧_∧_∧_);have HGL:=y lF.q.l;clear hi hz hsize cZ hzs;go_wp2_with fail
  go_loopw [2,31] (fun v i wr=>∃(k:Nat) (a0:Option Addr) (c0:Nat),k≤9∧v= G a0 k c0∧i= C D k∧Own wr w3.heap.size 9 1 encStr (G a0 k c0) (lG.take k)∧Below w3.heap.size w3 wr) (fun _ i _=>9 - (RowKit.intOf i).toNat)
  case atStart=>exact⟨0,A,0,Nat.zero_le _,rfl,rfl,Own.iJ _ _ _ _ _,S _ _⟩
  case round=>
   obtain⟨k,a0,c0,hk,rfl,rfl,how,hbw⟩:=hrel;by_cases hlt:k<9
   ·obtain⟨hg1,hg2,hg3⟩:=(HGL.q.below (hbw:Below w3.heap.size w3 wr)).2.1 (k+1) ah
    have hf1:wr.cell? ⟨0,3+k*3,A⟩=F (.string ⟨(eU (k+1)).toArray⟩):=by rw[←hg1];congr 2;omega
    have hf2:wr.cell? ⟨0,3+k*3+1,A⟩=F (C D (bX (k+1))):=by rw[←hg2];congr 2;omega
    have hf3:wr.cell? ⟨0,3+k*3+2,A⟩=F (.int .i32 (dm (k+1))):=by rw[←hg3];congr 2;omega
    have HOW:=y how;have bP:=y hbw;clear hg1 hg2 hg3 how hbw;have WI:L (Own ((wr.alloc (E #[.string ⟨(eU (k+1)).toArray⟩,C D (bX (k+1)),.int .i32 (dm (k+1))] 116)).alloc (E #[.string ⟨(eU (k+1)).toArray⟩] 9)) w3.heap.size 9 1 encStr (G a0 k c0) (lG.take k)):=y ((HOW.q.alloc _).alloc _);have eG:L (Below w3.heap.size w3 ((wr.alloc (E #[.string ⟨(eU (k+1)).toArray⟩,C D (bX (k+1)),.int .i32 (dm (k+1))] 116)).alloc (E #[.string ⟨(eU (k+1)).toArray⟩] 9))):=y (av (av bP.q _) _);have XI:L (Row ((wr.alloc (E #[.string ⟨(eU (k+1)).toArray⟩,C D (bX (k+1)),.int .i32 (dm (k+1))] 116)).alloc (E #[.string ⟨(eU (k+1)).toArray⟩] 9)) 1 encStr (F ⟨wr.heap.size+1,0,A⟩) 1 1 [eU (k+1)]):=y (by have:=Row.str1 (wr.alloc (E #[.string ⟨(eU (k+1)).toArray⟩,C D (bX (k+1)),.int .i32 (dm (k+1))] 116)) (eU (k+1));simpa using this);have eO:L ((lG.take k).length+1=k+1):=y (by rw[List.length_take];show min k 9+1=k+1;omega);have dY:L ((k+1)*16≤140737488355328):=y ah;have kX:L (k+1≤maxLen):=y (by unfold maxLen;omega);have uX:L (w3.heap.size≤((wr.alloc (E #[.string ⟨(eU (k+1)).toArray⟩,C D (bX (k+1)),.int .i32 (dm (k+1))] 116)).alloc (E #[.string ⟨(eU (k+1)).toArray⟩] 9)).heap.size):=y eG.q.size;have hcl:(lG.take k)++[eU (k+1)]=lG.take (k+1):=S9 ⟨k,hlt⟩
    go_wp2_with (at_builtin;refine dO rfl _ _ 22 rfl i z 16 underlying22 HI.q.1 HI.q.2.1 HI.q.2.2.1 HI.q.2.2.2.1 HI.q.2.2.2.2 rfl WI.q (F ⟨wr.heap.size+1,0,A⟩) 1 1 (k+1) [eU (k+1)] rfl XI.q eO.q dY.q kX.q uX.q ?_;intro a' c' w5 hown5 hg5 VZ)
    have dS:=below_app eG.q WI.q (Z _) uX.q hg5;refine⟨⟨k+1,a',c',by omega,rfl,rfl,by rw[←hcl];exact hown5,dS⟩,?_⟩;simp[RowKit.intOf];omega
   ·obtain rfl:k=9:=by omega
    have HOW:=y how;have bP:=y hbw;have ig:=y (HT3.q.below hbw);have vJ:=y (qy.q.trans (Mv.of_below hbw));have RO:=y (lF.q.mv HT3.q (Mv.of_below hbw:Mv R c c w3 wr).same);have BL:L (Row wr 1 encStr a0 9 c0 lG):=y (show Row wr 1 encStr a0 9 c0 (lG.take 9) from Own.row how aj);clear how hbw;go_wp2_with fail;refine(Gu wr ig.q a0 9 c0 lG BL.q ah aj aj).mono ?_;intro e w5 he;have hRD:∀x,dH lG (bL l)= .error x→jk l= .error x:=fun x hx=>by unfold jk;rw[I (by rw[hE];simp),hx]
    cases hwo:dH lG (bL l) with
    |error x=>
     rw[hwo] at he;obtain⟨rfl,hs⟩:=he;refine⟨rfl,?_⟩;show aX R s c w _ _ _ _;rw[HY.q,hRD x hwo];exact⟨rfl,vJ.q.cK hs⟩
    |ok ir=>
     obtain⟨iv,r⟩:=ir;rw[hwo] at he;obtain⟨rfl,q5,vg,CQ⟩:=he;have iO:=y vg;have vI:=y (vJ.q.trans CQ);have HG5:=y (RO.q.mv ig.q CQ.same);have Ec:=y hwo;have hc0:=vg.x.1 2;have hf0:=f1 vg 2;have hiv:iv<9:=by
      unfold dH at hwo
      split at hwo
      ·rename_i j hj
       injection hwo with hwo;injection hwo with hwo _;have:=(List.findIdx?_eq_some_iff_getElem.1 hj).1;subst hwo
       simpa[lG] using this
      ·cases hwo
     obtain⟨n6,XR⟩:∃n6:aB,n6={vZ with kind:=((iv+1:Nat):J)}:=⟨_,rfl⟩;have yZ:=Qg l r iv hiv hE hwo;rw[←XR] at yZ;have o9:L (∀x,iB (gF (iv+1)) n6 r= .error x→Y= .error x):=y (fun x hx=>by rw[HY.q,yZ,hx]);have wK:L (∀u n r1,iB (gF (iv+1)) n6 r= .ok (u,n,r1)→Y=tF (jL (iv+1) n r1)):=y (fun u n r1 hx=>by rw[HY.q,yZ,hx];rfl);have sP:L (n6.bits=0∧n6.first=M∧n6.names.length=0∧n6.aF.length=0):=y (by rw[XR];exact⟨rfl,rfl,rfl,rfl⟩);have hwk:wrap64 (1+(iv:J))=((iv+1:Nat):J):=by unfold wrap64;omega
     have ahG:((iv:J)+1).toNat=iv+1:=by omega
     obtain⟨N,hN,V7⟩:=V6 iv;obtain⟨rr,hrr⟩:∃rr:J,dm (iv+1)=rr:=⟨_,rfl⟩;obtain⟨hg1,hg2,hg3⟩:=HG5.q.l.2.1 (iv+1) ah;have hq1:w5.cell? ⟨0,(1+iv)*3,A⟩=F (.string ⟨(eU (iv+1)).toArray⟩):=by rw[←hg1];congr 2;omega
     have hq2:w5.cell? ⟨0,(1+iv)*3+1,A⟩=F (C D (N:J)):=by rw[←hN,←hg2];congr 2;omega
     have hq3:w5.cell? ⟨0,(1+iv)*3+2,A⟩=F (.int .i32 rr):=by rw[←hrr,←hg3];congr 2;omega
     have HIV:=y hiv;have EZ:=y hN;have mO:=y V7;have HRR:=y hrr;have h9:(iv:J)+1<10:=by omega
     obtain⟨c6,hc6⟩:∃c6:bf,c6={c with kind:=1+(iv:J)}:=⟨_,rfl⟩;have hset:=iO.q.AU 2 (C D (1+(iv:J))) {c with kind:=1+(iv:J)} {vZ with kind:=((iv+1:Nat):J)} aj rfl ⟨rfl,rfl,rfl,rfl,rfl,rfl⟩ ⟨rfl,rfl⟩ ⟨(by show 1+(iv:J)=((iv+1:Nat):J);omega),iO.q.n.1.2.1,iO.q.n.1.2.2.1,iO.q.n.1.2.2.2.1⟩;rw[←XR,←hc6] at hset;have V8:=y hset.1;have Kc:=y (vI.q.trans hset.2);have HGS:=y (HG5.q.mv iO.q hset.2.same);have hba:=av (av (S (w5.setCell ⟨R,2,A⟩ (C D (1+(iv:J)))).heap.size _) (E #[.string ⟨(eU (iv+1)).toArray⟩,C D (N:J),.int .i32 rr] 116)) (E #[.func (.func 219) #[H (F ⟨R,0,A⟩)] #[]] 1);have je:=y hba;have wF:=y ((Bx.new (w5.setCell ⟨R,2,A⟩ (C D (1+(iv:J)))) #[.string ⟨(eU (iv+1)).toArray⟩,C D (N:J),.int .i32 rr] 116).alloc (E #[.func (.func 219) #[H (F ⟨R,0,A⟩)] #[]] 1));have hFT:=Bx.new ((w5.setCell ⟨R,2,A⟩ (C D (1+(iv:J)))).alloc (E #[.string ⟨(eU (iv+1)).toArray⟩,C D (N:J),.int .i32 rr] 116)) #[.func (.func 219) #[H (F ⟨R,0,A⟩)] #[]] 1;rw[show((w5.setCell ⟨R,2,A⟩ (C D (1+(iv:J)))).alloc (E #[.string ⟨(eU (iv+1)).toArray⟩,C D (N:J),.int .i32 rr] 116)).heap.size=w5.heap.size+1 by simp[World.setCell]] at hFT;have HFT:=y hFT;have Js:L ((w5.setCell ⟨R,2,A⟩ (C D (1+(iv:J)))).heap.size=w5.heap.size):=y (by simp[World.setCell]);have hcall:=y (fun W (hb:w5.heap.size+1<W.heap.size) (hv:W.cell? ⟨w5.heap.size+1,0,A⟩=F (.func (.func 219) #[H (F ⟨R,0,A⟩)] #[]))=>ac7 N V7 W (w5.heap.size+1) (.func (.func 219) #[H (F ⟨R,0,A⟩)] #[]) hb hv rfl);clear vg CQ hRD hwo yZ hg1 hg2 hg3 hset hba hFT hN V7 hrr hiv XR hc6;go_wp2_with fail;refine(hcall.q _ HFT.q.2.2 (HFT.q.1 0)).mono ?_;rintro e w7 ⟨rfl,Hq,hx7⟩;have La:=y (je.q.bD Hq);have BJ:=y (V8.q.below La.q);have D9:=y (Kc.q.trans (Mv.of_below La.q));have Ea:=y (HGS.q.below La.q);have Lv:=wF.q.keep Hq;rw[Js.q] at Lv;have rQ:L (kz R c6 w5.heap.size):=y (V8.q.new (by rw[Js.q];exact Z _));have Co:=Nat.lt_of_lt_of_le (show w5.heap.size<w5.heap.size+1+1 by omega) (show w5.heap.size+1+1≤w7.heap.size by have:=Hq.size;simpa[World.setCell] using this);have EM:=y Lv;have hf2:=Lv.1 2;have hf3:=Lv.2.1 2;rw[show(((w5.setCell ⟨R,2,A⟩ (C D (1+(iv:J)))).alloc (E #[.string ⟨(eU (iv+1)).toArray⟩,C D (N:J),.int .i32 rr] 116)).alloc (E #[(.func (.func 219) #[H (F ⟨R,0,A⟩)] #[])] 1)).heap.size=w5.heap.size+1+1 by simp[World.setCell]] at hx7;have sw:=y hx7;have Ta:L (kz R c6 (w5.heap.size+1+1)):=y (V8.q.new (by rw[Js.q];omega));have hcase:(iv=0∧rr=108)∨(iv=2∧rr=118)∨(iv=8∧rr=103)∨(iv=7∧rr=109)∨(iv=3∧rr=115)∨(iv=6∧rr=116)∨((iv=1∨iv=4∨iv=5)∧rr=0):=by
      have hiv:=HIV.q;have hrr:=HRR.q;rcases(by omega:iv=0∨iv=1∨iv=2∨iv=3∨iv=4∨iv=5∨iv=6∨iv=7∨iv=8) with rfl|rfl|rfl|rfl|rfl|rfl|rfl|rfl|rfl <;> simp[dm] at hrr <;> subst hrr <;> simp
     clear Hq hx7 Lv hq1 hq2 hq3 hwk ahG h9 hc0 hf0 HRR;have HC0:=y (⟨BJ.q,D9.q,Ea.q⟩:_∧_∧_);clear Co;rcases hcase with⟨hi0,rfl⟩|⟨hi0,rfl⟩|⟨hi0,rfl⟩|⟨hi0,rfl⟩|⟨hi0,rfl⟩|⟨hi0,rfl⟩|⟨hi0,rfl⟩
     ·have HI0:=y hi0
      clear hi0;have hact:gF (iv+1)=O N 0++[1]:=by rw[HI0.q];unfold gF;rw[←HI0.q,EZ.q,HI0.q];simp
      obtain⟨cap,w8,hrun,hcap1,hcap2,zn,EN,hcv,hcx⟩:=ac8 N mO.q (w7.alloc (E #[(.func (.func 220) #[H (F ⟨R,0,A⟩)] #[])] 1)) (w5.heap.size+1+1) w7.heap.size (.func (.func 219) #[H (F ⟨R,0,A⟩)] #[]) (.func (.func 220) #[H (F ⟨R,0,A⟩)] #[]) (sw.q.alloc _) ((Bx.new w7 #[(.func (.func 220) #[H (F ⟨R,0,A⟩)] #[])] 1).1 0);rw[show(w7.alloc (E #[(.func (.func 220) #[H (F ⟨R,0,A⟩)] #[])] 1)).heap.size=w7.heap.size+1 by simp] at hrun EN hcv hcx;have hbb:=(av (S w7.heap.size w7) (E #[(.func (.func 220) #[H (F ⟨R,0,A⟩)] #[])] 1)).trans (zn.mono ak);have uf:=y (BJ.q.below hbb);have ug:=y (D9.q.trans (Mv.of_below hbb));have uh:=y (Ea.q.below hbb);have mY:=y (EM.q.keep hbb);have oG:=y (Lu 1 hcap1 (by have:=mO.q;omega) hcv hcx);have V9:=y EN;have hf2:=mY.q.1 2;have Wd:=y hrun;clear hcap1 hcap2 zn EN hcv hcx hbb hrun
      go_wp2_with (at_builtin;refine Eb rfl _ _ 263 rfl rfl rfl Wd.q ?_)
      refine(vU w8 uf.q uh.q (w7.heap.size+1) 0 (N+1) cap _ oG.q (BJ.q.new ah) V9.q (by have:=mO.q;omega) (by have:=sP.q;omega) (by have:=sP.q;omega)).mono ?_;intro e w9 he;rw[←hact] at he
      cases hdo:iB (gF (iv+1)) n6 r with
      |error x=>
       rw[hdo] at he;obtain⟨rfl,hs⟩:=he;refine⟨rfl,?_⟩;show aX R s c w _ _ _ _;rw[o9.q x hdo];exact⟨rfl,ug.q.cK hs⟩
      |ok sQ=>
       obtain⟨u,n9,r9⟩:=sQ;rw[hdo] at he;obtain⟨rfl,q9,c9,oh,jh⟩:=he;have hkp:=pE _ hdo;have hal:(gF (iv+1)).length≤3:=by rw[hact];have:=mO.q;simp;omega
       have zu:=y oh;have rA:=y (ug.q.trans jh);have iY:=y (uh.q.mv uf.q jh.same);have vM:=y (wK.q _ _ _ hdo);have nR:=y (jh.bx mY.q rQ.q);have hf2:=nR.q.1 2;have vE:L (n9.names.length≤3∧n9.aF.length≤3∧n9.bits=0∧n9.first=M):=y (by have:=sP.q;exact⟨by omega,by omega,by rw[hkp.1];exact this.1,by rw[hkp.2.1];exact this.2.1⟩);have IE:L (w5.heap.size<w9.heap.size):=y (nR.q.2.2);have CR:L (kz R c9 w5.heap.size):=y (jh.IB rQ.q mY.q.2.2);clear oh jh hkp hal hdo hact;have oJ:L (Y=tF (.ok ((),n9,r9))):=y (vM.q.trans (by unfold jL;rw[I (by have:=HI0.q;omega),I (by have:=HI0.q;omega),I (by have:=HI0.q;omega),I (by have:=HI0.q;omega)]));go_wp2_with fail;refine(oF _ zu.q).mono ?_;intro e wa he
       cases hmo:cO r9 with
       |error x=>
        rw[hmo] at he;obtain⟨rfl,hs⟩:=he;refine⟨rfl,?_⟩;show aX R s c w _ _ _ _;rw[oJ.q,ru hmo];exact⟨rfl,rA.q.cK hs⟩
       |ok br=>
        obtain⟨bb,ra⟩:=br;rw[hmo] at he;obtain⟨rfl,qa,hca,hma⟩:=he;have uj:=y hca;have um:=y (rA.q.trans hma);have nG:=y hmo;have c1:=hca.c1;clear hca hma hmo
        cases bb
        ·go_wp2_with fail
         refine bodyPost_end (results_none rfl _ _ _) rfl ?_;show aX R s c w _ _ _ _;rw[oJ.q,pR nG.q];exact⟨rfl,qa,_,uj.q,um.q⟩
        ·go_wp2_with fail
         refine(fA qa 220 _).mono ?_;rintro e wb ⟨rfl,rfl⟩;refine⟨rfl,?_⟩;show aX R s c w _ _ _ _;rw[oJ.q,rz nG.q];have:=uj.q.len;exact⟨by rw[show s.length - ra.length=qa by omega],um.q.same⟩
     ·have HI0:=y hi0
      clear hi0;have hact:gF (iv+1)=O N 0++[2]:=by rw[HI0.q];unfold gF;rw[←HI0.q,EZ.q,HI0.q];simp
      obtain⟨cap,w8,hrun,hcap1,hcap2,zn,EN,hcv,hcx⟩:=ac8 N mO.q (w7.alloc (E #[(.func (.func 221) #[H (F ⟨R,0,A⟩)] #[])] 1)) (w5.heap.size+1+1) w7.heap.size (.func (.func 219) #[H (F ⟨R,0,A⟩)] #[]) (.func (.func 221) #[H (F ⟨R,0,A⟩)] #[]) (sw.q.alloc _) ((Bx.new w7 #[(.func (.func 221) #[H (F ⟨R,0,A⟩)] #[])] 1).1 0);rw[show(w7.alloc (E #[(.func (.func 221) #[H (F ⟨R,0,A⟩)] #[])] 1)).heap.size=w7.heap.size+1 by simp] at hrun EN hcv hcx;have hbb:=(av (S w7.heap.size w7) (E #[(.func (.func 221) #[H (F ⟨R,0,A⟩)] #[])] 1)).trans (zn.mono ak);have uf:=y (BJ.q.below hbb);have ug:=y (D9.q.trans (Mv.of_below hbb));have uh:=y (Ea.q.below hbb);have mY:=y (EM.q.keep hbb);have oG:=y (Lu 2 hcap1 (by have:=mO.q;omega) hcv hcx);have V9:=y EN;have hf2:=mY.q.1 2;have Wd:=y hrun;clear hcap1 hcap2 zn EN hcv hcx hbb hrun
      go_wp2_with (at_builtin;refine Eb rfl _ _ 263 rfl rfl rfl Wd.q ?_)
      refine(vU w8 uf.q uh.q (w7.heap.size+1) 0 (N+1) cap _ oG.q (BJ.q.new ah) V9.q (by have:=mO.q;omega) (by have:=sP.q;omega) (by have:=sP.q;omega)).mono ?_;intro e w9 he;rw[←hact] at he
      cases hdo:iB (gF (iv+1)) n6 r with
      |error x=>
       rw[hdo] at he;obtain⟨rfl,hs⟩:=he;refine⟨rfl,?_⟩;show aX R s c w _ _ _ _;rw[o9.q x hdo];exact⟨rfl,ug.q.cK hs⟩
      |ok sQ=>
       obtain⟨u,n9,r9⟩:=sQ;rw[hdo] at he;obtain⟨rfl,q9,c9,oh,jh⟩:=he;have hkp:=pE _ hdo;have hal:(gF (iv+1)).length≤3:=by rw[hact];have:=mO.q;simp;omega
       have zu:=y oh;have rA:=y (ug.q.trans jh);have iY:=y (uh.q.mv uf.q jh.same);have vM:=y (wK.q _ _ _ hdo);have nR:=y (jh.bx mY.q rQ.q);have hf2:=nR.q.1 2;have vE:L (n9.names.length≤3∧n9.aF.length≤3∧n9.bits=0∧n9.first=M):=y (by have:=sP.q;exact⟨by omega,by omega,by rw[hkp.1];exact this.1,by rw[hkp.2.1];exact this.2.1⟩);have IE:L (w5.heap.size<w9.heap.size):=y (nR.q.2.2);have CR:L (kz R c9 w5.heap.size):=y (jh.IB rQ.q mY.q.2.2);clear oh jh hkp hal hdo hact;have oJ:L (Y=tF (.ok ((),n9,r9))):=y (vM.q.trans (by unfold jL;rw[I (by have:=HI0.q;omega),I (by have:=HI0.q;omega),I (by have:=HI0.q;omega),I (by have:=HI0.q;omega)]));go_wp2_with fail;refine(oF _ zu.q).mono ?_;intro e wa he
       cases hmo:cO r9 with
       |error x=>
        rw[hmo] at he;obtain⟨rfl,hs⟩:=he;refine⟨rfl,?_⟩;show aX R s c w _ _ _ _;rw[oJ.q,ru hmo];exact⟨rfl,rA.q.cK hs⟩
       |ok br=>
        obtain⟨bb,ra⟩:=br;rw[hmo] at he;obtain⟨rfl,qa,hca,hma⟩:=he;have uj:=y hca;have um:=y (rA.q.trans hma);have nG:=y hmo;have c1:=hca.c1;clear hca hma hmo
        cases bb
        ·go_wp2_with fail
         refine bodyPost_end (results_none rfl _ _ _) rfl ?_;show aX R s c w _ _ _ _;rw[oJ.q,pR nG.q];exact⟨rfl,qa,_,uj.q,um.q⟩
        ·go_wp2_with fail
         refine(fA qa 220 _).mono ?_;rintro e wb ⟨rfl,rfl⟩;refine⟨rfl,?_⟩;show aX R s c w _ _ _ _;rw[oJ.q,rz nG.q];have:=uj.q.len;exact⟨by rw[show s.length - ra.length=qa by omega],um.q.same⟩
     ·have HI0:=y hi0
      clear hi0;have hact:gF (iv+1)=O N 0:=by unfold gF;rw[EZ.q,I (by have:=HI0.q;omega),I (by have:=HI0.q;omega)];simp
      have uf:=y BJ.q;have ug:=y D9.q;have uh:=y Ea.q;have mY:=y EM.q;have oG:=y (yK (R:=R) (by have:=mO.q;omega) sw.q);go_wp2_with fail;refine(vU w7 uf.q uh.q (w5.heap.size+1+1) 0 N N _ oG.q Ta.q sw.q.2.2 (by have:=mO.q;omega) (by have:=sP.q;omega) (by have:=sP.q;omega)).mono ?_;intro e w9 he;rw[←hact] at he
      cases hdo:iB (gF (iv+1)) n6 r with
      |error x=>
       rw[hdo] at he;obtain⟨rfl,hs⟩:=he;refine⟨rfl,?_⟩;show aX R s c w _ _ _ _;rw[o9.q x hdo];exact⟨rfl,ug.q.cK hs⟩
      |ok sQ=>
       obtain⟨u,n9,r9⟩:=sQ;rw[hdo] at he;obtain⟨rfl,q9,c9,oh,jh⟩:=he;have hkp:=pE _ hdo;have hal:(gF (iv+1)).length≤3:=by rw[hact];have:=mO.q;simp;omega
       have zu:=y oh;have rA:=y (ug.q.trans jh);have iY:=y (uh.q.mv uf.q jh.same);have vM:=y (wK.q _ _ _ hdo);have nR:=y (jh.bx mY.q rQ.q);have hf2:=nR.q.1 2;have vE:L (n9.names.length≤3∧n9.aF.length≤3∧n9.bits=0∧n9.first=M):=y (by have:=sP.q;exact⟨by omega,by omega,by rw[hkp.1];exact this.1,by rw[hkp.2.1];exact this.2.1⟩);have IE:L (w5.heap.size<w9.heap.size):=y (nR.q.2.2);have CR:L (kz R c9 w5.heap.size):=y (jh.IB rQ.q mY.q.2.2);clear oh jh hkp hal hdo hact;have hrs:jL (iv+1) n9 r9=(match iV 5 0 0 r9 with| .error x=> .error x| .ok (b,r)=> .ok ((),{n9 with bits:=b},r)):=by unfold jL;rw[if_pos (by have:=HI0.q;omega)] <;> rfl
       go_wp2_with fail;refine(IY _ zu.q iY.q vE.q.2.2.1).mono ?_;intro e Lx he;have he:aX R s c9 w9 (fun _:Unit=> .tuple #[]) (jL (iv+1) n9 r9) e Lx:=by rw[hrs];exact he
       cases hre:jL (iv+1) n9 r9 with
       |error x=>
        rw[hre] at he;obtain⟨rfl,hs⟩:=he;refine⟨rfl,?_⟩;show aX R s c w _ _ _ _;rw[vM.q,hre,vB];exact⟨rfl,rA.q.cK hs⟩
       |ok sQ=>
        obtain⟨u,na,CS⟩:=sQ;rw[hre] at he;obtain⟨rfl,Nw,c10,yL,yM⟩:=he;have EO:=y yL;have yN:=y (rA.q.trans yM);have oJ:L (Y=tF (.ok (u,na,CS))):=y (by rw[vM.q,hre]);clear yL yM hre hrs;go_wp2_with fail;refine(oF _ EO.q).mono ?_;intro e wa he
        cases hmo:cO CS with
        |error x=>
         rw[hmo] at he;obtain⟨rfl,hs⟩:=he;refine⟨rfl,?_⟩;show aX R s c w _ _ _ _;rw[oJ.q,ru hmo];exact⟨rfl,yN.q.cK hs⟩
        |ok br=>
         obtain⟨bb,ra⟩:=br;rw[hmo] at he;obtain⟨rfl,qa,hca,hma⟩:=he;have uj:=y hca;have um:=y (yN.q.trans hma);have nG:=y hmo;have c1:=hca.c1;clear hca hma hmo
         cases bb
         ·go_wp2_with fail
          refine bodyPost_end (results_none rfl _ _ _) rfl ?_;show aX R s c w _ _ _ _;rw[oJ.q,pR nG.q];exact⟨rfl,qa,_,uj.q,um.q⟩
         ·go_wp2_with fail
          refine(fA qa 220 _).mono ?_;rintro e wb ⟨rfl,rfl⟩;refine⟨rfl,?_⟩;show aX R s c w _ _ _ _;rw[oJ.q,rz nG.q];have:=uj.q.len;exact⟨by rw[show s.length - ra.length=qa by omega],um.q.same⟩
     ·have HI0:=y hi0
      clear hi0;have hact:gF (iv+1)=O N 0:=by unfold gF;rw[EZ.q,I (by have:=HI0.q;omega),I (by have:=HI0.q;omega)];simp
      have uf:=y BJ.q;have ug:=y D9.q;have uh:=y Ea.q;have mY:=y EM.q;have oG:=y (yK (R:=R) (by have:=mO.q;omega) sw.q);go_wp2_with fail;refine(vU w7 uf.q uh.q (w5.heap.size+1+1) 0 N N _ oG.q Ta.q sw.q.2.2 (by have:=mO.q;omega) (by have:=sP.q;omega) (by have:=sP.q;omega)).mono ?_;intro e w9 he;rw[←hact] at he
      cases hdo:iB (gF (iv+1)) n6 r with
      |error x=>
       rw[hdo] at he;obtain⟨rfl,hs⟩:=he;refine⟨rfl,?_⟩;show aX R s c w _ _ _ _;rw[o9.q x hdo];exact⟨rfl,ug.q.cK hs⟩
      |ok sQ=>
       obtain⟨u,n9,r9⟩:=sQ;rw[hdo] at he;obtain⟨rfl,q9,c9,oh,jh⟩:=he;have hkp:=pE _ hdo;have hal:(gF (iv+1)).length≤3:=by rw[hact];have:=mO.q;simp;omega
       have zu:=y oh;have rA:=y (ug.q.trans jh);have iY:=y (uh.q.mv uf.q jh.same);have vM:=y (wK.q _ _ _ hdo);have nR:=y (jh.bx mY.q rQ.q);have hf2:=nR.q.1 2;have vE:L (n9.names.length≤3∧n9.aF.length≤3∧n9.bits=0∧n9.first=M):=y (by have:=sP.q;exact⟨by omega,by omega,by rw[hkp.1];exact this.1,by rw[hkp.2.1];exact this.2.1⟩);have IE:L (w5.heap.size<w9.heap.size):=y (nR.q.2.2);have CR:L (kz R c9 w5.heap.size):=y (jh.IB rQ.q mY.q.2.2);clear oh jh hkp hal hdo hact;go_wp2_with fail;refine(Vg _ zu.q vE.q.2.2.2).mono ?_;intro e wf he
       cases hfi:jF r9 with
       |error x=>
        rw[hfi] at he;obtain⟨rfl,hs⟩:=he;refine⟨rfl,?_⟩;show aX R s c w _ _ _ _;rw[vM.q,show jL (iv+1) n9 r9= .error x by unfold jL;rw[I (by have:=HI0.q;omega),if_pos (by have:=HI0.q;omega),hfi],vB];exact⟨rfl,rA.q.cK hs⟩
       |ok fr=>
        obtain⟨f,rf⟩:=fr;rw[hfi] at he;obtain⟨rfl,qf,cf,hcf,KR⟩:=he;have HCf:=y hcf;have HMf:=y (rA.q.trans KR);have HGf:=y (iY.q.mv zu.q KR.same);have ahH:=y (KR.bx nR.q CR.q);have hf2:=ahH.q.1 2;have hrs:jL (iv+1) n9 r9=(match bJ M 300 (300+1) 0 {n9 with first:=f}.names {n9 with first:=f}.aF rf with| .error x=> .error x| .ok (b,r)=> .ok ((),{{n9 with first:=f} with names:=b.1,aF:=b.2},r)):=by unfold jL;rw[I (by have:=HI0.q;omega),if_pos (by have:=HI0.q;omega),hfi] <;> rfl
        clear hcf KR hfi;go_wp2_with fail;refine(CP _ HCf.q HGf.q 109 300 M (by rfl) (by rfl) aj (by have:=vE.q;show n9.names.length≤600;omega) (by have:=vE.q;show n9.aF.length≤600;omega)).mono ?_;intro e Lx he;have he:aX R s cf wf (fun _:Unit=> .tuple #[]) (jL (iv+1) n9 r9) e Lx:=by rw[hrs];exact he
        have rA:=y HMf.q
        cases hre:jL (iv+1) n9 r9 with
        |error x=>
         rw[hre] at he;obtain⟨rfl,hs⟩:=he;refine⟨rfl,?_⟩;show aX R s c w _ _ _ _;rw[vM.q,hre,vB];exact⟨rfl,rA.q.cK hs⟩
        |ok sQ=>
         obtain⟨u,na,CS⟩:=sQ;rw[hre] at he;obtain⟨rfl,Nw,c10,yL,yM⟩:=he;have EO:=y yL;have yN:=y (rA.q.trans yM);have oJ:L (Y=tF (.ok (u,na,CS))):=y (by rw[vM.q,hre]);clear yL yM hre hrs;go_wp2_with fail;refine(oF _ EO.q).mono ?_;intro e wa he
         cases hmo:cO CS with
         |error x=>
          rw[hmo] at he;obtain⟨rfl,hs⟩:=he;refine⟨rfl,?_⟩;show aX R s c w _ _ _ _;rw[oJ.q,ru hmo];exact⟨rfl,yN.q.cK hs⟩
         |ok br=>
          obtain⟨bb,ra⟩:=br;rw[hmo] at he;obtain⟨rfl,qa,hca,hma⟩:=he;have uj:=y hca;have um:=y (yN.q.trans hma);have nG:=y hmo;have c1:=hca.c1;clear hca hma hmo
          cases bb
          ·go_wp2_with fail
           refine bodyPost_end (results_none rfl _ _ _) rfl ?_;show aX R s c w _ _ _ _;rw[oJ.q,pR nG.q];exact⟨rfl,qa,_,uj.q,um.q⟩
          ·go_wp2_with fail
           refine(fA qa 220 _).mono ?_;rintro e wb ⟨rfl,rfl⟩;refine⟨rfl,?_⟩;show aX R s c w _ _ _ _;rw[oJ.q,rz nG.q];have:=uj.q.len;exact⟨by rw[show s.length - ra.length=qa by omega],um.q.same⟩
     ·have HI0:=y hi0
      clear hi0;have hact:gF (iv+1)=O N 0:=by unfold gF;rw[EZ.q,I (by have:=HI0.q;omega),I (by have:=HI0.q;omega)];simp
      have uf:=y BJ.q;have ug:=y D9.q;have uh:=y Ea.q;have mY:=y EM.q;have oG:=y (yK (R:=R) (by have:=mO.q;omega) sw.q);go_wp2_with fail;refine(vU w7 uf.q uh.q (w5.heap.size+1+1) 0 N N _ oG.q Ta.q sw.q.2.2 (by have:=mO.q;omega) (by have:=sP.q;omega) (by have:=sP.q;omega)).mono ?_;intro e w9 he;rw[←hact] at he
      cases hdo:iB (gF (iv+1)) n6 r with
      |error x=>
       rw[hdo] at he;obtain⟨rfl,hs⟩:=he;refine⟨rfl,?_⟩;show aX R s c w _ _ _ _;rw[o9.q x hdo];exact⟨rfl,ug.q.cK hs⟩
      |ok sQ=>
       obtain⟨u,n9,r9⟩:=sQ;rw[hdo] at he;obtain⟨rfl,q9,c9,oh,jh⟩:=he;have hkp:=pE _ hdo;have hal:(gF (iv+1)).length≤3:=by rw[hact];have:=mO.q;simp;omega
       have zu:=y oh;have rA:=y (ug.q.trans jh);have iY:=y (uh.q.mv uf.q jh.same);have vM:=y (wK.q _ _ _ hdo);have nR:=y (jh.bx mY.q rQ.q);have hf2:=nR.q.1 2;have vE:L (n9.names.length≤3∧n9.aF.length≤3∧n9.bits=0∧n9.first=M):=y (by have:=sP.q;exact⟨by omega,by omega,by rw[hkp.1];exact this.1,by rw[hkp.2.1];exact this.2.1⟩);have IE:L (w5.heap.size<w9.heap.size):=y (nR.q.2.2);have CR:L (kz R c9 w5.heap.size):=y (jh.IB rQ.q mY.q.2.2);clear oh jh hkp hal hdo hact;have hrs:jL (iv+1) n9 r9=(match bJ true 40 (40+1) 0 n9.names n9.aF r9 with| .error x=> .error x| .ok (b,r)=> .ok ((),{n9 with names:=b.1,aF:=b.2},r)):=by unfold jL;rw[I (by have:=HI0.q;omega),I (by have:=HI0.q;omega),if_pos (by have:=HI0.q;omega)] <;> rfl
       go_wp2_with fail;refine(CP _ zu.q iY.q 115 40 true (by rfl) (by rfl) aj (by have:=vE.q;omega) (by have:=vE.q;omega)).mono ?_;intro e Lx he;have he:aX R s c9 w9 (fun _:Unit=> .tuple #[]) (jL (iv+1) n9 r9) e Lx:=by rw[hrs];exact he
       cases hre:jL (iv+1) n9 r9 with
       |error x=>
        rw[hre] at he;obtain⟨rfl,hs⟩:=he;refine⟨rfl,?_⟩;show aX R s c w _ _ _ _;rw[vM.q,hre,vB];exact⟨rfl,rA.q.cK hs⟩
       |ok sQ=>
        obtain⟨u,na,CS⟩:=sQ;rw[hre] at he;obtain⟨rfl,Nw,c10,yL,yM⟩:=he;have EO:=y yL;have yN:=y (rA.q.trans yM);have oJ:L (Y=tF (.ok (u,na,CS))):=y (by rw[vM.q,hre]);clear yL yM hre hrs;go_wp2_with fail;refine(oF _ EO.q).mono ?_;intro e wa he
        cases hmo:cO CS with
        |error x=>
         rw[hmo] at he;obtain⟨rfl,hs⟩:=he;refine⟨rfl,?_⟩;show aX R s c w _ _ _ _;rw[oJ.q,ru hmo];exact⟨rfl,yN.q.cK hs⟩
        |ok br=>
         obtain⟨bb,ra⟩:=br;rw[hmo] at he;obtain⟨rfl,qa,hca,hma⟩:=he;have uj:=y hca;have um:=y (yN.q.trans hma);have nG:=y hmo;have c1:=hca.c1;clear hca hma hmo
         cases bb
         ·go_wp2_with fail
          refine bodyPost_end (results_none rfl _ _ _) rfl ?_;show aX R s c w _ _ _ _;rw[oJ.q,pR nG.q];exact⟨rfl,qa,_,uj.q,um.q⟩
         ·go_wp2_with fail
          refine(fA qa 220 _).mono ?_;rintro e wb ⟨rfl,rfl⟩;refine⟨rfl,?_⟩;show aX R s c w _ _ _ _;rw[oJ.q,rz nG.q];have:=uj.q.len;exact⟨by rw[show s.length - ra.length=qa by omega],um.q.same⟩
     ·have HI0:=y hi0
      clear hi0;have hact:gF (iv+1)=O N 0:=by unfold gF;rw[EZ.q,I (by have:=HI0.q;omega),I (by have:=HI0.q;omega)];simp
      have uf:=y BJ.q;have ug:=y D9.q;have uh:=y Ea.q;have mY:=y EM.q;have oG:=y (yK (R:=R) (by have:=mO.q;omega) sw.q);go_wp2_with fail;refine(vU w7 uf.q uh.q (w5.heap.size+1+1) 0 N N _ oG.q Ta.q sw.q.2.2 (by have:=mO.q;omega) (by have:=sP.q;omega) (by have:=sP.q;omega)).mono ?_;intro e w9 he;rw[←hact] at he
      cases hdo:iB (gF (iv+1)) n6 r with
      |error x=>
       rw[hdo] at he;obtain⟨rfl,hs⟩:=he;refine⟨rfl,?_⟩;show aX R s c w _ _ _ _;rw[o9.q x hdo];exact⟨rfl,ug.q.cK hs⟩
      |ok sQ=>
       obtain⟨u,n9,r9⟩:=sQ;rw[hdo] at he;obtain⟨rfl,q9,c9,oh,jh⟩:=he;have hkp:=pE _ hdo;have hal:(gF (iv+1)).length≤3:=by rw[hact];have:=mO.q;simp;omega
       have zu:=y oh;have rA:=y (ug.q.trans jh);have iY:=y (uh.q.mv uf.q jh.same);have vM:=y (wK.q _ _ _ hdo);have nR:=y (jh.bx mY.q rQ.q);have hf2:=nR.q.1 2;have vE:L (n9.names.length≤3∧n9.aF.length≤3∧n9.bits=0∧n9.first=M):=y (by have:=sP.q;exact⟨by omega,by omega,by rw[hkp.1];exact this.1,by rw[hkp.2.1];exact this.2.1⟩);have IE:L (w5.heap.size<w9.heap.size):=y (nR.q.2.2);have CR:L (kz R c9 w5.heap.size):=y (jh.IB rQ.q mY.q.2.2);clear oh jh hkp hal hdo hact;have hrs:jL (iv+1) n9 r9=(match bJ M 300 (300+1) 0 n9.names n9.aF r9 with| .error x=> .error x| .ok (b,r)=> .ok ((),{n9 with names:=b.1,aF:=b.2},r)):=by unfold jL;rw[I (by have:=HI0.q;omega),I (by have:=HI0.q;omega),I (by have:=HI0.q;omega),if_pos (by have:=HI0.q;omega)] <;> rfl
       go_wp2_with fail;refine(CP _ zu.q iY.q 116 300 M (by rfl) (by rfl) aj (by have:=vE.q;omega) (by have:=vE.q;omega)).mono ?_;intro e Lx he;have he:aX R s c9 w9 (fun _:Unit=> .tuple #[]) (jL (iv+1) n9 r9) e Lx:=by rw[hrs];exact he
       cases hre:jL (iv+1) n9 r9 with
       |error x=>
        rw[hre] at he;obtain⟨rfl,hs⟩:=he;refine⟨rfl,?_⟩;show aX R s c w _ _ _ _;rw[vM.q,hre,vB];exact⟨rfl,rA.q.cK hs⟩
       |ok sQ=>
        obtain⟨u,na,CS⟩:=sQ;rw[hre] at he;obtain⟨rfl,Nw,c10,yL,yM⟩:=he;have EO:=y yL;have yN:=y (rA.q.trans yM);have oJ:L (Y=tF (.ok (u,na,CS))):=y (by rw[vM.q,hre]);clear yL yM hre hrs;go_wp2_with fail;refine(oF _ EO.q).mono ?_;intro e wa he
        cases hmo:cO CS with
        |error x=>
         rw[hmo] at he;obtain⟨rfl,hs⟩:=he;refine⟨rfl,?_⟩;show aX R s c w _ _ _ _;rw[oJ.q,ru hmo];exact⟨rfl,yN.q.cK hs⟩
        |ok br=>
         obtain⟨bb,ra⟩:=br;rw[hmo] at he;obtain⟨rfl,qa,hca,hma⟩:=he;have uj:=y hca;have um:=y (yN.q.trans hma);have nG:=y hmo;have c1:=hca.c1;clear hca hma hmo
         cases bb
         ·go_wp2_with fail
          refine bodyPost_end (results_none rfl _ _ _) rfl ?_;show aX R s c w _ _ _ _;rw[oJ.q,pR nG.q];exact⟨rfl,qa,_,uj.q,um.q⟩
         ·go_wp2_with fail
          refine(fA qa 220 _).mono ?_;rintro e wb ⟨rfl,rfl⟩;refine⟨rfl,?_⟩;show aX R s c w _ _ _ _;rw[oJ.q,rz nG.q];have:=uj.q.len;exact⟨by rw[show s.length - ra.length=qa by omega],um.q.same⟩
     ·have HI0:=y hi0
      clear hi0;have hact:gF (iv+1)=O N 0:=by unfold gF;rw[EZ.q,I (by have:=HI0.q;omega),I (by have:=HI0.q;omega)];simp
      have uf:=y BJ.q;have ug:=y D9.q;have uh:=y Ea.q;have mY:=y EM.q;have oG:=y (yK (R:=R) (by have:=mO.q;omega) sw.q);go_wp2_with fail;refine(vU w7 uf.q uh.q (w5.heap.size+1+1) 0 N N _ oG.q Ta.q sw.q.2.2 (by have:=mO.q;omega) (by have:=sP.q;omega) (by have:=sP.q;omega)).mono ?_;intro e w9 he;rw[←hact] at he
      cases hdo:iB (gF (iv+1)) n6 r with
      |error x=>
       rw[hdo] at he;obtain⟨rfl,hs⟩:=he;refine⟨rfl,?_⟩;show aX R s c w _ _ _ _;rw[o9.q x hdo];exact⟨rfl,ug.q.cK hs⟩
      |ok sQ=>
       obtain⟨u,n9,r9⟩:=sQ;rw[hdo] at he;obtain⟨rfl,q9,c9,oh,jh⟩:=he;have hkp:=pE _ hdo;have hal:(gF (iv+1)).length≤3:=by rw[hact];have:=mO.q;simp;omega
       have zu:=y oh;have rA:=y (ug.q.trans jh);have iY:=y (uh.q.mv uf.q jh.same);have vM:=y (wK.q _ _ _ hdo);have nR:=y (jh.bx mY.q rQ.q);have hf2:=nR.q.1 2;have vE:L (n9.names.length≤3∧n9.aF.length≤3∧n9.bits=0∧n9.first=M):=y (by have:=sP.q;exact⟨by omega,by omega,by rw[hkp.1];exact this.1,by rw[hkp.2.1];exact this.2.1⟩);have IE:L (w5.heap.size<w9.heap.size):=y (nR.q.2.2);have CR:L (kz R c9 w5.heap.size):=y (jh.IB rQ.q mY.q.2.2);clear oh jh hkp hal hdo hact;have oJ:L (Y=tF (.ok ((),n9,r9))):=y (vM.q.trans (by unfold jL;rw[I (by have:=HI0.q;omega),I (by have:=HI0.q;omega),I (by have:=HI0.q;omega),I (by have:=HI0.q;omega)]));go_wp2_with fail;refine(oF _ zu.q).mono ?_;intro e wa he
       cases hmo:cO r9 with
       |error x=>
        rw[hmo] at he;obtain⟨rfl,hs⟩:=he;refine⟨rfl,?_⟩;show aX R s c w _ _ _ _;rw[oJ.q,ru hmo];exact⟨rfl,rA.q.cK hs⟩
       |ok br=>
        obtain⟨bb,ra⟩:=br;rw[hmo] at he;obtain⟨rfl,qa,hca,hma⟩:=he;have uj:=y hca;have um:=y (rA.q.trans hma);have nG:=y hmo;have c1:=hca.c1;clear hca hma hmo
        cases bb
        ·go_wp2_with fail
         refine bodyPost_end (results_none rfl _ _ _) rfl ?_;show aX R s c w _ _ _ _;rw[oJ.q,pR nG.q];exact⟨rfl,qa,_,uj.q,um.q⟩
        ·go_wp2_with fail
         refine(fA qa 220 _).mono ?_;rintro e wb ⟨rfl,rfl⟩;refine⟨rfl,?_⟩;show aX R s c w _ _ _ _;rw[oJ.q,rz nG.q];have:=uj.q.len;exact⟨by rw[show s.length - ra.length=qa by omega],um.q.same⟩
 ·go_wp2_with fail
  refine bodyPost_end (results_none rfl _ _ _) rfl ?_;show aX R s c w _ _ _ _;rw[HY.q];unfold jk;rw[if_pos hE];exact⟨rfl,q,c,HT3.q,qy.q⟩
def bZ (s:Bs) (p:J):aB × J × J:=
 if p<0∨(s.length:J)<p then(vZ,0,2)
 else match rE (s.drop p.toNat) with
  | .ok (n,r)=>(n,((s.length - r.length:Nat):J),0)
  | .error (r,m)=>(vZ,((s.length - r.length:Nat):J),m)
def XT (x:aB × J × J) (w:World) (e:Ending) (w':World):Prop:=
 ∃c:bf,e= .returned (.tuple #[kG c,C D x.2.1,C D x.2.2])∧gM w' w.heap.size c x.1∧Below w.heap.size w w'
@[reducible] def zw:bf:=⟨0,A,0,0,0,A,0,0,M,0⟩
theorem Am (w:World) (B:Nat):gM w B zw vZ:=⟨⟨rfl,rfl,rfl,rfl,rfl,rfl⟩,Own.iJ _ _ _ _ _,Own.iJ _ _ _ _ _⟩
theorem Qh {l r:Bs} (h:cO l= .ok (M,r)):gY r=true:=by
 unfold cO at h
 split at h
 ·rename_i h1
  injection h with h;injection h with _ h;rw[←h];exact h1
 ·split at h
  ·cases h
  ·injection h with h;injection h with h _;cases h
theorem Tc {l r:Bs} {n:aB} (h:jk l= .ok (n,r)):gY r=true:=by
 unfold jk at h
 split at h
 ·rename_i h1
  injection h with h;injection h with _ h;rw[←h];exact h1
 ·split at h
  ·cases h
  ·split at h
   ·cases h
   ·split at h
    ·cases h
    ·split at h
     ·cases h
     ·cases h
     ·rename_i hm
      injection h with h;injection h with _ h;rw[←h];exact Qh hm
theorem size_alloc (w:World) (o:Obj):(w.alloc o).heap.size=w.heap.size+1:=by simp
theorem Zl {l r:Bs} {n:aB} (h:jk l= .ok (n,r)):
  (qZ r).2=0∧(∃t,rE l= .ok (n,t)∧t.length+(qZ r).1=r.length)∨(qZ r).2≠0∧(∃t,rE l= .error (t,220)∧t.length+(qZ r).1=r.length):=by
 have akg:(jS r).length≤r.length:=by unfold jS;split <;> simp
 unfold rE;rw[h];unfold qZ;simp only[];by_cases h1:(jS r).head?=A
 ·rw[if_pos h1,if_pos h1];exact .inl ⟨rfl,[],rfl,by simp⟩
 ·rw[I h1,I h1]
  by_cases h2:(jS r).head?=F 10
  ·rw[if_pos h2,if_pos h2]
   refine .inl ⟨rfl,_,rfl,?_⟩;have:1≤(jS r).length:=by
    cases hq:jS r with
    |nil=>rw[hq] at h1;exact absurd rfl h1
    |cons a t=>simp
   simp only[List.length_tail];omega
  ·rw[I h2,I h2]
   exact .inr ⟨by simp,_,rfl,by simp only[];omega⟩
theorem vC {n:aB} {nx er:J} (tmps:Array Value) (c:bf) (w w':World) (h4:tmps[4]?.getD undef= H (F ⟨w.heap.size,0,A⟩)) (h5:tmps[5]?.getD undef= H (F ⟨w.heap.size+1,0,A⟩))
  (h6:tmps[6]?.getD undef= H (F ⟨w.heap.size+1+1,0,A⟩)) (h1:Bx w' w.heap.size (jE c)) (h2:Bx w' (w.heap.size+1) #[C D nx]) (h3:Bx w' (w.heap.size+1+1) #[C D er])
  (hl:gM w' w.heap.size c n) (hb:Below w.heap.size w w'):Leaves Tryz.prog Tryz.f78 tmps (XT (n,nx,er) w) [] .returning w':=by
 have a0:=h1.1 0;have a1:=h1.1 1;have a2:=h1.1 2;have a3:=h1.1 3;have a4:=h1.1 4;have a5:=h1.1 5;have b0:=h2.1 0;have c0:=h3.1 0;refine⟨.tuple #[kG c,C D nx,C D er],?_,c,rfl,hl,hb⟩;simp[results,results78,go_sem,h4,h5,h6,a0,a1,a2,a3,a4,a5,b0,c0]
theorem Td (s:Bs) (at_:J) (hlim:s.length≤1000000) (w:World) (hT:Lib.Utf8Tabs 6 7 w) (hE:xR w) (hL:nD w):
  Calls Tryz.prog 78 #[.string ⟨s.toArray⟩,C D at_] w (XT (bZ s at_) w):=by
 have hz:=fO s;by_cases h0:at_<0
 ·have hb0:decide (at_<0)=true:=by simpa using h0
  have hr:bZ s at_=(vZ,0,2):=by unfold bZ;rw[if_pos (.inl h0)]
  rw[hr];clear hr h0 hT hE hL
  go_enter_defers func78,ntmps78
  go_wp2_with fail;refine vC _ zw w _ rfl rfl rfl ?_ ?_ ?_ ?_ ?_
  ·exact((Bx.new w #[C D 0,G A 0 0,C D 0,G A 0 0,.bool M,C D 0] 34).alloc _).alloc _
  ·have:=(Bx.new (w.alloc (E #[C D 0,G A 0 0,C D 0,G A 0 0,.bool M,C D 0] 34)) #[C D 0] 3).alloc (E #[C D 2] 27)
   rw[size_alloc] at this;exact this
  ·have:=Bx.new ((w.alloc (E #[C D 0,G A 0 0,C D 0,G A 0 0,.bool M,C D 0] 34)).alloc (E #[C D 0] 3)) #[C D 2] 27
   rw[size_alloc,size_alloc] at this;exact this
  ·exact Am _ _
  ·exact(((S w.heap.size w).alloc (Z _) _).alloc ak _).alloc (by simp;omega) _
 ·have hb0:decide (at_<0)=M:=by simpa using h0
  by_cases h1:(s.length:J)<at_
  ·have hb1:decide ((s.length:J)<at_)=true:=by simpa using h1
   have hr:bZ s at_=(vZ,0,2):=by unfold bZ;rw[if_pos (.inr h1)]
   rw[hr];clear hr h0 h1 hT hE hL
   go_enter_defers func78,ntmps78
   go_wp2_with fail;refine vC _ zw w _ rfl rfl rfl ?_ ?_ ?_ ?_ ?_
   ·exact((Bx.new w #[C D 0,G A 0 0,C D 0,G A 0 0,.bool M,C D 0] 34).alloc _).alloc _
   ·have:=(Bx.new (w.alloc (E #[C D 0,G A 0 0,C D 0,G A 0 0,.bool M,C D 0] 34)) #[C D 0] 3).alloc (E #[C D 2] 27)
    rw[size_alloc] at this;exact this
   ·have:=Bx.new ((w.alloc (E #[C D 0,G A 0 0,C D 0,G A 0 0,.bool M,C D 0] 34)).alloc (E #[C D 0] 3)) #[C D 2] 27
    rw[size_alloc,size_alloc] at this;exact this
   ·exact Am _ _
   ·exact(((S w.heap.size w).alloc (Z _) _).alloc ak _).alloc (by simp;omega) _
  ·have hb1:decide ((s.length:J)<at_)=M:=by simpa using h1
   obtain⟨p,rfl⟩:∃p:Nat,at_=(p:J):=⟨at_.toNat,by omega⟩;have hp:p≤s.length:=by omega
   have KR:∀(fn:Fn) (first cap:Array Value) (w:World),(Instr.makeFunc fn first cap).run Tryz.prog w= .ok (.func fn first cap) w:=fun _ _ _ _=>rfl
   clear h0 h1
   go_enter_defers func78,ntmps78
   have hb4:=(((S w.heap.size w).alloc (Z _) (E #[C D 0,G A 0 0,C D 0,G A 0 0,.bool M,C D 0] 34)).alloc ak (E #[C D 0] 3)).alloc (by simp;omega) (E #[C D 0] 27)|>.alloc (by simp;omega) (E (qg s p zw) 226);have hx1:=(((Bx.new w #[C D 0,G A 0 0,C D 0,G A 0 0,.bool M,C D 0] 34).alloc (E #[C D 0] 3)).alloc (E #[C D 0] 27)).alloc (E (qg s p zw) 226);have hx2:=((Bx.new (w.alloc (E #[C D 0,G A 0 0,C D 0,G A 0 0,.bool M,C D 0] 34)) #[C D 0] 3).alloc (E #[C D 0] 27)).alloc (E (qg s p zw) 226);have hx3:=(Bx.new ((w.alloc (E #[C D 0,G A 0 0,C D 0,G A 0 0,.bool M,C D 0] 34)).alloc (E #[C D 0] 3)) #[C D 0] 27).alloc (E (qg s p zw) 226);have hx4:=Bx.new (((w.alloc (E #[C D 0,G A 0 0,C D 0,G A 0 0,.bool M,C D 0] 34)).alloc (E #[C D 0] 3)).alloc (E #[C D 0] 27)) (qg s p zw) 226;obtain⟨b,hb⟩:∃b,b=w.heap.size:=⟨_,rfl⟩;obtain⟨W4,hW4⟩:∃W4,W4=(((w.alloc (E #[C D 0,G A 0 0,C D 0,G A 0 0,.bool M,C D 0] 34)).alloc (E #[C D 0] 3)).alloc (E #[C D 0] 27)).alloc (E #[.string ⟨s.toArray⟩,C D (p:J),C D 0,G A 0 0,C D 0,G A 0 0,.bool M,C D 0] 226):=⟨_,rfl⟩;rw[←hW4] at hb4 hx1 hx2 hx3 hx4;simp only[size_alloc] at hx2 hx3 hx4;have hgr:rX (w.heap.size+1+1+1) W4:=⟨w,by omega,hb4,hT,hE,hL⟩;have hrc:dG W4 (w.heap.size+1+1+1) s p (s.drop p) zw vZ:=⟨hx4,Am _ _,rfl,hp,hlim⟩;have sF:=y (Zk W4 hrc hgr);have HX:=y (⟨hx1,hx2,hx3⟩:_∧_∧_);have HA1:L (kz (w.heap.size+1+1+1) zw w.heap.size∧kz (w.heap.size+1+1+1) zw (w.heap.size+1)∧kz (w.heap.size+1+1+1) zw (w.heap.size+1+1)):=y ⟨hrc.old ah,hrc.old ah,hrc.old ah⟩;have dL:=y hb4;have HGR:=y hgr;have CR:=y hrc;have HW4:=y hW4;clear hW4 hx1 hx2 hx3 hx4 hb4 hgr hrc hE hL hb;go_wp2_with fail;rw[←HW4.q];refine sF.q.mono ?_;intro e w5 he
   cases hrd:jk (s.drop p) with
   |error x=>
    rw[hrd] at he;obtain⟨rfl,hs⟩:=he;have hrl:bZ s p=(vZ,((s.length - x.1.length:Nat):J),x.2):=by
     unfold bZ rE;rw[I ah,Int.toNat_natCast,hrd]
    rw[hrl];refine leaves_cons (f:=161) (args:=#[H (F ⟨w.heap.size,0,A⟩),H (F ⟨w.heap.size+1,0,A⟩),H (F ⟨w.heap.size+1+1,0,A⟩)]) ak (by simp[go_sem]) ?_;refine(Io w.heap.size ((s.length - x.1.length:Nat):J) x.2 _ _ _ _ _ _ _ _ [] w5 (hs.bx HX.q.1 HA1.q.1) (hs.bx HX.q.2.1 HA1.q.2.1) (hs.bx HX.q.2.2 HA1.q.2.2)).mono ?_;rintro e u' w6 ⟨rfl,rfl,k1,k2,k3,k4⟩;exact vC _ zw w w6 rfl rfl rfl k1 k2 k3 (Am _ _) ((hs.below dL.q (fun i hi=>CR.q.old ah) dL.q.size).trans k4)
   |ok nr=>
    obtain⟨n,r⟩:=nr;rw[hrd] at he;obtain⟨rfl,p5,c5,vg,CQ⟩:=he;have HLO:=y (Zl hrd);have iO:=y vg;have vI:=y CQ;have jq:=y (⟨CQ.bx HX.q.1 HA1.q.1,CQ.bx HX.q.2.1 HA1.q.2.1,CQ.bx HX.q.2.2 HA1.q.2.2⟩:_∧_∧_);have yc:=y (HGR.q.mv CR.q CQ.same).tabs;have dS:=y (CQ.same.below dL.q (fun i hi=>CR.q.old ah) dL.q.size);have c1:=vg.c1;have ahI:=y (Tc hrd);have akh:=y hrd;clear vg CQ hrd;go_wp2_with fail;refine(ab2 s p5 r iO.q.d iO.q.le hlim ahI.q w5 yc.q).mono ?_;rintro e w6 ⟨k,a,t,g,rfl,hb6⟩;have qp:=y (iO.q.below hb6);have DK:=I9 jq.q hb6;have mH:=y DK;have oC:=y (dS.q.bD hb6);have y1:=DK.2.1.1 0;have y2:=DK.2.2.1 0;have g1:=DK.2.1.2.1 0;have g2:=DK.2.2.2.1 0;obtain⟨er,her⟩:∃er,er=(qZ r).2:=⟨_,rfl⟩;obtain⟨nx,hnx⟩:∃nx,nx=p5+(qZ r).1:=⟨_,rfl⟩;rw[←her,←hnx];rw[←her] at HLO;have DC:=y hnx;clear hb6 DK c1 her hnx;obtain⟨V,hV⟩:∃V:World,V=(w6.setCell ⟨w.heap.size+1,0,A⟩ (C D (nx:J))).setCell ⟨w.heap.size+1+1,0,A⟩ (C D er):=⟨_,rfl⟩;have HV:L (Bx V w.heap.size #[C D 0,G A 0 0,C D 0,G A 0 0,.bool M,C D 0]∧Bx V (w.heap.size+1) #[C D (nx:J)]∧Bx V (w.heap.size+1+1) #[C D er]∧dG V (w.heap.size+1+1+1) s p5 r c5 n∧Below w.heap.size w V):=y (by
     rw[hV];refine⟨(mH.q.1.setOther _ _ _ ah).setOther _ _ _ ah,(mH.q.2.1.aU 0 ak _).setOther _ _ _ ah,(mH.q.2.2.setOther _ _ _ ah).aU 0 ak _,?_,?_⟩
     ·have h1:=qp.q.put (w.heap.size+1) 0 (C D (nx:J)) (qp.q.old ah)
      exact h1.put (w.heap.size+1+1) 0 _ (h1.old ah)
     ·exact(oC.q.setCell (p:=⟨w.heap.size+1,0,A⟩) ak _).setCell (p:=⟨w.heap.size+1+1,0,A⟩) (by simp;omega) _)
    have KD:=y hV;clear hV;rcases HLO.q with⟨h0,t',hl,htl⟩|⟨h0,t',hl,htl⟩
    ·subst h0
     have hrl:bZ s p=(n,(nx:J),0):=by
      unfold bZ;rw[I ah,Int.toNat_natCast,hl];have:=iO.q.len;have:=DC.q;simp only[show s.length - t'.length=nx by omega]
     have dX:=y hrl;clear hl htl hrl;go_wp2_with fail;rw[←KD.q];have v1:=HV.q.2.1.1 0;have v2:=HV.q.2.2.1.1 0;have v0:=HV.q.1.1;have k0:=HV.q.1.2.1;have k1:=HV.q.2.1.2.1 0;have k2:=HV.q.2.2.1.2.1 0;have LA:=HV.q.2.2.2.1.x.1;obtain⟨V2,hV2⟩:∃V2:World,V2=((((((V.setCell ⟨w.heap.size,0,A⟩ (C D c5.kind)).setCell ⟨w.heap.size,1,A⟩ (G c5.na c5.nn c5.nc)).setCell ⟨w.heap.size,2,A⟩ (C D c5.lvl)).setCell ⟨w.heap.size,3,A⟩ (G c5.va c5.vn c5.vc)).setCell ⟨w.heap.size,4,A⟩ (.bool c5.first)).setCell ⟨w.heap.size,5,A⟩ (C D c5.bits)).drew:=⟨_,rfl⟩;have rY:L (Bx V2 w.heap.size (jE c5)∧Bx V2 (w.heap.size+1) #[C D (nx:J)]∧Bx V2 (w.heap.size+1+1) #[C D 0]∧dG V2 (w.heap.size+1+1+1) s p5 r c5 n∧Below w.heap.size w V2):=y (by
      rw[hV2];refine⟨?_,?_,?_,?_,?_⟩
      ·exact((((((HV.q.1.aU 0 ak _).aU 1 ak _).aU 2 ak _).aU 3 ak _).aU 4 ak _).aU 5 ak _).drew
      ·exact((((((HV.q.2.1.setOther _ 0 _ ah).setOther _ 1 _ ah).setOther _ 2 _ ah).setOther _ 3 _ ah).setOther _ 4 _ ah).setOther _ 5 _ ah).drew
      ·exact((((((HV.q.2.2.1.setOther _ 0 _ ah).setOther _ 1 _ ah).setOther _ 2 _ ah).setOther _ 3 _ ah).setOther _ 4 _ ah).setOther _ 5 _ ah).drew
      ·have hA:=HV.q.2.2.2.1.old (i:=w.heap.size) ah
       exact((((((HV.q.2.2.2.1.put _ 0 _ hA).put _ 1 _ hA).put _ 2 _ hA).put _ 3 _ hA).put _ 4 _ hA).put _ 5 _ hA).drew
      ·exact((((((HV.q.2.2.2.2.setCell (p:=⟨w.heap.size,0,A⟩) (Z _) _).setCell (p:=⟨w.heap.size,1,A⟩) (Z _) _).setCell (p:=⟨w.heap.size,2,A⟩) (Z _) _).setCell (p:=⟨w.heap.size,3,A⟩) (Z _) _).setCell (p:=⟨w.heap.size,4,A⟩) (Z _) _).setCell (p:=⟨w.heap.size,5,A⟩) (Z _) _).drew)
     have ahJ:=y hV2;clear hV2;refine aI 99 [(0,0),(1,0),(2,0),(3,0),(4,0),(5,2),(6,2),(7,2)] (fun _=>True) (fun W'=>W'.cell? ⟨w.heap.size+1+1+1,2,A⟩=F (C D c5.kind)∧W'.cell? ⟨w.heap.size+1+1+1,3,A⟩=F (G c5.na c5.nn c5.nc)∧W'.cell? ⟨w.heap.size+1+1+1,4,A⟩=F (C D c5.lvl)∧W'.cell? ⟨w.heap.size+1+1+1,5,A⟩=F (G c5.va c5.vn c5.vc)∧W'.cell? ⟨w.heap.size+1+1+1,6,A⟩=F (.bool c5.first)∧W'.cell? ⟨w.heap.size+1+1+1,7,A⟩=F (C D c5.bits)∧W'.cell? ⟨w.heap.size+1,0,A⟩=F (C D (nx:J))) au au (trivial) (⟨LA 2,LA 3,LA 4,LA 5,LA 6,LA 7,v1⟩) ?_;refine qC ?_;refine aD rfl rfl (fun K hK=>?_);go_simp;rw[←ahJ.q];refine hK _ _ ⟨trivial,rY.q.2.2.2.1.x.1 2,rY.q.2.2.2.1.x.1 3,rY.q.2.2.2.1.x.1 4,rY.q.2.2.2.1.x.1 5,rY.q.2.2.2.1.x.1 6,rY.q.2.2.2.1.x.1 7,rY.q.2.1.1 0⟩ ?_;clear hK K v1 v2 v0 k0 k1 k2 LA;have v1:=rY.q.2.1.1 0;have v2:=rY.q.2.2.1.1 0;have k1:=rY.q.2.1.2.1 0;have k2:=rY.q.2.2.1.2.1 0;have hr1:=rY.q.2.2.2.1.put (w.heap.size+1) 0 (C D (nx:J)) (rY.q.2.2.2.1.old ah);have hr2:=hr1.put (w.heap.size+1+1) 0 (C D 0) (hr1.old ah);have hq1:=rY.q.2.1.aU 0 ak (C D (nx:J));have hq2:=hq1.setOther (w.heap.size+1+1) 0 (C D 0) ah;have HR1:=y (⟨hr1,hq1⟩:_∧_);have HR2:=y (⟨hr2,hq2⟩:_∧_);clear hr1 hr2 hq1 hq2;refine aD rfl rfl (fun K hK=>?_);go_simp;refine hK _ _ ⟨trivial,HR1.q.1.x.1 2,HR1.q.1.x.1 3,HR1.q.1.x.1 4,HR1.q.1.x.1 5,HR1.q.1.x.1 6,HR1.q.1.x.1 7,HR1.q.2.1 0⟩ ?_;clear hK K;refine aD rfl rfl (fun K hK=>?_);go_simp;refine hK _ _ ⟨trivial,HR2.q.1.x.1 2,HR2.q.1.x.1 3,HR2.q.1.x.1 4,HR2.q.1.x.1 5,HR2.q.1.x.1 6,HR2.q.1.x.1 7,HR2.q.2.1 0⟩ ?_;clear hK K;refine bn ?_;go_wp2_with fail;obtain⟨V3,Iq⟩:∃V3:World,V3=(V2.setCell ⟨w.heap.size+1,0,A⟩ (C D (nx:J))).setCell ⟨w.heap.size+1+1,0,A⟩ (C D 0):=⟨_,rfl⟩;rw[←Iq];have hfin:Bx V3 w.heap.size (jE c5)∧Bx V3 (w.heap.size+1) #[C D (nx:J)]∧Bx V3 (w.heap.size+1+1) #[C D 0]∧dG V3 (w.heap.size+1+1+1) s p5 r c5 n∧Below w.heap.size w V3:=by
      rw[Iq];refine⟨(rY.q.1.setOther _ 0 _ ah).setOther _ 0 _ ah,(rY.q.2.1.aU 0 ak _).setOther _ 0 _ ah,(rY.q.2.2.1.setOther _ 0 _ ah).aU 0 ak _,?_,?_⟩
      ·have h1:=rY.q.2.2.2.1.put (w.heap.size+1) 0 (C D (nx:J)) (rY.q.2.2.2.1.old ah)
       exact h1.put (w.heap.size+1+1) 0 _ (h1.old ah)
      ·exact(rY.q.2.2.2.2.setCell (p:=⟨w.heap.size+1,0,A⟩) ak _).setCell (p:=⟨w.heap.size+1+1,0,A⟩) (by simp;omega) _
     refine leaves_cons (f:=161) (args:=#[H (F ⟨w.heap.size,0,A⟩),H (F ⟨w.heap.size+1,0,A⟩),H (F ⟨w.heap.size+1+1,0,A⟩)]) ak (by simp[go_sem]) ?_;refine(Vz w.heap.size V3).mono ?_;rintro e u' w7 ⟨rfl,rfl,rfl⟩;rw[dX.q];exact vC _ c5 w w7 rfl rfl rfl hfin.1 hfin.2.1 hfin.2.2.1 (hfin.2.2.2.1.n.mono ah) hfin.2.2.2.2
    ·have hne:(er !=0)=true:=by simpa using h0
     have hrl:bZ s p=(vZ,(nx:J),220):=by
      unfold bZ;rw[I ah,Int.toNat_natCast,hl];have:=iO.q.len;have:=DC.q;simp only[show s.length - t'.length=nx by omega]
     have dX:=y hrl;clear hl htl hrl;go_wp2_with fail;rw[←KD.q];refine(fA nx 220 _).mono ?_;rintro e wb ⟨rfl,rfl⟩;refine leaves_cons (f:=161) (args:=#[H (F ⟨w.heap.size,0,A⟩),H (F ⟨w.heap.size+1,0,A⟩),H (F ⟨w.heap.size+1+1,0,A⟩)]) ak (by simp[go_sem]) ?_;refine(Io w.heap.size (nx:J) 220 _ _ _ _ _ _ _ _ [] wb HV.q.1 HV.q.2.1 HV.q.2.2.1).mono ?_;rintro e u' w7 ⟨rfl,rfl,k1,k2,k3,k4⟩;rw[dX.q];exact vC _ zw w w7 rfl rfl rfl k1 k2 k3 (Am _ _) (HV.q.2.2.2.2.trans k4)
end Yd
