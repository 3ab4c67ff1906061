import Derived.Test.YtnhnhmeogckgpaaGreatDoorTCuK
import Derived.Test.YtnhnhmeogckgpaaGreatDoorTDown13
set_option linter.all false
set_option maxRecDepth 200000
set_option maxHeartbeats 8000000
namespace Yd
open Bool renaming false→Z
open List renaming replicate→O
open Nat renaming le_refl→M
open Option renaming none→C,some→G
open Go Go.RowKit Go.Proofs Tryz
open Below renaming refl→S
open Go.IntKind renaming i64→E
open Go.Obj renaming cells→F
open Go.Value renaming int→D,slice→H,pointer→I
open Yd renaming hid→A
open _root_ renaming if_neg→J,Int→L
theorem BP {R p:Nat} {s l:Bs} {c:aV} {n:aB} (w:World) (h:bX w R s p l c n) (hG:qp R w) (rr:L) (most:Nat) (pairs:Bool) (hmr:fE rr=(most:L)) (xJ:(rr==115)=pairs) (hml:most≤300) (hn:n.names.length≤600) (hv:n.aA.length≤600):
  Calls Tryz.prog 225 #[I (G ⟨R,0,C⟩),.int .i32 rr] w (bQ R s c w (fun _:Unit=> .tuple #[]) (match bf pairs most (most+1) 0 n.names n.aA l with| .error x=> .error x| .ok (b,r)=> .ok ((),{n with names:=b.1,aA:=b.2},r))):=by
 obtain⟨Y,hY⟩:∃Y:Except Er (Unit × aB × Bs),Y=(match bf pairs most (most+1) 0 n.names n.aA l with| .error x=> .error x| .ok (b,r)=> .ok ((),{n with names:=b.1,aA:=b.2},r)):=⟨_,rfl⟩;rw[←hY];obtain⟨X,hX⟩:∃X:Except Er ((List Bs × List To) × Bs),X=bf pairs most (most+1) 0 n.names n.aA l:=⟨_,rfl⟩;rw[←hX] at hY;have rY:Hid (∀x,X= .error x→Y= .error x):=A (fun x hx=>by rw[hY,hx]);have BO:Hid (∀b r,X= .ok (b,r)→Y= .ok ((),{n with names:=b.1,aA:=b.2},r)):=A (fun b r hx=>by rw[hY,hx]);clear hY;obtain⟨i,z,hi,hz,hsize,bP,hzs⟩:=oZ;have HI:=A (⟨hi,hz,hsize,bP,hzs⟩:_∧_∧_∧_∧_);have HX:=A hX;have HH:=A h;have HG:=A hG;have HN:=A (⟨hn,hv⟩:_∧_);have Yg:=A hmr;have Yq:=A hml;clear hX h hG hn hv hi hz hsize bP hzs hml;have adJ:=A (fun W=>KV rr W);clear hmr;go_enter func225,ntmps225;go_wp2_with fail
 go_loopw [4] (fun i wr=>∃(W:World) (k f q:Nat) (l1:Bs) (c1:aV) (n1:aB),W=wr∧i= D E k∧k≤most∧most+1≤f+k∧bX W R s q l1 c1 n1∧Mv R c c1 w W∧qp R W∧bf pairs most f k n1.names n1.aA l1=X∧(∀ns vs,{n1 with names:=ns,aA:=vs}={n with names:=ns,aA:=vs})∧n1.names.length≤600+k∧n1.aA.length≤600+k) (fun i _=>most - (RowKit.intOf i).toNat)
 case atStart=>exact⟨_,0,most+1,p,l,c,n,rfl,rfl,by omega,by omega,HH.q,Mv.refl _ _ _,HG.q,HX.q.symm,fun _ _=>rfl,HN.q.1,HN.q.2⟩
 case round=>
  obtain⟨W,k,f,q,l1,c1,n1,rfl,rfl,hk,hf,hc,hm,hg,hx,hq,h1,h2⟩:=hrel;obtain⟨f,rfl⟩:∃f',f=f'+1:=⟨f - 1,by omega⟩;simp only[bf] at hx;have HC:=A hc;have HM:=A hm;have SK:=A hg;have tF:=A hx;have HQ:=A hq;have Ay:=A (⟨h1,h2⟩:_∧_);have HF:=A hf;have HK:=A hk;have BQ:=A (zl W hc);clear hc hm hg hx hq h1 h2 hf;go_wp2_with fail;refine BQ.q.mono ?_;intro e w2 he
  cases hmo:bN l1 with
  |error x=>
   rw[hmo] at he;obtain⟨rfl,hs⟩:=he;refine⟨rfl,?_⟩;show bQ R s c w _ _ _ _;rw[rY.q x (by have:=tF.q;rw[hmo] at this;exact this.symm)];exact⟨rfl,HM.q.gW hs⟩
  |ok br=>
   obtain⟨bb,r⟩:=br;rw[hmo] at he;obtain⟨rfl,q2,hc2,hm2⟩:=he;have cu:=A hc2;have j6:=A (HM.q.trans hm2);have HG2:=A (SK.q.mv HC.q hm2.same)
   cases bb
   ·have cO:Hid (X= .ok ((n1.names,n1.aA),r)):=A (by have:=tF.q;rw[hmo] at this;exact this.symm)
    clear hc2 hm2 hmo;go_wp2_with fail;refine bodyPost_end (results_none rfl _ _ _) rfl ?_;show bQ R s c w _ _ _ _;rw[BO.q _ _ cO.q,←HQ.q];exact⟨rfl,q2,c1,cu.q,j6.q⟩
   ·have cO:Hid ((if k=most∧bL r=true then .error (r,3) else match bI r with
     | .error x=> .error x
     | .ok (nm,r1)=>
      if pairs=true then match bW r1 with
       | .error x=> .error x
       | .ok r2=>match dQ r2 with
        | .error x=> .error x
        | .ok (v,r3)=>bf pairs most f (k+1) (n1.names++[nm]) (n1.aA++[v]) r3
      else bf pairs most f (k+1) (n1.names++[nm]) n1.aA r1)=X):=A (by have:=tF.q;rw[hmo] at this;exact this)
    have G6:Hid ((Value.slice c1.na c1.nn c1.nc).ownBlock≠G R):=A (hc2.n.2.1.far' (.inl ah));have hcn:=hc2.n.1.2.2.2.2.1;have iK:Hid (n1.names.length+1=c1.nn+1):=A ah;have gX:Hid ((c1.nn+1)*16≤140737488355328):=A (by have:=Ay.q;have:=Yq.q;omega);have fH:Hid (c1.nn+1≤maxLen):=A (by have:=Ay.q;have:=Yq.q;unfold maxLen;omega);clear hcn;by_cases hkm:k=most
    ·have hev:((k:L)==fE rr)=true:=by rw[Yg.q,hkm];exact beq_self_eq_true _
     have HKM:=A hkm;clear hkm;have Bg:=A (fun W (hb:Below w2.heap.size w2 W)=>Gf W (hc2.below hb) (Utf8Tabs_below HG2.q.tabs hb));clear hc2 hm2 hmo;go_wp2_with fail;refine(adJ.q w2).mono ?_;rintro e w3' ⟨rfl,adK⟩;have Wd:=A adK;clear adK;go_wp2_with fail;refine(Bg.q w3' Wd.q).mono ?_;rintro e w3 ⟨rfl,hb3⟩;have bK:=A (Wd.q.trans (hb3.mono Wd.q.size));clear hb3
     cases hbe:bL r
     ·have HE:Hid (∀x,bI r= .error x→X= .error x):=A (fun x hx=>by rw[←cO.q,J (by rw[hbe];simp),hx])
      have I6:Hid (∀mr,bI r≠ .ok mr):=A (fun mr hx=>by simp[bI,hbe] at hx);have jM:=A (cu.q.below bK.q);have oJ:=A (j6.q.trans (Mv.of_below bK.q));have jZ:=A (HG2.q.mv cu.q (Mv.of_below bK.q:Mv R c1 c1 w2 w3).same);have vH:=A (fun W (hb:Below w3.heap.size w3 W)=>Ck W (jM.q.below hb) (Utf8Tabs_below jZ.q.tabs hb));have HB0:Hid (Below w3.heap.size w3 w3.drew):=A ((S _ _).drew);have RES:Hid (∀ch w',(∃(r':Bs) (m:L),bI r= .error (r',m)∧ch=lM (s.length - r'.length) m∧Same (kS R c1) w3.drew w')→bQ R s c w (fun _:Unit=> .tuple #[]) Y (.panicked ch) w'):=A (by
       rintro ch w' ⟨r',m,h1,rfl,h2⟩;rw[rY.q _ (HE.q _ h1)];exact⟨rfl,(oJ.q.trans (Mv.of_below HB0.q)).gW h2⟩)
      go_wp2_with fail;refine bF 13 [(0,1),(1,1),(2,1),(3,1),(4,1),(5,0),(6,1),(7,2),(8,2),(9,2),(10,1),(11,1),(12,1),(13,2)] (fun _=>True) (fun W'=>W'.cell? ⟨R,3,C⟩=G (H c1.na c1.nn c1.nc)) (fun ch w'=>∃(r':Bs) (m:L),bI r= .error (r',m)∧ch=lM (s.length - r'.length) m∧Same (kS R c1) w3.drew w') au au (fun ch a1 w1 hd hr=>⟨hd,RES.q ch w1 hr⟩) (trivial) (jM.q.drew.c3) ?_;refine qC ?_;refine aF rfl rfl (fun K hK=>?_);go_simp;refine(vH.q _ HB0.q).mono ?_;intro e w4 he
      cases hnm:bI r with
      |error x=>
       rw[hnm] at he;obtain⟨rfl,hs⟩:=he;exact⟨rfl,x.1,x.2,rfl,rfl,hs⟩
      |ok mr=>
      exact absurd hnm (I6.q mr)
     ·have HE:Hid (X= .error (r,3)):=A (by rw[←cO.q,if_pos ⟨HKM.q,hbe⟩])
      have jM:=A (cu.q.below bK.q);have hc1:=jM.q.x.1 1;go_wp2_with fail;refine(jT q2 3 _).mono ?_;rintro e w4 ⟨rfl,rfl⟩;refine⟨rfl,?_⟩;show bQ R s c w _ _ _ _;rw[rY.q _ HE.q];have hlen:=jM.q.len;exact⟨by rw[show s.length - r.length=q2 by omega],(j6.q.trans (Mv.of_below bK.q)).same⟩
    ·have hev:((k:L)==fE rr)=Z:=by rw[Yg.q];exact beq_eq_false_iff_ne.2 ah
     have HE:Hid (∀x,bI r= .error x→X= .error x):=A (fun x hx=>by rw[←cO.q,J (fun e=>hkm e.1),hx]);clear hc2 hm2 hmo;go_wp2_with fail;refine(adJ.q w2).mono ?_;rintro e w3 ⟨rfl,hb3⟩;have bK:=A hb3;clear hb3;have jM:=A (cu.q.below bK.q);have oJ:=A (j6.q.trans (Mv.of_below bK.q));have jZ:=A (HG2.q.mv cu.q (Mv.of_below bK.q:Mv R c1 c1 w2 w3).same);have vH:=A (fun W (hb:Below w3.heap.size w3 W)=>Ck W (jM.q.below hb) (Utf8Tabs_below jZ.q.tabs hb));have HB0:Hid (Below w3.heap.size w3 w3.drew):=A ((S _ _).drew);have RES:Hid (∀ch w',(∃(r':Bs) (m:L),bI r= .error (r',m)∧ch=lM (s.length - r'.length) m∧Same (kS R c1) w3.drew w')→bQ R s c w (fun _:Unit=> .tuple #[]) Y (.panicked ch) w'):=A (by
      rintro ch w' ⟨r',m,h1,rfl,h2⟩;rw[rY.q _ (HE.q _ h1)];exact⟨rfl,(oJ.q.trans (Mv.of_below HB0.q)).gW h2⟩)
     go_wp2_with fail;refine bF 13 [(0,1),(1,1),(2,1),(3,1),(4,1),(5,0),(6,1),(7,2),(8,2),(9,2),(10,1),(11,1),(12,1),(13,2)] (fun _=>True) (fun W'=>W'.cell? ⟨R,3,C⟩=G (H c1.na c1.nn c1.nc)) (fun ch w'=>∃(r':Bs) (m:L),bI r= .error (r',m)∧ch=lM (s.length - r'.length) m∧Same (kS R c1) w3.drew w') au au (fun ch a1 w1 hd hr=>⟨hd,RES.q ch w1 hr⟩) (trivial) (jM.q.drew.c3) ?_;refine qC ?_;refine aF rfl rfl (fun K hK=>?_);go_simp;refine(vH.q _ HB0.q).mono ?_;intro e w4 he
     cases hnm:bI r with
     |error x=>
      rw[hnm] at he;obtain⟨rfl,hs⟩:=he;exact⟨rfl,x.1,x.2,rfl,rfl,hs⟩
     |ok mr=>
     obtain⟨m,r4⟩:=mr;rw[hnm] at he;obtain⟨rfl,p4,hc4,hm4⟩:=he;have iG:=A hc4;have Az:=A ((oJ.q.trans (Mv.of_below HB0.q)).trans hm4);have Cz:=A hnm;refine hK _ _ ⟨trivial,hc4.c3⟩ ?_;have ql:Hid (R+1≤(w4.alloc (F #[.string ⟨m.toArray⟩] 9)).heap.size):=A (by have:=hc4.x.2.2;simp;omega);have SL:=A (jZ.q.mv jM.q ((Mv.of_below HB0.q:Mv R c1 c1 w3 w3.drew).trans hm4).same);clear hK K hc4 hm4 hnm;refine aF rfl rfl (fun K hK=>?_);go_simp;refine hK _ _ ⟨trivial,(iG.q.below (av (S _ _) _)).c3⟩ ?_;clear hK K;refine aF rfl rfl (fun K hK=>?_);refine nk _ _ 22 rfl i z 16 underlying22 HI.q.1 HI.q.2.1 HI.q.2.2.1 HI.q.2.2.2.1 HI.q.2.2.2.2 rfl (iG.q.n.2.1.alloc _) (G ⟨w4.heap.size,0,C⟩) 1 1 (c1.nn+1) [m] rfl (Row.str1 w4 m) iK.q gX.q fH.q ql.q ?_;intro a' c' w5 hown5 hg5 Wi;have hx5:=(iG.q.x.keep (av (S _ _) (F #[.string ⟨m.toArray⟩] 9))).grown hg5 G6.q;have HAD:=A (iG.q.addN (av (S _ _) (F #[.string ⟨m.toArray⟩] 9)) a' c' hown5 hg5 Wi);refine hK _ _ ⟨trivial,hx5.1 3⟩ ?_;have hc3:=hx5.1 3;have hf3:=hx5.2.1 3;clear hK K hown5 hg5 Wi hx5;refine qC ?_;refine dN rfl rfl rfl (fun K hK=>?_);go_simp;refine hK _ _ trivial ?_;clear hK K;refine iX ?_;have NA:Hid (k+1≤most):=A (by have:=HK.q;omega);have mY:Hid ((if pairs=true then match bW r4 with
       | .error x=> .error x
       | .ok r2=>match dQ r2 with
        | .error x=> .error x
        | .ok (v,r3)=>bf pairs most f (k+1) (n1.names++[m]) (n1.aA++[v]) r3
      else bf pairs most f (k+1) (n1.names++[m]) n1.aA r4)=X):=A (by have:=cO.q;rw[J (fun e=>hkm e.1),Cz.q] at this;exact this)
     have HA:=A HAD.q.1;have KZ:=A (Az.q.trans HAD.q.2);have HGA:=A (SL.q.mv iG.q HAD.q.2.same);have hwk:wrap64 ((k:L)+1)=((k+1:Nat):L):=by have:=NA.q;have:=Yq.q;unfold wrap64;omega
     cases pairs
     ·go_wp2_with fail
      go_roundw
      case rel=>exact⟨_,k+1,f,p4,r4,_,_,rfl,by first|rfl|rw[hwk]|go_num,NA.q,by have:=HF.q;omega,HA.q,KZ.q,HGA.q,mY.q,fun ns vs=>HQ.q ns vs,by have:=Ay.q.1;simp;omega,by have:=Ay.q.2;show n1.aA.length≤_;omega⟩
      case measure=>have:=NA.q;(try rw[hwk]);simp[RowKit.intOf] <;> omega
     ·have HMU:=A (NC _ HA.q)
      go_wp2_with fail;refine HMU.q.mono ?_;intro e w6 he
      cases hmu:bW r4 with
      |error x=>
       rw[hmu] at he;obtain⟨rfl,hs⟩:=he;refine⟨rfl,?_⟩;show bQ R s c w _ _ _ _;rw[rY.q x (by have:=mY.q;rw[hmu] at this;exact this.symm)];exact⟨rfl,KZ.q.gW hs⟩
      |ok r6=>
       rw[hmu] at he;obtain⟨rfl,q6,hc6,hm6⟩:=he;have Yk:Hid ((match dQ r6 with
        | .error x=> .error x
        | .ok (v,r3)=>bf true most f (k+1) (n1.names++[m]) (n1.aA++[v]) r3)=X):=A (by have:=mY.q;rw[hmu] at this;exact this)
       have wC:=A hc6;have ND:=A (KZ.q.trans hm6);have HG6:=A (HGA.q.mv HA.q hm6.same);have E8:=A (Fg w6 hc6 HG6.q (by have:=Ay.q.2;have:=NA.q;have:=Yq.q;show n1.aA.length≤1000;omega));clear hc6 hm6 hmu;go_wp2_with fail;refine E8.q.mono ?_;intro e w7 he
       cases SN:dQ r6 with
       |error x=>
        rw[SN] at he;obtain⟨rfl,hs⟩:=he;refine⟨rfl,?_⟩;show bQ R s c w _ _ _ _;rw[rY.q x (by have:=Yk.q;rw[SN] at this;exact this.symm)];exact⟨rfl,ND.q.gW hs⟩
       |ok vr=>
        obtain⟨v,r7⟩:=vr;rw[SN] at he;obtain⟨rfl,q7,c7,Yr,hm7⟩:=he;have qA:Hid (bf true most f (k+1) (n1.names++[m]) (n1.aA++[v]) r7=X):=A (by have:=Yk.q;rw[SN] at this;exact this);have AA:=A Yr;have Db:=A (ND.q.trans hm7);have Dc:=A (HG6.q.mv wC.q hm7.same);clear Yr hm7 SN;go_wp2_with fail;go_roundw
        case rel=>exact⟨_,k+1,f,q7,r7,_,_,rfl,by first|rfl|rw[hwk]|go_num,NA.q,by have:=HF.q;omega,AA.q,Db.q,Dc.q,qA.q,fun ns vs=>HQ.q ns vs,by have:=Ay.q.1;simp;omega,by have:=Ay.q.2;simp;omega⟩
        case measure=>have:=NA.q;(try rw[hwk]);simp[RowKit.intOf] <;> omega
theorem aiC (W:World):(Instr.makeSlice 263 (D E 1) (D E 1)).run Tryz.prog W= .ok (H (G ⟨W.heap.size,0,C⟩) 1 1) (W.alloc (F #[.nilFunc] 1)):=au
theorem aiD (W:World):(Instr.makeSlice 263 (D E 2) (D E 2)).run Tryz.prog W= .ok (H (G ⟨W.heap.size,0,C⟩) 2 2) (W.alloc (F #[.nilFunc,.nilFunc] 1)):=au
theorem cp1 (W:World) (b B i n m c c':Nat) (v:Value) (hs:W.cell? ⟨b,0,C⟩=G v) (h1:v.oneCell'=true) (hc:(W.cell? ⟨B,i,C⟩).isSome=true) (hf:W.frozen? ⟨B,i,C⟩=Z) (hn:1=Nat.min m n):
  (Builtin.copy_ #[263,263] 3 #[H (G ⟨B,i,C⟩) n c,H (G ⟨b,0,C⟩) m c']).run Tryz.prog W= .ok (goInt 1) (W.setCell ⟨B,i,C⟩ v):=by
 have h:=run_copy_cells (P:=Tryz.prog) W 263 263 3 1 B i n c ⟨b,0,C⟩ m c' [v] au au hn (fun j u hj=>by
  obtain rfl:j=0:=by have:=(List.getElem?_eq_some_iff.1 hj).1;simpa using this
  simpa[Addr.add] using hs.trans hj) (fun j hj=>by
    obtain rfl:j=0:=by simpa using hj
    exact hc) (fun j hj=>by
      obtain rfl:j=0:=by simpa using hj
      exact hf) (fun u hu=>by simp at hu;subst hu;exact h1)
 simp only[World.setCells] at h;exact h
theorem ZL (w:World) (b:Nat) (v:Value) (hb:b<w.heap.size) (hv:w.cell? ⟨b,0,C⟩=G v) (h1:v.oneCell'=true):
  Calls Tryz.prog 218 #[H (G ⟨b,0,C⟩) 1 1,D E 1] w (fun e w'=>e= .returned (H (G ⟨w.heap.size,0,C⟩) 1 1)∧Below w.heap.size w w'∧Bx w' w.heap.size #[v]):=by
 have hmk:=aiC;have Wj:=A (fun W=>Tryz.bits_Mul 1 1 aj aj W);go_enter func218,ntmps218;go_wp2_with fail;refine(Wj.q w).mono ?_;rintro e w2 ⟨rfl,rfl⟩;have fM:=Bx.new w2 #[.nilFunc] 1;have hcell:(w2.alloc (F #[.nilFunc] 1)).cell? ⟨b,0,C⟩=G v:=by
  have:=(av (S w2.heap.size w2) (F #[.nilFunc] 1)).cell (p:=⟨b,0,C⟩) hb;rw[this];exact hv
 have hcp:=cp1 (w2.alloc (F #[.nilFunc] 1)) b w2.heap.size 0 1 1 1 1 v hcell h1 (by rw[fM.1 0];rfl) (fM.2.1 0) rfl;obtain⟨W,hW⟩:∃W,W=(w2.alloc (F #[.nilFunc] 1)).setCell ⟨w2.heap.size,0,C⟩ v:=⟨_,rfl⟩;have Ea:Hid (Below w2.heap.size w2 W∧Bx W w2.heap.size #[v]):=A (by
  rw[hW];exact⟨(av (S w2.heap.size w2) _).setCell (p:=⟨w2.heap.size,0,C⟩) (M w2.heap.size) _,fM.aR 0 ak v⟩)
 rw[←hW] at hcp;clear hW;go_wp2_with fail
 go_loopw [8] (fun i wr=>wr=W∧i= D E 1) (fun i _=>0)
 case atStart=>exact⟨rfl,rfl⟩
 case round=>
  obtain⟨rfl,rfl⟩:=hrel;go_wp2_with fail;go_ret;exact⟨rfl,Ea.q.1,Ea.q.2⟩
theorem ZM (w:World) (b:Nat) (v:Value) (hb:b<w.heap.size) (hv:w.cell? ⟨b,0,C⟩=G v) (h1:v.oneCell'=true):
  Calls Tryz.prog 218 #[H (G ⟨b,0,C⟩) 1 1,D E 2] w (fun e w'=>e= .returned (H (G ⟨w.heap.size,0,C⟩) 2 2)∧Below w.heap.size w w'∧Bx w' w.heap.size #[v,v]):=by
 have hmk:=aiD;have Wj:=A (fun W=>Tryz.bits_Mul 1 2 aj aj W);go_enter func218,ntmps218;go_wp2_with fail;refine(Wj.q w).mono ?_;rintro e w2 ⟨rfl,rfl⟩;have fM:=Bx.new w2 #[.nilFunc,.nilFunc] 1;have hcell:(w2.alloc (F #[.nilFunc,.nilFunc] 1)).cell? ⟨b,0,C⟩=G v:=by
  have:=(av (S w2.heap.size w2) (F #[.nilFunc,.nilFunc] 1)).cell (p:=⟨b,0,C⟩) hb;rw[this];exact hv
 have hcp:=cp1 (w2.alloc (F #[.nilFunc,.nilFunc] 1)) b w2.heap.size 0 2 1 2 1 v hcell h1 (by rw[fM.1 0];rfl) (fM.2.1 0) rfl;obtain⟨W,hW⟩:∃W,W=(w2.alloc (F #[.nilFunc,.nilFunc] 1)).setCell ⟨w2.heap.size,0,C⟩ v:=⟨_,rfl⟩;have Ea:Hid (Below w2.heap.size w2 W∧Bx W w2.heap.size #[v,.nilFunc]):=A (by
  rw[hW];exact⟨(av (S w2.heap.size w2) _).setCell (p:=⟨w2.heap.size,0,C⟩) (M w2.heap.size) _,fM.aR 0 ak v⟩)
 rw[←hW] at hcp;clear hW;go_wp2_with fail
 go_loopw [8] (fun i wr=>(wr=W∧i= D E 1)∨(i= D E 2∧Below w2.heap.size w2 wr∧Bx wr w2.heap.size #[v,v])) (fun i _=>2 - (RowKit.intOf i).toNat)
 case atStart=>exact .inl ⟨rfl,rfl⟩
 case round=>
  rcases hrel with⟨rfl,rfl⟩|⟨rfl,hb2,hx2⟩
  ·have HD:Hid (Bx wr.drew w2.heap.size #[v,.nilFunc]):=A ⟨Ea.q.2.1,Ea.q.2.2.1,Ea.q.2.2.2⟩
   have hcp2:=cp1 wr.drew w2.heap.size w2.heap.size 1 1 1 1 2 v (HD.q.1 0) h1 (by rw[HD.q.1 1];rfl) (HD.q.2.1 1) rfl;have HE2:Hid (Below w2.heap.size w2 (wr.drew.setCell ⟨w2.heap.size,1,C⟩ v)∧Bx (wr.drew.setCell ⟨w2.heap.size,1,C⟩ v) w2.heap.size #[v,v]):=A ⟨Ea.q.1.drew.setCell (p:=⟨w2.heap.size,1,C⟩) (M w2.heap.size) _,HD.q.aR 1 ak v⟩;go_wp2_with fail;refine aK 7 [(0,1),(1,1),(2,1),(3,1),(4,1),(5,1),(6,1),(7,2),(8,1),(9,1)] (fun _=>True) (fun _=>True) au au (trivial) (trivial) ?_;refine qC ?_;refine dN rfl rfl rfl (fun K hK=>?_);go_simp;refine hK _ _ trivial ?_;clear hK K;refine qC ?_;refine bB ?_;go_wp2_with fail;go_roundw
   case rel=>exact .inr ⟨rfl,HE2.q.1,HE2.q.2⟩
   case measure=>decide
  ·have HE2:=A (⟨hb2,hx2⟩:_∧_)
   go_wp2_with fail;go_ret;exact⟨rfl,HE2.q.1,HE2.q.2⟩
@[reducible] def uh:aB:=⟨0,[],0,[],Z,0⟩
theorem SQ (acts:List Nat):∀(k:Nat) (n:aB) (l:Bs),jy (O k 0++acts) n l=(match gD k n.names l with| .error x=> .error x| .ok (ns,r)=>jy acts {n with names:=ns} r):=by
 intro k
 induction k with
 |zero=>intro n l;rfl
 |succ k ih=>
  intro n l;rw[List.replicate_succ,List.cons_append];simp only[jy,gD]
  cases bW l with
  |error x=>rfl
  |ok r=>
   simp only[vG,if_true]
   cases bI r with
   |error x=>rfl
   |ok mr=>
    obtain⟨m,r'⟩:=mr;simp only[];rw[ih]
def kg (k:Nat):List Nat:=O (bA k).toNat 0++(if k=1 then [1] else if k=3 then [2] else [])
def kP (k:Nat) (n:aB) (l:Bs):Except Er (Unit × aB × Bs):=
 if k=9 then(match fP 5 0 0 l with| .error x=> .error x| .ok (b,r)=> .ok ((),{n with bits:=b},r))
 else if k=8 then match iD l with
  | .error x=> .error x
  | .ok (f,r)=>match bf Z 300 301 0 n.names n.aA r with
   | .error x=> .error x
   | .ok (b,r')=> .ok ((),{n with first:=f,names:=b.1,aA:=b.2},r')
 else if k=4 then match bf true 40 41 0 n.names n.aA l with
   | .error x=> .error x
   | .ok (b,r')=> .ok ((),{n with names:=b.1,aA:=b.2},r')
 else if k=7 then match bf Z 300 301 0 n.names n.aA l with
   | .error x=> .error x
   | .ok (b,r')=> .ok ((),{n with names:=b.1,aA:=b.2},r')
 else .ok ((),n,l)
def Cm (x:Except Er (Unit × aB × Bs)):Except Er (aB × Bs):=
 match x with
 | .error x=> .error x
 | .ok (_,s,r2)=>match bN r2 with
  | .error x=> .error x
  | .ok (true,r3)=> .error (r3,220)
  | .ok (Z,r3)=> .ok (s,r3)
theorem PV (l r:Bs) (i:Nat) (hi:i<9) (hE:bR (aY l)=Z) (hw:bZ jV (aY l)= .ok (i,r)):
  fQ l=(match jy (kg (i+1)) {uh with kind:=((i+1:Nat):L)} r with| .error x=> .error x| .ok (_,n,r1)=>Cm (kP (i+1) n r1)):=by
 unfold fQ;rw[J (by rw[hE];simp),hw];simp only[];rw[kg,SQ];simp only[]
 cases hns:gD (bA (i+1)).toNat [] r with
 |error x=>rfl
 |ok nr=>
  obtain⟨ns,r1⟩:=nr;simp only[];unfold iy kP Cm;rcases(by omega:i=0∨i=1∨i=2∨i=3∨i=4∨i=5∨i=6∨i=7∨i=8) with rfl|rfl|rfl|rfl|rfl|rfl|rfl|rfl|rfl
  ·simp only[Nat.reduceAdd,if_true,jy,vG,Nat.reduceEqDiff,if_false,Nat.succ_ne_self]
   cases bW r1 with
   |error x=>rfl
   |ok r2=>
    simp only[]
    cases bZ kD r2 with
    |error x=>rfl
    |ok jr=>rfl
  ·rfl
  ·simp only[Nat.reduceAdd,if_true,jy,vG,Nat.reduceEqDiff,if_false]
   cases bW r1 with
   |error x=>rfl
   |ok r2=>
    simp only[]
    cases dQ r2 with
    |error x=>rfl
    |ok jr=>rfl
  ·simp only[Nat.reduceAdd,if_true,jy,Nat.reduceEqDiff,if_false]
   cases bf true 40 41 0 ns [] r1 with
   |error x=>rfl
   |ok jr=>rfl
  ·rfl
  ·rfl
  ·simp only[Nat.reduceAdd,if_true,jy,Nat.reduceEqDiff,if_false]
   cases bf Z 300 301 0 ns [] r1 with
   |error x=>rfl
   |ok jr=>rfl
  ·simp only[Nat.reduceAdd,if_true,jy,Nat.reduceEqDiff,if_false]
   cases iD r1 with
   |error x=>rfl
   |ok fr=>
    obtain⟨f,r2⟩:=fr;simp only[]
    cases bf Z 300 301 0 ns [] r2 with
    |error x=>rfl
    |ok jr=>rfl
  ·simp only[Nat.reduceAdd,if_true,jy,Nat.reduceEqDiff,if_false]
   cases fP 5 0 0 r1 with
   |error x=>rfl
   |ok jr=>rfl
theorem Wl {a:Nat} {n n':aB} {l r:Bs} {u:Unit} (h:vG a n l= .ok (u,n',r)):n'.bits=n.bits∧n'.first=n.first∧n'.kind=n.kind:=by
 unfold vG at h
 split at h
 ·split at h
  ·cases h
  ·injection h with h;injection h with _ h;injection h with h _;subst h;simp
 ·split at h
  ·split at h
   ·cases h
   ·injection h with h;injection h with _ h;injection h with h _;subst h;simp
  ·split at h
   ·cases h
   ·injection h with h;injection h with _ h;injection h with h _;subst h;simp
theorem G8:∀(acts:List Nat) {n n':aB} {l r:Bs} {u:Unit},jy acts n l= .ok (u,n',r)→
  n'.bits=n.bits∧n'.first=n.first∧n'.kind=n.kind∧n'.names.length≤n.names.length+acts.length∧n'.aA.length≤n.aA.length+acts.length
 |[],n,n',l,r,u,h=>by
  simp only[jy] at h;injection h with h;injection h with _ h;injection h with h _;subst h;simp
 |a::t,n,n',l,r,u,h=>by
  simp only[jy] at h
  split at h
  ·cases h
  ·split at h
   ·cases h
   ·rename_i u1 n1 r1 h1
    have k1:=Wl h1;have k2:=NE h1;have k3:=G8 t h;simp only[List.length_cons];exact⟨k3.1.trans k1.1,k3.2.1.trans k1.2.1,k3.2.2.1.trans k1.2.2,by omega,by omega⟩
theorem afH:(Tryz.prog.info? 1).map (fun i=>(i.zero.map (·.cells.size),i.size,i.bytes))=G (G 1,1,8):=au
theorem adQ:∃i z,Tryz.prog.info? 1=G i∧i.zero=G z∧i.size=1∧i.bytes=8∧z.cells.size=1:=lD afH
theorem Wm (k:Nat):∃N:Nat,bA (k+1)=(N:L)∧(N=1∨N=2):=by
 unfold bA
 split <;> first|exact⟨1,rfl,.inl rfl⟩|exact⟨2,rfl,.inr rfl⟩|(rename_i h;omega)
theorem adR (N:Nat) (hN:N=1∨N=2) (w:World) (b:Nat) (v:Value) (hb:b<w.heap.size) (hv:w.cell? ⟨b,0,C⟩=G v) (h1:v.oneCell'=true):
  Calls Tryz.prog 218 #[H (G ⟨b,0,C⟩) 1 1,D E N] w (fun e w'=>e= .returned (H (G ⟨w.heap.size,0,C⟩) N N)∧Below w.heap.size w w'∧Bx w' w.heap.size (Array.replicate N v)):=by
 rcases hN with rfl|rfl
 ·exact ZL w b v hb hv h1
 ·exact ZM w b v hb hv h1
theorem Df {P:Program} {ops:Array Oper} {rest:List Oper} {o:Oper} {ac:Act} {w w':World} {Q:Exit→Act→World→Prop} {v u r:Value} (hgd:o.guard=C) (s x:Operand) (t:TypeId)
  (ho:o.op= .call {callee:= .builtin .append,args:=#[s,x],argTypes:=#[t,t]}) (hs:ac.eval s=v) (hx:ac.eval x=u) (hrun:(Builtin.append_ #[t,t] o.type #[v,u]).run P w= .ok r w')
  (h:wpList P ops Q rest (ac.put o.dst r) w'):wpList P ops Q (o::rest) ac w:=
 wpList_plain hgd fun _ hK=>by
  unfold Oper.wp execOp;simp only[ho,resolve,invoke,builtin,Sem.run_bind,Sem.run_pure,Result.andThen_ok,List.map_toArray,List.map_cons,List.map_nil,hs,hx,hrun];exact hK _ _ h
theorem adS (N:Nat) (hN:N=1∨N=2) (W:World) (T U:Nat) (v x:Value) (hT:Bx W T (Array.replicate N v)) (hU:W.cell? ⟨U,0,C⟩=G x):
  ∃(cap:Nat) (W':World),(Builtin.append_ #[263,263] 263 #[H (G ⟨T,0,C⟩) N N,H (G ⟨U,0,C⟩) 1 1]).run Tryz.prog W= .ok (H (G ⟨W.heap.size,0,C⟩) (N+1) cap) W'∧N+1≤cap∧cap≤maxLen∧Below W.heap.size W W'∧W.heap.size<W'.heap.size∧(∀i,i<N→W'.cell? ⟨W.heap.size,i,C⟩=G v)∧W'.cell? ⟨W.heap.size,N,C⟩=G x:=by
 obtain⟨i,z,hi,hz,hsize,hby,hzs⟩:=adQ;have hr:=run_append_grow (P:=Tryz.prog) W 263 263 1 i z au hi hz ⟨T,0,C⟩ N N (O N v) (by rw[hsize];simp) (fun j u hj=>by
  have hj':=hj;rw[List.getElem?_replicate] at hj';have hlt:j<N:=by
   apply Classical.byContradiction;intro hn;rw[J hn] at hj';cases hj'
  rw[if_pos hlt] at hj';have:=hT.1 j;rw[Array.getElem?_replicate,if_pos hlt] at this;have hz:=this.trans hj';unfold Addr.add
  split
  ·rename_i h0;subst h0;exact hz
  ·simpa using hz) ⟨U,0,C⟩ 1 1 [x] (by rw[hsize];rfl) (fun j u hj=>by
  obtain rfl:j=0:=by have:=(List.getElem?_eq_some_iff.1 hj).1;simpa using this
  simpa[Addr.add] using hU.trans hj) ah ah (by rw[hby];rcases hN with rfl|rfl <;> exact Nat.le_of_ble_eq_true rfl)
 refine⟨_,_,hr,grownCap_ge W (N+1) N 1,grownCap_le_maxLen W (N+1) N 1 (by unfold maxLen;omega),(S _ _).drew.alloc (M _) _,by simp,fun i hi=>?_,?_⟩
 ·have:=World.cell?_alloc_new W.drew ((O N v).toArray++[x].toArray++Builtin.zeroCells z.cells (grownCap W (N+1) N 1 - (N+1))) 1 i
  refine this.trans ?_;rw[Array.getElem?_append_left (by simp;omega),Array.getElem?_append_left (by simp;omega)];simp[hi]
 ·have:=World.cell?_alloc_new W.drew ((O N v).toArray++[x].toArray++Builtin.zeroCells z.cells (grownCap W (N+1) N 1 - (N+1))) 1 N
  refine this.trans ?_;rw[Array.getElem?_append_left ak,Array.getElem?_append_right ak];simp
theorem NG {w:World} {R b n c:Nat} (acts:List Nat) (hn:acts.length=n) (hc:n≤c) (hm:n≤1000) (h:∀(i:Nat) (a:Nat),acts[i]?=G a→w.cell? ⟨b,i,C⟩=G (.func (.func (Ad a)) #[I (G ⟨R,0,C⟩)] #[])):Row w 1 (zm R) (G ⟨b,0,C⟩) n c acts:=
 ⟨hn,hc,by omega,(fun e=>by cases e),fun i a ha=>⟨b,0,rfl,fun j v hv=>by
  obtain rfl:j=0:=by have:=(List.getElem?_eq_some_iff.1 hv).1;simpa[zm] using this
  have:v= .func (.func (Ad a)) #[I (G ⟨R,0,C⟩)] #[]:=by simpa[zm] using hv.symm
  rw[this];simpa using h i a ha⟩⟩
theorem xg {w:World} {R b N:Nat} (hN:N≤2) (h:Bx w b (Array.replicate N (.func (.func (Ad 0)) #[I (G ⟨R,0,C⟩)] #[]))):Row w 1 (zm R) (G ⟨b,0,C⟩) N N (O N 0):=
 NG _ ak (M _) ah fun i a ha=>by
  rw[List.getElem?_replicate] at ha;have hlt:i<N:=by
   apply Classical.byContradiction;intro hn;rw[J hn] at ha;cases ha
  rw[if_pos hlt] at ha;injection ha with ha;subst ha;rw[h.1 i,Array.getElem?_replicate,if_pos hlt]
theorem K3 {w:World} {R b N c:Nat} (a:Nat) (hc:N+1≤c) (hm:N≤2) (h:∀i,i<N→w.cell? ⟨b,i,C⟩=G (.func (.func (Ad 0)) #[I (G ⟨R,0,C⟩)] #[])) (h1:w.cell? ⟨b,N,C⟩=G (.func (.func (Ad a)) #[I (G ⟨R,0,C⟩)] #[])):Row w 1 (zm R) (G ⟨b,0,C⟩) (N+1) c (O N 0++[a]):=
 NG _ ak hc ah fun i a' ha=>by
  by_cases hlt:i<N
  ·rw[List.getElem?_append_left (by simpa using hlt),List.getElem?_replicate,if_pos hlt] at ha
   injection ha with ha;subst ha;exact h i hlt
  ·rw[List.getElem?_append_right (by simp;omega)] at ha
   obtain rfl:i=N:=by have:=(List.getElem?_eq_some_iff.1 ha).1;simp at this;omega
   simp at ha;subst ha;exact h1
theorem SS:∀j:Fin 9,jV.take j.val++[aO (j.val+1)]=jV.take (j.val+1):=by decide
def yK (x:Except Er (Unit × aB × Bs)):Except Er (Unit × aB × Bs):=match Cm x with| .error x=> .error x| .ok (n',r)=> .ok ((),n',r)
theorem Fh (x:Er):yK (.error x)= .error x:=rfl
theorem SV {u:Unit} {n:aB} {r:Bs} {x:Er} (h:bN r= .error x):yK (.ok (u,n,r))= .error x:=by
 unfold yK Cm;simp only[h]
theorem SX {u:Unit} {n:aB} {r r3:Bs} (h:bN r= .ok (true,r3)):yK (.ok (u,n,r))= .error (r3,220):=by
 unfold yK Cm;simp only[h]
theorem PW {u:Unit} {n:aB} {r r3:Bs} (h:bN r= .ok (Z,r3)):yK (.ok (u,n,r))= .ok ((),n,r3):=by
 unfold yK Cm;simp only[h]
theorem ZN {R p:Nat} {s l:Bs} {c:aV} (w:World) (h:bX w R s p l c uh) (hG:qp R w):
  Calls Tryz.prog 162 #[I (G ⟨R,0,C⟩)] w (bQ R s c w (fun _:Unit=> .tuple #[]) (match fQ l with| .error x=> .error x| .ok (n',r)=> .ok ((),n',r))):=by
 obtain⟨Y,hY⟩:∃Y:Except Er (Unit × aB × Bs),Y=(match fQ l with| .error x=> .error x| .ok (n',r)=> .ok ((),n',r)):=⟨_,rfl⟩;rw[←hY];have HY:=A hY;have HG:=A hG;clear hY hG;have c0:=h.c0;have c1:=h.c1;have z1:=f1 h 1;have hlen:=h.len;have hlim:=h.lim;have hsl:=fun W=>lG Tryz.underlying9 s p ah W
 rw[h.d] at hsl;have hz:=dR s;have hz2:=dR (aY l);have hsk:=G9 l;obtain⟨q,hq⟩:∃q:Nat,q=s.length - (aY l).length:=⟨_,rfl⟩;have HWQ:Hid (wrap64 ((s.length:L) - ((aY l).length:L))=(q:L)):=A (by
  rw[show(s.length:L) - ((aY l).length:L)=(q:L) by omega];exact IntWalk.wrap64_in _ ah)
 have aiE:Hid (IntKind.i64.wrap ((s.length:L) - ((aY l).length:L))=(q:L)):=A (by
  rw[show(s.length:L) - ((aY l).length:L)=(q:L) by omega];exact IntWalk.i64_in _ ah)
 have HH:=A h;have HLEN:=A hlen;have dM:=A hsk;have HQ:=A hq;clear h hlen hsk hq;go_enter func162,ntmps162;go_wp2_with fail;refine aK 20 [(0,1),(1,1),(2,1),(3,1),(4,0),(5,0),(6,1),(7,1),(8,1),(9,0),(10,1),(11,1),(12,1),(13,0),(14,0),(15,2),(16,0),(17,0),(18,1),(19,1),(20,2)] (fun _=>True) (fun W'=>W'.cell? ⟨R,0,C⟩=G (.string ⟨s.toArray⟩)∧W'.cell? ⟨R,1,C⟩=G (D E p)) au au (trivial) (⟨HH.q.c0,HH.q.c1⟩) ?_;refine qC ?_;refine aF rfl rfl (fun K hK=>?_);go_simp;refine(NH l _).mono ?_;rintro e w2 ⟨rfl,hb2⟩;have tV:=HH.q.drew.below hb2;refine hK _ _ ⟨trivial,tV.c0,tV.c1⟩ ?_;have He:=A tV;have HB2:=A hb2;clear hK K hb2 tV c0 c1 z1;have c1:=He.q.c1;have z1:=f1 He.q 1;have hwq:=HWQ.q;refine qC ?_;refine dN rfl rfl rfl (fun K hK=>?_);go_simp;refine hK _ _ trivial ?_;clear hK K;refine bB ?_;have hb2:Below w.heap.size w w2:=(S _ _).drew.trans HB2.q;have ht:=He.q.to (l.length - (aY l).length) (Fj l) ah q (by have:=HLEN.q;have:=dM.q;have:=HQ.q;omega);have HT:=A ht.1;have HM:=A ((Mv.of_below (R:=R) (c:=c) hb2).trans ht.2);have HGT:=A (HG.q.mv HH.q HM.q.same);clear ht hb2;rw[show IntKind.i64.wrap ((s.length:L) - ((aY l).length:L))=(q:L) from aiE.q];go_wp2_with fail;refine(Cn _ HT.q).mono ?_;rintro e w3 ⟨rfl,hb3⟩;have HT3:=A (HT.q.below hb3);have oJ:=A (HM.q.trans (Mv.of_below hb3));have jZ:=A (HGT.q.mv HT.q (Mv.of_below hb3:Mv R c c _ w3).same);clear hb3 c1 z1
 cases hE:bR (aY l)
 ·obtain⟨i,z,hi,hz,hsize,bP,hzs⟩:=oZ
  have HI:=A (⟨hi,hz,hsize,bP,hzs⟩:_∧_∧_∧_∧_);have HGL:=A jZ.q.l;clear hi hz hsize bP hzs;go_wp2_with fail
  go_loopw [2,31] (fun v i wr=>∃(k:Nat) (a0:Option Addr) (c0:Nat),k≤9∧v= H a0 k c0∧i= D E k∧Own wr w3.heap.size 9 1 encStr (H a0 k c0) (jV.take k)∧Below w3.heap.size w3 wr) (fun _ i _=>9 - (RowKit.intOf i).toNat)
  case atStart=>exact⟨0,C,0,Nat.zero_le _,rfl,rfl,Own.iE _ _ _ _ _,S _ _⟩
  case round=>
   obtain⟨k,a0,c0,hk,rfl,rfl,how,hbw⟩:=hrel;by_cases hlt:k<9
   ·obtain⟨hg1,hg2,hg3⟩:=(HGL.q.below (hbw:Below w3.heap.size w3 wr)).2.1 (k+1) ah
    have hf1:wr.cell? ⟨0,3+k*3,C⟩=G (.string ⟨(aO (k+1)).toArray⟩):=by rw[←hg1];congr 2;omega
    have hf2:wr.cell? ⟨0,3+k*3+1,C⟩=G (D E (bA (k+1))):=by rw[←hg2];congr 2;omega
    have hf3:wr.cell? ⟨0,3+k*3+2,C⟩=G (.int .i32 (bH (k+1))):=by rw[←hg3];congr 2;omega
    have HOW:=A how;have bK:=A hbw;clear hg1 hg2 hg3 how hbw;have Xi:Hid (Own ((wr.alloc (F #[.string ⟨(aO (k+1)).toArray⟩,D E (bA (k+1)),.int .i32 (bH (k+1))] 116)).alloc (F #[.string ⟨(aO (k+1)).toArray⟩] 9)) w3.heap.size 9 1 encStr (H a0 k c0) (jV.take k)):=A ((HOW.q.alloc _).alloc _);have ji:Hid (Below w3.heap.size w3 ((wr.alloc (F #[.string ⟨(aO (k+1)).toArray⟩,D E (bA (k+1)),.int .i32 (bH (k+1))] 116)).alloc (F #[.string ⟨(aO (k+1)).toArray⟩] 9))):=A (av (av bK.q _) _);have Yh:Hid (Row ((wr.alloc (F #[.string ⟨(aO (k+1)).toArray⟩,D E (bA (k+1)),.int .i32 (bH (k+1))] 116)).alloc (F #[.string ⟨(aO (k+1)).toArray⟩] 9)) 1 encStr (G ⟨wr.heap.size+1,0,C⟩) 1 1 [aO (k+1)]):=A (by have:=Row.str1 (wr.alloc (F #[.string ⟨(aO (k+1)).toArray⟩,D E (bA (k+1)),.int .i32 (bH (k+1))] 116)) (aO (k+1));simpa using this);have iK:Hid ((jV.take k).length+1=k+1):=A (by rw[List.length_take];show min k 9+1=k+1;omega);have gX:Hid ((k+1)*16≤140737488355328):=A ah;have fH:Hid (k+1≤maxLen):=A (by unfold maxLen;omega);have ql:Hid (w3.heap.size≤((wr.alloc (F #[.string ⟨(aO (k+1)).toArray⟩,D E (bA (k+1)),.int .i32 (bH (k+1))] 116)).alloc (F #[.string ⟨(aO (k+1)).toArray⟩] 9)).heap.size):=A ji.q.size;have hcl:(jV.take k)++[aO (k+1)]=jV.take (k+1):=SS ⟨k,hlt⟩
    go_wp2_with (at_builtin;refine dV rfl _ _ 22 rfl i z 16 underlying22 HI.q.1 HI.q.2.1 HI.q.2.2.1 HI.q.2.2.2.1 HI.q.2.2.2.2 rfl Xi.q (G ⟨wr.heap.size+1,0,C⟩) 1 1 (k+1) [aO (k+1)] rfl Yh.q iK.q gX.q fH.q ql.q ?_;intro a' c' w5 hown5 hg5 Wi)
    have gY:=below_app ji.q Xi.q (M _) ql.q hg5;refine⟨⟨k+1,a',c',by omega,rfl,rfl,by rw[←hcl];exact hown5,gY⟩,?_⟩;simp[RowKit.intOf];omega
   ·obtain rfl:k=9:=by omega
    have HOW:=A how;have bK:=A hbw;have iG:=A (HT3.q.below hbw);have Az:=A (oJ.q.trans (Mv.of_below hbw));have SL:=A (jZ.q.mv HT3.q (Mv.of_below hbw:Mv R c c w3 wr).same);have I5:Hid (Row wr 1 encStr a0 9 c0 jV):=A (show Row wr 1 encStr a0 9 c0 (jV.take 9) from Own.row how aj);clear how hbw;go_wp2_with fail;refine(FW wr iG.q a0 9 c0 jV I5.q ah aj aj).mono ?_;intro e w5 he;have hRD:∀x,bZ jV (aY l)= .error x→fQ l= .error x:=fun x hx=>by unfold fQ;rw[J (by rw[hE];simp),hx]
    cases hwo:bZ jV (aY l) with
    |error x=>
     rw[hwo] at he;obtain⟨rfl,hs⟩:=he;refine⟨rfl,?_⟩;show bQ R s c w _ _ _ _;rw[HY.q,hRD x hwo];exact⟨rfl,Az.q.gW hs⟩
    |ok ir=>
     obtain⟨iv,r⟩:=ir;rw[hwo] at he;obtain⟨rfl,q5,y8,BR⟩:=he;have iQ:=A y8;have yg:=A (Az.q.trans BR);have HG5:=A (SL.q.mv iG.q BR.same);have Nt:=A hwo;have hc0:=y8.x.1 2;have hf0:=f1 y8 2;have hiv:iv<9:=by
      unfold bZ at hwo
      split at hwo
      ·rename_i j hj
       injection hwo with hwo;injection hwo with hwo _;have:=(List.findIdx?_eq_some_iff_getElem.1 hj).1;subst hwo
       simpa[jV] using this
      ·cases hwo
     obtain⟨n6,Yt⟩:∃n6:aB,n6={uh with kind:=((iv+1:Nat):L)}:=⟨_,rfl⟩;have xJ:=PV l r iv hiv hE hwo;rw[←Yt] at xJ;have rY:Hid (∀x,jy (kg (iv+1)) n6 r= .error x→Y= .error x):=A (fun x hx=>by rw[HY.q,xJ,hx]);have BO:Hid (∀u n r1,jy (kg (iv+1)) n6 r= .ok (u,n,r1)→Y=yK (kP (iv+1) n r1)):=A (fun u n r1 hx=>by rw[HY.q,xJ,hx];rfl);have xq:Hid (n6.bits=0∧n6.first=Z∧n6.names.length=0∧n6.aA.length=0):=A (by rw[Yt];exact⟨rfl,rfl,rfl,rfl⟩);have hwk:wrap64 (1+(iv:L))=((iv+1:Nat):L):=by unfold wrap64;omega
     have aiF:((iv:L)+1).toNat=iv+1:=by omega
     obtain⟨N,hN,Wn⟩:=Wm iv;obtain⟨rr,hrr⟩:∃rr:L,bH (iv+1)=rr:=⟨_,rfl⟩;obtain⟨hg1,hg2,hg3⟩:=HG5.q.l.2.1 (iv+1) ah;have hq1:w5.cell? ⟨0,(1+iv)*3,C⟩=G (.string ⟨(aO (iv+1)).toArray⟩):=by rw[←hg1];congr 2;omega
     have hq2:w5.cell? ⟨0,(1+iv)*3+1,C⟩=G (D E (N:L)):=by rw[←hN,←hg2];congr 2;omega
     have hq3:w5.cell? ⟨0,(1+iv)*3+2,C⟩=G (.int .i32 rr):=by rw[←hrr,←hg3];congr 2;omega
     have HIV:=A hiv;have Ey:=A hN;have pW:=A Wn;have HRR:=A hrr;have h9:(iv:L)+1<10:=by omega
     obtain⟨c6,hc6⟩:∃c6:aV,c6={c with kind:=1+(iv:L)}:=⟨_,rfl⟩;have hset:=iQ.q.Ae 2 (D E (1+(iv:L))) {c with kind:=1+(iv:L)} {uh with kind:=((iv+1:Nat):L)} aj rfl ⟨rfl,rfl,rfl,rfl,rfl,rfl⟩ ⟨rfl,rfl⟩ ⟨(by show 1+(iv:L)=((iv+1:Nat):L);omega),iQ.q.n.1.2.1,iQ.q.n.1.2.2.1,iQ.q.n.1.2.2.2.1⟩;rw[←Yt,←hc6] at hset;have Wo:=A hset.1;have Fe:=A (yg.q.trans hset.2);have SY:=A (HG5.q.mv iQ.q hset.2.same);have hba:=av (av (S (w5.setCell ⟨R,2,C⟩ (D E (1+(iv:L)))).heap.size _) (F #[.string ⟨(aO (iv+1)).toArray⟩,D E (N:L),.int .i32 rr] 116)) (F #[.func (.func 219) #[I (G ⟨R,0,C⟩)] #[]] 1);have iN:=A hba;have uR:=A ((Bx.new (w5.setCell ⟨R,2,C⟩ (D E (1+(iv:L)))) #[.string ⟨(aO (iv+1)).toArray⟩,D E (N:L),.int .i32 rr] 116).alloc (F #[.func (.func 219) #[I (G ⟨R,0,C⟩)] #[]] 1));have hFT:=Bx.new ((w5.setCell ⟨R,2,C⟩ (D E (1+(iv:L)))).alloc (F #[.string ⟨(aO (iv+1)).toArray⟩,D E (N:L),.int .i32 rr] 116)) #[.func (.func 219) #[I (G ⟨R,0,C⟩)] #[]] 1;rw[show((w5.setCell ⟨R,2,C⟩ (D E (1+(iv:L)))).alloc (F #[.string ⟨(aO (iv+1)).toArray⟩,D E (N:L),.int .i32 rr] 116)).heap.size=w5.heap.size+1 by simp[World.setCell]] at hFT;have HFT:=A hFT;have Ja:Hid ((w5.setCell ⟨R,2,C⟩ (D E (1+(iv:L)))).heap.size=w5.heap.size):=A (by simp[World.setCell]);have hcall:=A (fun W (hb:w5.heap.size+1<W.heap.size) (hv:W.cell? ⟨w5.heap.size+1,0,C⟩=G (.func (.func 219) #[I (G ⟨R,0,C⟩)] #[]))=>adR N Wn W (w5.heap.size+1) (.func (.func 219) #[I (G ⟨R,0,C⟩)] #[]) hb hv rfl);clear y8 BR hRD hwo xJ hg1 hg2 hg3 hset hba hFT hN Wn hrr hiv Yt hc6;go_wp2_with fail;refine(hcall.q _ HFT.q.2.2 (HFT.q.1 0)).mono ?_;rintro e w7 ⟨rfl,vz,hx7⟩;have HB7:=A (iN.q.bq vz);have AA:=A (Wo.q.below HB7.q);have Db:=A (Fe.q.trans (Mv.of_below HB7.q));have Dc:=A (SY.q.below HB7.q);have K4:=uR.q.keep vz;rw[Ja.q] at K4;have Cv:Hid (kS R c6 w5.heap.size):=A (Wo.q.new (by rw[Ja.q];exact M _));have NJ:=Nat.lt_of_lt_of_le (show w5.heap.size<w5.heap.size+1+1 by omega) (show w5.heap.size+1+1≤w7.heap.size by have:=vz.size;simpa[World.setCell] using this);have Eb:=A K4;have hf2:=K4.1 2;have hf3:=K4.2.1 2;rw[show(((w5.setCell ⟨R,2,C⟩ (D E (1+(iv:L)))).alloc (F #[.string ⟨(aO (iv+1)).toArray⟩,D E (N:L),.int .i32 rr] 116)).alloc (F #[(.func (.func 219) #[I (G ⟨R,0,C⟩)] #[])] 1)).heap.size=w5.heap.size+1+1 by simp[World.setCell]] at hx7;have qA:=A hx7;have S9:Hid (kS R c6 (w5.heap.size+1+1)):=A (Wo.q.new (by rw[Ja.q];omega));have hcase:(iv=0∧rr=108)∨(iv=2∧rr=118)∨(iv=8∧rr=103)∨(iv=7∧rr=109)∨(iv=3∧rr=115)∨(iv=6∧rr=116)∨((iv=1∨iv=4∨iv=5)∧rr=0):=by
      have hiv:=HIV.q;have hrr:=HRR.q;rcases(by omega:iv=0∨iv=1∨iv=2∨iv=3∨iv=4∨iv=5∨iv=6∨iv=7∨iv=8) with rfl|rfl|rfl|rfl|rfl|rfl|rfl|rfl|rfl <;> simp[bH] at hrr <;> subst hrr <;> simp
     clear vz hx7 K4 hq1 hq2 hq3 hwk aiF h9 hc0 hf0 HRR;have HC0:=A (⟨AA.q,Db.q,Dc.q⟩:_∧_∧_);clear NJ;rcases hcase with⟨hi0,rfl⟩|⟨hi0,rfl⟩|⟨hi0,rfl⟩|⟨hi0,rfl⟩|⟨hi0,rfl⟩|⟨hi0,rfl⟩|⟨hi0,rfl⟩
     case' inl=>
      have HI0:=A hi0;clear hi0;have hact:kg (iv+1)=O N 0++[1]:=by rw[HI0.q];unfold kg;rw[←HI0.q,Ey.q,HI0.q];simp
      obtain⟨cap,w8,hrun,hcap1,hcap2,Ta,Ec,hcv,hcx⟩:=adS N pW.q (w7.alloc (F #[(.func (.func 220) #[I (G ⟨R,0,C⟩)] #[])] 1)) (w5.heap.size+1+1) w7.heap.size (.func (.func 219) #[I (G ⟨R,0,C⟩)] #[]) (.func (.func 220) #[I (G ⟨R,0,C⟩)] #[]) (qA.q.alloc _) ((Bx.new w7 #[(.func (.func 220) #[I (G ⟨R,0,C⟩)] #[])] 1).1 0);rw[show(w7.alloc (F #[(.func (.func 220) #[I (G ⟨R,0,C⟩)] #[])] 1)).heap.size=w7.heap.size+1 by simp] at hrun Ec hcv hcx;have hbb:=(av (S w7.heap.size w7) (F #[(.func (.func 220) #[I (G ⟨R,0,C⟩)] #[])] 1)).trans (Ta.mono ak);have yh:=A (AA.q.below hbb);have Hf:=A (Db.q.trans (Mv.of_below hbb));have yj:=A (Dc.q.below hbb);have yL:=A (Eb.q.keep hbb);have lC:=A (K3 1 hcap1 (by have:=pW.q;omega) hcv hcx);have Wp:=A Ec;have hf2:=yL.q.1 2;have Wq:=A hrun;clear hcap1 hcap2 Ta Ec hcv hcx hbb hrun
      go_wp2_with (at_builtin;refine Df rfl _ _ 263 rfl rfl rfl Wq.q ?_)
      refine(uE w8 yh.q yj.q (w7.heap.size+1) 0 (N+1) cap _ lC.q (AA.q.new ah) Wp.q (by have:=pW.q;omega) (by have:=xq.q;omega) (by have:=xq.q;omega)).mono ?_
     case' inr.inl=>
      have HI0:=A hi0;clear hi0;have hact:kg (iv+1)=O N 0++[2]:=by rw[HI0.q];unfold kg;rw[←HI0.q,Ey.q,HI0.q];simp
      obtain⟨cap,w8,hrun,hcap1,hcap2,Ta,Ec,hcv,hcx⟩:=adS N pW.q (w7.alloc (F #[(.func (.func 221) #[I (G ⟨R,0,C⟩)] #[])] 1)) (w5.heap.size+1+1) w7.heap.size (.func (.func 219) #[I (G ⟨R,0,C⟩)] #[]) (.func (.func 221) #[I (G ⟨R,0,C⟩)] #[]) (qA.q.alloc _) ((Bx.new w7 #[(.func (.func 221) #[I (G ⟨R,0,C⟩)] #[])] 1).1 0);rw[show(w7.alloc (F #[(.func (.func 221) #[I (G ⟨R,0,C⟩)] #[])] 1)).heap.size=w7.heap.size+1 by simp] at hrun Ec hcv hcx;have hbb:=(av (S w7.heap.size w7) (F #[(.func (.func 221) #[I (G ⟨R,0,C⟩)] #[])] 1)).trans (Ta.mono ak);have yh:=A (AA.q.below hbb);have Hf:=A (Db.q.trans (Mv.of_below hbb));have yj:=A (Dc.q.below hbb);have yL:=A (Eb.q.keep hbb);have lC:=A (K3 2 hcap1 (by have:=pW.q;omega) hcv hcx);have Wp:=A Ec;have hf2:=yL.q.1 2;have Wq:=A hrun;clear hcap1 hcap2 Ta Ec hcv hcx hbb hrun
      go_wp2_with (at_builtin;refine Df rfl _ _ 263 rfl rfl rfl Wq.q ?_)
      refine(uE w8 yh.q yj.q (w7.heap.size+1) 0 (N+1) cap _ lC.q (AA.q.new ah) Wp.q (by have:=pW.q;omega) (by have:=xq.q;omega) (by have:=xq.q;omega)).mono ?_
     case' inr.inr.inl=>
      have HI0:=A hi0;clear hi0;have hact:kg (iv+1)=O N 0:=by unfold kg;rw[Ey.q,J (by have:=HI0.q;omega),J (by have:=HI0.q;omega)];simp
      have yh:=A AA.q;have Hf:=A Db.q;have yj:=A Dc.q;have yL:=A Eb.q;have lC:=A (xg (R:=R) (by have:=pW.q;omega) qA.q);go_wp2_with fail;refine(uE w7 yh.q yj.q (w5.heap.size+1+1) 0 N N _ lC.q S9.q qA.q.2.2 (by have:=pW.q;omega) (by have:=xq.q;omega) (by have:=xq.q;omega)).mono ?_
     case' inr.inr.inr.inl=>
      have HI0:=A hi0;clear hi0;have hact:kg (iv+1)=O N 0:=by unfold kg;rw[Ey.q,J (by have:=HI0.q;omega),J (by have:=HI0.q;omega)];simp
      have yh:=A AA.q;have Hf:=A Db.q;have yj:=A Dc.q;have yL:=A Eb.q;have lC:=A (xg (R:=R) (by have:=pW.q;omega) qA.q);go_wp2_with fail;refine(uE w7 yh.q yj.q (w5.heap.size+1+1) 0 N N _ lC.q S9.q qA.q.2.2 (by have:=pW.q;omega) (by have:=xq.q;omega) (by have:=xq.q;omega)).mono ?_
     case' inr.inr.inr.inr.inl=>
      have HI0:=A hi0;clear hi0;have hact:kg (iv+1)=O N 0:=by unfold kg;rw[Ey.q,J (by have:=HI0.q;omega),J (by have:=HI0.q;omega)];simp
      have yh:=A AA.q;have Hf:=A Db.q;have yj:=A Dc.q;have yL:=A Eb.q;have lC:=A (xg (R:=R) (by have:=pW.q;omega) qA.q);go_wp2_with fail;refine(uE w7 yh.q yj.q (w5.heap.size+1+1) 0 N N _ lC.q S9.q qA.q.2.2 (by have:=pW.q;omega) (by have:=xq.q;omega) (by have:=xq.q;omega)).mono ?_
     case' inr.inr.inr.inr.inr.inl=>
      have HI0:=A hi0;clear hi0;have hact:kg (iv+1)=O N 0:=by unfold kg;rw[Ey.q,J (by have:=HI0.q;omega),J (by have:=HI0.q;omega)];simp
      have yh:=A AA.q;have Hf:=A Db.q;have yj:=A Dc.q;have yL:=A Eb.q;have lC:=A (xg (R:=R) (by have:=pW.q;omega) qA.q);go_wp2_with fail;refine(uE w7 yh.q yj.q (w5.heap.size+1+1) 0 N N _ lC.q S9.q qA.q.2.2 (by have:=pW.q;omega) (by have:=xq.q;omega) (by have:=xq.q;omega)).mono ?_
     case' inr.inr.inr.inr.inr.inr=>
      have HI0:=A hi0;clear hi0;have hact:kg (iv+1)=O N 0:=by unfold kg;rw[Ey.q,J (by have:=HI0.q;omega),J (by have:=HI0.q;omega)];simp
      have yh:=A AA.q;have Hf:=A Db.q;have yj:=A Dc.q;have yL:=A Eb.q;have lC:=A (xg (R:=R) (by have:=pW.q;omega) qA.q);go_wp2_with fail;refine(uE w7 yh.q yj.q (w5.heap.size+1+1) 0 N N _ lC.q S9.q qA.q.2.2 (by have:=pW.q;omega) (by have:=xq.q;omega) (by have:=xq.q;omega)).mono ?_
     all_goals
      intro e w9 he;rw[←hact] at he
      cases hdo:jy (kg (iv+1)) n6 r
      case' error x=>
       rw[hdo] at he;obtain⟨rfl,hs⟩:=he;refine⟨rfl,?_⟩;show bQ R s c w _ _ _ _;rw[rY.q x hdo];exact⟨rfl,Hf.q.gW hs⟩
      case' ok unr=>
       obtain⟨u,n9,r9⟩:=unr;rw[hdo] at he;obtain⟨rfl,q9,c9,Eo,Kg⟩:=he;have hkp:=G8 _ hdo;have hal:(kg (iv+1)).length≤3:=by rw[hact];have:=pW.q;simp;omega
       have Fp:=A Eo;have Hg:=A (Hf.q.trans Kg);have jh:=A (yj.q.mv yh.q Kg.same);have Hl:=A (BO.q _ _ _ hdo);have Ws:=A (Kg.bx yL.q Cv.q);have hf2:=Ws.q.1 2;have Ak:Hid (n9.names.length≤3∧n9.aA.length≤3∧n9.bits=0∧n9.first=Z):=A (by have:=xq.q;exact⟨by omega,by omega,by rw[hkp.1];exact this.1,by rw[hkp.2.1];exact this.2.1⟩);have HRB:Hid (w5.heap.size<w9.heap.size):=A (Ws.q.2.2);have Tc:Hid (kS R c9 w5.heap.size):=A (Kg.rda Cv.q yL.q.2.2);clear Eo Kg hkp hal hdo hact
     case' inr.inr.inl.ok=>
      have hrs:kP (iv+1) n9 r9=(match fP 5 0 0 r9 with| .error x=> .error x| .ok (b,r)=> .ok ((),{n9 with bits:=b},r)):=by unfold kP;rw[if_pos (by have:=HI0.q;omega)] <;> rfl
      go_wp2_with fail;refine(Ii _ Fp.q jh.q Ak.q.2.2.1).mono ?_;intro e Fq he;have he:bQ R s c9 w9 (fun _:Unit=> .tuple #[]) (kP (iv+1) n9 r9) e Fq:=by rw[hrs];exact he
     case' inr.inr.inr.inr.inl.ok=>
      have hrs:kP (iv+1) n9 r9=(match bf true 40 (40+1) 0 n9.names n9.aA r9 with| .error x=> .error x| .ok (b,r)=> .ok ((),{n9 with names:=b.1,aA:=b.2},r)):=by unfold kP;rw[J (by have:=HI0.q;omega),J (by have:=HI0.q;omega),if_pos (by have:=HI0.q;omega)] <;> rfl
      go_wp2_with fail;refine(BP _ Fp.q jh.q 115 40 true (by rfl) (by rfl) aj (by have:=Ak.q;omega) (by have:=Ak.q;omega)).mono ?_;intro e Fq he;have he:bQ R s c9 w9 (fun _:Unit=> .tuple #[]) (kP (iv+1) n9 r9) e Fq:=by rw[hrs];exact he
     case' inr.inr.inr.inr.inr.inl.ok=>
      have hrs:kP (iv+1) n9 r9=(match bf Z 300 (300+1) 0 n9.names n9.aA r9 with| .error x=> .error x| .ok (b,r)=> .ok ((),{n9 with names:=b.1,aA:=b.2},r)):=by unfold kP;rw[J (by have:=HI0.q;omega),J (by have:=HI0.q;omega),J (by have:=HI0.q;omega),if_pos (by have:=HI0.q;omega)] <;> rfl
      go_wp2_with fail;refine(BP _ Fp.q jh.q 116 300 Z (by rfl) (by rfl) aj (by have:=Ak.q;omega) (by have:=Ak.q;omega)).mono ?_;intro e Fq he;have he:bQ R s c9 w9 (fun _:Unit=> .tuple #[]) (kP (iv+1) n9 r9) e Fq:=by rw[hrs];exact he
     case' inr.inr.inr.inl.ok=>
      go_wp2_with fail;refine(Wt _ Fp.q Ak.q.2.2.2).mono ?_;intro e wf he
      cases hfi:iD r9
      case' error x=>
       rw[hfi] at he;obtain⟨rfl,hs⟩:=he;refine⟨rfl,?_⟩;show bQ R s c w _ _ _ _;rw[Hl.q,show kP (iv+1) n9 r9= .error x by unfold kP;rw[J (by have:=HI0.q;omega),if_pos (by have:=HI0.q;omega),hfi],Fh];exact⟨rfl,Hg.q.gW hs⟩
      case' ok fr=>
       obtain⟨f,rf⟩:=fr;rw[hfi] at he;obtain⟨rfl,qf,cf,hcf,IL⟩:=he;have HCf:=A hcf;have HMf:=A (Hg.q.trans IL);have HGf:=A (jh.q.mv Fp.q IL.same);have aiG:=A (IL.bx Ws.q Tc.q);have hf2:=aiG.q.1 2;have hrs:kP (iv+1) n9 r9=(match bf Z 300 (300+1) 0 {n9 with first:=f}.names {n9 with first:=f}.aA rf with| .error x=> .error x| .ok (b,r)=> .ok ((),{{n9 with first:=f} with names:=b.1,aA:=b.2},r)):=by unfold kP;rw[J (by have:=HI0.q;omega),if_pos (by have:=HI0.q;omega),hfi] <;> rfl
       clear hcf IL hfi;go_wp2_with fail;refine(BP _ HCf.q HGf.q 109 300 Z (by rfl) (by rfl) aj (by have:=Ak.q;show n9.names.length≤600;omega) (by have:=Ak.q;show n9.aA.length≤600;omega)).mono ?_;intro e Fq he;have he:bQ R s cf wf (fun _:Unit=> .tuple #[]) (kP (iv+1) n9 r9) e Fq:=by rw[hrs];exact he
       have Hg:=A HMf.q
     all_goals
      first
      |have hx:=he
       clear hx
       cases hre:kP (iv+1) n9 r9
       case' error x=>
        rw[hre] at he;obtain⟨rfl,hs⟩:=he;refine⟨rfl,?_⟩;show bQ R s c w _ _ _ _;rw[Hl.q,hre,Fh];exact⟨rfl,Hg.q.gW hs⟩
       case' ok unr=>
        obtain⟨u,n9,r9⟩:=unr;rw[hre] at he;obtain⟨rfl,q9,c9,adW,adX⟩:=he;have Fp:=A adW;have Hg:=A (Hg.q.trans adX);have Yu:Hid (Y=yK (.ok (u,n9,r9))):=A (by rw[Hl.q,hre]);clear adW adX hre hrs
      |have Yu:Hid (Y=yK (.ok ((),n9,r9))):=A (Hl.q.trans (by unfold kP;rw[J (by have:=HI0.q;omega),J (by have:=HI0.q;omega),J (by have:=HI0.q;omega),J (by have:=HI0.q;omega)]))
     all_goals
      go_wp2_with fail;refine(zl _ Fp.q).mono ?_;intro e wa he
      cases hmo:bN r9
      case' error x=>
       rw[hmo] at he;obtain⟨rfl,hs⟩:=he;refine⟨rfl,?_⟩;show bQ R s c w _ _ _ _;rw[Yu.q,SV hmo];exact⟨rfl,Hg.q.gW hs⟩
      case' ok br=>
       obtain⟨bb,ra⟩:=br;rw[hmo] at he;obtain⟨rfl,qa,hca,hma⟩:=he;have HCa:=A hca;have HMa:=A (Hg.q.trans hma);have BQ:=A hmo;have c1:=hca.c1;clear hca hma hmo
       cases bb
       ·go_wp2_with fail
        refine bodyPost_end (results_none rfl _ _ _) rfl ?_;show bQ R s c w _ _ _ _;rw[Yu.q,PW BQ.q];exact⟨rfl,qa,_,HCa.q,HMa.q⟩
       ·go_wp2_with fail
        refine(jT qa 220 _).mono ?_;rintro e wb ⟨rfl,rfl⟩;refine⟨rfl,?_⟩;show bQ R s c w _ _ _ _;rw[Yu.q,SX BQ.q];have:=HCa.q.len;exact⟨by rw[show s.length - ra.length=qa by omega],HMa.q.same⟩
 ·go_wp2_with fail
  refine bodyPost_end (results_none rfl _ _ _) rfl ?_;show bQ R s c w _ _ _ _;rw[HY.q];unfold fQ;rw[if_pos hE];exact⟨rfl,q,c,HT3.q,oJ.q⟩
def bO (s:Bs) (p:L):aB × L × L:=
 if p<0∨(s.length:L)<p then(uh,0,2)
 else match mq (s.drop p.toNat) with
  | .ok (n,r)=>(n,((s.length - r.length:Nat):L),0)
  | .error (r,m)=>(uh,((s.length - r.length:Nat):L),m)
def Yv (x:aB × L × L) (w:World) (e:Ending) (w':World):Prop:=
 ∃c:aV,e= .returned (.tuple #[gu c,D E x.2.1,D E x.2.2])∧fq w' w.heap.size c x.1∧Below w.heap.size w w'
@[reducible] def yt:aV:=⟨0,C,0,0,0,C,0,0,Z,0⟩
theorem zn (w:World) (B:Nat):fq w B yt uh:=⟨⟨rfl,rfl,rfl,rfl,rfl,rfl⟩,Own.iE _ _ _ _ _,Own.iE _ _ _ _ _⟩
theorem PX {l r:Bs} (h:bN l= .ok (Z,r)):bR r=true:=by
 unfold bN at h
 split at h
 ·rename_i h1
  injection h with h;injection h with _ h;rw[←h];exact h1
 ·split at h
  ·cases h
  ·injection h with h;injection h with h _;cases h
theorem Td {l r:Bs} {n:aB} (h:fQ l= .ok (n,r)):bR r=true:=by
 unfold fQ at h
 split at h
 ·rename_i h1
  injection h with h;injection h with _ h;rw[←h];exact h1
 ·split at h
  ·cases h
  ·split at h
   ·cases h
   ·split at h
    ·cases h
    ·split at h
     ·cases h
     ·cases h
     ·rename_i hm
      injection h with h;injection h with _ h;rw[←h];exact PX hm
theorem size_alloc (w:World) (o:Obj):(w.alloc o).heap.size=w.heap.size+1:=by simp
theorem ZO {l r:Bs} {n:aB} (h:fQ l= .ok (n,r)):
  (pK r).2=0∧(∃t,mq l= .ok (n,t)∧t.length+(pK r).1=r.length)∨(pK r).2≠0∧(∃t,mq l= .error (t,220)∧t.length+(pK r).1=r.length):=by
 have alr:(iA r).length≤r.length:=by unfold iA;split <;> simp
 unfold mq;rw[h];unfold pK;simp only[];by_cases h1:(iA r).head?=C
 ·rw[if_pos h1,if_pos h1];exact .inl ⟨rfl,[],rfl,by simp⟩
 ·rw[J h1,J h1]
  by_cases h2:(iA r).head?=G 10
  ·rw[if_pos h2,if_pos h2]
   refine .inl ⟨rfl,_,rfl,?_⟩;have:1≤(iA r).length:=by
    cases hq:iA r with
    |nil=>rw[hq] at h1;exact absurd rfl h1
    |cons a t=>simp
   simp only[List.length_tail];omega
  ·rw[J h2,J h2]
   exact .inr ⟨by simp,_,rfl,by simp only[];omega⟩
theorem tN {n:aB} {nx er:L} (tmps:Array Value) (c:aV) (w w':World) (h4:tmps[4]?.getD undef= I (G ⟨w.heap.size,0,C⟩)) (h5:tmps[5]?.getD undef= I (G ⟨w.heap.size+1,0,C⟩))
  (h6:tmps[6]?.getD undef= I (G ⟨w.heap.size+1+1,0,C⟩)) (h1:Bx w' w.heap.size (gI c)) (h2:Bx w' (w.heap.size+1) #[D E nx]) (h3:Bx w' (w.heap.size+1+1) #[D E er])
  (hl:fq w' w.heap.size c n) (hb:Below w.heap.size w w'):Leaves Tryz.prog Tryz.f78 tmps (Yv (n,nx,er) w) [] .returning w':=by
 have a0:=h1.1 0;have a1:=h1.1 1;have a2:=h1.1 2;have a3:=h1.1 3;have a4:=h1.1 4;have a5:=h1.1 5;have b0:=h2.1 0;have c0:=h3.1 0;refine⟨.tuple #[gu c,D E nx,D E er],?_,c,rfl,hl,hb⟩;simp[results,results78,go_sem,h4,h5,h6,a0,a1,a2,a3,a4,a5,b0,c0]
theorem Q6 (s:Bs) (at_:L) (hlim:s.length≤1000000) (w:World) (hT:Lib.Utf8Tabs 6 7 w) (hE:vW w) (hL:jY w):
  Calls Tryz.prog 78 #[.string ⟨s.toArray⟩,D E at_] w (Yv (bO s at_) w):=by
 have hz:=dR s;by_cases h0:at_<0
 ·have hb0:decide (at_<0)=true:=by simpa using h0
  have hr:bO s at_=(uh,0,2):=by unfold bO;rw[if_pos (.inl h0)]
  rw[hr];clear hr h0 hT hE hL
  go_enter_defers func78,ntmps78
  go_wp2_with fail;refine tN _ yt w _ rfl rfl rfl ?_ ?_ ?_ ?_ ?_
  ·exact((Bx.new w #[D E 0,H C 0 0,D E 0,H C 0 0,.bool Z,D E 0] 34).alloc _).alloc _
  ·have:=(Bx.new (w.alloc (F #[D E 0,H C 0 0,D E 0,H C 0 0,.bool Z,D E 0] 34)) #[D E 0] 3).alloc (F #[D E 2] 27)
   rw[size_alloc] at this;exact this
  ·have:=Bx.new ((w.alloc (F #[D E 0,H C 0 0,D E 0,H C 0 0,.bool Z,D E 0] 34)).alloc (F #[D E 0] 3)) #[D E 2] 27
   rw[size_alloc,size_alloc] at this;exact this
  ·exact zn _ _
  ·exact(((S w.heap.size w).alloc (M _) _).alloc ak _).alloc (by simp;omega) _
 ·have hb0:decide (at_<0)=Z:=by simpa using h0
  by_cases h1:(s.length:L)<at_
  ·have hb1:decide ((s.length:L)<at_)=true:=by simpa using h1
   have hr:bO s at_=(uh,0,2):=by unfold bO;rw[if_pos (.inr h1)]
   rw[hr];clear hr h0 h1 hT hE hL
   go_enter_defers func78,ntmps78
   go_wp2_with fail;refine tN _ yt w _ rfl rfl rfl ?_ ?_ ?_ ?_ ?_
   ·exact((Bx.new w #[D E 0,H C 0 0,D E 0,H C 0 0,.bool Z,D E 0] 34).alloc _).alloc _
   ·have:=(Bx.new (w.alloc (F #[D E 0,H C 0 0,D E 0,H C 0 0,.bool Z,D E 0] 34)) #[D E 0] 3).alloc (F #[D E 2] 27)
    rw[size_alloc] at this;exact this
   ·have:=Bx.new ((w.alloc (F #[D E 0,H C 0 0,D E 0,H C 0 0,.bool Z,D E 0] 34)).alloc (F #[D E 0] 3)) #[D E 2] 27
    rw[size_alloc,size_alloc] at this;exact this
   ·exact zn _ _
   ·exact(((S w.heap.size w).alloc (M _) _).alloc ak _).alloc (by simp;omega) _
  ·have hb1:decide ((s.length:L)<at_)=Z:=by simpa using h1
   obtain⟨p,rfl⟩:∃p:Nat,at_=(p:L):=⟨at_.toNat,by omega⟩;have hp:p≤s.length:=by omega
   have IL:∀(fn:Fn) (first cap:Array Value) (w:World),(Instr.makeFunc fn first cap).run Tryz.prog w= .ok (.func fn first cap) w:=fun _ _ _ _=>rfl
   clear h0 h1
   go_enter_defers func78,ntmps78
   have hb4:=(((S w.heap.size w).alloc (M _) (F #[D E 0,H C 0 0,D E 0,H C 0 0,.bool Z,D E 0] 34)).alloc ak (F #[D E 0] 3)).alloc (by simp;omega) (F #[D E 0] 27)|>.alloc (by simp;omega) (F (oh s p yt) 226);have hx1:=(((Bx.new w #[D E 0,H C 0 0,D E 0,H C 0 0,.bool Z,D E 0] 34).alloc (F #[D E 0] 3)).alloc (F #[D E 0] 27)).alloc (F (oh s p yt) 226);have hx2:=((Bx.new (w.alloc (F #[D E 0,H C 0 0,D E 0,H C 0 0,.bool Z,D E 0] 34)) #[D E 0] 3).alloc (F #[D E 0] 27)).alloc (F (oh s p yt) 226);have hx3:=(Bx.new ((w.alloc (F #[D E 0,H C 0 0,D E 0,H C 0 0,.bool Z,D E 0] 34)).alloc (F #[D E 0] 3)) #[D E 0] 27).alloc (F (oh s p yt) 226);have hx4:=Bx.new (((w.alloc (F #[D E 0,H C 0 0,D E 0,H C 0 0,.bool Z,D E 0] 34)).alloc (F #[D E 0] 3)).alloc (F #[D E 0] 27)) (oh s p yt) 226;obtain⟨b,hb⟩:∃b,b=w.heap.size:=⟨_,rfl⟩;obtain⟨W4,hW4⟩:∃W4,W4=(((w.alloc (F #[D E 0,H C 0 0,D E 0,H C 0 0,.bool Z,D E 0] 34)).alloc (F #[D E 0] 3)).alloc (F #[D E 0] 27)).alloc (F #[.string ⟨s.toArray⟩,D E (p:L),D E 0,H C 0 0,D E 0,H C 0 0,.bool Z,D E 0] 226):=⟨_,rfl⟩;rw[←hW4] at hb4 hx1 hx2 hx3 hx4;simp only[size_alloc] at hx2 hx3 hx4;have hgr:qp (w.heap.size+1+1+1) W4:=⟨w,by omega,hb4,hT,hE,hL⟩;have hrc:bX W4 (w.heap.size+1+1+1) s p (s.drop p) yt uh:=⟨hx4,zn _ _,rfl,hp,hlim⟩;have rT:=A (ZN W4 hrc hgr);have HX:=A (⟨hx1,hx2,hx3⟩:_∧_∧_);have HA1:Hid (kS (w.heap.size+1+1+1) yt w.heap.size∧kS (w.heap.size+1+1+1) yt (w.heap.size+1)∧kS (w.heap.size+1+1+1) yt (w.heap.size+1+1)):=A ⟨hrc.old ah,hrc.old ah,hrc.old ah⟩;have eH:=A hb4;have HGR:=A hgr;have Tc:=A hrc;have HW4:=A hW4;clear hW4 hx1 hx2 hx3 hx4 hb4 hgr hrc hE hL hb;go_wp2_with fail;rw[←HW4.q];refine rT.q.mono ?_;intro e w5 he
   cases hrd:fQ (s.drop p) with
   |error x=>
    rw[hrd] at he;obtain⟨rfl,hs⟩:=he;have hrl:bO s p=(uh,((s.length - x.1.length:Nat):L),x.2):=by
     unfold bO mq;rw[J ah,Int.toNat_natCast,hrd]
    rw[hrl];refine leaves_cons (f:=161) (args:=#[I (G ⟨w.heap.size,0,C⟩),I (G ⟨w.heap.size+1,0,C⟩),I (G ⟨w.heap.size+1+1,0,C⟩)]) ak (by simp[go_sem]) ?_;refine(Gu w.heap.size ((s.length - x.1.length:Nat):L) x.2 _ _ _ _ _ _ _ _ [] w5 (hs.bx HX.q.1 HA1.q.1) (hs.bx HX.q.2.1 HA1.q.2.1) (hs.bx HX.q.2.2 HA1.q.2.2)).mono ?_;rintro e u' w6 ⟨rfl,rfl,k1,k2,k3,k4⟩;exact tN _ yt w w6 rfl rfl rfl k1 k2 k3 (zn _ _) ((hs.below eH.q (fun i hi=>Tc.q.old ah) eH.q.size).trans k4)
   |ok nr=>
    obtain⟨n,r⟩:=nr;rw[hrd] at he;obtain⟨rfl,p5,c5,y8,BR⟩:=he;have K5:=A (ZO hrd);have iQ:=A y8;have yg:=A BR;have oU:=A (⟨BR.bx HX.q.1 HA1.q.1,BR.bx HX.q.2.1 HA1.q.2.1,BR.bx HX.q.2.2 HA1.q.2.2⟩:_∧_∧_);have I9:=A (HGR.q.mv Tc.q BR.same).tabs;have gY:=A (BR.same.below eH.q (fun i hi=>Tc.q.old ah) eH.q.size);have c1:=y8.c1;have aiH:=A (Td hrd);have als:=A hrd;clear y8 BR hrd;go_wp2_with fail;refine(ab2 s p5 r iQ.q.d iQ.q.le hlim aiH.q w5 I9.q).mono ?_;rintro e w6 ⟨k,a,t,g,rfl,hb6⟩;have wC:=A (iQ.q.below hb6);have NK:=Io oU.q hb6;have xu:=A NK;have sZ:=A (gY.q.bq hb6);have y1:=NK.2.1.1 0;have y2:=NK.2.2.1 0;have g1:=NK.2.1.2.1 0;have g2:=NK.2.2.2.1 0;obtain⟨er,her⟩:∃er,er=(pK r).2:=⟨_,rfl⟩;obtain⟨nx,hnx⟩:∃nx,nx=p5+(pK r).1:=⟨_,rfl⟩;rw[←her,←hnx];rw[←her] at K5;have Cz:=A hnx;clear hb6 NK c1 her hnx;obtain⟨V,hV⟩:∃V:World,V=(w6.setCell ⟨w.heap.size+1,0,C⟩ (D E (nx:L))).setCell ⟨w.heap.size+1+1,0,C⟩ (D E er):=⟨_,rfl⟩;have HV:Hid (Bx V w.heap.size #[D E 0,H C 0 0,D E 0,H C 0 0,.bool Z,D E 0]∧Bx V (w.heap.size+1) #[D E (nx:L)]∧Bx V (w.heap.size+1+1) #[D E er]∧bX V (w.heap.size+1+1+1) s p5 r c5 n∧Below w.heap.size w V):=A (by
     rw[hV];refine⟨(xu.q.1.setOther _ _ _ ah).setOther _ _ _ ah,(xu.q.2.1.aR 0 ak _).setOther _ _ _ ah,(xu.q.2.2.setOther _ _ _ ah).aR 0 ak _,?_,?_⟩
     ·have h1:=wC.q.put (w.heap.size+1) 0 (D E (nx:L)) (wC.q.old ah)
      exact h1.put (w.heap.size+1+1) 0 _ (h1.old ah)
     ·exact(sZ.q.setCell (p:=⟨w.heap.size+1,0,C⟩) ak _).setCell (p:=⟨w.heap.size+1+1,0,C⟩) (by simp;omega) _)
    have E8:=A hV;clear hV;rcases K5.q with⟨h0,t',hl,htl⟩|⟨h0,t',hl,htl⟩
    ·subst h0
     have hrl:bO s p=(n,(nx:L),0):=by
      unfold bO;rw[J ah,Int.toNat_natCast,hl];have:=iQ.q.len;have:=Cz.q;simp only[show s.length - t'.length=nx by omega]
     have dz:=A hrl;clear hl htl hrl;go_wp2_with fail;rw[←E8.q];have v1:=HV.q.2.1.1 0;have v2:=HV.q.2.2.1.1 0;have v0:=HV.q.1.1;have k0:=HV.q.1.2.1;have k1:=HV.q.2.1.2.1 0;have k2:=HV.q.2.2.1.2.1 0;have K6:=HV.q.2.2.2.1.x.1;obtain⟨V2,hV2⟩:∃V2:World,V2=((((((V.setCell ⟨w.heap.size,0,C⟩ (D E c5.kind)).setCell ⟨w.heap.size,1,C⟩ (H c5.na c5.nn c5.nc)).setCell ⟨w.heap.size,2,C⟩ (D E c5.lvl)).setCell ⟨w.heap.size,3,C⟩ (H c5.va c5.vn c5.vc)).setCell ⟨w.heap.size,4,C⟩ (.bool c5.first)).setCell ⟨w.heap.size,5,C⟩ (D E c5.bits)).drew:=⟨_,rfl⟩;have oV:Hid (Bx V2 w.heap.size (gI c5)∧Bx V2 (w.heap.size+1) #[D E (nx:L)]∧Bx V2 (w.heap.size+1+1) #[D E 0]∧bX V2 (w.heap.size+1+1+1) s p5 r c5 n∧Below w.heap.size w V2):=A (by
      rw[hV2];refine⟨?_,?_,?_,?_,?_⟩
      ·exact((((((HV.q.1.aR 0 ak _).aR 1 ak _).aR 2 ak _).aR 3 ak _).aR 4 ak _).aR 5 ak _).drew
      ·exact((((((HV.q.2.1.setOther _ 0 _ ah).setOther _ 1 _ ah).setOther _ 2 _ ah).setOther _ 3 _ ah).setOther _ 4 _ ah).setOther _ 5 _ ah).drew
      ·exact((((((HV.q.2.2.1.setOther _ 0 _ ah).setOther _ 1 _ ah).setOther _ 2 _ ah).setOther _ 3 _ ah).setOther _ 4 _ ah).setOther _ 5 _ ah).drew
      ·have hA:=HV.q.2.2.2.1.old (i:=w.heap.size) ah
       exact((((((HV.q.2.2.2.1.put _ 0 _ hA).put _ 1 _ hA).put _ 2 _ hA).put _ 3 _ hA).put _ 4 _ hA).put _ 5 _ hA).drew
      ·exact((((((HV.q.2.2.2.2.setCell (p:=⟨w.heap.size,0,C⟩) (M _) _).setCell (p:=⟨w.heap.size,1,C⟩) (M _) _).setCell (p:=⟨w.heap.size,2,C⟩) (M _) _).setCell (p:=⟨w.heap.size,3,C⟩) (M _) _).setCell (p:=⟨w.heap.size,4,C⟩) (M _) _).setCell (p:=⟨w.heap.size,5,C⟩) (M _) _).drew)
     have aiI:=A hV2;clear hV2;refine aK 99 [(0,0),(1,0),(2,0),(3,0),(4,0),(5,2),(6,2),(7,2)] (fun _=>True) (fun W'=>W'.cell? ⟨w.heap.size+1+1+1,2,C⟩=G (D E c5.kind)∧W'.cell? ⟨w.heap.size+1+1+1,3,C⟩=G (H c5.na c5.nn c5.nc)∧W'.cell? ⟨w.heap.size+1+1+1,4,C⟩=G (D E c5.lvl)∧W'.cell? ⟨w.heap.size+1+1+1,5,C⟩=G (H c5.va c5.vn c5.vc)∧W'.cell? ⟨w.heap.size+1+1+1,6,C⟩=G (.bool c5.first)∧W'.cell? ⟨w.heap.size+1+1+1,7,C⟩=G (D E c5.bits)∧W'.cell? ⟨w.heap.size+1,0,C⟩=G (D E (nx:L))) au au (trivial) (⟨K6 2,K6 3,K6 4,K6 5,K6 6,K6 7,v1⟩) ?_;refine qC ?_;refine aF rfl rfl (fun K hK=>?_);go_simp;rw[←aiI.q];refine hK _ _ ⟨trivial,oV.q.2.2.2.1.x.1 2,oV.q.2.2.2.1.x.1 3,oV.q.2.2.2.1.x.1 4,oV.q.2.2.2.1.x.1 5,oV.q.2.2.2.1.x.1 6,oV.q.2.2.2.1.x.1 7,oV.q.2.1.1 0⟩ ?_;clear hK K v1 v2 v0 k0 k1 k2 K6;have v1:=oV.q.2.1.1 0;have v2:=oV.q.2.2.1.1 0;have k1:=oV.q.2.1.2.1 0;have k2:=oV.q.2.2.1.2.1 0;have hr1:=oV.q.2.2.2.1.put (w.heap.size+1) 0 (D E (nx:L)) (oV.q.2.2.2.1.old ah);have hr2:=hr1.put (w.heap.size+1+1) 0 (D E 0) (hr1.old ah);have hq1:=oV.q.2.1.aR 0 ak (D E (nx:L));have hq2:=hq1.setOther (w.heap.size+1+1) 0 (D E 0) ah;have HR1:=A (⟨hr1,hq1⟩:_∧_);have HR2:=A (⟨hr2,hq2⟩:_∧_);clear hr1 hr2 hq1 hq2;refine aF rfl rfl (fun K hK=>?_);go_simp;refine hK _ _ ⟨trivial,HR1.q.1.x.1 2,HR1.q.1.x.1 3,HR1.q.1.x.1 4,HR1.q.1.x.1 5,HR1.q.1.x.1 6,HR1.q.1.x.1 7,HR1.q.2.1 0⟩ ?_;clear hK K;refine aF rfl rfl (fun K hK=>?_);go_simp;refine hK _ _ ⟨trivial,HR2.q.1.x.1 2,HR2.q.1.x.1 3,HR2.q.1.x.1 4,HR2.q.1.x.1 5,HR2.q.1.x.1 6,HR2.q.1.x.1 7,HR2.q.2.1 0⟩ ?_;clear hK K;refine bB ?_;go_wp2_with fail;obtain⟨V3,GY⟩:∃V3:World,V3=(V2.setCell ⟨w.heap.size+1,0,C⟩ (D E (nx:L))).setCell ⟨w.heap.size+1+1,0,C⟩ (D E 0):=⟨_,rfl⟩;rw[←GY];have hfin:Bx V3 w.heap.size (gI c5)∧Bx V3 (w.heap.size+1) #[D E (nx:L)]∧Bx V3 (w.heap.size+1+1) #[D E 0]∧bX V3 (w.heap.size+1+1+1) s p5 r c5 n∧Below w.heap.size w V3:=by
      rw[GY];refine⟨(oV.q.1.setOther _ 0 _ ah).setOther _ 0 _ ah,(oV.q.2.1.aR 0 ak _).setOther _ 0 _ ah,(oV.q.2.2.1.setOther _ 0 _ ah).aR 0 ak _,?_,?_⟩
      ·have h1:=oV.q.2.2.2.1.put (w.heap.size+1) 0 (D E (nx:L)) (oV.q.2.2.2.1.old ah)
       exact h1.put (w.heap.size+1+1) 0 _ (h1.old ah)
      ·exact(oV.q.2.2.2.2.setCell (p:=⟨w.heap.size+1,0,C⟩) ak _).setCell (p:=⟨w.heap.size+1+1,0,C⟩) (by simp;omega) _
     refine leaves_cons (f:=161) (args:=#[I (G ⟨w.heap.size,0,C⟩),I (G ⟨w.heap.size+1,0,C⟩),I (G ⟨w.heap.size+1+1,0,C⟩)]) ak (by simp[go_sem]) ?_;refine(U8 w.heap.size V3).mono ?_;rintro e u' w7 ⟨rfl,rfl,rfl⟩;rw[dz.q];exact tN _ c5 w w7 rfl rfl rfl hfin.1 hfin.2.1 hfin.2.2.1 (hfin.2.2.2.1.n.mono ah) hfin.2.2.2.2
    ·have hne:(er !=0)=true:=by simpa using h0
     have hrl:bO s p=(uh,(nx:L),220):=by
      unfold bO;rw[J ah,Int.toNat_natCast,hl];have:=iQ.q.len;have:=Cz.q;simp only[show s.length - t'.length=nx by omega]
     have dz:=A hrl;clear hl htl hrl;go_wp2_with fail;rw[←E8.q];refine(jT nx 220 _).mono ?_;rintro e wb ⟨rfl,rfl⟩;refine leaves_cons (f:=161) (args:=#[I (G ⟨w.heap.size,0,C⟩),I (G ⟨w.heap.size+1,0,C⟩),I (G ⟨w.heap.size+1+1,0,C⟩)]) ak (by simp[go_sem]) ?_;refine(Gu w.heap.size (nx:L) 220 _ _ _ _ _ _ _ _ [] wb HV.q.1 HV.q.2.1 HV.q.2.2.1).mono ?_;rintro e u' w7 ⟨rfl,rfl,k1,k2,k3,k4⟩;rw[dz.q];exact tN _ yt w w7 rfl rfl rfl k1 k2 k3 (zn _ _) (HV.q.2.2.2.2.trans k4)
theorem tO (pairs:Bool) (most:Nat):∀(f many:Nat) (ns:List Bs) (vs:List To) (l:Bs) {x:List Bs × List To} {r:Bs},bf pairs most f many ns vs l= .ok (x,r)→x.1.length≤ns.length+f∧x.2.length≤vs.length+f
 |0,many,ns,vs,l,x,r,h=>by rw[bf] at h;injection h with h;injection h with h _;subst h;exact⟨M _,M _⟩
 |f+1,many,ns,vs,l,x,r,h=>by
  rw[bf] at h
  cases hm:bN l with
  |error y=>rw[hm] at h;cases h
  |ok y=>
   obtain⟨b,r0⟩:=y;rw[hm] at h
   cases b
   ·injection h with h;injection h with h _;subst h;exact⟨by simp,by simp⟩
   ·simp only[] at h
    by_cases hb:many=most∧bL r0=true
    ·rw[if_pos hb] at h;cases h
    ·rw[J hb] at h
     cases hn:bI r0 with
     |error y=>rw[hn] at h;cases h
     |ok y=>
      obtain⟨nm,r1⟩:=y;rw[hn] at h;simp only[] at h;by_cases hp:pairs=true
      ·rw[if_pos hp] at h
       cases hu:bW r1 with
       |error y=>rw[hu] at h;cases h
       |ok r2=>
        rw[hu] at h;simp only[] at h
        cases hv:dQ r2 with
        |error y=>rw[hv] at h;cases h
        |ok y=>
         obtain⟨v,r3⟩:=y;rw[hv] at h;have:=tO pairs most f (many+1) _ _ _ h;simp only[List.length_append,List.length_singleton] at this;omega
      ·rw[J hp] at h
       have:=tO pairs most f (many+1) _ _ _ h;simp only[List.length_append,List.length_singleton] at this;omega
theorem Ho:∀(k:Nat) (acc:List Bs) (l:Bs) {ns:List Bs} {r:Bs},gD k acc l= .ok (ns,r)→ns.length≤acc.length+k
 |0,acc,l,ns,r,h=>by rw[gD] at h;injection h with h;injection h with h _;subst h;exact M _
 |k+1,acc,l,ns,r,h=>by
  rw[gD] at h
  cases hm:bW l with
  |error y=>rw[hm] at h;cases h
  |ok r0=>
   rw[hm] at h;simp only[] at h
   cases hn:bI r0 with
   |error y=>rw[hn] at h;cases h
   |ok y=>
    obtain⟨nm,r1⟩:=y;rw[hn] at h;have:=Ho k _ _ h;simp only[List.length_append,List.length_singleton] at this;omega
theorem Wu {k:Nat} {ns:List Bs} {l r:Bs} {n:aB} (h:iy k ns l= .ok (n,r)):n.names.length≤ns.length+301∧n.aA.length≤301:=by
 unfold iy at h;by_cases h1:k=1
 ·rw[if_pos h1] at h
  cases hm:bW l with
  |error y=>rw[hm] at h;cases h
  |ok r0=>
   rw[hm] at h;simp only[] at h
   cases hn:bZ kD r0 with
   |error y=>rw[hn] at h;cases h
   |ok y=>rw[hn] at h;injection h with h;injection h with h _;subst h;exact⟨by simp,by simp⟩
 rw[J h1] at h;by_cases h3:k=3
 ·rw[if_pos h3] at h
  cases hm:bW l with
  |error y=>rw[hm] at h;cases h
  |ok r0=>
   rw[hm] at h;simp only[] at h
   cases hn:dQ r0 with
   |error y=>rw[hn] at h;cases h
   |ok y=>rw[hn] at h;injection h with h;injection h with h _;subst h;exact⟨by simp,by simp⟩
 rw[J h3] at h;by_cases h9:k=9
 ·rw[if_pos h9] at h
  cases hm:fP 5 0 0 l with
  |error y=>rw[hm] at h;cases h
  |ok y=>rw[hm] at h;injection h with h;injection h with h _;subst h;exact⟨by simp,by simp⟩
 rw[J h9] at h;by_cases h8:k=8
 ·rw[if_pos h8] at h
  cases hm:iD l with
  |error y=>rw[hm] at h;cases h
  |ok y=>
   obtain⟨f,r0⟩:=y;rw[hm] at h;simp only[] at h
   cases ho:bf Z 300 301 0 ns [] r0 with
   |error y=>rw[ho] at h;cases h
   |ok y=>
    obtain⟨⟨a,b⟩,r1⟩:=y;have:=tO _ _ _ _ _ _ _ ho;rw[ho] at h;injection h with h;injection h with h _;subst h;simpa using this
 rw[J h8] at h;by_cases h4:k=4
 ·rw[if_pos h4] at h
  cases ho:bf true 40 41 0 ns [] l with
  |error y=>rw[ho] at h;cases h
  |ok y=>
   obtain⟨⟨a,b⟩,r1⟩:=y;have:=tO _ _ _ _ _ _ _ ho;rw[ho] at h;injection h with h;injection h with h _;subst h;simp only[List.length_nil] at this ⊢;omega
 rw[J h4] at h;by_cases h7:k=7
 ·rw[if_pos h7] at h
  cases ho:bf Z 300 301 0 ns [] l with
  |error y=>rw[ho] at h;cases h
  |ok y=>
   obtain⟨⟨a,b⟩,r1⟩:=y;have:=tO _ _ _ _ _ _ _ ho;rw[ho] at h;injection h with h;injection h with h _;subst h;simpa using this
 rw[J h7] at h;injection h with h;injection h with h _;subst h;exact⟨by simp,by simp⟩
theorem Wv (k:Nat):(bA k).toNat≤2:=by
 match k with
 |0=>decide
 |1=>decide
 |2=>decide
 |3=>decide
 |4=>decide
 |5=>decide
 |6=>decide
 |7=>decide
 |8=>decide
 |k+9=>exact(by decide:(1:L).toNat≤2)
theorem Te {l r:Bs} {n:aB} (h:fQ l= .ok (n,r)):n.names.length≤1000∧n.aA.length≤1000:=by
 unfold fQ at h;by_cases he:bR (aY l)=true
 ·rw[if_pos he] at h;injection h with h;injection h with h _;subst h;exact⟨by simp,by simp⟩
 rw[J he] at h
 cases hw:bZ jV (aY l) with
 |error y=>rw[hw] at h;cases h
 |ok y=>
  obtain⟨i,r0⟩:=y;rw[hw] at h;simp only[] at h
  cases hn:gD (bA (i+1)).toNat [] r0 with
  |error y=>rw[hn] at h;cases h
  |ok y=>
   obtain⟨ns,r1⟩:=y;rw[hn] at h;simp only[] at h;have h1:=Ho _ _ _ hn;have h2:=Wv (i+1);simp only[List.length_nil] at h1
   cases ht:iy (i+1) ns r1 with
   |error y=>rw[ht] at h;cases h
   |ok y=>
    obtain⟨s,r2⟩:=y;rw[ht] at h;have h3:=Wu ht;simp only[] at h
    cases hm:bN r2 with
    |error y=>rw[hm] at h;cases h
    |ok y=>
     obtain⟨b,r3⟩:=y;rw[hm] at h
     cases b
     ·injection h with h;injection h with h _;subst h;omega
     ·cases h
theorem OH (s:Bs) (p:L):(bO s p).1.names.length≤1000∧(bO s p).1.aA.length≤1000:=by
 unfold bO;by_cases h:p<0∨(s.length:L)<p
 ·rw[if_pos h];exact⟨by simp,by simp⟩
 rw[J h]
 cases hl:mq (s.drop p.toNat) with
 |error y=>exact⟨by simp,by simp⟩
 |ok y=>
  obtain⟨n,r⟩:=y;show n.names.length≤1000∧n.aA.length≤1000;unfold mq at hl
  cases hr:fQ (s.drop p.toNat) with
  |error y=>rw[hr] at hl;cases hl
  |ok y=>
   obtain⟨n',r'⟩:=y;have:=Te hr;rw[hr] at hl;simp only[] at hl
   split at hl
   ·injection hl with hl;injection hl with hl _;subst hl;exact this
   ·split at hl
    ·injection hl with hl;injection hl with hl _;subst hl;exact this
    ·cases hl
end Yd
