import Derived.Test.YtnhnhmeogckgpaaGreatDoorTFew
set_option linter.all false
set_option maxRecDepth 200000
set_option maxHeartbeats 8000000
namespace Yd
open Bool renaming true→C,false→U
open List renaming length_singleton→J,length_map→N,length_append→O,setIfInBounds_toArray→P
open Option renaming none→j,some→B
open Go Go.RowKit Go.Proofs Tryz
open Below renaming refl→M
open Go.IntKind renaming i64→r
open Go.Obj renaming cells→f
open Go.Value renaming slice→d,int→p,string→E
open Same renaming of_below→I,refl'→S
open Value renaming slice→G
open Yd renaming hid→z
open _root_ renaming trivial→H
attribute [local go_sem] Oper.semAt_some
theorem Bx.newAt {X:World} {g:Nat} (h:X.heap.size=g) (cs:Array Value) (T:TypeId):Bx (X.alloc (f cs T)) g cs:=h▸Bx.new X cs T
theorem BF (s:Bs) (w:World) (hG:zK w):Calls Tryz.prog 12 #[E ⟨s.toArray⟩] w (Yj s w):=by
 have hz:=dR s;by_cases hlong:131072<s.length
 ·have hf:kF s= .error (0,3):=if_pos hlong
  have hl1:(131072:Int)<(s.length:Int):=by omega
  have hr:∀X,Below w.heap.size w X→Yj s w (.returned (.tuple #[d j 0 0,d j 0 0,p r 0,p r 3])) X:=fun X hb=>⟨hb,by rw[hf]⟩
  have HR:=z hr;clear hr hf;go_enter Tryz.func12,Tryz.ntmps12;go_wp2_with fail;have h0:=(((Bx.newAt (X:=w) (g:=w.heap.size) rfl #[d j 0 0] 25).alloc (f #[d j 0 0] 26)).alloc (f #[p r 0] 3)).alloc (f #[p r 3] 27);have h1:=((Bx.newAt (X:=w.alloc (f #[d j 0 0] 25)) (g:=w.heap.size+1) ak #[d j 0 0] 26).alloc (f #[p r 0] 3)).alloc (f #[p r 3] 27);have h2:=(Bx.newAt (X:=(w.alloc (f #[d j 0 0] 25)).alloc (f #[d j 0 0] 26)) (g:=w.heap.size+1+1) ak #[p r 0] 3).alloc (f #[p r 3] 27);have h3:=Bx.newAt (X:=((w.alloc (f #[d j 0 0] 25)).alloc (f #[d j 0 0] 26)).alloc (f #[p r 0] 3)) (g:=w.heap.size+1+1+1) ak #[p r 3] 27;have c0:=h0.1 0;have c1:=h1.1 0;have c2:=h2.1 0;have c3:=h3.1 0;refine bodyPost_ret (v:= .tuple #[d j 0 0,d j 0 0,p r 0,p r 3]) (by simp[results,results12,go_sem,c0,c1,c2,c3]) rfl (HR.q _ ((((M w.heap.size w).alloc (Nat.le_refl _) _).alloc ak _).alloc (by simp;omega) _|>.alloc (by simp;omega) _))
 ·have hf:kF s=nX s (s.length+1) 0:=if_neg hlong
  have hl1:¬(131072:Int)<(s.length:Int):=by omega
  have hlim:s.length≤1000000:=by omega
  have HF:=z hf;have HG:=z hG;have ais:=z hlim;clear hf hG hlong hlim;refine(callsIn_wide (n:=3)).1 ?_;refine callsIn_of_wp_marks Tryz.func12 rfl H ?_ rfl;simp only[Tryz.ntmps12,List.size_toArray,List.length_cons,List.length_nil,Nat.reduceAdd,Nat.reduceSub,Array.replicate_succ,Array.replicate_zero,List.push_toArray,List.append_toArray,List.nil_append,List.cons_append];refine wpIn_wide.2 ?_
  go_wp2_with (go_at_call 34;refine(UM _ _).mono ?_;rintro e w' ⟨rfl,rfl⟩)
  have wF:(((((((w.alloc (f #[d j 0 0] 25)).alloc (f #[d j 0 0] 26)).alloc (f #[p r 0] 3)).alloc (f #[p r 0] 27)).alloc (f #[d j 0 0] 25)).alloc (f #[d j 0 0] 26)).alloc (f #[E ⟨s.toArray⟩] 9)).heap.size=w.heap.size+7:=by simp
  have A8:Below w.heap.size w (((((((w.alloc (f #[d j 0 0] 25)).alloc (f #[d j 0 0] 26)).alloc (f #[p r 0] 3)).alloc (f #[p r 0] 27)).alloc (f #[d j 0 0] 25)).alloc (f #[d j 0 0] 26)).alloc (f #[E ⟨s.toArray⟩] 9)):=((((((((((((((M w.heap.size w).alloc (by simp;try omega) _)).alloc (by simp;try omega) _)).alloc (by simp;try omega) _)).alloc (by simp;try omega) _)).alloc (by simp;try omega) _)).alloc (by simp;try omega) _)).alloc (by simp;try omega) _);have pu:Bx (((((((w.alloc (f #[d j 0 0] 25)).alloc (f #[d j 0 0] 26)).alloc (f #[p r 0] 3)).alloc (f #[p r 0] 27)).alloc (f #[d j 0 0] 25)).alloc (f #[d j 0 0] 26)).alloc (f #[E ⟨s.toArray⟩] 9)) (w.heap.size+0) #[d j 0 0]:=(((((((Bx.newAt (X:=w) (g:=w.heap.size+0) ak #[d j 0 0] 25).alloc _).alloc _).alloc _).alloc _).alloc _).alloc _);have hV1:Bx (((((((w.alloc (f #[d j 0 0] 25)).alloc (f #[d j 0 0] 26)).alloc (f #[p r 0] 3)).alloc (f #[p r 0] 27)).alloc (f #[d j 0 0] 25)).alloc (f #[d j 0 0] 26)).alloc (f #[E ⟨s.toArray⟩] 9)) (w.heap.size+1) #[d j 0 0]:=((((((Bx.newAt (X:=(w.alloc (f #[d j 0 0] 25))) (g:=w.heap.size+1) ak #[d j 0 0] 26).alloc _).alloc _).alloc _).alloc _).alloc _);have hV2:Bx (((((((w.alloc (f #[d j 0 0] 25)).alloc (f #[d j 0 0] 26)).alloc (f #[p r 0] 3)).alloc (f #[p r 0] 27)).alloc (f #[d j 0 0] 25)).alloc (f #[d j 0 0] 26)).alloc (f #[E ⟨s.toArray⟩] 9)) (w.heap.size+2) #[p r 0]:=(((((Bx.newAt (X:=((w.alloc (f #[d j 0 0] 25)).alloc (f #[d j 0 0] 26))) (g:=w.heap.size+2) ak #[p r 0] 3).alloc _).alloc _).alloc _).alloc _);have GY:Bx (((((((w.alloc (f #[d j 0 0] 25)).alloc (f #[d j 0 0] 26)).alloc (f #[p r 0] 3)).alloc (f #[p r 0] 27)).alloc (f #[d j 0 0] 25)).alloc (f #[d j 0 0] 26)).alloc (f #[E ⟨s.toArray⟩] 9)) (w.heap.size+3) #[p r 0]:=((((Bx.newAt (X:=(((w.alloc (f #[d j 0 0] 25)).alloc (f #[d j 0 0] 26)).alloc (f #[p r 0] 3))) (g:=w.heap.size+3) ak #[p r 0] 27).alloc _).alloc _).alloc _);have Si:Bx (((((((w.alloc (f #[d j 0 0] 25)).alloc (f #[d j 0 0] 26)).alloc (f #[p r 0] 3)).alloc (f #[p r 0] 27)).alloc (f #[d j 0 0] 25)).alloc (f #[d j 0 0] 26)).alloc (f #[E ⟨s.toArray⟩] 9)) (w.heap.size+4) #[d j 0 0]:=(((Bx.newAt (X:=((((w.alloc (f #[d j 0 0] 25)).alloc (f #[d j 0 0] 26)).alloc (f #[p r 0] 3)).alloc (f #[p r 0] 27))) (g:=w.heap.size+4) ak #[d j 0 0] 25).alloc _).alloc _);have GV:Bx (((((((w.alloc (f #[d j 0 0] 25)).alloc (f #[d j 0 0] 26)).alloc (f #[p r 0] 3)).alloc (f #[p r 0] 27)).alloc (f #[d j 0 0] 25)).alloc (f #[d j 0 0] 26)).alloc (f #[E ⟨s.toArray⟩] 9)) (w.heap.size+5) #[d j 0 0]:=((Bx.newAt (X:=(((((w.alloc (f #[d j 0 0] 25)).alloc (f #[d j 0 0] 26)).alloc (f #[p r 0] 3)).alloc (f #[p r 0] 27)).alloc (f #[d j 0 0] 25))) (g:=w.heap.size+5) ak #[d j 0 0] 26).alloc _);have Sj:Bx (((((((w.alloc (f #[d j 0 0] 25)).alloc (f #[d j 0 0] 26)).alloc (f #[p r 0] 3)).alloc (f #[p r 0] 27)).alloc (f #[d j 0 0] 25)).alloc (f #[d j 0 0] 26)).alloc (f #[E ⟨s.toArray⟩] 9)) (w.heap.size+6) #[E ⟨s.toArray⟩]:=(Bx.newAt (X:=((((((w.alloc (f #[d j 0 0] 25)).alloc (f #[d j 0 0] 26)).alloc (f #[p r 0] 3)).alloc (f #[p r 0] 27)).alloc (f #[d j 0 0] 25)).alloc (f #[d j 0 0] 26))) (g:=w.heap.size+6) ak #[E ⟨s.toArray⟩] 9);revert wF A8 pu hV1 hV2 GY Si GV Sj;generalize(((((((w.alloc (f #[d j 0 0] 25)).alloc (f #[d j 0 0] 26)).alloc (f #[p r 0] 3)).alloc (f #[p r 0] 27)).alloc (f #[d j 0 0] 25)).alloc (f #[d j 0 0] 26)).alloc (f #[E ⟨s.toArray⟩] 9))=V;intro wF A8 pu hV1 hV2 GY Si GV Sj;have hI0:nD (w.heap.size+4) (w.heap.size+9) V (d j 0 0) (d j 0 0) (d j 0 0) [] [] (d j 0 0) []:=⟨Si,GV,Own.iE _ _ _ _ _,⟨rfl,fun i l h=>(by cases h)⟩,Own.iE _ _ _ _ _⟩;refine wpIn_wide.1 (Oz (n:=3) (gf:=77) (lb:=#[.pointer (B ⟨w.heap.size+6,0,j⟩)]) (by simp[go_sem]) abz
   (qD:=Xz (V.heap.size+2)) (k:=0) (D:=fun i=>i<w.heap.size∨i=w.heap.size+6) (R:=zK) (Kp:=UN (V.heap.size+2)) (xs:=gU s (s.length+1) 0)
   (fun W hW hWs=>by have:=LK s ais.q (w.heap.size+6) (fun i=>i<w.heap.size∨i=w.heap.size+6) W (Sj.keep hW) (.inr rfl);rw[hWs] at this;exact this) ah
   (fun x args X h=>by obtain⟨_,_,_,_,_,rfl,_⟩:=h;rfl)
   (fun pre X=>Below w.heap.size w X∧Bx X w.heap.size #[d j 0 0]∧Bx X (w.heap.size+1) #[d j 0 0]∧Bx X (w.heap.size+2) #[p r 0]∧Bx X (w.heap.size+3) #[p r 0]∧
    (∃a c aS pa pc,nD (w.heap.size+4) (w.heap.size+9) X (d a aS.length c) (d pa pre.length pc) (d a aS.length c) aS (pre.map vK.ln) (d pa pre.length pc) (pre.map vK.fr))∧∀y∈pre,y.er=0)
   (fun c pre X=>c= .ret∧Below w.heap.size w X∧Bx X w.heap.size #[d j 0 0]∧Bx X (w.heap.size+1) #[d j 0 0]∧∃pre' x,pre=pre'++[x]∧x.er≠0∧Bx X (w.heap.size+2) #[p r x.to]∧Bx X (w.heap.size+3) #[p r x.er])
   (fun pre X Y h k=>by
    obtain⟨h1,h2,h3,h4,h5,⟨a,c,aS,pa,pc,h6⟩,h7⟩:=h;exact⟨k.below h1 (fun i hi=> .inl ah) h1.size,k.bx h2 (.inl ah),k.bx h3 (.inl ah),k.bx h4 (.inl ah),k.bx h5 (.inl ah),⟨a,c,aS,pa,pc,h6.same k (.inl ah) (.inl ah) (fun i hi=> .inr ah)⟩,h7⟩)
   (fun c pre X Y h k=>by
    obtain⟨h0,h1,h2,h3,pre',x,h4,h5,h6,h7⟩:=h;exact⟨h0,k.below h1 (fun i hi=> .inl ah) h1.size,k.bx h2 (.inl ah),k.bx h3 (.inl ah),pre',x,h4,h5,k.bx h6 (.inl ah),k.bx h7 (.inl ah)⟩)
   (fun pre X h=>HG.q.below h.1) (fun c pre X h=>HG.q.below h.2.1)
   (fun x args X Y h k=>by obtain⟨b4,b6,h1,h2,h3⟩:=h;exact⟨b4,b6,h1,h2,k.bx h3 (.inr ah)⟩)
   ⟨A8,pu,hV1,hV2,GY,⟨j,0,[],j,0,hI0⟩,fun y hy=>(by cases hy)⟩ ?round ?done ?stop)
  case done=>
   rintro X ⟨h1,h2,h3,h4,h5,⟨a,c,aS,pa,pc,h6⟩,h7⟩ hdef;rw[wF] at hdef;have hok:kF s= .ok ((gU s (s.length+1) 0).map (fun x=>(x.ln,x.fr))):=by
    rw[HF.q];rcases qH s (s.length+1) 0 ah with⟨_,q1⟩|⟨q,y,q1,q2,q3,q4⟩
    ·exact q1
    ·exact absurd (h7 y (by rw[q1];simp)) q3
   obtain⟨xs,hxs⟩:∃xs,xs=gU s (s.length+1) 0:=⟨_,rfl⟩;rw[←hxs] at h6 hok;obtain⟨m,hm⟩:∃m,m=xs.length:=⟨_,rfl⟩;rw[←hm] at h6;have CX:=z hok;have HM:=z hm;have DC:=z hdef;have rT:=z (⟨h2,h3,h4,h5⟩:_∧_∧_∧_);have wV:=z h6;have Z7:=z h1;clear hok hm hdef h2 h3 h4 h5 h6 h1 h7 hxs pu hV1 hV2 GY Si GV Sj hI0;simp only[Exit.inBlock,Exit.then];go_wp2_with fail;refine aK 99 [(0,1),(1,1),(2,1),(3,1),(4,2),(5,2),(6,2),(7,2)] (fun W'=>W'.cell? ⟨w.heap.size+4,0,j⟩=B (d a aS.length c)∧W'.cell? ⟨w.heap.size+5,0,j⟩=B (d pa m pc)) (fun _=>True) au au (⟨wV.q.x4.1 0,wV.q.x5.1 0⟩) (trivial) ?_;refine qC ?_;refine aF rfl rfl (fun K hK=>?_);go_simp;have eZ:=rT.q.1;have hx1:=eZ.1;have hx2:=eZ.2.1;have hx3:=eZ.2.2;go_simp;refine hK _ _ ⟨⟨bC (wV.q.x4.1 0) ah,bC (wV.q.x5.1 0) ah⟩,H⟩ ?_;clear hK K eZ hx1 hx2 hx3;refine aF rfl rfl (fun K hK=>?_);go_simp;have eZ:=rT.q.2.1;have hx1:=eZ.1;have hx2:=eZ.2.1;have hx3:=eZ.2.2;go_simp;refine hK _ _ ⟨⟨bC (bC (wV.q.x4.1 0) ah) ah,bC (bC (wV.q.x5.1 0) ah) ah⟩,H⟩ ?_;clear hK K eZ hx1 hx2 hx3;refine aF rfl rfl (fun K hK=>?_);go_simp;have eZ:=rT.q.2.2.1;have hx1:=eZ.1;have hx2:=eZ.2.1;have hx3:=eZ.2.2;go_simp;refine hK _ _ ⟨⟨bC (bC (bC (wV.q.x4.1 0) ah) ah) ah,bC (bC (bC (wV.q.x5.1 0) ah) ah) ah⟩,H⟩ ?_;clear hK K eZ hx1 hx2 hx3;refine aF rfl rfl (fun K hK=>?_);go_simp;have eZ:=rT.q.2.2.2;have hx1:=eZ.1;have hx2:=eZ.2.1;have hx3:=eZ.2.2;go_simp;refine hK _ _ ⟨⟨bC (bC (bC (bC (wV.q.x4.1 0) ah) ah) ah) ah,bC (bC (bC (bC (wV.q.x5.1 0) ah) ah) ah) ah⟩,H⟩ ?_;clear hK K eZ hx1 hx2 hx3;refine bB ?_;go_wp2_with fail;have hz1:Same (fun i=>i<w.heap.size∨w.heap.size+4≤i) X ((((X.setCell ⟨w.heap.size,0,j⟩ (d a aS.length c)).setCell ⟨w.heap.size+1,0,j⟩ (d pa m pc)).setCell ⟨w.heap.size+2,0,j⟩ (p r (s.length:Int))).setCell ⟨w.heap.size+3,0,j⟩ (p r 0)).drew:=(((((S X).setTail (A:=fun i=>i<w.heap.size∨w.heap.size+4≤i) (fun h=>by omega)).setTail (fun h=>by omega)).setTail (fun h=>by omega)).setTail (fun h=>by omega)).mP;have n0:∀{Q:World} {b o:Nat} {u:Value} {cs:Array Value} {g:Nat},Bx Q g cs→g≠b→Bx (Q.setCell ⟨b,o,j⟩ u) g cs:=fun hq hne=>Same.bx (A:=fun i=>i≠_) ((S _).setTail (fun h=>h rfl)) hq hne
   have k0:Bx ((((X.setCell ⟨w.heap.size,0,j⟩ (d a aS.length c)).setCell ⟨w.heap.size+1,0,j⟩ (d pa m pc)).setCell ⟨w.heap.size+2,0,j⟩ (p r (s.length:Int))).setCell ⟨w.heap.size+3,0,j⟩ (p r 0)).drew w.heap.size _:=(n0 (n0 (n0 (rT.q.1.set1 _) ah) ah) ah).drew;have k1:Bx ((((X.setCell ⟨w.heap.size,0,j⟩ (d a aS.length c)).setCell ⟨w.heap.size+1,0,j⟩ (d pa m pc)).setCell ⟨w.heap.size+2,0,j⟩ (p r (s.length:Int))).setCell ⟨w.heap.size+3,0,j⟩ (p r 0)).drew (w.heap.size+1) _:=(n0 (n0 ((n0 rT.q.2.1 ah).set1 _) ah) ah).drew;have k2:Bx ((((X.setCell ⟨w.heap.size,0,j⟩ (d a aS.length c)).setCell ⟨w.heap.size+1,0,j⟩ (d pa m pc)).setCell ⟨w.heap.size+2,0,j⟩ (p r (s.length:Int))).setCell ⟨w.heap.size+3,0,j⟩ (p r 0)).drew (w.heap.size+2) _:=(n0 ((n0 (n0 rT.q.2.2.1 ah) ah).set1 _) ah).drew;have k3:Bx ((((X.setCell ⟨w.heap.size,0,j⟩ (d a aS.length c)).setCell ⟨w.heap.size+1,0,j⟩ (d pa m pc)).setCell ⟨w.heap.size+2,0,j⟩ (p r (s.length:Int))).setCell ⟨w.heap.size+3,0,j⟩ (p r 0)).drew (w.heap.size+3) _:=((n0 (n0 (n0 rT.q.2.2.2 ah) ah) ah).set1 _).drew;revert hz1 k0 k1 k2 k3;generalize((((X.setCell ⟨w.heap.size,0,j⟩ (d a aS.length c)).setCell ⟨w.heap.size+1,0,j⟩ (d pa m pc)).setCell ⟨w.heap.size+2,0,j⟩ (p r (s.length:Int))).setCell ⟨w.heap.size+3,0,j⟩ (p r 0)).drew=Z;intro hz1 k0 k1 k2 k3;have hdf:Z.heap[(w.heap.size+7)]?=B (.deferred (B [])):=(hz1.block _ ah (Array.getElem?_eq_some_iff.1 DC.q).1).trans DC.q;have hp0:=(k0.putObj (l:=(w.heap.size+7)) (.deferred j) ah).1 0;have hp1:=(k1.putObj (l:=(w.heap.size+7)) (.deferred j) ah).1 0;have hp2:=(k2.putObj (l:=(w.heap.size+7)) (.deferred j) ah).1 0;have hp3:=(k3.putObj (l:=(w.heap.size+7)) (.deferred j) ah).1 0;have hzz:Same (fun i=>i<w.heap.size∨w.heap.size+9≤i) X (Z.putObj (w.heap.size+7) (.deferred j)):=(hz1.mono (fun i hi _=>by omega)).tr (Same.putObj (A:=fun i=>i<w.heap.size∨w.heap.size+9≤i) Z _ ah);refine⟨by simp,.inl ⟨_,_,rfl,run_takeDeferred hdf,?_⟩⟩;refine⟨.tuple #[d a aS.length c,d pa m pc,p r (s.length:Int),p r 0],by simp[results,results12,go_sem,hp0,hp1,hp2,hp3],hzz.below Z7.q (fun i hi=> .inl hi) Z7.q.size,?_⟩;rw[CX.q];refine⟨a,c,aS,pa,pc,by rw[N,←HM.q],?_,?_,?_⟩
   ·exact(wV.q.oL.same hzz (fun g hg=> .inr (wV.q.oL.lt g hg).1)).mono ah
   ·rw[List.map_map]
    have:=wV.q.aL.same hzz (fun i hi=> .inr hi);exact⟨this.1,fun i l h=>let⟨s,h1,h2⟩:=this.2 i l h;⟨s,h1,h2.mono ah⟩⟩
   ·rw[List.map_map,N,←HM.q]
    exact(wV.q.oP.same hzz (fun g hg=> .inr (wV.q.oP.lt g hg).1)).mono ah
  case stop=>
   rintro cc pre X hpre ⟨rfl,hb,h2,h3,pre',x,rfl,h5,h6,h7⟩ hdef;have ait:kF s= .error (x.to,x.er):=by
    rw[HF.q];rcases qH s (s.length+1) 0 ah with⟨q1,_⟩|⟨q,y,q1,q2,q3,q4⟩
    ·exact absurd (q1 x (hpre.subset ak)) h5
    ·rw[q1] at hpre
     obtain⟨t,ht⟩:=hpre
     cases t with
     |nil=>
      rw[List.append_nil] at ht;have:=(List.append_inj' ht rfl).2;injection this with this;rw[this];exact q4
     |cons t1 t2=>
      have:x∈q:=by
       have e:(pre'++[x])++(t1::t2).dropLast++[(t1::t2).getLast ak]=q++[y]:=by
        rw[List.append_assoc,List.dropLast_concat_getLast];exact ht
       have:=(List.append_inj' e rfl).1;rw[←this];simp
      exact absurd (q2 x this) h5
   refine wpIn_wide.2 ?_;go_wp2_with fail;have hp2:=(h2.putObj (l:=V.heap.size) (.deferred j) ah).1 0;have hp3:=(h3.putObj (l:=V.heap.size) (.deferred j) ah).1 0;have hp6:=(h6.putObj (l:=V.heap.size) (.deferred j) ah).1 0;have hp7:=(h7.putObj (l:=V.heap.size) (.deferred j) ah).1 0;refine⟨by simp,.inl ⟨_,_,rfl,run_takeDeferred hdef,?_⟩⟩;refine⟨.tuple #[d j 0 0,d j 0 0,p r x.to,p r x.er],by simp[results,results12,go_sem,hp2,hp3,hp6,hp7],(Same.putObj (A:=fun i=>i<w.heap.size) X _ ah).below hb (fun i hi=>hi) hb.size,?_⟩;rw[ait]
  case round=>
   rintro pre x args X ⟨hb,h0,h1,h2,h3,⟨a,c,aS,pa,pc,hk⟩,hall⟩ hpre ⟨b4,b6,cl,hb4,VR,rfl,hx4,hx6,hlx,hty⟩ hsz m
   gi_wp2
   refine⟨av (M _ _) _,fun X2 hk2=>?_⟩;have Au:Same (fun i=>i≠V.heap.size+1) X X2:=(I (av (M X.heap.size X) (f #[p r x.fr,p r x.to] 70)) (fun i _ hl=>hl)).tr hk2;have ht8:Bx X2 X.heap.size #[p r x.fr,p r x.to]:=hk2.bx (Bx.new X _ _) ah;have adh:X.heap.size<X2.heap.size:=ht8.2.2;have HB2:=z (Au.below hb (fun i hi=>by omega) hb.size);have HR2:=z (⟨Au.bx h0 ah,Au.bx h1 ah,Au.bx h2 ah,Au.bx h3 ah⟩:_∧_∧_∧_);have Em:=z (hk.same Au ah ah (fun i hi=>by omega));have aiu:=z ((hlx.same Au (fun i hi=>by omega)).mono (B':=w.heap.size+9) ah);have alp:Hid (∃cs fz,X2.heap[b6]?=B (f cs 27 fz)):=z (let⟨cs,fz,e⟩:=hty;⟨cs,fz,(Au.block b6 ah hx6.2.2).trans e⟩);have HC:=z (YV b4 b6 cl x.er X2 (Au.bx hx4 ah) (Au.bx hx6 ah));have Yk:=z (Au.bx hx6 ah);have adi:=z ht8;have fM:Hid (w.heap.size+9≤b6∧w.heap.size+9≤X.heap.size∧b6<X.heap.size∧X.heap.size<X2.heap.size):=z ⟨by omega,by omega,hx6.2.2,adh⟩;have HOL:Hid (∀g,(G a aS.length c).ownBlock=B g→g<X.heap.size):=z (fun g hg=>(hk.oL.lt g hg).2);have HOP:Hid (∀g,(G pa pre.length pc).ownBlock=B g→g<X.heap.size):=z (fun g hg=>(hk.oP.lt g hg).2);have jf:Hid ((∀g,(G a aS.length c).ownBlock=B g→g≠b6)∧∀g,(G pa pre.length pc).ownBlock=B g→g≠b6):=z (by
    obtain⟨cs,fz,e⟩:=hty;refine⟨fun g hg q=>?_,fun g hg q=>?_⟩
    ·obtain⟨_,_,e2⟩:=hk.oL.tag hg
     rw[q,e] at e2;cases e2
    ·obtain⟨_,_,e2⟩:=hk.oP.tag hg
     rw[q,e] at e2;cases e2)
   have Aq:=z wF;have FC:=z hall;have yE:=z hpre;have HLP:Hid (pre.length≤131073):=z (by have h1:=hpre.length_le;have h2:=yI s (s.length+1) 0;rw[O,J] at h1;omega);have HLC:Hid (aS.length≤131073):=z (by rw[hk.aL.1,N];exact HLP.q);clear Au ht8 adh hb h0 h1 h2 h3 hk hlx hty hx4 hx6 hk2 hall hpre hI0 pu hV1 hV2 GY Si GV Sj A8 hb4 VR
   gi_wp2
   refine⟨H,fun h=>(by cases h),?_⟩;refine(CallsIn.inRound _ (callsIn_wide.2 HC.q)).mono ?_;rintro e W3 ⟨rfl,hb3⟩;have hbz:Below X2.heap.size X2 (W3.alloc (f #[p r cl.kind,d cl.na cl.nn cl.nc,p r cl.lvl,d cl.va cl.vn cl.vc,.bool cl.first,p r cl.bits] 34)):=hb3.alloc hb3.size _;have ji:=z hbz;have EW:=z (Bx.new W3 #[p r cl.kind,d cl.na cl.nn cl.nc,p r cl.lvl,d cl.va cl.vn cl.vc,.bool cl.first,p r cl.bits] 34);have HW3:Hid (X2.heap.size≤W3.heap.size):=z hb3.size;clear hbz hb3 HC;by_cases h0:x.er=0
   ·have hq1:(x.er==0)=C:=beq_iff_eq.2 h0
    have hq2:(x.er !=0)=U:=by simp[h0]
    have H0:=z h0;clear h0
    gi_wp2
    revert ji EW;generalize W3.alloc (f #[p r cl.kind,d cl.na cl.nn cl.nc,p r cl.lvl,d cl.va cl.vn cl.vc,.bool cl.first,p r cl.bits] 34)=Z0;intro ji EW;obtain⟨Y0,hY0⟩:∃Y,Z0.drew=Y:=⟨_,rfl⟩;have hby:Below X2.heap.size X2 Y0:=by rw[←hY0];exact ji.q.drew
    have rU:=z hby;have adk:Hid (Bx Y0 W3.heap.size #[p r cl.kind,d cl.na cl.nn cl.nc,p r cl.lvl,d cl.va cl.vn cl.vc,.bool cl.first,p r cl.bits]):=z (by rw[←hY0];exact EW.q.drew);have HT8:=z (adi.q.keep hby);have Ns:=z (Em.q.below hby);have U1:=z (aiu.q.below hby);have HA0:Hid (Same (fun i=>i<w.heap.size+4∨(w.heap.size+6≤i∧i<w.heap.size+9)∨i=b6∨i=X.heap.size∨i=W3.heap.size) Y0 Y0):=z (S _);have oN:Hid (w.heap.size+9≤Y0.heap.size):=z (by have:=hby.size;have:=fM.q;omega);have o9:Hid (∀g,(G a aS.length c).ownBlock=B g→¬(g<w.heap.size+4∨(w.heap.size+6≤g∧g<w.heap.size+9)∨g=b6∨g=X.heap.size∨g=W3.heap.size)):=z (fun g hg=>by have h1:=HOL.q g hg;have h2:=jf.q.1 g hg;have h3:=(Ns.q.oL.lt g hg).1;have h4:=fM.q;have h5:=HW3.q;omega);have HNP:Hid (∀g,(G pa pre.length pc).ownBlock=B g→¬(g<w.heap.size+4∨(w.heap.size+6≤g∧g<w.heap.size+9)∨g=b6∨g=X.heap.size∨g=W3.heap.size)):=z (fun g hg=>by have h1:=HOP.q g hg;have h2:=jf.q.2 g hg;have h3:=(Ns.q.oP.lt g hg).1;have h4:=fM.q;have h5:=HW3.q;omega);obtain⟨iL,zL,hIL⟩:=MG;obtain⟨iI,zI,hII⟩:=zF;have BG:=z hIL;have EK:=z hII;have TQ:Hid (∀(Y:World) (a2:Option Addr) (c2:Nat) (p2:Option Addr) (q2:Nat),Same (fun i=>i<w.heap.size+4∨(w.heap.size+6≤i∧i<w.heap.size+9)∨i=b6∨i=X.heap.size∨i=W3.heap.size) Y0 Y→
      nD (w.heap.size+4) (w.heap.size+9) Y (d a2 (aS.length+1) c2) (d p2 (pre.length+1) q2) (d a2 (aS.length+1) c2) (aS++[cl]) (pre.map vK.ln++[x.ln]) (d p2 (pre.length+1) q2) (pre.map vK.fr++[x.fr])→
      (Y.heap[V.heap.size]?=X2.heap[V.heap.size]?∧Y.heap[V.heap.size+1]?=X2.heap[V.heap.size+1]?)∧aP (fun i=>i<w.heap.size∨i=w.heap.size+6) X2 Y∧
      (Below w.heap.size w Y∧Bx Y w.heap.size #[d j 0 0]∧Bx Y (w.heap.size+1) #[d j 0 0]∧Bx Y (w.heap.size+2) #[p r 0]∧Bx Y (w.heap.size+3) #[p r 0]∧
       (∃a c aS pa pc,nD (w.heap.size+4) (w.heap.size+9) Y (d a aS.length c) (d pa (pre++[x]).length pc) (d a aS.length c) aS ((pre++[x]).map vK.ln) (d pa (pre++[x]).length pc) ((pre++[x]).map vK.fr))∧∀y∈pre++[x],y.er=0)∧
      UN (V.heap.size+2) x #[.agg #[p r x.fr,p r x.to],.func (.func 79) #[] #[.pointer (B ⟨b4,0,j⟩),.pointer (B ⟨b6,0,j⟩)]] Y):=z (fun Y a2 c2 p2 q2 hs hk=>by
     have hv:=Aq.q;have hbx:=fM.q;have hs2:Same (fun i=>i<w.heap.size+4∨(w.heap.size+6≤i∧i<w.heap.size+9)∨i=b6) X2 Y:=(I rU.q (fun i _ hl=>hl)).tr (hs.mono (fun i hi _=>by omega));refine⟨⟨hs2.block _ ah ah,hs2.block _ ah ah⟩,⟨hs2.size,fun i hi hl=>hs2.block i ah hl⟩,⟨hs2.below HB2.q (fun i hi=>by omega) HB2.q.size,hs2.bx HR2.q.1 ah,hs2.bx HR2.q.2.1 ah,hs2.bx HR2.q.2.2.1 ah,hs2.bx HR2.q.2.2.2 ah,⟨a2,c2,aS++[cl],p2,q2,?_⟩,fun y hy=>?_⟩,⟨b4,b6,by omega,rfl,hs2.bx Yk.q ah⟩⟩
     ·rw[O,O,J,J,List.map_append,List.map_append];exact hk
     ·rcases List.mem_append.1 hy with h|h
      ·exact FC.q y h
      ·rw[List.mem_singleton.1 h];exact H0.q)
    clear hby hIL hII hz;refine D7 [1,5,6] (fun W'=>W'.cell? ⟨X.heap.size,0,j⟩=B (p r x.fr)∧Bx W' W3.heap.size #[p r cl.kind,d cl.na cl.nn cl.nc,p r cl.lvl,d cl.va cl.vn cl.vc,.bool cl.first,p r cl.bits]) au au au (by rw[hY0];exact⟨HA0.q.cell (HT8.q.1 0) (.inr (.inr (.inr (.inl rfl)))),HA0.q.bx adk.q (.inr (.inr (.inr (.inr rfl))))⟩) ?_;rw[hY0];refine qV ?_;refine Sk (F:=fun A L a' Y=>∃(x29 x31 x32 CY CZ Av u4 u5 uL uP:Value) (lc:List aV) (lx:List aB) (ps:List Int) (g1 g2:Nat),a'=qR A [(29,x29),(31,x31),(32,x32),(33,CY),(36,CZ),(37,Av)]∧
      ((L 1=C∧L 5=C∧L 6=C)∧(L 9=C→L 8=C)∧(L 10=C→L 9=C)∧(L 8=C→L 3=C∧L 4=C∧L 7=C)∧(L 3=C→L 0=C∧L 2=C))∧
      (L 0=C→x29= d a aS.length c)∧(L 4=C→CY= d pa pre.length pc)∧
      (L 2=C→x31= d (B ⟨g1,0,j⟩) 1 1∧(L 3=U→Row Y 6 mU (B ⟨g1,0,j⟩) 1 1 [cl]))∧
      (L 7=C→CZ= d (B ⟨g2,0,j⟩) 1 1∧(∀g,(G a aS.length c).ownBlock=B g→g≠g2)∧(L 8=U→Row Y 1 aQ (B ⟨g2,0,j⟩) 1 1 [x.fr]))∧
      (L 3=U→fq Y (w.heap.size+9) cl x.ln∧uL= d a aS.length c∧lc=aS∧lx=pre.map vK.ln)∧(L 3=C→(∃a2 c2,x32= d a2 (aS.length+1) c2)∧uL=x32∧lc=aS++[cl]∧lx=pre.map vK.ln++[x.ln])∧
      (L 8=U→uP= d pa pre.length pc∧ps=pre.map vK.fr)∧(L 8=C→(∃p2 q2,Av= d p2 (pre.length+1) q2)∧uP=Av∧ps=pre.map vK.fr++[x.fr])∧
      (L 9=U→u4= d a aS.length c)∧(L 9=C→u4=x32)∧(L 10=U→u5= d pa pre.length pc)∧(L 10=C→u5=Av)∧
      nD (w.heap.size+4) (w.heap.size+9) Y u4 u5 uL lc lx uP ps∧Same (fun i=>i<w.heap.size+4∨(w.heap.size+6≤i∧i<w.heap.size+9)∨i=b6∨i=X.heap.size∨i=W3.heap.size) Y0 Y) ?_ ?_ ?_ ?_
    ·rintro L a' Y ⟨_,_,_,_,_,_,_,_,_,_,_,_,_,_,_,_,_,_,_,_,_,_,_,_,_,_,_,_,_,_,hs⟩
     exact⟨hs.cell (HT8.q.1 0) (.inr (.inr (.inr (.inl rfl)))),hs.bx adk.q (.inr (.inr (.inr (.inr rfl))))⟩
    ·exact⟨_,_,_,_,_,_,_,_,_,_,_,_,_,0,0,rfl,⟨⟨rfl,rfl,rfl⟩,(fun h=>by cases h),(fun h=>by cases h),(fun h=>by cases h),(fun h=>by cases h)⟩,(fun h=>by cases h),(fun h=>by cases h),(fun h=>by cases h),(fun h=>by cases h),(fun _=>⟨U1.q,rfl,rfl,rfl⟩),(fun h=>by cases h),(fun _=>⟨rfl,rfl⟩),(fun h=>by cases h),(fun _=>rfl),(fun h=>by cases h),(fun _=>rfl),(fun h=>by cases h),Ns.q,HA0.q⟩
    ·rintro L a' Y hL ⟨x29,x31,x32,CY,CZ,Av,u4,u5,uL,uP,lc,lx,ps,g1,g2,rfl,_,f0,f4,f2,f7,_,f3,_,f8,_,f9,_,f10,hk,hs⟩
     obtain⟨⟨a2,c2,rfl⟩,rfl,rfl,rfl⟩:=f3 (hL 3);obtain⟨⟨p2,q2,rfl⟩,rfl,rfl⟩:=f8 (hL 8);obtain rfl:=f9 (hL 9);obtain rfl:=f10 (hL 10);obtain rfl:=f0 (hL 0);obtain rfl:=f4 (hL 4);obtain⟨rfl,_⟩:=f2 (hL 2);obtain⟨rfl,_⟩:=f7 (hL 7);have HF:=z (⟨hk,hs⟩:_∧_);clear f0 f4 f2 f7 f3 f8 f9 f10 hk hs hL;refine ZB ?_;simp only[qR,Act.put,P,List.set_cons_zero,List.set_cons_succ]
     gi_wp2
     exact TQ.q _ _ _ _ _ HF.q.2 HF.q.1
    ·rintro i L a' Y hi hL hd ⟨x29,x31,x32,CY,CZ,Av,u4,u5,uL,uP,lc,lx,ps,g1,g2,rfl,hF⟩
     have HF:=z hF;have HL:=z hL;have HD:=z hd;clear hF hL hd;rcases(by have:i<11:=hi;omega:i=0∨i=1∨i=2∨i=3∨i=4∨i=5∨i=6∨i=7∨i=8∨i=9∨i=10) with rfl|rfl|rfl|rfl|rfl|rfl|rfl|rfl|rfl|rfl|rfl
     case' inr.inl=>cases HL.q.symm.trans HF.q.1.1.1
     case' inr.inr.inr.inr.inr.inl=>cases HL.q.symm.trans HF.q.1.1.2.1
     case' inr.inr.inr.inr.inr.inr.inl=>cases HL.q.symm.trans HF.q.1.1.2.2
     all_goals
      obtain⟨⟨f1,f98,BH,f83,f30⟩,f0,f4,f2,f7,f3,f3',f8,C8,f9,EX,f10,zZ,hk,hs⟩:=HF.q;have HFF:=z (⟨f1,f98,BH,f83,f30,f0,f4,f2,f7,f3,f3',f8,C8,f9,EX,f10,zZ,hk,hs⟩:_∧_∧_∧_∧_∧_∧_∧_∧_∧_∧_∧_∧_∧_∧_∧_∧_∧_∧_);clear f1 f98 BH f83 f30 f0 f4 f2 f7 f3 f3' f8 C8 f9 EX f10 zZ hk hs;refine uz rfl rfl (fun K hK=>?_);simp only[qR,Act.put,P,List.set_cons_zero,List.set_cons_succ];obtain⟨f1,f98,BH,f83,f30,f0,f4,f2,f7,f3,f3',f8,C8,f9,EX,f10,zZ,hk,hs⟩:=HFF.q
     ·have h9:L 9=U:=Bool.eq_false_iff.2 (fun q=>by cases HL.q.symm.trans (f30 (f83 (f98 q)).1).1)
      have hx:=hk.x4;rw[f9 h9] at hx;have hc:=hx.1 0;go_simp;exact hK _ _ ⟨d a aS.length c,x31,x32,CY,CZ,Av,u4,u5,uL,uP,lc,lx,ps,g1,g2,rfl,⟨f1,f98,BH,f83,fun q=>⟨rfl,(f30 q).2⟩⟩,fun _=>rfl,f4,f2,f7,f3,f3',f8,C8,f9,EX,f10,zZ,hk,hs⟩
     ·have hba:=av (M Y.heap.size Y) (f #[p r cl.kind,d cl.na cl.nn cl.nc,p r cl.lvl,d cl.va cl.vn cl.vc,.bool cl.first,p r cl.bits] 34)
      go_simp;exact hK _ _ ⟨x29,d (B ⟨Y.heap.size,0,j⟩) 1 1,x32,CY,CZ,Av,u4,u5,uL,uP,lc,lx,ps,Y.heap.size,g2,rfl,⟨f1,f98,BH,f83,fun q=>⟨(f30 q).1,rfl⟩⟩,f0,f4,fun _=>⟨rfl,fun _=>Row.ln1 Y cl⟩,(fun q=>⟨(f7 q).1,(f7 q).2.1,fun q2=>((f7 q).2.2 q2).below hba rfl⟩),(fun q=>⟨(f3 q).1.below hba,(f3 q).2⟩),f3',f8,C8,f9,EX,f10,zZ,hk.below hba,hs.tr (I hba (fun i _ hl=>hl))⟩
     ·obtain⟨hln,rfl,e2,rfl⟩:=f3 HL.q
      obtain rfl:=e2.symm;obtain rfl:=f0 (HD.q 0 au);obtain⟨rfl,hrow⟩:=f2 (HD.q 2 au);refine nk _ _ 25 rfl iL zL 80 underlying25 BG.q.1 BG.q.2.1 BG.q.2.2.1 BG.q.2.2.2.1 BG.q.2.2.2.2 rfl hk.oL (B ⟨g1,0,j⟩) 1 1 (aS.length+1) [cl] rfl (hrow HL.q) rfl (by have:=HLC.q;omega) (by have:=HLC.q;unfold maxLen;omega) (Nat.le_trans oN.q hs.size) ?_;intro a2 c2 Y2 ho hg hat;exact hK _ _ ⟨_,_,d a2 (aS.length+1) c2,CY,CZ,Av,u4,u5,d a2 (aS.length+1) c2,uP,aS++[cl],pre.map vK.ln++[x.ln],ps,g1,g2,rfl,⟨f1,f98,BH,fun q=>⟨rfl,(f83 q).2⟩,fun _=>⟨HD.q 0 au,HD.q 2 au⟩⟩,fun _=>rfl,f4,fun _=>⟨rfl,fun q=>by cases q⟩,
       (fun q=>⟨(f7 q).1,(f7 q).2.1,fun q2=>(vX (A:=fun i=>i=g2) hg (fun g e=>(f7 q).2.1 g e)).row ((f7 q).2.2 q2) (fun b o e=>by injection e with e;injection e with e;exact e.symm)⟩),(fun q=>by cases q),fun _=>⟨⟨a2,c2,rfl⟩,rfl,rfl,rfl⟩,f8,C8,f9,(fun q=>by cases HL.q.symm.trans (f83 (f98 q)).1),f10,zZ,hk.afy hln ho hg ah,hs.tr (vX hg o9.q)⟩
     ·have h10:L 10=U:=Bool.eq_false_iff.2 (fun q=>by cases HL.q.symm.trans (f83 (f98 (BH q))).2.1)
      have hx:=hk.x5;rw[f10 h10] at hx;have hc:=hx.1 0;go_simp;exact hK _ _ ⟨x29,x31,x32,d pa pre.length pc,CZ,Av,u4,u5,uL,uP,lc,lx,ps,g1,g2,rfl,⟨f1,f98,BH,fun q=>⟨(f83 q).1,rfl,(f83 q).2.2⟩,f30⟩,f0,fun _=>rfl,f2,f7,f3,f3',f8,C8,f9,EX,f10,zZ,hk,hs⟩
     ·have hba:=av (M Y.heap.size Y) (f #[p r x.fr] 3)
      go_simp;exact hK _ _ ⟨x29,x31,x32,CY,d (B ⟨Y.heap.size,0,j⟩) 1 1,Av,u4,u5,uL,uP,lc,lx,ps,g1,Y.heap.size,rfl,⟨f1,f98,BH,fun q=>⟨(f83 q).1,(f83 q).2.1,rfl⟩,f30⟩,f0,f4,(fun q=>⟨(f2 q).1,fun q2=>((f2 q).2 q2).below hba rfl⟩),fun _=>⟨rfl,(fun g hg=>by have:=(Ns.q.oL.lt g hg).2;have:=hs.size;omega),fun _=>Row.i1 Y _⟩,(fun q=>⟨(f3 q).1.below hba,(f3 q).2⟩),f3',f8,C8,f9,EX,f10,zZ,hk.below hba,hs.tr (I hba (fun i _ hl=>hl))⟩
     ·obtain⟨rfl,rfl⟩:=f8 HL.q
      have h3:=HD.q 3 au;obtain rfl:=f4 (HD.q 4 au);obtain⟨rfl,hg2,hrow⟩:=f7 (HD.q 7 au);refine nk _ _ 26 rfl iI zI 8 underlying26 EK.q.1 EK.q.2.1 EK.q.2.2.1 EK.q.2.2.2.1 EK.q.2.2.2.2 rfl hk.oP (B ⟨g2,0,j⟩) 1 1 (pre.length+1) [x.fr] rfl (hrow HL.q) (by rw[N]) (by have:=HLP.q;omega) (by have:=HLP.q;unfold maxLen;omega) (Nat.le_trans oN.q hs.size) ?_;intro p2 q2 Y2 ho hg hat;exact hK _ _ ⟨x29,x31,x32,_,_,d p2 (pre.length+1) q2,u4,u5,uL,d p2 (pre.length+1) q2,lc,lx,_,g1,g2,rfl,⟨f1,fun _=>rfl,BH,fun _=>⟨h3,HD.q 4 au,HD.q 7 au⟩,f30⟩,f0,fun _=>rfl,(fun q=>⟨(f2 q).1,fun q3=>by cases q3.symm.trans h3⟩),fun _=>⟨rfl,hg2,fun q=>by cases q⟩,
       (fun q=>by cases q.symm.trans h3),f3',(fun q=>by cases q),fun _=>⟨⟨p2,q2,rfl⟩,rfl,rfl⟩,f9,EX,f10,(fun q=>by cases HL.q.symm.trans (f98 (BH q))),hk.afz ho hg ah,hs.tr (vX hg HNP.q)⟩
     ·obtain rfl:=f9 HL.q
      obtain⟨⟨a2,c2,rfl⟩,e1,e2,e3⟩:=f3' (HD.q 3 au);have eZ:=hk.x4;have hx1:=eZ.1;have hx2:=eZ.2.1;have hx3:=eZ.2.2;go_simp;exact hK _ _ ⟨x29,x31,_,CY,CZ,Av,d a2 (aS.length+1) c2,u5,uL,uP,lc,lx,ps,g1,g2,rfl,⟨f1,fun _=>HD.q 8 au,fun _=>rfl,f83,f30⟩,f0,f4,(fun q=>⟨(f2 q).1,fun q3=>by cases q3.symm.trans (HD.q 3 au)⟩),(fun q=>⟨(f7 q).1,(f7 q).2.1,fun q8=>by cases q8.symm.trans (HD.q 8 au)⟩),(fun q=>by cases q.symm.trans (HD.q 3 au)),fun _=>⟨⟨a2,c2,rfl⟩,e1,e2,e3⟩,(fun q=>by cases q.symm.trans (HD.q 8 au)),C8,
       (fun q=>by cases q),fun _=>rfl,f10,zZ,hk.aiv _ ah,hs.setTail (by show ¬(_∨_∨_∨_∨_);have:=fM.q;have:=HW3.q;omega)⟩
     ·obtain rfl:=f10 HL.q
      obtain⟨⟨p2,q2,rfl⟩,e1,e2⟩:=C8 (HD.q 8 au);have eZ:=hk.x5;have hx1:=eZ.1;have hx2:=eZ.2.1;have hx3:=eZ.2.2;go_simp;exact hK _ _ ⟨x29,x31,x32,CY,CZ,_,u4,d p2 (pre.length+1) q2,uL,uP,lc,lx,ps,g1,g2,rfl,⟨f1,f98,fun _=>HD.q 9 au,f83,f30⟩,f0,f4,(fun q=>⟨(f2 q).1,fun q3=>by cases q3.symm.trans (HD.q 3 au)⟩),(fun q=>⟨(f7 q).1,(f7 q).2.1,fun q8=>by cases q8.symm.trans (HD.q 8 au)⟩),(fun q=>by cases q.symm.trans (HD.q 3 au)),f3',(fun q=>by cases q.symm.trans (HD.q 8 au)),fun _=>⟨⟨p2,q2,rfl⟩,e1,e2⟩,
       f9,EX,(fun q=>by cases q),fun _=>rfl,hk.aiw _ ah,hs.setTail (by show ¬(_∨_∨_∨_∨_);have:=fM.q;have:=HW3.q;omega)⟩
   ·have hq1:(x.er==0)=U:=beq_eq_false_iff_ne.2 h0
    have hq2:(x.er !=0)=C:=by simp[h0]
    have H0:=z h0;clear h0
    gi_wp2
    revert ji EW;generalize W3.alloc (f #[p r cl.kind,d cl.na cl.nn cl.nc,p r cl.lvl,d cl.va cl.vn cl.vc,.bool cl.first,p r cl.bits] 34)=Z0;intro ji EW;have fT:Hid (Bx Z0 w.heap.size #[d j 0 0]∧Bx Z0 (w.heap.size+1) #[d j 0 0]∧Bx Z0 (w.heap.size+2) #[p r 0]∧Bx Z0 (w.heap.size+3) #[p r 0]):=z ⟨HR2.q.1.keep ji.q,HR2.q.2.1.keep ji.q,HR2.q.2.2.1.keep ji.q,HR2.q.2.2.2.keep ji.q⟩;have KO:=z (adi.q.keep ji.q);have hbx:=fM.q;refine wQ 99 [(0,1),(1,1),(2,1),(3,2),(4,2),(5,2),(6,2)] (fun W'=>W'.cell? ⟨X.heap.size,1,j⟩=B (p r x.to)) (fun _=>True) au au au (KO.q.1 1) (trivial) ?_;refine qC ?_;refine aF rfl rfl (fun K hK=>?_);go_simp;have eZ:=fT.q.1;have hx1:=eZ.1;have hx2:=eZ.2.1;have hx3:=eZ.2.2;go_simp;refine hK _ _ ⟨bC (KO.q.1 1) ah,H⟩ ?_;clear hK K eZ hx1 hx2 hx3;refine aF rfl rfl (fun K hK=>?_);go_simp;have eZ:=fT.q.2.1;have hx1:=eZ.1;have hx2:=eZ.2.1;have hx3:=eZ.2.2;go_simp;refine hK _ _ ⟨bC (bC (KO.q.1 1) ah) ah,H⟩ ?_;clear hK K eZ hx1 hx2 hx3;refine aF rfl rfl (fun K hK=>?_);go_simp;have eZ:=fT.q.2.2.1;have hx1:=eZ.1;have hx2:=eZ.2.1;have hx3:=eZ.2.2;go_simp;refine hK _ _ ⟨bC (bC (bC (KO.q.1 1) ah) ah) ah,H⟩ ?_;clear hK K eZ hx1 hx2 hx3;refine aF rfl rfl (fun K hK=>?_);go_simp;have eZ:=fT.q.2.2.2;have hx1:=eZ.1;have hx2:=eZ.2.1;have hx3:=eZ.2.2;go_simp;refine hK _ _ ⟨bC (bC (bC (bC (KO.q.1 1) ah) ah) ah) ah,H⟩ ?_;clear hK K eZ hx1 hx2 hx3;refine bB ?_
    gi_wp2
    have hv:=Aq.q;have hz1:Same (fun i=>i<w.heap.size∨w.heap.size+4≤i) Z0 ((((Z0.setCell ⟨w.heap.size,0,j⟩ (d j 0 0)).setCell ⟨w.heap.size+1,0,j⟩ (d j 0 0)).setCell ⟨w.heap.size+2,0,j⟩ (p r x.to)).setCell ⟨w.heap.size+3,0,j⟩ (p r x.er)).drew:=(((((S Z0).setTail (A:=fun i=>i<w.heap.size∨w.heap.size+4≤i) (fun h=>by omega)).setTail (fun h=>by omega)).setTail (fun h=>by omega)).setTail (fun h=>by omega)).mP;have hz2:Same (fun i=>i<w.heap.size∨w.heap.size+4≤i) X2 ((((Z0.setCell ⟨w.heap.size,0,j⟩ (d j 0 0)).setCell ⟨w.heap.size+1,0,j⟩ (d j 0 0)).setCell ⟨w.heap.size+2,0,j⟩ (p r x.to)).setCell ⟨w.heap.size+3,0,j⟩ (p r x.er)).drew:=(I ji.q (fun i _ hl=>hl)).tr hz1;have n0:∀{Q:World} {b o:Nat} {u:Value} {cs:Array Value} {g:Nat},Bx Q g cs→g≠b→Bx (Q.setCell ⟨b,o,j⟩ u) g cs:=fun hq hne=>Same.bx (A:=fun i=>i≠_) ((S _).setTail (fun h=>h rfl)) hq hne
    refine⟨⟨hz2.block _ ah ah,hz2.block _ ah ah⟩,⟨hz2.size,fun i hi hl=>hz2.block i ah hl⟩,rfl,hz2.below HB2.q (fun i hi=>by omega) HB2.q.size,?_,?_,pre,x,rfl,H0.q,?_,?_⟩
    ·exact(n0 (n0 (n0 (fT.q.1.set1 _) ah) ah) ah).drew
    ·exact(n0 (n0 ((n0 fT.q.2.1 ah).set1 _) ah) ah).drew
    ·exact(n0 ((n0 (n0 fT.q.2.2.1 ah) ah).set1 _) ah).drew
    ·exact((n0 (n0 (n0 fT.q.2.2.2 ah) ah) ah).set1 _).drew
end Yd
