import Derived.Test.YtddiadcpokbpoaaGreatDoorLCat
set_option linter.all false
set_option maxRecDepth 200000
set_option maxHeartbeats 8000000
namespace Yd
open Bool renaming true->C,false->N,eq_false_iff->P
open Option renaming none->j,some->B
open Go Go.RowKit Go.Proofs Tryz
open Below renaming refl->J
open Go.IntKind renaming i64->r
open Go.Obj renaming cells->f
open Go.Value renaming slice->d,int->p,string->E,bool->O
open Same renaming of_below->I,refl'->M,putObj->S
open Value renaming slice->G
open Yd renaming hid->z
open _root_ renaming trivial->H
attribute [local go_sem] Oper.semAt_some
theorem Bx.newAt {X:World}{g:Nat}(h:X.1.size=g)(cs:Array Value)(T:TypeId):Bx (X.alloc (f cs T)) g cs:=h▸Bx.new X cs T
theorem Nv (s:Bs)(w:World)(hG:Eh w):Calls Tryz.prog 24 #[E ⟨s.toArray⟩] w (abg s w):=by
 have hz:=iM s;by_cases hlong:131072<s.length
 .have hf:p9 s= .error (0,3):=ay hlong
  have hl1:(131072:Int)<(s.length:Int):=by omega
  have hr:∀X,Below w.1.size w X->abg s w (.returned (.tuple #[d j 0 0,d j 0 0,p r 0,p r 3])) X:=λX hb=>⟨hb,by rw[hf]⟩
  have HR:=z hr;clear hr hf;go_enter Tryz.func24,Tryz.ntmps24;go_wp2_with fail;have h0:=(((Bx.newAt (X:=w) (g:=w.1.size) rfl #[d j 0 0] 22).alloc (f #[d j 0 0] 72)).alloc (f #[p r 0] 3)).alloc (f #[p r 3] 37);have h1:=((Bx.newAt (X:=w.alloc (f #[d j 0 0] 22)) (g:=w.1.size+1) au #[d j 0 0] 72).alloc (f #[p r 0] 3)).alloc (f #[p r 3] 37);have h2:=(Bx.newAt (X:=(w.alloc (f #[d j 0 0] 22)).alloc (f #[d j 0 0] 72)) (g:=w.1.size+1+1) au #[p r 0] 3).alloc (f #[p r 3] 37);have h3:=Bx.newAt (X:=((w.alloc (f #[d j 0 0] 22)).alloc (f #[d j 0 0] 72)).alloc (f #[p r 0] 3)) (g:=w.1.size+1+1+1) au #[p r 3] 37;have c0:=h0.1 0;have c1:=h1.1 0;have c2:=h2.1 0;have c3:=h3.1 0;refine bodyPost_ret (v:= .tuple #[d j 0 0,d j 0 0,p r 0,p r 3]) (by simp[results,results24,go_sem,c0,c1,c2,c3]) rfl (HR.q _ ((((J w.1.size w).alloc (aA _) _).alloc au _).alloc (by simp;omega) _|>.alloc (by simp;omega) _))
 .have hf:p9 s=xZ s (s.length+1) 0:=ak hlong
  have hl1:¬(131072:Int)<(s.length:Int):=by omega
  have hlim:s.length<=1000000:=by omega
  have HF:=z hf;have HG:=z hG;have anf:=z hlim;clear hf hG hlong hlim;refine(callsIn_wide (n:=3)).1 ?_;refine callsIn_of_wp_marks Tryz.func24 rfl H ?_ rfl;simp only[Tryz.ntmps24,zD,jd,mg,Nat.reduceAdd,Nat.reduceSub,A9,Ba,xV,xU,j3,gF];refine wpIn_wide.2 ?_
  go_wp2_with (go_at_call 63;refine(U9 _ _).mono ?_;rintro e w' ⟨rfl,rfl⟩)
  have Bc:(((((((w.alloc (f #[d j 0 0] 22)).alloc (f #[d j 0 0] 72)).alloc (f #[p r 0] 3)).alloc (f #[p r 0] 37)).alloc (f #[d j 0 0] 22)).alloc (f #[d j 0 0] 72)).alloc (f #[E ⟨s.toArray⟩] 9)).1.size=w.1.size+7:=by simp
  have FH:Below w.1.size w (((((((w.alloc (f #[d j 0 0] 22)).alloc (f #[d j 0 0] 72)).alloc (f #[p r 0] 3)).alloc (f #[p r 0] 37)).alloc (f #[d j 0 0] 22)).alloc (f #[d j 0 0] 72)).alloc (f #[E ⟨s.toArray⟩] 9)):=((((((((((((((J w.1.size w).alloc (by simp;try omega) _)).alloc (by simp;try omega) _)).alloc (by simp;try omega) _)).alloc (by simp;try omega) _)).alloc (by simp;try omega) _)).alloc (by simp;try omega) _)).alloc (by simp;try omega) _);have uq:Bx (((((((w.alloc (f #[d j 0 0] 22)).alloc (f #[d j 0 0] 72)).alloc (f #[p r 0] 3)).alloc (f #[p r 0] 37)).alloc (f #[d j 0 0] 22)).alloc (f #[d j 0 0] 72)).alloc (f #[E ⟨s.toArray⟩] 9)) (w.1.size+0) #[d j 0 0]:=(((((((Bx.newAt (X:=w) (g:=w.1.size+0) au #[d j 0 0] 22).alloc _).alloc _).alloc _).alloc _).alloc _).alloc _);have hV1:Bx (((((((w.alloc (f #[d j 0 0] 22)).alloc (f #[d j 0 0] 72)).alloc (f #[p r 0] 3)).alloc (f #[p r 0] 37)).alloc (f #[d j 0 0] 22)).alloc (f #[d j 0 0] 72)).alloc (f #[E ⟨s.toArray⟩] 9)) (w.1.size+1) #[d j 0 0]:=((((((Bx.newAt (X:=(w.alloc (f #[d j 0 0] 22))) (g:=w.1.size+1) au #[d j 0 0] 72).alloc _).alloc _).alloc _).alloc _).alloc _);have hV2:Bx (((((((w.alloc (f #[d j 0 0] 22)).alloc (f #[d j 0 0] 72)).alloc (f #[p r 0] 3)).alloc (f #[p r 0] 37)).alloc (f #[d j 0 0] 22)).alloc (f #[d j 0 0] 72)).alloc (f #[E ⟨s.toArray⟩] 9)) (w.1.size+2) #[p r 0]:=(((((Bx.newAt (X:=((w.alloc (f #[d j 0 0] 22)).alloc (f #[d j 0 0] 72))) (g:=w.1.size+2) au #[p r 0] 3).alloc _).alloc _).alloc _).alloc _);have Lx:Bx (((((((w.alloc (f #[d j 0 0] 22)).alloc (f #[d j 0 0] 72)).alloc (f #[p r 0] 3)).alloc (f #[p r 0] 37)).alloc (f #[d j 0 0] 22)).alloc (f #[d j 0 0] 72)).alloc (f #[E ⟨s.toArray⟩] 9)) (w.1.size+3) #[p r 0]:=((((Bx.newAt (X:=(((w.alloc (f #[d j 0 0] 22)).alloc (f #[d j 0 0] 72)).alloc (f #[p r 0] 3))) (g:=w.1.size+3) au #[p r 0] 37).alloc _).alloc _).alloc _);have Va:Bx (((((((w.alloc (f #[d j 0 0] 22)).alloc (f #[d j 0 0] 72)).alloc (f #[p r 0] 3)).alloc (f #[p r 0] 37)).alloc (f #[d j 0 0] 22)).alloc (f #[d j 0 0] 72)).alloc (f #[E ⟨s.toArray⟩] 9)) (w.1.size+4) #[d j 0 0]:=(((Bx.newAt (X:=((((w.alloc (f #[d j 0 0] 22)).alloc (f #[d j 0 0] 72)).alloc (f #[p r 0] 3)).alloc (f #[p r 0] 37))) (g:=w.1.size+4) au #[d j 0 0] 22).alloc _).alloc _);have LA:Bx (((((((w.alloc (f #[d j 0 0] 22)).alloc (f #[d j 0 0] 72)).alloc (f #[p r 0] 3)).alloc (f #[p r 0] 37)).alloc (f #[d j 0 0] 22)).alloc (f #[d j 0 0] 72)).alloc (f #[E ⟨s.toArray⟩] 9)) (w.1.size+5) #[d j 0 0]:=((Bx.newAt (X:=(((((w.alloc (f #[d j 0 0] 22)).alloc (f #[d j 0 0] 72)).alloc (f #[p r 0] 3)).alloc (f #[p r 0] 37)).alloc (f #[d j 0 0] 22))) (g:=w.1.size+5) au #[d j 0 0] 72).alloc _);have Vb:Bx (((((((w.alloc (f #[d j 0 0] 22)).alloc (f #[d j 0 0] 72)).alloc (f #[p r 0] 3)).alloc (f #[p r 0] 37)).alloc (f #[d j 0 0] 22)).alloc (f #[d j 0 0] 72)).alloc (f #[E ⟨s.toArray⟩] 9)) (w.1.size+6) #[E ⟨s.toArray⟩]:=(Bx.newAt (X:=((((((w.alloc (f #[d j 0 0] 22)).alloc (f #[d j 0 0] 72)).alloc (f #[p r 0] 3)).alloc (f #[p r 0] 37)).alloc (f #[d j 0 0] 22)).alloc (f #[d j 0 0] 72))) (g:=w.1.size+6) au #[E ⟨s.toArray⟩] 9);revert Bc FH uq hV1 hV2 Lx Va LA Vb;generalize(((((((w.alloc (f #[d j 0 0] 22)).alloc (f #[d j 0 0] 72)).alloc (f #[p r 0] 3)).alloc (f #[p r 0] 37)).alloc (f #[d j 0 0] 22)).alloc (f #[d j 0 0] 72)).alloc (f #[E ⟨s.toArray⟩] 9))=V;intro Bc FH uq hV1 hV2 Lx Va LA Vb;have hI0:ru (w.1.size+4) (w.1.size+9) V (d j 0 0) (d j 0 0) (d j 0 0) [] [] (d j 0 0) []:=⟨Va,LA,Own.fJ _ _ _ _ _,⟨rfl,λi l h=>(by cases h)⟩,Own.fJ _ _ _ _ _⟩;refine wpIn_wide.1 (Tj (n:=3) (gf:=103) (lb:=#[.pointer (B ⟨w.1.size+6,0,j⟩)]) (by simp[go_sem]) aew
   (vS:=abh (V.1.size+2)) (k:=0) (D:=λi=>i<w.1.size\/i=w.1.size+6) (R:=Eh) (Kp:=Ye (V.1.size+2)) (xs:=jF s (s.length+1) 0)
   (λW hW hWs=>by have:=QE s anf.q (w.1.size+6) (λi=>i<w.1.size\/i=w.1.size+6) W (Vb.keep hW) (.inr rfl);rw[hWs] at this;exact this) ah
   (λx args X h=>by obtain⟨_,_,_,_,_,rfl,_⟩:=h;rfl)
   (λpre X=>Below w.1.size w X/\Bx X w.1.size #[d j 0 0]/\Bx X (w.1.size+1) #[d j 0 0]/\Bx X (w.1.size+2) #[p r 0]/\Bx X (w.1.size+3) #[p r 0]/\
    (∃a c aW pa pc,ru (w.1.size+4) (w.1.size+9) X (d a aW.length c) (d pa pre.length pc) (d a aW.length c) aW (pre.map Ai.ln) (d pa pre.length pc) (pre.map Ai.fr))/\∀y∈pre,y.er=0)
   (λc pre X=>c= .ret/\Below w.1.size w X/\Bx X w.1.size #[d j 0 0]/\Bx X (w.1.size+1) #[d j 0 0]/\∃pre' x,pre=pre'++[x]/\x.er≠0/\Bx X (w.1.size+2) #[p r x.to]/\Bx X (w.1.size+3) #[p r x.er])
   (λpre X Y h k=>by
    obtain⟨h1,h2,h3,h4,h5,⟨a,c,aW,pa,pc,h6⟩,h7⟩:=h;exact⟨k.below h1 (λi hi=> .inl ah) h1.size,k.bx h2 (.inl ah),k.bx h3 (.inl ah),k.bx h4 (.inl ah),k.bx h5 (.inl ah),⟨a,c,aW,pa,pc,h6.same k (.inl ah) (.inl ah) (λi hi=> .inr ah)⟩,h7⟩)
   (λc pre X Y h k=>by
    obtain⟨h0,h1,h2,h3,pre',x,h4,h5,h6,h7⟩:=h;exact⟨h0,k.below h1 (λi hi=> .inl ah) h1.size,k.bx h2 (.inl ah),k.bx h3 (.inl ah),pre',x,h4,h5,k.bx h6 (.inl ah),k.bx h7 (.inl ah)⟩)
   (λpre X h=>HG.q.below h.1) (λc pre X h=>HG.q.below h.2.1)
   (λx args X Y h k=>by obtain⟨b4,b6,h1,h2,h3⟩:=h;exact⟨b4,b6,h1,h2,k.bx h3 (.inr ah)⟩)
   ⟨FH,uq,hV1,hV2,Lx,⟨j,0,[],j,0,hI0⟩,λy hy=>(by cases hy)⟩ ?round ?done ?stop)
  case done=>
   rintro X ⟨h1,h2,h3,h4,h5,⟨a,c,aW,pa,pc,h6⟩,h7⟩ hdef;rw[Bc] at hdef;have hok:p9 s= .ok ((jF s (s.length+1) 0).map (λx=>(x.ln,x.fr))):=by
    rw[HF.q];rcases vT s (s.length+1) 0 ah with⟨_,q1⟩|⟨q,y,q1,q2,q3,q4⟩
    .exact q1
    .exact absurd (h7 y (by rw[q1];simp)) q3
   obtain⟨xs,hxs⟩:∃xs,xs=jF s (s.length+1) 0:=⟨_,rfl⟩;rw[<-hxs] at h6 hok;obtain⟨m,hm⟩:∃m,m=xs.length:=⟨_,rfl⟩;rw[<-hm] at h6;have qK:=z hok;have HM:=z hm;have I8:=z hdef;have yO:=z (⟨h2,h3,h4,h5⟩:_/\_/\_/\_);have Bd:=z h6;have Q6:=z h1;clear hok hm hdef h2 h3 h4 h5 h6 h1 h7 hxs uq hV1 hV2 Lx Va LA Vb hI0;simp only[Exit.inBlock,Exit.then];go_wp2_with fail;refine aC 99 [(0,1),(1,1),(2,1),(3,1),(4,2),(5,2),(6,2),(7,2)] (λW'=>W'.cell? ⟨w.1.size+4,0,j⟩=B (d a aW.length c)/\W'.cell? ⟨w.1.size+5,0,j⟩=B (d pa m pc)) (λ_=>True) av av (⟨Bd.q.x4.1 0,Bd.q.x5.1 0⟩) (trivial) ?_;refine qC ?_;refine aD rfl rfl (λK hK=>?_);go_simp;have iN:=yO.q.1;have hx1:=iN.1;have hx2:=iN.2.1;have hx3:=iN.2.2;go_simp;refine hK _ _ ⟨⟨bV (Bd.q.x4.1 0) ah,bV (Bd.q.x5.1 0) ah⟩,H⟩ ?_;clear hK K iN hx1 hx2 hx3;refine aD rfl rfl (λK hK=>?_);go_simp;have iN:=yO.q.2.1;have hx1:=iN.1;have hx2:=iN.2.1;have hx3:=iN.2.2;go_simp;refine hK _ _ ⟨⟨bV (bV (Bd.q.x4.1 0) ah) ah,bV (bV (Bd.q.x5.1 0) ah) ah⟩,H⟩ ?_;clear hK K iN hx1 hx2 hx3;refine aD rfl rfl (λK hK=>?_);go_simp;have iN:=yO.q.2.2.1;have hx1:=iN.1;have hx2:=iN.2.1;have hx3:=iN.2.2;go_simp;refine hK _ _ ⟨⟨bV (bV (bV (Bd.q.x4.1 0) ah) ah) ah,bV (bV (bV (Bd.q.x5.1 0) ah) ah) ah⟩,H⟩ ?_;clear hK K iN hx1 hx2 hx3;refine aD rfl rfl (λK hK=>?_);go_simp;have iN:=yO.q.2.2.2;have hx1:=iN.1;have hx2:=iN.2.1;have hx3:=iN.2.2;go_simp;refine hK _ _ ⟨⟨bV (bV (bV (bV (Bd.q.x4.1 0) ah) ah) ah) ah,bV (bV (bV (bV (Bd.q.x5.1 0) ah) ah) ah) ah⟩,H⟩ ?_;clear hK K iN hx1 hx2 hx3;refine aJ ?_;go_wp2_with fail;have hz1:Same (λi=>i<w.1.size\/w.1.size+4<=i) X ((((X.setCell ⟨w.1.size,0,j⟩ (d a aW.length c)).setCell ⟨w.1.size+1,0,j⟩ (d pa m pc)).setCell ⟨w.1.size+2,0,j⟩ (p r (s.length:Int))).setCell ⟨w.1.size+3,0,j⟩ (p r 0)).drew:=(((((M X).setTail (A:=λi=>i<w.1.size\/w.1.size+4<=i) (λh=>by omega)).setTail (λh=>by omega)).setTail (λh=>by omega)).setTail (λh=>by omega)).qD;have n0:∀{Q:World}{b o:Nat}{u:Value}{cs:Array Value}{g:Nat},Bx Q g cs->g≠b->Bx (Q.setCell ⟨b,o,j⟩ u) g cs:=λhq hne=>Same.bx (A:=λi=>i≠_) ((M _).setTail (λh=>h rfl)) hq hne
   have k0:Bx ((((X.setCell ⟨w.1.size,0,j⟩ (d a aW.length c)).setCell ⟨w.1.size+1,0,j⟩ (d pa m pc)).setCell ⟨w.1.size+2,0,j⟩ (p r (s.length:Int))).setCell ⟨w.1.size+3,0,j⟩ (p r 0)).drew w.1.size _:=(n0 (n0 (n0 (yO.q.1.set1 _) ah) ah) ah).drew;have k1:Bx ((((X.setCell ⟨w.1.size,0,j⟩ (d a aW.length c)).setCell ⟨w.1.size+1,0,j⟩ (d pa m pc)).setCell ⟨w.1.size+2,0,j⟩ (p r (s.length:Int))).setCell ⟨w.1.size+3,0,j⟩ (p r 0)).drew (w.1.size+1) _:=(n0 (n0 ((n0 yO.q.2.1 ah).set1 _) ah) ah).drew;have k2:Bx ((((X.setCell ⟨w.1.size,0,j⟩ (d a aW.length c)).setCell ⟨w.1.size+1,0,j⟩ (d pa m pc)).setCell ⟨w.1.size+2,0,j⟩ (p r (s.length:Int))).setCell ⟨w.1.size+3,0,j⟩ (p r 0)).drew (w.1.size+2) _:=(n0 ((n0 (n0 yO.q.2.2.1 ah) ah).set1 _) ah).drew;have k3:Bx ((((X.setCell ⟨w.1.size,0,j⟩ (d a aW.length c)).setCell ⟨w.1.size+1,0,j⟩ (d pa m pc)).setCell ⟨w.1.size+2,0,j⟩ (p r (s.length:Int))).setCell ⟨w.1.size+3,0,j⟩ (p r 0)).drew (w.1.size+3) _:=((n0 (n0 (n0 yO.q.2.2.2 ah) ah) ah).set1 _).drew;revert hz1 k0 k1 k2 k3;generalize((((X.setCell ⟨w.1.size,0,j⟩ (d a aW.length c)).setCell ⟨w.1.size+1,0,j⟩ (d pa m pc)).setCell ⟨w.1.size+2,0,j⟩ (p r (s.length:Int))).setCell ⟨w.1.size+3,0,j⟩ (p r 0)).drew=Z;intro hz1 k0 k1 k2 k3;have hdf:Z.1[(w.1.size+7)]?=B (.deferred (B [])):=(hz1.block _ ah (dI.1 I8.q).1).trans I8.q;have hp0:=(k0.putObj (l:=(w.1.size+7)) (.deferred j) ah).1 0;have hp1:=(k1.putObj (l:=(w.1.size+7)) (.deferred j) ah).1 0;have hp2:=(k2.putObj (l:=(w.1.size+7)) (.deferred j) ah).1 0;have hp3:=(k3.putObj (l:=(w.1.size+7)) (.deferred j) ah).1 0;have hzz:Same (λi=>i<w.1.size\/w.1.size+9<=i) X (Z.putObj (w.1.size+7) (.deferred j)):=(hz1.mono (λi hi _=>by omega)).tr (S (A:=λi=>i<w.1.size\/w.1.size+9<=i) Z _ ah);refine⟨by simp,.inl ⟨_,_,rfl,run_takeDeferred hdf,?_⟩⟩;refine⟨.tuple #[d a aW.length c,d pa m pc,p r (s.length:Int),p r 0],by simp[results,results24,go_sem,hp0,hp1,hp2,hp3],hzz.below Q6.q (λi hi=> .inl hi) Q6.q.size,?_⟩;rw[qK.q];refine⟨a,c,aW,pa,pc,by rw[bH,<-HM.q],?_,?_,?_⟩
   .exact(Bd.q.oL.same hzz (λg hg=> .inr (Bd.q.oL.lt g hg).1)).mono ah
   .rw[tO]
    have:=Bd.q.aL.same hzz (λi hi=> .inr hi);exact⟨this.1,λi l h=>let⟨s,h1,h2⟩:=this.2 i l h;⟨s,h1,h2.mono ah⟩⟩
   .rw[tO,bH,<-HM.q]
    exact(Bd.q.oP.same hzz (λg hg=> .inr (Bd.q.oP.lt g hg).1)).mono ah
  case stop=>
   rintro cc pre X hpre ⟨rfl,hb,h2,h3,pre',x,rfl,h5,h6,h7⟩ hdef;have ang:p9 s= .error (x.to,x.er):=by
    rw[HF.q];rcases vT s (s.length+1) 0 ah with⟨q1,_⟩|⟨q,y,q1,q2,q3,q4⟩
    .exact absurd (q1 x (hpre.subset au)) h5
    .rw[q1] at hpre
     obtain⟨t,ht⟩:=hpre
     cases t with
     |nil=>
      rw[fw] at ht;have:=(List.append_inj' ht rfl).2;injection this with this;rw[this];exact q4
     |cons t1 t2=>
      have:x∈q:=by
       have e:(pre'++[x])++(t1::t2).dropLast++[(t1::t2).getLast au]=q++[y]:=by
        rw[eG,List.dropLast_concat_getLast];exact ht
       have:=(List.append_inj' e rfl).1;rw[<-this];simp
      exact absurd (q2 x this) h5
   refine wpIn_wide.2 ?_;go_wp2_with fail;have hp2:=(h2.putObj (l:=V.1.size) (.deferred j) ah).1 0;have hp3:=(h3.putObj (l:=V.1.size) (.deferred j) ah).1 0;have hp6:=(h6.putObj (l:=V.1.size) (.deferred j) ah).1 0;have hp7:=(h7.putObj (l:=V.1.size) (.deferred j) ah).1 0;refine⟨by simp,.inl ⟨_,_,rfl,run_takeDeferred hdef,?_⟩⟩;refine⟨.tuple #[d j 0 0,d j 0 0,p r x.to,p r x.er],by simp[results,results24,go_sem,hp2,hp3,hp6,hp7],(S (A:=λi=>i<w.1.size) X _ ah).below hb (λi hi=>hi) hb.size,?_⟩;rw[ang]
  case round=>
   rintro pre x args X ⟨hb,h0,h1,h2,h3,⟨a,c,aW,pa,pc,hk⟩,hall⟩ hpre ⟨b4,b6,cl,hb4,Yf,rfl,hx4,hx6,hlx,hty⟩ hsz m
   gi_wp2
   refine⟨aB (J _ _) _,λX2 hk2=>?_⟩;have E8:Same (λi=>i≠V.1.size+1) X X2:=(I (aB (J X.1.size X) (f #[p r x.fr,p r x.to] 103)) (λi _ hl=>hl)).tr hk2;have ht8:Bx X2 X.1.size #[p r x.fr,p r x.to]:=hk2.bx (Bx.new X _ _) ah;have aey:X.1.size<X2.1.size:=ht8.2.2;have HB2:=z (E8.below hb (λi hi=>by omega) hb.size);have HR2:=z (⟨E8.bx h0 ah,E8.bx h1 ah,E8.bx h2 ah,E8.bx h3 ah⟩:_/\_/\_/\_);have Aj:=z (hk.same E8 ah ah (λi hi=>by omega));have anh:=z ((hlx.same E8 (λi hi=>by omega)).mono (B':=w.1.size+9) ah);have asu:Hid (∃cs fz,X2.1[b6]?=B (f cs 37 fz)):=z (let⟨cs,fz,e⟩:=hty;⟨cs,fz,(E8.block b6 ah hx6.2.2).trans e⟩);have HC:=z (acZ b4 b6 cl x.er X2 (E8.bx hx4 ah) (E8.bx hx6 ah));have LB:=z (E8.bx hx6 ah);have aez:=z ht8;have iT:Hid (w.1.size+9<=b6/\w.1.size+9<=X.1.size/\b6<X.1.size/\X.1.size<X2.1.size):=z ⟨by omega,by omega,hx6.2.2,aey⟩;have HOL:Hid (∀g,(G a aW.length c).ownBlock=B g->g<X.1.size):=z (λg hg=>(hk.oL.lt g hg).2);have HOP:Hid (∀g,(G pa pre.length pc).ownBlock=B g->g<X.1.size):=z (λg hg=>(hk.oP.lt g hg).2);have jG:Hid ((∀g,(G a aW.length c).ownBlock=B g->g≠b6)/\∀g,(G pa pre.length pc).ownBlock=B g->g≠b6):=z (by
    obtain⟨cs,fz,e⟩:=hty;refine⟨λg hg q=>?_,λg hg q=>?_⟩
    .obtain⟨_,_,e2⟩:=hk.oL.tag hg
     rw[q,e] at e2;cases e2
    .obtain⟨_,_,e2⟩:=hk.oP.tag hg
     rw[q,e] at e2;cases e2)
   have Ch:=z Bc;have tC:=z hall;have nD:=z hpre;have HLP:Hid (pre.length<=131073):=z (by have h1:=hpre.length_le;have h2:=Db s (s.length+1) 0;rw[dH,kT] at h1;omega);have HLC:Hid (aW.length<=131073):=z (by rw[hk.aL.1,bH];exact HLP.q);clear E8 ht8 aey hb h0 h1 h2 h3 hk hlx hty hx4 hx6 hk2 hall hpre hI0 uq hV1 hV2 Lx Va LA Vb FH hb4 Yf
   gi_wp2
   refine⟨H,λh=>(by cases h),?_⟩;refine(CallsIn.inRound _ (callsIn_wide.2 HC.q)).mono ?_;rintro e W3 ⟨rfl,hb3⟩;have hbz:Below X2.1.size X2 (W3.alloc (f #[p r cl.kind,d cl.na cl.nn cl.nc,p r cl.lvl,d cl.va cl.vn cl.vc,O cl.first,p r cl.bits] 30)):=hb3.alloc hb3.size _;have iO:=z hbz;have JN:=z (Bx.new W3 #[p r cl.kind,d cl.na cl.nn cl.nc,p r cl.lvl,d cl.va cl.vn cl.vc,O cl.first,p r cl.bits] 30);have HW3:Hid (X2.1.size<=W3.1.size):=z hb3.size;clear hbz hb3 HC;by_cases h0:x.er=0
   .have hq1:(x.er==0)=C:=xX.2 h0
    have hq2:(x.er !=0)=N:=by simp[h0]
    have H0:=z h0;clear h0
    gi_wp2
    revert iO JN;generalize W3.alloc (f #[p r cl.kind,d cl.na cl.nn cl.nc,p r cl.lvl,d cl.va cl.vn cl.vc,O cl.first,p r cl.bits] 30)=Z0;intro iO JN;obtain⟨Y0,hY0⟩:∃Y,Z0.drew=Y:=⟨_,rfl⟩;have hby:Below X2.1.size X2 Y0:=by rw[<-hY0];exact iO.q.drew
    have rT:=z hby;have aeB:Hid (Bx Y0 W3.1.size #[p r cl.kind,d cl.na cl.nn cl.nc,p r cl.lvl,d cl.va cl.vn cl.vc,O cl.first,p r cl.bits]):=z (by rw[<-hY0];exact JN.q.drew);have HT8:=z (aez.q.keep hby);have Q7:=z (Aj.q.below hby);have Yg:=z (anh.q.below hby);have HA0:Hid (Same (λi=>i<w.1.size+4\/(w.1.size+6<=i/\i<w.1.size+9)\/i=b6\/i=X.1.size\/i=W3.1.size) Y0 Y0):=z (M _);have qY:Hid (w.1.size+9<=Y0.1.size):=z (by have:=hby.size;have:=iT.q;omega);have pI:Hid (∀g,(G a aW.length c).ownBlock=B g->¬(g<w.1.size+4\/(w.1.size+6<=g/\g<w.1.size+9)\/g=b6\/g=X.1.size\/g=W3.1.size)):=z (λg hg=>by have h1:=HOL.q g hg;have h2:=jG.q.1 g hg;have h3:=(Q7.q.oL.lt g hg).1;have h4:=iT.q;have h5:=HW3.q;omega);have HNP:Hid (∀g,(G pa pre.length pc).ownBlock=B g->¬(g<w.1.size+4\/(w.1.size+6<=g/\g<w.1.size+9)\/g=b6\/g=X.1.size\/g=W3.1.size)):=z (λg hg=>by have h1:=HOP.q g hg;have h2:=jG.q.2 g hg;have h3:=(Q7.q.oP.lt g hg).1;have h4:=iT.q;have h5:=HW3.q;omega);obtain⟨iL,zL,hIL⟩:=GZ;obtain⟨iI,zI,hII⟩:=yZ;have vJ:=z hIL;have JO:=z hII;have Yh:Hid (∀(Y:World)(a2:Option Addr)(c2:Nat)(p2:Option Addr)(q2:Nat),Same (λi=>i<w.1.size+4\/(w.1.size+6<=i/\i<w.1.size+9)\/i=b6\/i=X.1.size\/i=W3.1.size) Y0 Y->
      ru (w.1.size+4) (w.1.size+9) Y (d a2 (aW.length+1) c2) (d p2 (pre.length+1) q2) (d a2 (aW.length+1) c2) (aW++[cl]) (pre.map Ai.ln++[x.ln]) (d p2 (pre.length+1) q2) (pre.map Ai.fr++[x.fr])->
      (Y.1[V.1.size]?=X2.1[V.1.size]?/\Y.1[V.1.size+1]?=X2.1[V.1.size+1]?)/\bg (λi=>i<w.1.size\/i=w.1.size+6) X2 Y/\
      (Below w.1.size w Y/\Bx Y w.1.size #[d j 0 0]/\Bx Y (w.1.size+1) #[d j 0 0]/\Bx Y (w.1.size+2) #[p r 0]/\Bx Y (w.1.size+3) #[p r 0]/\
       (∃a c aW pa pc,ru (w.1.size+4) (w.1.size+9) Y (d a aW.length c) (d pa (pre++[x]).length pc) (d a aW.length c) aW ((pre++[x]).map Ai.ln) (d pa (pre++[x]).length pc) ((pre++[x]).map Ai.fr))/\∀y∈pre++[x],y.er=0)/\
      Ye (V.1.size+2) x #[.agg #[p r x.fr,p r x.to],.func (.func 105) #[] #[.pointer (B ⟨b4,0,j⟩),.pointer (B ⟨b6,0,j⟩)]] Y):=z (λY a2 c2 p2 q2 hs hk=>by
     have hv:=Ch.q;have hbx:=iT.q;have hs2:Same (λi=>i<w.1.size+4\/(w.1.size+6<=i/\i<w.1.size+9)\/i=b6) X2 Y:=(I rT.q (λi _ hl=>hl)).tr (hs.mono (λi hi _=>by omega));refine⟨⟨hs2.block _ ah ah,hs2.block _ ah ah⟩,⟨hs2.size,λi hi hl=>hs2.block i ah hl⟩,⟨hs2.below HB2.q (λi hi=>by omega) HB2.q.size,hs2.bx HR2.q.1 ah,hs2.bx HR2.q.2.1 ah,hs2.bx HR2.q.2.2.1 ah,hs2.bx HR2.q.2.2.2 ah,⟨a2,c2,aW++[cl],p2,q2,?_⟩,λy hy=>?_⟩,⟨b4,b6,by omega,rfl,hs2.bx LB.q ah⟩⟩
     .rw[dH,dH,kT,kT,gK,gK];exact hk
     .rcases bJ.1 hy with h|h
      .exact tC.q y h
      .rw[bF.1 h];exact H0.q)
    clear hby hIL hII hz;refine I9 [1,5,6] (λW'=>W'.cell? ⟨X.1.size,0,j⟩=B (p r x.fr)/\Bx W' W3.1.size #[p r cl.kind,d cl.na cl.nn cl.nc,p r cl.lvl,d cl.va cl.vn cl.vc,O cl.first,p r cl.bits]) av av av (by rw[hY0];exact⟨HA0.q.cell (HT8.q.1 0) (.inr (.inr (.inr (.inl rfl)))),HA0.q.bx aeB.q (.inr (.inr (.inr (.inr rfl))))⟩) ?_;rw[hY0];refine qV ?_;refine aeD (F:=λA L a' Y=>∃(x29 x31 x32 Ii Ij E9 u4 u5 uL uP:Value)(lc:List bB)(lx:List aP)(ps:List Int)(g1 g2:Nat),a'=M5 A [(29,x29),(31,x31),(32,x32),(33,Ii),(36,Ij),(37,E9)]/\
      ((L 1=C/\L 5=C/\L 6=C)/\(L 9=C->L 8=C)/\(L 10=C->L 9=C)/\(L 8=C->L 3=C/\L 4=C/\L 7=C)/\(L 3=C->L 0=C/\L 2=C))/\
      (L 0=C->x29= d a aW.length c)/\(L 4=C->Ii= d pa pre.length pc)/\
      (L 2=C->x31= d (B ⟨g1,0,j⟩) 1 1/\(L 3=N->Row Y 6 mh (B ⟨g1,0,j⟩) 1 1 [cl]))/\
      (L 7=C->Ij= d (B ⟨g2,0,j⟩) 1 1/\(∀g,(G a aW.length c).ownBlock=B g->g≠g2)/\(L 8=N->Row Y 1 aQ (B ⟨g2,0,j⟩) 1 1 [x.fr]))/\
      (L 3=N->iB Y (w.1.size+9) cl x.ln/\uL= d a aW.length c/\lc=aW/\lx=pre.map Ai.ln)/\(L 3=C->(∃a2 c2,x32= d a2 (aW.length+1) c2)/\uL=x32/\lc=aW++[cl]/\lx=pre.map Ai.ln++[x.ln])/\
      (L 8=N->uP= d pa pre.length pc/\ps=pre.map Ai.fr)/\(L 8=C->(∃p2 q2,E9= d p2 (pre.length+1) q2)/\uP=E9/\ps=pre.map Ai.fr++[x.fr])/\
      (L 9=N->u4= d a aW.length c)/\(L 9=C->u4=x32)/\(L 10=N->u5= d pa pre.length pc)/\(L 10=C->u5=E9)/\
      ru (w.1.size+4) (w.1.size+9) Y u4 u5 uL lc lx uP ps/\Same (λi=>i<w.1.size+4\/(w.1.size+6<=i/\i<w.1.size+9)\/i=b6\/i=X.1.size\/i=W3.1.size) Y0 Y) ?_ ?_ ?_ ?_
    .rintro L a' Y ⟨_,_,_,_,_,_,_,_,_,_,_,_,_,_,_,_,_,_,_,_,_,_,_,_,_,_,_,_,_,_,hs⟩
     exact⟨hs.cell (HT8.q.1 0) (.inr (.inr (.inr (.inl rfl)))),hs.bx aeB.q (.inr (.inr (.inr (.inr rfl))))⟩
    .exact⟨_,_,_,_,_,_,_,_,_,_,_,_,_,0,0,rfl,⟨⟨rfl,rfl,rfl⟩,(λh=>by cases h),(λh=>by cases h),(λh=>by cases h),(λh=>by cases h)⟩,(λh=>by cases h),(λh=>by cases h),(λh=>by cases h),(λh=>by cases h),(λ_=>⟨Yg.q,rfl,rfl,rfl⟩),(λh=>by cases h),(λ_=>⟨rfl,rfl⟩),(λh=>by cases h),(λ_=>rfl),(λh=>by cases h),(λ_=>rfl),(λh=>by cases h),Q7.q,HA0.q⟩
    .rintro L a' Y hL ⟨x29,x31,x32,Ii,Ij,E9,u4,u5,uL,uP,lc,lx,ps,g1,g2,rfl,_,f0,f4,f2,f7,_,f3,_,f8,_,f9,_,f10,hk,hs⟩
     obtain⟨⟨a2,c2,rfl⟩,rfl,rfl,rfl⟩:=f3 (hL 3);obtain⟨⟨p2,q2,rfl⟩,rfl,rfl⟩:=f8 (hL 8);obtain rfl:=f9 (hL 9);obtain rfl:=f10 (hL 10);obtain rfl:=f0 (hL 0);obtain rfl:=f4 (hL 4);obtain⟨rfl,_⟩:=f2 (hL 2);obtain⟨rfl,_⟩:=f7 (hL 7);have HF:=z (⟨hk,hs⟩:_/\_);clear f0 f4 f2 f7 f3 f8 f9 f10 hk hs hL;refine ac0 ?_;simp only[M5,Act.put,tQ,sG,sF]
     gi_wp2
     exact Yh.q _ _ _ _ _ HF.q.2 HF.q.1
    .rintro i L a' Y hi hL hd ⟨x29,x31,x32,Ii,Ij,E9,u4,u5,uL,uP,lc,lx,ps,g1,g2,rfl,hF⟩
     have HF:=z hF;have HL:=z hL;have HD:=z hd;clear hF hL hd;rcases(by have:i<11:=hi;omega:i=0\/i=1\/i=2\/i=3\/i=4\/i=5\/i=6\/i=7\/i=8\/i=9\/i=10) with rfl|rfl|rfl|rfl|rfl|rfl|rfl|rfl|rfl|rfl|rfl
     case' inr.inl=>cases HL.q.symm.trans HF.q.1.1.1
     case' inr.inr.inr.inr.inr.inl=>cases HL.q.symm.trans HF.q.1.1.2.1
     case' inr.inr.inr.inr.inr.inr.inl=>cases HL.q.symm.trans HF.q.1.1.2.2
     all_goals
      obtain⟨⟨f1,f98,FI,f83,f30⟩,f0,f4,f2,f7,f3,f3',f8,Ik,f9,JQ,f10,Ei,hk,hs⟩:=HF.q;have JR:=z (⟨f1,f98,FI,f83,f30,f0,f4,f2,f7,f3,f3',f8,Ik,f9,JQ,f10,Ei,hk,hs⟩:_/\_/\_/\_/\_/\_/\_/\_/\_/\_/\_/\_/\_/\_/\_/\_/\_/\_/\_);clear f1 f98 FI f83 f30 f0 f4 f2 f7 f3 f3' f8 Ik f9 JQ f10 Ei hk hs;refine ac1 rfl rfl (λK hK=>?_);simp only[M5,Act.put,tQ,sG,sF];obtain⟨f1,f98,FI,f83,f30,f0,f4,f2,f7,f3,f3',f8,Ik,f9,JQ,f10,Ei,hk,hs⟩:=JR.q
     .have h9:L 9=N:=P.2 (λq=>by cases HL.q.symm.trans (f30 (f83 (f98 q)).1).1)
      have hx:=hk.x4;rw[f9 h9] at hx;have hc:=hx.1 0;go_simp;exact hK _ _ ⟨d a aW.length c,x31,x32,Ii,Ij,E9,u4,u5,uL,uP,lc,lx,ps,g1,g2,rfl,⟨f1,f98,FI,f83,λq=>⟨rfl,(f30 q).2⟩⟩,λ_=>rfl,f4,f2,f7,f3,f3',f8,Ik,f9,JQ,f10,Ei,hk,hs⟩
     .have hba:=aB (J Y.1.size Y) (f #[p r cl.kind,d cl.na cl.nn cl.nc,p r cl.lvl,d cl.va cl.vn cl.vc,O cl.first,p r cl.bits] 30)
      go_simp;exact hK _ _ ⟨x29,d (B ⟨Y.1.size,0,j⟩) 1 1,x32,Ii,Ij,E9,u4,u5,uL,uP,lc,lx,ps,Y.1.size,g2,rfl,⟨f1,f98,FI,f83,λq=>⟨(f30 q).1,rfl⟩⟩,f0,f4,λ_=>⟨rfl,λ_=>Row.ln1 Y cl⟩,(λq=>⟨(f7 q).1,(f7 q).2.1,λq2=>((f7 q).2.2 q2).below hba rfl⟩),(λq=>⟨(f3 q).1.below hba,(f3 q).2⟩),f3',f8,Ik,f9,JQ,f10,Ei,hk.below hba,hs.tr (I hba (λi _ hl=>hl))⟩
     .obtain⟨hln,rfl,e2,rfl⟩:=f3 HL.q
      obtain rfl:=e2.symm;obtain rfl:=f0 (HD.q 0 av);obtain⟨rfl,hrow⟩:=f2 (HD.q 2 av);refine ko _ _ 22 rfl iL zL 80 underlying22 vJ.q.1 vJ.q.2.1 vJ.q.2.2.1 vJ.q.2.2.2.1 vJ.q.2.2.2.2 rfl hk.oL (B ⟨g1,0,j⟩) 1 1 (aW.length+1) [cl] rfl (hrow HL.q) rfl (by have:=HLC.q;omega) (by have:=HLC.q;unfold maxLen;omega) (dL qY.q hs.size) ?_;intro a2 c2 Y2 ho hg hat;exact hK _ _ ⟨_,_,d a2 (aW.length+1) c2,Ii,Ij,E9,u4,u5,d a2 (aW.length+1) c2,uP,aW++[cl],pre.map Ai.ln++[x.ln],ps,g1,g2,rfl,⟨f1,f98,FI,λq=>⟨rfl,(f83 q).2⟩,λ_=>⟨HD.q 0 av,HD.q 2 av⟩⟩,λ_=>rfl,f4,λ_=>⟨rfl,λq=>by cases q⟩,
       (λq=>⟨(f7 q).1,(f7 q).2.1,λq2=>(u7 (A:=λi=>i=g2) hg (λg e=>(f7 q).2.1 g e)).row ((f7 q).2.2 q2) (λb o e=>by injection e with e;injection e with e;exact e.symm)⟩),(λq=>by cases q),λ_=>⟨⟨a2,c2,rfl⟩,rfl,rfl,rfl⟩,f8,Ik,f9,(λq=>by cases HL.q.symm.trans (f83 (f98 q)).1),f10,Ei,hk.ai8 hln ho hg ah,hs.tr (u7 hg pI.q)⟩
     .have h10:L 10=N:=P.2 (λq=>by cases HL.q.symm.trans (f83 (f98 (FI q))).2.1)
      have hx:=hk.x5;rw[f10 h10] at hx;have hc:=hx.1 0;go_simp;exact hK _ _ ⟨x29,x31,x32,d pa pre.length pc,Ij,E9,u4,u5,uL,uP,lc,lx,ps,g1,g2,rfl,⟨f1,f98,FI,λq=>⟨(f83 q).1,rfl,(f83 q).2.2⟩,f30⟩,f0,λ_=>rfl,f2,f7,f3,f3',f8,Ik,f9,JQ,f10,Ei,hk,hs⟩
     .have hba:=aB (J Y.1.size Y) (f #[p r x.fr] 3)
      go_simp;exact hK _ _ ⟨x29,x31,x32,Ii,d (B ⟨Y.1.size,0,j⟩) 1 1,E9,u4,u5,uL,uP,lc,lx,ps,g1,Y.1.size,rfl,⟨f1,f98,FI,λq=>⟨(f83 q).1,(f83 q).2.1,rfl⟩,f30⟩,f0,f4,(λq=>⟨(f2 q).1,λq2=>((f2 q).2 q2).below hba rfl⟩),λ_=>⟨rfl,(λg hg=>by have:=(Q7.q.oL.lt g hg).2;have:=hs.size;omega),λ_=>Row.i1 Y _⟩,(λq=>⟨(f3 q).1.below hba,(f3 q).2⟩),f3',f8,Ik,f9,JQ,f10,Ei,hk.below hba,hs.tr (I hba (λi _ hl=>hl))⟩
     .obtain⟨rfl,rfl⟩:=f8 HL.q
      have h3:=HD.q 3 av;obtain rfl:=f4 (HD.q 4 av);obtain⟨rfl,hg2,hrow⟩:=f7 (HD.q 7 av);refine ko _ _ 72 rfl iI zI 8 underlying72 JO.q.1 JO.q.2.1 JO.q.2.2.1 JO.q.2.2.2.1 JO.q.2.2.2.2 rfl hk.oP (B ⟨g2,0,j⟩) 1 1 (pre.length+1) [x.fr] rfl (hrow HL.q) (by rw[bH]) (by have:=HLP.q;omega) (by have:=HLP.q;unfold maxLen;omega) (dL qY.q hs.size) ?_;intro p2 q2 Y2 ho hg hat;exact hK _ _ ⟨x29,x31,x32,_,_,d p2 (pre.length+1) q2,u4,u5,uL,d p2 (pre.length+1) q2,lc,lx,_,g1,g2,rfl,⟨f1,λ_=>rfl,FI,λ_=>⟨h3,HD.q 4 av,HD.q 7 av⟩,f30⟩,f0,λ_=>rfl,(λq=>⟨(f2 q).1,λq3=>by cases q3.symm.trans h3⟩),λ_=>⟨rfl,hg2,λq=>by cases q⟩,
       (λq=>by cases q.symm.trans h3),f3',(λq=>by cases q),λ_=>⟨⟨p2,q2,rfl⟩,rfl,rfl⟩,f9,JQ,f10,(λq=>by cases HL.q.symm.trans (f98 (FI q))),hk.ai9 ho hg ah,hs.tr (u7 hg HNP.q)⟩
     .obtain rfl:=f9 HL.q
      obtain⟨⟨a2,c2,rfl⟩,e1,e2,e3⟩:=f3' (HD.q 3 av);have iN:=hk.x4;have hx1:=iN.1;have hx2:=iN.2.1;have hx3:=iN.2.2;go_simp;exact hK _ _ ⟨x29,x31,_,Ii,Ij,E9,d a2 (aW.length+1) c2,u5,uL,uP,lc,lx,ps,g1,g2,rfl,⟨f1,λ_=>HD.q 8 av,λ_=>rfl,f83,f30⟩,f0,f4,(λq=>⟨(f2 q).1,λq3=>by cases q3.symm.trans (HD.q 3 av)⟩),(λq=>⟨(f7 q).1,(f7 q).2.1,λq8=>by cases q8.symm.trans (HD.q 8 av)⟩),(λq=>by cases q.symm.trans (HD.q 3 av)),λ_=>⟨⟨a2,c2,rfl⟩,e1,e2,e3⟩,(λq=>by cases q.symm.trans (HD.q 8 av)),Ik,
       (λq=>by cases q),λ_=>rfl,f10,Ei,hk.ani _ ah,hs.setTail (by show ¬(_\/_\/_\/_\/_);have:=iT.q;have:=HW3.q;omega)⟩
     .obtain rfl:=f10 HL.q
      obtain⟨⟨p2,q2,rfl⟩,e1,e2⟩:=Ik (HD.q 8 av);have iN:=hk.x5;have hx1:=iN.1;have hx2:=iN.2.1;have hx3:=iN.2.2;go_simp;exact hK _ _ ⟨x29,x31,x32,Ii,Ij,_,u4,d p2 (pre.length+1) q2,uL,uP,lc,lx,ps,g1,g2,rfl,⟨f1,f98,λ_=>HD.q 9 av,f83,f30⟩,f0,f4,(λq=>⟨(f2 q).1,λq3=>by cases q3.symm.trans (HD.q 3 av)⟩),(λq=>⟨(f7 q).1,(f7 q).2.1,λq8=>by cases q8.symm.trans (HD.q 8 av)⟩),(λq=>by cases q.symm.trans (HD.q 3 av)),f3',(λq=>by cases q.symm.trans (HD.q 8 av)),λ_=>⟨⟨p2,q2,rfl⟩,e1,e2⟩,
       f9,JQ,(λq=>by cases q),λ_=>rfl,hk.anj _ ah,hs.setTail (by show ¬(_\/_\/_\/_\/_);have:=iT.q;have:=HW3.q;omega)⟩
   .have hq1:(x.er==0)=N:=aR.2 h0
    have hq2:(x.er !=0)=C:=by simp[h0]
    have H0:=z h0;clear h0
    gi_wp2
    revert iO JN;generalize W3.alloc (f #[p r cl.kind,d cl.na cl.nn cl.nc,p r cl.lvl,d cl.va cl.vn cl.vc,O cl.first,p r cl.bits] 30)=Z0;intro iO JN;have gT:Hid (Bx Z0 w.1.size #[d j 0 0]/\Bx Z0 (w.1.size+1) #[d j 0 0]/\Bx Z0 (w.1.size+2) #[p r 0]/\Bx Z0 (w.1.size+3) #[p r 0]):=z ⟨HR2.q.1.keep iO.q,HR2.q.2.1.keep iO.q,HR2.q.2.2.1.keep iO.q,HR2.q.2.2.2.keep iO.q⟩;have Nw:=z (aez.q.keep iO.q);have hbx:=iT.q;refine Bf 99 [(0,1),(1,1),(2,1),(3,2),(4,2),(5,2),(6,2)] (λW'=>W'.cell? ⟨X.1.size,1,j⟩=B (p r x.to)) (λ_=>True) av av av (Nw.q.1 1) (trivial) ?_;refine qC ?_;refine aD rfl rfl (λK hK=>?_);go_simp;have iN:=gT.q.1;have hx1:=iN.1;have hx2:=iN.2.1;have hx3:=iN.2.2;go_simp;refine hK _ _ ⟨bV (Nw.q.1 1) ah,H⟩ ?_;clear hK K iN hx1 hx2 hx3;refine aD rfl rfl (λK hK=>?_);go_simp;have iN:=gT.q.2.1;have hx1:=iN.1;have hx2:=iN.2.1;have hx3:=iN.2.2;go_simp;refine hK _ _ ⟨bV (bV (Nw.q.1 1) ah) ah,H⟩ ?_;clear hK K iN hx1 hx2 hx3;refine aD rfl rfl (λK hK=>?_);go_simp;have iN:=gT.q.2.2.1;have hx1:=iN.1;have hx2:=iN.2.1;have hx3:=iN.2.2;go_simp;refine hK _ _ ⟨bV (bV (bV (Nw.q.1 1) ah) ah) ah,H⟩ ?_;clear hK K iN hx1 hx2 hx3;refine aD rfl rfl (λK hK=>?_);go_simp;have iN:=gT.q.2.2.2;have hx1:=iN.1;have hx2:=iN.2.1;have hx3:=iN.2.2;go_simp;refine hK _ _ ⟨bV (bV (bV (bV (Nw.q.1 1) ah) ah) ah) ah,H⟩ ?_;clear hK K iN hx1 hx2 hx3;refine aJ ?_
    gi_wp2
    have hv:=Ch.q;have hz1:Same (λi=>i<w.1.size\/w.1.size+4<=i) Z0 ((((Z0.setCell ⟨w.1.size,0,j⟩ (d j 0 0)).setCell ⟨w.1.size+1,0,j⟩ (d j 0 0)).setCell ⟨w.1.size+2,0,j⟩ (p r x.to)).setCell ⟨w.1.size+3,0,j⟩ (p r x.er)).drew:=(((((M Z0).setTail (A:=λi=>i<w.1.size\/w.1.size+4<=i) (λh=>by omega)).setTail (λh=>by omega)).setTail (λh=>by omega)).setTail (λh=>by omega)).qD;have hz2:Same (λi=>i<w.1.size\/w.1.size+4<=i) X2 ((((Z0.setCell ⟨w.1.size,0,j⟩ (d j 0 0)).setCell ⟨w.1.size+1,0,j⟩ (d j 0 0)).setCell ⟨w.1.size+2,0,j⟩ (p r x.to)).setCell ⟨w.1.size+3,0,j⟩ (p r x.er)).drew:=(I iO.q (λi _ hl=>hl)).tr hz1;have n0:∀{Q:World}{b o:Nat}{u:Value}{cs:Array Value}{g:Nat},Bx Q g cs->g≠b->Bx (Q.setCell ⟨b,o,j⟩ u) g cs:=λhq hne=>Same.bx (A:=λi=>i≠_) ((M _).setTail (λh=>h rfl)) hq hne
    refine⟨⟨hz2.block _ ah ah,hz2.block _ ah ah⟩,⟨hz2.size,λi hi hl=>hz2.block i ah hl⟩,rfl,hz2.below HB2.q (λi hi=>by omega) HB2.q.size,?_,?_,pre,x,rfl,H0.q,?_,?_⟩
    .exact(n0 (n0 (n0 (gT.q.1.set1 _) ah) ah) ah).drew
    .exact(n0 (n0 ((n0 gT.q.2.1 ah).set1 _) ah) ah).drew
    .exact(n0 ((n0 (n0 gT.q.2.2.1 ah) ah).set1 _) ah).drew
    .exact((n0 (n0 (n0 gT.q.2.2.2 ah) ah) ah).set1 _).drew
end Yd
