import Derived.Test.YtddiadcpokbpoaaGreatDoorLIk
set_option linter.all false
set_option maxRecDepth 200000
set_option maxHeartbeats 8000000
namespace Yd
open Option renaming none->f,some->t
open Go Go.RowKit Go.Proofs
open Go renaming Addr->z,World->G
open Go.Obj renaming cells->F
open Go.Value renaming pointer->g,slice->A,int->H
open RowKit renaming intOf->y
open Yd renaming hid->u
open _root_ renaming trivial->B,List->E
def jk (J Jx:E (Int × z)->G->Prop)(C:z->Prop)(xs:E (Int × z))(l bh bp:Nat)(h:HC)(w W:G)(rest:E (Int × z))(X:G):Prop:=
 (∃pre,pre++rest=xs/\Q0 J Jx xs W.1.size l pre X)/\A8 C w X/\Bx X bh (aH h)/\Bx X bp #[g (t ⟨bh,0,f⟩)]/\w.1.size<=X.1.size
section
variable {J Jx:E (Int × z)->G->Prop}{C:z->Prop}{D:Nat->Prop}{xs:E (Int × z)}{l bh bp:Nat}{h:HC}{w W:G}
theorem jk.step {rest:E (Int × z)}{pre:E (Int × z)}{X Y:G}{e:Ending}(hX:A8 C w X/\Bx X bh (aH h)/\Bx X bp #[g (t ⟨bh,0,f⟩)]/\w.1.size<=X.1.size)(hR:∀s X,J s X->A8 C w X)(U6:∀s X,Jx s X->A8 C w X)(hs:aa9 J Jx D xs W.1.size l pre X e Y)(hp:pre++rest=xs)
  (hDh:D bh) (hDp:D bp) (Lu:bh<W.1.size) (hbp:bp<W.1.size):jk J Jx C xs l bh bp h w W rest Y:=by
 obtain⟨_,h2,h3,h4⟩:=hX;obtain⟨_,hA,hk⟩:=hs;exact⟨⟨pre,hp,hA⟩,(by rcases hA.2.2 with⟨_,hj⟩|⟨_,p,_,hj⟩;exact hR _ _ hj;exact U6 _ _ hj),hk.bx h2 ⟨hDh,by omega⟩,hk.bx h3 ⟨hDp,by omega⟩,dL h4 hk.1⟩
theorem jk.fn {rest:E (Int × z)}{X:G}(hX:jk J Jx C xs l bh bp h w W rest X):Bx X (W.1.size+2) #[.func (.func 93) #[] #[g (t ⟨W.1.size+1,0,f⟩),g (t ⟨W.1.size,0,f⟩)]]:=by
 obtain⟨⟨pre,hp,a0,a2,a1⟩,_⟩:=hX;exact a2
theorem jk.drew {rest:E (Int × z)}{X:G}(hJ:∀s X Y,J s X->Same (λi=>i<W.1.size\/W.1.size+3<=i) X Y->J s Y)(hJx:∀s X Y,Jx s X->Same (λi=>i<W.1.size\/W.1.size+3<=i) X Y->Jx s Y)
  (hX:jk J Jx C xs l bh bp h w W rest X):jk J Jx C xs l bh bp h w W rest X.drew:=by
 obtain⟨⟨pre,hp,a0,a2,a1⟩,h1,h2,h3,h4⟩:=hX;refine⟨⟨pre,hp,a0.drew,a2.drew,?_⟩,h1,h2.drew,h3.drew,h4⟩;rcases a1 with⟨k1,hj⟩|⟨k1,p,hpx,hj⟩
 .exact .inl ⟨k1.drew,hJ _ _ _ hj (Same.of_below ((Below.refl X.1.size X).drew) (λi _ hi=>hi))⟩
 .exact .inr ⟨k1.drew,p,hpx,hJx _ _ _ hj (Same.of_below ((Below.refl X.1.size X).drew) (λi _ hi=>hi))⟩
end
theorem Nq (h:HC)(es:E EvC)(ds:E aM)(ms:E aN)(qs:E Wa)(scan:EvC->E Sn)(dn:aM->E Int)(mn:aN->E Int)(bh bp:Nat)(D:Nat->Prop)(C:z->Prop)(w W:G)
  (hd:Deep w h es ds ms qs scan dn mn) (hH:Bx W bh (aH h)) (hP:Bx W bp #[g (t ⟨bh,0,f⟩)]) (hrd:A8 C w W) (hsz:w.1.size<=W.1.size) (hDh:D bh) (hDp:D bp)
  (hCE:∀b o,h.e.a=t ⟨b,o,f⟩->∀k,k<h.e.n->∀j,j=0\/j=6\/j=8->C ⟨b,o+k*9+j,f⟩) (hCS:∀e∈es,∀b o,e.sa=t ⟨b,o,f⟩->∀j,j<e.sn->C ⟨b,o+j*3+2,f⟩)
  (hCO:∀b o,h.d.a=t ⟨b,o,f⟩->∀k,k<h.d.n->C ⟨b,o+k*2+1,f⟩) (hCM:∀b o,h.m.a=t ⟨b,o,f⟩->∀k,k<h.m.n->C ⟨b,o+k*4+3,f⟩)
  (hDo:∀i,W.1.size<=i->i<W.1.size+3->D i):
  abe Tryz.prog 92 #[g (t ⟨bp,0,f⟩)] M4 3 D (A8 C w) (aT h es ds ms qs scan dn mn) W:=by
 intro n l J Jx hJ hJx hR U6 hY h0;refine callsIn_wide.2 ?_;have yY:Hid (∀(s:Int)(b o:Nat) rest X,jk J Jx C (aT h es ds ms qs scan dn mn) l bh bp h w W ((s,(⟨b,o,f⟩:z))::rest) X->
   Calls Tryz.prog 93 #[H .i64 s,g (t ⟨b,o,f⟩),g (t ⟨W.1.size+1,0,f⟩),g (t ⟨W.1.size,0,f⟩)] X λe Y=>(∃v,e= .returned v)/\jk J Jx C (aT h es ds ms qs scan dn mn) l bh bp h w W rest Y):=u λs b o rest X hX=>by
  obtain⟨⟨pre,hp,hA⟩,hrd⟩:=hX;refine(callsIn_wide.1 (Nr J Jx D (aT h es ds ms qs scan dn mn) W.1.size l hJ hJx hDo hY pre s b o X ⟨rest,by rw[<-hp];simp⟩ hA 3)).mono ?_;exact λe Y hs=>⟨hs.1,jk.step hrd hR U6 hs (by rw[<-hp];simp) hDh hDp hH.2.2 hP.2.2⟩
 have aep:Hid (∀(v:kZ) rest b o X,jk J Jx C (aT h es ds ms qs scan dn mn) l bh bp h w W (jZ ⟨b,o,f⟩ v++rest) X->C ⟨b,o+1,f⟩->w.cell? ⟨b,o+1,f⟩=t (H .i64 v.k)->
   Calls Tryz.prog 94 #[g (t ⟨b,o,f⟩),g (t ⟨W.1.size+2,0,f⟩)] X λe Y=>(∃v,e= .returned v)/\jk J Jx C (aT h es ds ms qs scan dn mn) l bh bp h w W rest Y):=u λv rest b o X hX hC1 hc1=>by
  obtain⟨⟨pre,hp,hA⟩,hrd⟩:=hX;refine(Yc J Jx D (aT h es ds ms qs scan dn mn) W.1.size l hJ hJx hDo hY pre v b o X ⟨rest,by rw[<-hp];simp⟩ hA (hrd.1 _ _ hC1 hc1)).mono ?_;exact λe Y hs=>⟨hs.1,jk.step hrd hR U6 hs (by rw[<-hp];simp) hDh hDp hH.2.2 hP.2.2⟩
 have hBa:Below W.1.size W (((W.alloc (F #[.func (.yield l) #[] #[]] 155)).alloc (F #[.bool true] 4)).alloc (F #[.func (.func 93) #[] #[g (t ⟨W.1.size+1,0,f⟩),g (t ⟨W.1.size,0,f⟩)]] 156)):=
  (((Below.refl _ _).alloc (aA _) _).alloc au _).alloc (by simp;omega) _
 go_enter Tryz.func92,Tryz.ntmps92;have hP0:=hP.keep hBa;have hH0:=hH.keep hBa;have hcp:=hP0.1;have hch:=hH0.1;have HON:Hid (jk J Jx C (aT h es ds ms qs scan dn mn) l bh bp h w W (aT h es ds ms qs scan dn mn) (((W.alloc (F #[.func (.yield l) #[] #[]] 155)).alloc (F #[.bool true] 4)).alloc (F #[.func (.func 93) #[] #[g (t ⟨W.1.size+1,0,f⟩),g (t ⟨W.1.size,0,f⟩)]] 156))):=by
  refine⟨⟨[],rfl,((Bx.new W _ _).alloc _).alloc _,?_,.inl ⟨?_,hJ _ _ _ h0 (Same.of_below hBa (λi _ hi=>hi))⟩⟩,λa v hCa hc=>?_,hH0,hP0,dL hsz hBa.size⟩
  .have:=Bx.new ((W.alloc (F #[.func (.yield l) #[] #[]] 155)).alloc (F #[.bool true] 4)) #[.func (.func 93) #[] #[g (t ⟨W.1.size+1,0,f⟩),g (t ⟨W.1.size,0,f⟩)]] 156
   simpa using this
  .have:=(Bx.new (W.alloc (F #[.func (.yield l) #[] #[]] 155)) #[.bool true] 4).alloc (F #[.func (.func 93) #[] #[g (t ⟨W.1.size+1,0,f⟩),g (t ⟨W.1.size,0,f⟩)]] 156)
   simpa using this
  .have h1:=hrd a v hCa hc
   exact(hBa.cell (p:=a) (jC h1)).trans h1
 go_wp2_with fail;have Ah:=u hd;have ane:=u hCE;have HCS:=u hCS;have HCO:=u hCO;have HCM:=u hCM;clear hCE hCS hCO hCM hR U6 hrd;clear hBa hP0 hH0 hcp hch hY h0 hd;obtain⟨D7,hrM⟩:∃r,r=xS h.w.a 0 qs++[]:=⟨_,rfl⟩;obtain⟨D8,hrD⟩:∃r,r=tK h.m.a mn 0 ms++D7:=⟨_,rfl⟩;obtain⟨zA,hrE⟩:∃r,r=tN h.d.a dn 0 ds++D8:=⟨_,rfl⟩;have HRE:=u hrE;have yO:=u hrD;have U7:=u hrM;have HJ:=u hJ;have Dq:=u hJx;clear hrE hrD hrM hJ hJx
 go_loopw [22] (λi wr=>∃k:Nat,k<=h.e.n/\i= H .i64 k/\jk J Jx C (aT h es ds ms qs scan dn mn) l bh bp h w W (pW h.e.a scan k (es.drop k)++zA) wr) (λi _=>h.e.n - (y i).toNat)
 case atStart=>exact⟨0,aV _,rfl,by rw[HRE.q,yO.q,U7.q,fw];exact HON.q⟩
 case round=>
  obtain⟨k,hk,rfl,hon⟩:=hrel;have hx2:=hon.2.2.1;have hx3:=hon.2.2.2.1;have hcp:=hx3.1;by_cases hlt:k<h.e.n
  .obtain⟨e,b,o,hx,hab,hc⟩:=Ah.q.1.at_ hlt
   have hce:wr.cell? ⟨bh,4,f⟩=t (A (t ⟨b,o,f⟩) h.e.n h.e.c):=by rw[hx2.1 4,<-hab];rfl
   have HC:=u hc;have HX:=u hx;have HN:=u hon;have HAE:=u hab;have FC:=u (ane.q b o hab k hlt);clear hx2 hx3 hon hc hx hab;go_wp2_with fail;have hdrop:es.drop k=e::es.drop (k+1):=by
    rw[nN (bG.1 HX.q).1,(bG.1 HX.q).2]
   have qY:Hid (jk J Jx C (aT h es ds ms qs scan dn mn) l bh bp h w W ((0,(⟨b,o+k*9+1,f⟩:z))::((if e.kind=1 then [(1,(⟨b,o+k*9+2,f⟩:z))] else if e.kind=2\/e.kind=3 then(2,(⟨b,o+k*9+4,f⟩:z))::jZ ⟨b,o+k*9+5,f⟩ e.v else if e.kind=4 then [(3,(⟨b,o+k*9+7,f⟩:z))] else [])++(su e.sa 0 (scan e)++(pW h.e.a scan (k+1) (es.drop (k+1))++zA)))) wr):=by
    have:=HN.q;rw[hdrop,Td HAE.q] at this;simp only[gF,eG] at this;exact u this
   have HDR:=u (jk.drew HJ.q Dq.q qY.q);have gX:=u (yY.q 0 b (o+k*9+1) _ _ HDR.q);refine aC 0 [(0,1),(1,1),(2,1),(3,1),(4,2)] (λW'=>Bx W' (W.1.size+2) #[.func (.func 93) #[] #[g (t ⟨W.1.size+1,0,f⟩),g (t ⟨W.1.size,0,f⟩)]]) (λ_=>True) av av (HDR.q.fn) B ?_;refine qC ?_;refine bq rfl rfl rfl (λK hK=>?_);go_simp;refine gX.q.mono ?_;rintro e1 Y ⟨⟨r,rfl⟩,fo⟩;have jW:=u fo;refine hK _ _ fo.fn ?_;clear hK K fo gX HDR;refine aJ ?_;have hk0:Y.cell? ⟨b,o+k*9,f⟩=t (H .i64 e.kind):=jW.q.2.1 _ _ (FC.q 0 (.inl rfl)) (HC.q 0 _ rfl);by_cases k1:e.kind=1
   case' pos=>
    rw[k1] at hk0;have aev:=jW;clear jW;have jW:=u (show jk J Jx C (aT h es ds ms qs scan dn mn) l bh bp h w W ((1,(⟨b,o+k*9+2,f⟩:z))::(su e.sa 0 (scan e)++(pW h.e.a scan (k+1) (es.drop (k+1))++zA))) Y by have:=aev.q;rw[ay k1] at this;exact this);clear aev;go_wp2_with fail;have HDR:=u (jk.drew HJ.q Dq.q jW.q);have gX:=u (yY.q 1 b (o+k*9+2) _ _ HDR.q);refine aC 0 [(0,1),(1,1),(2,1),(3,1),(4,2)] (λW'=>Bx W' (W.1.size+2) #[.func (.func 93) #[] #[g (t ⟨W.1.size+1,0,f⟩),g (t ⟨W.1.size,0,f⟩)]]) (λ_=>True) av av (HDR.q.fn) B ?_;refine qC ?_;refine bq rfl rfl rfl (λK hK=>?_);go_simp;refine gX.q.mono ?_;rintro e1 Y ⟨⟨r,rfl⟩,fo⟩;have fT:=u fo;refine hK _ _ fo.fn ?_;clear hK K fo gX HDR;refine aJ ?_
   case' neg=>
    by_cases k2:e.kind=2\/e.kind=3
    case' pos=>
     rcases k2 with kk|kk
     all_goals
      rw[kk] at hk0;have Q5:=u (show jk J Jx C (aT h es ds ms qs scan dn mn) l bh bp h w W ((2,(⟨b,o+k*9+4,f⟩:z))::(jZ ⟨b,o+k*9+5,f⟩ e.v++(su e.sa 0 (scan e)++(pW h.e.a scan (k+1) (es.drop (k+1))++zA)))) Y by have:=jW.q;rw[ak k1,ay ah] at this;simp only[gF,eG] at this;exact this);clear jW;go_wp2_with fail;have HDR:=u (jk.drew HJ.q Dq.q Q5.q);have gX:=u (yY.q 2 b (o+k*9+4) _ _ HDR.q);refine aC 0 [(0,1),(1,1),(2,1),(3,1),(4,2)] (λW'=>Bx W' (W.1.size+2) #[.func (.func 93) #[] #[g (t ⟨W.1.size+1,0,f⟩),g (t ⟨W.1.size,0,f⟩)]]) (λ_=>True) av av (HDR.q.fn) B ?_;refine qC ?_;refine bq rfl rfl rfl (λK hK=>?_);go_simp;refine gX.q.mono ?_;rintro e1 Y ⟨⟨r,rfl⟩,fo⟩;have ng:=u fo;refine hK _ _ fo.fn ?_;clear hK K fo gX HDR;refine aJ ?_;have Ih:=u (aep.q e.v _ b (o+k*9+5) Y ng.q (FC.q 6 (.inr (.inl rfl))) (HC.q 6 _ rfl));go_wp2_with fail;refine Ih.q.mono ?_;rintro e2 Y2 ⟨⟨r2,rfl⟩,Ns⟩;obtain⟨Y,rfl⟩:∃Y,Y=Y2:=⟨_,rfl⟩;have fT:=u Ns;clear Ns Ih
    case' neg=>
     by_cases k4:e.kind=4
     case' pos=>
      rw[k4] at hk0;have Q5:=u (show jk J Jx C (aT h es ds ms qs scan dn mn) l bh bp h w W ((3,(⟨b,o+k*9+7,f⟩:z))::(su e.sa 0 (scan e)++(pW h.e.a scan (k+1) (es.drop (k+1))++zA))) Y by have:=jW.q;rw[ak k1,ak ah,ay k4] at this;exact this);clear jW;go_wp2_with fail;have HDR:=u (jk.drew HJ.q Dq.q Q5.q);have gX:=u (yY.q 3 b (o+k*9+7) _ _ HDR.q);refine aC 0 [(0,1),(1,1),(2,1),(3,1),(4,2)] (λW'=>Bx W' (W.1.size+2) #[.func (.func 93) #[] #[g (t ⟨W.1.size+1,0,f⟩),g (t ⟨W.1.size,0,f⟩)]]) (λ_=>True) av av (HDR.q.fn) B ?_;refine qC ?_;refine bq rfl rfl rfl (λK hK=>?_);go_simp;refine gX.q.mono ?_;rintro e1 Y ⟨⟨r,rfl⟩,fo⟩;have fT:=u fo;refine hK _ _ fo.fn ?_;clear hK K fo gX HDR;refine aJ ?_
     case' neg=>
      have fT:=u (show jk J Jx C (aT h es ds ms qs scan dn mn) l bh bp h w W (su e.sa 0 (scan e)++(pW h.e.a scan (k+1) (es.drop (k+1))++zA)) Y by have:=jW.q;rw[ak k1,ak ah,ak k4] at this;exact this);clear jW;have n1:(e.kind==1)=false:=aR.2 k1;have n2:(e.kind==2)=false:=aR.2 ah;have n3:(e.kind==3)=false:=aR.2 ah;have n4:(e.kind==4)=false:=aR.2 k4
   all_goals
    have hsl:Y.cell? ⟨b,o+k*9+8,f⟩=t (A e.sa e.sn e.sc):=fT.q.2.1 _ _ (FC.q 8 (.inr (.inr rfl))) (HC.q 8 _ rfl);go_wp2_with fail;clear hsl
    go_loopw [72] (λi wr=>∃j:Nat,j<=e.sn/\i= H .i64 j/\jk J Jx C (aT h es ds ms qs scan dn mn) l bh bp h w W (su e.sa j ((scan e).drop j)++(pW h.e.a scan (k+1) (es.drop (k+1))++zA)) wr) (λi _=>e.sn - (y i).toNat)
    case atStart=>exact⟨0,aV _,rfl,fT.q⟩
    case round=>
     obtain⟨j,hj,rfl,hon⟩:=hrel;have mP:=u hon;clear hon;have FD:=u (Ah.q.2.2.2.2.1 e (bQ HX.q));have hle:=FD.q.le;by_cases hjl:j<e.sn
     .obtain⟨s2,b2,o2,hx2,FE,hc2⟩:=FD.q.at_ hjl
      have eY:=u hc2;have bL:=u hx2;have qZ:=u FE;clear hc2 hx2 FE;have zJ:(scan e).drop j=s2::(scan e).drop (j+1):=by
       rw[nN (bG.1 bL.q).1,(bG.1 bL.q).2]
      have iE:Hid (jk J Jx C (aT h es ds ms qs scan dn mn) l bh bp h w W ((2,(⟨b2,o2+j*3,f⟩:z))::(jZ ⟨b2,o2+j*3+1,f⟩ s2.v++(su e.sa (j+1) ((scan e).drop (j+1))++(pW h.e.a scan (k+1) (es.drop (k+1))++zA)))) wr):=by
       have:=mP.q;rw[zJ,U8 qZ.q] at this;simp only[gF,eG] at this;exact u this
      clear zJ;go_wp2_with fail;have HDR:=u (jk.drew HJ.q Dq.q iE.q);have gX:=u (yY.q 2 b2 (o2+j*3) _ _ HDR.q);refine aC 0 [(0,1),(1,1),(2,1),(3,1),(4,1),(5,1),(6,1),(7,1),(8,2)] (λW'=>Bx W' (W.1.size+2) #[.func (.func 93) #[] #[g (t ⟨W.1.size+1,0,f⟩),g (t ⟨W.1.size,0,f⟩)]]/\W'.cell? ⟨b,o+k*9+8,f⟩=t (A (t ⟨b2,o2,f⟩) e.sn e.sc)) (λ_=>True) av av (⟨HDR.q.fn,HDR.q.2.1 _ _ (FC.q 8 (.inr (.inr rfl))) (by rw[<-qZ.q];exact HC.q 8 _ rfl)⟩) B ?_;refine qC ?_;refine bq rfl rfl rfl (λK hK=>?_);go_simp;refine gX.q.mono ?_;rintro e1 Y ⟨⟨r,rfl⟩,fo⟩;have HS2:=u fo;refine hK _ _ ⟨fo.fn,fo.2.1 _ _ (FC.q 8 (.inr (.inr rfl))) (by rw[<-qZ.q];exact HC.q 8 _ rfl)⟩ ?_;clear hK K fo gX HDR;refine aJ ?_;have hsl2:Y.cell? ⟨b,o+k*9+8,f⟩=t (A (t ⟨b2,o2,f⟩) e.sn e.sc):=HS2.q.2.1 _ _ (FC.q 8 (.inr (.inr rfl))) (by rw[<-qZ.q];exact HC.q 8 _ rfl);have Ih:=u (aep.q s2.v _ b2 (o2+j*3+1) Y HS2.q (HCS.q e (bQ HX.q) b2 o2 qZ.q j hjl) (eY.q 2 _ rfl));go_wp2_with fail;refine Ih.q.mono ?_;rintro e2 Y2 ⟨⟨r2,rfl⟩,Ns⟩;have jD:=u Ns;clear Ns hsl2 Ih;go_wp2_with fail;go_roundw
      case rel=>exact⟨j+1,by omega,by go_num,jD.q⟩
      case measure=>simp[y];omega
     .have hjn:j=e.sn:=by omega
      have hlen:=FD.q.len;have Nt:Hid (jk J Jx C (aT h es ds ms qs scan dn mn) l bh bp h w W (pW h.e.a scan (k+1) (es.drop (k+1))++zA) wr):=by
       have:=mP.q;rw[Ay ah] at this;exact u this
      have hle2:=Ah.q.1.le;go_wp2_with fail;go_roundw
      case rel=>exact⟨k+1,by omega,by go_num,Nt.q⟩
      case measure=>simp[y];omega
  .have Te:=(Ah.q.1).len
   have yP:Hid (jk J Jx C (aT h es ds ms qs scan dn mn) l bh bp h w W zA wr):=by
    have:=hon;rw[Ay ah] at this;exact u this
   have hcp:wr.cell? ⟨bp,0,f⟩=t (g (t ⟨bh,0,f⟩)):=yP.q.2.2.2.1.1 0;have hch:wr.cell? ⟨bh,5,f⟩=t (h.d.v):=yP.q.2.2.1.1 5;clear hx2 hx3 hon;go_wp2_with fail;clear hcp hch;rw[HRE.q] at yP
   go_loopw [100] (λi wr=>∃k:Nat,k<=h.d.n/\i= H .i64 k/\jk J Jx C (aT h es ds ms qs scan dn mn) l bh bp h w W (tN h.d.a dn k (ds.drop k)++D8) wr) (λi _=>h.d.n - (y i).toNat)
   case atStart=>exact⟨0,aV _,rfl,yP.q⟩
   case round=>
    obtain⟨k,hk,rfl,hon⟩:=hrel;have HN:=u hon;clear hon;have hle0:=(Ah.q.2.1).le;by_cases hlt:k<h.d.n
    .obtain⟨x,b,o,hx,hab,hc⟩:=(Ah.q.2.1).at_ hlt
     have HC:=u hc;have HX:=u hx;have qZ:=u hab;clear hx hab hc;have hdrop:ds.drop k=x::ds.drop (k+1):=by
      rw[nN (bG.1 HX.q).1,(bG.1 HX.q).2]
     have hcp:wr.cell? ⟨bp,0,f⟩=t (g (t ⟨bh,0,f⟩)):=HN.q.2.2.2.1.1 0;have hch:wr.cell? ⟨bh,5,f⟩=t (A (t ⟨b,o,f⟩) h.d.n h.d.c):=(HN.q.2.2.1.1 5).trans (by rw[<-qZ.q];rfl);have qY:Hid (jk J Jx C (aT h es ds ms qs scan dn mn) l bh bp h w W ((2,(⟨b,o+k*2,f⟩:z))::(nO x.sa 0 (dn x)++(tN h.d.a dn (k+1) (ds.drop (k+1))++D8))) wr):=by
      have:=HN.q;rw[hdrop,Tf qZ.q] at this;simp only[gF,eG] at this;exact u this
     clear hdrop;go_wp2_with fail;clear hcp hch;have HDR:=u (jk.drew HJ.q Dq.q qY.q);have gX:=u (yY.q 2 b (o+k*2) _ _ HDR.q);refine aC 0 [(0,1),(1,1),(2,1),(3,1),(4,1),(5,1),(6,1),(7,1),(8,2)] (λW'=>Bx W' (W.1.size+2) #[.func (.func 93) #[] #[g (t ⟨W.1.size+1,0,f⟩),g (t ⟨W.1.size,0,f⟩)]]/\W'.cell? ⟨bp,0,f⟩=t (g (t ⟨bh,0,f⟩))/\W'.cell? ⟨bh,5,f⟩=t (A (t ⟨b,o,f⟩) h.d.n h.d.c)) (λ_=>True) av av (⟨HDR.q.fn,(HDR.q.2.2.2.1.1 0),((HDR.q.2.2.1.1 5).trans (by rw[<-qZ.q];rfl))⟩) B ?_;refine qC ?_;refine bq rfl rfl rfl (λK hK=>?_);go_simp;refine gX.q.mono ?_;rintro e1 Y ⟨⟨r,rfl⟩,fo⟩;have jW:=u fo;refine hK _ _ ⟨fo.fn,(fo.2.2.2.1.1 0),((fo.2.2.1.1 5).trans (by rw[<-qZ.q];rfl))⟩ ?_;clear hK K fo gX HDR;refine aJ ?_;have hcp:Y.cell? ⟨bp,0,f⟩=t (g (t ⟨bh,0,f⟩)):=jW.q.2.2.2.1.1 0;have hch:Y.cell? ⟨bh,5,f⟩=t (A (t ⟨b,o,f⟩) h.d.n h.d.c):=(jW.q.2.2.1.1 5).trans (by rw[<-qZ.q];rfl);have hsl:Y.cell? ⟨b,o+k*2+1,f⟩=t (A x.sa x.sn x.sc):=jW.q.2.1 _ _ (HCO.q b o qZ.q k hlt) (HC.q 1 _ rfl);go_wp2_with fail;clear hcp hch hsl
     go_loopw [121] (λi wr=>∃j:Nat,j<=x.sn/\i= H .i64 j/\jk J Jx C (aT h es ds ms qs scan dn mn) l bh bp h w W (nO x.sa j ((dn x).drop j)++(tN h.d.a dn (k+1) (ds.drop (k+1))++D8)) wr) (λi _=>x.sn - (y i).toNat)
     case atStart=>exact⟨0,aV _,rfl,jW.q⟩
     case round=>
      obtain⟨j,hj,rfl,hon⟩:=hrel;have mP:=u hon;clear hon;have FD:=u (Ah.q.2.2.2.2.2.1 x (bQ HX.q));have hle1:=FD.q.le;by_cases hjl:j<x.sn
      .obtain⟨d,b2,o2,hx2,FE,hc2⟩:=FD.q.at_ hjl
       have eY:=u hc2;have bL:=u hx2;have I7:=u FE;clear hc2 hx2 FE;have zJ:(dn x).drop j=d::(dn x).drop (j+1):=by
        rw[nN (bG.1 bL.q).1,(bG.1 bL.q).2]
       have iE:Hid (jk J Jx C (aT h es ds ms qs scan dn mn) l bh bp h w W ((0,(⟨b2,o2+j,f⟩:z))::(nO x.sa (j+1) ((dn x).drop (j+1))++(tN h.d.a dn (k+1) (ds.drop (k+1))++D8))) wr):=by
        have:=mP.q;rw[zJ,Lv I7.q] at this;simp only[gF] at this;exact u this
       clear zJ;go_wp2_with fail;have HDR:=u (jk.drew HJ.q Dq.q iE.q);have gX:=u (yY.q 0 b2 (o2+j) _ _ HDR.q);refine aC 0 [(0,1),(1,1),(2,1),(3,1),(4,1),(5,1),(6,1),(7,1),(8,1),(9,1),(10,1),(11,2)] (λW'=>Bx W' (W.1.size+2) #[.func (.func 93) #[] #[g (t ⟨W.1.size+1,0,f⟩),g (t ⟨W.1.size,0,f⟩)]]/\W'.cell? ⟨b,o+k*2+1,f⟩=t (A (t ⟨b2,o2,f⟩) x.sn x.sc)/\W'.cell? ⟨bp,0,f⟩=t (g (t ⟨bh,0,f⟩))/\W'.cell? ⟨bh,5,f⟩=t (A (t ⟨b,o,f⟩) h.d.n h.d.c)) (λ_=>True) av av (⟨HDR.q.fn,HDR.q.2.1 _ _ (HCO.q b o qZ.q k hlt) (by rw[<-I7.q];exact HC.q 1 _ rfl),(HDR.q.2.2.2.1.1 0),((HDR.q.2.2.1.1 5).trans (by rw[<-qZ.q];rfl))⟩) B ?_;refine qC ?_;refine bq rfl rfl rfl (λK hK=>?_);go_simp;refine gX.q.mono ?_;rintro e1 Y ⟨⟨r,rfl⟩,fo⟩;have HS2:=u fo;refine hK _ _ ⟨fo.fn,fo.2.1 _ _ (HCO.q b o qZ.q k hlt) (by rw[<-I7.q];exact HC.q 1 _ rfl),(fo.2.2.2.1.1 0),((fo.2.2.1.1 5).trans (by rw[<-qZ.q];rfl))⟩ ?_;clear hK K fo gX HDR;refine aJ ?_;go_wp2_with fail;go_roundw
       case rel=>exact⟨j+1,by omega,by go_num,HS2.q⟩
       case measure=>simp[y];omega
      .have hlen1:=FD.q.len
       have Nt:Hid (jk J Jx C (aT h es ds ms qs scan dn mn) l bh bp h w W (tN h.d.a dn (k+1) (ds.drop (k+1))++D8) wr):=by
        have:=mP.q;rw[Ay ah] at this;exact u this
       go_wp2_with fail;go_roundw
       case rel=>exact⟨k+1,by omega,by go_num,Nt.q⟩
       case measure=>simp[y];omega
    .have Te:=(Ah.q.2.1).len
     have yP:Hid (jk J Jx C (aT h es ds ms qs scan dn mn) l bh bp h w W D8 wr):=by
      have:=HN.q;rw[Ay ah] at this;exact u this
     have hcp:wr.cell? ⟨bp,0,f⟩=t (g (t ⟨bh,0,f⟩)):=yP.q.2.2.2.1.1 0;have hch:wr.cell? ⟨bh,6,f⟩=t (h.m.v):=yP.q.2.2.1.1 6;go_wp2_with fail;clear hcp hch;rw[yO.q] at yP
     go_loopw [143] (λi wr=>∃k:Nat,k<=h.m.n/\i= H .i64 k/\jk J Jx C (aT h es ds ms qs scan dn mn) l bh bp h w W (tK h.m.a mn k (ms.drop k)++D7) wr) (λi _=>h.m.n - (y i).toNat)
     case atStart=>exact⟨0,aV _,rfl,yP.q⟩
     case round=>
      obtain⟨k,hk,rfl,hon⟩:=hrel;have HN:=u hon;clear hon;have hle0:=(Ah.q.2.2.1).le;by_cases hlt:k<h.m.n
      .obtain⟨x,b,o,hx,hab,hc⟩:=(Ah.q.2.2.1).at_ hlt
       have HC:=u hc;have HX:=u hx;have qZ:=u hab;clear hx hab hc;have hdrop:ms.drop k=x::ms.drop (k+1):=by
        rw[nN (bG.1 HX.q).1,(bG.1 HX.q).2]
       have hcp:wr.cell? ⟨bp,0,f⟩=t (g (t ⟨bh,0,f⟩)):=HN.q.2.2.2.1.1 0;have hch:wr.cell? ⟨bh,6,f⟩=t (A (t ⟨b,o,f⟩) h.m.n h.m.c):=(HN.q.2.2.1.1 6).trans (by rw[<-qZ.q];rfl);have qY:Hid (jk J Jx C (aT h es ds ms qs scan dn mn) l bh bp h w W ((3,(⟨b,o+k*4,f⟩:z))::((2,(⟨b,o+k*4+1,f⟩:z))::(nO x.sa 0 (mn x)++(tK h.m.a mn (k+1) (ms.drop (k+1))++D7)))) wr):=by
        have:=HN.q;rw[hdrop,Tg qZ.q] at this;simp only[gF,eG] at this;exact u this
       clear hdrop;go_wp2_with fail;clear hcp hch;have HDR:=u (jk.drew HJ.q Dq.q qY.q);have gX:=u (yY.q 3 b (o+k*4) _ _ HDR.q);refine aC 0 [(0,1),(1,1),(2,1),(3,1),(4,2)] (λW'=>Bx W' (W.1.size+2) #[.func (.func 93) #[] #[g (t ⟨W.1.size+1,0,f⟩),g (t ⟨W.1.size,0,f⟩)]]) (λ_=>True) av av (HDR.q.fn) B ?_;refine qC ?_;refine bq rfl rfl rfl (λK hK=>?_);go_simp;refine gX.q.mono ?_;rintro e1 Y ⟨⟨r,rfl⟩,fo⟩;have jW:=u fo;refine hK _ _ fo.fn ?_;clear hK K fo gX HDR;refine aJ ?_;go_wp2_with fail;have HDR:=u (jk.drew HJ.q Dq.q jW.q);have gX:=u (yY.q 2 b (o+k*4+1) _ _ HDR.q);refine aC 0 [(0,1),(1,1),(2,1),(3,1),(4,2)] (λW'=>Bx W' (W.1.size+2) #[.func (.func 93) #[] #[g (t ⟨W.1.size+1,0,f⟩),g (t ⟨W.1.size,0,f⟩)]]) (λ_=>True) av av (HDR.q.fn) B ?_;refine qC ?_;refine bq rfl rfl rfl (λK hK=>?_);go_simp;refine gX.q.mono ?_;rintro e1 Y ⟨⟨r,rfl⟩,fo⟩;have fT:=u fo;refine hK _ _ fo.fn ?_;clear hK K fo gX HDR;refine aJ ?_;have hsl:Y.cell? ⟨b,o+k*4+3,f⟩=t (A x.sa x.sn x.sc):=fT.q.2.1 _ _ (HCM.q b o qZ.q k hlt) (HC.q 3 _ rfl);go_wp2_with fail;clear hsl
       go_loopw [167] (λi wr=>∃j:Nat,j<=x.sn/\i= H .i64 j/\jk J Jx C (aT h es ds ms qs scan dn mn) l bh bp h w W (nO x.sa j ((mn x).drop j)++(tK h.m.a mn (k+1) (ms.drop (k+1))++D7)) wr) (λi _=>x.sn - (y i).toNat)
       case atStart=>exact⟨0,aV _,rfl,fT.q⟩
       case round=>
        obtain⟨j,hj,rfl,hon⟩:=hrel;have mP:=u hon;clear hon;have FD:=u (Ah.q.2.2.2.2.2.2 x (bQ HX.q));have hle1:=FD.q.le;by_cases hjl:j<x.sn
        .obtain⟨d,b2,o2,hx2,FE,hc2⟩:=FD.q.at_ hjl
         have eY:=u hc2;have bL:=u hx2;have I7:=u FE;clear hc2 hx2 FE;have zJ:(mn x).drop j=d::(mn x).drop (j+1):=by
          rw[nN (bG.1 bL.q).1,(bG.1 bL.q).2]
         have iE:Hid (jk J Jx C (aT h es ds ms qs scan dn mn) l bh bp h w W ((0,(⟨b2,o2+j,f⟩:z))::(nO x.sa (j+1) ((mn x).drop (j+1))++(tK h.m.a mn (k+1) (ms.drop (k+1))++D7))) wr):=by
          have:=mP.q;rw[zJ,Lv I7.q] at this;simp only[gF] at this;exact u this
         clear zJ;go_wp2_with fail;have HDR:=u (jk.drew HJ.q Dq.q iE.q);have gX:=u (yY.q 0 b2 (o2+j) _ _ HDR.q);refine aC 0 [(0,1),(1,1),(2,1),(3,1),(4,1),(5,1),(6,1),(7,2)] (λW'=>Bx W' (W.1.size+2) #[.func (.func 93) #[] #[g (t ⟨W.1.size+1,0,f⟩),g (t ⟨W.1.size,0,f⟩)]]/\W'.cell? ⟨b,o+k*4+3,f⟩=t (A (t ⟨b2,o2,f⟩) x.sn x.sc)) (λ_=>True) av av (⟨HDR.q.fn,HDR.q.2.1 _ _ (HCM.q b o qZ.q k hlt) (by rw[<-I7.q];exact HC.q 3 _ rfl)⟩) B ?_;refine qC ?_;refine bq rfl rfl rfl (λK hK=>?_);go_simp;refine gX.q.mono ?_;rintro e1 Y ⟨⟨r,rfl⟩,fo⟩;have HS2:=u fo;refine hK _ _ ⟨fo.fn,fo.2.1 _ _ (HCM.q b o qZ.q k hlt) (by rw[<-I7.q];exact HC.q 3 _ rfl)⟩ ?_;clear hK K fo gX HDR;refine aJ ?_;go_wp2_with fail;go_roundw
         case rel=>exact⟨j+1,by omega,by go_num,HS2.q⟩
         case measure=>simp[y];omega
        .have hlen1:=FD.q.len
         have Nt:Hid (jk J Jx C (aT h es ds ms qs scan dn mn) l bh bp h w W (tK h.m.a mn (k+1) (ms.drop (k+1))++D7) wr):=by
          have:=mP.q;rw[Ay ah] at this;exact u this
         go_wp2_with fail;go_roundw
         case rel=>exact⟨k+1,by omega,by go_num,Nt.q⟩
         case measure=>simp[y];omega
      .have Te:=(Ah.q.2.2.1).len
       have yP:Hid (jk J Jx C (aT h es ds ms qs scan dn mn) l bh bp h w W D7 wr):=by
        have:=HN.q;rw[Ay ah] at this;exact u this
       have hcp:wr.cell? ⟨bp,0,f⟩=t (g (t ⟨bh,0,f⟩)):=yP.q.2.2.2.1.1 0;have hch:wr.cell? ⟨bh,7,f⟩=t (h.w.v):=yP.q.2.2.1.1 7;go_wp2_with fail;clear hcp hch;rw[U7.q] at yP
       go_loopw [185] (λi wr=>∃k:Nat,k<=h.w.n/\i= H .i64 k/\jk J Jx C (aT h es ds ms qs scan dn mn) l bh bp h w W (xS h.w.a k (qs.drop k)++[]) wr) (λi _=>h.w.n - (y i).toNat)
       case atStart=>exact⟨0,aV _,rfl,yP.q⟩
       case round=>
        obtain⟨k,hk,rfl,hon⟩:=hrel;have HN:=u hon;clear hon;have hle0:=(Ah.q.2.2.2.1).le;by_cases hlt:k<h.w.n
        .obtain⟨x,b,o,hx,hab,hc⟩:=(Ah.q.2.2.2.1).at_ hlt
         have HC:=u hc;have HX:=u hx;have qZ:=u hab;clear hx hab hc;have hdrop:qs.drop k=x::qs.drop (k+1):=by
          rw[nN (bG.1 HX.q).1,(bG.1 HX.q).2]
         have hcp:wr.cell? ⟨bp,0,f⟩=t (g (t ⟨bh,0,f⟩)):=HN.q.2.2.2.1.1 0;have hch:wr.cell? ⟨bh,7,f⟩=t (A (t ⟨b,o,f⟩) h.w.n h.w.c):=(HN.q.2.2.1.1 7).trans (by rw[<-qZ.q];rfl);have qY:Hid (jk J Jx C (aT h es ds ms qs scan dn mn) l bh bp h w W ((1,(⟨b,o+k*2,f⟩:z))::(xS h.w.a (k+1) (qs.drop (k+1))++[])) wr):=by
          have:=HN.q;rw[hdrop,Ti qZ.q] at this;simp only[gF] at this;exact u this
         clear hdrop;go_wp2_with fail;clear hcp hch;have HDR:=u (jk.drew HJ.q Dq.q qY.q);have gX:=u (yY.q 1 b (o+k*2) _ _ HDR.q);refine aC 0 [(0,1),(1,1),(2,1),(3,1),(4,1),(5,1),(6,1),(7,1),(8,2)] (λW'=>Bx W' (W.1.size+2) #[.func (.func 93) #[] #[g (t ⟨W.1.size+1,0,f⟩),g (t ⟨W.1.size,0,f⟩)]]/\W'.cell? ⟨bp,0,f⟩=t (g (t ⟨bh,0,f⟩))/\W'.cell? ⟨bh,7,f⟩=t (A (t ⟨b,o,f⟩) h.w.n h.w.c)) (λ_=>True) av av (⟨HDR.q.fn,(HDR.q.2.2.2.1.1 0),((HDR.q.2.2.1.1 7).trans (by rw[<-qZ.q];rfl))⟩) B ?_;refine qC ?_;refine bq rfl rfl rfl (λK hK=>?_);go_simp;refine gX.q.mono ?_;rintro e1 Y ⟨⟨r,rfl⟩,fo⟩;have jW:=u fo;refine hK _ _ ⟨fo.fn,(fo.2.2.2.1.1 0),((fo.2.2.1.1 7).trans (by rw[<-qZ.q];rfl))⟩ ?_;clear hK K fo gX HDR;refine aJ ?_;go_wp2_with fail;go_roundw
         case rel=>exact⟨k+1,by omega,by go_num,jW.q⟩
         case measure=>simp[y];omega
        .have Te:=(Ah.q.2.2.2.1).len
         have yP:Hid (jk J Jx C (aT h es ds ms qs scan dn mn) l bh bp h w W [] wr):=by
          have:=HN.q;rw[Ay ah] at this;exact u this
         go_wp2_with fail
         go_end0
         obtain⟨⟨pre,hp,a0,a2,a1⟩,_⟩:=yP.q;rw[fw] at hp;refine⟨_,rfl,?_⟩;rcases a1 with⟨_,hj⟩|⟨_,p,hpx,hj⟩
         .exact .inl (hp▸hj)
         .exact .inr ⟨p,hpx,hj⟩
end Yd
