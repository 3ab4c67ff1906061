import Derived.Test.YtpeojoobplpcoaaGreatDoorPSpC
set_option linter.all false
set_option maxRecDepth 200000
set_option maxHeartbeats 8000000
namespace Yd
open Option renaming none->f,some->t
open Go Go.RowKit Go.Proofs
open Go renaming Addr->z,World->G
open Go.Obj renaming cells->F
open Go.Value renaming pointer->g,slice->A,int->H
open RowKit renaming intOf->y
open Yd renaming hid->u
open _root_ renaming trivial->B,List->E
def jy (J Jx:E (Int × z)->G->Prop)(C:z->Prop)(xs:E (Int × z))(l bh bp:Nat)(h:HC)(w W:G)(rest:E (Int × z))(X:G):Prop:=
 (∃pre,pre++rest=xs/\TV J Jx xs W.1.size l pre X)/\sW C w X/\Bx X bh (aD h)/\Bx X bp #[g (t ⟨bh,0,f⟩)]/\w.1.size<=X.1.size
section
variable {J Jx:E (Int × z)->G->Prop}{C:z->Prop}{D:Nat->Prop}{xs:E (Int × z)}{l bh bp:Nat}{h:HC}{w W:G}
theorem jy.step {rest:E (Int × z)}{pre:E (Int × z)}{X Y:G}{e:Ending}(hX:sW C w X/\Bx X bh (aD h)/\Bx X bp #[g (t ⟨bh,0,f⟩)]/\w.1.size<=X.1.size)(hR:∀s X,J s X->sW C w X)(Zb:∀s X,Jx s X->sW C w X)(hs:adY J Jx D xs W.1.size l pre X e Y)(hp:pre++rest=xs)
  (TA:D bh) (TB:D bp) (hbh:bh<W.1.size) (hbp:bp<W.1.size):jy J Jx C xs l bh bp h w W rest Y:=by
 obtain⟨_,h2,h3,h4⟩:=hX;obtain⟨_,hA,hk⟩:=hs;exact⟨⟨pre,hp,hA⟩,(by rcases hA.2.2 with⟨_,hj⟩|⟨_,p,_,hj⟩;exact hR _ _ hj;exact Zb _ _ hj),hk.bx h2 ⟨TA,by omega⟩,hk.bx h3 ⟨TB,by omega⟩,bX h4 hk.1⟩
theorem jy.fn {rest:E (Int × z)}{X:G}(hX:jy J Jx C xs l bh bp h w W rest X):Bx X (W.1.size+2) #[.func (.func 85) #[] #[g (t ⟨W.1.size+1,0,f⟩),g (t ⟨W.1.size,0,f⟩)]]:=by
 obtain⟨⟨pre,hp,a0,a2,a1⟩,_⟩:=hX;exact a2
theorem jy.drew {rest:E (Int × z)}{X:G}(hJ:∀s X Y,J s X->Same (λi=>i<W.1.size\/W.1.size+3<=i) X Y->J s Y)(hJx:∀s X Y,Jx s X->Same (λi=>i<W.1.size\/W.1.size+3<=i) X Y->Jx s Y)
  (hX:jy J Jx C xs l bh bp h w W rest X):jy J Jx C xs l bh bp h w W rest X.drew:=by
 obtain⟨⟨pre,hp,a0,a2,a1⟩,h1,h2,h3,h4⟩:=hX;refine⟨⟨pre,hp,a0.drew,a2.drew,?_⟩,h1,h2.drew,h3.drew,h4⟩;rcases a1 with⟨k1,hj⟩|⟨k1,p,hpx,hj⟩
 .exact .inl ⟨k1.drew,hJ _ _ _ hj (Same.of_below ((Below.refl X.1.size X).drew) (λi _ hi=>hi))⟩
 .exact .inr ⟨k1.drew,p,hpx,hJx _ _ _ hj (Same.of_below ((Below.refl X.1.size X).drew) (λi _ hi=>hi))⟩
end
theorem F7 (h:HC)(es:E EvC)(ds:E aM)(ms:E aN)(qs:E Wa)(scan:EvC->E Sn)(dn:aM->E Int)(mn:aN->E Int)(bh bp:Nat)(D:Nat->Prop)(C:z->Prop)(w W:G)
  (hd:Deep w h es ds ms qs scan dn mn) (hH:Bx W bh (aD h)) (hP:Bx W bp #[g (t ⟨bh,0,f⟩)]) (hrd:sW C w W) (hsz:w.1.size<=W.1.size) (TA:D bh) (TB:D bp)
  (hCE:∀b o,h.e.a=t ⟨b,o,f⟩->∀k,k<h.e.n->∀j,j=0\/j=6\/j=8->C ⟨b,o+k*9+j,f⟩) (hCS:∀e∈es,∀b o,e.sa=t ⟨b,o,f⟩->∀j,j<e.sn->C ⟨b,o+j*3+2,f⟩)
  (hCO:∀b o,h.d.a=t ⟨b,o,f⟩->∀k,k<h.d.n->C ⟨b,o+k*2+1,f⟩) (hCM:∀b o,h.m.a=t ⟨b,o,f⟩->∀k,k<h.m.n->C ⟨b,o+k*4+3,f⟩)
  (R9:∀i,W.1.size<=i->i<W.1.size+3->D i):
  adX Tryz.prog 84 #[g (t ⟨bp,0,f⟩)] NQ 3 D (sW C w) (aT h es ds ms qs scan dn mn) W:=by
 intro n l J Jx hJ hJx hR Zb hY h0;refine callsIn_wide.2 ?_;have yQ:Hid (∀(s:Int)(b o:Nat) rest X,jy J Jx C (aT h es ds ms qs scan dn mn) l bh bp h w W ((s,(⟨b,o,f⟩:z))::rest) X->
   Calls Tryz.prog 85 #[H .i64 s,g (t ⟨b,o,f⟩),g (t ⟨W.1.size+1,0,f⟩),g (t ⟨W.1.size,0,f⟩)] X λe Y=>(∃v,e= .returned v)/\jy J Jx C (aT h es ds ms qs scan dn mn) l bh bp h w W rest Y):=u λs b o rest X hX=>by
  obtain⟨⟨pre,hp,hA⟩,hrd⟩:=hX;refine(callsIn_wide.1 (Ra J Jx D (aT h es ds ms qs scan dn mn) W.1.size l hJ hJx R9 hY pre s b o X ⟨rest,by rw[<-hp];simp⟩ hA 3)).mono ?_;exact λe Y hs=>⟨hs.1,jy.step hrd hR Zb hs (by rw[<-hp];simp) TA TB hH.2.2 hP.2.2⟩
 have ajb:Hid (∀(v:lK) rest b o X,jy J Jx C (aT h es ds ms qs scan dn mn) l bh bp h w W (kr ⟨b,o,f⟩ v++rest) X->C ⟨b,o+1,f⟩->w.cell? ⟨b,o+1,f⟩=t (H .i64 v.k)->
   Calls Tryz.prog 86 #[g (t ⟨b,o,f⟩),g (t ⟨W.1.size+2,0,f⟩)] X λe Y=>(∃v,e= .returned v)/\jy J Jx C (aT h es ds ms qs scan dn mn) l bh bp h w W rest Y):=u λv rest b o X hX hC1 hc1=>by
  obtain⟨⟨pre,hp,hA⟩,hrd⟩:=hX;refine(ab2 J Jx D (aT h es ds ms qs scan dn mn) W.1.size l hJ hJx R9 hY pre v b o X ⟨rest,by rw[<-hp];simp⟩ hA (hrd.1 _ _ hC1 hc1)).mono ?_;exact λe Y hs=>⟨hs.1,jy.step hrd hR Zb hs (by rw[<-hp];simp) TA TB hH.2.2 hP.2.2⟩
 have hBa:Below W.1.size W (((W.alloc (F #[.func (.yield l) #[] #[]] 163)).alloc (F #[.bool true] 4)).alloc (F #[.func (.func 85) #[] #[g (t ⟨W.1.size+1,0,f⟩),g (t ⟨W.1.size,0,f⟩)]] 164)):=
  (((Below.refl _ _).alloc (aB _) _).alloc ak _).alloc (by simp;omega) _
 go_enter Tryz.func84,Tryz.ntmps84;have hP0:=hP.keep hBa;have hH0:=hH.keep hBa;have hcp:=hP0.1;have hch:=hH0.1;have zS:Hid (jy J Jx C (aT h es ds ms qs scan dn mn) l bh bp h w W (aT h es ds ms qs scan dn mn) (((W.alloc (F #[.func (.yield l) #[] #[]] 163)).alloc (F #[.bool true] 4)).alloc (F #[.func (.func 85) #[] #[g (t ⟨W.1.size+1,0,f⟩),g (t ⟨W.1.size,0,f⟩)]] 164))):=by
  refine⟨⟨[],rfl,((Bx.new W _ _).alloc _).alloc _,?_,.inl ⟨?_,hJ _ _ _ h0 (Same.of_below hBa (λi _ hi=>hi))⟩⟩,λa v hCa hc=>?_,hH0,hP0,bX hsz hBa.size⟩
  .have:=Bx.new ((W.alloc (F #[.func (.yield l) #[] #[]] 163)).alloc (F #[.bool true] 4)) #[.func (.func 85) #[] #[g (t ⟨W.1.size+1,0,f⟩),g (t ⟨W.1.size,0,f⟩)]] 164
   simpa using this
  .have:=(Bx.new (W.alloc (F #[.func (.yield l) #[] #[]] 163)) #[.bool true] 4).alloc (F #[.func (.func 85) #[] #[g (t ⟨W.1.size+1,0,f⟩),g (t ⟨W.1.size,0,f⟩)]] 164)
   simpa using this
  .have h1:=hrd a v hCa hc
   exact(hBa.cell (p:=a) (dR h1)).trans h1
 go_wp2_with fail;have Ak:=u hd;have aoN:=u hCE;have HCS:=u hCS;have Xn:=u hCO;have HCM:=u hCM;clear hCE hCS hCO hCM hR Zb hrd;clear hBa hP0 hH0 hcp hch hY h0 hd;obtain⟨ER,hrM⟩:∃r,r=xZ h.w.a 0 qs++[]:=⟨_,rfl⟩;obtain⟨ES,hrD⟩:∃r,r=uj h.m.a mn 0 ms++ER:=⟨_,rfl⟩;obtain⟨zw,hrE⟩:∃r,r=uh h.d.a dn 0 ds++ES:=⟨_,rfl⟩;have HRE:=u hrE;have wX:=u hrD;have YW:=u hrM;have HJ:=u hJ;have vU:=u hJx;clear hrE hrD hrM hJ hJx
 go_loopw [22] (λi wr=>∃k:Nat,k<=h.e.n/\i= H .i64 k/\jy J Jx C (aT h es ds ms qs scan dn mn) l bh bp h w W (qz h.e.a scan k (es.drop k)++zw) wr) (λi _=>h.e.n - (y i).toNat)
 case atStart=>exact⟨0,aZ _,rfl,by rw[HRE.q,wX.q,YW.q,dB];exact zS.q⟩
 case round=>
  obtain⟨k,hk,rfl,hon⟩:=hrel;have hx2:=hon.2.2.1;have hx3:=hon.2.2.2.1;have hcp:=hx3.1;by_cases hlt:k<h.e.n
  .obtain⟨e,b,o,hx,hab,hc⟩:=Ak.q.1.at_ hlt
   have hce:wr.cell? ⟨bh,4,f⟩=t (A (t ⟨b,o,f⟩) h.e.n h.e.c):=by rw[hx2.1 4,<-hab];rfl
   have HC:=u hc;have HX:=u hx;have HN:=u hon;have HAE:=u hab;have FL:=u (aoN.q b o hab k hlt);clear hx2 hx3 hon hc hx hab;go_wp2_with fail;have hdrop:es.drop k=e::es.drop (k+1):=by
    rw[oD (bO.1 HX.q).1,(bO.1 HX.q).2]
   have tO:Hid (jy J Jx C (aT h es ds ms qs scan dn mn) l bh bp h w W ((0,(⟨b,o+k*9+1,f⟩:z))::((if e.kind=1 then [(1,(⟨b,o+k*9+2,f⟩:z))] else if e.kind=2\/e.kind=3 then(2,(⟨b,o+k*9+4,f⟩:z))::kr ⟨b,o+k*9+5,f⟩ e.v else if e.kind=4 then [(3,(⟨b,o+k*9+7,f⟩:z))] else [])++(rE e.sa 0 (scan e)++(qz h.e.a scan (k+1) (es.drop (k+1))++zw)))) wr):=by
    have:=HN.q;rw[hdrop,VT HAE.q] at this;simp only[fu,dD] at this;exact u this
   have HDR:=u (jy.drew HJ.q vU.q tO.q);have iB:=u (yQ.q 0 b (o+k*9+1) _ _ HDR.q);refine aC 0 [(0,1),(1,1),(2,1),(3,1),(4,2)] (λW'=>Bx W' (W.1.size+2) #[.func (.func 85) #[] #[g (t ⟨W.1.size+1,0,f⟩),g (t ⟨W.1.size,0,f⟩)]]) (λ_=>True) ay ay (HDR.q.fn) B ?_;refine qC ?_;refine bC rfl rfl rfl (λK hK=>?_);go_simp;refine iB.q.mono ?_;rintro e1 Y ⟨⟨r,rfl⟩,fC⟩;have jU:=u fC;refine hK _ _ fC.fn ?_;clear hK K fC iB HDR;refine aP ?_;have hk0:Y.cell? ⟨b,o+k*9,f⟩=t (H .i64 e.kind):=jU.q.2.1 _ _ (FL.q 0 (.inl rfl)) (HC.q 0 _ rfl);by_cases k1:e.kind=1
   case' pos=>
    rw[k1] at hk0;have ajd:=jU;clear jU;have jU:=u (show jy J Jx C (aT h es ds ms qs scan dn mn) l bh bp h w W ((1,(⟨b,o+k*9+2,f⟩:z))::(rE e.sa 0 (scan e)++(qz h.e.a scan (k+1) (es.drop (k+1))++zw))) Y by have:=ajd.q;rw[av k1] at this;exact this);clear ajd;go_wp2_with fail;have HDR:=u (jy.drew HJ.q vU.q jU.q);have iB:=u (yQ.q 1 b (o+k*9+2) _ _ HDR.q);refine aC 0 [(0,1),(1,1),(2,1),(3,1),(4,2)] (λW'=>Bx W' (W.1.size+2) #[.func (.func 85) #[] #[g (t ⟨W.1.size+1,0,f⟩),g (t ⟨W.1.size,0,f⟩)]]) (λ_=>True) ay ay (HDR.q.fn) B ?_;refine qC ?_;refine bC rfl rfl rfl (λK hK=>?_);go_simp;refine iB.q.mono ?_;rintro e1 Y ⟨⟨r,rfl⟩,fC⟩;have iU:=u fC;refine hK _ _ fC.fn ?_;clear hK K fC iB HDR;refine aP ?_
   case' neg=>
    by_cases k2:e.kind=2\/e.kind=3
    case' pos=>
     rcases k2 with kk|kk
     all_goals
      rw[kk] at hk0;have MB:=u (show jy J Jx C (aT h es ds ms qs scan dn mn) l bh bp h w W ((2,(⟨b,o+k*9+4,f⟩:z))::(kr ⟨b,o+k*9+5,f⟩ e.v++(rE e.sa 0 (scan e)++(qz h.e.a scan (k+1) (es.drop (k+1))++zw)))) Y by have:=jU.q;rw[au k1,av ah] at this;simp only[fu,dD] at this;exact this);clear jU;go_wp2_with fail;have HDR:=u (jy.drew HJ.q vU.q MB.q);have iB:=u (yQ.q 2 b (o+k*9+4) _ _ HDR.q);refine aC 0 [(0,1),(1,1),(2,1),(3,1),(4,2)] (λW'=>Bx W' (W.1.size+2) #[.func (.func 85) #[] #[g (t ⟨W.1.size+1,0,f⟩),g (t ⟨W.1.size,0,f⟩)]]) (λ_=>True) ay ay (HDR.q.fn) B ?_;refine qC ?_;refine bC rfl rfl rfl (λK hK=>?_);go_simp;refine iB.q.mono ?_;rintro e1 Y ⟨⟨r,rfl⟩,fC⟩;have lM:=u fC;refine hK _ _ fC.fn ?_;clear hK K fC iB HDR;refine aP ?_;have Q9:=u (ajb.q e.v _ b (o+k*9+5) Y lM.q (FL.q 6 (.inr (.inl rfl))) (HC.q 6 _ rfl));go_wp2_with fail;refine Q9.q.mono ?_;rintro e2 Y2 ⟨⟨r2,rfl⟩,Ew⟩;obtain⟨Y,rfl⟩:∃Y,Y=Y2:=⟨_,rfl⟩;have iU:=u Ew;clear Ew Q9
    case' neg=>
     by_cases k4:e.kind=4
     case' pos=>
      rw[k4] at hk0;have MB:=u (show jy J Jx C (aT h es ds ms qs scan dn mn) l bh bp h w W ((3,(⟨b,o+k*9+7,f⟩:z))::(rE e.sa 0 (scan e)++(qz h.e.a scan (k+1) (es.drop (k+1))++zw))) Y by have:=jU.q;rw[au k1,au ah,av k4] at this;exact this);clear jU;go_wp2_with fail;have HDR:=u (jy.drew HJ.q vU.q MB.q);have iB:=u (yQ.q 3 b (o+k*9+7) _ _ HDR.q);refine aC 0 [(0,1),(1,1),(2,1),(3,1),(4,2)] (λW'=>Bx W' (W.1.size+2) #[.func (.func 85) #[] #[g (t ⟨W.1.size+1,0,f⟩),g (t ⟨W.1.size,0,f⟩)]]) (λ_=>True) ay ay (HDR.q.fn) B ?_;refine qC ?_;refine bC rfl rfl rfl (λK hK=>?_);go_simp;refine iB.q.mono ?_;rintro e1 Y ⟨⟨r,rfl⟩,fC⟩;have iU:=u fC;refine hK _ _ fC.fn ?_;clear hK K fC iB HDR;refine aP ?_
     case' neg=>
      have iU:=u (show jy J Jx C (aT h es ds ms qs scan dn mn) l bh bp h w W (rE e.sa 0 (scan e)++(qz h.e.a scan (k+1) (es.drop (k+1))++zw)) Y by have:=jU.q;rw[au k1,au ah,au k4] at this;exact this);clear jU;have n1:(e.kind==1)=false:=aU.2 k1;have n2:(e.kind==2)=false:=aU.2 ah;have n3:(e.kind==3)=false:=aU.2 ah;have n4:(e.kind==4)=false:=aU.2 k4
   all_goals
    have hsl:Y.cell? ⟨b,o+k*9+8,f⟩=t (A e.sa e.sn e.sc):=iU.q.2.1 _ _ (FL.q 8 (.inr (.inr rfl))) (HC.q 8 _ rfl);go_wp2_with fail;clear hsl
    go_loopw [72] (λi wr=>∃j:Nat,j<=e.sn/\i= H .i64 j/\jy J Jx C (aT h es ds ms qs scan dn mn) l bh bp h w W (rE e.sa j ((scan e).drop j)++(qz h.e.a scan (k+1) (es.drop (k+1))++zw)) wr) (λi _=>e.sn - (y i).toNat)
    case atStart=>exact⟨0,aZ _,rfl,iU.q⟩
    case round=>
     obtain⟨j,hj,rfl,hon⟩:=hrel;have nV:=u hon;clear hon;have GD:=u (Ak.q.2.2.2.2.1 e (dP HX.q));have hle:=GD.q.le;by_cases hjl:j<e.sn
     .obtain⟨s2,b2,o2,hx2,Bz,hc2⟩:=GD.q.at_ hjl
      have eF:=u hc2;have fw:=u hx2;have mZ:=u Bz;clear hc2 hx2 Bz;have zX:(scan e).drop j=s2::(scan e).drop (j+1):=by
       rw[oD (bO.1 fw.q).1,(bO.1 fw.q).2]
      have gB:Hid (jy J Jx C (aT h es ds ms qs scan dn mn) l bh bp h w W ((2,(⟨b2,o2+j*3,f⟩:z))::(kr ⟨b2,o2+j*3+1,f⟩ s2.v++(rE e.sa (j+1) ((scan e).drop (j+1))++(qz h.e.a scan (k+1) (es.drop (k+1))++zw)))) wr):=by
       have:=nV.q;rw[zX,Y5 mZ.q] at this;simp only[fu,dD] at this;exact u this
      clear zX;go_wp2_with fail;have HDR:=u (jy.drew HJ.q vU.q gB.q);have iB:=u (yQ.q 2 b2 (o2+j*3) _ _ HDR.q);refine aC 0 [(0,1),(1,1),(2,1),(3,1),(4,1),(5,1),(6,1),(7,1),(8,2)] (λW'=>Bx W' (W.1.size+2) #[.func (.func 85) #[] #[g (t ⟨W.1.size+1,0,f⟩),g (t ⟨W.1.size,0,f⟩)]]/\W'.cell? ⟨b,o+k*9+8,f⟩=t (A (t ⟨b2,o2,f⟩) e.sn e.sc)) (λ_=>True) ay ay (⟨HDR.q.fn,HDR.q.2.1 _ _ (FL.q 8 (.inr (.inr rfl))) (by rw[<-mZ.q];exact HC.q 8 _ rfl)⟩) B ?_;refine qC ?_;refine bC rfl rfl rfl (λK hK=>?_);go_simp;refine iB.q.mono ?_;rintro e1 Y ⟨⟨r,rfl⟩,fC⟩;have HS2:=u fC;refine hK _ _ ⟨fC.fn,fC.2.1 _ _ (FL.q 8 (.inr (.inr rfl))) (by rw[<-mZ.q];exact HC.q 8 _ rfl)⟩ ?_;clear hK K fC iB HDR;refine aP ?_;have hsl2:Y.cell? ⟨b,o+k*9+8,f⟩=t (A (t ⟨b2,o2,f⟩) e.sn e.sc):=HS2.q.2.1 _ _ (FL.q 8 (.inr (.inr rfl))) (by rw[<-mZ.q];exact HC.q 8 _ rfl);have Q9:=u (ajb.q s2.v _ b2 (o2+j*3+1) Y HS2.q (HCS.q e (dP HX.q) b2 o2 mZ.q j hjl) (eF.q 2 _ rfl));go_wp2_with fail;refine Q9.q.mono ?_;rintro e2 Y2 ⟨⟨r2,rfl⟩,Ew⟩;have iW:=u Ew;clear Ew hsl2 Q9;go_wp2_with fail;go_roundw
      case rel=>exact⟨j+1,by omega,by go_num,iW.q⟩
      case measure=>simp[y];omega
     .have hjn:j=e.sn:=by omega
      have hlen:=GD.q.len;have Zc:Hid (jy J Jx C (aT h es ds ms qs scan dn mn) l bh bp h w W (qz h.e.a scan (k+1) (es.drop (k+1))++zw) wr):=by
       have:=nV.q;rw[sj ah] at this;exact u this
      have hle2:=Ak.q.1.le;go_wp2_with fail;go_roundw
      case rel=>exact⟨k+1,by omega,by go_num,Zc.q⟩
      case measure=>simp[y];omega
  .have V5:=(Ak.q.1).len
   have Ar:Hid (jy J Jx C (aT h es ds ms qs scan dn mn) l bh bp h w W zw wr):=by
    have:=hon;rw[sj ah] at this;exact u this
   have hcp:wr.cell? ⟨bp,0,f⟩=t (g (t ⟨bh,0,f⟩)):=Ar.q.2.2.2.1.1 0;have hch:wr.cell? ⟨bh,5,f⟩=t (h.d.v):=Ar.q.2.2.1.1 5;clear hx2 hx3 hon;go_wp2_with fail;clear hcp hch;rw[HRE.q] at Ar
   go_loopw [100] (λi wr=>∃k:Nat,k<=h.d.n/\i= H .i64 k/\jy J Jx C (aT h es ds ms qs scan dn mn) l bh bp h w W (uh h.d.a dn k (ds.drop k)++ES) wr) (λi _=>h.d.n - (y i).toNat)
   case atStart=>exact⟨0,aZ _,rfl,Ar.q⟩
   case round=>
    obtain⟨k,hk,rfl,hon⟩:=hrel;have HN:=u hon;clear hon;have hle0:=(Ak.q.2.1).le;by_cases hlt:k<h.d.n
    .obtain⟨x,b,o,hx,hab,hc⟩:=(Ak.q.2.1).at_ hlt
     have HC:=u hc;have HX:=u hx;have mZ:=u hab;clear hx hab hc;have hdrop:ds.drop k=x::ds.drop (k+1):=by
      rw[oD (bO.1 HX.q).1,(bO.1 HX.q).2]
     have hcp:wr.cell? ⟨bp,0,f⟩=t (g (t ⟨bh,0,f⟩)):=HN.q.2.2.2.1.1 0;have hch:wr.cell? ⟨bh,5,f⟩=t (A (t ⟨b,o,f⟩) h.d.n h.d.c):=(HN.q.2.2.1.1 5).trans (by rw[<-mZ.q];rfl);have tO:Hid (jy J Jx C (aT h es ds ms qs scan dn mn) l bh bp h w W ((2,(⟨b,o+k*2,f⟩:z))::(nO x.sa 0 (dn x)++(uh h.d.a dn (k+1) (ds.drop (k+1))++ES))) wr):=by
      have:=HN.q;rw[hdrop,VU mZ.q] at this;simp only[fu,dD] at this;exact u this
     clear hdrop;go_wp2_with fail;clear hcp hch;have HDR:=u (jy.drew HJ.q vU.q tO.q);have iB:=u (yQ.q 2 b (o+k*2) _ _ HDR.q);refine aC 0 [(0,1),(1,1),(2,1),(3,1),(4,1),(5,1),(6,1),(7,1),(8,2)] (λW'=>Bx W' (W.1.size+2) #[.func (.func 85) #[] #[g (t ⟨W.1.size+1,0,f⟩),g (t ⟨W.1.size,0,f⟩)]]/\W'.cell? ⟨bp,0,f⟩=t (g (t ⟨bh,0,f⟩))/\W'.cell? ⟨bh,5,f⟩=t (A (t ⟨b,o,f⟩) h.d.n h.d.c)) (λ_=>True) ay ay (⟨HDR.q.fn,(HDR.q.2.2.2.1.1 0),((HDR.q.2.2.1.1 5).trans (by rw[<-mZ.q];rfl))⟩) B ?_;refine qC ?_;refine bC rfl rfl rfl (λK hK=>?_);go_simp;refine iB.q.mono ?_;rintro e1 Y ⟨⟨r,rfl⟩,fC⟩;have jU:=u fC;refine hK _ _ ⟨fC.fn,(fC.2.2.2.1.1 0),((fC.2.2.1.1 5).trans (by rw[<-mZ.q];rfl))⟩ ?_;clear hK K fC iB HDR;refine aP ?_;have hcp:Y.cell? ⟨bp,0,f⟩=t (g (t ⟨bh,0,f⟩)):=jU.q.2.2.2.1.1 0;have hch:Y.cell? ⟨bh,5,f⟩=t (A (t ⟨b,o,f⟩) h.d.n h.d.c):=(jU.q.2.2.1.1 5).trans (by rw[<-mZ.q];rfl);have hsl:Y.cell? ⟨b,o+k*2+1,f⟩=t (A x.sa x.sn x.sc):=jU.q.2.1 _ _ (Xn.q b o mZ.q k hlt) (HC.q 1 _ rfl);go_wp2_with fail;clear hcp hch hsl
     go_loopw [121] (λi wr=>∃j:Nat,j<=x.sn/\i= H .i64 j/\jy J Jx C (aT h es ds ms qs scan dn mn) l bh bp h w W (nO x.sa j ((dn x).drop j)++(uh h.d.a dn (k+1) (ds.drop (k+1))++ES)) wr) (λi _=>x.sn - (y i).toNat)
     case atStart=>exact⟨0,aZ _,rfl,jU.q⟩
     case round=>
      obtain⟨j,hj,rfl,hon⟩:=hrel;have nV:=u hon;clear hon;have GD:=u (Ak.q.2.2.2.2.2.1 x (dP HX.q));have hle1:=GD.q.le;by_cases hjl:j<x.sn
      .obtain⟨d,b2,o2,hx2,Bz,hc2⟩:=GD.q.at_ hjl
       have eF:=u hc2;have fw:=u hx2;have JQ:=u Bz;clear hc2 hx2 Bz;have zX:(dn x).drop j=d::(dn x).drop (j+1):=by
        rw[oD (bO.1 fw.q).1,(bO.1 fw.q).2]
       have gB:Hid (jy J Jx C (aT h es ds ms qs scan dn mn) l bh bp h w W ((0,(⟨b2,o2+j,f⟩:z))::(nO x.sa (j+1) ((dn x).drop (j+1))++(uh h.d.a dn (k+1) (ds.drop (k+1))++ES))) wr):=by
        have:=nV.q;rw[zX,Np JQ.q] at this;simp only[fu] at this;exact u this
       clear zX;go_wp2_with fail;have HDR:=u (jy.drew HJ.q vU.q gB.q);have iB:=u (yQ.q 0 b2 (o2+j) _ _ HDR.q);refine aC 0 [(0,1),(1,1),(2,1),(3,1),(4,1),(5,1),(6,1),(7,1),(8,1),(9,1),(10,1),(11,2)] (λW'=>Bx W' (W.1.size+2) #[.func (.func 85) #[] #[g (t ⟨W.1.size+1,0,f⟩),g (t ⟨W.1.size,0,f⟩)]]/\W'.cell? ⟨b,o+k*2+1,f⟩=t (A (t ⟨b2,o2,f⟩) x.sn x.sc)/\W'.cell? ⟨bp,0,f⟩=t (g (t ⟨bh,0,f⟩))/\W'.cell? ⟨bh,5,f⟩=t (A (t ⟨b,o,f⟩) h.d.n h.d.c)) (λ_=>True) ay ay (⟨HDR.q.fn,HDR.q.2.1 _ _ (Xn.q b o mZ.q k hlt) (by rw[<-JQ.q];exact HC.q 1 _ rfl),(HDR.q.2.2.2.1.1 0),((HDR.q.2.2.1.1 5).trans (by rw[<-mZ.q];rfl))⟩) B ?_;refine qC ?_;refine bC rfl rfl rfl (λK hK=>?_);go_simp;refine iB.q.mono ?_;rintro e1 Y ⟨⟨r,rfl⟩,fC⟩;have HS2:=u fC;refine hK _ _ ⟨fC.fn,fC.2.1 _ _ (Xn.q b o mZ.q k hlt) (by rw[<-JQ.q];exact HC.q 1 _ rfl),(fC.2.2.2.1.1 0),((fC.2.2.1.1 5).trans (by rw[<-mZ.q];rfl))⟩ ?_;clear hK K fC iB HDR;refine aP ?_;go_wp2_with fail;go_roundw
       case rel=>exact⟨j+1,by omega,by go_num,HS2.q⟩
       case measure=>simp[y];omega
      .have hlen1:=GD.q.len
       have Zc:Hid (jy J Jx C (aT h es ds ms qs scan dn mn) l bh bp h w W (uh h.d.a dn (k+1) (ds.drop (k+1))++ES) wr):=by
        have:=nV.q;rw[sj ah] at this;exact u this
       go_wp2_with fail;go_roundw
       case rel=>exact⟨k+1,by omega,by go_num,Zc.q⟩
       case measure=>simp[y];omega
    .have V5:=(Ak.q.2.1).len
     have Ar:Hid (jy J Jx C (aT h es ds ms qs scan dn mn) l bh bp h w W ES wr):=by
      have:=HN.q;rw[sj ah] at this;exact u this
     have hcp:wr.cell? ⟨bp,0,f⟩=t (g (t ⟨bh,0,f⟩)):=Ar.q.2.2.2.1.1 0;have hch:wr.cell? ⟨bh,6,f⟩=t (h.m.v):=Ar.q.2.2.1.1 6;go_wp2_with fail;clear hcp hch;rw[wX.q] at Ar
     go_loopw [143] (λi wr=>∃k:Nat,k<=h.m.n/\i= H .i64 k/\jy J Jx C (aT h es ds ms qs scan dn mn) l bh bp h w W (uj h.m.a mn k (ms.drop k)++ER) wr) (λi _=>h.m.n - (y i).toNat)
     case atStart=>exact⟨0,aZ _,rfl,Ar.q⟩
     case round=>
      obtain⟨k,hk,rfl,hon⟩:=hrel;have HN:=u hon;clear hon;have hle0:=(Ak.q.2.2.1).le;by_cases hlt:k<h.m.n
      .obtain⟨x,b,o,hx,hab,hc⟩:=(Ak.q.2.2.1).at_ hlt
       have HC:=u hc;have HX:=u hx;have mZ:=u hab;clear hx hab hc;have hdrop:ms.drop k=x::ms.drop (k+1):=by
        rw[oD (bO.1 HX.q).1,(bO.1 HX.q).2]
       have hcp:wr.cell? ⟨bp,0,f⟩=t (g (t ⟨bh,0,f⟩)):=HN.q.2.2.2.1.1 0;have hch:wr.cell? ⟨bh,6,f⟩=t (A (t ⟨b,o,f⟩) h.m.n h.m.c):=(HN.q.2.2.1.1 6).trans (by rw[<-mZ.q];rfl);have tO:Hid (jy J Jx C (aT h es ds ms qs scan dn mn) l bh bp h w W ((3,(⟨b,o+k*4,f⟩:z))::((2,(⟨b,o+k*4+1,f⟩:z))::(nO x.sa 0 (mn x)++(uj h.m.a mn (k+1) (ms.drop (k+1))++ER)))) wr):=by
        have:=HN.q;rw[hdrop,VW mZ.q] at this;simp only[fu,dD] at this;exact u this
       clear hdrop;go_wp2_with fail;clear hcp hch;have HDR:=u (jy.drew HJ.q vU.q tO.q);have iB:=u (yQ.q 3 b (o+k*4) _ _ HDR.q);refine aC 0 [(0,1),(1,1),(2,1),(3,1),(4,2)] (λW'=>Bx W' (W.1.size+2) #[.func (.func 85) #[] #[g (t ⟨W.1.size+1,0,f⟩),g (t ⟨W.1.size,0,f⟩)]]) (λ_=>True) ay ay (HDR.q.fn) B ?_;refine qC ?_;refine bC rfl rfl rfl (λK hK=>?_);go_simp;refine iB.q.mono ?_;rintro e1 Y ⟨⟨r,rfl⟩,fC⟩;have jU:=u fC;refine hK _ _ fC.fn ?_;clear hK K fC iB HDR;refine aP ?_;go_wp2_with fail;have HDR:=u (jy.drew HJ.q vU.q jU.q);have iB:=u (yQ.q 2 b (o+k*4+1) _ _ HDR.q);refine aC 0 [(0,1),(1,1),(2,1),(3,1),(4,2)] (λW'=>Bx W' (W.1.size+2) #[.func (.func 85) #[] #[g (t ⟨W.1.size+1,0,f⟩),g (t ⟨W.1.size,0,f⟩)]]) (λ_=>True) ay ay (HDR.q.fn) B ?_;refine qC ?_;refine bC rfl rfl rfl (λK hK=>?_);go_simp;refine iB.q.mono ?_;rintro e1 Y ⟨⟨r,rfl⟩,fC⟩;have iU:=u fC;refine hK _ _ fC.fn ?_;clear hK K fC iB HDR;refine aP ?_;have hsl:Y.cell? ⟨b,o+k*4+3,f⟩=t (A x.sa x.sn x.sc):=iU.q.2.1 _ _ (HCM.q b o mZ.q k hlt) (HC.q 3 _ rfl);go_wp2_with fail;clear hsl
       go_loopw [167] (λi wr=>∃j:Nat,j<=x.sn/\i= H .i64 j/\jy J Jx C (aT h es ds ms qs scan dn mn) l bh bp h w W (nO x.sa j ((mn x).drop j)++(uj h.m.a mn (k+1) (ms.drop (k+1))++ER)) wr) (λi _=>x.sn - (y i).toNat)
       case atStart=>exact⟨0,aZ _,rfl,iU.q⟩
       case round=>
        obtain⟨j,hj,rfl,hon⟩:=hrel;have nV:=u hon;clear hon;have GD:=u (Ak.q.2.2.2.2.2.2 x (dP HX.q));have hle1:=GD.q.le;by_cases hjl:j<x.sn
        .obtain⟨d,b2,o2,hx2,Bz,hc2⟩:=GD.q.at_ hjl
         have eF:=u hc2;have fw:=u hx2;have JQ:=u Bz;clear hc2 hx2 Bz;have zX:(mn x).drop j=d::(mn x).drop (j+1):=by
          rw[oD (bO.1 fw.q).1,(bO.1 fw.q).2]
         have gB:Hid (jy J Jx C (aT h es ds ms qs scan dn mn) l bh bp h w W ((0,(⟨b2,o2+j,f⟩:z))::(nO x.sa (j+1) ((mn x).drop (j+1))++(uj h.m.a mn (k+1) (ms.drop (k+1))++ER))) wr):=by
          have:=nV.q;rw[zX,Np JQ.q] at this;simp only[fu] at this;exact u this
         clear zX;go_wp2_with fail;have HDR:=u (jy.drew HJ.q vU.q gB.q);have iB:=u (yQ.q 0 b2 (o2+j) _ _ HDR.q);refine aC 0 [(0,1),(1,1),(2,1),(3,1),(4,1),(5,1),(6,1),(7,2)] (λW'=>Bx W' (W.1.size+2) #[.func (.func 85) #[] #[g (t ⟨W.1.size+1,0,f⟩),g (t ⟨W.1.size,0,f⟩)]]/\W'.cell? ⟨b,o+k*4+3,f⟩=t (A (t ⟨b2,o2,f⟩) x.sn x.sc)) (λ_=>True) ay ay (⟨HDR.q.fn,HDR.q.2.1 _ _ (HCM.q b o mZ.q k hlt) (by rw[<-JQ.q];exact HC.q 3 _ rfl)⟩) B ?_;refine qC ?_;refine bC rfl rfl rfl (λK hK=>?_);go_simp;refine iB.q.mono ?_;rintro e1 Y ⟨⟨r,rfl⟩,fC⟩;have HS2:=u fC;refine hK _ _ ⟨fC.fn,fC.2.1 _ _ (HCM.q b o mZ.q k hlt) (by rw[<-JQ.q];exact HC.q 3 _ rfl)⟩ ?_;clear hK K fC iB HDR;refine aP ?_;go_wp2_with fail;go_roundw
         case rel=>exact⟨j+1,by omega,by go_num,HS2.q⟩
         case measure=>simp[y];omega
        .have hlen1:=GD.q.len
         have Zc:Hid (jy J Jx C (aT h es ds ms qs scan dn mn) l bh bp h w W (uj h.m.a mn (k+1) (ms.drop (k+1))++ER) wr):=by
          have:=nV.q;rw[sj ah] at this;exact u this
         go_wp2_with fail;go_roundw
         case rel=>exact⟨k+1,by omega,by go_num,Zc.q⟩
         case measure=>simp[y];omega
      .have V5:=(Ak.q.2.2.1).len
       have Ar:Hid (jy J Jx C (aT h es ds ms qs scan dn mn) l bh bp h w W ER wr):=by
        have:=HN.q;rw[sj ah] at this;exact u this
       have hcp:wr.cell? ⟨bp,0,f⟩=t (g (t ⟨bh,0,f⟩)):=Ar.q.2.2.2.1.1 0;have hch:wr.cell? ⟨bh,7,f⟩=t (h.w.v):=Ar.q.2.2.1.1 7;go_wp2_with fail;clear hcp hch;rw[YW.q] at Ar
       go_loopw [185] (λi wr=>∃k:Nat,k<=h.w.n/\i= H .i64 k/\jy J Jx C (aT h es ds ms qs scan dn mn) l bh bp h w W (xZ h.w.a k (qs.drop k)++[]) wr) (λi _=>h.w.n - (y i).toNat)
       case atStart=>exact⟨0,aZ _,rfl,Ar.q⟩
       case round=>
        obtain⟨k,hk,rfl,hon⟩:=hrel;have HN:=u hon;clear hon;have hle0:=(Ak.q.2.2.2.1).le;by_cases hlt:k<h.w.n
        .obtain⟨x,b,o,hx,hab,hc⟩:=(Ak.q.2.2.2.1).at_ hlt
         have HC:=u hc;have HX:=u hx;have mZ:=u hab;clear hx hab hc;have hdrop:qs.drop k=x::qs.drop (k+1):=by
          rw[oD (bO.1 HX.q).1,(bO.1 HX.q).2]
         have hcp:wr.cell? ⟨bp,0,f⟩=t (g (t ⟨bh,0,f⟩)):=HN.q.2.2.2.1.1 0;have hch:wr.cell? ⟨bh,7,f⟩=t (A (t ⟨b,o,f⟩) h.w.n h.w.c):=(HN.q.2.2.1.1 7).trans (by rw[<-mZ.q];rfl);have tO:Hid (jy J Jx C (aT h es ds ms qs scan dn mn) l bh bp h w W ((1,(⟨b,o+k*2,f⟩:z))::(xZ h.w.a (k+1) (qs.drop (k+1))++[])) wr):=by
          have:=HN.q;rw[hdrop,VX mZ.q] at this;simp only[fu] at this;exact u this
         clear hdrop;go_wp2_with fail;clear hcp hch;have HDR:=u (jy.drew HJ.q vU.q tO.q);have iB:=u (yQ.q 1 b (o+k*2) _ _ HDR.q);refine aC 0 [(0,1),(1,1),(2,1),(3,1),(4,1),(5,1),(6,1),(7,1),(8,2)] (λW'=>Bx W' (W.1.size+2) #[.func (.func 85) #[] #[g (t ⟨W.1.size+1,0,f⟩),g (t ⟨W.1.size,0,f⟩)]]/\W'.cell? ⟨bp,0,f⟩=t (g (t ⟨bh,0,f⟩))/\W'.cell? ⟨bh,7,f⟩=t (A (t ⟨b,o,f⟩) h.w.n h.w.c)) (λ_=>True) ay ay (⟨HDR.q.fn,(HDR.q.2.2.2.1.1 0),((HDR.q.2.2.1.1 7).trans (by rw[<-mZ.q];rfl))⟩) B ?_;refine qC ?_;refine bC rfl rfl rfl (λK hK=>?_);go_simp;refine iB.q.mono ?_;rintro e1 Y ⟨⟨r,rfl⟩,fC⟩;have jU:=u fC;refine hK _ _ ⟨fC.fn,(fC.2.2.2.1.1 0),((fC.2.2.1.1 7).trans (by rw[<-mZ.q];rfl))⟩ ?_;clear hK K fC iB HDR;refine aP ?_;go_wp2_with fail;go_roundw
         case rel=>exact⟨k+1,by omega,by go_num,jU.q⟩
         case measure=>simp[y];omega
        .have V5:=(Ak.q.2.2.2.1).len
         have Ar:Hid (jy J Jx C (aT h es ds ms qs scan dn mn) l bh bp h w W [] wr):=by
          have:=HN.q;rw[sj ah] at this;exact u this
         go_wp2_with fail
         go_end0
         obtain⟨⟨pre,hp,a0,a2,a1⟩,_⟩:=Ar.q;rw[dB] at hp;refine⟨_,rfl,?_⟩;rcases a1 with⟨_,hj⟩|⟨_,p,hpx,hj⟩
         .exact .inl (hp▸hj)
         .exact .inr ⟨p,hpx,hj⟩
end Yd
