import Derived.Test.YtpeojoobplpcoaaGreatDoorPRdJ
import Derived.Test.YtpeojoobplpcoaaGreatDoorPLaidK
set_option linter.all false
set_option maxRecDepth 200000
set_option maxHeartbeats 8000000
namespace Yd
open Bool renaming false->C
open Option renaming none->v,some->D
open Go Go.RowKit Go.Proofs Tryz
open Bx renaming new->F
open Go.IntKind renaming i64->u
open Go.Obj renaming cells->z
open Go.Value renaming int->j,slice->y,pointer->A,bool->E
def bQ (s:Bs)(p:Int):aH × Int × Int:=
 if p<0\/(s.length:Int)<p then(wT,0,2)
 else match mJ (s.drop p.toNat) with
  | .ok (n,r)=>(n,((s.length - r.length:Nat):Int),0)
  | .error (r,m)=>(wT,((s.length - r.length:Nat):Int),m)
def ad3 (x:aH × Int × Int)(w:World)(e:Ending)(w':World):Prop:=
 ∃c:bE,e= .returned (.tuple #[dY c,j u x.2.1,j u x.2.2])/\gD w' w.1.size c x.1/\Below w.1.size w w'
@[reducible] def CJ:bE:=⟨0,v,0,0,0,v,0,0,C,0⟩
theorem DL (w:World)(B:Nat):gD w B CJ wT:=⟨⟨rfl,rfl,rfl,rfl,rfl,rfl⟩,Own.jY _ _ _ _ _,Own.jY _ _ _ _ _⟩
theorem V6 {l r:Bs}(h:dN l= .ok (C,r)):dS r=true:=by
 unfold dN at h
 split at h
 .rename_i h1
  injection h with h;injection h with _ h;rw[<-h];exact h1
 .split at h
  .cases h
  .injection h with h;injection h with h _;cases h
theorem Zd {l r:Bs}{n:aH}(h:jh l= .ok (n,r)):dS r=true:=by
 unfold jh at h
 split at h
 .rename_i h1
  injection h with h;injection h with _ h;rw[<-h];exact h1
 .split at h
  .cases h
  .split at h
   .cases h
   .split at h
    .cases h
    .split at h
     .cases h
     .cases h
     .rename_i hm
      injection h with h;injection h with _ h;rw[<-h];exact V6 hm
theorem size_alloc (w:World)(o:Obj):(w.alloc o).1.size=w.1.size+1:=by simp
theorem afe {l r:Bs}{n:aH}(h:jh l= .ok (n,r)):
  (uZ r).2=0/\(∃t,mJ l= .ok (n,t)/\t.length+(uZ r).1=r.length)\/(uZ r).2≠0/\(∃t,mJ l= .error (t,220)/\t.length+(uZ r).1=r.length):=by
 have arL:(jl r).length<=r.length:=by unfold jl;split <;> simp
 unfold mJ;rw[h];unfold uZ;simp only[];by_cases h1:(jl r).head?=v
 .rw[av h1,av h1];exact .inl ⟨rfl,[],rfl,by simp⟩
 .rw[au h1,au h1]
  by_cases h2:(jl r).head?=D 10
  .rw[av h2,av h2]
   refine .inl ⟨rfl,_,rfl,?_⟩;have:1<=(jl r).length:=by
    cases hq:jl r with
    |nil=>rw[hq] at h1;exact absurd rfl h1
    |cons a t=>simp
   simp only[List.length_tail];omega
  .rw[au h2,au h2]
   exact .inr ⟨by simp,_,rfl,by simp only[];omega⟩
theorem yA {n:aH}{nx er:Int}(tmps:Array Value)(c:bE)(w w':World)(h4:tmps[4]?.getD undef= A (D ⟨w.1.size,0,v⟩))(h5:tmps[5]?.getD undef= A (D ⟨w.1.size+1,0,v⟩))
  (h6:tmps[6]?.getD undef= A (D ⟨w.1.size+1+1,0,v⟩)) (h1:Bx w' w.1.size (bJ c)) (h2:Bx w' (w.1.size+1) #[j u nx]) (h3:Bx w' (w.1.size+1+1) #[j u er])
  (hl:gD w' w.1.size c n) (hb:Below w.1.size w w'):Leaves Tryz.prog Tryz.f89 tmps (ad3 (n,nx,er) w) [] .returning w':=by
 have a0:=h1.1 0;have a1:=h1.1 1;have a2:=h1.1 2;have a3:=h1.1 3;have a4:=h1.1 4;have a5:=h1.1 5;have b0:=h2.1 0;have c0:=h3.1 0;refine⟨.tuple #[dY c,j u nx,j u er],?_,c,rfl,hl,hb⟩;simp[results,results89,go_sem,h4,h5,h6,a0,a1,a2,a3,a4,a5,b0,c0]
theorem Y6 (s:Bs)(at_:Int)(hlim:s.length<=1000000)(w:World)(hT:Lib.Utf8Tabs 6 7 w)(hE:Az w)(hL:kg w):
  Calls Tryz.prog 89 #[.string ⟨s.toArray⟩,j u at_] w (ad3 (bQ s at_) w):=by
 have hz:=gQ s;by_cases h0:at_<0
 .have hb0:decide (at_<0)=true:=by simpa using h0
  have hr:bQ s at_=(wT,0,2):=by unfold bQ;rw[av (.inl h0)]
  rw[hr];clear hr h0 hT hE hL
  go_enter_defers func89,ntmps89
  go_wp2_with fail;refine yA _ CJ w _ rfl rfl rfl ?_ ?_ ?_ ?_ ?_
  .exact((F w #[j u 0,y v 0 0,j u 0,y v 0 0,E C,j u 0] 66).alloc _).alloc _
  .have:=(F (w.alloc (z #[j u 0,y v 0 0,j u 0,y v 0 0,E C,j u 0] 66)) #[j u 0] 3).alloc (z #[j u 2] 30)
   rw[size_alloc] at this;exact this
  .have:=F ((w.alloc (z #[j u 0,y v 0 0,j u 0,y v 0 0,E C,j u 0] 66)).alloc (z #[j u 0] 3)) #[j u 2] 30
   rw[size_alloc,size_alloc] at this;exact this
  .exact DL _ _
  .exact(((Below.refl w.1.size w).alloc (aB _) _).alloc ak _).alloc (by simp;omega) _
 .have hb0:decide (at_<0)=C:=by simpa using h0
  by_cases h1:(s.length:Int)<at_
  .have hb1:decide ((s.length:Int)<at_)=true:=by simpa using h1
   have hr:bQ s at_=(wT,0,2):=by unfold bQ;rw[av (.inr h1)]
   rw[hr];clear hr h0 h1 hT hE hL
   go_enter_defers func89,ntmps89
   go_wp2_with fail;refine yA _ CJ w _ rfl rfl rfl ?_ ?_ ?_ ?_ ?_
   .exact((F w #[j u 0,y v 0 0,j u 0,y v 0 0,E C,j u 0] 66).alloc _).alloc _
   .have:=(F (w.alloc (z #[j u 0,y v 0 0,j u 0,y v 0 0,E C,j u 0] 66)) #[j u 0] 3).alloc (z #[j u 2] 30)
    rw[size_alloc] at this;exact this
   .have:=F ((w.alloc (z #[j u 0,y v 0 0,j u 0,y v 0 0,E C,j u 0] 66)).alloc (z #[j u 0] 3)) #[j u 2] 30
    rw[size_alloc,size_alloc] at this;exact this
   .exact DL _ _
   .exact(((Below.refl w.1.size w).alloc (aB _) _).alloc ak _).alloc (by simp;omega) _
  .have hb1:decide ((s.length:Int)<at_)=C:=by simpa using h1
   obtain⟨p,rfl⟩:∃p:Nat,at_=(p:Int):=⟨at_.toNat,by omega⟩;have hp:p<=s.length:=by omega
   have PL:∀(fn:Fn)(first cap:Array Value)(w:World),(Instr.makeFunc fn first cap).run Tryz.prog w= .ok (.func fn first cap) w:=λ_ _ _ _=>rfl
   clear h0 h1
   go_enter_defers func89,ntmps89
   have hb4:=(((Below.refl w.1.size w).alloc (aB _) (z #[j u 0,y v 0 0,j u 0,y v 0 0,E C,j u 0] 66)).alloc ak (z #[j u 0] 3)).alloc (by simp;omega) (z #[j u 0] 30)|>.alloc (by simp;omega) (z (tC s p CJ) 200);have hx1:=(((F w #[j u 0,y v 0 0,j u 0,y v 0 0,E C,j u 0] 66).alloc (z #[j u 0] 3)).alloc (z #[j u 0] 30)).alloc (z (tC s p CJ) 200);have hx2:=((F (w.alloc (z #[j u 0,y v 0 0,j u 0,y v 0 0,E C,j u 0] 66)) #[j u 0] 3).alloc (z #[j u 0] 30)).alloc (z (tC s p CJ) 200);have hx3:=(F ((w.alloc (z #[j u 0,y v 0 0,j u 0,y v 0 0,E C,j u 0] 66)).alloc (z #[j u 0] 3)) #[j u 0] 30).alloc (z (tC s p CJ) 200);have hx4:=F (((w.alloc (z #[j u 0,y v 0 0,j u 0,y v 0 0,E C,j u 0] 66)).alloc (z #[j u 0] 3)).alloc (z #[j u 0] 30)) (tC s p CJ) 200;obtain⟨b,hb⟩:∃b,b=w.1.size:=⟨_,rfl⟩;obtain⟨W4,hW4⟩:∃W4,W4=(((w.alloc (z #[j u 0,y v 0 0,j u 0,y v 0 0,E C,j u 0] 66)).alloc (z #[j u 0] 3)).alloc (z #[j u 0] 30)).alloc (z #[.string ⟨s.toArray⟩,j u (p:Int),j u 0,y v 0 0,j u 0,y v 0 0,E C,j u 0] 200):=⟨_,rfl⟩;rw[<-hW4] at hb4 hx1 hx2 hx3 hx4;simp only[size_alloc] at hx2 hx3 hx4;have hgr:vO (w.1.size+1+1+1) W4:=⟨w,by omega,hb4,hT,hE,hL⟩;have hrc:eP W4 (w.1.size+1+1+1) s p (s.drop p) CJ wT:=⟨hx4,DL _ _,rfl,hp,hlim⟩;have wX:=hid (aff W4 hrc hgr);have HX:=hid (⟨hx1,hx2,hx3⟩:_/\_/\_);have HA1:Hid (oO (w.1.size+1+1+1) CJ w.1.size/\oO (w.1.size+1+1+1) CJ (w.1.size+1)/\oO (w.1.size+1+1+1) CJ (w.1.size+1+1)):=hid ⟨hrc.old ah,hrc.old ah,hrc.old ah⟩;have ig:=hid hb4;have HGR:=hid hgr;have Kb:=hid hrc;have HW4:=hid hW4;clear hW4 hx1 hx2 hx3 hx4 hb4 hgr hrc hE hL hb;go_wp2_with fail;rw[<-HW4.q];refine wX.q.mono ?_;intro e w5 he
   cases hrd:jh (s.drop p) with
   |error x=>
    rw[hrd] at he;obtain⟨rfl,hs⟩:=he;have hrl:bQ s p=(wT,((s.length - x.1.length:Nat):Int),x.2):=by
     unfold bQ mJ;rw[au ah,jB,hrd]
    rw[hrl];refine leaves_cons (f:=135) (args:=#[A (D ⟨w.1.size,0,v⟩),A (D ⟨w.1.size+1,0,v⟩),A (D ⟨w.1.size+1+1,0,v⟩)]) ak (by simp[go_sem]) ?_;refine(Nc w.1.size ((s.length - x.1.length:Nat):Int) x.2 _ _ _ _ _ _ _ _ [] w5 (hs.bx HX.q.1 HA1.q.1) (hs.bx HX.q.2.1 HA1.q.2.1) (hs.bx HX.q.2.2 HA1.q.2.2)).mono ?_;rintro e u' w6 ⟨rfl,rfl,k1,k2,k3,k4⟩;exact yA _ CJ w w6 rfl rfl rfl k1 k2 k3 (DL _ _) ((hs.below ig.q (λi hi=>Kb.q.old ah) ig.q.size).trans k4)
   |ok nr=>
    obtain⟨n,r⟩:=nr;rw[hrd] at he;obtain⟨rfl,p5,c5,BV,GH⟩:=he;have PU:=hid (afe hrd);have kF:=hid BV;have BQ:=hid GH;have vD:=hid (⟨GH.bx HX.q.1 HA1.q.1,GH.bx HX.q.2.1 HA1.q.2.1,GH.bx HX.q.2.2 HA1.q.2.2⟩:_/\_/\_);have P8:=hid (HGR.q.mv Kb.q GH.same).tabs;have kz:=hid (GH.same.below ig.q (λi hi=>Kb.q.old ah) ig.q.size);have c1:=BV.c1;have aoO:=hid (Zd hrd);have arM:=hid hrd;clear BV GH hrd;go_wp2_with fail;refine(aio s p5 r kF.q.d kF.q.le hlim aoO.q w5 P8.q).mono ?_;rintro e w6 ⟨k,a,t,g,rfl,hb6⟩;have BL:=hid (kF.q.below hb6);have TY:=NU vD.q hb6;have zA:=hid TY;have yF:=hid (kz.q.bZ hb6);have y1:=TY.2.1.1 0;have y2:=TY.2.2.1 0;have g1:=TY.2.1.2.1 0;have g2:=TY.2.2.2.1 0;obtain⟨er,her⟩:∃er,er=(uZ r).2:=⟨_,rfl⟩;obtain⟨nx,hnx⟩:∃nx,nx=p5+(uZ r).1:=⟨_,rfl⟩;rw[<-her,<-hnx];rw[<-her] at PU;have Ig:=hid hnx;clear hb6 TY c1 her hnx;obtain⟨V,hV⟩:∃V:World,V=(w6.setCell ⟨w.1.size+1,0,v⟩ (j u (nx:Int))).setCell ⟨w.1.size+1+1,0,v⟩ (j u er):=⟨_,rfl⟩;have HV:Hid (Bx V w.1.size #[j u 0,y v 0 0,j u 0,y v 0 0,E C,j u 0]/\Bx V (w.1.size+1) #[j u (nx:Int)]/\Bx V (w.1.size+1+1) #[j u er]/\eP V (w.1.size+1+1+1) s p5 r c5 n/\Below w.1.size w V):=hid (by
     rw[hV];refine⟨(zA.q.1.setOther _ _ _ ah).setOther _ _ _ ah,(zA.q.2.1.bf 0 ak _).setOther _ _ _ ah,(zA.q.2.2.setOther _ _ _ ah).bf 0 ak _,?_,?_⟩
     .have h1:=BL.q.put (w.1.size+1) 0 (j u (nx:Int)) (BL.q.old ah)
      exact h1.put (w.1.size+1+1) 0 _ (h1.old ah)
     .exact(yF.q.setCell (p:=⟨w.1.size+1,0,v⟩) ak _).setCell (p:=⟨w.1.size+1+1,0,v⟩) (by simp;omega) _)
    have MW:=hid hV;clear hV;rcases PU.q with⟨h0,t',hl,htl⟩|⟨h0,t',hl,htl⟩
    .subst h0
     have hrl:bQ s p=(n,(nx:Int),0):=by
      unfold bQ;rw[au ah,jB,hl];have:=kF.q.len;have:=Ig.q;simp only[show s.length - t'.length=nx by omega]
     have fG:=hid hrl;clear hl htl hrl;go_wp2_with fail;rw[<-MW.q];have v1:=HV.q.2.1.1 0;have v2:=HV.q.2.2.1.1 0;have v0:=HV.q.1.1;have k0:=HV.q.1.2.1;have k1:=HV.q.2.1.2.1 0;have k2:=HV.q.2.2.1.2.1 0;have Rc:=HV.q.2.2.2.1.x.1;obtain⟨V2,hV2⟩:∃V2:World,V2=((((((V.setCell ⟨w.1.size,0,v⟩ (j u c5.kind)).setCell ⟨w.1.size,1,v⟩ (y c5.na c5.nn c5.nc)).setCell ⟨w.1.size,2,v⟩ (j u c5.lvl)).setCell ⟨w.1.size,3,v⟩ (y c5.va c5.vn c5.vc)).setCell ⟨w.1.size,4,v⟩ (E c5.first)).setCell ⟨w.1.size,5,v⟩ (j u c5.bits)).drew:=⟨_,rfl⟩;have vM:Hid (Bx V2 w.1.size (bJ c5)/\Bx V2 (w.1.size+1) #[j u (nx:Int)]/\Bx V2 (w.1.size+1+1) #[j u 0]/\eP V2 (w.1.size+1+1+1) s p5 r c5 n/\Below w.1.size w V2):=hid (by
      rw[hV2];refine⟨?_,?_,?_,?_,?_⟩
      .exact((((((HV.q.1.bf 0 ak _).bf 1 ak _).bf 2 ak _).bf 3 ak _).bf 4 ak _).bf 5 ak _).drew
      .exact((((((HV.q.2.1.setOther _ 0 _ ah).setOther _ 1 _ ah).setOther _ 2 _ ah).setOther _ 3 _ ah).setOther _ 4 _ ah).setOther _ 5 _ ah).drew
      .exact((((((HV.q.2.2.1.setOther _ 0 _ ah).setOther _ 1 _ ah).setOther _ 2 _ ah).setOther _ 3 _ ah).setOther _ 4 _ ah).setOther _ 5 _ ah).drew
      .have hA:=HV.q.2.2.2.1.old (i:=w.1.size) ah
       exact((((((HV.q.2.2.2.1.put _ 0 _ hA).put _ 1 _ hA).put _ 2 _ hA).put _ 3 _ hA).put _ 4 _ hA).put _ 5 _ hA).drew
      .exact((((((HV.q.2.2.2.2.setCell (p:=⟨w.1.size,0,v⟩) (aB _) _).setCell (p:=⟨w.1.size,1,v⟩) (aB _) _).setCell (p:=⟨w.1.size,2,v⟩) (aB _) _).setCell (p:=⟨w.1.size,3,v⟩) (aB _) _).setCell (p:=⟨w.1.size,4,v⟩) (aB _) _).setCell (p:=⟨w.1.size,5,v⟩) (aB _) _).drew)
     have aoP:=hid hV2;clear hV2;refine aC 99 [(0,0),(1,0),(2,0),(3,0),(4,0),(5,2),(6,2),(7,2)] (λ_=>True) (λW'=>W'.cell? ⟨w.1.size+1+1+1,2,v⟩=D (j u c5.kind)/\W'.cell? ⟨w.1.size+1+1+1,3,v⟩=D (y c5.na c5.nn c5.nc)/\W'.cell? ⟨w.1.size+1+1+1,4,v⟩=D (j u c5.lvl)/\W'.cell? ⟨w.1.size+1+1+1,5,v⟩=D (y c5.va c5.vn c5.vc)/\W'.cell? ⟨w.1.size+1+1+1,6,v⟩=D (E c5.first)/\W'.cell? ⟨w.1.size+1+1+1,7,v⟩=D (j u c5.bits)/\W'.cell? ⟨w.1.size+1,0,v⟩=D (j u (nx:Int))) ay ay (trivial) (⟨Rc 2,Rc 3,Rc 4,Rc 5,Rc 6,Rc 7,v1⟩) ?_;refine qC ?_;refine aF rfl rfl (λK hK=>?_);go_simp;rw[<-aoP.q];refine hK _ _ ⟨trivial,vM.q.2.2.2.1.x.1 2,vM.q.2.2.2.1.x.1 3,vM.q.2.2.2.1.x.1 4,vM.q.2.2.2.1.x.1 5,vM.q.2.2.2.1.x.1 6,vM.q.2.2.2.1.x.1 7,vM.q.2.1.1 0⟩ ?_;clear hK K v1 v2 v0 k0 k1 k2 Rc;have v1:=vM.q.2.1.1 0;have v2:=vM.q.2.2.1.1 0;have k1:=vM.q.2.1.2.1 0;have k2:=vM.q.2.2.1.2.1 0;have hr1:=vM.q.2.2.2.1.put (w.1.size+1) 0 (j u (nx:Int)) (vM.q.2.2.2.1.old ah);have hr2:=hr1.put (w.1.size+1+1) 0 (j u 0) (hr1.old ah);have hq1:=vM.q.2.1.bf 0 ak (j u (nx:Int));have hq2:=hq1.setOther (w.1.size+1+1) 0 (j u 0) ah;have HR1:=hid (⟨hr1,hq1⟩:_/\_);have HR2:=hid (⟨hr2,hq2⟩:_/\_);clear hr1 hr2 hq1 hq2;refine aF rfl rfl (λK hK=>?_);go_simp;refine hK _ _ ⟨trivial,HR1.q.1.x.1 2,HR1.q.1.x.1 3,HR1.q.1.x.1 4,HR1.q.1.x.1 5,HR1.q.1.x.1 6,HR1.q.1.x.1 7,HR1.q.2.1 0⟩ ?_;clear hK K;refine aF rfl rfl (λK hK=>?_);go_simp;refine hK _ _ ⟨trivial,HR2.q.1.x.1 2,HR2.q.1.x.1 3,HR2.q.1.x.1 4,HR2.q.1.x.1 5,HR2.q.1.x.1 6,HR2.q.1.x.1 7,HR2.q.2.1 0⟩ ?_;clear hK K;refine aP ?_;go_wp2_with fail;obtain⟨V3,Ni⟩:∃V3:World,V3=(V2.setCell ⟨w.1.size+1,0,v⟩ (j u (nx:Int))).setCell ⟨w.1.size+1+1,0,v⟩ (j u 0):=⟨_,rfl⟩;rw[<-Ni];have hfin:Bx V3 w.1.size (bJ c5)/\Bx V3 (w.1.size+1) #[j u (nx:Int)]/\Bx V3 (w.1.size+1+1) #[j u 0]/\eP V3 (w.1.size+1+1+1) s p5 r c5 n/\Below w.1.size w V3:=by
      rw[Ni];refine⟨(vM.q.1.setOther _ 0 _ ah).setOther _ 0 _ ah,(vM.q.2.1.bf 0 ak _).setOther _ 0 _ ah,(vM.q.2.2.1.setOther _ 0 _ ah).bf 0 ak _,?_,?_⟩
      .have h1:=vM.q.2.2.2.1.put (w.1.size+1) 0 (j u (nx:Int)) (vM.q.2.2.2.1.old ah)
       exact h1.put (w.1.size+1+1) 0 _ (h1.old ah)
      .exact(vM.q.2.2.2.2.setCell (p:=⟨w.1.size+1,0,v⟩) ak _).setCell (p:=⟨w.1.size+1+1,0,v⟩) (by simp;omega) _
     refine leaves_cons (f:=135) (args:=#[A (D ⟨w.1.size,0,v⟩),A (D ⟨w.1.size+1,0,v⟩),A (D ⟨w.1.size+1+1,0,v⟩)]) ak (by simp[go_sem]) ?_;refine(abD w.1.size V3).mono ?_;rintro e u' w7 ⟨rfl,rfl,rfl⟩;rw[fG.q];exact yA _ c5 w w7 rfl rfl rfl hfin.1 hfin.2.1 hfin.2.2.1 (hfin.2.2.2.1.n.mono ah) hfin.2.2.2.2
    .have hne:(er !=0)=true:=by simpa using h0
     have hrl:bQ s p=(wT,(nx:Int),220):=by
      unfold bQ;rw[au ah,jB,hl];have:=kF.q.len;have:=Ig.q;simp only[show s.length - t'.length=nx by omega]
     have fG:=hid hrl;clear hl htl hrl;go_wp2_with fail;rw[<-MW.q];refine(mR nx 220 _).mono ?_;rintro e wb ⟨rfl,rfl⟩;refine leaves_cons (f:=135) (args:=#[A (D ⟨w.1.size,0,v⟩),A (D ⟨w.1.size+1,0,v⟩),A (D ⟨w.1.size+1+1,0,v⟩)]) ak (by simp[go_sem]) ?_;refine(Nc w.1.size (nx:Int) 220 _ _ _ _ _ _ _ _ [] wb HV.q.1 HV.q.2.1 HV.q.2.2.1).mono ?_;rintro e u' w7 ⟨rfl,rfl,k1,k2,k3,k4⟩;rw[fG.q];exact yA _ CJ w w7 rfl rfl rfl k1 k2 k3 (DL _ _) (HV.q.2.2.2.2.trans k4)
end Yd
