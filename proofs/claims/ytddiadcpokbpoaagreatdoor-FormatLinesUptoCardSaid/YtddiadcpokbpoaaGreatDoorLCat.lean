import Derived.Test.YtddiadcpokbpoaaGreatDoorLLs1
import Derived.Test.YtddiadcpokbpoaaGreatDoorLOf1
import Derived.Shelf.Spec.SlicesGrow
set_option linter.all false
set_option maxRecDepth 200000
set_option maxHeartbeats 8000000
namespace Yd
open Option renaming some->E,none->F
open Go Go.RowKit Go.Proofs Tryz
open Go renaming World->D,Value->J
open Go.IntKind renaming i64->u
open Go.Obj renaming cells->G
open Go.Value renaming slice->d,int->f,bool->L
open Same renaming of_below->H,refl'->M
open Yd renaming hid->z
open _root_ renaming List->y,Nat->C,trivial->I,Option->O
theorem u7 {A:C->Prop}{X Y:D}{row:O C}(hg:X.grownBy Y row)(h:∀g,row=E g->¬A g):Same A X Y:=
 ⟨hg.os,hg.tape,hg.output,hg.size,λi hi hl=>hg.block i hl (λe=>h i e.symm hi)⟩
theorem own_ne {α β:Type}{enc:α->y J}{enc':β->y J}{k k':C}{X:D}{B B':C}{T T':TypeId}{v v':J}{xs:y α}{ys:y β}(h:Own X B T k enc v xs)(h':Own X B' T' k' enc' v' ys)(hT:T≠T'){g:C}(e:v.ownBlock=E g):v'.ownBlock≠E g:=λe'=>by
 obtain⟨_,_,e1⟩:=h.tag e;obtain⟨_,_,e2⟩:=h'.tag e';rw[e1] at e2
 cases e2
 exact hT rfl
theorem iB.Cc {X Y:D}{B:C}{l:bB}{s:aP}{row:O C}(h:iB X B l s)(hg:X.grownBy Y row)(hr:∀g,row=E g->∃cs T fz,X.1[g]?=E (G cs T fz)/\9≠T/\52≠T):iB Y B l s:=by
 refine⟨h.1,h.2.1.grown hg (λg hv e=>?_),h.2.2.grown hg (λg hv e=>?_)⟩
 .obtain⟨cs,T,fz,e1,e2,_⟩:=hr g e
  obtain⟨_,_,e3⟩:=h.2.1.tag hv;rw[e1] at e3;cases e3;exact e2 rfl
 .obtain⟨cs,T,fz,e1,_,e2⟩:=hr g e
  obtain⟨_,_,e3⟩:=h.2.2.tag hv;rw[e1] at e3;cases e3;exact e2 rfl
theorem qH.Cc {X Y:D}{B:C}{aW:y bB}{ls:y aP}{row:O C}(h:qH X B aW ls)(hg:X.grownBy Y row)(hr:∀g,row=E g->∃cs T fz,X.1[g]?=E (G cs T fz)/\9≠T/\52≠T):qH Y B aW ls:=
 ⟨h.1,λi l hl=>let⟨s,h1,h2⟩:=h.2 i l hl;⟨s,h1,h2.Cc hg hr⟩⟩
theorem qH.same {w w':D}{B:C}{aW:y bB}{ls:y aP}(h:qH w B aW ls){A:C->Prop}(hs:Same A w w')(hA:∀i,B<=i->A i):qH w' B aW ls:=
 ⟨h.1,λi l hl=>let⟨s,h1,h2⟩:=h.2 i l hl;⟨s,h1,h2.1,h2.2.1.same hs (λg hg=>hA g (h2.2.1.lt g hg).1),h2.2.2.same hs (λg hg=>hA g (h2.2.2.lt g hg).1)⟩⟩
theorem qH.snoc {w:D}{B:C}{aW:y bB}{ls:y aP}(h:qH w B aW ls){l:bB}{s:aP}(hl:iB w B l s):qH w B (aW++[l]) (ls++[s]):=by
 have e:=h.1;refine⟨by simp[h.1],λi q hq=>?_⟩;rcases jP i aW.length with hi|hi
 .rw[wO hi] at hq
  obtain⟨t,h1,h2⟩:=h.2 i q hq;exact⟨t,by rw[wO ah];exact h1,h2⟩
 .rw[uZ hi] at hq
  have h0:i - aW.length=0:=by
   rcases Nat.eq_zero_or_pos (i - aW.length) with h0|h0
   .exact h0
   .rw[wP (by simp;omega)] at hq;cases hq
  rw[h0] at hq;injection hq with hq;subst hq;exact⟨s,by rw[uZ ah,show i - ls.length=0 by omega];rfl,hl⟩
theorem iB.same {w w':D}{B:C}{l:bB}{s:aP}(h:iB w B l s){A:C->Prop}(hs:Same A w w')(hA:∀i,B<=i->A i):iB w' B l s:=
 ⟨h.1,h.2.1.same hs (λg hg=>hA g (h.2.1.lt g hg).1),h.2.2.same hs (λg hg=>hA g (h.2.2.lt g hg).1)⟩
structure ru (K N:C)(X:D)(v4 v5 vL:J)(aW:y bB)(ls:y aP)(vP:J)(ps:y Int):Prop where
 x4:Bx X K #[v4]
 x5:Bx X (K+1) #[v5]
 oL:Own X N 30 6 mh vL aW
 aL:qH X N aW ls
 oP:Own X N 3 1 aQ vP ps
section
variable {K N:C}{X Y:D}{v4 v5 vL vP v':J}{aW:y bB}{ls:y aP}{ps:y Int}
theorem ru.same (h:ru K N X v4 v5 vL aW ls vP ps){A:C->Prop}(s:Same A X Y)(h4:A K)(h5:A (K+1))(hN:∀i,N<=i->A i):ru K N Y v4 v5 vL aW ls vP ps:=
 ⟨s.bx h.x4 h4,s.bx h.x5 h5,h.oL.same s (λg hg=>hN g (h.oL.lt g hg).1),h.aL.same s hN,h.oP.same s (λg hg=>hN g (h.oP.lt g hg).1)⟩
theorem ru.below (h:ru K N X v4 v5 vL aW ls vP ps)(hb:Below X.1.size X Y):ru K N Y v4 v5 vL aW ls vP ps:=h.same (A:=λ_=>True) (H hb (λi _ hl=>hl)) I I (λ_ _=>I)
theorem ru.aiS (h:ru K N X v4 v5 vL aW ls vP ps):∀g,vL.ownBlock=E g->∃cs T fz,X.1[g]?=E (G cs T fz)/\9≠T/\52≠T:=λg hg=>(let⟨cs,fz,e⟩:=h.oL.tag hg;⟨cs,_,fz,e,by decide,by decide⟩)
theorem ru.ap1 (h:ru K N X v4 v5 vL aW ls vP ps):∀g,vP.ownBlock=E g->∃cs T fz,X.1[g]?=E (G cs T fz)/\9≠T/\52≠T:=λg hg=>(let⟨cs,fz,e⟩:=h.oP.tag hg;⟨cs,_,fz,e,by decide,by decide⟩)
theorem ru.ai8 (h:ru K N X v4 v5 vL aW ls vP ps){l:bB}{s:aP}(hl:iB X N l s)(ho:Own Y N 30 6 mh v' (aW++[l]))(hg:X.grownBy Y vL.ownBlock)(hK:K+1<N):ru K N Y v4 v5 v' (aW++[l]) (ls++[s]) vP ps:=
 ⟨h.x4.grown hg (λe=>by have:=(h.oL.lt _ e).1;omega),h.x5.grown hg (λe=>by have:=(h.oL.lt _ e).1;omega),ho,(h.aL.Cc hg h.aiS).snoc (hl.Cc hg h.aiS),h.oP.grown hg (λg hv e=>own_ne h.oP h.oL aj hv e)⟩
theorem ru.ai9 (h:ru K N X v4 v5 vL aW ls vP ps){p:Int}(ho:Own Y N 3 1 aQ v' (ps++[p]))(hg:X.grownBy Y vP.ownBlock)(hK:K+1<N):ru K N Y v4 v5 vL aW ls v' (ps++[p]):=
 ⟨h.x4.grown hg (λe=>by have:=(h.oP.lt _ e).1;omega),h.x5.grown hg (λe=>by have:=(h.oP.lt _ e).1;omega),h.oL.grown hg (λg hv e=>own_ne h.oL h.oP aj hv e),h.aL.Cc hg h.ap1,ho⟩
theorem ru.ani (h:ru K N X v4 v5 vL aW ls vP ps)(v:J)(hK:K+1<N):ru K N (X.setCell ⟨K,0,F⟩ v) v v5 vL aW ls vP ps:=by
 have s:Same (λi=>i≠K) X (X.setCell ⟨K,0,F⟩ v):=(M X).setTail (λh=>h rfl);exact⟨h.x4.set1 v,s.bx h.x5 ah,h.oL.same s (λg hg=>by have:=(h.oL.lt g hg).1;omega),h.aL.same s (λ_ hi=>by omega),h.oP.same s (λg hg=>by have:=(h.oP.lt g hg).1;omega)⟩
theorem ru.anj (h:ru K N X v4 v5 vL aW ls vP ps)(v:J)(hK:K+1<N):ru K N (X.setCell ⟨K+1,0,F⟩ v) v4 v vL aW ls vP ps:=by
 have s:Same (λi=>i≠K+1) X (X.setCell ⟨K+1,0,F⟩ v):=(M X).setTail (λh=>h rfl);exact⟨s.bx h.x4 ah,h.x5.set1 v,h.oL.same s (λg hg=>by have:=(h.oL.lt g hg).1;omega),h.aL.same s (λ_ hi=>by omega),h.oP.same s (λg hg=>by have:=(h.oP.lt g hg).1;omega)⟩
end
theorem Db (s:Bs):∀(n p:C),(jF s n p).length<=n
 |0,_=>aA _
 |n+1,p=>by
  unfold jF
  split
  .rw[jd]
   split
   .exact Nat.succ_le_succ (Db s n _)
   .exact Nat.succ_le_succ (aV _)
  .exact aV _
theorem Row.ln1 (X:D)(l:bB):Row (X.alloc (G #[f u l.kind,d l.na l.nn l.nc,f u l.lvl,d l.va l.vn l.vc,L l.first,f u l.bits] 30)) 6 mh (E ⟨X.1.size,0,F⟩) 1 1 [l]:=
 (Own.new (hc:=Bq) X X.1.size 30 (kg l) [l] (aA _) rfl (by simp[maxLen])).row au
def p9 (s:Bs):Except (Int × Int) (y (aP × Int)):=if 131072<s.length then .error (0,3) else xZ s (s.length+1) 0
def abg (s:Bs)(w:D)(e:Ending)(X:D):Prop:=
 Below w.1.size w X/\
 match p9 s with
 | .ok r=>∃a c aW pa pc,e= .returned (.tuple #[d a aW.length c,d pa r.length pc,f u (s.length:Int),f u 0])/\Own X w.1.size 30 6 mh (d a aW.length c) aW/\qH X w.1.size aW (r.map Prod.fst)/\Own X w.1.size 3 1 aQ (d pa r.length pc) (r.map Prod.snd)
 | .error (n,m)=>e= .returned (.tuple #[d F 0 0,d F 0 0,f u n,f u m])
@[reducible] def aa2 (s:aP):aP:={s with names:=s.names.take 320,aF:=s.aF.take 50}
def xu (ls:y aP):y aP:=(ls.take 80).map aa2
theorem aa3 {ls:y aP}{k:C}{s:aP}(h:ls[k]?=E s)(hk:k<80):xu (ls.take (k+1))=xu (ls.take k)++[aa2 s]:=by
 unfold xu;have e:ls.take (k+1)=ls.take k++[s]:=by rw[eO,h];rfl
 rw[e,dR (by simp;omega),dR (l:=ls.take k) (by simp;omega),gK]
 rfl
theorem aa4 {ls:y aP}{k:C}(hk:80<=k):xu (ls.take (k+1))=xu (ls.take k):=by
 unfold xu;rw[List.take_take,List.take_take,zF ah,zF hk]
theorem SG (ls:y aP):(xu ls).length<=80:=by unfold xu;rw[bH,dN];omega
structure wK (X:D)(N:C)(v:J)(aW:y bB)(ls:y aP):Prop where
 o:Own X N 30 6 mh v aW
 a:qH X N aW ls
section
variable {X Y:D}{N:C}{v v':J}{aW:y bB}{ls:y aP}
theorem wK.same (h:wK X N v aW ls){A:C->Prop}(s:Same A X Y)(hN:∀i,N<=i->A i):wK Y N v aW ls:=⟨h.o.same s (λg hg=>hN g (h.o.lt g hg).1),h.a.same s hN⟩
theorem wK.below (h:wK X N v aW ls)(hb:Below X.1.size X Y):wK Y N v aW ls:=h.same (A:=λ_=>True) (H hb (λi _ hl=>hl)) (λ_ _=>I)
theorem wK.alB (h:wK X N v aW ls)(s:Same (λi=>i<X.1.size) X Y):wK Y N v aW ls:=
 ⟨h.o.same s (λg hg=>(h.o.lt g hg).2),h.a.1,λi l hl=>let⟨q,h1,h2⟩:=h.a.2 i l hl;⟨q,h1,h2.1,h2.2.1.same s (λg hg=>(h2.2.1.lt g hg).2),h2.2.2.same s (λg hg=>(h2.2.2.lt g hg).2)⟩⟩
theorem wK.tag (h:wK X N v aW ls):∀g,v.ownBlock=E g->∃cs T fz,X.1[g]?=E (G cs T fz)/\9≠T/\52≠T:=λg hg=>(let⟨cs,fz,e⟩:=h.o.tag hg;⟨cs,_,fz,e,by decide,by decide⟩)
theorem wK.grow (h:wK X N v aW ls){l:bB}{s:aP}(hl:iB X N l s)(ho:Own Y N 30 6 mh v' (aW++[l]))(hg:X.grownBy Y v.ownBlock):wK Y N v' (aW++[l]) (ls++[s]):=⟨ho,(h.a.Cc hg h.tag).snoc (hl.Cc hg h.tag)⟩
theorem wK.nil (X:D)(N:C):wK X N (d F 0 0) [] []:=⟨Own.fJ _ _ _ _ _,rfl,λi l h=>(by cases h)⟩
end
def aiT (w:D)(ls:y aP)(e:Ending)(X:D):Prop:=∃a c aW,e= .returned (d a aW.length c)/\wK X w.1.size (d a aW.length c) aW ls/\Below w.1.size w X
theorem ad1 (a:O Addr)(c:C)(aW:y bB)(ls:y aP)(w:D)(hr:Row w 6 mh a aW.length c aW)(hl:aW.length=ls.length)(hin:∀(i:C)(l:bB),aW[i]?=E l->∃s,ls[i]?=E s/\Di w l s):
  Calls Tryz.prog 5 #[d a aW.length c] w (aiT w (xu ls)):=by
 have HR:=z hr;have HI:=z hin;have HLEN:=z hl;have hnn:=hr.le;obtain⟨ii,zi,hi⟩:=GZ;have vJ:=z hi;clear hr hin hl hi;go_enter func5,ntmps5;go_wp2_with fail
 go_loopw [3,8] (λv i X=>∃(k:C)(a0:O Addr)(c0:C)(out:y bB),k<=aW.length/\v= d a0 out.length c0/\i= f u k/\wK X w.1.size (d a0 out.length c0) out (xu (ls.take k))/\out.length<=80/\Below w.1.size w X) (λ_ i _=>aW.length - (RowKit.intOf i).toNat)
 case atStart=>exact⟨0,F,0,[],aV _,rfl,rfl,wK.nil _ _,aV _,Below.refl _ _⟩
 case round=>
  obtain⟨k,a0,c0,out,hk,rfl,rfl,hrow,hol,hb⟩:=hrel;by_cases hlt:k<aW.length
  .obtain⟨x,b,o,hx,rfl,hc⟩:=HR.q.at_ hlt
   obtain⟨s,hs,hat⟩:=HI.q k x hx;have h0:=bn hb rfl (hc 0 _ rfl);have h1:=bn hb rfl (hc 1 _ rfl);have h2:=bn hb rfl (hc 2 _ rfl);have h3:=bn hb rfl (hc 3 _ rfl);have h4:=bn hb rfl (hc 4 _ rfl);have h5:=bn hb rfl (hc 5 _ rfl);simp only[bM] at h0;obtain⟨lk,na,nn,nc,lvl,va,vn,vc,lf,bits⟩:=x;obtain⟨sk,xs,sl,vs,sf,sb⟩:=s;obtain⟨⟨q1,q2,q3,q4⟩,hn,hv⟩:=hat;simp only at q1 q2 q3 q4 hn hv h0 h1 h2 h3 h4 h5;subst q1 q2 q3 q4;by_cases ap2:k<80
   .have hstep:=aa3 hs ap2
    have hln:=hn.len;have hlv:=hv.len;have hcn:=hn.2.1;have hcv:=hv.2.1;have hmn:min (nn:Int) 320=((min nn 320:C):Int):=by omega
    have hmv:min (vn:Int) 50=((min vn 50:C):Int):=by omega
    have e1:(xs.take 320).length=min nn 320:=by rw[dN];omega
    have e2:(vs.take 50).length=min vn 50:=by rw[dN];omega
    obtain⟨m,hm⟩:∃m,m=min nn 320:=⟨_,rfl⟩;obtain⟨j,hj⟩:∃j,j=min vn 50:=⟨_,rfl⟩;rw[<-hm] at hmn e1;rw[<-hj] at hmv e2;have ate:m<=nc:=by omega
    have hjle:j<=vc:=by omega
    have Fb:=z (λW (hb:Below w.1.size w W)=>zo na nc (xs.take 320) W ((hn.Sz 320).below hb rfl) ah);have Ih:=z (λW (hb:Below w.1.size w W)=>ad5 va vc (vs.take 50) W ((hv.Sz 50).below hb rfl) ah);rw[e1] at Fb;rw[e2] at Ih;have HB1:=z (aB hb (G #[f u lk,d na nn nc,f u lvl,d va vn vc,L lf,f u bits] 30));have bP:=z (Bx.new wr #[f u lk,d na nn nc,f u lvl,d va vn vc,L lf,f u bits] 30);have HR1:=z hrow;have iE:Hid (Same (λi=>i<wr.1.size) wr (wr.alloc (G #[f u lk,d na nn nc,f u lvl,d va vn vc,L lf,f u bits] 30)).drew):=z (H (aB (Below.refl wr.1.size wr) _).drew (λi h _=>h));have HE:=z (⟨e1,e2⟩:_/\_);have TN:=z hstep;have HOL:=z hol;have vY:=z (⟨bP.q.1 1,bP.q.1 3⟩:_/\_);have bE:Hid (w.1.size<=wr.1.size):=z hb.size;clear hc hx hs hn hv hln hlv hcn hcv hm hj e1 e2 hrow hstep;go_wp2_with fail;refine aC 17 [(0,0),(1,0),(2,0),(3,0),(4,1),(5,1),(6,1),(8,0),(9,0),(10,0),(11,0),(12,1),(13,1),(14,1),(7,2),(16,1),(15,2),(17,2),(18,1),(19,2)] (λ_=>True) (λW'=>W'.cell? ⟨wr.1.size,1,F⟩=E (d na nn nc)/\W'.cell? ⟨wr.1.size,3,F⟩=E (d va vn vc)) av av (trivial) (vY.q) ?_;refine qC ?_;refine aD rfl rfl (λK hK=>?_);go_simp;refine(Fb.q _ HB1.q.drew).mono ?_;rintro e w1 ⟨a1,c1,rfl,ho1,hb1⟩;rw[HE.q.1] at ho1 ⊢;go_simp;refine hK _ _ ⟨I,bn hb1 rfl vY.q.1,bn hb1 rfl vY.q.2⟩ ?_;have HB2:=z (HB1.q.drew.trans (hb1.mono HB1.q.size));have bL:=z (bP.q.drew.keep hb1);have iA:=z ho1;have HS2:=z (iE.q.tr (H hb1 (λi _ h=>h)));clear hK K hb1 ho1;refine qC ?_;refine aD rfl rfl (λK hK=>?_);go_simp;refine(Ih.q _ HB2.q).mono ?_;rintro e w2 ⟨a2,c2,rfl,ho2,hb2⟩;rw[HE.q.2] at ho2 ⊢;go_simp;refine hK _ _ ⟨I,bn hb2 rfl (bL.q.1 1),bn hb2 rfl (bL.q.1 3)⟩ ?_;have HB3:=z (HB2.q.bO hb2);have eX:=z (bL.q.keep hb2);have lV:=z (iA.q.below hb2 rfl);have Gm:=z ho2;have jD:=z (HS2.q.tr (H hb2 (λi _ h=>h)));have HZ3:Hid (wr.1.size<w1.1.size):=z bL.q.2.2;clear hK K hb2 ho2;refine bq rfl rfl rfl (λK hK=>?_);go_simp;have hcx:=eX.q.1;have hfx:=eX.q.2.1;have hlx:=eX.q.2.2;go_simp;refine hK _ _ I ?_;clear hK K hcx hfx hlx;have lu:Hid (Bx (w2.setCell ⟨wr.1.size,1,F⟩ (d a1 m c1)) wr.1.size #[f u lk,d a1 m c1,f u lvl,d va vn vc,L lf,f u bits]):=z (eX.q.aZ 1 au _);refine qC ?_;refine bq rfl rfl rfl (λK hK=>?_);go_simp;have hcx:=eX.q.1;have hfx:=eX.q.2.1;have hlx:=eX.q.2.2;go_simp;refine hK _ _ I ?_;clear hK K hcx hfx hlx;have pO:Hid (Bx ((w2.setCell ⟨wr.1.size,1,F⟩ (d a1 m c1)).setCell ⟨wr.1.size,3,F⟩ (d a2 j c2)) wr.1.size #[f u lk,d a1 m c1,f u lvl,d a2 j c2,L lf,f u bits]):=z (lu.q.aZ 3 au _);refine aJ ?_;have hs:Same (λi=>i≠wr.1.size) w2 ((w2.setCell ⟨wr.1.size,1,F⟩ (d a1 m c1)).setCell ⟨wr.1.size,3,F⟩ (d a2 j c2)):=((M w2).setTail (λh=>h rfl)).setTail (λh=>h rfl);revert pO hs;generalize(w2.setCell ⟨wr.1.size,1,F⟩ (d a1 m c1)).setCell ⟨wr.1.size,3,F⟩ (d a2 j c2)=Z;intro pO hs;have iO:=z (hs.below HB3.q (λi hi=>by have:=HB1.q.size;have:=eX.q.2.2;have:=bE.q;omega) HB3.q.size);have Ya:=z (HR1.q.alB (jD.q.tr (hs.mono (λi hi _=>by omega))));have nL:Hid (iB Z w.1.size ⟨lk,a1,m,c1,lvl,a2,j,c2,lf,bits⟩ (aa2 ⟨lk,xs,lvl,vs,lf,bits⟩)):=z ⟨⟨rfl,rfl,rfl,rfl,HE.q.1.symm,HE.q.2.symm⟩,(lV.q.same hs (λg hg=>by have:=(lV.q.lt g hg).1;simp at this;omega)).mono HB1.q.drew.size,(Gm.q.same hs (λg hg=>by have:=(Gm.q.lt g hg).1;have:=HZ3.q;omega)).mono HB2.q.size⟩;clear hs jD lV Gm;have hx5:=pO.q.1
    go_wp2_with (at_builtin;refine eB rfl _ _ 22 rfl ii zi 80 underlying22 vJ.q.1 vJ.q.2.1 vJ.q.2.2.1 vJ.q.2.2.2.1 vJ.q.2.2.2.2 rfl (Ya.q.o.alloc _) (E ⟨Z.1.size,0,F⟩) 1 1 (out.length+1) [⟨lk,a1,m,c1,lvl,a2,j,c2,lf,bits⟩] rfl (Row.ln1 Z _) rfl (by have:=HOL.q;omega) (by have:=HOL.q;unfold maxLen;omega) (by have:=iO.q.size;simp;omega) ?_;intro a' c' w5 hown hg hat)
    have kr:=aB (Below.refl Z.1.size Z) (G #[f u lk,d a1 m c1,f u lvl,d a2 j c2,L lf,f u bits] 30);have e1:(out++[(⟨lk,a1,m,c1,lvl,a2,j,c2,lf,bits⟩:bB)]).length=out.length+1:=by simp
    have Ta:Hid (wK w5 w.1.size (d a' (out.length+1) c') (out++[⟨lk,a1,m,c1,lvl,a2,j,c2,lf,bits⟩]) (xu (ls.take (k+1)))):=z (by
     rw[TN.q];exact(Ya.q.below kr).grow (nL.q.below kr) hown hg)
    have jv:Hid (Below w.1.size w w5):=z ((u7 (A:=λi=>i<w.1.size) hg (λg e h=>by have:=(Ya.q.o.lt g e).1;omega)).below (aB iO.q _) (λi hi=>hi) (aB iO.q _).size);have Il:=z e1;clear hown hg hat kr e1 hx5;go_roundw
    case rel=>exact⟨k+1,a',c',_,by omega,by rw[Il.q],by go_num,by rw[Il.q];exact Ta.q,by rw[Ta.q.a.1];exact SG _,jv.q⟩
    case measure=>simp[RowKit.intOf];omega
   .have hstep:=aa4 (ls:=ls) (k:=k) ah
    have HRK:=z (hrow.below (aB (Below.refl _ _) (G #[f u lk,d na nn nc,f u lvl,d va vn vc,L lf,f u bits] 30)));have RD:=z (aB hb (G #[f u lk,d na nn nc,f u lvl,d va vn vc,L lf,f u bits] 30));have HOL:=z hol;have HST:=z hstep;clear hc hx hs hn hv hrow hb hol hstep;go_wp2_with fail;go_roundw
    case rel=>exact⟨k+1,a0,c0,out,by omega,rfl,by go_num,by rw[HST.q];exact HRK.q,HOL.q,RD.q⟩
    case measure=>simp[RowKit.intOf];omega
  .have hkk:k=aW.length:=by omega
   have e:xu (ls.take k)=xu ls:=by rw[dR (by have:=HLEN.q;omega)]
   rw[e] at hrow;have HRK:=z hrow;have RD:=z hb;clear hrow hb e hkk;go_wp2_with fail;go_ret;exact⟨a0,c0,out,rfl,HRK.q,RD.q⟩
end Yd
namespace Yd
open Go Go.RowKit Go.Proofs Go.Shelf Tryz
open Go.Value renaming slice->f,int->j
open RowKit renaming intOf->d
def renG:Ren:=⟨λ_=>14,fun|0=>0|3=>3|4=>4|9=>9|20=>20|22=>22|25=>30|k=>k,λk=>k⟩
theorem aiV:Lays8.n4 Tryz.prog renG where
 mixed:=av
 f4:=Exists.intro ("slices.Grow[[]yardarm/api.Line,yardarm/api.Line]") (And.intro av av)
 t0:=av
 a0:=λw=>by kernel_rfl
 z0:=λw=>by kernel_rfl
 v0:=λw=>by kernel_rfl
 t3:=av
 a3:=λw=>by kernel_rfl
 z3:=λw=>by kernel_rfl
 v3:=λw=>by kernel_rfl
 t4:=av
 a4:=λw=>by kernel_rfl
 z4:=λw=>by kernel_rfl
 v4:=λw=>by kernel_rfl
 t9:=av
 a9:=λw=>by kernel_rfl
 z9:=λw=>by kernel_rfl
 v9:=λw=>by kernel_rfl
 t20:=av
 a20:=λw=>by kernel_rfl
 z20:=λw=>by kernel_rfl
 v20:=λw=>by kernel_rfl
 t22:=av
 a22:=λw=>by kernel_rfl
 z22:=λw=>by kernel_rfl
 v22:=λw=>by kernel_rfl
theorem aa5 (n:Nat)(hn:n<=100000)(w:World):Calls Tryz.prog 14 #[f none 0 0,j .i64 n] w (λe X=>∃a c,e= .returned (f a 0 c)/\Own X w.1.size 30 6 mh (f a 0 c) []/\Below w.1.size w X):=by
 rcases Nat.eq_zero_or_pos n with rfl|h0
 .refine(Any8.slices_Grow_room aiV none 0 0 0 w ah ah ah ah).mono ?_
  rintro e X ⟨rfl,rfl⟩;exact⟨none,0,rfl,Own.fJ _ _ _ _ _,Below.refl _ _⟩
 .obtain⟨ii,zi,hi,hz,hsize,uT,hzs⟩:=GZ
  have hge:=grownCap_ge w (0+n) 0 30;have hle:=grownCap_le_maxLen w (0+n) 0 30 (by unfold maxLen;omega);refine(Any8.slices_Grow_grow aiV ii zi hi hz ah none 0 0 n [] w ah ah (by rw[uT];omega) ah au (λ_=>rfl) (λa h=>by cases h)).mono ?_;rintro e X ⟨rfl,rfl⟩;refine⟨_,_,rfl,⟨rfl,.inr ⟨w.1.size,_,_,rfl,aA _,eH w.drew _,aV _,hle,?_,rfl⟩⟩,aB (Below.refl w.1.size w).drew _⟩;show((#[]++Builtin.zeroCells zi.cells (0+n - 0))++Builtin.zeroCells zi.cells (grownCap w (0+n) 0 30 - (0+n))).size=grownCap w (0+n) 0 30*6;rw[Array.size_append,Array.size_append,size_zeroCells,size_zeroCells,hzs];simp only[zD,mg];omega
theorem XD {a1 a2:Option Addr}{c1 c2 n1 n2 b:Nat}{xs ys:List bB}{w:World}(h1:Row w 6 mh a1 n1 c1 xs)(h2:Row w 6 mh a2 n2 c2 ys)(hx:Bx w b #[f a1 n1 c1,f a2 n2 c2])(hl:n1+n2<=100000):
  Calls Tryz.prog 6 #[f (some ⟨b,0,none⟩) 2 2] w (kQ 30 6 mh (xs++ys) w):=by
 have HX:=hid hx;have H1:=hid h1;have H2:=hid h2;have hw1:wrap64 (n1:Int)=n1:=by unfold wrap64;omega
 have hw2:wrap64 ((n1:Int)+n2)=((n1+n2:Nat):Int):=by unfold wrap64;omega
 have HL:=hid hl;clear hx h1 h2;go_enter func6,ntmps6;go_wp2_with fail
 go_loopw [3,11] (λs i X=>X=w/\((i= j .i64 0/\s= j .i64 0)\/(i= j .i64 1/\s= j .i64 n1)\/(i= j .i64 2/\s= j .i64 ((n1+n2:Nat):Int)))) (λ_ i _=>2 - (d i).toNat)
 case atStart=>exact⟨rfl,.inl ⟨rfl,rfl⟩⟩
 case round=>
  obtain⟨OT,h⟩:=hrel;obtain rfl:w=wr:=OT.symm;have hc0:=HX.q.1 0;have hc1:=HX.q.1 1;rcases h with⟨rfl,rfl⟩|⟨rfl,rfl⟩|⟨rfl,rfl⟩
  .have hn:¬((n1:Int)<0):=by omega
   go_wp2_with fail;go_roundw
   case rel=>exact⟨trivial,.inr (.inl ⟨rfl,rfl⟩)⟩
   case measure=>simp[d]
  .have hn:¬(((n1+n2:Nat):Int)<0):=by omega
   go_wp2_with fail;go_roundw
   case rel=>exact⟨trivial,.inr (.inr ⟨rfl,rfl⟩)⟩
   case measure=>simp[d]
  .clear hc0 hc1 hw1 hw2 hl
   go_wp2_with fail;refine(aa5 (n1+n2) HL.q _).mono ?_;rintro e X ⟨a,c,rfl,ho,hb⟩;have HO:=hid ho;have HB:=hid hb;clear ho hb;go_wp2_with fail;obtain⟨ii,zi,hi⟩:=GZ;have vJ:=hid hi;clear hi
   go_loopw [6,27] (λv i Y=>Below w.1.size w Y/\∃a c,((i= j .i64 0/\v= f a 0 c/\Own Y w.1.size 30 6 mh (f a 0 c) [])\/(i= j .i64 1/\v= f a n1 c/\Own Y w.1.size 30 6 mh (f a n1 c) xs)\/(i= j .i64 2/\v= f a (n1+n2) c/\Own Y w.1.size 30 6 mh (f a (n1+n2) c) (xs++ys)))) (λ_ i _=>2 - (d i).toNat)
   case atStart=>exact⟨HB.q,a,c,.inl ⟨rfl,rfl,HO.q⟩⟩
   case round=>
    obtain⟨hb,a,c,h⟩:=hrel;have hc0:=(HX.q.keep hb).1 0;have hc1:=(HX.q.keep hb).1 1;have h1:=H1.q.below hb rfl;have h2:=H2.q.below hb rfl;have HB2:=hid hb;rcases h with⟨rfl,rfl,ho⟩|⟨rfl,rfl,ho⟩|⟨rfl,rfl,ho⟩
    .have iA:=hid ho;have HR:=hid h1
     clear ho h1 h2 hb
     go_wp2_with (at_builtin;refine eB rfl _ _ 22 rfl ii zi 80 underlying22 vJ.q.1 vJ.q.2.1 vJ.q.2.2.1 vJ.q.2.2.2.1 vJ.q.2.2.2.2 rfl iA.q a1 n1 c1 n1 xs rfl HR.q au (by have:=HL.q;omega) (by have:=HL.q;unfold maxLen;omega) HB2.q.size ?_;intro a' c' w5 hown hg hat)
     have jv:=hid ((u7 (A:=λi=>i<w.1.size) hg (λg e h=>by have:=(iA.q.lt g e).1;omega)).below HB2.q (λi hi=>hi) HB2.q.size);have Al:=hid hown;clear hown hg hat hc0 hc1;go_roundw
     case rel=>exact⟨jv.q,a',c',.inr (.inl ⟨rfl,rfl,Al.q⟩)⟩
     case measure=>simp[d]
    .have iA:=hid ho;have HR:=hid h2
     clear ho h1 h2 hb
     go_wp2_with (at_builtin;refine eB rfl _ _ 22 rfl ii zi 80 underlying22 vJ.q.1 vJ.q.2.1 vJ.q.2.2.1 vJ.q.2.2.2.1 vJ.q.2.2.2.2 rfl iA.q a2 n2 c2 (n1+n2) ys rfl HR.q (by rw[H1.q.len]) (by have:=HL.q;omega) (by have:=HL.q;unfold maxLen;omega) HB2.q.size ?_;intro a' c' w5 hown hg hat)
     have jv:=hid ((u7 (A:=λi=>i<w.1.size) hg (λg e h=>by have:=(iA.q.lt g e).1;omega)).below HB2.q (λi hi=>hi) HB2.q.size);have Al:=hid hown;clear hown hg hat hc0 hc1;go_roundw
     case rel=>exact⟨jv.q,a',c',.inr (.inr ⟨rfl,rfl,Al.q⟩)⟩
     case measure=>simp[d]
    .have iA:=hid ho
     have e:(xs++ys).length=n1+n2:=by rw[dH,H1.q.len,H2.q.len]
     have HE:=hid e;clear ho h1 h2 hb hc0 hc1 e;go_wp2_with fail;go_ret;exact⟨a,c,by rw[HE.q];rfl,by rw[HE.q];exact iA.q,HB2.q⟩
end Yd
