import Derived.Test.YtddiadcpokbpoaaGreatDoorLFm14
import Derived.Test.YtddiadcpokbpoaaGreatDoorLRSpk
set_option linter.all false
set_option maxRecDepth 200000
set_option maxHeartbeats 8000000
namespace Yd
open Option renaming some->j,none->m
open Go Go.RowKit Go.Proofs
open Below renaming heap_alloc->D,refl->E
open Go renaming World->r,callFunc->u,Value->y
open Go.Value renaming pointer->o,bool->p,int->A,slice->C
open Tryz renaming prog->g
open World renaming alloc_heap_new->z
open _root_ renaming Array->x
def Ux (B:Nat)(w:r):Prop:=∀W,Same (λi=>i<B) w W->vE W
def BL (B R:Nat)(d:Cont)(w:r)(e:Ending)(w':r):Prop:=
 Same (λi=>i<B) w w'/\(aI d->e= .returned (p true)/\∃cs es ds ms,jy B w' R cs d es ds ms)/\(¬aI d->e= .returned (p false))
theorem ZR (l:bB)(w:r):Calls g 34 #[jg l] w λe w'=>e= .returned (.tuple #[])/\Below w.1.size w w':=by
 have HB:=hid (aB (E w.1.size w) (.cells (kg l) 30));obtain⟨lk,la,ln,nc,lvl,va,vn,vc,lf,bits⟩:=l;go_enter Tryz.func34,Tryz.ntmps34;go_wp2_with fail;refine bodyPost_end (results_none rfl _ _ _) rfl ?_;exact⟨rfl,HB.q⟩
theorem Px {B R:Nat}{d:Cont}{b:Bool}(tmps:x y)(w w':r)(h4:tmps[4]?.getD undef= o (j ⟨w.1.size+1,0,m⟩))(h1:Bx w' (w.1.size+1) #[p b])(hr:BL B R d w (.returned (p b)) w'):
  Leaves g Tryz.f16 tmps (BL B R d w) [] .returning w':=by
 have a0:=h1.1 0;refine⟨p b,?_,hr⟩;simp[results,Tryz.results16,go_sem,h4,a0]
theorem vK.below {w w':r}{B:Nat}{l:bB}{s:aP}(h:vK w B l s)(hb:Below w.1.size w w'):vK w' B l s:=⟨h.k,h.n.below hb rfl,h.v.below hb rfl,h.na,h.va⟩
section
variable {B R:Nat}{cs:x y}{c:Cont}{es:List EvC}{ds:List aM}{ms:List aN}
@[reducible] def adds (R:Nat):x y:=#[.func (.func 34) #[] #[],.func (.func 35) #[o (j ⟨R,0,m⟩)] #[],.func (.func 36) #[o (j ⟨R,0,m⟩)] #[],.func (.func 37) #[o (j ⟨R,0,m⟩)] #[],.func (.func 38) #[o (j ⟨R,0,m⟩)] #[],.func (.func 39) #[o (j ⟨R,0,m⟩)] #[],.func (.func 39) #[o (j ⟨R,0,m⟩)] #[],.func (.func 40) #[o (j ⟨R,0,m⟩)] #[],.func (.func 41) #[o (j ⟨R,0,m⟩)] #[],.func (.func 42) #[o (j ⟨R,0,m⟩)] #[]]
theorem qI (l:bB)(s:aP)(w:r)(k F:Nat)(fa:x y)(h:jy B w R cs c es ds ms)(hl:vK w B l s)(hG:Ux B w)(hk:s.kind=(k:Int))(IX:k<10)(hF:(adds R)[k]?=j (.func (.func F) fa #[]))
  (eg:∀args w,(u F args).run g w= .ok (.enter F args) w)
  (hS:∀W K,jy B W R cs c es ds ms->vK W B l s->nC B K W->oM W K->R<K->Calls g F (fa++#[jg l]) W (gN B K R (aO c s) W)):
  Calls g 16 #[o (j ⟨R,0,m⟩),jg l] w (BL B R (aO c s) w):=by
 have Oi:∀(fn:Fn)(first cap:x y)(w:r),(Instr.makeFunc fn first cap).run g w= .ok (.func fn first cap) w:=λ_ _ _ _=>rfl
 have hkl:=hl.k.1;rw[hk] at hkl;obtain⟨kd,la,ln,nc,lvl,va,vn,vc,lf,bits⟩:=l;simp only at hkl;subst hkl;have g0:¬((k:Int)<0):=by omega
 have g1:(k:Int)<10:=by omega
 obtain⟨W1,hW1⟩:∃W,W=w.alloc (.cells #[A .i64 (k:Int),C la ln nc,A .i64 lvl,C va vn vc,p lf,A .i64 bits] 30):=⟨_,rfl⟩;obtain⟨W2,hW2⟩:∃W,W=W1.alloc (.cells #[p false] 4):=⟨_,rfl⟩;obtain⟨W0,hW0⟩:∃W,W=W2.alloc (.cells (adds R) 93):=⟨_,rfl⟩;have hs1:W1.1.size=w.1.size+1:=by rw[hW1];simp
 have hs2:W2.1.size=w.1.size+2:=by rw[hW2,World.size_alloc,hs1]
 have hb1:Below w.1.size w W1:=by rw[hW1];exact aB (E _ _) _
 have hb2:Below w.1.size w W2:=by rw[hW2];exact aB hb1 _
 have hb0:Below w.1.size w W0:=by rw[hW0];exact aB hb2 _
 have hbx:Bx W0 w.1.size #[A .i64 (k:Int),C la ln nc,A .i64 lvl,C va vn vc,p lf,A .i64 bits]/\Bx W0 (w.1.size+1) #[p false]/\Bx W0 (w.1.size+2) (adds R):=by
  refine⟨?_,?_,?_⟩
  .rw[hW0,hW2,hW1];exact((Bx.new w _ _).alloc _).alloc _
  .rw[hW0,hW2,<-hs1];exact(Bx.new W1 _ _).alloc _
  .rw[hW0,<-hs2];exact Bx.new W2 _ _
 have hbt:W0.1[w.1.size+1]?=j (.cells #[p false] 4 (0,0)):=by rw[hW0,hW2,<-hs1];exact(D _ _ _ au).trans (z W1 _)
 have hal:oM W0 w.1.size:=λi h1 h2=>by
  rcases(by omega:i=w.1.size\/i=w.1.size+1\/i=w.1.size+2) with e|e|e
  .exact⟨_,_,_,by rw[e,hW0,hW2,hW1];exact(D _ _ _ (by simp;omega)).trans ((D _ _ _ au).trans (z w _)),by decide,by decide,by decide,by decide,by decide⟩
  .exact⟨_,_,_,by rw[e];exact hbt,by decide,by decide,by decide,by decide,by decide⟩
  .exact⟨_,_,_,by rw[e,hW0,<-hs2];exact z W2 _,by decide,by decide,by decide,by decide,by decide⟩
 have HB:=hid hb0;have HX:=hid hbx;have HBT:=hid hbt;have an5:Hid (oM W0.drew w.1.size):=hid hal;have Q6:Hid (Below w.1.size w W0.drew):=hid hb0.drew;have gT:=hid (h.below hb0.drew);have HL0:=hid (hl.below hb0.drew);have OJ:R<w.1.size:=h.s.t.b.2.2;have HRW:=hid OJ;have yS:=hid h.b;have HG0:Hid (nC B w.1.size W0.drew):=hid (λW hs=>hG W ((Same.of_below hb0.drew (λi hi hl=>hl)).tr (hs.mono (λi hi _=> .inl hi))));have cB:Hid (∀W,Same (λi=>i<B\/(w.1.size<=i/\i<w.1.size+3)) W0.drew W->Bx W w.1.size #[A .i64 (k:Int),C la ln nc,A .i64 lvl,C va vn vc,p lf,A .i64 bits]/\Bx W (w.1.size+1) #[p false]/\Bx W (w.1.size+2) (adds R)/\W.1[w.1.size+1]?=j (.cells #[p false] 4 (0,0))):=hid (λW hs=>
  ⟨hs.bx hbx.1.drew ah,hs.bx hbx.2.1.drew ah,hs.bx hbx.2.2.drew ah,(hs.block (w.1.size+1) ah hbx.2.1.2.2).trans hbt⟩)
 have kM:Hid (w.1.size+3<=W0.drew.1.size):=hid hbx.2.2.2.2;have NY:Hid (∀W,Same (λi=>i<B\/(w.1.size<=i/\i<w.1.size+3)) W0.drew W->∀v,Same (λi=>i<B) w (W.setCell ⟨w.1.size+1,0,m⟩ v)):=hid (λW hs v=>((Same.of_below hb0.drew (λi hi hl=>hl)).tr (hs.mono (λi hi _=> .inl hi))).setTail (λhh=>by have:=h.b;omega));have Yh:Hid (∀W,Same (λi=>i<B\/(w.1.size<=i/\i<w.1.size+3)) W0.drew W->aI (aO c s)->(∃cs es ds ms,jy B W R cs (aO c s) es ds ms)->BL B R (aO c s) w (.returned (p true)) (W.setCell ⟨w.1.size+1,0,m⟩ (p true))):=hid (λW hs hfit hrg=>by
  obtain⟨q1,q2,q3,q4,hrg⟩:=hrg;refine⟨NY.q W hs _,λ_=>⟨rfl,q1,q2,q3,q4,hrg.box (T:=4) ⟨_,_,(cB.q W hs).2.2.2⟩ aj aj aj aj aj (.inl aj) (.inl aj) ah ((Same.refl' W).setTail (λh=>h rfl))⟩,λk=>absurd hfit k⟩)
 have HNO:Hid (∀W,Same (λi=>i<B\/(w.1.size<=i/\i<w.1.size+3)) W0.drew W->¬aI (aO c s)->BL B R (aO c s) w (.returned (p false)) (W.setCell ⟨w.1.size+1,0,m⟩ (p false))):=hid (λW hs hn=>⟨NY.q W hs _,λk=>absurd k hn,λ_=>rfl⟩);clear h hl hG hb1 hb2 hb0 hbx hbt hal OJ hs1 hs2;have BF:Hid (∀W,Same (λi=>i<B\/(w.1.size<=i/\i<w.1.size+3)) W0.drew W->True/\W.cell? ⟨w.1.size,0,m⟩=j (A .i64 (k:Int))/\W.cell? ⟨w.1.size,1,m⟩=j (C la ln nc)/\W.cell? ⟨w.1.size,2,m⟩=j (A .i64 lvl)/\W.cell? ⟨w.1.size,3,m⟩=j (C va vn vc)/\W.cell? ⟨w.1.size,4,m⟩=j (p lf)/\W.cell? ⟨w.1.size,5,m⟩=j (A .i64 bits)/\W.cell? ⟨w.1.size+2,k,m⟩=j (.func (.func F) fa #[])):=hid (λW hs=>have a:=cB.q W hs;⟨trivial,a.1.1 0,a.1.1 1,a.1.1 2,a.1.1 3,a.1.1 4,a.1.1 5,(a.2.2.1.1 k).trans hF⟩);have yY:=hid (hS W0.drew w.1.size gT.q HL0.q HG0.q an5.q HRW.q);clear hS hk hF IX
 go_enter_defers Tryz.func16,Tryz.ntmps16
 go_wp2_with fail;rw[<-hW1,<-hW2,<-hW0];clear hW1 hW2 hW0 Oi;refine KI 4 (o (j ⟨w.1.size+1,0,m⟩)) 99 [(0,0),(1,0),(2,0),(3,0),(4,0),(5,2)] (λ_=>True) (λW'=>W'.cell? ⟨w.1.size,0,m⟩=j (A .i64 (k:Int))/\W'.cell? ⟨w.1.size,1,m⟩=j (C la ln nc)/\W'.cell? ⟨w.1.size,2,m⟩=j (A .i64 lvl)/\W'.cell? ⟨w.1.size,3,m⟩=j (C va vn vc)/\W'.cell? ⟨w.1.size,4,m⟩=j (p lf)/\W'.cell? ⟨w.1.size,5,m⟩=j (A .i64 bits)/\W'.cell? ⟨w.1.size+2,k,m⟩=j (.func (.func F) fa #[])) (λch w'=>ch=kD/\Same (λi=>i<B\/(w.1.size<=i/\i<w.1.size+3)) W0.drew w'/\¬aI (aO c s)) av av av (by
   intro ch a1 w1 hd hx hr;obtain⟨rfl,hs,hn⟩:=hr;obtain⟨tm,df⟩:=a1;simp only at hd hx;subst hd;have hcc:=cB.q w1 hs;have hno:=HNO.q w1 hs hn;refine leaves_cons (f:=33) (args:=#[o (j ⟨w.1.size+1,0,m⟩)]) au (by simp[go_sem]) ?_;refine(Uy (w.1.size+1) _ w1 hcc.2.1).mono ?_;rintro e u' w6 ⟨rfl,rfl,rfl⟩;exact Px _ w _ (by show(tm[4]?).getD undef=_;rw[hx];rfl) (hcc.2.1.aZ 0 au (p false)) hno) trivial (BF.q W0.drew (Same.refl' _)).2 ?_
 refine qC ?_;refine aD rfl rfl (λK hK=>?_);go_simp;refine yY.q.mono ?_;rintro e1 w3 ⟨hS,he⟩;have jD:=hid hS;rcases iD (aI (aO c s)) with hf|hf;rotate_left
 .obtain rfl:=he.2 hf
  exact⟨rfl,rfl,rfl,jD.q,hf⟩
 obtain⟨rfl,hr⟩:=he.1 hf;have BD:=hid hr;have Gi:=hid hf;clear hr hf he hS;refine hK _ _ (BF.q w3 jD.q) ?_;clear hK K;refine Xr ?_;have hcc:=cB.q w3 jD.q;have hc1:=hcc.2.1.1 0;have hf1:=hcc.2.1.2.1 0;have vY:=hid hcc.2.1;clear hcc;go_wp2_with fail;refine leaves_cons (f:=33) (args:=#[o (j ⟨w.1.size+1,0,m⟩)]) au (by simp[go_sem]) ?_;refine(Xt (w.1.size+1) _).mono ?_;rintro e u' w6 ⟨rfl,rfl,rfl⟩;exact Px _ w _ rfl (vY.q.aZ 0 au (p true)) (Yh.q w3 jD.q Gi.q BD.q)
theorem QL (args:x y)(w:r):(u 35 args).run g w= .ok (.enter 35 args) w:=by go_simp
theorem MF (args:x y)(w:r):(u 39 args).run g w= .ok (.enter 39 args) w:=by go_simp
theorem QM (args:x y)(w:r):(u 41 args).run g w= .ok (.enter 41 args) w:=by go_simp
theorem QN (args:x y)(w:r):(u 40 args).run g w= .ok (.enter 40 args) w:=by go_simp
theorem Uz (args:x y)(w:r):(u 37 args).run g w= .ok (.enter 37 args) w:=by go_simp
theorem UA (args:x y)(w:r):(u 38 args).run g w= .ok (.enter 38 args) w:=by go_simp
theorem UB (args:x y)(w:r):(u 42 args).run g w= .ok (.enter 42 args) w:=by go_simp
theorem QO (args:x y)(w:r):(u 36 args).run g w= .ok (.enter 36 args) w:=by go_simp
theorem adU (args:x y)(w:r):(u 34 args).run g w= .ok (.enter 34 args) w:=by go_simp
theorem agJ (l:bB)(s:aP)(w:r)(h:jy B w R cs c es ds ms)(hf:aI c)(hl:vK w B l s)(hok:s.kind=0\/fB s)(hG:Ux B w):
  Calls g 16 #[o (j ⟨R,0,m⟩),jg l] w (BL B R (aO c s) w):=by
 by_cases h0:s.kind=0
 .have e2:aO c s=c:=by unfold aO;simp only[h0];rfl
  refine qI l s w 0 _ #[] h hl hG h0 ah rfl adU (λW K a _ _ _ _=>?_);rw[e2];refine(ZR l W).mono ?_;rintro e w3 ⟨rfl,hb⟩;exact⟨Same.of_below hb (λi hi hl=>hl),λ_=>⟨rfl,_,_,_,_,a.below hb⟩,λk=>absurd hf k⟩
 have ok:=hok.resolve_left h0;have IX:s.kind=1\/s.kind=2\/s.kind=3\/s.kind=4\/s.kind=5\/s.kind=6\/s.kind=7\/s.kind=8\/s.kind=9:=by
  rcases ok.2.2 with h|h|h|h|h|h|h|h|h <;> (have:=h.1;omega)
 rcases IX with e|e|e|e|e|e|e|e|e
 .exact qI l s w 1 _ _ h hl hG e ah rfl QL (λW K a b c d f=>WC _ s W a hf b e ok c d f)
 .exact qI l s w 2 _ _ h hl hG e ah rfl QO (λW K a b c d f=>Xu _ s W a hf b e ok c d f)
 .exact qI l s w 3 _ _ h hl hG e ah rfl Uz (λW K a b c d f=>Zk _ s W a hf b e ok c d f)
 .exact qI l s w 4 _ _ h hl hG e ah rfl UA (λW K a b c d f=>ZT _ s W a hf b e ok c d f)
 .exact qI l s w 5 _ _ h hl hG e ah rfl MF (λW K a b c d f=>Sb _ s W a hf b (.inl e) ok c d f)
 .exact qI l s w 6 _ _ h hl hG e ah rfl MF (λW K a b c d f=>Sb _ s W a hf b (.inr e) ok c d f)
 .exact qI l s w 7 _ _ h hl hG e ah rfl QN (λW K a b c d f=>WE _ s W a hf b e ok c d f)
 .exact qI l s w 8 _ _ h hl hG e ah rfl QM (λW K a b c d f=>Xv _ s W a hf b e ok c d f)
 .exact qI l s w 9 _ _ h hl hG e ah rfl UB (λW K a b c d f=>Zl _ s W a hf b e ok c d f)
end
end Yd
namespace Yd
open Classical renaming epsilon->H
open Option renaming none->r,some->A
open Go Go.RowKit Go.Proofs Go.Maps
open Go renaming World->F,Value->G,TypeId->I
open Go.Value renaming slice->p
open _root_ renaming List->j,Nat->C
attribute [local go_sem] Oper.semAt_some
theorem fC {X:F}{b o o':C}{v u:G}(h:X.cell? ⟨b,o,r⟩=A v)(hne:o≠o'):(X.setCell ⟨b,o',r⟩ u).cell? ⟨b,o,r⟩=A v:=by
 rw[World.cell?_setCell_other _ _ _ _ (λe=>by cases e;exact hne rfl)];exact h
def qH (w:F)(B:C)(aW:j bB)(ls:j aP):Prop:=aW.length=ls.length/\∀(i:C)(l:bB),aW[i]?=A l->∃s,ls[i]?=A s/\iB w B l s
theorem qH.below {w w':F}{B:C}{aW:j bB}{ls:j aP}(h:qH w B aW ls)(hb:Below w.1.size w w'):qH w' B aW ls:=
 ⟨h.1,λi l hl=>let⟨s,h1,h2⟩:=h.2 i l hl;⟨s,h1,h2.below hb⟩⟩
theorem Py {α:Type}{enc:α->j G}{k:C}{X:F}{B:C}{T:I}{a:Option Addr}{n c:C}{xs:j α}(h:Own X B T k enc (p a n c) xs){b o:C}(e:a=A ⟨b,o,r⟩):b<X.1.size:=by
 rcases h.yF with⟨q,_⟩|⟨g,q,_⟩
 .rw[q] at e;cases e
 .have:=(h.lt g (by rw[q];rfl)).2
  rw[q] at e;injection e with e;injection e with e;omega
theorem iB.lnR {w:F}{B:C}{l:bB}{s:aP}(h:iB w B l s)(hn:s.names.length<=1000)(hv:s.aF.length<=1000){K:C}(hK:w.1.size<=K):vK w K l s:=
 ⟨h.1,h.2.1.row (hc:=jQ) ah,h.2.2.row (hc:=Ke) ah,λb o e=>by have:=Py h.2.1 e;omega,λb o e=>by have:=Py h.2.2 e;omega⟩
@[reducible] def gQ:HC:=⟨⟨r,0,0⟩,⟨r,0,0⟩,⟨r,0,0⟩,⟨r,0,0⟩,⟨r,0,0⟩,⟨r,0,0⟩,⟨r,0,0⟩,⟨r,0,0⟩⟩
@[reducible] def DK (mb:C):Array G:=#[p r 0 0,p r 0 0,p r 0 0,p r 0 0,p r 0 0,p r 0 0,p r 0 0,p r 0 0,p r 0 0,p r 0 0,p r 0 0,p r 0 0,.map (A mb)]
structure EI (w:F):Prop where
 f:vE w
 l:qc w
theorem EI.below {w w':F}(h:EI w)(hb:Below w.1.size w w'):EI w':=⟨h.f.below hb,h.l.below hb⟩
theorem EI.add {w X:F}(h:EI w)(hb:Below w.1.size w X){B:C}(hB:w.1.size<=B):Ux B X:=λW hs=>h.f.below (hs.below hb (λi hi=>by omega) hb.size)
def ab2 (w:F)(ls:j aP)(e:Ending)(X:F):Prop:=
 Below w.1.size w X/\
 match uO jh 0 ls with
 | .ok z=>∃h es ds ms,∃scan:EvC->j Sn,∃dn:aM->j Int,∃mn:aN->j Int,e= .returned (.tuple #[gH h,.int .i64 (ls.length:Int),.int .i64 0])/\iY X w.1.size h (gJ z) es ds ms scan dn mn
 | .error (i,n)=>e= .returned (.tuple #[gH gQ,.int .i64 (i:Int),.int .i64 n])
theorem jy.start (W:F)(mb:C)(B:C)(hm:kG W mb [])(hB:B<=mb)(hB2:B<=W.1.size):jy B (W.alloc (.cells (DK mb) 61)) W.1.size (DK mb) jh [] [] []:=by
 have nil:∀{α:Type}{enc:α->j G}{k:C}{T:I},Own (W.alloc (.cells (DK mb) 61)) (W.1.size+1) T k enc (p r 0 0) []:=Own.fJ _ _ _ _ _;refine⟨⟨⟨Bx.new W _ _,λk hk=>⟨p r 0 0,?_,nil⟩,λk hk=>⟨⟨λx hx=>(by cases hx),sD,aV _⟩,aV _⟩⟩,⟨_,rfl,nil⟩,⟨_,rfl,nil⟩,⟨_,rfl,nil⟩,⟨_,rfl,nil⟩,rfl,rfl,rfl,⟨rfl,λi x L hx=>(by cases hx)⟩,⟨rfl,λi x L hx=>(by cases hx)⟩,⟨rfl,λi x L hx=>(by cases hx)⟩⟩,⟨mb,rfl,hm.of_eq (Below.heap_alloc _ _ _ (by have:=hm.lt;omega)),hB⟩,hB2⟩;rcases(by omega:k=0\/k=1\/k=2\/k=3) with rfl|rfl|rfl|rfl <;> rfl
theorem Xe {d:C}{X Y:F}{R:C}{cs:Array G}{c:Cont}{es:j EvC}{ds:j aM}{ms:j aN}(ht:∀k,k<4->∃v,cs[8*d+k]?=A v/\Own X (R+1) 9 1 encStr v (c.nl k))
  (he:∃v,cs[4]?=A v/\Own X (R+1) 47 9 dO v es) (hd:∃v,cs[5]?=A v/\Own X (R+1) 74 2 eZ v ds) (hm:∃v,cs[6]?=A v/\Own X (R+1) 77 4 eP v ms) (hq:∃v,cs[7]?=A v/\Own X (R+1) 79 2 fQ v c.Q)
  (be:es.map EvC.base=c.E) (bd:ds.map aM.base=c.D) (bm:ms.map aN.base=c.M) (hse:tF X R 117 3 bS EvC.val es c.SE) (hsd:tF X R 3 1 aQ aM.val ds c.SD) (hsm:tF X R 3 1 aQ aN.val ms c.SM)
  (z:CK c) (hs:∀{α:Type}{enc:α->j G}{k:C}{T:I}{v:G}{L:j α},Own X (R+1) T k enc v L->Own Y (R+1) T k enc v L):
  ∃h':HC,∃scan:EvC->j Sn,∃dn:aM->j Int,∃mn:aN->j Int,(∀k,k<4->cs[8*d+k]?=A (h'.nm k).v)/\cs[4]?=A h'.e.v/\cs[5]?=A h'.d.v/\cs[6]?=A h'.m.v/\cs[7]?=A h'.w.v/\iY Y (R+1) h' c es ds ms scan dn mn:=by
 have sl:∀{α:Type}{enc:α->j G}{k:C}{T:I}{v:G}{L:j α},Own X (R+1) T k enc v L->∃s:Sl,v= p s.a s.n s.c/\Own Y (R+1) T k enc (p s.a s.n s.c) L:=λho=>by
  obtain⟨a,c,q,_⟩:=ho.shape;exact⟨⟨a,_,c⟩,q,by rw[<-q];exact hs ho⟩
 obtain⟨v4,c4,o4⟩:=he;obtain⟨s4,rfl,y4⟩:=sl o4;obtain⟨v5,c5,o5⟩:=hd;obtain⟨s5,rfl,y5⟩:=sl o5;obtain⟨v6,c6,o6⟩:=hm;obtain⟨s6,rfl,y6⟩:=sl o6;obtain⟨v7,c7,o7⟩:=hq;obtain⟨s7,rfl,y7⟩:=sl o7;obtain⟨u0,d0,p0⟩:=ht 0 ah;obtain⟨t0,rfl,z0⟩:=sl p0;obtain⟨u1,d1,p1⟩:=ht 1 ah;obtain⟨t1,rfl,z1⟩:=sl p1;obtain⟨u2,d2,p2⟩:=ht 2 ah;obtain⟨t2,rfl,z2⟩:=sl p2;obtain⟨u3,d3,p3⟩:=ht 3 ah;obtain⟨t3,rfl,z3⟩:=sl p3;have ow:∀{α β:Type}{T:I}{ek:C}{enc:β->j G}[hc:Cells enc ek]{a:α->Option Addr}{n q:α->C}{xs:j α}{Ls:j (j β)},(∀x y,enc x=enc y->x=y)->tF X R T ek enc (λx=> p (a x) (n x) (q x)) xs Ls->(∀L∈Ls,L.length<=2000000)->
   ∃f:α->j β,(∀x∈xs,Own Y (R+1) T ek enc (p (a x) (n x) (q x)) (f x))/\xs.map f=Ls:=fun {α β T ek enc hc a n q xs Ls} hinj ho hl=>by
  have key:∀i x,xs[i]?=A x->∃L,Ls[i]?=A L/\Own Y (R+1) T ek enc (p (a x) (n x) (q x)) L/\H (λL=>Row Y ek enc (a x) (n x) (q x) L)=L:=λi x hx=>by
   have hi:i<Ls.length:=by rw[<-ho.1];exact(bG.1 hx).1
   have o:=hs (ho.2 i x Ls[i] hx (eu hi));have hlen:=hl _ (List.getElem_mem hi);exact⟨_,eu hi,o,Dz (hc:=hc) hinj (o.row (hc:=hc) ah)⟩
  refine⟨λx=>H (λL=>Row Y ek enc (a x) (n x) (q x) L),λx hx=>?_,Eb (λi=>?_)⟩
  .obtain⟨i,hi⟩:=u6.1 hx
   obtain⟨L,_,o,e⟩:=key i x hi;show Own Y (R+1) T ek enc (p (a x) (n x) (q x)) (H (λL=>Row Y ek enc (a x) (n x) (q x) L));rw[e];exact o
  .rw[lZ]
   cases hx:xs[i]? with
   |none=>rw[Option.map_none,wP (by rw[<-ho.1];exact List.getElem?_eq_none_iff.1 hx)]
   |some x=>
    obtain⟨L,h1,_,e⟩:=key i x hx;rw[Option.map_some,e,h1]
 obtain⟨f1,a1,b1⟩:=ow (hc:=oJ) (a:=EvC.sa) (n:=EvC.sn) (q:=EvC.sc) Km hse z.se;obtain⟨f2,a2,b2⟩:=ow (hc:=ig) (a:=aM.sa) (n:=aM.sn) (q:=aM.sc) xL hsd z.sd;obtain⟨f3,a3,b3⟩:=ow (hc:=ig) (a:=aN.sa) (n:=aN.sn) (q:=aN.sc) xL hsm z.sm;refine⟨⟨t0,t1,t2,t3,s4,s5,s6,s7⟩,f1,f2,f3,λk hk=>?_,c4,c5,c6,c7,⟨y4,y5,y6,y7,λk hk=>?_,a1,a2,a3,be,bd,bm,b1,b2,b3⟩⟩
 .rcases(by omega:k=0\/k=1\/k=2\/k=3) with rfl|rfl|rfl|rfl
  .exact d0
  .exact d1
  .exact d2
  .exact d3
 .rcases(by omega:k=0\/k=1\/k=2\/k=3) with rfl|rfl|rfl|rfl
  .exact z0
  .exact z1
  .exact z2
  .exact z3
theorem xB.his {d:C}{P:(C->j Bs)->Prop}{X Y:F}{R:C}{cs:Array G}{c:Cont}{es:j EvC}{ds:j aM}{ms:j aN}(h:xB d P X R cs c es ds ms)(z:CK c)(hs:Same (λi=>i≠R) X Y):
  ∃h':HC,∃scan:EvC->j Sn,∃dn:aM->j Int,∃mn:aN->j Int,(∀k,k<4->cs[8*d+k]?=A (h'.nm k).v)/\cs[4]?=A h'.e.v/\cs[5]?=A h'.d.v/\cs[6]?=A h'.m.v/\cs[7]?=A h'.w.v/\iY Y (R+1) h' c es ds ms scan dn mn:=
 Xe h.t.t h.e h.d h.m h.q h.be h.bd h.bm h.se h.sd h.sm z (λo=>o.gY hs)
end Yd
