import Derived.Test.YtpeojoobplpcoaaGreatDoorPF9
import Derived.Recover
import Derived.Defers
import Derived.Test.YtpeojoobplpcoaaGreatDoorPDown13
import Derived.Test.YtpeojoobplpcoaaGreatDoorPChG
set_option linter.all false
set_option maxRecDepth 200000
set_option maxHeartbeats 8000000
namespace Yd
open Bool renaming false->Z
open Option renaming some->A,none->C
open Go Go.RowKit Go.Proofs Tryz
open Go renaming World->L,Value->P,callFunc->Y
open Go.IntKind renaming i64->D
open Go.Obj renaming cells->O
open Go.Value renaming int->E,string->G,slice->H,pointer->J,bool->M
open Tryz renaming prog->u
open Yd renaming hid->g
open _root_ renaming Int->I,Array->S,List->U,Nat->V
theorem aaC (W:L):(binOp .neq 20 (.iface 30 (E D 6)) (.iface 30 (E D 6))).run u W= .ok (M Z) W:=ay
theorem UZ (b:V)(a0:P)(w:L)(h1:Bx w b #[a0]):
  CallsD u 98 #[J (A ⟨b,0,C⟩)] (.panicking ({v:= .iface 30 (E D 6),recovered:=false}::[])) w λe u' w'=>
   e= .returned (.tuple #[])/\u'= .panicking ({v:= .iface 30 (E D 6),recovered:=true}::[])/\w'=w.setCell ⟨b,0,C⟩ (M Z):=by
 refine callsD_of_wpS func98 rfl λc₀ cs hu=>?_
 apply wpS_seq
 apply wpS_region
 simp[wpOpsS,go_sem,recoverD,hu,ntmps98,Exit.thenS];refine wpS_of_wp ?_;have hc:=h1.1 0;have hf:=h1.2.1 0;have hne:=aaC w;simp only[rX,rY,oz,oC,fJ,fu,mH,lZ,l5];go_wp2_with fail
 cases c₀
 simp_all[bodyPostS,results,results98]
theorem XG (b:V)(w:L):
  CallsD u 98 #[J (A ⟨b,0,C⟩)] .returning w λe u' w'=>e= .returned (.tuple #[])/\u'= .returning/\w'=w:=by
 refine callsD_of_wpS func98 rfl λc₀ cs hu=>?_
 apply wpS_seq
 apply wpS_region
 simp[wpOpsS,go_sem,recoverD,hu,ntmps98,Exit.thenS];refine wpS_of_wp ?_;go_wp2_with fail
 cases c₀
 simp_all[bodyPostS,results,results98]
def U0 (B:V)(w:L):Prop:=∀W,Same (λi=>i<B) w W->vB W
def Bu (B R:V)(d:Cont)(w:L)(e:Ending)(w':L):Prop:=
 Same (λi=>i<B) w w'/\(aJ d->e= .returned (M true)/\∃cs es ds ms,jE B w' R cs d es ds ms)/\(¬aJ d->e= .returned (M Z))
theorem aaD (l:bE)(w:L):Calls u 99 #[dY l] w λe w'=>e= .returned (.tuple #[])/\Below w.1.size w w':=by
 have HB:=g (aA (Below.refl w.1.size w) (O (bJ l) 66));obtain⟨lk,la,ln,nc,lvl,va,vn,vc,lf,bits⟩:=l;go_enter func99,ntmps99;go_wp2_with fail;refine bodyPost_end (results_none rfl _ _ _) rfl ?_;exact⟨rfl,HB.q⟩
theorem PK {B R:V}{d:Cont}{b:Bool}(tmps:S P)(w w':L)(h4:tmps[4]?.getD undef= J (A ⟨w.1.size+1,0,C⟩))(h1:Bx w' (w.1.size+1) #[M b])(hr:Bu B R d w (.returned (M b)) w'):
  Leaves u Tryz.f47 tmps (Bu B R d w) [] .returning w':=by
 have a0:=h1.1 0;refine⟨M b,?_,hr⟩;simp[results,results47,go_sem,h4,a0]
theorem xM.below {w w':L}{B:V}{l:bE}{s:aH}(h:xM w B l s)(hb:Below w.1.size w w'):xM w' B l s:=⟨h.k,h.n.below hb rfl,h.v.below hb rfl,h.na,h.va⟩
section
variable {B R:V}{cs:S P}{c:Cont}{es:U EvC}{ds:U aM}{ms:U aN}
@[reducible] def adds (R:V):S P:=#[.func (.func 99) #[] #[],.func (.func 100) #[J (A ⟨R,0,C⟩)] #[],.func (.func 101) #[J (A ⟨R,0,C⟩)] #[],.func (.func 102) #[J (A ⟨R,0,C⟩)] #[],.func (.func 103) #[J (A ⟨R,0,C⟩)] #[],.func (.func 104) #[J (A ⟨R,0,C⟩)] #[],.func (.func 104) #[J (A ⟨R,0,C⟩)] #[],.func (.func 105) #[J (A ⟨R,0,C⟩)] #[],.func (.func 106) #[J (A ⟨R,0,C⟩)] #[],.func (.func 107) #[J (A ⟨R,0,C⟩)] #[]]
theorem qM (l:bE)(s:aH)(w:L)(k F:V)(fa:S P)(h:jE B w R cs c es ds ms)(hl:xM w B l s)(hG:U0 B w)(hk:s.kind=(k:I))(Iq:k<10)(hF:(adds R)[k]?=A (.func (.func F) fa #[]))
  (eg:∀args w,(Y F args).run u w= .ok (.enter F args) w)
  (hS:∀W K,jE B W R cs c es ds ms->xM W B l s->nG B K W->pE W K->R<K->Calls u F (fa++#[dY l]) W (gW B K R (aR c s) W)):
  Calls u 47 #[J (A ⟨R,0,C⟩),dY l] w (Bu B R (aR c s) w):=by
 have PL:∀(fn:Fn)(first cap:S P)(w:L),(Instr.makeFunc fn first cap).run u w= .ok (.func fn first cap) w:=λ_ _ _ _=>rfl
 have hkl:=hl.k.1;rw[hk] at hkl;obtain⟨kd,la,ln,nc,lvl,va,vn,vc,lf,bits⟩:=l;simp only at hkl;subst hkl;have g0:¬((k:I)<0):=by omega
 have g1:(k:I)<10:=by omega
 obtain⟨W1,hW1⟩:∃W,W=w.alloc (O #[E D (k:I),H la ln nc,E D lvl,H va vn vc,M lf,E D bits] 66):=⟨_,rfl⟩;obtain⟨W2,hW2⟩:∃W,W=W1.alloc (O #[M Z] 4):=⟨_,rfl⟩;obtain⟨W0,hW0⟩:∃W,W=W2.alloc (O (adds R) 179):=⟨_,rfl⟩;have hs1:W1.1.size=w.1.size+1:=by rw[hW1];simp
 have hs2:W2.1.size=w.1.size+2:=by rw[hW2,World.size_alloc,hs1]
 have hb1:Below w.1.size w W1:=by rw[hW1];exact aA (Below.refl _ _) _
 have hb2:Below w.1.size w W2:=by rw[hW2];exact aA hb1 _
 have hb0:Below w.1.size w W0:=by rw[hW0];exact aA hb2 _
 have hbx:Bx W0 w.1.size #[E D (k:I),H la ln nc,E D lvl,H va vn vc,M lf,E D bits]/\Bx W0 (w.1.size+1) #[M Z]/\Bx W0 (w.1.size+2) (adds R):=by
  refine⟨?_,?_,?_⟩
  .rw[hW0,hW2,hW1];exact((Bx.new w _ _).alloc _).alloc _
  .rw[hW0,hW2,<-hs1];exact(Bx.new W1 _ _).alloc _
  .rw[hW0,<-hs2];exact Bx.new W2 _ _
 have hbt:W0.1[w.1.size+1]?=A (O #[M Z] 4 (0,0)):=by rw[hW0,hW2,<-hs1];exact(Below.heap_alloc _ _ _ ak).trans (World.alloc_heap_new W1 _)
 have hal:pE W0 w.1.size:=λi h1 h2=>by
  rcases(by omega:i=w.1.size\/i=w.1.size+1\/i=w.1.size+2) with e|e|e
  .exact⟨_,_,_,by rw[e,hW0,hW2,hW1];exact(Below.heap_alloc _ _ _ (by simp;omega)).trans ((Below.heap_alloc _ _ _ ak).trans (World.alloc_heap_new w _)),by decide,by decide,by decide,by decide,by decide⟩
  .exact⟨_,_,_,by rw[e];exact hbt,by decide,by decide,by decide,by decide,by decide⟩
  .exact⟨_,_,_,by rw[e,hW0,<-hs2];exact World.alloc_heap_new W2 _,by decide,by decide,by decide,by decide,by decide⟩
 have HB:=g hb0;have HX:=g hbx;have mY:=g hbt;have an6:Hid (pE W0.drew w.1.size):=g hal;have HBD:Hid (Below w.1.size w W0.drew):=g hb0.drew;have jw:=g (h.below hb0.drew);have HL0:=g (hl.below hb0.drew);have Te:R<w.1.size:=h.s.t.b.2.2;have HRW:=g Te;have uH:=g h.b;have HG0:Hid (nG B w.1.size W0.drew):=g (λW hs=>hG W ((Same.of_below hb0.drew (λi hi hl=>hl)).tr (hs.mono (λi hi _=> .inl hi))));have cB:Hid (∀W,Same (λi=>i<B\/(w.1.size<=i/\i<w.1.size+3)) W0.drew W->Bx W w.1.size #[E D (k:I),H la ln nc,E D lvl,H va vn vc,M lf,E D bits]/\Bx W (w.1.size+1) #[M Z]/\Bx W (w.1.size+2) (adds R)/\W.1[w.1.size+1]?=A (O #[M Z] 4 (0,0))):=g (λW hs=>
  ⟨hs.bx hbx.1.drew ah,hs.bx hbx.2.1.drew ah,hs.bx hbx.2.2.drew ah,(hs.block (w.1.size+1) ah hbx.2.1.2.2).trans hbt⟩)
 have uV:Hid (w.1.size+3<=W0.drew.1.size):=g hbx.2.2.2.2;have OG:Hid (∀W,Same (λi=>i<B\/(w.1.size<=i/\i<w.1.size+3)) W0.drew W->∀v,Same (λi=>i<B) w (W.setCell ⟨w.1.size+1,0,C⟩ v)):=g (λW hs v=>((Same.of_below hb0.drew (λi hi hl=>hl)).tr (hs.mono (λi hi _=> .inl hi))).setTail (λhh=>by have:=h.b;omega));have Pf:Hid (∀W,Same (λi=>i<B\/(w.1.size<=i/\i<w.1.size+3)) W0.drew W->aJ (aR c s)->(∃cs es ds ms,jE B W R cs (aR c s) es ds ms)->Bu B R (aR c s) w (.returned (M true)) (W.setCell ⟨w.1.size+1,0,C⟩ (M true))):=g (λW hs hfit hrg=>by
  obtain⟨q1,q2,q3,q4,hrg⟩:=hrg;refine⟨OG.q W hs _,λ_=>⟨rfl,q1,q2,q3,q4,hrg.box (T:=4) ⟨_,_,(cB.q W hs).2.2.2⟩ aj aj aj aj aj (.inl aj) (.inl aj) ah ((Same.refl' W).setTail (λh=>h rfl))⟩,λk=>absurd hfit k⟩)
 have WU:Hid (∀W,Same (λi=>i<B\/(w.1.size<=i/\i<w.1.size+3)) W0.drew W->¬aJ (aR c s)->Bu B R (aR c s) w (.returned (M Z)) (W.setCell ⟨w.1.size+1,0,C⟩ (M Z))):=g (λW hs hn=>⟨OG.q W hs _,λk=>absurd k hn,λ_=>rfl⟩);clear h hl hG hb1 hb2 hb0 hbx hbt hal Te hs1 hs2;have uf:Hid (∀W,Same (λi=>i<B\/(w.1.size<=i/\i<w.1.size+3)) W0.drew W->True/\W.cell? ⟨w.1.size,0,C⟩=A (E D (k:I))/\W.cell? ⟨w.1.size,1,C⟩=A (H la ln nc)/\W.cell? ⟨w.1.size,2,C⟩=A (E D lvl)/\W.cell? ⟨w.1.size,3,C⟩=A (H va vn vc)/\W.cell? ⟨w.1.size,4,C⟩=A (M lf)/\W.cell? ⟨w.1.size,5,C⟩=A (E D bits)/\W.cell? ⟨w.1.size+2,k,C⟩=A (.func (.func F) fa #[])):=g (λW hs=>have a:=cB.q W hs;⟨trivial,a.1.1 0,a.1.1 1,a.1.1 2,a.1.1 3,a.1.1 4,a.1.1 5,(a.2.2.1.1 k).trans hF⟩);have yQ:=g (hS W0.drew w.1.size jw.q HL0.q HG0.q an6.q HRW.q);clear hS hk hF Iq
 go_enter_defers func47,ntmps47
 go_wp2_with fail;rw[<-hW1,<-hW2,<-hW0];clear hW1 hW2 hW0 PL;refine KA 4 (J (A ⟨w.1.size+1,0,C⟩)) 99 [(0,0),(1,0),(2,0),(3,0),(4,0),(5,2)] (λ_=>True) (λW'=>W'.cell? ⟨w.1.size,0,C⟩=A (E D (k:I))/\W'.cell? ⟨w.1.size,1,C⟩=A (H la ln nc)/\W'.cell? ⟨w.1.size,2,C⟩=A (E D lvl)/\W'.cell? ⟨w.1.size,3,C⟩=A (H va vn vc)/\W'.cell? ⟨w.1.size,4,C⟩=A (M lf)/\W'.cell? ⟨w.1.size,5,C⟩=A (E D bits)/\W'.cell? ⟨w.1.size+2,k,C⟩=A (.func (.func F) fa #[])) (λch w'=>ch=kK/\Same (λi=>i<B\/(w.1.size<=i/\i<w.1.size+3)) W0.drew w'/\¬aJ (aR c s)) ay ay ay (by
   intro ch a1 w1 hd hx hr;obtain⟨rfl,hs,hn⟩:=hr;obtain⟨tm,df⟩:=a1;simp only at hd hx;subst hd;have hcc:=cB.q w1 hs;have hno:=WU.q w1 hs hn;refine leaves_cons (f:=98) (args:=#[J (A ⟨w.1.size+1,0,C⟩)]) ak (by simp[go_sem]) ?_;refine(UZ (w.1.size+1) _ w1 hcc.2.1).mono ?_;rintro e u' w6 ⟨rfl,rfl,rfl⟩;exact PK _ w _ (by show(tm[4]?).getD undef=_;rw[hx];rfl) (hcc.2.1.bf 0 ak (M Z)) hno) trivial (uf.q W0.drew (Same.refl' _)).2 ?_
 refine qC ?_;refine aF rfl rfl (λK hK=>?_);go_simp;refine yQ.q.mono ?_;rintro e1 w3 ⟨hS,he⟩;have iW:=g hS;rcases iK (aJ (aR c s)) with hf|hf;rotate_left
 .obtain rfl:=he.2 hf
  exact⟨rfl,rfl,rfl,iW.q,hf⟩
 obtain⟨rfl,hr⟩:=he.1 hf;have Dm:=g hr;have PN:=g hf;clear hr hf he hS;refine hK _ _ (uf.q w3 iW.q) ?_;clear hK K;refine XA ?_;have hcc:=cB.q w3 iW.q;have hc1:=hcc.2.1.1 0;have hf1:=hcc.2.1.2.1 0;have EZ:=g hcc.2.1;clear hcc;go_wp2_with fail;refine leaves_cons (f:=98) (args:=#[J (A ⟨w.1.size+1,0,C⟩)]) ak (by simp[go_sem]) ?_;refine(XG (w.1.size+1) _).mono ?_;rintro e u' w6 ⟨rfl,rfl,rfl⟩;exact PK _ w _ rfl (EZ.q.bf 0 ak (M true)) (Pf.q w3 iW.q PN.q Dm.q)
theorem RI (args:S P)(w:L):(Y 100 args).run u w= .ok (.enter 100 args) w:=by go_simp
theorem MK (args:S P)(w:L):(Y 104 args).run u w= .ok (.enter 104 args) w:=by go_simp
theorem RJ (args:S P)(w:L):(Y 106 args).run u w= .ok (.enter 106 args) w:=by go_simp
theorem RL (args:S P)(w:L):(Y 105 args).run u w= .ok (.enter 105 args) w:=by go_simp
theorem U1 (args:S P)(w:L):(Y 102 args).run u w= .ok (.enter 102 args) w:=by go_simp
theorem U2 (args:S P)(w:L):(Y 103 args).run u w= .ok (.enter 103 args) w:=by go_simp
theorem U3 (args:S P)(w:L):(Y 107 args).run u w= .ok (.enter 107 args) w:=by go_simp
theorem RN (args:S P)(w:L):(Y 101 args).run u w= .ok (.enter 101 args) w:=by go_simp
theorem aeO (args:S P)(w:L):(Y 99 args).run u w= .ok (.enter 99 args) w:=by go_simp
theorem ahn (l:bE)(s:aH)(w:L)(h:jE B w R cs c es ds ms)(hf:aJ c)(hl:xM w B l s)(hok:s.kind=0\/dW s)(hG:U0 B w):
  Calls u 47 #[J (A ⟨R,0,C⟩),dY l] w (Bu B R (aR c s) w):=by
 by_cases h0:s.kind=0
 .have e2:aR c s=c:=by unfold aR;simp only[h0];rfl
  refine qM l s w 0 _ #[] h hl hG h0 ah rfl aeO (λW K a _ _ _ _=>?_);rw[e2];refine(aaD l W).mono ?_;rintro e w3 ⟨rfl,hb⟩;exact⟨Same.of_below hb (λi hi hl=>hl),λ_=>⟨rfl,_,_,_,_,a.below hb⟩,λk=>absurd hf k⟩
 have ok:=hok.resolve_left h0;have Iq:s.kind=1\/s.kind=2\/s.kind=3\/s.kind=4\/s.kind=5\/s.kind=6\/s.kind=7\/s.kind=8\/s.kind=9:=by
  rcases ok.2.2 with h|h|h|h|h|h|h|h|h <;> (have:=h.1;omega)
 rcases Iq with e|e|e|e|e|e|e|e|e
 .exact qM l s w 1 _ _ h hl hG e ah rfl RI (λW K a b c d f=>XH _ s W a hf b e ok c d f)
 .exact qM l s w 2 _ _ h hl hG e ah rfl RN (λW K a b c d f=>WS _ s W a hf b e ok c d f)
 .exact qM l s w 3 _ _ h hl hG e ah rfl U1 (λW K a b c d f=>aaE _ s W a hf b e ok c d f)
 .exact qM l s w 4 _ _ h hl hG e ah rfl U2 (λW K a b c d f=>aaF _ s W a hf b e ok c d f)
 .exact qM l s w 5 _ _ h hl hG e ah rfl MK (λW K a b c d f=>Tf _ s W a hf b (.inl e) ok c d f)
 .exact qM l s w 6 _ _ h hl hG e ah rfl MK (λW K a b c d f=>Tf _ s W a hf b (.inr e) ok c d f)
 .exact qM l s w 7 _ _ h hl hG e ah rfl RL (λW K a b c d f=>XI _ s W a hf b e ok c d f)
 .exact qM l s w 8 _ _ h hl hG e ah rfl RJ (λW K a b c d f=>XJ _ s W a hf b e ok c d f)
 .exact qM l s w 9 _ _ h hl hG e ah rfl U3 (λW K a b c d f=>aaG _ s W a hf b e ok c d f)
end
def Bv (r lvl:I)(aG:U To)(bits:I)(first:Bool):U Bs:=if r=108 then [kG lvl.toNat] else if r=118 then(aG.take 1).map gq else if r=103 then oW bits else if r=109/\first=true then [[45]] else []
def yR (r:I)(xs:U Bs)(vs:U To)(j:V):U Bs:=if r=115 then((xs.zip vs).take j).flatMap (λp=>[p.1,gq p.2]) else xs.take j
theorem XK {k N c:V}{r lvl bits:I}{names:U Bs}{aG:U To}{first:Bool}(hN:bS k=(N:I))(hr:dG k=r)(hl:names.length=N+c):
  iE ⟨k,names,lvl,aG,first,bits⟩=[bB k]++names.take N++Bv r lvl aG bits first++yR r (names.drop N) aG c:=by
 have h1:(names.drop N).take c=names.drop N:=iH (by rw[gG];omega);have h2:((names.drop N).zip aG).take c=(names.drop N).zip aG:=iH (by rw[Ck,gG];omega);unfold iE Bv yR;simp only[jB,hN,hr,h1,h2,fu,fJ,dD]
theorem aaH {r:I}{xs:U Bs}{vs:U To}{j:V}{s:Bs}(hr:r≠115)(h:xs[j]?=A s):yR r xs vs (j+1)=yR r xs vs j++[s]:=by
 unfold yR;rw[au hr,au hr,jd,h];rfl
theorem aaI {xs:U Bs}{vs:U To}{j:V}{s:Bs}{t:To}(h:xs[j]?=A s)(h2:vs[j]?=A t):yR 115 xs vs (j+1)=yR 115 xs vs j++[s]++[gq t]:=by
 unfold yR;have hz:(xs.zip vs)[j]?=A (s,t):=by rw[List.getElem?_zip_eq_some];exact⟨h,h2⟩
 rw[av rfl,av rfl,jd,hz,List.flatMap_append];simp
theorem aeP (b j:V)(hb:b<=15)(h:j<4)(W:L):(Go.Op.shift .shr D (b:I) D (j:I)).run u W= .ok (E D ((b:I) / 2 ^ j)) W:=by
 rcases(by omega:j=0\/j=1\/j=2\/j=3) with rfl|rfl|rfl|rfl <;> simp[Op.shift,go_sem]
theorem aaJ (j:V)(h:j<4)(W:L):(Instr.index 145 (.agg #[G ⟨#[114,121,119]⟩,G ⟨#[109,114]⟩,G ⟨#[109,119]⟩,G ⟨#[119,102,114]⟩]) (E D (j:I))).run u W= .ok (G ⟨(lg j).toArray⟩) W:=by
 rcases(by omega:j=0\/j=1\/j=2\/j=3) with rfl|rfl|rfl|rfl
 .exact aaK W
 .exact aaL W
 .exact aaM W
 .exact aaN W
theorem XL (r:I)(xs:U Bs)(vs:U To):yR r xs vs 0=[]:=by unfold yR;split <;> simp
theorem RO (b:I)(j:V):qj b (j+1)=qj b j++if b / 2 ^ j % 2=1 then [lg j] else []:=rfl
theorem tu {w w1 X:L}{c0 c1:S P}{a:Option Addr}{n c:V}{ws:U Bs}{s:Bs}{ops:S Oper}{rest:U Oper}{o:Oper}{ac:Act}{Q:Exit->Act->L->Prop}(h:uW w w1 c0 c1 X a n c ws)(hlt:w.1.size<w1.1.size)(hn:n<=1000)
  (hgd:o.guard=C) (p q:Operand) (ho:o.op= .call {callee:= .builtin .append,args:=#[p,q],argTypes:=#[23,23]}) (hs:ac.eval p= H a n c) (hx:ac.eval q= H (A ⟨X.1.size,0,C⟩) 1 1)
  (K:∀a' c' w',uW w w1 c0 c1 w' a' (n+1) c' (ws++[s])->wpList u ops Q rest (ac.put o.dst (H a' (n+1) c')) w'):wpList u ops Q (o::rest) ac (X.alloc (O #[G ⟨s.toArray⟩] 9)):=by
 obtain⟨i,z,hi,hz,hsize,dx,hzs⟩:=nL;refine je hgd p q 23 ho i z 16 underlying23 hi hz hsize dx hzs hs (h.o.alloc _) (A ⟨X.1.size,0,C⟩) 1 1 (n+1) [s] hx (Row.PO rfl s) (by rw[<-h.o.len]) ah (by unfold maxLen;omega) (by have:=h.s;simp;omega) ?_;intro a' c' w' h1 h2 _;exact K a' c' w' (h.snoc hlt h1 h2)
theorem RQ {s:aH}(h:dW s):1<=s.kind/\s.kind<=9:=by
 rcases h.2.2 with⟨e,_⟩|⟨e,_⟩|⟨e,_⟩|⟨e,_⟩|⟨e,_⟩|⟨e,_⟩|⟨e,_⟩|⟨e,_⟩|⟨e,_⟩ <;> omega
theorem XM {w:L}{B:V}{l:bE}{s:aH}(h:gD w B l s)(k:V)(hkd:s.kind=(k:I))(h0:0<k)(hB:iX s=true)(hn:s.names.length<=1000)(hv:s.aG.length<=1000)(hg:kg w):
  Calls u 18 #[dY l] w (uF (G ⟨(jL s).toArray⟩) (E D 0) w):=by
 have hba:=aA (Below.refl w.1.size w) (O (bJ l) 66);have Di:=g (DF (h.below hba) hn hv (hg.below hba));rw[hB] at Di;have HB0:=g hba;have rn:=h.2.1.row ah;have rv:=h.2.2.row ah;obtain⟨⟨e1,e2,e3,e4,e5,e6⟩,_,_⟩:=h;obtain⟨lk,na,nn,nc,lvl,va,vn,vc,lf,bits⟩:=l;obtain⟨sk,names,slv,aG,first,sbt⟩:=s;simp only at e1 e2 e3 e4 e5 e6 hkd hn hv rn rv;subst e1 e2 e3 e4 hkd;obtain⟨N,hN⟩:∃N:V,bS k=(N:I):=⟨(bS k).toNat,by unfold bS;split <;> rfl⟩;obtain⟨r,hr⟩:∃r,dG k=r:=⟨_,rfl⟩;have hNb:1<=N/\N<=2:=by
  have:1<=bS k/\bS k<=2:=by
   obtain⟨m,rfl⟩:∃m,k=m+1:=⟨k - 1,by omega⟩;unfold bS;split <;> first|decide|(rename_i h;cases h)
  omega
 have hc:r=108\/r=118\/r=103\/r=109\/r=115\/r=116\/r=0:=by rw[<-hr];unfold dG;split <;> simp
 simp only[iX,zo,aO,aW,jB,hN,hr] at hB;obtain⟨⟨_,hk10⟩,⟨⟨⟨⟨⟨a1,a2⟩,a3⟩,a4⟩,a5⟩,⟨b1,b2⟩,b3⟩,c9⟩:=hB;have akA:k<10:=by omega
 obtain⟨c,hcl⟩:∃c,names.length=N+c:=⟨names.length - N,by omega⟩;have hmo:ji r<=300:=by unfold ji;split <;> (try split) <;> decide
 have adn:c<=300:=by omega
 have HWS:=g (XK (lvl:=lvl) (aG:=aG) (first:=lf) (bits:=bits) hN hr hcl);have HWN:Hid (∀x∈names,bF ⟨x.toArray⟩=true):=g (fA.1 a5);have HWV:Hid (∀t∈aG,j5 t):=g (Tg a4);have HWL:=g (Gh ⟨(k:I),names,lvl,aG,lf,bits⟩ HWN.q HWV.q);have HWP:Hid (0<(iE ⟨(k:I),names,lvl,aG,lf,bits⟩).length):=g (by unfold iE;simp);unfold jL;generalize iE ⟨(k:I),names,lvl,aG,lf,bits⟩=WL at HWS HWL HWP ⊢;have HRN:=g rn;have HRV:=g rv;obtain⟨_,nb,no,_,rfl,_⟩:=rn.at_ (i:=0) (by have:=rn.len;omega);have hnn:nn=N+c:=by have:=rn.len;omega
 subst hnn;obtain⟨ma,hsl,_,hrd,_⟩:=Js rn N ah;rw[Nat.add_sub_cancel_left] at hsl hrd;have wX:=g hrd;have hcap:=rn.cap;have aq9:((N:I)<=(nc:I)):=by omega
 have hf:=hg.2.1 k akA;have hf1:w.cell? ⟨0,k*3,C⟩=A (G ⟨(bB k).toArray⟩):=by rw[wh];exact hf.1
 have hf2:w.cell? ⟨0,k*3+1,C⟩=A (E D (N:I)):=by rw[wh,<-hN];exact hf.2.1
 have hf3:w.cell? ⟨0,k*3+2,C⟩=A (.int .i32 r):=by rw[wh,<-hr];exact hf.2.2
 have hb0:=dR hf1;simp only at hb0;have HF:=g (And.intro hf1 (And.intro hf2 hf3));have HG:=g hg;have hk1:((k:I)==0)=Z:=by simp;omega
 have hkz:((k:I)!=0)=true:=by simp;omega
 have HX0:=g (Bx.new w #[E D (k:I),H (A ⟨nb,no,C⟩) (N+c) nc,E D lvl,H va vn vc,M lf,E D bits] 66);have Kj:=g hNb;have HC:=g hc;have an7:=g b1;have HB3:=g b3;have KF:=g c9;have HA3:=g a3;have kR:=g adn;have Mg:=g hcl;clear hg hf hf1 hf2 hf3 hba hrd rn rv hN hr hNb hc a1 a2 a3 a4 a5 b1 b2 b3 c9 hmo adn hcl h0 e5 e6 hn hv;go_enter Tryz.func18,Tryz.ntmps18;go_wp2_with fail;refine Di.q.mono ?_;rintro e w1 ⟨rfl,hb1⟩;simp only[bY];have hx1:=HX0.q.keep hb1;have HB1:=g (HB0.q.bZ hb1);have eX:=g hx1;have an8:=hx1.1;have hf1:=bn HB1.q rfl HF.q.1;have hf2:=bn HB1.q rfl HF.q.2.1;have hf3:=bn HB1.q rfl HF.q.2.2;have hlx:=hx1.2.2;have hlt':w.1.size<w1.1.size:=hlx;have an9:0<w1.1.size:=by omega
 have ara:(k:I)<10:=by omega
 clear hb1 hx1;go_wp2_with fail;have HY:=g (Bx.new w1 #[G ⟨(bB k).toArray⟩,E D (N:I),.int .i32 r] 139);have PS:Hid (Own ((w1.alloc (O #[G ⟨(bB k).toArray⟩,E D (N:I),.int .i32 r] 139)).drew.alloc (O #[G ⟨(bB k).toArray⟩] 9)) (w1.1.size+1) 9 1 encStr (H (A ⟨w1.1.size+1,0,C⟩) 1 1) [bB k]):=g (Own.strs (X:=(w1.alloc (O #[G ⟨(bB k).toArray⟩,E D (N:I),.int .i32 r] 139)).drew) ak [bB k] (by simp[maxLen]));have HBS:=g (aA (aA (Below.refl w1.1.size w1) (O #[G ⟨(bB k).toArray⟩,E D (N:I),.int .i32 r] 139)).drew (O #[G ⟨(bB k).toArray⟩] 9));have jw:=g (((HRN.q.below HB1.q rfl).below HBS.q rfl).takeN (m:=N) (c':=nc) ah ah);have PU:Hid (w1.1.size+1<=((w1.alloc (O #[G ⟨(bB k).toArray⟩,E D (N:I),.int .i32 r] 139)).drew.alloc (O #[G ⟨(bB k).toArray⟩] 9)).1.size):=g ak;have HXY:=g (eX.q.alloc (O #[G ⟨(bB k).toArray⟩,E D (N:I),.int .i32 r] 139));refine aC 9 [(0,0),(1,0),(3,0),(4,0),(5,0),(6,0),(7,0),(2,2),(8,2),(9,1)] (λ_=>True) (λW'=>W'.cell? ⟨w.1.size,1,C⟩=A (H (A ⟨nb,no,C⟩) (N+c) nc)/\W'.cell? ⟨w1.1.size,0,C⟩=A (G ⟨(bB k).toArray⟩)/\W'.cell? ⟨w1.1.size,1,C⟩=A (E D (N:I))) ay ay (trivial) (⟨HXY.q.drew.1 1,HY.q.drew.1 0,HY.q.drew.1 1⟩) ?_;refine qC ?_;refine aF rfl rfl (λK hK=>?_);go_simp;refine hK _ _ ⟨trivial,(HXY.q.drew.alloc _).1 1,(HY.q.drew.alloc _).1 0,(HY.q.drew.alloc _).1 1⟩ ?_;clear hK K;refine aF rfl rfl (λK hK=>?_);obtain⟨i,z,hi,hz,hsize,dx,hzs⟩:=nL;refine lX _ _ 23 rfl i z 16 underlying23 hi hz hsize dx hzs (v:= H (A ⟨w1.1.size+1,0,C⟩) 1 1) rfl PS.q (A ⟨nb,no,C⟩) N nc (1+N) (names.take N) rfl jw.q rfl (by have:=Kj.q;omega) (by have:=Kj.q;unfold maxLen;omega) PU.q ?_;intro a cc wx hown2 hg2 vR;have hx2:Bx wx w.1.size #[E D (k:I),H (A ⟨nb,no,C⟩) (N+c) nc,E D lvl,H va vn vc,M lf,E D bits]:=(HXY.q.drew.alloc _).grown hg2 (PS.q.far' (.inl ah));have hy2:Bx wx w1.1.size #[G ⟨(bB k).toArray⟩,E D (N:I),.int .i32 r]:=(HY.q.drew.alloc _).grown hg2 (PS.q.far' (.inl ah));refine hK _ _ ⟨trivial,hx2.1 1,hy2.1 0,hy2.1 1⟩ ?_;clear hK K;obtain⟨D0,hD0⟩:∃D0:S P,D0=#[E D (k:I),H (A ⟨nb,no,C⟩) (N+c) nc,E D lvl,H va vn vc,M lf,E D bits]:=⟨_,rfl⟩;obtain⟨D1,hD1⟩:∃D1:S P,D1=#[G ⟨(bB k).toArray⟩,E D (N:I),.int .i32 r]:=⟨_,rfl⟩;rw[<-hD0] at hx2;rw[<-hD1] at hy2;have HT:Hid (uW w w1 D0 D1 wx a (1+N) cc ([bB k]++names.take N)):=g ⟨hx2,hy2,hown2,HB1.q.trans ((below_app (((HBS.q.mono (Nat.le_of_lt hlt')))) PS.q ah (by have:=PU.q;omega) hg2)),by have:=hg2.size;have:=PU.q;omega⟩;clear hown2 hg2 vR hx2 hy2 hi hz hsize dx hzs;refine qC ?_;refine aP ?_;have HD0:=g hD0;have HD1:=g hD1;have Bw:=g hlt';generalize hq:1+N=n at HT ⊢;have hn7:n<=3:=by have:=Kj.q;omega
 have iM:=g hn7;obtain⟨R,hR⟩:∃R,R=r:=⟨_,rfl⟩;have HR:=g hR;rw[show yR r (names.drop N) aG c=yR R (names.drop N) aG c by rw[hR]] at HWS;clear hq hn7 hR hD0 hD1 an8 hf1 hf2 hf3 HY PS HBS jw PU HXY hlx hlt' an9;have hcx:=HT.q.x.1;have hcy:=HT.q.y.1;rw[HD0.q] at hcx;rw[HD1.q] at hcy;rcases HC.q with rfl|rfl|rfl|rfl|rfl|rfl|rfl
 case' inl=>
  obtain⟨lw,rfl,l1,l4⟩:∃lw:V,lvl=(lw:I)/\1<=lw/\lw<=4:=by
   have h1:=an7.q;have h2:=KF.q;simp[fP] at h1 h2;exact⟨lvl.toNat,by omega,by omega,by omega⟩
  go_wp2_with fail;refine(LY lw l1 l4 _ (HG.q.below HT.q.b)).mono ?_;rintro e w3 ⟨rfl,hb3⟩
  replace HT:=g (HT.q.call hb3)
  clear hb3;have hcx:=HT.q.x.1;have hcy:=HT.q.y.1;rw[HD0.q] at hcx;rw[HD1.q] at hcy
  go_wp2_with (at_builtin;refine tu HT.q Bw.q (by have:=iM.q;omega) rfl _ _ rfl rfl rfl ?_;intro a cc wx ht;replace HT:=g ht;clear ht;have hcx:=HT.q.x.1;have hcy:=HT.q.y.1;rw[HD0.q] at hcx;rw[HD1.q] at hcy)
  rw[show([kG lw]:U Bs)=Bv 108 (lw:I) aG bits lf from rfl] at HT;have HM:Hid (n+1<=7):=g (by have:=iM.q;omega)
 case' inr.inl=>
  obtain⟨t0,hvs⟩:∃t0,aG=[t0]:=List.length_eq_one_iff.1 (by have:=HA3.q;simp[lI] at this;omega);obtain rfl:vn=1:=by have:=HRV.q.len;rw[hvs] at this;exact this.symm
  obtain⟨t1,vb,vo,hv0,rfl,PV⟩:=HRV.q.at_ (i:=0) aj;obtain rfl:t0=t1:=by rw[hvs] at hv0;simpa using hv0
  have hv1:=PV 0 _ rfl;have hv2:=PV 1 _ rfl;simp only[Nat.zero_mul,dM] at hv1 hv2;have hu1:=bn HT.q.b rfl hv1;have hu2:=bn HT.q.b rfl hv2;obtain⟨k0,k9,k1⟩:=XO (HWV.q t0 (by rw[hvs];simp));have E8:=g hvs;clear PV hv1 hv2 hv0 hvs;go_wp2_with fail;refine(ML t0 k0 k9 k1 _).mono ?_;rintro e w3 ⟨rfl,hb3⟩
  replace HT:=g (HT.q.call hb3)
  clear hb3;have hcx:=HT.q.x.1;have hcy:=HT.q.y.1;rw[HD0.q] at hcx;rw[HD1.q] at hcy
  go_wp2_with (at_builtin;refine tu HT.q Bw.q (by have:=iM.q;omega) rfl _ _ rfl rfl rfl ?_;intro a cc wx ht;replace HT:=g ht;clear ht;have hcx:=HT.q.x.1;have hcy:=HT.q.y.1;rw[HD0.q] at hcx;rw[HD1.q] at hcy)
  rw[show([gq t0]:U Bs)=Bv 118 lvl aG bits lf from by rw[E8.q];rfl] at HT;have HM:Hid (n+1<=7):=g (by have:=iM.q;omega)
 case' inr.inr.inl=>
  obtain⟨bt,rfl,ahq⟩:∃b:V,bits=(b:I)/\b<=15:=by have:=HB3.q;simp at this;exact⟨bits.toNat,by omega,by omega⟩
  have hg0:=(HG.q.below HT.q.b).2.2.1;have hg1:=hg0 0 aj;have hg2:=hg0 1 aj;have hg3:=hg0 2 aj;have hg4:=hg0 3 aj;have hb1':=dR hg1;clear hg0;simp only[lg] at hg1 hg2 hg3 hg4;simp only at hb1';go_wp2_with fail
  go_loopw [6,67] (λv i wr=>∃(j:V)(a0:Option Addr)(c0 m:V),j<=4/\m<=3+j/\v= H a0 m c0/\i= E D j/\uW w w1 D0 D1 wr a0 m c0 ([bB k]++names.take N++qj bt j)) (λ_ i _=>4 - (RowKit.intOf i).toNat)
  case atStart=>exact⟨0,a,cc,n,aZ _,iM.q,rfl,rfl,by simpa[qj] using HT.q⟩
  case' round=>
   obtain⟨j,a,cc,m,hj,hm,rfl,rfl,XP⟩:=hrel
   replace HT:=g XP;clear XP
   clear hcx hcy;have hcx:=HT.q.x.1;have hcy:=HT.q.y.1;rw[HD0.q] at hcx;rw[HD1.q] at hcy;by_cases hlt2:j<4
   .have hbit:=aaO bt j ahq hlt2
    have hgs:=RO bt j;have hix:=aaJ j hlt2;have hsh:=aeP bt j ahq hlt2;have Ap:=g hm;by_cases hp:(bt:I) / 2 ^ j % 2=1
    .rw[av hp] at hgs;rw[bN hp] at hbit
     have XQ:=g hgs;clear hp hgs
     go_wp2_with (at_builtin;refine tu HT.q Bw.q (by have:=Ap.q;omega) rfl _ _ rfl rfl rfl ?_;intro a cc wx ht;replace HT:=g ht;clear ht;have hcx:=HT.q.x.1;have hcy:=HT.q.y.1;rw[HD0.q] at hcx;rw[HD1.q] at hcy)
     go_roundw
     case rel=>exact⟨j+1,a,cc,_,by omega,by omega,rfl,by go_num,by rw[XQ.q,<-dD];exact HT.q⟩
     case measure=>simp[RowKit.intOf];omega
    .rw[au hp,dB] at hgs;rw[bq hp] at hbit
     have XQ:=g hgs;clear hp hgs;go_wp2_with fail;go_roundw
     case rel=>exact⟨j+1,a,cc,_,by omega,by omega,rfl,by go_num,by rw[XQ.q];exact HT.q⟩
     case measure=>simp[RowKit.intOf];omega
   have Mk:j=4:=by omega
   rw[Mk,show qj bt 4=Bv 103 lvl aG bt lf from rfl] at HT;have HM:Hid (m<=7):=g ah;clear Mk hm;go_wp2_with fail
 case' inr.inr.inr.inl=>
  cases lf
  case' true=>
   go_wp2_with (at_builtin;refine tu HT.q Bw.q (by have:=iM.q;omega) rfl _ _ rfl rfl rfl ?_;intro a cc wx ht;replace HT:=g ht;clear ht;have hcx:=HT.q.x.1;have hcy:=HT.q.y.1;rw[HD0.q] at hcx;rw[HD1.q] at hcy)
   rw[show([[45]]:U Bs)=Bv 109 lvl aG bits true from rfl] at HT;have HM:Hid (n+1<=7):=g (by have:=iM.q;omega)
  case' false=>
   go_wp2_with fail;rw[show [bB k]++names.take N=[bB k]++names.take N++Bv 109 lvl aG bits Z from(dB _).symm] at HT;have HM:Hid (n<=7):=g (by have:=iM.q;omega)
 case' inr.inr.inr.inr.inl=>
  go_wp2_with fail;rw[show [bB k]++names.take N=[bB k]++names.take N++Bv 115 lvl aG bits lf from(dB _).symm] at HT;have HM:Hid (n<=7):=g (by have:=iM.q;omega)
 case' inr.inr.inr.inr.inr.inl=>
  go_wp2_with fail;rw[show [bB k]++names.take N=[bB k]++names.take N++Bv 116 lvl aG bits lf from(dB _).symm] at HT;have HM:Hid (n<=7):=g (by have:=iM.q;omega)
 case' inr.inr.inr.inr.inr.inr=>
  go_wp2_with fail;rw[show [bB k]++names.take N=[bB k]++names.take N++Bv 0 lvl aG bits lf from(dB _).symm] at HT;have HM:Hid (n<=7):=g (by have:=iM.q;omega)
 all_goals
  generalize [bB k]++names.take N++Bv _ _ _ _ _=W at HT HWS
  go_loopw [6,91] (λv i wr=>∃(j:V)(a0:Option Addr)(c0 m:V),j<=c/\m<=7+2*j/\v= H a0 m c0/\i= E D j/\uW w w1 D0 D1 wr a0 m c0 (W++yR R (names.drop N) aG j)) (λ_ i _=>c - (RowKit.intOf i).toNat)
  case atStart=>exact⟨0,a,cc,_,aZ _,by have:=HM.q;omega,rfl,rfl,by rw[XL,dB];exact HT.q⟩
  case round=>
   obtain⟨j,a,cc,m,hj,hm,rfl,rfl,XP⟩:=hrel
   replace HT:=g XP;clear XP hcx hcy
   have hcx:=HT.q.x.1;have hcy:=HT.q.y.1;rw[HD0.q] at hcx;rw[HD1.q] at hcy;have Ap:=g hm;by_cases hlt2:j<c
   .obtain⟨s,b',o',hx,rfl,hxc⟩:=wX.q.at_ hlt2
    have hx1:=bn HT.q.b rfl (hxc 0 _ rfl);rw[gT,dM] at hx1;have F5:=g hx;clear hxc hx;have hj3:=kR.q
    try
     have PW:vn=c:=by have h3:=HA3.q;have h4:=HRV.q.len;have h5:=Mg.q;simp only[lI,Int.reduceEq,fF,bY] at h3;omega
     subst PW;obtain⟨t0,vb,vo,hv0,rfl,PV⟩:=HRV.q.at_ (i:=j) ah;have hu1:=PV 0 _ rfl;have hu2:=PV 1 _ rfl;rw[dM] at hu1;obtain⟨k0,k9,k1⟩:=XO (HWV.q t0 (dP hv0));have HV0:=g hv0;have HUU:=g (And.intro hu1 hu2);clear PV hv0 hu1 hu2
    go_wp2_with (at_builtin;refine tu HT.q Bw.q (by have:=Ap.q;have:=kR.q;omega) rfl _ _ rfl rfl rfl ?_;intro a cc wx ht;replace HT:=g ht;clear ht;(try(have hu1:=bn HT.q.b rfl HUU.q.1;have hu2:=bn HT.q.b rfl HUU.q.2));have hcx:=HT.q.x.1;have hcy:=HT.q.y.1;rw[HD0.q] at hcx;rw[HD1.q] at hcy)
    try
     refine(ML t0 k0 k9 k1 _).mono ?_;rintro e w3 ⟨rfl,hb3⟩
     replace HT:=g (HT.q.call hb3)
     clear hb3;have hcx:=HT.q.x.1;have hcy:=HT.q.y.1;rw[HD0.q] at hcx;rw[HD1.q] at hcy
     go_wp2_with (at_builtin;refine tu HT.q Bw.q (by have:=Ap.q;have:=kR.q;omega) rfl _ _ rfl rfl rfl ?_;intro a cc wx ht;replace HT:=g ht;clear ht;have hcx:=HT.q.x.1;have hcy:=HT.q.y.1;rw[HD0.q] at hcx;rw[HD1.q] at hcy)
    go_roundw
    case rel=>exact⟨j+1,a,cc,_,by omega,by omega,rfl,by go_num,by
     first
     |(rw[aaH (by rw[HR.q];decide) F5.q,<-dD];exact HT.q)
     |(have:=HT.q;rw[HR.q] at this ⊢;rw[aaI F5.q HV0.q,<-dD,<-dD];exact this)⟩
    case measure=>simp[RowKit.intOf];omega
   .obtain rfl:j=c:=by omega
    go_wp2_with fail;have hT9:=HT.q;rw[<-HWS.q] at hT9;have hjl:=En _ HWL.q;have hln:=hT9.o.len;have hl1:=HWP.q;have hj3:=kR.q;have HJ:=g (aaP _ _ _ _ _ (hT9.o.row ah) ah HWL.q ah);have hNL:¬(9223372036854775807<(Lib.join WL [32]).length+1):=by omega
    clear hjl hln hT9 hl1 hj3;refine HJ.q.mono ?_;rintro e w9 ⟨rfl,KG⟩;have XR:=g (HT.q.b.trans (KG.mono HT.q.b.size));clear KG HJ;go_wp2_with fail
    go_ret2
    exact⟨bU (λs=>Ending.returned (.tuple #[.string s,E D 0])) (Ut _ _),XR.q⟩
theorem aax {w:L}{B:V}{l:bE}{s:aH}(h:gD w B l s)(hs:dW s)(hg:kg w):Calls u 18 #[dY l] w (uF (G ⟨(jL s).toArray⟩) (E D 0) w):=by
 have hk:=RQ hs;exact XM h s.kind.toNat ah ah (Eo hs) hs.len.1 hs.len.2 hg
end Yd
