import Derived.Test.YtddiadcpokbpoaaGreatDoorLD1
import Derived.Test.YtddiadcpokbpoaaGreatDoorLRSpk
import Derived.Test.YtddiadcpokbpoaaGreatDoorLRRi
set_option linter.all false
set_option maxRecDepth 200000
set_option maxHeartbeats 8000000
namespace Yd
open Option renaming some->F,none->G
open Go Go.RowKit Go.Proofs Tryz
open Go renaming Value->I
open Go.IntKind renaming i64->u
open Go.Obj renaming cells->y
open Go.Value renaming int->f,string->O,bool->Z
open Same renaming of_below->S,refl'->U
open World renaming size_alloc->H
open Yd renaming hid->A
open _root_ renaming List->C,trivial->J,Nat->P,Array->V
section
variable {R:P}{cs:V I}{c:Cont}{es:C EvC}{ds:C aM}{ms:C aN}{g:Bool}{X Y:World}
theorem lg.names {cs':V I}{nl:P->C Bs}(h:lg X R cs c es ds ms g)(hs:Same (λi=>i≠R) X Y)(hT:CB 0 (λ_=>True) Y R cs' nl)(ho:∀j,4<=j->j<8->cs'[j]?=cs[j]?)(hz:cs'.size=9)(hk:cs'[8]?=F (Z (g && rA nl))):lg Y R cs' {c with nl:=nl} es ds ms g:=
 ⟨h.s.qR hs hT ho,hz,hk⟩
theorem lg.off {b:P}{T:TypeId}(h:lg X R cs c es ds ms g)(hg:∃cs fz,X.1[b]?=F (y cs T fz))(hR:R≠b)(h1:9≠T)(h2:47≠T)(h3:74≠T)(h4:77≠T)(h5:79≠T)(h6:117≠T)(h7:3≠T)(hs:Same (λi=>i≠b) X Y):lg Y R cs c es ds ms g:=
 ⟨⟨h.s.t.apart hg h1 hR hs,(let⟨v,q1,q2⟩:=h.s.e;⟨v,q1,q2.aK hg h2 hs⟩),(let⟨v,q1,q2⟩:=h.s.d;⟨v,q1,q2.aK hg h3 hs⟩),(let⟨v,q1,q2⟩:=h.s.m;⟨v,q1,q2.aK hg h4 hs⟩),(let⟨v,q1,q2⟩:=h.s.q;⟨v,q1,q2.aK hg h5 hs⟩),
  h.s.be,h.s.bd,h.s.bm,h.s.se.imp (λ_ _ q=>q.aK hg h6 hs),h.s.sd.imp (λ_ _ q=>q.aK hg h7 hs),h.s.sm.imp (λ_ _ q=>q.aK hg h7 hs)⟩,h.z,h.k⟩
end
theorem LH {R:P}{cs:V I}{c:Cont}{es:C EvC}{ds:C aM}{ms:C aN}{g:Bool}(v:To)(w:World)(h:lg w R cs c es ds ms g)(hl:(c.nl 0).length<=1000000):
  Calls Tryz.prog 100 #[.pointer (F ⟨R,0,G⟩),vB v] w (lF R cs (c.bR v).1 es ds ms g (.agg #[f u (c.bR v).2.t,f u (c.bR v).2.k]) w):=by
 obtain⟨n,k⟩:=v;have HB:=A (((aB (aB (Below.refl w.1.size w) (y #[O ⟨n.toArray⟩,f u k] 52)) (y #[f u 0,f u 0] 44)).drew));have hx1:=(Bx.new w #[O ⟨n.toArray⟩,f u k] 52).alloc (y #[f u 0,f u 0] 44);have HH:=A h;have bP:=A hx1;by_cases h0:k=0
 .subst h0
  clear hx1 h hl;go_enter func100,ntmps100;go_wp2_with fail;refine bodyPost_ret (v:= .agg #[f u 0,f u 0]) (by simp[results,results100,go_sem]) rfl ?_;have hbz:Below w.1.size w ((w.alloc (y #[O ⟨n.toArray⟩,f u 0] 52)).alloc (y #[f u 0,f u 0] 44)):=aB (aB (Below.refl w.1.size w) _) _;exact⟨rfl,S hbz (λ_ _ h=>h),cs,HH.q.below hbz,λ_ _ _=>rfl⟩
 .have hk:(k==0)=false:=aR.2 h0
  have H0:=A h0;have HN:=A (JY n _ (h.below HB.q) hl);have hx2:=(Bx.new (w.alloc (y #[O ⟨n.toArray⟩,f u k] 52)) #[f u 0,f u 0] 44);have bL:=A hx2;have HRR:=A h.s.t.b.2.2;have hcA:=hx1.1 0;have hcB:=hx1.1 1;have HV:Hid (c.bR ⟨n,k⟩=(c.put 0 n,⟨c.no 0 n,k⟩)):=A (ak h0);clear h hl h0 hx1 hx2;rw[HV.q];go_enter func100,ntmps100;go_wp2_with fail;refine aC 7 [(0,0),(1,0),(2,0),(4,0),(5,0),(3,2),(6,0),(7,2)] (λ_=>True) (λW'=>W'.cell? ⟨w.1.size,0,G⟩=F (O ⟨n.toArray⟩)/\W'.cell? ⟨w.1.size,1,G⟩=F (f u k)) av av (trivial) (⟨hcA,hcB⟩) ?_;refine qC ?_;refine aD rfl rfl (λK hK=>?_);go_simp;refine HN.q.mono ?_;rintro e w2 ⟨rfl,hS,cs',hT,ho⟩;have HT:=A hT;have Br:=A hS;have HO:=A ho;have hy1:=hS.bx bP.q.drew (by have:=HRR.q;omega);have hy2:=hS.bx bL.q.drew (by have:=HRR.q;simp;omega);refine hK _ _ ⟨J,hy1.1 0,hy1.1 1⟩ ?_;have hd0:=hy2.1 0;have hd1:=hy2.1 1;have hf0:=hy2.2.1 0;have hf1:=hy2.2.1 1;have Iy:=A hy2;rw[H] at hd0 hd1 hf0 hf1;clear hK K hT hS ho hy1 hy2;refine qC ?_;refine bq rfl rfl rfl (λK hK=>?_);go_simp;go_simp;refine hK _ _ J ?_;clear hK K;refine aJ ?_;go_wp2_with fail;have hz:=(Iy.q.aZ 0 au (f u (c.no 0 n))).aZ 1 au (f u k);rw[H] at hz;have hz0:=hz.1 0;have hz1:=hz.1 1;refine bodyPost_ret (v:= .agg #[f u (c.no 0 n),f u k]) (by simp[results,results100,go_sem,hz0,hz1]) rfl ?_;have OJ:=HRR.q;have h1:Same (λi=>i≠R/\i<w.1.size) w w2:=((S HB.q (λ_ _ h=>h)).tr (Br.q.mono (λi hi _=>hi.1)));have hn1:w.1.size+1<((w.alloc (y #[O ⟨n.toArray⟩,f u k] 52)).alloc (y #[f u 0,f u 0] 44)).drew.1.size:=by
   show w.1.size+1<((w.alloc (y #[O ⟨n.toArray⟩,f u k] 52)).alloc (y #[f u 0,f u 0] 44)).1.size;rw[H,H];omega
  have hn2:=World.alloc_heap_new (w.alloc (y #[O ⟨n.toArray⟩,f u k] 52)) (y #[f u 0,f u 0] 44);rw[H] at hn2;have ht:∃cs fz,w2.1[w.1.size+1]?=F (y cs 44 fz):=⟨_,_,(Br.q.block (w.1.size+1) ah hn1).trans hn2⟩;exact⟨rfl,((h1.setTail (λh=>by have:=h.2;omega)).setTail (λh=>by have:=h.2;omega)).mono (λi hi hl=>⟨hi,hl⟩),cs',
   HT.q.off ht ah aj aj aj aj aj aj aj (((U w2).setTail (λh=>h rfl)).setTail (λh=>h rfl)),HO.q⟩
theorem Qm:∀(l:C Bs)(nl:P->C Bs)(i:P),((iC nl l).1 i).length<=(nl i).length+l.length
 |[],_,_=>aA _
 |s::r,nl,i=>by
  have h1:=Qm r (nQ nl 0 s) i;have h2:(nQ nl 0 s i).length<=(nl i).length+1:=by
   unfold nQ
   split
   .rename_i h;subst h;unfold cZ;split <;> simp
   .omega
  show((iC (nQ nl 0 s) r).1 i).length<=_;rw[jd];omega
theorem X8 (c:Cont)(l:C Bs):(c.ts l).1={c with nl:=(iC c.nl l).1}/\(c.ts l).2=(iC c.nl l).2:=⟨(abV (Nm.ts l c) (Hr l c).1).symm,(Hr l c).2⟩
theorem ae9 {R:P}{cs:V I}{c:Cont}{es:C EvC}{ds:C aM}{ms:C aN}{g:Bool}(l:C Bs)(ta:Option Addr)(n tc:P)(w:World)(h:lg w R cs c es ds ms g)(hr:Row w 1 encStr ta n tc l)(hne:∀b o,ta=F ⟨b,o,G⟩->b≠R)(hn:n<=100000)(hl:(c.nl 0).length<=100000):
  Calls Tryz.prog 53 #[.pointer (F ⟨R,0,G⟩),.slice ta n tc] w (λe w'=>∃a cc,lF R cs (c.ts l).1 es ds ms g (.slice a l.length cc) w e w'/\Own w' w.1.size 3 1 aQ (.slice a l.length cc) (c.ts l).2):=by
 rw[(X8 c l).1,(X8 c l).2];have HH:=A h;have HR:=A hr;have jG:=A hne;have HL:=A hl;have HRR:=A h.s.t.b.2.2;obtain⟨i,z,hi⟩:=yZ;have HI:=A hi;have hle:=hr.le;have HLEN:=A hr.len;clear h hr hne hl hi;go_enter func53,ntmps53;go_wp2_with fail
 go_loopw [5,10] (λv i wr=>∃(k:P)(a0:Option Addr)(c0:P)(cs':V I),k<=n/\v= .slice a0 k c0/\i= f u k/\Own wr w.1.size 3 1 aQ (.slice a0 k c0) (iC c.nl (l.take k)).2/\
   CB 0 (λ_=>True) wr R cs' (iC c.nl (l.take k)).1/\(cs'.size=9/\cs'[8]?=F (Z (g && rA (iC c.nl (l.take k)).1))/\∀j,4<=j->j<8->cs'[j]?=cs[j]?)/\Same (λi=>i≠R) w wr) (λ_ i _=>n - (RowKit.intOf i).toNat)
 case atStart=>
  exact⟨0,G,0,cs,aV _,rfl,rfl,Own.fJ _ _ _ _ _,HH.q.s.t,⟨HH.q.z,HH.q.k,λ_ _ _=>rfl⟩,U _⟩
 case round=>
  obtain⟨k,a0,c0,cs',hk,rfl,rfl,how,hrg,hoth,hS⟩:=hrel;by_cases hlt:k<n
  .obtain⟨s,b,o,hx,rfl,hc⟩:=HR.q.at_ hlt
   have hc0':=hc 0 _ rfl;simp only[jo,bM] at hc0';have hc0:wr.cell? ⟨b,o+k,G⟩=F (O ⟨s.toArray⟩):=(World.cell?_of_block (a:=⟨b,o+k,G⟩) (hS.block b (jG.q b o rfl) (jC hc0'))).trans hc0';have kX:=JY (c:={c with nl:=(iC c.nl (l.take k)).1}) s wr (HH.q.names hS hrg hoth.2.2 hoth.1 hoth.2.1) (by have:=Qm (l.take k) c.nl 0;rw[dN] at this;have:=HL.q;show((iC c.nl (l.take k)).1 0).length<=_;omega);have ze:=A kX;have HOW:=A how;have II:=A hoth;have HS:=A hS;have HX:=A hx;clear how hrg hoth hS kX hc hc0' hx;go_wp2_with fail;refine ze.q.mono ?_;rintro e w1 ⟨rfl,hS1,cs2,hrg2,ho2⟩;have e1:l.take (k+1)=l.take k++[s]:=by rw[eO,HX.q];rfl
   have Jo:=A hrg2;have iA:=A ho2;have iE:=A hS1;have Ey:Hid (Own w1 w.1.size 3 1 aQ (.slice a0 k c0) (iC c.nl (l.take k)).2):=A (HOW.q.same hS1 (λg hg e=>by have:=(HOW.q.lt g hg).1;have:=HRR.q;omega));have HE:Hid ((iC c.nl (l.take (k+1))).1=nQ (iC c.nl (l.take k)).1 0 s/\(iC c.nl (l.take k)).2++[Cont.no {c with nl:=(iC c.nl (l.take k)).1} 0 s]=(iC c.nl (l.take (k+1))).2):=A (by rw[e1,Ez];exact⟨rfl,rfl⟩);have jW:Hid ((iC c.nl (l.take k)).2.length+1=k+1):=A (by rw[K6,dN,HLEN.q,zF hk]);have fT:Hid ((k+1)*8<=140737488355328):=A ah;have lV:Hid (k+1<=maxLen):=A (by unfold maxLen;omega);obtain⟨N,hN⟩:∃N,N=Cont.no {c with nl:=(iC c.nl (l.take k)).1} 0 s:=⟨_,rfl⟩;rw[<-hN] at HE ⊢;have vZ:Hid (w.1.size<=(w1.alloc (y #[f u N] 3)).1.size):=A (by have h1:=HS.q.size;have h2:=hS1.size;simp;omega);clear hrg2 ho2 hS1 e1 hN
   go_wp2_with (at_builtin;refine eB rfl _ _ 72 rfl i z 8 underlying72 HI.q.1 HI.q.2.1 HI.q.2.2.1 HI.q.2.2.2.1 HI.q.2.2.2.2 rfl (Ey.q.alloc _) (F ⟨w1.1.size,0,G⟩) 1 1 (k+1) [N] rfl (Row.i1 w1 _) jW.q fT.q lV.q vZ.q ?_;intro a' c' w2 hown1 hg1 rz)
   rw[HE.q.2] at hown1;have hb3:=aB (Below.refl w1.1.size w1) (y #[f u N] 3);have Ww:Same (λi=>i≠R/\i<w.1.size) w w2:=((HS.q.tr iE.q).mono (λi hi _=>hi.1)).tr ((S hb3 (λ_ _ h=>h)).tr (Ko hg1 (λg e=>(Ey.q.lt g e).1)));have hrg3:=(Jo.q.s.t.below hb3).grown (T:=3) hg1 (λg e=>⟨by have:=(Ey.q.lt g e).1;have:=HRR.q;omega,(Ey.q.alloc _).tag e⟩) aj;have Jp:=A (⟨hown1,hrg3,Ww.mono (λi hi hl=>⟨hi,hl⟩)⟩:_/\_/\_);clear hown1 hg1 rz hb3 Ww hrg3;go_roundw
   case rel=>
    refine⟨k+1,a',c',cs2,by omega,rfl,by go_num,Jp.q.1,?_,⟨Jo.q.z,?_,λj h1 h2=>(iA.q j h1 h2).trans (II.q.2.2 j h1 h2)⟩,Jp.q.2.2⟩
    .rw[HE.q.1];exact Jp.q.2.1
    .rw[HE.q.1];exact Jo.q.k
   case measure=>simp[RowKit.intOf];omega
  .obtain rfl:k=n:=by omega
   have htk:l.take k=l:=dR (by rw[HLEN.q];exact aA _);rw[htk] at how hrg hoth;have HOW:=A how;have Fq:=A hrg;have II:=A hoth;have HS:=A hS;clear how hrg hoth hS htk;go_wp2_with fail;go_ret;rw[HLEN.q];exact⟨a0,c0,⟨rfl,HS.q,cs',HH.q.names HS.q Fq.q II.q.2.2 II.q.1 II.q.2.1,II.q.2.2⟩,HOW.q⟩
attribute [local go_sem] Oper.semAt_some
theorem Yr {c d:Cont}(hf:aI c)(h:Nm c d)(e:EvC)(L:C Sn):x9 (d.ev e L)=((decide (e.kind=2->e.v.k<=999) && decide (c.E.length<3000)) && rA d.nl):=by
 rw[Bool.eq_iff_iff,nX,aU,aU,bf,bf,y8];have e1:(d.ev e L).E=c.E++[e]:=by show d.E++[e]=_;rw[h.e]
 constructor
 .rintro⟨q1,q2,_,_,_,q6⟩
  rw[e1] at q2 q6;rw[dH,kT] at q2;exact⟨⟨q6 e au,q2⟩,q1⟩
 .rintro⟨⟨q1,q2⟩,q3⟩
  refine⟨q3,by rw[e1,dH,kT];exact q2,by show d.D.length<=_;rw[h.d];exact hf.2.2.1,by show d.M.length<=_;rw[h.m];exact hf.2.2.2.1,by show d.Q.length<=_;rw[h.q];exact hf.2.2.2.2.1,λx hx=>?_⟩;rw[e1] at hx;rcases bJ.1 hx with hx|hx
  .exact hf.2.2.2.2.2 x hx
  .rw[bF.1 hx];exact q1
section
variable {R:P}{cs:V I}{c:Cont}{es:C EvC}{ds:C aM}{ms:C aN}{g:Bool}{X Y:World}
theorem lg.flag (h:lg X R cs c es ds ms g){b g':Bool}(hb:b=(g' && rA c.nl)):lg (X.setCell ⟨R,8,G⟩ (Z b)) R (cs.setIfInBounds 8 (Z b)) c es ds ms g':=by
 have hs:Same (λi=>i≠R) X (X.setCell ⟨R,8,G⟩ (Z b)):=(U X).setTail (λh=>h rfl);have ho:∀j,8≠j->(cs.setIfInBounds 8 (Z b))[j]?=cs[j]?:=λj hj=>jO hj
 have hz:8<cs.size:=by rw[h.z];decide
 refine⟨h.s.qR (nl:=c.nl) hs ⟨h.s.t.b.aZ 8 hz _,λk hk=>?_,J⟩ (λj _ hj=>ho j ah),by rw[Array.size_setIfInBounds];exact h.z,by rw[vQ hz,hb]⟩;obtain⟨v,h1,h2⟩:=h.s.t.t k hk;exact⟨v,(ho _ ah).trans h1,h2.gY hs⟩
theorem lg.ZJ {b:P}(h:lg X R cs c es ds ms g)(hg:∃cs fz,X.1[b]?=F (y cs 47 fz))(hR:R≠b)(hv:∀v,cs[4]?=F v->v.ownBlock≠F b)(hs:Same (λi=>i≠b) X Y):lg Y R cs c es ds ms g:=
 ⟨⟨⟨hs.bx h.s.t.b hR,λk hk=>(let⟨v,h1,h2⟩:=h.s.t.t k hk;⟨v,h1,h2.aK hg aj hs⟩),J⟩,(let⟨v,q1,q2⟩:=h.s.e;⟨v,q1,q2.same hs (λg hg e=>hv v q1 (by rw[hg,e]))⟩),(let⟨v,q1,q2⟩:=h.s.d;⟨v,q1,q2.aK hg aj hs⟩),(let⟨v,q1,q2⟩:=h.s.m;⟨v,q1,q2.aK hg aj hs⟩),(let⟨v,q1,q2⟩:=h.s.q;⟨v,q1,q2.aK hg aj hs⟩),
  h.s.be,h.s.bd,h.s.bm,h.s.se.imp (λ_ _ q=>q.aK hg aj hs),h.s.sd.imp (λ_ _ q=>q.aK hg aj hs),h.s.sm.imp (λ_ _ q=>q.aK hg aj hs)⟩,h.z,h.k⟩
theorem lg.seen {v:I}{L:C Sn}{B:P}(h:lg X R cs c es ds ms g)(hO:Own X B 117 3 bS v L)(hB:R<B)(hne:∀x∈es,∀q,v.ownBlock=F q->x.val.ownBlock≠F q)(hg:X.grownBy Y v.ownBlock):lg Y R cs c es ds ms g:=by
 cases hv:v.ownBlock with
 |none=>
  rw[hv] at hg;have hs:Same (λ_=>True) X Y:=⟨hg.os,hg.tape,hg.output,hg.size,λi _ hl=>hg.block i hl (λe=>by cases e)⟩;exact⟨h.s.qR (hs.mono λ_ _ _=>J) ⟨hs.bx h.s.t.b J,λk hk=>(let⟨v,v1,v2⟩:=h.s.t.t k hk;⟨v,v1,v2.same hs (λ_ _=>J)⟩),J⟩ (λ_ _ _=>rfl),h.z,h.k⟩
 |some q=>
  rw[hv] at hg;have hs:Same (λi=>i≠q) X Y:=⟨hg.os,hg.tape,hg.output,hg.size,λi hi hl=>hg.block i hl (λe=>hi (by injection e))⟩;have ht:=hO.tag hv;have hR:R≠q:=λe=>by have:=(hO.lt q hv).1;omega
  exact⟨⟨⟨hs.bx h.s.t.b hR,λk hk=>(let⟨v,h1,h2⟩:=h.s.t.t k hk;⟨v,h1,h2.aK ht aj hs⟩),J⟩,(let⟨v,q1,q2⟩:=h.s.e;⟨v,q1,q2.aK ht aj hs⟩),(let⟨v,q1,q2⟩:=h.s.d;⟨v,q1,q2.aK ht aj hs⟩),(let⟨v,q1,q2⟩:=h.s.m;⟨v,q1,q2.aK ht aj hs⟩),(let⟨v,q1,q2⟩:=h.s.q;⟨v,q1,q2.aK ht aj hs⟩),
   h.s.be,h.s.bd,h.s.bm,⟨h.s.se.1,λi x M h1 h2=>(h.s.se.2 i x M h1 h2).same hs (λg' hg' e=>hne x (bQ h1) q hv (by rw[hg',e]))⟩,h.s.sd.imp (λ_ _ o=>o.aK ht aj hs),h.s.sm.imp (λ_ _ o=>o.aK ht aj hs)⟩,h.z,h.k⟩
end
structure EvS (w W:World)(R kb bl:P)(LC:V I)(cs:V I)(c:Cont)(es:C EvC)(ds:C aM)(ms:C aN)(g:Bool)(ev:EvC):Prop where
 r:lg W R cs c es ds ms g
 l:Bx W bl LC
 e:Bx W kb (aY ev)
 t:∃q fz,W.1[kb]?=F (y q 47 fz)
 s:Same (λi=>i<R) w W
 n:R<bl/\bl<kb
 v:∀v,cs[4]?=F v->v.ownBlock≠F kb
 o:∀x∈es,∀q,x.val.ownBlock=F q->q<kb
section
variable {w W W':World}{R kb bl:P}{LC cs cs':V I}{c c':Cont}{es:C EvC}{ds:C aM}{ms:C aN}{g g':Bool}{ev:EvC}
theorem EvS.call (h:EvS w W R kb bl LC cs c es ds ms g ev)(hS:Same (λi=>i≠R) W W')(hr:lg W' R cs' c' es ds ms g)(ho:∀j,4<=j->j<8->cs'[j]?=cs[j]?):EvS w W' R kb bl LC cs' c' es ds ms g ev:=
 ⟨hr,hS.bx h.l (by have:=h.n;omega),hS.bx h.e (by have:=h.n;omega),(let⟨q,fz,e⟩:=h.t;⟨q,fz,(hS.block kb (by have:=h.n;omega) h.e.2.2).trans e⟩),h.s.tr (hS.mono λi hi _=>by omega),h.n,λv hv=>h.v v (by rw[<-ho 4 ah ah];exact hv),h.o⟩
theorem EvS.below (h:EvS w W R kb bl LC cs c es ds ms g ev)(hb:Below W.1.size W W'):EvS w W' R kb bl LC cs c es ds ms g ev:=
 h.call (S hb (λ_ _ h=>h)) (h.r.below hb) (λ_ _ _=>rfl)
theorem EvS.box (h:EvS w W R kb bl LC cs c es ds ms g ev)(hs:Same (λi=>i≠kb) W W'){ev':EvC}(he:Bx W' kb (aY ev'))(ht:∃q fz,W'.1[kb]?=F (y q 47 fz)):EvS w W' R kb bl LC cs c es ds ms g ev':=
 ⟨h.r.ZJ h.t (by have:=h.n;omega) h.v hs,hs.bx h.l (by have:=h.n;omega),he,ht,h.s.tr (hs.mono λi hi _=>by have:=h.n;omega),h.n,h.v,h.o⟩
theorem rO {X:World}{b i:P}{T:TypeId}{v:I}(h:∃q fz,X.1[b]?=F (y q T fz)):∃q fz,(X.setCell ⟨b,i,G⟩ v).1[b]?=F (y q T fz):=by
 obtain⟨q,fz,e⟩:=h;exact⟨_,_,bT (i:=i) e v⟩
theorem EvS.set (h:EvS w W R kb bl LC cs c es ds ms g ev)(ev':EvC){j:P}{x:I}(hj:j<9)(he:aY ev'=(aY ev).setIfInBounds j x):EvS w (W.setCell ⟨kb,j,G⟩ x) R kb bl LC cs c es ds ms g ev':=
 h.box ((U W).setTail (λh=>h rfl)) (by rw[he];exact h.e.aZ j hj x) (rO h.t)
theorem EvS.flag (h:EvS w W R kb bl LC cs c es ds ms g ev){b:Bool}(hb:b=(g' && rA c.nl)):EvS w (W.setCell ⟨R,8,G⟩ (Z b)) R kb bl LC (cs.setIfInBounds 8 (Z b)) c es ds ms g' ev:=
 have hS:Same (λi=>i≠R) W (W.setCell ⟨R,8,G⟩ (Z b)):=(U W).setTail (λh=>h rfl)
 ⟨h.r.flag hb,hS.bx h.l (by have:=h.n;omega),hS.bx h.e (by have:=h.n;omega),(let⟨q,fz,e⟩:=h.t;⟨q,fz,(hS.block kb (by have:=h.n;omega) h.e.2.2).trans e⟩),h.s.tr (hS.mono λi hi _=>by omega),h.n,λv hv=>h.v v (by rw[<-hv];exact(jO ah).symm),h.o⟩
theorem EvS.grown (h:EvS w W R kb bl LC cs c es ds ms g ev){v:I}{L:C Sn}(hO:Own W kb 117 3 bS v L)(hg:W.grownBy W' v.ownBlock):EvS w W' R kb bl LC cs c es ds ms g ev:=by
 have hk:v.ownBlock≠F kb:=λe=>by
  obtain⟨_,_,q1⟩:=hO.tag e;obtain⟨_,_,q2⟩:=h.t;rw[q2] at q1;cases q1
 have hb:∀i,i<kb->v.ownBlock≠F i:=λi hi e=>by have:=(hO.lt i e).1;omega
 exact⟨h.r.seen hO (by have:=h.n;omega) (λx hx q hq e=>by have:=h.o x hx q e;have:=(hO.lt q hq).1;omega) hg,h.l.grown hg (hb bl (by have:=h.n;omega)),h.e.grown hg hk,(let⟨q,fz,e⟩:=h.t;⟨q,fz,(hg.block kb h.e.2.2 (λe=>hk e.symm)).trans e⟩),h.s.tr ⟨hg.os,hg.tape,hg.output,hg.size,λi hi hl=>hg.block i hl (λe=>hb i (by have:=h.n;omega) e.symm)⟩,h.n,h.v,h.o⟩
theorem EvS.all (h:EvS w W R kb bl LC cs c es ds ms g ev)(k t s l o vt vk p:Int)(a:Option Addr)(n q:P):
  EvS w (((((((((W.setCell ⟨kb,0,G⟩ (f u k)).setCell ⟨kb,1,G⟩ (f u t)).setCell ⟨kb,2,G⟩ (f u s)).setCell ⟨kb,3,G⟩ (f u l)).setCell ⟨kb,4,G⟩ (f u o)).setCell ⟨kb,5,G⟩ (f u vt)).setCell ⟨kb,6,G⟩ (f u vk)).setCell ⟨kb,7,G⟩ (f u p)).setCell ⟨kb,8,G⟩ (.slice a n q)) R kb bl LC cs c es ds ms g ⟨k,t,s,l,o,⟨vt,vk⟩,p,a,n,q⟩:=by
 obtain⟨k0,t0,s0,l0,o0,⟨Gl,DF⟩,p0,a0,n0,q0⟩:=ev;exact((((((((h.set ⟨k,t0,s0,l0,o0,⟨Gl,DF⟩,p0,a0,n0,q0⟩ aj rfl).set ⟨k,t,s0,l0,o0,⟨Gl,DF⟩,p0,a0,n0,q0⟩ aj rfl).set ⟨k,t,s,l0,o0,⟨Gl,DF⟩,p0,a0,n0,q0⟩ aj rfl).set ⟨k,t,s,l,o0,⟨Gl,DF⟩,p0,a0,n0,q0⟩ aj rfl).set ⟨k,t,s,l,o,⟨Gl,DF⟩,p0,a0,n0,q0⟩ aj rfl).set ⟨k,t,s,l,o,⟨vt,DF⟩,p0,a0,n0,q0⟩ aj rfl).set ⟨k,t,s,l,o,⟨vt,vk⟩,p0,a0,n0,q0⟩ aj rfl).set ⟨k,t,s,l,o,⟨vt,vk⟩,p,a0,n0,q0⟩ aj rfl).set ⟨k,t,s,l,o,⟨vt,vk⟩,p,a,n,q⟩ aj rfl
end
end Yd
namespace Yd
open Bool renaming false->m,true->r
open Go Go.RowKit Go.Proofs
open Go.IntKind renaming i64->d
open Go.Value renaming int->c,slice->g,bool->p
open RowKit renaming intOf->n
open Yd renaming hid->a
open _root_ renaming Int->f
attribute [local go_sem] Oper.semAt_some
theorem X7 {w:World}{B:Nat}{l:bB}{s:aP}(k:Nat)(hk:k<10)(he1:((k:f)==1)=m)(Iq:((k:f)==8)=r)(Om:((k:f)==9)=m)(h:iB w B l s)(hkd:s.kind=(k:f))(hn:s.names.length<=1000)(hv:s.aF.length<=1000):
  Calls Tryz.prog 18 #[jg l] w (cK (p (jT k s)) w):=by
 have lU:=a (h.2.1.row ah);have yc:=a (h.2.2.row ah);obtain⟨⟨q1,q2,q3,q4,q5,q6⟩, -, -⟩:=h;obtain⟨lk,na,nn,nc,lvl,va,vn,vc,lf,bits⟩:=l;obtain⟨sk,names,slv,aF,first,sbt⟩:=s;simp only at q1 q2 q3 q4 q5 q6 hkd hn hv lU yc;subst q1 q2 q3 q4 hkd;obtain⟨N,hN⟩:∃N:f,cu k=N:=⟨_,rfl⟩;obtain⟨M,hM⟩:∃M:f,cu k+jq (bZ k)=M:=⟨_,rfl⟩;obtain⟨V,hV⟩:∃V:f,pz (bZ k) ((nn:f) - cu k)=V:=⟨_,rfl⟩;have Oo:Hid (∀W,Calls Tryz.prog 47 #[c d (k:f)] W (sH (c d N) (c d M) W)):=a (λW=>by have:=Na k hk W;rw[hM,hN] at this;exact this);have Cv:Hid (∀W,Calls Tryz.prog 48 #[c d (k:f),c d (nn:f)] W (cK (c d V) W)):=a (λW=>by have:=AQ k hk nn ah W;rw[hV] at this;exact this);have yu:Hid (jT k ⟨(k:f),names,lvl,aF,lf,bits⟩=((!decide ((nn:f)<N) && !decide (M<(nn:f)) && ((vn:f)==V) && aF.all toB) && names.all (λx=>bD ⟨x.toArray⟩) && ((lvl==0) && (!lf||true) && (bits==0||(m && (decide (0<bits) && decide (bits<16))))))):=a (by
  have hr:bZ k=109:=by
   have h1:=he1;have h8:=Iq;have h9:=Om;simp only[xX,aR,ne_eq] at h1 h8 h9;rcases(by omega:k=0\/k=1\/k=2\/k=3\/k=4\/k=5\/k=6\/k=7\/k=8\/k=9) with rfl|rfl|rfl|rfl|rfl|rfl|rfl|rfl|rfl|rfl <;> first|decide|omega
  unfold jT;simp only[];rw[<-q5,<-q6,hV,hN];rw[show decide (N<=(nn:f))=!decide ((nn:f)<N) by rw[<-decide_not];exact decide_eq_decide.2 ah,show decide ((nn:f) - N<=jq (bZ k))=!decide (M<(nn:f)) by rw[<-decide_not];exact decide_eq_decide.2 ah,show decide ((vn:f)=V)=((vn:f)==V) from rfl];rw[hr];have hl:((lvl !=0))=!(lvl==0):=rfl;rw[hl];rw[show decide (bits<=15)=decide (bits<16) from decide_eq_decide.2 ah];generalize(!decide ((nn:f)<N) && !decide (M<(nn:f)) && ((vn:f)==V) && aF.all toB)=a1;generalize names.all (λx=>bD ⟨x.toArray⟩)=a2;generalize fF lvl=a3;generalize(lvl==0)=a4;generalize(bits==0)=a5;generalize decide (0<bits)=a6;generalize decide (bits<16)=a7;revert a1 a2 a3 a4 a5 a6 a7 lf;decide)
 obtain⟨out,hO⟩:∃out:Bool,out=jT k ⟨(k:f),names,lvl,aF,lf,bits⟩:=⟨_,rfl⟩;rw[<-hO];have fV:=a (hO.trans yu.q);have hle:nn<=1000:=by omega
 have hle2:vn<=1000:=by omega
 have h10:(k:f)<10:=by omega
 have h09:decide (9<(k:f))=m:=by simp;omega
 have HQ:=a (⟨q5,q6⟩:_/\_);clear hO hN hM hV yu q5 q6 hn hv;have hn1:((k:f)!=1)=r:=by unfold bne;rw[he1];rfl
 have HX0:=a (Bx.new w #[c d (k:f),g na nn nc,c d lvl,g va vn vc,p lf,c d bits] 30);have HB0:=a (aB (Below.refl w.1.size w) (.cells #[c d (k:f),g na nn nc,c d lvl,g va vn vc,p lf,c d bits] 30));go_enter Tryz.func18,Tryz.ntmps18;have hcx:=HX0.q.1;go_wp2_with fail;refine(Oo.q _).mono ?_;rintro e w1 ⟨rfl,hb1⟩;have bP:=a (HX0.q.keep hb1);have HB1:=a (HB0.q.bO hb1);clear hb1 hcx;have hcx:=bP.q.1
 cases h1:decide ((nn:f)<N)
 case true=>
  have H1:=a h1;go_wp2_with fail;refine aC 99 [(0,0),(1,0),(2,0),(3,0),(4,0),(5,0),(6,0),(7,0),(8,0),(9,0),(10,0),(11,0),(12,0),(13,0),(14,0),(15,0),(16,0),(17,0),(18,0),(19,0),(20,0),(21,0),(22,0),(23,0)] (λ_=>True) (λW'=>Bx W' w.1.size #[c d (k:f),g na nn nc,c d lvl,g va vn vc,p lf,c d bits]) av av (trivial) (bP.q.drew) ?_;refine qC ?_;refine aJ ?_;have hout:out=m:=by rw[fV.q];simp[H1.q]
  go_wp2_with fail;go_ret;rw[hout];exact⟨rfl,HB1.q.drew⟩
 have H1:=a h1
 cases h2:decide (M<(nn:f))
 case true=>
  have H2:=a h2;go_wp2_with fail;refine aC 99 [(0,0),(1,0),(2,0),(3,0),(4,0),(5,0),(6,0),(7,0),(8,0),(9,0),(10,0),(11,0),(12,0),(13,0),(14,0),(15,0),(16,0),(17,0),(18,0),(19,0),(20,0),(21,0),(22,0),(23,0)] (λ_=>True) (λW'=>Bx W' w.1.size #[c d (k:f),g na nn nc,c d lvl,g va vn vc,p lf,c d bits]) av av (trivial) (bP.q.drew) ?_;refine qC ?_;refine aJ ?_;have hout:out=m:=by rw[fV.q];simp[H1.q,H2.q]
  go_wp2_with fail;go_ret;rw[hout];exact⟨rfl,HB1.q.drew⟩
 have H2:=a h2
 cases h3:((vn:f)==V)
 case false=>
  have FY:((vn:f)!=V)=r:=by unfold bne;rw[h3];rfl
  have H3:=a h3;clear h3;go_wp2_with fail;refine aC 99 [(0,0),(1,0),(2,0),(3,0),(4,0),(5,0),(6,0),(7,0),(8,0),(9,0),(10,0),(11,0),(12,0),(13,0),(14,0),(15,0),(16,0),(17,0),(18,0),(19,0),(20,0),(21,2),(22,0),(23,0)] (λ_=>True) (λW'=>Bx W' w.1.size #[c d (k:f),g na nn nc,c d lvl,g va vn vc,p lf,c d bits]) av av (trivial) (bP.q.drew) ?_;refine qC ?_;refine aD rfl rfl (λK hK=>?_);go_simp;refine(Cv.q _).mono ?_;rintro e w2 ⟨rfl,hb2⟩;have bL:=a (bP.q.drew.keep hb2);have HB2:=a (HB1.q.drew.trans (hb2.mono HB1.q.drew.size));refine hK _ _ ⟨trivial,bL.q⟩ ?_;clear hK K hb2 hcx;have hcx:=bL.q.1;refine qC ?_;refine aJ ?_;have hout:out=m:=by rw[fV.q];simp[H1.q,H2.q,H3.q]
  go_wp2_with fail;go_ret;rw[hout];exact⟨rfl,HB2.q⟩
 case true=>
  have FY:((vn:f)!=V)=m:=by unfold bne;rw[h3];rfl
  have H3:=a h3;clear h3;go_wp2_with fail;refine aC 99 [(0,0),(1,0),(2,0),(3,0),(4,0),(5,0),(6,0),(7,0),(8,0),(9,0),(10,0),(11,0),(12,0),(13,0),(14,0),(15,0),(16,0),(17,0),(18,0),(19,0),(20,0),(21,2),(22,0),(23,0)] (λ_=>True) (λW'=>Bx W' w.1.size #[c d (k:f),g na nn nc,c d lvl,g va vn vc,p lf,c d bits]) av av (trivial) (bP.q.drew) ?_;refine qC ?_;refine aD rfl rfl (λK hK=>?_);go_simp;refine(Cv.q _).mono ?_;rintro e w2 ⟨rfl,hb2⟩;have bL:=a (bP.q.drew.keep hb2);have HB2:=a (HB1.q.drew.trans (hb2.mono HB1.q.drew.size));refine hK _ _ ⟨trivial,bL.q⟩ ?_;clear hK K hb2 hcx;have hcx:=bL.q.1;refine qC ?_;refine aJ ?_;go_wp2_with fail;clear hcx h1 h2 FY
  go_loopw [51] (λi wr=>∃j:Nat,j<=nn/\i= c d j/\Below w.1.size w wr/\Bx wr w.1.size #[c d (k:f),g na nn nc,c d lvl,g va vn vc,p lf,c d bits]/\(names.take j).all (λx=>bD ⟨x.toArray⟩)=r) (λi _=>nn - (n i).toNat)
  case atStart=>exact⟨0,aV _,rfl,HB2.q,bL.q,rfl⟩
  case round=>
   obtain⟨j,hj,rfl,hbw,hxw,hall⟩:=hrel;have bE:=a hbw;have gI:=a hxw;have tC:=a hall;clear hbw hxw hall;by_cases hlt:j<nn
   .obtain⟨x,b,o,hx,rfl,hc⟩:=(lU.q.below bE.q rfl).at_ hlt
    have e0:=hc 0 _ rfl;simp only[jo,bM] at e0;have uI:=a hx;clear hx hc;go_wp2_with fail;refine(Bo ⟨x.toArray⟩ _).mono ?_;rintro e w3 ⟨rfl,hb3⟩;rw[yw];have eX:=a (gI.q.keep hb3);have HB3:=a (bE.q.bO hb3);clear hb3 e0
    cases hw:bD ⟨x.toArray⟩
    .have HW:=a hw
     clear hw;have hal:names.all (λx=>bD ⟨x.toArray⟩)=m:=List.all_eq_false.2 ⟨x,bQ uI.q,by rw[HW.q];simp⟩;have mG:=a hal;clear hal;have hout:out=m:=by rw[fV.q];simp[mG.q]
     go_wp2_with fail;go_ret;rw[hout];exact⟨rfl,HB3.q⟩
    .have HW:=a hw
     clear hw;go_wp2_with fail;go_roundw
     case rel=>exact⟨j+1,by omega,by go_num,HB3.q,eX.q,by rw[eO,uI.q,List.all_append,tC.q];simp[HW.q]⟩
     case measure=>simp[n];omega
   .obtain rfl:nn=j:=by omega
    have mG:Hid (names.all (λx=>bD ⟨x.toArray⟩)=r):=a (by have:=tC.q;rwa[dR (by have:=HQ.q;omega)] at this);have hcx:=gI.q.1;go_wp2_with fail;clear hcx
    go_loopw [62] (λi wr=>∃j:Nat,j<=vn/\i= c d j/\Below w.1.size w wr/\Bx wr w.1.size #[c d (k:f),g na nn nc,c d lvl,g va vn vc,p lf,c d bits]/\(aF.take j).all toB=r) (λi _=>vn - (n i).toNat)
    case atStart=>exact⟨0,aV _,rfl,bE.q,gI.q,rfl⟩
    case round=>
     obtain⟨j,hj,rfl,hbw,hxw,hall⟩:=hrel;have mH:=a hbw;have yR:=a hxw;have Bp:=a hall;clear hbw hxw hall;by_cases hlt:j<vn
     .obtain⟨x,b,o,hx,rfl,hc⟩:=(yc.q.below mH.q rfl).at_ hlt
      have e0:=hc 0 _ rfl;have e1:=hc 1 _ rfl;simp only[bM] at e0;have uI:=a hx;clear hx hc;have FZ:=a (yR.q.alloc (.cells (tq x) 52));have iO:=a (aB mH.q (.cells (tq x) 52));go_wp2_with fail;refine(zG x _).mono ?_;rintro e w3 ⟨rfl,hb3⟩;have eX:=a (FZ.q.keep hb3);have HB3:=a (iO.q.bO hb3);clear hb3 e0 e1
      cases hw:toB x
      .have HW:=a hw
       clear hw;have hal:aF.all toB=m:=List.all_eq_false.2 ⟨x,bQ uI.q,by rw[HW.q];simp⟩;have jE:=a hal;clear hal;have hout:out=m:=by rw[fV.q];simp[jE.q]
       go_wp2_with fail;go_ret;rw[hout];exact⟨rfl,HB3.q⟩
      .have HW:=a hw
       clear hw;go_wp2_with fail;go_roundw
       case rel=>exact⟨j+1,by omega,by go_num,HB3.q,eX.q,by rw[eO,uI.q,List.all_append,Bp.q];simp[HW.q]⟩
       case measure=>simp[n];omega
     .obtain rfl:vn=j:=by omega
      have jE:Hid (aF.all toB=r):=a (by have:=Bp.q;rwa[dR (by have:=HQ.q;omega)] at this);have hcx:=yR.q.1
      cases h6:(lvl==0)
      .skip
       go_wp2_with fail;go_ret;have hout:out=m:=by rw[fV.q];simp[H1.q,H2.q,H3.q,mG.q,jE.q,h6]
       rw[hout];exact⟨rfl,mH.q⟩
      .skip
       cases lf
       .skip
        cases h8:(bits==0)
        .skip
         go_wp2_with fail;go_ret;have hout:out=m:=by rw[fV.q];simp[H1.q,H2.q,H3.q,mG.q,jE.q,h6,h8]
         rw[hout];exact⟨rfl,mH.q⟩
        .skip
         go_wp2_with fail;go_ret;have hout:out=r:=by rw[fV.q];simp[H1.q,H2.q,H3.q,mG.q,jE.q,h6,h8]
         rw[hout];exact⟨rfl,mH.q⟩
       .skip
        cases h8:(bits==0)
        .skip
         go_wp2_with fail;go_ret;have hout:out=m:=by rw[fV.q];simp[H1.q,H2.q,H3.q,mG.q,jE.q,h6,h8]
         rw[hout];exact⟨rfl,mH.q⟩
        .skip
         go_wp2_with fail;go_ret;have hout:out=r:=by rw[fV.q];simp[H1.q,H2.q,H3.q,mG.q,jE.q,h6,h8]
         rw[hout];exact⟨rfl,mH.q⟩
end Yd
namespace Yd
open Go Go.RowKit Go.Proofs Tryz
open Below renaming refl->u
open Go.IntKind renaming i64->f
open Go.Value renaming int->d,slice->j
open RowKit renaming intOf->l
open World renaming size_alloc->B
open Yd renaming hid->g
attribute [local go_sem] Oper.semAt_some
theorem Af (a:Option Addr)(n c:Nat)(xs:List Int)(x:Int)(w:World)(hr:Row w 1 aQ a n c xs):
  Calls Tryz.prog 59 #[j a n c,d f x] w (cK (d f (dh xs x)) w):=by
 have hn:=hr.le;have HR:=g hr;have hcap:=hr.cap;obtain⟨r,hres⟩:∃r,r=dh xs x:=⟨_,rfl⟩;have aia:=g hres;rw[<-hres];clear hr hres;go_enter func59,ntmps59;go_wp2_with fail
 go_loopw [9] (λi wr=>∃k:Nat,k<=n/\i= d f k/\x∉xs.take k/\Below w.1.size w wr) (λi _=>n - (l i).toNat)
 case atStart=>exact⟨0,aV _,rfl,by simp,u _ _⟩
 case round=>
  obtain⟨k,hk,rfl,hni,hb⟩:=hrel;by_cases hlt:k<n
  .obtain⟨y,b,o,hx,rfl,hc⟩:=HR.q.at_ hlt
   have h0:=bn hb rfl (hc 0 _ rfl);simp only[jo,bM] at h0;have HX:=g hx;have HN:=g hni;have HB:=g hb;clear hc hx hni hb;by_cases he:y=x
   .subst he
    have hk2:r=(k:Int):=by
     obtain⟨h1,h2⟩:=LF HX.q HN.q;rw[aia.q];unfold dh;rw[ay h2,h1]
    subst hk2;go_wp2_with fail;go_ret;exact⟨rfl,HB.q⟩
   .have hne:(y==x)=false:=by simpa using he
    have HE:=g he;clear he;go_wp2_with fail;go_roundw
    case rel=>exact⟨k+1,by omega,by go_num,by rw[eO,HX.q];simp only[Option.toList_some,bJ,bF,not_or];exact⟨HN.q,λe=>HE.q e.symm⟩,HB.q⟩
    case measure=>simp[l];omega
  .obtain rfl:n=k:=by omega
   have HB:=g hb;have hk2:r= -1:=by
    rw[dR (by rw[HR.q.len];exact aA _)] at hni;rw[aia.q];unfold dh;rw[ak hni]
   subst hk2;clear hni hb;go_wp2_with fail;go_ret;exact⟨rfl,HB.q⟩
theorem adK (la:Option Addr)(ln lc:Nat)(L:List Bs)(a:Option Addr)(n c:Nat)(xs:List Int)(w:World)(hL:Row w 1 encStr la ln lc L)(hr:Row w 1 aQ a n c xs)(hx:∀x∈xs,0<=x/\x<(L.length:Int))(hn:n<=1000000):
  Calls Tryz.prog 58 #[j la ln lc,j a n c] w (λe w'=>∃a' c',e= .returned (j a' n c')/\Own w' w.1.size 9 1 encStr (j a' n c') (xs.map (aS L))/\Below w.1.size w w'):=by
 have HL:=g hL;have HR:=g hr;have HX:=g hx;obtain⟨ti,z,hi⟩:=uw;have HI:=g hi;have hle:=hr.le;have hll:=hL.len;clear hL hr hx hi;go_enter func58,ntmps58;go_wp2_with fail
 go_loopw [5,10] (λv i wr=>∃(k:Nat)(a0:Option Addr)(c0:Nat),k<=n/\v= j a0 k c0/\i= d f k/\Own wr w.1.size 9 1 encStr (j a0 k c0) ((xs.take k).map (aS L))/\Below w.1.size w wr) (λ_ i _=>n - (l i).toNat)
 case atStart=>exact⟨0,none,0,aV _,rfl,rfl,Own.fJ _ _ _ _ _,u _ _⟩
 case round=>
  obtain⟨k,a0,c0,hk,rfl,rfl,how,hb⟩:=hrel;by_cases hlt:k<n
  .obtain⟨y,b,o,hy,rfl,hc⟩:=HR.q.at_ hlt
   have h0:=bn hb rfl (hc 0 _ rfl);simp only[jo,bM] at h0;obtain⟨q0,q1⟩:=HX.q y (bQ hy);obtain⟨m,rfl⟩:∃m:Nat,y=m:=⟨y.toNat,by omega⟩;have hm:m<ln:=by omega
   obtain⟨s,b2,o2,hs,rfl,hc2⟩:=HL.q.at_ hm;have h2:=bn hb rfl (hc2 0 _ rfl);simp only[jo,bM] at h2;have HOW:=g how;have HB:=g hb;have HE:Hid ((xs.take k).map (aS L)++[s]=(xs.take (k+1)).map (aS L)):=g (by
    rw[eO,hy,gK];have:aS L (m:Int)=s:=by unfold aS;rw[kS,List.getD_eq_getElem?_getD,hs];rfl
    simp[this])
   have jW:Hid (((xs.take k).map (aS L)).length+1=k+1):=g (by rw[bH,dN,HR.q.len];omega);have kM:Hid (w.1.size<=(wr.alloc (.cells #[.string ⟨s.toArray⟩] 9)).1.size):=g (by have:=hb.size;simp;omega);clear how hb hc hy hc2 hs q0 q1
   go_wp2_with (at_builtin;refine eB rfl _ _ 27 rfl ti z 16 underlying27 HI.q.1 HI.q.2.1 HI.q.2.2.1 HI.q.2.2.2.1 HI.q.2.2.2.2 rfl (HOW.q.alloc _) (some ⟨wr.1.size,0,none⟩) 1 1 (k+1) [s] rfl (Row.str1 wr s) jW.q ah (by unfold maxLen;omega) kM.q ?_;intro a' c' w2 hown1 hg1 rz)
   rw[HE.q] at hown1;have hb2:=below_app (aB HB.q _) (HOW.q.alloc _) (aA _) kM.q hg1;have HQ:=g (⟨hown1,hb2⟩:_/\_);clear hown1 hg1 rz hb2;go_roundw
   case rel=>exact⟨k+1,a',c',by omega,rfl,by go_num,HQ.q.1,HQ.q.2⟩
   case measure=>simp[l];omega
  .obtain rfl:n=k:=by omega
   rw[dR (by rw[HR.q.len];exact aA _)] at how;have HOW:=g how;have HB:=g hb;clear how hb;go_wp2_with fail;go_ret;exact⟨a0,c0,rfl,HOW.q,HB.q⟩
theorem ZL (la:Option Addr)(ln lc:Nat)(L:List Int)(a:Option Addr)(n c:Nat)(xs:List Int)(w:World)(hL:Row w 1 aQ la ln lc L)(hr:Row w 1 aQ a n c xs)(hn:n<=2000000):
  Calls Tryz.prog 61 #[j la ln lc,j a n c] w (λe w'=>∃a' c',e= .returned (j a' n c')/\Own w' w.1.size 3 1 aQ (j a' n c') (xs.map (dh L))/\Below w.1.size w w'):=by
 have HL:=g hL;have HR:=g hr;obtain⟨ti,z,hi⟩:=yZ;have HI:=g hi;have hle:=hr.le;clear hL hr hi;go_enter func61,ntmps61;go_wp2_with fail
 go_loopw [5,10] (λv i wr=>∃(k:Nat)(a0:Option Addr)(c0:Nat),k<=n/\v= j a0 k c0/\i= d f k/\Own wr w.1.size 3 1 aQ (j a0 k c0) ((xs.take k).map (dh L))/\Below w.1.size w wr) (λ_ i _=>n - (l i).toNat)
 case atStart=>exact⟨0,none,0,aV _,rfl,rfl,Own.fJ _ _ _ _ _,u _ _⟩
 case round=>
  obtain⟨k,a0,c0,hk,rfl,rfl,how,hb⟩:=hrel;by_cases hlt:k<n
  .obtain⟨y,b,o,hy,rfl,hc⟩:=HR.q.at_ hlt
   have h0:=bn hb rfl (hc 0 _ rfl);simp only[jo,bM] at h0;have HOW:=g how;have HB:=g hb;have HAT:=g (Af la ln lc L y wr (HL.q.below hb rfl));obtain⟨p,hp⟩:∃p,p=dh L y:=⟨_,rfl⟩;rw[<-hp] at HAT;have HE:Hid ((xs.take k).map (dh L)++[p]=(xs.take (k+1)).map (dh L)):=g (by rw[eO,hy,gK,hp];rfl);have jW:Hid (((xs.take k).map (dh L)).length+1=k+1):=g (by rw[bH,dN,HR.q.len];omega);clear how hb hc hy hp;go_wp2_with fail;refine HAT.q.mono ?_;rintro e w1 ⟨rfl,hb1⟩;have HB1:=g (HB.q.bO hb1);have gu:=g (HOW.q.below hb1 rfl);have kM:Hid (w.1.size<=(w1.alloc (.cells #[d f p] 3)).1.size):=g (by have:=HB1.q.size;simp;omega);clear hb1
   go_wp2_with (at_builtin;refine eB rfl _ _ 72 rfl ti z 8 underlying72 HI.q.1 HI.q.2.1 HI.q.2.2.1 HI.q.2.2.2.1 HI.q.2.2.2.2 rfl (gu.q.alloc _) (some ⟨w1.1.size,0,none⟩) 1 1 (k+1) [p] rfl (Row.ahV w1 p) jW.q ah (by unfold maxLen;omega) kM.q ?_;intro a' c' w2 hown1 hg1 rz)
   rw[HE.q] at hown1;have hb2:=below_app (aB HB1.q _) (gu.q.alloc _) (aA _) kM.q hg1;have HQ:=g (⟨hown1,hb2⟩:_/\_);clear hown1 hg1 rz hb2;go_roundw
   case rel=>exact⟨k+1,a',c',by omega,rfl,by go_num,HQ.q.1,HQ.q.2⟩
   case measure=>simp[l];omega
  .obtain rfl:n=k:=by omega
   rw[dR (by rw[HR.q.len];exact aA _)] at how;have HOW:=g how;have HB:=g hb;clear how hb;go_wp2_with fail;go_ret;exact⟨a0,c0,rfl,HOW.q,HB.q⟩
theorem Xh (la:Option Addr)(ln lc:Nat)(F:Int->List Int)(v:kZ)(w:World)(hL:Row w 1 aQ la ln lc (F 0)):
  Calls Tryz.prog 60 #[j la ln lc,.agg #[d f v.t,d f v.k]] w (cK (.agg #[d f (kH F v).t,d f (kH F v).k]) w):=by
 obtain⟨vt,vk⟩:=v;have HB:=g (aB (aB (u w.1.size w) (.cells #[d f vt,d f vk] 44)) (.cells #[d f 0,d f 0] 44));have HX:=g ((Bx.new w #[d f vt,d f vk] 44).alloc (.cells #[d f 0,d f 0] 44));have HY:=g (Bx.new (w.alloc (.cells #[d f vt,d f vk] 44)) #[d f 0,d f 0] 44);have HA:=g (Af la ln lc (F 0) vt _ (hL.below HB.q rfl));obtain⟨p,hp⟩:∃p,p=dh (F 0) vt:=⟨_,rfl⟩;rw[<-hp] at HA;have HP:=g hp;clear hL hp;by_cases hk:0<vk
 .have hd:decide (0<vk)=true:=bA hk
  have hv:kH F ⟨vt,vk⟩=⟨p,vk⟩:=by unfold kH;rw[ay hk,HP.q]
  rw[hv];clear hk hv;go_enter func60,ntmps60;go_wp2_with fail;refine HA.q.mono ?_;rintro e w1 ⟨rfl,hb1⟩;have bP:=g (HX.q.keep hb1);have wh:=g (HY.q.keep hb1);have HB1:=g (HB.q.bO hb1);have hcx:=bP.q.1;have hfx:=bP.q.2.1;have hcy:=wh.q.1;have Aq:=wh.q.2.1;rw[B] at hcy Aq;clear hb1;go_wp2_with fail;have hy2:Bx (w1.setCell ⟨w.1.size,0,none⟩ (d f p)) (w.1.size+1) #[d f 0,d f 0]:=((Same.refl' w1).setTail (A:=λi=>i≠w.1.size) (λh=>h rfl)).bx (by have:=wh.q;rw[B] at this;exact this) ah;have hz:=(hy2.aZ 0 au (d f p)).aZ 1 au (d f vk);have hz0:=hz.1 0;have hz1:=hz.1 1;refine bodyPost_ret (v:= .agg #[d f p,d f vk]) (by simp[results,results60,go_sem,hz0,hz1]) rfl ⟨rfl,?_⟩;exact((HB1.q.setCell (p:=⟨w.1.size,0,none⟩) (aA _) _).setCell (p:=⟨w.1.size+1,0,none⟩) au _).setCell (p:=⟨w.1.size+1,1,none⟩) au _
 .have hd:decide (0<vk)=false:=aX hk
  have hv:kH F ⟨vt,vk⟩=⟨vt,vk⟩:=by unfold kH;rw[ak hk]
  rw[hv];clear hk hv;go_enter func60,ntmps60;go_wp2_with fail;have hy:=Bx.new (w.alloc (.cells #[d f vt,d f vk] 44)) #[d f vt,d f vk] 44;rw[B] at hy;have hz0:=hy.1 0;have hz1:=hy.1 1;refine bodyPost_ret (v:= .agg #[d f vt,d f vk]) (by simp[results,results60,go_sem,hz0,hz1]) rfl ⟨rfl,?_⟩;exact aB (aB (u _ _) _) _
end Yd
namespace Yd
open Option renaming none->m,some->H
open Go Go.RowKit Go.Proofs Tryz
open Go renaming Value->D
open Go.IntKind renaming i64->y
open Go.Obj renaming cells->F
open Go.Value renaming slice->l,int->u
open RowKit renaming intOf->A
open Yd renaming hid->z
open _root_ renaming Int->r,Nat->C,List->G
attribute [local go_sem] Oper.semAt_some
theorem aaR {e:EvC}{scan:G Sn}{s:Sn}{p:r × r}(hs:s∈scan)(hp:p∈(2,s.obj)::cO s.v):p∈dD e scan:=by
 unfold dD;exact pX _ (ni.2 ⟨s,hs,hp⟩)
theorem qB {α β:Type}{xs:G α}{k:C}{x:α}(f:α->G β)(hx:xs[k]?=H x):(xs.take (k+1)).flatMap f=(xs.take k).flatMap f++f x:=by
 rw[eO,hx];simp
theorem Qn {α β:Type}{xs:G α}{k:C}{x:α}(f:α->β)(hx:xs[k]?=H x):(xs.take (k+1)).map f=(xs.take k).map f++[f x]:=by
 rw[eO,hx];simp
theorem oW {α:Type}{xs:G α}{n:C}(h:xs.length=n):xs.take n=xs:=dR ah
theorem V4.bx {w X:World}{q:C}{c:C->D}{pre:G (r × r)}{bs:G (C × Array D)}(h:V4 w q c pre bs X)(b:C)(cs:Array D)(hm:(b,cs)∈bs):Bx X b cs:=(h.E (b,cs) hm).1
theorem Own.oZ {α:Type}{w:World}{B:C}{E:TypeId}{k:C}{enc:α->G D}{v:D}{xs:G α}(h:Own w B E k enc v xs):∃a n c,v= l a n c:=by
 obtain⟨a,c,e,_,_⟩:=h.shape;exact⟨a,_,c,e⟩
def ZO (xs:G (r × r))(w:World)(e:Ending)(w':World):Prop:=
 ∃c:C->D,e= .returned (.agg #[c 0,c 1,c 2,c 3])/\(∀i:C,i<4->∃a n cc,c i= l a n cc/\Row w' 1 aQ a n cc (bK xs i))/\Below w.1.size w w'
theorem ZN (h:HC)(nl:C->G Bs)(es:G EvC)(ds:G aM)(ms:G aN)(qs:G Wa)(scan:EvC->G Sn)(dn:aM->G r)(mn:aN->G r)(w:World)
  (hn:∀i,i<4->Row w 1 encStr (h.nm i).a (h.nm i).n (h.nm i).c (nl i)) (hd:Deep w h es ds ms qs scan dn mn) (hs:rF h nl es ds ms qs scan dn mn=true):
  Calls Tryz.prog 57 #[gH h] w (ZO (oz es ds ms qs scan dn mn) w):=by
 have hall:=V9 hs (λi hi=>(hn i hi).len);have yP:Hid (∀x∈es,∀p∈dD x (scan x),0<=p.2/\p.2<300):=z (λx hx p hp=>(hall p (by simp only[oz,bJ,ni];exact .inl (.inl (.inl ⟨x,hx,hp⟩)))).2);have HOD:Hid (∀x∈ds,∀p∈kF x (dn x),0<=p.2/\p.2<300):=z (λx hx p hp=>(hall p (by simp only[oz,bJ,ni];exact .inl (.inl (.inr ⟨x,hx,hp⟩)))).2);have HOM:Hid (∀x∈ms,∀p∈mY x (mn x),0<=p.2/\p.2<300):=z (λx hx p hp=>(hall p (by simp only[oz,bJ,ni];exact .inl (.inr ⟨x,hx,hp⟩))).2);have HOW:Hid (∀x∈qs,∀p∈qU x,0<=p.2/\p.2<300):=z (λx hx p hp=>(hall p (by simp only[oz,bJ,ni];exact .inr ⟨x,hx,hp⟩)).2);have Gh:Hid (∀x∈es,ja h.t.n h.s.n h.o.n h.p.n x (scan x)=true):=z (by
  simp only[rF,wu,aU,jc,wT] at hs;exact hs.1.1.1.2)
 have HD:=z hd;have hle:=hd.1.le;have hld:=hd.2.1.le;have hlm:=hd.2.2.1.le;have Xi:=hd.2.2.2.1.le;clear hn hd hs hall;obtain⟨ht,hs,ho,hp,⟨ea,en,ec⟩,⟨da,dZ,dc⟩,⟨ma,eD,mc⟩,⟨wa,wn,wc⟩⟩:=h;simp only at hle hld hlm Xi;have hx0:Bx (((w.alloc (F #[ht.v,hs.v,ho.v,hp.v,l ea en ec,l da dZ dc,l ma eD mc,l wa wn wc] 36)).alloc (F #[l m 0 0,l m 0 0,l m 0 0,l m 0 0] 111)).alloc (F #[l m 0 0,l m 0 0,l m 0 0,l m 0 0] 111)) w.1.size #[ht.v,hs.v,ho.v,hp.v,l ea en ec,l da dZ dc,l ma eD mc,l wa wn wc]:=((Bx.new w _ _).alloc _).alloc _;have hx1:Bx (((w.alloc (F #[ht.v,hs.v,ho.v,hp.v,l ea en ec,l da dZ dc,l ma eD mc,l wa wn wc] 36)).alloc (F #[l m 0 0,l m 0 0,l m 0 0,l m 0 0] 111)).alloc (F #[l m 0 0,l m 0 0,l m 0 0,l m 0 0] 111)) (w.1.size+1) #[l m 0 0,l m 0 0,l m 0 0,l m 0 0]:=(Bx.new1 au).alloc _;have hx2:Bx (((w.alloc (F #[ht.v,hs.v,ho.v,hp.v,l ea en ec,l da dZ dc,l ma eD mc,l wa wn wc] 36)).alloc (F #[l m 0 0,l m 0 0,l m 0 0,l m 0 0] 111)).alloc (F #[l m 0 0,l m 0 0,l m 0 0,l m 0 0] 111)) (w.1.size+2) #[l m 0 0,l m 0 0,l m 0 0,l m 0 0]:=Bx.new1 au;have hE0:∀p∈([(w.1.size,#[ht.v,hs.v,ho.v,hp.v,l ea en ec,l da dZ dc,l ma eD mc,l wa wn wc]),(w.1.size+1,#[l m 0 0,l m 0 0,l m 0 0,l m 0 0])]:G (C × Array D)),Bx (((w.alloc (F #[ht.v,hs.v,ho.v,hp.v,l ea en ec,l da dZ dc,l ma eD mc,l wa wn wc] 36)).alloc (F #[l m 0 0,l m 0 0,l m 0 0,l m 0 0] 111)).alloc (F #[l m 0 0,l m 0 0,l m 0 0,l m 0 0] 111)) p.1 p.2/\p.1≠(w.1.size+2)/\∀i:C,i<4->(Value.slice m 0 0).ownBlock≠H p.1:=by
  intro p hp;simp only[dP,List.not_mem_nil,or_false] at hp;rcases hp with rfl|rfl
  .exact⟨hx0,by simp,λi _ e=>by cases e⟩
  .exact⟨hx1,by simp,λi _ e=>by cases e⟩
 have mP:Hid (V4 w (w.1.size+2) (λ_=> l m 0 0) [] [(w.1.size,#[ht.v,hs.v,ho.v,hp.v,l ea en ec,l da dZ dc,l ma eD mc,l wa wn wc]),(w.1.size+1,#[l m 0 0,l m 0 0,l m 0 0,l m 0 0])] (((w.alloc (F #[ht.v,hs.v,ho.v,hp.v,l ea en ec,l da dZ dc,l ma eD mc,l wa wn wc] 36)).alloc (F #[l m 0 0,l m 0 0,l m 0 0,l m 0 0] 111)).alloc (F #[l m 0 0,l m 0 0,l m 0 0,l m 0 0] 111))):=
  z ⟨aB (aB (aB (Below.refl w.1.size w) _) _) _,hx2,λi hi=>Own.fJ _ _ _ _ _,(λi j _ _ _ g e=>by cases e),hE0,(λx hx=>by simp at hx),by simp⟩
 clear hE0;clear hx0 hx1 hx2;go_enter func57,ntmps57;have hbx:=mP.q.bx w.1.size #[ht.v,hs.v,ho.v,hp.v,l ea en ec,l da dZ dc,l ma eD mc,l wa wn wc] au;have Lu:=hbx.1;have hlh:=hbx.2.2;clear hbx;go_wp2_with fail;rw[show w.1.size+1+1=w.1.size+2 from rfl];clear Lu hlh
 go_loopw [21] (λi wr=>∃(k:C)(c:C->D),k<=en/\i= u y k/\V4 w (w.1.size+2) c ((es.take k).flatMap (λe=>dD e (scan e))) [(w.1.size,#[ht.v,hs.v,ho.v,hp.v,l ea en ec,l da dZ dc,l ma eD mc,l wa wn wc]),(w.1.size+1,#[l m 0 0,l m 0 0,l m 0 0,l m 0 0])] wr) (λi _=>en - (A i).toNat)
 case atStart=>exact⟨0,_,aV _,rfl,by simpa using mP.q⟩
 case round=>
  obtain⟨k,c,hk,rfl,hsk⟩:=hrel;have iE:=z hsk;clear hsk;by_cases hlt:k<en
  .obtain⟨x,b,o,hx,rfl,hc⟩:=(HD.q.1.below iE.q.b rfl).at_ hlt
   have hmem:=bQ hx;have e0:=hc 0 _ rfl;have e1:=hc 1 _ rfl;have e2:=hc 2 _ rfl;have e3:=hc 3 _ rfl;have e4:=hc 4 _ rfl;have e5:=hc 5 _ rfl;have e6:=hc 6 _ rfl;have e7:=hc 7 _ rfl;have e8:=hc 8 _ rfl;simp only[bM] at e0;have nk:=z (HD.q.2.2.2.2.1 x hmem);have kK:=z (yP.q x hmem);have MR:=z (aek (Gh.q x hmem));have nD:=z (qB (λe=>dD e (scan e)) hx);obtain⟨sx,hsx⟩:∃sx,sx=scan x:=⟨_,rfl⟩;simp only[<-hsx] at nk kK MR nD;clear hsx hc hx hmem;obtain⟨xk,xt,nJ,xl,xo,⟨vt,vk⟩,xp,sa,sn,sc⟩:=x;simp only at e0 e1 e2 e3 e4 e5 e6 e7 e8;have Ma:Hid (∀s∈sx,∀p∈((2:r),s.obj)::cO s.v,0<=p.2/\p.2<300):=z (λs hs p hp=>kK.q p (aaR hs hp));have HE:=z (iE.q.alloc #[u y xk,u y xt,u y nJ,u y xl,u y xo,u y vt,u y vk,u y xp,l sa sn sc] 47);by_cases hk1:xk=1
   .skip
    subst hk1;have oO:Hid (dD ⟨1,xt,nJ,xl,xo,⟨vt,vk⟩,xp,sa,sn,sc⟩ sx=[((0:r),xt)]++[((1:r),nJ)]++sx.flatMap (λs:Sn=>((2:r),s.obj)::cO s.v)):=z (by simp[dD]);have hq2:=HE.q.Q.1;have aoN:=HE.q.Q.2.2;have hb2:=HE.q.bY.1;have aoO:=HE.q.bY.2.2;go_wp2_with fail;refine(ji ((w.1.size+2)+1) (c 0) (bK ((es.take k).flatMap (λe=>dD e (scan e))) (0:C)) xt _ (HE.q.o 0 aj) HE.q.base (HE.q.len _)).mono ?_;rintro e w2 ⟨v2,rfl,h1,h2,h3⟩;obtain⟨a2,l2,k2,rfl⟩:=h1.oZ;obtain⟨c2,hs2⟩:=HE.q.step (i:=0) aj [((0:r),xt)] h1 h2 h3 (λp hp=>kK.q p (by rw[oO.q];simp only[bJ,bF] at hp ⊢;simp[hp])) (kR _ 0 _) (iH _ 0 _);have hcl:=HE.q.called (i:=0) aj h2;have HS2:=z hs2;clear h1 h2 h3 hs2 e0 e1 e2 e3 e4 e5 e6 e7 e8 hq2 aoN hb2 aoO;have aoP:=hcl.1;have aoQ:=hcl.2.1;have aoR:=hcl.2.2;clear hcl;have hq3:=HS2.q.Q.1;have aoS:=HS2.q.Q.2.2;have hb3:=HS2.q.bY.1;have aoT:=HS2.q.bY.2.2;go_wp2_with fail;refine(ji ((w.1.size+2)+1) (c2 1) (bK ((es.take k).flatMap (λe=>dD e (scan e))++[((0:r),xt)]) (1:C)) nJ _ (HS2.q.o 1 aj) HS2.q.base (HS2.q.len _)).mono ?_;rintro e w3 ⟨v3,rfl,h1,h2,h3⟩;obtain⟨a3,l3,k3,rfl⟩:=h1.oZ;obtain⟨c3,hs3⟩:=HS2.q.step (i:=1) aj [((1:r),nJ)] h1 h2 h3 (λp hp=>kK.q p (by rw[oO.q];simp only[bJ,bF] at hp ⊢;simp[hp])) (kR _ 1 _) (iH _ 1 _);have hcl:=HS2.q.called (i:=1) aj h2;have jD:=z hs3;clear h1 h2 h3 hs3 aoP aoQ aoR hq3 aoS hb3 aoT;have aoU:=hcl.1;have aoV:=hcl.2.1;have aoW:=hcl.2.2;clear hcl;have hq4:=jD.q.Q.1;have aib:=jD.q.Q.2.2;have hb4:=jD.q.bY.1;have aic:=jD.q.bY.2.2;go_wp2_with fail;clear hq4 aib hb4 aic aoU aoV aoW
    go_loopw [67] (λi wv=>∃(j:C)(c:C->D),j<=sn/\i= u y j/\V4 w (w.1.size+2) c ((es.take k).flatMap (λe=>dD e (scan e))++[((0:r),xt)]++[((1:r),nJ)]++(sx.take j).flatMap (λs:Sn=>((2:r),s.obj)::cO s.v)) ((wr.1.size,#[u y 1,u y xt,u y nJ,u y xl,u y xo,u y vt,u y vk,u y xp,l sa sn sc])::[(w.1.size,#[ht.v,hs.v,ho.v,hp.v,l (H ⟨b,o,m⟩) en ec,l da dZ dc,l ma eD mc,l wa wn wc]),(w.1.size+1,#[l m 0 0,l m 0 0,l m 0 0,l m 0 0])]) wv) (λi _=>sn - (A i).toNat)
    case atStart=>exact⟨0,_,aV _,rfl,by simpa using jD.q⟩
    case round=>
     skip;have hns:=nk.q.le;obtain⟨j,cj,hj,rfl,hsj⟩:=hrel;have BF:=z hsj;clear hsj;by_cases hlj:j<sn
     .obtain⟨s,b2,o2,hsx,rfl,hcs⟩:=(nk.q.below BF.q.b rfl).at_ hlj
      have hsm:=bQ hsx;have f0:=hcs 0 _ rfl;have f1:=hcs 1 _ rfl;have f2:=hcs 2 _ rfl;simp only[bM] at f0;have wJ:=z (MR.q.2 s hsm);have CZ:=z (Ma.q s hsm);have DU:=z (qB (λs:Sn=>((2:r),s.obj)::cO s.v) hsx);clear hcs hsx hsm;have HB:=z (BF.q.alloc #[u y s.obj,u y s.v.t,u y s.v.k] 117);have Sq:=HB.q.Q.1;have aoX:=HB.q.Q.2.2;have hb5:=HB.q.bY.1;have aoY:=HB.q.bY.2.2;go_wp2_with fail;refine(ji ((w.1.size+2)+1) (cj 2) (bK ((es.take k).flatMap (λe=>dD e (scan e))++[((0:r),xt)]++[((1:r),nJ)]++(sx.take j).flatMap (λs:Sn=>((2:r),s.obj)::cO s.v)) (2:C)) s.obj _ (HB.q.o 2 aj) HB.q.base (HB.q.len _)).mono ?_;rintro e w5 ⟨v5,rfl,h1,h2,h3⟩;obtain⟨a5,l5,k5,rfl⟩:=h1.oZ;obtain⟨c5,hs5⟩:=HB.q.step (i:=2) aj [((2:r),s.obj)] h1 h2 h3 (λp hp=>CZ.q p (by simp only[bF] at hp;simp[hp])) (kR _ 2 _) (iH _ 2 _);have hcl:=HB.q.called (i:=2) aj h2;have sU:=z hs5;clear h1 h2 h3 hs5 f0 f1 f2 Sq aoX hb5 aoY;have aoZ:=hcl.1;have ao0:=hcl.2.1;have ao1:=hcl.2.2;clear hcl;have Sr:=sU.q.Q.1;have ao2:=sU.q.Q.2.2;have hb6:=sU.q.bY.1;have ao3:=sU.q.bY.2.2;go_wp2_with fail;refine(BS ((w.1.size+2)+1) (c5 0) (bK ((es.take k).flatMap (λe=>dD e (scan e))++[((0:r),xt)]++[((1:r),nJ)]++(sx.take j).flatMap (λs:Sn=>((2:r),s.obj)::cO s.v)++[((2:r),s.obj)]) (0:C)) s.v _ (sU.q.o 0 aj) sU.q.base (sU.q.len _)).mono ?_;rintro e w6 ⟨v6,rfl,h1,h2,h3⟩;obtain⟨a6,l6,k6,rfl⟩:=h1.oZ;obtain⟨c6,hs6⟩:=sU.q.step (i:=0) aj (cO s.v) h1 h2 h3 (λp hp=>CZ.q p (by simp[hp])) (BU _ wJ.q) (xw _);have hcl:=sU.q.called (i:=0) aj h2;have HS6:=z hs6;clear h1 h2 h3 hs6 aoZ ao0 ao1 Sr ao2 hb6 ao3;have as8:=hcl.1;have as9:=hcl.2.1;have ata:=hcl.2.2;clear hcl;go_wp2_with fail;go_roundw
      case rel=>exact⟨j+1,_,by omega,by go_num,by rw[DU.q];simpa only[eG,gF,j3] using HS6.q.drop⟩
      case measure=>simp[A];omega
     .obtain rfl:sn=j:=by omega
      have Ar:=z (show V4 w (w.1.size+2) cj ((es.take k).flatMap (λe=>dD e (scan e))++[((0:r),xt)]++[((1:r),nJ)]++sx.flatMap (λs:Sn=>((2:r),s.obj)::cO s.v)) _ _ from by have:=BF.q;rwa[oW (nk.q.len)] at this);have hq4:=Ar.q.Q.1;have aib:=Ar.q.Q.2.2;have hb4:=Ar.q.bY.1;have aic:=Ar.q.bY.2.2;go_wp2_with fail;go_roundw
      case rel=>exact⟨k+1,_,by omega,by go_num,by rw[nD.q,oO.q];simpa only[eG,gF,j3] using Ar.q.drop⟩
      case measure=>simp[A];omega
   by_cases hk2:xk=2
   .clear hk1
    subst hk2;have oO:Hid (dD ⟨2,xt,nJ,xl,xo,⟨vt,vk⟩,xp,sa,sn,sc⟩ sx=[((0:r),xt)]++[((2:r),xo)]++cO ⟨vt,vk⟩++sx.flatMap (λs:Sn=>((2:r),s.obj)::cO s.v)):=z (by simp[dD]);have Sv:=HE.q.Q.1;have ao4:=HE.q.Q.2.2;have IE:=HE.q.bY.1;have ao5:=HE.q.bY.2.2;go_wp2_with fail;refine(ji ((w.1.size+2)+1) (c 0) (bK ((es.take k).flatMap (λe=>dD e (scan e))) (0:C)) xt _ (HE.q.o 0 aj) HE.q.base (HE.q.len _)).mono ?_;rintro e w7 ⟨v7,rfl,h1,h2,h3⟩;obtain⟨a7,l7,k7,rfl⟩:=h1.oZ;obtain⟨c7,hs7⟩:=HE.q.step (i:=0) aj [((0:r),xt)] h1 h2 h3 (λp hp=>kK.q p (by rw[oO.q];simp only[bJ,bF] at hp ⊢;simp[hp])) (kR _ 0 _) (iH _ 0 _);have hcl:=HE.q.called (i:=0) aj h2;have Aw:=z hs7;clear h1 h2 h3 hs7 e0 e1 e2 e3 e4 e5 e6 e7 e8 Sv ao4 IE ao5;have ao6:=hcl.1;have ao7:=hcl.2.1;have Dc:=hcl.2.2;clear hcl;have hq8:=Aw.q.Q.1;have ao8:=Aw.q.Q.2.2;have Od:=Aw.q.bY.1;have ao9:=Aw.q.bY.2.2;go_wp2_with fail;refine(ji ((w.1.size+2)+1) (c7 2) (bK ((es.take k).flatMap (λe=>dD e (scan e))++[((0:r),xt)]) (2:C)) xo _ (Aw.q.o 2 aj) Aw.q.base (Aw.q.len _)).mono ?_;rintro e w8 ⟨v8,rfl,h1,h2,h3⟩;obtain⟨a8,l8,k8,rfl⟩:=h1.oZ;obtain⟨c8,hs8⟩:=Aw.q.step (i:=2) aj [((2:r),xo)] h1 h2 h3 (λp hp=>kK.q p (by rw[oO.q];simp only[bJ,bF] at hp ⊢;simp[hp])) (kR _ 2 _) (iH _ 2 _);have hcl:=Aw.q.called (i:=2) aj h2;have KQ:=z hs8;clear h1 h2 h3 hs8 ao6 ao7 Dc hq8 ao8 Od ao9;have ao':=hcl.1;have apa:=hcl.2.1;have apb:=hcl.2.2;clear hcl;have I5:=KQ.q.Q.1;have apc:=KQ.q.Q.2.2;have qM:=KQ.q.bY.1;have apd:=KQ.q.bY.2.2;go_wp2_with fail;refine(BS ((w.1.size+2)+1) (c8 0) (bK ((es.take k).flatMap (λe=>dD e (scan e))++[((0:r),xt)]++[((2:r),xo)]) (0:C)) ⟨vt,vk⟩ _ (KQ.q.o 0 aj) KQ.q.base (KQ.q.len _)).mono ?_;rintro e w9 ⟨v9,rfl,h1,h2,h3⟩;obtain⟨a9,l9,k9,rfl⟩:=h1.oZ;obtain⟨c9,rV⟩:=KQ.q.step (i:=0) aj (cO ⟨vt,vk⟩) h1 h2 h3 (λp hp=>kK.q p (by rw[oO.q];simp only[bJ,bF] at hp ⊢;simp[hp])) (BU _ (MR.q.1 au)) (xw _);have hcl:=KQ.q.called (i:=0) aj h2;have FR:=z rV;clear h1 h2 h3 rV ao' apa apb I5 apc qM apd;have ape:=hcl.1;have apf:=hcl.2.1;have apg:=hcl.2.2;clear hcl;have PV:=FR.q.Q.1;have acL:=FR.q.Q.2.2;have Ac:=FR.q.bY.1;have acM:=FR.q.bY.2.2;go_wp2_with fail;clear PV acL Ac acM ape apf apg
    go_loopw [67] (λi wv=>∃(j:C)(c:C->D),j<=sn/\i= u y j/\V4 w (w.1.size+2) c ((es.take k).flatMap (λe=>dD e (scan e))++[((0:r),xt)]++[((2:r),xo)]++(cO ⟨vt,vk⟩)++(sx.take j).flatMap (λs:Sn=>((2:r),s.obj)::cO s.v)) ((wr.1.size,#[u y 2,u y xt,u y nJ,u y xl,u y xo,u y vt,u y vk,u y xp,l sa sn sc])::[(w.1.size,#[ht.v,hs.v,ho.v,hp.v,l (H ⟨b,o,m⟩) en ec,l da dZ dc,l ma eD mc,l wa wn wc]),(w.1.size+1,#[l m 0 0,l m 0 0,l m 0 0,l m 0 0])]) wv) (λi _=>sn - (A i).toNat)
    case atStart=>exact⟨0,_,aV _,rfl,by simpa using FR.q⟩
    case round=>
     skip;have hns:=nk.q.le;obtain⟨j,cj,hj,rfl,hsj⟩:=hrel;have aaS:=z hsj;clear hsj;by_cases hlj:j<sn
     .obtain⟨s,b2,o2,hsx,rfl,hcs⟩:=(nk.q.below aaS.q.b rfl).at_ hlj
      have hsm:=bQ hsx;have f0:=hcs 0 _ rfl;have f1:=hcs 1 _ rfl;have f2:=hcs 2 _ rfl;simp only[bM] at f0;have wJ:=z (MR.q.2 s hsm);have CZ:=z (Ma.q s hsm);have DU:=z (qB (λs:Sn=>((2:r),s.obj)::cO s.v) hsx);clear hcs hsx hsm;have HB:=z (aaS.q.alloc #[u y s.obj,u y s.v.t,u y s.v.k] 117);have hq11:=HB.q.Q.1;have akf:=HB.q.Q.2.2;have aph:=HB.q.bY.1;have akg:=HB.q.bY.2.2;go_wp2_with fail;refine(ji ((w.1.size+2)+1) (cj 2) (bK ((es.take k).flatMap (λe=>dD e (scan e))++[((0:r),xt)]++[((2:r),xo)]++(cO ⟨vt,vk⟩)++(sx.take j).flatMap (λs:Sn=>((2:r),s.obj)::cO s.v)) (2:C)) s.obj _ (HB.q.o 2 aj) HB.q.base (HB.q.len _)).mono ?_;rintro e w11 ⟨v11,rfl,h1,h2,h3⟩;obtain⟨a11,l11,k11,rfl⟩:=h1.oZ;obtain⟨c11,aie⟩:=HB.q.step (i:=2) aj [((2:r),s.obj)] h1 h2 h3 (λp hp=>CZ.q p (by simp only[bF] at hp;simp[hp])) (kR _ 2 _) (iH _ 2 _);have hcl:=HB.q.called (i:=2) aj h2;have ES:=z aie;clear h1 h2 h3 aie f0 f1 f2 hq11 akf aph akg;have akh:=hcl.1;have aki:=hcl.2.1;have akj:=hcl.2.2;clear hcl;have hq12:=ES.q.Q.1;have akk:=ES.q.Q.2.2;have apj:=ES.q.bY.1;have akl:=ES.q.bY.2.2;go_wp2_with fail;refine(BS ((w.1.size+2)+1) (c11 0) (bK ((es.take k).flatMap (λe=>dD e (scan e))++[((0:r),xt)]++[((2:r),xo)]++(cO ⟨vt,vk⟩)++(sx.take j).flatMap (λs:Sn=>((2:r),s.obj)::cO s.v)++[((2:r),s.obj)]) (0:C)) s.v _ (ES.q.o 0 aj) ES.q.base (ES.q.len _)).mono ?_;rintro e w12 ⟨v12,rfl,h1,h2,h3⟩;obtain⟨a12,l12,k12,rfl⟩:=h1.oZ;obtain⟨c12,aif⟩:=ES.q.step (i:=0) aj (cO s.v) h1 h2 h3 (λp hp=>CZ.q p (by simp[hp])) (BU _ wJ.q) (xw _);have hcl:=ES.q.called (i:=0) aj h2;have apk:=z aif;clear h1 h2 h3 aif akh aki akj hq12 akk apj akl;have ar4:=hcl.1;have ar5:=hcl.2.1;have ar6:=hcl.2.2;clear hcl;go_wp2_with fail;go_roundw
      case rel=>exact⟨j+1,_,by omega,by go_num,by rw[DU.q];simpa only[eG,gF,j3] using apk.q.drop⟩
      case measure=>simp[A];omega
     .obtain rfl:sn=j:=by omega
      have Qo:=z (show V4 w (w.1.size+2) cj ((es.take k).flatMap (λe=>dD e (scan e))++[((0:r),xt)]++[((2:r),xo)]++(cO ⟨vt,vk⟩)++sx.flatMap (λs:Sn=>((2:r),s.obj)::cO s.v)) _ _ from by have:=aaS.q;rwa[oW (nk.q.len)] at this);have PV:=Qo.q.Q.1;have acL:=Qo.q.Q.2.2;have Ac:=Qo.q.bY.1;have acM:=Qo.q.bY.2.2;go_wp2_with fail;go_roundw
      case rel=>exact⟨k+1,_,by omega,by go_num,by rw[nD.q,oO.q];simpa only[eG,gF,j3] using Qo.q.drop⟩
      case measure=>simp[A];omega
   by_cases hk3:xk=3
   .clear hk1 hk2
    subst hk3;have oO:Hid (dD ⟨3,xt,nJ,xl,xo,⟨vt,vk⟩,xp,sa,sn,sc⟩ sx=[((0:r),xt)]++[((2:r),xo)]++cO ⟨vt,vk⟩++sx.flatMap (λs:Sn=>((2:r),s.obj)::cO s.v)):=z (by simp[dD]);have apl:=HE.q.Q.1;have akm:=HE.q.Q.2.2;have apm:=HE.q.bY.1;have akn:=HE.q.bY.2.2;go_wp2_with fail;refine(ji ((w.1.size+2)+1) (c 0) (bK ((es.take k).flatMap (λe=>dD e (scan e))) (0:C)) xt _ (HE.q.o 0 aj) HE.q.base (HE.q.len _)).mono ?_;rintro e w13 ⟨v13,rfl,h1,h2,h3⟩;obtain⟨a13,l13,k13,rfl⟩:=h1.oZ;obtain⟨c13,aii⟩:=HE.q.step (i:=0) aj [((0:r),xt)] h1 h2 h3 (λp hp=>kK.q p (by rw[oO.q];simp only[bJ,bF] at hp ⊢;simp[hp])) (kR _ 0 _) (iH _ 0 _);have hcl:=HE.q.called (i:=0) aj h2;have ET:=z aii;clear h1 h2 h3 aii e0 e1 e2 e3 e4 e5 e6 e7 e8 apl akm apm akn;have ako:=hcl.1;have akp:=hcl.2.1;have akq:=hcl.2.2;clear hcl;have apn:=ET.q.Q.1;have akr:=ET.q.Q.2.2;have apo:=ET.q.bY.1;have aks:=ET.q.bY.2.2;go_wp2_with fail;refine(ji ((w.1.size+2)+1) (c13 2) (bK ((es.take k).flatMap (λe=>dD e (scan e))++[((0:r),xt)]) (2:C)) xo _ (ET.q.o 2 aj) ET.q.base (ET.q.len _)).mono ?_;rintro e w14 ⟨v14,rfl,h1,h2,h3⟩;obtain⟨a14,l14,k14,rfl⟩:=h1.oZ;obtain⟨c14,aij⟩:=ET.q.step (i:=2) aj [((2:r),xo)] h1 h2 h3 (λp hp=>kK.q p (by rw[oO.q];simp only[bJ,bF] at hp ⊢;simp[hp])) (kR _ 2 _) (iH _ 2 _);have hcl:=ET.q.called (i:=2) aj h2;have EU:=z aij;clear h1 h2 h3 aij ako akp akq apn akr apo aks;have akt:=hcl.1;have aku:=hcl.2.1;have akv:=hcl.2.2;clear hcl;have apq:=EU.q.Q.1;have akw:=EU.q.Q.2.2;have apr:=EU.q.bY.1;have akx:=EU.q.bY.2.2;go_wp2_with fail;refine(BS ((w.1.size+2)+1) (c14 0) (bK ((es.take k).flatMap (λe=>dD e (scan e))++[((0:r),xt)]++[((2:r),xo)]) (0:C)) ⟨vt,vk⟩ _ (EU.q.o 0 aj) EU.q.base (EU.q.len _)).mono ?_;rintro e w15 ⟨v15,rfl,h1,h2,h3⟩;obtain⟨a15,l15,k15,rfl⟩:=h1.oZ;obtain⟨c15,aik⟩:=EU.q.step (i:=0) aj (cO ⟨vt,vk⟩) h1 h2 h3 (λp hp=>kK.q p (by rw[oO.q];simp only[bJ,bF] at hp ⊢;simp[hp])) (BU _ (MR.q.1 au)) (xw _);have hcl:=EU.q.called (i:=0) aj h2;have Qp:=z aik;clear h1 h2 h3 aik akt aku akv apq akw apr akx;have aky:=hcl.1;have akz:=hcl.2.1;have akA:=hcl.2.2;clear hcl;have ail:=Qp.q.Q.1;have acN:=Qp.q.Q.2.2;have ain:=Qp.q.bY.1;have acO:=Qp.q.bY.2.2;go_wp2_with fail;clear ail acN ain acO aky akz akA
    go_loopw [67] (λi wv=>∃(j:C)(c:C->D),j<=sn/\i= u y j/\V4 w (w.1.size+2) c ((es.take k).flatMap (λe=>dD e (scan e))++[((0:r),xt)]++[((2:r),xo)]++(cO ⟨vt,vk⟩)++(sx.take j).flatMap (λs:Sn=>((2:r),s.obj)::cO s.v)) ((wr.1.size,#[u y 3,u y xt,u y nJ,u y xl,u y xo,u y vt,u y vk,u y xp,l sa sn sc])::[(w.1.size,#[ht.v,hs.v,ho.v,hp.v,l (H ⟨b,o,m⟩) en ec,l da dZ dc,l ma eD mc,l wa wn wc]),(w.1.size+1,#[l m 0 0,l m 0 0,l m 0 0,l m 0 0])]) wv) (λi _=>sn - (A i).toNat)
    case atStart=>exact⟨0,_,aV _,rfl,by simpa using Qp.q⟩
    case round=>
     skip;have hns:=nk.q.le;obtain⟨j,cj,hj,rfl,hsj⟩:=hrel;have aaT:=z hsj;clear hsj;by_cases hlj:j<sn
     .obtain⟨s,b2,o2,hsx,rfl,hcs⟩:=(nk.q.below aaT.q.b rfl).at_ hlj
      have hsm:=bQ hsx;have f0:=hcs 0 _ rfl;have f1:=hcs 1 _ rfl;have f2:=hcs 2 _ rfl;simp only[bM] at f0;have wJ:=z (MR.q.2 s hsm);have CZ:=z (Ma.q s hsm);have DU:=z (qB (λs:Sn=>((2:r),s.obj)::cO s.v) hsx);clear hcs hsx hsm;have HB:=z (aaT.q.alloc #[u y s.obj,u y s.v.t,u y s.v.k] 117);have aps:=HB.q.Q.1;have akB:=HB.q.Q.2.2;have apt:=HB.q.bY.1;have akC:=HB.q.bY.2.2;go_wp2_with fail;refine(ji ((w.1.size+2)+1) (cj 2) (bK ((es.take k).flatMap (λe=>dD e (scan e))++[((0:r),xt)]++[((2:r),xo)]++(cO ⟨vt,vk⟩)++(sx.take j).flatMap (λs:Sn=>((2:r),s.obj)::cO s.v)) (2:C)) s.obj _ (HB.q.o 2 aj) HB.q.base (HB.q.len _)).mono ?_;rintro e w17 ⟨v17,rfl,h1,h2,h3⟩;obtain⟨a17,l17,k17,rfl⟩:=h1.oZ;obtain⟨c17,aio⟩:=HB.q.step (i:=2) aj [((2:r),s.obj)] h1 h2 h3 (λp hp=>CZ.q p (by simp only[bF] at hp;simp[hp])) (kR _ 2 _) (iH _ 2 _);have hcl:=HB.q.called (i:=2) aj h2;have EW:=z aio;clear h1 h2 h3 aio f0 f1 f2 aps akB apt akC;have akD:=hcl.1;have akE:=hcl.2.1;have akF:=hcl.2.2;clear hcl;have apu:=EW.q.Q.1;have akG:=EW.q.Q.2.2;have apv:=EW.q.bY.1;have akH:=EW.q.bY.2.2;go_wp2_with fail;refine(BS ((w.1.size+2)+1) (c17 0) (bK ((es.take k).flatMap (λe=>dD e (scan e))++[((0:r),xt)]++[((2:r),xo)]++(cO ⟨vt,vk⟩)++(sx.take j).flatMap (λs:Sn=>((2:r),s.obj)::cO s.v)++[((2:r),s.obj)]) (0:C)) s.v _ (EW.q.o 0 aj) EW.q.base (EW.q.len _)).mono ?_;rintro e w18 ⟨v18,rfl,h1,h2,h3⟩;obtain⟨a18,l18,k18,rfl⟩:=h1.oZ;obtain⟨c18,aip⟩:=EW.q.step (i:=0) aj (cO s.v) h1 h2 h3 (λp hp=>CZ.q p (by simp[hp])) (BU _ wJ.q) (xw _);have hcl:=EW.q.called (i:=0) aj h2;have apw:=z aip;clear h1 h2 h3 aip akD akE akF apu akG apv akH;have ar7:=hcl.1;have ar8:=hcl.2.1;have ar9:=hcl.2.2;clear hcl;go_wp2_with fail;go_roundw
      case rel=>exact⟨j+1,_,by omega,by go_num,by rw[DU.q];simpa only[eG,gF,j3] using apw.q.drop⟩
      case measure=>simp[A];omega
     .obtain rfl:sn=j:=by omega
      have Qq:=z (show V4 w (w.1.size+2) cj ((es.take k).flatMap (λe=>dD e (scan e))++[((0:r),xt)]++[((2:r),xo)]++(cO ⟨vt,vk⟩)++sx.flatMap (λs:Sn=>((2:r),s.obj)::cO s.v)) _ _ from by have:=aaT.q;rwa[oW (nk.q.len)] at this);have ail:=Qq.q.Q.1;have acN:=Qq.q.Q.2.2;have ain:=Qq.q.bY.1;have acO:=Qq.q.bY.2.2;go_wp2_with fail;go_roundw
      case rel=>exact⟨k+1,_,by omega,by go_num,by rw[nD.q,oO.q];simpa only[eG,gF,j3] using Qq.q.drop⟩
      case measure=>simp[A];omega
   by_cases hk4:xk=4
   .clear hk1 hk2 hk3
    subst hk4;have oO:Hid (dD ⟨4,xt,nJ,xl,xo,⟨vt,vk⟩,xp,sa,sn,sc⟩ sx=[((0:r),xt)]++[((3:r),xp)]++sx.flatMap (λs:Sn=>((2:r),s.obj)::cO s.v)):=z (by simp[dD]);have apx:=HE.q.Q.1;have akI:=HE.q.Q.2.2;have apy:=HE.q.bY.1;have akJ:=HE.q.bY.2.2;go_wp2_with fail;refine(ji ((w.1.size+2)+1) (c 0) (bK ((es.take k).flatMap (λe=>dD e (scan e))) (0:C)) xt _ (HE.q.o 0 aj) HE.q.base (HE.q.len _)).mono ?_;rintro e w19 ⟨v19,rfl,h1,h2,h3⟩;obtain⟨a19,l19,k19,rfl⟩:=h1.oZ;obtain⟨c19,aiq⟩:=HE.q.step (i:=0) aj [((0:r),xt)] h1 h2 h3 (λp hp=>kK.q p (by rw[oO.q];simp only[bJ,bF] at hp ⊢;simp[hp])) (kR _ 0 _) (iH _ 0 _);have hcl:=HE.q.called (i:=0) aj h2;have EX:=z aiq;clear h1 h2 h3 aiq e0 e1 e2 e3 e4 e5 e6 e7 e8 apx akI apy akJ;have akK:=hcl.1;have akL:=hcl.2.1;have akM:=hcl.2.2;clear hcl;have apz:=EX.q.Q.1;have akN:=EX.q.Q.2.2;have apA:=EX.q.bY.1;have akO:=EX.q.bY.2.2;go_wp2_with fail;refine(ji ((w.1.size+2)+1) (c19 3) (bK ((es.take k).flatMap (λe=>dD e (scan e))++[((0:r),xt)]) (3:C)) xp _ (EX.q.o 3 aj) EX.q.base (EX.q.len _)).mono ?_;rintro e w20 ⟨v20,rfl,h1,h2,h3⟩;obtain⟨a20,l20,k20,rfl⟩:=h1.oZ;obtain⟨c20,air⟩:=EX.q.step (i:=3) aj [((3:r),xp)] h1 h2 h3 (λp hp=>kK.q p (by rw[oO.q];simp only[bJ,bF] at hp ⊢;simp[hp])) (kR _ 3 _) (iH _ 3 _);have hcl:=EX.q.called (i:=3) aj h2;have Qr:=z air;clear h1 h2 h3 air akK akL akM apz akN apA akO;have akP:=hcl.1;have akQ:=hcl.2.1;have akR:=hcl.2.2;clear hcl;have ais:=Qr.q.Q.1;have acP:=Qr.q.Q.2.2;have ait:=Qr.q.bY.1;have acQ:=Qr.q.bY.2.2;go_wp2_with fail;clear ais acP ait acQ akP akQ akR
    go_loopw [67] (λi wv=>∃(j:C)(c:C->D),j<=sn/\i= u y j/\V4 w (w.1.size+2) c ((es.take k).flatMap (λe=>dD e (scan e))++[((0:r),xt)]++[((3:r),xp)]++(sx.take j).flatMap (λs:Sn=>((2:r),s.obj)::cO s.v)) ((wr.1.size,#[u y 4,u y xt,u y nJ,u y xl,u y xo,u y vt,u y vk,u y xp,l sa sn sc])::[(w.1.size,#[ht.v,hs.v,ho.v,hp.v,l (H ⟨b,o,m⟩) en ec,l da dZ dc,l ma eD mc,l wa wn wc]),(w.1.size+1,#[l m 0 0,l m 0 0,l m 0 0,l m 0 0])]) wv) (λi _=>sn - (A i).toNat)
    case atStart=>exact⟨0,_,aV _,rfl,by simpa using Qr.q⟩
    case round=>
     skip;have hns:=nk.q.le;obtain⟨j,cj,hj,rfl,hsj⟩:=hrel;have aaU:=z hsj;clear hsj;by_cases hlj:j<sn
     .obtain⟨s,b2,o2,hsx,rfl,hcs⟩:=(nk.q.below aaU.q.b rfl).at_ hlj
      have hsm:=bQ hsx;have f0:=hcs 0 _ rfl;have f1:=hcs 1 _ rfl;have f2:=hcs 2 _ rfl;simp only[bM] at f0;have wJ:=z (MR.q.2 s hsm);have CZ:=z (Ma.q s hsm);have DU:=z (qB (λs:Sn=>((2:r),s.obj)::cO s.v) hsx);clear hcs hsx hsm;have HB:=z (aaU.q.alloc #[u y s.obj,u y s.v.t,u y s.v.k] 117);have apB:=HB.q.Q.1;have akS:=HB.q.Q.2.2;have apC:=HB.q.bY.1;have akT:=HB.q.bY.2.2;go_wp2_with fail;refine(ji ((w.1.size+2)+1) (cj 2) (bK ((es.take k).flatMap (λe=>dD e (scan e))++[((0:r),xt)]++[((3:r),xp)]++(sx.take j).flatMap (λs:Sn=>((2:r),s.obj)::cO s.v)) (2:C)) s.obj _ (HB.q.o 2 aj) HB.q.base (HB.q.len _)).mono ?_;rintro e w22 ⟨v22,rfl,h1,h2,h3⟩;obtain⟨a22,l22,k22,rfl⟩:=h1.oZ;obtain⟨c22,aiu⟩:=HB.q.step (i:=2) aj [((2:r),s.obj)] h1 h2 h3 (λp hp=>CZ.q p (by simp only[bF] at hp;simp[hp])) (kR _ 2 _) (iH _ 2 _);have hcl:=HB.q.called (i:=2) aj h2;have EY:=z aiu;clear h1 h2 h3 aiu f0 f1 f2 apB akS apC akT;have akU:=hcl.1;have akV:=hcl.2.1;have akW:=hcl.2.2;clear hcl;have apD:=EY.q.Q.1;have akX:=EY.q.Q.2.2;have apE:=EY.q.bY.1;have akY:=EY.q.bY.2.2;go_wp2_with fail;refine(BS ((w.1.size+2)+1) (c22 0) (bK ((es.take k).flatMap (λe=>dD e (scan e))++[((0:r),xt)]++[((3:r),xp)]++(sx.take j).flatMap (λs:Sn=>((2:r),s.obj)::cO s.v)++[((2:r),s.obj)]) (0:C)) s.v _ (EY.q.o 0 aj) EY.q.base (EY.q.len _)).mono ?_;rintro e w23 ⟨v23,rfl,h1,h2,h3⟩;obtain⟨a23,l23,k23,rfl⟩:=h1.oZ;obtain⟨c23,aiv⟩:=EY.q.step (i:=0) aj (cO s.v) h1 h2 h3 (λp hp=>CZ.q p (by simp[hp])) (BU _ wJ.q) (xw _);have hcl:=EY.q.called (i:=0) aj h2;have JG:=z aiv;clear h1 h2 h3 aiv akU akV akW apD akX apE akY;have ar':=hcl.1;have asa:=hcl.2.1;have asb:=hcl.2.2;clear hcl;go_wp2_with fail;go_roundw
      case rel=>exact⟨j+1,_,by omega,by go_num,by rw[DU.q];simpa only[eG,gF,j3] using JG.q.drop⟩
      case measure=>simp[A];omega
     .obtain rfl:sn=j:=by omega
      have Qs:=z (show V4 w (w.1.size+2) cj ((es.take k).flatMap (λe=>dD e (scan e))++[((0:r),xt)]++[((3:r),xp)]++sx.flatMap (λs:Sn=>((2:r),s.obj)::cO s.v)) _ _ from by have:=aaU.q;rwa[oW (nk.q.len)] at this);have ais:=Qs.q.Q.1;have acP:=Qs.q.Q.2.2;have ait:=Qs.q.bY.1;have acQ:=Qs.q.bY.2.2;go_wp2_with fail;go_roundw
      case rel=>exact⟨k+1,_,by omega,by go_num,by rw[nD.q,oO.q];simpa only[eG,gF,j3] using Qs.q.drop⟩
      case measure=>simp[A];omega
   have oO:Hid (dD ⟨xk,xt,nJ,xl,xo,⟨vt,vk⟩,xp,sa,sn,sc⟩ sx=[((0:r),xt)]++sx.flatMap (λs:Sn=>((2:r),s.obj)::cO s.v)):=z (by simp[dD,hk1,hk2,hk3,hk4]);have hb1:(xk==1)=false:=by simpa using hk1
   have hb2:(xk==2)=false:=by simpa using hk2
   have hb3:(xk==3)=false:=by simpa using hk3
   have hb4:(xk==4)=false:=by simpa using hk4
   clear hk1 hk2 hk3 hk4;have apF:=HE.q.Q.1;have akZ:=HE.q.Q.2.2;have apG:=HE.q.bY.1;have ak0:=HE.q.bY.2.2;go_wp2_with fail;refine(ji ((w.1.size+2)+1) (c 0) (bK ((es.take k).flatMap (λe=>dD e (scan e))) (0:C)) xt _ (HE.q.o 0 aj) HE.q.base (HE.q.len _)).mono ?_;rintro e w24 ⟨v24,rfl,h1,h2,h3⟩;obtain⟨a24,l24,k24,rfl⟩:=h1.oZ;obtain⟨c24,aiw⟩:=HE.q.step (i:=0) aj [((0:r),xt)] h1 h2 h3 (λp hp=>kK.q p (by rw[oO.q];simp only[bJ,bF] at hp ⊢;simp[hp])) (kR _ 0 _) (iH _ 0 _);have hcl:=HE.q.called (i:=0) aj h2;have Qt:=z aiw;clear h1 h2 h3 aiw e0 e1 e2 e3 e4 e5 e6 e7 e8 apF akZ apG ak0;have ak1:=hcl.1;have ak2:=hcl.2.1;have ak3:=hcl.2.2;clear hcl;have aix:=Qt.q.Q.1;have acR:=Qt.q.Q.2.2;have aiy:=Qt.q.bY.1;have acS:=Qt.q.bY.2.2;go_wp2_with fail;clear aix acR aiy acS ak1 ak2 ak3
   go_loopw [67] (λi wv=>∃(j:C)(c:C->D),j<=sn/\i= u y j/\V4 w (w.1.size+2) c ((es.take k).flatMap (λe=>dD e (scan e))++[((0:r),xt)]++(sx.take j).flatMap (λs:Sn=>((2:r),s.obj)::cO s.v)) ((wr.1.size,#[u y xk,u y xt,u y nJ,u y xl,u y xo,u y vt,u y vk,u y xp,l sa sn sc])::[(w.1.size,#[ht.v,hs.v,ho.v,hp.v,l (H ⟨b,o,m⟩) en ec,l da dZ dc,l ma eD mc,l wa wn wc]),(w.1.size+1,#[l m 0 0,l m 0 0,l m 0 0,l m 0 0])]) wv) (λi _=>sn - (A i).toNat)
   case atStart=>exact⟨0,_,aV _,rfl,by simpa using Qt.q⟩
   case round=>
    skip;have hns:=nk.q.le;obtain⟨j,cj,hj,rfl,hsj⟩:=hrel;have aaV:=z hsj;clear hsj;by_cases hlj:j<sn
    .obtain⟨s,b2,o2,hsx,rfl,hcs⟩:=(nk.q.below aaV.q.b rfl).at_ hlj
     have hsm:=bQ hsx;have f0:=hcs 0 _ rfl;have f1:=hcs 1 _ rfl;have f2:=hcs 2 _ rfl;simp only[bM] at f0;have wJ:=z (MR.q.2 s hsm);have CZ:=z (Ma.q s hsm);have DU:=z (qB (λs:Sn=>((2:r),s.obj)::cO s.v) hsx);clear hcs hsx hsm;have HB:=z (aaV.q.alloc #[u y s.obj,u y s.v.t,u y s.v.k] 117);have apH:=HB.q.Q.1;have ak4:=HB.q.Q.2.2;have apI:=HB.q.bY.1;have ak5:=HB.q.bY.2.2;go_wp2_with fail;refine(ji ((w.1.size+2)+1) (cj 2) (bK ((es.take k).flatMap (λe=>dD e (scan e))++[((0:r),xt)]++(sx.take j).flatMap (λs:Sn=>((2:r),s.obj)::cO s.v)) (2:C)) s.obj _ (HB.q.o 2 aj) HB.q.base (HB.q.len _)).mono ?_;rintro e w26 ⟨v26,rfl,h1,h2,h3⟩;obtain⟨a26,l26,k26,rfl⟩:=h1.oZ;obtain⟨c26,aiz⟩:=HB.q.step (i:=2) aj [((2:r),s.obj)] h1 h2 h3 (λp hp=>CZ.q p (by simp only[bF] at hp;simp[hp])) (kR _ 2 _) (iH _ 2 _);have hcl:=HB.q.called (i:=2) aj h2;have EZ:=z aiz;clear h1 h2 h3 aiz f0 f1 f2 apH ak4 apI ak5;have ak6:=hcl.1;have ak7:=hcl.2.1;have ak8:=hcl.2.2;clear hcl;have apJ:=EZ.q.Q.1;have ak9:=EZ.q.Q.2.2;have apK:=EZ.q.bY.1;have ak':=EZ.q.bY.2.2;go_wp2_with fail;refine(BS ((w.1.size+2)+1) (c26 0) (bK ((es.take k).flatMap (λe=>dD e (scan e))++[((0:r),xt)]++(sx.take j).flatMap (λs:Sn=>((2:r),s.obj)::cO s.v)++[((2:r),s.obj)]) (0:C)) s.v _ (EZ.q.o 0 aj) EZ.q.base (EZ.q.len _)).mono ?_;rintro e w27 ⟨v27,rfl,h1,h2,h3⟩;obtain⟨a27,l27,k27,rfl⟩:=h1.oZ;obtain⟨c27,aiA⟩:=EZ.q.step (i:=0) aj (cO s.v) h1 h2 h3 (λp hp=>CZ.q p (by simp[hp])) (BU _ wJ.q) (xw _);have hcl:=EZ.q.called (i:=0) aj h2;have apL:=z aiA;clear h1 h2 h3 aiA ak6 ak7 ak8 apJ ak9 apK ak';have asc:=hcl.1;have ase:=hcl.2.1;have asf:=hcl.2.2;clear hcl;go_wp2_with fail;go_roundw
     case rel=>exact⟨j+1,_,by omega,by go_num,by rw[DU.q];simpa only[eG,gF,j3] using apL.q.drop⟩
     case measure=>simp[A];omega
    .obtain rfl:sn=j:=by omega
     have Qu:=z (show V4 w (w.1.size+2) cj ((es.take k).flatMap (λe=>dD e (scan e))++[((0:r),xt)]++sx.flatMap (λs:Sn=>((2:r),s.obj)::cO s.v)) _ _ from by have:=aaV.q;rwa[oW (nk.q.len)] at this);have aix:=Qu.q.Q.1;have acR:=Qu.q.Q.2.2;have aiy:=Qu.q.bY.1;have acS:=Qu.q.bY.2.2;go_wp2_with fail;go_roundw
     case rel=>exact⟨k+1,_,by omega,by go_num,by rw[nD.q,oO.q];simpa only[eG,gF,j3] using Qu.q.drop⟩
     case measure=>simp[A];omega
  .obtain rfl:en=k:=by omega
   have bP:=z (show V4 w (w.1.size+2) c (es.flatMap (λe=>dD e (scan e))) [(w.1.size,#[ht.v,hs.v,ho.v,hp.v,l ea en ec,l da dZ dc,l ma eD mc,l wa wn wc]),(w.1.size+1,#[l m 0 0,l m 0 0,l m 0 0,l m 0 0])] _ from by have:=iE.q;rwa[oW (HD.q.1.len)] at this);have hq0:=bP.q.Q.1;have Lp:=bP.q.Q.2.2;have hbx:=bP.q.bx w.1.size #[ht.v,hs.v,ho.v,hp.v,l ea en ec,l da dZ dc,l ma eD mc,l wa wn wc] au;have Lu:=hbx.1;have hlh:=hbx.2.2;clear hbx;go_wp2_with fail;clear hq0 Lp Lu hlh
   go_loopw [88] (λi wr=>∃(k:C)(c:C->D),k<=dZ/\i= u y k/\V4 w (w.1.size+2) c (es.flatMap (λe=>dD e (scan e))++(ds.take k).flatMap (λx=>kF x (dn x))) [(w.1.size,#[ht.v,hs.v,ho.v,hp.v,l ea en ec,l da dZ dc,l ma eD mc,l wa wn wc]),(w.1.size+1,#[l m 0 0,l m 0 0,l m 0 0,l m 0 0])] wr) (λi _=>dZ - (A i).toNat)
   case atStart=>exact⟨0,_,aV _,rfl,by simpa using bP.q⟩
   case round=>
    obtain⟨k,c,hk,rfl,hsk⟩:=hrel;have aaW:=z hsk;clear hsk;by_cases hlt:k<dZ
    .obtain⟨x,b,o,hx,rfl,hc⟩:=(HD.q.2.1.below aaW.q.b rfl).at_ hlt
     have hmem:=bQ hx;have e0:=hc 0 _ rfl;have e1:=hc 1 _ rfl;simp only[bM] at e0;have nk:=z (HD.q.2.2.2.2.2.1 x hmem);have kK:=z (HOD.q x hmem);have nD:=z (qB (λx=>kF x (dn x)) hx);obtain⟨sx,hsx⟩:∃sx,sx=dn x:=⟨_,rfl⟩;simp only[<-hsx] at nk kK nD;clear hsx hc hx hmem;obtain⟨xo,sa,sn,sc⟩:=x;simp only at e0 e1;have HE:=z (aaW.q.alloc #[u y xo,l sa sn sc] 74);have oO:Hid (kF ⟨xo,sa,sn,sc⟩ sx=[((2:r),xo)]++sx.map (λd=>((0:r),d))):=z (by simp[kF]);have apM:=HE.q.Q.1;have ala:=HE.q.Q.2.2;have apN:=HE.q.bY.1;have alb:=HE.q.bY.2.2;go_wp2_with fail;refine(ji ((w.1.size+2)+1) (c 2) (bK (es.flatMap (λe=>dD e (scan e))++(ds.take k).flatMap (λx=>kF x (dn x))) (2:C)) xo _ (HE.q.o 2 aj) HE.q.base (HE.q.len _)).mono ?_;rintro e w29 ⟨v29,rfl,h1,h2,h3⟩;obtain⟨a29,l29,k29,rfl⟩:=h1.oZ;obtain⟨c29,aiB⟩:=HE.q.step (i:=2) aj [((2:r),xo)] h1 h2 h3 (λp hp=>kK.q p (by rw[oO.q];simp only[bJ,bF] at hp ⊢;simp[hp])) (kR _ 2 _) (iH _ 2 _);have hcl:=HE.q.called (i:=2) aj h2;have Qv:=z aiB;clear h1 h2 h3 aiB e0 e1 apM ala apN alb;have alc:=hcl.1;have ald:=hcl.2.1;have ale:=hcl.2.2;clear hcl;have aiC:=Qv.q.Q.1;have acT:=Qv.q.Q.2.2;have aiD:=Qv.q.bY.1;have acU:=Qv.q.bY.2.2;go_wp2_with fail;clear aiC acT aiD acU alc ald ale
     go_loopw [101] (λi wv=>∃(j:C)(c:C->D),j<=sn/\i= u y j/\V4 w (w.1.size+2) c (es.flatMap (λe=>dD e (scan e))++(ds.take k).flatMap (λx=>kF x (dn x))++[((2:r),xo)]++(sx.take j).map (λd=>((0:r),d))) ((wr.1.size,#[u y xo,l sa sn sc])::[(w.1.size,#[ht.v,hs.v,ho.v,hp.v,l ea en ec,l (H ⟨b,o,m⟩) dZ dc,l ma eD mc,l wa wn wc]),(w.1.size+1,#[l m 0 0,l m 0 0,l m 0 0,l m 0 0])]) wv) (λi _=>sn - (A i).toNat)
     case atStart=>exact⟨0,_,aV _,rfl,by simpa using Qv.q⟩
     case round=>
      skip;have hns:=nk.q.le;obtain⟨j,cj,hj,rfl,hsj⟩:=hrel;have BX:=z hsj;clear hsj;by_cases hlj:j<sn
      .obtain⟨d,b2,o2,hsx,rfl,hcs⟩:=(nk.q.below BX.q.b rfl).at_ hlj
       have hsm:=bQ hsx;have f0:=hcs 0 _ rfl;simp only[jo,bM] at f0;have DU:=z (Qn (λd:r=>((0:r),d)) hsx);have HDM:=z hsm;clear hcs hsx hsm;have apO:=BX.q.Q.1;have alf:=BX.q.Q.2.2;have apP:=BX.q.bY.1;have alg:=BX.q.bY.2.2;go_wp2_with fail;refine(ji ((w.1.size+2)+1) (cj 0) (bK (es.flatMap (λe=>dD e (scan e))++(ds.take k).flatMap (λx=>kF x (dn x))++[((2:r),xo)]++(sx.take j).map (λd=>((0:r),d))) (0:C)) d _ (BX.q.o 0 aj) BX.q.base (BX.q.len _)).mono ?_;rintro e w31 ⟨v31,rfl,h1,h2,h3⟩;obtain⟨a31,l31,k31,rfl⟩:=h1.oZ;obtain⟨c31,aiF⟩:=BX.q.step (i:=0) aj [((0:r),d)] h1 h2 h3 (λp hp=>kK.q p (by rw[oO.q];simp only[bF] at hp;subst hp;exact pX _ (dQ.2 ⟨d,HDM.q,rfl⟩))) (kR _ 0 _) (iH _ 0 _);have hcl:=BX.q.called (i:=0) aj h2;have apQ:=z aiF;clear h1 h2 h3 aiF f0 apO alf apP alg;have asg:=hcl.1;have ash:=hcl.2.1;have asi:=hcl.2.2;clear hcl;go_wp2_with fail;go_roundw
       case rel=>exact⟨j+1,_,by omega,by go_num,by rw[DU.q];simpa only[eG] using apQ.q⟩
       case measure=>simp[A];omega
      .obtain rfl:sn=j:=by omega
       have Qw:=z (show V4 w (w.1.size+2) cj (es.flatMap (λe=>dD e (scan e))++(ds.take k).flatMap (λx=>kF x (dn x))++[((2:r),xo)]++sx.map (λd=>((0:r),d))) _ _ from by have:=BX.q;rwa[oW (nk.q.len)] at this);have aiC:=Qw.q.Q.1;have acT:=Qw.q.Q.2.2;have aiD:=Qw.q.bY.1;have acU:=Qw.q.bY.2.2;go_wp2_with fail;go_roundw
       case rel=>exact⟨k+1,_,by omega,by go_num,by rw[nD.q,oO.q];simpa only[eG,gF,j3] using Qw.q.drop⟩
       case measure=>simp[A];omega
    .obtain rfl:dZ=k:=by omega
     have UZ:=z (show V4 w (w.1.size+2) c (es.flatMap (λe=>dD e (scan e))++ds.flatMap (λx=>kF x (dn x))) [(w.1.size,#[ht.v,hs.v,ho.v,hp.v,l ea en ec,l da dZ dc,l ma eD mc,l wa wn wc]),(w.1.size+1,#[l m 0 0,l m 0 0,l m 0 0,l m 0 0])] _ from by have:=aaW.q;rwa[oW (HD.q.2.1.len)] at this);have hq0:=UZ.q.Q.1;have Lp:=UZ.q.Q.2.2;have hbx:=UZ.q.bx w.1.size #[ht.v,hs.v,ho.v,hp.v,l ea en ec,l da dZ dc,l ma eD mc,l wa wn wc] au;have Lu:=hbx.1;have hlh:=hbx.2.2;clear hbx;go_wp2_with fail;clear hq0 Lp Lu hlh
     go_loopw [115] (λi wr=>∃(k:C)(c:C->D),k<=eD/\i= u y k/\V4 w (w.1.size+2) c (es.flatMap (λe=>dD e (scan e))++ds.flatMap (λx=>kF x (dn x))++(ms.take k).flatMap (λx=>mY x (mn x))) [(w.1.size,#[ht.v,hs.v,ho.v,hp.v,l ea en ec,l da dZ dc,l ma eD mc,l wa wn wc]),(w.1.size+1,#[l m 0 0,l m 0 0,l m 0 0,l m 0 0])] wr) (λi _=>eD - (A i).toNat)
     case atStart=>exact⟨0,_,aV _,rfl,by simpa using UZ.q⟩
     case round=>
      obtain⟨k,c,hk,rfl,hsk⟩:=hrel;have aaX:=z hsk;clear hsk;by_cases hlt:k<eD
      .obtain⟨x,b,o,hx,rfl,hc⟩:=(HD.q.2.2.1.below aaX.q.b rfl).at_ hlt
       have hmem:=bQ hx;have e0:=hc 0 _ rfl;have e1:=hc 1 _ rfl;have e2:=hc 2 _ rfl;have e3:=hc 3 _ rfl;simp only[bM] at e0;have nk:=z (HD.q.2.2.2.2.2.2 x hmem);have kK:=z (HOM.q x hmem);have nD:=z (qB (λx=>mY x (mn x)) hx);obtain⟨sx,hsx⟩:∃sx,sx=mn x:=⟨_,rfl⟩;simp only[<-hsx] at nk kK nD;clear hsx hc hx hmem;obtain⟨xp,xo,xf,sa,sn,sc⟩:=x;simp only at e0 e1 e2 e3;have HE:=z (aaX.q.alloc #[u y xp,u y xo,.bool xf,l sa sn sc] 77);have oO:Hid (mY ⟨xp,xo,xf,sa,sn,sc⟩ sx=[((3:r),xp)]++[((2:r),xo)]++sx.map (λd=>((0:r),d))):=z (by simp[mY]);have apR:=HE.q.Q.1;have alh:=HE.q.Q.2.2;have apS:=HE.q.bY.1;have ali:=HE.q.bY.2.2;go_wp2_with fail;refine(ji ((w.1.size+2)+1) (c 3) (bK (es.flatMap (λe=>dD e (scan e))++ds.flatMap (λx=>kF x (dn x))++(ms.take k).flatMap (λx=>mY x (mn x))) (3:C)) xp _ (HE.q.o 3 aj) HE.q.base (HE.q.len _)).mono ?_;rintro e w33 ⟨v33,rfl,h1,h2,h3⟩;obtain⟨a33,l33,k33,rfl⟩:=h1.oZ;obtain⟨c33,aiG⟩:=HE.q.step (i:=3) aj [((3:r),xp)] h1 h2 h3 (λp hp=>kK.q p (by rw[oO.q];simp only[bJ,bF] at hp ⊢;simp[hp])) (kR _ 3 _) (iH _ 3 _);have hcl:=HE.q.called (i:=3) aj h2;have E5:=z aiG;clear h1 h2 h3 aiG e0 e1 e2 e3 apR alh apS ali;have alj:=hcl.1;have alk:=hcl.2.1;have alm:=hcl.2.2;clear hcl;have apT:=E5.q.Q.1;have aln:=E5.q.Q.2.2;have apU:=E5.q.bY.1;have alo:=E5.q.bY.2.2;go_wp2_with fail;refine(ji ((w.1.size+2)+1) (c33 2) (bK (es.flatMap (λe=>dD e (scan e))++ds.flatMap (λx=>kF x (dn x))++(ms.take k).flatMap (λx=>mY x (mn x))++[((3:r),xp)]) (2:C)) xo _ (E5.q.o 2 aj) E5.q.base (E5.q.len _)).mono ?_;rintro e w34 ⟨v34,rfl,h1,h2,h3⟩;obtain⟨a34,l34,k34,rfl⟩:=h1.oZ;obtain⟨c34,aiH⟩:=E5.q.step (i:=2) aj [((2:r),xo)] h1 h2 h3 (λp hp=>kK.q p (by rw[oO.q];simp only[bJ,bF] at hp ⊢;simp[hp])) (kR _ 2 _) (iH _ 2 _);have hcl:=E5.q.called (i:=2) aj h2;have tJ:=z aiH;clear h1 h2 h3 aiH alj alk alm apT aln apU alo;have alp:=hcl.1;have alq:=hcl.2.1;have alr:=hcl.2.2;clear hcl;have aiI:=tJ.q.Q.1;have acV:=tJ.q.Q.2.2;have Jk:=tJ.q.bY.1;have acW:=tJ.q.bY.2.2;go_wp2_with fail;clear aiI acV Jk acW alp alq alr
       go_loopw [134] (λi wv=>∃(j:C)(c:C->D),j<=sn/\i= u y j/\V4 w (w.1.size+2) c (es.flatMap (λe=>dD e (scan e))++ds.flatMap (λx=>kF x (dn x))++(ms.take k).flatMap (λx=>mY x (mn x))++[((3:r),xp)]++[((2:r),xo)]++(sx.take j).map (λd=>((0:r),d))) ((wr.1.size,#[u y xp,u y xo,.bool xf,l sa sn sc])::[(w.1.size,#[ht.v,hs.v,ho.v,hp.v,l ea en ec,l da dZ dc,l (H ⟨b,o,m⟩) eD mc,l wa wn wc]),(w.1.size+1,#[l m 0 0,l m 0 0,l m 0 0,l m 0 0])]) wv) (λi _=>sn - (A i).toNat)
       case atStart=>exact⟨0,_,aV _,rfl,by simpa using tJ.q⟩
       case round=>
        skip;have hns:=nk.q.le;obtain⟨j,cj,hj,rfl,hsj⟩:=hrel;have BZ:=z hsj;clear hsj;by_cases hlj:j<sn
        .obtain⟨d,b2,o2,hsx,rfl,hcs⟩:=(nk.q.below BZ.q.b rfl).at_ hlj
         have hsm:=bQ hsx;have f0:=hcs 0 _ rfl;simp only[jo,bM] at f0;have DU:=z (Qn (λd:r=>((0:r),d)) hsx);have HDM:=z hsm;clear hcs hsx hsm;have apV:=BZ.q.Q.1;have als:=BZ.q.Q.2.2;have apW:=BZ.q.bY.1;have alu:=BZ.q.bY.2.2;go_wp2_with fail;refine(ji ((w.1.size+2)+1) (cj 0) (bK (es.flatMap (λe=>dD e (scan e))++ds.flatMap (λx=>kF x (dn x))++(ms.take k).flatMap (λx=>mY x (mn x))++[((3:r),xp)]++[((2:r),xo)]++(sx.take j).map (λd=>((0:r),d))) (0:C)) d _ (BZ.q.o 0 aj) BZ.q.base (BZ.q.len _)).mono ?_;rintro e w36 ⟨v36,rfl,h1,h2,h3⟩;obtain⟨a36,l36,k36,rfl⟩:=h1.oZ;obtain⟨c36,aiJ⟩:=BZ.q.step (i:=0) aj [((0:r),d)] h1 h2 h3 (λp hp=>kK.q p (by rw[oO.q];simp only[bF] at hp;subst hp;exact pX _ (dQ.2 ⟨d,HDM.q,rfl⟩))) (kR _ 0 _) (iH _ 0 _);have hcl:=BZ.q.called (i:=0) aj h2;have apX:=z aiJ;clear h1 h2 h3 aiJ f0 apV als apW alu;have asj:=hcl.1;have asl:=hcl.2.1;have asn:=hcl.2.2;clear hcl;go_wp2_with fail;go_roundw
         case rel=>exact⟨j+1,_,by omega,by go_num,by rw[DU.q];simpa only[eG] using apX.q⟩
         case measure=>simp[A];omega
        .obtain rfl:sn=j:=by omega
         have Qx:=z (show V4 w (w.1.size+2) cj (es.flatMap (λe=>dD e (scan e))++ds.flatMap (λx=>kF x (dn x))++(ms.take k).flatMap (λx=>mY x (mn x))++[((3:r),xp)]++[((2:r),xo)]++sx.map (λd=>((0:r),d))) _ _ from by have:=BZ.q;rwa[oW (nk.q.len)] at this);have aiI:=Qx.q.Q.1;have acV:=Qx.q.Q.2.2;have Jk:=Qx.q.bY.1;have acW:=Qx.q.bY.2.2;go_wp2_with fail;go_roundw
         case rel=>exact⟨k+1,_,by omega,by go_num,by rw[nD.q,oO.q];simpa only[eG,gF,j3] using Qx.q.drop⟩
         case measure=>simp[A];omega
      .obtain rfl:eD=k:=by omega
       have U0:=z (show V4 w (w.1.size+2) c (es.flatMap (λe=>dD e (scan e))++ds.flatMap (λx=>kF x (dn x))++ms.flatMap (λx=>mY x (mn x))) [(w.1.size,#[ht.v,hs.v,ho.v,hp.v,l ea en ec,l da dZ dc,l ma eD mc,l wa wn wc]),(w.1.size+1,#[l m 0 0,l m 0 0,l m 0 0,l m 0 0])] _ from by have:=aaX.q;rwa[oW (HD.q.2.2.1.len)] at this);have hq0:=U0.q.Q.1;have Lp:=U0.q.Q.2.2;have hbx:=U0.q.bx w.1.size #[ht.v,hs.v,ho.v,hp.v,l ea en ec,l da dZ dc,l ma eD mc,l wa wn wc] au;have Lu:=hbx.1;have hlh:=hbx.2.2;clear hbx;go_wp2_with fail;clear hq0 Lp Lu hlh
       go_loopw [148] (λi wr=>∃(k:C)(c:C->D),k<=wn/\i= u y k/\V4 w (w.1.size+2) c (es.flatMap (λe=>dD e (scan e))++ds.flatMap (λx=>kF x (dn x))++ms.flatMap (λx=>mY x (mn x))++(qs.take k).flatMap qU) [(w.1.size,#[ht.v,hs.v,ho.v,hp.v,l ea en ec,l da dZ dc,l ma eD mc,l wa wn wc]),(w.1.size+1,#[l m 0 0,l m 0 0,l m 0 0,l m 0 0])] wr) (λi _=>wn - (A i).toNat)
       case atStart=>exact⟨0,_,aV _,rfl,by simpa using U0.q⟩
       case round=>
        obtain⟨k,c,hk,rfl,hsk⟩:=hrel;have aaY:=z hsk;clear hsk;by_cases hlt:k<wn
        .obtain⟨x,b,o,hx,rfl,hc⟩:=(HD.q.2.2.2.1.below aaY.q.b rfl).at_ hlt
         have hmem:=bQ hx;have e0:=hc 0 _ rfl;have e1:=hc 1 _ rfl;simp only[bM] at e0;have kK:=z (HOW.q x hmem);have nD:=z (qB qU hx);clear hc hx hmem;obtain⟨xs,xb⟩:=x;simp only at e0 e1;have HE:=z (aaY.q.alloc #[u y xs,u y xb] 79);have apY:=HE.q.Q.1;have alv:=HE.q.Q.2.2;have apZ:=HE.q.bY.1;have alx:=HE.q.bY.2.2;go_wp2_with fail;refine(ji ((w.1.size+2)+1) (c 1) (bK (es.flatMap (λe=>dD e (scan e))++ds.flatMap (λx=>kF x (dn x))++ms.flatMap (λx=>mY x (mn x))++(qs.take k).flatMap qU) (1:C)) xs _ (HE.q.o 1 aj) HE.q.base (HE.q.len _)).mono ?_;rintro e w38 ⟨v38,rfl,h1,h2,h3⟩;obtain⟨a38,l38,k38,rfl⟩:=h1.oZ;obtain⟨c38,aiK⟩:=HE.q.step (i:=1) aj [((1:r),xs)] h1 h2 h3 (λp hp=>kK.q p hp) (kR _ 1 _) (iH _ 1 _);have hcl:=HE.q.called (i:=1) aj h2;have ap0:=z aiK;clear h1 h2 h3 aiK e0 e1 apY alv apZ alx;have aso:=hcl.1;have asq:=hcl.2.1;have asr:=hcl.2.2;clear hcl;go_wp2_with fail;go_roundw
         case rel=>exact⟨k+1,_,by omega,by go_num,by rw[nD.q,<-eG];exact ap0.q.drop⟩
         case measure=>simp[A];omega
        .obtain rfl:wn=k:=by omega
         have Ca:=z (show V4 w (w.1.size+2) c (es.flatMap (λe=>dD e (scan e))++ds.flatMap (λx=>kF x (dn x))++ms.flatMap (λx=>mY x (mn x))++qs.flatMap qU) [(w.1.size,#[ht.v,hs.v,ho.v,hp.v,l ea en ec,l da dZ dc,l ma eD mc,l wa wn wc]),(w.1.size+1,#[l m 0 0,l m 0 0,l m 0 0,l m 0 0])] _ from by have:=aaY.q;rwa[oW (HD.q.2.2.2.1.len)] at this);have Ui:Hid (∀Y,Same (λi=>i≠w.1.size+1) _ Y->ZO (oz es ds ms qs scan dn mn) w (.returned (.agg #[c 0,c 1,c 2,c 3])) Y):=z (λY hY=>⟨c,rfl,λi hi=>by
          have ho:=(Ca.q.o i hi);have ho':=ho.block (w':=Y) λg hg=>hY.block g (by have:=(ho.lt g hg).1;omega) (ho.lt g hg).2
          obtain⟨a,cc,e,_,_⟩:=ho'.shape;rw[e] at ho';exact⟨a,_,cc,e,ho'.row (hc:=ig) (dL (Ca.q.len _) aj)⟩,hY.below Ca.q.b (λi hi=>by omega) Ca.q.b.size⟩)
         have hQ:=Ca.q.Q;have hb2:=Ca.q.bx (w.1.size+1) #[l m 0 0,l m 0 0,l m 0 0,l m 0 0] au;obtain⟨a0,n0,k0,e0⟩:=(Ca.q.o 0 aj).oZ;obtain⟨a1,n1,k1,e1⟩:=(Ca.q.o 1 aj).oZ;obtain⟨a2,n2,k2,e2⟩:=(Ca.q.o 2 aj).oZ;obtain⟨a3,n3,k3,e3⟩:=(Ca.q.o 3 aj).oZ;rw[e0,e1,e2,e3] at hQ Ui;clear Ca e0 e1 e2 e3;have hq0:=hQ.1;have Lp:=hQ.2.2;have hc2:=hb2.1;have hf2:=hb2.2.1;have hl2:=hb2.2.2;clear hQ hb2;go_wp2_with fail;refine bodyPost_ret (v:= .agg #[l a0 n0 k0,l a1 n1 k1,l a2 n2 k2,l a3 n3 k3]) (by simp[results,results57,go_sem,hc2]) rfl (Ui.q _ ?_)
         repeat(first|(with_reducible exact Same.refl' _)|(refine Same.setTail ?_ (λhn=>hn rfl)))
end Yd
namespace Yd
open Option renaming some->A,none->B
open Go Go.RowKit Go.Proofs
open Below renaming refl->I
open Go.IntKind renaming i64->r
open Go.Obj renaming cells->t
open Go.Value renaming slice->j,int->p,bool->H
open RowKit renaming intOf->G
open Yd renaming hid->u
open _root_ renaming List->C
theorem aiL (F:Int->C Int)(v:kZ):(kH F v).k=v.k:=by
 unfold kH
 split
 .rfl
 .rfl
theorem aly (F:Int->C Int){e:EvC}(h:e.kind=2):(gP F e).v.k=e.v.k:=by
 unfold gP;simp only[h,true_or,dw];exact aiL _ _
theorem IV {c:Cont}(h:iU c)(hf:aI c):aI (gJ c):=by
 refine⟨λi hi=>?_,?_,?_,?_,?_,λe he hk=>?_⟩
 .show((bK (bI c) (i:Int)).map (aS (c.nl i))).length<=jB i
  rw[bH];refine dL (KP (Gv _ _) (λx hx=>?_)) (hf.1 i hi);obtain⟨s',h1,h2,h3⟩:=wI h _ (Ht _ hx);simp only at h2 h3;have:i=s':=by omega
  rw[this];exact h3
 .show(c.E.map _).length<=3000;rw[bH];exact hf.2.1
 .show(c.D.map _).length<=3000;rw[bH];exact hf.2.2.1
 .show(c.M.map _).length<=3000;rw[bH];exact hf.2.2.2.1
 .show(c.Q.map _).length<=3000;rw[bH];exact hf.2.2.2.2.1
 .obtain⟨x,hx,rfl⟩:=dQ.1 (show e∈c.E.map (gP (bK (bI c))) from he)
  have hk':x.kind=2:=hk;rw[aly _ hk'];exact hf.2.2.2.2.2 x hx hk'
theorem XB {ls:C aP}{z:Cont}(h:uO jh 0 ls= .ok z):CK (gJ z):=by
 obtain⟨h1,_,_,h4,_⟩:=XQ h;exact(iU.number h1).Mq (IV h1 h4)
attribute [local go_sem] Oper.semAt_some
structure Hw (X:World)(h:HC)(c:Cont)(es:C EvC)(ds:C aM)(ms:C aN)(scan:EvC->C Sn)(dn:aM->C Int)(mn:aN->C Int):Prop where
 d:Deep X h es ds ms c.Q scan dn mn
 n:∀i,i<4->Row X 1 encStr (h.nm i).a (h.nm i).n (h.nm i).c (c.nl i)
 be:es.map EvC.base=c.E
 bd:ds.map aM.base=c.D
 bm:ms.map aN.base=c.M
 se:es.map scan=c.SE
 sd:ds.map dn=c.SD
 sm:ms.map mn=c.SM
theorem Hw.below {X Y:World}{h:HC}{c:Cont}{es:C EvC}{ds:C aM}{ms:C aN}{scan:EvC->C Sn}{dn:aM->C Int}{mn:aN->C Int}(s:Hw X h c es ds ms scan dn mn)(hb:Below X.1.size X Y):Hw Y h c es ds ms scan dn mn:=
 ⟨s.d.below hb rfl,λi hi=>(s.n i hi).below hb rfl,s.be,s.bd,s.bm,s.se,s.sd,s.sm⟩
theorem DV {α β:Type}{f g:α->β}{xs ys:C α}{i:Nat}{x y:α}(h:xs.map f=ys.map g)(hx:xs[i]?=A x)(hy:ys[i]?=A y):f x=g y:=by
 have:=dF (λl=>l[i]?) h;simp only[lZ,hx,hy,Option.map_some] at this;injection this
theorem Lr {α β:Type}{f g:α->β}{xs ys:C α}(h:xs.map f=ys.map g):xs.length=ys.length:=by
 have:=dF List.length h
 simpa using this
theorem SI (h h2:HC)(c:Cont)(es:C EvC)(ds:C aM)(ms:C aN)(scan:EvC->C Sn)(dn:aM->C Int)(mn:aN->C Int)(es2:C EvC)(KA:C aM)(KC:C aN)(KD:EvC->C Sn)(Xb:aM->C Int)(Xc:aN->C Int)(w:World)
  (hs:Hw w h c es ds ms scan dn mn) (hs2:Hw w h2 c es2 KA KC KD Xb Xc):
  Calls Tryz.prog 9 #[gH h,gH h2] w (cK (H true) w):=by
 have HD:=u hs.d;have HD2:=u hs2.d;have HN:=u hs.n;have fT:=u hs2.n;have zO:=u (hs.be.trans hs2.be.symm);have Q6:=u (hs.bd.trans hs2.bd.symm);have HBM:=u (hs.bm.trans hs2.bm.symm);have Nt:=u (hs.se.trans hs2.se.symm);have qO:=u (hs.sd.trans hs2.sd.symm);have Kc:=u (hs.sm.trans hs2.sm.symm);have hle:=hs.d.1.le;have hld:=hs.d.2.1.le;have hlm:=hs.d.2.2.1.le;have Xi:=hs.d.2.2.2.1.le;have qe:h.e.n=h2.e.n:=by rw[<-hs.d.1.len,<-hs2.d.1.len];exact Lr zO.q
 have qd:h.d.n=h2.d.n:=by rw[<-hs.d.2.1.len,<-hs2.d.2.1.len];exact Lr Q6.q
 have qm:h.m.n=h2.m.n:=by rw[<-hs.d.2.2.1.len,<-hs2.d.2.2.1.len];exact Lr HBM.q
 have qw:h.w.n=h2.w.n:=by rw[<-hs.d.2.2.2.1.len,<-hs2.d.2.2.2.1.len]
 have hkx:=Bx.new w (aH h) 36;have HB0:=u (aB (aB (I w.1.size w) (t (aH h) 36)) (t (aH h2) 36));have HX0:Hid (Bx ((w.alloc (t (aH h) 36)).alloc (t (aH h2) 36)) w.1.size (aH h)/\Bx ((w.alloc (t (aH h) 36)).alloc (t (aH h2) 36)) (w.1.size+1) (aH h2)):=u ⟨hkx.alloc _,Bx.new1 au⟩;clear hkx hs hs2;obtain⟨ht,hs,ho,hp,⟨ea,en,ec⟩,⟨da,dZ,dc⟩,⟨ma,eD,mc⟩,⟨wa,wn,wc⟩⟩:=h;obtain⟨ht2,hs2,ho2,hp2,⟨Fz,en2,DW⟩,⟨GD,atb,DX⟩,⟨GH,atc,DY⟩,⟨FB,wn2,DZ⟩⟩:=h2;simp only at hle hld hlm Xi qe qd qm qw;subst qe qd qm qw;have CG:Hid (Bx ((w.alloc (t #[ht.v,hs.v,ho.v,hp.v,j ea en ec,j da dZ dc,j ma eD mc,j wa wn wc] 36)).alloc (t #[ht2.v,hs2.v,ho2.v,hp2.v,j Fz en DW,j GD dZ DX,j GH eD DY,j FB wn DZ] 36)) w.1.size #[ht.v,hs.v,ho.v,hp.v,j ea en ec,j da dZ dc,j ma eD mc,j wa wn wc]/\Bx ((w.alloc (t #[ht.v,hs.v,ho.v,hp.v,j ea en ec,j da dZ dc,j ma eD mc,j wa wn wc] 36)).alloc (t #[ht2.v,hs2.v,ho2.v,hp2.v,j Fz en DW,j GD dZ DX,j GH eD DY,j FB wn DZ] 36)) (w.1.size+1) #[ht2.v,hs2.v,ho2.v,hp2.v,j Fz en DW,j GD dZ DX,j GH eD DY,j FB wn DZ]):=u HX0.q;clear HX0;go_enter Tryz.func9,Tryz.ntmps9;have hcx:=CG.q.1.1;have hlx:=CG.q.1.2.2;have hcy:=CG.q.2.1;have yT:=CG.q.2.2.2;go_wp2_with fail;refine(G6 ht.a ht2.a ht.n ht.c ht2.n ht2.c (c.nl 0) (c.nl 0) _ ((HN.q 0 aj).below HB0.q rfl) ((fT.q 0 aj).below HB0.q rfl)).mono ?_;rintro e w1 ⟨rfl,hb⟩;rw[bA rfl];have bP:=u (AL CG.q hb);have HB1:=u (HB0.q.bO hb);clear hb hcx hlx hcy yT;have hcx:=bP.q.1.1;have hlx:=bP.q.1.2.2;have hcy:=bP.q.2.1;have yT:=bP.q.2.2.2;go_wp2_with fail;refine(G6 hs.a hs2.a hs.n hs.c hs2.n hs2.c (c.nl 1) (c.nl 1) _ ((HN.q 1 aj).below HB1.q rfl) ((fT.q 1 aj).below HB1.q rfl)).mono ?_;rintro e w2 ⟨rfl,hb⟩;rw[bA rfl];have bL:=u (AL bP.q hb);have HB2:=u (HB1.q.bO hb);clear hb hcx hlx hcy yT;have hcx:=bL.q.1.1;have hlx:=bL.q.1.2.2;have hcy:=bL.q.2.1;have yT:=bL.q.2.2.2;go_wp2_with fail;refine(G6 ho.a ho2.a ho.n ho.c ho2.n ho2.c (c.nl 2) (c.nl 2) _ ((HN.q 2 aj).below HB2.q rfl) ((fT.q 2 aj).below HB2.q rfl)).mono ?_;rintro e w3 ⟨rfl,hb⟩;rw[bA rfl];have eX:=u (AL bL.q hb);have HB3:=u (HB2.q.bO hb);clear hb hcx hlx hcy yT;have hcx:=eX.q.1.1;have hlx:=eX.q.1.2.2;have hcy:=eX.q.2.1;have yT:=eX.q.2.2.2;go_wp2_with fail;refine(G6 hp.a hp2.a hp.n hp.c hp2.n hp2.c (c.nl 3) (c.nl 3) _ ((HN.q 3 aj).below HB3.q rfl) ((fT.q 3 aj).below HB3.q rfl)).mono ?_;rintro e w4 ⟨rfl,hb⟩;rw[bA rfl];have lu:=u (AL eX.q hb);have fU:=u (HB3.q.bO hb);clear hb hcx hlx hcy yT;have hcx:=lu.q.1.1;have hlx:=lu.q.1.2.2;have hcy:=lu.q.2.1;have yT:=lu.q.2.2.2;go_wp2_with fail;clear hcx hlx hcy yT
 go_loopw [82] (λi wr=>∃k:Nat,k<=en/\i= p r k/\Below w.1.size w wr/\Bx wr w.1.size #[ht.v,hs.v,ho.v,hp.v,j ea en ec,j da dZ dc,j ma eD mc,j wa wn wc]/\Bx wr (w.1.size+1) #[ht2.v,hs2.v,ho2.v,hp2.v,j Fz en DW,j GD dZ DX,j GH eD DY,j FB wn DZ]) (λi _=>en - (G i).toNat)
 case atStart=>exact⟨0,aV _,rfl,fU.q,lu.q.1,lu.q.2⟩
 case round=>
  obtain⟨k,hk,rfl,hbw,hxw⟩:=hrel;have bE:=u hbw;have gI:=u hxw;clear hbw hxw;by_cases hlt:k<en
  .obtain⟨x,b,o,hx,rfl,hc⟩:=(HD.q.1.below bE.q rfl).at_ hlt
   obtain⟨y,b2,o2,hy,rfl,hd⟩:=(HD2.q.1.below bE.q rfl).at_ hlt;have hmx:=bQ hx;have MS:=bQ hy;have e0:=hc 0 _ rfl;have e1:=hc 1 _ rfl;have e2:=hc 2 _ rfl;have e3:=hc 3 _ rfl;have e4:=hc 4 _ rfl;have e5:=hc 5 _ rfl;have e6:=hc 6 _ rfl;have e7:=hc 7 _ rfl;have e8:=hc 8 _ rfl;have f0:=hd 0 _ rfl;have f1:=hd 1 _ rfl;have f2:=hd 2 _ rfl;have f3:=hd 3 _ rfl;have f4:=hd 4 _ rfl;have f5:=hd 5 _ rfl;have f6:=hd 6 _ rfl;have f7:=hd 7 _ rfl;have f8:=hd 8 _ rfl;simp only[bM] at e0 f0;have hbb:=DV zO.q hx hy;have hss:=DV Nt.q hx hy;have hrx:=HD.q.2.2.2.2.1 x hmx;have xR:=HD2.q.2.2.2.2.1 y MS;obtain⟨sx,hsx⟩:∃sx,sx=scan x:=⟨_,rfl⟩;rw[<-hss,<-hsx] at xR;rw[<-hsx] at hrx;clear hsx hss hx hy hc hd hmx MS;obtain⟨xk,xt,nJ,xl,xo,⟨vt,vk⟩,xp,sa,sn,sc⟩:=x;obtain⟨yk,yt,atd,yl,yo,⟨ut,uk⟩,yp,yL,yM,yN⟩:=y;simp only[EvC.base,EvC.wi,EvC.mk.injEq,kZ.mk.injEq,and_true] at hbb;obtain⟨rfl,rfl,rfl,rfl,rfl,⟨rfl,rfl⟩,rfl⟩:=hbb;simp only at e0 e1 e2 e3 e4 e5 e6 e7 e8 f0 f1 f2 f3 f4 f5 f6 f7 f8 hrx xR;have BD:=u hrx;have HRY:=u xR;have Kc:=u (λW (hb:Below w.1.size w W)=>Vi ⟨xk,xt,nJ,xl,xo,⟨vt,vk⟩,xp,sa,sn,sc⟩ ⟨xk,xt,nJ,xl,xo,⟨vt,vk⟩,xp,yL,yM,yN⟩ sx sx W (BD.q.below hb rfl) (HRY.q.below hb rfl));have HTR:Hid ((dM ⟨xk,xt,nJ,xl,xo,⟨vt,vk⟩,xp,sa,sn,sc⟩ ⟨xk,xt,nJ,xl,xo,⟨vt,vk⟩,xp,yL,yM,yN⟩ && decide (sx=sx))=true):=u (by simp[dM]);have wM:=u (⟨e0,e1,e2,e3,e4,e5,e6,e7,e8,f0,f1,f2,f3,f4,f5,f6,f7,f8⟩:_/\_/\_/\_/\_/\_/\_/\_/\_/\_/\_/\_/\_/\_/\_/\_/\_/\_);clear hrx xR;go_wp2_with fail;clear e0 f0 e1 f1 e2 f2 e3 f3 e4 f4 e5 f5 e6 f6 e7 f7 e8 f8;refine aC 12 [(0,0),(1,0),(2,0),(3,0),(4,0),(5,0),(6,0),(7,0),(8,0),(9,0),(10,2),(11,0)] (λ_=>True) (λW'=>(Bx W' w.1.size #[ht.v,hs.v,ho.v,hp.v,j (A ⟨b,o,B⟩) en ec,j da dZ dc,j ma eD mc,j wa wn wc]/\Bx W' (w.1.size+1) #[ht2.v,hs2.v,ho2.v,hp2.v,j (A ⟨b2,o2,B⟩) en DW,j GD dZ DX,j GH eD DY,j FB wn DZ])/\W'.cell? ⟨b,o+k*9,B⟩=A (p r xk)/\W'.cell? ⟨b,o+k*9+1,B⟩=A (p r xt)/\W'.cell? ⟨b,o+k*9+2,B⟩=A (p r nJ)/\W'.cell? ⟨b,o+k*9+3,B⟩=A (p r xl)/\W'.cell? ⟨b,o+k*9+4,B⟩=A (p r xo)/\W'.cell? ⟨b,o+k*9+5,B⟩=A (p r vt)/\W'.cell? ⟨b,o+k*9+6,B⟩=A (p r vk)/\W'.cell? ⟨b,o+k*9+7,B⟩=A (p r xp)/\W'.cell? ⟨b,o+k*9+8,B⟩=A (j sa sn sc)/\W'.cell? ⟨b2,o2+k*9,B⟩=A (p r xk)/\W'.cell? ⟨b2,o2+k*9+1,B⟩=A (p r xt)/\W'.cell? ⟨b2,o2+k*9+2,B⟩=A (p r nJ)/\W'.cell? ⟨b2,o2+k*9+3,B⟩=A (p r xl)/\W'.cell? ⟨b2,o2+k*9+4,B⟩=A (p r xo)/\W'.cell? ⟨b2,o2+k*9+5,B⟩=A (p r vt)/\W'.cell? ⟨b2,o2+k*9+6,B⟩=A (p r vk)/\W'.cell? ⟨b2,o2+k*9+7,B⟩=A (p r xp)/\W'.cell? ⟨b2,o2+k*9+8,B⟩=A (j yL yM yN)) av av (trivial) (⟨gI.q,wM.q⟩) ?_;refine qC ?_;refine aD rfl rfl (λK hK=>?_);go_simp;refine(Kc.q _ (bE.q.trans ((I _ _).drew.mono bE.q.size))).mono ?_;rintro en Y ⟨rfl,BG⟩;rw[HTR.q];have rT:=u (bE.q.trans ((show Below wr.1.size wr Y from(I _ _).drew.trans BG).mono bE.q.size));have Tc:=u (AL gI.q (show Below wr.1.size wr Y from(I _ _).drew.trans BG));have yX:=u (show Below wr.1.size wr Y from(I _ _).drew.trans BG);refine hK _ _ ⟨trivial,Tc.q,bn yX.q rfl wM.q.1,bn yX.q rfl wM.q.2.1,bn yX.q rfl wM.q.2.2.1,bn yX.q rfl wM.q.2.2.2.1,bn yX.q rfl wM.q.2.2.2.2.1,bn yX.q rfl wM.q.2.2.2.2.2.1,bn yX.q rfl wM.q.2.2.2.2.2.2.1,bn yX.q rfl wM.q.2.2.2.2.2.2.2.1,bn yX.q rfl wM.q.2.2.2.2.2.2.2.2.1,bn yX.q rfl wM.q.2.2.2.2.2.2.2.2.2.1,bn yX.q rfl wM.q.2.2.2.2.2.2.2.2.2.2.1,bn yX.q rfl wM.q.2.2.2.2.2.2.2.2.2.2.2.1,bn yX.q rfl wM.q.2.2.2.2.2.2.2.2.2.2.2.2.1,bn yX.q rfl wM.q.2.2.2.2.2.2.2.2.2.2.2.2.2.1,bn yX.q rfl wM.q.2.2.2.2.2.2.2.2.2.2.2.2.2.2.1,bn yX.q rfl wM.q.2.2.2.2.2.2.2.2.2.2.2.2.2.2.2.1,bn yX.q rfl wM.q.2.2.2.2.2.2.2.2.2.2.2.2.2.2.2.2.1,bn yX.q rfl wM.q.2.2.2.2.2.2.2.2.2.2.2.2.2.2.2.2.2⟩ ?_;clear hK K BG;refine qC ?_;refine aJ ?_;go_wp2_with fail;go_roundw
   case rel=>exact⟨k+1,by omega,by go_num,rT.q,Tc.q⟩
   case measure=>simp[G];omega
  .obtain rfl:en=k:=by omega
   have hcx:=gI.q.1.1;have hlx:=gI.q.1.2.2;have hcy:=gI.q.2.1;have yT:=gI.q.2.2.2;go_wp2_with fail;clear hcx hlx hcy yT
   go_loopw [101] (λi wr=>∃k:Nat,k<=dZ/\i= p r k/\Below w.1.size w wr/\Bx wr w.1.size #[ht.v,hs.v,ho.v,hp.v,j ea en ec,j da dZ dc,j ma eD mc,j wa wn wc]/\Bx wr (w.1.size+1) #[ht2.v,hs2.v,ho2.v,hp2.v,j Fz en DW,j GD dZ DX,j GH eD DY,j FB wn DZ]) (λi _=>dZ - (G i).toNat)
   case atStart=>exact⟨0,aV _,rfl,bE.q,gI.q.1,gI.q.2⟩
   case round=>
    obtain⟨k,hk,rfl,hbw,hxw⟩:=hrel;have bE:=u hbw;have gI:=u hxw;clear hbw hxw;by_cases hlt:k<dZ
    .obtain⟨x,b,o,hx,rfl,hc⟩:=(HD.q.2.1.below bE.q rfl).at_ hlt
     obtain⟨y,b2,o2,hy,rfl,hd⟩:=(HD2.q.2.1.below bE.q rfl).at_ hlt;have hmx:=bQ hx;have MS:=bQ hy;have e0:=hc 0 _ rfl;have f0:=hd 0 _ rfl;have e1:=hc 1 _ rfl;have f1:=hd 1 _ rfl;simp only[bM] at e0 f0;have hbb:=DV Q6.q hx hy;have hss:=DV qO.q hx hy;have hrx:=HD.q.2.2.2.2.2.1 x hmx;have xR:=HD2.q.2.2.2.2.2.1 y MS;obtain⟨sx,hsx⟩:∃sx,sx=dn x:=⟨_,rfl⟩;rw[<-hss,<-hsx] at xR;rw[<-hsx] at hrx;clear hsx hss hx hy hc hd hmx MS;obtain⟨xo,sa,sn,sc⟩:=x;obtain⟨yo,yL,yM,yN⟩:=y;simp only[aM.base,aM.wi,aM.mk.injEq,and_true] at hbb;obtain rfl:=hbb;simp only at e0 f0 e1 f1 hrx xR;have hbz:=aB (aB bE.q (t #[p r xo,j sa sn sc] 74)) (t #[p r xo,j yL yM yN] 74);have Qy:=Rc sa yL sn sc yM yN sx sx _ (hrx.below hbz rfl) (xR.below hbz rfl);rw[bA rfl] at Qy;have HSQ:=u Qy;clear Qy;have FZ:Hid ((Bx ((wr.alloc (t #[p r xo,j sa sn sc] 74)).alloc (t #[p r xo,j yL yM yN] 74)) w.1.size #[ht.v,hs.v,ho.v,hp.v,j ea en ec,j (A ⟨b,o,B⟩) dZ dc,j ma eD mc,j wa wn wc]/\Bx ((wr.alloc (t #[p r xo,j sa sn sc] 74)).alloc (t #[p r xo,j yL yM yN] 74)) (w.1.size+1) #[ht2.v,hs2.v,ho2.v,hp2.v,j Fz en DW,j (A ⟨b2,o2,B⟩) dZ DX,j GH eD DY,j FB wn DZ])):=u ⟨(gI.q.1.alloc _).alloc _,(gI.q.2.alloc _).alloc _⟩;have iO:=u hbz;have JK:Bx ((wr.alloc (t #[p r xo,j sa sn sc] 74)).alloc (t #[p r xo,j yL yM yN] 74)) wr.1.size #[p r xo,j sa sn sc]:=(Bx.new wr #[p r xo,j sa sn sc] 74).alloc _;have JL:Bx ((wr.alloc (t #[p r xo,j sa sn sc] 74)).alloc (t #[p r xo,j yL yM yN] 74)) (wr.1.size+1) #[p r xo,j yL yM yN]:=Bx.new1 au;have hq:Bx (wr.alloc (t #[p r xo,j sa sn sc] 74)) (w.1.size+1) #[ht2.v,hs2.v,ho2.v,hp2.v,j Fz en DW,j (A ⟨b2,o2,B⟩) dZ DX,j GH eD DY,j FB wn DZ]:=gI.q.2.alloc _;have g0:=yx (t #[p r xo,j sa sn sc] 74) f0;have g1:=yx (t #[p r xo,j sa sn sc] 74) f1;have hcp:=JK.1;have hlp:=JK.2.2;have hcq:=JL.1;have hlq:=JL.2.2;have hcr:=hq.1;have hlr:=hq.2.2;clear hrx xR hbz JK JL hq f0 f1;go_wp2_with fail;refine HSQ.q.mono ?_;rintro e w5 ⟨rfl,hb⟩;have Tc:=u (AL FZ.q hb);have rT:=u (iO.q.bO hb);clear hb hcp hlp hcq hlq hcr hlr e0 g0 e1 g1;go_wp2_with fail;go_roundw
     case rel=>exact⟨k+1,by omega,by go_num,rT.q,Tc.q⟩
     case measure=>simp[G];omega
    .obtain rfl:dZ=k:=by omega
     have hcx:=gI.q.1.1;have hlx:=gI.q.1.2.2;have hcy:=gI.q.2.1;have yT:=gI.q.2.2.2;go_wp2_with fail;clear hcx hlx hcy yT
     go_loopw [128] (λi wr=>∃k:Nat,k<=eD/\i= p r k/\Below w.1.size w wr/\Bx wr w.1.size #[ht.v,hs.v,ho.v,hp.v,j ea en ec,j da dZ dc,j ma eD mc,j wa wn wc]/\Bx wr (w.1.size+1) #[ht2.v,hs2.v,ho2.v,hp2.v,j Fz en DW,j GD dZ DX,j GH eD DY,j FB wn DZ]) (λi _=>eD - (G i).toNat)
     case atStart=>exact⟨0,aV _,rfl,bE.q,gI.q.1,gI.q.2⟩
     case round=>
      obtain⟨k,hk,rfl,hbw,hxw⟩:=hrel;have bE:=u hbw;have gI:=u hxw;clear hbw hxw;by_cases hlt:k<eD
      .obtain⟨x,b,o,hx,rfl,hc⟩:=(HD.q.2.2.1.below bE.q rfl).at_ hlt
       obtain⟨y,b2,o2,hy,rfl,hd⟩:=(HD2.q.2.2.1.below bE.q rfl).at_ hlt;have hmx:=bQ hx;have MS:=bQ hy;have e0:=hc 0 _ rfl;have f0:=hd 0 _ rfl;have e1:=hc 1 _ rfl;have f1:=hd 1 _ rfl;have e2:=hc 2 _ rfl;have f2:=hd 2 _ rfl;have e3:=hc 3 _ rfl;have f3:=hd 3 _ rfl;simp only[bM] at e0 f0;have hbb:=DV HBM.q hx hy;have hss:=DV Kc.q hx hy;have hrx:=HD.q.2.2.2.2.2.2 x hmx;have xR:=HD2.q.2.2.2.2.2.2 y MS;obtain⟨sx,hsx⟩:∃sx,sx=mn x:=⟨_,rfl⟩;rw[<-hss,<-hsx] at xR;rw[<-hsx] at hrx;clear hsx hss hx hy hc hd hmx MS;obtain⟨xp,xo,xf,sa,sn,sc⟩:=x;obtain⟨yp,yo,yf,yL,yM,yN⟩:=y;simp only[aN.base,aN.wi,aN.mk.injEq,and_true] at hbb;obtain⟨rfl,rfl,rfl⟩:=hbb;simp only at e0 f0 e1 f1 e2 f2 e3 f3 hrx xR;have hbz:=aB (aB bE.q (t #[p r xp,p r xo,H xf,j sa sn sc] 77)) (t #[p r xp,p r xo,H xf,j yL yM yN] 77);have Qy:=Rc sa yL sn sc yM yN sx sx _ (hrx.below hbz rfl) (xR.below hbz rfl);rw[bA rfl] at Qy;have HSQ:=u Qy;clear Qy;have FZ:Hid ((Bx ((wr.alloc (t #[p r xp,p r xo,H xf,j sa sn sc] 77)).alloc (t #[p r xp,p r xo,H xf,j yL yM yN] 77)) w.1.size #[ht.v,hs.v,ho.v,hp.v,j ea en ec,j da dZ dc,j (A ⟨b,o,B⟩) eD mc,j wa wn wc]/\Bx ((wr.alloc (t #[p r xp,p r xo,H xf,j sa sn sc] 77)).alloc (t #[p r xp,p r xo,H xf,j yL yM yN] 77)) (w.1.size+1) #[ht2.v,hs2.v,ho2.v,hp2.v,j Fz en DW,j GD dZ DX,j (A ⟨b2,o2,B⟩) eD DY,j FB wn DZ])):=u ⟨(gI.q.1.alloc _).alloc _,(gI.q.2.alloc _).alloc _⟩;have iO:=u hbz;have JK:Bx ((wr.alloc (t #[p r xp,p r xo,H xf,j sa sn sc] 77)).alloc (t #[p r xp,p r xo,H xf,j yL yM yN] 77)) wr.1.size #[p r xp,p r xo,H xf,j sa sn sc]:=(Bx.new wr #[p r xp,p r xo,H xf,j sa sn sc] 77).alloc _;have JL:Bx ((wr.alloc (t #[p r xp,p r xo,H xf,j sa sn sc] 77)).alloc (t #[p r xp,p r xo,H xf,j yL yM yN] 77)) (wr.1.size+1) #[p r xp,p r xo,H xf,j yL yM yN]:=Bx.new1 au;have hq:Bx (wr.alloc (t #[p r xp,p r xo,H xf,j sa sn sc] 77)) (w.1.size+1) #[ht2.v,hs2.v,ho2.v,hp2.v,j Fz en DW,j GD dZ DX,j (A ⟨b2,o2,B⟩) eD DY,j FB wn DZ]:=gI.q.2.alloc _;have g0:=yx (t #[p r xp,p r xo,H xf,j sa sn sc] 77) f0;have g1:=yx (t #[p r xp,p r xo,H xf,j sa sn sc] 77) f1;have g2:=yx (t #[p r xp,p r xo,H xf,j sa sn sc] 77) f2;have g3:=yx (t #[p r xp,p r xo,H xf,j sa sn sc] 77) f3;have hcp:=JK.1;have hlp:=JK.2.2;have hcq:=JL.1;have hlq:=JL.2.2;have hcr:=hq.1;have hlr:=hq.2.2;clear hrx xR hbz JK JL hq f0 f1 f2 f3;go_wp2_with fail;refine HSQ.q.mono ?_;rintro e w5 ⟨rfl,hb⟩;have Tc:=u (AL FZ.q hb);have rT:=u (iO.q.bO hb);clear hb hcp hlp hcq hlq hcr hlr e0 g0 e1 g1 e2 g2 e3 g3;go_wp2_with fail;go_roundw
       case rel=>exact⟨k+1,by omega,by go_num,rT.q,Tc.q⟩
       case measure=>simp[G];omega
      .obtain rfl:eD=k:=by omega
       have hcx:=gI.q.1.1;have hlx:=gI.q.1.2.2;have hcy:=gI.q.2.1;have yT:=gI.q.2.2.2;go_wp2_with fail;clear hcx hlx hcy yT
       go_loopw [169] (λi wr=>∃k:Nat,k<=wn/\i= p r k/\Below w.1.size w wr/\Bx wr w.1.size #[ht.v,hs.v,ho.v,hp.v,j ea en ec,j da dZ dc,j ma eD mc,j wa wn wc]/\Bx wr (w.1.size+1) #[ht2.v,hs2.v,ho2.v,hp2.v,j Fz en DW,j GD dZ DX,j GH eD DY,j FB wn DZ]) (λi _=>wn - (G i).toNat)
       case atStart=>exact⟨0,aV _,rfl,bE.q,gI.q.1,gI.q.2⟩
       case round=>
        obtain⟨k,hk,rfl,hbw,hxw⟩:=hrel;have bE:=u hbw;have gI:=u hxw;clear hbw hxw;by_cases hlt:k<wn
        .obtain⟨x,b,o,hx,rfl,hc⟩:=(HD.q.2.2.2.1.below bE.q rfl).at_ hlt
         obtain⟨y,b2,o2,hy,rfl,hd⟩:=(HD2.q.2.2.2.1.below bE.q rfl).at_ hlt;rw[hx] at hy;injection hy with hy;subst hy;have e0:=hc 0 _ rfl;have f0:=hd 0 _ rfl;have e1:=hc 1 _ rfl;have f1:=hd 1 _ rfl;simp only[bM] at e0 f0;have hew:=λW=>ag1 x x W
         simp only[bA] at hew;have wM:=u (⟨e0,e1,f0,f1⟩:_/\_/\_/\_);clear hx hc hd;obtain⟨xs,xb⟩:=x;go_wp2_with fail;clear e0 e1 f0 f1;refine aC 99 [(0,0),(1,0),(2,0),(3,0),(4,0),(5,0),(6,0),(7,0),(8,0),(9,0),(10,0)] (λ_=>True) (λW'=>(Bx W' w.1.size #[ht.v,hs.v,ho.v,hp.v,j ea en ec,j da dZ dc,j ma eD mc,j (A ⟨b,o,B⟩) wn wc]/\Bx W' (w.1.size+1) #[ht2.v,hs2.v,ho2.v,hp2.v,j Fz en DW,j GD dZ DX,j GH eD DY,j (A ⟨b2,o2,B⟩) wn DZ])/\W'.cell? ⟨b,o+k*2,B⟩=A (p r xs)/\W'.cell? ⟨b,o+k*2+1,B⟩=A (p r xb)/\W'.cell? ⟨b2,o2+k*2,B⟩=A (p r xs)/\W'.cell? ⟨b2,o2+k*2+1,B⟩=A (p r xb)) av av (trivial) (⟨gI.q,wM.q⟩) ?_;refine qC ?_;refine aJ ?_;go_wp2_with fail;go_roundw
         case rel=>exact⟨k+1,by omega,by go_num,bE.q.trans ((I _ _).drew.mono bE.q.size),gI.q.1.drew,gI.q.2.drew⟩
         case measure=>simp[G];omega
        .obtain rfl:wn=k:=by omega
         have hcx:=gI.q.1.1;have hlx:=gI.q.1.2.2;have hcy:=gI.q.2.1;have yT:=gI.q.2.2.2;go_wp2_with fail;go_ret;exact⟨rfl,bE.q⟩
end Yd
