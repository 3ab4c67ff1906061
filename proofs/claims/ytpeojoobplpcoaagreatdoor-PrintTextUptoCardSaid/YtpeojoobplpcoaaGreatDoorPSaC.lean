import Derived.Test.YtpeojoobplpcoaaGreatDoorPOf0
import Derived.Test.YtpeojoobplpcoaaGreatDoorPTxG
import Derived.Test.YtpeojoobplpcoaaGreatDoorPPtext
import Derived.Test.YtpeojoobplpcoaaGreatDoorPLaidK
set_option linter.all false
set_option maxRecDepth 200000
set_option maxHeartbeats 8000000
namespace Yd
open Classical renaming epsilon->E
open Option renaming none->p,some->D
open Go Go.RowKit Go.Proofs Go.Maps
open Go renaming World->A,Value->F
open Go.Value renaming slice->j
open _root_ renaming List->r,Nat->C
attribute [local go_sem] Oper.semAt_some
theorem fI {X:A}{b o o':C}{v u:F}(h:X.cell? ⟨b,o,p⟩=D v)(hne:o≠o'):(X.setCell ⟨b,o',p⟩ u).cell? ⟨b,o,p⟩=D v:=by
 rw[World.cell?_setCell_other _ _ _ _ (λe=>by cases e;exact hne rfl)];exact h
def wR (w:A)(B:C)(bg:r bE)(ls:r aH):Prop:=bg.length=ls.length/\∀(i:C)(l:bE),bg[i]?=D l->∃s,ls[i]?=D s/\gD w B l s
theorem wR.below {w w':A}{B:C}{bg:r bE}{ls:r aH}(h:wR w B bg ls)(hb:Below w.1.size w w'):wR w' B bg ls:=
 ⟨h.1,λi l hl=>let⟨s,h1,h2⟩:=h.2 i l hl;⟨s,h1,h2.below hb⟩⟩
theorem Rn {α:Type}{enc:α->r F}{k:C}{X:A}{B:C}{T:TypeId}{a:Option Addr}{n c:C}{xs:r α}(h:Own X B T k enc (j a n c) xs){b o:C}(e:a=D ⟨b,o,p⟩):b<X.1.size:=by
 rcases h.xX with⟨q,_⟩|⟨g,q,_⟩
 .rw[q] at e;cases e
 .have:=(h.lt g (by rw[q];rfl)).2
  rw[q] at e;injection e with e;injection e with e;omega
theorem gD.lnR {w:A}{B:C}{l:bE}{s:aH}(h:gD w B l s)(hn:s.names.length<=1000)(hv:s.aG.length<=1000){K:C}(hK:w.1.size<=K):xM w K l s:=
 ⟨h.1,h.2.1.row (hc:=ku) ah,h.2.2.row (hc:=X9) ah,λb o e=>by have:=Rn h.2.1 e;omega,λb o e=>by have:=Rn h.2.2 e;omega⟩
@[reducible] def vN:HC:=⟨⟨p,0,0⟩,⟨p,0,0⟩,⟨p,0,0⟩,⟨p,0,0⟩,⟨p,0,0⟩,⟨p,0,0⟩,⟨p,0,0⟩,⟨p,0,0⟩⟩
@[reducible] def DK (mb:C):Array F:=#[j p 0 0,j p 0 0,j p 0 0,j p 0 0,j p 0 0,j p 0 0,j p 0 0,j p 0 0,j p 0 0,j p 0 0,j p 0 0,j p 0 0,.map (D mb)]
structure EK (w:A):Prop where
 f:vB w
 l:kg w
theorem EK.below {w w':A}(h:EK w)(hb:Below w.1.size w w'):EK w':=⟨h.f.below hb,h.l.below hb⟩
theorem EK.add {w X:A}(h:EK w)(hb:Below w.1.size w X){B:C}(hB:w.1.size<=B):U0 B X:=λW hs=>h.f.below (hs.below hb (λi hi=>by omega) hb.size)
def akT (w:A)(ls:r aH)(e:Ending)(X:A):Prop:=
 Below w.1.size w X/\
 match sU eO 0 ls with
 | .ok z=>∃h es ds ms,∃scan:EvC->r Sn,∃dn:aM->r Int,∃mn:aN->r Int,e= .returned (.tuple #[bG h,.int .i64 (ls.length:Int),.int .i64 0])/\gZ X w.1.size h (cO z) es ds ms scan dn mn
 | .error (i,n)=>e= .returned (.tuple #[bG vN,.int .i64 (i:Int),.int .i64 n])
theorem jE.start (W:A)(mb:C)(B:C)(hm:kU W mb [])(hB:B<=mb)(hB2:B<=W.1.size):jE B (W.alloc (.cells (DK mb) 123)) W.1.size (DK mb) eO [] [] []:=by
 have nil:∀{α:Type}{enc:α->r F}{k:C}{T:TypeId},Own (W.alloc (.cells (DK mb) 123)) (W.1.size+1) T k enc (j p 0 0) []:=Own.jY _ _ _ _ _;refine⟨⟨⟨Bx.new W _ _,λk hk=>⟨j p 0 0,?_,nil⟩,λk hk=>⟨⟨λx hx=>(by cases hx),tY,aZ _⟩,aZ _⟩⟩,⟨_,rfl,nil⟩,⟨_,rfl,nil⟩,⟨_,rfl,nil⟩,⟨_,rfl,nil⟩,rfl,rfl,rfl,⟨rfl,λi x L hx=>(by cases hx)⟩,⟨rfl,λi x L hx=>(by cases hx)⟩,⟨rfl,λi x L hx=>(by cases hx)⟩⟩,⟨mb,rfl,hm.of_eq (Below.heap_alloc _ _ _ (by have:=hm.lt;omega)),hB⟩,hB2⟩;rcases(by omega:k=0\/k=1\/k=2\/k=3) with rfl|rfl|rfl|rfl <;> rfl
theorem Cc.his {X Y:A}{R:C}{cs:Array F}{c:Cont}{es:r EvC}{ds:r aM}{ms:r aN}(h:Cc X R cs c es ds ms)(z:Ml c)(hs:Same (λi=>i≠R) X Y):
  ∃h':HC,∃scan:EvC->r Sn,∃dn:aM->r Int,∃mn:aN->r Int,(∀k,k<4->cs[8+k]?=D (h'.nm k).v)/\cs[4]?=D h'.e.v/\cs[5]?=D h'.d.v/\cs[6]?=D h'.m.v/\cs[7]?=D h'.w.v/\gZ Y (R+1) h' c es ds ms scan dn mn:=by
 have sl:∀{α:Type}{enc:α->r F}{k:C}{T:TypeId}{v:F}{L:r α},Own X (R+1) T k enc v L->∃s:Sl,v= j s.a s.n s.c/\Own Y (R+1) T k enc (j s.a s.n s.c) L:=λho=>by
  obtain⟨a,c,q,_⟩:=ho.shape;exact⟨⟨a,_,c⟩,q,by rw[<-q];exact ho.iY hs⟩
 obtain⟨v4,c4,o4⟩:=h.e;obtain⟨s4,rfl,y4⟩:=sl o4;obtain⟨v5,c5,o5⟩:=h.d;obtain⟨s5,rfl,y5⟩:=sl o5;obtain⟨v6,c6,o6⟩:=h.m;obtain⟨s6,rfl,y6⟩:=sl o6;obtain⟨v7,c7,o7⟩:=h.q;obtain⟨s7,rfl,y7⟩:=sl o7;obtain⟨u0,d0,p0⟩:=h.t.t 0 ah;obtain⟨t0,rfl,z0⟩:=sl p0;obtain⟨u1,d1,p1⟩:=h.t.t 1 ah;obtain⟨t1,rfl,z1⟩:=sl p1;obtain⟨u2,d2,p2⟩:=h.t.t 2 ah;obtain⟨t2,rfl,z2⟩:=sl p2;obtain⟨u3,d3,p3⟩:=h.t.t 3 ah;obtain⟨t3,rfl,z3⟩:=sl p3;have ow:∀{α β:Type}{T:TypeId}{ek:C}{enc:β->r F}[hc:Cells enc ek]{a:α->Option Addr}{n q:α->C}{xs:r α}{Ls:r (r β)},(∀x y,enc x=enc y->x=y)->CZ X R T ek enc (λx=> j (a x) (n x) (q x)) xs Ls->(∀L∈Ls,L.length<=2000000)->
   ∃f:α->r β,(∀x∈xs,Own Y (R+1) T ek enc (j (a x) (n x) (q x)) (f x))/\xs.map f=Ls:=fun {α β T ek enc hc a n q xs Ls} hinj ho hl=>by
  have key:∀i x,xs[i]?=D x->∃L,Ls[i]?=D L/\Own Y (R+1) T ek enc (j (a x) (n x) (q x)) L/\E (λL=>Row Y ek enc (a x) (n x) (q x) L)=L:=λi x hx=>by
   have hi:i<Ls.length:=by rw[<-ho.1];exact(bO.1 hx).1
   have o:=(ho.2 i x Ls[i] hx (fK hi)).iY hs;have hlen:=hl _ (List.getElem_mem hi);exact⟨_,fK hi,o,Dq (hc:=hc) hinj (o.row (hc:=hc) ah)⟩
  refine⟨λx=>E (λL=>Row Y ek enc (a x) (n x) (q x) L),λx hx=>?_,Ce (λi=>?_)⟩
  .obtain⟨i,hi⟩:=zi.1 hx
   obtain⟨L,_,o,e⟩:=key i x hi;show Own Y (R+1) T ek enc (j (a x) (n x) (q x)) (E (λL=>Row Y ek enc (a x) (n x) (q x) L));rw[e];exact o
  .rw[ug]
   cases hx:xs[i]? with
   |none=>rw[Option.map_none,xY (by rw[<-ho.1];exact List.getElem?_eq_none_iff.1 hx)]
   |some x=>
    obtain⟨L,h1,_,e⟩:=key i x hx;rw[Option.map_some,e,h1]
 obtain⟨f1,a1,b1⟩:=ow (hc:=pJ) (a:=EvC.sa) (n:=EvC.sn) (q:=EvC.sc) Ka h.se z.se;obtain⟨f2,a2,b2⟩:=ow (hc:=iP) (a:=aM.sa) (n:=aM.sn) (q:=aM.sc) xw h.sd z.sd;obtain⟨f3,a3,b3⟩:=ow (hc:=iP) (a:=aN.sa) (n:=aN.sn) (q:=aN.sc) xw h.sm z.sm;refine⟨⟨t0,t1,t2,t3,s4,s5,s6,s7⟩,f1,f2,f3,λk hk=>?_,c4,c5,c6,c7,⟨y4,y5,y6,y7,λk hk=>?_,a1,a2,a3,h.be,h.bd,h.bm,b1,b2,b3⟩⟩
 .rcases(by omega:k=0\/k=1\/k=2\/k=3) with rfl|rfl|rfl|rfl
  .exact d0
  .exact d1
  .exact d2
  .exact d3
 .rcases(by omega:k=0\/k=1\/k=2\/k=3) with rfl|rfl|rfl|rfl
  .exact z0
  .exact z1
  .exact z2
  .exact z3
end Yd
namespace Yd
open Go Go.RowKit Go.Proofs
theorem ajY (F:Int->List Int)(v:lK):(lS F v).k=v.k:=by
 unfold lS
 split
 .rfl
 .rfl
theorem alf (F:Int->List Int){e:EvC}(h:e.kind=2):(eT F e).v.k=e.v.k:=by
 unfold eT;simp only[h,true_or,bY];exact ajY _ _
theorem zu {c:Cont}(h:gK c)(hf:aJ c):aJ (cO c):=by
 refine⟨λi hi=>?_,?_,?_,?_,?_,λe he hk=>?_⟩
 .show((cu (aY c) (i:Int)).map (aK (c.nl i))).length<=mD i
  rw[bH];refine bX (Kq (FD _ _) (λx hx=>?_)) (hf.1 i hi);obtain⟨s',h1,h2,h3⟩:=zh h _ (Ll _ hx);simp only at h2 h3;have:i=s':=by omega
  rw[this];exact h3
 .show(c.E.map _).length<=3000;rw[bH];exact hf.2.1
 .show(c.D.map _).length<=3000;rw[bH];exact hf.2.2.1
 .show(c.M.map _).length<=3000;rw[bH];exact hf.2.2.2.1
 .show(c.Q.map _).length<=3000;rw[bH];exact hf.2.2.2.2.1
 .obtain⟨x,hx,rfl⟩:=dI.1 (show e∈c.E.map (eT (cu (aY c))) from he)
  have hk':x.kind=2:=hk;rw[alf _ hk'];exact hf.2.2.2.2.2 x hx hk'
theorem YU {ls:List aH}{z:Cont}(h:sU eO 0 ls= .ok z):Ml (cO z):=by
 obtain⟨h1,_,_,h4,_⟩:=zO h;exact(gK.number h1).Kr (zu h1 h4)
theorem same_iff {X X':World}{B B':Nat}{h h':HC}{c c':Cont}{es es':List EvC}{ds ds':List aM}{ms ms':List aN}{scan mG:EvC->List Sn}{dn nY:aM->List Int}{mn uq:aN->List Int}
  (o:gZ X B h c es ds ms scan dn mn) (o':gZ X' B' h' c' es' ds' ms' mG nY uq):KX c.nl c'.nl es es' ds ds' ms ms' c.Q c'.Q scan mG dn nY mn uq↔qR c c':=by
 have key:∀{α β γ:Type}{f:α->β}{g g':α->γ}{l l':List α},l.map (λx=>(f x,g x))=l'.map (λx=>(f x,g' x))↔(l.map f=l'.map f/\l.map g=l'.map g'):=fun {α β γ f g g' l l'}=>by
  constructor
  .intro e
   have h1:=bU (List.map Prod.fst) e;have h2:=bU (List.map Prod.snd) e;rw[iV,iV] at h1 h2;exact⟨h1,h2⟩
  .rintro⟨e1,e2⟩
   rw[<-qE,<-qE,e1,e2]
 unfold KX;rw[key,key,key,o.be,o.bd,o.bm,o.ss,o.ts,o.us,o'.be,o'.bd,o'.bm,o'.ss,o'.ts,o'.us];exact⟨λ⟨h1,⟨h2,h3⟩,⟨h4,h5⟩,h6,h7,h8⟩=>⟨h1,h7,h8,h2,h3,h4,h5,h6⟩,λs=>⟨s.n,⟨s.D,s.SD⟩,⟨s.M,s.SM⟩,s.Q,s.E,s.SE⟩⟩
theorem JM {X:World}{B B':Nat}{h h':HC}{c c':Cont}{es es':List EvC}{ds ds':List aM}{ms ms':List aN}{scan mG:EvC->List Sn}{dn nY:aM->List Int}{mn uq:aN->List Int}
  (o:gZ X B h c es ds ms scan dn mn) (o':gZ X B' h' c' es' ds' ms' mG nY uq) (z:Ml c) (z':Ml c'):Calls Tryz.prog 8 #[bG h,bG h'] X (λe W=>∃b:Bool,e= .returned (.bool b)/\(b=true↔qR c c')/\Below X.1.size X W):=by
 refine(QK X (o.deep z) (o'.deep z') (o.names z) (o'.names z')).mono ?_;rintro e W ⟨b,rfl,hb,hw⟩;exact⟨b,rfl,hb.trans (same_iff o o'),hw⟩
end Yd
