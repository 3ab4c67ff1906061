import Derived.Test.YtpeojoobplpcoaaGreatDoorPLawSt
import Derived.Test.YtpeojoobplpcoaaGreatDoorPMp
import Derived.DeepKeys4
import Derived.Test.YtpeojoobplpcoaaGreatDoorPSpE
set_option linter.all false
set_option maxRecDepth 200000
set_option maxHeartbeats 8000000
namespace Yd
open Bool renaming true->Z
open Option renaming some->S
open Go Go.RowKit Go.Proofs Tryz
open Go renaming Value->V
open Go.IntKind renaming i64->O
open Go.Obj renaming cells->I
open Go.Value renaming int->J
open Yd renaming hid->U
open _root_ renaming List->u,Nat->C,Int->H
def Cont.put (c:Cont)(i:C)(s:Bs):Cont:={c with nl:=λj=>if j=i then dL (c.nl i) s else c.nl j}
def Cont.no (c:Cont)(i:C)(s:Bs):H:=(sN (c.nl i) s:H)
def Cont.dz (c:Cont)(v:To):Cont × lK:=if v.k=0 then(c,⟨0,0⟩) else(c.put 0 v.name,⟨c.no 0 v.name,v.k⟩)
def Cont.ts (c:Cont):u Bs->Cont × u H
 |[]=>(c,[])
 |s::r=>(((c.put 0 s).ts r).1,c.no 0 s::((c.put 0 s).ts r).2)
def Cont.sc (c:Cont):u (Bs × To)->Cont × u Sn
 |[]=>(c,[])
 |p::r=>((((c.put 2 p.1).dz p.2).1.sc r).1,⟨c.no 2 p.1,((c.put 2 p.1).dz p.2).2⟩::(((c.put 2 p.1).dz p.2).1.sc r).2)
@[reducible] def EX:EvC:=⟨0,0,0,0,0,⟨0,0⟩,0,none,0,0⟩
def Cont.ev (c:Cont)(e:EvC)(s:u Sn):Cont:={c with E:=c.E++[e],SE:=c.SE++[s]}
def iC (E:u EvC)(t x:H):C:=E.countP (λe=>e.kind==2 && (e.t==t && e.obj==x))
def aR (c:Cont)(l:aH):Cont:=
 let n0:=l.names.getD 0 []
 let n1:=l.names.getD 1 []
 if l.kind=1 then((c.put 0 n0).put 1 n1).ev {EX with kind:=1,t:=c.no 0 n0,bW:=(c.put 0 n0).no 1 n1,lvl:=l.lvl} []
 else if l.kind=2 then((c.put 0 n0).put 2 n1).ev {EX with kind:=2,t:=c.no 0 n0,obj:=(c.put 0 n0).no 2 n1,v:=⟨c.no 0 n0,(iC c.E (c.no 0 n0) ((c.put 0 n0).no 2 n1):H)+1⟩} []
 else if l.kind=3 then(((c.put 0 n0).put 2 n1).dz (l.aG.getD 0 ⟨[],0⟩)).1.ev {EX with kind:=3,t:=c.no 0 n0,obj:=(c.put 0 n0).no 2 n1,v:=(((c.put 0 n0).put 2 n1).dz (l.aG.getD 0 ⟨[],0⟩)).2} []
 else if l.kind=4 then(((c.put 0 n0).put 3 n1).sc ((l.names.drop 2).zip l.aG)).1.ev {EX with kind:=4,t:=c.no 0 n0,pred:=(c.put 0 n0).no 3 n1} (((c.put 0 n0).put 3 n1).sc ((l.names.drop 2).zip l.aG)).2
 else if l.kind=5\/l.kind=6 then(c.put 0 n0).ev {EX with kind:=l.kind,t:=c.no 0 n0} []
 else if l.kind=7 then {((c.put 2 n0).ts (l.names.drop 1)).1 with D:=c.D++[⟨c.no 2 n0,none,0,0⟩],SD:=c.SD++[((c.put 2 n0).ts (l.names.drop 1)).2]}
 else if l.kind=8 then {(((c.put 3 n0).put 2 n1).ts (l.names.drop 2)).1 with M:=c.M++[⟨c.no 3 n0,(c.put 3 n0).no 2 n1,l.first,none,0,0⟩],SM:=c.SM++[(((c.put 3 n0).put 2 n1).ts (l.names.drop 2)).2]}
 else if l.kind=9 then {c.put 1 n0 with Q:=c.Q++[⟨c.no 1 n0,l.bits⟩]}
 else c
def aJ (c:Cont):Prop:=(∀i,i<4->(c.nl i).length<=mD i)/\c.E.length<=3000/\c.D.length<=3000/\c.M.length<=3000/\c.Q.length<=3000/\∀e∈c.E,e.kind=2->e.v.k<=999
structure Gr (c z:Cont):Prop where
 n:∀i,c.nl i<+:z.nl i
 e:c.E<+:z.E
 d:c.D<+:z.D
 m:c.M<+:z.M
 q:c.Q<+:z.Q
theorem Gr.refl (c:Cont):Gr c c:=⟨λ_=>gU _,gU _,gU _,gU _,gU _⟩
theorem Gr.trans {a b c:Cont}(h:Gr a b)(k:Gr b c):Gr a c:=⟨λi=>(h.n i).trans (k.n i),h.e.trans k.e,h.d.trans k.d,h.m.trans k.m,h.q.trans k.q⟩
theorem Gr.fits {c d:Cont}(h:Gr c d)(k:aJ d):aJ c:=
 ⟨λi hi=>bX (h.n i).length_le (k.1 i hi),bX h.e.length_le k.2.1,bX h.d.length_le k.2.2.1,bX h.m.length_le k.2.2.2.1,bX h.q.length_le k.2.2.2.2.1,λe he=>k.2.2.2.2.2 e (h.e.subset he)⟩
theorem Gr.put (c:Cont)(i:C)(s:Bs):Gr c (c.put i s):=
 ⟨λj=>by
  show c.nl j<+:(if j=i then dL (c.nl i) s else c.nl j)
  split
  .rename_i h;subst h;exact Ji _ _
  .exact gU _,gU _,gU _,gU _,gU _⟩
theorem Gr.dz (c:Cont)(v:To):Gr c (c.dz v).1:=by
 unfold Cont.dz
 split
 .exact Gr.refl c
 .exact Gr.put c 0 v.name
theorem Gr.ts:∀(l:u Bs)(c:Cont),Gr c (c.ts l).1
 |[],c=>Gr.refl c
 |s::r,c=>(Gr.put c 0 s).trans (Gr.ts r _)
theorem Gr.sc:∀(l:u (Bs × To))(c:Cont),Gr c (c.sc l).1
 |[],c=>Gr.refl c
 |p::r,c=>((Gr.put c 2 p.1).trans (Gr.dz _ p.2)).trans (Gr.sc r _)
theorem Gr.ev (c:Cont)(e:EvC)(s:u Sn):Gr c (c.ev e s):=⟨λ_=>gU _,eG _ _,gU _,gU _,gU _⟩
structure Nm (c z:Cont):Prop where
 e:z.E=c.E
 se:z.SE=c.SE
 d:z.D=c.D
 sd:z.SD=c.SD
 m:z.M=c.M
 sm:z.SM=c.SM
 q:z.Q=c.Q
theorem Nm.refl (c:Cont):Nm c c:=⟨rfl,rfl,rfl,rfl,rfl,rfl,rfl⟩
theorem Nm.trans {a b c:Cont}(h:Nm a b)(k:Nm b c):Nm a c:=⟨k.e.trans h.e,k.se.trans h.se,k.d.trans h.d,k.sd.trans h.sd,k.m.trans h.m,k.sm.trans h.sm,k.q.trans h.q⟩
theorem Nm.put (c:Cont)(i:C)(s:Bs):Nm c (c.put i s):=⟨rfl,rfl,rfl,rfl,rfl,rfl,rfl⟩
theorem Nm.dz (c:Cont)(v:To):Nm c (c.dz v).1:=by
 unfold Cont.dz
 split
 .exact Nm.refl c
 .exact Nm.put c 0 v.name
theorem Nm.ts:∀(l:u Bs)(c:Cont),Nm c (c.ts l).1
 |[],c=>Nm.refl c
 |s::r,c=>(Nm.put c 0 s).trans (Nm.ts r _)
theorem Nm.sc:∀(l:u (Bs × To))(c:Cont),Nm c (c.sc l).1
 |[],c=>Nm.refl c
 |p::r,c=>((Nm.put c 2 p.1).trans (Nm.dz _ p.2)).trans (Nm.sc r _)
theorem Gr.add (c:Cont)(l:aH):Gr c (aR c l):=by
 unfold aR;simp only[]
 split
 .exact((Gr.put c 0 _).trans (Gr.put _ 1 _)).trans (Gr.ev _ _ _)
 .split
  .exact((Gr.put c 0 _).trans (Gr.put _ 2 _)).trans (Gr.ev _ _ _)
  .split
   .exact(((Gr.put c 0 _).trans (Gr.put _ 2 _)).trans (Gr.dz _ _)).trans (Gr.ev _ _ _)
   .split
    .exact(((Gr.put c 0 _).trans (Gr.put _ 3 _)).trans (Gr.sc _ _)).trans (Gr.ev _ _ _)
    .split
     .exact(Gr.put c 0 _).trans (Gr.ev _ _ _)
     .split
      .have h:=(Gr.put c 2 (l.names.getD 0 [])).trans (Gr.ts (l.names.drop 1) _)
       exact⟨h.n,h.e,eG _ _,h.m,h.q⟩
      .split
       .have h:=((Gr.put c 3 (l.names.getD 0 [])).trans (Gr.put _ 2 (l.names.getD 1 []))).trans (Gr.ts (l.names.drop 2) _)
        exact⟨h.n,h.e,h.d,eG _ _,h.q⟩
       .split
        .have h:=Gr.put c 1 (l.names.getD 0 [])
         exact⟨h.n,h.e,h.d,h.m,eG _ _⟩
        .exact Gr.refl c
def eO:Cont:=⟨λ_=>[],[],[],[],[],[],[],[]⟩
theorem dH {n:H}{a b:C}(h:aV n a=Z)(hab:a<=b):aV n b=Z:=by
 simp only[aV,aO,aW] at h ⊢;omega
theorem Cr {v:lK}{a b:C}(h:gI v a=Z)(hab:a<=b):gI v b=Z:=by
 unfold gI at h ⊢
 split
 .rename_i h0;rw[av h0] at h;exact h
 .rename_i h0
  rw[au h0] at h;simp only[aO] at h ⊢;exact⟨⟨dH h.1.1 hab,h.1.2⟩,h.2⟩
theorem U4 {s:Sn}{a b c d:C}(h:jW a c s=Z)(hab:a<=b)(hcd:c<=d):jW b d s=Z:=by
 simp only[jW,aO] at h ⊢;exact⟨dH h.1 hcd,Cr h.2 hab⟩
theorem XT {e:EvC}{l:u Sn}{a b c d a' b' c' d':C}(h:hasB a b c d e l=Z)(ha:a<=a')(hb:b<=b')(hc:c<=c')(hd:d<=d'):hasB a' b' c' d' e l=Z:=by
 unfold hasB at h ⊢
 split
 .rename_i k;rw[av k] at h
  simp only[aO] at h ⊢;exact⟨dH h.1 hb,h.2⟩
 .rename_i k1;rw[au k1] at h
  split
  .rename_i k;rw[av k] at h
   simp only[aO] at h ⊢;exact⟨⟨⟨dH h.1.1.1 hc,Cr h.1.1.2 ha⟩,h.1.2⟩,h.2⟩
  .rename_i k2;rw[au k2] at h
   split
   .rename_i k;rw[av k] at h
    simp only[aO] at h ⊢;exact⟨dH h.1 hc,Cr h.2 ha⟩
   .rename_i k3;rw[au k3] at h
    split
    .rename_i k;rw[av k] at h
     simp only[aO,fA] at h ⊢;exact⟨⟨dH h.1.1 hd,h.1.2⟩,λs hs=>U4 (h.2 s hs) ha hc⟩
    .rfl
theorem aaQ {e:EvC}{l:u Sn}{a b c d a' b' c' d':C}(h:gL a b c d e l=Z)(ha:a<=a')(hb:b<=b')(hc:c<=c')(hd:d<=d'):gL a' b' c' d' e l=Z:=by
 unfold gL at h ⊢;simp only[aO] at h ⊢;exact⟨⟨⟨h.1.1.1,dH h.1.1.2 ha⟩,XT h.1.2 ha hb hc hd⟩,h.2⟩
def l9 (c:Cont):Prop:=∀i,(c.nl i).Nodup/\∀s∈c.nl i,bF ⟨s.toArray⟩=Z
theorem l9.put {c:Cont}(h:l9 c)(i:C){s:Bs}(hs:bF ⟨s.toArray⟩=Z):l9 (c.put i s):=λj=>by
 show(if j=i then dL (c.nl i) s else c.nl j).Nodup/\∀x∈(if j=i then dL (c.nl i) s else c.nl j),bF ⟨x.toArray⟩=Z
 split
 .refine⟨Eh (h i).1,λx hx=>?_⟩
  unfold dL at hx
  split at hx
  .exact(h i).2 x hx
  .rcases dm.1 hx with hx|hx
   .exact(h i).2 x hx
   .rw[bT.1 hx];exact hs
 .exact h j
theorem l9.dz {c:Cont}(h:l9 c){v:To}(hv:j5 v):l9 (c.dz v).1:=by
 unfold Cont.dz;rcases hv with rfl|⟨hw,h0,_⟩
 .rw[av rfl];exact h
 .rw[au ah];exact h.put 0 hw
theorem l9.ts:∀(l:u Bs){c:Cont},l9 c->(∀s∈l,bF ⟨s.toArray⟩=Z)->l9 (c.ts l).1
 |[],_,h,_=>h
 |s::r,_,h,hl=>l9.ts r (h.put 0 (hl s fM)) (λx hx=>hl x (eD _ hx))
theorem l9.sc:∀(l:u (Bs × To)){c:Cont},l9 c->(∀p∈l,bF ⟨p.1.toArray⟩=Z/\j5 p.2)->l9 (c.sc l).1
 |[],_,h,_=>h
 |p::r,_,h,hl=>l9.sc r ((h.put 2 (hl p fM).1).dz (hl p fM).2) (λx hx=>hl x (eD _ hx))
theorem iA (c:Cont)(i:C)(s:Bs):aV (c.no i s) ((c.put i s).nl i).length=Z:=by
 have h:=WQ (c.nl i) s;have e:(c.put i s).nl i=dL (c.nl i) s:=av rfl;rw[e];have h2:(0:H)<=(sN (c.nl i) s:H):=D6 _;have h3:(sN (c.nl i) s:H)<((dL (c.nl i) s).length:H):=Int.ofNat_lt.2 h;unfold aV Cont.no;exact Bool.and_eq_true_iff.2 ⟨bN h2,bN h3⟩
theorem Gr.len {c d:Cont}(h:Gr c d)(i:C):(c.nl i).length<=(d.nl i).length:=(h.n i).length_le
theorem Ti (c:Cont){v:To}(hv:j5 v):gI (c.dz v).2 ((c.dz v).1.nl 0).length=Z:=by
 unfold Cont.dz;rcases hv with rfl|⟨_,h0,h9⟩
 .rw[av rfl];rfl
 .rw[au ah]
  unfold gI;rw[au (by simp only[];omega)];simp only[iA,bN h0,bN h9,Bool.and_self]
theorem U5:∀(l:u Bs)(c:Cont),(∀x∈(c.ts l).2,aV x ((c.ts l).1.nl 0).length=Z)/\(c.ts l).2.length=l.length
 |[],_=>⟨λx hx=>(by cases hx),rfl⟩
 |s::r,c=>by
  obtain⟨h1,h2⟩:=U5 r (c.put 0 s);refine⟨λx hx=>?_,?_⟩
  .rcases dU.1 hx with rfl|hx
   .exact dH (iA c 0 s) ((Gr.ts r (c.put 0 s)).len 0)
   .exact h1 x hx
  .show(_::_).length=_
   rw[dO,h2];rfl
theorem adt:∀(l:u (Bs × To))(c:Cont),(∀p∈l,j5 p.2)->(∀x∈(c.sc l).2,jW ((c.sc l).1.nl 0).length ((c.sc l).1.nl 2).length x=Z)/\(c.sc l).2.length=l.length
 |[],_,_=>⟨λx hx=>(by cases hx),rfl⟩
 |p::r,c,hl=>by
  have hp:=hl p fM;obtain⟨h1,h2⟩:=adt r ((c.put 2 p.1).dz p.2).1 (λx hx=>hl x (eD _ hx));have hg:=Gr.sc r ((c.put 2 p.1).dz p.2).1;refine⟨λx hx=>?_,?_⟩
  .rcases dU.1 hx with rfl|hx
   .show jW (((c.put 2 p.1).dz p.2).1.sc r|>.1.nl 0).length (((c.put 2 p.1).dz p.2).1.sc r|>.1.nl 2).length ⟨c.no 2 p.1,((c.put 2 p.1).dz p.2).2⟩=Z
    simp only[jW,aO];exact⟨dH (iA c 2 p.1) (((Gr.dz (c.put 2 p.1) p.2).trans hg).len 2),Cr (Ti (c.put 2 p.1) hp) (hg.len 0)⟩
   .exact h1 x hx
  .show(_::_).length=_
   rw[dO,h2];rfl
structure gK (c:Cont):Prop where
 nm:l9 c
 le:c.E.length=c.SE.length
 ld:c.D.length=c.SD.length
 lm:c.M.length=c.SM.length
 ev:∀p∈c.E.zip c.SE,gL (c.nl 0).length (c.nl 1).length (c.nl 2).length (c.nl 3).length p.1 p.2=Z
 od:∀p∈c.D.zip c.SD,aV p.1.obj (c.nl 2).length=Z/\eZ (c.nl 0).length p.2=Z
 ma:∀p∈c.M.zip c.SM,aV p.1.pred (c.nl 3).length=Z/\aV p.1.obj (c.nl 2).length=Z/\eZ (c.nl 0).length p.2=Z
 wa:∀x∈c.Q,aV x.bW (c.nl 1).length=Z/\0<=x.bits/\x.bits<=15
theorem Ir {a b:C}{l:u H}(h:eZ a l=Z)(hab:a<=b):eZ b l=Z:=by
 simp only[eZ,aO,fA] at h ⊢;exact⟨h.1,λx hx=>dH (h.2 x hx) hab⟩
theorem gK.zero:gK eO:=⟨λ_=>⟨tY,λs hs=>(by cases hs)⟩,rfl,rfl,rfl,λp hp=>(by cases hp),λp hp=>(by cases hp),λp hp=>(by cases hp),λp hp=>(by cases hp)⟩
theorem gK.grow {c d:Cont}(h:gK c)(g:Gr c d)(n:Nm c d)(k:l9 d):gK d:=by
 refine⟨k,by rw[n.e,n.se];exact h.le,by rw[n.d,n.sd];exact h.ld,by rw[n.m,n.sm];exact h.lm,λp hp=>?_,λp hp=>?_,λp hp=>?_,λx hx=>?_⟩
 .rw[n.e,n.se] at hp
  exact aaQ (h.ev p hp) (g.len 0) (g.len 1) (g.len 2) (g.len 3)
 .rw[n.d,n.sd] at hp
  have:=h.od p hp;exact⟨dH this.1 (g.len 2),Ir this.2 (g.len 0)⟩
 .rw[n.m,n.sm] at hp
  have:=h.ma p hp;exact⟨dH this.1 (g.len 3),dH this.2.1 (g.len 2),Ir this.2.2 (g.len 0)⟩
 .rw[n.q] at hx
  have:=h.wa x hx;exact⟨dH this.1 (g.len 1),this.2⟩
theorem yK {α β:Type}{a:u α}{b:u β}(h:a.length=b.length)(x:α)(y:β):(a++[x]).zip (b++[y])=a.zip b++[(x,y)]:=by
 rw[List.zip_append h];rfl
theorem gK.eT {c:Cont}(h:gK c)(e:EvC)(sn:u Sn)(he:gL (c.nl 0).length (c.nl 1).length (c.nl 2).length (c.nl 3).length e sn=Z):gK (c.ev e sn):=by
 refine⟨h.nm,?_,h.ld,h.lm,λp hp=>?_,h.od,h.ma,h.wa⟩
 .show(c.E++[e]).length=(c.SE++[sn]).length
  rw[bL,bL,h.le];rfl
 .have hp':p∈(c.E++[e]).zip (c.SE++[sn]):=hp
  rw[yK h.le] at hp';rcases dm.1 hp' with hp'|hp'
  .exact h.ev p hp'
  .rw[bT.1 hp'];exact he
theorem gK.odA {c:Cont}(h:gK c)(x:aM)(ts:u H)(hx:aV x.obj (c.nl 2).length=Z/\eZ (c.nl 0).length ts=Z):gK {c with D:=c.D++[x],SD:=c.SD++[ts]}:=by
 refine⟨h.nm,h.le,?_,h.lm,h.ev,λp hp=>?_,h.ma,h.wa⟩
 .show(c.D++[x]).length=(c.SD++[ts]).length
  rw[bL,bL,h.ld];rfl
 .have hp':p∈(c.D++[x]).zip (c.SD++[ts]):=hp
  rw[yK h.ld] at hp';rcases dm.1 hp' with hp'|hp'
  .exact h.od p hp'
  .rw[bT.1 hp'];exact hx
theorem gK.maA {c:Cont}(h:gK c)(x:aN)(ts:u H)(hx:aV x.pred (c.nl 3).length=Z/\aV x.obj (c.nl 2).length=Z/\eZ (c.nl 0).length ts=Z):gK {c with M:=c.M++[x],SM:=c.SM++[ts]}:=by
 refine⟨h.nm,h.le,h.ld,?_,h.ev,h.od,λp hp=>?_,h.wa⟩
 .show(c.M++[x]).length=(c.SM++[ts]).length
  rw[bL,bL,h.lm];rfl
 .have hp':p∈(c.M++[x]).zip (c.SM++[ts]):=hp
  rw[yK h.lm] at hp';rcases dm.1 hp' with hp'|hp'
  .exact h.ma p hp'
  .rw[bT.1 hp'];exact hx
theorem gK.waA {c:Cont}(h:gK c)(x:Wa)(hx:aV x.bW (c.nl 1).length=Z/\0<=x.bits/\x.bits<=15):gK {c with Q:=c.Q++[x]}:=by
 refine⟨h.nm,h.le,h.ld,h.lm,h.ev,h.od,h.ma,λy hy=>?_⟩;rcases dm.1 hy with hy|hy
 .exact h.wa y hy
 .rw[bT.1 hy];exact hx
theorem Dr {l:u Bs}(h:l.length=2):∃a b,l=[a,b]:=by
 match l,h with
 |[a,b],_=>exact⟨a,b,rfl⟩
theorem zM {α:Type}{l:u α}(h:l.length=1):∃a,l=[a]:=by
 match l,h with
 |[a],_=>exact⟨a,rfl⟩
theorem gK.add {c:Cont}(h:gK c){l:aH}(hl:dW l)(hf:aJ (aR c l)):gK (aR c l):=by
 obtain⟨kd,ns,lv,vs,fi,bt⟩:=l;obtain⟨hw,hv,hc⟩:=hl;simp only at hw hv hc;rcases hc with⟨rfl,h1,h2,⟨lw,rfl,h3,h4⟩,h5,h6⟩|⟨rfl,h1,h2,h3,h4,h5⟩|⟨rfl,h1,h2,h3,h4,h5⟩|⟨rfl,⟨cc,h1,h2,h2'⟩,_,h3,h4,h5⟩|⟨rfl,h1,h2,h3,h4,h5⟩|⟨rfl,h1,h2,h3,h4,h5⟩|⟨rfl,⟨cc,h1,h2'⟩,h2,h3,h4,h5⟩|⟨rfl,⟨cc,h1,h2'⟩,h2,h3,_,h5⟩|⟨rfl,h1,h2,h3,h4,⟨bb,rfl,h5⟩⟩
 .obtain⟨a,b,rfl⟩:=Dr h1
  have g:=(Gr.put c 0 a).trans (Gr.put (c.put 0 a) 1 b);have k:=(h.nm.put 0 (hw a ak)).put 1 (hw b ak);refine(h.grow g ((Nm.put c 0 a).trans (Nm.put _ 1 b)) k).eT _ _ ?_;have t1:=dH (iA c 0 a) ((Gr.put (c.put 0 a) 1 b).len 0);have t2:=iA (c.put 0 a) 1 b;simp[gL,hasB,gV,fP,t1,t2];omega
 .obtain⟨a,b,rfl⟩:=Dr h1
  have g:=(Gr.put c 0 a).trans (Gr.put (c.put 0 a) 2 b);have k:=(h.nm.put 0 (hw a ak)).put 2 (hw b ak);refine(h.grow g ((Nm.put c 0 a).trans (Nm.put _ 2 b)) k).eT _ _ ?_;have t1:=dH (iA c 0 a) ((Gr.put (c.put 0 a) 2 b).len 0);have t2:=iA (c.put 0 a) 2 b;have hk:((iC c.E (c.no 0 a) ((c.put 0 a).no 2 b):H)+1)<=999:=hf.2.2.2.2.2 _ (jK _ fM) rfl;have hk0:¬((iC c.E (c.no 0 a) ((c.put 0 a).no 2 b):H)+1)=0:=by omega
  have hk1:0<((iC c.E (c.no 0 a) ((c.put 0 a).no 2 b):H)+1):=by omega
  simp[gL,hasB,gV,gI,t1,t2,hk,hk0,hk1]
 .obtain⟨a,b,rfl⟩:=Dr h1
  obtain⟨v,rfl⟩:=zM h2;have hvv:=hv v ak;have g:=((Gr.put c 0 a).trans (Gr.put (c.put 0 a) 2 b)).trans (Gr.dz _ v);have k:=((h.nm.put 0 (hw a ak)).put 2 (hw b ak)).dz hvv;refine(h.grow g (((Nm.put c 0 a).trans (Nm.put _ 2 b)).trans (Nm.dz _ v)) k).eT _ _ ?_;have t1:=dH (iA c 0 a) (((Gr.put (c.put 0 a) 2 b).trans (Gr.dz _ v)).len 0);have t2:=dH (iA (c.put 0 a) 2 b) ((Gr.dz _ v).len 2);have t3:=Ti ((c.put 0 a).put 2 b) hvv;simp[gL,hasB,gV,t1,t2,t3]
 .match ns,h1 with
  |a::b::ns,h1=>
  have hz:∀p∈ns.zip vs,bF ⟨p.1.toArray⟩=Z/\j5 p.2:=λp hp=>⟨hw _ (eD _ (eD _ (G5 hp).1)),hv _ (G5 hp).2⟩
  have g:=((Gr.put c 0 a).trans (Gr.put (c.put 0 a) 3 b)).trans (Gr.sc (ns.zip vs) _);have k:=l9.sc (ns.zip vs) ((h.nm.put 0 (hw a ak)).put 3 (hw b ak)) hz;refine(h.grow g (((Nm.put c 0 a).trans (Nm.put _ 3 b)).trans (Nm.sc (ns.zip vs) _)) k).eT _ _ ?_;have t1:=dH (iA c 0 a) (((Gr.put (c.put 0 a) 3 b).trans (Gr.sc (ns.zip vs) _)).len 0);have t2:=dH (iA (c.put 0 a) 3 b) ((Gr.sc (ns.zip vs) _).len 3);obtain⟨t3,t4⟩:=adt (ns.zip vs) ((c.put 0 a).put 3 b) (λp hp=>(hz p hp).2);have t5:(((c.put 0 a).put 3 b).sc (ns.zip vs)).2.length<=40:=by rw[t4,Ck];omega
  have t6:(((c.put 0 a).put 3 b).sc (ns.zip vs)).2.all (jW ((((c.put 0 a).put 3 b).sc (ns.zip vs)).1.nl 0).length ((((c.put 0 a).put 3 b).sc (ns.zip vs)).1.nl 2).length)=Z:=fA.2 t3;simp only[gL,hasB,gV];simp[t1,t2,t5];exact λx hx=>t3 x hx
 .obtain⟨a,rfl⟩:=zM h1
  refine(h.grow (Gr.put c 0 a) (Nm.put c 0 a) (h.nm.put 0 (hw a ak))).eT _ _ ?_;have t1:=iA c 0 a;simp[gL,hasB,gV,t1]
 .obtain⟨a,rfl⟩:=zM h1
  refine(h.grow (Gr.put c 0 a) (Nm.put c 0 a) (h.nm.put 0 (hw a ak))).eT _ _ ?_;have t1:=iA c 0 a;simp[gL,hasB,gV,t1]
 .match ns,h1 with
  |a::ns,h1=>
  have g:=(Gr.put c 2 a).trans (Gr.ts ns (c.put 2 a));have k:=l9.ts ns (h.nm.put 2 (hw a ak)) (λx hx=>hw x (eD _ hx));have n:=(Nm.put c 2 a).trans (Nm.ts ns (c.put 2 a));have t1:=dH (iA c 2 a) ((Gr.ts ns (c.put 2 a)).len 2);obtain⟨t3,t4⟩:=U5 ns (c.put 2 a);have:=(h.grow g n k).odA ⟨c.no 2 a,none,0,0⟩ ((c.put 2 a).ts ns).2 ⟨t1,by simp only[eZ,aO,aW,fA];exact⟨by rw[t4];simp only[dO] at h1;omega,t3⟩⟩;rw[n.d,n.sd] at this;exact this
 .match ns,h1 with
  |a::b::ns,h1=>
  have g:=((Gr.put c 3 a).trans (Gr.put (c.put 3 a) 2 b)).trans (Gr.ts ns _);have k:=l9.ts ns ((h.nm.put 3 (hw a ak)).put 2 (hw b ak)) (λx hx=>hw x (eD _ (eD _ hx)));have n:=((Nm.put c 3 a).trans (Nm.put (c.put 3 a) 2 b)).trans (Nm.ts ns _);have t1:=dH (iA c 3 a) (((Gr.put (c.put 3 a) 2 b).trans (Gr.ts ns _)).len 3);have t2:=dH (iA (c.put 3 a) 2 b) ((Gr.ts ns _).len 2);obtain⟨t3,t4⟩:=U5 ns ((c.put 3 a).put 2 b);have:=(h.grow g n k).maA ⟨c.no 3 a,(c.put 3 a).no 2 b,fi,none,0,0⟩ (((c.put 3 a).put 2 b).ts ns).2 ⟨t1,t2,by simp only[eZ,aO,aW,fA];exact⟨by rw[t4];simp only[dO] at h1;omega,t3⟩⟩;rw[n.m,n.sm] at this;exact this
 .obtain⟨a,rfl⟩:=zM h1
  have n:=Nm.put c 1 a;have:=(h.grow (Gr.put c 1 a) n (h.nm.put 1 (hw a ak))).waA ⟨c.no 1 a,(bb:H)⟩ ⟨iA c 1 a,by simp only[];omega,by simp only[];omega⟩;rw[n.q] at this;exact this
def aY (c:Cont):u (H × H):=
 (c.E.zip c.SE).flatMap (λp=>jv p.1 p.2)++(c.D.zip c.SD).flatMap (λp=>pz p.1 p.2)++(c.M.zip c.SM).flatMap (λp=>nM p.1 p.2)++c.Q.flatMap oF
def dZ (l:u H)(n:H):H:=if n∈l then(l.idxOf n:H) else -1
def lS (F:H->u H)(v:lK):lK:=if 0<v.k then⟨dZ (F 0) v.t,v.k⟩ else v
def Cb (F:H->u H)(s:Sn):Sn:=⟨dZ (F 2) s.obj,lS F s.v⟩
def eT (F:H->u H)(e:EvC):EvC:=
 {EX with kind:=e.kind,t:=dZ (F 0) e.t,lvl:=e.lvl,bW:=if e.kind=1 then dZ (F 1) e.bW else 0,obj:=if e.kind=2\/e.kind=3 then dZ (F 2) e.obj else 0,v:=if e.kind=2\/e.kind=3 then lS F e.v else⟨0,0⟩,pred:=if e.kind=4 then dZ (F 3) e.pred else 0}
def aK (l:u Bs)(n:H):Bs:=l.getD n.toNat []
def vG (F:H->u H)(c:Cont):Cont:=
 ⟨λi=>(F (i:H)).map (aK (c.nl i)),c.E.map (eT F),c.SE.map (λl=>l.map (Cb F)),c.D.map (λx=>⟨dZ (F 2) x.obj,none,0,0⟩),c.SD.map (λl=>l.map (dZ (F 0))),
 c.M.map (λx=>⟨dZ (F 3) x.pred,dZ (F 2) x.obj,x.first,none,0,0⟩),c.SM.map (λl=>l.map (dZ (F 0))),c.Q.map (λx=>⟨dZ (F 1) x.bW,x.bits⟩)⟩
def cO (c:Cont):Cont:=vG (cu (aY c)) c
def Ab (F:H->u H)(x:H × H):H × H:=(x.1,dZ (F x.1) x.2)
theorem LA {l g:u H}{n:H}(hp:l<+:g)(hn:n∈l):dZ g n=(l.idxOf n:H):=by
 unfold dZ;rw[av (hp.subset hn)];obtain⟨t,rfl⟩:=hp;rw[List.idxOf_append,av hn]
theorem SX {l g:u H}{n:H}(hp:l++[n]<+:g)(hn:n∉l):dZ g n=(l.length:H):=by
 rw[LA hp ak,List.idxOf_append,au hn];simp
theorem aeQ (s:H)(G:H->u H)(xs:u (H × H)):cu xs s<+:G s->cu (xs.map (Ab G)) s=up (cu xs s).length:=by
 refine yJ (P:=λxs=>cu xs s<+:G s->cu (xs.map (Ab G)) s=up (cu xs s).length) (λ_=>rfl) (λxs x ih hp=>?_) xs;have ih:=ih ((AA xs x s).trans hp);rw[eU,vv,lQ,ih];by_cases hx:x.1=s
 .have h1:(Ab G x).1=s:=hx
  have h2:(Ab G x).2=dZ (G s) x.2:=by unfold Ab;rw[hx]
  rw[av h1,h2];have e:cu (xs++[x]) s=ny (cu xs s) x.2:=by rw[lQ,av hx]
  rw[e] at hp ⊢;by_cases hm:x.2∈cu xs s
  .have e2:ny (cu xs s) x.2=cu xs s:=by unfold ny;rw[av hm]
   rw[e2] at hp ⊢;rw[LA hp hm];unfold ny;rw[av ((A9 (D6 _)).2 (Int.ofNat_lt.2 (Ca hm)))]
  .have e2:ny (cu xs s) x.2=cu xs s++[x.2]:=by unfold ny;rw[au hm]
   rw[e2] at hp ⊢;rw[SX hp hm];unfold ny;rw[au (λh=>by have:=(A9 (D6 _)).1 h;omega),bL,kN,Sr]
 .have h1:¬(Ab G x).1=s:=hx
  rw[au h1,lQ,au hx]
theorem PX (F:H->u H)(v:lK):jN (lS F v)=(jN v).map (Ab F):=by
 unfold jN lS;by_cases h:0<v.k
 .rw[av h,av h,av h];rfl
 .rw[au h,au h];rfl
theorem aeR (F:H->u H)(l:u Sn):(l.map (Cb F)).flatMap (λs=>(2,s.obj)::jN s.v)=(l.flatMap (λs=>(2,s.obj)::jN s.v)).map (Ab F):=by
 induction l with
 |nil=>rfl
 |cons s l ih=>
  rw[eu,gY,gY,eU,ih]
  congr 1
  rw[eu,<-PX];rfl
theorem aeS (F:H->u H)(e:EvC)(l:u Sn):jv (eT F e) (l.map (Cb F))=(jv e l).map (Ab F):=by
 have hk:(eT F e).kind=e.kind:=rfl;unfold jv;rw[aeR,hk,eU,eu]
 congr 2
 by_cases h1:e.kind=1
 .rw[av h1,av h1]
  have:(eT F e).bW=dZ (F 1) e.bW:=by unfold eT;simp only[av h1]
  rw[this];rfl
 .rw[au h1,au h1]
  by_cases h2:e.kind=2\/e.kind=3
  .rw[av h2,av h2]
   have e1:(eT F e).obj=dZ (F 2) e.obj:=by unfold eT;simp only[av h2]
   have e2:(eT F e).v=lS F e.v:=by unfold eT;simp only[av h2]
   rw[e1,e2,PX];rfl
  .rw[au h2,au h2]
   by_cases h4:e.kind=4
   .rw[av h4,av h4]
    have:(eT F e).pred=dZ (F 3) e.pred:=by unfold eT;simp only[av h4]
    rw[this];rfl
   .rw[au h4,au h4];rfl
theorem Ep {α β γ δ:Type}(f:α->γ)(g:β->δ)(N:γ->δ->u (H × H))(K:α->β->u (H × H))(F:H->u H)(h:∀a b,N (f a) (g b)=(K a b).map (Ab F)):
  ∀(xs:u α)(ys:u β),((xs.map f).zip (ys.map g)).flatMap (λp=>N p.1 p.2)=((xs.zip ys).flatMap (λp=>K p.1 p.2)).map (Ab F)
 |[],_=>by simp
 |_::_,[]=>by simp
 |a::xs,b::ys=>by
  rw[eu,eu,List.zip_cons_cons,List.zip_cons_cons,gY,gY,eU,Ep f g N K F h xs ys,h]
theorem XU (F:H->u H)(c:Cont):aY (vG F c)=(aY c).map (Ab F):=by
 unfold aY;rw[eU,eU,eU];refine congr (bU _ (congr (bU _ (congr (bU _ ?_) ?_)) ?_)) ?_
 .exact Ep (eT F) (λl=>l.map (Cb F)) jv jv F (aeS F) c.E c.SE
 .refine Ep (λx:aM=>(⟨dZ (F 2) x.obj,none,0,0⟩:aM)) (λl=>l.map (dZ (F 0))) pz pz F (λa b=>?_) c.D c.SD
  unfold pz;rw[eu,iV,iV];rfl
 .refine Ep (λx:aN=>(⟨dZ (F 3) x.pred,dZ (F 2) x.obj,x.first,none,0,0⟩:aN)) (λl=>l.map (dZ (F 0))) nM nM F (λa b=>?_) c.M c.SM
  unfold nM;rw[eu,eu,iV,iV];rfl
 .show(c.Q.map _).flatMap oF=_
  induction c.Q with
  |nil=>rfl
  |cons x q ih=>rw[eu,gY,gY,eU,ih];rfl
theorem FJ (c:Cont)(i:C):cu (aY (cO c)) (i:H)=up ((cO c).nl i).length:=by
 unfold cO;rw[XU,aeQ _ _ _ (gU _)];show up _=up ((cu (aY c) (i:H)).map _).length;rw[bH]
theorem ahr (c:Cont)(i:C)(s:Bs):(c.put i s).nl=wP c.nl i s:=rfl
theorem NW:∀(l:u Bs)(c:Cont),(c.ts l).1.nl=(l6 c.nl l).1/\(c.ts l).2=(l6 c.nl l).2
 |[],_=>⟨rfl,rfl⟩
 |s::r,c=>by
  obtain⟨h1,h2⟩:=NW r (c.put 0 s);exact⟨h1,bU (c.no 0 s:: ·) h2⟩
theorem Tj {c d:Cont}(hf:aJ c)(h:Nm c d):aJ d↔∀i,i<4->(d.nl i).length<=mD i:=
 ⟨λk=>k.1,λk=>⟨k,by rw[h.e];exact hf.2.1,by rw[h.d];exact hf.2.2.1,by rw[h.m];exact hf.2.2.2.1,by rw[h.q];exact hf.2.2.2.2.1,by rw[h.e];exact hf.2.2.2.2.2⟩⟩
theorem PY {c:Cont}{k:C}{s:Bs}(hf:aJ c)(hk:k<4):aJ (c.put k s)↔(dL (c.nl k) s).length<=mD k:=by
 rw[Tj hf (Nm.put c k s),ahr]
 constructor
 .intro h
  have:=h k hk;unfold wP at this
  rwa[av rfl] at this
 .intro h i hi
  unfold wP
  split
  .rename_i e;subst e;exact h
  .exact hf.1 i hi
theorem aaR {c:Cont}{v:To}(hf:aJ c):aJ (c.dz v).1↔v.k=0\/(dL (c.nl 0) v.name).length<=mD 0:=by
 unfold Cont.dz
 split
 .rename_i h;exact⟨λ_=> .inl h,λ_=>hf⟩
 .rename_i h
  rw[PY hf ah];exact⟨.inr,λk=>k.resolve_left h⟩
theorem MN:∀(l:u Bs)(nl:C->u Bs)(j:C),j≠0->(l6 nl l).1 j=nl j
 |[],_,_,_=>rfl
 |s::r,nl,j,hj=>(MN r (wP nl 0 s) j hj).trans (au hj)
theorem aeT {c:Cont}{l:u Bs}(hf:aJ c):aJ (c.ts l).1↔((l6 c.nl l).1 0).length<=mD 0:=by
 rw[Tj hf (Nm.ts l c),(NW l c).1]
 constructor
 .exact λh=>h 0 ah
 .intro h i hi
  by_cases h0:i=0
  .subst h0;exact h
  .rw[MN l c.nl i h0];exact hf.1 i hi
theorem Sz {c:Cont}{e:EvC}{l:u Sn}(hf:aJ c):aJ (c.ev e l)↔c.E.length<3000/\(e.kind=2->e.v.k<=999):=by
 constructor
 .intro h
  have h1:=h.2.1;have h2:=h.2.2.2.2.2;have e1:(c.ev e l).E=c.E++[e]:=rfl;rw[e1] at h1 h2;rw[bL,kN] at h1;exact⟨h1,h2 e ak⟩
 .rintro⟨h1,h2⟩
  refine⟨hf.1,?_,hf.2.2.1,hf.2.2.2.1,hf.2.2.2.2.1,?_⟩
  .show(c.E++[e]).length<=3000
   rw[bL,kN];exact h1
  .intro x hx
   rcases dm.1 (show x∈c.E++[e] from hx) with hx|hx
   .exact hf.2.2.2.2.2 x hx
   .rw[bT.1 hx];exact h2
theorem LD:∀(l:u (Bs × To))(c:Cont)(p:Bs × To),c.sc (l++[p])=(((((c.sc l).1.put 2 p.1).dz p.2).1),(c.sc l).2++[⟨(c.sc l).1.no 2 p.1,(((c.sc l).1.put 2 p.1).dz p.2).2⟩])
 |[],_,_=>rfl
 |q::l,c,p=>by
  have h:=LD l ((c.put 2 q.1).dz q.2).1 p;show(((((c.put 2 q.1).dz q.2).1).sc (l++[p])).1,_::((((c.put 2 q.1).dz q.2).1).sc (l++[p])).2)=_;rw[h];rfl
theorem XV:∀(l m:u (Bs × To))(c:Cont),(c.sc (l++m)).1=((c.sc l).1.sc m).1
 |[],_,_=>rfl
 |q::l,m,c=>XV l m ((c.put 2 q.1).dz q.2).1
theorem XW:∀(l:u (Bs × To))(c:Cont),(c.sc l).2.length=l.length
 |[],_=>rfl
 |q::l,c=>bU (·+1) (XW l ((c.put 2 q.1).dz q.2).1)
theorem aeU {l:u (Bs × To)}{c:Cont}{i:C}{p:Bs × To}(hp:l[i]?=S p)(h:aJ (c.sc l).1):aJ ((c.sc (l.take i)).1.put 2 p.1)/\aJ (((c.sc (l.take i)).1.put 2 p.1).dz p.2).1:=by
 obtain⟨hi,he⟩:=bO.1 hp;have e:l=(l.take i++[p])++l.drop (i+1):=by
  rw[<-he,dD,GZ,<-oD hi,tT]
 rw[e,XV,LD] at h;have h2:=(Gr.sc (l.drop (i+1)) _).fits h;exact⟨(Gr.dz _ p.2).fits h2,h2⟩
theorem vX (E:u EvC)(e:EvC)(t x:H):iC (E++[e]) t x=iC E t x+(if e.kind=2/\e.t=t/\e.obj=x then 1 else 0):=by
 unfold iC;rw[List.countP_append,List.countP_singleton]
 congr 1
 by_cases h:e.kind=2/\e.t=t/\e.obj=x
 .rw[av h,av (by simp[h])]
 .rw[au h,au (by simpa using h)]
theorem Mf (E:u EvC)(t x:H):iC E t x<=E.length:=List.countP_le_length
structure Fg (d:C)(P:(C->u Bs)->Prop)(w:World)(R:C)(cs:Array V)(nl:C->u Bs):Prop where
 b:Bx w R cs
 t:∀k,k<4->∃v,cs[8*d+k]?=S v/\Own w (R+1) 9 1 encStr v (nl k)
 n:P nl
abbrev ahs (nl:C->u Bs):Prop:=∀k,k<4->DU (nl k)/\(nl k).length<=mD k
abbrev KH:=Fg 1 ahs
theorem He (k:C):mD k<=300:=by unfold mD;split <;> omega
theorem aeV {L:u Bs}{s:Bs}(h:DU L)(hs:bF ⟨s.toArray⟩=Z)(hl:(dL L s).length<=300):DU (dL L s):=
 ⟨λx hx=>by
  unfold dL at hx
  split at hx
  .exact h.w x hx
  .rcases dm.1 hx with hx|hx
   .exact h.w x hx
   .rw[bT.1 hx];exact hs,Eh h.n,hl⟩
theorem Gi {R:C}{cs:Array V}{nl:C->u Bs}(k:C)(hk:k<4)(s:Bs)(w:World)(h:KH w R cs nl)(hs:bF ⟨s.toArray⟩=Z)(hG:vB w):
  Calls Tryz.prog 142 #[.pointer (S ⟨R,0,none⟩),J O (k:H),.string ⟨s.toArray⟩] w (λe w'=>Same (λi=>i≠R) w w'/\
   if(dL (nl k) s).length<=mD k then e= .returned (J O (sN (nl k) s:H))/\∃cs',KH w' R cs' (λj=>if j=k then dL (nl k) s else nl j)/\cs'.size=cs.size/\∀j,j≠8+k->cs'[j]?=cs[j]?
   else e= .panicked kK):=by
 obtain⟨v,hv,hO⟩:=h.t k hk;obtain⟨hT,hn⟩:=h.n k hk;have hlim:=He k;obtain⟨a,c,rfl,_,_⟩:=hO.shape;have hr:Row w 1 encStr a (nl k).length c (nl k):=hO.row ah;refine(aeW k hk R (nl k) a c s w cs h.b hv hr hT hs hG).mono ?_;rintro e w' ⟨hS,he⟩;refine⟨hS,?_⟩;by_cases hf:(dL (nl k) s).length<=mD k
 .have hin:s∈nl k\/(nl k).length<300:=by
   by_cases hm:s∈nl k
   .exact .inl hm
   .rw[DW hm,bL,kN] at hf
    exact .inr ah
  rw[av ⟨hin,hf⟩] at he;obtain⟨rfl,a',c',WR,hB'⟩:=he;rw[av hf];have Te:=h.b.2.2;have hsz:8+k<cs.size:=(dh.1 hv).1;refine⟨rfl,_,⟨hB',λj hj=>?_,λj hj=>?_⟩,by simp,λj hj=>by rw[tJ (λe=>hj e.symm)]⟩
  .by_cases hjk:j=k
   .subst hjk
    simp only[bY];exact⟨_,Es hsz,WR.mono ah⟩
   .rw[au hjk]
    obtain⟨v,hv,hO⟩:=h.t j hj;refine⟨v,(tJ ah).trans hv,hO.same hS (λg hg e=>?_)⟩;have:=(hO.lt g hg).1;omega
  .by_cases hjk:j=k
   .subst hjk
    simp only[bY];exact⟨aeV hT hs ah,hf⟩
   .rw[au hjk];exact h.n j hj
 .rw[au (λh=>hf h.2)] at he
  rw[au hf];exact he
theorem Fg.below {d:C}{P:(C->u Bs)->Prop}{w w':World}{R:C}{cs:Array V}{nl:C->u Bs}(h:Fg d P w R cs nl)(hb:Below w.1.size w w'):Fg d P w' R cs nl:=
 ⟨h.b.keep hb,λk hk=>(let⟨v,h1,h2⟩:=h.t k hk;⟨v,h1,h2.below hb rfl⟩),h.n⟩
theorem Fg.apart {d:C}{P:(C->u Bs)->Prop}{X Y:World}{R g:C}{cs:Array V}{nl:C->u Bs}{T:TypeId}(h:Fg d P X R cs nl)(hg:∃cs fz,X.1[g]?=S (I cs T fz))(hT:9≠T)(hR:R≠g)(hs:Same (λi=>i≠g) X Y):Fg d P Y R cs nl:=
 ⟨hs.bx h.b hR,λk hk=>(let⟨v,h1,h2⟩:=h.t k hk;⟨v,h1,h2.bD hg hT hs⟩),h.n⟩
theorem vB.below {w w':World}(h:vB w)(hb:Below w.1.size w w'):vB w':=⟨Utf8Tabs_below h.1 hb,λi hi=>bn hb rfl (h.2 i hi)⟩
def nlV (nl:C->u Bs)(v:To):C->u Bs:=if v.k=0 then nl else λj=>if j=0 then dL (nl 0) v.name else nl j
def adv (R:C)(cs:Array V)(nl:C->u Bs)(v:To)(w:World)(e:Ending)(w':World):Prop:=
 Same (λi=>i≠R) w w'/\
 if v.k=0\/(dL (nl 0) v.name).length<=mD 0 then e= .returned (.agg #[J O (if v.k=0 then 0 else(sN (nl 0) v.name:H)),J O v.k])/\∃cs',KH w' R cs' (nlV nl v)/\cs'.size=cs.size/\∀j,j≠8->cs'[j]?=cs[j]?
 else e= .panicked kK
theorem U6 {R:C}{cs:Array V}{nl:C->u Bs}(v:To)(hv:j5 v)(w:World)(h:KH w R cs nl)(hG:vB w):
  Calls Tryz.prog 144 #[.pointer (S ⟨R,0,none⟩),rV v] w (adv R cs nl v w):=by
 obtain⟨n,k⟩:=v;have HB:=U (((aA (aA (Below.refl w.1.size w) (I #[.string ⟨n.toArray⟩,J O k] 144)) (I #[J O 0,J O 0] 47)).drew));have hx1:=(Bx.new w #[.string ⟨n.toArray⟩,J O k] 144).alloc (I #[J O 0,J O 0] 47);have HH:=U h;have HGG:=U hG;have HV:=U hv;have eX:=U hx1;by_cases h0:k=0
 .subst h0
  clear hx1 h hG hv;go_enter func144,ntmps144;go_wp2_with fail;refine bodyPost_ret (v:= .agg #[J O 0,J O 0]) (by simp[results,results144,go_sem]) rfl ?_;have hbz:Below w.1.size w ((w.alloc (I #[.string ⟨n.toArray⟩,J O 0] 144)).alloc (I #[J O 0,J O 0] 47)):=aA (aA (Below.refl w.1.size w) _) _;refine⟨Same.of_below hbz (λ_ _ h=>h),?_⟩;have e:nlV nl ⟨n,0⟩=nl:=av rfl;rw[av (.inl rfl),e];exact⟨rfl,cs,HH.q.below hbz,rfl,λ_ _=>rfl⟩
 .have hk:(k==0)=false:=aU.2 h0
  have H0:=U h0;have hw:bF ⟨n.toArray⟩=Z:=by
   rcases hv with e|e
   .injection e with _ e;exact absurd e h0
   .exact e.1
  have HN:=U (Gi 0 ah n _ (h.below HB.q) hw (hG.below HB.q));have hx2:=(Bx.new (w.alloc (I #[.string ⟨n.toArray⟩,J O k] 144)) #[J O 0,J O 0] 47);have fw:=U hx2;have HRR:=U h.b.2.2;have hcA:=hx1.1 0;have hcB:=hx1.1 1;clear h hG hv h0 hx1 hw hx2;go_enter func144,ntmps144;by_cases hfit:(dL (nl 0) n).length<=mD 0
  .have HF:=U hfit
   clear hfit;go_wp2_with fail;refine dA 7 [(0,0),(1,0),(2,0),(4,0),(5,0),(3,2),(6,0),(7,2)] (λ_=>True) (λW'=>W'.cell? ⟨w.1.size,0,none⟩=S (.string ⟨n.toArray⟩)/\W'.cell? ⟨w.1.size,1,none⟩=S (J O k)) (λ_ _=>False) ay ay (λch a1 w1 hd hr=>hr.elim) (trivial) (⟨hcA,hcB⟩) ?_;refine qC ?_;refine aF rfl rfl (λK hK=>?_);go_simp;refine HN.q.mono ?_;rintro e w2 ⟨hS,he⟩;rw[av HF.q] at he;obtain⟨rfl,cs',hT,hsz,ho⟩:=he;have HT:=U hT;have Fa:=U hS;have HO:=U (⟨hsz,ho⟩:_/\_);have hy1:=hS.bx eX.q.drew (by have:=HRR.q;omega);have hy2:=hS.bx fw.q.drew (by have:=HRR.q;simp;omega);refine hK _ _ ⟨trivial,hy1.1 0,hy1.1 1⟩ ?_;have hd0:=hy2.1 0;have hd1:=hy2.1 1;have hf0:=hy2.2.1 0;have hf1:=hy2.2.1 1;have yG:=U hy2;rw[World.size_alloc] at hd0 hd1 hf0 hf1;clear hK K hT hS hsz ho hy1 hy2;refine qC ?_;refine bC rfl rfl rfl (λK hK=>?_);go_simp;go_simp;refine hK _ _ trivial ?_;clear hK K;refine jA ?_;go_wp2_with fail;have hz:=(yG.q.bf 0 ak (J O (sN (nl 0) n:H))).bf 1 ak (J O k);rw[World.size_alloc] at hz;have hz0:=hz.1 0;have hz1:=hz.1 1;refine bodyPost_ret (v:= .agg #[J O (sN (nl 0) n:H),J O k]) (by simp[results,results144,go_sem,hz0,hz1]) rfl ?_;have Te:=HRR.q;have h1:Same (λi=>i≠R/\i<w.1.size) w w2:=((Same.of_below HB.q (λ_ _ h=>h)).tr (Fa.q.mono (λi hi _=>hi.1)));have hn1:w.1.size+1<((w.alloc (I #[.string ⟨n.toArray⟩,J O k] 144)).alloc (I #[J O 0,J O 0] 47)).drew.1.size:=by
    show w.1.size+1<((w.alloc (I #[.string ⟨n.toArray⟩,J O k] 144)).alloc (I #[J O 0,J O 0] 47)).1.size;rw[World.size_alloc,World.size_alloc];omega
   have hn2:=World.alloc_heap_new (w.alloc (I #[.string ⟨n.toArray⟩,J O k] 144)) (I #[J O 0,J O 0] 47);rw[World.size_alloc] at hn2;have ht:∃cs fz,w2.1[w.1.size+1]?=S (I cs 47 fz):=⟨_,_,(Fa.q.block (w.1.size+1) ah hn1).trans hn2⟩;refine⟨((h1.setTail (λh=>by have:=h.2;omega)).setTail (λh=>by have:=h.2;omega)).mono (λi hi hl=>⟨hi,hl⟩),?_⟩;rw[av (.inr HF.q)];have e1:(if k=0 then(0:H) else(sN (nl 0) n:H))=(sN (nl 0) n:H):=au H0.q;have e2:nlV nl ⟨n,k⟩=λj=>if j=0 then dL (nl 0) n else nl j:=au H0.q
   rw[e2];refine⟨by rw[e1],cs',HT.q.apart ht aj ah (((Same.refl' w2).setTail (λh=>h rfl)).setTail (λh=>h rfl)),HO.q.1,HO.q.2⟩
  .have HF:=U hfit
   have RES:Hid (∀ch w',(ch=kK/\Same (λi=>i≠R) ((w.alloc (I #[.string ⟨n.toArray⟩,J O k] 144)).alloc (I #[J O 0,J O 0] 47)).drew w')->adv R cs nl ⟨n,k⟩ w (.panicked ch) w'):=U (by
    rintro ch w' ⟨rfl,hS⟩;have h1:Same (λi=>i≠R) w ((w.alloc (I #[.string ⟨n.toArray⟩,J O k] 144)).alloc (I #[J O 0,J O 0] 47)).drew:=Same.of_below HB.q (λ_ _ h=>h);refine⟨⟨hS.os.trans h1.os,hS.tape.trans h1.tape,hS.output.trans h1.output,bX h1.size hS.size,λi hi hl=>(hS.block i hi (bM hl h1.size)).trans (h1.block i hi hl)⟩,?_⟩;rw[au (λh=>h.elim H0.q hfit)])
   clear hfit;go_wp2_with fail;refine dA 7 [(0,0),(1,0),(2,0),(4,0),(5,0),(3,2),(6,0),(7,2)] (λ_=>True) (λW'=>W'.cell? ⟨w.1.size,0,none⟩=S (.string ⟨n.toArray⟩)/\W'.cell? ⟨w.1.size,1,none⟩=S (J O k)) (λch w'=>ch=kK/\Same (λi=>i≠R) ((w.alloc (I #[.string ⟨n.toArray⟩,J O k] 144)).alloc (I #[J O 0,J O 0] 47)).drew w') ay ay (λch a1 w1 hd hr=>⟨hd,RES.q ch w1 hr⟩) (trivial) (⟨hcA,hcB⟩) ?_;refine qC ?_;refine aF rfl rfl (λK hK=>?_);go_simp;refine HN.q.mono ?_;rintro e w2 ⟨hS,he⟩;rw[au HF.q] at he;subst he;exact⟨rfl,rfl,hS⟩
def Et (R:C)(w:World):Prop:=∀W,Same (λi=>i≠R) w W->vB W
theorem Et.same {R:C}{w X:World}(h:Et R w)(s:Same (λi=>i≠R) w X):Et R X:=λW k=>h W (s.tr k)
theorem Et.here {R:C}{w:World}(h:Et R w):vB w:=h w (Same.refl' w)
theorem Fg.grown {d:C}{P:(C->u Bs)->Prop}{X Y:World}{R:C}{cs:Array V}{nl:C->u Bs}{T:TypeId}{row:Option C}(h:Fg d P X R cs nl)(hg:X.grownBy Y row)(hr:∀g,row=S g->g≠R/\∃cs fz,X.1[g]?=S (I cs T fz))(hT:9≠T):Fg d P Y R cs nl:=
 ⟨h.b.grown hg (λe=>(hr R e).1 rfl),λk hk=>(let⟨v,h1,h2⟩:=h.t k hk;⟨v,h1,h2.grown hg (λg hv e=>by
  obtain⟨_,cs1,fz1,e1⟩:=hr g e;obtain⟨cs2,fz2,e2⟩:=h2.tag hv;rw[e1] at e2
  cases e2
  exact hT rfl)⟩),h.n⟩
def adx (R:C)(cs:Array V)(nl:C->u Bs)(l:u Bs)(w:World)(e:Ending)(w':World):Prop:=
 Same (λi=>i≠R) w w'/\
 if((l6 nl l).1 0).length<=mD 0 then ∃a c cs',e= .returned (.slice a l.length c)/\Own w' w.1.size 3 1 aX (.slice a l.length c) (l6 nl l).2/\KH w' R cs' (l6 nl l).1/\cs'.size=cs.size/\∀j,j≠8->cs'[j]?=cs[j]?
 else e= .panicked kK
theorem Row.i1 (w:World)(s:H):Row (w.alloc (I #[J O s] 3)) 1 aX (S ⟨w.1.size,0,none⟩) 1 1 [s]:=
 (Own.new (hc:=iP) w w.1.size 3 #[J O s] [s] (aB _) rfl (by simp[maxLen])).row ak
theorem Tk:∀(l:u Bs)(nl:C->u Bs),(l6 nl l).2.length=l.length
 |[],_=>rfl
 |_::l,nl=>bU (·+1) (Tk l (wP nl 0 _))
theorem U7 {X Y:World}{R:C}{row:Option C}{B:C}(hg:X.grownBy Y row)(hr:∀g,row=S g->B<=g):Same (λi=>i≠R/\i<B) X Y:=
 ⟨hg.os,hg.tape,hg.output,hg.size,λi hi hl=>hg.block i hl (λe=>by have:=hr i e.symm;have:=hi.2;omega)⟩
theorem akB {R:C}{cs:Array V}{nl:C->u Bs}(l:u Bs)(ta:Option Addr)(n tc:C)(w:World)(h:KH w R cs nl)(hr:Row w 1 encStr ta n tc l)(hne:∀b o,ta=S ⟨b,o,none⟩->b≠R)(hw:∀s∈l,bF ⟨s.toArray⟩=Z)(hn:n<=100000)(hG:Et R w):
  Calls Tryz.prog 145 #[.pointer (S ⟨R,0,none⟩),.slice ta n tc] w (adx R cs nl l w):=by
 have HH:=U h;have HR:=U hr;have kP:=U hne;have HW:=U hw;have HG:=U hG;have HRR:=U h.b.2.2;obtain⟨i,z,hi,hz,hsize,dx,hzs⟩:=Jt;have HI:=U (⟨hi,hz,hsize,dx,hzs⟩:_/\_/\_/\_/\_);have hle:=hr.le;have HLEN:=U hr.len;clear h hr hne hw hG hi hz hsize dx hzs;go_enter func145,ntmps145;go_wp2_with fail
 go_loopw [5,10] (λv i wr=>∃(k:C)(a0:Option Addr)(c0:C)(cs':Array V),k<=n/\v= .slice a0 k c0/\i= J O k/\Own wr w.1.size 3 1 aX (.slice a0 k c0) (l6 nl (l.take k)).2/\
   KH wr R cs' (l6 nl (l.take k)).1/\cs'.size=cs.size/\(∀j,j≠8->cs'[j]?=cs[j]?)/\Same (λi=>i≠R) w wr) (λ_ i _=>n - (RowKit.intOf i).toNat)
 case atStart=>
  exact⟨0,none,0,cs,aZ _,rfl,rfl,Own.jY _ _ _ _ _,HH.q,rfl,λ_ _=>rfl,Same.refl' _⟩
 case round=>
  obtain⟨k,a0,c0,cs',hk,rfl,rfl,how,hrg,hsz,hoth,hS⟩:=hrel;by_cases hlt:k<n
  .obtain⟨s,b,o,hx,rfl,hc⟩:=HR.q.at_ hlt
   have hc0':=hc 0 _ rfl;simp only[gT,dM] at hc0';have hc0:wr.cell? ⟨b,o+k,none⟩=S (.string ⟨s.toArray⟩):=(World.cell?_of_block (a:=⟨b,o+k,none⟩) (hS.block b (kP.q b o rfl) (dR hc0'))).trans hc0';have mQ:=Gi 0 ah s wr hrg (HW.q s (dP hx)) (HG.q.same hS).here;have CY:=U mQ;have HOW:=U how;have MO:=U hrg;have uV:=U hsz;have HOT:=U hoth;have HS:=U hS;have HX:=U hx;clear how hrg hsz hoth hS mQ hc hc0' hx;go_wp2_with fail;refine CY.q.mono ?_;rintro e w1 ⟨hS1,he⟩;have e1:l.take (k+1)=l.take k++[s]:=by rw[jd,HX.q];rfl
   by_cases hf:(dL ((l6 nl (l.take k)).1 0) s).length<=mD 0
   .rw[av hf] at he
    obtain⟨rfl,cs2,hrg2,hsz2,ho2⟩:=he;have aaS:=U hrg2;have an':=U hsz2;have l8:=U ho2;have gB:=U hS1;have U8:Hid (Own w1 w.1.size 3 1 aX (.slice a0 k c0) (l6 nl (l.take k)).2):=U (HOW.q.same hS1 (λg hg e=>by have:=(HOW.q.lt g hg).1;have:=HRR.q;omega));have HE:Hid ((l6 nl (l.take (k+1))).1=(λj=>if j=0 then dL ((l6 nl (l.take k)).1 0) s else(l6 nl (l.take k)).1 j)/\(l6 nl (l.take k)).2++[(sN ((l6 nl (l.take k)).1 0) s:H)]=(l6 nl (l.take (k+1))).2):=U (by rw[e1,Ju];exact⟨rfl,rfl⟩);have jU:Hid ((l6 nl (l.take k)).2.length+1=k+1):=U (by rw[Tk,fE,HLEN.q,qY hk]);have iU:Hid ((k+1)*8<=140737488355328):=U ah;have iM:Hid (k+1<=maxLen):=U (by unfold maxLen;omega);have sO:Hid (w.1.size<=(w1.alloc (I #[J O (sN ((l6 nl (l.take k)).1 0) s:H)] 3)).1.size):=U (by have h1:=HS.q.size;have h2:=hS1.size;simp;omega);clear hrg2 hsz2 ho2 hS1 hf e1
    go_wp2_with (at_builtin;refine je rfl _ _ 51 rfl i z 8 underlying51 HI.q.1 HI.q.2.1 HI.q.2.2.1 HI.q.2.2.2.1 HI.q.2.2.2.2 rfl (U8.q.alloc _) (S ⟨w1.1.size,0,none⟩) 1 1 (k+1) [(sN ((l6 nl (l.take k)).1 0) s:H)] rfl (Row.i1 w1 _) jU.q iU.q iM.q sO.q ?_;intro a' c' w2 hown1 hg1 vQ)
    rw[HE.q.2] at hown1;have hb3:=aA (Below.refl w1.1.size w1) (I #[J O (sN ((l6 nl (l.take k)).1 0) s:H)] 3);have hS3:Same (λi=>i≠R/\i<w.1.size) w w2:=((HS.q.tr gB.q).mono (λi hi _=>hi.1)).tr ((Same.of_below hb3 (λ_ _ h=>h)).tr (U7 hg1 (λg e=>(U8.q.lt g e).1)));have hrg3:=(aaS.q.below hb3).grown (T:=3) hg1 (λg e=>⟨by have:=(U8.q.lt g e).1;have:=HRR.q;omega,(U8.q.alloc _).tag e⟩) aj;have aaT:=U (⟨hown1,hrg3,hS3.mono (λi hi hl=>⟨hi,hl⟩)⟩:_/\_/\_);clear hown1 hg1 vQ hb3 hS3 hrg3;go_roundw
    case rel=>
     refine⟨k+1,a',c',cs2,by omega,rfl,by go_num,aaT.q.1,?_,an'.q.trans uV.q,λj hj=>(l8.q j hj).trans (HOT.q j hj),aaT.q.2.2⟩;rw[HE.q.1];exact aaT.q.2.1
    case measure=>simp[RowKit.intOf];omega
   .rw[au hf] at he
    subst he;refine⟨rfl,?_⟩;show adx R cs nl l w _ _;refine⟨HS.q.tr hS1,?_⟩;rw[au (λh=>hf (aaU HX.q h))]
  .obtain rfl:k=n:=by omega
   have htk:l.take k=l:=iH (by rw[HLEN.q];exact aB _);rw[htk] at how hrg;have HOW:=U how;have MO:=U hrg;have uV:=U hsz;have HOT:=U hoth;have HS:=U hS;clear how hrg hsz hoth hS htk;go_wp2_with fail;go_ret;refine⟨HS.q,?_⟩;rw[av (MO.q.n 0 ah).2,HLEN.q];exact⟨a0,c0,cs',rfl,HOW.q,MO.q,uV.q,HOT.q⟩
theorem Row.ev1 (w:World)(ev:EvC):Row (w.alloc (I (aS ev) 50)) 9 eB (S ⟨w.1.size,0,none⟩) 1 1 [ev]:=
 (Own.new (hc:=rA) w w.1.size 50 (enc:=eB) (aS ev) [ev] (aB _) rfl (by simp[maxLen])).row (hc:=rA) ak
def U9 (R:C)(cs:Array V)(v4:V)(es:u EvC)(ev:EvC)(w:World)(e:Ending)(w':World):Prop:=
 Same (λi=>i≠R/\v4.ownBlock≠S i) w w'/\
 if es.length<3000 then e= .returned (.tuple #[])/\∃v',Own w' (R+1) 50 9 eB v' (es++[ev])/\Bx w' R (cs.setIfInBounds 4 v')
 else e= .panicked kK
theorem OC {R:C}{cs:Array V}{v4:V}{es:u EvC}(ev:EvC)(w:World)(hB:Bx w R cs)(h4:cs[4]?=S v4)(hO:Own w (R+1) 50 9 eB v4 es)(hl:es.length<=3000):
  Calls Tryz.prog 141 #[.pointer (S ⟨R,0,none⟩),fZ ev] w (U9 R cs v4 es ev w):=by
 obtain⟨a,c,rfl,_,hlc⟩:=hO.shape;obtain⟨i,z,hi,hz,hsize,dx,hzs⟩:=Tm;have HI:=U (⟨hi,hz,hsize,dx,hzs⟩:_/\_/\_/\_/\_);have hx:w.cell? ⟨R,4,none⟩=S (.slice a es.length c):=(hB.1 4).trans h4;have hb0:=aA (Below.refl w.1.size w) (I (aS ev) 50);have HB0:=U hb0;have fQ:=U hB;have HO:=U hO;have H4:=U h4;have hx0:(w.alloc (I (aS ev) 50)).cell? ⟨R,4,none⟩=S (.slice a es.length c):=((hB.keep hb0).1 4).trans h4;have hf0:(w.alloc (I (aS ev) 50)).frozen? ⟨R,4,none⟩=false:=(hB.keep hb0).2.1 4;clear hB h4 hO hi hz hsize dx hzs hb0;obtain⟨kd,tt,ss,lv,ob,⟨vt,vk⟩,pd,sa,sn,sc⟩:=ev;by_cases hf:es.length<3000
 .have HF:=U hf
  have hd:decide ((es.length:H)<3000)=Z:=bN ah;clear hf;have uy:Hid (Bx (w.alloc (I (aS ⟨kd,tt,ss,lv,ob,⟨vt,vk⟩,pd,sa,sn,sc⟩) 50)) w.1.size (aS ⟨kd,tt,ss,lv,ob,⟨vt,vk⟩,pd,sa,sn,sc⟩)):=U (Bx.new w _ _);have HR1:Hid (Bx ((w.alloc (I (aS ⟨kd,tt,ss,lv,ob,⟨vt,vk⟩,pd,sa,sn,sc⟩) 50)).drew.alloc (I (aS ⟨kd,tt,ss,lv,ob,⟨vt,vk⟩,pd,sa,sn,sc⟩) 50)) R cs):=U ((fQ.q.keep HB0.q).drew.alloc _);have Pq:Hid (Bx ((w.alloc (I (aS ⟨kd,tt,ss,lv,ob,⟨vt,vk⟩,pd,sa,sn,sc⟩) 50)).drew.alloc (I (aS ⟨kd,tt,ss,lv,ob,⟨vt,vk⟩,pd,sa,sn,sc⟩) 50)) w.1.size (aS ⟨kd,tt,ss,lv,ob,⟨vt,vk⟩,pd,sa,sn,sc⟩)):=U (uy.q.drew.alloc _);have Dl:Hid (Own ((w.alloc (I (aS ⟨kd,tt,ss,lv,ob,⟨vt,vk⟩,pd,sa,sn,sc⟩) 50)).drew.alloc (I (aS ⟨kd,tt,ss,lv,ob,⟨vt,vk⟩,pd,sa,sn,sc⟩) 50)) (R+1) 50 9 eB (.slice a es.length c) es):=U ((HO.q.alloc _).drew.alloc _);have pU:Hid (Row ((w.alloc (I (aS ⟨kd,tt,ss,lv,ob,⟨vt,vk⟩,pd,sa,sn,sc⟩) 50)).drew.alloc (I (aS ⟨kd,tt,ss,lv,ob,⟨vt,vk⟩,pd,sa,sn,sc⟩) 50)) 9 eB (S ⟨w.1.size+1,0,none⟩) 1 1 [⟨kd,tt,ss,lv,ob,⟨vt,vk⟩,pd,sa,sn,sc⟩]):=U (by
   have:=Row.ev1 (w.alloc (I (aS ⟨kd,tt,ss,lv,ob,⟨vt,vk⟩,pd,sa,sn,sc⟩) 50)).drew ⟨kd,tt,ss,lv,ob,⟨vt,vk⟩,pd,sa,sn,sc⟩;have e:(w.alloc (I (aS ⟨kd,tt,ss,lv,ob,⟨vt,vk⟩,pd,sa,sn,sc⟩) 50)).drew.1.size=w.1.size+1:=World.size_alloc _ _;rw[e] at this;exact this)
  have iU:Hid ((es.length+1)*88<=140737488355328):=U ah;have iM:Hid (es.length+1<=maxLen):=U (by unfold maxLen;omega);have sO:Hid (R+1<=((w.alloc (I (aS ⟨kd,tt,ss,lv,ob,⟨vt,vk⟩,pd,sa,sn,sc⟩) 50)).drew.alloc (I (aS ⟨kd,tt,ss,lv,ob,⟨vt,vk⟩,pd,sa,sn,sc⟩) 50)).1.size):=U (by have:=HR1.q.2.2;omega);have MP:Hid ((Value.slice a es.length c).ownBlock≠S R):=U (λe=>by have:=(HO.q.lt R e).1;omega);have kP:Hid ((Value.slice a es.length c).ownBlock≠S w.1.size):=U (λe=>by have:=(HO.q.lt _ e).2;omega);go_enter func141,ntmps141;go_wp2_with fail;refine(mU _ _).mono ?_;rintro e w2 ⟨rfl,rfl⟩;rw[av rfl];go_wp2_with fail;refine aC 12 [(0,0),(1,0),(2,0),(3,0),(4,0),(5,0),(6,0),(7,2),(8,2),(9,1),(10,1),(11,0),(12,2)] (λ_=>True) (λW'=>W'.cell? ⟨R,4,none⟩=S (.slice a es.length c)/\W'.cell? ⟨w.1.size,0,none⟩=S (J O kd)/\W'.cell? ⟨w.1.size,1,none⟩=S (J O tt)/\W'.cell? ⟨w.1.size,2,none⟩=S (J O ss)/\W'.cell? ⟨w.1.size,3,none⟩=S (J O lv)/\W'.cell? ⟨w.1.size,4,none⟩=S (J O ob)/\W'.cell? ⟨w.1.size,5,none⟩=S (J O vt)/\W'.cell? ⟨w.1.size,6,none⟩=S (J O vk)/\W'.cell? ⟨w.1.size,7,none⟩=S (J O pd)/\W'.cell? ⟨w.1.size,8,none⟩=S (.slice sa sn sc)) ay ay (trivial) (⟨((fQ.q.keep HB0.q).1 4).trans H4.q,(uy.q).1 0,(uy.q).1 1,(uy.q).1 2,(uy.q).1 3,(uy.q).1 4,(uy.q).1 5,(uy.q).1 6,(uy.q).1 7,(uy.q).1 8⟩) ?_;refine qC ?_;refine aF rfl rfl (λK hK=>?_);go_simp;refine hK _ _ ⟨trivial,(((fQ.q.keep HB0.q).alloc _).1 4).trans H4.q,(uy.q.alloc _).1 0,(uy.q.alloc _).1 1,(uy.q.alloc _).1 2,(uy.q.alloc _).1 3,(uy.q.alloc _).1 4,(uy.q.alloc _).1 5,(uy.q.alloc _).1 6,(uy.q.alloc _).1 7,(uy.q.alloc _).1 8⟩ ?_;clear hK K;refine aF rfl rfl (λK hK=>?_);refine lX _ _ 24 rfl i z 88 underlying24 HI.q.1 HI.q.2.1 HI.q.2.2.1 HI.q.2.2.2.1 HI.q.2.2.2.2 rfl Dl.q (S ⟨w.1.size+1,0,none⟩) 1 1 (es.length+1) [⟨kd,tt,ss,lv,ob,⟨vt,vk⟩,pd,sa,sn,sc⟩] rfl pU.q rfl iU.q iM.q sO.q ?_;intro a' c' w3 hown3 hg3 zY;have hr3:=HR1.q.grown hg3 MP.q;have Iu:=Pq.q.grown hg3 kP.q;refine hK _ _ ⟨trivial,((hr3).1 4).trans H4.q,(Iu).1 0,(Iu).1 1,(Iu).1 2,(Iu).1 3,(Iu).1 4,(Iu).1 5,(Iu).1 6,(Iu).1 7,(Iu).1 8⟩ ?_;have hc3:=(hr3.1 4).trans H4.q;have hf3:=hr3.2.1 4;have HR3:=U hr3;have zH:=U hown3;have lN:=U hg3;clear hK K hr3 Iu hown3 hg3 zY;refine qC ?_;refine bC rfl rfl rfl (λK hK=>?_);go_simp;refine hK _ _ trivial ?_;clear hK K;refine aP ?_;go_wp2_with fail;refine bodyPost_end (results_none rfl _ _ _) rfl ?_;show U9 R cs _ es _ w _ _;have hb1:=aA HB0.q.drew (I (aS ⟨kd,tt,ss,lv,ob,⟨vt,vk⟩,pd,sa,sn,sc⟩) 50);have h1:Same (λi=>i≠R/\(Value.slice a es.length c).ownBlock≠S i) w w3:=(Same.of_below hb1 (λ_ _ h=>h)).tr ⟨lN.q.os,lN.q.tape,lN.q.output,lN.q.size,λi hi hl=>lN.q.block i hl (λe=>hi.2 e.symm)⟩;refine⟨h1.setTail (λh=>h.1 rfl),?_⟩;rw[av HF.q];refine⟨rfl,.slice a' (es.length+1) c',zH.q.same (A:=λi=>i≠R) ((Same.refl' _).setTail (λh=>h rfl)) (λg hg e=>by have:=(zH.q.lt g hg).1;omega),HR3.q.bf 4 (dh.1 H4.q).1 _⟩
 .have HF:=U hf
  have hd:decide ((es.length:H)<3000)=false:=bq ah;clear hf;go_enter func141,ntmps141;go_wp2_with fail;refine(mU _ _).mono ?_;rintro e w2 ⟨rfl,rfl⟩;rw[au ak];refine⟨rfl,?_⟩;show U9 R cs _ es _ w _ _;refine⟨Same.of_below HB0.q (λ_ _ h=>h),?_⟩;rw[au HF.q]
def EvC.val (e:EvC):V:= .slice e.sa e.sn e.sc
def aM.val (e:aM):V:= .slice e.sa e.sn e.sc
def aN.val (e:aN):V:= .slice e.sa e.sn e.sc
def CZ {α β:Type}(w:World)(R:C)(T:TypeId)(k:C)(enc:β->u V)(val:α->V)(xs:u α)(Ls:u (u β)):Prop:=
 xs.length=Ls.length/\∀(i:C)(x:α)(L:u β),xs[i]?=S x->Ls[i]?=S L->Own w (R+1) T k enc (val x) L
theorem CZ.imp {α β:Type}{w w':World}{R:C}{T:TypeId}{k:C}{enc:β->u V}{val:α->V}{xs:u α}{Ls:u (u β)}(h:CZ w R T k enc val xs Ls)(hi:∀v L,Own w (R+1) T k enc v L->Own w' (R+1) T k enc v L):CZ w' R T k enc val xs Ls:=
 ⟨h.1,λi x L h1 h2=>hi _ _ (h.2 i x L h1 h2)⟩
theorem CZ.snoc {α β:Type}{w:World}{R:C}{T:TypeId}{k:C}{enc:β->u V}{val:α->V}{xs:u α}{Ls:u (u β)}(h:CZ w R T k enc val xs Ls){x:α}{L:u β}(hx:Own w (R+1) T k enc (val x) L):CZ w R T k enc val (xs++[x]) (Ls++[L]):=by
 refine⟨by rw[bL,bL,h.1];rfl,λi y M h1 h2=>?_⟩;rcases gP i xs.length with hi|hi
 .rw[y8 hi] at h1
  rw[y8 (by rw[<-h.1];exact hi)] at h2;exact h.2 i y M h1 h2
 .rw[xJ hi] at h1
  rw[xJ (by rw[<-h.1];exact hi),<-h.1] at h2;obtain⟨j,hj⟩:∃j,j=i - xs.length:=⟨_,rfl⟩;rw[<-hj] at h1 h2
  cases j with
  |zero=>
   injection h1 with h1;injection h2 with h2;subst h1 h2;exact hx
  |succ j=>cases h1
structure zT (d:C)(P:(C->u Bs)->Prop)(w:World)(R:C)(cs:Array V)(c:Cont)(es:u EvC)(ds:u aM)(ms:u aN):Prop where
 t:Fg d P w R cs c.nl
 e:∃v,cs[4]?=S v/\Own w (R+1) 50 9 eB v es
 d:∃v,cs[5]?=S v/\Own w (R+1) 79 2 fB v ds
 m:∃v,cs[6]?=S v/\Own w (R+1) 84 4 fD v ms
 q:∃v,cs[7]?=S v/\Own w (R+1) 88 2 gH v c.Q
 be:es.map EvC.base=c.E
 bd:ds.map aM.base=c.D
 bm:ms.map aN.base=c.M
 se:CZ w R 98 3 dV EvC.val es c.SE
 sd:CZ w R 3 1 aX aM.val ds c.SD
 sm:CZ w R 3 1 aX aN.val ms c.SM
abbrev Cc:=zT 1 ahs
theorem Own.iY {β:Type}{X Y:World}{R:C}{T:TypeId}{k:C}{enc:β->u V}{v:V}{L:u β}(h:Own X (R+1) T k enc v L)(hs:Same (λi=>i≠R) X Y):Own Y (R+1) T k enc v L:=
 h.same hs (λg hg e=>by have:=(h.lt g hg).1;omega)
theorem zT.xS {d:C}{P:(C->u Bs)->Prop}{X Y:World}{R:C}{cs cs':Array V}{c:Cont}{es:u EvC}{ds:u aM}{ms:u aN}{nl:C->u Bs}(h:zT d P X R cs c es ds ms)(hs:Same (λi=>i≠R) X Y)(hT:Fg d P Y R cs' nl)(ho:∀j,4<=j->j<8->cs'[j]?=cs[j]?):
  zT d P Y R cs' {c with nl:=nl} es ds ms:=
 ⟨hT,(let⟨v,h1,h2⟩:=h.e;⟨v,(ho 4 ah ah).trans h1,h2.iY hs⟩),(let⟨v,h1,h2⟩:=h.d;⟨v,(ho 5 ah ah).trans h1,h2.iY hs⟩),(let⟨v,h1,h2⟩:=h.m;⟨v,(ho 6 ah ah).trans h1,h2.iY hs⟩),
 (let⟨v,h1,h2⟩:=h.q;⟨v,(ho 7 ah ah).trans h1,h2.iY hs⟩),h.be,h.bd,h.bm,h.se.imp (λ_ _ h=>h.iY hs),h.sd.imp (λ_ _ h=>h.iY hs),h.sm.imp (λ_ _ h=>h.iY hs)⟩
theorem Cc.xS {X Y:World}{R:C}{cs cs':Array V}{c:Cont}{es:u EvC}{ds:u aM}{ms:u aN}{nl:C->u Bs}(h:Cc X R cs c es ds ms)(hs:Same (λi=>i≠R) X Y)(hT:KH Y R cs' nl)(ho:∀j,j<8->cs'[j]?=cs[j]?):
  Cc Y R cs' {c with nl:=nl} es ds ms:=zT.xS h hs hT (λj _ hj=>ho j hj)
theorem Own.jk {β γ:Type}{X Y:World}{R:C}{T T4:TypeId}{k k4:C}{enc:β->u V}{enc4:γ->u V}{v v4:V}{L:u β}{L4:u γ}(h:Own X (R+1) T k enc v L)(h4:Own X (R+1) T4 k4 enc4 v4 L4)(hT:T≠T4)(hs:Same (λi=>i≠R/\v4.ownBlock≠S i) X Y):Own Y (R+1) T k enc v L:=
 h.same hs (λg hg=>⟨λe=>by have:=(h.lt g hg).1;omega,λe=>by
  obtain⟨c1,f1,e1⟩:=h.tag hg;obtain⟨c2,f2,e2⟩:=h4.tag e;rw[e1] at e2
  cases e2
  exact hT rfl⟩)
theorem zT.event {d:C}{P:(C->u Bs)->Prop}{X Y:World}{R:C}{cs:Array V}{c:Cont}{es:u EvC}{ds:u aM}{ms:u aN}(h:zT d P X R cs c es ds ms){v4 v':V}(h4:cs[4]?=S v4)(hs:Same (λi=>i≠R/\v4.ownBlock≠S i) X Y){ev:EvC}{l:u Sn}
  (hO:Own Y (R+1) 50 9 eB v' (es++[ev])) (hB:Bx Y R (cs.setIfInBounds 4 v')) (hl:Own X (R+1) 98 3 dV ev.val l):zT d P Y R (cs.setIfInBounds 4 v') (c.ev ev.base l) (es++[ev]) ds ms:=by
 obtain⟨v0,h0,hO4⟩:=h.e;obtain rfl:v0=v4:=by rw[h4] at h0;injection h0 with h0;exact h0.symm
 have hsz:4<cs.size:=(dh.1 h4).1;have ho:∀j,4≠j->(cs.setIfInBounds 4 v')[j]?=cs[j]?:=λj hj=>tJ hj
 refine⟨⟨hB,λk hk=>?_,h.t.n⟩,⟨v',Es hsz,hO⟩,?_,?_,?_,?_,h.bd,h.bm,?_,?_,?_⟩
 .obtain⟨v,h1,h2⟩:=h.t.t k hk
  exact⟨v,(ho _ ah).trans h1,h2.jk hO4 aj hs⟩
 .obtain⟨v,h1,h2⟩:=h.d
  exact⟨v,(ho _ ah).trans h1,h2.jk hO4 aj hs⟩
 .obtain⟨v,h1,h2⟩:=h.m
  exact⟨v,(ho _ ah).trans h1,h2.jk hO4 aj hs⟩
 .obtain⟨v,h1,h2⟩:=h.q
  exact⟨v,(ho _ ah).trans h1,h2.jk hO4 aj hs⟩
 .show(es++[ev]).map EvC.base=c.E++[ev.base]
  rw[eU,h.be];rfl
 .exact(h.se.imp (λ_ _ h=>h.jk hO4 aj hs)).snoc (hl.jk hO4 aj hs)
 .exact h.sd.imp (λ_ _ h=>h.jk hO4 aj hs)
 .exact h.sm.imp (λ_ _ h=>h.jk hO4 aj hs)
theorem zT.order {d:C}{P:(C->u Bs)->Prop}{X Y:World}{R:C}{cs:Array V}{c:Cont}{es:u EvC}{ds:u aM}{ms:u aN}(h:zT d P X R cs c es ds ms){v4 v':V}(h4:cs[5]?=S v4)(hs:Same (λi=>i≠R/\v4.ownBlock≠S i) X Y){x:aM}{l:u H}
  (hO:Own Y (R+1) 79 2 fB v' (ds++[x])) (hB:Bx Y R (cs.setIfInBounds 5 v')) (hl:Own X (R+1) 3 1 aX x.val l):zT d P Y R (cs.setIfInBounds 5 v') {c with D:=c.D++[x.base],SD:=c.SD++[l]} es (ds++[x]) ms:=by
 obtain⟨v0,h0,hO4⟩:=h.d;obtain rfl:v0=v4:=by rw[h4] at h0;injection h0 with h0;exact h0.symm
 have hsz:5<cs.size:=(dh.1 h4).1;have ho:∀j,5≠j->(cs.setIfInBounds 5 v')[j]?=cs[j]?:=λj hj=>tJ hj
 refine⟨⟨hB,λk hk=>?_,h.t.n⟩,?_,?_,?_,?_,h.be,(by show(ds++[x]).map aM.base=c.D++[x.base];rw[eU,h.bd];rfl),h.bm,?_,?_,?_⟩
 .obtain⟨v,h1,h2⟩:=h.t.t k hk
  exact⟨v,(ho _ ah).trans h1,h2.jk hO4 aj hs⟩
 .obtain⟨v,h1,h2⟩:=h.e
  exact⟨v,(ho _ ah).trans h1,h2.jk hO4 aj hs⟩
 .exact⟨v',Es hsz,hO⟩
 .obtain⟨v,h1,h2⟩:=h.m
  exact⟨v,(ho _ ah).trans h1,h2.jk hO4 aj hs⟩
 .obtain⟨v,h1,h2⟩:=h.q
  exact⟨v,(ho _ ah).trans h1,h2.jk hO4 aj hs⟩
 .exact h.se.imp (λ_ _ h=>h.jk hO4 aj hs)
 .exact(h.sd.imp (λ_ _ h=>h.jk hO4 aj hs)).snoc (hl.jk hO4 aj hs)
 .exact h.sm.imp (λ_ _ h=>h.jk hO4 aj hs)
theorem zT.WK {d:C}{P:(C->u Bs)->Prop}{X Y:World}{R:C}{cs:Array V}{c:Cont}{es:u EvC}{ds:u aM}{ms:u aN}(h:zT d P X R cs c es ds ms){v4 v':V}(h4:cs[6]?=S v4)(hs:Same (λi=>i≠R/\v4.ownBlock≠S i) X Y){x:aN}{l:u H}
  (hO:Own Y (R+1) 84 4 fD v' (ms++[x])) (hB:Bx Y R (cs.setIfInBounds 6 v')) (hl:Own X (R+1) 3 1 aX x.val l):zT d P Y R (cs.setIfInBounds 6 v') {c with M:=c.M++[x.base],SM:=c.SM++[l]} es ds (ms++[x]):=by
 obtain⟨v0,h0,hO4⟩:=h.m;obtain rfl:v0=v4:=by rw[h4] at h0;injection h0 with h0;exact h0.symm
 have hsz:6<cs.size:=(dh.1 h4).1;have ho:∀j,6≠j->(cs.setIfInBounds 6 v')[j]?=cs[j]?:=λj hj=>tJ hj
 refine⟨⟨hB,λk hk=>?_,h.t.n⟩,?_,?_,?_,?_,h.be,h.bd,(by show(ms++[x]).map aN.base=c.M++[x.base];rw[eU,h.bm];rfl),?_,?_,?_⟩
 .obtain⟨v,h1,h2⟩:=h.t.t k hk
  exact⟨v,(ho _ ah).trans h1,h2.jk hO4 aj hs⟩
 .obtain⟨v,h1,h2⟩:=h.e
  exact⟨v,(ho _ ah).trans h1,h2.jk hO4 aj hs⟩
 .obtain⟨v,h1,h2⟩:=h.d
  exact⟨v,(ho _ ah).trans h1,h2.jk hO4 aj hs⟩
 .exact⟨v',Es hsz,hO⟩
 .obtain⟨v,h1,h2⟩:=h.q
  exact⟨v,(ho _ ah).trans h1,h2.jk hO4 aj hs⟩
 .exact h.se.imp (λ_ _ h=>h.jk hO4 aj hs)
 .exact h.sd.imp (λ_ _ h=>h.jk hO4 aj hs)
 .exact(h.sm.imp (λ_ _ h=>h.jk hO4 aj hs)).snoc (hl.jk hO4 aj hs)
theorem zT.want {d:C}{P:(C->u Bs)->Prop}{X Y:World}{R:C}{cs:Array V}{c:Cont}{es:u EvC}{ds:u aM}{ms:u aN}(h:zT d P X R cs c es ds ms){v4 v':V}(h4:cs[7]?=S v4)(hs:Same (λi=>i≠R/\v4.ownBlock≠S i) X Y){x:Wa}
  (hO:Own Y (R+1) 88 2 gH v' (c.Q++[x])) (hB:Bx Y R (cs.setIfInBounds 7 v')):zT d P Y R (cs.setIfInBounds 7 v') {c with Q:=c.Q++[x]} es ds ms:=by
 obtain⟨v0,h0,hO4⟩:=h.q;obtain rfl:v0=v4:=by rw[h4] at h0;injection h0 with h0;exact h0.symm
 have hsz:7<cs.size:=(dh.1 h4).1;have ho:∀j,7≠j->(cs.setIfInBounds 7 v')[j]?=cs[j]?:=λj hj=>tJ hj
 refine⟨⟨hB,λk hk=>?_,h.t.n⟩,?_,?_,?_,?_,h.be,h.bd,h.bm,?_,?_,?_⟩
 .obtain⟨v,h1,h2⟩:=h.t.t k hk
  exact⟨v,(ho _ ah).trans h1,h2.jk hO4 aj hs⟩
 .obtain⟨v,h1,h2⟩:=h.e
  exact⟨v,(ho _ ah).trans h1,h2.jk hO4 aj hs⟩
 .obtain⟨v,h1,h2⟩:=h.d
  exact⟨v,(ho _ ah).trans h1,h2.jk hO4 aj hs⟩
 .obtain⟨v,h1,h2⟩:=h.m
  exact⟨v,(ho _ ah).trans h1,h2.jk hO4 aj hs⟩
 .exact⟨v',Es hsz,hO⟩
 .exact h.se.imp (λ_ _ h=>h.jk hO4 aj hs)
 .exact h.sd.imp (λ_ _ h=>h.jk hO4 aj hs)
 .exact h.sm.imp (λ_ _ h=>h.jk hO4 aj hs)
end Yd
namespace Yd
open Option renaming some->F
open Go Go.RowKit Go.Proofs Go.Maps Tryz
open Go renaming World->p,Value->I
open Go.IntKind renaming i64->y
open Go.Value renaming int->G,pointer->J
open Tryz renaming prog->z
open _root_ renaming List->C,Nat->D,absurd->H
theorem Tn:211<Tryz.prog.types.size:=xK ay
theorem aaV:(match Tryz.prog.underlying 211 with|some (.array _ _)|some (.struct _)=>true|_=>false)=true:=ay
theorem aeX:laidOutB z=true:=ay
theorem ahu:Tryz.prog.keyTypeAt 3 211=true:=ay
theorem Tp:WideMaps.KeyLaw z 211:=deep_law_laid aeX (m:=3) ah Tn ahu aaV
theorem aaW:Tryz.prog.keyType 211=true:=ay
theorem MQ:Tryz.prog.cellsOf 211=2:=ay
theorem XY:Tryz.prog.cellsOf 3=1:=ay
theorem Tq (u:p):(zeroValue 3).run z u= .ok (G y 0) u:=ay
def akC (t x:Int):Lit:= .string (keyBytes [.int .i64 t,.int .i64 x])
theorem aaX (t x:Int)(h1:(Lit.int y t).wf=true)(h2:(Lit.int y x).wf=true)(n:D):Tryz.prog.keyLits (n+2) 211 [G y t,G y x]=F [.int .i64 t,.int .i64 x]:=by
 have e1:Tryz.prog.keyLits (n+1) 3 [G y t]=F [.int .i64 t]:=by
  unfold Program.keyLits;rw[underlying3];simp[h1]
 have e2:Tryz.prog.keyLits (n+1) 3 [G y x]=F [.int .i64 x]:=by
  unfold Program.keyLits;rw[underlying3];simp[h2]
 unfold Program.keyLits;rw[underlying211];simp[MQ,XY,List.mapM_cons,e1,e2]
theorem PZ {t x:Int}(h1:(Lit.int y t).wf=true)(h2:(Lit.int y x).wf=true):keyOf z 211 (oG t x)=F (akC t x):=by
 have hs:Tryz.prog.types.size+1=(Tryz.prog.types.size - 1)+2:=by have:=Tn;omega
 unfold keyOf;rw[underlying211];simp only[aaW,hs];rw[av (by simp[Value.formed,underlying211,MQ])];rw[show(oG t x).cells.toList=[G y t,G y x] from rfl,aaX t x h1 h2]
 rfl
def kU (W:p)(b:D)(E:C EvC):Prop:=∃n f,n<=E.length/\nP z 211 3 W b n f/\∀t x,(f t x).getD 0=(iC E t x:Int)
theorem kU.new (w:p):kU (w.alloc (.map #[] 0)) w.1.size []:=⟨0,_,aZ _,nP.new w,λ_ _=>rfl⟩
theorem kU.of_eq {W W':p}{b:D}{E:C EvC}(h:kU W b E)(q:W'.1[b]?=W.1[b]?):kU W' b E:=(let⟨n,f,h1,h2,h3⟩:=h;⟨n,f,h1,h2.of_eq q,h3⟩)
theorem kU.obj {W:p}{b:D}{E:C EvC}(h:kU W b E):∃es clock,W.1[b]?=F (.map es clock):=(let⟨_,_,_,h2,_⟩:=h;h2.obj)
theorem kU.lt {W:p}{b:D}{E:C EvC}(h:kU W b E):b<W.1.size:=(let⟨_,_,_,h2,_⟩:=h;h2.lt)
theorem kU.same {A:D->Prop}{W W':p}{b:D}{E:C EvC}(h:kU W b E)(s:Same A W W')(hb:A b):kU W' b E:=h.of_eq (s.block b hb h.lt)
theorem kU.other {W:p}{b:D}{E:C EvC}{e:EvC}(h:kU W b E)(he:e.kind≠2):kU W b (E++[e]):=
 (let⟨n,f,h1,h2,h3⟩:=h;⟨n,f,by rw[bL];omega,h2,λt x=>by rw[h3,vX,au (λk=>he k.1)];rfl⟩)
theorem kU.look {W:p}{b:D}{E:C EvC}(h:kU W b E){t x:Int}(h1:(Lit.int y t).wf=true)(h2:(Lit.int y x).wf=true):
  (Instr.lookup 118 (.map (F b)) (.agg #[G y t,G y x]) false).run z W= .ok (G y (iC E t x:Int)) W:=by
 obtain⟨n,f,_,hm,hf⟩:=h;rw[<-hf];exact hm.look Tp underlying118 underlying3 (Tq W) (PZ h1 h2)
theorem kU.bump {W:p}{b:D}{E:C EvC}(h:kU W b E)(hE:E.length<=3000)(e:EvC)(he:e.kind=2)(h1:(Lit.int y e.t).wf=true)(h2:(Lit.int y e.obj).wf=true):
  ∃(v0:I)(st:D)(W1 W2:p),(Instr.mapEntry 118 (.map (F b)) (.agg #[G y e.t,G y e.obj])).run z W= .ok (.tuple #[v0,G y st]) W1/\
   (Instr.lookup 118 (.map (F b)) (.agg #[G y e.t,G y e.obj]) false).run z W1= .ok (G y (iC E e.t e.obj:Int)) W1/\
   (Instr.entryStore 118 (.map (F b)) (G y st) (G y ((iC E e.t e.obj:Int)+1))).run z W1= .ok () W2/\Same (λi=>i≠b) W W1/\Same (λi=>i≠b) W W2/\kU W2 b (E++[e]):=by
 obtain⟨n,f,hn,hm,hf⟩:=h;have hl:=Mf E e.t e.obj;obtain⟨v0,st,W1,W2,r1,r2,r3,⟨o1,e1⟩,⟨o2,e2⟩,hm2⟩:=hm.entry Tp underlying118 underlying3 Tq (by unfold maxLen;omega) (PZ h1 h2) (v:=(iC E e.t e.obj:Int)+1) (WalkArith.wf_i64 ah);rw[hf] at r2;have hs:∀o,Same (λi=>i≠b) W (ChangeMaps.setBlock W b o):=λo=>⟨rfl,rfl,rfl,by simp[ChangeMaps.setBlock],λi hi _=>by
  show(W.1.setIfInBounds b o)[i]?=_;rw[tJ (λq=>hi q.symm)]⟩
 refine⟨v0,st,W1,W2,r1,r2,r3,e1▸hs o1,e2▸hs o2,n+1,_,by rw[bL,kN];omega,hm2,λt x=>?_⟩;rw[vX];show((if t=e.t/\x=e.obj then F _ else f t x:Option Int)).getD 0=_;by_cases hx:t=e.t/\x=e.obj
 .rw[av hx,av ⟨he,hx.1.symm,hx.2.symm⟩,hx.1,hx.2];rfl
 .rw[au hx,au (λk=>hx ⟨k.2.1.symm,k.2.2.symm⟩),hf];rfl
theorem akD {c d:Cont}{n:D->C Bs}(h:Nm c d)(hn:d.nl=n):{c with nl:=n}=d:=by
 obtain⟨d1,d2,d3,d4,d5,d6,d7,d8⟩:=d;obtain⟨k1,k2,k3,k4,k5,k6,k7⟩:=h;simp only at hn k1 k2 k3 k4 k5 k6 k7;subst hn k1 k2 k3 k4 k5 k6 k7
 rfl
structure jE (B:D)(w:p)(R:D)(cs:Array I)(c:Cont)(es:C EvC)(ds:C aM)(ms:C aN):Prop where
 s:Cc w R cs c es ds ms
 m:∃mb,cs[12]?=F (.map (F mb))/\kU w mb c.E/\B<=mb
 b:B<=R
theorem Bx.Bf {w:p}{R mb:D}{cs:Array I}{v:I}{j:D}(h:Bx w R cs)(hj:cs[j]?=F v)(hm:∃es clock,w.1[mb]?=F (.map es clock)):mb≠R:=λe=>by
 obtain⟨es,clock,hm⟩:=hm;subst e;have:=(h.1 j).trans hj;unfold World.cell? at this;simp[hm] at this
theorem jE.xS {B:D}{X Y:p}{R:D}{cs cs':Array I}{c:Cont}{es:C EvC}{ds:C aM}{ms:C aN}{nl:D->C Bs}(h:jE B X R cs c es ds ms)(hs:Same (λi=>i≠R) X Y)(hT:KH Y R cs' nl)(ho:∀j,j<8\/j=12->cs'[j]?=cs[j]?):
  jE B Y R cs' {c with nl:=nl} es ds ms:=
 ⟨h.s.xS hs hT (λj hj=>ho j (.inl hj)),(let⟨mb,h1,h2,h3⟩:=h.m;⟨mb,(ho 12 (.inr rfl)).trans h1,h2.same hs (h.s.t.b.Bf h1 h2.obj),h3⟩),h.b⟩
theorem jE.below {B:D}{X Y:p}{R:D}{cs:Array I}{c:Cont}{es:C EvC}{ds:C aM}{ms:C aN}(h:jE B X R cs c es ds ms)(hb:Below X.1.size X Y):jE B Y R cs c es ds ms:=
 h.xS (Same.of_below hb (λ_ _ h=>h)) (h.s.t.below hb) (λ_ _=>rfl)
def Eb (T:TypeId):Prop:=T≠50/\T≠79/\T≠84/\T≠88/\T≠98
def pE (w:p)(K:D):Prop:=∀i,K<=i->i<K+3->∃q T fz,w.1[i]?=F (.cells q T fz)/\Eb T
def nG (B K:D)(w:p):Prop:=∀W,Same (λi=>i<B\/(K<=i/\i<K+3)) w W->vB W
theorem nG.same {B K:D}{w X:p}(h:nG B K w)(s:Same (λi=>i<B\/(K<=i/\i<K+3)) w X):nG B K X:=λW k=>h W (s.tr k)
theorem nG.r {B K R:D}{w:p}(h:nG B K w)(hB:B<=R)(hK:R<K):Et R w:=λW k=>h W (k.mono (λi hi _=>by omega))
theorem nG.here {B K:D}{w:p}(h:nG B K w):vB w:=h w (Same.refl' w)
theorem Same.Je {B K:D}{w X:p}(s:Same (λi=>i<B\/(K<=i/\i<K+3)) w X)(h:pE w K):pE X K:=
 λi h1 h2=>(let⟨q,T,fz,e,hT⟩:=h i h1 h2;⟨q,T,fz,(s.block i (.inr ⟨h1,h2⟩) (dh.1 e).1).trans e,hT⟩)
def gW (B K R:D)(d:Cont)(w:p)(e:Ending)(w':p):Prop:=
 Same (λi=>i<B\/(K<=i/\i<K+3)) w w'/\(aJ d->e= .returned (.tuple #[])/\∃cs es ds ms,jE B w' R cs d es ds ms)/\(¬aJ d->e= .panicked kK)
section
variable {B K R:D}{cs:Array I}{c:Cont}{es:C EvC}{ds:C aM}{ms:C aN}
theorem iO (k:D)(hk:k<4)(s:Bs)(w:p)(h:jE B w R cs c es ds ms)(hf:aJ c)(hs:bF ⟨s.toArray⟩=true)(hG:nG B K w):
  Calls z 142 #[J (F ⟨R,0,none⟩),G y (k:Int),.string ⟨s.toArray⟩] w (λe w'=>Same (λi=>i≠R) w w'/\
   (aJ (c.put k s)->e= .returned (G y (c.no k s))/\∃cs',jE B w' R cs' (c.put k s) es ds ms/\cs'.size=cs.size/\∀j,j<8\/j=12->cs'[j]?=cs[j]?)/\(¬aJ (c.put k s)->e= .panicked kK)):=by
 refine(Gi k hk s w h.s.t hs hG.here).mono ?_;rintro e w' ⟨hS,he⟩;refine⟨hS,?_⟩;rw[PY hf hk];by_cases hx:(dL (c.nl k) s).length<=mD k
 .rw[av hx] at he
  obtain⟨rfl,cs',hT,hsz,ho⟩:=he;exact⟨λ_=>⟨rfl,cs',h.xS hS hT (λj hj=>ho j ah),hsz,λj hj=>ho j ah⟩,λhn=>H hx hn⟩
 .rw[au hx] at he
  exact⟨λhn=>H hn hx,λ_=>he⟩
theorem Tt (v:To)(w:p)(h:jE B w R cs c es ds ms)(hf:aJ c)(hv:j5 v)(hG:nG B K w):
  Calls z 144 #[J (F ⟨R,0,none⟩),rV v] w (λe w'=>Same (λi=>i≠R) w w'/\
   (aJ (c.dz v).1->e= .returned (.agg #[G y (c.dz v).2.t,G y (c.dz v).2.k])/\∃cs',jE B w' R cs' (c.dz v).1 es ds ms/\cs'.size=cs.size/\∀j,j<8\/j=12->cs'[j]?=cs[j]?)/\(¬aJ (c.dz v).1->e= .panicked kK)):=by
 refine(U6 v hv w h.s.t hG.here).mono ?_;rintro e w' ⟨hS,he⟩;refine⟨hS,?_⟩;rw[aaR hf];by_cases hx:v.k=0\/(dL (c.nl 0) v.name).length<=mD 0
 .rw[av hx] at he
  obtain⟨rfl,cs',hT,hsz,ho⟩:=he;refine⟨λ_=>⟨?_,cs',?_,hsz,λj hj=>ho j ah⟩,λhn=>H hx hn⟩
  .unfold Cont.dz
   by_cases h0:v.k=0
   .rw[av h0,av h0,h0]
   .rw[au h0,au h0];rfl
  .have:=h.xS hS hT (λj hj=>ho j ah)
   unfold Cont.dz;unfold nlV at this;by_cases h0:v.k=0
   .rw[av h0] at this ⊢;exact this
   .rw[au h0] at this ⊢;exact this
 .rw[au hx] at he
  exact⟨λhn=>H hn hx,λ_=>he⟩
theorem XZ (l:C Bs)(ta:Option Addr)(n tc:D)(w:p)(h:jE B w R cs c es ds ms)(hf:aJ c)(hr:Row w 1 encStr ta n tc l)(hne:∀b o,ta=F ⟨b,o,none⟩->b≠R)(hw:∀s∈l,bF ⟨s.toArray⟩=true)(hn:n<=100000)(hG:nG B K w)(ru:R<K):
  Calls z 145 #[J (F ⟨R,0,none⟩),.slice ta n tc] w (λe w'=>Same (λi=>i≠R) w w'/\
   (aJ (c.ts l).1->∃a q,e= .returned (.slice a l.length q)/\Own w' w.1.size 3 1 aX (.slice a l.length q) (c.ts l).2/\∃cs',jE B w' R cs' (c.ts l).1 es ds ms/\cs'.size=cs.size/\∀j,j<8\/j=12->cs'[j]?=cs[j]?)/\(¬aJ (c.ts l).1->e= .panicked kK)):=by
 refine(akB l ta n tc w h.s.t hr hne hw hn (hG.r h.b ru)).mono ?_;rintro e w' ⟨hS,he⟩;refine⟨hS,?_⟩;rw[aeT hf];by_cases hx:((l6 c.nl l).1 0).length<=mD 0
 .rw[av hx] at he
  obtain⟨a,q,cs',rfl,hO,hT,hsz,ho⟩:=he;have e2:{c with nl:=(l6 c.nl l).1}=(c.ts l).1:=akD (Nm.ts l c) (NW l c).1;refine⟨λ_=>⟨a,q,rfl,by rw[(NW l c).2];exact hO,cs',?_,hsz,λj hj=>ho j ah⟩,λhn=>H hx hn⟩;rw[<-e2];exact h.xS hS hT (λj hj=>ho j ah)
 .rw[au hx] at he
  exact⟨λhn=>H hn hx,λ_=>he⟩
theorem KI (ev:EvC)(l:C Sn)(w:p)(h:Cc w R cs c es ds ms)(hm:∃mb,cs[12]?=F (.map (F mb))/\kU w mb (c.E++[ev.base])/\B<=mb)(hB:B<=R)(hf:aJ c)(hl:Own w (R+1) 98 3 dV ev.val l)(hk:ev.kind=2->ev.v.k<=999)(hK:pE w K)(ru:R<K):
  Calls z 141 #[J (F ⟨R,0,none⟩),fZ ev] w (λe w'=>(∀g q T fz,w.1[g]?=F (.cells q T fz)->T≠50->g≠R->w'.1[g]?=w.1[g]?)/\gW B K R (c.ev ev.base l) w e w'):=by
 obtain⟨v4,h4,hO⟩:=h.e;have hlen:es.length=c.E.length:=by rw[<-h.be,bH]
 refine(OC ev w h.t.b h4 hO (by rw[hlen];exact hf.2.1)).mono ?_;rintro e w' ⟨hS,he⟩;refine⟨λg q T fz hg hT hgR=>hS.block g ⟨hgR,λq=>by
  obtain⟨cs1,f1,e1⟩:=hO.tag q;rw[e1] at hg
  cases hg
  exact hT rfl⟩ (dh.1 hg).1,hS.mono (λi hi _=>⟨by omega,λq=>by
  rcases hi with hi|hi
  .have:=(hO.lt i q).1;omega
  .obtain⟨_,_,q1⟩:=hO.tag q
   obtain⟨_,T,_,q2,hT⟩:=hK i hi.1 hi.2;rw[q1] at q2
   cases q2
   exact hT.1 rfl⟩),?_⟩
 rw[Sz hf,<-hlen];by_cases hx:es.length<3000
 .rw[av hx] at he
  obtain⟨rfl,v',WR,hB'⟩:=he;obtain⟨mb,m1,m2,m3⟩:=hm;refine⟨λ_=>⟨rfl,_,_,_,_,h.event h4 hS WR hB' hl,⟨mb,?_,?_,m3⟩,hB⟩,λhn=>H ⟨hx,hk⟩ hn⟩
  .rw[tJ ah];exact m1
  .refine m2.same hS ⟨h.t.b.Bf m1 m2.obj,λq=>?_⟩
   obtain⟨cs1,f1,e1⟩:=hO.tag q;obtain⟨_,_,e2⟩:=m2.obj;rw[e1] at e2;cases e2
 .rw[au hx] at he
  exact⟨λhn=>H hn.1 hx,λ_=>he⟩
end
end Yd
namespace Yd
open Option renaming none->p,some->r
open Go Go.RowKit Go.Proofs Tryz
open Below renaming refl->N
open Go renaming World->Z
open Go.IntKind renaming i64->G
open Go.Obj renaming cells->L
open Go.RowKit renaming Hid->H
open Go.Value renaming slice->C,int->E,bool->O,string->S
open Same renaming of_below->I
open World renaming cell?_of_block->J
open Yd renaming hid->f
open _root_ renaming trivial->P,List->U
structure xM (w:Z)(B:Nat)(l:bE)(s:aH):Prop where
 k:l.kind=s.kind/\l.lvl=s.lvl/\l.first=s.first/\l.bits=s.bits/\l.nn=s.names.length/\l.vn=s.aG.length
 n:Row w 1 encStr l.na l.nn l.nc s.names
 v:Row w 2 sI l.va l.vn l.vc s.aG
 na:∀b o,l.na=r ⟨b,o,p⟩->b<B
 va:∀b o,l.va=r ⟨b,o,p⟩->b<B
theorem Same.row {α:Type}{A:Nat->Prop}{X Y:Z}{k n c:Nat}{enc:α->U Value}{a:Option Addr}{xs:U α}(s:Same A X Y)(h:Row X k enc a n c xs)(ha:∀b o,a=r ⟨b,o,p⟩->A b):Row Y k enc a n c xs:=
 ⟨h.1,h.2.1,h.2.2.1,h.2.2.2.1,λi x hx=>(let⟨b,o,hab,hc⟩:=h.2.2.2.2 i x hx;⟨b,o,hab,λj v hv=>(J (a:=⟨b,o+i*k+j,p⟩) (s.block b (ha b o hab) (dR (hc j v hv)))).trans (hc j v hv)⟩)⟩
theorem Same.cell {A:Nat->Prop}{X Y:Z}{b o:Nat}{v:Value}(s:Same A X Y)(h:X.cell? ⟨b,o,p⟩=r v)(ha:A b):Y.cell? ⟨b,o,p⟩=r v:=
 (J (a:=⟨b,o,p⟩) (s.block b ha (dR h))).trans h
theorem X0 {s:aH}(hok:dW s)(hk:s.kind=5\/s.kind=6\/s.kind=9):∃n0,s.names=[n0]:=by
 have hlen:s.names.length=1:=by
  rcases hok.2.2 with h|h|h|h|h|h|h|h|h <;> (first|exact h.2.1|(exfalso;have:=h.1;omega))
 match s.names,hlen with
 |[a],_=>exact⟨a,rfl⟩
theorem names2 {s:aH}(hok:dW s)(hk:s.kind=1\/s.kind=2\/s.kind=3):∃n0 n1,s.names=[n0,n1]:=by
 have hlen:s.names.length=2:=by
  rcases hok.2.2 with h|h|h|h|h|h|h|h|h <;> (first|exact h.2.1|(exfalso;have:=h.1;omega))
 match s.names,hlen with
 |[a,b],_=>exact⟨a,b,rfl⟩
theorem akE {s:aH}(hok:dW s)(hk:s.kind=3):∃v0,s.aG=[v0]:=by
 have hlen:s.aG.length=1:=by
  rcases hok.2.2 with h|h|h|h|h|h|h|h|h <;> (first|exact h.2.2.1|(exfalso;have:=h.1;omega))
 match s.aG,hlen with
 |[a],_=>exact⟨a,rfl⟩
theorem xM.dz {w:Z}{B:Nat}{l:bE}{s:aH}(h:xM w B l s){i:Nat}{x:To}(hi:s.aG[i]?=r x):∃nb no,l.va=r ⟨nb,no,p⟩/\nb<B/\w.cell? ⟨nb,no+i*2,p⟩=r (S ⟨x.name.toArray⟩)/\w.cell? ⟨nb,no+i*2+1,p⟩=r (E G x.k):=by
 obtain⟨b,o,ha,hc⟩:=h.v.2.2.2.2 i x hi;exact⟨b,o,ha,h.va b o ha,hc 0 _ rfl,hc 1 _ rfl⟩
theorem xM.name {w:Z}{B:Nat}{l:bE}{s:aH}(h:xM w B l s){i:Nat}{x:Bs}(hi:s.names[i]?=r x):∃nb no,l.na=r ⟨nb,no,p⟩/\nb<B/\w.cell? ⟨nb,no+i,p⟩=r (S ⟨x.toArray⟩):=by
 obtain⟨b,o,ha,hc⟩:=h.n.2.2.2.2 i x hi;exact⟨b,o,ha,h.na b o ha,by have:=hc 0 _ rfl;simpa using this⟩
section
variable {B K R:Nat}{cs:Array Value}{c:Cont}{es:U EvC}{ds:U aM}{ms:U aN}
theorem XH (l:bE)(s:aH)(w:Z)(h:jE B w R cs c es ds ms)(hf:aJ c)(hl:xM w B l s)(hk:s.kind=1)(hok:dW s)(hG:nG B K w)(pF:pE w K)(ru:R<K):
  Calls Tryz.prog 100 #[.pointer (r ⟨R,0,p⟩),dY l] w (gW B K R (aR c s) w):=by
 obtain⟨n0,n1,hn⟩:=names2 hok (.inl hk);have hnn:l.nn=2:=by rw[hl.k.2.2.2.2.1,hn];rfl
 obtain⟨nb,no,ha0,hb0,hd0⟩:=hl.name (i:=0) (x:=n0) (by rw[hn];rfl);obtain⟨nb',no',ha1,hb1,hd1⟩:=hl.name (i:=1) (x:=n1) (by rw[hn];rfl);rw[ha0] at ha1;injection ha1 with q;injection q with q1 q2;subst q1 q2;obtain⟨lk,la,ln,nc,lvl,va,vn,vc,lf,bits⟩:=l;obtain⟨k1,k2,k3,k4,k5,k6⟩:=hl.k;simp only at k1 k2 k3 k4 k5 k6 ha0 hnn;rw[hk] at k1;subst k1;have iZ:H (aR c s=((c.put 0 n0).put 1 n1).ev ⟨1,c.no 0 n0,(c.put 0 n0).no 1 n1,lvl,0,⟨0,0⟩,0,p,0,0⟩ []):=f (by unfold aR;simp only[hk,hn,<-k2,<-k3,<-k4];rfl);subst ha0 hnn;have xP:=f pF;have fT:=f ru;have gy:H (K+3<=w.1.size):=f (let⟨q,T,fz,e,_⟩:=pF (K+2) ah ah;(dh.1 e).1);clear pF ru;have HB:=f h.b;have fG:H (R<w.1.size):=f h.s.t.b.2.2;obtain⟨V,hV⟩:∃V,V=w.alloc (L #[E G 1,C (r ⟨nb,no,p⟩) 2 nc,E G lvl,C va vn vc,O lf,E G bits] 66):=⟨_,rfl⟩;have cZ:H (Below w.1.size w V):=f (by rw[hV];exact aA (N w.1.size w) _);have HX:H (Bx V w.1.size #[E G 1,C (r ⟨nb,no,p⟩) 2 nc,E G lvl,C va vn vc,O lf,E G bits]):=f (by rw[hV];exact Bx.new w _ _);have zG:H (V.1[w.1.size]?=r (L #[E G 1,C (r ⟨nb,no,p⟩) 2 nc,E G lvl,C va vn vc,O lf,E G bits] 66 (0,0))):=f (by rw[hV];exact gX w _);have cB:H (∀W,W.1[w.1.size]?=V.1[w.1.size]?->Same (λi=>i<B\/(K<=i/\i<K+3)) w W->(λW'=>W'.cell? ⟨w.1.size,0,p⟩=r (E G 1)/\W'.cell? ⟨w.1.size,1,p⟩=r (C (r ⟨nb,no,p⟩) 2 nc)/\W'.cell? ⟨w.1.size,2,p⟩=r (E G lvl)/\W'.cell? ⟨nb,no,p⟩=r (S ⟨n0.toArray⟩)/\W'.cell? ⟨nb,no+1,p⟩=r (S ⟨n1.toArray⟩)) W):=f (λW hb hs=>⟨(J (a:=⟨w.1.size,0,p⟩) hb).trans (HX.q.1 0),(J (a:=⟨w.1.size,1,p⟩) hb).trans (HX.q.1 1),(J (a:=⟨w.1.size,2,p⟩) hb).trans (HX.q.1 2),hs.cell hd0 ah,hs.cell hd1 ah⟩);have iw:H (∀W,Same (λi=>i<B\/(K<=i/\i<K+3)) w W->¬aJ (aR c s)->gW B K R (aR c s) w (.panicked kK) W):=f (λW hs hn=>⟨hs,λk=>absurd k hn,λ_=>rfl⟩);have jP:H (True/\(aJ (aR c s)->aJ ((c.put 0 n0)))/\(aJ (aR c s)->aJ (((c.put 0 n0).put 1 n1)))):=f (by rw[iZ.q];exact⟨P,λk=>((Gr.put _ 1 _).trans (Gr.ev _ _ _)).fits k,λk=>(Gr.ev _ _ _).fits k⟩);have nV:H (Same (λi=>i≠R) V V.drew):=f (I (N _ _).drew (λ_ _ h=>h));have HT0:H (Same (λi=>i<B\/(K<=i/\i<K+3)) w V.drew):=f (I cZ.q.drew (λi hi hl=>by have:=HB.q;have:=fT.q;have:=gy.q;have:=fG.q;omega));have jw:=f (h.below cZ.q.drew);have yE:=f hf;have HG:=f hG;have HW:=f ((⟨hok.1 n0 (by rw[hn];simp),hok.1 n1 (by rw[hn];simp)⟩:_/\_));have uM:H (V.drew.1[w.1.size]?=V.1[w.1.size]?):=f rfl;clear k2 k3 k4 k5 k6 hk hn;clear h hf hG hl hok hb0 hd0 hb1 hd1;go_enter func100,ntmps100;go_wp2_with fail;rw[<-hV];clear hV;refine dA 99 [(0,0),(1,0),(2,0),(3,0),(4,0),(5,0),(6,0),(7,0),(9,0),(10,0),(11,0),(12,0),(13,0),(15,0),(16,0),(8,2),(14,2),(17,0),(18,2)] (λ_=>True) (λW'=>W'.cell? ⟨w.1.size,0,p⟩=r (E G 1)/\W'.cell? ⟨w.1.size,1,p⟩=r (C (r ⟨nb,no,p⟩) 2 nc)/\W'.cell? ⟨w.1.size,2,p⟩=r (E G lvl)/\W'.cell? ⟨nb,no,p⟩=r (S ⟨n0.toArray⟩)/\W'.cell? ⟨nb,no+1,p⟩=r (S ⟨n1.toArray⟩)) (λch w'=>gW B K R (aR c s) w (.panicked ch) w') ay ay (λch a1 w1 hd hr=>⟨hd,hr⟩) (trivial) (cB.q _ uM.q HT0.q) ?_;refine qC ?_;refine aF rfl rfl (λK hK=>?_);go_simp;refine(iO 0 ah n0 _ jw.q yE.q HW.q.1 (HG.q.same HT0.q)).mono ?_;rintro e w1 ⟨hS,he⟩;have gB:=f (nV.q.tr hS);have HT1:=f (HT0.q.tr (hS.mono (λi hi _=>by have:=HB.q;have:=fT.q;have:=gy.q;omega)));rcases iK (aJ (c.put 0 n0)) with hf|hf;rotate_left
 .obtain rfl:=he.2 hf
  exact⟨rfl,iw.q _ HT1.q (λk=>hf (jP.q.2.1 k))⟩
 obtain⟨rfl,cs1,hr,hz,ho⟩:=he.1 hf;have HR1:=f hr;have nW:=f hf;have Dl:=f ho;have mV:=f (gB.q.block w.1.size (by have:=fG.q;omega) HX.q.2.2);refine hK _ _ ⟨P,cB.q _ mV.q HT1.q⟩ ?_;clear hK K hr hz ho hf he hS;refine aF rfl rfl (λK hK=>?_);go_simp;refine(iO 1 ah n1 _ HR1.q nW.q HW.q.2 (HG.q.same HT1.q)).mono ?_;rintro e w2 ⟨hS,he⟩;have HS2:=f (gB.q.tr hS);have HT2:=f (HT1.q.tr (hS.mono (λi hi _=>by have:=HB.q;have:=fT.q;have:=gy.q;omega)));rcases iK (aJ ((c.put 0 n0).put 1 n1)) with hf|hf;rotate_left
 .obtain rfl:=he.2 hf
  exact⟨rfl,iw.q _ HT2.q (λk=>hf (jP.q.2.2 k))⟩
 obtain⟨rfl,cs2,hr,hz,ho⟩:=he.1 hf;have HR2:=f hr;have nH:=f hf;have l8:=f ho;have kW:=f (HS2.q.block w.1.size (by have:=fG.q;omega) HX.q.2.2);refine hK _ _ ⟨P,cB.q _ kW.q HT2.q⟩ ?_;clear hK K hr hz ho hf he hS;refine qC ?_;refine aF rfl rfl (λK hK=>?_);go_simp;refine(KI ⟨1,c.no 0 n0,(c.put 0 n0).no 1 n1,lvl,0,⟨0,0⟩,0,p,0,0⟩ [] _ HR2.q.s (let⟨mb,m1,m2,m3⟩:=HR2.q.m;⟨mb,m1,m2.other (by show(1:Int)≠2;decide),m3⟩) HB.q nH.q (Own.jY _ _ _ _ _) (λk=>absurd k (by show(1:Int)≠2;decide)) (HT2.q.Je xP.q) fT.q).mono ?_;rintro e w3 ⟨hfr,hS,he⟩;have xU:=f (HT2.q.tr hS);have lJ:=f ((hfr w.1.size _ _ _ (kW.q.trans zG.q) aj (by have:=fG.q;omega)).trans kW.q);rcases iK (aJ (aR c s)) with hf|hf;rotate_left
 .obtain rfl:=he.2 (by rw[iZ.q] at hf;exact hf)
  exact⟨rfl,iw.q _ xU.q hf⟩
 obtain⟨rfl,hr⟩:=he.1 (by rw[iZ.q] at hf;exact hf);have Dm:=f hr;have zJ:=f hf;refine hK _ _ ⟨P,cB.q _ lJ.q xU.q⟩ ?_;clear hK K hr hf he hS hfr;refine jA ?_;go_wp2_with fail;refine bodyPost_end (results_none rfl _ _ _) rfl ?_;exact⟨xU.q,λ_=>⟨rfl,by rw[iZ.q];exact Dm.q⟩,λk=>absurd zJ.q k⟩
theorem Tf (l:bE)(s:aH)(w:Z)(h:jE B w R cs c es ds ms)(hf:aJ c)(hl:xM w B l s)(hk:s.kind=5\/s.kind=6)(hok:dW s)(hG:nG B K w)(pF:pE w K)(ru:R<K):
  Calls Tryz.prog 104 #[.pointer (r ⟨R,0,p⟩),dY l] w (gW B K R (aR c s) w):=by
 obtain⟨n0,hn⟩:=X0 hok ah;have hnn:l.nn=1:=by rw[hl.k.2.2.2.2.1,hn];rfl
 obtain⟨nb,no,ha0,hb0,hd0⟩:=hl.name (i:=0) (x:=n0) (by rw[hn];rfl);obtain⟨lk,la,ln,nc,lvl,va,vn,vc,lf,bits⟩:=l;obtain⟨k1,k2,k3,k4,k5,k6⟩:=hl.k;simp only at k1 k2 k3 k4 k5 k6 ha0 hnn;rw[<-k1] at hk;have iZ:H (aR c s=(c.put 0 n0).ev ⟨lk,c.no 0 n0,0,0,0,⟨0,0⟩,0,p,0,0⟩ []):=f (by unfold aR;rw[<-k1];simp only[hn];rcases hk with rfl|rfl <;> rfl);have J6:H (lk≠2):=f ah;subst ha0 hnn;have xP:=f pF;have fT:=f ru;have gy:H (K+3<=w.1.size):=f (let⟨q,T,fz,e,_⟩:=pF (K+2) ah ah;(dh.1 e).1);clear pF ru;have HB:=f h.b;have fG:H (R<w.1.size):=f h.s.t.b.2.2;obtain⟨V,hV⟩:∃V,V=w.alloc (L #[E G lk,C (r ⟨nb,no,p⟩) 1 nc,E G lvl,C va vn vc,O lf,E G bits] 66):=⟨_,rfl⟩;have cZ:H (Below w.1.size w V):=f (by rw[hV];exact aA (N w.1.size w) _);have HX:H (Bx V w.1.size #[E G lk,C (r ⟨nb,no,p⟩) 1 nc,E G lvl,C va vn vc,O lf,E G bits]):=f (by rw[hV];exact Bx.new w _ _);have zG:H (V.1[w.1.size]?=r (L #[E G lk,C (r ⟨nb,no,p⟩) 1 nc,E G lvl,C va vn vc,O lf,E G bits] 66 (0,0))):=f (by rw[hV];exact gX w _);have cB:H (∀W,W.1[w.1.size]?=V.1[w.1.size]?->Same (λi=>i<B\/(K<=i/\i<K+3)) w W->(λW'=>W'.cell? ⟨w.1.size,0,p⟩=r (E G lk)/\W'.cell? ⟨w.1.size,1,p⟩=r (C (r ⟨nb,no,p⟩) 1 nc)/\W'.cell? ⟨nb,no,p⟩=r (S ⟨n0.toArray⟩)) W):=f (λW hb hs=>⟨(J (a:=⟨w.1.size,0,p⟩) hb).trans (HX.q.1 0),(J (a:=⟨w.1.size,1,p⟩) hb).trans (HX.q.1 1),hs.cell hd0 ah⟩);have iw:H (∀W,Same (λi=>i<B\/(K<=i/\i<K+3)) w W->¬aJ (aR c s)->gW B K R (aR c s) w (.panicked kK) W):=f (λW hs hn=>⟨hs,λk=>absurd k hn,λ_=>rfl⟩);have jP:H (True/\(aJ (aR c s)->aJ ((c.put 0 n0)))):=f (by rw[iZ.q];exact⟨P,λk=>(Gr.ev _ _ _).fits k⟩);have nV:H (Same (λi=>i≠R) V V.drew):=f (I (N _ _).drew (λ_ _ h=>h));have HT0:H (Same (λi=>i<B\/(K<=i/\i<K+3)) w V.drew):=f (I cZ.q.drew (λi hi hl=>by have:=HB.q;have:=fT.q;have:=gy.q;have:=fG.q;omega));have jw:=f (h.below cZ.q.drew);have yE:=f hf;have HG:=f hG;have HW:=f (hok.1 n0 (by rw[hn];simp));have uM:H (V.drew.1[w.1.size]?=V.1[w.1.size]?):=f rfl;clear k1 k2 k3 k4 k5 k6 hk hn;clear h hf hG hl hok hb0 hd0;go_enter func104,ntmps104;go_wp2_with fail;rw[<-hV];clear hV;refine dA 99 [(0,0),(1,0),(2,0),(3,0),(4,0),(5,0),(6,0),(7,0),(8,2),(9,0),(10,2)] (λ_=>True) (λW'=>W'.cell? ⟨w.1.size,0,p⟩=r (E G lk)/\W'.cell? ⟨w.1.size,1,p⟩=r (C (r ⟨nb,no,p⟩) 1 nc)/\W'.cell? ⟨nb,no,p⟩=r (S ⟨n0.toArray⟩)) (λch w'=>gW B K R (aR c s) w (.panicked ch) w') ay ay (λch a1 w1 hd hr=>⟨hd,hr⟩) (trivial) (cB.q _ uM.q HT0.q) ?_;refine qC ?_;refine aF rfl rfl (λK hK=>?_);go_simp;refine(iO 0 ah n0 _ jw.q yE.q HW.q (HG.q.same HT0.q)).mono ?_;rintro e w1 ⟨hS,he⟩;have gB:=f (nV.q.tr hS);have HT1:=f (HT0.q.tr (hS.mono (λi hi _=>by have:=HB.q;have:=fT.q;have:=gy.q;omega)));rcases iK (aJ (c.put 0 n0)) with hf|hf;rotate_left
 .obtain rfl:=he.2 hf
  exact⟨rfl,iw.q _ HT1.q (λk=>hf (jP.q.2 k))⟩
 obtain⟨rfl,cs1,hr,hz,ho⟩:=he.1 hf;have HR1:=f hr;have nW:=f hf;have Dl:=f ho;have mV:=f (gB.q.block w.1.size (by have:=fG.q;omega) HX.q.2.2);refine hK _ _ ⟨P,cB.q _ mV.q HT1.q⟩ ?_;clear hK K hr hz ho hf he hS;refine qC ?_;refine aF rfl rfl (λK hK=>?_);go_simp;refine(KI ⟨lk,c.no 0 n0,0,0,0,⟨0,0⟩,0,p,0,0⟩ [] _ HR1.q.s (let⟨mb,m1,m2,m3⟩:=HR1.q.m;⟨mb,m1,m2.other J6.q,m3⟩) HB.q nW.q (Own.jY _ _ _ _ _) (λk=>absurd k J6.q) (HT1.q.Je xP.q) fT.q).mono ?_;rintro e w2 ⟨hfr,hS,he⟩;have xU:=f (HT1.q.tr hS);have kW:=f ((hfr w.1.size _ _ _ (mV.q.trans zG.q) aj (by have:=fG.q;omega)).trans mV.q);rcases iK (aJ (aR c s)) with hf|hf;rotate_left
 .obtain rfl:=he.2 (by rw[iZ.q] at hf;exact hf)
  exact⟨rfl,iw.q _ xU.q hf⟩
 obtain⟨rfl,hr⟩:=he.1 (by rw[iZ.q] at hf;exact hf);have Dm:=f hr;have zJ:=f hf;refine hK _ _ ⟨P,cB.q _ kW.q xU.q⟩ ?_;clear hK K hr hf he hS hfr;refine jA ?_;go_wp2_with fail;refine bodyPost_end (results_none rfl _ _ _) rfl ?_;exact⟨xU.q,λ_=>⟨rfl,by rw[iZ.q];exact Dm.q⟩,λk=>absurd zJ.q k⟩
theorem aaE (l:bE)(s:aH)(w:Z)(h:jE B w R cs c es ds ms)(hf:aJ c)(hl:xM w B l s)(hk:s.kind=3)(hok:dW s)(hG:nG B K w)(pF:pE w K)(ru:R<K):
  Calls Tryz.prog 102 #[.pointer (r ⟨R,0,p⟩),dY l] w (gW B K R (aR c s) w):=by
 obtain⟨n0,n1,hn⟩:=names2 hok (.inr (.inr hk));obtain⟨v0,hv⟩:=akE hok hk;have PW:l.vn=1:=by rw[hl.k.2.2.2.2.2,hv];rfl
 obtain⟨vb,vo,hva,hbv,ahv,ahw⟩:=hl.dz (i:=0) (x:=v0) (by rw[hv];rfl);have hnn:l.nn=2:=by rw[hl.k.2.2.2.2.1,hn];rfl
 obtain⟨nb,no,ha0,hb0,hd0⟩:=hl.name (i:=0) (x:=n0) (by rw[hn];rfl);obtain⟨nb',no',ha1,hb1,hd1⟩:=hl.name (i:=1) (x:=n1) (by rw[hn];rfl);rw[ha0] at ha1;injection ha1 with q;injection q with q1 q2;subst q1 q2;obtain⟨lk,la,ln,nc,lvl,va,vn,vc,lf,bits⟩:=l;simp only at hva PW;subst hva PW;obtain⟨k1,k2,k3,k4,k5,k6⟩:=hl.k;simp only at k1 k2 k3 k4 k5 k6 ha0 hnn;rw[hk] at k1;subst k1;have iZ:H (aR c s=(((c.put 0 n0).put 2 n1).dz v0).1.ev ⟨3,c.no 0 n0,0,0,(c.put 0 n0).no 2 n1,(((c.put 0 n0).put 2 n1).dz v0).2,0,p,0,0⟩ []):=f (by unfold aR;simp only[hk,hn,hv,<-k2,<-k3,<-k4];rfl);subst ha0 hnn;have xP:=f pF;have fT:=f ru;have gy:H (K+3<=w.1.size):=f (let⟨q,T,fz,e,_⟩:=pF (K+2) ah ah;(dh.1 e).1);clear pF ru;have HB:=f h.b;have fG:H (R<w.1.size):=f h.s.t.b.2.2;obtain⟨V,hV⟩:∃V,V=w.alloc (L #[E G 3,C (r ⟨nb,no,p⟩) 2 nc,E G lvl,C (r ⟨vb,vo,p⟩) 1 vc,O lf,E G bits] 66):=⟨_,rfl⟩;have cZ:H (Below w.1.size w V):=f (by rw[hV];exact aA (N w.1.size w) _);have HX:H (Bx V w.1.size #[E G 3,C (r ⟨nb,no,p⟩) 2 nc,E G lvl,C (r ⟨vb,vo,p⟩) 1 vc,O lf,E G bits]):=f (by rw[hV];exact Bx.new w _ _);have zG:H (V.1[w.1.size]?=r (L #[E G 3,C (r ⟨nb,no,p⟩) 2 nc,E G lvl,C (r ⟨vb,vo,p⟩) 1 vc,O lf,E G bits] 66 (0,0))):=f (by rw[hV];exact gX w _);have cB:H (∀W,W.1[w.1.size]?=V.1[w.1.size]?->Same (λi=>i<B\/(K<=i/\i<K+3)) w W->(λW'=>W'.cell? ⟨w.1.size,1,p⟩=r (C (r ⟨nb,no,p⟩) 2 nc)/\W'.cell? ⟨nb,no,p⟩=r (S ⟨n0.toArray⟩)/\W'.cell? ⟨nb,no+1,p⟩=r (S ⟨n1.toArray⟩)/\W'.cell? ⟨w.1.size,0,p⟩=r (E G 3)/\W'.cell? ⟨w.1.size,3,p⟩=r (C (r ⟨vb,vo,p⟩) 1 vc)/\W'.cell? ⟨vb,vo,p⟩=r (S ⟨v0.name.toArray⟩)/\W'.cell? ⟨vb,vo+1,p⟩=r (E G v0.k)) W):=f (λW hb hs=>⟨(J (a:=⟨w.1.size,1,p⟩) hb).trans (HX.q.1 1),hs.cell hd0 ah,hs.cell hd1 ah,(J (a:=⟨w.1.size,0,p⟩) hb).trans (HX.q.1 0),(J (a:=⟨w.1.size,3,p⟩) hb).trans (HX.q.1 3),hs.cell ahv ah,hs.cell ahw ah⟩);have iw:H (∀W,Same (λi=>i<B\/(K<=i/\i<K+3)) w W->¬aJ (aR c s)->gW B K R (aR c s) w (.panicked kK) W):=f (λW hs hn=>⟨hs,λk=>absurd k hn,λ_=>rfl⟩);have jP:H (True/\(aJ (aR c s)->aJ ((c.put 0 n0)))/\(aJ (aR c s)->aJ (((c.put 0 n0).put 2 n1)))/\(aJ (aR c s)->aJ ((((c.put 0 n0).put 2 n1).dz v0).1))):=f (by rw[iZ.q];exact⟨P,λk=>((Gr.put _ 2 _).trans ((Gr.dz _ _).trans (Gr.ev _ _ _))).fits k,λk=>((Gr.dz _ _).trans (Gr.ev _ _ _)).fits k,λk=>(Gr.ev _ _ _).fits k⟩);have nV:H (Same (λi=>i≠R) V V.drew):=f (I (N _ _).drew (λ_ _ h=>h));have HT0:H (Same (λi=>i<B\/(K<=i/\i<K+3)) w V.drew):=f (I cZ.q.drew (λi hi hl=>by have:=HB.q;have:=fT.q;have:=gy.q;have:=fG.q;omega));have jw:=f (h.below cZ.q.drew);have yE:=f hf;have HG:=f hG;have HW:=f ((⟨hok.1 n0 (by rw[hn];simp),hok.1 n1 (by rw[hn];simp),hok.2.1 v0 (by rw[hv];simp)⟩:_/\_/\_));have uM:H (V.drew.1[w.1.size]?=V.1[w.1.size]?):=f rfl;clear k2 k3 k4 k5 k6 hk hn;clear h hf hG hl hok hbv ahv ahw hb0 hd0 hb1 hd1;go_enter func102,ntmps102;go_wp2_with fail;rw[<-hV];clear hV;refine dA 99 [(0,0),(1,0),(2,0),(3,0),(4,0),(6,0),(7,0),(8,0),(9,0),(10,0),(5,2),(11,2),(12,0),(13,0)] (λ_=>True) (λW'=>W'.cell? ⟨w.1.size,1,p⟩=r (C (r ⟨nb,no,p⟩) 2 nc)/\W'.cell? ⟨nb,no,p⟩=r (S ⟨n0.toArray⟩)/\W'.cell? ⟨nb,no+1,p⟩=r (S ⟨n1.toArray⟩)/\W'.cell? ⟨w.1.size,0,p⟩=r (E G 3)/\W'.cell? ⟨w.1.size,3,p⟩=r (C (r ⟨vb,vo,p⟩) 1 vc)/\W'.cell? ⟨vb,vo,p⟩=r (S ⟨v0.name.toArray⟩)/\W'.cell? ⟨vb,vo+1,p⟩=r (E G v0.k)) (λch w'=>gW B K R (aR c s) w (.panicked ch) w') ay ay (λch a1 w1 hd hr=>⟨hd,hr⟩) (trivial) (cB.q _ uM.q HT0.q) ?_;refine qC ?_;refine aF rfl rfl (λK hK=>?_);go_simp;refine(iO 0 ah n0 _ jw.q yE.q HW.q.1 (HG.q.same HT0.q)).mono ?_;rintro e w1 ⟨hS,he⟩;have gB:=f (nV.q.tr hS);have HT1:=f (HT0.q.tr (hS.mono (λi hi _=>by have:=HB.q;have:=fT.q;have:=gy.q;omega)));rcases iK (aJ (c.put 0 n0)) with hf|hf;rotate_left
 .obtain rfl:=he.2 hf
  exact⟨rfl,iw.q _ HT1.q (λk=>hf (jP.q.2.1 k))⟩
 obtain⟨rfl,cs1,hr,hz,ho⟩:=he.1 hf;have HR1:=f hr;have nW:=f hf;have Dl:=f ho;have mV:=f (gB.q.block w.1.size (by have:=fG.q;omega) HX.q.2.2);refine hK _ _ ⟨P,cB.q _ mV.q HT1.q⟩ ?_;clear hK K hr hz ho hf he hS;refine aF rfl rfl (λK hK=>?_);go_simp;refine(iO 2 ah n1 _ HR1.q nW.q HW.q.2.1 (HG.q.same HT1.q)).mono ?_;rintro e w2 ⟨hS,he⟩;have HS2:=f (gB.q.tr hS);have HT2:=f (HT1.q.tr (hS.mono (λi hi _=>by have:=HB.q;have:=fT.q;have:=gy.q;omega)));rcases iK (aJ ((c.put 0 n0).put 2 n1)) with hf|hf;rotate_left
 .obtain rfl:=he.2 hf
  exact⟨rfl,iw.q _ HT2.q (λk=>hf (jP.q.2.2.1 k))⟩
 obtain⟨rfl,cs2,hr,hz,ho⟩:=he.1 hf;have HR2:=f hr;have nH:=f hf;have l8:=f ho;have kW:=f (HS2.q.block w.1.size (by have:=fG.q;omega) HX.q.2.2);refine hK _ _ ⟨P,cB.q _ kW.q HT2.q⟩ ?_;clear hK K hr hz ho hf he hS;refine qC ?_;refine jA ?_;have iW:=f (HS2.q.tr (I (N w2.1.size w2).drew (λ_ _ h=>h)));have HT3:=f (HT2.q.tr (I (N w2.1.size w2).drew (λ_ _ h=>h)));have HR3:=f (HR2.q.below (N w2.1.size w2).drew);have uO:=nH;have lJ:H (w2.drew.1[w.1.size]?=V.1[w.1.size]?):=f kW.q;go_wp2_with fail;refine dA 99 [(0,0),(1,0),(2,0),(3,0),(4,0),(5,0),(6,0),(7,0),(8,0),(9,0),(10,2),(11,0),(12,2)] (λ_=>True) (λW'=>W'.cell? ⟨w.1.size,1,p⟩=r (C (r ⟨nb,no,p⟩) 2 nc)/\W'.cell? ⟨nb,no,p⟩=r (S ⟨n0.toArray⟩)/\W'.cell? ⟨nb,no+1,p⟩=r (S ⟨n1.toArray⟩)/\W'.cell? ⟨w.1.size,0,p⟩=r (E G 3)/\W'.cell? ⟨w.1.size,3,p⟩=r (C (r ⟨vb,vo,p⟩) 1 vc)/\W'.cell? ⟨vb,vo,p⟩=r (S ⟨v0.name.toArray⟩)/\W'.cell? ⟨vb,vo+1,p⟩=r (E G v0.k)) (λch w'=>gW B K R (aR c s) w (.panicked ch) w') ay ay (λch a1 w1 hd hr=>⟨hd,hr⟩) (trivial) (cB.q _ lJ.q HT3.q) ?_;refine qC ?_;refine aF rfl rfl (λK hK=>?_);go_simp;refine(Tt v0 _ HR3.q uO.q HW.q.2.2 (HG.q.same HT3.q)).mono ?_;rintro e w4 ⟨hS,he⟩;have uf:=f (iW.q.tr hS);have xk:=f (HT3.q.tr (hS.mono (λi hi _=>by have:=HB.q;have:=fT.q;have:=gy.q;omega)));rcases iK (aJ (((c.put 0 n0).put 2 n1).dz v0).1) with hf|hf;rotate_left
 .obtain rfl:=he.2 hf
  exact⟨rfl,iw.q _ xk.q (λk=>hf (jP.q.2.2.2 k))⟩
 obtain⟨rfl,cs4,hr,hz,ho⟩:=he.1 hf;have HR4:=f hr;have Im:=f hf;have HO4:=f ho;have uR:=f (uf.q.block w.1.size (by have:=fG.q;omega) HX.q.2.2);refine hK _ _ ⟨P,cB.q _ uR.q xk.q⟩ ?_;clear hK K hr hz ho hf he hS;refine qC ?_;refine aF rfl rfl (λK hK=>?_);go_simp;refine(KI ⟨3,c.no 0 n0,0,0,(c.put 0 n0).no 2 n1,(((c.put 0 n0).put 2 n1).dz v0).2,0,p,0,0⟩ [] _ HR4.q.s (let⟨mb,m1,m2,m3⟩:=HR4.q.m;⟨mb,m1,m2.other (by show(3:Int)≠2;decide),m3⟩) HB.q Im.q (Own.jY _ _ _ _ _) (λk=>absurd k (by show(3:Int)≠2;decide)) (xk.q.Je xP.q) fT.q).mono ?_;rintro e w5 ⟨hfr,hS,he⟩;have xU:=f (xk.q.tr hS);have P5:=f ((hfr w.1.size _ _ _ (uR.q.trans zG.q) aj (by have:=fG.q;omega)).trans uR.q);rcases iK (aJ (aR c s)) with hf|hf;rotate_left
 .obtain rfl:=he.2 (by rw[iZ.q] at hf;exact hf)
  exact⟨rfl,iw.q _ xU.q hf⟩
 obtain⟨rfl,hr⟩:=he.1 (by rw[iZ.q] at hf;exact hf);have Dm:=f hr;have zJ:=f hf;refine hK _ _ ⟨P,cB.q _ P5.q xU.q⟩ ?_;clear hK K hr hf he hS hfr;refine jA ?_;go_wp2_with fail;refine bodyPost_end (results_none rfl _ _ _) rfl ?_;exact⟨xU.q,λ_=>⟨rfl,by rw[iZ.q];exact Dm.q⟩,λk=>absurd zJ.q k⟩
end
theorem jE.want {B R:Nat}{cs:Array Value}{c:Cont}{es:U EvC}{ds:U aM}{ms:U aN}{X Y:Z}(h:jE B X R cs c es ds ms){v4 v':Value}(h4:cs[7]?=r v4)(hO4:Own X (R+1) 88 2 gH v4 c.Q)(hs:Same (λi=>i≠R/\v4.ownBlock≠r i) X Y){x:Wa}
  (hO:Own Y (R+1) 88 2 gH v' (c.Q++[x])) (hB:Bx Y R (cs.setIfInBounds 7 v')):jE B Y R (cs.setIfInBounds 7 v') {c with Q:=c.Q++[x]} es ds ms:=
 ⟨h.s.want h4 hs hO hB,(let⟨mb,m1,m2,m3⟩:=h.m;⟨mb,by rw[tJ ah];exact m1,m2.same hs ⟨h.s.t.b.Bf m1 m2.obj,λq=>by
  obtain⟨cs1,f1,e1⟩:=hO4.tag q;obtain⟨_,_,e2⟩:=m2.obj;rw[e1] at e2;cases e2⟩,m3⟩),h.b⟩
theorem jE.order {B R:Nat}{cs:Array Value}{c:Cont}{es:U EvC}{ds:U aM}{ms:U aN}{X Y:Z}(h:jE B X R cs c es ds ms){v4 v':Value}(h4:cs[5]?=r v4)(hO4:Own X (R+1) 79 2 fB v4 ds)(hs:Same (λi=>i≠R/\v4.ownBlock≠r i) X Y){x:aM}{l:U Int}
  (hO:Own Y (R+1) 79 2 fB v' (ds++[x])) (hB:Bx Y R (cs.setIfInBounds 5 v')) (hl:Own X (R+1) 3 1 aX x.val l):jE B Y R (cs.setIfInBounds 5 v') {c with D:=c.D++[x.base],SD:=c.SD++[l]} es (ds++[x]) ms:=
 ⟨h.s.order h4 hs hO hB hl,(let⟨mb,m1,m2,m3⟩:=h.m;⟨mb,by rw[tJ ah];exact m1,m2.same hs ⟨h.s.t.b.Bf m1 m2.obj,λq=>by
  obtain⟨cs1,f1,e1⟩:=hO4.tag q;obtain⟨_,_,e2⟩:=m2.obj;rw[e1] at e2;cases e2⟩,m3⟩),h.b⟩
theorem jE.WK {B R:Nat}{cs:Array Value}{c:Cont}{es:U EvC}{ds:U aM}{ms:U aN}{X Y:Z}(h:jE B X R cs c es ds ms){v4 v':Value}(h4:cs[6]?=r v4)(hO4:Own X (R+1) 84 4 fD v4 ms)(hs:Same (λi=>i≠R/\v4.ownBlock≠r i) X Y){x:aN}{l:U Int}
  (hO:Own Y (R+1) 84 4 fD v' (ms++[x])) (hB:Bx Y R (cs.setIfInBounds 6 v')) (hl:Own X (R+1) 3 1 aX x.val l):jE B Y R (cs.setIfInBounds 6 v') {c with M:=c.M++[x.base],SM:=c.SM++[l]} es ds (ms++[x]):=
 ⟨h.s.WK h4 hs hO hB hl,(let⟨mb,m1,m2,m3⟩:=h.m;⟨mb,by rw[tJ ah];exact m1,m2.same hs ⟨h.s.t.b.Bf m1 m2.obj,λq=>by
  obtain⟨cs1,f1,e1⟩:=hO4.tag q;obtain⟨_,_,e2⟩:=m2.obj;rw[e1] at e2;cases e2⟩,m3⟩),h.b⟩
theorem Row.wa1 (w:Z)(x:Wa):Row (w.alloc (L #[E G x.bW,E G x.bits] 88)) 2 gH (r ⟨w.1.size,0,p⟩) 1 1 [x]:=
 (Own.new (hc:=sQ) w w.1.size 88 (enc:=gH) #[E G x.bW,E G x.bits] [x] (aB _) rfl (by simp[maxLen])).row (hc:=sQ) ak
theorem Row.or1 (w:Z)(x:aM):Row (w.alloc (L #[E G x.obj,C x.sa x.sn x.sc] 79)) 2 fB (r ⟨w.1.size,0,p⟩) 1 1 [x]:=
 (Own.new (hc:=rC) w w.1.size 79 (enc:=fB) #[E G x.obj,C x.sa x.sn x.sc] [x] (aB _) rfl (by simp[maxLen])).row (hc:=rC) ak
theorem Row.ma1 (w:Z)(x:aN):Row (w.alloc (L #[E G x.pred,E G x.obj,O x.first,C x.sa x.sn x.sc] 84)) 4 fD (r ⟨w.1.size,0,p⟩) 1 1 [x]:=
 (Own.new (hc:=rD) w w.1.size 84 (enc:=fD) #[E G x.pred,E G x.obj,O x.first,C x.sa x.sn x.sc] [x] (aB _) rfl (by simp[maxLen])).row (hc:=rD) ak
section
variable {B K R:Nat}{cs:Array Value}{c:Cont}{es:U EvC}{ds:U aM}{ms:U aN}
theorem aaG (l:bE)(s:aH)(w:Z)(h:jE B w R cs c es ds ms)(hf:aJ c)(hl:xM w B l s)(hk:s.kind=9)(hok:dW s)(hG:nG B K w)(pF:pE w K)(ru:R<K):
  Calls Tryz.prog 107 #[.pointer (r ⟨R,0,p⟩),dY l] w (gW B K R (aR c s) w):=by
 obtain⟨n0,hn⟩:=X0 hok ah;have hnn:l.nn=1:=by rw[hl.k.2.2.2.2.1,hn];rfl
 obtain⟨nb,no,ha0,hb0,hd0⟩:=hl.name (i:=0) (x:=n0) (by rw[hn];rfl);obtain⟨v7,h7,xO⟩:=h.s.q;obtain⟨a7,c7,rfl,_,OD⟩:=xO.shape;obtain⟨i,z,hi,hz,hsize,dx,hzs⟩:=Tv;have HI:=f (⟨hi,hz,hsize,dx,hzs⟩:_/\_/\_/\_/\_);clear hi hz hsize dx hzs;obtain⟨lk,la,ln,nc,lvl,va,vn,vc,lf,bits⟩:=l;obtain⟨k1,k2,k3,k4,k5,k6⟩:=hl.k;simp only at k1 k2 k3 k4 k5 k6 ha0 hnn;rw[hk] at k1;subst k1;have iZ:H (aR c s={c.put 1 n0 with Q:=c.Q++[⟨c.no 1 n0,bits⟩]}):=f (by unfold aR;simp only[hk,hn,<-k4];rfl);subst ha0 hnn;have xP:=f pF;have fT:=f ru;have gy:H (K+3<=w.1.size):=f (let⟨q,T,fz,e,_⟩:=pF (K+2) ah ah;(dh.1 e).1);clear pF ru;have HB:=f h.b;have fG:H (R<w.1.size):=f h.s.t.b.2.2;obtain⟨V,hV⟩:∃V,V=w.alloc (L #[E G 9,C (r ⟨nb,no,p⟩) 1 nc,E G lvl,C va vn vc,O lf,E G bits] 66):=⟨_,rfl⟩;have cZ:H (Below w.1.size w V):=f (by rw[hV];exact aA (N w.1.size w) _);have HX:H (Bx V w.1.size #[E G 9,C (r ⟨nb,no,p⟩) 1 nc,E G lvl,C va vn vc,O lf,E G bits]):=f (by rw[hV];exact Bx.new w _ _);have zG:H (V.1[w.1.size]?=r (L #[E G 9,C (r ⟨nb,no,p⟩) 1 nc,E G lvl,C va vn vc,O lf,E G bits] 66 (0,0))):=f (by rw[hV];exact gX w _);have cB:H (∀W,W.1[w.1.size]?=V.1[w.1.size]?->Same (λi=>i<B\/(K<=i/\i<K+3)) w W->W.cell? ⟨R,7,p⟩=r (C a7 c.Q.length c7)->(λW'=>W'.cell? ⟨w.1.size,1,p⟩=r (C (r ⟨nb,no,p⟩) 1 nc)/\W'.cell? ⟨w.1.size,5,p⟩=r (E G bits)/\W'.cell? ⟨nb,no,p⟩=r (S ⟨n0.toArray⟩)/\W'.cell? ⟨R,7,p⟩=r (C a7 c.Q.length c7)) W):=f (λW hb hs hr=>⟨(J (a:=⟨w.1.size,1,p⟩) hb).trans (HX.q.1 1),(J (a:=⟨w.1.size,5,p⟩) hb).trans (HX.q.1 5),hs.cell hd0 ah,hr⟩);have iw:H (∀W,Same (λi=>i<B\/(K<=i/\i<K+3)) w W->¬aJ (aR c s)->gW B K R (aR c s) w (.panicked kK) W):=f (λW hs hn=>⟨hs,λk=>absurd k hn,λ_=>rfl⟩);have jP:H (True/\(aJ (aR c s)->aJ (c.put 1 n0))):=f ⟨P,by rw[iZ.q];exact λk=>(show Gr (c.put 1 n0) {c.put 1 n0 with Q:=c.Q++[⟨c.no 1 n0,bits⟩]} from⟨λ_=>gU _,gU _,gU _,gU _,eG _ _⟩).fits k⟩;have yD:H (V.drew.1.size=w.1.size+1):=f (by show V.1.size=_;rw[hV];exact World.size_alloc _ _);have nV:H (Same (λi=>i≠R) V V.drew):=f (I (N _ _).drew (λ_ _ h=>h));have HT0:H (Same (λi=>i<B\/(K<=i/\i<K+3)) w V.drew):=f (I cZ.q.drew (λi hi hl=>by have:=HB.q;have:=fT.q;have:=gy.q;have:=fG.q;omega));have jw:=f (h.below cZ.q.drew);have yE:=f hf;have HG:=f hG;have HW:=f (hok.1 n0 (by rw[hn];simp));have uM:H (V.drew.1[w.1.size]?=V.1[w.1.size]?):=f rfl;have H7:=f h7;have qy:=f (xO.below cZ.q rfl);have hx7:V.cell? ⟨R,7,p⟩=r (C a7 c.Q.length c7):=((h.s.t.b.keep cZ.q).1 7).trans h7;have vW:=f hx7;have Ea:(w.alloc (L #[E G 9,C (r ⟨nb,no,p⟩) 1 nc,E G lvl,C va vn vc,O lf,E G bits] 66)).cell? ⟨R,7,p⟩=r (C a7 c.Q.length c7):=by rw[<-hV];exact hx7
 have uN:H (∀g,(Value.slice a7 c.Q.length c7).ownBlock=r g->g≠w.1.size/\g≠R/\R+1<=g/\¬(K<=g/\g<K+3)):=f (λg hg=>⟨λe=>(by obtain⟨_,_,q⟩:=qy.q.tag hg;rw[e,zG.q] at q;cases q),λe=>(by have:=(qy.q.lt g hg).1;omega),(qy.q.lt g hg).1,λe=>(by obtain⟨_,_,q⟩:=qy.q.tag hg;obtain⟨_,T,_,q2,hT⟩:=xP.q g e.1 e.2;rw[cZ.q.block g (by have:=gy.q;omega),q2] at q;cases q;simp[Eb] at hT)⟩);clear k2 k3 k4 k5 k6 hk hn;have iU:H ((c.Q.length+1)*16<=140737488355328):=f (by have:=hf.2.2.2.2.1;omega);have iM:H (c.Q.length+1<=maxLen):=f (by have:=hf.2.2.2.2.1;unfold maxLen;omega);have AL:H (cs[7]?=r (C a7 c.Q.length c7)):=H7;have mI:H (Own V.drew (R+1) 88 2 gH (C a7 c.Q.length c7) c.Q):=qy;have sD:H (w.1.size<V.drew.1.size):=f (by have:=yD.q;omega);clear h hf hG hl hok hb0 hd0 h7 xO;by_cases hroom:c.Q.length<3000;rotate_left
 .have hd:decide ((c.Q.length:Int)<3000)=false:=bq ah
  have P6:H (¬aJ (aR c s)):=f (λk=>hroom (by rw[iZ.q] at k;have:=k.2.2.2.2.1;rw[bL,kN] at this;exact this));have HT:=f (I (A:=λi=>i<B\/(K<=i/\i<K+3)) cZ.q (λi hi hl=>by have:=HB.q;have:=fT.q;have:=gy.q;have:=fG.q;omega));clear hroom;go_enter func107,ntmps107;go_wp2_with fail;refine(mU _ _).mono ?_;rintro e w2 ⟨rfl,rfl⟩;rw[au ak];rw[<-hV];exact⟨rfl,iw.q _ HT.q P6.q⟩
 have KJ:=f hroom;have hd:decide ((c.Q.length:Int)<3000)=true:=bN ah;clear hroom;go_enter func107,ntmps107;go_wp2_with fail;refine(mU _ _).mono ?_;rintro e w2 ⟨rfl,rfl⟩;rw[av rfl];rw[<-hV];clear hV Ea;go_wp2_with fail;refine dA 20 [(0,0),(1,0),(2,0),(3,0),(4,0),(5,0),(6,0),(7,0),(8,0),(9,0),(10,0),(12,0),(13,0),(11,2),(14,0),(15,2),(16,2),(17,1),(18,1),(19,0),(20,2)] (λ_=>True) (λW'=>W'.cell? ⟨w.1.size,1,p⟩=r (C (r ⟨nb,no,p⟩) 1 nc)/\W'.cell? ⟨w.1.size,5,p⟩=r (E G bits)/\W'.cell? ⟨nb,no,p⟩=r (S ⟨n0.toArray⟩)/\W'.cell? ⟨R,7,p⟩=r (C a7 c.Q.length c7)) (λch w'=>gW B K R (aR c s) w (.panicked ch) w') ay ay (λch a1 w1 hd hr=>⟨hd,hr⟩) (trivial) (cB.q _ uM.q HT0.q vW.q) ?_;refine qC ?_;refine aF rfl rfl (λK hK=>?_);go_simp;refine(iO 1 ah n0 _ jw.q yE.q HW.q (HG.q.same HT0.q)).mono ?_;rintro e w1 ⟨hS,he⟩;have mg:=f hS;have gB:=f (nV.q.tr hS);have HT1:=f (HT0.q.tr (hS.mono (λi hi _=>by have:=HB.q;have:=fT.q;have:=gy.q;omega)));rcases iK (aJ (c.put 1 n0)) with hf|hf;rotate_left
 .obtain rfl:=he.2 hf
  exact⟨rfl,iw.q _ HT1.q (λk=>hf (jP.q.2 k))⟩
 obtain⟨rfl,cs1,hr,hz,ho⟩:=he.1 hf;have HR1:=f hr;have nW:=f hf;have Dl:=f ho;have mV:=f (gB.q.block w.1.size (by have:=fG.q;omega) HX.q.2.2);have qc:H (cs1[7]?=_):=f ((Dl.q 7 (.inl ah)).trans AL.q);have qU:=f (mI.q.iY mg.q);have mh:H (w.1.size<w1.1.size):=f (bM sD.q mg.q.size);refine hK _ _ ⟨P,cB.q _ mV.q HT1.q ((HR1.q.s.t.b.1 7).trans qc.q)⟩ ?_;clear hK K hr hz ho hf he hS;refine qC ?_;refine aF rfl rfl (λK hK=>?_);go_simp;have hba:=aA (N w1.1.size w1) (L #[E G (c.no 1 n0),E G bits] 88);have kI:=f hba;have Iw:=f (HT1.q.tr (I hba (λi hi hl=>hl)));have Jv:H ((w1.alloc (L #[E G (c.no 1 n0),E G bits] 88)).1[w.1.size]?=V.1[w.1.size]?):=f ((hba.block _ (by have:=mh.q;omega)).trans mV.q);have MR:=f (HR1.q.s.t.b.keep hba);refine hK _ _ ⟨P,cB.q _ Jv.q Iw.q ((MR.q.1 7).trans qc.q)⟩ ?_;clear hK K hba;refine aF rfl rfl (λK hK=>?_);refine lX _ _ 27 rfl i z 16 underlying27 HI.q.1 HI.q.2.1 HI.q.2.2.1 HI.q.2.2.2.1 HI.q.2.2.2.2 rfl (qU.q.below kI.q rfl) (r ⟨w1.1.size,0,p⟩) 1 1 (c.Q.length+1) [⟨c.no 1 n0,bits⟩] rfl (Row.wa1 w1 _) rfl iU.q iM.q (bX (Nat.succ_le_of_lt HR1.q.s.t.b.2.2) kI.q.size) ?_;intro a' c' w9 uw j3 Bq;have KL:=f (Iw.q.tr ⟨j3.os,j3.tape,j3.output,j3.size,λi hi hl=>j3.block i hl (λe=>by have:=(uN.q i e.symm).2.2.1;have:=(uN.q i e.symm).2.2.2;have:=HB.q;have:=fT.q;have:=gy.q;omega)⟩);have Va:H (w9.1[w.1.size]?=V.1[w.1.size]?):=f ((j3.block w.1.size (bM mh.q kI.q.size) (λe=>(uN.q _ e.symm).1 rfl)).trans Jv.q);have wm:=MR.q.grown j3 (λe=>(uN.q _ e).2.1 rfl);refine hK _ _ ⟨P,cB.q _ Va.q KL.q ((wm.1 7).trans qc.q)⟩ ?_;have Kn:=(wm.1 7).trans qc.q;have Xp:=wm.2.1 7;have P7:=f wm;have Dx:=f uw;have lY:=f j3;clear hK K wm uw j3 Bq;refine qC ?_;refine bC rfl rfl rfl (λK hK=>?_);go_simp;refine hK _ _ P ?_;clear hK K;refine jA ?_;have zJ:H (aJ (aR c s)):=f (by rw[iZ.q];have k:=nW.q;exact⟨k.1,k.2.1,k.2.2.1,k.2.2.2.1,by show(c.Q++[_]).length<=3000;rw[bL,kN];have:=KJ.q;omega,k.2.2.2.2.2⟩);go_wp2_with fail;refine bodyPost_end (results_none rfl _ _ _) rfl ?_;refine⟨KL.q.setTail (λh=>by have:=HB.q;have:=fT.q;have:=gy.q;omega),λ_=>⟨rfl,?_⟩,λk=>absurd zJ.q k⟩;rw[iZ.q];have rR:Same (λi=>i≠R/\(Value.slice a7 c.Q.length c7).ownBlock≠r i) w1 (w9.setCell ⟨R,7,p⟩ (C a' (c.Q.length+1) c')):=
  ((I kI.q (λ_ _ h=>h)).tr ⟨lY.q.os,lY.q.tape,lY.q.output,lY.q.size,λi hi hl=>lY.q.block i hl (λe=>hi.2 e.symm)⟩).setTail (λh=>h.1 rfl)
 exact⟨_,_,_,_,HR1.q.want (x:=(⟨c.no 1 n0,bits⟩:Wa)) qc.q qU.q rR (Dx.q.same (A:=λi=>i≠R) ((Same.refl' _).setTail (λh=>h rfl)) (λg hg e=>by have:=(Dx.q.lt g hg).1;omega)) (P7.q.bf 7 (dh.1 qc.q).1 _)⟩
end
theorem names7 {s:aH}(hok:dW s)(hk:s.kind=7):∃n0 rs,s.names=n0::rs/\rs.length<=300:=by
 have hlen:∃c:Nat,s.names.length=c+1/\c<=300:=by
  rcases hok.2.2 with h|h|h|h|h|h|h|h|h <;> (first|exact h.2.1|(exfalso;have:=h.1;omega))
 obtain⟨q,h1,h2⟩:=hlen
 match hn:s.names,h1 with
 |a::l,h1=>exact⟨a,l,rfl,by simp at h1;omega⟩
section
variable {B K R:Nat}{cs:Array Value}{c:Cont}{es:U EvC}{ds:U aM}{ms:U aN}
theorem XI (l:bE)(s:aH)(w:Z)(h:jE B w R cs c es ds ms)(hf:aJ c)(hl:xM w B l s)(hk:s.kind=7)(hok:dW s)(hG:nG B K w)(pF:pE w K)(ru:R<K):
  Calls Tryz.prog 105 #[.pointer (r ⟨R,0,p⟩),dY l] w (gW B K R (aR c s) w):=by
 obtain⟨n0,rs,hn,hle⟩:=names7 hok hk;have hnn:l.nn=rs.length+1:=by rw[hl.k.2.2.2.2.1,hn];rfl
 obtain⟨nb,no,ha0,hb0,hd0⟩:=hl.name (i:=0) (x:=n0) (by rw[hn];rfl);obtain⟨ra,hsl,hslA,hrow,hrb⟩:=Js hl.n 1 ah;have hra:∀b o,ra=r ⟨b,o,p⟩->b<B:=λb o e=>(let⟨q,e1,e2⟩:=hrb b o e;by rw[ha0] at e1;injection e1 with e1;subst e1;subst e2;exact hb0)
 obtain⟨v7,h7,xO⟩:=h.s.d;obtain⟨a7,c7,rfl,_,OD⟩:=xO.shape;obtain⟨i,z,hi,hz,hsize,dx,hzs⟩:=Tw;have HI:=f (⟨hi,hz,hsize,dx,hzs⟩:_/\_/\_/\_/\_);clear hi hz hsize dx hzs;obtain⟨lk,la,ln,nc,lvl,va,vn,vc,lf,bits⟩:=l;obtain⟨k1,k2,k3,k4,k5,k6⟩:=hl.k;simp only at k1 k2 k3 k4 k5 k6 ha0 hnn hsl hslA hrow;rw[hk] at k1;subst k1;have iZ:H (aR c s={((c.put 2 n0).ts rs).1 with D:=((c.put 2 n0).ts rs).1.D++[⟨c.no 2 n0,p,0,0⟩],SD:=((c.put 2 n0).ts rs).1.SD++[((c.put 2 n0).ts rs).2]}):=f (by unfold aR;simp only[hk,hn];rw[(Nm.ts rs (c.put 2 n0)).d,(Nm.ts rs (c.put 2 n0)).sd];rfl);subst ha0 hnn;have hsl1:∀W,(Instr.slice 23 (C (r ⟨nb,no,p⟩) (rs.length+1) nc) (r (E G 1)) p p).run Tryz.prog W= .ok (C ra rs.length (nc - 1)) W:=hsl;have akF:∀W,(Instr.sliceAt 23 (C (r ⟨nb,no,p⟩) (rs.length+1) nc) (r (E G 1)) p p).run Tryz.prog W= .ok (C ra rs.length (nc - 1)) W:=hslA;clear hsl hslA;have xP:=f pF;have fT:=f ru;have gy:H (K+3<=w.1.size):=f (let⟨q,T,fz,e,_⟩:=pF (K+2) ah ah;(dh.1 e).1);clear pF ru;have HB:=f h.b;have fG:H (R<w.1.size):=f h.s.t.b.2.2;obtain⟨V,hV⟩:∃V,V=w.alloc (L #[E G 7,C (r ⟨nb,no,p⟩) (rs.length+1) nc,E G lvl,C va vn vc,O lf,E G bits] 66):=⟨_,rfl⟩;have cZ:H (Below w.1.size w V):=f (by rw[hV];exact aA (N w.1.size w) _);have HX:H (Bx V w.1.size #[E G 7,C (r ⟨nb,no,p⟩) (rs.length+1) nc,E G lvl,C va vn vc,O lf,E G bits]):=f (by rw[hV];exact Bx.new w _ _);have zG:H (V.1[w.1.size]?=r (L #[E G 7,C (r ⟨nb,no,p⟩) (rs.length+1) nc,E G lvl,C va vn vc,O lf,E G bits] 66 (0,0))):=f (by rw[hV];exact gX w _);have cB:H (∀W,W.1[w.1.size]?=V.1[w.1.size]?->Same (λi=>i<B\/(K<=i/\i<K+3)) w W->W.cell? ⟨R,5,p⟩=r (C a7 ds.length c7)->(λW'=>W'.cell? ⟨w.1.size,1,p⟩=r (C (r ⟨nb,no,p⟩) (rs.length+1) nc)/\W'.cell? ⟨R,5,p⟩=r (C a7 ds.length c7)) W):=f (λW hb hs hr=>⟨(J (a:=⟨w.1.size,1,p⟩) hb).trans (HX.q.1 1),hr⟩);have iw:H (∀W,Same (λi=>i<B\/(K<=i/\i<K+3)) w W->¬aJ (aR c s)->gW B K R (aR c s) w (.panicked kK) W):=f (λW hs hn=>⟨hs,λk=>absurd k hn,λ_=>rfl⟩);have jP:H (True/\(aJ (aR c s)->aJ (c.put 2 n0))/\(aJ (aR c s)->aJ ((c.put 2 n0).ts rs).1)):=f (by rw[iZ.q];have hg:Gr ((c.put 2 n0).ts rs).1 {((c.put 2 n0).ts rs).1 with D:=((c.put 2 n0).ts rs).1.D++[⟨c.no 2 n0,p,0,0⟩],SD:=((c.put 2 n0).ts rs).1.SD++[((c.put 2 n0).ts rs).2]}:=⟨λ_=>gU _,gU _,eG _ _,gU _,gU _⟩;exact⟨P,λk=>((Gr.ts rs _).trans hg).fits k,λk=>hg.fits k⟩);have MS:H (((c.put 2 n0).ts rs).1.D.length=ds.length):=f (by rw[(Nm.ts rs (c.put 2 n0)).d];show c.D.length=_;rw[<-h.s.bd,bH]);have yD:H (V.1.size=w.1.size+1):=f (by show V.1.size=_;rw[hV];exact World.size_alloc _ _);have nV:H (Same (λi=>i≠R) V V):=f (I (N _ _) (λ_ _ h=>h));have HT0:H (Same (λi=>i<B\/(K<=i/\i<K+3)) w V):=f (I cZ.q (λi hi hl=>by have:=HB.q;have:=fT.q;have:=gy.q;have:=fG.q;omega));have jw:=f (h.below cZ.q);have yE:=f hf;have HG:=f hG;have HW:=f ((⟨hok.1 n0 (by rw[hn];simp),λs' hs'=>hok.1 s' (by rw[hn];exact eD _ hs')⟩:_/\_));have uM:H (V.1[w.1.size]?=V.1[w.1.size]?):=f rfl;have H7:=f h7;have qy:=f (xO.below cZ.q rfl);have hx7:V.cell? ⟨R,5,p⟩=r (C a7 ds.length c7):=((h.s.t.b.keep cZ.q).1 5).trans h7;have vW:=f hx7;have Ea:(w.alloc (L #[E G 7,C (r ⟨nb,no,p⟩) (rs.length+1) nc,E G lvl,C va vn vc,O lf,E G bits] 66)).cell? ⟨R,5,p⟩=r (C a7 ds.length c7):=by rw[<-hV];exact hx7
 have uN:H (∀g,(Value.slice a7 ds.length c7).ownBlock=r g->g≠w.1.size/\g≠R/\R+1<=g/\¬(K<=g/\g<K+3)):=f (λg hg=>⟨λe=>(by obtain⟨_,_,q⟩:=qy.q.tag hg;rw[e,zG.q] at q;cases q),λe=>(by have:=(qy.q.lt g hg).1;omega),(qy.q.lt g hg).1,λe=>(by obtain⟨_,_,q⟩:=qy.q.tag hg;obtain⟨_,T,_,q2,hT⟩:=xP.q g e.1 e.2;rw[cZ.q.block g (by have:=gy.q;omega),q2] at q;cases q;simp[Eb] at hT)⟩);rw[hn] at hrow;have Vb:H (Row w 1 encStr ra rs.length (nc - 1) rs):=f hrow;have Iy:=f hra;have Ic:=f hle;clear k2 k3 k4 k5 k6 hk hn;have hdl:ds.length<=3000:=by have:=hf.2.2.1;rw[<-h.s.bd,bH] at this;exact this
 have iU:H ((ds.length+1)*32<=140737488355328):=f ah;have iM:H (ds.length+1<=maxLen):=f (by unfold maxLen;omega);have AL:H (cs[5]?=r (C a7 ds.length c7)):=H7;have mI:H (Own V (R+1) 79 2 fB (C a7 ds.length c7) ds):=qy;have sD:H (w.1.size<V.1.size):=f (by have:=yD.q;omega);have hcb:V.cell? ⟨w.1.size,1,p⟩=r (C (r ⟨nb,no,p⟩) (rs.length+1) nc):=HX.q.1 1;have hcn:V.cell? ⟨nb,no,p⟩=r (S ⟨n0.toArray⟩):=HT0.q.cell hd0 ah;clear h hf hG hl hok hb0 hd0 h7 xO hrow hra hrb hle hdl;by_cases hroom:ds.length<3000;rotate_left
 .have hd:decide ((ds.length:Int)<3000)=false:=bq ah
  have P6:H (¬aJ (aR c s)):=f (λk=>hroom (by rw[iZ.q] at k;have:=k.2.2.1;rw[bL,kN,MS.q] at this;exact this));have HT:=f (I (A:=λi=>i<B\/(K<=i/\i<K+3)) cZ.q (λi hi hl=>by have:=HB.q;have:=fT.q;have:=gy.q;have:=fG.q;omega));clear hroom;go_enter func105,ntmps105;go_wp2_with fail;refine(mU _ _).mono ?_;rintro e w2 ⟨rfl,rfl⟩;rw[au ak];rw[<-hV];exact⟨rfl,iw.q _ HT.q P6.q⟩
 have KJ:=f hroom;have hd:decide ((ds.length:Int)<3000)=true:=bN ah;clear hroom;go_enter func105,ntmps105;go_wp2_with fail;refine(mU _ _).mono ?_;rintro e w2 ⟨rfl,rfl⟩;rw[av rfl];rw[<-hV];clear hV Ea;go_wp2_with fail;refine(iO 2 ah n0 _ jw.q yE.q HW.q.1 (HG.q.same HT0.q)).mono ?_;rintro e w1 ⟨hS,he⟩;have mg:=f hS;have gB:=f (nV.q.tr hS);have HT1:=f (HT0.q.tr (hS.mono (λi hi _=>by have:=HB.q;have:=fT.q;have:=gy.q;omega)));rcases iK (aJ (c.put 2 n0)) with hf|hf;rotate_left
 .obtain rfl:=he.2 hf
  exact⟨rfl,iw.q _ HT1.q (λk=>hf (jP.q.2.1 k))⟩
 obtain⟨rfl,cs1,hr,hz,ho⟩:=he.1 hf;have HR1:=f hr;have nW:=f hf;have Dl:=f ho;have mV:=f (gB.q.block w.1.size (by have:=fG.q;omega) HX.q.2.2);have qc:H (cs1[5]?=_):=f ((Dl.q 5 (.inl ah)).trans AL.q);have qU:=f (mI.q.iY mg.q);have mh:H (w.1.size<w1.1.size):=f (bM sD.q mg.q.size);clear hr hz ho hf he hS hx7 hcb hcn;go_wp2_with fail;have ja:=f (I (A:=λi=>i≠R) (N w1.1.size w1).drew (λ_ _ h=>h));have HS2:=f (gB.q.tr ja.q);have HT2:=f (HT1.q.tr (I (N w1.1.size w1).drew (λi hi hl=>hl)));have HR2:=f (HR1.q.below (N w1.1.size w1).drew);have nH:=nW;have kW:H (w1.drew.1[w.1.size]?=V.1[w.1.size]?):=f mV.q;have uz:=qc;have sJ:=f (qU.q.iY ja.q);have lU:H (w.1.size<w1.drew.1.size):=f mh.q;have Vd:H (Row w1.drew 1 encStr ra rs.length (nc - 1) rs):=f (HT2.q.row Vb.q (λb o e=> .inl (Iy.q b o e)));refine dA 18 [(0,0),(1,0),(2,0),(3,0),(4,0),(5,0),(6,0),(7,0),(8,0),(9,0),(10,0),(11,2),(12,0),(13,2),(14,2),(15,1),(16,1),(17,0),(18,2)] (λ_=>True) (λW'=>W'.cell? ⟨w.1.size,1,p⟩=r (C (r ⟨nb,no,p⟩) (rs.length+1) nc)/\W'.cell? ⟨R,5,p⟩=r (C a7 ds.length c7)) (λch w'=>gW B K R (aR c s) w (.panicked ch) w') ay ay (λch a1 w1 hd hr=>⟨hd,hr⟩) (trivial) (cB.q _ kW.q HT2.q ((HR2.q.s.t.b.1 5).trans uz.q)) ?_;refine qC ?_;refine aF rfl rfl (λK hK=>?_);go_simp;refine(XZ rs ra rs.length _ _ HR2.q nH.q Vd.q (λb o e=>by have:=Iy.q b o e;have:=HB.q;have:=fT.q;have:=gy.q;omega) HW.q.2 (by have:=Ic.q;omega) (HG.q.same HT2.q) fT.q).mono ?_;rintro e w3 ⟨hS,he⟩;have gJ:=f hS;have iW:=f (HS2.q.tr hS);have HT3:=f (HT2.q.tr (hS.mono (λi hi _=>by have:=HB.q;have:=fT.q;have:=gy.q;omega)));rcases iK (aJ ((c.put 2 n0).ts rs).1) with hf|hf;rotate_left
 .obtain rfl:=he.2 hf
  exact⟨rfl,iw.q _ HT3.q (λk=>hf (jP.q.2.2 k))⟩
 obtain⟨a2,q2,rfl,how,FK,hr,hz,ho⟩:=he.1 hf;have HR3:=f hr;have uO:=f hf;have zH:=f ho;have lJ:=f (iW.q.block w.1.size (by have:=fG.q;omega) HX.q.2.2);have HOW:=f (how.mono (B':=R+1) (by have:=HR2.q.s.t.b.2.2;omega));have qW:H (FK[5]?=_):=f ((zH.q 5 (.inl ah)).trans uz.q);have wH:=f (sJ.q.iY gJ.q);have qh:H (w.1.size<w3.1.size):=f (bM lU.q gJ.q.size);refine hK _ _ ⟨P,cB.q _ lJ.q HT3.q ((HR3.q.s.t.b.1 5).trans qW.q)⟩ ?_;clear hK K hr hz ho hf he hS how;refine qC ?_;refine aF rfl rfl (λK hK=>?_);go_simp;have hba:=aA (N w3.1.size w3) (L #[E G (c.no 2 n0),C a2 rs.length q2] 79);have kI:=f hba;have Iw:=f (HT3.q.tr (I hba (λi hi hl=>hl)));have Jv:H ((w3.alloc (L #[E G (c.no 2 n0),C a2 rs.length q2] 79)).1[w.1.size]?=V.1[w.1.size]?):=f ((hba.block _ (by have:=qh.q;omega)).trans lJ.q);have MR:=f (HR3.q.s.t.b.keep hba);refine hK _ _ ⟨P,cB.q _ Jv.q Iw.q ((MR.q.1 5).trans qW.q)⟩ ?_;clear hK K hba;refine aF rfl rfl (λK hK=>?_);refine lX _ _ 25 rfl i z 32 underlying25 HI.q.1 HI.q.2.1 HI.q.2.2.1 HI.q.2.2.2.1 HI.q.2.2.2.2 rfl (wH.q.below kI.q rfl) (r ⟨w3.1.size,0,p⟩) 1 1 (ds.length+1) [⟨c.no 2 n0,a2,rs.length,q2⟩] rfl (Row.or1 w3 _) rfl iU.q iM.q (bX (Nat.succ_le_of_lt HR3.q.s.t.b.2.2) kI.q.size) ?_;intro a' c' w9 uw j3 Bq;have KL:=f (Iw.q.tr ⟨j3.os,j3.tape,j3.output,j3.size,λi hi hl=>j3.block i hl (λe=>by have:=(uN.q i e.symm).2.2.1;have:=(uN.q i e.symm).2.2.2;have:=HB.q;have:=fT.q;have:=gy.q;omega)⟩);have Va:H (w9.1[w.1.size]?=V.1[w.1.size]?):=f ((j3.block w.1.size (bM qh.q kI.q.size) (λe=>(uN.q _ e.symm).1 rfl)).trans Jv.q);have wm:=MR.q.grown j3 (λe=>(uN.q _ e).2.1 rfl);refine hK _ _ ⟨P,cB.q _ Va.q KL.q ((wm.1 5).trans qW.q)⟩ ?_;have Kn:=(wm.1 5).trans qW.q;have Xp:=wm.2.1 5;have P7:=f wm;have Dx:=f uw;have lY:=f j3;clear hK K wm uw j3 Bq;refine qC ?_;refine bC rfl rfl rfl (λK hK=>?_);go_simp;refine hK _ _ P ?_;clear hK K;refine jA ?_;have zJ:H (aJ (aR c s)):=f (by rw[iZ.q];have k:=uO.q;exact⟨k.1,k.2.1,by show(((c.put 2 n0).ts rs).1.D++[_]).length<=3000;rw[bL,kN,MS.q];exact KJ.q,k.2.2.2.1,k.2.2.2.2.1,k.2.2.2.2.2⟩);go_wp2_with fail;refine bodyPost_end (results_none rfl _ _ _) rfl ?_;refine⟨KL.q.setTail (λh=>by have:=HB.q;have:=fT.q;have:=gy.q;omega),λ_=>⟨rfl,?_⟩,λk=>absurd zJ.q k⟩;rw[iZ.q];have rR:Same (λi=>i≠R/\(Value.slice a7 ds.length c7).ownBlock≠r i) w3 (w9.setCell ⟨R,5,p⟩ (C a' (ds.length+1) c')):=
  ((I kI.q (λ_ _ h=>h)).tr ⟨lY.q.os,lY.q.tape,lY.q.output,lY.q.size,λi hi hl=>lY.q.block i hl (λe=>hi.2 e.symm)⟩).setTail (λh=>h.1 rfl)
 exact⟨_,_,_,_,HR3.q.order (x:=(⟨c.no 2 n0,a2,rs.length,q2⟩:aM)) qW.q wH.q rR (Dx.q.same (A:=λi=>i≠R) ((Same.refl' _).setTail (λh=>h rfl)) (λg hg e=>by have:=(Dx.q.lt g hg).1;omega)) (P7.q.bf 5 (dh.1 qW.q).1 _) HOW.q⟩
end
theorem jE.box {B R g:Nat}{cs:Array Value}{c:Cont}{es:U EvC}{ds:U aM}{ms:U aN}{X Y:Z}{T:TypeId}(h:jE B X R cs c es ds ms)(hg:∃cs fz,X.1[g]?=r (L cs T fz))
  (h1:9≠T) (h2:79≠T) (h3:88≠T) (h4:98≠T) (h5:3≠T) (hE:50≠T\/∀v,cs[4]?=r v->v.ownBlock≠r g) (hM:84≠T\/∀v,cs[6]?=r v->v.ownBlock≠r g) (hR:R≠g) (hs:Same (λi=>i≠g) X Y):jE B Y R cs c es ds ms:=by
 have s:=h.s;refine⟨⟨s.t.apart hg h1 hR hs,?_,?_,?_,?_,s.be,s.bd,s.bm,s.se.imp (λ_ _ o=>o.bD hg h4 hs),s.sd.imp (λ_ _ o=>o.bD hg h5 hs),s.sm.imp (λ_ _ o=>o.bD hg h5 hs)⟩,?_,h.b⟩
 .obtain⟨v,v1,v2⟩:=s.e
  refine⟨v,v1,?_⟩;rcases hE with hE|hE
  .exact v2.bD hg hE hs
  .exact v2.same hs (λq hq e=>hE v v1 (by rw[hq,e]))
 .obtain⟨v,v1,v2⟩:=s.d
  exact⟨v,v1,v2.bD hg h2 hs⟩
 .obtain⟨v,v1,v2⟩:=s.m
  refine⟨v,v1,?_⟩;rcases hM with hM|hM
  .exact v2.bD hg hM hs
  .exact v2.same hs (λq hq e=>hM v v1 (by rw[hq,e]))
 .obtain⟨v,v1,v2⟩:=s.q
  exact⟨v,v1,v2.bD hg h3 hs⟩
 .obtain⟨mb,m1,m2,m3⟩:=h.m
  refine⟨mb,m1,m2.same hs (λe=>?_),m3⟩;obtain⟨q,fz,hq⟩:=hg;obtain⟨_,_,hm⟩:=m2.obj;rw[e,hq] at hm
  cases hm
theorem names8 {s:aH}(hok:dW s)(hk:s.kind=8):∃n0 n1 rs,s.names=n0::n1::rs/\rs.length<=300:=by
 have hlen:∃c:Nat,s.names.length=c+2/\c<=300:=by
  rcases hok.2.2 with h|h|h|h|h|h|h|h|h <;> (first|exact h.2.1|(exfalso;have:=h.1;omega))
 obtain⟨q,h1,h2⟩:=hlen
 match hn:s.names,h1 with
 |[],h1=>simp at h1
 |[_],h1=>simp at h1
 |a::b::l,h1=>exact⟨a,b,l,rfl,by simp at h1;omega⟩
section
variable {B K R:Nat}{cs:Array Value}{c:Cont}{es:U EvC}{ds:U aM}{ms:U aN}
theorem XJ (l:bE)(s:aH)(w:Z)(h:jE B w R cs c es ds ms)(hf:aJ c)(hl:xM w B l s)(hk:s.kind=8)(hok:dW s)(hG:nG B K w)(pF:pE w K)(ru:R<K):
  Calls Tryz.prog 106 #[.pointer (r ⟨R,0,p⟩),dY l] w (gW B K R (aR c s) w):=by
 obtain⟨n0,n1,rs,hn,hle⟩:=names8 hok hk;have hnn:l.nn=rs.length+2:=by rw[hl.k.2.2.2.2.1,hn];rfl
 obtain⟨nb,no,ha0,hb0,hd0⟩:=hl.name (i:=0) (x:=n0) (by rw[hn];rfl);obtain⟨nb',no',ha1,hb1,hd1⟩:=hl.name (i:=1) (x:=n1) (by rw[hn];rfl);rw[ha0] at ha1;injection ha1 with q;injection q with q1 q2;subst q1 q2;obtain⟨ra,hsl,hslA,hrow,hrb⟩:=Js hl.n 2 ah;have hra:∀b o,ra=r ⟨b,o,p⟩->b<B:=λb o e=>(let⟨q,e1,e2⟩:=hrb b o e;by rw[ha0] at e1;injection e1 with e1;subst e1;subst e2;exact hb0)
 obtain⟨v7,h7,xO⟩:=h.s.m;obtain⟨a7,c7,rfl,_,OD⟩:=xO.shape;obtain⟨i,z,hi,hz,hsize,dx,hzs⟩:=Tx;have HI:=f (⟨hi,hz,hsize,dx,hzs⟩:_/\_/\_/\_/\_);clear hi hz hsize dx hzs;obtain⟨lk,la,ln,nc,lvl,va,vn,vc,lf,bits⟩:=l;obtain⟨k1,k2,k3,k4,k5,k6⟩:=hl.k;simp only at k1 k2 k3 k4 k5 k6 ha0 hnn hsl hslA hrow;rw[hk] at k1;subst k1;have iZ:H (aR c s={(((c.put 3 n0).put 2 n1).ts rs).1 with M:=(((c.put 3 n0).put 2 n1).ts rs).1.M++[⟨c.no 3 n0,(c.put 3 n0).no 2 n1,lf,p,0,0⟩],SM:=(((c.put 3 n0).put 2 n1).ts rs).1.SM++[(((c.put 3 n0).put 2 n1).ts rs).2]}):=f (by unfold aR;simp only[hk,hn,<-k3];rw[(Nm.ts rs ((c.put 3 n0).put 2 n1)).m,(Nm.ts rs ((c.put 3 n0).put 2 n1)).sm];rfl);subst ha0 hnn;have hsl1:∀W,(Instr.slice 23 (C (r ⟨nb,no,p⟩) (rs.length+2) nc) (r (E G 2)) p p).run Tryz.prog W= .ok (C ra rs.length (nc - 2)) W:=hsl;have akF:∀W,(Instr.sliceAt 23 (C (r ⟨nb,no,p⟩) (rs.length+2) nc) (r (E G 2)) p p).run Tryz.prog W= .ok (C ra rs.length (nc - 2)) W:=hslA;clear hsl hslA;have xP:=f pF;have fT:=f ru;have gy:H (K+3<=w.1.size):=f (let⟨q,T,fz,e,_⟩:=pF (K+2) ah ah;(dh.1 e).1);clear pF ru;have HB:=f h.b;have fG:H (R<w.1.size):=f h.s.t.b.2.2;obtain⟨V,hV⟩:∃V,V=w.alloc (L #[E G 8,C (r ⟨nb,no,p⟩) (rs.length+2) nc,E G lvl,C va vn vc,O lf,E G bits] 66):=⟨_,rfl⟩;have cZ:H (Below w.1.size w V):=f (by rw[hV];exact aA (N w.1.size w) _);have HX:H (Bx V w.1.size #[E G 8,C (r ⟨nb,no,p⟩) (rs.length+2) nc,E G lvl,C va vn vc,O lf,E G bits]):=f (by rw[hV];exact Bx.new w _ _);have zG:H (V.1[w.1.size]?=r (L #[E G 8,C (r ⟨nb,no,p⟩) (rs.length+2) nc,E G lvl,C va vn vc,O lf,E G bits] 66 (0,0))):=f (by rw[hV];exact gX w _);have cB:H (∀W,W.1[w.1.size]?=V.1[w.1.size]?->Same (λi=>i<B\/(K<=i/\i<K+3)) w W->(λW'=>W'.cell? ⟨w.1.size,1,p⟩=r (C (r ⟨nb,no,p⟩) (rs.length+2) nc)/\W'.cell? ⟨w.1.size,4,p⟩=r (O lf)/\W'.cell? ⟨nb,no,p⟩=r (S ⟨n0.toArray⟩)/\W'.cell? ⟨nb,no+1,p⟩=r (S ⟨n1.toArray⟩)) W):=f (λW hb hs=>⟨(J (a:=⟨w.1.size,1,p⟩) hb).trans (HX.q.1 1),(J (a:=⟨w.1.size,4,p⟩) hb).trans (HX.q.1 4),hs.cell hd0 ah,hs.cell hd1 ah⟩);have iw:H (∀W,Same (λi=>i<B\/(K<=i/\i<K+3)) w W->¬aJ (aR c s)->gW B K R (aR c s) w (.panicked kK) W):=f (λW hs hn=>⟨hs,λk=>absurd k hn,λ_=>rfl⟩);have jP:H (True/\(aJ (aR c s)->aJ (c.put 3 n0))/\(aJ (aR c s)->aJ ((c.put 3 n0).put 2 n1))/\(aJ (aR c s)->aJ (((c.put 3 n0).put 2 n1).ts rs).1)):=f (by rw[iZ.q];have hg:Gr (((c.put 3 n0).put 2 n1).ts rs).1 {(((c.put 3 n0).put 2 n1).ts rs).1 with M:=(((c.put 3 n0).put 2 n1).ts rs).1.M++[⟨c.no 3 n0,(c.put 3 n0).no 2 n1,lf,p,0,0⟩],SM:=(((c.put 3 n0).put 2 n1).ts rs).1.SM++[(((c.put 3 n0).put 2 n1).ts rs).2]}:=⟨λ_=>gU _,gU _,gU _,eG _ _,gU _⟩;exact⟨P,λk=>((Gr.put _ 2 _).trans ((Gr.ts rs _).trans hg)).fits k,λk=>((Gr.ts rs _).trans hg).fits k,λk=>hg.fits k⟩);have MS:H ((((c.put 3 n0).put 2 n1).ts rs).1.M.length=ms.length):=f (by rw[(Nm.ts rs ((c.put 3 n0).put 2 n1)).m];show c.M.length=_;rw[<-h.s.bm,bH]);have yD:H (V.drew.1.size=w.1.size+1):=f (by show V.1.size=_;rw[hV];exact World.size_alloc _ _);have nV:H (Same (λi=>i≠R) V V.drew):=f (I (N _ _).drew (λ_ _ h=>h));have HT0:H (Same (λi=>i<B\/(K<=i/\i<K+3)) w V.drew):=f (I cZ.q.drew (λi hi hl=>by have:=HB.q;have:=fT.q;have:=gy.q;have:=fG.q;omega));have jw:=f (h.below cZ.q.drew);have yE:=f hf;have HG:=f hG;have HW:=f ((⟨hok.1 n0 (by rw[hn];simp),hok.1 n1 (by rw[hn];simp),λs' hs'=>hok.1 s' (by rw[hn];exact eD _ (eD _ hs'))⟩:_/\_/\_));have uM:H (V.drew.1[w.1.size]?=V.1[w.1.size]?):=f rfl;have H7:=f h7;have qy:=f (xO.below cZ.q rfl);have hx7:V.cell? ⟨R,6,p⟩=r (C a7 ms.length c7):=((h.s.t.b.keep cZ.q).1 6).trans h7;have vW:=f hx7;have Ea:(w.alloc (L #[E G 8,C (r ⟨nb,no,p⟩) (rs.length+2) nc,E G lvl,C va vn vc,O lf,E G bits] 66)).cell? ⟨R,6,p⟩=r (C a7 ms.length c7):=by rw[<-hV];exact hx7
 have uN:H (∀g,(Value.slice a7 ms.length c7).ownBlock=r g->g≠w.1.size/\g≠R/\R+1<=g/\¬(K<=g/\g<K+3)):=f (λg hg=>⟨λe=>(by obtain⟨_,_,q⟩:=qy.q.tag hg;rw[e,zG.q] at q;cases q),λe=>(by have:=(qy.q.lt g hg).1;omega),(qy.q.lt g hg).1,λe=>(by obtain⟨_,_,q⟩:=qy.q.tag hg;obtain⟨_,T,_,q2,hT⟩:=xP.q g e.1 e.2;rw[cZ.q.block g (by have:=gy.q;omega),q2] at q;cases q;simp[Eb] at hT)⟩);rw[hn] at hrow;have Vb:H (Row w 1 encStr ra rs.length (nc - 2) rs):=f hrow;have Iy:=f hra;have Ic:=f hle;clear k2 k3 k4 k5 k6 hk hn;have hdl:ms.length<=3000:=by have:=hf.2.2.2.1;rw[<-h.s.bm,bH] at this;exact this
 have iU:H ((ms.length+1)*48<=140737488355328):=f ah;have iM:H (ms.length+1<=maxLen):=f (by unfold maxLen;omega);have AL:H (cs[6]?=r (C a7 ms.length c7)):=H7;have mI:H (Own V.drew (R+1) 84 4 fD (C a7 ms.length c7) ms):=qy;have sD:H (w.1.size<V.drew.1.size):=f (by have:=yD.q;omega);have uN:=uN;clear h hf hG hl hok hb0 hd0 hb1 hd1 h7 xO hrow hra hrb hle hdl;by_cases hroom:ms.length<3000;rotate_left
 .have hd:decide ((ms.length:Int)<3000)=false:=bq ah
  have P6:H (¬aJ (aR c s)):=f (λk=>hroom (by rw[iZ.q] at k;have:=k.2.2.2.1;rw[bL,kN,MS.q] at this;exact this));have HT:=f (I (A:=λi=>i<B\/(K<=i/\i<K+3)) cZ.q (λi hi hl=>by have:=HB.q;have:=fT.q;have:=gy.q;have:=fG.q;omega));clear hroom;go_enter func106,ntmps106;go_wp2_with fail;refine(mU _ _).mono ?_;rintro e w2 ⟨rfl,rfl⟩;rw[au ak];rw[<-hV];exact⟨rfl,iw.q _ HT.q P6.q⟩
 have KJ:=f hroom;have hd:decide ((ms.length:Int)<3000)=true:=bN ah;clear hroom;go_enter func106,ntmps106;go_wp2_with fail;refine(mU _ _).mono ?_;rintro e w2 ⟨rfl,rfl⟩;rw[av rfl];rw[<-hV];clear hV Ea;go_wp2_with fail;clear hx7;have hp0:(0:Int)<(rs.length:Int)+2:=by omega
 have hp1:(1:Int)<(rs.length:Int)+2:=by omega
 refine tZ 99 (.q 0 0 (.q 1 0 (.q 2 0 (.q 3 0 (.q 4 0 (.q 6 0 (.q 7 0 (.q 8 0 (.q 9 0 (.q 10 0 (.q 12 0 (.q 13 0 (.alt 5 (.alt 11 (.q 14 0 (.l 15 (.l 16 .nil))) 15 (.l 11 (.q 14 0 (.l 16 .nil)))) 15 (.l 5 (.l 11 (.q 14 0 (.l 16 .nil))))))))))))))))) (λ_=>True) (λW'=>W'.cell? ⟨w.1.size,1,p⟩=r (C (r ⟨nb,no,p⟩) (rs.length+2) nc)/\W'.cell? ⟨w.1.size,4,p⟩=r (O lf)/\W'.cell? ⟨nb,no,p⟩=r (S ⟨n0.toArray⟩)/\W'.cell? ⟨nb,no+1,p⟩=r (S ⟨n1.toArray⟩)) (λch w'=>gW B K R (aR c s) w (.panicked ch) w') ay ay (λch a1 w1 hd hr=>⟨hd,hr⟩) P (cB.q _ uM.q HT0.q) ?_;refine qC ?_;obtain⟨V0,uG⟩:∃V0:Z,V0=V.drew:=⟨_,rfl⟩;rw[<-uG] at nV HT0 jw uM mI sD yD ⊢;have rO:H (V0.1.size=V.1.size):=f (by rw[uG];rfl);clear uG;refine⟨?g1,?g2⟩
 case' g1=>
  refine iq rfl rfl (λK hK=>?_);go_simp;refine(iO 3 ah n0 _ jw.q yE.q HW.q.1 (HG.q.same HT0.q)).mono ?_;rintro e w1 ⟨hS,he⟩;have mg:=f hS;have gB:=f (nV.q.tr hS);have HT1:=f (HT0.q.tr (hS.mono (λi hi _=>by have:=HB.q;have:=fT.q;have:=gy.q;omega)));rcases iK (aJ (c.put 3 n0)) with hf|hf;rotate_left
  .obtain rfl:=he.2 hf
   exact⟨rfl,iw.q _ HT1.q (λk=>hf (jP.q.2.1 k))⟩
  obtain⟨rfl,cs1,hr,hz,ho⟩:=he.1 hf;have HR1:=f hr;have nW:=f hf;have Dl:=f ho;have mV:=f (gB.q.block w.1.size (by have:=fG.q;omega) HX.q.2.2);have qc:H (cs1[6]?=_):=f ((Dl.q 6 (.inl ah)).trans AL.q);have qU:=f (mI.q.iY mg.q);have mh:H (w.1.size<w1.1.size):=f (bM sD.q mg.q.size);refine hK _ _ ⟨P,cB.q _ mV.q HT1.q⟩ ?_;clear hK K hr hz ho hf he hS;refine⟨?g3,?g4⟩
  case' g3=>
   refine iq rfl rfl (λK hK=>?_);go_simp;refine(iO 2 ah n1 _ HR1.q nW.q HW.q.2.1 (HG.q.same HT1.q)).mono ?_;rintro e w2 ⟨hS,he⟩;have ja:=f hS;have HS2:=f (gB.q.tr hS);have HT2:=f (HT1.q.tr (hS.mono (λi hi _=>by have:=HB.q;have:=fT.q;have:=gy.q;omega)));rcases iK (aJ ((c.put 3 n0).put 2 n1)) with hf|hf;rotate_left
   .obtain rfl:=he.2 hf
    exact⟨rfl,iw.q _ HT2.q (λk=>hf (jP.q.2.2.1 k))⟩
   obtain⟨rfl,cs2,hr,hz,ho⟩:=he.1 hf;have HR2:=f hr;have nH:=f hf;have l8:=f ho;have kW:=f (HS2.q.block w.1.size (by have:=fG.q;omega) HX.q.2.2);have uz:H (cs2[6]?=_):=f ((l8.q 6 (.inl ah)).trans qc.q);have sJ:=f (qU.q.iY ja.q);have lU:H (w.1.size<w2.1.size):=f (bM mh.q ja.q.size);refine hK _ _ ⟨P,cB.q _ kW.q HT2.q⟩ ?_;clear hK K hr hz ho hf he hS;refine qC ?_;refine aF rfl rfl (λK hK=>?_);go_simp;have hba:=aA (N w2.1.size w2) (L #[E G 0,E G 0,O false,C p 0 0] 84);have gJ:H (Same (λi=>i≠R) (w2) (w2.alloc (L #[E G 0,E G 0,O false,C p 0 0] 84))):=f (I hba (λ_ _ h=>h));have iW:=f (HS2.q.tr gJ.q);have HT3:=f (HT2.q.tr (I hba (λi hi hl=>hl)));have HR3:=f (HR2.q.below hba);have uO:=nH;have lJ:=f (iW.q.block w.1.size (by have:=fG.q;omega) HX.q.2.2);have qW:=uz;have wH:=f (sJ.q.iY gJ.q);have qh:H (w.1.size<(w2.alloc (L #[E G 0,E G 0,O false,C p 0 0] 84)).1.size):=f (bM lU.q gJ.q.size);have oQ:H (V.1.size<=w2.1.size):=f (by have:=HS2.q.size;have:=rO.q;omega);have pG:=f (Bx.new w2 #[E G 0,E G 0,O false,C p 0 0] 84);have rz:=f (gX w2 (L #[E G 0,E G 0,O false,C p 0 0] 84));have jQ:H (w2.1.size≠R):=f (λe=>by have:=HR2.q.s.t.b.2.2;omega);have qg:H (w.1.size<w2.1.size):=f lU.q;refine hK _ _ ⟨P,cB.q _ lJ.q HT3.q⟩ ?_;obtain⟨kb,hkb⟩:∃kb,kb=w2.1.size:=⟨_,rfl⟩;rw[<-hkb] at pG rz jQ qg oQ ⊢;generalize w2.alloc (L #[E G 0,E G 0,O false,C p 0 0] 84)=w3 at gJ iW HT3 HR3 lJ qh pG rz wH ⊢;clear hK K hba hkb
  case' g4=>
   refine iq rfl rfl (λK hK=>?_);go_simp;have hba:=aA (N w1.1.size w1) (L #[E G 0,E G 0,O false,C p 0 0] 84);have ja:H (Same (λi=>i≠R) (w1) (w1.alloc (L #[E G 0,E G 0,O false,C p 0 0] 84))):=f (I hba (λ_ _ h=>h));have HS2:=f (gB.q.tr ja.q);have HT2:=f (HT1.q.tr (I hba (λi hi hl=>hl)));have HR2:=f (HR1.q.below hba);have nH:=nW;have kW:=f (HS2.q.block w.1.size (by have:=fG.q;omega) HX.q.2.2);have uz:=qc;have sJ:=f (qU.q.iY ja.q);have lU:H (w.1.size<(w1.alloc (L #[E G 0,E G 0,O false,C p 0 0] 84)).1.size):=f (bM mh.q ja.q.size);have oQ:H (V.1.size<=w1.1.size):=f (by have:=gB.q.size;have:=rO.q;omega);have pI:=f (Bx.new w1 #[E G 0,E G 0,O false,C p 0 0] 84);have uQ:=f (gX w1 (L #[E G 0,E G 0,O false,C p 0 0] 84));have jQ:H (w1.1.size≠R):=f (λe=>by have:=HR1.q.s.t.b.2.2;omega);have qg:H (w.1.size<w1.1.size):=f mh.q;refine hK _ _ ⟨P,cB.q _ kW.q HT2.q⟩ ?_;obtain⟨kb,hkb⟩:∃kb,kb=w1.1.size:=⟨_,rfl⟩;rw[<-hkb] at pI uQ jQ qg oQ ⊢;generalize w1.alloc (L #[E G 0,E G 0,O false,C p 0 0] 84)=w2 at ja HS2 HT2 HR2 kW lU pI uQ sJ ⊢;clear hK K hba hkb;refine aF rfl rfl (λK hK=>?_);go_simp;refine(iO 2 ah n1 _ HR2.q nH.q HW.q.2.1 (HG.q.same HT2.q)).mono ?_;rintro e w3 ⟨hS,he⟩;have gJ:=f hS;have iW:=f (HS2.q.tr hS);have HT3:=f (HT2.q.tr (hS.mono (λi hi _=>by have:=HB.q;have:=fT.q;have:=gy.q;omega)));rcases iK (aJ ((c.put 3 n0).put 2 n1)) with hf|hf;rotate_left
   .obtain rfl:=he.2 hf
    exact⟨rfl,iw.q _ HT3.q (λk=>hf (jP.q.2.2.1 k))⟩
   obtain⟨rfl,FK,hr,hz,ho⟩:=he.1 hf;have HR3:=f hr;have uO:=f hf;have zH:=f ho;have lJ:=f (iW.q.block w.1.size (by have:=fG.q;omega) HX.q.2.2);have qW:H (FK[6]?=_):=f ((zH.q 6 (.inl ah)).trans uz.q);have wH:=f (sJ.q.iY gJ.q);have qh:H (w.1.size<w3.1.size):=f (bM lU.q gJ.q.size);have pG:=f (gJ.q.bx pI.q jQ.q);have rz:=f ((gJ.q.block kb jQ.q pI.q.2.2).trans uQ.q);refine hK _ _ ⟨P,cB.q _ lJ.q HT3.q⟩ ?_;clear hK K hr hz ho hf he hS;refine qC ?_
 case' g2=>
  refine iq rfl rfl (λK hK=>?_);go_simp;have hba:=aA (N V0.1.size V0) (L #[E G 0,E G 0,O false,C p 0 0] 84);have mg:H (Same (λi=>i≠R) (V0) (V0.alloc (L #[E G 0,E G 0,O false,C p 0 0] 84))):=f (I hba (λ_ _ h=>h));have gB:=f (nV.q.tr mg.q);have HT1:=f (HT0.q.tr (I hba (λi hi hl=>hl)));have HR1:=f (jw.q.below hba);have nW:=yE;have mV:=f (gB.q.block w.1.size (by have:=fG.q;omega) HX.q.2.2);have qc:=AL;have qU:=f (mI.q.iY mg.q);have mh:H (w.1.size<(V0.alloc (L #[E G 0,E G 0,O false,C p 0 0] 84)).1.size):=f (bM sD.q mg.q.size);have oQ:H (V.1.size<=V0.1.size):=f (by have:=nV.q.size;have:=rO.q;omega);have xQ:=f (Bx.new V0 #[E G 0,E G 0,O false,C p 0 0] 84);have Bg:=f (gX V0 (L #[E G 0,E G 0,O false,C p 0 0] 84));have jQ:H (V0.1.size≠R):=f (λe=>by have:=jw.q.s.t.b.2.2;omega);have qg:H (w.1.size<V0.1.size):=f sD.q;refine hK _ _ ⟨P,cB.q _ mV.q HT1.q⟩ ?_;obtain⟨kb,hkb⟩:∃kb,kb=V0.1.size:=⟨_,rfl⟩;rw[<-hkb] at xQ Bg jQ qg oQ ⊢;generalize V0.alloc (L #[E G 0,E G 0,O false,C p 0 0] 84)=w1 at mg gB HT1 HR1 mV mh xQ Bg qU ⊢;clear hK K hba hkb;refine aF rfl rfl (λK hK=>?_);go_simp;refine(iO 3 ah n0 _ HR1.q nW.q HW.q.1 (HG.q.same HT1.q)).mono ?_;rintro e w2 ⟨hS,he⟩;have ja:=f hS;have HS2:=f (gB.q.tr hS);have HT2:=f (HT1.q.tr (hS.mono (λi hi _=>by have:=HB.q;have:=fT.q;have:=gy.q;omega)));rcases iK (aJ (c.put 3 n0)) with hf|hf;rotate_left
  .obtain rfl:=he.2 hf
   exact⟨rfl,iw.q _ HT2.q (λk=>hf (jP.q.2.1 k))⟩
  obtain⟨rfl,cs2,hr,hz,ho⟩:=he.1 hf;have HR2:=f hr;have nH:=f hf;have l8:=f ho;have kW:=f (HS2.q.block w.1.size (by have:=fG.q;omega) HX.q.2.2);have uz:H (cs2[6]?=_):=f ((l8.q 6 (.inl ah)).trans qc.q);have sJ:=f (qU.q.iY ja.q);have lU:H (w.1.size<w2.1.size):=f (bM mh.q ja.q.size);have pI:=f (ja.q.bx xQ.q jQ.q);have uQ:=f ((ja.q.block kb jQ.q xQ.q.2.2).trans Bg.q);refine hK _ _ ⟨P,cB.q _ kW.q HT2.q⟩ ?_;clear hK K hr hz ho hf he hS;refine aF rfl rfl (λK hK=>?_);go_simp;refine(iO 2 ah n1 _ HR2.q nH.q HW.q.2.1 (HG.q.same HT2.q)).mono ?_;rintro e w3 ⟨hS,he⟩;have gJ:=f hS;have iW:=f (HS2.q.tr hS);have HT3:=f (HT2.q.tr (hS.mono (λi hi _=>by have:=HB.q;have:=fT.q;have:=gy.q;omega)));rcases iK (aJ ((c.put 3 n0).put 2 n1)) with hf|hf;rotate_left
  .obtain rfl:=he.2 hf
   exact⟨rfl,iw.q _ HT3.q (λk=>hf (jP.q.2.2.1 k))⟩
  obtain⟨rfl,FK,hr,hz,ho⟩:=he.1 hf;have HR3:=f hr;have uO:=f hf;have zH:=f ho;have lJ:=f (iW.q.block w.1.size (by have:=fG.q;omega) HX.q.2.2);have qW:H (FK[6]?=_):=f ((zH.q 6 (.inl ah)).trans uz.q);have wH:=f (sJ.q.iY gJ.q);have qh:H (w.1.size<w3.1.size):=f (bM lU.q gJ.q.size);have pG:=f (gJ.q.bx pI.q jQ.q);have rz:=f ((gJ.q.block kb jQ.q pI.q.2.2).trans uQ.q);refine hK _ _ ⟨P,cB.q _ lJ.q HT3.q⟩ ?_;clear hK K hr hz ho hf he hS;refine qC ?_
 all_goals
  have hcK:=pG.q.1;have OE:=pG.q.2.1;refine aF rfl rfl (λK hK=>?_);go_simp;have fO:H (Same (λi=>i≠kb) w3 ((((w3.setCell ⟨kb,0,p⟩ (E G (c.no 3 n0))).setCell ⟨kb,1,p⟩ (E G ((c.put 3 n0).no 2 n1))).setCell ⟨kb,2,p⟩ (O lf)).setCell ⟨kb,3,p⟩ (C p 0 0))):=f (((((Same.refl' w3).setTail (λh=>h rfl)).setTail (λh=>h rfl)).setTail (λh=>h rfl)).setTail (λh=>h rfl));have xR:=f ((((pG.q.bf 0 ak (E G (c.no 3 n0))).bf 1 ak (E G ((c.put 3 n0).no 2 n1))).bf 2 ak (O lf)).bf 3 ak (C p 0 0));have Ec:=f (bR (i:=3) (bR (i:=2) (bR (i:=1) (bR (i:=0) (rz.q) (E G (c.no 3 n0))) (E G ((c.put 3 n0).no 2 n1))) (O lf)) (C p 0 0));have HR4:=f (HR3.q.box (T:=84) ⟨_,_,rz.q⟩ aj aj aj aj aj (.inl aj) (.inr (λv hv e=>by rw[qW.q] at hv;injection hv with hv;subst hv;have:=(mI.q.lt kb e).2;have:=oQ.q;have:=rO.q;omega)) (λe=>jQ.q e.symm) fO.q);have Im:=uO;have uf:H (Same (λi=>i≠R) V ((((w3.setCell ⟨kb,0,p⟩ (E G (c.no 3 n0))).setCell ⟨kb,1,p⟩ (E G ((c.put 3 n0).no 2 n1))).setCell ⟨kb,2,p⟩ (O lf)).setCell ⟨kb,3,p⟩ (C p 0 0))):=f (((iW.q.mono (A':=λi=>i≠R/\i<V.1.size) (λi hi _=>hi.1)).tr (fO.q.mono (λi hi _=>by have:=oQ.q;have:=rO.q;omega))).mono (λi hi hl=>⟨hi,hl⟩));have xk:=f (HT3.q.tr (fO.q.mono (λi hi _=>by have:=qg.q;have:=fG.q;have:=HB.q;have:=fT.q;have:=gy.q;omega)));have uR:=f ((fO.q.block w.1.size (by have:=qg.q;omega) qh.q).trans lJ.q);have yL:=f (bM qh.q fO.q.size);have Ve:=qW;have NY:=f (wH.q.same fO.q (λg hg e=>by have:=(mI.q.lt g hg).2;have:=oQ.q;have:=rO.q;omega));refine hK _ _ ⟨P,cB.q _ uR.q xk.q⟩ ?_;generalize((((w3.setCell ⟨kb,0,p⟩ (E G (c.no 3 n0))).setCell ⟨kb,1,p⟩ (E G ((c.put 3 n0).no 2 n1))).setCell ⟨kb,2,p⟩ (O lf)).setCell ⟨kb,3,p⟩ (C p 0 0))=w4 at fO xR Ec HR4 uf xk uR yL NY ⊢;clear hK K hcK OE;refine jA ?_;have hcb:w4.cell? ⟨w.1.size,1,p⟩=r (C (r ⟨nb,no,p⟩) (rs.length+2) nc):=(cB.q _ uR.q xk.q).1;go_wp2_with fail;have Vd:H (Row w4 1 encStr ra rs.length (nc - 2) rs):=f (xk.q.row Vb.q (λb o e=> .inl (Iy.q b o e)));refine(XZ rs ra rs.length _ _ HR4.q Im.q Vd.q (λb o e=>by have:=Iy.q b o e;have:=HB.q;have:=fT.q;have:=gy.q;omega) HW.q.2.2 (by have:=Ic.q;omega) (HG.q.same xk.q) fT.q).mono ?_;rintro e w5 ⟨hS,he⟩;have Vf:=f hS;have vK:=f (uf.q.tr hS);have P8:=f (xk.q.tr (hS.mono (λi hi _=>by have:=HB.q;have:=fT.q;have:=gy.q;omega)));rcases iK (aJ (((c.put 3 n0).put 2 n1).ts rs).1) with hf|hf;rotate_left
  .obtain rfl:=he.2 hf
   exact⟨rfl,iw.q _ P8.q (λk=>hf (jP.q.2.2.2 k))⟩
  obtain⟨a2,q2,rfl,how,cs5,hr,hz,ho⟩:=he.1 hf;have HR5:=f hr;have P9:=f hf;have HO5:=f ho;have P5:=f (vK.q.block w.1.size (by have:=fG.q;omega) HX.q.2.2);have HOW:=f (how.mono (B':=R+1) (by have:=HR4.q.s.t.b.2.2;omega));have ady:H (cs5[6]?=_):=f ((HO5.q 6 (.inl ah)).trans Ve.q);have akG:=f (NY.q.iY Vf.q);have ahz:H (w.1.size<w5.1.size):=f (bM yL.q Vf.q.size);have Vg:=f (Vf.q.bx xR.q jQ.q);have Vh:=f ((Vf.q.block kb jQ.q xR.q.2.2).trans Ec.q);clear hr hz ho hf he hS how hcb;have hcK:=Vg.q.1 3;have OE:=Vg.q.2.1 3;have hlK:=Vg.q.2.2;go_wp2_with fail;have Jw:H (Same (λi=>i≠kb) w5 (w5.setCell ⟨kb,3,p⟩ (C a2 rs.length q2))):=f ((Same.refl' w5).setTail (λh=>h rfl));have ahA:=f (Vg.q.bf 3 ak (C a2 rs.length q2));have HR6:=f (HR5.q.box (T:=84) ⟨_,_,Vh.q⟩ aj aj aj aj aj (.inl aj) (.inr (λv hv e=>by rw[ady.q] at hv;injection hv with hv;subst hv;have:=(mI.q.lt kb e).2;have:=oQ.q;have:=rO.q;omega)) (λe=>jQ.q e.symm) Jw.q);have HF6:=P9;have Iz:=f (P8.q.tr (Jw.q.mono (λi hi _=>by have:=qg.q;have:=fG.q;have:=HB.q;have:=fT.q;have:=gy.q;omega)));have ahB:=f ((Jw.q.block w.1.size (by have:=qg.q;omega) ahz.q).trans P5.q);have ahC:=f (bM ahz.q Jw.q.size);have akH:=ady;have adA:=f (akG.q.same Jw.q (λg hg e=>by have:=(mI.q.lt g hg).2;have:=oQ.q;have:=rO.q;omega));have ahD:=f (HOW.q.bD ⟨_,_,Vh.q⟩ aj Jw.q);generalize(w5.setCell ⟨kb,3,p⟩ (C a2 rs.length q2))=w6 at Jw ahA HR6 Iz ahB ahC adA ahD ⊢;clear hcK OE hlK;have Qa:=f (HR6.q.below (N w6.1.size w6).drew);have HF7:=HF6;have HT7:=f (Iz.q.tr (I (N w6.1.size w6).drew (λi hi hl=>hl)));have aaY:H (w6.drew.1[w.1.size]?=V.1[w.1.size]?):=f ahB.q;have ahF:H (w.1.size<w6.drew.1.size):=f ahC.q;have Hw:=akH;have adC:H (Own w6.drew (R+1) 84 4 fD (C a7 ms.length c7) ms):=f adA.q;have aoa:H (Own w6.drew (R+1) 3 1 aX (C a2 rs.length q2) _):=f ahD.q;have Ac:H (Bx w6.drew kb _):=f ahA.q.drew;refine dA 12 [(0,0),(1,0),(2,0),(3,0),(4,0),(5,0),(6,0),(7,2),(8,2),(9,1),(10,1),(11,0),(12,2)] (λ_=>True) (λW'=>W'.cell? ⟨R,6,p⟩=r (C a7 ms.length c7)/\W'.cell? ⟨kb,0,p⟩=r (E G (c.no 3 n0))/\W'.cell? ⟨kb,1,p⟩=r (E G ((c.put 3 n0).no 2 n1))/\W'.cell? ⟨kb,2,p⟩=r (O lf)/\W'.cell? ⟨kb,3,p⟩=r (C a2 rs.length q2)) (λch w'=>gW B K R (aR c s) w (.panicked ch) w') ay ay (λch a1 w1 hd hr=>⟨hd,hr⟩) (trivial) (⟨(Qa.q.s.t.b.1 6).trans Hw.q,Ac.q.1 0,Ac.q.1 1,Ac.q.1 2,Ac.q.1 3⟩) ?_;refine qC ?_;refine aF rfl rfl (λK hK=>?_);go_simp;have hba:=aA (N w6.drew.1.size w6.drew) (L #[E G (c.no 3 n0),E G ((c.put 3 n0).no 2 n1),O lf,C a2 rs.length q2] 84);have kI:=f hba;have Iw:=f (HT7.q.tr (I hba (λi hi hl=>hl)));have Jv:H ((w6.drew.alloc (L #[E G (c.no 3 n0),E G ((c.put 3 n0).no 2 n1),O lf,C a2 rs.length q2] 84)).1[w.1.size]?=V.1[w.1.size]?):=f ((hba.block _ (by have:=ahF.q;omega)).trans aaY.q);have MR:=f (Qa.q.s.t.b.keep hba);refine hK _ _ ⟨P,(MR.q.1 6).trans Hw.q,(Ac.q.alloc _).1 0,(Ac.q.alloc _).1 1,(Ac.q.alloc _).1 2,(Ac.q.alloc _).1 3⟩ ?_;clear hK K hba;refine aF rfl rfl (λK hK=>?_);refine lX _ _ 26 rfl i z 48 underlying26 HI.q.1 HI.q.2.1 HI.q.2.2.1 HI.q.2.2.2.1 HI.q.2.2.2.2 rfl (adC.q.below kI.q rfl) (r ⟨w6.drew.1.size,0,p⟩) 1 1 (ms.length+1) [⟨c.no 3 n0,(c.put 3 n0).no 2 n1,lf,a2,rs.length,q2⟩] rfl (Row.ma1 w6.drew _) rfl iU.q iM.q (bX (Nat.succ_le_of_lt Qa.q.s.t.b.2.2) kI.q.size) ?_;intro a' c' w9 uw j3 Bq;have KL:=f (Iw.q.tr ⟨j3.os,j3.tape,j3.output,j3.size,λi hi hl=>j3.block i hl (λe=>by have:=(uN.q i e.symm).2.2.1;have:=(uN.q i e.symm).2.2.2;have:=HB.q;have:=fT.q;have:=gy.q;omega)⟩);have Va:H (w9.1[w.1.size]?=V.1[w.1.size]?):=f ((j3.block w.1.size (bM ahF.q kI.q.size) (λe=>(uN.q _ e.symm).1 rfl)).trans Jv.q);have wm:=MR.q.grown j3 (λe=>(uN.q _ e).2.1 rfl);refine hK _ _ ⟨P,(wm.1 6).trans Hw.q,((Ac.q.alloc _).grown j3 (λe=>by have:=(mI.q.lt kb e).2;have:=oQ.q;have:=rO.q;omega)).1 0,((Ac.q.alloc _).grown j3 (λe=>by have:=(mI.q.lt kb e).2;have:=oQ.q;have:=rO.q;omega)).1 1,((Ac.q.alloc _).grown j3 (λe=>by have:=(mI.q.lt kb e).2;have:=oQ.q;have:=rO.q;omega)).1 2,((Ac.q.alloc _).grown j3 (λe=>by have:=(mI.q.lt kb e).2;have:=oQ.q;have:=rO.q;omega)).1 3⟩ ?_;have Kn:=(wm.1 6).trans Hw.q;have Xp:=wm.2.1 6;have P7:=f wm;have Dx:=f uw;have lY:=f j3;clear hK K wm uw j3 Bq;refine qC ?_;refine bC rfl rfl rfl (λK hK=>?_);go_simp;refine hK _ _ P ?_;clear hK K;refine jA ?_;have zJ:H (aJ (aR c s)):=f (by rw[iZ.q];have k:=HF7.q;exact⟨k.1,k.2.1,k.2.2.1,by show((((c.put 3 n0).put 2 n1).ts rs).1.M++[_]).length<=3000;rw[bL,kN,MS.q];exact KJ.q,k.2.2.2.2.1,k.2.2.2.2.2⟩);go_wp2_with fail;refine bodyPost_end (results_none rfl _ _ _) rfl ?_;refine⟨KL.q.setTail (λh=>by have:=HB.q;have:=fT.q;have:=gy.q;omega),λ_=>⟨rfl,?_⟩,λk=>absurd zJ.q k⟩;rw[iZ.q];have rR:Same (λi=>i≠R/\(Value.slice a7 ms.length c7).ownBlock≠r i) w6.drew (w9.setCell ⟨R,6,p⟩ (C a' (ms.length+1) c')):=
   ((I kI.q (λ_ _ h=>h)).tr ⟨lY.q.os,lY.q.tape,lY.q.output,lY.q.size,λi hi hl=>lY.q.block i hl (λe=>hi.2 e.symm)⟩).setTail (λh=>h.1 rfl)
  exact⟨_,_,_,_,Qa.q.WK (x:=(⟨c.no 3 n0,(c.put 3 n0).no 2 n1,lf,a2,rs.length,q2⟩:aN)) Hw.q adC.q rR (Dx.q.same (A:=λi=>i≠R) ((Same.refl' _).setTail (λh=>h rfl)) (λg hg e=>by have:=(Dx.q.lt g hg).1;omega)) (P7.q.bf 6 (dh.1 Hw.q).1 _) aoa.q⟩
end
def Moved (w0 X:Z)(F:Int->U Int)(pre:U (Int × Addr)):Prop:=
 ∀g cs T fz,w0.1[g]?=r (L cs T fz)->∃cs':Array Value,X.1[g]?=r (L cs' T fz)/\cs'.size=cs.size/\
  (∀j,(∀s,(s,(⟨g,j,p⟩:Addr))∉pre)->cs'[j]?=cs[j]?)/\(∀j s n,(s,(⟨g,j,p⟩:Addr))∈pre->cs[j]?=r (E G n)->cs'[j]?=r (E G (dZ (F s) n)))
theorem Moved.start {w0 X:Z}{F:Int->U Int}(s:Same (λi=>i<w0.1.size) w0 X):Moved w0 X F []:=λg cs T fz h=>
 ⟨cs,(s.block g (dh.1 h).1 (dh.1 h).1).trans h,rfl,λ_ _=>rfl,λ_ _ _ h=>(by cases h)⟩
theorem Moved.same {w0 X Y:Z}{F:Int->U Int}{pre:U (Int × Addr)}(h:Moved w0 X F pre)(s:Same (λi=>i<w0.1.size) X Y):Moved w0 Y F pre:=λg cs T fz hg=>
 (let⟨cs',h1,h2⟩:=h g cs T fz hg;⟨cs',(s.block g (dh.1 hg).1 (dh.1 h1).1).trans h1,h2⟩)
theorem cell_of {w:Z}{g j:Nat}{v:Value}(h:w.cell? ⟨g,j,p⟩=r v):∃cs T fz,w.1[g]?=r (L cs T fz)/\cs[j]?=r v:=by
 unfold World.cell? at h
 split at h
 .rename_i cs T fz hg
  exact⟨cs,T,fz,hg,by simpa using h⟩
 .cases h
theorem of_cell {w:Z}{g j:Nat}{v:Value}{cs:Array Value}{T:TypeId}{fz:Nat × Nat}(h:w.1[g]?=r (L cs T fz))(hj:cs[j]?=r v):w.cell? ⟨g,j,p⟩=r v:=by
 unfold World.cell?;simp[h,hj]
theorem Moved.cell {w0 X:Z}{F:Int->U Int}{pre:U (Int × Addr)}(h:Moved w0 X F pre){g j:Nat}{v:Value}(hc:w0.cell? ⟨g,j,p⟩=r v)(hn:∀s,(s,(⟨g,j,p⟩:Addr))∉pre):X.cell? ⟨g,j,p⟩=r v:=by
 obtain⟨cs,T,fz,hg,hj⟩:=cell_of hc;obtain⟨cs',h1,h2,h3,h4⟩:=h g cs T fz hg;exact of_cell h1 ((h3 j hn).trans hj)
theorem Moved.step {w0 X:Z}{F:Int->U Int}{pre:U (Int × Addr)}(h:Moved w0 X F pre){s:Int}{g j:Nat}{n v:Int}(hn:∀s',(s',(⟨g,j,p⟩:Addr))∉pre)(hc:w0.cell? ⟨g,j,p⟩=r (E G n))(hv:v=dZ (F s) n):
  Moved w0 (X.setCell ⟨g,j,p⟩ (E G v)) F (pre++[(s,(⟨g,j,p⟩:Addr))]):=λg' cs T fz hg=>by
 obtain⟨cs',h1,h2,h3,h4⟩:=h g' cs T fz hg;by_cases e:g'=g
 .subst e
  refine⟨cs'.setIfInBounds j (E G v),bR h1 _,by rw[Array.size_setIfInBounds];exact h2,λq hq=>?_,λq s' m hq hm=>?_⟩
  .have hne:j≠q:=λe=>hq s (by rw[e];simp)
   rw[tJ hne];exact h3 q (λs' hs'=>hq s' (iJ _ hs'))
  .obtain⟨cs2,T2,fz2,hg2,hj2⟩:=cell_of hc
   rw[hg] at hg2;injection hg2 with hg2;injection hg2 with q1 q2 q3;subst q1;have hlt:j<cs'.size:=by rw[h2];exact(dh.1 hj2).1
   rcases dm.1 hq with hq|hq
   .have hne:j≠q:=λe=>by subst e;exact hn s' hq
    rw[tJ hne];exact h4 q s' m hq hm
   .have hq:=bT.1 hq
    injection hq with e1 e2;injection e2 with _ e2 _;subst e1 e2;rw[hj2] at hm;injection hm with hm;injection hm with _ hm;rw[Es hlt,hv,hm]
 .refine⟨cs',by rw[Below.heap_setCell _ _ _ _ (by exact e)];exact h1,h2,λq hq=>h3 q (λs' hs'=>hq s' (iJ _ hs')),λq s' m hq hm=>?_⟩
  rcases dm.1 hq with hq|hq
  .exact h4 q s' m hq hm
  .have hq:=bT.1 hq
   injection hq with _ e2;injection e2 with e2 _ _;exact absurd e2 e
theorem Own.moved {α:Type}{enc:α->U Value}{k:Nat}[hc:Cells enc k]{w0 X:Z}{B:Nat}{T:TypeId}{v:Value}{xs ys:U α}{F:Int->U Int}{items:U (Int × Addr)}(h:Own w0 B T k enc v xs)(hM:Moved w0 X F items)(hlen:ys.length=xs.length)
  (hcell:∀g,v.ownBlock=r g->∀i x y j u,xs[i]?=r x->ys[i]?=r y->(enc x)[j]?=r u->((enc y)[j]?=r u/\∀s,(s,(⟨g,i*k+j,p⟩:Addr))∉items)\/(∃s n,(s,(⟨g,i*k+j,p⟩:Addr))∈items/\u= E G n/\(enc y)[j]?=r (E G (dZ (F s) n)))):
  Own X B T k enc v ys:=by
 obtain⟨h1,h2⟩:=h;refine⟨yS _,?_⟩;rcases h2 with⟨e,h0⟩|⟨g,cap,cur,e,hB,hh,hn,hm,hs,ht⟩
 .exact .inl ⟨e,hlen.trans h0⟩
 .obtain⟨cs',k1,k2,k3,k4⟩:=hM g cur T _ hh
  refine .inr ⟨g,cap,cs',by rw[e,hlen],hB,k1,by rw[hlen];exact hn,hm,k2.trans hs,?_⟩;have sP:v.ownBlock=r g:=by rw[e];rfl
  rw[hlen]
  apply Ce
  intro q;have hle:xs.length*k<=cs'.size:=by rw[k2,hs];exact Nat.mul_le_mul_right _ hn
  by_cases hq:q<xs.length*k
  .rw[AO,av hq]
   have hk:=hc.pos;have hi:q / k<xs.length:=(Nat.div_lt_iff_lt_mul hk).2 hq;have hj:q % k<k:=Nat.mod_lt _ hk;have hqe:q / k*k+q % k=q:=by rw[wh];exact Nat.div_add_mod q k
   obtain⟨x,hx⟩:∃x,xs[q / k]?=r x:=⟨_,fK hi⟩;obtain⟨y,hy⟩:∃y,ys[q / k]?=r y:=⟨_,fK ah⟩;obtain⟨u,hu⟩:∃u,(enc x)[q % k]?=r u:=⟨_,fK (by rw[hc.len];exact hj)⟩;have hold:cur[q]?=r u:=by
    have:=flat_get (hc:=hc) xs _ _ _ _ hx hu;rw[hqe,<-ht,AO,av hq] at this
    simpa using this
   have hnew:∀u',(enc y)[q % k]?=r u'->(ys.flatMap enc)[q]?=r u':=λu' hu'=>by
    have:=flat_get (hc:=hc) ys _ _ _ _ hy hu';rw[hqe] at this;exact this
   have hh:=hcell g sP (q / k) x y (q % k) u hx hy hu;rw[hqe] at hh;rcases hh with⟨e1,e2⟩|⟨s,n,e1,e2,e3⟩
   .rw[hnew u e1,Array.getElem?_toList,k3 q e2,hold]
   .subst e2
    rw[hnew _ e3,Array.getElem?_toList,k4 q s n e1 hold]
  .rw[AO,au hq,xY (by rw[yS (hc:=hc),hlen];omega)]
end Yd
