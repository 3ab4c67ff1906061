import Derived.Test.YtiheclemhihpeaaGreatDoorZCuL
import Derived.Test.YtiheclemhihpeaaGreatDoorZChG
import Derived.Test.YtiheclemhihpeaaGreatDoorZF7
set_option linter.all false
set_option maxRecDepth 200000
set_option maxHeartbeats 8000000
namespace Yd
open Bool renaming true->V
open Option renaming none->N,some->O
open Go Go.RowKit Go.Proofs Tryz
open Go.IntKind renaming i64->H
open Go.Obj renaming cells->I
open Go.Value renaming slice->C,int->G,bool->R
open Gr renaming put->L
open RowKit renaming intOf->U
open Yd renaming hid->P
open _root_ renaming List->J
section
variable {c:Cont}{F:Int->J Int}
end
theorem jd {l z:J Bs}(h:l<+:z){n:Int}(a:bf n l.length=V):aU z n=aU l n:=by
 simp only[bf,bD,bO] at a;obtain⟨k,rfl⟩:∃k:Nat,n=(k:Int):=⟨n.toNat,by omega⟩;obtain⟨t,rfl⟩:=h
 grind [vO]
theorem FH {l z:J Bs}(h:l<+:z){v:je}(a:gJ v l.length=V):lZ z v=lZ l v:=by
 grind [lZ,gJ,jd]
variable{z:Cont}
theorem Ll {c:Cont}(g:Gr c z){e:EvC}{l:J Sn}(j:gY (c.nl 0).length (c.nl 1).length (c.nl 2).length (c.nl 3).length e l=V):mH z e l=mH c e l:=by
 simp only[gY,bD,bO] at j;obtain⟨⟨_,m⟩,a⟩:=j.1;unfold hasB at a;unfold mH;rw[jd (g.n 0) m];by_cases b:e.kind=1
 .rw[aA b] at a
  simp only[bD] at a;rw[aA b,aA b,jd (g.n 1) a.1]
 .rw[ay b] at a ⊢
  rw[ay b];by_cases d:e.kind=2
  .rw[aA d] at a ⊢
   simp only[bD] at a;rw[aA d,jd (g.n 2) a.1.1.1]
  .rw[ay d] at a ⊢
   rw[ay d];by_cases f:e.kind=3
   .rw[aA f] at a ⊢
    simp only[bD] at a;rw[aA f,jd (g.n 2) a.1,FH (g.n 0) a.2]
   .rw[ay f] at a ⊢
    rw[ay f];by_cases k:e.kind=4
    .rw[aA k] at a ⊢
     simp only[bD,jW] at a;have i:∀s∈l,bf s.obj (c.nl 2).length=V/\gJ s.v (c.nl 0).length=V:=λs i=>by
      grind [ji]
     rw[aA k,jd (g.n 3) a.1.1,qR (λs h=>jd (g.n 2) (i s h).1),qR (λs h=>FH (g.n 0) (i s h).2)]
    grind
theorem Ee {c:Cont}(g:Gr c z){l:J Int}(h:fK (c.nl 0).length l=V):l.map (aU (z.nl 0))=l.map (aU (c.nl 0)):=by
 simp only[fK,bD,jW] at h;exact qR (λt a=>jd (g.n 0) (h.2 t a))
def T9 (c:Cont):J aK:=(c.E.zip c.SE).map (λp=>mH c p.1 p.2)
def Ua (c:Cont):J aK:=(c.D.zip c.SD).map (λp=>xL c p.1 p.2)
def Ub (c:Cont):J aK:=(c.M.zip c.SM).map (λp=>xM c p.1 p.2)
def Uc (c:Cont):J aK:=c.Q.map (Aw c)
section
variable {c z:Cont}(h:gX c)(g:Gr c z)
include h g
theorem Ay:(c.E.zip c.SE).map (λp=>mH z p.1 p.2)=T9 c:=qR (λp a=>Ll g (h.ev p a))
theorem Az:(c.D.zip c.SD).map (λp=>xL z p.1 p.2)=Ua c:=qR (λp a=>by
 unfold xL;rw[jd (g.n 2) (h.od p a).1,Ee g (h.od p a).2])
theorem AA:(c.M.zip c.SM).map (λp=>xM z p.1 p.2)=Ub c:=qR (λp a=>by
 unfold xM;rw[jd (g.n 3) (h.ma p a).1,jd (g.n 2) (h.ma p a).2.1,Ee g (h.ma p a).2.2])
theorem AB:c.Q.map (Aw z)=Uc c:=qR (λp a=>by
 unfold Aw;rw[jd (g.n 1) (h.wa p a).1])
end
theorem iV {c:Cont}{i:Nat}{s:Bs}(g:Gr (c.put i s) z):aU (z.nl i) (c.no i s)=s:=by
 have e:(c.put i s).nl i=bV (c.nl i) s:=aA rfl;rw[jd (g.n i) (fQ c i s),e];have a:=EG (yE (c.nl i) s);show aU _ ((lQ (c.nl i) s:Nat):Int)=s
 grind [lQ,bV,vO]
theorem FI {c:Cont}{v:To}(b:nW v)(g:Gr (c.bF v).1 z):lZ (z.nl 0) (c.bF v).2=v:=by
 rcases b with rfl|⟨_,e,_⟩
 .rfl
 .have a:¬v.k=0:=by omega
  have d:c.bF v=(c.put 0 v.name,⟨c.no 0 v.name,v.k⟩):=by unfold Cont.bF;rw[ay a]
  rw[d] at g ⊢;unfold lZ;simp only[ay a];rw[iV g]
theorem Bt:∀(l:J Bs){c z:Cont},Gr (c.ts l).1 z->(c.ts l).2.map (aU (z.nl 0))=l
 |[],_,_,_=>rfl
 |s::r,c,z,g=>by
  show aU (z.nl 0) (c.no 0 s)::((c.put 0 s).ts r).2.map (aU (z.nl 0))=s::r;rw[Bt r g,iV ((Gr.ts r _).trans g)]
theorem FJ:∀(l:J (Bs × To)){c z:Cont},(∀p∈l,nW p.2)->Gr (c.sc l).1 z->(c.sc l).2.map (λq=>aU (z.nl 2) q.obj)=l.map Prod.fst/\(c.sc l).2.map (λq=>lZ (z.nl 0) q.v)=l.map Prod.snd
 |[],_,_,_,_=>⟨rfl,rfl⟩
 |p::r,c,z,a,g=>by
  obtain⟨d,e⟩:=FJ r (λq f=>a q (iM _ f)) g;have b:=(Gr.sc r ((c.put 2 p.1).bF p.2).1).trans g
  constructor
  .show aU (z.nl 2) (c.no 2 p.1)::_=p.1::_
   rw[d,iV ((Gr.bF _ p.2).trans b)]
  .show lZ (z.nl 0) ((c.put 2 p.1).bF p.2).2::_=p.2::_
   rw[e,FI (a p pU) b]
structure jM (c z:Cont)(e d m q:J aK):Prop where
 e:T9 z=T9 c++e
 d:Ua z=Ua c++d
 m:Ub z=Ub c++m
 q:Uc z=Uc c++q
variable{y:Cont}
theorem jM.fJ {c:Cont}(h:gX c)(g:Gr c y)(n:Nm c y)(e:EvC)(l:J Sn)(x:aK)(b:mH (y.ev e l) e l=x):jM c (y.ev e l) [x] [] [] []:=by
 have a:=g.trans (Gr.ev y e l);refine⟨?_,?_,?_,?_⟩
 .show((y.E++[e]).zip (y.SE++[l])).map _=_
  rw[n.e,n.se,tC h.le,fV,Ay h a,qU,b]
 .show(y.D.zip y.SD).map _=_
  rw[n.d,n.sd,eG];exact Az h a
 .show(y.M.zip y.SM).map _=_
  rw[n.m,n.sm,eG];exact AA h a
 .show y.Q.map _=_
  rw[n.q,eG];exact AB h a
def pY (a b:Int)(l:aK):J aK:=if a<=l.kind/\l.kind<=b then [l] else []
variable{l:aK}
theorem mI {a b:Int}(h:a<=l.kind/\l.kind<=b):pY a b l=[l]:=aA h
theorem gM {a b:Int}(h:¬(a<=l.kind/\l.kind<=b)):pY a b l=[]:=ay h
theorem jM.add {c:Cont}(h:gX c)(T:fo l):jM c (aT c l) (pY 1 6 l) (pY 7 7 l) (pY 8 8 l) (pY 9 9 l):=by
 obtain⟨kd,ns,lv,f,o,bt⟩:=l;obtain⟨Z,t,u⟩:=T;simp only at Z t u;rcases u with⟨rfl,d,rfl,⟨lw,rfl,h3,h4⟩,rfl,rfl⟩|⟨rfl,d,rfl,rfl,rfl,rfl⟩|⟨rfl,d,x,rfl,rfl,rfl⟩|⟨rfl,⟨A,d,x,B⟩,_,rfl,rfl,rfl⟩|⟨rfl,d,rfl,rfl,rfl,rfl⟩|⟨rfl,d,rfl,rfl,rfl,rfl⟩|⟨rfl,⟨A,d,B⟩,rfl,rfl,rfl,rfl⟩|⟨rfl,⟨A,d,B⟩,rfl,rfl,_,rfl⟩|⟨rfl,d,rfl,rfl,rfl,⟨s,rfl,h5⟩⟩
 .obtain⟨a,b,rfl⟩:=xO d
  have g:=L (c.put 0 a) 1 b
  apply jM.fJ h ((L c 0 a).trans g) ((Nm.put c 0 a).trans (Nm.put _ 1 b)) _ _ _
  show(⟨1,[aU (((c.put 0 a).put 1 b).nl 0) (c.no 0 a),aU (((c.put 0 a).put 1 b).nl 1) ((c.put 0 a).no 1 b)],_,[],false,0⟩:aK)=_
  grind [iV,Gr.refl]
 .obtain⟨a,b,rfl⟩:=xO d
  have g:=L (c.put 0 a) 2 b
  apply jM.fJ h ((L c 0 a).trans g) ((Nm.put c 0 a).trans (Nm.put _ 2 b)) _ _ _
  show(⟨2,[aU (((c.put 0 a).put 2 b).nl 0) (c.no 0 a),aU (((c.put 0 a).put 2 b).nl 2) ((c.put 0 a).no 2 b)],_,[],false,0⟩:aK)=_
  grind [iV,Gr.refl]
 .obtain⟨a,b,rfl⟩:=xO d
  obtain⟨v,rfl⟩:=um x;have α:=t v ak;have j:=Gr.bF ((c.put 0 a).put 2 b) v;have g:=(L (c.put 0 a) 2 b).trans j
  apply jM.fJ h ((L c 0 a).trans g) (((Nm.put c 0 a).trans (Nm.put _ 2 b)).trans (Nm.bF _ v)) _ _ _
  show(⟨3,[aU ((((c.put 0 a).put 2 b).bF v).1.nl 0) (c.no 0 a),aU ((((c.put 0 a).put 2 b).bF v).1.nl 2) ((c.put 0 a).no 2 b)],_,[lZ ((((c.put 0 a).put 2 b).bF v).1.nl 0) (((c.put 0 a).put 2 b).bF v).2],false,0⟩:aK)=_
  grind [iV,FI,Gr.refl]
 .match ns,d with
  |a::b::ns,d=>
  have hz:∀p∈ns.zip f,nW p.2:=λp hp=>t _ (List.of_mem_zip hp).2
  have β:ns.length=f.length:=by simp only[iC] at d;omega
  have j:=Gr.sc (ns.zip f) ((c.put 0 a).put 3 b);have g:=(L (c.put 0 a) 3 b).trans j
  apply jM.fJ h ((L c 0 a).trans g) (((Nm.put c 0 a).trans (Nm.put _ 3 b)).trans (Nm.sc (ns.zip f) _)) _ _ _
  obtain⟨E,K⟩:=FJ (ns.zip f) hz (Gr.refl (((c.put 0 a).put 3 b).sc (ns.zip f)).1);show(⟨4,[aU ((((c.put 0 a).put 3 b).sc (ns.zip f)).1.nl 0) (c.no 0 a),aU ((((c.put 0 a).put 3 b).sc (ns.zip f)).1.nl 3) ((c.put 0 a).no 3 b)]++(((c.put 0 a).put 3 b).sc (ns.zip f)).2.map (λq=>aU ((((c.put 0 a).put 3 b).sc (ns.zip f)).1.nl 2) q.obj),_,(((c.put 0 a).put 3 b).sc (ns.zip f)).2.map (λq=>lZ ((((c.put 0 a).put 3 b).sc (ns.zip f)).1.nl 0) q.v),false,0⟩:aK)=_
  grind [iV,List.map_fst_zip,List.map_snd_zip]
 .obtain⟨a,rfl⟩:=um d
  apply jM.fJ h (L c 0 a) (Nm.put c 0 a) _ _ _
  show(⟨5,[aU ((c.put 0 a).nl 0) (c.no 0 a)],_,[],false,0⟩:aK)=_;rw[iV (Gr.refl _)]
 .obtain⟨a,rfl⟩:=um d
  apply jM.fJ h (L c 0 a) (Nm.put c 0 a) _ _ _
  show(⟨6,[aU ((c.put 0 a).nl 0) (c.no 0 a)],_,[],false,0⟩:aK)=_;rw[iV (Gr.refl _)]
 .match ns,d with
  |a::ns,d=>
  have j:=Gr.ts ns (c.put 2 a);have g:=(L c 2 a).trans j;have n:=(Nm.put c 2 a).trans (Nm.ts ns (c.put 2 a));rw[gM ak,mI ak,gM ak,gM ak];obtain⟨y,i⟩:=kP (((c.put 2 a).ts ns).1);obtain⟨r,k⟩:=kP (((c.put 2 a).ts ns).2);have m:aT c ⟨7,a::ns,0,[],false,0⟩={y with D:=c.D++[⟨c.no 2 a,N,0,0⟩],SD:=c.SD++[r]}:=by rw[i,k];rfl
  have E:r.map (aU (y.nl 0))=ns:=by rw[i,k];exact Bt ns (Gr.refl _)
  have K:aU (y.nl 2) (c.no 2 a)=a:=by rw[i];exact iV j
  rw[<-i] at g n;have e:Gr c {y with D:=c.D++[⟨c.no 2 a,N,0,0⟩],SD:=c.SD++[r]}:=⟨g.n,g.e,fq _ _,g.m,g.q⟩;rw[m];refine⟨?_,?_,?_,?_⟩
  .exact(cZ (List.map _) (congr (cZ List.zip n.e) n.se)).trans ((Ay h e).trans (eG _).symm)
  .show((c.D++[_]).zip (c.SD++[r])).map _=_
   rw[tC h.ld,fV,Az h e,qU];show _++[(⟨7,[aU (y.nl 2) (c.no 2 a)]++r.map (aU (y.nl 0)),0,[],false,0⟩:aK)]=_
   grind
  .exact(cZ (List.map _) (congr (cZ List.zip n.m) n.sm)).trans ((AA h e).trans (eG _).symm)
  .exact(cZ (List.map _) n.q).trans ((AB h e).trans (eG _).symm)
 .match ns,d with
  |a::b::ns,d=>
  have j:=Gr.ts ns ((c.put 3 a).put 2 b);have S:=(L (c.put 3 a) 2 b).trans j;have g:=(L c 3 a).trans S;have n:=((Nm.put c 3 a).trans (Nm.put (c.put 3 a) 2 b)).trans (Nm.ts ns _);rw[gM ak,gM ak,mI ak,gM ak];obtain⟨y,i⟩:=kP ((((c.put 3 a).put 2 b).ts ns).1);obtain⟨r,k⟩:=kP ((((c.put 3 a).put 2 b).ts ns).2);have m:aT c ⟨8,a::b::ns,0,[],o,0⟩={y with M:=c.M++[⟨c.no 3 a,(c.put 3 a).no 2 b,o,N,0,0⟩],SM:=c.SM++[r]}:=by rw[i,k];rfl
  have E:r.map (aU (y.nl 0))=ns:=by rw[i,k];exact Bt ns (Gr.refl _)
  have K:aU (y.nl 3) (c.no 3 a)=a:=by rw[i];exact iV S
  have h8:aU (y.nl 2) ((c.put 3 a).no 2 b)=b:=by rw[i];exact iV j
  rw[<-i] at g n;have e:Gr c {y with M:=c.M++[⟨c.no 3 a,(c.put 3 a).no 2 b,o,N,0,0⟩],SM:=c.SM++[r]}:=⟨g.n,g.e,g.d,fq _ _,g.q⟩;rw[m];refine⟨?_,?_,?_,?_⟩
  .exact(cZ (List.map _) (congr (cZ List.zip n.e) n.se)).trans ((Ay h e).trans (eG _).symm)
  .exact(cZ (List.map _) (congr (cZ List.zip n.d) n.sd)).trans ((Az h e).trans (eG _).symm)
  .show((c.M++[_]).zip (c.SM++[r])).map _=_
   rw[tC h.lm,fV,AA h e,qU];show _++[(⟨8,[aU (y.nl 3) (c.no 3 a),aU (y.nl 2) ((c.put 3 a).no 2 b)]++r.map (aU (y.nl 0)),0,[],o,0⟩:aK)]=_
   grind
  .exact(cZ (List.map _) n.q).trans ((AB h e).trans (eG _).symm)
 .obtain⟨a,rfl⟩:=um d
  rw[gM ak,gM ak,gM ak,mI ak];have m:aT c ⟨9,[a],0,[],false,(s:Int)⟩={c.put 1 a with Q:=c.Q++[⟨c.no 1 a,(s:Int)⟩]}:=rfl;have g:=L c 1 a;have e:Gr c {c.put 1 a with Q:=c.Q++[⟨c.no 1 a,(s:Int)⟩]}:=⟨g.n,g.e,g.d,g.m,fq _ _⟩;rw[m];refine⟨?_,?_,?_,?_⟩
  .exact(Ay (c:=c) h e).trans (eG _).symm
  .exact(Az (c:=c) h e).trans (eG _).symm
  .exact(AA (c:=c) h e).trans (eG _).symm
  .show(c.Q++[_]).map _=_
   rw[fV,AB h e,qU];show _++[(⟨9,[aU ((c.put 1 a).nl 1) (c.no 1 a)],0,[],false,(s:Int)⟩:aK)]=_;rw[iV (Gr.refl _)]
theorem jM.trans {c:Cont}{e d m q a b f i:J aK}(h:jM c y e d m q)(k:jM y z a b f i):jM c z (e++a) (d++b) (m++f) (q++i):=
 ⟨by rw[k.e,h.e,fP],by rw[k.d,h.d,fP],by rw[k.m,h.m,fP],by rw[k.q,h.q,fP]⟩
theorem jM.refl (c:Cont):jM c c [] [] [] []:=⟨by rw[eG],by rw[eG],by rw[eG],by rw[eG]⟩
theorem jM.all:∀(a:J aK){c:Cont},gX c->(∀l∈a,l.kind=0\/fo l)->aR (mJ c a)->jM c (mJ c a) (a.flatMap (pY 1 6)) (a.flatMap (pY 7 7)) (a.flatMap (pY 8 8)) (a.flatMap (pY 9 9))
 |[],c,_,_,_=>jM.refl c
 |l::a,c,h,f,b=>by
  have i:=λx j=>f x (iM l j)
  rw[og,og,og,og];rcases f l pU with d|d
  .have e:mJ c (l::a)=mJ c a:=by show mJ (aT c l) a=_;rw[FK d]
   rw[e] at b ⊢;rw[gM ah,gM ah,gM ah,gM ah];exact jM.all a h i b
  .have k:=h.add d ((Gr.all a _).fits b)
   exact(jM.add h d).trans (jM.all a k i b)
def Adds (f:Cont->Cont)(S:Nat->Bs->Prop):Prop:=∀c,(∀i x,x∈(f c).nl i↔x∈c.nl i\/S i x)/\((∀i,(c.nl i).Nodup)->∀i,((f c).nl i).Nodup)
theorem Adds.put (j:Nat)(s:Bs):Adds (λc=>c.put j s) (λi x=>i=j/\x=s):=λc=>by
 constructor
 .intro i x
  show x∈(if i=j then bV (c.nl j) s else c.nl i)↔_
  split
  .rename_i h
   subst h
   constructor
   .intro h
    unfold bV at h
    split at h
    .exact .inl h
    .rcases cu.1 h with h|h
     .exact .inl h
     .exact .inr ⟨rfl,dw.1 h⟩
   .rintro(h|⟨_,rfl⟩)
    .exact(Bp _ _).subset h
    .exact yE _ _
  .rename_i h
   simp[h]
 .intro a i
  show(if i=j then bV (c.nl j) s else c.nl i).Nodup
  split
  .exact yF (a j)
  .exact a i
theorem Adds.id:Adds (λc=>c) (λ_ _=>False):=λc=>⟨λi x=>by simp,λh=>h⟩
theorem Adds.comp {f g:Cont->Cont}{S T:Nat->Bs->Prop}(h:Adds f S)(k:Adds g T):Adds (λc=>g (f c)) (λi x=>S i x\/T i x):=λc=>
 ⟨λi x=>by rw[((k (f c)).1 i x),((h c).1 i x),or_assoc],λa=>(k (f c)).2 ((h c).2 a)⟩
theorem Adds.eq {f g:Cont->Cont}{S:Nat->Bs->Prop}(h:Adds f S)(e:∀c i,(g c).nl i=(f c).nl i):Adds g S:=λc=>
 ⟨λi x=>by rw[e];exact(h c).1 i x,λa i=>by rw[e];exact(h c).2 a i⟩
theorem Adds.bF (v:To):∃S,Adds (λc=>(c.bF v).1) S:=by
 by_cases a:v.k=0
 .exact⟨_,Adds.id.eq (λc i=>by unfold Cont.bF;rw[aA a])⟩
 .exact⟨_,(Adds.put 0 v.name).eq (λc i=>by unfold Cont.bF;rw[ay a])⟩
theorem Adds.ts:∀l:J Bs,∃S,Adds (λc=>(c.ts l).1) S
 |[]=>⟨_,Adds.id⟩
 |s::r=>by
  obtain⟨S,h⟩:=Adds.ts r;exact⟨_,(Adds.put 0 s).comp h⟩
theorem Adds.sc:∀l:J (Bs × To),∃S,Adds (λc=>(c.sc l).1) S
 |[]=>⟨_,Adds.id⟩
 |p::r=>by
  obtain⟨S,h⟩:=Adds.sc r;obtain⟨T,k⟩:=Adds.bF p.2;exact⟨_,((Adds.put 2 p.1).comp k).comp h⟩
theorem Adds.add (l:aK):∃S,Adds (λc=>aT c l) S:=by
 obtain⟨f,a⟩:=Adds.bF (l.aM.getD 0 ⟨[],0⟩);obtain⟨j,b⟩:=Adds.sc ((l.names.drop 2).zip l.aM);obtain⟨k,d⟩:=Adds.ts (l.names.drop 1);obtain⟨m,e⟩:=Adds.ts (l.names.drop 2);unfold aT;simp only[]
 split
 .exact⟨_,((Adds.put 0 _).comp (Adds.put 1 _)).eq (λc i=>rfl)⟩
 .split
  .exact⟨_,((Adds.put 0 _).comp (Adds.put 2 _)).eq (λc i=>rfl)⟩
  .split
   .exact⟨_,(((Adds.put 0 _).comp (Adds.put 2 _)).comp a).eq (λc i=>rfl)⟩
   .split
    .exact⟨_,(((Adds.put 0 _).comp (Adds.put 3 _)).comp b).eq (λc i=>rfl)⟩
    .split
     .exact⟨_,(Adds.put 0 _).eq (λc i=>rfl)⟩
     .split
      .exact⟨_,((Adds.put 2 _).comp d).eq (λc i=>rfl)⟩
      .split
       .exact⟨_,(((Adds.put 3 _).comp (Adds.put 2 _)).comp e).eq (λc i=>rfl)⟩
       .split
        .exact⟨_,(Adds.put 1 _).eq (λc i=>rfl)⟩
        grind [Adds.id]
def Says (l:aK)(i:Nat)(x:Bs):Prop:=x∈(aT iD l).nl i
theorem Says.zero (h:l.kind=0)(i:Nat)(x:Bs):¬Says l i x:=λk=>by
 unfold Says at k;rw[FK h] at k
 cases k
def zK (c:Cont):Prop:=∀e∈c.E,bf e.t (c.nl 0).length=V/\(e.kind=2->bf e.obj (c.nl 2).length=V)
def vQ (c:Cont)(e:EvC):Int × Bs × Bs:=(e.kind,aU (c.nl 0) e.t,if e.kind=2 then aU (c.nl 2) e.obj else [])
def Dr (l:aK):Int × Bs × Bs:=(l.kind,l.names.getD 0 [],if l.kind=2 then l.names.getD 1 [] else [])
def keys (c:Cont):J (Int × Bs × Bs):=c.E.map (vQ c)
theorem Q0 {c:Cont}(g:Gr c z){e:EvC}(h:bf e.t (c.nl 0).length=V/\(e.kind=2->bf e.obj (c.nl 2).length=V)):vQ z e=vQ c e:=by
 unfold vQ;rw[jd (g.n 0) h.1];by_cases a:e.kind=2
 .rw[aA a,aA a,jd (g.n 2) (h.2 a)]
 grind
theorem zK.grow {c:Cont}(h:zK c)(g:Gr c z)(n:z.E=c.E):zK z/\keys z=keys c:=by
 constructor
 .intro e a
  rw[n] at a;exact⟨dz (h e a).1 (g.len 0),λb=>dz ((h e a).2 b) (g.len 2)⟩
 .unfold keys
  rw[n];exact qR (λe a=>Q0 g (h e a))
theorem zK.fJ {c:Cont}(h:zK c)(g:Gr c y)(n:Nm c y)(e:EvC)(s:J Sn)(b:bf e.t (y.nl 0).length=V)(d:e.kind=2->bf e.obj (y.nl 2).length=V){k:Int × Bs × Bs}(f:vQ y e=k):
  zK (y.ev e s)/\keys (y.ev e s)=keys c++[k]:=by
 obtain⟨i,j⟩:=h.grow g n.e
 constructor
 .intro x a
  rcases cu.1 a with a|a
  .exact i x a
  .rw[dw.1 a];exact⟨b,d⟩
 .show(y.E++[e]).map (vQ y)=_
  rw[fV,qU,f];exact cZ (·++[k]) j
theorem zK.zero:zK iD:=λe a=>by cases a
theorem zK.add {c:Cont}(h:zK c)(l:aK):zK (aT c l)/\keys (aT c l)=keys c++(pY 1 6 l).map Dr:=by
 unfold aT;simp only[]
 split
 .rename_i a
  rw[mI ah,qU]
  apply h.fJ ((L c 0 _).trans (L _ 1 _)) ((Nm.put c 0 _).trans (Nm.put _ 1 _)) _ _ (dz (fQ c 0 _) ((L _ 1 _).len 0)) (λk=>by cases k)
  grind [vQ,Dr,iV,L]
 .split
  .rename_i a
   rw[mI ah,qU]
   apply h.fJ ((L c 0 _).trans (L _ 2 _)) ((Nm.put c 0 _).trans (Nm.put _ 2 _)) _ _ (dz (fQ c 0 _) ((L _ 2 _).len 0)) (λ_=>fQ _ 2 _)
   grind [vQ,Dr,iV,L,Gr.refl]
  .split
   .rename_i a
    rw[mI ah,qU];have g:=(L (c.put 0 (l.names.getD 0 [])) 2 (l.names.getD 1 [])).trans (Gr.bF _ (l.aM.getD 0 ⟨[],0⟩))
    apply h.fJ ((L c 0 _).trans g) (((Nm.put c 0 _).trans (Nm.put _ 2 _)).trans (Nm.bF _ _)) _ _ (dz (fQ c 0 _) (g.len 0)) (λk=>by cases k)
    grind [vQ,Dr,iV]
   .split
    .rename_i a
     rw[mI ah,qU];have g:=(L (c.put 0 (l.names.getD 0 [])) 3 (l.names.getD 1 [])).trans (Gr.sc ((l.names.drop 2).zip l.aM) _)
     apply h.fJ ((L c 0 _).trans g) (((Nm.put c 0 _).trans (Nm.put _ 3 _)).trans (Nm.sc _ _)) _ _ (dz (fQ c 0 _) (g.len 0)) (λk=>by cases k)
     grind [vQ,Dr,iV]
    .split
     .rename_i b _ _ a
      rw[mI ah,qU]
      apply h.fJ (L c 0 _) (Nm.put c 0 _) _ _ (fQ c 0 _) (λk=>absurd k b)
      grind [vQ,Dr,iV,Gr.refl]
     .split
      .rw[gM ah,lW,eG]
       have g:=(L c 2 (l.names.getD 0 [])).trans (Gr.ts (l.names.drop 1) _);exact h.grow ⟨g.n,g.e,fq _ _,g.m,g.q⟩ ((Nm.put c 2 _).trans (Nm.ts _ _)).e
      .split
       .rw[gM ah,lW,eG]
        have g:=((L c 3 (l.names.getD 0 [])).trans (L _ 2 (l.names.getD 1 []))).trans (Gr.ts (l.names.drop 2) _);exact h.grow ⟨g.n,g.e,g.d,fq _ _,g.q⟩ (((Nm.put c 3 _).trans (Nm.put _ 2 _)).trans (Nm.ts _ _)).e
       .split
        .rw[gM ah,lW,eG]
         have g:=L c 1 (l.names.getD 0 []);exact h.grow ⟨g.n,g.e,g.d,g.m,fq _ _⟩ rfl
        grind [gM]
theorem yS.symm {a b:Cont}(h:yS a b):yS b a:=⟨λi d=>(h.n i d).symm,h.E.symm,h.SE.symm,h.D.symm,h.SD.symm,h.M.symm,h.SM.symm,h.Q.symm⟩
theorem yS.trans {a b c:Cont}(h:yS a b)(k:yS b c):yS a c:=⟨λi d=>(h.n i d).trans (k.n i d),h.E.trans k.E,h.SE.trans k.SE,h.D.trans k.D,h.SD.trans k.SD,h.M.trans k.M,h.SM.trans k.SM,h.Q.trans k.Q⟩
def sI (c:Cont):Bool:=
 (List.range 4).all (λi=>decide ((c.nl i).length<=iF i)) && decide (c.E.length<=3000) && decide (c.D.length<=3000) && decide (c.M.length<=3000) && decide (c.Q.length<=3000) && c.E.all (λe=>decide (e.kind=2->e.v.k<=999))
theorem lG (c:Cont):sI c=V↔aR c:=by
 grind [sI,aR]
def qD (c:Cont):Nat->J aK->Except (Nat × Int) Cont
 |_,[]=> .ok c
 |i,l::a=>if lg l=V then(if sI (aT c l)=V then qD (aT c l) (i+1) a else .error (i,6)) else .error (i,220)
theorem Ii:∀(a:J aK)(c:Cont)(i:Nat)(z:Cont),qD c i a= .ok z->z=mJ c a/\(∀l∈a,lg l=V)/\(aR c->aR (mJ c a))
 |[],c,i,z,h=>by
  injection h with h;exact⟨h.symm,λl b=>(by cases b),λh=>h⟩
 |l::a,c,i,z,h=>by
  unfold qD at h
  split at h
  .rename_i b
   split at h
   .rename_i e
    obtain⟨f,j,k⟩:=Ii a (aT c l) (i+1) z h;refine⟨f,λx d=>?_,λ_=>k ((lG _).1 e)⟩;rcases dP.1 d with rfl|d
    .exact b
    .exact j x d
   .cases h
  .cases h
theorem zJ:aR iD:=⟨λ_ _=>aS _,aS _,aS _,aS _,aS _,λe a=>by cases a⟩
theorem Ij:∀(b:J aK)(c:Cont)(i j:Nat)(e:Int),qD c i b= .error (j,e)->∃k l,j=i+k/\b[k]?=O l/\(∀x∈b.take k,lg x=V)/\((e=220/\lg l=false)\/(e=6/\lg l=V/\¬aR (mJ c (b.take (k+1)))))
 |[],_,_,_,_,h=>by cases h
 |l::b,c,i,j,e,h=>by
  unfold qD at h
  split at h
  .rename_i f
   split at h
   .obtain⟨k,n,m,d,o,p⟩:=Ij b (aT c l) (i+1) j e h
    refine⟨k+1,n,by omega,by rw[List.getElem?_cons_succ];exact d,λx a=>?_,p⟩;rw[List.take_succ_cons] at a;rcases dP.1 a with rfl|a
    .exact f
    .exact o x a
   .rename_i r
    injection h with h;injection h with m d;exact⟨0,l,by omega,rfl,λx a=>(by cases a),.inr ⟨d.symm,f,λk=>r ((lG _).2 k)⟩⟩
  .rename_i f
   injection h with h;injection h with m d;exact⟨0,l,by omega,rfl,λx a=>(by cases a),.inl ⟨d.symm,Bool.eq_false_iff.2 f⟩⟩
theorem Lm {a:J aK}(h:∀l∈a,lg l=V):∀l∈a,l.kind=0\/fo l:=by grind [vJ]
theorem Lf {a:J aK}(h:qD iD 0 a= .ok z):gX z/\kg z/\ja z/\aR z/\z=mJ iD a:=by
 obtain⟨rfl,d,e⟩:=Ii a iD 0 z h;have b:=e zJ;exact⟨gX.zero.all a (Lm d) b,kg.zero.all a,ja.zero.all a,b,rfl⟩
theorem Od (a:World):(binOp .neq 20 (.iface 27 (G H 6)) (.iface 27 (G H 6))).run Tryz.prog a= .ok (R false) a:=au
theorem JE (b:Nat)(a:Value)(w:World)(j:Bx w b #[a]):
  CallsD Tryz.prog 65 #[.pointer (O ⟨b,0,N⟩)] (.panicking ({v:= .iface 27 (G H 6),recovered:=false}::[])) w λe d w'=>
   e= .returned (.tuple #[])/\d= .panicking ({v:= .iface 27 (G H 6),recovered:=true}::[])/\w'=w.setCell ⟨b,0,N⟩ (R false):=by
 refine callsD_of_wpS func65 rfl λf cs i=>?_
 apply wpS_seq
 apply wpS_region
 simp[wpOpsS,go_sem,recoverD,i,ntmps65,Exit.thenS]
 apply wpS_of_wp
 have k:=Od w;simp only[vF,vG,sD,sF,pO,jl,nY,ng,ni]
 go_wp2
 cases f
 simp_all[bodyPostS,results,results65]
theorem Lp (b:Nat)(w:World):
  CallsD Tryz.prog 65 #[.pointer (O ⟨b,0,N⟩)] .returning w λe a w'=>e= .returned (.tuple #[])/\a= .returning/\w'=w:=by
 refine callsD_of_wpS func65 rfl λd cs f=>?_
 apply wpS_seq
 apply wpS_region
 simp[wpOpsS,go_sem,recoverD,f,ntmps65,Exit.thenS]
 apply wpS_of_wp
 go_wp2
 cases d
 simp_all[bodyPostS,results,results65]
attribute [local go_sem] Oper.semAt_some
structure AJ (X:World)(h:HC)(c:Cont)(es:J EvC)(ds:J aO)(ms:J aP)(scan:EvC->J Sn)(dn:aO->J Int)(mn:aP->J Int):Prop where
 d:Deep X h es ds ms c.Q scan dn mn
 n:∀i,i<4->Row X 1 encStr (h.nm i).a (h.nm i).n (h.nm i).c (c.nl i)
 be:es.map EvC.base=c.E
 bd:ds.map aO.base=c.D
 bm:ms.map aP.base=c.M
 se:es.map scan=c.SE
 sd:ds.map dn=c.SD
 sm:ms.map mn=c.SM
theorem AJ.below {X Y:World}{h:HC}{c:Cont}{E:J EvC}{j:J aO}{k:J aP}{a:EvC->J Sn}{b:aO->J Int}{d:aP->J Int}(s:AJ X h c E j k a b d)(e:Below X.1.size X Y):AJ Y h c E j k a b d:=
 ⟨s.d.below e rfl,λi f=>(s.n i f).below e rfl,s.be,s.bd,s.bm,s.se,s.sd,s.sm⟩
theorem xP {α β:Type}{f g:α->β}{xs a:J α}{i:Nat}{x y:α}(h:xs.map f=a.map g)(b:xs[i]?=O x)(d:a[i]?=O y):f x=g y:=by
 have:=cZ (λl=>l[i]?) h;simp only[kY,b,d,Option.map_some] at this;injection this
theorem Dt {α β:Type}{f g:α->β}{xs a:J α}(h:xs.map f=a.map g):xs.length=a.length:=by
 have:=cZ List.length h
 simpa using this
theorem Q5 (h h2:HC)(c:Cont)(es:J EvC)(ds:J aO)(ms:J aP)(z8:EvC->J Sn)(dn:aO->J Int)(mn:aP->J Int)(v4:J EvC)(v5:J aO)(v6:J aP)(v7:EvC->J Sn)(v8:aO->J Int)(v9:aP->J Int)(w:World)
  (f:AJ w h c es ds ms z8 dn mn) (j:AJ w h2 c v4 v5 v6 v7 v8 v9):
  Calls Tryz.prog 13 #[fB h,fB h2] w (bT (R V) w):=by
 have HD:=P f.d;have q0:=P j.d;have HN:=P f.n;have j3:=P j.n;have z9:=P (f.be.trans j.be.symm);have v0:=P (f.bd.trans j.bd.symm);have v1:=P (f.bm.trans j.bm.symm);have k0:=P (f.se.trans j.se.symm);have k1:=P (f.sd.trans j.sd.symm);have j9:=P (f.sm.trans j.sm.symm);have k2:=f.d.1.le;have k3:=f.d.2.1.le;have k4:=f.d.2.2.1.le;have k5:=f.d.2.2.2.1.le;have qe:h.e.n=h2.e.n:=by rw[<-f.d.1.len,<-j.d.1.len];exact Dt z9.q
 have qd:h.d.n=h2.d.n:=by rw[<-f.d.2.1.len,<-j.d.2.1.len];exact Dt v0.q
 have qm:h.m.n=h2.m.n:=by rw[<-f.d.2.2.1.len,<-j.d.2.2.1.len];exact Dt v1.q
 have qw:h.w.n=h2.w.n:=by rw[<-f.d.2.2.2.1.len,<-j.d.2.2.2.1.len]
 have v2:=Bx.new w (aI h) 41;have j4:=P (aB (aB (Below.refl w.1.size w) (I (aI h) 41)) (I (aI h2) 41));have v3:Hid (Bx ((w.alloc (I (aI h) 41)).alloc (I (aI h2) 41)) w.1.size (aI h)/\Bx ((w.alloc (I (aI h) 41)).alloc (I (aI h2) 41)) (w.1.size+1) (aI h2)):=P ⟨v2.alloc _,Bx.new1 ak⟩;clear v2 f j;obtain⟨ht,f,ho,hp,⟨ea,l,ec⟩,⟨da,r,dc⟩,⟨ma,s,mc⟩,⟨wa,t,wc⟩⟩:=h;obtain⟨ε,j,ζ,η,⟨τ,y1,ο⟩,⟨φ,y2,π⟩,⟨χ,y3,ρ⟩,⟨υ,y4,σ⟩⟩:=h2;simp only at k2 k3 k4 k5 qe qd qm qw;subst qe qd qm qw;have q7:Hid (Bx ((w.alloc (I #[ht.v,f.v,ho.v,hp.v,C ea l ec,C da r dc,C ma s mc,C wa t wc] 41)).alloc (I #[ε.v,j.v,ζ.v,η.v,C τ l ο,C φ r π,C χ s ρ,C υ t σ] 41)) w.1.size #[ht.v,f.v,ho.v,hp.v,C ea l ec,C da r dc,C ma s mc,C wa t wc]/\Bx ((w.alloc (I #[ht.v,f.v,ho.v,hp.v,C ea l ec,C da r dc,C ma s mc,C wa t wc] 41)).alloc (I #[ε.v,j.v,ζ.v,η.v,C τ l ο,C φ r π,C χ s ρ,C υ t σ] 41)) (w.1.size+1) #[ε.v,j.v,ζ.v,η.v,C τ l ο,C φ r π,C χ s ρ,C υ t σ]):=P v3.q;clear v3;go_enter Tryz.func13,Tryz.ntmps13;have θ:=q7.q.1.1;have ι:=q7.q.1.2.2;have κ:=q7.q.2.1;have μ:=q7.q.2.2.2;go_wp2_with fail;refine(xI ht.a ε.a ht.n ht.c ε.n ε.c (c.nl 0) (c.nl 0) _ ((HN.q 0 aj).below j4.q rfl) ((j3.q 0 aj).below j4.q rfl)).mono ?_;rintro e w1 ⟨rfl,u⟩;rw[bG rfl];have q8:=P (tX q7.q u);have j5:=P (j4.q.bL u);clear u θ ι κ μ;have θ:=q8.q.1.1;have ι:=q8.q.1.2.2;have κ:=q8.q.2.1;have μ:=q8.q.2.2.2;go_wp2_with fail;refine(xI f.a j.a f.n f.c j.n j.c (c.nl 1) (c.nl 1) _ ((HN.q 1 aj).below j5.q rfl) ((j3.q 1 aj).below j5.q rfl)).mono ?_;rintro e w2 ⟨rfl,u⟩;rw[bG rfl];have q9:=P (tX q8.q u);have j6:=P (j5.q.bL u);clear u θ ι κ μ;have θ:=q9.q.1.1;have ι:=q9.q.1.2.2;have κ:=q9.q.2.1;have μ:=q9.q.2.2.2;go_wp2_with fail;refine(xI ho.a ζ.a ho.n ho.c ζ.n ζ.c (c.nl 2) (c.nl 2) _ ((HN.q 2 aj).below j6.q rfl) ((j3.q 2 aj).below j6.q rfl)).mono ?_;rintro e w3 ⟨rfl,u⟩;rw[bG rfl];have j0:=P (tX q9.q u);have j7:=P (j6.q.bL u);clear u θ ι κ μ;have θ:=j0.q.1.1;have ι:=j0.q.1.2.2;have κ:=j0.q.2.1;have μ:=j0.q.2.2.2;go_wp2_with fail;refine(xI hp.a η.a hp.n hp.c η.n η.c (c.nl 3) (c.nl 3) _ ((HN.q 3 aj).below j7.q rfl) ((j3.q 3 aj).below j7.q rfl)).mono ?_;rintro e w4 ⟨rfl,u⟩;rw[bG rfl];have q4:=P (tX j0.q u);have k6:=P (j7.q.bL u);clear u θ ι κ μ;have θ:=q4.q.1.1;have ι:=q4.q.1.2.2;have κ:=q4.q.2.1;have μ:=q4.q.2.2.2;go_wp2_with fail;clear θ ι κ μ
 go_loopw [82] (λi wr=>∃k:Nat,k<=l/\i= G H k/\Below w.1.size w wr/\Bx wr w.1.size #[ht.v,f.v,ho.v,hp.v,C ea l ec,C da r dc,C ma s mc,C wa t wc]/\Bx wr (w.1.size+1) #[ε.v,j.v,ζ.v,η.v,C τ l ο,C φ r π,C χ s ρ,C υ t σ]) (λi _=>l - (U i).toNat)
 case atStart=>exact⟨0,aS _,rfl,k6.q,q4.q.1,q4.q.2⟩
 case round=>
  obtain⟨k,hk,rfl,ψ,ω⟩:=hrel;have E:=P ψ;have d:=P ω;clear ψ ω;by_cases Γ:k<l
  .obtain⟨x,b,o,hx,rfl,A⟩:=(HD.q.1.below E.q rfl).at_ Γ
   obtain⟨y,S,T,Z,rfl,B⟩:=(q0.q.1.below E.q rfl).at_ Γ;have Ξ:=bS hx;have Φ:=bS Z;have e0:=A 0 _ rfl;have e1:=A 1 _ rfl;have e2:=A 2 _ rfl;have e3:=A 3 _ rfl;have e4:=A 4 _ rfl;have e5:=A 5 _ rfl;have e6:=A 6 _ rfl;have e7:=A 7 _ rfl;have e8:=A 8 _ rfl;have f0:=B 0 _ rfl;have f1:=B 1 _ rfl;have f2:=B 2 _ rfl;have f3:=B 3 _ rfl;have f4:=B 4 _ rfl;have f5:=B 5 _ rfl;have f6:=B 6 _ rfl;have f7:=B 7 _ rfl;have f8:=B 8 _ rfl;simp only[bK] at e0 f0;have Ψ:=xP z9.q hx Z;have Ω:=xP k0.q hx Z;have ν:=HD.q.2.2.2.2.1 x Ξ;have ξ:=q0.q.2.2.2.2.1 y Φ;obtain⟨sx,Δ⟩:∃sx,sx=z8 x:=⟨_,rfl⟩;rw[<-Ω,<-Δ] at ξ;rw[<-Δ] at ν;clear Δ Ω hx Z A B Ξ Φ;obtain⟨xk,xt,q5,xl,a,⟨vt,vk⟩,v,m,n,p⟩:=x;obtain⟨yk,yt,y5,yl,yo,⟨ut,uk⟩,yp,α,β,γ⟩:=y;simp only[EvC.base,EvC.wi,EvC.mk.injEq,je.mk.injEq,and_true] at Ψ;obtain⟨rfl,rfl,rfl,rfl,rfl,⟨rfl,rfl⟩,rfl⟩:=Ψ;simp only at e0 e1 e2 e3 e4 e5 e6 e7 e8 f0 f1 f2 f3 f4 f5 f6 f7 f8 ν ξ;have k7:=P ν;have k8:=P ξ;have j9:=P (λW (u:Below w.1.size w W)=>KI ⟨xk,xt,q5,xl,a,⟨vt,vk⟩,v,m,n,p⟩ ⟨xk,xt,q5,xl,a,⟨vt,vk⟩,v,α,β,γ⟩ sx sx W (k7.q.below u rfl) (k8.q.below u rfl));have k9:Hid ((dD ⟨xk,xt,q5,xl,a,⟨vt,vk⟩,v,m,n,p⟩ ⟨xk,xt,q5,xl,a,⟨vt,vk⟩,v,α,β,γ⟩ && decide (sx=sx))=V):=P (by simp[dD]);have Q:=P (⟨e0,e1,e2,e3,e4,e5,e6,e7,e8,f0,f1,f2,f3,f4,f5,f6,f7,f8⟩:_/\_/\_/\_/\_/\_/\_/\_/\_/\_/\_/\_/\_/\_/\_/\_/\_/\_);clear ν ξ;go_wp2_with fail;clear e0 f0 e1 f1 e2 f2 e3 f3 e4 f4 e5 f5 e6 f6 e7 f7 e8 f8;refine aD 12 [(0,0),(1,0),(2,0),(3,0),(4,0),(5,0),(6,0),(7,0),(8,0),(9,0),(10,2),(11,0)] (λ_=>True) (λW'=>(Bx W' w.1.size #[ht.v,f.v,ho.v,hp.v,C (O ⟨b,o,N⟩) l ec,C da r dc,C ma s mc,C wa t wc]/\Bx W' (w.1.size+1) #[ε.v,j.v,ζ.v,η.v,C (O ⟨S,T,N⟩) l ο,C φ r π,C χ s ρ,C υ t σ])/\W'.cell? ⟨b,o+k*9,N⟩=O (G H xk)/\W'.cell? ⟨b,o+k*9+1,N⟩=O (G H xt)/\W'.cell? ⟨b,o+k*9+2,N⟩=O (G H q5)/\W'.cell? ⟨b,o+k*9+3,N⟩=O (G H xl)/\W'.cell? ⟨b,o+k*9+4,N⟩=O (G H a)/\W'.cell? ⟨b,o+k*9+5,N⟩=O (G H vt)/\W'.cell? ⟨b,o+k*9+6,N⟩=O (G H vk)/\W'.cell? ⟨b,o+k*9+7,N⟩=O (G H v)/\W'.cell? ⟨b,o+k*9+8,N⟩=O (C m n p)/\W'.cell? ⟨S,T+k*9,N⟩=O (G H xk)/\W'.cell? ⟨S,T+k*9+1,N⟩=O (G H xt)/\W'.cell? ⟨S,T+k*9+2,N⟩=O (G H q5)/\W'.cell? ⟨S,T+k*9+3,N⟩=O (G H xl)/\W'.cell? ⟨S,T+k*9+4,N⟩=O (G H a)/\W'.cell? ⟨S,T+k*9+5,N⟩=O (G H vt)/\W'.cell? ⟨S,T+k*9+6,N⟩=O (G H vk)/\W'.cell? ⟨S,T+k*9+7,N⟩=O (G H v)/\W'.cell? ⟨S,T+k*9+8,N⟩=O (C α β γ)) au au (trivial) (⟨d.q,Q.q⟩) ?_;refine qC ?_;refine aG rfl rfl (λK hK=>?_);go_simp;refine(j9.q _ (E.q.trans ((Below.refl _ _).drew.mono E.q.size))).mono ?_;rintro l Y ⟨rfl,j8⟩;rw[k9.q];have j1:=P (E.q.trans ((show Below wr.1.size wr Y from(Below.refl _ _).drew.trans j8).mono E.q.size));have q6:=P (tX d.q (show Below wr.1.size wr Y from(Below.refl _ _).drew.trans j8));have δ:=P (show Below wr.1.size wr Y from(Below.refl _ _).drew.trans j8);refine hK _ _ ⟨trivial,q6.q,aZ δ.q rfl Q.q.1,aZ δ.q rfl Q.q.2.1,aZ δ.q rfl Q.q.2.2.1,aZ δ.q rfl Q.q.2.2.2.1,aZ δ.q rfl Q.q.2.2.2.2.1,aZ δ.q rfl Q.q.2.2.2.2.2.1,aZ δ.q rfl Q.q.2.2.2.2.2.2.1,aZ δ.q rfl Q.q.2.2.2.2.2.2.2.1,aZ δ.q rfl Q.q.2.2.2.2.2.2.2.2.1,aZ δ.q rfl Q.q.2.2.2.2.2.2.2.2.2.1,aZ δ.q rfl Q.q.2.2.2.2.2.2.2.2.2.2.1,aZ δ.q rfl Q.q.2.2.2.2.2.2.2.2.2.2.2.1,aZ δ.q rfl Q.q.2.2.2.2.2.2.2.2.2.2.2.2.1,aZ δ.q rfl Q.q.2.2.2.2.2.2.2.2.2.2.2.2.2.1,aZ δ.q rfl Q.q.2.2.2.2.2.2.2.2.2.2.2.2.2.2.1,aZ δ.q rfl Q.q.2.2.2.2.2.2.2.2.2.2.2.2.2.2.2.1,aZ δ.q rfl Q.q.2.2.2.2.2.2.2.2.2.2.2.2.2.2.2.2.1,aZ δ.q rfl Q.q.2.2.2.2.2.2.2.2.2.2.2.2.2.2.2.2.2⟩ ?_;clear hK K j8;refine qC ?_;refine aH ?_;go_wp2_with fail;go_roundw
   case rel=>exact⟨k+1,by omega,by go_num,j1.q,q6.q⟩
   case measure=>simp[U];omega
  .obtain rfl:l=k:=by omega
   have θ:=d.q.1.1;have ι:=d.q.1.2.2;have κ:=d.q.2.1;have μ:=d.q.2.2.2;go_wp2_with fail;clear θ ι κ μ
   go_loopw [101] (λi wr=>∃k:Nat,k<=r/\i= G H k/\Below w.1.size w wr/\Bx wr w.1.size #[ht.v,f.v,ho.v,hp.v,C ea l ec,C da r dc,C ma s mc,C wa t wc]/\Bx wr (w.1.size+1) #[ε.v,j.v,ζ.v,η.v,C τ l ο,C φ r π,C χ s ρ,C υ t σ]) (λi _=>r - (U i).toNat)
   case atStart=>exact⟨0,aS _,rfl,E.q,d.q.1,d.q.2⟩
   case round=>
    obtain⟨k,hk,rfl,ψ,ω⟩:=hrel;have E:=P ψ;have d:=P ω;clear ψ ω;by_cases Γ:k<r
    .obtain⟨x,b,o,hx,rfl,A⟩:=(HD.q.2.1.below E.q rfl).at_ Γ
     obtain⟨y,S,T,Z,rfl,B⟩:=(q0.q.2.1.below E.q rfl).at_ Γ;have Ξ:=bS hx;have Φ:=bS Z;have e0:=A 0 _ rfl;have f0:=B 0 _ rfl;have e1:=A 1 _ rfl;have f1:=B 1 _ rfl;simp only[bK] at e0 f0;have Ψ:=xP v0.q hx Z;have Ω:=xP k1.q hx Z;have ν:=HD.q.2.2.2.2.2.1 x Ξ;have ξ:=q0.q.2.2.2.2.2.1 y Φ;obtain⟨sx,Δ⟩:∃sx,sx=dn x:=⟨_,rfl⟩;rw[<-Ω,<-Δ] at ξ;rw[<-Δ] at ν;clear Δ Ω hx Z A B Ξ Φ;obtain⟨a,m,n,p⟩:=x;obtain⟨yo,α,β,γ⟩:=y;simp only[aO.base,aO.wi,aO.mk.injEq,and_true] at Ψ;obtain rfl:=Ψ;simp only at e0 f0 e1 f1 ν ξ;have Θ:=aB (aB E.q (I #[G H a,C m n p] 65)) (I #[G H a,C α β γ] 65);have q1:=Ho m α n p β γ sx sx _ (ν.below Θ rfl) (ξ.below Θ rfl);rw[bG rfl] at q1;have z0:=P q1;clear q1;have z1:Hid ((Bx ((wr.alloc (I #[G H a,C m n p] 65)).alloc (I #[G H a,C α β γ] 65)) w.1.size #[ht.v,f.v,ho.v,hp.v,C ea l ec,C (O ⟨b,o,N⟩) r dc,C ma s mc,C wa t wc]/\Bx ((wr.alloc (I #[G H a,C m n p] 65)).alloc (I #[G H a,C α β γ] 65)) (w.1.size+1) #[ε.v,j.v,ζ.v,η.v,C τ l ο,C (O ⟨S,T,N⟩) r π,C χ s ρ,C υ t σ])):=P ⟨(d.q.1.alloc _).alloc _,(d.q.2.alloc _).alloc _⟩;have j2:=P Θ;have q2:Bx ((wr.alloc (I #[G H a,C m n p] 65)).alloc (I #[G H a,C α β γ] 65)) wr.1.size #[G H a,C m n p]:=(Bx.new wr #[G H a,C m n p] 65).alloc _;have q3:Bx ((wr.alloc (I #[G H a,C m n p] 65)).alloc (I #[G H a,C α β γ] 65)) (wr.1.size+1) #[G H a,C α β γ]:=Bx.new1 ak;have hq:Bx (wr.alloc (I #[G H a,C m n p] 65)) (w.1.size+1) #[ε.v,j.v,ζ.v,η.v,C τ l ο,C (O ⟨S,T,N⟩) r π,C χ s ρ,C υ t σ]:=d.q.2.alloc _;have g0:=qp (I #[G H a,C m n p] 65) f0;have g1:=qp (I #[G H a,C m n p] 65) f1;have z2:=q2.1;have z3:=q2.2.2;have z4:=q3.1;have z5:=q3.2.2;have z6:=hq.1;have z7:=hq.2.2;clear ν ξ Θ q2 q3 hq f0 f1;go_wp2_with fail;refine z0.q.mono ?_;rintro e w5 ⟨rfl,u⟩;have q6:=P (tX z1.q u);have j1:=P (j2.q.bL u);clear u z2 z3 z4 z5 z6 z7 e0 g0 e1 g1;go_wp2_with fail;go_roundw
     case rel=>exact⟨k+1,by omega,by go_num,j1.q,q6.q⟩
     case measure=>simp[U];omega
    .obtain rfl:r=k:=by omega
     have θ:=d.q.1.1;have ι:=d.q.1.2.2;have κ:=d.q.2.1;have μ:=d.q.2.2.2;go_wp2_with fail;clear θ ι κ μ
     go_loopw [128] (λi wr=>∃k:Nat,k<=s/\i= G H k/\Below w.1.size w wr/\Bx wr w.1.size #[ht.v,f.v,ho.v,hp.v,C ea l ec,C da r dc,C ma s mc,C wa t wc]/\Bx wr (w.1.size+1) #[ε.v,j.v,ζ.v,η.v,C τ l ο,C φ r π,C χ s ρ,C υ t σ]) (λi _=>s - (U i).toNat)
     case atStart=>exact⟨0,aS _,rfl,E.q,d.q.1,d.q.2⟩
     case round=>
      obtain⟨k,hk,rfl,ψ,ω⟩:=hrel;have E:=P ψ;have d:=P ω;clear ψ ω;by_cases Γ:k<s
      .obtain⟨x,b,o,hx,rfl,A⟩:=(HD.q.2.2.1.below E.q rfl).at_ Γ
       obtain⟨y,S,T,Z,rfl,B⟩:=(q0.q.2.2.1.below E.q rfl).at_ Γ;have Ξ:=bS hx;have Φ:=bS Z;have e0:=A 0 _ rfl;have f0:=B 0 _ rfl;have e1:=A 1 _ rfl;have f1:=B 1 _ rfl;have e2:=A 2 _ rfl;have f2:=B 2 _ rfl;have e3:=A 3 _ rfl;have f3:=B 3 _ rfl;simp only[bK] at e0 f0;have Ψ:=xP v1.q hx Z;have Ω:=xP j9.q hx Z;have ν:=HD.q.2.2.2.2.2.2 x Ξ;have ξ:=q0.q.2.2.2.2.2.2 y Φ;obtain⟨sx,Δ⟩:∃sx,sx=mn x:=⟨_,rfl⟩;rw[<-Ω,<-Δ] at ξ;rw[<-Δ] at ν;clear Δ Ω hx Z A B Ξ Φ;obtain⟨v,a,xf,m,n,p⟩:=x;obtain⟨yp,yo,yf,α,β,γ⟩:=y;simp only[aP.base,aP.wi,aP.mk.injEq,and_true] at Ψ;obtain⟨rfl,rfl,rfl⟩:=Ψ;simp only at e0 f0 e1 f1 e2 f2 e3 f3 ν ξ;have Θ:=aB (aB E.q (I #[G H v,G H a,R xf,C m n p] 67)) (I #[G H v,G H a,R xf,C α β γ] 67);have q1:=Ho m α n p β γ sx sx _ (ν.below Θ rfl) (ξ.below Θ rfl);rw[bG rfl] at q1;have z0:=P q1;clear q1;have z1:Hid ((Bx ((wr.alloc (I #[G H v,G H a,R xf,C m n p] 67)).alloc (I #[G H v,G H a,R xf,C α β γ] 67)) w.1.size #[ht.v,f.v,ho.v,hp.v,C ea l ec,C da r dc,C (O ⟨b,o,N⟩) s mc,C wa t wc]/\Bx ((wr.alloc (I #[G H v,G H a,R xf,C m n p] 67)).alloc (I #[G H v,G H a,R xf,C α β γ] 67)) (w.1.size+1) #[ε.v,j.v,ζ.v,η.v,C τ l ο,C φ r π,C (O ⟨S,T,N⟩) s ρ,C υ t σ])):=P ⟨(d.q.1.alloc _).alloc _,(d.q.2.alloc _).alloc _⟩;have j2:=P Θ;have q2:Bx ((wr.alloc (I #[G H v,G H a,R xf,C m n p] 67)).alloc (I #[G H v,G H a,R xf,C α β γ] 67)) wr.1.size #[G H v,G H a,R xf,C m n p]:=(Bx.new wr #[G H v,G H a,R xf,C m n p] 67).alloc _;have q3:Bx ((wr.alloc (I #[G H v,G H a,R xf,C m n p] 67)).alloc (I #[G H v,G H a,R xf,C α β γ] 67)) (wr.1.size+1) #[G H v,G H a,R xf,C α β γ]:=Bx.new1 ak;have hq:Bx (wr.alloc (I #[G H v,G H a,R xf,C m n p] 67)) (w.1.size+1) #[ε.v,j.v,ζ.v,η.v,C τ l ο,C φ r π,C (O ⟨S,T,N⟩) s ρ,C υ t σ]:=d.q.2.alloc _;have g0:=qp (I #[G H v,G H a,R xf,C m n p] 67) f0;have g1:=qp (I #[G H v,G H a,R xf,C m n p] 67) f1;have g2:=qp (I #[G H v,G H a,R xf,C m n p] 67) f2;have g3:=qp (I #[G H v,G H a,R xf,C m n p] 67) f3;have z2:=q2.1;have z3:=q2.2.2;have z4:=q3.1;have z5:=q3.2.2;have z6:=hq.1;have z7:=hq.2.2;clear ν ξ Θ q2 q3 hq f0 f1 f2 f3;go_wp2_with fail;refine z0.q.mono ?_;rintro e w5 ⟨rfl,u⟩;have q6:=P (tX z1.q u);have j1:=P (j2.q.bL u);clear u z2 z3 z4 z5 z6 z7 e0 g0 e1 g1 e2 g2 e3 g3;go_wp2_with fail;go_roundw
       case rel=>exact⟨k+1,by omega,by go_num,j1.q,q6.q⟩
       case measure=>simp[U];omega
      .obtain rfl:s=k:=by omega
       have θ:=d.q.1.1;have ι:=d.q.1.2.2;have κ:=d.q.2.1;have μ:=d.q.2.2.2;go_wp2_with fail;clear θ ι κ μ
       go_loopw [169] (λi wr=>∃k:Nat,k<=t/\i= G H k/\Below w.1.size w wr/\Bx wr w.1.size #[ht.v,f.v,ho.v,hp.v,C ea l ec,C da r dc,C ma s mc,C wa t wc]/\Bx wr (w.1.size+1) #[ε.v,j.v,ζ.v,η.v,C τ l ο,C φ r π,C χ s ρ,C υ t σ]) (λi _=>t - (U i).toNat)
       case atStart=>exact⟨0,aS _,rfl,E.q,d.q.1,d.q.2⟩
       case round=>
        obtain⟨k,hk,rfl,ψ,ω⟩:=hrel;have E:=P ψ;have d:=P ω;clear ψ ω;by_cases Γ:k<t
        .obtain⟨x,b,o,hx,rfl,A⟩:=(HD.q.2.2.2.1.below E.q rfl).at_ Γ
         obtain⟨y,S,T,Z,rfl,B⟩:=(q0.q.2.2.2.1.below E.q rfl).at_ Γ;rw[hx] at Z;injection Z with Z;subst Z;have e0:=A 0 _ rfl;have f0:=B 0 _ rfl;have e1:=A 1 _ rfl;have f1:=B 1 _ rfl;simp only[bK] at e0 f0;have y0:=λW=>S9 x x W
         simp only[bG] at y0;have Q:=P (⟨e0,e1,f0,f1⟩:_/\_/\_/\_);clear hx A B;obtain⟨xs,xb⟩:=x;go_wp2_with fail;clear e0 e1 f0 f1;refine aD 99 [(0,0),(1,0),(2,0),(3,0),(4,0),(5,0),(6,0),(7,0),(8,0),(9,0),(10,0)] (λ_=>True) (λW'=>(Bx W' w.1.size #[ht.v,f.v,ho.v,hp.v,C ea l ec,C da r dc,C ma s mc,C (O ⟨b,o,N⟩) t wc]/\Bx W' (w.1.size+1) #[ε.v,j.v,ζ.v,η.v,C τ l ο,C φ r π,C χ s ρ,C (O ⟨S,T,N⟩) t σ])/\W'.cell? ⟨b,o+k*2,N⟩=O (G H xs)/\W'.cell? ⟨b,o+k*2+1,N⟩=O (G H xb)/\W'.cell? ⟨S,T+k*2,N⟩=O (G H xs)/\W'.cell? ⟨S,T+k*2+1,N⟩=O (G H xb)) au au (trivial) (⟨d.q,Q.q⟩) ?_;refine qC ?_;refine aH ?_;go_wp2_with fail;go_roundw
         case rel=>exact⟨k+1,by omega,by go_num,E.q.trans ((Below.refl _ _).drew.mono E.q.size),d.q.1.drew,d.q.2.drew⟩
         case measure=>simp[U];omega
        .obtain rfl:t=k:=by omega
         have θ:=d.q.1.1;have ι:=d.q.1.2.2;have κ:=d.q.2.1;have μ:=d.q.2.2.2;go_wp2_with fail;go_ret;exact⟨rfl,E.q⟩
end Yd
namespace Yd
open Go Go.RowKit Go.Proofs
attribute [local go_sem] Oper.semAt_some
theorem Oe {c d:Cont}(f:aR c)(h:Nm c d)(e:EvC)(j:List Sn):sI (d.ev e j)=((decide (e.kind=2->e.v.k<=999) && decide (c.E.length<3000)) && nH d.nl):=by
 rw[Bool.eq_iff_iff,lG,bD,bD,bO,bO,sZ];have i:(d.ev e j).E=c.E++[e]:=by show d.E++[e]=_;rw[h.e]
 constructor
 .rintro⟨k,a,_,_,_,l⟩
  rw[i] at a l;rw[eX,pJ] at a;exact⟨⟨l e ak,a⟩,k⟩
 .rintro⟨⟨k,a⟩,m⟩
  refine⟨m,by rw[i,eX,pJ];exact a,by show d.D.length<=_;rw[h.d];exact f.2.2.1,by show d.M.length<=_;rw[h.m];exact f.2.2.2.1,by show d.Q.length<=_;rw[h.q];exact f.2.2.2.2.1,λx b=>?_⟩;rw[i] at b;rcases cu.1 b with b|b
  .exact f.2.2.2.2.2 x b
  grind
section
variable {R:Nat}{cs:Array Value}{c:Cont}{es:List EvC}{ds:List aO}{ms:List aP}{g:Bool}{X Y:World}
theorem jo.flag (h:jo X R cs c es ds ms g){b g':Bool}(l:b=(g' && nH c.nl)):jo (X.setCell ⟨R,8,none⟩ (.bool b)) R (cs.setIfInBounds 8 (.bool b)) c es ds ms g':=by
 have a:Same (λi=>i≠R) X (X.setCell ⟨R,8,none⟩ (.bool b)):=(Same.refl' X).setTail (λh=>h rfl);have d:∀j,8≠j->(cs.setIfInBounds 8 (.bool b))[j]?=cs[j]?:=λj e=>iQ e
 have f:8<cs.size:=by rw[h.z];decide
 refine⟨h.s.nV (nl:=c.nl) a ⟨h.s.t.b.aX 8 f _,λk m=>?_,trivial⟩ (λj _ e=>d j ah),by rw[Array.size_setIfInBounds];exact h.z,by rw[ru f,l]⟩;obtain⟨v,n,o⟩:=h.s.t.t k m;exact⟨v,(d _ ah).trans n,o.pK a⟩
theorem jo.NY {b:Nat}(h:jo X R cs c es ds ms g)(a:∃cs l,X.1[b]?=some (.cells cs 50 l))(m:R≠b)(n:∀v,cs[4]?=some v->v.ownBlock≠some b)(d:Same (λi=>i≠b) X Y):jo Y R cs c es ds ms g:=
 ⟨⟨⟨d.bx h.s.t.b m,λk o=>(let⟨v,p,r⟩:=h.s.t.t k o;⟨v,p,r.aJ a aj d⟩),trivial⟩,(let⟨v,f,j⟩:=h.s.e;⟨v,f,j.same d (λg a e=>n v f (by rw[a,e]))⟩),(let⟨v,f,j⟩:=h.s.d;⟨v,f,j.aJ a aj d⟩),(let⟨v,f,j⟩:=h.s.m;⟨v,f,j.aJ a aj d⟩),(let⟨v,f,j⟩:=h.s.q;⟨v,f,j.aJ a aj d⟩),
  h.s.be,h.s.bd,h.s.bm,h.s.se.imp (λ_ _ q=>q.aJ a aj d),h.s.sd.imp (λ_ _ q=>q.aJ a aj d),h.s.sm.imp (λ_ _ q=>q.aJ a aj d)⟩,h.z,h.k⟩
theorem jo.seen {v:Value}{y:List Sn}{B:Nat}(h:jo X R cs c es ds ms g)(s:Own X B 148 3 bI v y)(T:R<B)(t:∀x∈es,∀q,v.ownBlock=some q->x.val.ownBlock≠some q)(b:X.grownBy Y v.ownBlock):jo Y R cs c es ds ms g:=by
 cases l:v.ownBlock with
 |none=>
  rw[l] at b;have a:Same (λ_=>True) X Y:=⟨b.os,b.tape,b.output,b.size,λi _ n=>b.block i n (λe=>by cases e)⟩;exact⟨h.s.nV (a.mono λ_ _ _=>trivial) ⟨a.bx h.s.t.b trivial,λk p=>(let⟨v,u,A⟩:=h.s.t.t k p;⟨v,u,A.same a (λ_ _=>trivial)⟩),trivial⟩ (λ_ _ _=>rfl),h.z,h.k⟩
 |some q=>
  rw[l] at b;have a:Same (λi=>i≠q) X Y:=⟨b.os,b.tape,b.output,b.size,λi E n=>b.block i n (λe=>E (by injection e))⟩;have d:=s.tag l;have K:R≠q:=λe=>by have:=(s.lt q l).1;omega
  exact⟨⟨⟨a.bx h.s.t.b K,λk p=>(let⟨v,m,r⟩:=h.s.t.t k p;⟨v,m,r.aJ d aj a⟩),trivial⟩,(let⟨v,f,j⟩:=h.s.e;⟨v,f,j.aJ d aj a⟩),(let⟨v,f,j⟩:=h.s.d;⟨v,f,j.aJ d aj a⟩),(let⟨v,f,j⟩:=h.s.m;⟨v,f,j.aJ d aj a⟩),(let⟨v,f,j⟩:=h.s.q;⟨v,f,j.aJ d aj a⟩),
   h.s.be,h.s.bd,h.s.bm,⟨h.s.se.1,λi x Q m r=>(h.s.se.2 i x Q m r).same a (λg' S e=>t x (bS m) q l (by rw[S,e]))⟩,h.s.sd.imp (λ_ _ o=>o.aJ d aj a),h.s.sm.imp (λ_ _ o=>o.aJ d aj a)⟩,h.z,h.k⟩
end
structure EvS (w W:World)(R kb bl:Nat)(LC:Array Value)(cs:Array Value)(c:Cont)(es:List EvC)(ds:List aO)(ms:List aP)(g:Bool)(ev:EvC):Prop where
 r:jo W R cs c es ds ms g
 l:Bx W bl LC
 e:Bx W kb (aY ev)
 t:∃q fz,W.1[kb]?=some (.cells q 50 fz)
 s:Same (λi=>i<R) w W
 n:R<bl/\bl<kb
 v:∀v,cs[4]?=some v->v.ownBlock≠some kb
 o:∀x∈es,∀q,x.val.ownBlock=some q->q<kb
section
variable {w W W':World}{R kb bl:Nat}{LC cs cs':Array Value}{c c':Cont}{es:List EvC}{ds:List aO}{ms:List aP}{g g':Bool}{ev:EvC}
theorem EvS.call (h:EvS w W R kb bl LC cs c es ds ms g ev)(a:Same (λi=>i≠R) W W')(b:jo W' R cs' c' es ds ms g)(d:∀j,4<=j->j<8->cs'[j]?=cs[j]?):EvS w W' R kb bl LC cs' c' es ds ms g ev:=
 ⟨b,a.bx h.l (by have:=h.n;omega),a.bx h.e (by have:=h.n;omega),(let⟨q,f,e⟩:=h.t;⟨q,f,(a.block kb (by have:=h.n;omega) h.e.2.2).trans e⟩),h.s.tr (a.mono λi l _=>by omega),h.n,λv k=>h.v v (by rw[<-d 4 ah ah];exact k),h.o⟩
theorem EvS.below (h:EvS w W R kb bl LC cs c es ds ms g ev)(a:Below W.1.size W W'):EvS w W' R kb bl LC cs c es ds ms g ev:=
 h.call (Same.of_below a (λ_ _ h=>h)) (h.r.below a) (λ_ _ _=>rfl)
theorem EvS.box (h:EvS w W R kb bl LC cs c es ds ms g ev)(a:Same (λi=>i≠kb) W W'){b:EvC}(d:Bx W' kb (aY b))(e:∃q f,W'.1[kb]?=some (.cells q 50 f)):EvS w W' R kb bl LC cs c es ds ms g b:=
 ⟨h.r.NY h.t (by have:=h.n;omega) h.v a,a.bx h.l (by have:=h.n;omega),d,e,h.s.tr (a.mono λi j _=>by have:=h.n;omega),h.n,h.v,h.o⟩
theorem nJ {X:World}{b i:Nat}{T:TypeId}{v:Value}(h:∃q a,X.1[b]?=some (.cells q T a)):∃q a,(X.setCell ⟨b,i,none⟩ v).1[b]?=some (.cells q T a):=by
 obtain⟨q,a,e⟩:=h;exact⟨_,_,fZ (i:=i) e v⟩
theorem EvS.set (h:EvS w W R kb bl LC cs c es ds ms g ev)(a:EvC){j:Nat}{x:Value}(b:j<9)(d:aY a=(aY ev).setIfInBounds j x):EvS w (W.setCell ⟨kb,j,none⟩ x) R kb bl LC cs c es ds ms g a:=
 h.box ((Same.refl' W).setTail (λh=>h rfl)) (by rw[d];exact h.e.aX j b x) (nJ h.t)
theorem EvS.flag (h:EvS w W R kb bl LC cs c es ds ms g ev){b:Bool}(d:b=(g' && nH c.nl)):EvS w (W.setCell ⟨R,8,none⟩ (.bool b)) R kb bl LC (cs.setIfInBounds 8 (.bool b)) c es ds ms g' ev:=
 have a:Same (λi=>i≠R) W (W.setCell ⟨R,8,none⟩ (.bool b)):=(Same.refl' W).setTail (λh=>h rfl)
 ⟨h.r.flag d,a.bx h.l (by have:=h.n;omega),a.bx h.e (by have:=h.n;omega),(let⟨q,f,e⟩:=h.t;⟨q,f,(a.block kb (by have:=h.n;omega) h.e.2.2).trans e⟩),h.s.tr (a.mono λi k _=>by omega),h.n,λv j=>h.v v (by rw[<-j];exact(iQ ah).symm),h.o⟩
theorem EvS.grown (h:EvS w W R kb bl LC cs c es ds ms g ev){v:Value}{y:List Sn}(b:Own W kb 148 3 bI v y)(a:W.grownBy W' v.ownBlock):EvS w W' R kb bl LC cs c es ds ms g ev:=by
 have d:v.ownBlock≠some kb:=λe=>by
  obtain⟨_,_,f⟩:=b.tag e;obtain⟨_,_,k⟩:=h.t;rw[k] at f;cases f
 have j:∀i,i<kb->v.ownBlock≠some i:=λi l e=>by have:=(b.lt i e).1;omega
 exact⟨h.r.seen b (by have:=h.n;omega) (λx m q n e=>by have:=h.o x m q e;have:=(b.lt q n).1;omega) a,h.l.grown a (j bl (by have:=h.n;omega)),h.e.grown a d,(let⟨q,o,e⟩:=h.t;⟨q,o,(a.block kb h.e.2.2 (λe=>d e.symm)).trans e⟩),h.s.tr ⟨a.os,a.tape,a.output,a.size,λi l p=>a.block i p (λe=>j i (by have:=h.n;omega) e.symm)⟩,h.n,h.v,h.o⟩
theorem EvS.all (h:EvS w W R kb bl LC cs c es ds ms g ev)(k t s l o i m p:Int)(a:Option Addr)(n q:Nat):
  EvS w (((((((((W.setCell ⟨kb,0,none⟩ (.int .i64 k)).setCell ⟨kb,1,none⟩ (.int .i64 t)).setCell ⟨kb,2,none⟩ (.int .i64 s)).setCell ⟨kb,3,none⟩ (.int .i64 l)).setCell ⟨kb,4,none⟩ (.int .i64 o)).setCell ⟨kb,5,none⟩ (.int .i64 i)).setCell ⟨kb,6,none⟩ (.int .i64 m)).setCell ⟨kb,7,none⟩ (.int .i64 p)).setCell ⟨kb,8,none⟩ (.slice a n q)) R kb bl LC cs c es ds ms g ⟨k,t,s,l,o,⟨i,m⟩,p,a,n,q⟩:=by
 obtain⟨A,y,x,v,u,⟨r,j⟩,f,b,d,e⟩:=ev;exact((((((((h.set ⟨k,y,x,v,u,⟨r,j⟩,f,b,d,e⟩ aj rfl).set ⟨k,t,x,v,u,⟨r,j⟩,f,b,d,e⟩ aj rfl).set ⟨k,t,s,v,u,⟨r,j⟩,f,b,d,e⟩ aj rfl).set ⟨k,t,s,l,u,⟨r,j⟩,f,b,d,e⟩ aj rfl).set ⟨k,t,s,l,o,⟨r,j⟩,f,b,d,e⟩ aj rfl).set ⟨k,t,s,l,o,⟨i,j⟩,f,b,d,e⟩ aj rfl).set ⟨k,t,s,l,o,⟨i,m⟩,f,b,d,e⟩ aj rfl).set ⟨k,t,s,l,o,⟨i,m⟩,p,b,d,e⟩ aj rfl).set ⟨k,t,s,l,o,⟨i,m⟩,p,a,n,q⟩ aj rfl
end
end Yd
namespace Yd
open Option renaming none->C,some->U
open Go Go.RowKit Go.Proofs Tryz
open Go renaming Value->N,World->R
open Go.IntKind renaming i64->G
open Go.Obj renaming cells->O
open Go.Value renaming slice->z,int->F
open RowKit renaming intOf->I
open Yd renaming hid->D
open _root_ renaming Nat->J,List->L,Int->M
attribute [local go_sem] Oper.semAt_some
theorem Og {e:EvC}{y:L Sn}{s:Sn}{p:M × M}(a:s∈y)(b:p∈(2,s.obj)::ig s.v):p∈fT e y:=by
 unfold fT;exact nu _ (kU.2 ⟨s,a,b⟩)
variable{k:J}
theorem uo {α β:Type}{xs:L α}{x:α}(f:α->L β)(a:xs[k]?=U x):(xs.take (k+1)).flatMap f=(xs.take k).flatMap f++f x:=by
 rw[eD,a];simp
theorem FL {α β:Type}{xs:L α}{x:α}(f:α->β)(a:xs[k]?=U x):(xs.take (k+1)).map f=(xs.take k).map f++[f x]:=by
 rw[eD,a];simp
theorem rz {α:Type}{xs:L α}{n:J}(h:xs.length=n):xs.take n=xs:=eF ah
theorem V4.bx {w X:R}{q:J}{c:J->N}{K:L (M × M)}{a:L (J × Array N)}(h:V4 w q c K a X)(b:J)(cs:Array N)(d:(b,cs)∈a):Bx X b cs:=(h.E (b,cs) d).1
theorem Own.Lr {α:Type}{w:R}{B:J}{T:TypeId}{enc:α->L N}{v:N}{xs:L α}(h:Own w B T k enc v xs):∃a n c,v= z a n c:=by
 obtain⟨a,c,e,_,_⟩:=h.shape;exact⟨a,_,c,e⟩
def Oh (w:R)(q:J)(i:J)(c:J->N)(b:L (M × M))(d:L (J × Array N))(e:Ending)(Y:R):Prop:=
 ∃a l k c',e= .returned (z a l k)/\Bx Y q #[c 0,c 1,c 2,c 3]/\V4 w q c' b d (Y.setCell ⟨q,i,C⟩ (z a l k))
section
variable {w X:R}{q:J}{c:J->N}{P H ns:L (M × M)}{bs:L (J × Array N)}
theorem V4.ret (h:V4 w q c (P++H) bs X){i:J}(b:i<4){p:L M}(m:∀x∈ns,0<=x.2/\x.2<300)(n:p=bZ ((P++H)++ns) i)(o:∀j:J,j<4->j≠i->bZ ((P++H)++ns) j=bZ (P++H) j)
  {e:Ending} {Y:R} (r:Oi (q+1) (c i) p X e Y):Oh w q i c (P++(H++ns)) bs e Y:=by
 obtain⟨v,rfl,d,f,s⟩:=r;obtain⟨a,l,k,rfl⟩:=d.Lr;obtain⟨c',t⟩:=h.step b ns d f s m n o;exact⟨a,l,k,c',rfl,h.called b f,by rw[<-fP];exact t⟩
theorem V4.fst (h:V4 w q c (P++H) bs X){i:J}(a:i<4)(n:M)(b:0<=n/\n<300):Calls Tryz.prog 149 #[c i,F G n] X (Oh w q i c (P++(H++[((i:M),n)])) bs):=
 (Ik (q+1) (c i) _ n X (h.o i a) h.base (h.len _)).mono λ_ _=>h.ret a (λx d=>by rw[dw.1 d];exact b) (Ud _ i n) (Oj _ i n)
theorem V4.Xi (h:V4 w q c (P++H) bs X)(v:je)(a:0<=v.k)(b:∀x∈ig v,0<=x.2/\x.2<300):Calls Tryz.prog 150 #[c 0,.agg #[F G v.t,F G v.k]] X (Oh w q 0 c (P++(H++ig v)) bs):=
 (Ue (q+1) (c 0) _ v X (h.o 0 aj) h.base (h.len _)).mono λ_ _=>h.ret aj b (Uf _ a) (Ol _)
theorem V4.nil (h:V4 w q c P bs X):V4 w q c (P++[]) bs X:=by rw[eG];exact h
end
def Om (xs:L (M × M))(w:R)(e:Ending)(w':R):Prop:=
 ∃c:J->N,e= .returned (.agg #[c 0,c 1,c 2,c 3])/\(∀i:J,i<4->∃a n b,c i= z a n b/\Row w' 1 aQ a n b (bZ xs i))/\Below w.1.size w w'
theorem Oo (h:HC)(nl:J->L Bs)(es:L EvC)(ds:L aO)(ms:L aP)(qs:L Wa)(α:EvC->L Sn)(dn:aO->L M)(mn:aP->L M)(w:R)
  (hn:∀i,i<4->Row w 1 encStr (h.nm i).a (h.nm i).n (h.nm i).c (nl i)) (hd:Deep w h es ds ms qs α dn mn) (l:nK h nl es ds ms qs α dn mn=true):
  Calls Tryz.prog 88 #[fB h] w (Om (lJ es ds ms qs α dn mn) w):=by
 have Γ:=Lu l (λi hi=>(hn i hi).len);have j4:Hid (∀x∈es,∀p∈fT x (α x),0<=p.2/\p.2<300):=D (λx hx p n=>(Γ p (by simp only[lJ,cu,kU];exact .inl (.inl (.inl ⟨x,hx,n⟩)))).2);have j5:Hid (∀x∈ds,∀p∈jI x (dn x),0<=p.2/\p.2<300):=D (λx hx p n=>(Γ p (by simp only[lJ,cu,kU];exact .inl (.inl (.inr ⟨x,hx,n⟩)))).2);have j6:Hid (∀x∈ms,∀p∈kI x (mn x),0<=p.2/\p.2<300):=D (λx hx p n=>(Γ p (by simp only[lJ,cu,kU];exact .inl (.inr ⟨x,hx,n⟩))).2);have j7:Hid (∀x∈qs,∀p∈ny x,0<=p.2/\p.2<300):=D (λx hx p n=>(Γ p (by simp only[lJ,cu,kU];exact .inr ⟨x,hx,n⟩)).2);have j8:Hid (∀x∈es,gY h.t.n h.s.n h.o.n h.p.n x (α x)=true):=D (by
  simp only[nK,qK,bD,jW,uN] at l;exact l.1.1.1.2)
 have HD:=D hd;have j9:=hd.1.le;have z0:=hd.2.1.le;have z1:=hd.2.2.1.le;have z2:=hd.2.2.2.1.le;clear hn hd l Γ;obtain⟨S,l,A,n,⟨ea,B,T⟩,⟨da,E,Z⟩,⟨ma,K,mc⟩,⟨wa,Q,wc⟩⟩:=h;simp only at j9 z0 z1 z2;have q6:Bx (((w.alloc (O #[S.v,l.v,A.v,n.v,z ea B T,z da E Z,z ma K mc,z wa Q wc] 41)).alloc (O #[z C 0 0,z C 0 0,z C 0 0,z C 0 0] 142)).alloc (O #[z C 0 0,z C 0 0,z C 0 0,z C 0 0] 142)) w.1.size #[S.v,l.v,A.v,n.v,z ea B T,z da E Z,z ma K mc,z wa Q wc]:=((Bx.new w _ _).alloc _).alloc _;have q7:Bx (((w.alloc (O #[S.v,l.v,A.v,n.v,z ea B T,z da E Z,z ma K mc,z wa Q wc] 41)).alloc (O #[z C 0 0,z C 0 0,z C 0 0,z C 0 0] 142)).alloc (O #[z C 0 0,z C 0 0,z C 0 0,z C 0 0] 142)) (w.1.size+1) #[z C 0 0,z C 0 0,z C 0 0,z C 0 0]:=(Bx.new1 ak).alloc _;have q8:Bx (((w.alloc (O #[S.v,l.v,A.v,n.v,z ea B T,z da E Z,z ma K mc,z wa Q wc] 41)).alloc (O #[z C 0 0,z C 0 0,z C 0 0,z C 0 0] 142)).alloc (O #[z C 0 0,z C 0 0,z C 0 0,z C 0 0] 142)) (w.1.size+2) #[z C 0 0,z C 0 0,z C 0 0,z C 0 0]:=Bx.new1 ak;have q9:∀p∈([(w.1.size,#[S.v,l.v,A.v,n.v,z ea B T,z da E Z,z ma K mc,z wa Q wc]),(w.1.size+1,#[z C 0 0,z C 0 0,z C 0 0,z C 0 0])]:L (J × Array N)),Bx (((w.alloc (O #[S.v,l.v,A.v,n.v,z ea B T,z da E Z,z ma K mc,z wa Q wc] 41)).alloc (O #[z C 0 0,z C 0 0,z C 0 0,z C 0 0] 142)).alloc (O #[z C 0 0,z C 0 0,z C 0 0,z C 0 0] 142)) p.1 p.2/\p.1≠(w.1.size+2)/\∀i:J,i<4->(Value.slice C 0 0).ownBlock≠U p.1:=by
  intro p n;simp only[dP,List.not_mem_nil,or_false] at n;rcases n with rfl|rfl
  .exact⟨q6,by simp,λi _ e=>by cases e⟩
  .exact⟨q7,by simp,λi _ e=>by cases e⟩
 have j0:Hid (V4 w (w.1.size+2) (λ_=> z C 0 0) [] [(w.1.size,#[S.v,l.v,A.v,n.v,z ea B T,z da E Z,z ma K mc,z wa Q wc]),(w.1.size+1,#[z C 0 0,z C 0 0,z C 0 0,z C 0 0])] (((w.alloc (O #[S.v,l.v,A.v,n.v,z ea B T,z da E Z,z ma K mc,z wa Q wc] 41)).alloc (O #[z C 0 0,z C 0 0,z C 0 0,z C 0 0] 142)).alloc (O #[z C 0 0,z C 0 0,z C 0 0,z C 0 0] 142))):=
  D ⟨aB (aB (aB (Below.refl w.1.size w) _) _) _,q8,λi hi=>Own.eH _ _ _ _ _,(λi j _ _ _ g e=>by cases e),q9,(λx hx=>by simp at hx),by simp⟩
 clear q9;clear q6 q7 q8;go_enter func88,ntmps88;have η:=j0.q.bx w.1.size #[S.v,l.v,A.v,n.v,z ea B T,z da E Z,z ma K mc,z wa Q wc] ak;have ρ:=η.1;have σ:=η.2.2;clear η;go_wp2_with fail;rw[show w.1.size+1+1=w.1.size+2 from rfl];clear ρ σ
 go_loopw [21] (λi wr=>∃(k:J)(c:J->N),k<=B/\i= F G k/\V4 w (w.1.size+2) c ((es.take k).flatMap (λe=>fT e (α e))) [(w.1.size,#[S.v,l.v,A.v,n.v,z ea B T,z da E Z,z ma K mc,z wa Q wc]),(w.1.size+1,#[z C 0 0,z C 0 0,z C 0 0,z C 0 0])] wr) (λi _=>B - (I i).toNat)
 case atStart=>exact⟨0,_,aS _,rfl,by simpa using j0.q⟩
 case round=>
  obtain⟨k,c,hk,rfl,κ⟩:=hrel;have Ω:=D κ;clear κ;by_cases τ:k<B
  .obtain⟨x,b,o,hx,rfl,hc⟩:=(HD.q.1.below Ω.q.b rfl).at_ τ
   have θ:=bS hx;have e0:=hc 0 _ rfl;have e1:=hc 1 _ rfl;have e2:=hc 2 _ rfl;have e3:=hc 3 _ rfl;have e4:=hc 4 _ rfl;have e5:=hc 5 _ rfl;have e6:=hc 6 _ rfl;have e7:=hc 7 _ rfl;have e8:=hc 8 _ rfl;simp only[bK] at e0;have ι:=D (HD.q.2.2.2.2.1 x θ);have ζ:=D (j4.q x θ);have q0:=D (Q6 (j8.q x θ));have ν:=D (uo (λe=>fT e (α e)) hx);obtain⟨sx,ε⟩:∃sx,sx=α x:=⟨_,rfl⟩;simp only[<-ε] at ι ζ q0 ν;clear ε hc hx θ;obtain⟨xk,xt,φ,xl,xo,⟨vt,vk⟩,xp,sa,sn,sc⟩:=x;simp only at e0 e1 e2 e3 e4 e5 e6 e7 e8;have z3:Hid (∀s∈sx,∀p∈((2:M),s.obj)::ig s.v,0<=p.2/\p.2<300):=D (λs l p n=>ζ.q p (Og l n));have HE:=D (Ω.q.alloc #[F G xk,F G xt,F G φ,F G xl,F G xo,F G vt,F G vk,F G xp,z sa sn sc] 50).nil;have r:=HE.q.Q.1;have t:=HE.q.Q.2.2;have u:=HE.q.iq.1;have y:=HE.q.iq.2.2;go_wp2_with fail;refine(HE.q.fst (i:=0) aj xt (ζ.q (0,xt) (by simp[fT]))).mono ?_;rintro e w2 ⟨a2,l2,k2,c2,rfl,m,l⟩;have f:=D l;clear l r t u y e0 e1 e2 e3 e4 e5 e6 e7 e8;have β:=m.1;have γ:=m.2.1;have δ:=m.2.2;clear m;rcases(by omega:xk=1\/xk=2\/xk=3\/xk=4\/(xk≠1/\xk≠2/\xk≠3/\xk≠4)) with hk|hk|hk|hk|hk
   all_goals
    first|have z4:(xk==1)=true:=by simp[hk]|have z4:(xk==1)=false:=by simp[hk]
    first|have χ:(xk==2)=true:=by simp[hk]|have χ:(xk==2)=false:=by simp[hk]
    first|have z5:(xk==3)=true:=by simp[hk]|have z5:(xk==3)=false:=by simp[hk]
    first|have z6:(xk==4)=true:=by simp[hk]|have z6:(xk==4)=false:=by simp[hk]
   case' inl=>
    have r:=f.q.Q.1;have t:=f.q.Q.2.2;have u:=f.q.iq.1;have y:=f.q.iq.2.2;go_wp2_with fail;refine(f.q.fst (i:=1) aj φ (ζ.q (1,φ) (by simp[fT,hk]))).mono ?_;rintro e w3 ⟨a3,l3,k3,c3,rfl,m,l⟩;have f:=D l;clear l r t u y β γ δ;have β:=m.1;have γ:=m.2.1;have δ:=m.2.2;clear m
   case' inr.inl|inr.inr.inl=>
    have r:=f.q.Q.1;have t:=f.q.Q.2.2;have u:=f.q.iq.1;have y:=f.q.iq.2.2;go_wp2_with fail;refine(f.q.fst (i:=2) aj xo (ζ.q (2,xo) (by simp[fT,hk]))).mono ?_;rintro e w4 ⟨a4,l4,k4,c4,rfl,m,l⟩;have f:=D l;clear l r t u y β γ δ;have β:=m.1;have γ:=m.2.1;have δ:=m.2.2;clear m;have r:=f.q.Q.1;have t:=f.q.Q.2.2;have u:=f.q.iq.1;have y:=f.q.iq.2.2;go_wp2_with fail;refine(f.q.Xi ⟨vt,vk⟩ (q0.q.1 (by simp[hk])) (λp n=>ζ.q p (by simp[fT,hk,n]))).mono ?_;rintro e w5 ⟨a5,l5,k5,c5,rfl,m,l⟩;have f:=D l;clear l r t u y β γ δ;have β:=m.1;have γ:=m.2.1;have δ:=m.2.2;clear m
   case' inr.inr.inr.inl=>
    have r:=f.q.Q.1;have t:=f.q.Q.2.2;have u:=f.q.iq.1;have y:=f.q.iq.2.2;go_wp2_with fail;refine(f.q.fst (i:=3) aj xp (ζ.q (3,xp) (by simp[fT,hk]))).mono ?_;rintro e w6 ⟨a6,l6,k6,c6,rfl,m,l⟩;have f:=D l;clear l r t u y β γ δ;have β:=m.1;have γ:=m.2.1;have δ:=m.2.2;clear m
   all_goals
    obtain⟨H,hH,l⟩:∃H,fT ⟨xk,xt,φ,xl,xo,⟨vt,vk⟩,xp,sa,sn,sc⟩ sx=H++sx.flatMap (λs:Sn=>((2:M),s.obj)::ig s.v)/\V4 w (w.1.size+2) _ ((es.take k).flatMap (λe=>fT e (α e))++H) ((wr.1.size,#[F G xk,F G xt,F G φ,F G xl,F G xo,F G vt,F G vk,F G xp,z sa sn sc])::[(w.1.size,#[S.v,l.v,A.v,n.v,z (U ⟨b,o,C⟩) B T,z da E Z,z ma K mc,z wa Q wc]),(w.1.size+1,#[z C 0 0,z C 0 0,z C 0 0,z C 0 0])]) _:=⟨_,by simp[fT,hk],f.q⟩;have υ:=D hH;have f:=D l;clear hH l hk;have r:=f.q.Q.1;have t:=f.q.Q.2.2;have u:=f.q.iq.1;have y:=f.q.iq.2.2;go_wp2_with fail;clear r t u y β γ δ
    go_loopw [67] (λi wv=>∃(j:J)(c:J->N),j<=sn/\i= F G j/\V4 w (w.1.size+2) c ((es.take k).flatMap (λe=>fT e (α e))++(H++(sx.take j).flatMap (λs:Sn=>((2:M),s.obj)::ig s.v))) ((wr.1.size,#[F G xk,F G xt,F G φ,F G xl,F G xo,F G vt,F G vk,F G xp,z sa sn sc])::[(w.1.size,#[S.v,l.v,A.v,n.v,z (U ⟨b,o,C⟩) B T,z da E Z,z ma K mc,z wa Q wc]),(w.1.size+1,#[z C 0 0,z C 0 0,z C 0 0,z C 0 0])]) wv) (λi _=>sn - (I i).toNat)
    case atStart=>exact⟨0,_,aS _,rfl,by simpa using f.q⟩
    case round=>
     have j1:=ι.q.le;obtain⟨j,cj,hj,rfl,π⟩:=hrel;have f:=D π;clear π;by_cases Δ:j<sn
     .obtain⟨s,b2,o2,ε,rfl,ξ⟩:=(ι.q.below f.q.b rfl).at_ Δ
      have ο:=bS ε;have f0:=ξ 0 _ rfl;have f1:=ξ 1 _ rfl;have f2:=ξ 2 _ rfl;simp only[bK] at f0;have z7:=D (q0.q.2 s ο);have j2:=D (z3.q s ο);have Θ:=D (uo (λs:Sn=>((2:M),s.obj)::ig s.v) ε);clear ξ ε ο;have HB:=D (f.q.alloc #[F G s.obj,F G s.v.t,F G s.v.k] 148);have r:=HB.q.Q.1;have t:=HB.q.Q.2.2;have u:=HB.q.iq.1;have y:=HB.q.iq.2.2;go_wp2_with fail;refine(HB.q.fst (i:=2) aj s.obj (j2.q (2,s.obj) ak)).mono ?_;rintro e w7 ⟨a7,l7,k7,c7,rfl,m,l⟩;have f:=D l;clear l r t u y f0 f1 f2;have β:=m.1;have γ:=m.2.1;have δ:=m.2.2;clear m;have r:=f.q.Q.1;have t:=f.q.Q.2.2;have u:=f.q.iq.1;have y:=f.q.iq.2.2;go_wp2_with fail;refine(f.q.Xi s.v z7.q (λp n=>j2.q p (by simp[n]))).mono ?_;rintro e w8 ⟨a8,l8,k8,c8,rfl,m,l⟩;have f:=D l;clear l r t u y β γ δ;have β:=m.1;have γ:=m.2.1;have δ:=m.2.2;clear m;go_wp2_with fail;go_roundw
      case rel=>exact⟨j+1,_,by omega,by go_num,by have:=f.q.drop;simp only[fP] at this ⊢;rw[Θ.q];exact this⟩
      case measure=>simp[I];omega
     .obtain rfl:sn=j:=by omega
      have f:=D (show V4 w (w.1.size+2) cj ((es.take k).flatMap (λe=>fT e (α e))++(H++sx.flatMap (λs:Sn=>((2:M),s.obj)::ig s.v))) _ _ from by have:=f.q;rwa[rz (ι.q.len)] at this);have r:=f.q.Q.1;have t:=f.q.Q.2.2;have u:=f.q.iq.1;have y:=f.q.iq.2.2;go_wp2_with fail;go_roundw
      case rel=>exact⟨k+1,_,by omega,by go_num,by rw[ν.q,υ.q];exact f.q.drop⟩
      case measure=>simp[I];omega
  .obtain rfl:B=k:=by omega
   have Ξ:=D (show V4 w (w.1.size+2) c (es.flatMap (λe=>fT e (α e))) [(w.1.size,#[S.v,l.v,A.v,n.v,z ea B T,z da E Z,z ma K mc,z wa Q wc]),(w.1.size+1,#[z C 0 0,z C 0 0,z C 0 0,z C 0 0])] _ from by have:=Ω.q;rwa[rz (HD.q.1.len)] at this);have ψ:=Ξ.q.Q.1;have ω:=Ξ.q.Q.2.2;have η:=Ξ.q.bx w.1.size #[S.v,l.v,A.v,n.v,z ea B T,z da E Z,z ma K mc,z wa Q wc] ak;have ρ:=η.1;have σ:=η.2.2;clear η;go_wp2_with fail;clear ψ ω ρ σ
   go_loopw [88] (λi wr=>∃(k:J)(c:J->N),k<=E/\i= F G k/\V4 w (w.1.size+2) c (es.flatMap (λe=>fT e (α e))++(ds.take k).flatMap (λx=>jI x (dn x))) [(w.1.size,#[S.v,l.v,A.v,n.v,z ea B T,z da E Z,z ma K mc,z wa Q wc]),(w.1.size+1,#[z C 0 0,z C 0 0,z C 0 0,z C 0 0])] wr) (λi _=>E - (I i).toNat)
   case atStart=>exact⟨0,_,aS _,rfl,by simpa using Ξ.q⟩
   case round=>
    obtain⟨k,c,hk,rfl,κ⟩:=hrel;have q1:=D κ;clear κ;by_cases τ:k<E
    .obtain⟨x,b,o,hx,rfl,hc⟩:=(HD.q.2.1.below q1.q.b rfl).at_ τ
     have θ:=bS hx;have e0:=hc 0 _ rfl;have e1:=hc 1 _ rfl;simp only[bK] at e0;have ι:=D (HD.q.2.2.2.2.2.1 x θ);have ζ:=D (j5.q x θ);have ν:=D (uo (λx=>jI x (dn x)) hx);obtain⟨sx,ε⟩:∃sx,sx=dn x:=⟨_,rfl⟩;simp only[<-ε] at ι ζ ν;clear ε hc hx θ;obtain⟨xo,sa,sn,sc⟩:=x;simp only at e0 e1;have HE:=D (q1.q.alloc #[F G xo,z sa sn sc] 65).nil;have r:=HE.q.Q.1;have t:=HE.q.Q.2.2;have u:=HE.q.iq.1;have y:=HE.q.iq.2.2;go_wp2_with fail;refine(HE.q.fst (i:=2) aj xo (ζ.q (2,xo) (by simp[jI]))).mono ?_;rintro e z9 ⟨v0,v1,v2,v3,rfl,m,l⟩;have f:=D l;clear l r t u y e0 e1;have β:=m.1;have γ:=m.2.1;have δ:=m.2.2;clear m;obtain⟨H,hH,l⟩:∃H,jI ⟨xo,sa,sn,sc⟩ sx=H++sx.map (λd=>((0:M),d))/\V4 w (w.1.size+2) _ (es.flatMap (λe=>fT e (α e))++(ds.take k).flatMap (λx=>jI x (dn x))++H) ((wr.1.size,#[F G xo,z sa sn sc])::[(w.1.size,#[S.v,l.v,A.v,n.v,z ea B T,z (U ⟨b,o,C⟩) E Z,z ma K mc,z wa Q wc]),(w.1.size+1,#[z C 0 0,z C 0 0,z C 0 0,z C 0 0])]) _:=⟨_,by simp[jI],f.q⟩;have υ:=D hH;have f:=D l;clear hH l;have r:=f.q.Q.1;have t:=f.q.Q.2.2;have u:=f.q.iq.1;have y:=f.q.iq.2.2;go_wp2_with fail;clear r t u y β γ δ
     go_loopw [101] (λi wv=>∃(j:J)(c:J->N),j<=sn/\i= F G j/\V4 w (w.1.size+2) c (es.flatMap (λe=>fT e (α e))++(ds.take k).flatMap (λx=>jI x (dn x))++(H++(sx.take j).map (λd=>((0:M),d)))) ((wr.1.size,#[F G xo,z sa sn sc])::[(w.1.size,#[S.v,l.v,A.v,n.v,z ea B T,z (U ⟨b,o,C⟩) E Z,z ma K mc,z wa Q wc]),(w.1.size+1,#[z C 0 0,z C 0 0,z C 0 0,z C 0 0])]) wv) (λi _=>sn - (I i).toNat)
     case atStart=>exact⟨0,_,aS _,rfl,by simpa using f.q⟩
     case round=>
      have j1:=ι.q.le;obtain⟨j,cj,hj,rfl,π⟩:=hrel;have f:=D π;clear π;by_cases Δ:j<sn
      .obtain⟨d,b2,o2,ε,rfl,ξ⟩:=(ι.q.below f.q.b rfl).at_ Δ
       have ο:=bS ε;have f0:=ξ 0 _ rfl;simp only[gP,bK] at f0;have Θ:=D (FL (λd:M=>((0:M),d)) ε);have q2:=D ο;clear ξ ε ο;have r:=f.q.Q.1;have t:=f.q.Q.2.2;have u:=f.q.iq.1;have y:=f.q.iq.2.2;go_wp2_with fail;refine(f.q.fst (i:=0) aj d (ζ.q (0,d) (by rw[υ.q];exact nu _ (eZ.2 ⟨d,q2.q,rfl⟩)))).mono ?_;rintro e v4 ⟨v5,v6,v7,v8,rfl,m,l⟩;have f:=D l;clear l r t u y f0;have β:=m.1;have γ:=m.2.1;have δ:=m.2.2;clear m;go_wp2_with fail;go_roundw
       case rel=>exact⟨j+1,_,by omega,by go_num,by rw[Θ.q,<-fP H];exact f.q⟩
       case measure=>simp[I];omega
      .obtain rfl:sn=j:=by omega
       have f:=D (show V4 w (w.1.size+2) cj (es.flatMap (λe=>fT e (α e))++(ds.take k).flatMap (λx=>jI x (dn x))++(H++sx.map (λd=>((0:M),d)))) _ _ from by have:=f.q;rwa[rz (ι.q.len)] at this);have r:=f.q.Q.1;have t:=f.q.Q.2.2;have u:=f.q.iq.1;have y:=f.q.iq.2.2;go_wp2_with fail;go_roundw
       case rel=>exact⟨k+1,_,by omega,by go_num,by rw[ν.q,υ.q];simpa only[fP] using f.q.drop⟩
       case measure=>simp[I];omega
    .obtain rfl:E=k:=by omega
     have Φ:=D (show V4 w (w.1.size+2) c (es.flatMap (λe=>fT e (α e))++ds.flatMap (λx=>jI x (dn x))) [(w.1.size,#[S.v,l.v,A.v,n.v,z ea B T,z da E Z,z ma K mc,z wa Q wc]),(w.1.size+1,#[z C 0 0,z C 0 0,z C 0 0,z C 0 0])] _ from by have:=q1.q;rwa[rz (HD.q.2.1.len)] at this);have ψ:=Φ.q.Q.1;have ω:=Φ.q.Q.2.2;have η:=Φ.q.bx w.1.size #[S.v,l.v,A.v,n.v,z ea B T,z da E Z,z ma K mc,z wa Q wc] ak;have ρ:=η.1;have σ:=η.2.2;clear η;go_wp2_with fail;clear ψ ω ρ σ
     go_loopw [115] (λi wr=>∃(k:J)(c:J->N),k<=K/\i= F G k/\V4 w (w.1.size+2) c (es.flatMap (λe=>fT e (α e))++ds.flatMap (λx=>jI x (dn x))++(ms.take k).flatMap (λx=>kI x (mn x))) [(w.1.size,#[S.v,l.v,A.v,n.v,z ea B T,z da E Z,z ma K mc,z wa Q wc]),(w.1.size+1,#[z C 0 0,z C 0 0,z C 0 0,z C 0 0])] wr) (λi _=>K - (I i).toNat)
     case atStart=>exact⟨0,_,aS _,rfl,by simpa using Φ.q⟩
     case round=>
      obtain⟨k,c,hk,rfl,κ⟩:=hrel;have q3:=D κ;clear κ;by_cases τ:k<K
      .obtain⟨x,b,o,hx,rfl,hc⟩:=(HD.q.2.2.1.below q3.q.b rfl).at_ τ
       have θ:=bS hx;have e0:=hc 0 _ rfl;have e1:=hc 1 _ rfl;have e2:=hc 2 _ rfl;have e3:=hc 3 _ rfl;simp only[bK] at e0;have ι:=D (HD.q.2.2.2.2.2.2 x θ);have ζ:=D (j6.q x θ);have ν:=D (uo (λx=>kI x (mn x)) hx);obtain⟨sx,ε⟩:∃sx,sx=mn x:=⟨_,rfl⟩;simp only[<-ε] at ι ζ ν;clear ε hc hx θ;obtain⟨xp,xo,xf,sa,sn,sc⟩:=x;simp only at e0 e1 e2 e3;have HE:=D (q3.q.alloc #[F G xp,F G xo,.bool xf,z sa sn sc] 67).nil;have r:=HE.q.Q.1;have t:=HE.q.Q.2.2;have u:=HE.q.iq.1;have y:=HE.q.iq.2.2;go_wp2_with fail;refine(HE.q.fst (i:=3) aj xp (ζ.q (3,xp) (by simp[kI]))).mono ?_;rintro e v9 ⟨k9,y0,y1,y2,rfl,m,l⟩;have f:=D l;clear l r t u y e0 e1 e2 e3;have β:=m.1;have γ:=m.2.1;have δ:=m.2.2;clear m;have r:=f.q.Q.1;have t:=f.q.Q.2.2;have u:=f.q.iq.1;have y:=f.q.iq.2.2;go_wp2_with fail;refine(f.q.fst (i:=2) aj xo (ζ.q (2,xo) (by simp[kI]))).mono ?_;rintro e y3 ⟨y4,y5,y6,y7,rfl,m,l⟩;have f:=D l;clear l r t u y β γ δ;have β:=m.1;have γ:=m.2.1;have δ:=m.2.2;clear m;obtain⟨H,hH,l⟩:∃H,kI ⟨xp,xo,xf,sa,sn,sc⟩ sx=H++sx.map (λd=>((0:M),d))/\V4 w (w.1.size+2) _ (es.flatMap (λe=>fT e (α e))++ds.flatMap (λx=>jI x (dn x))++(ms.take k).flatMap (λx=>kI x (mn x))++H) ((wr.1.size,#[F G xp,F G xo,.bool xf,z sa sn sc])::[(w.1.size,#[S.v,l.v,A.v,n.v,z ea B T,z da E Z,z (U ⟨b,o,C⟩) K mc,z wa Q wc]),(w.1.size+1,#[z C 0 0,z C 0 0,z C 0 0,z C 0 0])]) _:=⟨_,by simp[kI],f.q⟩;have υ:=D hH;have f:=D l;clear hH l;have r:=f.q.Q.1;have t:=f.q.Q.2.2;have u:=f.q.iq.1;have y:=f.q.iq.2.2;go_wp2_with fail;clear r t u y β γ δ
       go_loopw [134] (λi wv=>∃(j:J)(c:J->N),j<=sn/\i= F G j/\V4 w (w.1.size+2) c (es.flatMap (λe=>fT e (α e))++ds.flatMap (λx=>jI x (dn x))++(ms.take k).flatMap (λx=>kI x (mn x))++(H++(sx.take j).map (λd=>((0:M),d)))) ((wr.1.size,#[F G xp,F G xo,.bool xf,z sa sn sc])::[(w.1.size,#[S.v,l.v,A.v,n.v,z ea B T,z da E Z,z (U ⟨b,o,C⟩) K mc,z wa Q wc]),(w.1.size+1,#[z C 0 0,z C 0 0,z C 0 0,z C 0 0])]) wv) (λi _=>sn - (I i).toNat)
       case atStart=>exact⟨0,_,aS _,rfl,by simpa using f.q⟩
       case round=>
        have j1:=ι.q.le;obtain⟨j,cj,hj,rfl,π⟩:=hrel;have f:=D π;clear π;by_cases Δ:j<sn
        .obtain⟨d,b2,o2,ε,rfl,ξ⟩:=(ι.q.below f.q.b rfl).at_ Δ
         have ο:=bS ε;have f0:=ξ 0 _ rfl;simp only[gP,bK] at f0;have Θ:=D (FL (λd:M=>((0:M),d)) ε);have q2:=D ο;clear ξ ε ο;have r:=f.q.Q.1;have t:=f.q.Q.2.2;have u:=f.q.iq.1;have y:=f.q.iq.2.2;go_wp2_with fail;refine(f.q.fst (i:=0) aj d (ζ.q (0,d) (by rw[υ.q];exact nu _ (eZ.2 ⟨d,q2.q,rfl⟩)))).mono ?_;rintro e y8 ⟨y9,x0,x1,x2,rfl,m,l⟩;have f:=D l;clear l r t u y f0;have β:=m.1;have γ:=m.2.1;have δ:=m.2.2;clear m;go_wp2_with fail;go_roundw
         case rel=>exact⟨j+1,_,by omega,by go_num,by rw[Θ.q,<-fP H];exact f.q⟩
         case measure=>simp[I];omega
        .obtain rfl:sn=j:=by omega
         have f:=D (show V4 w (w.1.size+2) cj (es.flatMap (λe=>fT e (α e))++ds.flatMap (λx=>jI x (dn x))++(ms.take k).flatMap (λx=>kI x (mn x))++(H++sx.map (λd=>((0:M),d)))) _ _ from by have:=f.q;rwa[rz (ι.q.len)] at this);have r:=f.q.Q.1;have t:=f.q.Q.2.2;have u:=f.q.iq.1;have y:=f.q.iq.2.2;go_wp2_with fail;go_roundw
         case rel=>exact⟨k+1,_,by omega,by go_num,by rw[ν.q,υ.q];simpa only[fP] using f.q.drop⟩
         case measure=>simp[I];omega
      .obtain rfl:K=k:=by omega
       have Ψ:=D (show V4 w (w.1.size+2) c (es.flatMap (λe=>fT e (α e))++ds.flatMap (λx=>jI x (dn x))++ms.flatMap (λx=>kI x (mn x))) [(w.1.size,#[S.v,l.v,A.v,n.v,z ea B T,z da E Z,z ma K mc,z wa Q wc]),(w.1.size+1,#[z C 0 0,z C 0 0,z C 0 0,z C 0 0])] _ from by have:=q3.q;rwa[rz (HD.q.2.2.1.len)] at this);have ψ:=Ψ.q.Q.1;have ω:=Ψ.q.Q.2.2;have η:=Ψ.q.bx w.1.size #[S.v,l.v,A.v,n.v,z ea B T,z da E Z,z ma K mc,z wa Q wc] ak;have ρ:=η.1;have σ:=η.2.2;clear η;go_wp2_with fail;clear ψ ω ρ σ
       go_loopw [148] (λi wr=>∃(k:J)(c:J->N),k<=Q/\i= F G k/\V4 w (w.1.size+2) c (es.flatMap (λe=>fT e (α e))++ds.flatMap (λx=>jI x (dn x))++ms.flatMap (λx=>kI x (mn x))++(qs.take k).flatMap ny) [(w.1.size,#[S.v,l.v,A.v,n.v,z ea B T,z da E Z,z ma K mc,z wa Q wc]),(w.1.size+1,#[z C 0 0,z C 0 0,z C 0 0,z C 0 0])] wr) (λi _=>Q - (I i).toNat)
       case atStart=>exact⟨0,_,aS _,rfl,by simpa using Ψ.q⟩
       case round=>
        obtain⟨k,c,hk,rfl,κ⟩:=hrel;have q4:=D κ;clear κ;by_cases τ:k<Q
        .obtain⟨x,b,o,hx,rfl,hc⟩:=(HD.q.2.2.2.1.below q4.q.b rfl).at_ τ
         have θ:=bS hx;have e0:=hc 0 _ rfl;have e1:=hc 1 _ rfl;simp only[bK] at e0;have ζ:=D (j7.q x θ);have ν:=D (uo ny hx);clear hc hx θ;obtain⟨xs,xb⟩:=x;simp only at e0 e1;have HE:=D (q4.q.alloc #[F G xs,F G xb] 69).nil;have r:=HE.q.Q.1;have t:=HE.q.Q.2.2;have u:=HE.q.iq.1;have y:=HE.q.iq.2.2;go_wp2_with fail;refine(HE.q.fst (i:=1) aj xs (ζ.q (1,xs) (by simp[ny]))).mono ?_;rintro e x3 ⟨x4,x5,x6,x7,rfl,m,l⟩;have f:=D l;clear l r t u y e0 e1;have β:=m.1;have γ:=m.2.1;have δ:=m.2.2;clear m;go_wp2_with fail;go_roundw
         case rel=>exact⟨k+1,_,by omega,by go_num,by rw[ν.q,<-fP];exact f.q.drop⟩
         case measure=>simp[I];omega
        .obtain rfl:Q=k:=by omega
         have μ:=D (show V4 w (w.1.size+2) c (es.flatMap (λe=>fT e (α e))++ds.flatMap (λx=>jI x (dn x))++ms.flatMap (λx=>kI x (mn x))++qs.flatMap ny) [(w.1.size,#[S.v,l.v,A.v,n.v,z ea B T,z da E Z,z ma K mc,z wa Q wc]),(w.1.size+1,#[z C 0 0,z C 0 0,z C 0 0,z C 0 0])] _ from by have:=q4.q;rwa[rz (HD.q.2.2.2.1.len)] at this);have j3:Hid (∀Y,Same (λi=>i≠w.1.size+1) _ Y->Om (lJ es ds ms qs α dn mn) w (.returned (.agg #[c 0,c 1,c 2,c 3])) Y):=D (λY hY=>⟨c,rfl,λi hi=>by
          have A:=(μ.q.o i hi);have q5:=A.block (w':=Y) λg hg=>hY.block g (by have:=(A.lt g hg).1;omega) (A.lt g hg).2
          obtain⟨a,cc,e,_,_⟩:=q5.shape;rw[e] at q5;exact⟨a,_,cc,e,q5.row (hc:=fA) (cO (μ.q.len _) aj)⟩,hY.below μ.q.b (λi hi=>by omega) μ.q.b.size⟩)
         have hQ:=μ.q.Q;have χ:=μ.q.bx (w.1.size+1) #[z C 0 0,z C 0 0,z C 0 0,z C 0 0] ak;obtain⟨a0,n0,k0,e0⟩:=(μ.q.o 0 aj).Lr;obtain⟨a1,n1,k1,e1⟩:=(μ.q.o 1 aj).Lr;obtain⟨a2,n2,k2,e2⟩:=(μ.q.o 2 aj).Lr;obtain⟨a3,n3,k3,e3⟩:=(μ.q.o 3 aj).Lr;rw[e0,e1,e2,e3] at hQ j3;clear μ e0 e1 e2 e3;have ψ:=hQ.1;have ω:=hQ.2.2;have z8:=χ.1;have x8:=χ.2.1;have x9:=χ.2.2;clear hQ χ;go_wp2_with fail;refine bodyPost_ret (v:= .agg #[z a0 n0 k0,z a1 n1 k1,z a2 n2 k2,z a3 n3 k3]) (by simp[results,results88,go_sem,z8]) rfl (j3.q _ ?_)
         repeat(first|(with_reducible exact Same.refl' _)|(refine Same.setTail ?_ (λhn=>hn rfl)))
end Yd
namespace Yd
open Bool renaming false->c,true->g
open Go Go.RowKit Go.Proofs
def dh {α β:Type}(x:Except Er (α × Bs))(f:α->Bs->Except Er (β × Bs)):Except Er (β × Bs):=match x with| .error e=> .error e| .ok (a,r)=>f a r
variable{α:Type}
theorem oO {β:Type}(a:α)(l:Bs)(b:Int)(f:α->Bs->Except Er (β × Bs)):dh (lC a l b) f=fM b l (f a l):=by
 unfold lC fM;by_cases h:b=0
 .rw[aA h,aA h];rfl
 .rw[ay h,ay h];rfl
theorem any_bind {β:Type}(x:Except Er (α × Bs))(l:Bs)(a:Int)(f:α->Bs->Except Er (β × Bs)):fM a l (dh x f)=dh (fM a l x) f:=by
 unfold fM;by_cases h:a=0
 .rw[aA h,aA h]
 .rw[ay h,ay h];rfl
theorem gu {α β:Type}{x:Except Er (α × Bs)}{l s:Bs}{n e:Int}{a:α}{f:α->Bs->Except Er (β × Bs)}{X:Except Er (β × Bs)}(b:X=fM n l (dh x f))(h:fM n l x=lC a s e):X=fM e s (f a s):=by
 rw[b,any_bind,h,oO]
theorem pF {α:Type}{x:Except Er (α × Bs)}{l s:Bs}{n e:Int}{a:α}(h:fM n l x=lC a s e)(d:e=0):n=0/\x= .ok (a,s):=by
 subst d;rw[kr] at h;by_cases b:n=0
 .subst b;rw[lM] at h;exact⟨rfl,h⟩
 .rw[nD _ b] at h;cases h
def eB (k:Int)(a:Nat):Nat->Nat->aK->Bs->Except Er (aK × Bs)
 |0,_,n,l=> .ok (n,l)
 |f+1,d,n,l=>dh (dB l) λb r=>
  if b=c then .ok (n,r)
  else if k=8/\d=0/\n.first=c/\r.head?=some 45 then eB k a f 0 {n with first:=true} r.tail
  else dh (if d=a/\bY r=g then .error (r,3) else bU r) λe i=>
   if k=4 then dh (jL i) λ_ j=>dh (dN j) λv m=>eB k a f (d+1) (jr (addN n e) v) m
   else eB k a f (d+1) (addN n e) i
def vR (n:aK)(x:Except Er ((List Bs × List To) × Bs)):Except Er (aK × Bs):=match x with| .error e=> .error e| .ok (b,r)=> .ok ({n with names:=b.1,aM:=b.2},r)
theorem Bu (n m:aK)(x:Except Er ((List Bs × List To) × Bs))(h:∀ns a,({n with names:=ns,aM:=a}:aK)={m with names:=ns,aM:=a}):vR n x=vR m x:=by
 unfold vR
 cases x with
 |error e=>rfl
 |ok b=>exact cZ (λy=>Except.ok (y,b.2)) (h _ _)
theorem yT (l:Bs)(f:Unit->Bs->Except Er (α × Bs)):dh (jL l) f=(match fu l with| .error x=> .error x| .ok r=>f () r):=by
 unfold jL dh
 cases fu l <;> rfl
theorem nL (k:Int)(d:Nat)(i:Bool)(j:(k=4)↔i=g):∀(f a:Nat)(n:aK)(l:Bs),(k=8->n.first=g\/0<a)->
  eB k d f a n l=vR n (bR i d f a n.names n.aM l)
 |0,a,n,l,_=>rfl
 |f+1,a,n,l,E=>by
  unfold eB bR
  cases Q:dB l with
  |error x=>rfl
  |ok y=>
   obtain⟨b,r⟩:=y
   cases b
   .rfl
   .show(if g=c then .ok (n,r) else _)=_
    rw[ay (show ¬(g=c) by simp),ay (show ¬(k=8/\a=0/\n.first=c/\r.head?=some 45) by
     rintro⟨K,S,s,_⟩;rcases E K with h|h
     .rw[h] at s;cases s
     .omega)]
    by_cases m:a=d/\bY r=g
    .rw[aA m];simp only[aA m];rfl
    .rw[ay m];simp only[ay m]
     cases T:bU r with
     |error x=>rfl
     |ok z=>
      obtain⟨p,t⟩:=z;show(if k=4 then _ else _)=_;by_cases o:k=4
      .rw[aA o]
       simp only[aA (j.1 o)];rw[yT]
       cases fu t with
       |error x=>rfl
       |ok A=>
        show dh (dN A) _=_;simp only[]
        cases dN A with
        |error x=>rfl
        |ok u=>
         obtain⟨v,B⟩:=u;show eB k d f (a+1) (jr (addN n p) v) B=_;rw[nL k d i j f (a+1) (jr (addN n p) v) B (λ_=> .inr ah)];exact Bu _ _ _ (λ_ _=>rfl)
      .rw[ay o]
       simp only[ay (λe=>o (j.2 e))];rw[nL k d i j f (a+1) (addN n p) t (λ_=> .inr ah)];exact Bu _ _ _ (λ_ _=>rfl)
theorem uf (i:Bool)(b:Nat):∀(f a:Nat)(d:List Bs)(e:List To)(l:Bs),b+1<=f+a->a<=b->bR i b (f+1) a d e l=bR i b f a d e l
 |0,a,d,e,l,j,k=>by omega
 |f+1,a,d,e,l,j,k=>by
  have m:=uf i b f;rw[bR,bR]
  repeat' split
  all_goals grind [tq]
theorem GK (a:Nat)(n:aK)(l:Bs)(k:n.first=c):
  eB 8 a (a+2) 0 n l=(match jh l with| .error x=> .error x| .ok (f,r)=>vR {n with first:=f} (bR c a (a+1) 0 n.names n.aM r)):=by
 have p:((8:Int)=4)↔(c=g):=⟨λh=>absurd h aj,λh=>absurd h aj⟩;rw[eB]
 cases d:dB l with
 |error x=>rw[show jh l= .error x by unfold jh;rw[d]];rfl
 |ok y=>
  obtain⟨b,r⟩:=y
  cases b
  .rw[show jh l= .ok (c,l) by unfold jh;rw[d]]
   show Except.ok (n,r)=vR {n with first:=false} (bR c a (a+1) 0 n.names n.aM l);rw[bR,d];show Except.ok (n,r)=Except.ok ({n with first:=false},r);obtain⟨_,_,_,_,s,_⟩:=n;subst k;rfl
  .have t:jh l=if r.head?=some 45 then .ok (g,r.tail) else .ok (c,l):=by unfold jh;rw[d]
   rw[t];show(if g=c then .ok (n,r) else _)=_;rw[ay (show ¬(g=c) by simp)];by_cases i:r.head?=some 45
   .rw[aA (show(8:Int)=8/\(0:Nat)=0/\n.first=c/\r.head?=some 45 from⟨rfl,rfl,k,i⟩),aA i]
    exact nL 8 a c p (a+1) 0 {n with first:=true} r.tail (λ_=> .inl rfl)
   .rw[ay (show ¬((8:Int)=8/\(0:Nat)=0/\n.first=c/\r.head?=some 45) from λe=>i e.2.2.2),ay i]
    show _=vR {n with first:=false} (bR c a (a+1) 0 n.names n.aM l);rw[<-uf c a (a+1) 0 _ _ _ ah ah,bR,d];show _=vR {n with first:=false} (if 0=a/\bY r=g then .error (r,3) else _);by_cases j:0=a/\bY r=g
    .rw[aA j,aA j];rfl
    .rw[ay j,ay j]
     cases bU r with
     |error x=>rfl
     |ok z=>
      obtain⟨m,o⟩:=z;show eB 8 a (a+1) (0+1) (addN n m) o=vR {n with first:=false} (bR c a (a+1) (0+1) (n.names++[m]) n.aM o);rw[nL 8 a c p (a+1) (0+1) (addN n m) o (λ_=> .inr ah)];refine Bu _ _ _ (λns u=>?_);obtain⟨_,_,_,_,s,_⟩:=n;subst k;rfl
def vg:Nat->aK->Bs->Except Er (aK × Bs)
 |0,n,l=> .ok (n,l)
 |j+1,n,l=>dh (jL l) λ_ r=>dh (bU r) λa b=>vg j (addN n a) b
theorem A8:∀(j:Nat)(n:aK)(l:Bs),vg j n l=(match mK j n.names l with| .error x=> .error x| .ok (a,r)=> .ok ({n with names:=a},r))
 |0,n,l=>rfl
 |j+1,n,l=>by
  have b:=A8 j;rw[vg,yT,mK];unfold dh
  grind
def tQ:Nat->Nat->aK->Bs->Except Er (aK × Bs)
 |0,_,n,l=> .ok (n,l)
 |f+1,k,n,l=>dh (dB l) λb r=>if b=c then .ok (n,r) else dh (oZ (iB.drop k) r) λi a=>tQ f (k+i+1) {n with bits:=n.bits+2 ^ (k+i)} a
theorem Il:∀(f k:Nat)(n:aK)(l:Bs),tQ f k n l=(match kD f k n.bits l with| .error x=> .error x| .ok (b,r)=> .ok ({n with bits:=b},r))
 |0,k,n,l=>rfl
 |f+1,k,n,l=>by
  rw[tQ,kD]
  cases dB l with
  |error x=>rfl
  |ok y=>
   obtain⟨b,r⟩:=y
   cases b
   .rfl
   .show(if g=c then .ok (n,r) else _)=_
    rw[ay (show ¬(g=c) by simp),Bv _ _ (Oq k)];simp only[]
    cases gW (iB.drop k) r with
    |error x=>rfl
    |ok z=>
     obtain⟨i,a⟩:=z;show tQ f (k+i+1) {n with bits:=n.bits+2 ^ (k+i)} a=_;rw[Il f (k+i+1) {n with bits:=n.bits+2 ^ (k+i)} a]
def midD (k:Nat)(n:aK)(l:Bs):Except Er (aK × Bs):=
 if k=1 then dh (jL l) λ_ r=>dh (oZ kM r) λi a=> .ok ({n with lvl:=1+i},a)
 else if k=3 then dh (jL l) λ_ r=>dh (dN r) λv a=> .ok (jr n v,a)
 else if k=9 then tQ 5 0 n l
 else .ok (n,l)
def yc (k:Nat)(n:aK)(l:Bs):Except Er (aK × Bs):=
 if k=4 then eB 4 40 42 0 n l else if k=7 then eB 7 300 302 0 n l else if k=8 then eB 8 300 302 0 n l else .ok (n,l)
def yh (k:Nat)(n:aK)(l:Bs):Except Er (aK × Bs):=dh (vg (eU k).toNat n l) λa r=>dh (midD k a r) λb d=>yc k b d
theorem Q7 (k:Nat)(a:List Bs)(l:Bs):(dh (midD k ⟨k,a,0,[],c,0⟩ l) λo p=>yc k o p)=uS k a l:=by
 unfold midD yc uS;by_cases d:k=1
 .subst d
  rw[aA rfl,aA rfl,yT]
  cases fu l with
  |error x=>rfl
  |ok r=>
   simp only[];rw[Bv _ _ Ot]
   cases gW kM r with
   |error x=>rfl
   |ok z=>rfl
 rw[ay d,ay d];by_cases e:k=3
 .subst e
  rw[aA rfl,aA rfl,yT]
  cases fu l with
  |error x=>rfl
  |ok r=>
   simp only[]
   cases dN r with
   |error x=>rfl
   |ok z=>rfl
 rw[ay e,ay e];by_cases i:k=9
 .subst i
  rw[aA rfl,aA rfl,Il];show dh (match kD 5 0 0 l with| .error x=> .error x| .ok (b,r)=> .ok (_,r)) _=_
  cases kD 5 0 0 l with
  |error x=>rfl
  |ok z=>rfl
 rw[ay i,ay i];show(if k=4 then _ else _)=_;by_cases j:k=8
 .subst j
  rw[ay aj,ay aj,aA rfl,aA rfl,GK 300 _ _ rfl]
  cases jh l with
  |error x=>rfl
  |ok z=>
   obtain⟨f,r⟩:=z;simp only[]
   cases bR c 300 (300+1) 0 a [] r with
   |error x=>rfl
   |ok u=>rfl
 rw[ay j,ay j];by_cases m:k=4
 .subst m
  rw[aA rfl,aA rfl,nL 4 40 g ⟨λ_=>rfl,λ_=>rfl⟩ 42 0 _ _ (λh=>by cases h),uf g 40 41 0 _ _ _ ah ah];show vR _ (bR g 40 41 0 a [] l)=_
  cases bR g 40 41 0 a [] l with
  |error x=>rfl
  |ok u=>rfl
 rw[ay m,ay m];by_cases n:k=7
 .subst n
  rw[aA rfl,aA rfl,nL 7 300 c ⟨λh=>absurd h aj,λh=>absurd h aj⟩ 302 0 _ _ (λh=>by cases h),uf c 300 301 0 _ _ _ ah ah];show vR _ (bR c 300 301 0 a [] l)=_
  cases bR c 300 301 0 a [] l with
  |error x=>rfl
  |ok u=>rfl
 rw[ay n,ay n]
def BQ (l:Bs):Except Er (aK × Bs):=
 if dO (bg l)=g then .ok (⟨0,[],0,[],c,0⟩,bg l)
 else dh (oZ jK (bg l)) λi r=>dh (yh (i+1) ⟨((i+1:Nat):Int),[],0,[],c,0⟩ r) λs d=>dh (dB d) λb a=>if b=g then .error (a,220) else .ok (s,a)
theorem Bn (l:Bs):BQ l=jv l:=by
 unfold BQ jv;by_cases h:dO (bg l)=g
 .rw[aA h,aA h]
 rw[ay h,ay h,Bv _ _ Q8]
 cases gW jK (bg l) with
 |error x=>rfl
 |ok z=>
  obtain⟨i,r⟩:=z;show dh (yh (i+1) _ r) _=_;simp only[];unfold yh;rw[A8];show dh (dh (match mK (eU (i+1)).toNat [] r with| .error x=> .error x| .ok (ns,r)=> .ok (_,r)) _) _=_
  cases mK (eU (i+1)).toNat [] r with
  |error x=>rfl
  |ok y=>
   obtain⟨ns,a⟩:=y;show dh (dh (midD (i+1) ⟨((i+1:Nat):Int),ns,0,[],c,0⟩ a) λe f=>yc (i+1) e f) _=_;rw[Q7];simp only[]
   cases uS (i+1) ns a with
   |error x=>rfl
   |ok y=>
    obtain⟨s,d⟩:=y;show dh (dB d) _=_;simp only[]
    cases dB d with
    |error x=>rfl
    |ok v=>
     obtain⟨b,j⟩:=v
     cases b <;> rfl
end Yd
