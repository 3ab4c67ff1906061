import Derived.Test.YtpeojoobplpcoaaGreatDoorPF9
import Derived.Test.YtpeojoobplpcoaaGreatDoorPChG
import Derived.Test.YtpeojoobplpcoaaGreatDoorPRLw
set_option linter.all false
set_option maxRecDepth 200000
set_option maxHeartbeats 8000000
namespace Yd
open Bool renaming true->N,false->P
open Option renaming some->u,none->C
open Go Go.RowKit Go.Proofs Tryz
open Bx renaming new1->R
open Go renaming World->V
open Go.IntKind renaming i64->G
open Go.Value renaming pointer->A,int->F
open Gr renaming put->B
open Tryz renaming prog->I
open Yd renaming hid->O
open _root_ renaming trivial->H,List->L,Nat->U
theorem oI {a b:Int}{l:aH}(h:a<=l.kind/\l.kind<=b):jO a b l=[l]:=av h
theorem iG {a b:Int}{l:aH}(h:¬(a<=l.kind/\l.kind<=b)):jO a b l=[]:=au h
theorem lT.add {c:Cont}(h:gK c){l:aH}(hl:dW l):lT c (aR c l) (jO 1 6 l) (jO 7 7 l) (jO 8 8 l) (jO 9 9 l):=by
 obtain⟨kd,ns,lv,vs,fi,bt⟩:=l;obtain⟨hw,hv,hc⟩:=hl;simp only at hw hv hc;rcases hc with⟨rfl,h1,rfl,⟨lw,rfl,h3,h4⟩,rfl,rfl⟩|⟨rfl,h1,rfl,rfl,rfl,rfl⟩|⟨rfl,h1,h2,rfl,rfl,rfl⟩|⟨rfl,⟨cc,h1,h2,h2'⟩,_,rfl,rfl,rfl⟩|⟨rfl,h1,rfl,rfl,rfl,rfl⟩|⟨rfl,h1,rfl,rfl,rfl,rfl⟩|⟨rfl,⟨cc,h1,h2'⟩,rfl,rfl,rfl,rfl⟩|⟨rfl,⟨cc,h1,h2'⟩,rfl,rfl,_,rfl⟩|⟨rfl,h1,rfl,rfl,rfl,⟨bb,rfl,h5⟩⟩
 .obtain⟨a,b,rfl⟩:=Dr h1
  have g:=B (c.put 0 a) 1 b;refine lT.eT h ((B c 0 a).trans g) ((Nm.put c 0 a).trans (Nm.put _ 1 b)) _ _ _ ?_;show(⟨1,[aK (((c.put 0 a).put 1 b).nl 0) (c.no 0 a),aK (((c.put 0 a).put 1 b).nl 1) ((c.put 0 a).no 1 b)],_,[],P,0⟩:aH)=_;rw[iN g,iN (Gr.refl _)]
 .obtain⟨a,b,rfl⟩:=Dr h1
  have g:=B (c.put 0 a) 2 b;refine lT.eT h ((B c 0 a).trans g) ((Nm.put c 0 a).trans (Nm.put _ 2 b)) _ _ _ ?_;show(⟨2,[aK (((c.put 0 a).put 2 b).nl 0) (c.no 0 a),aK (((c.put 0 a).put 2 b).nl 2) ((c.put 0 a).no 2 b)],_,[],P,0⟩:aH)=_;rw[iN g,iN (Gr.refl _)]
 .obtain⟨a,b,rfl⟩:=Dr h1
  obtain⟨v,rfl⟩:=zM h2;have hvv:=hv v ak;have g1:=Gr.dz ((c.put 0 a).put 2 b) v;have g:=(B (c.put 0 a) 2 b).trans g1;refine lT.eT h ((B c 0 a).trans g) (((Nm.put c 0 a).trans (Nm.put _ 2 b)).trans (Nm.dz _ v)) _ _ _ ?_;show(⟨3,[aK ((((c.put 0 a).put 2 b).dz v).1.nl 0) (c.no 0 a),aK ((((c.put 0 a).put 2 b).dz v).1.nl 2) ((c.put 0 a).no 2 b)],_,[jX ((((c.put 0 a).put 2 b).dz v).1.nl 0) (((c.put 0 a).put 2 b).dz v).2],P,0⟩:aH)=_;rw[iN g,iN g1,OA hvv (Gr.refl _)]
 .match ns,h1 with
  |a::b::ns,h1=>
  have hz:∀p∈ns.zip vs,j5 p.2:=λp hp=>hv _ (G5 hp).2
  have hlen:ns.length=vs.length:=by simp only[dO] at h1;omega
  have g1:=Gr.sc (ns.zip vs) ((c.put 0 a).put 3 b);have g:=(B (c.put 0 a) 3 b).trans g1;refine lT.eT h ((B c 0 a).trans g) (((Nm.put c 0 a).trans (Nm.put _ 3 b)).trans (Nm.sc (ns.zip vs) _)) _ _ _ ?_;obtain⟨h6,h7⟩:=OB (ns.zip vs) hz (Gr.refl (((c.put 0 a).put 3 b).sc (ns.zip vs)).1);show(⟨4,[aK ((((c.put 0 a).put 3 b).sc (ns.zip vs)).1.nl 0) (c.no 0 a),aK ((((c.put 0 a).put 3 b).sc (ns.zip vs)).1.nl 3) ((c.put 0 a).no 3 b)]++(((c.put 0 a).put 3 b).sc (ns.zip vs)).2.map (λq=>aK ((((c.put 0 a).put 3 b).sc (ns.zip vs)).1.nl 2) q.obj),_,(((c.put 0 a).put 3 b).sc (ns.zip vs)).2.map (λq=>jX ((((c.put 0 a).put 3 b).sc (ns.zip vs)).1.nl 0) q.v),P,0⟩:aH)=_;rw[h6,h7,iN g,iN g1,D9 ah,List.map_snd_zip ah]
  rfl
 .obtain⟨a,rfl⟩:=zM h1
  refine lT.eT h (B c 0 a) (Nm.put c 0 a) _ _ _ ?_;show(⟨5,[aK ((c.put 0 a).nl 0) (c.no 0 a)],_,[],P,0⟩:aH)=_;rw[iN (Gr.refl _)]
 .obtain⟨a,rfl⟩:=zM h1
  refine lT.eT h (B c 0 a) (Nm.put c 0 a) _ _ _ ?_;show(⟨6,[aK ((c.put 0 a).nl 0) (c.no 0 a)],_,[],P,0⟩:aH)=_;rw[iN (Gr.refl _)]
 .match ns,h1 with
  |a::ns,h1=>
  have g1:=Gr.ts ns (c.put 2 a);have g:=(B c 2 a).trans g1;have n:=(Nm.put c 2 a).trans (Nm.ts ns (c.put 2 a));rw[iG ak,oI ak,iG ak,iG ak];obtain⟨y,hy⟩:∃y,y=((c.put 2 a).ts ns).1:=⟨_,rfl⟩;obtain⟨r,hr⟩:∃r,r=((c.put 2 a).ts ns).2:=⟨_,rfl⟩;have e0:aR c ⟨7,a::ns,0,[],P,0⟩={y with D:=c.D++[⟨c.no 2 a,C,0,0⟩],SD:=c.SD++[r]}:=by rw[hy,hr];rfl
  have h6:r.map (aK (y.nl 0))=ns:=by rw[hy,hr];exact Jd ns (Gr.refl _)
  have h7:aK (y.nl 2) (c.no 2 a)=a:=by rw[hy];exact iN g1
  rw[<-hy] at g n;have g2:Gr c {y with D:=c.D++[⟨c.no 2 a,C,0,0⟩],SD:=c.SD++[r]}:=⟨g.n,g.e,eG _ _,g.m,g.q⟩;rw[e0];refine⟨?_,?_,?_,?_⟩
  .exact(bU (List.map _) (congr (bU List.zip n.e) n.se)).trans ((G6 h g2).trans (dB _).symm)
  .show((c.D++[_]).zip (c.SD++[r])).map _=_
   rw[yK h.ld,eU,G7 h g2,vv];show _++[(⟨7,[aK (y.nl 2) (c.no 2 a)]++r.map (aK (y.nl 0)),0,[],P,0⟩:aH)]=_;rw[h6,h7];rfl
  .exact(bU (List.map _) (congr (bU List.zip n.m) n.sm)).trans ((G8 h g2).trans (dB _).symm)
  .exact(bU (List.map _) n.q).trans ((G9 h g2).trans (dB _).symm)
 .match ns,h1 with
  |a::b::ns,h1=>
  have g1:=Gr.ts ns ((c.put 3 a).put 2 b);have g3:=(B (c.put 3 a) 2 b).trans g1;have g:=(B c 3 a).trans g3;have n:=((Nm.put c 3 a).trans (Nm.put (c.put 3 a) 2 b)).trans (Nm.ts ns _);rw[iG ak,iG ak,oI ak,iG ak];obtain⟨y,hy⟩:∃y,y=(((c.put 3 a).put 2 b).ts ns).1:=⟨_,rfl⟩;obtain⟨r,hr⟩:∃r,r=(((c.put 3 a).put 2 b).ts ns).2:=⟨_,rfl⟩;have e0:aR c ⟨8,a::b::ns,0,[],fi,0⟩={y with M:=c.M++[⟨c.no 3 a,(c.put 3 a).no 2 b,fi,C,0,0⟩],SM:=c.SM++[r]}:=by rw[hy,hr];rfl
  have h6:r.map (aK (y.nl 0))=ns:=by rw[hy,hr];exact Jd ns (Gr.refl _)
  have h7:aK (y.nl 3) (c.no 3 a)=a:=by rw[hy];exact iN g3
  have h8:aK (y.nl 2) ((c.put 3 a).no 2 b)=b:=by rw[hy];exact iN g1
  rw[<-hy] at g n;have g2:Gr c {y with M:=c.M++[⟨c.no 3 a,(c.put 3 a).no 2 b,fi,C,0,0⟩],SM:=c.SM++[r]}:=⟨g.n,g.e,g.d,eG _ _,g.q⟩;rw[e0];refine⟨?_,?_,?_,?_⟩
  .exact(bU (List.map _) (congr (bU List.zip n.e) n.se)).trans ((G6 h g2).trans (dB _).symm)
  .exact(bU (List.map _) (congr (bU List.zip n.d) n.sd)).trans ((G7 h g2).trans (dB _).symm)
  .show((c.M++[_]).zip (c.SM++[r])).map _=_
   rw[yK h.lm,eU,G8 h g2,vv];show _++[(⟨8,[aK (y.nl 3) (c.no 3 a),aK (y.nl 2) ((c.put 3 a).no 2 b)]++r.map (aK (y.nl 0)),0,[],fi,0⟩:aH)]=_;rw[h6,h7,h8];rfl
  .exact(bU (List.map _) n.q).trans ((G9 h g2).trans (dB _).symm)
 .obtain⟨a,rfl⟩:=zM h1
  rw[iG ak,iG ak,iG ak,oI ak];have e0:aR c ⟨9,[a],0,[],P,(bb:Int)⟩={c.put 1 a with Q:=c.Q++[⟨c.no 1 a,(bb:Int)⟩]}:=rfl;have g:=B c 1 a;have g2:Gr c {c.put 1 a with Q:=c.Q++[⟨c.no 1 a,(bb:Int)⟩]}:=⟨g.n,g.e,g.d,g.m,eG _ _⟩;rw[e0];refine⟨?_,?_,?_,?_⟩
  .exact(G6 (c:=c) h g2).trans (dB _).symm
  .exact(G7 (c:=c) h g2).trans (dB _).symm
  .exact(G8 (c:=c) h g2).trans (dB _).symm
  .show(c.Q++[_]).map _=_
   rw[eU,G9 h g2,vv];show _++[(⟨9,[aK ((c.put 1 a).nl 1) (c.no 1 a)],0,[],P,(bb:Int)⟩:aH)]=_;rw[iN (Gr.refl _)]
theorem lT.trans {c y z:Cont}{e d m q e' d' m' q':L aH}(h:lT c y e d m q)(k:lT y z e' d' m' q'):lT c z (e++e') (d++d') (m++m') (q++q'):=
 ⟨by rw[k.e,h.e,dD],by rw[k.d,h.d,dD],by rw[k.m,h.m,dD],by rw[k.q,h.q,dD]⟩
theorem lT.refl (c:Cont):lT c c [] [] [] []:=⟨by rw[dB],by rw[dB],by rw[dB],by rw[dB]⟩
def Eg (ls:L aH):L aH:=ls.flatMap (jO 1 6)++ls.flatMap (jO 7 7)++ls.flatMap (jO 8 8)++ls.flatMap (jO 9 9)
theorem lT.all:∀(ls:L aH){c:Cont},gK c->(∀l∈ls,l.kind=0\/dW l)->aJ (dK c ls)->lT c (dK c ls) (ls.flatMap (jO 1 6)) (ls.flatMap (jO 7 7)) (ls.flatMap (jO 8 8)) (ls.flatMap (jO 9 9))
 |[],c,_,_,_=>lT.refl c
 |l::ls,c,h,hl,hf=>by
  have h2:=λx hx=>hl x (eD l hx)
  rw[gY,gY,gY,gY];rcases hl l fM with h0|h0
  .have e:dK c (l::ls)=dK c ls:=by show dK (aR c l) ls=_;rw[Ox h0]
   rw[e] at hf ⊢;rw[iG ah,iG ah,iG ah,iG ah];exact lT.all ls h h2 hf
  .have hs:=h.add h0 ((Gr.all ls _).fits hf)
   exact(lT.add h h0).trans (lT.all ls hs h2 hf)
theorem Mr {ls:L aH}(hl:∀l∈ls,l.kind=0\/dW l)(hf:aJ (dK eO ls)):eH (dK eO ls)=Eg ls:=by
 have h:=lT.all ls gK.zero hl hf;have e:eH (dK eO ls)=J9 (dK eO ls)++Ij (dK eO ls)++Ik (dK eO ls)++Il (dK eO ls):=rfl;rw[e,h.e,h.d,h.m,h.q]
 rfl
theorem Rx {ls:L aH}(hl:∀l∈ls,l.kind=0\/dW l)(hf:aJ (dK eO ls)):qR (dK eO (Eg ls)) (cO (dK eO ls)):=by
 rw[<-Mr hl hf];exact Rt (gK.zero.all ls hl hf) (kH.zero.all ls)
def Adds (f:Cont->Cont)(S:U->Bs->Prop):Prop:=∀c,(∀i x,x∈(f c).nl i↔x∈c.nl i\/S i x)/\((∀i,(c.nl i).Nodup)->∀i,((f c).nl i).Nodup)
theorem Adds.put (j:U)(s:Bs):Adds (λc=>c.put j s) (λi x=>i=j/\x=s):=λc=>by
 constructor
 .intro i x
  show x∈(if i=j then dL (c.nl j) s else c.nl i)↔_
  split
  .rename_i h
   subst h
   constructor
   .intro h
    unfold dL at h
    split at h
    .exact .inl h
    .rcases dm.1 h with h|h
     .exact .inl h
     .exact .inr ⟨rfl,bT.1 h⟩
   .rintro(h|⟨_,rfl⟩)
    .exact(Ji _ _).subset h
    .exact D8 _ _
  .rename_i h
   simp[h]
 .intro hn i
  show(if i=j then dL (c.nl j) s else c.nl i).Nodup
  split
  .exact Eh (hn j)
  .exact hn i
theorem Adds.id:Adds (λc=>c) (λ_ _=>False):=λc=>⟨λi x=>by simp,λh=>h⟩
theorem Adds.comp {f g:Cont->Cont}{S T:U->Bs->Prop}(h:Adds f S)(k:Adds g T):Adds (λc=>g (f c)) (λi x=>S i x\/T i x):=λc=>
 ⟨λi x=>by rw[((k (f c)).1 i x),((h c).1 i x),or_assoc],λhn=>(k (f c)).2 ((h c).2 hn)⟩
theorem Adds.eq {f g:Cont->Cont}{S:U->Bs->Prop}(h:Adds f S)(e:∀c i,(g c).nl i=(f c).nl i):Adds g S:=λc=>
 ⟨λi x=>by rw[e];exact(h c).1 i x,λhn i=>by rw[e];exact(h c).2 hn i⟩
theorem Adds.dz (v:To):∃S,Adds (λc=>(c.dz v).1) S:=by
 by_cases hk:v.k=0
 .exact⟨_,Adds.id.eq (λc i=>by unfold Cont.dz;rw[av hk])⟩
 .exact⟨_,(Adds.put 0 v.name).eq (λc i=>by unfold Cont.dz;rw[au hk])⟩
theorem Adds.ts:∀l:L Bs,∃S,Adds (λc=>(c.ts l).1) S
 |[]=>⟨_,Adds.id⟩
 |s::r=>by
  obtain⟨S,h⟩:=Adds.ts r;exact⟨_,(Adds.put 0 s).comp h⟩
theorem Adds.sc:∀l:L (Bs × To),∃S,Adds (λc=>(c.sc l).1) S
 |[]=>⟨_,Adds.id⟩
 |p::r=>by
  obtain⟨S,h⟩:=Adds.sc r;obtain⟨T,k⟩:=Adds.dz p.2;exact⟨_,((Adds.put 2 p.1).comp k).comp h⟩
theorem Adds.add (l:aH):∃S,Adds (λc=>aR c l) S:=by
 obtain⟨S1,k1⟩:=Adds.dz (l.aG.getD 0 ⟨[],0⟩);obtain⟨S2,k2⟩:=Adds.sc ((l.names.drop 2).zip l.aG);obtain⟨S3,k3⟩:=Adds.ts (l.names.drop 1);obtain⟨S4,k4⟩:=Adds.ts (l.names.drop 2);unfold aR;simp only[]
 split
 .exact⟨_,((Adds.put 0 _).comp (Adds.put 1 _)).eq (λc i=>rfl)⟩
 .split
  .exact⟨_,((Adds.put 0 _).comp (Adds.put 2 _)).eq (λc i=>rfl)⟩
  .split
   .exact⟨_,(((Adds.put 0 _).comp (Adds.put 2 _)).comp k1).eq (λc i=>rfl)⟩
   .split
    .exact⟨_,(((Adds.put 0 _).comp (Adds.put 3 _)).comp k2).eq (λc i=>rfl)⟩
    .split
     .exact⟨_,(Adds.put 0 _).eq (λc i=>rfl)⟩
     .split
      .exact⟨_,((Adds.put 2 _).comp k3).eq (λc i=>rfl)⟩
      .split
       .exact⟨_,(((Adds.put 3 _).comp (Adds.put 2 _)).comp k4).eq (λc i=>rfl)⟩
       .split
        .exact⟨_,(Adds.put 1 _).eq (λc i=>rfl)⟩
        .exact⟨_,Adds.id⟩
def Says (l:aH)(i:U)(x:Bs):Prop:=x∈(aR eO l).nl i
theorem Says.zero {l:aH}(h:l.kind=0)(i:U)(x:Bs):¬Says l i x:=λk=>by
 unfold Says at k;rw[Ox h] at k
 cases k
def FT (c:Cont):Prop:=∀e∈c.E,aV e.t (c.nl 0).length=N/\(e.kind=2->aV e.obj (c.nl 2).length=N)
def Bn (c:Cont)(e:EvC):Int × Bs × Bs:=(e.kind,aK (c.nl 0) e.t,if e.kind=2 then aK (c.nl 2) e.obj else [])
def Lr (l:aH):Int × Bs × Bs:=(l.kind,l.names.getD 0 [],if l.kind=2 then l.names.getD 1 [] else [])
def keys (c:Cont):L (Int × Bs × Bs):=c.E.map (Bn c)
theorem aez {c z:Cont}(g:Gr c z){e:EvC}(h:aV e.t (c.nl 0).length=N/\(e.kind=2->aV e.obj (c.nl 2).length=N)):Bn z e=Bn c e:=by
 unfold Bn;rw[kT (g.n 0) h.1];by_cases hk:e.kind=2
 .rw[av hk,av hk,kT (g.n 2) (h.2 hk)]
 .rw[au hk,au hk]
theorem FT.grow {c z:Cont}(h:FT c)(g:Gr c z)(n:z.E=c.E):FT z/\keys z=keys c:=by
 constructor
 .intro e he
  rw[n] at he;exact⟨dH (h e he).1 (g.len 0),λhk=>dH ((h e he).2 hk) (g.len 2)⟩
 .unfold keys
  rw[n];exact ni (λe he=>aez g (h e he))
theorem FT.eT {c y:Cont}(h:FT c)(g:Gr c y)(n:Nm c y)(e:EvC)(s:L Sn)(ht:aV e.t (y.nl 0).length=N)(ho:e.kind=2->aV e.obj (y.nl 2).length=N){k:Int × Bs × Bs}(hk:Bn y e=k):
  FT (y.ev e s)/\keys (y.ev e s)=keys c++[k]:=by
 obtain⟨h1,h2⟩:=h.grow g n.e
 constructor
 .intro x hx
  rcases dm.1 hx with hx|hx
  .exact h1 x hx
  .rw[bT.1 hx];exact⟨ht,ho⟩
 .show(y.E++[e]).map (Bn y)=_
  rw[eU,vv,hk];exact bU (·++[k]) h2
theorem FT.zero:FT eO:=λe he=>by cases he
theorem FT.add {c:Cont}(h:FT c)(l:aH):FT (aR c l)/\keys (aR c l)=keys c++(jO 1 6 l).map Lr:=by
 unfold aR;simp only[]
 split
 .rename_i hk
  rw[oI ah,vv];refine h.eT ((B c 0 _).trans (B _ 1 _)) ((Nm.put c 0 _).trans (Nm.put _ 1 _)) _ _ (dH (iA c 0 _) ((B _ 1 _).len 0)) (λk=>by cases k) ?_;unfold Bn Lr;rw[iN (B _ 1 _),hk];rfl
 .split
  .rename_i hk
   rw[oI ah,vv];refine h.eT ((B c 0 _).trans (B _ 2 _)) ((Nm.put c 0 _).trans (Nm.put _ 2 _)) _ _ (dH (iA c 0 _) ((B _ 2 _).len 0)) (λ_=>iA _ 2 _) ?_;unfold Bn Lr;rw[iN (B _ 2 _),iN (Gr.refl _),hk]
  .split
   .rename_i hk
    rw[oI ah,vv];have g:=(B (c.put 0 (l.names.getD 0 [])) 2 (l.names.getD 1 [])).trans (Gr.dz _ (l.aG.getD 0 ⟨[],0⟩));refine h.eT ((B c 0 _).trans g) (((Nm.put c 0 _).trans (Nm.put _ 2 _)).trans (Nm.dz _ _)) _ _ (dH (iA c 0 _) (g.len 0)) (λk=>by cases k) ?_;unfold Bn Lr;rw[iN g,hk];rfl
   .split
    .rename_i hk
     rw[oI ah,vv];have g:=(B (c.put 0 (l.names.getD 0 [])) 3 (l.names.getD 1 [])).trans (Gr.sc ((l.names.drop 2).zip l.aG) _);refine h.eT ((B c 0 _).trans g) (((Nm.put c 0 _).trans (Nm.put _ 3 _)).trans (Nm.sc _ _)) _ _ (dH (iA c 0 _) (g.len 0)) (λk=>by cases k) ?_;unfold Bn Lr;rw[iN g,hk];rfl
    .split
     .rename_i h2 _ _ hk
      rw[oI ah,vv];refine h.eT (B c 0 _) (Nm.put c 0 _) _ _ (iA c 0 _) (λk=>absurd k h2) ?_;unfold Bn Lr;rw[iN (Gr.refl _)];simp only[au h2]
     .split
      .rw[iG ah,mE,dB]
       have g:=(B c 2 (l.names.getD 0 [])).trans (Gr.ts (l.names.drop 1) _);exact h.grow ⟨g.n,g.e,eG _ _,g.m,g.q⟩ ((Nm.put c 2 _).trans (Nm.ts _ _)).e
      .split
       .rw[iG ah,mE,dB]
        have g:=((B c 3 (l.names.getD 0 [])).trans (B _ 2 (l.names.getD 1 []))).trans (Gr.ts (l.names.drop 2) _);exact h.grow ⟨g.n,g.e,g.d,eG _ _,g.q⟩ (((Nm.put c 3 _).trans (Nm.put _ 2 _)).trans (Nm.ts _ _)).e
       .split
        .rw[iG ah,mE,dB]
         have g:=B c 1 (l.names.getD 0 []);exact h.grow ⟨g.n,g.e,g.d,g.m,eG _ _⟩ rfl
        .rw[iG ah,mE,dB]
         exact⟨h,rfl⟩
theorem qR.symm {a b:Cont}(h:qR a b):qR b a:=⟨λi hi=>(h.n i hi).symm,h.E.symm,h.SE.symm,h.D.symm,h.SD.symm,h.M.symm,h.SM.symm,h.Q.symm⟩
theorem qR.trans {a b c:Cont}(h:qR a b)(k:qR b c):qR a c:=⟨λi hi=>(h.n i hi).trans (k.n i hi),h.E.trans k.E,h.SE.trans k.SE,h.D.trans k.D,h.SD.trans k.SD,h.M.trans k.M,h.SM.trans k.SM,h.Q.trans k.Q⟩
theorem lC {d:Cont}(h:l9 d){i:U}{n:Int}(hn:aV n (d.nl i).length=N):bF ⟨(aK (d.nl i) n).toArray⟩=N:=by
 simp only[aV,aO,aW] at hn;obtain⟨k,rfl⟩:∃k:U,n=(k:Int):=⟨n.toNat,by omega⟩;rw[qK _ ah];exact(h i).2 _ (List.getElem_mem _)
theorem Ms {d:Cont}(h:l9 d){v:lK}(hv:gI v (d.nl 0).length=N):j5 (jX (d.nl 0) v):=by
 unfold jX;by_cases hk:v.k=0
 .rw[av hk];exact .inl rfl
 .unfold gI at hv
  rw[au hk] at hv ⊢;simp only[aO,aW] at hv;exact .inr ⟨lC h hv.1.1,hv.1.2,hv.2⟩
theorem O0 {d:Cont}(h:l9 d){e:EvC}{l:L Sn}(he:gL (d.nl 0).length (d.nl 1).length (d.nl 2).length (d.nl 3).length e l=N):dW (iD d e l)/\(iD d e l).kind=e.kind/\1<=e.kind/\e.kind<=6:=by
 simp only[gL,aO,aW] at he;obtain⟨⟨⟨⟨hk1,hk7⟩,ht⟩,hh⟩,_⟩:=he;have w0:=lC h ht;unfold hasB at hh;unfold iD;by_cases h1:e.kind=1
 .rw[av h1] at hh ⊢
  simp only[aO,fP,aW] at hh;have w1:=lC h hh.1;refine⟨⟨λx hx=>?_,λt ht=>(by cases ht),.inl ⟨h1,rfl,rfl,⟨e.lvl.toNat,by simp only[];omega,by omega,by omega⟩,rfl,rfl⟩⟩,rfl,by omega,by omega⟩;simp only[dU,Hl,or_false] at hx;rcases hx with rfl|rfl
  .exact w0
  .exact w1
 .rw[au h1] at hh ⊢
  by_cases h2:e.kind=2
  .rw[av h2] at hh ⊢
   simp only[aO] at hh;have w1:=lC h hh.1.1.1;refine⟨⟨λx hx=>?_,λt ht=>(by cases ht),.inr (.inl ⟨h2,rfl,rfl,rfl,rfl,rfl⟩)⟩,rfl,by omega,by omega⟩;simp only[dU,Hl,or_false] at hx;rcases hx with rfl|rfl
   .exact w0
   .exact w1
  .rw[au h2] at hh ⊢
   by_cases h3:e.kind=3
   .rw[av h3] at hh ⊢
    simp only[aO] at hh;have w1:=lC h hh.1;refine⟨⟨λx hx=>?_,λt ht=>?_,.inr (.inr (.inl ⟨h3,rfl,rfl,rfl,rfl,rfl⟩))⟩,rfl,by omega,by omega⟩
    .simp only[dU,Hl,or_false] at hx
     rcases hx with rfl|rfl
     .exact w0
     .exact w1
    .rw[bT.1 ht];exact Ms h hh.2
   .rw[au h3] at hh ⊢
    by_cases h4:e.kind=4
    .rw[av h4] at hh ⊢
     simp only[aO,fA,aW] at hh;have hs:∀s∈l,aV s.obj (d.nl 2).length=N/\gI s.v (d.nl 0).length=N:=λs hs=>by
      have:=hh.2 s hs
      simpa only[jW,aO] using this
     have w1:=lC h hh.1.1;refine⟨⟨λx hx=>?_,λt ht=>?_,.inr (.inr (.inr (.inl ⟨h4,⟨l.length,by simp,by simp,hh.1.2⟩,H,rfl,rfl,rfl⟩)))⟩,rfl,by omega,by omega⟩
     .rcases dm.1 hx with hx|hx
      .simp only[dU,Hl,or_false] at hx
       rcases hx with rfl|rfl
       .exact w0
       .exact w1
      .obtain⟨s,hs1,rfl⟩:=dI.1 hx
       exact lC h (hs s hs1).1
     .obtain⟨s,hs1,rfl⟩:=dI.1 ht
      exact Ms h (hs s hs1).2
    .rw[au h4]
     have h56:e.kind=5\/e.kind=6:=by omega
     have hw:∀x∈[aK (d.nl 0) e.t],bF ⟨x.toArray⟩=N:=λx hx=>by rw[bT.1 hx];exact w0
     rcases h56 with h5|h5
     .exact⟨⟨hw,λt ht=>(by cases ht),.inr (.inr (.inr (.inr (.inl ⟨h5,rfl,rfl,rfl,rfl,rfl⟩))))⟩,rfl,by omega,by omega⟩
     .exact⟨⟨hw,λt ht=>(by cases ht),.inr (.inr (.inr (.inr (.inr (.inl ⟨h5,rfl,rfl,rfl,rfl,rfl⟩)))))⟩,rfl,by omega,by omega⟩
theorem Z9 {d:Cont}(h:l9 d){x:aM}{l:L Int}(ho:aV x.obj (d.nl 2).length=N)(hl:eZ (d.nl 0).length l=N):dW (nT d x l):=by
 simp only[eZ,aO,fA,aW] at hl;refine⟨λy hy=>?_,λt ht=>(by cases ht),.inr (.inr (.inr (.inr (.inr (.inr (.inl ⟨rfl,⟨l.length,by simp[nT],hl.1⟩,rfl,rfl,rfl,rfl⟩))))))⟩;rcases dm.1 (show y∈[aK (d.nl 2) x.obj]++l.map (aK (d.nl 0)) from hy) with hy|hy
 .rw[bT.1 hy];exact lC h ho
 .obtain⟨t,ht,rfl⟩:=dI.1 hy
  exact lC h (hl.2 t ht)
theorem aac {d:Cont}(h:l9 d){x:aN}{l:L Int}(hp:aV x.pred (d.nl 3).length=N)(ho:aV x.obj (d.nl 2).length=N)(hl:eZ (d.nl 0).length l=N):dW (nU d x l):=by
 simp only[eZ,aO,fA,aW] at hl;refine⟨λy hy=>?_,λt ht=>(by cases ht),.inr (.inr (.inr (.inr (.inr (.inr (.inr (.inl ⟨rfl,⟨l.length,by simp[nU],hl.1⟩,rfl,rfl,H,rfl⟩)))))))⟩;rcases dm.1 (show y∈[aK (d.nl 3) x.pred,aK (d.nl 2) x.obj]++l.map (aK (d.nl 0)) from hy) with hy|hy
 .simp only[dU,Hl,or_false] at hy
  rcases hy with rfl|rfl
  .exact lC h hp
  .exact lC h ho
 .obtain⟨t,ht,rfl⟩:=dI.1 hy
  exact lC h (hl.2 t ht)
theorem aeA {d:Cont}(h:l9 d){x:Wa}(hs:aV x.bW (d.nl 1).length=N)(h0:0<=x.bits)(h15:x.bits<=15):dW (sw d x):=by
 refine⟨λy hy=>?_,λt ht=>(by cases ht),.inr (.inr (.inr (.inr (.inr (.inr (.inr (.inr ⟨rfl,rfl,rfl,rfl,rfl,⟨x.bits.toNat,by show x.bits=_;omega,by omega⟩⟩)))))))⟩;rw[bT.1 (show y∈[aK (d.nl 1) x.bW] from hy)];exact lC h hs
theorem FU {d:Cont}(h:gK d):∀l∈eH d,dW l:=λl hl=>by
 unfold eH at hl;rcases dm.1 hl with hl|hl
 .rcases dm.1 hl with hl|hl
  .rcases dm.1 hl with hl|hl
   .obtain⟨p,hp,rfl⟩:=dI.1 hl
    exact(O0 h.nm (h.ev p hp)).1
   .obtain⟨p,hp,rfl⟩:=dI.1 hl
    exact Z9 h.nm (h.od p hp).1 (h.od p hp).2
  .obtain⟨p,hp,rfl⟩:=dI.1 hl
   exact aac h.nm (h.ma p hp).1 (h.ma p hp).2.1 (h.ma p hp).2.2
 .obtain⟨p,hp,rfl⟩:=dI.1 hl
  exact aeA h.nm (h.wa p hp).1 (h.wa p hp).2.1 (h.wa p hp).2.2
theorem Bo {a b:Int}:∀{ls:L aH},(∀l∈ls,a<=l.kind/\l.kind<=b)->ls.flatMap (jO a b)=ls
 |[],_=>rfl
 |l::ls,h=>by rw[gY,oI (h l fM),Bo (λx hx=>h x (eD _ hx))];rfl
theorem lD {a b:Int}:∀{ls:L aH},(∀l∈ls,¬(a<=l.kind/\l.kind<=b))->ls.flatMap (jO a b)=[]
 |[],_=>rfl
 |l::ls,h=>by rw[gY,iG (h l fM),lD (λx hx=>h x (eD _ hx))];rfl
theorem UB {d:Cont}(h:gK d):Eg (eH d)=eH d:=by
 have kE:∀l∈J9 d,1<=l.kind/\l.kind<=6:=λl hl=>by
  obtain⟨p,hp,rfl⟩:=dI.1 hl;have:=(O0 h.nm (h.ev p hp)).2;rw[this.1];exact this.2
 have kD:∀l∈Ij d,l.kind=7:=λl hl=>by obtain⟨p,hp,rfl⟩:=dI.1 hl;rfl
 have kM:∀l∈Ik d,l.kind=8:=λl hl=>by obtain⟨p,hp,rfl⟩:=dI.1 hl;rfl
 have kQ:∀l∈Il d,l.kind=9:=λl hl=>by obtain⟨p,hp,rfl⟩:=dI.1 hl;rfl
 have e:eH d=J9 d++Ij d++Ik d++Il d:=rfl;unfold Eg;rw[e];simp only[List.flatMap_append];rw[Bo kE,lD (a:=7) (ls:=J9 d) (λl hl=>by have:=kE l hl;omega),lD (a:=8) (ls:=J9 d) (λl hl=>by have:=kE l hl;omega),lD (a:=9) (ls:=J9 d) (λl hl=>by have:=kE l hl;omega),
  lD (a:=1) (ls:=Ij d) (λl hl=>by have:=kD l hl;omega),Bo (a:=7) (ls:=Ij d) (λl hl=>by have:=kD l hl;omega),lD (a:=8) (ls:=Ij d) (λl hl=>by have:=kD l hl;omega),lD (a:=9) (ls:=Ij d) (λl hl=>by have:=kD l hl;omega),
  lD (a:=1) (ls:=Ik d) (λl hl=>by have:=kM l hl;omega),lD (a:=7) (ls:=Ik d) (λl hl=>by have:=kM l hl;omega),Bo (a:=8) (ls:=Ik d) (λl hl=>by have:=kM l hl;omega),lD (a:=9) (ls:=Ik d) (λl hl=>by have:=kM l hl;omega),
  lD (a:=1) (ls:=Il d) (λl hl=>by have:=kQ l hl;omega),lD (a:=7) (ls:=Il d) (λl hl=>by have:=kQ l hl;omega),lD (a:=8) (ls:=Il d) (λl hl=>by have:=kQ l hl;omega),Bo (a:=9) (ls:=Il d) (λl hl=>by have:=kQ l hl;omega)]
 simp
theorem UC {d:Cont}(ho:D7 d)(hs:gK d)(hb:jD d)(hc:kH d)(hf:aJ d):aJ (dK eO (eH d))/\qR (cO (dK eO (eH d))) d:=by
 have hn:=λi=>(hs.nm i).1
 have hf2:=WM ho hn hs hb hc hf (eH d) [] (dB _).symm;have h:=Rx (λl hl=> .inr (FU hs l hl)) hf2;rw[UB hs] at h;exact⟨hf2,h.symm.trans (FE ho hn hs hb hc)⟩
def NP (c:Cont):Bool:=
 (List.range 4).all (λi=>decide ((c.nl i).length<=mD i)) && decide (c.E.length<=3000) && decide (c.D.length<=3000) && decide (c.M.length<=3000) && decide (c.Q.length<=3000) && c.E.all (λe=>decide (e.kind=2->e.v.k<=999))
theorem zN (c:Cont):NP c=N↔aJ c:=by
 unfold NP aJ;simp only[aO,aW,fA,xL,and_assoc]
def sU (c:Cont):U->L aH->Except (U × Int) Cont
 |_,[]=> .ok c
 |i,l::ls=>if iX l=N then(if NP (aR c l)=N then sU (aR c l) (i+1) ls else .error (i,6)) else .error (i,220)
theorem Lu:∀(ls:L aH)(c:Cont)(i:U)(z:Cont),sU c i ls= .ok z->z=dK c ls/\(∀l∈ls,iX l=N)/\(aJ c->aJ (dK c ls))
 |[],c,i,z,h=>by
  injection h with h;exact⟨h.symm,λl hl=>(by cases hl),λh=>h⟩
 |l::ls,c,i,z,h=>by
  unfold sU at h
  split at h
  .rename_i hl
   split at h
   .rename_i hf
    obtain⟨h1,h2,h3⟩:=Lu ls (aR c l) (i+1) z h;refine⟨h1,λx hx=>?_,λ_=>h3 ((zN _).1 hf)⟩;rcases dU.1 hx with rfl|hx
    .exact hl
    .exact h2 x hx
   .cases h
  .cases h
theorem SG:∀(ls:L aH)(c:Cont)(i:U),(∀l∈ls,iX l=N)->aJ (dK c ls)->sU c i ls= .ok (dK c ls)
 |[],_,_,_,_=>rfl
 |l::ls,c,i,hl,hf=>by
  unfold sU;rw[av (hl l fM),av ((zN _).2 ((Gr.all ls (aR c l)).fits hf))];exact SG ls (aR c l) (i+1) (λx hx=>hl x (eD _ hx)) hf
theorem Mt:aJ eO:=⟨λ_ _=>aZ _,aZ _,aZ _,aZ _,aZ _,λe he=>by cases he⟩
theorem SH:∀(ls:L aH)(c:Cont)(i j:U)(e:Int),sU c i ls= .error (j,e)->∃k l,j=i+k/\ls[k]?=u l/\(∀x∈ls.take k,iX x=N)/\((e=220/\iX l=P)\/(e=6/\iX l=N/\¬aJ (dK c (ls.take (k+1)))))
 |[],_,_,_,_,h=>by cases h
 |l::ls,c,i,j,e,h=>by
  unfold sU at h
  split at h
  .rename_i hl
   split at h
   .obtain⟨k,l',h1,h2,h3,h4⟩:=SH ls (aR c l) (i+1) j e h
    refine⟨k+1,l',by omega,by rw[List.getElem?_cons_succ];exact h2,λx hx=>?_,h4⟩;rw[List.take_succ_cons] at hx;rcases dU.1 hx with rfl|hx
    .exact hl
    .exact h3 x hx
   .rename_i hf
    injection h with h;injection h with h1 h2;exact⟨0,l,by omega,rfl,λx hx=>(by cases hx),.inr ⟨h2.symm,hl,λk=>hf ((zN _).2 k)⟩⟩
  .rename_i hl
   injection h with h;injection h with h1 h2;exact⟨0,l,by omega,rfl,λx hx=>(by cases hx),.inl ⟨h2.symm,Bool.eq_false_iff.2 hl⟩⟩
theorem Mw {ls:L aH}(h:∀l∈ls,iX l=N):∀l∈ls,l.kind=0\/dW l:=λl hl=>yN (h l hl)
theorem zO {ls:L aH}{z:Cont}(h:sU eO 0 ls= .ok z):gK z/\kH z/\jD z/\aJ z/\z=dK eO ls:=by
 obtain⟨rfl,h2,h3⟩:=Lu ls eO 0 z h;have hf:=h3 Mt;exact⟨gK.zero.all ls (Mw h2) hf,kH.zero.all ls,jD.zero.all ls,hf,rfl⟩
theorem aad {d:Cont}(ho:D7 d)(hs:gK d)(hb:jD d)(hc:kH d)(hf:aJ d)(hB:∀l∈eH d,iX l=N):∃z,sU eO 0 (eH d)= .ok z/\qR (cO z) d:=by
 obtain⟨h1,h2⟩:=UC ho hs hb hc hf;exact⟨_,SG _ _ _ hB h1,h2⟩
def rG (tn sn on pn:L Bs)(e:EvC)(scan:L Sn):aH:=
 if e.kind=1 then⟨e.kind,[nameOf tn e.t,nameOf sn e.bW],e.lvl,[],P,0⟩
 else if e.kind=2 then⟨e.kind,[nameOf tn e.t,nameOf on e.obj],0,[],P,0⟩
 else if e.kind=3 then⟨e.kind,[nameOf tn e.t,nameOf on e.obj],0,[nk tn e.v],P,0⟩
 else if e.kind=4 then⟨e.kind,[nameOf tn e.t,nameOf pn e.pred]++scan.map (λq=>nameOf on q.obj),0,scan.map (λq=>nk tn q.v),P,0⟩
 else⟨e.kind,[nameOf tn e.t],0,[],P,0⟩
def O1 (h:HC):Array MapEntry:=#[⟨F G 1,.func (.func 49) #[bG h] #[],0⟩,⟨F G 2,.func (.func 50) #[bG h] #[],1⟩,⟨F G 3,.func (.func 51) #[bG h] #[],2⟩,⟨F G 4,.func (.func 52) #[bG h] #[],3⟩]
theorem get_map {mp:U}{W:V}{es:Array MapEntry}{c:U}(hm:W.1[mp]?=u (.map es c)):(getObj mp).run I W= .ok (.map es c) W:=by
 simp[getObj,Sem.run,hm]
theorem Dt (k:Int)(b:Bool)(W:V):(Instr.checkKey b 10000 3 (F G k)).run I W= .ok () W:=ay
theorem FV (h:HC)(mp:U)(W:V)(hm:W.1[mp]?=u (.map (O1 h) 4)){k:Int}{v:Value}(hv:k=1/\v=(.tuple #[.func (.func 49) #[bG h] #[],.bool N])\/k=2/\v=(.tuple #[.func (.func 50) #[bG h] #[],.bool N])\/k=3/\v=(.tuple #[.func (.func 51) #[bG h] #[],.bool N])\/k=4/\v=(.tuple #[.func (.func 52) #[bG h] #[],.bool N])\/(k=5\/k=6)/\v=(.tuple #[.nilFunc,.bool P])):
  (Instr.lookup 127 (.map (u mp)) (F G k) N).run I W= .ok v W:=by
 have hg:=get_map hm;rcases hv with⟨rfl,rfl⟩|⟨rfl,rfl⟩|⟨rfl,rfl⟩|⟨rfl,rfl⟩|⟨rfl|rfl,rfl⟩ <;> simp[Instr.lookup,hg,O1,Dt,Instr.findKey,Instr.findNow,Instr.sameNow,Result.andThen]
theorem Row.aae {X:V}{g:U}(h:X.1.size=g)(n:Int):Row (X.alloc (.cells #[F G n] 3)) 1 aX (u ⟨g,0,C⟩) 1 1 [n]:=
 h▸(Own.new (hc:=iP) X X.1.size 3 #[F G n] [n] (aB _) rfl (by simp[maxLen])).row ak
@[reducible] def wE (k:Int)(a:Option Addr)(c:U):bE:=⟨k,a,1,c,0,C,0,0,P,0⟩
structure aaf (e:EvC)(w:V)(x:Bs)(b5:U)(a:Option Addr)(c:U)(Z:V):Prop where
 be:Bx Z w.1.size (aS e)
 br:Bx Z (w.1.size+1) #[F G 0,.slice C 0 0,F G 0,.slice C 0 0,.bool P,F G 0]
 c5:Bx Z b5 (bJ (wE e.kind a c))
 on:Own Z w.1.size 9 1 encStr (.slice a 1 c) [x]
 fn:∀g,(Value.slice a 1 c).ownBlock=u g->g≠w.1.size/\g≠w.1.size+1/\g≠b5
 le:w.1.size+2<=b5
 bw:Below w.1.size w Z
theorem agw (h:HC)(tn sn on pn:L Bs)(e:EvC)(scan:L Sn)(b1 b2 mp:U)(w:V)(hH:Bx w b1 (aD h))(hM:Bx w b2 #[.map (u mp)])(hmp:w.1[mp]?=u (.map (O1 h) 4))
  (hrt:Row w 1 encStr h.t.a h.t.n h.t.c tn) (hrs:Row w 1 encStr h.s.a h.s.n h.s.c sn) (hro:Row w 1 encStr h.o.a h.o.n h.o.c on) (um:Row w 1 encStr h.p.a h.p.n h.p.c pn) (hrc:Row w 3 dV e.sa e.sn e.sc scan)
  (he:gL h.t.n h.s.n h.o.n h.p.n e scan=N):
  Calls I 53 #[fZ e,A (u ⟨b1,0,C⟩),A (u ⟨b2,0,C⟩)] w (wC (rG tn sn on pn e scan) w):=by
 have het:aV e.t h.t.n=N:=by simp only[gL,aO] at he;exact he.1.1.2
 obtain⟨x,hx⟩:∃x,x=nameOf tn e.t:=⟨_,rfl⟩;have Du:Below w.1.size w ((w.alloc (.cells (aS e) 50)).alloc (.cells #[F G 0,.slice C 0 0,F G 0,.slice C 0 0,.bool P,F G 0] 66)):=aA (aA (Below.refl _ _) _) _;have hlm:=(dh.1 hmp).1;have uI:=O Du;have HH:=O (hH.keep Du);have HM:=O hM;have HMP:=O hmp;have Dv:=O hrt;have xq:=O hrs;have Xj:=O hro;have HRP:=O um;have Kb:=O hrc;have HE:=O he;have HET:=O het;have HX:=O hx;have htl:∀t∈[e.t],aV t h.t.n=N:=λt ht=>by
  obtain rfl:t=e.t:=by simpa using ht
  exact het
 have FW:Hid (∀(W':V)(g:U),Below w.1.size w W'->Row W' 1 aX (u ⟨g,0,C⟩) 1 1 [e.t]->Calls I 54 #[bG h,.slice (u ⟨g,0,C⟩) 1 1,.slice C 0 0] W' (O3 W' [x])):=O (λW' g hb hg=>by
  have h1:=O4 h tn (u ⟨g,0,C⟩) 1 1 [e.t] C 0 [] W' W' (Below.refl _ _) hg (Dv.q.below hb rfl) htl (Own.jY _ _ _ _ _) ak;rw[HX.q];exact h1)
 clear Du hH hM hmp hrt hrs hro um hrc he het hx htl;go_enter func53,ntmps53;go_wp2_with fail;refine wp_mono (Q:=λee a Z=>ee= .normal/\∃v8 v9 v10 v11 v12 v13 v14 v15 b5 na nc,aaf e w x b5 na nc Z/\a={tmps:=#[fZ e,A (u ⟨b1,0,C⟩),A (u ⟨b2,0,C⟩),A (u ⟨w.1.size,0,C⟩),A (u ⟨w.1.size+1,0,C⟩),A (u ⟨b5,0,C⟩),undef,undef,v8,v9,v10,v11,v12,v13,v14,v15,undef,undef,undef,undef,undef,undef,undef,undef,undef,undef,undef,undef,undef],defers:=[]}) ?reg ?rest
 case reg=>
  refine vg 9 (.q 0 0 (.q 1 0 (.q 2 0 (.q 3 0 (.q 4 0 (.alt 5 (.alt 6 (.q 7 0 (.l 8 (.l 9 .nil))) 8 (.l 6 (.q 7 0 (.l 9 .nil)))) 8 (.l 5 (.l 6 (.q 7 0 (.l 9 .nil)))))))))) (λ_=>True) (λW'=>Bx W' b1 (aD h)/\Bx W' w.1.size (aS e)) ay ay H ⟨HH.q.drew,((R rfl).alloc _).drew⟩ ?_;refine qC ?_;refine⟨?_,?_⟩
  .refine iq rfl rfl (λK hK=>?_)
   go_simp;refine hK _ _ ⟨H,(HH.q.alloc _).drew,(((R rfl).alloc _).alloc _).drew⟩ ?_;clear hK K;refine⟨?_,?_⟩
   .refine iq rfl rfl (λK hK=>?_)
    go_simp;refine(FW.q _ _ (aA uI.q _).drew (Row.drew (Row.aae ak e.t))).mono ?_;rintro en w2 ⟨na,nc,rfl,hown,hb2⟩;have HOW:=O hown;have HB2:=O hb2;refine hK _ _ ⟨H,(HH.q.alloc _).drew.keep hb2,(((R rfl).alloc _).alloc _).drew.keep hb2⟩ ?_;clear hK K hown hb2;refine qC ?_;refine aF rfl rfl (λK hK=>?_);go_simp;refine hK _ _ ⟨H,((HH.q.alloc _).drew.keep HB2.q).alloc _,((((R rfl).alloc _).alloc _).drew.keep HB2.q).alloc _⟩ ?_;clear hK K;refine bC rfl rfl rfl (λK hK=>?_);go_simp;refine hK _ _ H ?_;clear hK K;refine aP ?_;have hlo:w.1.size+3<=w2.1.size:=by have:=HB2.q.size;simp at this;omega
    exact⟨rfl,_,_,_,_,_,_,_,_,_,na,nc,⟨((((R rfl).alloc _).alloc _).drew.keep HB2.q).alloc _,(((R ak).alloc _).drew.keep HB2.q).alloc _,R rfl,(HOW.q.alloc _).mono (by simp;omega),λg hg=>by have h1:=HOW.q.lt g hg;simp at h1;omega,by omega,aA ((aA uI.q _).drew.trans (HB2.q.mono ((aA uI.q _).drew.size))) _⟩,rfl⟩
   .refine iq rfl rfl (λK hK=>?_)
    go_simp;refine hK _ _ ⟨H,((HH.q.alloc _).alloc _).drew,((((R rfl).alloc _).alloc _).alloc _).drew⟩ ?_;clear hK K;refine aF rfl rfl (λK hK=>?_);go_simp;refine(FW.q _ _ (aA (aA uI.q _) _).drew (Row.drew ((Row.aae ak e.t).below (aA (Below.refl _ _) _) rfl))).mono ?_;rintro en w2 ⟨na,nc,rfl,hown,hb2⟩;have HOW:=O hown;have HB2:=O hb2;refine hK _ _ ⟨H,((HH.q.alloc _).alloc _).drew.keep hb2,((((R rfl).alloc _).alloc _).alloc _).drew.keep hb2⟩ ?_;clear hK K hown hb2;refine qC ?_;have hb5:Bx w2 (w.1.size+3) (bJ ⟨0,C,0,0,0,C,0,0,P,0⟩):=(R ak).drew.keep HB2.q;have hcb:=hb5.1;have hfb:=hb5.2.1;have hlb:=hb5.2.2;refine bC rfl rfl rfl (λK hK=>?_);go_simp;refine hK _ _ H ?_;clear hK K;refine aP ?_;have hbe:=HB2.q;have hlo:w.1.size+4<=w2.1.size:=by have:=HB2.q.size;simp at this;omega
    have FIN:∀Z,Same (λi=>i≠w.1.size+3) w2 Z->Bx Z (w.1.size+3) (bJ (wE e.kind na nc))->aaf e w x (w.1.size+3) na nc Z:=λZ hs h5=>
     ⟨hs.bx (((((R rfl).alloc _).alloc _).alloc _).drew.keep HB2.q) ak,hs.bx ((((R ak).alloc _).alloc _).drew.keep HB2.q) ak,h5,(HOW.q.same hs (λg hg=>by have h1:=(HOW.q.lt g hg).1;simp at h1 ⊢;omega)).mono (by simp;omega),
      λg hg=>by have h1:=(HOW.q.lt g hg).1;simp at h1;omega,by omega,hs.below ((aA (aA uI.q _) _).drew.trans (HB2.q.mono ((aA (aA uI.q _) _).drew.size))) (λi hi=>by simp;omega) ah⟩
    exact⟨rfl,_,_,_,_,_,_,_,_,_,na,nc,FIN _ (by repeat(first|(refine Same.setTail ?_ ak)|(with_reducible exact Same.refl' _))) (Bx.aag (l':=wE e.kind na nc) hb5),rfl⟩
  .refine iq rfl rfl (λK hK=>?_)
   go_simp;refine hK _ _ ⟨H,(HH.q.alloc _).drew,(((R rfl).alloc _).alloc _).drew⟩ ?_;clear hK K;refine aF rfl rfl (λK hK=>?_);go_simp;refine hK _ _ ⟨H,((HH.q.alloc _).alloc _).drew,((((R rfl).alloc _).alloc _).alloc _).drew⟩ ?_;clear hK K;refine aF rfl rfl (λK hK=>?_);go_simp;refine(FW.q _ _ (aA (aA uI.q _) _).drew (Row.drew (Row.aae ak e.t))).mono ?_;rintro en w2 ⟨na,nc,rfl,hown,hb2⟩;have HOW:=O hown;have HB2:=O hb2;refine hK _ _ ⟨H,((HH.q.alloc _).alloc _).drew.keep hb2,((((R rfl).alloc _).alloc _).alloc _).drew.keep hb2⟩ ?_;clear hK K hown hb2;refine qC ?_;have hb5:Bx w2 (w.1.size+2) (bJ ⟨0,C,0,0,0,C,0,0,P,0⟩):=((R ak).alloc _).drew.keep HB2.q;have hcb:=hb5.1;have hfb:=hb5.2.1;have hlb:=hb5.2.2;refine bC rfl rfl rfl (λK hK=>?_);go_simp;refine hK _ _ H ?_;clear hK K;refine aP ?_;have hbe:=HB2.q;have hlo:w.1.size+4<=w2.1.size:=by have:=HB2.q.size;simp at this;omega
   have FIN:∀Z,Same (λi=>i≠w.1.size+2) w2 Z->Bx Z (w.1.size+2) (bJ (wE e.kind na nc))->aaf e w x (w.1.size+2) na nc Z:=λZ hs h5=>
    ⟨hs.bx (((((R rfl).alloc _).alloc _).alloc _).drew.keep HB2.q) ak,hs.bx ((((R ak).alloc _).alloc _).drew.keep HB2.q) ak,h5,(HOW.q.same hs (λg hg=>by have h1:=(HOW.q.lt g hg).1;simp at h1 ⊢;omega)).mono (by simp;omega),
     λg hg=>by have h1:=(HOW.q.lt g hg).1;simp at h1;omega,by omega,hs.below ((aA (aA uI.q _) _).drew.trans (HB2.q.mono ((aA (aA uI.q _) _).drew.size))) (λi hi=>by simp;omega) ah⟩
   exact⟨rfl,_,_,_,_,_,_,_,_,_,na,nc,FIN _ (by repeat(first|(refine Same.setTail ?_ ak)|(with_reducible exact Same.refl' _))) (Bx.aag (l':=wE e.kind na nc) hb5),rfl⟩
 case rest=>
  rintro ee a Z ⟨rfl,v8,v9,v10,v11,v12,v13,v14,v15,b5,na,nc,hev,rfl⟩;have hmz:Z.1[mp]?=u (.map (O1 h) 4):=(hev.bw.block mp hlm).trans HMP.q;have hbe:=hev.be.1;have hm2:=(HM.q.keep hev.bw).1;have hb5:=hev.c5.1;have hf5:=hev.c5.2.1;have hl5:=hev.c5.2.2;have hbr:=hev.br.1;have hfr:=hev.br.2.1;have hlr:=hev.br.2.2;have vJ:=O hev;have Xk:=O hmz;clear hev hmz;have hkk:(e.kind=1\/e.kind=2\/e.kind=3\/e.kind=4)\/(e.kind=5\/e.kind=6):=by
   have:=HE.q;simp only[gL,aO,aW] at this;omega
  have hne5:w.1.size+1≠b5:=by have:=vJ.q.le;omega
  obtain⟨ek,et,es,el,eo,ev,ep,rP,pO,esc⟩:=e;simp only at hkk HX HE Kb;have oU:=O (show gD Z w.1.size (wE ek na nc) ⟨ek,[x],0,[],P,0⟩ from⟨⟨rfl,rfl,rfl,rfl,rfl,rfl⟩,vJ.q.on,Own.jY _ _ _ _ _⟩);generalize hes:rG tn sn on pn ⟨ek,et,es,el,eo,ev,ep,rP,pO,esc⟩ scan=sE;rcases hkk with hkk|hkk
  .rcases hkk with rfl|rfl|rfl|rfl
   case' inl=>
    have hlk:=FV h mp Z Xk.q (.inl ⟨rfl,rfl⟩);have hh:hasB h.t.n h.s.n h.o.n h.p.n ⟨1,et,es,el,eo,ev,ep,rP,pO,esc⟩ scan=N:=by have:=HE.q;simp only[gL,aO] at this;exact this.1.2
    simp only[hasB,aO,bY] at hh;have HC:=O (O5 h sn (wE 1 na nc) _ ⟨1,et,es,el,eo,ev,ep,rP,pO,esc⟩ w Z vJ.q.bw xq.q hh.1 oU.q ak);clear hh;have HS:Hid (sE=⟨1,[x]++[nameOf sn es],el,[],P,0⟩):=O (by rw[<-hes];simp[rG,HX.q])
   case' inr.inl=>
    have hlk:=FV h mp Z Xk.q (.inr (.inl ⟨rfl,rfl⟩));have hh:hasB h.t.n h.s.n h.o.n h.p.n ⟨2,et,es,el,eo,ev,ep,rP,pO,esc⟩ scan=N:=by have:=HE.q;simp only[gL,aO] at this;exact this.1.2
    simp only[hasB,aO,aW,bY,show((2:Int)=1)=False from by decide,reduceIte] at hh;have HC:=O (FX h on (wE 2 na nc) _ ⟨2,et,es,el,eo,ev,ep,rP,pO,esc⟩ w Z vJ.q.bw Xj.q hh.1.1.1 oU.q ak);clear hh;have HS:Hid (sE=⟨2,[x]++[nameOf on eo],0,[],P,0⟩):=O (by rw[<-hes];simp[rG,HX.q])
   case' inr.inr.inl=>
    have hlk:=FV h mp Z Xk.q (.inr (.inr (.inl ⟨rfl,rfl⟩)));have hh:hasB h.t.n h.s.n h.o.n h.p.n ⟨3,et,es,el,eo,ev,ep,rP,pO,esc⟩ scan=N:=by have:=HE.q;simp only[gL,aO] at this;exact this.1.2
    simp only[hasB,aO,bY,show((3:Int)=1)=False from by decide,show((3:Int)=2)=False from by decide,reduceIte] at hh;have HC:=O (Ry h on tn (wE 3 na nc) _ ⟨3,et,es,el,eo,ev,ep,rP,pO,esc⟩ w Z vJ.q.bw Xj.q Dv.q hh.1 hh.2 oU.q ak ak);clear hh;have HS:Hid (sE=⟨3,[x]++[nameOf on eo],0,[]++[nk tn ev],P,0⟩):=O (by rw[<-hes];simp[rG,HX.q])
   case' inr.inr.inr=>
    have hlk:=FV h mp Z Xk.q (.inr (.inr (.inr (.inl ⟨rfl,rfl⟩))));have hh:hasB h.t.n h.s.n h.o.n h.p.n ⟨4,et,es,el,eo,ev,ep,rP,pO,esc⟩ scan=N:=by have:=HE.q;simp only[gL,aO] at this;exact this.1.2
    simp only[hasB,aO,fA,aW,bY,show((4:Int)=1)=False from by decide,show((4:Int)=2)=False from by decide,show((4:Int)=3)=False from by decide,reduceIte] at hh;have hsn:pO<=40:=by have:=Kb.q.len;have:=hh.1.2;simp only at*;omega
    have HC:=O (Rz h pn on tn (wE 4 na nc) _ ⟨4,et,es,el,eo,ev,ep,rP,pO,esc⟩ scan w Z vJ.q.bw HRP.q Xj.q Dv.q hh.1.1 Kb.q hh.2 oU.q ak ak hsn);clear hh hsn;have HS:Hid (sE=⟨4,[x]++[nameOf pn ep]++scan.map (λq=>nameOf on q.obj),0,[]++scan.map (λq=>nk tn q.v),P,0⟩):=O (by rw[<-hes];simp[rG,HX.q])
   all_goals
    go_wp2_with fail;clear hb5 hf5 hl5 hbr hfr hlr;refine HC.q.mono ?_;rintro en w2 ⟨l2,rfl,hl2,hb2,hk2,hg2⟩;have h5:=vJ.q.c5.of_eq hk2.size (hk2.block b5 vJ.q.c5.2.2 (λe=>(vJ.q.fn _ e.symm).2.2 rfl) (λe=>by cases e));have hr:=vJ.q.br.of_eq hk2.size (hk2.block _ vJ.q.br.2.2 (λe=>(vJ.q.fn _ e.symm).2.1 rfl) (λe=>by cases e));have hA:∀g,(Value.slice l2.na l2.nn l2.nc).ownBlock=u g->g≠w.1.size+1/\g≠b5:=λg hg=>by
     rcases hg2.1 g hg with h1|h1
     .exact⟨(vJ.q.fn g h1).2.1,(vJ.q.fn g h1).2.2⟩
     .have:=vJ.q.c5.2.2;have:=vJ.q.br.2.2;constructor <;> omega
    have hB:∀g,(Value.slice l2.va l2.vn l2.vc).ownBlock=u g->g≠w.1.size+1/\g≠b5:=λg hg=>by
     rcases hg2.2 g hg with h1|h1
     .cases h1
     .have:=vJ.q.c5.2.2;have:=vJ.q.br.2.2;constructor <;> omega
    have FIN:Hid (∀W',Same (λi=>i≠w.1.size+1/\i≠b5) w2 W'->wC sE w (.returned (dY l2)) W'):=O (λW' hs=>by
     rw[HS.q];exact⟨l2,rfl,⟨hl2.1,hl2.2.1.same hs hA,hl2.2.2.same hs hB⟩,hs.below hb2 (λi hi=>by have:=vJ.q.le;constructor <;> omega) hb2.size⟩)
    have BV:=h5.1;have hf5:=h5.2.1;have hl5:=h5.2.2;have hcr:=hr.1;have hfr:=hr.2.1;have hlr:=hr.2.2;have aro:b5≠w.1.size+1:=Ne.symm hne5;clear hl2 hb2 hk2 hg2 h5 hr hA hB;go_wp2_with fail;subst hes;refine bodyPost_ret (v:=dY l2) (by simp[results,results53,go_sem,hcr]) rfl (FIN.q _ ?_)
    repeat(first|(refine Same.setTail ?_ ak)|(with_reducible exact Same.refl' _))
  .have FI:∀k,sE=⟨k,[x],0,[],P,0⟩->ek=k->∀W',Same (λi=>i≠w.1.size+1) Z W'->wC sE w (.returned (dY (wE k na nc))) W':=λk h1 h2 W' hs=>by
    subst h2;rw[h1];exact⟨wE ek na nc,rfl,⟨oU.q.1,oU.q.2.1.same hs (λg hg=>(vJ.q.fn g hg).2.1),Own.jY _ _ _ _ _⟩,hs.below vJ.q.bw (λi hi=>by simp;omega) vJ.q.bw.size⟩
   have hlk:=FV h mp Z Xk.q (.inr (.inr (.inr (.inr ⟨hkk,rfl⟩))));rcases hkk with rfl|rfl
   all_goals
    have FIN:=O (FI _ (by rw[<-hes];simp[rG,HX.q]) rfl);clear FI;go_wp2_with fail;subst hes;refine bodyPost_ret (by simp[results,results53,go_sem,hbr]) rfl (FIN.q _ ?_)
    repeat(first|(refine Same.setTail ?_ ak)|(with_reducible exact Same.refl' _))
theorem Ho {X:V}{mp:U}{es:Array MapEntry}{c:U}{o':Obj}(h:X.1.size=mp):(setObj mp o').run I (X.alloc (.map es c))= .ok () (X.alloc o'):=by
 subst h;have h1:(X.alloc (.map es c)).putObj X.1.size o'=X.alloc o':=by
  unfold World.putObj World.alloc
  congr 1
  apply Array.ext'
  simp
 have hh:(X.alloc (.map es c)).1[X.1.size]?=u (.map es c):=qB rfl;have h2:(setObj X.1.size o').run I (X.alloc (.map es c))= .ok () ((X.alloc (.map es c)).putObj X.1.size o'):=by
  simp only[setObj,Sem.run,World.putObj,hh]
 rw[h2,h1]
theorem Bx.zl {W:V}{b:U}{cs:Array Value}{T:TypeId}(h:W.1[b]?=u (.cells cs T (0,0))):Bx W b cs:=by
 refine⟨λi=>?_,λi=>?_,(dh.1 h).1⟩
 .unfold World.cell?;simp[h]
 .unfold World.frozen?;simp[h]
structure rH (h:HC)(b:U)(W:V):Prop where
 o0:W.1[b]?=u (.cells (aD h) 62 (0,0))
 o1:W.1[b+1]?=u (.map (O1 h) 4)
 o2:W.1[b+2]?=u (.cells #[.map (u (b+1))] 127 (0,0))
 o3:W.1[b+3]?=u (.cells #[.func (.func 53) #[] #[A (u ⟨b,0,C⟩),A (u ⟨b+2,0,C⟩)]] 130 (0,0))
 o4:W.1[b+4]?=u (.cells #[.func (.func 55) #[] #[A (u ⟨b,0,C⟩)]] 131 (0,0))
 o5:W.1[b+5]?=u (.cells #[.func (.func 56) #[] #[A (u ⟨b,0,C⟩)]] 132 (0,0))
 o6:W.1[b+6]?=u (.cells #[.func (.func 57) #[] #[A (u ⟨b,0,C⟩)]] 133 (0,0))
theorem rH.keep {h:HC}{b:U}{X Y:V}(s:rH h b X)(hb:∀i,b<=i->i<b+7->Y.1[i]?=X.1[i]?):rH h b Y:=
 ⟨(hb _ ah ah).trans s.o0,(hb _ ah ah).trans s.o1,(hb _ ah ah).trans s.o2,(hb _ ah ah).trans s.o3,(hb _ ah ah).trans s.o4,(hb _ ah ah).trans s.o5,(hb _ ah ah).trans s.o6⟩
theorem rH.lt {h:HC}{b:U}{X:V}(s:rH h b X):b+7<=X.1.size:=by have:=(dh.1 s.o6).1;omega
theorem akn (h:HC)(X:V)(mp:U)(hm:X.1.size=mp):(Instr.mapUpdate 127 (.map (u mp)) (F G 1) (.func (.func 49) #[bG h] #[])).run I (X.alloc (.map #[] 0))= .ok () (X.alloc (.map #[⟨F G 1,.func (.func 49) #[bG h] #[],0⟩] 1)):=by
 have hg:=get_map (qB (o:= .map #[] 0) hm);have hs:=λo'=>Ho (es:=#[]) (c:=0) (o':=o') hm
 simp[Instr.mapUpdate,hg,hs,Dt,Instr.findKey,Instr.findNow,Result.andThen]
theorem ako (h:HC)(X:V)(mp:U)(hm:X.1.size=mp):(Instr.mapUpdate 127 (.map (u mp)) (F G 2) (.func (.func 50) #[bG h] #[])).run I (X.alloc (.map #[⟨F G 1,.func (.func 49) #[bG h] #[],0⟩] 1))= .ok () (X.alloc (.map #[⟨F G 1,.func (.func 49) #[bG h] #[],0⟩,⟨F G 2,.func (.func 50) #[bG h] #[],1⟩] 2)):=by
 have hg:=get_map (qB (o:= .map #[⟨F G 1,.func (.func 49) #[bG h] #[],0⟩] 1) hm);have hs:=λo'=>Ho (es:=#[⟨F G 1,.func (.func 49) #[bG h] #[],0⟩]) (c:=1) (o':=o') hm
 simp[Instr.mapUpdate,hg,hs,Dt,Instr.findKey,Instr.findNow,Instr.sameNow,Result.andThen]
theorem akp (h:HC)(X:V)(mp:U)(hm:X.1.size=mp):(Instr.mapUpdate 127 (.map (u mp)) (F G 3) (.func (.func 51) #[bG h] #[])).run I (X.alloc (.map #[⟨F G 1,.func (.func 49) #[bG h] #[],0⟩,⟨F G 2,.func (.func 50) #[bG h] #[],1⟩] 2))= .ok () (X.alloc (.map #[⟨F G 1,.func (.func 49) #[bG h] #[],0⟩,⟨F G 2,.func (.func 50) #[bG h] #[],1⟩,⟨F G 3,.func (.func 51) #[bG h] #[],2⟩] 3)):=by
 have hg:=get_map (qB (o:= .map #[⟨F G 1,.func (.func 49) #[bG h] #[],0⟩,⟨F G 2,.func (.func 50) #[bG h] #[],1⟩] 2) hm);have hs:=λo'=>Ho (es:=#[⟨F G 1,.func (.func 49) #[bG h] #[],0⟩,⟨F G 2,.func (.func 50) #[bG h] #[],1⟩]) (c:=2) (o':=o') hm
 simp[Instr.mapUpdate,hg,hs,Dt,Instr.findKey,Instr.findNow,Instr.sameNow,Result.andThen]
theorem akq (h:HC)(X:V)(mp:U)(hm:X.1.size=mp):(Instr.mapUpdate 127 (.map (u mp)) (F G 4) (.func (.func 52) #[bG h] #[])).run I (X.alloc (.map #[⟨F G 1,.func (.func 49) #[bG h] #[],0⟩,⟨F G 2,.func (.func 50) #[bG h] #[],1⟩,⟨F G 3,.func (.func 51) #[bG h] #[],2⟩] 3))= .ok () (X.alloc (.map #[⟨F G 1,.func (.func 49) #[bG h] #[],0⟩,⟨F G 2,.func (.func 50) #[bG h] #[],1⟩,⟨F G 3,.func (.func 51) #[bG h] #[],2⟩,⟨F G 4,.func (.func 52) #[bG h] #[],3⟩] 4)):=by
 have hg:=get_map (qB (o:= .map #[⟨F G 1,.func (.func 49) #[bG h] #[],0⟩,⟨F G 2,.func (.func 50) #[bG h] #[],1⟩,⟨F G 3,.func (.func 51) #[bG h] #[],2⟩] 3) hm);have hs:=λo'=>Ho (es:=#[⟨F G 1,.func (.func 49) #[bG h] #[],0⟩,⟨F G 2,.func (.func 50) #[bG h] #[],1⟩,⟨F G 3,.func (.func 51) #[bG h] #[],2⟩]) (c:=3) (o':=o') hm
 simp[Instr.mapUpdate,hg,hs,Dt,Instr.findKey,Instr.findNow,Instr.sameNow,Result.andThen]
theorem O6 (h:HC)(w:V):Calls I 17 #[bG h] w λe W=>
  e= .returned (.func (.func 58) #[] #[A (u ⟨w.1.size,0,C⟩),A (u ⟨w.1.size+3,0,C⟩),A (u ⟨w.1.size+4,0,C⟩),A (u ⟨w.1.size+5,0,C⟩),A (u ⟨w.1.size+6,0,C⟩)])/\
  W.1.size=w.1.size+7/\Below w.1.size w W/\rH h w.1.size W:=by
 have hmm:= @run_makeMap I;have h1:=akn h (w.alloc (.cells (aD h) 62)) (w.1.size+1) ak;have h2:=ako h (w.alloc (.cells (aD h) 62)) (w.1.size+1) ak;have h3:=akp h (w.alloc (.cells (aD h) 62)) (w.1.size+1) ak;have h4:=akq h (w.alloc (.cells (aD h) 62)) (w.1.size+1) ak;go_enter Tryz.func17,Tryz.ntmps17;go_wp2_with fail;go_ret;refine⟨rfl,by simp,aA (aA (aA (aA (aA (aA (aA (Below.refl _ _) _) _) _) _) _) _) _,?_⟩;exact⟨jF _ (jF _ (jF _ (jF _ (jF _ (jF _ (qB rfl)))))),jF _ (jF _ (jF _ (jF _ (jF _ (qB ak))))),jF _ (jF _ (jF _ (jF _ (qB ak)))),
  jF _ (jF _ (jF _ (qB ak))),jF _ (jF _ (qB ak)),jF _ (qB ak),qB ak⟩
def fV (nl:U->L Bs)(es:L EvC)(ds:L aM)(ms:L aN)(qs:L Wa)(scan:EvC->L Sn)(dn:aM->L Int)(mn:aN->L Int):L aH:=
 es.map (λe=>rG (nl 0) (nl 1) (nl 2) (nl 3) e (scan e))++ds.map (λx=>x9 (nl 2) (nl 0) x (dn x))++ms.map (λx=>yc (nl 3) (nl 2) (nl 0) x (mn x))++qs.map (AB (nl 1))
theorem aeB:∀args w,(callFunc 53 args).run I w= .ok (.enter 53 args) w:=enters_of func53 ay rfl
theorem aeC:∀args w,(callFunc 55 args).run I w= .ok (.enter 55 args) w:=enters_of func55 ay rfl
theorem aeD:∀args w,(callFunc 56 args).run I w= .ok (.enter 56 args) w:=enters_of func56 ay rfl
theorem aeE:∀args w,(callFunc 57 args).run I w= .ok (.enter 57 args) w:=enters_of func57 ay rfl
theorem SI:∀args w,(callFunc 58 args).run I w= .ok (.enter 58 args) w:=enters_of func58 ay rfl
attribute [local go_sem] Oper.semAt_some
def wO (h:HC)(b:U)(w0 W X:V):Prop:=rH h b X/\Reads w0 X/\W.1.size<=X.1.size
theorem Kc (h:HC)(nl:U->L Bs)(es:L EvC)(ds:L aM)(ms:L aN)(qs:L Wa)(scan:EvC->L Sn)(dn:aM->L Int)(mn:aN->L Int)(b:U)(D:U->Prop)(w0 W:V)
  (hn:∀i,i<4->Row w0 1 encStr (h.nm i).a (h.nm i).n (h.nm i).c (nl i)) (hd:Deep w0 h es ds ms qs scan dn mn) (hsh:jq h nl es ds ms qs scan dn mn=N) (hL:rH h b W) (hR:Reads w0 W) (hw:w0.1.size<=W.1.size)
  (Oa:∀i,i<w0.1.size->D i) (LZ:∀i,b<=i->i<b+7->D i):
  Iter I 58 #[A (u ⟨b,0,C⟩),A (u ⟨b+3,0,C⟩),A (u ⟨b+4,0,C⟩),A (u ⟨b+5,0,C⟩),A (u ⟨b+6,0,C⟩)] (y9 W.1.size) 0 D (fV nl es ds ms qs scan dn mn) W:=by
 intro n l J Jx hJ hJx hY h0;have hJ':∀s X Y,J s X->Same (λ_=>True) X Y->J s Y:=λs X Y hj hs=>hJ s X Y hj (hs.mono (λ_ _ _=>H))
 have zC:∀X Y,wO h b w0 W X->aQ D X Y->wO h b w0 W Y:=λX Y hx k=>⟨hx.1.keep (λi h1 h2=>k.2 i (LZ i h1 h2) (by have:=hx.1.lt;omega)),hx.2.1.keep k Oa (bX hw hx.2.2),bX hx.2.2 k.1⟩
 have uJ:∀X Y,wO h b w0 W X->Below X.1.size X Y->wO h b w0 W Y:=λX Y hx k=>⟨hx.1.keep (λi h1 h2=>k.block i (by have:=hx.1.lt;omega)),λa v hc=>(k.cell (dR (hx.2.1 a v hc))).trans (hx.2.1 a v hc),bX hx.2.2 k.size⟩
 have uK:∀X,wO h b w0 W X->Reads w0 X/\W.1.size<=X.1.size:=λX hx=>hx.2
 have Xl:∀pre x args X,J pre X->pre++[x]<+:(fV nl es ds ms qs scan dn mn)->y9 W.1.size x args X->W.1.size<=X.1.size->∀m,YieldAt Fence.wide m I l args X λe Y=>
   (e= .returned (.bool N)/\J (pre++[x]) Y/\aQ D X Y)\/(e= .returned (.bool P)/\Jx (pre++[x]) Y/\aQ D X Y):=λpre x args X h1 h2 h3 h4=>hY pre x args X h1 h2 h3 h4
 simp only[jq,sV,aO,fA] at hsh;obtain⟨⟨⟨⟨_,hse⟩,hsd⟩,hsm⟩,hsw⟩:=hsh;have hr0:∀X,wO h b w0 W X->Row X 1 encStr h.t.a h.t.n h.t.c (nl 0):=λX hx=>(hn 0 aj).reads hx.2.1
 have hr1:∀X,wO h b w0 W X->Row X 1 encStr h.s.a h.s.n h.s.c (nl 1):=λX hx=>(hn 1 aj).reads hx.2.1
 have hr2:∀X,wO h b w0 W X->Row X 1 encStr h.o.a h.o.n h.o.c (nl 2):=λX hx=>(hn 2 aj).reads hx.2.1
 have hr3:∀X,wO h b w0 W X->Row X 1 encStr h.p.a h.p.n h.p.c (nl 3):=λX hx=>(hn 3 aj).reads hx.2.1
 have hbx:∀X,wO h b w0 W X->Bx X b (aD h):=λX hx=>Bx.zl hx.1.o0
 have HE:=O (λpre hp X hX hx m=>afL (J:=J) (Jx:=Jx) (D:=D) (Ok:=wO h b w0 W) hJ' Xl zC uJ uK h.e.a h.e.n h.e.c es (λe=>rG (nl 0) (nl 1) (nl 2) (nl 3) e (scan e)) 53 #[A (u ⟨b,0,C⟩),A (u ⟨b+2,0,C⟩)] aeB hd.1
  (λe he X hx=>agw h (nl 0) (nl 1) (nl 2) (nl 3) e (scan e) b (b+2) (b+1) X (hbx X hx) (Bx.zl hx.1.o2) hx.1.o1 (hr0 X hx) (hr1 X hx) (hr2 X hx) (hr3 X hx) ((hd.2.2.2.2.1 e he).reads hx.2.1) (hse e he)) pre hp X hX hx m)
 have HD:=O (λpre hp X hX hx m=>afM (J:=J) (Jx:=Jx) (D:=D) (Ok:=wO h b w0 W) hJ' Xl zC uJ uK h.d.a h.d.n h.d.c ds (λx=>x9 (nl 2) (nl 0) x (dn x)) 55 #[A (u ⟨b,0,C⟩)] aeC hd.2.1
  (λx hx' X hx=>by
   have h1:=hsd x hx';simp only[O7,aO] at h1;exact agy h (nl 2) (nl 0) x (dn x) b X (hbx X hx) (hr2 X hx) (hr0 X hx) ((hd.2.2.2.2.2.1 x hx').reads hx.2.1) h1.2 h1.1) pre hp X hX hx m)
 have HM:=O (λpre hp X hX hx m=>afN (J:=J) (Jx:=Jx) (D:=D) (Ok:=wO h b w0 W) hJ' Xl zC uJ uK h.m.a h.m.n h.m.c ms (λx=>yc (nl 3) (nl 2) (nl 0) x (mn x)) 56 #[A (u ⟨b,0,C⟩)] aeD hd.2.2.1
  (λx hx' X hx=>by
   have h1:=hsm x hx';simp only[O8,aO] at h1;exact agz h (nl 3) (nl 2) (nl 0) x (mn x) b X (hbx X hx) (hr3 X hx) (hr2 X hx) (hr0 X hx) ((hd.2.2.2.2.2.2 x hx').reads hx.2.1) h1.2 h1.1.1 h1.1.2) pre hp X hX hx m)
 have HV:=O (λpre hp X hX hx m=>afO (J:=J) (Jx:=Jx) (D:=D) (Ok:=wO h b w0 W) hJ' Xl zC uJ uK h.w.a h.w.n h.w.c qs (AB (nl 1)) 57 #[A (u ⟨b,0,C⟩)] aeE hd.2.2.2.1
  (λx hx' X hx=>by
   have h1:=hsw x hx';simp only[Ke,aO] at h1;exact agA h (nl 1) x b X (hbx X hx) (hr1 X hx) h1.1.1) pre hp X hX hx m)
 have zP:Hid (wO h b w0 W W):=O ⟨hL,hR,aB _⟩;have HJ0:=O h0;clear hJ hJx hY h0 hJ' zC uJ uK Xl hse hsd hsm hsw hr0 hr1 hr2 hr3 hbx hn hd hL hR hw Oa LZ;refine callsIn_of_wp func58 rfl H ?_ rfl;simp only[ntmps58,p8,dO,iy,Nat.reduceAdd,Nat.reduceSub,rX,rY,oz,oC,fJ,fu];have hcb:=(Bx.zl zP.q.1.o0).1;have hc3:=(Bx.zl zP.q.1.o3).1;have hp1:[]++es.map (λe=>rG (nl 0) (nl 1) (nl 2) (nl 3) e (scan e))<+:fV nl es ds ms qs scan dn mn:=⟨ds.map (λx=>x9 (nl 2) (nl 0) x (dn x))++(ms.map (λx=>yc (nl 3) (nl 2) (nl 0) x (mn x))++qs.map (AB (nl 1))),by simp only[fV,fJ,dD]⟩;have hp2:([]++es.map (λe=>rG (nl 0) (nl 1) (nl 2) (nl 3) e (scan e)))++ds.map (λx=>x9 (nl 2) (nl 0) x (dn x))<+:fV nl es ds ms qs scan dn mn:=⟨ms.map (λx=>yc (nl 3) (nl 2) (nl 0) x (mn x))++qs.map (AB (nl 1)),by simp only[fV,fJ,dD]⟩;have hp3:(([]++es.map (λe=>rG (nl 0) (nl 1) (nl 2) (nl 3) e (scan e)))++ds.map (λx=>x9 (nl 2) (nl 0) x (dn x)))++ms.map (λx=>yc (nl 3) (nl 2) (nl 0) x (mn x))<+:fV nl es ds ms qs scan dn mn:=⟨qs.map (AB (nl 1)),by simp only[fV,fJ,dD]⟩;have agB:((([]++es.map (λe=>rG (nl 0) (nl 1) (nl 2) (nl 3) e (scan e)))++ds.map (λx=>x9 (nl 2) (nl 0) x (dn x)))++ms.map (λx=>yc (nl 3) (nl 2) (nl 0) x (mn x)))++qs.map (AB (nl 1))=fV nl es ds ms qs scan dn mn:=by simp only[fV,fJ,dD]
 have uS:=O hp1;have mX:=O hp2;have uT:=O hp3;have HP4:=O agB;clear hp1 hp2 hp3 agB
 gi_wp2_with fail
 refine⟨H,λh=>(by cases h),?_⟩;refine(HE.q [] uS.q W HJ0.q zP.q (n - 1)).mono ?_;clear hcb hc3;rintro e Y1 (⟨rfl,hj1,hok1⟩|⟨rfl,p,hp,FY⟩)
 .have HJ1:=O hj1;have Bc:=O hok1;clear hj1 hok1
  have hcb:=(Bx.zl Bc.q.1.o0).1;have hc4:=(Bx.zl Bc.q.1.o4).1
  gi_wp2_with fail
  refine⟨H,λh=>(by cases h),?_⟩;clear hcb hc4;refine(HD.q _ mX.q Y1 HJ1.q Bc.q (n - 1)).mono ?_;rintro e Y2 (⟨rfl,hj2,hok2⟩|⟨rfl,p,hp,FY⟩)
  .have HJ2:=O hj2;have su:=O hok2;clear hj2 hok2
   have hcb:=(Bx.zl su.q.1.o0).1;have BV:=(Bx.zl su.q.1.o5).1
   gi_wp2_with fail
   refine⟨H,λh=>(by cases h),?_⟩;clear hcb BV;refine(HM.q _ uT.q Y2 HJ2.q su.q (n - 1)).mono ?_;rintro e Y3 (⟨rfl,hj3,agC⟩|⟨rfl,p,hp,FY⟩)
   .have HJ3:=O hj3;have aah:=O agC;clear hj3 agC
    have hcb:=(Bx.zl aah.q.1.o0).1;have hc6:=(Bx.zl aah.q.1.o6).1
    gi_wp2_with fail
    refine⟨H,λh=>(by cases h),?_⟩;clear hcb hc6;refine(HV.q _ (HP4.q▸List.prefix_rfl) Y3 HJ3.q aah.q (n - 1)).mono ?_;rintro e Y4 (⟨rfl,Mk,agD⟩|⟨rfl,p,hp,FY⟩)
    .have HJ4:=O Mk;have arp:=O agD;clear Mk agD
     gi_wp2_with fail
     go_end0
     exact⟨_,rfl,.inl (HP4.q▸HJ4.q)⟩
    .have vU:=O FY;clear FY
     gi_wp2_with fail
     go_end0
     exact⟨_,rfl,.inr ⟨p,hp,vU.q⟩⟩
   .have vU:=O FY;clear FY
    gi_wp2_with fail
    refine⟨H,?_⟩
    gi_wp2_with fail
    go_end0
    exact⟨_,rfl,.inr ⟨p,hp,vU.q⟩⟩
  .have vU:=O FY;clear FY
   gi_wp2_with fail
   refine⟨H,?_⟩
   gi_wp2_with fail
   refine⟨H,?_⟩
   gi_wp2_with fail
   go_end0
   exact⟨_,rfl,.inr ⟨p,hp,vU.q⟩⟩
 .have vU:=O FY;clear FY
  gi_wp2_with fail
  refine⟨H,?_⟩
  gi_wp2_with fail
  refine⟨H,?_⟩
  gi_wp2_with fail
  refine⟨H,?_⟩
  gi_wp2_with fail
  go_end0
  exact⟨_,rfl,.inr ⟨p,hp,vU.q⟩⟩
end Yd
namespace Yd
open Go Go.RowKit Go.Proofs Tryz
open Below renaming heap_setCell->f,refl->r
open Go.Value renaming slice->d
theorem O9 {α:Type}{enc:α->List Value}{k:Nat}{w:World}{B:Nat}{E:TypeId}{v:Value}{xs:List α}[hc:Cells enc k]{F:Fence}{n0:Nat}{P:Program}{ops:Array Oper}{rest:List Oper}{o:Oper}{ac:Act}{Q:Exit->Act->World->Prop}(hgd:o.guard=none)(s x:Operand)(t:TypeId)
  (ho:o.op= .call {callee:= .builtin .append,args:=#[s,x],argTypes:=#[t,t]}) (i:TypeInfo) (z:Value) (bytes:Nat) (ht:P.underlying t=some (.slice E)) (hi:P.info? E=some i) (hz:i.zero=some z)
  (hsize:i.size=k) (hby:i.bytes=bytes) (hzs:z.cells.size=k) (hs:ac.eval s=v) (hown:Own w B E k enc v xs)
  (a:Option Addr) (m c N:Nat) (ys:List α) (hx:ac.eval x= d a m c) (hr:Row w k enc a m c ys) (hN:xs.length+m=N) (hbytes:N*bytes<=140737488355328) (h63:N<=maxLen) (hbase:B<=w.1.size)
  (h:∀a' c' w',Own w' B E k enc (d a' N c') (xs++ys)->w.grownBy w' v.ownBlock->((Value.slice a' N c').ownBlock=v.ownBlock\/(Value.slice a' N c').ownBlock=some w.1.size)->wpListIn F n0 P ops Q rest (ac.put o.dst (d a' N c')) w'):
  wpListIn F n0 P ops Q (o::rest) ac w:=by
 refine wpListIn_plain hgd λK hK'=>?_
 subst hN;obtain⟨a',c',w',hrun,h2,h3,h4⟩:=SK (P:=P) t o.type i z bytes ht hi hz hsize hby hzs hown hr hbytes h63 hbase;have hl:(xs++ys).length=xs.length+m:=by rw[bL,hr.len]
 rw[hl] at hrun h2 h4;unfold Oper.wpIn;refine⟨?_,?_⟩
 .simp[Oper.about,ho,resolve,Target.leads,Sem.run_pure]
 .rw[Oper.semAt_plain F _ _ (by rw[ho];intro c hc';cases hc')]
  simp[execOp,ho,resolve,invoke,builtin,hs,hx,hrun,Result.andThen];exact hK' _ _ (h a' c' w' h2 h3 h4)
theorem Row.lnN {X:World}{g:Nat}(h:X.1.size=g)(l:bE):Row (X.alloc (.cells (bJ l) 66)) 6 vw (some ⟨g,0,none⟩) 1 1 [l]:=
 h▸(Own.new (hc:=Pb) X X.1.size 66 (bJ l) [l] (aB _) rfl (by simp[maxLen])).row ak
def qD (w:World)(B:Nat)(bg:List bE)(ls:List aH):Prop:=bg.length=ls.length/\∀(i:Nat)(l:bE),bg[i]?=some l->∃s,ls[i]?=some s/\gD w B l s
theorem qD.same {w w':World}{B:Nat}{bg:List bE}{ls:List aH}(h:qD w B bg ls){A:Nat->Prop}(hs:Same A w w')(hA:∀i,B<=i->A i):qD w' B bg ls:=
 ⟨h.1,λi l hl=>let⟨s,h1,h2⟩:=h.2 i l hl;⟨s,h1,h2.1,h2.2.1.same hs (λg hg=>hA g (h2.2.1.lt g hg).1),h2.2.2.same hs (λg hg=>hA g (h2.2.2.lt g hg).1)⟩⟩
theorem qD.below {w w':World}{B:Nat}{bg:List bE}{ls:List aH}(h:qD w B bg ls)(hb:Below w.1.size w w'):qD w' B bg ls:=
 ⟨h.1,λi l hl=>let⟨s,h1,h2⟩:=h.2 i l hl;⟨s,h1,h2.below hb⟩⟩
theorem qD.grown {w w':World}{B:Nat}{bg:List bE}{ls:List aH}(h:qD w B bg ls){row:Option Nat}(hg:w.grownBy w' row)(hr:∀g,row=some g->∃cs fz,w.1[g]?=some (.cells cs 66 fz)):qD w' B bg ls:=
 ⟨h.1,λi l hl=>let⟨s,h1,h2⟩:=h.2 i l hl;⟨s,h1,h2.1,
  h2.2.1.grown hg (λg hg' e=>by obtain⟨cs,fz,e1⟩:=hr g e;exact h2.2.1.zQ e1 aj hg'),
  h2.2.2.grown hg (λg hg' e=>by obtain⟨cs,fz,e1⟩:=hr g e;exact h2.2.2.zQ e1 aj hg')⟩⟩
theorem qD.snoc {w:World}{B:Nat}{bg:List bE}{ls:List aH}(h:qD w B bg ls){l:bE}{s:aH}(hl:gD w B l s):qD w B (bg++[l]) (ls++[s]):=by
 have e:=h.1;refine⟨by simp[h.1],λi q hq=>?_⟩;rcases gP i bg.length with hi|hi
 .rw[y8 hi] at hq
  obtain⟨t,h1,h2⟩:=h.2 i q hq;exact⟨t,by rw[y8 ah];exact h1,h2⟩
 .rw[xJ hi] at hq
  have h0:i - bg.length=0:=by
   rcases Nat.eq_zero_or_pos (i - bg.length) with h0|h0
   .exact h0
   .rw[xY (by simp;omega)] at hq;cases hq
  rw[h0] at hq;obtain rfl:l=q:=by simpa using hq
  exact⟨s,by rw[xJ ah,show i - ls.length=0 by omega];rfl,hl⟩
attribute [local go_sem] Oper.semAt_some
def Xm (ls:List aH)(w:World)(e:Ending)(Y:World):Prop:=∃a c bg,e= .returned (d a bg.length c)/\Own Y w.1.size 66 6 vw (d a bg.length c) bg/\qD Y w.1.size bg ls/\Below w.1.size w Y
theorem NC (gf:Nat)(lb:Array Value)(eg:∀args w,(callFunc gf args).run Tryz.prog w= .ok (.enter gf args) w)(ls:List aH)(w:World)(hlen:ls.length<=100000)
  (hseq:∀W,Below w.1.size w W->Iter Tryz.prog gf lb (y9 W.1.size) 0 (λi=>i<w.1.size) ls W):
  Calls Tryz.prog 87 #[d none 0 0,.func (.func gf) #[] lb] w (Xm ls w):=by
 refine(callsIn_wide (n:=3)).1 ?_;refine callsIn_of_wp_marks func87 rfl trivial ?_ rfl;simp only[ntmps87,p8,dO,iy,Nat.reduceAdd,Nat.reduceSub,rX,rY,oz,oC,fJ,fu];refine wpIn_wide.2 ?_;obtain⟨i,z,hi,hz,hsize,dx,hzs⟩:=SL;have HI:=hid (⟨hi,hz,hsize,dx,hzs⟩:_/\_/\_/\_/\_);have anE:=hid hseq;have HLEN:=hid hlen;clear hi hz hsize dx hzs hseq hlen;go_wp2_with fail;have Du:Below w.1.size w (w.alloc (.cells #[d none 0 0] 43)):=aA (r _ _) _;have wY:Bx (w.alloc (.cells #[d none 0 0] 43)) w.1.size #[d none 0 0]:=Bx.new1 rfl;have vE:(w.alloc (.cells #[d none 0 0] 43)).1.size=w.1.size+1:=by simp
 revert Du wY vE;generalize w.alloc (.cells #[d none 0 0] 43)=V;intro Du wY vE;refine wpIn_wide.1 (BS (n:=3) (gf:=gf) (lb:=lb) (by simp[go_sem]) eg
  (qP:=y9 (w.1.size+3)) (k:=0) (D:=λi=>i<w.1.size) (xs:=ls)
  (λW hW hWs=>by have:=anE.q W (Du.trans (hW.mono Du.size));rw[show W.1.size=w.1.size+3 by omega] at this;exact this) ah
  (λx args X hx=>by obtain⟨_,rfl,_⟩:=hx;rfl)
  (λpre X=>Below w.1.size w X/\∃a c bg,Bx X w.1.size #[d a bg.length c]/\Own X (w.1.size+3) 66 6 vw (d a bg.length c) bg/\qD X (w.1.size+3) bg pre)
  (λ_ _ _=>False)
  (λpre X Y hh k=>by
   obtain⟨h1,a,c,bg,h2,h3,h4⟩:=hh;exact⟨k.below h1 (λi hi=> .inl ah) h1.size,a,c,bg,k.bx h2 (.inl ah),h3.same k (λg hg=> .inr (by have:=(h3.lt g hg).1;omega)),h4.same k (λi hi=> .inr ah)⟩)
  (λ_ _ _ _ hh _=>hh.elim)
  ⟨Du,none,0,[],wY,Own.jY _ _ _ _ _,rfl,λi l hl=>by simp at hl⟩ ?round ?done (λ_ _ _ _ hh _=>hh.elim))
 case done=>
  rintro X ⟨hb,a,c,bg,hbx,hown,hat⟩ hdef;have hc:=hbx.1;simp only[Exit.inBlock,Exit.then];have HB:=hid hb;have HO:=hid hown;have HA:=hid hat;clear hb hown hat hbx;go_wp2_with fail;refine⟨by simp,.inl ⟨_,_,rfl,run_takeDeferred hdef,?_⟩⟩;have hs:Same (λi=>i≠V.1.size) X (X.putObj V.1.size (.deferred none)):=Same.putObj X _ ak;exact⟨_,results_tmp rfl _ _ _,a,c,bg,rfl,(HO.q.same hs (λg hg=>by have:=(HO.q.lt g hg).1;omega)).mono ah,⟨HA.q.1,λi l hl=>let⟨s,h1,h2⟩:=(HA.q.same hs (λi hi=>by omega)).2 i l hl;⟨s,h1,h2.mono ah⟩⟩,hs.below HB.q (λi hi=>by omega) HB.q.size⟩
 case round=>
  rintro pre x args X ⟨hb,a,c,bg,hbx,hown,hat⟩ hpre ⟨lc,rfl,hln⟩ hsz m;have HB:=hid hb;have HO:=hid hown;have HA:=hid hat;have HX:=hid hbx;have oU:=hid hln;clear hb hown hat hbx hln
  gi_wp2
  refine⟨aA (r _ _) _,λX2 hk=>?_⟩;have hx2:=hk.bx (HX.q.alloc _) (by simp;omega);have hl2:=hk.bx (Bx.new1 (b:=X.1.size) rfl) (by simp;omega);have ho2:Own X2 (w.1.size+3) 66 6 vw (d a bg.length c) bg:=(HO.q.alloc _).same hk (λg hg=>by have:=(HO.q.lt g hg).1;simp;omega);have ha2:qD X2 (w.1.size+3) bg pre:=(HA.q.below (aA (r _ _) _)).same hk (λi hi=>by simp;omega);have hn2:gD X2 (w.1.size+3) lc x:=⟨oU.q.1,((oU.q.2.1.alloc _).same hk (λg hg=>by have:=(oU.q.2.1.lt g hg).1;simp;omega)),((oU.q.2.2.alloc _).same hk (λg hg=>by have:=(oU.q.2.2.lt g hg).1;simp;omega))⟩;have hb2:Below w.1.size w X2:=hk.below (aA HB.q _) (λi hi=>by simp;omega) (by simp;have:=HB.q.size;omega);have hz2:w.1.size+3<=X2.1.size:=by have:=hk.size;simp at this;omega
  have hpl:pre.length+1<=ls.length:=by have:=hpre.length_le;simpa using this
  have jU:Hid ((bg.length+1)*80<=140737488355328):=hid (by have:=HA.q.1;have:=HLEN.q;omega);have iU:Hid (bg.length+1<=maxLen):=hid (by have:=HA.q.1;have:=HLEN.q;unfold maxLen;omega);have hc2:=hx2.1;have hcl:=hl2.1;have fw:=hid hx2;have l8:=hid ho2;have HA2:=hid ha2;have OH:=hid hn2;have HB2:=hid hb2;clear hx2 hl2 ho2 ha2 hn2 hb2 hk
  gi_wp2_with (gi_at_builtin;refine O9 rfl _ _ 43 rfl i z 80 underlying43 HI.q.1 HI.q.2.1 HI.q.2.2.1 HI.q.2.2.2.1 HI.q.2.2.2.2 rfl (l8.q.alloc _) (some ⟨X2.1.size,0,none⟩) 1 1 (bg.length+1) [lc] rfl (Row.lnN rfl lc) rfl jU.q iU.q (by simp;omega) ?_;intro a' c' w3 hown3 hg3 zY;(have Jj:Bx w3 w.1.size #[d a bg.length c]:=(fw.q.alloc _).grown hg3 (λe=>by have:=(l8.q.lt _ e).1;omega));(have hc3:=Jj.1);(have hf3:=Jj.2.1);(have anF:=hid Jj);(have zH:=hid hown3);(have lN:=hid hg3);clear Jj hown3 hg3 zY)
  have hz3:X2.1.size+1<=w3.1.size:=by have:=lN.q.size;simpa using this
  have hkp:∀j,j<w.1.size+3->w3.1[j]?=X2.1[j]?:=λj hj=>(lN.q.block j (by simp;omega) (λe=>by have:=(l8.q.lt j e.symm).1;omega)).trans (Below.heap_alloc _ _ _ ah)
  have htag:∀g,(Value.slice a bg.length c).ownBlock=some g->∃cs fz,(X2.alloc (.cells (bJ lc) 66)).1[g]?=some (.cells cs 66 fz):=λg hg=>by
   obtain⟨cs,fz,e⟩:=l8.q.tag hg;exact⟨cs,fz,jF _ e⟩
  have ha3:qD w3 (w.1.size+3) (bg++[lc]) (pre++[x]):=((HA2.q.below (aA (r _ _) _)).snoc ⟨OH.q.1,OH.q.2.1.alloc _,OH.q.2.2.alloc _⟩).grown lN.q htag;have hs3:Same (λj=>j≠w.1.size) w3 (w3.setCell ⟨w.1.size,0,none⟩ (d a' (bg.length+1) c')):=Same.setTail (Same.refl' _) ak;have hl3:(bg++[lc]).length=bg.length+1:=by simp
  refine⟨⟨(f _ _ _ _ (by simp;omega)).trans (hkp _ ah),(f _ _ _ _ (by simp;omega)).trans (hkp _ ah)⟩,
   ⟨by simp[World.setCell];omega,λj hj hl=>(f _ _ _ _ (by simp;omega)).trans (hkp j ah)⟩,
   (below_app (aA HB2.q _) (l8.q.alloc _) ah (by simp;omega) lN.q).setCell (p:=⟨w.1.size,0,none⟩) ak _,a',c',bg++[lc],?_,?_,ha3.same hs3 (λj hj=>by omega)⟩
  .rw[hl3];exact anF.q.set1 _
  .rw[hl3];exact zH.q.same hs3 (λg hg=>by have:=(zH.q.lt g hg).1;omega)
end Yd
namespace Yd
open Option renaming some->u,none->C
open Go Go.RowKit Go.Proofs Tryz
open Below renaming refl->N
open Go renaming World->I,Calls->O
open Go.IntKind renaming i64->G
open Go.Obj renaming cells->M
open Go.Value renaming pointer->z,int->F
open Tryz renaming prog->y,func34->P,ntmps34->R,ntmps9->S,func9->T
open Yd renaming hid->f
open _root_ renaming List->g,Int->E,Nat->J,trivial->Q
theorem RA (gf:J)(lb:Array Value)(eg:∀args w,(callFunc gf args).run y w= .ok (.enter gf args) w)(ls:g aH)(w:I)(hlen:ls.length<=100000)
  (hseq:∀W,Below w.1.size w W->Iter y gf lb (y9 W.1.size) 0 (λi=>i<w.1.size) ls W):
  O y 44 #[.func (.func gf) #[] lb] w (Xm ls w):=by
 have HC:=f (NC gf lb eg ls w hlen hseq);clear hseq;go_enter Tryz.func44,Tryz.ntmps44;go_wp2_with fail;refine HC.q.mono ?_;rintro e Y ⟨a,c,bg,rfl,h1,h2,h3⟩;have H:=f (⟨h1,h2,h3⟩:_/\_/\_);clear h1 h2 h3;go_wp2_with fail;go_ret;exact⟨a,c,bg,rfl,H.q.1,H.q.2.1,H.q.2.2⟩
theorem SN {h:HC}(hm:Kg h=true):h.e.n<=3000/\h.d.n<=3000/\h.m.n<=3000/\h.w.n<=3000:=by
 simp only[Kg,aO,aW] at hm;obtain⟨h1,h2⟩:=hm;refine⟨by omega,?_,?_,?_⟩ <;> (split at h2 <;> split at h2 <;> omega)
theorem Mx {h:HC}{nl:J->g Bs}{es:g EvC}{ds:g aM}{ms:g aN}{qs:g Wa}{scan:EvC->g Sn}{dn:aM->g E}{mn:aN->g E}{w:I}(hd:Deep w h es ds ms qs scan dn mn)
  (hs:jq h nl es ds ms qs scan dn mn=true):(fV nl es ds ms qs scan dn mn).length<=12000:=by
 simp only[jq,sV,aO] at hs;have:=SN hs.1.1.1.1.1;have h1:=hd.1.len;have h2:=hd.2.1.len;have h3:=hd.2.2.1.len;have h4:=hd.2.2.2.1.len;simp only[fV,bL,bH];omega
section
variable (h:HC)(nl:J->g Bs)(es:g EvC)(ds:g aM)(ms:g aN)(qs:g Wa)(scan:EvC->g Sn)(dn:aM->g E)(mn:aN->g E)(w:I)(hg:wz w)
  (hn:∀i,i<4->Row w 1 encStr (h.nm i).a (h.nm i).n (h.nm i).c (nl i)) (hd:Deep w h es ds ms qs scan dn mn)
include hg hn hd
def aeF (ls:g aH)(w:I)(e:Ending)(Y:I):Prop:=∃a c bg,e= .returned (.tuple #[.slice a bg.length c,F G 0])/\Own Y w.1.size 66 6 vw (.slice a bg.length c) bg/\qD Y w.1.size bg ls/\Below w.1.size w Y
theorem UD (hc:nS h nl es ds ms qs scan dn mn=true):O y 14 #[bG h] w (aeF (fV nl es ds ms qs scan dn mn) w):=by
 have hsh:jq h nl es ds ms qs scan dn mn=true:=by simp only[nS,aO] at hc;exact hc.1.1
 have hb0:=aA (N w.1.size w) (M (aD h) 29);have HC:=f (FZ h nl es ds ms qs scan dn mn _ (hg.below hb0) (λi hi=>(hn i hi).below hb0 rfl) (hd.below hb0 rfl));rw[hc] at HC;have HB:=f hb0;have zR:=f hsh;have HN:=f hn;have HD:=f hd;have fQ:=f (Bx.new w (aD h) 29);clear hg hn hd hc hb0 hsh;go_enter Tryz.func14,Tryz.ntmps14;go_wp2_with fail;refine HC.q.mono ?_;rintro e w1 ⟨rfl,hb1⟩;have HB1:=f (HB.q.bZ hb1);have hx:=(fQ.q.keep hb1).1;clear hb1;rw[show F3 true=0 from rfl];go_wp2_with fail;refine(O6 h w1).mono ?_;rintro e W ⟨rfl,hz,hbW,hL⟩;have hbw:=HB1.q.bZ hbW;have Xn:=f (RA 58 #[z (u ⟨w1.1.size,0,C⟩),z (u ⟨w1.1.size+3,0,C⟩),z (u ⟨w1.1.size+4,0,C⟩),z (u ⟨w1.1.size+5,0,C⟩),z (u ⟨w1.1.size+6,0,C⟩)] SI (fV nl es ds ms qs scan dn mn) W
  (by have:=Mx HD.q zR.q;omega)
  (λW' hW'=>Kc h nl es ds ms qs scan dn mn w1.1.size (λi=>i<W.1.size) w W' HN.q HD.q zR.q (hL.keep (λi h1 h2=>hW'.block i ah))
   (λa v hc=>((hbw.trans (hW'.mono hbw.size)).cell (dR hc)).trans hc) (by have:=hbw.size;have:=hW'.size;omega) (λi hi=>by have:=hbw.size;omega) (λi h1 h2=>by omega)))
 have cZ:=f hbw;clear hz hbW hL hbw hx;go_wp2_with fail;refine Xn.q.mono ?_;rintro e Y ⟨a,c,bg,rfl,h1,h2,h3⟩;have H:=f (⟨h1,h2,h3⟩:_/\_/\_);clear h1 h2 h3;go_wp2_with fail
 go_ret2
 refine⟨a,c,bg,rfl,H.q.1.mono cZ.q.size,⟨H.q.2.1.1,λi l hl=>let⟨s,g1,g2⟩:=H.q.2.1.2 i l hl;⟨s,g1,g2.mono cZ.q.size⟩⟩,cZ.q.trans (H.q.2.2.mono cZ.q.size)⟩
end
attribute [local go_sem] Oper.semAt_some
theorem Same.Pd {X Y:I}{b:J}(h:X.grownBy Y (u b)):Same (λi=>i≠b) X Y:=⟨h.os,h.tape,h.output,h.size,λi hi hl=>h.block i hl (λe=>hi (by injection e))⟩
theorem Same.Pe {A:J->Prop}(X:I)(o:Obj):Same A X (X.alloc o):=Same.of_below (B:=X.1.size) (aA (N _ _) _) (λ_ _ h=>h)
theorem Same.Kh {A:J->Prop}(X:I):Same A X X.drew:=⟨rfl,rfl,rfl,aB _,λ_ _ _=>rfl⟩
theorem Same.cell_ {A:J->Prop}{X Y:I}(h:Same A X Y){p:Addr}{v:Value}(hc:X.cell? p=u v)(ha:A p.block):Y.cell? p=u v:=
 (World.cell?_of_block (a:=p) (h.block p.block ha (dR hc))).trans hc
theorem kY.noCell {W:I}{b:J}{L:g (E × E)}(h:kY W b L){p:Addr}{v:Value}(hc:W.cell? p=u v):p.block≠b:=λe=>by
 obtain⟨D,_,⟨es,clock,hb,_⟩,_⟩:=h;unfold World.cell? at hc;rw[e,hb] at hc
 cases hc
def Ei (L:g (E × E))(e:EvC):Bool:=decide (e.kind=2) && !decide (e.v.k=((L.count (e.t,e.obj):J):E)+1)
def zm (L:g (E × E))(e:EvC):g (E × E):=if e.kind=2 then(e.t,e.obj)::L else L
def zZ:g (E × E)->g EvC->Bool
 |_,[]=>true
 |L,e::r=>!Ei L e && zZ (zm L e) r
theorem aai:∀args w,(callFunc 68 args).run y w= .ok (.enter 68 args) w:=enters_of func68 ay rfl
theorem aaj:∀args w,(callFunc 34 args).run y w= .ok (.enter 34 args) w:=enters_of P ay rfl
theorem Xo (e:EvC)(c b:J)(L:g (E × E))(w:I)(hc:w.cell? ⟨c,0,C⟩=u (.map (u b)))(hm:kY w b L)(ht:uo e.t)(ho:uo e.obj)(hn:L.length<1000000):
  O y 68 #[fZ e,z (u ⟨c,0,C⟩)] w λen w'=>en= .returned (F G (((L.count (e.t,e.obj):J):E)+1))/\Same (λi=>i≠b) w w'/\kY w' b ((e.t,e.obj)::L):=by
 obtain⟨n,hnn⟩:∃n,n=L.count (e.t,e.obj):=⟨_,rfl⟩;have hcl:n<=L.length:=hnn▸List.count_le_length;obtain⟨X,hX⟩:∃X,X=(w.alloc (M (aS e) 50)).alloc (M #[F G e.t,F G e.obj] 114):=⟨_,rfl⟩;have Dh:Same (λi=>i≠b) w X:=by rw[hX];exact(Same.Pe _ _).tr (Same.Pe _ _)
 have Io:kY X b L:=by
  refine hm.of_eq ?_;rw[hX];exact(aA (aA (N w.1.size w) _) _).block b hm.lt
 have F4:X.cell? ⟨c,0,C⟩=u (.map (u b)):=by rw[hX];exact bP _ (bP _ hc)
 have hbX:Bx X (w.1.size+1) #[F G e.t,F G e.obj]:=by rw[hX];exact Bx.new1 ak
 have hlk:(Instr.lookup 149 (.map (u b)) (.agg #[F G e.t,F G e.obj]) false).run y X.drew= .ok (F G (L.count (e.t,e.obj):J)) X.drew:=kY.look (W:=X.drew) Io ht ho;have hne:w.1.size+1≠b:=by have:=hm.lt;omega
 obtain⟨v0,st,W1,hme,hg1,hs1,hl1,hes⟩:=kY.inc (W:=X.drew) Io ht ho hn;obtain⟨W3,hst,hg3,hs3,tN⟩:=hes W1 rfl;have hl3:(Instr.lookup 149 (.map (u b)) (.agg #[F G e.t,F G e.obj]) false).run y W3= .ok (F G (((e.t,e.obj)::L).count (e.t,e.obj):J)) W3:=tN.look ht ho
 change(Instr.lookup 149 (.map (u b)) (.agg #[F G e.t,F G e.obj]) false).run y W1=_ at hl1
 change(Instr.mapEntry 149 (.map (u b)) (.agg #[F G e.t,F G e.obj])).run y _=_ at hme
 rw[<-hnn] at hlk hl1 hst;rw[List.count_cons_self,<-hnn] at hl3;have e1:Same (λi=>i≠b) X W1:=(Same.Kh X).tr (Same.Pd hg1);have e3:Same (λi=>i≠b) X W3:=e1.tr (Same.Pd hg3);have hcb:=Io.noCell F4;have EZ:=f (e1.cell_ F4 hcb);have HB1:=f (e1.bx hbX hne);have kR:=f (e3.cell_ F4 hcb);have HB3:=f (e3.bx hbX hne);have Bj:=f F4;have fQ:=f hbX;have HLK:=f hlk;have rQ:=f hl1;have HL3:=f hl3;have HST:=f hst;have HME:=f hme;have Pf:=f (⟨Dh.tr e3,tN⟩:_/\_);have HX:=f hX;have HWR:Hid (IntKind.i64.wrap ((n:E)+1)=(n:E)+1):=f (Go.IntWalk.i64_in _ ah);rw[<-hnn];clear hcl hc hm ht ho hn hnn hX Dh Io F4 hbX hlk hne hme hg1 hs1 hl1 hes hst hg3 hs3 tN hl3 e1 e3 hcb;go_enter func68,ntmps68;go_wp2_with fail;rw[<-HX.q];refine aC 6 [(0,0),(1,0),(2,0),(3,0),(4,2),(5,0),(6,2)] (λ_=>True) (λW'=>W'.cell? ⟨c,0,C⟩=u (.map (u b))/\Bx W' (w.1.size+1) #[F G e.t,F G e.obj]/\(Instr.lookup 149 (.map (u b)) (.agg #[F G e.t,F G e.obj]) false).run y W'= .ok (F G n) W') ay ay (trivial) (⟨Bj.q,fQ.q,HLK.q⟩) ?_;refine qC ?_;refine aF rfl rfl (λK hK=>?_);go_simp;rw[HME.q];go_simp;refine hK _ _ ⟨Q,EZ.q,HB1.q,rQ.q⟩ ?_;clear hK K;refine qC ?_;refine bC rfl rfl rfl (λK hK=>?_);go_simp;rw[HWR.q];rw[show(Value.int IntKind.i64 (st:E))=goInt st from rfl,HST.q];go_simp;refine hK _ _ Q ?_;clear hK K;refine aP ?_;have hc3:=kR.q;have hb3:=HB3.q;have hl3:=HL3.q;have hcx:=hb3.1;have hfx:=hb3.2.1;have hlx:=hb3.2.2;go_wp2_with fail;go_ret;exact⟨by simp,Pf.q⟩
theorem RB (e:EvC)(c3 c b:J)(L:g (E × E))(w:I)(hc3:w.cell? ⟨c3,0,C⟩=u (.func (.func 68) #[] #[z (u ⟨c,0,C⟩)]))(hc:w.cell? ⟨c,0,C⟩=u (.map (u b)))(hm:kY w b L)
  (hwf:e.kind=2->uo e.t/\uo e.obj) (hn:L.length<1000000):
  O y 34 #[fZ e,z (u ⟨c3,0,C⟩)] w λen w'=>en= .returned (.bool (Ei L e))/\Same (λi=>i≠b) w w'/\kY w' b (zm L e):=by
 have hx:=Bx.new w (aS e) 50;have F4:=bP (M (aS e) 50) hc3;have Dh:Same (λi=>i≠b) w (w.alloc (M (aS e) 50)):=Same.Pe _ _;have Io:kY (w.alloc (M (aS e) 50)) b L:=hm.of_eq ((aA (N w.1.size w) _).block b hm.lt);by_cases hk:e.kind=2
 .have hcc:=bP (M (aS e) 50) hc
  have HCI:=f (Xo e c b L ((w.alloc (M (aS e) 50)).drew) hcc Io (hwf hk).1 (hwf hk).2 hn);have HX:=f hx;have Bj:=f F4;have Ki:=f Dh;have HST:Hid (zm L e=(e.t,e.obj)::L):=f (by simp[zm,hk]);have HV:Hid (Ei L e=!decide (e.v.k=((L.count (e.t,e.obj):J):E)+1)):=f (by simp[Ei,hk]);have Kj:=f (Io.noCell F4);have hlt:=hm.lt;have anG:Hid (w.1.size≠b):=f ah;obtain⟨n,hnn⟩:∃n,n=L.count (e.t,e.obj):=⟨_,rfl⟩;rw[<-hnn] at HCI HV;have eg:=aai;have hkb:(e.kind==2)=true:=vV.2 hk;clear hc3 hc hm hwf hn hx F4 Dh Io hcc hlt hnn hk;go_enter P,R;go_wp2_with fail;refine aC 0 [(0,1),(1,1),(2,1),(3,1),(4,1),(5,1),(6,1),(7,1),(8,1),(9,2),(10,1),(11,1),(12,1)] (λW'=>Bx W' w.1.size (aS e)/\W'.cell? ⟨c3,0,C⟩=u (.func (.func 68) #[] #[z (u ⟨c,0,C⟩)])) (λ_=>True) ay ay (⟨HX.q,Bj.q⟩) Q ?_;refine qC ?_;refine bC rfl rfl rfl (λK hK=>?_);go_simp;refine HCI.q.mono ?_;rintro en Y ⟨rfl,rR,hmY⟩;have HSY:=f (Ki.q.tr ((Same.Kh _).tr rR));have HMY:=f hmY;refine hK _ _ ⟨(Same.tr (Same.Kh _) rR).bx HX.q anG.q,(Same.tr (Same.Kh _) rR).cell_ Bj.q Kj.q⟩ ?_;clear hK K rR hmY;refine qC ?_;refine aP ?_;go_wp2_with fail;go_ret;refine⟨?_,HSY.q,HST.q▸HMY.q⟩;rw[HV.q];simp[bne,BEq.beq]
 .have HX:=f hx;have Bj:=f F4;have Ki:=f Dh;have HMX:=f Io;have HST:Hid (zm L e=L):=f (by simp[zm,hk])
  have HV:Hid (Ei L e=false):=f (by simp[Ei,hk]);have hkb:(e.kind==2)=false:=aU.2 hk;clear hc3 hc hm hwf hn hx F4 Dh Io hk;go_enter P,R;go_wp2_with fail;refine aC 0 [(0,1),(1,1),(2,1),(3,1),(4,1),(5,1),(6,1),(7,1),(8,1),(9,1),(10,1),(11,1),(12,1)] (λW'=>Bx W' w.1.size (aS e)/\W'.cell? ⟨c3,0,C⟩=u (.func (.func 68) #[] #[z (u ⟨c,0,C⟩)])) (λ_=>True) ay ay (⟨HX.q,Bj.q⟩) Q ?_;refine qC ?_;refine aP ?_;go_wp2_with fail;go_ret;exact⟨by rw[HV.q];rfl,Ki.q.tr (Same.Kh _),by rw[HST.q];exact HMX.q⟩
theorem Row.same {α:Type}{en:α->g Value}{k:J}{w X:I}{b n c:J}{a:Option Addr}{xs:g α}{L:g (E × E)}(h:Row w k en a n c xs)(hm:kY w b L)(hs:Same (λi=>i≠b) w X):Row X k en a n c xs:=
 h.ext (λ_ _ hc=>hs.cell_ hc (hm.noCell hc))
theorem RD (a:Option Addr)(n ca:J)(es:g EvC)(c3 c b:J)(w:I)(hr:Row w 9 eB a n ca es)(hc3:w.cell? ⟨c3,0,C⟩=u (.func (.func 68) #[] #[z (u ⟨c,0,C⟩)]))
  (hc:w.cell? ⟨c,0,C⟩=u (.map (u b))) (hm:kY w b []) (hwf:∀e∈es,e.kind=2->uo e.t/\uo e.obj) (hn:n<=100000):
  O y 69 #[.slice a n ca,.func (.func 34) #[] #[z (u ⟨c3,0,C⟩)]] w
   λen w'=>(∃j:E,en= .returned (F G j)/\decide (0<=j)=!zZ [] es)/\Same (λi=>i≠b) w w':=by
 have HR:=f hr;have HM:=f hm;have kR:=f hc3;have HC:=f hc;have HW:=f hwf;have eg:=aaj;clear hr hc3 hc hm hwf;go_enter func69,ntmps69;go_wp2_with fail
 go_loopw [8] (λi wr=>∃(k:J)(L:g (E × E)),k<=n/\i= F G k/\L.length<=k/\kY wr b L/\Same (λi=>i≠b) w wr/\zZ [] es=zZ L (es.drop k)) (λi _=>n - (RowKit.intOf i).toNat)
 case atStart=>exact⟨0,[],aZ _,rfl,aB _,HM.q,Same.refl' _,rfl⟩
 case round=>
  obtain⟨k,L,hk,rfl,hLk,hmk,hsk,hck⟩:=hrel;by_cases hlt:k<n
  .obtain⟨x,bb,o,hx,rfl,hc⟩:=(HR.q.same HM.q hsk).at_ hlt
   have h0:=hc 0 _ rfl;have h1:=hc 1 _ rfl;have h2:=hc 2 _ rfl;have h3:=hc 3 _ rfl;have h4:=hc 4 _ rfl;have h5:=hc 5 _ rfl;have h6:=hc 6 _ rfl;have h7:=hc 7 _ rfl;have h8:=hc 8 _ rfl;simp only[dM] at h0;have hdr:es.drop k=x::es.drop (k+1):=by
    rw[oD (by rw[HR.q.len];exact hlt)];rw[fK (by rw[HR.q.len];exact hlt)] at hx;injection hx with hx;rw[hx]
   have hcall:=RB x c3 c b L wr (hsk.cell_ kR.q (HM.q.noCell kR.q)) (hsk.cell_ HC.q (HM.q.noCell HC.q)) hmk (HW.q x (dP hx)) ah;rw[hdr] at hck;have hst:(zm L x).length<=k+1:=by unfold zm;split <;> (try simp only[dO]) <;> omega
   have fO:=f hsk;have HST:=f hst;clear hc hx hdr hmk hsk hst;simp only[zZ] at hck
   cases hv:Ei L x
   all_goals
    rw[hv] at hcall hck;have eF:=f hcall;have Di:=f hck;clear hcall hv hck;go_wp2_with fail;refine eF.q.mono ?_;rintro e w1 ⟨rfl,hs1,hm1⟩;have gB:=f (fO.q.tr hs1);have MB:=f hm1;clear hs1 hm1;go_wp2_with fail
   .go_roundw
    case rel=>exact⟨k+1,zm L x,by omega,by go_num,HST.q,MB.q,gB.q,by rw[Di.q];rfl⟩
    case measure=>simp[RowKit.intOf];omega
   .go_ret
    exact⟨⟨k,rfl,by rw[Di.q];simp⟩,gB.q⟩
  .have hkn:k=n:=by omega
   have hdr:es.drop k=[]:=List.drop_of_length_le (by rw[HR.q.len];omega);rw[hdr] at hck;have Di:=f hck;have fO:=f hsk;clear hck hsk hmk;go_wp2_with fail;go_ret;exact⟨⟨-1,rfl,by rw[Di.q];rfl⟩,fO.q⟩
theorem Jk (a:Option Addr)(n ca:J)(es:g EvC)(c3 c b:J)(w:I)(hr:Row w 9 eB a n ca es)(hc3:w.cell? ⟨c3,0,C⟩=u (.func (.func 68) #[] #[z (u ⟨c,0,C⟩)]))
  (hc:w.cell? ⟨c,0,C⟩=u (.map (u b))) (hm:kY w b []) (hwf:∀e∈es,e.kind=2->uo e.t/\uo e.obj) (hn:n<=100000):
  O y 33 #[.slice a n ca,.func (.func 34) #[] #[z (u ⟨c3,0,C⟩)]] w λen w'=>en= .returned (.bool (!zZ [] es))/\Same (λi=>i≠b) w w':=by
 have HC:=f (RD a n ca es c3 c b w hr hc3 hc hm hwf hn);clear hr hc3 hc hm hwf;go_enter Tryz.func33,Tryz.ntmps33;go_wp2_with fail;refine HC.q.mono ?_;rintro e w1 ⟨⟨j,rfl,hj⟩,hs⟩;have HJ:=f hj;have HS:=f hs;clear hj hs;go_wp2_with fail;go_ret;exact⟨by rw[<-HJ.q];rfl,HS.q⟩
theorem SQ {n:E}{m:J}(h:aV n m=true)(hm:m<=140737488355328):uo n:=by
 obtain⟨h1,h2⟩:=nI h;exact WalkArith.wf_i64 ah
theorem RF {h:HC}{nl:J->g Bs}{es:g EvC}{ds:g aM}{ms:g aN}{qs:g Wa}{scan:EvC->g Sn}{dn:aM->g E}{mn:aN->g E}{w:I}(hn:∀i,i<4->Row w 1 encStr (h.nm i).a (h.nm i).n (h.nm i).c (nl i))
  (hc:nS h nl es ds ms qs scan dn mn=true):∀e∈es,e.kind=2->uo e.t/\uo e.obj:=by
 intro e he hk;simp only[nS,jq,aO,fA] at hc;have h1:=hc.1.1.1.1.1.2 e he;simp only[gL,aO] at h1;have h2:=h1.1.2;unfold hasB at h2;rw[au (by rw[hk];decide),av hk] at h2;simp only[aO] at h2;exact⟨SQ h1.1.1.2 (hn 0 aj).le,SQ h2.1.1.1 (hn 2 aj).le⟩
theorem RG (w:I):O y 32 #[] w λen w'=>∃c b:J,en= .returned (.func (.func 68) #[] #[z (u ⟨c,0,C⟩)])/\w'.cell? ⟨c,0,C⟩=u (.map (u b))/\kY w' b []/\Below w.1.size w w'/\w.1.size<=b:=by
 have hmm:= @run_makeMap y;go_enter Tryz.func32,Tryz.ntmps32;go_wp2_with fail;go_ret;exact⟨w.1.size+1,w.1.size,rfl,(Bx.new1 ak).1 0,(kY.new w).of_eq (Below.heap_alloc _ _ _ ak),aA (aA (N _ _) _) _,aB _⟩
theorem CV (h:HC)(nl:J->g Bs)(es:g EvC)(ds:g aM)(ms:g aN)(qs:g Wa)(scan:EvC->g Sn)(dn:aM->g E)(mn:aN->g E)(w:I)(hg:wz w)
  (hn:∀i,i<4->Row w 1 encStr (h.nm i).a (h.nm i).n (h.nm i).c (nl i)) (hd:Deep w h es ds ms qs scan dn mn):
  O y 9 #[bG h] w (dw (.bool (nS h nl es ds ms qs scan dn mn && zZ [] es)) w):=by
 have hb0:=aA (N w.1.size w) (M (aD h) 29);have HC:=f (FZ h nl es ds ms qs scan dn mn _ (hg.below hb0) (λi hi=>(hn i hi).below hb0 rfl) (hd.below hb0 rfl));have HB:=f hb0;have HX:=f (Bx.new w (aD h) 29)
 cases hck:nS h nl es ds ms qs scan dn mn
 .rw[hck] at HC
  clear hg hn hd hb0 hck;go_enter T,S;go_wp2_with fail;refine HC.q.mono ?_;rintro e w1 ⟨rfl,hb1⟩;have HB1:=f (HB.q.bZ hb1);clear hb1;rw[show F3 false=210 from rfl];go_wp2_with fail;go_ret;exact⟨rfl,HB1.q⟩
 .have HW:=f (RF hn hck)
  have hsh:jq h nl es ds ms qs scan dn mn=true:=by simp only[nS,aO] at hck;exact hck.1.1
  have akr:=by
   have h1:=hsh;simp only[jq,sV,aO] at h1;exact SN h1.1.1.1.1.1
  have HN:=f (show h.e.n<=100000 by omega);rw[hck] at HC;have HR:=f hd.1;clear hg hn hd hb0 hck hsh akr;go_enter T,S;go_wp2_with fail;refine HC.q.mono ?_;rintro e w1 ⟨rfl,hb1⟩;have HB1:=f (HB.q.bZ hb1);have eX:=f (HX.q.keep hb1);clear hb1;rw[show F3 true=0 from rfl];go_wp2_with fail;refine(RG w1).mono ?_;rintro e w2 ⟨c,b,rfl,hc2,hm2,hb2,hbb⟩;have hx2:=eX.q.keep hb2;have HB2:=f (HB1.q.bZ hb2);have hxa:=hx2.alloc (M #[.func (.func 68) #[] #[z (u ⟨c,0,C⟩)]] 91);have hcx:=hxa.1;have hfx:=hxa.2.1;have hlx:=hxa.2.2;have hbn:=aA (N w2.1.size w2) (M #[.func (.func 68) #[] #[z (u ⟨c,0,C⟩)]] 91);have HK:=f (Jk h.e.a h.e.n h.e.c es w2.1.size c b (w2.alloc (M #[.func (.func 68) #[] #[z (u ⟨c,0,C⟩)]] 91)) ((HR.q.below HB2.q rfl).below hbn rfl) ((Bx.new1 rfl).1 0) (bP _ hc2) (hm2.of_eq (hbn.block b hm2.lt)) HW.q HN.q);have Dj:Hid (w.1.size<=b):=f (bX HB1.q.size hbb);have HBN:=f (HB2.q.bZ hbn);clear hc2 hm2 hb2 hbb hx2 hxa hbn;go_wp2_with fail;refine HK.q.mono ?_;rintro e w3 ⟨rfl,hs3⟩;have iW:=f (hs3.below HBN.q (λi hi=>by have:=Dj.q;omega) HBN.q.size);clear hs3;go_wp2_with fail;go_ret;exact⟨by simp,iW.q⟩
end Yd
namespace Yd
open Go Go.RowKit Go.Proofs
def jG (ls:List aH):Bs:=ls.flatMap jL
section
variable (h:HC)(nl:Nat->List Bs)(es:List EvC)(ds:List aM)(ms:List aN)(qs:List Wa)(scan:EvC->List Sn)(dn:aM->List Int)(mn:aN->List Int)(w:World)(hg:wz w)
  (hn:∀i,i<4->Row w 1 encStr (h.nm i).a (h.nm i).n (h.nm i).c (nl i)) (hd:Deep w h es ds ms qs scan dn mn)
include hg hn hd
end
end Yd
