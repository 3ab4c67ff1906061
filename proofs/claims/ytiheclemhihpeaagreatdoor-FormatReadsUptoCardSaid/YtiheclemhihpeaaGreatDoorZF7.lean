import Derived.Test.YtiheclemhihpeaaGreatDoorZLaidK
import Derived.Test.YtiheclemhihpeaaGreatDoorZREqL
set_option linter.all false
set_option maxRecDepth 200000
set_option maxHeartbeats 8000000
namespace Yd
open Bool renaming true->U
open Option renaming none->C,some->I
open Go Go.RowKit Go.Proofs Tryz
open Go.Value renaming slice->O
open Yd renaming hid->J
open _root_ renaming List->G,Int->H,trivial->N
theorem aaT{p:Prop}(h:p:=by simp only[];omega):p:=h
theorem aaU{p:Prop}(h:p:=by cases a):p:=h
theorem aaV{p:Prop}(h:p:=by simp only[fK,bD,bO,jW];exact⟨by rw[A];simp only[iC] at f;omega,z⟩):p:=h
theorem aaW{p:Prop}(h:p:=by omega):p:=h
theorem aaX{p:Prop}(h:p:=by simp[fT]):p:=h
theorem aaY{p:Prop}(h:p:=by obtain⟨y,_,rfl⟩:=eZ.1 a;rfl):p:=h
theorem aaZ{p:Prop}(h:p:=by have:=h.n;omega):p:=h
theorem aa0{p:Prop}(h:p:=by rw[hn];simp):p:=h
theorem aa1{p:Prop}(h:p:=by have:=k.n;omega):p:=h
variable{n:H}{a b:Nat}
theorem dz (h:bf n a=U)(e:a<=b):bf n b=U:=by
 grind [bf]
theorem zX {v:je}(h:gJ v a=U)(e:a<=b):gJ v b=U:=by
 grind [gJ,dz]
theorem Ka {s:Sn}{c d:Nat}(h:ji a c s=U)(e:a<=b)(f:c<=d):ji b d s=U:=by
 grind [ji,dz,zX]
variable{e:EvC}{i:Nat}
theorem Mj {l:G Sn}{c d f g c':Nat}(h:hasB a b c d e l=U)(ha:a<=f)(j:b<=g)(hc:c<=c')(m:d<=i):hasB f g c' i e l=U:=by
 grind [hasB,dz,zX,Ka]
theorem OZ {l:G Sn}{c d f g c':Nat}(h:gY a b c d e l=U)(ha:a<=f)(j:b<=g)(hc:c<=c')(m:d<=i):gY f g c' i e l=U:=by
 grind [gY,dz,Mj]
def mh (c:Cont):Prop:=∀i,(c.nl i).Nodup/\∀s∈c.nl i,bW ⟨s.toArray⟩=U
variable{c:Cont}
theorem mh.put (h:mh c)(i:Nat){s:Bs}(b:bW ⟨s.toArray⟩=U):mh (c.put i s):=λj=>by
 show(if j=i then bV (c.nl i) s else c.nl j).Nodup/\∀x∈(if j=i then bV (c.nl i) s else c.nl j),bW ⟨x.toArray⟩=U
 split
 .refine⟨yF (h i).1,λx a=>?_⟩
  unfold bV at a
  split at a
  .exact(h i).2 x a
  .rcases cu.1 a with a|a
   .exact(h i).2 x a
   .rw[dw.1 a];exact b
 .exact h j
theorem mh.bF (h:mh c){v:To}(a:nW v):mh (c.bF v).1:=by
 unfold Cont.bF;rcases a with rfl|⟨b,e,_⟩
 .grind
 .rw[ay ah];exact h.put 0 b
theorem mh.ts:∀(l:G Bs){c:Cont},mh c->(∀s∈l,bW ⟨s.toArray⟩=U)->mh (c.ts l).1
 |[],_,h,_=>h
 |s::r,_,h,a=>mh.ts r (h.put 0 (a s pU)) (λx b=>a x (iM _ b))
theorem mh.sc:∀(l:G (Bs × To)){c:Cont},mh c->(∀p∈l,bW ⟨p.1.toArray⟩=U/\nW p.2)->mh (c.sc l).1
 |[],_,h,_=>h
 |p::r,_,h,a=>mh.sc r ((h.put 2 (a p pU).1).bF (a p pU).2) (λx b=>a x (iM _ b))
theorem fQ (c:Cont)(i:Nat)(s:Bs):bf (c.no i s) ((c.put i s).nl i).length=U:=by
 have h:=KN (c.nl i) s;have e:(c.put i s).nl i=bV (c.nl i) s:=aA rfl
 grind [bf,Cont.no]
variable{d:Cont}
theorem Gr.len (h:Gr c d)(i:Nat):(c.nl i).length<=(d.nl i).length:=(h.n i).length_le
theorem IG (c:Cont){v:To}(a:nW v):gJ (c.bF v).2 ((c.bF v).1.nl 0).length=U:=by
 unfold Cont.bF;rcases a with rfl|⟨_,b,e⟩
 .rw[aA rfl];rfl
 .rw[ay ah]
  unfold gJ;rw[ay aaT];simp only[fQ,bG b,bG e,Bool.and_self]
theorem Kb:∀(l:G Bs)(c:Cont),(∀x∈(c.ts l).2,bf x ((c.ts l).1.nl 0).length=U)/\(c.ts l).2.length=l.length
 |[],_=>⟨λx a=>aaU,rfl⟩
 |s::r,c=>by
  obtain⟨b,e⟩:=Kb r (c.put 0 s);refine⟨λx a=>?_,?_⟩
  .rcases dP.1 a with rfl|a
   .exact dz (fQ c 0 s) ((Gr.ts r (c.put 0 s)).len 0)
   .exact b x a
  .show(_::_).length=_
   rw[iC,e];rfl
theorem P7:∀(l:G (Bs × To))(c:Cont),(∀p∈l,nW p.2)->(∀x∈(c.sc l).2,ji ((c.sc l).1.nl 0).length ((c.sc l).1.nl 2).length x=U)/\(c.sc l).2.length=l.length
 |[],_,_=>⟨λx a=>aaU,rfl⟩
 |p::r,c,b=>by
  have f:=b p pU;obtain⟨g,i⟩:=P7 r ((c.put 2 p.1).bF p.2).1 (λx a=>b x (iM _ a));have e:=Gr.sc r ((c.put 2 p.1).bF p.2).1;refine⟨λx a=>?_,?_⟩
  .rcases dP.1 a with rfl|a
   .show ji (((c.put 2 p.1).bF p.2).1.sc r|>.1.nl 0).length (((c.put 2 p.1).bF p.2).1.sc r|>.1.nl 2).length ⟨c.no 2 p.1,((c.put 2 p.1).bF p.2).2⟩=U
    simp only[ji,bD];exact⟨dz (fQ c 2 p.1) (((Gr.bF (c.put 2 p.1) p.2).trans e).len 2),zX (IG (c.put 2 p.1) f) (e.len 0)⟩
   .exact g x a
  .show(_::_).length=_
   rw[iC,i];rfl
structure gX (c:Cont):Prop where
 nm:mh c
 le:c.E.length=c.SE.length
 ld:c.D.length=c.SD.length
 lm:c.M.length=c.SM.length
 ev:∀p∈c.E.zip c.SE,gY (c.nl 0).length (c.nl 1).length (c.nl 2).length (c.nl 3).length p.1 p.2=U
 od:∀p∈c.D.zip c.SD,bf p.1.obj (c.nl 2).length=U/\fK (c.nl 0).length p.2=U
 ma:∀p∈c.M.zip c.SM,bf p.1.pred (c.nl 3).length=U/\bf p.1.obj (c.nl 2).length=U/\fK (c.nl 0).length p.2=U
 wa:∀x∈c.Q,bf x.gG (c.nl 1).length=U/\0<=x.bits/\x.bits<=15
theorem Bc {l:G H}(h:fK a l=U)(e:a<=b):fK b l=U:=by
 grind [fK,dz]
theorem gX.zero:gX iD:=⟨λ_=>⟨oC,λs hs=>(by cases hs)⟩,rfl,rfl,rfl,λp a=>aaU,λp a=>aaU,λp a=>aaU,λp a=>aaU⟩
theorem gX.grow (h:gX c)(g:Gr c d)(n:Nm c d)(k:mh d):gX d:=by
 refine⟨k,by rw[n.e,n.se];exact h.le,by rw[n.d,n.sd];exact h.ld,by rw[n.m,n.sm];exact h.lm,λp a=>?_,λp a=>?_,λp a=>?_,λx b=>?_⟩
 .rw[n.e,n.se] at a
  exact OZ (h.ev p a) (g.len 0) (g.len 1) (g.len 2) (g.len 3)
 .rw[n.d,n.sd] at a
  have:=h.od p a;exact⟨dz this.1 (g.len 2),Bc this.2 (g.len 0)⟩
 .rw[n.m,n.sm] at a
  have:=h.ma p a;exact⟨dz this.1 (g.len 3),dz this.2.1 (g.len 2),Bc this.2.2 (g.len 0)⟩
 .rw[n.q] at b
  have:=h.wa x b;exact⟨dz this.1 (g.len 1),this.2⟩
theorem tC {β e:Type}{a:G β}{b:G e}(h:a.length=b.length)(x:β)(y:e):(a++[x]).zip (b++[y])=a.zip b++[(x,y)]:=by
 rw[List.zip_append h];rfl
theorem gX.fJ (h:gX c)(e:EvC)(b:G Sn)(f:gY (c.nl 0).length (c.nl 1).length (c.nl 2).length (c.nl 3).length e b=U):gX (c.ev e b):=by
 refine⟨h.nm,?_,h.ld,h.lm,λp g=>?_,h.od,h.ma,h.wa⟩
 .show(c.E++[e]).length=(c.SE++[b]).length
  rw[eX,eX,h.le];rfl
 .have a:p∈(c.E++[e]).zip (c.SE++[b]):=g
  rw[tC h.le] at a;rcases cu.1 a with a|a
  .exact h.ev p a
  .rw[dw.1 a];exact f
theorem gX.Yv (h:gX c)(x:aO)(b:G H)(f:bf x.obj (c.nl 2).length=U/\fK (c.nl 0).length b=U):gX {c with D:=c.D++[x],SD:=c.SD++[b]}:=by
 refine⟨h.nm,h.le,?_,h.lm,h.ev,λp e=>?_,h.ma,h.wa⟩
 .show(c.D++[x]).length=(c.SD++[b]).length
  rw[eX,eX,h.ld];rfl
 .have a:p∈(c.D++[x]).zip (c.SD++[b]):=e
  rw[tC h.ld] at a;rcases cu.1 a with a|a
  .exact h.od p a
  grind
theorem gX.Yw (h:gX c)(x:aP)(b:G H)(f:bf x.pred (c.nl 3).length=U/\bf x.obj (c.nl 2).length=U/\fK (c.nl 0).length b=U):gX {c with M:=c.M++[x],SM:=c.SM++[b]}:=by
 refine⟨h.nm,h.le,h.ld,?_,h.ev,h.od,λp e=>?_,h.wa⟩
 .show(c.M++[x]).length=(c.SM++[b]).length
  rw[eX,eX,h.lm];rfl
 .have a:p∈(c.M++[x]).zip (c.SM++[b]):=e
  rw[tC h.lm] at a;rcases cu.1 a with a|a
  .exact h.ma p a
  grind
theorem gX.Yx (h:gX c)(x:Wa)(b:bf x.gG (c.nl 1).length=U/\0<=x.bits/\x.bits<=15):gX {c with Q:=c.Q++[x]}:=by
 refine⟨h.nm,h.le,h.ld,h.lm,h.ev,h.od,h.ma,λy a=>?_⟩;rcases cu.1 a with a|a
 .exact h.wa y a
 grind
theorem xO {l:G Bs}(h:l.length=2):∃a b,l=[a,b]:=by
 match l,h with
 |[a,b],_=>grind
theorem um {β:Type}{l:G β}(h:l.length=1):∃a,l=[a]:=by
 match l,h with
 |[a],_=>grind
theorem gX.add (h:gX c){l:aK}(hl:fo l)(hf:aR (aT c l)):gX (aT c l):=by
 obtain⟨kd,e,lv,r,fi,bt⟩:=l;obtain⟨i,E,hc⟩:=hl;simp only at i E hc;rcases hc with⟨rfl,f,j,⟨lw,rfl,m,s⟩,o,h6⟩|⟨rfl,f,j,m,s,o⟩|⟨rfl,f,j,m,s,o⟩|⟨rfl,⟨Q,f,j,S⟩,_,m,s,o⟩|⟨rfl,f,j,m,s,o⟩|⟨rfl,f,j,m,s,o⟩|⟨rfl,⟨Q,f,S⟩,j,m,s,o⟩|⟨rfl,⟨Q,f,S⟩,j,m,_,o⟩|⟨rfl,f,j,m,s,⟨bb,rfl,o⟩⟩
 .obtain⟨a,b,rfl⟩:=xO f
  have g:=(Gr.put c 0 a).trans (Gr.put (c.put 0 a) 1 b);have k:=(h.nm.put 0 (i a ak)).put 1 (i b ak)
  apply(h.grow g ((Nm.put c 0 a).trans (Nm.put _ 1 b)) k).fJ _ _
  have t:=dz (fQ c 0 a) ((Gr.put (c.put 0 a) 1 b).len 0)
  grind [gY,hasB,fD,iG,fQ]
 .obtain⟨a,b,rfl⟩:=xO f
  have g:=(Gr.put c 0 a).trans (Gr.put (c.put 0 a) 2 b);have k:=(h.nm.put 0 (i a ak)).put 2 (i b ak)
  apply(h.grow g ((Nm.put c 0 a).trans (Nm.put _ 2 b)) k).fJ _ _
  have t:=dz (fQ c 0 a) ((Gr.put (c.put 0 a) 2 b).len 0);have u:=fQ (c.put 0 a) 2 b;have hk:((fI c.E (c.no 0 a) ((c.put 0 a).no 2 b):H)+1)<=999:=hf.2.2.2.2.2 _ (nu _ pU) rfl
  grind [gY,hasB,fD,gJ,fI]
 .obtain⟨a,b,rfl⟩:=xO f
  obtain⟨v,rfl⟩:=um j;have β:=E v ak;have g:=((Gr.put c 0 a).trans (Gr.put (c.put 0 a) 2 b)).trans (Gr.bF _ v);have k:=((h.nm.put 0 (i a ak)).put 2 (i b ak)).bF β
  apply(h.grow g (((Nm.put c 0 a).trans (Nm.put _ 2 b)).trans (Nm.bF _ v)) k).fJ _ _
  have t:=dz (fQ c 0 a) (((Gr.put (c.put 0 a) 2 b).trans (Gr.bF _ v)).len 0);have u:=dz (fQ (c.put 0 a) 2 b) ((Gr.bF _ v).len 2)
  grind [gY,hasB,fD,IG]
 .match e,f with
  |a::b::e,f=>
  have Z:∀p∈e.zip r,bW ⟨p.1.toArray⟩=U/\nW p.2:=λp y=>⟨i _ (iM _ (iM _ (List.of_mem_zip y).1)),E _ (List.of_mem_zip y).2⟩
  have g:=((Gr.put c 0 a).trans (Gr.put (c.put 0 a) 3 b)).trans (Gr.sc (e.zip r) _);have k:=mh.sc (e.zip r) ((h.nm.put 0 (i a ak)).put 3 (i b ak)) Z
  apply(h.grow g (((Nm.put c 0 a).trans (Nm.put _ 3 b)).trans (Nm.sc (e.zip r) _)) k).fJ _ _
  have t:=dz (fQ c 0 a) (((Gr.put (c.put 0 a) 3 b).trans (Gr.sc (e.zip r) _)).len 0);have u:=dz (fQ (c.put 0 a) 3 b) ((Gr.sc (e.zip r) _).len 3);obtain⟨z,A⟩:=P7 (e.zip r) ((c.put 0 a).put 3 b) (λp y=>(Z p y).2)
  grind [gY,hasB,fD,ji]
 .obtain⟨a,rfl⟩:=um f
  apply(h.grow (Gr.put c 0 a) (Nm.put c 0 a) (h.nm.put 0 (i a ak))).fJ _ _
  grind [gY,hasB,fD,fQ]
 .obtain⟨a,rfl⟩:=um f
  apply(h.grow (Gr.put c 0 a) (Nm.put c 0 a) (h.nm.put 0 (i a ak))).fJ _ _
  grind [gY,hasB,fD,fQ]
 .match e,f with
  |a::e,f=>
  have g:=(Gr.put c 2 a).trans (Gr.ts e (c.put 2 a));have k:=mh.ts e (h.nm.put 2 (i a ak)) (λx P=>i x (iM _ P));have n:=(Nm.put c 2 a).trans (Nm.ts e (c.put 2 a));have t:=dz (fQ c 2 a) ((Gr.ts e (c.put 2 a)).len 2);obtain⟨z,A⟩:=Kb e (c.put 2 a);have:=(h.grow g n k).Yv ⟨c.no 2 a,C,0,0⟩ ((c.put 2 a).ts e).2 ⟨t,aaV⟩;rw[n.d,n.sd] at this;exact this
 .match e,f with
  |a::b::e,f=>
  have g:=((Gr.put c 3 a).trans (Gr.put (c.put 3 a) 2 b)).trans (Gr.ts e _);have k:=mh.ts e ((h.nm.put 3 (i a ak)).put 2 (i b ak)) (λx P=>i x (iM _ (iM _ P)));have n:=((Nm.put c 3 a).trans (Nm.put (c.put 3 a) 2 b)).trans (Nm.ts e _);have t:=dz (fQ c 3 a) (((Gr.put (c.put 3 a) 2 b).trans (Gr.ts e _)).len 3);have u:=dz (fQ (c.put 3 a) 2 b) ((Gr.ts e _).len 2);obtain⟨z,A⟩:=Kb e ((c.put 3 a).put 2 b);have:=(h.grow g n k).Yw ⟨c.no 3 a,(c.put 3 a).no 2 b,fi,C,0,0⟩ (((c.put 3 a).put 2 b).ts e).2 ⟨t,u,aaV⟩;rw[n.m,n.sm] at this;exact this
 .obtain⟨a,rfl⟩:=um f
  have n:=Nm.put c 1 a;have:=(h.grow (Gr.put c 1 a) n (h.nm.put 1 (i a ak))).Yx ⟨c.no 1 a,(bb:H)⟩ ⟨fQ c 1 a,aaT,aaT⟩;rw[n.q] at this;exact this
def bE (c:Cont):G (H × H):=
 (c.E.zip c.SE).flatMap (λp=>fT p.1 p.2)++(c.D.zip c.SD).flatMap (λp=>jI p.1 p.2)++(c.M.zip c.SM).flatMap (λp=>kI p.1 p.2)++c.Q.flatMap ny
def bX (l:G H)(n:H):H:=if n∈l then(l.idxOf n:H) else -1
def jc (F:H->G H)(v:je):je:=if 0<v.k then⟨bX (F 0) v.t,v.k⟩ else v
def zk (F:H->G H)(s:Sn):Sn:=⟨bX (F 2) s.obj,jc F s.v⟩
def fJ (F:H->G H)(e:EvC):EvC:=
 {wH with kind:=e.kind,t:=bX (F 0) e.t,lvl:=e.lvl,gG:=if e.kind=1 then bX (F 1) e.gG else 0,obj:=if e.kind=2\/e.kind=3 then bX (F 2) e.obj else 0,v:=if e.kind=2\/e.kind=3 then jc F e.v else⟨0,0⟩,pred:=if e.kind=4 then bX (F 3) e.pred else 0}
def aU (l:G Bs)(n:H):Bs:=l.getD n.toNat []
def AZ (F:H->G H)(c:Cont):Cont:=
 ⟨λi=>(F (i:H)).map (aU (c.nl i)),c.E.map (fJ F),c.SE.map (λl=>l.map (zk F)),c.D.map (λx=>⟨bX (F 2) x.obj,C,0,0⟩),c.SD.map (λl=>l.map (bX (F 0))),
 c.M.map (λx=>⟨bX (F 3) x.pred,bX (F 2) x.obj,x.first,C,0,0⟩),c.SM.map (λl=>l.map (bX (F 0))),c.Q.map (λx=>⟨bX (F 1) x.gG,x.bits⟩)⟩
def fG (c:Cont):Cont:=AZ (bZ (bE c)) c
theorem II {l g:G H}(a:l<+:g)(b:n∈l):bX g n=(l.idxOf n:H):=by
 unfold bX;rw[aA (a.subset b)];obtain⟨t,rfl⟩:=a
 grind
theorem Rz {l g:G H}(a:l++[n]<+:g)(b:n∉l):bX g n=(l.length:H):=by
 rw[II a ak,List.idxOf_append,ay b];simp
theorem Gg (l:G H)(n:H):n∈jQ l n:=by
 grind [jQ]
theorem IJ {s:H}(xs:G (H × H)):(s,n)∈xs->n∈bZ xs s:=by
 refine yG (P:=λxs=>(s,n)∈xs->n∈bZ xs s) (λh=>by cases h) (λxs x a h=>?_) xs
 grind [kG,Ci,Gg]
theorem Av {s:H}(xs:G (H × H)):n∈bZ xs s->(s,n)∈xs:=by
 refine yG (P:=λxs=>n∈bZ xs s->(s,n)∈xs) (λh=>by cases h) (λxs x a h=>?_) xs
 grind [jQ,kG]
theorem zG (s:H)(xs:G (H × H)):(bZ xs s).Nodup:=by
 refine yG (P:=λxs=>(bZ xs s).Nodup) oC (λxs x a=>?_) xs
 grind [kG,Ch]
theorem uz {v:je}(h:gJ v b=U):∀x∈ig v,x.1=0/\bf x.2 b=U:=λx a=>by
 unfold ig at a
 split at a
 .rename_i e
  rw[dw.1 a];unfold gJ at h;rw[ay ah] at h;simp only[bD] at h;exact⟨rfl,h.1.1⟩
 .cases a
theorem qJ (h:gX c):∀x∈bE c,∃s:Nat,s<4/\x.1=(s:H)/\bf x.2 (c.nl s).length=U:=by
 intro x a;unfold bE at a;rcases cu.1 a with a|a
 .rcases cu.1 a with a|a
  .rcases cu.1 a with a|a
   .obtain⟨p,f,a⟩:=kU.1 a
    have m:=h.ev p f;obtain⟨e,l⟩:=p;simp only[gY,bD,bO] at m;obtain⟨⟨⟨⟨_,_⟩,o⟩,b⟩,hb⟩:=m;unfold fT at a;rcases cu.1 a with a|a
    .rcases dP.1 a with rfl|a
     .exact⟨0,aaW,rfl,o⟩
     .unfold hasB at b
      split at a
      .rename_i k;rw[aA k] at b
       simp only[bD] at b;rw[dw.1 a];exact⟨1,aaW,rfl,b.1⟩
      .rename_i r;rw[ay r] at b
       split at a
       .rename_i k
        have n:bf e.obj (c.nl 2).length=U/\gJ e.v (c.nl 0).length=U:=by
         by_cases g:e.kind=2
         .rw[aA g] at b
          simp only[bD] at b;exact⟨b.1.1.1,b.1.1.2⟩
         .rw[ay g,aA (k.resolve_left g)] at b
          simp only[bD] at b;exact b
        rcases dP.1 a with rfl|a
        .exact⟨2,aaW,rfl,n.1⟩
        .have:=uz n.2 x a
         exact⟨0,aaW,this.1,this.2⟩
       .rename_i g
        split at a
        .rename_i t
         rw[ay (λe=>g (.inl e)),ay (λe=>g (.inr e)),aA t] at b;simp only[bD] at b;rw[dw.1 a];exact⟨3,aaW,rfl,b.1.1⟩
        .cases a
    .obtain⟨s,hs,a⟩:=kU.1 a
     have u:e.kind=4:=by
      apply Classical.byContradiction
      intro y;have z:l=[]:=by
       unfold fD at hb
       split at hb
       .simp only[bD,bO] at hb;exact hb.2
       .split at hb
        .simp only[bD,bO] at hb;exact hb.2
        .first|(rw[ay y] at hb)|skip
         simp only[bD,bO] at hb;exact hb.2
      subst z;cases hs
     unfold hasB at b;rw[ay ah,ay ah,ay ah,aA u] at b;simp only[bD,jW] at b;have i:=b.2 s hs;simp only[ji,bD] at i;rcases dP.1 a with rfl|a
     .exact⟨2,aaW,rfl,i.1⟩
     .have:=uz i.2 x a
      exact⟨0,aaW,this.1,this.2⟩
   .obtain⟨p,f,a⟩:=kU.1 a
    have ho:=h.od p f;unfold jI at a;rcases dP.1 a with rfl|a
    .exact⟨2,aaW,rfl,ho.1⟩
    .obtain⟨d,j,rfl⟩:=eZ.1 a
     have:=ho.2;simp only[fK,bD,jW] at this;exact⟨0,aaW,rfl,this.2 d j⟩
  .obtain⟨p,f,a⟩:=kU.1 a
   have ho:=h.ma p f;unfold kI at a;rcases dP.1 a with rfl|a
   .exact⟨3,aaW,rfl,ho.1⟩
   .rcases dP.1 a with rfl|a
    .exact⟨2,aaW,rfl,ho.2.1⟩
    .obtain⟨d,j,rfl⟩:=eZ.1 a
     have:=ho.2.2;simp only[fK,bD,jW] at this;exact⟨0,aaW,rfl,this.2 d j⟩
 .obtain⟨p,f,a⟩:=kU.1 a
  have ho:=h.wa p f;unfold ny at a;rw[dw.1 a];exact⟨1,aaW,rfl,ho.1⟩
theorem kK {l:G H}(h:n∈l):bf (bX l n) l.length=U:=by
 grind [bX,bf]
theorem BI {m:Nat}(h:bf n m=U):∃k:Nat,n=(k:H)/\k<m:=by
 simp only[bf,bD,bO] at h;exact⟨n.toNat,aaW,aaW⟩
variable{k:Nat}
theorem vO (l:G Bs)(h:k<l.length):aU l (k:H)=l[k]:=by
 grind [aU]
theorem BJ {l:G Bs}(a:l.Nodup){j:Nat}(b:i<l.length)(f:j<l.length)(e:l[i]=l[j]):i=j:=by
 grind [Nat.lt_trichotomy,List.pairwise_iff_getElem]
variable{p:G H}
theorem O0 {l:G Bs}(a:l.Nodup)(h:∀n∈p,bf n l.length=U)(b:p.Nodup):(p.map (aU l)).Nodup/\∀s∈p.map (aU l),s∈l:=by
 grind [List.Pairwise.imp_of_mem,BI,vO,BJ,List.getElem_mem]
theorem mh.number (h:gX c):mh (fG c):=λi=>by
 show((bZ (bE c) (i:H)).map (aU (c.nl i))).Nodup/\∀s∈(bZ (bE c) (i:H)).map (aU (c.nl i)),bW ⟨s.toArray⟩=U;have a:∀n∈bZ (bE c) (i:H),bf n (c.nl i).length=U:=λn hn=>by
  obtain⟨s,_,hs,a⟩:=qJ h _ (Av _ hn);have:i=s:=Int.ofNat_inj.1 hs;subst this;exact a
 obtain⟨b,e⟩:=O0 (h.nm i).1 a (zG _ _);exact⟨b,λs hs=>(h.nm i).2 s (e s hs)⟩
theorem Gh {F:H->G H}{v:je}(h:gJ v b=U)(e:∀x∈ig v,x.2∈F 0):gJ (jc F v) (F 0).length=U:=by
 unfold jc;by_cases a:0<v.k
 .rw[aA a]
  unfold gJ at h ⊢;rw[ay ah] at h;rw[ay aaT];simp only[bD] at h ⊢;have:v.t∈F 0:=e (0,v.t) (by unfold ig;rw[aA a];simp)
  grind [kK]
 grind [gJ]
theorem Ww {F:H->G H}{s:Sn}(h:ji b a s=U)(e:s.obj∈F 2)(f:∀x∈ig s.v,x.2∈F 0):ji (F 0).length (F 2).length (zk F s)=U:=by
 simp only[ji,bD] at h ⊢;exact⟨kK e,Gh h.2 f⟩
theorem Wx {F:H->G H}{l:G Sn}{z A E:Nat}(h:gY b z A E e l=U)(f:∀x∈fT e l,x.2∈F x.1):gY (F 0).length (F 1).length (F 2).length (F 3).length (fJ F e) (l.map (zk F))=U:=by
 obtain⟨j,t,P,Z,u,v,Q,sa,sn,sc⟩:=e;simp only[gY,bD,bO] at h;obtain⟨⟨⟨⟨h1,h7⟩,ht⟩,a⟩,hb⟩:=h;have S:t∈F 0:=f (0,t) aaX;have m:=kK S;have o:j=1\/j=2\/j=3\/j=4\/j=5\/j=6:=by omega
 rcases o with rfl|rfl|rfl|rfl|rfl|rfl
 .simp[hasB,fD] at a hb
  have i:=kK (f (1,P) aaX);obtain⟨⟨⟨_,_⟩,_⟩,rfl⟩:=hb;simp[gY,hasB,fD,fJ,m,i,a.2]
 .simp[hasB,fD] at a hb
  have i:=kK (f (2,u) aaX);have p:=Gh (F:=F) a.1.1.2 (λx g=>by have:=f x (by simp[fT,g]);have n:=(uz a.1.1.2 x g).1;rw[n] at this;exact this);obtain⟨⟨⟨_,rfl⟩,_⟩,rfl⟩:=hb;have o:0<v.k:=a.2;have y:(jc F v).t=bX (F 0) t/\0<(jc F v).k:=by unfold jc;rw[aA o];exact⟨by rw[a.1.2],o⟩
  simp[gY,hasB,fD,fJ,m,i,p,y.1,y.2]
 .simp[hasB,fD] at a hb
  have i:=kK (f (2,u) aaX);have p:=Gh (F:=F) a.2 (λx g=>by have:=f x (by simp[fT,g]);have n:=(uz a.2 x g).1;rw[n] at this;exact this);obtain⟨⟨⟨_,rfl⟩,_⟩,rfl⟩:=hb;simp[gY,hasB,fD,fJ,m,i,p]
 .simp[hasB,fD] at a hb
  have i:=kK (f (3,Q) aaX);obtain⟨⟨⟨_,rfl⟩,_⟩,_⟩:=hb;have hs:∀s∈l,ji (F 0).length (F 2).length (zk F s)=U:=λs hs=>by
   have r:=a.2 s hs;refine Ww r (f (2,s.obj) ?_) (λx g=>?_)
   .unfold fT;refine nu _ (kU.2 ⟨s,hs,by simp⟩)
   .have:=f x (by unfold fT;exact nu _ (kU.2 ⟨s,hs,iM _ g⟩))
    simp only[ji,bD] at r;have n:=(uz r.2 x g).1;rw[n] at this;exact this
  simp[gY,hasB,fD,fJ,m,i,a.1.2];exact hs
 .simp[hasB,fD] at a hb
  obtain⟨⟨⟨⟨⟨_,rfl⟩,_⟩,_⟩,_⟩,rfl⟩:=hb;simp[gY,hasB,fD,fJ,m]
 .simp[hasB,fD] at a hb
  obtain⟨⟨⟨⟨⟨_,rfl⟩,_⟩,_⟩,_⟩,rfl⟩:=hb;simp[gY,hasB,fD,fJ,m]
theorem BK {β a γ δ:Type}(f:β->γ)(g:a->δ)(xs:G β)(b:G a):(xs.map f).zip (b.map g)=(xs.zip b).map (λp=>(f p.1,g p.2)):=by
 rw[List.zip_map];rfl
theorem Gi {F:H->G H}{l:G H}(h:fK b l=U)(a:∀d∈l,d∈F 0):fK (F 0).length (l.map (bX (F 0)))=U:=by
 grind [fK,kK]
theorem gX.number (h:gX c):gX (fG c):=by
 have g:∀x∈bE c,x.2∈bZ (bE c) x.1:=λx a=>IJ _ a
 have j:∀i:Nat,((fG c).nl i).length=(bZ (bE c) (i:H)).length:=λi=>bC _
 have m:=j 0;have r:=j 1;have n:=j 2;have s:=j 3;refine⟨mh.number h,?_,?_,?_,λp f=>?_,λp f=>?_,λp f=>?_,λx a=>?_⟩
 .show(c.E.map _).length=(c.SE.map _).length
  rw[bC,bC];exact h.le
 .show(c.D.map _).length=(c.SD.map _).length
  rw[bC,bC];exact h.ld
 .show(c.M.map _).length=(c.SM.map _).length
  rw[bC,bC];exact h.lm
 .have e:p∈(c.E.map (Yd.fJ (bZ (bE c)))).zip (c.SE.map (λl=>l.map (zk (bZ (bE c))))):=f
  rw[BK] at e;obtain⟨q,b,rfl⟩:=eZ.1 e;rw[m,r,n,s];exact Wx (h.ev q b) (λx a=>g x (by unfold bE;exact qX _ (qX _ (qX _ (kU.2 ⟨q,b,a⟩)))))
 .have e:p∈(c.D.map (λx=>(⟨bX (bZ (bE c) 2) x.obj,C,0,0⟩:aO))).zip (c.SD.map (λl=>l.map (bX (bZ (bE c) 0)))):=f
  rw[BK] at e;obtain⟨q,b,rfl⟩:=eZ.1 e;have a:=λx (a:x∈jI q.1 q.2)=>g x (by unfold bE;exact qX _ (qX _ (nu _ (kU.2 ⟨q,b,a⟩))))
  rw[m,n];exact⟨kK (a (2,q.1.obj) (by simp[jI])),Gi (h.od q b).2 (λd o=>a (0,d) (by simp[jI,o]))⟩
 .have e:p∈(c.M.map (λx=>(⟨bX (bZ (bE c) 3) x.pred,bX (bZ (bE c) 2) x.obj,x.first,C,0,0⟩:aP))).zip (c.SM.map (λl=>l.map (bX (bZ (bE c) 0)))):=f
  rw[BK] at e;obtain⟨q,b,rfl⟩:=eZ.1 e;have a:=λx (a:x∈kI q.1 q.2)=>g x (by unfold bE;exact qX _ (nu _ (kU.2 ⟨q,b,a⟩)))
  rw[m,n,s];exact⟨kK (a (3,q.1.pred) (by simp[kI])),kK (a (2,q.1.obj) (by simp[kI])),Gi (h.ma q b).2.2 (λd o=>a (0,d) (by simp[kI,o]))⟩
 .have t:x∈c.Q.map (λx=>(⟨bX (bZ (bE c) 1) x.gG,x.bits⟩:Wa)):=a
  obtain⟨q,b,rfl⟩:=eZ.1 t;have a:=λx (a:x∈ny q)=>g x (by unfold bE;exact nu _ (kU.2 ⟨q,b,a⟩))
  rw[r];exact⟨kK (a (1,q.gG) (by simp[ny])),(h.wa q b).2⟩
def BL (d:Cont):Prop:=∀i:Nat,i<4->bZ (bE d) (i:H)=up (d.nl i).length
def nU (d:Cont)(xs:G (H × H))(c:Cont):Prop:=∀i:Nat,c.nl i=(d.nl i).take (bZ xs (i:H)).length
variable{xs:G (H × H)}
theorem uZ {a:G (H × H)}(s:H)(h:xs<+:a):bZ xs s<+:bZ a s:=by
 obtain⟨t,rfl⟩:=h;refine yG (P:=λt=>bZ xs s<+:bZ (xs++t) s) (by rw[eG];exact gH _) (λt x b=>?_) t
 grind [Ci]
variable{n:Nat}
theorem UL {l:G H}(h:l<+:up n):l=up l.length:=by
 have b:=List.prefix_iff_eq_take.1 h;have a:=h.length_le;rw[vz] at a;have e:(up n).take l.length=up l.length:=by
  unfold up;rw[<-List.map_take,List.take_range,wJ a]
 rw[<-e];exact b
theorem Mk {l:G Bs}(e:l.Nodup)(f:k<l.length){m:Nat}(j:k<m):(l.take m).idxOf l[k]=k:=by
 have n:k<(l.take m).length:=by rw[dJ];omega
 have g:l[k]∈l.take m:=by
  apply bS (i:=k)
  grind
 have a:=EG g;have b:=List.getElem_idxOf a;rw[List.getElem_take] at b;exact BJ e (by rw[dJ] at a;omega) f b
theorem nU.say (z:BL d)(hn:∀i,(d.nl i).Nodup)(h:nU d xs c){s:Nat}(A:s<4){n:H}(E:xs++[((s:H),n)]<+:bE d):
  nU d (xs++[((s:H),n)]) (c.put s (aU (d.nl s) n))/\c.no s (aU (d.nl s) n)=n:=by
 obtain⟨l,b⟩:=kP (d.nl s);have o:=uZ (s:H) E;rw[z s A] at o;have u:=uZ (s:H) ((fq xs [((s:H),n)]).trans E);rw[z s A] at u;obtain⟨m,P⟩:=kP ((bZ xs (s:H)).length);have Q:bZ xs (s:H)=up m:=by rw[P];exact UL u
 have x:bZ (xs++[((s:H),n)]) (s:H)=jQ (up m) n:=by rw[kG,aA rfl,Q]
 rw[x] at o;obtain⟨k,rfl,g⟩:∃k:Nat,n=(k:H)/\k<l.length:=by
  have a:=o.subset (Gg (up m) n);unfold up at a;obtain⟨k,g,e⟩:=eZ.1 a;exact⟨k,e.symm,by rw[b];exact uN.1 g⟩
 have y:=hn s;rw[<-b] at y;have hc:c.nl s=l.take m:=by rw[b,P];exact h s
 have η:m<=l.length:=by
  have:=u.length_le;rw[vz,Q,vz] at this;rw[b];exact this
 have δ:aU (d.nl s) (k:H)=l[k]:=by rw[<-b];exact vO l g
 rw[δ];have S:∀i:Nat,i≠s->(c.put s l[k]).nl i=(d.nl i).take (bZ (xs++[((s:H),(k:H))]) (i:H)).length:=λi f=>by
  have e1:(c.put s l[k]).nl i=c.nl i:=ay f;have e2:bZ (xs++[((s:H),(k:H))]) (i:H)=bZ xs (i:H):=by rw[kG,ay (λe=>f (Int.ofNat_inj.1 e).symm)]
  rw[e1,e2];exact h i
 have Z:(c.put s l[k]).nl s=bV (l.take m) l[k]:=by
  have:(c.put s l[k]).nl s=bV (c.nl s) l[k]:=aA rfl;rw[this,hc]
 have β:c.no s l[k]=(lQ (l.take m) l[k]:H):=by unfold Cont.no;rw[hc]
 rcases jk k m with p|p
 .have r:l[k]∈l.take m:=by
   apply bS (i:=k)
   rw[List.getElem?_take_of_lt p,dM g]
  refine⟨λi=>?_,?_⟩
  .by_cases f:i=s
   .subst f
    have e:jQ (up m) (k:H)=up m:=by unfold jQ;rw[aA ((KO (Int.natCast_nonneg _)).2 (Int.ofNat_lt.2 p))]
    rw[Z,mq r,x,e,vz,b]
   .exact S i f
  .rw[β,KM r,Mk y g p]
 .have e:jQ (up m) (k:H)=up m++[(k:H)]:=by unfold jQ;rw[ay (λh=>by have:=(KO (Int.natCast_nonneg k)).1 h;omega)]
  rw[e] at o;have ε:k=m:=by
   obtain⟨t,ht⟩:=o;have a:(up (d.nl s).length)[m]?=I (k:H):=by
    rw[<-ht,fP,su (by rw[vz];exact aC _),vz,Nat.sub_self];rfl
   have ζ:m<(d.nl s).length:=by rw[<-b];omega
   rw[Tz ζ] at a;injection a with a;exact(Int.ofNat_inj.1 a).symm
  subst ε;have γ:l[k]∉l.take k:=λr=>by
   obtain⟨j,hj⟩:=List.getElem?_of_mem r;obtain⟨a,h2⟩:=bq.1 hj;rw[dJ] at a;rw[List.getElem_take] at h2;have:=BJ y ah g h2;omega
  refine⟨λi=>?_,?_⟩
  .by_cases f:i=s
   .subst f
    rw[Z,kF γ,x,e,eX,vz,pJ,<-b,eD,dM g];rfl
   .exact S i f
  .rw[β,Hy γ,dJ,wJ ah]
def lZ (l:G Bs)(v:je):To:=if v.k=0 then⟨[],0⟩ else⟨aU l v.t,v.k⟩
section
variable {d:Cont}(ho:BL d)(hn:∀i,(d.nl i).Nodup)
include ho hn
theorem nU.UM (h:nU d xs c){v:je}(a:gJ v b=U)(e:xs++ig v<+:bE d):nU d (xs++ig v) (c.bF (lZ (d.nl 0) v)).1/\(c.bF (lZ (d.nl 0) v)).2=v:=by
 obtain⟨t,k⟩:=v;unfold gJ at a;unfold ig at e ⊢;unfold Cont.bF lZ;by_cases f:k=0
 .grind
 .simp only[ay f] at a ⊢
  simp only[bD,bO] at a;simp only[aA a.1.2] at e ⊢;obtain⟨g,i⟩:=h.say ho hn (s:=0) ah e
  grind
theorem nU.UN:∀(a:G H){c:Cont}{xs:G (H × H)},nU d xs c->xs++a.map (λt=>((0:H),t))<+:bE d->nU d (xs++a.map (λt=>((0:H),t))) (c.ts (a.map (aU (d.nl 0)))).1/\(c.ts (a.map (aU (d.nl 0)))).2=a
 |[],c,xs,h,_=>by rw[lW,eG];exact⟨h,rfl⟩
 |t::a,c,xs,h,b=>by
  have e:xs++(t::a).map (λt=>((0:H),t))=(xs++[((0:H),t)])++a.map (λt=>((0:H),t)):=by simp
  rw[e] at b ⊢;obtain⟨f,g⟩:=h.say ho hn (s:=0) ah ((fq _ _).trans b);obtain⟨i,j⟩:=nU.UN a f b;exact⟨i,by show _::_=_;rw[g,j]⟩
theorem nU.Xm:∀(a:G Sn){c:Cont}{xs:G (H × H)},nU d xs c->(∀s∈a,gJ s.v (d.nl 0).length=U)->xs++a.flatMap (λs=>((2:H),s.obj)::ig s.v)<+:bE d->
  nU d (xs++a.flatMap (λs=>((2:H),s.obj)::ig s.v)) (c.sc (a.map (λq=>(aU (d.nl 2) q.obj,lZ (d.nl 0) q.v)))).1/\(c.sc (a.map (λq=>(aU (d.nl 2) q.obj,lZ (d.nl 0) q.v)))).2=a
 |[],c,xs,h,_,_=>by rw[List.flatMap_nil,eG];exact⟨h,rfl⟩
 |s::a,c,xs,h,f,b=>by
  have e:xs++(s::a).flatMap (λs=>((2:H),s.obj)::ig s.v)=((xs++[((2:H),s.obj)])++ig s.v)++a.flatMap (λs=>((2:H),s.obj)::ig s.v):=by simp
  rw[e] at b ⊢;obtain⟨g,i⟩:=h.say ho hn (s:=2) ah (((fq _ _).trans (fq _ _)).trans b);obtain⟨j,m⟩:=g.UM ho hn (f s pU) ((fq _ _).trans b);obtain⟨n,o⟩:=nU.Xm a j (λx p=>f x (iM _ p)) b;refine⟨n,?_⟩;show _::_=_;rw[o]
  congr 1
  rw[i,m]
end
theorem UO (c:Cont)(a b:Bs)(e:H):aT c ⟨1,[a,b],e,[],false,0⟩=((c.put 0 a).put 1 b).ev {wH with kind:=1,t:=c.no 0 a,gG:=(c.put 0 a).no 1 b,lvl:=e} []:=rfl
theorem UQ (c:Cont)(a b:Bs):aT c ⟨2,[a,b],0,[],false,0⟩=((c.put 0 a).put 2 b).ev {wH with kind:=2,t:=c.no 0 a,obj:=(c.put 0 a).no 2 b,v:=⟨c.no 0 a,(fI c.E (c.no 0 a) ((c.put 0 a).no 2 b):H)+1⟩} []:=rfl
theorem UR (c:Cont)(a b:Bs)(v:To):aT c ⟨3,[a,b],0,[v],false,0⟩=(((c.put 0 a).put 2 b).bF v).1.ev {wH with kind:=3,t:=c.no 0 a,obj:=(c.put 0 a).no 2 b,v:=(((c.put 0 a).put 2 b).bF v).2} []:=rfl
theorem UU (c:Cont)(a b:Bs)(e:G Bs)(f:G To):aT c ⟨4,[a,b]++e,0,f,false,0⟩=(((c.put 0 a).put 3 b).sc (e.zip f)).1.ev {wH with kind:=4,t:=c.no 0 a,pred:=(c.put 0 a).no 3 b} (((c.put 0 a).put 3 b).sc (e.zip f)).2:=rfl
theorem UW (c:Cont)(a:Bs):aT c ⟨5,[a],0,[],false,0⟩=(c.put 0 a).ev {wH with kind:=5,t:=c.no 0 a} []:=rfl
theorem UY (c:Cont)(a:Bs):aT c ⟨6,[a],0,[],false,0⟩=(c.put 0 a).ev {wH with kind:=6,t:=c.no 0 a} []:=rfl
theorem UZ (c:Cont)(a:Bs)(b:G Bs):aT c ⟨7,[a]++b,0,[],false,0⟩={((c.put 2 a).ts b).1 with D:=c.D++[⟨c.no 2 a,C,0,0⟩],SD:=c.SD++[((c.put 2 a).ts b).2]}:=rfl
theorem U0 (c:Cont)(a b:Bs)(e:G Bs)(f:Bool):aT c ⟨8,[a,b]++e,0,[],f,0⟩={(((c.put 3 a).put 2 b).ts e).1 with M:=c.M++[⟨c.no 3 a,(c.put 3 a).no 2 b,f,C,0,0⟩],SM:=c.SM++[(((c.put 3 a).put 2 b).ts e).2]}:=rfl
theorem U1 (c:Cont)(a:Bs)(b:H):aT c ⟨9,[a],0,[],false,b⟩={c.put 1 a with Q:=c.Q++[⟨c.no 1 a,b⟩]}:=rfl
def mH (d:Cont)(e:EvC)(a:G Sn):aK:=
 if e.kind=1 then⟨e.kind,[aU (d.nl 0) e.t,aU (d.nl 1) e.gG],e.lvl,[],false,0⟩
 else if e.kind=2 then⟨e.kind,[aU (d.nl 0) e.t,aU (d.nl 2) e.obj],0,[],false,0⟩
 else if e.kind=3 then⟨e.kind,[aU (d.nl 0) e.t,aU (d.nl 2) e.obj],0,[lZ (d.nl 0) e.v],false,0⟩
 else if e.kind=4 then⟨e.kind,[aU (d.nl 0) e.t,aU (d.nl 3) e.pred]++a.map (λq=>aU (d.nl 2) q.obj),0,a.map (λq=>lZ (d.nl 0) q.v),false,0⟩
 else⟨e.kind,[aU (d.nl 0) e.t],0,[],false,0⟩
structure Added (c z:Cont)(e:EvC)(l:G Sn):Prop where
 E:z.E=c.E++[e]
 SE:z.SE=c.SE++[l]
 D:z.D=c.D
 SD:z.SD=c.SD
 M:z.M=c.M
 SM:z.SM=c.SM
 Q:z.Q=c.Q
variable{z:Cont}
theorem Added.of (n:Nm c z)(e:EvC)(l:G Sn):Added c (z.ev e l) e l:=
 ⟨by show z.E++[e]=_;rw[n.e],by show z.SE++[l]=_;rw[n.se],n.d,n.sd,n.m,n.sm,n.q⟩
theorem Gj {β a γ:Type}(f:β->a)(g:β->γ):∀l:G β,(l.map f).zip (l.map g)=l.map (λx=>(f x,g x))
 |[]=>rfl
 |x::l=>by rw[kW,kW,List.zip_cons_cons,Gj f g l];rfl
theorem nU.event (f:BL d)(g:∀i,(d.nl i).Nodup)(h:nU d xs c){l:G Sn}{no np:Nat}(he:gY (d.nl 0).length b no np e l=U)(hb:e.base=e)
  (a:xs++fT e l<+:bE d) (hk:e.kind=2->e.v.k=(fI c.E e.t e.obj:H)+1):nU d (xs++fT e l) (aT c (mH d e l))/\Added c (aT c (mH d e l)) e l:=by
 obtain⟨x,t,E,Q,j,v,P,sa,sn,sc⟩:=e;have γ:(⟨x,t,E,Q,j,v,P,C,0,0⟩:EvC)=⟨x,t,E,Q,j,v,P,sa,sn,sc⟩:=hb;simp only[EvC.mk.injEq,true_and] at γ;obtain⟨rfl,rfl,rfl⟩:=γ;simp only[gY,bD,bO] at he;obtain⟨⟨⟨⟨h1,S⟩,_⟩,y⟩,m⟩:=he;have δ:x=1\/x=2\/x=3\/x=4\/x=5\/x=6:=by omega
 rcases δ with rfl|rfl|rfl|rfl|rfl|rfl
 .simp[fD] at m
  obtain⟨⟨⟨rfl,rfl⟩,rfl⟩,rfl⟩:=m;have o:fT ⟨1,t,E,Q,0,⟨0,0⟩,0,C,0,0⟩ []=[((0:H),t)]++[((1:H),E)]:=rfl;rw[o] at a ⊢;rw[<-fP] at a ⊢;obtain⟨p,r⟩:=h.say f g (s:=0) ah ((fq _ _).trans a);obtain⟨z,A⟩:=p.say f g (s:=1) ah a;have u:mH d ⟨1,t,E,Q,0,⟨0,0⟩,0,C,0,0⟩ []=⟨1,[aU (d.nl 0) t,aU (d.nl 1) E],Q,[],false,0⟩:=rfl;rw[u,UO,r,A];exact⟨z,Added.of ((Nm.put _ _ _).trans (Nm.put _ _ _)) _ _⟩
 .simp[fD] at m
  simp[hasB] at y;obtain⟨⟨⟨rfl,rfl⟩,rfl⟩,rfl⟩:=m;have β:=hk rfl;simp only at β;obtain⟨n,vk⟩:=v;simp only at β y;obtain⟨⟨⟨_,_⟩,rfl⟩,ε⟩:=y;have o:fT ⟨2,n,0,0,j,⟨n,vk⟩,0,C,0,0⟩ []=[((0:H),n)]++([((2:H),j)]++[((0:H),n)]):=by
   unfold fT ig;simp[ε]
  rw[o] at a ⊢;rw[<-fP,<-fP] at a ⊢;obtain⟨p,r⟩:=h.say f g (s:=0) ah (((fq _ _).trans (fq _ _)).trans a);obtain⟨z,A⟩:=p.say f g (s:=2) ah ((fq _ _).trans a);obtain⟨Z,S⟩:=z.say f g (s:=0) ah a;have u:mH d ⟨2,n,0,0,j,⟨n,vk⟩,0,C,0,0⟩ []=⟨2,[aU (d.nl 0) n,aU (d.nl 2) j],0,[],false,0⟩:=rfl;rw[u,UQ,r,A,<-β];refine⟨λi=>?_,Added.of ((Nm.put _ _ _).trans (Nm.put _ _ _)) _ _⟩;refine Eq.trans ?_ (Z i);show _=(if i=0 then bV (((c.put 0 (aU (d.nl 0) n)).put 2 (aU (d.nl 2) j)).nl 0) (aU (d.nl 0) n) else((c.put 0 (aU (d.nl 0) n)).put 2 (aU (d.nl 2) j)).nl i);by_cases hi:i=0
  .subst hi
   rw[aA rfl,mq]
   .rfl
   .have h9:((c.put 0 (aU (d.nl 0) n)).put 2 (aU (d.nl 2) j)).nl 0=bV (c.nl 0) (aU (d.nl 0) n):=rfl
    rw[h9];exact yE _ _
  .rw[ay hi];rfl
 .simp[fD] at m
  simp[hasB] at y;obtain⟨⟨⟨rfl,rfl⟩,rfl⟩,rfl⟩:=m;have o:fT ⟨3,t,0,0,j,v,0,C,0,0⟩ []=[((0:H),t)]++([((2:H),j)]++ig v):=by
   unfold fT;simp
  rw[o] at a ⊢;rw[<-fP,<-fP] at a ⊢;obtain⟨p,r⟩:=h.say f g (s:=0) ah (((fq _ _).trans (fq _ _)).trans a);obtain⟨z,A⟩:=p.say f g (s:=2) ah ((fq _ _).trans a);obtain⟨Z,S⟩:=z.UM f g y.2 a;have u:mH d ⟨3,t,0,0,j,v,0,C,0,0⟩ []=⟨3,[aU (d.nl 0) t,aU (d.nl 2) j],0,[lZ (d.nl 0) v],false,0⟩:=rfl;rw[u,UR,r,A,S];exact⟨Z,Added.of (((Nm.put _ _ _).trans (Nm.put _ _ _)).trans (Nm.bF _ _)) _ _⟩
 .simp[fD] at m
  simp[hasB] at y;obtain⟨⟨⟨rfl,rfl⟩,rfl⟩,rfl⟩:=m;have o:fT ⟨4,t,0,0,0,⟨0,0⟩,P,C,0,0⟩ l=[((0:H),t)]++([((3:H),P)]++l.flatMap (λs=>((2:H),s.obj)::ig s.v)):=by
   unfold fT;simp
  rw[o] at a ⊢;rw[<-fP,<-fP] at a ⊢;obtain⟨p,r⟩:=h.say f g (s:=0) ah (((fq _ _).trans (fq _ _)).trans a);obtain⟨z,A⟩:=p.say f g (s:=3) ah ((fq _ _).trans a);obtain⟨Z,S⟩:=z.Xm f g l (λs hs=>by
   have:=y.2 s hs;simp only[ji,bD] at this;exact this.2) a
  have u:mH d ⟨4,t,0,0,0,⟨0,0⟩,P,C,0,0⟩ l=⟨4,[aU (d.nl 0) t,aU (d.nl 3) P]++l.map (λq=>aU (d.nl 2) q.obj),0,l.map (λq=>lZ (d.nl 0) q.v),false,0⟩:=rfl;rw[u,UU,Gj,r,A,S];exact⟨Z,Added.of (((Nm.put _ _ _).trans (Nm.put _ _ _)).trans (Nm.sc _ _)) _ _⟩
 .simp[fD] at m
  obtain⟨⟨⟨⟨⟨rfl,rfl⟩,rfl⟩,rfl⟩,rfl⟩,rfl⟩:=m;have o:fT ⟨5,t,0,0,0,⟨0,0⟩,0,C,0,0⟩ []=[((0:H),t)]:=rfl;rw[o] at a ⊢;obtain⟨p,r⟩:=h.say f g (s:=0) ah a;have u:mH d ⟨5,t,0,0,0,⟨0,0⟩,0,C,0,0⟩ []=⟨5,[aU (d.nl 0) t],0,[],false,0⟩:=rfl;rw[u,UW,r];exact⟨p,Added.of (Nm.put _ _ _) _ _⟩
 .simp[fD] at m
  obtain⟨⟨⟨⟨⟨rfl,rfl⟩,rfl⟩,rfl⟩,rfl⟩,rfl⟩:=m;have o:fT ⟨6,t,0,0,0,⟨0,0⟩,0,C,0,0⟩ []=[((0:H),t)]:=rfl;rw[o] at a ⊢;obtain⟨p,r⟩:=h.say f g (s:=0) ah a;have u:mH d ⟨6,t,0,0,0,⟨0,0⟩,0,C,0,0⟩ []=⟨6,[aU (d.nl 0) t],0,[],false,0⟩:=rfl;rw[u,UY,r];exact⟨p,Added.of (Nm.put _ _ _) _ _⟩
def xL (d:Cont)(x:aO)(l:G H):aK:=⟨7,[aU (d.nl 2) x.obj]++l.map (aU (d.nl 0)),0,[],false,0⟩
def xM (d:Cont)(x:aP)(l:G H):aK:=⟨8,[aU (d.nl 3) x.pred,aU (d.nl 2) x.obj]++l.map (aU (d.nl 0)),0,[],x.first,0⟩
def Aw (d:Cont)(x:Wa):aK:=⟨9,[aU (d.nl 1) x.gG],0,[],false,x.bits⟩
structure Has (c:Cont)(pe:G (EvC × G Sn))(pd:G (aO × G H))(pm:G (aP × G H))(pq:G Wa):Prop where
 E:c.E=pe.map Prod.fst
 SE:c.SE=pe.map Prod.snd
 D:c.D=pd.map Prod.fst
 SD:c.SD=pd.map Prod.snd
 M:c.M=pm.map Prod.fst
 SM:c.SM=pm.map Prod.snd
 Q:c.Q=pq
def kg (d:Cont):Prop:=∀a e b,d.E=a++e::b->e.kind=2->e.v.k=(fI a e.t e.obj:H)+1
structure ja (d:Cont):Prop where
 e:∀e∈d.E,e.base=e
 o:∀x∈d.D,x.base=x
 m:∀x∈d.M,x.base=x
theorem nU.order (f:BL d)(g:∀i,(d.nl i).Nodup)(h:nU d xs c){x:aO}{l:G H}{pe pd pm pq}(a:Has c pe pd pm pq)(m:x.base=x)(e:xs++jI x l<+:bE d):
  nU d (xs++jI x l) (aT c (xL d x l))/\Has (aT c (xL d x l)) pe (pd++[(x,l)]) pm pq:=by
 obtain⟨b,o,p,r⟩:=x;have j:(⟨b,C,0,0⟩:aO)=⟨b,o,p,r⟩:=m;simp only[aO.mk.injEq,true_and] at j;obtain⟨rfl,rfl,rfl⟩:=j;have u:jI ⟨b,C,0,0⟩ l=[((2:H),b)]++l.map (λt=>((0:H),t)):=rfl;rw[u] at e ⊢;rw[<-fP] at e ⊢;obtain⟨y,z⟩:=h.say f g (s:=2) ah ((fq _ _).trans e);obtain⟨A,E⟩:=y.UN f g l e;have P:xL d ⟨b,C,0,0⟩ l=⟨7,[aU (d.nl 2) b]++l.map (aU (d.nl 0)),0,[],false,0⟩:=rfl;have n:=(Nm.put c 2 (aU (d.nl 2) b)).trans (Nm.ts (l.map (aU (d.nl 0))) _);rw[P,UZ,z,E];exact⟨A,n.e.trans a.E,n.se.trans a.SE,by show c.D++_=_;rw[a.D,fV];rfl,by show c.SD++_=_;rw[a.SD,fV];rfl,n.m.trans a.M,n.sm.trans a.SM,n.q.trans a.Q⟩
theorem nU.Cq (j:BL d)(m:∀i,(d.nl i).Nodup)(h:nU d xs c){x:aP}{l:G H}{pe pd pm pq}(a:Has c pe pd pm pq)(p:x.base=x)(f:xs++kI x l<+:bE d):
  nU d (xs++kI x l) (aT c (xM d x l))/\Has (aT c (xM d x l)) pe pd (pm++[(x,l)]) pq:=by
 obtain⟨b,e,g,r,u,y⟩:=x;have o:(⟨b,e,g,C,0,0⟩:aP)=⟨b,e,g,r,u,y⟩:=p;simp only[aP.mk.injEq,true_and] at o;obtain⟨rfl,rfl,rfl⟩:=o;have z:kI ⟨b,e,g,C,0,0⟩ l=[((3:H),b)]++([((2:H),e)]++l.map (λt=>((0:H),t))):=rfl;rw[z] at f ⊢;rw[<-fP,<-fP] at f ⊢;obtain⟨A,E⟩:=h.say j m (s:=3) ah (((fq _ _).trans (fq _ _)).trans f);obtain⟨P,Q⟩:=A.say j m (s:=2) ah ((fq _ _).trans f);obtain⟨S,Z⟩:=P.UN j m l f;have e2:xM d ⟨b,e,g,C,0,0⟩ l=⟨8,[aU (d.nl 3) b,aU (d.nl 2) e]++l.map (aU (d.nl 0)),0,[],g,0⟩:=rfl;have n:=((Nm.put c 3 (aU (d.nl 3) b)).trans (Nm.put _ 2 (aU (d.nl 2) e))).trans (Nm.ts (l.map (aU (d.nl 0))) _);rw[e2,U0,E,Q,Z];exact⟨S,n.e.trans a.E,n.se.trans a.SE,n.d.trans a.D,n.sd.trans a.SD,by show c.M++_=_;rw[a.M,fV];rfl,by show c.SM++_=_;rw[a.SM,fV];rfl,n.q.trans a.Q⟩
theorem nU.want (g:BL d)(j:∀i,(d.nl i).Nodup)(h:nU d xs c){x:Wa}{pe pd pm pq}(a:Has c pe pd pm pq)(f:xs++ny x<+:bE d):
  nU d (xs++ny x) (aT c (Aw d x))/\Has (aT c (Aw d x)) pe pd pm (pq++[x]):=by
 obtain⟨b,e⟩:=x;have m:ny ⟨b,e⟩=[((1:H),b)]:=rfl;rw[m] at f ⊢;obtain⟨n,o⟩:=h.say g j (s:=1) ah f;have p:Aw d ⟨b,e⟩=⟨9,[aU (d.nl 1) b],0,[],false,e⟩:=rfl;rw[p,U1,o];exact⟨n,a.E,a.SE,a.D,a.SD,a.M,a.SM,by show c.Q++_=_;rw[a.Q]⟩
def mJ (c:Cont)(a:G aK):Cont:=a.foldl aT c
theorem Gr.all:∀(a:G aK)(c:Cont),Gr c (mJ c a)
 |[],c=>Gr.refl c
 |l::a,c=>(Gr.add c l).trans (Gr.all a _)
section
variable {d:Cont}(ho:BL d)(hn:∀i,(d.nl i).Nodup)(hs:gX d)(hb:ja d)(hc:kg d)
include ho hn hs hb hc
omit hc in
omit hc in
omit hs hb hc in
structure yS (c d:Cont):Prop where
 n:∀i,i<4->c.nl i=d.nl i
 E:c.E=d.E
 SE:c.SE=d.SE
 D:c.D=d.D
 SD:c.SD=d.SD
 M:c.M=d.M
 SM:c.SM=d.SM
 Q:c.Q=d.Q
end
theorem kg.of (h:kg c)(e:z.E=c.E):kg z:=λa x b f g=>h a x b (by rw[<-e];exact f) g
theorem kg.fJ (h:kg c)(e:EvC)(l:G Sn)(m:e.kind=2->e.v.k=(fI c.E e.t e.obj:H)+1):kg (c.ev e l):=by
 intro a x b n j;have f:c.E++[e]=a++x::b:=n;rcases List.eq_nil_or_concat b with rfl|⟨g,y,rfl⟩
 .obtain⟨o,i⟩:=List.append_inj' f rfl
  injection i with i;subst o i;exact m j
 .have p:a++x::(g++[y])=(a++x::g)++[y]:=by simp
  rw[List.concat_eq_append,p] at f;exact h a x g (List.append_inj' f rfl).1 j
theorem kg.zero:kg iD:=λa x b e=>by
 have f:([]:G EvC)=a++x::b:=e;simp at f
theorem kg.add (h:kg c)(l:aK):kg (aT c l):=by
 unfold aT;simp only[]
 split
 .exact kg.fJ (h.of rfl) _ [] (λa=>aaU)
 .split
  .exact kg.fJ (h.of rfl) _ [] (λ_=>rfl)
  .split
   .exact kg.fJ (h.of (((Nm.put _ _ _).trans (Nm.put _ _ _)).trans (Nm.bF _ _)).e) _ [] (λa=>aaU)
   .split
    .exact kg.fJ (h.of (((Nm.put _ _ _).trans (Nm.put _ _ _)).trans (Nm.sc _ _)).e) _ (((c.put 0 (l.names.getD 0 [])).put 3 (l.names.getD 1 [])).sc ((l.names.drop 2).zip l.aM)).2 (λa=>aaU)
    .split
     .rename_i b
      exact kg.fJ (h.of rfl) _ [] (λa=>by
       have e:l.kind=2:=a;omega)
     .split
      .exact h.of ((Nm.put _ _ _).trans (Nm.ts _ _)).e
      .split
       .exact h.of (((Nm.put _ _ _).trans (Nm.put _ _ _)).trans (Nm.ts _ _)).e
       .split
        .exact h.of rfl
        .exact h
theorem kg.all:∀(a:G aK){c:Cont},kg c->kg (mJ c a)
 |[],_,h=>h
 |l::a,_,h=>kg.all a (h.add l)
theorem ja.of (h:ja c)(n:Nm c z):ja z:=⟨by rw[n.e];exact h.e,by rw[n.d];exact h.o,by rw[n.m];exact h.m⟩
theorem ja.fJ (h:ja c)(e:EvC)(l:G Sn)(b:e.base=e):ja (c.ev e l):=
 ⟨λx a=>by
  rcases cu.1 a with a|a
  .exact h.e x a
  .rw[dw.1 a];exact b,h.o,h.m⟩
theorem ja.zero:ja iD:=⟨λx a=>aaU,λx a=>aaU,λx a=>aaU⟩
theorem ja.add (h:ja c)(l:aK):ja (aT c l):=by
 unfold aT;simp only[]
 split
 .exact ja.fJ (h.of ((Nm.put _ _ _).trans (Nm.put _ _ _))) _ _ rfl
 .split
  .exact ja.fJ (h.of ((Nm.put _ _ _).trans (Nm.put _ _ _))) _ _ rfl
  .split
   .exact ja.fJ (h.of (((Nm.put _ _ _).trans (Nm.put _ _ _)).trans (Nm.bF _ _))) _ _ rfl
   .split
    .exact ja.fJ (h.of (((Nm.put _ _ _).trans (Nm.put _ _ _)).trans (Nm.sc _ _))) _ _ rfl
    .split
     .exact ja.fJ (h.of (Nm.put _ _ _)) _ _ rfl
     .split
      .have k:=h.of ((Nm.put c 2 (l.names.getD 0 [])).trans (Nm.ts (l.names.drop 1) _))
       refine⟨k.e,λx a=>?_,k.m⟩;rcases cu.1 a with a|a
       .exact h.o x a
       .rw[dw.1 a];rfl
      .split
       .have k:=h.of (((Nm.put c 3 (l.names.getD 0 [])).trans (Nm.put _ 2 (l.names.getD 1 []))).trans (Nm.ts (l.names.drop 2) _))
        refine⟨k.e,k.o,λx a=>?_⟩;rcases cu.1 a with a|a
        .exact h.m x a
        .rw[dw.1 a];rfl
       .split
        .exact⟨h.e,h.o,h.m⟩
        omega
theorem ja.all:∀(a:G aK){c:Cont},ja c->ja (mJ c a)
 |[],_,h=>h
 |l::a,_,h=>ja.all a (h.add l)
theorem FK {l:aK}(h:l.kind=0):aT c l=c:=by
 grind [aT]
theorem gX.all:∀(a:G aK){c:Cont},gX c->(∀l∈a,l.kind=0\/fo l)->aR (mJ c a)->gX (mJ c a)
 |[],_,h,_,_=>h
 |l::a,c,h,e,f=>gX.all a (c:=aT c l) (by
  rcases e l pU with b|b
  .rw[FK b];exact h
  .exact h.add b ((Gr.all a _).fits f)) (λx g=>e x (iM _ g)) f
theorem ja.number (c:Cont):ja (fG c):=
 ⟨λx a=>aaY,λx a=>aaY,λx a=>aaY⟩
theorem IK {l:G H}{a b:H}(ha:a∈l)(e:b∈l)(h:bX l a=bX l b):a=b:=by
 unfold bX at h;rw[aA ha,aA e] at h;have f:=List.getElem_idxOf (EG ha)
 grind [List.idxOf_lt_length_of_mem,Int.ofNat_inj]
theorem Ml (h:c.E.length=c.SE.length)(a:e∈c.E):((0:H),e.t)∈bE c/\(e.kind=2->((2:H),e.obj)∈bE c):=by
 obtain⟨l,b⟩:∃l,(e,l)∈c.E.zip c.SE:=by
  have:e∈(c.E.zip c.SE).map Prod.fst:=by rw[List.map_fst_zip (by rw[h];exact aC _)];exact a
  grind
 grind [bE,fT]
theorem kg.number (h:kg c)(E:c.E.length=c.SE.length):kg (fG c):=by
 intro a x b P Q;obtain⟨F,s⟩:∃F,F=bZ (bE c):=⟨_,rfl⟩;have S:c.E.map (Yd.fJ F)=a++x::b:=by rw[s];exact P
 obtain⟨Z,r,g,rfl,e2⟩:=List.map_eq_append_iff.1 S;obtain⟨f,b',rfl,rfl,rfl⟩:=List.map_eq_cons_iff.1 e2;have i:f.kind=2:=Q;have h1:=h Z f b' g i;have t:∀e∈c.E,e.t∈F 0/\(e.kind=2->e.obj∈F 2):=λe j=>by
  have:=Ml E j;rw[s]
  grind [IJ]
 have u:=t f (by rw[g];simp);have e3:(Yd.fJ F f).v.k=f.v.k:=by
  unfold Yd.fJ jc
  grind
 rw[e3,h1]
 congr 2
 unfold fI;rw[List.countP_map];refine List.countP_congr (λe j=>?_);have z:=t e (by rw[g];exact qX _ j);have A:∀y:EvC,y.kind=2->(Yd.fJ F y).obj=bX (F 2) y.obj:=λy hy=>by unfold Yd.fJ;simp only[hy,true_or,dG]
 simp only[Function.comp,bD,beq_iff_eq]
 constructor
 .rintro⟨m,n,o⟩
  refine⟨m,cZ (bX (F 0)) n,?_⟩
  grind
 .rintro⟨m,n,o⟩
  have p:e.kind=2:=m;rw[A _ p,A _ i] at o;exact⟨p,IK z.1 u.1 n,IK (z.2 p) (u.2 i) o⟩
structure nQ (w:World)(B:Nat)(l:aW)(s:aK):Prop where
 k:l.kind=s.kind/\l.lvl=s.lvl/\l.first=s.first/\l.bits=s.bits/\l.nn=s.names.length/\l.vn=s.aM.length
 n:Row w 1 encStr l.na l.nn l.nc s.names
 v:Row w 2 pG l.va l.vn l.vc s.aM
 na:∀b o,l.na=I ⟨b,o,C⟩->b<B
 va:∀b o,l.va=I ⟨b,o,C⟩->b<B
theorem Same.row {β:Type}{A:Nat->Prop}{X Y:World}{c:Nat}{enc:β->G Value}{a:Option Addr}{xs:G β}(s:Same A X Y)(h:Row X k enc a n c xs)(ha:∀b o,a=I ⟨b,o,C⟩->A b):Row Y k enc a n c xs:=
 ⟨h.1,h.2.1,h.2.2.1,h.2.2.2.1,λi x g=>(let⟨b,o,e,hc⟩:=h.2.2.2.2 i x g;⟨b,o,e,λj v f=>(World.cell?_of_block (a:=⟨b,o+i*k+j,C⟩) (s.block b (ha b o e) (iw (hc j v f)))).trans (hc j v f)⟩)⟩
variable{v:Value}
theorem Same.cell {A:Nat->Prop}{X Y:World}{o:Nat}(s:Same A X Y)(h:X.cell? ⟨b,o,C⟩=I v)(ha:A b):Y.cell? ⟨b,o,C⟩=I v:=
 (World.cell?_of_block (a:=⟨b,o,C⟩) (s.block b ha (iw h))).trans h
variable{s:aK}
theorem zY (b:fo s)(g:s.kind=5\/s.kind=6\/s.kind=9):∃e,s.names=[e]:=by
 have f:s.names.length=1:=by
  rcases b.2.2 with h|h|h|h|h|h|h|h|h <;> (first|exact h.2.1|(exfalso;have:=h.1;omega))
 match s.names,f with
 |[a],_=>exact⟨a,rfl⟩
theorem names2 (e:fo s)(j:s.kind=1\/s.kind=2\/s.kind=3):∃f g,s.names=[f,g]:=by
 have i:s.names.length=2:=by
  rcases e.2.2 with h|h|h|h|h|h|h|h|h <;> (first|exact h.2.1|(exfalso;have:=h.1;omega))
 match s.names,i with
 |[a,b],_=>exact⟨a,b,rfl⟩
theorem P8 (b:fo s)(g:s.kind=3):∃e,s.aM=[e]:=by
 have f:s.aM.length=1:=by
  rcases b.2.2 with h|h|h|h|h|h|h|h|h <;> (first|exact h.2.2.1|(exfalso;have:=h.1;omega))
 match s.aM,f with
 |[a],_=>exact⟨a,rfl⟩
variable{w:World}{l:aW}
theorem nQ.bF {B:Nat}(h:nQ w B l s){x:To}(f:s.aM[i]?=I x):∃a e,l.va=I ⟨a,e,C⟩/\a<B/\w.cell? ⟨a,e+i*2,C⟩=I (.string ⟨x.name.toArray⟩)/\w.cell? ⟨a,e+i*2+1,C⟩=I (.int .i64 x.k):=by
 obtain⟨b,o,ha,hc⟩:=h.v.2.2.2.2 i x f;exact⟨b,o,ha,h.va b o ha,hc 0 _ rfl,hc 1 _ rfl⟩
theorem nQ.name {B:Nat}(h:nQ w B l s){x:Bs}(f:s.names[i]?=I x):∃a e,l.na=I ⟨a,e,C⟩/\a<B/\w.cell? ⟨a,e+i,C⟩=I (.string ⟨x.toArray⟩):=by
 obtain⟨b,o,ha,hc⟩:=h.n.2.2.2.2 i x f;exact⟨b,o,ha,h.na b o ha,by have:=hc 0 _ rfl;simpa using this⟩
theorem nQ.one {B:Nat}(h:nQ w B l s)(f:Nat){e:Bs}{g:G Bs}(j:s.names=e::g):∃a b,l.na=I ⟨a,b,C⟩/\a<B/\∀X,Same (λi=>i<B\/(f<=i/\i<f+3)) w X->X.cell? ⟨a,b,C⟩=I (.string ⟨e.toArray⟩):=by
 obtain⟨a,b,ha,hb,m⟩:=h.name (i:=0) (x:=e) (by rw[j];rfl);exact⟨a,b,ha,hb,λX n=>n.cell m (.inl hb)⟩
theorem nQ.two {B:Nat}(h:nQ w B l s)(e:Nat){g f:Bs}{o:G Bs}(j:s.names=g::f::o):∃a b,l.na=I ⟨a,b,C⟩/\a<B/\∀X,Same (λi=>i<B\/(e<=i/\i<e+3)) w X->X.cell? ⟨a,b,C⟩=I (.string ⟨g.toArray⟩)/\X.cell? ⟨a,b+1,C⟩=I (.string ⟨f.toArray⟩):=by
 obtain⟨a,b,ha,hb,p⟩:=h.one e j;obtain⟨_,_,m,_,r⟩:=h.name (i:=1) (x:=f) (by rw[j];rfl);rw[ha] at m;cases m;exact⟨a,b,ha,hb,λX n=>⟨p X n,n.cell r (.inl hb)⟩⟩
structure dS (B K:Nat)(w W:World)(R:Nat)(l:aW)(c0 cs:Array Value)(c:Cont)(es:G EvC)(ds:G aO)(ms:G aP):Prop where
 r:gZ B W R cs c es ds ms
 f:aR c
 l:Bx W w.1.size (bJ l)
 t:∃q fz,W.1[w.1.size]?=I (.cells q 34 fz)
 s:Same (λi=>i<B\/(K<=i/\i<K+3)) w W
 g:jJ B K w
 a:jX w K
 n:R<K/\K+3<=w.1.size
 o:∀j,j<8\/j=12->cs[j]?=c0[j]?
 e:∀x∈es,∀g,x.val.ownBlock=I g->g<w.1.size
 d:∀j v,j=4\/j=6->c0[j]?=I v->∀g,v.ownBlock=I g->g<w.1.size
def P9 (B b R:Nat)(w:World)(d:Cont)(P:Ending->World->Prop)(e:Ending)(a:World):Prop:=(e= .panicked kz/\fC B b R d w (.panicked kz) a)\/P e a
section
variable {B K R:Nat}{w W W':World}{l:aW}{c0 cs cs':Array Value}{c c' d:Cont}{es:G EvC}{ds:G aO}{ms:G aP}
theorem dS.start (l:aW)(h:gZ B w R cs c es ds ms)(r:aR c)(s:jJ B K w)(o:jX w K)(t:R<K):dS B K w (w.alloc (.cells (bJ l) 34)) R l cs cs c es ds ms:=
 have hb:=aB (Below.refl w.1.size w) (.cells (bJ l) 34);have hn:K+3<=w.1.size:=(let⟨q,T,E,e,_⟩:=o (K+2) ah ah;(fH.1 e).1)
 ⟨h.below hb,r,Bx.new w _ _,⟨_,_,nR w _⟩,Same.of_below hb (λi f _=>by have:=h.b;have:=h.s.t.b.2.2;omega),s,o,⟨t,hn⟩,λ_ _=>rfl,(λx y g b=>by
  obtain⟨i,f⟩:=qi.1 y;obtain⟨m,z⟩:∃m,c.SE[i]?=I m:=⟨_,dM (by have:=(bq.1 f).1;have:=h.s.se.1;omega)⟩;exact((h.s.se.2 i x m f z).lt g b).2),λj v A p g b=>by
  rcases A with rfl|rfl
  .obtain⟨u,a,n⟩:=h.s.e
   rw[p] at a;cases a;exact(n.lt g b).2
  .obtain⟨u,a,n⟩:=h.s.m
   rw[p] at a;cases a;exact(n.lt g b).2⟩
theorem dS.same (h:dS B K w W R l c0 cs c es ds ms)(a:Same (λi=>i≠R) W W'):Same (λi=>i<B\/(K<=i/\i<K+3)) w W':=h.s.tr (a.mono λi b _=>by have:=h.n;have:=h.r.b;omega)
theorem dS.call (h:dS B K w W R l c0 cs c es ds ms)(a:Same (λi=>i≠R) W W')(f:gZ B W' R cs' c' es ds ms)(g:aR c')(m:∀j,j<8\/j=12->cs'[j]?=cs[j]?):dS B K w W' R l c0 cs' c' es ds ms:=
 ⟨f,g,a.bx h.l aaZ,(let⟨q,n,e⟩:=h.t;⟨q,n,(a.block _ aaZ h.l.2.2).trans e⟩),h.same a,h.g,h.a,h.n,λj b=>(m j b).trans (h.o j b),h.e,h.d⟩
theorem dS.below (h:dS B K w W R l c0 cs c es ds ms)(a:Below W.1.size W W'):dS B K w W' R l c0 cs c es ds ms:=h.call (Same.of_below a (λ_ _ h=>h)) (h.r.below a) h.f (λ_ _=>rfl)
theorem dS.IL (h:dS B K w W R l c0 cs c es ds ms)(a:Same (λi=>i≠R) W W')(b:¬aR d):fC B K R d w (.panicked kz) W':=⟨h.same a,λk=>absurd k b,λ_=>rfl⟩
theorem dS.num (h:dS B K w W R l c0 cs c es ds ms)(k:Nat)(j:k<4)(s:Bs)(m:bW ⟨s.toArray⟩=U)(n:aR d->aR (c.put k s)):
  Calls Tryz.prog 119 #[.pointer (I ⟨R,0,C⟩),.int .i64 (k:H),.string ⟨s.toArray⟩] W (P9 B K R w d λe a=>e= .returned (.int .i64 (c.no k s))/\∃b,dS B K w a R l c0 b (c.put k s) es ds ms/\Same (λi=>i≠R) W a):=
 (QK k j s W h.r h.f m (h.g.same h.s)).mono λe a ⟨f,g⟩=>by
  rcases Classical.em (aR (c.put k s)) with q|q
  .obtain⟨o,b,p,_,r⟩:=g.1 q
   exact .inr ⟨o,b,h.call f p q r,f⟩
  .exact .inl ⟨g.2 q,h.IL f λk=>q (n k)⟩
theorem dS.bF (h:dS B K w W R l c0 cs c es ds ms)(v:To)(j:nW v)(m:aR d->aR (c.bF v).1):
  Calls Tryz.prog 121 #[.pointer (I ⟨R,0,C⟩),iZ v] W (P9 B K R w d λe a=>e= .returned (.agg #[.int .i64 (c.bF v).2.t,.int .i64 (c.bF v).2.k])/\∃b,dS B K w a R l c0 b (c.bF v).1 es ds ms/\Same (λi=>i≠R) W a):=
 (QL v W h.r h.f j (h.g.same h.s)).mono λe a ⟨f,g⟩=>by
  rcases Classical.em (aR (c.bF v).1) with q|q
  .obtain⟨n,b,o,_,p⟩:=g.1 q
   exact .inr ⟨n,b,h.call f o q p,f⟩
  .exact .inl ⟨g.2 q,h.IL f λk=>q (m k)⟩
theorem dS.ev (h:dS B K w W R l c0 cs c es ds ms)(ev:EvC)(a:G Sn)(m:d=c.ev ev.base a)(f:ev.kind≠2)(n:Own W (R+1) 148 3 bI ev.val a):
  Calls Tryz.prog 118 #[.pointer (I ⟨R,0,C⟩),gQ ev] W (P9 B K R w d λe b=>e= .returned (.tuple #[])/\fC B K R d w (.returned (.tuple #[])) b/\Bx b w.1.size (bJ l)/\Same (λi=>i<B\/(K<=i/\i<K+3)) w b):=
 (TL ev a W h.r.s (let⟨o,p,r,s⟩:=h.r.m;⟨o,p,r.other f,s⟩) h.r.b h.f n (λk=>absurd k f) (h.s.Jr h.a) h.n.1).mono λe b ⟨t,g,j⟩=>by
  subst m;have hs:=h.s.tr g;rcases Classical.em (aR (c.ev ev.base a)) with q|q
  .obtain⟨u,x⟩:=j.1 q
   exact .inr ⟨u,⟨hs,λ_=>⟨rfl,x⟩,λk=>absurd q k⟩,(let⟨_,_,e⟩:=h.t;h.l.of_eq g.size (t _ _ _ _ e aj aaZ)),hs⟩
  .exact .inl ⟨j.2 q,hs,λk=>absurd k q,λ_=>rfl⟩
theorem LU (l:aW)(s:aK)(w:World)(h:gZ B w R cs c es ds ms)(x:aR c)(o:nQ w B l s)(j:s.kind=1)(m:fo s)(y:jJ B K w)(z:jX w K)(A:R<K):
  Calls Tryz.prog 67 #[.pointer (I ⟨R,0,C⟩),dH l] w (fC B K R (aT c s) w):=by
 obtain⟨b,g,hn⟩:=names2 m (.inl j);obtain⟨p,r,ha,ε,E⟩:=o.two K hn;obtain⟨t,P,Q,S,u,Z⟩:=o.k;have HW:=J (⟨m.1 b aa0,m.1 g aa0⟩:_/\_);have β:Hid (aT c s=((c.put 0 b).put 1 g).ev ⟨1,c.no 0 b,(c.put 0 b).no 1 g,l.lvl,0,⟨0,0⟩,0,C,0,0⟩ []):=J (by unfold aT;simp only[j,hn,<-P];rfl);have γ:Hid ((aR (aT c s)->aR (c.put 0 b))/\(aR (aT c s)->aR ((c.put 0 b).put 1 g))):=J (by rw[β.q];exact⟨λk=>((Gr.put _ 1 _).trans (Gr.ev _ _ _)).fits k,λk=>(Gr.ev _ _ _).fits k⟩);have a:=J (dS.start l h x y z A);have n:=J E;obtain⟨lk,la,ln,nc,δ,va,vn,vc,lf,ζ⟩:=l;simp only at t Q S u Z ha;rw[hn] at u;obtain rfl:ln=2:=u;rw[j] at t;subst t ha;clear h x y o m E j hn z A ε P Q S Z;go_enter func67,ntmps67;go_wp2_with fail;have a:=J (a.q.below (Below.refl _ _).drew);refine cK 99 [(0,0),(1,0),(2,0),(3,0),(4,0),(5,0),(6,0),(7,0),(9,0),(10,0),(11,0),(12,0),(13,0),(15,0),(16,0),(8,2),(14,2),(17,0),(18,2)] (λ_=>True) (λW'=>Bx W' w.1.size (bJ ⟨1,I ⟨p,r,C⟩,2,nc,δ,va,vn,vc,lf,ζ⟩)/\W'.cell? ⟨p,r,C⟩=I (.string ⟨b.toArray⟩)/\W'.cell? ⟨p,r+1,C⟩=I (.string ⟨g.toArray⟩)) (λch w'=>fC B K R (aT c s) w (.panicked ch) w') au au (λch a1 w1 hd f=>⟨hd,f⟩) N ⟨a.q.l,n.q _ a.q.s⟩ ?_;refine qL λK hK=>?_
 refine(a.q.num 0 ah b HW.q.1 γ.q.1).mono ?_;rintro e w1 (⟨rfl,f⟩|⟨rfl,η,i,_⟩)
 .exact⟨rfl,f⟩
 have a:=J i;refine hK _ _ ⟨N,a.q.l,n.q _ a.q.s⟩ ?_;clear hK K i;refine qL λK hK=>?_
 refine(a.q.num 1 ah g HW.q.2 γ.q.2).mono ?_;rintro e w2 (⟨rfl,f⟩|⟨rfl,θ,i,_⟩)
 .exact⟨rfl,f⟩
 have a:=J i;refine hK _ _ ⟨N,a.q.l,n.q _ a.q.s⟩ ?_;clear hK K i;refine qL λK hK=>?_
 refine(a.q.ev ⟨1,c.no 0 b,(c.put 0 b).no 1 g,δ,0,⟨0,0⟩,0,C,0,0⟩ [] β.q ak (Own.eH _ _ _ _ _)).mono ?_;rintro e w3 (⟨rfl,f⟩|⟨rfl,f,hx,hs⟩)
 .exact⟨rfl,f⟩
 have HR:=J f;refine hK _ _ ⟨N,hx,n.q _ hs⟩ ?_;clear hK K f hx hs;refine eP ?_;go_wp2_with fail;exact bodyPost_end (results_none rfl _ _ _) rfl HR.q
theorem Iy (l:aW)(s:aK)(w:World)(h:gZ B w R cs c es ds ms)(t:aR c)(i:nQ w B l s)(g:s.kind=5\/s.kind=6)(j:fo s)(u:jJ B K w)(x:jX w K)(y:R<K):
  Calls Tryz.prog 71 #[.pointer (I ⟨R,0,C⟩),dH l] w (fC B K R (aT c s) w):=by
 obtain⟨f,hn⟩:=zY j ah;obtain⟨z,A,ha,β,E⟩:=i.one K hn;obtain⟨m,k2,P,Q,n,S⟩:=i.k;have HW:=J (j.1 f aa0);have o:Hid (aT c s=(c.put 0 f).ev ⟨s.kind,c.no 0 f,0,0,0,⟨0,0⟩,0,C,0,0⟩ []):=J (by unfold aT;rcases g with g|g <;> simp only[g,hn] <;> rfl);have γ:Hid (aR (aT c s)->aR (c.put 0 f)):=J (by rw[o.q];exact λk=>(Gr.ev _ _ _).fits k);have Z:Hid (s.kind≠2):=J ah;obtain⟨sk,p⟩:∃sk,sk=s.kind:=⟨_,rfl⟩;rw[<-p] at o Z;have a:=J (dS.start l h t u x y);have r:=J E;obtain⟨lk,la,ln,nc,δ,va,vn,vc,lf,ε⟩:=l;simp only at m P Q n S ha;rw[hn] at n;obtain rfl:ln=1:=n;rw[<-p] at m;subst m ha;clear h t u i j E g hn x y β k2 P Q S p;go_enter func71,ntmps71;go_wp2_with fail;have a:=J (a.q.below (Below.refl _ _).drew);refine cK 99 [(0,0),(1,0),(2,0),(3,0),(4,0),(5,0),(6,0),(7,0),(8,2),(9,0),(10,2)] (λ_=>True) (λW'=>Bx W' w.1.size (bJ ⟨lk,I ⟨z,A,C⟩,1,nc,δ,va,vn,vc,lf,ε⟩)/\W'.cell? ⟨z,A,C⟩=I (.string ⟨f.toArray⟩)) (λch w'=>fC B K R (aT c s) w (.panicked ch) w') au au (λch a1 w1 hd b=>⟨hd,b⟩) N ⟨a.q.l,r.q _ a.q.s⟩ ?_;refine qL λK hK=>?_
 refine(a.q.num 0 ah f HW.q γ.q).mono ?_;rintro e w4 (⟨rfl,b⟩|⟨rfl,ζ,hp,_⟩)
 .exact⟨rfl,b⟩
 have a:=J hp;refine hK _ _ ⟨N,a.q.l,r.q _ a.q.s⟩ ?_;clear hK K hp;refine qL λK hK=>?_
 refine(a.q.ev ⟨lk,c.no 0 f,0,0,0,⟨0,0⟩,0,C,0,0⟩ [] o.q Z.q (Own.eH _ _ _ _ _)).mono ?_;rintro e w5 (⟨rfl,b⟩|⟨rfl,b,hx,hs⟩)
 .exact⟨rfl,b⟩
 have HR:=J b;refine hK _ _ ⟨N,hx,r.q _ hs⟩ ?_;clear hK K b hx hs;refine eP ?_;go_wp2_with fail;exact bodyPost_end (results_none rfl _ _ _) rfl HR.q
theorem OJ (l:aW)(s:aK)(w:World)(h:gZ B w R cs c es ds ms)(hf:aR c)(P:nQ w B l s)(z:s.kind=3)(p:fo s)(hG:jJ B K w)(γ:jX w K)(δ:R<K):
  Calls Tryz.prog 69 #[.pointer (I ⟨R,0,C⟩),dH l] w (fC B K R (aT c s) w):=by
 obtain⟨b,j,hn⟩:=names2 p (.inr (.inr z));obtain⟨g,A⟩:=P8 p z;obtain⟨m,n,ε,Q,S,Z⟩:=P.bF (i:=0) (x:=g) (by rw[A];rfl);simp only[Nat.zero_mul,bK] at S Z;obtain⟨r,t,ha,ι,hN⟩:=P.two K hn;obtain⟨k1,k2,k3,k4,k5,k6⟩:=P.k;have HW:=J (⟨p.1 b aa0,p.1 j aa0⟩:_/\_);have ζ:Hid (aT c s=(((c.put 0 b).put 2 j).bF g).1.ev ⟨3,c.no 0 b,0,0,(c.put 0 b).no 2 j,(((c.put 0 b).put 2 j).bF g).2,0,C,0,0⟩ []):=J (by unfold aT;simp only[z,hn,A];rfl);have β:Hid ((aR (aT c s)->aR (c.put 0 b))/\(aR (aT c s)->aR ((c.put 0 b).put 2 j))/\(aR (aT c s)->aR (((c.put 0 b).put 2 j).bF g).1)):=J (by rw[ζ.q];exact⟨λk=>((Gr.put _ 2 _).trans ((Gr.bF _ _).trans (Gr.ev _ _ _))).fits k,λk=>((Gr.bF _ _).trans (Gr.ev _ _ _)).fits k,λk=>(Gr.ev _ _ _).fits k⟩);have κ:=J (p.2.1 g (by rw[A];simp));have u:Hid (∀X,Same (λi=>i<B\/(K<=i/\i<K+3)) w X->X.cell? ⟨m,n,C⟩=I (.string ⟨g.name.toArray⟩)/\X.cell? ⟨m,n+1,C⟩=I (.int .i64 g.k)):=J (λX hX=>⟨hX.cell S (.inl Q),hX.cell Z (.inl Q)⟩);have a:=J (dS.start l h hf hG γ δ);have y:=J hN;obtain⟨lk,la,ln,nc,η,va,vn,vc,lf,θ⟩:=l;simp only at k1 k3 k4 k5 k6 ha ε;rw[hn] at k5;obtain rfl:ln=2:=k5;rw[z] at k1;subst k1 ha;rw[A] at k6;obtain rfl:vn=1:=k6;subst ε;clear h hf hG P p hN z hn γ δ ι k2 k3 k4 Q S Z A;go_enter func69,ntmps69;go_wp2_with fail;have a:=J (a.q.below (Below.refl _ _).drew);refine cK 99 [(0,0),(1,0),(2,0),(3,0),(4,0),(6,0),(7,0),(8,0),(9,0),(10,0),(5,2),(11,2),(12,0),(13,0)] (λ_=>True) (λW'=>Bx W' w.1.size (bJ ⟨3,I ⟨r,t,C⟩,2,nc,η,(I ⟨m,n,C⟩),1,vc,lf,θ⟩)/\(W'.cell? ⟨r,t,C⟩=I (.string ⟨b.toArray⟩)/\W'.cell? ⟨r,t+1,C⟩=I (.string ⟨j.toArray⟩))/\(W'.cell? ⟨m,n,C⟩=I (.string ⟨g.name.toArray⟩)/\W'.cell? ⟨m,n+1,C⟩=I (.int .i64 g.k))) (λE w'=>fC B K R (aT c s) w (.panicked E) w') au au (λE a1 w1 hd f=>⟨hd,f⟩) N ⟨a.q.l,y.q _ a.q.s,u.q _ a.q.s⟩ ?_;refine qL λK hK=>?_
 refine(a.q.num 0 ah b HW.q.1 β.q.1).mono ?_;rintro e w6 (⟨rfl,f⟩|⟨rfl,μ,o,_⟩)
 .exact⟨rfl,f⟩
 have a:=J o;refine hK _ _ ⟨N,a.q.l,y.q _ a.q.s,u.q _ a.q.s⟩ ?_;clear hK K o;refine qL λK hK=>?_
 refine(a.q.num 2 ah j HW.q.2 β.q.2.1).mono ?_;rintro e w7 (⟨rfl,f⟩|⟨rfl,ν,o,_⟩)
 .exact⟨rfl,f⟩
 have a:=J o;refine hK _ _ ⟨N,a.q.l,y.q _ a.q.s,u.q _ a.q.s⟩ ?_;clear hK K o;refine qC ?_;refine eP ?_;go_wp2_with fail;have a:=J (a.q.below (Below.refl _ _).drew);refine cK 99 [(0,0),(1,0),(2,0),(3,0),(4,0),(5,0),(6,0),(7,0),(8,0),(9,0),(10,2),(11,0),(12,2)] (λ_=>True) (λW'=>Bx W' w.1.size (bJ ⟨3,I ⟨r,t,C⟩,2,nc,η,(I ⟨m,n,C⟩),1,vc,lf,θ⟩)/\(W'.cell? ⟨r,t,C⟩=I (.string ⟨b.toArray⟩)/\W'.cell? ⟨r,t+1,C⟩=I (.string ⟨j.toArray⟩))/\(W'.cell? ⟨m,n,C⟩=I (.string ⟨g.name.toArray⟩)/\W'.cell? ⟨m,n+1,C⟩=I (.int .i64 g.k))) (λE w'=>fC B K R (aT c s) w (.panicked E) w') au au (λE a1 w1 hd f=>⟨hd,f⟩) N ⟨a.q.l,y.q _ a.q.s,u.q _ a.q.s⟩ ?_;refine qL λK hK=>?_
 refine(a.q.bF g κ.q β.q.2.2).mono ?_;rintro e w8 (⟨rfl,f⟩|⟨rfl,ξ,o,_⟩)
 .exact⟨rfl,f⟩
 have a:=J o;refine hK _ _ ⟨N,a.q.l,y.q _ a.q.s,u.q _ a.q.s⟩ ?_;clear hK K o;refine qL λK hK=>?_
 refine(a.q.ev ⟨3,c.no 0 b,0,0,(c.put 0 b).no 2 j,(((c.put 0 b).put 2 j).bF g).2,0,C,0,0⟩ [] ζ.q ak (Own.eH _ _ _ _ _)).mono ?_;rintro e w9 (⟨rfl,f⟩|⟨rfl,f,hx,hs⟩)
 .exact⟨rfl,f⟩
 have HR:=J f;refine hK _ _ ⟨N,hx,y.q _ hs,u.q _ hs⟩ ?_;clear hK K f hx hs;refine eP ?_;go_wp2_with fail;exact bodyPost_end (results_none rfl _ _ _) rfl HR.q
end
variable{R:Nat}{cs:Array Value}{E:G EvC}{j:G aO}{a b:Value}
theorem gZ.want {B:Nat}{f:G aP}{X Y:World}(h:gZ B X R cs c E j f)(o:cs[7]?=I a)(p:Own X (R+1) 69 2 eY a c.Q)(g:Same (λi=>i≠R/\a.ownBlock≠I i) X Y){x:Wa}
  (r:Own Y (R+1) 69 2 eY b (c.Q++[x])) (s:Bx Y R (cs.setIfInBounds 7 b)):gZ B Y R (cs.setIfInBounds 7 b) {c with Q:=c.Q++[x]} E j f:=
 ⟨h.s.want o g r s,(let⟨t,m,e,u⟩:=h.m;⟨t,by rw[iQ ah];exact m,e.same g ⟨h.s.t.b.vE m e.obj,λq=>by
  obtain⟨z,A,y⟩:=p.tag q;obtain⟨_,_,n⟩:=e.obj;rw[y] at n;cases n⟩,u⟩),h.b⟩
theorem gZ.order {B:Nat}{f:G aP}{X Y:World}(h:gZ B X R cs c E j f)(o:cs[5]?=I a)(p:Own X (R+1) 65 2 dU a j)(g:Same (λi=>i≠R/\a.ownBlock≠I i) X Y){x:aO}{l:G H}
  (r:Own Y (R+1) 65 2 dU b (j++[x])) (s:Bx Y R (cs.setIfInBounds 5 b)) (t:Own X (R+1) 3 1 aQ x.val l):gZ B Y R (cs.setIfInBounds 5 b) {c with D:=c.D++[x.base],SD:=c.SD++[l]} E (j++[x]) f:=
 ⟨h.s.order o g r s t,(let⟨u,m,e,y⟩:=h.m;⟨u,by rw[iQ ah];exact m,e.same g ⟨h.s.t.b.vE m e.obj,λq=>by
  obtain⟨A,P,z⟩:=p.tag q;obtain⟨_,_,n⟩:=e.obj;rw[z] at n;cases n⟩,y⟩),h.b⟩
theorem gZ.Cq {B:Nat}{a:G aP}{X Y:World}(h:gZ B X R cs c E j a){e:Value}(o:cs[6]?=I b)(p:Own X (R+1) 67 4 dV b a)(g:Same (λi=>i≠R/\b.ownBlock≠I i) X Y){x:aP}{l:G H}
  (r:Own Y (R+1) 67 4 dV e (a++[x])) (s:Bx Y R (cs.setIfInBounds 6 e)) (t:Own X (R+1) 3 1 aQ x.val l):gZ B Y R (cs.setIfInBounds 6 e) {c with M:=c.M++[x.base],SM:=c.SM++[l]} E j (a++[x]):=
 ⟨h.s.Cq o g r s t,(let⟨u,m,f,y⟩:=h.m;⟨u,by rw[iQ ah];exact m,f.same g ⟨h.s.t.b.vE m f.obj,λq=>by
  obtain⟨A,P,z⟩:=p.tag q;obtain⟨_,_,n⟩:=f.obj;rw[z] at n;cases n⟩,y⟩),h.b⟩
theorem Row.U2 (w:World)(x:Wa):Row (w.alloc (.cells #[.int .i64 x.gG,.int .i64 x.bits] 69)) 2 eY (I ⟨w.1.size,0,C⟩) 1 1 [x]:=
 (Own.new (hc:=qH) w w.1.size 69 (enc:=eY) #[.int .i64 x.gG,.int .i64 x.bits] [x] (aC _) rfl (by simp[maxLen])).row (hc:=qH) ak
theorem Row.U3 (w:World)(x:aO):Row (w.alloc (.cells #[.int .i64 x.obj,O x.sa x.sn x.sc] 65)) 2 dU (I ⟨w.1.size,0,C⟩) 1 1 [x]:=
 (Own.new (hc:=pX) w w.1.size 65 (enc:=dU) #[.int .i64 x.obj,O x.sa x.sn x.sc] [x] (aC _) rfl (by simp[maxLen])).row (hc:=pX) ak
theorem Row.U4 (w:World)(x:aP):Row (w.alloc (.cells #[.int .i64 x.pred,.int .i64 x.obj,.bool x.first,O x.sa x.sn x.sc] 67)) 4 dV (I ⟨w.1.size,0,C⟩) 1 1 [x]:=
 (Own.new (hc:=nG) w w.1.size 67 (enc:=dV) #[.int .i64 x.pred,.int .i64 x.obj,.bool x.first,O x.sa x.sn x.sc] [x] (aC _) rfl (by simp[maxLen])).row (hc:=nG) ak
section
variable {B K R:Nat}{w W W':World}{l:aW}{c0 cs cs':Array Value}{c c' d:Cont}{es:G EvC}{ds:G aO}{ms:G aP}
section
variable {α:Type}{T:TypeId}{k:Nat}{enc:α->G Value}{v v':Value}{L:G α}
theorem dS.far (h:dS B K w W R l c0 cs c es ds ms)(i:Own W (R+1) T k enc v L)(j:T≠34/\∀b,EI b->b≠T):∀g,v.ownBlock=I g->g≠w.1.size/\R+1<=g/\¬(K<=g/\g<K+3):=λg m=>by
 obtain⟨_,_,f⟩:=i.tag m;refine⟨λe=>?_,(i.lt g m).1,λe=>?_⟩
 .obtain⟨_,_,a⟩:=h.t
  rw[e,a] at f;cases f;exact j.1 rfl
 .obtain⟨_,b,_,a,n⟩:=h.s.Jr h.a g e.1 e.2
  rw[f] at a;cases a;exact j.2 _ n rfl
theorem dS.grown (h:dS B K w W R l c0 cs c es ds ms)(j:Own W (R+1) T k enc v L)(m:T≠34/\∀g,EI g->g≠T)(o:Obj)(a:(W.alloc o).grownBy W' v.ownBlock):Bx W' w.1.size (bJ l)/\Same (λi=>i<B\/(K<=i/\i<K+3)) w W'/\Bx W' R cs:=
 have f:=h.far j m;have b:=h.below (aB (Below.refl W.1.size W) o)
 ⟨b.l.grown a (λe=>(f _ e).1 rfl),b.s.tr ⟨a.os,a.tape,a.output,a.size,λi p n=>a.block i n (λe=>by have:=f i e.symm;have:=h.r.b;have:=h.n;omega)⟩,b.r.s.t.b.grown a (λe=>by have:=(f _ e).2.1;omega)⟩
theorem dS.put (h:dS B K w W R l c0 cs c es ds ms)(g:Own W (R+1) T k enc v L)(m:T≠34/\∀f,EI f->f≠T){o:Obj}(a:(W.alloc o).grownBy W' v.ownBlock){j:Nat}{u:Value}(n:cs[j]?=I u)(b:Value):
  Same (λi=>i≠R/\v.ownBlock≠I i) W (W'.setCell ⟨R,j,C⟩ b)/\Bx (W'.setCell ⟨R,j,C⟩ b) R (cs.setIfInBounds j b)/\Same (λi=>i<B\/(K<=i/\i<K+3)) w (W'.setCell ⟨R,j,C⟩ b)/\Same (λi=>i≠R) W' (W'.setCell ⟨R,j,C⟩ b):=
 let⟨_,p,r⟩:=h.grown g m o a
 ⟨((Same.of_below (aB (Below.refl _ _) o) (λ_ _ h=>h)).tr ⟨a.os,a.tape,a.output,a.size,λi s t=>a.block i t (λe=>s.2 e.symm)⟩).setTail (λh=>h.1 rfl),r.aX j (fH.1 n).1 b,p.setTail (λq=>by have:=h.r.b;have:=h.n;omega),(Same.refl' _).setTail (λh=>h rfl)⟩
end
theorem dS.cell (h:dS B K w W R l c0 cs c es ds ms){j:Nat}(a:c0[j]?=I v)(b:j<8):W.cell? ⟨R,j,C⟩=I v:=(h.r.s.t.b.1 j).trans ((h.o j (.inl b)).trans a)
variable{o:Obj}
theorem dS.want (h:dS B K w W R l c0 cs c es ds ms)(hc:c0[7]?=I v){x:Wa}(f:(W.alloc o).grownBy W' v.ownBlock)(g:Own W' (R+1) 69 2 eY a (c.Q++[x]))(i:d={c with Q:=c.Q++[x]})(j:aR d):fC B K R d w (.returned (.tuple #[])) (W'.setCell ⟨R,7,C⟩ a):=by
 have hc:=(h.o 7 (.inl ah)).trans hc;obtain⟨u,b,e⟩:=h.r.s.q;rw[hc] at b;cases b;obtain⟨m,n,p,r⟩:=h.put e ⟨by decide,λ_ h=>h.2.2.2.1⟩ f hc a;exact⟨p,λ_=>⟨rfl,_,_,_,_,by rw[i];exact h.r.want hc e m (g.pK r) n⟩,λk=>absurd j k⟩
theorem dS.order (h:dS B K w W R l c0 cs c es ds ms)(hc:c0[5]?=I v){x:aO}(f:(W.alloc o).grownBy W' v.ownBlock)(g:Own W' (R+1) 65 2 dU a (ds++[x]))(i:Own W (R+1) 3 1 aQ x.val p)(j:d={c with D:=c.D++[x.base],SD:=c.SD++[p]})(m:aR d):fC B K R d w (.returned (.tuple #[])) (W'.setCell ⟨R,5,C⟩ a):=by
 have hc:=(h.o 5 (.inl ah)).trans hc;obtain⟨u,b,e⟩:=h.r.s.d;rw[hc] at b;cases b;obtain⟨n,r,s,t⟩:=h.put e ⟨by decide,λ_ h=>h.2.1⟩ f hc a;exact⟨s,λ_=>⟨rfl,_,_,_,_,by rw[j];exact h.r.order hc e n (g.pK t) r i⟩,λk=>absurd m k⟩
theorem dS.Cq (h:dS B K w W R l c0 cs c es ds ms)(hc:c0[6]?=I v){x:aP}(f:(W.alloc o).grownBy W' v.ownBlock)(g:Own W' (R+1) 67 4 dV a (ms++[x]))(i:Own W (R+1) 3 1 aQ x.val p)(j:d={c with M:=c.M++[x.base],SM:=c.SM++[p]})(m:aR d):fC B K R d w (.returned (.tuple #[])) (W'.setCell ⟨R,6,C⟩ a):=by
 have hc:=(h.o 6 (.inl ah)).trans hc;obtain⟨u,b,e⟩:=h.r.s.m;rw[hc] at b;cases b;obtain⟨n,r,s,t⟩:=h.put e ⟨by decide,λ_ h=>h.2.2.1⟩ f hc a;exact⟨s,λ_=>⟨rfl,_,_,_,_,by rw[j];exact h.r.Cq hc e n (g.pK t) r i⟩,λk=>absurd m k⟩
theorem dS.ts (h:dS B K w W R l c0 cs c es ds ms){f:G Bs}{m:Option Addr}{b:Nat}(u:Row W 1 encStr m n b f)(x:∀g o,m=I ⟨g,o,C⟩->g<B)(y:∀s∈f,bW ⟨s.toArray⟩=U)(z:n<=100000)(A:aR d->aR (c.ts f).1):
  Calls Tryz.prog 122 #[.pointer (I ⟨R,0,C⟩),O m n b] W (P9 B K R w d λe j=>∃a q p,e= .returned (O a f.length q)/\dS B K w j R l c0 p (c.ts f).1 es ds ms/\Own j (R+1) 3 1 aQ (O a f.length q) (c.ts f).2/\Same (λi=>i≠R) W j):=
 (TK f m n b W h.r h.f u (λg o e q=>by have:=x g o e;have:=h.r.b;omega) y z (h.g.same h.s) h.n.1).mono λe j ⟨r,t⟩=>by
  rcases Classical.em (aR (c.ts f).1) with q|q
  .obtain⟨a,k,E,P,p,Q,_,S⟩:=t.1 q
   exact .inr ⟨a,k,p,E,h.call r Q q S,P.mono (by have:=h.r.s.t.b.2.2;omega),r⟩
  .exact .inl ⟨t.2 q,h.IL r λk=>q (A k)⟩
theorem OL (l:aW)(s:aK)(w:World)(h:gZ B w R cs c es ds ms)(t:aR c)(u:nQ w B l s)(x:s.kind=9)(y:fo s)(hG:jJ B K w)(δ:jX w K)(ε:R<K):
  Calls Tryz.prog 74 #[.pointer (I ⟨R,0,C⟩),dH l] w (fC B K R (aT c s) w):=by
 obtain⟨f,hn⟩:=zY y ah;obtain⟨nb,no,ha,κ,hN⟩:=u.one K hn;obtain⟨A,k2,k3,E,P,k6⟩:=u.k;have HW:=J (y.1 f aa0);have p:Hid (aT c s={c.put 1 f with Q:=c.Q++[⟨c.no 1 f,l.bits⟩]}):=J (by unfold aT;simp only[x,hn,<-E];rfl);have μ:Hid (aR (aT c s)->aR (c.put 1 f)):=J (by rw[p.q];exact λk=>(show Gr (c.put 1 f) {c.put 1 f with Q:=c.Q++[⟨c.no 1 f,l.bits⟩]} from⟨λ_=>gH _,gH _,gH _,gH _,fq _ _⟩).fits k);obtain⟨v7,h7,ζ⟩:=h.s.q;obtain⟨a7,c7,rfl,_,ν⟩:=ζ.shape;obtain⟨i,z,hi⟩:=Ap;have j:=J hi;have g:=J h7;have η:Hid (c.Q.length<=3000):=J t.2.2.2.2.1;have a:=J (dS.start l h t hG δ ε);have r:=J hN;obtain⟨lk,la,ln,nc,ξ,va,vn,vc,lf,S⟩:=l;simp only at A k3 E P k6 ha;rw[hn] at P;obtain rfl:ln=1:=P;rw[x] at A;subst A ha;have σ:=a.cell g aj;clear h t hG u y hN x hn δ ε κ k2 k3 E k6 hi h7 ζ ν;obtain⟨b,Z⟩:∃b,decide ((c.Q.length:H)<3000)=b:=⟨_,rfl⟩;have HD:=J Z;go_enter func74,ntmps74;go_wp2_with fail;refine(oh _ _).mono ?_;rintro e w0 ⟨rfl,rfl⟩
 cases b
 .rw[ay ak];exact⟨rfl,a.IL (Same.refl' _) (λk=>of_decide_eq_false HD (by have:=(show(c.Q++[_]).length<=3000 from by rw[p.q] at k;exact k.2.2.2.2.1);rw[eX,pJ] at this;omega))⟩
 rw[aA rfl]
 go_wp2
 have a:=J (a.below (Below.refl _ _).drew)
 apply cK 20 [(0,0),(1,0),(2,0),(3,0),(4,0),(5,0),(6,0),(7,0),(8,0),(9,0),(10,0),(12,0),(13,0),(11,2),(14,0),(15,2),(16,2),(17,1),(18,1),(19,0),(20,2)] (λ_=>True) (λW'=>Bx W' w.1.size (bJ ⟨9,I ⟨nb,no,C⟩,1,nc,ξ,va,vn,vc,lf,S⟩)/\W'.cell? ⟨nb,no,C⟩=I (.string ⟨f.toArray⟩)/\W'.cell? ⟨R,7,C⟩=I (O a7 c.Q.length c7)) (λch w'=>fC B K R (aT c s) w (.panicked ch) w') au au (λch a1 w1 Z hr=>⟨Z,hr⟩) N ⟨a.l,r _ a.s,a.cell g aj⟩
 refine qL λK hK=>?_
 apply(a.num 1 ah f HW μ).mono
 rintro e m (⟨rfl,hr⟩|⟨rfl,τ,hp,_⟩)
 .exact⟨rfl,hr⟩
 have a:=J hp
 apply hK _ _ ⟨N,a.l,r _ a.s,a.cell g aj⟩
 have θ:Hid (Own m (R+1) 69 2 eY (O a7 c.Q.length c7) c.Q):=J (let⟨_,e,o⟩:=a.r.s.q;by rw[a.q.o 7 aj,g.q] at e;cases e;exact o);have β:=J (aB (Below.refl m.1.size m) (.cells #[.int .i64 (c.no 1 f),.int .i64 S] 69));have γ:=J (a.below β);have ο:Hid ((c.Q.length+1)*16<=140737488355328):=J (by have:=η.q;omega);have π:Hid (c.Q.length+1<=maxLen):=J (by have:=η.q;unfold maxLen;omega);refine qL λK hK=>?_
 apply hK _ _ ⟨N,γ.l,r _ γ.s,γ.cell g aj⟩
 have ι:=J ((a.o 7 aj).trans g);refine aG rfl rfl (λK hK=>?_)
 apply gK _ _ 39 rfl i z 16 underlying39 j.1 j.2.1 j.2.2.1 j.2.2.2.1 j.2.2.2.2 rfl (θ.below β rfl) (I ⟨m.1.size,0,C⟩) 1 1 (c.Q.length+1) [⟨c.no 1 f,S⟩] rfl (Row.U2 m _) rfl ο π (cO (Nat.succ_le_of_lt a.r.s.t.b.2.2) β.size)
 intro a' c' w9 ho hg υ;have n:=J (a.grown θ ⟨by decide,λ_ h=>h.2.2.2.1⟩ _ hg);have HO:=J ho;have ρ:=J hg
 apply hK _ _ ⟨N,n.1,r _ n.2.1,(n.2.2.1 7).trans ι⟩
 have φ:=(n.2.2.1 7).trans ι;have χ:=n.2.2.2.1 7;refine qM λK hK=>?_
 apply hK _ _ N
 apply eP
 go_wp2
 refine bodyPost_end (results_none rfl _ _ _) rfl (a.want g ρ HO p ?_);rw[p.q];have k:=a.f;exact⟨k.1,k.2.1,k.2.2.1,k.2.2.2.1,by show(c.Q++[_]).length<=3000;rw[eX,pJ];have:=oH HD;omega,k.2.2.2.2.2⟩
end
theorem names7 (f:fo s)(j:s.kind=7):∃g e,s.names=g::e/\e.length<=300:=by
 have i:∃c:Nat,s.names.length=c+1/\c<=300:=by
  rcases f.2.2 with h|h|h|h|h|h|h|h|h <;> (first|exact h.2.1|(exfalso;have:=h.1;omega))
 obtain⟨q,b,m⟩:=i
 match hn:s.names,b with
 |a::l,b=>exact⟨a,l,rfl,by simp at b;omega⟩
section
variable {B K R:Nat}{cs:Array Value}{c:Cont}{es:G EvC}{ds:G aO}{ms:G aP}
theorem LW (l:aW)(s:aK)(w:World)(h:gZ B w R cs c es ds ms)(Z:aR c)(n:nQ w B l s)(x:s.kind=7)(y:fo s)(hG:jJ B K w)(δ:jX w K)(ε:R<K):
  Calls Tryz.prog 72 #[.pointer (I ⟨R,0,C⟩),dH l] w (fC B K R (aT c s) w):=by
 obtain⟨f,a,hn,ζ⟩:=names7 y x;obtain⟨nb,no,ha,η,hN⟩:=n.one K hn;obtain⟨k1,k2,k3,k4,k5,k6⟩:=n.k;have HW:=J (y.1 f aa0);have A:Hid (aT c s={((c.put 2 f).ts a).1 with D:=((c.put 2 f).ts a).1.D++[⟨c.no 2 f,C,0,0⟩],SD:=((c.put 2 f).ts a).1.SD++[((c.put 2 f).ts a).2]}):=J (by unfold aT;simp only[x,hn];rw[(Nm.ts a (c.put 2 f)).d,(Nm.ts a (c.put 2 f)).sd];rfl);have θ:Hid ((aR (aT c s)->aR (c.put 2 f))/\(aR (aT c s)->aR ((c.put 2 f).ts a).1)):=J (by rw[A.q];exact have p:Gr ((c.put 2 f).ts a).1 {((c.put 2 f).ts a).1 with D:=((c.put 2 f).ts a).1.D++[⟨c.no 2 f,C,0,0⟩],SD:=((c.put 2 f).ts a).1.SD++[((c.put 2 f).ts a).2]}:=⟨λ_=>gH _,gH _,fq _ _,gH _,gH _⟩;⟨λk=>((Gr.ts a _).trans p).fits k,λk=>p.fits k⟩);have σ:=J (λs' τ=>y.1 s' (by rw[hn];exact iM _ τ):∀s'∈a,_);obtain⟨E,ι,κ,β,μ⟩:=yH n.n 1 (by have:=n.k.2.2.2.2.1;rw[hn] at this;simp at this;omega);have ν:∀b o,E=I ⟨b,o,C⟩->b<B:=λb o e=>(let⟨q,P,e2⟩:=μ b o e;by rw[ha] at P;injection P with P;subst P;subst e2;exact η)
 obtain⟨v7,h7,ξ⟩:=h.s.d;obtain⟨a7,c7,rfl,_,υ⟩:=ξ.shape;obtain⟨i,z,hi⟩:=Am;have r:=J hi;have j:=J h7;have φ:=J ζ;have Q:Hid (((c.put 2 f).ts a).1.D.length=ds.length/\ds.length<=3000):=J (by rw[(Nm.ts a (c.put 2 f)).d];have:=Z.2.2.1;rw[<-h.s.bd,bC] at this;exact⟨by show c.D.length=_;rw[<-h.s.bd,bC],this⟩);have g:=J (dS.start l h Z hG δ ε);have HN:=J hN;obtain⟨lk,la,ln,m,χ,va,vn,vc,lf,ψ⟩:=l;simp only at k1 k3 k4 k5 k6 ha ι κ β;rw[hn] at k5;obtain rfl:ln=a.length+1:=k5;rw[x] at k1;subst k1 ha;rw[hn] at β;have Ω:∀W,(Instr.slice 22 (O (I ⟨nb,no,C⟩) (a.length+1) m) (I (.int .i64 1)) C C).run Tryz.prog W= .ok (O E a.length (m - 1)) W:=ι;have q0:∀W,(Instr.sliceAt 22 (O (I ⟨nb,no,C⟩) (a.length+1) m) (I (.int .i64 1)) C C).run Tryz.prog W= .ok (O E a.length (m - 1)) W:=κ;have ω:Hid (∀X,Same (λi=>i<B\/(K<=i/\i<K+3)) w X->Row X 1 encStr E a.length (m - 1) a):=J (λX hX=>hX.row β (λb o e=> .inl (ν b o e)));have Γ:=J ν;have q1:=HN _ g.s;have q3:=g.cell j aj;clear h Z hG n y hN x hn δ ε η k2 k3 k4 k6 hi h7 ξ υ ζ μ;obtain⟨b,hd⟩:∃b,decide ((ds.length:H)<3000)=b:=⟨_,rfl⟩;have HD:=J hd;go_enter func72,ntmps72;go_wp2_with fail;refine(oh _ _).mono ?_;rintro e w0 ⟨rfl,rfl⟩
 cases b
 .rw[ay ak];exact⟨rfl,g.IL (Same.refl' _) (λk=>of_decide_eq_false HD (by have:=(show(((c.put 2 f).ts a).1.D++[_]).length<=3000 from by rw[A.q] at k;exact k.2.2.1);rw[eX,pJ,Q.q.1] at this;omega))⟩
 rw[aA rfl];go_wp2_with fail;refine(g.q.num 2 ah f HW.q θ.q.1).mono ?_;rintro e w1 (⟨rfl,t⟩|⟨rfl,q4,hp,_⟩)
 .exact⟨rfl,t⟩
 have g:=J hp
 go_wp2
 have g:=J (g.below (Below.refl _ _).drew)
 apply cK 18 [(0,0),(1,0),(2,0),(3,0),(4,0),(5,0),(6,0),(7,0),(8,0),(9,0),(10,0),(11,2),(12,0),(13,2),(14,2),(15,1),(16,1),(17,0),(18,2)] (λ_=>True) (λW'=>Bx W' w.1.size (bJ ⟨7,I ⟨nb,no,C⟩,(a.length+1),m,χ,va,vn,vc,lf,ψ⟩)/\W'.cell? ⟨R,5,C⟩=I (O a7 ds.length c7)) (λch w'=>fC B K R (aT c s) w (.panicked ch) w') au au (λch a1 w1 hd t=>⟨hd,t⟩) N ⟨g.l,g.cell j aj⟩
 refine qL λK hK=>?_
 apply(g.ts (ω _ g.s) Γ σ (by have:=φ.q;omega) θ.2).mono
 rintro e u (⟨rfl,t⟩|⟨a2,q2,q5,rfl,hp,Δ,_⟩)
 .exact⟨rfl,t⟩
 have g:=J hp;have Θ:=J Δ
 apply hK _ _ ⟨N,g.l,g.cell j aj⟩
 have ο:Hid (Own u (R+1) 65 2 dU (O a7 ds.length c7) ds):=J (let⟨_,e,o⟩:=g.r.s.d;by rw[g.q.o 5 aj,j.q] at e;cases e;exact o);have γ:=J (aB (Below.refl u.1.size u) (.cells #[.int .i64 (c.no 2 f),O a2 a.length q2] 65));have π:=J (g.below γ);have Ξ:Hid ((ds.length+1)*32<=140737488355328):=J (by have:=Q.q;omega);have Φ:Hid (ds.length+1<=maxLen):=J (by have:=Q.q;unfold maxLen;omega);refine qL λK hK=>?_
 apply hK _ _ ⟨N,π.l,π.cell j aj⟩
 have ρ:=J ((g.o 5 aj).trans j);refine aG rfl rfl (λK hK=>?_)
 apply gK _ _ 37 rfl i z 32 underlying37 r.1 r.2.1 r.2.2.1 r.2.2.2.1 r.2.2.2.2 rfl (ο.below γ rfl) (I ⟨u.1.size,0,C⟩) 1 1 (ds.length+1) [⟨c.no 2 f,a2,a.length,q2⟩] rfl (Row.U3 u _) rfl Ξ Φ (cO (Nat.succ_le_of_lt g.r.s.t.b.2.2) γ.size)
 intro a' c' w9 ho p q6;have S:=J (g.grown ο ⟨by decide,λ_ h=>h.2.1⟩ _ p);have HO:=J ho;have Ψ:=J p
 apply hK _ _ ⟨N,S.1,(S.2.2.1 5).trans ρ⟩
 have q7:=(S.2.2.1 5).trans ρ;have q8:=S.2.2.2.1 5;refine qM λK hK=>?_
 apply hK _ _ N
 apply eP
 go_wp2
 refine bodyPost_end (results_none rfl _ _ _) rfl (g.order j Ψ HO Θ A ?_);rw[A.q];have k:=g.f;exact⟨k.1,k.2.1,by show(((c.put 2 f).ts a).1.D++[_]).length<=3000;rw[eX,pJ,Q.q.1];have:=oH HD;omega,k.2.2.2.1,k.2.2.2.2.1,k.2.2.2.2.2⟩
end
theorem gZ.box {B g:Nat}{t:G aP}{X Y:World}{T:TypeId}(h:gZ B X R cs c E j t)(b:∃cs u,X.1[g]?=I (.cells cs T u))
  (A:9≠T) (P:65≠T) (Q:69≠T) (S:148≠T) (x:3≠T) (n:50≠T\/∀v,cs[4]?=I v->v.ownBlock≠I g) (p:67≠T\/∀v,cs[6]?=I v->v.ownBlock≠I g) (Z:R≠g) (a:Same (λi=>i≠g) X Y):gZ B Y R cs c E j t:=by
 have s:=h.s;refine⟨⟨s.t.apart b A Z a,?_,?_,?_,?_,s.be,s.bd,s.bm,s.se.imp (λ_ _ o=>o.aJ b S a),s.sd.imp (λ_ _ o=>o.aJ b x a),s.sm.imp (λ_ _ o=>o.aJ b x a)⟩,?_,h.b⟩
 .obtain⟨v,f,m⟩:=s.e
  refine⟨v,f,?_⟩;rcases n with n|n
  .exact m.aJ b n a
  .exact m.same a (λq r e=>n v f (by rw[r,e]))
 .obtain⟨v,f,m⟩:=s.d
  exact⟨v,f,m.aJ b P a⟩
 .obtain⟨v,f,m⟩:=s.m
  refine⟨v,f,?_⟩;rcases p with p|p
  .exact m.aJ b p a
  .exact m.same a (λq r e=>p v f (by rw[r,e]))
 .obtain⟨v,f,m⟩:=s.q
  exact⟨v,f,m.aJ b Q a⟩
 .obtain⟨mb,m1,y,m3⟩:=h.m
  refine⟨mb,m1,y.same a (λe=>?_),m3⟩;obtain⟨q,u,r⟩:=b;obtain⟨_,_,z⟩:=y.obj;rw[e,r] at z
  cases z
theorem names8 (g:fo s)(n:s.kind=8):∃i j f,s.names=i::j::f/\f.length<=300:=by
 have m:∃c:Nat,s.names.length=c+2/\c<=300:=by
  rcases g.2.2 with h|h|h|h|h|h|h|h|h <;> (first|exact h.2.1|(exfalso;have:=h.1;omega))
 obtain⟨q,e,o⟩:=m
 match hn:s.names,e with
 |[],e=>simp at e
 |[_],e=>simp at e
 |a::b::l,e=>exact⟨a,b,l,rfl,by simp at e;omega⟩
structure uG (W w:World)(R kb:Nat)(T:TypeId)(q:Array Value):Prop where
 b:Bx W kb q
 t:∃u fz,W.1[kb]?=I (.cells u T fz)
 n:w.1.size<kb/\R<w.1.size
section
variable {B K R kb:Nat}{w W W':World}{l:aW}{T:TypeId}{q c0 cs cs':Array Value}{c c' d:Cont}{es:G EvC}{ds:G aO}{ms:G aP}
theorem uG.same (k:uG W w R kb T q)(a:Same (λi=>i≠R) W W'):uG W' w R kb T q:=
 ⟨a.bx k.b aa1,(let⟨u,b,e⟩:=k.t;⟨u,b,(a.block _ aa1 k.b.2.2).trans e⟩),k.n⟩
theorem uG.below (k:uG W w R kb T q)(a:Below W.1.size W W'):uG W' w R kb T q:=k.same (Same.of_below a (λ_ _ h=>h))
theorem dS.BN (h:dS B K w W R l c0 cs c es ds ms)(T:TypeId)(q:Array Value):∃a,a=W.1.size/\uG (W.alloc (.cells q T)) w R a T q:=⟨_,rfl,Bx.new W _ _,⟨_,_,nR W _⟩,h.l.2.2,aaZ⟩
theorem dS.write (h:dS B K w W R l c0 cs c es ds ms)(k:uG W w R kb T q)(a:9≠T/\65≠T/\69≠T/\148≠T/\3≠T)(b:Same (λi=>i≠kb) W W'):dS B K w W' R l c0 cs c es ds ms:=
 have f:∀j,j=4\/j=6->∀v,cs[j]?=I v->v.ownBlock≠I kb:=λj m v n e=>by have:=h.d j v m ((h.o j ah).symm.trans n) kb e;have:=k.n;omega
 ⟨h.r.box (let⟨u,g,e⟩:=k.t;⟨u,g,e⟩) a.1 a.2.1 a.2.2.1 a.2.2.2.1 a.2.2.2.2 (.inr (f 4 (.inl rfl))) (.inr (f 6 (.inr rfl))) aa1 b,h.f,b.bx h.l aa1,(let⟨u,g,e⟩:=h.t;⟨u,g,(b.block _ aa1 h.l.2.2).trans e⟩),h.s.tr (b.mono λi o _=>by have:=k.n;have:=h.n;have:=h.r.b;omega),h.g,h.a,h.n,h.o,h.e,h.d⟩
theorem dS.fill (b:9≠T/\65≠T/\69≠T/\148≠T/\3≠T):∀(xs:G (Nat × Value)){a:World}{q:Array Value},dS B K w a R l c0 cs c es ds ms->uG a w R kb T q->(∀p∈xs,p.1<q.size)->
  dS B K w (xs.foldl (λa p=>a.setCell ⟨kb,p.1,C⟩ p.2) a) R l c0 cs c es ds ms/\uG (xs.foldl (λa p=>a.setCell ⟨kb,p.1,C⟩ p.2) a) w R kb T (xs.foldl (λq p=>q.setIfInBounds p.1 p.2) q)
 |[],_,_,h,k,_=>⟨h,k⟩
 |p::r,a,q,h,k,f=>by
  have hs:Same (λi=>i≠kb) a (a.setCell ⟨kb,p.1,C⟩ p.2):=(Same.refl' a).setTail (λh=>h rfl);exact dS.fill b r (h.write k b hs) ⟨k.b.aX p.1 (f p ak) p.2,(let⟨_,_,e⟩:=k.t;⟨_,_,fZ e _⟩),k.n⟩ (λy g=>by rw[Array.size_setIfInBounds];exact f y (by simp[g]))
end
theorem Bj {P:Program}{c:Code}{Q:Exit->Act->World->Prop}{a:Act}{F:Nat->World->Prop}{A:Nat->Act}{RP:G PanicEntry->World->Prop}(h:c.wp P (vY (λe b Z=>e= .normal/\∃k,F k Z/\b=A k) a.defers RP) a w)(i:∀k Z,F k Z->Q .normal (A k) Z)(hP:∀g b Z,b.defers=a.defers->RP g Z->Q (.panic g) b Z):c.wp P Q a w:=
 wp_mono h (λe b Z f=>by
  cases e
  case panic=>exact hP _ _ _ f.1 f.2
  case normal=>obtain⟨_,k,j,m⟩:=f;subst m;exact i k Z j
  all_goals first|exact f.elim|exact absurd f.1 ak)
section
variable {B K R:Nat}{cs:Array Value}{c:Cont}{es:G EvC}{ds:G aO}{ms:G aP}
theorem LX (l:aW)(s:aK)(w:World)(h:gZ B w R cs c es ds ms)(hf:aR c)(hl:nQ w B l s)(r:s.kind=8)(ζ:fo s)(hG:jJ B K w)(υ:jX w K)(φ:R<K):
  Calls Tryz.prog 73 #[.pointer (I ⟨R,0,C⟩),dH l] w (fC B K R (aT c s) w):=by
 obtain⟨f,m,g,hn,χ⟩:=names8 ζ r;obtain⟨nb,no,ha,ψ,hN⟩:=hl.two K hn;obtain⟨k1,k2,k3,k4,k5,k6⟩:=hl.k;have HW:=J (⟨ζ.1 f aa0,ζ.1 m aa0⟩:_/\_);have ι:Hid (aT c s={(((c.put 3 f).put 2 m).ts g).1 with M:=(((c.put 3 f).put 2 m).ts g).1.M++[⟨c.no 3 f,(c.put 3 f).no 2 m,l.first,C,0,0⟩],SM:=(((c.put 3 f).put 2 m).ts g).1.SM++[(((c.put 3 f).put 2 m).ts g).2]}):=J (by unfold aT;simp only[r,hn,<-k3];rw[(Nm.ts g ((c.put 3 f).put 2 m)).m,(Nm.ts g ((c.put 3 f).put 2 m)).sm];rfl);have ε:Hid ((aR (aT c s)->aR (c.put 3 f))/\(aR (aT c s)->aR ((c.put 3 f).put 2 m))/\(aR (aT c s)->aR (((c.put 3 f).put 2 m).ts g).1)):=J (by rw[ι.q];exact have P:Gr (((c.put 3 f).put 2 m).ts g).1 {(((c.put 3 f).put 2 m).ts g).1 with M:=(((c.put 3 f).put 2 m).ts g).1.M++[⟨c.no 3 f,(c.put 3 f).no 2 m,l.first,C,0,0⟩],SM:=(((c.put 3 f).put 2 m).ts g).1.SM++[(((c.put 3 f).put 2 m).ts g).2]}:=⟨λ_=>gH _,gH _,gH _,fq _ _,gH _⟩;⟨λk=>((Gr.put _ 2 _).trans ((Gr.ts g _).trans P)).fits k,λk=>((Gr.ts g _).trans P).fits k,λk=>P.fits k⟩);have Ω:=J (λs' q0=>ζ.1 s' (by rw[hn];exact iM _ (iM _ q0)):∀s'∈g,_);obtain⟨ra,ξ,ο,κ,ω⟩:=yH hl.n 2 (by have:=hl.k.2.2.2.2.1;rw[hn] at this;simp at this;omega);have π:∀b o,ra=I ⟨b,o,C⟩->b<B:=λb o e=>(let⟨q,e1,e2⟩:=ω b o e;by rw[ha] at e1;injection e1 with e1;subst e1;subst e2;exact ψ)
 obtain⟨v7,h7,Γ⟩:=h.s.m;obtain⟨a7,c7,rfl,_,q1⟩:=Γ.shape;obtain⟨i,z,hi⟩:=Ao;have HI:=J hi;have γ:=J h7;have q3:=J χ;have μ:Hid ((((c.put 3 f).put 2 m).ts g).1.M.length=ms.length/\ms.length<=3000):=J (by rw[(Nm.ts g ((c.put 3 f).put 2 m)).m];have:=hf.2.2.2.1;rw[<-h.s.bm,bC] at this;exact⟨by show c.M.length=_;rw[<-h.s.bm,bC],this⟩);have a:=J (dS.start l h hf hG υ φ);have y:=J hN;obtain⟨lk,la,ln,Q,ρ,va,vn,vc,x,σ⟩:=l;simp only at k1 k3 k4 k5 k6 ha ξ ο κ;rw[hn] at k5;obtain rfl:ln=g.length+2:=k5;rw[r] at k1;subst k1 ha;rw[hn] at κ;have j7:∀W,(Instr.slice 22 (O (I ⟨nb,no,C⟩) (g.length+2) Q) (I (.int .i64 2)) C C).run Tryz.prog W= .ok (O ra g.length (Q - 2)) W:=ξ;have j8:∀W,(Instr.sliceAt 22 (O (I ⟨nb,no,C⟩) (g.length+2) Q) (I (.int .i64 2)) C C).run Tryz.prog W= .ok (O ra g.length (Q - 2)) W:=ο;have q4:Hid (∀X,Same (λi=>i<B\/(K<=i/\i<K+3)) w X->Row X 1 encStr ra g.length (Q - 2) g):=J (λX hX=>hX.row κ (λb o e=> .inl (π b o e)));have q5:=J π;have q6:=a.q.cell γ.q aj;clear ξ ο κ π k3;clear h hf hG hl ζ hN r hn υ φ ψ k2 k4 k6 hi h7 Γ q1 χ ω;obtain⟨b,S⟩:∃b,decide ((ms.length:H)<3000)=b:=⟨_,rfl⟩;have HD:=J S;go_enter func73,ntmps73;go_wp2_with fail;refine(oh _ _).mono ?_;rintro e w0 ⟨rfl,rfl⟩
 cases b
 .rw[ay ak];exact⟨rfl,a.q.IL (Same.refl' _) (λk=>of_decide_eq_false HD.q (by have:=(show((((c.put 3 f).put 2 m).ts g).1.M++[_]).length<=3000 from by rw[ι.q] at k;exact k.2.2.2.1);rw[eX,pJ,μ.q.1] at this;omega))⟩
 rw[aA rfl];clear S;clear q6;go_wp2_with fail;simp only[bJ] at a;revert a;generalize(w.alloc (.cells #[.int .i64 8,O (I ⟨nb,no,C⟩) (g.length+2) Q,.int .i64 ρ,O va vn vc,.bool x,.int .i64 σ] 34))=V;intro a
 apply Bj (F:=λkb Z=>∃cs',dS B K w Z R ⟨8,I ⟨nb,no,C⟩,(g.length+2),Q,ρ,va,vn,vc,x,σ⟩ cs cs' ((c.put 3 f).put 2 m) es ds ms/\uG Z w R kb 67 #[.int .i64 (c.no 3 f),.int .i64 ((c.put 3 f).no 2 m),.bool x,O C 0 0]) (RP:=λch w'=>fC B K R (aT c s) w (.panicked ch) w')
 case h=>
  have j9:(0:H)<(g.length:H)+2:=by omega
  have z0:(1:H)<(g.length:H)+2:=by omega
  have a:=J (a.q.below (Below.refl _ _).drew);refine pE 16 (.q 0 0 (.q 1 0 (.q 2 0 (.q 3 0 (.q 4 0 (.q 6 0 (.q 7 0 (.q 8 0 (.q 9 0 (.q 10 0 (.q 12 0 (.q 13 0 (.alt 5 (.alt 11 (.q 14 0 (.l 15 (.l 16 .nil))) 15 (.l 11 (.q 14 0 (.l 16 .nil)))) 15 (.l 5 (.l 11 (.q 14 0 (.l 16 .nil))))))))))))))))) (λ_=>True) (λW'=>Bx W' w.1.size (bJ ⟨8,I ⟨nb,no,C⟩,(g.length+2),Q,ρ,va,vn,vc,x,σ⟩)/\W'.cell? ⟨nb,no,C⟩=I (.string ⟨f.toArray⟩)/\W'.cell? ⟨nb,no+1,C⟩=I (.string ⟨m.toArray⟩)) (λch w'=>fC B K R (aT c s) w (.panicked ch) w') au au (λch a1 w1 S p=>⟨S,p⟩) N ⟨a.q.l,y.q _ a.q.s⟩ ?_;obtain⟨X0,Δ⟩:∃X0:World,X0=V.drew:=⟨_,rfl⟩;rw[<-Δ] at a ⊢;clear Δ;refine qC ?_;refine⟨?_,?_⟩
  .refine dF rfl rfl (λK hK=>?_)
   go_simp;refine(a.q.num 3 ah f HW.q.1 ε.q.1).mono ?_;rintro e w1 (⟨rfl,p⟩|⟨rfl,q7,n,hS⟩)
   .exact⟨rfl,p⟩
   have a:=J n;refine hK _ _ ⟨N,a.q.l,y.q _ a.q.s⟩ ?_;clear hK K n hS;refine⟨?_,?_⟩
   .refine dF rfl rfl (λK hK=>?_)
    go_simp;refine(a.q.num 2 ah m HW.q.2 ε.q.2.1).mono ?_;rintro e w2 (⟨rfl,p⟩|⟨rfl,z1,n,hS⟩)
    .exact⟨rfl,p⟩
    have a:=J n;refine hK _ _ ⟨N,a.q.l,y.q _ a.q.s⟩ ?_;clear hK K n hS;refine qL λK hK=>?_
    obtain⟨kb,β,r⟩:=a.q.BN 67 #[.int .i64 0,.int .i64 0,.bool false,O C 0 0];have j:=J r;have a:=J (a.q.below (aB (Below.refl _ _) (.cells #[.int .i64 0,.int .i64 0,.bool false,O C 0 0] 67)));refine hK _ _ ⟨N,a.q.l,y.q _ a.q.s⟩ ?_;rw[<-β];clear hK K r β;have δ:=j.q.b.1;have η:=j.q.b.2.1;have θ:=j.q.b.2.2;refine qM λK hK=>?_
    refine hK _ _ N ?_;clear hK K δ η θ;refine eP ?_;obtain⟨t,u⟩:=dS.fill aj [(0,.int .i64 (c.no 3 f)),(1,.int .i64 ((c.put 3 f).no 2 m)),(2,.bool x),(3,O C 0 0)] a.q j.q ak;exact⟨rfl,_,⟨_,t,u⟩,rfl⟩
   .refine dF rfl rfl (λK hK=>?_)
    go_simp;obtain⟨kb,β,r⟩:=a.q.BN 67 #[.int .i64 0,.int .i64 0,.bool false,O C 0 0];have j:=J r;have a:=J (a.q.below (aB (Below.refl _ _) (.cells #[.int .i64 0,.int .i64 0,.bool false,O C 0 0] 67)));refine hK _ _ ⟨N,a.q.l,y.q _ a.q.s⟩ ?_;rw[<-β];clear hK K r β;refine qL λK hK=>?_
    refine(a.q.num 2 ah m HW.q.2 ε.q.2.1).mono ?_;rintro e w3 (⟨rfl,p⟩|⟨rfl,z2,n,hS⟩)
    .exact⟨rfl,p⟩
    have a:=J n;have j:=J (j.q.same hS);refine hK _ _ ⟨N,a.q.l,y.q _ a.q.s⟩ ?_;clear hK K n hS;have δ:=j.q.b.1;have η:=j.q.b.2.1;have θ:=j.q.b.2.2;refine qM λK hK=>?_
    refine hK _ _ N ?_;clear hK K δ η θ;refine eP ?_;obtain⟨t,u⟩:=dS.fill aj [(0,.int .i64 (c.no 3 f)),(1,.int .i64 ((c.put 3 f).no 2 m)),(2,.bool x),(3,O C 0 0)] a.q j.q ak;exact⟨rfl,_,⟨_,t,u⟩,rfl⟩
  .refine dF rfl rfl (λK hK=>?_)
   go_simp;obtain⟨kb,β,r⟩:=a.q.BN 67 #[.int .i64 0,.int .i64 0,.bool false,O C 0 0];have j:=J r;have a:=J (a.q.below (aB (Below.refl _ _) (.cells #[.int .i64 0,.int .i64 0,.bool false,O C 0 0] 67)));refine hK _ _ ⟨N,a.q.l,y.q _ a.q.s⟩ ?_;rw[<-β];clear hK K r β;refine qL λK hK=>?_
   refine(a.q.num 3 ah f HW.q.1 ε.q.1).mono ?_;rintro e w4 (⟨rfl,p⟩|⟨rfl,z3,n,hS⟩)
   .exact⟨rfl,p⟩
   have a:=J n;have j:=J (j.q.same hS);refine hK _ _ ⟨N,a.q.l,y.q _ a.q.s⟩ ?_;clear hK K n hS;refine qL λK hK=>?_
   refine(a.q.num 2 ah m HW.q.2 ε.q.2.1).mono ?_;rintro e w5 (⟨rfl,p⟩|⟨rfl,q8,n,hS⟩)
   .exact⟨rfl,p⟩
   have a:=J n;have j:=J (j.q.same hS);refine hK _ _ ⟨N,a.q.l,y.q _ a.q.s⟩ ?_;clear hK K n hS;have δ:=j.q.b.1;have η:=j.q.b.2.1;have θ:=j.q.b.2.2;refine qM λK hK=>?_
   refine hK _ _ N ?_;clear hK K δ η θ;refine eP ?_;obtain⟨t,u⟩:=dS.fill aj [(0,.int .i64 (c.no 3 f)),(1,.int .i64 ((c.put 3 f).no 2 m)),(2,.bool x),(3,O C 0 0)] a.q j.q ak;exact⟨rfl,_,⟨_,t,u⟩,rfl⟩
 case' hP=>exact λch a1 w1 S p=>⟨S,p⟩
 rintro kb Z ⟨q7,n,r⟩;have a:=J n;have j:=J r;have δ:=n.l.1;clear n r;go_wp2_with fail;refine(a.q.ts (q4.q _ a.q.s) q5.q Ω.q (by have:=q3.q;omega) ε.q.2.2).mono ?_;rintro e w5 (⟨rfl,p⟩|⟨A,E,q8,rfl,n,Θ,hS⟩)
 .exact⟨rfl,p⟩
 have j:=J (j.q.same hS);have a:=J n;have τ:=J Θ;clear δ n Θ hS;have q9:=j.q.b.1 3;have j0:=j.q.b.2.1 3;have j1:=j.q.b.2.2;go_wp2_with fail;obtain⟨t,u⟩:=dS.fill aj [(3,O A g.length E)] a.q j.q ak;obtain⟨t,u⟩:=dS.fill aj [(3,O A g.length E)] a.q j.q ak;have h3:Own (w5.setCell ⟨kb,3,C⟩ (O A g.length E)) (R+1) 3 1 aQ (O A g.length E) _:=τ.q.aJ j.q.t aj ((Same.refl' w5).setTail (λh=>h rfl));revert t u h3;simp only[List.foldl];generalize(w5.setCell ⟨kb,3,C⟩ (O A g.length E))=w6;intro t u h3;have hb:=(Below.refl w6.1.size w6).drew;have a:=J (t.below hb);have j:=J (u.below hb);have τ:Hid (Own w6.drew (R+1) 3 1 aQ (O A g.length E) _):=J (h3.below hb rfl);clear t u h3 hb q9 j0 j1;refine cK 12 [(0,0),(1,0),(2,0),(3,0),(4,0),(5,0),(6,0),(7,2),(8,2),(9,1),(10,1),(11,0),(12,2)] (λ_=>True) (λW'=>Bx W' kb #[.int .i64 (c.no 3 f),.int .i64 ((c.put 3 f).no 2 m),.bool x,O A g.length E]/\W'.cell? ⟨R,6,C⟩=I (O a7 ms.length c7)) (λch w'=>fC B K R (aT c s) w (.panicked ch) w') au au (λch a1 w1 S p=>⟨S,p⟩) N ⟨j.q.b,a.q.cell γ.q aj⟩ ?_;have Ξ:Hid (Own w6.drew (R+1) 67 4 dV (O a7 ms.length c7) ms):=J (let⟨_,e,o⟩:=a.q.r.s.m;by rw[a.q.o 6 aj,γ.q] at e;cases e;exact o);have ν:=J (aB (Below.refl w6.drew.1.size w6.drew) (.cells #[.int .i64 (c.no 3 f),.int .i64 ((c.put 3 f).no 2 m),.bool x,O A g.length E] 67));have j2:=J (a.q.below ν.q);have Φ:=J (j.q.below ν.q);have j3:Hid ((ms.length+1)*48<=140737488355328):=J (by have:=μ.q;omega);have j4:Hid (ms.length+1<=maxLen):=J (by have:=μ.q;unfold maxLen;omega);refine qL λK hK=>?_
 refine hK _ _ ⟨N,Φ.q.b,j2.q.cell γ.q aj⟩ ?_;clear hK K;have Ψ:=J ((a.q.o 6 aj).trans γ.q);refine aG rfl rfl (λK hK=>?_);refine gK _ _ 38 rfl i z 48 underlying38 HI.q.1 HI.q.2.1 HI.q.2.2.1 HI.q.2.2.2.1 HI.q.2.2.2.2 rfl (Ξ.q.below ν.q rfl) (I ⟨w6.drew.1.size,0,C⟩) 1 1 (ms.length+1) [⟨c.no 3 f,(c.put 3 f).no 2 m,x,A,g.length,E⟩] rfl (Row.U4 w6.drew _) rfl j3.q j4.q (cO (Nat.succ_le_of_lt a.q.r.s.t.b.2.2) ν.q.size) ?_;intro a' c' w9 ho P j5;have HG:=J (a.q.grown Ξ.q ⟨by decide,λ_ h=>h.2.2.1⟩ _ P);have HO:=J ho;have j6:=J P;refine hK _ _ ⟨N,Φ.q.b.grown P (λe=>by have:=a.q.d 6 _ (.inr rfl) γ.q kb e;have:=j.q.n;omega),(HG.q.2.2.1 6).trans Ψ.q⟩ ?_;have z4:=(HG.q.2.2.1 6).trans Ψ.q;have z5:=HG.q.2.2.2.1 6;clear hK K ho P j5;refine qM λK hK=>?_
 refine hK _ _ N ?_;clear hK K;refine eP ?_;go_wp2_with fail;refine bodyPost_end (results_none rfl _ _ _) rfl (a.q.Cq γ.q j6.q HO.q τ.q ι.q ?_);rw[ι.q];have k:=a.q.f;exact⟨k.1,k.2.1,k.2.2.1,by show((((c.put 3 f).put 2 m).ts g).1.M++[_]).length<=3000;rw[eX,pJ,μ.q.1];have:=oH HD.q;omega,k.2.2.2.2.1,k.2.2.2.2.2⟩
end
end Yd
namespace Yd
open Option renaming some->I,none->J
open Go Go.RowKit Go.Proofs Go.Maps
open Below renaming refl->M
open Go.IntKind renaming i64->C
open Go.Value renaming int->D
open Tryz renaming prog->N
open Yd renaming hid->G
open _root_ renaming trivial->H,Int->O,List->U
theorem zB.map {R b:Nat}{cs:Array Value}{c:Cont}{E:U EvC}{j:U aO}{n:U aP}{X Y:World}(h:zB X R cs c E j n)(s:∃q k,X.1[b]?=I (.map q k))(t:b≠R)(p:Same (λi=>i≠b) X Y):zB Y R cs c E j n:=by
 have m:∀{β:Type}{T:TypeId}{k:Nat}{enc:β->U Value}{v:Value}{L:U β},Own X (R+1) T k enc v L->Own Y (R+1) T k enc v L:=λo=>o.same p (λg u e=>by
  obtain⟨_,_,r⟩:=o.tag u;obtain⟨_,_,x⟩:=s;rw[e,x] at r
  cases r)
 exact⟨⟨p.bx h.t.b (λe=>t e.symm),λk y=>(let⟨v,a,f⟩:=h.t.t k y;⟨v,a,m f⟩),h.t.n⟩,(let⟨v,a,f⟩:=h.e;⟨v,a,m f⟩),(let⟨v,a,f⟩:=h.d;⟨v,a,m f⟩),(let⟨v,a,f⟩:=h.m;⟨v,a,m f⟩),(let⟨v,a,f⟩:=h.q;⟨v,a,m f⟩),h.be,h.bd,h.bm,h.se.imp (λ_ _ o=>m o),h.sd.imp (λ_ _ o=>m o),h.sm.imp (λ_ _ o=>m o)⟩
theorem Qa {c:Cont}{k:Nat}{s:Bs}(a:k<4)(b:aR (c.put k s)):(Lit.int C (c.no k s)).wf=true:=by
 have f:=b.1 k a;have g:=KN (c.nl k) s;have i:=qo k;have e:(c.put k s).nl k=bV (c.nl k) s:=aA rfl;rw[e] at f;exact WalkArith.wf_i64 (by show _/\_;unfold Cont.no;omega)
section
variable {B K R:Nat}{cs:Array Value}{c:Cont}{es:U EvC}{ds:U aO}{ms:U aP}
theorem RA (ev:EvC)(l:U Sn)(w:World)(h:zB w R cs c es ds ms)(S:∃b,cs[12]?=I (.map (I b))/\jm w b (c.E++[ev.base])/\B<=b)(Z:B<=R)(x:aR c)(hl:Own w (R+1) 148 3 bI ev.val l)(hk:ev.kind=2->ev.v.k<=999)(hK:jX w K)(ε:R<K):
  Calls N 118 #[.pointer (I ⟨R,0,J⟩),gQ ev] w (λe w'=>((∀g q T y,w.1[g]?=I (.cells q T y)->T≠50->g≠R->w'.1[g]?=w.1[g]?)/\(∀(g:Nat)(q:Array MapEntry)(k:Nat),w.1[g]?=I (Obj.map q k)->w'.1[g]?=w.1[g]?)/\(aR (c.ev ev.base l)->∀j,j≠4->w'.cell? ⟨R,j,J⟩=w.cell? ⟨R,j,J⟩))/\fC B K R (c.ev ev.base l) w e w'):=by
 obtain⟨v4,r,n⟩:=h.e;have z:es.length=c.E.length:=by rw[<-h.be,bC]
 refine(Fy ev w h.t.b r n (by rw[z];exact x.2.1)).mono ?_;rintro e w' ⟨o,f⟩;have A:∀g,(∃q k,w.1[g]?=I (.map q k))->g≠R/\v4.ownBlock≠I g:=λg a=>⟨h.t.b.vE r a,λq=>by
  obtain⟨β,f1,s⟩:=n.tag q;obtain⟨_,_,E⟩:=a;rw[s] at E;cases E⟩
 rw[fC,Ib x,<-z];refine⟨⟨λg q T y a t γ=>o.block g ⟨γ,λq=>by
  obtain⟨β,f1,s⟩:=n.tag q;rw[s] at a
  cases a
  exact t rfl⟩ (fH.1 a).1,λg q k a=>o.block g (A g ⟨q,k,a⟩) (fH.1 a).1,λm j hj=>?_⟩,o.mono (λi p _=>⟨by omega,λq=>by
  rcases p with p|p
  .have:=(n.lt i q).1;omega
  .obtain⟨_,_,q1⟩:=n.tag q
   obtain⟨_,T,_,P,t⟩:=hK i p.1 p.2;rw[q1] at P
   cases P
   exact t.1 rfl⟩),?_⟩
 .rw[aA m.1] at f
  obtain⟨_,v',_,u⟩:=f;rw[u.1 j,h.t.b.1 j,iQ (λq=>hj q.symm)]
 .by_cases m:es.length<3000
  .rw[aA m] at f
   obtain⟨rfl,v',δ,u⟩:=f;obtain⟨b,m1,Q,m3⟩:=S;refine⟨λ_=>⟨rfl,_,_,_,_,h.event r o δ u hl,⟨b,?_,?_,m3⟩,Z⟩,λhn=>absurd ⟨m,hk⟩ hn⟩
   .rw[iQ ah];exact m1
   .exact Q.same o (A b Q.obj)
  .rw[ay m] at f
   exact⟨λhn=>absurd hn.1 m,λ_=>f⟩
theorem LV (l:aW)(s:aK)(w:World)(h:gZ B w R cs c es ds ms)(A:aR c)(hl:nQ w B l s)(t:s.kind=2)(ξ:fo s)(hG:jJ B K w)(q5:jX w K)(q6:R<K):
  Calls N 68 #[.pointer (I ⟨R,0,J⟩),dH l] w (fC B K R (aT c s) w):=by
 obtain⟨a,j,hn⟩:=names2 ξ (.inr (.inl t));obtain⟨nb,no,ha,z2,hN⟩:=hl.two K hn;obtain⟨k1,k2,k3,k4,k5,k6⟩:=hl.k;have HW:=G (⟨ξ.1 a (by rw[hn];simp),ξ.1 j (by rw[hn];simp)⟩:_/\_);have q7:Hid (aT c s=((c.put 0 a).put 2 j).ev ⟨2,c.no 0 a,0,0,(c.put 0 a).no 2 j,⟨c.no 0 a,((fI c.E (c.no 0 a) ((c.put 0 a).no 2 j):O)+1)⟩,0,J,0,0⟩ []):=G (by unfold aT;simp only[t,hn];rfl);have ε:Hid ((aR (aT c s)->aR (c.put 0 a))/\(aR (aT c s)->aR ((c.put 0 a).put 2 j))/\(aR (aT c s)->(fI c.E (c.no 0 a) ((c.put 0 a).no 2 j):O)+1<=999)):=G (by rw[q7.q];exact⟨λk=>((Gr.put _ 2 _).trans (Gr.ev _ _ _)).fits k,λk=>(Gr.ev _ _ _).fits k,λk=>k.2.2.2.2.2 ⟨2,c.no 0 a,0,0,(c.put 0 a).no 2 j,⟨c.no 0 a,((fI c.E (c.no 0 a) ((c.put 0 a).no 2 j):O)+1)⟩,0,J,0,0⟩ (nu _ (dw.2 rfl)) rfl⟩);have f:=G (dS.start l h A hG q5 q6);have Q:=G hN;obtain⟨lk,la,ln,nc,ζ,va,vn,vc,lf,η⟩:=l;simp only at k1 k3 k4 k5 k6 ha;rw[hn] at k5;obtain rfl:ln=2:=k5;rw[t] at k1;subst k1 ha;clear h A hG hl ξ hN t hn q5 q6 z2 k2 k3 k4 k6;go_enter Tryz.func68,Tryz.ntmps68;go_wp2_with fail;simp only[bJ] at f;revert f;generalize(w.alloc (.cells #[D C 2,.slice (I ⟨nb,no,J⟩) 2 nc,D C ζ,.slice va vn vc,.bool lf,D C η] 34))=V;intro f
 apply Bj (F:=λkb Z=>∃cs',dS B K w Z R ⟨2,I ⟨nb,no,J⟩,2,nc,ζ,va,vn,vc,lf,η⟩ cs cs' ((c.put 0 a).put 2 j) es ds ms/\uG Z w R kb 170 #[D C (c.no 0 a),D C ((c.put 0 a).no 2 j)]) (RP:=λy P=>fC B K R (aT c s) w (.panicked y) P)
 case h=>
  have f:=G (f.q.below (M _ _).drew);refine pE 14 (.q 0 0 (.q 1 0 (.q 2 0 (.q 3 0 (.q 4 0 (.q 6 0 (.q 7 0 (.q 8 0 (.q 9 0 (.q 10 0 (.alt 5 (.alt 11 (.q 12 0 (.l 13 (.l 14 .nil))) 13 (.l 11 (.q 12 0 (.l 14 .nil)))) 13 (.l 5 (.l 11 (.q 12 0 (.l 14 .nil))))))))))))))) (λ_=>True) (λW'=>Bx W' w.1.size (bJ ⟨2,I ⟨nb,no,J⟩,2,nc,ζ,va,vn,vc,lf,η⟩)/\W'.cell? ⟨nb,no,J⟩=I (.string ⟨a.toArray⟩)/\W'.cell? ⟨nb,no+1,J⟩=I (.string ⟨j.toArray⟩)) (λy P=>fC B K R (aT c s) w (.panicked y) P) au au (λy a1 w1 S n=>⟨S,n⟩) H ⟨f.q.l,Q.q _ f.q.s⟩ ?_;obtain⟨X0,q8⟩:∃X0:World,X0=V.drew:=⟨_,rfl⟩;rw[<-q8] at f ⊢;clear q8;refine qC ?_;refine⟨?_,?_⟩
  .refine dF rfl rfl (λK hK=>?_)
   go_simp;refine(f.q.num 0 ah a HW.q.1 ε.q.1).mono ?_;rintro e w1 (⟨rfl,n⟩|⟨rfl,z3,r,hS⟩)
   .exact⟨rfl,n⟩
   have f:=G r;refine hK _ _ ⟨H,f.q.l,Q.q _ f.q.s⟩ ?_;clear hK K r hS;refine⟨?_,?_⟩
   .refine dF rfl rfl (λK hK=>?_)
    go_simp;refine(f.q.num 2 ah j HW.q.2 ε.q.2.1).mono ?_;rintro e w2 (⟨rfl,n⟩|⟨rfl,v2,r,hS⟩)
    .exact⟨rfl,n⟩
    have f:=G r;refine hK _ _ ⟨H,f.q.l,Q.q _ f.q.s⟩ ?_;clear hK K r hS;refine qL λK hK=>?_
    obtain⟨kb,β,t⟩:=f.q.BN 170 #[D C 0,D C 0];have m:=G t;have f:=G (f.q.below (aB (M _ _) (.cells #[D C 0,D C 0] 170)));refine hK _ _ ⟨H,f.q.l,Q.q _ f.q.s⟩ ?_;rw[<-β];clear hK K t β;have θ:=m.q.b.1;have ι:=m.q.b.2.1;have κ:=m.q.b.2.2;refine qM λK hK=>?_
    refine hK _ _ H ?_;clear hK K θ ι κ;refine eP ?_;obtain⟨h1,h2⟩:=dS.fill aj [(0,D C (c.no 0 a)),(1,D C ((c.put 0 a).no 2 j))] f.q m.q ak;exact⟨rfl,_,⟨_,h1,h2⟩,rfl⟩
   .refine dF rfl rfl (λK hK=>?_)
    go_simp;obtain⟨kb,β,t⟩:=f.q.BN 170 #[D C 0,D C 0];have m:=G t;have f:=G (f.q.below (aB (M _ _) (.cells #[D C 0,D C 0] 170)));refine hK _ _ ⟨H,f.q.l,Q.q _ f.q.s⟩ ?_;rw[<-β];clear hK K t β;refine qL λK hK=>?_
    refine(f.q.num 2 ah j HW.q.2 ε.q.2.1).mono ?_;rintro e w3 (⟨rfl,n⟩|⟨rfl,v3,r,hS⟩)
    .exact⟨rfl,n⟩
    have f:=G r;have m:=G (m.q.same hS);refine hK _ _ ⟨H,f.q.l,Q.q _ f.q.s⟩ ?_;clear hK K r hS;have θ:=m.q.b.1;have ι:=m.q.b.2.1;have κ:=m.q.b.2.2;refine qM λK hK=>?_
    refine hK _ _ H ?_;clear hK K θ ι κ;refine eP ?_;obtain⟨h1,h2⟩:=dS.fill aj [(0,D C (c.no 0 a)),(1,D C ((c.put 0 a).no 2 j))] f.q m.q ak;exact⟨rfl,_,⟨_,h1,h2⟩,rfl⟩
  .refine dF rfl rfl (λK hK=>?_)
   go_simp;obtain⟨kb,β,t⟩:=f.q.BN 170 #[D C 0,D C 0];have m:=G t;have f:=G (f.q.below (aB (M _ _) (.cells #[D C 0,D C 0] 170)));refine hK _ _ ⟨H,f.q.l,Q.q _ f.q.s⟩ ?_;rw[<-β];clear hK K t β;refine qL λK hK=>?_
   refine(f.q.num 0 ah a HW.q.1 ε.q.1).mono ?_;rintro e w4 (⟨rfl,n⟩|⟨rfl,v4,r,hS⟩)
   .exact⟨rfl,n⟩
   have f:=G r;have m:=G (m.q.same hS);refine hK _ _ ⟨H,f.q.l,Q.q _ f.q.s⟩ ?_;clear hK K r hS;refine qL λK hK=>?_
   refine(f.q.num 2 ah j HW.q.2 ε.q.2.1).mono ?_;rintro e w5 (⟨rfl,n⟩|⟨rfl,v5,r,hS⟩)
   .exact⟨rfl,n⟩
   have f:=G r;have m:=G (m.q.same hS);refine hK _ _ ⟨H,f.q.l,Q.q _ f.q.s⟩ ?_;clear hK K r hS;have θ:=m.q.b.1;have ι:=m.q.b.2.1;have κ:=m.q.b.2.2;refine qM λK hK=>?_
   refine hK _ _ H ?_;clear hK K θ ι κ;refine eP ?_;obtain⟨h1,h2⟩:=dS.fill aj [(0,D C (c.no 0 a)),(1,D C ((c.put 0 a).no 2 j))] f.q m.q ak;exact⟨rfl,_,⟨_,h1,h2⟩,rfl⟩
 case' hP=>exact λy a1 w1 S n=>⟨S,n⟩
 rintro kb Z ⟨z3,r,t⟩;have Δ:=(M Z.1.size Z).drew;have f:=G (r.below Δ);have m:=G (t.below Δ);have μ:=r.f;have z4:=G μ;clear r t Δ;go_wp2_with fail;have ο:=G (Qa ah ((Gr.put (c.put 0 a) 2 j).fits μ));have π:=G (Qa (c:=(c.put 0 a)) (k:=2) ah μ);obtain⟨p,ρ,γ,q9⟩:=f.q.r.m
 replace γ:jm Z.drew p c.E:=γ
 obtain⟨o,ν⟩:∃o:Nat,o=fI c.E (c.no 0 a) ((c.put 0 a).no 2 j):=⟨_,rfl⟩;have Θ:=G ν;have Ξ:c.E.length<=3000:=μ.2.1;have z5:Hid (o<=3000):=G (by rw[ν];exact cO (zy _ _ _) Ξ);obtain⟨v0,st,W1,z,r1,r2,r3,s1,s2,Φ⟩:=γ.bump Ξ ⟨2,c.no 0 a,0,0,(c.put 0 a).no 2 j,⟨c.no 0 a,((o:O)+1)⟩,0,J,0,0⟩ rfl ο.q π.q;have Ψ:=γ.look ο.q π.q;simp only at r1 r2 r3;rw[<-ν] at r2 r3 Ψ;have j0:IntKind.i64.wrap ((o:O)+1)=(o:O)+1:=by rw[IntWalk.i64_left];unfold wrap64;have:=z5.q;omega
 rw[<-j0] at r3;have Ω:p≠R:=f.q.r.s.t.b.vE ρ γ.obj;have σ:∀g T,(∃u E,Z.drew.1[g]?=I (.cells u T E))->p≠g:=λg T h e=>(by obtain⟨_,_,q⟩:=γ.obj;obtain⟨_,_,q2⟩:=h;rw[e,q2] at q;cases q)
 have τ:=σ kb _ m.q.t;have υ:=σ w.1.size _ f.q.t;have z6:¬(K<=p/\p<K+3):=λe=>(by obtain⟨q,T,E,q2,_⟩:=(f.q.s.Jr f.q.a) p e.1 e.2;exact σ p T ⟨q,E,q2⟩ rfl)
 have φ:=G ρ;have z7:=G q9;have z8:=G r2;have q0:=G (⟨s1.bx f.q.l υ.symm,s1.bx f.q.r.s.t.b Ω.symm,s1.bx m.q.b τ.symm⟩:_/\_/\_);have χ:=G (⟨s2.bx f.q.l υ.symm,s2.bx m.q.b τ.symm⟩:_/\_);have j1:=G (⟨(let⟨u,E,e⟩:=f.q.t;⟨u,E,(s2.block _ υ.symm f.q.l.2.2).trans e⟩),(let⟨u,E,e⟩:=m.q.t;⟨u,E,(s2.block _ τ.symm m.q.b.2.2).trans e⟩)⟩:(∃u E,z.1[w.1.size]?=I (.cells u 34 E))/\(∃u E,z.1[kb]?=I (.cells u 170 E)));have j2:Hid (zB z R _ ((c.put 0 a).put 2 j) es ds ms):=G (f.q.r.s.map γ.obj Ω s2);have j3:Hid (Same (λi=>i<B\/(K<=i/\i<K+3)) w z):=G (f.q.s.tr (s2.mono (λi hi _=>by omega)));have z9:=G Φ;have j4:Hid (∀W:World,W.1=z.1->(Instr.lookup 83 (.map (I p)) (.agg #[D C (c.no 0 a),D C ((c.put 0 a).no 2 j)]) false).run N W= .ok (D C ((o:O)+1)) W):=G (λW e=>by have:=(Φ.of_eq (by rw[e]):jm W p _).look ο.q π.q;rw[show fI (c.E++[⟨2,c.no 0 a,0,0,(c.put 0 a).no 2 j,⟨c.no 0 a,((o:O)+1)⟩,0,J,0,0⟩]) (c.no 0 a) ((c.put 0 a).no 2 j)=o+1 from by rw[lF,aA ⟨rfl,rfl,rfl⟩,ν]] at this;rw[show((o+1:Nat):O)=(o:O)+1 by omega] at this;exact this);have ψ:=G (⟨f.q.l,(f.q.r.s.t.b.1 12).trans ρ,m.q.b,Ψ⟩:_/\_/\_/\_);clear ρ γ q9 ν Ξ s1 s2 Φ Ψ r2 j0 Ω σ τ υ z6 μ;refine cK 9 [(0,0),(1,0),(2,0),(3,0),(4,0),(5,0),(6,0),(7,2),(8,0),(9,2)] (λ_=>True) (λW'=>Bx W' w.1.size (bJ ⟨2,I ⟨nb,no,J⟩,2,nc,ζ,va,vn,vc,lf,η⟩)/\W'.cell? ⟨R,12,J⟩=I (.map (I p))/\Bx W' kb #[D C (c.no 0 a),D C ((c.put 0 a).no 2 j)]/\(Instr.lookup 83 (.map (I p)) (.agg #[D C (c.no 0 a),D C ((c.put 0 a).no 2 j)]) false).run N W'= .ok (D C (o:O)) W') (λy P=>fC B K R (aT c s) w (.panicked y) P) au au (λy a1 w1 S n=>⟨S,n⟩) H ⟨ψ.q.1,ψ.q.2.1,ψ.q.2.2.1,ψ.q.2.2.2⟩ ?_;refine qL λK hK=>?_
 refine hK _ _ ⟨H,q0.q.1,(q0.q.2.1.1 12).trans φ.q,q0.q.2.2,z8.q⟩ ?_;clear hK K r1;refine qM λK hK=>?_
 refine hK _ _ H ?_;clear hK K r3;refine eP ?_;go_wp2_with fail;have q1:Hid (∀W,Below z.1.size z W->zB W R _ ((c.put 0 a).put 2 j) es ds ms):=G (λW h=>j2.q.nV (Same.of_below h (λ_ _ h=>h)) (j2.q.t.below h) (λ_ _=>rfl));obtain⟨b,hq⟩:∃b,decide ((o:O)+1<=999)=b:=⟨_,rfl⟩;have HQ:=G hq;have δ:=(M z.1.size z).drew;have x:=G (⟨χ.q.1.drew,((q1.q _ δ).t.b.1 12).trans φ.q,χ.q.2.drew,j4.q z.drew rfl⟩:_/\_/\_/\_);have ω:=G (j3.q.tr (Same.of_below δ (λi hi hl=>hl)));clear δ;refine cK 99 [(0,0),(1,0),(2,0),(3,0),(4,0),(5,0),(6,0),(7,2)] (λ_=>True) (λW'=>Bx W' w.1.size (bJ ⟨2,I ⟨nb,no,J⟩,2,nc,ζ,va,vn,vc,lf,η⟩)/\W'.cell? ⟨R,12,J⟩=I (.map (I p))/\Bx W' kb #[D C (c.no 0 a),D C ((c.put 0 a).no 2 j)]/\(Instr.lookup 83 (.map (I p)) (.agg #[D C (c.no 0 a),D C ((c.put 0 a).no 2 j)]) false).run N W'= .ok (D C ((o:O)+1)) W') (λy P=>fC B K R (aT c s) w (.panicked y) P) au au (λy a1 w1 S n=>⟨S,n⟩) H ⟨x.q.1,x.q.2.1,x.q.2.2.1,x.q.2.2.2⟩ ?_;refine qL λK hK=>?_
 refine(oh _ _).mono ?_;rintro e P ⟨rfl,rfl⟩
 cases b
 .rw[ay ak];exact⟨rfl,ω.q,λk=>(of_decide_eq_false HQ.q (by have:=ε.q.2.2 k;rw[<-Θ.q] at this;exact this)).elim,λ_=>rfl⟩
 rw[aA rfl];refine hK _ _ ⟨H,x.q.1,x.q.2.1,x.q.2.2.1,x.q.2.2.2⟩ ?_;clear hK K hq;refine eP ?_;go_wp2_with fail;have δ:=(M z.1.size z).drew.drew;have x:=G (⟨χ.q.1.drew.drew,((q1.q _ δ).t.b.1 12).trans φ.q,χ.q.2.drew.drew,j4.q z.drew.drew rfl⟩:_/\_/\_/\_);have ω:=G (j3.q.tr (Same.of_below δ (λi hi hl=>hl)));have v1:=G (q1.q _ δ);have q3:Hid (jm z.drew.drew p _):=G (z9.q.of_eq rfl);clear δ;refine cK 99 [(0,0),(1,0),(2,0),(3,0),(4,0),(5,0),(6,0),(7,0),(8,0),(9,0),(10,0),(11,0),(12,0),(13,0),(14,0),(15,0),(16,0),(17,2)] (λ_=>True) (λW'=>Bx W' w.1.size (bJ ⟨2,I ⟨nb,no,J⟩,2,nc,ζ,va,vn,vc,lf,η⟩)/\W'.cell? ⟨R,12,J⟩=I (.map (I p))/\Bx W' kb #[D C (c.no 0 a),D C ((c.put 0 a).no 2 j)]/\(Instr.lookup 83 (.map (I p)) (.agg #[D C (c.no 0 a),D C ((c.put 0 a).no 2 j)]) false).run N W'= .ok (D C ((o:O)+1)) W') (λy P=>fC B K R (aT c s) w (.panicked y) P) au au (λy a1 w1 S n=>⟨S,n⟩) H ⟨x.q.1,x.q.2.1,x.q.2.2.1,x.q.2.2.2⟩ ?_;refine qL λK hK=>?_
 refine(RA ⟨2,c.no 0 a,0,0,(c.put 0 a).no 2 j,⟨c.no 0 a,((o:O)+1)⟩,0,J,0,0⟩ [] _ v1.q ⟨p,φ.q,q3.q,z7.q⟩ f.q.r.b z4.q (Own.eH _ _ _ _ _) (λ_=>by have:=oH HQ.q;exact this) (ω.q.Jr f.q.a) f.q.n.1).mono ?_;rintro e w5 ⟨⟨q4,j5,j6⟩,hS,he⟩;have Γ:Hid (aT c s=_):=G (by rw[q7.q,<-Θ.q]);have j7:=G (ω.q.tr hS);rcases Classical.em (aR (aT c s)) with A|A;rotate_left
 .obtain rfl:=he.2 (by rw[Γ.q] at A;exact A)
  exact⟨rfl,j7.q,λk=>absurd k A,λ_=>rfl⟩
 obtain⟨rfl,n⟩:=he.1 (by rw[Γ.q] at A;exact A);have HR:Hid (fC B _ R (aT c s) w (.returned (.tuple #[])) w5):=G ⟨j7.q,λ_=>⟨rfl,by rw[Γ.q];exact n⟩,λk=>absurd A k⟩;have j8:=x.q.1.of_eq hS.size (let⟨_,_,e⟩:=j1.q.1;q4 w.1.size _ _ _ e aj (by have:=m.q.n;omega));have j9:=x.q.2.2.1.of_eq hS.size (let⟨_,_,e⟩:=j1.q.2;q4 kb _ _ _ e aj (by have:=m.q.n;omega));have z0:=(j6 (by rw[Γ.q] at A;exact A) 12 ah).trans x.q.2.1;have z1:(Instr.lookup 83 (.map (I p)) (.agg #[D C (c.no 0 a),D C ((c.put 0 a).no 2 j)]) false).run N w5= .ok (D C ((o:O)+1)) w5:=by have:=(q3.q.of_eq (let⟨q,k,e⟩:=q3.q.obj;j5 p q k e):jm w5 p _).look ο.q π.q;rw[show fI (c.E++[⟨2,c.no 0 a,0,0,(c.put 0 a).no 2 j,⟨c.no 0 a,((o:O)+1)⟩,0,J,0,0⟩]) (c.no 0 a) ((c.put 0 a).no 2 j)=o+1 from by rw[lF,aA ⟨rfl,rfl,rfl⟩,Θ.q]] at this;rw[show((o+1:Nat):O)=(o:O)+1 by omega] at this;exact this
 refine hK _ _ ⟨H,j8,z0,j9,z1⟩ ?_;clear hK K n A he hS q4 j5 j6 j8 j9 z0 z1;refine eP ?_;go_wp2_with fail;exact bodyPost_end (results_none rfl _ _ _) rfl HR.q
end
end Yd
namespace Yd
open List renaming pairwise_of_forall->W
open Option renaming some->C,none->D
open Go Go.RowKit Go.Proofs
open Go renaming Addr->H,World->O,Value->U
open Go.IntKind renaming i64->N
open Go.Value renaming slice->M
open Value renaming int->J,slice->V
open _root_ renaming List->G,Int->I,Nat->K
def Moved (e X:O)(F:I->G I)(a:G (I × H)):Prop:=
 ∀g cs T b,e.1[g]?=C (.cells cs T b)->∃cs':Array U,X.1[g]?=C (.cells cs' T b)/\cs'.size=cs.size/\
  (∀j,(∀s,(s,(⟨g,j,D⟩:H))∉a)->cs'[j]?=cs[j]?)/\(∀j s n,(s,(⟨g,j,D⟩:H))∈a->cs[j]?=C (.int N n)->cs'[j]?=C (.int N (bX (F s) n)))
variable{a X:O}{F:I->G I}
theorem Moved.start (s:Same (λi=>i<a.1.size) a X):Moved a X F []:=λg cs T b h=>
 ⟨cs,(s.block g (fH.1 h).1 (fH.1 h).1).trans h,rfl,λ_ _=>rfl,λ_ _ _ h=>(by cases h)⟩
variable{b:G (I × H)}
theorem Moved.same {Y:O}(h:Moved a X F b)(s:Same (λi=>i<a.1.size) X Y):Moved a Y F b:=λg cs T j e=>
 (let⟨cs',f,m⟩:=h g cs T j e;⟨cs',(s.block g (fH.1 e).1 (fH.1 f).1).trans f,m⟩)
variable{g j:K}
theorem cell_of {w:O}{v:U}(h:w.cell? ⟨g,j,D⟩=C v):∃cs T a,w.1[g]?=C (.cells cs T a)/\cs[j]?=C v:=by
 unfold World.cell? at h
 grind
variable{T:TypeId}
theorem of_cell {w:O}{v:U}{cs:Array U}{a:K × K}(h:w.1[g]?=C (.cells cs T a))(b:cs[j]?=C v):w.cell? ⟨g,j,D⟩=C v:=by
 unfold World.cell?
 grind
theorem Moved.cell (h:Moved a X F b){v:U}(hc:a.cell? ⟨g,j,D⟩=C v)(i:∀s,(s,(⟨g,j,D⟩:H))∉b):X.cell? ⟨g,j,D⟩=C v:=by
 obtain⟨cs,T,e,f,m⟩:=cell_of hc;obtain⟨cs',n,o,p,r⟩:=h g cs T e f
 grind [of_cell]
variable{s:I}
theorem Moved.step {p:O}{r:G (I × H)}(h:Moved p X F r){n v:I}(S:∀b,(b,(⟨g,j,D⟩:H))∉r)(hc:p.cell? ⟨g,j,D⟩=C (.int N n))(Z:v=bX (F s) n):
  Moved p (X.setCell ⟨g,j,D⟩ (.int N v)) F (r++[(s,(⟨g,j,D⟩:H))]):=λy cs T fz z=>by
 obtain⟨cs',A,t,E,P⟩:=h y cs T fz z;by_cases e:y=g
 .subst e
  refine⟨cs'.setIfInBounds j (.int N v),fZ A _,by rw[Array.size_setIfInBounds];exact t,λq a=>?_,λq b m a f=>?_⟩
  .have u:j≠q:=λe=>a s (by rw[e];simp)
   rw[iQ u];exact E q (λb x=>a b (qX _ x))
  .obtain⟨γ,T2,δ,o,Q⟩:=cell_of hc
   rw[z] at o;injection o with o;injection o with q1 q2 q3;subst q1;have β:j<cs'.size:=by rw[t];exact(fH.1 Q).1
   rcases cu.1 a with a|a
   .have u:j≠q:=λe=>by subst e;exact S b a
    rw[iQ u];exact P q b m a f
   .have a:=dw.1 a
    injection a with e1 i;injection i with _ i _;subst e1 i;rw[Q] at f;injection f with f;injection f with _ f;rw[ru β,Z,f]
 .refine⟨cs',by rw[Below.heap_setCell _ _ _ _ (by exact e)];exact A,t,λq a=>E q (λb x=>a b (qX _ x)),λq b m a f=>?_⟩
  rcases cu.1 a with a|a
  .exact P q b m a f
  .have a:=dw.1 a
   injection a with _ i;injection i with i _ _;exact absurd i e
theorem Own.moved {β:Type}{enc:β->G U}{k:K}[hc:Cells enc k]{m:O}{B:K}{v:U}{xs a:G β}(h:Own m B T k enc v xs)(z:Moved m X F b)(f:a.length=xs.length)
  (γ:∀g,v.ownBlock=C g->∀i x y j u,xs[i]?=C x->a[i]?=C y->(enc x)[j]?=C u->((enc y)[j]?=C u/\∀s,(s,(⟨g,i*k+j,D⟩:H))∉b)\/(∃s n,(s,(⟨g,i*k+j,D⟩:H))∈b/\u= .int N n/\(enc y)[j]?=C (.int N (bX (F s) n)))):
  Own X B T k enc v a:=by
 obtain⟨h1,A⟩:=h;refine⟨sS _,?_⟩;rcases A with⟨e,h0⟩|⟨g,E,o,e,P,Q,hn,S,hs,ht⟩
 .grind
 .obtain⟨cs',Z,p,k3,k4⟩:=z g o T _ Q
  refine .inr ⟨g,E,cs',by rw[e,f],P,Z,by rw[f];exact hn,S,p.trans hs,?_⟩;have δ:v.ownBlock=C g:=by rw[e];rfl
  rw[f]
  apply yK
  intro q;have ε:xs.length*k<=cs'.size:=by rw[p,hs];exact Nat.mul_le_mul_right _ hn
  by_cases r:q<xs.length*k
  .rw[Cb,aA r]
   have t:=hc.pos;have hi:q / k<xs.length:=(Nat.div_lt_iff_lt_mul t).2 r;have hj:q % k<k:=Nat.mod_lt _ t;have ζ:q / k*k+q % k=q:=by rw[yO];exact Nat.div_add_mod q k
   obtain⟨x,hx⟩:∃x,xs[q / k]?=C x:=⟨_,dM hi⟩;obtain⟨y,hy⟩:∃y,a[q / k]?=C y:=⟨_,dM ah⟩;obtain⟨u,hu⟩:∃u,(enc x)[q % k]?=C u:=⟨_,dM (by rw[hc.len];exact hj)⟩;have η:o[q]?=C u:=by
    have:=flat_get (hc:=hc) xs _ _ _ _ hx hu
    grind
   grind [flat_get]
  grind [sS]
def Ty (X:O)(g:K)(T:TypeId):Prop:=∃cs a,X.1[g]?=C (.cells cs T a)
theorem Ty.ne {g':K}{t:TypeId}(h:Ty X g T)(h':Ty X g' t)(a:T≠t):g≠g':=by
 rintro rfl;obtain⟨_,_,b⟩:=h;obtain⟨_,_,e⟩:=h'
 grind
variable{a:Option H}{n:K}
theorem Own.sJ {β:Type}{enc:β->G U}{k:K}{B:K}{c:K}{xs:G β}(h:Own X B T k enc (M a n c) xs):
  (a=D/\xs=[])\/∃g,a=C ⟨g,0,D⟩/\n=xs.length/\Ty X g T/\B<=g:=by
 obtain⟨o,e⟩:=h;rcases e with⟨b,p⟩|⟨g,r,s,b,f,i,t,_,hs,u⟩
 .grind
 .injection b with j m x
  exact .inr ⟨g,j,m,⟨_,_,i⟩,f⟩
variable{i:K}
theorem Own.cells {β:Type}{enc:β->G U}{k:K}[hc:Cells enc k]{B:K}{c:K}{xs:G β}(h:Own X B T k enc (M (C ⟨g,0,D⟩) n c) xs){x:β}{v:U}(a:xs[i]?=C x)(m:(enc x)[j]?=C v):X.cell? ⟨g,i*k+j,D⟩=C v:=by
 have o:=(bq.1 a).1;obtain⟨b,f⟩:=h;have hn:0<n:=by
  grind
 obtain⟨p,r,e,s,_,_,_,t⟩:=Own.open_ (hc:=hc) (⟨b,f⟩:Own X B T k enc (M (C ⟨g,0,D⟩) n c) xs) hn
 grind
structure Lay (X:O)(B:K)(h:HC)(es:G EvC)(ds:G aO)(ms:G aP)(qs:G Wa)(scan:EvC->G Sn)(dn:aO->G I)(mn:aP->G I):Prop where
 oe:Own X B 50 9 dK h.e.v es
 od:Own X B 65 2 dU h.d.v ds
 om:Own X B 67 4 dV h.m.v ms
 oq:Own X B 69 2 eY h.w.v qs
 se:∀x∈es,Own X B 148 3 bI x.val (scan x)
 sd:∀x∈ds,Own X B 3 1 aQ x.val (dn x)
 sm:∀x∈ms,Own X B 3 1 aQ x.val (mn x)
 pe:es.Pairwise (λx y=>∀g,x.val.ownBlock=C g->y.val.ownBlock≠C g)
 pd:ds.Pairwise (λx y=>∀g,x.val.ownBlock=C g->y.val.ownBlock≠C g)
 pm:ms.Pairwise (λx y=>∀g,x.val.ownBlock=C g->y.val.ownBlock≠C g)
 px:∀x∈ds,∀y∈ms,∀g,x.val.ownBlock=C g->y.val.ownBlock≠C g
variable{b:K}
theorem jH.pair {β a:Type}{B:K}{enc:a->G U}{val:β->U}{xs:G β}{f:G (G a)}(h:jH B X T b enc val xs f xs.length):xs.Pairwise (λx y=>∀g,(val x).ownBlock=C g->(val y).ownBlock≠C g):=by
 rw[List.pairwise_iff_getElem];intro i j m e n g o;exact h.2 i j xs[i] xs[j] n e (dM m) (dM e) g o
theorem jH.fn {β j:Type}{B:K}{enc:j->G U}[hc:Cells enc b](r:∀x y,enc x=enc y->x=y){val:β->U}{a:β->Option H}{n q:β->K}(s:∀x,val x= M (a x) (n x) (q x)){xs:G β}{e:G (G j)}(h:jH B X T b enc val xs e xs.length)(u:xs.length=e.length)
  (t:∀L∈e,L.length<=140737488355328):∃f:β->G j,(∀x∈xs,Own X B T b enc (val x) (f x))/\xs.map f=e:=by
 have z:∀i x,xs[i]?=C x->∃L,e[i]?=C L/\Own X B T b enc (val x) L/\Classical.epsilon (λL=>Row X b enc (a x) (n x) (q x) L)=L:=λi x g=>by
  have o:=(bq.1 g).1;obtain⟨L,m⟩:∃L,e[i]?=C L:=⟨_,dM ah⟩;have ho:=h.1 i x L o g m;have p:=ho;rw[s x] at p;exact⟨L,m,ho,xJ (hc:=hc) r (p.row (hc:=hc) (t L (bS m)))⟩
 refine⟨λx=>Classical.epsilon (λL=>Row X b enc (a x) (n x) (q x) L),λx g=>?_,?_⟩
 .obtain⟨i,o⟩:=qi.1 g
  grind
 .apply yK
  grind
section
variable {X Y:O}{B:K}{h:HC}{es:G EvC}{ds:G aO}{ms:G aP}{qs:G Wa}{scan:EvC->G Sn}{dn:aO->G I}{mn:aP->G I}
theorem Lay.same (l:Lay X B h es ds ms qs scan dn mn)(e:Same (λi=>B<=i) X Y):Lay Y B h es ds ms qs scan dn mn:=
 ⟨l.oe.same e (λg a=>(l.oe.lt g a).1),l.od.same e (λg a=>(l.od.lt g a).1),l.om.same e (λg a=>(l.om.lt g a).1),l.oq.same e (λg a=>(l.oq.lt g a).1),λx b=>(l.se x b).same e (λg a=>((l.se x b).lt g a).1),λx b=>(l.sd x b).same e (λg a=>((l.sd x b).lt g a).1),λx b=>(l.sm x b).same e (λg a=>((l.sm x b).lt g a).1),l.pe,l.pd,l.pm,l.px⟩
theorem Gl {p:H}{v:je}(h:mM X p=v.t):(iR p v).map (iO X)=ig v:=by
 grind [iR,ig,iO]
theorem qb {c:K}{l:G Sn}(i:Own X B 148 3 bI (M a n c) l):((oo a 0 l).map Prod.snd).Nodup/\(∀p∈oo a 0 l,Ty X p.2.block 148/\(V a n c).ownBlock=C p.2.block)/\(oo a 0 l).map (iO X)=l.flatMap (λs=>(2,s.obj)::ig s.v):=by
 rcases i.sJ with⟨rfl,rfl⟩|⟨g,rfl,hn,m,y⟩
 .exact⟨oC,λp e=>(by cases e),rfl⟩
 .refine⟨rE (b:=g) (k:=3) (blk:=λ_=>D) l 0 (λj x f=>?_) (λx f=>⟨oC,λp e=>(by cases e)⟩) (List.Pairwise.imp (λ_ _ h=>(by cases h)) (W (R:=λ_ _=>True) (λ_ _=>trivial))),λp e=>?_,?_⟩
  .rw[bQ];exact Gm j x
  .obtain⟨j,x,f,e⟩:=(eT l 0 p).1 e
   rcases e with e|e
   .have:=((Gm (b:=g) (0+j) x).2 p e).1
    rw[this];exact⟨m,rfl⟩
   .cases e
  .refine wh (iO X) _ l 0 (λj x f=>?_)
   have o:=i.cells (hc:=lK) f (j:=0) rfl;have r:=i.cells (hc:=lK) f (j:=1) rfl;rw[lW,eG,bQ];have t:mM X ⟨g,0+j*3,D⟩=x.obj:=by rw[bQ];exact jA o
   have u:mM X ⟨g,0+(j*3+1),D⟩=x.v.t:=by rw[bQ];exact jA r
   show iO X (2,(⟨g,0+j*3,D⟩:H))::(iR ⟨g,0+(j*3+1),D⟩ x.v).map (iO X)=_;rw[Gl u];unfold iO;simp only[t]
theorem zZ {β a:Type}(f:β->a):∀l:G β,l.flatMap (λx=>[f x])=l.map f
 |[]=>rfl
 |x::l=>by rw[og,zZ f l];rfl
theorem jD {c:K}{l:G I}(i:Own X B 3 1 aQ (M a n c) l):((kZ a 0 l).map Prod.snd).Nodup/\(∀p∈kZ a 0 l,Ty X p.2.block 3/\(V a n c).ownBlock=C p.2.block)/\(kZ a 0 l).map (iO X)=l.map (λd=>(0,d)):=by
 rcases i.sJ with⟨rfl,rfl⟩|⟨g,rfl,hn,m,s⟩
 .exact⟨oC,λp e=>(by cases e),rfl⟩
 .refine⟨rE (b:=g) (k:=1) (blk:=λ_=>D) l 0 (λj x f=>?_) (λx f=>⟨oC,λp e=>(by cases e)⟩) (List.Pairwise.imp (λ_ _ h=>(by cases h)) (W (R:=λ_ _=>True) (λ_ _=>trivial))),λp e=>?_,?_⟩
  .rw[bQ];exact Mq j x
  .obtain⟨j,x,f,e⟩:=(eT l 0 p).1 e
   rcases e with e|e
   .have:=((Mq (b:=g) (0+j) x).2 p e).1
    rw[this];exact⟨m,rfl⟩
   .cases e
  .rw[show l.map (λd=>((0:I),d))=l.flatMap (λd=>[(0,d)]) from(zZ _ l).symm]
   refine wh (iO X) _ l 0 (λj x f=>?_);have o:=i.cells (hc:=fA) f (j:=0) rfl;rw[lW,eG,bQ];have r:mM X ⟨g,0+j,D⟩=x:=by rw[bQ];exact jA (by simpa using o)
   show [iO X (0,(⟨g,0+j,D⟩:H))]=_;unfold iO;simp only[r]
end
def Ints (X:O)(l:G (I × H)):Prop:=∀p∈l,∃n,X.cell? p.2=C (.int N n)
section
variable {X Y:O}{B:K}{h:HC}{es:G EvC}{ds:G aO}{ms:G aP}{qs:G Wa}{scan:EvC->G Sn}{dn:aO->G I}{mn:aP->G I}
theorem Gn {q:K}{v:je}(hc:X.cell? ⟨g,q,D⟩=C (.int N v.t)):Ints X (iR ⟨g,q,D⟩ v):=λp a=>by
 rw[(nO.1 a).1];exact⟨_,hc⟩
theorem RB {c:K}{l:G Sn}(e:Own X B 148 3 bI (M a n c) l):Ints X (oo a 0 l):=by
 rcases e.sJ with⟨rfl,rfl⟩|⟨g,rfl,hn,o,r⟩
 .exact λp b=>by cases b
 .intro p b
  obtain⟨j,x,f,b⟩:=(eT l 0 p).1 b;rcases b with b|b
  .rw[bQ] at b
   have i:=e.cells (hc:=lK) f (j:=0) rfl;have m:=e.cells (hc:=lK) f (j:=1) rfl;rcases dP.1 b with rfl|b
   .exact⟨x.obj,by show X.cell? ⟨g,0+j*3,D⟩=_;rw[bQ];exact i⟩
   .exact Gn (v:=x.v) (by rw[bQ];exact m) p b
  .cases b
theorem IQ {c:K}{l:G I}(e:Own X B 3 1 aQ (M a n c) l):Ints X (kZ a 0 l):=by
 rcases e.sJ with⟨rfl,rfl⟩|⟨g,rfl,hn,m,o⟩
 .exact λp b=>by cases b
 .intro p b
  obtain⟨j,x,f,b⟩:=(eT l 0 p).1 b;rcases b with b|b
  .rw[bQ] at b
   have i:=e.cells (hc:=fA) f (j:=0) rfl;rw[dw.1 b];exact⟨x,by show X.cell? ⟨g,0+j,D⟩=_;rw[bQ];simpa using i⟩
  .cases b
theorem wR (l:Lay X B h es ds ms qs scan dn mn):((mG h.e.a scan 0 es).map Prod.snd).Nodup/\
  (∀p∈mG h.e.a scan 0 es,Ty X p.2.block 50\/(Ty X p.2.block 148/\∃e∈es,p∈oo e.sa 0 (scan e)))/\(mG h.e.a scan 0 es).map (iO X)=es.flatMap (λe=>fT e (scan e))/\Ints X (mG h.e.a scan 0 es):=by
 have ho:Own X B 50 9 dK (M h.e.a h.e.n h.e.c) es:=l.oe;rcases ho.sJ with⟨ha,rfl⟩|⟨g,ha,hn,o,E⟩
 .exact⟨oC,λp a=>(by cases a),rfl,λp a=>(by cases a)⟩
 .rw[ha] at ho ⊢
  have hc:∀{j x},es[j]?=C x->∀{q v},(dK x)[q]?=C v->X.cell? ⟨g,j*9+q,D⟩=C v:=λf _ _ s=>ho.cells (hc:=oG) f s
  refine⟨rE (b:=g) (k:=9) (blk:=λe=>e.val.ownBlock) es 0 (λj x f=>by rw[bQ];exact Gp j x) (λx f=>⟨(qb (l.se x f)).1,λp a=>⟨((qb (l.se x f)).2.1 p a).2,((qb (l.se x f)).2.1 p a).1.ne o aj⟩⟩) l.pe,λp a=>?_,?_,λp a=>?_⟩
  .obtain⟨j,x,f,a⟩:=(eT es 0 p).1 a
   rcases a with a|a
   .rw[bQ] at a
    have:=((Gp (b:=g) j x).2 p a).1;rw[this];exact .inl o
   .have r:=bS f
    exact .inr ⟨((qb (l.se x r)).2.1 p a).1,x,r,a⟩
  .refine wh (iO X) _ es 0 (λj x f=>?_)
   rw[bQ];have hs:=(qb (l.se x (bS f))).2.2;rw[show(oo x.sa 0 (scan x)).map (iO X)=_ from hs];have t:mM X ⟨g,0+(j*9+1),D⟩=x.t:=by rw[bQ];exact jA (hc f rfl)
   have u:mM X ⟨g,0+(j*9+2),D⟩=x.gG:=by rw[bQ];exact jA (hc f rfl)
   have y:mM X ⟨g,0+(j*9+4),D⟩=x.obj:=by rw[bQ];exact jA (hc f rfl)
   have z:mM X ⟨g,0+(j*9+5),D⟩=x.v.t:=by rw[bQ];exact jA (hc f rfl)
   have A:mM X ⟨g,0+(j*9+7),D⟩=x.pred:=by rw[bQ];exact jA (hc f rfl)
   unfold fT sP
   congr 1
   rw[kW]
   congr 1
   .unfold iO;simp only[t]
   .by_cases i:x.kind=1
    .rw[aA i,aA i];unfold iO;simp only[kW,lW,u]
    .rw[ay i,ay i]
     by_cases m:x.kind=2\/x.kind=3
     .rw[aA m,aA m,kW,Gl z];unfold iO;simp only[y]
     .rw[ay m,ay m]
      by_cases n:x.kind=4
      .rw[aA n,aA n];unfold iO;simp only[kW,lW,A]
      .rw[ay n,ay n];rfl
  .obtain⟨j,x,f,a⟩:=(eT es 0 p).1 a
   rcases a with a|a
   .rw[bQ] at a
    unfold sP at a;rcases dP.1 a with rfl|a
    .exact⟨x.t,by show X.cell? ⟨g,0+(j*9+1),D⟩=_;rw[bQ];exact hc f rfl⟩
    .split at a
     .rw[dw.1 a]
      exact⟨x.gG,by show X.cell? ⟨g,0+(j*9+2),D⟩=_;rw[bQ];exact hc f rfl⟩
     .split at a
      .rcases dP.1 a with rfl|a
       .exact⟨x.obj,by show X.cell? ⟨g,0+(j*9+4),D⟩=_;rw[bQ];exact hc f rfl⟩
       .exact Gn (v:=x.v) (by rw[bQ];exact hc f rfl) p a
      .split at a
       .rw[dw.1 a]
        exact⟨x.pred,by show X.cell? ⟨g,0+(j*9+7),D⟩=_;rw[bQ];exact hc f rfl⟩
       .cases a
   .exact RB (l.se x (bS f)) p a
theorem wT (l:Lay X B h es ds ms qs scan dn mn):((pR h.d.a dn 0 ds).map Prod.snd).Nodup/\
  (∀p∈pR h.d.a dn 0 ds,Ty X p.2.block 65\/(Ty X p.2.block 3/\∃e∈ds,e.val.ownBlock=C p.2.block/\p∈kZ e.sa 0 (dn e)))/\(pR h.d.a dn 0 ds).map (iO X)=ds.flatMap (λx=>jI x (dn x))/\Ints X (pR h.d.a dn 0 ds):=by
 have ho:Own X B 65 2 dU (M h.d.a h.d.n h.d.c) ds:=l.od;rcases ho.sJ with⟨ha,rfl⟩|⟨g,ha,hn,m,o⟩
 .exact⟨oC,λp a=>(by cases a),rfl,λp a=>(by cases a)⟩
 .rw[ha] at ho ⊢
  refine⟨rE (b:=g) (k:=2) (blk:=λe=>e.val.ownBlock) ds 0 (λj x f=>by rw[bQ];exact Mr j x) (λx f=>⟨(jD (l.sd x f)).1,λp a=>⟨((jD (l.sd x f)).2.1 p a).2,((jD (l.sd x f)).2.1 p a).1.ne m aj⟩⟩) l.pd,λp a=>?_,?_,λp a=>?_⟩
  .obtain⟨j,x,f,a⟩:=(eT ds 0 p).1 a
   rcases a with a|a
   .rw[bQ] at a
    have:=((Mr (b:=g) j x).2 p a).1;rw[this];exact .inl m
   .have i:=bS f
    exact .inr ⟨((jD (l.sd x i)).2.1 p a).1,x,i,((jD (l.sd x i)).2.1 p a).2,a⟩
  .refine wh (iO X) _ ds 0 (λj x f=>?_)
   rw[bQ];have hs:=(jD (l.sd x (bS f))).2.2;rw[show(kZ x.sa 0 (dn x)).map (iO X)=_ from hs];have n:mM X ⟨g,0+j*2,D⟩=x.obj:=by rw[bQ];exact jA (ho.cells (hc:=pX) f (j:=0) rfl)
   unfold Iu jI iO;simp only[kW,lW,n,jl,pO]
  .obtain⟨j,x,f,a⟩:=(eT ds 0 p).1 a
   rcases a with a|a
   .rw[bQ] at a
    rw[dw.1 a];exact⟨x.obj,by show X.cell? ⟨g,0+j*2,D⟩=_;rw[bQ];exact ho.cells (hc:=pX) f (j:=0) rfl⟩
   .exact IQ (l.sd x (bS f)) p a
theorem wU (l:Lay X B h es ds ms qs scan dn mn):((pQ h.m.a mn 0 ms).map Prod.snd).Nodup/\
  (∀p∈pQ h.m.a mn 0 ms,Ty X p.2.block 67\/(Ty X p.2.block 3/\∃e∈ms,e.val.ownBlock=C p.2.block/\p∈kZ e.sa 0 (mn e)))/\(pQ h.m.a mn 0 ms).map (iO X)=ms.flatMap (λx=>kI x (mn x))/\Ints X (pQ h.m.a mn 0 ms):=by
 have ho:Own X B 67 4 dV (M h.m.a h.m.n h.m.c) ms:=l.om;rcases ho.sJ with⟨ha,rfl⟩|⟨g,ha,hn,m,r⟩
 .exact⟨oC,λp a=>(by cases a),rfl,λp a=>(by cases a)⟩
 .rw[ha] at ho ⊢
  refine⟨rE (b:=g) (k:=4) (blk:=λe=>e.val.ownBlock) ms 0 (λj x f=>by rw[bQ];exact Ms j x) (λx f=>⟨(jD (l.sm x f)).1,λp a=>⟨((jD (l.sm x f)).2.1 p a).2,((jD (l.sm x f)).2.1 p a).1.ne m aj⟩⟩) l.pm,λp a=>?_,?_,λp a=>?_⟩
  .obtain⟨j,x,f,a⟩:=(eT ms 0 p).1 a
   rcases a with a|a
   .rw[bQ] at a
    have:=((Ms (b:=g) j x).2 p a).1;rw[this];exact .inl m
   .have i:=bS f
    exact .inr ⟨((jD (l.sm x i)).2.1 p a).1,x,i,((jD (l.sm x i)).2.1 p a).2,a⟩
  .refine wh (iO X) _ ms 0 (λj x f=>?_)
   rw[bQ];have hs:=(jD (l.sm x (bS f))).2.2;rw[show(kZ x.sa 0 (mn x)).map (iO X)=_ from hs];have n:mM X ⟨g,0+j*4,D⟩=x.pred:=by rw[bQ];exact jA (ho.cells (hc:=nG) f (j:=0) rfl)
   have o:mM X ⟨g,0+(j*4+1),D⟩=x.obj:=by rw[bQ];exact jA (ho.cells (hc:=nG) f (j:=1) rfl)
   unfold F4 kI iO;simp only[kW,lW,n,o,jl,pO]
  .obtain⟨j,x,f,a⟩:=(eT ms 0 p).1 a
   rcases a with a|a
   .rw[bQ] at a
    rcases dP.1 a with rfl|a
    .exact⟨x.pred,by show X.cell? ⟨g,0+j*4,D⟩=_;rw[bQ];exact ho.cells (hc:=nG) f (j:=0) rfl⟩
    .rw[dw.1 a]
     exact⟨x.obj,by show X.cell? ⟨g,0+(j*4+1),D⟩=_;rw[bQ];exact ho.cells (hc:=nG) f (j:=1) rfl⟩
   .exact IQ (l.sm x (bS f)) p a
theorem wV (l:Lay X B h es ds ms qs scan dn mn):((sH h.w.a 0 qs).map Prod.snd).Nodup/\
  (∀p∈sH h.w.a 0 qs,Ty X p.2.block 69)/\(sH h.w.a 0 qs).map (iO X)=qs.flatMap ny/\Ints X (sH h.w.a 0 qs):=by
 have ho:Own X B 69 2 eY (M h.w.a h.w.n h.w.c) qs:=l.oq;rcases ho.sJ with⟨ha,rfl⟩|⟨g,ha,hn,f,m⟩
 .exact⟨oC,λp a=>(by cases a),rfl,λp a=>(by cases a)⟩
 .rw[ha] at ho ⊢
  refine⟨rE (b:=g) (k:=2) (blk:=λ_=>D) qs 0 (λj x e=>by rw[bQ];exact Mt j x) (λx e=>⟨oC,λp a=>(by cases a)⟩) (List.Pairwise.imp (λ_ _ h=>(by cases h)) (W (R:=λ_ _=>True) (λ_ _=>trivial))),λp a=>?_,?_,λp a=>?_⟩
  .obtain⟨j,x,e,a⟩:=(eT qs 0 p).1 a
   rcases a with a|a
   .rw[bQ] at a
    have:=((Mt (b:=g) j x).2 p a).1;rw[this];exact f
   .cases a
  .refine wh (iO X) _ qs 0 (λj x e=>?_)
   rw[bQ];have i:mM X ⟨g,0+j*2,D⟩=x.gG:=by rw[bQ];exact jA (ho.cells (hc:=qH) e (j:=0) rfl)
   unfold Iw ny iO;simp only[kW,lW,i,eG]
  .obtain⟨j,x,e,a⟩:=(eT qs 0 p).1 a
   rcases a with a|a
   .rw[bQ] at a
    rw[dw.1 a];exact⟨x.gG,by show X.cell? ⟨g,0+j*2,D⟩=_;rw[bQ];exact ho.cells (hc:=qH) e (j:=0) rfl⟩
   .cases a
theorem Ty.no {t:TypeId}(h:Ty X g T)(h':Ty X g t)(a:T≠t):False:=h.ne h' a rfl
theorem Lay.nodup (l:Lay X B h es ds ms qs scan dn mn):((aV h es ds ms qs scan dn mn).map Prod.snd).Nodup:=by
 obtain⟨t,u,_⟩:=wR l;obtain⟨z,o,_⟩:=wT l;obtain⟨A,r,_⟩:=wU l;obtain⟨E,s,_⟩:=wV l;unfold aV;rw[fV,fV,fV];refine tY.2 ⟨t,tY.2 ⟨z,tY.2 ⟨A,E,?_⟩,?_⟩,?_⟩
 .intro p n q f e
  obtain⟨j,m,rfl⟩:=eZ.1 n;obtain⟨g,i,rfl⟩:=eZ.1 f;have a:=s g i;rw[<-e] at a;rcases r j m with b|⟨b,_⟩
  .exact b.no a aj
  .exact b.no a aj
 .intro p n q f e
  obtain⟨j,m,rfl⟩:=eZ.1 n;rcases cu.1 f with f|f
  .obtain⟨g,i,rfl⟩:=eZ.1 f
   have b:=o j m;have a:=r g i;rw[<-e] at a;rcases b with b|⟨b,x,P,Q,_⟩
   .rcases a with a|⟨a,_⟩
    .exact b.no a aj
    .exact b.no a aj
   .rcases a with a|⟨a,y,S,Z,_⟩
    .exact b.no a aj
    .exact l.px x P y S _ Q Z
  .obtain⟨g,i,rfl⟩:=eZ.1 f
   have a:=s g i;rw[<-e] at a;rcases o j m with b|⟨b,_⟩
   .exact b.no a aj
   .exact b.no a aj
 .intro p n q f e
  obtain⟨j,m,rfl⟩:=eZ.1 n;have b:=u j m;rcases cu.1 f with f|f
  .obtain⟨g,i,rfl⟩:=eZ.1 f
   have a:=o g i;rw[<-e] at a;rcases b with b|⟨b,_⟩ <;> rcases a with a|⟨a,_⟩ <;> exact b.no a aj
  .rcases cu.1 f with f|f
   .obtain⟨g,i,rfl⟩:=eZ.1 f
    have a:=r g i;rw[<-e] at a;rcases b with b|⟨b,_⟩ <;> rcases a with a|⟨a,_⟩ <;> exact b.no a aj
   .obtain⟨g,i,rfl⟩:=eZ.1 f
    have a:=s g i;rw[<-e] at a;rcases b with b|⟨b,_⟩ <;> exact b.no a aj
theorem Lay.vals (l:Lay X B h es ds ms qs scan dn mn):(aV h es ds ms qs scan dn mn).map (iO X)=lJ es ds ms qs scan dn mn:=by
 grind [aV,lJ,wR,wT,wU,wV]
theorem Lay.ints (l:Lay X B h es ds ms qs scan dn mn):Ints X (aV h es ds ms qs scan dn mn):=λp a=>by
 unfold aV at a;rcases cu.1 a with a|a
 .exact(wR l).2.2.2 p a
 .rcases cu.1 a with a|a
  .exact(wT l).2.2.2 p a
  .rcases cu.1 a with a|a
   .exact(wU l).2.2.2 p a
   .exact(wV l).2.2.2 p a
end
theorem IU {β:Type}{val:β->U}{xs:G β}(h:xs.Pairwise (λx y=>∀g,(val x).ownBlock=C g->(val y).ownBlock≠C g)){x y:β}(a:x∈xs)(b:y∈xs)(e:(val x).ownBlock=C g)(f:(val y).ownBlock=C g):x=y:=by
 grind [List.pairwise_iff_getElem,List.mem_iff_getElem,Nat.lt_trichotomy]
variable{e:EvC}
theorem Mw {q:K}(h:(s,(⟨g,q,D⟩:H))∈sP (C ⟨g,0,D⟩) i e):
  (q=i*9+1/\s=0)\/(q=i*9+2/\s=1/\e.kind=1)\/(q=i*9+4/\s=2/\(e.kind=2\/e.kind=3))\/(q=i*9+5/\s=0/\(e.kind=2\/e.kind=3)/\0<e.v.k)\/(q=i*9+7/\s=3/\e.kind=4):=by
 have a:∀{u:I}{r:K},((s,(⟨g,q,D⟩:H)):I × H)=(u,(⟨g,0+r,D⟩:H))->q=r/\s=u:=λe=>by
  injection e with n m;injection m with _ m _;exact⟨by omega,n⟩
 unfold sP at h;rcases dP.1 h with h|h
 .have:=a h;exact .inl this
 .by_cases f:e.kind=1
  .rw[aA f] at h
   have:=a (dw.1 h);exact .inr (.inl ⟨this.1,this.2,f⟩)
  .rw[ay f] at h
   by_cases b:e.kind=2\/e.kind=3
   .rw[aA b] at h
    rcases dP.1 h with h|h
    .have:=a h
     exact .inr (.inr (.inl ⟨this.1,this.2,b⟩))
    .obtain⟨o,p⟩:=nO.1 h
     have:=a o;exact .inr (.inr (.inr (.inl ⟨this.1,this.2,b,p⟩)))
   .rw[ay b] at h
    by_cases j:e.kind=4
    .rw[aA j] at h
     have:=a (dw.1 h);exact .inr (.inr (.inr (.inr ⟨this.1,this.2,j⟩)))
    .rw[ay j] at h;cases h
theorem Wy (g i:K)(e:EvC):((0:I),(⟨g,i*9+1,D⟩:H))∈sP (C ⟨g,0,D⟩) i e:=by
 grind
theorem Wz (g i:K)(k:e.kind=1):((1:I),(⟨g,i*9+2,D⟩:H))∈sP (C ⟨g,0,D⟩) i e:=by
 grind
theorem WA (g i:K)(k:e.kind=2\/e.kind=3):((2:I),(⟨g,i*9+4,D⟩:H))∈sP (C ⟨g,0,D⟩) i e:=by
 grind
theorem WB (g i:K)(k:e.kind=2\/e.kind=3)(a:0<e.v.k):((0:I),(⟨g,i*9+5,D⟩:H))∈sP (C ⟨g,0,D⟩) i e:=by
 unfold sP;rw[ay ah,aA k,show(⟨g,i*9+5,D⟩:H)=oJ (C ⟨g,0,D⟩) (i*9+5) from by simp[oJ]];exact iM _ (iM _ (nO.2 ⟨rfl,a⟩))
theorem WC (g i:K)(k:e.kind=4):((3:I),(⟨g,i*9+7,D⟩:H))∈sP (C ⟨g,0,D⟩) i e:=by
 grind
def AR (e:EvC):Prop:=(e.kind≠1->e.gG=0)/\(¬(e.kind=2\/e.kind=3)->e.obj=0/\e.v=⟨0,0⟩)/\(e.kind≠4->e.pred=0)
def Qb (F:I->G I)(e:EvC):EvC:={fJ F e with sa:=e.sa,sn:=e.sn,sc:=e.sc}
def Qc (F:I->G I)(x:aO):aO:={x with obj:=bX (F 2) x.obj}
def Qd (F:I->G I)(x:aP):aP:={x with pred:=bX (F 3) x.pred,obj:=bX (F 2) x.obj}
def Xn (F:I->G I)(x:Wa):Wa:={x with gG:=bX (F 1) x.gG}
section
variable {X Y:O}{B:K}{h:HC}{es:G EvC}{ds:G aO}{ms:G aP}{qs:G Wa}{scan:EvC->G Sn}{dn:aO->G I}{mn:aP->G I}
variable{p:I × H}
theorem Qe (a:p∈mG h.e.a scan 0 es):p∈aV h es ds ms qs scan dn mn:=qX _ a
theorem Qf (a:p∈pR h.d.a dn 0 ds):p∈aV h es ds ms qs scan dn mn:=nu _ (qX _ a)
theorem Kc (a:p∈pQ h.m.a mn 0 ms):p∈aV h es ds ms qs scan dn mn:=nu _ (nu _ (qX _ a))
theorem WE (a:p∈sH h.w.a 0 qs):p∈aV h es ds ms qs scan dn mn:=nu _ (nu _ (nu _ a))
theorem Lay.which (l:Lay X B h es ds ms qs scan dn mn)(f:p∈aV h es ds ms qs scan dn mn):
  (Ty X p.2.block 50/\∃i e,es[i]?=C e/\p∈sP h.e.a i e)\/(Ty X p.2.block 148/\∃e∈es,e.val.ownBlock=C p.2.block/\p∈oo e.sa 0 (scan e))\/
  (Ty X p.2.block 65/\∃i x,ds[i]?=C x/\p∈Iu h.d.a i x)\/(Ty X p.2.block 67/\∃i x,ms[i]?=C x/\p∈F4 h.m.a i x)\/(Ty X p.2.block 69/\∃i x,qs[i]?=C x/\p∈Iw h.w.a i x)\/
  (Ty X p.2.block 3/\((∃x∈ds,x.val.ownBlock=C p.2.block/\p∈kZ x.sa 0 (dn x))\/(∃x∈ms,x.val.ownBlock=C p.2.block/\p∈kZ x.sa 0 (mn x)))):=by
 unfold aV at f;rcases cu.1 f with f|f
 .have b:=(wR l).2.1 p f
  obtain⟨j,x,g,a⟩:=(eT es 0 p).1 f;rcases a with a|a
  .rw[bQ] at a
   rcases b with b|⟨b,y,m,n⟩
   .exact .inl ⟨b,j,x,g,a⟩
   .exact .inr (.inl ⟨b,y,m,((qb (l.se y m)).2.1 p n).2,n⟩)
  .have o:=bS g
   exact .inr (.inl ⟨((qb (l.se x o)).2.1 p a).1,x,o,((qb (l.se x o)).2.1 p a).2,a⟩)
 .rcases cu.1 f with f|f
  .have b:=(wT l).2.1 p f
   obtain⟨j,x,g,a⟩:=(eT ds 0 p).1 f;rcases b with b|⟨b,y,m,hb,n⟩
   .rcases a with a|a
    .rw[bQ] at a
     exact .inr (.inr (.inl ⟨b,j,x,g,a⟩))
    .exact(b.no ((jD (l.sd x (bS g))).2.1 p a).1 aj).elim
   .exact .inr (.inr (.inr (.inr (.inr ⟨b,.inl ⟨y,m,hb,n⟩⟩))))
  .rcases cu.1 f with f|f
   .have b:=(wU l).2.1 p f
    obtain⟨j,x,g,a⟩:=(eT ms 0 p).1 f;rcases b with b|⟨b,y,m,hb,n⟩
    .rcases a with a|a
     .rw[bQ] at a
      exact .inr (.inr (.inr (.inl ⟨b,j,x,g,a⟩)))
     .exact(b.no ((jD (l.sm x (bS g))).2.1 p a).1 aj).elim
    .exact .inr (.inr (.inr (.inr (.inr ⟨b,.inr ⟨y,m,hb,n⟩⟩))))
   .have b:=(wV l).2.1 p f
    obtain⟨j,x,g,a⟩:=(eT qs 0 p).1 f;rcases a with a|a
    .rw[bQ] at a
     exact .inr (.inr (.inr (.inr (.inl ⟨b,j,x,g,a⟩))))
    .cases a
theorem Lay.Qg (l:Lay X B h es ds ms qs scan dn mn)(ha:h.e.a=C ⟨g,0,D⟩)(o:j<9)(b:(s,(⟨g,i*9+j,D⟩:H))∈aV h es ds ms qs scan dn mn):
  ∃e,es[i]?=C e/\((j=1/\s=0)\/(j=2/\s=1/\e.kind=1)\/(j=4/\s=2/\(e.kind=2\/e.kind=3))\/(j=5/\s=0/\(e.kind=2\/e.kind=3)/\0<e.v.k)\/(j=7/\s=3/\e.kind=4)):=by
 have f:Ty X g 50:=l.oe.tag (by show(V h.e.a h.e.n h.e.c).ownBlock=C g;rw[ha];rfl);rcases l.which b with⟨_,m,e,n,a⟩|⟨t,_⟩|⟨t,_⟩|⟨t,_⟩|⟨t,_⟩|⟨t,_⟩
 .rw[ha] at a
  have hc:=Mw a;obtain rfl:m=i:=by rcases hc with c|c|c|c|c <;> (have:=c.1;omega)
  refine⟨e,n,?_⟩;rcases hc with c|c|c|c|c
  .exact .inl ⟨by omega,c.2⟩
  .exact .inr (.inl ⟨by omega,c.2⟩)
  .exact .inr (.inr (.inl ⟨by omega,c.2⟩))
  .exact .inr (.inr (.inr (.inl ⟨by omega,c.2⟩)))
  .exact .inr (.inr (.inr (.inr ⟨by omega,c.2⟩)))
 all_goals exact(f.no t aj).elim
theorem Lay.U5 (l:Lay X B h es ds ms qs scan dn mn)(P:Moved X Y F (aV h es ds ms qs scan dn mn))(Q:∀e∈es,AR e):Own Y B 50 9 dK h.e.v (es.map (Qb F)):=by
 refine l.oe.moved (hc:=oG) P (by rw[bC]) (λg f i x y j u n o a=>?_);have ho:Own X B 50 9 dK (M h.e.a h.e.n h.e.c) es:=l.oe;have ha:h.e.a=C ⟨g,0,D⟩:=by
  rcases ho.sJ with⟨ha,_⟩|⟨g',ha,_⟩
  .rw[show h.e.v= M h.e.a h.e.n h.e.c from rfl,ha] at f;cases f
  .rw[show h.e.v= M h.e.a h.e.n h.e.c from rfl,ha] at f;injection f with f;rw[ha];subst f;rfl
 rw[kY,n] at o;injection o with o;subst o;have S:=bS n;obtain⟨Z,t,b3⟩:=Q x S;have b:∀{j:K},j<9->(∀s,¬((j=1/\s=(0:I))\/(j=2/\s=1/\x.kind=1)\/(j=4/\s=2/\(x.kind=2\/x.kind=3))\/(j=5/\s=0/\(x.kind=2\/x.kind=3)/\0<x.v.k)\/(j=7/\s=3/\x.kind=4)))->∀s,(s,(⟨g,i*9+j,D⟩:H))∉aV h es ds ms qs scan dn mn:=λz hn s A=>by
  obtain⟨e,r,hc⟩:=l.Qg ha z A;rw[n] at r;injection r with r;subst r;exact hn s hc
 have m:∀{p:I × H},p∈sP (C ⟨g,0,D⟩) i x->p∈aV h es ds ms qs scan dn mn:=λA=>Qe ((eT es 0 _).2 ⟨i,x,n,.inl (by rw[ha,bQ];exact A)⟩)
 have β:j<9:=by have:=(bq.1 a).1;simpa[dK] using this
 have z:j=0\/j=1\/j=2\/j=3\/j=4\/j=5\/j=6\/j=7\/j=8:=by omega
 rcases z with rfl|rfl|rfl|rfl|rfl|rfl|rfl|rfl|rfl
 .exact .inl ⟨a,b ah (λs hc=>by omega)⟩
 .refine .inr ⟨0,x.t,m (Wy g i x),?_,rfl⟩
  injection a with a;exact a.symm
 .by_cases k:x.kind=1
  .refine .inr ⟨1,x.gG,m (Wz g i k),?_,?_⟩
   .injection a with a;exact a.symm
   .show C (J N (if x.kind=1 then bX (F 1) x.gG else 0))=_
    rw[aA k]
  .refine .inl ⟨?_,b ah (λs hc=>by omega)⟩
   rw[<-a];show C (J N (if x.kind=1 then bX (F 1) x.gG else 0))=C (J N x.gG);rw[ay k,Z k]
 .exact .inl ⟨a,b ah (λs hc=>by omega)⟩
 .by_cases k:x.kind=2\/x.kind=3
  .refine .inr ⟨2,x.obj,m (WA g i k),?_,?_⟩
   .injection a with a;exact a.symm
   .show C (J N (if x.kind=2\/x.kind=3 then bX (F 2) x.obj else 0))=_
    rw[aA k]
  .refine .inl ⟨?_,b ah (λs hc=>by omega)⟩
   rw[<-a];show C (J N (if x.kind=2\/x.kind=3 then bX (F 2) x.obj else 0))=C (J N x.obj);rw[ay k,(t k).1]
 .by_cases k:x.kind=2\/x.kind=3
  .by_cases E:0<x.v.k
   .refine .inr ⟨0,x.v.t,m (WB g i k E),?_,?_⟩
    .injection a with a;exact a.symm
    .show C (J N (if x.kind=2\/x.kind=3 then jc F x.v else⟨0,0⟩).t)=_
     unfold jc;rw[aA k,aA E]
   .refine .inl ⟨?_,b ah (λs hc=>by omega)⟩
    rw[<-a];show C (J N (if x.kind=2\/x.kind=3 then jc F x.v else⟨0,0⟩).t)=C (J N x.v.t);unfold jc;rw[aA k,ay E]
  .refine .inl ⟨?_,b ah (λs hc=>by omega)⟩
   rw[<-a];show C (J N (if x.kind=2\/x.kind=3 then jc F x.v else⟨0,0⟩).t)=C (J N x.v.t);rw[ay k,(t k).2]
 .refine .inl ⟨?_,b ah (λs hc=>by omega)⟩
  rw[<-a];show C (J N (if x.kind=2\/x.kind=3 then jc F x.v else⟨0,0⟩).k)=C (J N x.v.k);by_cases k:x.kind=2\/x.kind=3
  .rw[aA k]
   unfold jc
   split <;> rfl
  .rw[ay k,(t k).2]
 .by_cases k:x.kind=4
  .refine .inr ⟨3,x.pred,m (WC g i k),?_,?_⟩
   .injection a with a;exact a.symm
   .show C (J N (if x.kind=4 then bX (F 3) x.pred else 0))=_
    rw[aA k]
  .refine .inl ⟨?_,b ah (λs hc=>by omega)⟩
   rw[<-a];show C (J N (if x.kind=4 then bX (F 3) x.pred else 0))=C (J N x.pred);rw[ay k,b3 k]
 .exact .inl ⟨a,b ah (λs hc=>by omega)⟩
end
theorem Aa {β:Type}{enc:β->G U}{k:K}{B:K}{c:K}{xs:G β}(e:Own X B T k enc (M a n c) xs)(b:(V a n c).ownBlock=C g):a=C ⟨g,0,D⟩:=by
 rcases e.sJ with⟨ha,_⟩|⟨f,ha,_⟩
 .rw[ha] at b;cases b
 .rw[ha] at b ⊢;injection b with b;subst b;rfl
theorem oK {q:K}{u:I}{r:K}(e:((s,(⟨g,q,D⟩:H)):I × H)=(u,(⟨g,0+r,D⟩:H))):q=r/\s=u:=by
 injection e with b a;injection a with _ a _;exact⟨by omega,b⟩
section
variable {X Y:O}{B:K}{h:HC}{es:G EvC}{ds:G aO}{ms:G aP}{qs:G Wa}{scan:EvC->G Sn}{dn:aO->G I}{mn:aP->G I}{F:I->G I}
theorem Lay.U6 (l:Lay X B h es ds ms qs scan dn mn)(p:Moved X Y F (aV h es ds ms qs scan dn mn)):Own Y B 65 2 dU h.d.v (ds.map (Qc F)):=by
 refine l.od.moved (hc:=pX) p (by rw[bC]) (λg m i x y j u n f a=>?_);have ha:=Aa (show Own X B 65 2 dU (M h.d.a h.d.n h.d.c) ds from l.od) m;have b:Ty X g 65:=l.od.tag m;rw[kY,n] at f;injection f with f;subst f;have z:j<2:=by have:=(bq.1 a).1;simpa[dU] using this
 rcases(by omega:j=0\/j=1) with rfl|rfl
 .refine .inr ⟨2,x.obj,Qf ((eT ds 0 _).2 ⟨i,x,n,.inl ?_⟩),?_,rfl⟩
  .rw[ha,bQ];simp[Iu,oJ]
  .injection a with a;exact a.symm
 .refine .inl ⟨a,λs r=>?_⟩
  rcases l.which r with⟨t,_⟩|⟨t,_⟩|⟨_,A,e,E,o⟩|⟨t,_⟩|⟨t,_⟩|⟨t,_⟩
  .exact b.no t aj
  .exact b.no t aj
  .rw[ha] at o
   have:=oK (dw.1 o);omega
  .exact b.no t aj
  .exact b.no t aj
  .exact b.no t aj
theorem Lay.U7 (l:Lay X B h es ds ms qs scan dn mn)(r:Moved X Y F (aV h es ds ms qs scan dn mn)):Own Y B 67 4 dV h.m.v (ms.map (Qd F)):=by
 refine l.om.moved (hc:=nG) r (by rw[bC]) (λg o i x y j u n m a=>?_);have ha:=Aa (show Own X B 67 4 dV (M h.m.a h.m.n h.m.c) ms from l.om) o;have f:Ty X g 67:=l.om.tag o;rw[kY,n] at m;injection m with m;subst m;have A:j<4:=by have:=(bq.1 a).1;simpa[dV] using this
 have p:∀{j},j<4->2<=j->∀s,(s,(⟨g,i*4+j,D⟩:H))∉aV h es ds ms qs scan dn mn:=λE P s z=>by
  rcases l.which z with⟨t,_⟩|⟨t,_⟩|⟨t,_⟩|⟨_,Q,e,S,b⟩|⟨t,_⟩|⟨t,_⟩
  .exact f.no t aj
  .exact f.no t aj
  .exact f.no t aj
  .rw[ha] at b
   rcases dP.1 b with b|b
   .have:=oK b;omega
   .have:=oK (dw.1 b);omega
  .exact f.no t aj
  .exact f.no t aj
 rcases(by omega:j=0\/j=1\/j=2\/j=3) with rfl|rfl|rfl|rfl
 .refine .inr ⟨3,x.pred,Kc ((eT ms 0 _).2 ⟨i,x,n,.inl ?_⟩),?_,rfl⟩
  .rw[ha,bQ];simp[F4,oJ]
  .injection a with a;exact a.symm
 .refine .inr ⟨2,x.obj,Kc ((eT ms 0 _).2 ⟨i,x,n,.inl ?_⟩),?_,rfl⟩
  .rw[ha,bQ];simp[F4,oJ]
  .injection a with a;exact a.symm
 .exact .inl ⟨a,p ah ah⟩
 .exact .inl ⟨a,p ah ah⟩
theorem Lay.U8 (l:Lay X B h es ds ms qs scan dn mn)(p:Moved X Y F (aV h es ds ms qs scan dn mn)):Own Y B 69 2 eY h.w.v (qs.map (Xn F)):=by
 refine l.oq.moved (hc:=qH) p (by rw[bC]) (λg m i x y j u n f a=>?_);have ha:=Aa (show Own X B 69 2 eY (M h.w.a h.w.n h.w.c) qs from l.oq) m;have b:Ty X g 69:=l.oq.tag m;rw[kY,n] at f;injection f with f;subst f;have z:j<2:=by have:=(bq.1 a).1;simpa[eY] using this
 rcases(by omega:j=0\/j=1) with rfl|rfl
 .refine .inr ⟨1,x.gG,WE ((eT qs 0 _).2 ⟨i,x,n,.inl ?_⟩),?_,rfl⟩
  .rw[ha,bQ];simp[Iw,oJ]
  .injection a with a;exact a.symm
 .refine .inl ⟨a,λs r=>?_⟩
  rcases l.which r with⟨t,_⟩|⟨t,_⟩|⟨t,_⟩|⟨t,_⟩|⟨_,A,e,E,o⟩|⟨t,_⟩
  .exact b.no t aj
  .exact b.no t aj
  .exact b.no t aj
  .exact b.no t aj
  .rw[ha] at o
   have:=oK (dw.1 o);omega
  .exact b.no t aj
theorem Lay.U9 (l:Lay X B h es ds ms qs scan dn mn)(hM:Moved X Y F (aV h es ds ms qs scan dn mn))(n:e∈es):Own Y B 148 3 bI e.val ((scan e).map (zk F)):=by
 refine(l.se e n).moved (hc:=lK) hM (by rw[bC]) (λg P i x y j u Q r f=>?_);have ha:=Aa (show Own X B 148 3 bI (M e.sa e.sn e.sc) (scan e) from l.se e n) P;have o:Ty X g 148:=(l.se e n).tag P;rw[kY,Q] at r;injection r with r;subst r;have δ:j<3:=by have:=(bq.1 f).1;simpa[bI] using this
 have S:∀{p},p∈F3 (C ⟨g,0,D⟩) i x->p∈aV h es ds ms qs scan dn mn:=λm=>by
  obtain⟨q,hq⟩:=qi.1 n;refine Qe ((eT es 0 _).2 ⟨q,e,hq,.inr ?_⟩);rw[ha];exact(eT (scan e) 0 _).2 ⟨i,x,Q,.inl (by rw[bQ];exact m)⟩
 have Z:∀{j s},j<3->(s,(⟨g,i*3+j,D⟩:H))∈aV h es ds ms qs scan dn mn->(s,(⟨g,i*3+j,D⟩:H))∈F3 (C ⟨g,0,D⟩) i x:=fun {j s} hj m=>by
  rcases l.which m with⟨t,_⟩|⟨_,e',β,γ,a⟩|⟨t,_⟩|⟨t,_⟩|⟨t,_⟩|⟨t,_⟩
  .exact(o.no t aj).elim
  .obtain rfl:=IU (val:=EvC.val) l.pe n β P γ
   rw[ha] at a;obtain⟨q,z,A,a⟩:=(eT (scan e) 0 _).1 a;rcases a with a|a
   .rw[bQ] at a
    have:=((Gm (b:=g) q z).2 _ a).2;simp only at this;obtain rfl:q=i:=by omega
    rw[Q] at A;injection A with A;subst A;exact a
   .cases a
  .exact(o.no t aj).elim
  .exact(o.no t aj).elim
  .exact(o.no t aj).elim
  .exact(o.no t aj).elim
 rcases(by omega:j=0\/j=1\/j=2) with rfl|rfl|rfl
 .refine .inr ⟨2,x.obj,S (by simp[F3,oJ]),?_,rfl⟩
  injection f with f;exact f.symm
 .by_cases E:0<x.v.k
  .refine .inr ⟨0,x.v.t,S (iM _ (nO.2 ⟨by simp[oJ],E⟩)),?_,?_⟩
   .injection f with f;exact f.symm
   .show C (J N (jc F x.v).t)=_
    unfold jc;rw[aA E]
  .refine .inl ⟨?_,λs m=>?_⟩
   .rw[<-f]
    show C (J N (jc F x.v).t)=C (J N x.v.t);unfold jc;rw[ay E]
   .rcases dP.1 (Z ah m) with a|a
    .have:=oK a;omega
    .exact E (nO.1 a).2
 .refine .inl ⟨?_,λs m=>?_⟩
  .rw[<-f]
   show C (J N (jc F x.v).k)=C (J N x.v.k);unfold jc
   split <;> rfl
  .rcases dP.1 (Z ah m) with a|a
   .have:=oK a;omega
   .have:=oK (nO.1 a).1;omega
theorem Lay.Mx (l:Lay X B h es ds ms qs scan dn mn)(o:Moved X Y F (aV h es ds ms qs scan dn mn)){c:K}{p:G I}(f:Own X B 3 1 aQ (M a n c) p)(r:∀s∈kZ a 0 p,s∈aV h es ds ms qs scan dn mn):Own Y B 3 1 aQ (M a n c) (p.map (bX (F 0))):=by
 refine f.moved (hc:=fA) o (by rw[bC]) (λg t i x y j u m b e=>?_);have ha:=Aa f t;rw[kY,m] at b;injection b with b;subst b;have z:j<1:=by have:=(bq.1 e).1;simpa[aQ] using this
 obtain rfl:j=0:=by omega
 refine .inr ⟨0,x,r _ ?_,?_,rfl⟩
 .rw[ha]
  exact(eT p 0 _).2 ⟨i,x,m,.inl (by simp[P5,oJ])⟩
 .injection e with e;exact e.symm
theorem Lay.Va (l:Lay X B h es ds ms qs scan dn mn)(b:Moved X Y F (aV h es ds ms qs scan dn mn)){x:aO}(a:x∈ds):Own Y B 3 1 aQ x.val ((dn x).map (bX (F 0))):=
 l.Mx b (l.sd x a) (λp e=>(let⟨q,f⟩:=qi.1 a;Qf ((eT ds 0 _).2 ⟨q,x,f,.inr e⟩)))
theorem Lay.Vb (l:Lay X B h es ds ms qs scan dn mn)(b:Moved X Y F (aV h es ds ms qs scan dn mn)){x:aP}(a:x∈ms):Own Y B 3 1 aQ x.val ((mn x).map (bX (F 0))):=
 l.Mx b (l.sm x a) (λp e=>(let⟨q,f⟩:=qi.1 a;Kc ((eT ms 0 _).2 ⟨q,x,f,.inr e⟩)))
variable{o:K}
theorem Lay.WG (l:Lay X B h es ds ms qs scan dn mn){k:K}(ha:h.e.a=C ⟨b,o,D⟩)(m:j=0\/j=6\/j=8)(s:I):(s,(⟨b,o+k*9+j,D⟩:H))∉aV h es ds ms qs scan dn mn:=λa=>by
 rcases(show Own X B 50 9 dK (M h.e.a h.e.n h.e.c) es from l.oe).sJ with⟨q,_⟩|⟨g,q,_⟩
 .rw[ha] at q;cases q
 .rw[ha] at q
  injection q with q;injection q with f i;subst f i;rw[bQ] at a;obtain⟨e,_,hc⟩:=l.Qg ha ah a;omega
theorem Lay.WH (l:Lay X B h es ds ms qs scan dn mn){k:K}(ha:h.d.a=C ⟨b,o,D⟩)(s:I):(s,(⟨b,o+k*2+1,D⟩:H))∉aV h es ds ms qs scan dn mn:=λi=>by
 have ho:Own X B 65 2 dU (M h.d.a h.d.n h.d.c) ds:=l.od;rcases ho.sJ with⟨q,_⟩|⟨g,q,_⟩
 .rw[ha] at q;cases q
 .rw[ha] at q
  injection q with q;injection q with j m;subst j m;have a:Ty X b 65:=l.od.tag (by show(V h.d.a h.d.n h.d.c).ownBlock=C b;rw[ha];rfl);rcases l.which i with⟨t,_⟩|⟨t,_⟩|⟨_,n,e,p,f⟩|⟨t,_⟩|⟨t,_⟩|⟨t,_⟩
  .exact a.no t aj
  .exact a.no t aj
  .rw[ha] at f
   have:=oK (dw.1 f);omega
  .exact a.no t aj
  .exact a.no t aj
  .exact a.no t aj
theorem Lay.WI (l:Lay X B h es ds ms qs scan dn mn){k:K}(ha:h.m.a=C ⟨b,o,D⟩)(s:I):(s,(⟨b,o+k*4+3,D⟩:H))∉aV h es ds ms qs scan dn mn:=λi=>by
 have ho:Own X B 67 4 dV (M h.m.a h.m.n h.m.c) ms:=l.om;rcases ho.sJ with⟨q,_⟩|⟨g,q,_⟩
 .rw[ha] at q;cases q
 .rw[ha] at q
  injection q with q;injection q with j m;subst j m;have f:Ty X b 67:=l.om.tag (by show(V h.m.a h.m.n h.m.c).ownBlock=C b;rw[ha];rfl);rcases l.which i with⟨t,_⟩|⟨t,_⟩|⟨t,_⟩|⟨_,n,e,p,a⟩|⟨t,_⟩|⟨t,_⟩
  .exact f.no t aj
  .exact f.no t aj
  .exact f.no t aj
  .rw[ha] at a
   rcases dP.1 a with a|a
   .have:=oK a;omega
   .have:=oK (dw.1 a);omega
  .exact f.no t aj
  .exact f.no t aj
theorem Lay.jv (l:Lay X B h es ds ms qs scan dn mn)(i:e∈es){k:K}(ha:e.sa=C ⟨b,o,D⟩)(s:I):(s,(⟨b,o+k*3+2,D⟩:H))∉aV h es ds ms qs scan dn mn:=λm=>by
 have ho:Own X B 148 3 bI (M e.sa e.sn e.sc) (scan e):=l.se e i;rcases ho.sJ with⟨q,_⟩|⟨g,q,_⟩
 .rw[ha] at q;cases q
 .rw[ha] at q
  injection q with q;injection q with n p;subst n p;have j:e.val.ownBlock=C b:=by show(V e.sa e.sn e.sc).ownBlock=C b;rw[ha];rfl
  have f:Ty X b 148:=(l.se e i).tag j;rcases l.which m with⟨t,_⟩|⟨_,x,r,u,a⟩|⟨t,_⟩|⟨t,_⟩|⟨t,_⟩|⟨t,_⟩
  .exact f.no t aj
  .obtain rfl:=IU (val:=EvC.val) l.pe i r j u
   rw[ha] at a;obtain⟨q,z,y,a⟩:=(eT (scan e) 0 _).1 a;rcases a with a|a
   .rw[bQ] at a
    rcases dP.1 a with a|a
    .have:=oK a;omega
    .have:=oK (nO.1 a).1;omega
   .cases a
  .exact f.no t aj
  .exact f.no t aj
  .exact f.no t aj
  .exact f.no t aj
end
end Yd
