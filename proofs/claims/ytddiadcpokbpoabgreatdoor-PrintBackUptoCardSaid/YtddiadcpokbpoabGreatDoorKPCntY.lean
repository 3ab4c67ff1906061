import Derived.Test.YtddiadcpokbpoabGreatDoorKREvent
import Derived.Test.YtddiadcpokbpoabGreatDoorKDown13
import Derived.Test.YtddiadcpokbpoabGreatDoorKChG
set_option linter.all false
set_option maxRecDepth 200000
set_option maxHeartbeats 8000000
namespace Yd
open Bool renaming true->C,false->G
open List renaming dropWhile_suffix->O,drop_suffix->V
open Nat renaming sub_zero->Y
open Go Go.RowKit Go.Proofs
open Lib renaming decodeN->J,decode_at->U
open Same renaming setCell->T
open Utf8 renaming decode->D
open _root_ renaming List->H,Nat->I,Int->L,UInt8->M,absurd->N
theorem abd{p:Prop}(h:p:=by omega):p:=h
theorem abe{p:Prop}(h:p:=by simp):p:=h
theorem abf{p:Prop}(h:p:=by decide):p:=h
theorem abg{p:Prop}(h:p:=by rw[jg];decide):p:=h
theorem abh{p:Prop}(h:p:=by simp at s;omega):p:=h
theorem abj{p:Prop}(h:p:=by simp[Up]):p:=h
theorem abk{p:Prop}(h:p:=by rw[<-bg (f:=λp:Bs × Bs=>p.2),l,t];rfl):p:=h
theorem abl{p:Prop}(h:p:=by rw[<-bg (f:=λp:Bs × Bs=>p.2),j,t];rfl):p:=h
theorem abm{p:Prop}(h:p:=by rw[<-bg (f:=λp:Bs × Bs=>p.2),l,fB,t,nX ah];rfl):p:=h
variable{t:Bs}
theorem EZ {b:M}(a:iC b=C):bL (b::t)=bL t:=by unfold bL;rw[zA,av a]
theorem vM {b:M}(a:iC b=G):bL (b::t)=b::t:=by unfold bL;rw[zA,a];rfl
def xU (c:M):Bool:=nD c||decide (128<=c.toNat)
def zQ (l:Bs):I:=(l.takeWhile xU).length
def M5 (a:H Bs)(l:Bs):Except Er (I × Bs):=
 match a.findIdx? (λs=>s==l.take (zQ l)) with
 |some i=> .ok (i,l.drop (zQ l))
 |none=> .error (l.drop (uw a (l.take (zQ l))),220)
theorem XD {c:M}(a:nD c=C):xU c=C:=by unfold xU;rw[a];rfl
theorem Jg:∀l:Bs,l.takeWhile xU=l.takeWhile nD++(l.drop (l.takeWhile nD).length).takeWhile xU
 |[]=>rfl
 |a::t=>by
  rw[lV,lV]
  cases d:nD a
  .simp only[yV,fG,fK,gY,List.drop_zero]
   rw[lV]
  .rw[XD d,av rfl,av rfl]
   simp only[dK,List.drop_succ_cons,fA];rw[<-Jg t]
theorem Va (q:M->Bool)(l:Bs):l.take (l.takeWhile q).length=l.takeWhile q:=by
 have:l=l.takeWhile q++l.dropWhile q:=(List.takeWhile_append_dropWhile).symm;generalize a:l.takeWhile q=x at*;rw[this];simp
theorem dw_head (q:M->Bool):∀(l:Bs)(b:M)(t:Bs),l.dropWhile q=b::t->q b=G
 |[],b,t,h=>by simp at h
 |a::l,b,t,h=>by
  rw[zA] at h
  cases d:q a
  .rw[d] at h;simp at h;rw[<-h.1];exact d
  .rw[d] at h;exact dw_head q l b t (by simpa using h)
theorem Jh (b:M)(u:Bs):∀(x a:Bs),(∀c∈x,c≠b)->jl x (a++b::u)=jl x a
 |[],a,_=>by simp[jl]
 |c::x,[],h=>by simp[jl,h c fQ]
 |c::x,d::a,h=>by
  rw[fA];simp only[jl];rw[Jh b u x a (λe f=>h e (d9 _ f))]
theorem Vb (b:M)(u a:Bs)(d:H Bs)(f:∀x∈d,∀c∈x,c≠b):uw d (a++b::u)=uw d a:=by
 unfold uw;have:∀(d:H Bs)(m:I),(∀x∈d,∀c∈x,c≠b)->d.foldl (λm s=>max m (jl s (a++b::u))) m=d.foldl (λm s=>max m (jl s a)) m:=by
  intro d
  induction d with
  |nil=>intro m _;rfl
  |cons x d g=>
   intro m e;simp only[List.foldl_cons];rw[Jh b u x a (e x fQ),g _ (λy i=>e y (d9 _ i))]
 exact this d 0 f
theorem Dc (d:H Bs)(l:Bs)(p:∀x∈d,∀c∈x,nD c=C):M5 d l=fo d l:=by
 have A:l.take (zQ l)=l.takeWhile xU:=Va xU l;have a:=Jg l;have z:=rA nD l;unfold M5 fo;rw[A];have r:fw l=l.takeWhile nD:=rfl
 cases s:l.dropWhile nD with
 |nil=>
  have f:l.drop (l.takeWhile nD).length=[]:=z.trans s;rw[f] at a;have g:l.takeWhile xU=fw l:=by rw[a];simp[fw]
  have i:mG l=fw l:=by unfold mG;rw[r,f];rfl
  have u:zQ l=(fw l).length:=by unfold zQ;rw[g]
  rw[g,i,u]
  rfl
 |cons b t=>
  have f:l.drop (l.takeWhile nD).length=b::t:=z.trans s;have v:nD b=G:=dw_head nD l b t s;rw[f] at a;by_cases o:128<=b.toNat
  .have y:xU b=C:=by unfold xU;rw[bT o,Bool.or_true]
   rw[lV,y,av rfl] at a;have i:mG l=fw l++[128]:=by
    unfold mG;rw[r,f];simp only[qG];rw[av (show(128:M)<=b from o)]
   have E:∀x∈d,(x==l.takeWhile xU)=G:=λx j=>by
    rw[a];refine aX.2 (λe=>?_);have:=p x j b (by rw[e];simp);rw[v] at this;cases this
   have F:∀x∈d,(x==mG l)=G:=λx j=>by
    rw[i];refine aX.2 (λe=>?_);have:=p x j 128 (by rw[e];simp);revert this;decide
   rw[zy.2 E,zy.2 F];simp only[];rw[a,Vb b _ _ d (λx j c K e=>by have:=p x j c K;rw[e,v] at this;cases this)]
   rfl
  .have y:xU b=G:=by unfold xU;rw[bE o,v];rfl
   rw[lV,y] at a;have g:l.takeWhile xU=fw l:=by rw[a];simp[fw]
   have i:mG l=fw l:=by
    unfold mG;rw[r,f];simp only[qG];rw[au (show ¬(128:M)<=b from o)]
   have u:zQ l=(fw l).length:=by unfold zQ;rw[g]
   rw[g,i,u]
   rfl
def Ji (l:Bs):L:=V8 ⟨l.toArray⟩
def hdN (l:Bs):I:=if okB ⟨l.toArray⟩ 0=C then(D ⟨l.toArray⟩ 0).2 else 1
variable{l:Bs}
theorem Jj (d:l≠[]):Ji l=if okB ⟨l.toArray⟩ 0=C then((D ⟨l.toArray⟩ 0).1:L) else -1:=by
 unfold Ji V8;rw[av (by rw[gN];cases l with|nil=>exact N rfl d|cons a t=>simp)]
theorem TF {b:M}(t:Bs)(a:b.toNat<128):Ji (b::t)=b.toNat/\hdN (b::t)=1:=by
 rw[Jj ak];unfold hdN;rw[Gx b t a,av rfl,av rfl,nU b t a];exact⟨rfl,rfl⟩
theorem Zr {b:M}(t:Bs)(a:128<=b.toNat):Ji (b::t)= -1\/128<=Ji (b::t):=by
 rw[Jj ak];have:=vw b t a
 split
 .right;omega
 .left;rfl
theorem Zt (b:M)(t:Bs)(k:I)(a:k<128):(Ji (b::t)=(k:L))↔b.toNat=k:=by
 rcases iM b.toNat 128 with h|h
 .rw[(TF t h).1];omega
 .rcases Zr t h with e|e <;> constructor <;> intro <;> omega
theorem PL (n l o p s t u v x r w:I)(a:J n o p s t=(r,w))(g:¬(r=65533/\w=1))(A:w<=l)(i:1<w->u=p)(y:2<w->v=s)(z:3<w->x=t):J l o u v x=(r,w):=by
 unfold J at a
 split at a
 .rename_i h
  unfold J;rw[av h];exact a
 .rename_i j
  split at a
  .rename_i h
   split at a
   .rename_i f
    injection a with d e;subst e;obtain rfl:=i ah;unfold J;rw[au j,av ⟨h.1,abd,h.2.2⟩,av f,d]
   .injection a with d e;exact N ⟨d.symm,e.symm⟩ g
  .rename_i E
   split at a
   .rename_i h
    split at a
    .rename_i f
     injection a with d e;subst e;obtain rfl:=i ah;obtain rfl:=y ah;unfold J;rw[au j,au ah,av ⟨h.1,⟨abd,h.2.1.2⟩,abd,h.2.2.2⟩,av f,d]
    .injection a with d e;exact N ⟨d.symm,e.symm⟩ g
   .rename_i F
    split at a
    .rename_i h
     split at a
     .rename_i f
      injection a with d e;subst e;obtain rfl:=i ah;obtain rfl:=y ah;obtain rfl:=z ah;unfold J;rw[au j,au ah,au ah,av ⟨h.1,⟨abd,h.2.1.2⟩,⟨abd,h.2.2.1.2⟩,abd,h.2.2.2.2⟩,av f,d]
     .injection a with d e;exact N ⟨d.symm,e.symm⟩ g
    .injection a with d e;exact N ⟨d.symm,e.symm⟩ g
theorem wo (l:Bs)(m k:I)(a:k<m):(l.take m).getD k 0=l.getD k 0:=by simp[List.getD,a]
theorem Jk (l:Bs):D ⟨l.toArray⟩ 0=J l.length (l.getD 0 0).toNat (l.getD 1 0).toNat (l.getD 2 0).toNat (l.getD 3 0).toNat:=by
 have:=Lib.decode_N ⟨l.toArray⟩ 0
 simpa using this
theorem RZ {m:I}(i:okB ⟨l.toArray⟩ 0=C)(d:(D ⟨l.toArray⟩ 0).2<=m)(e:(D ⟨l.toArray⟩ 0).2<=l.length)(j:0<m):D ⟨(l.take m).toArray⟩ 0=D ⟨l.toArray⟩ 0:=by
 have a:=I9 i;have f:=Jk l;obtain⟨r,w,o⟩:∃r w,D ⟨l.toArray⟩ 0=(r,w):=⟨_,_,rfl⟩;rw[o] at f d e a ⊢;simp only at d e a;rw[Jk (l.take m),wo l m 0 j];refine PL l.length _ _ _ _ _ _ _ _ r w f.symm a (by rw[fB];omega) (λg=>?_) (λg=>?_) (λg=>?_)
 .rw[wo l m 1 ah]
 .rw[wo l m 2 ah]
 .rw[wo l m 3 ah]
theorem R3 (l:Bs)(a:l≠[]):cK ⟨l.toArray⟩ l.length 0=0::(cK ⟨(l.drop (D ⟨l.toArray⟩ 0).2).toArray⟩ (l.drop (D ⟨l.toArray⟩ 0).2).length 0).map ((D ⟨l.toArray⟩ 0).2+ ·):=by
 obtain⟨d,f⟩:∃d,d=(D ⟨l.toArray⟩ 0).2:=⟨_,rfl⟩;have g:=vV l a;rw[<-f] at g ⊢;obtain⟨n,i⟩:∃n,l.length=n+1:=⟨l.length - 1,by have:l.length≠0:=λe=>a (vU e);omega⟩;rw[i];simp only[cK,gN];rw[av ah,<-f,bD,<-dB d,yB,dB,wV ⟨(l.drop d).toArray⟩ n (l.drop d).length 0 (by rw[gN,gI];omega) (by rw[gN];omega)]
theorem PN (a:l≠[])(d:(okB ⟨l.toArray⟩ 0 && jo ((D ⟨l.toArray⟩ 0).1:L))=C):dW l=(D ⟨l.toArray⟩ 0).2+dW (l.drop (D ⟨l.toArray⟩ 0).2):=by
 unfold dW;rw[iH l jo a,av d]
theorem Vd (l:Bs):dW l<=l.length:=qN jo _ l (aB _)
def Bg (l:Bs)(k:I):Prop:=k<=dW l/\k+dW (l.drop k)=dW l/\
 ∃pre:H I,cK ⟨(l.take (dW l)).toArray⟩ (l.take (dW l)).length 0=pre++(cK ⟨((l.take (dW l)).drop k).toArray⟩ ((l.take (dW l)).drop k).length 0).map (k+ ·)/\∀x∈pre,x<k
theorem Bg.zero (l:Bs):Bg l 0:=⟨bn _,abe,[],abe,abe⟩
theorem Gt {k:I}(a:k+dW (l.drop k)=dW l):(l.take (dW l)).drop k=(l.drop k).take (dW (l.drop k)):=by
 rw[<-a,List.drop_take];congr 1;omega
theorem Bg.step {k:I}(t:Bg l k)(d:l.drop k≠[])(g:(okB ⟨(l.drop k).toArray⟩ 0 && jo ((D ⟨(l.drop k).toArray⟩ 0).1:L))=C):
  Bg l (k+(D ⟨(l.drop k).toArray⟩ 0).2)/\(24<k+(D ⟨(l.drop k).toArray⟩ 0).2->k<=24->24<dW l/\ru (l.take (dW l))=k):=by
 obtain⟨P,u,pre,v,i⟩:=t;have j:=PN d g;obtain⟨n,f⟩:∃n,n=(D ⟨(l.drop k).toArray⟩ 0).2:=⟨_,rfl⟩;have z:okB ⟨(l.drop k).toArray⟩ 0=C:=by
  revert g;cases okB ⟨(l.drop k).toArray⟩ 0 <;> simp
 have A:=vV (l.drop k) d;have o:=vz (l.drop k) d;rw[<-f] at j A o ⊢;rw[uS] at j;have p:=Gt u;have E:D ⟨((l.take (dW l)).drop k).toArray⟩ 0=D ⟨(l.drop k).toArray⟩ 0:=by
  rw[p];exact RZ z (by rw[<-f];omega) (by rw[<-f];exact o) ah
 have F:(l.take (dW l)).drop k≠[]:=by
  rw[p];intro e;have:=bJ List.length e;rw[fB] at this;simp only[gY] at this;have:=xP.2 d;omega
 have r:=R3 _ F;rw[E,<-f,uS] at r;have s:cK ⟨(l.take (dW l)).toArray⟩ (l.take (dW l)).length 0=(pre++[k])++(cK ⟨((l.take (dW l)).drop (k+n)).toArray⟩ ((l.take (dW l)).drop (k+n)).length 0).map ((k+n)+ ·):=by
  rw[v,r];simp[iF,Function.comp_def,Nat.add_assoc]
 refine⟨⟨abd,abd,pre++[k],s,λx a=>?_⟩,λQ K=>⟨abd,?_⟩⟩
 .rcases cu.1 a with a|a
  .have:=i x a;omega
  .obtain rfl:x=k:=by simpa using a
   omega
 .unfold ru
  rw[s,List.filter_append,filter_all _ (pre++[k]) (λx a=>?_),F3 _ _ (λx a=>?_)]
  .simp
  .obtain⟨y,_,rfl⟩:=bS.1 a
   exact bE ah
  .rcases cu.1 a with a|a
   .have:=i x a;exact bT ah
   .obtain rfl:x=k:=by simpa using a
    exact bT K
theorem Lc (b:M):iO b=C↔48<=b.toNat/\b.toNat<=57:=by
 unfold iO;rw[aM,aV,aV,UInt8.le_iff_toNat_le,UInt8.le_iff_toNat_le];rfl
theorem F5 (b:M)(t:Bs):dH (b::t)=jV (Ji (b::t)):=by
 rw[Jj ak];unfold dH
 cases h:okB ⟨(b::t).toArray⟩ 0
 .rw[au ak];rfl
 .rw[av rfl];rfl
theorem M6 {c:L}(a:jV c=C):kJ c=G:=by
 unfold jV at a;unfold kJ;simp only[rV,aM,aV] at a;simp only[Bool.and_eq_false_iff,decide_eq_false_iff_not];omega
theorem R4 (a:dR l=G)(d:dH l=C)(e:dW l<=24):dF l= .ok (l.take (dW l),l.drop (dW l)):=by
 unfold dF;rw[au (by rw[a,d];simp),au ah]
section
variable {w w':World}{B b:I}{c:bH}{n:aJ}
theorem PO {r:Bs}(a:eD l= .ok r):dM l= .ok (C,r):=by
 unfold eD at a
 cases d:dM l with
 |error x=>rw[d] at a;cases a
 |ok y=>
  obtain⟨b,e⟩:=y;rw[d] at a
  cases b
  .cases a
  .injection a with a;rw[a]
@[reducible] def R5 (w:World)(g:I)(c:bH):World:=(((((w.setCell ⟨g,0,none⟩ (.int .i64 c.kind)).setCell ⟨g,1,none⟩ (.slice c.na c.nn c.nc)).setCell ⟨g,2,none⟩ (.int .i64 c.lvl)).setCell ⟨g,3,none⟩ (.slice c.va c.vn c.vc)).setCell ⟨g,4,none⟩ (.bool c.first)).setCell ⟨g,5,none⟩ (.int .i64 c.bits)
theorem F6 (w:World)(g:I)(c:bH):Same (λi=>i≠g) w (R5 w g c):=
 (((((T _ _ _ _ ak).tr (T _ _ _ _ ak)).tr (T _ _ _ _ ak)).tr (T _ _ _ _ ak)).tr (T _ _ _ _ ak)).tr (T _ _ _ _ ak)
theorem fV.R5 {g:I}{c':bH}(a:fV w B c n)(e:∀i,(Value.slice c.na c.nn c.nc).ownBlock=some i->i≠g)(f:∀i,(Value.slice c.va c.vn c.vc).ownBlock=some i->i≠g):fV (R5 w g c') B c n:=
 ⟨a.1,a.2.1.block λi d=>(F6 w g c').block i (e i d) (a.2.1.lt i d).2,a.2.2.block λi d=>(F6 w g c').block i (f i d) (a.2.2.lt i d).2⟩
end
theorem R6 (a:dH l=G):dF l= .error (l,220):=by unfold dF;rw[av (by rw[a];simp)]
theorem Jl (k:I):∀x∈jR.drop k,∀c∈x,nD c=C:=λx a=>by
 have:∀x∈jR,∀c∈x,nD c=C:=by decide
 exact this x (wh a)
theorem Jm:∀x∈mF,∀c∈x,nD c=C:=by decide
theorem Ld:∀x∈lM,∀c∈x,nD c=C:=by decide
theorem Ve {b:M}(d:dH (b::t)=C):0<dW (b::t):=by
 have a:(okB ⟨(b::t).toArray⟩ 0 && jV ((D ⟨(b::t).toArray⟩ 0).1:L))=C:=by
  unfold dH at d
  simpa using d
 rw[aM] at a;have e:=vV (b::t) ak;unfold dW;rw[iH (b::t) jo ak,av (by rw[a.1];unfold jo;rw[a.2];rfl)];omega
variable{r:Bs}{i:I}
theorem Jo {d:H Bs}(a:M5 d l= .ok (i,r)):i<d.length:=by
 unfold M5 at a
 cases e:d.findIdx? (λs=>s==l.take (zQ l)) with
 |none=>rw[e] at a;cases a
 |some j=>
  rw[e] at a;injection a with a;injection a with a _;subst a;exact(List.findIdx?_eq_some_iff_findIdx_eq.1 e).1
theorem tq (w r:Bs)(i:I)(a:i<w.length):ByteArray.get! ⟨(w++r).toArray⟩ i=ByteArray.get! ⟨w.toArray⟩ i:=by
 simp only[ByteArray.get!];rw[getElem!_pos (w++r).toArray i (by simp;omega),getElem!_pos w.toArray i (by simpa using a)];simp[List.getElem_append_left a]
theorem R7 (n m d e i j p r s:I)(f:1<n->p=e)(l:2<n->r=i)(t:3<n->s=j)(g:J n d e i j≠(65533,1)):J (n+m) d p r s=J n d e i j:=by
 unfold J at g ⊢;by_cases a:d<128
 .rw[av a,av a]
 rw[au a] at g ⊢;rw[au a];by_cases o:d / 32=6/\(1<n/\e / 64=2)
 .rw[av o]
  rw[av (by rw[f o.2.1];omega),f o.2.1]
 rw[au o] at g ⊢;by_cases u:d / 16=14/\(1<n/\e / 64=2)/\(2<n/\i / 64=2)
 .rw[av u]
  rw[au ah,av (by rw[f ah,l ah];omega),f ah,l ah]
 rw[au u] at g ⊢;by_cases v:d / 8=30/\(1<n/\e / 64=2)/\(2<n/\i / 64=2)/\(3<n/\j / 64=2)
 .rw[av v]
  rw[au ah,au ah,av (by rw[f ah,l ah,t ah];omega),f ah,l ah,t ah]
 rw[au v] at g;exact N rfl g
theorem PS {s:ByteArray}(a:okB s 0=C):D s 0≠(65533,1):=λe=>by
 unfold okB at a;rw[e] at a;simp at a
theorem E5 (w r:Bs)(a:w≠[])(d:okB ⟨w.toArray⟩ 0=C):D ⟨(w++r).toArray⟩ 0=D ⟨w.toArray⟩ 0:=by
 have e:=PS d;have f:0<w.length:=xP.2 a;rw[U,U,gN,gN,bO,Y,Y] at*;rw[tq w r 0 f];refine R7 _ _ _ _ _ _ _ _ _ (λh=>?_) (λh=>?_) (λh=>?_) e
 .rw[tq w r (0+1) ah]
 .rw[tq w r (0+2) ah]
 .rw[tq w r (0+3) ah]
theorem PU (w r:Bs)(d:w≠[])(a:okB ⟨w.toArray⟩ 0=C):okB ⟨(w++r).toArray⟩ 0=C:=by
 unfold okB at a ⊢;rw[E5 w r d a];exact a
def Stops (p:L->Bool)(r:Bs):Prop:=r=[]\/(okB ⟨r.toArray⟩ 0 && p ((D ⟨r.toArray⟩ 0).1:L))=G
theorem Bj {p:L->Bool}(a:Stops p r):gK ⟨r.toArray⟩ p=0:=by
 rcases a with rfl|a
 .rfl
 .by_cases d:r=[]
  .subst d;rfl
  .rw[iH r p d,a];rfl
theorem El (p:L->Bool):∀(n:I)(w r:Bs),w.length<=n->gK ⟨w.toArray⟩ p=w.length->Stops p r->gK ⟨(w++r).toArray⟩ p=w.length
 |0,w,r,g,_,e=>by
  have:w=[]:=BS.1 ah;subst this;exact Bj e
 |n+1,w,r,g,f,e=>by
  by_cases a:w=[]
  .subst a;exact Bj e
  .have l:0<w.length:=xP.2 a
   rw[iH w p a] at f;by_cases d:(okB ⟨w.toArray⟩ 0 && p ((D ⟨w.toArray⟩ 0).1:L))=C
   .rw[av d] at f
    rw[aM] at d;have i:=E5 w r a d.1;have o:=vV w a;have j:=vz w a;rw[iH (w++r) p (by simp[a]),i,PU w r a d.1,d.2,av (show(C && C)=C from rfl),List.drop_append_of_le_length j];rw[El p n (w.drop (D ⟨w.toArray⟩ 0).2) r (by rw[gI];omega) (by rw[gI];omega) e,gI];omega
   .rw[au d] at f;omega
theorem tY {c:M}(t:Bs)(a:c.toNat<128)(d:jo (c.toNat:L)=G):Stops jo (c::t):= .inr (by rw[nU c t a];show(_ && jo (c.toNat:L))=G;rw[d,Bool.and_false])
theorem Em {w:Bs}(a:bG ⟨w.toArray⟩=C):w≠[]/\w.length<=24/\dW w=w.length/\dH w=C:=by
 unfold bG at a;simp only[aM,aV,Bool.not_eq_true'] at a;obtain⟨⟨⟨l,o⟩,i⟩,e⟩:=a;have d:w≠[]:=by rintro rfl;simp at l
 have r:0<w.length:=xP.2 d;rw[gN] at o e;refine⟨d,abd,e,?_⟩;have f:(okB ⟨w.toArray⟩ 0 && jo ((D ⟨w.toArray⟩ 0).1:L))=C:=by
  apply Classical.byContradiction
  intro p;rw[iH w jo d,au p] at e;omega
 rw[aM] at f;unfold dH;rw[f.1,qZ]
 cases w with
 |nil=>exact N rfl d
 |cons b t=>
  show(C && jV _)=C;rw[qZ];have j:=f.2;unfold jo at j;rcases rV _ _▸j with a|a
  .exact a
  .exfalso
   rcases iM b.toNat 128 with g|g
   .rw[nU b t g] at a
    have:vC ⟨(b::t).toArray⟩=(b.toNat:L):=by
     unfold vC;rw[dif_pos (by rw[gN];simp)];show wrap32 (b.toNat:L)=_;unfold wrap32;omega
    rw[this] at i;rw[i] at a;cases a
   .have:=(vw b t g).1
    unfold kJ at a;simp only[aM,aV] at a;omega
theorem En {w:Bs}(d:w≠[])(a:dH w=C):dH (w++r)=C:=by
 unfold dH at a ⊢;simp only[aM,Bool.not_eq_true'] at a ⊢;have e:=a.2.1;refine⟨by cases w with|nil=>exact N rfl d|cons b t=>rfl,PU w r d e,?_⟩;rw[E5 w r d e];exact a.2.2
theorem Cq {b:M}(f:dH (b::t)=C):dR (b::t)=G/\iC b=G/\b≠45:=by
 have d:=F5 b t;rw[f] at d;have a:∀k:I,k<128->jV (k:L)=G->b.toNat≠k:=λk g i e=>by
  rw[(Zt b t k g).2 e,i] at d;cases d
 refine⟨?_,?_,λe=>a 45 aj rfl (by rw[e];rfl)⟩
 .rw[jg]
  have j:=a 10 aj rfl;have l:=a 35 aj rfl;rw[aX.2 ah,aX.2 ah];rfl
 .unfold iC
  rw[aX.2 (λe=>a 32 aj rfl (by rw[e];rfl)),aX.2 (λe=>a 9 aj rfl (by rw[e];rfl))];rfl
theorem xV {w:Bs}(e:bG ⟨w.toArray⟩=C)(f:Stops jo r):dF (w++r)= .ok (w,r):=by
 obtain⟨a,o,g,i⟩:=Em e;have d:=En (r:=r) a i;have j:dW (w++r)=w.length:=El jo w.length w r (aB _) g f;have l:dR (w++r)=G:=by
  cases w with
  |nil=>exact N rfl a
  |cons b t=>exact(Cq d).1
 rw[R4 l d ah,j,List.take_left,List.drop_left]
def Sp (b:Bs):Prop:=b≠[]/\∀c∈b,iC c=C
def Cut (r:Bs):Prop:=∀c t,r=c::t->iC c=C\/c=10\/c=35
theorem xW:∀(b r:Bs),(∀c∈b,iC c=C)->bL (b++r)=bL r
 |[],r,_=>rfl
 |c::b,r,h=>by
  rw[fA,EZ (h c fQ)];exact xW b r (λx a=>h x (d9 _ a))
theorem M7 (a:∀c t,r=c::t->iC c=G):bL r=r:=by
 cases r with
 |nil=>rfl
 |cons c t=>exact vM (a c t rfl)
variable{e:Bs}
theorem M8 (a:dR e=C):bL e=e:=M7 λc t d=>by
 subst d;rw[jg] at a;unfold iC;rcases rV _ _▸a with a|a
 .have:c=10:=iV.1 (by have:=eq_of_beq a;show c.toNat=10;omega)
  rw[this];rfl
 .have:c=35:=iV.1 (by have:=eq_of_beq a;show c.toNat=35;omega)
  rw[this];rfl
theorem zR {b:Bs}(a:Sp b){c:M}(hc:iC c=G)(d:dR (c::t)=G):dM (b++c::t)= .ok (C,c::t):=by
 unfold dM;rw[xW b _ a.2,vM hc,au (by rw[d];simp),au];have f:=xP.2 a.1;intro e;rw[bO] at e;omega
theorem oF {b:Bs}(d:∀c∈b,iC c=C)(a:dR e=C):dM (b++e)= .ok (G,e):=by
 unfold dM;rw[xW b _ d,M8 a,av a]
theorem Df {b:Bs}(a:Sp b){c:M}(hc:iC c=G)(d:dR (c::t)=G):eD (b++c::t)= .ok (c::t):=by
 unfold eD;rw[zR a hc d]
theorem Cut.stops (d:Cut r):Stops jo r:=by
 cases r with
 |nil=>exact .inl rfl
 |cons c t=>
  have a:=d c t rfl;have e:c=32\/c=9\/c=10\/c=35:=by
   rcases a with a|a|a
   .unfold iC at a
    rcases rV _ _▸a with a|a
    .exact .inl (eq_of_beq a)
    .exact .inr (.inl (eq_of_beq a))
   .exact .inr (.inr (.inl a))
   .exact .inr (.inr (.inr a))
  rcases e with rfl|rfl|rfl|rfl
  .exact tY t aj aj
  .exact tY t aj aj
  .exact tY t aj aj
  .exact tY t aj aj
theorem Cut.byte {c:M}(d:Cut (c::t)):nD c=G/\¬(128<=c)/\iO c=G:=by
 have e:c=32\/c=9\/c=10\/c=35:=by
  rcases d c t rfl with a|a|a
  .unfold iC at a
   rcases rV _ _▸a with a|a
   .exact .inl (eq_of_beq a)
   .exact .inr (.inl (eq_of_beq a))
  .exact .inr (.inr (.inl a))
  .exact .inr (.inr (.inr a))
 rcases e with rfl|rfl|rfl|rfl <;> exact⟨abf,abf,abf⟩
theorem Cut.ends (a:dR e=C):Cut e:=λc t d=>by
 subst d;rw[jg] at a;rcases rV _ _▸a with h|h
 .exact .inr (.inl (iV.1 (by have:=eq_of_beq h;show c.toNat=10;omega)))
 .exact .inr (.inr (iV.1 (by have:=eq_of_beq h;show c.toNat=35;omega)))
theorem Cut.sp {b:Bs}(a:Sp b):Cut (b++r):=λc t d=>by
 cases b with
 |nil=>exact N rfl a.1
 |cons x b=>rw[fA] at d;injection d with e _;subst e;exact .inl (a.2 _ fQ)
theorem Cut.blanks {b:Bs}(d:∀c∈b,iC c=C)(f:dR e=C):Cut (b++e):=λc t a=>by
 cases b with
 |nil=>exact Cut.ends f c t a
 |cons x b=>rw[fA] at a;injection a with g _;subst g;exact .inl (d _ fQ)
def glue:H (Bs × Bs)->Bs->Bs
 |[],e=>e
 |p::a,e=>p.1++(p.2++glue a e)
theorem Dh:∀(a d:H (Bs × Bs))(e:Bs),glue (a++d) e=glue a (glue d e)
 |[],_,_=>rfl
 |p::a,d,e=>by rw[fA,glue,glue,Dh a d e]
theorem pX:∀(a:H (Bs × Bs))(e:Bs),(∀p∈a,Sp p.1)->Cut e->Cut (glue a e)
 |[],_,_,h=>h
 |p::_ps,_e,d,_=>Cut.sp (d p fQ)
theorem vI {w:Bs}(e:bG ⟨w.toArray⟩=C):∃c t,w++r=c::t/\iC c=G/\dR (c::t)=G/\dH (c::t)=C/\c≠45:=by
 obtain⟨a,_,_,f⟩:=Em e;have d:=En (r:=r) a f
 cases w with
 |nil=>exact N rfl a
 |cons c t=>
  have h:=Cq d;exact⟨c,t++r,rfl,h.2.1,h.1,d,h.2.2⟩
theorem PV {b w:Bs}(a:Sp b)(d:bG ⟨w.toArray⟩=C):eD (b++(w++r))= .ok (w++r):=by
 obtain⟨c,t,e,f,g,_⟩:=vI (r:=r) d;rw[e];exact Df a f g
theorem Bl {b w:Bs}(a:Sp b)(d:bG ⟨w.toArray⟩=C):dM (b++(w++r))= .ok (C,w++r):=by
 obtain⟨c,t,e,f,g,_⟩:=vI (r:=r) d;rw[e];exact zR a f g
theorem Eo:∀(a:H (Bs × Bs))(d:H Bs)(e:Bs),(∀p∈a,Sp p.1/\bG ⟨p.2.toArray⟩=C)->Cut e->jk a.length d (glue a e)= .ok (d++a.map (·.2),e)
 |[],d,e,_,_=>by rw[jN,dm];rfl
 |p::a,d,e,h,i=>by
  have f:=h p fQ;rw[dK,jk,glue,PV f.1 f.2];simp only[];rw[xV f.2 (pX a e (λq g=>(h q (d9 _ g)).1) i).stops];show jk a.length (d++[p.2]) (glue a e)=_;rw[Eo a (d++[p.2]) e (λq g=>h q (d9 _ g)) i,dX,dw];rfl
theorem yC (l:I)(o e:Bs)(r:∀c∈o,iC c=C)(s:dR e=C):∀(a:H (Bs × Bs))(f d:I)(ns:H Bs)(i:H To),(∀p∈a,Sp p.1/\bG ⟨p.2.toArray⟩=C)->a.length<f->d+a.length<=l->
  bN G l f d ns i (glue a (o++e))= .ok ((ns++a.map (·.2),i),e)
 |[],f,d,ns,i,_,j,_=>by
  obtain⟨g,rfl⟩:∃g,f=g+1:=⟨f - 1,by simp at j;omega⟩;rw[bN,glue,oF r s,jN,dm]
 |p::a,f,d,ns,i,h,j,v=>by
  obtain⟨g,rfl⟩:∃g,f=g+1:=⟨f - 1,by simp at j;omega⟩;have t:=h p fQ;rw[bN,glue,Bl t.1 t.2];simp only[];rw[au (by simp at v;omega),xV t.2 (pX a _ (λq u=>(h q (d9 _ u)).1) (Cut.blanks r s)).stops];simp only[yV,fG];rw[yC l o e r s a g (d+1) (ns++[p.2]) i (λq u=>h q (d9 _ u)) (by simp at j;omega) (by simp at v;omega),dX,dw];rfl
theorem Bn {a:H Bs}{w:Bs}(f:a.findIdx? (λs=>s==w)=some i)(g:∀c∈w,nD c=C)(d:Cut r):fo a (w++r)= .ok (i,r):=by
 have e:fw (w++r)=w:=by
  unfold fw;rw[List.takeWhile_append_of_pos g]
  cases r with
  |nil=>simp
  |cons c t=>rw[lV,d.byte.1];simp
 have j:mG (w++r)=w:=by
  unfold mG;rw[e,List.drop_left]
  cases r with
  |nil=>rfl
  |cons c t=>simp only[qG];rw[au d.byte.2.1]
 unfold fo;rw[j,e,f,List.drop_left]
theorem F7 (l:Bs)(c:M):oz (l++[c])=oz l*10+(c.toNat - 48):=by unfold oz;rw[List.foldl_append];rfl
theorem M9 (n:I):0<n->oz (jC n)=n/\(jC n).all iO=C/\(jC n).head?≠some 48/\(jC n).head?≠none:=by
 induction n using Nat.strongRecOn with
 |_ n r=>
  intro h;have d:(UInt8.ofNat (48+n % 10)).toNat=48+n % 10:=by simp;omega
  have g:iO (UInt8.ofNat (48+n % 10))=C:=(Lc _).2 ah;rw[xQ h];rcases Nat.eq_zero_or_pos (n / 10) with f|f
  .have s:jC (n / 10)=[]:=by rw[f];rfl
   rw[s,fK];refine⟨?_,by rw[List.all_cons,g];rfl,?_,abe⟩
   .show oz ([]++[_])=n
    rw[F7,d];show 0*10+_=n;omega
   .rw[qG]
    intro e;have:=bJ UInt8.toNat (qO e);rw[d] at this;have u:(48:M).toNat=48:=rfl;omega
  .obtain⟨i,j,l,o⟩:=r (n / 10) ah f
   cases p:jC (n / 10) with
   |nil=>rw[p] at o;exact N rfl o
   |cons a t=>
    rw[p] at i j l;refine⟨?_,?_,?_,abe⟩
    .rw[F7,d,i];omega
    .rw[List.all_append,j,List.all_cons,g];rfl
    .simpa using l
theorem R8 {k:I}(a:0<k)(s:k<=999)(d:Cut r):sH l (jC k++r)= .ok (⟨l,k⟩,r):=by
 obtain⟨f,g,i,j⟩:=M9 k a;have o:∀c∈jC k,iO c=C:=dZ.1 g;have p:(jC k++r).takeWhile iO=jC k:=by
  rw[List.takeWhile_append_of_pos o]
  cases r with
  |nil=>simp
  |cons c t=>rw[lV,d.byte.2.2];simp
 unfold sH;simp only[p];rw[au (λe=>e.elim j i),f,au ah,List.drop_left]
variable{v:To}
theorem Jp (e:jK v)(f:Cut r):gG (fU v++r)= .ok (v,r):=by
 unfold fU;rcases e with rfl|⟨a,g,j⟩
 .rw[av rfl];rfl
 .rw[au ah,dw,fA]
  obtain⟨c,t,d,_,_,_,i⟩:=vI (r:=46::(jC v.k.toNat++r)) a;unfold gG;rw[d,qG,au (by simp;exact i),<-d,xV a (tY _ aj aj)];simp only[qG,bR,List.tail_cons];rw[R8 ah ah f];obtain⟨n,k⟩:=v;simp only at g ⊢;rw[show((k.toNat:I):L)=k by omega]
theorem PW (a:jK v):∃c t,fU v++r=c::t/\iC c=G/\dR (c::t)=G:=by
 unfold fU;rcases a with rfl|⟨d,i,j⟩
 .rw[av rfl];exact⟨45,r,rfl,abf,abg⟩
 .rw[au ah,dw]
  obtain⟨c,t,e,f,g,_⟩:=vI (r:=46::jC v.k.toNat++r) d;exact⟨c,t,e,f,g⟩
theorem F8 {b:Bs}(a:Sp b)(d:jK v):eD (b++(fU v++r))= .ok (fU v++r):=by
 obtain⟨c,t,e,f,g⟩:=PW (r:=r) d;rw[e];exact Df a f g
theorem Ep (t:I)(j e:Bs)(u:∀c∈j,iC c=C)(v:dR e=C):∀(a:H ((Bs × Bs) × (Bs × To)))(f l:I)(ns:H Bs)(o:H To),(∀p∈a,(Sp p.1.1/\bG ⟨p.1.2.toArray⟩=C)/\Sp p.2.1/\jK p.2.2)->a.length<f->l+a.length<=t->
  bN C t f l ns o (glue (a.flatMap λp=>[p.1,(p.2.1,fU p.2.2)]) (j++e))= .ok ((ns++a.map (·.1.2),o++a.map (·.2.2)),e)
 |[],f,l,ns,o,_,s,_=>by
  obtain⟨g,rfl⟩:∃g,f=g+1:=⟨f - 1,abh⟩;rw[bN,BH,glue,oF u v];simp
 |p::a,f,l,ns,o,h,s,y=>by
  obtain⟨g,rfl⟩:∃g,f=g+1:=⟨f - 1,abh⟩;have d:=h p fQ;have A:Cut (glue (a.flatMap λp=>[p.1,(p.2.1,fU p.2.2)]) (j++e)):=pX _ _ (λq i=>by
   obtain⟨x,E,i⟩:=kH.1 i;have z:=h x (d9 _ E);simp at i;rcases i with rfl|rfl
   .exact z.1.1
   .exact z.2.1) (Cut.blanks u v)
  rw[bN,gZ];show(match dM (p.1.1++(p.1.2++(p.2.1++(fU p.2.2++glue (a.flatMap λp=>[p.1,(p.2.1,fU p.2.2)]) (j++e))))) with| .error x=>_| .ok (G,r)=>_| .ok (C,r)=>_)=_;rw[Bl d.1.1 d.1.2];simp only[];rw[au (by simp at y;omega),xV d.1.2 (Cut.sp d.2.1).stops];simp only[bR];rw[F8 d.2.1 d.2.2];simp only[];rw[Jp d.2.2 A];simp only[];rw[Ep t j e u v a g (l+1) (ns++[p.1.2]) (o++[p.2.2]) (λq i=>h q (d9 _ i)) abh (by simp at y;omega),dX,dX,dw,dw];rfl
def Up:I->H I->Prop
 |_,[]=>True
 |k,j::a=>k<=j/\j<4/\Up (j+1) a
theorem R9 (k j:I)(e:k<=j)(f:j<4):(jR.drop k).findIdx? (λs=>s==jZ j)=some (j - k):=by
 have a:k=0\/k=1\/k=2\/k=3:=by omega
 have d:j=0\/j=1\/j=2\/j=3:=by omega
 rcases a with rfl|rfl|rfl|rfl <;> rcases d with rfl|rfl|rfl|rfl <;> first|rfl|(exfalso;omega)
theorem Na (j:I)(a:j<4)(r:Bs):∃c t,jZ j++r=c::t/\iC c=G/\dR (c::t)=G:=by
 have:j=0\/j=1\/j=2\/j=3:=by omega
 rcases this with rfl|rfl|rfl|rfl <;> exact⟨_,_,rfl,abf,abg⟩
theorem Sb (j:I)(a:j<4):∀c∈jZ j,nD c=C:=by
 have:j=0\/j=1\/j=2\/j=3:=by omega
 rcases this with rfl|rfl|rfl|rfl <;> decide
theorem F9 (o e:Bs)(u:∀c∈o,iC c=C)(v:dR e=C):∀(i:H I)(d:H (Bs × Bs))(f k:I)(b:L),Up k i->i.length<f->(∀p∈d,Sp p.1)->d.map (·.2)=i.map jZ->
  iW f k b (glue d (o++e))= .ok (i.foldl (λa j=>a+2 ^ j) b,e)
 |[],d,f,k,b,_,s,_,r=>by
  obtain⟨g,rfl⟩:∃g,f=g+1:=⟨f - 1,abh⟩;have:d=[]:=by simpa using r
  subst this;rw[iW,glue,oF u v];rfl
 |j::i,d,f,k,b,l,s,x,r=>by
  obtain⟨g,rfl⟩:∃g,f=g+1:=⟨f - 1,abh⟩
  cases d with
  |nil=>simp at r
  |cons p d=>
   rw[dX,dX] at r;injection r with A E;have F:=pX d (o++e) (λq y=>x q (d9 _ y)) (Cut.blanks u v);obtain⟨c,t,z,K,P⟩:=Na j l.2.1 (glue d (o++e));have Q:=Bn (R9 k j l.1 l.2.1) (Sb j l.2.1) F;rw[iW,glue,A,z,zR (x p fQ) K P];simp only[];rw[<-z,Q];simp only[];rw[show k+(j - k)=j by have:=l.1;omega];exact F9 o e u v i d g (j+1) (b+2 ^ j) l.2.2 abh (λq y=>x q (d9 _ y)) E
theorem PX (b:I)(f:b<=15):∃d:H I,Up 0 d/\d.length<5/\mY (b:L)=d.map jZ/\d.foldl (λa j=>a+2 ^ j) (0:L)=(b:L):=by
 have e:b=0\/b=1\/b=2\/b=3\/b=4\/b=5\/b=6\/b=7\/b=8\/b=9\/b=10\/b=11\/b=12\/b=13\/b=14\/b=15:=by omega
 rcases e with rfl|rfl|rfl|rfl|rfl|rfl|rfl|rfl|rfl|rfl|rfl|rfl|rfl|rfl|rfl|rfl
 .exact⟨[],abj,abf,abf,abf⟩
 .exact⟨[0],abj,abf,abf,abf⟩
 .exact⟨[1],abj,abf,abf,abf⟩
 .exact⟨[0,1],abj,abf,abf,abf⟩
 .exact⟨[2],abj,abf,abf,abf⟩
 .exact⟨[0,2],abj,abf,abf,abf⟩
 .exact⟨[1,2],abj,abf,abf,abf⟩
 .exact⟨[0,1,2],abj,abf,abf,abf⟩
 .exact⟨[3],abj,abf,abf,abf⟩
 .exact⟨[0,3],abj,abf,abf,abf⟩
 .exact⟨[1,3],abj,abf,abf,abf⟩
 .exact⟨[0,1,3],abj,abf,abf,abf⟩
 .exact⟨[2,3],abj,abf,abf,abf⟩
 .exact⟨[0,2,3],abj,abf,abf,abf⟩
 .exact⟨[1,2,3],abj,abf,abf,abf⟩
 .exact⟨[0,1,2,3],abj,abf,abf,abf⟩
theorem pY (k:I)(S:1<=k/\k<=9)(e:Bs)(l:∀c∈e,iC c=C)(a d:H (Bs × Bs))(o:a.length=(bY k).toNat)(g:∀p∈a,Sp p.1/\bG ⟨p.2.toArray⟩=C)(X:Bs)(i:Cut (glue d X)):
  iX (e++(bF k++glue (a++d) X))=(match jE k (a.map (·.2)) (glue d X) with
   | .error x=> .error x
   | .ok (s,r)=>match dM r with
    | .error x=> .error x
    | .ok (C,f)=> .error (f,220)
    | .ok (G,f)=> .ok (s,f)):=by
 have u:Cut (glue (a++d) X):=by rw[Dh];exact pX a _ (λp v=>(g p v).1) i
 have y:lM.findIdx? (λs=>s==bF k)=some (k - 1)/\(∀c∈bF k,nD c=C)/\(∃c t,bF k=c::t/\iC c=G/\((c.toNat:L)==10)=G/\((c.toNat:L)==35)=G):=by
  have:k=1\/k=2\/k=3\/k=4\/k=5\/k=6\/k=7\/k=8\/k=9:=by omega
  rcases this with rfl|rfl|rfl|rfl|rfl|rfl|rfl|rfl|rfl <;> exact⟨rfl,abf,_,_,rfl,abf,abf,abf⟩
 obtain⟨z,A,c,t,j,E,F,K⟩:=y;have P:=Bn z A u;have Q:bL (e++(bF k++glue (a++d) X))=bF k++glue (a++d) X:=by
  rw[xW e _ l,j,fA,vM E]
 have R:dR (bF k++glue (a++d) X)=G:=by
  rw[j,fA,jg,F,K];rfl
 unfold iX;rw[Q,au (by rw[R];simp),P];simp only[];rw[show k - 1+1=k by omega,<-o,Dh,Eo a [] _ g i,fK]
 rfl
theorem uK {a d:Type}{f:a->d}{g:H a}{A B:H d}(j:g.map f=A++B):∃e i,g=e++i/\e.map f=A/\i.map f=B:=List.map_eq_append_iff.1 j
theorem E8 {d e:Type}{f:d->e}{g:H d}{b:e}(a:g.map f=[b]):∃p,g=[p]/\f p=b:=by
 cases g with
 |nil=>simp at a
 |cons p g=>
  cases g with
  |nil=>simp at a;exact⟨p,rfl,a⟩
  |cons q qs=>simp at a
theorem Ga:∀(d:H (Bs × To))(a:H (Bs × Bs)),a.map (·.2)=d.flatMap (λp=>[p.1,fU p.2])->∃e:H ((Bs × Bs) × (Bs × To)),a=e.flatMap (λp=>[p.1,(p.2.1,fU p.2.2)])/\e.map (λq=>(q.1.2,q.2.2))=d
 |[],a,h=>⟨[],by simpa using h,rfl⟩
 |z::d,a,h=>by
  rw[gZ] at h
  cases a with
  |nil=>simp at h
  |cons p a=>
   cases a with
   |nil=>simp at h
   |cons q a=>
    rw[dX,dX] at h;simp only[fA,fK] at h;injection h with f h;injection h with g i;obtain⟨e,j,l⟩:=Ga d a i;refine⟨((p.1,p.2),(q.1,z.2))::e,?_,?_⟩
    .rw[gZ,<-j,<-g];rfl
    .rw[dX,l,f]
theorem Sc (a:I)(d:1<=a)(e:a<=4)(r:Bs):mF.findIdx? (λs=>s==jQ a)=some (a - 1)/\(∀c∈jQ a,nD c=C)/\∃c t,jQ a++r=c::t/\iC c=G/\dR (c::t)=G:=by
 have:a=1\/a=2\/a=3\/a=4:=by omega
 rcases this with rfl|rfl|rfl|rfl <;> exact⟨rfl,abf,_,_,rfl,abf,abg⟩
variable{ns:H Bs}
theorem XE {b:Bs}{R:I}(d:1<=R)(f:R<=4)(g:Sp b)(i:Cut (l++e)):jE 1 ns (glue [(b,jQ R)] (l++e))= .ok (⟨1,ns,R,[],G,0⟩,l++e):=by
 obtain⟨j,o,c,t,a,p,s⟩:=Sc R d f (l++e);unfold jE;rw[av rfl];show(match eD (b++(jQ R++(l++e))) with| .error x=>_| .ok r=>_)=_;rw[a,Df g p s];simp only[];rw[<-a,Bn j o i];simp only[];rw[show(1:L)+((R - 1:I):L)=(R:L) by omega];rfl
theorem XF {b:Bs}(a:jK v)(d:Sp b)(f:Cut (l++e)):jE 3 ns (glue [(b,fU v)] (l++e))= .ok (⟨3,ns,0,[v],G,0⟩,l++e):=by
 unfold jE;rw[au aj,av rfl];show(match eD (b++(fU v++(l++e))) with| .error x=>_| .ok r=>_)=_;rw[F8 d a];simp only[];rw[Jp a f]
 rfl
variable{a:H (Bs × Bs)}
theorem XG {b:I}(d:b<=15)(f:∀p∈a,Sp p.1)(g:a.map (·.2)=mY (b:L))(i:∀c∈l,iC c=C)(j:dR e=C):jE 9 ns (glue a (l++e))= .ok (⟨9,ns,0,[],G,b⟩,e):=by
 obtain⟨o,r,s,t,u⟩:=PX b d;unfold jE;rw[au aj,au aj,av rfl,F9 l e i j o a 5 0 0 r s f (g.trans t)];simp only[];rw[u];rfl
theorem XH {fi:Bool}{b:Bs}(j:Sp b)(f:∀p∈a,Sp p.1/\bG ⟨p.2.toArray⟩=C)(y:a.length<=300)(g:∀c∈l,iC c=C)(i:dR e=C):
  jE 8 ns (glue ((if fi=C then [(b,[45])] else [])++a) (l++e))= .ok (⟨8,ns++a.map (·.2),0,[],fi,0⟩,e):=by
 have o:=yC 300 l e g i a 301 0 ns [] f ah ah;unfold jE;rw[au aj,au aj,au aj,av rfl];have s:jJ (glue ((if fi=C then [(b,[45])] else [])++a) (l++e))= .ok (fi,glue a (l++e)):=by
  unfold jJ
  cases fi
  .rw[au ak,fK]
   cases a with
   |nil=>rw[glue,oF g i]
   |cons p a=>
    have d:=f p fQ;rw[glue,Bl d.1 d.2];simp only[];obtain⟨c,t,u,_,_,_,v⟩:=vI (r:=glue a (l++e)) d.2;rw[u,qG,au (by simp;exact v)]
  .rw[av rfl]
   show(match dM (b++(45::glue a (l++e))) with| .error x=>_| .ok (C,r)=>_| .ok (G,r)=>_)=_;rw[zR j aj abg];simp only[qG,bR,List.tail_cons]
 rw[s];simp only[];rw[o]
 rfl
theorem XI (d:∀p∈a,Sp p.1/\bG ⟨p.2.toArray⟩=C)(j:a.length<=300)(f:∀c∈l,iC c=C)(g:dR e=C):
  jE 7 ns (glue a (l++e))= .ok (⟨7,ns++a.map (·.2),0,[],G,0⟩,e):=by
 have i:=yC 300 l e f g a 301 0 ns [] d ah ah;unfold jE;rw[au aj,au aj,au aj,au aj,au aj,av rfl,i]
 rfl
theorem XJ {a:H ((Bs × Bs) × (Bs × To))}(d:∀p∈a,(Sp p.1.1/\bG ⟨p.1.2.toArray⟩=C)/\Sp p.2.1/\jK p.2.2)(j:a.length<=40)(f:∀c∈l,iC c=C)(g:dR e=C):
  jE 4 ns (glue (a.flatMap λp=>[p.1,(p.2.1,fU p.2.2)]) (l++e))= .ok (⟨4,ns++a.map (·.1.2),0,a.map (·.2.2),G,0⟩,e):=by
 have i:=Ep 40 l e f g a 41 0 ns [] d ah ah;unfold jE;rw[au aj,au aj,au aj,au aj,av rfl,i,fK]
 rfl
theorem Jq {k:I}(a:k=2\/k=5\/k=6):jE k ns l= .ok (⟨k,ns,0,[],G,0⟩,l):=by
 rcases a with rfl|rfl|rfl <;> rfl
theorem nJ (e:∀x∈ns,bG ⟨x.toArray⟩=C)(f:∀p∈a,Sp p.1)(g:a.map (·.2)=ns):∀p∈a,Sp p.1/\bG ⟨p.2.toArray⟩=C:=
 λp d=>⟨f p d,e _ (by rw[<-g];exact jS d)⟩
theorem PY {s:aJ}(hs:eF s)(K A e:Bs)(W:∀c∈K,iC c=C)(S:∀c∈A,iC c=C)(P:dR e=C)(y:H (Bs × Bs))(r:∀p∈y,Sp p.1)(Z:y.map (·.2)=(lG s).tail):
  iX (K++(bF s.kind.toNat++glue y (A++e)))= .ok (s,e):=by
 have γ:Cut (A++e):=Cut.blanks S P;have me:dM e= .ok (G,e):=oF (b:=[]) ak P;obtain⟨kd,g,lv,vs,fi,bt⟩:=s;obtain⟨E,hv,hc⟩:=hs;simp only at E hv hc;rcases hc with⟨rfl,t,rfl,⟨lw,rfl,h1,h4⟩,rfl,rfl⟩|⟨rfl,t,rfl,rfl,rfl,rfl⟩|⟨rfl,t,δ,rfl,rfl,rfl⟩|⟨rfl,⟨cc,t,δ,η⟩,_,rfl,rfl,rfl⟩|⟨rfl,t,rfl,rfl,rfl,rfl⟩|⟨rfl,t,rfl,rfl,rfl,rfl⟩|⟨rfl,⟨cc,t,η⟩,rfl,rfl,rfl,rfl⟩|⟨rfl,⟨cc,t,η⟩,rfl,rfl,_,rfl⟩|⟨rfl,t,rfl,rfl,rfl,⟨bb,rfl,κ⟩⟩
 .have j:y.map (·.2)=g++[jQ lw]:=Z.trans (by
   show(bF 1::g.take 2++([jQ lw]++g.drop 2)).tail=_;rw[gF ah,pU ah];simp)
  obtain⟨u,F,rfl,l,z⟩:=uK j;obtain⟨⟨qb,qw⟩,rfl,o⟩:=E8 z;simp only at o;subst o;have Q:∀p∈u,Sp p.1:=λp i=>r p (iw _ i)
  have o:Sp qb:=r _ (jq _ fQ);have d:=pY 1 aj K W u [(qb,jQ lw)] abk (nJ E Q l) (A++e) (Cut.sp o);rw[l,XE h1 h4 o γ] at d;simp only[] at d;rw[oF S P] at d;exact d
 .have j:y.map (·.2)=g:=Z.trans (by
   show(bF 2::g.take 2++([]++g.drop 2)).tail=_;rw[gF ah,pU ah];simp)
  have d:=pY 2 aj K W y [] abl (nJ E r j) (A++e) γ;rw[j,Jq aj,dm] at d;simp only[glue] at d;rw[oF S P] at d;exact d
 .obtain⟨v,rfl⟩:∃v,vs=[v]:=by
   cases vs with
   |nil=>simp at δ
   |cons v vs=>cases vs with
    |nil=>exact⟨v,rfl⟩
    |cons a b=>simp at δ
  have μ:=hv v fQ;have j:y.map (·.2)=g++[fU v]:=Z.trans (by
   show(bF 3::g.take 2++([fU v]++g.drop 2)).tail=_;rw[gF ah,pU ah];simp)
  obtain⟨u,F,rfl,l,z⟩:=uK j;obtain⟨⟨qb,qw⟩,rfl,o⟩:=E8 z;simp only at o;subst o;have Q:∀p∈u,Sp p.1:=λp i=>r p (iw _ i)
  have o:Sp qb:=r _ (jq _ fQ);have d:=pY 3 aj K W u [(qb,fU v)] abk (nJ E Q l) (A++e) (Cut.sp o);rw[l,XF μ o γ] at d;simp only[] at d;rw[oF S P] at d;exact d
 .have j:y.map (·.2)=g.take 2++((g.drop 2).zip vs).flatMap (λ(p:Bs × To)=>[p.1,fU p.2]):=Z.trans (by
   show(bF 4::g.take 2++([]++((g.drop 2).zip vs).flatMap (λ(p:Bs × To)=>[p.1,fU p.2]))).tail=_;simp)
  obtain⟨u,F,rfl,l,z⟩:=uK j;obtain⟨qs,rfl,θ⟩:=Ga _ _ z;have Q:∀p∈u,Sp p.1:=λp i=>r p (iw _ i)
  have R:∀q∈qs,Sp q.1.1/\Sp q.2.1:=λq o=>⟨r _ (jq _ (kH.2 ⟨q,o,abe⟩)),r (q.2.1,fU q.2.2) (jq _ (kH.2 ⟨q,o,abe⟩))⟩
  have ρ:(g.drop 2).length=vs.length:=by rw[gI];omega
  have e1:qs.map (·.1.2)=g.drop 2:=by
   have:=bJ (List.map Prod.fst) θ;rw[iF,zG ah] at this;exact this
  have e2:qs.map (·.2.2)=vs:=by
   have:=bJ (List.map Prod.snd) θ;rw[iF,List.map_snd_zip ah] at this;exact this
  have ν:qs.length<=40:=by
   have:=bJ List.length e2;rw[bg] at this;omega
  have i:∀p∈qs,(Sp p.1.1/\bG ⟨p.1.2.toArray⟩=C)/\Sp p.2.1/\jK p.2.2:=λq o=>⟨⟨(R q o).1,E _ (wh (by rw[<-e1];exact jS (f:=λq:(Bs × Bs) × (Bs × To)=>q.1.2) o))⟩,(R q o).2,hv _ (by rw[<-e2];exact jS (f:=λq:(Bs × Bs) × (Bs × To)=>q.2.2) o)⟩
  have ξ:Cut (glue (qs.flatMap λ(p:(Bs × Bs) × (Bs × To))=>[p.1,(p.2.1,fU p.2.2)]) (A++e)):=pX _ _ (λp i=>r p (jq _ i)) γ;have d:=pY 4 aj K W u _ abm (nJ (λx hx=>E x (vT hx)) Q l) (A++e) ξ;rw[l,XJ i ν S P] at d;simp only[] at d;rw[me,e1,e2,qA] at d;exact d
 .have j:y.map (·.2)=g:=Z.trans (by
   show(bF 5::g.take 1++([]++g.drop 1)).tail=_;rw[gF ah,pU ah];simp)
  have d:=pY 5 aj K W y [] abl (nJ E r j) (A++e) γ;rw[j,Jq aj,dm] at d;simp only[glue] at d;rw[oF S P] at d;exact d
 .have j:y.map (·.2)=g:=Z.trans (by
   show(bF 6::g.take 1++([]++g.drop 1)).tail=_;rw[gF ah,pU ah];simp)
  have d:=pY 6 aj K W y [] abl (nJ E r j) (A++e) γ;rw[j,Jq aj,dm] at d;simp only[glue] at d;rw[oF S P] at d;exact d
 .have j:y.map (·.2)=g.take 1++g.drop 1:=Z.trans (by
   show(bF 7::g.take 1++([]++g.drop 1)).tail=_;simp)
  obtain⟨u,F,rfl,l,z⟩:=uK j;have Q:∀p∈u,Sp p.1:=λp i=>r p (iw _ i)
  have R:∀p∈F,Sp p.1:=λp i=>r p (jq _ i)
  have ε:=nJ (λx hx=>E x (wh hx)) R z;have ζ:F.length<=300:=by rw[<-bg (f:=λp:Bs × Bs=>p.2),z,gI];omega
  have d:=pY 7 aj K W u F abm (nJ (λx hx=>E x (vT hx)) Q l) (A++e) (pX _ _ R γ);rw[l,XI ε ζ S P] at d;simp only[] at d;rw[me,z,qA] at d;exact d
 .have j:y.map (·.2)=g.take 2++((if fi=C then [[45]] else [])++g.drop 2):=Z.trans (by
   cases fi
   .show(bF 8::g.take 2++([]++g.drop 2)).tail=_
    simp
   .show(bF 8::g.take 2++([[45]]++g.drop 2)).tail=_
    simp)
  obtain⟨u,σ,rfl,l,ο⟩:=uK j;obtain⟨F,p3,rfl,z,m3⟩:=uK ο;have Q:∀p∈u,Sp p.1:=λp i=>r p (iw _ i)
  have R:∀p∈F,Sp p.1:=λp i=>r p (jq _ (iw _ i))
  have ι:∀p∈p3,Sp p.1:=λp i=>r p (jq _ (jq _ i))
  have π:=nJ (λx hx=>E x (wh hx)) ι m3;have ζ:p3.length<=300:=by rw[<-bg (f:=λp:Bs × Bs=>p.2),m3,gI];omega
  obtain⟨b,hb,ε⟩:∃b:Bs,Sp b/\F=(if fi=C then [(b,[45])] else []):=by
   cases fi
   .refine⟨[32],⟨abe,abf⟩,?_⟩
    simpa using z
   .obtain⟨⟨qb,qw⟩,rfl,o⟩:=E8 z
    simp only at o;subst o;exact⟨qb,R _ fQ,rfl⟩
  have d:=pY 8 aj K W u (F++p3) abm (nJ (λx hx=>E x (vT hx)) Q l) (A++e) (pX _ _ (λp i=>(cu.1 i).elim (R p) (ι p)) γ);have ht:=XH (ns:=g.take 2) (fi:=fi) hb π ζ S P;rw[<-ε] at ht;rw[l,ht] at d;simp only[] at d;rw[me,m3,qA] at d;exact d
 .have j:y.map (·.2)=g++mY (bb:L):=Z.trans (by
   show(bF 9::g.take 1++(mY (bb:L)++g.drop 1)).tail=_;rw[gF ah,pU ah];simp)
  obtain⟨u,F,rfl,l,z⟩:=uK j;have Q:∀p∈u,Sp p.1:=λp i=>r p (iw _ i)
  have R:∀p∈F,Sp p.1:=λp i=>r p (jq _ i)
  have d:=pY 9 aj K W u F abk (nJ E Q l) (A++e) (pX _ _ R γ);rw[l,XG κ R z S P] at d;simp only[] at d;rw[me] at d;exact d
theorem Gb:∀(a:H Bs)(e:Bs),Lib.joinTail [32] a++e=glue (a.map (λx=>([32],x))) e
 |[],e=>by simp[Lib.joinTail,glue]
 |x::a,e=>by
  rw[dX,glue,<-Gb a e];simp[Lib.joinTail]
theorem PZ (w:Bs)(a:H Bs)(e:Bs):Lib.join (w::a) [32]++e=w++glue (a.map (λx=>([32],x))) e:=by
 rw[Lib.join_cons,dw,Gb]
theorem XK:Sp [32]:=⟨abe,abf⟩
theorem Nb (s:aJ):lG s=bF s.kind.toNat::(lG s).tail:=rfl
theorem P5 {s:aJ}(a:eF s)(r:Bs):oH (lC s++r)= .ok (s,r):=by
 have d:lC s++r=[]++(bF s.kind.toNat++glue ((lG s).tail.map (λx=>([32],x))) ([]++(10::r))):=by
  unfold lC;rw[Nb s,dw,PZ];rfl
 have e:=PY a [] [] (10::r) ak ak (by rw[jg];rfl) ((lG s).tail.map (λx=>([32],x))) (λp f=>by
  obtain⟨x,_,rfl⟩:=bS.1 f;exact XK) (by rw[iF];exact List.map_id _)
 unfold oH;rw[d,e];have g:jF (10::r)=10::r:=by unfold jF;rw[au ak]
 simp only[g,qG]
 rfl
theorem Sd (n m d v x y e g o:I)(p:1<n->e=v)(t:2<n->g=x)(z:3<n->o=y)(f:J (n+m) d e g o≠(65533,1))(i:(J (n+m) d e g o).2<=n):J n d v x y=J (n+m) d e g o:=by
 unfold J at f i ⊢;by_cases a:d<128
 .rw[av a,av a]
 rw[au a] at f i ⊢;rw[au a];by_cases u:d / 32=6/\(1<n+m/\e / 64=2)
 .rw[av u] at f i ⊢
  by_cases j:d % 32*64+e % 64≥128
  .rw[av j] at i ⊢
   have l:1<n:=i;rw[av (by rw[<-p l];exact⟨u.1,l,u.2.2⟩),<-p l,av j]
  .rw[au j] at f;exact N rfl f
 rw[au u] at f i ⊢;by_cases s:d / 16=14/\(1<n+m/\e / 64=2)/\(2<n+m/\g / 64=2)
 .rw[av s] at f i ⊢
  by_cases j:d % 16*4096+e % 64*64+g % 64≥2048/\(d % 16*4096+e % 64*64+g % 64<55296\/(57344<=d % 16*4096+e % 64*64+g % 64/\d % 16*4096+e % 64*64+g % 64<=1114111))
  .rw[av j] at i ⊢
   have l:2<n:=i;rw[au ah,av (by rw[<-p ah,<-t l];exact⟨s.1,⟨by omega,s.2.1.2⟩,l,s.2.2.2⟩),<-p ah,<-t l,av j]
  .rw[au j] at f;exact N rfl f
 rw[au s] at f i ⊢;by_cases r:d / 8=30/\(1<n+m/\e / 64=2)/\(2<n+m/\g / 64=2)/\(3<n+m/\o / 64=2)
 .rw[av r] at f i ⊢
  by_cases j:d % 8*262144+e % 64*4096+g % 64*64+o % 64≥65536/\(d % 8*262144+e % 64*4096+g % 64*64+o % 64<55296\/(57344<=d % 8*262144+e % 64*4096+g % 64*64+o % 64/\d % 8*262144+e % 64*4096+g % 64*64+o % 64<=1114111))
  .rw[av j] at i ⊢
   have l:3<n:=i;rw[au ah,au ah,av (by rw[<-p ah,<-t ah,<-z l];exact⟨r.1,⟨by omega,r.2.1.2⟩,⟨by omega,r.2.2.1.2⟩,l,r.2.2.2.2⟩),<-p ah,<-t ah,<-z l,av j]
  .rw[au j] at f;exact N rfl f
 rw[au r] at f;exact N rfl f
theorem Vf (w r:Bs)(e:w≠[])(f:okB ⟨(w++r).toArray⟩ 0=C)(a:(D ⟨(w++r).toArray⟩ 0).2<=w.length):D ⟨w.toArray⟩ 0=D ⟨(w++r).toArray⟩ 0:=by
 have d:=PS f;have g:0<w.length:=xP.2 e;rw[U,gN,bO,Y] at d a;rw[U,U,gN,gN,bO,Y,Y];rw[tq w r 0 g] at d a ⊢;refine Sd _ _ _ _ _ _ _ _ _ (λh=>?_) (λh=>?_) (λh=>?_) d a
 .rw[tq w r (0+1) ah]
 .rw[tq w r (0+2) ah]
 .rw[tq w r (0+3) ah]
theorem Cr (p:L->Bool):∀(n:I)(l:Bs),l.length<=n->gK ⟨(l.take (gK ⟨l.toArray⟩ p)).toArray⟩ p=gK ⟨l.toArray⟩ p
 |0,l,v=>by
  have:l=[]:=BS.1 ah;subst this;rfl
 |n+1,l,v=>by
  by_cases g:l=[]
  .subst g;rfl
  .have x:=qN p l.length l (aB _)
   have a:=iH l p g;by_cases f:(okB ⟨l.toArray⟩ 0 && p ((D ⟨l.toArray⟩ 0).1:L))=C
   .rw[av f] at a
    rw[aM] at f;have y:=vV l g;have z:=vz l g;obtain⟨d,i⟩:∃d,d=(D ⟨l.toArray⟩ 0).2:=⟨_,rfl⟩;obtain⟨k,r⟩:∃k,k=gK ⟨(l.drop d).toArray⟩ p:=⟨_,rfl⟩;rw[<-i] at a y z;rw[<-r] at a;have s:=Cr p n (l.drop d) (by rw[gI];omega);rw[<-r] at s;rw[a] at x ⊢;have j:l=l.take (d+k)++l.drop (d+k):=(qA _ _).symm;have o:(l.take (d+k)).length=d+k:=by rw[fB];omega
    have t:l.take (d+k)≠[]:=by intro e;rw[e] at o;simp at o;omega
    have u:D ⟨(l.take (d+k)).toArray⟩ 0=D ⟨l.toArray⟩ 0:=by
     have:=Vf (l.take (d+k)) (l.drop (d+k)) t (by rw[<-j];exact f.1) (by rw[<-j,<-i,o];omega);rw[<-j] at this;exact this
    have A:okB ⟨(l.take (d+k)).toArray⟩ 0=C:=by unfold okB;rw[u];exact f.1
    rw[iH _ p t,A,u,f.2,av (show(C && C)=C from rfl),<-i];have:(l.take (d+k)).drop d=(l.drop d).take k:=by rw[List.drop_take];congr 1;omega
    rw[this,s]
   .rw[au f] at a
    rw[a];rfl
theorem xX {m:Bs}(a:dF l= .ok (m,r)):bG ⟨m.toArray⟩=C:=by
 unfold dF at a;by_cases d:(dR l||!dH l)=C
 .rw[av d] at a;cases a
 rw[au d] at a;by_cases j:24<dW l
 .rw[av j] at a;cases a
 rw[au j] at a;injection a with a;injection a with e _;have f:dH l=C:=by
  cases o:dH l
  .rw[o] at d;simp at d
  .rfl
 cases l with
 |nil=>simp[dH] at f
 |cons b t=>
  have z:=Ve f;have A:=Vd (b::t);have p:m.length=dW (b::t):=by rw[<-e,fB];omega
  have s:gK ⟨m.toArray⟩ jo=m.length:=by rw[p,<-e];exact Cr jo _ (b::t) (aB _)
  have u:∃g,m=b::g:=by
   rw[<-e];obtain⟨k,v⟩:∃k,dW (b::t)=k+1:=⟨dW (b::t) - 1,abd⟩;rw[v,List.take_succ_cons];exact⟨_,rfl⟩
  obtain⟨g,rfl⟩:=u;unfold bG;rw[gN,s,aM,aM,aM];refine⟨⟨⟨abe,bT ah⟩,?_⟩,abe⟩;have i:=F5 b t;rw[f] at i;have x:vC ⟨(b::g).toArray⟩=(b.toNat:L):=by
   unfold vC;rw[dif_pos (by rw[gN];simp)];show wrap32 (b.toNat:L)=_;have:=b.toNat_lt;unfold wrap32;omega
  rw[x];rcases iM b.toNat 128 with y|E
  .rw[(TF t y).1] at i
   rw[M6 i.symm];rfl
  .unfold kJ
   rw[Bool.not_eq_true',Bool.and_eq_false_iff]
   right
   exact bE ah
theorem Le:∀(l:Bs)(n:I),0<n->0<l.foldl (λn (c:M)=>n*10+(c.toNat - 48)) n
 |[],_,h=>h
 |c::t,n,h=>by rw[List.foldl_cons];exact Le t _ ah
theorem Lf (a:gG l= .ok (v,r)):jK v:=by
 unfold gG at a;by_cases j:l.head?=some 45
 .rw[av j] at a;injection a with a;injection a with a _;subst a;exact .inl rfl
 rw[au j] at a
 cases g:dF l with
 |error x=>rw[g] at a;cases a
 |ok y=>
  obtain⟨u,d⟩:=y;rw[g] at a;simp only[] at a;by_cases o:d.head?=some 46
  .rw[av o] at a
   unfold sH at a;simp only[] at a;by_cases f:(d.tail.takeWhile iO).head?=none\/(d.tail.takeWhile iO).head?=some 48
   .rw[av f] at a;cases a
   rw[au f] at a;by_cases p:999<oz (d.tail.takeWhile iO)
   .rw[av p] at a;cases a
   rw[au p] at a;injection a with a;injection a with a _;subst a;refine .inr ⟨xX g,?_,by show((oz _:I):L)<=999;omega⟩
   cases i:d.tail.takeWhile iO with
   |nil=>rw[i] at f;exact N (.inl rfl) f
   |cons c t=>
    rw[i] at f;have s:iO c=C:=He iO d.tail c (by rw[i];exact fQ);have z:=(Lc c).1 s;have A:c.toNat≠48:=λe=>f (.inr (by rw[qG];exact bJ some (iV.1 e)))
    have:=Le t (0*10+(c.toNat - 48)) ah;show(0:L)<((oz (c::t):I):L);unfold oz;rw[List.foldl_cons];omega
  .rw[au o] at a;cases a
theorem qU {b:Bool}(a:dM l= .ok (b,r)):r.length+(if b=C then 1 else 0)<=l.length:=by
 unfold dM at a;have f:(bL l).length<=l.length:=(O _).length_le
 split at a
 .injection a with a;injection a with d e;subst d e;simpa using f
 .split at a
  .cases a
  .injection a with a;injection a with d e;subst d e;simp only[bR];omega
theorem zS (a:eD l= .ok r):r.length+1<=l.length:=by
 unfold eD at a
 cases d:dM l with
 |error y=>rw[d] at a;cases a
 |ok y=>
  obtain⟨b,e⟩:=y;rw[d] at a
  cases b
  .cases a
  .injection a with a;subst a;exact qU d
theorem zT {m:Bs}(a:dF l= .ok (m,r)):r.length+1<=l.length:=by
 have d:=xX a;unfold dF at a
 split at a
 .cases a
 split at a
 .cases a
 injection a with a;injection a with e f;have g:m.length+r.length=l.length:=by rw[<-e,<-f,<-bO,qA]
 cases m with
 |nil=>simp[bG] at d
 |cons c t=>simp only[dK] at g;omega
theorem Jr (a:gG l= .ok (v,r)):r.length+1<=l.length:=by
 unfold gG at a;by_cases d:l.head?=some 45
 .rw[av d] at a;injection a with a;injection a with _ a;subst a
  cases l with
  |nil=>cases d
  |cons c t=>exact aB _
 .rw[au d] at a
  cases e:dF l with
  |error x=>rw[e] at a;cases a
  |ok y=>
   obtain⟨f,g⟩:=y;rw[e] at a;have:=zT e;simp only[] at a
   split at a
   .unfold sH at a
    simp only[] at a
    split at a
    .cases a
    split at a
    .cases a
    injection a with a;injection a with _ a;subst a;simp only[gI,List.length_tail];omega
   .cases a
theorem Di {f:H Bs}(p:∀x∈f,∀c∈x,nD c=C)(t:∀x∈f,x≠[])(a:fo f l= .ok (i,r)):r.length+1<=l.length:=by
 unfold fo at a
 cases g:f.findIdx? (λs=>s==mG l) with
 |none=>rw[g] at a;cases a
 |some j=>
  rw[g] at a;injection a with a;injection a with _ a;subst a;obtain⟨u,v,_⟩:=BQ.1 g;have o:=List.getElem_mem u;rw[oJ.1 v] at o;have y:(fw l).length<=l.length:=(List.takeWhile_prefix _).length_le;rw[gI];have:fw l≠[]:=λe=>by
   have d:mG l=fw l\/mG l=fw l++[128]:=by
    unfold mG
    split
    .split
     .exact .inr rfl
     .exact .inl rfl
    .exact .inl rfl
   rw[e] at d;rcases d with d|d
   .exact t _ o d
   .exact N (p _ o 128 (by rw[d];simp)) aj
  have:=xP.2 this;omega
theorem Nc:∀m:Fin 4,∀b:Fin 16,b.val<2 ^ m.val->(mY ((b.val:L)+2 ^ m.val)).length=(mY (b.val:L)).length+1:=by decide
theorem Js {d e:Type}(f g:d->e):∀l:H d,(l.flatMap (λp=>[f p,g p])).length=2*l.length
 |[]=>rfl
 |a::l=>by rw[gZ,bO,Js f g l];simp only[dK,gY];omega
theorem Gc:∀(k:I)(a:H Bs)(l:Bs){ns:H Bs}{r:Bs},jk k a l= .ok (ns,r)->(∀x∈a,bG ⟨x.toArray⟩=C)->ns.length=a.length+k/\(∀x∈ns,bG ⟨x.toArray⟩=C)/\r.length+2*k<=l.length
 |0,a,l,ns,r,h,ha=>by rw[jk] at h;injection h with h;injection h with h g;subst h g;exact⟨rfl,ha,aB _⟩
 |k+1,a,l,ns,r,h,ha=>by
  rw[jk] at h
  cases f:eD l with
  |error y=>rw[f] at h;cases h
  |ok i=>
   rw[f] at h;simp only[] at h
   cases e:dF i with
   |error y=>rw[e] at h;cases h
   |ok y=>
    obtain⟨j,o⟩:=y;rw[e] at h;have:=Gc k _ _ h (λx d=>by
     rcases cu.1 d with d|d
     .exact ha x d
     .rw[bX.1 d];exact xX e)
    simp only[bO,kG] at this;have p:=zS f;have g:=zT e;exact⟨abd,this.2.1,abd⟩
theorem tZ (o:Bool)(g:I):∀(f d:I)(ns:H Bs)(s:H To)(l:Bs){a:H Bs}{b:H To}{r:Bs},bN o g f d ns s l= .ok ((a,b),r)->g+1<=f+d->d<=g->(∀x∈ns,bG ⟨x.toArray⟩=C)->(∀v∈s,jK v)->
  ∃c:I,a.length=ns.length+c/\b.length=s.length+(if o=C then c else 0)/\d+c<=g/\(∀x∈a,bG ⟨x.toArray⟩=C)/\(∀v∈b,jK v)/\r.length+(if o=C then 4*c else 2*c)<=l.length
 |0,d,ns,s,l,a,b,r,h,hf,hm,F,z=>by omega
 |f+1,d,ns,s,l,a,b,r,h,hf,hm,F,z=>by
  rw[bN] at h
  cases t:dM l with
  |error y=>rw[t] at h;cases h
  |ok y=>
   obtain⟨bo,A⟩:=y;rw[t] at h
   cases bo
   .injection h with h;injection h with h K;injection h with u p;subst u p K
    exact⟨0,rfl,by split <;> rfl,hm,F,z,by have:=qU t;simp only[Nat.mul_zero,ite_self];omega⟩
   .simp only[] at h
    by_cases P:d=g/\dH A=C
    .rw[av P] at h;cases h
    .rw[au P] at h
     cases j:dF A with
     |error y=>rw[j] at h;cases h
     |ok y=>
      obtain⟨nm,r1⟩:=y;rw[j] at h;simp only[] at h;have ε:d<g:=by
       rcases iM d g with h'|h'
       .exact h'
       .exfalso
        have δ:dH A=G:=by
         cases hq:dH A
         .rfl
         .exact N ⟨abd,hq⟩ P
        rw[R6 δ] at j;cases j
      have γ:∀x∈ns++[nm],bG ⟨x.toArray⟩=C:=λx e=>by
       rcases cu.1 e with e|e
       .exact F x e
       .rw[bX.1 e];exact xX j
      by_cases i:o=C
      .rw[av i] at h
       cases Q:eD r1 with
       |error y=>rw[Q] at h;cases h
       |ok r2=>
        rw[Q] at h;simp only[] at h
        cases E:gG r2 with
        |error y=>rw[E] at h;cases h
        |ok y=>
         obtain⟨v,r3⟩:=y;rw[E] at h;obtain⟨c,u,p,K,R,S,W⟩:=tZ o g f (d+1) _ _ _ h ah ah γ (λx e=>by
          rcases cu.1 e with e|e
          .exact z x e
          .rw[bX.1 e];exact Lf E)
         rw[av i] at p W;simp only[bO,kG] at u p;have Z:=qU t;have l2:=zT j;have l3:=zS Q;have l4:=Jr E;rw[av rfl] at Z;exact⟨c+1,abd,by rw[av i];omega,abd,R,S,by rw[av i];omega⟩
      .rw[au i] at h
       obtain⟨c,u,p,K,R,S,W⟩:=tZ o g f (d+1) _ _ _ h ah ah γ z;rw[au i] at p W;simp only[bO,kG] at u;have Z:=qU t;have l2:=zT j;rw[av rfl] at Z;exact⟨c+1,abd,by rw[au i];omega,abd,R,S,by rw[au i];omega⟩
theorem Jt:∀(f k:I)(b:L)(l:Bs){x:L}{r:Bs},iW f k b l= .ok (x,r)->(∃m:I,b=m/\m<2 ^ k/\k<=4)->(∃m:I,x=m/\m<=15)/\r.length+2*(mY x).length<=l.length+2*(mY b).length
 |0,k,b,l,x,r,h,⟨m,a,p,g⟩=>by
  rw[iW] at h;injection h with h;injection h with h j;subst h j;refine⟨⟨m,a,?_⟩,aB _⟩;have:(2:I) ^ k<=2 ^ 4:=yS aj g;omega
 |f+1,k,b,l,x,r,h,⟨m,a,p,g⟩=>by
  rw[iW] at h;have A:(2:I) ^ k<=2 ^ 4:=yS aj g
  cases e:dM l with
  |error y=>rw[e] at h;cases h
  |ok y=>
   obtain⟨s,t⟩:=y;rw[e] at h
   cases s
   .injection h with h;injection h with h j;subst h j
    exact⟨⟨m,a,abd⟩,by have:=qU e;omega⟩
   .simp only[] at h
    cases d:fo (jR.drop k) t with
    |error y=>rw[d] at h;cases h
    |ok y=>
     obtain⟨i,E⟩:=y;rw[d] at h;have u:=qU e;have F:=Di (Jl k) (λx v=>(show ∀x∈jR,x≠[] from abf) x (wh v)) d;rw[av rfl] at u;rw[<-Dc _ _ (Jl k)] at d;have z:=Jo d;rw[gI] at z;have K:jR.length=4:=rfl;have P:(2:I) ^ k<=2 ^ (k+i):=yS aj ah;have o:=Nc ⟨k+i,abd⟩ ⟨m,abd⟩ (by show m<2 ^ (k+i);omega);have:=Jt f (k+i+1) _ _ h ⟨m+2 ^ (k+i),by rw[a];push_cast;rfl,by rw[Nat.pow_succ];omega,abd⟩;simp only[] at o;rw[a,o,<-a] at this;exact⟨this.1,abd⟩
theorem og (s:aJ):(lG s).length<=1+s.names.length+(if dD s.kind.toNat=108 then 1 else if dD s.kind.toNat=118 then 1 else if dD s.kind.toNat=103 then(mY s.bits).length else if dD s.kind.toNat=109/\s.first=C then 1 else 0)+(if dD s.kind.toNat=115 then s.aN.length else 0):=by
 unfold lG;simp only[dK,bO];have j:(s.names.take (bY s.kind.toNat).toNat).length+(s.names.drop (bY s.kind.toNat).toNat).length=s.names.length:=by rw[<-bO,qA]
 have l:((s.names.drop (bY s.kind.toNat).toNat).zip s.aN|>.flatMap (λp=>[p.1,fU p.2])).length<=(s.names.drop (bY s.kind.toNat).toNat).length+s.aN.length:=by rw[Js,xD];omega
 have o:(s.aN.take 1|>.map fU).length<=1:=by rw[bg,fB];omega
 generalize dD s.kind.toNat=q at*;by_cases d:q=108
 .subst d;simp only[bR,Int.reduceEq,fG,kG];omega
 by_cases e:q=118
 .subst e;simp only[bR,Int.reduceEq,fG];omega
 by_cases f:q=103
 .subst f;simp only[bR,Int.reduceEq,fG];omega
 by_cases g:q=109/\s.first=C
 .obtain⟨rfl,i⟩:=g;simp only[i,and_self,bR,Int.reduceEq,fG,kG];omega
 rw[au d,au e,au f,au g,au d,au e,au f,au g];by_cases a:q=115
 .rw[av a,av a,gY];omega
 .rw[au a,au a,gY];omega
theorem P6 {b:Bool}(a:jJ l= .ok (b,r)):r.length+(if b=C then 2 else 0)<=l.length:=by
 unfold jJ at a
 cases e:dM l with
 |error y=>rw[e] at a;cases a
 |ok y=>
  obtain⟨c,f⟩:=y;have g:=qU e;rw[e] at a
  cases c
  .injection a with a;injection a with a d;subst a d;simp
  .simp only[] at a
   rw[av rfl] at g
   split at a
   .rename_i i
    injection a with a;injection a with a d;subst a d
    cases f with
    |nil=>cases i
    |cons c t=>simp only[dK,List.tail_cons,bR] at*;omega
   .injection a with a;injection a with a d;subst a d;simp
variable{n:aJ}
theorem Sg (e:iX l= .ok (n,r)):n=⟨0,[],0,[],G,0⟩\/(eF n/\r.length+2*(lG n).length<=l.length+1):=by
 unfold iX at e;by_cases he:dR (bL l)=C
 .rw[av he] at e;injection e with e;injection e with e _;exact .inl e.symm
 rw[au he] at e
 right
 cases F:fo lM (bL l) with
 |error y=>rw[F] at e;cases e
 |ok y=>
  obtain⟨i,A⟩:=y;rw[F] at e;simp only[] at e;have k1:=Di Ld aj F;have k0:(bL l).length<=l.length:=(O _).length_le;rw[<-Dc _ _ Ld] at F;have hi:i<9:=Jo F
  cases Z:jk (bY (i+1)).toNat [] A with
  |error y=>rw[Z] at e;cases e
  |ok y=>
   obtain⟨g,E⟩:=y;rw[Z] at e;simp only[] at e;have f:=Gc _ _ _ Z ak
   cases d:jE (i+1) g E with
   |error y=>rw[d] at e;cases e
   |ok y=>
    obtain⟨s,r2⟩:=y;rw[d] at e;simp only[] at e;have hs:s=n/\r.length<=r2.length:=by
     cases p:dM r2 with
     |error y=>rw[p] at e;cases e
     |ok y=>
      obtain⟨b,K⟩:=y;have:=qU p;rw[p] at e
      cases b
      .injection e with e;injection e with e h2;subst h2;exact⟨e,abd⟩
      .cases e
    obtain⟨rfl,k3⟩:=hs;have k2:=f.2.2;have f:=And.intro f.1 f.2.1;clear e Z F he;have hk:i=0\/i=1\/i=2\/i=3\/i=4\/i=5\/i=6\/i=7\/i=8:=by omega
    unfold jE at d;rcases hk with rfl|rfl|rfl|rfl|rfl|rfl|rfl|rfl|rfl
    .rw[av rfl] at d
     cases p:eD E with
     |error y=>rw[p] at d;cases d
     |ok A=>
      rw[p] at d;simp only[] at d
      cases x:fo mF A with
      |error y=>rw[x] at d;cases d
      |ok y=>
       obtain⟨j,K⟩:=y;rw[x] at d;injection d with d;injection d with d o;subst d o;have q2:=Di Jm aj x;rw[<-Dc _ _ Jm] at x;have hj:j<4:=Jo x;refine⟨⟨f.2,abe,.inl ⟨rfl,f.1.trans aj,rfl,⟨1+j,by push_cast;rfl,abd,abd⟩,rfl,rfl⟩⟩,?_⟩;have z:(bY (0+1)).toNat=2:=rfl;have Q:g.length=2:=f.1.trans aj;have q1:=zS p;have:=og ⟨((0+1:I):L),g,1+(j:L),[],G,0⟩;simp[dD] at this ⊢;omega
    .injection d with d;injection d with d o;subst d o
     refine⟨⟨f.2,abe,.inr (.inl ⟨rfl,f.1.trans aj,rfl,rfl,rfl,rfl⟩)⟩,?_⟩;have z:(bY (1+1)).toNat=2:=rfl;have Q:g.length=2:=f.1.trans aj;have:=og ⟨((1+1:I):L),g,0,[],G,0⟩;simp[dD] at this ⊢;omega
    .rw[au aj,av rfl] at d
     cases p:eD E with
     |error y=>rw[p] at d;cases d
     |ok A=>
      rw[p] at d;simp only[] at d
      cases x:gG A with
      |error y=>rw[x] at d;cases d
      |ok y=>
       obtain⟨v,K⟩:=y;rw[x] at d;injection d with d;injection d with d o;subst d o;refine⟨⟨f.2,λt d=>by rw[bX.1 d];exact Lf x,.inr (.inr (.inl ⟨rfl,f.1.trans aj,rfl,rfl,rfl,rfl⟩))⟩,?_⟩;have z:(bY (2+1)).toNat=2:=rfl;have Q:g.length=2:=f.1.trans aj;have q1:=zS p;have q2:=Jr x;have:=og ⟨((2+1:I):L),g,0,[v],G,0⟩;simp[dD] at this ⊢;omega
    .rw[au aj,au aj,au aj,au aj,av rfl] at d
     cases u:bN C 40 41 0 g [] E with
     |error y=>rw[u] at d;cases d
     |ok y=>
      obtain⟨⟨a,b⟩,K⟩:=y;rw[u] at d;injection d with d;injection d with d o;subst d o;obtain⟨c,e1,P,e3,R,S,W⟩:=tZ _ _ _ _ _ _ _ u ah ah f.2 ak;have hl:g.length=2:=f.1.trans aj;refine⟨⟨R,S,.inr (.inr (.inr (.inl ⟨rfl,⟨c,by show a.length=_;omega,by show b.length=_;simpa using P,abd⟩,trivial,rfl,rfl,rfl⟩)))⟩,?_⟩;have z:(bY (3+1)).toNat=2:=rfl;rw[av rfl] at W;have:=og ⟨((3+1:I):L),a,0,b,G,0⟩;simp[dD] at this P ⊢;omega
    .injection d with d;injection d with d o;subst d o
     refine⟨⟨f.2,abe,.inr (.inr (.inr (.inr (.inl ⟨rfl,f.1.trans aj,rfl,rfl,rfl,rfl⟩))))⟩,?_⟩;have z:(bY (4+1)).toNat=1:=rfl;have Q:g.length=1:=f.1.trans aj;have:=og ⟨((4+1:I):L),g,0,[],G,0⟩;simp[dD] at this ⊢;omega
    .injection d with d;injection d with d o;subst d o
     refine⟨⟨f.2,abe,.inr (.inr (.inr (.inr (.inr (.inl ⟨rfl,f.1.trans aj,rfl,rfl,rfl,rfl⟩)))))⟩,?_⟩;have z:(bY (5+1)).toNat=1:=rfl;have Q:g.length=1:=f.1.trans aj;have:=og ⟨((5+1:I):L),g,0,[],G,0⟩;simp[dD] at this ⊢;omega
    .rw[au aj,au aj,au aj,au aj,au aj,av rfl] at d
     cases u:bN G 300 301 0 g [] E with
     |error y=>rw[u] at d;cases d
     |ok y=>
      obtain⟨⟨a,b⟩,K⟩:=y;rw[u] at d;injection d with d;injection d with d o;subst d o;obtain⟨c,e1,P,e3,R,S,W⟩:=tZ _ _ _ _ _ _ _ u ah ah f.2 ak;have hl:g.length=1:=f.1.trans aj;have hb:b=[]:=BS.1 (by simpa using P);refine⟨⟨R,S,.inr (.inr (.inr (.inr (.inr (.inr (.inl ⟨rfl,⟨c,by show a.length=_;omega,abd⟩,hb,rfl,rfl,rfl⟩))))))⟩,?_⟩;have z:(bY (6+1)).toNat=1:=rfl;rw[au aj] at W;have:=og ⟨((6+1:I):L),a,0,b,G,0⟩;simp[dD] at this ⊢;omega
    .rw[au aj,au aj,au aj,av rfl] at d
     cases hf:jJ E with
     |error y=>rw[hf] at d;cases d
     |ok y=>
      obtain⟨fi,A⟩:=y;rw[hf] at d;simp only[] at d
      cases u:bN G 300 301 0 g [] A with
      |error y=>rw[u] at d;cases d
      |ok y=>
       obtain⟨⟨a,b⟩,K⟩:=y;rw[u] at d;injection d with d;injection d with d o;subst d o;obtain⟨c,e1,P,e3,R,S,W⟩:=tZ _ _ _ _ _ _ _ u ah ah f.2 ak;have hl:g.length=2:=f.1.trans aj;have hb:b=[]:=BS.1 (by simpa using P);refine⟨⟨R,S,.inr (.inr (.inr (.inr (.inr (.inr (.inr (.inl ⟨rfl,⟨c,by show a.length=_;omega,abd⟩,hb,rfl,trivial,rfl⟩)))))))⟩,?_⟩;have z:(bY (7+1)).toNat=2:=rfl;rw[au aj] at W;have q1:=P6 hf;have:=og ⟨((7+1:I):L),a,0,b,fi,0⟩;simp[dD] at this ⊢;cases fi <;> simp at this q1 <;> omega
    .rw[au aj,au aj,av rfl] at d
     cases hg:iW 5 0 0 E with
     |error y=>rw[hg] at d;cases d
     |ok y=>
      obtain⟨b,K⟩:=y;rw[hg] at d;injection d with d;injection d with d o;subst d o;obtain⟨⟨m,p,γ⟩,q0⟩:=Jt _ _ _ _ hg ⟨0,rfl,abf,abf⟩;refine⟨⟨f.2,abe,.inr (.inr (.inr (.inr (.inr (.inr (.inr (.inr ⟨rfl,f.1.trans aj,rfl,rfl,rfl,⟨m,p,γ⟩⟩)))))))⟩,?_⟩;have z:(bY (8+1)).toNat=1:=rfl;have Q:g.length=1:=f.1.trans aj;have:=og ⟨((8+1:I):L),g,0,[],G,b⟩;simp[dD] at this ⊢;have q1:(mY 0).length=0:=by decide
      omega
theorem wW {b:Bool}(a:dM l= .ok (b,r)):r<:+l:=by
 have d:bL l<:+l:=by unfold bL;exact O _
 unfold dM at a
 split at a
 .injection a with a;injection a with _ a;rw[<-a];exact d
 .split at a
  .cases a
  .injection a with a;injection a with _ a;rw[<-a];exact d
theorem zU (a:eD l= .ok r):r<:+l:=wW (PO a)
theorem Dj {m:Bs}(a:dF l= .ok (m,r)):r<:+l:=by
 unfold dF at a
 split at a
 .cases a
 .split at a
  .cases a
  .injection a with a;injection a with _ a;rw[<-a];exact V _ _
theorem Dk {d:H Bs}(a:fo d l= .ok (i,r)):r<:+l:=by
 unfold fo at a
 split at a
 .injection a with a;injection a with _ a;rw[<-a];exact V _ _
 .cases a
theorem Ju (a:gG l= .ok (v,r)):r<:+l:=by
 unfold gG at a;by_cases e:l.head?=some 45
 .rw[av e] at a;injection a with a;injection a with _ a;rw[<-a];exact List.tail_suffix _
 rw[au e] at a
 cases d:dF l with
 |error x=>rw[d] at a;cases a
 |ok y=>
  obtain⟨j,g⟩:=y;have i:=Dj d;rw[d] at a;simp only[] at a;by_cases f:g.head?=some 46
  .rw[av f] at a
   unfold sH at a;simp only[] at a
   split at a
   .cases a
   .split at a
    .cases a
    .injection a with a;injection a with _ a;rw[<-a];exact((V _ _).trans (List.tail_suffix _)).trans i
  .rw[au f] at a;cases a
theorem Gd:∀(k:I)(a:H Bs)(l:Bs){ns:H Bs}{r:Bs},jk k a l= .ok (ns,r)->r<:+l
 |0,a,l,ns,r,h=>by rw[jk] at h;injection h with h;injection h with _ h;subst h;exact zN _
 |k+1,a,l,ns,r,h=>by
  rw[jk] at h
  cases d:eD l with
  |error y=>rw[d] at h;cases h
  |ok f=>
   rw[d] at h;simp only[] at h
   cases e:dF f with
   |error y=>rw[e] at h;cases h
   |ok y=>
    obtain⟨g,i⟩:=y;rw[e] at h;exact((Gd k _ _ h).trans (Dj e)).trans (zU d)
theorem uf (a:Bool)(d:I):∀(f e:I)(ns:H Bs)(g:H To)(l:Bs){x:H Bs × H To}{r:Bs},bN a d f e ns g l= .ok (x,r)->r<:+l
 |0,e,ns,g,l,x,r,h=>by rw[bN] at h;injection h with h;injection h with _ h;subst h;exact zN _
 |f+1,e,ns,g,l,x,r,h=>by
  rw[bN] at h
  cases i:dM l with
  |error y=>rw[i] at h;cases h
  |ok y=>
   obtain⟨E,t⟩:=y;have j:=wW i;rw[i] at h
   cases E
   .injection h with h;injection h with _ h;subst h;exact j
   .simp only[] at h
    by_cases u:e=d/\dH t=C
    .rw[av u] at h;cases h
    .rw[au u] at h
     cases o:dF t with
     |error y=>rw[o] at h;cases h
     |ok y=>
      obtain⟨R,F⟩:=y;have z:=Dj o;rw[o] at h;simp only[] at h;by_cases A:a=C
      .rw[av A] at h
       cases p:eD F with
       |error y=>rw[p] at h;cases h
       |ok K=>
        have P:=zU p;rw[p] at h;simp only[] at h
        cases s:gG K with
        |error y=>rw[s] at h;cases h
        |ok y=>
         obtain⟨v,S⟩:=y;have Q:=Ju s;rw[s] at h;exact((((uf a d f _ _ _ _ h).trans Q).trans P).trans z).trans j
      .rw[au A] at h
       exact((uf a d f _ _ _ _ h).trans z).trans j
theorem Jv:∀(f k:I)(b:L)(l:Bs){x:L}{r:Bs},iW f k b l= .ok (x,r)->r<:+l
 |0,k,b,l,x,r,h=>by rw[iW] at h;injection h with h;injection h with _ h;subst h;exact zN _
 |f+1,k,b,l,x,r,h=>by
  rw[iW] at h
  cases a:dM l with
  |error y=>rw[a] at h;cases h
  |ok y=>
   obtain⟨g,j⟩:=y;have e:=wW a;rw[a] at h
   cases g
   .injection h with h;injection h with _ h;subst h;exact e
   .simp only[] at h
    cases d:fo (jR.drop k) j with
    |error y=>rw[d] at h;cases h
    |ok y=>
     obtain⟨i,p⟩:=y;have o:=Dk d;rw[d] at h;exact((Jv f _ _ _ h).trans o).trans e
theorem P7 {b:Bool}(a:jJ l= .ok (b,r)):r<:+l:=by
 unfold jJ at a
 cases d:dM l with
 |error y=>rw[d] at a;cases a
 |ok y=>
  obtain⟨e,g⟩:=y;have f:=wW d;rw[d] at a
  cases e
  .injection a with a;injection a with _ a;subst a;exact zN _
  .simp only[] at a
   split at a
   .injection a with a;injection a with _ a;rw[<-a];exact(List.tail_suffix _).trans f
   .injection a with a;injection a with _ a;subst a;exact zN _
theorem Si {k:I}(d:jE k ns l= .ok (n,r)):r<:+l:=by
 unfold jE at d;by_cases s:k=1
 .rw[av s] at d
  cases e:eD l with
  |error y=>rw[e] at d;cases d
  |ok o=>
   rw[e] at d;simp only[] at d
   cases j:fo mF o with
   |error y=>rw[j] at d;cases d
   |ok y=>obtain⟨i,p⟩:=y;rw[j] at d;injection d with d;injection d with _ d;subst d;exact(Dk j).trans (zU e)
 rw[au s] at d;by_cases t:k=3
 .rw[av t] at d
  cases e:eD l with
  |error y=>rw[e] at d;cases d
  |ok o=>
   rw[e] at d;simp only[] at d
   cases j:gG o with
   |error y=>rw[j] at d;cases d
   |ok y=>obtain⟨i,p⟩:=y;rw[j] at d;injection d with d;injection d with _ d;subst d;exact(Ju j).trans (zU e)
 rw[au t] at d;by_cases u:k=9
 .rw[av u] at d
  cases e:iW 5 0 0 l with
  |error y=>rw[e] at d;cases d
  |ok y=>obtain⟨b,p⟩:=y;rw[e] at d;injection d with d;injection d with _ d;subst d;exact Jv _ _ _ _ e
 rw[au u] at d;by_cases v:k=8
 .rw[av v] at d
  cases e:jJ l with
  |error y=>rw[e] at d;cases d
  |ok y=>
   obtain⟨f,o⟩:=y;rw[e] at d;simp only[] at d
   cases g:bN G 300 301 0 ns [] o with
   |error y=>rw[g] at d;cases d
   |ok y=>
    obtain⟨⟨a,b⟩,p⟩:=y;rw[g] at d;injection d with d;injection d with _ d;subst d;exact(uf _ _ _ _ _ _ _ g).trans (P7 e)
 rw[au v] at d;by_cases x:k=4
 .rw[av x] at d
  cases g:bN C 40 41 0 ns [] l with
  |error y=>rw[g] at d;cases d
  |ok y=>obtain⟨⟨a,b⟩,p⟩:=y;rw[g] at d;injection d with d;injection d with _ d;subst d;exact uf _ _ _ _ _ _ _ g
 rw[au x] at d;by_cases z:k=7
 .rw[av z] at d
  cases g:bN G 300 301 0 ns [] l with
  |error y=>rw[g] at d;cases d
  |ok y=>obtain⟨⟨a,b⟩,p⟩:=y;rw[g] at d;injection d with d;injection d with _ d;subst d;exact uf _ _ _ _ _ _ _ g
 rw[au z] at d;injection d with d;injection d with _ d;subst d;exact zN _
theorem Sj (a:iX l= .ok (n,r)):r<:+l:=by
 have j:bL l<:+l:=by unfold bL;exact O _
 unfold iX at a;by_cases o:dR (bL l)=C
 .rw[av o] at a;injection a with a;injection a with _ a;subst a;exact j
 rw[au o] at a
 cases d:fo lM (bL l) with
 |error y=>rw[d] at a;cases a
 |ok y=>
  obtain⟨i,p⟩:=y;rw[d] at a;simp only[] at a
  cases e:jk (bY (i+1)).toNat [] p with
  |error y=>rw[e] at a;cases a
  |ok y=>
   obtain⟨t,u⟩:=y;rw[e] at a;simp only[] at a
   cases f:jE (i+1) t u with
   |error y=>rw[f] at a;cases a
   |ok y=>
    obtain⟨s,v⟩:=y;rw[f] at a;simp only[] at a
    cases g:dM v with
    |error y=>rw[g] at a;cases a
    |ok y=>
     obtain⟨b,x⟩:=y;rw[g] at a
     cases b
     .injection a with a;injection a with _ a;subst a
      exact((((wW g).trans (Si f)).trans (Gd _ _ _ e)).trans (Dk d)).trans j
     .cases a
theorem Qk (a:oH l= .ok (n,r)):(n=⟨0,[],0,[],G,0⟩\/eF n)/\(r=[]\/(10::r)<:+l):=by
 unfold oH at a
 cases g:iX l with
 |error y=>rw[g] at a;cases a
 |ok y=>
  obtain⟨s,e⟩:=y;have p:=Sj g;have i:=(Sg g).imp_right And.left;have u:jF e<:+e:=by unfold jF;split;exact V _ _;exact zN _
  rw[g] at a;simp only[] at a;by_cases j:(jF e).head?=none
  .rw[av j] at a;injection a with a;injection a with a f;subst a;exact⟨i,.inl f.symm⟩
  .rw[au j] at a
   by_cases d:(jF e).head?=some 10
   .rw[av d] at a;injection a with a;injection a with a f;subst a
    refine⟨i,.inr ?_⟩;have:10::r=jF e:=by
     cases o:jF e with
     |nil=>rw[o] at d;cases d
     |cons c t=>rw[o] at d f;rw[List.tail_cons] at f;rw[qG] at d;rw[<-qO d,f]
    rw[this];exact u.trans p
   .rw[au d] at a;cases a
attribute [local go_sem] Oper.semAt_some
end Yd
namespace Yd
open Go Go.RowKit Go.Proofs
attribute [local go_sem] Oper.semAt_some
section
variable {h:HC}{nl:Nat->List Bs}{es:List EvC}{ds:List aG}{ms:List aK}{qs:List Wa}{scan:EvC->List Sn}{dn:aG->List Int}{mn:aK->List Int}
end
end Yd
namespace Yd
open Go Go.RowKit Go.Proofs
theorem Lg {xs:List (Int × Int)}(s:Int)(g:∀x∈xs,0<=x.2/\x.2<300):(bV xs s).Nodup/\∀n∈bV xs s,0<=n/\n<300:=by
 have i:∀(d:List (Int × Int))(l:List Int),(∀x∈d,0<=x.2/\x.2<300)->(l.Nodup/\∀n∈l,0<=n/\n<300)->
   (d.foldl (λl x=>if x.1=s then kQ l x.2 else l) l).Nodup/\∀n∈d.foldl (λl x=>if x.1=s then kQ l x.2 else l) l,0<=n/\n<300:=by
  intro d
  induction d with
  |nil=>intro l _ e;exact e
  |cons y d j=>
   intro l f e;refine j _ (λx o=>f x (d9 _ o)) ?_
   dsimp only
   split
   .refine⟨D5 e.1,λn a=>?_⟩
    unfold kQ at a
    split at a
    .exact e.2 n a
    .rcases cu.1 a with a|a
     .exact e.2 n a
     .obtain rfl:n=y.2:=by simpa using a
      exact f y ak
   .exact e
 exact i xs [] g ⟨oI,by simp⟩
theorem J7:∀(m:Nat)(l:List Int),l.Nodup->(∀n∈l,0<=n/\n<(m:Int))->l.length<=m:=by
 intro m
 induction m with
 |zero=>
  intro l _ h
  cases l with
  |nil=>exact aB _
  |cons a l=>have:=h a ak;omega
 |succ m g=>
  intro l d h;have e:=g (l.erase (m:Int)) (d.erase _) (λn i=>by
   have f:=(d.mem_erase_iff).1 i;have:=h n f.2;have:=f.1;omega)
  rw[List.length_erase] at e
  split at e <;> omega
theorem Vg {xs:List (Int × Int)}(s:Int)(a:∀x∈xs,0<=x.2/\x.2<300):(bV xs s).length<=1000:=
 bI (J7 300 _ (Lg s a).1 (Lg s a).2) aj
structure V4 (w:World)(q:Nat)(c:Nat->Value)(pre:List (Int × Int))(bs:List (Nat × Array Value))(X:World):Prop where
 b:Below w.1.size w X
 Q:Bx X q #[c 0,c 1,c 2,c 3]
 o:∀i:Nat,i<4->Own X (q+1) 3 1 aS (c i) (bV pre i)
 ap:∀i j:Nat,i<4->j<4->i≠j->∀g,(c i).ownBlock=some g->(c j).ownBlock≠some g
 E:∀p∈bs,Bx X p.1 p.2/\p.1≠q/\∀i:Nat,i<4->(c i).ownBlock≠some p.1
 ok:∀x∈pre,0<=x.2/\x.2<300
 hq:w.1.size<=q
section
variable {w X w1:World}{q:Nat}{c:Nat->Value}{pre:List (Int × Int)}{bs:List (Nat × Array Value)}
theorem V4.len (a:V4 w q c pre bs X)(s:Int):(bV pre s).length<=1000:=Vg s a.ok
theorem V4.base (a:V4 w q c pre bs X):q+1<=X.1.size:=a.Q.2.2
variable{i:Nat}
theorem V4.aat (a:V4 w q c pre bs X)(d:i<4):(c i).ownBlock≠some q:=λe=>by have:=((a.o i d).lt q e).1;omega
theorem V4.below_ (a:V4 w q c pre bs X)(d:Below X.1.size X w1):V4 w q c pre bs w1:=
 ⟨a.b.trans (d.mono a.b.size),a.Q.keep d,λi f=>(a.o i f).below d rfl,a.ap,λp e=>⟨(a.E p e).1.keep d,(a.E p e).2⟩,a.ok,a.hq⟩
theorem V4.alloc (d:V4 w q c pre bs X)(cs:Array Value)(T:TypeId):V4 w q c pre ((X.1.size,cs)::bs) (X.alloc (.cells cs T)):=by
 have a:=d.below_ (aA (Below.refl _ _) (.cells cs T));refine⟨a.b,a.Q,a.o,a.ap,λp f=>?_,a.ok,a.hq⟩;rcases dO.1 f with rfl|f
 .exact⟨Bx.new X cs T,by have:=d.Q.2.2;show X.1.size≠q;omega,λi g e=>Nat.lt_irrefl _ ((d.o i g).lt _ e).2⟩
 .exact a.E p f
theorem V4.drop {p:Nat × Array Value}(a:V4 w q c pre (p::bs) X):V4 w q c pre bs X:=⟨a.b,a.Q,a.o,a.ap,λp d=>a.E p (d9 _ d),a.ok,a.hq⟩
theorem V4.at_ (a:V4 w q c pre bs X)(d:i<4):X.cell? ⟨q,i,none⟩=some (c i):=by
 rw[a.Q.1 i]
 match i,d with
 |0,_=>rfl
 |1,_=>rfl
 |2,_=>rfl
 |3,_=>rfl
theorem V4.called (a:V4 w q c pre bs X)(d:i<4)(f:Same (λg=>some g≠(c i).ownBlock) X w1):Bx w1 q #[c 0,c 1,c 2,c 3]:=f.bx a.Q (λe=>a.aat d e.symm)
theorem V4.step (a:V4 w q c pre bs X)(r:i<4){v:Value}{ys:List Int}(ns:List (Int × Int))(P:Own w1 (q+1) 3 1 aS v ys)(s:Same (λg=>some g≠(c i).ownBlock) X w1)
  (Z:v.ownBlock=(c i).ownBlock\/∃g,X.1.size<=g/\v.ownBlock=some g) (γ:∀x∈ns,0<=x.2/\x.2<300)
  (hy:ys=bV (pre++ns) i) (δ:∀j:Nat,j<4->j≠i->bV (pre++ns) j=bV pre j):∃c',V4 w q c' (pre++ns) bs (w1.setCell ⟨q,i,none⟩ v):=by
 have Q:∀g,g<X.1.size->v.ownBlock=some g->(c i).ownBlock=some g:=λg l e=>by
  rcases Z with u|⟨g',u,A⟩
  .rw[<-u];exact e
  .rw[A] at e;injection e with e;omega
 have E:Same (λg=>g≠q) w1 (w1.setCell ⟨q,i,none⟩ v):=(Same.refl' _).setTail (λhn=>hn rfl);have hQ:=a.called r s;refine⟨λj=>if j=i then v else c j,?_,?_,?_,?_,?_,?_,a.hq⟩
 .refine E.below (s.below a.b (λg l e=>?_) a.b.size) (λg l=>by have:=a.hq;omega) (bI a.b.size s.size)
  have:=((a.o i r).lt g e.symm).1;have:=a.hq;omega
 .have:=hQ.bB i (by simpa using r) v
  refine cast (bJ (λz=>Bx _ q z) ?_) this
  match i,r with
  |0,_=>rfl
  |1,_=>rfl
  |2,_=>rfl
  |3,_=>rfl
 .intro j d
  by_cases f:j=i
  .subst f
   simp only[av];rw[<-hy];exact P.block λg l=>E.block g (by have:=(P.lt g l).1;omega) (P.lt g l).2
  .simp only[au f]
   rw[δ j d f];refine(a.o j d).block λg l=>?_
   have S:=(a.o j d).lt g l;rw[E.block g ah (bP S.2 s.size)];exact s.block g (λe=>a.ap i j r d (Ne.symm f) g e.symm l) S.2
 .intro j k d F K g t o
  by_cases f:j=i
  .subst f
   simp only[av] at t;rw[au (Ne.symm K)] at o;exact a.ap k j F d (Ne.symm K) g o (Q g ((a.o k F).lt g o).2 t)
  .rw[au f] at t
   by_cases W:k=i
   .subst W
    simp only[av] at o;exact a.ap j k d F K g t (Q g ((a.o j d).lt g t).2 o)
   .rw[au W] at o
    exact a.ap j k d F K g t o
 .intro p hp
  obtain⟨u,A,R⟩:=a.E p hp;refine⟨E.bx (s.bx u (λe=>R i r e.symm)) A,A,λj d e=>?_⟩;by_cases f:j=i
  .subst f
   simp only[av] at e;exact R j d (Q _ u.2.2 e)
  .rw[au f] at e
   exact R j d e
 .intro x y
  rcases cu.1 y with y|y
  .exact a.ok x y
  .exact γ x y
end
attribute [local go_sem] Oper.semAt_some
def zV (x e:EvC):Bool:=(e.kind==2) && ((e.t==x.t) && (e.obj==x.obj))
def ou (x:EvC)(l:List EvC):Nat:=l.countP (zV x)
theorem TS (x:EvC)(es:List EvC)(j:Nat):ou x (es.take j)<=j:=by
 unfold ou;exact bI List.countP_le_length (by rw[fB];omega)
end Yd
namespace Yd
open Go Go.RowKit Go.Proofs
attribute [local go_sem] Oper.semAt_some
theorem zW (x:EvC):∀(l:List EvC)(d:List (Int × Int)),(l.foldl jc d).count (x.t,x.obj)=d.count (x.t,x.obj)+ou x l
 |[],d=>by simp[ou]
 |e::l,d=>by
  rw[List.foldl_cons,zW x l];unfold ou jc;rw[List.countP_cons];by_cases f:e.kind=2
  .rw[av f,List.count_cons]
   by_cases g:(e.t==x.t && e.obj==x.obj)=true
   .have a:zV x e=true:=by unfold zV;simp[f];simpa using g
    have j:((e.t,e.obj)==(x.t,x.obj))=true:=by simpa using g
    rw[a,j];simp;omega
   .have a:zV x e=false:=by unfold zV;rw[<-Bool.not_eq_true];intro i;apply g;simp only[aM] at i ⊢;exact i.2
    have j:((e.t,e.obj)==(x.t,x.obj))=false:=by rw[<-Bool.not_eq_true];intro i;apply g;simpa using i
    rw[a,j];simp
  .rw[au f]
   have a:zV x e=false:=by unfold zV;simp[f]
   rw[a];simp
theorem Kh:∀(es:List EvC)(d:List (Int × Int))(k:Nat)(e:EvC),es[k]?=some e->sG ((es.take k).foldl jc d) e=true->l7 d es=false
 |[],d,k,e,h,_=>by simp at h
 |a::es,d,0,e,h,f=>by
  obtain rfl:a=e:=by simpa using h
  simp only[List.take_zero,List.foldl_nil] at f;simp[l7,f]
 |a::es,d,k+1,e,h,f=>by
  rw[List.take_succ_cons,List.foldl_cons] at f;simp[l7,Kh es (jc d a) k e (by simpa using h) f]
theorem Cx:∀(es:List EvC)(d:List (Int × Int)),(∀(k:Nat)(e:EvC),es[k]?=some e->sG ((es.take k).foldl jc d) e=false)->l7 d es=true
 |[],d,_=>rfl
 |a::es,d,h=>by
  have f:=h 0 a rfl;simp only[List.take_zero,List.foldl_nil] at f;simp only[l7,f,Bool.not_false,qZ];exact Cx es (jc d a) (λk e g=>by
   have:=h (k+1) e (by simpa using g)
   rwa[List.take_succ_cons,List.foldl_cons] at this)
theorem Ev (l:List EvC)(e:EvC):sG (l.foldl jc []) e=((e.kind==2) && !(e.v.k==1+((ou e l:Nat):Int))):=by
 unfold sG;rw[zW e l []];simp only[List.count_nil,bD];have a:decide (e.kind=2)=(e.kind==2):=by by_cases h:e.kind=2 <;> simp[h]
 have d:decide (e.v.k=((ou e l:Nat):Int)+1)=(e.v.k==1+((ou e l:Nat):Int)):=by
  rw[Int.add_comm];by_cases h:e.v.k=1+((ou e l:Nat):Int) <;> simp[h]
 rw[a,d]
end Yd
namespace Yd
open Go Go.RowKit Go.Proofs
attribute [local go_sem] Oper.semAt_some
def pJ (a:List EvC)(e:EvC):EvC:=if e.kind=2 then {e with v:=⟨e.v.t,1+((ou e a:Nat):Int)⟩} else e
def iN (es:List EvC)(k:Nat):List EvC:=(List.range k).filterMap λi=>(es[i]?).map (pJ (es.take i))
theorem sO {es:List EvC}{k:Nat}{e:EvC}(a:es[k]?=some e):iN es (k+1)=iN es k++[pJ (es.take k) e]:=by
 unfold iN;rw[List.range_succ,List.filterMap_append];simp[a]
def rZ (es:List EvC):Bool:=(iN es es.length).any λe=>(e.kind==2) && decide (999<e.v.k)
theorem uO (es:List EvC):∀(d k:Nat),iN es k<+:iN es (k+d)
 |0,k=>gH _
 |d+1,k=>by
  refine(uO es d k).trans ?_;show iN es (k+d)<+:iN es (k+d+1);unfold iN;rw[List.range_succ,List.filterMap_append];exact eu _ _
theorem Sk {es:List EvC}{k:Nat}{e:EvC}(a:es[k]?=some e)(d:e.kind=2)(g:999<1+((ou e (es.take k):Nat):Int)):rZ es=true:=by
 have i:=(bK.1 a).1;obtain⟨t,f⟩:=uO es (es.length - (k+1)) (k+1);rw[show k+1+(es.length - (k+1))=es.length by omega] at f;unfold rZ;rw[<-f,sO a];simp only[List.any_append,List.any_cons,pJ,av d];simp[g,d]
theorem Row.iG {X:World}{g:Nat}(a:X.1.size=g)(e:EvC):Row (X.alloc (.cells (aR e) 49)) 9 dx (some ⟨g,0,none⟩) 1 1 [e]:=by
 subst a;exact(Own.new (hc:=jI) X X.1.size 49 (enc:=dx) (aR e) [e] (aB _) rfl (by simp[maxLen])).row (hc:=jI) ak
end Yd
namespace Yd
open Go Go.RowKit Go.Proofs
attribute [local go_sem] Oper.semAt_some
structure je (X:World)(h:HC)(c:Cont)(es:List EvC)(ds:List aG)(ms:List aK)(scan:EvC->List Sn)(dn:aG->List Int)(mn:aK->List Int):Prop where
 d:Deep X h es ds ms c.Q scan dn mn
 n:∀i,i<4->Row X 1 encStr (h.nm i).a (h.nm i).n (h.nm i).c (c.nl i)
 be:es.map EvC.base=c.E
 bd:ds.map aG.base=c.D
 bm:ms.map aK.base=c.M
 se:es.map scan=c.SE
 sd:ds.map dn=c.SD
 sm:ms.map mn=c.SM
theorem je.below {X Y:World}{a:HC}{c:Cont}{es:List EvC}{i:List aG}{j:List aK}{d:EvC->List Sn}{e:aG->List Int}{f:aK->List Int}(s:je X a c es i j d e f)(g:Below X.1.size X Y):je Y a c es i j d e f:=
 ⟨s.d.below g rfl,λl o=>(s.n l o).below g rfl,s.be,s.bd,s.bm,s.se,s.sd,s.sm⟩
end Yd
namespace Yd
open Option renaming none->I,some->L
open Go Go.RowKit Go.Proofs
open Go.IntKind renaming i64->V
open Go.Value renaming slice->G,int->U
open Same renaming refl'->O
open Yd renaming hid->C
open _root_ renaming List->H,trivial->J,Nat->N
theorem jb {es:H EvC}:∀(k:N),k<=es.length->(iN es k).length=k
 |0,_=>rfl
 |k+1,h=>by
  rw[sO (cB (by omega:k<es.length)),bO,jb k ah];rfl
theorem G5 {es:H EvC}:∀(k:N),k<=es.length->∀(i:N)(e:EvC),i<k->es[i]?=L e->(iN es k)[i]?=L (pJ (es.take i) e)
 |0,_,i,e,h,_=>absurd h (Nat.not_lt_zero _)
 |k+1,f,i,e,h,a=>by
  rw[sO (cB (by omega:k<es.length))];by_cases d:i<k
  .rw[rX (by rw[jb k ah];exact d)]
   exact G5 k ah i e d a
  .obtain rfl:i=k:=by omega
   rw[pG (by rw[jb i ah];exact aB _),jb i ah,Nat.sub_self];rw[cB (by omega:i<es.length)] at a;injection a with a;rw[a];rfl
def Cont.num (c:Cont):Cont:={c with E:=iN c.E c.E.length}
variable{k:N}{X Y:World}{T:TypeId}{p:H (Int × Int)}
theorem Own.iE {a:Type}{enc:a->H Value}{B b:N}{v:Value}{xs:H a}(d:Own X B T k enc v xs)(j:gU X b p)(l:Same (λi=>i≠b) X Y):Own Y B T k enc v xs:=
 d.same l (λg o e=>by
  subst e;obtain⟨s,t,f⟩:=d.tag o;obtain⟨u,_,⟨es,x,r,_⟩,_⟩:=j;rw[r] at f
  cases f)
variable{w:World}
theorem gX.iE {d:Type}{enc:d->H Value}{s:Sl}{l:H d}{b:N}(a:gX w X T k enc s l)(f:gU X b p)(g:Same (λi=>i≠b) X Y):gX w Y T k enc s l:=by
 obtain⟨e,a|a⟩:=a
 .exact⟨e,.inl a⟩
 .exact⟨e,.inr (a.iE f g)⟩
theorem nH.iE {a d:Type}{enc:d->H Value}{sl:a->Sl}{xs:H a}{e:H (H d)}{b:N}(f:nH w X T k enc sl xs e)(g:gU X b p)(j:Same (λi=>i≠b) X Y):nH w Y T k enc sl xs e:=
 ⟨f.1,λi x l o r=>(f.2 i x l o r).iE g j⟩
theorem Dl (X:World)(g o:N)(v:Value):Same (λi=>i≠g) X (X.setCell ⟨g,o,I⟩ v):=(O X).setTail (λa=>a rfl)
variable{g:N}
theorem gU.ne {b:N}(d:gU X b p){cs:Array Value}{f:N × N}(a:X.1[g]?=L (.cells cs T f)):g≠b:=λe=>by
 subst e;obtain⟨j,_,⟨es,l,i,_⟩,_⟩:=d;rw[i] at a
 cases a
theorem gU.set {b:N}(a:gU X b p){cs:Array Value}{d:N × N}(f:X.1[g]?=L (.cells cs T d))(o:N)(v:Value):gU (X.setCell ⟨g,o,I⟩ v) b p:=
 a.of_eq (((O X).setTail (A:=λi=>i≠g) (b:=g) (o:=o) (v:=v) (λj=>j rfl)).block b (λe=>a.ne f e.symm) a.lt)
variable{i:N}
theorem nH.Nf {d g:Type}{enc:g->H Value}{sl:d->Sl}{xs:H d}{l:H (H g)}(f:nH w X T k enc sl xs l){x y:d}(r:xs[i]?=L x)(s:sl y=sl x):nH w X T k enc sl (xs.set i y) l:=by
 refine⟨by rw[wm];exact f.1,λj z o a p=>?_⟩;rw[List.getElem?_set] at a
 split at a
 .rename_i e
  subst e
  split at a
  .injection a with a
   subst a;rw[s];exact f.2 i x o r p
  .cases a
 .exact f.2 j z o a p
section
variable {w X Y:World}{h:HC}{es:H EvC}{ds:H aG}{ms:H aK}{c:Cont}
theorem St.iE (s:St w X h es ds ms c){b:N}(o:w.1.size<=b)(d:gU X b p)(a:Same (λi=>i≠b) X Y):St w Y h es ds ms c:=by
 obtain⟨r,t,e⟩:=s.tg;obtain⟨u,v,f⟩:=s.t2;have g:=d.ne e;have j:=d.ne f;exact⟨a.below s.b (λi l=>by show i≠b;omega) s.b.size,a.bx s.bx g,⟨_,_,(a.block _ g s.bx.2.2).trans e⟩,a.bx s.b2 j,⟨_,_,(a.block _ j s.b2.2.2).trans f⟩,s.e.iE d a,s.d.iE d a,s.m.iE d a,s.q.iE d a,λi l=>(s.n i l).iE d a,s.be,s.bd,s.bm,s.se.iE d a,s.sd.iE d a,s.sm.iE d a⟩
theorem St.aau (s:St w X h es ds ms c){x:EvC}(f:Own X w.1.size 49 9 dx h.e.v es)(ha:h.e.a=L ⟨g,0,I⟩)(p:es[i]?=L x)(m:Int):
  St w (X.setCell ⟨g,i*9+6,I⟩ (U V m)) h (es.set i {x with v:=⟨x.v.t,m⟩}) ds ms {c with E:=c.E.set i {x.base with v:=⟨x.v.t,m⟩}}/\Own (X.setCell ⟨g,i*9+6,I⟩ (U V m)) w.1.size 49 9 dx h.e.v (es.set i {x with v:=⟨x.v.t,m⟩}):=by
 have r:h.e.v.ownBlock=L g:=by simp only[Sl.v,ha];rfl
 obtain⟨F,K,d⟩:=f.tag r;have P:=f.lt g r;have a:Same (λi=>i≠g) X (X.setCell ⟨g,i*9+6,I⟩ (U V m)):=(O X).setTail (λz=>z rfl);have t:Own (X.setCell ⟨g,i*9+6,I⟩ (U V m)) w.1.size 49 9 dx h.e.v (es.set i {x with v:=⟨x.v.t,m⟩}):=by
  have e:h.e.v= G (L ⟨g,0,I⟩) h.e.n h.e.c:=by simp only[Sl.v,ha]
  rw[e] at f ⊢;exact f.put p aj rfl
 obtain⟨Q,R,l⟩:=s.tg;have u:w.1.size≠g:=λe=>by
  rw[e,d] at l
  cases l
 obtain⟨S,W,o⟩:=s.t2;have y:w.1.size+1≠g:=λe=>by
  rw[e,d] at o
  cases o
 exact⟨⟨a.below s.b (λi Z=>by omega) s.b.size,a.bx s.bx u,⟨_,_,(a.block _ u s.bx.2.2).trans l⟩,a.bx s.b2 y,⟨_,_,(a.block _ y s.b2.2.2).trans o⟩,⟨by rw[wm];exact s.e.1,.inr t⟩,s.d.same d aj a,s.m.same d aj a,s.q.same d aj a,λj A=>(s.n j A).same d aj a,(by rw[<-s.be,List.map_set];rfl),s.bd,s.bm,(s.se.same d aj a).Nf p rfl,s.sd.same d aj a,s.sm.same d aj a⟩,t⟩
end
def iY {a d:Type}(X:World)(B:N)(T:TypeId)(k:N)(enc:d->H Value)(sl:a->Sl)(xs:H a)(m:N):Prop:=∀j x,j<m->xs[j]?=L x->∃e:H d,e.length<=2000000/\Own X B T k enc (sl x).v e
section
variable {α β:Type}{X Y:World}{B:N}{T:TypeId}{k:N}{enc:β->H Value}{sl:α->Sl}{xs:H α}{m:N}
theorem iY.zero:iY X B T k enc sl xs 0:=λ_j _x h=>absurd h (Nat.not_lt_zero _)
theorem iY.same (l:iY X B T k enc sl xs m)(a:∃d e,∃f,X.1[g]?=L (.cells d f e)/\T≠f)(o:Same (λi=>i≠g) X Y):iY Y B T k enc sl xs m:=λj x p r=>by
 obtain⟨s,t,u⟩:=l j x p r;obtain⟨d,e,f,a,v⟩:=a;exact⟨s,t,u.aQ ⟨d,e,a⟩ v o⟩
theorem iY.store (f:iY X B T k enc sl xs m){T':TypeId}{o:N}{v:Value}(a:∃d e,X.1[g]?=L (.cells d T' e))(i:T≠T'):iY (X.setCell ⟨g,o,I⟩ v) B T k enc sl xs m:=by
 obtain⟨d,e,a⟩:=a;exact f.same ⟨d,e,T',a,i⟩ ((O X).setTail (λj=>j rfl))
theorem iY.below (a:iY X B T k enc sl xs m)(d:Below X.1.size X Y):iY Y B T k enc sl xs m:=λj x e f=>by
 obtain⟨g,i,l⟩:=a j x e f;exact⟨g,i,l.below d rfl⟩
theorem iY.iE (a:iY X B T k enc sl xs m){b:N}(d:gU X b p)(e:Same (λi=>i≠b) X Y):iY Y B T k enc sl xs m:=λj x f g=>by
 obtain⟨l,o,r⟩:=a j x f g;exact⟨l,o,r.iE d e⟩
theorem iY.snoc (d:iY X B T k enc sl xs m){y:α}{l:H β}(f:l.length<=2000000)(g:Own X B T k enc (sl y).v l):iY X B T k enc sl (xs.set m y) (m+1):=λj x i a=>by
 rw[List.getElem?_set] at a
 split at a
 .rename_i e
  subst e
  split at a
  .injection a with a
   subst a;exact⟨l,f,g⟩
  .cases a
 .exact d j x ah a
theorem iY.Nf (d:iY X B T k enc sl xs m){x y:α}(g:xs[i]?=L x)(l:sl y=sl x):iY X B T k enc sl (xs.set i y) m:=λj z f a=>by
 rw[List.getElem?_set] at a
 split at a
 .rename_i e
  subst e
  split at a
  .injection a with a
   subst a;rw[l];exact d i x f g
  .cases a
 .exact d j z f a
theorem iY.all (d:iY X B T k enc sl xs xs.length):Any X B T k enc sl xs:=λx e=>by
 obtain⟨i,a⟩:=pO.1 e;exact d i x (bK.1 a).1 a
end
def qJ (E:H EvC)(k:N):H EvC:=iN E k++E.drop k
theorem P8 (E:H EvC):qJ E E.length=iN E E.length:=by unfold qJ;rw[List.drop_of_length_le (aB _),dm]
variable{E:H EvC}
theorem Gf (a:k<=E.length)(d:k<=i):(qJ E k)[i]?=E[i]?:=by
 unfold qJ;rw[pG (by rw[jb k a];exact d),jb k a,xA]
 congr 1;omega
variable{e:EvC}
theorem Gg (a:E[k]?=L e):(qJ E k).set k (pJ (E.take k) e)=qJ E (k+1):=by
 have d:=(bK.1 a).1;have f:E.drop k=e::E.drop (k+1):=by
  rw[lW d];rw[cB d] at a;injection a with a;rw[a]
 unfold qJ;rw[f,List.set_append_right _ _ (by rw[jb k ah];exact aB _),jb k ah,Nat.sub_self,kF,sO a,dw]
 rfl
theorem Ng (a:E[k]?=L e)(d:e.kind≠2):qJ E (k+1)=qJ E k:=by
 have j:=(bK.1 a).1;rw[<-Gg a];have:pJ (E.take k) e=e:=by unfold pJ;rw[au d]
 rw[this]
 apply tF
 intro i;rw[List.getElem?_set]
 split
 .rename_i f
  subst f;have g:k<(qJ E k).length:=by unfold qJ;rw[bO,jb k ah,gI];omega
  rw[av g,Gf ah (aB _),a]
 .rfl
def yD (E:H EvC)(k:N):H (Int × Int):=(E.take k).foldl jc []
theorem P9 (a:H (Int × Int))(e:EvC):(jc a e).length<=a.length+1:=by
 unfold jc
 split <;> simp
theorem Gh:∀(l:H EvC)(a:H (Int × Int)),(l.foldl jc a).length<=a.length+l.length
 |[],a=>aB _
 |e::l,a=>by
  rw[List.foldl_cons,dK];have d:=Gh l (jc a e);have f:=P9 a e;omega
theorem Sm (E:H EvC)(k:N):(yD E k).length<=k:=by
 unfold yD;have a:=Gh (E.take k) [];have d:=List.length_take_le k E;simp only[gY] at a;omega
theorem Qa (a:E[k]?=L e):yD E (k+1)=jc (yD E k) e:=by
 unfold yD;rw[ig,a];simp
theorem Nh (E:H EvC)(k:N)(x:EvC):(yD E k).count (x.t,x.obj)=ou x (E.take k):=by
 unfold yD;rw[zW x (E.take k) []];simp
attribute [local go_sem] Oper.semAt_some
def Ey (w:World)(c:Cont)(e:Ending)(X:World):Prop:=
 if rZ c.E=true then pz (.agg #[G I 0 0,G I 0 0,G I 0 0,G I 0 0,G I 0 0,G I 0 0,G I 0 0,G I 0 0]) (U V 6) w e X
 else ∃h es ds ms,∃scan:EvC->H Sn,∃dn:aG->H Int,∃mn:aK->H Int,e= .returned (.tuple #[bC h,U V 0])/\je X h c.num es ds ms scan dn mn/\Below w.1.size w X/\
  (Own X w.1.size 49 9 dx h.e.v es/\Any X w.1.size 53 3 cZ EvC.sl es)/\Own X w.1.size 57 2 dV h.d.v ds/\Any X w.1.size 3 1 aS aG.sl ds
theorem St.says {g:HC}{es:H EvC}{i:H aG}{j:H aK}{c:Cont}(s:St w X g es i j c)(a:Same (λf=>f≠w.1.size+1) X Y)(b:Below w.1.size w Y):∃l o p,je Y g c es i j l o p:=by
 obtain⟨A,E,F,K,l,o,p,e,r,t,u,v,x,y,P,Q,R⟩:=s.WI a b;obtain⟨S,W,d⟩:=s.t2;obtain⟨r,t⟩:=(s.se.same d aj a).Ee (hc:=ko) yN b;obtain⟨u,v⟩:=(s.sd.same d aj a).Ee (hc:=eP) nP b;obtain⟨x,y⟩:=(s.sm.same d aj a).Ee (hc:=eP) nP b;exact⟨_,_,_,⟨⟨(s.e.same d aj a).row (hc:=jI) b,(s.d.same d aj a).row (hc:=kr) b,(s.m.same d aj a).row (hc:=ku) b,(s.q.same d aj a).row (hc:=lQ) b,r,u,x⟩,λf z=>((s.n f z).same d aj a).row (hc:=eX) b,s.be,s.bd,s.bm,t,v,y⟩⟩
theorem DK (h:HC)(nl:N->H Bs)(es:H EvC)(A:H aG)(P:H aK)(qs:H Wa)(Φ:EvC->H Sn)(dn:aG->H Int)(mn:aK->H Int)(w:World)(hg:qD w)
  (hn:∀i,i<4->Row w 1 encStr (h.nm i).a (h.nm i).n (h.nm i).c (nl i)) (hd:Deep w h es A P qs Φ dn mn) (hB:sj nl es A P qs Φ dn mn) (hc:jd h nl es A P qs Φ dn mn=true):
  Calls Tryz.prog 8 #[bC h] w (Ey w (iA h.e.n nl es A P qs Φ dn mn)):=by
 have s:=St.start hn hd hB h.e.n (aB _);have b8:=C (oZ h nl es A P qs Φ dn mn _ (hg.below s.b) (λi hi=>(hn i hi).below s.b rfl) (hd.below s.b rfl));rw[hc] at b8;obtain⟨a,hC⟩:∃a,a=iA h.e.n nl es A P qs Φ dn mn:=⟨_,rfl⟩;have HC:=C hC;rw[<-hC] at s;rw[<-hC];have w5:=C (Ca hn hc);have w6:Hid (h.e.n<=3000):=C (by
  have h1:=hc;simp only[jd,gB,ni,aM] at h1;exact(Br h1.1.1.1.1.1.1.1).1)
 have b9:=C hd.1.len;have w7:Hid (∀e∈a.E,e.kind=2->o8 e.t/\o8 e.obj):=C (by
  rw[hC];intro e he;obtain⟨x,hx,rfl⟩:=bS.1 he;exact w5.q x (vT hx))
 have HQS:Hid (a.Q=qs):=C (by rw[hC];rfl);have Q:=C s;have k9:Hid (a.E.length=es.length):=C (by rw[hC];simp only[iA,bg,fB,b9.q,Nat.min_self]);have f:=s.bx;have t:=s.b2;have z:=f.1;have ε:=f.2.1;have γ:=f.2.2;clear hn hd s hC hB f t hg hc;obtain⟨ht,hs,ho,hp,j5,j6,χ,j7⟩:=h;go_enter Tryz.func8,Tryz.ntmps8;go_wp2_with fail;refine b8.q.mono ?_;rintro e w1 ⟨rfl,Ψ⟩;have Δ:=C (Q.q.below Ψ);rw[show rP true=0 from rfl];clear Ψ z ε γ;have f:=Δ.q.bx;have t:=Δ.q.b2;have z:=f.1;have ε:=f.2.1;have γ:=f.2.2;have κ:=t.1;have ο:=t.2.1;have μ:=t.2.2;go_wp2_with fail;refine aC 12 [(0,0),(1,0),(3,0),(4,0),(6,0),(7,0),(9,0),(10,0),(2,2),(12,1),(5,2),(8,2),(11,2),(13,2),(14,1),(15,2),(16,1),(17,2),(18,1),(19,2)] (λ_=>True) (λW'=>Bx W' w.1.size (aD ⟨ht,hs,ho,hp,j5,j6,χ,j7⟩)) ay ay (trivial) (Δ.q.bx) ?_;refine qC ?_;refine aF rfl rfl (λK d=>?_);go_simp;have j8:=C (Δ.q.drew);clear f t z ε γ κ ο μ;have u:=(j8.q.n 0 aj).row (hc:=eX) j8.q.b;have S:=(j8.q.n 0 aj).1;refine(show Calls _ _ _ _ (eO 9 1 encStr (a.nl 0) _) from by have:=lJ ht.a ht.c (a.nl 0) _ (by rw[u.len];exact u) ah;rw[show(a.nl 0).length=ht.n from u.len] at this;exact this).mono ?_;rintro en Y0 ⟨n0,d0,rfl,f0,y0⟩;have Ω:=C (j8.q.below y0);have w8:=C (f0.mono (j8.q.b.size));have acM:=C y0;have w9:=C S;refine d _ _ ⟨J,Ω.q.bx⟩ ?_;clear d K f0 y0 u S;refine qC ?_;refine aF rfl rfl (λK d=>?_);go_simp;have u:=(Ω.q.n 1 aj).row (hc:=eX) Ω.q.b;have S:=(Ω.q.n 1 aj).1;refine(show Calls _ _ _ _ (eO 9 1 encStr (a.nl 1) _) from by have:=lJ hs.a hs.c (a.nl 1) _ (by rw[u.len];exact u) ah;rw[show(a.nl 1).length=hs.n from u.len] at this;exact this).mono ?_;rintro en Y1 ⟨n1,d1,rfl,f1,Ψ⟩;have q0:=C (Ω.q.below Ψ);have aav:=C (f1.mono (Ω.q.b.size));have aaw:=C Ψ;have aax:=C S;refine d _ _ ⟨J,q0.q.bx⟩ ?_;clear d K f1 Ψ u S;refine aF rfl rfl (λK d=>?_);go_simp;have u:=(q0.q.n 2 aj).row (hc:=eX) q0.q.b;have S:=(q0.q.n 2 aj).1;refine(show Calls _ _ _ _ (eO 9 1 encStr (a.nl 2) _) from by have:=lJ ho.a ho.c (a.nl 2) _ (by rw[u.len];exact u) ah;rw[show(a.nl 2).length=ho.n from u.len] at this;exact this).mono ?_;rintro en Y2 ⟨n2,d2,rfl,f2,t⟩;have q1:=C (q0.q.below t);have aay:=C (f2.mono (q0.q.b.size));have f3:=C t;have aaz:=C S;refine d _ _ ⟨J,q1.q.bx⟩ ?_;clear d K f2 t u S;refine aF rfl rfl (λK d=>?_);go_simp;have u:=(q1.q.n 3 aj).row (hc:=eX) q1.q.b;have S:=(q1.q.n 3 aj).1;refine(show Calls _ _ _ _ (eO 9 1 encStr (a.nl 3) _) from by have:=lJ hp.a hp.c (a.nl 3) _ (by rw[u.len];exact u) ah;rw[show(a.nl 3).length=hp.n from u.len] at this;exact this).mono ?_;rintro en Y3 ⟨n3,d3,rfl,f4,y1⟩;have j9:=C (q1.q.below y1);have aaA:=C (f4.mono (q1.q.b.size));have y2:=C y1;have aaB:=C S;refine d _ _ ⟨J,j9.q.bx⟩ ?_;clear d K f4 y1 u S;have f:=j9.q.bx;have z:=f.1;have ε:=f.2.1;have γ:=f.2.2;refine aW rfl rfl rfl (λK d=>?_);go_simp;refine d _ _ J ?_;clear d K;refine qC ?_;refine aW rfl rfl rfl (λK d=>?_);go_simp;refine d _ _ J ?_;clear d K;refine qC ?_;refine aW rfl rfl rfl (λK d=>?_);go_simp;refine d _ _ J ?_;clear d K;refine qC ?_;refine aW rfl rfl rfl (λK d=>?_);go_simp;refine d _ _ J ?_;clear d K;refine aO ?_;have f5:gX w Y3 9 1 encStr ⟨n0,(a.nl 0).length,d0⟩ (a.nl 0):=⟨w9.q,.inr (((w8.q.below aaw.q rfl).below f3.q rfl).below y2.q rfl)⟩;have f6:gX w Y3 9 1 encStr ⟨n1,(a.nl 1).length,d1⟩ (a.nl 1):=⟨aax.q,.inr ((aav.q.below f3.q rfl).below y2.q rfl)⟩;have f7:gX w Y3 9 1 encStr ⟨n2,(a.nl 2).length,d2⟩ (a.nl 2):=⟨aaz.q,.inr (aay.q.below y2.q rfl)⟩;have f8:gX w Y3 9 1 encStr ⟨n3,(a.nl 3).length,d3⟩ (a.nl 3):=⟨aaB.q,.inr aaA.q⟩;have y3:=C (j9.q.tg);have y4:=C (sameBox j9.q 0 (Sl.v ⟨n0,(a.nl 0).length,d0⟩));have v6:=j9.q.Mf ⟨n0,(a.nl 0).length,d0⟩ f5;have f9:=C (v6.tg);have g0:=C (sameBox v6 1 (Sl.v ⟨n1,(a.nl 1).length,d1⟩));have v7:=v6.Mg ⟨n1,(a.nl 1).length,d1⟩ (f6.same y3.q.choose_spec.choose_spec aj y4.q);have HT2:=C (v7.tg);have aaC:=C (sameBox v7 2 (Sl.v ⟨n2,(a.nl 2).length,d2⟩));have ν:=v7.Mh ⟨n2,(a.nl 2).length,d2⟩ ((f7.same y3.q.choose_spec.choose_spec aj y4.q).same f9.q.choose_spec.choose_spec aj g0.q);have g5:=ν.Mi ⟨n3,(a.nl 3).length,d3⟩ (((f8.same y3.q.choose_spec.choose_spec aj y4.q).same f9.q.choose_spec.choose_spec aj g0.q).same HT2.q.choose_spec.choose_spec aj aaC.q);have π:=C g5;clear v6 v7 ν g5 f5 f6 f7 f8 f z ε γ;have f:=π.q.bx;have t:=π.q.b2;have z:=f.1;have ε:=f.2.1;have γ:=f.2.2;have κ:=t.1;have ο:=t.2.1;have μ:=t.2.2;go_wp2_with fail;clear f t z ε γ κ ο μ;refine aC 12 [(0,0),(1,0),(3,0),(4,0),(6,0),(7,0),(9,0),(10,0),(2,2),(12,1),(5,2),(8,2),(11,2),(13,2),(14,1),(15,2),(16,1),(17,2),(18,1),(19,2)] (λ_=>True) (λW'=>Bx W' w.1.size (aD ⟨⟨n0,(a.nl 0).length,d0⟩,⟨n1,(a.nl 1).length,d1⟩,⟨n2,(a.nl 2).length,d2⟩,⟨n3,(a.nl 3).length,d3⟩,j5,j6,χ,j7⟩)) ay ay (trivial) (π.q.bx) ?_;refine qC ?_;refine aF rfl rfl (λK d=>?_);go_simp;have z0:=C (π.q.drew);have u:=z0.q.e.row (hc:=jI) z0.q.b;have S:=z0.q.e.1;refine(show Calls _ _ _ _ (eO 49 9 dx (es) _) from by have:=EL j5.a j5.c (es) _ (by rw[u.len];exact u) ah;rw[show(es).length=j5.n from u.len] at this;exact this).mono ?_;rintro en Z0 ⟨ae,ce,rfl,g6,y5⟩;have q2:=C (z0.q.below y5);have g7:=C (g6.mono (z0.q.b.size));have acN:=C y5;have aaD:=C S;refine d _ _ ⟨J,q2.q.bx⟩ ?_;clear d K g6 y5 u S;refine qC ?_;refine aF rfl rfl (λK d=>?_);go_simp;have u:=q2.q.d.row (hc:=kr) q2.q.b;have S:=q2.q.d.1;refine(show Calls _ _ _ _ (eO 57 2 dV (A) _) from by have:=EM j6.a j6.c (A) _ (by rw[u.len];exact u) ah;rw[show(A).length=j6.n from u.len] at this;exact this).mono ?_;rintro en Z1 ⟨ad,cd,rfl,g8,y6⟩;have q3:=C (q2.q.below y6);have g9:=C (g8.mono (q2.q.b.size));have m0:=C y6;have aaE:=C S;refine d _ _ ⟨J,q3.q.bx⟩ ?_;clear d K g8 y6 u S;refine aF rfl rfl (λK d=>?_);go_simp;have u:=q3.q.m.row (hc:=ku) q3.q.b;have S:=q3.q.m.1;refine(show Calls _ _ _ _ (eO 60 4 eB (P) _) from by have:=EN χ.a χ.c (P) _ (by rw[u.len];exact u) ah;rw[show(P).length=χ.n from u.len] at this;exact this).mono ?_;rintro en Z2 ⟨am,cm,rfl,m1,y7⟩;have q4:=C (q3.q.below y7);have m2:=C (m1.mono (q3.q.b.size));have v8:=C y7;have aaF:=C S;refine d _ _ ⟨J,q4.q.bx⟩ ?_;clear d K m1 y7 u S;refine aF rfl rfl (λK d=>?_);go_simp;have u:=q4.q.q.row (hc:=lQ) q4.q.b;have S:=q4.q.q.1;refine(show Calls _ _ _ _ (eO 63 2 fE (a.Q) _) from by have:=EO j7.a j7.c (a.Q) _ (by rw[u.len];exact u) ah;rw[show(a.Q).length=j7.n from u.len] at this;exact this).mono ?_;rintro en Z3 ⟨aq,cq,rfl,m3,y8⟩;have Θ:=C (q4.q.below y8);have aaG:=C (m3.mono (q4.q.b.size));have q5:=C y8;have aaH:=C S;refine d _ _ ⟨J,Θ.q.bx⟩ ?_;clear d K m3 y8 u S;have f:=Θ.q.bx;have z:=f.1;have ε:=f.2.1;have γ:=f.2.2;refine aW rfl rfl rfl (λK d=>?_);go_simp;refine d _ _ J ?_;clear d K;refine qC ?_;refine aW rfl rfl rfl (λK d=>?_);go_simp;refine d _ _ J ?_;clear d K;refine qC ?_;refine aW rfl rfl rfl (λK d=>?_);go_simp;refine d _ _ J ?_;clear d K;refine qC ?_;refine aW rfl rfl rfl (λK d=>?_);go_simp;refine d _ _ J ?_;clear d K;refine aO ?_;have q6:=C Θ.q.tg;have q7:=C (sameBox Θ.q 4 (Sl.v ⟨ae,(es).length,ce⟩));have q8:=Θ.q.Rc ⟨ae,(es).length,ce⟩ es ⟨aaD.q,.inr (((g7.q.below m0.q rfl).below v8.q rfl).below q5.q rfl)⟩ Θ.q.be Θ.q.se;have z1:=C q8.tg;have z2:=C (sameBox q8 5 (Sl.v ⟨ad,(A).length,cd⟩));have q9:=q8.Rf ⟨ad,(A).length,cd⟩ A (gX.same ⟨aaE.q,.inr ((g9.q.below v8.q rfl).below q5.q rfl)⟩ q6.q.choose_spec.choose_spec aj q7.q) q8.bd q8.sd;have v9:=C q9.tg;have k0:=C (sameBox q9 6 (Sl.v ⟨am,(P).length,cm⟩));have k1:=q9.Rh ⟨am,(P).length,cm⟩ P (gX.same (gX.same ⟨aaF.q,.inr (m2.q.below q5.q rfl)⟩ q6.q.choose_spec.choose_spec aj q7.q) z1.q.choose_spec.choose_spec aj z2.q) q9.bm q9.sm;have y9:=C k1.tg;have x1:=C (sameBox k1 7 (Sl.v ⟨aq,(a.Q).length,cq⟩));have m4:=k1.Ri ⟨aq,(a.Q).length,cq⟩ (gX.same (gX.same (gX.same ⟨aaH.q,.inr aaG.q⟩ q6.q.choose_spec.choose_spec aj q7.q) z1.q.choose_spec.choose_spec aj z2.q) v9.q.choose_spec.choose_spec aj k0.q);have HOe:=C (((((((g7.q.below m0.q rfl).below v8.q rfl).below q5.q rfl).aQ q6.q aj q7.q).aQ z1.q aj z2.q).aQ v9.q aj k0.q).aQ y9.q aj x1.q);have HOd:=C ((((((g9.q.below v8.q rfl).below q5.q rfl).aQ q6.q aj q7.q).aQ z1.q aj z2.q).aQ v9.q aj k0.q).aQ y9.q aj x1.q);have HOm:=C (((((m2.q.below q5.q rfl).aQ q6.q aj q7.q).aQ z1.q aj z2.q).aQ v9.q aj k0.q).aQ y9.q aj x1.q);have x2:=C (m4.cast (c':=a) rfl);clear q8 q9 k1 m4 f z ε γ;have f:=x2.q.bx;have t:=x2.q.b2;have z:=f.1;have ε:=f.2.1;have γ:=f.2.2;have κ:=t.1;have ο:=t.2.1;have μ:=t.2.2;go_wp2_with fail;clear f t z ε γ κ ο μ
 go_loopw [52] (λi wr=>∃(k:N)(xd:H aG),k<=A.length/\i= U V k/\St w wr ⟨⟨n0,(a.nl 0).length,d0⟩,⟨n1,(a.nl 1).length,d1⟩,⟨n2,(a.nl 2).length,d2⟩,⟨n3,(a.nl 3).length,d3⟩,⟨ae,(es).length,ce⟩,⟨ad,(A).length,cd⟩,⟨am,(P).length,cm⟩,⟨aq,(a.Q).length,cq⟩⟩ es xd P a/\Own wr w.1.size 57 2 dV (G ad A.length cd) xd/\Own wr w.1.size 49 9 dx (Sl.v ⟨ae,(es).length,ce⟩) es/\Own wr w.1.size 60 4 eB (Sl.v ⟨am,(P).length,cm⟩) P/\iY wr w.1.size 3 1 aS aG.sl xd k) (λi _=>A.length - (RowKit.intOf i).toNat)
 case atStart=>exact⟨0,A,bn _,rfl,x2.q,HOd.q,HOe.q,HOm.q,iY.zero⟩
 case round=>
  obtain⟨k,xd,hk,rfl,s,δ,z3,z4,z5⟩:=hrel;have m5:=C z5;clear z5;have m6:=C z3;have m7:=C z4;clear z3 z4;by_cases m8:k<A.length
  .have z6:=s.d.1;have z7:=δ.len
   obtain⟨g,m9,rfl,ρ,p0,p1,p2,σ⟩:=δ.open_ (hc:=kr) ah;obtain⟨x,hx⟩:∃x,xd[k]?=L x:=⟨_,cB ah⟩;have ψ:k<a.SD.length:=by rw[<-s.sd.1];omega
   obtain⟨r,hL⟩:∃r,a.SD[k]?=L r:=⟨_,cB ψ⟩;have θ:=s.sd.2 k x r hx hL;have τ:=θ.row (hc:=eP) s.b;have z:=(ρ.1 (k*2+1)).trans (σ k x 1 _ hx rfl);have z8:Hid (∀W,Below wr.1.size wr W->Calls Tryz.prog 19 #[G x.sa x.sn x.sc] W (eO 3 1 aS r W)):=by
    refine C (λW hW=>?_);have hr:Row W 1 aS x.sa x.sn x.sc r:=τ.below hW rfl;rw[show x.sn=r.length from τ.len.symm] at hr ⊢;exact uz x.sa x.sc r W hr (by have:=θ.1;omega)
   have Q:=C s;have ζ:=C δ;have j0:=C ρ;have HX:=C hx;have HL:=C hL;have Ξ:=C θ.1;have z9:=C z;have x3:=C (σ k x 1 _ hx rfl);have p3:k<2000000:=by omega
   have f:=s.bx;have v0:=f.1;have v1:=f.2.2;clear s δ ρ hx hL θ τ z σ ψ f z6 z7;go_wp2_with fail;clear v0 v1;refine aC 10 [(0,0),(1,0),(2,0),(3,0),(4,0),(5,0),(6,0),(7,0),(8,0),(9,2),(10,1),(11,1),(12,2)] (λ_=>True) (λW'=>Bx W' w.1.size #[G n0 (a.nl 0).length d0,G n1 (a.nl 1).length d1,G n2 (a.nl 2).length d2,G n3 (a.nl 3).length d3,G ae (es).length ce,G (L ⟨g,0,I⟩) (A).length cd,G am (P).length cm,G aq (a.Q).length cq]/\W'.cell? ⟨g,k*2+1,I⟩=L (G x.sa x.sn x.sc)) ay ay (trivial) (⟨Q.q.bx,z9.q⟩) ?_;refine qC ?_;refine aF rfl rfl (λK d=>?_);go_simp;refine(z8.q _ (Below.refl _ _).drew).mono ?_;rintro en Y ⟨R,c',rfl,ω,υ⟩;have j1:=C ω;have F:=C (show Below wr.1.size wr Y from(Below.refl _ _).drew.trans υ);refine d _ _ ⟨J,Q.q.bx.keep F.q,bq F.q rfl z9.q⟩ ?_;clear d K ω υ;have ι:=j0.q.keep F.q;have v2:=ι.2.1;have v3:=ι.2.2;have v4:Y.cell? ⟨g,k*2+1,I⟩=L (G x.sa x.sn x.sc):=(ι.1 _).trans x3.q;clear ι;refine qC ?_;refine aW rfl rfl rfl (λK d=>?_);go_simp;refine d _ _ J ?_;clear d K;refine aO ?_;have η:=(Q.q.below F.q).Iy (i:=k) (ζ.q.below F.q rfl) rfl HX.q HL.q ⟨R,r.length,c'⟩ ⟨Ξ.q,.inr (j1.q.mono (by have:=Q.q.b.size;simpa using this))⟩;have x4:=C η.1;have j2:=C η.2;have x5:=C ((m6.q.below F.q rfl).aQ ((ζ.q.below F.q rfl).tag rfl) aj ((O Y).setTail (b:=g) (o:=k*2+1) (v:= G R r.length c') (λhn=>hn rfl)));have x6:=C ((m7.q.below F.q rfl).aQ ((ζ.q.below F.q rfl).tag rfl) aj ((O Y).setTail (b:=g) (o:=k*2+1) (v:= G R r.length c') (λhn=>hn rfl)));have x7:=C (((m5.q.below F.q).store (o:=k*2+1) (v:= G R r.length c') ((ζ.q.below F.q rfl).tag rfl) aj).snoc (y:=x.wi ⟨R,r.length,c'⟩) Ξ.q ((j1.q.mono (by have:=Q.q.b.size;simpa using this)).aQ ((ζ.q.below F.q rfl).tag rfl) aj ((O Y).setTail (b:=g) (o:=k*2+1) (v:= G R r.length c') (λhn=>hn rfl))));clear η v2 v3 v4;go_wp2_with fail;go_roundw
   case rel=>exact⟨k+1,_,by omega,by go_num,x4.q,j2.q,x5.q,x6.q,x7.q⟩
   case measure=>simp[RowKit.intOf];omega
  .obtain rfl:k=A.length:=by omega
   have x8:=C s;have aaI:=C δ;clear s δ;have f:=x8.q.bx;have t:=x8.q.b2;have z:=f.1;have ε:=f.2.1;have γ:=f.2.2;have κ:=t.1;have ο:=t.2.1;have μ:=t.2.2;go_wp2_with fail;clear f t z ε γ κ ο μ
   go_loopw [71] (λi wr=>∃(k:N)(xm:H aK),k<=P.length/\i= U V k/\St w wr ⟨⟨n0,(a.nl 0).length,d0⟩,⟨n1,(a.nl 1).length,d1⟩,⟨n2,(a.nl 2).length,d2⟩,⟨n3,(a.nl 3).length,d3⟩,⟨ae,(es).length,ce⟩,⟨ad,(A).length,cd⟩,⟨am,(P).length,cm⟩,⟨aq,(a.Q).length,cq⟩⟩ es xd xm a/\Own wr w.1.size 60 4 eB (G am P.length cm) xm/\Own wr w.1.size 49 9 dx (Sl.v ⟨ae,(es).length,ce⟩) es/\Own wr w.1.size 57 2 dV (Sl.v ⟨ad,(A).length,cd⟩) xd/\iY wr w.1.size 3 1 aS aG.sl xd A.length) (λi _=>P.length - (RowKit.intOf i).toNat)
   case atStart=>exact⟨0,P,bn _,rfl,x8.q,m7.q,m6.q,aaI.q,m5.q⟩
   case round=>
    obtain⟨k,xm,hk,rfl,s,δ,z3,z4,z5⟩:=hrel;have p4:=C z5;clear z5;have p5:=C z3;have p6:=C z4;clear z3 z4;by_cases m8:k<P.length
    .have z6:=s.m.1;have z7:=δ.len
     obtain⟨g,m9,rfl,ρ,p0,p1,p2,σ⟩:=δ.open_ (hc:=ku) ah;obtain⟨x,hx⟩:∃x,xm[k]?=L x:=⟨_,cB ah⟩;have ψ:k<a.SM.length:=by rw[<-s.sm.1];omega
     obtain⟨r,hL⟩:∃r,a.SM[k]?=L r:=⟨_,cB ψ⟩;have θ:=s.sm.2 k x r hx hL;have τ:=θ.row (hc:=eP) s.b;have z:=(ρ.1 (k*4+3)).trans (σ k x 3 _ hx rfl);have z8:Hid (∀W,Below wr.1.size wr W->Calls Tryz.prog 19 #[G x.sa x.sn x.sc] W (eO 3 1 aS r W)):=by
      refine C (λW hW=>?_);have hr:Row W 1 aS x.sa x.sn x.sc r:=τ.below hW rfl;rw[show x.sn=r.length from τ.len.symm] at hr ⊢;exact uz x.sa x.sc r W hr (by have:=θ.1;omega)
     have Q:=C s;have ζ:=C δ;have j0:=C ρ;have HX:=C hx;have HL:=C hL;have Ξ:=C θ.1;have z9:=C z;have x3:=C (σ k x 3 _ hx rfl);have p3:k<2000000:=by omega
     have f:=s.bx;have v0:=f.1;have v1:=f.2.2;clear s δ ρ hx hL θ τ z σ ψ f z6 z7;go_wp2_with fail;clear v0 v1;refine aC 10 [(0,0),(1,0),(2,0),(3,0),(4,0),(5,0),(6,0),(7,0),(8,0),(9,2),(10,1),(11,1),(12,2)] (λ_=>True) (λW'=>Bx W' w.1.size #[G n0 (a.nl 0).length d0,G n1 (a.nl 1).length d1,G n2 (a.nl 2).length d2,G n3 (a.nl 3).length d3,G ae (es).length ce,G ad (A).length cd,G (L ⟨g,0,I⟩) (P).length cm,G aq (a.Q).length cq]/\W'.cell? ⟨g,k*4+3,I⟩=L (G x.sa x.sn x.sc)) ay ay (trivial) (⟨Q.q.bx,z9.q⟩) ?_;refine qC ?_;refine aF rfl rfl (λK d=>?_);go_simp;refine(z8.q _ (Below.refl _ _).drew).mono ?_;rintro en Y ⟨R,c',rfl,ω,υ⟩;have j1:=C ω;have F:=C (show Below wr.1.size wr Y from(Below.refl _ _).drew.trans υ);refine d _ _ ⟨J,Q.q.bx.keep F.q,bq F.q rfl z9.q⟩ ?_;clear d K ω υ;have ι:=j0.q.keep F.q;have v2:=ι.2.1;have v3:=ι.2.2;have v4:Y.cell? ⟨g,k*4+3,I⟩=L (G x.sa x.sn x.sc):=(ι.1 _).trans x3.q;clear ι;refine qC ?_;refine aW rfl rfl rfl (λK d=>?_);go_simp;refine d _ _ J ?_;clear d K;refine aO ?_;have η:=(Q.q.below F.q).Iz (i:=k) (ζ.q.below F.q rfl) rfl HX.q HL.q ⟨R,r.length,c'⟩ ⟨Ξ.q,.inr (j1.q.mono (by have:=Q.q.b.size;simpa using this))⟩;have x4:=C η.1;have j2:=C η.2;have x5:=C ((p5.q.below F.q rfl).aQ ((ζ.q.below F.q rfl).tag rfl) aj ((O Y).setTail (b:=g) (o:=k*4+3) (v:= G R r.length c') (λhn=>hn rfl)));have x6:=C ((p6.q.below F.q rfl).aQ ((ζ.q.below F.q rfl).tag rfl) aj ((O Y).setTail (b:=g) (o:=k*4+3) (v:= G R r.length c') (λhn=>hn rfl)));have x7:=C ((p4.q.below F.q).store (o:=k*4+3) (v:= G R r.length c') ((ζ.q.below F.q rfl).tag rfl) aj);clear η v2 v3 v4;go_wp2_with fail;go_roundw
     case rel=>exact⟨k+1,_,by omega,by go_num,x4.q,j2.q,x5.q,x6.q,x7.q⟩
     case measure=>simp[RowKit.intOf];omega
    .obtain rfl:k=P.length:=by omega
     have k2:=C s;have aaJ:=C δ;clear s δ;have f:=k2.q.bx;have t:=k2.q.b2;have z:=f.1;have ε:=f.2.1;have γ:=f.2.2;have κ:=t.1;have ο:=t.2.1;have μ:=t.2.2;go_wp2_with fail;clear f t z ε γ κ ο μ;refine(Cb _).mono ?_;rintro en_ wc ⟨cf,bf,rfl,v5,p7,j3,p8⟩;have x9:=C (k2.q.below j3);have HM8:=C (aaJ.q.below j3 rfl);have HE8:=C (p5.q.below j3 rfl);have HD8:=C (p6.q.below j3 rfl);have HCF:=C v5;have HMF:=C p7;have HND:=C (p4.q.below j3);have HLC:Hid (w.1.size<=bf):=C (bI k2.q.b.size p8);clear j3 v5 p7 p8;have z:∀i,wc.cell? ⟨w.1.size,i,I⟩=(#[G n0 (a.nl 0).length d0,G n1 (a.nl 1).length d1,G n2 (a.nl 2).length d2,G n3 (a.nl 3).length d3,G ae (es).length ce,G ad (A).length cd,G am (P).length cm,G aq (a.Q).length cq]:Array Value)[i]?:=x9.q.bx.1;have γ:=x9.q.bx.2.2;go_wp2_with fail;clear z γ
     go_loopw [91] (λi wr=>∃(k:N)(xe:H EvC),k<=es.length/\i= U V k/\St w wr ⟨⟨n0,(a.nl 0).length,d0⟩,⟨n1,(a.nl 1).length,d1⟩,⟨n2,(a.nl 2).length,d2⟩,⟨n3,(a.nl 3).length,d3⟩,⟨ae,(es).length,ce⟩,⟨ad,(A).length,cd⟩,⟨am,(P).length,cm⟩,⟨aq,(a.Q).length,cq⟩⟩ xe xd xm {a with E:=qJ a.E k}/\Own wr w.1.size 49 9 dx (G ae es.length ce) xe/\Own wr w.1.size 57 2 dV (Sl.v ⟨ad,(A).length,cd⟩) xd/\iY wr w.1.size 3 1 aS aG.sl xd A.length/\gU wr bf (yD a.E k)/\wr.cell? ⟨cf,0,I⟩=L (.map (L bf))/\iY wr w.1.size 53 3 cZ EvC.sl xe k/\(∀e∈iN a.E k,e.kind=2->e.v.k<=999)) (λi _=>es.length - (RowKit.intOf i).toNat)
     case atStart=>exact⟨0,es,bn _,rfl,x9.q,HE8.q,HD8.q,HND.q,HMF.q,HCF.q,iY.zero,λe he=>by simp[iN] at he⟩
     case round=>
      obtain⟨k,xe,hk,rfl,s,δ,p9,r0,r1,v5,r2,r3⟩:=hrel;have b0:=C p9;have r4:=C r0;have r5:=C r1;have r6:=C v5;have r7:=C r2;have b1:=C r3;clear p9 r0 r1 v5 r2 r3;by_cases m8:k<es.length
      .have z6:=s.e.1;have z7:=δ.len
       obtain⟨g,m9,rfl,ρ,p0,p1,p2,σ⟩:=δ.open_ (hc:=jI) ah;obtain⟨x,hx⟩:∃x,xe[k]?=L x:=⟨_,cB ah⟩;have ψ:k<a.SE.length:=by rw[<-show xe.length=a.SE.length from s.se.1];omega
       obtain⟨r,hL⟩:∃r,a.SE[k]?=L r:=⟨_,cB ψ⟩;have θ:=s.se.2 k x r hx hL;have τ:=θ.row (hc:=ko) s.b;have r8:=k9.q;have r9:a.E[k]?=L x.base:=by have h1:=bJ (λl=>l[k]?) (show xe.map EvC.base=qJ a.E k from s.be);simp only[nS,hx,Option.map_some] at h1;exact(h1.trans (Gf ah (aB _))).symm
       have z:=λj v hv=>(ρ.1 (k*9+j)).trans (σ k x j v hx hv)
       have z8:Hid (∀W,Below wr.1.size wr W->Calls Tryz.prog 15 #[G x.sa x.sn x.sc] W (eO 53 3 cZ r W)):=by
        refine C (λW hW=>?_);have hr:Row W 3 cZ x.sa x.sn x.sc r:=τ.below hW rfl;rw[show x.sn=r.length from τ.len.symm] at hr ⊢;exact EP x.sa x.sc r W hr (by have:=θ.1;omega)
       have Q:=C s;have ζ:=C δ;have j0:=C ρ;have HX:=C hx;have HL:=C hL;have Ξ:=C θ.1;have j4:=C r9;have HC8:=C (z 8 _ rfl);have acO:=C r8;have p3:k<2000000:=by omega
       have e0:=z 0 _ rfl;have e1:=z 1 _ rfl;have e2:=z 2 _ rfl;have e3:=z 3 _ rfl;have e4:=z 4 _ rfl;have e5:=z 5 _ rfl;have e6:=z 6 _ rfl;have e7:=z 7 _ rfl;have e8:=z 8 _ rfl;simp only[dB] at e0;have f:=s.bx;have v0:=f.1;have v1:=f.2.2;have u0:=C σ;clear s δ ρ hx hL θ τ σ ψ f z6 z7 r9 r8;have u1:Hid (cf≠g):=C (λe=>by
        subst e;have h1:=r6.q;obtain⟨x0,hx0⟩:∃x0,xe[0]?=L x0:=⟨_,cB ah⟩;have h2:=(j0.q.1 0).trans (by have:=u0.q 0 x0 0 _ hx0 rfl;simpa using this);rw[h1] at h2
        cases h2)
       have HGW:Hid (g<wr.1.size):=C (ζ.q.lt g rfl).2;have u2:=C (Bx.new wr (aR x) 49);clear z;go_wp2_with fail;clear v0 v1 e0 e1 e2 e3 e4 e5 e6 e7 e8;refine aC 6 [(0,0),(1,0),(2,0),(3,0),(4,0),(5,2),(6,1),(7,1),(8,2)] (λ_=>True) (λW'=>Bx W' w.1.size #[G n0 (a.nl 0).length d0,G n1 (a.nl 1).length d1,G n2 (a.nl 2).length d2,G n3 (a.nl 3).length d3,G (L ⟨g,0,I⟩) (es).length ce,G ad (A).length cd,G am (P).length cm,G aq (a.Q).length cq]/\Bx W' wr.1.size #[U V x.kind,U V x.t,U V x.eH,U V x.lvl,U V x.obj,U V x.v.t,U V x.v.k,U V x.pred,G x.sa x.sn x.sc]) ay ay (trivial) (⟨(Q.q.bx.alloc _).drew,u2.q.drew⟩) ?_;refine qC ?_;refine aF rfl rfl (λK d=>?_);go_simp;refine(z8.q _ (aA (Below.refl _ _) _).drew).mono ?_;rintro en Y ⟨R,c',rfl,ω,υ⟩;have j1:=C ω;have F:=C (show Below wr.1.size wr Y from(aA (Below.refl _ _) _).drew.trans (υ.mono ak));have u3:=C (u2.q.drew.keep υ);refine d _ _ ⟨J,Q.q.bx.keep F.q,u3.q⟩ ?_;clear d K ω υ;have ι:=j0.q.keep F.q;have v2:=ι.2.1;have v3:=ι.2.2;have v4:Y.cell? ⟨g,k*9+8,I⟩=L (G x.sa x.sn x.sc):=(ι.1 _).trans (by have:=u0.q k x 8 _ HX.q rfl;exact this);clear ι;refine qC ?_;refine aW rfl rfl rfl (λK d=>?_);go_simp;refine d _ _ J ?_;clear d K;refine aO ?_;have b2:=j1.q.mono (B':=w.1.size) (by have:=Q.q.b.size;simp;omega);have ξ:=(ζ.q.below F.q rfl).tag (g:=g) rfl;have η:=(Q.q.below F.q).Iw (i:=k) (ζ.q.below F.q rfl) rfl HX.q HL.q ⟨R,r.length,c'⟩ ⟨Ξ.q,.inr b2⟩;have Δ:=C η.1;have j2:=C η.2;have u4:=C ((b0.q.below F.q rfl).aQ ξ aj (Dl Y g (k*9+8) (G R r.length c')));have u5:=C ((r4.q.below F.q).store (o:=k*9+8) (v:= G R r.length c') ξ aj);have u6:=C (((r7.q.below F.q).store (o:=k*9+8) (v:= G R r.length c') ξ aj).snoc (y:=x.wi ⟨R,r.length,c'⟩) Ξ.q (b2.aQ ξ aj (Dl Y g (k*9+8) (G R r.length c'))));have Γ:=C ((r5.q.of_eq (F.q.block bf r5.q.lt)).set ξ.choose_spec.choose_spec (k*9+8) (G R r.length c'));have k3:=C (Same.cell_ (Dl Y g (k*9+8) (G R r.length c')) (bq F.q rfl r6.q) u1.q);have b3:=C (u3.q.other (p:=⟨g,k*9+8,I⟩) (by show wr.1.size≠g;have:=HGW.q;omega) (G R r.length c'));have u7:=C (sO j4.q);have u8:=C (Qa j4.q);clear η v2 v3 v4 ξ b2;have z:=b3.q.1;have ε:=b3.q.2.1;have γ:=b3.q.2.2
       cases u9:(x.kind==2)
       .have φ:Hid (x.base.kind≠2):=C (by show x.kind≠2;simpa using u9)
        have k4:Hid (pJ (a.E.take k) x.base=x.base):=C (by unfold pJ;rw[au φ.q]);go_wp2_with fail;go_roundw
        case rel=>
         refine⟨k+1,_,by omega,by go_num,by rw[Ng j4.q φ.q];exact Δ.q,j2.q,u4.q,u5.q,by rw[u8.q];unfold jc;rw[au φ.q];exact Γ.q,k3.q,u6.q,?_⟩;intro y hy h2;rw[u7.q,k4.q] at hy;rcases cu.1 hy with hy|hy
         .exact b1.q y hy h2
         .obtain rfl:y=x.base:=by simpa using hy
          exact absurd h2 φ.q
        case measure=>simp[RowKit.intOf];omega
       .have φ:Hid (x.base.kind=2):=C (by show x.kind=2;simpa using u9)
        obtain⟨m,hm⟩:∃m:Int,m=1+((ou x.base (a.E.take k):N):Int):=⟨_,rfl⟩;have χ:(((yD a.E k).count (x.t,x.obj):N):Int)+1=m:=by rw[Nh,hm];show((ou x.base (a.E.take k):N):Int)+1=_;omega
        have b4:=w7.q x.base (dA j4.q) φ.q;have w0:=C (Fv x cf bf (yD a.E k) _ k3.q Γ.q b4.1 b4.2 (by have:=Sm a.E k;have:=w6.q;have h9:=b9.q;omega));rw[χ] at w0;have k4:Hid (pJ (a.E.take k) x.base={x.base with v:=⟨x.v.t,m⟩}):=C (by unfold pJ;rw[av φ.q,hm];rfl);have HOV:Hid (999<m->rZ a.E=true):=C (λh9=>Sk j4.q φ.q (by rw[<-hm];exact h9));have eg:=Hw;clear hm χ b4;go_wp2_with fail;clear z ε γ;refine w0.q.mono ?_;rintro en2 Y2 ⟨rfl,ν,w2⟩;have π:=C (Δ.q.iE HLC.q Γ.q ν);have b5:=C (j2.q.iE Γ.q ν);have aaK:=C (u4.q.iE Γ.q ν);have aaL:=C (u5.q.iE Γ.q ν);have aaM:=C (u6.q.iE Γ.q ν);have aaN:=C (ν.cell_ k3.q (Γ.q.noCell k3.q));have aaO:=C w2;clear ν w2;have b6:Hid ((xe.set k (x.wi ⟨R,r.length,c'⟩))[k]?=L (x.wi ⟨R,r.length,c'⟩)):=C (by rw[List.getElem?_set_self (bK.1 HX.q).1]);by_cases hgt:999<m
        .have HQ:=C (HOV.q hgt)
         have t:=π.q.b2;have κ:=t.1;have ο:=t.2.1;have μ:=t.2.2;clear t;go_wp2_with fail;refine bodyPost_ret (v:= .tuple #[.agg #[G I 0 0,G I 0 0,G I 0 0,G I 0 0,G I 0 0,G I 0 0,G I 0 0,G I 0 0],U V 6]) (by simp[results,Tryz.results8,go_sem,κ]) rfl ?_;unfold Ey;rw[av HQ.q];refine⟨rfl,?_⟩;have hs:∀Z,Same (λg=>g≠w.1.size+1) Y2 Z->Below w.1.size w Z:=λZ hZ=>hZ.below π.q.b (λg hg=>by show g≠w.1.size+1;omega) π.q.b.size
         refine hs _ ?_
         repeat(first|(with_reducible exact O _)|(refine Same.setTail ?_ (λhn=>hn rfl)))
        .obtain⟨g2,acP,e2,k5, -, -, -,w3⟩:=b5.q.open_ (hc:=jI) (n:=es.length) ah
         cases e2
         have hcg:Y2.cell? ⟨g,k*9+6,I⟩=L (U V x.v.k):=(k5.1 _).trans (w3 k _ 6 _ b6.q rfl);have hfg:=k5.2.1;have hlg:=k5.2.2;clear k5 w3;have hc1:∀i,Y2.cell? ⟨w.1.size,i,I⟩=(#[G n0 (a.nl 0).length d0,G n1 (a.nl 1).length d1,G n2 (a.nl 2).length d2,G n3 (a.nl 3).length d3,G (L ⟨g,0,I⟩) (es).length ce,G ad (A).length cd,G am (P).length cm,G aq (a.Q).length cq]:Array Value)[i]?:=π.q.bx.1;have hl1:=π.q.bx.2.2;go_wp2_with fail;clear hcg hfg hlg hc1 hl1;have ξ:=b5.q.tag (g:=g) rfl;have η:=π.q.aau (i:=k) b5.q rfl b6.q m;have HS3:=C η.1;have HO3:=C η.2;have b7:Same (λi=>i≠g) Y2 (Y2.setCell ⟨g,k*9+6,I⟩ (U V m)):=(O Y2).setTail (λhn=>hn rfl);have aaP:=C (aaK.q.aQ ξ aj b7);have aaQ:=C (aaL.q.store (o:=k*9+6) (v:= U V m) ξ aj);have aaR:=C ((aaM.q.store (o:=k*9+6) (v:= U V m) ξ aj).Nf (y:={x.wi ⟨R,r.length,c'⟩ with v:=⟨x.v.t,m⟩}) b6.q rfl);have aaS:=C (aaO.q.set ξ.choose_spec.choose_spec (k*9+6) (U V m));have aaT:=C (b7.cell_ aaN.q u1.q);have HNT:=C (Gg j4.q);clear η ξ b7;go_roundw
         case rel=>
          refine⟨k+1,_,by omega,by go_num,by rw[<-HNT.q,k4.q];exact HS3.q,HO3.q,aaP.q,aaQ.q,by rw[u8.q];unfold jc;rw[av φ.q];exact aaS.q,aaT.q,aaR.q,?_⟩;intro y hy h2;rw[u7.q,k4.q] at hy;rcases cu.1 hy with hy|hy
          .exact b1.q y hy h2
          .obtain rfl:y={x.base with v:=⟨x.v.t,m⟩}:=by simpa using hy
           show m<=999;omega
         case measure=>simp[RowKit.intOf];omega
      .obtain rfl:k=es.length:=by omega
       have HQ:Hid (rZ a.E=false):=C (by
        unfold rZ;rw[k9.q,<-Bool.not_eq_true,List.any_eq_true];rintro⟨e,he,hh⟩;simp only[aM,oJ,aV] at hh;have:=b1.q e he hh.1;omega)
       have Q:=C s;have ζ:=C δ;clear s δ;have aaU:Hid (∀Z,Same (λg=>g≠w.1.size+1) wr Z->Ey w a (.returned (.tuple #[bC ⟨⟨n0,(a.nl 0).length,d0⟩,⟨n1,(a.nl 1).length,d1⟩,⟨n2,(a.nl 2).length,d2⟩,⟨n3,(a.nl 3).length,d3⟩,⟨ae,(es).length,ce⟩,⟨ad,(A).length,cd⟩,⟨am,(P).length,cm⟩,⟨aq,(a.Q).length,cq⟩⟩,U V 0])) Z):=C (λZ hZ=>by
        unfold Ey;rw[au (by rw[HQ.q];simp)];have w4:=hZ.below Q.q.b (λi hi=>by show i≠w.1.size+1;omega) Q.q.b.size;obtain⟨vS,DF,DI,aaV⟩:=Q.q.says hZ w4;obtain⟨k6,k7,k8⟩:=Q.q.t2;have g1:=ζ.q.aQ (T':=28) ⟨k6,k7,k8⟩ aj hZ;have g2:=b0.q.aQ (T':=28) ⟨k6,k7,k8⟩ aj hZ;have hl:xe.length=es.length:=by have:=ζ.q.len;omega
        have μ:xd.length=A.length:=by have h1:A.length=xd.length:=b0.q.len;omega
        have g3:Any Z w.1.size 53 3 cZ EvC.sl xe:=iY.all (by rw[hl];exact r7.q.same ⟨k6,k7,_,k8,by decide⟩ hZ);have g4:Any Z w.1.size 3 1 aS aG.sl xd:=iY.all (by rw[μ];exact r4.q.same ⟨k6,k7,_,k8,by decide⟩ hZ);have ν:=aaV;have hnt:qJ a.E es.length=iN a.E a.E.length:=by rw[<-k9.q];exact P8 _
        rw[hnt] at ν;exact⟨⟨⟨n0,(a.nl 0).length,d0⟩,⟨n1,(a.nl 1).length,d1⟩,⟨n2,(a.nl 2).length,d2⟩,⟨n3,(a.nl 3).length,d3⟩,⟨ae,(es).length,ce⟩,⟨ad,(A).length,cd⟩,⟨am,(P).length,cm⟩,⟨aq,(a.Q).length,cq⟩⟩,xe,xd,xm,vS,DF,DI,rfl,ν,w4,⟨g1,g3⟩,g2,g4⟩)
       have f:=Q.q.bx;have t:=Q.q.b2;have z:=f.1;have ε:=f.2.1;have γ:=f.2.2;have κ:=t.1;have ο:=t.2.1;have μ:=t.2.2;go_wp2_with fail;refine bodyPost_ret (v:= .tuple #[bC ⟨⟨n0,(a.nl 0).length,d0⟩,⟨n1,(a.nl 1).length,d1⟩,⟨n2,(a.nl 2).length,d2⟩,⟨n3,(a.nl 3).length,d3⟩,⟨ae,(es).length,ce⟩,⟨ad,(A).length,cd⟩,⟨am,(P).length,cm⟩,⟨aq,(a.Q).length,cq⟩⟩,U V 0]) (by simp[results,Tryz.results8,go_sem,κ]) rfl (aaU.q _ ?_)
       repeat(first|(with_reducible exact O _)|(refine Same.setTail ?_ (λhn=>hn rfl)))
end Yd
