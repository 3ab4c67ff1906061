import Derived.Test.YtiheclemhihpeaaGreatDoorZRSm
import Derived.Test.YtiheclemhihpeaaGreatDoorZLaidK
import Derived.Test.YtiheclemhihpeaaGreatDoorZRdA
import Derived.Test.YtiheclemhihpeaaGreatDoorZREqL
import Derived.Laws.Cover1
set_option linter.all false
set_option maxRecDepth 200000
set_option maxHeartbeats 8000000
namespace Yd
open Bool renaming true->V
open Option renaming none->I,some->O
open Go Go.RowKit Go.Proofs Tryz
open Below renaming heap_setCell->U
open Go.IntKind renaming i64->M
open Go.Value renaming string->H,int->L
open Utf8 renaming decode->G
open Yd renaming hid->C
open _root_ renaming Int->J,Nat->N
theorem aaf{p:Prop}(h:p:=by omega):p:=h
theorem aag{p:Prop}(h:p:=by rw[HQ.q]):p:=h
theorem aah{p:Prop}(h:p:=by have:=ω.q;simp at this;omega):p:=h
variable{t:Bs}
theorem tF {b:UInt8}(h:jF b=V):bg (b::t)=bg t:=by unfold bg;rw[AP,aA h]
theorem zm {b:UInt8}(h:jF b=false):bg (b::t)=b::t:=by unfold bg;rw[AP,h];rfl
def nN (c:UInt8):Bool:=oI c||decide (128<=c.toNat)
def kQ (l:Bs):N:=(l.takeWhile nN).length
theorem F7 (s:Bs)(i j:N)(_h:i<=j):(⟨s.toArray⟩:ByteArray).extract i j=⟨((s.drop i).take (j - i)).toArray⟩:=by
 apply ByteArray.ext
 rw[ByteArray.data_extract]
 apply Array.ext'
 rw[Array.toList_extract]
def oZ (a:List Bs)(l:Bs):Except Er (N × Bs):=
 match a.findIdx? (λs=>s==l.take (kQ l)) with
 |some i=> .ok (i,l.drop (kQ l))
 |none=> .error (l.drop (rA a (l.take (kQ l))),220)
theorem UF {c:UInt8}(h:oI c=V):nN c=V:=by unfold nN;rw[h];rfl
theorem F8:∀l:Bs,l.takeWhile nN=l.takeWhile oI++(l.drop (l.takeWhile oI).length).takeWhile nN
 |[]=>rfl
 |a::t=>by
  rw[jB,jB]
  cases d:oI a
  .simp only[xw,ku,pO,nk,List.drop_zero]
   rw[jB]
  .rw[UF d,aA rfl,aA rfl]
   simp only[iC,List.drop_succ_cons,jl];rw[<-F8 t]
theorem Rq (q:UInt8->Bool)(l:Bs):l.take (l.takeWhile q).length=l.takeWhile q:=by
 have:l=l.takeWhile q++l.dropWhile q:=(List.takeWhile_append_dropWhile).symm;generalize a:l.takeWhile q=x at*;rw[this];simp
theorem dw_head (q:UInt8->Bool):∀(l:Bs)(b:UInt8)(t:Bs),l.dropWhile q=b::t->q b=false
 |[],b,t,h=>by simp at h
 |a::l,b,t,h=>by
  rw[AP] at h
  cases d:q a
  .rw[d] at h;simp at h;rw[<-h.1];exact d
  .rw[d] at h;exact dw_head q l b t (by simpa using h)
theorem F9 (b:UInt8)(u:Bs):∀(x a:Bs),(∀c∈x,c≠b)->gI x (a++b::u)=gI x a
 |[],a,_=>by simp[gI]
 |c::x,[],h=>by simp[gI,h c pU]
 |c::x,d::a,h=>by
  rw[jl];simp only[gI];rw[F9 b u x a (λe f=>h e (iM _ f))]
theorem Rs (b:UInt8)(u a:Bs)(d:List Bs)(h:∀x∈d,∀c∈x,c≠b):rA d (a++b::u)=rA d a:=by
 unfold rA;have:∀(d:List Bs)(m:N),(∀x∈d,∀c∈x,c≠b)->d.foldl (λm s=>max m (gI s (a++b::u))) m=d.foldl (λm s=>max m (gI s a)) m:=by
  intro d
  induction d with
  |nil=>intro m _;rfl
  |cons x d f=>
   intro m e;simp only[List.foldl_cons];rw[F9 b u x a (e x pU),f _ (λy g=>e y (iM _ g))]
 exact this d 0 h
theorem Bv (d:List Bs)(l:Bs)(m:∀x∈d,∀c∈x,oI c=V):oZ d l=gW d l:=by
 have y:l.take (kQ l)=l.takeWhile nN:=Rq nN l;have a:=F8 l;have v:=qx oI l;unfold oZ gW;rw[y];have o:fO l=l.takeWhile oI:=rfl
 cases p:l.dropWhile oI with
 |nil=>
  have f:l.drop (l.takeWhile oI).length=[]:=v.trans p;rw[f] at a;have g:l.takeWhile nN=fO l:=by rw[a];simp[fO]
  have i:qO l=fO l:=by unfold qO;rw[o,f];rfl
  have r:kQ l=(fO l).length:=by unfold kQ;rw[g]
  rw[g,i,r]
  rfl
 |cons b t=>
  have f:l.drop (l.takeWhile oI).length=b::t:=v.trans p;have s:oI b=false:=dw_head oI l b t p;rw[f] at a;by_cases k:128<=b.toNat
  .have u:nN b=V:=by unfold nN;rw[bG k,Bool.or_true]
   rw[jB,u,aA rfl] at a;have i:qO l=fO l++[128]:=by
    unfold qO;rw[o,f];simp only[Ai];rw[aA (show(128:UInt8)<=b from k)]
   have z:∀x∈d,(x==l.takeWhile nN)=false:=λx j=>by
    rw[a];refine aN.2 (λe=>?_);have:=m x j b (by rw[e];simp);rw[s] at this;cases this
   have A:∀x∈d,(x==qO l)=false:=λx j=>by
    rw[i];refine aN.2 (λe=>?_);have:=m x j 128 (by rw[e];simp);revert this;decide
   rw[wE.2 z,wE.2 A];simp only[];rw[a,Rs b _ _ d (λx j c E e=>by have:=m x j c E;rw[e,s] at this;cases this)]
   rfl
  .have u:nN b=false:=by unfold nN;rw[bn k,s];rfl
   rw[jB,u] at a;have g:l.takeWhile nN=fO l:=by rw[a];simp[fO]
   have i:qO l=fO l:=by
    unfold qO;rw[o,f];simp only[Ai];rw[ay (show ¬(128:UInt8)<=b from k)]
   have r:kQ l=(fO l).length:=by unfold kQ;rw[g]
   rw[g,i,r]
   rfl
def sK (l:Bs):J:=sU ⟨l.toArray⟩
def hdN (l:Bs):N:=if okB ⟨l.toArray⟩ 0=V then(G ⟨l.toArray⟩ 0).2 else 1
section
variable{l:Bs}
theorem zV (h:l≠[]):sK l=if okB ⟨l.toArray⟩ 0=V then((G ⟨l.toArray⟩ 0).1:J) else -1:=by
 unfold sK sU;rw[aA (by rw[dW];cases l with|nil=>exact absurd rfl h|cons a t=>simp)]
theorem Cv {b:UInt8}(t:Bs)(h:b.toNat<128):sK (b::t)=b.toNat/\hdN (b::t)=1:=by
 rw[zV ak];unfold hdN;rw[Cx b t h,aA rfl,aA rfl,nM b t h];exact⟨rfl,rfl⟩
theorem P6 {b:UInt8}(t:Bs)(h:128<=b.toNat):sK (b::t)= -1\/128<=sK (b::t):=by
 rw[zV ak];have:=vS b t h
 split
 .right;omega
 .left;rfl
theorem uU (b:UInt8)(t:Bs)(k:N)(a:k<128):(sK (b::t)=(k:J))↔b.toNat=k:=by
 rcases jk b.toNat 128 with h|h
 .rw[(Cv t h).1];omega
 .rcases P6 t h with e|e <;> constructor <;> intro <;> omega
theorem LZ (n k l m o p s t u r w:N)(a:Lib.decodeN n l m o p=(r,w))(g:¬(r=65533/\w=1))(y:w<=k)(i:1<w->s=m)(v:2<w->t=o)(x:3<w->u=p):Lib.decodeN k l s t u=(r,w):=by
 unfold Lib.decodeN at a
 split at a
 .rename_i h
  unfold Lib.decodeN;rw[aA h];exact a
 .rename_i j
  split at a
  .rename_i h
   split at a
   .rename_i f
    injection a with d e;subst e;obtain rfl:=i ah;unfold Lib.decodeN;rw[ay j,aA ⟨h.1,aaf,h.2.2⟩,aA f,d]
   .injection a with d e;exact absurd ⟨d.symm,e.symm⟩ g
  .rename_i z
   split at a
   .rename_i h
    split at a
    .rename_i f
     injection a with d e;subst e;obtain rfl:=i ah;obtain rfl:=v ah;unfold Lib.decodeN;rw[ay j,ay ah,aA ⟨h.1,⟨aaf,h.2.1.2⟩,aaf,h.2.2.2⟩,aA f,d]
    .injection a with d e;exact absurd ⟨d.symm,e.symm⟩ g
   .rename_i A
    split at a
    .rename_i h
     split at a
     .rename_i f
      injection a with d e;subst e;obtain rfl:=i ah;obtain rfl:=v ah;obtain rfl:=x ah;unfold Lib.decodeN;rw[ay j,ay ah,ay ah,aA ⟨h.1,⟨aaf,h.2.1.2⟩,⟨aaf,h.2.2.1.2⟩,aaf,h.2.2.2.2⟩,aA f,d]
     .injection a with d e;exact absurd ⟨d.symm,e.symm⟩ g
    .injection a with d e;exact absurd ⟨d.symm,e.symm⟩ g
theorem uV (l:Bs)(m k:N)(h:k<m):(l.take m).getD k 0=l.getD k 0:=by simp[List.getD,h]
theorem Ga (l:Bs):G ⟨l.toArray⟩ 0=Lib.decodeN l.length (l.getD 0 0).toNat (l.getD 1 0).toNat (l.getD 2 0).toNat (l.getD 3 0).toNat:=by
 have:=Lib.decode_N ⟨l.toArray⟩ 0
 simpa using this
theorem OM {m:N}(h:okB ⟨l.toArray⟩ 0=V)(d:(G ⟨l.toArray⟩ 0).2<=m)(e:(G ⟨l.toArray⟩ 0).2<=l.length)(i:0<m):G ⟨(l.take m).toArray⟩ 0=G ⟨l.toArray⟩ 0:=by
 have a:=FU h;have f:=Ga l;obtain⟨r,w,j⟩:∃r w,G ⟨l.toArray⟩ 0=(r,w):=⟨_,_,rfl⟩;rw[j] at f d e a ⊢;simp only at d e a;rw[Ga (l.take m),uV l m 0 i];refine LZ l.length _ _ _ _ _ _ _ _ r w f.symm a (by rw[dJ];omega) (λg=>?_) (λg=>?_) (λg=>?_)
 .rw[uV l m 1 ah]
 .rw[uV l m 2 ah]
 .rw[uV l m 3 ah]
theorem Bq (l:Bs)(h:l≠[]):bH ⟨l.toArray⟩ l.length 0=0::(bH ⟨(l.drop (G ⟨l.toArray⟩ 0).2).toArray⟩ (l.drop (G ⟨l.toArray⟩ 0).2).length 0).map ((G ⟨l.toArray⟩ 0).2+ ·):=by
 obtain⟨d,a⟩:∃d,d=(G ⟨l.toArray⟩ 0).2:=⟨_,rfl⟩;have f:=wM l h;rw[<-a] at f ⊢;obtain⟨n,g⟩:∃n,l.length=n+1:=⟨l.length - 1,by have:l.length≠0:=λe=>h (yw e);omega⟩;rw[g];simp only[bH,dW];rw[aA ah,<-a,bQ,<-bK d,xB,bK,vV ⟨(l.drop d).toArray⟩ n (l.drop d).length 0 (by rw[dW,dY];omega) (by rw[dW];omega)]
theorem L6 (h:l≠[])(a:(okB ⟨l.toArray⟩ 0 && iA ((G ⟨l.toArray⟩ 0).1:J))=V):bB l=(G ⟨l.toArray⟩ 0).2+bB (l.drop (G ⟨l.toArray⟩ 0).2):=by
 unfold bB;rw[iY l iA h,aA a]
theorem L8 (h:l≠[])(a:(okB ⟨l.toArray⟩ 0 && iA ((G ⟨l.toArray⟩ 0).1:J))=false):bB l=0:=by
 unfold bB;rw[iY l iA h,a];rfl
theorem rQ (l:Bs):bB l<=l.length:=rU iA _ l (aC _)
def uy (l:Bs)(k:N):Prop:=k<=bB l/\k+bB (l.drop k)=bB l/\
 ∃pre:List N,bH ⟨(l.take (bB l)).toArray⟩ (l.take (bB l)).length 0=pre++(bH ⟨((l.take (bB l)).drop k).toArray⟩ ((l.take (bB l)).drop k).length 0).map (k+ ·)/\∀x∈pre,x<k
theorem uy.zero (l:Bs):uy l 0:=⟨aS _,by simp,[],by simp,by simp⟩
variable{k:N}
theorem Ez (h:k+bB (l.drop k)=bB l):(l.take (bB l)).drop k=(l.drop k).take (bB (l.drop k)):=by
 rw[<-h,List.drop_take];congr 1;omega
theorem uy.step (h:uy l k)(d:l.drop k≠[])(g:(okB ⟨(l.drop k).toArray⟩ 0 && iA ((G ⟨(l.drop k).toArray⟩ 0).1:J))=V):
  uy l (k+(G ⟨(l.drop k).toArray⟩ 0).2)/\(24<k+(G ⟨(l.drop k).toArray⟩ 0).2->k<=24->24<bB l/\iE (l.take (bB l))=k):=by
 obtain⟨F,s,pre,t,i⟩:=h;have j:=L6 d g;obtain⟨n,f⟩:∃n,n=(G ⟨(l.drop k).toArray⟩ 0).2:=⟨_,rfl⟩;have u:okB ⟨(l.drop k).toArray⟩ 0=V:=by
  revert g;cases okB ⟨(l.drop k).toArray⟩ 0 <;> simp
 have v:=wM (l.drop k) d;have m:=vT (l.drop k) d;rw[<-f] at j v m ⊢;rw[mD] at j;have o:=Ez s;have z:G ⟨((l.take (bB l)).drop k).toArray⟩ 0=G ⟨(l.drop k).toArray⟩ 0:=by
  rw[o];exact OM u (by rw[<-f];omega) (by rw[<-f];exact m) ah
 have A:(l.take (bB l)).drop k≠[]:=by
  rw[o];intro e;have:=cZ List.length e;rw[dJ] at this;simp only[nk] at this;have:=List.length_pos_iff.2 d;omega
 have p:=Bq _ A;rw[z,<-f,mD] at p;have r:bH ⟨(l.take (bB l)).toArray⟩ (l.take (bB l)).length 0=(pre++[k])++(bH ⟨((l.take (bB l)).drop (k+n)).toArray⟩ ((l.take (bB l)).drop (k+n)).length 0).map ((k+n)+ ·):=by
  rw[t,p];simp[pV,Function.comp_def,Nat.add_assoc]
 refine⟨⟨aaf,aaf,pre++[k],r,λx a=>?_⟩,λK E=>⟨aaf,?_⟩⟩
 .rcases cu.1 a with a|a
  .have:=i x a;omega
  .obtain rfl:x=k:=by simpa using a
   omega
 .unfold iE
  rw[r,List.filter_append,filter_all _ (pre++[k]) (λx a=>?_),Eg _ _ (λx a=>?_)]
  .simp
  .obtain⟨y,_,rfl⟩:=eZ.1 a
   exact bn ah
  .rcases cu.1 a with a|a
   .have:=i x a;exact bG ah
   .obtain rfl:x=k:=by simpa using a
    exact bG E
theorem ko (b:UInt8):fE b=V↔48<=b.toNat/\b.toNat<=57:=by
 unfold fE;rw[bD,bO,bO,UInt8.le_iff_toNat_le,UInt8.le_iff_toNat_le];rfl
theorem L9 (b:UInt8)(t:Bs):bY (b::t)=fF (sK (b::t)):=by
 rw[zV ak];unfold bY
 cases h:okB ⟨(b::t).toArray⟩ 0
 .rw[ay ak];rfl
 .rw[aA rfl];rfl
theorem J7 {c:J}(h:fF c=V):eu c=false:=by
 unfold fF at h;unfold eu;simp only[tZ,bD,bO] at h;simp only[Bool.and_eq_false_iff,decide_eq_false_iff_not];omega
theorem tH (a:bY l=false):bU l= .error (l,220):=by unfold bU;rw[aA (by rw[a];simp)]
theorem yQ (a:dO l=false)(d:bY l=V)(h:24<bB l):bU l= .error (l.drop (iE (l.take (bB l))),220):=by
 unfold bU;rw[ay (by rw[a,d];simp),aA h]
theorem Br (a:dO l=false)(d:bY l=V)(h:bB l<=24):bU l= .ok (l.take (bB l),l.drop (bB l)):=by
 unfold bU;rw[ay (by rw[a,d];simp),ay ah]
section
variable {w w':World}{B b:N}{c:aW}{n:aK}
theorem Lb {r:Bs}(h:fu l= .ok r):dB l= .ok (V,r):=by
 unfold fu at h
 cases a:dB l with
 |error x=>rw[a] at h;cases h
 |ok y=>
  obtain⟨b,d⟩:=y;rw[a] at h
  cases b
  .cases h
  .injection h with h;rw[h]
@[reducible] def jP (w:World)(g:N)(c:aW):World:=(((((w.setCell ⟨g,0,I⟩ (L M c.kind)).setCell ⟨g,1,I⟩ (.slice c.na c.nn c.nc)).setCell ⟨g,2,I⟩ (L M c.lvl)).setCell ⟨g,3,I⟩ (.slice c.va c.vn c.vc)).setCell ⟨g,4,I⟩ (.bool c.first)).setCell ⟨g,5,I⟩ (L M c.bits)
theorem Hf {g:N}{f:aW}(h:Bx w g (bJ f))(c:aW):Bx (jP w g c) g (bJ c):=(((((h.aX 0 ak _).aX 1 ak _).aX 2 ak _).aX 3 ak _).aX 4 ak _).aX 5 ak _
theorem rH (w:World)(g:N)(c:aW):Same (λi=>i≠g) w (jP w g c):=
 (((((Same.setCell _ _ _ _ ak).tr (Same.setCell _ _ _ _ ak)).tr (Same.setCell _ _ _ _ ak)).tr (Same.setCell _ _ _ _ ak)).tr (Same.setCell _ _ _ _ ak)).tr (Same.setCell _ _ _ _ ak)
theorem dZ.jP {g:N}{c':aW}(h:dZ w B c n)(d:∀i,(Value.slice c.na c.nn c.nc).ownBlock=O i->i≠g)(e:∀i,(Value.slice c.va c.vn c.vc).ownBlock=O i->i≠g):dZ (jP w g c') B c n:=
 ⟨h.1,h.2.1.block λi a=>(rH w g c').block i (d i a) (h.2.1.lt i a).2,h.2.2.block λi a=>(rH w g c').block i (e i a) (h.2.2.lt i a).2⟩
end
theorem tq (h:bY l=false):bU l= .error (l,220):=by unfold bU;rw[aA (by rw[h];simp)]
theorem Oq (k:N):∀x∈iB.drop k,∀c∈x,oI c=V:=λx a=>by
 have:∀x∈iB,∀c∈x,oI c=V:=by decide
 exact this x (BP a)
theorem Ot:∀x∈kM,∀c∈x,oI c=V:=by decide
theorem Q8:∀x∈jK,∀c∈x,oI c=V:=by decide
theorem QS {b:UInt8}(h:bY (b::t)=V):0<bB (b::t):=by
 have a:(okB ⟨(b::t).toArray⟩ 0 && fF ((G ⟨(b::t).toArray⟩ 0).1:J))=V:=by
  unfold bY at h
  simpa using h
 rw[bD] at a;have d:=wM (b::t) ak;unfold bB;rw[iY (b::t) iA ak,aA (by rw[a.1];unfold iA;rw[a.2];rfl)];omega
variable{r:Bs}
theorem EW {a:List Bs}{i:N}(h:oZ a l= .ok (i,r)):i<a.length:=by
 unfold oZ at h
 cases d:a.findIdx? (λs=>s==l.take (kQ l)) with
 |none=>rw[d] at h;cases h
 |some j=>
  rw[d] at h;injection h with h;injection h with h _;subst h;exact(List.findIdx?_eq_some_iff_findIdx_eq.1 d).1
theorem nX {a w:World}{D g:N}(h:Below D a w)(e:D<=g)(d:D<=w.1.size)(c:aW):Below D a (jP w g c):=(rH w g c).below h (λi f=>aaf) d
def qE (R:N)(w:World):Prop:=∃a:World,a.1.size<=R/\Below a.1.size a w/\Lib.Utf8Tabs 7 8 a/\uQ a/\mF a
variable{R:N}
theorem qE.tabs {w:World}(h:qE R w):Lib.Utf8Tabs 7 8 w:=let⟨_,_,a,d,_⟩:=h;Utf8Tabs_below d a
theorem qE.e {w:World}(h:qE R w):uQ w:=let⟨_,_,a,_,d,_⟩:=h;d.below a
end
theorem qE.l {R:N}{w:World}(h:qE R w):mF w:=let⟨_,_,a,_,_,d⟩:=h;d.below a
variable{l:Bs}{k:N}{r:Bs}{R:N}
theorem qE.below {w w':World}(h:qE R w)(d:Below w.1.size w w'):qE R w':=let⟨e,f,a,g⟩:=h;⟨e,f,a.trans (d.mono a.size),g⟩
variable{p:N}{s:Bs}{n:aK}
theorem qE.mv {w w':World}{c:aW}(h:qE R w)(hc:dL w R s p l c n)(d:Same (iX R c) w w'):qE R w':=
 let⟨e,f,a,g⟩:=h;⟨e,f,d.below a (λi j=>hc.old ah) a.size,g⟩
theorem dL.put {w:World}{c:aW}(h:dL w R s p l c n)(b i:N)(v:Value)(a:iX R c b):dL (w.setCell ⟨b,i,I⟩ v) R s p l c n:=
 ⟨h.x.setOther b i v (Ne.symm a.1),⟨h.n.1,h.n.2.1.block λg d=>U _ _ _ _ (by rintro rfl;exact a.2.1 d),h.n.2.2.block λg d=>U _ _ _ _ (by rintro rfl;exact a.2.2 d)⟩,h.d,h.le,h.lim⟩
theorem Mv.put {c c':aW}{w Y:World}(h:Mv R c c' w Y)(b i:N)(v:Value)(e:w.1.size<=b):Mv R c c' w (Y.setCell ⟨b,i,I⟩ v):=
 ⟨⟨h.same.os,h.same.tape,h.same.output,cO h.same.size (by simp[World.setCell]),λj a d=>(U _ _ _ _ (by simp;omega)).trans (h.same.block j a d)⟩,h.na,h.va⟩
theorem Ma (q:UInt8->Bool):∀l:Bs,∀c∈l.takeWhile q,q c=V
 |[],_,h=>by simp at h
 |a::t,c,h=>by
  rw[jB] at h
  cases d:q a
  .rw[d] at h;simp at h
  .rw[d,aA rfl] at h
   rcases dP.1 h with rfl|h
   .exact d
   .exact Ma q t c h
theorem OO (f:Bs)(l:Bs):((jN l).head?=I\/(jN l).head?=O 45\/(jN l).head?=O 48)/\rY f l= .error (l,220)\/
  (∃b t,jN l=b::t/\b.toNat≠45/\b.toNat≠48)/\jN l=l.takeWhile fE/\(∀c∈jN l,fE c=V)/\rY f l=(if 999<rC (jN l) then .error (l,3) else .ok (⟨f,rC (jN l)⟩,l.drop (jN l).length)):=by
 by_cases g:l.head?=O 45
 .obtain⟨t,rfl⟩:∃t,l=45::t:=by cases l with
   |nil=>simp at g
   |cons a t=>exact⟨t,by simpa using g⟩
  have k:(45::t:Bs).takeWhile fE=[]:=by rw[jB];rfl
  left
  constructor
  .unfold jN
   rw[aA (show(45::t:Bs).head?=O 45 from rfl)]
   split
   .exact .inl rfl
   .exact .inr (.inl rfl)
  .unfold rY
   simp only[k];rw[aA (.inl rfl)]
 .have m:jN l=l.takeWhile fE:=by unfold jN;rw[ay g]
  rw[m];have i:∀c∈l.takeWhile fE,fE c=V:=Ma fE l
  cases d:l.takeWhile fE with
  |nil=>
   left
   refine⟨.inl rfl,?_⟩;unfold rY;simp only[d];rw[aA (.inl rfl)]
  |cons b t=>
   by_cases j:b=48
   .left
    subst j;refine⟨.inr (.inr rfl),?_⟩;unfold rY;simp only[d];rw[aA (.inr rfl)]
   .right
    rw[d] at i;refine⟨⟨b,t,rfl,?_,λe=>j (gD.1 e)⟩,rfl,i,?_⟩
    .intro e
     have:=i b ak;rw[Bw,e] at this;exact absurd this aj
    .unfold rY
     simp only[d];rw[ay (by simpa using j)]
theorem dL.drewN {w:World}{c:aW}(h:dL w R s p l c n)(k:N):dL (w.drewN k) R s p l c n:=⟨h.x,h.n,h.d,h.le,h.lim⟩
theorem Same.Mc {A:N->Prop}(X:World)(n:N):Same A X (X.drewN n):=⟨rfl,rfl,rfl,aC _,λ_ _ _=>rfl⟩
theorem CV {c:aW}(w:World)(h:dL w R s p l c n)(hG:qE R w)(hl:n.aM.length<=1000):
  Calls Tryz.prog 100 #[.pointer (O ⟨R,0,I⟩)] w (dA R s c w (λ_:Unit=> .tuple #[]) (match dN l with| .error x=> .error x| .ok (v,r)=> .ok ((),jr n v,r))):=by
 obtain⟨X,hX⟩:∃X:Except Er (Unit × aK × Bs),X=(match dN l with| .error x=> .error x| .ok (v,r)=> .ok ((),jr n v,r)):=⟨_,rfl⟩;rw[<-hX];have P:=C hX;clear hX;have q3:=C (λW (hb:Below w.1.size w W)=>AO W (h.below hb));have z0:=C (λW (hb:Below w.1.size w W)=>AL W (h.below hb) (hG.below hb).tabs);have HG:=C hG;obtain⟨i,z,hi⟩:=Dj;have Y:=C hi;have E:=C h;have β:Hid (Below w.1.size w w.drew):=C ((Below.refl _ _).drew);have z2:Hid ((Value.slice c.va c.vn c.vc).ownBlock≠O R):=C (h.n.2.2.far' (.inl ah));have k5:=h.n.1.2.2.2.2.2;have z3:Hid (n.aM.length+1=c.vn+1):=C ah;have z4:Hid ((c.vn+1)*24<=140737488355328):=C ah;have z5:Hid (c.vn+1<=maxLen):=C (by unfold maxLen;omega);have x6:=h.lim;have z6:=h.len;clear k5 h hG hi;by_cases ξ:∃t,l=45::t
 .obtain⟨t,rfl⟩:=ξ
  have κ:Hid (dO (45::t)=false):=C (by rw[oz];rfl);have x7:=λW=>dQ Tryz.underlying9 s p 45 E.q.at_ W
  have x8:p<s.length:=by simp at z6;omega
  have F:Hid (X= .ok ((),jr n ⟨[],0⟩,t)):=C (by rw[P.q];unfold dN;rw[aA (show(45::t:Bs).head?=O 45 from rfl)];rfl);go_enter func100,ntmps100;go_wp2_with fail;refine aD 99 [(0,0),(1,2),(2,0),(3,0),(4,0),(5,0),(6,0),(7,0),(8,0),(9,0),(10,0),(11,0),(12,0),(13,0),(14,0)] (λ_=>True) (λk=>k.cell? ⟨R,0,I⟩=O (H ⟨s.toArray⟩)/\k.cell? ⟨R,1,I⟩=O (L M p)) au au (trivial) (⟨E.q.drew.c0,E.q.drew.c1⟩) ?_;refine qC ?_;refine aG rfl rfl (λK g=>?_);go_simp;refine(q3.q _ β.q).mono ?_;rintro e w1 ⟨rfl,Q⟩;have u:=E.q.drew.below Q;have μ:=C u;have δ:=C (β.q.bL Q);rw[κ.q];refine g _ _ ⟨trivial,u.c0,u.c1⟩ ?_;clear g K Q u;refine qC ?_;refine aH ?_;have η:=μ.q.to 1 rfl ak (p+1) rfl;have HT:=C η.1;have HM:=C η.2;rw[lV] at HT HM;have c1:=μ.q.c1;have z1:=f1 μ.q 1;have c5:=μ.q.c5;clear η;have k6:Hid ((w1.setCell ⟨R,1,I⟩ (L M ((p:J)+1))).1.size=w1.1.size):=C ak;have q4:Hid (R+1<=((w1.setCell ⟨R,1,I⟩ (L M ((p:J)+1))).alloc (.cells #[H ⟨([]:Bs).toArray⟩,L M 0] 61)).1.size):=C (by have:=HT.q.x.2.2;simp at*;omega)
  go_wp2_with (at_builtin;refine dx rfl _ _ 32 rfl i z 24 underlying32 Y.q.1 Y.q.2.1 Y.q.2.2.1 Y.q.2.2.2.1 Y.q.2.2.2.2 rfl (HT.q.n.2.2.alloc _) (O ⟨w1.1.size,0,I⟩) 1 1 (c.vn+1) [⟨[],0⟩] rfl (Row.toN k6.q ⟨[],0⟩) z3.q z4.q z5.q q4.q ?_;intro a' c' w3 z7 q5 z8;have q6:=(HT.q.x.keep (aB (Below.refl _ _) (.cells #[H ⟨([]:Bs).toArray⟩,L M 0] 61))).grown q5 z2.q;have ο:=C (HT.q.jr (aB (Below.refl _ _) (.cells #[H ⟨([]:Bs).toArray⟩,L M 0] 61)) a' c' z7 q5 z8);have x9:=q6.1 5;have b1:=q6.2.1 5;clear z7 q5 z8 q6)
  refine bodyPost_ret (results_none rfl _ _ _) rfl ?_;show dA R s c w _ _ _ _;rw[F.q];exact⟨rfl,p+1,_,ο.q.1,(Mv.of_below δ.q).trans (HM.q.trans ο.q.2)⟩
 .have α:¬l.head?=O 45:=λe=>ξ (by cases l with
   |nil=>simp at e
   |cons a t=>exact⟨t,by simp at e;rw[e]⟩)
  have z9:Hid (∀x,bU l= .error x->(match dN l with| .error x=> .error x| .ok (v,r)=> .ok ((),jr n v,r):Except Er (Unit × aK × Bs))= .error x):=C (λx hx=>by unfold dN;rw[ay α,hx]);have k7:Hid (∀m r,bU l= .ok (m,r)->dN l=if r.head?=O 46 then rY m r.tail else .error (r,220)):=C (λm r hx=>by unfold dN;rw[ay α,hx]);clear α
  cases π:dO l
  .obtain⟨S,t0,rfl⟩:∃S t0,l=S::t0:=by cases l with
    |nil=>exact absurd π aj
    |cons a t=>exact⟨a,t,rfl⟩
   have κ:Hid (dO (S::t0)=false):=C π;have b4:=λW=>dQ Tryz.underlying9 s p S E.q.at_ W
   have b5:p<s.length:=by simp at z6;omega
   have b6:((S.toNat:J)==45)=false:=aN.2 (λe=>ξ ⟨t0,by rw[show S=45 from gD.1 (by show S.toNat=45;omega)]⟩);clear π ξ;go_enter func100,ntmps100;go_wp2_with fail;refine aD 99 [(0,0),(1,2),(2,0),(3,0),(4,0),(5,0),(6,0),(7,0),(8,0),(9,0),(10,0),(11,0),(12,0),(13,0),(14,0)] (λ_=>True) (λk=>k.cell? ⟨R,0,I⟩=O (H ⟨s.toArray⟩)/\k.cell? ⟨R,1,I⟩=O (L M p)) au au (trivial) (⟨E.q.drew.c0,E.q.drew.c1⟩) ?_;refine qC ?_;refine aG rfl rfl (λK g=>?_);go_simp;refine(q3.q _ β.q).mono ?_;rintro e w1 ⟨rfl,Q⟩;have u:=E.q.drew.below Q;have μ:=C u;have δ:=C (β.q.bL Q);rw[κ.q];refine g _ _ ⟨trivial,u.c0,u.c1⟩ ?_;clear g K Q u;refine qC ?_;refine aH ?_;go_wp2_with fail;refine(z0.q _ δ.q).mono ?_;intro e w2 he
   cases γ:bU (S::t0) with
   |error x=>
    rw[γ] at he;obtain⟨rfl,hs⟩:=he;refine⟨rfl,?_⟩;show dA R s c w _ _ _ _;rw[P.q,z9.q x γ];exact⟨rfl,(Same.of_below δ.q (λ_ _ h=>h)).tr hs⟩
   |ok mr=>
   obtain⟨m,r⟩:=mr;rw[γ] at he;obtain⟨rfl,d,ρ,v0⟩:=he;have q7:=C (k7.q m r γ);have k8:=C ρ;have v1:=C ((Mv.of_below δ.q).trans v0);have σ:=ρ.below (aB (Below.refl _ _) (.cells #[H ⟨m.toArray⟩,L M 0] 61));have q8:=C σ;have q9:=C (v1.q.trans (Mv.of_below (aB (Below.refl w2.1.size w2) (.cells #[H ⟨m.toArray⟩,L M 0] 61))));have k9:=C (Bx.new w2 #[H ⟨m.toArray⟩,L M 0] 61);have ψ:=C (ρ.new (aC _));have ε:=ρ.len;have c0:=σ.c0;have c1:=σ.c1;have z1:=f1 σ 1;have hz:=dW s;clear ρ v0 σ γ
   cases hr:r with
   |nil=>
    have v2:((d:J)==(s.length:J))=V:=by rw[hr] at ε;simp at ε;simp[ε]
    have F:Hid (dN (S::t0)= .error ([],220)):=C (by rw[q7.q,hr];rfl);have HQ:Hid (s.length - ([]:Bs).length=d):=C (by rw[hr] at ε;simp at ε ⊢;omega);clear hr ε
    go_wp2_with (go_quiet (fail))
    refine(jS d 220 _).mono ?_;rintro e w9 ⟨rfl,rfl⟩;refine⟨rfl,?_⟩;show dA R s c w _ _ _ _;rw[P.q,F.q];exact⟨aag,q9.q.same.tr (Same.Mc _ _)⟩
   |cons b2 y=>
   subst hr;have v2:((d:J)==(s.length:J))=false:=aN.2 (by simp at ε;omega);have b7:=λW=>dQ Tryz.underlying9 s d b2 q8.q.at_ W
   have ω:=C ε;by_cases Γ:b2=46
   .subst Γ
    have y0:(((46:UInt8).toNat:J)!=46)=false:=rfl;have F:Hid (dN (S::t0)=rY m y):=C (by rw[q7.q];rfl);have y1:d+1<=s.length:=by have:=ω.q;simp at this;omega
    have v3:s.drop (d+1)=y:=by rw[<-mD,q8.q.d];rfl
    have y2:∀W,(Instr.slice 9 (H ⟨s.toArray⟩) (O (L M ((d:J)+1))) I I).run Tryz.prog W= .ok (H ⟨y.toArray⟩) W:=λW=>by have:=jg Tryz.underlying9 s (d+1) y1 W;rw[v3] at this;exact this
    have j0:=λW=>C (Im y aah W)
    clear v3;have Δ:=OO m y;have Θ:(jN y).length<=y.length:=by unfold jN;split;split;exact aS _;rw[dJ];exact Nat.min_le_right _ _;have:=kJ fE y;omega
    revert j0 Δ Θ;generalize jN y=D;intro j0 Δ Θ;have v4:=C Θ;have y3:=C Δ;clear Θ Δ
    go_wp2_with (go_quiet (fail))
    have η:=(q8.q.drewN nq).to 1 rfl ak (d+1) rfl;have τ:Hid (dL (((w2.alloc (.cells #[H ⟨m.toArray⟩,L M 0] 61)).drewN nq).setCell ⟨R,1,I⟩ (L M ((d:J)+1))) R s (d+1) y c n):=C η.1;have j1:Hid (Mv R c c w (((w2.alloc (.cells #[H ⟨m.toArray⟩,L M 0] 61)).drewN nq).setCell ⟨R,1,I⟩ (L M ((d:J)+1)))):=C ((q9.q.trans (Mv.of_below (dm (Below.refl _ _) nq))).trans η.2);have Ξ:Hid (Bx (((w2.alloc (.cells #[H ⟨m.toArray⟩,L M 0] 61)).drewN nq).setCell ⟨R,1,I⟩ (L M ((d:J)+1))) w2.1.size #[H ⟨m.toArray⟩,L M 0]):=C ((k9.q.drewN nq).setOther R 1 (L M ((d:J)+1)) (by have:=k8.q.x.2.2;omega));clear η c0 c1 z1 v2;revert τ j1 Ξ;generalize(((w2.alloc (.cells #[H ⟨m.toArray⟩,L M 0] 61)).drewN nq).setCell ⟨R,1,I⟩ (L M ((d:J)+1)))=j;intro τ j1 Ξ;obtain⟨A,j2⟩:∃A,A=w2.1.size:=⟨_,rfl⟩;rw[<-j2] at Ξ ψ ⊢;have v5:Hid (A≠R):=C (λe=>ψ.q.1 e);have y4:Hid (w.1.size<=A):=C (by rw[j2];exact v1.q.same.size);clear j2;refine aD 99 [(0,0),(1,0),(2,0),(3,0),(4,0),(5,0),(6,0),(7,0),(8,0),(9,2),(10,0),(11,0),(12,0),(13,0),(14,0)] (λ_=>True) (λk=>k.cell? ⟨R,0,I⟩=O (H ⟨s.toArray⟩)/\k.cell? ⟨R,1,I⟩=O (L M ((d:J)+1))) au au (trivial) (⟨τ.q.drew.c0,τ.q.drew.c1⟩) ?_;refine qC ?_;refine aG rfl rfl (λK g=>?_);go_simp;refine(j0 _).q.mono ?_;rintro e w4 ⟨rfl,Φ⟩;have Ψ:=τ.q.drew.below Φ;have υ:=C Ψ;have φ:=C ((j1.q.trans (Mv.of_below (Below.refl _ _).drew)).trans (Mv.of_below Φ));have y5:=C (Ξ.q.drew.keep Φ);refine g _ _ ⟨trivial,Ψ.c0,Ψ.c1⟩ ?_;clear g K Φ Ψ;refine qC ?_;refine aH ?_;have c0:=υ.q.c0;have z1:=f1 υ.q 1;have c1:w4.cell? ⟨R,1,I⟩=O (L M ((d:J)+1)):=υ.q.c1;clear y2;rcases y3.q with⟨v6,ν⟩|⟨⟨f,o,hh,α,Ω⟩,y6,v7,ν⟩
    .have θ:=C ν
     have HQ:Hid (s.length - y.length=d+1):=C aah;have HF:Hid (∀W,Calls Tryz.prog 43 #[L M ((d:J)+1),L M 220] W λe w'=>e= .panicked (lS (d+1) 220)/\w'=W):=C (λW=>jS (d+1) 220 W);clear ν
     cases D with
     |nil=>
      go_wp2_with fail;refine(HF.q _).mono ?_;rintro e w9 ⟨rfl,rfl⟩;refine⟨rfl,?_⟩;show dA R s c w _ _ _ _;rw[P.q,F.q,θ.q];exact⟨aag,φ.q.same⟩
     |cons f o=>
      have j3:f=45\/f=48:=by simpa using v6
      have y7:∀W,(Instr.index 9 (H ⟨(f::o).toArray⟩) (L M 0)).run Tryz.prog W= .ok (.int .u8 (f.toNat:J)) W:=λW=>dQ Tryz.underlying9 (f::o) 0 f rfl W
      have y8:((f::o)==([]:Bs))=false:=rfl;clear v6;by_cases α:f.toNat=45
      .have v8:((f.toNat:J)==45)=V:=by simp[α]
       clear j3 α;go_wp2_with fail;refine(HF.q _).mono ?_;rintro e w9 ⟨rfl,rfl⟩;refine⟨rfl,?_⟩;show dA R s c w _ _ _ _;rw[P.q,F.q,θ.q];exact⟨aag,φ.q.same⟩
      .have Ω:f.toNat=48:=by rcases j3 with rfl|rfl;exact absurd rfl α;rfl
       have v8:((f.toNat:J)==45)=false:=aN.2 ah;have y9:((f.toNat:J)==48)=V:=by simp[Ω]
       clear j3 α Ω;go_wp2_with fail;refine(HF.q _).mono ?_;rintro e w9 ⟨rfl,rfl⟩;refine⟨rfl,?_⟩;show dA R s c w _ _ _ _;rw[P.q,F.q,θ.q];exact⟨aag,φ.q.same⟩
    .skip
     clear y6;subst hh;have v9:(f::o:Bs)≠[]:=by simp
     have y7:∀W,(Instr.index 9 (H ⟨(f::o).toArray⟩) (L M 0)).run Tryz.prog W= .ok (.int .u8 (f.toNat:J)) W:=λW=>dQ Tryz.underlying9 (f::o) 0 f rfl W
     have v8:((f.toNat:J)==45)=false:=aN.2 ah;have y9:((f.toNat:J)==48)=false:=aN.2 ah;have y8:((f::o)==([]:Bs))=false:=rfl;have b8:=dW (f::o);have k0:=υ.q.len;have b9:=v4.q;have k1:=C (Rt (f::o) v9 v7 ah w4 ((HG.q.mv E.q φ.q.same).e));obtain⟨j,hV⟩:∃j,j=rC (f::o):=⟨_,rfl⟩;rw[<-hV] at k1 ν;have θ:=C ν;have x0:=C k0;clear v7 ν α Ω hV k0 v9;go_wp2_with fail;refine k1.q.mono ?_;rintro e w5 ⟨kk,er,rfl,q0,x1⟩;have j4:=C (υ.q.below q0);have j5:=C (φ.q.trans (Mv.of_below q0));have j6:=C (y5.q.keep q0);have z1:=f1 j4.q 1;have c1:w5.cell? ⟨R,1,I⟩=O (L M ((d:J)+1)):=j4.q.c1;have k2:Hid (∀W,Calls Tryz.prog 43 #[L M ((d:J)+1),L M 3] W λe w'=>e= .panicked (lS (d+1) 3)/\w'=W):=C (λW=>jS (d+1) 3 W);have HQ:Hid (s.length - y.length=d+1):=C aah;clear q0;rcases x1 with⟨rfl,rfl,f0⟩|⟨h9,T,pp,rfl⟩
     .by_cases h9:999<j
      .have χ:=C h9
       have x2:decide ((999:J)<(j:J))=V:=bG ah;clear h9;go_wp2_with fail;refine(k2.q _).mono ?_;rintro e w9 ⟨rfl,rfl⟩;refine⟨rfl,?_⟩;show dA R s c w _ _ _ _;rw[P.q,F.q,θ.q,aA χ.q];exact⟨aag,j5.q.same⟩
      .have χ:=C h9
       have x2:decide ((999:J)<(j:J))=false:=bn ah;obtain⟨q,hq⟩:∃q,q=d+1+(f::o).length:=⟨_,rfl⟩;have f2:(d:J)+1+((f::o).length:J)=(q:J):=by omega
       have f3:(d:J)+1+((o.length:J)+1)=(q:J):=by simp at hq;omega
       have f4:q<=2000000:=by have:=x0.q;omega
       have j7:=j4.q.to (f::o).length rfl v4.q q hq;have x3:=j6.q.1;have x4:=j6.q.2.1;have x5:¬A=R:=v5.q;have f5:¬R=A:=λe=>v5.q e.symm
       have ζ:=C (j7.1.put A 1 (L M (j:J)) ψ.q);have j8:=C ((j5.q.trans j7.2).put A 1 (L M (j:J)) y4.q);have ι:Hid (Bx ((w5.setCell ⟨R,1,I⟩ (L M (q:J))).setCell ⟨A,1,I⟩ (L M (j:J))) A #[H ⟨m.toArray⟩,L M (j:J)]):=C ((j6.q.setOther R 1 (L M (q:J)) x5).aX 1 ak (L M (j:J)));clear h9 hq j7;go_wp2_with fail;revert ζ j8 ι;generalize((w5.setCell ⟨R,1,I⟩ (L M (q:J))).setCell ⟨A,1,I⟩ (L M (j:J)))=Z;intro ζ j8 ι;clear x3 x4 z1 c1;have q4:Hid (R+1<=(Z.drew.alloc (.cells #[H ⟨m.toArray⟩,L M (j:J)] 61)).1.size):=C (by have:=ζ.q.x.2.2;simp;omega);refine aD 12 [(0,1),(1,1),(2,1),(3,1),(4,1),(5,0),(6,0),(7,2),(8,2),(9,1),(10,1),(11,1),(12,2)] (λ_=>True) (λk=>k.cell? ⟨R,5,I⟩=O (.slice c.va c.vn c.vc)/\k.cell? ⟨A,0,I⟩=O (H ⟨m.toArray⟩)/\k.cell? ⟨A,1,I⟩=O (L M (j:J))) au au (trivial) (⟨ζ.q.drew.c5,ι.q.drew.1 0,ι.q.drew.1 1⟩) ?_;refine qC ?_;refine aG rfl rfl (λK g=>?_);go_simp;refine g _ _ ⟨trivial,(ζ.q.drew.below (aB (Below.refl _ _) _)).c5,(ι.q.drew.alloc _).1 0,(ι.q.drew.alloc _).1 1⟩ ?_;clear g K;refine aG rfl rfl (λK g=>?_);refine gK _ _ 32 rfl i z 24 underlying32 Y.q.1 Y.q.2.1 Y.q.2.2.1 Y.q.2.2.2.1 Y.q.2.2.2.2 rfl (ζ.q.drew.n.2.2.alloc _) (O ⟨Z.1.size,0,I⟩) 1 1 (c.vn+1) [⟨m,j⟩] rfl (Row.toN rfl ⟨m,j⟩) z3.q z4.q z5.q q4.q ?_;intro a' c' w7 k3 q1 k4;have q2:=(ζ.q.drew.x.keep (aB (Below.refl _ _) (.cells #[H ⟨m.toArray⟩,L M (j:J)] 61))).grown q1 z2.q;have ο:=C (ζ.q.drew.jr (aB (Below.refl _ _) (.cells #[H ⟨m.toArray⟩,L M (j:J)] 61)) a' c' k3 q1 k4);have j9:Bx w7 A #[H ⟨m.toArray⟩,L M (j:J)]:=(ι.q.drew.alloc _).grown q1 ψ.q.2.2;refine g _ _ ⟨trivial,q2.1 5,j9.1 0,j9.1 1⟩ ?_;have f6:=q2.1 5;have f7:=q2.2.1 5;clear g K k3 q1 k4 q2 j9;refine qC ?_;refine bA rfl rfl rfl (λK g=>?_);go_simp;refine g _ _ trivial ?_;clear g K;refine aH ?_;go_wp2_with fail;refine bodyPost_end (results_none rfl _ _ _) rfl ?_;show dA R s c w _ _ _ _;rw[P.q,F.q,θ.q,ay χ.q];exact⟨rfl,q,_,ο.q.1,(j8.q.trans (Mv.of_below (Below.refl _ _).drew)).trans ο.q.2⟩
     .have χ:=C h9
      clear h9;go_wp2_with fail;refine(k2.q _).mono ?_;rintro e w9 ⟨rfl,rfl⟩;refine⟨rfl,?_⟩;show dA R s c w _ _ _ _;rw[P.q,F.q,θ.q,aA χ.q];exact⟨aag,j5.q.same⟩
   .have y0:((b2.toNat:J)!=46)=V:=mO.2 (λe=>Γ (gD.1 (by show b2.toNat=46;omega)))
    have F:Hid (dN (S::t0)= .error (b2::y,220)):=C (by rw[q7.q,ay (by simpa using Γ)]);have HQ:Hid (s.length - (b2::y).length=d):=C ah;clear Γ
    go_wp2_with (go_quiet (fail))
    refine(jS d 220 _).mono ?_;rintro e w9 ⟨rfl,rfl⟩;refine⟨rfl,?_⟩;show dA R s c w _ _ _ _;rw[P.q,F.q];exact⟨aag,q9.q.same.tr (Same.Mc _ _)⟩
  .have κ:Hid (dO l=V):=C π
   clear π ξ;go_enter func100,ntmps100;go_wp2_with fail;refine aD 99 [(0,0),(1,2),(2,0),(3,0),(4,0),(5,0),(6,0),(7,0),(8,0),(9,0),(10,0),(11,0),(12,0),(13,0),(14,0)] (λ_=>True) (λk=>k.cell? ⟨R,0,I⟩=O (H ⟨s.toArray⟩)/\k.cell? ⟨R,1,I⟩=O (L M p)) au au (trivial) (⟨E.q.drew.c0,E.q.drew.c1⟩) ?_;refine qC ?_;refine aG rfl rfl (λK g=>?_);go_simp;refine(q3.q _ β.q).mono ?_;rintro e w1 ⟨rfl,Q⟩;have u:=E.q.drew.below Q;have μ:=C u;have δ:=C (β.q.bL Q);rw[κ.q];refine g _ _ ⟨trivial,u.c0,u.c1⟩ ?_;clear g K Q u;refine qC ?_;refine aH ?_;go_wp2_with fail;refine(z0.q _ δ.q).mono ?_;intro e w2 he
   cases γ:bU l with
   |error x=>
    rw[γ] at he;obtain⟨rfl,hs⟩:=he;refine⟨rfl,?_⟩;show dA R s c w _ _ _ _;rw[P.q,z9.q x γ];exact⟨rfl,(Same.of_below δ.q (λ_ _ h=>h)).tr hs⟩
   |ok mr=>exact absurd γ (by unfold bU;rw[aA (by rw[κ.q];rfl)];intro h;cases h)
theorem Own.Sw {X:World}{g:N}(h:X.1.size=g)(l:List Bs)(d:l.length<=maxLen):Own (X.alloc (.cells (l.map (λs=>Value.string ⟨s.toArray⟩)).toArray 9)) g 9 1 encStr (.slice (O ⟨g,0,I⟩) l.length l.length) l:=by
 subst h;exact Own.new (hc:=gy) X X.1.size 9 _ l (aC _) (by
  show l.map (λs=>Value.string ⟨s.toArray⟩)=l.flatMap encStr
  induction l with
  |nil=>rfl
  |cons a l e=>rw[kW,og,e (by simp at d;omega)];rfl) d
theorem dL.yY {w:World}{c:aW}(h:dL w R s p l c n)(i:N)(v:Value)(c':aW)(a:aK)(A:i<8)(hc:(oV s p c).setIfInBounds i v=oV s p c')
  (E:c'.na=c.na/\c'.nn=c.nn/\c'.nc=c.nc/\c'.va=c.va/\c'.vn=c.vn/\c'.vc=c.vc) (d:a.names=n.names/\a.aM=n.aM) (f:c'.kind=a.kind/\c'.lvl=a.lvl/\c'.first=a.first/\c'.bits=a.bits):
  dL (w.setCell ⟨R,i,I⟩ v) R s p l c' a/\Mv R c c' w (w.setCell ⟨R,i,I⟩ v):=by
 obtain⟨o,j,r,t,k,u⟩:=E;obtain⟨⟨_,_,_,_,F,K⟩,x,y⟩:=h.n;have z:=h.x.aX i (by simpa using A) v;rw[hc] at z;refine⟨⟨z,⟨⟨f.1,f.2.1,f.2.2.1,f.2.2.2,by rw[j,d.1];exact F,by rw[k,d.2];exact K⟩,?_,?_⟩,h.d,h.le,h.lim⟩,Same.setCell _ _ _ _ (λe=>e.1 rfl),?_,?_⟩
 .rw[o,j,r,d.1];exact x.block λg m=>U _ _ _ _ (by have:=(x.lt g m).1;simp;omega)
 .rw[t,k,u,d.2];exact y.block λg m=>U _ _ _ _ (by have:=(y.lt g m).1;simp;omega)
 .rw[o,j,r];exact λ_ h=> .inl h
 .rw[t,k,u];exact λ_ h=> .inl h
theorem Ej:(∀x∈kM,x.length<=100)/\(∀x∈kM,(128:UInt8)∉x):=by decide
theorem OP {c:aW}(w:World)(h:dL w R s p l c n):
  Calls Tryz.prog 99 #[.pointer (O ⟨R,0,I⟩)] w (dA R s c w (λ_:Unit=> .tuple #[]) (match gW kM l with| .error x=> .error x| .ok (i,r)=> .ok ((),{n with lvl:=1+(i:J)},r))):=by
 obtain⟨X,k⟩:∃X:Except Er (Unit × aK × Bs),X=(match gW kM l with| .error x=> .error x| .ok (i,r)=> .ok ((),{n with lvl:=1+(i:J)},r)):=⟨_,rfl⟩;rw[<-k];have m:=C k;have o:=aB (Below.refl w.1.size w) (.cells #[H ⟨#[49]⟩,H ⟨#[50]⟩,H ⟨#[50,46,57,57]⟩,H ⟨#[51]⟩] 9);have t:=C o;have u:=C (DC _ (h.below o) (O ⟨w.1.size,0,I⟩) 4 4 kM ((Own.Sw rfl kM aj).row aj) aj Ej.1 Ej.2);go_enter func99,ntmps99;go_wp2_with fail;refine u.q.mono ?_;intro e w1 d
 cases a:gW kM l with
 |error x=>
  rw[a] at d;obtain⟨rfl,v⟩:=d;refine⟨rfl,?_⟩;show dA R s c w _ _ _ _;rw[m.q,a];exact⟨rfl,(Same.of_below t (λ_ _ h=>h)).tr v⟩
 |ok y=>
  obtain⟨i,r⟩:=y;rw[a] at d;obtain⟨rfl,q,g,z⟩:=d;have K:i<4:=by
   unfold gW at a
   split at a
   .rename_i j A
    injection a with a;injection a with a _;have:=(BO.1 A).1;subst a;exact this
   .cases a
  have f:=C g;have E:=C ((Mv.of_below t).trans z);have F:=C a;have P:=g.x.1 4;have Q:=f1 g 4
  go_wp2
  apply bodyPost_end (results_none rfl _ _ _) rfl
  show dA R s c w _ _ _ _;rw[m.q,F.q];have:=f.q.yY 4 (L M (1+(i:J))) {c with lvl:=1+(i:J)} {n with lvl:=1+(i:J)} aj rfl ⟨rfl,rfl,rfl,rfl,rfl,rfl⟩ ⟨rfl,rfl⟩ ⟨f.n.1.1,rfl,f.n.1.2.2.1,f.n.1.2.2.2.1⟩;exact⟨rfl,q,_,this.1,E.trans this.2⟩
theorem OQ {b:Bool}(h:dB l= .ok (b,r)):r=bg l:=by
 unfold dB at h
 split at h
 .injection h with h;injection h with _ h;exact h.symm
 .split at h
  .cases h
  .injection h with h;injection h with _ h;exact h.symm
theorem Md (h:dB l= .ok (V,r)):dO r=false:=by
 have e:=OQ h;unfold dB at h
 split at h
 .injection h with h;injection h with h _;cases h
 .rename_i a;rw[e];simpa using a
theorem OT {c:aW}(w:World)(h:dL w R s p l c n)(hn:n.first=false):
  Calls Tryz.prog 103 #[.pointer (O ⟨R,0,I⟩)] w (dA R s c w (λ_:Unit=> .tuple #[]) (match jh l with| .error x=> .error x| .ok (f,r)=> .ok ((),{n with first:=f},r))):=by
 obtain⟨X,E⟩:∃X:Except Er (Unit × aK × Bs),X=(match jh l with| .error x=> .error x| .ok (f,r)=> .ok ((),{n with first:=f},r)):=⟨_,rfl⟩;rw[<-E];have S:=C (λW (hb:Below w.1.size w W)=>xQ W (h.below hb));have HH:=C h;have m:Hid (Below w.1.size w w.drew):=C ((Below.refl _ _).drew);have T:=h.c0;have c1:=h.c1;have z1:=f1 h 1;have ξ:=h.len;have γ:=h.lim;have δ:Hid ({n with first:=false}=n):=C (by rw[<-hn]);have HD:=C h.d
 cases k:dB l with
 |error x=>
  have o:Hid (X= .error x):=C (by rw[E];unfold jh;rw[k]);have u:=C k;have ι:Hid (∀v w',(v=lS (s.length - x.1.length) x.2/\Same (iX R c) w.drew w')->dA R s c w (λ_:Unit=> .tuple #[]) X (.panicked v) w'):=C (by
   rintro v w' ⟨rfl,F⟩;rw[o.q];exact⟨rfl,F.os,F.tape,F.output,F.size,F.block⟩)
  go_enter func103,ntmps103
  go_wp2
  apply cK 99 [(0,0),(1,2),(2,0),(3,0),(4,0),(5,0),(6,0),(7,0),(8,0),(9,0),(10,0),(11,0),(12,0),(13,0)] (λ_=>True) (λy=>y.cell? ⟨R,0,I⟩=O (H ⟨s.toArray⟩)) (λv w'=>v=lS (s.length - x.1.length) x.2/\Same (iX R c) w.drew w') au au (λv a1 w1 hd hr=>⟨hd,ι v w1 hr⟩) (trivial) (T)
  refine qL λK hK=>?_
  apply(S _ m).mono
  intro e Z j;rw[u.q] at j;obtain⟨rfl,hs⟩:=j;exact⟨rfl,rfl,hs⟩
 |ok br=>
  obtain⟨b,r⟩:=br
  cases b with
  |false=>
   have o:Hid (X= .ok ((),{n with first:=false},l)):=C (by rw[E];unfold jh;rw[k]);have u:=C k;go_enter func103,ntmps103
   go_wp2
   apply aD 99 [(0,0),(1,2),(2,0),(3,0),(4,0),(5,0),(6,0),(7,0),(8,0),(9,0),(10,0),(11,0),(12,0),(13,0)] (λ_=>True) (λy=>y.cell? ⟨R,0,I⟩=O (H ⟨s.toArray⟩)) au au (trivial) (T)
   refine qL λK hK=>?_
   apply(S _ m).mono
   intro e Z j;rw[u.q] at j;obtain⟨rfl,q,i,P⟩:=j;have d:=C i;have Q:=C ((Mv.of_below m).trans P)
   apply hK _ _ ⟨trivial,i.c0⟩
   have ε:=i.c1;have ζ:=f1 i 1;refine qC ?_
   apply aH
   go_wp2
   apply bodyPost_end (results_none rfl _ _ _) rfl
   show dA R s c w _ _ _ _;rw[o.q,δ.q];have hx:=d.x.aX 1 ak (L M (p:J));exact⟨rfl,p,c,⟨hx,⟨d.n.1,d.n.2.1.block λg z=>U _ _ _ _ (by have:=(d.n.2.1.lt g z).1;simp;omega),d.n.2.2.block λg z=>U _ _ _ _ (by have:=(d.n.2.2.lt g z).1;simp;omega)⟩,HD,aaf,γ⟩,Q.trans ⟨Same.setCell _ _ _ _ (λe=>e.1 rfl),λ_ h=> .inl h,λ_ h=> .inl h⟩⟩
  |true=>
   have κ:=Md k;obtain⟨A,Y,rfl⟩:∃A Y,r=A::Y:=by cases r with
    |nil=>exact absurd κ aj
    |cons a t=>exact⟨a,t,rfl⟩
   by_cases α:A=45
   .subst α
    have o:Hid (X= .ok ((),{n with first:=true},Y)):=C (by rw[E];unfold jh;rw[k];simp only[];rw[aA (show(45::Y:Bs).head?=O 45 from rfl)];rfl);have u:=C k;go_enter func103,ntmps103
    go_wp2
    apply aD 99 [(0,0),(1,2),(2,0),(3,0),(4,0),(5,0),(6,0),(7,0),(8,0),(9,0),(10,2),(11,0),(12,0),(13,0)] (λ_=>True) (λy=>y.cell? ⟨R,0,I⟩=O (H ⟨s.toArray⟩)) au au (trivial) (T)
    refine qL λK hK=>?_
    apply(S _ m).mono
    intro e Z j;rw[u.q] at j;obtain⟨rfl,q,i,P⟩:=j;have d:=C i;have Q:=C ((Mv.of_below m).trans P)
    apply hK _ _ ⟨trivial,i.c0⟩
    have ε:=i.c1;have ζ:=f1 i 1;have μ:=λW=>dQ Tryz.underlying9 s q 45 i.at_ W
    refine qL λK hK=>?_
    apply hK _ _ ⟨trivial,d.c0⟩
    refine qC ?_
    apply aH
    have ο:q<=1000000:=by have:=d.q.le;have:=d.q.lim;omega
    have β:=d.to 1 rfl ak (q+1) rfl;have η:=β.1.yY 6 (.bool V) {c with first:=true} {n with first:=true} aj rfl ⟨rfl,rfl,rfl,rfl,rfl,rfl⟩ ⟨rfl,rfl⟩ ⟨d.n.1.1,d.n.1.2.1,rfl,d.n.1.2.2.2.1⟩;rw[lV] at β η;have ν:=C β;have θ:=C η;have π:=d.x.1 6;have z6:=f1 d 6
    go_wp2
    apply bodyPost_ret (results_none rfl _ _ _) rfl
    show dA R s c w _ _ _ _;rw[o.q];exact⟨rfl,q+1,_,θ.1,Q.trans (ν.2.trans θ.2)⟩
   .have ρ:((A.toNat:J)==45)=false:=aN.2 (λe=>α (gD.1 (by show A.toNat=45;omega)))
    have o:Hid (X= .ok ((),{n with first:=false},l)):=C (by rw[E];unfold jh;rw[k];simp only[];rw[ay (by simpa using α)]);have u:=C k;go_enter func103,ntmps103
    go_wp2
    apply aD 99 [(0,0),(1,2),(2,0),(3,0),(4,0),(5,0),(6,0),(7,0),(8,0),(9,0),(10,2),(11,0),(12,0),(13,0)] (λ_=>True) (λy=>y.cell? ⟨R,0,I⟩=O (H ⟨s.toArray⟩)) au au (trivial) (T)
    refine qL λK hK=>?_
    apply(S _ m).mono
    intro e Z j;rw[u.q] at j;obtain⟨rfl,q,i,P⟩:=j;have d:=C i;have Q:=C ((Mv.of_below m).trans P)
    apply hK _ _ ⟨trivial,i.c0⟩
    have ε:=i.c1;have ζ:=f1 i 1;have μ:=λW=>dQ Tryz.underlying9 s q A i.at_ W
    refine qL λK hK=>?_
    apply hK _ _ ⟨trivial,d.c0⟩
    refine qC ?_
    apply aH
    go_wp2
    apply bodyPost_end (results_none rfl _ _ _) rfl
    show dA R s c w _ _ _ _;rw[o.q,δ.q];have hx:=d.x.aX 1 ak (L M (p:J));exact⟨rfl,p,c,⟨hx,⟨d.n.1,d.n.2.1.block λg z=>U _ _ _ _ (by have:=(d.n.2.1.lt g z).1;simp;omega),d.n.2.2.block λg z=>U _ _ _ _ (by have:=(d.n.2.2.lt g z).1;simp;omega)⟩,HD,aaf,γ⟩,Q.trans ⟨Same.setCell _ _ _ _ (λe=>e.1 rfl),λ_ h=> .inl h,λ_ h=> .inl h⟩⟩
def yZ:N->N
 |0=>98
 |1=>99
 |_=>100
def uD (a:N)(n:aK)(l:Bs):Except Er (Unit × aK × Bs):=
 if a=0 then(match bU l with| .error x=> .error x| .ok (m,r)=> .ok ((),addN n m,r))
 else if a=1 then(match gW kM l with| .error x=> .error x| .ok (i,r)=> .ok ((),{n with lvl:=1+(i:J)},r))
 else(match dN l with| .error x=> .error x| .ok (v,r)=> .ok ((),jr n v,r))
def jC:List N->aK->Bs->Except Er (Unit × aK × Bs)
 |[],n,l=> .ok ((),n,l)
 |a::t,n,l=>match fu l with
  | .error x=> .error x
  | .ok r=>match uD a n r with
   | .error x=> .error x
   | .ok (_,d,e)=>jC t d e
def xV (R:N)(a:N):List Value:=[.func (.func (yZ a)) #[.pointer (O ⟨R,0,I⟩)] #[]]
theorem Me:∀args w,(callFunc 98 args).run Tryz.prog w= .ok (.enter 98 args) w:=enters_of func98 au rfl
theorem J8:∀args w,(callFunc 99 args).run Tryz.prog w= .ok (.enter 99 args) w:=enters_of func99 au rfl
theorem Mf:∀args w,(callFunc 100 args).run Tryz.prog w= .ok (.enter 100 args) w:=enters_of func100 au rfl
theorem UG {c:aW}(a:N)(w:World)(h:dL w R s p l c n)(d:qE R w)(e:n.names.length<=1000)(f:n.aM.length<=1000):
  Calls Tryz.prog (yZ a) #[.pointer (O ⟨R,0,I⟩)] w (dA R s c w (λ_:Unit=> .tuple #[]) (uD a n l)):=by
 unfold uD
 match a with
 |0=>exact GN w h d.tabs e
 |1=>exact OP w h
 |a+2=>exact CV w h d f
theorem Iz {a:N}{d:aK}{u:Unit}(h:uD a n l= .ok (u,d,r)):d.names.length<=n.names.length+1/\d.aM.length<=n.aM.length+1:=by
 unfold uD at h
 split at h
 .split at h
  .cases h
  .cases h;simp
 .split at h
  .split at h
   .cases h
   .cases h;simp
  .split at h
   .cases h
   .cases h;simp
theorem Mv.row {α:Type}{enc:α->List Value}{c c':aW}{w w':World}(g:Mv R c c' w w'){b o n d:N}{xs:List α}(h:Row w k enc (O ⟨b,o,I⟩) n d xs)(l:iX R c b)(m:b<w.1.size):Row w' k enc (O ⟨b,o,I⟩) n d xs:=
 ⟨h.1,h.2.1,h.2.2.1,h.2.2.2.1,λi x p=>let⟨r,f,e,s⟩:=h.2.2.2.2 i x p;⟨r,f,e,λj v t=>by
  injection e with e;injection e with u y;subst u;exact(World.cell?_of_block (a:=⟨b,f+i*k+j,I⟩) (g.same.block b l m)).trans (s j v t)⟩⟩
theorem tJ {c:aW}(w:World)(h:dL w R s p l c n)(hG:qE R w)(b o j T:N)(f:List N)(Y:Row w 1 (xV R) (O ⟨b,o,I⟩) j T f)(hb:iX R c b)(ι:b<w.1.size)(Φ:j<=10)(hn:n.names.length<=900)(hv:n.aM.length<=900):
  Calls Tryz.prog 101 #[.pointer (O ⟨R,0,I⟩),.slice (O ⟨b,o,I⟩) j T] w (dA R s c w (λ_:Unit=> .tuple #[]) (jC f n l)):=by
 obtain⟨X,Z⟩:=kP (jC f n l);rw[<-Z];have HR:=C Y;have HH:=C h;have HG:=C hG;have κ:=C hb;have μ:=C ι;have HX:=C Z;have HN:=C (⟨hn,hv⟩:_/\_);have Ψ:=Y.len;go_enter func101,ntmps101
 go_wp2
 go_loopw [8] (λi wr=>∃(W:World)(k q:N)(m:Bs)(v:aW)(g:aK),W=wr/\i= L M k/\k<=j/\dL W R s q m v g/\Mv R c v w W/\qE R W/\jC (f.drop k) g m=X/\g.names.length<=900+k/\g.aM.length<=900+k) (λi _=>j - (RowKit.intOf i).toNat)
 case atStart=>exact⟨_,0,p,l,c,n,rfl,rfl,aS _,HH,Mv.refl _ _ _,HG,HX.symm,HN.1,HN.2⟩
 case round=>
  obtain⟨W,k,q,m,v,g,rfl,rfl,hk,F,K,hg,t,h1,h2⟩:=hrel;by_cases ν:k<j
  .obtain⟨a,b',o',ξ,P,ο⟩:=(K.row HR κ μ).at_ ν
   injection P with P;injection P with e1 e2;subst e1 e2;have π:=ο 0 _ rfl;simp only[gP,bK] at π;have ρ:f.drop k=a::f.drop (k+1):=by
    obtain⟨σ,d⟩:=bq.1 ξ;rw[jV σ,d]
   rw[ρ] at t;simp only[jC] at t;have Q:=C F;have y:=C K;have τ:=C hg;have z:=C t;have A:=C (⟨h1,h2⟩:_/\_);have υ:=C (Iq W F);go_wp2_with fail;refine υ.q.mono ?_;intro e w2 d
   cases E:fu m with
   |error x=>
    rw[E] at d;obtain⟨rfl,S⟩:=d;refine⟨rfl,?_⟩;show dA R s c w _ _ _ _;rw[<-z.q,E];exact⟨rfl,y.iJ S⟩
   |ok r=>
    rw[E] at d;obtain⟨rfl,q2,α,β⟩:=d;have γ:Hid ((match uD a g r with| .error x=> .error x| .ok (_,n',r')=>jC (f.drop (k+1)) n' r')=X):=C (by have:=z.q;rw[E] at this;exact this);have φ:=C α;have δ:=C (y.trans β);have ε:=C (τ.mv Q β.same);have χ:=C (UG a w2 α ε (by have:=A.q;omega) (by have:=A.q;omega));have Ω:∀ζ w,(callFunc (yZ a) ζ).run Tryz.prog w= .ok (.enter (yZ a) ζ) w:=by
     match a with
     |0=>exact Me
     |1=>exact J8
     |a+2=>exact Mf
    go_wp2
    apply χ.mono
    intro e w3 d
    cases ha:uD a g r with
    |error x=>
     rw[ha] at d;obtain⟨rfl,S⟩:=d;refine⟨rfl,?_⟩;show dA R s c w _ _ _ _;rw[<-γ.q,ha];exact⟨rfl,δ.iJ S⟩
    |ok ur=>
     obtain⟨u,n3,r3⟩:=ur;rw[ha] at d;obtain⟨rfl,q3,c3,ψ,η⟩:=d;have ω:=Iz ha;have Γ:Hid (jC (f.drop (k+1)) n3 r3=X):=C (by have:=γ.q;rw[ha] at this;exact this);have Δ:=C ψ;have Θ:=C (δ.trans η);have Ξ:=C (ε.mv φ η.same);have θ:=C ω
     go_wp2
     go_roundw
     case rel=>exact⟨_,k+1,q3,r3,c3,n3,rfl,by go_num,by omega,Δ,Θ,Ξ,Γ,by have:=θ.q;have:=A.q;omega,by have:=θ.q;have:=A.q;omega⟩
     case measure=>simp[RowKit.intOf];omega
  .obtain rfl:k=j:=by omega
   rw[List.drop_of_length_le ah] at t;have z:Hid (X= .ok ((),g,m)):=C t.symm;have Q:=C F;have y:=C K
   go_wp2
   apply bodyPost_end (results_none rfl _ _ _) rfl
   show dA R s c w _ _ _ _;rw[z.q];exact⟨rfl,q,v,Q,y⟩
attribute [local go_sem] Oper.semAt_some
section
variable {h:HC}{nl:N->List Bs}{es:List EvC}{ds:List aO}{ms:List aP}{qs:List Wa}{scan:EvC->List Sn}{dn:aO->List J}{mn:aP->List J}
end
end Yd
namespace Yd
open Go Go.RowKit Go.Proofs Tryz
open Same renaming of_below->C
attribute [local go_sem] Oper.semAt_some
theorem Row.UH (w:World)(s:Int):Row (w.alloc (.cells #[.int .i64 s] 3)) 1 aQ (some ⟨w.1.size,0,none⟩) 1 1 [s]:=
 (Own.new (hc:=fA) w w.1.size 3 (enc:=aQ) #[.int .i64 s] [s] (aC _) rfl (by simp[maxLen])).row (hc:=fA) ak
def Oi (B:Nat)(v:Value)(d:List Int)(w:World)(e:Ending)(w':World):Prop:=
 ∃a,e= .returned a/\Own w' B 3 1 aQ a d/\Same (λi=>some i≠v.ownBlock) w w'/\(a.ownBlock=v.ownBlock\/∃g,w.1.size<=g/\a.ownBlock=some g)
theorem XH (a:Option Addr)(n c:Nat)(xs:List Int)(x:Int)(w:World)(f:Row w 1 aQ a n c xs):
  Calls Tryz.prog 90 #[.slice a n c,.int .i64 x] w λe w'=>∃r:Int,bT (.int .i64 r) w e w'/\decide (0<=r)=decide (x∈xs):=by
 have E:=f.le;have m:=hid f;have F:=f.cap;go_enter func90,ntmps90
 go_wp2
 go_loopw [9] (λi wr=>∃k:Nat,k<=n/\i= .int .i64 k/\x∉xs.take k/\Below w.1.size w wr) (λi _=>n - (RowKit.intOf i).toNat)
 case atStart=>exact⟨0,aS _,rfl,by simp,Below.refl _ _⟩
 case round=>
  obtain⟨k,K,rfl,p,g⟩:=hrel;by_cases t:k<n
  .obtain⟨y,b,o,u,rfl,v⟩:=m.at_ t
   have z:=aZ g rfl (v 0 _ rfl);simp only[gP,bK] at z;have s:=hid u;have j:=hid p;have d:=hid g;by_cases l:y=x
   .subst l
    go_wp2
    go_ret;exact⟨k,⟨rfl,d⟩,by rw[bG (Int.natCast_nonneg k),bG (bS s.q)]⟩
   .have P:(y==x)=false:=by simpa using l
    have A:=hid l
    go_wp2
    go_roundw
    case rel=>exact⟨k+1,by omega,by go_num,by rw[eD,s.q];simp only[Option.toList_some,cu,dw,not_or];exact⟨j,λe=>A e.symm⟩,d⟩
    case measure=>simp[RowKit.intOf];omega
  .obtain rfl:n=k:=by omega
   have j:=hid p;have d:=hid g
   go_wp2
   go_ret;exact⟨-1,⟨rfl,d⟩,by
    have:=j.q;rw[eF (by rw[m.q.len];exact aC _)] at this;rw[bn this];rfl⟩
theorem Ik (B:Nat)(v:Value)(xs:List Int)(x:Int)(w:World)(l:Own w B 3 1 aQ v xs)(E:B<=w.1.size)(y:xs.length<=1000):
  Calls Tryz.prog 149 #[v,.int .i64 x] w (Oi B v (jQ xs x) w):=by
 obtain⟨a,c,rfl,_,_⟩:=l.shape;have F:=l.row (hc:=fA) ah;have A:=hid (XH a xs.length c xs x w F);by_cases m:x∈xs
 .have o:Hid (jQ xs x=xs):=hid (by simp[jQ,m])
  have p:=hid m;have s:=hid l;go_enter func149,ntmps149;go_wp2_with fail;refine A.q.mono ?_;rintro e w1 ⟨r,⟨rfl,d⟩,f⟩;rw[bG p.q] at f;have K:(0:Int)<=r:=oH f;have g:=hid d
  go_wp2
  go_ret;exact⟨_,rfl,by rw[o.q];exact s.below g rfl,C g (λ_ _ h=>h),.inl rfl⟩
 .have o:Hid (jQ xs x=xs++[x]):=hid (by simp[jQ,m])
  have p:=hid m;have s:=hid l;obtain⟨i,z,t,P,Q,R,S⟩:=qZ;have j:=hid (⟨t,P,Q,R,S⟩:_/\_/\_/\_/\_);obtain⟨n,T⟩:=kP (xs.length);have HN:=hid T;have W:Hid ((xs.length+1)*8<=140737488355328):=hid ah;have Y:Hid (xs.length+1<=maxLen):=hid (by unfold maxLen;omega);have δ:=hid E;go_enter func149,ntmps149;go_wp2_with fail;refine A.q.mono ?_;rintro e w1 ⟨r,⟨rfl,d⟩,f⟩;rw[bn p.q] at f;have K:¬(0:Int)<=r:=of_decide_eq_false f;have g:=hid d;have Z:Hid (B<=(w1.alloc (.cells #[.int .i64 x] 3)).1.size):=hid (by have:=d.size;simp;omega);have α:=hid ((s.below d rfl).alloc (.cells #[.int .i64 x] 3))
  go_wp2_with (at_builtin;refine dx rfl _ _ 26 rfl i z 8 underlying26 j.1 j.2.1 j.2.2.1 j.2.2.2.1 j.2.2.2.2 rfl α (some ⟨w1.1.size,0,none⟩) 1 1 (xs.length+1) [x] rfl (Row.UH w1 x) rfl W Y Z ?_;intro a' c' w2 β k γ)
  go_ret;refine⟨_,rfl,by rw[o.q];exact β,?_,?_⟩
  .have s1:Same (λi=>some i≠(Value.slice a xs.length c).ownBlock) w (w1.alloc (.cells #[.int .i64 x] 3)):=(C g (λ_ _ h=>h)).tr (Same.UI _ _)
   exact s1.tr ⟨k.os,k.tape,k.output,k.size,λi t y=>k.block i y t⟩
  .rcases γ with u|u
   .exact .inl u
   .exact .inr ⟨_,by have:=g.q.size;simp;omega,u⟩
theorem Ue (B:Nat)(v:Value)(xs:List Int)(u:je)(w:World)(l:Own w B 3 1 aQ v xs)(m:B<=w.1.size)(o:xs.length<=1000):
  Calls Tryz.prog 150 #[v,.agg #[.int .i64 u.t,.int .i64 u.k]] w (Oi B v (Fb xs u) w):=by
 obtain⟨d,f⟩:=u;have i:=aB (Below.refl w.1.size w) (.cells #[.int .i64 d,.int .i64 f] 47);by_cases j:f=0
 .subst j
  have p:=hid l;have a:=hid i;go_enter func150,ntmps150
  go_wp2
  go_ret;exact⟨_,rfl,p.below a rfl,C a (λ_ _ h=>h),.inl rfl⟩
 .have z:(f==0)=false:=by simpa using j
  have r:=hid (Ik B v xs d _ (l.below i rfl) (cO m i.size) o);have a:=hid i;have s:Hid (Fb xs ⟨d,f⟩=jQ xs d):=hid (by simp[Fb,j]);go_enter func150,ntmps150;go_wp2_with fail;refine r.q.mono ?_;rintro e w1 ⟨A,rfl,t,x,y⟩;have k:=hid (⟨t,x,y⟩:_/\_/\_)
  go_wp2
  go_ret;refine⟨_,rfl,by rw[s.q];exact k.1,(C a (λ_ _ h=>h)).tr k.2.1,?_⟩;rcases k.2.2 with h|⟨g,E,h⟩
  .exact .inl h
  .exact .inr ⟨g,by have:=a.q.size;omega,h⟩
end Yd
namespace Yd
open Bool renaming false->H,true->L
open Option renaming some->M
open Go Go.RowKit Go.Proofs Tryz
open Go renaming World->I
open Go.IntKind renaming i64->N
open Go.Value renaming int->O
open RowKit renaming intOf->J
open Tryz renaming underlying9->U
open Value renaming slice->V
open Yd renaming hid->D
open _root_ renaming Int->C,Nat->G
theorem IB {xs:List (C × C)}(s:C)(h:∀x∈xs,0<=x.2/\x.2<300):(bZ xs s).Nodup/\∀n∈bZ xs s,0<=n/\n<300:=by
 have g:∀(d:List (C × C))(l:List C),(∀x∈d,0<=x.2/\x.2<300)->(l.Nodup/\∀n∈l,0<=n/\n<300)->
   (d.foldl (λl x=>if x.1=s then jQ l x.2 else l) l).Nodup/\∀n∈d.foldl (λl x=>if x.1=s then jQ l x.2 else l) l,0<=n/\n<300:=by
  intro d
  induction d with
  |nil=>intro l _ e;exact e
  |cons y d i=>
   intro l f e
   apply i _ (λx j=>f x (iM _ j))
   dsimp only
   split
   .refine⟨Ch e.1,λn a=>?_⟩
    unfold jQ at a
    split at a
    .exact e.2 n a
    .rcases cu.1 a with a|a
     .exact e.2 n a
     .obtain rfl:n=y.2:=by simpa using a
      exact f y ak
   .exact e
 exact g xs [] h ⟨oC,by simp⟩
theorem G5:∀(m:G)(l:List C),l.Nodup->(∀n∈l,0<=n/\n<(m:C))->l.length<=m:=by
 intro m
 induction m with
 |zero=>
  intro l _ h
  cases l with
  |nil=>exact aC _
  |cons a l=>have:=h a ak;omega
 |succ m g=>
  intro l d h;have e:=g (l.erase (m:C)) (d.erase _) (λn i=>by
   have f:=(d.mem_erase_iff).1 i;have:=h n f.2;have:=f.1;omega)
  rw[List.length_erase] at e
  split at e <;> omega
theorem Ru {xs:List (C × C)}(s:C)(h:∀x∈xs,0<=x.2/\x.2<300):(bZ xs s).length<=1000:=
 cO (G5 300 _ (IB s h).1 (IB s h).2) aj
structure V4 (w:I)(q:G)(c:G->Value)(pre:List (C × C))(bs:List (G × Array Value))(X:I):Prop where
 b:Below w.1.size w X
 Q:Bx X q #[c 0,c 1,c 2,c 3]
 o:∀i:G,i<4->Own X (q+1) 3 1 aQ (c i) (bZ pre i)
 ap:∀i j:G,i<4->j<4->i≠j->∀g,(c i).ownBlock=M g->(c j).ownBlock≠M g
 E:∀p∈bs,Bx X p.1 p.2/\p.1≠q/\∀i:G,i<4->(c i).ownBlock≠M p.1
 ok:∀x∈pre,0<=x.2/\x.2<300
 hq:w.1.size<=q
section
variable {w X w1:I}{q:G}{c:G->Value}{pre:List (C × C)}{bs:List (G × Array Value)}
theorem V4.len (h:V4 w q c pre bs X)(s:C):(bZ pre s).length<=1000:=Ru s h.ok
theorem V4.base (h:V4 w q c pre bs X):q+1<=X.1.size:=h.Q.2.2
variable{i:G}
theorem V4.XI (h:V4 w q c pre bs X)(a:i<4):(c i).ownBlock≠M q:=λe=>by have:=((h.o i a).lt q e).1;omega
theorem V4.below_ (h:V4 w q c pre bs X)(a:Below X.1.size X w1):V4 w q c pre bs w1:=
 ⟨h.b.trans (a.mono h.b.size),h.Q.keep a,λi e=>(h.o i e).below a rfl,h.ap,λp d=>⟨(h.E p d).1.keep a,(h.E p d).2⟩,h.ok,h.hq⟩
theorem V4.alloc (h:V4 w q c pre bs X)(cs:Array Value)(T:TypeId):V4 w q c pre ((X.1.size,cs)::bs) (X.alloc (.cells cs T)):=by
 have a:=h.below_ (aB (Below.refl _ _) (.cells cs T));refine⟨a.b,a.Q,a.o,a.ap,λp d=>?_,a.ok,a.hq⟩;rcases dP.1 d with rfl|d
 .exact⟨Bx.new X cs T,by have:=h.Q.2.2;show X.1.size≠q;omega,λi f e=>Nat.lt_irrefl _ ((h.o i f).lt _ e).2⟩
 .exact a.E p d
theorem V4.drop {p:G × Array Value}(h:V4 w q c pre (p::bs) X):V4 w q c pre bs X:=⟨h.b,h.Q,h.o,h.ap,λp a=>h.E p (iM _ a),h.ok,h.hq⟩
theorem V4.iq {b:G}{cs:Array Value}(h:V4 w q c pre ((b,cs)::bs) X):Bx X b cs:=(h.E (b,cs) ak).1
theorem V4.at_ (h:V4 w q c pre bs X)(a:i<4):X.cell? ⟨q,i,none⟩=M (c i):=by
 rw[h.Q.1 i]
 match i,a with
 |0,_=>rfl
 |1,_=>rfl
 |2,_=>rfl
 |3,_=>rfl
theorem V4.called (h:V4 w q c pre bs X)(a:i<4)(d:Same (λg=>M g≠(c i).ownBlock) X w1):Bx w1 q #[c 0,c 1,c 2,c 3]:=d.bx h.Q (λe=>h.XI a e.symm)
theorem V4.step (h:V4 w q c pre bs X)(m:i<4){v:Value}{p:List C}(u:List (C × C))(K:Own w1 (q+1) 3 1 aQ v p)(o:Same (λg=>M g≠(c i).ownBlock) X w1)
  (T:v.ownBlock=(c i).ownBlock\/∃g,X.1.size<=g/\v.ownBlock=M g) (W:∀x∈u,0<=x.2/\x.2<300)
  (Y:p=bZ (pre++u) i) (Z:∀j:G,j<4->j≠i->bZ (pre++u) j=bZ pre j):∃c',V4 w q c' (pre++u) bs (w1.setCell ⟨q,i,none⟩ v):=by
 have P:∀g,g<X.1.size->v.ownBlock=M g->(c i).ownBlock=M g:=λg f e=>by
  rcases T with s|⟨g',s,y⟩
  .rw[<-s];exact e
  .rw[y] at e;injection e with e;omega
 have A:Same (λg=>g≠q) w1 (w1.setCell ⟨q,i,none⟩ v):=(Same.refl' _).setTail (λhn=>hn rfl);have hQ:=h.called m o;refine⟨λj=>if j=i then v else c j,?_,?_,?_,?_,?_,?_,h.hq⟩
 .refine A.below (o.below h.b (λg f e=>?_) h.b.size) (λg f=>by have:=h.hq;omega) (cO h.b.size o.size)
  have:=((h.o i m).lt g e.symm).1;have:=h.hq;omega
 .have:=hQ.aX i (by simpa using m) v
  refine cast (cZ (λz=>Bx _ q z) ?_) this
  match i,m with
  |0,_=>rfl
  |1,_=>rfl
  |2,_=>rfl
  |3,_=>rfl
 .intro j a
  by_cases d:j=i
  .subst d
   simp only[aA];rw[<-Y];exact K.block λg f=>A.block g (by have:=(K.lt g f).1;omega) (K.lt g f).2
  .simp only[ay d]
   rw[Z j a d];refine(h.o j a).block λg f=>?_
   have R:=(h.o j a).lt g f;rw[A.block g ah (kS R.2 o.size)];exact o.block g (λe=>h.ap i j m a (Ne.symm d) g e.symm f) R.2
 .intro j k a E F g r l
  by_cases d:j=i
  .subst d
   simp only[aA] at r;rw[ay (Ne.symm F)] at l;exact h.ap k j E a (Ne.symm F) g l (P g ((h.o k E).lt g l).2 r)
  .rw[ay d] at r
   by_cases S:k=i
   .subst S
    simp only[aA] at l;exact h.ap j k a E F g r (P g ((h.o j a).lt g r).2 l)
   .rw[ay S] at l
    exact h.ap j k a E F g r l
 .intro α hp
  obtain⟨s,y,Q⟩:=h.E α hp;refine⟨A.bx (o.bx s (λe=>Q i m e.symm)) y,y,λj a e=>?_⟩;by_cases d:j=i
  .subst d
   simp only[aA] at e;exact Q j a (P _ s.2.2 e)
  .rw[ay d] at e
   exact Q j a e
 .intro x t
  rcases cu.1 t with t|t
  .exact h.ok x t
  .exact W x t
theorem Ud (a:List (C × C))(i:G)(n:C):jQ (bZ a i) n=bZ (a++[((i:C),n)]) i:=by rw[kG];simp
theorem Oj (a:List (C × C))(i:G)(n:C):∀j:G,j<4->j≠i->bZ (a++[((i:C),n)]) j=bZ a j:=λj _ d=>by rw[kG,ay (by simp;omega)]
theorem Uf {v:je}(a:List (C × C))(d:0<=v.k):Fb (bZ a (0:G)) v=bZ (a++ig v) (0:G):=by
 unfold Fb ig;by_cases h:v.k=0
 .rw[aA h,ay ah,eG]
 .rw[ay h,aA ah,kG];simp
theorem Ol {v:je}(a:List (C × C)):∀j:G,j<4->j≠0->bZ (a++ig v) j=bZ a j:=λj _ d=>by
 unfold ig
 split
 .rw[kG,ay (by simp;omega)]
 .rw[eG]
end
theorem DF {v:je}{R:G}(h:gJ v R=L):0<=v.k:=by
 unfold gJ at h
 split at h
 .omega
 .simp only[bD,bO] at h;omega
theorem Q6 {R i j k:G}{e:EvC}{y:List Sn}(h:gY R i j k e y=L):((e.kind=2\/e.kind=3)->0<=e.v.k)/\∀s∈y,0<=s.v.k:=by
 simp only[gY,bD] at h;obtain⟨⟨⟨⟨_,_⟩,r⟩,a⟩,d⟩:=h;refine⟨λl=>?_,λs f=>?_⟩
 .unfold hasB at a
  rw[ay ah] at a;rcases l with m|o
  .rw[aA m] at a;simp only[bD] at a;exact DF a.1.1.2
  .rw[ay ah,aA o] at a;simp only[bD] at a;exact DF a.2
 .by_cases g:e.kind=4
  .simp[hasB,g] at a
   obtain⟨⟨_,_⟩,ha⟩:=a;have:=ha s f;simp only[ji,bD] at this;exact DF this.2
  .have p:y=[]:=by
    unfold fD at d;rw[ay g] at d
    split at d
    .simpa using(by simp only[bD,bO] at d;exact d.2)
    .split at d <;> (simp only[bD,bO] at d;exact d.2)
   rw[p] at f;cases f
@[reducible] def rG (s:Bs)(p:G)(e:C):Array Value:=#[.string ⟨s.toArray⟩,O N (p:C),O N e]
structure cB (w:I)(B:G)(s:Bs)(p:G)(l:Bs)(e:C):Prop where
 x:Bx w B (rG s p e)
 d:s.drop p=l
 le:p<=s.length
 lim:s.length<=1000000
variable{p:G}{s l:Bs}{e:C}
theorem cB.below {w w':I}{B:G}(h:cB w B s p l e)(a:Below w.1.size w w'):cB w' B s p l e:=⟨h.x.keep a,h.d,h.le,h.lim⟩
theorem cB.drew {w:I}{B:G}(h:cB w B s p l e):cB w.drew B s p l e:=⟨h.x,h.d,h.le,h.lim⟩
theorem cB.len {w:I}{B:G}(h:cB w B s p l e):p+l.length=s.length:=by
 have:=h.le;rw[<-h.d,dY];omega
theorem cB.at_ {w:I}{B:G}{t:Bs}{b:UInt8}(h:cB w B s p (b::t) e):s[p]?=M b:=by
 have:=cZ (λl=>l[0]?) h.d
 simpa using this
theorem cB.lt {w:I}{B:G}(h:cB w B s p l e):B<w.1.size:=h.x.2.2
@[reducible] def Cs (B:G)(w w':I):Prop:=Same (λi=>i≠B) w w'
theorem Cs.of_below {B:G}{w w':I}(h:Below w.1.size w w'):Cs B w w':=Same.of_below h (λ_ _ h=>h)
theorem Cs.mv {B:G}{w w':I}(h:Cs B w w')(c:aW):Mv B c c w w':=⟨⟨h.os,h.tape,h.output,h.size,λi a d=>h.block i a.1 d⟩,λ_ h=> .inl h,λ_ h=> .inl h⟩
theorem cB.drewN {w:I}{B:G}(h:cB w B s p l e)(n:G):cB (w.drewN n) B s p l e:=⟨h.x,h.d,h.le,h.lim⟩
theorem Cs.drewN (B:G)(w:I)(n:G):Cs B w (w.drewN n):=⟨rfl,rfl,rfl,aC _,λ_ _ _=>rfl⟩
theorem cB.go {w:I}{B:G}(h:cB w B s p l e)(k:G)(f:k<=l.length)(q:G)(a:q=p+k):
  cB (w.setCell ⟨B,1,none⟩ (O N (q:C))) B s q (l.drop k) e/\Cs B w (w.setCell ⟨B,1,none⟩ (O N (q:C))):=by
 subst a;have d:=h.x.aX 1 ak (O N ((p+k:G):C));refine⟨⟨d,by rw[<-h.d,mD],by have:=h.len;omega,h.lim⟩,Same.setCell _ _ _ _ (λe=>e rfl)⟩
theorem cB.err {w:I}{B:G}(h:cB w B s p l e)(m:C):
  cB (w.setCell ⟨B,2,none⟩ (O N m)) B s p l m/\Cs B w (w.setCell ⟨B,2,none⟩ (O N m)):=
 ⟨⟨h.x.aX 2 ak (O N m),h.d,h.le,h.lim⟩,Same.setCell _ _ _ _ (λe=>e rfl)⟩
def xZ {α:Type}(B:G)(s:Bs)(w:I)(val:α->Value)(x:Except Er (α × Bs))(e:Ending)(w':I):Prop:=
 ∃(a:α)(g:G)(d:Bs)(f:C),e= .returned (val a)/\cB w' B s g d f/\Cs B w w'/\(match x with| .ok (i,r)=>a=i/\d=r/\f=0| .error (r,m)=>d=r/\f=m/\m≠0)
theorem gq {B:G}(w:I)(h:cB w B s p l 0)(k:G)(f:k<=l.length)(q:G)(g:q=p+k)(m:C):
  Calls Tryz.prog 31 #[.pointer (M ⟨B,0,none⟩),O N (q:C),O N m] w λe w'=>e= .returned (.tuple #[])/\cB w' B s q (l.drop k) m/\Cs B w w':=by
 have j:=h.x.1 2;have o:=h.x.2.1 1;have r:=h.x.2.1 2;have t:=h.x.1 1;have a:=h.go k f q g;have d:=a.1.err m;have i:=D (⟨d.1,a.2.tr d.2⟩:_/\_);clear h a d f g;go_enter Tryz.func31,Tryz.ntmps31;go_wp2_with fail;refine bodyPost_end (results_none rfl _ _ _) rfl ?_;exact⟨rfl,i.q.1,i.q.2⟩
variable{a:C}
theorem Ba {B:G}(w:I)(h:cB w B s p l a)(d:a≠0)(q:C)(m:C):
  Calls Tryz.prog 31 #[.pointer (M ⟨B,0,none⟩),O N q,O N m] w λe w'=>e= .returned (.tuple #[])/\cB w' B s p l a/\Cs B w w':=by
 have g:=h.x.1 2;have i:(a==0)=H:=aN.2 d;have f:=D h;clear h d;go_enter Tryz.func31,Tryz.ntmps31;go_wp2_with fail;refine bodyPost_end (results_none rfl _ _ _) rfl ?_;exact⟨rfl,f.q,Same.refl' _⟩
theorem uW {B:G}(w:I)(h:cB w B s p l e):Calls Tryz.prog 26 #[.pointer (M ⟨B,0,none⟩)] w (bT (.bool (dO l)) w):=by
 have k:=h.x.1 0;have m:=h.x.1 1;have a:=h.len;have o:=h.lim
 cases f:l with
 |nil=>
  obtain rfl:p=s.length:=by rw[f] at a;simpa using a
  have g:=dW s;clear h a;go_enter Tryz.func26,Tryz.ntmps26
  go_wp2_with (go_quiet (fail))
  go_ret;exact⟨rfl,dm (Below.refl _ _) _⟩
 |cons b t=>
  subst f;have r:=λW=>dQ U s p b h.at_ W
  have u:p<s.length:=by simp at a;omega
  have g:=dW s;have v:((p:C)==(s.length:C))=H:=aN.2 ah;clear h a;by_cases i:b.toNat=10
  .have d:((b.toNat:C)==10)=L:=by simp[i]
   go_enter Tryz.func26,Tryz.ntmps26
   go_wp2_with (go_quiet (fail))
   go_ret;exact⟨by rw[oz,d];rfl,dm (Below.refl _ _) _⟩
  .have d:((b.toNat:C)==10)=H:=aN.2 ah
   cases j:((b.toNat:C)==35)
   all_goals
    go_enter Tryz.func26,Tryz.ntmps26
    go_wp2_with (go_quiet (fail))
    go_ret;exact⟨by rw[oz,d,j];rfl,dm (Below.refl _ _) _⟩
theorem DV {B:G}(w:I)(h:cB w B s p l 0):
  Calls Tryz.prog 25 #[.pointer (M ⟨B,0,none⟩)] w λe w'=>e= .returned (.bool (decide ((bg l).length<l.length)))/\(∃q,cB w' B s q (bg l) 0)/\Cs B w w':=by
 have hz:=dW s;have P:=D h;have Q:=h.x.1 1;have E:=h.len;have β:=h.lim;have F:=D E;clear h E;go_enter Tryz.func25,Tryz.ntmps25;go_wp2_with fail
 go_loopw [] (λwr=>∃(W:I)(q:G)(i:Bs),W=wr/\cB W B s q i 0/\Cs B w W/\bg i=bg l/\i.length<=l.length) (λwr=>(match wr.cell? ⟨B,1,none⟩ with|some (O _ q)=>s.length - q.toNat|_=>0))
 case atStart=>exact⟨_,p,l,rfl,P.q,Same.refl' _,rfl,aC _⟩
 case round=>
  obtain⟨W,q,i,rfl,a,j,k,m⟩:=hrel;have g:=D a;have r:=D j;have u:=D k;have K:=D m;have c0:=a.x.1 0;have Q:=a.x.1 1;have c2:=a.x.1 2;have z1:=a.x.2.1 1;have R:=D a.len
  cases i with
  |nil=>
   obtain rfl:q=s.length:=by have:=a.len;simpa using this
   have S:decide ((s.length:C)<(s.length:C))=H:=by simp
   clear a j k m
   go_wp2_with (go_quiet (fail))
   go_ret;have:=F.q;rw[show(bg l)=[] from u.q.symm];have v:decide (p<s.length)=decide (([]:Bs).length<l.length):=decide_eq_decide.2 (by show p<s.length↔0<l.length;omega);exact⟨by rw[<-v];rfl,⟨_,g.q.drewN nq⟩,r.q.tr (Cs.drewN _ _ _)⟩
  |cons b t=>
   have γ:=λT=>dQ U s q b a.at_ T
   have Y:q<s.length:=by have:=a.len;simp at this;omega
   have S:decide ((q:C)<(s.length:C))=L:=by simp;exact Y
   by_cases Z:b.toNat=32
   .have x:((b.toNat:C)==32)=L:=by simp[Z]
    have o:Hid (jF b=L):=D (by rw[<-uw];unfold rV;rw[x];rfl);clear a j k m
    go_wp2_with (go_quiet (fail))
    have d:=(g.q.drewN nq).go 1 ak (q+1) rfl;rw[lV] at d;have f:=D d;clear d;go_roundw
    case rel=>exact⟨_,q+1,t,rfl,f.q.1,r.q.tr ((Cs.drewN _ _ _).tr f.q.2),by rw[<-u.q,tF o.q],by have:=K.q;simp at this;omega⟩
    case measure=>
     have y:(((W.drewN nq).setCell ⟨B,1,none⟩ (O N ((q:C)+1))).cell? ⟨B,1,none⟩)=M (O N ((q+1:G):C)):=f.q.1.x.1 1;have z:W.cell? ⟨B,1,none⟩=M (O N (q:C)):=g.q.x.1 1;simp only[y,z,gF];omega
   .have x:((b.toNat:C)==32)=H:=aN.2 ah
    by_cases h9:b.toNat=9
    .have A:((b.toNat:C)==9)=L:=by simp[h9]
     have o:Hid (jF b=L):=D (by rw[<-uw];unfold rV;rw[A,Bool.or_true]);clear a j k m
     go_wp2_with (go_quiet (fail))
     have d:=(g.q.drewN nq).go 1 ak (q+1) rfl;rw[lV] at d;have f:=D d;clear d;go_roundw
     case rel=>exact⟨_,q+1,t,rfl,f.q.1,r.q.tr ((Cs.drewN _ _ _).tr f.q.2),by rw[<-u.q,tF o.q],by have:=K.q;simp at this;omega⟩
     case measure=>
      have y:(((W.drewN nq).setCell ⟨B,1,none⟩ (O N ((q:C)+1))).cell? ⟨B,1,none⟩)=M (O N ((q+1:G):C)):=f.q.1.x.1 1;have z:W.cell? ⟨B,1,none⟩=M (O N (q:C)):=g.q.x.1 1;simp only[y,z,gF];omega
    .have A:((b.toNat:C)==9)=H:=aN.2 ah
     have o:Hid (jF b=H):=D (by rw[<-uw];unfold rV;rw[x,A];rfl);clear a j k m
     go_wp2_with (go_quiet (fail))
     go_ret;have:=F.q;have h1:=R.q;have α:bg l=b::t:=by rw[<-u.q,zm o.q]
     rw[α];have v:decide (p<q)=decide ((b::t).length<l.length):=decide_eq_decide.2 ah;exact⟨by rw[<-v];rfl,⟨_,g.q.drewN nq⟩,r.q.tr (Cs.drewN _ _ _)⟩
def OV (B:G)(s:Bs)(w:I)(x:Except Er (Bool × Bs))(e:Ending)(w':I):Prop:=
 ∃(a:Bool)(g:G)(d:Bs)(f:C),e= .returned (.bool a)/\cB w' B s g d f/\Cs B w w'/\(match x with| .ok (i,r)=>a=i/\d=r/\f=0| .error (r,m)=>a=H/\d=r/\f=m/\m≠0)
theorem OV.res {B:G}{w:I}{x:Except Er (Bool × Bs)}{e:Ending}{w':I}(h:OV B s w x e w'):xZ B s w (λb:Bool=> .bool b) x e w':=by
 obtain⟨a,f,g,i,j,k,l,d⟩:=h;refine⟨a,f,g,i,j,k,l,?_⟩
 cases x with
 |ok y=>exact d
 |error y=>exact d.2
theorem Gb {B:G}(w:I)(h:cB w B s p l 0):Calls Tryz.prog 30 #[.pointer (M ⟨B,0,none⟩)] w (OV B s w (dB l)):=by
 have F:=D (DV w h);have T:=h.x.1 2;obtain⟨X,x⟩:=kP (dB l);rw[<-x];have m:=D x;go_enter Tryz.func30,Tryz.ntmps30;go_wp2_with fail;refine F.q.mono ?_;rintro e w1 ⟨rfl,⟨q,o⟩,K⟩;have g:=D o;have y:=D K;have z:=o.x.1 2;have P:=o.x.1 1;have W:=zO l
 cases A:decide ((bg l).length<l.length)
 .have r:(bg l).length=l.length:=by simp at A;omega
  have t:=D r;go_wp2_with fail;refine(uW w1 g.q).mono ?_;rintro e u ⟨rfl,f⟩;have a:=D (g.below f);have i:=D (y.tr (Cs.of_below f));have z:=a.q.x.1 2;have P:=a.q.x.1 1
  cases j:dO (bg l)
  .have d:=D j
   go_wp2_with fail;refine(gq u a.q 0 (aS _) q rfl 220).mono ?_;rintro e Q ⟨rfl,R,S⟩;have k:=D R;have v:=D (i.tr S);have z:=k.x.1 2
   go_wp2
   go_ret;refine⟨H,q,bg l,220,rfl,k,v,?_⟩;rw[m.q];unfold dB;rw[ay (by rw[d.q];simp),aA t.q];exact⟨rfl,rfl,rfl,by decide⟩
  .have d:=D j
   go_wp2_with fail;refine(uW u a.q).mono ?_;rintro e Q ⟨rfl,E⟩;have k:=D (a.below E);have v:=D (i.tr (Cs.of_below E));rw[d.q]
   go_wp2
   go_ret;refine⟨H,q,bg l,0,rfl,k,v,?_⟩;rw[m.q];unfold dB;rw[aA d.q];exact⟨rfl,rfl,rfl⟩
 .have r:¬(bg l).length=l.length:=by simp at A;omega
  have t:=D r;go_wp2_with fail;refine(uW w1 g.q).mono ?_;rintro e u ⟨rfl,f⟩;have a:=D (g.below f);have i:=D (y.tr (Cs.of_below f))
  cases j:dO (bg l)
  all_goals
   have d:=D j
   go_wp2
   go_ret;refine⟨_,q,bg l,0,rfl,a,i,?_⟩;rw[m.q];unfold dB;rw[d.q]
   first
    |(rw[aA rfl];exact⟨rfl,rfl,rfl⟩)
    |(rw[ay ak,ay t.q];exact⟨rfl,rfl,rfl⟩)
theorem Rv {B:G}(w:I)(h:cB w B s p l 0):Calls Tryz.prog 30 #[.pointer (M ⟨B,0,none⟩)] w (xZ B s w (λb:Bool=> .bool b) (dB l)):=
 (Gb w h).mono λ_ _ h=>h.res
theorem CW {B:G}(w:I)(h:cB w B s p l a)(d:a≠0):Calls Tryz.prog 30 #[.pointer (M ⟨B,0,none⟩)] w (λe w'=>e= .returned (.bool H)/\cB w' B s p l a/\Cs B w w'):=by
 have g:=h.x.1 2;have i:(a !=0)=L:=by simpa using d
 have f:=D h;go_enter Tryz.func30,Tryz.ntmps30
 go_wp2
 go_ret;exact⟨rfl,f,Same.refl' _⟩
def jL (l:Bs):Except Er (Unit × Bs):=match fu l with| .error x=> .error x| .ok r=> .ok ((),r)
theorem Rw {B:G}(w:I)(h:cB w B s p l 0):Calls Tryz.prog 46 #[.pointer (M ⟨B,0,none⟩)] w (xZ B s w (λ_:Unit=> .tuple #[]) (jL l)):=by
 have K:=D (Rv w h);go_enter func46,ntmps46;go_wp2_with fail;refine K.q.mono ?_;rintro e w1 ⟨b,q,r,g,rfl,A,P,a⟩;have i:=D A;have j:=D P;have k:=D a;have S:=A.x.1 1
 cases b
 .go_wp2_with fail
  by_cases m:g=0
  .subst m
   refine(gq w1 i.q 0 (aS _) q rfl 220).mono ?_;rintro e Q ⟨rfl,o,t⟩;have u:=D o;have v:=D (j.tr t)
   go_wp2
   apply bodyPost_end (results_none rfl _ _ _) rfl
   refine⟨(),q,r,220,rfl,u,v,?_⟩;have a:=k;unfold jL fu
   cases d:dB l with
   |error x=>rw[d] at a;exact absurd a.2.1.symm a.2.2
   |ok f=>
    obtain⟨E,F⟩:=f;rw[d] at a;obtain⟨y,z,_⟩:=a;subst y z;exact⟨rfl,rfl,by decide⟩
  .refine(Ba w1 i.q m (q:C) 220).mono ?_
   rintro e Q ⟨rfl,o,t⟩;have u:=D o;have v:=D (j.tr t)
   go_wp2
   apply bodyPost_end (results_none rfl _ _ _) rfl
   refine⟨(),q,r,g,rfl,u,v,?_⟩;have a:=k;unfold jL fu
   cases d:dB l with
   |error x=>rw[d] at a;exact a
   |ok f=>obtain⟨E,F⟩:=f;rw[d] at a;exact absurd a.2.2 m
 .go_wp2
  apply bodyPost_end (results_none rfl _ _ _) rfl
  refine⟨(),q,r,g,rfl,i,j,?_⟩;have a:=k;unfold jL fu
  cases d:dB l with
  |error x=>rw[d] at a;exact a
  |ok f=>
   obtain⟨E,F⟩:=f;rw[d] at a;obtain⟨y,z,R⟩:=a;subst y;exact⟨rfl,z,R⟩
theorem J9 {B:G}(w:I)(h:cB w B s p l a)(d:a≠0):Calls Tryz.prog 46 #[.pointer (M ⟨B,0,none⟩)] w (λe w'=>e= .returned (.tuple #[])/\cB w' B s p l a/\Cs B w w'):=by
 have g:=D (CW w h d);have i:=D d;go_enter func46,ntmps46;go_wp2_with fail;refine g.q.mono ?_;rintro e w1 ⟨rfl,f,j⟩;have k:=D f;have m:=D j;have v:=f.x.1 1;go_wp2_with fail;refine(Ba w1 k.q i.q (p:C) 220).mono ?_;rintro e x ⟨rfl,o,r⟩;have t:=D o;have u:=D (m.tr r)
 go_wp2
 apply bodyPost_end (results_none rfl _ _ _) rfl
 exact⟨rfl,t,u⟩
theorem IC (l:Bs):kQ l<=l.length:=by unfold kQ;have:=kJ nN l;omega
theorem IE (q:UInt8->Bool):∀(l:Bs)(k:G),k<=(l.takeWhile q).length->(l.takeWhile q).length=k+((l.drop k).takeWhile q).length
 |_,0,_=>by simp
 |[],k+1,h=>by simp at h
 |a::t,k+1,h=>by
  rw[jB] at h ⊢
  cases d:q a
  .rw[d] at h;simp at h
  .rw[d,aA rfl] at h
   rw[aA rfl,List.drop_succ_cons];have:=IE q t k (by simpa using h);simp only[iC];omega
theorem Wt (l:Bs)(k:G)(b:UInt8)(d:l[k]?=M b)(f:k<=kQ l):k+(if nN b=L then((l.drop (k+1)).takeWhile nN).length+1 else 0)<=kQ l/\(nN b=H->kQ l=k):=by
 have h:=IE nN l k f;obtain⟨g,i⟩:=bq.1 d;rw[jV g,i,jB] at h;unfold kQ
 cases a:nN b
 .rw[a] at h
  simp at h ⊢;omega
 .rw[a,aA rfl] at h
  rw[aA rfl];simp only[iC] at h;exact⟨by omega,λe=>by cases e⟩
theorem UJ {B:G}(w:I)(h:cB w B s p l e):Calls Tryz.prog 44 #[.pointer (M ⟨B,0,none⟩)] w (bT (O N (kQ l:C)) w):=by
 have hz:=dW s;have c0:=h.x.1 0;have c1:=h.x.1 1;have W:=h.len;have ε:=h.lim;have HH:=D h;have d:=D W;have β:=D (λ(i:G)(b:UInt8)(f:l[i]?=M b)=>(show s[p+i]?=M b by rw[<-h.d,rZ] at f;exact f));have r:=D (IC l);clear h W;go_enter Tryz.func44,Tryz.ntmps44;go_wp2_with fail
 go_loopw [3] (λi wr=>∃k:G,i= O N ((p+k:G):C)/\k<=kQ l/\Below w.1.size w wr/\cB wr B s p l e) (λi _=>s.length - (J i).toNat)
 case atStart=>exact⟨0,rfl,aS _,Below.refl _ _,HH.q⟩
 case round=>
  obtain⟨k,rfl,Y,f,m⟩:=hrel;have Z:=D Y;have t:=D f;have HC:=D m;have c0:=m.x.1 0;have c1:=m.x.1 1;have ζ:p<=1000000:=by have:=d.q;omega
  have η:k<=1000000:=by have:=d.q;have:=r.q;omega
  have θ:(p:C)+(k:C) - (p:C)=(k:C):=by omega
  clear Y f m;by_cases u:k<l.length
  .obtain⟨b,g⟩:∃b,l[k]?=M b:=⟨_,dM u⟩
   have α:=λW'=>dQ U s (p+k) b (β.q k b g) W'
   rw[lV] at α;have γ:decide ((p:C)+(k:C)<(s.length:C))=L:=by have:=d.q;simp only[bO];omega
   have ι:=D g;have δ:l.drop k=b::l.drop (k+1):=by obtain⟨h1,h2⟩:=bq.1 g;rw[jV h1,h2]
   have v:=D (Dw b);have x:Hid (k+(if nN b=L then((l.drop (k+1)).takeWhile nN).length+1 else 0)<=kQ l/\(nN b=H->kQ l=k)):=D (Wt l k b g Z.q);have y:b.toNat<256:=b.toNat_lt;clear g δ;obtain⟨n,z⟩:∃n,n=b.toNat:=⟨_,rfl⟩;rw[<-z] at v y α;have HN:=D z;clear z u;rcases(by omega:(n=46\/(48<=n/\n<=57)\/(65<=n/\n<=90)\/n=95\/(97<=n/\n<=122)\/128<=n)\/(n<=45\/n=47\/(58<=n/\n<=64)\/(91<=n/\n<=94)\/n=96\/(123<=n/\n<=127))) with a|a
   .have j:nN b=L:=by
     unfold nN;rw[v.q,<-HN.q];simp only[tZ,bD,bO];omega
    have o:=D j;rcases a with a|a|a|a|a|a
    all_goals
     first|have A:decide (97<=(n:C))=L:=by simp;omega|have A:decide (97<=(n:C))=H:=by simp;omega
     first|have E:decide ((n:C)<=122)=L:=by simp;omega|have E:decide ((n:C)<=122)=H:=by simp;omega
     first|have F:decide (65<=(n:C))=L:=by simp;omega|have F:decide (65<=(n:C))=H:=by simp;omega
     first|have K:decide ((n:C)<=90)=L:=by simp;omega|have K:decide ((n:C)<=90)=H:=by simp;omega
     first|have P:decide (48<=(n:C))=L:=by simp;omega|have P:decide (48<=(n:C))=H:=by simp;omega
     first|have Q:decide ((n:C)<=57)=L:=by simp;omega|have Q:decide ((n:C)<=57)=H:=by simp;omega
     first|have R:((n:C)==95)=L:=by simp;omega|have R:((n:C)==95)=H:=by simp;omega
     first|have S:((n:C)==46)=L:=by simp;omega|have S:((n:C)==46)=H:=by simp;omega
     first|have T:decide (128<=(n:C))=L:=by simp;omega|have T:decide (128<=(n:C))=H:=by simp;omega
     clear j a y;go_wp2_with fail;go_roundw
     case rel=>exact⟨k+1,by go_num,by have:=x.q.1;rw[aA o.q] at this;omega,t.q,HC.q⟩
     case measure=>simp[J];have:=x.q.1;rw[aA o.q] at this;have:=d.q;have:=r.q;omega
   .have j:nN b=H:=by
     unfold nN;rw[v.q,<-HN.q];simp only[Bool.or_eq_false_iff,Bool.and_eq_false_iff,decide_eq_false_iff_not];omega
    have o:=D j;rcases a with a|a|a|a|a|a
    all_goals
     first|have A:decide (97<=(n:C))=L:=by simp;omega|have A:decide (97<=(n:C))=H:=by simp;omega
     first|have E:decide ((n:C)<=122)=L:=by simp;omega|have E:decide ((n:C)<=122)=H:=by simp;omega
     first|have F:decide (65<=(n:C))=L:=by simp;omega|have F:decide (65<=(n:C))=H:=by simp;omega
     first|have K:decide ((n:C)<=90)=L:=by simp;omega|have K:decide ((n:C)<=90)=H:=by simp;omega
     first|have P:decide (48<=(n:C))=L:=by simp;omega|have P:decide (48<=(n:C))=H:=by simp;omega
     first|have Q:decide ((n:C)<=57)=L:=by simp;omega|have Q:decide ((n:C)<=57)=H:=by simp;omega
     first|have R:((n:C)==95)=L:=by simp;omega|have R:((n:C)==95)=H:=by simp;omega
     first|have S:((n:C)==46)=L:=by simp;omega|have S:((n:C)==46)=H:=by simp;omega
     first|have T:decide (128<=(n:C))=L:=by simp;omega|have T:decide (128<=(n:C))=H:=by simp;omega
     clear j a y;go_wp2_with fail;go_ret;rw[x.q.2 o.q];exact⟨by first|rfl|(rw[show(p:C)+(k:C) - (p:C)=(k:C) by omega];rfl)|(show Ending.returned (O N ((p:C)+(k:C) - (p:C)))=_;rw[show(p:C)+(k:C) - (p:C)=(k:C) by omega]),t.q⟩
  .have γ:decide ((p:C)+(k:C)<(s.length:C))=H:=by have:=d.q;simp only[decide_eq_false_iff_not];omega
   have hr:kQ l=k:=by have:=Z.q;have:=r.q;omega
   have HR:=D hr;clear hr u;go_wp2_with fail;go_ret;rw[HR.q];exact⟨by first|rfl|(show Ending.returned (O N ((p:C)+(k:C) - (p:C)))=_;rw[show(p:C)+(k:C) - (p:C)=(k:C) by omega]),t.q⟩
theorem DI {P:Program}{t:TypeId}(a:P.underlying t=M .string)(l:Bs)(i j:G)(d:i<=j)(h:j<=l.length)(W:I):(Instr.slice t (.string ⟨l.toArray⟩) (M (O N (i:C))) (M (O N (j:C))) none).run P W= .ok (.string ⟨((l.drop i).take (j - i)).toArray⟩) W:=by
 rw[run_slice_string W t _ N N (i:C) (j:C) a ah ah (by rw[dW];omega),gF,gF,F7 l i j d]
theorem La {B:G}(w:I)(h:cB w B s p l a)(d:a≠0)(v:Value):Calls Tryz.prog 27 #[.pointer (M ⟨B,0,none⟩),v] w (λe w'=>e= .returned (O N 0)/\cB w' B s p l a/\Cs B w w'):=by
 have g:=h.x.1 2;have i:(a !=0)=L:=by simpa using d
 have f:=D h;clear h d;go_enter Tryz.func27,Tryz.ntmps27;go_wp2_with fail;go_ret;exact⟨rfl,f.q,Same.refl' _⟩
def Wu (B:G)(s:Bs)(w:I)(x:Except Er (G × Bs))(e:Ending)(w':I):Prop:=
 ∃(a:G)(g:G)(f:Bs)(d:C),e= .returned (O N (a:C))/\cB w' B s g f d/\Cs B w w'/\(match x with| .ok (i,r)=>a=i/\f=r/\d=0| .error (r,m)=>f=r/\d=m/\m≠0)/\(d≠0->a=0)/\a<=100
theorem QO {B:G}(w:I)(h:cB w B s p l 0)(a:Option Addr)(A cc:G)(g:List Bs)(hr:Row w 1 encStr a A cc g)(q5:A<=100)(hw:∀x∈g,x.length<=100):
  Calls Tryz.prog 27 #[.pointer (M ⟨B,0,none⟩),.slice a A cc] w (Wu B s w (oZ g l)):=by
 have ν:=D (λW (hb:Below w.1.size w W)=>UJ W (h.below hb));obtain⟨X,hX⟩:∃X,X=oZ g l:=⟨_,rfl⟩;rw[<-hX];obtain⟨u,γ⟩:∃u,u=kQ l:=⟨_,rfl⟩;obtain⟨T,hT⟩:∃T,T=l.take u:=⟨_,rfl⟩;have Γ:u<=l.length:=by rw[γ];exact IC l
 have Δ:T.length=u:=by rw[hT,dJ];omega
 have q6:=h.len;have q7:=h.lim;have Θ:=λW=>DI U s p (p+u) ah ah W
 rw[h.d,show p+u - p=u by omega,<-hT,lV] at Θ;have q8:IntKind.i64.wrap ((p:C)+(u:C))=(p:C)+(u:C):=IntWalk.i64_in _ ah;rw[<-γ] at ν;have HX:=D hX;have HH:=D h;have HR:=D hr;have HW:=D hw;have ξ:=D γ;have HT:=D hT;have hz:=dW s;have q9:=dW T;have c0:=h.x.1 0;have P:=h.x.1 1;have c2:=h.x.1 2;clear hX hT h hr hw γ;subst Δ;go_enter Tryz.func27,Tryz.ntmps27;go_wp2_with fail;refine aD 99 [(0,0),(1,0),(2,0),(3,0),(4,0),(5,0),(6,0),(7,0),(8,0),(9,0),(10,0),(11,0),(12,0),(13,2),(14,0),(15,0),(16,0)] (λ_=>True) (λW'=>W'.cell? ⟨B,0,none⟩=M (.string ⟨s.toArray⟩)/\W'.cell? ⟨B,1,none⟩=M (O N (p:C))) au au (trivial) (⟨c0,P⟩) ?_;refine qC ?_;refine aG rfl rfl (λK hK=>?_);go_simp;refine(ν.q _ (Below.refl _ _).drew).mono ?_;rintro e w1 ⟨rfl,ο⟩;have π:Hid (Below w.1.size w w1):=D ((Below.refl w.1.size w).drew.trans ο);have hh:=HH.q.below π.q;refine hK _ _ ⟨trivial,hh.x.1 0,hh.x.1 1⟩ ?_;have ρ:=D hh;clear hK K ο hh c0 P c2;refine qC ?_;refine aH ?_;have P:=ρ.q.x.1 1;have c0:=ρ.q.x.1 0;go_wp2_with fail;clear c0 P
 go_loopw [6,33] (λf i wr=>∃k m:G,k<=A/\i= O N k/\f= O N m/\m=rA (g.take k) T/\(∀x∈g.take k,x≠T)/\Below w.1.size w wr) (λ_ i _=>A - (J i).toNat)
 case atStart=>exact⟨0,0,aS _,rfl,rfl,rfl,by simp,π.q⟩
 case round=>
  obtain⟨k,m,hk,rfl,rfl,hm,β,Q⟩:=hrel;have j0:m<=T.length:=by rw[hm];exact Gc _ _
  have j1:m<=1000000:=by omega
  by_cases Ξ:k<A
  .obtain⟨x,b',o,hx,rfl,hc⟩:=(HR.q.below Q rfl).at_ Ξ
   have Φ:=hc 0 _ rfl;simp only[gP,bK] at Φ;have j2:=HW.q x (bS hx);have δ:=D Q;have HM:=D hm;have σ:=D β;have ζ:=D hx;have HC:=D (HH.q.below Q);have P:=HC.q.x.1 1;have z1:=HC.q.x.2.1 1;clear hc Q hm β hx
   cases ε:x==T
   .clear P z1
    have α:Hid (∀(W':I)(q m':G),Below w.1.size w W'->gI x T=q->m'=max m q->∃k' m2:G,k'<=A/\Value.int N ((k:C)+1)= O N k'/\Value.int N (m':C)= O N m2/\m2=rA (g.take k') T/\(∀y∈g.take k',y≠T)/\Below w.1.size w W'):=D (λW' q m' hb hq Ψ=>
     ⟨k+1,m',by omega,by rw[lV];rfl,rfl,by rw[eD,ζ.q,Option.toList_some,BH,hq,<-HM.q,Ψ],λy v=>by
      rw[eD,ζ.q] at v;rcases cu.1 v with v|v
      .exact σ.q y v
      .obtain rfl:y=x:=by simpa using v
       exact λe=>by rw[e] at ε;simp at ε,hb⟩)
    go_wp2_with fail
    go_loopw [9] (λj wx=>∃W,W=wx/\∃q:G,j= O N q/\q<=T.length/\q<=x.length/\gI (x.drop q) (T.drop q)+q=gI x T/\Below w.1.size w W) (λj _=>T.length - (J j).toNat)
    case atStart=>exact⟨_,rfl,0,rfl,aS _,aS _,by simp,δ.q⟩
    case round=>
     obtain⟨W,rfl,q,rfl,j3,j4,τ,υ⟩:=hrel;have R:=D υ;have S:=D τ;clear υ τ;by_cases Y:q<x.length
     .have Ω:decide (q<x.length)=L:=bG Y
      by_cases Z:q<T.length
      .have q0:decide (q<T.length)=L:=bG Z
       obtain⟨E,η⟩:∃E,x[q]?=M E:=⟨_,dM Y⟩;obtain⟨F,θ⟩:∃F,T[q]?=M F:=⟨_,dM Z⟩;have j5:=λW=>dQ U x q E η W
       have j6:=λW=>dQ U T q F θ W
       have ι:=D η;have κ:=D θ;have z:=D (⟨Y,Z⟩:_/\_);clear η θ Y Z;by_cases he:E=F
       .have hb:((E.toNat:C)==(F.toNat:C))=L:=by simp[he]
        have HE:=D he;clear he;go_wp2_with fail;refine aD 99 [(0,0),(1,0),(2,0),(3,0),(4,0),(5,0),(6,0),(7,0),(8,0),(9,0),(10,0),(11,0),(12,0),(13,0),(14,0),(15,0),(16,0),(17,0),(18,0)] (λ_=>True) (λ_=>True) au au (trivial) (trivial) ?_;refine qC ?_;refine aH ?_;go_wp2_with fail;go_roundw
        case rel=>exact⟨_,rfl,q+1,by go_num,z.q.2,z.q.1,by have:=zW ι.q (HE.q▸κ.q);have:=S.q;omega,dm R.q _⟩
        case measure=>have:=z.q.2;simp[J];omega
       .have hb:((E.toNat:C)==(F.toNat:C))=H:=aN.2 (λe=>he (gD.1 ah))
        have HE:=D he;clear he;by_cases d:m<q
        .have hg:decide (m<q)=L:=bG d
         have r:=D d;clear d;go_wp2_with fail;refine aD 99 [(0,0),(1,0),(2,0),(3,0),(4,0),(5,0),(6,0),(7,0),(8,0),(9,0),(10,0),(11,0),(12,0),(13,0),(14,0),(15,0),(16,0),(17,0),(18,0)] (λ_=>True) (λ_=>True) au au (trivial) (trivial) ?_;refine qC ?_;refine aH ?_;go_wp2_with fail;go_roundw
         case rel=>exact α.q _ q q (dm R.q _) (by have:=jG (.inr (.inr ⟨E,F,ι.q,κ.q,HE.q⟩));have:=S.q;omega) (by have:=r.q;omega)
         case measure=>simp[J];omega
        .have hg:decide (m<q)=H:=bn d
         have r:=D d;clear d;go_wp2_with fail;refine aD 99 [(0,0),(1,0),(2,0),(3,0),(4,0),(5,0),(6,0),(7,0),(8,0),(9,0),(10,0),(11,0),(12,0),(13,0),(14,0),(15,0),(16,0),(17,0),(18,0)] (λ_=>True) (λ_=>True) au au (trivial) (trivial) ?_;refine qC ?_;refine aH ?_;go_wp2_with fail;go_roundw
         case rel=>exact α.q _ q m (dm R.q _) (by have:=jG (.inr (.inr ⟨E,F,ι.q,κ.q,HE.q⟩));have:=S.q;omega) (by have:=r.q;omega)
         case measure=>simp[J];omega
      .have q0:decide (q<T.length)=H:=bn Z
       have z:=D Z;clear Z;by_cases d:m<q
       .have hg:decide (m<q)=L:=bG d
        have r:=D d;clear d;go_wp2_with fail;refine aD 99 [(0,0),(1,0),(2,0),(3,0),(4,0),(5,0),(6,0),(7,0),(8,0),(9,0),(10,0),(11,0),(12,0),(13,0),(14,0),(15,0),(16,0),(17,0),(18,0)] (λ_=>True) (λ_=>True) au au (trivial) (trivial) ?_;refine qC ?_;refine aH ?_;go_wp2_with fail;go_roundw
        case rel=>exact α.q _ q q (dm R.q _) (by have:=jG (x:=x) (t:=T) (k:=q) (.inr (.inl (by have:=z.q;omega)));have:=S.q;omega) (by have:=r.q;omega)
        case measure=>simp[J];omega
       .have hg:decide (m<q)=H:=bn d
        have r:=D d;clear d;go_wp2_with fail;refine aD 99 [(0,0),(1,0),(2,0),(3,0),(4,0),(5,0),(6,0),(7,0),(8,0),(9,0),(10,0),(11,0),(12,0),(13,0),(14,0),(15,0),(16,0),(17,0),(18,0)] (λ_=>True) (λ_=>True) au au (trivial) (trivial) ?_;refine qC ?_;refine aH ?_;go_wp2_with fail;go_roundw
        case rel=>exact α.q _ q m (dm R.q _) (by have:=jG (x:=x) (t:=T) (k:=q) (.inr (.inl (by have:=z.q;omega)));have:=S.q;omega) (by have:=r.q;omega)
        case measure=>simp[J];omega
     .have Ω:decide (q<x.length)=H:=bn Y
      have z:=D Y;clear Y;by_cases d:m<q
      .have hg:decide (m<q)=L:=bG d
       have r:=D d;clear d;go_wp2_with fail;refine aD 99 [(0,0),(1,0),(2,0),(3,0),(4,0),(5,0),(6,0),(7,0),(8,0),(9,0),(10,0),(11,0),(12,0),(13,0),(14,0),(15,0),(16,0),(17,0),(18,0)] (λ_=>True) (λ_=>True) au au (trivial) (trivial) ?_;refine qC ?_;refine aH ?_;go_wp2_with fail;go_roundw
       case rel=>exact α.q _ q q (dm R.q _) (by have:=jG (x:=x) (t:=T) (k:=q) (.inl (by have:=z.q;omega));have:=S.q;omega) (by have:=r.q;omega)
       case measure=>simp[J];omega
      .have hg:decide (m<q)=H:=bn d
       have r:=D d;clear d;go_wp2_with fail;refine aD 99 [(0,0),(1,0),(2,0),(3,0),(4,0),(5,0),(6,0),(7,0),(8,0),(9,0),(10,0),(11,0),(12,0),(13,0),(14,0),(15,0),(16,0),(17,0),(18,0)] (λ_=>True) (λ_=>True) au au (trivial) (trivial) ?_;refine qC ?_;refine aH ?_;go_wp2_with fail;go_roundw
       case rel=>exact α.q _ q m (dm R.q _) (by have:=jG (x:=x) (t:=T) (k:=q) (.inl (by have:=z.q;omega));have:=S.q;omega) (by have:=r.q;omega)
       case measure=>simp[J];omega
   .obtain⟨q,hq⟩:∃q:G,q=p+T.length:=⟨_,rfl⟩
    have φ:x=T:=by simpa using ε
    have j7:(p:C)+(x.length:C)=(q:C):=by rw[φ];omega
    have j8:q<=1000000:=by omega
    have ht:=HC.q.go T.length Γ q hq;have q1:=D ht.1;have q2:=D ((Cs.of_below (B:=B) δ.q).tr ht.2);have μ:Hid (oZ g l= .ok (k,l.drop T.length)):=D (by
     unfold oZ;rw[<-ξ.q,<-HT.q,findIdx?_take (λs=>s==T) g k (wE.2 (λy v=>by simpa using σ.q y v)) x ζ.q ε])
    clear ht hq φ;go_wp2_with fail;go_ret;refine⟨k,q,_,0,rfl,q1.q,q2.q,?_,λh=>absurd rfl h,by omega⟩;rw[HX.q,μ.q];exact⟨rfl,rfl,rfl⟩
  .obtain rfl:k=A:=by omega
   have χ:g.take k=g:=eF (by rw[HR.q.len];exact aC _);rw[χ] at hm β;have HC:=D (HH.q.below Q);have HF:Hid (∀W,cB W B s p l 0->Calls Tryz.prog 31 #[.pointer (M ⟨B,0,none⟩),O N ((p:C)+(m:C)),O N 220] W (λe w'=>e= .returned (.tuple #[])/\cB w' B s (p+m) (l.drop m) 220/\Cs B W w')):=D (λW hW=>by
    have:=gq W hW m ah (p+m) rfl 220
    rwa[lV] at this)
   have μ:Hid (oZ g l= .error (l.drop m,220)):=D (by
    unfold oZ;rw[<-ξ.q,<-HT.q,wE.2 (λy v=>by simpa using β y v),<-hm])
   have δ:=D Q;have P:=HC.q.x.1 1;clear hm β Q χ;go_wp2_with fail;refine(HF.q _ HC.q).mono ?_;rintro e w4 ⟨rfl,ψ,ω⟩;have q3:=D ψ;have q4:=D ((Cs.of_below (B:=B) δ.q).tr ω);clear ψ ω;go_wp2_with fail;go_ret;refine⟨0,p+m,_,220,rfl,q3.q,q4.q,?_,λ_=>rfl,aS _⟩;rw[HX.q,μ.q];exact⟨rfl,rfl,by decide⟩
def Bb (l:Bs):Bs:=l.drop (gB ⟨l.toArray⟩ nI)
theorem Rx (h:l.head?=M 35):dI l=Bb l:=by unfold dI Bb;rw[aA h]
theorem Gf (h:l≠[])(a:(okB ⟨l.toArray⟩ 0 && nI ((Utf8.decode ⟨l.toArray⟩ 0).1:C))=L):Bb l=Bb (l.drop (Utf8.decode ⟨l.toArray⟩ 0).2):=by
 unfold Bb;rw[iY l nI h,aA a,mD]
theorem OW (h:l≠[])(a:(okB ⟨l.toArray⟩ 0 && nI ((Utf8.decode ⟨l.toArray⟩ 0).1:C))=H):Bb l=l:=by
 unfold Bb;rw[iY l nI h,a];simp
theorem UK (h:l≠[]):sV ⟨l.toArray⟩=(hdN l:C):=by
 unfold sV hdN;rw[aA (by rw[dW];cases l with|nil=>exact absurd rfl h|cons a t=>simp)]
 split <;> rfl
theorem Mg (h:l≠[]):1<=hdN l/\hdN l<=l.length:=by
 have d:=wM l h;have e:=vT l h;have f:1<=l.length:=by cases l with|nil=>exact absurd rfl h|cons a t=>simp
 unfold hdN;split <;> omega
theorem vH (s:Bs)(l:Bs)(w:I)(h:l≠[]):Calls Tryz.prog 52 #[.string ⟨l.toArray⟩] w λe w'=>e= .returned (.tuple #[.int .i32 (sK l),O N (hdN l:C)])/\Below w.1.size w w':=by
 have:=zx ⟨l.toArray⟩ w;rw[UK h] at this;exact this
theorem Mh (s:Bs)(p:G)(b:UInt8)(t:Bs)(d:s.drop p=b::t)(u:p<=s.length)(K:s.length<=1000000)(g:b.toNat≠10)(j:b.toNat≠32)(k:b.toNat≠9)(l:b.toNat≠35)(w:I):
  Calls Tryz.prog 51 #[.string ⟨s.toArray⟩,O N (p:C)] w (nE (O N (p:C)) (.bool L) w):=by
 have P:=dW s;have v:=λW=>jg U s p u W
 rw[d] at v;have x:p<s.length:=by have:=cZ List.length d;simp at this;omega
 have Q:decide (p<s.length)=L:=bG x;have y:(sK (b::t)==10)=H:=aN.2 (λe=>g ((uU b t 10 aj).1 e));have z:(sK (b::t)==32)=H:=aN.2 (λe=>j ((uU b t 32 aj).1 e));have A:(sK (b::t)==9)=H:=aN.2 (λe=>k ((uU b t 9 aj).1 e));have E:(sK (b::t)==35)=H:=aN.2 (λe=>l ((uU b t 35 aj).1 e));have m:=D (λW=>vH s (b::t) W ak);obtain⟨c,f⟩:∃c,c=sK (b::t):=⟨_,rfl⟩;obtain⟨n,o⟩:∃n,n=hdN (b::t):=⟨_,rfl⟩;rw[<-f] at y z A E;rw[<-f,<-o] at m;clear f o d g j k l;go_enter func51,ntmps51;go_wp2_with fail
 go_loopw [1,6] (λa i wr=>a= O N (p:C)/\i= .bool H/\wr=w) (λ_ _ _=>0)
 case atStart=>exact⟨rfl,rfl,rfl⟩
 case round=>
  obtain⟨rfl,rfl,rfl⟩:=hrel;go_wp2_with fail;refine(m.q wr).mono ?_;rintro e w1 ⟨rfl,r⟩;have F:=D r;clear r;go_wp2_with fail
  go_ret2
  exact⟨rfl,F.q⟩
def wK (l:Bs):G × Bool:=(l.length - (dI l).length,(dI l).head?==none||(dI l).head?==M 10)
theorem Jw (s:Bs)(p:G)(l:Bs)(hd:s.drop p=l)(hp:p<=s.length)(q4:s.length<=1000000)(he:dO l=L)(w:I):
  Calls Tryz.prog 51 #[.string ⟨s.toArray⟩,O N (p:C)] w (nE (O N ((p+(wK l).1:G):C)) (.bool (wK l).2) w):=by
 have hz:=dW s;have ξ:(dI l).length<=l.length:=by unfold dI;split <;> simp
 have ο:p+l.length=s.length:=by rw[<-hd,dY];omega
 obtain⟨R,hR⟩:∃R,R=dI l:=⟨_,rfl⟩;have Δ:Hid (R.length<=l.length):=D (by rw[hR];exact ξ);have π:Hid (wK l=(l.length - R.length,R.head?==none||R.head?==M 10)):=D (by rw[hR];rfl);obtain⟨z,ε⟩:∃z:G,z=p+(wK l).1:=⟨_,rfl⟩;obtain⟨A,k⟩:∃A,A=(wK l).2:=⟨_,rfl⟩;rw[<-ε,<-k];have β:Hid (z=s.length - R.length):=D (by rw[ε,π.q];have:=Δ.q;simp only[];omega);have γ:Hid (A=(R.head?==none||R.head?==M 10)):=D (by rw[k,π.q]);have q5:=D ο;have ζ:=D hR;have HE:=D he;have HD:=D hd;clear ε k ξ ο hR he hd;go_enter func51,ntmps51;go_wp2_with fail
 go_loopw [1,6] (λa i wr=>∃(q:G)(Q:Bs)(b:Bool),a= O N (q:C)/\i= .bool b/\s.drop q=Q/\q<=s.length/\Below w.1.size w wr/\((b=H/\Q=l)\/(b=L/\Bb Q=R))) (λa _ _=>s.length - (J a).toNat)
 case atStart=>exact⟨p,l,H,rfl,rfl,HD.q,hp,Below.refl _ _,.inl ⟨rfl,rfl⟩⟩
 case round=>
  obtain⟨q,Q,b,rfl,rfl,Z,hq,η,u⟩:=hrel;have g:=D η;have S:q+Q.length=s.length:=by rw[<-Z,dY];omega
  cases Q with
  |nil=>
   have Θ:decide (q<s.length)=H:=bn (by simp at S;omega);have f:R=[]:=by
    rcases u with⟨_,h⟩|⟨_,h⟩
    .rw[ζ.q,<-h];rfl
    .rw[<-h];rfl
   have m:z=q:=by rw[β.q,f];simp at S ⊢;omega
   have o:A=L:=by rw[γ.q,f];rfl
   have E:=D m;have F:=D o;clear u Z S f m o η;go_wp2_with fail
   go_ret2
   exact⟨by rw[E.q,F.q];rfl,g.q⟩
  |cons x t=>
   have Ξ:q<s.length:=by simp at S;omega
   have Θ:decide (q<s.length)=L:=bG Ξ;have Φ:=λW=>jg U s q hq W
   rw[Z] at Φ;have K:=D (λW=>vH s (x::t) W ak);have T:=D (Mg (l:=x::t) ak);obtain⟨c,hc⟩:∃c,c=sK (x::t):=⟨_,rfl⟩;obtain⟨n,hn⟩:∃n,n=hdN (x::t):=⟨_,rfl⟩;rw[<-hc,<-hn] at K;rw[<-hn] at T;have Y:=D hc;have ρ:=D hn;have θ:=D Z;have y:=D S;have q6:n<=1000000:=by have:=T.q;have:=y.q;omega
   have q7:q<=1000000:=by omega
   clear Z S η hc hn;rcases u with⟨rfl,hl⟩|⟨rfl,ι⟩
   .have hx:x.toNat=10\/x.toNat=35:=by
     have:=HE.q;rw[<-hl,oz] at this;simp at this;omega
    rcases hx with j|δ
    .have κ:c=10:=by rw[Y.q];exact(uU x t 10 aj).2 j
     have v:x=10:=gD.1 j;have f:R=x::t:=by rw[ζ.q,<-hl];unfold dI;rw[ay (by rw[v];simp)]
     have m:z=q:=by rw[β.q,f];have:=y.q;simp at this ⊢;omega
     have o:A=L:=by rw[γ.q,f,v];rfl
     have E:=D m;have F:=D o;subst κ;clear hl f m o j v;go_wp2_with fail;refine(K.q wr).mono ?_;rintro e w1 ⟨rfl,d⟩;have r:=D (g.q.bL d);clear d;go_wp2_with fail
     go_ret2
     exact⟨by rw[E.q,F.q];rfl,r.q⟩
    .have κ:c=35:=by rw[Y.q];exact(uU x t 35 aj).2 δ
     have Ψ:n=1:=by rw[ρ.q];exact(Cv t ah).2
     have v:x=35:=gD.1 δ;have σ:Bb t=R:=by
      rw[ζ.q,<-hl,Rx (by rw[v];rfl)];have τ:=nM x t ah;rw[Gf (l:=x::t) ak (by rw[Cx x t ah,τ];simp only[Bool.true_and];rw[δ];rfl),τ]
      rfl
     have Ω:=D σ;subst κ Ψ;clear hl δ v σ;go_wp2_with fail;refine(K.q wr).mono ?_;rintro e w1 ⟨rfl,d⟩;have r:=D (g.q.bL d);clear d;go_wp2_with fail;go_roundw
     case rel=>exact⟨q+1,t,L,by go_num,rfl,by have:=cZ List.tail θ.q;simpa[List.tail_drop] using this,by omega,r.q,.inr ⟨rfl,Ω.q⟩⟩
     case measure=>simp[J];omega
   .have P:=zV (l:=x::t) ak
    have υ:nI c=L->Bb ((x::t).drop n)=R:=λhb=>by
     have k:okB ⟨(x::t).toArray⟩ 0=L:=by
      apply Classical.byContradiction;intro q1
      rw[ay q1,<-Y.q] at P;rw[P] at hb;revert hb;decide
     rw[aA k,<-Y.q] at P;have q2:n=(Utf8.decode ⟨(x::t).toArray⟩ 0).2:=by rw[ρ.q];unfold hdN;rw[aA k]
     rw[<-ι,Gf (l:=x::t) ak (by rw[k,<-P,hb];rfl),<-q2]
    have φ:nI c=H->R=x::t:=λhb=>by
     rw[<-ι];refine OW (l:=x::t) ak ?_;by_cases k:okB ⟨(x::t).toArray⟩ 0=L
     .rw[aA k,<-Y.q] at P
      rw[k,<-P,hb];rfl
     .rw[show okB ⟨(x::t).toArray⟩ 0=H by simpa using k];rfl
    have χ:=D υ;have ψ:=D φ;have μ:=D (uU x t 10 aj);rw[<-Y.q] at μ;clear ι P υ φ;by_cases j:c=10
    .have v:x=10:=gD.1 (μ.q.1 j)
     have f:R=x::t:=ψ.q (by rw[j];rfl);have m:z=q:=by rw[β.q,f];have:=y.q;simp at this ⊢;omega
     have o:A=L:=by rw[γ.q,f,v];rfl
     have E:=D m;have F:=D o;subst j;clear f m o v;go_wp2_with fail;refine(K.q wr).mono ?_;rintro e w1 ⟨rfl,d⟩;have r:=D (g.q.bL d);clear d;go_wp2_with fail
     go_ret2
     exact⟨by rw[E.q,F.q];rfl,r.q⟩
    .have q8:(c==10)=H:=aN.2 j
     by_cases α:c<32
     .have q3:decide (c<32)=L:=bG α
      by_cases h9:c=9
      .have u:=χ.q (by rw[h9];rfl)
       have ν:=D u;subst h9;clear u j α;go_wp2_with fail;refine(K.q wr).mono ?_;rintro e w1 ⟨rfl,d⟩;have r:=D (g.q.bL d);clear d;go_wp2_with fail;go_roundw
       case rel=>exact⟨q+n,(x::t).drop n,L,by go_num,rfl,by rw[<-mD,θ.q],by have:=T.q;have:=y.q;omega,r.q,.inr ⟨rfl,ν.q⟩⟩
       case measure=>have:=T.q;have:=y.q;simp[J];omega
      .have b9:(c !=9)=L:=by simpa using h9
       have ω:nI c=H:=by unfold nI;rw[bn ah,aN.2 h9];rfl
       have f:R=x::t:=ψ.q ω;have Γ:x.toNat≠10:=λe=>j (μ.q.2 e)
       have m:z=q:=by rw[β.q,f];have:=y.q;simp at this ⊢;omega
       have o:A=H:=by rw[γ.q,f];simp;intro e;exact Γ (by rw[e];rfl)
       have E:=D m;have F:=D o;clear f m o Γ ω j h9 α;go_wp2_with fail;refine(K.q wr).mono ?_;rintro e w1 ⟨rfl,d⟩;have r:=D (g.q.bL d);clear d;go_wp2_with fail
       go_ret2
       exact⟨by rw[E.q,F.q];rfl,r.q⟩
     .have q3:decide (c<32)=H:=bn α
      have u:=χ.q (by unfold nI;rw[bG ah];rfl);have ν:=D u;clear u j α;go_wp2_with fail;refine(K.q wr).mono ?_;rintro e w1 ⟨rfl,d⟩;have r:=D (g.q.bL d);clear d;go_wp2_with fail;go_roundw
      case rel=>exact⟨q+n,(x::t).drop n,L,by go_num,rfl,by rw[<-mD,θ.q],by have:=T.q;have:=y.q;omega,r.q,.inr ⟨rfl,ν.q⟩⟩
      case measure=>have:=T.q;have:=y.q;simp[J];omega
theorem Ry (s:Bs)(p:G)(l:Bs)(hd:s.drop p=l)(hp:p<=s.length)(Ξ:s.length<=1000000)(w:I):
  Calls Tryz.prog 56 #[.string ⟨s.toArray⟩,O N (p:C)] w (nE (O N ((p+(if 24<bB l then iE (l.take (bB l)) else bB l):G):C)) (.bool (!decide (24<bB l))) w):=by
 have hz:=dW s;have ι:p+l.length=s.length:=by rw[<-hd,dY];omega
 obtain⟨t,β⟩:∃t,t=(if 24<bB l then iE (l.take (bB l)) else bB l):=⟨_,rfl⟩;obtain⟨u,f⟩:∃u,u=!decide (24<bB l):=⟨_,rfl⟩;rw[<-β,<-f];have R:=D β;have S:=D f;have v:=D ι;have HD:=D hd;clear β f ι hd;go_enter func56,ntmps56;go_wp2_with fail
 go_loopw [1] (λa wr=>∃(k:G),a= O N ((p+k:G):C)/\k<=24/\uy l k/\Below w.1.size w wr) (λa _=>s.length - (J a).toNat)
 case atStart=>exact⟨0,rfl,by omega,uy.zero l,Below.refl _ _⟩
 case round=>
  obtain⟨k,rfl,σ,γ,κ⟩:=hrel;have δ:=D κ;have ε:=D γ;have Φ:k<=l.length:=cO γ.1 (rQ l);have ζ:s.drop (p+k)=l.drop k:=by rw[<-mD,HD.q]
  have Ψ:p<=1000000:=by omega
  clear κ γ;by_cases τ:k<l.length
  .have E:l.drop k≠[]:=λe=>by have:=cZ List.length e;rw[dY] at this;simp at this;omega
   have υ:decide ((p:C)+(k:C)<(s.length:C))=L:=by have:=v.q;simp only[bO];omega
   have φ:=λW=>jg U s (p+k) (by have:=v.q;omega) W
   rw[ζ,lV] at φ;have HF:=D (λW=>vH s (l.drop k) W E);have T:=D (Mg E);have μ:=D (zV E);obtain⟨c,hc⟩:∃c,c=sK (l.drop k):=⟨_,rfl⟩;obtain⟨n,Y⟩:∃n,n=hdN (l.drop k):=⟨_,rfl⟩;rw[<-hc,<-Y] at HF;rw[<-Y] at T;have HC:=D hc;have χ:=D Y;have ν:=D E;have Ω:n<=1000000:=by have:=T.q;rw[dY] at this;have:=v.q;omega
   have ξ:Hid (iA c=L->uy l (k+n)/\(24<k+n->24<bB l/\iE (l.take (bB l))=k)):=D (λF=>by
    have d:=μ.q;rw[<-HC.q] at d;have f:okB ⟨(l.drop k).toArray⟩ 0=L:=by
     apply Classical.byContradiction;intro ψ
     rw[ay ψ] at d;rw[d] at F;revert F;decide
    rw[aA f] at d;have ω:n=(Utf8.decode ⟨(l.drop k).toArray⟩ 0).2:=by rw[χ.q];unfold hdN;rw[aA f]
    have:=ε.q.step ν.q (by rw[f,<-d,F];rfl);rw[<-ω] at this;exact⟨this.1,λh=>this.2 h σ⟩)
   have Γ:Hid (iA c=H->bB l=k):=D (λF=>by
    have h2:=ε.q.2.1;rw[L8 ν.q (by
     have d:=μ.q;rw[<-HC.q] at d;by_cases f:okB ⟨(l.drop k).toArray⟩ 0=L
     .rw[aA f] at d;rw[f,<-d,F];rfl
     .rw[show okB ⟨(l.drop k).toArray⟩ 0=H by simpa using f];rfl)] at h2
    omega)
   have Δ:=D (λW=>uO c W);have Z:=D (λW=>rO c W);have x:iA c=(fF c||eu c):=rfl;clear ζ E hc Y τ;go_wp2_with fail;refine(HF.q wr).mono ?_;rintro e w1 ⟨rfl,ο⟩;have π:=D (δ.q.bL ο);clear ο;go_wp2_with fail;refine(Δ.q w1).mono ?_;rintro e w2 ⟨rfl,ρ⟩;have y:=D (π.q.bL ρ);clear ρ;have Θ:∀(W:I),Below w.1.size w W->iA c=L->True:=λ_ _ _=>trivial
   clear Θ
   cases z:fF c
   .cases A:eu c
    .rw[A] at Z
     have d:=Γ.q (by rw[x,z,A];rfl);have g:t=k:=by rw[R.q,d,ay ah]
     have i:u=L:=by rw[S.q,d];simp;omega
     have o:=D g;have r:=D i;clear d g i x z A;go_wp2_with fail;refine(Z.q w2).mono ?_;rintro e w3 ⟨rfl,K⟩;have α:=D (y.q.bL K);clear K;go_wp2_with fail
     go_ret2
     exact⟨by rw[o.q,r.q];rfl,α.q⟩
    .rw[A] at Z
     have P:=ξ.q (by rw[x,z,A];rfl);have Q:=D P;clear P x z A;go_wp2_with fail;refine(Z.q w2).mono ?_;rintro e w3 ⟨rfl,K⟩;have α:=D (y.q.bL K);clear K;by_cases j:24<k+n
     .have η:(p:C)+(k:C)+(n:C) - (p:C)=(k:C)+(n:C):=by omega
      have hg:decide ((24:C)<(k:C)+(n:C))=L:=by simp only[bO];omega
      have m:=Q.q.2 j;have g:t=k:=by rw[R.q,aA m.1,m.2]
      have i:u=H:=by rw[S.q];simp;exact m.1
      have o:=D g;have r:=D i;clear g i m j;go_wp2_with fail
      go_ret2
      exact⟨by rw[o.q,r.q];rfl,α.q⟩
     .have η:(p:C)+(k:C)+(n:C) - (p:C)=(k:C)+(n:C):=by omega
      have hg:decide ((24:C)<(k:C)+(n:C))=H:=by simp only[decide_eq_false_iff_not];omega
      have θ:=D j;clear j;go_wp2_with fail;go_roundw
      case rel=>exact⟨k+n,by go_num,by have:=θ.q;omega,Q.q.1,α.q⟩
      case measure=>have:=T.q;rw[dY] at this;have:=v.q;simp[J];omega
   .have P:=ξ.q (by rw[x,z];rfl)
    have Q:=D P;clear P x z;by_cases j:24<k+n
    .have η:(p:C)+(k:C)+(n:C) - (p:C)=(k:C)+(n:C):=by omega
     have hg:decide ((24:C)<(k:C)+(n:C))=L:=by simp only[bO];omega
     have m:=Q.q.2 j;have g:t=k:=by rw[R.q,aA m.1,m.2]
     have i:u=H:=by rw[S.q];simp;exact m.1
     have o:=D g;have r:=D i;clear g i m j;go_wp2_with fail
     go_ret2
     exact⟨by rw[o.q,r.q];rfl,y.q⟩
    .have η:(p:C)+(k:C)+(n:C) - (p:C)=(k:C)+(n:C):=by omega
     have hg:decide ((24:C)<(k:C)+(n:C))=H:=by simp only[decide_eq_false_iff_not];omega
     have θ:=D j;clear j;go_wp2_with fail;go_roundw
     case rel=>exact⟨k+n,by go_num,by have:=θ.q;omega,Q.q.1,y.q⟩
     case measure=>have:=T.q;rw[dY] at this;have:=v.q;simp[J];omega
  .have υ:decide ((p:C)+(k:C)<(s.length:C))=H:=by have:=v.q;simp only[decide_eq_false_iff_not];omega
   have d:bB l=k:=by have:=ε.q.1;have:=rQ l;omega
   have g:t=k:=by rw[R.q,d,ay ah]
   have i:u=L:=by rw[S.q,d];simp;omega
   have o:=D g;have r:=D i;clear d g i ζ;go_wp2_with fail
   go_ret2
   exact⟨by rw[o.q,r.q];rfl,δ.q⟩
theorem Mi (a b:Bs)(w:I):Calls Tryz.prog 164 #[.string ⟨a.toArray⟩,.string ⟨b.toArray⟩] w (λe w'=>(∃q:Bool,e= .returned (.bool q))/\Below w.1.size w w'):=by
 have d:=dW a;have f:=dW b
 cases g:decide (b.length<a.length)
 .cases i:((a.length:C)==(b.length:C))
  all_goals
   go_enter func164,ntmps164
   go_wp2
   go_ret;exact⟨⟨_,rfl⟩,Below.refl _ _⟩
 .go_enter func164,ntmps164
  go_wp2
  go_ret;exact⟨⟨_,rfl⟩,Below.refl _ _⟩
theorem OX (b:UInt8)(t:Bs)(y:b.toNat≠45)(o:(b::t).length<=1000000)(w:I):Calls Tryz.prog 113 #[.string ⟨(b::t).toArray⟩] w (λe w'=>(∃(n:C)(q:Bool),e= .returned (.tuple #[O N n,.bool q]))/\Below w.1.size w w'):=by
 have p:=dW (b::t);have r:∀W,(Instr.index 9 (.string ⟨(b::t).toArray⟩) (O N 0)).run Tryz.prog W= .ok (.int .u8 (b.toNat:C)) W:=λW=>dQ U (b::t) 0 b rfl W
 have z:((b.toNat:C)==45)=H:=aN.2 ah;have a:=D (λW=>Mi (b::t) [57,50,50,51,51,55,50,48,51,54,56,53,52,55,55,53,56,48,55] W);obtain⟨l,d⟩:=kP (b::t);rw[<-d] at p r a o ⊢;clear d;go_enter func113,ntmps113;go_wp2_with fail;refine(a.q _).mono ?_;rintro e w1 ⟨⟨q,rfl⟩,f⟩;have g:=D f;clear f
 cases q
 .go_wp2
  go_loopw [6,35] (λn i wr=>∃(m:C)(k:G),n= O N m/\i= O N k/\k<=l.length/\Below w.1.size w wr) (λ_ i _=>l.length - (J i).toNat)
  case atStart=>exact⟨0,0,rfl,rfl,aS _,g⟩
  case round=>
   obtain⟨m,k,rfl,rfl,A,s⟩:=hrel;have j:=D s;by_cases u:k<l.length
   .obtain⟨x,v⟩:∃x,l[k]?=M x:=⟨_,dM u⟩
    have E:=λW=>dQ U l k x v W
    go_wp2
    go_roundw
    case rel=>exact⟨_,k+1,rfl,by go_num,by omega,j⟩
    case measure=>simp[J];omega
   .go_wp2
    go_ret2
    exact⟨⟨_,_,rfl⟩,j⟩
 .go_wp2
  go_ret2
  exact⟨⟨_,_,rfl⟩,g⟩
theorem OY (s:Bs)(p:G)(b:UInt8)(t:Bs)(y:s.drop p=b::t)(hp:p<=s.length)(δ:s.length<=1000000)(ε:48<=b.toNat)(ζ:b.toNat<=57)(w:I):
  Calls Tryz.prog 54 #[.string ⟨s.toArray⟩,O N (p:C)] w (λe w'=>(∃(u:Bs)(k S:C),e= .returned (.tuple #[.string ⟨u.toArray⟩,O N k,O N S])/\u.length<=1000000)/\Below w.1.size w w'):=by
 have hz:=dW s;have T:p+(b::t).length=s.length:=by rw[<-y,dY];omega
 have η:p<=1000000:=by omega
 have Y:s[p]?=M b:=by have:=cZ (λl=>l[0]?) y;simpa using this
 have θ:=λW=>dQ U s p b Y W
 have Z:=D (λ(k:G)(x:UInt8)(i:(b::t)[k]?=M x)=>(show s[p+k]?=M x by rw[<-y,rZ] at i;exact i));have f:=D T;have HD:=D y;go_enter func54,ntmps54
 go_wp2
 go_loopw [7] (λa wr=>∃(k:G),a= O N ((p+k:G):C)/\k<=(b::t).length/\Below w.1.size w wr) (λa _=>s.length - (J a).toNat)
 case atStart=>exact⟨0,rfl,aS _,Below.refl _ _⟩
 case round=>
  obtain⟨k,rfl,hk,P⟩:=hrel;have d:=D P;clear P;have ι:k<=1000000:=by have:=f.q;omega
  have α:=λW=>DI U s p (p+k) ah (by have:=f.q;omega) W
  rw[HD.q,Nat.add_sub_cancel_left,lV] at α;have o:Hid (1<=k->∀W,Calls Tryz.prog 113 #[.string ⟨((b::t).take k).toArray⟩] W (λe w'=>(∃(n:C)(q:Bool),e= .returned (.tuple #[O N n,.bool q]))/\Below W.1.size W w')):=D (λh1 W=>by
   obtain⟨j,rfl⟩:∃j,k=j+1:=⟨k - 1,by omega⟩;rw[List.take_succ_cons];exact OX b (t.take j) ah (by have:=f.q;simp only[iC,dJ] at this ⊢;omega) W)
  have Q:Hid (((b::t).take k).length<=1000000):=D (by rw[dJ];omega);by_cases A:k<(b::t).length
  .have β:decide ((p:C)+(k:C)<(s.length:C))=L:=by have:=f.q;simp only[bO];omega
   obtain⟨x,i⟩:∃x,(b::t)[k]?=M x:=⟨_,dM A⟩;have γ:=λW=>dQ U s (p+k) x (Z k x i) W
   rw[lV] at γ;have κ:x.toNat<256:=x.toNat_lt;have r:=D (λW=>rO (x.toNat:C) W);have HX:=D i
   cases E:eu (x.toNat:C)
   .rw[E] at r
    have z:1<=k:=by
     rcases Nat.eq_zero_or_pos k with h|h
     .subst h
      obtain rfl:b=x:=by simpa using i
      exfalso;revert E;unfold eu;simp;omega
     .exact h
    replace o:=D (o z)
    have μ:=D z;go_wp2_with fail;refine(r.q wr).mono ?_;rintro e F ⟨rfl,m⟩;have g:=D (d.trans (m.mono d.size));go_wp2_with fail;refine(o.q _).mono ?_;rintro e w4 ⟨⟨n,q,rfl⟩,K⟩;have v:=D (g.trans (K.mono g.size))
    cases q
    .go_wp2
     go_ret3
     exact⟨⟨[],_,_,rfl,by simp⟩,v⟩
    .go_wp2
     go_ret3
     exact⟨⟨_,_,_,rfl,Q⟩,v⟩
   .rw[E] at r
    rcases Nat.eq_zero_or_pos k with h0|h1
    .subst h0
     obtain rfl:b=x:=by simpa using i
     have ν:decide (p<s.length)=L:=by have:=f.q;simp only[bO];simp at this;omega
     go_wp2_with fail;refine(r.q wr).mono ?_;rintro e F ⟨rfl,m⟩;have g:=D (d.trans (m.mono d.size))
     go_wp2
     go_roundw
     case rel=>exact⟨1,by go_num,by simp,g⟩
     case measure=>simp[J];have:=f.q;simp at this;omega
    .have hg:decide ((p:C)<(p:C)+(k:C))=L:=by simp only[bO];omega
     have R:=D A
     cases ξ:((b.toNat:C)==48)
     .go_wp2_with fail
      refine(r.q wr).mono ?_;rintro e F ⟨rfl,m⟩;have g:=D (d.trans (m.mono d.size))
      go_wp2
      go_roundw
      case rel=>exact⟨k+1,by go_num,R,g⟩
      case measure=>simp[J];have:=f.q;have:=R.q;omega
     .go_wp2_with fail
      refine(r.q wr).mono ?_;rintro e F ⟨rfl,m⟩;have g:=D (d.trans (m.mono d.size))
      go_wp2
      go_ret3
      exact⟨⟨[],_,_,rfl,by simp⟩,g⟩
  .have β:decide ((p:C)+(k:C)<(s.length:C))=H:=by have:=f.q;simp only[decide_eq_false_iff_not];omega
   have z:1<=k:=by simp only[iC] at A;omega
   replace o:=D (o z)
   go_wp2_with fail;refine(o.q _).mono ?_;rintro e w4 ⟨⟨n,q,rfl⟩,K⟩;have v:=D (d.trans (K.mono d.size))
   cases q
   .go_wp2
    go_ret3
    exact⟨⟨[],_,_,rfl,by simp⟩,v⟩
   .go_wp2
    go_ret3
    exact⟨⟨_,_,_,rfl,Q⟩,v⟩
def fM {α:Type}(a:C)(l:Bs)(x:Except Er (α × Bs)):Except Er (α × Bs):=if a=0 then x else .error (l,a)
def lC {α:Type}(a:α)(l:Bs)(d:C):Except Er (α × Bs):=if d=0 then .ok (a,l) else .error (l,d)
variable{α:Type}
theorem lM (x:Except Er (α × Bs)):fM 0 l x=x:=aA rfl
theorem nD (x:Except Er (α × Bs))(h:e≠0):fM e l x= .error (l,e):=ay h
theorem kr (a:α)(l:Bs):lC a l 0= .ok (a,l):=aA rfl
theorem qh (a:α)(l:Bs)(h:e≠0):lC a l e= .error (l,e):=ay h
def EL {α:Type}(B:G)(s:Bs)(w:I)(val:α->Value)(x:Except Er (α × Bs))(e:Ending)(w':I):Prop:=
 ∃(a:α)(g:G)(d:Bs)(f:C),e= .returned (val a)/\cB w' B s g d f/\Cs B w w'/\x=lC a d f
theorem xZ.any {α:Type}{B:G}{w:I}{val:α->Value}{x:Except Er (α × Bs)}{e:Ending}{w':I}(h:xZ B s w val x e w'):EL B s w val x e w':=by
 obtain⟨a,f,g,i,j,k,l,d⟩:=h;refine⟨a,f,g,i,j,k,l,?_⟩
 cases x with
 |ok y=>obtain⟨p,r⟩:=y;obtain⟨rfl,rfl,rfl⟩:=d;exact(kr _ _).symm
 |error y=>obtain⟨r,m⟩:=y;obtain⟨rfl,rfl,o⟩:=d;exact(qh _ _ o).symm
def Wv (B:G)(s:Bs)(w:I)(x:Except Er (Bool × Bs))(e:Ending)(w':I):Prop:=
 ∃(a:Bool)(g:G)(f:Bs)(d:C),e= .returned (.bool a)/\cB w' B s g f d/\Cs B w w'/\x=lC a f d/\(d≠0->a=H)
theorem wY {B:G}(w:I)(h:cB w B s p l e):Calls Tryz.prog 30 #[.pointer (M ⟨B,0,none⟩)] w (Wv B s w (fM e l (dB l))):=by
 by_cases d:e=0
 .subst d
  rw[lM]
  apply(Gb w h).mono
  rintro u w' ⟨a,o,t,e,f,g,i,j⟩
  cases k:dB l with
  |ok y=>rw[k] at j;obtain⟨v,r⟩:=y;obtain⟨rfl,rfl,rfl⟩:=j;exact⟨a,o,t,0,f,g,i,(kr _ _).symm,λh=>absurd rfl h⟩
  |error y=>rw[k] at j;obtain⟨r,m⟩:=y;obtain⟨rfl,rfl,rfl,k⟩:=j;exact⟨H,o,t,e,f,g,i,(qh _ _ k).symm,λ_=>rfl⟩
 .apply(CW w h d).mono
  rintro u w' ⟨f,g,i⟩;exact⟨H,p,l,e,f,g,i,by rw[nD _ d,qh _ _ d],λ_=>rfl⟩
theorem oM {B:G}(w:I)(h:cB w B s p l e):Calls Tryz.prog 46 #[.pointer (M ⟨B,0,none⟩)] w (EL B s w (λ_:Unit=> .tuple #[]) (fM e l (jL l))):=by
 by_cases a:e=0
 .subst a
  rw[lM];exact(Rw w h).mono λ_ _ h=>h.any
 .apply(J9 w h a).mono
  rintro i w' ⟨d,f,g⟩;exact⟨(),p,l,e,d,f,g,by rw[nD _ a,qh _ _ a]⟩
theorem AX {r:Bs}(h:dB l= .ok (L,r)):∃b t,r=b::t/\jF b=H/\dO (b::t)=H:=by
 unfold dB at h;by_cases a:dO (bg l)=L
 .rw[aA a] at h;cases h
 .rw[ay a] at h
  by_cases e:(bg l).length=l.length
  .rw[aA e] at h;cases h
  .rw[ay e] at h
   have f:bg l=r:=by injection h with h;injection h
   rw[f] at a
   cases r with
   |nil=>exact absurd rfl a
   |cons b t=>
    refine⟨b,t,rfl,?_,by simpa using a⟩;have:∀l:Bs,bg l=b::t->jF b=H:=by
     intro l
     induction l with
     |nil=>intro h;cases h
     |cons c u g=>
      intro h
      cases d:jF c
      .rw[zm d] at h;injection h with i j;rw[<-i];exact d
      .rw[tF d] at h;exact g h
    exact this l f
@[reducible] def iW:Array Value:=#[O N 0,.slice none 0 0,O N 0,.slice none 0 0,.bool H,O N 0]
structure jq (w:I)(B b:G)(c:aW)(n:aK):Prop where
 x:Bx w b (bJ c)
 z:Bx w (b+1) iW
 n:dZ w (B+1) c n
 lt:B<b
 an:∀g,(V c.na c.nn c.nc).ownBlock=M g->g≠b/\g≠b+1
 av:∀g,(V c.va c.vn c.vc).ownBlock=M g->g≠b/\g≠b+1
variable {w w':I}{B b:G}{c:aW}{n:aK}
theorem jq.bl (h:jq w B b c n):b+1<w.1.size:=h.z.2.2
theorem jq.below (h:jq w B b c n)(a:Below w.1.size w w'):jq w' B b c n:=⟨h.x.keep a,h.z.keep a,h.n.below a,h.lt,h.an,h.av⟩
theorem jq.cs (h:jq w B b c n)(d:Cs B w w'):jq w' B b c n:=
 ⟨d.bx h.x (by have:=h.lt;omega),d.bx h.z (by have:=h.lt;omega),⟨h.n.1,h.n.2.1.block λg a=>d.block g (by have:=(h.n.2.1.lt g a).1;omega) (h.n.2.1.lt g a).2,h.n.2.2.block λg a=>d.block g (by have:=(h.n.2.2.lt g a).1;omega) (h.n.2.2.lt g a).2⟩,h.lt,h.an,h.av⟩
theorem jq.rows (h:jq w B b c n)(i:G)(v:Value):
  Own (w.setCell ⟨b,i,none⟩ v) (B+1) 9 1 encStr (.slice c.na c.nn c.nc) n.names/\Own (w.setCell ⟨b,i,none⟩ v) (B+1) 61 2 pG (.slice c.va c.vn c.vc) n.aM:=
 ⟨h.n.2.1.block λg a=>Below.heap_setCell _ _ _ _ (by rintro rfl;exact(h.an _ a).1 rfl),h.n.2.2.block λg a=>Below.heap_setCell _ _ _ _ (by rintro rfl;exact(h.av _ a).1 rfl)⟩
theorem jq.zs (h:jq w B b c n)(i:G)(v:Value):Bx (w.setCell ⟨b,i,none⟩ v) (b+1) iW:=h.z.setOther b i v ah
theorem jq.Sy (h:jq w B b c n)(k:C):jq (w.setCell ⟨b,2,none⟩ (O N k)) B b {c with lvl:=k} {n with lvl:=k}:=
 ⟨h.x.aX 2 ak _,h.zs 2 _,⟨⟨h.n.1.1,rfl,h.n.1.2.2⟩,h.rows 2 _⟩,h.lt,h.an,h.av⟩
theorem jq.NR (h:jq w B b c n)(k:Bool):jq (w.setCell ⟨b,4,none⟩ (.bool k)) B b {c with first:=k} {n with first:=k}:=
 ⟨h.x.aX 4 ak _,h.zs 4 _,⟨⟨h.n.1.1,h.n.1.2.1,rfl,h.n.1.2.2.2⟩,h.rows 4 _⟩,h.lt,h.an,h.av⟩
theorem jq.setBits (h:jq w B b c n)(k:C):jq (w.setCell ⟨b,5,none⟩ (O N k)) B b {c with bits:=k} {n with bits:=k}:=
 ⟨h.x.aX 5 ak _,h.zs 5 _,⟨⟨h.n.1.1,h.n.1.2.1,h.n.1.2.2.1,rfl,h.n.1.2.2.2.2⟩,h.rows 5 _⟩,h.lt,h.an,h.av⟩
theorem jq.new (a:dZ w (B+1) c n)(e:B<w.1.size):jq ((w.alloc (.cells (bJ c) 34)).alloc (.cells iW 34)) B w.1.size c n:=by
 have f:=aB (aB (Below.refl w.1.size w) (.cells (bJ c) 34)) (.cells iW 34);exact⟨(Bx.new w (bJ c) 34).alloc (.cells iW 34),Bx.new1 ak,a.below f,e,λg d=>by have:=(a.2.1.lt g d).2;omega,λg d=>by have:=(a.2.2.lt g d).2;omega⟩
variable{a:I}{f:aW}
theorem Mv.set (h:Mv B f c a w)(m:a.1.size<=b)(i:G)(v:Value):Mv B f c a (w.setCell ⟨b,i,none⟩ v):=by
 have k:Same (λi=>iX B f i/\i<a.1.size) w (w.setCell ⟨b,i,none⟩ v):=Same.setCell _ _ _ _ (λe=>by have:b<a.1.size:=e.2;omega);have l:Same (λi=>iX B f i/\i<a.1.size) a w:=⟨h.same.os,h.same.tape,h.same.output,h.same.size,λi j g=>h.same.block i j.1 g⟩;have d:=l.tr k;exact⟨⟨d.os,d.tape,d.output,d.size,λi j g=>d.block i ⟨j,g⟩ g⟩,h.na,h.va⟩
variable{c':aW}
theorem Mv.as {d:I}(h:Mv B f c d w)(e:(V c'.na c'.nn c'.nc).ownBlock=(V c.na c.nn c.nc).ownBlock)(i:(V c'.va c'.vn c'.vc).ownBlock=(V c.va c.vn c.vc).ownBlock):Mv B f c' d w:=
 ⟨h.same,λg a=>h.na g (e▸a),λg a=>h.va g (i▸a)⟩
theorem Mv.cs (h:Mv B f c a w)(d:Cs B w w'):Mv B f c a w':=h.trans (d.mv c)
theorem jq.addN {X Y:I}{m:Bs}(h:jq w B b c n)(f:Below w.1.size w X)(d:Option Addr)(c':G)
  (x:Own Y (B+1) 9 1 encStr (.slice d (c.nn+1) c') (n.names++[m])) (a:X.grownBy Y (V c.na c.nn c.nc).ownBlock)
  (r:(V d (c.nn+1) c').ownBlock=(V c.na c.nn c.nc).ownBlock\/(V d (c.nn+1) c').ownBlock=M X.1.size):
  jq (Y.setCell ⟨b,1,none⟩ (.slice d (c.nn+1) c')) B b (Cz c d (c.nn+1) c') (addN n m)/\
  (∀(j:I)(k:aW),Mv B k c j w->j.1.size<=b->Mv B k (Cz c d (c.nn+1) c') j (Y.setCell ⟨b,1,none⟩ (.slice d (c.nn+1) c')))/\
  (∀(s:Bs)(p:G)(l:Bs)(e:C),cB w B s p l e->cB (Y.setCell ⟨b,1,none⟩ (.slice d (c.nn+1) c')) B s p l e):=by
 have δ:=h.bl;have ε:=f.size;have y:=h.n.2.2.apart h.n.2.1 aj;have z:=h.x.keep f;have A:Bx Y b (bJ c):=z.grown a (λe=>(h.an _ e).1 rfl);have E:Own Y (B+1) 61 2 pG (.slice c.va c.vn c.vc) n.aM:=(h.n.2.2.below f rfl).grown a (λg a=>y g a);have F:=h.an;have t:=h.av;have K:=h.lt;have P:(V c.na c.nn c.nc).ownBlock≠M B:=h.n.2.1.far' (.inl ah);have Q:Bx Y (b+1) iW:=(h.z.keep f).grown a (λe=>(h.an _ e).2 rfl);obtain⟨⟨R,S,T,W,Z,e6⟩,_,_⟩:=h.n;have α:Same (iX B c) X Y:=⟨a.os,a.tape,a.output,a.size,λi hi hl=>a.block i hl (λe=>hi.2.1 e.symm)⟩;have u:∀g,(V d (c.nn+1) c').ownBlock=M g->g≠b/\g≠b+1:=by
  rcases r with e|e
  .rw[e];exact F
  .rw[e];intro g e;injection e with e;omega
 have β:Same (iX B c) w Y:=(Same.of_below f (λ_ _ h=>h)).tr α;refine⟨⟨A.aX 1 ak _,Q.setOther b 1 _ ah,⟨⟨R,S,T,W,by simp[Z],e6⟩,?_,?_⟩,K,u,t⟩,λj k hm hb=>?_,λs p l e o=>⟨((o.x.keep f).grown a (λe=>P e)).setOther b 1 _ ah,o.d,o.le,o.lim⟩⟩
 .exact x.block λg a=>Below.heap_setCell _ _ _ _ (by rintro rfl;exact(u _ a).1 rfl)
 .exact E.block λg a=>Below.heap_setCell _ _ _ _ (by rintro rfl;exact(t _ a).1 rfl)
 .have γ:Mv B k (Cz c d (c.nn+1) c') j Y:=hm.trans ⟨β,λg v=>by
   rcases r with e|e
   .exact .inl (e▸v)
   .right
    have:M g=M X.1.size:=v.symm.trans e;injection this with this;omega,λ_ h=> .inl h⟩
  exact γ.set hb 1 _
theorem jq.jr {X Y:I}{v:To}(h:jq w B b c n)(f:Below w.1.size w X)(d:Option Addr)(c':G)
  (x:Own Y (B+1) 61 2 pG (.slice d (c.vn+1) c') (n.aM++[v])) (a:X.grownBy Y (V c.va c.vn c.vc).ownBlock)
  (o:(V d (c.vn+1) c').ownBlock=(V c.va c.vn c.vc).ownBlock\/(V d (c.vn+1) c').ownBlock=M X.1.size):
  jq (Y.setCell ⟨b,3,none⟩ (.slice d (c.vn+1) c')) B b (yu c d (c.vn+1) c') (jr n v)/\
  (∀(j:I)(k:aW),Mv B k c j w->j.1.size<=b->Mv B k (yu c d (c.vn+1) c') j (Y.setCell ⟨b,3,none⟩ (.slice d (c.vn+1) c')))/\
  (∀(s:Bs)(p:G)(l:Bs)(e:C),cB w B s p l e->cB (Y.setCell ⟨b,3,none⟩ (.slice d (c.vn+1) c')) B s p l e):=by
 have δ:=h.bl;have ε:=f.size;have y:=h.n.2.1.apart h.n.2.2 aj;have z:=h.x.keep f;have A:Bx Y b (bJ c):=z.grown a (λe=>(h.av _ e).1 rfl);have E:Own Y (B+1) 9 1 encStr (.slice c.na c.nn c.nc) n.names:=(h.n.2.1.below f rfl).grown a (λg a=>y g a);have r:=h.an;have F:=h.av;have K:=h.lt;have P:(V c.va c.vn c.vc).ownBlock≠M B:=h.n.2.2.far' (.inl ah);have Q:Bx Y (b+1) iW:=(h.z.keep f).grown a (λe=>(h.av _ e).2 rfl);obtain⟨⟨R,S,T,W,Z,e6⟩,_,_⟩:=h.n;have α:Same (iX B c) X Y:=⟨a.os,a.tape,a.output,a.size,λi hi hl=>a.block i hl (λe=>hi.2.2 e.symm)⟩;have t:∀g,(V d (c.vn+1) c').ownBlock=M g->g≠b/\g≠b+1:=by
  rcases o with e|e
  .rw[e];exact F
  .rw[e];intro g e;injection e with e;omega
 have β:Same (iX B c) w Y:=(Same.of_below f (λ_ _ h=>h)).tr α;refine⟨⟨A.aX 3 ak _,Q.setOther b 3 _ ah,⟨⟨R,S,T,W,Z,by simp[e6]⟩,?_,?_⟩,K,r,t⟩,λj k hm hb=>?_,λs p l e m=>⟨((m.x.keep f).grown a (λe=>P e)).setOther b 3 _ ah,m.d,m.le,m.lim⟩⟩
 .exact E.block λg a=>Below.heap_setCell _ _ _ _ (by rintro rfl;exact(r _ a).1 rfl)
 .exact x.block λg a=>Below.heap_setCell _ _ _ _ (by rintro rfl;exact(t _ a).1 rfl)
 .have γ:Mv B k (yu c d (c.vn+1) c') j Y:=hm.trans ⟨β,λ_ h=> .inl h,λg u=>by
   rcases o with e|e
   .exact .inl (e▸u)
   .right
    have:M g=M X.1.size:=u.symm.trans e;injection this with this;omega⟩
  exact γ.set hb 3 _
theorem Mv.jP {d:I}{g:G}(h:Mv B f c d w)(a:d.1.size<=g):Mv B f c d (jP w g c'):=
 (((((h.set a 0 _).set a 1 _).set a 2 _).set a 3 _).set a 4 _).set a 5 _
theorem cB.jP {g:G}(h:cB w B s p l e)(a:g≠B)(c:aW):cB (jP w g c) B s p l e:=⟨(rH w g c).bx h.x (Ne.symm a),h.d,h.le,h.lim⟩
theorem jq.fin (h:jq w B b c n)(hc:cB w B s p l e)(g:Mv B f c a w)(j:a.1.size<=b):
  cB (Yd.jP w (b+1) c) B s p l e/\dZ (Yd.jP w (b+1) c) (B+1) c n/\Mv B f c a (Yd.jP w (b+1) c):=
 ⟨hc.jP (by have:=h.lt;omega) c,h.n.jP (λi d=>(h.an i d).2) (λi d=>(h.av i d).2),g.jP ah⟩
theorem jq.put {a:aK}(h:jq w B b c n)(m:dZ w' (B+1) c' a)(d:Mv B c c' w w'):jq (Yd.jP w' b c') B b c' a:=by
 have o:=h.lt;have s:=h.bl;have p:iX B c b:=⟨by omega,λe=>(h.an b e).1 rfl,λe=>(h.av b e).1 rfl⟩;have r:iX B c (b+1):=⟨by omega,λe=>(h.an _ e).2 rfl,λe=>(h.av _ e).2 rfl⟩;have k:∀g,(V c'.na c'.nn c'.nc).ownBlock=M g->g≠b/\g≠b+1:=λg f=>by
  rcases d.na g f with e|e
  .exact h.an g e
  .omega
 have l:∀g,(V c'.va c'.vn c'.vc).ownBlock=M g->g≠b/\g≠b+1:=λg f=>by
  rcases d.va g f with e|e
  .exact h.av g e
  .omega
 exact⟨Hf (d.bx h.x p) c',(rH w' b c').bx (d.bx h.z r) ah,m.jP (λi j=>(k i j).1) (λi j=>(l i j).1),o,k,l⟩
end Yd
