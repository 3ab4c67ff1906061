import Derived.Test.YtpeojoobplpcoaaGreatDoorPSpoken3
set_option linter.all false
set_option maxRecDepth 200000
set_option maxHeartbeats 8000000
namespace Yd
open Option renaming some->a,none->c
open Go Go.RowKit Go.Proofs
section
variable {α:Type}{hd:Nat->α->List (Int × Addr)}{sub:α->List (Int × Addr)}
theorem fU:∀(xs:List α)(i:Nat)(p:Int × Addr),p∈gr hd sub i xs↔∃j x,xs[j]?=a x/\(p∈hd (i+j) x\/p∈sub x)
 |[],_,_=>⟨λh=>(by cases h),λ⟨_,_,h,_⟩=>(by cases h)⟩
 |x::xs,i,p=>by
  show p∈hd i x++(sub x++gr hd sub (i+1) xs)↔_;rw[dm,dm,fU xs (i+1) p]
  constructor
  .rintro(h|h|⟨j,y,h1,h2⟩)
   .exact⟨0,x,rfl,.inl h⟩
   .exact⟨0,x,rfl,.inr h⟩
   .exact⟨j+1,y,h1,by rw[show i+(j+1)=i+1+j by omega];exact h2⟩
  .rintro⟨j,y,h1,h2⟩
   cases j with
   |zero=>
    injection h1 with h1;subst h1;rcases h2 with h2|h2
    .exact .inl h2
    .exact .inr (.inl h2)
   |succ j=>exact .inr (.inr ⟨j,y,h1,by rw[show i+1+j=i+(j+1) by omega];exact h2⟩)
theorem Bl {β:Type}(f:Int × Addr->β)(g:α->List β):∀(xs:List α)(i:Nat),(∀j x,xs[j]?=a x->(hd (i+j) x).map f++(sub x).map f=g x)->(gr hd sub i xs).map f=xs.flatMap g
 |[],_,_=>rfl
 |x::xs,i,h=>by
  show(hd i x++(sub x++gr hd sub (i+1) xs)).map f=_;rw[eU,eU,gY,<-h 0 x rfl,Bl f g xs (i+1) (λj y hy=>by rw[show i+1+j=i+(j+1) by omega];exact h (j+1) y hy),dD]
  rfl
def QL (b k i j:Nat)(p:Addr):Prop:=p.block=b/\i*k<=p.off/\p.off<j*k
theorem wN {b k:Nat}{blk:α->Option Nat}:∀(xs:List α)(i:Nat),
  (∀j x,xs[j]?=a x->((hd (i+j) x).map Prod.snd).Nodup/\∀p∈hd (i+j) x,QL b k (i+j) (i+j+1) p.2)->
  (∀x∈xs,((sub x).map Prod.snd).Nodup/\∀p∈sub x,blk x=a p.2.block/\p.2.block≠b)->
  xs.Pairwise (λx y=>∀g,blk x=a g->blk y≠a g)->((gr hd sub i xs).map Prod.snd).Nodup
 |[],_,_,_,_=>tY
 |x::xs,i,h1,h2,h3=>by
  have ih:=wN xs (i+1) (λj y hy=>by rw[show i+1+j=i+(j+1) by omega];exact h1 (j+1) y hy) (λy hy=>h2 y (eD _ hy)) (List.pairwise_cons.1 h3).2;have hx:=h1 0 x rfl;have hs:=h2 x fM;have hp:=(List.pairwise_cons.1 h3).1;show((hd i x++(sub x++gr hd sub (i+1) xs)).map Prod.snd).Nodup;rw[eU,eU];refine zk.2 ⟨hx.1,zk.2 ⟨hs.1,ih,?_⟩,?_⟩
  .intro p hp1 q hq e
   obtain⟨p',hp',rfl⟩:=dI.1 hp1;obtain⟨q',hq',rfl⟩:=dI.1 hq;obtain⟨j,y,hy,hq2⟩:=(fU xs (i+1) q').1 hq';have hb:=hs.2 p' hp';rcases hq2 with hq2|hq2
   .have:=(h1 (j+1) y hy).2 q' (by rw[show i+(j+1)=i+1+j by omega];exact hq2)
    exact hb.2 (by rw[e];exact this.1)
   .have hm:=dP hy
    have:=(h2 y (eD _ hm)).2 q' hq2;exact hp y hm _ hb.1 (by rw[this.1,e])
  .intro p hp1 q hq e
   obtain⟨p',hp',rfl⟩:=dI.1 hp1;have hb:=hx.2 p' hp';rcases dm.1 hq with hq|hq
   .obtain⟨q',hq',rfl⟩:=dI.1 hq
    exact(hs.2 q' hq').2 (by rw[<-e];exact hb.1)
   .obtain⟨q',hq',rfl⟩:=dI.1 hq
    obtain⟨j,y,hy,hq2⟩:=(fU xs (i+1) q').1 hq';rcases hq2 with hq2|hq2
    .have:=(h1 (j+1) y hy).2 q' (by rw[show i+(j+1)=i+1+j by omega];exact hq2)
     have h5:=hb.2.2;have h6:=this.2.1;rw[e] at h5;have:(i+0+1)*k<=(i+(j+1))*k:=Nat.mul_le_mul_right _ ah;omega
    .have hm:=dP hy
     have:=(h2 y (eD _ hm)).2 q' hq2;exact this.2 (by rw[<-e];exact hb.1)
end
theorem rF {p:Addr}{v:lK}{x:Int × Addr}:x∈kr p v↔x=(0,p)/\0<v.k:=by
 unfold kr
 split
 .rename_i h;simp[h]
 .rename_i h;simp[h]
theorem Ng (p:Addr)(v:lK):((kr p v).map Prod.snd).Nodup:=by
 unfold kr
 split <;> simp
section
variable {b o:Nat}
theorem OQ (i:Nat)(s:Sn):((OX (a ⟨b,0,c⟩) i s).map Prod.snd).Nodup/\∀p∈OX (a ⟨b,0,c⟩) i s,QL b 3 i (i+1) p.2:=by
 constructor
 .unfold OX
  rw[eu];refine List.nodup_cons.2 ⟨λh=>?_,Ng _ _⟩;obtain⟨p,hp,e⟩:=dI.1 h;rw[(rF.1 hp).1] at e;injection e with _ e;simp at e
 .intro p hp
  rcases dU.1 hp with rfl|hp
  .exact⟨rfl,by show _<=0+i*3;omega,by show 0+i*3<_;omega⟩
  .rw[(rF.1 hp).1]
   exact⟨rfl,by show _<=0+(i*3+1);omega,by show 0+(i*3+1)<_;omega⟩
theorem OV (i:Nat)(e:EvC):((vI (a ⟨b,0,c⟩) i e).map Prod.snd).Nodup/\∀p∈vI (a ⟨b,0,c⟩) i e,QL b 9 i (i+1) p.2:=by
 have hv:∀p∈kr (nX (a ⟨b,0,c⟩) (i*9+5)) e.v,p=(0,(⟨b,0+(i*9+5),c⟩:Addr)):=λp hp=>(rF.1 hp).1
 constructor
 .unfold vI
  split
  .simp
  .split
   .rw[eu,eu]
    refine List.nodup_cons.2 ⟨λh=>?_,List.nodup_cons.2 ⟨λh=>?_,Ng _ _⟩⟩
    .rcases dU.1 h with e|h
     .injection e with _ e;simp at e
     .obtain⟨p,hp,e⟩:=dI.1 h
      rw[hv p hp] at e;injection e with _ e;simp at e
    .obtain⟨p,hp,e⟩:=dI.1 h
     rw[hv p hp] at e;injection e with _ e;simp at e
   .split <;> simp
 .intro p hp
  unfold vI at hp;rcases dU.1 hp with rfl|hp
  .exact⟨rfl,by show _<=0+(i*9+1);omega,by show 0+(i*9+1)<_;omega⟩
  .split at hp
   .rw[bT.1 hp]
    exact⟨rfl,by show _<=0+(i*9+2);omega,by show 0+(i*9+2)<_;omega⟩
   .split at hp
    .rcases dU.1 hp with rfl|hp
     .exact⟨rfl,by show _<=0+(i*9+4);omega,by show 0+(i*9+4)<_;omega⟩
     .rw[hv p hp]
      exact⟨rfl,by show _<=0+(i*9+5);omega,by show 0+(i*9+5)<_;omega⟩
    .split at hp
     .rw[bT.1 hp]
      exact⟨rfl,by show _<=0+(i*9+7);omega,by show 0+(i*9+7)<_;omega⟩
     .cases hp
theorem WY (i:Nat)(x:Int):((hdI (a ⟨b,0,c⟩) i x).map Prod.snd).Nodup/\∀p∈hdI (a ⟨b,0,c⟩) i x,QL b 1 i (i+1) p.2:=by
 refine⟨by simp,λp hp=>?_⟩;rw[bT.1 hp];exact⟨rfl,by show _<=0+i;omega,by show 0+i<_;omega⟩
theorem WZ (i:Nat)(x:aM):((SB (a ⟨b,0,c⟩) i x).map Prod.snd).Nodup/\∀p∈SB (a ⟨b,0,c⟩) i x,QL b 2 i (i+1) p.2:=by
 refine⟨by simp,λp hp=>?_⟩;rw[bT.1 hp];exact⟨rfl,by show _<=0+i*2;omega,by show 0+i*2<_;omega⟩
theorem Xa (i:Nat)(x:aN):((OW (a ⟨b,0,c⟩) i x).map Prod.snd).Nodup/\∀p∈OW (a ⟨b,0,c⟩) i x,QL b 4 i (i+1) p.2:=by
 refine⟨by simp,λp hp=>?_⟩;rcases dU.1 hp with rfl|hp
 .exact⟨rfl,by show _<=0+i*4;omega,by show 0+i*4<_;omega⟩
 .rw[bT.1 hp]
  exact⟨rfl,by show _<=0+(i*4+1);omega,by show 0+(i*4+1)<_;omega⟩
theorem Xb (i:Nat)(x:Wa):((SC (a ⟨b,0,c⟩) i x).map Prod.snd).Nodup/\∀p∈SC (a ⟨b,0,c⟩) i x,QL b 2 i (i+1) p.2:=by
 refine⟨by simp,λp hp=>?_⟩;rw[bT.1 hp];exact⟨rfl,by show _<=0+i*2;omega,by show 0+i*2<_;omega⟩
end
end Yd
