import Derived.Test.YtiheclemhihpeaaGreatDoorZSpoken2
set_option linter.all false
set_option maxRecDepth 200000
set_option maxHeartbeats 8000000
namespace Yd
open Option renaming some->H,none->J
open Go Go.RowKit Go.Proofs
open _root_ renaming List->C,Int->G,Nat->I
theorem abC{p:Prop}(h:p:=by rw[show i+(j+1)=i+1+j by omega];exact a):p:=h
def fT (e:EvC)(a:C Sn):C (G × G):=
 (0,e.t)::(if e.kind=1 then [(1,e.gG)] else if e.kind=2\/e.kind=3 then(2,e.obj)::ig e.v else if e.kind=4 then [(3,e.pred)] else [])++a.flatMap (λs=>(2,s.obj)::ig s.v)
def jI (x:aO)(a:C G):C (G × G):=(2,x.obj)::a.map (λd=>(0,d))
def kI (x:aP)(a:C G):C (G × G):=(3,x.pred)::(2,x.obj)::a.map (λd=>(0,d))
def ny (x:Wa):C (G × G):=[(1,x.gG)]
def lJ (a:C EvC)(c:C aO)(d:C aP)(f:C Wa)(g:EvC->C Sn)(h:aO->C G)(i:aP->C G):C (G × G):=
 a.flatMap (λe=>fT e (g e))++c.flatMap (λx=>jI x (h x))++d.flatMap (λx=>kI x (i x))++f.flatMap ny
def Reads (w X:World):Prop:=∀a v,w.cell? a=H v->X.cell? a=H v
theorem Reads.keep {w X Y:World}{D:I->Prop}(h:Reads w X)(k:bM D X Y)(e:∀i,i<w.1.size->D i)(f:w.1.size<=X.1.size):Reads w Y:=λa v c=>by
 have d:=iw c;rw[World.cell?_of_block (k.2 a.block (e _ d) (kS d f))];exact h a v c
theorem Row.reads {β:Type}{w X:World}{k:I}{enc:β->C Value}{a:Option Addr}{n c:I}{xs:C β}(h:Row w k enc a n c xs)(d:Reads w X):Row X k enc a n c xs:=h.ext d
theorem DJ {n:G}{m:I}(h:bf n m=true):0<=n/\n<m:=by grind [bf]
variable{v:je}{B:I}
theorem Vd (h:gJ v B=true)(a:0<v.k):0<=v.t/\v.t<B:=by
 unfold gJ at h;rw[ay ah] at h;simp only[bD] at h;exact DJ h.1.1
def zf (x:G × G):Prop:=(0<=x.1/\x.1<4)/\0<=x.2/\x.2<300
theorem IV (h:gJ v B=true)(c:B<=300):∀x∈ig v,zf x:=by
 intro x a;unfold ig at a
 split at a
 .obtain rfl:x=(0,v.t):=by simpa using a
  have:=Vd h ‹_›;exact⟨⟨by simp,by simp⟩,this.1,by have:=this.2;show v.t<300;omega⟩
 grind
theorem tK {a n:G}{m:I}(ha:0<=a)(c:a<4)(h:bf n m=true)(d:m<=300):zf (a,n):=
 ⟨⟨ha,c⟩,(DJ h).1,by have:=(DJ h).2;show n<300;omega⟩
theorem Ve {R a c:I}{e:EvC}{y:C Sn}(h:gY B R a c e y=true)(f:B<=300)(g:R<=300)(i:a<=300)(j:c<=300):∀x∈fT e y,zf x:=by
 simp only[gY,bD] at h;obtain⟨⟨⟨⟨_,_⟩,k⟩,l⟩,m⟩:=h;have n:∀s∈y,zf (2,s.obj)/\∀x∈ig s.v,zf x:=by
  grind [fD,hasB,ji,tK,IV]
 intro x d;simp only[fT,cu,dP,kU] at d
 grind [hasB,tK,bf,gJ,IV]
theorem Lu {h:HC}{nl:I->C Bs}{E:C EvC}{j:C aO}{k:C aP}{p:C Wa}{r:EvC->C Sn}{s:aO->C G}{t:aP->C G}(u:nK h nl E j k p r s t=true)
  (B:∀i,i<4->(nl i).length=(h.nm i).n):∀x∈lJ E j k p r s t,zf x:=by
 simp only[nK,qK,bD,jW,uN] at u;obtain⟨⟨⟨⟨⟨_,F⟩,K⟩,hd⟩,P⟩,Q⟩:=u;have c:∀i,i<4->(h.nm i).n<=300:=λi f=>by
  have:=F i f;simp only[qA,bD,bO] at this;have R:=this.1;rw[B i f] at R;have:Dy i<=300:=by
   match i,f with
   |0,_=>decide
   |1,_=>decide
   |2,_=>decide
   |3,_=>decide
  omega
 have v:h.t.n<=300:=c 0 aj;have w:h.s.n<=300:=c 1 aj;have g:h.o.n<=300:=c 2 aj;have y:h.p.n<=300:=c 3 aj;have z:∀(l:C G),fK h.t.n l=true->∀x∈l.map (λd=>((0:G),d)),zf x:=λl A x a=>by
  obtain⟨d,n,rfl⟩:=eZ.1 a;simp only[fK,bD,jW] at A;exact tK aj aj (A.2 d n) v
 intro x a;simp only[lJ,cu,kU] at a;rcases a with((⟨e,S,a⟩|⟨d,n,a⟩)|⟨m,T,a⟩)|⟨q,W,a⟩
 .exact Ve (K e S) v w g y x a
 .have:=hd d n
  simp only[JW,bD] at this;rcases dP.1 a with rfl|a
  .exact tK aj aj this.1 g
  .exact z _ this.2 x a
 .have:=P m T
  simp only[JX,bD] at this;rcases dP.1 a with rfl|a
  .exact tK aj aj this.1.1 y
  .rcases dP.1 a with rfl|a
   .exact tK aj aj this.1.2 g
   .exact z _ this.2 x a
 .have:=Q q W
  simp only[EQ,bD] at this;obtain rfl:x=(1,q.gG):=by simpa[ny] using a
  exact tK aj aj this.1.1 w
section
variable {α:Type}{hd:I->α->C (G × Addr)}{sub:α->C (G × Addr)}
theorem eT:∀(xs:C α)(i:I)(p:G × Addr),p∈gr hd sub i xs↔∃j x,xs[j]?=H x/\(p∈hd (i+j) x\/p∈sub x)
 |[],_,_=>⟨λh=>(by cases h),λ⟨_,_,h,_⟩=>(by cases h)⟩
 |x::xs,i,p=>by
  show p∈hd i x++(sub x++gr hd sub (i+1) xs)↔_;rw[cu,cu,eT xs (i+1) p]
  constructor
  .rintro(h|h|⟨j,y,c,a⟩)
   .exact⟨0,x,rfl,.inl h⟩
   .exact⟨0,x,rfl,.inr h⟩
   .exact⟨j+1,y,c,abC⟩
  .rintro⟨j,y,c,a⟩
   cases j with
   |zero=>
    injection c with c;subst c;rcases a with a|a
    .exact .inl a
    .exact .inr (.inl a)
   |succ j=>exact .inr (.inr ⟨j,y,c,by rw[show i+1+j=i+(j+1) by omega];exact a⟩)
theorem wh {β:Type}(f:G × Addr->β)(g:α->C β):∀(xs:C α)(i:I),(∀j x,xs[j]?=H x->(hd (i+j) x).map f++(sub x).map f=g x)->(gr hd sub i xs).map f=xs.flatMap g
 |[],_,_=>rfl
 |x::xs,i,h=>by
  show(hd i x++(sub x++gr hd sub (i+1) xs)).map f=_;rw[fV,fV,og,<-h 0 x rfl,wh f g xs (i+1) (λj y a=>by rw[show i+1+j=i+(j+1) by omega];exact h (j+1) y a),fP]
  rfl
def Gs (b k i j:I)(p:Addr):Prop:=p.block=b/\i*k<=p.off/\p.off<j*k
theorem rE {b k:I}{blk:α->Option I}:∀(xs:C α)(i:I),
  (∀j x,xs[j]?=H x->((hd (i+j) x).map Prod.snd).Nodup/\∀p∈hd (i+j) x,Gs b k (i+j) (i+j+1) p.2)->
  (∀x∈xs,((sub x).map Prod.snd).Nodup/\∀p∈sub x,blk x=H p.2.block/\p.2.block≠b)->
  xs.Pairwise (λx y=>∀g,blk x=H g->blk y≠H g)->((gr hd sub i xs).map Prod.snd).Nodup
 |[],_,_,_,_=>oC
 |x::xs,i,m,n,w=>by
  have A:=rE xs (i+1) (λj y c=>by rw[show i+1+j=i+(j+1) by omega];exact m (j+1) y c) (λy c=>n y (iM _ c)) (List.pairwise_cons.1 w).2;have z:=m 0 x rfl;have s:=n x pU;have B:=(List.pairwise_cons.1 w).1;show((hd i x++(sub x++gr hd sub (i+1) xs)).map Prod.snd).Nodup;rw[fV,fV];refine tY.2 ⟨z.1,tY.2 ⟨s.1,A,?_⟩,?_⟩
  .intro p t q f e
   obtain⟨u,v,rfl⟩:=eZ.1 t;obtain⟨d,l,rfl⟩:=eZ.1 f;obtain⟨j,y,c,a⟩:=(eT xs (i+1) d).1 l;have h:=s.2 u v;rcases a with a|a
   .have:=(m (j+1) y c).2 d abC
    exact h.2 (by rw[e];exact this.1)
   .have r:=bS c
    have:=(n y (iM _ r)).2 d a;exact B y r _ h.1 (by rw[this.1,e])
  .intro p t q f e
   obtain⟨u,v,rfl⟩:=eZ.1 t;have h:=z.2 u v;rcases cu.1 f with f|f
   .obtain⟨d,l,rfl⟩:=eZ.1 f
    exact(s.2 d l).2 (by rw[<-e];exact h.1)
   .obtain⟨d,l,rfl⟩:=eZ.1 f
    obtain⟨j,y,c,a⟩:=(eT xs (i+1) d).1 l;rcases a with a|a
    .have:=(m (j+1) y c).2 d abC
     have E:=h.2.2;have F:=this.2.1;rw[e] at E;have:(i+0+1)*k<=(i+(j+1))*k:=Nat.mul_le_mul_right _ ah;omega
    .have r:=bS c
     have:=(n y (iM _ r)).2 d a;exact this.2 (by rw[<-e];exact h.1)
end
theorem nO {p:Addr}{x:G × Addr}:x∈iR p v↔x=(0,p)/\0<v.k:=by
 grind [iR]
theorem El (p:Addr)(v:je):((iR p v).map Prod.snd).Nodup:=by
 grind [iR]
section
variable {b o:I}
theorem Gm (i:I)(s:Sn):((F3 (H ⟨b,0,J⟩) i s).map Prod.snd).Nodup/\∀p∈F3 (H ⟨b,0,J⟩) i s,Gs b 3 i (i+1) p.2:=by
 constructor
 .unfold F3
  grind [El,nO]
 .intro p a
  rcases dP.1 a with rfl|a
  .exact⟨rfl,by show _<=0+i*3;omega,by show 0+i*3<_;omega⟩
  .rw[(nO.1 a).1]
   exact⟨rfl,by show _<=0+(i*3+1);omega,by show 0+(i*3+1)<_;omega⟩
theorem Gp (i:I)(e:EvC):((sP (H ⟨b,0,J⟩) i e).map Prod.snd).Nodup/\∀p∈sP (H ⟨b,0,J⟩) i e,Gs b 9 i (i+1) p.2:=by
 have c:∀p∈iR (oJ (H ⟨b,0,J⟩) (i*9+5)) e.v,p=(0,(⟨b,0+(i*9+5),J⟩:Addr)):=λp a=>(nO.1 a).1
 constructor
 .unfold sP
  grind [El]
 .intro p a
  unfold sP at a;rcases dP.1 a with rfl|a
  .exact⟨rfl,by show _<=0+(i*9+1);omega,by show 0+(i*9+1)<_;omega⟩
  .split at a
   .rw[dw.1 a]
    exact⟨rfl,by show _<=0+(i*9+2);omega,by show 0+(i*9+2)<_;omega⟩
   .split at a
    .rcases dP.1 a with rfl|a
     .exact⟨rfl,by show _<=0+(i*9+4);omega,by show 0+(i*9+4)<_;omega⟩
     .rw[c p a]
      exact⟨rfl,by show _<=0+(i*9+5);omega,by show 0+(i*9+5)<_;omega⟩
    .split at a
     .rw[dw.1 a]
      exact⟨rfl,by show _<=0+(i*9+7);omega,by show 0+(i*9+7)<_;omega⟩
     grind
theorem Mq (i:I)(x:G):((P5 (H ⟨b,0,J⟩) i x).map Prod.snd).Nodup/\∀p∈P5 (H ⟨b,0,J⟩) i x,Gs b 1 i (i+1) p.2:=by
 refine⟨by simp,λp a=>?_⟩;rw[dw.1 a];exact⟨rfl,by show _<=0+i;omega,by show 0+i<_;omega⟩
theorem Mr (i:I)(x:aO):((Iu (H ⟨b,0,J⟩) i x).map Prod.snd).Nodup/\∀p∈Iu (H ⟨b,0,J⟩) i x,Gs b 2 i (i+1) p.2:=by
 refine⟨by simp,λp a=>?_⟩;rw[dw.1 a];exact⟨rfl,by show _<=0+i*2;omega,by show 0+i*2<_;omega⟩
theorem Ms (i:I)(x:aP):((F4 (H ⟨b,0,J⟩) i x).map Prod.snd).Nodup/\∀p∈F4 (H ⟨b,0,J⟩) i x,Gs b 4 i (i+1) p.2:=by
 refine⟨by simp,λp a=>?_⟩;rcases dP.1 a with rfl|a
 .exact⟨rfl,by show _<=0+i*4;omega,by show 0+i*4<_;omega⟩
 .rw[dw.1 a]
  exact⟨rfl,by show _<=0+(i*4+1);omega,by show 0+(i*4+1)<_;omega⟩
theorem Mt (i:I)(x:Wa):((Iw (H ⟨b,0,J⟩) i x).map Prod.snd).Nodup/\∀p∈Iw (H ⟨b,0,J⟩) i x,Gs b 2 i (i+1) p.2:=by
 refine⟨by simp,λp a=>?_⟩;rw[dw.1 a];exact⟨rfl,by show _<=0+i*2;omega,by show 0+i*2<_;omega⟩
end
end Yd
