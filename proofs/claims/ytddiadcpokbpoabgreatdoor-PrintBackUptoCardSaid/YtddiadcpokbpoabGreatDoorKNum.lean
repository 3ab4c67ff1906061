import Derived.Test.YtddiadcpokbpoabGreatDoorKSpoken2
import Derived.Test.YtddiadcpokbpoabGreatDoorKIk
set_option linter.all false
set_option maxRecDepth 200000
set_option maxHeartbeats 8000000
namespace Yd
open Go Go.RowKit Go.Proofs
open _root_ renaming Int->C,List->G,Nat->H
def iG (e:EvC)(a:G Sn):G (C × C):=
 (0,e.t)::(if e.kind=1 then [(1,e.eH)] else if e.kind=2\/e.kind=3 then(2,e.obj)::jm e.v else if e.kind=4 then [(3,e.pred)] else [])++a.flatMap (λs=>(2,s.obj)::jm s.v)
def nE (x:aG)(a:G C):G (C × C):=(2,x.obj)::a.map (λd=>(0,d))
def l9 (x:aK)(a:G C):G (C × C):=(3,x.pred)::(2,x.obj)::a.map (λd=>(0,d))
def mR (x:Wa):G (C × C):=[(1,x.eH)]
def kz (es:G EvC)(a:G aG)(b:G aK)(c:G Wa)(d:EvC->G Sn)(f:aG->G C)(g:aK->G C):G (C × C):=
 es.flatMap (λe=>iG e (d e))++a.flatMap (λx=>nE x (f x))++b.flatMap (λx=>l9 x (g x))++c.flatMap mR
def Reads (w X:World):Prop:=∀a v,w.cell? a=some v->X.cell? a=some v
theorem Reads.keep {w X Y:World}{D:H->Prop}(h:Reads w X)(k:bA D X Y)(d:∀i,i<w.1.size->D i)(e:w.1.size<=X.1.size):Reads w Y:=λa v b=>by
 have c:=dQ b;rw[World.cell?_of_block (k.2 a.block (d _ c) (bP c e))];exact h a v b
theorem Row.reads {α:Type}{w X:World}{k:H}{enc:α->G Value}{a:Option Addr}{n c:H}{xs:G α}(h:Row w k enc a n c xs)(b:Reads w X):Row X k enc a n c xs:=h.ext b
def zl (a:(H->C) × Bool)(x:C × C):(H->C) × Bool:=
 if a.2=true/\x.2<=a.1 x.1.toNat then(λs=>if s=x.1.toNat then(if x.2+1>a.1 s then x.2+1 else a.1 s) else a.1 s,true) else(a.1,false)
def iQ (xs:G (C × C)):(H->C) × Bool:=xs.foldl zl (λ_=>0,true)
theorem xC (xs:G (C × C))(x:C × C):iQ (xs++[x])=zl (iQ xs) x:=by simp[iQ]
theorem UQ {p xs:G (C × C)}(h:p<+:xs)(a:(iQ p).2=false):(iQ xs).2=false:=by
 obtain⟨t,rfl⟩:=h;rw[iQ,List.foldl_append];show(t.foldl zl (iQ p)).2=false;generalize iQ p=b at a
 induction t generalizing b with
 |nil=>exact a
 |cons y t c=>exact c _ (by simp[zl,a])
theorem Ko {a:(H->C) × Bool}{x:C × C}(h:x.2>a.1 x.1.toNat):(zl a x).2=false:=by
 unfold zl;rw[au ah]
theorem Hy {m:H->C}{b:Bool}{s:H}{n:C}(a:b=true)(h:n<=m s):zl (m,b) ((s:C),n)=(λi=>if i=s then(if n+1>m i then n+1 else m i) else m i,true):=by
 unfold zl;rw[av ⟨a,by simpa using h⟩];simp
theorem lX {n:C}{m:H}(h:aY n m=true):0<=n/\n<m:=by simpa[aY] using h
theorem X8 {v:kg}{nt:H}(h:gq v nt=true)(a:0<v.k):0<=v.t/\v.t<nt:=by
 unfold gq at h;rw[au ah] at h;simp only[aM] at h;exact lX h.1.1
def tK (x:C × C):Prop:=(0<=x.1/\x.1<4)/\0<=x.2/\x.2<300
theorem Li {v:kg}{nt:H}(h:gq v nt=true)(b:nt<=300):∀x∈jm v,tK x:=by
 intro x a;unfold jm at a
 split at a
 .obtain rfl:x=(0,v.t):=by simpa using a
  have:=X8 h ‹_›;exact⟨⟨by simp,by simp⟩,this.1,by have:=this.2;show v.t<300;omega⟩
 .cases a
theorem qm {a n:C}{m:H}(ha:0<=a)(b:a<4)(h:aY n m=true)(c:m<=300):tK (a,n):=
 ⟨⟨ha,b⟩,(lX h).1,by have:=(lX h).2;show n<300;omega⟩
theorem X9 {nt ns b R:H}{e:EvC}{g:G Sn}(h:fZ nt ns b R e g=true)(j:nt<=300)(o:ns<=300)(k:b<=300)(p:R<=300):∀x∈iG e g,tK x:=by
 simp only[fZ,aM] at h;obtain⟨⟨⟨⟨_,_⟩,q⟩,a⟩,d⟩:=h;have l:∀s∈g,tK (2,s.obj)/\∀x∈jm s.v,tK x:=by
  intro s f;by_cases i:e.kind=4
  .simp[hasB,i] at a
   obtain⟨⟨_,_⟩,ha⟩:=a;have:=ha s f;simp only[jG,aM] at this;exact⟨qm aj aj this.1 k,Li this.2 j⟩
  .have r:g=[]:=by
    unfold gD at d;rw[au i] at d
    split at d
    .simpa using(by simp only[aM,aV] at d;exact d.2)
    .split at d <;> (simp only[aM,aV] at d;exact d.2)
   rw[r] at f;cases f
 intro x c;simp only[iG,cu,dO,kH] at c;rcases c with(rfl|c)|⟨s,f,c⟩
 .exact qm aj aj q j
 .unfold hasB at a
  split at c
  .rw[av ‹_›] at a
   obtain rfl:x=(1,e.eH):=by simpa using c
   simp only[aM] at a;exact qm aj aj a.1 o
  .rename_i t
   rw[au t] at a
   split at c
   .rename_i m
    have n:aY e.obj b=true/\gq e.v nt=true:=by
     rcases m with u|v
     .rw[av u] at a;simp only[aM] at a;exact a.1.1
     .rw[au ah,av v] at a;simp only[aM] at a;exact a
    rcases dO.1 c with rfl|c
    .exact qm aj aj n.1 k
    .exact Li n.2 j x c
   .rename_i m
    split at c
    .rename_i i
     rw[au ah,au ah,av i] at a;simp only[aM] at a;obtain rfl:x=(3,e.pred):=by simpa using c
     exact qm aj aj a.1.1 p
    .cases c
 .rcases c with rfl|c
  .exact(l s f).1
  .exact(l s f).2 x c
theorem Fw {m:HC}{k:H->G Bs}{es:G EvC}{i:G aG}{j:G aK}{n:G Wa}{o:EvC->G Sn}{p:aG->G C}{r:aK->G C}(s:gB m k es i j n o p r=true)
  (z:∀b,b<4->(k b).length=(m.nm b).n):∀x∈kz es i j n o p r,tK x:=by
 simp only[gB,ni,aM,dZ,oG] at s;obtain⟨⟨⟨⟨⟨_,A⟩,B⟩,E⟩,F⟩,K⟩:=s;have c:∀b,b<4->(m.nm b).n<=300:=λb f=>by
  have:=A b f;simp only[nT,aM,aV] at this;have P:=this.1;rw[z b f] at P;have:zf b<=300:=by
   match b,f with
   |0,_=>decide
   |1,_=>decide
   |2,_=>decide
   |3,_=>decide
  omega
 have t:m.t.n<=300:=c 0 aj;have u:m.s.n<=300:=c 1 aj;have g:m.o.n<=300:=c 2 aj;have v:m.p.n<=300:=c 3 aj;have w:∀(l:G C),fu m.t.n l=true->∀x∈l.map (λd=>((0:C),d)),tK x:=λl y x a=>by
  obtain⟨d,h,rfl⟩:=bS.1 a;simp only[fu,aM,dZ] at y;exact qm aj aj (y.2 d h) t
 intro x a;simp only[kz,cu,kH] at a;rcases a with((⟨e,Q,a⟩|⟨d,h,a⟩)|⟨R,S,a⟩)|⟨q,T,a⟩
 .exact X9 (B e Q) t u g v x a
 .have:=E d h
  simp only[Cz,aM] at this;rcases dO.1 a with rfl|a
  .exact qm aj aj this.1 g
  .exact w _ this.2 x a
 .have:=F R S
  simp only[CB,aM] at this;rcases dO.1 a with rfl|a
  .exact qm aj aj this.1.1 v
  .rcases dO.1 a with rfl|a
   .exact qm aj aj this.1.2 g
   .exact w _ this.2 x a
 .have:=K q T
  simp only[zh,aM] at this;obtain rfl:x=(1,q.eH):=by simpa[mR] using a
  exact qm aj aj this.1.1 u
end Yd
