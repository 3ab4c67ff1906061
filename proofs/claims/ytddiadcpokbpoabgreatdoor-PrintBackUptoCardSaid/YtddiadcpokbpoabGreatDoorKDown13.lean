import Derived.Test.YtddiadcpokbpoabGreatDoorKPoke
import Derived.Test.YtddiadcpokbpoabGreatDoorRows
import Derived.ProofKit
import Derived.OpenShut
import Derived.Deep.Slices
import Derived.Test.YtddiadcpokbpoabGreatDoorCards
import Derived.Test.YtddiadcpokbpoabGreatDoorTie
import Derived.Deep.DeepHandedRow
import Derived.Lib.LaidU8
import Derived.LaidMore
import Derived.Test.YtddiadcpokbpoabGreatDoorKCnt
set_option linter.all false
set_option maxRecDepth 200000
set_option maxHeartbeats 8000000
namespace Yd
open Go Go.RowKit Go.Proofs Go.ChangeShapes Go.WideShapes Go.ChangeAt Tryz
open Tryz renaming prog->D
open _root_ renaming List->B,Nat->C,trivial->G
open Go.Proofs.YtddiadcpokbpoabGreatDoor.Rows (uptoBulk uptoBulkAll)
section
variable {H:Type}{enc:TypeId × Value->H}{w:World}{base:C}{spare:C->Bool}{held:Bool}
theorem Qv {d:DataW H}{l:B (DataW H)}(a:d∈l):uptoBulk d<=uptoBulkAll l:=by
 induction l with
 |nil=>cases a
 |cons x r b=>
  simp only[uptoBulkAll]
  cases dO.1 a with
  |inl e=>subst e;omega
  |inr e=>have:=b e;omega
theorem Qw (d:DataW H):1<=uptoBulk d:=by
 cases d with
 |lit l=>cases l <;> simp[uptoBulk]
 |nil=>simp[uptoBulk]
 |ptr d=>simp[uptoBulk]
 |slice a spare=>simp[uptoBulk]
 |agg parts=>simp[uptoBulk]
 |iface t d=>simp[uptoBulk]
 |map entries=>simp[uptoBulk]
 |held h=>simp[uptoBulk]
theorem Qx (l:B (DataW H)):l.length<=uptoBulkAll l:=by
 induction l with
 |nil=>simp[uptoBulkAll]
 |cons x r a=>have:=Qw x;simp only[uptoBulkAll,dK];omega
def Aq {α:Type}(enc:TypeId × Value->H)(w:World)(b:C)(c:C->Bool)(d:Bool)(N:C)(e:TypeId)(f:α->B Value)(Q:α->Prop):Prop:=
 ∀n a y,DataW.trod enc D w b c d n e a=some y->uptoBulk y.1<=N->∃x,a=f x/\Q x
theorem Fp {α:Type}{p:C->α->Prop}:∀(m:C),(∀i,i<m->∃x,p i x)->∃xs:B α,xs.length=m/\∀i x,xs[i]?=some x->p i x
 |0,_=>⟨[],rfl,λi x h=>by simp at h⟩
 |m+1,h=>by
  obtain⟨xs,b,e⟩:=Fp m (λi c=>h i ah);obtain⟨x,f⟩:=h m ah;refine⟨xs++[x],by simp[b],λi y a=>?_⟩;rcases iM i m with c|c
  .rw[rX ah] at a
   exact e i y a
  .rw[pG ah,b] at a
   have:i=m:=by
    rcases iM (i - m) 1 with d|d
    .omega
    .rw[qB (by simpa using d)] at a;cases a
   subst this;simp at a;subst a;exact f
theorem NQ {w:World}{a:Addr}{v:Value}(b:w.cell? a=some v):a.spot=none:=by
 unfold World.cell? at b
 split at b
 .split at b
  .cases b
  .rename_i c
   cases d:a.spot with
   |none=>rfl
   |some x=>rw[d] at c;exact absurd rfl c
 .cases b
variable{n:C}{cs:B Value}{y:DataW H × B MemPlace}
theorem kN {α:Type}{r:α->B Value}{k:C}[hc:Cells r k]{t e:TypeId}{Q:α->Prop}{N:C}(K:N<=140737488355328)(P:Tryz.prog.underlying t=some (.slice e))(A:Tryz.prog.cellsOf e=k)(R:Aq enc w base spare held N e r Q)
     (q:DataW.trod enc D w base spare held n t cs=some y) (S:uptoBulk y.1<=N):
  ∃s:Sl,∃xs:B α,cs=[s.v]/\Row w k r s.a s.n s.c xs/\xs.length<=N/\∀x∈xs,Q x:=by
 rcases DataW.trod_slice P q with⟨rfl,rfl⟩|⟨a,u,T,E,ι,n',rfl,rfl,rfl,κ,X,hm,Y,Z,_,_⟩
 .exact⟨⟨none,0,0⟩,[],rfl,Row.jv,bn _,λx c=>by cases c⟩
 .have β:uptoBulkAll (E.map (·.1))<=N:=by simp only[uptoBulk] at S;omega
  have γ:u<=N:=by
   have:=Qx (E.map (·.1));rw[bg,Y] at this;omega
  obtain⟨xs,δ,c⟩:=Fp (p:=λi x=>(∀j v,(r x)[j]?=some v->w.cell? (a.add (i*k+j))=some v)/\Q x) u (λi d=>by
   have hg:=Z i d;rw[cB ah] at hg;obtain⟨μ,h1,h2⟩:=Option.bind_eq_some_iff.1 hg;obtain⟨x,rfl,hq⟩:=R _ _ _ h2 (bI (Qv (bS.2 ⟨_,List.getElem_mem ah,rfl⟩)) β);obtain⟨_,ν,ε⟩:=World.cells?_some h1;refine⟨x,λj v f=>?_,hq⟩;have hj:j<k:=by have:=(bK.1 f).1;rw[hc.len] at this;exact this
   have:=ε j (by rw[A];exact hj);rw[Go.Deep.add_add,A,f] at this;exact this)
  refine⟨⟨some a,u,T⟩,xs,rfl,⟨δ,X,bI γ K,λq=>(by cases q),λi x F=>?_⟩,by omega,λx ζ=>?_⟩
  .have d:i<xs.length:=(bK.1 F).1
   have g:a.spot=none:=by
    obtain⟨m,η⟩:∃m,xs[0]?=some m:=⟨_,cB ah⟩;have hp:=hc.pos;obtain⟨z,θ⟩:∃z,(r m)[0]?=some z:=⟨_,cB (by rw[hc.len];exact hp)⟩;have:=(c 0 m η).1 0 z θ;rw[Nat.zero_mul,dB] at this;exact NQ this
   refine⟨a.block,a.off,by obtain⟨b,o,s⟩:=a;simp only at g;rw[g],λj v f=>?_⟩;have:=(c i x F).1 j v f;unfold Addr.add at this
   split at this
   .rename_i h0
    rw[show a.off+i*k+j=a.off by omega];obtain⟨b,o,s⟩:=a;simp only at g;rw[g] at this;exact this
   .rw[Nat.add_assoc];exact this
  .obtain⟨i,d⟩:=pO.1 ζ
   exact(c i x d).2
variable {N:C}
theorem NR:Aq enc w base spare held N 3 aS (λ_=>True):=λn a y h _=>by
 obtain⟨i,rfl,_,_⟩:=DataW.trod_int underlying3 h;exact⟨i,rfl,G⟩
theorem DL:Aq enc w base spare held N 9 encStr (λ_=>True):=λn a y h _=>by
 obtain⟨s,rfl,_,_⟩:=DataW.trod_string Tryz.underlying9 h;exact⟨s.data.toList,by simp[encStr],G⟩
theorem TV (a:DataW.trod enc D w base spare held n 4 cs=some y):∃b,cs=[.bool b]:=by
 obtain⟨b,rfl,_⟩:=DataW.trod_bool underlying4 a;exact⟨b,rfl⟩
theorem uR:Tryz.prog.cellsOf 3=1:=ay
theorem Bu:Tryz.prog.cellsOf 9=1:=ay
theorem Vq:Tryz.prog.cellsOf 4=1:=ay
theorem LD:Tryz.prog.cellsOf 46=2:=ay
theorem Vr:Tryz.prog.cellsOf 53=3:=ay
theorem Vs:Tryz.prog.cellsOf 49=9:=ay
theorem Vt:Tryz.prog.cellsOf 57=2:=ay
theorem Vu:Tryz.prog.cellsOf 60=4:=ay
theorem Vv:Tryz.prog.cellsOf 63=2:=ay
theorem ZJ:Tryz.prog.cellsOf 28=8:=ay
theorem Yf:Tryz.prog.cellsOf 47=1:=ay
theorem NS:Tryz.prog.cellsOf 55=1:=ay
theorem Vw:Tryz.prog.cellsOf 22=1:=ay
theorem Yg:Tryz.prog.cellsOf 23=1:=ay
theorem Yh:Tryz.prog.cellsOf 24=1:=ay
theorem Yi:Tryz.prog.cellsOf 25=1:=ay
theorem Yj:Tryz.prog.cellsOf 26=1:=ay
theorem NT (j:DataW.trod enc D w base spare held n 46 cs=some y):∃v:kg,cs=[.int .i64 v.t,.int .i64 v.k]:=by
 obtain⟨k,o,_,rfl,c,m,d⟩:=DataW.trod_struct underlying46 j;rw[LD] at c
 match k,m,cs,c with
 |[p,q],_,[r,s],_=>
  have e:=d 0 _ rfl;have f:=d 1 _ rfl;simp[uR] at e f;obtain⟨a,g,_⟩:=DataW.trod_int underlying3 e;obtain⟨b,i,_⟩:=DataW.trod_int underlying3 f;simp at g i;exact⟨⟨a,b⟩,by rw[g,i]⟩
theorem Yk:Aq enc w base spare held N 53 cZ (λ_=>True):=λn i y h _=>by
 obtain⟨j,m,_,rfl,c,k,d⟩:=DataW.trod_struct underlying53 h;rw[Vr] at c
 match j,k,i,c with
 |[o,p],_,[q,r,s],_=>
  have e:=d 0 _ rfl;have f:=d 1 _ rfl;simp[uR,LD] at e f;obtain⟨a,g,_⟩:=DataW.trod_int underlying3 e;obtain⟨v,b⟩:=NT f;simp at g b;exact⟨⟨a,v⟩,by rw[g,b.1,b.2];rfl,G⟩
theorem Yl:Aq enc w base spare held N 63 fE (λ_=>True):=λn j y h _=>by
 obtain⟨k,o,_,rfl,c,m,d⟩:=DataW.trod_struct underlying63 h;rw[Vv] at c
 match k,m,j,c with
 |[p,q],_,[r,s],_=>
  have e:=d 0 _ rfl;have f:=d 1 _ rfl;simp[uR] at e f;obtain⟨a,g,_⟩:=DataW.trod_int underlying3 e;obtain⟨b,i,_⟩:=DataW.trod_int underlying3 f;simp at g i;exact⟨⟨a,b⟩,by rw[g,i];rfl,G⟩
def QOr (w:World)(N:C)(x:aG):Prop:=∃a:B Int,Row w 1 aS x.sa x.sn x.sc a/\a.length<=N
def QMa (w:World)(N:C)(x:aK):Prop:=∃a:B Int,Row w 1 aS x.sa x.sn x.sc a/\a.length<=N
def QEv (w:World)(N:C)(x:EvC):Prop:=∃a:B Sn,Row w 3 cZ x.sa x.sn x.sc a/\a.length<=N
theorem Ym (j:N<=140737488355328):Aq enc w base spare held N 57 dV (QOr w N):=λn k y h b=>by
 obtain⟨m,t,_,rfl,c,o,d⟩:=DataW.trod_struct underlying57 h;rw[Vt] at c
 match m,o,k,c,b with
 |[u,v],_,[x,z],_,b=>
  simp only[dX,jN,uptoBulk,uptoBulkAll] at b;have e:=d 0 _ rfl;have f:=d 1 _ rfl;simp[uR,NS] at e f;obtain⟨a,g,_⟩:=DataW.trod_int underlying3 e;obtain⟨s,p,i,q,r,_⟩:=kN (hc:=eP) j underlying55 uR NR f ah;simp at g i;exact⟨⟨a,s.a,s.n,s.c⟩,by rw[g,i];rfl,p,q,r⟩
theorem Yn (r:N<=140737488355328):Aq enc w base spare held N 60 eB (QMa w N):=λn t y h d=>by
 obtain⟨u,E,_,rfl,e,v,c⟩:=DataW.trod_struct underlying60 h;rw[Vu] at e
 match u,v,t,e,d with
 |[F,K,P,Q],_,[R,S,T,X],_,d=>
  simp only[dX,jN,uptoBulk,uptoBulkAll] at d;have g:=c 0 _ rfl;have i:=c 1 _ rfl;have j:=c 2 _ rfl;have k:=c 3 _ rfl;simp[uR,NS,Vq] at g i j k;obtain⟨a,m,_⟩:=DataW.trod_int underlying3 g;obtain⟨b,o,_⟩:=DataW.trod_int underlying3 i;obtain⟨f,p⟩:=TV j;obtain⟨s,x,q,z,A,_⟩:=kN (hc:=eP) r underlying55 uR NR k ah;simp at m o p q;exact⟨⟨a,b,f,s.a,s.n,s.c⟩,by rw[m,o,p,q];rfl,x,z,A⟩
theorem Yo (A:N<=140737488355328):Aq enc w base spare held N 49 dx (QEv w N):=λn E y h b=>by
 obtain⟨F,n',_,rfl,d,K,a⟩:=DataW.trod_struct underlying49 h;rw[Vs] at d
 match F,K,E,d,b with
 |[y0,y1,y2,y3,y4,y5,y6,y7],_,[c0,c1,c2,c3,c4,c5,c6,c7,c8],_,b=>
  simp only[dX,jN,uptoBulk,uptoBulkAll] at b;have e:=a 0 _ rfl;have f:=a 1 _ rfl;have g:=a 2 _ rfl;have i:=a 3 _ rfl;have j:=a 4 _ rfl;have k:=a 5 _ rfl;have m:=a 6 _ rfl;have o:=a 7 _ rfl;simp[uR,Yf,LD] at e f g i j k m o;obtain⟨P,p,_⟩:=DataW.trod_int underlying3 e;obtain⟨Q,q,_⟩:=DataW.trod_int underlying3 f;obtain⟨R,r,_⟩:=DataW.trod_int underlying3 g;obtain⟨S,t,_⟩:=DataW.trod_int underlying3 i;obtain⟨T,u,_⟩:=DataW.trod_int underlying3 j;obtain⟨v,c⟩:=NT k;obtain⟨X,x,_⟩:=DataW.trod_int underlying3 m;obtain⟨s,Y,z,Z,hL,_⟩:=kN (hc:=ko) A underlying47 Vr Yk o ah;simp at p q r t u c x z;exact⟨⟨P,Q,R,S,T,v,X,s.a,s.n,s.c⟩,by rw[p,q,r,t,u,c.1,c.2,x,z];rfl,Y,Z,hL⟩
theorem wu {α:Type}{X:World}{k:C}{e:α->B Value}{a:Option Addr}{c:C}{b:C}(g:∃d:B α,Row X k e a n c d/\d.length<=b):
  (Classical.epsilon (λd:B α=>Row X k e a n c d)).length<=b/\Row X k e a n c (Classical.epsilon (λd:B α=>Row X k e a n c d)):=by
 obtain⟨d,f,i⟩:=g;have:=Classical.epsilon_spec (p:=λd:B α=>Row X k e a n c d) ⟨d,f⟩;exact⟨by rw[this.len,<-f.len];exact i,this⟩
theorem NU (h:DataW.trod enc D w base spare held n 28 cs=some y)(g:uptoBulk y.1<=1048576):
  ∃c:HC,∃k es d e f,∃m:EvC->B Sn,∃o:aG->B Int,∃p:aK->B Int,cs=(aD c).toList/\(∀i,i<4->Row w 1 encStr (c.nm i).a (c.nm i).n (c.nm i).c (k i))/\Deep w c es d e f m o p/\sj k es d e f m o p:=by
 obtain⟨xs,n',_,rfl,q,α,b⟩:=DataW.trod_struct underlying28 h;rw[ZJ] at q
 match xs,α,cs,q,g with
 |[y0,y1,y2,y3,y4,y5,y6,y7],_,[c0,c1,c2,c3,c4,c5,c6,c7],_,g=>
  simp only[dX,jN,uptoBulk,uptoBulkAll] at g;have r:=b 0 _ rfl;have s:=b 1 _ rfl;have t:=b 2 _ rfl;have u:=b 3 _ rfl;have v:=b 4 _ rfl;have z:=b 5 _ rfl;have A:=b 6 _ rfl;have E:=b 7 _ rfl;simp[Vw,Yg,Yh,Yi,Yj] at r s t u v z A E;obtain⟨s0,l0,F,r0,b0,_⟩:=kN (hc:=eX) (N:=1048576) aj underlying22 Bu DL r ah;obtain⟨s1,l1,K,r1,b1,_⟩:=kN (hc:=eX) (N:=1048576) aj underlying22 Bu DL s ah;obtain⟨s2,l2,P,r2,b2,_⟩:=kN (hc:=eX) (N:=1048576) aj underlying22 Bu DL t ah;obtain⟨s3,l3,Q,r3,b3,_⟩:=kN (hc:=eX) (N:=1048576) aj underlying22 Bu DL u ah;obtain⟨s4,es,R,r4,b4,S⟩:=kN (hc:=jI) (N:=1048576) aj underlying23 Vs (Yo aj) v ah;obtain⟨s5,d,T,r5,b5,X⟩:=kN (hc:=kr) (N:=1048576) aj underlying24 Vt (Ym aj) z ah;obtain⟨s6,e,Y,r6,b6,Z⟩:=kN (hc:=ku) (N:=1048576) aj underlying25 Vu (Yn aj) A ah;obtain⟨s7,f,e7,r7,b7,_⟩:=kN (hc:=lQ) (N:=1048576) aj underlying26 Vv Yl E ah;simp at F K P Q R T Y e7;refine⟨⟨s0,s1,s2,s3,s4,s5,s6,s7⟩,(λi=>match i with|0=>l0|1=>l1|2=>l2|_=>l3),es,d,e,f,_,_,_,by rw[F,K,P,Q,R,T,Y,e7],λi j=>?_,⟨r4,r5,r6,r7,λx a=>(wu (S x a)).2,λx a=>(wu (X x a)).2,λx a=>(wu (Z x a)).2⟩,
   ⟨by omega,by omega,by omega,by omega,λi j=>?_,λx a=>bI (wu (S x a)).1 aj,λx a=>bI (wu (X x a)).1 aj,λx a=>bI (wu (Z x a)).1 aj⟩⟩
  .match i,j with
   |0,_=>exact r0
   |1,_=>exact r1
   |2,_=>exact r2
   |3,_=>exact r3
  .match i,j with
   |0,_=>exact bI b0 aj
   |1,_=>exact bI b1 aj
   |2,_=>exact bI b2 aj
   |3,_=>exact bI b3 aj
end
end Yd
namespace Yd
open Go Go.RowKit Go.Proofs
def Qy (w:World)(l:bH)(s:aJ):Prop:=
 (l.kind=s.kind/\l.lvl=s.lvl/\l.first=s.first/\l.bits=s.bits)/\Row w 1 encStr l.na l.nn l.nc s.names/\Row w 2 pQ l.va l.vn l.vc s.aN
theorem Qy.below {w X:World}{l:bH}{s:aJ}(a:Qy w l s)(b:Below w.1.size w X):Qy X l s:=⟨a.1,a.2.1.below b rfl,a.2.2.below b rfl⟩
end Yd
namespace Yd
open Go Go.RowKit Go.Proofs Go.ChangeShapes Go.WideShapes Go.ChangeAt
open Go.Proofs.YtddiadcpokbpoabGreatDoor.Rows (uptoBulk uptoBulkAll)
section
variable {H:Type}{enc:TypeId × Value->H}{w:World}{base:Nat}{spare:Nat->Bool}{held:Bool}{N:Nat}
end
end Yd
namespace Yd
open Bool renaming false->C
open Option renaming none->G
open Go Go.RowKit Go.Proofs Tryz
open Below renaming refl->H
open Go.IntKind renaming i64->L
open Go.Obj renaming cells->M
open Go.Proofs renaming Utf8Tabs_below->V
open Go.Value renaming string->I,int->J
open Tryz renaming prog->O
open Yd renaming hid->B
open _root_ renaming trivial->N,Int->U
def rQ (x:Bool)(w:World)(e:Ending)(c:World):Prop:=∃(k a:U)(t:Bs)(d:Nat)(b:U),Gw k a t d b w e c/\((b==0 && k==1)=x)
theorem Vx (w:World)(d:Lib.Utf8Tabs 6 7 w):Calls O 147 #[I ⟨[32].toArray⟩,J L 0] w (rQ C w):=by
 have m:ByteArray.extract ⟨#[32]⟩ 0 1=⟨#[32]⟩:=ow [32] 1;have f:=λW (g:Below w.1.size w W)=>B (qi [32] 0 [32] rfl ak ak W (V d g))
 have b:Hid (nM [32]=1/\sP [32]=true):=B ⟨by decide,by decide⟩;go_enter func147,ntmps147;go_wp2_with fail;refine(f _ (aA (H _ _) _)).q.mono ?_;rintro e n ⟨rfl,a⟩;have i:=B ((aA (H w.1.size w) (M (aH 0 0 [] C) 214)).trans (a.mono ak));have c:=B ((Bx.new w (aH 0 0 [] C) 214).keep a);clear a;rw[b.q.1,b.q.2];have j:=(c.q.alloc (M (aH 0 1 [] C) 214)).1;have o:=(c.q.alloc (M (aH 0 1 [] C) 214)).2.1;have k:=B (aA i.q (M (aH 0 1 [] C) 214));go_wp2_with fail;refine bodyPost_ret (v:= .tuple #[.agg (aH 5 1 [] C),J L 1,J L 0]) (by simp[results,results147,go_sem,j]) rfl ⟨5,1,[],1,0,⟨C,rfl,?_⟩,by decide⟩;exact(((k.q.setCell (p:=⟨w.1.size,0,G⟩) (aB _) _).setCell (p:=⟨w.1.size,1,G⟩) (aB _) _).setCell (p:=⟨w.1.size,2,G⟩) (aB _) _).setCell (p:=⟨w.1.size,3,G⟩) (aB _) _
theorem Yp (w:World)(d:Lib.Utf8Tabs 6 7 w):Calls O 147 #[I ⟨[9].toArray⟩,J L 0] w (rQ C w):=by
 have m:ByteArray.extract ⟨#[9]⟩ 0 1=⟨#[9]⟩:=ow [9] 1;have f:=λW (g:Below w.1.size w W)=>B (qi [9] 0 [9] rfl ak ak W (V d g))
 have b:Hid (nM [9]=1/\sP [9]=true):=B ⟨by decide,by decide⟩;go_enter func147,ntmps147;go_wp2_with fail;refine(f _ (aA (H _ _) _)).q.mono ?_;rintro e n ⟨rfl,a⟩;have i:=B ((aA (H w.1.size w) (M (aH 0 0 [] C) 214)).trans (a.mono ak));have c:=B ((Bx.new w (aH 0 0 [] C) 214).keep a);clear a;rw[b.q.1,b.q.2];have j:=(c.q.alloc (M (aH 0 1 [] C) 214)).1;have o:=(c.q.alloc (M (aH 0 1 [] C) 214)).2.1;have k:=B (aA i.q (M (aH 0 1 [] C) 214));go_wp2_with fail;refine bodyPost_ret (v:= .tuple #[.agg (aH 5 1 [] C),J L 1,J L 0]) (by simp[results,results147,go_sem,j]) rfl ⟨5,1,[],1,0,⟨C,rfl,?_⟩,by decide⟩;exact(((k.q.setCell (p:=⟨w.1.size,0,G⟩) (aB _) _).setCell (p:=⟨w.1.size,1,G⟩) (aB _) _).setCell (p:=⟨w.1.size,2,G⟩) (aB _) _).setCell (p:=⟨w.1.size,3,G⟩) (aB _) _
theorem Vy (w:World)(d:Lib.Utf8Tabs 6 7 w):Calls O 147 #[I ⟨[35].toArray⟩,J L 0] w (rQ C w):=by
 have m:ByteArray.extract ⟨#[35]⟩ 0 1=⟨#[35]⟩:=ow [35] 1;have f:=λW (g:Below w.1.size w W)=>B (qi [35] 0 [35] rfl ak ak W (V d g))
 have b:Hid (nM [35]=1/\sP [35]=true):=B ⟨by decide,by decide⟩;go_enter func147,ntmps147;go_wp2_with fail;refine(f _ (aA (H _ _) _)).q.mono ?_;rintro e n ⟨rfl,a⟩;have i:=B ((aA (H w.1.size w) (M (aH 0 0 [] C) 214)).trans (a.mono ak));have c:=B ((Bx.new w (aH 0 0 [] C) 214).keep a);clear a;rw[b.q.1,b.q.2];have j:=(c.q.alloc (M (aH 0 1 [] C) 214)).1;have o:=(c.q.alloc (M (aH 0 1 [] C) 214)).2.1;have k:=B (aA i.q (M (aH 0 1 [] C) 214));go_wp2_with fail;refine bodyPost_ret (v:= .tuple #[.agg (aH 5 1 [] C),J L 1,J L 0]) (by simp[results,results147,go_sem,j]) rfl ⟨5,1,[],1,0,⟨C,rfl,?_⟩,by decide⟩;exact(((k.q.setCell (p:=⟨w.1.size,0,G⟩) (aB _) _).setCell (p:=⟨w.1.size,1,G⟩) (aB _) _).setCell (p:=⟨w.1.size,2,G⟩) (aB _) _).setCell (p:=⟨w.1.size,3,G⟩) (aB _) _
theorem Vz (w:World)(d:Lib.Utf8Tabs 6 7 w):Calls O 147 #[I ⟨[10].toArray⟩,J L 0] w (rQ C w):=by
 have m:ByteArray.extract ⟨#[10]⟩ 0 1=⟨#[10]⟩:=ow [10] 1;have f:=λW (g:Below w.1.size w W)=>B (qi [10] 0 [10] rfl ak ak W (V d g))
 have b:Hid (nM [10]=0/\sP [10]=true):=B ⟨by decide,by decide⟩;go_enter func147,ntmps147;go_wp2_with fail;refine(f _ (aA (H _ _) _)).q.mono ?_;rintro e n ⟨rfl,a⟩;have i:=B ((aA (H w.1.size w) (M (aH 0 0 [] C) 214)).trans (a.mono ak));have c:=B ((Bx.new w (aH 0 0 [] C) 214).keep a);clear a;rw[b.q.1,b.q.2];have j:=(c.q.alloc (M (aH 0 0 [] C) 214)).1;have o:=(c.q.alloc (M (aH 0 0 [] C) 214)).2.1;have k:=B (aA i.q (M (aH 0 0 [] C) 214));go_wp2_with fail;refine bodyPost_ret (v:= .tuple #[.agg (aH 4 0 [10] C),J L 1,J L 0]) (by simp[results,results147,go_sem,j]) rfl ⟨4,0,[10],1,0,⟨C,rfl,?_⟩,by decide⟩;exact(((k.q.setCell (p:=⟨w.1.size,0,G⟩) (aB _) _).setCell (p:=⟨w.1.size,1,G⟩) (aB _) _).setCell (p:=⟨w.1.size,2,G⟩) (aB _) _).setCell (p:=⟨w.1.size,3,G⟩) (aB _) _
theorem VA (w:World)(s:Lib.Utf8Tabs 6 7 w):Calls O 147 #[I ⟨[46].toArray⟩,J L 0] w (rQ C w):=by
 have P:ByteArray.extract ⟨#[46]⟩ 0 1=⟨#[46]⟩:=ow [46] 1;have t:=λW (u:Below w.1.size w W)=>B (qi [46] 0 [46] rfl ak ak W (V s u))
 have o:Hid (nM [46]=0/\sP [46]=true):=B ⟨by decide,by decide⟩;go_enter func147,ntmps147;go_wp2_with fail;refine(t _ (aA (H _ _) _)).q.mono ?_;rintro e f ⟨rfl,g⟩;have q:=B ((aA (H w.1.size w) (M (aH 0 0 [] C) 214)).trans (g.mono ak));have i:=B ((Bx.new w (aH 0 0 [] C) 214).keep g);clear g;rw[o.q.1,o.q.2];have j:=B (aA q.q (M (aH 0 0 [] C) 214));have k:=B (i.q.alloc (M (aH 0 0 [] C) 214));have d:=B (Bx.new f (aH 0 0 [] C) 214);have a:=B (show w.1.size<f.1.size from i.q.2.2);clear q i;go_wp2_with fail;generalize f.alloc (M (aH 0 0 [] C) 214)=x at j k d ⊢;generalize f.1.size=b at d a ⊢;have y:=d.q.1;have z:=d.q.2.1;go_wp2_with fail;refine aC 99 [(0,0),(1,0),(2,0),(3,2),(4,0),(5,2)] (λ_=>True) (λ_=>True) ay ay (trivial) (trivial) ?_;refine qC ?_;refine aF rfl rfl (λK c=>?_);go_simp;refine c _ _ ⟨N,N⟩ ?_;clear c K;refine qC ?_;refine aF rfl rfl (λK c=>?_);go_simp;refine c _ _ ⟨N,N⟩ ?_;clear c K;refine aO ?_;have m:=B (((d.q.bB 0 ak (J L 3)).bB 2 ak (I ⟨[46].toArray⟩)).drew);have n:=B (((k.q.setOther b 0 (J L 3) (by have:=a.q;omega)).setOther b 2 (I ⟨[46].toArray⟩) (by have:=a.q;omega)).drew);have r:=B (((j.q.setCell (p:=⟨b,0,G⟩) (by have:=a.q;show _<=b;omega) (J L 3)).setCell (p:=⟨b,2,G⟩) (by have:=a.q;show _<=b;omega) (I ⟨[46].toArray⟩)).drew);generalize((x.setCell ⟨b,0,G⟩ (J L 3)).setCell ⟨b,2,G⟩ (I ⟨[46].toArray⟩)).drew=Z at m n r ⊢;clear y z k d j;have A:=n.q.1;have Q:=n.q.2.1;go_wp2_with fail;refine aC 99 [(0,0),(1,0),(2,0),(3,0),(4,0),(5,0),(6,2),(7,0),(8,0)] (λ_=>True) (λE=>Bx E b (aH 3 0 [46] C)) ay ay (trivial) (m.q.drew) ?_;refine qC ?_;refine aF rfl rfl (λK c=>?_);go_simp;refine c _ _ ⟨N,(((m.q.drew.setOther w.1.size 0 _ (by have:=a.q;omega)).setOther w.1.size 1 _ (by have:=a.q;omega)).setOther w.1.size 2 _ (by have:=a.q;omega)).setOther w.1.size 3 _ (by have:=a.q;omega)⟩ ?_;clear c K;refine qC ?_;refine aO ?_;go_wp2_with fail;have F:IntKind.i64.wrap 1=1:=Go.IntWalk.i64_in 1 ah;refine bodyPost_ret (v:= .tuple #[.agg (aH 3 0 [46] C),J L 1,J L 0]) (by simp[results,results147,go_sem,A,F]) rfl ⟨3,0,[46],1,0,⟨C,rfl,?_⟩,by decide⟩;exact((((r.q.drew).setCell (p:=⟨w.1.size,0,G⟩) (aB _) _).setCell (p:=⟨w.1.size,1,G⟩) (aB _) _).setCell (p:=⟨w.1.size,2,G⟩) (aB _) _).setCell (p:=⟨w.1.size,3,G⟩) (aB _) _
theorem VB (w:World)(s:Lib.Utf8Tabs 6 7 w):Calls O 147 #[I ⟨[45].toArray⟩,J L 0] w (rQ C w):=by
 have P:ByteArray.extract ⟨#[45]⟩ 0 1=⟨#[45]⟩:=ow [45] 1;have t:=λW (u:Below w.1.size w W)=>B (qi [45] 0 [45] rfl ak ak W (V s u))
 have o:Hid (nM [45]=0/\sP [45]=true):=B ⟨by decide,by decide⟩;go_enter func147,ntmps147;go_wp2_with fail;refine(t _ (aA (H _ _) _)).q.mono ?_;rintro e f ⟨rfl,g⟩;have q:=B ((aA (H w.1.size w) (M (aH 0 0 [] C) 214)).trans (g.mono ak));have i:=B ((Bx.new w (aH 0 0 [] C) 214).keep g);clear g;rw[o.q.1,o.q.2];have j:=B (aA q.q (M (aH 0 0 [] C) 214));have k:=B (i.q.alloc (M (aH 0 0 [] C) 214));have d:=B (Bx.new f (aH 0 0 [] C) 214);have a:=B (show w.1.size<f.1.size from i.q.2.2);clear q i;go_wp2_with fail;generalize f.alloc (M (aH 0 0 [] C) 214)=x at j k d ⊢;generalize f.1.size=b at d a ⊢;have y:=d.q.1;have z:=d.q.2.1;go_wp2_with fail;refine aC 99 [(0,0),(1,0),(2,0),(3,2),(4,0),(5,2)] (λ_=>True) (λ_=>True) ay ay (trivial) (trivial) ?_;refine qC ?_;refine aF rfl rfl (λK c=>?_);go_simp;refine c _ _ ⟨N,N⟩ ?_;clear c K;refine qC ?_;refine aF rfl rfl (λK c=>?_);go_simp;refine c _ _ ⟨N,N⟩ ?_;clear c K;refine aO ?_;have m:=B (((d.q.bB 0 ak (J L 3)).bB 2 ak (I ⟨[45].toArray⟩)).drew);have n:=B (((k.q.setOther b 0 (J L 3) (by have:=a.q;omega)).setOther b 2 (I ⟨[45].toArray⟩) (by have:=a.q;omega)).drew);have r:=B (((j.q.setCell (p:=⟨b,0,G⟩) (by have:=a.q;show _<=b;omega) (J L 3)).setCell (p:=⟨b,2,G⟩) (by have:=a.q;show _<=b;omega) (I ⟨[45].toArray⟩)).drew);generalize((x.setCell ⟨b,0,G⟩ (J L 3)).setCell ⟨b,2,G⟩ (I ⟨[45].toArray⟩)).drew=Z at m n r ⊢;clear y z k d j;have A:=n.q.1;have Q:=n.q.2.1;go_wp2_with fail;refine aC 99 [(0,0),(1,0),(2,0),(3,0),(4,0),(5,0),(6,2),(7,0),(8,0)] (λ_=>True) (λE=>Bx E b (aH 3 0 [45] C)) ay ay (trivial) (m.q.drew) ?_;refine qC ?_;refine aF rfl rfl (λK c=>?_);go_simp;refine c _ _ ⟨N,(((m.q.drew.setOther w.1.size 0 _ (by have:=a.q;omega)).setOther w.1.size 1 _ (by have:=a.q;omega)).setOther w.1.size 2 _ (by have:=a.q;omega)).setOther w.1.size 3 _ (by have:=a.q;omega)⟩ ?_;clear c K;refine qC ?_;refine aO ?_;go_wp2_with fail;have F:IntKind.i64.wrap 1=1:=Go.IntWalk.i64_in 1 ah;refine bodyPost_ret (v:= .tuple #[.agg (aH 3 0 [45] C),J L 1,J L 0]) (by simp[results,results147,go_sem,A,F]) rfl ⟨3,0,[45],1,0,⟨C,rfl,?_⟩,by decide⟩;exact((((r.q.drew).setCell (p:=⟨w.1.size,0,G⟩) (aB _) _).setCell (p:=⟨w.1.size,1,G⟩) (aB _) _).setCell (p:=⟨w.1.size,2,G⟩) (aB _) _).setCell (p:=⟨w.1.size,3,G⟩) (aB _) _
theorem Qz:∀args w,(callFunc 99 args).run O w= .ok (.enter 99 args) w:=enters_of func99 ay rfl
theorem VD (b:UInt8)(E:48<=b.toNat)(F:b.toNat<=57)(w:World)(q:Lib.Utf8Tabs 6 7 w):Calls O 147 #[I ⟨[b].toArray⟩,J L 0] w (rQ C w):=by
 have ζ:∀W,(Instr.index 9 (I ⟨#[b]⟩) (J L 0)).run O W= .ok (.int .u8 (b.toNat:U)) W:=λW=>jA Tryz.underlying9 [b] 0 b rfl W
 have P:kJ (b.toNat:U)=true:=by unfold kJ;simp;omega
 have Q:gK ⟨[b].toArray⟩ kJ=1:=by
  rw[iH [b] kJ ak,nU b [] ah,av]
  .rfl
  .rw[Gx b [] ah,P];rfl
 have R:=λW (s:Below w.1.size w W)=>B (sQ ⟨[b].toArray⟩ 99 #[] Qz kJ W (λr u _=>mP r u) (V q s))
 rw[Q] at R;have HD:=λW=>B (TW b E F W)
 have η:ByteArray.extract ⟨#[b]⟩ 0 1=⟨#[b]⟩:=ow [b] 1;have θ:∀W,(Instr.slice 9 (I ⟨#[b]⟩) (some (J L 0)) G G).run O W= .ok (I ⟨#[b]⟩) W:=λW=>nk Tryz.underlying9 [b] 0 ak W
 have HS:=λW (s:Below w.1.size w W)=>B (qi [b] 0 [b] rfl ak ak W (V q s))
 have S:=B (Ar (b:=b) (t:=[]) (G8 ah ah) ah);have ι:((b.toNat:U)==10)=C:=aX.2 ah;have κ:((b.toNat:U)==46)=C:=aX.2 ah;have μ:((b.toNat:U)==45)=C:=aX.2 ah;have ν:wrap32 (b.toNat:U)=(b.toNat:U):=IntWalk.wrap32_in _ (by have:=b.toNat_lt;omega);have ξ:(([b]:Bs)==([]:Bs))=C:=rfl;clear E F Q q
 cases h0:((b.toNat:U)==48)
 all_goals
  go_enter func147,ntmps147;go_wp2_with fail;refine(HS _ (aA (H _ _) _)).q.mono ?_;rintro e x ⟨rfl,y⟩;have z:=B ((aA (H w.1.size w) (M (aH 0 0 [] C) 214)).trans (y.mono ak));have A:=B ((Bx.new w (aH 0 0 [] C) 214).keep y);clear y;rw[S.q.1,S.q.2];go_wp2_with fail;refine(mP _ _).mono ?_;rintro e w3 ⟨rfl,k⟩;rw[P];have m:=B ((aA z.q (M (aH 0 0 [] C) 214)).trans (k.mono (by have:=z.q.size;simp;omega)));have T:=B ((A.q.alloc (M (aH 0 0 [] C) 214)).keep k);have X:=B ((Bx.new x (aH 0 0 [] C) 214).keep k);have a:=B (show w.1.size<x.1.size from A.q.2.2);clear k;go_wp2_with fail;refine(R _ m.q).q.mono ?_;rintro e w5 ⟨rfl,n⟩;have f:=B (m.q.bQ n);have g:=B (T.q.keep n);have i:=B (X.q.keep n);clear n m T X;go_wp2_with fail;refine(HD _).q.mono ?_;rintro e w4 ⟨rfl,o⟩;have Y:=B (f.q.bQ o);have α:=B (g.q.keep o);have j:=B (i.q.keep o);clear o f g i z A;generalize x.1.size=c at j a ⊢;have β:=j.q.1;have γ:=j.q.2.1;go_wp2_with fail;refine aC 99 [(0,0),(1,0),(2,0),(3,0),(4,2),(5,0),(6,2)] (λ_=>True) (λ_=>True) ay ay (trivial) (trivial) ?_;refine qC ?_;refine aF rfl rfl (λK d=>?_);go_simp;refine d _ _ ⟨N,N⟩ ?_;clear d K;refine qC ?_;refine aF rfl rfl (λK d=>?_);go_simp;refine d _ _ ⟨N,N⟩ ?_;clear d K;refine aO ?_;have i:=B (((j.q.bB 0 ak (J L 2)).bB 2 ak (I ⟨[b].toArray⟩)).drew);have g:=B (((α.q.setOther c 0 (J L 2) (by have:=a.q;omega)).setOther c 2 (I ⟨[b].toArray⟩) (by have:=a.q;omega)).drew);have f:=B (((Y.q.setCell (p:=⟨c,0,G⟩) (by have:=a.q;show _<=c;omega) (J L 2)).setCell (p:=⟨c,2,G⟩) (by have:=a.q;show _<=c;omega) (I ⟨[b].toArray⟩)).drew);generalize((w4.setCell ⟨c,0,G⟩ (J L 2)).setCell ⟨c,2,G⟩ (I ⟨[b].toArray⟩)).drew=Z at i g f ⊢;clear β γ α j Y;have δ:=g.q.1;have ο:=g.q.2.1;go_wp2_with fail;refine aC 99 [(0,0),(1,0),(2,0),(3,0),(4,0),(5,0),(6,2),(7,0),(8,0)] (λ_=>True) (λu=>Bx u c (aH 2 0 [b] C)) ay ay (trivial) (i.q.drew) ?_;refine qC ?_;refine aF rfl rfl (λK d=>?_);go_simp;refine d _ _ ⟨N,(((i.q.drew.setOther w.1.size 0 _ (by have:=a.q;omega)).setOther w.1.size 1 _ (by have:=a.q;omega)).setOther w.1.size 2 _ (by have:=a.q;omega)).setOther w.1.size 3 _ (by have:=a.q;omega)⟩ ?_;clear d K;refine qC ?_;refine aO ?_;go_wp2_with fail;have ε:IntKind.i64.wrap 1=1:=Go.IntWalk.i64_in 1 ah;refine bodyPost_ret (v:= .tuple #[.agg (aH 2 0 [b] C),J L 1,J L 0]) (by simp[results,results147,go_sem,δ,ε]) rfl ⟨2,0,[b],1,0,⟨C,rfl,?_⟩,by decide⟩;exact((((f.q.drew).setCell (p:=⟨w.1.size,0,G⟩) (aB _) _).setCell (p:=⟨w.1.size,1,G⟩) (aB _) _).setCell (p:=⟨w.1.size,2,G⟩) (aB _) _).setCell (p:=⟨w.1.size,3,G⟩) (aB _) _
theorem QA (b:UInt8)(a:b.toNat<128)(k:b.toNat≠32)(m:b.toNat≠9)(z:b.toNat≠10)(n:b.toNat≠35)(A:b.toNat≠46)(E:b.toNat≠45)(F:¬(48<=b.toNat/\b.toNat<=57))(o:jV (b.toNat:U)=C)
  (w:World) (c:Lib.Utf8Tabs 6 7 w):Calls O 147 #[I ⟨[b].toArray⟩,J L 0] w (rQ C w):=by
 have q:=B (Ar (t:=[]) (G8 k m) n);have K:=λW (a:Below w.1.size w W)=>B (qi [b] 0 [b] rfl ak ak W (V c a))
 have s:kJ (b.toNat:U)=C:=by unfold kJ;simp;omega
 have u:gK ⟨[b].toArray⟩ jo=0:=by
  rw[iH [b] jo ak,nU b [] a,au];rw[Gx b [] a];simp only[jo,o,s];simp
 have x:=λW (a:Below w.1.size w W)=>B (sQ ⟨[b].toArray⟩ 101 #[] Ez jo W (λr P _=>zi r P) (V c a))
 rw[u] at x;have X:∀W,(Instr.index 9 (I ⟨#[b]⟩) (J L 0)).run O W= .ok (.int .u8 (b.toNat:U)) W:=λW=>jA Tryz.underlying9 [b] 0 b rfl W
 have Y:ByteArray.extract ⟨#[b]⟩ 0 1=⟨#[b]⟩:=ow [b] 1;have Z:∀W,(Instr.slice 9 (I ⟨#[b]⟩) (some (J L 0)) G G).run O W= .ok (I ⟨#[b]⟩) W:=λW=>nk Tryz.underlying9 [b] 0 ak W
 have α:((b.toNat:U)==10)=C:=aX.2 ah;have β:((b.toNat:U)==46)=C:=aX.2 ah;have γ:((b.toNat:U)==45)=C:=aX.2 ah;have δ:wrap32 (b.toNat:U)=(b.toNat:U):=IntWalk.wrap32_in _ (by have:=b.toNat_lt;omega);have ε:(([b]:Bs)==([]:Bs))=C:=rfl;clear a k m z n A E F o u c;go_enter func147,ntmps147;go_wp2_with fail;refine(K _ (aA (H _ _) _)).q.mono ?_;rintro e w1 ⟨rfl,d⟩;have y:=B ((aA (H w.1.size w) (M (aH 0 0 [] C) 214)).trans (d.mono ak));have Q:=B ((Bx.new w (aH 0 0 [] C) 214).keep d);clear d;rw[q.q.1,q.q.2];go_wp2_with fail;refine(mP _ _).mono ?_;rintro e w3 ⟨rfl,f⟩;rw[s];have g:=B ((aA y.q (M (aH 0 0 [] C) 214)).trans (f.mono (by have:=y.q.size;simp;omega)));have R:=B ((Q.q.alloc (M (aH 0 0 [] C) 214)).keep f);clear f;go_wp2_with fail;refine(x _ g.q).q.mono ?_;rintro e w4 ⟨rfl,i⟩;have S:=B (g.q.bQ i);have j:=R.q.keep i;have T:=j.1;have ζ:=j.2.1;clear i j;go_wp2_with fail;refine bodyPost_ret (v:= .tuple #[.agg (aH 0 0 [] C),J L 0,J L 120]) (by simp[results,results147,go_sem,T]) rfl ⟨0,0,[],0,120,⟨C,rfl,?_⟩,by decide⟩;exact(((S.q.setCell (p:=⟨w.1.size,0,G⟩) (aB _) _).setCell (p:=⟨w.1.size,1,G⟩) (aB _) _).setCell (p:=⟨w.1.size,2,G⟩) (aB _) _).setCell (p:=⟨w.1.size,3,G⟩) (aB _) _
theorem NV (a:Bs)(c:Nat)(hc:Utf8.decode ⟨a.toArray⟩ 0=(c,a.length))(j:okB ⟨a.toArray⟩ 0=true)(k:1<=a.length)(A:a.length<=4)(w:World)(d:Lib.Utf8Tabs 6 7 w):
  Calls O 147 #[I ⟨a.toArray⟩,J L 0] w (rQ (jV (c:U)) w):=by
 have g:a≠[]:=by intro e;rw[e] at k;simp at k
 cases f:jV (c:U)
 .obtain⟨b,t,rfl⟩:∃b t,a=b::t:=by cases a with
   |nil=>exact absurd rfl g
   |cons b t=>exact⟨b,t,rfl⟩
  have m:b.toNat<128:=by
   rcases iM b.toNat 128 with h|h
   .exact h
   .have:=(vw b t h).1
    rw[hc] at this;simp[jV] at f;simp at this;omega
  rw[nU b t m] at hc;obtain⟨rfl,n⟩:b.toNat=c/\1=(b::t).length:=by injection hc with v x;exact⟨v,x⟩
  obtain rfl:t=[]:=vU (by simp at n;simpa using n);by_cases o:b.toNat=32
  .obtain rfl:b=32:=iV.1 o;exact Vx w d
  by_cases p:b.toNat=9
  .obtain rfl:b=9:=iV.1 p;exact Yp w d
  by_cases q:b.toNat=10
  .obtain rfl:b=10:=iV.1 q;exact Vz w d
  by_cases r:b.toNat=35
  .obtain rfl:b=35:=iV.1 r;exact Vy w d
  by_cases s:b.toNat=46
  .obtain rfl:b=46:=iV.1 s;exact VA w d
  by_cases u:b.toNat=45
  .obtain rfl:b=45:=iV.1 u;exact VB w d
  by_cases i:48<=b.toNat/\b.toNat<=57
  .exact VD b i.1 i.2 w d
  exact QA b m o p q r s u i f w d
 .have y:dH a=true:=by
   unfold dH;rw[j,hc,show((c,a.length):Nat × Nat).1=c from rfl,f]
   cases a with
   |nil=>exact absurd rfl g
   |cons b t=>rfl
  have z:dW a=a.length:=by
   unfold dW;rw[iH a jo g,j,hc];simp only[jo,f];rw[av ak,List.drop_length]
   rfl
  have:=Ki a 0 a rfl (bn _) ah y w d;refine this.mono ?_;intro e E h;rw[z,au ah] at h;exact⟨1,_,_,_,0,h,by decide⟩
variable{R p:Nat}{s:Bs}{c:bH}{n:aJ}
theorem LF (w:World)(h:eT w R s p [] c n):Calls O 185 #[.pointer (some ⟨R,0,G⟩)] w (cO (.bool C) w):=by
 have i:=h.lim;have f:=h.le;have g:=λW=>nk Tryz.underlying9 s p f W
 rw[h.d] at g;have a:=B h;clear h;go_enter func185,ntmps185;go_wp2_with fail;refine aC 10 [(0,0),(1,0),(2,0),(3,0),(4,0),(5,0),(6,0),(7,0),(8,0),(9,2)] (λ_=>True) (λd=>d.cell? ⟨R,0,G⟩=some (I ⟨s.toArray⟩)/\d.cell? ⟨R,1,G⟩=some (J L p)) ay ay (trivial) (⟨a.q.drew.c0,a.q.drew.c1⟩) ?_;refine qC ?_;refine aF rfl rfl (λK e=>?_);go_simp;refine e _ _ ⟨N,?_,?_⟩ ?_
 .exact(a.q.drew.below (jD _ _)).c0
 .exact(a.q.drew.below (jD _ _)).c1
 clear e K;refine aO ?_;have j:∀b,(Instr.next (.pointer (some ⟨w.1.size,0,G⟩)) true b).run O (w.drew.iter ⟨([]:Bs).toArray⟩ 0)=_:=λb=>Lib.run_next_end_at _ w.1.size ⟨([]:Bs).toArray⟩ 0 b (World.iter_heap w.drew _ 0) aj
 go_wp2_with fail
 go_loopw [] (λwr=>wr=w.drew.iter ⟨([]:Bs).toArray⟩ 0) (λ_=>0)
 case atStart=>rfl
 case round=>
  subst hrel;go_wp2_with fail;go_ret;exact⟨rfl,(H w.1.size w).drew.trans (jD w.drew ⟨([]:Bs).toArray⟩)⟩
theorem DN {b:UInt8}{t:Bs}(w:World)(h:eT w R s p (b::t) c n)(F d:Nat)(q:Utf8.decode ⟨(b::t).toArray⟩ 0=(F,d))(u:Bs)(η:Utf8.encode (F:U)=⟨u.toArray⟩)(x P:Bool)
  (Q:∀W,Below w.1.size w W->Calls O 147 #[I ⟨u.toArray⟩,J L 0] W (rQ x W)) (S:∀W,Calls O 196 #[I ⟨(b::t).toArray⟩,I ⟨u.toArray⟩] W (λe w'=>e= .returned (.bool P)/\w'=W)):
  Calls O 185 #[.pointer (some ⟨R,0,G⟩)] w (cO (.bool (x && P)) w):=by
 have θ:=h.lim;have γ:=h.le;have δ:=λW=>nk Tryz.underlying9 s p γ W
 rw[h.d] at δ;have i:=B h;have ε:=B Q;have ζ:=B S;have ι:=B q;clear h Q S;have κ:w.drew.1.size=w.1.size:=rfl;go_enter func185,ntmps185;go_wp2_with fail;refine aC 10 [(0,0),(1,0),(2,0),(3,0),(4,0),(5,0),(6,0),(7,0),(8,0),(9,2)] (λ_=>True) (λT=>T.cell? ⟨R,0,G⟩=some (I ⟨s.toArray⟩)/\T.cell? ⟨R,1,G⟩=some (J L p)) ay ay (trivial) (⟨i.q.drew.c0,i.q.drew.c1⟩) ?_;refine qC ?_;refine aF rfl rfl (λK X=>?_);go_simp;refine X _ _ ⟨N,?_,?_⟩ ?_
 .exact(i.q.drew.below (jD _ _)).c0
 .exact(i.q.drew.below (jD _ _)).c1
 clear X K;refine aO ?_;have o:∀r,(Instr.next (.pointer (some ⟨w.1.size,0,G⟩)) true r).run O (w.drew.iter ⟨(b::t).toArray⟩ 0)=_:=λr=>Lib.run_next_any_at _ w.1.size ⟨(b::t).toArray⟩ 0 r (World.iter_heap w.drew _ 0) (by rw[gN];simp)
 rw[q] at o;have Y:Below w.1.size w (w.drew.iter ⟨(b::t).toArray⟩ 0):=(H w.1.size w).drew.trans (jD w.drew _);have v:=Lib.below_iterAt Y (k:=w.1.size) (aB _) ⟨(b::t).toArray⟩ (0+d);have j:=B v;have y:=B (i.q.below v);clear v q Y;go_wp2_with fail
 go_loopw [] (λwr=>wr=w.drew.iter ⟨(b::t).toArray⟩ 0) (λ_=>0)
 case atStart=>rfl
 case round=>
  subst hrel;revert o j y;generalize((w.drew.iter ⟨(b::t).toArray⟩ 0).iterAt w.1.size ⟨(b::t).toArray⟩ (0+d))=Z;intro o j y;go_wp2_with fail;refine(ε.q Z j.q).mono ?_;rintro e w2 ⟨k,a,tt,nx,er,⟨g,rfl,z⟩,f⟩;have A:=B (j.q.bQ z);have α:=y.q.below z;have H2:=B (α.below (aA (H _ _) (M (aH k a tt g) 214)));have μ:=(Bx.new w2 (aH k a tt g) 214).1;have c0:=H2.q.c0;have c1:=H2.q.c1;clear z α o
  cases E:(er==0)
  .have m:Hid (x=C):=B (by rw[<-f,E];rfl)
   clear f
   go_wp2_with (go_quiet (fail))
   go_ret;exact⟨by rw[m.q];rfl,gu (aA A.q _) _⟩
  .cases β:(k==1)
   .have m:Hid (x=C):=B (by rw[<-f,E,β];rfl)
    clear f
    go_wp2_with (go_quiet (fail))
    go_ret;exact⟨by rw[m.q];rfl,gu (aA A.q _) _⟩
   .have m:Hid (x=true):=B (by rw[<-f,E,β];rfl)
    clear f
    go_wp2_with (go_quiet (exact(ζ.q _).mono (λe ν h=>⟨h.1,_,h.2⟩)))
    go_ret;exact⟨by rw[m.q];rfl,gu (aA A.q _) _⟩
theorem JE (l:Bs)(k:Nat):Lib.hasPrefix l (l.take k)=true:=by
 unfold Lib.hasPrefix;rw[List.isPrefixOf_iff_prefix];exact List.take_prefix _ _
theorem Fq {l:Bs}(w:World)(i:eT w R s p l c n)(q:Lib.Utf8Tabs 6 7 w):Calls O 185 #[.pointer (some ⟨R,0,G⟩)] w (cO (.bool (dH l)) w):=by
 cases l with
 |nil=>exact LF w i
 |cons b t=>
  obtain⟨a,f⟩:∃a,a=(Utf8.decode ⟨(b::t).toArray⟩ 0).1:=⟨_,rfl⟩;obtain⟨d,hd⟩:∃d,d=(Utf8.decode ⟨(b::t).toArray⟩ 0).2:=⟨_,rfl⟩;have g:Utf8.decode ⟨(b::t).toArray⟩ 0=(a,d):=by rw[f,hd]
  have K:d<=(b::t).length:=by rw[hd];exact vz _ ak
  have P:1<=d:=by rw[hd];exact vV _ ak
  have y:dH (b::t)=(okB ⟨(b::t).toArray⟩ 0 && jV (a:U)):=by
   unfold dH;rw[<-f];rfl
  rw[y]
  cases e:okB ⟨(b::t).toArray⟩ 0
  .have j:a=65533/\¬d=3:=by
    unfold okB at e;rw[<-f,<-hd] at e;simp at e;omega
   have z:Lib.hasPrefix (b::t) [239,191,189]=C:=by
    cases k:Lib.hasPrefix (b::t) [239,191,189]
    .rfl
    .exfalso
     unfold Lib.hasPrefix at k;rw[List.isPrefixOf_iff_prefix] at k;obtain⟨r,u⟩:=k;have A:3<=ByteArray.size ⟨(b::t).toArray⟩:=by rw[gN,<-u];simp
     have:=(ZK ⟨(b::t).toArray⟩ A (by rw[<-f];exact j.1)).2 (by rw[<-u,ow];rfl);exact j.2 (by rw[hd];exact this)
   have:=DN w i a d g [239,191,189] (by rw[j.1];rfl) true C
    (λW m=>NV [239,191,189] 65533 aj aj aj aj W (V q m))
    (λW=>by
     have:=Tryz.strings_HasPrefix ⟨(b::t).toArray⟩ ⟨([239,191,189]:Bs).toArray⟩ W;rw[show Lib.hasPrefix (⟨(b::t).toArray⟩:ByteArray).data.toList (⟨([239,191,189]:Bs).toArray⟩:ByteArray).data.toList=C from z] at this;exact this)
   exact this
  .obtain⟨v,o,E⟩:=LG (b::t) ak e
   rw[<-f,<-hd] at v;rw[<-hd,g] at o;have x:((b::t).take d).length=d:=by rw[fB];omega
   have F:okB ⟨((b::t).take d).toArray⟩ 0=true:=by
    unfold okB at e ⊢;rw[o];rw[g] at e;exact e
   have:=DN w i a d g ((b::t).take d) v (jV (a:U)) true
    (λW m=>NV ((b::t).take d) a (by rw[o,x]) F ah (by rw[x,hd];exact E) W (V q m))
    (λW=>by
     have:=Tryz.strings_HasPrefix ⟨(b::t).toArray⟩ ⟨((b::t).take d).toArray⟩ W;rw[show Lib.hasPrefix (⟨(b::t).toArray⟩:ByteArray).data.toList (⟨((b::t).take d).toArray⟩:ByteArray).data.toList=true from JE (b::t) d] at this;exact this)
   rw[Bool.and_true] at this;rw[qZ];exact this
theorem eT.apart {w:World}{l:Bs}(d:eT w R s p l c n)(b:Nat)(f:mW R c b)(k a:U)(t:Bs)(g:Bool):
  eT ((((w.setCell ⟨b,0,G⟩ (J L k)).setCell ⟨b,1,G⟩ (J L a)).setCell ⟨b,2,G⟩ (I ⟨t.toArray⟩)).setCell ⟨b,3,G⟩ (.bool g)) R s p l c n:=by
 have e:∀{w:World}(d:eT w R s p l c n)(i:Nat)(v:Value),eT (w.setCell ⟨b,i,G⟩ v) R s p l c n:=fun {w} d i v=>
  ⟨d.x.setOther b i v (Ne.symm f.1),⟨d.n.1,d.n.2.1.block λg hg=>Below.heap_setCell _ _ _ _ (by rintro rfl;exact f.2.1 hg),d.n.2.2.block λg hg=>Below.heap_setCell _ _ _ _ (by rintro rfl;exact f.2.2 hg)⟩,d.d,d.le,d.lim⟩
 exact e (e (e (e d 0 _) 1 _) 2 _) 3 _
theorem Bv {l:Bs}(w:World)(h:eT w R s p l c n)(hT:Lib.Utf8Tabs 6 7 w):
  Calls O 181 #[.pointer (some ⟨R,0,G⟩)] w (mQ R s c n w (λm:Bs=> I ⟨m.toArray⟩) (dF l)):=by
 obtain⟨X,hX⟩:∃X,X=dF l:=⟨_,rfl⟩;rw[<-hX];have HX:=B hX;have φ:=h.len;have ρ:=h.lim;have σ:=h.le;have HE:=B (Bw w h);have ζ:=λW (x:Below w.1.size w W)=>B (Fq W (h.below x) (V hT x))
 have HH:=B h;clear hX h;by_cases x:dR l=C/\dH l=true
 .obtain⟨P,hg⟩:=x
  have Q:=λW (x:Below w.1.size w W)=>Ki s p l HH.q.d σ ρ hg W (V hT x)
  have η:dW l<=l.length:=qN _ _ _ (aB _);by_cases δ:24<dW l
  .simp only[av δ] at Q
   have τ:=G9 (l.take (dW l));obtain⟨q,hq⟩:∃q,q=p+ru (l.take (dW l)):=⟨_,rfl⟩;rw[<-hq] at Q;have HL:=B Q;have S:Hid (dF l= .error (l.drop (ru (l.take (dW l))),220)):=B (by unfold dF;rw[au (by rw[P,hg];decide),av δ]);have T:Hid (s.length - (l.drop (ru (l.take (dW l)))).length=q):=B (by rw[gI];omega);rw[P] at HE;have HG:=B hg;clear Q P hg δ τ hq hT η;go_enter func181,ntmps181;go_wp2_with fail;refine HE.q.mono ?_;rintro e w1 ⟨rfl,y⟩;have u:=B y;clear y;go_wp2_with fail;refine(ζ _ u.q).q.mono ?_;rintro e a ⟨rfl,Y⟩;rw[HG.q];have j:=B (u.q.bQ Y);have d:=B (HH.q.below j.q);have θ:=B (d.q.new (aB _));have z:=d.q.c0;have v:=d.q.c1;have A:=f1 d.q 1;clear Y;go_wp2_with fail;refine qW 99 (.q 0 0 (.q 1 0 (.q 2 0 (.q 3 0 (.q 4 0 (.q 5 0 (.q 6 0 (.q 7 0 (.alt 8 (.q 9 0 (.q 10 0 (.q 11 0 (.q 12 0 (.l 13 (.l 14 (.q 15 0 (.q 16 0 .nil)))))))) 13 (.l 8 (.q 9 0 (.q 10 0 (.q 11 0 (.q 12 0 (.l 14 (.q 15 0 (.q 16 0 .nil))))))))))))))))) (λ_=>True) (λW'=>W'.cell? ⟨R,0,G⟩=some (I ⟨s.toArray⟩)/\W'.cell? ⟨R,1,G⟩=some (J L p)) ay ay N ⟨d.q.drew.c0,d.q.drew.c1⟩ ?_;refine qC ?_;refine⟨?_,?_⟩
   .refine gP rfl rfl (λK b=>?_)
    go_simp;refine(HL.q _ j.q.drew).mono ?_;rintro e t ⟨g,rfl,o⟩;have k:=d.q.drew.below o;have f:=B k;have Z:=B (j.q.drew.trans (o.mono j.q.size));refine b _ _ ⟨N,k.c0,k.c1⟩ ?_;clear b K o k z v A;refine qC ?_;refine aF rfl rfl (λK b=>?_);go_simp;refine b _ _ ⟨N,(f.q.below (aA (H _ _) _)).c0,(f.q.below (aA (H _ _) _)).c1⟩ ?_;clear b K;refine aF rfl rfl (λK b=>?_);go_simp;refine b _ _ ⟨N,(f.q.below (aA (H _ _) _)).c0,(f.q.below (aA (H _ _) _)).c1⟩ ?_;clear b K;refine qC ?_;have r:=B (f.q.below (aA (H t.1.size t) (M (aH 0 0 [] g) 214)));have α:=B (aA Z.q (M (aH 0 0 [] g) 214));have E:=B (Bx.new t (aH 0 0 [] g) 214);have i:Hid (t.1.size≠R):=B (by have:=f.q.x.2.2;omega);refine aO ?_;have z:=r.q.c0;have v:=r.q.c1;have A:=f1 r.q 1;have ι:=E.q.1;have β:=B (Mv.of_below (R:=R) (c:=c) α.q);go_wp2_with fail;refine(lH q 220 _).mono ?_;rintro e w6 ⟨rfl,rfl⟩;refine⟨rfl,?_⟩;show mQ R s c n w _ _ _ _;rw[HX.q,S.q];exact⟨by rw[T.q],β.q.same⟩
   .refine gP rfl rfl (λK b=>?_)
    go_simp;refine b _ _ ⟨N,(d.q.drew.below (aA (H _ _) _)).c0,(d.q.drew.below (aA (H _ _) _)).c1⟩ ?_;clear b K;refine aF rfl rfl (λK b=>?_);go_simp;refine(HL.q _ (aA j.q.drew (M (aH 0 0 [] C) 214))).mono ?_;rintro e t ⟨g,rfl,o⟩;have k:=(d.q.drew.below (aA (H _ _) (M (aH 0 0 [] C) 214))).below o;have f:=B k;have Z:=B ((aA j.q.drew (M (aH 0 0 [] C) 214)).trans (o.mono (aA j.q.drew (M (aH 0 0 [] C) 214)).size));have ε:Bx t a.1.size (aH 0 0 [] C):=(Bx.new a.drew (aH 0 0 [] C) 214).keep o;have γ:=B ε;have i:Hid (a.1.size≠R):=B (by have:=d.q.x.2.2;omega);have F:Hid (w.1.size<=a.1.size):=B j.q.size;refine b _ _ ⟨N,k.c0,k.c1⟩ ?_;clear b K o k z v A ε;have κ:=γ.q.1;have μ:=γ.q.2.1;refine qC ?_;refine aF rfl rfl (λK b=>?_);go_simp;refine b _ _ ⟨N,((((f.q.x.other (p:=⟨a.1.size,0,G⟩) i.q.symm _).other (p:=⟨a.1.size,1,G⟩) i.q.symm _).other (p:=⟨a.1.size,2,G⟩) i.q.symm _).other (p:=⟨a.1.size,3,G⟩) i.q.symm _).1 0,((((f.q.x.other (p:=⟨a.1.size,0,G⟩) i.q.symm _).other (p:=⟨a.1.size,1,G⟩) i.q.symm _).other (p:=⟨a.1.size,2,G⟩) i.q.symm _).other (p:=⟨a.1.size,3,G⟩) i.q.symm _).1 1⟩ ?_;clear b K κ μ;refine qC ?_;have r:=B (f.q.apart a.1.size θ.q 0 0 [] g);have α:=B ((((Z.q.setCell (p:=⟨a.1.size,0,G⟩) F.q (J L 0)).setCell (p:=⟨a.1.size,1,G⟩) F.q (J L 0)).setCell (p:=⟨a.1.size,2,G⟩) F.q (I ⟨[].toArray⟩)).setCell (p:=⟨a.1.size,3,G⟩) F.q (.bool g));have E:=B ((((γ.q.bB 0 ak (J L 0)).bB 1 ak (J L 0)).bB 2 ak (I ⟨[].toArray⟩)).bB 3 ak (.bool g));refine aO ?_;have z:=r.q.c0;have v:=r.q.c1;have A:=f1 r.q 1;have ι:=E.q.1;have β:=B (Mv.of_below (R:=R) (c:=c) α.q);go_wp2_with fail;refine(lH q 220 _).mono ?_;rintro e w6 ⟨rfl,rfl⟩;refine⟨rfl,?_⟩;show mQ R s c n w _ _ _ _;rw[HX.q,S.q];exact⟨by rw[T.q],β.q.same⟩
  .simp only[au δ] at Q
   obtain⟨q,hq⟩:∃q,q=p+dW l:=⟨_,rfl⟩;rw[<-hq] at Q;have HL:=B Q;have S:Hid (dF l= .ok (l.take (dW l),l.drop (dW l))):=B (by unfold dF;rw[au (by rw[P,hg];decide),au δ]);have T:=B hq;have π:=B η;rw[P] at HE;have HG:=B hg;clear Q P hg δ hq hT η;go_enter func181,ntmps181;go_wp2_with fail;refine HE.q.mono ?_;rintro e w1 ⟨rfl,y⟩;have u:=B y;clear y;go_wp2_with fail;refine(ζ _ u.q).q.mono ?_;rintro e a ⟨rfl,Y⟩;rw[HG.q];have j:=B (u.q.bQ Y);have d:=B (HH.q.below j.q);have θ:=B (d.q.new (aB _));have z:=d.q.c0;have v:=d.q.c1;have A:=f1 d.q 1;clear Y;go_wp2_with fail;refine qW 99 (.q 0 0 (.q 1 0 (.q 2 0 (.q 3 0 (.q 4 0 (.q 5 0 (.q 6 0 (.q 7 0 (.alt 8 (.q 9 0 (.q 10 0 (.q 11 0 (.q 12 0 (.l 13 (.l 14 (.q 15 0 (.q 16 0 .nil)))))))) 13 (.l 8 (.q 9 0 (.q 10 0 (.q 11 0 (.q 12 0 (.l 14 (.q 15 0 (.q 16 0 .nil))))))))))))))))) (λ_=>True) (λW'=>W'.cell? ⟨R,0,G⟩=some (I ⟨s.toArray⟩)/\W'.cell? ⟨R,1,G⟩=some (J L p)) ay ay N ⟨d.q.drew.c0,d.q.drew.c1⟩ ?_;refine qC ?_;refine⟨?_,?_⟩
   .refine gP rfl rfl (λK b=>?_)
    go_simp;refine(HL.q _ j.q.drew).mono ?_;rintro e t ⟨g,rfl,o⟩;have k:=d.q.drew.below o;have f:=B k;have Z:=B (j.q.drew.trans (o.mono j.q.size));refine b _ _ ⟨N,k.c0,k.c1⟩ ?_;clear b K o k z v A;refine qC ?_;refine aF rfl rfl (λK b=>?_);go_simp;refine b _ _ ⟨N,(f.q.below (aA (H _ _) _)).c0,(f.q.below (aA (H _ _) _)).c1⟩ ?_;clear b K;refine aF rfl rfl (λK b=>?_);go_simp;refine b _ _ ⟨N,(f.q.below (aA (H _ _) _)).c0,(f.q.below (aA (H _ _) _)).c1⟩ ?_;clear b K;refine qC ?_;have r:=B (f.q.below (aA (H t.1.size t) (M (aH 1 p (l.take (dW l)) g) 214)));have α:=B (aA Z.q (M (aH 1 p (l.take (dW l)) g) 214));have E:=B (Bx.new t (aH 1 p (l.take (dW l)) g) 214);have i:Hid (t.1.size≠R):=B (by have:=f.q.x.2.2;omega);refine aO ?_;have z:=r.q.c0;have v:=r.q.c1;have A:=f1 r.q 1;have ι:=E.q.1;have β:=B (Mv.of_below (R:=R) (c:=c) α.q);have ht:=r.q.to (dW l) rfl π.q q T.q;have ν:=B ht.1;have ξ:=B (β.q.trans ht.2);have ο:=B (E.q.setOther R 1 (J L (q:U)) i.q);have υ:=ο.q.1;clear ht;go_wp2_with fail;go_ret;show mQ R s c n w _ _ _ _;rw[HX.q,S.q];exact⟨rfl,q,ν.q,ξ.q⟩
   .refine gP rfl rfl (λK b=>?_)
    go_simp;refine b _ _ ⟨N,(d.q.drew.below (aA (H _ _) _)).c0,(d.q.drew.below (aA (H _ _) _)).c1⟩ ?_;clear b K;refine aF rfl rfl (λK b=>?_);go_simp;refine(HL.q _ (aA j.q.drew (M (aH 0 0 [] C) 214))).mono ?_;rintro e t ⟨g,rfl,o⟩;have k:=(d.q.drew.below (aA (H _ _) (M (aH 0 0 [] C) 214))).below o;have f:=B k;have Z:=B ((aA j.q.drew (M (aH 0 0 [] C) 214)).trans (o.mono (aA j.q.drew (M (aH 0 0 [] C) 214)).size));have ε:Bx t a.1.size (aH 0 0 [] C):=(Bx.new a.drew (aH 0 0 [] C) 214).keep o;have γ:=B ε;have i:Hid (a.1.size≠R):=B (by have:=d.q.x.2.2;omega);have F:Hid (w.1.size<=a.1.size):=B j.q.size;refine b _ _ ⟨N,k.c0,k.c1⟩ ?_;clear b K o k z v A ε;have κ:=γ.q.1;have μ:=γ.q.2.1;refine qC ?_;refine aF rfl rfl (λK b=>?_);go_simp;refine b _ _ ⟨N,((((f.q.x.other (p:=⟨a.1.size,0,G⟩) i.q.symm _).other (p:=⟨a.1.size,1,G⟩) i.q.symm _).other (p:=⟨a.1.size,2,G⟩) i.q.symm _).other (p:=⟨a.1.size,3,G⟩) i.q.symm _).1 0,((((f.q.x.other (p:=⟨a.1.size,0,G⟩) i.q.symm _).other (p:=⟨a.1.size,1,G⟩) i.q.symm _).other (p:=⟨a.1.size,2,G⟩) i.q.symm _).other (p:=⟨a.1.size,3,G⟩) i.q.symm _).1 1⟩ ?_;clear b K κ μ;refine qC ?_;have r:=B (f.q.apart a.1.size θ.q 1 p (l.take (dW l)) g);have α:=B ((((Z.q.setCell (p:=⟨a.1.size,0,G⟩) F.q (J L 1)).setCell (p:=⟨a.1.size,1,G⟩) F.q (J L p)).setCell (p:=⟨a.1.size,2,G⟩) F.q (I ⟨(l.take (dW l)).toArray⟩)).setCell (p:=⟨a.1.size,3,G⟩) F.q (.bool g));have E:=B ((((γ.q.bB 0 ak (J L 1)).bB 1 ak (J L p)).bB 2 ak (I ⟨(l.take (dW l)).toArray⟩)).bB 3 ak (.bool g));refine aO ?_;have z:=r.q.c0;have v:=r.q.c1;have A:=f1 r.q 1;have ι:=E.q.1;have β:=B (Mv.of_below (R:=R) (c:=c) α.q);have ht:=r.q.to (dW l) rfl π.q q T.q;have ν:=B ht.1;have ξ:=B (β.q.trans ht.2);have ο:=B (E.q.setOther R 1 (J L (q:U)) i.q);have υ:=ο.q.1;clear ht;go_wp2_with fail;go_ret;show mQ R s c n w _ _ _ _;rw[HX.q,S.q];exact⟨rfl,q,ν.q,ξ.q⟩
 .have S:Hid (dF l= .error (l,220)):=B (by
   unfold dF;rw[av]
   .cases h1:dR l
    .cases h2:dH l
     .rfl
     .exact absurd ⟨h1,h2⟩ x
    .rfl)
  have HN:=B x;have T:Hid (s.length - l.length=p):=B ah;clear x hT;go_enter func181,ntmps181;go_wp2_with fail;refine HE.q.mono ?_;rintro e w1 ⟨rfl,y⟩;have u:=B y;have v:=(HH.q.below y).c1;clear y
  cases P:dR l
  .go_wp2_with fail
   refine(ζ _ u.q).q.mono ?_;rintro e a ⟨rfl,Y⟩;rw[show dH l=C by cases h2:dH l;rfl;exact absurd ⟨P,h2⟩ HN.q];have j:=B (u.q.bQ Y);have v:=(HH.q.below j.q).c1;clear Y;go_wp2_with fail;refine(lH p 220 _).mono ?_;rintro e w6 ⟨rfl,rfl⟩;refine⟨rfl,?_⟩;show mQ R s c n w _ _ _ _;rw[HX.q,S.q];exact⟨by rw[T.q],Same.of_below j.q (λ_ _ h=>h)⟩
  .go_wp2_with fail
   refine(lH p 220 _).mono ?_;rintro e w6 ⟨rfl,rfl⟩;refine⟨rfl,?_⟩;show mQ R s c n w _ _ _ _;rw[HX.q,S.q];exact⟨by rw[T.q],Same.of_below u.q (λ_ _ h=>h)⟩
@[reducible] def addN (n:aJ)(m:Bs):aJ:={n with names:=n.names++[m]}
@[reducible] def SS (c:bH)(a:Option Addr)(k b:Nat):bH:={c with na:=a,nn:=k,nc:=b}
theorem eT.c3 {w:World}{l:Bs}(a:eT w R s p l c n):w.cell? ⟨R,3,G⟩=some (.slice c.na c.nn c.nc):=a.x.1 3
theorem eT.c5 {w:World}{l:Bs}(a:eT w R s p l c n):w.cell? ⟨R,5,G⟩=some (.slice c.va c.vn c.vc):=a.x.1 5
variable{X Y:World}
theorem eT.addN {w:World}{l m:Bs}(a:eT w R s p l c n)(f:Below w.1.size w X)(d:Option Addr)(c':Nat)
  (j:Own Y (R+1) 9 1 encStr (.slice d (c.nn+1) c') (n.names++[m])) (b:X.grownBy Y (Value.slice c.na c.nn c.nc).ownBlock)
  (q:(Value.slice d (c.nn+1) c').ownBlock=(Value.slice c.na c.nn c.nc).ownBlock\/(Value.slice d (c.nn+1) c').ownBlock=some X.1.size):
  eT (Y.setCell ⟨R,3,G⟩ (.slice d (c.nn+1) c')) R s p l (SS c d (c.nn+1) c') (addN n m)/\Mv R c (SS c d (c.nn+1) c') w (Y.setCell ⟨R,3,G⟩ (.slice d (c.nn+1) c')):=by
 have S:=a.x.2.2;have T:=f.size;have r:(Value.slice c.na c.nn c.nc).ownBlock≠some R:=a.n.2.1.far' (.inl ah);have t:=a.n.2.2.apart a.n.2.1 aj;have u:=a.x.keep f;have v:Bx Y R (qj s p c):=u.grown b r;have k:Own Y (R+1) 130 2 pQ (.slice c.va c.vn c.vc) n.aN:=(a.n.2.2.below f rfl).grown b (λg b=>t g b);obtain⟨⟨x,y,z,A,E,F⟩,_,_⟩:=a.n;have K:Same (mW R c) X Y:=⟨b.os,b.tape,b.output,b.size,λi P Q=>b.block i Q (λe=>P.2.1 e.symm)⟩;refine⟨⟨?_,⟨⟨x,y,z,A,by simp[E],F⟩,?_,?_⟩,a.d,a.le,a.lim⟩,((Same.of_below f (λ_ _ a=>a)).tr K).tr (Same.setCell _ _ _ _ (λe=>e.1 rfl)),?_,λ_ a=> .inl a⟩
 .exact v.bB 3 ak _
 .exact j.block λg b=>Below.heap_setCell _ _ _ _ (by have:=(j.lt g b).1;simp;omega)
 .exact k.block λg b=>Below.heap_setCell _ _ _ _ (by have:=(k.lt g b).1;simp;omega)
 .intro g o
  rcases q with e|e
  .exact .inl (e▸o)
  .right
   have:some g=some X.1.size:=o.symm.trans e;injection this with this;omega
@[reducible] def zk (n:aJ)(v:To):aJ:={n with aN:=n.aN++[v]}
@[reducible] def SV (c:bH)(a:Option Addr)(k b:Nat):bH:={c with va:=a,vn:=k,vc:=b}
theorem eT.zk {w:World}{l:Bs}{v:To}(a:eT w R s p l c n)(f:Below w.1.size w X)(d:Option Addr)(c':Nat)
  (j:Own Y (R+1) 130 2 pQ (.slice d (c.vn+1) c') (n.aN++[v])) (b:X.grownBy Y (Value.slice c.va c.vn c.vc).ownBlock)
  (o:(Value.slice d (c.vn+1) c').ownBlock=(Value.slice c.va c.vn c.vc).ownBlock\/(Value.slice d (c.vn+1) c').ownBlock=some X.1.size):
  eT (Y.setCell ⟨R,5,G⟩ (.slice d (c.vn+1) c')) R s p l (SV c d (c.vn+1) c') (zk n v)/\Mv R c (SV c d (c.vn+1) c') w (Y.setCell ⟨R,5,G⟩ (.slice d (c.vn+1) c')):=by
 have S:=a.x.2.2;have T:=f.size;have q:(Value.slice c.va c.vn c.vc).ownBlock≠some R:=a.n.2.2.far' (.inl ah);have r:=a.n.2.1.apart a.n.2.2 aj;have t:=a.x.keep f;have u:Bx Y R (qj s p c):=t.grown b q;have k:Own Y (R+1) 9 1 encStr (.slice c.na c.nn c.nc) n.names:=(a.n.2.1.below f rfl).grown b (λg b=>r g b);obtain⟨⟨x,y,z,A,E,F⟩,_,_⟩:=a.n;have K:Same (mW R c) X Y:=⟨b.os,b.tape,b.output,b.size,λi P Q=>b.block i Q (λe=>P.2.2 e.symm)⟩;refine⟨⟨?_,⟨⟨x,y,z,A,E,by simp[F]⟩,?_,?_⟩,a.d,a.le,a.lim⟩,((Same.of_below f (λ_ _ a=>a)).tr K).tr (Same.setCell _ _ _ _ (λe=>e.1 rfl)),λ_ a=> .inl a,?_⟩
 .exact u.bB 5 ak _
 .exact k.block λg b=>Below.heap_setCell _ _ _ _ (by have:=(k.lt g b).1;simp;omega)
 .exact j.block λg b=>Below.heap_setCell _ _ _ _ (by have:=(j.lt g b).1;simp;omega)
 .intro g m
  rcases o with e|e
  .exact .inl (e▸m)
  .right
   have:some g=some X.1.size:=m.symm.trans e;injection this with this;omega
theorem JF {l:Bs}(w:World)(h:eT w R s p l c n)(A:Lib.Utf8Tabs 6 7 w)(hl:n.names.length<=1000):
  Calls O 164 #[.pointer (some ⟨R,0,G⟩)] w (dP R s c w (λ_:Unit=> .tuple #[]) (match dF l with| .error x=> .error x| .ok (m,r)=> .ok ((),addN n m,r))):=by
 obtain⟨X,j⟩:∃X:Except Er (Unit × aJ × Bs),X=(match dF l with| .error x=> .error x| .ok (m,r)=> .ok ((),addN n m,r)):=⟨_,rfl⟩;rw[<-j];have Z:Hid (∀b d,(∃(r:Bs)(m:U),dF l= .error (r,m)/\b=nu (s.length - r.length) m/\Same (mW R c) w.drew d)->dP R s c w (λ_:Unit=> .tuple #[]) X (.panicked b) d):=B (by
  rintro b d ⟨r,m,h1,rfl,f⟩;rw[j,h1];exact⟨rfl,f.os,f.tape,f.output,f.size,f.block⟩)
 have HX:=B j;clear j;have α:=B (λW (E:Below w.1.size w W)=>Bv W (h.below E) (V A E));obtain⟨i,z,F⟩:=l8;have g:=B F;have HH:=B h;have P:Hid (Below w.1.size w w.drew):=B ((H _ _).drew);have β:Hid ((Value.slice c.na c.nn c.nc).ownBlock≠some R):=B (h.n.2.1.far' (.inl ah));have γ:=h.n.1.2.2.2.2.1;have δ:Hid (n.names.length+1=c.nn+1):=B ah;have ε:Hid ((c.nn+1)*16<=140737488355328):=B ah;have ζ:Hid (c.nn+1<=maxLen):=B (by unfold maxLen;omega);clear γ;clear h A F;go_enter func164,ntmps164;go_wp2_with fail;refine dz 13 [(0,1),(1,1),(2,1),(3,1),(4,1),(5,0),(6,1),(7,2),(8,2),(9,2),(10,1),(11,1),(12,1),(13,2)] (λ_=>True) (λW'=>W'.cell? ⟨R,3,G⟩=some (.slice c.na c.nn c.nc)) (λb d=>∃(r:Bs)(m:U),dF l= .error (r,m)/\b=nu (s.length - r.length) m/\Same (mW R c) w.drew d) ay ay (λb a1 w1 hd hr=>⟨hd,Z.q b w1 hr⟩) (trivial) (HH.q.drew.c3) ?_;refine qC ?_;refine aF rfl rfl (λK a=>?_);go_simp;refine(α.q _ P.q).mono ?_;intro e v k
 cases o:dF l with
 |error x=>
  rw[o] at k;obtain⟨rfl,hs⟩:=k;exact⟨rfl,x.1,x.2,rfl,rfl,hs⟩
 |ok mr=>
 obtain⟨m,r⟩:=mr;rw[o] at k;obtain⟨rfl,p2,q,Q⟩:=k;have t:=B q;have η:=B Q;have θ:=B o;refine a _ _ ⟨N,q.c3⟩ ?_;have ι:Hid (R+1<=(v.alloc (M #[I ⟨m.toArray⟩] 9)).1.size):=B (by have:=q.x.2.2;simp;omega);clear a K q Q o;refine aF rfl rfl (λK a=>?_);go_simp;refine a _ _ ⟨N,(t.q.below (aA (H _ _) _)).c3⟩ ?_;clear a K;refine aF rfl rfl (λK a=>?_);refine kM _ _ 22 rfl i z 16 underlying22 g.q.1 g.q.2.1 g.q.2.2.1 g.q.2.2.2.1 g.q.2.2.2.2 rfl (t.q.n.2.1.alloc _) (some ⟨v.1.size,0,G⟩) 1 1 (c.nn+1) [m] rfl (Row.str1 v m) δ.q ε.q ζ.q ι.q ?_;intro a' c' w3 S y T;have u:=(t.q.x.keep (aA (H _ _) (M #[I ⟨m.toArray⟩] 9))).grown y β.q;have Y:=B (t.q.addN (aA (H _ _) (M #[I ⟨m.toArray⟩] 9)) a' c' S y T);refine a _ _ ⟨N,u.1 3⟩ ?_;have κ:=u.1 3;have μ:=u.2.1 3;clear a K S y T u;refine qC ?_;refine aW rfl rfl rfl (λK a=>?_);go_simp;refine a _ _ N ?_;clear a K;refine ja ?_;go_wp2_with fail;refine bodyPost_end (results_none rfl _ _ _) rfl ?_;show dP R s c w _ _ _ _;rw[HX.q,θ.q];exact⟨rfl,p2,_,Y.q.1,(Mv.of_below P.q).trans (η.q.trans Y.q.2)⟩
def rE (R:Nat)(w:World):Prop:=∃w0:World,w0.1.size<=R/\Below w0.1.size w0 w/\Lib.Utf8Tabs 6 7 w0/\vR w0/\jM w0
theorem rE.tabs {w:World}(a:rE R w):Lib.Utf8Tabs 6 7 w:=let⟨_,_,b,c,_⟩:=a;V c b
theorem rE.e {w:World}(a:rE R w):vR w:=let⟨_,_,b,_,c,_⟩:=a;c.below b
theorem rE.l {w:World}(a:rE R w):jM w:=let⟨_,_,b,_,_,c⟩:=a;c.below b
theorem rE.below {w:World}(b:rE R w)(c:Below w.1.size w X):rE R X:=let⟨w0,d,a,e⟩:=b;⟨w0,d,a.trans (c.mono a.size),e⟩
theorem rE.mv {w:World}{l:Bs}(b:rE R w)(hc:eT w R s p l c n)(d:Same (mW R c) w X):rE R X:=
 let⟨w0,e,a,f⟩:=b;⟨w0,e,d.below a (λi g=>hc.old ah) a.size,f⟩
theorem eT.put {w:World}{l:Bs}(a:eT w R s p l c n)(b i:Nat)(v:Value)(d:mW R c b):eT (w.setCell ⟨b,i,G⟩ v) R s p l c n:=
 ⟨a.x.setOther b i v (Ne.symm d.1),⟨a.n.1,a.n.2.1.block λg hg=>Below.heap_setCell _ _ _ _ (by rintro rfl;exact d.2.1 hg),a.n.2.2.block λg hg=>Below.heap_setCell _ _ _ _ (by rintro rfl;exact d.2.2 hg)⟩,a.d,a.le,a.lim⟩
theorem Mv.put {c':bH}{w:World}(a:Mv R c c' w Y)(b i:Nat)(v:Value)(f:w.1.size<=b):Mv R c c' w (Y.setCell ⟨b,i,G⟩ v):=
 ⟨⟨a.same.os,a.same.tape,a.same.output,bI a.same.size (by simp[World.setCell]),λj d e=>(Below.heap_setCell _ _ _ _ (by simp;omega)).trans (a.same.block j d e)⟩,a.na,a.va⟩
theorem He (q:UInt8->Bool):∀l:Bs,∀c∈l.takeWhile q,q c=true
 |[],_,h=>by simp at h
 |a::t,c,h=>by
  rw[lV] at h
  cases b:q a
  .rw[b] at h;simp at h
  .rw[b,av rfl] at h
   rcases dO.1 h with rfl|h
   .exact b
   .exact He q t c h
theorem QB (d:Bs)(l:Bs):((lD l).head?=G\/(lD l).head?=some 45\/(lD l).head?=some 48)/\sH d l= .error (l,220)\/
  (∃b t,lD l=b::t/\b.toNat≠45/\b.toNat≠48)/\lD l=l.takeWhile iO/\(∀c∈lD l,iO c=true)/\sH d l=(if 999<oz (lD l) then .error (l,3) else .ok (⟨d,oz (lD l)⟩,l.drop (lD l).length)):=by
 by_cases f:l.head?=some 45
 .obtain⟨t,rfl⟩:∃t,l=45::t:=by cases l with
   |nil=>simp at f
   |cons a t=>exact⟨t,by simpa using f⟩
  have j:(45::t:Bs).takeWhile iO=[]:=by rw[lV];rfl
  left
  constructor
  .unfold lD
   rw[av (show(45::t:Bs).head?=some 45 from rfl)]
   split
   .exact .inl rfl
   .exact .inr (.inl rfl)
  .unfold sH
   simp only[j];rw[av (.inl rfl)]
 .have k:lD l=l.takeWhile iO:=by unfold lD;rw[au f]
  rw[k];have g:∀c∈l.takeWhile iO,iO c=true:=He iO l
  cases hd:l.takeWhile iO with
  |nil=>
   left
   refine⟨.inl rfl,?_⟩;unfold sH;simp only[hd];rw[av (.inl rfl)]
  |cons b t=>
   by_cases i:b=48
   .left
    subst i;refine⟨.inr (.inr rfl),?_⟩;unfold sH;simp only[hd];rw[av (.inr rfl)]
   .right
    rw[hd] at g;refine⟨⟨b,t,rfl,?_,λe=>i (iV.1 e)⟩,rfl,g,?_⟩
    .intro e
     have:=g b ak;rw[CG,e] at this;exact absurd this aj
    .unfold sH
     simp only[hd];rw[au (by simpa using i)]
theorem eT.drewN {w:World}{l:Bs}(a:eT w R s p l c n)(k:Nat):eT (w.drewN k) R s p l c n:=⟨a.x,a.n,a.d,a.le,a.lim⟩
theorem Same.NW {A:Nat->Prop}(X:World)(n:Nat):Same A X (X.drewN n):=⟨rfl,rfl,rfl,aB _,λ_ _ _=>rfl⟩
theorem DR {l:Bs}(w:World)(h:eT w R s p l c n)(hG:rE R w)(hl:n.aN.length<=1000):
  Calls O 166 #[.pointer (some ⟨R,0,G⟩)] w (dP R s c w (λ_:Unit=> .tuple #[]) (match gG l with| .error x=> .error x| .ok (v,r)=> .ok ((),zk n v,r))):=by
 obtain⟨X,hX⟩:∃X:Except Er (Unit × aJ × Bs),X=(match gG l with| .error x=> .error x| .ok (v,r)=> .ok ((),zk n v,r)):=⟨_,rfl⟩;rw[<-hX];have F:=B hX;clear hX;have q2:=B (λW (hb:Below w.1.size w W)=>Bw W (h.below hb));have j9:=B (λW (hb:Below w.1.size w W)=>Bv W (h.below hb) (hG.below hb).tabs);have HG:=B hG;obtain⟨i,z,hi⟩:=EA;have S:=B hi;have A:=B h;have α:Hid (Below w.1.size w w.drew):=B ((H _ _).drew);have z0:Hid ((Value.slice c.va c.vn c.vc).ownBlock≠some R):=B (h.n.2.2.far' (.inl ah));have k4:=h.n.1.2.2.2.2.2;have z2:Hid (n.aN.length+1=c.vn+1):=B ah;have z3:Hid ((c.vn+1)*24<=140737488355328):=B ah;have z4:Hid (c.vn+1<=maxLen):=B (by unfold maxLen;omega);have x5:=h.lim;have z5:=h.len;clear k4 h hG hi;by_cases ν:∃t,l=45::t
 .obtain⟨t,rfl⟩:=ν
  have ι:Hid (dR (45::t)=C):=B (by rw[jg];rfl);have x6:=λW=>jA Tryz.underlying9 s p 45 A.q.at_ W
  have x7:p<s.length:=by simp at z5;omega
  have E:Hid (X= .ok ((),zk n ⟨[],0⟩,t)):=B (by rw[F.q];unfold gG;rw[av (show(45::t:Bs).head?=some 45 from rfl)];rfl);go_enter func166,ntmps166;go_wp2_with fail;refine aC 99 [(0,0),(1,2),(2,0),(3,0),(4,0),(5,0),(6,0),(7,0),(8,0),(9,0),(10,0),(11,0),(12,0),(13,0),(14,0)] (λ_=>True) (λj=>j.cell? ⟨R,0,G⟩=some (I ⟨s.toArray⟩)/\j.cell? ⟨R,1,G⟩=some (J L p)) ay ay (trivial) (⟨A.q.drew.c0,A.q.drew.c1⟩) ?_;refine qC ?_;refine aF rfl rfl (λK f=>?_);go_simp;refine(q2.q _ α.q).mono ?_;rintro e w1 ⟨rfl,P⟩;have o:=A.q.drew.below P;have κ:=B o;have γ:=B (α.q.bQ P);rw[ι.q];refine f _ _ ⟨N,o.c0,o.c1⟩ ?_;clear f K P o;refine qC ?_;refine aO ?_;have ζ:=κ.q.to 1 rfl ak (p+1) rfl;have HT:=B ζ.1;have HM:=B ζ.2;rw[xw] at HT HM;have c1:=κ.q.c1;have z1:=f1 κ.q 1;have c5:=κ.q.c5;clear ζ;have k5:Hid ((w1.setCell ⟨R,1,G⟩ (J L ((p:U)+1))).1.size=w1.1.size):=B ak;have q3:Hid (R+1<=((w1.setCell ⟨R,1,G⟩ (J L ((p:U)+1))).alloc (M #[I ⟨([]:Bs).toArray⟩,J L 0] 130)).1.size):=B (by have:=HT.q.x.2.2;simp at*;omega)
  go_wp2_with (at_builtin;refine iP rfl _ _ 75 rfl i z 24 underlying75 S.q.1 S.q.2.1 S.q.2.2.1 S.q.2.2.2.1 S.q.2.2.2.2 rfl (HT.q.n.2.2.alloc _) (some ⟨w1.1.size,0,G⟩) 1 1 (c.vn+1) [⟨[],0⟩] rfl (Row.toN k5.q ⟨[],0⟩) z2.q z3.q z4.q q3.q ?_;intro a' c' w3 z6 q4 z7;have q5:=(HT.q.x.keep (aA (H _ _) (M #[I ⟨([]:Bs).toArray⟩,J L 0] 130))).grown q4 z0.q;have ξ:=B (HT.q.zk (aA (H _ _) (M #[I ⟨([]:Bs).toArray⟩,J L 0] 130)) a' c' z6 q4 z7);have x8:=q5.1 5;have x9:=q5.2.1 5;clear z6 q4 z7 q5)
  refine bodyPost_ret (results_none rfl _ _ _) rfl ?_;show dP R s c w _ _ _ _;rw[E.q];exact⟨rfl,p+1,_,ξ.q.1,(Mv.of_below γ.q).trans (HM.q.trans ξ.q.2)⟩
 .have Y:¬l.head?=some 45:=λe=>ν (by cases l with
   |nil=>simp at e
   |cons a t=>exact⟨t,by simp at e;rw[e]⟩)
  have z8:Hid (∀x,dF l= .error x->(match gG l with| .error x=> .error x| .ok (v,r)=> .ok ((),zk n v,r):Except Er (Unit × aJ × Bs))= .error x):=B (λx hx=>by unfold gG;rw[au Y,hx]);have k6:Hid (∀m r,dF l= .ok (m,r)->gG l=if r.head?=some 46 then sH m r.tail else .error (r,220)):=B (λm r hx=>by unfold gG;rw[au Y,hx]);clear Y
  cases ο:dR l
  .obtain⟨Q,t0,rfl⟩:∃Q t0,l=Q::t0:=by cases l with
    |nil=>exact absurd ο aj
    |cons a t=>exact⟨a,t,rfl⟩
   have ι:Hid (dR (Q::t0)=C):=B ο;have b1:=λW=>jA Tryz.underlying9 s p Q A.q.at_ W
   have b4:p<s.length:=by simp at z5;omega
   have b5:((Q.toNat:U)==45)=C:=aX.2 (λe=>ν ⟨t0,by rw[show Q=45 from iV.1 (by show Q.toNat=45;omega)]⟩);clear ο ν;go_enter func166,ntmps166;go_wp2_with fail;refine aC 99 [(0,0),(1,2),(2,0),(3,0),(4,0),(5,0),(6,0),(7,0),(8,0),(9,0),(10,0),(11,0),(12,0),(13,0),(14,0)] (λ_=>True) (λj=>j.cell? ⟨R,0,G⟩=some (I ⟨s.toArray⟩)/\j.cell? ⟨R,1,G⟩=some (J L p)) ay ay (trivial) (⟨A.q.drew.c0,A.q.drew.c1⟩) ?_;refine qC ?_;refine aF rfl rfl (λK f=>?_);go_simp;refine(q2.q _ α.q).mono ?_;rintro e w1 ⟨rfl,P⟩;have o:=A.q.drew.below P;have κ:=B o;have γ:=B (α.q.bQ P);rw[ι.q];refine f _ _ ⟨N,o.c0,o.c1⟩ ?_;clear f K P o;refine qC ?_;refine aO ?_;go_wp2_with fail;refine(j9.q _ γ.q).mono ?_;intro e w2 he
   cases β:dF (Q::t0) with
   |error x=>
    rw[β] at he;obtain⟨rfl,hs⟩:=he;refine⟨rfl,?_⟩;show dP R s c w _ _ _ _;rw[F.q,z8.q x β];exact⟨rfl,(Same.of_below γ.q (λ_ _ h=>h)).tr hs⟩
   |ok mr=>
   obtain⟨m,r⟩:=mr;rw[β] at he;obtain⟨rfl,b,π,z9⟩:=he;have q6:=B (k6.q m r β);have k7:=B π;have v0:=B ((Mv.of_below γ.q).trans z9);have ρ:=π.below (aA (H _ _) (M #[I ⟨m.toArray⟩,J L 0] 130));have q7:=B ρ;have q8:=B (v0.q.trans (Mv.of_below (aA (H w2.1.size w2) (M #[I ⟨m.toArray⟩,J L 0] 130))));have k8:=B (Bx.new w2 #[I ⟨m.toArray⟩,J L 0] 130);have χ:=B (π.new (aB _));have δ:=π.len;have c0:=ρ.c0;have c1:=ρ.c1;have z1:=f1 ρ 1;have hz:=gN s;clear π z9 ρ β
   cases hr:r with
   |nil=>
    have v1:((b:U)==(s.length:U))=true:=by rw[hr] at δ;simp at δ;simp[δ]
    have E:Hid (gG (Q::t0)= .error ([],220)):=B (by rw[q6.q,hr];rfl);have HQ:Hid (s.length - ([]:Bs).length=b):=B (by rw[hr] at δ;simp at δ ⊢;omega);clear hr δ
    go_wp2_with (go_quiet (fail))
    refine(lH b 220 _).mono ?_;rintro e w9 ⟨rfl,rfl⟩;refine⟨rfl,?_⟩;show dP R s c w _ _ _ _;rw[F.q,E.q];exact⟨by rw[HQ.q],q8.q.same.tr (Same.NW _ _)⟩
   |cons b2 u=>
   subst hr;have v1:((b:U)==(s.length:U))=C:=aX.2 (by simp at δ;omega);have b6:=λW=>jA Tryz.underlying9 s b b2 q7.q.at_ W
   have ψ:=B δ;by_cases ω:b2=46
   .subst ω
    have k9:(((46:UInt8).toNat:U)!=46)=C:=rfl;have E:Hid (gG (Q::t0)=sH m u):=B (by rw[q6.q];rfl);have y0:b+1<=s.length:=by have:=ψ.q;simp at this;omega
    have v2:s.drop (b+1)=u:=by rw[<-uS,q7.q.d];rfl
    have y1:∀W,(Instr.slice 9 (I ⟨s.toArray⟩) (some (J L ((b:U)+1))) G G).run O W= .ok (I ⟨u.toArray⟩) W:=λW=>by have:=nk Tryz.underlying9 s (b+1) y0 W;rw[v2] at this;exact this
    have q9:=λW=>B (Kj u (by have:=ψ.q;simp at this;omega) W)
    clear v2;have Γ:=QB m u;have Δ:(lD u).length<=u.length:=by unfold lD;split;split;exact bn _;rw[fB];exact Nat.min_le_right _ _;have:=nN iO u;omega
    revert q9 Γ Δ;generalize lD u=D;intro q9 Γ Δ;have v3:=B Δ;have y2:=B Γ;clear Δ Γ
    go_wp2_with (go_quiet (fail))
    have ζ:=(q7.q.drewN nq).to 1 rfl ak (b+1) rfl;have σ:Hid (eT (((w2.alloc (M #[I ⟨m.toArray⟩,J L 0] 130)).drewN nq).setCell ⟨R,1,G⟩ (J L ((b:U)+1))) R s (b+1) u c n):=B ζ.1;have j0:Hid (Mv R c c w (((w2.alloc (M #[I ⟨m.toArray⟩,J L 0] 130)).drewN nq).setCell ⟨R,1,G⟩ (J L ((b:U)+1)))):=B ((q8.q.trans (Mv.of_below (gu (H _ _) nq))).trans ζ.2);have Θ:Hid (Bx (((w2.alloc (M #[I ⟨m.toArray⟩,J L 0] 130)).drewN nq).setCell ⟨R,1,G⟩ (J L ((b:U)+1))) w2.1.size #[I ⟨m.toArray⟩,J L 0]):=B ((k8.q.drewN nq).setOther R 1 (J L ((b:U)+1)) (by have:=k7.q.x.2.2;omega));clear ζ c0 c1 z1 v1;revert σ j0 Θ;generalize(((w2.alloc (M #[I ⟨m.toArray⟩,J L 0] 130)).drewN nq).setCell ⟨R,1,G⟩ (J L ((b:U)+1)))=g;intro σ j0 Θ;obtain⟨y,j1⟩:∃y,y=w2.1.size:=⟨_,rfl⟩;rw[<-j1] at Θ χ ⊢;have v4:Hid (y≠R):=B (λe=>χ.q.1 e);have y3:Hid (w.1.size<=y):=B (by rw[j1];exact v0.q.same.size);clear j1;refine aC 99 [(0,0),(1,0),(2,0),(3,0),(4,0),(5,0),(6,0),(7,0),(8,0),(9,2),(10,0),(11,0),(12,0),(13,0),(14,0)] (λ_=>True) (λj=>j.cell? ⟨R,0,G⟩=some (I ⟨s.toArray⟩)/\j.cell? ⟨R,1,G⟩=some (J L ((b:U)+1))) ay ay (trivial) (⟨σ.q.drew.c0,σ.q.drew.c1⟩) ?_;refine qC ?_;refine aF rfl rfl (λK f=>?_);go_simp;refine(q9 _).q.mono ?_;rintro e w4 ⟨rfl,Ξ⟩;have Φ:=σ.q.drew.below Ξ;have τ:=B Φ;have υ:=B ((j0.q.trans (Mv.of_below (H _ _).drew)).trans (Mv.of_below Ξ));have y4:=B (Θ.q.drew.keep Ξ);refine f _ _ ⟨N,Φ.c0,Φ.c1⟩ ?_;clear f K Ξ Φ;refine qC ?_;refine aO ?_;have c0:=τ.q.c0;have z1:=f1 τ.q 1;have c1:w4.cell? ⟨R,1,G⟩=some (J L ((b:U)+1)):=τ.q.c1;clear y1;rcases y2.q with⟨v5,μ⟩|⟨⟨d,k,hh,Y,Ψ⟩,y5,v6,μ⟩
    .have η:=B μ
     have HQ:Hid (s.length - u.length=b+1):=B (by have:=ψ.q;simp at this;omega);have HF:Hid (∀W,Calls O 148 #[J L ((b:U)+1),J L 220] W λe w'=>e= .panicked (nu (b+1) 220)/\w'=W):=B (λW=>lH (b+1) 220 W);clear μ
     cases D with
     |nil=>
      go_wp2_with fail;refine(HF.q _).mono ?_;rintro e w9 ⟨rfl,rfl⟩;refine⟨rfl,?_⟩;show dP R s c w _ _ _ _;rw[F.q,E.q,η.q];exact⟨by rw[HQ.q],υ.q.same⟩
     |cons d k=>
      have j2:d=45\/d=48:=by simpa using v5
      have y6:∀W,(Instr.index 9 (I ⟨(d::k).toArray⟩) (J L 0)).run O W= .ok (.int .u8 (d.toNat:U)) W:=λW=>jA Tryz.underlying9 (d::k) 0 d rfl W
      have y7:((d::k)==([]:Bs))=C:=rfl;clear v5;by_cases Y:d.toNat=45
      .have v7:((d.toNat:U)==45)=true:=by simp[Y]
       clear j2 Y;go_wp2_with fail;refine(HF.q _).mono ?_;rintro e w9 ⟨rfl,rfl⟩;refine⟨rfl,?_⟩;show dP R s c w _ _ _ _;rw[F.q,E.q,η.q];exact⟨by rw[HQ.q],υ.q.same⟩
      .have Ψ:d.toNat=48:=by rcases j2 with rfl|rfl;exact absurd rfl Y;rfl
       have v7:((d.toNat:U)==45)=C:=aX.2 ah;have y8:((d.toNat:U)==48)=true:=by simp[Ψ]
       clear j2 Y Ψ;go_wp2_with fail;refine(HF.q _).mono ?_;rintro e w9 ⟨rfl,rfl⟩;refine⟨rfl,?_⟩;show dP R s c w _ _ _ _;rw[F.q,E.q,η.q];exact⟨by rw[HQ.q],υ.q.same⟩
    .skip
     clear y5;subst hh;have v8:(d::k:Bs)≠[]:=by simp
     have y6:∀W,(Instr.index 9 (I ⟨(d::k).toArray⟩) (J L 0)).run O W= .ok (.int .u8 (d.toNat:U)) W:=λW=>jA Tryz.underlying9 (d::k) 0 d rfl W
     have v7:((d.toNat:U)==45)=C:=aX.2 ah;have y8:((d.toNat:U)==48)=C:=aX.2 ah;have y7:((d::k)==([]:Bs))=C:=rfl;have b7:=gN (d::k);have v9:=τ.q.len;have b8:=v3.q;have k0:=B (TY (d::k) v8 v6 ah w4 ((HG.q.mv A.q υ.q.same).e));obtain⟨g,hV⟩:∃g,g=oz (d::k):=⟨_,rfl⟩;rw[<-hV] at k0 μ;have η:=B μ;have y9:=B v9;clear v6 μ Y Ψ hV v9 v8;go_wp2_with fail;refine k0.q.mono ?_;rintro e w5 ⟨kk,er,rfl,Ω,x0⟩;have j3:=B (τ.q.below Ω);have j4:=B (υ.q.trans (Mv.of_below Ω));have j5:=B (y4.q.keep Ω);have z1:=f1 j3.q 1;have c1:w5.cell? ⟨R,1,G⟩=some (J L ((b:U)+1)):=j3.q.c1;have k1:Hid (∀W,Calls O 148 #[J L ((b:U)+1),J L 3] W λe w'=>e= .panicked (nu (b+1) 3)/\w'=W):=B (λW=>lH (b+1) 3 W);have HQ:Hid (s.length - u.length=b+1):=B (by have:=ψ.q;simp at this;omega);clear Ω;rcases x0 with⟨rfl,rfl,b9⟩|⟨h9,T,pp,rfl⟩
     .by_cases h9:999<g
      .have φ:=B h9
       have x1:decide ((999:U)<(g:U))=true:=bT ah;clear h9;go_wp2_with fail;refine(k1.q _).mono ?_;rintro e w9 ⟨rfl,rfl⟩;refine⟨rfl,?_⟩;show dP R s c w _ _ _ _;rw[F.q,E.q,η.q,av φ.q];exact⟨by rw[HQ.q],j4.q.same⟩
      .have φ:=B h9
       have x1:decide ((999:U)<(g:U))=C:=bE ah;obtain⟨q,hq⟩:∃q,q=b+1+(d::k).length:=⟨_,rfl⟩;have f0:(b:U)+1+((d::k).length:U)=(q:U):=by omega
       have f2:(b:U)+1+((k.length:U)+1)=(q:U):=by simp at hq;omega
       have f3:q<=2000000:=by have:=y9.q;omega
       have j6:=j3.q.to (d::k).length rfl v3.q q hq;have x2:=j5.q.1;have x3:=j5.q.2.1;have x4:¬y=R:=v4.q;have f4:¬R=y:=λe=>v4.q e.symm
       have ε:=B (j6.1.put y 1 (J L (g:U)) χ.q);have j7:=B ((j4.q.trans j6.2).put y 1 (J L (g:U)) y3.q);have θ:Hid (Bx ((w5.setCell ⟨R,1,G⟩ (J L (q:U))).setCell ⟨y,1,G⟩ (J L (g:U))) y #[I ⟨m.toArray⟩,J L (g:U)]):=B ((j5.q.setOther R 1 (J L (q:U)) x4).bB 1 ak (J L (g:U)));clear h9 hq j6;go_wp2_with fail;revert ε j7 θ;generalize((w5.setCell ⟨R,1,G⟩ (J L (q:U))).setCell ⟨y,1,G⟩ (J L (g:U)))=Z;intro ε j7 θ;clear x2 x3 z1 c1;have q3:Hid (R+1<=(Z.drew.alloc (M #[I ⟨m.toArray⟩,J L (g:U)] 130)).1.size):=B (by have:=ε.q.x.2.2;simp;omega);refine aC 12 [(0,1),(1,1),(2,1),(3,1),(4,1),(5,0),(6,0),(7,2),(8,2),(9,1),(10,1),(11,1),(12,2)] (λ_=>True) (λj=>j.cell? ⟨R,5,G⟩=some (.slice c.va c.vn c.vc)/\j.cell? ⟨y,0,G⟩=some (I ⟨m.toArray⟩)/\j.cell? ⟨y,1,G⟩=some (J L (g:U))) ay ay (trivial) (⟨ε.q.drew.c5,θ.q.drew.1 0,θ.q.drew.1 1⟩) ?_;refine qC ?_;refine aF rfl rfl (λK f=>?_);go_simp;refine f _ _ ⟨N,(ε.q.drew.below (aA (H _ _) _)).c5,(θ.q.drew.alloc _).1 0,(θ.q.drew.alloc _).1 1⟩ ?_;clear f K;refine aF rfl rfl (λK f=>?_);refine kM _ _ 75 rfl i z 24 underlying75 S.q.1 S.q.2.1 S.q.2.2.1 S.q.2.2.2.1 S.q.2.2.2.2 rfl (ε.q.drew.n.2.2.alloc _) (some ⟨Z.1.size,0,G⟩) 1 1 (c.vn+1) [⟨m,g⟩] rfl (Row.toN rfl ⟨m,g⟩) z2.q z3.q z4.q q3.q ?_;intro a' c' w7 k2 q0 k3;have q1:=(ε.q.drew.x.keep (aA (H _ _) (M #[I ⟨m.toArray⟩,J L (g:U)] 130))).grown q0 z0.q;have ξ:=B (ε.q.drew.zk (aA (H _ _) (M #[I ⟨m.toArray⟩,J L (g:U)] 130)) a' c' k2 q0 k3);have j8:Bx w7 y #[I ⟨m.toArray⟩,J L (g:U)]:=(θ.q.drew.alloc _).grown q0 χ.q.2.2;refine f _ _ ⟨N,q1.1 5,j8.1 0,j8.1 1⟩ ?_;have f5:=q1.1 5;have f6:=q1.2.1 5;clear f K k2 q0 k3 q1 j8;refine qC ?_;refine aW rfl rfl rfl (λK f=>?_);go_simp;refine f _ _ N ?_;clear f K;refine aO ?_;go_wp2_with fail;refine bodyPost_end (results_none rfl _ _ _) rfl ?_;show dP R s c w _ _ _ _;rw[F.q,E.q,η.q,au φ.q];exact⟨rfl,q,_,ξ.q.1,(j7.q.trans (Mv.of_below (H _ _).drew)).trans ξ.q.2⟩
     .have φ:=B h9
      clear h9;go_wp2_with fail;refine(k1.q _).mono ?_;rintro e w9 ⟨rfl,rfl⟩;refine⟨rfl,?_⟩;show dP R s c w _ _ _ _;rw[F.q,E.q,η.q,av φ.q];exact⟨by rw[HQ.q],j4.q.same⟩
   .have k9:((b2.toNat:U)!=46)=true:=lF.2 (λe=>ω (iV.1 (by show b2.toNat=46;omega)))
    have E:Hid (gG (Q::t0)= .error (b2::u,220)):=B (by rw[q6.q,au (by simpa using ω)]);have HQ:Hid (s.length - (b2::u).length=b):=B ah;clear ω
    go_wp2_with (go_quiet (fail))
    refine(lH b 220 _).mono ?_;rintro e w9 ⟨rfl,rfl⟩;refine⟨rfl,?_⟩;show dP R s c w _ _ _ _;rw[F.q,E.q];exact⟨by rw[HQ.q],q8.q.same.tr (Same.NW _ _)⟩
  .have ι:Hid (dR l=true):=B ο
   clear ο ν;go_enter func166,ntmps166;go_wp2_with fail;refine aC 99 [(0,0),(1,2),(2,0),(3,0),(4,0),(5,0),(6,0),(7,0),(8,0),(9,0),(10,0),(11,0),(12,0),(13,0),(14,0)] (λ_=>True) (λj=>j.cell? ⟨R,0,G⟩=some (I ⟨s.toArray⟩)/\j.cell? ⟨R,1,G⟩=some (J L p)) ay ay (trivial) (⟨A.q.drew.c0,A.q.drew.c1⟩) ?_;refine qC ?_;refine aF rfl rfl (λK f=>?_);go_simp;refine(q2.q _ α.q).mono ?_;rintro e w1 ⟨rfl,P⟩;have o:=A.q.drew.below P;have κ:=B o;have γ:=B (α.q.bQ P);rw[ι.q];refine f _ _ ⟨N,o.c0,o.c1⟩ ?_;clear f K P o;refine qC ?_;refine aO ?_;go_wp2_with fail;refine(j9.q _ γ.q).mono ?_;intro e w2 he
   cases β:dF l with
   |error x=>
    rw[β] at he;obtain⟨rfl,hs⟩:=he;refine⟨rfl,?_⟩;show dP R s c w _ _ _ _;rw[F.q,z8.q x β];exact⟨rfl,(Same.of_below γ.q (λ_ _ h=>h)).tr hs⟩
   |ok mr=>exact absurd β (by unfold dF;rw[av (by rw[ι.q];rfl)];intro h;cases h)
end Yd
namespace Yd
open Go Go.RowKit Go.Proofs Go.Lib Tryz
open Tryz renaming prog->h,underlying9->w
open Go.Proofs.YtddiadcpokbpoabGreatDoor
theorem Qp:Rows.laid_unicode_utf8_first=firstData:=ay
theorem NC:(Rows.laid_unicode_utf8_acceptRanges:DataW Unit)=acceptData:=ay
theorem u8x:U8Extra h Tryz.lays260_ren:=⟨by kernel_rfl,by kernel_rfl,by kernel_rfl,by kernel_rfl,by kernel_rfl,by kernel_rfl,by kernel_rfl⟩
section
variable {W:World}
variable{R:Nat}{t:TypeId}{cs:List Value}{p:List MemPlace}
theorem NE {n:Nat}{e:List (DataW Unit)}(j:Tryz.prog.underlying t=some (.array n 9))(k:DataW.trod (λ_=>()) h W 0 (λ_=>true) false R t cs=some (.agg e,p))
  (i:Nat) (m:i<n) {b:Bs} (o:e[i]?=some (.lit (.string b))):cs[i]?=some (.string ⟨b.toArray⟩):=by
 obtain⟨u,d,q,a,f⟩:=array_elem j k i m;rw[o] at a;injection a with a;subst a;rw[show Tryz.prog.cellsOf 9=1 from Bu] at f;obtain⟨s,r,c,_⟩:=DataW.trod_string w f;simp only[Prod.mk.injEq,DataW.lit.injEq,Lit.string.injEq] at c;have g:=bJ (·[0]?) r;simp only[uT,xA] at g;have:s=⟨b.toArray⟩:=by
  obtain⟨⟨l⟩⟩:=s;simp at c;rw[c.1]
 rw[<-this]
 simpa using g
theorem ND {n:Nat}{c:List (DataW Unit)}(j:Tryz.prog.underlying t=some (.array n 3))(k:DataW.trod (λ_=>()) h W 0 (λ_=>true) false R t cs=some (.agg c,p))
  (i:Nat) (m:i<n) {b:Int} (o:c[i]?=some (.lit (.int .i64 b))):cs[i]?=some (.int .i64 b):=by
 obtain⟨u,d,q,a,e⟩:=array_elem j k i m;rw[o] at a;injection a with a;subst a;rw[show Tryz.prog.cellsOf 3=1 from uR] at e;obtain⟨s,r,f,_⟩:=DataW.trod_int underlying3 e;simp only[Prod.mk.injEq,DataW.lit.injEq,Lit.int.injEq,true_and] at f;have g:=bJ (·[0]?) r;simp only[uT,xA] at g;rw[f.1]
 simpa using g
theorem Yq:Tryz.prog.cellsOf 21=1:=ay
theorem NY:Tryz.prog.cellsOf 125=3:=ay
theorem TN {m:List (DataW Unit)}(K:DataW.trod (λ_=>()) h W 0 (λ_=>true) false R 126 cs=some (.agg m,p))
  (k:Nat) (P:k<10) {b:Bs} {n r:Int} (Q:m[k]?=some (.agg [.lit (.string b),.lit (.int .i64 n),.lit (.int .i32 r)])):
  cs[3*k]?=some (.string ⟨b.toArray⟩)/\cs[3*k+1]?=some (.int .i64 n)/\cs[3*k+2]?=some (.int .i32 r):=by
 obtain⟨f',d,q,g,o⟩:=array_elem underlying126 K k P;rw[Q] at g;injection g with g;subst g;rw[NY] at o;obtain⟨S,n',_,e,j,T,i⟩:=DataW.trod_struct underlying125 o;rw[NY] at j;obtain⟨c,f⟩:∃c,c=(cs.drop (k*3)).take 3:=⟨_,rfl⟩;rw[<-f] at j i;have t:cs[3*k]?=c[0]?:=by rw[f];simp[xA,rR]
 have u:cs[3*k+1]?=c[1]?:=by rw[f];simp[xA,rR]
 have v:cs[3*k+2]?=c[2]?:=by rw[f];simp[xA,rR]
 rw[t,u,v];clear t u v f
 match S,T,c,j,e with
 |[y0,y1,y2],_,[c0,c1,c2],_,e=>
  simp only[dX,jN,Prod.mk.injEq,DataW.agg.injEq,List.cons.injEq,and_true] at e;have x:=i 0 _ rfl;have y:=i 1 _ rfl;have z:=i 2 _ rfl;simp[uR,Bu,Yq] at x y z;obtain⟨s,A,X,_⟩:=DataW.trod_string w x;obtain⟨a,E,Y,_⟩:=DataW.trod_int underlying3 y;obtain⟨a2,F,Z,_⟩:=DataW.trod_int Tryz.underlying21 z;rw[X,Y,Z] at e;simp only[DataW.lit.injEq,Lit.string.injEq,Lit.int.injEq,true_and] at e;have:s=⟨b.toArray⟩:=by
   obtain⟨⟨l⟩⟩:=s;simp at e;rw[e.1.1]
  simp at A E F;rw[A,E,F,e.1.2.1,e.1.2.2,this];exact⟨rfl,rfl,rfl⟩
theorem uj {b:String}{d:DataW Unit}{g:Nat}(e:VarReads h W b d)(c:Tryz.prog.globalNamed b=some g)(f:(Tryz.prog.globals[g]?).map (·.type)=some t):
  ∃cs:Array Value,∃a p,DataW.trod (λ_=>()) h W 0 (λ_=>true) false a t cs.toList=some (d,p)/\∀i,W.cell? ⟨g,i,none⟩=cs.toList[i]?:=by
 obtain⟨n,o,cs,a,p,j,k,m,hd⟩:=e;obtain rfl:=qO (c.symm.trans j);obtain rfl:=qO (f.symm.trans k);exact⟨cs,a,p,hd,λi=>by rw[Array.getElem?_toList];exact World.var?_cell c m i⟩
end
end Yd
namespace Yd
open Bool renaming false->L
open Option renaming none->O,some->V
open Go Go.RowKit Go.Proofs Tryz
open Bx renaming new1->I
open Go.Value renaming bool->M
open RowKit renaming intOf->N
open Tryz renaming prog->G
open Yd renaming hid->C
open _root_ renaming trivial->H,Nat->U
def oM (a d b f:List Bs)(e:EvC)(c:List Sn):aJ:=
 if e.kind=1 then⟨e.kind,[nameOf a e.t,nameOf d e.eH],e.lvl,[],L,0⟩
 else if e.kind=2 then⟨e.kind,[nameOf a e.t,nameOf b e.obj],0,[],L,0⟩
 else if e.kind=3 then⟨e.kind,[nameOf a e.t,nameOf b e.obj],0,[lK a e.v],L,0⟩
 else if e.kind=4 then⟨e.kind,[nameOf a e.t,nameOf f e.pred]++c.map (λq=>nameOf b q.obj),0,c.map (λq=>lK a q.v),L,0⟩
 else⟨e.kind,[nameOf a e.t],0,[],L,0⟩
def Hf (a:HC):Array MapEntry:=#[⟨.int .i64 1,.func (.func 44) #[bC a] #[],0⟩,⟨.int .i64 2,.func (.func 45) #[bC a] #[],1⟩,⟨.int .i64 3,.func (.func 46) #[bC a] #[],2⟩,⟨.int .i64 4,.func (.func 47) #[bC a] #[],3⟩]
theorem get_map {b:U}{W:World}{es:Array MapEntry}{c:U}(a:W.1[b]?=V (.map es c)):(getObj b).run G W= .ok (.map es c) W:=by
 simp[getObj,Sem.run,a]
theorem yI (k:Int)(b:Bool)(W:World):(Instr.checkKey b 10000 3 (.int .i64 k)).run G W= .ok () W:=ay
theorem Au (a:HC)(b:U)(W:World)(c:W.1[b]?=V (.map (Hf a) 4)){k:Int}{v:Value}(d:k=1/\v=(.tuple #[.func (.func 44) #[bC a] #[],M true])\/k=2/\v=(.tuple #[.func (.func 45) #[bC a] #[],M true])\/k=3/\v=(.tuple #[.func (.func 46) #[bC a] #[],M true])\/k=4/\v=(.tuple #[.func (.func 47) #[bC a] #[],M true])\/(k=5\/k=6)/\v=(.tuple #[.nilFunc,M L])):
  (Instr.lookup 111 (.map (V b)) (.int .i64 k) true).run G W= .ok v W:=by
 have hg:=get_map c;rcases d with⟨rfl,rfl⟩|⟨rfl,rfl⟩|⟨rfl,rfl⟩|⟨rfl,rfl⟩|⟨rfl|rfl,rfl⟩ <;> simp[Instr.lookup,hg,Hf,yI,Instr.findKey,Instr.findNow,Instr.sameNow,Result.andThen]
theorem Row.QC {X:World}{g:U}(a:X.1.size=g)(n:Int):Row (X.alloc (.cells #[.int .i64 n] 3)) 1 aS (V ⟨g,0,O⟩) 1 1 [n]:=
 a▸(Own.new (hc:=eP) X X.1.size 3 #[.int .i64 n] [n] (aB _) rfl (by simp[maxLen])).row ak
@[reducible] def su (k:Int)(a:Option Addr)(c:U):bH:=⟨k,a,1,c,0,O,0,0,L,0⟩
structure QD (e:EvC)(w:World)(x:Bs)(b5:U)(a:Option Addr)(c:U)(Z:World):Prop where
 be:Bx Z w.1.size (aR e)
 br:Bx Z (w.1.size+1) #[.int .i64 0,.slice O 0 0,.int .i64 0,.slice O 0 0,M L,.int .i64 0]
 c5:Bx Z b5 (bM (su e.kind a c))
 on:Own Z w.1.size 9 1 encStr (.slice a 1 c) [x]
 fn:∀g,(Value.slice a 1 c).ownBlock=V g->g≠w.1.size/\g≠w.1.size+1/\g≠b5
 le:w.1.size+2<=b5
 bw:Below w.1.size w Z
theorem VE (h:HC)(T sn X pn:List Bs)(e:EvC)(s:List Sn)(b1 b2 Y:U)(w:World)(hH:Bx w b1 (aD h))(hM:Bx w b2 #[.map (V Y)])(ξ:w.1[Y]?=V (.map (Hf h) 4))
  (χ:Row w 1 encStr h.t.a h.t.n h.t.c T) (ψ:Row w 1 encStr h.s.a h.s.n h.s.c sn) (ω:Row w 1 encStr h.o.a h.o.n h.o.c X) (Γ:Row w 1 encStr h.p.a h.p.n h.p.c pn) (Δ:Row w 3 cZ e.sa e.sn e.sc s)
  (he:fZ h.t.n h.s.n h.o.n h.p.n e s=true):
  Calls G 48 #[fT e,.pointer (V ⟨b1,0,O⟩),.pointer (V ⟨b2,0,O⟩)] w (sw (oM T sn X pn e s) w):=by
 have ο:aY e.t h.t.n=true:=by simp only[fZ,aM] at he;exact he.1.1.2
 obtain⟨x,hx⟩:∃x,x=nameOf T e.t:=⟨_,rfl⟩;have π:Below w.1.size w ((w.alloc (.cells (aR e) 49)).alloc (.cells #[.int .i64 0,.slice O 0 0,.int .i64 0,.slice O 0 0,M L,.int .i64 0] 77)):=aA (aA (Below.refl _ _) _) _;have j1:=(dS.1 ξ).1;have α:=C π;have HH:=C (hH.keep π);have HM:=C hM;have j2:=C ξ;have ρ:=C χ;have j3:=C ψ;have σ:=C ω;have j4:=C Γ;have τ:=C Δ;have HE:=C he;have z0:=C ο;have HX:=C hx;have Θ:∀t∈[e.t],aY t h.t.n=true:=λt ht=>by
  obtain rfl:t=e.t:=by simpa using ht
  exact ο
 have υ:Hid (∀(n:World)(g:U),Below w.1.size w n->Row n 1 aS (V ⟨g,0,O⟩) 1 1 [e.t]->Calls G 49 #[bC h,.slice (V ⟨g,0,O⟩) 1 1,.slice O 0 0] n (Hg n [x])):=C (λn g hb hg=>by
  have j:=Hl h T (V ⟨g,0,O⟩) 1 1 [e.t] O 0 [] n n (Below.refl _ _) hg (ρ.q.below hb rfl) Θ (Own.jv _ _ _ _ _) ak;rw[HX.q];exact j)
 clear π hH hM ξ χ ψ ω Γ Δ he ο hx Θ;go_enter func48,ntmps48;go_wp2_with fail;refine wp_mono (Q:=λee a Z=>ee= .normal/\∃v8 v9 Ξ Φ Ψ Ω q0 q1 b5 d f,QD e w x b5 d f Z/\a={tmps:=#[fT e,.pointer (V ⟨b1,0,O⟩),.pointer (V ⟨b2,0,O⟩),.pointer (V ⟨w.1.size,0,O⟩),.pointer (V ⟨w.1.size+1,0,O⟩),.pointer (V ⟨b5,0,O⟩),undef,undef,v8,v9,Ξ,Φ,Ψ,Ω,q0,q1,undef,undef,undef,undef,undef,undef,undef,undef,undef,undef,undef,undef,undef],defers:=[]}) ?reg ?rest
 case reg=>
  refine qW 9 (.q 0 0 (.q 1 0 (.q 2 0 (.q 3 0 (.q 4 0 (.alt 5 (.alt 6 (.q 7 0 (.l 8 (.l 9 .nil))) 8 (.l 6 (.q 7 0 (.l 9 .nil)))) 8 (.l 5 (.l 6 (.q 7 0 (.l 9 .nil)))))))))) (λ_=>True) (λn=>Bx n b1 (aD h)/\Bx n w.1.size (aR e)) ay ay H ⟨HH.q.drew,((I rfl).alloc _).drew⟩ ?_;refine qC ?_;refine⟨?_,?_⟩
  .refine gP rfl rfl (λK b=>?_)
   go_simp;refine b _ _ ⟨H,(HH.q.alloc _).drew,(((I rfl).alloc _).alloc _).drew⟩ ?_;clear b K;refine⟨?_,?_⟩
   .refine gP rfl rfl (λK b=>?_)
    go_simp;refine(υ.q _ _ (aA α.q _).drew (Row.drew (Row.QC ak e.t))).mono ?_;rintro en u ⟨d,f,rfl,δ,o⟩;have E:=C δ;have m:=C o;refine b _ _ ⟨H,(HH.q.alloc _).drew.keep o,(((I rfl).alloc _).alloc _).drew.keep o⟩ ?_;clear b K δ o;refine qC ?_;refine aF rfl rfl (λK b=>?_);go_simp;refine b _ _ ⟨H,((HH.q.alloc _).drew.keep m.q).alloc _,((((I rfl).alloc _).alloc _).drew.keep m.q).alloc _⟩ ?_;clear b K;refine aW rfl rfl rfl (λK b=>?_);go_simp;refine b _ _ H ?_;clear b K;refine aO ?_;have q2:w.1.size+3<=u.1.size:=by have:=m.q.size;simp at this;omega
    exact⟨rfl,_,_,_,_,_,_,_,_,_,d,f,⟨((((I rfl).alloc _).alloc _).drew.keep m.q).alloc _,(((I ak).alloc _).drew.keep m.q).alloc _,I rfl,(E.q.alloc _).mono (by simp;omega),λg hg=>by have j:=E.q.lt g hg;simp at j;omega,by omega,aA ((aA α.q _).drew.trans (m.q.mono ((aA α.q _).drew.size))) _⟩,rfl⟩
   .refine gP rfl rfl (λK b=>?_)
    go_simp;refine b _ _ ⟨H,((HH.q.alloc _).alloc _).drew,((((I rfl).alloc _).alloc _).alloc _).drew⟩ ?_;clear b K;refine aF rfl rfl (λK b=>?_);go_simp;refine(υ.q _ _ (aA (aA α.q _) _).drew (Row.drew ((Row.QC ak e.t).below (aA (Below.refl _ _) _) rfl))).mono ?_;rintro en u ⟨d,f,rfl,δ,o⟩;have E:=C δ;have m:=C o;refine b _ _ ⟨H,((HH.q.alloc _).alloc _).drew.keep o,((((I rfl).alloc _).alloc _).alloc _).drew.keep o⟩ ?_;clear b K δ o;refine qC ?_;have y:Bx u (w.1.size+3) (bM ⟨0,O,0,0,0,O,0,0,L,0⟩):=(I ak).drew.keep m.q;have j5:=y.1;have j6:=y.2.1;have j7:=y.2.2;refine aW rfl rfl rfl (λK b=>?_);go_simp;refine b _ _ H ?_;clear b K;refine aO ?_;have q3:=m.q;have q2:w.1.size+4<=u.1.size:=by have:=m.q.size;simp at this;omega
    have ε:∀Z,Same (λi=>i≠w.1.size+3) u Z->Bx Z (w.1.size+3) (bM (su e.kind d f))->QD e w x (w.1.size+3) d f Z:=λZ r h5=>
     ⟨r.bx (((((I rfl).alloc _).alloc _).alloc _).drew.keep m.q) ak,r.bx ((((I ak).alloc _).alloc _).drew.keep m.q) ak,h5,(E.q.same r (λg hg=>by have j:=(E.q.lt g hg).1;simp at j ⊢;omega)).mono (by simp;omega),
      λg hg=>by have j:=(E.q.lt g hg).1;simp at j;omega,by omega,r.below ((aA (aA α.q _) _).drew.trans (m.q.mono ((aA (aA α.q _) _).drew.size))) (λi hi=>by simp;omega) ah⟩
    exact⟨rfl,_,_,_,_,_,_,_,_,_,d,f,ε _ (by repeat(first|(refine Same.setTail ?_ ak)|(with_reducible exact Same.refl' _))) (Bx.QE (l':=su e.kind d f) y),rfl⟩
  .refine gP rfl rfl (λK b=>?_)
   go_simp;refine b _ _ ⟨H,(HH.q.alloc _).drew,(((I rfl).alloc _).alloc _).drew⟩ ?_;clear b K;refine aF rfl rfl (λK b=>?_);go_simp;refine b _ _ ⟨H,((HH.q.alloc _).alloc _).drew,((((I rfl).alloc _).alloc _).alloc _).drew⟩ ?_;clear b K;refine aF rfl rfl (λK b=>?_);go_simp;refine(υ.q _ _ (aA (aA α.q _) _).drew (Row.drew (Row.QC ak e.t))).mono ?_;rintro en u ⟨d,f,rfl,δ,o⟩;have E:=C δ;have m:=C o;refine b _ _ ⟨H,((HH.q.alloc _).alloc _).drew.keep o,((((I rfl).alloc _).alloc _).alloc _).drew.keep o⟩ ?_;clear b K δ o;refine qC ?_;have y:Bx u (w.1.size+2) (bM ⟨0,O,0,0,0,O,0,0,L,0⟩):=((I ak).alloc _).drew.keep m.q;have j5:=y.1;have j6:=y.2.1;have j7:=y.2.2;refine aW rfl rfl rfl (λK b=>?_);go_simp;refine b _ _ H ?_;clear b K;refine aO ?_;have q3:=m.q;have q2:w.1.size+4<=u.1.size:=by have:=m.q.size;simp at this;omega
   have ε:∀Z,Same (λi=>i≠w.1.size+2) u Z->Bx Z (w.1.size+2) (bM (su e.kind d f))->QD e w x (w.1.size+2) d f Z:=λZ r h5=>
    ⟨r.bx (((((I rfl).alloc _).alloc _).alloc _).drew.keep m.q) ak,r.bx ((((I ak).alloc _).alloc _).drew.keep m.q) ak,h5,(E.q.same r (λg hg=>by have j:=(E.q.lt g hg).1;simp at j ⊢;omega)).mono (by simp;omega),
     λg hg=>by have j:=(E.q.lt g hg).1;simp at j;omega,by omega,r.below ((aA (aA α.q _) _).drew.trans (m.q.mono ((aA (aA α.q _) _).drew.size))) (λi hi=>by simp;omega) ah⟩
   exact⟨rfl,_,_,_,_,_,_,_,_,_,d,f,ε _ (by repeat(first|(refine Same.setTail ?_ ak)|(with_reducible exact Same.refl' _))) (Bx.QE (l':=su e.kind d f) y),rfl⟩
 case rest=>
  rintro ee a Z ⟨rfl,v8,v9,Ξ,Φ,Ψ,Ω,q0,q1,b5,d,f,z,rfl⟩;have q4:Z.1[Y]?=V (.map (Hf h) 4):=(z.bw.block Y j1).trans j2.q;have q3:=z.be.1;have z1:=(HM.q.keep z.bw).1;have y:=z.c5.1;have q5:=z.c5.2.1;have q6:=z.c5.2.2;have q7:=z.br.1;have q8:=z.br.2.1;have q9:=z.br.2.2;have c:=C z;have ι:=C q4;clear z q4;have ζ:(e.kind=1\/e.kind=2\/e.kind=3\/e.kind=4)\/(e.kind=5\/e.kind=6):=by
   have:=HE.q;simp only[fZ,aM,aV] at this;omega
  have j8:w.1.size+1≠b5:=by have:=c.q.le;omega
  obtain⟨ek,et,es,F,A,P,R,β,S,γ⟩:=e;simp only at ζ HX HE τ;have θ:=C (show fV Z w.1.size (su ek d f) ⟨ek,[x],0,[],L,0⟩ from⟨⟨rfl,rfl,rfl,rfl,rfl,rfl⟩,c.q.on,Own.jv _ _ _ _ _⟩);generalize η:oM T sn X pn ⟨ek,et,es,F,A,P,R,β,S,γ⟩ s=sE;rcases ζ with ζ|ζ
  .rcases ζ with rfl|rfl|rfl|rfl
   case' inl=>
    have μ:=Au h Y Z ι.q (.inl ⟨rfl,rfl⟩);have p:hasB h.t.n h.s.n h.o.n h.p.n ⟨1,et,es,F,A,P,R,β,S,γ⟩ s=true:=by have:=HE.q;simp only[fZ,aM] at this;exact this.1.2
    simp only[hasB,aM,bR] at p;have HC:=C (Ho h sn (su 1 d f) _ ⟨1,et,es,F,A,P,R,β,S,γ⟩ w Z c.q.bw j3.q p.1 θ.q ak);clear p;have HS:Hid (sE=⟨1,[x]++[nameOf sn es],F,[],L,0⟩):=C (by rw[<-η];simp[oM,HX.q])
   case' inr.inl=>
    have μ:=Au h Y Z ι.q (.inr (.inl ⟨rfl,rfl⟩));have p:hasB h.t.n h.s.n h.o.n h.p.n ⟨2,et,es,F,A,P,R,β,S,γ⟩ s=true:=by have:=HE.q;simp only[fZ,aM] at this;exact this.1.2
    simp only[hasB,aM,aV,bR,show((2:Int)=1)=False from by decide,reduceIte] at p;have HC:=C (Av h X (su 2 d f) _ ⟨2,et,es,F,A,P,R,β,S,γ⟩ w Z c.q.bw σ.q p.1.1.1 θ.q ak);clear p;have HS:Hid (sE=⟨2,[x]++[nameOf X A],0,[],L,0⟩):=C (by rw[<-η];simp[oM,HX.q])
   case' inr.inr.inl=>
    have μ:=Au h Y Z ι.q (.inr (.inr (.inl ⟨rfl,rfl⟩)));have p:hasB h.t.n h.s.n h.o.n h.p.n ⟨3,et,es,F,A,P,R,β,S,γ⟩ s=true:=by have:=HE.q;simp only[fZ,aM] at this;exact this.1.2
    simp only[hasB,aM,bR,show((3:Int)=1)=False from by decide,show((3:Int)=2)=False from by decide,reduceIte] at p;have HC:=C (JG h X T (su 3 d f) _ ⟨3,et,es,F,A,P,R,β,S,γ⟩ w Z c.q.bw σ.q ρ.q p.1 p.2 θ.q ak ak);clear p;have HS:Hid (sE=⟨3,[x]++[nameOf X A],0,[]++[lK T P],L,0⟩):=C (by rw[<-η];simp[oM,HX.q])
   case' inr.inr.inr=>
    have μ:=Au h Y Z ι.q (.inr (.inr (.inr (.inl ⟨rfl,rfl⟩))));have p:hasB h.t.n h.s.n h.o.n h.p.n ⟨4,et,es,F,A,P,R,β,S,γ⟩ s=true:=by have:=HE.q;simp only[fZ,aM] at this;exact this.1.2
    simp only[hasB,aM,dZ,aV,bR,show((4:Int)=1)=False from by decide,show((4:Int)=2)=False from by decide,show((4:Int)=3)=False from by decide,reduceIte] at p;have j0:S<=40:=by have:=τ.q.len;have:=p.1.2;simp only at*;omega
    have HC:=C (JH h pn X T (su 4 d f) _ ⟨4,et,es,F,A,P,R,β,S,γ⟩ s w Z c.q.bw j4.q σ.q ρ.q p.1.1 τ.q p.2 θ.q ak ak j0);clear p j0;have HS:Hid (sE=⟨4,[x]++[nameOf pn R]++s.map (λq=>nameOf X q.obj),0,[]++s.map (λq=>lK T q.v),L,0⟩):=C (by rw[<-η];simp[oM,HX.q])
   all_goals
    go_wp2_with fail;clear y q5 q6 q7 q8 q9;refine HC.q.mono ?_;rintro en u ⟨l2,rfl,ν,o,κ,φ⟩;have h5:=c.q.c5.of_eq κ.size (κ.block b5 c.q.c5.2.2 (λe=>(c.q.fn _ e.symm).2.2 rfl) (λe=>by cases e));have hr:=c.q.br.of_eq κ.size (κ.block _ c.q.br.2.2 (λe=>(c.q.fn _ e.symm).2.1 rfl) (λe=>by cases e));have hA:∀g,(Value.slice l2.na l2.nn l2.nc).ownBlock=V g->g≠w.1.size+1/\g≠b5:=λg hg=>by
     rcases φ.1 g hg with j|j
     .exact⟨(c.q.fn g j).2.1,(c.q.fn g j).2.2⟩
     .have:=c.q.c5.2.2;have:=c.q.br.2.2;constructor <;> omega
    have hB:∀g,(Value.slice l2.va l2.vn l2.vc).ownBlock=V g->g≠w.1.size+1/\g≠b5:=λg hg=>by
     rcases φ.2 g hg with j|j
     .cases j
     .have:=c.q.c5.2.2;have:=c.q.br.2.2;constructor <;> omega
    have ε:Hid (∀n,Same (λi=>i≠w.1.size+1/\i≠b5) u n->sw sE w (.returned (dU l2)) n):=C (λn r=>by
     rw[HS.q];exact⟨l2,rfl,⟨ν.1,ν.2.1.same r hA,ν.2.2.same r hB⟩,r.below o (λi hi=>by have:=c.q.le;constructor <;> omega) o.size⟩)
    have z2:=h5.1;have q5:=h5.2.1;have q6:=h5.2.2;have j9:=hr.1;have q8:=hr.2.1;have q9:=hr.2.2;have z3:b5≠w.1.size+1:=Ne.symm j8;clear ν o κ φ h5 hr hA hB;go_wp2_with fail;subst η;refine bodyPost_ret (v:=dU l2) (by simp[results,results48,go_sem,j9]) rfl (ε.q _ ?_)
    repeat(first|(refine Same.setTail ?_ ak)|(with_reducible exact Same.refl' _))
  .have FI:∀k,sE=⟨k,[x],0,[],L,0⟩->ek=k->∀n,Same (λi=>i≠w.1.size+1) Z n->sw sE w (.returned (dU (su k d f))) n:=λk j h2 n r=>by
    subst h2;rw[j];exact⟨su ek d f,rfl,⟨θ.q.1,θ.q.2.1.same r (λg hg=>(c.q.fn g hg).2.1),Own.jv _ _ _ _ _⟩,r.below c.q.bw (λi hi=>by simp;omega) c.q.bw.size⟩
   have μ:=Au h Y Z ι.q (.inr (.inr (.inr (.inr ⟨ζ,rfl⟩))));rcases ζ with rfl|rfl
   all_goals
    have ε:=C (FI _ (by rw[<-η];simp[oM,HX.q]) rfl);clear FI;go_wp2_with fail;subst η;refine bodyPost_ret (by simp[results,results48,go_sem,q7]) rfl (ε.q _ ?_)
    repeat(first|(refine Same.setTail ?_ ak)|(with_reducible exact Same.refl' _))
attribute [local go_sem] Oper.semAt_some
section
variable {J Jx:List aJ->World->Prop}{D:U->Prop}{ls:List aJ}{l B:U}{w0:World}{Ok:World->Prop}
theorem VF (Z:∀s X Y,J s X->Same (λ_=>True) X Y->J s Y)
  (hY:∀d x j X,J d X->d++[x]<+:ls->uU B x j X->B<=X.1.size->∀m,YieldAt Fence.wide m G l j X λe Y=>
   (e= .returned (M true)/\J (d++[x]) Y/\bA D X Y)\/(e= .returned (M L)/\Jx (d++[x]) Y/\bA D X Y))
  (α:∀X Y,Ok X->bA D X Y->Ok Y) (β:∀X Y,Ok X->Below X.1.size X Y->Ok Y) (γ:∀X,Ok X->Reads w0 X/\B<=X.1.size)
  (a:Option Addr) (n c:U) (xs:List EvC) (f:EvC->aJ) (v:U) (δ:Array Value) (eg:∀j w,(callFunc v j).run G w= .ok (.enter v j) w) (z:Row w0 9 dx a n c xs)
  (hs:∀x∈xs,∀X,Ok X->Calls G v (#[fT x]++δ) X (sw (f x) X))
  (d:List aJ) (ε:d++xs.map f<+:ls) (X:World) (hX:J d X) (ζ:Ok X) (m:U):
  CallsIn Fence.wide m G 54 #[.slice a n c,.func (.func v) #[] δ,.func (.yield l) #[] #[]] X λe Y=>
   (e= .returned (M true)/\J (d++xs.map f) Y/\Ok Y)\/(e= .returned (M L)/\∃p,p<+:ls/\Jx p Y):=by
 refine callsIn_of_wp func54 rfl H ?_ rfl;simp only[ntmps54,nK,dK,gY,Nat.reduceAdd,Nat.reduceSub,pE,pF,mJ,mK,fK,fA];have χ:=z.le;have A:=C z;have HS:=C hs;have HP:=C ε;have HJ:=C Z;have HY:=C hY;have HO:=C α;have η:=C β;have E:=C γ;have HX:=C hX;have τ:=C ζ;clear z hs ε Z hY α β γ hX ζ
 gi_wp2
 gi_loopw [11] (λi wr=>∃k:U,k<=n/\i= .int .i64 k/\J (d++(xs.take k).map f) wr/\Ok wr) (λi _=>n - (N i).toNat)
 case atStart=>exact⟨0,bn _,rfl,by simpa using HX.q,τ.q⟩
 case round=>
  obtain⟨k,hk,rfl,q,r⟩:=hrel;by_cases θ:k<n
  .obtain⟨x,b,o,y,rfl,g⟩:=(A.q.reads (E.q _ r).1).at_ θ
   have h0:=g 0 _ rfl;have h1:=g 1 _ rfl;have h2:=g 2 _ rfl;have h3:=g 3 _ rfl;have h4:=g 4 _ rfl;have h5:=g 5 _ rfl;have h6:=g 6 _ rfl;have h7:=g 7 _ rfl;have h8:=g 8 _ rfl;simp only[dB] at h0;have ψ:k<xs.length:=by rw[A.q.len];exact θ
   have t:xs.take (k+1)=xs.take k++[x]:=by
    rw[ig,y];rfl
   have ι:Hid ((d++(xs.take k).map f)++[f x]=d++(xs.take (k+1)).map f):=by rw[t];exact C ak
   have κ:Hid ((d++(xs.take k).map f)++[f x]<+:ls):=by
    rw[ι.q];exact C (List.IsPrefix.trans (by
     refine⟨(xs.drop (k+1)).map f,?_⟩;rw[dw,<-eY,qA]) HP.q)
   have F:Below wr.1.size wr (wr.alloc (.cells (aR x) 49)):=(Below.refl _ _).alloc (aB _) _;have K:=η.q _ _ r F;have μ:=HJ.q _ _ _ q (.of_below F (λi _ P=>P));have HC:=C (HS.q x (dA y) _ K);have ν:=C K;have υ:=C μ;have ω:=C y;clear g y r q K μ F t
   gi_wp2
   refine⟨H,λh=>(by cases h),?_⟩;refine(callsIn_wide.2 HC.q).mono ?_;rintro e w1 ⟨lc,rfl,ξ,Q⟩;have R:=η.q _ _ ν.q Q;have ο:=HJ.q _ _ _ υ.q (.of_below Q (λi _ P=>P));obtain⟨fn,Γ,Δ,Θ,hy,S⟩:=HY.q _ (f x) #[dU lc] w1 ο κ.q ⟨lc,rfl,ξ.mono (E.q _ ν.q).2⟩ (E.q _ R).2 (m - 1);have φ:=C R;clear R ο ξ Q
   gi_wp2
   refine⟨λh=>(by cases h),?_⟩;refine S.mono ?_;rintro e Y (⟨rfl,π,ρ⟩|⟨rfl,σ,_⟩)
   .clear S hy
    have u:=C π;have T:=C (HO.q _ _ φ.q ρ);clear π ρ
    gi_wp2
    go_roundw
    case rel=>exact⟨k+1,by omega,by go_num,by rw[<-ι.q];exact u.q,T.q⟩
    case measure=>simp[N];omega
   .clear S hy
    have u:=C σ;clear σ
    gi_wp2
    go_ret;exact .inr ⟨rfl,_,κ.q,u.q⟩
  .have Ξ:k=n:=by omega
   have t:xs.take k=xs:=gF (by rw[A.q.len];omega);rw[t] at q;have u:=C q;have T:=C r;clear q r t
   gi_wp2
   go_ret;exact .inl ⟨rfl,u.q,T.q⟩
theorem VG (Z:∀s X Y,J s X->Same (λ_=>True) X Y->J s Y)
  (hY:∀d x g X,J d X->d++[x]<+:ls->uU B x g X->B<=X.1.size->∀m,YieldAt Fence.wide m G l g X λe Y=>
   (e= .returned (M true)/\J (d++[x]) Y/\bA D X Y)\/(e= .returned (M L)/\Jx (d++[x]) Y/\bA D X Y))
  (α:∀X Y,Ok X->bA D X Y->Ok Y) (β:∀X Y,Ok X->Below X.1.size X Y->Ok Y) (γ:∀X,Ok X->Reads w0 X/\B<=X.1.size)
  (a:Option Addr) (n c:U) (xs:List aG) (f:aG->aJ) (u:U) (δ:Array Value) (eg:∀g w,(callFunc u g).run G w= .ok (.enter u g) w) (y:Row w0 2 dV a n c xs)
  (hs:∀x∈xs,∀X,Ok X->Calls G u (#[uV x]++δ) X (sw (f x) X))
  (d:List aJ) (ε:d++xs.map f<+:ls) (X:World) (hX:J d X) (ζ:Ok X) (m:U):
  CallsIn Fence.wide m G 55 #[.slice a n c,.func (.func u) #[] δ,.func (.yield l) #[] #[]] X λe Y=>
   (e= .returned (M true)/\J (d++xs.map f) Y/\Ok Y)\/(e= .returned (M L)/\∃p,p<+:ls/\Jx p Y):=by
 refine callsIn_of_wp func55 rfl H ?_ rfl;simp only[ntmps55,nK,dK,gY,Nat.reduceAdd,Nat.reduceSub,pE,pF,mJ,mK,fK,fA];have χ:=y.le;have z:=C y;have HS:=C hs;have HP:=C ε;have HJ:=C Z;have HY:=C hY;have HO:=C α;have η:=C β;have A:=C γ;have HX:=C hX;have τ:=C ζ;clear y hs ε Z hY α β γ hX ζ
 gi_wp2
 gi_loopw [11] (λi wr=>∃k:U,k<=n/\i= .int .i64 k/\J (d++(xs.take k).map f) wr/\Ok wr) (λi _=>n - (N i).toNat)
 case atStart=>exact⟨0,bn _,rfl,by simpa using HX.q,τ.q⟩
 case round=>
  obtain⟨k,hk,rfl,j,q⟩:=hrel;by_cases θ:k<n
  .obtain⟨x,b,o,v,rfl,E⟩:=(z.q.reads (A.q _ q).1).at_ θ
   have h0:=E 0 _ rfl;have h1:=E 1 _ rfl;simp only[dB] at h0;have ψ:k<xs.length:=by rw[z.q.len];exact θ
   have r:xs.take (k+1)=xs.take k++[x]:=by
    rw[ig,v];rfl
   have ι:Hid ((d++(xs.take k).map f)++[f x]=d++(xs.take (k+1)).map f):=by rw[r];exact C ak
   have κ:Hid ((d++(xs.take k).map f)++[f x]<+:ls):=by
    rw[ι.q];exact C (List.IsPrefix.trans (by
     refine⟨(xs.drop (k+1)).map f,?_⟩;rw[dw,<-eY,qA]) HP.q)
   have F:Below wr.1.size wr (wr.alloc (.cells (EB x) 57)):=(Below.refl _ _).alloc (aB _) _;have K:=η.q _ _ q F;have μ:=HJ.q _ _ _ j (.of_below F (λi _ P=>P));have HC:=C (HS.q x (dA v) _ K);have ν:=C K;have υ:=C μ;have ω:=C v;clear E v q j K μ F r
   gi_wp2
   refine⟨H,λh=>(by cases h),?_⟩;refine(callsIn_wide.2 HC.q).mono ?_;rintro e w1 ⟨lc,rfl,ξ,Q⟩;have R:=η.q _ _ ν.q Q;have ο:=HJ.q _ _ _ υ.q (.of_below Q (λi _ P=>P));obtain⟨fn,Γ,Δ,Θ,hy,S⟩:=HY.q _ (f x) #[dU lc] w1 ο κ.q ⟨lc,rfl,ξ.mono (A.q _ ν.q).2⟩ (A.q _ R).2 (m - 1);have φ:=C R;clear R ο ξ Q
   gi_wp2
   refine⟨λh=>(by cases h),?_⟩;refine S.mono ?_;rintro e Y (⟨rfl,π,ρ⟩|⟨rfl,σ,_⟩)
   .clear S hy
    have t:=C π;have T:=C (HO.q _ _ φ.q ρ);clear π ρ
    gi_wp2
    go_roundw
    case rel=>exact⟨k+1,by omega,by go_num,by rw[<-ι.q];exact t.q,T.q⟩
    case measure=>simp[N];omega
   .clear S hy
    have t:=C σ;clear σ
    gi_wp2
    go_ret;exact .inr ⟨rfl,_,κ.q,t.q⟩
  .have Ξ:k=n:=by omega
   have r:xs.take k=xs:=gF (by rw[z.q.len];omega);rw[r] at j;have t:=C j;have T:=C q;clear j q r
   gi_wp2
   go_ret;exact .inl ⟨rfl,t.q,T.q⟩
theorem VH (Z:∀s X Y,J s X->Same (λ_=>True) X Y->J s Y)
  (hY:∀d x g X,J d X->d++[x]<+:ls->uU B x g X->B<=X.1.size->∀m,YieldAt Fence.wide m G l g X λe Y=>
   (e= .returned (M true)/\J (d++[x]) Y/\bA D X Y)\/(e= .returned (M L)/\Jx (d++[x]) Y/\bA D X Y))
  (α:∀X Y,Ok X->bA D X Y->Ok Y) (β:∀X Y,Ok X->Below X.1.size X Y->Ok Y) (γ:∀X,Ok X->Reads w0 X/\B<=X.1.size)
  (a:Option Addr) (n c:U) (xs:List aK) (f:aK->aJ) (v:U) (δ:Array Value) (eg:∀g w,(callFunc v g).run G w= .ok (.enter v g) w) (z:Row w0 4 eB a n c xs)
  (hs:∀x∈xs,∀X,Ok X->Calls G v (#[uW x]++δ) X (sw (f x) X))
  (d:List aJ) (ε:d++xs.map f<+:ls) (X:World) (hX:J d X) (ζ:Ok X) (m:U):
  CallsIn Fence.wide m G 56 #[.slice a n c,.func (.func v) #[] δ,.func (.yield l) #[] #[]] X λe Y=>
   (e= .returned (M true)/\J (d++xs.map f) Y/\Ok Y)\/(e= .returned (M L)/\∃p,p<+:ls/\Jx p Y):=by
 refine callsIn_of_wp func56 rfl H ?_ rfl;simp only[ntmps56,nK,dK,gY,Nat.reduceAdd,Nat.reduceSub,pE,pF,mJ,mK,fK,fA];have χ:=z.le;have A:=C z;have HS:=C hs;have HP:=C ε;have HJ:=C Z;have HY:=C hY;have HO:=C α;have η:=C β;have E:=C γ;have HX:=C hX;have τ:=C ζ;clear z hs ε Z hY α β γ hX ζ
 gi_wp2
 gi_loopw [11] (λi wr=>∃k:U,k<=n/\i= .int .i64 k/\J (d++(xs.take k).map f) wr/\Ok wr) (λi _=>n - (N i).toNat)
 case atStart=>exact⟨0,bn _,rfl,by simpa using HX.q,τ.q⟩
 case round=>
  obtain⟨k,hk,rfl,j,q⟩:=hrel;by_cases θ:k<n
  .obtain⟨x,b,o,y,rfl,r⟩:=(A.q.reads (E.q _ q).1).at_ θ
   have h0:=r 0 _ rfl;have h1:=r 1 _ rfl;have h2:=r 2 _ rfl;have h3:=r 3 _ rfl;simp only[dB] at h0;have ψ:k<xs.length:=by rw[A.q.len];exact θ
   have t:xs.take (k+1)=xs.take k++[x]:=by
    rw[ig,y];rfl
   have ι:Hid ((d++(xs.take k).map f)++[f x]=d++(xs.take (k+1)).map f):=by rw[t];exact C ak
   have κ:Hid ((d++(xs.take k).map f)++[f x]<+:ls):=by
    rw[ι.q];exact C (List.IsPrefix.trans (by
     refine⟨(xs.drop (k+1)).map f,?_⟩;rw[dw,<-eY,qA]) HP.q)
   have F:Below wr.1.size wr (wr.alloc (.cells (EC x) 60)):=(Below.refl _ _).alloc (aB _) _;have K:=η.q _ _ q F;have μ:=HJ.q _ _ _ j (.of_below F (λi _ P=>P));have HC:=C (HS.q x (dA y) _ K);have ν:=C K;have υ:=C μ;have ω:=C y;clear r y q j K μ F t
   gi_wp2
   refine⟨H,λh=>(by cases h),?_⟩;refine(callsIn_wide.2 HC.q).mono ?_;rintro e w1 ⟨lc,rfl,ξ,Q⟩;have R:=η.q _ _ ν.q Q;have ο:=HJ.q _ _ _ υ.q (.of_below Q (λi _ P=>P));obtain⟨fn,Γ,Δ,Θ,hy,S⟩:=HY.q _ (f x) #[dU lc] w1 ο κ.q ⟨lc,rfl,ξ.mono (E.q _ ν.q).2⟩ (E.q _ R).2 (m - 1);have φ:=C R;clear R ο ξ Q
   gi_wp2
   refine⟨λh=>(by cases h),?_⟩;refine S.mono ?_;rintro e Y (⟨rfl,π,ρ⟩|⟨rfl,σ,_⟩)
   .clear S hy
    have u:=C π;have T:=C (HO.q _ _ φ.q ρ);clear π ρ
    gi_wp2
    go_roundw
    case rel=>exact⟨k+1,by omega,by go_num,by rw[<-ι.q];exact u.q,T.q⟩
    case measure=>simp[N];omega
   .clear S hy
    have u:=C σ;clear σ
    gi_wp2
    go_ret;exact .inr ⟨rfl,_,κ.q,u.q⟩
  .have Ξ:k=n:=by omega
   have t:xs.take k=xs:=gF (by rw[A.q.len];omega);rw[t] at j;have u:=C j;have T:=C q;clear j q t
   gi_wp2
   go_ret;exact .inl ⟨rfl,u.q,T.q⟩
theorem VI (Z:∀s X Y,J s X->Same (λ_=>True) X Y->J s Y)
  (hY:∀d x g X,J d X->d++[x]<+:ls->uU B x g X->B<=X.1.size->∀m,YieldAt Fence.wide m G l g X λe Y=>
   (e= .returned (M true)/\J (d++[x]) Y/\bA D X Y)\/(e= .returned (M L)/\Jx (d++[x]) Y/\bA D X Y))
  (α:∀X Y,Ok X->bA D X Y->Ok Y) (β:∀X Y,Ok X->Below X.1.size X Y->Ok Y) (γ:∀X,Ok X->Reads w0 X/\B<=X.1.size)
  (a:Option Addr) (n c:U) (xs:List Wa) (f:Wa->aJ) (u:U) (δ:Array Value) (eg:∀g w,(callFunc u g).run G w= .ok (.enter u g) w) (y:Row w0 2 fE a n c xs)
  (hs:∀x∈xs,∀X,Ok X->Calls G u (#[uX x]++δ) X (sw (f x) X))
  (d:List aJ) (ε:d++xs.map f<+:ls) (X:World) (hX:J d X) (ζ:Ok X) (m:U):
  CallsIn Fence.wide m G 57 #[.slice a n c,.func (.func u) #[] δ,.func (.yield l) #[] #[]] X λe Y=>
   (e= .returned (M true)/\J (d++xs.map f) Y/\Ok Y)\/(e= .returned (M L)/\∃p,p<+:ls/\Jx p Y):=by
 refine callsIn_of_wp func57 rfl H ?_ rfl;simp only[ntmps57,nK,dK,gY,Nat.reduceAdd,Nat.reduceSub,pE,pF,mJ,mK,fK,fA];have χ:=y.le;have z:=C y;have HS:=C hs;have HP:=C ε;have HJ:=C Z;have HY:=C hY;have HO:=C α;have η:=C β;have A:=C γ;have HX:=C hX;have τ:=C ζ;clear y hs ε Z hY α β γ hX ζ
 gi_wp2
 gi_loopw [11] (λi wr=>∃k:U,k<=n/\i= .int .i64 k/\J (d++(xs.take k).map f) wr/\Ok wr) (λi _=>n - (N i).toNat)
 case atStart=>exact⟨0,bn _,rfl,by simpa using HX.q,τ.q⟩
 case round=>
  obtain⟨k,hk,rfl,j,q⟩:=hrel;by_cases θ:k<n
  .obtain⟨x,b,o,v,rfl,E⟩:=(z.q.reads (A.q _ q).1).at_ θ
   have h0:=E 0 _ rfl;have h1:=E 1 _ rfl;simp only[dB] at h0;have ψ:k<xs.length:=by rw[z.q.len];exact θ
   have r:xs.take (k+1)=xs.take k++[x]:=by
    rw[ig,v];rfl
   have ι:Hid ((d++(xs.take k).map f)++[f x]=d++(xs.take (k+1)).map f):=by rw[r];exact C ak
   have κ:Hid ((d++(xs.take k).map f)++[f x]<+:ls):=by
    rw[ι.q];exact C (List.IsPrefix.trans (by
     refine⟨(xs.drop (k+1)).map f,?_⟩;rw[dw,<-eY,qA]) HP.q)
   have F:Below wr.1.size wr (wr.alloc (.cells (ED x) 63)):=(Below.refl _ _).alloc (aB _) _;have K:=η.q _ _ q F;have μ:=HJ.q _ _ _ j (.of_below F (λi _ P=>P));have HC:=C (HS.q x (dA v) _ K);have ν:=C K;have υ:=C μ;have ω:=C v;clear E v q j K μ F r
   gi_wp2
   refine⟨H,λh=>(by cases h),?_⟩;refine(callsIn_wide.2 HC.q).mono ?_;rintro e w1 ⟨lc,rfl,ξ,Q⟩;have R:=η.q _ _ ν.q Q;have ο:=HJ.q _ _ _ υ.q (.of_below Q (λi _ P=>P));obtain⟨fn,Γ,Δ,Θ,hy,S⟩:=HY.q _ (f x) #[dU lc] w1 ο κ.q ⟨lc,rfl,ξ.mono (A.q _ ν.q).2⟩ (A.q _ R).2 (m - 1);have φ:=C R;clear R ο ξ Q
   gi_wp2
   refine⟨λh=>(by cases h),?_⟩;refine S.mono ?_;rintro e Y (⟨rfl,π,ρ⟩|⟨rfl,σ,_⟩)
   .clear S hy
    have t:=C π;have T:=C (HO.q _ _ φ.q ρ);clear π ρ
    gi_wp2
    go_roundw
    case rel=>exact⟨k+1,by omega,by go_num,by rw[<-ι.q];exact t.q,T.q⟩
    case measure=>simp[N];omega
   .clear S hy
    have t:=C σ;clear σ
    gi_wp2
    go_ret;exact .inr ⟨rfl,_,κ.q,t.q⟩
  .have Ξ:k=n:=by omega
   have r:xs.take k=xs:=gF (by rw[z.q.len];omega);rw[r] at j;have t:=C j;have T:=C q;clear j q r
   gi_wp2
   go_ret;exact .inl ⟨rfl,t.q,T.q⟩
end
end Yd
namespace Yd
open Option renaming some->C,none->M
open Go Go.RowKit Go.Proofs Tryz
open Go renaming World->U
open Go.IntKind renaming i64->I
open Go.Obj renaming cells->O
open Go.Value renaming pointer->B,int->H
open Tryz renaming prog->G
open _root_ renaming trivial->L,List->N,Nat->V
variable{X:U}{b:V}
theorem Bz {es:Array MapEntry}{c:V}{o':Obj}(a:X.1.size=b):(setObj b o').run G (X.alloc (.map es c))= .ok () (X.alloc o'):=by
 subst a;have d:(X.alloc (.map es c)).putObj X.1.size o'=X.alloc o':=by
  unfold World.putObj World.alloc
  congr 1
  apply Array.ext'
  simp
 have e:(X.alloc (.map es c)).1[X.1.size]?=C (.map es c):=nV rfl;have f:(setObj X.1.size o').run G (X.alloc (.map es c))= .ok () ((X.alloc (.map es c)).putObj X.1.size o'):=by
  simp only[setObj,Sem.run,World.putObj,e]
 rw[f,d]
theorem Bx.uY {W:U}{cs:Array Value}{T:TypeId}(a:W.1[b]?=C (O cs T (0,0))):Bx W b cs:=by
 refine⟨λi=>?_,λi=>?_,(dS.1 a).1⟩
 .unfold World.cell?;simp[a]
 .unfold World.frozen?;simp[a]
structure oN (h:HC)(b:V)(W:U):Prop where
 o0:W.1[b]?=C (O (aD h) 73 (0,0))
 o1:W.1[b+1]?=C (.map (Hf h) 4)
 o2:W.1[b+2]?=C (O #[.map (C (b+1))] 111 (0,0))
 o3:W.1[b+3]?=C (O #[.func (.func 48) #[] #[B (C ⟨b,0,M⟩),B (C ⟨b+2,0,M⟩)]] 114 (0,0))
 o4:W.1[b+4]?=C (O #[.func (.func 50) #[] #[B (C ⟨b,0,M⟩)]] 115 (0,0))
 o5:W.1[b+5]?=C (O #[.func (.func 51) #[] #[B (C ⟨b,0,M⟩)]] 116 (0,0))
 o6:W.1[b+6]?=C (O #[.func (.func 52) #[] #[B (C ⟨b,0,M⟩)]] 117 (0,0))
theorem oN.keep {m:HC}{Y:U}(s:oN m b X)(a:∀i,b<=i->i<b+7->Y.1[i]?=X.1[i]?):oN m b Y:=
 ⟨(a _ ah ah).trans s.o0,(a _ ah ah).trans s.o1,(a _ ah ah).trans s.o2,(a _ ah ah).trans s.o3,(a _ ah ah).trans s.o4,(a _ ah ah).trans s.o5,(a _ ah ah).trans s.o6⟩
theorem oN.lt {m:HC}(s:oN m b X):b+7<=X.1.size:=by have:=(dS.1 s.o6).1;omega
theorem Yr (a:HC)(X:U)(b:V)(d:X.1.size=b):(Instr.mapUpdate 111 (.map (C b)) (H I 1) (.func (.func 44) #[bC a] #[])).run G (X.alloc (.map #[] 0))= .ok () (X.alloc (.map #[⟨H I 1,.func (.func 44) #[bC a] #[],0⟩] 1)):=by
 have hg:=get_map (nV (o:= .map #[] 0) d);have e:=λf=>Bz (es:=#[]) (c:=0) (o':=f) d
 simp[Instr.mapUpdate,hg,e,yI,Instr.findKey,Instr.findNow,Result.andThen]
theorem Yt (a:HC)(X:U)(b:V)(d:X.1.size=b):(Instr.mapUpdate 111 (.map (C b)) (H I 2) (.func (.func 45) #[bC a] #[])).run G (X.alloc (.map #[⟨H I 1,.func (.func 44) #[bC a] #[],0⟩] 1))= .ok () (X.alloc (.map #[⟨H I 1,.func (.func 44) #[bC a] #[],0⟩,⟨H I 2,.func (.func 45) #[bC a] #[],1⟩] 2)):=by
 have hg:=get_map (nV (o:= .map #[⟨H I 1,.func (.func 44) #[bC a] #[],0⟩] 1) d);have e:=λf=>Bz (es:=#[⟨H I 1,.func (.func 44) #[bC a] #[],0⟩]) (c:=1) (o':=f) d
 simp[Instr.mapUpdate,hg,e,yI,Instr.findKey,Instr.findNow,Instr.sameNow,Result.andThen]
theorem Yu (a:HC)(X:U)(b:V)(d:X.1.size=b):(Instr.mapUpdate 111 (.map (C b)) (H I 3) (.func (.func 46) #[bC a] #[])).run G (X.alloc (.map #[⟨H I 1,.func (.func 44) #[bC a] #[],0⟩,⟨H I 2,.func (.func 45) #[bC a] #[],1⟩] 2))= .ok () (X.alloc (.map #[⟨H I 1,.func (.func 44) #[bC a] #[],0⟩,⟨H I 2,.func (.func 45) #[bC a] #[],1⟩,⟨H I 3,.func (.func 46) #[bC a] #[],2⟩] 3)):=by
 have hg:=get_map (nV (o:= .map #[⟨H I 1,.func (.func 44) #[bC a] #[],0⟩,⟨H I 2,.func (.func 45) #[bC a] #[],1⟩] 2) d);have e:=λf=>Bz (es:=#[⟨H I 1,.func (.func 44) #[bC a] #[],0⟩,⟨H I 2,.func (.func 45) #[bC a] #[],1⟩]) (c:=2) (o':=f) d
 simp[Instr.mapUpdate,hg,e,yI,Instr.findKey,Instr.findNow,Instr.sameNow,Result.andThen]
theorem Yv (a:HC)(X:U)(b:V)(d:X.1.size=b):(Instr.mapUpdate 111 (.map (C b)) (H I 4) (.func (.func 47) #[bC a] #[])).run G (X.alloc (.map #[⟨H I 1,.func (.func 44) #[bC a] #[],0⟩,⟨H I 2,.func (.func 45) #[bC a] #[],1⟩,⟨H I 3,.func (.func 46) #[bC a] #[],2⟩] 3))= .ok () (X.alloc (.map #[⟨H I 1,.func (.func 44) #[bC a] #[],0⟩,⟨H I 2,.func (.func 45) #[bC a] #[],1⟩,⟨H I 3,.func (.func 46) #[bC a] #[],2⟩,⟨H I 4,.func (.func 47) #[bC a] #[],3⟩] 4)):=by
 have hg:=get_map (nV (o:= .map #[⟨H I 1,.func (.func 44) #[bC a] #[],0⟩,⟨H I 2,.func (.func 45) #[bC a] #[],1⟩,⟨H I 3,.func (.func 46) #[bC a] #[],2⟩] 3) d);have e:=λf=>Bz (es:=#[⟨H I 1,.func (.func 44) #[bC a] #[],0⟩,⟨H I 2,.func (.func 45) #[bC a] #[],1⟩,⟨H I 3,.func (.func 46) #[bC a] #[],2⟩]) (c:=3) (o':=f) d
 simp[Instr.mapUpdate,hg,e,yI,Instr.findKey,Instr.findNow,Instr.sameNow,Result.andThen]
theorem Hq (a:HC)(w:U):Calls G 21 #[bC a] w λe W=>
  e= .returned (.func (.func 53) #[] #[B (C ⟨w.1.size,0,M⟩),B (C ⟨w.1.size+3,0,M⟩),B (C ⟨w.1.size+4,0,M⟩),B (C ⟨w.1.size+5,0,M⟩),B (C ⟨w.1.size+6,0,M⟩)])/\
  W.1.size=w.1.size+7/\Below w.1.size w W/\oN a w.1.size W:=by
 have b:= @run_makeMap G;have c:=Yr a (w.alloc (O (aD a) 73)) (w.1.size+1) ak;have d:=Yt a (w.alloc (O (aD a) 73)) (w.1.size+1) ak;have f:=Yu a (w.alloc (O (aD a) 73)) (w.1.size+1) ak;have g:=Yv a (w.alloc (O (aD a) 73)) (w.1.size+1) ak;go_enter Tryz.func21,Tryz.ntmps21;go_wp2_with fail;go_ret;refine⟨rfl,by simp,aA (aA (aA (aA (aA (aA (aA (Below.refl _ _) _) _) _) _) _) _) _,?_⟩;exact⟨jh _ (jh _ (jh _ (jh _ (jh _ (jh _ (nV rfl)))))),jh _ (jh _ (jh _ (jh _ (jh _ (nV ak))))),jh _ (jh _ (jh _ (jh _ (nV ak)))),
  jh _ (jh _ (jh _ (nV ak))),jh _ (jh _ (nV ak)),jh _ (nV ak),nV ak⟩
def fD (a:V->N Bs)(es:N EvC)(b:N aG)(c:N aK)(d:N Wa)(f:EvC->N Sn)(g:aG->N Int)(i:aK->N Int):N aJ:=
 es.map (λe=>oM (a 0) (a 1) (a 2) (a 3) e (f e))++b.map (λx=>tH (a 2) (a 0) x (g x))++c.map (λx=>tJ (a 3) (a 2) (a 0) x (i x))++d.map (vW (a 1))
theorem T9:∀args w,(callFunc 48 args).run G w= .ok (.enter 48 args) w:=enters_of func48 ay rfl
theorem Ua:∀args w,(callFunc 50 args).run G w= .ok (.enter 50 args) w:=enters_of func50 ay rfl
theorem Ub:∀args w,(callFunc 51 args).run G w= .ok (.enter 51 args) w:=enters_of func51 ay rfl
theorem Uc:∀args w,(callFunc 52 args).run G w= .ok (.enter 52 args) w:=enters_of func52 ay rfl
theorem Kk:∀args w,(callFunc 53 args).run G w= .ok (.enter 53 args) w:=enters_of func53 ay rfl
attribute [local go_sem] Oper.semAt_some
def sI (a:HC)(b:V)(c W X:U):Prop:=oN a b X/\Reads c X/\W.1.size<=X.1.size
theorem DT (d:HC)(c:V->N Bs)(es:N EvC)(y:N aG)(z:N aK)(A:N Wa)(q:EvC->N Sn)(r:aG->N Int)(t:aK->N Int)(b:V)(D:V->Prop)(g W:U)
  (S:∀i,i<4->Row g 1 encStr (d.nm i).a (d.nm i).n (d.nm i).c (c i)) (F:Deep g d es y z A q r t) (ο:gB d c es y z A q r t=true) (hL:oN d b W) (hR:Reads g W) (hw:g.1.size<=W.1.size)
  (π:∀i,i<g.1.size->D i) (ρ:∀i,b<=i->i<b+7->D i):
  Iter G 53 #[B (C ⟨b,0,M⟩),B (C ⟨b+3,0,M⟩),B (C ⟨b+4,0,M⟩),B (C ⟨b+5,0,M⟩),B (C ⟨b+6,0,M⟩)] (uU W.1.size) 0 D (fD c es y z A q r t) W:=by
 intro n l J Jx hJ q3 hY h0;have T:∀s X Y,J s X->Same (λ_=>True) X Y->J s Y:=λs X Y hj hs=>hJ s X Y hj (hs.mono (λ_ _ _=>L))
 have Z:∀X Y,sI d b g W X->bA D X Y->sI d b g W Y:=λX Y f k=>⟨f.1.keep (λi j h2=>k.2 i (ρ i j h2) (by have:=f.1.lt;omega)),f.2.1.keep k π (bI hw f.2.2),bI f.2.2 k.1⟩
 have α:∀X Y,sI d b g W X->Below X.1.size X Y->sI d b g W Y:=λX Y f k=>⟨f.1.keep (λi j h2=>k.block i (by have:=f.1.lt;omega)),λa v hc=>(k.cell (dQ (f.2.1 a v hc))).trans (f.2.1 a v hc),bI f.2.2 k.size⟩
 have β:∀X,sI d b g W X->Reads g X/\W.1.size<=X.1.size:=λX f=>f.2
 have γ:∀u x ε X,J u X->u++[x]<+:(fD c es y z A q r t)->uU W.1.size x ε X->W.1.size<=X.1.size->∀m,YieldAt Fence.wide m G l ε X λe Y=>
   (e= .returned (.bool true)/\J (u++[x]) Y/\bA D X Y)\/(e= .returned (.bool false)/\Jx (u++[x]) Y/\bA D X Y):=λu x ε X j h2 h3 h4=>hY u x ε X j h2 h3 h4
 simp only[gB,ni,aM,dZ] at ο;obtain⟨⟨⟨⟨_,σ⟩,τ⟩,υ⟩,φ⟩:=ο;have ζ:∀X,sI d b g W X->Row X 1 encStr d.t.a d.t.n d.t.c (c 0):=λX f=>(S 0 aj).reads f.2.1
 have θ:∀X,sI d b g W X->Row X 1 encStr d.s.a d.s.n d.s.c (c 1):=λX f=>(S 1 aj).reads f.2.1
 have η:∀X,sI d b g W X->Row X 1 encStr d.o.a d.o.n d.o.c (c 2):=λX f=>(S 2 aj).reads f.2.1
 have ι:∀X,sI d b g W X->Row X 1 encStr d.p.a d.p.n d.p.c (c 3):=λX f=>(S 3 aj).reads f.2.1
 have δ:∀X,sI d b g W X->Bx X b (aD d):=λX f=>Bx.uY f.1.o0
 have HE:=hid (λu o X K f m=>VF (J:=J) (Jx:=Jx) (D:=D) (Ok:=sI d b g W) T γ Z α β d.e.a d.e.n d.e.c es (λe=>oM (c 0) (c 1) (c 2) (c 3) e (q e)) 48 #[B (C ⟨b,0,M⟩),B (C ⟨b+2,0,M⟩)] T9 F.1
  (λe he X f=>VE d (c 0) (c 1) (c 2) (c 3) e (q e) b (b+2) (b+1) X (δ X f) (Bx.uY f.1.o2) f.1.o1 (ζ X f) (θ X f) (η X f) (ι X f) ((F.2.2.2.2.1 e he).reads f.2.1) (σ e he)) u o X K f m)
 have HD:=hid (λu o X K f m=>VG (J:=J) (Jx:=Jx) (D:=D) (Ok:=sI d b g W) T γ Z α β d.d.a d.d.n d.d.c y (λx=>tH (c 2) (c 0) x (r x)) 50 #[B (C ⟨b,0,M⟩)] Ua F.2.1
  (λx P X f=>by
   have j:=τ x P;simp only[Cz,aM] at j;exact VJ d (c 2) (c 0) x (r x) b X (δ X f) (η X f) (ζ X f) ((F.2.2.2.2.2.1 x P).reads f.2.1) j.2 j.1) u o X K f m)
 have HM:=hid (λu o X K f m=>VH (J:=J) (Jx:=Jx) (D:=D) (Ok:=sI d b g W) T γ Z α β d.m.a d.m.n d.m.c z (λx=>tJ (c 3) (c 2) (c 0) x (t x)) 51 #[B (C ⟨b,0,M⟩)] Ub F.2.2.1
  (λx P X f=>by
   have j:=υ x P;simp only[CB,aM] at j;exact VK d (c 3) (c 2) (c 0) x (t x) b X (δ X f) (ι X f) (η X f) (ζ X f) ((F.2.2.2.2.2.2 x P).reads f.2.1) j.2 j.1.1 j.1.2) u o X K f m)
 have HV:=hid (λu o X K f m=>VI (J:=J) (Jx:=Jx) (D:=D) (Ok:=sI d b g W) T γ Z α β d.w.a d.w.n d.w.c A (vW (c 1)) 52 #[B (C ⟨b,0,M⟩)] Uc F.2.2.2.1
  (λx P X f=>by
   have j:=φ x P;simp only[zh,aM] at j;exact VL d (c 1) x b X (δ X f) (θ X f) j.1.1) u o X K f m)
 have κ:Hid (sI d b g W W):=hid ⟨hL,hR,aB _⟩;have q4:=hid h0;clear hJ q3 hY h0 T Z α β γ σ τ υ φ ζ θ η ι δ S F hL hR hw π ρ;refine callsIn_of_wp func53 rfl L ?_ rfl;simp only[ntmps53,nK,dK,gY,Nat.reduceAdd,Nat.reduceSub,pE,pF,mJ,mK,fK,fA];have Q:=(Bx.uY κ.q.1.o0).1;have q5:=(Bx.uY κ.q.1.o3).1;have χ:[]++es.map (λe=>oM (c 0) (c 1) (c 2) (c 3) e (q e))<+:fD c es y z A q r t:=⟨y.map (λx=>tH (c 2) (c 0) x (r x))++(z.map (λx=>tJ (c 3) (c 2) (c 0) x (t x))++A.map (vW (c 1))),by simp only[fD,fK,dw]⟩;have ψ:([]++es.map (λe=>oM (c 0) (c 1) (c 2) (c 3) e (q e)))++y.map (λx=>tH (c 2) (c 0) x (r x))<+:fD c es y z A q r t:=⟨z.map (λx=>tJ (c 3) (c 2) (c 0) x (t x))++A.map (vW (c 1)),by simp only[fD,fK,dw]⟩;have ω:(([]++es.map (λe=>oM (c 0) (c 1) (c 2) (c 3) e (q e)))++y.map (λx=>tH (c 2) (c 0) x (r x)))++z.map (λx=>tJ (c 3) (c 2) (c 0) x (t x))<+:fD c es y z A q r t:=⟨A.map (vW (c 1)),by simp only[fD,fK,dw]⟩;have Γ:((([]++es.map (λe=>oM (c 0) (c 1) (c 2) (c 3) e (q e)))++y.map (λx=>tH (c 2) (c 0) x (r x)))++z.map (λx=>tJ (c 3) (c 2) (c 0) x (t x)))++A.map (vW (c 1))=fD c es y z A q r t:=by simp only[fD,fK,dw]
 have q6:=hid χ;have q7:=hid ψ;have q8:=hid ω;have Δ:=hid Γ;clear χ ψ ω Γ
 gi_wp2_with fail
 refine⟨L,λd=>(by cases d),?_⟩;refine(HE.q [] q6.q W q4.q κ.q (n - 1)).mono ?_;clear Q q5;rintro e Y1 (⟨rfl,Θ,Ξ⟩|⟨rfl,p,o,E⟩)
 .have q9:=hid Θ;have μ:=hid Ξ;clear Θ Ξ
  have Q:=(Bx.uY μ.q.1.o0).1;have j0:=(Bx.uY μ.q.1.o4).1
  gi_wp2_with fail
  refine⟨L,λd=>(by cases d),?_⟩;clear Q j0;refine(HD.q _ q7.q Y1 q9.q μ.q (n - 1)).mono ?_;rintro e Y2 (⟨rfl,Φ,Ψ⟩|⟨rfl,p,o,E⟩)
  .have j1:=hid Φ;have ν:=hid Ψ;clear Φ Ψ
   have Q:=(Bx.uY ν.q.1.o0).1;have j2:=(Bx.uY ν.q.1.o5).1
   gi_wp2_with fail
   refine⟨L,λd=>(by cases d),?_⟩;clear Q j2;refine(HM.q _ q8.q Y2 j1.q ν.q (n - 1)).mono ?_;rintro e Y3 (⟨rfl,Ω,q0⟩|⟨rfl,p,o,E⟩)
   .have j3:=hid Ω;have ξ:=hid q0;clear Ω q0
    have Q:=(Bx.uY ξ.q.1.o0).1;have j4:=(Bx.uY ξ.q.1.o6).1
    gi_wp2_with fail
    refine⟨L,λd=>(by cases d),?_⟩;clear Q j4;refine(HV.q _ (Δ.q▸List.prefix_rfl) Y3 j3.q ξ.q (n - 1)).mono ?_;rintro e Y4 (⟨rfl,q1,q2⟩|⟨rfl,p,o,E⟩)
    .have j5:=hid q1;have j6:=hid q2;clear q1 q2
     gi_wp2_with fail
     go_end0
     exact⟨_,rfl,.inl (Δ.q▸j5.q)⟩
    .have R:=hid E;clear E
     gi_wp2_with fail
     go_end0
     exact⟨_,rfl,.inr ⟨p,o,R.q⟩⟩
   .have R:=hid E;clear E
    gi_wp2_with fail
    refine⟨L,?_⟩
    gi_wp2_with fail
    go_end0
    exact⟨_,rfl,.inr ⟨p,o,R.q⟩⟩
  .have R:=hid E;clear E
   gi_wp2_with fail
   refine⟨L,?_⟩
   gi_wp2_with fail
   refine⟨L,?_⟩
   gi_wp2_with fail
   go_end0
   exact⟨_,rfl,.inr ⟨p,o,R.q⟩⟩
 .have R:=hid E;clear E
  gi_wp2_with fail
  refine⟨L,?_⟩
  gi_wp2_with fail
  refine⟨L,?_⟩
  gi_wp2_with fail
  refine⟨L,?_⟩
  gi_wp2_with fail
  go_end0
  exact⟨_,rfl,.inr ⟨p,o,R.q⟩⟩
end Yd
namespace Yd
open Go Go.RowKit Go.Proofs Tryz
open Below renaming heap_setCell->G,refl->H
open Go.Value renaming slice->C
theorem Hr {α:Type}{enc:α->List Value}{k:Nat}{w:World}{B:Nat}{T:TypeId}{v:Value}{xs:List α}[hc:Cells enc k]{F:Fence}{b:Nat}{P:Program}{p:Array Oper}{rest:List Oper}{o:Oper}{g:Act}{Q:Exit->Act->World->Prop}(A:o.guard=none)(s x:Operand)(t:TypeId)
  (j:o.op= .call {callee:= .builtin .append,args:=#[s,x],argTypes:=#[t,t]}) (i:TypeInfo) (z:Value) (n:Nat) (E:P.underlying t=some (.slice T)) (R:P.info? T=some i) (S:i.zero=some z)
  (X:i.size=k) (Y:i.bytes=n) (Z:z.cells.size=k) (hs:g.eval s=v) (β:Own w B T k enc v xs)
  (a:Option Addr) (m c N:Nat) (ys:List α) (hx:g.eval x= C a m c) (q:Row w k enc a m c ys) (hN:xs.length+m=N) (γ:N*n<=140737488355328) (δ:N<=maxLen) (ε:B<=w.1.size)
  (h:∀d e f,Own f B T k enc (C d N e) (xs++ys)->w.grownBy f v.ownBlock->((Value.slice d N e).ownBlock=v.ownBlock\/(Value.slice d N e).ownBlock=some w.1.size)->wpListIn F b P p Q rest (g.put o.dst (C d N e)) f):
  wpListIn F b P p Q (o::rest) g w:=by
 refine wpListIn_plain A λK ζ=>?_
 subst hN;obtain⟨d,e,f,r,u,h3,y⟩:=Kl (P:=P) t o.type i z n E R S X Y Z β q γ δ ε;have hl:(xs++ys).length=xs.length+m:=by rw[bO,q.len]
 rw[hl] at r u y;unfold Oper.wpIn;refine⟨?_,?_⟩
 .simp[Oper.about,j,resolve,Target.leads,Sem.run_pure]
 .rw[Oper.semAt_plain F _ _ (by rw[j];intro c η;cases η)]
  simp[execOp,j,resolve,invoke,builtin,hs,hx,r,Result.andThen];exact ζ _ _ (h d e f u h3 y)
variable{X:World}
theorem Row.lnN {g:Nat}(a:X.1.size=g)(l:bH):Row (X.alloc (.cells (bM l) 77)) 6 qX (some ⟨g,0,none⟩) 1 1 [l]:=
 a▸(Own.new (hc:=GY) X X.1.size 77 (bM l) [l] (aB _) rfl (by simp[maxLen])).row ak
def nW (w:World)(B:Nat)(a:List bH)(ls:List aJ):Prop:=a.length=ls.length/\∀(i:Nat)(l:bH),a[i]?=some l->∃s,ls[i]?=some s/\fV w B l s
variable{ls:List aJ}
theorem nW.same {w:World}{B:Nat}{b:List bH}(c:nW w B b ls){A:Nat->Prop}(d:Same A w X)(e:∀i,B<=i->A i):nW X B b ls:=
 ⟨c.1,λi l f=>let⟨s,j,a⟩:=c.2 i l f;⟨s,j,a.1,a.2.1.same d (λg hg=>e g (a.2.1.lt g hg).1),a.2.2.same d (λg hg=>e g (a.2.2.lt g hg).1)⟩⟩
theorem nW.below {w:World}{B:Nat}{a:List bH}(b:nW w B a ls)(c:Below w.1.size w X):nW X B a ls:=
 ⟨b.1,λi l d=>let⟨s,e,f⟩:=b.2 i l d;⟨s,e,f.below c⟩⟩
theorem nW.grown {w:World}{B:Nat}{j:List bH}(k:nW w B j ls){row:Option Nat}(m:w.grownBy X row)(n:∀g,row=some g->∃b c,w.1[g]?=some (.cells b 77 c)):nW X B j ls:=
 ⟨k.1,λi l o=>let⟨s,p,a⟩:=k.2 i l o;⟨s,p,a.1,
  a.2.1.grown m (λg d e=>by obtain⟨b,c,f⟩:=n g e;exact a.2.1.vB f aj d),
  a.2.2.grown m (λg d e=>by obtain⟨b,c,f⟩:=n g e;exact a.2.2.vB f aj d)⟩⟩
theorem nW.snoc {w:World}{B:Nat}{b:List bH}(d:nW w B b ls){l:bH}{s:aJ}(g:fV w B l s):nW w B (b++[l]) (ls++[s]):=by
 have e:=d.1;refine⟨by simp[d.1],λi q a=>?_⟩;rcases iM i b.length with f|f
 .rw[rX f] at a
  obtain⟨t,j,k⟩:=d.2 i q a;exact⟨t,by rw[rX ah];exact j,k⟩
 .rw[pG f] at a
  have c:i - b.length=0:=by
   rcases Nat.eq_zero_or_pos (i - b.length) with c|c
   .exact c
   .rw[qB (by simp;omega)] at a;cases a
  rw[c] at a;obtain rfl:l=q:=by simpa using a
  exact⟨s,by rw[pG ah,show i - ls.length=0 by omega];rfl,g⟩
attribute [local go_sem] Oper.semAt_some
def NZ (ls:List aJ)(w:World)(e:Ending)(Y:World):Prop:=∃a c b,e= .returned (C a b.length c)/\Own Y w.1.size 77 6 qX (C a b.length c) b/\nW Y w.1.size b ls/\Below w.1.size w Y
theorem Gj (gf:Nat)(lb:Array Value)(eg:∀α w,(callFunc gf α).run Tryz.prog w= .ok (.enter gf α) w)(ls:List aJ)(w:World)(ι:ls.length<=100000)
  (κ:∀W,Below w.1.size w W->Iter Tryz.prog gf lb (uU W.1.size) 0 (λi=>i<w.1.size) ls W):
  Calls Tryz.prog 86 #[C none 0 0,.func (.func gf) #[] lb] w (NZ ls w):=by
 refine(callsIn_wide (n:=3)).1 ?_;refine callsIn_of_wp_marks func86 rfl trivial ?_ rfl;simp only[ntmps86,nK,dK,gY,Nat.reduceAdd,Nat.reduceSub,pE,pF,mJ,mK,fK,fA];refine wpIn_wide.2 ?_;obtain⟨i,z,q⟩:=Kc;have y:=hid q;have ω:=hid κ;have μ:=hid ι;clear q κ ι;go_wp2_with fail;have A:Below w.1.size w (w.alloc (.cells #[C none 0 0] 42)):=aA (H _ _) _;have δ:Bx (w.alloc (.cells #[C none 0 0] 42)) w.1.size #[C none 0 0]:=Bx.new1 rfl;have ν:(w.alloc (.cells #[C none 0 0] 42)).1.size=w.1.size+1:=by simp
 revert A δ ν;generalize w.alloc (.cells #[C none 0 0] 42)=V;intro A δ ν;refine wpIn_wide.1 (xB (n:=3) (gf:=gf) (lb:=lb) (by simp[go_sem]) eg
  (kY:=uU (w.1.size+3)) (k:=0) (D:=λi=>i<w.1.size) (xs:=ls)
  (λW hW q4=>by have:=ω.q W (A.trans (hW.mono A.size));rw[show W.1.size=w.1.size+3 by omega] at this;exact this) ah
  (λx α X hx=>by obtain⟨_,rfl,_⟩:=hx;rfl)
  (λt X=>Below w.1.size w X/\∃a c d,Bx X w.1.size #[C a d.length c]/\Own X (w.1.size+3) 77 6 qX (C a d.length c) d/\nW X (w.1.size+3) d t)
  (λ_ _ _=>False)
  (λt X Y E k=>by
   obtain⟨h1,a,c,d,h2,h3,h4⟩:=E;exact⟨k.below h1 (λi q=> .inl ah) h1.size,a,c,d,k.bx h2 (.inl ah),h3.same k (λg hg=> .inr (by have:=(h3.lt g hg).1;omega)),h4.same k (λi q=> .inr ah)⟩)
  (λ_ _ _ _ E _=>E.elim)
  ⟨A,none,0,[],δ,Own.jv _ _ _ _ _,rfl,λi l hl=>by simp at hl⟩ ?round ?done (λ_ _ _ _ E _=>E.elim))
 case done=>
  rintro X ⟨F,a,c,d,K,P,Q⟩ Γ;have hc:=K.1;simp only[Exit.inBlock,Exit.then];have R:=hid F;have S:=hid P;have u:=hid Q;clear F P Q K;go_wp2_with fail;refine⟨by simp,.inl ⟨_,_,rfl,run_takeDeferred Γ,?_⟩⟩;have hs:Same (λi=>i≠V.1.size) X (X.putObj V.1.size (.deferred none)):=Same.putObj X _ ak;exact⟨_,results_tmp rfl _ _ _,a,c,d,rfl,(S.q.same hs (λg hg=>by have:=(S.q.lt g hg).1;omega)).mono ah,⟨u.q.1,λi l hl=>let⟨s,h1,h2⟩:=(u.q.same hs (λi q=>by omega)).2 i l hl;⟨s,h1,h2.mono ah⟩⟩,hs.below R.q (λi q=>by omega) R.q.size⟩
 case round=>
  rintro t x α X ⟨F,a,c,d,K,P,Q⟩ Δ ⟨r,rfl,ξ⟩ q5 m;have R:=hid F;have S:=hid P;have u:=hid Q;have HX:=hid K;have T:=hid ξ;clear F P Q K ξ
  gi_wp2
  refine⟨aA (H _ _) _,λf o=>?_⟩;have ε:=o.bx (HX.q.alloc _) (by simp;omega);have ο:=o.bx (Bx.new1 (b:=X.1.size) rfl) (by simp;omega);have π:Own f (w.1.size+3) 77 6 qX (C a d.length c) d:=(S.q.alloc _).same o (λg hg=>by have:=(S.q.lt g hg).1;simp;omega);have ρ:nW f (w.1.size+3) d t:=(u.q.below (aA (H _ _) _)).same o (λi q=>by simp;omega);have σ:fV f (w.1.size+3) r x:=⟨T.q.1,((T.q.2.1.alloc _).same o (λg hg=>by have:=(T.q.2.1.lt g hg).1;simp;omega)),((T.q.2.2.alloc _).same o (λg hg=>by have:=(T.q.2.2.lt g hg).1;simp;omega))⟩;have τ:Below w.1.size w f:=o.below (aA R.q _) (λi q=>by simp;omega) (by simp;have:=R.q.size;omega);have q6:w.1.size+3<=f.1.size:=by have:=o.size;simp at this;omega
  have q7:t.length+1<=ls.length:=by have:=Δ.length_le;simpa using this
  have Θ:Hid ((d.length+1)*80<=140737488355328):=hid (by have:=u.q.1;have:=μ.q;omega);have Ξ:Hid (d.length+1<=maxLen):=hid (by have:=u.q.1;have:=μ.q;unfold maxLen;omega);have q8:=ε.1;have q9:=ο.1;have Φ:=hid ε;have Z:=hid π;have Ψ:=hid ρ;have ζ:=hid σ;have Ω:=hid τ;clear ε ο π ρ σ τ o
  gi_wp2_with (gi_at_builtin;refine Hr rfl _ _ 42 rfl i z 80 underlying42 y.q.1 y.q.2.1 y.q.2.2.1 y.q.2.2.2.1 y.q.2.2.2.2 rfl (Z.q.alloc _) (some ⟨f.1.size,0,none⟩) 1 1 (d.length+1) [r] rfl (Row.lnN rfl r) rfl Θ.q Ξ.q (by simp;omega) ?_;intro a' c' v υ η q0;(have β:Bx v w.1.size #[C a d.length c]:=(Φ.q.alloc _).grown η (λe=>by have:=(Z.q.lt _ e).1;omega));(have j0:=β.1);(have j1:=β.2.1);(have q1:=hid β);(have φ:=hid υ);(have γ:=hid η);clear β υ η q0)
  have j2:f.1.size+1<=v.1.size:=by have:=γ.q.size;simpa using this
  have θ:∀j,j<w.1.size+3->v.1[j]?=f.1[j]?:=λj hj=>(γ.q.block j (by simp;omega) (λe=>by have:=(Z.q.lt j e.symm).1;omega)).trans (Below.heap_alloc _ _ _ ah)
  have q2:∀g,(Value.slice a d.length c).ownBlock=some g->∃cs fz,(f.alloc (.cells (bM r) 77)).1[g]?=some (.cells cs 77 fz):=λg hg=>by
   obtain⟨cs,fz,e⟩:=Z.q.tag hg;exact⟨cs,fz,jh _ e⟩
  have q3:nW v (w.1.size+3) (d++[r]) (t++[x]):=((Ψ.q.below (aA (H _ _) _)).snoc ⟨ζ.q.1,ζ.q.2.1.alloc _,ζ.q.2.2.alloc _⟩).grown γ.q q2;have χ:Same (λj=>j≠w.1.size) v (v.setCell ⟨w.1.size,0,none⟩ (C a' (d.length+1) c')):=Same.setTail (Same.refl' _) ak;have ψ:(d++[r]).length=d.length+1:=by simp
  refine⟨⟨(G _ _ _ _ (by simp;omega)).trans (θ _ ah),(G _ _ _ _ (by simp;omega)).trans (θ _ ah)⟩,
   ⟨by simp[World.setCell];omega,λj hj hl=>(G _ _ _ _ (by simp;omega)).trans (θ j ah)⟩,
   (below_app (aA Ω.q _) (Z.q.alloc _) ah (by simp;omega) γ.q).setCell (p:=⟨w.1.size,0,none⟩) ak _,a',c',d++[r],?_,?_,q3.same χ (λj hj=>by omega)⟩
  .rw[ψ];exact q1.q.set1 _
  .rw[ψ];exact φ.q.same χ (λg hg=>by have:=(φ.q.lt g hg).1;omega)
end Yd
namespace Yd
open Option renaming some->I,none->M
open Go Go.RowKit Go.Proofs Tryz
open Go renaming World->V
open Go.IntKind renaming i64->U
open Go.Value renaming pointer->L,int->O
open Tryz renaming prog->J
open Yd renaming hid->C
open _root_ renaming List->G,Int->N
theorem JI (gf:Nat)(lb:Array Value)(k:∀b w,(callFunc gf b).run J w= .ok (.enter gf b) w)(ls:G aJ)(w:V)(m:ls.length<=100000)
  (d:∀W,Below w.1.size w W->Iter J gf lb (uU W.1.size) 0 (λi=>i<w.1.size) ls W):
  Calls J 43 #[.func (.func gf) #[] lb] w (NZ ls w):=by
 have n:=C (Gj gf lb k ls w m d);clear d;go_enter Tryz.func43,Tryz.ntmps43;go_wp2_with fail;refine n.q.mono ?_;rintro e Y ⟨a,c,o,rfl,f,g,j⟩;have H:=C (⟨f,g,j⟩:_/\_/\_);clear f g j;go_wp2_with fail;go_ret;exact⟨a,c,o,rfl,H.q.1,H.q.2.1,H.q.2.2⟩
variable{m:HC}
theorem Br (a:Bt m=true):m.e.n<=3000/\m.d.n<=3000/\m.m.n<=3000/\m.w.n<=3000:=by
 simp only[Bt,aM,aV] at a;obtain⟨c,b⟩:=a;refine⟨by omega,?_,?_,?_⟩ <;> (split at b <;> split at b <;> omega)
theorem Fu {f:Nat->G Bs}{es:G EvC}{i:G aG}{j:G aK}{b:G Wa}{c:EvC->G Sn}{d:aG->G N}{e:aK->G N}{w:V}(a:Deep w m es i j b c d e)
  (g:gB m f es i j b c d e=true):(fD f es i j b c d e).length<=12000:=by
 simp only[gB,ni,aM] at g;have:=Br g.1.1.1.1.1;have k:=a.1.len;have n:=a.2.1.len;have o:=a.2.2.1.len;have p:=a.2.2.2.1.len;simp only[fD,bO,bg];omega
section
variable (h:HC)(nl:Nat->G Bs)(es:G EvC)(ds:G aG)(ms:G aK)(qs:G Wa)(scan:EvC->G Sn)(dn:aG->G N)(mn:aK->G N)(w:V)(hg:qD w)
  (hn:∀i,i<4->Row w 1 encStr (h.nm i).a (h.nm i).n (h.nm i).c (nl i)) (hd:Deep w h es ds ms qs scan dn mn)
include hg hn hd
def Ud (ls:G aJ)(w:V)(e:Ending)(Y:V):Prop:=∃a c b,e= .returned (.tuple #[.slice a b.length c,O U 0])/\Own Y w.1.size 77 6 qX (.slice a b.length c) b/\nW Y w.1.size b ls/\Below w.1.size w Y
theorem LH (hc:jd h nl es ds ms qs scan dn mn=true):Calls J 13 #[bC h] w (Ud (fD nl es ds ms qs scan dn mn) w):=by
 have o:gB h nl es ds ms qs scan dn mn=true:=by simp only[jd,aM] at hc;exact hc.1.1
 have f:=aA (Below.refl w.1.size w) (.cells (aD h) 28);have p:=C (oZ h nl es ds ms qs scan dn mn _ (hg.below f) (λi q=>(hn i q).below f rfl) (hd.below f rfl));rw[hc] at p;have r:=C f;have t:=C o;have E:=C hn;have u:=C hd;have F:=C (Bx.new w (aD h) 28);clear hg hn hd hc f o;go_enter Tryz.func13,Tryz.ntmps13;go_wp2_with fail;refine p.q.mono ?_;rintro e b ⟨rfl,m⟩;have x:=C (r.q.bQ m);have K:=(F.q.keep m).1;clear m;rw[show rP true=0 from rfl];go_wp2_with fail;refine(Hq h b).mono ?_;rintro e W ⟨rfl,P,y,z⟩;have d:=x.q.bQ y;have Q:=C (JI 53 #[L (I ⟨b.1.size,0,M⟩),L (I ⟨b.1.size+3,0,M⟩),L (I ⟨b.1.size+4,0,M⟩),L (I ⟨b.1.size+5,0,M⟩),L (I ⟨b.1.size+6,0,M⟩)] Kk (fD nl es ds ms qs scan dn mn) W
  (by have:=Fu u.q t.q;omega)
  (λR n=>DT h nl es ds ms qs scan dn mn b.1.size (λi=>i<W.1.size) w R E.q u.q t.q (z.keep (λi g j=>n.block i ah))
   (λa v hc=>((d.trans (n.mono d.size)).cell (dQ hc)).trans hc) (by have:=d.size;have:=n.size;omega) (λi q=>by have:=d.size;omega) (λi g j=>by omega)))
 have k:=C d;clear P y z d K;go_wp2_with fail;refine Q.q.mono ?_;rintro e Y ⟨a,c,S,rfl,g,j,A⟩;have H:=C (⟨g,j,A⟩:_/\_/\_);clear g j A;go_wp2_with fail
 go_ret2
 refine⟨a,c,S,rfl,H.q.1.mono k.q.size,⟨H.q.2.1.1,λi l T=>let⟨s,X,Z⟩:=H.q.2.1.2 i l T;⟨s,X,Z.mono k.q.size⟩⟩,k.q.trans (H.q.2.2.mono k.q.size)⟩
end
attribute [local go_sem] Oper.semAt_some
variable{X:V}{b:Nat}
theorem Same.Ht {Y:V}(a:X.grownBy Y (I b)):Same (λi=>i≠b) X Y:=⟨a.os,a.tape,a.output,a.size,λi c d=>a.block i d (λe=>c (by injection e))⟩
variable{A:Nat->Prop}
theorem Same.Hu (X:V)(o:Obj):Same A X (X.alloc o):=Same.of_below (B:=X.1.size) (aA (Below.refl _ _) _) (λ_ _ h=>h)
theorem Same.DU (X:V):Same A X X.drew:=⟨rfl,rfl,rfl,aB _,λ_ _ _=>rfl⟩
theorem Same.cell_ {Y:V}(b:Same A X Y){p:Addr}{v:Value}(hc:X.cell? p=I v)(ha:A p.block):Y.cell? p=I v:=
 (World.cell?_of_block (a:=p) (b.block p.block ha (dQ hc))).trans hc
theorem gU.noCell {W:V}{a:G (N × N)}(c:gU W b a){p:Addr}{v:Value}(hc:W.cell? p=I v):p.block≠b:=λe=>by
 obtain⟨D,_,⟨es,f,d,_⟩,_⟩:=c;unfold World.cell? at hc;rw[e,d] at hc
 cases hc
def sG (a:G (N × N))(e:EvC):Bool:=decide (e.kind=2) && !decide (e.v.k=((a.count (e.t,e.obj):Nat):N)+1)
def jc (a:G (N × N))(e:EvC):G (N × N):=if e.kind=2 then(e.t,e.obj)::a else a
def l7:G (N × N)->G EvC->Bool
 |_,[]=>true
 |a,e::r=>!sG a e && l7 (jc a e) r
theorem Hw:∀args w,(callFunc 80 args).run J w= .ok (.enter 80 args) w:=enters_of func80 ay rfl
theorem QF:∀args w,(callFunc 42 args).run J w= .ok (.enter 42 args) w:=enters_of Tryz.func42 ay rfl
theorem Fv (e:EvC)(c b:Nat)(a:G (N × N))(w:V)(hc:w.cell? ⟨c,0,M⟩=I (.map (I b)))(k:gU w b a)(m:o8 e.t)(o:o8 e.obj)(S:a.length<1000000):
  Calls J 80 #[fT e,L (I ⟨c,0,M⟩)] w λen T=>en= .returned (O U (((a.count (e.t,e.obj):Nat):N)+1))/\Same (λi=>i≠b) w T/\gU T b ((e.t,e.obj)::a):=by
 obtain⟨n,f⟩:∃n,n=a.count (e.t,e.obj):=⟨_,rfl⟩;have δ:n<=a.length:=f▸List.count_le_length;obtain⟨X,d⟩:∃X,X=(w.alloc (.cells (aR e) 49)).alloc (.cells #[O U e.t,O U e.obj] 154):=⟨_,rfl⟩;have Y:Same (λi=>i≠b) w X:=by rw[d];exact(Same.Hu _ _).tr (Same.Hu _ _)
 have p:gU X b a:=by
  refine k.of_eq ?_;rw[d];exact(aA (aA (Below.refl w.1.size w) _) _).block b k.lt
 have g:X.cell? ⟨c,0,M⟩=I (.map (I b)):=by rw[d];exact bU _ (bU _ hc)
 have q:Bx X (w.1.size+1) #[O U e.t,O U e.obj]:=by rw[d];exact Bx.new1 ak
 have x:(Instr.lookup 153 (.map (I b)) (.agg #[O U e.t,O U e.obj]) false).run J X.drew= .ok (O U (a.count (e.t,e.obj):Nat)) X.drew:=gU.look (W:=X.drew) p m o;have y:w.1.size+1≠b:=by have:=k.lt;omega
 obtain⟨v0,Z,z,A,α,ε,r,β⟩:=gU.inc (W:=X.drew) p m o S;obtain⟨E,F,γ,ζ,P⟩:=β z rfl;have s:(Instr.lookup 153 (.map (I b)) (.agg #[O U e.t,O U e.obj]) false).run J E= .ok (O U (((e.t,e.obj)::a).count (e.t,e.obj):Nat)) E:=P.look m o
 change(Instr.lookup 153 (.map (I b)) (.agg #[O U e.t,O U e.obj]) false).run J z=_ at r
 change(Instr.mapEntry 153 (.map (I b)) (.agg #[O U e.t,O U e.obj])).run J _=_ at A
 rw[<-f] at x r F;rw[List.count_cons_self,<-f] at s;have t:Same (λi=>i≠b) X z:=(Same.DU X).tr (Same.Ht α);have u:Same (λi=>i≠b) X E:=t.tr (Same.Ht γ);have Q:=p.noCell g;have η:=C (t.cell_ g Q);have θ:=C (t.bx q y);have ι:=C (u.cell_ g Q);have κ:=C (u.bx q y);have μ:=C g;have ν:=C q;have ξ:=C x;have ο:=C r;have π:=C s;have ρ:=C F;have σ:=C A;have τ:=C (⟨Y.tr u,P⟩:_/\_);have HX:=C d;have υ:Hid (IntKind.i64.wrap ((n:N)+1)=(n:N)+1):=C (Go.IntWalk.i64_in _ ah);rw[<-f];clear δ hc k m o S f d Y p g q x y A α ε r β F γ ζ P s t u Q;go_enter func80,ntmps80;go_wp2_with fail;rw[<-HX.q];refine aC 6 [(0,0),(1,0),(2,0),(3,0),(4,2),(5,0),(6,2)] (λ_=>True) (λv=>v.cell? ⟨c,0,M⟩=I (.map (I b))/\Bx v (w.1.size+1) #[O U e.t,O U e.obj]/\(Instr.lookup 153 (.map (I b)) (.agg #[O U e.t,O U e.obj]) false).run J v= .ok (O U n) v) ay ay (trivial) (⟨μ.q,ν.q,ξ.q⟩) ?_;refine qC ?_;refine aF rfl rfl (λK j=>?_);go_simp;rw[σ.q];go_simp;refine j _ _ ⟨trivial,η.q,θ.q,ο.q⟩ ?_;clear j K;refine qC ?_;refine aW rfl rfl rfl (λK j=>?_);go_simp;rw[υ.q];rw[show(Value.int IntKind.i64 (Z:N))=goInt Z from rfl,ρ.q];go_simp;refine j _ _ trivial ?_;clear j K;refine aO ?_;have φ:=ι.q;have R:=κ.q;have s:=π.q;have χ:=R.1;have ψ:=R.2.1;have ω:=R.2.2;go_wp2_with fail;go_ret;exact⟨by simp,τ.q⟩
theorem JJ (e:EvC)(m c b:Nat)(a:G (N × N))(w:V)(v:w.cell? ⟨m,0,M⟩=I (.func (.func 80) #[] #[L (I ⟨c,0,M⟩)]))(hc:w.cell? ⟨c,0,M⟩=I (.map (I b)))(f:gU w b a)
  (o:e.kind=2->o8 e.t/\o8 e.obj) (x:a.length<1000000):
  Calls J 42 #[fT e,L (I ⟨m,0,M⟩)] w λA E=>A= .returned (.bool (sG a e))/\Same (λi=>i≠b) w E/\gU E b (jc a e):=by
 have p:=Bx.new w (aR e) 49;have g:=bU (.cells (aR e) 49) v;have q:Same (λi=>i≠b) w (w.alloc (.cells (aR e) 49)):=Same.Hu _ _;have j:gU (w.alloc (.cells (aR e) 49)) b a:=f.of_eq ((aA (Below.refl w.1.size w) _).block b f.lt);by_cases d:e.kind=2
 .have F:=bU (.cells (aR e) 49) hc
  have P:=C (Fv e c b a ((w.alloc (.cells (aR e) 49)).drew) F j (o d).1 (o d).2 x);have r:=C p;have s:=C g;have y:=C q;have z:Hid (jc a e=(e.t,e.obj)::a):=C (by simp[jc,d]);have t:Hid (sG a e=!decide (e.v.k=((a.count (e.t,e.obj):Nat):N)+1)):=C (by simp[sG,d]);have T:=C (j.noCell g);have X:=f.lt;have Z:Hid (w.1.size≠b):=C ah;obtain⟨n,Q⟩:∃n,n=a.count (e.t,e.obj):=⟨_,rfl⟩;rw[<-Q] at P t;have eg:=Hw;have α:(e.kind==2)=true:=oJ.2 d;clear v hc f o x p g q j F X Q d;go_enter Tryz.func42,Tryz.ntmps42;go_wp2_with fail;refine aC 0 [(0,1),(1,1),(2,1),(3,1),(4,1),(5,1),(6,1),(7,1),(8,1),(9,2),(10,1),(11,1),(12,1)] (λk=>Bx k w.1.size (aR e)/\k.cell? ⟨m,0,M⟩=I (.func (.func 80) #[] #[L (I ⟨c,0,M⟩)])) (λ_=>True) ay ay (⟨r.q,s.q⟩) trivial ?_;refine qC ?_;refine aW rfl rfl rfl (λK R=>?_);go_simp;refine P.q.mono ?_;rintro A Y ⟨rfl,u,S⟩;have β:=C (y.q.tr ((Same.DU _).tr u));have γ:=C S;refine R _ _ ⟨(Same.tr (Same.DU _) u).bx r.q Z.q,(Same.tr (Same.DU _) u).cell_ s.q T.q⟩ ?_;clear R K u S;refine qC ?_;refine aO ?_;go_wp2_with fail;go_ret;refine⟨?_,β.q,z.q▸γ.q⟩;rw[t.q];simp[bne,BEq.beq]
 .have r:=C p;have s:=C g;have y:=C q;have δ:=C j;have z:Hid (jc a e=a):=C (by simp[jc,d])
  have t:Hid (sG a e=false):=C (by simp[sG,d]);have α:(e.kind==2)=false:=aX.2 d;clear v hc f o x p g q j d;go_enter Tryz.func42,Tryz.ntmps42;go_wp2_with fail;refine aC 0 [(0,1),(1,1),(2,1),(3,1),(4,1),(5,1),(6,1),(7,1),(8,1),(9,1),(10,1),(11,1),(12,1)] (λk=>Bx k w.1.size (aR e)/\k.cell? ⟨m,0,M⟩=I (.func (.func 80) #[] #[L (I ⟨c,0,M⟩)])) (λ_=>True) ay ay (⟨r.q,s.q⟩) trivial ?_;refine qC ?_;refine aO ?_;go_wp2_with fail;go_ret;exact⟨by rw[t.q];rfl,y.q.tr (Same.DU _),by rw[z.q];exact δ.q⟩
theorem Row.same {α:Type}{r:α->G Value}{k:Nat}{w:V}{n c:Nat}{a:Option Addr}{xs:G α}{p:G (N × N)}(e:Row w k r a n c xs)(f:gU w b p)(g:Same (λi=>i≠b) w X):Row X k r a n c xs:=
 e.ext (λ_ _ d=>g.cell_ d (f.noCell d))
theorem JK (a:Option Addr)(n A:Nat)(es:G EvC)(t c b:Nat)(w:V)(E:Row w 9 dx a n A es)(F:w.cell? ⟨t,0,M⟩=I (.func (.func 80) #[] #[L (I ⟨c,0,M⟩)]))
  (hc:w.cell? ⟨c,0,M⟩=I (.map (I b))) (K:gU w b []) (P:∀e∈es,e.kind=2->o8 e.t/\o8 e.obj) (hn:n<=100000):
  Calls J 85 #[.slice a n A,.func (.func 42) #[] #[L (I ⟨t,0,M⟩)]] w
   λen w'=>(∃j:N,en= .returned (O U j)/\decide (0<=j)=!l7 [] es)/\Same (λi=>i≠b) w w':=by
 have p:=C E;have q:=C K;have Q:=C F;have R:=C hc;have HW:=C P;have eg:=QF;clear E F hc K P;go_enter func85,ntmps85;go_wp2_with fail
 go_loopw [8] (λi wr=>∃(k:Nat)(d:G (N × N)),k<=n/\i= O U k/\d.length<=k/\gU wr b d/\Same (λi=>i≠b) w wr/\l7 [] es=l7 d (es.drop k)) (λi _=>n - (RowKit.intOf i).toNat)
 case atStart=>exact⟨0,[],bn _,rfl,aB _,q.q,Same.refl' _,rfl⟩
 case round=>
  obtain⟨k,d,hk,rfl,δ,u,g,f⟩:=hrel;by_cases v:k<n
  .obtain⟨x,bb,o,m,rfl,hc⟩:=(p.q.same q.q g).at_ v
   have h0:=hc 0 _ rfl;have h1:=hc 1 _ rfl;have h2:=hc 2 _ rfl;have h3:=hc 3 _ rfl;have h4:=hc 4 _ rfl;have h5:=hc 5 _ rfl;have h6:=hc 6 _ rfl;have h7:=hc 7 _ rfl;have h8:=hc 8 _ rfl;simp only[dB] at h0;have r:es.drop k=x::es.drop (k+1):=by
    rw[lW (by rw[p.q.len];exact v)];rw[cB (by rw[p.q.len];exact v)] at m;injection m with m;rw[m]
   have y:=JJ x t c b d wr (g.cell_ Q.q (q.q.noCell Q.q)) (g.cell_ R.q (q.q.noCell R.q)) u (HW.q x (dA m)) ah;rw[r] at f;have S:(jc d x).length<=k+1:=by unfold jc;split <;> (try simp only[dK]) <;> omega
   have z:=C g;have α:=C S;clear hc m r u g S;simp only[l7] at f
   cases T:sG d x
   all_goals
    rw[T] at y f;have β:=C y;have s:=C f;clear y T f;go_wp2_with fail;refine β.q.mono ?_;rintro e w1 ⟨rfl,X,Y⟩;have Z:=C (z.q.tr X);have γ:=C Y;clear X Y;go_wp2_with fail
   .go_roundw
    case rel=>exact⟨k+1,jc d x,by omega,by go_num,α.q,γ.q,Z.q,by rw[s.q];rfl⟩
    case measure=>simp[RowKit.intOf];omega
   .go_ret
    exact⟨⟨k,rfl,by rw[s.q];simp⟩,Z.q⟩
  .have ε:k=n:=by omega
   have r:es.drop k=[]:=List.drop_of_length_le (by rw[p.q.len];omega);rw[r] at f;have s:=C f;have z:=C g;clear f g u;go_wp2_with fail;go_ret;exact⟨⟨-1,rfl,by rw[s.q];rfl⟩,z.q⟩
theorem CJ (a:Option Addr)(n d:Nat)(es:G EvC)(f c b:Nat)(w:V)(g:Row w 9 dx a n d es)(k:w.cell? ⟨f,0,M⟩=I (.func (.func 80) #[] #[L (I ⟨c,0,M⟩)]))
  (hc:w.cell? ⟨c,0,M⟩=I (.map (I b))) (m:gU w b []) (o:∀e∈es,e.kind=2->o8 e.t/\o8 e.obj) (r:n<=100000):
  Calls J 41 #[.slice a n d,.func (.func 42) #[] #[L (I ⟨f,0,M⟩)]] w λs t=>s= .returned (.bool (!l7 [] es))/\Same (λi=>i≠b) w t:=by
 have u:=C (JK a n d es f c b w g k hc m o r);clear g k hc m o;go_enter Tryz.func41,Tryz.ntmps41;go_wp2_with fail;refine u.q.mono ?_;rintro e y ⟨⟨j,rfl,p⟩,q⟩;have v:=C p;have x:=C q;clear p q;go_wp2_with fail;go_ret;exact⟨by rw[<-v.q];rfl,x.q⟩
theorem Km {n:N}{m:Nat}(a:aY n m=true)(b:m<=140737488355328):o8 n:=by
 obtain⟨c,d⟩:=lX a;exact WalkArith.wf_i64 ah
theorem Ca {d:Nat->G Bs}{es:G EvC}{i:G aG}{j:G aK}{k:G Wa}{n:EvC->G Sn}{o:aG->G N}{p:aK->G N}{w:V}(f:∀a,a<4->Row w 1 encStr (m.nm a).a (m.nm a).n (m.nm a).c (d a))
  (hc:jd m d es i j k n o p=true):∀e∈es,e.kind=2->o8 e.t/\o8 e.obj:=by
 intro e q g;simp only[jd,gB,aM,dZ] at hc;have c:=hc.1.1.1.1.1.2 e q;simp only[fZ,aM] at c;have b:=c.1.2;unfold hasB at b;rw[au (by rw[g];decide),av g] at b;simp only[aM] at b;exact⟨Km c.1.1.2 (f 0 aj).le,Km b.1.1.1 (f 2 aj).le⟩
theorem Cb (w:V):Calls J 29 #[] w λd a=>∃c b:Nat,d= .returned (.func (.func 80) #[] #[L (I ⟨c,0,M⟩)])/\a.cell? ⟨c,0,M⟩=I (.map (I b))/\gU a b []/\Below w.1.size w a/\w.1.size<=b:=by
 have e:= @run_makeMap J;go_enter Tryz.func29,Tryz.ntmps29;go_wp2_with fail;go_ret;exact⟨w.1.size+1,w.1.size,rfl,(Bx.new1 ak).1 0,(gU.new w).of_eq (Below.heap_alloc _ _ _ ak),aA (aA (Below.refl _ _) _) _,aB _⟩
theorem rO (a:HC)(j:Nat->G Bs)(es:G EvC)(k:G aG)(m:G aK)(n:G Wa)(o:EvC->G Sn)(p:aG->G N)(q:aK->G N)(w:V)(z:qD w)
  (s:∀i,i<4->Row w 1 encStr (a.nm i).a (a.nm i).n (a.nm i).c (j i)) (t:Deep w a es k m n o p q):
  Calls J 11 #[bC a] w (cO (.bool (jd a j es k m n o p q && l7 [] es)) w):=by
 have f:=aA (Below.refl w.1.size w) (.cells (aD a) 28);have HC:=C (oZ a j es k m n o p q _ (z.below f) (λi K=>(s i K).below f rfl) (t.below f rfl));have u:=C f;have HX:=C (Bx.new w (aD a) 28)
 cases d:jd a j es k m n o p q
 .rw[d] at HC
  clear z s t f d;go_enter Tryz.func11,Tryz.ntmps11;go_wp2_with fail;refine HC.q.mono ?_;rintro e P ⟨rfl,g⟩;have r:=C (u.q.bQ g);clear g;rw[show rP false=210 from rfl];go_wp2_with fail;go_ret;exact⟨rfl,r.q⟩
 .have HW:=C (Ca s d)
  have Q:gB a j es k m n o p q=true:=by simp only[jd,aM] at d;exact d.1.1
  have α:=by
   have R:=Q;simp only[gB,ni,aM] at R;exact Br R.1.1.1.1.1
  have HN:=C (show a.e.n<=100000 by omega);rw[d] at HC;have HR:=C t.1;clear z s t f d Q α;go_enter Tryz.func11,Tryz.ntmps11;go_wp2_with fail;refine HC.q.mono ?_;rintro e P ⟨rfl,g⟩;have r:=C (u.q.bQ g);have β:=C (HX.q.keep g);clear g;rw[show rP true=0 from rfl];go_wp2_with fail;refine(Cb P).mono ?_;rintro e v ⟨c,b,rfl,S,A,E,T⟩;have X:=β.q.keep E;have F:=C (r.q.bQ E);have x:=X.alloc (.cells #[.func (.func 80) #[] #[L (I ⟨c,0,M⟩)]] 93);have ε:=x.1;have ζ:=x.2.1;have η:=x.2.2;have y:=aA (Below.refl v.1.size v) (.cells #[.func (.func 80) #[] #[L (I ⟨c,0,M⟩)]] 93);have HK:=C (CJ a.e.a a.e.n a.e.c es v.1.size c b (v.alloc (.cells #[.func (.func 80) #[] #[L (I ⟨c,0,M⟩)]] 93)) ((HR.q.below F.q rfl).below y rfl) ((Bx.new1 rfl).1 0) (bU _ S) (A.of_eq (y.block b A.lt)) HW.q HN.q);have γ:Hid (w.1.size<=b):=C (bI r.q.size T);have Y:=C (F.q.bQ y);clear S A E T X x y;go_wp2_with fail;refine HK.q.mono ?_;rintro e w3 ⟨rfl,Z⟩;have δ:=C (Z.below Y.q (λi K=>by have:=γ.q;omega) Y.q.size);clear Z;go_wp2_with fail;go_ret;exact⟨by simp,δ.q⟩
end Yd
namespace Yd
open Go Go.RowKit Go.Proofs
attribute [local go_sem] Oper.semAt_some
section
variable (h:HC)(nl:Nat->List Bs)(es:List EvC)(ds:List aG)(ms:List aK)(qs:List Wa)(scan:EvC->List Sn)(dn:aG->List Int)(mn:aK->List Int)(w:World)(hg:qD w)
  (hn:∀i,i<4->Row w 1 encStr (h.nm i).a (h.nm i).n (h.nm i).c (nl i)) (hd:Deep w h es ds ms qs scan dn mn)
include hg hn hd
end
end Yd
namespace Yd
open Go Go.RowKit Go.Proofs
theorem N7 (xs:List (Int × Int)):(∀x∈xs,tK x)->
  ((iQ xs).2=true/\∀s:Nat,∃m:Nat,(iQ xs).1 s=m/\bV xs s=up m)\/((iQ xs).2=false/\∃s:Nat,s<4/\∀n,¬bV xs s<+:up n):=by
 refine uq (P:=λxs=>(∀x∈xs,tK x)->((iQ xs).2=true/\∀s:Nat,∃m:Nat,(iQ xs).1 s=m/\bV xs s=up m)\/((iQ xs).2=false/\∃s:Nat,s<4/\∀n,¬bV xs s<+:up n)) ?_ ?_ xs
 .intro _
  exact .inl ⟨rfl,λs=>⟨0,rfl,rfl⟩⟩
 .intro xs x A j
  have E:=j x ak;rcases A (λy F=>j y (iw _ F)) with⟨f,o⟩|⟨f,s,K,hn⟩
  .obtain⟨a,n⟩:=x
   obtain⟨⟨Q,R⟩,e,_⟩:=E;simp only at Q R e;obtain⟨s,rfl⟩:∃s:Nat,a=s:=⟨a.toNat,by omega⟩;obtain⟨m,g,p⟩:=o s;by_cases S:n<=m
   .left
    have T:iQ (xs++[((s:Int),n)])=(λi=>if i=s then(if n+1>(iQ xs).1 i then n+1 else(iQ xs).1 i) else(iQ xs).1 i,true):=by
     rw[xC,<-Hy (b:=(iQ xs).2) f (by rw[g];exact S)]
    rw[T];refine⟨rfl,λt=>?_⟩;by_cases q:t=s
    .subst q
     rw[kP,av rfl,p];simp only[av];rw[g];by_cases r:n<m
     .refine⟨m,by rw[au ah],?_⟩
      unfold kQ;rw[av ((wF e).2 r)]
     .have u:n=m:=by omega
      refine⟨m+1,by rw[av ah,u];rfl,?_⟩;unfold kQ;rw[au (λh=>r ((wF e).1 h)),Kn,u]
    .obtain⟨k,d,X⟩:=o t
     refine⟨k,by simp only[au q];exact d,?_⟩;rw[kP,au (by simp;omega)];exact X
   .right
    refine⟨by rw[xC];exact Ko (by show n>(iQ xs).1 (s:Int).toNat;rw[jL,g];omega),s,by omega,λk c=>?_⟩;rw[kP,av rfl,p] at c;unfold kQ at c;rw[au (λh=>by have:=(wF e).1 h;omega)] at c;have hg:(up m++[n])[m]?=some n:=by rw[pG (by rw[ny];exact aB _),ny];simp
    obtain⟨t,v⟩:=c;have z:=bJ List.length v;rw[bO,bO,ny,ny] at z;simp at z;have d:(up k)[m]?=some n:=by rw[<-v,rX (by rw[bO,ny];simp)];exact hg
    rw[N8 ah] at d;injection d with d;omega
  .right
   refine⟨by rw[xC];unfold zl;rw[au (by rw[f];simp)],s,K,λn c=>hn n ((vX xs x s).trans c)⟩
theorem Ue {xs:List (Int × Int)}(b:∀x∈xs,tK x)(N:Nat->Nat):
  ((iQ xs).2 && (List.range 4).all (λi=>decide ((iQ xs).1 i=(N i:Int))))=(List.range 4).all (λi:Nat=>decide (bV xs i=up (N i))):=by
 rcases N7 xs b with⟨a,c⟩|⟨a,s,d,hn⟩
 .rw[a,qZ]
  congr 1
  funext i
  obtain⟨m,e,f⟩:=c i;rw[e,f];refine decide_eq_decide.2 ⟨λh=>by rw[Int.ofNat_inj.1 h],λh=>by rw[VN h]⟩
 .rw[a,Bool.false_and]
  symm
  rw[<-Bool.not_eq_true,dZ];intro h;have:=rJ (h s (by simpa using d));exact hn (N s) (by rw[this];exact gH _)
theorem yj {m:HC}{a:Nat->List Bs}{es:List EvC}{b:List aG}{j:List aK}{c:List Wa}{d:EvC->List Sn}{e:aG->List Int}{f:aK->List Int}(g:gB m a es b j c d e f=true)
  (k:∀i,i<4->(a i).length=(m.nm i).n):jd m a es b j c d e f=(List.range 4).all (λi:Nat=>decide (bV (kz es b j c d e f) i=up (m.nm i).n)):=by
 unfold jd;rw[g,qZ,Ue (Fw g k) (λi=>(m.nm i).n)]
end Yd
namespace Yd
open Go Go.RowKit Go.Proofs Go.Shelf
open Lib renaming BuilderAtF->h,IsBuilderF->C,ownsRowF_kind->D,OthersKept->E,byteCells->F
theorem N9 (B b:Nat)(a:List Value)(s:ByteArray)(w:World)(d:C 69 5 B b a w)(f:a.length+s.size<=140737488355328)(g:B<=w.1.size):
  Calls Tryz.prog 23 #[.pointer (some ⟨b,0,none⟩),.string s] w λe c=>e= .returned (.tuple #[.int .i64 s.size,.nilIface])/\(h 69 5 B b (.pointer (some ⟨b,0,none⟩)) (a++Lib.strCells s) c/\Below B w c/\E 5 (some b) w c):=
 Any.Builder_WriteString_k (P:=Tryz.prog) (ρ:=Tryz.lays156_ren) {Tryz.lays156 with} Tryz.vO B b a s w d f g
structure qE (bb l:Nat)(s:Bs)(X:World):Prop where
 is:C 69 5 bb bb (F s) X
 fr:∀p v,X.1[bb]?=some (.cells #[p,v] 69 (0,0))->v.ownBlock≠some l/\v.ownBlock≠some (l+1)
variable{b:Nat}{s:Bs}{X:World}
theorem qE.lt {l:Nat}(c:qE b l s X):b<X.1.size:=by
 rcases c.is with⟨_,v,a,_⟩|⟨_,v,a,_⟩ <;> exact(dS.1 a).1
variable{Y:World}
theorem yJ {B:Nat}{e:TypeId}{k:Nat}{v:Value}{n:Nat}{xs:List Value}(b:X.ownsRowF B e k v n xs)(c:∀g,v.ownBlock=some g->Y.1[g]?=X.1[g]?):Y.ownsRowF B e k v n xs:=by
 obtain⟨d,a⟩:=b;refine⟨d,?_⟩;rcases a with a|⟨g,f,i,j,rfl,m,o,r⟩
 .exact .inl a
 .exact .inr ⟨g,f,i,j,rfl,m,(c g rfl).trans o,r⟩
theorem Fx {l:Nat}{p:Value}{c:List Value}(k:h 69 5 b b p c X)(d:Same (λi=>i<l\/l+2<=i) X Y)(m:b<l)
  (n:∀p v,X.1[b]?=some (.cells #[p,v] 69 (0,0))->v.ownBlock≠some l/\v.ownBlock≠some (l+1)):h 69 5 b b p c Y:=by
 obtain⟨o,v,a,f,q⟩:=k;have j:=n _ _ a;refine⟨o,v,(d.block _ (.inl m) (dS.1 a).1).trans a,yJ f (λg hg=>d.block g ?_ (f.lt g hg).2),q⟩;have r:g≠l:=λe=>j.1 (e▸hg)
 have s:g≠l+1:=λe=>j.2 (e▸hg)
 omega
theorem qE.same {l:Nat}(a:qE b l s X)(c:Same (λi=>i<l\/l+2<=i) X Y)(d:b<l):qE b l s Y:=
 ⟨a.is.elim (λx=> .inl (Fx x c d a.fr)) (λx=> .inr (Fx x c d a.fr)),λp v e=>a.fr p v ((c.block b (.inl d) a.lt).symm.trans e)⟩
theorem qE.wrote {l:Nat}{g:Bs}(_h:qE b l s X)(i:C 69 5 b b (F g) Y)(j:E 5 (some b) X Y)(A:b<l)
  {o o':Obj} (r:X.1[l]?=some o) (t:X.1[l+1]?=some o') (k:∀c d,o≠ .cells c 5 d) (m:∀c d,o'≠ .cells c 5 d):qE b l g Y:=by
 refine⟨i,λp v u=>?_⟩;have x:=j l o r (by simp;omega) k;have y:=j (l+1) o' t (by simp;omega) m;have a:∃n q,Y.ownsRowF b 5 1 v n q:=by
  rcases i with⟨_,z,f,a,_⟩|⟨_,z,f,a,_⟩ <;> (rw[u] at f;cases f;exact⟨_,_,a⟩)
 obtain⟨n,q,a⟩:=a;refine⟨λhg=>?_,λhg=>?_⟩
 .obtain⟨c,d,e⟩:=D a l hg
  rw[x] at e;cases e;exact k _ _ rfl
 .obtain⟨c,d,e⟩:=D a (l+1) hg
  rw[y] at e;cases e;exact m _ _ rfl
theorem qE.call {l:Nat}(a:qE b l s X)(c:Below X.1.size X Y):qE b l s Y:=by
 have f:∀p d,h 69 5 b b p d X->h 69 5 b b p d Y:=by
  rintro p d ⟨j,v,e,i,k⟩;exact⟨j,v,(c.block _ a.lt).trans e,yJ i (λg hg=>c.block g (i.lt g hg).2),k⟩
 exact⟨a.is.imp (f _ _) (f _ _),λp v e=>a.fr p v ((c.block b a.lt).symm.trans e)⟩
end Yd
namespace Yd
open Go Go.RowKit Go.Proofs Tryz
def jf (ls:List aJ):Bs:=ls.flatMap lC
section
variable (h:HC)(nl:Nat->List Bs)(es:List EvC)(ds:List aG)(ms:List aK)(qs:List Wa)(scan:EvC->List Sn)(dn:aG->List Int)(mn:aK->List Int)(w:World)(hg:qD w)
  (hn:∀i,i<4->Row w 1 encStr (h.nm i).a (h.nm i).n (h.nm i).c (nl i)) (hd:Deep w h es ds ms qs scan dn mn)
include hg hn hd
theorem Qu (hc:jd h nl es ds ms qs scan dn mn=false):Calls Tryz.prog 6 #[bC h] w (pz (.string ⟨#[]⟩) (.int .i64 210) w):=by
 have a:=aA (aA (aA (Below.refl w.1.size w) (.cells (aD h) 28)) (.cells #[.string ⟨#[]⟩] 9)) (.cells #[.int .i64 0] 31);have j:=hid (oZ h nl es ds ms qs scan dn mn _ (hg.below a) (λi o=>(hn i o).below a rfl) (hd.below a rfl));rw[hc] at j;have k:=hid a;have q:=hid (Bx.alloc (Bx.new1 (b:=w.1.size+1) (cs:=#[.string ⟨#[]⟩]) (X:=w.alloc (.cells (aD h) 28)) (T:=9) ak) (.cells #[.int .i64 0] 31));have r:Hid (Bx (((w.alloc (.cells (aD h) 28)).alloc (.cells #[.string ⟨#[]⟩] 9)).alloc (.cells #[.int .i64 0] 31)) (w.1.size+2) #[.int .i64 0]):=hid (Bx.new1 ak);clear hg hn hd hc a;go_enter func6,ntmps6;go_wp2_with fail;refine j.q.mono ?_;rintro e g ⟨rfl,c⟩;have s:=hid (k.q.bQ c);have d:=q.q.keep c;have f:=r.q.keep c;have t:=d.1;have u:=d.2.1;have x:=d.2.2;have y:=f.1;have z:=f.2.1;have E:=f.2.2;clear c d f;rw[show rP false=210 from rfl];go_wp2_with fail;have m:Bx ((g.setCell ⟨w.1.size+1,0,none⟩ (.string ⟨#[]⟩)).setCell ⟨w.1.size+2,0,none⟩ (.int .i64 210)) (w.1.size+1) #[.string ⟨#[]⟩]:=
  (Same.setTail (A:=λi=>i≠w.1.size+2) (Same.refl' _) ak).bx (Bx.set1 (X:=g) ⟨t,u,x⟩ _) ak
 have n:Bx ((g.setCell ⟨w.1.size+1,0,none⟩ (.string ⟨#[]⟩)).setCell ⟨w.1.size+2,0,none⟩ (.int .i64 210)) (w.1.size+2) #[.int .i64 210]:=
  Bx.set1 ((Same.setTail (A:=λi=>i≠w.1.size+1) (Same.refl' _) ak).bx ⟨y,z,E⟩ ak) _
 have F:=m.1 0;have K:=n.1 0;have P:=m.2.1 0;have Q:=n.2.1 0;refine bodyPost_ret (v:= .tuple #[.string ⟨#[]⟩,.int .i64 210]) (by simp[results,results6,go_sem,F,K]) rfl ⟨rfl,?_⟩;exact(s.q.setCell (p:=⟨w.1.size+1,0,none⟩) ak _).setCell (p:=⟨w.1.size+2,0,none⟩) ak _
end
end Yd
