import Derived.Test.YtnhnhmeogckgpaaGreatDoorTShaped
set_option linter.all false
set_option maxRecDepth 200000
set_option maxHeartbeats 8000000
namespace Yd
open Array renaming getElem?_eq_some_iff→E,replicate_succ→O,replicate_zero→S
open Option renaming some→u,none→y
open Go Go.RowKit Go.Proofs Tryz
open Go renaming Addr→f,World→F
open Go.Value renaming pointer→L,bool→T
open World renaming putObj_heap_other→z,putObj_heap_same→M,alloc_heap_new→N
open _root_ renaming List→j,Int→A,Option→G,Nat→H,Array→U,trivial→V
@[reducible] def kC (a:G f) (q:H):f:=match a with|some ⟨b,o,_⟩=>⟨b,o+q,y⟩|none=>⟨0,0,y⟩
def iJ (p:f) (v:lg):j (A × f):=if 0<v.k then [(0,p)] else []
def gr {α:Type} (hd:H→α→j (A × f)) (sub:α→j (A × f)):H→j α→j (A × f)
 |_,[]=>[]
 |i,x::xs=>hd i x++(sub x++gr hd sub (i+1) xs)
@[reducible] def Ju (a:G f) (i:H) (s:Sn):j (A × f):=(2,kC a (i*3))::iJ (kC a (i*3+1)) s.v
@[reducible] def qo (a:G f) (i:H) (e:EvC):j (A × f):=
 (0,kC a (i*9+1))::(if e.kind=1 then [(1,kC a (i*9+2))] else if e.kind=2∨e.kind=3 then(2,kC a (i*9+4))::iJ (kC a (i*9+5)) e.v else if e.kind=4 then [(3,kC a (i*9+7))] else [])
@[reducible] def Xv (a:G f) (i:H) (_:A):j (A × f):=[(0,kC a i)]
@[reducible] def MK (a:G f) (i:H) (_:aH):j (A × f):=[(2,kC a (i*2))]
@[reducible] def Jv (a:G f) (i:H) (_:aI):j (A × f):=[(3,kC a (i*4)),(2,kC a (i*4+1))]
@[reducible] def ML (a:G f) (i:H) (_:Wa):j (A × f):=[(1,kC a (i*2))]
def nP (a:G f):H→j Sn→j (A × f):=gr (Ju a) (fun _=>[])
def l9 (a:G f) (scan:EvC→j Sn):H→j EvC→j (A × f):=gr (qo a) (fun e=>nP e.sa 0 (scan e))
def kK (a:G f):H→j A→j (A × f):=gr (Xv a) (fun _=>[])
def oO (a:G f) (dn:aH→j A):H→j aH→j (A × f):=gr (MK a) (fun x=>kK x.sa 0 (dn x))
def oQ (a:G f) (mn:aI→j A):H→j aI→j (A × f):=gr (Jv a) (fun x=>kK x.sa 0 (mn x))
def sN (a:G f):H→j Wa→j (A × f):=gr (ML a) (fun _=>[])
def aJ (h:HC) (es:j EvC) (ds:j aH) (ms:j aI) (qs:j Wa) (scan:EvC→j Sn) (dn:aH→j A) (mn:aI→j A):j (A × f):=
 l9 h.e.a scan 0 es++(oO h.d.a dn 0 ds++(oQ h.m.a mn 0 ms++sN h.w.a 0 qs))
theorem QO {a:G f} {b o i:H} (ha:a=u ⟨b,o,y⟩) (s:Sn) (l:j Sn):nP a i (s::l)=(2,(⟨b,o+i*3,y⟩:f))::(iJ ⟨b,o+i*3+1,y⟩ s.v++nP a (i+1) l):=by subst ha;rfl
theorem Ot {a:G f} {b o i:H} {scan:EvC→j Sn} (ha:a=u ⟨b,o,y⟩) (e:EvC) (es:j EvC):l9 a scan i (e::es)=
  (0,(⟨b,o+i*9+1,y⟩:f))::((if e.kind=1 then [(1,(⟨b,o+i*9+2,y⟩:f))] else if e.kind=2∨e.kind=3 then(2,(⟨b,o+i*9+4,y⟩:f))::iJ ⟨b,o+i*9+5,y⟩ e.v else if e.kind=4 then [(3,(⟨b,o+i*9+7,y⟩:f))] else [])++(nP e.sa 0 (scan e)++l9 a scan (i+1) es)):=by
 subst ha;rfl
theorem Gc {a:G f} {b o i:H} (ha:a=u ⟨b,o,y⟩) (d:A) (l:j A):kK a i (d::l)=(0,(⟨b,o+i,y⟩:f))::kK a (i+1) l:=by subst ha;rfl
theorem Ou {a:G f} {b o i:H} {dn:aH→j A} (ha:a=u ⟨b,o,y⟩) (x:aH) (l:j aH):oO a dn i (x::l)=(2,(⟨b,o+i*2,y⟩:f))::(kK x.sa 0 (dn x)++oO a dn (i+1) l):=by subst ha;rfl
theorem Ov {a:G f} {b o i:H} {mn:aI→j A} (ha:a=u ⟨b,o,y⟩) (x:aI) (l:j aI):oQ a mn i (x::l)=(3,(⟨b,o+i*4,y⟩:f))::(2,(⟨b,o+i*4+1,y⟩:f))::(kK x.sa 0 (mn x)++oQ a mn (i+1) l):=by subst ha;rfl
theorem Ow {a:G f} {b o i:H} (ha:a=u ⟨b,o,y⟩) (x:Wa) (l:j Wa):sN a i (x::l)=(1,(⟨b,o+i*2,y⟩:f))::sN a (i+1) l:=by subst ha;rfl
def Ip (x:A × f) (args:U Value) (_:F):Prop:=args=#[.int .i64 x.1,L (u x.2)]
def wG (C:f→Prop) (w X:F):Prop:=∀a v,C a→w.cell? a=u v→X.cell? a=u v
def Xw (P:Program) (gf:H) (lb:U Value) {α:Type} (qD:α→U Value→F→Prop) (k:H) (D:H→Prop) (R:F→Prop) (xs:j α) (W:F):Prop:=
 ∀(n l:H) (J Jx:j α→F→Prop),
  (∀s X Y,J s X→Same (fun i=>i<W.heap.size∨W.heap.size+k≤i) X Y→J s Y)→
  (∀s X Y,Jx s X→Same (fun i=>i<W.heap.size∨W.heap.size+k≤i) X Y→Jx s Y)→
  (∀s X,J s X→R X)→(∀s X,Jx s X→R X)→
  (∀pre x args X,J pre X→pre++[x]<+:xs→qD x args X→W.heap.size+k≤X.heap.size→∀m,YieldAt Fence.wide m P l args X fun e Y=>
   (e= .returned (T true)∧J (pre++[x]) Y∧aP D X Y)∨(e= .returned (T false)∧Jx (pre++[x]) Y∧aP D X Y))→
  J [] W→
  CallsIn Fence.wide n P gf (#[.func (.yield l) #[] #[]]++lb) W fun e Y=>∃v,e= .returned v∧(J xs Y∨∃pre,pre<+:xs∧Jx pre Y)
def mg (X:F) (a:f):A:=match X.cell? a with|some (.int .i64 n)=>n|_=>0
theorem jl {X:F} {a:f} {n:A} (h:X.cell? a=u (.int .i64 n)):mg X a=n:=by unfold mg;rw[h]
def iw (X:F) (p:A × f):A × A:=(p.1,mg X p.2)
theorem Ox {P:Program} {α:Type} {g:Operand} {ps:U Tmp} {assign body:Code} {Q:Exit→Act→F→Prop} {a:Act} {w:F} {n:H}
  {gf:H} {lb:U Value} (hg:a.eval g= .func (.func gf) #[] lb) (eg:∀args w,(callFunc gf args).run P w= .ok (.enter gf args) w)
  {qD:α→U Value→F→Prop} {k:H} {D:H→Prop} {R:F→Prop} {xs:j α}
  (hseq:∀W,Below w.heap.size w W→W.heap.size=w.heap.size+2→Xw P gf lb qD k D R xs W)
  (hD:¬D (w.heap.size+1)) (hps:∀x args X,qD x args X→args.size=ps.size)
  (I:j α→F→Prop) (Ix:Code→j α→F→Prop)
  (hI:∀s X Y,I s X→Same (fun i=>i<w.heap.size∨w.heap.size+2+k≤i) X Y→I s Y)
  (hIx:∀c s X Y,Ix c s X→Same (fun i=>i<w.heap.size∨w.heap.size+2+k≤i) X Y→Ix c s Y)
  (hIR:∀s X,I s X→R X) (UB:∀c s X,Ix c s X→R X)
  (h0:I [] w)
  (AY:∀pre x args X,I pre X→pre++[x]<+:xs→qD x args X→w.heap.size+2+k≤X.heap.size→∀m,
   assign.wpIn (Fence.wide.inRound (w.heap.size+1)) m P (Exit.then (fun a₁ X₁=>Below X.heap.size X X₁∧∀X₂:F,Same (fun i=>i≠w.heap.size+1) X₁ X₂→
     body.wpIn (Fence.wide.inRound (w.heap.size+1)) m P (Eu w.heap.size D I Ix (pre++[x]) X₂) a₁ X₂) (fun _ _ _=>False))
    {tmps:=(ps.zip args).foldl (fun t (p,v)=>t.setIfInBounds p v) a.tmps,defers:=[]} X)
  (hdone:∀X,I xs X→X.heap[w.heap.size]?=u (.deferred (u []))→Q .normal {a with defers:={target:= .collected w.heap.size,args:=#[]}::a.defers} X)
  (hstop:∀c pre X,pre<+:xs→Ix c pre X→X.heap[w.heap.size]?=u (.deferred (u []))→c.wpIn Fence.wide n P Q {a with defers:={target:= .collected w.heap.size,args:=#[]}::a.defers} X):
  (Code.rangeFunc g ps assign body).wpIn Fence.wide n P Q a w:=by
 refine wpIn_rangeFunc ?_;intro fn hfn;obtain⟨r,hr⟩:∃r:Loop,r={state:= .ready,pending:=none,fn,tmps:=a.tmps,params:=ps,assign,body,defers:=w.heap.size}:=⟨_,rfl⟩;obtain⟨W1,hW1⟩:∃W1,(w.alloc (.deferred (u []))).alloc (.loop r)=W1:=⟨_,rfl⟩;have hs1:W1.heap.size=w.heap.size+2:=by rw[←hW1];simp
 have hL1:W1.heap[w.heap.size+1]?=u (.loop r):=by
  rw[←hW1];have:=N (w.alloc (.deferred (u []))) (.loop r);rwa[World.size_alloc] at this
 have hK1:W1.heap[w.heap.size]?=u (.deferred (u [])):=by
  rw[←hW1];exact(Below.heap_alloc _ _ _ ak).trans (N w _)
 have hb1:Below w.heap.size w W1:=by rw[←hW1];exact((Below.refl _ w).alloc (Nat.le_refl _) _).alloc ak _
 have hI1:I [] W1:=hI _ _ _ h0 (.of_below hb1 (fun i _ hi=>hi));refine⟨w.heap.size+1,[{target:= .collected w.heap.size,args:=#[]}],W1,{target:= .fn (.func gf) lb,args:=#[.func (.yield (w.heap.size+1)) #[] #[]]},W1,gf,
  #[.func (.yield (w.heap.size+1)) #[] #[]]++lb,W1,?_,?_,fun _ _=>V,?_,fun h=>(by cases h),?_⟩
 ·rw[←hW1,hr];exact run_enterLoop_outer _ _ _ _ _
 ·simp only[resolve,hg]
  simp[go_sem]
 ·simp[invoke,go_sem,eg]
 have hput:∀(s:j α) (X:F) (o:Obj),I s X→I s (X.putObj (w.heap.size+1) o):=fun s X o h=>hI s _ _ h (.putObj X o ah)
 have oK:∀(c:Code) (s:j α) (X:F) (o:Obj),Ix c s X→Ix c s (X.putObj (w.heap.size+1) o):=fun c s X o h=>hIx c s _ _ h (.putObj X o ah)
 refine(hseq W1 hb1 hs1 (n - 1) (w.heap.size+1)
  (fun pre X=>I pre X∧X.heap[w.heap.size+1]?=u (.loop r)∧X.heap[w.heap.size]?=u (.deferred (u [])))
  (fun pre X=>∃c,Ix c pre X∧X.heap[w.heap.size+1]?=u (.loop {r with state:= .done,pending:=some c})∧X.heap[w.heap.size]?=u (.deferred (u [])))
  ?_ ?_ (fun s X h=>hIR s X h.1) (fun s X h=>(let⟨c,hc,_⟩:=h;UB c s X hc)) ?_ ⟨hI1,hL1,hK1⟩).mono ?_
 ·rintro s X Y ⟨h1,h2,h3⟩ hsame
  have e2:=(E.1 h2).1;exact⟨hI s X Y h1 (hsame.mono (fun i hi hl=>by omega)),(hsame.block _ ah e2).trans h2,(hsame.block _ ah ah).trans h3⟩
 ·rintro s X Y ⟨c,h1,h2,h3⟩ hsame
  have e2:=(E.1 h2).1;exact⟨c,hIx c s X Y h1 (hsame.mono (fun i hi hl=>by omega)),(hsame.block _ ah e2).trans h2,(hsame.block _ ah ah).trans h3⟩
 ·rintro pre x args X ⟨hi,hl,hk⟩ hpx hrep hsz m
  have hra:r.assign=assign:=by rw[hr]
  have hrb:r.body=body:=by rw[hr]
  have xJ:r.params=ps:=by rw[hr]
  have hrt:r.tmps=a.tmps:=by rw[hr]
  have hrs:r.state= .ready:=by rw[hr]
  have hrn:r.pending=y:=by rw[hr]
  have hrr:({r with state:= .ready,pending:=none}:Loop)=r:=by rw[hr]
  refine zD hl hrs V (by rw[xJ];exact hps x args X hrep) ?_;have hR:=AY pre x args X hi hpx hrep ah m;rw[←hra,←hrb,←xJ,←hrt] at hR;refine wpIn_mono hR ?_;rintro e a1 X1 hp
  cases e with
  |normal=>
   obtain⟨hb,hbody⟩:=hp;have QG:=(E.1 hl).1;have hl1:X1.heap[w.heap.size+1]?=u (.loop r):=(hb.block _ ah).trans hl;have hk1:X1.heap[w.heap.size]?=u (.deferred (u [])):=(hb.block _ ah).trans hk;have hlt1:=(E.1 hl1).1;refine⟨hl1,wpIn_mono (hbody _ (.putObj X1 _ ah)) ?_⟩;have hl2:(X1.putObj (w.heap.size+1) (.loop {r with state:= .busy})).heap[w.heap.size+1]?=u (.loop {r with state:= .busy}):=M hlt1;have hk2:(X1.putObj (w.heap.size+1) (.loop {r with state:= .busy})).heap[w.heap.size]?=u (.deferred (u [])):=(z ah).trans hk1;rintro e a3 X3 hq;have fin:∀o,X3.heap[w.heap.size+1]?=(X1.putObj (w.heap.size+1) (.loop {r with state:= .busy})).heap[w.heap.size+1]?→(X3.putObj (w.heap.size+1) o).heap[w.heap.size+1]?=u o:=fun o h=>
    M ((E.1 (h.trans hl2)).1)
   have keep:∀o,aP D (X1.putObj (w.heap.size+1) (.loop {r with state:= .busy})) X3→aP D X (X3.putObj (w.heap.size+1) o):=fun o hC=>
    (aP.of_below hb (fun i _ hi=>hi)).trans (((aP.putObj X1 _ hD).trans hC).trans (aP.putObj X3 _ hD))
   cases e with
   |normal=>
    obtain⟨⟨hA,hB⟩,hC,hE⟩:=hq;refine⟨hB.trans hl2,.inl ⟨rfl,⟨hput _ _ _ hE,(fin _ hB).trans (by rw[hrr]),(z ah).trans (hA.trans hk2)⟩,?_⟩⟩;exact(aP.of_below hb (fun i _ hi=>hi)).trans (((aP.putObj X1 _ hD).trans hC).trans (aP.putObj X3 _ hD))
   |ret=>
    obtain⟨⟨hA,hB⟩,hC,hE⟩:=hq;exact⟨hB.trans hl2,.inr ⟨rfl,⟨.ret,oK _ _ _ _ hE,fin _ hB,(z ah).trans (hA.trans hk2)⟩,keep _ hC⟩⟩
   |exit id=>
    obtain⟨⟨hA,hB⟩,hC,hE⟩:=hq;exact⟨hB.trans hl2,.inr ⟨rfl,⟨.exit id,oK _ _ _ _ hE,fin _ hB,(z ah).trans (hA.trans hk2)⟩,keep _ hC⟩⟩
   |goto t=>
    obtain⟨⟨hA,hB⟩,hC,hE⟩:=hq;exact⟨hB.trans hl2,.inr ⟨rfl,⟨.goto t,oK _ _ _ _ hE,fin _ hB,(z ah).trans (hA.trans hk2)⟩,keep _ hC⟩⟩
   |panic _=>exact hq.elim
   |outgrown=>exact hq.elim
  |_=>exact hp.elim
 ·rintro e X2 ⟨v,rfl,(⟨hi,hl,hk⟩|⟨pre,hpre,c,hi,hl,hk⟩)⟩
  ·exact⟨y,_,by have:=run_endLoop (P:=P) hl (by rw[hr];simp);rwa[hr] at this,hdone _ (hput _ _ _ hi) ((z ah).trans hk)⟩
  ·exact⟨u c,_,run_endLoop (P:=P) hl ak,hstop c pre _ hpre (oK _ _ _ _ hi) ((z ah).trans hk)⟩
attribute [local go_sem] Oper.semAt_some
section
variable (J Jx:j (A × f)→F→Prop) (D:H→Prop) (xs:j (A × f)) (B l:H)
def MN (pre:j (A × f)) (X:F):Prop:=
 Bx X B #[.func (.yield l) #[] #[]]∧Bx X (B+2) #[.func (.func 138) #[] #[L (u ⟨B+1,0,y⟩),L (u ⟨B,0,y⟩)]]∧
 ((Bx X (B+1) #[T true]∧J pre X)∨(Bx X (B+1) #[T false]∧∃p,p<+:xs∧Jx p X))
theorem Jw (hJ:∀s X Y,J s X→Same (fun i=>i<B∨B+3≤i) X Y→J s Y) (hJx:∀s X Y,Jx s X→Same (fun i=>i<B∨B+3≤i) X Y→Jx s Y)
  (hD:∀i,B≤i→i<B+3→D i)
  (hY:∀pre x args X,J pre X→pre++[x]<+:xs→Ip x args X→B+3≤X.heap.size→∀m,YieldAt Fence.wide m Tryz.prog l args X fun e Y=>
   (e= .returned (T true)∧J (pre++[x]) Y∧aP D X Y)∨(e= .returned (T false)∧Jx (pre++[x]) Y∧aP D X Y))
  (pre:j (A × f)) (s:A) (b o:H) (X:F) (hpre:pre++[(s,(⟨b,o,y⟩:f))]<+:xs) (hX:MN J Jx xs B l pre X) (m:H):
  CallsIn Fence.wide m Tryz.prog 138 #[.int .i64 s,L (u ⟨b,o,y⟩),L (u ⟨B+1,0,y⟩),L (u ⟨B,0,y⟩)] X fun e Y=>
   (∃v,e= .returned v)∧MN J Jx xs B l (pre++[(s,(⟨b,o,y⟩:f))]) Y∧aP (fun i=>D i∧¬(B≤i∧i<B+3)) X Y:=by
 obtain⟨h0,h2,h1⟩:=hX;have hc0:=h0.1;have hl0:=h0.2.2;rcases h1 with⟨h1,hj⟩|⟨h1,p,hp,hj⟩
 ·have hc1:=h1.1;have hl1:=h1.2.2
  obtain⟨fn,tmps,assign,body,hy,hR⟩:=hY pre (s,(⟨b,o,y⟩:f)) #[.int .i64 s,L (u ⟨b,o,y⟩)] X hj hpre rfl h2.2.2 (m - 1);refine callsIn_of_wp func138 rfl V ?_ rfl;simp only[ntmps138,List.size_toArray,List.length_cons,List.length_nil,Nat.reduceAdd,Nat.reduceSub,O,S,List.push_toArray,List.append_toArray,List.nil_append,List.cons_append];have H0:=hid h0;have H2:=hid h2;have H1:=hid h1
  gi_wp2
  refine⟨fun h=>(by cases h),?_⟩;refine hR.mono ?_;clear hR hy hj;rintro e Y (⟨rfl,hJ',hk⟩|⟨rfl,AZ,hk⟩)
  ·have hy1:=hk.bx H1.q (hD _ ah ah);have hy0:=hk.bx H0.q (hD _ ah ah);have hy2:=hk.bx H2.q (hD _ ah ah)
   have hc1:=hy1.1;have hf1:=hy1.2.1
   gi_wp2
   go_end0
   exact⟨⟨_,rfl⟩,⟨hy0.setOther _ _ _ ah,hy2.setOther _ _ _ ah,.inl ⟨hy1.set1 _,hJ _ _ _ hJ' (Same.setCell _ _ _ _ ah)⟩⟩,
    (hk.mono (fun i hi _=>hi.1)).trans (aP.setCell _ _ _ _ ah)⟩
  ·have hy1:=hk.bx H1.q (hD _ ah ah);have hy0:=hk.bx H0.q (hD _ ah ah);have hy2:=hk.bx H2.q (hD _ ah ah)
   have hc1:=hy1.1;have hf1:=hy1.2.1
   gi_wp2
   go_end0
   exact⟨⟨_,rfl⟩,⟨hy0.setOther _ _ _ ah,hy2.setOther _ _ _ ah,.inr ⟨hy1.set1 _,_,hpre,hJx _ _ _ AZ (Same.setCell _ _ _ _ ah)⟩⟩,
    (hk.mono (fun i hi _=>hi.1)).trans (aP.setCell _ _ _ _ ah)⟩
 ·have hc1:=h1.1;have hl1:=h1.2.2;have hf1:=h1.2.1
  have H0:=hid h0;have H2:=hid h2;have H1:=hid h1;refine callsIn_of_wp func138 rfl V ?_ rfl;simp only[ntmps138,List.size_toArray,List.length_cons,List.length_nil,Nat.reduceAdd,Nat.reduceSub,O,S,List.push_toArray,List.append_toArray,List.nil_append,List.cons_append]
  gi_wp2
  refine⟨fun _ h=>(by cases h),?_⟩
  gi_wp2
  go_end0
  exact⟨⟨_,rfl⟩,⟨H0.q.setOther _ _ _ ah,H2.q.setOther _ _ _ ah,.inr ⟨H1.q.set1 _,p,hp,hJx _ _ _ hj (Same.setCell _ _ _ _ ah)⟩⟩,aP.setCell _ _ _ _ ah⟩
end
variable (J Jx:j (A × f)→F→Prop) (D:H→Prop) (xs:j (A × f)) (B l:H)
def Xx (J Jx:j (A × f)→F→Prop) (D:H→Prop) (xs:j (A × f)) (B l:H) (pre:j (A × f)) (X:F) (e:Ending) (Y:F):Prop:=
 (∃v,e= .returned v)∧MN J Jx xs B l pre Y∧aP (fun i=>D i∧¬(B≤i∧i<B+3)) X Y
theorem UC (hJ:∀s X Y,J s X→Same (fun i=>i<B∨B+3≤i) X Y→J s Y) (hJx:∀s X Y,Jx s X→Same (fun i=>i<B∨B+3≤i) X Y→Jx s Y)
  (hD:∀i,B≤i→i<B+3→D i)
  (hY:∀pre x args X,J pre X→pre++[x]<+:xs→Ip x args X→B+3≤X.heap.size→∀m,YieldAt Fence.wide m Tryz.prog l args X fun e Y=>
   (e= .returned (T true)∧J (pre++[x]) Y∧aP D X Y)∨(e= .returned (T false)∧Jx (pre++[x]) Y∧aP D X Y))
  (pre:j (A × f)) (v:lg) (b o:H) (X:F) (hpre:pre++iJ ⟨b,o,y⟩ v<+:xs) (hX:MN J Jx xs B l pre X) (hc1:X.cell? ⟨b,o+1,y⟩=u (.int .i64 v.k)):
  Calls Tryz.prog 139 #[L (u ⟨b,o,y⟩),L (u ⟨B+2,0,y⟩)] X (Xx J Jx D xs B l (pre++iJ ⟨b,o,y⟩ v) X):=by
 by_cases hk:0<v.k
 ·have hv:iJ ⟨b,o,y⟩ v=[(0,(⟨b,o,y⟩:f))]:=by simp[iJ,hk]
  rw[hv] at hpre ⊢;have HX:=hid hX;go_enter func139,ntmps139;go_wp2_with fail;have hx2:=hX.2.1;have hAd:MN J Jx xs B l pre X.drew:=⟨hX.1.drew,hX.2.1.drew,by
   rcases hX.2.2 with⟨h1,hj⟩|⟨h1,p,hp,hj⟩
   ·exact .inl ⟨h1.drew,hJ _ _ _ hj (Same.of_below ((Below.refl X.heap.size X).drew) (fun i _ hi=>hi))⟩
   ·exact .inr ⟨h1.drew,p,hp,hJx _ _ _ hj (Same.of_below ((Below.refl X.heap.size X).drew) (fun i _ hi=>hi))⟩⟩
  have HS:=hid (callsIn_wide.1 (Jw J Jx D xs B l hJ hJx hD hY pre 0 b o X.drew hpre hAd 3));clear hAd;refine bY [(0,true),(1,true),(2,true),(3,true),(4,false)] (fun W'=>Bx W' (B+2) #[.func (.func 138) #[] #[L (u ⟨B+1,0,y⟩),L (u ⟨B,0,y⟩)]]) au au (by intro d v c a w h;cases d <;> exact h) (hx2.drew) ?_;refine qO ?_;refine iH rfl rfl (fun K hK=>?_);go_simp;refine HS.q.mono ?_;rintro e Y ⟨⟨r,rfl⟩,hA,hk⟩;refine hK _ _ hA.2.1 ?_;clear hK K;refine ja ?_;go_wp2_with fail
  go_end0
  exact⟨⟨_,rfl⟩,hA,(aP.of_below ((Below.refl X.heap.size X).drew) (fun i _ hi=>hi)).trans hk⟩
 ·have hv:iJ ⟨b,o,y⟩ v=[]:=by simp[iJ,hk]
  rw[hv,List.append_nil];go_enter func139,ntmps139;go_wp2_with fail
  go_end0
  exact⟨⟨_,rfl⟩,hX,aP.refl _⟩
end Yd
namespace Yd
open Array renaming getElem?_eq_some_iff→z
open List renaming mem_singleton→A,mem_map→C,mem_cons→E,map_append→G,mem_cons_of_mem→H,mem_append→K,nodup_cons→L,mem_of_getElem?→O,map_cons→S,pairwise_cons→T,nodup_append→V
open Option renaming some→d,none→F
open Go Go.RowKit Go.Proofs
open Go renaming World→B,Addr→U,Value→Z
open World renaming putObj_heap_other→u,putObj_heap_same→M,alloc_heap_new→N
def Xy (P:Program) (gf:Nat) (lb:Array Z) {α:Type} (qD:α→Array Z→B→Prop) (k:Nat) (D:Nat→Prop) (R:B→Prop) (Kp:α→Array Z→B→Prop) (xs:List α) (W:B):Prop:=
 ∀(n l:Nat) (J Jx:List α→B→Prop),
  (∀s X Y,J s X→Same (fun i=>i<W.heap.size∨W.heap.size+k≤i) X Y→J s Y)→
  (∀s X Y,Jx s X→Same (fun i=>i<W.heap.size∨W.heap.size+k≤i) X Y→Jx s Y)→
  (∀s X,J s X→R X)→(∀s X,Jx s X→R X)→
  (∀pre x args X,J pre X→pre++[x]<+:xs→qD x args X→W.heap.size+k≤X.heap.size→∀m,YieldAt Fence.wide m P l args X fun e Y=>
   (e= .returned (.bool true)∧J (pre++[x]) Y∧aP D X Y∧Kp x args Y)∨(e= .returned (.bool false)∧Jx (pre++[x]) Y∧aP D X Y))→
  J [] W→
  CallsIn Fence.wide n P gf (#[.func (.yield l) #[] #[]]++lb) W fun e Y=>∃v,e= .returned v∧(J xs Y∨∃pre,pre<+:xs∧Jx pre Y)
def Oy {α:Type} (l:Nat) (D:Nat→Prop) (I:List α→B→Prop) (Ix:Code→List α→B→Prop) (Kx:B→Prop) (xs:List α) (X:B):Exit→Act→B→Prop
 | .normal,_,Y=>(Y.heap[l]?=X.heap[l]?∧Y.heap[l+1]?=X.heap[l+1]?)∧aP D X Y∧I xs Y∧Kx Y
 | .ret,_,Y=>(Y.heap[l]?=X.heap[l]?∧Y.heap[l+1]?=X.heap[l+1]?)∧aP D X Y∧Ix .ret xs Y
 | .exit id,_,Y=>(Y.heap[l]?=X.heap[l]?∧Y.heap[l+1]?=X.heap[l+1]?)∧aP D X Y∧Ix (.exit id) xs Y
 | .goto t,_,Y=>(Y.heap[l]?=X.heap[l]?∧Y.heap[l+1]?=X.heap[l+1]?)∧aP D X Y∧Ix (.goto t) xs Y
 | .panic _,_,_=>False
 | .outgrown,_,_=>False
theorem Oz {P:Program} {α:Type} {g:Operand} {ps:Array Tmp} {assign body:Code} {Q:Exit→Act→B→Prop} {a:Act} {w:B} {n:Nat}
  {gf:Nat} {lb:Array Z} (hg:a.eval g= .func (.func gf) #[] lb) (eg:∀args w,(callFunc gf args).run P w= .ok (.enter gf args) w)
  {qD:α→Array Z→B→Prop} {k:Nat} {D:Nat→Prop} {R:B→Prop} {Kp:α→Array Z→B→Prop} {xs:List α}
  (hseq:∀W,Below w.heap.size w W→W.heap.size=w.heap.size+2→Xy P gf lb qD k D R Kp xs W)
  (hD:¬D (w.heap.size+1)) (hps:∀x args X,qD x args X→args.size=ps.size)
  (I:List α→B→Prop) (Ix:Code→List α→B→Prop)
  (hI:∀s X Y,I s X→Same (fun i=>i<w.heap.size∨w.heap.size+2+k≤i) X Y→I s Y)
  (hIx:∀c s X Y,Ix c s X→Same (fun i=>i<w.heap.size∨w.heap.size+2+k≤i) X Y→Ix c s Y)
  (hIR:∀s X,I s X→R X) (UB:∀c s X,Ix c s X→R X)
  (hKp:∀x args X Y,Kp x args X→Same (fun i=>i<w.heap.size∨w.heap.size+2+k≤i) X Y→Kp x args Y)
  (h0:I [] w)
  (AY:∀pre x args X,I pre X→pre++[x]<+:xs→qD x args X→w.heap.size+2+k≤X.heap.size→∀m,
   assign.wpIn (Fence.wide.inRound (w.heap.size+1)) m P (Exit.then (fun a₁ X₁=>Below X.heap.size X X₁∧∀X₂:B,Same (fun i=>i≠w.heap.size+1) X₁ X₂→
     body.wpIn (Fence.wide.inRound (w.heap.size+1)) m P (Oy w.heap.size D I Ix (Kp x args) (pre++[x]) X₂) a₁ X₂) (fun _ _ _=>False))
    {tmps:=(ps.zip args).foldl (fun t (p,v)=>t.setIfInBounds p v) a.tmps,defers:=[]} X)
  (hdone:∀X,I xs X→X.heap[w.heap.size]?=d (.deferred (d []))→Q .normal {a with defers:={target:= .collected w.heap.size,args:=#[]}::a.defers} X)
  (hstop:∀c pre X,pre<+:xs→Ix c pre X→X.heap[w.heap.size]?=d (.deferred (d []))→c.wpIn Fence.wide n P Q {a with defers:={target:= .collected w.heap.size,args:=#[]}::a.defers} X):
  (Code.rangeFunc g ps assign body).wpIn Fence.wide n P Q a w:=by
 refine wpIn_rangeFunc ?_;intro fn hfn;obtain⟨r,hr⟩:∃r:Loop,r={state:= .ready,pending:=none,fn,tmps:=a.tmps,params:=ps,assign,body,defers:=w.heap.size}:=⟨_,rfl⟩;obtain⟨W1,hW1⟩:∃W1,(w.alloc (.deferred (d []))).alloc (.loop r)=W1:=⟨_,rfl⟩;have hs1:W1.heap.size=w.heap.size+2:=by rw[←hW1];simp
 have hL1:W1.heap[w.heap.size+1]?=d (.loop r):=by
  rw[←hW1];have:=N (w.alloc (.deferred (d []))) (.loop r);rwa[World.size_alloc] at this
 have hK1:W1.heap[w.heap.size]?=d (.deferred (d [])):=by
  rw[←hW1];exact(Below.heap_alloc _ _ _ ak).trans (N w _)
 have hb1:Below w.heap.size w W1:=by rw[←hW1];exact((Below.refl _ w).alloc (Nat.le_refl _) _).alloc ak _
 have hI1:I [] W1:=hI _ _ _ h0 (.of_below hb1 (fun i _ hi=>hi));refine⟨w.heap.size+1,[{target:= .collected w.heap.size,args:=#[]}],W1,{target:= .fn (.func gf) lb,args:=#[.func (.yield (w.heap.size+1)) #[] #[]]},W1,gf,
  #[.func (.yield (w.heap.size+1)) #[] #[]]++lb,W1,?_,?_,fun _ _=>trivial,?_,fun h=>(by cases h),?_⟩
 ·rw[←hW1,hr];exact run_enterLoop_outer _ _ _ _ _
 ·simp only[resolve,hg]
  simp[go_sem]
 ·simp[invoke,go_sem,eg]
 have hput:∀(s:List α) (X:B) (o:Obj),I s X→I s (X.putObj (w.heap.size+1) o):=fun s X o h=>hI s _ _ h (.putObj X o ah)
 have oK:∀(c:Code) (s:List α) (X:B) (o:Obj),Ix c s X→Ix c s (X.putObj (w.heap.size+1) o):=fun c s X o h=>hIx c s _ _ h (.putObj X o ah)
 refine(hseq W1 hb1 hs1 (n - 1) (w.heap.size+1)
  (fun pre X=>I pre X∧X.heap[w.heap.size+1]?=d (.loop r)∧X.heap[w.heap.size]?=d (.deferred (d [])))
  (fun pre X=>∃c,Ix c pre X∧X.heap[w.heap.size+1]?=d (.loop {r with state:= .done,pending:=some c})∧X.heap[w.heap.size]?=d (.deferred (d [])))
  ?_ ?_ (fun s X h=>hIR s X h.1) (fun s X h=>(let⟨c,hc,_⟩:=h;UB c s X hc)) ?_ ⟨hI1,hL1,hK1⟩).mono ?_
 ·rintro s X Y ⟨h1,h2,h3⟩ hsame
  have e2:=(z.1 h2).1;exact⟨hI s X Y h1 (hsame.mono (fun i hi hl=>by omega)),(hsame.block _ ah e2).trans h2,(hsame.block _ ah ah).trans h3⟩
 ·rintro s X Y ⟨c,h1,h2,h3⟩ hsame
  have e2:=(z.1 h2).1;exact⟨c,hIx c s X Y h1 (hsame.mono (fun i hi hl=>by omega)),(hsame.block _ ah e2).trans h2,(hsame.block _ ah ah).trans h3⟩
 ·rintro pre x args X ⟨hi,hl,hk⟩ hpx hrep hsz m
  have hra:r.assign=assign:=by rw[hr]
  have hrb:r.body=body:=by rw[hr]
  have xJ:r.params=ps:=by rw[hr]
  have hrt:r.tmps=a.tmps:=by rw[hr]
  have hrs:r.state= .ready:=by rw[hr]
  have hrn:r.pending=F:=by rw[hr]
  have hrr:({r with state:= .ready,pending:=none}:Loop)=r:=by rw[hr]
  refine zD hl hrs trivial (by rw[xJ];exact hps x args X hrep) ?_;have hR:=AY pre x args X hi hpx hrep ah m;rw[←hra,←hrb,←xJ,←hrt] at hR;refine wpIn_mono hR ?_;rintro e a1 X1 hp
  cases e with
  |normal=>
   obtain⟨hb,hbody⟩:=hp;have QG:=(z.1 hl).1;have hl1:X1.heap[w.heap.size+1]?=d (.loop r):=(hb.block _ ah).trans hl;have hk1:X1.heap[w.heap.size]?=d (.deferred (d [])):=(hb.block _ ah).trans hk;have hlt1:=(z.1 hl1).1;refine⟨hl1,wpIn_mono (hbody _ (.putObj X1 _ ah)) ?_⟩;have hl2:(X1.putObj (w.heap.size+1) (.loop {r with state:= .busy})).heap[w.heap.size+1]?=d (.loop {r with state:= .busy}):=M hlt1;have hk2:(X1.putObj (w.heap.size+1) (.loop {r with state:= .busy})).heap[w.heap.size]?=d (.deferred (d [])):=(u ah).trans hk1;rintro e a3 X3 hq;have fin:∀o,X3.heap[w.heap.size+1]?=(X1.putObj (w.heap.size+1) (.loop {r with state:= .busy})).heap[w.heap.size+1]?→(X3.putObj (w.heap.size+1) o).heap[w.heap.size+1]?=d o:=fun o h=>
    M ((z.1 (h.trans hl2)).1)
   have keep:∀o,aP D (X1.putObj (w.heap.size+1) (.loop {r with state:= .busy})) X3→aP D X (X3.putObj (w.heap.size+1) o):=fun o hC=>
    (aP.of_below hb (fun i _ hi=>hi)).trans (((aP.putObj X1 _ hD).trans hC).trans (aP.putObj X3 _ hD))
   cases e with
   |normal=>
    obtain⟨⟨hA,hB⟩,hC,hE,hKK⟩:=hq;refine⟨hB.trans hl2,.inl ⟨rfl,⟨hput _ _ _ hE,(fin _ hB).trans (by rw[hrr]),(u ah).trans (hA.trans hk2)⟩,keep _ hC,hKp _ _ _ _ hKK (.putObj X3 _ ah)⟩⟩
   |ret=>
    obtain⟨⟨hA,hB⟩,hC,hE⟩:=hq;exact⟨hB.trans hl2,.inr ⟨rfl,⟨.ret,oK _ _ _ _ hE,fin _ hB,(u ah).trans (hA.trans hk2)⟩,keep _ hC⟩⟩
   |exit id=>
    obtain⟨⟨hA,hB⟩,hC,hE⟩:=hq;exact⟨hB.trans hl2,.inr ⟨rfl,⟨.exit id,oK _ _ _ _ hE,fin _ hB,(u ah).trans (hA.trans hk2)⟩,keep _ hC⟩⟩
   |goto t=>
    obtain⟨⟨hA,hB⟩,hC,hE⟩:=hq;exact⟨hB.trans hl2,.inr ⟨rfl,⟨.goto t,oK _ _ _ _ hE,fin _ hB,(u ah).trans (hA.trans hk2)⟩,keep _ hC⟩⟩
   |panic _=>exact hq.elim
   |outgrown=>exact hq.elim
  |_=>exact hp.elim
 ·rintro e X2 ⟨v,rfl,(⟨hi,hl,hk⟩|⟨pre,hpre,c,hi,hl,hk⟩)⟩
  ·exact⟨F,_,by have:=run_endLoop (P:=P) hl (by rw[hr];simp);rwa[hr] at this,hdone _ (hput _ _ _ hi) ((u ah).trans hk)⟩
  ·exact⟨d c,_,run_endLoop (P:=P) hl ak,hstop c pre _ hpre (oK _ _ _ _ hi) ((u ah).trans hk)⟩
section
variable {α:Type} {hd:Nat→α→List (Int × U)} {sub:α→List (Int × U)}
theorem dH:∀(xs:List α) (i:Nat) (p:Int × U),p∈gr hd sub i xs↔∃j x,xs[j]?=d x∧(p∈hd (i+j) x∨p∈sub x)
 |[],_,_=>⟨fun h=>(by cases h),fun⟨_,_,h,_⟩=>(by cases h)⟩
 |x::xs,i,p=>by
  show p∈hd i x++(sub x++gr hd sub (i+1) xs)↔_;rw[K,K,dH xs (i+1) p]
  constructor
  ·rintro(h|h|⟨j,y,h1,h2⟩)
   ·exact⟨0,x,rfl,.inl h⟩
   ·exact⟨0,x,rfl,.inr h⟩
   ·exact⟨j+1,y,h1,by rw[show i+(j+1)=i+1+j by omega];exact h2⟩
  ·rintro⟨j,y,h1,h2⟩
   cases j with
   |zero=>
    injection h1 with h1;subst h1;rcases h2 with h2|h2
    ·exact .inl h2
    ·exact .inr (.inl h2)
   |succ j=>exact .inr (.inr ⟨j,y,h1,by rw[show i+1+j=i+(j+1) by omega];exact h2⟩)
theorem wH {β:Type} (f:Int × U→β) (g:α→List β):∀(xs:List α) (i:Nat),(∀j x,xs[j]?=d x→(hd (i+j) x).map f++(sub x).map f=g x)→(gr hd sub i xs).map f=xs.flatMap g
 |[],_,_=>rfl
 |x::xs,i,h=>by
  show(hd i x++(sub x++gr hd sub (i+1) xs)).map f=_;rw[G,G,List.flatMap_cons,←h 0 x rfl,wH f g xs (i+1) (fun j y hy=>by rw[show i+1+j=i+(j+1) by omega];exact h (j+1) y hy),List.append_assoc]
  rfl
def Jy (b k i j:Nat) (p:U):Prop:=p.block=b∧i*k≤p.off∧p.off<j*k
theorem ru {b k:Nat} {blk:α→Option Nat}:∀(xs:List α) (i:Nat),
  (∀j x,xs[j]?=d x→((hd (i+j) x).map Prod.snd).Nodup∧∀p∈hd (i+j) x,Jy b k (i+j) (i+j+1) p.2)→
  (∀x∈xs,((sub x).map Prod.snd).Nodup∧∀p∈sub x,blk x=d p.2.block∧p.2.block≠b)→
  xs.Pairwise (fun x y=>∀g,blk x=d g→blk y≠d g)→((gr hd sub i xs).map Prod.snd).Nodup
 |[],_,_,_,_=>List.nodup_nil
 |x::xs,i,h1,h2,h3=>by
  have ih:=ru xs (i+1) (fun j y hy=>by rw[show i+1+j=i+(j+1) by omega];exact h1 (j+1) y hy) (fun y hy=>h2 y (H _ hy)) (T.1 h3).2;have hx:=h1 0 x rfl;have hs:=h2 x List.mem_cons_self;have hp:=(T.1 h3).1;show((hd i x++(sub x++gr hd sub (i+1) xs)).map Prod.snd).Nodup;rw[G,G];refine V.2 ⟨hx.1,V.2 ⟨hs.1,ih,?_⟩,?_⟩
  ·intro p hp1 q hq e
   obtain⟨p',hp',rfl⟩:=C.1 hp1;obtain⟨q',hq',rfl⟩:=C.1 hq;obtain⟨j,y,hy,hq2⟩:=(dH xs (i+1) q').1 hq';have hb:=hs.2 p' hp';rcases hq2 with hq2|hq2
   ·have:=(h1 (j+1) y hy).2 q' (by rw[show i+(j+1)=i+1+j by omega];exact hq2)
    exact hb.2 (by rw[e];exact this.1)
   ·have hm:=O hy
    have:=(h2 y (H _ hm)).2 q' hq2;exact hp y hm _ hb.1 (by rw[this.1,e])
  ·intro p hp1 q hq e
   obtain⟨p',hp',rfl⟩:=C.1 hp1;have hb:=hx.2 p' hp';rcases K.1 hq with hq|hq
   ·obtain⟨q',hq',rfl⟩:=C.1 hq
    exact(hs.2 q' hq').2 (by rw[←e];exact hb.1)
   ·obtain⟨q',hq',rfl⟩:=C.1 hq
    obtain⟨j,y,hy,hq2⟩:=(dH xs (i+1) q').1 hq';rcases hq2 with hq2|hq2
    ·have:=(h1 (j+1) y hy).2 q' (by rw[show i+(j+1)=i+1+j by omega];exact hq2)
     have h5:=hb.2.2;have h6:=this.2.1;rw[e] at h5;have:(i+0+1)*k≤(i+(j+1))*k:=Nat.mul_le_mul_right _ ah;omega
    ·have hm:=O hy
     have:=(h2 y (H _ hm)).2 q' hq2;exact this.2 (by rw[←e];exact hb.1)
end
theorem nA {p:U} {v:lg} {x:Int × U}:x∈iJ p v↔x=(0,p)∧0<v.k:=by
 unfold iJ
 split
 ·rename_i h;simp[h]
 ·rename_i h;simp[h]
theorem Gd (p:U) (v:lg):((iJ p v).map Prod.snd).Nodup:=by
 unfold iJ
 split <;> simp
section
variable {b o:Nat}
theorem Jz (i:Nat) (s:Sn):((Ju (d ⟨b,0,F⟩) i s).map Prod.snd).Nodup∧∀p∈Ju (d ⟨b,0,F⟩) i s,Jy b 3 i (i+1) p.2:=by
 constructor
 ·unfold Ju
  rw[S];refine L.2 ⟨fun h=>?_,Gd _ _⟩;obtain⟨p,hp,e⟩:=C.1 h;rw[(nA.1 hp).1] at e;injection e with _ e;simp at e
 ·intro p hp
  rcases E.1 hp with rfl|hp
  ·exact⟨rfl,by show _≤0+i*3;omega,by show 0+i*3<_;omega⟩
  ·rw[(nA.1 hp).1]
   exact⟨rfl,by show _≤0+(i*3+1);omega,by show 0+(i*3+1)<_;omega⟩
theorem JA (i:Nat) (e:EvC):((qo (d ⟨b,0,F⟩) i e).map Prod.snd).Nodup∧∀p∈qo (d ⟨b,0,F⟩) i e,Jy b 9 i (i+1) p.2:=by
 have hv:∀p∈iJ (kC (d ⟨b,0,F⟩) (i*9+5)) e.v,p=(0,(⟨b,0+(i*9+5),F⟩:U)):=fun p hp=>(nA.1 hp).1
 constructor
 ·unfold qo
  split
  ·simp
  ·split
   ·rw[S,S]
    refine L.2 ⟨fun h=>?_,L.2 ⟨fun h=>?_,Gd _ _⟩⟩
    ·rcases E.1 h with e|h
     ·injection e with _ e;simp at e
     ·obtain⟨p,hp,e⟩:=C.1 h
      rw[hv p hp] at e;injection e with _ e;simp at e
    ·obtain⟨p,hp,e⟩:=C.1 h
     rw[hv p hp] at e;injection e with _ e;simp at e
   ·split <;> simp
 ·intro p hp
  unfold qo at hp;rcases E.1 hp with rfl|hp
  ·exact⟨rfl,by show _≤0+(i*9+1);omega,by show 0+(i*9+1)<_;omega⟩
  ·split at hp
   ·rw[A.1 hp]
    exact⟨rfl,by show _≤0+(i*9+2);omega,by show 0+(i*9+2)<_;omega⟩
   ·split at hp
    ·rcases E.1 hp with rfl|hp
     ·exact⟨rfl,by show _≤0+(i*9+4);omega,by show 0+(i*9+4)<_;omega⟩
     ·rw[hv p hp]
      exact⟨rfl,by show _≤0+(i*9+5);omega,by show 0+(i*9+5)<_;omega⟩
    ·split at hp
     ·rw[A.1 hp]
      exact⟨rfl,by show _≤0+(i*9+7);omega,by show 0+(i*9+7)<_;omega⟩
     ·cases hp
theorem QS (i:Nat) (x:Int):((Xv (d ⟨b,0,F⟩) i x).map Prod.snd).Nodup∧∀p∈Xv (d ⟨b,0,F⟩) i x,Jy b 1 i (i+1) p.2:=by
 refine⟨by simp,fun p hp=>?_⟩;rw[A.1 hp];exact⟨rfl,by show _≤0+i;omega,by show 0+i<_;omega⟩
theorem QT (i:Nat) (x:aH):((MK (d ⟨b,0,F⟩) i x).map Prod.snd).Nodup∧∀p∈MK (d ⟨b,0,F⟩) i x,Jy b 2 i (i+1) p.2:=by
 refine⟨by simp,fun p hp=>?_⟩;rw[A.1 hp];exact⟨rfl,by show _≤0+i*2;omega,by show 0+i*2<_;omega⟩
theorem QU (i:Nat) (x:aI):((Jv (d ⟨b,0,F⟩) i x).map Prod.snd).Nodup∧∀p∈Jv (d ⟨b,0,F⟩) i x,Jy b 4 i (i+1) p.2:=by
 refine⟨by simp,fun p hp=>?_⟩;rcases E.1 hp with rfl|hp
 ·exact⟨rfl,by show _≤0+i*4;omega,by show 0+i*4<_;omega⟩
 ·rw[A.1 hp]
  exact⟨rfl,by show _≤0+(i*4+1);omega,by show 0+(i*4+1)<_;omega⟩
theorem QV (i:Nat) (x:Wa):((ML (d ⟨b,0,F⟩) i x).map Prod.snd).Nodup∧∀p∈ML (d ⟨b,0,F⟩) i x,Jy b 2 i (i+1) p.2:=by
 refine⟨by simp,fun p hp=>?_⟩;rw[A.1 hp];exact⟨rfl,by show _≤0+i*2;omega,by show 0+i*2<_;omega⟩
end
end Yd
