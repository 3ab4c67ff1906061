import Derived.Test.YtnhnhmeogckgpaaGreatDoorShaped
set_option linter.all false
set_option maxRecDepth 200000
set_option maxHeartbeats 8000000
namespace Yd
open Array renaming getElem?_eq_some_iff→y,replicate_succ→Z
open Option renaming some→u,none→E
open Go Go.RowKit Go.Proofs Tryz
open Below renaming refl→T
open Go renaming Addr→z,World→A,Value→S
open Go.Value renaming pointer→M,bool→U
open World renaming putObj_heap_other→f,putObj_heap_same→L,alloc_heap_new→N
open _root_ renaming List→j,Nat→F,Int→G,Option→H,Array→O,trivial→V
@[reducible] def lM (a:H z) (q:F):z:=match a with|some ⟨b,o,_⟩=>⟨b,o+q,E⟩|none=>⟨0,0,E⟩
def iy (p:z) (v:kT):j (G × z):=if 0<v.k then [(0,p)] else []
def gr {α:Type} (hd:F→α→j (G × z)) (sub:α→j (G × z)):F→j α→j (G × z)
 |_,[]=>[]
 |i,x::xs=>hd i x++(sub x++gr hd sub (i+1) xs)
@[reducible] def JZ (a:H z) (i:F) (s:Sn):j (G × z):=(2,lM a (i*3))::iy (lM a (i*3+1)) s.v
@[reducible] def rV (a:H z) (i:F) (e:EvC):j (G × z):=
 (0,lM a (i*9+1))::(if e.kind=1 then [(1,lM a (i*9+2))] else if e.kind=2∨e.kind=3 then(2,lM a (i*9+4))::iy (lM a (i*9+5)) e.v else if e.kind=4 then [(3,lM a (i*9+7))] else [])
@[reducible] def WT (a:H z) (i:F) (_:G):j (G × z):=[(0,lM a i)]
@[reducible] def Na (a:H z) (i:F) (_:aK):j (G × z):=[(2,lM a (i*2))]
@[reducible] def JY (a:H z) (i:F) (_:aM):j (G × z):=[(3,lM a (i*4)),(2,lM a (i*4+1))]
@[reducible] def Nb (a:H z) (i:F) (_:Wa):j (G × z):=[(1,lM a (i*2))]
def kF (a:H z):F→j Sn→j (G × z):=gr (JZ a) (fun _=>[])
def gX (a:H z) (scan:EvC→j Sn):F→j EvC→j (G × z):=gr (rV a) (fun e=>kF e.sa 0 (scan e))
def lV (a:H z):F→j G→j (G × z):=gr (WT a) (fun _=>[])
def qz (a:H z) (dn:aK→j G):F→j aK→j (G × z):=gr (Na a) (fun x=>lV x.sa 0 (dn x))
def qA (a:H z) (mn:aM→j G):F→j aM→j (G × z):=gr (JY a) (fun x=>lV x.sa 0 (mn x))
def uQ (a:H z):F→j Wa→j (G × z):=gr (Nb a) (fun _=>[])
def aG (h:HC) (es:j EvC) (ds:j aK) (ms:j aM) (qs:j Wa) (scan:EvC→j Sn) (dn:aK→j G) (mn:aM→j G):j (G × z):=
 gX h.e.a scan 0 es++(qz h.d.a dn 0 ds++(qA h.m.a mn 0 ms++uQ h.w.a 0 qs))
theorem wU {a:H z} {b o i:F} (ha:a=u ⟨b,o,E⟩) (s:Sn) (l:j Sn):kF a i (s::l)=(2,(⟨b,o+i*3,E⟩:z))::(iy ⟨b,o+i*3+1,E⟩ s.v++kF a (i+1) l):=by subst ha;rfl
theorem Qn {a:H z} {b o i:F} {scan:EvC→j Sn} (ha:a=u ⟨b,o,E⟩) (e:EvC) (es:j EvC):gX a scan i (e::es)=
  (0,(⟨b,o+i*9+1,E⟩:z))::((if e.kind=1 then [(1,(⟨b,o+i*9+2,E⟩:z))] else if e.kind=2∨e.kind=3 then(2,(⟨b,o+i*9+4,E⟩:z))::iy ⟨b,o+i*9+5,E⟩ e.v else if e.kind=4 then [(3,(⟨b,o+i*9+7,E⟩:z))] else [])++(kF e.sa 0 (scan e)++gX a scan (i+1) es)):=by
 subst ha;rfl
theorem IJ {a:H z} {b o i:F} (ha:a=u ⟨b,o,E⟩) (d:G) (l:j G):lV a i (d::l)=(0,(⟨b,o+i,E⟩:z))::lV a (i+1) l:=by subst ha;rfl
theorem Qo {a:H z} {b o i:F} {dn:aK→j G} (ha:a=u ⟨b,o,E⟩) (x:aK) (l:j aK):qz a dn i (x::l)=(2,(⟨b,o+i*2,E⟩:z))::(lV x.sa 0 (dn x)++qz a dn (i+1) l):=by subst ha;rfl
theorem Qp {a:H z} {b o i:F} {mn:aM→j G} (ha:a=u ⟨b,o,E⟩) (x:aM) (l:j aM):qA a mn i (x::l)=(3,(⟨b,o+i*4,E⟩:z))::(2,(⟨b,o+i*4+1,E⟩:z))::(lV x.sa 0 (mn x)++qA a mn (i+1) l):=by subst ha;rfl
theorem Qq {a:H z} {b o i:F} (ha:a=u ⟨b,o,E⟩) (x:Wa) (l:j Wa):uQ a i (x::l)=(1,(⟨b,o+i*2,E⟩:z))::uQ a (i+1) l:=by subst ha;rfl
def Jh (x:G × z) (args:O S) (_:A):Prop:=args=#[.int .i64 x.1,M (u x.2)]
def yP (C:z→Prop) (w X:A):Prop:=∀a v,C a→w.cell? a=u v→X.cell? a=u v
def Yc (P:Program) (gf:F) (lb:O S) {α:Type} (rT:α→O S→A→Prop) (k:F) (D:F→Prop) (R:A→Prop) (xs:j α) (W:A):Prop:=
 ∀(n l:F) (J Jx:j α→A→Prop),
  (∀s X Y,J s X→Same (fun i=>i<W.heap.size∨W.heap.size+k≤i) X Y→J s Y)→
  (∀s X Y,Jx s X→Same (fun i=>i<W.heap.size∨W.heap.size+k≤i) X Y→Jx s Y)→
  (∀s X,J s X→R X)→(∀s X,Jx s X→R X)→
  (∀pre x args X,J pre X→pre++[x]<+:xs→rT x args X→W.heap.size+k≤X.heap.size→∀m,YieldAt Fence.wide m P l args X fun e Y=>
   (e= .returned (U true)∧J (pre++[x]) Y∧aO D X Y)∨(e= .returned (U false)∧Jx (pre++[x]) Y∧aO D X Y))→
  J [] W→
  CallsIn Fence.wide n P gf (#[.func (.yield l) #[] #[]]++lb) W fun e Y=>∃v,e= .returned v∧(J xs Y∨∃pre,pre<+:xs∧Jx pre Y)
theorem Qk {P:Program} {α:Type} {g:Operand} {ps:O Tmp} {assign body:Code} {Q:Exit→Act→A→Prop} {a:Act} {w:A} {n:F}
  {gf:F} {lb:O S} (hg:a.eval g= .func (.func gf) #[] lb) (eg:∀args w,(callFunc gf args).run P w= .ok (.enter gf args) w)
  {rT:α→O S→A→Prop} {k:F} {D:F→Prop} {R:A→Prop} {xs:j α}
  (hseq:∀W,Below w.heap.size w W→W.heap.size=w.heap.size+2→Yc P gf lb rT k D R xs W)
  (hD:¬D (w.heap.size+1)) (hps:∀x args X,rT x args X→args.size=ps.size)
  (I:j α→A→Prop) (Ix:Code→j α→A→Prop)
  (hI:∀s X Y,I s X→Same (fun i=>i<w.heap.size∨w.heap.size+2+k≤i) X Y→I s Y)
  (hIx:∀c s X Y,Ix c s X→Same (fun i=>i<w.heap.size∨w.heap.size+2+k≤i) X Y→Ix c s Y)
  (hIR:∀s X,I s X→R X) (Ws:∀c s X,Ix c s X→R X)
  (h0:I [] w)
  (Cc:∀pre x args X,I pre X→pre++[x]<+:xs→rT x args X→w.heap.size+2+k≤X.heap.size→∀m,
   assign.wpIn (Fence.wide.inRound (w.heap.size+1)) m P (Exit.then (fun a₁ X₁=>Below X.heap.size X X₁∧∀X₂:A,Same (fun i=>i≠w.heap.size+1) X₁ X₂→
     body.wpIn (Fence.wide.inRound (w.heap.size+1)) m P (Fb w.heap.size D I Ix (pre++[x]) X₂) a₁ X₂) (fun _ _ _=>False))
    {tmps:=(ps.zip args).foldl (fun t (p,v)=>t.setIfInBounds p v) a.tmps,defers:=[]} X)
  (hdone:∀X,I xs X→X.heap[w.heap.size]?=u (.deferred (u []))→Q .normal {a with defers:={target:= .collected w.heap.size,args:=#[]}::a.defers} X)
  (hstop:∀c pre X,pre<+:xs→Ix c pre X→X.heap[w.heap.size]?=u (.deferred (u []))→c.wpIn Fence.wide n P Q {a with defers:={target:= .collected w.heap.size,args:=#[]}::a.defers} X):
  (Code.rangeFunc g ps assign body).wpIn Fence.wide n P Q a w:=by
 refine wpIn_rangeFunc ?_;intro fn hfn;obtain⟨r,hr⟩:∃r:Loop,r={state:= .ready,pending:=none,fn,tmps:=a.tmps,params:=ps,assign,body,defers:=w.heap.size}:=⟨_,rfl⟩;obtain⟨W1,hW1⟩:∃W1,(w.alloc (.deferred (u []))).alloc (.loop r)=W1:=⟨_,rfl⟩;have hs1:W1.heap.size=w.heap.size+2:=by rw[←hW1];simp
 have hL1:W1.heap[w.heap.size+1]?=u (.loop r):=by
  rw[←hW1];have:=N (w.alloc (.deferred (u []))) (.loop r);rwa[World.size_alloc] at this
 have hK1:W1.heap[w.heap.size]?=u (.deferred (u [])):=by
  rw[←hW1];exact(Below.heap_alloc _ _ _ ak).trans (N w _)
 have hb1:Below w.heap.size w W1:=by rw[←hW1];exact((T _ w).alloc (Nat.le_refl _) _).alloc ak _
 have hI1:I [] W1:=hI _ _ _ h0 (.of_below hb1 (fun i _ hi=>hi));refine⟨w.heap.size+1,[{target:= .collected w.heap.size,args:=#[]}],W1,{target:= .fn (.func gf) lb,args:=#[.func (.yield (w.heap.size+1)) #[] #[]]},W1,gf,
  #[.func (.yield (w.heap.size+1)) #[] #[]]++lb,W1,?_,?_,fun _ _=>V,?_,fun h=>(by cases h),?_⟩
 ·rw[←hW1,hr];exact run_enterLoop_outer _ _ _ _ _
 ·simp only[resolve,hg]
  simp[go_sem]
 ·simp[invoke,go_sem,eg]
 have hput:∀(s:j α) (X:A) (o:Obj),I s X→I s (X.putObj (w.heap.size+1) o):=fun s X o h=>hI s _ _ h (.putObj X o ah)
 have qB:∀(c:Code) (s:j α) (X:A) (o:Obj),Ix c s X→Ix c s (X.putObj (w.heap.size+1) o):=fun c s X o h=>hIx c s _ _ h (.putObj X o ah)
 refine(hseq W1 hb1 hs1 (n - 1) (w.heap.size+1)
  (fun pre X=>I pre X∧X.heap[w.heap.size+1]?=u (.loop r)∧X.heap[w.heap.size]?=u (.deferred (u [])))
  (fun pre X=>∃c,Ix c pre X∧X.heap[w.heap.size+1]?=u (.loop {r with state:= .done,pending:=some c})∧X.heap[w.heap.size]?=u (.deferred (u [])))
  ?_ ?_ (fun s X h=>hIR s X h.1) (fun s X h=>(let⟨c,hc,_⟩:=h;Ws c s X hc)) ?_ ⟨hI1,hL1,hK1⟩).mono ?_
 ·rintro s X Y ⟨h1,h2,h3⟩ hsame
  have e2:=(y.1 h2).1;exact⟨hI s X Y h1 (hsame.mono (fun i hi hl=>by omega)),(hsame.block _ ah e2).trans h2,(hsame.block _ ah ah).trans h3⟩
 ·rintro s X Y ⟨c,h1,h2,h3⟩ hsame
  have e2:=(y.1 h2).1;exact⟨c,hIx c s X Y h1 (hsame.mono (fun i hi hl=>by omega)),(hsame.block _ ah e2).trans h2,(hsame.block _ ah ah).trans h3⟩
 ·rintro pre x args X ⟨hi,hl,hk⟩ hpx hrep hsz m
  have hra:r.assign=assign:=by rw[hr]
  have hrb:r.body=body:=by rw[hr]
  have yZ:r.params=ps:=by rw[hr]
  have hrt:r.tmps=a.tmps:=by rw[hr]
  have hrs:r.state= .ready:=by rw[hr]
  have hrn:r.pending=E:=by rw[hr]
  have hrr:({r with state:= .ready,pending:=none}:Loop)=r:=by rw[hr]
  refine Ay hl hrs V (by rw[yZ];exact hps x args X hrep) ?_;have hR:=Cc pre x args X hi hpx hrep ah m;rw[←hra,←hrb,←yZ,←hrt] at hR;refine wpIn_mono hR ?_;rintro e a1 X1 hp
  cases e with
  |normal=>
   obtain⟨hb,hbody⟩:=hp;have Ri:=(y.1 hl).1;have hl1:X1.heap[w.heap.size+1]?=u (.loop r):=(hb.block _ ah).trans hl;have hk1:X1.heap[w.heap.size]?=u (.deferred (u [])):=(hb.block _ ah).trans hk;have hlt1:=(y.1 hl1).1;refine⟨hl1,wpIn_mono (hbody _ (.putObj X1 _ ah)) ?_⟩;have hl2:(X1.putObj (w.heap.size+1) (.loop {r with state:= .busy})).heap[w.heap.size+1]?=u (.loop {r with state:= .busy}):=L hlt1;have hk2:(X1.putObj (w.heap.size+1) (.loop {r with state:= .busy})).heap[w.heap.size]?=u (.deferred (u [])):=(f ah).trans hk1;rintro e a3 X3 hq;have fin:∀o,X3.heap[w.heap.size+1]?=(X1.putObj (w.heap.size+1) (.loop {r with state:= .busy})).heap[w.heap.size+1]?→(X3.putObj (w.heap.size+1) o).heap[w.heap.size+1]?=u o:=fun o h=>
    L ((y.1 (h.trans hl2)).1)
   have keep:∀o,aO D (X1.putObj (w.heap.size+1) (.loop {r with state:= .busy})) X3→aO D X (X3.putObj (w.heap.size+1) o):=fun o hC=>
    (aO.of_below hb (fun i _ hi=>hi)).trans (((aO.putObj X1 _ hD).trans hC).trans (aO.putObj X3 _ hD))
   cases e with
   |normal=>
    obtain⟨⟨hA,hB⟩,hC,hE⟩:=hq;refine⟨hB.trans hl2,.inl ⟨rfl,⟨hput _ _ _ hE,(fin _ hB).trans (by rw[hrr]),(f ah).trans (hA.trans hk2)⟩,?_⟩⟩;exact(aO.of_below hb (fun i _ hi=>hi)).trans (((aO.putObj X1 _ hD).trans hC).trans (aO.putObj X3 _ hD))
   |ret=>
    obtain⟨⟨hA,hB⟩,hC,hE⟩:=hq;exact⟨hB.trans hl2,.inr ⟨rfl,⟨.ret,qB _ _ _ _ hE,fin _ hB,(f ah).trans (hA.trans hk2)⟩,keep _ hC⟩⟩
   |exit id=>
    obtain⟨⟨hA,hB⟩,hC,hE⟩:=hq;exact⟨hB.trans hl2,.inr ⟨rfl,⟨.exit id,qB _ _ _ _ hE,fin _ hB,(f ah).trans (hA.trans hk2)⟩,keep _ hC⟩⟩
   |goto t=>
    obtain⟨⟨hA,hB⟩,hC,hE⟩:=hq;exact⟨hB.trans hl2,.inr ⟨rfl,⟨.goto t,qB _ _ _ _ hE,fin _ hB,(f ah).trans (hA.trans hk2)⟩,keep _ hC⟩⟩
   |panic _=>exact hq.elim
   |outgrown=>exact hq.elim
  |_=>exact hp.elim
 ·rintro e X2 ⟨v,rfl,(⟨hi,hl,hk⟩|⟨pre,hpre,c,hi,hl,hk⟩)⟩
  ·exact⟨E,_,by have:=run_endLoop (P:=P) hl (by rw[hr];simp);rwa[hr] at this,hdone _ (hput _ _ _ hi) ((f ah).trans hk)⟩
  ·exact⟨u c,_,run_endLoop (P:=P) hl ak,hstop c pre _ hpre (qB _ _ _ _ hi) ((f ah).trans hk)⟩
def Ye (P:Program) (gf:F) (lb:O S) {α:Type} (rT:α→O S→A→Prop) (k:F) (D:F→Prop) (R:A→Prop) (Kp:α→O S→A→Prop) (xs:j α) (W:A):Prop:=
 ∀(n l:F) (J Jx:j α→A→Prop),
  (∀s X Y,J s X→Same (fun i=>i<W.heap.size∨W.heap.size+k≤i) X Y→J s Y)→
  (∀s X Y,Jx s X→Same (fun i=>i<W.heap.size∨W.heap.size+k≤i) X Y→Jx s Y)→
  (∀s X,J s X→R X)→(∀s X,Jx s X→R X)→
  (∀pre x args X,J pre X→pre++[x]<+:xs→rT x args X→W.heap.size+k≤X.heap.size→∀m,YieldAt Fence.wide m P l args X fun e Y=>
   (e= .returned (U true)∧J (pre++[x]) Y∧aO D X Y∧Kp x args Y)∨(e= .returned (U false)∧Jx (pre++[x]) Y∧aO D X Y))→
  J [] W→
  CallsIn Fence.wide n P gf (#[.func (.yield l) #[] #[]]++lb) W fun e Y=>∃v,e= .returned v∧(J xs Y∨∃pre,pre<+:xs∧Jx pre Y)
def Qr {α:Type} (l:F) (D:F→Prop) (I:j α→A→Prop) (Ix:Code→j α→A→Prop) (Kx:A→Prop) (xs:j α) (X:A):Exit→Act→A→Prop
 | .normal,_,Y=>(Y.heap[l]?=X.heap[l]?∧Y.heap[l+1]?=X.heap[l+1]?)∧aO D X Y∧I xs Y∧Kx Y
 | .ret,_,Y=>(Y.heap[l]?=X.heap[l]?∧Y.heap[l+1]?=X.heap[l+1]?)∧aO D X Y∧Ix .ret xs Y
 | .exit id,_,Y=>(Y.heap[l]?=X.heap[l]?∧Y.heap[l+1]?=X.heap[l+1]?)∧aO D X Y∧Ix (.exit id) xs Y
 | .goto t,_,Y=>(Y.heap[l]?=X.heap[l]?∧Y.heap[l+1]?=X.heap[l+1]?)∧aO D X Y∧Ix (.goto t) xs Y
 | .panic _,_,_=>False
 | .outgrown,_,_=>False
theorem PL {P:Program} {α:Type} {g:Operand} {ps:O Tmp} {assign body:Code} {Q:Exit→Act→A→Prop} {a:Act} {w:A} {n:F}
  {gf:F} {lb:O S} (hg:a.eval g= .func (.func gf) #[] lb) (eg:∀args w,(callFunc gf args).run P w= .ok (.enter gf args) w)
  {rT:α→O S→A→Prop} {k:F} {D:F→Prop} {R:A→Prop} {Kp:α→O S→A→Prop} {xs:j α}
  (hseq:∀W,Below w.heap.size w W→W.heap.size=w.heap.size+2→Ye P gf lb rT k D R Kp xs W)
  (hD:¬D (w.heap.size+1)) (hps:∀x args X,rT x args X→args.size=ps.size)
  (I:j α→A→Prop) (Ix:Code→j α→A→Prop)
  (hI:∀s X Y,I s X→Same (fun i=>i<w.heap.size∨w.heap.size+2+k≤i) X Y→I s Y)
  (hIx:∀c s X Y,Ix c s X→Same (fun i=>i<w.heap.size∨w.heap.size+2+k≤i) X Y→Ix c s Y)
  (hIR:∀s X,I s X→R X) (Ws:∀c s X,Ix c s X→R X)
  (hKp:∀x args X Y,Kp x args X→Same (fun i=>i<w.heap.size∨w.heap.size+2+k≤i) X Y→Kp x args Y)
  (h0:I [] w)
  (Cc:∀pre x args X,I pre X→pre++[x]<+:xs→rT x args X→w.heap.size+2+k≤X.heap.size→∀m,
   assign.wpIn (Fence.wide.inRound (w.heap.size+1)) m P (Exit.then (fun a₁ X₁=>Below X.heap.size X X₁∧∀X₂:A,Same (fun i=>i≠w.heap.size+1) X₁ X₂→
     body.wpIn (Fence.wide.inRound (w.heap.size+1)) m P (Qr w.heap.size D I Ix (Kp x args) (pre++[x]) X₂) a₁ X₂) (fun _ _ _=>False))
    {tmps:=(ps.zip args).foldl (fun t (p,v)=>t.setIfInBounds p v) a.tmps,defers:=[]} X)
  (hdone:∀X,I xs X→X.heap[w.heap.size]?=u (.deferred (u []))→Q .normal {a with defers:={target:= .collected w.heap.size,args:=#[]}::a.defers} X)
  (hstop:∀c pre X,pre<+:xs→Ix c pre X→X.heap[w.heap.size]?=u (.deferred (u []))→c.wpIn Fence.wide n P Q {a with defers:={target:= .collected w.heap.size,args:=#[]}::a.defers} X):
  (Code.rangeFunc g ps assign body).wpIn Fence.wide n P Q a w:=by
 refine wpIn_rangeFunc ?_;intro fn hfn;obtain⟨r,hr⟩:∃r:Loop,r={state:= .ready,pending:=none,fn,tmps:=a.tmps,params:=ps,assign,body,defers:=w.heap.size}:=⟨_,rfl⟩;obtain⟨W1,hW1⟩:∃W1,(w.alloc (.deferred (u []))).alloc (.loop r)=W1:=⟨_,rfl⟩;have hs1:W1.heap.size=w.heap.size+2:=by rw[←hW1];simp
 have hL1:W1.heap[w.heap.size+1]?=u (.loop r):=by
  rw[←hW1];have:=N (w.alloc (.deferred (u []))) (.loop r);rwa[World.size_alloc] at this
 have hK1:W1.heap[w.heap.size]?=u (.deferred (u [])):=by
  rw[←hW1];exact(Below.heap_alloc _ _ _ ak).trans (N w _)
 have hb1:Below w.heap.size w W1:=by rw[←hW1];exact((T _ w).alloc (Nat.le_refl _) _).alloc ak _
 have hI1:I [] W1:=hI _ _ _ h0 (.of_below hb1 (fun i _ hi=>hi));refine⟨w.heap.size+1,[{target:= .collected w.heap.size,args:=#[]}],W1,{target:= .fn (.func gf) lb,args:=#[.func (.yield (w.heap.size+1)) #[] #[]]},W1,gf,
  #[.func (.yield (w.heap.size+1)) #[] #[]]++lb,W1,?_,?_,fun _ _=>V,?_,fun h=>(by cases h),?_⟩
 ·rw[←hW1,hr];exact run_enterLoop_outer _ _ _ _ _
 ·simp only[resolve,hg]
  simp[go_sem]
 ·simp[invoke,go_sem,eg]
 have hput:∀(s:j α) (X:A) (o:Obj),I s X→I s (X.putObj (w.heap.size+1) o):=fun s X o h=>hI s _ _ h (.putObj X o ah)
 have qB:∀(c:Code) (s:j α) (X:A) (o:Obj),Ix c s X→Ix c s (X.putObj (w.heap.size+1) o):=fun c s X o h=>hIx c s _ _ h (.putObj X o ah)
 refine(hseq W1 hb1 hs1 (n - 1) (w.heap.size+1)
  (fun pre X=>I pre X∧X.heap[w.heap.size+1]?=u (.loop r)∧X.heap[w.heap.size]?=u (.deferred (u [])))
  (fun pre X=>∃c,Ix c pre X∧X.heap[w.heap.size+1]?=u (.loop {r with state:= .done,pending:=some c})∧X.heap[w.heap.size]?=u (.deferred (u [])))
  ?_ ?_ (fun s X h=>hIR s X h.1) (fun s X h=>(let⟨c,hc,_⟩:=h;Ws c s X hc)) ?_ ⟨hI1,hL1,hK1⟩).mono ?_
 ·rintro s X Y ⟨h1,h2,h3⟩ hsame
  have e2:=(y.1 h2).1;exact⟨hI s X Y h1 (hsame.mono (fun i hi hl=>by omega)),(hsame.block _ ah e2).trans h2,(hsame.block _ ah ah).trans h3⟩
 ·rintro s X Y ⟨c,h1,h2,h3⟩ hsame
  have e2:=(y.1 h2).1;exact⟨c,hIx c s X Y h1 (hsame.mono (fun i hi hl=>by omega)),(hsame.block _ ah e2).trans h2,(hsame.block _ ah ah).trans h3⟩
 ·rintro pre x args X ⟨hi,hl,hk⟩ hpx hrep hsz m
  have hra:r.assign=assign:=by rw[hr]
  have hrb:r.body=body:=by rw[hr]
  have yZ:r.params=ps:=by rw[hr]
  have hrt:r.tmps=a.tmps:=by rw[hr]
  have hrs:r.state= .ready:=by rw[hr]
  have hrn:r.pending=E:=by rw[hr]
  have hrr:({r with state:= .ready,pending:=none}:Loop)=r:=by rw[hr]
  refine Ay hl hrs V (by rw[yZ];exact hps x args X hrep) ?_;have hR:=Cc pre x args X hi hpx hrep ah m;rw[←hra,←hrb,←yZ,←hrt] at hR;refine wpIn_mono hR ?_;rintro e a1 X1 hp
  cases e with
  |normal=>
   obtain⟨hb,hbody⟩:=hp;have Ri:=(y.1 hl).1;have hl1:X1.heap[w.heap.size+1]?=u (.loop r):=(hb.block _ ah).trans hl;have hk1:X1.heap[w.heap.size]?=u (.deferred (u [])):=(hb.block _ ah).trans hk;have hlt1:=(y.1 hl1).1;refine⟨hl1,wpIn_mono (hbody _ (.putObj X1 _ ah)) ?_⟩;have hl2:(X1.putObj (w.heap.size+1) (.loop {r with state:= .busy})).heap[w.heap.size+1]?=u (.loop {r with state:= .busy}):=L hlt1;have hk2:(X1.putObj (w.heap.size+1) (.loop {r with state:= .busy})).heap[w.heap.size]?=u (.deferred (u [])):=(f ah).trans hk1;rintro e a3 X3 hq;have fin:∀o,X3.heap[w.heap.size+1]?=(X1.putObj (w.heap.size+1) (.loop {r with state:= .busy})).heap[w.heap.size+1]?→(X3.putObj (w.heap.size+1) o).heap[w.heap.size+1]?=u o:=fun o h=>
    L ((y.1 (h.trans hl2)).1)
   have keep:∀o,aO D (X1.putObj (w.heap.size+1) (.loop {r with state:= .busy})) X3→aO D X (X3.putObj (w.heap.size+1) o):=fun o hC=>
    (aO.of_below hb (fun i _ hi=>hi)).trans (((aO.putObj X1 _ hD).trans hC).trans (aO.putObj X3 _ hD))
   cases e with
   |normal=>
    obtain⟨⟨hA,hB⟩,hC,hE,hKK⟩:=hq;refine⟨hB.trans hl2,.inl ⟨rfl,⟨hput _ _ _ hE,(fin _ hB).trans (by rw[hrr]),(f ah).trans (hA.trans hk2)⟩,keep _ hC,hKp _ _ _ _ hKK (.putObj X3 _ ah)⟩⟩
   |ret=>
    obtain⟨⟨hA,hB⟩,hC,hE⟩:=hq;exact⟨hB.trans hl2,.inr ⟨rfl,⟨.ret,qB _ _ _ _ hE,fin _ hB,(f ah).trans (hA.trans hk2)⟩,keep _ hC⟩⟩
   |exit id=>
    obtain⟨⟨hA,hB⟩,hC,hE⟩:=hq;exact⟨hB.trans hl2,.inr ⟨rfl,⟨.exit id,qB _ _ _ _ hE,fin _ hB,(f ah).trans (hA.trans hk2)⟩,keep _ hC⟩⟩
   |goto t=>
    obtain⟨⟨hA,hB⟩,hC,hE⟩:=hq;exact⟨hB.trans hl2,.inr ⟨rfl,⟨.goto t,qB _ _ _ _ hE,fin _ hB,(f ah).trans (hA.trans hk2)⟩,keep _ hC⟩⟩
   |panic _=>exact hq.elim
   |outgrown=>exact hq.elim
  |_=>exact hp.elim
 ·rintro e X2 ⟨v,rfl,(⟨hi,hl,hk⟩|⟨pre,hpre,c,hi,hl,hk⟩)⟩
  ·exact⟨E,_,by have:=run_endLoop (P:=P) hl (by rw[hr];simp);rwa[hr] at this,hdone _ (hput _ _ _ hi) ((f ah).trans hk)⟩
  ·exact⟨u c,_,run_endLoop (P:=P) hl ak,hstop c pre _ hpre (qB _ _ _ _ hi) ((f ah).trans hk)⟩
attribute [local go_sem] Oper.semAt_some
section
variable (J Jx:j (G × z)→A→Prop) (D:F→Prop) (xs:j (G × z)) (B l:F)
def Ot (pre:j (G × z)) (X:A):Prop:=
 Bx X B #[.func (.yield l) #[] #[]]∧Bx X (B+2) #[.func (.func 138) #[] #[M (u ⟨B+1,0,E⟩),M (u ⟨B,0,E⟩)]]∧
 ((Bx X (B+1) #[U true]∧J pre X)∨(Bx X (B+1) #[U false]∧∃p,p<+:xs∧Jx p X))
theorem LM (hJ:∀s X Y,J s X→Same (fun i=>i<B∨B+3≤i) X Y→J s Y) (hJx:∀s X Y,Jx s X→Same (fun i=>i<B∨B+3≤i) X Y→Jx s Y)
  (hD:∀i,B≤i→i<B+3→D i)
  (hY:∀pre x args X,J pre X→pre++[x]<+:xs→Jh x args X→B+3≤X.heap.size→∀m,YieldAt Fence.wide m Tryz.prog l args X fun e Y=>
   (e= .returned (U true)∧J (pre++[x]) Y∧aO D X Y)∨(e= .returned (U false)∧Jx (pre++[x]) Y∧aO D X Y))
  (pre:j (G × z)) (s:G) (b o:F) (X:A) (hpre:pre++[(s,(⟨b,o,E⟩:z))]<+:xs) (hX:Ot J Jx xs B l pre X) (m:F):
  CallsIn Fence.wide m Tryz.prog 138 #[.int .i64 s,M (u ⟨b,o,E⟩),M (u ⟨B+1,0,E⟩),M (u ⟨B,0,E⟩)] X fun e Y=>
   (∃v,e= .returned v)∧Ot J Jx xs B l (pre++[(s,(⟨b,o,E⟩:z))]) Y∧aO (fun i=>D i∧¬(B≤i∧i<B+3)) X Y:=by
 obtain⟨h0,h2,h1⟩:=hX;have hc0:=h0.1;have hl0:=h0.2.2;rcases h1 with⟨h1,hj⟩|⟨h1,p,hp,hj⟩
 ·have hc1:=h1.1;have hl1:=h1.2.2
  obtain⟨fn,tmps,assign,body,hy,hR⟩:=hY pre (s,(⟨b,o,E⟩:z)) #[.int .i64 s,M (u ⟨b,o,E⟩)] X hj hpre rfl h2.2.2 (m - 1);refine callsIn_of_wp func138 rfl V ?_ rfl;simp only[ntmps138,List.size_toArray,List.length_cons,List.length_nil,Nat.reduceAdd,Nat.reduceSub,Z,Array.replicate_zero,List.push_toArray,List.append_toArray,List.nil_append,List.cons_append];have H0:=hid h0;have H2:=hid h2;have H1:=hid h1
  gi_wp2
  refine⟨fun h=>(by cases h),?_⟩;refine hR.mono ?_;clear hR hy hj;rintro e Y (⟨rfl,hJ',hk⟩|⟨rfl,zC,hk⟩)
  ·have hy1:=hk.bx H1.q (hD _ ah ah);have hy0:=hk.bx H0.q (hD _ ah ah);have hy2:=hk.bx H2.q (hD _ ah ah)
   have hc1:=hy1.1;have hf1:=hy1.2.1
   gi_wp2
   go_end0
   exact⟨⟨_,rfl⟩,⟨hy0.setOther _ _ _ ah,hy2.setOther _ _ _ ah,.inl ⟨hy1.set1 _,hJ _ _ _ hJ' (Same.setCell _ _ _ _ ah)⟩⟩,
    (hk.mono (fun i hi _=>hi.1)).trans (aO.setCell _ _ _ _ ah)⟩
  ·have hy1:=hk.bx H1.q (hD _ ah ah);have hy0:=hk.bx H0.q (hD _ ah ah);have hy2:=hk.bx H2.q (hD _ ah ah)
   have hc1:=hy1.1;have hf1:=hy1.2.1
   gi_wp2
   go_end0
   exact⟨⟨_,rfl⟩,⟨hy0.setOther _ _ _ ah,hy2.setOther _ _ _ ah,.inr ⟨hy1.set1 _,_,hpre,hJx _ _ _ zC (Same.setCell _ _ _ _ ah)⟩⟩,
    (hk.mono (fun i hi _=>hi.1)).trans (aO.setCell _ _ _ _ ah)⟩
 ·have hc1:=h1.1;have hl1:=h1.2.2;have hf1:=h1.2.1
  have H0:=hid h0;have H2:=hid h2;have H1:=hid h1;refine callsIn_of_wp func138 rfl V ?_ rfl;simp only[ntmps138,List.size_toArray,List.length_cons,List.length_nil,Nat.reduceAdd,Nat.reduceSub,Z,Array.replicate_zero,List.push_toArray,List.append_toArray,List.nil_append,List.cons_append]
  gi_wp2
  refine⟨fun _ h=>(by cases h),?_⟩
  gi_wp2
  go_end0
  exact⟨⟨_,rfl⟩,⟨H0.q.setOther _ _ _ ah,H2.q.setOther _ _ _ ah,.inr ⟨H1.q.set1 _,p,hp,hJx _ _ _ hj (Same.setCell _ _ _ _ ah)⟩⟩,aO.setCell _ _ _ _ ah⟩
end
variable (J Jx:j (G × z)→A→Prop) (D:F→Prop) (xs:j (G × z)) (B l:F)
def Yf (J Jx:j (G × z)→A→Prop) (D:F→Prop) (xs:j (G × z)) (B l:F) (pre:j (G × z)) (X:A) (e:Ending) (Y:A):Prop:=
 (∃v,e= .returned v)∧Ot J Jx xs B l pre Y∧aO (fun i=>D i∧¬(B≤i∧i<B+3)) X Y
theorem Wt (hJ:∀s X Y,J s X→Same (fun i=>i<B∨B+3≤i) X Y→J s Y) (hJx:∀s X Y,Jx s X→Same (fun i=>i<B∨B+3≤i) X Y→Jx s Y)
  (hD:∀i,B≤i→i<B+3→D i)
  (hY:∀pre x args X,J pre X→pre++[x]<+:xs→Jh x args X→B+3≤X.heap.size→∀m,YieldAt Fence.wide m Tryz.prog l args X fun e Y=>
   (e= .returned (U true)∧J (pre++[x]) Y∧aO D X Y)∨(e= .returned (U false)∧Jx (pre++[x]) Y∧aO D X Y))
  (pre:j (G × z)) (v:kT) (b o:F) (X:A) (hpre:pre++iy ⟨b,o,E⟩ v<+:xs) (hX:Ot J Jx xs B l pre X) (hc1:X.cell? ⟨b,o+1,E⟩=u (.int .i64 v.k)):
  Calls Tryz.prog 139 #[M (u ⟨b,o,E⟩),M (u ⟨B+2,0,E⟩)] X (Yf J Jx D xs B l (pre++iy ⟨b,o,E⟩ v) X):=by
 by_cases hk:0<v.k
 ·have hv:iy ⟨b,o,E⟩ v=[(0,(⟨b,o,E⟩:z))]:=by simp[iy,hk]
  rw[hv] at hpre ⊢;have HX:=hid hX;go_enter func139,ntmps139;go_wp2_with fail;have hx2:=hX.2.1;have Tq:Ot J Jx xs B l pre X.drew:=⟨hX.1.drew,hX.2.1.drew,by
   rcases hX.2.2 with⟨h1,hj⟩|⟨h1,p,hp,hj⟩
   ·exact .inl ⟨h1.drew,hJ _ _ _ hj (Same.of_below ((T X.heap.size X).drew) (fun i _ hi=>hi))⟩
   ·exact .inr ⟨h1.drew,p,hp,hJx _ _ _ hj (Same.of_below ((T X.heap.size X).drew) (fun i _ hi=>hi))⟩⟩
  have HS:=hid (callsIn_wide.1 (LM J Jx D xs B l hJ hJx hD hY pre 0 b o X.drew hpre Tq 3));clear Tq;refine aP [(0,true),(1,true),(2,true),(3,true),(4,false)] (fun W'=>Bx W' (B+2) #[.func (.func 138) #[] #[M (u ⟨B+1,0,E⟩),M (u ⟨B,0,E⟩)]]) au au (by intro d v c a w h;cases d <;> exact h) (hx2.drew) ?_;refine qO ?_;refine dD rfl rfl (fun K hK=>?_);go_simp;refine HS.q.mono ?_;rintro e Y ⟨⟨r,rfl⟩,hA,hk⟩;refine hK _ _ hA.2.1 ?_;clear hK K;refine cB ?_;go_wp2_with fail
  go_end0
  exact⟨⟨_,rfl⟩,hA,(aO.of_below ((T X.heap.size X).drew) (fun i _ hi=>hi)).trans hk⟩
 ·have hv:iy ⟨b,o,E⟩ v=[]:=by simp[iy,hk]
  rw[hv,List.append_nil];go_enter func139,ntmps139;go_wp2_with fail
  go_end0
  exact⟨⟨_,rfl⟩,hX,aO.refl _⟩
end Yd
namespace Yd
open List renaming mem_singleton→a,mem_map→c,mem_cons→l,map_append→m,mem_cons_of_mem→n,mem_append→t,nodup_cons→u,mem_of_getElem?→w,map_cons→z,pairwise_cons→A,nodup_append→B
open Option renaming some→d,none→r
open Go Go.RowKit Go.Proofs
section
variable {α:Type} {hd:Nat→α→List (Int × Addr)} {sub:α→List (Int × Addr)}
theorem eP:∀(xs:List α) (i:Nat) (p:Int × Addr),p∈gr hd sub i xs↔∃j x,xs[j]?=d x∧(p∈hd (i+j) x∨p∈sub x)
 |[],_,_=>⟨fun h=>(by cases h),fun⟨_,_,h,_⟩=>(by cases h)⟩
 |x::xs,i,p=>by
  show p∈hd i x++(sub x++gr hd sub (i+1) xs)↔_;rw[t,t,eP xs (i+1) p]
  constructor
  ·rintro(h|h|⟨j,y,h1,h2⟩)
   ·exact⟨0,x,rfl,.inl h⟩
   ·exact⟨0,x,rfl,.inr h⟩
   ·exact⟨j+1,y,h1,by rw[show i+(j+1)=i+1+j by omega];exact h2⟩
  ·rintro⟨j,y,h1,h2⟩
   cases j with
   |zero=>
    injection h1 with h1;subst h1;rcases h2 with h2|h2
    ·exact .inl h2
    ·exact .inr (.inl h2)
   |succ j=>exact .inr (.inr ⟨j,y,h1,by rw[show i+1+j=i+(j+1) by omega];exact h2⟩)
theorem yt {β:Type} (f:Int × Addr→β) (g:α→List β):∀(xs:List α) (i:Nat),(∀j x,xs[j]?=d x→(hd (i+j) x).map f++(sub x).map f=g x)→(gr hd sub i xs).map f=xs.flatMap g
 |[],_,_=>rfl
 |x::xs,i,h=>by
  show(hd i x++(sub x++gr hd sub (i+1) xs)).map f=_;rw[m,m,List.flatMap_cons,←h 0 x rfl,yt f g xs (i+1) (fun j y hy=>by rw[show i+1+j=i+(j+1) by omega];exact h (j+1) y hy),List.append_assoc]
  rfl
def LP (b k i j:Nat) (p:Addr):Prop:=p.block=b∧i*k≤p.off∧p.off<j*k
theorem sZ {b k:Nat} {blk:α→Option Nat}:∀(xs:List α) (i:Nat),
  (∀j x,xs[j]?=d x→((hd (i+j) x).map Prod.snd).Nodup∧∀p∈hd (i+j) x,LP b k (i+j) (i+j+1) p.2)→
  (∀x∈xs,((sub x).map Prod.snd).Nodup∧∀p∈sub x,blk x=d p.2.block∧p.2.block≠b)→
  xs.Pairwise (fun x y=>∀g,blk x=d g→blk y≠d g)→((gr hd sub i xs).map Prod.snd).Nodup
 |[],_,_,_,_=>List.nodup_nil
 |x::xs,i,h1,h2,h3=>by
  have ih:=sZ xs (i+1) (fun j y hy=>by rw[show i+1+j=i+(j+1) by omega];exact h1 (j+1) y hy) (fun y hy=>h2 y (n _ hy)) (A.1 h3).2;have hx:=h1 0 x rfl;have hs:=h2 x List.mem_cons_self;have hp:=(A.1 h3).1;show((hd i x++(sub x++gr hd sub (i+1) xs)).map Prod.snd).Nodup;rw[m,m];refine B.2 ⟨hx.1,B.2 ⟨hs.1,ih,?_⟩,?_⟩
  ·intro p hp1 q hq e
   obtain⟨p',hp',rfl⟩:=c.1 hp1;obtain⟨q',hq',rfl⟩:=c.1 hq;obtain⟨j,y,hy,hq2⟩:=(eP xs (i+1) q').1 hq';have hb:=hs.2 p' hp';rcases hq2 with hq2|hq2
   ·have:=(h1 (j+1) y hy).2 q' (by rw[show i+(j+1)=i+1+j by omega];exact hq2)
    exact hb.2 (by rw[e];exact this.1)
   ·have hm:=w hy
    have:=(h2 y (n _ hm)).2 q' hq2;exact hp y hm _ hb.1 (by rw[this.1,e])
  ·intro p hp1 q hq e
   obtain⟨p',hp',rfl⟩:=c.1 hp1;have hb:=hx.2 p' hp';rcases t.1 hq with hq|hq
   ·obtain⟨q',hq',rfl⟩:=c.1 hq
    exact(hs.2 q' hq').2 (by rw[←e];exact hb.1)
   ·obtain⟨q',hq',rfl⟩:=c.1 hq
    obtain⟨j,y,hy,hq2⟩:=(eP xs (i+1) q').1 hq';rcases hq2 with hq2|hq2
    ·have:=(h1 (j+1) y hy).2 q' (by rw[show i+(j+1)=i+1+j by omega];exact hq2)
     have h5:=hb.2.2;have h6:=this.2.1;rw[e] at h5;have:(i+0+1)*k≤(i+(j+1))*k:=Nat.mul_le_mul_right _ ah;omega
    ·have hm:=w hy
     have:=(h2 y (n _ hm)).2 q' hq2;exact this.2 (by rw[←e];exact hb.1)
end
theorem ou {p:Addr} {v:kT} {x:Int × Addr}:x∈iy p v↔x=(0,p)∧0<v.k:=by
 unfold iy
 split
 ·rename_i h;simp[h]
 ·rename_i h;simp[h]
theorem IK (p:Addr) (v:kT):((iy p v).map Prod.snd).Nodup:=by
 unfold iy
 split <;> simp
section
variable {b o:Nat}
theorem JV (i:Nat) (s:Sn):((JZ (d ⟨b,0,r⟩) i s).map Prod.snd).Nodup∧∀p∈JZ (d ⟨b,0,r⟩) i s,LP b 3 i (i+1) p.2:=by
 constructor
 ·unfold JZ
  rw[z];refine u.2 ⟨fun h=>?_,IK _ _⟩;obtain⟨p,hp,e⟩:=c.1 h;rw[(ou.1 hp).1] at e;injection e with _ e;simp at e
 ·intro p hp
  rcases l.1 hp with rfl|hp
  ·exact⟨rfl,by show _≤0+i*3;omega,by show 0+i*3<_;omega⟩
  ·rw[(ou.1 hp).1]
   exact⟨rfl,by show _≤0+(i*3+1);omega,by show 0+(i*3+1)<_;omega⟩
theorem JX (i:Nat) (e:EvC):((rV (d ⟨b,0,r⟩) i e).map Prod.snd).Nodup∧∀p∈rV (d ⟨b,0,r⟩) i e,LP b 9 i (i+1) p.2:=by
 have hv:∀p∈iy (lM (d ⟨b,0,r⟩) (i*9+5)) e.v,p=(0,(⟨b,0+(i*9+5),r⟩:Addr)):=fun p hp=>(ou.1 hp).1
 constructor
 ·unfold rV
  split
  ·simp
  ·split
   ·rw[z,z]
    refine u.2 ⟨fun h=>?_,u.2 ⟨fun h=>?_,IK _ _⟩⟩
    ·rcases l.1 h with e|h
     ·injection e with _ e;simp at e
     ·obtain⟨p,hp,e⟩:=c.1 h
      rw[hv p hp] at e;injection e with _ e;simp at e
    ·obtain⟨p,hp,e⟩:=c.1 h
     rw[hv p hp] at e;injection e with _ e;simp at e
   ·split <;> simp
 ·intro p hp
  unfold rV at hp;rcases l.1 hp with rfl|hp
  ·exact⟨rfl,by show _≤0+(i*9+1);omega,by show 0+(i*9+1)<_;omega⟩
  ·split at hp
   ·rw[a.1 hp]
    exact⟨rfl,by show _≤0+(i*9+2);omega,by show 0+(i*9+2)<_;omega⟩
   ·split at hp
    ·rcases l.1 hp with rfl|hp
     ·exact⟨rfl,by show _≤0+(i*9+4);omega,by show 0+(i*9+4)<_;omega⟩
     ·rw[hv p hp]
      exact⟨rfl,by show _≤0+(i*9+5);omega,by show 0+(i*9+5)<_;omega⟩
    ·split at hp
     ·rw[a.1 hp]
      exact⟨rfl,by show _≤0+(i*9+7);omega,by show 0+(i*9+7)<_;omega⟩
     ·cases hp
theorem Q6 (i:Nat) (x:Int):((WT (d ⟨b,0,r⟩) i x).map Prod.snd).Nodup∧∀p∈WT (d ⟨b,0,r⟩) i x,LP b 1 i (i+1) p.2:=by
 refine⟨by simp,fun p hp=>?_⟩;rw[a.1 hp];exact⟨rfl,by show _≤0+i;omega,by show 0+i<_;omega⟩
theorem Q7 (i:Nat) (x:aK):((Na (d ⟨b,0,r⟩) i x).map Prod.snd).Nodup∧∀p∈Na (d ⟨b,0,r⟩) i x,LP b 2 i (i+1) p.2:=by
 refine⟨by simp,fun p hp=>?_⟩;rw[a.1 hp];exact⟨rfl,by show _≤0+i*2;omega,by show 0+i*2<_;omega⟩
theorem Q8 (i:Nat) (x:aM):((JY (d ⟨b,0,r⟩) i x).map Prod.snd).Nodup∧∀p∈JY (d ⟨b,0,r⟩) i x,LP b 4 i (i+1) p.2:=by
 refine⟨by simp,fun p hp=>?_⟩;rcases l.1 hp with rfl|hp
 ·exact⟨rfl,by show _≤0+i*4;omega,by show 0+i*4<_;omega⟩
 ·rw[a.1 hp]
  exact⟨rfl,by show _≤0+(i*4+1);omega,by show 0+(i*4+1)<_;omega⟩
theorem Q9 (i:Nat) (x:Wa):((Nb (d ⟨b,0,r⟩) i x).map Prod.snd).Nodup∧∀p∈Nb (d ⟨b,0,r⟩) i x,LP b 2 i (i+1) p.2:=by
 refine⟨by simp,fun p hp=>?_⟩;rw[a.1 hp];exact⟨rfl,by show _≤0+i*2;omega,by show 0+i*2<_;omega⟩
end
end Yd
