import Derived.Test.YtpeojoobplpcoaaGreatDoorPSpoken3
set_option linter.all false
set_option maxRecDepth 200000
set_option maxHeartbeats 8000000
namespace Yd
open Option renaming some->z
open Go Go.RowKit Go.Proofs
open Go renaming World->j,Value->G
open World renaming putObj_heap_other->f,putObj_heap_same->C,alloc_heap_new->E
open _root_ renaming List->u,Int->A,Nat->B,Array->F
def D5 (st:(B->A) × Bool)(x:A × A):(B->A) × Bool:=
 if st.2=true/\x.2<=st.1 x.1.toNat then(λs=>if s=x.1.toNat then(if x.2+1>st.1 s then x.2+1 else st.1 s) else st.1 s,true) else(st.1,false)
def jg (xs:u (A × A)):(B->A) × Bool:=xs.foldl D5 (λ_=>0,true)
theorem BZ (xs:u (A × A))(x:A × A):jg (xs++[x])=D5 (jg xs) x:=by simp[jg]
theorem aeZ {pre xs:u (A × A)}(h:pre<+:xs)(hf:(jg pre).2=false):(jg xs).2=false:=by
 obtain⟨t,rfl⟩:=h;rw[jg,List.foldl_append];show(t.foldl D5 (jg pre)).2=false;generalize jg pre=st at hf
 induction t generalizing st with
 |nil=>exact hf
 |cons y t ih=>exact ih _ (by simp[D5,hf])
theorem Sv {st:(B->A) × Bool}{x:A × A}(h:x.2>st.1 x.1.toNat):(D5 st x).2=false:=by
 unfold D5;rw[au ah]
theorem Ol {m:B->A}{b:Bool}{s:B}{n:A}(hb:b=true)(h:n<=m s):D5 (m,b) ((s:A),n)=(λi=>if i=s then(if n+1>m i then n+1 else m i) else m i,true):=by
 unfold D5;rw[av ⟨hb,by simpa using h⟩];simp
theorem nI {n:A}{m:B}(h:aV n m=true):0<=n/\n<m:=by simpa[aV] using h
theorem ajx {v:lK}{nt:B}(h:gI v nt=true)(hk:0<v.k):0<=v.t/\v.t<nt:=by
 unfold gI at h;rw[au ah] at h;simp only[aO] at h;exact nI h.1.1
def xI (x:A × A):Prop:=(0<=x.1/\x.1<4)/\0<=x.2/\x.2<300
theorem Ub {v:lK}{nt:B}(h:gI v nt=true)(hn:nt<=300):∀x∈jN v,xI x:=by
 intro x hx;unfold jN at hx
 split at hx
 .obtain rfl:x=(0,v.t):=by simpa using hx
  have:=ajx h ‹_›;exact⟨⟨by simp,by simp⟩,this.1,by have:=this.2;show v.t<300;omega⟩
 .cases hx
theorem tF {a n:A}{m:B}(ha:0<=a)(ha4:a<4)(h:aV n m=true)(hm:m<=300):xI (a,n):=
 ⟨⟨ha,ha4⟩,(nI h).1,by have:=(nI h).2;show n<300;omega⟩
theorem ajy {nt ns no np:B}{e:EvC}{scan:u Sn}(h:gL nt ns no np e scan=true)(h1:nt<=300)(h2:ns<=300)(h3:no<=300)(h4:np<=300):∀x∈jv e scan,xI x:=by
 simp only[gL,aO] at h;obtain⟨⟨⟨⟨_,_⟩,ht⟩,hh⟩,hb⟩:=h;have hscan:∀s∈scan,xI (2,s.obj)/\∀x∈jN s.v,xI x:=by
  intro s hs;by_cases k4:e.kind=4
  .simp[hasB,k4] at hh
   obtain⟨⟨_,_⟩,ha⟩:=hh;have:=ha s hs;simp only[jW,aO] at this;exact⟨tF aj aj this.1 h3,Ub this.2 h1⟩
  .have hn:scan=[]:=by
    unfold gV at hb;rw[au k4] at hb
    split at hb
    .simpa using(by simp only[aO,aW] at hb;exact hb.2)
    .split at hb <;> (simp only[aO,aW] at hb;exact hb.2)
   rw[hn] at hs;cases hs
 intro x hx;simp only[jv,dm,dU,lH] at hx;rcases hx with(rfl|hx)|⟨s,hs,hx⟩
 .exact tF aj aj ht h1
 .unfold hasB at hh
  split at hx
  .rw[av ‹_›] at hh
   obtain rfl:x=(1,e.bW):=by simpa using hx
   simp only[aO] at hh;exact tF aj aj hh.1 h2
  .rename_i k1
   rw[au k1] at hh
   split at hx
   .rename_i k23
    have hov:aV e.obj no=true/\gI e.v nt=true:=by
     rcases k23 with k2|k3
     .rw[av k2] at hh;simp only[aO] at hh;exact hh.1.1
     .rw[au ah,av k3] at hh;simp only[aO] at hh;exact hh
    rcases dU.1 hx with rfl|hx
    .exact tF aj aj hov.1 h3
    .exact Ub hov.2 h1 x hx
   .rename_i k23
    split at hx
    .rename_i k4
     rw[au ah,au ah,av k4] at hh;simp only[aO] at hh;obtain rfl:x=(3,e.pred):=by simpa using hx
     exact tF aj aj hh.1.1 h4
    .cases hx
 .rcases hx with rfl|hx
  .exact(hscan s hs).1
  .exact(hscan s hs).2 x hx
theorem Ma {h:HC}{nl:B->u Bs}{es:u EvC}{ds:u aM}{ms:u aN}{qs:u Wa}{scan:EvC->u Sn}{dn:aM->u A}{mn:aN->u A}(hs:jq h nl es ds ms qs scan dn mn=true)
  (hlen:∀i,i<4->(nl i).length=(h.nm i).n):∀x∈lu es ds ms qs scan dn mn,xI x:=by
 simp only[jq,sV,aO,fA,xL] at hs;obtain⟨⟨⟨⟨⟨_,hnm⟩,he⟩,hd⟩,hm⟩,hw⟩:=hs;have lim:∀i,i<4->(h.nm i).n<=300:=λi hi=>by
  have:=hnm i hi;simp only[sG,aO,aW] at this;have h1:=this.1;rw[hlen i hi] at h1;have:LB i<=300:=by
   match i,hi with
   |0,_=>decide
   |1,_=>decide
   |2,_=>decide
   |3,_=>decide
  omega
 have lt:h.t.n<=300:=lim 0 aj;have ls:h.s.n<=300:=lim 1 aj;have lo:h.o.n<=300:=lim 2 aj;have lp:h.p.n<=300:=lim 3 aj;have ltd:∀(l:u A),eZ h.t.n l=true->∀x∈l.map (λd=>((0:A),d)),xI x:=λl hl x hx=>by
  obtain⟨d,hdm,rfl⟩:=dI.1 hx;simp only[eZ,aO,fA] at hl;exact tF aj aj (hl.2 d hdm) lt
 intro x hx;simp only[lu,dm,lH] at hx;rcases hx with((⟨e,hem,hx⟩|⟨d,hdm,hx⟩)|⟨m,hmm,hx⟩)|⟨q,hqm,hx⟩
 .exact ajy (he e hem) lt ls lo lp x hx
 .have:=hd d hdm
  simp only[O7,aO] at this;rcases dU.1 hx with rfl|hx
  .exact tF aj aj this.1 lo
  .exact ltd _ this.2 x hx
 .have:=hm m hmm
  simp only[O8,aO] at this;rcases dU.1 hx with rfl|hx
  .exact tF aj aj this.1.1 lp
  .rcases dU.1 hx with rfl|hx
   .exact tF aj aj this.1.2 lo
   .exact ltd _ this.2 x hx
 .have:=hw q hqm
  simp only[Ke,aO] at this;obtain rfl:x=(1,q.bW):=by simpa[oF] using hx
  exact tF aj aj this.1.1 ls
def ad1 (P:Program)(gf:B)(lb:F G){α:Type}(qP:α->F G->j->Prop)(k:B)(D:B->Prop)(R:j->Prop)(Kp:α->F G->j->Prop)(xs:u α)(W:j):Prop:=
 ∀(n l:B)(J Jx:u α->j->Prop),
  (∀s X Y,J s X->Same (λi=>i<W.1.size\/W.1.size+k<=i) X Y->J s Y)->
  (∀s X Y,Jx s X->Same (λi=>i<W.1.size\/W.1.size+k<=i) X Y->Jx s Y)->
  (∀s X,J s X->R X)->(∀s X,Jx s X->R X)->
  (∀pre x args X,J pre X->pre++[x]<+:xs->qP x args X->W.1.size+k<=X.1.size->∀m,YieldAt Fence.wide m P l args X λe Y=>
   (e= .returned (.bool true)/\J (pre++[x]) Y/\aQ D X Y/\Kp x args Y)\/(e= .returned (.bool false)/\Jx (pre++[x]) Y/\aQ D X Y))->
  J [] W->
  CallsIn Fence.wide n P gf (#[.func (.yield l) #[] #[]]++lb) W λe Y=>∃v,e= .returned v/\(J xs Y\/∃pre,pre<+:xs/\Jx pre Y)
def V8 {α:Type}(l:B)(D:B->Prop)(I:u α->j->Prop)(Ix:Code->u α->j->Prop)(Kx:j->Prop)(xs:u α)(X:j):Exit->Act->j->Prop
 | .normal,_,Y=>(Y.1[l]?=X.1[l]?/\Y.1[l+1]?=X.1[l+1]?)/\aQ D X Y/\I xs Y/\Kx Y
 | .ret,_,Y=>(Y.1[l]?=X.1[l]?/\Y.1[l+1]?=X.1[l+1]?)/\aQ D X Y/\Ix .ret xs Y
 | .exit id,_,Y=>(Y.1[l]?=X.1[l]?/\Y.1[l+1]?=X.1[l+1]?)/\aQ D X Y/\Ix (.exit id) xs Y
 | .goto t,_,Y=>(Y.1[l]?=X.1[l]?/\Y.1[l+1]?=X.1[l+1]?)/\aQ D X Y/\Ix (.goto t) xs Y
 | .panic _,_,_=>False
 | .outgrown,_,_=>False
theorem VL {P:Program}{α:Type}{g:Operand}{ps:F Tmp}{assign body:Code}{Q:Exit->Act->j->Prop}{a:Act}{w:j}{n:B}
  {gf:B} {lb:F G} (hg:a.eval g= .func (.func gf) #[] lb) (eg:∀args w,(callFunc gf args).run P w= .ok (.enter gf args) w)
  {qP:α->F G->j->Prop} {k:B} {D:B->Prop} {R:j->Prop} {Kp:α->F G->j->Prop} {xs:u α}
  (hseq:∀W,Below w.1.size w W->W.1.size=w.1.size+2->ad1 P gf lb qP k D R Kp xs W)
  (hD:¬D (w.1.size+1)) (hps:∀x args X,qP x args X->args.size=ps.size)
  (I:u α->j->Prop) (Ix:Code->u α->j->Prop)
  (hI:∀s X Y,I s X->Same (λi=>i<w.1.size\/w.1.size+2+k<=i) X Y->I s Y)
  (hIx:∀c s X Y,Ix c s X->Same (λi=>i<w.1.size\/w.1.size+2+k<=i) X Y->Ix c s Y)
  (hIR:∀s X,I s X->R X) (ab1:∀c s X,Ix c s X->R X)
  (hKp:∀x args X Y,Kp x args X->Same (λi=>i<w.1.size\/w.1.size+2+k<=i) X Y->Kp x args Y)
  (h0:I [] w)
  (BM:∀pre x args X,I pre X->pre++[x]<+:xs->qP x args X->w.1.size+2+k<=X.1.size->∀m,
   assign.wpIn (Fence.wide.inRound (w.1.size+1)) m P (Exit.then (λa₁ X₁=>Below X.1.size X X₁/\∀X₂:j,Same (λi=>i≠w.1.size+1) X₁ X₂->
     body.wpIn (Fence.wide.inRound (w.1.size+1)) m P (V8 w.1.size D I Ix (Kp x args) (pre++[x]) X₂) a₁ X₂) (λ_ _ _=>False))
    {tmps:=(ps.zip args).foldl (λt (p,v)=>t.setIfInBounds p v) a.tmps,defers:=[]} X)
  (hdone:∀X,I xs X->X.1[w.1.size]?=z (.deferred (z []))->Q .normal {a with defers:={target:= .collected w.1.size,args:=#[]}::a.defers} X)
  (hstop:∀c pre X,pre<+:xs->Ix c pre X->X.1[w.1.size]?=z (.deferred (z []))->c.wpIn Fence.wide n P Q {a with defers:={target:= .collected w.1.size,args:=#[]}::a.defers} X):
  (Code.rangeFunc g ps assign body).wpIn Fence.wide n P Q a w:=by
 refine wpIn_rangeFunc ?_;intro fn hfn;obtain⟨r,hr⟩:∃r:Loop,r={state:= .ready,pending:=none,fn,tmps:=a.tmps,params:=ps,assign,body,defers:=w.1.size}:=⟨_,rfl⟩;obtain⟨W1,hW1⟩:∃W1,(w.alloc (.deferred (z []))).alloc (.loop r)=W1:=⟨_,rfl⟩;have hs1:W1.1.size=w.1.size+2:=by rw[<-hW1];simp
 have hL1:W1.1[w.1.size+1]?=z (.loop r):=by
  rw[<-hW1];have:=E (w.alloc (.deferred (z []))) (.loop r);rwa[World.size_alloc] at this
 have hK1:W1.1[w.1.size]?=z (.deferred (z [])):=by
  rw[<-hW1];exact(Below.heap_alloc _ _ _ ak).trans (E w _)
 have hb1:Below w.1.size w W1:=by rw[<-hW1];exact((Below.refl _ w).alloc (aB _) _).alloc ak _
 have hI1:I [] W1:=hI _ _ _ h0 (.of_below hb1 (λi _ hi=>hi));refine⟨w.1.size+1,[{target:= .collected w.1.size,args:=#[]}],W1,{target:= .fn (.func gf) lb,args:=#[.func (.yield (w.1.size+1)) #[] #[]]},W1,gf,
  #[.func (.yield (w.1.size+1)) #[] #[]]++lb,W1,?_,?_,λ_ _=>trivial,?_,λh=>(by cases h),?_⟩
 .rw[<-hW1,hr];exact run_enterLoop_outer _ _ _ _ _
 .simp only[resolve,hg]
  simp[go_sem]
 .simp[invoke,go_sem,eg]
 have hput:∀(s:u α)(X:j)(o:Obj),I s X->I s (X.putObj (w.1.size+1) o):=λs X o h=>hI s _ _ h (.putObj X o ah)
 have oK:∀(c:Code)(s:u α)(X:j)(o:Obj),Ix c s X->Ix c s (X.putObj (w.1.size+1) o):=λc s X o h=>hIx c s _ _ h (.putObj X o ah)
 refine(hseq W1 hb1 hs1 (n - 1) (w.1.size+1)
  (λpre X=>I pre X/\X.1[w.1.size+1]?=z (.loop r)/\X.1[w.1.size]?=z (.deferred (z [])))
  (λpre X=>∃c,Ix c pre X/\X.1[w.1.size+1]?=z (.loop {r with state:= .done,pending:=some c})/\X.1[w.1.size]?=z (.deferred (z [])))
  ?_ ?_ (λs X h=>hIR s X h.1) (λs X h=>(let⟨c,hc,_⟩:=h;ab1 c s X hc)) ?_ ⟨hI1,hL1,hK1⟩).mono ?_
 .rintro s X Y ⟨h1,h2,h3⟩ hsame
  have e2:=(dh.1 h2).1;exact⟨hI s X Y h1 (hsame.mono (λi hi hl=>by omega)),(hsame.block _ ah e2).trans h2,(hsame.block _ ah ah).trans h3⟩
 .rintro s X Y ⟨c,h1,h2,h3⟩ hsame
  have e2:=(dh.1 h2).1;exact⟨c,hIx c s X Y h1 (hsame.mono (λi hi hl=>by omega)),(hsame.block _ ah e2).trans h2,(hsame.block _ ah ah).trans h3⟩
 .rintro pre x args X ⟨hi,hl,hk⟩ hpx hrep hsz m
  have hra:r.assign=assign:=by rw[hr]
  have hrb:r.body=body:=by rw[hr]
  have um:r.params=ps:=by rw[hr]
  have hrt:r.tmps=a.tmps:=by rw[hr]
  have hrs:r.state= .ready:=by rw[hr]
  have hrn:r.pending=none:=by rw[hr]
  have hrr:({r with state:= .ready,pending:=none}:Loop)=r:=by rw[hr]
  refine AU hl hrs trivial (by rw[um];exact hps x args X hrep) ?_;have hR:=BM pre x args X hi hpx hrep ah m;rw[<-hra,<-hrb,<-um,<-hrt] at hR;refine wpIn_mono hR ?_;rintro e a1 X1 hp
  cases e with
  |normal=>
   obtain⟨hb,hbody⟩:=hp;have TU:=(dh.1 hl).1;have hl1:X1.1[w.1.size+1]?=z (.loop r):=(hb.block _ ah).trans hl;have hk1:X1.1[w.1.size]?=z (.deferred (z [])):=(hb.block _ ah).trans hk;have hlt1:=(dh.1 hl1).1;refine⟨hl1,wpIn_mono (hbody _ (.putObj X1 _ ah)) ?_⟩;have hl2:(X1.putObj (w.1.size+1) (.loop {r with state:= .busy})).1[w.1.size+1]?=z (.loop {r with state:= .busy}):=C hlt1;have hk2:(X1.putObj (w.1.size+1) (.loop {r with state:= .busy})).1[w.1.size]?=z (.deferred (z [])):=(f ah).trans hk1;rintro e a3 X3 hq;have fin:∀o,X3.1[w.1.size+1]?=(X1.putObj (w.1.size+1) (.loop {r with state:= .busy})).1[w.1.size+1]?->(X3.putObj (w.1.size+1) o).1[w.1.size+1]?=z o:=λo h=>
    C ((dh.1 (h.trans hl2)).1)
   have keep:∀o,aQ D (X1.putObj (w.1.size+1) (.loop {r with state:= .busy})) X3->aQ D X (X3.putObj (w.1.size+1) o):=λo hC=>
    (aQ.of_below hb (λi _ hi=>hi)).trans (((aQ.putObj X1 _ hD).trans hC).trans (aQ.putObj X3 _ hD))
   cases e with
   |normal=>
    obtain⟨⟨hA,hB⟩,hC,hE,hKK⟩:=hq;refine⟨hB.trans hl2,.inl ⟨rfl,⟨hput _ _ _ hE,(fin _ hB).trans (by rw[hrr]),(f ah).trans (hA.trans hk2)⟩,keep _ hC,hKp _ _ _ _ hKK (.putObj X3 _ ah)⟩⟩
   |ret=>
    obtain⟨⟨hA,hB⟩,hC,hE⟩:=hq;exact⟨hB.trans hl2,.inr ⟨rfl,⟨.ret,oK _ _ _ _ hE,fin _ hB,(f ah).trans (hA.trans hk2)⟩,keep _ hC⟩⟩
   |exit id=>
    obtain⟨⟨hA,hB⟩,hC,hE⟩:=hq;exact⟨hB.trans hl2,.inr ⟨rfl,⟨.exit id,oK _ _ _ _ hE,fin _ hB,(f ah).trans (hA.trans hk2)⟩,keep _ hC⟩⟩
   |goto t=>
    obtain⟨⟨hA,hB⟩,hC,hE⟩:=hq;exact⟨hB.trans hl2,.inr ⟨rfl,⟨.goto t,oK _ _ _ _ hE,fin _ hB,(f ah).trans (hA.trans hk2)⟩,keep _ hC⟩⟩
   |panic _=>exact hq.elim
   |outgrown=>exact hq.elim
  |_=>exact hp.elim
 .rintro e X2 ⟨v,rfl,(⟨hi,hl,hk⟩|⟨pre,hpre,c,hi,hl,hk⟩)⟩
  .exact⟨none,_,by have:=run_endLoop (P:=P) hl (by rw[hr];simp);rwa[hr] at this,hdone _ (hput _ _ _ hi) ((f ah).trans hk)⟩
  .exact⟨z c,_,run_endLoop (P:=P) hl ak,hstop c pre _ hpre (oK _ _ _ _ hi) ((f ah).trans hk)⟩
end Yd
