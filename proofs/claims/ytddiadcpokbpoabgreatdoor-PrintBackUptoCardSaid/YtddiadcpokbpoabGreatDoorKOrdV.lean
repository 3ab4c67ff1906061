import Derived.Test.YtddiadcpokbpoabGreatDoorKA0
import Derived.OrdersHeld
import Derived.Still
import Derived.Tactics2
import Derived.CallsIn
import Derived.OrdersIn
import Derived.TacticsIn
import Derived.RangeFuncCalls
set_option linter.all false
set_option maxRecDepth 200000
set_option maxHeartbeats 8000000
namespace Yd
open Bool renaming true->G,false->V
open Option renaming some->N
open Go
open Go renaming World->C,Exit->U
open _root_ renaming Nat->H,List->J,Array->M,Bool->O
theorem abb{p:Prop}(h:p:=by rw[<-Act.put_comm a v u q];exact p):p:=h
section
variable {P:Program}{ops:M Oper}{Q:U->Act->C->Prop}{md:Region.Mode}{S:C->Prop}
theorem GL {k n:H}{row:String}{args:M Value}{w:C}{R:Value->C->Prop}(h:Rows P row args w R):RowsIn (Fence.wide.inRound k) n P row args w R:=
 λc b _=>let⟨v,d,r,s⟩:=h c b;⟨v,d,r,stepsIn_wide.2 s⟩
theorem Dr {k n:H}(p:∀(i:H) o,ops[i]?=N o->∀c,o.op≠ .defer c)(q:¬LetsOut Q):
  ∀(d:J H)(a:Act)(w:C),wpOps P ops Q d a w->wpOpsIn (Fence.wide.inRound k) n P ops Q d a w:=by
 intro d
 induction d with
 |nil=>intro a w h;exact h
 |cons i rest b=>
  intro a w h;rw[wpOps_cons] at h;rw[wpOpsIn_cons];unfold wpOp at h;unfold wpOpIn
  cases j:ops[i]? with
  |none=>simp only[j] at h ⊢;exact b _ _ h
  |some o=>
   simp only[j] at h ⊢;by_cases m:Region.wanted o (yielded ops a.tmps)=G
   .rw[av m] at h ⊢
    rcases h with h|⟨_,h⟩
    .refine⟨λf _=>trivial,?_⟩
     rw[Fence.inRound_round,Oper.semAt_some k _ _ (p i o j)];unfold Oper.wp at h;revert h;generalize(execOp a.eval o).run P w=r;intro h
     cases r with
     |ok x s=>
      cases x <;> simp only[Oper.upon,Oper.uponIn] at h ⊢
      all_goals first
       |exact b _ _ h
       |exact⟨λh=>(by cases h),(CallsIn.inRound k (callsIn_wide.2 h)).mono (λe t g=>by cases e <;> first|exact b _ _ g|exact g)⟩
       |exact⟨λh=>(by cases h),RowsIn.mono (GL h) (λ_ _ g=>b _ _ g)⟩
       |exact h.elim
     |halt x s=>cases x <;> simp only[Oper.upon,Oper.uponIn] at h ⊢ <;> exact h
    .exact absurd h q
   .rw[au m] at h ⊢
    exact⟨λ_ _=>trivial,b _ _ h⟩
def Bo (l:J Oper):O:=l.all λo=>match o.op with| .defer _=>V|_=>G
theorem Ae {l:J Oper}(h:Bo l=G):∀(i:H) o,l.toArray[i]?=N o->∀c,o.op≠ .defer c:=by
 intro i o b c d;have e:o∈l:=dA (by simpa using b);have:=dZ.1 h o e;rw[d] at this
 cases this
end
def opAt:J Oper->H->Option Oper
 |[],_=>none
 |o::_,0=>N o
 |_::l,i+1=>opAt l i
theorem oh:∀(l:J Oper)(i:H)(o:Oper),opAt l i=N o->l.toArray[i]?=N o
 |[],_,_,h=>by cases h
 |x::_,0,o,h=>by simpa[opAt] using h
 |_::l,i+1,o,h=>by have:=oh l i o h;simpa using this
inductive OU where
 |nil
 |q (i c:H) (r:OU)
 |l (i:H) (r:OU)
 |alt (i:H) (r:OU) (j:H) (s:OU)
 |Lj (i:H) (r:OU) (j:H) (s:OU) (k:H) (t:OU)
def OU.size:OU->H
 | .nil=>0
 | .q _ _ r=>r.size+1
 | .l _ r=>r.size+1
 | .alt _ r _ _=>r.size+1
 | .Lj _ r _ _ _ _=>r.size+1
def yF:J (H × H)->OU
 |[]=> .nil
 |(i,0)::r=> .q i 0 (yF r)
 |(i,1)::r=> .q i 1 (yF r)
 |(i,_+2)::r=> .l i (yF r)
section
variable {P:Program}{ops:M Oper}{Q:U->Act->C->Prop}{md:Region.Mode}{R S:C->Prop}{cut:H}{st:H->(Act->C->Prop)->Act->C->Prop}
structure Stp (P:Program)(ops:M Oper)(Q:U->Act->C->Prop)(st:H->(Act->C->Prop)->Act->C->Prop):Prop where
 mono:∀{i:H}{K K':Act->C->Prop}{a:Act}{w:C},(∀a w,K a w->K' a w)->st i K a w->st i K' a w
 Zu:∀{S:C->Prop}{i:H}{o:Oper}{v:Value}{a:Act}{w:C}{K:Act->C->Prop},ops[i]?=N o->YieldsIf P ops S o v a->S w->K (a.put o.dst v) w->st i K a w
 put:∀{S:C->Prop}{j:H}{oi oj:Oper}{v:Value}{K:Act->C->Prop}{a:Act}{w:C},ops[j]?=N oj->oi.apart ops oj=G->(∀cs b,oi.op≠ .select cs b)->(∀cs b,oj.op≠ .select cs b)->
  (∀c a w,Q (.panic c) (a.put oi.dst v) w->Q (.panic c) a w)->YieldsIf P ops S oi v a->st j K (a.put oi.dst v) w->st j (λa' w'=>YieldsIf P ops S oi v a'/\K (a'.put oi.dst v) w') a w
theorem Dt:Stp P ops Q (wpOp P ops Q):=⟨wpOp_mono,λc b d h=>b.wpOp c d h,λe f g j k b h=>wpOp_putIf e f g j k b h⟩
def rH (c:H->(Act->C->Prop)->Act->C->Prop)(md:Region.Mode)(b:M Oper)(Q:U->Act->C->Prop)(T:H->C->C->Prop):H->M O->Act->C->Prop
 |0,listed,a,w=>Region.ready md b listed=[]/\Q .normal a w
 |fuel+1,listed,a,w=>(Region.ready md b listed=[]->Q .normal a w)/\∀i∈Region.ready md b listed,c i (λe d=>T i w d/\rH c md b Q T fuel (listed.setIfInBounds i G) e d) a w
theorem pu {T:H->C->C->Prop}:∀(b:H)(c:M O)(a:Act)(w:C),rH (wpOp P ops Q) md ops Q T b c a w->wpAny P md ops Q b c a w
 |0,_,_,_,h=>h
 |b+1,_,_,_,h=>⟨h.1,λi d=>wpOp_mono (λ_ _ e=>pu b _ _ _ e.2) (h.2 i d)⟩
variable{i:H}
theorem Af (x:Stp P ops Q st){T:H->C->C->Prop}{p:Oper}{v:Value}(F:ops[i]?=N p)(W:∀(j:H)(o:Oper) s b,ops[j]?=N o->o.op≠ .select s b)
  (hQ:∀c a w,Q (.panic c) (a.put p.dst v) w->Q (.panic c) a w) (X:∀w,S w->T i w w)
  (hT:∀j d,ops[j]?=N d->j≠i->(∀e∈d.after,Region.binds md e=G->e.on≠i)->∀w y,T j w y->S w->S y):
  ∀(t:H)(f:M O)(a:Act)(w:C),
   (∀j d,ops[j]?=N d->j≠i->f.getD j G=V->(∀e∈d.after,Region.binds md e=G->e.on≠i)->p.apart ops d=G)->
   i∈Region.ready md ops f->YieldsIf P ops S p v a->S w->
   rH st md ops Q T t (f.setIfInBounds i G) (a.put p.dst v) w->rH st md ops Q T (t+1) f a w:=by
 intro t
 induction t with
 |zero=>
  intro f a w _ g z q h;refine⟨λh=>(by rw[h] at g;cases g),λj A=>?_⟩;rcases Decidable.em (j=i) with rfl|m
  .exact x.Zu F z q ⟨X _ q,h⟩
  .have:=ready_mono A m
   rw[h.1] at this;cases this
 |succ t ih=>
  intro f a w Y g z q h;refine⟨λh=>(by rw[h] at g;cases g),λj A=>?_⟩;rcases Decidable.em (j=i) with rfl|m
  .exact x.Zu F z q ⟨X _ q,h⟩
  obtain⟨α,d,B,δ⟩:=mem_ready.1 A;have β:=(mem_ready.1 g).1;have γ:∀e∈d.after,Region.binds md e=G->e.on≠i:=by
   intro e he hb ε;have u:=δ e he hb;rw[ε] at u;rcases iM i f.size with K|K
   .simp[K] at β u;rw[β] at u;cases u
   .simp[yU K] at u
  have ζ:=x.put B (Y j d B m α γ) (λs b=>W i p s b F) (λs b=>W j d s b B) hQ z (h.2 j (ready_mono A m));refine x.mono (λa' y E=>⟨E.2.1,ih _ a' y (λk ok hk η θ ι=>Y k ok hk η ?_ ι) (ready_mono g (Ne.symm m)) E.1 (hT j d B m γ _ _ E.2.1 q) ?_⟩) ζ
  .rcases Decidable.em (j=k) with rfl|κ
   .exact α
   .rwa[getD_set_ne G κ] at θ
  .rw[Array.setIfInBounds_comm _ _ m];exact E.2.2
def rU (c:H)(R S:C->Prop)(i:H)(w b:C):Prop:=R b/\(c<=i\/(S w->S b))
def fq (P:Program)(g:M Oper)(d:H->(Act->C->Prop)->Act->C->Prop)(Q:U->Act->C->Prop)(R S:C->Prop)(e:H):OU->Act->C->Prop
 | .nil,a,w=>Q .normal a w
 | .q i c r,a,w=>∃o v,g[i]?=N o/\YieldsIf P g (λw=>R w/\(c=0->S w)) o v a/\fq P g d Q R S e r (a.put o.dst v) w
 | .l i r,a,w=>d i (λf b=>rU e R S i w b/\fq P g d Q R S e r f b) a w
 | .alt i r j s,a,w=>d i (λf b=>rU e R S i w b/\fq P g d Q R S e r f b) a w/\d j (λf b=>rU e R S j w b/\fq P g d Q R S e s f b) a w
 | .Lj i r j s k t,a,w=>d i (λf b=>rU e R S i w b/\fq P g d Q R S e r f b) a w/\d j (λf b=>rU e R S j w b/\fq P g d Q R S e s f b) a w/\d k (λf b=>rU e R S k w b/\fq P g d Q R S e t f b) a w
def waits (md:Region.Mode)(b:M Oper)(c i:H):O:=(List.range b.size).all λj=>decide (j<c)||match b[j]? with
 |some d=>d.after.any (λe=>Region.binds md e && e.on==i)
 |none=>G
theorem Ll (h:waits md ops cut i=G)(j:H)(c:Oper)(d:ops[j]?=N c)(f:∀e∈c.after,Region.binds md e=G->e.on≠i):j<cut:=by
 have g:j<ops.size:=(dS.1 d).1;have:=dZ.1 h j (oG.2 g);rw[d] at this;simp only[rV,aV,Array.any_eq_true] at this;rcases this with b|⟨k,m,b⟩
 .exact b
 .simp only[aM,oJ] at b
  exact absurd b.2 (f _ (Array.getElem_mem m) b.1)
def mZ (md:Region.Mode)(b:M Oper)(d:H):OU->O->M O->O
 | .nil,_,listed=>(Region.ready md b listed).isEmpty
 | .q i c r,held,listed=>(Region.ready md b listed).contains i && Region.free md b listed i && (c !=0||held && waits md b d i) && mZ md b d r held (listed.setIfInBounds i G)
 | .l i r,held,listed=>decide (Region.ready md b listed=[i]) && mZ md b d r (held && decide (i<d)) (listed.setIfInBounds i G)
 | .alt i r j s,held,listed=>decide (Region.ready md b listed=[i,j]) && decide (r.size=s.size) && mZ md b d r (held && decide (i<d)) (listed.setIfInBounds i G) && mZ md b d s (held && decide (j<d)) (listed.setIfInBounds j G)
 | .Lj i r j s k t,held,listed=>decide (Region.ready md b listed=[i,j,k]) && decide (r.size=s.size) && decide (r.size=t.size) && mZ md b d r (held && decide (i<d)) (listed.setIfInBounds i G) && mZ md b d s (held && decide (j<d)) (listed.setIfInBounds j G) && mZ md b d t (held && decide (k<d)) (listed.setIfInBounds k G)
def GN (P:Program)(md:Region.Mode)(b:M Oper)(d:H->(Act->C->Prop)->Act->C->Prop)(Q:U->Act->C->Prop)(R S:C->Prop)(c:H)(r:OU):Prop:=
 ∀(e:O)(f:M O)(a:Act)(w:C),mZ md b c r e f=G->R w->(e=G->S w)->fq P b d Q R S c r a w->rH d md b Q (rU c R S) r.size f a w
variable{n:H}
theorem GN.step {r:OU}(k:GN P md ops st Q R S cut r)(m:Stp P ops Q st){e:O}{f:M O}{a:Act}{w:C}(p:mZ md ops cut r (e && decide (i<cut)) (f.setIfInBounds i G)=G)(q:e=G->S w)(s:n=r.size)
  (h:st i (λc b=>rU cut R S i w b/\fq P ops st Q R S cut r c b) a w):st i (λc b=>rU cut R S i w b/\rH st md ops Q (rU cut R S) n (f.setIfInBounds i G) c b) a w:=by
 subst s;refine m.mono (λc b d=>⟨d.1,k _ _ _ _ p d.1.1 (λg=>?_) d.2⟩) h;simp only[aM,aV] at g;rcases d.1.2 with j|j
 .omega
 .exact j (q g.1)
theorem oW (d:Stp P ops Q st)(p:Region.noSelect ops=G)(q:∀(i:H)(o:Oper),ops[i]?=N o->∀v c a w,Q (.panic c) (Act.put a o.dst v) w->Q (.panic c) a w):∀l:OU,GN P md ops st Q R S cut l
 | .nil=>λ_ y a w b _ _ h=>⟨by simpa[mZ] using b,h⟩
 | .q i c r=>λA y a w b z f h=>by
  simp only[mZ,aM,rV,lF] at b;obtain⟨⟨⟨x,hf⟩,X⟩,α⟩:=b;obtain⟨o,v,E,F,hn⟩:=h;refine Af (S:=λw=>R w/\(c=0->S w)) d E (Region.noSelect_spec p) (λc a w=>q i o E _ c a w) (λ_ h=>⟨h.1,.inr id⟩) (λj oj g δ β w w' Y hw=>⟨Y.1,λB=>?_⟩) r.size y a w (Region.free_spec E hf) (by simpa using x) F
   ⟨z,λB=>f (X.resolve_left (λe=>e B)).1⟩ (oW d p q r A _ _ _ α z f hn)
  rcases Y.2 with h1|h1
  .exact absurd (Ll (X.resolve_left (λe=>e B)).2 j oj g β) ah
  .exact h1 (hw.2 B)
 | .l i r=>λA y a w b z f h=>by
  simp only[mZ,aM,aV] at b;refine⟨λu=>(by rw[b.1] at u;cases u),λj g=>?_⟩;rw[b.1] at g;obtain rfl:j=i:=by simpa using g
  exact(oW d p q r).step d b.2 f rfl h
 | .alt i r k s=>λA y a w b z f h=>by
  simp only[mZ,aM,aV] at b;obtain⟨⟨⟨x,K⟩,T⟩,W⟩:=b;refine⟨λu=>(by rw[x] at u;cases u),λj g=>?_⟩;rw[x] at g;rcases(by simpa using g:j=i\/j=k) with rfl|rfl
  .exact(oW d p q r).step d T f rfl h.1
  .exact(oW d p q s).step d W f K h.2
 | .Lj i r k s m t=>λA y a w b z f h=>by
  simp only[mZ,aM,aV] at b;obtain⟨⟨⟨⟨⟨x,K⟩,F⟩,T⟩,W⟩,γ⟩:=b;refine⟨λu=>(by rw[x] at u;cases u),λj g=>?_⟩;rw[x] at g;rcases(by simpa using g:j=i\/j=k\/j=m) with rfl|rfl|rfl
  .exact(oW d p q r).step d T f rfl h.1
  .exact(oW d p q s).step d W f K h.2.1
  .exact(oW d p q t).step d γ f F h.2.2
variable {l:J Oper}{a:Act}{w:C}
def uN (l:J Oper)(c:H)(b:OU):O:=Region.noSelect l.toArray && decide (b.size=l.length) && mZ .any l.toArray c b G (Array.replicate l.toArray.size V)
theorem wD {d:H->(Act->C->Prop)->Act->C->Prop}(f:Stp P l.toArray Q d)(e:OU)(b:uN l cut e=G)
  (g:∀(i:H)(o:Oper),l.toArray[i]?=N o->∀v c a w,Q (.panic c) (Act.put a o.dst v) w->Q (.panic c) a w) (j:R w) (k:S w) (h:fq P l.toArray d Q R S cut e a w):
  rH d .any l.toArray Q (rU cut R S) l.toArray.size (Array.replicate l.toArray.size V) a w:=by
 simp only[uN,aM,aV] at b;have:=oW (md:= .any) f b.1.1 g e G _ a _ b.2 j (λ_=>k) h;rw[b.1.2] at this
 simpa using this
def iJ (Q:U->Act->C->Prop):U->Act->C->Prop
 | .outgrown,_,_=>False
 | .panic _,_,_=>False
 | .normal,a,w=>Q .normal a w
 | .ret,a,w=>Q .ret a w
 | .exit b,a,w=>Q (.exit b) a w
 | .goto t,a,w=>Q (.goto t) a w
theorem Du (Q:U->Act->C->Prop):¬LetsOut (iJ Q):=λ⟨_,_,h⟩=>h
theorem vQ (e:U)(a:Act)(w:C)(h:iJ Q e a w):Q e a w:=by
 cases e <;> first|exact h|exact h.elim
theorem wZ (Q:U->Act->C->Prop):∀d v c a w,iJ Q (.panic c) (Act.put a d v) w->iJ Q (.panic c) a w:=λ_ _ _ _ _ h=>h
variable{b:H}
theorem qW (d:H)(c:OU)(R S:C->Prop)(e:P.follows .mixedOrders=G)(f:uN l d c=G)
  (g:R w.drew) (j:S w.drew) (h:fq P l.toArray (wpOp P l.toArray (iJ Q)) (iJ Q) R S d c a w.drew):(Code.region b l.toArray G).wp P Q a w:=
 wp_mono (Q:=iJ Q) (wp_region_any e (pu _ _ _ _ (wD Dt c f (λ_ _ _ _=>wZ Q _ _) g j h))) vQ
theorem Ct {k:H}(d:H)(c:OU)(R S:C->Prop)(e:P.follows .mixedOrders=G)(f:uN l d c=G)(g:Bo l=G)
  (j:R w.drew) (m:S w.drew) (h:fq P l.toArray (wpOp P l.toArray (iJ Q)) (iJ Q) R S d c a w.drew):(Code.region b l.toArray G).wpIn (Fence.wide.inRound k) n P Q a w:=by
 refine wpIn_mono (Q:=iJ Q) (wpIn_region_draw λt=>?_) vQ;simp only[Region.schedule,e,Bool.true_or,bR];exact Dr (Ae g) (Du Q) _ _ _ (wpAny_sound _ t _ a _ (pu _ _ _ _ (wD Dt c f (λ_ _ _ _=>wZ Q _ _) j m h)))
theorem aC (c:H)(d:J (H × H))(R S:C->Prop)(e:P.follows .mixedOrders=G)(f:uN l c (yF d)=G)
  (g:R w.drew) (j:S w.drew) (h:fq P l.toArray (wpOp P l.toArray (iJ Q)) (iJ Q) R S c (yF d) a w.drew):(Code.region b l.toArray G).wp P Q a w:=qW c _ R S e f g j h
theorem ng {k:H}(c:H)(d:J (H × H))(R S:C->Prop)(e:P.follows .mixedOrders=G)(f:uN l c (yF d)=G)(g:Bo l=G)
  (j:R w.drew) (m:S w.drew) (h:fq P l.toArray (wpOp P l.toArray (iJ Q)) (iJ Q) R S c (yF d) a w.drew):(Code.region b l.toArray G).wpIn (Fence.wide.inRound k) n P Q a w:=Ct c _ R S e f g j m h
theorem aO (h:Q .normal a w):fq P ops st (iJ Q) R S cut .nil a w:=h
variable {r:OU}{i:H}{o:Oper}
theorem Vj (b:opAt l i=N o)(c:Region.wanted o (yielded l.toArray a.tmps)=G)
  (h:∃v,(∀w,R w/\S w->(execOp a.eval o).run P w= .ok (.value v) w)/\fq P l.toArray st Q R S cut r (a.put o.dst v) w):fq P l.toArray st Q R S cut (.q i 0 r) a w:=
 let⟨v,d,e⟩:=h
 ⟨o,v,oh _ _ _ b,.inl ⟨c,λw h=>d w ⟨h.1,h.2 rfl⟩⟩,e⟩
theorem Vk (b:opAt l i=N o)(c:Region.wanted o (yielded l.toArray a.tmps)=G)
  (h:∃v,(∀w,R w->(execOp a.eval o).run P w= .ok (.value v) w)/\fq P l.toArray st Q R S cut r (a.put o.dst v) w):fq P l.toArray st Q R S cut (.q i 1 r) a w:=
 let⟨v,d,e⟩:=h
 ⟨o,v,oh _ _ _ b,.inl ⟨c,λw h=>d w h.1⟩,e⟩
theorem Ns {c:H}(b:opAt l i=N o)(d:Region.wanted o (yielded l.toArray a.tmps)=V)(e:fq P l.toArray st Q R S cut r (a.put o.dst undef) w):fq P l.toArray st Q R S cut (.q i c r) a w:=
 ⟨o,undef,oh _ _ _ b,.inr ⟨d,rfl⟩,e⟩
theorem gP (d:opAt l i=N o)(e:Region.wanted o (yielded l.toArray a.tmps)=G)(h:∀K:Act->C->Prop,(∀a w,R w/\S w->fq P l.toArray (wpOp P l.toArray Q) Q R S cut r a w->K a w)->o.wp P a w K Q):
  wpOp P l.toArray Q i (λf b=>rU cut R S i w b/\fq P l.toArray (wpOp P l.toArray Q) Q R S cut r f b) a w:=by
 unfold wpOp;simp only[oh _ _ _ d,e,bR];exact .inl (h _ λ_ _ c g=>⟨⟨c.1,.inr λ_=>c.2⟩,g⟩)
theorem aF (b:opAt l i=N o)(c:Region.wanted o (yielded l.toArray a.tmps)=G)(h:∀K:Act->C->Prop,(∀a w,R w/\S w->fq P l.toArray (wpOp P l.toArray Q) Q R S cut r a w->K a w)->o.wp P a w K Q):
  fq P l.toArray (wpOp P l.toArray Q) Q R S cut (.l i r) a w:=gP b c h
theorem aW (hc:decide (cut<=i)=G)(b:opAt l i=N o)(c:Region.wanted o (yielded l.toArray a.tmps)=G)(h:∀K:Act->C->Prop,(∀a w,R w->fq P l.toArray (wpOp P l.toArray Q) Q R S cut r a w->K a w)->o.wp P a w K Q):
  fq P l.toArray (wpOp P l.toArray Q) Q R S cut (.l i r) a w:=by
 show wpOp _ _ _ _ _ _ _;unfold wpOp;simp only[oh _ _ _ b,c,bR];exact .inl (h _ λ_ _ d e=>⟨⟨d,.inl (rJ hc)⟩,e⟩)
theorem nR (b:opAt l i=N o)(c:Region.wanted o (yielded l.toArray a.tmps)=V)(d:R w)(e:fq P l.toArray (wpOp P l.toArray Q) Q R S cut r (a.put o.dst undef) w):fq P l.toArray (wpOp P l.toArray Q) Q R S cut (.l i r) a w:=by
 show wpOp _ _ _ _ _ _ _;unfold wpOp;simp only[oh _ _ _ b,c,yV,fG];exact⟨⟨d,.inr id⟩,e⟩
end
theorem qC {p q:Prop}(h:p)(f:p->q:=by
 intro h
 (repeat((first|refine Ns rfl rfl ?_|((first|refine Vj rfl rfl ?_|refine Vk rfl rfl ?_);apply Exists.intro;refine⟨λwS hS=>?_,?_⟩;(go_simp;try with_reducible rfl)));simp only[Act.put,lu,kF,kK]))
 exact h):q:=f h
section
variable {P:Program}{ops:M Oper}{Q:U->Act->C->Prop}{R S:C->Prop}{cut:H}{RP:J PanicEntry->C->Prop}{D:J Deferred}
def tu (Q:U->Act->C->Prop)(D:J Deferred)(b:J PanicEntry->C->Prop):U->Act->C->Prop
 | .outgrown,_,_=>False
 | .panic c,a,w=>a.defers=D/\b c w
 | .normal,a,w=>Q .normal a w
 | .ret,a,w=>Q .ret a w
 | .exit d,a,w=>Q (.exit d) a w
 | .goto t,a,w=>Q (.goto t) a w
theorem Kb (b:∀c a w,a.defers=D->RP c w->Q (.panic c) a w)(e:U)(a:Act)(w:C)(h:tu Q D RP e a w):Q e a w:=by
 cases e <;> first|exact h|exact h.elim|exact b _ _ _ h.1 h.2
theorem Nt:∀d v c a w,tu Q D RP (.panic c) (Act.put a d v) w->tu Q D RP (.panic c) a w:=λd _ _ _ _ h=>by cases d <;> exact h
variable{a:Act}{w:C}
theorem qz {b:H}{l:J Oper}(f:H)(e:OU)(R S:C->Prop)(d:J PanicEntry->C->Prop)(k:P.follows .mixedOrders=G)(m:uN l f e=G)
  (p:∀c g j,g.defers=a.defers->d c j->Q (.panic c) g j)
  (q:R w.drew) (s:S w.drew) (h:fq P l.toArray (wpOp P l.toArray (tu Q a.defers d)) (tu Q a.defers d) R S f e a w.drew):(Code.region b l.toArray G).wp P Q a w:=
 wp_mono (Q:=tu Q a.defers d) (wp_region_any k (pu _ _ _ _ (wD Dt e m (λ_ _ _ _=>Nt _ _) q s h))) (Kb p)
theorem dz {b:H}{l:J Oper}(e:H)(f:J (H × H))(R S:C->Prop)(d:J PanicEntry->C->Prop)(k:P.follows .mixedOrders=G)(m:uN l e (yF f)=G)
  (p:∀c g j,g.defers=a.defers->d c j->Q (.panic c) g j)
  (q:R w.drew) (s:S w.drew) (h:fq P l.toArray (wpOp P l.toArray (tu Q a.defers d)) (tu Q a.defers d) R S e (yF f) a w.drew):(Code.region b l.toArray G).wp P Q a w:=qz e _ R S d k m p q s h
theorem ja (h:Q .normal a w):fq P ops (wpOp P ops (tu Q D RP)) (tu Q D RP) R S cut .nil a w:=h
end
section
variable {n:H}{P:Program}{ops:M Oper}{Q:U->Act->C->Prop}{md:Region.Mode}{S:C->Prop}{cut:H}
theorem wide_round:Fence.wide.round=none:=rfl
variable{a:Act}{w:C}
theorem Dv {i:H}{o:Oper}{v:Value}(c:ops[i]?=N o)(d:YieldsIf P ops S o v a){K:Act->C->Prop}(e:S w)(h:K (a.put o.dst v) w):wpOpIn Fence.wide n P ops Q i K a w:=by
 unfold Go.wpOpIn;simp only[c];rcases d with⟨b,f⟩|⟨b,rfl⟩
 .simp only[b,bR,Oper.wpIn,wide_round,Oper.semAt_none,f w e,Oper.uponIn];exact⟨λ_ _=>trivial,h⟩
 .simp only[b,yV,fG];exact⟨λ_ _=>trivial,h⟩
theorem GQ {j:H}{g k:Oper}{v:Value}(W:ops[j]?=N k)(X:g.apart ops k=G)
  (Y:∀y b,g.op≠ .select y b) (α:∀y b,k.op≠ .select y b)
  (z:∀c a w,Q (.panic c) (a.put g.dst v) w->Q (.panic c) a w) {K:Act->C->Prop}  
  (m:YieldsIf P ops S g v a) (h:wpOpIn Fence.wide n P ops Q j K (a.put g.dst v) w):
  wpOpIn Fence.wide n P ops Q j (λE A=>YieldsIf P ops S g v E/\K (E.put g.dst v) A) a w:=by
 obtain⟨t,q,F⟩:=Oper.apart_spec X;have s:∀(a:Act),YieldsIf P ops S g v a->∀u,YieldsIf P ops S g v (a.put k.dst u):=λa m u=>
  m.of_same (execOp_put g Y a k.dst u F) (wanted_put g a k.dst u F)
 have β:∀d,YieldsIf P ops S g v {a with defers:=d::a.defers}:=λd=>m.of_same rfl rfl
 unfold wpOpIn at*;simp only[W] at*;rw[wanted_put k a g.dst v t,about_put k w a g.dst v t] at h
 split
 .rename_i B
  simp only[B,bR] at h;unfold Oper.wpIn at*;rw[about_put k w a g.dst v t] at h;refine⟨h.1,?_⟩;have h:=h.2;rw[wide_round,Oper.semAt_none,execOp_put k α a g.dst v t] at h;rw[wide_round,Oper.semAt_none];generalize(execOp a.eval k).run P w=r at*
  cases r with
  |ok x A=>
   cases x <;> simp only[Oper.uponIn] at h ⊢
   case value u=>exact⟨s a m u,by rw[<-Act.put_comm a v u q];exact h⟩
   case skip=>exact⟨s a m _,by rw[<-Act.put_comm a v undef q];exact h⟩
   case defer d=>
    refine⟨s _ (β d) _,?_⟩;rw[<-Act.put_comm _ v undef q,<-Act.put_defers];exact h
   case enter f γ=>
    refine⟨h.1,CallsIn.mono h.2 λe T p=>?_⟩
    cases e with
    |returned u=>exact⟨s a m u,abb⟩
    |panicked c=>exact z _ _ _ p
    |outgrown=>exact p
   case row δ γ=>exact⟨h.1,RowsIn.mono h.2 λu T p=>⟨s a m u,abb⟩⟩
   case round l f ε ζ η=>
    refine⟨h.1,RoundIn.mono h.2 λe T p=>?_⟩
    cases e with
    |returned u=>exact⟨s a m u,abb⟩
    |panicked c=>exact z _ _ _ p
    |outgrown=>exact p
  |halt x A=>
   cases x <;> simp only[Oper.uponIn] at h ⊢
   case panic u=>exact z _ _ _ h
 .rename_i B
  simp only[B] at h;exact⟨h.1,s a m _,by rw[<-Act.put_comm a v undef q];exact h.2⟩
theorem Ya:Stp P ops Q (wpOpIn Fence.wide n P ops Q):=⟨wpOpIn_mono,λc b d h=>Dv c b d h,λe f g j k b h=>GQ e f g j k b h⟩
theorem Ag {T:H->C->C->Prop}:∀(b:H)(c:M O)(a:Act)(w:C),rH (wpOpIn Fence.wide n P ops Q) md ops Q T b c a w->wpAnyIn Fence.wide n P md ops Q b c a w
 |0,_,_,_,h=>h
 |b+1,_,_,_,h=>⟨h.1,λi d=>wpOpIn_mono (λ_ _ e=>Ag b _ _ _ e.2) (h.2 i d)⟩
theorem Cu {b:H}{l:J Oper}(c:H)(d:J (H × H))(R S:C->Prop)(e:P.follows .mixedOrders=G)(f:uN l c (yF d)=G)
  (g:R w.drew) (j:S w.drew) (h:fq P l.toArray (wpOpIn Fence.wide n P l.toArray (iJ Q)) (iJ Q) R S c (yF d) a w.drew):(Code.region b l.toArray G).wpIn Fence.wide n P Q a w:=
 wpIn_mono (Q:=iJ Q) (wpIn_region_any e (Ag _ _ _ _ (wD Ya _ f (λ_ _ _ _=>wZ Q _ _) g j h))) vQ
variable {R:C->Prop}{l:J Oper}{a:Act}{w:C}{r:OU}{i:H}{o:Oper}
theorem GR (c:opAt l i=N o)(d:Region.wanted o (yielded l.toArray a.tmps)=G)(h:∀K:Act->C->Prop,(∀a w,R w/\S w->fq P l.toArray (wpOpIn Fence.wide n P l.toArray Q) Q R S cut r a w->K a w)->o.wpIn Fence.wide n P a w K Q):
  fq P l.toArray (wpOpIn Fence.wide n P l.toArray Q) Q R S cut (.l i r) a w:=by
 show wpOpIn _ _ _ _ _ _ _ _ _;unfold wpOpIn;simp only[oh _ _ _ c,d,bR];exact h _ λ_ _ b e=>⟨⟨b.1,.inr λ_=>b.2⟩,e⟩
end
section
variable {P:Program}{ops:M Oper}{Q:U->Act->C->Prop}{md:Region.Mode}{R S:C->Prop}{cut:H}{RP:J PanicEntry->C->Prop}{D:J Deferred}
def xg (Q:U->Act->C->Prop)(D:J Deferred)(t:H)(x:Value)(b:J PanicEntry->C->Prop):U->Act->C->Prop
 | .outgrown,_,_=>False
 | .panic c,a,w=>a.defers=D/\a.tmps[t]?=N x/\b c w
 | .normal,a,w=>Q .normal a w
 | .ret,a,w=>Q .ret a w
 | .exit d,a,w=>Q (.exit d) a w
 | .goto t,a,w=>Q (.goto t) a w
variable{t:H}{x:Value}
theorem Qh (b:∀c a w,a.defers=D->a.tmps[t]?=N x->RP c w->Q (.panic c) a w)(e:U)(a:Act)(w:C)(h:xg Q D t x RP e a w):Q e a w:=by
 cases e <;> first|exact h|exact h.elim|exact b _ _ _ h.1 h.2.1 h.2.2
theorem TJ {o:Oper}(f:o.dst≠N t):∀v c a w,xg Q D t x RP (.panic c) (Act.put a o.dst v) w->xg Q D t x RP (.panic c) a w:=λv c a w h=>by
 cases b:o.dst with
 |none=>rw[b] at h;exact h
 |some d=>
  rw[b] at h;obtain⟨g,j,k⟩:=h;refine⟨g,?_,k⟩;have m:d≠t:=λe=>f (by rw[b,e])
  have e:(Act.put a (N d) v).tmps[t]?=a.tmps[t]?:=by
   show(a.tmps.setIfInBounds d v)[t]?=_;rw[qx m]
  rw[<-e];exact j
theorem Dw {b:H}{a:Act}{w:C}{l:J Oper}(t:H)(x:Value)(g:H)(j:J (H × H))(R S:C->Prop)(d:J PanicEntry->C->Prop)(e:P.follows .mixedOrders=G)(m:uN l g (yF j)=G)
  (p:l.all (λo=>decide (o.dst≠N t))=G)
  (q:∀c f k,f.defers=a.defers->f.tmps[t]?=N x->d c k->Q (.panic c) f k)
  (s:R w.drew) (u:S w.drew) (h:fq P l.toArray (wpOp P l.toArray (xg Q a.defers t x d)) (xg Q a.defers t x d) R S g (yF j) a w.drew):(Code.region b l.toArray G).wp P Q a w:=
 wp_mono (Q:=xg Q a.defers t x d) (wp_region_any e (pu _ _ _ _ (wD Dt _ m (λi o v=>TJ (by
  have e:o∈l:=by simpa using Array.mem_of_getElem? v
  exact rJ (dZ.1 p o e))) s u h))) (Qh q)
theorem Nu {a:Act}{w:C}(h:Q .normal a w):fq P ops (wpOp P ops (xg Q D t x RP)) (xg Q D t x RP) R S cut .nil a w:=h
end
section
variable {P:Program}{ops:M Oper}{Q:U->Act->C->Prop}{md:Region.Mode}{R S:C->Prop}{cut:H}{RP:J PanicEntry->C->Prop}{D:J Deferred}
def Lm (md:Region.Mode)(b:M Oper)(i d:H):O:=match b[i]? with
 |some o=>o.after.any (λe=>Region.binds md e && e.on==d)
 |none=>V
def Bp (b:M Oper):O:=(List.range b.size).all λi=>match b[i]? with
 |some o=>o.after.all (λe=>decide (e.on<i))
 |none=>G
variable{i:H}
theorem Lp (h:Bp ops=G){o:Oper}(b:ops[i]?=N o):∀e∈o.after,e.on<i:=λe c=>by
 have d:i<ops.size:=(dS.1 b).1;have:=dZ.1 h i (oG.2 d);simp only[b,Array.all_eq_true_iff_forall_mem,aV] at this;exact this e c
theorem Qi (f:Bp ops=G){b:M O}(s:b.size=ops.size)(g:Region.ready md ops b=[]):∀j,b.getD j G=G:=by
 intro j
 induction j using Nat.strongRecOn with
 |_ j h=>
  rcases iM j ops.size with c|c
  .cases k:b.getD j G with
   |true=>rfl
   |false=>
    have:j∈Region.ready md ops b:=mem_ready.2 ⟨k,ops[j],GU c,λe m _=>by
     have p:=Lp f (GU c) e m;have d:=h e.on p;have q:e.on<b.size:=by omega
     simp only[Array.getD_eq_getD_getElem?,GU q,Option.getD_some] at d ⊢;exact d⟩
    rw[g] at this;cases this
  .simp[yU (show b.size<=j by omega)]
def xk (l:M O):H:=l.toList.countP (λb=>!b)
theorem Ah {l:M O}(h:l.getD i G=V):xk (l.setIfInBounds i G)+1=xk l:=by
 have b:i<l.size:=by
  rcases iM i l.size with c|c
  .exact c
  .simp[yU c] at h
 have d:l.toList[i]'(by simpa using b)=V:=by simpa[b] using h
 unfold xk;rw[Array.toList_setIfInBounds,List.set_eq_take_append_cons_drop,av (by simpa using b)];have e:l.toList=l.toList.take i++V::l.toList.drop (i+1):=by
  rw[<-d,List.getElem_cons_drop,qA]
 conv=>rhs;rw[e]
 simp only[List.countP_append,List.countP_cons];simp;omega
def SK (P:Program)(c:M Oper)(Q:U->Act->C->Prop)(md:Region.Mode)(e:(H->O)->Act->C->Prop):Prop:=
 ∀i b a w,i<c.size->b i=V->(∀d,Lm md c i d=G->b d=G)->e b a w->wpOp P c Q i (λf g=>e (λj=>j==i||b j) f g) a w
theorem E9 {l:M O}(b:i<l.size):(λj=>(l.setIfInBounds i G).getD j G)=(λj=>j==i||l.getD j G):=by
 funext j
 by_cases h:i=j
 .subst h;simp[b]
 .rw[getD_set_ne G h]
  have:(j==i)=V:=aX.2 (Ne.symm h);rw[this];rfl
theorem Dx {c:(H->O)->Act->C->Prop}(u:Bp ops=G)(v:∀e a w,c e a w->R w)
  (g:∀e a w,(∀j,e j=G)->c e a w->Q .normal a w) (x:SK P ops Q md c):
  ∀(f:H)(b:M O)(a:Act)(w:C),b.size=ops.size->xk b<=f->c (λj=>b.getD j G) a w->rH (wpOp P ops Q) md ops Q (λ_ _ m=>R m) f b a w
 |0,b,a,w,p,E,h=>by
  have y:∀j,b.getD j G=G:=λj=>by
   cases F:b.getD j G with
   |true=>rfl
   |false=>have:=Ah F;omega
  refine⟨?_,g _ a w y h⟩
  cases q:Region.ready md ops b with
  |nil=>rfl
  |cons i r=>
   have:=(mem_ready.1 (show i∈Region.ready md ops b by rw[q];exact fQ)).1;rw[y i] at this;cases this
 |f+1,b,a,w,p,E,h=>by
  refine⟨λq=>g _ a w (Qi u p q) h,λi K=>?_⟩;obtain⟨z,o,A,T⟩:=mem_ready.1 K;have W:i<ops.size:=(dS.1 A).1;refine wpOp_mono (λX m B=>⟨v _ _ _ B,?_⟩) (x i _ a w W z (λd s=>?_) h)
  .refine Dx u v g x f _ X m (by simpa using p) (by have:=Ah z;omega) ?_
   rw[E9 ah];exact B
  .unfold Lm at s
   simp only[A,Array.any_eq_true,aM,oJ] at s;obtain⟨k,Y,hb,he⟩:=s;have:=T _ (Array.getElem_mem Y) hb;rw[he] at this;rcases iM d b.size with t|t
   .simpa[t] using this
   .simp[yU t]
def wE (P:Program)(b:M Oper)(R:C->Prop)(c:Act->C->Prop):J H->Act->C->Prop
 |[],a,w=>c a w
 |i::r,a,w=>∃o v,b[i]?=N o/\YieldsIf P b R o v a/\wE P b R c r (a.put o.dst v) w
def Ai (md:Region.Mode)(b:M Oper):J H->M O->O
 |[],_=>G
 |i::r,listed=>(Region.ready md b listed).contains i && Region.free md b listed i && Ai md b r (listed.setIfInBounds i G)
structure Gu (P:Program)(ops:M Oper)(Q:U->Act->C->Prop)(R:C->Prop)(pre:J H)(a:Act)(w:C)(I:(H->O)->Act->C->Prop):Prop where
 r:∀L a w,I L a w->R w
 start:I (λj=>pre.contains j||decide (ops.size<=j)) a w
 stop:∀L a w,(∀j,L j=G)->I L a w->Q .normal a w
 step:SK P ops Q .any I
theorem yg (m:Region.noSelect ops=G)(p:∀d v c a w,Q (.panic c) (Act.put a d v) w->Q (.panic c) a w)(q:Bp ops=G){f:J H}:
  ∀(l done:J H)(b:M O)(a:Act)(w:C),done++l=f->b.size=ops.size->(∀j,b.getD j G=(done.contains j||decide (ops.size<=j)))->Ai .any ops l b=G->R w->wE P ops R (λa w=>∃s,Gu P ops Q R f a w s) l a w->rH (wpOp P ops Q) .any ops Q (λ_ _ t=>R t) (xk b) b a w
 |[],done,b,a,w,hp,hz,hL,_,_,⟨s,h⟩=>by
  refine Dx q h.r h.stop h.step _ b a w hz (aB _) ?_;rw[funext hL,show done=f by rw[<-hp,dm]];exact h.start
 |i::r,done,b,a,w,hp,hz,hL,hB,hR,h=>by
  simp only[Ai,aM] at hB;obtain⟨⟨u,x⟩,y⟩:=hB;obtain⟨o,v,g,z,A⟩:=h;have K:i<ops.size:=(dS.1 g).1;have B:b.getD i G=V:=(mem_ready.1 (by simpa using u:i∈Region.ready .any ops b)).1;have E:=yg m p q r (done++[i]) (b.setIfInBounds i G) _ _ (by rw[<-hp,dw];rfl) (by simpa using hz) (λj=>by
   have e:=congrFun (E9 (l:=b) (i:=i) ah) j;rw[e,hL j];by_cases k:j=i
   .subst k;simp
   .simp[k]) y hR A
  have:=Af (S:=R) Dt g (Region.noSelect_spec m) (λc a w=>p _ _ c a w) (λ_ h=>h) (λj T k W X w t F _=>F) (xk (b.setIfInBounds i G)) b a w (Region.free_spec g x) (by simpa using u) z hR E;rw[Ah B] at this;exact this
theorem GV:∀n:H,xk (Array.replicate n V)=n:=λn=>by
 unfold xk;rw[Array.toList_replicate,List.countP_replicate];simp
variable{a:Act}{w:C}
theorem Et {b:H}{l:J Oper}(f:J H)(R:C->Prop)(g:J PanicEntry->C->Prop)(p:P.follows .mixedOrders=G)
  (m:(Region.noSelect l.toArray && Bp l.toArray && Ai .any l.toArray f (Array.replicate l.toArray.size V))=G)
  (q:∀c k d,k.defers=a.defers->g c d->Q (.panic c) k d)
  (s:R w.drew) (h:wE P l.toArray R (λk d=>∃t,Gu P l.toArray (tu Q a.defers g) R f k d t) f a w.drew):(Code.region b l.toArray G).wp P Q a w:=by
 simp only[aM] at m;obtain⟨⟨u,v⟩,x⟩:=m;refine wp_mono (Q:=tu Q a.defers g) (wp_region_any p (pu (T:=λ_ _ d=>R d) _ _ _ _ ?_)) (Kb q);have:=yg (Q:=tu Q a.defers g) u Nt v f [] _ a _ rfl ak (λj=>by
  rcases iM j l.toArray.size with e|e
  .simp at e;simp[e]
  .simp at e;simp[e]) x s h
 rw[GV] at this;exact this
theorem Cv {k n b:H}{l:J Oper}(d:J H)(R:C->Prop)(g:P.follows .mixedOrders=G)
  (f:(Region.noSelect l.toArray && Bp l.toArray && Ai .any l.toArray d (Array.replicate l.toArray.size V))=G) (m:Bo l=G)
  (p:R w.drew) (h:wE P l.toArray R (λq e=>∃s,Gu P l.toArray (iJ Q) R d q e s) d a w.drew):(Code.region b l.toArray G).wpIn (Fence.wide.inRound k) n P Q a w:=by
 simp only[aM] at f;obtain⟨⟨u,v⟩,x⟩:=f;refine wpIn_mono (Q:=iJ Q) (wpIn_region_draw λt=>?_) vQ;simp only[Region.schedule,g,Bool.true_or,bR];refine Dr (Ae m) (Du Q) _ _ _ (wpAny_sound _ t _ a _ (pu (T:=λ_ _ e=>R e) _ _ _ _ ?_));have:=yg (Q:=iJ Q) u (wZ Q) v d [] _ a _ rfl ak (λj=>by
  rcases iM j l.toArray.size with c|c
  .simp at c;simp[c]
  .simp at c;simp[c]) x p h
 rw[GV] at this;exact this
theorem TK (h:Q .normal a w):iJ Q .normal a w:=h
def rW (a:Act):J (Tmp × Value)->Act
 |[]=>a
 |(d,v)::r=>rW (a.put (N d) v) r
theorem Nv {f:J H}(F:Act->(H->O)->Act->C->Prop)(g:∀e c b,F a e c b->R b)(h:F a (λj=>f.contains j||decide (ops.size<=j)) a w)
  (k:∀e c b,(∀j,e j=G)->F a e c b->Q .normal c b)
  (m:∀i e c b,i<ops.size->e i=V->(∀d,Lm .any ops i d=G->e d=G)->F a e c b->wpOp P ops Q i (λc b=>F a (λj=>j==i||e j) c b) c b):
  wE P ops R (λc b=>∃p,Gu P ops Q R f c b p) [] a w:=⟨F a,g,h,k,m⟩
theorem ZF (h:Q .normal a w):tu Q D RP .normal a w:=h
variable {l:J Oper}{a:Act}{w:C}{r:J H}{i:H}{o:Oper}{Z:Act->C->Prop}
theorem GX (b:opAt l i=N o)(c:Region.wanted o (yielded l.toArray a.tmps)=G)
  (h:∃v,(∀w,R w->(execOp a.eval o).run P w= .ok (.value v) w)/\wE P l.toArray R Z r (a.put o.dst v) w):wE P l.toArray R Z (i::r) a w:=
 let⟨v,d,e⟩:=h
 ⟨o,v,oh _ _ _ b,.inl ⟨c,d⟩,e⟩
theorem uh {b:Act->C->Prop}(c:opAt l i=N o)(d:Region.wanted o (yielded l.toArray a.tmps)=G)(h:∀K:Act->C->Prop,(∀a w,b a w->K a w)->o.wp P a w K Q):wpOp P l.toArray Q i b a w:=by
 have e:=oh _ _ _ c;unfold wpOp;simp only[e,d,bR];exact .inl (h _ λ_ _ h=>h)
end
theorem qV {p q:Prop}(h:p)(f:p->q:=by
 intro h
 (repeat(refine GX rfl rfl ?_;apply Exists.intro;refine⟨λwS hS=>?_,?_⟩;(go_simp;try with_reducible rfl);simp only[Act.put,lu,kF,kK]))
 exact h):q:=f h
end Yd
