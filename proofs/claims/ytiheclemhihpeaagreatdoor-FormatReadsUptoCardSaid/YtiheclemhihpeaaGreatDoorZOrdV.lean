import Derived.Test.YtiheclemhihpeaaGreatDoorZA0
import Derived.OrdersHeld
import Derived.Still
import Derived.Tactics2
import Derived.CallsIn
import Derived.OrdersIn
import Derived.TacticsIn
import Derived.RangeFuncCalls
set_option linter.all false
set_option maxRecDepth 200000
set_option maxHeartbeats 8000000
namespace Yd
open Bool renaming true->G
open Option renaming some->N
open Go
open Act renaming put_comm->V
open Go renaming World->C,Exit->U
open _root_ renaming Nat->H,List->J,Array->M,Bool->O
theorem aa9{p:Prop}(h:p:=by rw[<-V a v u q];exact p):p:=h
section
variable {P:Program}{ops:M Oper}{Q:U->Act->C->Prop}{md:Region.Mode}{S:C->Prop}
theorem FV {k n:H}{row:String}{args:M Value}{w:C}{R:Value->C->Prop}(h:Rows P row args w R):RowsIn (Fence.wide.inRound k) n P row args w R:=
 λc b _=>let⟨v,d,r,s⟩:=h c b;⟨v,d,r,stepsIn_wide.2 s⟩
theorem CJ {k n:H}(p:∀(i:H) o,ops[i]?=N o->∀c,o.op≠ .defer c)(q:¬LetsOut Q):
  ∀(d:J H)(a:Act)(w:C),wpOps P ops Q d a w->wpOpsIn (Fence.wide.inRound k) n P ops Q d a w:=by
 intro d
 induction d with
 |nil=>intro a w h;exact h
 |cons i rest b=>
  intro a w h;rw[wpOps_cons] at h;rw[wpOpsIn_cons];unfold wpOp at h;unfold wpOpIn
  cases j:ops[i]? with
  |none=>simp only[j] at h ⊢;exact b _ _ h
  |some o=>
   simp only[j] at h ⊢;by_cases m:Region.wanted o (yielded ops a.tmps)=G
   .rw[aA m] at h ⊢
    rcases h with h|⟨_,h⟩
    .refine⟨λf _=>trivial,?_⟩
     rw[Fence.inRound_round,Oper.semAt_some k _ _ (p i o j)];unfold Oper.wp at h;revert h;generalize(execOp a.eval o).run P w=r;intro h
     cases r with
     |ok x s=>
      cases x <;> simp only[Oper.upon,Oper.uponIn] at h ⊢
      all_goals first
       |exact b _ _ h
       |exact⟨λh=>(by cases h),(CallsIn.inRound k (callsIn_wide.2 h)).mono (λe t g=>by cases e <;> first|exact b _ _ g|exact g)⟩
       |exact⟨λh=>(by cases h),RowsIn.mono (FV h) (λ_ _ g=>b _ _ g)⟩
       |exact h.elim
     |halt x s=>cases x <;> simp only[Oper.upon,Oper.uponIn] at h ⊢ <;> exact h
    .exact absurd h q
   .rw[ay m] at h ⊢
    exact⟨λ_ _=>trivial,b _ _ h⟩
def AQ (l:J Oper):O:=l.all λo=>match o.op with| .defer _=>false|_=>G
theorem zQ {l:J Oper}(h:AQ l=G):∀(i:H) o,l.toArray[i]?=N o->∀c,o.op≠ .defer c:=by
 intro i o b c d;have e:o∈l:=bS (by simpa using b);have:=jW.1 h o e;rw[d] at this
 cases this
end
def opAt:J Oper->H->Option Oper
 |[],_=>none
 |o::_,0=>N o
 |_::l,i+1=>opAt l i
theorem mW:∀(l:J Oper)(i:H)(o:Oper),opAt l i=N o->l.toArray[i]?=N o
 |[],_,_,h=>by cases h
 |x::_,0,o,h=>by simpa[opAt] using h
 |_::l,i+1,o,h=>by have:=mW l i o h;simpa using this
inductive OU where
 |nil
 |q (i c:H) (r:OU)
 |l (i:H) (r:OU)
 |alt (i:H) (r:OU) (j:H) (s:OU)
 |JO (i:H) (r:OU) (j:H) (s:OU) (k:H) (t:OU)
def OU.size:OU->H
 | .nil=>0
 | .q _ _ r=>r.size+1
 | .l _ r=>r.size+1
 | .alt _ r _ _=>r.size+1
 | .JO _ r _ _ _ _=>r.size+1
def xR:J (H × H)->OU
 |[]=> .nil
 |(i,0)::r=> .q i 0 (xR r)
 |(i,1)::r=> .q i 1 (xR r)
 |(i,_+2)::r=> .l i (xR r)
section
variable {P:Program}{ops:M Oper}{Q:U->Act->C->Prop}{md:Region.Mode}{R S:C->Prop}{cut:H}{st:H->(Act->C->Prop)->Act->C->Prop}
structure Stp (P:Program)(ops:M Oper)(Q:U->Act->C->Prop)(st:H->(Act->C->Prop)->Act->C->Prop):Prop where
 mono:∀{i:H}{K K':Act->C->Prop}{a:Act}{w:C},(∀a w,K a w->K' a w)->st i K a w->st i K' a w
 Xl:∀{S:C->Prop}{i:H}{o:Oper}{v:Value}{a:Act}{w:C}{K:Act->C->Prop},ops[i]?=N o->YieldsIf P ops S o v a->S w->K (a.put o.dst v) w->st i K a w
 put:∀{S:C->Prop}{j:H}{oi oj:Oper}{v:Value}{K:Act->C->Prop}{a:Act}{w:C},ops[j]?=N oj->oi.apart ops oj=G->(∀cs b,oi.op≠ .select cs b)->(∀cs b,oj.op≠ .select cs b)->
  (∀c a w,Q (.panic c) (a.put oi.dst v) w->Q (.panic c) a w)->YieldsIf P ops S oi v a->st j K (a.put oi.dst v) w->st j (λa' w'=>YieldsIf P ops S oi v a'/\K (a'.put oi.dst v) w') a w
theorem CK:Stp P ops Q (wpOp P ops Q):=⟨wpOp_mono,λc b d h=>b.wpOp c d h,λe f g j k b h=>wpOp_putIf e f g j k b h⟩
def qP (c:H->(Act->C->Prop)->Act->C->Prop)(md:Region.Mode)(b:M Oper)(Q:U->Act->C->Prop)(T:H->C->C->Prop):H->M O->Act->C->Prop
 |0,listed,a,w=>Region.ready md b listed=[]/\Q .normal a w
 |fuel+1,listed,a,w=>(Region.ready md b listed=[]->Q .normal a w)/\∀i∈Region.ready md b listed,c i (λe d=>T i w d/\qP c md b Q T fuel (listed.setIfInBounds i G) e d) a w
theorem qy {T:H->C->C->Prop}:∀(b:H)(c:M O)(a:Act)(w:C),qP (wpOp P ops Q) md ops Q T b c a w->wpAny P md ops Q b c a w
 |0,_,_,_,h=>h
 |b+1,_,_,_,h=>⟨h.1,λi d=>wpOp_mono (λ_ _ e=>qy b _ _ _ e.2) (h.2 i d)⟩
variable{i:H}
theorem zR (x:Stp P ops Q st){T:H->C->C->Prop}{p:Oper}{v:Value}(F:ops[i]?=N p)(W:∀(j:H)(o:Oper) s b,ops[j]?=N o->o.op≠ .select s b)
  (hQ:∀c a w,Q (.panic c) (a.put p.dst v) w->Q (.panic c) a w) (X:∀w,S w->T i w w)
  (hT:∀j d,ops[j]?=N d->j≠i->(∀e∈d.after,Region.binds md e=G->e.on≠i)->∀w y,T j w y->S w->S y):
  ∀(t:H)(f:M O)(a:Act)(w:C),
   (∀j d,ops[j]?=N d->j≠i->f.getD j G=false->(∀e∈d.after,Region.binds md e=G->e.on≠i)->p.apart ops d=G)->
   i∈Region.ready md ops f->YieldsIf P ops S p v a->S w->
   qP st md ops Q T t (f.setIfInBounds i G) (a.put p.dst v) w->qP st md ops Q T (t+1) f a w:=by
 intro t
 induction t with
 |zero=>
  intro f a w _ g z q h;refine⟨λh=>(by rw[h] at g;cases g),λj A=>?_⟩;rcases Decidable.em (j=i) with rfl|m
  .exact x.Xl F z q ⟨X _ q,h⟩
  .have:=ready_mono A m
   rw[h.1] at this;cases this
 |succ t ih=>
  intro f a w Y g z q h;refine⟨λh=>(by rw[h] at g;cases g),λj A=>?_⟩;rcases Decidable.em (j=i) with rfl|m
  .exact x.Xl F z q ⟨X _ q,h⟩
  obtain⟨α,d,B,δ⟩:=mem_ready.1 A;have β:=(mem_ready.1 g).1;have γ:∀e∈d.after,Region.binds md e=G->e.on≠i:=by
   intro e he hb ε;have u:=δ e he hb;rw[ε] at u;rcases jk i f.size with K|K
   .simp[K] at β u;rw[β] at u;cases u
   .simp[Dp K] at u
  have ζ:=x.put B (Y j d B m α γ) (λs b=>W i p s b F) (λs b=>W j d s b B) hQ z (h.2 j (ready_mono A m));refine x.mono (λa' y E=>⟨E.2.1,ih _ a' y (λk ok hk η θ ι=>Y k ok hk η ?_ ι) (ready_mono g (Ne.symm m)) E.1 (hT j d B m γ _ _ E.2.1 q) ?_⟩) ζ
  .rcases Decidable.em (j=k) with rfl|κ
   .exact α
   .rwa[getD_set_ne G κ] at θ
  .rw[Array.setIfInBounds_comm _ _ m];exact E.2.2
def qW (b:H)(R S:C->Prop)(i:H)(w w':C):Prop:=R w'/\(b<=i\/(S w->S w'))
def dR (P:Program)(g:M Oper)(d:H->(Act->C->Prop)->Act->C->Prop)(Q:U->Act->C->Prop)(R S:C->Prop)(e:H):OU->Act->C->Prop
 | .nil,a,w=>Q .normal a w
 | .q i c r,a,w=>∃o v,g[i]?=N o/\YieldsIf P g (λw=>R w/\(c=0->S w)) o v a/\dR P g d Q R S e r (a.put o.dst v) w
 | .l i r,a,w=>d i (λf b=>qW e R S i w b/\dR P g d Q R S e r f b) a w
 | .alt i r j s,a,w=>d i (λf b=>qW e R S i w b/\dR P g d Q R S e r f b) a w/\d j (λf b=>qW e R S j w b/\dR P g d Q R S e s f b) a w
 | .JO i r j s k t,a,w=>d i (λf b=>qW e R S i w b/\dR P g d Q R S e r f b) a w/\d j (λf b=>qW e R S j w b/\dR P g d Q R S e s f b) a w/\d k (λf b=>qW e R S k w b/\dR P g d Q R S e t f b) a w
def waits (md:Region.Mode)(b:M Oper)(c i:H):O:=(List.range b.size).all λj=>decide (j<c)||match b[j]? with
 |some d=>d.after.any (λe=>Region.binds md e && e.on==i)
 |none=>G
theorem JQ (h:waits md ops cut i=G)(j:H)(b:Oper)(c:ops[j]?=N b)(f:∀e∈b.after,Region.binds md e=G->e.on≠i):j<cut:=by
 have d:j<ops.size:=(fH.1 c).1;have:=jW.1 h j (uN.2 d)
 grind
def lT (md:Region.Mode)(b:M Oper)(d:H):OU->O->M O->O
 | .nil,_,listed=>(Region.ready md b listed).isEmpty
 | .q i c r,held,listed=>(Region.ready md b listed).contains i && Region.free md b listed i && (c !=0||held && waits md b d i) && lT md b d r held (listed.setIfInBounds i G)
 | .l i r,held,listed=>decide (Region.ready md b listed=[i]) && lT md b d r (held && decide (i<d)) (listed.setIfInBounds i G)
 | .alt i r j s,held,listed=>decide (Region.ready md b listed=[i,j]) && decide (r.size=s.size) && lT md b d r (held && decide (i<d)) (listed.setIfInBounds i G) && lT md b d s (held && decide (j<d)) (listed.setIfInBounds j G)
 | .JO i r j s k t,held,listed=>decide (Region.ready md b listed=[i,j,k]) && decide (r.size=s.size) && decide (r.size=t.size) && lT md b d r (held && decide (i<d)) (listed.setIfInBounds i G) && lT md b d s (held && decide (j<d)) (listed.setIfInBounds j G) && lT md b d t (held && decide (k<d)) (listed.setIfInBounds k G)
def FW (P:Program)(md:Region.Mode)(b:M Oper)(d:H->(Act->C->Prop)->Act->C->Prop)(Q:U->Act->C->Prop)(R S:C->Prop)(c:H)(r:OU):Prop:=
 ∀(e:O)(f:M O)(a:Act)(w:C),lT md b c r e f=G->R w->(e=G->S w)->dR P b d Q R S c r a w->qP d md b Q (qW c R S) r.size f a w
variable{n:H}
theorem FW.step {r:OU}(g:FW P md ops st Q R S cut r)(j:Stp P ops Q st){u:O}{d:M O}{a:Act}{w:C}(k:lT md ops cut r (u && decide (i<cut)) (d.setIfInBounds i G)=G)(m:u=G->S w)(p:n=r.size)
  (h:st i (λb w'=>qW cut R S i w w'/\dR P ops st Q R S cut r b w') a w):st i (λb w'=>qW cut R S i w w'/\qP st md ops Q (qW cut R S) n (d.setIfInBounds i G) b w') a w:=by
 subst p;refine j.mono (λb w' c=>⟨c.1,g _ _ _ _ k c.1.1 (λe=>?_) c.2⟩) h;simp only[bD,bO] at e;rcases c.1.2 with f|f
 .omega
 .exact f (m e.1)
theorem nT (d:Stp P ops Q st)(p:Region.noSelect ops=G)(q:∀(i:H)(o:Oper),ops[i]?=N o->∀v c a w,Q (.panic c) (Act.put a o.dst v) w->Q (.panic c) a w):∀l:OU,FW P md ops st Q R S cut l
 | .nil=>λ_ y a w b _ _ h=>⟨by simpa[lT] using b,h⟩
 | .q i c r=>λA y a w b z f h=>by
  simp only[lT,bD,tZ,mO] at b;obtain⟨⟨⟨x,hf⟩,X⟩,α⟩:=b;obtain⟨o,v,E,F,hn⟩:=h;refine zR (S:=λw=>R w/\(c=0->S w)) d E (Region.noSelect_spec p) (λc a w=>q i o E _ c a w) (λ_ h=>⟨h.1,.inr id⟩) (λj oj g δ β w w' Y hw=>⟨Y.1,λB=>?_⟩) r.size y a w (Region.free_spec E hf) (by simpa using x) F
   ⟨z,λB=>f (X.resolve_left (λe=>e B)).1⟩ (nT d p q r A _ _ _ α z f hn)
  rcases Y.2 with h1|h1
  .exact absurd (JQ (X.resolve_left (λe=>e B)).2 j oj g β) ah
  .exact h1 (hw.2 B)
 | .l i r=>λA y a w b z f h=>by
  simp only[lT,bD,bO] at b;refine⟨λu=>(by rw[b.1] at u;cases u),λj g=>?_⟩;rw[b.1] at g;obtain rfl:j=i:=by simpa using g
  exact(nT d p q r).step d b.2 f rfl h
 | .alt i r k s=>λA y a w b z f h=>by
  simp only[lT,bD,bO] at b;obtain⟨⟨⟨x,K⟩,T⟩,W⟩:=b;refine⟨λu=>(by rw[x] at u;cases u),λj g=>?_⟩;rw[x] at g;rcases(by simpa using g:j=i\/j=k) with rfl|rfl
  .exact(nT d p q r).step d T f rfl h.1
  .exact(nT d p q s).step d W f K h.2
 | .JO i r k s m t=>λA y a w b z f h=>by
  simp only[lT,bD,bO] at b;obtain⟨⟨⟨⟨⟨x,K⟩,F⟩,T⟩,W⟩,γ⟩:=b;refine⟨λu=>(by rw[x] at u;cases u),λj g=>?_⟩;rw[x] at g;rcases(by simpa using g:j=i\/j=k\/j=m) with rfl|rfl|rfl
  .exact(nT d p q r).step d T f rfl h.1
  .exact(nT d p q s).step d W f K h.2.1
  .exact(nT d p q t).step d γ f F h.2.2
variable {l:J Oper}{a:Act}{w:C}
def ug (l:J Oper)(c:H)(b:OU):O:=Region.noSelect l.toArray && decide (b.size=l.length) && lT .any l.toArray c b G (Array.replicate l.toArray.size false)
theorem vW {b:H->(Act->C->Prop)->Act->C->Prop}(f:Stp P l.toArray Q b)(d:OU)(e:ug l cut d=G)
  (g:∀(i:H)(o:Oper),l.toArray[i]?=N o->∀v c a w,Q (.panic c) (Act.put a o.dst v) w->Q (.panic c) a w) (j:R w) (k:S w) (h:dR P l.toArray b Q R S cut d a w):
  qP b .any l.toArray Q (qW cut R S) l.toArray.size (Array.replicate l.toArray.size false) a w:=by
 simp only[ug,bD,bO] at e;have:=nT (md:= .any) f e.1.1 g d G _ a _ e.2 j (λ_=>k) h
 grind
def gN (Q:U->Act->C->Prop):U->Act->C->Prop
 | .outgrown,_,_=>False
 | .panic _,_,_=>False
 | .normal,a,w=>Q .normal a w
 | .ret,a,w=>Q .ret a w
 | .exit b,a,w=>Q (.exit b) a w
 | .goto t,a,w=>Q (.goto t) a w
theorem CO (Q:U->Act->C->Prop):¬LetsOut (gN Q):=λ⟨_,_,h⟩=>h
theorem uT (e:U)(a:Act)(w:C)(h:gN Q e a w):Q e a w:=by
 cases e <;> first|exact h|exact h.elim
theorem wN (Q:U->Act->C->Prop):∀d v c a w,gN Q (.panic c) (Act.put a d v) w->gN Q (.panic c) a w:=λ_ _ _ _ _ h=>h
variable{B:H}
theorem jR (c:H)(b:OU)(R S:C->Prop)(d:P.follows .mixedOrders=G)(e:ug l c b=G)
  (f:R w.drew) (g:S w.drew) (h:dR P l.toArray (wpOp P l.toArray (gN Q)) (gN Q) R S c b a w.drew):(Code.region B l.toArray G).wp P Q a w:=
 wp_mono (Q:=gN Q) (wp_region_any d (qy _ _ _ _ (vW CK b e (λ_ _ _ _=>wN Q _ _) f g h))) uT
theorem BB {k:H}(c:H)(b:OU)(R S:C->Prop)(d:P.follows .mixedOrders=G)(e:ug l c b=G)(f:AQ l=G)
  (g:R w.drew) (j:S w.drew) (h:dR P l.toArray (wpOp P l.toArray (gN Q)) (gN Q) R S c b a w.drew):(Code.region B l.toArray G).wpIn (Fence.wide.inRound k) n P Q a w:=by
 refine wpIn_mono (Q:=gN Q) (wpIn_region_draw λt=>?_) uT;simp only[Region.schedule,d,Bool.true_or,dG];exact CJ (zQ f) (CO Q) _ _ _ (wpAny_sound _ t _ a _ (qy _ _ _ _ (vW CK b e (λ_ _ _ _=>wN Q _ _) g j h)))
theorem aD (b:H)(c:J (H × H))(R S:C->Prop)(d:P.follows .mixedOrders=G)(e:ug l b (xR c)=G)
  (f:R w.drew) (g:S w.drew) (h:dR P l.toArray (wpOp P l.toArray (gN Q)) (gN Q) R S b (xR c) a w.drew):(Code.region B l.toArray G).wp P Q a w:=jR b _ R S d e f g h
theorem vX {k:H}(b:H)(c:J (H × H))(R S:C->Prop)(d:P.follows .mixedOrders=G)(e:ug l b (xR c)=G)(f:AQ l=G)
  (g:R w.drew) (j:S w.drew) (h:dR P l.toArray (wpOp P l.toArray (gN Q)) (gN Q) R S b (xR c) a w.drew):(Code.region B l.toArray G).wpIn (Fence.wide.inRound k) n P Q a w:=BB b _ R S d e f g j h
theorem aH (h:Q .normal a w):dR P ops st (gN Q) R S cut .nil a w:=h
variable {r:OU}{i:H}{o:Oper}
theorem Uo (b:opAt l i=N o)(c:Region.wanted o (yielded l.toArray a.tmps)=G)
  (h:∃v,(∀w,R w/\S w->(execOp a.eval o).run P w= .ok (.value v) w)/\dR P l.toArray st Q R S cut r (a.put o.dst v) w):dR P l.toArray st Q R S cut (.q i 0 r) a w:=
 let⟨v,d,e⟩:=h
 ⟨o,v,mW _ _ _ b,.inl ⟨c,λw h=>d w ⟨h.1,h.2 rfl⟩⟩,e⟩
theorem Uq (b:opAt l i=N o)(c:Region.wanted o (yielded l.toArray a.tmps)=G)
  (h:∃v,(∀w,R w->(execOp a.eval o).run P w= .ok (.value v) w)/\dR P l.toArray st Q R S cut r (a.put o.dst v) w):dR P l.toArray st Q R S cut (.q i 1 r) a w:=
 let⟨v,d,e⟩:=h
 ⟨o,v,mW _ _ _ b,.inl ⟨c,λw h=>d w h.1⟩,e⟩
theorem LH {c:H}(b:opAt l i=N o)(d:Region.wanted o (yielded l.toArray a.tmps)=false)(e:dR P l.toArray st Q R S cut r (a.put o.dst undef) w):dR P l.toArray st Q R S cut (.q i c r) a w:=
 ⟨o,undef,mW _ _ _ b,.inr ⟨d,rfl⟩,e⟩
theorem dF (c:opAt l i=N o)(d:Region.wanted o (yielded l.toArray a.tmps)=G)(h:∀K:Act->C->Prop,(∀a w,R w/\S w->dR P l.toArray (wpOp P l.toArray Q) Q R S cut r a w->K a w)->o.wp P a w K Q):
  wpOp P l.toArray Q i (λe w'=>qW cut R S i w w'/\dR P l.toArray (wpOp P l.toArray Q) Q R S cut r e w') a w:=by
 unfold wpOp;simp only[mW _ _ _ c,d,dG];exact .inl (h _ λ_ _ b f=>⟨⟨b.1,.inr λ_=>b.2⟩,f⟩)
theorem aG (b:opAt l i=N o)(c:Region.wanted o (yielded l.toArray a.tmps)=G)(h:∀K:Act->C->Prop,(∀a w,R w/\S w->dR P l.toArray (wpOp P l.toArray Q) Q R S cut r a w->K a w)->o.wp P a w K Q):
  dR P l.toArray (wpOp P l.toArray Q) Q R S cut (.l i r) a w:=dF b c h
theorem bA (hc:decide (cut<=i)=G)(b:opAt l i=N o)(c:Region.wanted o (yielded l.toArray a.tmps)=G)(h:∀K:Act->C->Prop,(∀a w,R w->dR P l.toArray (wpOp P l.toArray Q) Q R S cut r a w->K a w)->o.wp P a w K Q):
  dR P l.toArray (wpOp P l.toArray Q) Q R S cut (.l i r) a w:=by
 show wpOp _ _ _ _ _ _ _;unfold wpOp;simp only[mW _ _ _ b,c,dG];exact .inl (h _ λ_ _ d e=>⟨⟨d,.inl (oH hc)⟩,e⟩)
theorem kR (b:opAt l i=N o)(c:Region.wanted o (yielded l.toArray a.tmps)=false)(d:R w)(e:dR P l.toArray (wpOp P l.toArray Q) Q R S cut r (a.put o.dst undef) w):dR P l.toArray (wpOp P l.toArray Q) Q R S cut (.l i r) a w:=by
 show wpOp _ _ _ _ _ _ _;unfold wpOp;simp only[mW _ _ _ b,c,xw,ku];exact⟨⟨d,.inr id⟩,e⟩
end
variable{p q:Prop}
theorem qC (h:p)(f:p->q:=by
 intro h
 (repeat((first|refine LH rfl rfl ?_|((first|refine Uo rfl rfl ?_|refine Uq rfl rfl ?_);apply Exists.intro;refine⟨λwS hS=>?_,?_⟩;(go_simp;try with_reducible rfl)));simp only[Act.put,nY,ng,ni]))
 exact h):q:=f h
theorem qL (h:p)(f:p->q:=by
 intro h;refine qC ?_;refine aG rfl rfl (λK hK=>?_);go_simp;revert hK;revert K;exact h):q:=f h
theorem qM (h:p)(f:p->q:=by
 intro h;refine qC ?_;refine bA rfl rfl rfl (λK hK=>?_);go_simp;revert hK;revert K;exact h):q:=f h
section
variable {P:Program}{ops:M Oper}{Q:U->Act->C->Prop}{R S:C->Prop}{cut:H}{RP:J PanicEntry->C->Prop}{D:J Deferred}
def vY (Q:U->Act->C->Prop)(D:J Deferred)(RP:J PanicEntry->C->Prop):U->Act->C->Prop
 | .outgrown,_,_=>False
 | .panic c,a,w=>a.defers=D/\RP c w
 | .normal,a,w=>Q .normal a w
 | .ret,a,w=>Q .ret a w
 | .exit b,a,w=>Q (.exit b) a w
 | .goto t,a,w=>Q (.goto t) a w
theorem Rk (hP:∀c a w,a.defers=D->RP c w->Q (.panic c) a w)(e:U)(a:Act)(w:C)(h:vY Q D RP e a w):Q e a w:=by
 cases e <;> first|exact h|exact h.elim|exact hP _ _ _ h.1 h.2
theorem Ur:∀d v c a w,vY Q D RP (.panic c) (Act.put a d v) w->vY Q D RP (.panic c) a w:=λd _ _ _ _ h=>by cases d <;> exact h
variable{a:Act}{w:C}
theorem pE {B:H}{l:J Oper}(d:H)(b:OU)(R S:C->Prop)(RP:J PanicEntry->C->Prop)(g:P.follows .mixedOrders=G)(j:ug l d b=G)
  (hP:∀c e f,e.defers=a.defers->RP c f->Q (.panic c) e f)
  (k:R w.drew) (m:S w.drew) (h:dR P l.toArray (wpOp P l.toArray (vY Q a.defers RP)) (vY Q a.defers RP) R S d b a w.drew):(Code.region B l.toArray G).wp P Q a w:=
 wp_mono (Q:=vY Q a.defers RP) (wp_region_any g (qy _ _ _ _ (vW CK b j (λ_ _ _ _=>Ur _ _) k m h))) (Rk hP)
theorem cK {B:H}{l:J Oper}(b:H)(d:J (H × H))(R S:C->Prop)(RP:J PanicEntry->C->Prop)(g:P.follows .mixedOrders=G)(j:ug l b (xR d)=G)
  (hP:∀c e f,e.defers=a.defers->RP c f->Q (.panic c) e f)
  (k:R w.drew) (m:S w.drew) (h:dR P l.toArray (wpOp P l.toArray (vY Q a.defers RP)) (vY Q a.defers RP) R S b (xR d) a w.drew):(Code.region B l.toArray G).wp P Q a w:=pE b _ R S RP g j hP k m h
theorem eP (h:Q .normal a w):dR P ops (wpOp P ops (vY Q D RP)) (vY Q D RP) R S cut .nil a w:=h
end
section
variable {n:H}{P:Program}{ops:M Oper}{Q:U->Act->C->Prop}{md:Region.Mode}{S:C->Prop}{cut:H}
theorem wide_round:Fence.wide.round=none:=rfl
variable{a:Act}{w:C}
theorem CP {i:H}{o:Oper}{v:Value}(c:ops[i]?=N o)(d:YieldsIf P ops S o v a){K:Act->C->Prop}(e:S w)(h:K (a.put o.dst v) w):wpOpIn Fence.wide n P ops Q i K a w:=by
 unfold Go.wpOpIn;simp only[c];rcases d with⟨b,f⟩|⟨b,rfl⟩
 .simp only[b,dG,Oper.wpIn,wide_round,Oper.semAt_none,f w e,Oper.uponIn];exact⟨λ_ _=>trivial,h⟩
 .simp only[b,xw,ku];exact⟨λ_ _=>trivial,h⟩
theorem FX {j:H}{g k:Oper}{v:Value}(T:ops[j]?=N k)(W:g.apart ops k=G)
  (X:∀y b,g.op≠ .select y b) (Y:∀y b,k.op≠ .select y b)
  (A:∀c a w,Q (.panic c) (a.put g.dst v) w->Q (.panic c) a w) {K:Act->C->Prop}  
  (m:YieldsIf P ops S g v a) (h:wpOpIn Fence.wide n P ops Q j K (a.put g.dst v) w):
  wpOpIn Fence.wide n P ops Q j (λB w'=>YieldsIf P ops S g v B/\K (B.put g.dst v) w') a w:=by
 obtain⟨t,q,E⟩:=Oper.apart_spec W;have s:∀(a:Act),YieldsIf P ops S g v a->∀u,YieldsIf P ops S g v (a.put k.dst u):=λa m u=>
  m.of_same (execOp_put g X a k.dst u E) (wanted_put g a k.dst u E)
 have α:∀d,YieldsIf P ops S g v {a with defers:=d::a.defers}:=λd=>m.of_same rfl rfl
 unfold wpOpIn at*;simp only[T] at*;rw[wanted_put k a g.dst v t,about_put k w a g.dst v t] at h
 split
 .rename_i z
  simp only[z,dG] at h;unfold Oper.wpIn at*;rw[about_put k w a g.dst v t] at h;refine⟨h.1,?_⟩;have h:=h.2;rw[wide_round,Oper.semAt_none,execOp_put k Y a g.dst v t] at h;rw[wide_round,Oper.semAt_none];generalize(execOp a.eval k).run P w=r at*
  cases r with
  |ok x w'=>
   cases x <;> simp only[Oper.uponIn] at h ⊢
   case value u=>exact⟨s a m u,by rw[<-V a v u q];exact h⟩
   case skip=>exact⟨s a m _,by rw[<-V a v undef q];exact h⟩
   case defer d=>
    refine⟨s _ (α d) _,?_⟩;rw[<-V _ v undef q,<-Act.put_defers];exact h
   case enter f β=>
    refine⟨h.1,CallsIn.mono h.2 λe F p=>?_⟩
    cases e with
    |returned u=>exact⟨s a m u,aa9⟩
    |panicked c=>exact A _ _ _ p
    |outgrown=>exact p
   case row γ β=>exact⟨h.1,RowsIn.mono h.2 λu F p=>⟨s a m u,aa9⟩⟩
   case round l f δ ε ζ=>
    refine⟨h.1,RoundIn.mono h.2 λe F p=>?_⟩
    cases e with
    |returned u=>exact⟨s a m u,aa9⟩
    |panicked c=>exact A _ _ _ p
    |outgrown=>exact p
  |halt x w'=>
   cases x <;> simp only[Oper.uponIn] at h ⊢
   grind
 .rename_i z
  simp only[z] at h;exact⟨h.1,s a m _,by rw[<-V a v undef q];exact h.2⟩
theorem Ws:Stp P ops Q (wpOpIn Fence.wide n P ops Q):=⟨wpOpIn_mono,λc b d h=>CP c b d h,λe f g j k b h=>FX e f g j k b h⟩
theorem zS {T:H->C->C->Prop}:∀(b:H)(c:M O)(a:Act)(w:C),qP (wpOpIn Fence.wide n P ops Q) md ops Q T b c a w->wpAnyIn Fence.wide n P md ops Q b c a w
 |0,_,_,_,h=>h
 |b+1,_,_,_,h=>⟨h.1,λi d=>wpOpIn_mono (λ_ _ e=>zS b _ _ _ e.2) (h.2 i d)⟩
theorem BD {B:H}{l:J Oper}(b:H)(c:J (H × H))(R S:C->Prop)(d:P.follows .mixedOrders=G)(e:ug l b (xR c)=G)
  (f:R w.drew) (g:S w.drew) (h:dR P l.toArray (wpOpIn Fence.wide n P l.toArray (gN Q)) (gN Q) R S b (xR c) a w.drew):(Code.region B l.toArray G).wpIn Fence.wide n P Q a w:=
 wpIn_mono (Q:=gN Q) (wpIn_region_any d (zS _ _ _ _ (vW Ws _ e (λ_ _ _ _=>wN Q _ _) f g h))) uT
variable {R:C->Prop}{l:J Oper}{a:Act}{w:C}{r:OU}{i:H}{o:Oper}
theorem FY (c:opAt l i=N o)(d:Region.wanted o (yielded l.toArray a.tmps)=G)(h:∀K:Act->C->Prop,(∀a w,R w/\S w->dR P l.toArray (wpOpIn Fence.wide n P l.toArray Q) Q R S cut r a w->K a w)->o.wpIn Fence.wide n P a w K Q):
  dR P l.toArray (wpOpIn Fence.wide n P l.toArray Q) Q R S cut (.l i r) a w:=by
 show wpOpIn _ _ _ _ _ _ _ _ _;unfold wpOpIn;simp only[mW _ _ _ c,d,dG];exact h _ λ_ _ b e=>⟨⟨b.1,.inr λ_=>b.2⟩,e⟩
end
section
variable {P:Program}{ops:M Oper}{Q:U->Act->C->Prop}{md:Region.Mode}{R S:C->Prop}{cut:H}{RP:J PanicEntry->C->Prop}{D:J Deferred}
def wO (Q:U->Act->C->Prop)(D:J Deferred)(t:H)(x:Value)(RP:J PanicEntry->C->Prop):U->Act->C->Prop
 | .outgrown,_,_=>False
 | .panic c,a,w=>a.defers=D/\a.tmps[t]?=N x/\RP c w
 | .normal,a,w=>Q .normal a w
 | .ret,a,w=>Q .ret a w
 | .exit b,a,w=>Q (.exit b) a w
 | .goto t,a,w=>Q (.goto t) a w
variable{t:H}{x:Value}
theorem Oz (hP:∀c a w,a.defers=D->a.tmps[t]?=N x->RP c w->Q (.panic c) a w)(e:U)(a:Act)(w:C)(h:wO Q D t x RP e a w):Q e a w:=by
 cases e <;> first|exact h|exact h.elim|exact hP _ _ _ h.1 h.2.1 h.2.2
theorem Rl {o:Oper}(f:o.dst≠N t):∀v c a w,wO Q D t x RP (.panic c) (Act.put a o.dst v) w->wO Q D t x RP (.panic c) a w:=λv c a w h=>by
 cases b:o.dst with
 |none=>rw[b] at h;exact h
 |some d=>
  rw[b] at h;obtain⟨g,j,k⟩:=h;refine⟨g,?_,k⟩;have m:d≠t:=λe=>f (by rw[b,e])
  have e:(Act.put a (N d) v).tmps[t]?=a.tmps[t]?:=by
   show(a.tmps.setIfInBounds d v)[t]?=_;rw[iQ m]
  rw[<-e];exact j
theorem CQ {B:H}{a:Act}{w:C}{l:J Oper}(t:H)(x:Value)(e:H)(f:J (H × H))(R S:C->Prop)(RP:J PanicEntry->C->Prop)(b:P.follows .mixedOrders=G)(j:ug l e (xR f)=G)
  (k:l.all (λo=>decide (o.dst≠N t))=G)
  (hP:∀c d g,d.defers=a.defers->d.tmps[t]?=N x->RP c g->Q (.panic c) d g)
  (m:R w.drew) (p:S w.drew) (h:dR P l.toArray (wpOp P l.toArray (wO Q a.defers t x RP)) (wO Q a.defers t x RP) R S e (xR f) a w.drew):(Code.region B l.toArray G).wp P Q a w:=
 wp_mono (Q:=wO Q a.defers t x RP) (wp_region_any b (qy _ _ _ _ (vW CK _ j (λi o q=>Rl (by
  have b:o∈l:=by simpa using Array.mem_of_getElem? q
  exact oH (jW.1 k o b))) m p h))) (Oz hP)
theorem LJ {a:Act}{w:C}(h:Q .normal a w):dR P ops (wpOp P ops (wO Q D t x RP)) (wO Q D t x RP) R S cut .nil a w:=h
end
section
variable {P:Program}{ops:M Oper}{Q:U->Act->C->Prop}{md:Region.Mode}{R S:C->Prop}{cut:H}{RP:J PanicEntry->C->Prop}{D:J Deferred}
def JR (md:Region.Mode)(b:M Oper)(i d:H):O:=match b[i]? with
 |some o=>o.after.any (λe=>Region.binds md e && e.on==d)
 |none=>false
def CR (b:M Oper):O:=(List.range b.size).all λi=>match b[i]? with
 |some o=>o.after.all (λe=>decide (e.on<i))
 |none=>G
variable{i:H}
theorem JS (h:CR ops=G){o:Oper}(b:ops[i]?=N o):∀e∈o.after,e.on<i:=λe c=>by
 have d:i<ops.size:=(fH.1 b).1;have:=jW.1 h i (uN.2 d);simp only[b,Array.all_eq_true_iff_forall_mem,bO] at this;exact this e c
theorem OA (f:CR ops=G){b:M O}(s:b.size=ops.size)(g:Region.ready md ops b=[]):∀j,b.getD j G=G:=by
 intro j
 induction j using Nat.strongRecOn with
 |_ j h=>
  rcases jk j ops.size with c|c
  .cases k:b.getD j G with
   |true=>rfl
   |false=>
    have:j∈Region.ready md ops b:=mem_ready.2 ⟨k,ops[j],FP c,λe m _=>by
     have p:=JS f (FP c) e m;have d:=h e.on p;have q:e.on<b.size:=by omega
     simp only[Array.getD_eq_getD_getElem?,FP q,Option.getD_some] at d ⊢;exact d⟩
    rw[g] at this;cases this
  .simp[Dp (show b.size<=j by omega)]
def wP (l:M O):H:=l.toList.countP (λb=>!b)
theorem zT {l:M O}(h:l.getD i G=false):wP (l.setIfInBounds i G)+1=wP l:=by
 have b:i<l.size:=by
  rcases jk i l.size with c|c
  .exact c
  .simp[Dp c] at h
 have d:l.toList[i]'(by simpa using b)=false:=by simpa[b] using h
 unfold wP;rw[Array.toList_setIfInBounds,List.set_eq_take_append_cons_drop,aA (by simpa using b)];have e:l.toList=l.toList.take i++false::l.toList.drop (i+1):=by
  rw[<-d,List.getElem_cons_drop,Cj]
 conv=>rhs;rw[e]
 simp only[List.countP_append,List.countP_cons];simp;omega
def PZ (P:Program)(c:M Oper)(Q:U->Act->C->Prop)(md:Region.Mode)(e:(H->O)->Act->C->Prop):Prop:=
 ∀i b a w,i<c.size->b i=false->(∀d,JR md c i d=G->b d=G)->e b a w->wpOp P c Q i (λf g=>e (λj=>j==i||b j) f g) a w
theorem Eh {l:M O}(b:i<l.size):(λj=>(l.setIfInBounds i G).getD j G)=(λj=>j==i||l.getD j G):=by
 funext j
 by_cases h:i=j
 .subst h;simp[b]
 .rw[getD_set_ne G h]
  have:(j==i)=false:=aN.2 (Ne.symm h);rw[this];rfl
theorem CS {c:(H->O)->Act->C->Prop}(t:CR ops=G)(u:∀e a w,c e a w->R w)
  (g:∀e a w,(∀j,e j=G)->c e a w->Q .normal a w) (v:PZ P ops Q md c):
  ∀(f:H)(b:M O)(a:Act)(w:C),b.size=ops.size->wP b<=f->c (λj=>b.getD j G) a w->qP (wpOp P ops Q) md ops Q (λ_ _ w'=>R w') f b a w
 |0,b,a,w,m,B,h=>by
  have x:∀j,b.getD j G=G:=λj=>by
   cases E:b.getD j G with
   |true=>rfl
   |false=>have:=zT E;omega
  refine⟨?_,g _ a w x h⟩
  cases p:Region.ready md ops b with
  |nil=>rfl
  |cons i r=>
   have:=(mem_ready.1 (show i∈Region.ready md ops b by rw[p];exact pU)).1;rw[x i] at this;cases this
 |f+1,b,a,w,m,B,h=>by
  refine⟨λp=>g _ a w (OA t m p) h,λi F=>?_⟩;obtain⟨y,o,z,K⟩:=mem_ready.1 F;have T:i<ops.size:=(fH.1 z).1;refine wpOp_mono (λW w' A=>⟨u _ _ _ A,?_⟩) (v i _ a w T y (λd q=>?_) h)
  .apply CS t u g v f _ W w' (by simpa using m) (by have:=zT y;omega)
   rw[Eh ah];exact A
  .unfold JR at q
   simp only[z,Array.any_eq_true,bD,beq_iff_eq] at q;obtain⟨k,X,Y,he⟩:=q;have:=K _ (Array.getElem_mem X) Y;rw[he] at this;rcases jk d b.size with s|s
   .simpa[s] using this
   .simp[Dp s]
def xS (P:Program)(b:M Oper)(R:C->Prop)(c:Act->C->Prop):J H->Act->C->Prop
 |[],a,w=>c a w
 |i::r,a,w=>∃o v,b[i]?=N o/\YieldsIf P b R o v a/\xS P b R c r (a.put o.dst v) w
def CU (md:Region.Mode)(b:M Oper):J H->M O->O
 |[],_=>G
 |i::r,listed=>(Region.ready md b listed).contains i && Region.free md b listed i && CU md b r (listed.setIfInBounds i G)
structure JU (P:Program)(ops:M Oper)(Q:U->Act->C->Prop)(R:C->Prop)(pre:J H)(a:Act)(w:C)(I:(H->O)->Act->C->Prop):Prop where
 r:∀L a w,I L a w->R w
 start:I (λj=>pre.contains j||decide (ops.size<=j)) a w
 stop:∀L a w,(∀j,L j=G)->I L a w->Q .normal a w
 step:PZ P ops Q .any I
theorem A9 (m:Region.noSelect ops=G)(p:∀d v c a w,Q (.panic c) (Act.put a d v) w->Q (.panic c) a w)(q:CR ops=G){f:J H}:
  ∀(l done:J H)(b:M O)(a:Act)(w:C),done++l=f->b.size=ops.size->(∀j,b.getD j G=(done.contains j||decide (ops.size<=j)))->CU .any ops l b=G->R w->xS P ops R (λa w=>∃s,JU P ops Q R f a w s) l a w->qP (wpOp P ops Q) .any ops Q (λ_ _ w'=>R w') (wP b) b a w
 |[],done,b,a,w,hp,hz,hL,_,_,⟨s,h⟩=>by
  apply CS q h.r h.stop h.step _ b a w hz (aC _)
  rw[funext hL,show done=f by rw[<-hp,eG]];exact h.start
 |i::r,done,b,a,w,hp,hz,hL,hB,hR,h=>by
  simp only[CU,bD] at hB;obtain⟨⟨t,u⟩,x⟩:=hB;obtain⟨o,v,g,y,z⟩:=h;have F:i<ops.size:=(fH.1 g).1;have A:b.getD i G=false:=(mem_ready.1 (by simpa using t:i∈Region.ready .any ops b)).1;have B:=A9 m p q r (done++[i]) (b.setIfInBounds i G) _ _ (by rw[<-hp,fP];rfl) (by simpa using hz) (λj=>by
   have e:=congrFun (Eh (l:=b) (i:=i) ah) j;rw[e,hL j];by_cases k:j=i
   .subst k;simp
   .simp[k]) x hR z
  have:=zR (S:=R) CK g (Region.noSelect_spec m) (λc a w=>p _ _ c a w) (λ_ h=>h) (λj K k T W w w' E _=>E) (wP (b.setIfInBounds i G)) b a w (Region.free_spec g u) (by simpa using t) y hR B;rw[zT A] at this;exact this
theorem OB:∀n:H,wP (Array.replicate n false)=n:=λn=>by
 unfold wP;rw[Array.toList_replicate,List.countP_replicate];simp
variable{a:Act}{w:C}
theorem BF {k n B:H}{l:J Oper}(c:J H)(R:C->Prop)(f:P.follows .mixedOrders=G)
  (e:(Region.noSelect l.toArray && CR l.toArray && CU .any l.toArray c (Array.replicate l.toArray.size false))=G) (g:AQ l=G)
  (m:R w.drew) (h:xS P l.toArray R (λp d=>∃q,JU P l.toArray (gN Q) R c p d q) c a w.drew):(Code.region B l.toArray G).wpIn (Fence.wide.inRound k) n P Q a w:=by
 simp only[bD] at e;obtain⟨⟨s,u⟩,v⟩:=e;refine wpIn_mono (Q:=gN Q) (wpIn_region_draw λt=>?_) uT;simp only[Region.schedule,f,Bool.true_or,dG];refine CJ (zQ g) (CO Q) _ _ _ (wpAny_sound _ t _ a _ (qy (T:=λ_ _ d=>R d) _ _ _ _ ?_));have:=A9 (Q:=gN Q) s (wN Q) u c [] _ a _ rfl ak (λj=>by
  rcases jk j l.toArray.size with b|b
  .simp at b;simp[b]
  .simp at b;simp[b]) v m h
 rw[OB] at this;exact this
theorem Rm (h:Q .normal a w):gN Q .normal a w:=h
def EP (a:Act):J (Tmp × Value)->Act
 |[]=>a
 |(d,v)::r=>EP (a.put (N d) v) r
theorem Us {e:J H}(F:Act->(H->O)->Act->C->Prop)(f:∀c b w',F a c b w'->R w')(g:F a (λj=>e.contains j||decide (ops.size<=j)) a w)
  (h:∀c b w',(∀j,c j=G)->F a c b w'->Q .normal b w')
  (k:∀i c b w',i<ops.size->c i=false->(∀d,JR .any ops i d=G->c d=G)->F a c b w'->wpOp P ops Q i (λb w'=>F a (λj=>j==i||c j) b w') b w'):
  xS P ops R (λb w'=>∃m,JU P ops Q R e b w' m) [] a w:=⟨F a,f,g,h,k⟩
variable {l:J Oper}{a:Act}{w:C}{r:J H}{i:H}{o:Oper}{Z:Act->C->Prop}
theorem Ut (b:opAt l i=N o)(c:Region.wanted o (yielded l.toArray a.tmps)=G)
  (h:∃v,(∀w,R w->(execOp a.eval o).run P w= .ok (.value v) w)/\xS P l.toArray R Z r (a.put o.dst v) w):xS P l.toArray R Z (i::r) a w:=
 let⟨v,d,e⟩:=h
 ⟨o,v,mW _ _ _ b,.inl ⟨c,d⟩,e⟩
theorem Rn {b:Act->C->Prop}(c:opAt l i=N o)(d:Region.wanted o (yielded l.toArray a.tmps)=G)(h:∀K:Act->C->Prop,(∀a w,b a w->K a w)->o.wp P a w K Q):wpOp P l.toArray Q i b a w:=by
 have e:=mW _ _ _ c;unfold wpOp;simp only[e,d,dG];exact .inl (h _ λ_ _ h=>h)
end
theorem qV (h:p)(f:p->q:=by
 intro h
 (repeat(refine Ut rfl rfl ?_;apply Exists.intro;refine⟨λwS hS=>?_,?_⟩;(go_simp;try with_reducible rfl);simp only[Act.put,nY,ng,ni]))
 exact h):q:=f h
end Yd
