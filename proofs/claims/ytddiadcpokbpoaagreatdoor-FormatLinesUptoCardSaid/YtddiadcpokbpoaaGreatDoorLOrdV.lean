import Derived.Test.YtddiadcpokbpoaaGreatDoorLA0
import Derived.OrdersHeld
import Derived.Still
import Derived.Tactics2
import Derived.CallsIn
import Derived.OrdersIn
import Derived.TacticsIn
import Derived.RangeFuncCalls
set_option linter.all false
set_option maxRecDepth 200000
set_option maxHeartbeats 8000000
namespace Yd
open Array renaming replicate->V
open Bool renaming true->y,false->N
open Option renaming some->C
open Go
open Act renaming put_comm->J,put->X
open Go renaming World->g,Exit->G,Program->M,yielded->O,Value->U
open Oper renaming uponIn->W,semAt_none->Y
open _root_ renaming Nat->z,List->A,Array->B,Bool->E
section
variable {P:M}{ops:B Oper}{Q:G->Act->g->Prop}{md:Region.Mode}{S:g->Prop}
theorem Qz {k n:z}{row:String}{args:B U}{w:g}{R:U->g->Prop}(h:Rows P row args w R):RowsIn (Fence.wide.inRound k) n P row args w R:=
 λc cs _=>let⟨v,w',r,s⟩:=h c cs;⟨v,w',r,stepsIn_wide.2 s⟩
theorem KR {k n:z}(hd:∀(i:z) o,ops[i]?=C o->∀c,o.op≠ .defer c)(hq:¬LetsOut Q):
  ∀(is:A z)(a:Act)(w:g),wpOps P ops Q is a w->wpOpsIn (Fence.wide.inRound k) n P ops Q is a w:=by
 intro is
 induction is with
 |nil=>intro a w h;exact h
 |cons i rest ih=>
  intro a w h;rw[wpOps_cons] at h;rw[wpOpsIn_cons];unfold wpOp at h;unfold wpOpIn
  cases ho:ops[i]? with
  |none=>simp only[ho] at h ⊢;exact ih _ _ h
  |some o=>
   simp only[ho] at h ⊢;by_cases hw:Region.wanted o (O ops a.tmps)=y
   .rw[ay hw] at h ⊢
    rcases h with h|⟨_,h⟩
    .refine⟨λf _=>trivial,?_⟩
     rw[Fence.inRound_round,Oper.semAt_some k _ _ (hd i o ho)];unfold Oper.wp at h;revert h;generalize(execOp a.eval o).run P w=r;intro h
     cases r with
     |ok x w'=>
      cases x <;> simp only[Oper.upon,W] at h ⊢
      all_goals first
       |exact ih _ _ h
       |exact⟨λh=>(by cases h),(CallsIn.inRound k (callsIn_wide.2 h)).mono (λe w'' he=>by cases e <;> first|exact ih _ _ he|exact he)⟩
       |exact⟨λh=>(by cases h),RowsIn.mono (Qz h) (λ_ _ he=>ih _ _ he)⟩
       |exact h.elim
     |halt x w'=>cases x <;> simp only[Oper.upon,W] at h ⊢ <;> exact h
    .exact absurd h hq
   .rw[ak hw] at h ⊢
    exact⟨λ_ _=>trivial,ih _ _ h⟩
def Ig (l:A Oper):E:=l.all λo=>match o.op with| .defer _=>N|_=>y
theorem GI {l:A Oper}(h:Ig l=y):∀(i:z) o,l.toArray[i]?=C o->∀c,o.op≠ .defer c:=by
 intro i o ho c hc;have hm:o∈l:=bQ (by simpa using ho);have:=jc.1 h o hm;rw[hc] at this
 cases this
end
def opAt:A Oper->z->Option Oper
 |[],_=>none
 |o::_,0=>C o
 |_::l,i+1=>opAt l i
theorem qJ:∀(l:A Oper)(i:z)(o:Oper),opAt l i=C o->l.toArray[i]?=C o
 |[],_,_,h=>by cases h
 |x::_,0,o,h=>by simpa[opAt] using h
 |_::l,i+1,o,h=>by have:=qJ l i o h;simpa using this
inductive OU where
 |nil
 |q (i c:z) (r:OU)
 |l (i:z) (r:OU)
 |alt (i:z) (r:OU) (j:z) (s:OU)
 |U1 (i:z) (r:OU) (j:z) (s:OU) (k:z) (t:OU)
def OU.size:OU->z
 | .nil=>0
 | .q _ _ r=>r.size+1
 | .l _ r=>r.size+1
 | .alt _ r _ _=>r.size+1
 | .U1 _ r _ _ _ _=>r.size+1
def D5:A (z × z)->OU
 |[]=> .nil
 |(i,0)::r=> .q i 0 (D5 r)
 |(i,1)::r=> .q i 1 (D5 r)
 |(i,_+2)::r=> .l i (D5 r)
section
variable {P:M}{ops:B Oper}{Q:G->Act->g->Prop}{md:Region.Mode}{R S:g->Prop}{cut:z}{st:z->(Act->g->Prop)->Act->g->Prop}
structure Stp (P:M)(ops:B Oper)(Q:G->Act->g->Prop)(st:z->(Act->g->Prop)->Act->g->Prop):Prop where
 mono:∀{i:z}{K K':Act->g->Prop}{a:Act}{w:g},(∀a w,K a w->K' a w)->st i K a w->st i K' a w
 yld:∀{S:g->Prop}{i:z}{o:Oper}{v:U}{a:Act}{w:g}{K:Act->g->Prop},ops[i]?=C o->YieldsIf P ops S o v a->S w->K (a.put o.dst v) w->st i K a w
 put:∀{S:g->Prop}{j:z}{oi oj:Oper}{v:U}{K:Act->g->Prop}{a:Act}{w:g},ops[j]?=C oj->oi.apart ops oj=y->(∀cs b,oi.op≠ .select cs b)->(∀cs b,oj.op≠ .select cs b)->
  (∀c a w,Q (.panic c) (a.put oi.dst v) w->Q (.panic c) a w)->YieldsIf P ops S oi v a->st j K (a.put oi.dst v) w->st j (λa' w'=>YieldsIf P ops S oi v a'/\K (a'.put oi.dst v) w') a w
theorem KS:Stp P ops Q (wpOp P ops Q):=⟨wpOp_mono,λhi hy hS h=>hy.wpOp hi hS h,λhj hap hsi hsj hQ hy h=>wpOp_putIf hj hap hsi hsj hQ hy h⟩
def wN (st:z->(Act->g->Prop)->Act->g->Prop)(md:Region.Mode)(ops:B Oper)(Q:G->Act->g->Prop)(T:z->g->g->Prop):z->B E->Act->g->Prop
 |0,listed,a,w=>Region.ready md ops listed=[]/\Q .normal a w
 |fuel+1,listed,a,w=>(Region.ready md ops listed=[]->Q .normal a w)/\∀i∈Region.ready md ops listed,st i (λa' w'=>T i w w'/\wN st md ops Q T fuel (listed.setIfInBounds i y) a' w') a w
theorem vI {T:z->g->g->Prop}:∀(fuel:z)(listed:B E)(a:Act)(w:g),wN (wpOp P ops Q) md ops Q T fuel listed a w->wpAny P md ops Q fuel listed a w
 |0,_,_,_,h=>h
 |fuel+1,_,_,_,h=>⟨h.1,λi hi=>wpOp_mono (λ_ _ h'=>vI fuel _ _ _ h'.2) (h.2 i hi)⟩
theorem GJ (H:Stp P ops Q st){T:z->g->g->Prop}{i:z}{oi:Oper}{v:U}(hi:ops[i]?=C oi)(hsel:∀(j:z)(o:Oper) cs b,ops[j]?=C o->o.op≠ .select cs b)
  (hQ:∀c a w,Q (.panic c) (a.put oi.dst v) w->Q (.panic c) a w) (hTi:∀w,S w->T i w w)
  (hT:∀j oj,ops[j]?=C oj->j≠i->(∀e∈oj.after,Region.binds md e=y->e.on≠i)->∀w w',T j w w'->S w->S w'):
  ∀(fuel:z)(listed:B E)(a:Act)(w:g),
   (∀j oj,ops[j]?=C oj->j≠i->listed.getD j y=N->(∀e∈oj.after,Region.binds md e=y->e.on≠i)->oi.apart ops oj=y)->
   i∈Region.ready md ops listed->YieldsIf P ops S oi v a->S w->
   wN st md ops Q T fuel (listed.setIfInBounds i y) (a.put oi.dst v) w->wN st md ops Q T (fuel+1) listed a w:=by
 intro fuel
 induction fuel with
 |zero=>
  intro listed a w _ hr hy hS h;refine⟨λh=>(by rw[h] at hr;cases hr),λj hj=>?_⟩;rcases Decidable.em (j=i) with rfl|hne
  .exact H.yld hi hy hS ⟨hTi _ hS,h⟩
  .have:=ready_mono hj hne
   rw[h.1] at this;cases this
 |succ fuel ih=>
  intro listed a w hfree hr hy hS h;refine⟨λh=>(by rw[h] at hr;cases hr),λj hj=>?_⟩;rcases Decidable.em (j=i) with rfl|hne
  .exact H.yld hi hy hS ⟨hTi _ hS,h⟩
  obtain⟨hun,oj,hoj,alz⟩:=mem_ready.1 hj;have aiN:=(mem_ready.1 hr).1;have hno:∀e∈oj.after,Region.binds md e=y->e.on≠i:=by
   intro e he hb heq;have h1:=alz e he hb;rw[heq] at h1;rcases jP i listed.size with h'|h'
   .simp[h'] at aiN h1;rw[aiN] at h1;cases h1
   .simp[D9 h'] at h1
  have hput:=H.put hoj (hfree j oj hoj hne hun hno) (λcs b=>hsel i oi cs b hi) (λcs b=>hsel j oj cs b hoj) hQ hy (h.2 j (ready_mono hj hne));refine H.mono (λa' w' h3=>⟨h3.2.1,ih _ a' w' (λk ok hk hki hku hkn=>hfree k ok hk hki ?_ hkn) (ready_mono hr (Ne.symm hne)) h3.1 (hT j oj hoj hne hno _ _ h3.2.1 hS) ?_⟩) hput
  .rcases Decidable.em (j=k) with rfl|hjk
   .exact hun
   .rwa[getD_set_ne y hjk] at hku
  .rw[Array.setIfInBounds_comm _ _ hne];exact h3.2.2
def wY (cut:z)(R S:g->Prop)(i:z)(w w':g):Prop:=R w'/\(cut<=i\/(S w->S w'))
def eF (P:M)(ops:B Oper)(st:z->(Act->g->Prop)->Act->g->Prop)(Q:G->Act->g->Prop)(R S:g->Prop)(cut:z):OU->Act->g->Prop
 | .nil,a,w=>Q .normal a w
 | .q i c r,a,w=>∃o v,ops[i]?=C o/\YieldsIf P ops (λw=>R w/\(c=0->S w)) o v a/\eF P ops st Q R S cut r (a.put o.dst v) w
 | .l i r,a,w=>st i (λa' w'=>wY cut R S i w w'/\eF P ops st Q R S cut r a' w') a w
 | .alt i r j s,a,w=>st i (λa' w'=>wY cut R S i w w'/\eF P ops st Q R S cut r a' w') a w/\st j (λa' w'=>wY cut R S j w w'/\eF P ops st Q R S cut s a' w') a w
 | .U1 i r j s k t,a,w=>st i (λa' w'=>wY cut R S i w w'/\eF P ops st Q R S cut r a' w') a w/\st j (λa' w'=>wY cut R S j w w'/\eF P ops st Q R S cut s a' w') a w/\st k (λa' w'=>wY cut R S k w w'/\eF P ops st Q R S cut t a' w') a w
def waits (md:Region.Mode)(ops:B Oper)(cut i:z):E:=(List.range ops.size).all λj=>decide (j<cut)||match ops[j]? with
 |some oj=>oj.after.any (λe=>Region.binds md e && e.on==i)
 |none=>y
theorem U2 {i:z}(h:waits md ops cut i=y)(j:z)(oj:Oper)(hj:ops[j]?=C oj)(hno:∀e∈oj.after,Region.binds md e=y->e.on≠i):j<cut:=by
 have hlt:j<ops.size:=(dI.1 hj).1;have:=jc.1 h j (wT.2 hlt);rw[hj] at this;simp only[Az,bf,Array.any_eq_true] at this;rcases this with h1|⟨k,hk,h1⟩
 .exact h1
 .simp only[aU,xX] at h1
  exact absurd h1.2 (hno _ (Array.getElem_mem hk) h1.1)
def o8 (md:Region.Mode)(ops:B Oper)(cut:z):OU->E->B E->E
 | .nil,_,listed=>(Region.ready md ops listed).isEmpty
 | .q i c r,held,listed=>(Region.ready md ops listed).contains i && Region.free md ops listed i && (c !=0||held && waits md ops cut i) && o8 md ops cut r held (listed.setIfInBounds i y)
 | .l i r,held,listed=>decide (Region.ready md ops listed=[i]) && o8 md ops cut r (held && decide (i<cut)) (listed.setIfInBounds i y)
 | .alt i r j s,held,listed=>decide (Region.ready md ops listed=[i,j]) && decide (r.size=s.size) && o8 md ops cut r (held && decide (i<cut)) (listed.setIfInBounds i y) && o8 md ops cut s (held && decide (j<cut)) (listed.setIfInBounds j y)
 | .U1 i r j s k t,held,listed=>decide (Region.ready md ops listed=[i,j,k]) && decide (r.size=s.size) && decide (r.size=t.size) && o8 md ops cut r (held && decide (i<cut)) (listed.setIfInBounds i y) && o8 md ops cut s (held && decide (j<cut)) (listed.setIfInBounds j y) && o8 md ops cut t (held && decide (k<cut)) (listed.setIfInBounds k y)
def QA (P:M)(md:Region.Mode)(ops:B Oper)(st:z->(Act->g->Prop)->Act->g->Prop)(Q:G->Act->g->Prop)(R S:g->Prop)(cut:z)(r:OU):Prop:=
 ∀(held:E)(listed:B E)(a:Act)(w:g),o8 md ops cut r held listed=y->R w->(held=y->S w)->eF P ops st Q R S cut r a w->wN st md ops Q (wY cut R S) r.size listed a w
theorem QA.step {r:OU}(ih:QA P md ops st Q R S cut r)(H:Stp P ops Q st){i n:z}{held:E}{listed:B E}{a:Act}{w:g}(hB:o8 md ops cut r (held && decide (i<cut)) (listed.setIfInBounds i y)=y)(hS:held=y->S w)(hn:n=r.size)
  (h:st i (λa' w'=>wY cut R S i w w'/\eF P ops st Q R S cut r a' w') a w):st i (λa' w'=>wY cut R S i w w'/\wN st md ops Q (wY cut R S) n (listed.setIfInBounds i y) a' w') a w:=by
 subst hn;refine H.mono (λa' w' hh=>⟨hh.1,ih _ _ _ _ hB hh.1.1 (λh2=>?_) hh.2⟩) h;simp only[aU,bf] at h2;rcases hh.1.2 with h1|h1
 .omega
 .exact h1 (hS h2.1)
theorem sj (H:Stp P ops Q st)(hs:Region.noSelect ops=y)(hQ:∀(i:z)(o:Oper),ops[i]?=C o->∀v c a w,Q (.panic c) (X a o.dst v) w->Q (.panic c) a w):∀l:OU,QA P md ops st Q R S cut l
 | .nil=>λ_ listed a w hB _ _ h=>⟨by simpa[o8] using hB,h⟩
 | .q i c r=>λheld listed a w hB hR hS h=>by
  simp only[o8,aU,Az,p8] at hB;obtain⟨⟨⟨hr,hf⟩,hh⟩,hB'⟩:=hB;obtain⟨o,v,ho,hy,hn⟩:=h;refine GJ (S:=λw=>R w/\(c=0->S w)) H ho (Region.noSelect_spec hs) (λc a w=>hQ i o ho _ c a w) (λ_ h=>⟨h.1,.inr id⟩) (λj oj hj hne hno w w' hw' hw=>⟨hw'.1,λhc=>?_⟩) r.size listed a w (Region.free_spec ho hf) (by simpa using hr) hy
   ⟨hR,λhc=>hS (hh.resolve_left (λe=>e hc)).1⟩ (sj H hs hQ r held _ _ _ hB' hR hS hn)
  rcases hw'.2 with h1|h1
  .exact absurd (U2 (hh.resolve_left (λe=>e hc)).2 j oj hj hno) ah
  .exact h1 (hw.2 hc)
 | .l i r=>λheld listed a w hB hR hS h=>by
  simp only[o8,aU,bf] at hB;refine⟨λh0=>(by rw[hB.1] at h0;cases h0),λj hj=>?_⟩;rw[hB.1] at hj;obtain rfl:j=i:=by simpa using hj
  exact(sj H hs hQ r).step H hB.2 hS rfl h
 | .alt i r k s=>λheld listed a w hB hR hS h=>by
  simp only[o8,aU,bf] at hB;obtain⟨⟨⟨hr,hz⟩,hB1⟩,hB2⟩:=hB;refine⟨λh0=>(by rw[hr] at h0;cases h0),λj hj=>?_⟩;rw[hr] at hj;rcases(by simpa using hj:j=i\/j=k) with rfl|rfl
  .exact(sj H hs hQ r).step H hB1 hS rfl h.1
  .exact(sj H hs hQ s).step H hB2 hS hz h.2
 | .U1 i r k s m t=>λheld listed a w hB hR hS h=>by
  simp only[o8,aU,bf] at hB;obtain⟨⟨⟨⟨⟨hr,hz⟩,hy⟩,hB1⟩,hB2⟩,hB3⟩:=hB;refine⟨λh0=>(by rw[hr] at h0;cases h0),λj hj=>?_⟩;rw[hr] at hj;rcases(by simpa using hj:j=i\/j=k\/j=m) with rfl|rfl|rfl
  .exact(sj H hs hQ r).step H hB1 hS rfl h.1
  .exact(sj H hs hQ s).step H hB2 hS hz h.2.1
  .exact(sj H hs hQ t).step H hB3 hS hy h.2.2
variable {l:A Oper}{a:Act}{w:g}
def zH (l:A Oper)(cut:z)(ord:OU):E:=Region.noSelect l.toArray && decide (ord.size=l.length) && o8 .any l.toArray cut ord y (V l.toArray.size N)
theorem Cb {st:z->(Act->g->Prop)->Act->g->Prop}{Q:G->Act->g->Prop}(H:Stp P l.toArray Q st)(ord:OU)(hB:zH l cut ord=y)
  (hQ:∀(i:z)(o:Oper),l.toArray[i]?=C o->∀v c a w,Q (.panic c) (X a o.dst v) w->Q (.panic c) a w) (hR:R w) (hS:S w) (h:eF P l.toArray st Q R S cut ord a w):
  wN st .any l.toArray Q (wY cut R S) l.toArray.size (V l.toArray.size N) a w:=by
 simp only[zH,aU,bf] at hB;have:=sj (md:= .any) H hB.1.1 hQ ord y _ a _ hB.2 hR (λ_=>hS) h;rw[hB.1.2] at this
 simpa using this
def iW (Q:G->Act->g->Prop):G->Act->g->Prop
 | .outgrown,_,_=>False
 | .panic _,_,_=>False
 | .normal,a,w=>Q .normal a w
 | .ret,a,w=>Q .ret a w
 | .exit id,a,w=>Q (.exit id) a w
 | .goto t,a,w=>Q (.goto t) a w
theorem KT (Q:G->Act->g->Prop):¬LetsOut (iW Q):=λ⟨_,_,h⟩=>h
theorem AV {Q:G->Act->g->Prop}(e:G)(a:Act)(w:g)(h:iW Q e a w):Q e a w:=by
 cases e <;> first|exact h|exact h.elim
theorem C8 (Q:G->Act->g->Prop):∀d v c a w,iW Q (.panic c) (X a d v) w->iW Q (.panic c) a w:=λ_ _ _ _ _ h=>h
theorem ou {id:z}(cut:z)(ord:OU)(R S:g->Prop)(hm:P.follows .mixedOrders=y)(hB:zH l cut ord=y)
  (hR:R w.drew) (hS:S w.drew) (h:eF P l.toArray (wpOp P l.toArray (iW Q)) (iW Q) R S cut ord a w.drew):(Code.region id l.toArray y).wp P Q a w:=
 wp_mono (Q:=iW Q) (wp_region_any hm (vI _ _ _ _ (Cb KS ord hB (λ_ _ _ _=>C8 Q _ _) hR hS h))) AV
theorem JM {k n id:z}(cut:z)(ord:OU)(R S:g->Prop)(hm:P.follows .mixedOrders=y)(hB:zH l cut ord=y)(hd:Ig l=y)
  (hR:R w.drew) (hS:S w.drew) (h:eF P l.toArray (wpOp P l.toArray (iW Q)) (iW Q) R S cut ord a w.drew):(Code.region id l.toArray y).wpIn (Fence.wide.inRound k) n P Q a w:=by
 refine wpIn_mono (Q:=iW Q) (wpIn_region_draw λt=>?_) AV;simp only[Region.schedule,hm,Bool.true_or,dw];exact KR (GI hd) (KT Q) _ _ _ (wpAny_sound _ t _ a _ (vI _ _ _ _ (Cb KS ord hB (λ_ _ _ _=>C8 Q _ _) hR hS h)))
theorem aC {id:z}(cut:z)(ord:A (z × z))(R S:g->Prop)(hm:P.follows .mixedOrders=y)(hB:zH l cut (D5 ord)=y)
  (hR:R w.drew) (hS:S w.drew) (h:eF P l.toArray (wpOp P l.toArray (iW Q)) (iW Q) R S cut (D5 ord) a w.drew):(Code.region id l.toArray y).wp P Q a w:=ou cut _ R S hm hB hR hS h
theorem Bf {k n id:z}(cut:z)(ord:A (z × z))(R S:g->Prop)(hm:P.follows .mixedOrders=y)(hB:zH l cut (D5 ord)=y)(hd:Ig l=y)
  (hR:R w.drew) (hS:S w.drew) (h:eF P l.toArray (wpOp P l.toArray (iW Q)) (iW Q) R S cut (D5 ord) a w.drew):(Code.region id l.toArray y).wpIn (Fence.wide.inRound k) n P Q a w:=JM cut _ R S hm hB hd hR hS h
theorem aJ (h:Q .normal a w):eF P ops st (iW Q) R S cut .nil a w:=h
variable {r:OU}{i:z}{o:Oper}
theorem aiO (ho:opAt l i=C o)(hw:Region.wanted o (O l.toArray a.tmps)=y)
  (h:∃v,(∀w,R w/\S w->(execOp a.eval o).run P w= .ok (.value v) w)/\eF P l.toArray st Q R S cut r (a.put o.dst v) w):eF P l.toArray st Q R S cut (.q i 0 r) a w:=
 let⟨v,h1,h2⟩:=h
 ⟨o,v,qJ _ _ _ ho,.inl ⟨hw,λw h=>h1 w ⟨h.1,h.2 rfl⟩⟩,h2⟩
theorem aiP (ho:opAt l i=C o)(hw:Region.wanted o (O l.toArray a.tmps)=y)
  (h:∃v,(∀w,R w->(execOp a.eval o).run P w= .ok (.value v) w)/\eF P l.toArray st Q R S cut r (a.put o.dst v) w):eF P l.toArray st Q R S cut (.q i 1 r) a w:=
 let⟨v,h1,h2⟩:=h
 ⟨o,v,qJ _ _ _ ho,.inl ⟨hw,λw h=>h1 w h.1⟩,h2⟩
theorem X9 {c:z}(ho:opAt l i=C o)(hw:Region.wanted o (O l.toArray a.tmps)=N)(hn:eF P l.toArray st Q R S cut r (a.put o.dst undef) w):eF P l.toArray st Q R S cut (.q i c r) a w:=
 ⟨o,undef,qJ _ _ _ ho,.inr ⟨hw,rfl⟩,hn⟩
theorem dS (ho:opAt l i=C o)(hw:Region.wanted o (O l.toArray a.tmps)=y)(h:∀K:Act->g->Prop,(∀a w,R w/\S w->eF P l.toArray (wpOp P l.toArray Q) Q R S cut r a w->K a w)->o.wp P a w K Q):
  wpOp P l.toArray Q i (λa' w'=>wY cut R S i w w'/\eF P l.toArray (wpOp P l.toArray Q) Q R S cut r a' w') a w:=by
 unfold wpOp;simp only[qJ _ _ _ ho,hw,dw];exact .inl (h _ λ_ _ h1 h2=>⟨⟨h1.1,.inr λ_=>h1.2⟩,h2⟩)
theorem aD (ho:opAt l i=C o)(hw:Region.wanted o (O l.toArray a.tmps)=y)(h:∀K:Act->g->Prop,(∀a w,R w/\S w->eF P l.toArray (wpOp P l.toArray Q) Q R S cut r a w->K a w)->o.wp P a w K Q):
  eF P l.toArray (wpOp P l.toArray Q) Q R S cut (.l i r) a w:=dS ho hw h
theorem bq (hc:decide (cut<=i)=y)(ho:opAt l i=C o)(hw:Region.wanted o (O l.toArray a.tmps)=y)(h:∀K:Act->g->Prop,(∀a w,R w->eF P l.toArray (wpOp P l.toArray Q) Q R S cut r a w->K a w)->o.wp P a w K Q):
  eF P l.toArray (wpOp P l.toArray Q) Q R S cut (.l i r) a w:=by
 show wpOp _ _ _ _ _ _ _;unfold wpOp;simp only[qJ _ _ _ ho,hw,dw];exact .inl (h _ λ_ _ h1 h2=>⟨⟨h1,.inl (xY hc)⟩,h2⟩)
theorem qp (ho:opAt l i=C o)(hw:Region.wanted o (O l.toArray a.tmps)=N)(hR:R w)(hn:eF P l.toArray (wpOp P l.toArray Q) Q R S cut r (a.put o.dst undef) w):eF P l.toArray (wpOp P l.toArray Q) Q R S cut (.l i r) a w:=by
 show wpOp _ _ _ _ _ _ _;unfold wpOp;simp only[qJ _ _ _ ho,hw,Ea,fE];exact⟨⟨hR,.inr id⟩,hn⟩
end
theorem qC {p q:Prop}(h:p)(f:p->q:=by
 intro h
 (repeat((first|refine X9 rfl rfl ?_|((first|refine aiO rfl rfl ?_|refine aiP rfl rfl ?_);apply Exists.intro;refine⟨λwS hS=>?_,?_⟩;(go_simp;try with_reducible rfl)));simp only[Act.put,tQ,sG,sF]))
 exact h):q:=f h
section
variable {n:z}{P:M}{ops:B Oper}{Q:G->Act->g->Prop}{md:Region.Mode}{S:g->Prop}{cut:z}
theorem wide_round:Fence.wide.round=none:=rfl
theorem KU {i:z}{o:Oper}{v:U}{a:Act}(hi:ops[i]?=C o)(hy:YieldsIf P ops S o v a){K:Act->g->Prop}{w:g}(hS:S w)(h:K (a.put o.dst v) w):wpOpIn Fence.wide n P ops Q i K a w:=by
 unfold Go.wpOpIn;simp only[hi];rcases hy with⟨hw,hv⟩|⟨hw,rfl⟩
 .simp only[hw,dw,Oper.wpIn,wide_round,Y,hv w hS,W];exact⟨λ_ _=>trivial,h⟩
 .simp only[hw,Ea,fE];exact⟨λ_ _=>trivial,h⟩
theorem QB {j:z}{oi oj:Oper}{v:U}(hj:ops[j]?=C oj)(hap:oi.apart ops oj=y)
  (hsi:∀cs b,oi.op≠ .select cs b) (hsj:∀cs b,oj.op≠ .select cs b)
  (hQ:∀c a w,Q (.panic c) (a.put oi.dst v) w->Q (.panic c) a w) {K:Act->g->Prop} {a:Act} {w:g}
  (hy:YieldsIf P ops S oi v a) (h:wpOpIn Fence.wide n P ops Q j K (a.put oi.dst v) w):
  wpOpIn Fence.wide n P ops Q j (λa' w'=>YieldsIf P ops S oi v a'/\K (a'.put oi.dst v) w') a w:=by
 obtain⟨h1,h2,h3⟩:=Oper.apart_spec hap;have keep:∀(a:Act),YieldsIf P ops S oi v a->∀u,YieldsIf P ops S oi v (a.put oj.dst u):=λa hy u=>
  hy.of_same (execOp_put oi hsi a oj.dst u h3) (wanted_put oi a oj.dst u h3)
 have keepD:∀d,YieldsIf P ops S oi v {a with defers:=d::a.defers}:=λd=>hy.of_same rfl rfl
 unfold wpOpIn at*;simp only[hj] at*;rw[wanted_put oj a oi.dst v h1,about_put oj w a oi.dst v h1] at h
 split
 .rename_i hw
  simp only[hw,dw] at h;unfold Oper.wpIn at*;rw[about_put oj w a oi.dst v h1] at h;refine⟨h.1,?_⟩;have h:=h.2;rw[wide_round,Y,execOp_put oj hsj a oi.dst v h1] at h;rw[wide_round,Y];generalize(execOp a.eval oj).run P w=r at*
  cases r with
  |ok x w'=>
   cases x <;> simp only[W] at h ⊢
   case value u=>exact⟨keep a hy u,by rw[<-J a v u h2];exact h⟩
   case skip=>exact⟨keep a hy _,by rw[<-J a v undef h2];exact h⟩
   case defer d=>
    refine⟨keep _ (keepD d) _,?_⟩;rw[<-J _ v undef h2,<-Act.put_defers];exact h
   case enter f args=>
    refine⟨h.1,CallsIn.mono h.2 λe w'' he=>?_⟩
    cases e with
    |returned u=>exact⟨keep a hy u,by rw[<-J a v u h2];exact he⟩
    |panicked c=>exact hQ _ _ _ he
    |outgrown=>exact he
   case row row args=>exact⟨h.1,RowsIn.mono h.2 λu w'' he=>⟨keep a hy u,by rw[<-J a v u h2];exact he⟩⟩
   case round l f tmps assign body=>
    refine⟨h.1,RoundIn.mono h.2 λe w'' he=>?_⟩
    cases e with
    |returned u=>exact⟨keep a hy u,by rw[<-J a v u h2];exact he⟩
    |panicked c=>exact hQ _ _ _ he
    |outgrown=>exact he
  |halt x w'=>
   cases x <;> simp only[W] at h ⊢
   case panic u=>exact hQ _ _ _ h
 .rename_i hw
  simp only[hw] at h;exact⟨h.1,keep a hy _,by rw[<-J a v undef h2];exact h.2⟩
theorem alA:Stp P ops Q (wpOpIn Fence.wide n P ops Q):=⟨wpOpIn_mono,λhi hy hS h=>KU hi hy hS h,λhj hap hsi hsj hQ hy h=>QB hj hap hsi hsj hQ hy h⟩
theorem GK {T:z->g->g->Prop}:∀(fuel:z)(listed:B E)(a:Act)(w:g),wN (wpOpIn Fence.wide n P ops Q) md ops Q T fuel listed a w->wpAnyIn Fence.wide n P md ops Q fuel listed a w
 |0,_,_,_,h=>h
 |fuel+1,_,_,_,h=>⟨h.1,λi hi=>wpOpIn_mono (λ_ _ h'=>GK fuel _ _ _ h'.2) (h.2 i hi)⟩
theorem Ju {id:z}{a:Act}{w:g}{l:A Oper}(cut:z)(ord:A (z × z))(R S:g->Prop)(hm:P.follows .mixedOrders=y)(hB:zH l cut (D5 ord)=y)
  (hR:R w.drew) (hS:S w.drew) (h:eF P l.toArray (wpOpIn Fence.wide n P l.toArray (iW Q)) (iW Q) R S cut (D5 ord) a w.drew):(Code.region id l.toArray y).wpIn Fence.wide n P Q a w:=
 wpIn_mono (Q:=iW Q) (wpIn_region_any hm (GK _ _ _ _ (Cb alA _ hB (λ_ _ _ _=>C8 Q _ _) hR hS h))) AV
variable {R:g->Prop}{l:A Oper}{a:Act}{w:g}{r:OU}{i:z}{o:Oper}
theorem Pf (ho:opAt l i=C o)(hw:Region.wanted o (O l.toArray a.tmps)=y)(h:∀K:Act->g->Prop,(∀a w,R w/\S w->eF P l.toArray (wpOpIn Fence.wide n P l.toArray Q) Q R S cut r a w->K a w)->o.wpIn Fence.wide n P a w K Q):
  eF P l.toArray (wpOpIn Fence.wide n P l.toArray Q) Q R S cut (.l i r) a w:=by
 show wpOpIn _ _ _ _ _ _ _ _ _;unfold wpOpIn;simp only[qJ _ _ _ ho,hw,dw];exact h _ λ_ _ h1 h2=>⟨⟨h1.1,.inr λ_=>h1.2⟩,h2⟩
end
section
variable {P:M}{ops:B Oper}{Q:G->Act->g->Prop}{R S:g->Prop}{cut:z}{RP:A PanicEntry->g->Prop}{D:A Deferred}
def Dp (Q:G->Act->g->Prop)(D:A Deferred)(RP:A PanicEntry->g->Prop):G->Act->g->Prop
 | .outgrown,_,_=>False
 | .panic c,a,w=>a.defers=D/\RP c w
 | .normal,a,w=>Q .normal a w
 | .ret,a,w=>Q .ret a w
 | .exit id,a,w=>Q (.exit id) a w
 | .goto t,a,w=>Q (.goto t) a w
theorem aen (hP:∀c a w,a.defers=D->RP c w->Q (.panic c) a w)(e:G)(a:Act)(w:g)(h:Dp Q D RP e a w):Q e a w:=by
 cases e <;> first|exact h|exact h.elim|exact hP _ _ _ h.1 h.2
theorem aiQ:∀d v c a w,Dp Q D RP (.panic c) (X a d v) w->Dp Q D RP (.panic c) a w:=λd _ _ _ _ h=>by cases d <;> exact h
theorem uo {id:z}{a:Act}{w:g}{l:A Oper}(cut:z)(ord:OU)(R S:g->Prop)(RP:A PanicEntry->g->Prop)(hm:P.follows .mixedOrders=y)(hB:zH l cut ord=y)
  (hP:∀c a' w',a'.defers=a.defers->RP c w'->Q (.panic c) a' w')
  (hR:R w.drew) (hS:S w.drew) (h:eF P l.toArray (wpOp P l.toArray (Dp Q a.defers RP)) (Dp Q a.defers RP) R S cut ord a w.drew):(Code.region id l.toArray y).wp P Q a w:=
 wp_mono (Q:=Dp Q a.defers RP) (wp_region_any hm (vI _ _ _ _ (Cb KS ord hB (λ_ _ _ _=>aiQ _ _) hR hS h))) (aen hP)
theorem dm {id:z}{a:Act}{w:g}{l:A Oper}(cut:z)(ord:A (z × z))(R S:g->Prop)(RP:A PanicEntry->g->Prop)(hm:P.follows .mixedOrders=y)(hB:zH l cut (D5 ord)=y)
  (hP:∀c a' w',a'.defers=a.defers->RP c w'->Q (.panic c) a' w')
  (hR:R w.drew) (hS:S w.drew) (h:eF P l.toArray (wpOp P l.toArray (Dp Q a.defers RP)) (Dp Q a.defers RP) R S cut (D5 ord) a w.drew):(Code.region id l.toArray y).wp P Q a w:=uo cut _ R S RP hm hB hP hR hS h
theorem jm {a:Act}{w:g}(h:Q .normal a w):eF P ops (wpOp P ops (Dp Q D RP)) (Dp Q D RP) R S cut .nil a w:=h
end
section
variable {P:M}{ops:B Oper}{Q:G->Act->g->Prop}{md:Region.Mode}{R S:g->Prop}{cut:z}{RP:A PanicEntry->g->Prop}{D:A Deferred}
def C9 (Q:G->Act->g->Prop)(D:A Deferred)(t:z)(x:U)(RP:A PanicEntry->g->Prop):G->Act->g->Prop
 | .outgrown,_,_=>False
 | .panic c,a,w=>a.defers=D/\a.tmps[t]?=C x/\RP c w
 | .normal,a,w=>Q .normal a w
 | .ret,a,w=>Q .ret a w
 | .exit id,a,w=>Q (.exit id) a w
 | .goto t,a,w=>Q (.goto t) a w
theorem aaZ {t:z}{x:U}(hP:∀c a w,a.defers=D->a.tmps[t]?=C x->RP c w->Q (.panic c) a w)(e:G)(a:Act)(w:g)(h:C9 Q D t x RP e a w):Q e a w:=by
 cases e <;> first|exact h|exact h.elim|exact hP _ _ _ h.1 h.2.1 h.2.2
theorem aeo {t:z}{x:U}{o:Oper}(ho:o.dst≠C t):∀v c a w,C9 Q D t x RP (.panic c) (X a o.dst v) w->C9 Q D t x RP (.panic c) a w:=λv c a w h=>by
 cases hd:o.dst with
 |none=>rw[hd] at h;exact h
 |some d=>
  rw[hd] at h;obtain⟨h1,h2,h3⟩:=h;refine⟨h1,?_,h3⟩;have hne:d≠t:=λe=>ho (by rw[hd,e])
  have e:(X a (C d) v).tmps[t]?=a.tmps[t]?:=by
   show(a.tmps.setIfInBounds d v)[t]?=_;rw[jO hne]
  rw[<-e];exact h2
theorem KI {id:z}{a:Act}{w:g}{l:A Oper}(t:z)(x:U)(cut:z)(ord:A (z × z))(R S:g->Prop)(RP:A PanicEntry->g->Prop)(hm:P.follows .mixedOrders=y)(hB:zH l cut (D5 ord)=y)
  (hD:l.all (λo=>decide (o.dst≠C t))=y)
  (hP:∀c a' w',a'.defers=a.defers->a'.tmps[t]?=C x->RP c w'->Q (.panic c) a' w')
  (hR:R w.drew) (hS:S w.drew) (h:eF P l.toArray (wpOp P l.toArray (C9 Q a.defers t x RP)) (C9 Q a.defers t x RP) R S cut (D5 ord) a w.drew):(Code.region id l.toArray y).wp P Q a w:=
 wp_mono (Q:=C9 Q a.defers t x RP) (wp_region_any hm (vI _ _ _ _ (Cb KS _ hB (λi o hi=>aeo (by
  have hm:o∈l:=by simpa using Array.mem_of_getElem? hi
  exact xY (jc.1 hD o hm))) hR hS h))) (aaZ hP)
theorem Xr {a:Act}{w:g}{t:z}{x:U}(h:Q .normal a w):eF P ops (wpOp P ops (C9 Q D t x RP)) (C9 Q D t x RP) R S cut .nil a w:=h
end
section
variable {P:M}{ops:B Oper}{Q:G->Act->g->Prop}{md:Region.Mode}{R S:g->Prop}{cut:z}{RP:A PanicEntry->g->Prop}{D:A Deferred}
def U3 (md:Region.Mode)(ops:B Oper)(i d:z):E:=match ops[i]? with
 |some o=>o.after.any (λe=>Region.binds md e && e.on==d)
 |none=>N
def KV (ops:B Oper):E:=(List.range ops.size).all λi=>match ops[i]? with
 |some o=>o.after.all (λe=>decide (e.on<i))
 |none=>y
theorem U4 (h:KV ops=y){i:z}{o:Oper}(ho:ops[i]?=C o):∀e∈o.after,e.on<i:=λe he=>by
 have hlt:i<ops.size:=(dI.1 ho).1;have:=jc.1 h i (wT.2 hlt);simp only[ho,Array.all_eq_true_iff_forall_mem,bf] at this;exact this e he
theorem aa0 (hdn:KV ops=y){listed:B E}(hz:listed.size=ops.size)(hr:Region.ready md ops listed=[]):∀j,listed.getD j y=y:=by
 intro j
 induction j using Nat.strongRecOn with
 |_ j ih=>
  rcases jP j ops.size with hj|hj
  .cases hc:listed.getD j y with
   |true=>rfl
   |false=>
    have:j∈Region.ready md ops listed:=mem_ready.2 ⟨hc,ops[j],Nu hj,λe he _=>by
     have hlt:=U4 hdn (Nu hj) e he;have h1:=ih e.on hlt;have h2:e.on<listed.size:=by omega
     simp only[Array.getD_eq_getD_getElem?,Nu h2,Option.getD_some] at h1 ⊢;exact h1⟩
    rw[hr] at this;cases this
  .simp[D9 (show listed.size<=j by omega)]
def Da (l:B E):z:=l.toList.countP (λb=>!b)
theorem GL {l:B E}{i:z}(h:l.getD i y=N):Da (l.setIfInBounds i y)+1=Da l:=by
 have hi:i<l.size:=by
  rcases jP i l.size with h'|h'
  .exact h'
  .simp[D9 h'] at h
 have hv:l.toList[i]'(by simpa using hi)=N:=by simpa[hi] using h
 unfold Da;rw[Array.toList_setIfInBounds,List.set_eq_take_append_cons_drop,ay (by simpa using hi)];have e:l.toList=l.toList.take i++N::l.toList.drop (i+1):=by
  rw[<-hv,List.getElem_cons_drop,Cg]
 conv=>rhs;rw[e]
 simp only[List.countP_append,List.countP_cons];simp;omega
def acX (P:M)(ops:B Oper)(Q:G->Act->g->Prop)(md:Region.Mode)(I:(z->E)->Act->g->Prop):Prop:=
 ∀i L a w,i<ops.size->L i=N->(∀d,U3 md ops i d=y->L d=y)->I L a w->wpOp P ops Q i (λa' w'=>I (λj=>j==i||L j) a' w') a w
theorem MU {l:B E}{i:z}(hi:i<l.size):(λj=>(l.setIfInBounds i y).getD j y)=(λj=>j==i||l.getD j y):=by
 funext j
 by_cases h:i=j
 .subst h;simp[hi]
 .rw[getD_set_ne y h]
  have:(j==i)=N:=aR.2 (Ne.symm h);rw[this];rfl
theorem KW {I:(z->E)->Act->g->Prop}(hdn:KV ops=y)(hR:∀L a w,I L a w->R w)
  (hend:∀L a w,(∀j,L j=y)->I L a w->Q .normal a w) (hstep:acX P ops Q md I):
  ∀(fuel:z)(listed:B E)(a:Act)(w:g),listed.size=ops.size->Da listed<=fuel->I (λj=>listed.getD j y) a w->wN (wpOp P ops Q) md ops Q (λ_ _ w'=>R w') fuel listed a w
 |0,listed,a,w,hz,hf,h=>by
  have h0:∀j,listed.getD j y=y:=λj=>by
   cases hc:listed.getD j y with
   |true=>rfl
   |false=>have:=GL hc;omega
  refine⟨?_,hend _ a w h0 h⟩
  cases hr:Region.ready md ops listed with
  |nil=>rfl
  |cons i r=>
   have:=(mem_ready.1 (show i∈Region.ready md ops listed by rw[hr];exact pY)).1;rw[h0 i] at this;cases this
 |fuel+1,listed,a,w,hz,hf,h=>by
  refine⟨λhr=>hend _ a w (aa0 hdn hz hr) h,λi hi=>?_⟩;obtain⟨h1,o,ho,hw⟩:=mem_ready.1 hi;have hlt:i<ops.size:=(dI.1 ho).1;refine wpOp_mono (λa' w' hh=>⟨hR _ _ _ hh,?_⟩) (hstep i _ a w hlt h1 (λd hd=>?_) h)
  .refine KW hdn hR hend hstep fuel _ a' w' (by simpa using hz) (by have:=GL h1;omega) ?_
   rw[MU ah];exact hh
  .unfold U3 at hd
   simp only[ho,Array.any_eq_true,aU,xX] at hd;obtain⟨k,hk,hb,he⟩:=hd;have:=hw _ (Array.getElem_mem hk) hb;rw[he] at this;rcases jP d listed.size with h'|h'
   .simpa[h'] using this
   .simp[D9 h']
def D6 (P:M)(ops:B Oper)(R:g->Prop)(Z:Act->g->Prop):A z->Act->g->Prop
 |[],a,w=>Z a w
 |i::r,a,w=>∃o v,ops[i]?=C o/\YieldsIf P ops R o v a/\D6 P ops R Z r (a.put o.dst v) w
def KX (md:Region.Mode)(ops:B Oper):A z->B E->E
 |[],_=>y
 |i::r,listed=>(Region.ready md ops listed).contains i && Region.free md ops listed i && KX md ops r (listed.setIfInBounds i y)
structure U5 (P:M)(ops:B Oper)(Q:G->Act->g->Prop)(R:g->Prop)(pre:A z)(a:Act)(w:g)(I:(z->E)->Act->g->Prop):Prop where
 r:∀L a w,I L a w->R w
 start:I (λj=>pre.contains j||decide (ops.size<=j)) a w
 stop:∀L a w,(∀j,L j=y)->I L a w->Q .normal a w
 step:acX P ops Q .any I
theorem I6 (hs:Region.noSelect ops=y)(hQ:∀d v c a w,Q (.panic c) (X a d v) w->Q (.panic c) a w)(hdn:KV ops=y){pre:A z}:
  ∀(l done:A z)(listed:B E)(a:Act)(w:g),done++l=pre->listed.size=ops.size->(∀j,listed.getD j y=(done.contains j||decide (ops.size<=j)))->KX .any ops l listed=y->R w->D6 P ops R (λa w=>∃I,U5 P ops Q R pre a w I) l a w->wN (wpOp P ops Q) .any ops Q (λ_ _ w'=>R w') (Da listed) listed a w
 |[],done,listed,a,w,hp,hz,hL,_,_,⟨I,h⟩=>by
  refine KW hdn h.r h.stop h.step _ listed a w hz (aA _) ?_;rw[funext hL,show done=pre by rw[<-hp,fw]];exact h.start
 |i::r,done,listed,a,w,hp,hz,hL,hB,hR,h=>by
  simp only[KX,aU] at hB;obtain⟨⟨hr,hf⟩,hB'⟩:=hB;obtain⟨o,v,ho,hy,hn⟩:=h;have hlt:i<ops.size:=(dI.1 ho).1;have h1:listed.getD i y=N:=(mem_ready.1 (by simpa using hr:i∈Region.ready .any ops listed)).1;have hrest:=I6 hs hQ hdn r (done++[i]) (listed.setIfInBounds i y) _ _ (by rw[<-hp,eG];rfl) (by simpa using hz) (λj=>by
   have e:=congrFun (MU (l:=listed) (i:=i) ah) j;rw[e,hL j];by_cases hj:j=i
   .subst hj;simp
   .simp[hj]) hB' hR hn
  have:=GJ (S:=R) KS ho (Region.noSelect_spec hs) (λc a w=>hQ _ _ c a w) (λ_ h=>h) (λj oj hj hne hno w w' hw' _=>hw') (Da (listed.setIfInBounds i y)) listed a w (Region.free_spec ho hf) (by simpa using hr) hy hR hrest;rw[GL h1] at this;exact this
theorem aa1:∀n:z,Da (V n N)=n:=λn=>by
 unfold Da;rw[Array.toList_replicate,List.countP_replicate];simp
theorem I9 {k n id:z}{a:Act}{w:g}{l:A Oper}(pre:A z)(R:g->Prop)(hm:P.follows .mixedOrders=y)
  (hB:(Region.noSelect l.toArray && KV l.toArray && KX .any l.toArray pre (V l.toArray.size N))=y) (hd:Ig l=y)
  (hR:R w.drew) (h:D6 P l.toArray R (λa' w'=>∃I,U5 P l.toArray (iW Q) R pre a' w' I) pre a w.drew):(Code.region id l.toArray y).wpIn (Fence.wide.inRound k) n P Q a w:=by
 simp only[aU] at hB;obtain⟨⟨hs,hdn⟩,ho⟩:=hB;refine wpIn_mono (Q:=iW Q) (wpIn_region_draw λt=>?_) AV;simp only[Region.schedule,hm,Bool.true_or,dw];refine KR (GI hd) (KT Q) _ _ _ (wpAny_sound _ t _ a _ (vI (T:=λ_ _ w'=>R w') _ _ _ _ ?_));have:=I6 (Q:=iW Q) hs (C8 Q) hdn pre [] _ a _ rfl au (λj=>by
  rcases jP j l.toArray.size with hj|hj
  .simp at hj;simp[hj]
  .simp at hj;simp[hj]) ho hR h
 rw[aa1] at this;exact this
theorem ac0 {a:Act}{w:g}(h:Q .normal a w):iW Q .normal a w:=h
def M5 (a:Act):A (Tmp × U)->Act
 |[]=>a
 |(d,v)::r=>M5 (a.put (C d) v) r
theorem aeD {pre:A z}{a:Act}{w:g}(F:Act->(z->E)->Act->g->Prop)(h1:∀L a' w',F a L a' w'->R w')(h2:F a (λj=>pre.contains j||decide (ops.size<=j)) a w)
  (h3:∀L a' w',(∀j,L j=y)->F a L a' w'->Q .normal a' w')
  (h4:∀i L a' w',i<ops.size->L i=N->(∀d,U3 .any ops i d=y->L d=y)->F a L a' w'->wpOp P ops Q i (λa' w'=>F a (λj=>j==i||L j) a' w') a' w'):
  D6 P ops R (λa' w'=>∃I,U5 P ops Q R pre a' w' I) [] a w:=⟨F a,h1,h2,h3,h4⟩
variable {l:A Oper}{a:Act}{w:g}{r:A z}{i:z}{o:Oper}{Z:Act->g->Prop}
theorem aiR (ho:opAt l i=C o)(hw:Region.wanted o (O l.toArray a.tmps)=y)
  (h:∃v,(∀w,R w->(execOp a.eval o).run P w= .ok (.value v) w)/\D6 P l.toArray R Z r (a.put o.dst v) w):D6 P l.toArray R Z (i::r) a w:=
 let⟨v,h1,h2⟩:=h
 ⟨o,v,qJ _ _ _ ho,.inl ⟨hw,h1⟩,h2⟩
theorem ac1 {Z:Act->g->Prop}(ho:opAt l i=C o)(hw:Region.wanted o (O l.toArray a.tmps)=y)(h:∀K:Act->g->Prop,(∀a w,Z a w->K a w)->o.wp P a w K Q):wpOp P l.toArray Q i Z a w:=by
 have ho':=qJ _ _ _ ho;unfold wpOp;simp only[ho',hw,dw];exact .inl (h _ λ_ _ h=>h)
end
theorem qV {p q:Prop}(h:p)(f:p->q:=by
 intro h
 (repeat(refine aiR rfl rfl ?_;apply Exists.intro;refine⟨λwS hS=>?_,?_⟩;(go_simp;try with_reducible rfl);simp only[Act.put,tQ,sG,sF]))
 exact h):q:=f h
end Yd
