import Derived.Test.YtnhnhmeogckgpaaGreatDoorTA0
import Derived.OrdersHeld
import Derived.Still
import Derived.Tactics
import Derived.Tactics2
import Derived.CallsIn
import Derived.OrdersIn
import Derived.TacticsIn
import Derived.RangeFuncCalls
set_option linter.all false
set_option maxRecDepth 200000
set_option maxHeartbeats 8000000
namespace Yd
open Array renaming replicate→N,getElem?_eq_none→W,getElem?_eq_some_iff→X
open Bool renaming true→y,and_eq_true→z,false→O
open Option renaming some→G
open Go
open Act renaming put→Y
open Go renaming World→g,yielded→M,Program→U,Exit→V
open _root_ renaming Nat→A,decide_eq_true_eq→B,Array→C,List→E,Bool→J
section
variable {P:U} {ops:C Oper} {Q:V→Act→g→Prop} {md:Region.Mode} {S:g→Prop}
def nU (P:U) (ops:C Oper) (Q:V→Act→g→Prop) (S:g→Prop):E (A × J)→Act→g→Prop
 |[],a,w=>Q .normal a w
 |(i,y)::r,a,w=>∃o v,ops[i]?=G o∧YieldsIf P ops S o v a∧nU P ops Q S r (a.put o.dst v) w
 |(i,O)::r,a,w=>wpOp P ops Q i (fun a' w'=>S w'∧nU P ops Q S r a' w') a w
def z8 (md:Region.Mode) (ops:C Oper):E (A × J)→C J→J
 |[],listed=>(Region.ready md ops listed).isEmpty
 |(i,y)::r,listed=>(Region.ready md ops listed).contains i && Region.free md ops listed i && z8 md ops r (listed.setIfInBounds i y)
 |(i,O)::r,listed=>decide (Region.ready md ops listed=[i]) && z8 md ops r (listed.setIfInBounds i y)
theorem vF (hs:Region.noSelect ops=y) (hQ:∀d v c a w,Q (.panic c) (Y a d v) w→Q (.panic c) a w):
  ∀(l:E (A × J)) (listed:C J) (a:Act) (w:g),z8 md ops l listed=y→S w→nU P ops Q S l a w→wpAnyH P md ops Q S l.length listed a w
 |[],listed,a,w,hB,_,h=>⟨by simpa[z8] using hB,h⟩
 |(i,y)::r,listed,a,w,hB,hS,h=>by
  simp only[z8,z] at hB;obtain⟨⟨hr,hf⟩,hB'⟩:=hB;obtain⟨o,v,ho,hy,hn⟩:=h;exact wpAnyH_first ho (Region.noSelect_spec hs) (fun c a w=>hQ _ _ c a w) r.length listed a w (Region.free_spec ho hf) (by simpa using hr) hy hS
   (vF hs hQ r _ _ _ hB' hS hn)
 |(i,O)::r,listed,a,w,hB,hS,h=>by
  simp only[z8,z,B] at hB;obtain⟨hr,hB'⟩:=hB;refine⟨fun h0=>(by rw[hr] at h0;cases h0),fun j hj=>?_⟩;rw[hr] at hj;obtain rfl:j=i:=by simpa using hj
  exact wpOp_mono (fun a' w' hh=>⟨hh.1,vF hs hQ r _ a' w' hB' hh.1 hh.2⟩) h
def opAt:E Oper→A→Option Oper
 |[],_=>none
 |o::_,0=>G o
 |_::l,i+1=>opAt l i
theorem dF:∀(l:E Oper) (i:A) (o:Oper),opAt l i=G o→l.toArray[i]?=G o
 |[],_,_,h=>by cases h
 |x::_,0,o,h=>by simpa[opAt] using h
 |_::l,i+1,o,h=>by have:=dF l i o h;simpa using this
theorem bY {id:A} {a:Act} {w:g} {l:E Oper} (ord:E (A × J)) (S:g→Prop) (hm:P.follows .mixedOrders=y)
  (hB:(Region.noSelect l.toArray && decide (ord.length=l.length) && z8 .any l.toArray ord (N l.toArray.size O))=y)
  (hQ:∀d v c a w,Q (.panic c) (Y a d v) w→Q (.panic c) a w) (hS:S w.drew) (h:nU P l.toArray Q S ord a w.drew):(Code.region id l.toArray y).wp P Q a w:=by
 simp only[z,B] at hB;obtain⟨⟨hs,hl⟩,ho⟩:=hB;refine wp_region_any hm (wpAny_of_held (S:=S) _ _ _ _ ?_);have:=vF (md:= .any) hs hQ ord _ a _ ho hS h;rw[hl] at this
 simpa using this
variable {l:E Oper} {a:Act} {w:g} {r:E (A × J)} {i:A} {o:Oper}
theorem ja (h:Q .normal a w):nU P ops Q S [] a w:=h
theorem afB (ho:opAt l i=G o) (hw:Region.wanted o (M l.toArray a.tmps)=y)
  (h:∃v,(∀w,S w→(execOp a.eval o).run P w= .ok (.value v) w)∧nU P l.toArray Q S r (a.put o.dst v) w):nU P l.toArray Q S ((i,y)::r) a w:=
 let⟨v,h1,h2⟩:=h
 ⟨o,v,dF _ _ _ ho,.inl ⟨hw,h1⟩,h2⟩
theorem VX (ho:opAt l i=G o) (hw:Region.wanted o (M l.toArray a.tmps)=O) (hn:nU P l.toArray Q S r (a.put o.dst undef) w):nU P l.toArray Q S ((i,y)::r) a w:=
 ⟨o,undef,dF _ _ _ ho,.inr ⟨hw,rfl⟩,hn⟩
theorem iH (ho:opAt l i=G o) (hw:Region.wanted o (M l.toArray a.tmps)=y) (h:∀K:Act→g→Prop,(∀a w,S w→nU P l.toArray Q S r a w→K a w)→o.wp P a w K Q):
  nU P l.toArray Q S ((i,O)::r) a w:=by
 have ho':=dF _ _ _ ho;unfold nU wpOp;simp only[ho',hw,if_true];exact .inl (h _ fun _ _ h1 h2=>⟨h1,h2⟩)
theorem nI (ho:opAt l i=G o) (hw:Region.wanted o (M l.toArray a.tmps)=O) (hS:S w) (hn:nU P l.toArray Q S r (a.put o.dst undef) w):nU P l.toArray Q S ((i,O)::r) a w:=by
 have ho':=dF _ _ _ ho;unfold nU wpOp;simp only[ho',hw,Bool.false_eq_true,if_false];exact⟨hS,hn⟩
end
theorem qO {p q:Prop} (h:p) (f:p→q:=by
 intro h
 (repeat((first|refine VX rfl rfl ?_|(refine afB rfl rfl ?_;apply Exists.intro;refine⟨fun wS hS=>?_,?_⟩;(go_simp;try with_reducible rfl)));simp only[Act.put,List.setIfInBounds_toArray,List.set_cons_zero,List.set_cons_succ]))
 exact h):q:=f h
section
variable {P:U} {ops:C Oper} {Q:V→Act→g→Prop} {md:Region.Mode} {S:g→Prop}
theorem KP {k n:A} {row:String} {args:C Value} {w:g} {R:Value→g→Prop} (h:Rows P row args w R):RowsIn (Fence.wide.inRound k) n P row args w R:=
 fun c cs _=>let⟨v,w',r,s⟩:=h c cs;⟨v,w',r,stepsIn_wide.2 s⟩
theorem EY {k n:A} (hd:∀(i:A) o,ops[i]?=G o→∀c,o.op≠ .defer c) (hq:¬LetsOut Q):
  ∀(is:E A) (a:Act) (w:g),wpOps P ops Q is a w→wpOpsIn (Fence.wide.inRound k) n P ops Q is a w:=by
 intro is
 induction is with
 |nil=>intro a w h;exact h
 |cons i rest ih=>
  intro a w h;rw[wpOps_cons] at h;rw[wpOpsIn_cons];unfold wpOp at h;unfold wpOpIn
  cases ho:ops[i]? with
  |none=>simp only[ho] at h ⊢;exact ih _ _ h
  |some o=>
   simp only[ho] at h ⊢;by_cases hw:Region.wanted o (M ops a.tmps)=y
   ·rw[if_pos hw] at h ⊢
    rcases h with h|⟨_,h⟩
    ·refine⟨fun f _=>trivial,?_⟩
     rw[Fence.inRound_round,Oper.semAt_some k _ _ (hd i o ho)];unfold Oper.wp at h;revert h;generalize(execOp a.eval o).run P w=r;intro h
     cases r with
     |ok x w'=>
      cases x <;> simp only[Oper.upon,Oper.uponIn] at h ⊢
      all_goals first
       |exact ih _ _ h
       |exact⟨fun h=>(by cases h),(CallsIn.inRound k (callsIn_wide.2 h)).mono (fun e w'' he=>by cases e <;> first|exact ih _ _ he|exact he)⟩
       |exact⟨fun h=>(by cases h),RowsIn.mono (KP h) (fun _ _ he=>ih _ _ he)⟩
       |exact h.elim
     |halt x w'=>cases x <;> simp only[Oper.upon,Oper.uponIn] at h ⊢ <;> exact h
    ·exact absurd h hq
   ·rw[if_neg hw] at h ⊢
    exact⟨fun _ _=>trivial,ih _ _ h⟩
def FX (l:E Oper):J:=l.all fun o=>match o.op with| .defer _=>O|_=>y
theorem BI {l:E Oper} (h:FX l=y):∀(i:A) o,l.toArray[i]?=G o→∀c,o.op≠ .defer c:=by
 intro i o ho c hc;have hm:o∈l:=List.mem_of_getElem? (by simpa using ho);have:=List.all_eq_true.1 h o hm;rw[hc] at this
 cases this
end
section
variable {P:U} {ops:C Oper} {Q:V→Act→g→Prop} {md:Region.Mode} {S:g→Prop} {cut:A}
def mJ (P:U) (md:Region.Mode) (ops:C Oper) (Q:V→Act→g→Prop) (T:A→g→g→Prop):A→C J→Act→g→Prop
 |0,listed,a,w=>Region.ready md ops listed=[]∧Q .normal a w
 |fuel+1,listed,a,w=>(Region.ready md ops listed=[]→Q .normal a w)∧∀i∈Region.ready md ops listed,wpOp P ops Q i (fun a' w'=>T i w w'∧mJ P md ops Q T fuel (listed.setIfInBounds i y) a' w') a w
theorem kN {T:A→g→g→Prop}:∀(fuel:A) (listed:C J) (a:Act) (w:g),mJ P md ops Q T fuel listed a w→wpAny P md ops Q fuel listed a w
 |0,_,_,_,h=>h
 |fuel+1,_,_,_,h=>⟨h.1,fun i hi=>wpOp_mono (fun _ _ h'=>kN fuel _ _ _ h'.2) (h.2 i hi)⟩
theorem jv {T:A→g→g→Prop} {i:A} {oi:Oper} {v:Value} (hi:ops[i]?=G oi) (hsel:∀(j:A) (o:Oper) cs b,ops[j]?=G o→o.op≠ .select cs b)
  (hQ:∀c a w,Q (.panic c) (a.put oi.dst v) w→Q (.panic c) a w) (Sm:∀w,S w→T i w w)
  (hT:∀j oj,ops[j]?=G oj→j≠i→(∀e∈oj.after,Region.binds md e=y→e.on≠i)→∀w w',T j w w'→S w→S w'):
  ∀(fuel:A) (listed:C J) (a:Act) (w:g),
   (∀j oj,ops[j]?=G oj→j≠i→listed.getD j y=O→(∀e∈oj.after,Region.binds md e=y→e.on≠i)→oi.apart ops oj=y)→
   i∈Region.ready md ops listed→YieldsIf P ops S oi v a→S w→
   mJ P md ops Q T fuel (listed.setIfInBounds i y) (a.put oi.dst v) w→mJ P md ops Q T (fuel+1) listed a w:=by
 intro fuel
 induction fuel with
 |zero=>
  intro listed a w _ hr hy hS H;refine⟨fun h=>(by rw[h] at hr;cases hr),fun j hj=>?_⟩;rcases Decidable.em (j=i) with rfl|hne
  ·exact hy.wpOp hi hS ⟨Sm _ hS,H⟩
  ·have:=ready_mono hj hne
   rw[H.1] at this;cases this
 |succ fuel ih=>
  intro listed a w hfree hr hy hS H;refine⟨fun h=>(by rw[h] at hr;cases hr),fun j hj=>?_⟩;rcases Decidable.em (j=i) with rfl|hne
  ·exact hy.wpOp hi hS ⟨Sm _ hS,H⟩
  obtain⟨hun,oj,hoj,Pt⟩:=mem_ready.1 hj;have KQ:=(mem_ready.1 hr).1;have hno:∀e∈oj.after,Region.binds md e=y→e.on≠i:=by
   intro e he hb heq;have h1:=Pt e he hb;rw[heq] at h1;rcases Nat.lt_or_ge i listed.size with h'|h'
   ·simp[h'] at KQ h1;rw[KQ] at h1;cases h1
   ·simp[W h'] at h1
  have hput:=wpOp_putIf hoj (hfree j oj hoj hne hun hno) (fun cs b=>hsel i oi cs b hi) (fun cs b=>hsel j oj cs b hoj) hQ hy (H.2 j (ready_mono hj hne));refine wpOp_mono (fun a' w' h3=>⟨h3.2.1,ih _ a' w' (fun k ok hk hki hku hkn=>hfree k ok hk hki ?_ hkn) (ready_mono hr (Ne.symm hne)) h3.1 (hT j oj hoj hne hno _ _ h3.2.1 hS) ?_⟩) hput
  ·rcases Decidable.em (j=k) with rfl|hjk
   ·exact hun
   ·rwa[getD_set_ne y hjk] at hku
  ·rw[Array.setIfInBounds_comm _ _ hne];exact h3.2.2
def fF (cut:A) (R S:g→Prop) (i:A) (w w':g):Prop:=R w'∧(cut≤i∨(S w→S w'))
def gH (P:U) (ops:C Oper) (Q:V→Act→g→Prop) (R S:g→Prop) (cut:A):E (A × A)→Act→g→Prop
 |[],a,w=>Q .normal a w
 |(i,0)::r,a,w=>∃o v,ops[i]?=G o∧YieldsIf P ops (fun w=>R w∧S w) o v a∧gH P ops Q R S cut r (a.put o.dst v) w
 |(i,1)::r,a,w=>∃o v,ops[i]?=G o∧YieldsIf P ops R o v a∧gH P ops Q R S cut r (a.put o.dst v) w
 |(i,_+2)::r,a,w=>wpOp P ops Q i (fun a' w'=>fF cut R S i w w'∧gH P ops Q R S cut r a' w') a w
def waits (md:Region.Mode) (ops:C Oper) (cut i:A):J:=(List.range ops.size).all fun j=>decide (j<cut)||match ops[j]? with
 |some oj=>oj.after.any (fun e=>Region.binds md e && e.on==i)
 |none=>y
theorem tH {i:A} (h:waits md ops cut i=y) (j:A) (oj:Oper) (hj:ops[j]?=G oj) (hno:∀e∈oj.after,Region.binds md e=y→e.on≠i):j<cut:=by
 have hlt:j<ops.size:=(X.1 hj).1;have:=List.all_eq_true.1 h j (List.mem_range.2 hlt);rw[hj] at this;simp only[Bool.or_eq_true,B,Array.any_eq_true] at this;rcases this with h1|⟨k,hk,h1⟩
 ·exact h1
 ·simp only[z,beq_iff_eq] at h1
  exact absurd h1.2 (hno _ (Array.getElem_mem hk) h1.1)
def gV (md:Region.Mode) (ops:C Oper) (cut:A):E (A × A)→J→C J→J
 |[],_,listed=>(Region.ready md ops listed).isEmpty
 |(i,0)::r,held,listed=>(Region.ready md ops listed).contains i && Region.free md ops listed i && (held && waits md ops cut i) && gV md ops cut r held (listed.setIfInBounds i y)
 |(i,1)::r,held,listed=>(Region.ready md ops listed).contains i && Region.free md ops listed i && gV md ops cut r held (listed.setIfInBounds i y)
 |(i,_+2)::r,held,listed=>decide (Region.ready md ops listed=[i]) && gV md ops cut r (held && decide (i<cut)) (listed.setIfInBounds i y)
variable {R:g→Prop}
theorem lZ (hs:Region.noSelect ops=y) (hQ:∀d v c a w,Q (.panic c) (Y a d v) w→Q (.panic c) a w):
  ∀(l:E (A × A)) (held:J) (listed:C J) (a:Act) (w:g),gV md ops cut l held listed=y→R w→(held=y→S w)→gH P ops Q R S cut l a w→mJ P md ops Q (fF cut R S) l.length listed a w
 |[],_,listed,a,w,hB,_,_,h=>⟨by simpa[gV] using hB,h⟩
 |(i,0)::r,held,listed,a,w,hB,hR,hS,h=>by
  simp only[gV,z] at hB;obtain⟨⟨⟨hr,hf⟩,hh,hc⟩,hB'⟩:=hB;obtain⟨o,v,ho,hy,hn⟩:=h;have hrest:=lZ hs hQ r held _ _ _ hB' hR hS hn;refine jv (S:=fun w=>R w∧S w) ho (Region.noSelect_spec hs) (fun c a w=>hQ _ _ c a w) (fun _ h=>⟨h.1,.inr id⟩) (fun j oj hj hne hno w w' hw' hw=>⟨hw'.1,?_⟩) r.length listed a w (Region.free_spec ho hf) (by simpa using hr) hy ⟨hR,hS hh⟩ hrest;rcases hw'.2 with h1|h1
  ·exact absurd (tH hc j oj hj hno) ah
  ·exact h1 hw.2
 |(i,1)::r,held,listed,a,w,hB,hR,hS,h=>by
  simp only[gV,z] at hB;obtain⟨⟨hr,hf⟩,hB'⟩:=hB;obtain⟨o,v,ho,hy,hn⟩:=h;have hrest:=lZ hs hQ r held _ _ _ hB' hR hS hn;exact jv (S:=R) ho (Region.noSelect_spec hs) (fun c a w=>hQ _ _ c a w) (fun _ h=>⟨h,.inr id⟩) (fun j oj hj hne hno w w' hw' _=>hw'.1) r.length listed a w (Region.free_spec ho hf) (by simpa using hr) hy hR hrest
 |(i,_+2)::r,held,listed,a,w,hB,hR,hS,h=>by
  simp only[gV,z,B] at hB;obtain⟨hr,hB'⟩:=hB;refine⟨fun h0=>(by rw[hr] at h0;cases h0),fun j hj=>?_⟩;rw[hr] at hj;obtain rfl:j=i:=by simpa using hj
  exact wpOp_mono (fun a' w' hh=>⟨hh.1,lZ hs hQ r _ _ a' w' hB' hh.1.1 (fun tV=>by
   simp only[z,B] at tV;rcases hh.1.2 with h1|h1
   ·omega
   ·exact h1 (hS tV.1)) hh.2⟩) h
def eX (Q:V→Act→g→Prop):V→Act→g→Prop
 | .outgrown,_,_=>False
 | .panic _,_,_=>False
 | .normal,a,w=>Q .normal a w
 | .ret,a,w=>Q .ret a w
 | .exit id,a,w=>Q (.exit id) a w
 | .goto t,a,w=>Q (.goto t) a w
theorem EZ (Q:V→Act→g→Prop):¬LetsOut (eX Q):=fun⟨_,_,h⟩=>h
theorem tJ {Q:V→Act→g→Prop} (e:V) (a:Act) (w:g) (h:eX Q e a w):Q e a w:=by
 cases e <;> first|exact h|exact h.elim
theorem vv (Q:V→Act→g→Prop):∀d v c a w,eX Q (.panic c) (Y a d v) w→eX Q (.panic c) a w:=fun _ _ _ _ _ h=>h
theorem aK {id:A} {a:Act} {w:g} {l:E Oper} (cut:A) (ord:E (A × A)) (R S:g→Prop) (hm:P.follows .mixedOrders=y)
  (hB:(Region.noSelect l.toArray && decide (ord.length=l.length) && gV .any l.toArray cut ord y (N l.toArray.size O))=y)
  (hR:R w.drew) (hS:S w.drew) (h:gH P l.toArray (eX Q) R S cut ord a w.drew):(Code.region id l.toArray y).wp P Q a w:=by
 simp only[z,B] at hB;obtain⟨⟨hs,hl⟩,ho⟩:=hB;refine wp_mono (Q:=eX Q) (wp_region_any hm (kN (T:=fF cut R S) _ _ _ _ ?_)) tJ;have:=lZ (md:= .any) (Q:=eX Q) hs (vv Q) ord y _ a _ ho hR (fun _=>hS) h;rw[hl] at this
 simpa using this
theorem wQ {k n id:A} {a:Act} {w:g} {l:E Oper} (cut:A) (ord:E (A × A)) (R S:g→Prop) (hm:P.follows .mixedOrders=y)
  (hB:(Region.noSelect l.toArray && decide (ord.length=l.length) && gV .any l.toArray cut ord y (N l.toArray.size O))=y) (hd:FX l=y)
  (hR:R w.drew) (hS:S w.drew) (h:gH P l.toArray (eX Q) R S cut ord a w.drew):(Code.region id l.toArray y).wpIn (Fence.wide.inRound k) n P Q a w:=by
 simp only[z,B] at hB;obtain⟨⟨hs,hl⟩,ho⟩:=hB;refine wpIn_mono (Q:=eX Q) (wpIn_region_draw fun t=>?_) tJ;simp only[Region.schedule,hm,Bool.true_or,if_true];refine EY (BI hd) (EZ Q) _ _ _ (wpAny_sound _ t _ a _ (kN (T:=fF cut R S) _ _ _ _ ?_));have:=lZ (md:= .any) (Q:=eX Q) hs (vv Q) ord y _ a _ ho hR (fun _=>hS) h;rw[hl] at this
 simpa using this
theorem bB {a:Act} {w:g} (h:Q .normal a w):gH P ops (eX Q) R S cut [] a w:=h
variable {l:E Oper} {a:Act} {w:g} {r:E (A × A)} {i:A} {o:Oper}
theorem ads (ho:opAt l i=G o) (hw:Region.wanted o (M l.toArray a.tmps)=y)
  (h:∃v,(∀w,R w∧S w→(execOp a.eval o).run P w= .ok (.value v) w)∧gH P l.toArray Q R S cut r (a.put o.dst v) w):gH P l.toArray Q R S cut ((i,0)::r) a w:=
 let⟨v,h1,h2⟩:=h
 ⟨o,v,dF _ _ _ ho,.inl ⟨hw,h1⟩,h2⟩
theorem adt (ho:opAt l i=G o) (hw:Region.wanted o (M l.toArray a.tmps)=y)
  (h:∃v,(∀w,R w→(execOp a.eval o).run P w= .ok (.value v) w)∧gH P l.toArray Q R S cut r (a.put o.dst v) w):gH P l.toArray Q R S cut ((i,1)::r) a w:=
 let⟨v,h1,h2⟩:=h
 ⟨o,v,dF _ _ _ ho,.inl ⟨hw,h1⟩,h2⟩
theorem Sq (ho:opAt l i=G o) (hw:Region.wanted o (M l.toArray a.tmps)=O) (hn:gH P l.toArray Q R S cut r (a.put o.dst undef) w):gH P l.toArray Q R S cut ((i,0)::r) a w:=
 ⟨o,undef,dF _ _ _ ho,.inr ⟨hw,rfl⟩,hn⟩
theorem Pv (ho:opAt l i=G o) (hw:Region.wanted o (M l.toArray a.tmps)=O) (hn:gH P l.toArray Q R S cut r (a.put o.dst undef) w):gH P l.toArray Q R S cut ((i,1)::r) a w:=
 ⟨o,undef,dF _ _ _ ho,.inr ⟨hw,rfl⟩,hn⟩
theorem aF (ho:opAt l i=G o) (hw:Region.wanted o (M l.toArray a.tmps)=y) (h:∀K:Act→g→Prop,(∀a w,R w∧S w→gH P l.toArray Q R S cut r a w→K a w)→o.wp P a w K Q):
  gH P l.toArray Q R S cut ((i,2)::r) a w:=by
 have ho':=dF _ _ _ ho;show wpOp _ _ _ _ _ _ _;unfold wpOp;simp only[ho',hw,if_true];exact .inl (h _ fun _ _ h1 h2=>⟨⟨h1.1,.inr fun _=>h1.2⟩,h2⟩)
theorem dN (hc:decide (cut≤i)=y) (ho:opAt l i=G o) (hw:Region.wanted o (M l.toArray a.tmps)=y) (h:∀K:Act→g→Prop,(∀a w,R w→gH P l.toArray Q R S cut r a w→K a w)→o.wp P a w K Q):
  gH P l.toArray Q R S cut ((i,2)::r) a w:=by
 have ho':=dF _ _ _ ho;show wpOp _ _ _ _ _ _ _;unfold wpOp;simp only[ho',hw,if_true];exact .inl (h _ fun _ _ h1 h2=>⟨⟨h1,.inl (of_decide_eq_true hc)⟩,h2⟩)
end
theorem qC {p q:Prop} (h:p) (f:p→q:=by
 intro h
 (repeat((first|refine Sq rfl rfl ?_|refine Pv rfl rfl ?_|((first|refine ads rfl rfl ?_|refine adt rfl rfl ?_);apply Exists.intro;refine⟨fun wS hS=>?_,?_⟩;(go_simp;try with_reducible rfl)));simp only[Act.put,List.setIfInBounds_toArray,List.set_cons_zero,List.set_cons_succ]))
 exact h):q:=f h
section
variable {P:U} {ops:C Oper} {Q:V→Act→g→Prop} {R S:g→Prop} {cut:A} {RP:E PanicEntry→g→Prop} {D:E Deferred}
def rD (Q:V→Act→g→Prop) (D:E Deferred) (RP:E PanicEntry→g→Prop):V→Act→g→Prop
 | .outgrown,_,_=>False
 | .panic c,a,w=>a.defers=D∧RP c w
 | .normal,a,w=>Q .normal a w
 | .ret,a,w=>Q .ret a w
 | .exit id,a,w=>Q (.exit id) a w
 | .goto t,a,w=>Q (.goto t) a w
theorem FY (hP:∀c a w,a.defers=D→RP c w→Q (.panic c) a w) (e:V) (a:Act) (w:g) (h:rD Q D RP e a w):Q e a w:=by
 cases e <;> first|exact h|exact h.elim|exact hP _ _ _ h.1 h.2
theorem KR:∀d v c a w,rD Q D RP (.panic c) (Y a d v) w→rD Q D RP (.panic c) a w:=fun d _ _ _ _ h=>by cases d <;> exact h
theorem bF {id:A} {a:Act} {w:g} {l:E Oper} (cut:A) (ord:E (A × A)) (R S:g→Prop) (RP:E PanicEntry→g→Prop) (hm:P.follows .mixedOrders=y)
  (hB:(Region.noSelect l.toArray && decide (ord.length=l.length) && gV .any l.toArray cut ord y (N l.toArray.size O))=y)
  (hP:∀c a' w',a'.defers=a.defers→RP c w'→Q (.panic c) a' w')
  (hR:R w.drew) (hS:S w.drew) (h:gH P l.toArray (rD Q a.defers RP) R S cut ord a w.drew):(Code.region id l.toArray y).wp P Q a w:=by
 simp only[z,B] at hB;obtain⟨⟨hs,hl⟩,ho⟩:=hB;refine wp_mono (Q:=rD Q a.defers RP) (wp_region_any hm (kN (T:=fF cut R S) _ _ _ _ ?_)) (FY hP);have:=lZ (md:= .any) (Q:=rD Q a.defers RP) hs KR ord y _ a _ ho hR (fun _=>hS) h;rw[hl] at this
 simpa using this
theorem iX {a:Act} {w:g} (h:Q .normal a w):gH P ops (rD Q D RP) R S cut [] a w:=h
end
inductive OT where
 |nil
 |q (i c:A) (r:OT)
 |l (i:A) (r:OT)
 |alt (i:A) (r:OT) (j:A) (s:OT)
def OT.size:OT→A
 | .nil=>0
 | .q _ _ r=>r.size+1
 | .l _ r=>r.size+1
 | .alt _ r _ _=>r.size+1
section
variable {P:U} {ops:C Oper} {Q:V→Act→g→Prop} {md:Region.Mode} {R S:g→Prop} {cut:A}
def kG (P:U) (ops:C Oper) (Q:V→Act→g→Prop) (R S:g→Prop) (cut:A):OT→Act→g→Prop
 | .nil,a,w=>Q .normal a w
 | .q i 0 r,a,w=>∃o v,ops[i]?=G o∧YieldsIf P ops (fun w=>R w∧S w) o v a∧kG P ops Q R S cut r (a.put o.dst v) w
 | .q i (_+1) r,a,w=>∃o v,ops[i]?=G o∧YieldsIf P ops R o v a∧kG P ops Q R S cut r (a.put o.dst v) w
 | .l i r,a,w=>wpOp P ops Q i (fun a' w'=>fF cut R S i w w'∧kG P ops Q R S cut r a' w') a w
 | .alt i r j s,a,w=>wpOp P ops Q i (fun a' w'=>fF cut R S i w w'∧kG P ops Q R S cut r a' w') a w∧wpOp P ops Q j (fun a' w'=>fF cut R S j w w'∧kG P ops Q R S cut s a' w') a w
def nZ (md:Region.Mode) (ops:C Oper) (cut:A):OT→J→C J→J
 | .nil,_,listed=>(Region.ready md ops listed).isEmpty
 | .q i 0 r,held,listed=>(Region.ready md ops listed).contains i && Region.free md ops listed i && (held && waits md ops cut i) && nZ md ops cut r held (listed.setIfInBounds i y)
 | .q i (_+1) r,held,listed=>(Region.ready md ops listed).contains i && Region.free md ops listed i && nZ md ops cut r held (listed.setIfInBounds i y)
 | .l i r,held,listed=>decide (Region.ready md ops listed=[i]) && nZ md ops cut r (held && decide (i<cut)) (listed.setIfInBounds i y)
 | .alt i r j s,held,listed=>decide (Region.ready md ops listed=[i,j]) && decide (r.size=s.size) && nZ md ops cut r (held && decide (i<cut)) (listed.setIfInBounds i y) && nZ md ops cut s (held && decide (j<cut)) (listed.setIfInBounds j y)
theorem BJ {i:A} {held:J} {w w':g} (hS:held=y→S w) (h:fF cut R S i w w') (hh:(held && decide (i<cut))=y):S w':=by
 simp only[z,B] at hh;rcases h.2 with h1|h1
 ·omega
 ·exact h1 (hS hh.1)
theorem kT (hs:Region.noSelect ops=y) (hQ:∀d v c a w,Q (.panic c) (Y a d v) w→Q (.panic c) a w):
  ∀(l:OT) (held:J) (listed:C J) (a:Act) (w:g),nZ md ops cut l held listed=y→R w→(held=y→S w)→kG P ops Q R S cut l a w→mJ P md ops Q (fF cut R S) l.size listed a w
 | .nil,_,listed,a,w,hB,_,_,h=>⟨by simpa[nZ] using hB,h⟩
 | .q i 0 r,held,listed,a,w,hB,hR,hS,h=>by
  simp only[nZ,z] at hB;obtain⟨⟨⟨hr,hf⟩,hh,hc⟩,hB'⟩:=hB;obtain⟨o,v,ho,hy,hn⟩:=h;have hrest:=kT hs hQ r held _ _ _ hB' hR hS hn;refine jv (S:=fun w=>R w∧S w) ho (Region.noSelect_spec hs) (fun c a w=>hQ _ _ c a w) (fun _ h=>⟨h.1,.inr id⟩) (fun j oj hj hne hno w w' hw' hw=>⟨hw'.1,?_⟩) r.size listed a w (Region.free_spec ho hf) (by simpa using hr) hy ⟨hR,hS hh⟩ hrest;rcases hw'.2 with h1|h1
  ·exact absurd (tH hc j oj hj hno) ah
  ·exact h1 hw.2
 | .q i (_+1) r,held,listed,a,w,hB,hR,hS,h=>by
  simp only[nZ,z] at hB;obtain⟨⟨hr,hf⟩,hB'⟩:=hB;obtain⟨o,v,ho,hy,hn⟩:=h;have hrest:=kT hs hQ r held _ _ _ hB' hR hS hn;exact jv (S:=R) ho (Region.noSelect_spec hs) (fun c a w=>hQ _ _ c a w) (fun _ h=>⟨h,.inr id⟩) (fun j oj hj hne hno w w' hw' _=>hw'.1) r.size listed a w (Region.free_spec ho hf) (by simpa using hr) hy hR hrest
 | .l i r,held,listed,a,w,hB,hR,hS,h=>by
  simp only[nZ,z,B] at hB;obtain⟨hr,hB'⟩:=hB;refine⟨fun h0=>(by rw[hr] at h0;cases h0),fun j hj=>?_⟩;rw[hr] at hj;obtain rfl:j=i:=by simpa using hj
  exact wpOp_mono (fun a' w' hh=>⟨hh.1,kT hs hQ r _ _ a' w' hB' hh.1.1 (BJ hS hh.1) hh.2⟩) h
 | .alt i r k s,held,listed,a,w,hB,hR,hS,h=>by
  simp only[nZ,z,B] at hB;obtain⟨⟨⟨hr,hz⟩,hB1⟩,hB2⟩:=hB;refine⟨fun h0=>(by rw[hr] at h0;cases h0),fun j hj=>?_⟩;rw[hr] at hj;rcases(by simpa using hj:j=i∨j=k) with rfl|rfl
  ·exact wpOp_mono (fun a' w' hh=>⟨hh.1,kT hs hQ r _ _ a' w' hB1 hh.1.1 (BJ hS hh.1) hh.2⟩) h.1
  ·refine wpOp_mono (fun a' w' hh=>⟨hh.1,?_⟩) h.2
   have:=kT hs hQ s _ _ a' w' hB2 hh.1.1 (BJ hS hh.1) hh.2;show mJ P md ops Q (fF cut R S) r.size _ a' w';rw[hz];exact this
theorem zh {id:A} {a:Act} {w:g} {l:E Oper} (cut:A) (ord:OT) (R S:g→Prop) (hm:P.follows .mixedOrders=y)
  (hB:(Region.noSelect l.toArray && decide (ord.size=l.length) && nZ .any l.toArray cut ord y (N l.toArray.size O))=y)
  (hR:R w.drew) (hS:S w.drew) (h:kG P l.toArray (eX Q) R S cut ord a w.drew):(Code.region id l.toArray y).wp P Q a w:=by
 simp only[z,B] at hB;obtain⟨⟨hs,hl⟩,ho⟩:=hB;refine wp_mono (Q:=eX Q) (wp_region_any hm (kN (T:=fF cut R S) _ _ _ _ ?_)) tJ;have:=kT (md:= .any) (Q:=eX Q) hs (vv Q) ord y _ a _ ho hR (fun _=>hS) h;rw[hl] at this
 simpa using this
theorem Aa {a:Act} {w:g} (h:Q .normal a w):kG P ops (eX Q) R S cut .nil a w:=h
variable {l:E Oper} {a:Act} {w:g} {r s:OT} {i j:A} {o:Oper}
theorem adu (ho:opAt l i=G o) (hw:Region.wanted o (M l.toArray a.tmps)=y)
  (h:∃v,(∀w,R w∧S w→(execOp a.eval o).run P w= .ok (.value v) w)∧kG P l.toArray Q R S cut r (a.put o.dst v) w):kG P l.toArray Q R S cut (.q i 0 r) a w:=
 let⟨v,h1,h2⟩:=h
 ⟨o,v,dF _ _ _ ho,.inl ⟨hw,h1⟩,h2⟩
theorem adv (ho:opAt l i=G o) (hw:Region.wanted o (M l.toArray a.tmps)=y)
  (h:∃v,(∀w,R w→(execOp a.eval o).run P w= .ok (.value v) w)∧kG P l.toArray Q R S cut r (a.put o.dst v) w):kG P l.toArray Q R S cut (.q i 1 r) a w:=
 let⟨v,h1,h2⟩:=h
 ⟨o,v,dF _ _ _ ho,.inl ⟨hw,h1⟩,h2⟩
theorem wX (ho:opAt l i=G o) (hw:Region.wanted o (M l.toArray a.tmps)=y) (h:∀K:Act→g→Prop,(∀a w,R w∧S w→kG P l.toArray Q R S cut r a w→K a w)→o.wp P a w K Q):
  wpOp P l.toArray Q i (fun a' w'=>fF cut R S i w w'∧kG P l.toArray Q R S cut r a' w') a w:=by
 have ho':=dF _ _ _ ho;unfold wpOp;simp only[ho',hw,if_true];exact .inl (h _ fun _ _ h1 h2=>⟨⟨h1.1,.inr fun _=>h1.2⟩,h2⟩)
theorem vw (ho:opAt l i=G o) (hw:Region.wanted o (M l.toArray a.tmps)=y) (h:∀K:Act→g→Prop,(∀a w,R w∧S w→kG P l.toArray Q R S cut r a w→K a w)→o.wp P a w K Q):
  kG P l.toArray Q R S cut (.l i r) a w:=wX ho hw h
end
theorem qT {p q:Prop} (h:p) (f:p→q:=by
 intro h
 (repeat((first|refine adu rfl rfl ?_|refine adv rfl rfl ?_);apply Exists.intro;refine⟨fun wS hS=>?_,?_⟩;(go_simp;try with_reducible rfl);simp only[Act.put,List.setIfInBounds_toArray,List.set_cons_zero,List.set_cons_succ]))
 exact h):q:=f h
section
variable {n:A} {P:U} {ops:C Oper} {Q:V→Act→g→Prop} {md:Region.Mode} {S:g→Prop} {cut:A}
theorem wide_round:Fence.wide.round=none:=rfl
theorem x9 {i:A} {o:Oper} {v:Value} {a:Act} (hi:ops[i]?=G o) (hy:YieldsIf P ops S o v a) {K:Act→g→Prop} {w:g} (hS:S w) (h:K (a.put o.dst v) w):wpOpIn Fence.wide n P ops Q i K a w:=by
 unfold Go.wpOpIn;simp only[hi];rcases hy with⟨hw,hv⟩|⟨hw,rfl⟩
 ·simp only[hw,if_true,Oper.wpIn,wide_round,Oper.semAt_none,hv w hS,Oper.uponIn];exact⟨fun _ _=>trivial,h⟩
 ·simp only[hw,Bool.false_eq_true,if_false];exact⟨fun _ _=>trivial,h⟩
theorem KS {j:A} {oi oj:Oper} {v:Value} (hj:ops[j]?=G oj) (hap:oi.apart ops oj=y)
  (hsi:∀cs b,oi.op≠ .select cs b) (hsj:∀cs b,oj.op≠ .select cs b)
  (hQ:∀c a w,Q (.panic c) (a.put oi.dst v) w→Q (.panic c) a w) {K:Act→g→Prop} {a:Act} {w:g}
  (hy:YieldsIf P ops S oi v a) (h:wpOpIn Fence.wide n P ops Q j K (a.put oi.dst v) w):
  wpOpIn Fence.wide n P ops Q j (fun a' w'=>YieldsIf P ops S oi v a'∧K (a'.put oi.dst v) w') a w:=by
 obtain⟨h1,h2,h3⟩:=Oper.apart_spec hap;have keep:∀(a:Act),YieldsIf P ops S oi v a→∀u,YieldsIf P ops S oi v (a.put oj.dst u):=fun a hy u=>
  hy.of_same (execOp_put oi hsi a oj.dst u h3) (wanted_put oi a oj.dst u h3)
 have keepD:∀d,YieldsIf P ops S oi v {a with defers:=d::a.defers}:=fun d=>hy.of_same rfl rfl
 unfold wpOpIn at*;simp only[hj] at*;rw[wanted_put oj a oi.dst v h1,about_put oj w a oi.dst v h1] at h
 split
 ·rename_i hw
  simp only[hw,if_true] at h;unfold Oper.wpIn at*;rw[about_put oj w a oi.dst v h1] at h;refine⟨h.1,?_⟩;have h:=h.2;rw[wide_round,Oper.semAt_none,execOp_put oj hsj a oi.dst v h1] at h;rw[wide_round,Oper.semAt_none];generalize(execOp a.eval oj).run P w=r at*
  cases r with
  |ok x w'=>
   cases x <;> simp only[Oper.uponIn] at h ⊢
   case value u=>exact⟨keep a hy u,by rw[←Act.put_comm a v u h2];exact h⟩
   case skip=>exact⟨keep a hy _,by rw[←Act.put_comm a v undef h2];exact h⟩
   case defer d=>
    refine⟨keep _ (keepD d) _,?_⟩;rw[←Act.put_comm _ v undef h2,←Act.put_defers];exact h
   case enter f args=>
    refine⟨h.1,CallsIn.mono h.2 fun e w'' he=>?_⟩
    cases e with
    |returned u=>exact⟨keep a hy u,by rw[←Act.put_comm a v u h2];exact he⟩
    |panicked c=>exact hQ _ _ _ he
    |outgrown=>exact he
   case row row args=>exact⟨h.1,RowsIn.mono h.2 fun u w'' he=>⟨keep a hy u,by rw[←Act.put_comm a v u h2];exact he⟩⟩
   case round l f tmps assign body=>
    refine⟨h.1,RoundIn.mono h.2 fun e w'' he=>?_⟩
    cases e with
    |returned u=>exact⟨keep a hy u,by rw[←Act.put_comm a v u h2];exact he⟩
    |panicked c=>exact hQ _ _ _ he
    |outgrown=>exact he
  |halt x w'=>
   cases x <;> simp only[Oper.uponIn] at h ⊢
   case panic u=>exact hQ _ _ _ h
 ·rename_i hw
  simp only[hw] at h;exact⟨h.1,keep a hy _,by rw[←Act.put_comm a v undef h2];exact h.2⟩
def zk (n:A) (P:U) (md:Region.Mode) (ops:C Oper) (Q:V→Act→g→Prop) (T:A→g→g→Prop):A→C J→Act→g→Prop
 |0,listed,a,w=>Region.ready md ops listed=[]∧Q .normal a w
 |fuel+1,listed,a,w=>(Region.ready md ops listed=[]→Q .normal a w)∧∀i∈Region.ready md ops listed,wpOpIn Fence.wide n P ops Q i (fun a' w'=>T i w w'∧zk n P md ops Q T fuel (listed.setIfInBounds i y) a' w') a w
theorem BK {T:A→g→g→Prop}:∀(fuel:A) (listed:C J) (a:Act) (w:g),zk n P md ops Q T fuel listed a w→wpAnyIn Fence.wide n P md ops Q fuel listed a w
 |0,_,_,_,h=>h
 |fuel+1,_,_,_,h=>⟨h.1,fun i hi=>wpOpIn_mono (fun _ _ h'=>BK fuel _ _ _ h'.2) (h.2 i hi)⟩
theorem Aw {T:A→g→g→Prop} {i:A} {oi:Oper} {v:Value} (hi:ops[i]?=G oi) (hsel:∀(j:A) (o:Oper) cs b,ops[j]?=G o→o.op≠ .select cs b)
  (hQ:∀c a w,Q (.panic c) (a.put oi.dst v) w→Q (.panic c) a w) (Sm:∀w,S w→T i w w)
  (hT:∀j oj,ops[j]?=G oj→j≠i→(∀e∈oj.after,Region.binds md e=y→e.on≠i)→∀w w',T j w w'→S w→S w'):
  ∀(fuel:A) (listed:C J) (a:Act) (w:g),
   (∀j oj,ops[j]?=G oj→j≠i→listed.getD j y=O→(∀e∈oj.after,Region.binds md e=y→e.on≠i)→oi.apart ops oj=y)→
   i∈Region.ready md ops listed→YieldsIf P ops S oi v a→S w→
   zk n P md ops Q T fuel (listed.setIfInBounds i y) (a.put oi.dst v) w→zk n P md ops Q T (fuel+1) listed a w:=by
 intro fuel
 induction fuel with
 |zero=>
  intro listed a w _ hr hy hS H;refine⟨fun h=>(by rw[h] at hr;cases hr),fun j hj=>?_⟩;rcases Decidable.em (j=i) with rfl|hne
  ·exact x9 hi hy hS ⟨Sm _ hS,H⟩
  ·have:=ready_mono hj hne
   rw[H.1] at this;cases this
 |succ fuel ih=>
  intro listed a w hfree hr hy hS H;refine⟨fun h=>(by rw[h] at hr;cases hr),fun j hj=>?_⟩;rcases Decidable.em (j=i) with rfl|hne
  ·exact x9 hi hy hS ⟨Sm _ hS,H⟩
  obtain⟨hun,oj,hoj,Pt⟩:=mem_ready.1 hj;have KQ:=(mem_ready.1 hr).1;have hno:∀e∈oj.after,Region.binds md e=y→e.on≠i:=by
   intro e he hb heq;have h1:=Pt e he hb;rw[heq] at h1;rcases Nat.lt_or_ge i listed.size with h'|h'
   ·simp[h'] at KQ h1;rw[KQ] at h1;cases h1
   ·simp[W h'] at h1
  have hput:=KS hoj (hfree j oj hoj hne hun hno) (fun cs b=>hsel i oi cs b hi) (fun cs b=>hsel j oj cs b hoj) hQ hy (H.2 j (ready_mono hj hne));refine wpOpIn_mono (fun a' w' h3=>⟨h3.2.1,ih _ a' w' (fun k ok hk hki hku hkn=>hfree k ok hk hki ?_ hkn) (ready_mono hr (Ne.symm hne)) h3.1 (hT j oj hoj hne hno _ _ h3.2.1 hS) ?_⟩) hput
  ·rcases Decidable.em (j=k) with rfl|hjk
   ·exact hun
   ·rwa[getD_set_ne y hjk] at hku
  ·rw[Array.setIfInBounds_comm _ _ hne];exact h3.2.2
variable {R:g→Prop}
def kH (n:A) (P:U) (ops:C Oper) (Q:V→Act→g→Prop) (R S:g→Prop) (cut:A):E (A × A)→Act→g→Prop
 |[],a,w=>Q .normal a w
 |(i,0)::r,a,w=>∃o v,ops[i]?=G o∧YieldsIf P ops (fun w=>R w∧S w) o v a∧kH n P ops Q R S cut r (a.put o.dst v) w
 |(i,1)::r,a,w=>∃o v,ops[i]?=G o∧YieldsIf P ops R o v a∧kH n P ops Q R S cut r (a.put o.dst v) w
 |(i,_+2)::r,a,w=>wpOpIn Fence.wide n P ops Q i (fun a' w'=>fF cut R S i w w'∧kH n P ops Q R S cut r a' w') a w
theorem qg (hs:Region.noSelect ops=y) (hQ:∀d v c a w,Q (.panic c) (Y a d v) w→Q (.panic c) a w):
  ∀(l:E (A × A)) (held:J) (listed:C J) (a:Act) (w:g),gV md ops cut l held listed=y→R w→(held=y→S w)→kH n P ops Q R S cut l a w→zk n P md ops Q (fF cut R S) l.length listed a w
 |[],_,listed,a,w,hB,_,_,h=>⟨by simpa[gV] using hB,h⟩
 |(i,0)::r,held,listed,a,w,hB,hR,hS,h=>by
  simp only[gV,z] at hB;obtain⟨⟨⟨hr,hf⟩,hh,hc⟩,hB'⟩:=hB;obtain⟨o,v,ho,hy,hn⟩:=h;have hrest:=qg hs hQ r held _ _ _ hB' hR hS hn;refine Aw (S:=fun w=>R w∧S w) ho (Region.noSelect_spec hs) (fun c a w=>hQ _ _ c a w) (fun _ h=>⟨h.1,.inr id⟩) (fun j oj hj hne hno w w' hw' hw=>⟨hw'.1,?_⟩) r.length listed a w (Region.free_spec ho hf) (by simpa using hr) hy ⟨hR,hS hh⟩ hrest;rcases hw'.2 with h1|h1
  ·exact absurd (tH hc j oj hj hno) ah
  ·exact h1 hw.2
 |(i,1)::r,held,listed,a,w,hB,hR,hS,h=>by
  simp only[gV,z] at hB;obtain⟨⟨hr,hf⟩,hB'⟩:=hB;obtain⟨o,v,ho,hy,hn⟩:=h;have hrest:=qg hs hQ r held _ _ _ hB' hR hS hn;exact Aw (S:=R) ho (Region.noSelect_spec hs) (fun c a w=>hQ _ _ c a w) (fun _ h=>⟨h,.inr id⟩) (fun j oj hj hne hno w w' hw' _=>hw'.1) r.length listed a w (Region.free_spec ho hf) (by simpa using hr) hy hR hrest
 |(i,_+2)::r,held,listed,a,w,hB,hR,hS,h=>by
  simp only[gV,z,B] at hB;obtain⟨hr,hB'⟩:=hB;refine⟨fun h0=>(by rw[hr] at h0;cases h0),fun j hj=>?_⟩;rw[hr] at hj;obtain rfl:j=i:=by simpa using hj
  exact wpOpIn_mono (fun a' w' hh=>⟨hh.1,qg hs hQ r _ _ a' w' hB' hh.1.1 (fun tV=>by
   simp only[z,B] at tV;rcases hh.1.2 with h1|h1
   ·omega
   ·exact h1 (hS tV.1)) hh.2⟩) h
theorem Dp {id:A} {a:Act} {w:g} {l:E Oper} (cut:A) (ord:E (A × A)) (R S:g→Prop) (hm:P.follows .mixedOrders=y)
  (hB:(Region.noSelect l.toArray && decide (ord.length=l.length) && gV .any l.toArray cut ord y (N l.toArray.size O))=y)
  (hR:R w.drew) (hS:S w.drew) (h:kH n P l.toArray (eX Q) R S cut ord a w.drew):(Code.region id l.toArray y).wpIn Fence.wide n P Q a w:=by
 simp only[z,B] at hB;obtain⟨⟨hs,hl⟩,ho⟩:=hB;refine wpIn_mono (Q:=eX Q) (wpIn_region_any hm (BK (T:=fF cut R S) _ _ _ _ ?_)) tJ;have:=qg (n:=n) (md:= .any) (Q:=eX Q) hs (vv Q) ord y _ a _ ho hR (fun _=>hS) h;rw[hl] at this
 simpa using this
theorem Js {a:Act} {w:g} (h:Q .normal a w):kH n P ops (eX Q) R S cut [] a w:=h
variable {l:E Oper} {a:Act} {w:g} {r:E (A × A)} {i:A} {o:Oper}
theorem adw (ho:opAt l i=G o) (hw:Region.wanted o (M l.toArray a.tmps)=y)
  (h:∃v,(∀w,R w∧S w→(execOp a.eval o).run P w= .ok (.value v) w)∧kH n P l.toArray Q R S cut r (a.put o.dst v) w):kH n P l.toArray Q R S cut ((i,0)::r) a w:=
 let⟨v,h1,h2⟩:=h
 ⟨o,v,dF _ _ _ ho,.inl ⟨hw,h1⟩,h2⟩
theorem adx (ho:opAt l i=G o) (hw:Region.wanted o (M l.toArray a.tmps)=y)
  (h:∃v,(∀w,R w→(execOp a.eval o).run P w= .ok (.value v) w)∧kH n P l.toArray Q R S cut r (a.put o.dst v) w):kH n P l.toArray Q R S cut ((i,1)::r) a w:=
 let⟨v,h1,h2⟩:=h
 ⟨o,v,dF _ _ _ ho,.inl ⟨hw,h1⟩,h2⟩
theorem Sr (ho:opAt l i=G o) (hw:Region.wanted o (M l.toArray a.tmps)=O) (hn:kH n P l.toArray Q R S cut r (a.put o.dst undef) w):kH n P l.toArray Q R S cut ((i,0)::r) a w:=
 ⟨o,undef,dF _ _ _ ho,.inr ⟨hw,rfl⟩,hn⟩
theorem Pw (ho:opAt l i=G o) (hw:Region.wanted o (M l.toArray a.tmps)=O) (hn:kH n P l.toArray Q R S cut r (a.put o.dst undef) w):kH n P l.toArray Q R S cut ((i,1)::r) a w:=
 ⟨o,undef,dF _ _ _ ho,.inr ⟨hw,rfl⟩,hn⟩
theorem Jr (ho:opAt l i=G o) (hw:Region.wanted o (M l.toArray a.tmps)=y) (h:∀K:Act→g→Prop,(∀a w,R w∧S w→kH n P l.toArray Q R S cut r a w→K a w)→o.wpIn Fence.wide n P a w K Q):
  kH n P l.toArray Q R S cut ((i,2)::r) a w:=by
 have ho':=dF _ _ _ ho;show wpOpIn _ _ _ _ _ _ _ _ _;unfold wpOpIn;simp only[ho',hw,if_true];exact h _ fun _ _ h1 h2=>⟨⟨h1.1,.inr fun _=>h1.2⟩,h2⟩
end
theorem qY {p q:Prop} (h:p) (f:p→q:=by
 intro h
 (repeat((first|refine Sr rfl rfl ?_|refine Pw rfl rfl ?_|((first|refine adw rfl rfl ?_|refine adx rfl rfl ?_);apply Exists.intro;refine⟨fun wS hS=>?_,?_⟩;(go_simp;try with_reducible rfl)));simp only[Act.put,List.setIfInBounds_toArray,List.set_cons_zero,List.set_cons_succ]))
 exact h):q:=f h
inductive OU where
 |nil
 |q (i c:A) (r:OU)
 |l (i:A) (r:OU)
 |alt (i:A) (r:OU) (j:A) (s:OU)
 |Px (i:A) (r:OU) (j:A) (s:OU) (k:A) (t:OU)
def OU.size:OU→A
 | .nil=>0
 | .q _ _ r=>r.size+1
 | .l _ r=>r.size+1
 | .alt _ r _ _=>r.size+1
 | .Px _ r _ _ _ _=>r.size+1
section
variable {P:U} {ops:C Oper} {Q:V→Act→g→Prop} {md:Region.Mode} {R S:g→Prop} {cut:A}
def jw (P:U) (ops:C Oper) (Q:V→Act→g→Prop) (R S:g→Prop) (cut:A):OU→Act→g→Prop
 | .nil,a,w=>Q .normal a w
 | .q i 0 r,a,w=>∃o v,ops[i]?=G o∧YieldsIf P ops (fun w=>R w∧S w) o v a∧jw P ops Q R S cut r (a.put o.dst v) w
 | .q i (_+1) r,a,w=>∃o v,ops[i]?=G o∧YieldsIf P ops R o v a∧jw P ops Q R S cut r (a.put o.dst v) w
 | .l i r,a,w=>wpOp P ops Q i (fun a' w'=>fF cut R S i w w'∧jw P ops Q R S cut r a' w') a w
 | .alt i r j s,a,w=>wpOp P ops Q i (fun a' w'=>fF cut R S i w w'∧jw P ops Q R S cut r a' w') a w∧wpOp P ops Q j (fun a' w'=>fF cut R S j w w'∧jw P ops Q R S cut s a' w') a w
 | .Px i r j s k t,a,w=>wpOp P ops Q i (fun a' w'=>fF cut R S i w w'∧jw P ops Q R S cut r a' w') a w∧wpOp P ops Q j (fun a' w'=>fF cut R S j w w'∧jw P ops Q R S cut s a' w') a w∧wpOp P ops Q k (fun a' w'=>fF cut R S k w w'∧jw P ops Q R S cut t a' w') a w
def kI (md:Region.Mode) (ops:C Oper) (cut:A):OU→J→C J→J
 | .nil,_,listed=>(Region.ready md ops listed).isEmpty
 | .q i 0 r,held,listed=>(Region.ready md ops listed).contains i && Region.free md ops listed i && (held && waits md ops cut i) && kI md ops cut r held (listed.setIfInBounds i y)
 | .q i (_+1) r,held,listed=>(Region.ready md ops listed).contains i && Region.free md ops listed i && kI md ops cut r held (listed.setIfInBounds i y)
 | .l i r,held,listed=>decide (Region.ready md ops listed=[i]) && kI md ops cut r (held && decide (i<cut)) (listed.setIfInBounds i y)
 | .alt i r j s,held,listed=>decide (Region.ready md ops listed=[i,j]) && decide (r.size=s.size) && kI md ops cut r (held && decide (i<cut)) (listed.setIfInBounds i y) && kI md ops cut s (held && decide (j<cut)) (listed.setIfInBounds j y)
 | .Px i r j s k t,held,listed=>decide (Region.ready md ops listed=[i,j,k]) && decide (r.size=s.size) && decide (r.size=t.size) && kI md ops cut r (held && decide (i<cut)) (listed.setIfInBounds i y) && kI md ops cut s (held && decide (j<cut)) (listed.setIfInBounds j y) && kI md ops cut t (held && decide (k<cut)) (listed.setIfInBounds k y)
theorem qh {i:A} {held:J} {w w':g} (hS:held=y→S w) (h:fF cut R S i w w') (hh:(held && decide (i<cut))=y):S w':=by
 simp only[z,B] at hh;rcases h.2 with h1|h1
 ·omega
 ·exact h1 (hS hh.1)
theorem iB (hs:Region.noSelect ops=y) (hQ:∀d v c a w,Q (.panic c) (Y a d v) w→Q (.panic c) a w):
  ∀(l:OU) (held:J) (listed:C J) (a:Act) (w:g),kI md ops cut l held listed=y→R w→(held=y→S w)→jw P ops Q R S cut l a w→mJ P md ops Q (fF cut R S) l.size listed a w
 | .nil,_,listed,a,w,hB,_,_,h=>⟨by simpa[kI] using hB,h⟩
 | .q i 0 r,held,listed,a,w,hB,hR,hS,h=>by
  simp only[kI,z] at hB;obtain⟨⟨⟨hr,hf⟩,hh,hc⟩,hB'⟩:=hB;obtain⟨o,v,ho,hy,hn⟩:=h;have hrest:=iB hs hQ r held _ _ _ hB' hR hS hn;refine jv (S:=fun w=>R w∧S w) ho (Region.noSelect_spec hs) (fun c a w=>hQ _ _ c a w) (fun _ h=>⟨h.1,.inr id⟩) (fun j oj hj hne hno w w' hw' hw=>⟨hw'.1,?_⟩) r.size listed a w (Region.free_spec ho hf) (by simpa using hr) hy ⟨hR,hS hh⟩ hrest;rcases hw'.2 with h1|h1
  ·exact absurd (tH hc j oj hj hno) ah
  ·exact h1 hw.2
 | .q i (_+1) r,held,listed,a,w,hB,hR,hS,h=>by
  simp only[kI,z] at hB;obtain⟨⟨hr,hf⟩,hB'⟩:=hB;obtain⟨o,v,ho,hy,hn⟩:=h;have hrest:=iB hs hQ r held _ _ _ hB' hR hS hn;exact jv (S:=R) ho (Region.noSelect_spec hs) (fun c a w=>hQ _ _ c a w) (fun _ h=>⟨h,.inr id⟩) (fun j oj hj hne hno w w' hw' _=>hw'.1) r.size listed a w (Region.free_spec ho hf) (by simpa using hr) hy hR hrest
 | .l i r,held,listed,a,w,hB,hR,hS,h=>by
  simp only[kI,z,B] at hB;obtain⟨hr,hB'⟩:=hB;refine⟨fun h0=>(by rw[hr] at h0;cases h0),fun j hj=>?_⟩;rw[hr] at hj;obtain rfl:j=i:=by simpa using hj
  exact wpOp_mono (fun a' w' hh=>⟨hh.1,iB hs hQ r _ _ a' w' hB' hh.1.1 (qh hS hh.1) hh.2⟩) h
 | .alt i r k s,held,listed,a,w,hB,hR,hS,h=>by
  simp only[kI,z,B] at hB;obtain⟨⟨⟨hr,hz⟩,hB1⟩,hB2⟩:=hB;refine⟨fun h0=>(by rw[hr] at h0;cases h0),fun j hj=>?_⟩;rw[hr] at hj;rcases(by simpa using hj:j=i∨j=k) with rfl|rfl
  ·exact wpOp_mono (fun a' w' hh=>⟨hh.1,iB hs hQ r _ _ a' w' hB1 hh.1.1 (qh hS hh.1) hh.2⟩) h.1
  ·refine wpOp_mono (fun a' w' hh=>⟨hh.1,?_⟩) h.2
   have:=iB hs hQ s _ _ a' w' hB2 hh.1.1 (qh hS hh.1) hh.2;show mJ P md ops Q (fF cut R S) r.size _ a' w';rw[hz];exact this
 | .Px i r k s m t,held,listed,a,w,hB,hR,hS,h=>by
  simp only[kI,z,B] at hB;obtain⟨⟨⟨⟨⟨hr,hz⟩,hy⟩,hB1⟩,hB2⟩,hB3⟩:=hB;refine⟨fun h0=>(by rw[hr] at h0;cases h0),fun j hj=>?_⟩;rw[hr] at hj;rcases(by simpa using hj:j=i∨j=k∨j=m) with rfl|rfl|rfl
  ·exact wpOp_mono (fun a' w' hh=>⟨hh.1,iB hs hQ r _ _ a' w' hB1 hh.1.1 (qh hS hh.1) hh.2⟩) h.1
  ·refine wpOp_mono (fun a' w' hh=>⟨hh.1,?_⟩) h.2.1
   have:=iB hs hQ s _ _ a' w' hB2 hh.1.1 (qh hS hh.1) hh.2;show mJ P md ops Q (fF cut R S) r.size _ a' w';rw[hz];exact this
  ·refine wpOp_mono (fun a' w' hh=>⟨hh.1,?_⟩) h.2.2
   have:=iB hs hQ t _ _ a' w' hB3 hh.1.1 (qh hS hh.1) hh.2;show mJ P md ops Q (fF cut R S) r.size _ a' w';rw[hy];exact this
variable {l:E Oper} {a:Act} {w:g} {r s t:OU} {i j:A} {o:Oper}
theorem ady (ho:opAt l i=G o) (hw:Region.wanted o (M l.toArray a.tmps)=y)
  (h:∃v,(∀w,R w∧S w→(execOp a.eval o).run P w= .ok (.value v) w)∧jw P l.toArray Q R S cut r (a.put o.dst v) w):jw P l.toArray Q R S cut (.q i 0 r) a w:=
 let⟨v,h1,h2⟩:=h
 ⟨o,v,dF _ _ _ ho,.inl ⟨hw,h1⟩,h2⟩
theorem adz (ho:opAt l i=G o) (hw:Region.wanted o (M l.toArray a.tmps)=y)
  (h:∃v,(∀w,R w→(execOp a.eval o).run P w= .ok (.value v) w)∧jw P l.toArray Q R S cut r (a.put o.dst v) w):jw P l.toArray Q R S cut (.q i 1 r) a w:=
 let⟨v,h1,h2⟩:=h
 ⟨o,v,dF _ _ _ ho,.inl ⟨hw,h1⟩,h2⟩
theorem jP (ho:opAt l i=G o) (hw:Region.wanted o (M l.toArray a.tmps)=y) (h:∀K:Act→g→Prop,(∀a w,R w∧S w→jw P l.toArray Q R S cut r a w→K a w)→o.wp P a w K Q):
  wpOp P l.toArray Q i (fun a' w'=>fF cut R S i w w'∧jw P l.toArray Q R S cut r a' w') a w:=by
 have ho':=dF _ _ _ ho;unfold wpOp;simp only[ho',hw,if_true];exact .inl (h _ fun _ _ h1 h2=>⟨⟨h1.1,.inr fun _=>h1.2⟩,h2⟩)
theorem kX (ho:opAt l i=G o) (hw:Region.wanted o (M l.toArray a.tmps)=y) (h:∀K:Act→g→Prop,(∀a w,R w∧S w→jw P l.toArray Q R S cut r a w→K a w)→o.wp P a w K Q):
  jw P l.toArray Q R S cut (.l i r) a w:=jP ho hw h
end
theorem qU {p q:Prop} (h:p) (f:p→q:=by
 intro h
 (repeat((first|refine ady rfl rfl ?_|refine adz rfl rfl ?_);apply Exists.intro;refine⟨fun wS hS=>?_,?_⟩;(go_simp;try with_reducible rfl);simp only[Act.put,List.setIfInBounds_toArray,List.set_cons_zero,List.set_cons_succ]))
 exact h):q:=f h
section
variable {P:U} {ops:C Oper} {Q:V→Act→g→Prop} {R S:g→Prop} {cut:A} {RP:E PanicEntry→g→Prop} {D:E Deferred}
theorem sH {id:A} {a:Act} {w:g} {l:E Oper} (cut:A) (ord:OU) (R S:g→Prop) (RP:E PanicEntry→g→Prop) (hm:P.follows .mixedOrders=y)
  (hB:(Region.noSelect l.toArray && decide (ord.size=l.length) && kI .any l.toArray cut ord y (N l.toArray.size O))=y)
  (hP:∀c a' w',a'.defers=a.defers→RP c w'→Q (.panic c) a' w')
  (hR:R w.drew) (hS:S w.drew) (h:jw P l.toArray (rD Q a.defers RP) R S cut ord a w.drew):(Code.region id l.toArray y).wp P Q a w:=by
 simp only[z,B] at hB;obtain⟨⟨hs,hl⟩,ho⟩:=hB;refine wp_mono (Q:=rD Q a.defers RP) (wp_region_any hm (kN (T:=fF cut R S) _ _ _ _ ?_)) (FY hP);have:=iB (md:= .any) (Q:=rD Q a.defers RP) hs KR ord y _ a _ ho hR (fun _=>hS) h;rw[hl] at this
 simpa using this
theorem AQ {a:Act} {w:g} (h:Q .normal a w):jw P ops (rD Q D RP) R S cut .nil a w:=h
end
section
variable {P:U} {ops:C Oper} {Q:V→Act→g→Prop} {md:Region.Mode} {R S:g→Prop} {cut:A} {RP:E PanicEntry→g→Prop} {D:E Deferred}
theorem qi (hs:Region.noSelect ops=y) (hQ:∀(i:A) (o:Oper),ops[i]?=G o→∀v c a w,Q (.panic c) (Y a o.dst v) w→Q (.panic c) a w):
  ∀(l:E (A × A)) (held:J) (listed:C J) (a:Act) (w:g),gV md ops cut l held listed=y→R w→(held=y→S w)→gH P ops Q R S cut l a w→mJ P md ops Q (fF cut R S) l.length listed a w
 |[],_,listed,a,w,hB,_,_,h=>⟨by simpa[gV] using hB,h⟩
 |(i,0)::r,held,listed,a,w,hB,hR,hS,h=>by
  simp only[gV,z] at hB;obtain⟨⟨⟨hr,hf⟩,hh,hc⟩,hB'⟩:=hB;obtain⟨o,v,ho,hy,hn⟩:=h;have hrest:=qi hs hQ r held _ _ _ hB' hR hS hn;refine jv (S:=fun w=>R w∧S w) ho (Region.noSelect_spec hs) (fun c a w=>hQ i o ho _ c a w) (fun _ h=>⟨h.1,.inr id⟩) (fun j oj hj hne hno w w' hw' hw=>⟨hw'.1,?_⟩) r.length listed a w (Region.free_spec ho hf) (by simpa using hr) hy ⟨hR,hS hh⟩ hrest;rcases hw'.2 with h1|h1
  ·exact absurd (tH hc j oj hj hno) ah
  ·exact h1 hw.2
 |(i,1)::r,held,listed,a,w,hB,hR,hS,h=>by
  simp only[gV,z] at hB;obtain⟨⟨hr,hf⟩,hB'⟩:=hB;obtain⟨o,v,ho,hy,hn⟩:=h;have hrest:=qi hs hQ r held _ _ _ hB' hR hS hn;exact jv (S:=R) ho (Region.noSelect_spec hs) (fun c a w=>hQ i o ho _ c a w) (fun _ h=>⟨h,.inr id⟩) (fun j oj hj hne hno w w' hw' _=>hw'.1) r.length listed a w (Region.free_spec ho hf) (by simpa using hr) hy hR hrest
 |(i,_+2)::r,held,listed,a,w,hB,hR,hS,h=>by
  simp only[gV,z,B] at hB;obtain⟨hr,hB'⟩:=hB;refine⟨fun h0=>(by rw[hr] at h0;cases h0),fun j hj=>?_⟩;rw[hr] at hj;obtain rfl:j=i:=by simpa using hj
  exact wpOp_mono (fun a' w' hh=>⟨hh.1,qi hs hQ r _ _ a' w' hB' hh.1.1 (fun tV=>by
   simp only[z,B] at tV;rcases hh.1.2 with h1|h1
   ·omega
   ·exact h1 (hS tV.1)) hh.2⟩) h
def Ab (Q:V→Act→g→Prop) (D:E Deferred) (t:A) (x:Value) (RP:E PanicEntry→g→Prop):V→Act→g→Prop
 | .outgrown,_,_=>False
 | .panic c,a,w=>a.defers=D∧a.tmps[t]?=G x∧RP c w
 | .normal,a,w=>Q .normal a w
 | .ret,a,w=>Q .ret a w
 | .exit id,a,w=>Q (.exit id) a w
 | .goto t,a,w=>Q (.goto t) a w
theorem VY {t:A} {x:Value} (hP:∀c a w,a.defers=D→a.tmps[t]?=G x→RP c w→Q (.panic c) a w) (e:V) (a:Act) (w:g) (h:Ab Q D t x RP e a w):Q e a w:=by
 cases e <;> first|exact h|exact h.elim|exact hP _ _ _ h.1 h.2.1 h.2.2
theorem ZF {t:A} {x:Value} {o:Oper} (ho:o.dst≠G t):∀v c a w,Ab Q D t x RP (.panic c) (Y a o.dst v) w→Ab Q D t x RP (.panic c) a w:=fun v c a w h=>by
 cases hd:o.dst with
 |none=>rw[hd] at h;exact h
 |some d=>
  rw[hd] at h;obtain⟨h1,h2,h3⟩:=h;refine⟨h1,?_,h3⟩;have hne:d≠t:=fun e=>ho (by rw[hd,e])
  have e:(Y a (G d) v).tmps[t]?=a.tmps[t]?:=by
   show(a.tmps.setIfInBounds d v)[t]?=_;rw[Array.getElem?_setIfInBounds_ne hne]
  rw[←e];exact h2
theorem Eh {id:A} {a:Act} {w:g} {l:E Oper} (t:A) (x:Value) (cut:A) (ord:E (A × A)) (R S:g→Prop) (RP:E PanicEntry→g→Prop) (hm:P.follows .mixedOrders=y)
  (hB:(Region.noSelect l.toArray && decide (ord.length=l.length) && gV .any l.toArray cut ord y (N l.toArray.size O))=y) (hD:l.all (fun o=>decide (o.dst≠G t))=y)
  (hP:∀c a' w',a'.defers=a.defers→a'.tmps[t]?=G x→RP c w'→Q (.panic c) a' w')
  (hR:R w.drew) (hS:S w.drew) (h:gH P l.toArray (Ab Q a.defers t x RP) R S cut ord a w.drew):(Code.region id l.toArray y).wp P Q a w:=by
 simp only[z,B] at hB;obtain⟨⟨hs,hl⟩,ho⟩:=hB;refine wp_mono (Q:=Ab Q a.defers t x RP) (wp_region_any hm (kN (T:=fF cut R S) _ _ _ _ ?_)) (VY hP);have:=qi (md:= .any) (Q:=Ab Q a.defers t x RP) hs (fun i o hi=>ZF (by
  have hm:o∈l:=by
   have:=Array.mem_of_getElem? hi
   simpa using this
  exact of_decide_eq_true (List.all_eq_true.1 hD o hm))) ord y _ a _ ho hR (fun _=>hS) h
 rw[hl] at this
 simpa using this
theorem Qk {a:Act} {w:g} {t:A} {x:Value} (h:Q .normal a w):gH P ops (Ab Q D t x RP) R S cut [] a w:=h
end
section
variable {P:U} {ops:C Oper} {Q:V→Act→g→Prop} {md:Region.Mode} {R S:g→Prop} {cut:A} {RP:E PanicEntry→g→Prop} {D:E Deferred}
def Py (md:Region.Mode) (ops:C Oper) (i d:A):J:=match ops[i]? with
 |some o=>o.after.any (fun e=>Region.binds md e && e.on==d)
 |none=>O
def Cj (ops:C Oper):J:=(List.range ops.size).all fun i=>match ops[i]? with
 |some o=>o.after.all (fun e=>decide (e.on<i))
 |none=>y
theorem Pz (h:Cj ops=y) {i:A} {o:Oper} (ho:ops[i]?=G o):∀e∈o.after,e.on<i:=fun e he=>by
 have hlt:i<ops.size:=(X.1 ho).1;have:=List.all_eq_true.1 h i (List.mem_range.2 hlt);simp only[ho,Array.all_eq_true_iff_forall_mem,B] at this;exact this e he
theorem VZ (hdn:Cj ops=y) {listed:C J} (hz:listed.size=ops.size) (hr:Region.ready md ops listed=[]):∀j,listed.getD j y=y:=by
 intro j
 induction j using Nat.strongRecOn with
 |_ j ih=>
  rcases Nat.lt_or_ge j ops.size with hj|hj
  ·cases hc:listed.getD j y with
   |true=>rfl
   |false=>
    have:j∈Region.ready md ops listed:=mem_ready.2 ⟨hc,ops[j],Array.getElem?_eq_getElem hj,fun e he _=>by
     have hlt:=Pz hdn (Array.getElem?_eq_getElem hj) e he;have h1:=ih e.on hlt;have h2:e.on<listed.size:=by omega
     simp only[Array.getD_eq_getD_getElem?,Array.getElem?_eq_getElem h2,Option.getD_some] at h1 ⊢;exact h1⟩
    rw[hr] at this;cases this
  ·simp[W (show listed.size≤j by omega)]
def yc (l:C J):A:=l.toList.countP (fun b=>!b)
theorem BL {l:C J} {i:A} (h:l.getD i y=O):yc (l.setIfInBounds i y)+1=yc l:=by
 have hi:i<l.size:=by
  rcases Nat.lt_or_ge i l.size with h'|h'
  ·exact h'
  ·simp[W h'] at h
 have hv:l.toList[i]'(by simpa using hi)=O:=by simpa[hi] using h
 unfold yc;rw[Array.toList_setIfInBounds,List.set_eq_take_append_cons_drop,if_pos (by simpa using hi)];have e:l.toList=l.toList.take i++O::l.toList.drop (i+1):=by
  rw[←hv,List.getElem_cons_drop,List.take_append_drop]
 conv=>rhs;rw[e]
 simp only[List.countP_append,List.countP_cons];simp;omega
def Yl (P:U) (ops:C Oper) (Q:V→Act→g→Prop) (md:Region.Mode) (I:(A→J)→Act→g→Prop):Prop:=
 ∀i L a w,i<ops.size→L i=O→(∀d,Py md ops i d=y→L d=y)→I L a w→wpOp P ops Q i (fun a' w'=>I (fun j=>j==i||L j) a' w') a w
theorem GZ {l:C J} {i:A} (hi:i<l.size):(fun j=>(l.setIfInBounds i y).getD j y)=(fun j=>j==i||l.getD j y):=by
 funext j
 by_cases h:i=j
 ·subst h;simp[hi]
 ·rw[getD_set_ne y h]
  have:(j==i)=O:=beq_eq_false_iff_ne.2 (Ne.symm h);rw[this];rfl
theorem E5 {I:(A→J)→Act→g→Prop} (hdn:Cj ops=y) (hR:∀L a w,I L a w→R w)
  (hend:∀L a w,(∀j,L j=y)→I L a w→Q .normal a w) (hstep:Yl P ops Q md I):
  ∀(fuel:A) (listed:C J) (a:Act) (w:g),listed.size=ops.size→yc listed≤fuel→I (fun j=>listed.getD j y) a w→mJ P md ops Q (fun _ _ w'=>R w') fuel listed a w
 |0,listed,a,w,hz,hf,h=>by
  have h0:∀j,listed.getD j y=y:=fun j=>by
   cases hc:listed.getD j y with
   |true=>rfl
   |false=>have:=BL hc;omega
  refine⟨?_,hend _ a w h0 h⟩
  cases hr:Region.ready md ops listed with
  |nil=>rfl
  |cons i r=>
   have:=(mem_ready.1 (show i∈Region.ready md ops listed by rw[hr];exact List.mem_cons_self)).1;rw[h0 i] at this;cases this
 |fuel+1,listed,a,w,hz,hf,h=>by
  refine⟨fun hr=>hend _ a w (VZ hdn hz hr) h,fun i hi=>?_⟩;obtain⟨h1,o,ho,hw⟩:=mem_ready.1 hi;have hlt:i<ops.size:=(X.1 ho).1;refine wpOp_mono (fun a' w' hh=>⟨hR _ _ _ hh,?_⟩) (hstep i _ a w hlt h1 (fun d hd=>?_) h)
  ·refine E5 hdn hR hend hstep fuel _ a' w' (by simpa using hz) (by have:=BL h1;omega) ?_
   rw[GZ ah];exact hh
  ·unfold Py at hd
   simp only[ho,Array.any_eq_true,z,beq_iff_eq] at hd;obtain⟨k,hk,hb,he⟩:=hd;have:=hw _ (Array.getElem_mem hk) hb;rw[he] at this;rcases Nat.lt_or_ge d listed.size with h'|h'
   ·simpa[h'] using this
   ·simp[W h']
def wY (P:U) (ops:C Oper) (R:g→Prop) (Z:Act→g→Prop):E A→Act→g→Prop
 |[],a,w=>Z a w
 |i::r,a,w=>∃o v,ops[i]?=G o∧YieldsIf P ops R o v a∧wY P ops R Z r (a.put o.dst v) w
def BM (md:Region.Mode) (ops:C Oper):E A→C J→J
 |[],_=>y
 |i::r,listed=>(Region.ready md ops listed).contains i && Region.free md ops listed i && BM md ops r (listed.setIfInBounds i y)
structure II (P:U) (ops:C Oper) (Q:V→Act→g→Prop) (R:g→Prop) (pre:E A) (a:Act) (w:g) (I:(A→J)→Act→g→Prop):Prop where
 r:∀L a w,I L a w→R w
 start:I (fun j=>pre.contains j||decide (ops.size≤j)) a w
 stop:∀L a w,(∀j,L j=y)→I L a w→Q .normal a w
 step:Yl P ops Q .any I
theorem yJ (hs:Region.noSelect ops=y) (hQ:∀d v c a w,Q (.panic c) (Y a d v) w→Q (.panic c) a w) (hdn:Cj ops=y) {pre:E A}:
  ∀(l done:E A) (listed:C J) (a:Act) (w:g),done++l=pre→listed.size=ops.size→(∀j,listed.getD j y=(done.contains j||decide (ops.size≤j)))→BM .any ops l listed=y→R w→wY P ops R (fun a w=>∃I,II P ops Q R pre a w I) l a w→mJ P .any ops Q (fun _ _ w'=>R w') (yc listed) listed a w
 |[],done,listed,a,w,hp,hz,hL,_,_,⟨I,h⟩=>by
  refine E5 hdn h.r h.stop h.step _ listed a w hz (Nat.le_refl _) ?_;rw[funext hL,show done=pre by rw[←hp,List.append_nil]];exact h.start
 |i::r,done,listed,a,w,hp,hz,hL,hB,hR,h=>by
  simp only[BM,z] at hB;obtain⟨⟨hr,hf⟩,hB'⟩:=hB;obtain⟨o,v,ho,hy,hn⟩:=h;have hlt:i<ops.size:=(X.1 ho).1;have h1:listed.getD i y=O:=(mem_ready.1 (by simpa using hr:i∈Region.ready .any ops listed)).1;have hrest:=yJ hs hQ hdn r (done++[i]) (listed.setIfInBounds i y) _ _ (by rw[←hp,List.append_assoc];rfl) (by simpa using hz) (fun j=>by
   have e:=congrFun (GZ (l:=listed) (i:=i) ah) j;rw[e,hL j];by_cases hj:j=i
   ·subst hj;simp
   ·simp[hj]) hB' hR hn
  have:=jv (S:=R) ho (Region.noSelect_spec hs) (fun c a w=>hQ _ _ c a w) (fun _ h=>h) (fun j oj hj hne hno w w' hw' _=>hw') (yc (listed.setIfInBounds i y)) listed a w (Region.free_spec ho hf) (by simpa using hr) hy hR hrest;rw[BL h1] at this;exact this
theorem KT:∀n:A,yc (N n O)=n:=fun n=>by
 unfold yc;rw[Array.toList_replicate,List.countP_replicate];simp
theorem FZ {id:A} {a:Act} {w:g} {l:E Oper} (pre:E A) (R:g→Prop) (RP:E PanicEntry→g→Prop) (hm:P.follows .mixedOrders=y)
  (hB:(Region.noSelect l.toArray && Cj l.toArray && BM .any l.toArray pre (N l.toArray.size O))=y)
  (hP:∀c a' w',a'.defers=a.defers→RP c w'→Q (.panic c) a' w')
  (hR:R w.drew) (h:wY P l.toArray R (fun a' w'=>∃I,II P l.toArray (rD Q a.defers RP) R pre a' w' I) pre a w.drew):(Code.region id l.toArray y).wp P Q a w:=by
 simp only[z] at hB;obtain⟨⟨hs,hd⟩,ho⟩:=hB;refine wp_mono (Q:=rD Q a.defers RP) (wp_region_any hm (kN (T:=fun _ _ w'=>R w') _ _ _ _ ?_)) (FY hP);have:=yJ (Q:=rD Q a.defers RP) hs KR hd pre [] _ a _ rfl ak (fun j=>by
  rcases Nat.lt_or_ge j l.toArray.size with hj|hj
  ·simp at hj;simp[hj]
  ·simp at hj;simp[hj]) ho hR h
 rw[KT] at this;exact this
theorem D7 {k n id:A} {a:Act} {w:g} {l:E Oper} (pre:E A) (R:g→Prop) (hm:P.follows .mixedOrders=y)
  (hB:(Region.noSelect l.toArray && Cj l.toArray && BM .any l.toArray pre (N l.toArray.size O))=y) (hd:FX l=y)
  (hR:R w.drew) (h:wY P l.toArray R (fun a' w'=>∃I,II P l.toArray (eX Q) R pre a' w' I) pre a w.drew):(Code.region id l.toArray y).wpIn (Fence.wide.inRound k) n P Q a w:=by
 simp only[z] at hB;obtain⟨⟨hs,hdn⟩,ho⟩:=hB;refine wpIn_mono (Q:=eX Q) (wpIn_region_draw fun t=>?_) tJ;simp only[Region.schedule,hm,Bool.true_or,if_true];refine EY (BI hd) (EZ Q) _ _ _ (wpAny_sound _ t _ a _ (kN (T:=fun _ _ w'=>R w') _ _ _ _ ?_));have:=yJ (Q:=eX Q) hs (vv Q) hdn pre [] _ a _ rfl ak (fun j=>by
  rcases Nat.lt_or_ge j l.toArray.size with hj|hj
  ·simp at hj;simp[hj]
  ·simp at hj;simp[hj]) ho hR h
 rw[KT] at this;exact this
theorem ZB {a:Act} {w:g} (h:Q .normal a w):eX Q .normal a w:=h
def qR (a:Act):E (Tmp × Value)→Act
 |[]=>a
 |(d,v)::r=>qR (a.put (G d) v) r
theorem Sk {pre:E A} {a:Act} {w:g} (F:Act→(A→J)→Act→g→Prop) (h1:∀L a' w',F a L a' w'→R w') (h2:F a (fun j=>pre.contains j||decide (ops.size≤j)) a w)
  (h3:∀L a' w',(∀j,L j=y)→F a L a' w'→Q .normal a' w')
  (h4:∀i L a' w',i<ops.size→L i=O→(∀d,Py .any ops i d=y→L d=y)→F a L a' w'→wpOp P ops Q i (fun a' w'=>F a (fun j=>j==i||L j) a' w') a' w'):
  wY P ops R (fun a' w'=>∃I,II P ops Q R pre a' w' I) [] a w:=⟨F a,h1,h2,h3,h4⟩
theorem aiz {a:Act} {w:g} (h:Q .normal a w):rD Q D RP .normal a w:=h
variable {l:E Oper} {a:Act} {w:g} {r:E A} {i:A} {o:Oper} {Z:Act→g→Prop}
theorem KU (ho:opAt l i=G o) (hw:Region.wanted o (M l.toArray a.tmps)=y)
  (h:∃v,(∀w,R w→(execOp a.eval o).run P w= .ok (.value v) w)∧wY P l.toArray R Z r (a.put o.dst v) w):wY P l.toArray R Z (i::r) a w:=
 let⟨v,h1,h2⟩:=h
 ⟨o,v,dF _ _ _ ho,.inl ⟨hw,h1⟩,h2⟩
theorem uz {Z:Act→g→Prop} (ho:opAt l i=G o) (hw:Region.wanted o (M l.toArray a.tmps)=y) (h:∀K:Act→g→Prop,(∀a w,Z a w→K a w)→o.wp P a w K Q):wpOp P l.toArray Q i Z a w:=by
 have ho':=dF _ _ _ ho;unfold wpOp;simp only[ho',hw,if_true];exact .inl (h _ fun _ _ h=>h)
end
theorem qV {p q:Prop} (h:p) (f:p→q:=by
 intro h
 (repeat(refine KU rfl rfl ?_;apply Exists.intro;refine⟨fun wS hS=>?_,?_⟩;(go_simp;try with_reducible rfl);simp only[Act.put,List.setIfInBounds_toArray,List.set_cons_zero,List.set_cons_succ]))
 exact h):q:=f h
end Yd
