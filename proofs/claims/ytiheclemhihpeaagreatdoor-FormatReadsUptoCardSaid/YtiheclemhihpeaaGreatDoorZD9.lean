import Derived.Test.YtiheclemhihpeaaGreatDoorZD5
import Derived.Test.YtiheclemhihpeaaGreatDoorZOf2
import Derived.Test.YtiheclemhihpeaaGreatDoorZRRx
import Derived.Test.YtiheclemhihpeaaGreatDoorZCuE
set_option linter.all false
set_option maxRecDepth 200000
set_option maxHeartbeats 8000000
namespace Yd
open Option renaming none->C,some->G
open Go Go.RowKit Go.Proofs Tryz
open Go.Value renaming slice->D
open Yd renaming hid->F
attribute [local go_sem] Oper.semAt_some
theorem aaS{p:Prop}(h:p:=by simp[results,results19,go_sem,θ]):p:=h
def NV (h:HC)(c:Cont)(X:World):Prop:=Calls Tryz.prog 38 #[fB h] X (λe Y=>Below X.1.size X Y/\
 ∃a es ds ms,∃b:EvC->List Sn,∃f:aO->List Int,∃g:aP->List Int,e= .returned (fB a)/\gU Y X.1.size a (fG c) es ds ms b f g)
@[reducible] def zH:Array Value:=#[D C 0 0,D C 0 0,D C 0 0,D C 0 0,D C 0 0,D C 0 0,D C 0 0,D C 0 0,.bool true]
theorem jo.start (a:World):jo (a.alloc (.cells zH 95)) a.1.size zH iD [] [] [] true:=by
 have b:∀{α:Type}{g:α->List Value}{k:Nat}{T:TypeId},Own (a.alloc (.cells zH 95)) (a.1.size+1) T k g (D C 0 0) []:=Own.eH _ _ _ _ _;refine⟨⟨⟨Bx.new a _ _,λk h=>⟨D C 0 0,?_,b⟩,trivial⟩,⟨_,rfl,b⟩,⟨_,rfl,b⟩,⟨_,rfl,b⟩,⟨_,rfl,b⟩,rfl,rfl,rfl,⟨rfl,λi x f e=>(by cases e)⟩,⟨rfl,λi x f e=>(by cases e)⟩,⟨rfl,λi x f e=>(by cases e)⟩⟩,rfl,rfl⟩;rcases(by omega:k=0\/k=1\/k=2\/k=3) with rfl|rfl|rfl|rfl <;> rfl
theorem Ec {X:World}{b:Nat}(a:Bx X b (aI gL)):Bx ((((((((X.setCell ⟨b,0,C⟩ (D C 0 0)).setCell ⟨b,1,C⟩ (D C 0 0)).setCell ⟨b,2,C⟩ (D C 0 0)).setCell ⟨b,3,C⟩ (D C 0 0)).setCell ⟨b,4,C⟩ (D C 0 0)).setCell ⟨b,5,C⟩ (D C 0 0)).setCell ⟨b,6,C⟩ (D C 0 0)).setCell ⟨b,7,C⟩ (D C 0 0)) b (aI gL)/\Same (λi=>i≠b) X ((((((((X.setCell ⟨b,0,C⟩ (D C 0 0)).setCell ⟨b,1,C⟩ (D C 0 0)).setCell ⟨b,2,C⟩ (D C 0 0)).setCell ⟨b,3,C⟩ (D C 0 0)).setCell ⟨b,4,C⟩ (D C 0 0)).setCell ⟨b,5,C⟩ (D C 0 0)).setCell ⟨b,6,C⟩ (D C 0 0)).setCell ⟨b,7,C⟩ (D C 0 0)):=
 ⟨lI (h':=gL) a,iT (h':=gL)⟩
theorem XC (ω:∀(X:World)(B:Nat)(h:HC)(c:Cont)(es:List EvC)(ds:List aO)(ms:List aP)(ν:EvC->List Sn)(dn:aO->List Int)(mn:aP->List Int),gU X B h c es ds ms ν dn mn->gX c->aR c->NV h c X)
  (a:Option Addr) (c:Nat) (u:List aW) (z:List aK) (B0:Nat) (w:World) (hr:Row w 6 mZ a u.length c u) (hl:pW w B0 u z) (j:∀s∈z,s.names.length<=1000/\s.aM.length<=1000):
  Calls Tryz.prog 19 #[D a u.length c] w (PX w z):=by
 have z9:u.length<=140737488355328:=hr.le;have HR:=F hr;have HL:=F hl;have q1:=F j;have Γ:=F hl.1;have q2:=F ω;clear hr hl j ω;have q3:=F (aB (aB (Below.refl w.1.size w) (.cells (aI gL) 41)) (.cells zH 95));have q4:=F ((Bx.new w (aI gL) 41).alloc (.cells zH 95));have A:=jo.start (w.alloc (.cells (aI gL) 41));rw[World.size_alloc] at A;have q5:=F A;clear A;go_enter Tryz.func19,Tryz.ntmps19;go_wp2_with fail
 go_loopw [12] (λi X=>∃(k:Nat)(cs:Array Value)(l:Cont)(es:List EvC)(ds:List aO)(ms:List aP),k<=u.length/\i= .int .i64 k/\Below w.1.size w X/\Bx X w.1.size (aI gL)/\jo X (w.1.size+1) cs l es ds ms true/\aR l/\gX l/\qD iD 0 z=qD l k (z.drop k)) (λi _=>u.length - (RowKit.intOf i).toNat)
 case atStart=>exact⟨0,_,iD,[],[],[],aS _,rfl,q3.q,q4.q,q5.q,zJ,gX.zero,by rw[List.drop_zero]⟩
 case round=>
  obtain⟨k,cs,l,es,ds,ms,hk,rfl,j,Q,A,hf,β,R⟩:=hrel;have r:=F j;have ξ:=F Q;have q6:=F A;have HF:=F hf;have q7:=F β;have Δ:Hid (w.1.size+1<wr.1.size):=F A.s.t.b.2.2;by_cases q8:k<u.length
  .obtain⟨x,b,o,hx,rfl,K⟩:=HR.q.at_ q8
   have h0:=aZ j rfl (K 0 _ rfl);have h1:=aZ j rfl (K 1 _ rfl);have n:=aZ j rfl (K 2 _ rfl);have h3:=aZ j rfl (K 3 _ rfl);have h4:=aZ j rfl (K 4 _ rfl);have h5:=aZ j rfl (K 5 _ rfl);simp only[bK] at h0;obtain⟨s,hs,ο⟩:=HL.q.2 k x hx;have γ:=q1.q s (bS hs);have Θ:z.drop k=s::z.drop (k+1):=by
    obtain⟨q9,e⟩:=bq.1 hs;rw[<-e];exact jV q9
   rw[Θ] at R;have S:Hid (qD iD 0 z=if lg s=true then(if sI (aT l s)=true then qD (aT l s) (k+1) (z.drop (k+1)) else .error (k,6)) else .error (k,220)):=F R;have π:=aB (Below.refl wr.1.size wr) (.cells (bJ x) 34);have ι:=F π;have ρ:=F (FE (ο.below (r.q.trans (π.mono j.size))) γ.1 γ.2);have Ξ:Hid (∀W,Below wr.1.size wr W->lg s=true->Calls Tryz.prog 37 #[.pointer (G ⟨w.1.size+1,0,C⟩),dH x] W (NW (w.1.size+1) (aT l s) W)):=F (λW hW δ=>
    Wo x s W (q6.q.below hW) HF.q ((ο.Xh γ.1 γ.2 (Nat.le_succ w.1.size)).below (r.q.bL hW)) (vJ δ))
   obtain⟨ok,δ⟩:∃ok,ok=lg s:=⟨_,rfl⟩;rw[<-δ] at ρ S Ξ;have ε:=Q.1;have ζ:=Q.2.1;have η:=Q.2.2;have j0:Hid (ok=true->s.kind=0\/fo s):=F (λe=>vJ (by rw[<-δ];exact e));clear j Q A hf β R Θ γ ο hs hx K δ π
   cases ok
   .go_wp2_with fail
    refine ρ.q.mono ?_;rintro e w1 ⟨rfl,T⟩;have P:=F (ι.q.bL T);have g:=F (ξ.q.keep P.q);clear ε ζ η T;have ε:=g.q.1;have ζ:=g.q.2.1;have η:=g.q.2.2;go_wp2_with fail;obtain⟨t,p⟩:=Ec g.q;revert t p;generalize((((((((w1.setCell ⟨w.1.size,0,C⟩ (D C 0 0)).setCell ⟨w.1.size,1,C⟩ (D C 0 0)).setCell ⟨w.1.size,2,C⟩ (D C 0 0)).setCell ⟨w.1.size,3,C⟩ (D C 0 0)).setCell ⟨w.1.size,4,C⟩ (D C 0 0)).setCell ⟨w.1.size,5,C⟩ (D C 0 0)).setCell ⟨w.1.size,6,C⟩ (D C 0 0)).setCell ⟨w.1.size,7,C⟩ (D C 0 0))=Z;intro t p;have θ:=t.1;have Φ:=r.q.trans (P.q.mono r.q.size);refine bodyPost_ret (v:= .tuple #[fB gL,.int .i64 (k:Int),.int .i64 220]) aaS rfl ⟨p.below Φ (λi hi=>by omega) Φ.size,?_⟩;rw[S.q,ay aj]
   .clear ε ζ η
    go_wp2_with fail;refine ρ.q.mono ?_;rintro e w1 ⟨rfl,T⟩;have P:=F (ι.q.bL T);have j1:=((Bx.new wr (bJ x) 34).keep T).1;clear T;go_wp2_with fail;refine(Ξ.q _ P.q (by trivial)).mono ?_;rintro e w2 ⟨rfl,hS,j2,σ,τ,υ,g2,κ,φ⟩;have j3:=F κ;have j4:=F φ;have g:=F (hS.bx (ξ.q.keep P.q) ah);have α:Hid (Below w.1.size w w2):=F (hS.below (r.q.trans (P.q.mono r.q.size)) (λi hi=>by omega) (r.q.trans (P.q.mono r.q.size)).size);obtain⟨f,χ⟩:∃f,f=sI (aT l s):=⟨_,rfl⟩;have h8:w2.cell? ⟨w.1.size+1,8,C⟩=G (.bool f):=by rw[χ,<-φ];exact(κ.s.t.b.1 8).trans κ.k
    have μ:=F χ;clear hS κ φ j1 χ
    cases f
    .have ε:=g.q.1;have ζ:=g.q.2.1;have η:=g.q.2.2
     go_wp2_with fail;obtain⟨t,p⟩:=Ec g.q;revert t p;generalize((((((((w2.setCell ⟨w.1.size,0,C⟩ (D C 0 0)).setCell ⟨w.1.size,1,C⟩ (D C 0 0)).setCell ⟨w.1.size,2,C⟩ (D C 0 0)).setCell ⟨w.1.size,3,C⟩ (D C 0 0)).setCell ⟨w.1.size,4,C⟩ (D C 0 0)).setCell ⟨w.1.size,5,C⟩ (D C 0 0)).setCell ⟨w.1.size,6,C⟩ (D C 0 0)).setCell ⟨w.1.size,7,C⟩ (D C 0 0))=Z;intro t p;have θ:=t.1;refine bodyPost_ret (v:= .tuple #[fB gL,.int .i64 (k:Int),.int .i64 6]) aaS rfl ⟨p.below α.q (λi hi=>by omega) α.q.size,?_⟩;rw[S.q,aA trivial,<-μ.q,ay aj]
    .have j5:Hid (g2=true):=F (by have:=j4.q;rw[<-μ.q] at this;cases g2 <;> simp_all)
     have Ψ:Hid (aR (aT l s)):=F ((lG _).1 μ.q.symm);go_wp2_with fail;go_roundw
     case rel=>exact⟨k+1,j2,aT l s,σ,τ,υ,by omega,by go_num,α.q,g.q,by have:=j3.q;rw[j5.q] at this;exact this,Ψ.q,q7.q.all [s] (λy hy=>by rw[dw.1 hy];exact j0.q (by trivial)) Ψ.q,by rw[S.q,aA trivial,<-μ.q,aA rfl]⟩
     case measure=>simp[RowKit.intOf];omega
  .obtain rfl:k=u.length:=by omega
   rw[Γ.q,List.drop_length] at R;have Ω:qD iD 0 z= .ok l:=R;obtain⟨h',ν,dn,mn,c8,c4,c5,c6,c7,ho⟩:=A.s.his (β.Ea hf) (Same.refl' wr);have E:=A.s.t.b;have j6:wr.cell? ⟨w.1.size+1,0,C⟩=G h'.t.v:=(E.1 0).trans (c8 0 ah);have j7:wr.cell? ⟨w.1.size+1,1,C⟩=G h'.s.v:=(E.1 1).trans (c8 1 ah);have j8:wr.cell? ⟨w.1.size+1,2,C⟩=G h'.o.v:=(E.1 2).trans (c8 2 ah);have j9:wr.cell? ⟨w.1.size+1,3,C⟩=G h'.p.v:=(E.1 3).trans (c8 3 ah);have z0:wr.cell? ⟨w.1.size+1,4,C⟩=G h'.e.v:=(E.1 4).trans c4;have z1:wr.cell? ⟨w.1.size+1,5,C⟩=G h'.d.v:=(E.1 5).trans c5;have z2:wr.cell? ⟨w.1.size+1,6,C⟩=G h'.m.v:=(E.1 6).trans c6;have z3:wr.cell? ⟨w.1.size+1,7,C⟩=G h'.w.v:=(E.1 7).trans c7;have z4:=F (q2.q wr (w.1.size+1+1) h' l es ds ms ν dn mn ho β hf);have S:=F Ω;clear R Ω c8 c4 c5 c6 c7 ho E j Q A hf β;go_wp2_with fail;refine z4.q.mono ?_;rintro e X2 ⟨ψ,n,σ,τ,υ,z5,z6,z7,rfl,q0⟩;have z8:=F q0;have α:=F (r.q.bL ψ);have g:=F (ξ.q.keep ψ);clear j6 j7 j8 j9 z0 z1 z2 z3 ψ q0;have ε:=g.q.1;have ζ:=g.q.2.1;have η:=g.q.2.2;go_wp2_with fail;have t:=lI (h':=n) g.q;have p:=iT (X:=X2) (b:=w.1.size) (h':=n);revert t p;generalize((((((((X2.setCell ⟨w.1.size,0,C⟩ n.t.v).setCell ⟨w.1.size,1,C⟩ n.s.v).setCell ⟨w.1.size,2,C⟩ n.o.v).setCell ⟨w.1.size,3,C⟩ n.p.v).setCell ⟨w.1.size,4,C⟩ n.e.v).setCell ⟨w.1.size,5,C⟩ n.d.v).setCell ⟨w.1.size,6,C⟩ n.m.v).setCell ⟨w.1.size,7,C⟩ n.w.v)=Z;intro t p;have θ:=t.1;refine bodyPost_ret (v:= .tuple #[fB n,.int .i64 (u.length:Int),.int .i64 0]) aaS rfl ⟨p.below α.q (λi hi=>by omega) α.q.size,?_⟩;rw[S.q,Γ.q];refine⟨n,σ,τ,υ,z5,z6,z7,rfl,((z8.q.same (p.mono (λi hi _=>by have:=Δ.q;omega))).mono (by have:=Δ.q;omega))⟩
end Yd
namespace Yd
open Array renaming size_setIfInBounds->F
open Option renaming some->C,none->I
open Go Go.RowKit Go.Proofs
open Go renaming Value->H
open _root_ renaming List->G,trivial->J
attribute [local go_sem] Oper.semAt_some
structure iU (B:Nat)(W:World)(bo:Nat)(cs:Array H)(c:Cont)(es:G EvC)(ds:G aO)(ms:G aP):Prop where
 b:Bx W bo cs
 z:cs.size=8
 g:∃q fz,W.1[bo]?=C (.cells q 41 fz)
 n:∀k,k<4->∃v,cs[k]?=C v/\Own W (B+1) 9 1 encStr v (c.nl k)
 e:∃v,cs[4]?=C v/\Own W (B+1) 50 9 dK v es
 d:∃v,cs[5]?=C v/\Own W (B+1) 65 2 dU v ds
 m:∃v,cs[6]?=C v/\Own W (B+1) 67 4 dV v ms
 q:∃v,cs[7]?=C v/\Own W (B+1) 69 2 eY v c.Q
 be:es.map EvC.base=c.E
 bd:ds.map aO.base=c.D
 bm:ms.map aP.base=c.M
 se:pu W B 148 3 bI EvC.val es c.SE
 sd:pu W B 3 1 aQ aO.val ds c.SD
 sm:pu W B 3 1 aQ aP.val ms c.SM
section
variable {B bo:Nat}{X Y:World}{cs:Array H}{c:Cont}{es:G EvC}{ds:G aO}{ms:G aP}
theorem iU.imp (h:iU B X bo cs c es ds ms)(i:Bx Y bo cs)(j:∃q l,Y.1[bo]?=C (.cells q 41 l))(e:∀{α:Type}{f:α->G H}{k:Nat}{T:TypeId}{v:H}{g:G α},Own X (B+1) T k f v g->T≠50->T≠148->Own Y (B+1) T k f v g)
  (n:∀v,cs[4]?=C v->Own X (B+1) 50 9 dK v es->Own Y (B+1) 50 9 dK v es) (p:pu X B 148 3 bI EvC.val es c.SE->pu Y B 148 3 bI EvC.val es c.SE):iU B Y bo cs c es ds ms:=
 ⟨i,h.z,j,λk r=>(let⟨v,a,b⟩:=h.n k r;⟨v,a,e b aj aj⟩),(let⟨v,a,b⟩:=h.e;⟨v,a,n v a b⟩),(let⟨v,a,b⟩:=h.d;⟨v,a,e b aj aj⟩),(let⟨v,a,b⟩:=h.m;⟨v,a,e b aj aj⟩),(let⟨v,a,b⟩:=h.q;⟨v,a,e b aj aj⟩),
  h.be,h.bd,h.bm,p h.se,h.sd.imp (λ_ _ o=>e o aj aj),h.sm.imp (λ_ _ o=>e o aj aj)⟩
theorem iU.below (h:iU B X bo cs c es ds ms)(a:Below X.1.size X Y):iU B Y bo cs c es ds ms:=
 h.imp (h.b.keep a) (let⟨q,b,e⟩:=h.g;⟨q,b,(a.block bo h.b.2.2).trans e⟩) (λo _ _=>o.below a rfl) (λ_ _ o=>o.below a rfl) (λo=>o.imp λ_ _ o=>o.below a rfl)
theorem iU.NY {b:Nat}(h:iU B X bo cs c es ds ms)(f:∃cs j,X.1[b]?=C (.cells cs 50 j))(n:bo≠b)(p:∀v,cs[4]?=C v->v.ownBlock≠C b)(a:Same (λi=>i≠b) X Y):iU B Y bo cs c es ds ms:=
 h.imp (a.bx h.b n) (let⟨q,j,e⟩:=h.g;⟨q,j,(a.block bo n h.b.2.2).trans e⟩) (λo l _=>o.aJ f l a) (λv l o=>o.same a (λg f e=>p v l (by rw[f,e]))) (λo=>o.imp λ_ _ o=>o.aJ f aj a)
variable{v:H}
theorem iU.seen {y:G Sn}{R:Nat}(h:iU B X bo cs c es ds ms)(t:Own X R 148 3 bI v y)(u:∀x∈es,∀q,v.ownBlock=C q->x.val.ownBlock≠C q)(a:X.grownBy Y v.ownBlock):iU B Y bo cs c es ds ms:=by
 cases f:v.ownBlock with
 |none=>
  rw[f] at a;have b:Same (λ_=>True) X Y:=⟨a.os,a.tape,a.output,a.size,λi _ g=>a.block i g (λe=>by cases e)⟩;exact h.imp (b.bx h.b J) (let⟨q,j,e⟩:=h.g;⟨q,j,(b.block bo J h.b.2.2).trans e⟩) (λo _ _=>o.same b (λ_ _=>J)) (λ_ _ o=>o.same b (λ_ _=>J)) (λo=>o.imp λ_ _ o=>o.same b (λ_ _=>J))
 |some q=>
  rw[f] at a;have b:Same (λi=>i≠q) X Y:=⟨a.os,a.tape,a.output,a.size,λi z g=>a.block i g (λe=>z (by injection e))⟩;have l:=t.tag f;have p:bo≠q:=λe=>by
   obtain⟨_,_,r⟩:=h.g;obtain⟨_,_,A⟩:=l;rw[e,A] at r;cases r
  exact h.imp (b.bx h.b p) (let⟨q,j,e⟩:=h.g;⟨q,j,(b.block bo p h.b.2.2).trans e⟩) (λo _ n=>o.aJ l n b) (λ_ _ o=>o.aJ l aj b)
   (λo=>⟨o.1,λi x E s n=>(o.2 i x E s n).same b (λP K e=>u x (bS s) q f (by rw[K,e]))⟩)
theorem Own.gV {α β:Type}{R b:Nat}{T t:TypeId}{k n:Nat}{enc:α->G H}{o:β->G H}{x:H}{j:G α}{p:G β}(h:Own X R T k enc v j)(r:∃q s,X.1[bo]?=C (.cells q 41 s))(u:Own X b t n o x p)(y:T≠t)(z:T≠41)(A:Same (λi=>i≠bo/\x.ownBlock≠C i) X Y):Own Y R T k enc v j:=
 h.same A (λg l=>⟨λe=>by
  obtain⟨E,K,a⟩:=h.tag l;obtain⟨P,Q,f⟩:=r;rw[e,f] at a;cases a;exact z rfl,λe=>by
  obtain⟨E,K,a⟩:=h.tag l;obtain⟨P,Q,f⟩:=u.tag e;rw[a] at f;cases f;exact y rfl⟩)
theorem iU.event (h:iU B X bo cs c es ds ms){x:H}(r:cs[4]?=C v)(a:Same (λi=>i≠bo/\v.ownBlock≠C i) X Y){ev:EvC}{l:G Sn}
  (s:Own Y (B+1) 50 9 dK x (es++[ev])) (t:Bx Y bo (cs.setIfInBounds 4 x)) (u:∃q y,Y.1[bo]?=C (.cells q 41 y)) (z:Own X (B+1) 148 3 bI ev.val l):iU B Y bo (cs.setIfInBounds 4 x) (c.ev ev.base l) (es++[ev]) ds ms:=by
 obtain⟨A,o,b⟩:=h.e;obtain rfl:A=v:=by rw[r] at o;injection o with o;exact o.symm
 have p:∀j,4≠j->(cs.setIfInBounds 4 x)[j]?=cs[j]?:=λj E=>iQ E
 refine⟨t,by rw[F];exact h.z,u,λk K=>?_,⟨x,ru (by rw[h.z];decide),s⟩,?_,?_,?_,?_,h.bd,h.bm,?_,?_,?_⟩
 .obtain⟨e,f,g⟩:=h.n k K
  exact⟨e,(p _ ah).trans f,g.gV h.g b aj aj a⟩
 .obtain⟨e,f,g⟩:=h.d
  exact⟨e,(p _ ah).trans f,g.gV h.g b aj aj a⟩
 .obtain⟨e,f,g⟩:=h.m
  exact⟨e,(p _ ah).trans f,g.gV h.g b aj aj a⟩
 .obtain⟨e,f,g⟩:=h.q
  exact⟨e,(p _ ah).trans f,g.gV h.g b aj aj a⟩
 .show(es++[ev]).map EvC.base=c.E++[ev.base]
  rw[fV,h.be];rfl
 .exact(h.se.imp (λ_ _ n=>n.gV h.g b aj aj a)).snoc (z.gV h.g b aj aj a)
 .exact h.sd.imp (λ_ _ n=>n.gV h.g b aj aj a)
 .exact h.sm.imp (λ_ _ n=>n.gV h.g b aj aj a)
theorem iU.order (h:iU B X bo cs c es ds ms){n:H}(s:cs[5]?=C v)(a:Same (λi=>i≠bo/\v.ownBlock≠C i) X Y){x:aO}{l:G Int}
  (t:Own Y (B+1) 65 2 dU n (ds++[x])) (u:Bx Y bo (cs.setIfInBounds 5 n)) (y:∃q z,Y.1[bo]?=C (.cells q 41 z)) (A:Own X (B+1) 3 1 aQ x.val l):iU B Y bo (cs.setIfInBounds 5 n) {c with D:=c.D++[x.base],SD:=c.SD++[l]} es (ds++[x]) ms:=by
 obtain⟨E,p,b⟩:=h.d;obtain rfl:E=v:=by rw[s] at p;injection p with p;exact p.symm
 have r:∀j,5≠j->(cs.setIfInBounds 5 n)[j]?=cs[j]?:=λj K=>iQ K
 refine⟨u,by rw[F];exact h.z,y,λk P=>?_,?_,⟨n,ru (by rw[h.z];decide),t⟩,?_,?_,h.be,(by show(ds++[x]).map aO.base=c.D++[x.base];rw[fV,h.bd];rfl),h.bm,?_,?_,?_⟩
 .obtain⟨e,f,g⟩:=h.n k P
  exact⟨e,(r _ ah).trans f,g.gV h.g b aj aj a⟩
 .obtain⟨e,f,g⟩:=h.e
  exact⟨e,(r _ ah).trans f,g.gV h.g b aj aj a⟩
 .obtain⟨e,f,g⟩:=h.m
  exact⟨e,(r _ ah).trans f,g.gV h.g b aj aj a⟩
 .obtain⟨e,f,g⟩:=h.q
  exact⟨e,(r _ ah).trans f,g.gV h.g b aj aj a⟩
 .exact h.se.imp (λ_ _ o=>o.gV h.g b aj aj a)
 .exact(h.sd.imp (λ_ _ o=>o.gV h.g b aj aj a)).snoc (A.gV h.g b aj aj a)
 .exact h.sm.imp (λ_ _ o=>o.gV h.g b aj aj a)
theorem iU.Cq (h:iU B X bo cs c es ds ms){n:H}(s:cs[6]?=C v)(a:Same (λi=>i≠bo/\v.ownBlock≠C i) X Y){x:aP}{l:G Int}
  (t:Own Y (B+1) 67 4 dV n (ms++[x])) (u:Bx Y bo (cs.setIfInBounds 6 n)) (y:∃q z,Y.1[bo]?=C (.cells q 41 z)) (A:Own X (B+1) 3 1 aQ x.val l):iU B Y bo (cs.setIfInBounds 6 n) {c with M:=c.M++[x.base],SM:=c.SM++[l]} es ds (ms++[x]):=by
 obtain⟨E,p,b⟩:=h.m;obtain rfl:E=v:=by rw[s] at p;injection p with p;exact p.symm
 have r:∀j,6≠j->(cs.setIfInBounds 6 n)[j]?=cs[j]?:=λj K=>iQ K
 refine⟨u,by rw[F];exact h.z,y,λk P=>?_,?_,?_,⟨n,ru (by rw[h.z];decide),t⟩,?_,h.be,h.bd,(by show(ms++[x]).map aP.base=c.M++[x.base];rw[fV,h.bm];rfl),?_,?_,?_⟩
 .obtain⟨e,f,g⟩:=h.n k P
  exact⟨e,(r _ ah).trans f,g.gV h.g b aj aj a⟩
 .obtain⟨e,f,g⟩:=h.e
  exact⟨e,(r _ ah).trans f,g.gV h.g b aj aj a⟩
 .obtain⟨e,f,g⟩:=h.d
  exact⟨e,(r _ ah).trans f,g.gV h.g b aj aj a⟩
 .obtain⟨e,f,g⟩:=h.q
  exact⟨e,(r _ ah).trans f,g.gV h.g b aj aj a⟩
 .exact h.se.imp (λ_ _ o=>o.gV h.g b aj aj a)
 .exact h.sd.imp (λ_ _ o=>o.gV h.g b aj aj a)
 .exact(h.sm.imp (λ_ _ o=>o.gV h.g b aj aj a)).snoc (A.gV h.g b aj aj a)
theorem iU.want (h:iU B X bo cs c es ds ms){l:H}(r:cs[7]?=C v)(a:Same (λi=>i≠bo/\v.ownBlock≠C i) X Y){x:Wa}
  (s:Own Y (B+1) 69 2 eY l (c.Q++[x])) (t:Bx Y bo (cs.setIfInBounds 7 l)) (u:∃q y,Y.1[bo]?=C (.cells q 41 y)):iU B Y bo (cs.setIfInBounds 7 l) {c with Q:=c.Q++[x]} es ds ms:=by
 obtain⟨z,o,b⟩:=h.q;obtain rfl:z=v:=by rw[r] at o;injection o with o;exact o.symm
 have p:∀j,7≠j->(cs.setIfInBounds 7 l)[j]?=cs[j]?:=λj A=>iQ A
 refine⟨t,by rw[F];exact h.z,u,λk E=>?_,?_,?_,?_,⟨l,ru (by rw[h.z];decide),s⟩,h.be,h.bd,h.bm,?_,?_,?_⟩
 .obtain⟨e,f,g⟩:=h.n k E
  exact⟨e,(p _ ah).trans f,g.gV h.g b aj aj a⟩
 .obtain⟨e,f,g⟩:=h.e
  exact⟨e,(p _ ah).trans f,g.gV h.g b aj aj a⟩
 .obtain⟨e,f,g⟩:=h.d
  exact⟨e,(p _ ah).trans f,g.gV h.g b aj aj a⟩
 .obtain⟨e,f,g⟩:=h.m
  exact⟨e,(p _ ah).trans f,g.gV h.g b aj aj a⟩
 .exact h.se.imp (λ_ _ n=>n.gV h.g b aj aj a)
 .exact h.sd.imp (λ_ _ n=>n.gV h.g b aj aj a)
 .exact h.sm.imp (λ_ _ n=>n.gV h.g b aj aj a)
end
structure sO (B:Nat)(w W:World)(bo kb:Nat)(cs:Array H)(c:Cont)(es:G EvC)(ds:G aO)(ms:G aP)(ev:EvC):Prop where
 r:iU B W bo cs c es ds ms
 e:Bx W kb (aY ev)
 t:∃q fz,W.1[kb]?=C (.cells q 50 fz)
 s:Below (B+1) w W
 n:B<bo/\B<kb/\bo≠kb
 v:∀v,cs[4]?=C v->v.ownBlock≠C kb
 o:∀x∈es,∀q,x.val.ownBlock=C q->q<kb
section
variable {B bo kb:Nat}{w W W':World}{cs:Array H}{c:Cont}{es:G EvC}{ds:G aO}{ms:G aP}{ev:EvC}
theorem sO.below (h:sO B w W bo kb cs c es ds ms ev)(a:Below W.1.size W W'):sO B w W' bo kb cs c es ds ms ev:=
 ⟨h.r.below a,h.e.keep a,(let⟨q,b,e⟩:=h.t;⟨q,b,(a.block kb h.e.2.2).trans e⟩),h.s.trans (a.mono (by have:=h.e.2.2;have:=h.n;omega)),h.n,h.v,h.o⟩
theorem sO.set (h:sO B w W bo kb cs c es ds ms ev)(a:EvC){j:Nat}{x:H}(b:j<9)(e:aY a=(aY ev).setIfInBounds j x):sO B w (W.setCell ⟨kb,j,I⟩ x) bo kb cs c es ds ms a:=
 ⟨h.r.NY h.t h.n.2.2 h.v ((Same.refl' W).setTail (λh=>h rfl)),by rw[e];exact h.e.aX j b x,nJ h.t,h.s.setCell (p:=⟨kb,j,I⟩) (by have:=h.n;show B+1<=kb;omega) _,h.n,h.v,h.o⟩
theorem sO.grown (h:sO B w W bo kb cs c es ds ms ev){v:H}{y:G Sn}(a:Own W kb 148 3 bI v y)(b:W.grownBy W' v.ownBlock):sO B w W' bo kb cs c es ds ms ev:=by
 have f:v.ownBlock≠C kb:=λe=>by
  obtain⟨_,_,i⟩:=a.tag e;obtain⟨_,_,j⟩:=h.t;rw[j] at i;cases i
 exact⟨h.r.seen a (λx l q n e=>by have:=h.o x l q e;have:=(a.lt q n).1;omega) b,h.e.grown b f,(let⟨q,o,e⟩:=h.t;⟨q,o,(b.block kb h.e.2.2 (λe=>f e.symm)).trans e⟩),h.s.grown b (by have:=h.e.2.2;have:=h.n;omega) (λg e=>by have:=(a.lt g e).1;have:=h.n;omega),h.n,h.v,h.o⟩
theorem sO.all (h:sO B w W bo kb cs c es ds ms ev)(k t s l o i r p:Int)(a:Option Addr)(n q:Nat):
  sO B w (((((((((W.setCell ⟨kb,0,I⟩ (.int .i64 k)).setCell ⟨kb,1,I⟩ (.int .i64 t)).setCell ⟨kb,2,I⟩ (.int .i64 s)).setCell ⟨kb,3,I⟩ (.int .i64 l)).setCell ⟨kb,4,I⟩ (.int .i64 o)).setCell ⟨kb,5,I⟩ (.int .i64 i)).setCell ⟨kb,6,I⟩ (.int .i64 r)).setCell ⟨kb,7,I⟩ (.int .i64 p)).setCell ⟨kb,8,I⟩ (.slice a n q)) bo kb cs c es ds ms ⟨k,t,s,l,o,⟨i,r⟩,p,a,n,q⟩:=by
 obtain⟨A,z,y,x,v,⟨u,j⟩,g,b,e,f⟩:=ev;exact((((((((h.set ⟨k,z,y,x,v,⟨u,j⟩,g,b,e,f⟩ aj rfl).set ⟨k,t,y,x,v,⟨u,j⟩,g,b,e,f⟩ aj rfl).set ⟨k,t,s,x,v,⟨u,j⟩,g,b,e,f⟩ aj rfl).set ⟨k,t,s,l,v,⟨u,j⟩,g,b,e,f⟩ aj rfl).set ⟨k,t,s,l,o,⟨u,j⟩,g,b,e,f⟩ aj rfl).set ⟨k,t,s,l,o,⟨i,j⟩,g,b,e,f⟩ aj rfl).set ⟨k,t,s,l,o,⟨i,r⟩,g,b,e,f⟩ aj rfl).set ⟨k,t,s,l,o,⟨i,r⟩,p,b,e,f⟩ aj rfl).set ⟨k,t,s,l,o,⟨i,r⟩,p,a,n,q⟩ aj rfl
end
end Yd
namespace Yd
open Option renaming none->H,some->J
open Go Go.RowKit Go.Proofs
open Go renaming World->I,Value->O
open Go.Obj renaming cells->N
open _root_ renaming List->G,Nat->L,Int->U,Array->V
attribute [local go_sem] Oper.semAt_some
theorem QV {P:Program}{c:Code}{Q:Exit->Act->I->Prop}{a:Act}{w:I}{F:L->I->Prop}{A:L->Act}(h:c.wp P (λe b Z=>e= .normal/\∃k,F k Z/\b=A k) a w)(f:∀k Z,F k Z->Q .normal (A k) Z):c.wp P Q a w:=
 wp_mono h (λ_ _ Z ⟨g,k,i,j⟩=>by subst g j;exact f k Z i)
theorem NZ {P:Program}{c:Code}{Q:Exit->Act->I->Prop}{a:Act}{w:I}{F:L->Sl->Sl->Sl->Sl->I->Prop}{A:L->Sl->Sl->Sl->Sl->Act}(h:c.wp P (λe b Z=>e= .normal/\∃k x y u v,F k x y u v Z/\b=A k x y u v) a w)(f:∀k x y u v Z,F k x y u v Z->Q .normal (A k x y u v) Z):c.wp P Q a w:=
 wp_mono h (λ_ _ Z ⟨g,k,x,y,u,v,i,j⟩=>by subst g j;exact f k x y u v Z i)
def jU (F:U->G U)(c:Cont)(k d m q:L):Cont:=AZ F ⟨c.nl,c.E.take k,c.SE.take k,c.D.take d,c.SD.take d,c.M.take m,c.SM.take m,c.Q.take q⟩
theorem take_one {α β:Type}{f:α->β}{l:G α}{k:L}{x:α}(h:l[k]?=J x):(l.take (k+1)).map f=(l.take k).map f++[f x]:=by
 rw[eD,h];simp
section
variable {F:U->G U}{c:Cont}{k d m q:L}
theorem TS {e:EvC}{l:G Sn}(h:c.E[k]?=J e)(a:c.SE[k]?=J l):jU F c (k+1) d m q=(jU F c k d m q).ev (fJ F e) (l.map (zk F)):=by
 unfold jU AZ Cont.ev;simp only[take_one h,take_one a]
theorem TT {x:aO}{l:G U}(h:c.D[d]?=J x)(a:c.SD[d]?=J l):jU F c k (d+1) m q={jU F c k d m q with D:=(jU F c k d m q).D++[⟨bX (F 2) x.obj,H,0,0⟩],SD:=(jU F c k d m q).SD++[l.map (bX (F 0))]}:=by
 unfold jU AZ;simp only[take_one h,take_one a]
theorem TU {x:aP}{l:G U}(h:c.M[m]?=J x)(a:c.SM[m]?=J l):jU F c k d (m+1) q={jU F c k d m q with M:=(jU F c k d m q).M++[⟨bX (F 3) x.pred,bX (F 2) x.obj,x.first,H,0,0⟩],SM:=(jU F c k d m q).SM++[l.map (bX (F 0))]}:=by
 unfold jU AZ;simp only[take_one h,take_one a]
theorem TV {x:Wa}(h:c.Q[q]?=J x):jU F c k d m (q+1)={jU F c k d m q with Q:=(jU F c k d m q).Q++[⟨bX (F 1) x.gG,x.bits⟩]}:=by
 unfold jU AZ;simp only[take_one h]
theorem QW (a:c.E.length<=k)(b:c.SE.length<=k)(e:c.D.length<=d)(f:c.SD.length<=d)(g:c.M.length<=m)(h:c.SM.length<=m)(i:c.Q.length<=q):jU F c k d m q=AZ F c:=by
 unfold jU;rw[eF a,eF b,eF e,eF f,eF g,eF h,eF i]
end
variable{R:L}{c:Cont}
theorem iU.start {B:L}{a:I}{x y u v:Sl}{F:U->G U}(g:Bx a R (aI ⟨x,y,u,v,⟨H,0,0⟩,⟨H,0,0⟩,⟨H,0,0⟩,⟨H,0,0⟩⟩))(h:∃q j,a.1[R]?=J (N q 41 j))
  (l:Own a (B+1) 9 1 encStr x.v ((F 0).map (aU (c.nl 0)))) (n:Own a (B+1) 9 1 encStr y.v ((F 1).map (aU (c.nl 1)))) (o:Own a (B+1) 9 1 encStr u.v ((F 2).map (aU (c.nl 2)))) (p:Own a (B+1) 9 1 encStr v.v ((F 3).map (aU (c.nl 3)))):
  iU B a R (aI ⟨x,y,u,v,⟨H,0,0⟩,⟨H,0,0⟩,⟨H,0,0⟩,⟨H,0,0⟩⟩) (jU F c 0 0 0 0) [] [] []:=by
 have e:∀{α:Type}{r:α->G O}{k:L}{T:TypeId},Own a (B+1) T k r (.slice H 0 0) []:=Own.eH _ _ _ _ _;refine⟨g,rfl,h,λk s=>?_,⟨_,rfl,e⟩,⟨_,rfl,e⟩,⟨_,rfl,e⟩,⟨_,rfl,e⟩,rfl,rfl,rfl,⟨rfl,λi x f b=>(by cases b)⟩,⟨rfl,λi x f b=>(by cases b)⟩,⟨rfl,λi x f b=>(by cases b)⟩⟩;rcases(by omega:k=0\/k=1\/k=2\/k=3) with rfl|rfl|rfl|rfl
 .exact⟨_,rfl,l⟩
 .exact⟨_,rfl,n⟩
 .exact⟨_,rfl,o⟩
 .exact⟨_,rfl,p⟩
variable{E:G EvC}
theorem iU.his {B:L}{l Y:I}{cs:V O}{j:G aO}{n:G aP}(h:iU B l R cs c E j n)(z:uI c)(p:Same (λi=>B<i) l Y):
  ∃h':HC,∃b:EvC->G Sn,∃e:aO->G U,∃f:aP->G U,cs=aI h'/\gU Y (B+1) h' c E j n b e f:=by
 obtain⟨h',b,e,f,a,r,s,t,u,v⟩:=Lh (d:=0) (cs:=cs) (λk x=>by rw[Nat.mul_zero,bQ];exact h.n k x) h.e h.d h.m h.q h.be h.bd h.bm h.se h.sd h.sm z (λo=>o.same p (λg y=>(o.lt g y).1));refine⟨h',b,e,f,?_,v⟩;refine Array.ext_getElem? (λi=>?_);by_cases A:i<8
 .rcases(by omega:i=0\/i=1\/i=2\/i=3\/i=4\/i=5\/i=6\/i=7) with rfl|rfl|rfl|rfl|rfl|rfl|rfl|rfl
  .exact a 0 aj
  .exact a 1 aj
  .exact a 2 aj
  .exact a 3 aj
  .exact r
  .exact s
  .exact t
  .exact u
 .rw[Dp (by rw[h.z];omega),Dp (by show 8<=i;omega)]
theorem vK (X:I):Bx (X.alloc (N (aI gL) 41)) X.1.size (aI gL)/\∃q a,(X.alloc (N (aI gL) 41)).1[X.1.size]?=J (N q 41 a):=⟨Bx.new X _ _,_,_,nR X _⟩
theorem lH {X Y:I}{cs:V O}(h:Bx X R cs/\∃q a,X.1[R]?=J (N q 41 a))(b:Below X.1.size X Y):Bx Y R cs/\∃q a,Y.1[R]?=J (N q 41 a):=⟨h.1.keep b,let⟨q,a,e⟩:=h.2;⟨q,a,(b.block R h.1.2.2).trans e⟩⟩
variable{b:L}
theorem jy {o:Option Addr}{i:G Bs}{a:Option Addr}{n c:L}{xs:G U}{w:I}(B:L)(g:Row w 1 encStr o R b i)(f:Row w 1 aQ a n c xs)(h:∀x∈xs,0<=x/\x<(i.length:U))(v:xs.length<=300)(j:B<=w.1.size):
  Calls Tryz.prog 89 #[.slice o R b,.slice a n c] w (λe w'=>∃s:Sl,e= .returned s.v/\Own w' B 9 1 encStr s.v (xs.map (aU i))/\Below w.1.size w w'):=
 (QX o R b i a n c xs w g f h (by have:=f.len;omega)).mono (λ_ _ ⟨l,p,r,t,u⟩=>⟨⟨l,_,p⟩,r,t.mono j,u⟩)
theorem Ed {o:Option Addr}{p:G U}{a:Option Addr}{n c:L}{xs:G U}{w:I}(B:L)(g:Row w 1 aQ o R b p)(f:Row w 1 aQ a n c xs)(u:xs.length<=2000000)(h:B<=w.1.size):
  Calls Tryz.prog 92 #[.slice o R b,.slice a n c] w (λe w'=>∃s:Sl,e= .returned s.v/\Own w' B 3 1 aQ s.v (xs.map (bX p))/\Below w.1.size w w'):=
 (N7 o R b p a n c xs w g f (by have:=f.len;omega)).mono (λ_ _ ⟨i,j,l,r,t⟩=>⟨⟨i,_,j⟩,l,r.mono h,t⟩)
variable{v x:O}
theorem vM {X:I}{T:TypeId}{e f g i j l:O}(h:∃q a,X.1[b]?=J (N q T a)):∃q a,((((((((X.setCell ⟨b,0,H⟩ v).setCell ⟨b,1,H⟩ x).setCell ⟨b,2,H⟩ e).setCell ⟨b,3,H⟩ f).setCell ⟨b,4,H⟩ g).setCell ⟨b,5,H⟩ i).setCell ⟨b,6,H⟩ j).setCell ⟨b,7,H⟩ l).1[b]?=J (N q T a):=
 nJ (nJ (nJ (nJ (nJ (nJ (nJ (nJ h)))))))
theorem sO.start {B:L}{w X:I}{cs:V O}{j:G aO}{b:G aP}(ev:EvC)(h:iU B X R cs c E j b)(n:Below (B+1) w X)(f:B+1<=X.1.size)(o:B<R):sO B w (X.alloc (N (aY ev) 50)) R X.1.size cs c E j b ev:=by
 have y:=h.b.2.2;refine⟨h.below (aB (Below.refl _ _) _),Bx.new X _ _,⟨_,_,nR X _⟩,n.trans (aB (Below.refl _ _) _|>.mono f),⟨o,f,by omega⟩,λv p e=>?_,λx r q s=>?_⟩
 .obtain⟨z,g,t⟩:=h.e
  rw[p] at g;cases g;have:=(t.lt _ e).2;omega
 .obtain⟨i,l⟩:=qi.1 r
  obtain⟨a,u⟩:∃a,c.SE[i]?=J a:=⟨_,dM (by have:=(bq.1 l).1;have:=h.se.1;omega)⟩;exact((h.se.2 i x a l u).lt q s).2
def vN (B:L)(w:I)(a:L)(C:V O)(b:I)(f e:L)(cs:V O)(c:Cont)(g:G EvC)(h:G aO)(i:G aP)(ev:EvC):Prop:=sO B w b f e cs c g h i ev/\Bx b a C/\a<e
section
variable {B kx bo kb:L}{w W W':I}{C cs:V O}{c:Cont}{es:G EvC}{ds:G aO}{ms:G aP}{ev:EvC}
theorem vN.below (h:vN B w kx C W bo kb cs c es ds ms ev)(a:Below W.1.size W W'):vN B w kx C W' bo kb cs c es ds ms ev:=⟨h.1.below a,h.2.1.keep a,h.2.2⟩
theorem vN.set (h:vN B w kx C W bo kb cs c es ds ms ev)(a:EvC){j:L}(b:j<9)(e:aY a=(aY ev).setIfInBounds j x):vN B w kx C (W.setCell ⟨kb,j,H⟩ x) bo kb cs c es ds ms a:=
 ⟨h.1.set a b e,((Same.refl' W).setTail (A:=λi=>i≠kb) (λh=>h rfl)).bx h.2.1 (by have:=h.2.2;omega),h.2.2⟩
theorem vN.grown (h:vN B w kx C W bo kb cs c es ds ms ev){y:G Sn}(a:Own W kb 148 3 bI v y)(b:W.grownBy W' v.ownBlock):vN B w kx C W' bo kb cs c es ds ms ev:=
 ⟨h.1.grown a b,h.2.1.grown b (λe=>by have:=(a.lt _ e).1;have:=h.2.2;omega),h.2.2⟩
end
theorem iU.app {α:Type}{T:TypeId}{k B j:L}{enc:α->G O}{u g:G α}{l:Obj}{X Y:I}{cs:V O}{y:G aO}{z:G aP}(h:iU B X R cs c E y z)(A:Own X (B+1) T k enc v u)(n:T≠41)(K:j<8)(a:(X.alloc l).grownBy Y v.ownBlock)(P:Own Y (B+1) T k enc x g):
  Bx Y R cs/\Same (λi=>i≠R/\v.ownBlock≠J i) X (Y.setCell ⟨R,j,H⟩ x)/\Own (Y.setCell ⟨R,j,H⟩ x) (B+1) T k enc x g/\Bx (Y.setCell ⟨R,j,H⟩ x) R (cs.setIfInBounds j x)/\∃q b,(Y.setCell ⟨R,j,H⟩ x).1[R]?=J (N q 41 b):=by
 have o:v.ownBlock≠J R:=λe=>by
  obtain⟨_,_,Q⟩:=A.tag e;obtain⟨_,_,p⟩:=h.g;rw[Q] at p;cases p;exact n rfl
 have f:=aB (Below.refl X.1.size X) l;have r:=h.b.keep f;have s:=r.grown a o;have t:∃q b,Y.1[R]?=J (N q 41 b):=let⟨q,b,e⟩:=h.g;⟨q,b,(a.block R r.2.2 (λe=>o e.symm)).trans ((f.block R h.b.2.2).trans e)⟩;exact⟨s,((Same.of_below f (λ_ _ h=>h)).tr ⟨a.os,a.tape,a.output,a.size,λi S Z=>a.block i Z (λe=>S.2 e.symm)⟩).setTail (λh=>h.1 rfl),P.aJ t n ((Same.refl' Y).setTail (λh=>h rfl)),s.aX j (by rw[h.z];exact K) x,nJ t⟩
end Yd
