import Derived.Test.YtiheclemhihpeaaGreatDoorZFm14
import Derived.Test.YtiheclemhihpeaaGreatDoorZRST
import Derived.Test.YtiheclemhihpeaaGreatDoorZCut13
set_option linter.all false
set_option maxRecDepth 200000
set_option maxHeartbeats 8000000
namespace Yd
open Option renaming some->D,none->G
open Go Go.RowKit Go.Proofs Tryz
open Go renaming World->J,callFunc->L,Value->N
open Go.Value renaming pointer->H,bool->I,int->U,slice->V
open Tryz renaming prog->C
open World renaming alloc_heap_new->O
open _root_ renaming Array->M
theorem aa8{p:Prop}(h:p:=by decide):p:=h
def J3 (B:Nat)(w:J):Prop:=∀W,Same (λi=>i<B) w W->ql W
def vZ (B R:Nat)(d:Cont)(w:J)(e:Ending)(w':J):Prop:=
 Same (λi=>i<B) w w'/\(aR d->e= .returned (I true)/\∃cs es ds ms,gZ B w' R cs d es ds ms)/\(¬aR d->e= .returned (I false))
theorem OI (l:aW)(w:J):Calls C 66 #[dH l] w λe w'=>e= .returned (.tuple #[])/\Below w.1.size w w':=by
 have a:=hid (aB (Below.refl w.1.size w) (.cells (bJ l) 34));obtain⟨b,d,f,g,h,i,j,k,m,n⟩:=l;go_enter func66,ntmps66;go_wp2_with fail;refine bodyPost_end (results_none rfl _ _ _) rfl ?_;exact⟨rfl,a.q⟩
theorem F5 {B R:Nat}{d:Cont}{b:Bool}(a:M N)(w w':J)(e:a[4]?.getD undef= H (D ⟨w.1.size+1,0,G⟩))(f:Bx w' (w.1.size+1) #[I b])(g:vZ B R d w (.returned (I b)) w'):
  Leaves C Tryz.f34 a (vZ B R d w) [] .returning w':=by
 have h:=f.1 0;refine⟨I b,?_,g⟩;simp[results,results34,go_sem,e,h]
theorem nQ.below {w w':J}{B:Nat}{l:aW}{s:aK}(h:nQ w B l s)(a:Below w.1.size w w'):nQ w' B l s:=⟨h.k,h.n.below a rfl,h.v.below a rfl,h.na,h.va⟩
section
variable {B R:Nat}{cs:M N}{c:Cont}{es:List EvC}{ds:List aO}{ms:List aP}
@[reducible] def adds (R:Nat):M N:=#[.func (.func 66) #[] #[],.func (.func 67) #[H (D ⟨R,0,G⟩)] #[],.func (.func 68) #[H (D ⟨R,0,G⟩)] #[],.func (.func 69) #[H (D ⟨R,0,G⟩)] #[],.func (.func 70) #[H (D ⟨R,0,G⟩)] #[],.func (.func 71) #[H (D ⟨R,0,G⟩)] #[],.func (.func 71) #[H (D ⟨R,0,G⟩)] #[],.func (.func 72) #[H (D ⟨R,0,G⟩)] #[],.func (.func 73) #[H (D ⟨R,0,G⟩)] #[],.func (.func 74) #[H (D ⟨R,0,G⟩)] #[]]
theorem mX (l:aW)(s:aK)(w:J)(k F:Nat)(fa:M N)(h:gZ B w R cs c es ds ms)(m:nQ w B l s)(hG:J3 B w)(hk:s.kind=(k:Int))(ο:k<10)(hF:(adds R)[k]?=D (.func (.func F) fa #[]))
  (eg:∀args w,(L F args).run C w= .ok (.enter F args) w)
  (hS:∀W K,gZ B W R cs c es ds ms->nQ W B l s->jJ B K W->jX W K->R<K->Calls C F (fa++#[dH l]) W (fC B K R (aT c s) W)):
  Calls C 34 #[H (D ⟨R,0,G⟩),dH l] w (vZ B R (aT c s) w):=by
 have π:∀(fn:Fn)(first cap:M N)(w:J),(Instr.makeFunc fn first cap).run C w= .ok (.func fn first cap) w:=λ_ _ _ _=>rfl
 have ε:=m.k.1;rw[hk] at ε;obtain⟨kd,u,x,y,z,A,E,P,Q,S⟩:=l;simp only at ε;subst ε;have g0:¬((k:Int)<0):=by omega
 have g1:(k:Int)<10:=by omega
 obtain⟨X,r⟩:∃W,W=w.alloc (.cells #[U .i64 (k:Int),V u x y,U .i64 z,V A E P,I Q,U .i64 S] 34):=⟨_,rfl⟩;obtain⟨Y,j⟩:∃W,W=X.alloc (.cells #[I false] 4):=⟨_,rfl⟩;obtain⟨b,g⟩:∃W,W=Y.alloc (.cells (adds R) 128):=⟨_,rfl⟩;have α:X.1.size=w.1.size+1:=by rw[r];simp
 have ζ:Y.1.size=w.1.size+2:=by rw[j,World.size_alloc,α]
 have θ:Below w.1.size w X:=by rw[r];exact aB (Below.refl _ _) _
 have ι:Below w.1.size w Y:=by rw[j];exact aB θ _
 have n:Below w.1.size w b:=by rw[g];exact aB ι _
 have o:Bx b w.1.size #[U .i64 (k:Int),V u x y,U .i64 z,V A E P,I Q,U .i64 S]/\Bx b (w.1.size+1) #[I false]/\Bx b (w.1.size+2) (adds R):=by
  refine⟨?_,?_,?_⟩
  .rw[g,j,r];exact((Bx.new w _ _).alloc _).alloc _
  .rw[g,j,<-α];exact(Bx.new X _ _).alloc _
  .rw[g,<-ζ];exact Bx.new Y _ _
 have β:b.1[w.1.size+1]?=D (.cells #[I false] 4 (0,0)):=by rw[g,j,<-α];exact(Below.heap_alloc _ _ _ ak).trans (O X _)
 have κ:jX b w.1.size:=λi h1 h2=>by
  rcases(by omega:i=w.1.size\/i=w.1.size+1\/i=w.1.size+2) with e|e|e
  .exact⟨_,_,_,by rw[e,g,j,r];exact(Below.heap_alloc _ _ _ (by simp;omega)).trans ((Below.heap_alloc _ _ _ ak).trans (O w _)),aa8,aa8,aa8,aa8,aa8⟩
  .exact⟨_,_,_,by rw[e];exact β,aa8,aa8,aa8,aa8,aa8⟩
  .exact⟨_,_,_,by rw[e,g,<-ζ];exact O Y _,aa8,aa8,aa8,aa8,aa8⟩
 have HB:=hid n;have HX:=hid o;have Ψ:=hid β;have ρ:Hid (jX b.drew w.1.size):=hid κ;have Ω:Hid (Below w.1.size w b.drew):=hid n.drew;have σ:=hid (h.below n.drew);have τ:=hid (m.below n.drew);have μ:R<w.1.size:=h.s.t.b.2.2;have υ:=hid μ;have q0:=hid h.b;have φ:Hid (jJ B w.1.size b.drew):=hid (λW d=>hG W ((Same.of_below n.drew (λi Z m=>m)).tr (d.mono (λi Z _=> .inl Z))));have γ:Hid (∀W,Same (λi=>i<B\/(w.1.size<=i/\i<w.1.size+3)) b.drew W->Bx W w.1.size #[U .i64 (k:Int),V u x y,U .i64 z,V A E P,I Q,U .i64 S]/\Bx W (w.1.size+1) #[I false]/\Bx W (w.1.size+2) (adds R)/\W.1[w.1.size+1]?=D (.cells #[I false] 4 (0,0))):=hid (λW d=>
  ⟨d.bx o.1.drew ah,d.bx o.2.1.drew ah,d.bx o.2.2.drew ah,(d.block (w.1.size+1) ah o.2.1.2.2).trans β⟩)
 have q5:Hid (w.1.size+3<=b.drew.1.size):=hid o.2.2.2.2;have ν:Hid (∀W,Same (λi=>i<B\/(w.1.size<=i/\i<w.1.size+3)) b.drew W->∀v,Same (λi=>i<B) w (W.setCell ⟨w.1.size+1,0,G⟩ v)):=hid (λW d v=>((Same.of_below n.drew (λi Z m=>m)).tr (d.mono (λi Z _=> .inl Z))).setTail (λhh=>by have:=h.b;omega));have χ:Hid (∀W,Same (λi=>i<B\/(w.1.size<=i/\i<w.1.size+3)) b.drew W->aR (aT c s)->(∃cs es ds ms,gZ B W R cs (aT c s) es ds ms)->vZ B R (aT c s) w (.returned (I true)) (W.setCell ⟨w.1.size+1,0,G⟩ (I true))):=hid (λW d ψ η=>by
  obtain⟨q1,q2,q3,q4,η⟩:=η;refine⟨ν.q W d _,λ_=>⟨rfl,q1,q2,q3,q4,η.box (T:=4) ⟨_,_,(γ.q W d).2.2.2⟩ aj aj aj aj aj (.inl aj) (.inl aj) ah ((Same.refl' W).setTail (λh=>h rfl))⟩,λk=>absurd ψ k⟩)
 have ω:Hid (∀W,Same (λi=>i<B\/(w.1.size<=i/\i<w.1.size+3)) b.drew W->¬aR (aT c s)->vZ B R (aT c s) w (.returned (I false)) (W.setCell ⟨w.1.size+1,0,G⟩ (I false))):=hid (λW d hn=>⟨ν.q W d _,λk=>absurd k hn,λ_=>rfl⟩);clear h m hG θ ι n o β κ μ α ζ;have ξ:Hid (∀W,Same (λi=>i<B\/(w.1.size<=i/\i<w.1.size+3)) b.drew W->True/\W.cell? ⟨w.1.size,0,G⟩=D (U .i64 (k:Int))/\W.cell? ⟨w.1.size,1,G⟩=D (V u x y)/\W.cell? ⟨w.1.size,2,G⟩=D (U .i64 z)/\W.cell? ⟨w.1.size,3,G⟩=D (V A E P)/\W.cell? ⟨w.1.size,4,G⟩=D (I Q)/\W.cell? ⟨w.1.size,5,G⟩=D (U .i64 S)/\W.cell? ⟨w.1.size+2,k,G⟩=D (.func (.func F) fa #[])):=hid (λW d=>have a:=γ.q W d;⟨trivial,a.1.1 0,a.1.1 1,a.1.1 2,a.1.1 3,a.1.1 4,a.1.1 5,(a.2.2.1.1 k).trans hF⟩);have Γ:=hid (hS b.drew w.1.size σ.q τ.q φ.q ρ.q υ.q);clear hS hk hF ο
 go_enter_defers Tryz.func34,Tryz.ntmps34
 go_wp2_with fail;rw[<-r,<-j,<-g];clear r j g π;refine CQ 4 (H (D ⟨w.1.size+1,0,G⟩)) 99 [(0,0),(1,0),(2,0),(3,0),(4,0),(5,2)] (λ_=>True) (λp=>p.cell? ⟨w.1.size,0,G⟩=D (U .i64 (k:Int))/\p.cell? ⟨w.1.size,1,G⟩=D (V u x y)/\p.cell? ⟨w.1.size,2,G⟩=D (U .i64 z)/\p.cell? ⟨w.1.size,3,G⟩=D (V A E P)/\p.cell? ⟨w.1.size,4,G⟩=D (I Q)/\p.cell? ⟨w.1.size,5,G⟩=D (U .i64 S)/\p.cell? ⟨w.1.size+2,k,G⟩=D (.func (.func F) fa #[])) (λch w'=>ch=kz/\Same (λi=>i<B\/(w.1.size<=i/\i<w.1.size+3)) b.drew w'/\¬aR (aT c s)) au au au (by
   intro ch a1 w1 hd hx hr;obtain⟨rfl,d,hn⟩:=hr;obtain⟨tm,df⟩:=a1;simp only at hd hx;subst hd;have q:=γ.q w1 d;have Δ:=ω.q w1 d hn;refine leaves_cons (f:=65) (args:=#[H (D ⟨w.1.size+1,0,G⟩)]) ak (by simp[go_sem]) ?_;refine(JE (w.1.size+1) _ w1 q.2.1).mono ?_;rintro e u' w6 ⟨rfl,rfl,rfl⟩;exact F5 _ w _ (by show(tm[4]?).getD undef=_;rw[hx];rfl) (q.2.1.aX 0 ak (I false)) Δ) trivial (ξ.q b.drew (Same.refl' _)).2 ?_
 refine qC ?_;refine aG rfl rfl (λK hK=>?_);go_simp;refine Γ.q.mono ?_;rintro e1 w3 ⟨hS,he⟩;have δ:=hid hS;rcases Classical.em (aR (aT c s)) with t|t;rotate_left
 .obtain rfl:=he.2 t
  exact⟨rfl,rfl,rfl,δ.q,t⟩
 obtain⟨rfl,hr⟩:=he.1 t;have Θ:=hid hr;have Ξ:=hid t;clear hr t he hS;refine hK _ _ (ξ.q w3 δ.q) ?_;clear hK K;refine LJ ?_;have q:=γ.q w3 δ.q;have q6:=q.2.1.1 0;have q7:=q.2.1.2.1 0;have Φ:=hid q.2.1;clear q;go_wp2_with fail;refine leaves_cons (f:=65) (args:=#[H (D ⟨w.1.size+1,0,G⟩)]) ak (by simp[go_sem]) ?_;refine(Lp (w.1.size+1) _).mono ?_;rintro e u' w6 ⟨rfl,rfl,rfl⟩;exact F5 _ w _ rfl (Φ.q.aX 0 ak (I true)) (χ.q w3 δ.q Ξ.q Θ.q)
theorem GU (args:M N)(w:J):(L 67 args).run C w= .ok (.enter 67 args) w:=by go_simp
theorem Ei (args:M N)(w:J):(L 71 args).run C w= .ok (.enter 71 args) w:=by go_simp
theorem GV (args:M N)(w:J):(L 73 args).run C w= .ok (.enter 73 args) w:=by go_simp
theorem GX (args:M N)(w:J):(L 72 args).run C w= .ok (.enter 72 args) w:=by go_simp
theorem J4 (args:M N)(w:J):(L 69 args).run C w= .ok (.enter 69 args) w:=by go_simp
theorem J5 (args:M N)(w:J):(L 70 args).run C w= .ok (.enter 70 args) w:=by go_simp
theorem J6 (args:M N)(w:J):(L 74 args).run C w= .ok (.enter 74 args) w:=by go_simp
theorem GY (args:M N)(w:J):(L 68 args).run C w= .ok (.enter 68 args) w:=by go_simp
theorem Rp (args:M N)(w:J):(L 66 args).run C w= .ok (.enter 66 args) w:=by go_simp
theorem UE (l:aW)(s:aK)(w:J)(h:gZ B w R cs c es ds ms)(j:aR c)(g:nQ w B l s)(q:s.kind=0\/fo s)(m:J3 B w):
  Calls C 34 #[H (D ⟨R,0,G⟩),dH l] w (vZ B R (aT c s) w):=by
 by_cases o:s.kind=0
 .have r:aT c s=c:=by unfold aT;simp only[o];rfl
  refine mX l s w 0 _ #[] h g m o ah rfl Rp (λW K a _ _ _ _=>?_);rw[r];refine(OI l W).mono ?_;rintro e u ⟨rfl,p⟩;exact⟨Same.of_below p (λi v g=>g),λ_=>⟨rfl,_,_,_,_,a.below p⟩,λk=>absurd j k⟩
 have n:=q.resolve_left o;have t:s.kind=1\/s.kind=2\/s.kind=3\/s.kind=4\/s.kind=5\/s.kind=6\/s.kind=7\/s.kind=8\/s.kind=9:=by
  rcases n.2.2 with h|h|h|h|h|h|h|h|h <;> (have:=h.1;omega)
 rcases t with e|e|e|e|e|e|e|e|e
 .exact mX l s w 1 _ _ h g m e ah rfl GU (λW K a b c d f=>LU _ s W a j b e n c d f)
 .exact mX l s w 2 _ _ h g m e ah rfl GY (λW K a b c d f=>LV _ s W a j b e n c d f)
 .exact mX l s w 3 _ _ h g m e ah rfl J4 (λW K a b c d f=>OJ _ s W a j b e n c d f)
 .exact mX l s w 4 _ _ h g m e ah rfl J5 (λW K a b c d f=>M9 _ s W a j b e n c d f)
 .exact mX l s w 5 _ _ h g m e ah rfl Ei (λW K a b c d f=>Iy _ s W a j b (.inl e) n c d f)
 .exact mX l s w 6 _ _ h g m e ah rfl Ei (λW K a b c d f=>Iy _ s W a j b (.inr e) n c d f)
 .exact mX l s w 7 _ _ h g m e ah rfl GX (λW K a b c d f=>LW _ s W a j b e n c d f)
 .exact mX l s w 8 _ _ h g m e ah rfl GV (λW K a b c d f=>LX _ s W a j b e n c d f)
 .exact mX l s w 9 _ _ h g m e ah rfl J6 (λW K a b c d f=>OL _ s W a j b e n c d f)
end
end Yd
namespace Yd
open Classical renaming epsilon->O
open Option renaming none->H,some->I
open Go Go.RowKit Go.Proofs Go.Maps
open Go renaming World->L,Value->N,TypeId->U
open Go.Value renaming slice->G
open _root_ renaming List->C,Nat->J
attribute [local go_sem] Oper.semAt_some
variable{X:L}{b:J}
theorem eO {o o':J}{v u:N}(h:X.cell? ⟨b,o,H⟩=I v)(a:o≠o'):(X.setCell ⟨b,o',H⟩ u).cell? ⟨b,o,H⟩=I v:=by
 rw[World.cell?_setCell_other _ _ _ _ (λe=>by cases e;exact a rfl)];exact h
def pW (w:L)(B:J)(a:C aW)(b:C aK):Prop:=a.length=b.length/\∀(i:J)(l:aW),a[i]?=I l->∃s,b[i]?=I s/\dZ w B l s
variable{w:L}
theorem pW.below {w':L}{B:J}{a:C aW}{b:C aK}(h:pW w B a b)(d:Below w.1.size w w'):pW w' B a b:=
 ⟨h.1,λi l e=>let⟨s,f,g⟩:=h.2 i l e;⟨s,f,g.below d⟩⟩
theorem F6 {α:Type}{enc:α->C N}{k:J}{B:J}{T:U}{a:Option Addr}{n c:J}{xs:C α}(h:Own X B T k enc (G a n c) xs){o:J}(e:a=I ⟨b,o,H⟩):b<X.1.size:=by
 rcases h.sJ with⟨q,_⟩|⟨g,q,_⟩
 .grind
 .have:=(h.lt g (by rw[q];rfl)).2
  grind
theorem dZ.Xh {B:J}{l:aW}{s:aK}(h:dZ w B l s)(d:s.names.length<=1000)(f:s.aM.length<=1000)(g:w.1.size<=b):nQ w b l s:=
 ⟨h.1,h.2.1.row (hc:=gy) ah,h.2.2.row (hc:=Ce) ah,λa o e=>by have:=F6 h.2.1 e;omega,λa o e=>by have:=F6 h.2.2 e;omega⟩
@[reducible] def gL:HC:=⟨⟨H,0,0⟩,⟨H,0,0⟩,⟨H,0,0⟩,⟨H,0,0⟩,⟨H,0,0⟩,⟨H,0,0⟩,⟨H,0,0⟩,⟨H,0,0⟩⟩
@[reducible] def xU (a:J):Array N:=#[G H 0 0,G H 0 0,G H 0 0,G H 0 0,G H 0 0,G H 0 0,G H 0 0,G H 0 0,G H 0 0,G H 0 0,G H 0 0,G H 0 0,.map (I a)]
structure yX (w:L):Prop where
 f:ql w
 l:mF w
theorem yX.below {w':L}(h:yX w)(a:Below w.1.size w w'):yX w':=⟨h.f.below a,h.l.below a⟩
theorem yX.add (h:yX w)(a:Below w.1.size w X){B:J}(d:w.1.size<=B):J3 B X:=λW b=>h.f.below (b.below a (λi e=>by omega) a.size)
def PX (w:L)(a:C aK)(e:Ending)(X:L):Prop:=
 Below w.1.size w X/\
 match qD iD 0 a with
 | .ok z=>∃h es ds ms,∃b:EvC->C Sn,∃d:aO->C Int,∃f:aP->C Int,e= .returned (.tuple #[fB h,.int .i64 (a.length:Int),.int .i64 0])/\gU X w.1.size h (fG z) es ds ms b d f
 | .error (i,n)=>e= .returned (.tuple #[fB gL,.int .i64 (i:Int),.int .i64 n])
theorem gZ.start (W:L)(b:J)(B:J)(e:jm W b [])(g:B<=b)(h:B<=W.1.size):gZ B (W.alloc (.cells (xU b) 88)) W.1.size (xU b) iD [] [] []:=by
 have d:∀{α:Type}{j:α->C N}{k:J}{T:U},Own (W.alloc (.cells (xU b) 88)) (W.1.size+1) T k j (G H 0 0) []:=Own.eH _ _ _ _ _;refine⟨⟨⟨Bx.new W _ _,λk l=>⟨G H 0 0,?_,d⟩,λk l=>⟨⟨λx a=>(by cases a),oC,aS _⟩,aS _⟩⟩,⟨_,rfl,d⟩,⟨_,rfl,d⟩,⟨_,rfl,d⟩,⟨_,rfl,d⟩,rfl,rfl,rfl,⟨rfl,λi x f a=>(by cases a)⟩,⟨rfl,λi x f a=>(by cases a)⟩,⟨rfl,λi x f a=>(by cases a)⟩⟩,⟨b,rfl,e.of_eq (Below.heap_alloc _ _ _ (by have:=e.lt;omega)),g⟩,h⟩;rcases(by omega:k=0\/k=1\/k=2\/k=3) with rfl|rfl|rfl|rfl <;> rfl
theorem Lh {d:J}{Y:L}{R:J}{cs:Array N}{c:Cont}{E:C EvC}{j:C aO}{w:C aP}(A:∀k,k<4->∃v,cs[8*d+k]?=I v/\Own X (R+1) 9 1 encStr v (c.nl k))
  (Q:∃v,cs[4]?=I v/\Own X (R+1) 50 9 dK v E) (S:∃v,cs[5]?=I v/\Own X (R+1) 65 2 dU v j) (W:∃v,cs[6]?=I v/\Own X (R+1) 67 4 dV v w) (Z:∃v,cs[7]?=I v/\Own X (R+1) 69 2 eY v c.Q)
  (be:E.map EvC.base=c.E) (bd:j.map aO.base=c.D) (bm:w.map aP.base=c.M) (γ:pu X R 148 3 bI EvC.val E c.SE) (δ:pu X R 3 1 aQ aO.val j c.SD) (ε:pu X R 3 1 aQ aP.val w c.SM)
  (z:uI c) (K:∀{α:Type}{g:α->C N}{k:J}{T:U}{v:N}{b:C α},Own X (R+1) T k g v b->Own Y (R+1) T k g v b):
  ∃h':HC,∃ζ:EvC->C Sn,∃dn:aO->C Int,∃mn:aP->C Int,(∀k,k<4->cs[8*d+k]?=I (h'.nm k).v)/\cs[4]?=I h'.e.v/\cs[5]?=I h'.d.v/\cs[6]?=I h'.m.v/\cs[7]?=I h'.w.v/\gU Y (R+1) h' c E j w ζ dn mn:=by
 have l:∀{α:Type}{g:α->C N}{k:J}{T:U}{v:N}{b:C α},Own X (R+1) T k g v b->∃s:Sl,v= G s.a s.n s.c/\Own Y (R+1) T k g (G s.a s.n s.c) b:=λr=>by
  obtain⟨a,c,q,_⟩:=r.shape;exact⟨⟨a,_,c⟩,q,by rw[<-q];exact K r⟩
 obtain⟨v4,c4,o4⟩:=Q;obtain⟨s4,rfl,y4⟩:=l o4;obtain⟨v5,c5,o5⟩:=S;obtain⟨s5,rfl,y5⟩:=l o5;obtain⟨v6,c6,o6⟩:=W;obtain⟨s6,rfl,y6⟩:=l o6;obtain⟨v7,c7,o7⟩:=Z;obtain⟨s7,rfl,y7⟩:=l o7;obtain⟨u0,d0,p0⟩:=A 0 ah;obtain⟨t0,rfl,z0⟩:=l p0;obtain⟨u1,d1,p1⟩:=A 1 ah;obtain⟨t1,rfl,z1⟩:=l p1;obtain⟨u2,d2,p2⟩:=A 2 ah;obtain⟨t2,rfl,z2⟩:=l p2;obtain⟨u3,d3,p3⟩:=A 3 ah;obtain⟨t3,rfl,z3⟩:=l p3;have F:∀{α β:Type}{T:U}{h:J}{g:β->C N}[hc:Cells g h]{a:α->Option Addr}{n q:α->J}{t:C α}{m:C (C β)},(∀x y,g x=g y->x=y)->pu X R T h g (λx=> G (a x) (n x) (q x)) t m->(∀b∈m,b.length<=2000000)->
   ∃f:α->C β,(∀x∈t,Own Y (R+1) T h g (G (a x) (n x) (q x)) (f x))/\t.map f=m:=fun {α β T h g hc a n q t m} η r hl=>by
  have P:∀i x,t[i]?=I x->∃b,m[i]?=I b/\Own Y (R+1) T h g (G (a x) (n x) (q x)) b/\O (λb=>Row Y h g (a x) (n x) (q x) b)=b:=λi x p=>by
   have u:i<m.length:=by rw[<-r.1];exact(bq.1 p).1
   have o:=K (r.2 i x m[i] p (dM u));have θ:=hl _ (List.getElem_mem u);exact⟨_,dM u,o,xJ (hc:=hc) η (o.row (hc:=hc) ah)⟩
  refine⟨λx=>O (λb=>Row Y h g (a x) (n x) (q x) b),λx p=>?_,yK (λi=>?_)⟩
  .obtain⟨i,u⟩:=qi.1 p
   obtain⟨b,_,o,e⟩:=P i x u;show Own Y (R+1) T h g (G (a x) (n x) (q x)) (O (λb=>Row Y h g (a x) (n x) (q x) b));rw[e];exact o
  .rw[kY]
   cases p:t[i]? with
   |none=>rw[Option.map_none,wG (by rw[<-r.1];exact List.getElem?_eq_none_iff.1 p)]
   |some x=>
    obtain⟨b,h1,_,e⟩:=P i x p;rw[Option.map_some,e,h1]
 obtain⟨f1,a1,b1⟩:=F (hc:=lK) (a:=EvC.sa) (n:=EvC.sn) (q:=EvC.sc) Ck γ z.se;obtain⟨f2,a2,b2⟩:=F (hc:=fA) (a:=aO.sa) (n:=aO.sn) (q:=aO.sc) rM δ z.sd;obtain⟨f3,a3,b3⟩:=F (hc:=fA) (a:=aP.sa) (n:=aP.sn) (q:=aP.sc) rM ε z.sm;refine⟨⟨t0,t1,t2,t3,s4,s5,s6,s7⟩,f1,f2,f3,λk hk=>?_,c4,c5,c6,c7,⟨y4,y5,y6,y7,λk hk=>?_,a1,a2,a3,be,bd,bm,b1,b2,b3⟩⟩
 .rcases(by omega:k=0\/k=1\/k=2\/k=3) with rfl|rfl|rfl|rfl
  .exact d0
  .exact d1
  .exact d2
  .exact d3
 .rcases(by omega:k=0\/k=1\/k=2\/k=3) with rfl|rfl|rfl|rfl
  .exact z0
  .exact z1
  .exact z2
  .exact z3
theorem rP.his {d:J}{P:(J->C Bs)->Prop}{Y:L}{R:J}{cs:Array N}{c:Cont}{E:C EvC}{j:C aO}{a:C aP}(h:rP d P X R cs c E j a)(z:uI c)(b:Same (λi=>i≠R) X Y):
  ∃h':HC,∃e:EvC->C Sn,∃f:aO->C Int,∃g:aP->C Int,(∀k,k<4->cs[8*d+k]?=I (h'.nm k).v)/\cs[4]?=I h'.e.v/\cs[5]?=I h'.d.v/\cs[6]?=I h'.m.v/\cs[7]?=I h'.w.v/\gU Y (R+1) h' c E j a e f g:=
 Lh h.t.t h.e h.d h.m h.q h.be h.bd h.bm h.se h.sd h.sm z (λo=>o.pK b)
end Yd
namespace Yd
open Option renaming none->B,some->G
open Go Go.RowKit Go.Proofs Go.Maps Tryz
open Go.Obj renaming cells->I
open Go.Value renaming slice->C,int->L
open Tryz renaming prog->J
open World renaming cell?_setCell_same'->H
open Yd renaming hid->D
attribute [local go_sem] Oper.semAt_some
theorem LY (a:Option Addr)(c:Nat)(P:List aW)(p:List aK)(B0:Nat)(w:World)(hr:Row w 6 mZ a P.length c P)(hl:pW w B0 P p)(f:∀s∈p,s.names.length<=1000/\s.aM.length<=1000)(hG:yX w):
  Calls J 18 #[C a P.length c] w (PX w p):=by
 have b4:P.length<=140737488355328:=hr.le;have HR:=D hr;have HL:=D hl;have k6:=D f;have HG:=D hG;have j8:=D hl.1;clear hr hl f hG;obtain⟨W1,Ξ⟩:∃W,W=w.alloc (I #[C B 0 0,C B 0 0,C B 0 0,C B 0 0,C B 0 0,C B 0 0,C B 0 0,C B 0 0] 41):=⟨_,rfl⟩;obtain⟨W2,ξ⟩:∃W,W=W1.alloc (.map #[] 0):=⟨_,rfl⟩;have q4:W1.1.size=w.1.size+1:=by rw[Ξ];simp
 have β:W2.1.size=w.1.size+2:=by rw[ξ,World.size_alloc,q4]
 have t:Below w.1.size w W1:=by rw[Ξ];exact aB (Below.refl _ _) _
 have γ:Below w.1.size w W2:=by rw[ξ];exact t.alloc ah _
 have j9:Below w.1.size w (W2.alloc (I (xU (w.1.size+1)) 88)):=γ.alloc ah _;have z0:Bx (W2.alloc (I (xU (w.1.size+1)) 88)) w.1.size (aI gL):=by rw[ξ,Ξ];exact((Bx.new w _ _).alloc _).alloc _
 have z1:jm W2 (w.1.size+1) []:=by have:=jm.new W1;rw[q4,<-ξ] at this;exact this
 have Q:=gZ.start W2 (w.1.size+1) (w.1.size+1) z1 (aC _) ah;rw[β] at Q;have k7:=D j9;have k8:=D z0;have k9:=D Q;clear t γ j9 z0 z1 Q;go_enter Tryz.func18,Tryz.ntmps18;have y0:= @run_makeMap J;go_wp2_with fail;clear y0;subst ξ;subst Ξ;clear q4 β
 go_loopw [15] (λi X=>∃(k:Nat)(cs:Array Value)(q:Cont)(es:List EvC)(ds:List aO)(ms:List aP),k<=P.length/\i= L .i64 k/\Below w.1.size w X/\Bx X w.1.size (aI gL)/\gZ (w.1.size+1) X (w.1.size+2) cs q es ds ms/\aR q/\gX q/\qD iD 0 p=qD q k (p.drop k)) (λi _=>P.length - (RowKit.intOf i).toNat)
 case atStart=>exact⟨0,_,iD,[],[],[],aS _,rfl,k7.q,k8.q,k9.q,zJ,gX.zero,by rw[List.drop_zero]⟩
 case round=>
  obtain⟨k,cs,q,es,ds,ms,hk,rfl,f,δ,Q,hf,ο,θ⟩:=hrel;by_cases y1:k<P.length
  .obtain⟨x,b,o,hx,rfl,hc⟩:=HR.q.at_ y1
   have h0:=aZ f rfl (hc 0 _ rfl);have h1:=aZ f rfl (hc 1 _ rfl);have d:=aZ f rfl (hc 2 _ rfl);have h3:=aZ f rfl (hc 3 _ rfl);have h4:=aZ f rfl (hc 4 _ rfl);have h5:=aZ f rfl (hc 5 _ rfl);simp only[bK] at h0;obtain⟨s,hs,q5⟩:=HL.q.2 k x hx;have z2:s∈p:=bS hs;have π:=k6.q s z2;have q6:p.drop k=s::p.drop (k+1):=by
    obtain⟨y2,e⟩:=bq.1 hs;rw[<-e];exact jV y2
   rw[q6] at θ;have ρ:qD iD 0 p=if lg s=true then(if sI (aT q s)=true then qD (aT q s) (k+1) (p.drop (k+1)) else .error (k,6)) else .error (k,220):=θ;have z3:Hid (∀W,Below w.1.size w W->Calls J 33 #[dH x] W (bT (L .i64 (if lg s=true then 0 else 220)) W)):=D (λW z=>Dz (q5.below z) π.1 π.2 (HG.q.l.below z));have g:=D f;have Φ:=D δ;have y3:=D Q;have HF:=D hf;have q7:=D ο;have σ:=D ρ;have b5:=D q6;have y4:Hid (∀W,Below wr.1.size wr W->lg s=true->Calls J 34 #[.pointer (G ⟨w.1.size+2,0,B⟩),dH x] W (vZ (w.1.size+1) (w.1.size+2) (aT q s) W)):=D (λW z ι=>
    UE x s W (y3.q.below z) HF.q ((q5.Xh π.1 π.2 (Nat.le_succ w.1.size)).below (g.q.bL z)) (vJ ι) (HG.q.add (g.q.bL z) (Nat.le_succ _)))
   have q8:Hid (w.1.size<=wr.1.size):=D f.size;have τ:=δ.1;have υ:=δ.2.1;have φ:=δ.2.2;clear f δ Q hf ο θ ρ q6 π z2 q5 hs hx hc;by_cases ι:lg s=true
   .have T:=D ι
    have q9:Hid (∀W,Below w.1.size w W->Calls J 33 #[dH x] W (bT (L .i64 0) W)):=D (λW z=>by have:=z3.q W z;rw[aA T.q] at this;exact this);clear ι τ υ φ;go_wp2_with fail;refine(q9.q _ (g.q.alloc g.q.size _)).mono ?_;rintro e w1 ⟨rfl,t⟩;have j0:=D ((Below.refl wr.1.size wr).alloc (aC _) (I (bJ x) 34)|>.trans (t.mono ak));have χ:=D (g.q.trans (j0.q.mono q8.q));have κ:=D (Φ.q.keep j0.q);have z4:=(Bx.new wr (bJ x) 34).keep t;have z5:=z4.1;clear t z4;go_wp2_with fail;refine(y4.q _ j0.q T.q).mono ?_;rintro e w2 ⟨β,j1,j2⟩;have E:=D (β.bx κ.q ah);have μ:Hid (Below w.1.size w w2):=D (β.below χ.q (λi hi=>by omega) χ.q.size);by_cases ν:aR (aT q s)
    .obtain⟨rfl,y5,j3,j4,j5,z6⟩:=j1 ν
     have y6:=D z6;have j6:=D ν;clear j1 j2 β z5 z6 ν;go_wp2_with fail;go_roundw
     case rel=>exact⟨k+1,y5,aT q s,j3,j4,j5,by omega,by go_num,μ.q,E.q,y6.q,j6.q,q7.q.all [s] (λy hy=>by rw[dw.1 hy];exact vJ T.q) j6.q,by rw[σ.q,aA T.q,aA ((lG _).2 j6.q)]⟩
     case measure=>simp[RowKit.intOf];omega
    .obtain rfl:=j2 ν
     have y7:=D ν;have τ:=E.q.1;have υ:=E.q.2.1;have φ:=E.q.2.2;clear j1 j2 β z5 ν;go_wp2_with fail;have m:Bx ((((((((w2.setCell ⟨w.1.size,0,B⟩ (C B 0 0)).setCell ⟨w.1.size,1,B⟩ (C B 0 0)).setCell ⟨w.1.size,2,B⟩ (C B 0 0)).setCell ⟨w.1.size,3,B⟩ (C B 0 0)).setCell ⟨w.1.size,4,B⟩ (C B 0 0)).setCell ⟨w.1.size,5,B⟩ (C B 0 0)).setCell ⟨w.1.size,6,B⟩ (C B 0 0)).setCell ⟨w.1.size,7,B⟩ (C B 0 0)) w.1.size (aI gL):=lI (h':=gL) E.q;have l:Same (λi=>i≠w.1.size) w2 ((((((((w2.setCell ⟨w.1.size,0,B⟩ (C B 0 0)).setCell ⟨w.1.size,1,B⟩ (C B 0 0)).setCell ⟨w.1.size,2,B⟩ (C B 0 0)).setCell ⟨w.1.size,3,B⟩ (C B 0 0)).setCell ⟨w.1.size,4,B⟩ (C B 0 0)).setCell ⟨w.1.size,5,B⟩ (C B 0 0)).setCell ⟨w.1.size,6,B⟩ (C B 0 0)).setCell ⟨w.1.size,7,B⟩ (C B 0 0)):=iT (b:=w.1.size) (h':=gL);revert m l;generalize((((((((w2.setCell ⟨w.1.size,0,B⟩ (C B 0 0)).setCell ⟨w.1.size,1,B⟩ (C B 0 0)).setCell ⟨w.1.size,2,B⟩ (C B 0 0)).setCell ⟨w.1.size,3,B⟩ (C B 0 0)).setCell ⟨w.1.size,4,B⟩ (C B 0 0)).setCell ⟨w.1.size,5,B⟩ (C B 0 0)).setCell ⟨w.1.size,6,B⟩ (C B 0 0)).setCell ⟨w.1.size,7,B⟩ (C B 0 0))=Z;intro m l;have ψ:=m.1;refine bodyPost_ret (v:= .tuple #[fB gL,L .i64 (k:Int),L .i64 6]) (by simp[results,results18,go_sem,ψ]) rfl ⟨l.below μ.q (λi hi=>by omega) μ.q.size,?_⟩;rw[σ.q,aA T.q,ay (λe=>y7.q ((lG _).1 e))]
   .have T:=D ι
    have q9:Hid (∀W,Below w.1.size w W->Calls J 33 #[dH x] W (bT (L .i64 220) W)):=D (λW z=>by have:=z3.q W z;rw[ay T.q] at this;exact this);clear ι τ υ φ;go_wp2_with fail;refine(q9.q _ (g.q.alloc g.q.size _)).mono ?_;rintro e w1 ⟨rfl,t⟩;have χ:=D ((g.q.alloc g.q.size _).trans (t.mono (by have:=q8.q;simp;omega)));have κ:=D ((Φ.q.alloc _).keep t);have τ:=κ.q.1;have υ:=κ.q.2.1;have φ:=κ.q.2.2;clear t;go_wp2_with fail;have m:Bx ((((((((w1.setCell ⟨w.1.size,0,B⟩ (C B 0 0)).setCell ⟨w.1.size,1,B⟩ (C B 0 0)).setCell ⟨w.1.size,2,B⟩ (C B 0 0)).setCell ⟨w.1.size,3,B⟩ (C B 0 0)).setCell ⟨w.1.size,4,B⟩ (C B 0 0)).setCell ⟨w.1.size,5,B⟩ (C B 0 0)).setCell ⟨w.1.size,6,B⟩ (C B 0 0)).setCell ⟨w.1.size,7,B⟩ (C B 0 0)) w.1.size (aI gL):=lI (h':=gL) κ.q;have l:Same (λi=>i≠w.1.size) w1 ((((((((w1.setCell ⟨w.1.size,0,B⟩ (C B 0 0)).setCell ⟨w.1.size,1,B⟩ (C B 0 0)).setCell ⟨w.1.size,2,B⟩ (C B 0 0)).setCell ⟨w.1.size,3,B⟩ (C B 0 0)).setCell ⟨w.1.size,4,B⟩ (C B 0 0)).setCell ⟨w.1.size,5,B⟩ (C B 0 0)).setCell ⟨w.1.size,6,B⟩ (C B 0 0)).setCell ⟨w.1.size,7,B⟩ (C B 0 0)):=iT (b:=w.1.size) (h':=gL);revert m l;generalize((((((((w1.setCell ⟨w.1.size,0,B⟩ (C B 0 0)).setCell ⟨w.1.size,1,B⟩ (C B 0 0)).setCell ⟨w.1.size,2,B⟩ (C B 0 0)).setCell ⟨w.1.size,3,B⟩ (C B 0 0)).setCell ⟨w.1.size,4,B⟩ (C B 0 0)).setCell ⟨w.1.size,5,B⟩ (C B 0 0)).setCell ⟨w.1.size,6,B⟩ (C B 0 0)).setCell ⟨w.1.size,7,B⟩ (C B 0 0))=Z;intro m l;have ψ:=m.1;refine bodyPost_ret (v:= .tuple #[fB gL,L .i64 (k:Int),L .i64 220]) (by simp[results,results18,go_sem,ψ]) rfl ⟨l.below χ.q (λi hi=>by omega) χ.q.size,?_⟩;rw[σ.q,ay T.q]
  .obtain rfl:k=P.length:=by omega
   rw[j8.q,List.drop_length] at θ;have ρ:qD iD 0 p= .ok q:=θ;obtain⟨h',b6,dn,mn,c8,c4,c5,c6,c7,ho⟩:=Q.s.his (ο.Ea hf) (Same.refl' wr);have n:=Q.s.t.b;have y8:11<cs.size:=(fH.1 (c8 3 ah)).1;have ω:∀j,j<4->∃v,wr.cell? ⟨w.1.size+2,j,B⟩=G v:=λj hj=>⟨_,(n.1 j).trans (FP ah)⟩
   obtain⟨q0,z7⟩:=ω 0 ah;obtain⟨q1,z8⟩:=ω 1 ah;obtain⟨q2,z9⟩:=ω 2 ah;obtain⟨q3,v0⟩:=ω 3 ah;have v1:wr.cell? ⟨w.1.size+2,8,B⟩=G h'.t.v:=(n.1 8).trans (c8 0 ah);have v2:wr.cell? ⟨w.1.size+2,9,B⟩=G h'.s.v:=(n.1 9).trans (c8 1 ah);have v3:wr.cell? ⟨w.1.size+2,10,B⟩=G h'.o.v:=(n.1 10).trans (c8 2 ah);have v4:wr.cell? ⟨w.1.size+2,11,B⟩=G h'.p.v:=(n.1 11).trans (c8 3 ah);have v5:wr.cell? ⟨w.1.size+2,4,B⟩=G h'.e.v:=(n.1 4).trans c4;have v6:wr.cell? ⟨w.1.size+2,5,B⟩=G h'.d.v:=(n.1 5).trans c5;have v7:wr.cell? ⟨w.1.size+2,6,B⟩=G h'.m.v:=(n.1 6).trans c6;have v8:wr.cell? ⟨w.1.size+2,7,B⟩=G h'.w.v:=(n.1 7).trans c7;have S:=n.2.1;have HQ:=D (⟨v1,v2,v3,v4⟩:_/\_/\_/\_);have Ψ:=D (⟨v5,v6,v7,v8⟩:_/\_/\_/\_);have Ω:=D n;have y9:=D ho;have g:=D f;have Φ:=D δ;have HF:=D hf;have q7:=D ο;have σ:=D ρ;have Γ:=D n.2.2;have q8:Hid (w.1.size<=wr.1.size):=D f.size;have α:=D (⟨z7,z8,z9,v0⟩:_/\_/\_/\_);clear θ ρ c8 c4 c5 c6 c7 ho n y8 ω v1 v2 v3 v4 v5 v6 v7 v8 f δ Q hf ο S z7 z8 z9 v0;go_wp2_with fail;refine aD 43 [(0,0),(1,0),(2,0),(3,0),(4,0),(5,0),(6,0),(7,0),(8,0),(9,0),(10,0),(11,0),(12,0),(13,0),(14,0),(15,0),(16,0),(17,0),(18,0),(19,0),(20,0),(21,0),(22,0),(23,0),(24,0),(25,0),(26,0),(27,0),(28,0),(29,0),(30,0),(31,2),(32,0),(33,0),(34,0),(35,2),(36,0),(37,0),(38,0),(39,2),(40,1),(41,1),(42,0),(43,2)] (λ_=>True) (λW'=>W'.cell? ⟨w.1.size+2,8,B⟩=G h'.t.v/\W'.cell? ⟨w.1.size+2,9,B⟩=G h'.s.v/\W'.cell? ⟨w.1.size+2,10,B⟩=G h'.o.v/\W'.cell? ⟨w.1.size+2,11,B⟩=G h'.p.v) au au (trivial) (HQ.q) ?_;refine qC ?_;refine aG rfl rfl (λK r=>?_);go_simp;have S:=Ω.q.2.1;have ε:=Γ.q;have ζ:=α.q.1;go_simp;have Δ:=D (show _/\_/\_/\_ from⟨eO (o':=0) (u:=h'.t.v) HQ.q.1 aj,eO (o':=0) (u:=h'.t.v) HQ.q.2.1 aj,eO (o':=0) (u:=h'.t.v) HQ.q.2.2.1 aj,eO (o':=0) (u:=h'.t.v) HQ.q.2.2.2 aj⟩);refine r _ _ ⟨trivial,Δ.q⟩ ?_;clear r K S ε ζ;refine qC ?_;refine aG rfl rfl (λK r=>?_);go_simp;have S:=Ω.q.2.1;have ε:=Γ.q;have ζ:=α.q.2.1;go_simp;have Θ:=D (show _/\_/\_/\_ from⟨eO (o':=1) (u:=h'.s.v) Δ.q.1 aj,eO (o':=1) (u:=h'.s.v) Δ.q.2.1 aj,eO (o':=1) (u:=h'.s.v) Δ.q.2.2.1 aj,eO (o':=1) (u:=h'.s.v) Δ.q.2.2.2 aj⟩);refine r _ _ ⟨trivial,Θ.q⟩ ?_;clear r K S ε ζ;refine qC ?_;refine aG rfl rfl (λK r=>?_);go_simp;have S:=Ω.q.2.1;have ε:=Γ.q;have ζ:=α.q.2.2.1;go_simp;have x0:=D (show _/\_/\_/\_ from⟨eO (o':=2) (u:=h'.o.v) Θ.q.1 aj,eO (o':=2) (u:=h'.o.v) Θ.q.2.1 aj,eO (o':=2) (u:=h'.o.v) Θ.q.2.2.1 aj,eO (o':=2) (u:=h'.o.v) Θ.q.2.2.2 aj⟩);refine r _ _ ⟨trivial,x0.q⟩ ?_;clear r K S ε ζ;refine qC ?_;refine bA rfl rfl rfl (λK r=>?_);go_simp;have S:=Ω.q.2.1;have ε:=Γ.q;have ζ:=α.q.2.2.2;go_simp;refine r _ _ trivial ?_;clear r K S ε ζ;refine aH ?_;have hy:∀j v,wr.cell? ⟨w.1.size+2,j,B⟩=G v->4<=j->((((wr.setCell ⟨w.1.size+2,0,B⟩ h'.t.v).setCell ⟨w.1.size+2,1,B⟩ h'.s.v).setCell ⟨w.1.size+2,2,B⟩ h'.o.v).setCell ⟨w.1.size+2,3,B⟩ h'.p.v).cell? ⟨w.1.size+2,j,B⟩=G v:=λj v hv hj=>eO (eO (eO (eO hv ah) ah) ah) ah
   have v9:((((wr.setCell ⟨w.1.size+2,0,B⟩ h'.t.v).setCell ⟨w.1.size+2,1,B⟩ h'.s.v).setCell ⟨w.1.size+2,2,B⟩ h'.o.v).setCell ⟨w.1.size+2,3,B⟩ h'.p.v).cell? ⟨w.1.size+2,0,B⟩=G h'.t.v:=eO (eO (eO (H _ _ _ (by rw[α.q.1];rfl)) aj) aj) aj;have k0:((((wr.setCell ⟨w.1.size+2,0,B⟩ h'.t.v).setCell ⟨w.1.size+2,1,B⟩ h'.s.v).setCell ⟨w.1.size+2,2,B⟩ h'.o.v).setCell ⟨w.1.size+2,3,B⟩ h'.p.v).cell? ⟨w.1.size+2,1,B⟩=G h'.s.v:=eO (eO (H _ _ _ (by rw[eO α.q.2.1 aj];rfl)) aj) aj;have k1:((((wr.setCell ⟨w.1.size+2,0,B⟩ h'.t.v).setCell ⟨w.1.size+2,1,B⟩ h'.s.v).setCell ⟨w.1.size+2,2,B⟩ h'.o.v).setCell ⟨w.1.size+2,3,B⟩ h'.p.v).cell? ⟨w.1.size+2,2,B⟩=G h'.o.v:=eO (H _ _ _ (by rw[eO (eO α.q.2.2.1 aj) aj];rfl)) aj;have k2:((((wr.setCell ⟨w.1.size+2,0,B⟩ h'.t.v).setCell ⟨w.1.size+2,1,B⟩ h'.s.v).setCell ⟨w.1.size+2,2,B⟩ h'.o.v).setCell ⟨w.1.size+2,3,B⟩ h'.p.v).cell? ⟨w.1.size+2,3,B⟩=G h'.p.v:=H _ _ _ (by rw[eO (eO (eO α.q.2.2.2 aj) aj) aj];rfl);have η:Same (λi=>i≠w.1.size+2) wr ((((wr.setCell ⟨w.1.size+2,0,B⟩ h'.t.v).setCell ⟨w.1.size+2,1,B⟩ h'.s.v).setCell ⟨w.1.size+2,2,B⟩ h'.o.v).setCell ⟨w.1.size+2,3,B⟩ h'.p.v).drew:=(((((Same.refl' wr).setTail (A:=λi=>i≠w.1.size+2) (λh=>h rfl)).setTail (λh=>h rfl)).setTail (λh=>h rfl)).setTail (λh=>h rfl)).mU;have F:=D (show((((wr.setCell ⟨w.1.size+2,0,B⟩ h'.t.v).setCell ⟨w.1.size+2,1,B⟩ h'.s.v).setCell ⟨w.1.size+2,2,B⟩ h'.o.v).setCell ⟨w.1.size+2,3,B⟩ h'.p.v).drew.cell? ⟨w.1.size+2,0,B⟩=G h'.t.v/\((((wr.setCell ⟨w.1.size+2,0,B⟩ h'.t.v).setCell ⟨w.1.size+2,1,B⟩ h'.s.v).setCell ⟨w.1.size+2,2,B⟩ h'.o.v).setCell ⟨w.1.size+2,3,B⟩ h'.p.v).drew.cell? ⟨w.1.size+2,1,B⟩=G h'.s.v/\((((wr.setCell ⟨w.1.size+2,0,B⟩ h'.t.v).setCell ⟨w.1.size+2,1,B⟩ h'.s.v).setCell ⟨w.1.size+2,2,B⟩ h'.o.v).setCell ⟨w.1.size+2,3,B⟩ h'.p.v).drew.cell? ⟨w.1.size+2,2,B⟩=G h'.o.v/\((((wr.setCell ⟨w.1.size+2,0,B⟩ h'.t.v).setCell ⟨w.1.size+2,1,B⟩ h'.s.v).setCell ⟨w.1.size+2,2,B⟩ h'.o.v).setCell ⟨w.1.size+2,3,B⟩ h'.p.v).drew.cell? ⟨w.1.size+2,3,B⟩=G h'.p.v/\((((wr.setCell ⟨w.1.size+2,0,B⟩ h'.t.v).setCell ⟨w.1.size+2,1,B⟩ h'.s.v).setCell ⟨w.1.size+2,2,B⟩ h'.o.v).setCell ⟨w.1.size+2,3,B⟩ h'.p.v).drew.cell? ⟨w.1.size+2,4,B⟩=G h'.e.v/\((((wr.setCell ⟨w.1.size+2,0,B⟩ h'.t.v).setCell ⟨w.1.size+2,1,B⟩ h'.s.v).setCell ⟨w.1.size+2,2,B⟩ h'.o.v).setCell ⟨w.1.size+2,3,B⟩ h'.p.v).drew.cell? ⟨w.1.size+2,5,B⟩=G h'.d.v/\((((wr.setCell ⟨w.1.size+2,0,B⟩ h'.t.v).setCell ⟨w.1.size+2,1,B⟩ h'.s.v).setCell ⟨w.1.size+2,2,B⟩ h'.o.v).setCell ⟨w.1.size+2,3,B⟩ h'.p.v).drew.cell? ⟨w.1.size+2,6,B⟩=G h'.m.v/\((((wr.setCell ⟨w.1.size+2,0,B⟩ h'.t.v).setCell ⟨w.1.size+2,1,B⟩ h'.s.v).setCell ⟨w.1.size+2,2,B⟩ h'.o.v).setCell ⟨w.1.size+2,3,B⟩ h'.p.v).drew.cell? ⟨w.1.size+2,7,B⟩=G h'.w.v from
    ⟨v9,k0,k1,k2,hy 4 _ Ψ.q.1 ah,hy 5 _ Ψ.q.2.1 ah,hy 6 _ Ψ.q.2.2.1 ah,hy 7 _ Ψ.q.2.2.2 ah⟩)
   clear hy v9 k0 k1 k2;revert F η;generalize((((wr.setCell ⟨w.1.size+1+1,0,B⟩ h'.t.v).setCell ⟨w.1.size+1+1,1,B⟩ h'.s.v).setCell ⟨w.1.size+1+1,2,B⟩ h'.o.v).setCell ⟨w.1.size+1+1,3,B⟩ h'.p.v).drew=Y;intro η F;have x1:w.1.size+2<Y.1.size:=kS Γ.q η.size;have j7:Hid (Below w.1.size w Y):=D (η.below g.q (λi hi=>by omega) g.q.size);have x2:=D (GZ (y9.q.same (η.mono (λi hi _=>by omega))) q7.q HF.q (HG.q.l.1.below j7.q));have x3:=D (η.bx Φ.q ah);have x4:=F.q.1;have m:=F.q.2.1;have l:=F.q.2.2.1;have x5:=F.q.2.2.2.1;have x6:=F.q.2.2.2.2.1;have x7:=F.q.2.2.2.2.2.1;have x8:=F.q.2.2.2.2.2.2.1;have x9:=F.q.2.2.2.2.2.2.2;clear η;go_wp2_with fail;refine x2.q.mono ?_;rintro e X2 ⟨d,j3,j4,j5,b0,b1,b2,rfl,k3,γ⟩;have b3:=D k3;have μ:=D γ;have k4:Hid (w.1.size+2<Y.1.size):=D x1;have E:=D (x3.q.keep (γ.alloc γ.size (I (aI d) 41)));have τ:=E.q.1;have υ:=E.q.2.1;have φ:=E.q.2.2;clear k3 γ x4 m l x5 x6 x7 x8 x9;go_wp2_with fail;have m:Bx (((((((((X2.alloc (I (aI d) 41)).setCell ⟨w.1.size,0,B⟩ d.t.v).setCell ⟨w.1.size,1,B⟩ d.s.v).setCell ⟨w.1.size,2,B⟩ d.o.v).setCell ⟨w.1.size,3,B⟩ d.p.v).setCell ⟨w.1.size,4,B⟩ d.e.v).setCell ⟨w.1.size,5,B⟩ d.d.v).setCell ⟨w.1.size,6,B⟩ d.m.v).setCell ⟨w.1.size,7,B⟩ d.w.v) w.1.size (aI d):=lI (h':=d) E.q;have l:Same (λi=>i≠w.1.size) (X2.alloc (I (aI d) 41)) (((((((((X2.alloc (I (aI d) 41)).setCell ⟨w.1.size,0,B⟩ d.t.v).setCell ⟨w.1.size,1,B⟩ d.s.v).setCell ⟨w.1.size,2,B⟩ d.o.v).setCell ⟨w.1.size,3,B⟩ d.p.v).setCell ⟨w.1.size,4,B⟩ d.e.v).setCell ⟨w.1.size,5,B⟩ d.d.v).setCell ⟨w.1.size,6,B⟩ d.m.v).setCell ⟨w.1.size,7,B⟩ d.w.v):=iT (b:=w.1.size) (h':=d);revert m l;generalize(((((((((X2.alloc (I (aI d) 41)).setCell ⟨w.1.size,0,B⟩ d.t.v).setCell ⟨w.1.size,1,B⟩ d.s.v).setCell ⟨w.1.size,2,B⟩ d.o.v).setCell ⟨w.1.size,3,B⟩ d.p.v).setCell ⟨w.1.size,4,B⟩ d.e.v).setCell ⟨w.1.size,5,B⟩ d.d.v).setCell ⟨w.1.size,6,B⟩ d.m.v).setCell ⟨w.1.size,7,B⟩ d.w.v)=Z;intro m l;have ψ:=m.1;have k5:Below w.1.size w (X2.alloc (I (aI d) 41)):=j7.q.trans ((μ.q.alloc μ.q.size _).mono j7.q.size);refine bodyPost_ret (v:= .tuple #[fB d,L .i64 (p.length:Int),L .i64 0]) (by simp[results,results18,go_sem,ψ,j8.q]) rfl ⟨l.below k5 (λi hi=>by omega) k5.size,?_⟩;rw[σ.q];exact⟨d,j3,j4,j5,b0,b1,b2,rfl,((b3.q.below (aB (Below.refl _ _) _)).same (l.mono (λi hi _=>by have:=k4.q;omega))).mono (by have:=k4.q;omega)⟩
end Yd
