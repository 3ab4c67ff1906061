import Derived.Test.YtiheclemhihpeaaGreatDoorZCuE
import Derived.Test.YtiheclemhihpeaaGreatDoorZOf2
set_option linter.all false
set_option maxRecDepth 200000
set_option maxHeartbeats 8000000
namespace Yd
open Go Go.RowKit Go.Proofs
open Go renaming World->o,Value->u
variable{A:Nat->Prop}{X Y:o}{row:Option Nat}
theorem za (a:X.grownBy Y row)(h:∀g,row=some g->¬A g):Same A X Y:=
 ⟨a.os,a.tape,a.output,a.size,λi b c=>a.block i c (λe=>h i e.symm b)⟩
variable{B:Nat}
theorem own_ne {α β:Type}{enc:α->List u}{b:β->List u}{k R:Nat}{B':Nat}{T t:TypeId}{v x:u}{xs:List α}{c:List β}(h:Own X B T k enc v xs)(h':Own X B' t R b x c)(d:T≠t){g:Nat}(e:v.ownBlock=some g):x.ownBlock≠some g:=λf=>by
 obtain⟨_,_,i⟩:=h.tag e;obtain⟨_,_,a⟩:=h'.tag f;rw[i] at a
 cases a
 exact d rfl
variable{l:aW}{s:aK}
theorem dZ.uh (h:dZ X B l s)(j:X.grownBy Y row)(k:∀g,row=some g->∃b T c,X.1[g]?=some (.cells b T c)/\9≠T/\61≠T):dZ Y B l s:=by
 refine⟨h.1,h.2.1.grown j (λg d e=>?_),h.2.2.grown j (λg d e=>?_)⟩
 .obtain⟨b,T,c,f,i,_⟩:=k g e
  obtain⟨_,_,a⟩:=h.2.1.tag d;rw[f] at a;cases a;exact i rfl
 .obtain⟨b,T,c,f,_,i⟩:=k g e
  obtain⟨_,_,a⟩:=h.2.2.tag d;rw[f] at a;cases a;exact i rfl
theorem pW.uh {a:List aW}{b:List aK}(h:pW X B a b)(c:X.grownBy Y row)(d:∀g,row=some g->∃e T f,X.1[g]?=some (.cells e T f)/\9≠T/\61≠T):pW Y B a b:=
 ⟨h.1,λi l j=>let⟨s,k,m⟩:=h.2 i l j;⟨s,k,m.uh c d⟩⟩
variable{w:o}
theorem pW.same {w':o}{c:List aW}{d:List aK}(h:pW w B c d)(e:Same A w w')(f:∀i,B<=i->A i):pW w' B c d:=
 ⟨h.1,λi l j=>let⟨s,k,a⟩:=h.2 i l j;⟨s,k,a.1,a.2.1.same e (λg b=>f g (a.2.1.lt g b).1),a.2.2.same e (λg b=>f g (a.2.2.lt g b).1)⟩⟩
theorem pW.snoc {b:List aW}{d:List aK}(h:pW w B b d)(g:dZ w B l s):pW w B (b++[l]) (d++[s]):=by
 have e:=h.1;refine⟨by simp[h.1],λi q a=>?_⟩;rcases jk i b.length with f|f
 .rw[uM f] at a
  obtain⟨t,j,k⟩:=h.2 i q a;exact⟨t,by rw[uM ah];exact j,k⟩
 .rw[su f] at a
  have c:i - b.length=0:=by
   rcases Nat.eq_zero_or_pos (i - b.length) with c|c
   .exact c
   .rw[wG (by simp;omega)] at a;cases a
  rw[c] at a;injection a with a;subst a;exact⟨s,by rw[su ah,show i - d.length=0 by omega];rfl,g⟩
theorem dZ.same {w':o}(h:dZ w B l s)(b:Same A w w')(c:∀i,B<=i->A i):dZ w' B l s:=
 ⟨h.1,h.2.1.same b (λg a=>c g (h.2.1.lt g a).1),h.2.2.same b (λg a=>c g (h.2.2.lt g a).1)⟩
structure nP (K N:Nat)(X:o)(v4 v5 vL:u)(jb:List aW)(ls:List aK)(vP:u)(ps:List Int):Prop where
 x4:Bx X K #[v4]
 x5:Bx X (K+1) #[v5]
 oL:Own X N 34 6 mZ vL jb
 aL:pW X N jb ls
 oP:Own X N 3 1 aQ vP ps
section
variable {K N:Nat}{X Y:o}{v4 v5 vL vP v':u}{jb:List aW}{ls:List aK}{ps:List Int}
theorem nP.same (h:nP K N X v4 v5 vL jb ls vP ps)(s:Same A X Y)(c:A K)(d:A (K+1))(a:∀i,N<=i->A i):nP K N Y v4 v5 vL jb ls vP ps:=
 ⟨s.bx h.x4 c,s.bx h.x5 d,h.oL.same s (λg b=>a g (h.oL.lt g b).1),h.aL.same s a,h.oP.same s (λg b=>a g (h.oP.lt g b).1)⟩
theorem nP.below (h:nP K N X v4 v5 vL jb ls vP ps)(a:Below X.1.size X Y):nP K N Y v4 v5 vL jb ls vP ps:=h.same (A:=λ_=>True) (Same.of_below a (λi _ b=>b)) trivial trivial (λ_ _=>trivial)
theorem nP.EY (h:nP K N X v4 v5 vL jb ls vP ps):∀g,vL.ownBlock=some g->∃cs T a,X.1[g]?=some (.cells cs T a)/\9≠T/\61≠T:=λg b=>(let⟨cs,a,e⟩:=h.oL.tag b;⟨cs,_,a,e,by decide,by decide⟩)
theorem nP.Nh (h:nP K N X v4 v5 vL jb ls vP ps):∀g,vP.ownBlock=some g->∃cs T a,X.1[g]?=some (.cells cs T a)/\9≠T/\61≠T:=λg b=>(let⟨cs,a,e⟩:=h.oP.tag b;⟨cs,_,a,e,by decide,by decide⟩)
theorem nP.Je (h:nP K N X v4 v5 vL jb ls vP ps)(b:dZ X N l s)(c:Own Y N 34 6 mZ v' (jb++[l]))(a:X.grownBy Y vL.ownBlock)(f:K+1<N):nP K N Y v4 v5 v' (jb++[l]) (ls++[s]) vP ps:=
 ⟨h.x4.grown a (λe=>by have:=(h.oL.lt _ e).1;omega),h.x5.grown a (λe=>by have:=(h.oL.lt _ e).1;omega),c,(h.aL.uh a h.EY).snoc (b.uh a h.EY),h.oP.grown a (λg d e=>own_ne h.oP h.oL aj d e)⟩
theorem nP.Jf (h:nP K N X v4 v5 vL jb ls vP ps){p:Int}(b:Own Y N 3 1 aQ v' (ps++[p]))(a:X.grownBy Y vP.ownBlock)(d:K+1<N):nP K N Y v4 v5 vL jb ls v' (ps++[p]):=
 ⟨h.x4.grown a (λe=>by have:=(h.oP.lt _ e).1;omega),h.x5.grown a (λe=>by have:=(h.oP.lt _ e).1;omega),h.oL.grown a (λg c e=>own_ne h.oL h.oP aj c e),h.aL.uh a h.Nh,b⟩
theorem nP.XJ (h:nP K N X v4 v5 vL jb ls vP ps)(v:u)(b:K+1<N):nP K N (X.setCell ⟨K,0,none⟩ v) v v5 vL jb ls vP ps:=by
 have s:Same (λi=>i≠K) X (X.setCell ⟨K,0,none⟩ v):=(Same.refl' X).setTail (λh=>h rfl);exact⟨h.x4.set1 v,s.bx h.x5 ah,h.oL.same s (λg a=>by have:=(h.oL.lt g a).1;omega),h.aL.same s (λ_ c=>by omega),h.oP.same s (λg a=>by have:=(h.oP.lt g a).1;omega)⟩
theorem nP.XK (h:nP K N X v4 v5 vL jb ls vP ps)(v:u)(b:K+1<N):nP K N (X.setCell ⟨K+1,0,none⟩ v) v4 v vL jb ls vP ps:=by
 have s:Same (λi=>i≠K+1) X (X.setCell ⟨K+1,0,none⟩ v):=(Same.refl' X).setTail (λh=>h rfl);exact⟨s.bx h.x4 ah,h.x5.set1 v,h.oL.same s (λg a=>by have:=(h.oL.lt g a).1;omega),h.aL.same s (λ_ c=>by omega),h.oP.same s (λg a=>by have:=(h.oP.lt g a).1;omega)⟩
end
theorem xC (s:Bs):∀(n p:Nat),(iH s n p).length<=n
 |0,_=>aC _
 |n+1,p=>by
  unfold iH
  split
  .rw[iC]
   split
   .exact Nat.succ_le_succ (xC s n _)
   .exact Nat.succ_le_succ (aS _)
  .exact aS _
theorem Row.Xc (X:o)(l:aW):Row (X.alloc (.cells #[.int .i64 l.kind,.slice l.na l.nn l.nc,.int .i64 l.lvl,.slice l.va l.vn l.vc,.bool l.first,.int .i64 l.bits] 34)) 6 mZ (some ⟨X.1.size,0,none⟩) 1 1 [l]:=
 (Own.new (hc:=Cg) X X.1.size 34 (bJ l) [l] (aC _) rfl (by simp[maxLen])).row ak
def iP (s:Bs):Except (Int × Int) (List (aK × Int)):=if 131072<s.length then .error (0,3) else jO s (s.length+1) 0
def BS (s:Bs)(w:o)(e:Ending)(X:o):Prop:=
 Below w.1.size w X/\
 match iP s with
 | .ok r=>∃a c jb b d,e= .returned (.tuple #[.slice a jb.length c,.slice b r.length d,.int .i64 (s.length:Int),.int .i64 0])/\Own X w.1.size 34 6 mZ (.slice a jb.length c) jb/\pW X w.1.size jb (r.map Prod.fst)/\Own X w.1.size 3 1 aQ (.slice b r.length d) (r.map Prod.snd)
 | .error (n,m)=>e= .returned (.tuple #[.slice none 0 0,.slice none 0 0,.int .i64 n,.int .i64 m])
end Yd
