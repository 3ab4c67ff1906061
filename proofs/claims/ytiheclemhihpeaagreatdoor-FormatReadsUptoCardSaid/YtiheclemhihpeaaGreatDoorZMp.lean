import Derived.Test.YtiheclemhihpeaaGreatDoorZA0
import Derived.Maps.OwnOps
import Derived.Maps.OwnSet
import Derived.WideKeyEntry
set_option linter.all false
set_option maxRecDepth 200000
set_option maxHeartbeats 8000000
namespace Yd
open Array renaming toList_push->H
open Option renaming some->C
open Go Go.Maps Go.ChangeShapes Go.WideShapes Go.MapKept Go.ChangeMaps
open Go.IntKind renaming i64->G
@[reducible] def lX (t x:Int):Value:= .agg #[.int G t,.int G x]
def kH (P:Program)(k e:TypeId)(d:World)(b n:Nat)(f:Int->Int->Option Int):Prop:=
 ∃a:DataW Unit,IsMap a/\d.ownsMap P k (plainElem P e) b n a/\∀t x c,keyOf P k (lX t x)=C c->a.atKey c (.lit (.int G 0))= .lit (.int G ((f t x).getD 0))/\Maps.has a c=(f t x).isSome
section
variable {P:Program}{k e T:TypeId}{W W':World}{b n:Nat}{f:Int->Int->Option Int}
theorem kH.new (w:World):kH P k e (w.alloc (.map #[] 0)) w.1.size 0 (λ_ _=>none):=
 ⟨.map [],⟨[],rfl⟩,World.ownsMap_made _ _ _ _,λt x a _=>⟨by simp[DataW.atKey],rfl⟩⟩
theorem kH.of_eq (h:kH P k e W b n f)(q:W'.1[b]?=W.1[b]?):kH P k e W' b n f:=by
 obtain⟨a,c,⟨d,g,i,F,j,l⟩,m⟩:=h;exact⟨a,c,⟨d,g,q.trans i,F,j,l⟩,m⟩
theorem kH.obj (h:kH P k e W b n f):∃a c,W.1[b]?=C (.map a c):=(let⟨_,_,⟨a,c,d,_⟩,_⟩:=h;⟨a,c,d⟩)
theorem kH.lt (h:kH P k e W b n f):b<W.1.size:=(let⟨_,_,a⟩:=h.obj;(fH.1 a).1)
theorem kH.look (h:kH P k e W b n f)(K:WideMaps.KeyLaw P k)(a:P.underlying T=C (.map k e))(d:P.underlying e=C (.int G))(g:(zeroValue e).run P W= .ok (.int G 0) W){t x:Int}{i:Lit}(j:keyOf P k (lX t x)=C i):
  (Instr.lookup T (.map (C b)) (lX t x) false).run P W= .ok (.int G ((f t x).getD 0)) W:=by
 obtain⟨m,o,l,p⟩:=h;obtain⟨c,q,r,_⟩:=l.lookup_int (Keyed.of_law K) a d g j
 grind
theorem kH.put (h:kH P k e W b n f)(K:WideMaps.KeyLaw P k)(p:P.underlying T=C (.map k e))(r:P.underlying e=C (.int G))(u:n<maxLen){t x v:Int}{j:Lit}(g:keyOf P k (lX t x)=C j)(w:(Lit.int G v).wf=true):
  ∃w',(Instr.mapUpdate T (.map (C b)) (lX t x) (.int G v)).run P W= .ok () w'/\kH P k e w' b (n+1) (λa c=>if a=t/\c=x then C v else f a c)/\W.grownBy w' (C b):=by
 obtain⟨y,i,z,F⟩:=h;obtain⟨w',A,B,E⟩:=z.update (Keyed.of_law K) p u g (plainElem_int r w);refine⟨w',A,⟨y.put j (.lit (.int G v)),i.put _ _,B,λa c l d=>?_⟩,E⟩;obtain⟨s,rfl⟩:=K.str g;show _=DataW.lit (Lit.int G ((if a=t/\c=x then C v else f a c).getD 0))/\_=(if a=t/\c=x then C v else f a c).isSome;by_cases m:a=t/\c=x
 .obtain⟨rfl,rfl⟩:=m
  obtain rfl:l= .string s:=by rw[g] at d;injection d with d;exact d.symm
  rw[atKey_put_same i (by trivial),has_put_same i (by trivial),aA ⟨rfl,rfl⟩]
  grind
 .have o:l≠ .string s:=λq=>by
   subst q;have:=K.inj d g
   grind
  rw[atKey_put_other o,has_put_other o,ay m]
  grind
theorem kH.entry (h:kH P k e W b n f)(K:WideMaps.KeyLaw P k)(d:P.underlying T=C (.map k e))(he:P.underlying e=C (.int G))(p:∀u:World,(zeroValue e).run P u= .ok (.int G 0) u)(hn:n<maxLen){t x v:Int}{kl:Lit}(a:keyOf P k (lX t x)=C kl)(hv:(Lit.int G v).wf=true):
  ∃(R:Value)(A:Nat)(r S:World),(Instr.mapEntry T (.map (C b)) (lX t x)).run P W= .ok (.tuple #[R,.int G A]) r/\(Instr.lookup T (.map (C b)) (lX t x) false).run P r= .ok (.int G ((f t x).getD 0)) r/\
   (Instr.entryStore T (.map (C b)) (.int G A) (.int G v)).run P r= .ok () S/\(∃o1,r=ChangeMaps.setBlock W b o1)/\(∃o2,S=ChangeMaps.setBlock W b o2)/\kH P k e S b (n+1) (λt' x'=>if t'=t/\x'=x then C v else f t' x'):=by
 obtain⟨w',γ,δ,ξ⟩:=h.put K d he hn a hv;have ε:=h.look K d he (p W) a;obtain⟨D,hD,⟨i,X,c,F,hs,hd⟩,ο⟩:=h;obtain⟨R,A,m,o,Y,h2,h3⟩:=WideElems.entry_then_store K d p c F a;have ζ:(ChangeMaps.setBlock W b (.map m o)).1[b]?=C (.map m o):=ChangeMaps.heap_setBlock_same c _;obtain⟨η,θ,h4,s⟩:=h3 _ (.int G v) ζ;rw[γ] at s;injection s with _ s;have e2:ChangeMaps.setBlock (ChangeMaps.setBlock W b (.map m o)) b (.map η θ)=w':=by
  rw[s];simp[ChangeMaps.setBlock]
 rw[e2] at h4;refine⟨R,A,_,w',Y,?_,h4,⟨_,rfl⟩,⟨_,s⟩,δ⟩;have π:=p (ChangeMaps.setBlock W b (.map m o));have ι:=(fH.1 c).1;rcases K.find W a i.toList F.keys with⟨B,E⟩|⟨j,Q,B,E,k3⟩
 .have g:=Y
  simp[Instr.mapEntry,run_underlying d,run_getObj_map c,K.check W false a,B,p,run_setObj_map _ c,Result.andThen] at g;have α:=cZ (λu:World=>u.1[b]?) g.2;simp only[ru ι] at α;have hl:=α.symm;have h0:(f t x).getD 0=0:=by
   have:=ε;simp[Instr.lookup,run_underlying d,run_getObj_map c,K.check W _ a,B,p,Result.andThen] at this;omega
  have κ:∀y∈(i.push ⟨lX t x,.int G 0,X⟩).toList,∃l,keyOf P k y.key=C l:=λy w=>by
   rw[H,cu] at w;rcases w with w|w
   .exact F.keys y w
   grind
  rcases K.find (ChangeMaps.setBlock W b (.map m o)) a _ κ with⟨Z,q2⟩|⟨j,e1,Z,q2,q3⟩
  .exact absurd rfl (q2 ⟨lX t x,.int G 0,X⟩ ak)
  .have z:=bS q2
   rw[H,cu] at z;rcases z with z|z
   .grind
   .rw[dw.1 z] at Z
    have β:=Z;rw[H] at β;simp[Instr.lookup,run_underlying d,run_getObj_map hl,K.check _ _ a,β,Result.andThen,h0]
 .have g:=Y
  have hj:i[j]?=C Q:=by simpa using E
  simp[Instr.mapEntry,run_underlying d,run_getObj_map c,K.check W false a,B,hj,k3,K.stays W a,run_setObj_map _ c,Result.andThen] at g;have μ:i.modify j (λq=>{key:=lX t x,val:=q.val,born:=q.born})=i:=by
   apply Array.ext'
   rw[Array.toList_modify,modify_eq_set _ _ _ _ E];have:(⟨lX t x,Q.val,Q.born⟩:MapEntry)=Q:=by rw[<-k3]
   rw[this];exact WideElems.set_self _ _ _ E
  rw[μ] at g;have ν:W.1.setIfInBounds b (.map i X)=W.1:=by
   apply Array.ext_getElem?
   grind
  rw[ν] at g;have hw:ChangeMaps.setBlock W b (.map m o)=W:=g.2.symm
  grind
end
end Yd
