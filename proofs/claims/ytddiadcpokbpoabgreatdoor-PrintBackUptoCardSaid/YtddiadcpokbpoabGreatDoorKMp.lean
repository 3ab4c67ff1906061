import Derived.Test.YtddiadcpokbpoabGreatDoorKA0
import Derived.Maps.OwnOps
import Derived.Maps.OwnSet
import Derived.WideKeyEntry
set_option linter.all false
set_option maxRecDepth 200000
set_option maxHeartbeats 8000000
namespace Yd
open Array renaming toList_push->H
open Option renaming some->C
open Go Go.Maps Go.ChangeShapes Go.WideShapes Go.MapKept Go.ChangeMaps
open Go.IntKind renaming i64->G
@[reducible] def mI (t x:Int):Value:= .agg #[.int G t,.int G x]
def l5 (P:Program)(k e:TypeId)(W:World)(b n:Nat)(f:Int->Int->Option Int):Prop:=
 ∃a:DataW Unit,IsMap a/\W.ownsMap P k (plainElem P e) b n a/\∀t x c,keyOf P k (mI t x)=C c->a.atKey c (.lit (.int G 0))= .lit (.int G ((f t x).getD 0))/\Maps.has a c=(f t x).isSome
section
variable {P:Program}{k e T:TypeId}{W W':World}{b n:Nat}{f:Int->Int->Option Int}
theorem l5.new (w:World):l5 P k e (w.alloc (.map #[] 0)) w.1.size 0 (λ_ _=>none):=
 ⟨.map [],⟨[],rfl⟩,World.ownsMap_made _ _ _ _,λt x a _=>⟨by simp[DataW.atKey],rfl⟩⟩
theorem l5.of_eq (h:l5 P k e W b n f)(q:W'.1[b]?=W.1[b]?):l5 P k e W' b n f:=by
 obtain⟨a,c,⟨d,g,i,F,j,l⟩,m⟩:=h;exact⟨a,c,⟨d,g,q.trans i,F,j,l⟩,m⟩
theorem l5.obj (h:l5 P k e W b n f):∃es a,W.1[b]?=C (.map es a):=(let⟨_,_,⟨es,a,c,_⟩,_⟩:=h;⟨es,a,c⟩)
theorem l5.lt (h:l5 P k e W b n f):b<W.1.size:=(let⟨_,_,a⟩:=h.obj;(dS.1 a).1)
theorem l5.look (h:l5 P k e W b n f)(K:WideMaps.KeyLaw P k)(i:P.underlying T=C (.map k e))(j:P.underlying e=C (.int G))(l:(zeroValue e).run P W= .ok (.int G 0) W){t x:Int}{d:Lit}(g:keyOf P k (mI t x)=C d):
  (Instr.lookup T (.map (C b)) (mI t x) false).run P W= .ok (.int G ((f t x).getD 0)) W:=by
 obtain⟨q,r,m,o⟩:=h;obtain⟨c,p,a,_⟩:=m.lookup_int (Keyed.of_law K) i j l g;rw[(o t x d g).1] at a;injection a with a;injection a with _ a;rw[a];exact p
theorem l5.put (h:l5 P k e W b n f)(K:WideMaps.KeyLaw P k)(r:P.underlying T=C (.map k e))(u:P.underlying e=C (.int G))(w:n<maxLen){t x v:Int}{o:Lit}(i:keyOf P k (mI t x)=C o)(y:(Lit.int G v).wf=true):
  ∃g,(Instr.mapUpdate T (.map (C b)) (mI t x) (.int G v)).run P W= .ok () g/\l5 P k e g b (n+1) (λa c=>if a=t/\c=x then C v else f a c)/\W.grownBy g (C b):=by
 obtain⟨z,j,A,B⟩:=h;obtain⟨g,E,F,Q⟩:=A.update (Keyed.of_law K) r w i (plainElem_int u y);refine⟨g,E,⟨z.put o (.lit (.int G v)),j.put _ _,F,λa c l d=>?_⟩,Q⟩;obtain⟨s,rfl⟩:=K.str i;show _=DataW.lit (Lit.int G ((if a=t/\c=x then C v else f a c).getD 0))/\_=(if a=t/\c=x then C v else f a c).isSome;by_cases m:a=t/\c=x
 .obtain⟨rfl,rfl⟩:=m
  obtain rfl:l= .string s:=by rw[i] at d;injection d with d;exact d.symm
  rw[atKey_put_same j (by trivial),has_put_same j (by trivial),av ⟨rfl,rfl⟩];exact⟨rfl,rfl⟩
 .have p:l≠ .string s:=λq=>by
   subst q;have:=K.inj d i;simp only[mI,Value.agg.injEq,Array.mk.injEq,List.cons.injEq,Value.int.injEq,true_and,and_true] at this;exact m this
  rw[atKey_put_other p,has_put_other p,au m];exact B a c l d
theorem l5.entry (h:l5 P k e W b n f)(K:WideMaps.KeyLaw P k)(d:P.underlying T=C (.map k e))(he:P.underlying e=C (.int G))(w:∀u:World,(zeroValue e).run P u= .ok (.int G 0) u)(hn:n<maxLen){t x v:Int}{kl:Lit}(a:keyOf P k (mI t x)=C kl)(hv:(Lit.int G v).wf=true):
  ∃(S:Value)(E:Nat)(z X:World),(Instr.mapEntry T (.map (C b)) (mI t x)).run P W= .ok (.tuple #[S,.int G E]) z/\(Instr.lookup T (.map (C b)) (mI t x) false).run P z= .ok (.int G ((f t x).getD 0)) z/\
   (Instr.entryStore T (.map (C b)) (.int G E) (.int G v)).run P z= .ok () X/\(∃o1,z=ChangeMaps.setBlock W b o1)/\(∃o2,X=ChangeMaps.setBlock W b o2)/\l5 P k e X b (n+1) (λt' x'=>if t'=t/\x'=x then C v else f t' x'):=by
 obtain⟨w',ε,ζ,ξ⟩:=h.put K d he hn a hv;have α:=h.look K d he (w W) a;obtain⟨D,hD,⟨m,Y,c,F,hs,hd⟩,ο⟩:=h;obtain⟨S,E,o,p,Z,h2,h3⟩:=WideElems.entry_then_store K d w c F a;have η:(ChangeMaps.setBlock W b (.map o p)).1[b]?=C (.map o p):=ChangeMaps.heap_setBlock_same c _;obtain⟨θ,ι,h4,A⟩:=h3 _ (.int G v) η;rw[ε] at A;injection A with _ A;have e2:ChangeMaps.setBlock (ChangeMaps.setBlock W b (.map o p)) b (.map θ ι)=w':=by
  rw[A];simp[ChangeMaps.setBlock]
 rw[e2] at h4;refine⟨S,E,_,w',Z,?_,h4,⟨_,rfl⟩,⟨_,A⟩,ζ⟩;have π:=w (ChangeMaps.setBlock W b (.map o p));have β:=(dS.1 c).1;rcases K.find W a m.toList F.keys with⟨Q,B⟩|⟨j,R,Q,B,k3⟩
 .have g:=Z
  simp[Instr.mapEntry,run_underlying d,run_getObj_map c,K.check W false a,Q,w,run_setObj_map _ c,Result.andThen] at g;have γ:=bJ (λu:World=>u.1[b]?) g.2;simp only[yX β] at γ;have hl:=γ.symm;have h0:(f t x).getD 0=0:=by
   have:=α;simp[Instr.lookup,run_underlying d,run_getObj_map c,K.check W _ a,Q,w,Result.andThen] at this;exact this.symm
  have κ:∀y∈(m.push ⟨mI t x,.int G 0,Y⟩).toList,∃l,keyOf P k y.key=C l:=λy r=>by
   rw[H,cu] at r;rcases r with r|r
   .exact F.keys y r
   .rw[bX.1 r];exact⟨_,a⟩
  rcases K.find (ChangeMaps.setBlock W b (.map o p)) a _ κ with⟨q1,q2⟩|⟨j,e1,q1,q2,q3⟩
  .exact absurd rfl (q2 ⟨mI t x,.int G 0,Y⟩ ak)
  .have s:=dA q2
   rw[H,cu] at s;rcases s with s|s
   .exact absurd q3 (B e1 s)
   .rw[bX.1 s] at q1
    have δ:=q1;rw[H] at δ;simp[Instr.lookup,run_underlying d,run_getObj_map hl,K.check _ _ a,δ,Result.andThen,h0]
 .have g:=Z
  have hj:m[j]?=C R:=by simpa using B
  simp[Instr.mapEntry,run_underlying d,run_getObj_map c,K.check W false a,Q,hj,k3,K.stays W a,run_setObj_map _ c,Result.andThen] at g;have μ:m.modify j (λq=>{key:=mI t x,val:=q.val,born:=q.born})=m:=by
   apply Array.ext'
   rw[Array.toList_modify,modify_eq_set _ _ _ _ B];have:(⟨mI t x,R.val,R.born⟩:MapEntry)=R:=by rw[<-k3]
   rw[this];exact WideElems.set_self _ _ _ B
  rw[μ] at g;have ν:W.1.setIfInBounds b (.map m Y)=W.1:=by
   apply Array.ext_getElem?
   intro i;by_cases hi:b=i
   .subst hi;rw[yX β,c]
   .rw[qx hi]
  rw[ν] at g;have hw:ChangeMaps.setBlock W b (.map o p)=W:=g.2.symm;rw[hw];exact α
end
end Yd
