import Derived.Test.YtddiadcpokbpoaaGreatDoorLA0
import Derived.Maps.OwnOps
import Derived.Maps.OwnSet
import Derived.WideKeyEntry
set_option linter.all false
set_option maxRecDepth 200000
set_option maxHeartbeats 8000000
namespace Yd
open Array renaming toList_push->g
open Option renaming some->a
open Go Go.Maps Go.ChangeShapes Go.WideShapes Go.MapKept Go.ChangeMaps
open Go.IntKind renaming i64->d
@[reducible] def nU (t x:Int):Value:= .agg #[.int d t,.int d x]
def nG (P:Program)(k e:TypeId)(W:World)(b n:Nat)(f:Int->Int->Option Int):Prop:=
 ∃D:DataW Unit,IsMap D/\W.ownsMap P k (plainElem P e) b n D/\∀t x kl,keyOf P k (nU t x)=a kl->D.atKey kl (.lit (.int d 0))= .lit (.int d ((f t x).getD 0))/\Maps.has D kl=(f t x).isSome
section
variable {P:Program}{k e T:TypeId}{W W':World}{b n:Nat}{f:Int->Int->Option Int}
theorem nG.new (w:World):nG P k e (w.alloc (.map #[] 0)) w.1.size 0 (λ_ _=>none):=
 ⟨.map [],⟨[],rfl⟩,World.ownsMap_made _ _ _ _,λt x kl _=>⟨by simp[DataW.atKey],rfl⟩⟩
theorem nG.of_eq (h:nG P k e W b n f)(q:W'.1[b]?=W.1[b]?):nG P k e W' b n f:=by
 obtain⟨D,hD,⟨es,clock,hb,F,hs,hd⟩,hat⟩:=h;exact⟨D,hD,⟨es,clock,q.trans hb,F,hs,hd⟩,hat⟩
theorem nG.obj (h:nG P k e W b n f):∃es clock,W.1[b]?=a (.map es clock):=(let⟨_,_,⟨es,clock,hb,_⟩,_⟩:=h;⟨es,clock,hb⟩)
theorem nG.lt (h:nG P k e W b n f):b<W.1.size:=(let⟨_,_,hb⟩:=h.obj;(dI.1 hb).1)
theorem nG.look (h:nG P k e W b n f)(K:WideMaps.KeyLaw P k)(hT:P.underlying T=a (.map k e))(he:P.underlying e=a (.int d))(hz:(zeroValue e).run P W= .ok (.int d 0) W){t x:Int}{kl:Lit}(hk:keyOf P k (nU t x)=a kl):
  (Instr.lookup T (.map (a b)) (nU t x) false).run P W= .ok (.int d ((f t x).getD 0)) W:=by
 obtain⟨D,hD,hown,hat⟩:=h;obtain⟨c,hrun,hc,_⟩:=hown.lookup_int (Keyed.of_law K) hT he hz hk;rw[(hat t x kl hk).1] at hc;injection hc with hc;injection hc with _ hc;rw[hc];exact hrun
theorem nG.put (h:nG P k e W b n f)(K:WideMaps.KeyLaw P k)(hT:P.underlying T=a (.map k e))(he:P.underlying e=a (.int d))(hn:n<maxLen){t x v:Int}{kl:Lit}(hk:keyOf P k (nU t x)=a kl)(hv:(Lit.int d v).wf=true):
  ∃w',(Instr.mapUpdate T (.map (a b)) (nU t x) (.int d v)).run P W= .ok () w'/\nG P k e w' b (n+1) (λt' x'=>if t'=t/\x'=x then a v else f t' x')/\W.grownBy w' (a b):=by
 obtain⟨D,hD,hown,hat⟩:=h;obtain⟨w',hrun,r1,r2⟩:=hown.update (Keyed.of_law K) hT hn hk (plainElem_int he hv);refine⟨w',hrun,⟨D.put kl (.lit (.int d v)),hD.put _ _,r1,λt' x' kl' hk'=>?_⟩,r2⟩;obtain⟨s,rfl⟩:=K.str hk;show _=DataW.lit (Lit.int d ((if t'=t/\x'=x then a v else f t' x').getD 0))/\_=(if t'=t/\x'=x then a v else f t' x').isSome;by_cases hx:t'=t/\x'=x
 .obtain⟨rfl,rfl⟩:=hx
  obtain rfl:kl'= .string s:=by rw[hk] at hk';injection hk' with hk';exact hk'.symm
  rw[atKey_put_same hD (by trivial),has_put_same hD (by trivial),ay ⟨rfl,rfl⟩];exact⟨rfl,rfl⟩
 .have hne:kl'≠ .string s:=λq=>by
   subst q;have:=K.inj hk' hk;simp only[nU,Value.agg.injEq,Array.mk.injEq,List.cons.injEq,Value.int.injEq,true_and,and_true] at this;exact hx this
  rw[atKey_put_other hne,has_put_other hne,ak hx];exact hat t' x' kl' hk'
theorem nG.entry (h:nG P k e W b n f)(K:WideMaps.KeyLaw P k)(hT:P.underlying T=a (.map k e))(he:P.underlying e=a (.int d))(hz:∀u:World,(zeroValue e).run P u= .ok (.int d 0) u)(hn:n<maxLen){t x v:Int}{kl:Lit}(hk:keyOf P k (nU t x)=a kl)(hv:(Lit.int d v).wf=true):
  ∃(v0:Value)(st:Nat)(W1 W2:World),(Instr.mapEntry T (.map (a b)) (nU t x)).run P W= .ok (.tuple #[v0,.int d st]) W1/\(Instr.lookup T (.map (a b)) (nU t x) false).run P W1= .ok (.int d ((f t x).getD 0)) W1/\
   (Instr.entryStore T (.map (a b)) (.int d st) (.int d v)).run P W1= .ok () W2/\(∃o1,W1=ChangeMaps.setBlock W b o1)/\(∃o2,W2=ChangeMaps.setBlock W b o2)/\nG P k e W2 b (n+1) (λt' x'=>if t'=t/\x'=x then a v else f t' x'):=by
 obtain⟨w',hrun,hm',hg'⟩:=h.put K hT he hn hk hv;have acK:=h.look K hT he (hz W) hk;obtain⟨D,hD,⟨es,clock,hb,F,hs,hd⟩,hat⟩:=h;obtain⟨v0,st,es1,clock1,h1,h2,h3⟩:=WideElems.entry_then_store K hT hz hb F hk;have hb1:(ChangeMaps.setBlock W b (.map es1 clock1)).1[b]?=a (.map es1 clock1):=ChangeMaps.heap_setBlock_same hb _;obtain⟨es',clock',h4,h5⟩:=h3 _ (.int d v) hb1;rw[hrun] at h5;injection h5 with _ h5;have e2:ChangeMaps.setBlock (ChangeMaps.setBlock W b (.map es1 clock1)) b (.map es' clock')=w':=by
  rw[h5];simp[ChangeMaps.setBlock]
 rw[e2] at h4;refine⟨v0,st,_,w',h1,?_,h4,⟨_,rfl⟩,⟨_,h5⟩,hm'⟩;have hz1:=hz (ChangeMaps.setBlock W b (.map es1 clock1));have hbl:=(dI.1 hb).1;rcases K.find W hk es.toList F.keys with⟨k1,k2⟩|⟨j,e0,k1,k2,k3⟩
 .have hc:=h1
  simp[Instr.mapEntry,run_underlying hT,run_getObj_map hb,K.check W false hk,k1,hz,run_setObj_map _ hb,Result.andThen] at hc;have hc2:=dF (λu:World=>u.1[b]?) hc.2;simp only[vQ hbl] at hc2;have hl:=hc2.symm;have h0:(f t x).getD 0=0:=by
   have:=acK;simp[Instr.lookup,run_underlying hT,run_getObj_map hb,K.check W _ hk,k1,hz,Result.andThen] at this;exact this.symm
  have hks:∀y∈(es.push ⟨nU t x,.int d 0,clock⟩).toList,∃l,keyOf P k y.key=a l:=λy hy=>by
   rw[g,bJ] at hy;rcases hy with hy|hy
   .exact F.keys y hy
   .rw[bF.1 hy];exact⟨_,hk⟩
  rcases K.find (ChangeMaps.setBlock W b (.map es1 clock1)) hk _ hks with⟨q1,q2⟩|⟨j,e1,q1,q2,q3⟩
  .exact absurd rfl (q2 ⟨nU t x,.int d 0,clock⟩ au)
  .have hm:=bQ q2
   rw[g,bJ] at hm;rcases hm with hm|hm
   .exact absurd q3 (k2 e1 hm)
   .rw[bF.1 hm] at q1
    have q1':=q1;rw[g] at q1';simp[Instr.lookup,run_underlying hT,run_getObj_map hl,K.check _ _ hk,q1',Result.andThen,h0]
 .have hc:=h1
  have hj:es[j]?=a e0:=by simpa using k2
  simp[Instr.mapEntry,run_underlying hT,run_getObj_map hb,K.check W false hk,k1,hj,k3,K.stays W hk,run_setObj_map _ hb,Result.andThen] at hc;have hsame:es.modify j (λq=>{key:=nU t x,val:=q.val,born:=q.born})=es:=by
   apply Array.ext'
   rw[Array.toList_modify,modify_eq_set _ _ _ _ k2];have:(⟨nU t x,e0.val,e0.born⟩:MapEntry)=e0:=by rw[<-k3]
   rw[this];exact WideElems.set_self _ _ _ k2
  rw[hsame] at hc;have hself:W.1.setIfInBounds b (.map es clock)=W.1:=by
   apply Array.ext_getElem?
   intro i;by_cases hi:b=i
   .subst hi;rw[vQ hbl,hb]
   .rw[jO hi]
  rw[hself] at hc;have hw:ChangeMaps.setBlock W b (.map es1 clock1)=W:=hc.2.symm;rw[hw];exact acK
end
end Yd
