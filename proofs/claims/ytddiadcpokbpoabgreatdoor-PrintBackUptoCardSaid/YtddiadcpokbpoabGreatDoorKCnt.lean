import Derived.Test.YtddiadcpokbpoabGreatDoorKFm1
import Derived.Test.YtddiadcpokbpoabGreatDoorKRSame
import Derived.WideKeyPair
import Derived.WideKeyEntry
set_option linter.all false
set_option maxRecDepth 200000
set_option maxHeartbeats 8000000
namespace Yd
open Go Go.RowKit Go.Proofs Go.Maps Tryz
open Go renaming World->G
open Tryz renaming prog->C
open Go.ChangeMaps (setBlock heap_setBlock_same heap_setBlock_other)
theorem VZ:Go.WideMaps.ArrKey C 154 3 2:=⟨underlying154,by kernel_rfl,by kernel_rfl,by kernel_rfl⟩
theorem zq:Go.WideMaps.KeyLaw C 154:=VZ.law
theorem Ay:Keyed C 154:=Keyed.of_law zq
theorem V3:∃m,Tryz.prog.types.size=m+1:=⟨Tryz.prog.types.size - 1,by kernel_rfl⟩
theorem zu (w:G):(zeroValue 3).run C w= .ok (.int .i64 0) w:=ay
@[reducible] def o8 (n:Int):Prop:=(Lit.int .i64 n).wf=true
@[reducible] def kV (t o:Int):Value:= .agg #[.int .i64 t,.int .i64 o]
def kL (t o:Int):Lit:= .string (keyBytes [.int .i64 t,.int .i64 o])
variable{t o:Int}
theorem DY (a:o8 t)(b:o8 o):keyOf C 154 (kV t o)=some (kL t o):=Go.WideMaps.keyOf_pair VZ underlying3 V3 a b
theorem V5 {n o':Int}(b:o8 t)(c:o8 o)(d:o8 n)(e:o8 o')(h:kL t o=kL n o'):(t,o)=(n,o'):=by
 have a:=DY b c;rw[h] at a;have:=zq.inj a (DY d e);simp only[kV,Value.agg.injEq] at this
 simpa using this
def gU (W:G)(b:Nat)(c:List (Int × Int)):Prop:=
 ∃a:DataW Unit,IsMap a/\W.ownsMap C 154 (plainElem C 3) b c.length a/\∀t o,o8 t->o8 o->a.atKey (kL t o) (.lit (.int .i64 0))= .lit (.int .i64 (c.count (t,o):Nat))
theorem gU.new (w:G):gU (w.alloc (.map #[] 0)) w.1.size []:=⟨.map [],⟨[],rfl⟩,World.ownsMap_made _ _ _ _,λt o _ _=>by simp[DataW.atKey]⟩
variable{W:G}{b:Nat}{p:List (Int × Int)}
theorem gU.of_eq {X:G}(h:gU W b p)(e:X.1[b]?=W.1[b]?):gU X b p:=by
 obtain⟨a,c,⟨d,f,g,F,i,j⟩,k⟩:=h;exact⟨a,c,⟨d,f,e.trans g,F,i,j⟩,k⟩
theorem gU.lt (h:gU W b p):b<W.1.size:=by
 obtain⟨c,d,a,e⟩:=h;exact a.lt
theorem gU.look (h:gU W b p)(d:o8 t)(e:o8 o):(Instr.lookup 153 (.map (some b)) (kV t o) false).run C W= .ok (.int .i64 (p.count (t,o):Nat)) W:=by
 obtain⟨j,_,f,g⟩:=h;obtain⟨c,i,a,_⟩:=f.lookup_int Ay underlying153 underlying3 (zu W) (DY d e);rw[g t o d e] at a;simp only[DataW.lit.injEq,Lit.int.injEq,true_and] at a;rw[i,a]
variable{w:G}
theorem Az {α:Type}{a b:α}{X:G}(h:(Result.ok a w:Result α)= .ok b X):a=b/\w=X:=by cases h;exact⟨rfl,rfl⟩
theorem Gl {es:Array MapEntry}{R:Nat}(a:w.1[b]?=some (.map es R)):(setBlock w b (.map es R)).1[b]?=w.1[b]?:=by rw[heap_setBlock_same a,a]
theorem yK {o:Obj}{es:Array MapEntry}{R:Nat}(a:w.1[b]?=some (.map es R)):w.grownBy (setBlock w b o) (some b):=
 ⟨rfl,rfl,rfl,by simp[setBlock],λi _ c=>heap_setBlock_other a _ (λe=>c (by rw[e]))⟩
theorem gU.inc (h:gU W b p)(r:o8 t)(s:o8 o)(hn:p.length<1000000):
  ∃(z:Value)(w:Nat)(m:G),(Instr.mapEntry 153 (.map (some b)) (kV t o)).run C W= .ok (.tuple #[z,goInt w]) m/\W.grownBy m (some b)/\m.1.size=W.1.size/\
   (Instr.lookup 153 (.map (some b)) (kV t o) false).run C m= .ok (.int .i64 (p.count (t,o):Nat)) m/\
   ∀n:G,n.1[b]?=m.1[b]?->∃x,(Instr.entryStore 153 (.map (some b)) (goInt w) (.int .i64 ((p.count (t,o):Nat)+1))).run C n= .ok () x/\n.grownBy x (some b)/\x.1.size=n.1.size/\gU x b ((t,o)::p):=by
 obtain⟨D,y,u,A⟩:=h;have γ:o8 ((p.count (t,o):Nat)+1):=by
  have:=List.count_le_length (a:=(t,o)) (l:=p);exact WalkArith.wf_i64 ah
 obtain⟨wS,hS,δ,ξ⟩:=u.update Ay underlying153 (by unfold maxLen;omega) (DY r s) (plainElem_int underlying3 γ);obtain⟨g,q,d,F,hs,ο⟩:=id u;have f:=DY r s;obtain⟨z,w,π,ρ,B,_,ε⟩:=Go.WideElems.entry_then_store zq underlying153 zu d F f;refine⟨z,w,_,B,yK d,by simp[setBlock],?_,λn k=>?_⟩
 .rcases zq.find W f g.toList F.keys with⟨v,k⟩|⟨j,E,v,k,X⟩
  .have K:(Instr.mapEntry 153 (.map (some b)) (kV t o)).run C W= .ok (.tuple #[.int .i64 0,goInt q]) (setBlock W b (.map (g.push ⟨kV t o,.int .i64 0,q⟩) (q+1))):=by
    simp[Instr.mapEntry,run_underlying underlying153,MapKept.run_getObj_map d,zq.check W false f,v,MapKept.run_setObj_map _ d,Result.andThen,setBlock]
   have ζ:(Instr.mapUpdate 153 (.map (some b)) (kV t o) (.int .i64 0)).run C W= .ok () (setBlock W b (.map (g.push ⟨kV t o,.int .i64 0,q⟩) (q+1))):=by
    simp[Instr.mapUpdate,run_underlying underlying153,MapKept.run_getObj_map d,zq.check W false f,v,MapKept.run_setObj_map _ d,Result.andThen,setBlock]
   obtain⟨w0,P,η,_⟩:=u.update Ay underlying153 (by unfold maxLen;omega) f (plainElem_int (a:=0) underlying3 aj);have Q:=(Az (K.symm.trans B)).2;have P:=(Az (ζ.symm.trans P)).2;rw[<-Q,P];obtain⟨c,hl,R,_⟩:=η.lookup_int Ay underlying153 underlying3 (zu _) f;rw[atKey_put_same y (by trivial)] at R;simp only[DataW.lit.injEq,Lit.int.injEq,true_and] at R;have hz:(p.count (t,o):Nat)=0:=by
    obtain⟨c',θ,Y,_⟩:=u.lookup_int Ay underlying153 underlying3 (zu _) f;rw[A t o r s] at Y;simp only[DataW.lit.injEq,Lit.int.injEq,true_and] at Y;have ι:(Instr.lookup 153 (.map (some b)) (kV t o) false).run C W= .ok (.int .i64 0) W:=by
     simp[Instr.lookup,run_underlying underlying153,MapKept.run_getObj_map d,zq.check W g.isEmpty f,v,Result.andThen]
    have κ:=(Az (θ.symm.trans ι)).1;simp only[Value.int.injEq,true_and] at κ;omega
   rw[hl,hz,<-R];rfl
  .have hj:g[j]?=some E:=by simpa using k
   have μ:g.modify j (λe=>{e with key:=kV t o})=g:=by
    apply Array.ext'
    rw[Array.toList_modify]
    apply tF
    intro i;rw[List.getElem?_modify]
    split
    .rename_i e
     subst e;rw[k,Option.map_eq_map,Option.map_some,<-X]
    .simp
   have K:(Instr.mapEntry 153 (.map (some b)) (kV t o)).run C W= .ok (.tuple #[E.val,goInt E.born]) (setBlock W b (.map g q)):=by
    simp[Instr.mapEntry,run_underlying underlying153,MapKept.run_getObj_map d,zq.check W false f,v,hj,X,zq.stays W f,μ,MapKept.run_setObj_map _ d,Result.andThen,setBlock]
   have Q:=(Az (K.symm.trans B)).2;rw[<-Q];exact gU.look (gU.of_eq ⟨D,y,u,A⟩ (Gl d)) r s
 .rw[heap_setBlock_same d] at k
  obtain⟨σ,τ,ν,S⟩:=ε n (.int .i64 ((p.count (t,o):Nat)+1)) k;refine⟨_,ν,yK k,by simp[setBlock],?_⟩;have S:=(Az (hS.symm.trans S)).2;refine gU.of_eq (W:=wS) ⟨_,y.put _ _,by simpa using δ,λZ o' α β=>?_⟩ (by rw[S,heap_setBlock_same d,heap_setBlock_same k]);by_cases T:(Z,o')=(t,o)
  .obtain⟨rfl,rfl⟩:=Prod.mk.inj T
   rw[atKey_put_same y (by trivial),List.count_cons_self];rfl
  .rw[atKey_put_other (λe=>T (V5 α β r s e)),A Z o' α β,List.count_cons_of_ne (λe=>T e.symm)]
end Yd
