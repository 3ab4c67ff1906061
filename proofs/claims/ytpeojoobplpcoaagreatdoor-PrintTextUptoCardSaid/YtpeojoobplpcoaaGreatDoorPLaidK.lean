import Derived.Test.YtpeojoobplpcoaaGreatDoorPLawOwn
import Derived.Recover
import Derived.Defers
import Derived.Test.YtpeojoobplpcoaaGreatDoorPRLw
import Derived.Test.YtpeojoobplpcoaaGreatDoorCards
import Derived.Test.YtpeojoobplpcoaaGreatDoorTie
import Derived.Deep.DeepHandedRow
import Derived.Lib.LaidU8
import Derived.LaidMore
import Derived.Test.YtpeojoobplpcoaaGreatDoorPEqF
set_option linter.all false
set_option maxRecDepth 200000
set_option maxHeartbeats 8000000
namespace Yd
open Bool renaming false->g,true->x
open Option renaming none->c,some->j
open Go Go.RowKit Go.Proofs Tryz
open Below renaming refl->n
open Go.IntKind renaming i64->f
open Go.Obj renaming cells->i
open Go.Value renaming int->d,slice->u,pointer->z,bool->A,string->B
open Tryz renaming underlying9->o,prog->y
def uZ (l:Bs):Nat × Int:=if(jl l).head?=c then(l.length,0) else if(jl l).head?=j 10 then(l.length - (jl l).length+1,0) else(l.length - (jl l).length,120)
theorem YE {l:Bs}(h:dS l=x):bI l=l:=by
 cases l with
 |nil=>rfl
 |cons b t=>
  rw[jI] at h;have:iQ b=g:=by
   rw[<-Gp];unfold zV;simp only[wB,vV] at h;rw[aU.2 ah,aU.2 ah];rfl
  unfold bI;rw[Ey,this];rfl
theorem ae' {l:Bs}(h:dS l=x):l.drop (qd l)=jl l/\qd l=l.length - (jl l).length/\(jl l).length<=l.length/\wV l=((jl l).head?==c||(jl l).head?==j 10):=by
 have e:=YE h;have e0:(l.takeWhile iQ).length=0:=by have:=TK l;rw[e] at this;omega
 have h1:l.drop (qd l)=jl l:=by
  unfold qd jl;rw[e0,e,bA]
  split <;> simp
 have hle:qd l<=l.length:=by
  unfold qd;rw[e0,e]
  split
  .have:=uE JC _ l (aB _);omega
  .omega
 refine⟨h1,by rw[<-h1,gG];omega,by rw[<-h1,gG];omega,?_⟩;unfold wV;rw[h1,e];by_cases Qm:l.head?=j 35
 .rw[Qm];rfl
 .have hr:jl l=l:=by unfold jl;rw[au Qm]
  rw[hr];have he:(l.head?==c||l.head?==j 10)=x:=by
   unfold dS at h;simp only[wB,vV] at h ⊢;rcases h with(h|h)|h
   .exact .inl h
   .exact .inr h
   .exact absurd h Qm
  rw[he];simp
def ain (nx:Nat)(er:Int)(w:World)(e:Ending)(w':World):Prop:=∃k a t,NJ k a t nx er w e w'
theorem aio (s:Bs)(p:Nat)(l:Bs)(hd:s.drop p=l)(hp:p<=s.length)(hlim:s.length<=1000000)(he:dS l=x)(w:World)(hT:Lib.Utf8Tabs 6 7 w):
  Calls y 137 #[B ⟨s.toArray⟩,d f p] w (ain (p+(uZ l).1) (uZ l).2 w):=by
 have hll:p+l.length=s.length:=by rw[<-hd,gG];omega
 obtain⟨k1,k2,k3,k4⟩:=ae' he;obtain⟨q,hq⟩:∃q,q=p+qd l:=⟨_,rfl⟩;obtain⟨r,hr⟩:∃r,r=jl l:=⟨_,rfl⟩;have IK:s.drop q=r:=by rw[hq,hr,<-k1,<-zq,hd]
 have Dy:q<=s.length:=by omega
 have hER:uZ l=if r.head?=c then(l.length,0) else if r.head?=j 10 then(l.length - r.length+1,0) else(l.length - r.length,120):=by unfold uZ;rw[hr]
 rw[<-hr] at k1 k2 k3 k4;have fO:Hid (wV l=(r.head?==c||r.head?==j 10)):=hid k4;have HS:=λW (hb:Below w.1.size w W)=>hid (tq s p l hd hp hlim W (Utf8Tabs_below hT hb))
 rw[<-hq] at HS;have hsl:=λW=>oZ o s q Dy W
 rw[IK] at hsl;have hz:=gQ s;have hqp:p<=q:=by omega
 have HQ:Hid (q+r.length=s.length/\p+l.length=s.length/\q=p+(l.length - r.length)):=hid ah;clear k1 k2 k3 k4 hd he hT hr hll hq
 cases r
 case' nil=>
  have HK:Hid (((([]:Bs).head?==c||([]:Bs).head?==j 10):Bool)=x):=hid rfl;have HE:Hid (p+(uZ l).1=q/\(uZ l).2=0):=hid (by rw[hER,av (show([]:Bs).head?=c from rfl)];exact⟨by have:=HQ.q;simp at this;simp only[];omega,rfl⟩)
 case' cons b t=>
  have hi0:∀W,(Instr.index 9 (B ⟨(b::t).toArray⟩) (d f 0)).run y W= .ok (.int .u8 (b.toNat:Int)) W:=λW=>jM o (b::t) 0 b rfl W
  have hsh:∀W,(Instr.slice 9 (B ⟨(b::t).toArray⟩) c (j (d f 1)) c).run y W= .ok (B ⟨[b].toArray⟩) W:=λW=>AV o (b::t) 1 ak W
  have hempty:((b::t)==([]:Bs))=g:=rfl;have hq2:q+1<=s.length:=by have:=HQ.q;simp at this;omega
  by_cases EH:b=10
  case' pos=>
   subst EH;have HK:Hid (((((10::t:Bs).head?)==c||((10::t:Bs).head?)==j 10):Bool)=x):=hid rfl;have HE:Hid (p+(uZ l).1=q+1/\(uZ l).2=0):=hid (by rw[hER,au ak,av (show(10::t:Bs).head?=j 10 from rfl)];exact⟨by have:=HQ.q;simp only[] at this ⊢;omega,rfl⟩)
  case' neg=>
   have HK:Hid (((((b::t:Bs).head?)==c||((b::t:Bs).head?)==j 10):Bool)=g):=hid (by simp[EH]);have HE:Hid (p+(uZ l).1=q/\(uZ l).2=120):=hid (by rw[hER,au ak,au (by simpa using EH)];exact⟨by have:=HQ.q;simp only[] at this ⊢;omega,rfl⟩)
 all_goals
  clear hER IK;by_cases hpq:q=p
  case' pos=>
   subst hpq;by_cases hp0:q=0
   case' pos=>
    have hdp:decide ((0:Int)<(q:Int))=g:=bq ah;have abC:decide (0<q)=g:=bq ah;clear hp0;go_enter func137,ntmps137;go_wp2_with fail;refine(HS _ (aA (n _ _) _)).q.mono ?_;rintro e w1 ⟨rfl,hb1⟩;have HB:=hid ((aA (n w.1.size w) (i (aI 0 0 [] g) 202)).trans (hb1.mono ak));have HX:=hid ((Bx.new w (aI 0 0 [] g) 202).keep hb1);clear hb1;rw[fO.q,HK.q];have hcx:=(HX.q.alloc (i (aI 0 q [] g) 202)).1;have hfx:=(HX.q.alloc (i (aI 0 q [] g) 202)).2.1;have mK:=hid (aA HB.q (i (aI 0 q [] g) 202))
   case' neg=>
    have hdp:decide ((0:Int)<(q:Int))=x:=bN ah;have abC:decide (0<q)=x:=bN ah;obtain⟨b0,hb0⟩:∃b0,s[q - 1]?=j b0:=⟨_,fK ah⟩;have hi1:=λW=>jM o s (q - 1) b0 hb0 W
    rw[show((q - 1:Nat):Int)=(q:Int) - 1 by omega] at hi1;have akN:wrap32 (b0.toNat:Int)=(b0.toNat:Int):=IntWalk.wrap32_in _ (by have:=b0.toNat_lt;omega);clear hb0 hp0;go_enter func137,ntmps137;go_wp2_with fail;refine(HS _ (aA (n _ _) _)).q.mono ?_;rintro e w1 ⟨rfl,hb1⟩;have HB:=hid ((aA (n w.1.size w) (i (aI 0 0 [] g) 202)).trans (hb1.mono ak));have HX:=hid ((Bx.new w (aI 0 0 [] g) 202).keep hb1);clear hb1;rw[fO.q,HK.q];go_wp2_with fail;refine(JE _ _).mono ?_;rintro e w2 ⟨rfl,hb2⟩
    cases hbl:zV (b0.toNat:Int)
    case' false=>
     cases EH:((b0.toNat:Int)==10)
     case' false=>
      have VE:((b0.toNat:Int)!=10)=x:=by rw[bne,EH];rfl
      replace HB:=hid (HB.q.bZ hb2);replace HX:=hid (HX.q.keep hb2)
      clear hb2;have hcx:=(HX.q.alloc (i (aI 0 q [] x) 202)).1;have hfx:=(HX.q.alloc (i (aI 0 q [] x) 202)).2.1;have mK:=hid (aA HB.q (i (aI 0 q [] x) 202))
     case' true=>
      have VE:((b0.toNat:Int)!=10)=g:=by rw[bne,EH];rfl
      replace HB:=hid (HB.q.bZ hb2);replace HX:=hid (HX.q.keep hb2)
      clear hb2;have hcx:=(HX.q.alloc (i (aI 0 q [] g) 202)).1;have hfx:=(HX.q.alloc (i (aI 0 q [] g) 202)).2.1;have mK:=hid (aA HB.q (i (aI 0 q [] g) 202))
    case' true=>
     replace HB:=hid (HB.q.bZ hb2);replace HX:=hid (HX.q.keep hb2)
     clear hb2;have hcx:=(HX.q.alloc (i (aI 0 q [] g) 202)).1;have hfx:=(HX.q.alloc (i (aI 0 q [] g) 202)).2.1;have mK:=hid (aA HB.q (i (aI 0 q [] g) 202))
  case' neg=>
   have hne:((q:Int)==(p:Int))=g:=aU.2 ah;clear hpq;go_enter func137,ntmps137;go_wp2_with fail;refine(HS _ (aA (n _ _) _)).q.mono ?_;rintro e w1 ⟨rfl,hb1⟩;have HB:=hid ((aA (n w.1.size w) (i (aI 0 0 [] g) 202)).trans (hb1.mono ak));have HX:=hid ((Bx.new w (aI 0 0 [] g) 202).keep hb1);clear hb1;rw[fO.q,HK.q];have hcx:=(HX.q.alloc (i (aI 0 q [] g) 202)).1;have hfx:=(HX.q.alloc (i (aI 0 q [] g) 202)).2.1;have mK:=hid (aA HB.q (i (aI 0 q [] g) 202))
 all_goals
  go_wp2_with fail;have hwq:IntKind.i64.wrap ((q:Int)+1)=(q:Int)+1:=Go.IntWalk.i64_in _ ah
  first
  |refine bodyPost_ret (v:= .tuple #[.agg (aI 5 q [] g),d f (q:Int),d f 0]) ?_ rfl ⟨5,q,[],g,?_,?_⟩
   focus (simp[results,results137,go_sem,hcx,hwq];done)
   focus (rw[HE.q.1,HE.q.2] <;> rfl)
  |refine bodyPost_ret (v:= .tuple #[.agg (aI 0 0 [] g),d f (q:Int),d f 120]) ?_ rfl ⟨0,0,[],g,?_,?_⟩
   focus (simp[results,results137,go_sem,hcx,hwq];done)
   focus (rw[HE.q.1,HE.q.2] <;> rfl)
  |refine bodyPost_ret (v:= .tuple #[.agg (aI 4 q [10] g),d f ((q:Int)+1),d f 0]) ?_ rfl ⟨4,q,[10],g,?_,?_⟩
   focus (simp[results,results137,go_sem,hcx,hwq];done)
   focus (rw[HE.q.1,HE.q.2] <;> rfl)
  exact(((mK.q.setCell (p:=⟨w.1.size,0,c⟩) (aB _) _).setCell (p:=⟨w.1.size,1,c⟩) (aB _) _).setCell (p:=⟨w.1.size,2,c⟩) (aB _) _).setCell (p:=⟨w.1.size,3,c⟩) (aB _) _
theorem aor (v:Value)(W:World):(Instr.typeAssert (.iface 197 v) 20 197 x).run y W= .ok (.tuple #[v,A x]) W:=ay
theorem Nc (b:Nat)(p m:Int)(a0 a1 a2 a3 a4 a5 n0 e0:Value)(older:List PanicEntry)(w:World)(h1:Bx w b #[a0,a1,a2,a3,a4,a5])(h2:Bx w (b+1) #[n0])(h3:Bx w (b+2) #[e0]):
  CallsD y 135 #[z (j ⟨b,0,c⟩),z (j ⟨b+1,0,c⟩),z (j ⟨b+2,0,c⟩)] (.panicking ({v:= .iface 197 (.agg #[d f p,d f m]),recovered:=false}::older)) w λe u' w'=>
   e= .returned (.tuple #[])/\u'= .panicking ({v:= .iface 197 (.agg #[d f p,d f m]),recovered:=true}::older)/\
   Bx w' b #[d f 0,u c 0 0,d f 0,u c 0 0,A g,d f 0]/\Bx w' (b+1) #[d f p]/\Bx w' (b+2) #[d f m]/\Below b w w':=by
 refine callsD_of_wpS func135 rfl λc₀ cs hu=>?_
 apply wpS_seq
 apply wpS_region
 simp[wpOpsS,go_sem,recoverD,hu,ntmps135,Exit.thenS];refine wpS_of_wp ?_;have hta:=aor (.agg #[d f p,d f m]);simp only[rX,rY,oz,oC,fJ,fu,mH,lZ,l5];have hx0:=Bx.new w #[d f p,d f m] 197;obtain⟨Z,hZ⟩:∃Z:World,Z=(((((w.setCell ⟨b,0,c⟩ (d f 0)).setCell ⟨b,1,c⟩ (u c 0 0)).setCell ⟨b,2,c⟩ (d f 0)).setCell ⟨b,3,c⟩ (u c 0 0)).setCell ⟨b,4,c⟩ (A g)).setCell ⟨b,5,c⟩ (d f 0):=⟨_,rfl⟩;have HZ:Hid (Bx Z b #[d f 0,u c 0 0,d f 0,u c 0 0,A g,d f 0]/\Bx Z (b+1) #[n0]/\Bx Z (b+2) #[e0]/\Z.1.size=w.1.size/\Below b w Z):=hid (by
  rw[hZ];refine⟨?_,?_,?_,by simp[World.setCell],?_⟩
  .exact(((((h1.bf 0 ak _).bf 1 ak _).bf 2 ak _).bf 3 ak _).bf 4 ak _).bf 5 ak _
  .exact(((((h2.setOther b 0 _ ah).setOther b 1 _ ah).setOther b 2 _ ah).setOther b 3 _ ah).setOther b 4 _ ah).setOther b 5 _ ah
  .exact(((((h3.setOther b 0 _ ah).setOther b 1 _ ah).setOther b 2 _ ah).setOther b 3 _ ah).setOther b 4 _ ah).setOther b 5 _ ah
  .exact((((((n b w).setCell (p:=⟨b,0,c⟩) (aB b) _).setCell (p:=⟨b,1,c⟩) (aB b) _).setCell (p:=⟨b,2,c⟩) (aB b) _).setCell (p:=⟨b,3,c⟩) (aB b) _).setCell (p:=⟨b,4,c⟩) (aB b) _).setCell (p:=⟨b,5,c⟩) (aB b) _)
 obtain⟨V,hV⟩:∃V:World,V=(Z.alloc (i #[d f p,d f m] 197)).drew:=⟨_,rfl⟩;have hx5:Bx V w.1.size #[d f p,d f m]:=by
  have:=Bx.new Z #[d f p,d f m] 197;rw[HZ.q.2.2.2.1] at this;rw[hV];exact this
 have HV:Hid (Bx V b #[d f 0,u c 0 0,d f 0,u c 0 0,A g,d f 0]/\Bx V (b+1) #[n0]/\Bx V (b+2) #[e0]/\Bx V w.1.size #[d f p,d f m]/\Below b w V):=hid (by
  refine⟨?_,?_,?_,hx5,?_⟩
  .rw[hV];exact(HZ.q.1.alloc _).drew
  .rw[hV];exact(HZ.q.2.1.alloc _).drew
  .rw[hV];exact(HZ.q.2.2.1.alloc _).drew
  .rw[hV];exact(HZ.q.2.2.2.2.alloc (by have:=HZ.q.2.2.2.1;have:=h1.2.2;omega) _).drew)
 have Bw:Hid (b+2<w.1.size):=hid h3.2.2;have HVY:Hid (Bx V (b+1) #[n0]):=hid HV.q.2.1;clear hx5;go_wp2_with fail;refine aC 99 [(0,0),(1,0),(2,0),(3,0),(4,0),(5,2),(6,2),(7,2)] (λ_=>True) (λW'=>W'.cell? ⟨w.1.size,0,c⟩=j (d f p)/\W'.cell? ⟨w.1.size,1,c⟩=j (d f m)) ay ay (trivial) (⟨hx0.1 0,hx0.1 1⟩) ?_;refine qC ?_;refine aF rfl rfl (λK hK=>?_);go_simp;rw[<-hZ,<-hV];refine hK _ _ ⟨trivial,HV.q.2.2.2.1.1 0,HV.q.2.2.2.1.1 1⟩ ?_;have z1:=HV.q.2.1.1 0;have f1_:=HV.q.2.1.2.1 0;clear hK K hZ hV;refine aF rfl rfl (λK hK=>?_);go_simp;refine hK _ _ ⟨trivial,(HV.q.2.2.2.1.setOther (b+1) 0 _ (by have:=Bw.q;omega)).1 0,(HV.q.2.2.2.1.setOther (b+1) 0 _ (by have:=Bw.q;omega)).1 1⟩ ?_;clear hK K z1 f1_;have z1:=HV.q.2.2.1.1 0;have f1_:=HV.q.2.2.1.2.1 0;refine aF rfl rfl (λK hK=>?_);go_simp;refine hK _ _ ⟨trivial,((HV.q.2.2.2.1.setOther (b+1) 0 _ (by have:=Bw.q;omega)).setOther (b+2) 0 _ (by have:=Bw.q;omega)).1 0,((HV.q.2.2.2.1.setOther (b+1) 0 _ (by have:=Bw.q;omega)).setOther (b+2) 0 _ (by have:=Bw.q;omega)).1 1⟩ ?_;clear hK K;refine aP ?_;go_wp2_with fail;obtain⟨w',hw'⟩:∃w':World,w'=(V.setCell ⟨b+1,0,c⟩ (d f p)).setCell ⟨b+2,0,c⟩ (d f m):=⟨_,rfl⟩;have hfin:Bx w' b #[d f 0,u c 0 0,d f 0,u c 0 0,A g,d f 0]/\Bx w' (b+1) #[d f p]/\Bx w' (b+2) #[d f m]/\Below b w w':=by
  rw[hw'];refine⟨((HV.q.1.setOther (b+1) 0 _ ah).setOther (b+2) 0 _ ah),((HV.q.2.1.bf 0 ak _).setOther (b+2) 0 _ ah),((HV.q.2.2.1.setOther (b+1) 0 _ ah).bf 0 ak _),?_⟩;exact(HV.q.2.2.2.2.setCell (p:=⟨b+1,0,c⟩) ak _).setCell (p:=⟨b+2,0,c⟩) ak _
 rw[<-hw'];have HF:=hid hfin;clear hw' hfin
 cases c₀
 simp_all[bodyPostS,results,results135]
 exact HF.q
theorem abD (b:Nat)(w:World):
  CallsD y 135 #[z (j ⟨b,0,c⟩),z (j ⟨b+1,0,c⟩),z (j ⟨b+2,0,c⟩)] .returning w λe u' w'=>e= .returned (.tuple #[])/\u'= .returning/\w'=w:=by
 refine callsD_of_wpS func135 rfl λc₀ cs hu=>?_
 apply wpS_seq
 apply wpS_region
 simp[wpOpsS,go_sem,recoverD,hu,ntmps135,Exit.thenS];refine wpS_of_wp ?_;go_wp2_with fail
 cases c₀
 simp_all[bodyPostS,results,results135]
end Yd
namespace Yd
open Go Go.RowKit Go.Proofs Go.Lib Tryz
open Tryz renaming prog->c,underlying9->f
open Go.Proofs.YtpeojoobplpcoaaGreatDoor
theorem abE:Rows.laid_unicode_utf8_first=firstData:=ay
theorem YF:(Rows.laid_unicode_utf8_acceptRanges:DataW Unit)=acceptData:=ay
theorem u8x:U8Extra c Tryz.lays260_ren:=⟨by kernel_rfl,by kernel_rfl,by kernel_rfl,by kernel_rfl,by kernel_rfl,by kernel_rfl,by kernel_rfl⟩
section
variable {W:World}
theorem YG {n fuel:Nat}{t:TypeId}{cs:List Value}{ds:List (DataW Unit)}{p:List MemPlace}(ht:Tryz.prog.underlying t=some (.array n 9))(h:DataW.trod (λ_=>()) c W 0 (λ_=>true) false fuel t cs=some (.agg ds,p))
  (i:Nat) (hi:i<n) {b:Bs} (hd:ds[i]?=some (.lit (.string b))):cs[i]?=some (.string ⟨b.toArray⟩):=by
 obtain⟨f',d,q,h1,h2⟩:=array_elem ht h i hi;rw[hd] at h1;injection h1 with h1;subst h1;rw[show Tryz.prog.cellsOf 9=1 from acF] at h2;obtain⟨s,e1,e2,_⟩:=DataW.trod_string f h2;simp only[Prod.mk.injEq,DataW.lit.injEq,Lit.string.injEq] at e2;have e3:=bU (·[0]?) e1;simp only[AO,EI] at e3;have:s=⟨b.toArray⟩:=by
  obtain⟨⟨l⟩⟩:=s;simp at e2;rw[e2.1]
 rw[<-this]
 simpa using e3
theorem YH {n fuel:Nat}{t:TypeId}{cs:List Value}{ds:List (DataW Unit)}{p:List MemPlace}(ht:Tryz.prog.underlying t=some (.array n 3))(h:DataW.trod (λ_=>()) c W 0 (λ_=>true) false fuel t cs=some (.agg ds,p))
  (i:Nat) (hi:i<n) {b:Int} (hd:ds[i]?=some (.lit (.int .i64 b))):cs[i]?=some (.int .i64 b):=by
 obtain⟨f',d,q,h1,h2⟩:=array_elem ht h i hi;rw[hd] at h1;injection h1 with h1;subst h1;rw[show Tryz.prog.cellsOf 3=1 from acE] at h2;obtain⟨s,e1,e2,_⟩:=DataW.trod_int underlying3 h2;simp only[Prod.mk.injEq,DataW.lit.injEq,Lit.int.injEq,true_and] at e2;have e3:=bU (·[0]?) e1;simp only[AO,EI] at e3;rw[e2.1]
 simpa using e3
theorem akO:Tryz.prog.cellsOf 21=1:=ay
theorem YI:Tryz.prog.cellsOf 139=3:=ay
theorem afa {fuel:Nat}{cs:List Value}{ds:List (DataW Unit)}{p:List MemPlace}(h:DataW.trod (λ_=>()) c W 0 (λ_=>true) false fuel 140 cs=some (.agg ds,p))
  (k:Nat) (hk:k<10) {b:Bs} {n r:Int} (hd:ds[k]?=some (.agg [.lit (.string b),.lit (.int .i64 n),.lit (.int .i32 r)])):
  cs[3*k]?=some (.string ⟨b.toArray⟩)/\cs[3*k+1]?=some (.int .i64 n)/\cs[3*k+2]?=some (.int .i32 r):=by
 obtain⟨f',d,q,h1,h2⟩:=array_elem underlying140 h k hk;rw[hd] at h1;injection h1 with h1;subst h1;rw[YI] at h2;obtain⟨xs,n',_,e,hl,hlen,hf⟩:=DataW.trod_struct underlying139 h2;rw[YI] at hl;obtain⟨cs',hcs⟩:∃cs',cs'=(cs.drop (k*3)).take 3:=⟨_,rfl⟩;rw[<-hcs] at hl hf;have g0:cs[3*k]?=cs'[0]?:=by rw[hcs];simp[EI,wh]
 have g1:cs[3*k+1]?=cs'[1]?:=by rw[hcs];simp[EI,wh]
 have g2:cs[3*k+2]?=cs'[2]?:=by rw[hcs];simp[EI,wh]
 rw[g0,g1,g2];clear g0 g1 g2 hcs
 match xs,hlen,cs',hl,e with
 |[y0,y1,y2],_,[c0,c1,c2],_,e=>
  simp only[eu,mE,Prod.mk.injEq,DataW.agg.injEq,List.cons.injEq,and_true] at e;have f0:=hf 0 _ rfl;have f1:=hf 1 _ rfl;have f2:=hf 2 _ rfl;simp[acE,acF,akO] at f0 f1 f2;obtain⟨s,e0,q0,_⟩:=DataW.trod_string f f0;obtain⟨a,e1,q1,_⟩:=DataW.trod_int underlying3 f1;obtain⟨a2,e2,q2,_⟩:=DataW.trod_int Tryz.underlying21 f2;rw[q0,q1,q2] at e;simp only[DataW.lit.injEq,Lit.string.injEq,Lit.int.injEq,true_and] at e;have:s=⟨b.toArray⟩:=by
   obtain⟨⟨l⟩⟩:=s;simp at e;rw[e.1.1]
  simp at e0 e1 e2;rw[e0,e1,e2,e.1.2.1,e.1.2.2,this];exact⟨rfl,rfl,rfl⟩
theorem yV {name:String}{d:DataW Unit}{g:Nat}{t:TypeId}(h:VarReads c W name d)(hg:Tryz.prog.globalNamed name=some g)(hy:(Tryz.prog.globals[g]?).map (·.type)=some t):
  ∃cs:Array Value,∃fuel p,DataW.trod (λ_=>()) c W 0 (λ_=>true) false fuel t cs.toList=some (d,p)/\∀i,W.cell? ⟨g,i,none⟩=cs.toList[i]?:=by
 obtain⟨g',t',cs,fuel,p,hg',hy',hv,hd⟩:=h;obtain rfl:=uX (hg.symm.trans hg');obtain rfl:=uX (hy.symm.trans hy');exact⟨cs,fuel,p,hd,λi=>by rw[Array.getElem?_toList];exact World.var?_cell hg hv i⟩
end
end Yd
namespace Yd
open Bool renaming true->z,false->G
open Option renaming none->l,some->M
open Go Go.RowKit Go.Proofs
open Act renaming put->H
open Below renaming refl->E
open Go.Obj renaming cells->D
open Go.Value renaming slice->C,bool->I,pointer->J
open Tryz renaming prog->u,func25->N,func28->O,ntmps25->P,ntmps28->Q
open Yd renaming hid->r
open _root_ renaming List->B
theorem EJ {α β:Type}{p:α->α->Bool}{f g:α->β}:∀{xs ys:B α},(∀x∈xs,∀y∈ys,(p x y=z↔f x=g y))->(pY p xs ys=z↔xs.map f=ys.map g)
 |[],[],_=>by simp[pY]
 |[],_::_,_=>by simp[pY]
 |_::_,[],_=>by simp[pY]
 |x::xs,y::ys,h=>by
  have ih:=EJ (xs:=xs) (ys:=ys) (λa ha b hb=>h a (eD _ ha) b (eD _ hb));have h0:=h x fM y fM;have e:pY p (x::xs) (y::ys)=(p x y && pY p xs ys):=by
   unfold pY;simp only[dO,List.zip_cons_cons,List.all_cons,Nat.add_right_cancel_iff]
   cases p x y <;> simp
  rw[e,aO,ih,h0,eu,eu,List.cons.injEq]
def QI (dn nY:aM->B Int)(p q:aM):Bool:=decide (p.obj=q.obj) && decide (dn p=nY q)
def QJ (mn uq:aN->B Int)(p q:aN):Bool:=decide (p.pred=q.pred) && (decide (p.obj=q.obj) && (decide (p.first=q.first) && decide (mn p=uq q)))
theorem aip {dn nY:aM->B Int}{p q:aM}:QI dn nY p q=z↔(p.base,dn p)=(q.base,nY q):=by
 obtain⟨a,b,c,d⟩:=p;obtain⟨a',b',c',d'⟩:=q;simp[QI,aM.base]
theorem aiq {dn nY:aN->B Int}{p q:aN}:QJ dn nY p q=z↔(p.base,dn p)=(q.base,nY q):=by
 obtain⟨a,b,f,c,d,e⟩:=p;obtain⟨a',b',f',c',d',e'⟩:=q;simp[QJ,aN.base,and_assoc]
theorem air {dn nY:EvC->B Sn}{p q:EvC}:(gF p q && decide (dn p=nY q))=z↔(p.base,dn p)=(q.base,nY q):=by
 obtain⟨a,b,c,d,e,f,g,h,i,j⟩:=p;obtain⟨a',b',c',d',e',f',g',h',i',j'⟩:=q;simp[gF,EvC.base,and_assoc]
theorem afb (p q:aM)(xs ys:B Int)(w:World)(hx:Row w 1 aX p.sa p.sn p.sc xs)(hy:Row w 1 aX q.sa q.sn q.sc ys):Calls u 25 #[za p,za q] w (dw (I (decide (p.obj=q.obj) && decide (xs=ys))) w):=by
 obtain⟨R,hR0⟩:∃R:Bool,R=(decide (p.obj=q.obj) && decide (xs=ys)):=⟨_,rfl⟩;rw[<-hR0];obtain⟨a,sa,sn,sc⟩:=p;obtain⟨a',sa',MH,sc'⟩:=q;have HB:=r (((E w.1.size w).alloc (aB _) (D #[.int .i64 a,C sa sn sc] 79)).alloc ak (D #[.int .i64 a',C sa' MH sc'] 79));have HC:=r (adL sa sa' sn sc MH sc' xs ys _ (hx.below HB.q rfl) (hy.below HB.q rfl));clear hx hy;by_cases h:a=a'
 .subst h
  have hR:R=decide (xs=ys):=by rw[hR0];simp
  subst hR;clear hR0;go_enter N,P
  go_wp2_with (go_at_call 26;refine HC.q.mono ?_;rintro e w1 ⟨rfl,hb1⟩)
  go_ret;exact⟨rfl,HB.q.trans (hb1.mono (by simp;omega))⟩
 .have hR:R=G:=by rw[hR0];simp[h]
  subst hR;have hne:(a==a')=G:=aU.2 h;clear h hR0;go_enter N,P;go_wp2_with fail;go_ret;exact⟨rfl,HB.q⟩
theorem afc (p q:aN)(xs ys:B Int)(w:World)(hx:Row w 1 aX p.sa p.sn p.sc xs)(hy:Row w 1 aX q.sa q.sn q.sc ys):
  Calls u 28 #[ze p,ze q] w (dw (I (decide (p.pred=q.pred) && (decide (p.obj=q.obj) && (decide (p.first=q.first) && decide (xs=ys))))) w):=by
 obtain⟨R,hR0⟩:∃R:Bool,R=(decide (p.pred=q.pred) && (decide (p.obj=q.obj) && (decide (p.first=q.first) && decide (xs=ys)))):=⟨_,rfl⟩;rw[<-hR0];obtain⟨a,b,f,sa,sn,sc⟩:=p;obtain⟨a',b',f',sa',MH,sc'⟩:=q;have HB:=r (((E w.1.size w).alloc (aB _) (D #[.int .i64 a,.int .i64 b,I f,C sa sn sc] 84)).alloc ak (D #[.int .i64 a',.int .i64 b',I f',C sa' MH sc'] 84));have HC:=r (adL sa sa' sn sc MH sc' xs ys _ (hx.below HB.q rfl) (hy.below HB.q rfl));clear hx hy;rcases(by by_cases h1:a=a' <;> by_cases h2:b=b' <;> by_cases h3:f=f' <;> simp[h1,h2,h3]:(a=a'/\b=b'/\f=f')\/(a==a')=G\/((a==a')=z/\(b==b')=G)\/((a==a')=z/\(b==b')=z/\(f==f')=G)) with⟨rfl,rfl,rfl⟩|hq|⟨hq,hq2⟩|⟨hq,hq2,hq3⟩
 .have hR:R=decide (xs=ys):=by rw[hR0];simp
  subst hR;clear hR0;go_enter O,Q
  go_wp2_with (go_at_call 26;refine HC.q.mono ?_;rintro e w1 ⟨rfl,hb1⟩)
  go_ret;exact⟨rfl,HB.q.trans (hb1.mono (by simp;omega))⟩
 all_goals
  have hR:R=G:=by rw[hR0];simp_all
  subst hR;clear hR0;go_enter O,Q;go_wp2_with fail;go_ret;exact⟨rfl,HB.q⟩
theorem VF:∀args w,(callFunc 25 args).run u w= .ok (.enter 25 args) w:=enters_of N ay rfl
theorem VG:∀args w,(callFunc 28 args).run u w= .ok (.enter 28 args) w:=enters_of O ay rfl
theorem VH:∀args w,(callFunc 31 args).run u w= .ok (.enter 31 args) w:=enters_of Tryz.func31 ay rfl
def ql (h:HC):Array Value:=#[h.t.v,h.s.v,h.o.v,h.p.v]
theorem KW (h:HC){k:Nat}(hk:k<4):(ql h)[k]?=M (h.nm k).v:=by
 rcases(by omega:k=0\/k=1\/k=2\/k=3) with rfl|rfl|rfl|rfl <;> rfl
def BI:Array Value:=#[C l 0 0,C l 0 0,C l 0 0,C l 0 0]
theorem Bx.adM {X:World}{b:Nat}(h:HC)(hx:Bx X b BI):Bx ((((X.setCell ⟨b,0,l⟩ h.t.v).setCell ⟨b,1,l⟩ h.s.v).setCell ⟨b,2,l⟩ h.o.v).setCell ⟨b,3,l⟩ h.p.v) b (ql h):=
 (((hx.bf 0 (by simp[BI]) _).bf 1 (by simp[BI]) _).bf 2 (by simp[BI]) _).bf 3 (by simp[BI]) _
def KX (nl nl':Nat->B Bs)(es es':B EvC)(ds ds':B aM)(ms ms':B aN)(qs TQ:B Wa)(scan mG:EvC->B Sn)(dn nY:aM->B Int)(mn uq:aN->B Int):Prop:=
 (∀k,k<4->nl k=nl' k)/\ds.map (λx=>(x.base,dn x))=ds'.map (λx=>(x.base,nY x))/\ms.map (λx=>(x.base,mn x))=ms'.map (λx=>(x.base,uq x))/\qs=TQ/\es.map (λx=>(x.base,scan x))=es'.map (λx=>(x.base,mG x))
theorem QK {h h':HC}{es es':B EvC}{ds ds':B aM}{ms ms':B aN}{qs TQ:B Wa}{scan mG:EvC->B Sn}{dn nY:aM->B Int}{mn uq:aN->B Int}{nl nl':Nat->B Bs}(w:World)
  (d:Deep w h es ds ms qs scan dn mn) (d':Deep w h' es' ds' ms' TQ mG nY uq) (hn:∀i,i<4->Row w 1 encStr (h.nm i).a (h.nm i).n (h.nm i).c (nl i)) (hn':∀i,i<4->Row w 1 encStr (h'.nm i).a (h'.nm i).n (h'.nm i).c (nl' i)):
  Calls u 8 #[bG h,bG h'] w (λe W=>∃b:Bool,e= .returned (I b)/\(b=z↔KX nl nl' es es' ds ds' ms ms' qs TQ scan mG dn nY mn uq)/\Below w.1.size w W):=by
 have yH:Hid (∀k,k<4->∀W,Below w.1.size w W->Calls u 23 #[(h.nm k).v,(h'.nm k).v] W (dw (I (decide (nl k=nl' k))) W)):=
  r (λk hk W hb=>akP _ _ _ _ _ _ _ _ W ((hn k hk).below hb rfl) ((hn' k hk).below hb rfl))
 obtain⟨bo,hbo⟩:∃b,b=pY (QI dn nY) ds ds':=⟨_,rfl⟩;obtain⟨bm,hbm⟩:∃b,b=pY (QJ mn uq) ms ms':=⟨_,rfl⟩;obtain⟨be,hbe⟩:∃b,b=pY (λx y=>gF x y && decide (scan x=mG y)) es es':=⟨_,rfl⟩;obtain⟨bw,hbw⟩:∃b,b=decide (qs=TQ):=⟨_,rfl⟩;have HO:Hid (∀W,Below w.1.size w W->Calls u 24 #[h.d.v,h'.d.v,.func (.func 25) #[] #[]] W (dw (I bo) W)):=r (λW hb=>by
  rw[hbo];exact akQ _ _ _ _ _ _ _ _ _ _ _ W (d.2.1.below hb rfl) (d'.2.1.below hb rfl) VF (λx hx y hy V hV=>afb x y _ _ V ((d.2.2.2.2.2.1 x hx).below (hb.trans (hV.mono hb.size)) rfl) ((d'.2.2.2.2.2.1 y hy).below (hb.trans (hV.mono hb.size)) rfl)))
 have HM:Hid (∀W,Below w.1.size w W->Calls u 27 #[h.m.v,h'.m.v,.func (.func 28) #[] #[]] W (dw (I bm) W)):=r (λW hb=>by
  rw[hbm];exact akR _ _ _ _ _ _ _ _ _ _ _ W (d.2.2.1.below hb rfl) (d'.2.2.1.below hb rfl) VG (λx hx y hy V hV=>afc x y _ _ V ((d.2.2.2.2.2.2 x hx).below (hb.trans (hV.mono hb.size)) rfl) ((d'.2.2.2.2.2.2 y hy).below (hb.trans (hV.mono hb.size)) rfl)))
 have HE:Hid (∀W,Below w.1.size w W->Calls u 30 #[h.e.v,h'.e.v,.func (.func 31) #[] #[]] W (dw (I be) W)):=r (λW hb=>by
  rw[hbe];exact akS _ _ _ _ _ _ _ _ _ _ _ W (d.1.below hb rfl) (d'.1.below hb rfl) VH (λx hx y hy V hV=>SY x y _ _ V ((d.2.2.2.2.1 x hx).below (hb.trans (hV.mono hb.size)) rfl) ((d'.2.2.2.2.1 y hy).below (hb.trans (hV.mono hb.size)) rfl)))
 have HW:Hid (∀W,Below w.1.size w W->Calls u 29 #[h.w.v,h'.w.v] W (dw (I bw) W)):=r (λW hb=>by
  rw[hbw];exact aos _ _ _ _ _ _ _ _ W (d.2.2.2.1.below hb rfl) (d'.2.2.2.1.below hb rfl))
 have VI:Hid (((∀k,k<4->nl k=nl' k)/\bo=z/\bm=z/\bw=z/\be=z)↔KX nl nl' es es' ds ds' ms ms' qs TQ scan mG dn nY mn uq):=r (by
  unfold KX;rw[hbo,hbm,hbw,hbe,EJ (λ_ _ _ _=>aip),EJ (λ_ _ _ _=>aiq),EJ (λ_ _ _ _=>air),aW])
 clear hbo hbm hbe hbw d d' hn hn';have HB:=r (((E w.1.size w).alloc (aB _) (D (aD h) 29)).alloc ak (D (aD h') 29));have HX:=r ((Bx.new w (aD h) 29).alloc (D (aD h') 29));have HX':=r (show Bx ((w.alloc (D (aD h) 29)).alloc (D (aD h') 29)) (w.1.size+1) (aD h') from(by have:=Bx.new (w.alloc (D (aD h) 29)) (aD h') 29;rwa[World.size_alloc] at this));go_enter Tryz.func8,Tryz.ntmps8;go_wp2_with fail;have hx:=HX.q;have hx':=HX'.q;refine LC [0,2] (λW'=>Bx W' w.1.size (aD h)/\Bx W' (w.1.size+1) (aD h')) (λ_ _=>False) ay ay (λ_ _ _ _ h=>h.elim) ⟨hx.drew,hx'.drew⟩ ?_;clear hx hx';refine PD rfl rfl ⟨bG h,λW' hR=>?_,?_⟩
 .have hc:=hR.1.1;go_simp
 refine PD rfl rfl ⟨bG h',λW' hR=>?_,?_⟩
 .have hc:=hR.2.1;go_simp
 simp only[H,mH,lZ,l5];refine XB (F:=λA L a' W=>∃x5 x6 KY KZ b c,a'=wG A [(5,x5),(6,x6),(11,KY),(13,KZ)]/\(L 1=z->KY= .agg (ql h))/\(L 3=z->KZ= .agg (ql h'))/\(L 4=z->x5= J (M ⟨b,0,l⟩)/\w.1.size+2<=b/\Bx W b (bif L 6 then ql h else BI))/\(L 5=z->x6= J (M ⟨c,0,l⟩)/\w.1.size+2<=c/\Bx W c (bif L 7 then ql h' else BI))/\(L 4=z->L 5=z->b≠c)/\(L 0=z/\L 2=z)/\(L 6=z->L 4=z/\L 5=z)/\(L 7=z->L 6=z)/\Bx W w.1.size (aD h)/\Bx W (w.1.size+1) (aD h')/\Below w.1.size w W) ?_ ?_ ?_ ?_
 .rintro L a' W ⟨x5,x6,KY,KZ,b,c,_,_,_,_,_,_,_,_,_,h1,h2,_⟩
  exact⟨h1,h2⟩
 .exact⟨undef,undef,undef,undef,0,0,rfl,(λh=>by cases h),(λh=>by cases h),(λh=>by cases h),(λh=>by cases h),(λh=>by cases h),⟨rfl,rfl⟩,(λh=>by cases h),(λh=>by cases h),HX.q.drew,HX'.q.drew,HB.q.drew⟩
 .rintro L a' W hL ⟨x5,x6,KY,KZ,b,c,rfl,f1,f3,f4,f5,fne,_,_,_,hx,hx',hb⟩
  obtain⟨rfl,hlb,hxb⟩:=f4 (hL 4);obtain⟨rfl,hlc,hxc⟩:=f5 (hL 5);rw[hL 6] at hxb;rw[hL 7] at hxc;obtain rfl:=f1 (hL 1);obtain rfl:=f3 (hL 3);refine anY ?_;simp only[wG,H,mH,lZ,l5];have HS:=r (⟨hlb,hxb,hlc,hxc,hx,hx',hb⟩:_/\_/\_/\_/\_/\_/\_);clear f1 f3 f4 f5 fne hL hlb hxb hlc hxc hx hx' hb HB HX HX';go_wp2_with fail
  go_loopw [14] (λi X=>∃k:Nat,k<=4/\i= .int .i64 k/\(∀j,j<k->nl j=nl' j)/\Below W.1.size W X) (λi _=>4 - (RowKit.intOf i).toNat)
  case atStart=>exact⟨0,aZ _,rfl,λj hj=>absurd hj ah,E _ _⟩
  case round=>
   obtain⟨k,hk,rfl,hsame,hb⟩:=hrel;by_cases hlt:k<4
   .have hb2:=HS.q.2.2.2.2.2.2.trans (hb.mono HS.q.2.2.2.2.2.2.size)
    have hc1:wr.cell? ⟨b,k,l⟩=M (h.nm k).v:=(((HS.q.2.1).keep hb).1 k).trans (KW h hlt);have hc2:wr.cell? ⟨c,k,l⟩=M (h'.nm k).v:=(((HS.q.2.2.2.1).keep hb).1 k).trans (KW h' hlt);have eF:=r (⟨hc1,hc2⟩:_/\_);have HK:=r hlt;have HSM:=r hsame;have Dj:=r hb;have HB2:=r hb2
    cases hq:decide (nl k=nl' k)
    all_goals
     have HC:=r (λW hW=>(by have:=yH.q k HK.q W hW;rw[hq] at this;exact this:Calls u 23 #[(h.nm k).v,(h'.nm k).v] W (dw _ W)));have HQ:=r hq;clear hq hsame hb2;go_wp2_with fail;refine aC 99 [(0,0),(1,0),(2,0),(3,0),(4,0),(5,0),(6,2),(7,0)] (λ_=>True) (λW'=>W'.cell? ⟨b,(k:Nat),l⟩=M (h.nm k).v/\W'.cell? ⟨c,(k:Nat),l⟩=M (h'.nm k).v) ay ay (trivial) (eF.q) ?_;refine qC ?_;refine aF rfl rfl (λK hK=>?_);go_simp;refine(HC.q _ HB2.q.drew).mono ?_;rintro e w1 ⟨rfl,hb1⟩;go_simp;refine hK _ _ ⟨trivial,bn hb1 rfl eF.q.1,bn hb1 rfl eF.q.2⟩ ?_;have HB3:=r hb1;clear hK K hb1;refine qC ?_;refine aP ?_;go_wp2_with fail
    .go_ret
     exact⟨G,rfl,⟨λh=>(by cases h),λhs=>absurd (hs.1 k HK.q) (of_decide_eq_false HQ.q)⟩,HB2.q.drew.trans (HB3.q.mono HB2.q.size)⟩
    .go_roundw
     case rel=>exact⟨k+1,by omega,by go_num,λj hj=>(by
      rcases gP j k with h|h
      .exact HSM.q j h
      .rw[show j=k by omega];exact xK HQ.q),Dj.q.drew.trans (HB3.q.mono Dj.q.size)⟩
     case measure=>simp[RowKit.intOf];omega
   .have hk4:k=4:=by omega
    subst hk4;have uN:=r hsame;have cZ:=r (HS.q.2.2.2.2.2.2.trans (hb.mono HS.q.2.2.2.2.2.2.size));have eX:=r (HS.q.2.2.2.2.1.keep hb);have fw:=r (HS.q.2.2.2.2.2.1.keep hb);have hx1:=eX.q.1;have hx2:=fw.q.1;clear hlt hk hsame hb;go_wp2_with fail;refine(HO.q _ cZ.q).mono ?_;rintro e w1 ⟨rfl,hb1⟩;have HB1:=r (cZ.q.bZ hb1);have qQ:=r (eX.q.keep hb1);have yG:=r (fw.q.keep hb1);clear hx1 hx2 hb1;have hy1:=qQ.q.1;have hy2:=yG.q.1;go_wp2_with fail;refine(HM.q _ HB1.q).mono ?_;rintro e w2 ⟨rfl,hb2⟩;have HB2:=r (HB1.q.bZ hb2);have HZ1:=r (qQ.q.keep hb2);have HZ2:=r (yG.q.keep hb2);clear hy1 hy2 hb2;have hz1:=HZ1.q.1;have hz2:=HZ2.q.1
    cases bo
    .go_wp2_with fail
     go_ret;exact⟨G,rfl,(by rw[<-VI.q];simp),HB2.q⟩
    cases bm
    .go_wp2_with fail
     go_ret;exact⟨G,rfl,(by rw[<-VI.q];simp),HB2.q⟩
    go_wp2_with fail;refine(HW.q _ HB2.q).mono ?_;rintro e w3 ⟨rfl,hb3⟩;have HB3:=r (HB2.q.bZ hb3);have HV1:=r (HZ1.q.keep hb3);have vM:=r (HZ2.q.keep hb3);clear hz1 hz2 hb3;have hv1:=HV1.q.1;have hv2:=vM.q.1
    cases bw
    .go_wp2_with fail
     go_ret;exact⟨G,rfl,(by rw[<-VI.q];simp),HB3.q⟩
    go_wp2_with fail;refine(HE.q _ HB3.q).mono ?_;rintro e w4 ⟨rfl,hb4⟩;go_wp2_with fail;go_ret;exact⟨be,rfl,(by rw[<-VI.q];simp only[true_and];exact⟨λq=>⟨uN.q,q⟩,λq=>q.2⟩),HB3.q.bZ hb4⟩
 .rintro i L a' W hi hL hd ⟨x5,x6,KY,KZ,b,c,rfl,f1,f3,f4,f5,fne,f0,f6,f7,hx,hx',hb⟩
  have HF:=r (⟨f1,f3,f4,f5,fne,f0,f6,f7,hx,hx',hb,hL,hd⟩:_/\_/\_/\_/\_/\_/\_/\_/\_/\_/\_/\_/\_);clear f1 f3 f4 f5 fne f0 f6 f7 hx hx' hb hL hd;rcases(by have:i<8:=hi;omega:i=0\/i=1\/i=2\/i=3\/i=4\/i=5\/i=6\/i=7) with rfl|rfl|rfl|rfl|rfl|rfl|rfl|rfl
  .obtain⟨_,_,_,_,_,f0,_,_,_,_,_,hL,_⟩:=HF.q
   cases hL.symm.trans f0.1
  rotate_left
  .obtain⟨_,_,_,_,_,f0,_,_,_,_,_,hL,_⟩:=HF.q
   cases hL.symm.trans f0.2
  rotate_left 5
  .refine yP rfl rfl (λK hK=>?_)
   simp only[wG,H,mH,lZ,l5];go_simp;refine(lF h W).mono ?_;rintro e w1 ⟨rfl,hb1⟩;go_simp;obtain⟨f1,f3,f4,f5,fne,f0,f6,f7,hx,hx',hb,hL,hd⟩:=HF.q;refine hK _ _ ⟨x5,x6,.agg (ql h),KZ,b,c,rfl,λ_=>rfl,f3,(λq=>⟨(f4 q).1,(f4 q).2.1,(f4 q).2.2.keep hb1⟩),(λq=>⟨(f5 q).1,(f5 q).2.1,(f5 q).2.2.keep hb1⟩),fne,f0,f6,f7,hx.keep hb1,hx'.keep hb1,hb.trans (hb1.mono hb.size)⟩
  .obtain⟨f1,f3,f4,f5,fne,f0,f6,f7,hx,hx',hb,hL,hd⟩:=HF.q
   refine yP rfl rfl (λK hK=>?_);simp only[wG,H,mH,lZ,l5];go_simp;refine(lF h' W).mono ?_;rintro e w1 ⟨rfl,hb1⟩;go_simp;refine hK _ _ ⟨x5,x6,KY,.agg (ql h'),b,c,rfl,f1,λ_=>rfl,(λq=>⟨(f4 q).1,(f4 q).2.1,(f4 q).2.2.keep hb1⟩),(λq=>⟨(f5 q).1,(f5 q).2.1,(f5 q).2.2.keep hb1⟩),fne,f0,f6,f7,hx.keep hb1,hx'.keep hb1,hb.trans (hb1.mono hb.size)⟩
  .refine yP rfl rfl (λK hK=>?_)
   simp only[wG,H,mH,lZ,l5];go_simp;obtain⟨f1,f3,f4,f5,fne,f0,f6,f7,hx,hx',hb,hL,hd⟩:=HF.q;have h6:L 6=G:=by
    cases q:L 6 with
    |false=>rfl
    |true=>cases hL.symm.trans (f6 q).1
   have hb1:=aA (E W.1.size W) (D BI 74);refine hK _ _ ⟨J (M ⟨W.1.size,0,l⟩),x6,KY,KZ,W.1.size,c,rfl,f1,f3,(λ_=>⟨rfl,by have:=hx'.2.2;omega,by show Bx _ _ (bif L 6 then _ else _);rw[h6];exact Bx.new W BI _⟩),(λq=>⟨(f5 q).1,(f5 q).2.1,(f5 q).2.2.keep hb1⟩),(λ_ q e=>by have:=(f5 q).2.2.2.2;omega),f0,(λq=>⟨rfl,(f6 q).2⟩),f7,hx.keep hb1,hx'.keep hb1,hb.trans (hb1.mono hb.size)⟩
  .refine yP rfl rfl (λK hK=>?_)
   simp only[wG,H,mH,lZ,l5];go_simp;obtain⟨f1,f3,f4,f5,fne,f0,f6,f7,hx,hx',hb,hL,hd⟩:=HF.q;have h7:L 7=G:=by
    cases q:L 7 with
    |false=>rfl
    |true=>cases hL.symm.trans (f6 (f7 q)).2
   have hb1:=aA (E W.1.size W) (D BI 74);refine hK _ _ ⟨x5,J (M ⟨W.1.size,0,l⟩),KY,KZ,b,W.1.size,rfl,f1,f3,(λq=>⟨(f4 q).1,(f4 q).2.1,(f4 q).2.2.keep hb1⟩),(λ_=>⟨rfl,by have:=hx'.2.2;omega,by show Bx _ _ (bif L 7 then _ else _);rw[h7];exact Bx.new W BI _⟩),(λq _ e=>by have:=(f4 q).2.2.2.2;omega),f0,(λq=>⟨(f6 q).1,rfl⟩),f7,hx.keep hb1,hx'.keep hb1,hb.trans (hb1.mono hb.size)⟩
  .obtain⟨f1,f3,f4,f5,fne,f0,f6,f7,hx,hx',hb,hL,hd⟩:=HF.q
   obtain rfl:=f1 (hd 1 ay);obtain⟨rfl,hlb,hxb⟩:=f4 (hd 4 ay);rw[hL] at hxb;have HXB:=r hxb;have hc:∀i,W.cell? ⟨b,i,l⟩=(#[C l 0 0,C l 0 0,C l 0 0,C l 0 0]:Array Value)[i]?:=hxb.1;have hf:=hxb.2.1;have hz:=hxb.2.2;clear hxb;refine yP rfl rfl (λK hK=>?_);simp only[wG,H,mH,lZ,l5,ql];go_simp;have hs:Same (λi=>i≠b) W ((((W.setCell ⟨b,0,l⟩ h.t.v).setCell ⟨b,1,l⟩ h.s.v).setCell ⟨b,2,l⟩ h.o.v).setCell ⟨b,3,l⟩ h.p.v):=((((Same.refl' W).setTail (λh=>h rfl)).setTail (λh=>h rfl)).setTail (λh=>h rfl)).setTail (λh=>h rfl);refine hK _ _ ⟨J (M ⟨b,0,l⟩),x6,.agg (ql h),KZ,b,c,rfl,λ_=>rfl,f3,(λq=>⟨rfl,hlb,Bx.adM h HXB.q⟩),(λq=>⟨(f5 q).1,(f5 q).2.1,hs.bx (f5 q).2.2 (λe=>fne (hd 4 ay) q e.symm)⟩),fne,f0,(λ_=>⟨hd 4 ay,hd 5 ay⟩),(λq=>rfl),hs.bx hx ah,hs.bx hx' ah,hs.below hb (λi hi=>by omega) hb.size⟩
  .obtain⟨f1,f3,f4,f5,fne,f0,f6,f7,hx,hx',hb,hL,hd⟩:=HF.q
   obtain rfl:=f3 (hd 3 ay);obtain⟨rfl,hlc,hxc⟩:=f5 (hd 5 ay);rw[hL] at hxc;have HXC:=r hxc;have hc:∀i,W.cell? ⟨c,i,l⟩=(#[C l 0 0,C l 0 0,C l 0 0,C l 0 0]:Array Value)[i]?:=hxc.1;have hf:=hxc.2.1;have hz:=hxc.2.2;clear hxc;refine yP rfl rfl (λK hK=>?_);simp only[wG,H,mH,lZ,l5,ql];go_simp;have hs:Same (λi=>i≠c) W ((((W.setCell ⟨c,0,l⟩ h'.t.v).setCell ⟨c,1,l⟩ h'.s.v).setCell ⟨c,2,l⟩ h'.o.v).setCell ⟨c,3,l⟩ h'.p.v):=((((Same.refl' W).setTail (λh=>h rfl)).setTail (λh=>h rfl)).setTail (λh=>h rfl)).setTail (λh=>h rfl);refine hK _ _ ⟨x5,J (M ⟨c,0,l⟩),KY,.agg (ql h'),b,c,rfl,f1,λ_=>rfl,(λq=>⟨(f4 q).1,(f4 q).2.1,hs.bx (f4 q).2.2 (λe=>fne q (hd 5 ay) e)⟩),(λq=>⟨rfl,hlc,Bx.adM h' HXC.q⟩),fne,f0,f6,(λ_=>hd 6 ay),hs.bx hx ah,hs.bx hx' ah,hs.below hb (λi hi=>by omega) hb.size⟩
end Yd
