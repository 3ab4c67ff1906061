import Derived.Test.YtnhnhmeogckgpaaGreatDoorTLaidK
import Derived.Test.YtnhnhmeogckgpaaGreatDoorTLnIn
import Derived.Test.YtnhnhmeogckgpaaGreatDoorTLxN
import Derived.Recover
import Derived.Defers
set_option linter.all false
set_option maxRecDepth 200000
set_option maxHeartbeats 8000000
namespace Yd
open Go Go.RowKit Go.Proofs Go.ChangeShapes Go.WideShapes Go.ChangeAt Tryz
open Go.Proofs.YtnhnhmeogckgpaaGreatDoor.Rows (uptoBulk uptoBulkAll)
section
variable {H:Type} {enc:TypeId × Value→H} {w:World} {base:Nat} {spare:Nat→Bool} {held:Bool} {N:Nat}
theorem abW:Tryz.prog.cellsOf 76=2:=au
theorem abX:Tryz.prog.cellsOf 34=6:=au
theorem afh:Tryz.prog.cellsOf 32=1:=au
theorem afi:OQ enc w base spare held N 76 j3 (fun _=>True):=fun n cs y h _=>by
 obtain⟨xs,n',_,rfl,hl,hlen,hf⟩:=DataW.trod_struct underlying76 h;rw[abW] at hl
 match xs,hlen,cs,hl with
 |[y0,y1],_,[c0,c1],_=>
  have f0:=hf 0 _ rfl;have f1:=hf 1 _ rfl;simp[IB,IC] at f0 f1;obtain⟨a,e0,_⟩:=DataW.trod_string Tryz.underlying9 f0;obtain⟨b,e1,_⟩:=DataW.trod_int underlying3 f1;simp at e0 e1;exact⟨⟨a.data.toList,b⟩,by rw[e0,e1];simp[j3],trivial⟩
theorem Rl {n:Nat} {cs:List Value} {y:DataW H × List MemPlace} (h:DataW.trod enc Tryz.prog w base spare held n 34 cs=some y) (hb:uptoBulk y.1≤1048576):
  ∃(l:aV) (s:aB),cs=(gI l).toList∧yF w l s:=by
 obtain⟨xs,n',_,rfl,hl,hlen,hf⟩:=DataW.trod_struct underlying34 h;rw[abX] at hl
 match xs,hlen,cs,hl,hb with
 |[y0,y1,y2,y3,y4,y5],_,[c0,c1,c2,c3,c4,c5],_,hb=>
  simp only[List.map_cons,List.map_nil,uptoBulk,uptoBulkAll] at hb;have f0:=hf 0 _ rfl;have f1:=hf 1 _ rfl;have f2:=hf 2 _ rfl;have f3:=hf 3 _ rfl;have f4:=hf 4 _ rfl;have f5:=hf 5 _ rfl;simp[IB,abY,afh,abZ] at f0 f1 f2 f3 f4 f5;obtain⟨a0,e0,_⟩:=DataW.trod_int underlying3 f0;obtain⟨s1,l1,e1,r1,b1,_⟩:=zO (hc:=iM) (N:=1048576) aj underlying22 IC ab0 f1 ah;obtain⟨a2,e2,_⟩:=DataW.trod_int underlying3 f2;obtain⟨s3,l3,e3,r3,b3,_⟩:=zO (hc:=yP) (N:=1048576) aj underlying32 abW afi f3 ah;obtain⟨a4,e4⟩:=Y9 f4;obtain⟨a5,e5,_⟩:=DataW.trod_int underlying3 f5;simp at e0 e1 e2 e3 e4 e5;exact⟨⟨a0,s1.a,s1.n,s1.c,a2,s3.a,s3.n,s3.c,a4,a5⟩,⟨a0,l1,a2,l3,a4,a5⟩,by rw[e0,e1,e2,e3,e4,e5],⟨rfl,rfl,rfl,rfl⟩,r1,r3⟩
theorem afj:OQ enc w base spare held 1048576 34 mU (fun l=>∃s,yF w l s):=fun n cs y h hb=>by
 obtain⟨l,s,rfl,hl⟩:=Rl h hb;exact⟨l,rfl,s,hl⟩
theorem MW {w:World}:∀xs:List aV,(∀x∈xs,∃s,yF w x s)→∃ls:List aB,xs.length=ls.length∧∀(i:Nat) (l:aV),xs[i]?=some l→∃s,ls[i]?=some s∧yF w l s
 |[],_=>⟨[],rfl,fun i l h=>(by cases h)⟩
 |x::xs,h=>by
  obtain⟨ls,h1,h2⟩:=MW xs (fun y hy=>h y (List.mem_cons_of_mem _ hy));obtain⟨s,hs⟩:=h x List.mem_cons_self;refine⟨s::ls,by simp[h1],fun i l hi=>?_⟩
  cases i with
  |zero=>injection hi with hi;subst hi;exact⟨s,rfl,hs⟩
  |succ i=>exact h2 i l hi
theorem U6 {n:Nat} {cs:List Value} {y:DataW H × List MemPlace} (h:DataW.trod enc Tryz.prog w base spare held n 25 cs=some y) (hb:uptoBulk y.1≤1048576):
  ∃(a:Option Addr) (c:Nat) (aS:List aV) (ls:List aB),cs=[.slice a aS.length c]∧Row w 6 mU a aS.length c aS∧aS.length=ls.length∧∀(i:Nat) (l:aV),aS[i]?=some l→∃s,ls[i]?=some s∧yF w l s:=by
 obtain⟨s,xs,rfl,hr,_,hq⟩:=zO (hc:=uT) (N:=1048576) aj underlying25 abX afj h hb;obtain⟨ls,h1,h2⟩:=MW xs hq;exact⟨s.a,s.c,xs,ls,by rw[hr.len],by rw[hr.len];exact hr,h1,h2⟩
end
end Yd
namespace Yd
open Bool renaming false→g,true→x,or_eq_true→C
open List renaming length_drop→A
open Nat renaming le_refl→i
open Option renaming none→c,some→n
open Go Go.RowKit Go.Proofs Tryz
open Below renaming refl→o
open Go.IntKind renaming i64→f
open Go.Obj renaming cells→j
open Go.Value renaming int→d,slice→y,pointer→B,bool→D,string→E
open Tryz renaming underlying9→u,prog→z
def pK (l:Bs):Nat × Int:=if(iA l).head?=c then(l.length,0) else if(iA l).head?=n 10 then(l.length - (iA l).length+1,0) else(l.length - (iA l).length,120)
theorem Rm {l:Bs} (h:bR l=x):aY l=l:=by
 cases l with
 |nil=>rfl
 |cons b t=>
  rw[gF] at h;have:eT b=g:=by
   rw[←Bl];unfold uY;simp only[C,beq_iff_eq] at h;rw[beq_eq_false_iff_ne.2 ah,beq_eq_false_iff_ne.2 ah];rfl
  unfold aY;rw[List.dropWhile_cons,this];rfl
theorem Za {l:Bs} (h:bR l=x):l.drop (lT l)=iA l∧lT l=l.length - (iA l).length∧(iA l).length≤l.length∧rR l=((iA l).head?==c||(iA l).head?==n 10):=by
 have e:=Rm h;have e0:(l.takeWhile eT).length=0:=by have:=MX l;rw[e] at this;omega
 have h1:l.drop (lT l)=iA l:=by
  unfold lT iA;rw[e0,e,Nat.zero_add]
  split <;> simp
 have hle:lT l≤l.length:=by
  unfold lT;rw[e0,e]
  split
  ·have:=pO Dx _ l (i _);omega
  ·omega
 refine⟨h1,by rw[←h1,A];omega,by rw[←h1,A];omega,?_⟩;unfold rR;rw[h1,e];by_cases J2:l.head?=n 35
 ·rw[J2];rfl
 ·have hr:iA l=l:=by unfold iA;rw[if_neg J2]
  rw[hr];have he:(l.head?==c||l.head?==n 10)=x:=by
   unfold bR at h;simp only[C,beq_iff_eq] at h ⊢;rcases h with(h|h)|h
   ·exact .inl h
   ·exact .inr h
   ·exact absurd h J2
  rw[he];simp
def ab1 (nx:Nat) (er:Int) (w:World) (e:Ending) (w':World):Prop:=∃k a t,Ir k a t nx er w e w'
theorem ab2 (s:Bs) (p:Nat) (l:Bs) (hd:s.drop p=l) (hp:p≤s.length) (hlim:s.length≤1000000) (he:bR l=x) (w:World) (hT:Lib.Utf8Tabs 6 7 w):
  Calls z 163 #[E ⟨s.toArray⟩,d f p] w (ab1 (p+(pK l).1) (pK l).2 w):=by
 have hll:p+l.length=s.length:=by rw[←hd,A];omega
 obtain⟨k1,k2,k3,k4⟩:=Za he;obtain⟨q,hq⟩:∃q,q=p+lT l:=⟨_,rfl⟩;obtain⟨r,hr⟩:∃r,r=iA l:=⟨_,rfl⟩;have CP:s.drop q=r:=by rw[hq,hr,←k1,←List.drop_drop,hd]
 have yZ:q≤s.length:=by omega
 have XK:pK l=if r.head?=c then(l.length,0) else if r.head?=n 10 then(l.length - r.length+1,0) else(l.length - r.length,120):=by unfold pK;rw[hr]
 rw[←hr] at k1 k2 k3 k4;have dM:Hid (rR l=(r.head?==c||r.head?==n 10)):=hid k4;have HS:=fun W (hb:Below w.heap.size w W)=>hid (og s p l hd hp hlim W (Utf8Tabs_below hT hb))
 rw[←hq] at HS;have hsl:=fun W=>lG u s q yZ W
 rw[CP] at hsl;have hz:=dR s;have hqp:p≤q:=by omega
 have HQ:Hid (q+r.length=s.length∧p+l.length=s.length∧q=p+(l.length - r.length)):=hid ah;clear k1 k2 k3 k4 hd he hT hr hll hq
 cases r
 case' nil=>
  have HK:Hid (((([]:Bs).head?==c||([]:Bs).head?==n 10):Bool)=x):=hid rfl;have HE:Hid (p+(pK l).1=q∧(pK l).2=0):=hid (by rw[XK,if_pos (show([]:Bs).head?=c from rfl)];exact⟨by have:=HQ.q;simp at this;simp only[];omega,rfl⟩)
 case' cons b t=>
  have hi0:∀W,(Instr.index 9 (E ⟨(b::t).toArray⟩) (d f 0)).run z W= .ok (.int .u8 (b.toNat:Int)) W:=fun W=>gQ u (b::t) 0 b rfl W
  have hsh:∀W,(Instr.slice 9 (E ⟨(b::t).toArray⟩) c (n (d f 1)) c).run z W= .ok (E ⟨[b].toArray⟩) W:=fun W=>vZ u (b::t) 1 ak W
  have hempty:((b::t)==([]:Bs))=g:=rfl;have hq2:q+1≤s.length:=by have:=HQ.q;simp at this;omega
  by_cases mO:b=10
  case' pos=>
   subst mO;have HK:Hid (((((10::t:Bs).head?)==c||((10::t:Bs).head?)==n 10):Bool)=x):=hid rfl;have HE:Hid (p+(pK l).1=q+1∧(pK l).2=0):=hid (by rw[XK,if_neg ak,if_pos (show(10::t:Bs).head?=n 10 from rfl)];exact⟨by have:=HQ.q;simp only[] at this ⊢;omega,rfl⟩)
  case' neg=>
   have HK:Hid (((((b::t:Bs).head?)==c||((b::t:Bs).head?)==n 10):Bool)=g):=hid (by simp[mO]);have HE:Hid (p+(pK l).1=q∧(pK l).2=120):=hid (by rw[XK,if_neg ak,if_neg (by simpa using mO)];exact⟨by have:=HQ.q;simp only[] at this ⊢;omega,rfl⟩)
 all_goals
  clear XK CP;by_cases hpq:q=p
  case' pos=>
   subst hpq;by_cases hp0:q=0
   case' pos=>
    have hdp:decide ((0:Int)<(q:Int))=g:=decide_eq_false ah;have U7:decide (0<q)=g:=decide_eq_false ah;clear hp0;go_enter func163,ntmps163;go_wp2_with fail;refine(HS _ (av (o _ _) _)).q.mono ?_;rintro e w1 ⟨rfl,hb1⟩;have HB:=hid ((av (o w.heap.size w) (j (ay 0 0 [] g) 162)).trans (hb1.mono ak));have HX:=hid ((Bx.new w (ay 0 0 [] g) 162).keep hb1);clear hb1;rw[dM.q,HK.q];have hcx:=(HX.q.alloc (j (ay 0 q [] g) 162)).1;have hfx:=(HX.q.alloc (j (ay 0 q [] g) 162)).2.1;have ji:=hid (av HB.q (j (ay 0 q [] g) 162))
   case' neg=>
    have hdp:decide ((0:Int)<(q:Int))=x:=decide_eq_true ah;have U7:decide (0<q)=x:=decide_eq_true ah;obtain⟨b0,hb0⟩:∃b0,s[q - 1]?=n b0:=⟨_,List.getElem?_eq_getElem ah⟩;have hi1:=fun W=>gQ u s (q - 1) b0 hb0 W
    rw[show((q - 1:Nat):Int)=(q:Int) - 1 by omega] at hi1;have afk:wrap32 (b0.toNat:Int)=(b0.toNat:Int):=IntWalk.wrap32_in _ (by have:=b0.toNat_lt;omega);clear hb0 hp0;go_enter func163,ntmps163;go_wp2_with fail;refine(HS _ (av (o _ _) _)).q.mono ?_;rintro e w1 ⟨rfl,hb1⟩;have HB:=hid ((av (o w.heap.size w) (j (ay 0 0 [] g) 162)).trans (hb1.mono ak));have HX:=hid ((Bx.new w (ay 0 0 [] g) 162).keep hb1);clear hb1;rw[dM.q,HK.q];go_wp2_with fail;refine(Dy _ _).mono ?_;rintro e w2 ⟨rfl,hb2⟩
    cases hbl:uY (b0.toNat:Int)
    case' false=>
     cases mO:((b0.toNat:Int)==10)
     case' false=>
      have OV:((b0.toNat:Int)!=10)=x:=by rw[bne,mO];rfl
      replace HB:=hid (HB.q.bq hb2);replace HX:=hid (HX.q.keep hb2)
      clear hb2;have hcx:=(HX.q.alloc (j (ay 0 q [] x) 162)).1;have hfx:=(HX.q.alloc (j (ay 0 q [] x) 162)).2.1;have ji:=hid (av HB.q (j (ay 0 q [] x) 162))
     case' true=>
      have OV:((b0.toNat:Int)!=10)=g:=by rw[bne,mO];rfl
      replace HB:=hid (HB.q.bq hb2);replace HX:=hid (HX.q.keep hb2)
      clear hb2;have hcx:=(HX.q.alloc (j (ay 0 q [] g) 162)).1;have hfx:=(HX.q.alloc (j (ay 0 q [] g) 162)).2.1;have ji:=hid (av HB.q (j (ay 0 q [] g) 162))
    case' true=>
     replace HB:=hid (HB.q.bq hb2);replace HX:=hid (HX.q.keep hb2)
     clear hb2;have hcx:=(HX.q.alloc (j (ay 0 q [] g) 162)).1;have hfx:=(HX.q.alloc (j (ay 0 q [] g) 162)).2.1;have ji:=hid (av HB.q (j (ay 0 q [] g) 162))
  case' neg=>
   have hne:((q:Int)==(p:Int))=g:=beq_eq_false_iff_ne.2 ah;clear hpq;go_enter func163,ntmps163;go_wp2_with fail;refine(HS _ (av (o _ _) _)).q.mono ?_;rintro e w1 ⟨rfl,hb1⟩;have HB:=hid ((av (o w.heap.size w) (j (ay 0 0 [] g) 162)).trans (hb1.mono ak));have HX:=hid ((Bx.new w (ay 0 0 [] g) 162).keep hb1);clear hb1;rw[dM.q,HK.q];have hcx:=(HX.q.alloc (j (ay 0 q [] g) 162)).1;have hfx:=(HX.q.alloc (j (ay 0 q [] g) 162)).2.1;have ji:=hid (av HB.q (j (ay 0 q [] g) 162))
 all_goals
  go_wp2_with fail;have hwq:IntKind.i64.wrap ((q:Int)+1)=(q:Int)+1:=Go.IntWalk.i64_in _ ah
  first
  |refine bodyPost_ret (v:= .tuple #[.agg (ay 5 q [] g),d f (q:Int),d f 0]) ?_ rfl ⟨5,q,[],g,?_,?_⟩
   focus (simp[results,results163,go_sem,hcx,hwq];done)
   focus (rw[HE.q.1,HE.q.2] <;> rfl)
  |refine bodyPost_ret (v:= .tuple #[.agg (ay 0 0 [] g),d f (q:Int),d f 120]) ?_ rfl ⟨0,0,[],g,?_,?_⟩
   focus (simp[results,results163,go_sem,hcx,hwq];done)
   focus (rw[HE.q.1,HE.q.2] <;> rfl)
  |refine bodyPost_ret (v:= .tuple #[.agg (ay 4 q [10] g),d f ((q:Int)+1),d f 0]) ?_ rfl ⟨4,q,[10],g,?_,?_⟩
   focus (simp[results,results163,go_sem,hcx,hwq];done)
   focus (rw[HE.q.1,HE.q.2] <;> rfl)
  exact(((ji.q.setCell (p:=⟨w.heap.size,0,c⟩) (i _) _).setCell (p:=⟨w.heap.size,1,c⟩) (i _) _).setCell (p:=⟨w.heap.size,2,c⟩) (i _) _).setCell (p:=⟨w.heap.size,3,c⟩) (i _) _
theorem ahX (v:Value) (W:World):(Instr.typeAssert (.iface 223 v) 20 223 x).run z W= .ok (.tuple #[v,D x]) W:=au
theorem Gu (b:Nat) (p m:Int) (a0 a1 a2 a3 a4 a5 n0 e0:Value) (older:List PanicEntry) (w:World) (h1:Bx w b #[a0,a1,a2,a3,a4,a5]) (h2:Bx w (b+1) #[n0]) (h3:Bx w (b+2) #[e0]):
  CallsD z 161 #[B (n ⟨b,0,c⟩),B (n ⟨b+1,0,c⟩),B (n ⟨b+2,0,c⟩)] (.panicking ({v:= .iface 223 (.agg #[d f p,d f m]),recovered:=false}::older)) w fun e u' w'=>
   e= .returned (.tuple #[])∧u'= .panicking ({v:= .iface 223 (.agg #[d f p,d f m]),recovered:=true}::older)∧
   Bx w' b #[d f 0,y c 0 0,d f 0,y c 0 0,D g,d f 0]∧Bx w' (b+1) #[d f p]∧Bx w' (b+2) #[d f m]∧Below b w w':=by
 refine callsD_of_wpS func161 rfl fun c₀ cs hu=>?_
 apply wpS_seq
 apply wpS_region
 simp[wpOpsS,go_sem,recoverD,hu,ntmps161,Exit.thenS];refine wpS_of_wp ?_;have hta:=ahX (.agg #[d f p,d f m]);simp only[Array.replicate_succ,Array.replicate_zero,List.push_toArray,List.append_toArray,List.nil_append,List.cons_append,List.setIfInBounds_toArray,List.set_cons_zero,List.set_cons_succ];have hx0:=Bx.new w #[d f p,d f m] 223;obtain⟨Z,hZ⟩:∃Z:World,Z=(((((w.setCell ⟨b,0,c⟩ (d f 0)).setCell ⟨b,1,c⟩ (y c 0 0)).setCell ⟨b,2,c⟩ (d f 0)).setCell ⟨b,3,c⟩ (y c 0 0)).setCell ⟨b,4,c⟩ (D g)).setCell ⟨b,5,c⟩ (d f 0):=⟨_,rfl⟩;have HZ:Hid (Bx Z b #[d f 0,y c 0 0,d f 0,y c 0 0,D g,d f 0]∧Bx Z (b+1) #[n0]∧Bx Z (b+2) #[e0]∧Z.heap.size=w.heap.size∧Below b w Z):=hid (by
  rw[hZ];refine⟨?_,?_,?_,by simp[World.setCell],?_⟩
  ·exact(((((h1.aR 0 ak _).aR 1 ak _).aR 2 ak _).aR 3 ak _).aR 4 ak _).aR 5 ak _
  ·exact(((((h2.setOther b 0 _ ah).setOther b 1 _ ah).setOther b 2 _ ah).setOther b 3 _ ah).setOther b 4 _ ah).setOther b 5 _ ah
  ·exact(((((h3.setOther b 0 _ ah).setOther b 1 _ ah).setOther b 2 _ ah).setOther b 3 _ ah).setOther b 4 _ ah).setOther b 5 _ ah
  ·exact((((((o b w).setCell (p:=⟨b,0,c⟩) (i b) _).setCell (p:=⟨b,1,c⟩) (i b) _).setCell (p:=⟨b,2,c⟩) (i b) _).setCell (p:=⟨b,3,c⟩) (i b) _).setCell (p:=⟨b,4,c⟩) (i b) _).setCell (p:=⟨b,5,c⟩) (i b) _)
 obtain⟨V,hV⟩:∃V:World,V=(Z.alloc (j #[d f p,d f m] 223)).drew:=⟨_,rfl⟩;have hx5:Bx V w.heap.size #[d f p,d f m]:=by
  have:=Bx.new Z #[d f p,d f m] 223;rw[HZ.q.2.2.2.1] at this;rw[hV];exact this
 have HV:Hid (Bx V b #[d f 0,y c 0 0,d f 0,y c 0 0,D g,d f 0]∧Bx V (b+1) #[n0]∧Bx V (b+2) #[e0]∧Bx V w.heap.size #[d f p,d f m]∧Below b w V):=hid (by
  refine⟨?_,?_,?_,hx5,?_⟩
  ·rw[hV];exact(HZ.q.1.alloc _).drew
  ·rw[hV];exact(HZ.q.2.1.alloc _).drew
  ·rw[hV];exact(HZ.q.2.2.1.alloc _).drew
  ·rw[hV];exact(HZ.q.2.2.2.2.alloc (by have:=HZ.q.2.2.2.1;have:=h1.2.2;omega) _).drew)
 have wE:Hid (b+2<w.heap.size):=hid h3.2.2;have HVY:Hid (Bx V (b+1) #[n0]):=hid HV.q.2.1;clear hx5;go_wp2_with fail;refine aK 99 [(0,0),(1,0),(2,0),(3,0),(4,0),(5,2),(6,2),(7,2)] (fun _=>True) (fun W'=>W'.cell? ⟨w.heap.size,0,c⟩=n (d f p)∧W'.cell? ⟨w.heap.size,1,c⟩=n (d f m)) au au (trivial) (⟨hx0.1 0,hx0.1 1⟩) ?_;refine qC ?_;refine aF rfl rfl (fun K hK=>?_);go_simp;rw[←hZ,←hV];refine hK _ _ ⟨trivial,HV.q.2.2.2.1.1 0,HV.q.2.2.2.1.1 1⟩ ?_;have z1:=HV.q.2.1.1 0;have f1_:=HV.q.2.1.2.1 0;clear hK K hZ hV;refine aF rfl rfl (fun K hK=>?_);go_simp;refine hK _ _ ⟨trivial,(HV.q.2.2.2.1.setOther (b+1) 0 _ (by have:=wE.q;omega)).1 0,(HV.q.2.2.2.1.setOther (b+1) 0 _ (by have:=wE.q;omega)).1 1⟩ ?_;clear hK K z1 f1_;have z1:=HV.q.2.2.1.1 0;have f1_:=HV.q.2.2.1.2.1 0;refine aF rfl rfl (fun K hK=>?_);go_simp;refine hK _ _ ⟨trivial,((HV.q.2.2.2.1.setOther (b+1) 0 _ (by have:=wE.q;omega)).setOther (b+2) 0 _ (by have:=wE.q;omega)).1 0,((HV.q.2.2.2.1.setOther (b+1) 0 _ (by have:=wE.q;omega)).setOther (b+2) 0 _ (by have:=wE.q;omega)).1 1⟩ ?_;clear hK K;refine bB ?_;go_wp2_with fail;obtain⟨w',hw'⟩:∃w':World,w'=(V.setCell ⟨b+1,0,c⟩ (d f p)).setCell ⟨b+2,0,c⟩ (d f m):=⟨_,rfl⟩;have hfin:Bx w' b #[d f 0,y c 0 0,d f 0,y c 0 0,D g,d f 0]∧Bx w' (b+1) #[d f p]∧Bx w' (b+2) #[d f m]∧Below b w w':=by
  rw[hw'];refine⟨((HV.q.1.setOther (b+1) 0 _ ah).setOther (b+2) 0 _ ah),((HV.q.2.1.aR 0 ak _).setOther (b+2) 0 _ ah),((HV.q.2.2.1.setOther (b+1) 0 _ ah).aR 0 ak _),?_⟩;exact(HV.q.2.2.2.2.setCell (p:=⟨b+1,0,c⟩) ak _).setCell (p:=⟨b+2,0,c⟩) ak _
 rw[←hw'];have HF:=hid hfin;clear hw' hfin
 cases c₀
 simp_all[bodyPostS,results,results161]
 exact HF.q
theorem U8 (b:Nat) (w:World):
  CallsD z 161 #[B (n ⟨b,0,c⟩),B (n ⟨b+1,0,c⟩),B (n ⟨b+2,0,c⟩)] .returning w fun e u' w'=>e= .returned (.tuple #[])∧u'= .returning∧w'=w:=by
 refine callsD_of_wpS func161 rfl fun c₀ cs hu=>?_
 apply wpS_seq
 apply wpS_region
 simp[wpOpsS,go_sem,recoverD,hu,ntmps161,Exit.thenS];refine wpS_of_wp ?_;go_wp2_with fail
 cases c₀
 simp_all[bodyPostS,results,results161]
end Yd
