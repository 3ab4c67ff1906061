import Derived.Test.YtnhnhmeogckgpaaGreatDoorAto
import Derived.Test.YtnhnhmeogckgpaaGreatDoorRows
import Derived.ProofKit
import Derived.OpenShut
import Derived.Deep.Slices
import Derived.Test.YtnhnhmeogckgpaaGreatDoorFm1
import Derived.Test.YtnhnhmeogckgpaaGreatDoorCards
import Derived.Test.YtnhnhmeogckgpaaGreatDoorTie
import Derived.Deep.DeepHandedRow
import Derived.Lib.LaidU8
import Derived.LaidMore
set_option linter.all false
set_option maxRecDepth 200000
set_option maxHeartbeats 8000000
namespace Yd
open List renaming getElem?_eq_getElem→f,getElem?_eq_some_iff→g
open Go Go.RowKit Go.Proofs Go.ChangeShapes Go.WideShapes Go.ChangeAt
open Go.Proofs.YtnhnhmeogckgpaaGreatDoor.Rows (uptoBulk uptoBulkAll)
section
variable {H:Type} {enc:TypeId × Value→H} {w:World} {base:Nat} {spare:Nat→Bool} {held:Bool}
theorem Vi {d:DataW H} {l:List (DataW H)} (h:d∈l):uptoBulk d≤uptoBulkAll l:=by
 induction l with
 |nil=>cases h
 |cons x r ih=>
  simp only[uptoBulkAll]
  cases List.mem_cons.1 h with
  |inl e=>subst e;omega
  |inr e=>have:=ih e;omega
theorem Vj (d:DataW H):1≤uptoBulk d:=by
 cases d with
 |lit l=>cases l <;> simp[uptoBulk]
 |nil=>simp[uptoBulk]
 |ptr d=>simp[uptoBulk]
 |slice elems spare=>simp[uptoBulk]
 |agg parts=>simp[uptoBulk]
 |iface t d=>simp[uptoBulk]
 |map entries=>simp[uptoBulk]
 |held h=>simp[uptoBulk]
theorem Vk (l:List (DataW H)):l.length≤uptoBulkAll l:=by
 induction l with
 |nil=>simp[uptoBulkAll]
 |cons x r ih=>have:=Vj x;simp only[uptoBulkAll,List.length_cons];omega
def Pe {α:Type} (enc:TypeId × Value→H) (w:World) (base:Nat) (spare:Nat→Bool) (held:Bool) (N:Nat) (e:TypeId) (en:α→List Value) (Q:α→Prop):Prop:=
 ∀n cs y,DataW.trod enc Tryz.prog w base spare held n e cs=some y→uptoBulk y.1≤N→∃x,cs=en x∧Q x
theorem Ib {α:Type} {p:Nat→α→Prop}:∀(m:Nat),(∀i,i<m→∃x,p i x)→∃xs:List α,xs.length=m∧∀i x,xs[i]?=some x→p i x
 |0,_=>⟨[],rfl,fun i x h=>by simp at h⟩
 |m+1,h=>by
  obtain⟨xs,hl,hx⟩:=Ib m (fun i hi=>h i ah);obtain⟨x,hp⟩:=h m ah;refine⟨xs++[x],by simp[hl],fun i y hy=>?_⟩;rcases Nat.lt_or_ge i m with hi|hi
  ·rw[List.getElem?_append_left ah] at hy
   exact hx i y hy
  ·rw[List.getElem?_append_right ah,hl] at hy
   have:i=m:=by
    rcases Nat.lt_or_ge (i - m) 1 with h1|h1
    ·omega
    ·rw[List.getElem?_eq_none (by simpa using h1)] at hy;cases hy
   subst this;simp at hy;subst hy;exact hp
theorem RQ {w:World} {a:Addr} {v:Value} (h:w.cell? a=some v):a.spot=none:=by
 unfold World.cell? at h
 split at h
 ·split at h
  ·cases h
  ·rename_i hs
   cases hsp:a.spot with
   |none=>rfl
   |some x=>rw[hsp] at hs;exact absurd rfl hs
 ·cases h
theorem AX {α:Type} {en:α→List Value} {k:Nat} [hc:Cells en k] {t e:TypeId} {Q:α→Prop} {N:Nat} (hN:N≤140737488355328) (ht:Tryz.prog.underlying t=some (.slice e)) (hk:Tryz.prog.cellsOf e=k) (hr:Pe enc w base spare held N e en Q)
  {n:Nat} {cs:List Value} {y:DataW H × List MemPlace} (h:DataW.trod enc Tryz.prog w base spare held n t cs=some y) (hb:uptoBulk y.1≤N):
  ∃s:Sl,∃xs:List α,cs=[s.v]∧Row w k en s.a s.n s.c xs∧xs.length≤N∧∀x∈xs,Q x:=by
 rcases DataW.trod_slice ht h with⟨rfl,rfl⟩|⟨a,len,cap,elems,rest,n',rfl,rfl,rfl,hba,hl,hm,hel,hget,_,_⟩
 ·exact⟨⟨none,0,0⟩,[],rfl,Row.iJ,Nat.zero_le _,fun x hx=>by cases hx⟩
 ·have aeH:uptoBulkAll (elems.map (·.1))≤N:=by simp only[uptoBulk] at hb;omega
  have hlen:len≤N:=by
   have:=Vk (elems.map (·.1));rw[List.length_map,hel] at this;omega
  obtain⟨xs,hxl,hx⟩:=Ib (p:=fun i x=>(∀j v,(en x)[j]?=some v→w.cell? (a.add (i*k+j))=some v)∧Q x) len (fun i hi=>by
   have hg:=hget i hi;rw[f ah] at hg;obtain⟨cs',h1,h2⟩:=Option.bind_eq_some_iff.1 hg;obtain⟨x,rfl,hq⟩:=hr _ _ _ h2 (Nat.le_trans (Vi (List.mem_map.2 ⟨_,List.getElem_mem ah,rfl⟩)) aeH);obtain⟨_,hl',hcell⟩:=World.cells?_some h1;refine⟨x,fun j v hv=>?_,hq⟩;have hj:j<k:=by have:=(g.1 hv).1;rw[hc.len] at this;exact this
   have:=hcell j (by rw[hk];exact hj);rw[Go.Deep.add_add,hk,hv] at this;exact this)
  refine⟨⟨some a,len,cap⟩,xs,rfl,⟨hxl,hl,Nat.le_trans hlen hN,fun h=>(by cases h),fun i x hxi=>?_⟩,by omega,fun x hxm=>?_⟩
  ·have hi:i<xs.length:=(g.1 hxi).1
   have hsp:a.spot=none:=by
    obtain⟨x0,hx0⟩:∃x0,xs[0]?=some x0:=⟨_,f ah⟩;have hp:=hc.pos;obtain⟨v0,hv0⟩:∃v0,(en x0)[0]?=some v0:=⟨_,f (by rw[hc.len];exact hp)⟩;have:=(hx 0 x0 hx0).1 0 v0 hv0;rw[Nat.zero_mul,Nat.add_zero] at this;exact RQ this
   refine⟨a.block,a.off,by obtain⟨b,o,s⟩:=a;simp only at hsp;rw[hsp],fun j v hv=>?_⟩;have:=(hx i x hxi).1 j v hv;unfold Addr.add at this
   split at this
   ·rename_i h0
    rw[show a.off+i*k+j=a.off by omega];obtain⟨b,o,s⟩:=a;simp only at hsp;rw[hsp] at this;exact this
   ·rw[Nat.add_assoc];exact this
  ·obtain⟨i,hi⟩:=List.mem_iff_getElem?.1 hxm
   exact(hx i x hi).2
variable {N:Nat}
theorem abt:Pe enc w base spare held N 9 encStr (fun _=>True):=fun n cs y h _=>by
 obtain⟨s,rfl,_,_⟩:=DataW.trod_string Tryz.underlying9 h;exact⟨s.data.toList,by simp[encStr],trivial⟩
theorem YQ {n:Nat} {cs:List Value} {y:DataW H × List MemPlace} (h:DataW.trod enc Tryz.prog w base spare held n 4 cs=some y):∃b,cs=[.bool b]:=by
 obtain⟨b,rfl,_⟩:=DataW.trod_bool Tryz.underlying4 h;exact⟨b,rfl⟩
theorem Jd:Tryz.prog.cellsOf 3=1:=au
theorem Je:Tryz.prog.cellsOf 9=1:=au
theorem abu:Tryz.prog.cellsOf 4=1:=au
theorem abv:Tryz.prog.cellsOf 22=1:=au
end
end Yd
namespace Yd
open Go Go.RowKit Go.Proofs
def zB (w:World) (l:bf) (s:aB):Prop:=
 (l.kind=s.kind∧l.lvl=s.lvl∧l.first=s.first∧l.bits=s.bits)∧Row w 1 encStr l.na l.nn l.nc s.names∧Row w 2 mR l.va l.vn l.vc s.aF
theorem zB.below {w w':World} {l:bf} {s:aB} (h:zB w l s) (hb:Below w.heap.size w w'):zB w' l s:=⟨h.1,h.2.1.below hb rfl,h.2.2.below hb rfl⟩
theorem Row.ML {α:Type} {enc:α→List Value} {w:World} {k:Nat} {a:Option Addr} {n c:Nat} {xs:List α} (h:Row w k enc a n c xs) (K:Nat):Row w k enc a (xs.take K).length c (xs.take K):=by
 obtain⟨h1,h2,h3,h4,h5⟩:=h;refine⟨rfl,by rw[List.length_take];omega,by rw[List.length_take];omega,h4,fun i x hx=>?_⟩;rw[List.getElem?_take] at hx
 split at hx
 ·exact h5 i x hx
 ·cases hx
end Yd
namespace Yd
open Go Go.RowKit Go.Proofs Go.ChangeShapes Go.WideShapes Go.ChangeAt Tryz
open Go.Proofs.YtnhnhmeogckgpaaGreatDoor.Rows (uptoBulk uptoBulkAll)
section
variable {H:Type} {enc:TypeId × Value→H} {w:World} {base:Nat} {spare:Nat→Bool} {held:Bool} {N:Nat}
theorem abw:Tryz.prog.cellsOf 76=2:=au
theorem abx:Tryz.prog.cellsOf 34=6:=au
theorem aeI:Tryz.prog.cellsOf 32=1:=au
theorem aeJ:Pe enc w base spare held N 76 mR (fun _=>True):=fun n cs y h _=>by
 obtain⟨xs,n',_,rfl,hl,hlen,hf⟩:=DataW.trod_struct underlying76 h;rw[abw] at hl
 match xs,hlen,cs,hl with
 |[y0,y1],_,[c0,c1],_=>
  have f0:=hf 0 _ rfl;have f1:=hf 1 _ rfl;simp[Jd,Je] at f0 f1;obtain⟨a,e0,_⟩:=DataW.trod_string Tryz.underlying9 f0;obtain⟨b,e1,_⟩:=DataW.trod_int underlying3 f1;simp at e0 e1;exact⟨⟨a.data.toList,b⟩,by rw[e0,e1];simp[mR],trivial⟩
theorem RS {n:Nat} {cs:List Value} {y:DataW H × List MemPlace} (h:DataW.trod enc Tryz.prog w base spare held n 34 cs=some y) (hb:uptoBulk y.1≤1048576):
  ∃(l:bf) (s:aB),cs=(jE l).toList∧zB w l s:=by
 obtain⟨xs,n',_,rfl,hl,hlen,hf⟩:=DataW.trod_struct underlying34 h;rw[abx] at hl
 match xs,hlen,cs,hl,hb with
 |[y0,y1,y2,y3,y4,y5],_,[c0,c1,c2,c3,c4,c5],_,hb=>
  simp only[List.map_cons,List.map_nil,uptoBulk,uptoBulkAll] at hb;have f0:=hf 0 _ rfl;have f1:=hf 1 _ rfl;have f2:=hf 2 _ rfl;have f3:=hf 3 _ rfl;have f4:=hf 4 _ rfl;have f5:=hf 5 _ rfl;simp[Jd,abv,aeI,abu] at f0 f1 f2 f3 f4 f5;obtain⟨a0,e0,_⟩:=DataW.trod_int underlying3 f0;obtain⟨s1,l1,e1,r1,b1,_⟩:=AX (hc:=kQ) (N:=1048576) aj underlying22 Je abt f1 ah;obtain⟨a2,e2,_⟩:=DataW.trod_int underlying3 f2;obtain⟨s3,l3,e3,r3,b3,_⟩:=AX (hc:=Fe) (N:=1048576) aj underlying32 abw aeJ f3 ah;obtain⟨a4,e4⟩:=YQ f4;obtain⟨a5,e5,_⟩:=DataW.trod_int underlying3 f5;simp at e0 e1 e2 e3 e4 e5;exact⟨⟨a0,s1.a,s1.n,s1.c,a2,s3.a,s3.n,s3.c,a4,a5⟩,⟨a0,l1,a2,l3,a4,a5⟩,by rw[e0,e1,e2,e3,e4,e5],⟨rfl,rfl,rfl,rfl⟩,r1,r3⟩
theorem aeK:Pe enc w base spare held 1048576 34 iG (fun l=>∃s,zB w l s):=fun n cs y h hb=>by
 obtain⟨l,s,rfl,hl⟩:=RS h hb;exact⟨l,rfl,s,hl⟩
theorem NG {w:World}:∀xs:List bf,(∀x∈xs,∃s,zB w x s)→∃ls:List aB,xs.length=ls.length∧∀(i:Nat) (l:bf),xs[i]?=some l→∃s,ls[i]?=some s∧zB w l s
 |[],_=>⟨[],rfl,fun i l h=>(by cases h)⟩
 |x::xs,h=>by
  obtain⟨ls,h1,h2⟩:=NG xs (fun y hy=>h y (List.mem_cons_of_mem _ hy));obtain⟨s,hs⟩:=h x List.mem_cons_self;refine⟨s::ls,by simp[h1],fun i l hi=>?_⟩
  cases i with
  |zero=>injection hi with hi;subst hi;exact⟨s,rfl,hs⟩
  |succ i=>exact h2 i l hi
theorem U8 {n:Nat} {cs:List Value} {y:DataW H × List MemPlace} (h:DataW.trod enc Tryz.prog w base spare held n 25 cs=some y) (hb:uptoBulk y.1≤1048576):
  ∃(a:Option Addr) (c:Nat) (aR:List bf) (ls:List aB),cs=[.slice a aR.length c]∧Row w 6 iG a aR.length c aR∧aR.length=ls.length∧∀(i:Nat) (l:bf),aR[i]?=some l→∃s,ls[i]?=some s∧zB w l s:=by
 obtain⟨s,xs,rfl,hr,_,hq⟩:=AX (hc:=wH) (N:=1048576) aj underlying25 abx aeK h hb;obtain⟨ls,h1,h2⟩:=NG xs hq;exact⟨s.a,s.c,xs,ls,by rw[hr.len],by rw[hr.len];exact hr,h1,h2⟩
end
end Yd
namespace Yd
open Array renaming getElem?_eq_some_iff→N,getElem?_setIfInBounds_ne→S
open Option renaming some→u,none→y
open Go Go.RowKit Go.Proofs Tryz
open Below renaming refl→H
open Go renaming World→C,Value→J
open Go.IntKind renaming i64→p
open Go.Obj renaming cells→d
open Go.Value renaming int→m,slice→r,string→F
open Same renaming of_below→D,refl'→U
open Tryz renaming prog→Z
open World renaming size_alloc→G
open Yd renaming hid→f
open _root_ renaming Nat→E,if_neg→I,List→M,Int→O,if_pos→P,Array→Q,trivial→V
def rC (w:C):Prop:=Lib.Utf8Tabs 6 7 w∧∀i,i<4→w.cell? ⟨4,i,y⟩=u (m p (jP i:O))
def KL (R k:E) (cs:Q J) (L:M Bs) (s:Bs) (w:C) (e:Ending) (w':C):Prop:=
 Same (fun i=>i≠R) w w'∧
 if(s∈L∨L.length<300)∧(bY L s).length≤jP k then e= .returned (m p (p9 L s:O))∧∃a' c',Own w' w.heap.size 9 1 encStr (r a' (bY L s).length c') (bY L s)∧Bx w' R (cs.setIfInBounds (8+k) (r a' (bY L s).length c'))
 else e= .panicked ji
theorem YR (k:E) (hk:k<4) (R:E) (L:M Bs) (a:Option Addr) (c:E) (s:Bs) (w:C) (cs:Q J) (hB:Bx w R cs) (hC:cs[(8+k)]?=u (r a L.length c)) (hr:Row w 1 encStr a L.length c L) (hL:Au L) (hs:bS ⟨s.toArray⟩=true) (hG:rC w):
  Calls Z 180 #[.pointer (u ⟨R,0,y⟩),m p (k:O),F ⟨s.toArray⟩] w (KL R k cs L s w):=by
 have HK:=f hk;have hk4:(k:O)<4:=by omega
 have HP:=f (RU L a c s w hr hL hs hG.1);have HG:=f hG;have gL:=f hB;have HC:=f hC;have hx:w.cell? ⟨R,8+k,y⟩=u (r a L.length c):=(hB.1 (8+k)).trans hC;clear hr hL hs hG hB hC hk;go_enter func180,ntmps180;go_wp2_with fail;refine HP.q.mono ?_;rintro e w1 ⟨hb1,he⟩;have HB1:=f hb1;by_cases hput:s∈L∨L.length<300
 ·rw[P hput] at he
  obtain⟨a',c',rfl,hown⟩:=he;have HO:=f hown;have Ej:=f hput;have hg:=aT hb1 rfl (HG.q.2 k HK.q);have hcG:((w1.alloc (d #[r a' (bY L s).length c'] 91)).drew).cell? ⟨4,k,y⟩=u (m p (jP k:O)):=by
   have:=aT (av (H w1.heap.size w1) (d #[r a' (bY L s).length c'] 91)) rfl hg;exact this
  have Xe:((w1.alloc (d #[r a' (bY L s).length c'] 91)).drew).cell? ⟨w1.heap.size,0,y⟩=u (r a' (bY L s).length c'):=(Bx.new w1 #[r a' (bY L s).length c'] 91).1 0;have HB2:=f (hb1.trans ((av (H w1.heap.size w1) (d #[r a' (bY L s).length c'] 91)).mono hb1.size));have oM:=f (hown.below (av (H w1.heap.size w1) (d #[r a' (bY L s).length c'] 91)) rfl);have hb2:Below w.heap.size w _:=hb1.trans ((av (H w1.heap.size w1) (d #[r a' (bY L s).length c'] 91)).mono hb1.size);have hcR:(w1.alloc (d #[r a' (bY L s).length c'] 91)).cell? ⟨R,8+k,y⟩=u (r a L.length c):=((gL.q.keep hb2).1 (8+k)).trans HC.q;have DJ:(w1.alloc (d #[r a' (bY L s).length c'] 91)).frozen? ⟨R,8+k,y⟩=false:=(gL.q.keep hb2).2.1 (8+k);have ag7:=f hb2;clear hb1 hown hput hg hb2;go_wp2_with fail;by_cases hfit:(bY L s).length≤jP k
  ·have HF:=f hfit
   have hdec:decide (((bY L s).length:O)≤(jP k:O))=true:=decide_eq_true ah;clear hfit;refine bT 99 [(0,0),(1,0),(2,0),(3,0),(4,0),(5,0),(6,0),(7,0),(8,0),(9,0),(10,0),(11,2)] (fun _=>True) (fun W'=>W'.cell? ⟨w1.heap.size,0,y⟩=u (r a' (bY L s).length c')∧W'.cell? ⟨4,k,y⟩=u (m p (jP k:O))) (fun _ _=>False) au au (fun ch a1 w1 hd hr=>hr.elim) (trivial) (⟨Xe,hcG⟩) ?_;refine qC ?_;refine aD rfl rfl (fun K hK=>?_);go_simp;refine(kP _ _).mono ?_;rintro e w2 ⟨rfl,rfl⟩;rw[P (by simpa using hdec)];refine hK _ _ ⟨V,Xe,hcG⟩ ?_;clear hK K;refine jy ?_;go_wp2_with fail;refine aI 6 [(0,1),(1,1),(2,0),(3,1),(4,1),(5,1),(6,2)] (fun _=>True) (fun W'=>W'.cell? ⟨w1.heap.size,0,y⟩=u (r a' (bY L s).length c')) au au (trivial) (Xe) ?_;refine qC ?_;refine eF rfl rfl rfl (fun K hK=>?_);go_simp;go_simp;refine hK _ _ V ?_;clear hK K;refine bn ?_;go_wp2_with fail;go_ret;refine⟨((D HB2.q (fun _ _ h=>h)).setTail (fun h=>h rfl)).nO.nO,?_⟩;rw[P ⟨Ej.q,HF.q⟩];refine⟨rfl,a',c',?_,?_⟩
   ·refine oM.q.same (A:=fun i=>i≠R) (((U _).setTail (fun h=>h rfl)).nO.nO) (fun g hg e=>?_)
    have h1:=(oM.q.lt g hg).1;have h2:=gL.q.2.2;omega
   ·have h1:(8+k)<cs.size:=(N.1 HC.q).1
    exact(((gL.q.keep ag7.q).aU (8+k) h1 _).drew).drew
  ·have HF:=f hfit
   have hdec:decide (((bY L s).length:O)≤(jP k:O))=false:=decide_eq_false ah;have RES:Hid (∀ch w',(ch=ji∧w'=(w1.alloc (d #[r a' (bY L s).length c'] 91)).drew)→KL R k cs L s w (.panicked ch) w'):=f (by
    rintro ch w' ⟨rfl,rfl⟩;refine⟨(D HB2.q (fun _ _ h=>h)).nO,?_⟩;rw[I (fun h=>HF.q h.2)])
   clear hfit;refine bT 99 [(0,0),(1,0),(2,0),(3,0),(4,0),(5,0),(6,0),(7,0),(8,0),(9,0),(10,0),(11,2)] (fun _=>True) (fun W'=>W'.cell? ⟨w1.heap.size,0,y⟩=u (r a' (bY L s).length c')∧W'.cell? ⟨4,k,y⟩=u (m p (jP k:O))) (fun ch w'=>ch=ji∧w'=(w1.alloc (d #[r a' (bY L s).length c'] 91)).drew) au au (fun ch a1 w1 hd hr=>⟨hd,RES.q ch w1 hr⟩) (trivial) (⟨Xe,hcG⟩) ?_;refine qC ?_;refine aD rfl rfl (fun K hK=>?_);go_simp;refine(kP _ _).mono ?_;rintro e w2 ⟨rfl,rfl⟩;rw[I (by simpa using hdec)];exact⟨rfl,rfl,rfl⟩
 ·rw[I hput] at he
  subst he;have RES:Hid (∀ch w',(ch=ji∧w'=(w1.alloc (d #[r y 0 0] 91)).drew)→KL R k cs L s w (.panicked ch) w'):=f (by
   rintro ch w' ⟨rfl,rfl⟩;refine⟨(D (hb1.trans ((av (H w1.heap.size w1) _).mono hb1.size)) (fun _ _ h=>h)).nO,?_⟩;rw[I (fun h=>hput h.1)])
  clear hb1 hput;go_wp2_with fail;refine bT 99 [(0,0),(1,0),(2,0),(3,0),(4,0),(5,0),(6,0),(7,0),(8,0),(9,0),(10,0),(11,2)] (fun _=>True) (fun _=>True) (fun ch w'=>ch=ji∧w'=(w1.alloc (d #[r y 0 0] 91)).drew) au au (fun ch a1 w1 hd hr=>⟨hd,RES.q ch w1 hr⟩) (trivial) (trivial) ?_;refine qC ?_;refine aD rfl rfl (fun K hK=>?_);go_simp;refine(kP _ _).mono ?_;rintro e w2 ⟨rfl,rfl⟩;rw[I ak];exact⟨rfl,rfl,rfl⟩
structure uI (w:C) (R:E) (cs:Q J) (nl:E→M Bs):Prop where
 b:Bx w R cs
 t:∀k,k<4→∃v,cs[8+k]?=u v∧Own w (R+1) 9 1 encStr v (nl k)
 n:∀k,k<4→Au (nl k)∧(nl k).length≤jP k
theorem NH (k:E):jP k≤300:=by unfold jP;split <;> omega
theorem YS {L:M Bs} {s:Bs} (h:Au L) (hs:bS ⟨s.toArray⟩=true) (hl:(bY L s).length≤300):Au (bY L s):=
 ⟨fun x hx=>by
  unfold bY at hx
  split at hx
  ·exact h.w x hx
  ·rcases List.mem_append.1 hx with hx|hx
   ·exact h.w x hx
   ·rw[List.mem_singleton.1 hx];exact hs,AY h.n,hl⟩
theorem BU {R:E} {cs:Q J} {nl:E→M Bs} (k:E) (hk:k<4) (s:Bs) (w:C) (h:uI w R cs nl) (hs:bS ⟨s.toArray⟩=true) (hG:rC w):
  Calls Z 180 #[.pointer (u ⟨R,0,y⟩),m p (k:O),F ⟨s.toArray⟩] w (fun e w'=>Same (fun i=>i≠R) w w'∧
   if(bY (nl k) s).length≤jP k then e= .returned (m p (p9 (nl k) s:O))∧∃cs',uI w' R cs' (fun j=>if j=k then bY (nl k) s else nl j)∧cs'.size=cs.size∧∀j,j≠8+k→cs'[j]?=cs[j]?
   else e= .panicked ji):=by
 obtain⟨v,hv,hO⟩:=h.t k hk;obtain⟨hT,hn⟩:=h.n k hk;have hlim:=NH k;obtain⟨a,c,rfl,_,_⟩:=hO.shape;have hr:Row w 1 encStr a (nl k).length c (nl k):=hO.row ah;refine(YR k hk R (nl k) a c s w cs h.b hv hr hT hs hG).mono ?_;rintro e w' ⟨hS,he⟩;refine⟨hS,?_⟩;by_cases hf:(bY (nl k) s).length≤jP k
 ·have hin:s∈nl k∨(nl k).length<300:=by
   by_cases hm:s∈nl k
   ·exact .inl hm
   ·rw[AZ hm,List.length_append,List.length_singleton] at hf
    exact .inr ah
  rw[P ⟨hin,hf⟩] at he;obtain⟨rfl,a',c',QW,hB'⟩:=he;rw[P hf];have Nz:=h.b.2.2;have hsz:8+k<cs.size:=(N.1 hv).1;refine⟨rfl,_,⟨hB',fun j hj=>?_,fun j hj=>?_⟩,by simp,fun j hj=>by rw[S (fun e=>hj e.symm)]⟩
  ·by_cases hjk:j=k
   ·subst hjk
    simp only[if_true];exact⟨_,by rw[Array.getElem?_setIfInBounds_self_of_lt hsz],QW.mono ah⟩
   ·rw[I hjk]
    obtain⟨v,hv,hO⟩:=h.t j hj;refine⟨v,by rw[S ah];exact hv,hO.same hS (fun g hg e=>?_)⟩;have:=(hO.lt g hg).1;omega
  ·by_cases hjk:j=k
   ·subst hjk
    simp only[if_true];exact⟨YS hT hs ah,hf⟩
   ·rw[I hjk];exact h.n j hj
 ·rw[I (fun h=>hf h.2)] at he
  rw[I hf];exact he
theorem uI.below {w w':C} {R:E} {cs:Q J} {nl:E→M Bs} (h:uI w R cs nl) (hb:Below w.heap.size w w'):uI w' R cs nl:=
 ⟨h.b.keep hb,fun k hk=>(let⟨v,h1,h2⟩:=h.t k hk;⟨v,h1,h2.below hb rfl⟩),h.n⟩
theorem uI.apart {X Y:C} {R g:E} {cs:Q J} {nl:E→M Bs} {T:TypeId} (h:uI X R cs nl) (hg:∃cs fz,X.heap[g]?=u (d cs T fz)) (hT:9≠T) (hR:R≠g) (hs:Same (fun i=>i≠g) X Y):uI Y R cs nl:=
 ⟨hs.bx h.b hR,fun k hk=>(let⟨v,h1,h2⟩:=h.t k hk;⟨v,h1,h2.bB hg hT hs⟩),h.n⟩
theorem rC.below {w w':C} (h:rC w) (hb:Below w.heap.size w w'):rC w':=⟨Utf8Tabs_below h.1 hb,fun i hi=>aT hb rfl (h.2 i hi)⟩
def WK (nl:E→M Bs) (v:To):E→M Bs:=if v.k=0 then nl else fun j=>if j=0 then bY (nl 0) v.name else nl j
def Xf (R:E) (cs:Q J) (nl:E→M Bs) (v:To) (w:C) (e:Ending) (w':C):Prop:=
 Same (fun i=>i≠R) w w'∧
 if v.k=0∨(bY (nl 0) v.name).length≤jP 0 then e= .returned (.agg #[m p (if v.k=0 then 0 else(p9 (nl 0) v.name:O)),m p v.k])∧∃cs',uI w' R cs' (WK nl v)∧cs'.size=cs.size∧∀j,j≠8→cs'[j]?=cs[j]?
 else e= .panicked ji
theorem OO {R:E} {cs:Q J} {nl:E→M Bs} (v:To) (hv:nM v) (w:C) (h:uI w R cs nl) (hG:rC w):
  Calls Z 182 #[.pointer (u ⟨R,0,y⟩),uJ v] w (Xf R cs nl v w):=by
 obtain⟨n,k⟩:=v;have HB:=f (((av (av (H w.heap.size w) (d #[F ⟨n.toArray⟩,m p k] 76)) (d #[m p 0,m p 0] 62)).drew));have hx1:=(Bx.new w #[F ⟨n.toArray⟩,m p k] 76).alloc (d #[m p 0,m p 0] 62);have HH:=f h;have HGG:=f hG;have HV:=f hv;have bE:=f hx1;by_cases h0:k=0
 ·subst h0
  clear hx1 h hG hv;go_enter func182,ntmps182;go_wp2_with fail;refine bodyPost_ret (v:= .agg #[m p 0,m p 0]) (by simp[results,results182,go_sem]) rfl ?_;have hbz:Below w.heap.size w ((w.alloc (d #[F ⟨n.toArray⟩,m p 0] 76)).alloc (d #[m p 0,m p 0] 62)):=av (av (H w.heap.size w) _) _;refine⟨D hbz (fun _ _ h=>h),?_⟩;have e:WK nl ⟨n,0⟩=nl:=if_pos rfl;rw[P (.inl rfl),e];exact⟨rfl,cs,HH.q.below hbz,rfl,fun _ _=>rfl⟩
 ·have hk:(k==0)=false:=beq_eq_false_iff_ne.2 h0
  have H0:=f h0;have hw:bS ⟨n.toArray⟩=true:=by
   rcases hv with e|e
   ·injection e with _ e;exact absurd e h0
   ·exact e.1
  have HN:=f (BU 0 ah n _ (h.below HB.q) hw (hG.below HB.q));have hx2:=(Bx.new (w.alloc (d #[F ⟨n.toArray⟩,m p k] 76)) #[m p 0,m p 0] 62);have aW:=f hx2;have HRR:=f h.b.2.2;have hcA:=hx1.1 0;have hcB:=hx1.1 1;clear h hG hv h0 hx1 hw hx2;go_enter func182,ntmps182;by_cases hfit:(bY (nl 0) n).length≤jP 0
  ·have HF:=f hfit
   clear hfit;go_wp2_with fail;refine bT 7 [(0,0),(1,0),(2,0),(4,0),(5,0),(3,2),(6,0),(7,2)] (fun _=>True) (fun W'=>W'.cell? ⟨w.heap.size,0,y⟩=u (F ⟨n.toArray⟩)∧W'.cell? ⟨w.heap.size,1,y⟩=u (m p k)) (fun _ _=>False) au au (fun ch a1 w1 hd hr=>hr.elim) (trivial) (⟨hcA,hcB⟩) ?_;refine qC ?_;refine aD rfl rfl (fun K hK=>?_);go_simp;refine HN.q.mono ?_;rintro e w2 ⟨hS,he⟩;rw[P HF.q] at he;obtain⟨rfl,cs',hT,hsz,ho⟩:=he;have HT:=f hT;have Bv:=f hS;have HO:=f (⟨hsz,ho⟩:_∧_);have hy1:=hS.bx bE.q.drew (by have:=HRR.q;omega);have hy2:=hS.bx aW.q.drew (by have:=HRR.q;simp;omega);refine hK _ _ ⟨V,hy1.1 0,hy1.1 1⟩ ?_;have hd0:=hy2.1 0;have hd1:=hy2.1 1;have hf0:=hy2.2.1 0;have hf1:=hy2.2.1 1;have wK:=f hy2;rw[G] at hd0 hd1 hf0 hf1;clear hK K hT hS hsz ho hy1 hy2;refine qC ?_;refine eF rfl rfl rfl (fun K hK=>?_);go_simp;go_simp;refine hK _ _ V ?_;clear hK K;refine jy ?_;go_wp2_with fail;have hz:=(wK.q.aU 0 ak (m p (p9 (nl 0) n:O))).aU 1 ak (m p k);rw[G] at hz;have hz0:=hz.1 0;have hz1:=hz.1 1;refine bodyPost_ret (v:= .agg #[m p (p9 (nl 0) n:O),m p k]) (by simp[results,results182,go_sem,hz0,hz1]) rfl ?_;have Nz:=HRR.q;have h1:Same (fun i=>i≠R∧i<w.heap.size) w w2:=((D HB.q (fun _ _ h=>h)).tr (Bv.q.mono (fun i hi _=>hi.1)));have hn1:w.heap.size+1<((w.alloc (d #[F ⟨n.toArray⟩,m p k] 76)).alloc (d #[m p 0,m p 0] 62)).drew.heap.size:=by
    show w.heap.size+1<((w.alloc (d #[F ⟨n.toArray⟩,m p k] 76)).alloc (d #[m p 0,m p 0] 62)).heap.size;rw[G,G];omega
   have hn2:=World.alloc_heap_new (w.alloc (d #[F ⟨n.toArray⟩,m p k] 76)) (d #[m p 0,m p 0] 62);rw[G] at hn2;have ht:∃cs fz,w2.heap[w.heap.size+1]?=u (d cs 62 fz):=⟨_,_,(Bv.q.block (w.heap.size+1) ah hn1).trans hn2⟩;refine⟨((h1.setTail (fun h=>by have:=h.2;omega)).setTail (fun h=>by have:=h.2;omega)).mono (fun i hi hl=>⟨hi,hl⟩),?_⟩;rw[P (.inr HF.q)];have e1:(if k=0 then(0:O) else(p9 (nl 0) n:O))=(p9 (nl 0) n:O):=if_neg H0.q;have e2:WK nl ⟨n,k⟩=fun j=>if j=0 then bY (nl 0) n else nl j:=if_neg H0.q
   rw[e2];refine⟨by rw[e1],cs',HT.q.apart ht aj ah (((U w2).setTail (fun h=>h rfl)).setTail (fun h=>h rfl)),HO.q.1,HO.q.2⟩
  ·have HF:=f hfit
   have RES:Hid (∀ch w',(ch=ji∧Same (fun i=>i≠R) ((w.alloc (d #[F ⟨n.toArray⟩,m p k] 76)).alloc (d #[m p 0,m p 0] 62)).drew w')→Xf R cs nl ⟨n,k⟩ w (.panicked ch) w'):=f (by
    rintro ch w' ⟨rfl,hS⟩;have h1:Same (fun i=>i≠R) w ((w.alloc (d #[F ⟨n.toArray⟩,m p k] 76)).alloc (d #[m p 0,m p 0] 62)).drew:=D HB.q (fun _ _ h=>h);refine⟨⟨hS.os.trans h1.os,hS.tape.trans h1.tape,hS.output.trans h1.output,Nat.le_trans h1.size hS.size,fun i hi hl=>(hS.block i hi (Nat.lt_of_lt_of_le hl h1.size)).trans (h1.block i hi hl)⟩,?_⟩;rw[I (fun h=>h.elim H0.q hfit)])
   clear hfit;go_wp2_with fail;refine bT 7 [(0,0),(1,0),(2,0),(4,0),(5,0),(3,2),(6,0),(7,2)] (fun _=>True) (fun W'=>W'.cell? ⟨w.heap.size,0,y⟩=u (F ⟨n.toArray⟩)∧W'.cell? ⟨w.heap.size,1,y⟩=u (m p k)) (fun ch w'=>ch=ji∧Same (fun i=>i≠R) ((w.alloc (d #[F ⟨n.toArray⟩,m p k] 76)).alloc (d #[m p 0,m p 0] 62)).drew w') au au (fun ch a1 w1 hd hr=>⟨hd,RES.q ch w1 hr⟩) (trivial) (⟨hcA,hcB⟩) ?_;refine qC ?_;refine aD rfl rfl (fun K hK=>?_);go_simp;refine HN.q.mono ?_;rintro e w2 ⟨hS,he⟩;rw[I HF.q] at he;subst he;exact⟨rfl,rfl,hS⟩
def Av (R:E) (w:C):Prop:=∀W,Same (fun i=>i≠R) w W→rC W
theorem Av.same {R:E} {w X:C} (h:Av R w) (s:Same (fun i=>i≠R) w X):Av R X:=fun W k=>h W (s.tr k)
theorem Av.here {R:E} {w:C} (h:Av R w):rC w:=h w (U w)
theorem uI.grown {X Y:C} {R:E} {cs:Q J} {nl:E→M Bs} {T:TypeId} {row:Option E} (h:uI X R cs nl) (hg:X.grownBy Y row) (hr:∀g,row=u g→g≠R∧∃cs fz,X.heap[g]?=u (d cs T fz)) (hT:9≠T):uI Y R cs nl:=
 ⟨h.b.grown hg (fun e=>(hr R e).1 rfl),fun k hk=>(let⟨v,h1,h2⟩:=h.t k hk;⟨v,h1,h2.grown hg (fun g hv e=>by
  obtain⟨_,cs1,fz1,e1⟩:=hr g e;obtain⟨cs2,Xg,e2⟩:=h2.tag hv;rw[e1] at e2
  cases e2
  exact hT rfl)⟩),h.n⟩
def Xh (R:E) (cs:Q J) (nl:E→M Bs) (l:M Bs) (w:C) (e:Ending) (w':C):Prop:=
 Same (fun i=>i≠R) w w'∧
 if((jW nl l).1 0).length≤jP 0 then ∃a c cs',e= .returned (r a l.length c)∧Own w' w.heap.size 3 1 aZ (r a l.length c) (jW nl l).2∧uI w' R cs' (jW nl l).1∧cs'.size=cs.size∧∀j,j≠8→cs'[j]?=cs[j]?
 else e= .panicked ji
theorem Row.i1 (w:C) (s:O):Row (w.alloc (d #[m p s] 3)) 1 aZ (u ⟨w.heap.size,0,y⟩) 1 1 [s]:=
 (Own.new (hc:=gZ) w w.heap.size 3 #[m p s] [s] (Nat.le_refl _) rfl (by simp[maxLen])).row ak
theorem NJ:∀(l:M Bs) (nl:E→M Bs),(jW nl l).2.length=l.length
 |[],_=>rfl
 |_::l,nl=>congrArg (·+1) (NJ l (tu nl 0 _))
theorem Pf {X Y:C} {R:E} {row:Option E} {B:E} (hg:X.grownBy Y row) (hr:∀g,row=u g→B≤g):Same (fun i=>i≠R∧i<B) X Y:=
 ⟨hg.os,hg.tape,hg.output,hg.size,fun i hi hl=>hg.block i hl (fun e=>by have:=hr i e.symm;have:=hi.2;omega)⟩
theorem ad6 {R:E} {cs:Q J} {nl:E→M Bs} (l:M Bs) (ta:Option Addr) (n tc:E) (w:C) (h:uI w R cs nl) (hr:Row w 1 encStr ta n tc l) (hne:∀b o,ta=u ⟨b,o,y⟩→b≠R) (hw:∀s∈l,bS ⟨s.toArray⟩=true) (hn:n≤100000) (hG:Av R w):
  Calls Z 183 #[.pointer (u ⟨R,0,y⟩),r ta n tc] w (Xh R cs nl l w):=by
 have HH:=f h;have HR:=f hr;have jv:=f hne;have HW:=f hw;have HG:=f hG;have HRR:=f h.b.2.2;obtain⟨i,z,hi,hz,hsize,cZ,hzs⟩:=Ev;have HI:=f (⟨hi,hz,hsize,cZ,hzs⟩:_∧_∧_∧_∧_);have hle:=hr.le;have HLEN:=f hr.len;clear h hr hne hw hG hi hz hsize cZ hzs;go_enter func183,ntmps183;go_wp2_with fail
 go_loopw [5,10] (fun v i wr=>∃(k:E) (a0:Option Addr) (c0:E) (cs':Q J),k≤n∧v= r a0 k c0∧i= m p k∧Own wr w.heap.size 3 1 aZ (r a0 k c0) (jW nl (l.take k)).2∧
   uI wr R cs' (jW nl (l.take k)).1∧cs'.size=cs.size∧(∀j,j≠8→cs'[j]?=cs[j]?)∧Same (fun i=>i≠R) w wr) (fun _ i _=>n - (RowKit.intOf i).toNat)
 case atStart=>
  exact⟨0,y,0,cs,Nat.zero_le _,rfl,rfl,Own.iJ _ _ _ _ _,HH.q,rfl,fun _ _=>rfl,U _⟩
 case round=>
  obtain⟨k,a0,c0,cs',hk,rfl,rfl,how,hrg,hsz,hoth,hS⟩:=hrel;by_cases hlt:k<n
  ·obtain⟨s,b,o,hx,rfl,hc⟩:=HR.q.at_ hlt
   have hc0':=hc 0 _ rfl;simp only[Nat.mul_one,Nat.add_zero] at hc0';have hc0:wr.cell? ⟨b,o+k,y⟩=u (F ⟨s.toArray⟩):=(World.cell?_of_block (a:=⟨b,o+k,y⟩) (hS.block b (jv.q b o rfl) (fw hc0'))).trans hc0';have iD:=BU 0 ah s wr hrg (HW.q s (List.mem_of_getElem? hx)) (HG.q.same hS).here;have wV:=f iD;have HOW:=f how;have GX:=f hrg;have wC:=f hsz;have HOT:=f hoth;have HS:=f hS;have HX:=f hx;clear how hrg hsz hoth hS iD hc hc0' hx;go_wp2_with fail;refine wV.q.mono ?_;rintro e w1 ⟨hS1,he⟩;have e1:l.take (k+1)=l.take k++[s]:=by rw[List.take_add_one,HX.q];rfl
   by_cases hf:(bY ((jW nl (l.take k)).1 0) s).length≤jP 0
   ·rw[P hf] at he
    obtain⟨rfl,cs2,hrg2,hsz2,ho2⟩:=he;have UK:=f hrg2;have ag8:=f hsz2;have oM:=f ho2;have dR:=f hS1;have Pg:Hid (Own w1 w.heap.size 3 1 aZ (r a0 k c0) (jW nl (l.take k)).2):=f (HOW.q.same hS1 (fun g hg e=>by have:=(HOW.q.lt g hg).1;have:=HRR.q;omega));have HE:Hid ((jW nl (l.take (k+1))).1=(fun j=>if j=0 then bY ((jW nl (l.take k)).1 0) s else(jW nl (l.take k)).1 j)∧(jW nl (l.take k)).2++[(p9 ((jW nl (l.take k)).1 0) s:O)]=(jW nl (l.take (k+1))).2):=f (by rw[e1,Ew];exact⟨rfl,rfl⟩);have eO:Hid ((jW nl (l.take k)).2.length+1=k+1):=f (by rw[NJ,List.length_take,HLEN.q,Nat.min_eq_left hk]);have dY:Hid ((k+1)*8≤140737488355328):=f ah;have kX:Hid (k+1≤maxLen):=f (by unfold maxLen;omega);have uX:Hid (w.heap.size≤(w1.alloc (d #[m p (p9 ((jW nl (l.take k)).1 0) s:O)] 3)).heap.size):=f (by have h1:=HS.q.size;have h2:=hS1.size;simp;omega);clear hrg2 hsz2 ho2 hS1 hf e1
    go_wp2_with (at_builtin;refine dO rfl _ _ 26 rfl i z 8 underlying26 HI.q.1 HI.q.2.1 HI.q.2.2.1 HI.q.2.2.2.1 HI.q.2.2.2.2 rfl (Pg.q.alloc _) (u ⟨w1.heap.size,0,y⟩) 1 1 (k+1) [(p9 ((jW nl (l.take k)).1 0) s:O)] rfl (Row.i1 w1 _) eO.q dY.q kX.q uX.q ?_;intro a' c' w2 hown1 hg1 zH)
    rw[HE.q.2] at hown1;have hb3:=av (H w1.heap.size w1) (d #[m p (p9 ((jW nl (l.take k)).1 0) s:O)] 3);have hS3:Same (fun i=>i≠R∧i<w.heap.size) w w2:=((HS.q.tr dR.q).mono (fun i hi _=>hi.1)).tr ((D hb3 (fun _ _ h=>h)).tr (Pf hg1 (fun g e=>(Pg.q.lt g e).1)));have hrg3:=(UK.q.below hb3).grown (T:=3) hg1 (fun g e=>⟨by have:=(Pg.q.lt g e).1;have:=HRR.q;omega,(Pg.q.alloc _).tag e⟩) aj;have Vl:=f (⟨hown1,hrg3,hS3.mono (fun i hi hl=>⟨hi,hl⟩)⟩:_∧_∧_);clear hown1 hg1 zH hb3 hS3 hrg3;go_roundw
    case rel=>
     refine⟨k+1,a',c',cs2,by omega,rfl,by go_num,Vl.q.1,?_,ag8.q.trans wC.q,fun j hj=>(oM.q j hj).trans (HOT.q j hj),Vl.q.2.2⟩;rw[HE.q.1];exact Vl.q.2.1
    case measure=>simp[RowKit.intOf];omega
   ·rw[I hf] at he
    subst he;refine⟨rfl,?_⟩;show Xh R cs nl l w _ _;refine⟨HS.q.tr hS1,?_⟩;rw[I (fun h=>hf (Vm HX.q h))]
  ·obtain rfl:k=n:=by omega
   have htk:l.take k=l:=List.take_of_length_le (by rw[HLEN.q];exact Nat.le_refl _);rw[htk] at how hrg;have HOW:=f how;have GX:=f hrg;have wC:=f hsz;have HOT:=f hoth;have HS:=f hS;clear how hrg hsz hoth hS htk;go_wp2_with fail;go_ret;refine⟨HS.q,?_⟩;rw[P (GX.q.n 0 ah).2,HLEN.q];exact⟨a0,c0,cs',rfl,HOW.q,GX.q,wC.q,HOT.q⟩
theorem Row.ev1 (w:C) (ev:EvC):Row (w.alloc (d (bG ev) 65)) 9 dP (u ⟨w.heap.size,0,y⟩) 1 1 [ev]:=
 (Own.new (hc:=sO) w w.heap.size 65 (enc:=dP) (bG ev) [ev] (Nat.le_refl _) rfl (by simp[maxLen])).row (hc:=sO) ak
def Ph (R:E) (cs:Q J) (v4:J) (es:M EvC) (ev:EvC) (w:C) (e:Ending) (w':C):Prop:=
 Same (fun i=>i≠R∧v4.ownBlock≠u i) w w'∧
 if es.length<3000 then e= .returned (.tuple #[])∧∃v',Own w' (R+1) 65 9 dP v' (es++[ev])∧Bx w' R (cs.setIfInBounds 4 v')
 else e= .panicked ji
theorem JJ {R:E} {cs:Q J} {v4:J} {es:M EvC} (ev:EvC) (w:C) (hB:Bx w R cs) (h4:cs[4]?=u v4) (hO:Own w (R+1) 65 9 dP v4 es) (hl:es.length≤3000):
  Calls Z 179 #[.pointer (u ⟨R,0,y⟩),gW ev] w (Ph R cs v4 es ev w):=by
 obtain⟨a,c,rfl,_,hlc⟩:=hO.shape;obtain⟨i,z,hi,hz,hsize,cZ,hzs⟩:=NK;have HI:=f (⟨hi,hz,hsize,cZ,hzs⟩:_∧_∧_∧_∧_);have hx:w.cell? ⟨R,4,y⟩=u (r a es.length c):=(hB.1 4).trans h4;have hb0:=av (H w.heap.size w) (d (bG ev) 65);have HB0:=f hb0;have gL:=f hB;have HO:=f hO;have H4:=f h4;have hx0:(w.alloc (d (bG ev) 65)).cell? ⟨R,4,y⟩=u (r a es.length c):=((hB.keep hb0).1 4).trans h4;have hf0:(w.alloc (d (bG ev) 65)).frozen? ⟨R,4,y⟩=false:=(hB.keep hb0).2.1 4;clear hB h4 hO hi hz hsize cZ hzs hb0;obtain⟨kd,tt,ss,lv,ob,⟨vt,vk⟩,pd,sa,sn,sc⟩:=ev;by_cases hf:es.length<3000
 ·have HF:=f hf
  have hd:decide ((es.length:O)<3000)=true:=decide_eq_true ah;clear hf;have uZ:Hid (Bx (w.alloc (d (bG ⟨kd,tt,ss,lv,ob,⟨vt,vk⟩,pd,sa,sn,sc⟩) 65)) w.heap.size (bG ⟨kd,tt,ss,lv,ob,⟨vt,vk⟩,pd,sa,sn,sc⟩)):=f (Bx.new w _ _);have HR1:Hid (Bx ((w.alloc (d (bG ⟨kd,tt,ss,lv,ob,⟨vt,vk⟩,pd,sa,sn,sc⟩) 65)).drew.alloc (d (bG ⟨kd,tt,ss,lv,ob,⟨vt,vk⟩,pd,sa,sn,sc⟩) 65)) R cs):=f ((gL.q.keep HB0.q).drew.alloc _);have Dv:Hid (Bx ((w.alloc (d (bG ⟨kd,tt,ss,lv,ob,⟨vt,vk⟩,pd,sa,sn,sc⟩) 65)).drew.alloc (d (bG ⟨kd,tt,ss,lv,ob,⟨vt,vk⟩,pd,sa,sn,sc⟩) 65)) w.heap.size (bG ⟨kd,tt,ss,lv,ob,⟨vt,vk⟩,pd,sa,sn,sc⟩)):=f (uZ.q.drew.alloc _);have zV:Hid (Own ((w.alloc (d (bG ⟨kd,tt,ss,lv,ob,⟨vt,vk⟩,pd,sa,sn,sc⟩) 65)).drew.alloc (d (bG ⟨kd,tt,ss,lv,ob,⟨vt,vk⟩,pd,sa,sn,sc⟩) 65)) (R+1) 65 9 dP (r a es.length c) es):=f ((HO.q.alloc _).drew.alloc _);have oG:Hid (Row ((w.alloc (d (bG ⟨kd,tt,ss,lv,ob,⟨vt,vk⟩,pd,sa,sn,sc⟩) 65)).drew.alloc (d (bG ⟨kd,tt,ss,lv,ob,⟨vt,vk⟩,pd,sa,sn,sc⟩) 65)) 9 dP (u ⟨w.heap.size+1,0,y⟩) 1 1 [⟨kd,tt,ss,lv,ob,⟨vt,vk⟩,pd,sa,sn,sc⟩]):=f (by
   have:=Row.ev1 (w.alloc (d (bG ⟨kd,tt,ss,lv,ob,⟨vt,vk⟩,pd,sa,sn,sc⟩) 65)).drew ⟨kd,tt,ss,lv,ob,⟨vt,vk⟩,pd,sa,sn,sc⟩;have e:(w.alloc (d (bG ⟨kd,tt,ss,lv,ob,⟨vt,vk⟩,pd,sa,sn,sc⟩) 65)).drew.heap.size=w.heap.size+1:=G _ _;rw[e] at this;exact this)
  have dY:Hid ((es.length+1)*88≤140737488355328):=f ah;have kX:Hid (es.length+1≤maxLen):=f (by unfold maxLen;omega);have uX:Hid (R+1≤((w.alloc (d (bG ⟨kd,tt,ss,lv,ob,⟨vt,vk⟩,pd,sa,sn,sc⟩) 65)).drew.alloc (d (bG ⟨kd,tt,ss,lv,ob,⟨vt,vk⟩,pd,sa,sn,sc⟩) 65)).heap.size):=f (by have:=HR1.q.2.2;omega);have Fq:Hid ((Value.slice a es.length c).ownBlock≠u R):=f (fun e=>by have:=(HO.q.lt R e).1;omega);have jv:Hid ((Value.slice a es.length c).ownBlock≠u w.heap.size):=f (fun e=>by have:=(HO.q.lt _ e).2;omega);go_enter func179,ntmps179;go_wp2_with fail;refine(kP _ _).mono ?_;rintro e w2 ⟨rfl,rfl⟩;rw[P rfl];go_wp2_with fail;refine aI 12 [(0,0),(1,0),(2,0),(3,0),(4,0),(5,0),(6,0),(7,2),(8,2),(9,1),(10,1),(11,0),(12,2)] (fun _=>True) (fun W'=>W'.cell? ⟨R,4,y⟩=u (r a es.length c)∧W'.cell? ⟨w.heap.size,0,y⟩=u (m p kd)∧W'.cell? ⟨w.heap.size,1,y⟩=u (m p tt)∧W'.cell? ⟨w.heap.size,2,y⟩=u (m p ss)∧W'.cell? ⟨w.heap.size,3,y⟩=u (m p lv)∧W'.cell? ⟨w.heap.size,4,y⟩=u (m p ob)∧W'.cell? ⟨w.heap.size,5,y⟩=u (m p vt)∧W'.cell? ⟨w.heap.size,6,y⟩=u (m p vk)∧W'.cell? ⟨w.heap.size,7,y⟩=u (m p pd)∧W'.cell? ⟨w.heap.size,8,y⟩=u (r sa sn sc)) au au (trivial) (⟨((gL.q.keep HB0.q).1 4).trans H4.q,(uZ.q).1 0,(uZ.q).1 1,(uZ.q).1 2,(uZ.q).1 3,(uZ.q).1 4,(uZ.q).1 5,(uZ.q).1 6,(uZ.q).1 7,(uZ.q).1 8⟩) ?_;refine qC ?_;refine aD rfl rfl (fun K hK=>?_);go_simp;refine hK _ _ ⟨V,(((gL.q.keep HB0.q).alloc _).1 4).trans H4.q,(uZ.q.alloc _).1 0,(uZ.q.alloc _).1 1,(uZ.q.alloc _).1 2,(uZ.q.alloc _).1 3,(uZ.q.alloc _).1 4,(uZ.q.alloc _).1 5,(uZ.q.alloc _).1 6,(uZ.q.alloc _).1 7,(uZ.q.alloc _).1 8⟩ ?_;clear hK K;refine aD rfl rfl (fun K hK=>?_);refine og _ _ 36 rfl i z 88 underlying36 HI.q.1 HI.q.2.1 HI.q.2.2.1 HI.q.2.2.2.1 HI.q.2.2.2.2 rfl zV.q (u ⟨w.heap.size+1,0,y⟩) 1 1 (es.length+1) [⟨kd,tt,ss,lv,ob,⟨vt,vk⟩,pd,sa,sn,sc⟩] rfl oG.q rfl dY.q kX.q uX.q ?_;intro a' c' w3 hown3 hg3 Et;have hr3:=HR1.q.grown hg3 Fq.q;have DT:=Dv.q.grown hg3 jv.q;refine hK _ _ ⟨V,((hr3).1 4).trans H4.q,(DT).1 0,(DT).1 1,(DT).1 2,(DT).1 3,(DT).1 4,(DT).1 5,(DT).1 6,(DT).1 7,(DT).1 8⟩ ?_;have hc3:=(hr3.1 4).trans H4.q;have hf3:=hr3.2.1 4;have HR3:=f hr3;have yR:=f hown3;have lF:=f hg3;clear hK K hr3 DT hown3 hg3 Et;refine qC ?_;refine eF rfl rfl rfl (fun K hK=>?_);go_simp;refine hK _ _ V ?_;clear hK K;refine bn ?_;go_wp2_with fail;refine bodyPost_end (results_none rfl _ _ _) rfl ?_;show Ph R cs _ es _ w _ _;have hb1:=av HB0.q.drew (d (bG ⟨kd,tt,ss,lv,ob,⟨vt,vk⟩,pd,sa,sn,sc⟩) 65);have h1:Same (fun i=>i≠R∧(Value.slice a es.length c).ownBlock≠u i) w w3:=(D hb1 (fun _ _ h=>h)).tr ⟨lF.q.os,lF.q.tape,lF.q.output,lF.q.size,fun i hi hl=>lF.q.block i hl (fun e=>hi.2 e.symm)⟩;refine⟨h1.setTail (fun h=>h.1 rfl),?_⟩;rw[P HF.q];refine⟨rfl,r a' (es.length+1) c',yR.q.same (A:=fun i=>i≠R) ((U _).setTail (fun h=>h rfl)) (fun g hg e=>by have:=(yR.q.lt g hg).1;omega),HR3.q.aU 4 (N.1 H4.q).1 _⟩
 ·have HF:=f hf
  have hd:decide ((es.length:O)<3000)=false:=decide_eq_false ah;clear hf;go_enter func179,ntmps179;go_wp2_with fail;refine(kP _ _).mono ?_;rintro e w2 ⟨rfl,rfl⟩;rw[I ak];refine⟨rfl,?_⟩;show Ph R cs _ es _ w _ _;refine⟨D HB0.q (fun _ _ h=>h),?_⟩;rw[I HF.q]
end Yd
namespace Yd
open List renaming getElem?_drop→c,getElem?_take→j
open Go Go.RowKit Go.Proofs Go.Lib Tryz
open Tryz renaming prog→f,underlying9→m
open Go.Proofs.YtnhnhmeogckgpaaGreatDoor
theorem Vn:Rows.laid_unicode_utf8_first=firstData:=au
theorem RV:(Rows.laid_unicode_utf8_acceptRanges:DataW Unit)=acceptData:=au
theorem u8x:U8Extra f Tryz.lays260_ren:=⟨by kernel_rfl,by kernel_rfl,by kernel_rfl,by kernel_rfl,by kernel_rfl,by kernel_rfl,by kernel_rfl⟩
section
variable {W:World}
theorem RX {n fuel:Nat} {t:TypeId} {cs:List Value} {ds:List (DataW Unit)} {p:List MemPlace} (ht:Tryz.prog.underlying t=some (.array n 9)) (h:DataW.trod (fun _=>()) f W 0 (fun _=>true) false fuel t cs=some (.agg ds,p))
  (i:Nat) (hi:i<n) {b:Bs} (hd:ds[i]?=some (.lit (.string b))):cs[i]?=some (.string ⟨b.toArray⟩):=by
 obtain⟨f',d,q,h1,h2⟩:=array_elem ht h i hi;rw[hd] at h1;injection h1 with h1;subst h1;rw[show Tryz.prog.cellsOf 9=1 from Je] at h2;obtain⟨s,e1,e2,_⟩:=DataW.trod_string m h2;simp only[Prod.mk.injEq,DataW.lit.injEq,Lit.string.injEq] at e2;have e3:=congrArg (·[0]?) e1;simp only[j,c] at e3;have:s=⟨b.toArray⟩:=by
  obtain⟨⟨l⟩⟩:=s;simp at e2;rw[e2.1]
 rw[←this]
 simpa using e3
theorem RY {n fuel:Nat} {t:TypeId} {cs:List Value} {ds:List (DataW Unit)} {p:List MemPlace} (ht:Tryz.prog.underlying t=some (.array n 3)) (h:DataW.trod (fun _=>()) f W 0 (fun _=>true) false fuel t cs=some (.agg ds,p))
  (i:Nat) (hi:i<n) {b:Int} (hd:ds[i]?=some (.lit (.int .i64 b))):cs[i]?=some (.int .i64 b):=by
 obtain⟨f',d,q,h1,h2⟩:=array_elem ht h i hi;rw[hd] at h1;injection h1 with h1;subst h1;rw[show Tryz.prog.cellsOf 3=1 from Jd] at h2;obtain⟨s,e1,e2,_⟩:=DataW.trod_int underlying3 h2;simp only[Prod.mk.injEq,DataW.lit.injEq,Lit.int.injEq,true_and] at e2;have e3:=congrArg (·[0]?) e1;simp only[j,c] at e3;rw[e2.1]
 simpa using e3
theorem aeL:Tryz.prog.cellsOf 21=1:=au
theorem RZ:Tryz.prog.cellsOf 116=3:=au
theorem YT {fuel:Nat} {cs:List Value} {ds:List (DataW Unit)} {p:List MemPlace} (h:DataW.trod (fun _=>()) f W 0 (fun _=>true) false fuel 117 cs=some (.agg ds,p))
  (k:Nat) (hk:k<10) {b:Bs} {n r:Int} (hd:ds[k]?=some (.agg [.lit (.string b),.lit (.int .i64 n),.lit (.int .i32 r)])):
  cs[3*k]?=some (.string ⟨b.toArray⟩)∧cs[3*k+1]?=some (.int .i64 n)∧cs[3*k+2]?=some (.int .i32 r):=by
 obtain⟨f',d,q,h1,h2⟩:=array_elem underlying117 h k hk;rw[hd] at h1;injection h1 with h1;subst h1;rw[RZ] at h2;obtain⟨xs,n',_,e,hl,hlen,hf⟩:=DataW.trod_struct underlying116 h2;rw[RZ] at hl;obtain⟨cs',hcs⟩:∃cs',cs'=(cs.drop (k*3)).take 3:=⟨_,rfl⟩;rw[←hcs] at hl hf;have g0:cs[3*k]?=cs'[0]?:=by rw[hcs];simp[c,Nat.mul_comm]
 have g1:cs[3*k+1]?=cs'[1]?:=by rw[hcs];simp[c,Nat.mul_comm]
 have g2:cs[3*k+2]?=cs'[2]?:=by rw[hcs];simp[c,Nat.mul_comm]
 rw[g0,g1,g2];clear g0 g1 g2 hcs
 match xs,hlen,cs',hl,e with
 |[y0,y1,y2],_,[c0,c1,c2],_,e=>
  simp only[List.map_cons,List.map_nil,Prod.mk.injEq,DataW.agg.injEq,List.cons.injEq,and_true] at e;have f0:=hf 0 _ rfl;have f1:=hf 1 _ rfl;have f2:=hf 2 _ rfl;simp[Jd,Je,aeL] at f0 f1 f2;obtain⟨s,e0,q0,_⟩:=DataW.trod_string m f0;obtain⟨a,e1,q1,_⟩:=DataW.trod_int underlying3 f1;obtain⟨a2,e2,q2,_⟩:=DataW.trod_int Tryz.underlying21 f2;rw[q0,q1,q2] at e;simp only[DataW.lit.injEq,Lit.string.injEq,Lit.int.injEq,true_and] at e;have:s=⟨b.toArray⟩:=by
   obtain⟨⟨l⟩⟩:=s;simp at e;rw[e.1.1]
  simp at e0 e1 e2;rw[e0,e1,e2,e.1.2.1,e.1.2.2,this];exact⟨rfl,rfl,rfl⟩
theorem vV {name:String} {d:DataW Unit} {g:Nat} {t:TypeId} (h:VarReads f W name d) (hg:Tryz.prog.globalNamed name=some g) (hy:(Tryz.prog.globals[g]?).map (·.type)=some t):
  ∃cs:Array Value,∃fuel p,DataW.trod (fun _=>()) f W 0 (fun _=>true) false fuel t cs.toList=some (d,p)∧∀i,W.cell? ⟨g,i,none⟩=cs.toList[i]?:=by
 obtain⟨g',t',cs,fuel,p,hg',hy',hv,hd⟩:=h;obtain rfl:=Option.some.inj (hg.symm.trans hg');obtain rfl:=Option.some.inj (hy.symm.trans hy');exact⟨cs,fuel,p,hd,fun i=>by rw[Array.getElem?_toList];exact World.var?_cell hg hv i⟩
end
end Yd
namespace Yd
open Bool renaming true→D,false→J
open List renaming setIfInBounds_toArray→l,set_cons_zero→r,set_cons_succ→u,mem_cons_of_mem→Q,mem_cons_self→S,map_cons→T
open Option renaming none→z,some→P
open Go Go.RowKit Go.Proofs Tryz
open Act renaming put→M
open Below renaming refl→I
open Go.Obj renaming cells→H
open Go.Value renaming slice→G,bool→N,pointer→O
open Tryz renaming prog→C
open Yd renaming hid→B
open _root_ renaming List→E
theorem A8 {α β:Type} {p:α→α→Bool} {f g:α→β}:∀{xs ys:E α},(∀x∈xs,∀y∈ys,(p x y=D↔f x=g y))→(mJ p xs ys=D↔xs.map f=ys.map g)
 |[],[],_=>by simp[mJ]
 |[],_::_,_=>by simp[mJ]
 |_::_,[],_=>by simp[mJ]
 |x::xs,y::ys,h=>by
  have ih:=A8 (xs:=xs) (ys:=ys) (fun a ha b hb=>h a (Q _ ha) b (Q _ hb));have h0:=h x S y S;have e:mJ p (x::xs) (y::ys)=(p x y && mJ p xs ys):=by
   unfold mJ;simp only[List.length_cons,List.zip_cons_cons,List.all_cons,Nat.add_right_cancel_iff]
   cases p x y <;> simp
  rw[e,Bool.and_eq_true,ih,h0,T,T,List.cons.injEq]
def KM (dn kZ:aK→E Int) (p q:aK):Bool:=decide (p.obj=q.obj) && decide (dn p=kZ q)
def KN (mn oZ:aM→E Int) (p q:aM):Bool:=decide (p.pred=q.pred) && (decide (p.obj=q.obj) && (decide (p.first=q.first) && decide (mn p=oZ q)))
theorem abA {dn kZ:aK→E Int} {p q:aK}:KM dn kZ p q=D↔(p.base,dn p)=(q.base,kZ q):=by
 obtain⟨a,b,c,d⟩:=p;obtain⟨a',b',c',d'⟩:=q;simp[KM,aK.base]
theorem abB {dn kZ:aM→E Int} {p q:aM}:KN dn kZ p q=D↔(p.base,dn p)=(q.base,kZ q):=by
 obtain⟨a,b,f,c,d,e⟩:=p;obtain⟨a',b',f',c',d',e'⟩:=q;simp[KN,aM.base,and_assoc]
theorem abC {dn kZ:EvC→E Sn} {p q:EvC}:(fo p q && decide (dn p=kZ q))=D↔(p.base,dn p)=(q.base,kZ q):=by
 obtain⟨a,b,c,d,e,f,g,h,i,j⟩:=p;obtain⟨a',b',c',d',e',f',g',h',i',j'⟩:=q;simp[fo,EvC.base,and_assoc]
theorem YU (p q:aK) (xs ys:E Int) (w:World) (hx:Row w 1 aZ p.sa p.sn p.sc xs) (hy:Row w 1 aZ q.sa q.sn q.sc ys):Calls C 50 #[xL p,xL q] w (bC (N (decide (p.obj=q.obj) && decide (xs=ys))) w):=by
 obtain⟨R,hR0⟩:∃R:Bool,R=(decide (p.obj=q.obj) && decide (xs=ys)):=⟨_,rfl⟩;rw[←hR0];obtain⟨a,sa,sn,sc⟩:=p;obtain⟨a',sa',Ic,sc'⟩:=q;have HB:=B (((I w.heap.size w).alloc (Nat.le_refl _) (H #[.int .i64 a,G sa sn sc] 79)).alloc ak (H #[.int .i64 a',G sa' Ic sc'] 79));have HC:=B (Xi sa sa' sn sc Ic sc' xs ys _ (hx.below HB.q rfl) (hy.below HB.q rfl));clear hx hy;by_cases h:a=a'
 ·subst h
  have hR:R=decide (xs=ys):=by rw[hR0];simp
  subst hR;clear hR0;go_enter func50,ntmps50
  go_wp2_with (go_at_call 14;refine HC.q.mono ?_;rintro e w1 ⟨rfl,hb1⟩)
  go_ret;exact⟨rfl,HB.q.trans (hb1.mono (by simp;omega))⟩
 ·have hR:R=J:=by rw[hR0];simp[h]
  subst hR;have hne:(a==a')=J:=beq_eq_false_iff_ne.2 h;clear h hR0;go_enter func50,ntmps50;go_wp2_with fail;go_ret;exact⟨rfl,HB.q⟩
theorem YV (p q:aM) (xs ys:E Int) (w:World) (hx:Row w 1 aZ p.sa p.sn p.sc xs) (hy:Row w 1 aZ q.sa q.sn q.sc ys):
  Calls C 52 #[xM p,xM q] w (bC (N (decide (p.pred=q.pred) && (decide (p.obj=q.obj) && (decide (p.first=q.first) && decide (xs=ys))))) w):=by
 obtain⟨R,hR0⟩:∃R:Bool,R=(decide (p.pred=q.pred) && (decide (p.obj=q.obj) && (decide (p.first=q.first) && decide (xs=ys)))):=⟨_,rfl⟩;rw[←hR0];obtain⟨a,b,f,sa,sn,sc⟩:=p;obtain⟨a',b',f',sa',Ic,sc'⟩:=q;have HB:=B (((I w.heap.size w).alloc (Nat.le_refl _) (H #[.int .i64 a,.int .i64 b,N f,G sa sn sc] 81)).alloc ak (H #[.int .i64 a',.int .i64 b',N f',G sa' Ic sc'] 81));have HC:=B (Xi sa sa' sn sc Ic sc' xs ys _ (hx.below HB.q rfl) (hy.below HB.q rfl));clear hx hy;rcases(by by_cases h1:a=a' <;> by_cases h2:b=b' <;> by_cases h3:f=f' <;> simp[h1,h2,h3]:(a=a'∧b=b'∧f=f')∨(a==a')=J∨((a==a')=D∧(b==b')=J)∨((a==a')=D∧(b==b')=D∧(f==f')=J)) with⟨rfl,rfl,rfl⟩|hq|⟨hq,hq2⟩|⟨hq,hq2,hq3⟩
 ·have hR:R=decide (xs=ys):=by rw[hR0];simp
  subst hR;clear hR0;go_enter func52,ntmps52
  go_wp2_with (go_at_call 14;refine HC.q.mono ?_;rintro e w1 ⟨rfl,hb1⟩)
  go_ret;exact⟨rfl,HB.q.trans (hb1.mono (by simp;omega))⟩
 all_goals
  have hR:R=J:=by rw[hR0];simp_all
  subst hR;clear hR0;go_enter func52,ntmps52;go_wp2_with fail;go_ret;exact⟨rfl,HB.q⟩
theorem Pj:∀args w,(callFunc 50 args).run C w= .ok (.enter 50 args) w:=enters_of func50 au rfl
theorem Pk:∀args w,(callFunc 52 args).run C w= .ok (.enter 52 args) w:=enters_of func52 au rfl
theorem Pm:∀args w,(callFunc 55 args).run C w= .ok (.enter 55 args) w:=enters_of func55 au rfl
def ng (h:HC):Array Value:=#[h.t.v,h.s.v,h.o.v,h.p.v]
theorem Fz (h:HC) {k:Nat} (hk:k<4):(ng h)[k]?=P (h.nm k).v:=by
 rcases(by omega:k=0∨k=1∨k=2∨k=3) with rfl|rfl|rfl|rfl <;> rfl
def yE:Array Value:=#[G z 0 0,G z 0 0,G z 0 0,G z 0 0]
theorem Bx.Xj {X:World} {b:Nat} (h:HC) (hx:Bx X b yE):Bx ((((X.setCell ⟨b,0,z⟩ h.t.v).setCell ⟨b,1,z⟩ h.s.v).setCell ⟨b,2,z⟩ h.o.v).setCell ⟨b,3,z⟩ h.p.v) b (ng h):=
 (((hx.aU 0 (by simp[yE]) _).aU 1 (by simp[yE]) _).aU 2 (by simp[yE]) _).aU 3 (by simp[yE]) _
def FB (nl nl':Nat→E Bs) (es es':E EvC) (ds ds':E aK) (ms ms':E aM) (qs NM:E Wa) (scan jJ:EvC→E Sn) (dn kZ:aK→E Int) (mn oZ:aM→E Int):Prop:=
 (∀k,k<4→nl k=nl' k)∧ds.map (fun x=>(x.base,dn x))=ds'.map (fun x=>(x.base,kZ x))∧ms.map (fun x=>(x.base,mn x))=ms'.map (fun x=>(x.base,oZ x))∧qs=NM∧es.map (fun x=>(x.base,scan x))=es'.map (fun x=>(x.base,jJ x))
theorem KO {h h':HC} {es es':E EvC} {ds ds':E aK} {ms ms':E aM} {qs NM:E Wa} {scan jJ:EvC→E Sn} {dn kZ:aK→E Int} {mn oZ:aM→E Int} {nl nl':Nat→E Bs} (w:World)
  (d:Deep w h es ds ms qs scan dn mn) (d':Deep w h' es' ds' ms' NM jJ kZ oZ) (hn:∀i,i<4→Row w 1 encStr (h.nm i).a (h.nm i).n (h.nm i).c (nl i)) (hn':∀i,i<4→Row w 1 encStr (h'.nm i).a (h'.nm i).n (h'.nm i).c (nl' i)):
  Calls C 24 #[fJ h,fJ h'] w (fun e W=>∃b:Bool,e= .returned (N b)∧(b=D↔FB nl nl' es es' ds ds' ms ms' qs NM scan jJ dn kZ mn oZ)∧Below w.heap.size w W):=by
 have HEQ:Hid (∀k,k<4→∀W,Below w.heap.size w W→Calls C 33 #[(h.nm k).v,(h'.nm k).v] W (bC (N (decide (nl k=nl' k))) W)):=
  B (fun k hk W hb=>Xk _ _ _ _ _ _ _ _ W ((hn k hk).below hb rfl) ((hn' k hk).below hb rfl))
 obtain⟨bo,hbo⟩:∃b,b=mJ (KM dn kZ) ds ds':=⟨_,rfl⟩;obtain⟨bm,hbm⟩:∃b,b=mJ (KN mn oZ) ms ms':=⟨_,rfl⟩;obtain⟨be,hbe⟩:∃b,b=mJ (fun x y=>fo x y && decide (scan x=jJ y)) es es':=⟨_,rfl⟩;obtain⟨bw,hbw⟩:∃b,b=decide (qs=NM):=⟨_,rfl⟩;have HO:Hid (∀W,Below w.heap.size w W→Calls C 49 #[h.d.v,h'.d.v,.func (.func 50) #[] #[]] W (bC (N bo) W)):=B (fun W hb=>by
  rw[hbo];exact aeM _ _ _ _ _ _ _ _ _ _ _ W (d.2.1.below hb rfl) (d'.2.1.below hb rfl) Pj (fun x hx y hy V hV=>YU x y _ _ V ((d.2.2.2.2.2.1 x hx).below (hb.trans (hV.mono hb.size)) rfl) ((d'.2.2.2.2.2.1 y hy).below (hb.trans (hV.mono hb.size)) rfl)))
 have HM:Hid (∀W,Below w.heap.size w W→Calls C 51 #[h.m.v,h'.m.v,.func (.func 52) #[] #[]] W (bC (N bm) W)):=B (fun W hb=>by
  rw[hbm];exact aeN _ _ _ _ _ _ _ _ _ _ _ W (d.2.2.1.below hb rfl) (d'.2.2.1.below hb rfl) Pk (fun x hx y hy V hV=>YV x y _ _ V ((d.2.2.2.2.2.2 x hx).below (hb.trans (hV.mono hb.size)) rfl) ((d'.2.2.2.2.2.2 y hy).below (hb.trans (hV.mono hb.size)) rfl)))
 have HE:Hid (∀W,Below w.heap.size w W→Calls C 54 #[h.e.v,h'.e.v,.func (.func 55) #[] #[]] W (bC (N be) W)):=B (fun W hb=>by
  rw[hbe];exact aeO _ _ _ _ _ _ _ _ _ _ _ W (d.1.below hb rfl) (d'.1.below hb rfl) Pm (fun x hx y hy V hV=>NN x y _ _ V ((d.2.2.2.2.1 x hx).below (hb.trans (hV.mono hb.size)) rfl) ((d'.2.2.2.2.1 y hy).below (hb.trans (hV.mono hb.size)) rfl)))
 have HW:Hid (∀W,Below w.heap.size w W→Calls C 53 #[h.w.v,h'.w.v] W (bC (N bw) W)):=B (fun W hb=>by
  rw[hbw];exact ag9 _ _ _ _ _ _ _ _ W (d.2.2.2.1.below hb rfl) (d'.2.2.2.1.below hb rfl))
 have Pn:Hid (((∀k,k<4→nl k=nl' k)∧bo=D∧bm=D∧bw=D∧be=D)↔FB nl nl' es es' ds ds' ms ms' qs NM scan jJ dn kZ mn oZ):=B (by
  unfold FB;rw[hbo,hbm,hbw,hbe,A8 (fun _ _ _ _=>abA),A8 (fun _ _ _ _=>abB),A8 (fun _ _ _ _=>abC),decide_eq_true_eq])
 clear hbo hbm hbe hbw d d' hn hn';have HB:=B (((I w.heap.size w).alloc (Nat.le_refl _) (H (aA h) 41)).alloc ak (H (aA h') 41));have HX:=B ((Bx.new w (aA h) 41).alloc (H (aA h') 41));have HX':=B (show Bx ((w.alloc (H (aA h) 41)).alloc (H (aA h') 41)) (w.heap.size+1) (aA h') from(by have:=Bx.new (w.alloc (H (aA h) 41)) (aA h') 41;rwa[World.size_alloc] at this));go_enter Tryz.func24,Tryz.ntmps24;go_wp2_with fail;have hx:=HX.q;have hx':=HX'.q;refine Gv [0,2] (fun W'=>Bx W' w.heap.size (aA h)∧Bx W' (w.heap.size+1) (aA h')) (fun _ _=>False) au au (fun _ _ _ _ h=>h.elim) ⟨hx.drew,hx'.drew⟩ ?_;clear hx hx';refine KP rfl rfl ⟨fJ h,fun W' hR=>?_,?_⟩
 ·have hc:=hR.1.1;go_simp
 refine KP rfl rfl ⟨fJ h',fun W' hR=>?_,?_⟩
 ·have hc:=hR.2.1;go_simp
 simp only[M,l,r,u];refine R3 (F:=fun A L a' W=>∃x5 x6 FC FD b c,a'=sU A [(5,x5),(6,x6),(11,FC),(13,FD)]∧(L 1=D→FC= .agg (ng h))∧(L 3=D→FD= .agg (ng h'))∧(L 4=D→x5= O (P ⟨b,0,z⟩)∧w.heap.size+2≤b∧Bx W b (bif L 6 then ng h else yE))∧(L 5=D→x6= O (P ⟨c,0,z⟩)∧w.heap.size+2≤c∧Bx W c (bif L 7 then ng h' else yE))∧(L 4=D→L 5=D→b≠c)∧(L 0=D∧L 2=D)∧(L 6=D→L 4=D∧L 5=D)∧(L 7=D→L 6=D)∧Bx W w.heap.size (aA h)∧Bx W (w.heap.size+1) (aA h')∧Below w.heap.size w W) ?_ ?_ ?_ ?_
 ·rintro L a' W ⟨x5,x6,FC,FD,b,c,_,_,_,_,_,_,_,_,_,h1,h2,_⟩
  exact⟨h1,h2⟩
 ·exact⟨undef,undef,undef,undef,0,0,rfl,(fun h=>by cases h),(fun h=>by cases h),(fun h=>by cases h),(fun h=>by cases h),(fun h=>by cases h),⟨rfl,rfl⟩,(fun h=>by cases h),(fun h=>by cases h),HX.q.drew,HX'.q.drew,HB.q.drew⟩
 ·rintro L a' W hL ⟨x5,x6,FC,FD,b,c,rfl,f1,f3,f4,f5,fne,_,_,_,hx,hx',hb⟩
  obtain⟨rfl,hlb,hxb⟩:=f4 (hL 4);obtain⟨rfl,hlc,hxc⟩:=f5 (hL 5);rw[hL 6] at hxb;rw[hL 7] at hxc;obtain rfl:=f1 (hL 1);obtain rfl:=f3 (hL 3);refine ag' ?_;simp only[sU,M,l,r,u];have HS:=B (⟨hlb,hxb,hlc,hxc,hx,hx',hb⟩:_∧_∧_∧_∧_∧_∧_);clear f1 f3 f4 f5 fne hL hlb hxb hlc hxc hx hx' hb HB HX HX';go_wp2_with fail
  go_loopw [14] (fun i X=>∃k:Nat,k≤4∧i= .int .i64 k∧(∀j,j<k→nl j=nl' j)∧Below W.heap.size W X) (fun i _=>4 - (RowKit.intOf i).toNat)
  case atStart=>exact⟨0,Nat.zero_le _,rfl,fun j hj=>absurd hj ah,I _ _⟩
  case round=>
   obtain⟨k,hk,rfl,hsame,hb⟩:=hrel;by_cases hlt:k<4
   ·have hb2:=HS.q.2.2.2.2.2.2.trans (hb.mono HS.q.2.2.2.2.2.2.size)
    have hc1:wr.cell? ⟨b,k,z⟩=P (h.nm k).v:=(((HS.q.2.1).keep hb).1 k).trans (Fz h hlt);have hc2:wr.cell? ⟨c,k,z⟩=P (h'.nm k).v:=(((HS.q.2.2.2.1).keep hb).1 k).trans (Fz h' hlt);have bM:=B (⟨hc1,hc2⟩:_∧_);have HK:=B hlt;have Kc:=B hsame;have z8:=B hb;have HB2:=B hb2
    cases hq:decide (nl k=nl' k)
    all_goals
     have HC:=B (fun W hW=>(by have:=HEQ.q k HK.q W hW;rw[hq] at this;exact this:Calls C 33 #[(h.nm k).v,(h'.nm k).v] W (bC _ W)));have HQ:=B hq;clear hq hsame hb2;go_wp2_with fail;refine aI 99 [(0,0),(1,0),(2,0),(3,0),(4,0),(5,0),(6,2),(7,0)] (fun _=>True) (fun W'=>W'.cell? ⟨b,(k:Nat),z⟩=P (h.nm k).v∧W'.cell? ⟨c,(k:Nat),z⟩=P (h'.nm k).v) au au (trivial) (bM.q) ?_;refine qC ?_;refine aD rfl rfl (fun K hK=>?_);go_simp;refine(HC.q _ HB2.q.drew).mono ?_;rintro e w1 ⟨rfl,hb1⟩;go_simp;refine hK _ _ ⟨trivial,aT hb1 rfl bM.q.1,aT hb1 rfl bM.q.2⟩ ?_;have HB3:=B hb1;clear hK K hb1;refine qC ?_;refine bn ?_;go_wp2_with fail
    ·go_ret
     exact⟨J,rfl,⟨fun h=>(by cases h),fun hs=>absurd (hs.1 k HK.q) (of_decide_eq_false HQ.q)⟩,HB2.q.drew.trans (HB3.q.mono HB2.q.size)⟩
    ·go_roundw
     case rel=>exact⟨k+1,by omega,by go_num,fun j hj=>(by
      rcases Nat.lt_or_ge j k with h|h
      ·exact Kc.q j h
      ·rw[show j=k by omega];exact of_decide_eq_true HQ.q),z8.q.drew.trans (HB3.q.mono z8.q.size)⟩
     case measure=>simp[RowKit.intOf];omega
   ·have hk4:k=4:=by omega
    subst hk4;have qF:=B hsame;have bP:=B (HS.q.2.2.2.2.2.2.trans (hb.mono HS.q.2.2.2.2.2.2.size));have bE:=B (HS.q.2.2.2.2.1.keep hb);have aW:=B (HS.q.2.2.2.2.2.1.keep hb);have hx1:=bE.q.1;have hx2:=aW.q.1;clear hlt hk hsame hb;go_wp2_with fail;refine(HO.q _ bP.q).mono ?_;rintro e w1 ⟨rfl,hb1⟩;have HB1:=B (bP.q.bD hb1);have o9:=B (bE.q.keep hb1);have wK:=B (aW.q.keep hb1);clear hx1 hx2 hb1;have hy1:=o9.q.1;have hy2:=wK.q.1;go_wp2_with fail;refine(HM.q _ HB1.q).mono ?_;rintro e w2 ⟨rfl,hb2⟩;have HB2:=B (HB1.q.bD hb2);have HZ1:=B (o9.q.keep hb2);have HZ2:=B (wK.q.keep hb2);clear hy1 hy2 hb2;have hz1:=HZ1.q.1;have hz2:=HZ2.q.1
    cases bo
    ·go_wp2_with fail
     go_ret;exact⟨J,rfl,(by rw[←Pn.q];simp),HB2.q⟩
    cases bm
    ·go_wp2_with fail
     go_ret;exact⟨J,rfl,(by rw[←Pn.q];simp),HB2.q⟩
    go_wp2_with fail;refine(HW.q _ HB2.q).mono ?_;rintro e w3 ⟨rfl,hb3⟩;have HB3:=B (HB2.q.bD hb3);have HV1:=B (HZ1.q.keep hb3);have rY:=B (HZ2.q.keep hb3);clear hz1 hz2 hb3;have hv1:=HV1.q.1;have hv2:=rY.q.1
    cases bw
    ·go_wp2_with fail
     go_ret;exact⟨J,rfl,(by rw[←Pn.q];simp),HB3.q⟩
    go_wp2_with fail;refine(HE.q _ HB3.q).mono ?_;rintro e w4 ⟨rfl,hb4⟩;go_wp2_with fail;go_ret;exact⟨be,rfl,(by rw[←Pn.q];simp only[true_and];exact⟨fun q=>⟨qF.q,q⟩,fun q=>q.2⟩),HB3.q.bD hb4⟩
 ·rintro i L a' W hi hL hd ⟨x5,x6,FC,FD,b,c,rfl,f1,f3,f4,f5,fne,f0,f6,f7,hx,hx',hb⟩
  have HF:=B (⟨f1,f3,f4,f5,fne,f0,f6,f7,hx,hx',hb,hL,hd⟩:_∧_∧_∧_∧_∧_∧_∧_∧_∧_∧_∧_∧_);clear f1 f3 f4 f5 fne f0 f6 f7 hx hx' hb hL hd;rcases(by have:i<8:=hi;omega:i=0∨i=1∨i=2∨i=3∨i=4∨i=5∨i=6∨i=7) with rfl|rfl|rfl|rfl|rfl|rfl|rfl|rfl
  ·obtain⟨_,_,_,_,_,f0,_,_,_,_,_,hL,_⟩:=HF.q
   cases hL.symm.trans f0.1
  rotate_left
  ·obtain⟨_,_,_,_,_,f0,_,_,_,_,_,hL,_⟩:=HF.q
   cases hL.symm.trans f0.2
  rotate_left 5
  ·refine vW rfl rfl (fun K hK=>?_)
   simp only[sU,M,l,r,u];go_simp;refine(jH h W).mono ?_;rintro e w1 ⟨rfl,hb1⟩;go_simp;obtain⟨f1,f3,f4,f5,fne,f0,f6,f7,hx,hx',hb,hL,hd⟩:=HF.q;refine hK _ _ ⟨x5,x6,.agg (ng h),FD,b,c,rfl,fun _=>rfl,f3,(fun q=>⟨(f4 q).1,(f4 q).2.1,(f4 q).2.2.keep hb1⟩),(fun q=>⟨(f5 q).1,(f5 q).2.1,(f5 q).2.2.keep hb1⟩),fne,f0,f6,f7,hx.keep hb1,hx'.keep hb1,hb.trans (hb1.mono hb.size)⟩
  ·obtain⟨f1,f3,f4,f5,fne,f0,f6,f7,hx,hx',hb,hL,hd⟩:=HF.q
   refine vW rfl rfl (fun K hK=>?_);simp only[sU,M,l,r,u];go_simp;refine(jH h' W).mono ?_;rintro e w1 ⟨rfl,hb1⟩;go_simp;refine hK _ _ ⟨x5,x6,FC,.agg (ng h'),b,c,rfl,f1,fun _=>rfl,(fun q=>⟨(f4 q).1,(f4 q).2.1,(f4 q).2.2.keep hb1⟩),(fun q=>⟨(f5 q).1,(f5 q).2.1,(f5 q).2.2.keep hb1⟩),fne,f0,f6,f7,hx.keep hb1,hx'.keep hb1,hb.trans (hb1.mono hb.size)⟩
  ·refine vW rfl rfl (fun K hK=>?_)
   simp only[sU,M,l,r,u];go_simp;obtain⟨f1,f3,f4,f5,fne,f0,f6,f7,hx,hx',hb,hL,hd⟩:=HF.q;have h6:L 6=J:=by
    cases q:L 6 with
    |false=>rfl
    |true=>cases hL.symm.trans (f6 q).1
   have hb1:=av (I W.heap.size W) (H yE 101);refine hK _ _ ⟨O (P ⟨W.heap.size,0,z⟩),x6,FC,FD,W.heap.size,c,rfl,f1,f3,(fun _=>⟨rfl,by have:=hx'.2.2;omega,by show Bx _ _ (bif L 6 then _ else _);rw[h6];exact Bx.new W yE _⟩),(fun q=>⟨(f5 q).1,(f5 q).2.1,(f5 q).2.2.keep hb1⟩),(fun _ q e=>by have:=(f5 q).2.2.2.2;omega),f0,(fun q=>⟨rfl,(f6 q).2⟩),f7,hx.keep hb1,hx'.keep hb1,hb.trans (hb1.mono hb.size)⟩
  ·refine vW rfl rfl (fun K hK=>?_)
   simp only[sU,M,l,r,u];go_simp;obtain⟨f1,f3,f4,f5,fne,f0,f6,f7,hx,hx',hb,hL,hd⟩:=HF.q;have h7:L 7=J:=by
    cases q:L 7 with
    |false=>rfl
    |true=>cases hL.symm.trans (f6 (f7 q)).2
   have hb1:=av (I W.heap.size W) (H yE 101);refine hK _ _ ⟨x5,O (P ⟨W.heap.size,0,z⟩),FC,FD,b,W.heap.size,rfl,f1,f3,(fun q=>⟨(f4 q).1,(f4 q).2.1,(f4 q).2.2.keep hb1⟩),(fun _=>⟨rfl,by have:=hx'.2.2;omega,by show Bx _ _ (bif L 7 then _ else _);rw[h7];exact Bx.new W yE _⟩),(fun q _ e=>by have:=(f4 q).2.2.2.2;omega),f0,(fun q=>⟨(f6 q).1,rfl⟩),f7,hx.keep hb1,hx'.keep hb1,hb.trans (hb1.mono hb.size)⟩
  ·obtain⟨f1,f3,f4,f5,fne,f0,f6,f7,hx,hx',hb,hL,hd⟩:=HF.q
   obtain rfl:=f1 (hd 1 au);obtain⟨rfl,hlb,hxb⟩:=f4 (hd 4 au);rw[hL] at hxb;have HXB:=B hxb;have hc:∀i,W.cell? ⟨b,i,z⟩=(#[G z 0 0,G z 0 0,G z 0 0,G z 0 0]:Array Value)[i]?:=hxb.1;have hf:=hxb.2.1;have hz:=hxb.2.2;clear hxb;refine vW rfl rfl (fun K hK=>?_);simp only[sU,M,l,r,u,ng];go_simp;have hs:Same (fun i=>i≠b) W ((((W.setCell ⟨b,0,z⟩ h.t.v).setCell ⟨b,1,z⟩ h.s.v).setCell ⟨b,2,z⟩ h.o.v).setCell ⟨b,3,z⟩ h.p.v):=((((Same.refl' W).setTail (fun h=>h rfl)).setTail (fun h=>h rfl)).setTail (fun h=>h rfl)).setTail (fun h=>h rfl);refine hK _ _ ⟨O (P ⟨b,0,z⟩),x6,.agg (ng h),FD,b,c,rfl,fun _=>rfl,f3,(fun q=>⟨rfl,hlb,Bx.Xj h HXB.q⟩),(fun q=>⟨(f5 q).1,(f5 q).2.1,hs.bx (f5 q).2.2 (fun e=>fne (hd 4 au) q e.symm)⟩),fne,f0,(fun _=>⟨hd 4 au,hd 5 au⟩),(fun q=>rfl),hs.bx hx ah,hs.bx hx' ah,hs.below hb (fun i hi=>by omega) hb.size⟩
  ·obtain⟨f1,f3,f4,f5,fne,f0,f6,f7,hx,hx',hb,hL,hd⟩:=HF.q
   obtain rfl:=f3 (hd 3 au);obtain⟨rfl,hlc,hxc⟩:=f5 (hd 5 au);rw[hL] at hxc;have HXC:=B hxc;have hc:∀i,W.cell? ⟨c,i,z⟩=(#[G z 0 0,G z 0 0,G z 0 0,G z 0 0]:Array Value)[i]?:=hxc.1;have hf:=hxc.2.1;have hz:=hxc.2.2;clear hxc;refine vW rfl rfl (fun K hK=>?_);simp only[sU,M,l,r,u,ng];go_simp;have hs:Same (fun i=>i≠c) W ((((W.setCell ⟨c,0,z⟩ h'.t.v).setCell ⟨c,1,z⟩ h'.s.v).setCell ⟨c,2,z⟩ h'.o.v).setCell ⟨c,3,z⟩ h'.p.v):=((((Same.refl' W).setTail (fun h=>h rfl)).setTail (fun h=>h rfl)).setTail (fun h=>h rfl)).setTail (fun h=>h rfl);refine hK _ _ ⟨x5,O (P ⟨c,0,z⟩),FC,.agg (ng h'),b,c,rfl,f1,fun _=>rfl,(fun q=>⟨(f4 q).1,(f4 q).2.1,hs.bx (f4 q).2.2 (fun e=>fne q (hd 5 au) e)⟩),(fun q=>⟨rfl,hlc,Bx.Xj h' HXC.q⟩),fne,f0,f6,(fun _=>hd 6 au),hs.bx hx ah,hs.bx hx' ah,hs.below hb (fun i hi=>by omega) hb.size⟩
end Yd
