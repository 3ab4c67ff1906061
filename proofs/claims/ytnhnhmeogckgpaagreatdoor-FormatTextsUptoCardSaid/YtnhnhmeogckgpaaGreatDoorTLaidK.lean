import Derived.Test.YtnhnhmeogckgpaaGreatDoorTLawSt
import Derived.Test.YtnhnhmeogckgpaaGreatDoorRows
import Derived.ProofKit
import Derived.OpenShut
import Derived.Deep.Slices
import Derived.Test.YtnhnhmeogckgpaaGreatDoorTFm1
import Derived.Test.YtnhnhmeogckgpaaGreatDoorCards
import Derived.Test.YtnhnhmeogckgpaaGreatDoorTie
import Derived.Deep.DeepHandedRow
import Derived.Lib.LaidU8
import Derived.LaidMore
set_option linter.all false
set_option maxRecDepth 200000
set_option maxHeartbeats 8000000
namespace Yd
open List renaming getElem?_eq_getElem→f,getElem?_eq_some_iff→g
open Go Go.RowKit Go.Proofs Go.ChangeShapes Go.WideShapes Go.ChangeAt
open Go.Proofs.YtnhnhmeogckgpaaGreatDoor.Rows (uptoBulk uptoBulkAll)
section
variable {H:Type} {enc:TypeId × Value→H} {w:World} {base:Nat} {spare:Nat→Bool} {held:Bool}
theorem V4 {d:DataW H} {l:List (DataW H)} (h:d∈l):uptoBulk d≤uptoBulkAll l:=by
 induction l with
 |nil=>cases h
 |cons x r ih=>
  simp only[uptoBulkAll]
  cases List.mem_cons.1 h with
  |inl e=>subst e;omega
  |inr e=>have:=ih e;omega
theorem V5 (d:DataW H):1≤uptoBulk d:=by
 cases d with
 |lit l=>cases l <;> simp[uptoBulk]
 |nil=>simp[uptoBulk]
 |ptr d=>simp[uptoBulk]
 |slice elems spare=>simp[uptoBulk]
 |agg parts=>simp[uptoBulk]
 |iface t d=>simp[uptoBulk]
 |map entries=>simp[uptoBulk]
 |held h=>simp[uptoBulk]
theorem V6 (l:List (DataW H)):l.length≤uptoBulkAll l:=by
 induction l with
 |nil=>simp[uptoBulkAll]
 |cons x r ih=>have:=V5 x;simp only[uptoBulkAll,List.length_cons];omega
def OQ {α:Type} (enc:TypeId × Value→H) (w:World) (base:Nat) (spare:Nat→Bool) (held:Bool) (N:Nat) (e:TypeId) (en:α→List Value) (Q:α→Prop):Prop:=
 ∀n cs y,DataW.trod enc Tryz.prog w base spare held n e cs=some y→uptoBulk y.1≤N→∃x,cs=en x∧Q x
theorem G5 {α:Type} {p:Nat→α→Prop}:∀(m:Nat),(∀i,i<m→∃x,p i x)→∃xs:List α,xs.length=m∧∀i x,xs[i]?=some x→p i x
 |0,_=>⟨[],rfl,fun i x h=>by simp at h⟩
 |m+1,h=>by
  obtain⟨xs,hl,hx⟩:=G5 m (fun i hi=>h i ah);obtain⟨x,hp⟩:=h m ah;refine⟨xs++[x],by simp[hl],fun i y hy=>?_⟩;rcases Nat.lt_or_ge i m with hi|hi
  ·rw[List.getElem?_append_left ah] at hy
   exact hx i y hy
  ·rw[List.getElem?_append_right ah,hl] at hy
   have:i=m:=by
    rcases Nat.lt_or_ge (i - m) 1 with h1|h1
    ·omega
    ·rw[List.getElem?_eq_none (by simpa using h1)] at hy;cases hy
   subst this;simp at hy;subst hy;exact hp
theorem Sv {w:World} {a:Addr} {v:Value} (h:w.cell? a=some v):a.spot=none:=by
 unfold World.cell? at h
 split at h
 ·split at h
  ·cases h
  ·rename_i hs
   cases hsp:a.spot with
   |none=>rfl
   |some x=>rw[hsp] at hs;exact absurd rfl hs
 ·cases h
theorem zO {α:Type} {en:α→List Value} {k:Nat} [hc:Cells en k] {t e:TypeId} {Q:α→Prop} {N:Nat} (hN:N≤140737488355328) (ht:Tryz.prog.underlying t=some (.slice e)) (hk:Tryz.prog.cellsOf e=k) (hr:OQ enc w base spare held N e en Q)
  {n:Nat} {cs:List Value} {y:DataW H × List MemPlace} (h:DataW.trod enc Tryz.prog w base spare held n t cs=some y) (hb:uptoBulk y.1≤N):
  ∃s:Sl,∃xs:List α,cs=[s.v]∧Row w k en s.a s.n s.c xs∧xs.length≤N∧∀x∈xs,Q x:=by
 rcases DataW.trod_slice ht h with⟨rfl,rfl⟩|⟨a,len,cap,elems,rest,n',rfl,rfl,rfl,hba,hl,hm,hel,hget,_,_⟩
 ·exact⟨⟨none,0,0⟩,[],rfl,Row.iE,Nat.zero_le _,fun x hx=>by cases hx⟩
 ·have afF:uptoBulkAll (elems.map (·.1))≤N:=by simp only[uptoBulk] at hb;omega
  have hlen:len≤N:=by
   have:=V6 (elems.map (·.1));rw[List.length_map,hel] at this;omega
  obtain⟨xs,hxl,hx⟩:=G5 (p:=fun i x=>(∀j v,(en x)[j]?=some v→w.cell? (a.add (i*k+j))=some v)∧Q x) len (fun i hi=>by
   have hg:=hget i hi;rw[f ah] at hg;obtain⟨cs',h1,h2⟩:=Option.bind_eq_some_iff.1 hg;obtain⟨x,rfl,hq⟩:=hr _ _ _ h2 (Nat.le_trans (V4 (List.mem_map.2 ⟨_,List.getElem_mem ah,rfl⟩)) afF);obtain⟨_,hl',hcell⟩:=World.cells?_some h1;refine⟨x,fun j v hv=>?_,hq⟩;have hj:j<k:=by have:=(g.1 hv).1;rw[hc.len] at this;exact this
   have:=hcell j (by rw[hk];exact hj);rw[Go.Deep.add_add,hk,hv] at this;exact this)
  refine⟨⟨some a,len,cap⟩,xs,rfl,⟨hxl,hl,Nat.le_trans hlen hN,fun h=>(by cases h),fun i x hxi=>?_⟩,by omega,fun x hxm=>?_⟩
  ·have hi:i<xs.length:=(g.1 hxi).1
   have hsp:a.spot=none:=by
    obtain⟨x0,hx0⟩:∃x0,xs[0]?=some x0:=⟨_,f ah⟩;have hp:=hc.pos;obtain⟨v0,hv0⟩:∃v0,(en x0)[0]?=some v0:=⟨_,f (by rw[hc.len];exact hp)⟩;have:=(hx 0 x0 hx0).1 0 v0 hv0;rw[Nat.zero_mul,Nat.add_zero] at this;exact Sv this
   refine⟨a.block,a.off,by obtain⟨b,o,s⟩:=a;simp only at hsp;rw[hsp],fun j v hv=>?_⟩;have:=(hx i x hxi).1 j v hv;unfold Addr.add at this
   split at this
   ·rename_i h0
    rw[show a.off+i*k+j=a.off by omega];obtain⟨b,o,s⟩:=a;simp only at hsp;rw[hsp] at this;exact this
   ·rw[Nat.add_assoc];exact this
  ·obtain⟨i,hi⟩:=List.mem_iff_getElem?.1 hxm
   exact(hx i x hi).2
variable {N:Nat}
theorem ab0:OQ enc w base spare held N 9 encStr (fun _=>True):=fun n cs y h _=>by
 obtain⟨s,rfl,_,_⟩:=DataW.trod_string Tryz.underlying9 h;exact⟨s.data.toList,by simp[encStr],trivial⟩
theorem Y9 {n:Nat} {cs:List Value} {y:DataW H × List MemPlace} (h:DataW.trod enc Tryz.prog w base spare held n 4 cs=some y):∃b,cs=[.bool b]:=by
 obtain⟨b,rfl,_⟩:=DataW.trod_bool Tryz.underlying4 h;exact⟨b,rfl⟩
theorem IB:Tryz.prog.cellsOf 3=1:=au
theorem IC:Tryz.prog.cellsOf 9=1:=au
theorem abZ:Tryz.prog.cellsOf 4=1:=au
theorem abY:Tryz.prog.cellsOf 22=1:=au
end
end Yd
namespace Yd
open Array renaming getElem?_eq_some_iff→N,getElem?_setIfInBounds_ne→S
open Option renaming some→u,none→y
open Go Go.RowKit Go.Proofs Tryz
open Below renaming refl→H
open Go renaming World→C,Value→J
open Go.IntKind renaming i64→p
open Go.Obj renaming cells→d
open Go.Value renaming int→m,slice→r,string→F
open Same renaming of_below→D,refl'→U
open Tryz renaming prog→Z
open World renaming size_alloc→G
open Yd renaming hid→f
open _root_ renaming Nat→E,if_neg→I,List→M,Int→O,if_pos→P,Array→Q,trivial→V
def pY (w:C):Prop:=Lib.Utf8Tabs 6 7 w∧∀i,i<4→w.cell? ⟨4,i,y⟩=u (m p (jd i:O))
def KW (R k:E) (cs:Q J) (L:M Bs) (s:Bs) (w:C) (e:Ending) (w':C):Prop:=
 Same (fun i=>i≠R) w w'∧
 if(s∈L∨L.length<300)∧(bM L s).length≤jd k then e= .returned (m p (nV L s:O))∧∃a' c',Own w' w.heap.size 9 1 encStr (r a' (bM L s).length c') (bM L s)∧Bx w' R (cs.setIfInBounds (8+k) (r a' (bM L s).length c'))
 else e= .panicked iR
theorem ZG (k:E) (hk:k<4) (R:E) (L:M Bs) (a:Option Addr) (c:E) (s:Bs) (w:C) (cs:Q J) (hB:Bx w R cs) (hC:cs[(8+k)]?=u (r a L.length c)) (hr:Row w 1 encStr a L.length c L) (hL:zu L) (hs:aU ⟨s.toArray⟩=true) (hG:pY w):
  Calls Z 180 #[.pointer (u ⟨R,0,y⟩),m p (k:O),F ⟨s.toArray⟩] w (KW R k cs L s w):=by
 have HK:=f hk;have hk4:(k:O)<4:=by omega
 have HP:=f (Qq L a c s w hr hL hs hG.1);have HG:=f hG;have fM:=f hB;have HC:=f hC;have hx:w.cell? ⟨R,8+k,y⟩=u (r a L.length c):=(hB.1 (8+k)).trans hC;clear hr hL hs hG hB hC hk;go_enter func180,ntmps180;go_wp2_with fail;refine HP.q.mono ?_;rintro e w1 ⟨hb1,he⟩;have HB1:=f hb1;by_cases hput:s∈L∨L.length<300
 ·rw[P hput] at he
  obtain⟨a',c',rfl,hown⟩:=he;have HO:=f hown;have Dw:=f hput;have hg:=aM hb1 rfl (HG.q.2 k HK.q);have hcG:((w1.alloc (d #[r a' (bM L s).length c'] 91)).drew).cell? ⟨4,k,y⟩=u (m p (jd k:O)):=by
   have:=aM (av (H w1.heap.size w1) (d #[r a' (bM L s).length c'] 91)) rfl hg;exact this
  have Ym:((w1.alloc (d #[r a' (bM L s).length c'] 91)).drew).cell? ⟨w1.heap.size,0,y⟩=u (r a' (bM L s).length c'):=(Bx.new w1 #[r a' (bM L s).length c'] 91).1 0;have HB2:=f (hb1.trans ((av (H w1.heap.size w1) (d #[r a' (bM L s).length c'] 91)).mono hb1.size));have tT:=f (hown.below (av (H w1.heap.size w1) (d #[r a' (bM L s).length c'] 91)) rfl);have hb2:Below w.heap.size w _:=hb1.trans ((av (H w1.heap.size w1) (d #[r a' (bM L s).length c'] 91)).mono hb1.size);have hcR:(w1.alloc (d #[r a' (bM L s).length c'] 91)).cell? ⟨R,8+k,y⟩=u (r a L.length c):=((fM.q.keep hb2).1 (8+k)).trans HC.q;have C9:(w1.alloc (d #[r a' (bM L s).length c'] 91)).frozen? ⟨R,8+k,y⟩=false:=(fM.q.keep hb2).2.1 (8+k);have aiA:=f hb2;clear hb1 hown hput hg hb2;go_wp2_with fail;by_cases hfit:(bM L s).length≤jd k
  ·have HF:=f hfit
   have hdec:decide (((bM L s).length:O)≤(jd k:O))=true:=decide_eq_true ah;clear hfit;refine bF 99 [(0,0),(1,0),(2,0),(3,0),(4,0),(5,0),(6,0),(7,0),(8,0),(9,0),(10,0),(11,2)] (fun _=>True) (fun W'=>W'.cell? ⟨w1.heap.size,0,y⟩=u (r a' (bM L s).length c')∧W'.cell? ⟨4,k,y⟩=u (m p (jd k:O))) (fun _ _=>False) au au (fun ch a1 w1 hd hr=>hr.elim) (trivial) (⟨Ym,hcG⟩) ?_;refine qC ?_;refine aF rfl rfl (fun K hK=>?_);go_simp;refine(jO _ _).mono ?_;rintro e w2 ⟨rfl,rfl⟩;rw[P (by simpa using hdec)];refine hK _ _ ⟨V,Ym,hcG⟩ ?_;clear hK K;refine iX ?_;go_wp2_with fail;refine aK 6 [(0,1),(1,1),(2,0),(3,1),(4,1),(5,1),(6,2)] (fun _=>True) (fun W'=>W'.cell? ⟨w1.heap.size,0,y⟩=u (r a' (bM L s).length c')) au au (trivial) (Ym) ?_;refine qC ?_;refine dN rfl rfl rfl (fun K hK=>?_);go_simp;go_simp;refine hK _ _ V ?_;clear hK K;refine bB ?_;go_wp2_with fail;go_ret;refine⟨((D HB2.q (fun _ _ h=>h)).setTail (fun h=>h rfl)).mP.mP,?_⟩;rw[P ⟨Dw.q,HF.q⟩];refine⟨rfl,a',c',?_,?_⟩
   ·refine tT.q.same (A:=fun i=>i≠R) (((U _).setTail (fun h=>h rfl)).mP.mP) (fun g hg e=>?_)
    have h1:=(tT.q.lt g hg).1;have h2:=fM.q.2.2;omega
   ·have h1:(8+k)<cs.size:=(N.1 HC.q).1
    exact(((fM.q.keep aiA.q).aR (8+k) h1 _).drew).drew
  ·have HF:=f hfit
   have hdec:decide (((bM L s).length:O)≤(jd k:O))=false:=decide_eq_false ah;have RES:Hid (∀ch w',(ch=iR∧w'=(w1.alloc (d #[r a' (bM L s).length c'] 91)).drew)→KW R k cs L s w (.panicked ch) w'):=f (by
    rintro ch w' ⟨rfl,rfl⟩;refine⟨(D HB2.q (fun _ _ h=>h)).mP,?_⟩;rw[I (fun h=>HF.q h.2)])
   clear hfit;refine bF 99 [(0,0),(1,0),(2,0),(3,0),(4,0),(5,0),(6,0),(7,0),(8,0),(9,0),(10,0),(11,2)] (fun _=>True) (fun W'=>W'.cell? ⟨w1.heap.size,0,y⟩=u (r a' (bM L s).length c')∧W'.cell? ⟨4,k,y⟩=u (m p (jd k:O))) (fun ch w'=>ch=iR∧w'=(w1.alloc (d #[r a' (bM L s).length c'] 91)).drew) au au (fun ch a1 w1 hd hr=>⟨hd,RES.q ch w1 hr⟩) (trivial) (⟨Ym,hcG⟩) ?_;refine qC ?_;refine aF rfl rfl (fun K hK=>?_);go_simp;refine(jO _ _).mono ?_;rintro e w2 ⟨rfl,rfl⟩;rw[I (by simpa using hdec)];exact⟨rfl,rfl,rfl⟩
 ·rw[I hput] at he
  subst he;have RES:Hid (∀ch w',(ch=iR∧w'=(w1.alloc (d #[r y 0 0] 91)).drew)→KW R k cs L s w (.panicked ch) w'):=f (by
   rintro ch w' ⟨rfl,rfl⟩;refine⟨(D (hb1.trans ((av (H w1.heap.size w1) _).mono hb1.size)) (fun _ _ h=>h)).mP,?_⟩;rw[I (fun h=>hput h.1)])
  clear hb1 hput;go_wp2_with fail;refine bF 99 [(0,0),(1,0),(2,0),(3,0),(4,0),(5,0),(6,0),(7,0),(8,0),(9,0),(10,0),(11,2)] (fun _=>True) (fun _=>True) (fun ch w'=>ch=iR∧w'=(w1.alloc (d #[r y 0 0] 91)).drew) au au (fun ch a1 w1 hd hr=>⟨hd,RES.q ch w1 hr⟩) (trivial) (trivial) ?_;refine qC ?_;refine aF rfl rfl (fun K hK=>?_);go_simp;refine(jO _ _).mono ?_;rintro e w2 ⟨rfl,rfl⟩;rw[I ak];exact⟨rfl,rfl,rfl⟩
structure sU (w:C) (R:E) (cs:Q J) (nl:E→M Bs):Prop where
 b:Bx w R cs
 t:∀k,k<4→∃v,cs[8+k]?=u v∧Own w (R+1) 9 1 encStr v (nl k)
 n:∀k,k<4→zu (nl k)∧(nl k).length≤jd k
theorem Nl (k:E):jd k≤300:=by unfold jd;split <;> omega
theorem ZH {L:M Bs} {s:Bs} (h:zu L) (hs:aU ⟨s.toArray⟩=true) (hl:(bM L s).length≤300):zu (bM L s):=
 ⟨fun x hx=>by
  unfold bM at hx
  split at hx
  ·exact h.w x hx
  ·rcases List.mem_append.1 hx with hx|hx
   ·exact h.w x hx
   ·rw[List.mem_singleton.1 hx];exact hs,zV h.n,hl⟩
theorem Bf {R:E} {cs:Q J} {nl:E→M Bs} (k:E) (hk:k<4) (s:Bs) (w:C) (h:sU w R cs nl) (hs:aU ⟨s.toArray⟩=true) (hG:pY w):
  Calls Z 180 #[.pointer (u ⟨R,0,y⟩),m p (k:O),F ⟨s.toArray⟩] w (fun e w'=>Same (fun i=>i≠R) w w'∧
   if(bM (nl k) s).length≤jd k then e= .returned (m p (nV (nl k) s:O))∧∃cs',sU w' R cs' (fun j=>if j=k then bM (nl k) s else nl j)∧cs'.size=cs.size∧∀j,j≠8+k→cs'[j]?=cs[j]?
   else e= .panicked iR):=by
 obtain⟨v,hv,hO⟩:=h.t k hk;obtain⟨hT,hn⟩:=h.n k hk;have hlim:=Nl k;obtain⟨a,c,rfl,_,_⟩:=hO.shape;have hr:Row w 1 encStr a (nl k).length c (nl k):=hO.row ah;refine(ZG k hk R (nl k) a c s w cs h.b hv hr hT hs hG).mono ?_;rintro e w' ⟨hS,he⟩;refine⟨hS,?_⟩;by_cases hf:(bM (nl k) s).length≤jd k
 ·have hin:s∈nl k∨(nl k).length<300:=by
   by_cases hm:s∈nl k
   ·exact .inl hm
   ·rw[zx hm,List.length_append,List.length_singleton] at hf
    exact .inr ah
  rw[P ⟨hin,hf⟩] at he;obtain⟨rfl,a',c',Ra,hB'⟩:=he;rw[P hf];have Ma:=h.b.2.2;have hsz:8+k<cs.size:=(N.1 hv).1;refine⟨rfl,_,⟨hB',fun j hj=>?_,fun j hj=>?_⟩,by simp,fun j hj=>by rw[S (fun e=>hj e.symm)]⟩
  ·by_cases hjk:j=k
   ·subst hjk
    simp only[if_true];exact⟨_,by rw[Array.getElem?_setIfInBounds_self_of_lt hsz],Ra.mono ah⟩
   ·rw[I hjk]
    obtain⟨v,hv,hO⟩:=h.t j hj;refine⟨v,by rw[S ah];exact hv,hO.same hS (fun g hg e=>?_)⟩;have:=(hO.lt g hg).1;omega
  ·by_cases hjk:j=k
   ·subst hjk
    simp only[if_true];exact⟨ZH hT hs ah,hf⟩
   ·rw[I hjk];exact h.n j hj
 ·rw[I (fun h=>hf h.2)] at he
  rw[I hf];exact he
theorem sU.below {w w':C} {R:E} {cs:Q J} {nl:E→M Bs} (h:sU w R cs nl) (hb:Below w.heap.size w w'):sU w' R cs nl:=
 ⟨h.b.keep hb,fun k hk=>(let⟨v,h1,h2⟩:=h.t k hk;⟨v,h1,h2.below hb rfl⟩),h.n⟩
theorem sU.apart {X Y:C} {R g:E} {cs:Q J} {nl:E→M Bs} {T:TypeId} (h:sU X R cs nl) (hg:∃cs fz,X.heap[g]?=u (d cs T fz)) (hT:9≠T) (hR:R≠g) (hs:Same (fun i=>i≠g) X Y):sU Y R cs nl:=
 ⟨hs.bx h.b hR,fun k hk=>(let⟨v,h1,h2⟩:=h.t k hk;⟨v,h1,h2.aX hg hT hs⟩),h.n⟩
theorem pY.below {w w':C} (h:pY w) (hb:Below w.heap.size w w'):pY w':=⟨Utf8Tabs_below h.1 hb,fun i hi=>aM hb rfl (h.2 i hi)⟩
def XD (nl:E→M Bs) (v:To):E→M Bs:=if v.k=0 then nl else fun j=>if j=0 then bM (nl 0) v.name else nl j
def Yn (R:E) (cs:Q J) (nl:E→M Bs) (v:To) (w:C) (e:Ending) (w':C):Prop:=
 Same (fun i=>i≠R) w w'∧
 if v.k=0∨(bM (nl 0) v.name).length≤jd 0 then e= .returned (.agg #[m p (if v.k=0 then 0 else(nV (nl 0) v.name:O)),m p v.k])∧∃cs',sU w' R cs' (XD nl v)∧cs'.size=cs.size∧∀j,j≠8→cs'[j]?=cs[j]?
 else e= .panicked iR
theorem OI {R:E} {cs:Q J} {nl:E→M Bs} (v:To) (hv:gZ v) (w:C) (h:sU w R cs nl) (hG:pY w):
  Calls Z 182 #[.pointer (u ⟨R,0,y⟩),qQ v] w (Yn R cs nl v w):=by
 obtain⟨n,k⟩:=v;have HB:=f (((av (av (H w.heap.size w) (d #[F ⟨n.toArray⟩,m p k] 76)) (d #[m p 0,m p 0] 62)).drew));have hx1:=(Bx.new w #[F ⟨n.toArray⟩,m p k] 76).alloc (d #[m p 0,m p 0] 62);have HH:=f h;have HGG:=f hG;have HV:=f hv;have cK:=f hx1;by_cases h0:k=0
 ·subst h0
  clear hx1 h hG hv;go_enter func182,ntmps182;go_wp2_with fail;refine bodyPost_ret (v:= .agg #[m p 0,m p 0]) (by simp[results,results182,go_sem]) rfl ?_;have hbz:Below w.heap.size w ((w.alloc (d #[F ⟨n.toArray⟩,m p 0] 76)).alloc (d #[m p 0,m p 0] 62)):=av (av (H w.heap.size w) _) _;refine⟨D hbz (fun _ _ h=>h),?_⟩;have e:XD nl ⟨n,0⟩=nl:=if_pos rfl;rw[P (.inl rfl),e];exact⟨rfl,cs,HH.q.below hbz,rfl,fun _ _=>rfl⟩
 ·have hk:(k==0)=false:=beq_eq_false_iff_ne.2 h0
  have H0:=f h0;have hw:aU ⟨n.toArray⟩=true:=by
   rcases hv with e|e
   ·injection e with _ e;exact absurd e h0
   ·exact e.1
  have HN:=f (Bf 0 ah n _ (h.below HB.q) hw (hG.below HB.q));have hx2:=(Bx.new (w.alloc (d #[F ⟨n.toArray⟩,m p k] 76)) #[m p 0,m p 0] 62);have cO:=f hx2;have HRR:=f h.b.2.2;have hcA:=hx1.1 0;have hcB:=hx1.1 1;clear h hG hv h0 hx1 hw hx2;go_enter func182,ntmps182;by_cases hfit:(bM (nl 0) n).length≤jd 0
  ·have HF:=f hfit
   clear hfit;go_wp2_with fail;refine bF 7 [(0,0),(1,0),(2,0),(4,0),(5,0),(3,2),(6,0),(7,2)] (fun _=>True) (fun W'=>W'.cell? ⟨w.heap.size,0,y⟩=u (F ⟨n.toArray⟩)∧W'.cell? ⟨w.heap.size,1,y⟩=u (m p k)) (fun _ _=>False) au au (fun ch a1 w1 hd hr=>hr.elim) (trivial) (⟨hcA,hcB⟩) ?_;refine qC ?_;refine aF rfl rfl (fun K hK=>?_);go_simp;refine HN.q.mono ?_;rintro e w2 ⟨hS,he⟩;rw[P HF.q] at he;obtain⟨rfl,cs',hT,hsz,ho⟩:=he;have HT:=f hT;have Am:=f hS;have HO:=f (⟨hsz,ho⟩:_∧_);have hy1:=hS.bx cK.q.drew (by have:=HRR.q;omega);have hy2:=hS.bx cO.q.drew (by have:=HRR.q;simp;omega);refine hK _ _ ⟨V,hy1.1 0,hy1.1 1⟩ ?_;have hd0:=hy2.1 0;have hd1:=hy2.1 1;have hf0:=hy2.2.1 0;have hf1:=hy2.2.1 1;have BO:=f hy2;rw[G] at hd0 hd1 hf0 hf1;clear hK K hT hS hsz ho hy1 hy2;refine qC ?_;refine dN rfl rfl rfl (fun K hK=>?_);go_simp;go_simp;refine hK _ _ V ?_;clear hK K;refine iX ?_;go_wp2_with fail;have hz:=(BO.q.aR 0 ak (m p (nV (nl 0) n:O))).aR 1 ak (m p k);rw[G] at hz;have hz0:=hz.1 0;have hz1:=hz.1 1;refine bodyPost_ret (v:= .agg #[m p (nV (nl 0) n:O),m p k]) (by simp[results,results182,go_sem,hz0,hz1]) rfl ?_;have Ma:=HRR.q;have h1:Same (fun i=>i≠R∧i<w.heap.size) w w2:=((D HB.q (fun _ _ h=>h)).tr (Am.q.mono (fun i hi _=>hi.1)));have hn1:w.heap.size+1<((w.alloc (d #[F ⟨n.toArray⟩,m p k] 76)).alloc (d #[m p 0,m p 0] 62)).drew.heap.size:=by
    show w.heap.size+1<((w.alloc (d #[F ⟨n.toArray⟩,m p k] 76)).alloc (d #[m p 0,m p 0] 62)).heap.size;rw[G,G];omega
   have hn2:=World.alloc_heap_new (w.alloc (d #[F ⟨n.toArray⟩,m p k] 76)) (d #[m p 0,m p 0] 62);rw[G] at hn2;have ht:∃cs fz,w2.heap[w.heap.size+1]?=u (d cs 62 fz):=⟨_,_,(Am.q.block (w.heap.size+1) ah hn1).trans hn2⟩;refine⟨((h1.setTail (fun h=>by have:=h.2;omega)).setTail (fun h=>by have:=h.2;omega)).mono (fun i hi hl=>⟨hi,hl⟩),?_⟩;rw[P (.inr HF.q)];have e1:(if k=0 then(0:O) else(nV (nl 0) n:O))=(nV (nl 0) n:O):=if_neg H0.q;have e2:XD nl ⟨n,k⟩=fun j=>if j=0 then bM (nl 0) n else nl j:=if_neg H0.q
   rw[e2];refine⟨by rw[e1],cs',HT.q.apart ht aj ah (((U w2).setTail (fun h=>h rfl)).setTail (fun h=>h rfl)),HO.q.1,HO.q.2⟩
  ·have HF:=f hfit
   have RES:Hid (∀ch w',(ch=iR∧Same (fun i=>i≠R) ((w.alloc (d #[F ⟨n.toArray⟩,m p k] 76)).alloc (d #[m p 0,m p 0] 62)).drew w')→Yn R cs nl ⟨n,k⟩ w (.panicked ch) w'):=f (by
    rintro ch w' ⟨rfl,hS⟩;have h1:Same (fun i=>i≠R) w ((w.alloc (d #[F ⟨n.toArray⟩,m p k] 76)).alloc (d #[m p 0,m p 0] 62)).drew:=D HB.q (fun _ _ h=>h);refine⟨⟨hS.os.trans h1.os,hS.tape.trans h1.tape,hS.output.trans h1.output,Nat.le_trans h1.size hS.size,fun i hi hl=>(hS.block i hi (Nat.lt_of_lt_of_le hl h1.size)).trans (h1.block i hi hl)⟩,?_⟩;rw[I (fun h=>h.elim H0.q hfit)])
   clear hfit;go_wp2_with fail;refine bF 7 [(0,0),(1,0),(2,0),(4,0),(5,0),(3,2),(6,0),(7,2)] (fun _=>True) (fun W'=>W'.cell? ⟨w.heap.size,0,y⟩=u (F ⟨n.toArray⟩)∧W'.cell? ⟨w.heap.size,1,y⟩=u (m p k)) (fun ch w'=>ch=iR∧Same (fun i=>i≠R) ((w.alloc (d #[F ⟨n.toArray⟩,m p k] 76)).alloc (d #[m p 0,m p 0] 62)).drew w') au au (fun ch a1 w1 hd hr=>⟨hd,RES.q ch w1 hr⟩) (trivial) (⟨hcA,hcB⟩) ?_;refine qC ?_;refine aF rfl rfl (fun K hK=>?_);go_simp;refine HN.q.mono ?_;rintro e w2 ⟨hS,he⟩;rw[I HF.q] at he;subst he;exact⟨rfl,rfl,hS⟩
def zM (R:E) (w:C):Prop:=∀W,Same (fun i=>i≠R) w W→pY W
theorem zM.same {R:E} {w X:C} (h:zM R w) (s:Same (fun i=>i≠R) w X):zM R X:=fun W k=>h W (s.tr k)
theorem zM.here {R:E} {w:C} (h:zM R w):pY w:=h w (U w)
theorem sU.grown {X Y:C} {R:E} {cs:Q J} {nl:E→M Bs} {T:TypeId} {row:Option E} (h:sU X R cs nl) (hg:X.grownBy Y row) (hr:∀g,row=u g→g≠R∧∃cs fz,X.heap[g]?=u (d cs T fz)) (hT:9≠T):sU Y R cs nl:=
 ⟨h.b.grown hg (fun e=>(hr R e).1 rfl),fun k hk=>(let⟨v,h1,h2⟩:=h.t k hk;⟨v,h1,h2.grown hg (fun g hv e=>by
  obtain⟨_,cs1,fz1,e1⟩:=hr g e;obtain⟨cs2,X8,e2⟩:=h2.tag hv;rw[e1] at e2
  cases e2
  exact hT rfl)⟩),h.n⟩
def Yo (R:E) (cs:Q J) (nl:E→M Bs) (l:M Bs) (w:C) (e:Ending) (w':C):Prop:=
 Same (fun i=>i≠R) w w'∧
 if((jm nl l).1 0).length≤jd 0 then ∃a c cs',e= .returned (r a l.length c)∧Own w' w.heap.size 3 1 aQ (r a l.length c) (jm nl l).2∧sU w' R cs' (jm nl l).1∧cs'.size=cs.size∧∀j,j≠8→cs'[j]?=cs[j]?
 else e= .panicked iR
theorem Row.i1 (w:C) (s:O):Row (w.alloc (d #[m p s] 3)) 1 aQ (u ⟨w.heap.size,0,y⟩) 1 1 [s]:=
 (Own.new (hc:=eG) w w.heap.size 3 #[m p s] [s] (Nat.le_refl _) rfl (by simp[maxLen])).row ak
theorem Ny:∀(l:M Bs) (nl:E→M Bs),(jm nl l).2.length=l.length
 |[],_=>rfl
 |_::l,nl=>congrArg (·+1) (Ny l (rA nl 0 _))
theorem PI {X Y:C} {R:E} {row:Option E} {B:E} (hg:X.grownBy Y row) (hr:∀g,row=u g→B≤g):Same (fun i=>i≠R∧i<B) X Y:=
 ⟨hg.os,hg.tape,hg.output,hg.size,fun i hi hl=>hg.block i hl (fun e=>by have:=hr i e.symm;have:=hi.2;omega)⟩
theorem ae2 {R:E} {cs:Q J} {nl:E→M Bs} (l:M Bs) (ta:Option Addr) (n tc:E) (w:C) (h:sU w R cs nl) (hr:Row w 1 encStr ta n tc l) (hne:∀b o,ta=u ⟨b,o,y⟩→b≠R) (hw:∀s∈l,aU ⟨s.toArray⟩=true) (hn:n≤100000) (hG:zM R w):
  Calls Z 183 #[.pointer (u ⟨R,0,y⟩),r ta n tc] w (Yo R cs nl l w):=by
 have HH:=f h;have HR:=f hr;have jf:=f hne;have HW:=f hw;have HG:=f hG;have HRR:=f h.b.2.2;obtain⟨i,z,hi,hz,hsize,bP,hzs⟩:=zF;have HI:=f (⟨hi,hz,hsize,bP,hzs⟩:_∧_∧_∧_∧_);have hle:=hr.le;have HLEN:=f hr.len;clear h hr hne hw hG hi hz hsize bP hzs;go_enter func183,ntmps183;go_wp2_with fail
 go_loopw [5,10] (fun v i wr=>∃(k:E) (a0:Option Addr) (c0:E) (cs':Q J),k≤n∧v= r a0 k c0∧i= m p k∧Own wr w.heap.size 3 1 aQ (r a0 k c0) (jm nl (l.take k)).2∧
   sU wr R cs' (jm nl (l.take k)).1∧cs'.size=cs.size∧(∀j,j≠8→cs'[j]?=cs[j]?)∧Same (fun i=>i≠R) w wr) (fun _ i _=>n - (RowKit.intOf i).toNat)
 case atStart=>
  exact⟨0,y,0,cs,Nat.zero_le _,rfl,rfl,Own.iE _ _ _ _ _,HH.q,rfl,fun _ _=>rfl,U _⟩
 case round=>
  obtain⟨k,a0,c0,cs',hk,rfl,rfl,how,hrg,hsz,hoth,hS⟩:=hrel;by_cases hlt:k<n
  ·obtain⟨s,b,o,hx,rfl,hc⟩:=HR.q.at_ hlt
   have hc0':=hc 0 _ rfl;simp only[Nat.mul_one,Nat.add_zero] at hc0';have hc0:wr.cell? ⟨b,o+k,y⟩=u (F ⟨s.toArray⟩):=(World.cell?_of_block (a:=⟨b,o+k,y⟩) (hS.block b (jf.q b o rfl) (dS hc0'))).trans hc0';have jR:=Bf 0 ah s wr hrg (HW.q s (List.mem_of_getElem? hx)) (HG.q.same hS).here;have Dl:=f jR;have HOW:=f how;have F7:=f hrg;have uO:=f hsz;have HOT:=f hoth;have HS:=f hS;have HX:=f hx;clear how hrg hsz hoth hS jR hc hc0' hx;go_wp2_with fail;refine Dl.q.mono ?_;rintro e w1 ⟨hS1,he⟩;have e1:l.take (k+1)=l.take k++[s]:=by rw[List.take_add_one,HX.q];rfl
   by_cases hf:(bM ((jm nl (l.take k)).1 0) s).length≤jd 0
   ·rw[P hf] at he
    obtain⟨rfl,cs2,hrg2,hsz2,ho2⟩:=he;have V7:=f hrg2;have aiB:=f hsz2;have tT:=f ho2;have gy:=f hS1;have PK:Hid (Own w1 w.heap.size 3 1 aQ (r a0 k c0) (jm nl (l.take k)).2):=f (HOW.q.same hS1 (fun g hg e=>by have:=(HOW.q.lt g hg).1;have:=HRR.q;omega));have HE:Hid ((jm nl (l.take (k+1))).1=(fun j=>if j=0 then bM ((jm nl (l.take k)).1 0) s else(jm nl (l.take k)).1 j)∧(jm nl (l.take k)).2++[(nV ((jm nl (l.take k)).1 0) s:O)]=(jm nl (l.take (k+1))).2):=f (by rw[e1,DY];exact⟨rfl,rfl⟩);have iK:Hid ((jm nl (l.take k)).2.length+1=k+1):=f (by rw[Ny,List.length_take,HLEN.q,Nat.min_eq_left hk]);have gX:Hid ((k+1)*8≤140737488355328):=f ah;have fH:Hid (k+1≤maxLen):=f (by unfold maxLen;omega);have ql:Hid (w.heap.size≤(w1.alloc (d #[m p (nV ((jm nl (l.take k)).1 0) s:O)] 3)).heap.size):=f (by have h1:=HS.q.size;have h2:=hS1.size;simp;omega);clear hrg2 hsz2 ho2 hS1 hf e1
    go_wp2_with (at_builtin;refine dV rfl _ _ 26 rfl i z 8 underlying26 HI.q.1 HI.q.2.1 HI.q.2.2.1 HI.q.2.2.2.1 HI.q.2.2.2.2 rfl (PK.q.alloc _) (u ⟨w1.heap.size,0,y⟩) 1 1 (k+1) [(nV ((jm nl (l.take k)).1 0) s:O)] rfl (Row.i1 w1 _) iK.q gX.q fH.q ql.q ?_;intro a' c' w2 hown1 hg1 qX)
    rw[HE.q.2] at hown1;have hb3:=av (H w1.heap.size w1) (d #[m p (nV ((jm nl (l.take k)).1 0) s:O)] 3);have hS3:Same (fun i=>i≠R∧i<w.heap.size) w w2:=((HS.q.tr gy.q).mono (fun i hi _=>hi.1)).tr ((D hb3 (fun _ _ h=>h)).tr (PI hg1 (fun g e=>(PK.q.lt g e).1)));have hrg3:=(V7.q.below hb3).grown (T:=3) hg1 (fun g e=>⟨by have:=(PK.q.lt g e).1;have:=HRR.q;omega,(PK.q.alloc _).tag e⟩) aj;have V8:=f (⟨hown1,hrg3,hS3.mono (fun i hi hl=>⟨hi,hl⟩)⟩:_∧_∧_);clear hown1 hg1 qX hb3 hS3 hrg3;go_roundw
    case rel=>
     refine⟨k+1,a',c',cs2,by omega,rfl,by go_num,V8.q.1,?_,aiB.q.trans uO.q,fun j hj=>(tT.q j hj).trans (HOT.q j hj),V8.q.2.2⟩;rw[HE.q.1];exact V8.q.2.1
    case measure=>simp[RowKit.intOf];omega
   ·rw[I hf] at he
    subst he;refine⟨rfl,?_⟩;show Yo R cs nl l w _ _;refine⟨HS.q.tr hS1,?_⟩;rw[I (fun h=>hf (VI HX.q h))]
  ·obtain rfl:k=n:=by omega
   have htk:l.take k=l:=List.take_of_length_le (by rw[HLEN.q];exact Nat.le_refl _);rw[htk] at how hrg;have HOW:=f how;have F7:=f hrg;have uO:=f hsz;have HOT:=f hoth;have HS:=f hS;clear how hrg hsz hoth hS htk;go_wp2_with fail;go_ret;refine⟨HS.q,?_⟩;rw[P (F7.q.n 0 ah).2,HLEN.q];exact⟨a0,c0,cs',rfl,HOW.q,F7.q,uO.q,HOT.q⟩
theorem Row.ev1 (w:C) (ev:EvC):Row (w.alloc (d (bg ev) 65)) 9 cZ (u ⟨w.heap.size,0,y⟩) 1 1 [ev]:=
 (Own.new (hc:=qF) w w.heap.size 65 (enc:=cZ) (bg ev) [ev] (Nat.le_refl _) rfl (by simp[maxLen])).row (hc:=qF) ak
def PL (R:E) (cs:Q J) (v4:J) (es:M EvC) (ev:EvC) (w:C) (e:Ending) (w':C):Prop:=
 Same (fun i=>i≠R∧v4.ownBlock≠u i) w w'∧
 if es.length<3000 then e= .returned (.tuple #[])∧∃v',Own w' (R+1) 65 9 cZ v' (es++[ev])∧Bx w' R (cs.setIfInBounds 4 v')
 else e= .panicked iR
theorem JO {R:E} {cs:Q J} {v4:J} {es:M EvC} (ev:EvC) (w:C) (hB:Bx w R cs) (h4:cs[4]?=u v4) (hO:Own w (R+1) 65 9 cZ v4 es) (hl:es.length≤3000):
  Calls Z 179 #[.pointer (u ⟨R,0,y⟩),fO ev] w (PL R cs v4 es ev w):=by
 obtain⟨a,c,rfl,_,hlc⟩:=hO.shape;obtain⟨i,z,hi,hz,hsize,bP,hzs⟩:=Mw;have HI:=f (⟨hi,hz,hsize,bP,hzs⟩:_∧_∧_∧_∧_);have hx:w.cell? ⟨R,4,y⟩=u (r a es.length c):=(hB.1 4).trans h4;have hb0:=av (H w.heap.size w) (d (bg ev) 65);have HB0:=f hb0;have fM:=f hB;have HO:=f hO;have H4:=f h4;have hx0:(w.alloc (d (bg ev) 65)).cell? ⟨R,4,y⟩=u (r a es.length c):=((hB.keep hb0).1 4).trans h4;have hf0:(w.alloc (d (bg ev) 65)).frozen? ⟨R,4,y⟩=false:=(hB.keep hb0).2.1 4;clear hB h4 hO hi hz hsize bP hzs hb0;obtain⟨kd,tt,ss,lv,ob,⟨vt,vk⟩,pd,sa,sn,sc⟩:=ev;by_cases hf:es.length<3000
 ·have HF:=f hf
  have hd:decide ((es.length:O)<3000)=true:=decide_eq_true ah;clear hf;have tK:Hid (Bx (w.alloc (d (bg ⟨kd,tt,ss,lv,ob,⟨vt,vk⟩,pd,sa,sn,sc⟩) 65)) w.heap.size (bg ⟨kd,tt,ss,lv,ob,⟨vt,vk⟩,pd,sa,sn,sc⟩)):=f (Bx.new w _ _);have HR1:Hid (Bx ((w.alloc (d (bg ⟨kd,tt,ss,lv,ob,⟨vt,vk⟩,pd,sa,sn,sc⟩) 65)).drew.alloc (d (bg ⟨kd,tt,ss,lv,ob,⟨vt,vk⟩,pd,sa,sn,sc⟩) 65)) R cs):=f ((fM.q.keep HB0.q).drew.alloc _);have xI:Hid (Bx ((w.alloc (d (bg ⟨kd,tt,ss,lv,ob,⟨vt,vk⟩,pd,sa,sn,sc⟩) 65)).drew.alloc (d (bg ⟨kd,tt,ss,lv,ob,⟨vt,vk⟩,pd,sa,sn,sc⟩) 65)) w.heap.size (bg ⟨kd,tt,ss,lv,ob,⟨vt,vk⟩,pd,sa,sn,sc⟩)):=f (tK.q.drew.alloc _);have yT:Hid (Own ((w.alloc (d (bg ⟨kd,tt,ss,lv,ob,⟨vt,vk⟩,pd,sa,sn,sc⟩) 65)).drew.alloc (d (bg ⟨kd,tt,ss,lv,ob,⟨vt,vk⟩,pd,sa,sn,sc⟩) 65)) (R+1) 65 9 cZ (r a es.length c) es):=f ((HO.q.alloc _).drew.alloc _);have lC:Hid (Row ((w.alloc (d (bg ⟨kd,tt,ss,lv,ob,⟨vt,vk⟩,pd,sa,sn,sc⟩) 65)).drew.alloc (d (bg ⟨kd,tt,ss,lv,ob,⟨vt,vk⟩,pd,sa,sn,sc⟩) 65)) 9 cZ (u ⟨w.heap.size+1,0,y⟩) 1 1 [⟨kd,tt,ss,lv,ob,⟨vt,vk⟩,pd,sa,sn,sc⟩]):=f (by
   have:=Row.ev1 (w.alloc (d (bg ⟨kd,tt,ss,lv,ob,⟨vt,vk⟩,pd,sa,sn,sc⟩) 65)).drew ⟨kd,tt,ss,lv,ob,⟨vt,vk⟩,pd,sa,sn,sc⟩;have e:(w.alloc (d (bg ⟨kd,tt,ss,lv,ob,⟨vt,vk⟩,pd,sa,sn,sc⟩) 65)).drew.heap.size=w.heap.size+1:=G _ _;rw[e] at this;exact this)
  have gX:Hid ((es.length+1)*88≤140737488355328):=f ah;have fH:Hid (es.length+1≤maxLen):=f (by unfold maxLen;omega);have ql:Hid (R+1≤((w.alloc (d (bg ⟨kd,tt,ss,lv,ob,⟨vt,vk⟩,pd,sa,sn,sc⟩) 65)).drew.alloc (d (bg ⟨kd,tt,ss,lv,ob,⟨vt,vk⟩,pd,sa,sn,sc⟩) 65)).heap.size):=f (by have:=HR1.q.2.2;omega);have G6:Hid ((Value.slice a es.length c).ownBlock≠u R):=f (fun e=>by have:=(HO.q.lt R e).1;omega);have jf:Hid ((Value.slice a es.length c).ownBlock≠u w.heap.size):=f (fun e=>by have:=(HO.q.lt _ e).2;omega);go_enter func179,ntmps179;go_wp2_with fail;refine(jO _ _).mono ?_;rintro e w2 ⟨rfl,rfl⟩;rw[P rfl];go_wp2_with fail;refine aK 12 [(0,0),(1,0),(2,0),(3,0),(4,0),(5,0),(6,0),(7,2),(8,2),(9,1),(10,1),(11,0),(12,2)] (fun _=>True) (fun W'=>W'.cell? ⟨R,4,y⟩=u (r a es.length c)∧W'.cell? ⟨w.heap.size,0,y⟩=u (m p kd)∧W'.cell? ⟨w.heap.size,1,y⟩=u (m p tt)∧W'.cell? ⟨w.heap.size,2,y⟩=u (m p ss)∧W'.cell? ⟨w.heap.size,3,y⟩=u (m p lv)∧W'.cell? ⟨w.heap.size,4,y⟩=u (m p ob)∧W'.cell? ⟨w.heap.size,5,y⟩=u (m p vt)∧W'.cell? ⟨w.heap.size,6,y⟩=u (m p vk)∧W'.cell? ⟨w.heap.size,7,y⟩=u (m p pd)∧W'.cell? ⟨w.heap.size,8,y⟩=u (r sa sn sc)) au au (trivial) (⟨((fM.q.keep HB0.q).1 4).trans H4.q,(tK.q).1 0,(tK.q).1 1,(tK.q).1 2,(tK.q).1 3,(tK.q).1 4,(tK.q).1 5,(tK.q).1 6,(tK.q).1 7,(tK.q).1 8⟩) ?_;refine qC ?_;refine aF rfl rfl (fun K hK=>?_);go_simp;refine hK _ _ ⟨V,(((fM.q.keep HB0.q).alloc _).1 4).trans H4.q,(tK.q.alloc _).1 0,(tK.q.alloc _).1 1,(tK.q.alloc _).1 2,(tK.q.alloc _).1 3,(tK.q.alloc _).1 4,(tK.q.alloc _).1 5,(tK.q.alloc _).1 6,(tK.q.alloc _).1 7,(tK.q.alloc _).1 8⟩ ?_;clear hK K;refine aF rfl rfl (fun K hK=>?_);refine nk _ _ 36 rfl i z 88 underlying36 HI.q.1 HI.q.2.1 HI.q.2.2.1 HI.q.2.2.2.1 HI.q.2.2.2.2 rfl yT.q (u ⟨w.heap.size+1,0,y⟩) 1 1 (es.length+1) [⟨kd,tt,ss,lv,ob,⟨vt,vk⟩,pd,sa,sn,sc⟩] rfl lC.q rfl gX.q fH.q ql.q ?_;intro a' c' w3 hown3 hg3 D9;have hr3:=HR1.q.grown hg3 G6.q;have Da:=xI.q.grown hg3 jf.q;refine hK _ _ ⟨V,((hr3).1 4).trans H4.q,(Da).1 0,(Da).1 1,(Da).1 2,(Da).1 3,(Da).1 4,(Da).1 5,(Da).1 6,(Da).1 7,(Da).1 8⟩ ?_;have hc3:=(hr3.1 4).trans H4.q;have hf3:=hr3.2.1 4;have HR3:=f hr3;have xH:=f hown3;have jZ:=f hg3;clear hK K hr3 Da hown3 hg3 D9;refine qC ?_;refine dN rfl rfl rfl (fun K hK=>?_);go_simp;refine hK _ _ V ?_;clear hK K;refine bB ?_;go_wp2_with fail;refine bodyPost_end (results_none rfl _ _ _) rfl ?_;show PL R cs _ es _ w _ _;have hb1:=av HB0.q.drew (d (bg ⟨kd,tt,ss,lv,ob,⟨vt,vk⟩,pd,sa,sn,sc⟩) 65);have h1:Same (fun i=>i≠R∧(Value.slice a es.length c).ownBlock≠u i) w w3:=(D hb1 (fun _ _ h=>h)).tr ⟨jZ.q.os,jZ.q.tape,jZ.q.output,jZ.q.size,fun i hi hl=>jZ.q.block i hl (fun e=>hi.2 e.symm)⟩;refine⟨h1.setTail (fun h=>h.1 rfl),?_⟩;rw[P HF.q];refine⟨rfl,r a' (es.length+1) c',xH.q.same (A:=fun i=>i≠R) ((U _).setTail (fun h=>h rfl)) (fun g hg e=>by have:=(xH.q.lt g hg).1;omega),HR3.q.aR 4 (N.1 H4.q).1 _⟩
 ·have HF:=f hf
  have hd:decide ((es.length:O)<3000)=false:=decide_eq_false ah;clear hf;go_enter func179,ntmps179;go_wp2_with fail;refine(jO _ _).mono ?_;rintro e w2 ⟨rfl,rfl⟩;rw[I ak];refine⟨rfl,?_⟩;show PL R cs _ es _ w _ _;refine⟨D HB0.q (fun _ _ h=>h),?_⟩;rw[I HF.q]
end Yd
namespace Yd
open List renaming getElem?_drop→c,getElem?_take→j
open Go Go.RowKit Go.Proofs Go.Lib Tryz
open Tryz renaming prog→f,underlying9→m
open Go.Proofs.YtnhnhmeogckgpaaGreatDoor
theorem V9:Rows.laid_unicode_utf8_first=firstData:=au
theorem Sw:(Rows.laid_unicode_utf8_acceptRanges:DataW Unit)=acceptData:=au
theorem u8x:U8Extra f Tryz.lays260_ren:=⟨by kernel_rfl,by kernel_rfl,by kernel_rfl,by kernel_rfl,by kernel_rfl,by kernel_rfl,by kernel_rfl⟩
section
variable {W:World}
theorem Sy {n fuel:Nat} {t:TypeId} {cs:List Value} {ds:List (DataW Unit)} {p:List MemPlace} (ht:Tryz.prog.underlying t=some (.array n 9)) (h:DataW.trod (fun _=>()) f W 0 (fun _=>true) false fuel t cs=some (.agg ds,p))
  (i:Nat) (hi:i<n) {b:Bs} (hd:ds[i]?=some (.lit (.string b))):cs[i]?=some (.string ⟨b.toArray⟩):=by
 obtain⟨f',d,q,h1,h2⟩:=array_elem ht h i hi;rw[hd] at h1;injection h1 with h1;subst h1;rw[show Tryz.prog.cellsOf 9=1 from IC] at h2;obtain⟨s,e1,e2,_⟩:=DataW.trod_string m h2;simp only[Prod.mk.injEq,DataW.lit.injEq,Lit.string.injEq] at e2;have e3:=congrArg (·[0]?) e1;simp only[j,c] at e3;have:s=⟨b.toArray⟩:=by
  obtain⟨⟨l⟩⟩:=s;simp at e2;rw[e2.1]
 rw[←this]
 simpa using e3
theorem Sz {n fuel:Nat} {t:TypeId} {cs:List Value} {ds:List (DataW Unit)} {p:List MemPlace} (ht:Tryz.prog.underlying t=some (.array n 3)) (h:DataW.trod (fun _=>()) f W 0 (fun _=>true) false fuel t cs=some (.agg ds,p))
  (i:Nat) (hi:i<n) {b:Int} (hd:ds[i]?=some (.lit (.int .i64 b))):cs[i]?=some (.int .i64 b):=by
 obtain⟨f',d,q,h1,h2⟩:=array_elem ht h i hi;rw[hd] at h1;injection h1 with h1;subst h1;rw[show Tryz.prog.cellsOf 3=1 from IB] at h2;obtain⟨s,e1,e2,_⟩:=DataW.trod_int underlying3 h2;simp only[Prod.mk.injEq,DataW.lit.injEq,Lit.int.injEq,true_and] at e2;have e3:=congrArg (·[0]?) e1;simp only[j,c] at e3;rw[e2.1]
 simpa using e3
theorem afG:Tryz.prog.cellsOf 21=1:=au
theorem SA:Tryz.prog.cellsOf 116=3:=au
theorem ZI {fuel:Nat} {cs:List Value} {ds:List (DataW Unit)} {p:List MemPlace} (h:DataW.trod (fun _=>()) f W 0 (fun _=>true) false fuel 117 cs=some (.agg ds,p))
  (k:Nat) (hk:k<10) {b:Bs} {n r:Int} (hd:ds[k]?=some (.agg [.lit (.string b),.lit (.int .i64 n),.lit (.int .i32 r)])):
  cs[3*k]?=some (.string ⟨b.toArray⟩)∧cs[3*k+1]?=some (.int .i64 n)∧cs[3*k+2]?=some (.int .i32 r):=by
 obtain⟨f',d,q,h1,h2⟩:=array_elem underlying117 h k hk;rw[hd] at h1;injection h1 with h1;subst h1;rw[SA] at h2;obtain⟨xs,n',_,e,hl,hlen,hf⟩:=DataW.trod_struct underlying116 h2;rw[SA] at hl;obtain⟨cs',hcs⟩:∃cs',cs'=(cs.drop (k*3)).take 3:=⟨_,rfl⟩;rw[←hcs] at hl hf;have g0:cs[3*k]?=cs'[0]?:=by rw[hcs];simp[c,Nat.mul_comm]
 have g1:cs[3*k+1]?=cs'[1]?:=by rw[hcs];simp[c,Nat.mul_comm]
 have g2:cs[3*k+2]?=cs'[2]?:=by rw[hcs];simp[c,Nat.mul_comm]
 rw[g0,g1,g2];clear g0 g1 g2 hcs
 match xs,hlen,cs',hl,e with
 |[y0,y1,y2],_,[c0,c1,c2],_,e=>
  simp only[List.map_cons,List.map_nil,Prod.mk.injEq,DataW.agg.injEq,List.cons.injEq,and_true] at e;have f0:=hf 0 _ rfl;have f1:=hf 1 _ rfl;have f2:=hf 2 _ rfl;simp[IB,IC,afG] at f0 f1 f2;obtain⟨s,e0,q0,_⟩:=DataW.trod_string m f0;obtain⟨a,e1,q1,_⟩:=DataW.trod_int underlying3 f1;obtain⟨a2,e2,q2,_⟩:=DataW.trod_int Tryz.underlying21 f2;rw[q0,q1,q2] at e;simp only[DataW.lit.injEq,Lit.string.injEq,Lit.int.injEq,true_and] at e;have:s=⟨b.toArray⟩:=by
   obtain⟨⟨l⟩⟩:=s;simp at e;rw[e.1.1]
  simp at e0 e1 e2;rw[e0,e1,e2,e.1.2.1,e.1.2.2,this];exact⟨rfl,rfl,rfl⟩
theorem uD {name:String} {d:DataW Unit} {g:Nat} {t:TypeId} (h:VarReads f W name d) (hg:Tryz.prog.globalNamed name=some g) (hy:(Tryz.prog.globals[g]?).map (·.type)=some t):
  ∃cs:Array Value,∃fuel p,DataW.trod (fun _=>()) f W 0 (fun _=>true) false fuel t cs.toList=some (d,p)∧∀i,W.cell? ⟨g,i,none⟩=cs.toList[i]?:=by
 obtain⟨g',t',cs,fuel,p,hg',hy',hv,hd⟩:=h;obtain rfl:=Option.some.inj (hg.symm.trans hg');obtain rfl:=Option.some.inj (hy.symm.trans hy');exact⟨cs,fuel,p,hd,fun i=>by rw[Array.getElem?_toList];exact World.var?_cell hg hv i⟩
end
end Yd
namespace Yd
open Go Go.RowKit Go.Proofs
open Go.IntKind renaming i64→b
open Go.Value renaming int→a,slice→c,bool→i
open Tryz renaming ntmps27→f,func27→g
open _root_ renaming decide_eq_false→d,absurd→j
attribute [local go_sem] Oper.semAt_some
theorem Ic (l l2:aV) (s t:aB) (B B2:Nat) (w:World) (h:fq w B l s) (h2:fq w B2 l2 t) (hn:s.names.length≤1000000) (hv:s.aA.length≤1000000) (hn2:t.names.length≤1000000) (hv2:t.aA.length≤1000000):
  Calls Tryz.prog 27 #[gu l,gu l2] w (aW (i (decide (s=t))) w):=by
 obtain⟨xk,na,nn,nc,xl,va,vn,vc,xf,xb⟩:=l;obtain⟨yk,SB,SC,SF,yl,SG,SH,SI,yf,yb⟩:=l2;obtain⟨sk,xs,sl,vs,sf,sb⟩:=s;obtain⟨tk,ys,tl,us,tf,tb⟩:=t;obtain⟨⟨q1,q2,q3,q4,q5,q6⟩,ho,hw⟩:=h;obtain⟨⟨p1,p2,p3,p4,p5,p6⟩,ho2,hw2⟩:=h2;simp only at q1 q2 q3 q4 q5 q6 p1 p2 p3 p4 p5 p6 ho hw ho2 hw2 hn hv hn2 hv2;subst q1 q2 q3 q4 p1 p2 p3 p4;have HN:=hid (ho.row (hc:=iM) ah);have gX:=hid (ho2.row (hc:=iM) ah);have HV:=hid (hw.row (hc:=yP) ah);have oV:=hid (hw2.row (hc:=yP) ah);obtain⟨out,hO⟩:∃out:Bool,out=decide ((⟨xk,xs,xl,vs,xf,xb⟩:aB)=⟨yk,ys,yl,us,yf,yb⟩):=⟨_,rfl⟩;rw[←hO];have F4:=hid hO;have hle:vn≤1000000:=by omega
 have rG:=hid (⟨q6,p6⟩:_∧_);clear hO q5 q6 p5 p6 ho hw ho2 hw2 hn hv hn2 hv2;have lU:Hid (Bx ((w.alloc (.cells #[a b xk,c na nn nc,a b xl,c va vn vc,i xf,a b xb] 34)).alloc (.cells #[a b yk,c SB SC SF,a b yl,c SG SH SI,i yf,a b yb] 34)) w.heap.size #[a b xk,c na nn nc,a b xl,c va vn vc,i xf,a b xb]∧Bx ((w.alloc (.cells #[a b xk,c na nn nc,a b xl,c va vn vc,i xf,a b xb] 34)).alloc (.cells #[a b yk,c SB SC SF,a b yl,c SG SH SI,i yf,a b yb] 34)) (w.heap.size+1) #[a b yk,c SB SC SF,a b yl,c SG SH SI,i yf,a b yb]):=hid ⟨(Bx.new w _ _).alloc _,Bx.new1 ak⟩;have HB0:=hid (av (av (Below.refl w.heap.size w) (.cells #[a b xk,c na nn nc,a b xl,c va vn vc,i xf,a b xb] 34)) (.cells #[a b yk,c SB SC SF,a b yl,c SG SH SI,i yf,a b yb] 34))
 cases h1:(xk==yk)
 ·skip
  have h1n:(xk !=yk)=true:=by unfold bne;rw[h1];rfl
  have H1:=hid h1;have hout:out=false:=by rw[F4.q];exact d (fun e=>by injection e with q1 q2 q3 q4 q5 q6;exact j (beq_iff_eq.2 q1) (by rw[H1.q];simp))
  rw[hout];clear hout;go_enter g,f;have hcx:=lU.q.1.1;have hlx:=lU.q.1.2.2;have hcy:=lU.q.2.1;have EL:=lU.q.2.2.2;go_wp2_with fail;go_ret;exact⟨rfl,HB0.q⟩
 ·skip
  have h1n:(xk !=yk)=false:=by unfold bne;rw[h1];rfl
  have H1:=hid h1
  cases h2:(xl==yl)
  ·skip
   have h2n:(xl !=yl)=true:=by unfold bne;rw[h2];rfl
   have H2:=hid h2;have hout:out=false:=by rw[F4.q];exact d (fun e=>by injection e with q1 q2 q3 q4 q5 q6;exact j (beq_iff_eq.2 q3) (by rw[H2.q];simp))
   rw[hout];clear hout;go_enter g,f;have hcx:=lU.q.1.1;have hlx:=lU.q.1.2.2;have hcy:=lU.q.2.1;have EL:=lU.q.2.2.2;go_wp2_with fail;go_ret;exact⟨rfl,HB0.q⟩
  ·skip
   have h2n:(xl !=yl)=false:=by unfold bne;rw[h2];rfl
   have H2:=hid h2
   cases h3:(xf==yf)
   ·skip
    have h3n:(xf !=yf)=true:=by unfold bne;rw[h3];rfl
    have H3:=hid h3;have hout:out=false:=by rw[F4.q];exact d (fun e=>by injection e with q1 q2 q3 q4 q5 q6;exact j (beq_iff_eq.2 q5) (by rw[H3.q];simp))
    rw[hout];clear hout;go_enter g,f;have hcx:=lU.q.1.1;have hlx:=lU.q.1.2.2;have hcy:=lU.q.2.1;have EL:=lU.q.2.2.2;go_wp2_with fail;go_ret;exact⟨rfl,HB0.q⟩
   ·skip
    have h3n:(xf !=yf)=false:=by unfold bne;rw[h3];rfl
    have H3:=hid h3
    cases h4:(xb==yb)
    ·skip
     have h4n:(xb !=yb)=true:=by unfold bne;rw[h4];rfl
     have H4:=hid h4;have hout:out=false:=by rw[F4.q];exact d (fun e=>by injection e with q1 q2 q3 q4 q5 q6;exact j (beq_iff_eq.2 q6) (by rw[H4.q];simp))
     rw[hout];clear hout;go_enter g,f;have hcx:=lU.q.1.1;have hlx:=lU.q.1.2.2;have hcy:=lU.q.2.1;have EL:=lU.q.2.2.2;go_wp2_with fail;go_ret;exact⟨rfl,HB0.q⟩
    ·skip
     have h4n:(xb !=yb)=false:=by unfold bne;rw[h4];rfl
     have H4:=hid h4;have J5:=hid (fun W (hb:Below w.heap.size w W)=>OA na SB nn nc SC SF xs ys W (HN.q.below hb rfl) (gX.q.below hb rfl));have E8:=hid (fun W (hb:Below w.heap.size w W)=>ahE va SG vn vc SH SI vs us W (HV.q.below hb rfl) (oV.q.below hb rfl));go_enter g,f;have hcx:=lU.q.1.1;have hlx:=lU.q.1.2.2;have hcy:=lU.q.2.1;have EL:=lU.q.2.2.2;go_wp2_with fail;clear hcx hlx hcy EL;refine(J5.q _ HB0.q).mono ?_;rintro e w1 ⟨rfl,hb⟩;have cK:=hid (Oc lU.q hb);have HB1:=hid (HB0.q.bq hb);clear hb;have hcx:=cK.q.1.1;have hlx:=cK.q.1.2.2;have hcy:=cK.q.2.1;have EL:=cK.q.2.2.2
     cases h5:decide (xs=ys)
     ·have H5:=hid h5
      have hout:out=false:=by rw[F4.q];exact d (fun e=>by injection e with q1 q2 q3 q4 q5 q6;exact j q2 (of_decide_eq_false H5.q))
      rw[hout];clear h5;go_wp2_with fail;go_ret;rw[hout];exact⟨rfl,HB1.q⟩
     ·have H5:=hid h5
      clear h5;go_wp2_with fail;refine(E8.q _ HB1.q).mono ?_;rintro e w2 ⟨rfl,hb⟩;have HB2:=hid (HB1.q.bq hb);clear hb hcx hlx hcy EL;have hout:decide (vs=us)=out:=by rw[F4.q,eq_of_beq H1.q,eq_of_beq H2.q,eq_of_beq H3.q,eq_of_beq H4.q,of_decide_eq_true H5.q];exact decide_eq_decide.2 ⟨fun e=>by rw[e],fun e=>congrArg aB.aA e⟩
      rw[hout];clear hout;go_wp2_with fail;go_ret;exact⟨rfl,HB2.q⟩
end Yd
namespace Yd
open Bool renaming true→D,false→J
open List renaming setIfInBounds_toArray→l,set_cons_zero→r,set_cons_succ→u,mem_cons_of_mem→Q,mem_cons_self→S,map_cons→T
open Option renaming none→z,some→P
open Go Go.RowKit Go.Proofs Tryz
open Act renaming put→M
open Below renaming refl→I
open Go.Obj renaming cells→H
open Go.Value renaming slice→G,bool→N,pointer→O
open Tryz renaming prog→C
open Yd renaming hid→B
open _root_ renaming List→E
theorem Ac {α β:Type} {p:α→α→Bool} {f g:α→β}:∀{xs ys:E α},(∀x∈xs,∀y∈ys,(p x y=D↔f x=g y))→(lN p xs ys=D↔xs.map f=ys.map g)
 |[],[],_=>by simp[lN]
 |[],_::_,_=>by simp[lN]
 |_::_,[],_=>by simp[lN]
 |x::xs,y::ys,h=>by
  have ih:=Ac (xs:=xs) (ys:=ys) (fun a ha b hb=>h a (Q _ ha) b (Q _ hb));have h0:=h x S y S;have e:lN p (x::xs) (y::ys)=(p x y && lN p xs ys):=by
   unfold lN;simp only[List.length_cons,List.zip_cons_cons,List.all_cons,Nat.add_right_cancel_iff]
   cases p x y <;> simp
  rw[e,Bool.and_eq_true,ih,h0,T,T,List.cons.injEq]
def KX (dn ku:aH→E Int) (p q:aH):Bool:=decide (p.obj=q.obj) && decide (dn p=ku q)
def KY (mn oD:aI→E Int) (p q:aI):Bool:=decide (p.pred=q.pred) && (decide (p.obj=q.obj) && (decide (p.first=q.first) && decide (mn p=oD q)))
theorem adC {dn ku:aH→E Int} {p q:aH}:KX dn ku p q=D↔(p.base,dn p)=(q.base,ku q):=by
 obtain⟨a,b,c,d⟩:=p;obtain⟨a',b',c',d'⟩:=q;simp[KX,aH.base]
theorem adD {dn ku:aI→E Int} {p q:aI}:KY dn ku p q=D↔(p.base,dn p)=(q.base,ku q):=by
 obtain⟨a,b,f,c,d,e⟩:=p;obtain⟨a',b',f',c',d',e'⟩:=q;simp[KY,aI.base,and_assoc]
theorem adE {dn ku:EvC→E Sn} {p q:EvC}:(dK p q && decide (dn p=ku q))=D↔(p.base,dn p)=(q.base,ku q):=by
 obtain⟨a,b,c,d,e,f,g,h,i,j⟩:=p;obtain⟨a',b',c',d',e',f',g',h',i',j'⟩:=q;simp[dK,EvC.base,and_assoc]
theorem ZJ (p q:aH) (xs ys:E Int) (w:World) (hx:Row w 1 aQ p.sa p.sn p.sc xs) (hy:Row w 1 aQ q.sa q.sn q.sc ys):Calls C 50 #[vS p,vS q] w (aW (N (decide (p.obj=q.obj) && decide (xs=ys))) w):=by
 obtain⟨R,hR0⟩:∃R:Bool,R=(decide (p.obj=q.obj) && decide (xs=ys)):=⟨_,rfl⟩;rw[←hR0];obtain⟨a,sa,sn,sc⟩:=p;obtain⟨a',sa',G7,sc'⟩:=q;have HB:=B (((I w.heap.size w).alloc (Nat.le_refl _) (H #[.int .i64 a,G sa sn sc] 79)).alloc ak (H #[.int .i64 a',G sa' G7 sc'] 79));have HC:=B (Iq sa sa' sn sc G7 sc' xs ys _ (hx.below HB.q rfl) (hy.below HB.q rfl));clear hx hy;by_cases h:a=a'
 ·subst h
  have hR:R=decide (xs=ys):=by rw[hR0];simp
  subst hR;clear hR0;go_enter func50,ntmps50
  go_wp2_with (go_at_call 14;refine HC.q.mono ?_;rintro e w1 ⟨rfl,hb1⟩)
  go_ret;exact⟨rfl,HB.q.trans (hb1.mono (by simp;omega))⟩
 ·have hR:R=J:=by rw[hR0];simp[h]
  subst hR;have hne:(a==a')=J:=beq_eq_false_iff_ne.2 h;clear h hR0;go_enter func50,ntmps50;go_wp2_with fail;go_ret;exact⟨rfl,HB.q⟩
theorem ZK (p q:aI) (xs ys:E Int) (w:World) (hx:Row w 1 aQ p.sa p.sn p.sc xs) (hy:Row w 1 aQ q.sa q.sn q.sc ys):
  Calls C 52 #[vT p,vT q] w (aW (N (decide (p.pred=q.pred) && (decide (p.obj=q.obj) && (decide (p.first=q.first) && decide (xs=ys))))) w):=by
 obtain⟨R,hR0⟩:∃R:Bool,R=(decide (p.pred=q.pred) && (decide (p.obj=q.obj) && (decide (p.first=q.first) && decide (xs=ys)))):=⟨_,rfl⟩;rw[←hR0];obtain⟨a,b,f,sa,sn,sc⟩:=p;obtain⟨a',b',f',sa',G7,sc'⟩:=q;have HB:=B (((I w.heap.size w).alloc (Nat.le_refl _) (H #[.int .i64 a,.int .i64 b,N f,G sa sn sc] 81)).alloc ak (H #[.int .i64 a',.int .i64 b',N f',G sa' G7 sc'] 81));have HC:=B (Iq sa sa' sn sc G7 sc' xs ys _ (hx.below HB.q rfl) (hy.below HB.q rfl));clear hx hy;rcases(by by_cases h1:a=a' <;> by_cases h2:b=b' <;> by_cases h3:f=f' <;> simp[h1,h2,h3]:(a=a'∧b=b'∧f=f')∨(a==a')=J∨((a==a')=D∧(b==b')=J)∨((a==a')=D∧(b==b')=D∧(f==f')=J)) with⟨rfl,rfl,rfl⟩|hq|⟨hq,hq2⟩|⟨hq,hq2,hq3⟩
 ·have hR:R=decide (xs=ys):=by rw[hR0];simp
  subst hR;clear hR0;go_enter func52,ntmps52
  go_wp2_with (go_at_call 14;refine HC.q.mono ?_;rintro e w1 ⟨rfl,hb1⟩)
  go_ret;exact⟨rfl,HB.q.trans (hb1.mono (by simp;omega))⟩
 all_goals
  have hR:R=J:=by rw[hR0];simp_all
  subst hR;clear hR0;go_enter func52,ntmps52;go_wp2_with fail;go_ret;exact⟨rfl,HB.q⟩
theorem PN:∀args w,(callFunc 50 args).run C w= .ok (.enter 50 args) w:=enters_of func50 au rfl
theorem PO:∀args w,(callFunc 52 args).run C w= .ok (.enter 52 args) w:=enters_of func52 au rfl
theorem PS:∀args w,(callFunc 55 args).run C w= .ok (.enter 55 args) w:=enters_of func55 au rfl
def l5 (h:HC):Array Value:=#[h.t.v,h.s.v,h.o.v,h.p.v]
theorem E9 (h:HC) {k:Nat} (hk:k<4):(l5 h)[k]?=P (h.nm k).v:=by
 rcases(by omega:k=0∨k=1∨k=2∨k=3) with rfl|rfl|rfl|rfl <;> rfl
def wZ:Array Value:=#[G z 0 0,G z 0 0,G z 0 0,G z 0 0]
theorem Bx.Yp {X:World} {b:Nat} (h:HC) (hx:Bx X b wZ):Bx ((((X.setCell ⟨b,0,z⟩ h.t.v).setCell ⟨b,1,z⟩ h.s.v).setCell ⟨b,2,z⟩ h.o.v).setCell ⟨b,3,z⟩ h.p.v) b (l5 h):=
 (((hx.aR 0 (by simp[wZ]) _).aR 1 (by simp[wZ]) _).aR 2 (by simp[wZ]) _).aR 3 (by simp[wZ]) _
def Ej (nl nl':Nat→E Bs) (es es':E EvC) (ds ds':E aH) (ms ms':E aI) (qs Nz:E Wa) (scan jH:EvC→E Sn) (dn ku:aH→E Int) (mn oD:aI→E Int):Prop:=
 (∀k,k<4→nl k=nl' k)∧ds.map (fun x=>(x.base,dn x))=ds'.map (fun x=>(x.base,ku x))∧ms.map (fun x=>(x.base,mn x))=ms'.map (fun x=>(x.base,oD x))∧qs=Nz∧es.map (fun x=>(x.base,scan x))=es'.map (fun x=>(x.base,jH x))
theorem IX {h h':HC} {es es':E EvC} {ds ds':E aH} {ms ms':E aI} {qs Nz:E Wa} {scan jH:EvC→E Sn} {dn ku:aH→E Int} {mn oD:aI→E Int} {nl nl':Nat→E Bs} (w:World)
  (d:Deep w h es ds ms qs scan dn mn) (d':Deep w h' es' ds' ms' Nz jH ku oD) (hn:∀i,i<4→Row w 1 encStr (h.nm i).a (h.nm i).n (h.nm i).c (nl i)) (hn':∀i,i<4→Row w 1 encStr (h'.nm i).a (h'.nm i).n (h'.nm i).c (nl' i)):
  Calls C 24 #[eF h,eF h'] w (fun e W=>∃b:Bool,e= .returned (N b)∧(b=D↔Ej nl nl' es es' ds ds' ms ms' qs Nz scan jH dn ku mn oD)∧Below w.heap.size w W):=by
 have HEQ:Hid (∀k,k<4→∀W,Below w.heap.size w W→Calls C 33 #[(h.nm k).v,(h'.nm k).v] W (aW (N (decide (nl k=nl' k))) W)):=
  B (fun k hk W hb=>OA _ _ _ _ _ _ _ _ W ((hn k hk).below hb rfl) ((hn' k hk).below hb rfl))
 obtain⟨bo,hbo⟩:∃b,b=lN (KX dn ku) ds ds':=⟨_,rfl⟩;obtain⟨bm,hbm⟩:∃b,b=lN (KY mn oD) ms ms':=⟨_,rfl⟩;obtain⟨be,hbe⟩:∃b,b=lN (fun x y=>dK x y && decide (scan x=jH y)) es es':=⟨_,rfl⟩;obtain⟨bw,hbw⟩:∃b,b=decide (qs=Nz):=⟨_,rfl⟩;have HO:Hid (∀W,Below w.heap.size w W→Calls C 49 #[h.d.v,h'.d.v,.func (.func 50) #[] #[]] W (aW (N bo) W)):=B (fun W hb=>by
  rw[hbo];exact afC _ _ _ _ _ _ _ _ _ _ _ W (d.2.1.below hb rfl) (d'.2.1.below hb rfl) PN (fun x hx y hy V hV=>ZJ x y _ _ V ((d.2.2.2.2.2.1 x hx).below (hb.trans (hV.mono hb.size)) rfl) ((d'.2.2.2.2.2.1 y hy).below (hb.trans (hV.mono hb.size)) rfl)))
 have HM:Hid (∀W,Below w.heap.size w W→Calls C 51 #[h.m.v,h'.m.v,.func (.func 52) #[] #[]] W (aW (N bm) W)):=B (fun W hb=>by
  rw[hbm];exact afD _ _ _ _ _ _ _ _ _ _ _ W (d.2.2.1.below hb rfl) (d'.2.2.1.below hb rfl) PO (fun x hx y hy V hV=>ZK x y _ _ V ((d.2.2.2.2.2.2 x hx).below (hb.trans (hV.mono hb.size)) rfl) ((d'.2.2.2.2.2.2 y hy).below (hb.trans (hV.mono hb.size)) rfl)))
 have HE:Hid (∀W,Below w.heap.size w W→Calls C 54 #[h.e.v,h'.e.v,.func (.func 55) #[] #[]] W (aW (N be) W)):=B (fun W hb=>by
  rw[hbe];exact afE _ _ _ _ _ _ _ _ _ _ _ W (d.1.below hb rfl) (d'.1.below hb rfl) PS (fun x hx y hy V hV=>Mk x y _ _ V ((d.2.2.2.2.1 x hx).below (hb.trans (hV.mono hb.size)) rfl) ((d'.2.2.2.2.1 y hy).below (hb.trans (hV.mono hb.size)) rfl)))
 have HW:Hid (∀W,Below w.heap.size w W→Calls C 53 #[h.w.v,h'.w.v] W (aW (N bw) W)):=B (fun W hb=>by
  rw[hbw];exact ahF _ _ _ _ _ _ _ _ W (d.2.2.2.1.below hb rfl) (d'.2.2.2.1.below hb rfl))
 have PU:Hid (((∀k,k<4→nl k=nl' k)∧bo=D∧bm=D∧bw=D∧be=D)↔Ej nl nl' es es' ds ds' ms ms' qs Nz scan jH dn ku mn oD):=B (by
  unfold Ej;rw[hbo,hbm,hbw,hbe,Ac (fun _ _ _ _=>adC),Ac (fun _ _ _ _=>adD),Ac (fun _ _ _ _=>adE),decide_eq_true_eq])
 clear hbo hbm hbe hbw d d' hn hn';have HB:=B (((I w.heap.size w).alloc (Nat.le_refl _) (H (aC h) 41)).alloc ak (H (aC h') 41));have HX:=B ((Bx.new w (aC h) 41).alloc (H (aC h') 41));have HX':=B (show Bx ((w.alloc (H (aC h) 41)).alloc (H (aC h') 41)) (w.heap.size+1) (aC h') from(by have:=Bx.new (w.alloc (H (aC h) 41)) (aC h') 41;rwa[World.size_alloc] at this));go_enter Tryz.func24,Tryz.ntmps24;go_wp2_with fail;have hx:=HX.q;have hx':=HX'.q;refine FZ [0,2] (fun W'=>Bx W' w.heap.size (aC h)∧Bx W' (w.heap.size+1) (aC h')) (fun _ _=>False) au au (fun _ _ _ _ h=>h.elim) ⟨hx.drew,hx'.drew⟩ ?_;clear hx hx';refine KU rfl rfl ⟨eF h,fun W' hR=>?_,?_⟩
 ·have hc:=hR.1.1;go_simp
 refine KU rfl rfl ⟨eF h',fun W' hR=>?_,?_⟩
 ·have hc:=hR.2.1;go_simp
 simp only[M,l,r,u];refine Sk (F:=fun A L a' W=>∃x5 x6 Fa Fb b c,a'=qR A [(5,x5),(6,x6),(11,Fa),(13,Fb)]∧(L 1=D→Fa= .agg (l5 h))∧(L 3=D→Fb= .agg (l5 h'))∧(L 4=D→x5= O (P ⟨b,0,z⟩)∧w.heap.size+2≤b∧Bx W b (bif L 6 then l5 h else wZ))∧(L 5=D→x6= O (P ⟨c,0,z⟩)∧w.heap.size+2≤c∧Bx W c (bif L 7 then l5 h' else wZ))∧(L 4=D→L 5=D→b≠c)∧(L 0=D∧L 2=D)∧(L 6=D→L 4=D∧L 5=D)∧(L 7=D→L 6=D)∧Bx W w.heap.size (aC h)∧Bx W (w.heap.size+1) (aC h')∧Below w.heap.size w W) ?_ ?_ ?_ ?_
 ·rintro L a' W ⟨x5,x6,Fa,Fb,b,c,_,_,_,_,_,_,_,_,_,h1,h2,_⟩
  exact⟨h1,h2⟩
 ·exact⟨undef,undef,undef,undef,0,0,rfl,(fun h=>by cases h),(fun h=>by cases h),(fun h=>by cases h),(fun h=>by cases h),(fun h=>by cases h),⟨rfl,rfl⟩,(fun h=>by cases h),(fun h=>by cases h),HX.q.drew,HX'.q.drew,HB.q.drew⟩
 ·rintro L a' W hL ⟨x5,x6,Fa,Fb,b,c,rfl,f1,f3,f4,f5,fne,_,_,_,hx,hx',hb⟩
  obtain⟨rfl,hlb,hxb⟩:=f4 (hL 4);obtain⟨rfl,hlc,hxc⟩:=f5 (hL 5);rw[hL 6] at hxb;rw[hL 7] at hxc;obtain rfl:=f1 (hL 1);obtain rfl:=f3 (hL 3);refine aiz ?_;simp only[qR,M,l,r,u];have HS:=B (⟨hlb,hxb,hlc,hxc,hx,hx',hb⟩:_∧_∧_∧_∧_∧_∧_);clear f1 f3 f4 f5 fne hL hlb hxb hlc hxc hx hx' hb HB HX HX';go_wp2_with fail
  go_loopw [14] (fun i X=>∃k:Nat,k≤4∧i= .int .i64 k∧(∀j,j<k→nl j=nl' j)∧Below W.heap.size W X) (fun i _=>4 - (RowKit.intOf i).toNat)
  case atStart=>exact⟨0,Nat.zero_le _,rfl,fun j hj=>absurd hj ah,I _ _⟩
  case round=>
   obtain⟨k,hk,rfl,hsame,hb⟩:=hrel;by_cases hlt:k<4
   ·have hb2:=HS.q.2.2.2.2.2.2.trans (hb.mono HS.q.2.2.2.2.2.2.size)
    have hc1:wr.cell? ⟨b,k,z⟩=P (h.nm k).v:=(((HS.q.2.1).keep hb).1 k).trans (E9 h hlt);have hc2:wr.cell? ⟨c,k,z⟩=P (h'.nm k).v:=(((HS.q.2.2.2.1).keep hb).1 k).trans (E9 h' hlt);have cu:=B (⟨hc1,hc2⟩:_∧_);have HK:=B hlt;have Fe:=B hsame;have yV:=B hb;have HB2:=B hb2
    cases hq:decide (nl k=nl' k)
    all_goals
     have HC:=B (fun W hW=>(by have:=HEQ.q k HK.q W hW;rw[hq] at this;exact this:Calls C 33 #[(h.nm k).v,(h'.nm k).v] W (aW _ W)));have HQ:=B hq;clear hq hsame hb2;go_wp2_with fail;refine aK 99 [(0,0),(1,0),(2,0),(3,0),(4,0),(5,0),(6,2),(7,0)] (fun _=>True) (fun W'=>W'.cell? ⟨b,(k:Nat),z⟩=P (h.nm k).v∧W'.cell? ⟨c,(k:Nat),z⟩=P (h'.nm k).v) au au (trivial) (cu.q) ?_;refine qC ?_;refine aF rfl rfl (fun K hK=>?_);go_simp;refine(HC.q _ HB2.q.drew).mono ?_;rintro e w1 ⟨rfl,hb1⟩;go_simp;refine hK _ _ ⟨trivial,aM hb1 rfl cu.q.1,aM hb1 rfl cu.q.2⟩ ?_;have HB3:=B hb1;clear hK K hb1;refine qC ?_;refine bB ?_;go_wp2_with fail
    ·go_ret
     exact⟨J,rfl,⟨fun h=>(by cases h),fun hs=>absurd (hs.1 k HK.q) (of_decide_eq_false HQ.q)⟩,HB2.q.drew.trans (HB3.q.mono HB2.q.size)⟩
    ·go_roundw
     case rel=>exact⟨k+1,by omega,by go_num,fun j hj=>(by
      rcases Nat.lt_or_ge j k with h|h
      ·exact Fe.q j h
      ·rw[show j=k by omega];exact of_decide_eq_true HQ.q),yV.q.drew.trans (HB3.q.mono yV.q.size)⟩
     case measure=>simp[RowKit.intOf];omega
   ·have hk4:k=4:=by omega
    subst hk4;have o9:=B hsame;have bK:=B (HS.q.2.2.2.2.2.2.trans (hb.mono HS.q.2.2.2.2.2.2.size));have cK:=B (HS.q.2.2.2.2.1.keep hb);have cO:=B (HS.q.2.2.2.2.2.1.keep hb);have hx1:=cK.q.1;have hx2:=cO.q.1;clear hlt hk hsame hb;go_wp2_with fail;refine(HO.q _ bK.q).mono ?_;rintro e w1 ⟨rfl,hb1⟩;have HB1:=B (bK.q.bq hb1);have rY:=B (cK.q.keep hb1);have BO:=B (cO.q.keep hb1);clear hx1 hx2 hb1;have hy1:=rY.q.1;have hy2:=BO.q.1;go_wp2_with fail;refine(HM.q _ HB1.q).mono ?_;rintro e w2 ⟨rfl,hb2⟩;have HB2:=B (HB1.q.bq hb2);have HZ1:=B (rY.q.keep hb2);have HZ2:=B (BO.q.keep hb2);clear hy1 hy2 hb2;have hz1:=HZ1.q.1;have hz2:=HZ2.q.1
    cases bo
    ·go_wp2_with fail
     go_ret;exact⟨J,rfl,(by rw[←PU.q];simp),HB2.q⟩
    cases bm
    ·go_wp2_with fail
     go_ret;exact⟨J,rfl,(by rw[←PU.q];simp),HB2.q⟩
    go_wp2_with fail;refine(HW.q _ HB2.q).mono ?_;rintro e w3 ⟨rfl,hb3⟩;have HB3:=B (HB2.q.bq hb3);have HV1:=B (HZ1.q.keep hb3);have oV:=B (HZ2.q.keep hb3);clear hz1 hz2 hb3;have hv1:=HV1.q.1;have hv2:=oV.q.1
    cases bw
    ·go_wp2_with fail
     go_ret;exact⟨J,rfl,(by rw[←PU.q];simp),HB3.q⟩
    go_wp2_with fail;refine(HE.q _ HB3.q).mono ?_;rintro e w4 ⟨rfl,hb4⟩;go_wp2_with fail;go_ret;exact⟨be,rfl,(by rw[←PU.q];simp only[true_and];exact⟨fun q=>⟨o9.q,q⟩,fun q=>q.2⟩),HB3.q.bq hb4⟩
 ·rintro i L a' W hi hL hd ⟨x5,x6,Fa,Fb,b,c,rfl,f1,f3,f4,f5,fne,f0,f6,f7,hx,hx',hb⟩
  have HF:=B (⟨f1,f3,f4,f5,fne,f0,f6,f7,hx,hx',hb,hL,hd⟩:_∧_∧_∧_∧_∧_∧_∧_∧_∧_∧_∧_∧_);clear f1 f3 f4 f5 fne f0 f6 f7 hx hx' hb hL hd;rcases(by have:i<8:=hi;omega:i=0∨i=1∨i=2∨i=3∨i=4∨i=5∨i=6∨i=7) with rfl|rfl|rfl|rfl|rfl|rfl|rfl|rfl
  ·obtain⟨_,_,_,_,_,f0,_,_,_,_,_,hL,_⟩:=HF.q
   cases hL.symm.trans f0.1
  rotate_left
  ·obtain⟨_,_,_,_,_,f0,_,_,_,_,_,hL,_⟩:=HF.q
   cases hL.symm.trans f0.2
  rotate_left 5
  ·refine uz rfl rfl (fun K hK=>?_)
   simp only[qR,M,l,r,u];go_simp;refine(jC h W).mono ?_;rintro e w1 ⟨rfl,hb1⟩;go_simp;obtain⟨f1,f3,f4,f5,fne,f0,f6,f7,hx,hx',hb,hL,hd⟩:=HF.q;refine hK _ _ ⟨x5,x6,.agg (l5 h),Fb,b,c,rfl,fun _=>rfl,f3,(fun q=>⟨(f4 q).1,(f4 q).2.1,(f4 q).2.2.keep hb1⟩),(fun q=>⟨(f5 q).1,(f5 q).2.1,(f5 q).2.2.keep hb1⟩),fne,f0,f6,f7,hx.keep hb1,hx'.keep hb1,hb.trans (hb1.mono hb.size)⟩
  ·obtain⟨f1,f3,f4,f5,fne,f0,f6,f7,hx,hx',hb,hL,hd⟩:=HF.q
   refine uz rfl rfl (fun K hK=>?_);simp only[qR,M,l,r,u];go_simp;refine(jC h' W).mono ?_;rintro e w1 ⟨rfl,hb1⟩;go_simp;refine hK _ _ ⟨x5,x6,Fa,.agg (l5 h'),b,c,rfl,f1,fun _=>rfl,(fun q=>⟨(f4 q).1,(f4 q).2.1,(f4 q).2.2.keep hb1⟩),(fun q=>⟨(f5 q).1,(f5 q).2.1,(f5 q).2.2.keep hb1⟩),fne,f0,f6,f7,hx.keep hb1,hx'.keep hb1,hb.trans (hb1.mono hb.size)⟩
  ·refine uz rfl rfl (fun K hK=>?_)
   simp only[qR,M,l,r,u];go_simp;obtain⟨f1,f3,f4,f5,fne,f0,f6,f7,hx,hx',hb,hL,hd⟩:=HF.q;have h6:L 6=J:=by
    cases q:L 6 with
    |false=>rfl
    |true=>cases hL.symm.trans (f6 q).1
   have hb1:=av (I W.heap.size W) (H wZ 101);refine hK _ _ ⟨O (P ⟨W.heap.size,0,z⟩),x6,Fa,Fb,W.heap.size,c,rfl,f1,f3,(fun _=>⟨rfl,by have:=hx'.2.2;omega,by show Bx _ _ (bif L 6 then _ else _);rw[h6];exact Bx.new W wZ _⟩),(fun q=>⟨(f5 q).1,(f5 q).2.1,(f5 q).2.2.keep hb1⟩),(fun _ q e=>by have:=(f5 q).2.2.2.2;omega),f0,(fun q=>⟨rfl,(f6 q).2⟩),f7,hx.keep hb1,hx'.keep hb1,hb.trans (hb1.mono hb.size)⟩
  ·refine uz rfl rfl (fun K hK=>?_)
   simp only[qR,M,l,r,u];go_simp;obtain⟨f1,f3,f4,f5,fne,f0,f6,f7,hx,hx',hb,hL,hd⟩:=HF.q;have h7:L 7=J:=by
    cases q:L 7 with
    |false=>rfl
    |true=>cases hL.symm.trans (f6 (f7 q)).2
   have hb1:=av (I W.heap.size W) (H wZ 101);refine hK _ _ ⟨x5,O (P ⟨W.heap.size,0,z⟩),Fa,Fb,b,W.heap.size,rfl,f1,f3,(fun q=>⟨(f4 q).1,(f4 q).2.1,(f4 q).2.2.keep hb1⟩),(fun _=>⟨rfl,by have:=hx'.2.2;omega,by show Bx _ _ (bif L 7 then _ else _);rw[h7];exact Bx.new W wZ _⟩),(fun q _ e=>by have:=(f4 q).2.2.2.2;omega),f0,(fun q=>⟨(f6 q).1,rfl⟩),f7,hx.keep hb1,hx'.keep hb1,hb.trans (hb1.mono hb.size)⟩
  ·obtain⟨f1,f3,f4,f5,fne,f0,f6,f7,hx,hx',hb,hL,hd⟩:=HF.q
   obtain rfl:=f1 (hd 1 au);obtain⟨rfl,hlb,hxb⟩:=f4 (hd 4 au);rw[hL] at hxb;have HXB:=B hxb;have hc:∀i,W.cell? ⟨b,i,z⟩=(#[G z 0 0,G z 0 0,G z 0 0,G z 0 0]:Array Value)[i]?:=hxb.1;have hf:=hxb.2.1;have hz:=hxb.2.2;clear hxb;refine uz rfl rfl (fun K hK=>?_);simp only[qR,M,l,r,u,l5];go_simp;have hs:Same (fun i=>i≠b) W ((((W.setCell ⟨b,0,z⟩ h.t.v).setCell ⟨b,1,z⟩ h.s.v).setCell ⟨b,2,z⟩ h.o.v).setCell ⟨b,3,z⟩ h.p.v):=((((Same.refl' W).setTail (fun h=>h rfl)).setTail (fun h=>h rfl)).setTail (fun h=>h rfl)).setTail (fun h=>h rfl);refine hK _ _ ⟨O (P ⟨b,0,z⟩),x6,.agg (l5 h),Fb,b,c,rfl,fun _=>rfl,f3,(fun q=>⟨rfl,hlb,Bx.Yp h HXB.q⟩),(fun q=>⟨(f5 q).1,(f5 q).2.1,hs.bx (f5 q).2.2 (fun e=>fne (hd 4 au) q e.symm)⟩),fne,f0,(fun _=>⟨hd 4 au,hd 5 au⟩),(fun q=>rfl),hs.bx hx ah,hs.bx hx' ah,hs.below hb (fun i hi=>by omega) hb.size⟩
  ·obtain⟨f1,f3,f4,f5,fne,f0,f6,f7,hx,hx',hb,hL,hd⟩:=HF.q
   obtain rfl:=f3 (hd 3 au);obtain⟨rfl,hlc,hxc⟩:=f5 (hd 5 au);rw[hL] at hxc;have HXC:=B hxc;have hc:∀i,W.cell? ⟨c,i,z⟩=(#[G z 0 0,G z 0 0,G z 0 0,G z 0 0]:Array Value)[i]?:=hxc.1;have hf:=hxc.2.1;have hz:=hxc.2.2;clear hxc;refine uz rfl rfl (fun K hK=>?_);simp only[qR,M,l,r,u,l5];go_simp;have hs:Same (fun i=>i≠c) W ((((W.setCell ⟨c,0,z⟩ h'.t.v).setCell ⟨c,1,z⟩ h'.s.v).setCell ⟨c,2,z⟩ h'.o.v).setCell ⟨c,3,z⟩ h'.p.v):=((((Same.refl' W).setTail (fun h=>h rfl)).setTail (fun h=>h rfl)).setTail (fun h=>h rfl)).setTail (fun h=>h rfl);refine hK _ _ ⟨x5,O (P ⟨c,0,z⟩),Fa,.agg (l5 h'),b,c,rfl,f1,fun _=>rfl,(fun q=>⟨(f4 q).1,(f4 q).2.1,hs.bx (f4 q).2.2 (fun e=>fne q (hd 5 au) e)⟩),(fun q=>⟨rfl,hlc,Bx.Yp h' HXC.q⟩),fne,f0,f6,(fun _=>hd 6 au),hs.bx hx ah,hs.bx hx' ah,hs.below hb (fun i hi=>by omega) hb.size⟩
end Yd
