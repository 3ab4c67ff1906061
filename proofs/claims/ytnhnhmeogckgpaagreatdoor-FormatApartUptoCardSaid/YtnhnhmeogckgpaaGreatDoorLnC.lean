import Derived.Test.YtnhnhmeogckgpaaGreatDoorLxN
import Derived.Recover
import Derived.Defers
set_option linter.all false
set_option maxRecDepth 200000
set_option maxHeartbeats 8000000
namespace Yd
open Bool renaming false→d,true→y,or_eq_true→J
open List renaming getElem?_eq_getElem→D,length_drop→G
open Nat renaming le_refl→c
open Option renaming none→f,some→B
open Go Go.RowKit Go.Proofs Tryz
open Below renaming refl→i
open Bx renaming new→z
open Go renaming bodyPost_ret→x,World→I
open Go.IntKind renaming i64→n
open Go.IntWalk renaming i64_in→C
open Go.Obj renaming cells→g
open Go.Value renaming int→j,slice→E,pointer→H,bool→L,string→M
open Tryz renaming underlying9→A,prog→F
open Yd renaming hid→o
open _root_ renaming Int→u
def qZ (l:Bs):Nat × u:=if(jS l).head?=f then(l.length,0) else if(jS l).head?=B 10 then(l.length - (jS l).length+1,0) else(l.length - (jS l).length,120)
theorem SC {l:Bs} (h:gY l=y):bL l=l:=by
 cases l with
 |nil=>rfl
 |cons b t=>
  rw[xS] at h;have:oD b=d:=by
   rw[←Cw];unfold tY;simp only[J,beq_iff_eq] at h;rw[beq_eq_false_iff_ne.2 ah,beq_eq_false_iff_ne.2 ah];rfl
  unfold bL;rw[List.dropWhile_cons,this];rfl
theorem Zb {l:Bs} (h:gY l=y):l.drop (mU l)=jS l∧mU l=l.length - (jS l).length∧(jS l).length≤l.length∧tN l=((jS l).head?==f||(jS l).head?==B 10):=by
 have e:=SC h;have e0:(l.takeWhile oD).length=0:=by have:=N8 l;rw[e] at this;omega
 have h1:l.drop (mU l)=jS l:=by
  unfold mU jS;rw[e0,e,Nat.zero_add]
  split <;> simp
 have hle:mU l≤l.length:=by
  unfold mU;rw[e0,e]
  split
  ·have:=qM EG _ l (c _);omega
  ·omega
 refine⟨h1,by rw[←h1,G];omega,by rw[←h1,G];omega,?_⟩;unfold tN;rw[h1,e];by_cases Lb:l.head?=B 35
 ·rw[Lb];rfl
 ·have hr:jS l=l:=by unfold jS;rw[if_neg Lb]
  rw[hr];have he:(l.head?==f||l.head?==B 10)=y:=by
   unfold gY at h;simp only[J,beq_iff_eq] at h ⊢;rcases h with(h|h)|h
   ·exact .inl h
   ·exact .inr h
   ·exact absurd h Lb
  rw[he];simp
def ab1 (nx:Nat) (er:u) (w:I) (e:Ending) (w':I):Prop:=∃k a t,I4 k a t nx er w e w'
theorem ab2 (s:Bs) (p:Nat) (l:Bs) (hd:s.drop p=l) (hp:p≤s.length) (hlim:s.length≤1000000) (he:gY l=y) (w:I) (hT:Lib.Utf8Tabs 6 7 w):
  Calls F 163 #[M ⟨s.toArray⟩,j n p] w (ab1 (p+(qZ l).1) (qZ l).2 w):=by
 have hll:p+l.length=s.length:=by rw[←hd,G];omega
 obtain⟨k1,k2,k3,k4⟩:=Zb he;obtain⟨q,hq⟩:∃q,q=p+mU l:=⟨_,rfl⟩;obtain⟨r,hr⟩:∃r,r=jS l:=⟨_,rfl⟩;have BA:s.drop q=r:=by rw[hq,hr,←k1,←List.drop_drop,hd]
 have DY:q≤s.length:=by omega
 have N9:qZ l=if r.head?=f then(l.length,0) else if r.head?=B 10 then(l.length - r.length+1,0) else(l.length - r.length,120):=by unfold qZ;rw[hr]
 rw[←hr] at k1 k2 k3 k4;have dw:Hid (tN l=(r.head?==f||r.head?==B 10)):=o k4;have HS:=fun W (hb:Below w.heap.size w W)=>o (qc s p l hd hp hlim W (Utf8Tabs_below hT hb))
 rw[←hq] at HS;have hsl:=fun W=>lK A s q DY W
 rw[BA] at hsl;have hz:=fO s;have hqp:p≤q:=by omega
 have HQ:Hid (q+r.length=s.length∧p+l.length=s.length∧q=p+(l.length - r.length)):=o ah;clear k1 k2 k3 k4 hd he hT hr hll hq
 cases hrr:r with
 |nil=>
  subst hrr;have HK:Hid (((([]:Bs).head?==f||([]:Bs).head?==B 10):Bool)=y):=o rfl;have HE:Hid (p+(qZ l).1=q∧(qZ l).2=0):=o (by rw[N9,if_pos (show([]:Bs).head?=f from rfl)];exact⟨by have:=HQ.q;simp at this;simp only[];omega,rfl⟩);clear N9 BA;by_cases hpq:p=q
  ·subst hpq
   by_cases hp0:p=0
   ·have hdp:decide ((0:u)<(p:u))=d:=decide_eq_false ah
    have Bd:decide (0<p)=d:=decide_eq_false ah;clear hp0;go_enter func163,ntmps163;go_wp2_with fail;refine(HS _ (av (i _ _) _)).q.mono ?_;rintro e w1 ⟨rfl,hb1⟩;have HB1:=o ((av (i w.heap.size w) (g (ay 0 0 [] d) 162)).trans (hb1.mono ak));have bE:=o ((z w (ay 0 0 [] d) 162).keep hb1);clear hb1;rw[dw.q,HK.q];have hcx:=(bE.q.alloc (g (ay 0 p [] d) 162)).1;have hfx:=(bE.q.alloc (g (ay 0 p [] d) 162)).2.1;have eG:=o (av HB1.q (g (ay 0 p [] d) 162));go_wp2_with fail;refine x (v:= .tuple #[.agg (ay 5 p [] d),j n (p:u),j n 0]) (by simp[results,results163,go_sem,hcx]) rfl ⟨5,p,[],d,?_,?_⟩
    ·rw[HE.q.1,HE.q.2] <;> rfl
    ·exact(((eG.q.setCell (p:=⟨w.heap.size,0,f⟩) (c _) _).setCell (p:=⟨w.heap.size,1,f⟩) (c _) _).setCell (p:=⟨w.heap.size,2,f⟩) (c _) _).setCell (p:=⟨w.heap.size,3,f⟩) (c _) _
   ·have hdp:decide ((0:u)<(p:u))=y:=decide_eq_true ah
    have Bd:decide (0<p)=y:=decide_eq_true ah;obtain⟨b0,hb0⟩:∃b0,s[p - 1]?=B b0:=⟨_,D ah⟩;have hi1:=fun W=>eZ A s (p - 1) b0 hb0 W
    rw[show((p - 1:Nat):u)=(p:u) - 1 by omega] at hi1;have Jf:wrap32 (b0.toNat:u)=(b0.toNat:u):=IntWalk.wrap32_in _ (by have:=b0.toNat_lt;omega);clear hb0 hp0
    cases hbl:tY (b0.toNat:u)
    ·cases ql:((b0.toNat:u)==10)
     ·have xV:((b0.toNat:u)!=10)=y:=by rw[bne,ql];rfl
      go_enter func163,ntmps163;go_wp2_with fail;refine(HS _ (av (i _ _) _)).q.mono ?_;rintro e w1 ⟨rfl,hb1⟩;have HB1:=o ((av (i w.heap.size w) (g (ay 0 0 [] d) 162)).trans (hb1.mono ak));have bE:=o ((z w (ay 0 0 [] d) 162).keep hb1);clear hb1;rw[dw.q,HK.q];go_wp2_with fail;refine(jb _ _).mono ?_;rintro e w2 ⟨rfl,hb2⟩;rw[hbl];have HB2:=o (HB1.q.bD hb2);have aW:=o (bE.q.keep hb2);clear hb2;have hcx:=(aW.q.alloc (g (ay 0 p [] y) 162)).1;have hfx:=(aW.q.alloc (g (ay 0 p [] y) 162)).2.1;have eG:=o (av HB2.q (g (ay 0 p [] y) 162));go_wp2_with fail;refine x (v:= .tuple #[.agg (ay 5 p [] d),j n (p:u),j n 0]) (by simp[results,results163,go_sem,hcx]) rfl ⟨5,p,[],d,?_,?_⟩
      ·rw[HE.q.1,HE.q.2] <;> rfl
      ·exact(((eG.q.setCell (p:=⟨w.heap.size,0,f⟩) (c _) _).setCell (p:=⟨w.heap.size,1,f⟩) (c _) _).setCell (p:=⟨w.heap.size,2,f⟩) (c _) _).setCell (p:=⟨w.heap.size,3,f⟩) (c _) _
     ·have xV:((b0.toNat:u)!=10)=d:=by rw[bne,ql];rfl
      go_enter func163,ntmps163;go_wp2_with fail;refine(HS _ (av (i _ _) _)).q.mono ?_;rintro e w1 ⟨rfl,hb1⟩;have HB1:=o ((av (i w.heap.size w) (g (ay 0 0 [] d) 162)).trans (hb1.mono ak));have bE:=o ((z w (ay 0 0 [] d) 162).keep hb1);clear hb1;rw[dw.q,HK.q];go_wp2_with fail;refine(jb _ _).mono ?_;rintro e w2 ⟨rfl,hb2⟩;rw[hbl];have HB2:=o (HB1.q.bD hb2);have aW:=o (bE.q.keep hb2);clear hb2;have hcx:=(aW.q.alloc (g (ay 0 p [] d) 162)).1;have hfx:=(aW.q.alloc (g (ay 0 p [] d) 162)).2.1;have eG:=o (av HB2.q (g (ay 0 p [] d) 162));go_wp2_with fail;refine x (v:= .tuple #[.agg (ay 5 p [] d),j n (p:u),j n 0]) (by simp[results,results163,go_sem,hcx]) rfl ⟨5,p,[],d,?_,?_⟩
      ·rw[HE.q.1,HE.q.2] <;> rfl
      ·exact(((eG.q.setCell (p:=⟨w.heap.size,0,f⟩) (c _) _).setCell (p:=⟨w.heap.size,1,f⟩) (c _) _).setCell (p:=⟨w.heap.size,2,f⟩) (c _) _).setCell (p:=⟨w.heap.size,3,f⟩) (c _) _
    ·skip
     go_enter func163,ntmps163;go_wp2_with fail;refine(HS _ (av (i _ _) _)).q.mono ?_;rintro e w1 ⟨rfl,hb1⟩;have HB1:=o ((av (i w.heap.size w) (g (ay 0 0 [] d) 162)).trans (hb1.mono ak));have bE:=o ((z w (ay 0 0 [] d) 162).keep hb1);clear hb1;rw[dw.q,HK.q];go_wp2_with fail;refine(jb _ _).mono ?_;rintro e w2 ⟨rfl,hb2⟩;rw[hbl];have HB2:=o (HB1.q.bD hb2);have aW:=o (bE.q.keep hb2);clear hb2;have hcx:=(aW.q.alloc (g (ay 0 p [] d) 162)).1;have hfx:=(aW.q.alloc (g (ay 0 p [] d) 162)).2.1;have eG:=o (av HB2.q (g (ay 0 p [] d) 162));go_wp2_with fail;refine x (v:= .tuple #[.agg (ay 5 p [] d),j n (p:u),j n 0]) (by simp[results,results163,go_sem,hcx]) rfl ⟨5,p,[],d,?_,?_⟩
     ·rw[HE.q.1,HE.q.2] <;> rfl
     ·exact(((eG.q.setCell (p:=⟨w.heap.size,0,f⟩) (c _) _).setCell (p:=⟨w.heap.size,1,f⟩) (c _) _).setCell (p:=⟨w.heap.size,2,f⟩) (c _) _).setCell (p:=⟨w.heap.size,3,f⟩) (c _) _
  ·have hne:((q:u)==(p:u))=d:=beq_eq_false_iff_ne.2 ah
   clear hpq;go_enter func163,ntmps163;go_wp2_with fail;refine(HS _ (av (i _ _) _)).q.mono ?_;rintro e w1 ⟨rfl,hb1⟩;have HB1:=o ((av (i w.heap.size w) (g (ay 0 0 [] d) 162)).trans (hb1.mono ak));have bE:=o ((z w (ay 0 0 [] d) 162).keep hb1);clear hb1;rw[dw.q,HK.q];have hcx:=(bE.q.alloc (g (ay 0 q [] d) 162)).1;have hfx:=(bE.q.alloc (g (ay 0 q [] d) 162)).2.1;have eG:=o (av HB1.q (g (ay 0 q [] d) 162));go_wp2_with fail;refine x (v:= .tuple #[.agg (ay 5 q [] d),j n (q:u),j n 0]) (by simp[results,results163,go_sem,hcx]) rfl ⟨5,q,[],d,?_,?_⟩
   ·rw[HE.q.1,HE.q.2] <;> rfl
   ·exact(((eG.q.setCell (p:=⟨w.heap.size,0,f⟩) (c _) _).setCell (p:=⟨w.heap.size,1,f⟩) (c _) _).setCell (p:=⟨w.heap.size,2,f⟩) (c _) _).setCell (p:=⟨w.heap.size,3,f⟩) (c _) _
 |cons b t=>
  subst hrr;have hi0:∀W,(Instr.index 9 (M ⟨(b::t).toArray⟩) (j n 0)).run F W= .ok (.int .u8 (b.toNat:u)) W:=fun W=>eZ A (b::t) 0 b rfl W
  have hsh:∀W,(Instr.slice 9 (M ⟨(b::t).toArray⟩) f (B (j n 1)) f).run F W= .ok (M ⟨[b].toArray⟩) W:=fun W=>xY A (b::t) 1 ak W
  have hempty:((b::t)==([]:Bs))=d:=rfl;by_cases ql:b=10
  ·subst ql
   have HK:Hid (((((10::t:Bs).head?)==f||((10::t:Bs).head?)==B 10):Bool)=y):=o rfl;have HE:Hid (p+(qZ l).1=q+1∧(qZ l).2=0):=o (by rw[N9,if_neg ak,if_pos (show(10::t:Bs).head?=B 10 from rfl)];exact⟨by have:=HQ.q;simp only[] at this ⊢;omega,rfl⟩);have hq2:q+1≤s.length:=by have:=HQ.q;simp at this;omega
   clear N9 BA;by_cases hpq:p=q
   ·subst hpq
    by_cases hp0:p=0
    ·have hdp:decide ((0:u)<(p:u))=d:=decide_eq_false ah
     have Bd:decide (0<p)=d:=decide_eq_false ah;clear hp0;go_enter func163,ntmps163;go_wp2_with fail;refine(HS _ (av (i _ _) _)).q.mono ?_;rintro e w1 ⟨rfl,hb1⟩;have HB1:=o ((av (i w.heap.size w) (g (ay 0 0 [] d) 162)).trans (hb1.mono ak));have bE:=o ((z w (ay 0 0 [] d) 162).keep hb1);clear hb1;rw[dw.q,HK.q];have hcx:=(bE.q.alloc (g (ay 0 p [] d) 162)).1;have hfx:=(bE.q.alloc (g (ay 0 p [] d) 162)).2.1;have eG:=o (av HB1.q (g (ay 0 p [] d) 162));go_wp2_with fail;have hwq:IntKind.i64.wrap ((p:u)+1)=(p:u)+1:=C _ ah;refine x (v:= .tuple #[.agg (ay 4 p [10] d),j n ((p:u)+1),j n 0]) (by simp[results,results163,go_sem,hcx]) rfl ⟨4,p,[10],d,?_,?_⟩
     ·rw[HE.q.1,HE.q.2] <;> rfl
     ·exact(((eG.q.setCell (p:=⟨w.heap.size,0,f⟩) (c _) _).setCell (p:=⟨w.heap.size,1,f⟩) (c _) _).setCell (p:=⟨w.heap.size,2,f⟩) (c _) _).setCell (p:=⟨w.heap.size,3,f⟩) (c _) _
    ·have hdp:decide ((0:u)<(p:u))=y:=decide_eq_true ah
     have Bd:decide (0<p)=y:=decide_eq_true ah;obtain⟨b0,hb0⟩:∃b0,s[p - 1]?=B b0:=⟨_,D ah⟩;have hi1:=fun W=>eZ A s (p - 1) b0 hb0 W
     rw[show((p - 1:Nat):u)=(p:u) - 1 by omega] at hi1;have Jf:wrap32 (b0.toNat:u)=(b0.toNat:u):=IntWalk.wrap32_in _ (by have:=b0.toNat_lt;omega);clear hb0 hp0
     cases hbl:tY (b0.toNat:u)
     ·cases ql:((b0.toNat:u)==10)
      ·have xV:((b0.toNat:u)!=10)=y:=by rw[bne,ql];rfl
       go_enter func163,ntmps163;go_wp2_with fail;refine(HS _ (av (i _ _) _)).q.mono ?_;rintro e w1 ⟨rfl,hb1⟩;have HB1:=o ((av (i w.heap.size w) (g (ay 0 0 [] d) 162)).trans (hb1.mono ak));have bE:=o ((z w (ay 0 0 [] d) 162).keep hb1);clear hb1;rw[dw.q,HK.q];go_wp2_with fail;refine(jb _ _).mono ?_;rintro e w2 ⟨rfl,hb2⟩;rw[hbl];have HB2:=o (HB1.q.bD hb2);have aW:=o (bE.q.keep hb2);clear hb2;have hcx:=(aW.q.alloc (g (ay 0 p [] y) 162)).1;have hfx:=(aW.q.alloc (g (ay 0 p [] y) 162)).2.1;have eG:=o (av HB2.q (g (ay 0 p [] y) 162));go_wp2_with fail;have hwq:IntKind.i64.wrap ((p:u)+1)=(p:u)+1:=C _ ah;refine x (v:= .tuple #[.agg (ay 4 p [10] d),j n ((p:u)+1),j n 0]) (by simp[results,results163,go_sem,hcx]) rfl ⟨4,p,[10],d,?_,?_⟩
       ·rw[HE.q.1,HE.q.2] <;> rfl
       ·exact(((eG.q.setCell (p:=⟨w.heap.size,0,f⟩) (c _) _).setCell (p:=⟨w.heap.size,1,f⟩) (c _) _).setCell (p:=⟨w.heap.size,2,f⟩) (c _) _).setCell (p:=⟨w.heap.size,3,f⟩) (c _) _
      ·have xV:((b0.toNat:u)!=10)=d:=by rw[bne,ql];rfl
       go_enter func163,ntmps163;go_wp2_with fail;refine(HS _ (av (i _ _) _)).q.mono ?_;rintro e w1 ⟨rfl,hb1⟩;have HB1:=o ((av (i w.heap.size w) (g (ay 0 0 [] d) 162)).trans (hb1.mono ak));have bE:=o ((z w (ay 0 0 [] d) 162).keep hb1);clear hb1;rw[dw.q,HK.q];go_wp2_with fail;refine(jb _ _).mono ?_;rintro e w2 ⟨rfl,hb2⟩;rw[hbl];have HB2:=o (HB1.q.bD hb2);have aW:=o (bE.q.keep hb2);clear hb2;have hcx:=(aW.q.alloc (g (ay 0 p [] d) 162)).1;have hfx:=(aW.q.alloc (g (ay 0 p [] d) 162)).2.1;have eG:=o (av HB2.q (g (ay 0 p [] d) 162));go_wp2_with fail;have hwq:IntKind.i64.wrap ((p:u)+1)=(p:u)+1:=C _ ah;refine x (v:= .tuple #[.agg (ay 4 p [10] d),j n ((p:u)+1),j n 0]) (by simp[results,results163,go_sem,hcx]) rfl ⟨4,p,[10],d,?_,?_⟩
       ·rw[HE.q.1,HE.q.2] <;> rfl
       ·exact(((eG.q.setCell (p:=⟨w.heap.size,0,f⟩) (c _) _).setCell (p:=⟨w.heap.size,1,f⟩) (c _) _).setCell (p:=⟨w.heap.size,2,f⟩) (c _) _).setCell (p:=⟨w.heap.size,3,f⟩) (c _) _
     ·skip
      go_enter func163,ntmps163;go_wp2_with fail;refine(HS _ (av (i _ _) _)).q.mono ?_;rintro e w1 ⟨rfl,hb1⟩;have HB1:=o ((av (i w.heap.size w) (g (ay 0 0 [] d) 162)).trans (hb1.mono ak));have bE:=o ((z w (ay 0 0 [] d) 162).keep hb1);clear hb1;rw[dw.q,HK.q];go_wp2_with fail;refine(jb _ _).mono ?_;rintro e w2 ⟨rfl,hb2⟩;rw[hbl];have HB2:=o (HB1.q.bD hb2);have aW:=o (bE.q.keep hb2);clear hb2;have hcx:=(aW.q.alloc (g (ay 0 p [] d) 162)).1;have hfx:=(aW.q.alloc (g (ay 0 p [] d) 162)).2.1;have eG:=o (av HB2.q (g (ay 0 p [] d) 162));go_wp2_with fail;have hwq:IntKind.i64.wrap ((p:u)+1)=(p:u)+1:=C _ ah;refine x (v:= .tuple #[.agg (ay 4 p [10] d),j n ((p:u)+1),j n 0]) (by simp[results,results163,go_sem,hcx]) rfl ⟨4,p,[10],d,?_,?_⟩
      ·rw[HE.q.1,HE.q.2] <;> rfl
      ·exact(((eG.q.setCell (p:=⟨w.heap.size,0,f⟩) (c _) _).setCell (p:=⟨w.heap.size,1,f⟩) (c _) _).setCell (p:=⟨w.heap.size,2,f⟩) (c _) _).setCell (p:=⟨w.heap.size,3,f⟩) (c _) _
   ·have hne:((q:u)==(p:u))=d:=beq_eq_false_iff_ne.2 ah
    clear hpq;go_enter func163,ntmps163;go_wp2_with fail;refine(HS _ (av (i _ _) _)).q.mono ?_;rintro e w1 ⟨rfl,hb1⟩;have HB1:=o ((av (i w.heap.size w) (g (ay 0 0 [] d) 162)).trans (hb1.mono ak));have bE:=o ((z w (ay 0 0 [] d) 162).keep hb1);clear hb1;rw[dw.q,HK.q];have hcx:=(bE.q.alloc (g (ay 0 q [] d) 162)).1;have hfx:=(bE.q.alloc (g (ay 0 q [] d) 162)).2.1;have eG:=o (av HB1.q (g (ay 0 q [] d) 162));go_wp2_with fail;have hwq:IntKind.i64.wrap ((q:u)+1)=(q:u)+1:=C _ ah;refine x (v:= .tuple #[.agg (ay 4 q [10] d),j n ((q:u)+1),j n 0]) (by simp[results,results163,go_sem,hcx]) rfl ⟨4,q,[10],d,?_,?_⟩
    ·rw[HE.q.1,HE.q.2] <;> rfl
    ·exact(((eG.q.setCell (p:=⟨w.heap.size,0,f⟩) (c _) _).setCell (p:=⟨w.heap.size,1,f⟩) (c _) _).setCell (p:=⟨w.heap.size,2,f⟩) (c _) _).setCell (p:=⟨w.heap.size,3,f⟩) (c _) _
  ·have HK:Hid (((((b::t:Bs).head?)==f||((b::t:Bs).head?)==B 10):Bool)=d):=o (by simp[ql])
   have HE:Hid (p+(qZ l).1=q∧(qZ l).2=120):=o (by rw[N9,if_neg ak,if_neg (by simpa using ql)];exact⟨by have:=HQ.q;simp only[] at this ⊢;omega,rfl⟩);clear N9 BA;by_cases hpq:p=q
   ·subst hpq
    by_cases hp0:p=0
    ·have hdp:decide ((0:u)<(p:u))=d:=decide_eq_false ah
     have Bd:decide (0<p)=d:=decide_eq_false ah;clear hp0;go_enter func163,ntmps163;go_wp2_with fail;refine(HS _ (av (i _ _) _)).q.mono ?_;rintro e w1 ⟨rfl,hb1⟩;have HB1:=o ((av (i w.heap.size w) (g (ay 0 0 [] d) 162)).trans (hb1.mono ak));have bE:=o ((z w (ay 0 0 [] d) 162).keep hb1);clear hb1;rw[dw.q,HK.q];have hcx:=(bE.q.alloc (g (ay 0 p [] d) 162)).1;have hfx:=(bE.q.alloc (g (ay 0 p [] d) 162)).2.1;have eG:=o (av HB1.q (g (ay 0 p [] d) 162));go_wp2_with fail;refine x (v:= .tuple #[.agg (ay 0 0 [] d),j n (p:u),j n 120]) (by simp[results,results163,go_sem,hcx]) rfl ⟨0,0,[],d,?_,?_⟩
     ·rw[HE.q.1,HE.q.2] <;> rfl
     ·exact(((eG.q.setCell (p:=⟨w.heap.size,0,f⟩) (c _) _).setCell (p:=⟨w.heap.size,1,f⟩) (c _) _).setCell (p:=⟨w.heap.size,2,f⟩) (c _) _).setCell (p:=⟨w.heap.size,3,f⟩) (c _) _
    ·have hdp:decide ((0:u)<(p:u))=y:=decide_eq_true ah
     have Bd:decide (0<p)=y:=decide_eq_true ah;obtain⟨b0,hb0⟩:∃b0,s[p - 1]?=B b0:=⟨_,D ah⟩;have hi1:=fun W=>eZ A s (p - 1) b0 hb0 W
     rw[show((p - 1:Nat):u)=(p:u) - 1 by omega] at hi1;have Jf:wrap32 (b0.toNat:u)=(b0.toNat:u):=IntWalk.wrap32_in _ (by have:=b0.toNat_lt;omega);clear hb0 hp0
     cases hbl:tY (b0.toNat:u)
     ·cases ql:((b0.toNat:u)==10)
      ·have xV:((b0.toNat:u)!=10)=y:=by rw[bne,ql];rfl
       go_enter func163,ntmps163;go_wp2_with fail;refine(HS _ (av (i _ _) _)).q.mono ?_;rintro e w1 ⟨rfl,hb1⟩;have HB1:=o ((av (i w.heap.size w) (g (ay 0 0 [] d) 162)).trans (hb1.mono ak));have bE:=o ((z w (ay 0 0 [] d) 162).keep hb1);clear hb1;rw[dw.q,HK.q];go_wp2_with fail;refine(jb _ _).mono ?_;rintro e w2 ⟨rfl,hb2⟩;rw[hbl];have HB2:=o (HB1.q.bD hb2);have aW:=o (bE.q.keep hb2);clear hb2;have hcx:=(aW.q.alloc (g (ay 0 p [] y) 162)).1;have hfx:=(aW.q.alloc (g (ay 0 p [] y) 162)).2.1;have eG:=o (av HB2.q (g (ay 0 p [] y) 162));go_wp2_with fail;refine x (v:= .tuple #[.agg (ay 0 0 [] d),j n (p:u),j n 120]) (by simp[results,results163,go_sem,hcx]) rfl ⟨0,0,[],d,?_,?_⟩
       ·rw[HE.q.1,HE.q.2] <;> rfl
       ·exact(((eG.q.setCell (p:=⟨w.heap.size,0,f⟩) (c _) _).setCell (p:=⟨w.heap.size,1,f⟩) (c _) _).setCell (p:=⟨w.heap.size,2,f⟩) (c _) _).setCell (p:=⟨w.heap.size,3,f⟩) (c _) _
      ·have xV:((b0.toNat:u)!=10)=d:=by rw[bne,ql];rfl
       go_enter func163,ntmps163;go_wp2_with fail;refine(HS _ (av (i _ _) _)).q.mono ?_;rintro e w1 ⟨rfl,hb1⟩;have HB1:=o ((av (i w.heap.size w) (g (ay 0 0 [] d) 162)).trans (hb1.mono ak));have bE:=o ((z w (ay 0 0 [] d) 162).keep hb1);clear hb1;rw[dw.q,HK.q];go_wp2_with fail;refine(jb _ _).mono ?_;rintro e w2 ⟨rfl,hb2⟩;rw[hbl];have HB2:=o (HB1.q.bD hb2);have aW:=o (bE.q.keep hb2);clear hb2;have hcx:=(aW.q.alloc (g (ay 0 p [] d) 162)).1;have hfx:=(aW.q.alloc (g (ay 0 p [] d) 162)).2.1;have eG:=o (av HB2.q (g (ay 0 p [] d) 162));go_wp2_with fail;refine x (v:= .tuple #[.agg (ay 0 0 [] d),j n (p:u),j n 120]) (by simp[results,results163,go_sem,hcx]) rfl ⟨0,0,[],d,?_,?_⟩
       ·rw[HE.q.1,HE.q.2] <;> rfl
       ·exact(((eG.q.setCell (p:=⟨w.heap.size,0,f⟩) (c _) _).setCell (p:=⟨w.heap.size,1,f⟩) (c _) _).setCell (p:=⟨w.heap.size,2,f⟩) (c _) _).setCell (p:=⟨w.heap.size,3,f⟩) (c _) _
     ·skip
      go_enter func163,ntmps163;go_wp2_with fail;refine(HS _ (av (i _ _) _)).q.mono ?_;rintro e w1 ⟨rfl,hb1⟩;have HB1:=o ((av (i w.heap.size w) (g (ay 0 0 [] d) 162)).trans (hb1.mono ak));have bE:=o ((z w (ay 0 0 [] d) 162).keep hb1);clear hb1;rw[dw.q,HK.q];go_wp2_with fail;refine(jb _ _).mono ?_;rintro e w2 ⟨rfl,hb2⟩;rw[hbl];have HB2:=o (HB1.q.bD hb2);have aW:=o (bE.q.keep hb2);clear hb2;have hcx:=(aW.q.alloc (g (ay 0 p [] d) 162)).1;have hfx:=(aW.q.alloc (g (ay 0 p [] d) 162)).2.1;have eG:=o (av HB2.q (g (ay 0 p [] d) 162));go_wp2_with fail;refine x (v:= .tuple #[.agg (ay 0 0 [] d),j n (p:u),j n 120]) (by simp[results,results163,go_sem,hcx]) rfl ⟨0,0,[],d,?_,?_⟩
      ·rw[HE.q.1,HE.q.2] <;> rfl
      ·exact(((eG.q.setCell (p:=⟨w.heap.size,0,f⟩) (c _) _).setCell (p:=⟨w.heap.size,1,f⟩) (c _) _).setCell (p:=⟨w.heap.size,2,f⟩) (c _) _).setCell (p:=⟨w.heap.size,3,f⟩) (c _) _
   ·have hne:((q:u)==(p:u))=d:=beq_eq_false_iff_ne.2 ah
    clear hpq;go_enter func163,ntmps163;go_wp2_with fail;refine(HS _ (av (i _ _) _)).q.mono ?_;rintro e w1 ⟨rfl,hb1⟩;have HB1:=o ((av (i w.heap.size w) (g (ay 0 0 [] d) 162)).trans (hb1.mono ak));have bE:=o ((z w (ay 0 0 [] d) 162).keep hb1);clear hb1;rw[dw.q,HK.q];have hcx:=(bE.q.alloc (g (ay 0 q [] d) 162)).1;have hfx:=(bE.q.alloc (g (ay 0 q [] d) 162)).2.1;have eG:=o (av HB1.q (g (ay 0 q [] d) 162));go_wp2_with fail;refine x (v:= .tuple #[.agg (ay 0 0 [] d),j n (q:u),j n 120]) (by simp[results,results163,go_sem,hcx]) rfl ⟨0,0,[],d,?_,?_⟩
    ·rw[HE.q.1,HE.q.2] <;> rfl
    ·exact(((eG.q.setCell (p:=⟨w.heap.size,0,f⟩) (c _) _).setCell (p:=⟨w.heap.size,1,f⟩) (c _) _).setCell (p:=⟨w.heap.size,2,f⟩) (c _) _).setCell (p:=⟨w.heap.size,3,f⟩) (c _) _
theorem ahf (v:Value) (W:I):(Instr.typeAssert (.iface 223 v) 20 223 y).run F W= .ok (.tuple #[v,L y]) W:=au
theorem Io (b:Nat) (p m:u) (a0 a1 a2 a3 a4 a5 n0 e0:Value) (older:List PanicEntry) (w:I) (h1:Bx w b #[a0,a1,a2,a3,a4,a5]) (h2:Bx w (b+1) #[n0]) (h3:Bx w (b+2) #[e0]):
  CallsD F 161 #[H (B ⟨b,0,f⟩),H (B ⟨b+1,0,f⟩),H (B ⟨b+2,0,f⟩)] (.panicking ({v:= .iface 223 (.agg #[j n p,j n m]),recovered:=false}::older)) w fun e u' w'=>
   e= .returned (.tuple #[])∧u'= .panicking ({v:= .iface 223 (.agg #[j n p,j n m]),recovered:=true}::older)∧
   Bx w' b #[j n 0,E f 0 0,j n 0,E f 0 0,L d,j n 0]∧Bx w' (b+1) #[j n p]∧Bx w' (b+2) #[j n m]∧Below b w w':=by
 refine callsD_of_wpS func161 rfl fun c₀ cs hu=>?_
 apply wpS_seq
 apply wpS_region
 simp[wpOpsS,go_sem,recoverD,hu,ntmps161,Exit.thenS];refine wpS_of_wp ?_;have hta:=ahf (.agg #[j n p,j n m]);simp only[Array.replicate_succ,Array.replicate_zero,List.push_toArray,List.append_toArray,List.nil_append,List.cons_append,List.setIfInBounds_toArray,List.set_cons_zero,List.set_cons_succ];have hx0:=z w #[j n p,j n m] 223;obtain⟨Z,hZ⟩:∃Z:I,Z=(((((w.setCell ⟨b,0,f⟩ (j n 0)).setCell ⟨b,1,f⟩ (E f 0 0)).setCell ⟨b,2,f⟩ (j n 0)).setCell ⟨b,3,f⟩ (E f 0 0)).setCell ⟨b,4,f⟩ (L d)).setCell ⟨b,5,f⟩ (j n 0):=⟨_,rfl⟩;have HZ:Hid (Bx Z b #[j n 0,E f 0 0,j n 0,E f 0 0,L d,j n 0]∧Bx Z (b+1) #[n0]∧Bx Z (b+2) #[e0]∧Z.heap.size=w.heap.size∧Below b w Z):=o (by
  rw[hZ];refine⟨?_,?_,?_,by simp[World.setCell],?_⟩
  ·exact(((((h1.aU 0 ak _).aU 1 ak _).aU 2 ak _).aU 3 ak _).aU 4 ak _).aU 5 ak _
  ·exact(((((h2.setOther b 0 _ ah).setOther b 1 _ ah).setOther b 2 _ ah).setOther b 3 _ ah).setOther b 4 _ ah).setOther b 5 _ ah
  ·exact(((((h3.setOther b 0 _ ah).setOther b 1 _ ah).setOther b 2 _ ah).setOther b 3 _ ah).setOther b 4 _ ah).setOther b 5 _ ah
  ·exact((((((i b w).setCell (p:=⟨b,0,f⟩) (c b) _).setCell (p:=⟨b,1,f⟩) (c b) _).setCell (p:=⟨b,2,f⟩) (c b) _).setCell (p:=⟨b,3,f⟩) (c b) _).setCell (p:=⟨b,4,f⟩) (c b) _).setCell (p:=⟨b,5,f⟩) (c b) _)
 obtain⟨V,hV⟩:∃V:I,V=(Z.alloc (g #[j n p,j n m] 223)).drew:=⟨_,rfl⟩;have hx5:Bx V w.heap.size #[j n p,j n m]:=by
  have:=z Z #[j n p,j n m] 223;rw[HZ.q.2.2.2.1] at this;rw[hV];exact this
 have HV:Hid (Bx V b #[j n 0,E f 0 0,j n 0,E f 0 0,L d,j n 0]∧Bx V (b+1) #[n0]∧Bx V (b+2) #[e0]∧Bx V w.heap.size #[j n p,j n m]∧Below b w V):=o (by
  refine⟨?_,?_,?_,hx5,?_⟩
  ·rw[hV];exact(HZ.q.1.alloc _).drew
  ·rw[hV];exact(HZ.q.2.1.alloc _).drew
  ·rw[hV];exact(HZ.q.2.2.1.alloc _).drew
  ·rw[hV];exact(HZ.q.2.2.2.2.alloc (by have:=HZ.q.2.2.2.1;have:=h1.2.2;omega) _).drew)
 have Ip:Hid (b+2<w.heap.size):=o h3.2.2;have HVY:Hid (Bx V (b+1) #[n0]):=o HV.q.2.1;clear hx5;go_wp2_with fail;refine aI 99 [(0,0),(1,0),(2,0),(3,0),(4,0),(5,2),(6,2),(7,2)] (fun _=>True) (fun W'=>W'.cell? ⟨w.heap.size,0,f⟩=B (j n p)∧W'.cell? ⟨w.heap.size,1,f⟩=B (j n m)) au au (trivial) (⟨hx0.1 0,hx0.1 1⟩) ?_;refine qC ?_;refine aD rfl rfl (fun K hK=>?_);go_simp;rw[←hZ,←hV];refine hK _ _ ⟨trivial,HV.q.2.2.2.1.1 0,HV.q.2.2.2.1.1 1⟩ ?_;have z1:=HV.q.2.1.1 0;have f1_:=HV.q.2.1.2.1 0;clear hK K hZ hV;refine aD rfl rfl (fun K hK=>?_);go_simp;refine hK _ _ ⟨trivial,(HV.q.2.2.2.1.setOther (b+1) 0 _ (by have:=Ip.q;omega)).1 0,(HV.q.2.2.2.1.setOther (b+1) 0 _ (by have:=Ip.q;omega)).1 1⟩ ?_;clear hK K z1 f1_;have z1:=HV.q.2.2.1.1 0;have f1_:=HV.q.2.2.1.2.1 0;refine aD rfl rfl (fun K hK=>?_);go_simp;refine hK _ _ ⟨trivial,((HV.q.2.2.2.1.setOther (b+1) 0 _ (by have:=Ip.q;omega)).setOther (b+2) 0 _ (by have:=Ip.q;omega)).1 0,((HV.q.2.2.2.1.setOther (b+1) 0 _ (by have:=Ip.q;omega)).setOther (b+2) 0 _ (by have:=Ip.q;omega)).1 1⟩ ?_;clear hK K;refine bn ?_;go_wp2_with fail;obtain⟨w',hw'⟩:∃w':I,w'=(V.setCell ⟨b+1,0,f⟩ (j n p)).setCell ⟨b+2,0,f⟩ (j n m):=⟨_,rfl⟩;have hfin:Bx w' b #[j n 0,E f 0 0,j n 0,E f 0 0,L d,j n 0]∧Bx w' (b+1) #[j n p]∧Bx w' (b+2) #[j n m]∧Below b w w':=by
  rw[hw'];refine⟨((HV.q.1.setOther (b+1) 0 _ ah).setOther (b+2) 0 _ ah),((HV.q.2.1.aU 0 ak _).setOther (b+2) 0 _ ah),((HV.q.2.2.1.setOther (b+1) 0 _ ah).aU 0 ak _),?_⟩;exact(HV.q.2.2.2.2.setCell (p:=⟨b+1,0,f⟩) ak _).setCell (p:=⟨b+2,0,f⟩) ak _
 rw[←hw'];have HF:=o hfin;clear hw' hfin
 cases c₀
 simp_all[bodyPostS,results,results161]
 exact HF.q
theorem Vz (b:Nat) (w:I):
  CallsD F 161 #[H (B ⟨b,0,f⟩),H (B ⟨b+1,0,f⟩),H (B ⟨b+2,0,f⟩)] .returning w fun e u' w'=>e= .returned (.tuple #[])∧u'= .returning∧w'=w:=by
 refine callsD_of_wpS func161 rfl fun c₀ cs hu=>?_
 apply wpS_seq
 apply wpS_region
 simp[wpOpsS,go_sem,recoverD,hu,ntmps161,Exit.thenS];refine wpS_of_wp ?_;go_wp2_with fail
 cases c₀
 simp_all[bodyPostS,results,results161]
end Yd
