import Derived.Test.YtnhnhmeogckgpaaGreatDoorTLawSt
set_option linter.all false
set_option maxRecDepth 200000
set_option maxHeartbeats 8000000
namespace Yd
open Bool renaming false→c,true→y,and_eq_true→A
open Nat renaming le_refl→j,add_zero→B
open Go Go.RowKit Go.Proofs Tryz
open Go.Obj renaming cells→o
open Tryz renaming underlying9→m
open Yd renaming hid→d
open _root_ renaming Int→f,trivial→z
@[reducible] def ay (k a:f) (t:Bs) (g:Bool):Array Value:=#[.int .i64 k,.int .i64 a,.string ⟨t.toArray⟩,.bool g]
theorem LP {b:UInt8} {t:Bs} (h:bL (b::t)=y):b.toNat≠32∧b.toNat≠9∧b.toNat≠10∧b.toNat≠35∧b.toNat≠46∧b.toNat≠45∧¬(48≤b.toNat∧b.toNat≤57):=by
 rcases Nat.lt_or_ge b.toNat 128 with h1|h1
 ·unfold bL at h
  rw[mh b t h1] at h;simp only[iO,A,Bool.or_eq_true,decide_eq_true_eq] at h;have:=h.2.2;omega
 ·omega
theorem OX {l:Bs} (h:bL l=y):1≤bT l∧l≠[]:=by
 unfold bL at h;simp only[A] at h;obtain⟨h1,h2,h3⟩:=h;have h0:l≠[]:=by intro e;rw[e] at h1;simp at h1
 refine⟨?_,h0⟩;unfold bT;rw[dY l fV h0,if_pos (by simp[h2,fV,h3])];have:=uI l h0;omega
def Ir (k a:f) (t:Bs) (nx:Nat) (er:f) (w:World) (e:Ending) (w':World):Prop:=∃g:Bool,e= .returned (.tuple #[.agg (ay k a t g),.int .i64 nx,.int .i64 er])∧Below w.heap.size w w'
theorem Bc {b:UInt8} {t:Bs} (h:eT b=c) (J2:b.toNat≠35):lT (b::t)=0∧rR (b::t)=y:=by
 have e:aY (b::t)=b::t:=by unfold aY;rw[List.dropWhile_cons,h];rfl
 have e2:(b::t).takeWhile eT=[]:=by rw[List.takeWhile_cons,h];rfl
 have h':¬b=35:=fun e=>J2 (by rw[e];rfl)
 unfold rR lT;rw[e,e2];simp[h']
theorem JE {b:UInt8} (h1:b.toNat≠32) (h2:b.toNat≠9):eT b=c:=by
 rw[←Bl];unfold uY;rw[beq_eq_false_iff_ne.2 ah,beq_eq_false_iff_ne.2 ah];rfl
theorem J6 (u:Bs):qd u≤24:=by
 unfold qd
 cases h:(List.filter (fun i=>decide (i≤24)) (bE ⟨u.toArray⟩ u.length 0)).getLast? with
 |none=>simp
 |some x=>
  have:=List.mem_of_getLast? h
  simpa using(List.mem_filter.1 this).2
theorem MO (s:Bs) (p:Nat) (l:Bs) (hd:s.drop p=l) (hp:p≤s.length) (hlim:s.length≤1000000) (hb:bL l=y) (w:World) (hT:Lib.Utf8Tabs 6 7 w):
  Calls Tryz.prog 163 #[.string ⟨s.toArray⟩,.int .i64 p] w (fun e w'=>if 24<bT l then Ir 0 0 [] (p+qd (l.take (bT l))) 120 w e w' else Ir 1 p (l.take (bT l)) (p+bT l) 0 w e w'):=by
 obtain⟨hr1,hne⟩:=OX hb;obtain⟨b,t,rfl⟩:∃b t,l=b::t:=by cases l with
  |nil=>exact absurd rfl hne
  |cons b t=>exact⟨b,t,rfl⟩
 obtain⟨n32,n9,n10,n35,n46,n45,UF⟩:=LP hb;have hll:p+(b::t).length=s.length:=by rw[←hd,List.length_drop];omega
 have dM:=d (Bc (t:=t) (JE n32 n9) n35);have HS:=fun W (hb:Below w.heap.size w W)=>d (og s p (b::t) hd hp hlim W (Utf8Tabs_below hT hb))
 have hsl:=fun W=>lG m s p hp W
 rw[hd] at hsl;obtain⟨n,hn⟩:∃n,n=bT (b::t):=⟨_,rfl⟩;have HW:=fun W (hb:Below w.heap.size w W)=>d (rQ ⟨(b::t).toArray⟩ 191 #[] FD fV W (fun r W' _=>zG r W') (Utf8Tabs_below hT hb))
 rw[show dO ⟨(b::t).toArray⟩ fV=n from hn.symm] at HW;have hnl:n≤(b::t).length:=by rw[hn];exact pO _ _ _ (j _)
 have hsh:=fun W=>vZ m (b::t) n hnl W
 have hi0:∀W,(Instr.index 9 (.string ⟨(b::t).toArray⟩) (.int .i64 0)).run Tryz.prog W= .ok (.int .u8 (b.toNat:f)) W:=fun W=>gQ m (b::t) 0 b rfl W
 have hz:=dR s;have hz1:=dR (b::t);rw[←hn] at hr1 ⊢;have e10:((b.toNat:f)==10)=c:=beq_eq_false_iff_ne.2 ah;have e46:((b.toNat:f)==46)=c:=beq_eq_false_iff_ne.2 ah;have e45:((b.toNat:f)==45)=c:=beq_eq_false_iff_ne.2 ah;have e0:((n:f)==0)=c:=beq_eq_false_iff_ne.2 ah;have hw32:wrap32 (b.toNat:f)=(b.toNat:f):=IntWalk.wrap32_in _ (by have:=b.toNat_lt;omega);have jR:iY (b.toNat:f)=c:=by unfold iY;simp;omega
 have hempty:((b::t)==([]:Bs))=c:=rfl;have HT:=d hT;have HD:=d hd;have HN:=d hn;have xG:=d hll;clear hT hd hn hne hb n32 n9 n10 n35 n46 n45 UF hll;by_cases sM:24<n
 case' pos=>
  have hdn:decide ((24:f)<(n:f))=y:=decide_eq_true ah;simp only[if_pos sM];obtain⟨q,hq⟩:∃q,q=p+qd ((b::t).take n):=⟨_,rfl⟩;have U9:=J6 ((b::t).take n);have hqi:(p:f)+(qd ((b::t).take n):f)=(q:f):=by omega
  have CQ:q≤2000000:=by omega
  rw[←hq];clear hq U9 sM
 case' neg=>
  have hdn:decide ((24:f)<(n:f))=c:=decide_eq_false ah;simp only[if_neg sM];obtain⟨q,hq⟩:∃q,q=p+n:=⟨_,rfl⟩;have hqi:(p:f)+(n:f)=(q:f):=by omega
  have CQ:q≤2000000:=by omega
  have hzn:ByteArray.size ⟨((b::t).take n).toArray⟩=n:=by rw[dR,List.length_take];omega
  rw[←hq];clear hq sM
 all_goals
  by_cases hp0:p=0
  case' pos=>
   have hdp:decide ((0:f)<(p:f))=c:=decide_eq_false ah;have U7:decide (0<p)=c:=decide_eq_false ah;clear hp0;go_enter func163,ntmps163;go_wp2_with fail;refine(HS _ (av (Below.refl _ _) _)).q.mono ?_;rintro e w1 ⟨rfl,hb1⟩;have HB:=d ((av (Below.refl w.heap.size w) (o (ay 0 0 [] c) 162)).trans (hb1.mono ak));have HX:=d ((Bx.new w (ay 0 0 [] c) 162).keep hb1);clear hb1;rw[dM.q.1,dM.q.2,B];go_wp2_with fail;refine(kJ _ _).mono ?_;rintro e w3 ⟨rfl,hb3⟩;rw[jR];obtain⟨G,hG⟩:∃G:Bool,c=G:=⟨_,rfl⟩;have vJ:=d ((Bx.new w1 (ay 0 p [] c) 162).keep hb3);rw[hG] at vJ;have HZ3:=d (show w.heap.size<w1.heap.size from HX.q.2.2);have HB3:=d ((av HB.q (o (ay 0 p [] c) 162)).trans (hb3.mono (by have:=HB.q.size;simp;omega)));have gL:=d ((HX.q.alloc (o (ay 0 p [] c) 162)).keep hb3);obtain⟨tb,htb⟩:∃tb,tb=w1.heap.size:=⟨_,rfl⟩;rw[←htb] at vJ HZ3 ⊢;clear hb3 htb hG
  case' neg=>
   have hdp:decide ((0:f)<(p:f))=y:=decide_eq_true ah;have U7:decide (0<p)=y:=decide_eq_true ah;obtain⟨b0,hb0⟩:∃b0,s[p - 1]?=some b0:=⟨_,List.getElem?_eq_getElem ah⟩;have hi1:=fun W=>gQ m s (p - 1) b0 hb0 W
   rw[show((p - 1:Nat):f)=(p:f) - 1 by omega] at hi1;have afk:wrap32 (b0.toNat:f)=(b0.toNat:f):=IntWalk.wrap32_in _ (by have:=b0.toNat_lt;omega);clear hb0 hp0;go_enter func163,ntmps163;go_wp2_with fail;refine(HS _ (av (Below.refl _ _) _)).q.mono ?_;rintro e w1 ⟨rfl,hb1⟩;have HB:=d ((av (Below.refl w.heap.size w) (o (ay 0 0 [] c) 162)).trans (hb1.mono ak));have HX:=d ((Bx.new w (ay 0 0 [] c) 162).keep hb1);clear hb1;rw[dM.q.1,dM.q.2,B];go_wp2_with fail;refine(Dy _ _).mono ?_;rintro e w2 ⟨rfl,hb2⟩
   cases hbl:uY (b0.toNat:f)
   case' false=>
    cases mO:((b0.toNat:f)==10)
    case' false=>
     have OV:((b0.toNat:f)!=10)=y:=by rw[bne,mO];rfl
     replace HB:=d (HB.q.bq hb2);replace HX:=d (HX.q.keep hb2)
     clear hb2;go_wp2_with fail;refine(kJ _ _).mono ?_;rintro e w3 ⟨rfl,hb3⟩;rw[jR];obtain⟨G,hG⟩:∃G:Bool,y=G:=⟨_,rfl⟩;have vJ:=d ((Bx.new w2 (ay 0 p [] y) 162).keep hb3);rw[hG] at vJ;have HZ3:=d (show w.heap.size<w2.heap.size from HX.q.2.2);have HB3:=d ((av HB.q (o (ay 0 p [] y) 162)).trans (hb3.mono (by have:=HB.q.size;simp;omega)));have gL:=d ((HX.q.alloc (o (ay 0 p [] y) 162)).keep hb3);obtain⟨tb,htb⟩:∃tb,tb=w2.heap.size:=⟨_,rfl⟩;rw[←htb] at vJ HZ3 ⊢;clear hb3 htb hG
    case' true=>
     have OV:((b0.toNat:f)!=10)=c:=by rw[bne,mO];rfl
     replace HB:=d (HB.q.bq hb2);replace HX:=d (HX.q.keep hb2)
     clear hb2;go_wp2_with fail;refine(kJ _ _).mono ?_;rintro e w3 ⟨rfl,hb3⟩;rw[jR];obtain⟨G,hG⟩:∃G:Bool,c=G:=⟨_,rfl⟩;have vJ:=d ((Bx.new w2 (ay 0 p [] c) 162).keep hb3);rw[hG] at vJ;have HZ3:=d (show w.heap.size<w2.heap.size from HX.q.2.2);have HB3:=d ((av HB.q (o (ay 0 p [] c) 162)).trans (hb3.mono (by have:=HB.q.size;simp;omega)));have gL:=d ((HX.q.alloc (o (ay 0 p [] c) 162)).keep hb3);obtain⟨tb,htb⟩:∃tb,tb=w2.heap.size:=⟨_,rfl⟩;rw[←htb] at vJ HZ3 ⊢;clear hb3 htb hG
   case' true=>
    replace HB:=d (HB.q.bq hb2);replace HX:=d (HX.q.keep hb2)
    clear hb2;go_wp2_with fail;refine(kJ _ _).mono ?_;rintro e w3 ⟨rfl,hb3⟩;rw[jR];obtain⟨G,hG⟩:∃G:Bool,c=G:=⟨_,rfl⟩;have vJ:=d ((Bx.new w2 (ay 0 p [] c) 162).keep hb3);rw[hG] at vJ;have HZ3:=d (show w.heap.size<w2.heap.size from HX.q.2.2);have HB3:=d ((av HB.q (o (ay 0 p [] c) 162)).trans (hb3.mono (by have:=HB.q.size;simp;omega)));have gL:=d ((HX.q.alloc (o (ay 0 p [] c) 162)).keep hb3);obtain⟨tb,htb⟩:∃tb,tb=w2.heap.size:=⟨_,rfl⟩;rw[←htb] at vJ HZ3 ⊢;clear hb3 htb hG
 all_goals
  go_wp2_with fail;refine(HW _ HB3.q).q.mono ?_;rintro e w4 ⟨rfl,hb4⟩;have eH:=d (HB3.q.bq hb4);have mY:=d (gL.q.keep hb4);have j4:=d (vJ.q.keep hb4);clear hb4 HB3 gL vJ
  first
  |go_wp2_with fail
   refine(Zb _ (by rw[List.length_take];have:=xG.q;omega) _).mono ?_;rintro e w5 ⟨rfl,hb5⟩;have hx5:=mY.q.keep hb5;have gY:=d (eH.q.bq hb5);have y8:=hx5.1;have hf5:=hx5.2.1;clear hx5 hb5;go_wp2_with fail;refine bodyPost_ret (v:= .tuple #[.agg (ay 0 0 [] c),.int .i64 (q:f),.int .i64 120]) (by simp[results,results163,go_sem,y8]) rfl ⟨c,rfl,?_⟩;exact(((gY.q.setCell (p:=⟨w.heap.size,0,none⟩) (j _) _).setCell (p:=⟨w.heap.size,1,none⟩) (j _) _).setCell (p:=⟨w.heap.size,2,none⟩) (j _) _).setCell (p:=⟨w.heap.size,3,none⟩) (j _) _
  |have hcy:=j4.q.1;have xO:=j4.q.2.1
   go_wp2_with fail;refine aK 99 [(0,0),(1,0),(2,0),(3,0),(4,2),(5,0),(6,2)] (fun _=>True) (fun _=>True) au au (trivial) (trivial) ?_;refine qC ?_;refine aF rfl rfl (fun K hK=>?_);go_simp;refine hK _ _ ⟨z,z⟩ ?_;clear hK K;refine qC ?_;refine aF rfl rfl (fun K hK=>?_);go_simp;refine hK _ _ ⟨z,z⟩ ?_;clear hK K;refine bB ?_;have kR:=d (((j4.q.aR 0 ak (.int .i64 1)).aR 2 ak (.string ⟨((b::t).take n).toArray⟩)).drew);have oU:=d (((mY.q.setOther tb 0 (.int .i64 1) (by have:=HZ3.q;omega)).setOther tb 2 (.string ⟨((b::t).take n).toArray⟩) (by have:=HZ3.q;omega)).drew);have gY:=d (((eH.q.setCell (p:=⟨tb,0,none⟩) (by have:=HZ3.q;show _≤tb;omega) (.int .i64 1)).setCell (p:=⟨tb,2,none⟩) (by have:=HZ3.q;show _≤tb;omega) (.string ⟨((b::t).take n).toArray⟩)).drew);generalize((w4.setCell ⟨tb,0,none⟩ (.int .i64 1)).setCell ⟨tb,2,none⟩ (.string ⟨((b::t).take n).toArray⟩)).drew=Z at kR oU gY ⊢;clear hcy xO mY j4 eH;have hcz:=oU.q.1;have hfz:=oU.q.2.1;go_wp2_with fail;refine aK 99 [(0,0),(1,0),(2,0),(3,0),(4,0),(5,0),(6,2),(7,0),(8,0)] (fun _=>True) (fun W'=>Bx W' tb (ay 1 p ((b::t).take n) G)) au au (trivial) (kR.q.drew) ?_;refine qC ?_;refine aF rfl rfl (fun K hK=>?_);go_simp;refine hK _ _ ⟨z,(((kR.q.drew.setOther w.heap.size 0 _ (by have:=HZ3.q;omega)).setOther w.heap.size 1 _ (by have:=HZ3.q;omega)).setOther w.heap.size 2 _ (by have:=HZ3.q;omega)).setOther w.heap.size 3 _ (by have:=HZ3.q;omega)⟩ ?_;clear hK K;refine qC ?_;refine bB ?_;go_wp2_with fail;have hwq:IntKind.i64.wrap (q:f)=(q:f):=Go.IntWalk.i64_in (q:f) ah;refine bodyPost_ret (v:= .tuple #[.agg (ay 1 p ((b::t).take n) G),.int .i64 (q:f),.int .i64 0]) (by simp[results,results163,go_sem,hcz,hwq]) rfl ⟨G,rfl,?_⟩;exact((((gY.q.drew).setCell (p:=⟨w.heap.size,0,none⟩) (j _) _).setCell (p:=⟨w.heap.size,1,none⟩) (j _) _).setCell (p:=⟨w.heap.size,2,none⟩) (j _) _).setCell (p:=⟨w.heap.size,3,none⟩) (j _) _
end Yd
