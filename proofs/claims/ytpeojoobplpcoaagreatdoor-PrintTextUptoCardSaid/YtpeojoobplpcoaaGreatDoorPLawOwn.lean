import Derived.Test.YtpeojoobplpcoaaGreatDoorPLawSt
set_option linter.all false
set_option maxRecDepth 200000
set_option maxHeartbeats 8000000
namespace Yd
open Bool renaming false->c,true->o
open Go Go.RowKit Go.Proofs Tryz
open Go.Obj renaming cells->m
open Tryz renaming underlying9->j
open Yd renaming hid->d
open _root_ renaming Int->f,trivial->y
@[reducible] def aI (k a:f)(t:Bs)(g:Bool):Array Value:=#[.int .i64 k,.int .i64 a,.string ⟨t.toArray⟩,.bool g]
theorem RV {b:UInt8}{t:Bs}(h:dJ (b::t)=o):b.toNat≠32/\b.toNat≠9/\b.toNat≠10/\b.toNat≠35/\b.toNat≠46/\b.toNat≠45/\¬(48<=b.toNat/\b.toNat<=57):=by
 rcases gP b.toNat 128 with h1|h1
 .unfold dJ at h
  rw[qm b t h1] at h;simp only[kC,aO,wB,aW] at h;have:=h.2.2;omega
 .omega
theorem VK {l:Bs}(h:dJ l=o):1<=dX l/\l≠[]:=by
 unfold dJ at h;simp only[aO] at h;obtain⟨h1,h2,h3⟩:=h;have h0:l≠[]:=by intro e;rw[e] at h1;simp at h1
 refine⟨?_,h0⟩;unfold dX;rw[iR l jJ h0,av (by simp[h2,jJ,h3])];have:=Aw l h0;omega
def NJ (k a:f)(t:Bs)(nx:Nat)(er:f)(w:World)(e:Ending)(w':World):Prop:=∃g:Bool,e= .returned (.tuple #[.agg (aI k a t g),.int .i64 nx,.int .i64 er])/\Below w.1.size w w'
theorem Fw {b:UInt8}{t:Bs}(h:iQ b=c)(Qm:b.toNat≠35):qd (b::t)=0/\wV (b::t)=o:=by
 have e:bI (b::t)=b::t:=by unfold bI;rw[Ey,h];rfl
 have e2:(b::t).takeWhile iQ=[]:=by rw[nE,h];rfl
 have h':¬b=35:=λe=>Qm (by rw[e];rfl)
 unfold wV qd;rw[e,e2];simp[h']
theorem NZ {b:UInt8}(h1:b.toNat≠32)(h2:b.toNat≠9):iQ b=c:=by
 rw[<-Gp];unfold zV;rw[aU.2 ah,aU.2 ah];rfl
theorem N7 (u:Bs):u7 u<=24:=by
 unfold u7
 cases h:(List.filter (λi=>decide (i<=24)) (cK ⟨u.toArray⟩ u.length 0)).getLast? with
 |none=>simp
 |some x=>
  have:=List.mem_of_getLast? h
  simpa using(List.mem_filter.1 this).2
theorem R6 (s:Bs)(p:Nat)(l:Bs)(hd:s.drop p=l)(hp:p<=s.length)(hlim:s.length<=1000000)(hb:dJ l=o)(w:World)(hT:Lib.Utf8Tabs 6 7 w):
  Calls Tryz.prog 137 #[.string ⟨s.toArray⟩,.int .i64 p] w (λe w'=>if 24<dX l then NJ 0 0 [] (p+u7 (l.take (dX l))) 120 w e w' else NJ 1 p (l.take (dX l)) (p+dX l) 0 w e w'):=by
 obtain⟨hr1,hne⟩:=VK hb;obtain⟨b,t,rfl⟩:∃b t,l=b::t:=by cases l with
  |nil=>exact absurd rfl hne
  |cons b t=>exact⟨b,t,rfl⟩
 obtain⟨n32,n9,n10,n35,n46,n45,ZA⟩:=RV hb;have hll:p+(b::t).length=s.length:=by rw[<-hd,gG];omega
 have fO:=d (Fw (t:=t) (NZ n32 n9) n35);have HS:=λW (hb:Below w.1.size w W)=>d (tq s p (b::t) hd hp hlim W (Utf8Tabs_below hT hb))
 have hsl:=λW=>oZ j s p hp W
 rw[hd] at hsl;obtain⟨n,hn⟩:∃n,n=dX (b::t):=⟨_,rfl⟩;have HW:=λW (hb:Below w.1.size w W)=>d (wW ⟨(b::t).toArray⟩ 116 #[] Ld jJ W (λr W' _=>DR r W') (Utf8Tabs_below hT hb))
 rw[show gN ⟨(b::t).toArray⟩ jJ=n from hn.symm] at HW;have hnl:n<=(b::t).length:=by rw[hn];exact uE _ _ _ (aB _)
 have hsh:=λW=>AV j (b::t) n hnl W
 have hi0:∀W,(Instr.index 9 (.string ⟨(b::t).toArray⟩) (.int .i64 0)).run Tryz.prog W= .ok (.int .u8 (b.toNat:f)) W:=λW=>jM j (b::t) 0 b rfl W
 have hz:=gQ s;have hz1:=gQ (b::t);rw[<-hn] at hr1 ⊢;have e10:((b.toNat:f)==10)=c:=aU.2 ah;have e46:((b.toNat:f)==46)=c:=aU.2 ah;have e45:((b.toNat:f)==45)=c:=aU.2 ah;have e0:((n:f)==0)=c:=aU.2 ah;have hw32:wrap32 (b.toNat:f)=(b.toNat:f):=IntWalk.wrap32_in _ (by have:=b.toNat_lt;omega);have mQ:kS (b.toNat:f)=c:=by unfold kS;simp;omega
 have hempty:((b::t)==([]:Bs))=c:=rfl;have HT:=d hT;have HD:=d hd;have HN:=d hn;have Fz:=d hll;clear hT hd hn hne hb n32 n9 n10 n35 n46 n45 ZA hll;by_cases xE:24<n
 case' pos=>
  have hdn:decide ((24:f)<(n:f))=o:=bN ah;simp only[av xE];obtain⟨q,hq⟩:∃q,q=p+u7 ((b::t).take n):=⟨_,rfl⟩;have ZB:=N7 ((b::t).take n);have hqi:(p:f)+(u7 ((b::t).take n):f)=(q:f):=by omega
  have Ii:q<=2000000:=by omega
  rw[<-hq];clear hq ZB xE
 case' neg=>
  have hdn:decide ((24:f)<(n:f))=c:=bq ah;simp only[au xE];obtain⟨q,hq⟩:∃q,q=p+n:=⟨_,rfl⟩;have hqi:(p:f)+(n:f)=(q:f):=by omega
  have Ii:q<=2000000:=by omega
  have hzn:ByteArray.size ⟨((b::t).take n).toArray⟩=n:=by rw[gQ,fE];omega
  rw[<-hq];clear hq xE
 all_goals
  by_cases hp0:p=0
  case' pos=>
   have hdp:decide ((0:f)<(p:f))=c:=bq ah;have abC:decide (0<p)=c:=bq ah;clear hp0;go_enter func137,ntmps137;go_wp2_with fail;refine(HS _ (aA (Below.refl _ _) _)).q.mono ?_;rintro e w1 ⟨rfl,hb1⟩;have HB:=d ((aA (Below.refl w.1.size w) (m (aI 0 0 [] c) 202)).trans (hb1.mono ak));have HX:=d ((Bx.new w (aI 0 0 [] c) 202).keep hb1);clear hb1;rw[fO.q.1,fO.q.2,dM];go_wp2_with fail;refine(oh _ _).mono ?_;rintro e w3 ⟨rfl,hb3⟩;rw[mQ];obtain⟨G,hG⟩:∃G:Bool,c=G:=⟨_,rfl⟩;have yB:=d ((Bx.new w1 (aI 0 p [] c) 202).keep hb3);rw[hG] at yB;have HZ3:=d (show w.1.size<w1.1.size from HX.q.2.2);have HB3:=d ((aA HB.q (m (aI 0 p [] c) 202)).trans (hb3.mono (by have:=HB.q.size;simp;omega)));have kZ:=d ((HX.q.alloc (m (aI 0 p [] c) 202)).keep hb3);obtain⟨tb,htb⟩:∃tb,tb=w1.1.size:=⟨_,rfl⟩;rw[<-htb] at yB HZ3 ⊢;clear hb3 htb hG
  case' neg=>
   have hdp:decide ((0:f)<(p:f))=o:=bN ah;have abC:decide (0<p)=o:=bN ah;obtain⟨b0,hb0⟩:∃b0,s[p - 1]?=some b0:=⟨_,fK ah⟩;have hi1:=λW=>jM j s (p - 1) b0 hb0 W
   rw[show((p - 1:Nat):f)=(p:f) - 1 by omega] at hi1;have akN:wrap32 (b0.toNat:f)=(b0.toNat:f):=IntWalk.wrap32_in _ (by have:=b0.toNat_lt;omega);clear hb0 hp0;go_enter func137,ntmps137;go_wp2_with fail;refine(HS _ (aA (Below.refl _ _) _)).q.mono ?_;rintro e w1 ⟨rfl,hb1⟩;have HB:=d ((aA (Below.refl w.1.size w) (m (aI 0 0 [] c) 202)).trans (hb1.mono ak));have HX:=d ((Bx.new w (aI 0 0 [] c) 202).keep hb1);clear hb1;rw[fO.q.1,fO.q.2,dM];go_wp2_with fail;refine(JE _ _).mono ?_;rintro e w2 ⟨rfl,hb2⟩
   cases hbl:zV (b0.toNat:f)
   case' false=>
    cases EH:((b0.toNat:f)==10)
    case' false=>
     have VE:((b0.toNat:f)!=10)=o:=by rw[bne,EH];rfl
     replace HB:=d (HB.q.bZ hb2);replace HX:=d (HX.q.keep hb2)
     clear hb2;go_wp2_with fail;refine(oh _ _).mono ?_;rintro e w3 ⟨rfl,hb3⟩;rw[mQ];obtain⟨G,hG⟩:∃G:Bool,o=G:=⟨_,rfl⟩;have yB:=d ((Bx.new w2 (aI 0 p [] o) 202).keep hb3);rw[hG] at yB;have HZ3:=d (show w.1.size<w2.1.size from HX.q.2.2);have HB3:=d ((aA HB.q (m (aI 0 p [] o) 202)).trans (hb3.mono (by have:=HB.q.size;simp;omega)));have kZ:=d ((HX.q.alloc (m (aI 0 p [] o) 202)).keep hb3);obtain⟨tb,htb⟩:∃tb,tb=w2.1.size:=⟨_,rfl⟩;rw[<-htb] at yB HZ3 ⊢;clear hb3 htb hG
    case' true=>
     have VE:((b0.toNat:f)!=10)=c:=by rw[bne,EH];rfl
     replace HB:=d (HB.q.bZ hb2);replace HX:=d (HX.q.keep hb2)
     clear hb2;go_wp2_with fail;refine(oh _ _).mono ?_;rintro e w3 ⟨rfl,hb3⟩;rw[mQ];obtain⟨G,hG⟩:∃G:Bool,c=G:=⟨_,rfl⟩;have yB:=d ((Bx.new w2 (aI 0 p [] c) 202).keep hb3);rw[hG] at yB;have HZ3:=d (show w.1.size<w2.1.size from HX.q.2.2);have HB3:=d ((aA HB.q (m (aI 0 p [] c) 202)).trans (hb3.mono (by have:=HB.q.size;simp;omega)));have kZ:=d ((HX.q.alloc (m (aI 0 p [] c) 202)).keep hb3);obtain⟨tb,htb⟩:∃tb,tb=w2.1.size:=⟨_,rfl⟩;rw[<-htb] at yB HZ3 ⊢;clear hb3 htb hG
   case' true=>
    replace HB:=d (HB.q.bZ hb2);replace HX:=d (HX.q.keep hb2)
    clear hb2;go_wp2_with fail;refine(oh _ _).mono ?_;rintro e w3 ⟨rfl,hb3⟩;rw[mQ];obtain⟨G,hG⟩:∃G:Bool,c=G:=⟨_,rfl⟩;have yB:=d ((Bx.new w2 (aI 0 p [] c) 202).keep hb3);rw[hG] at yB;have HZ3:=d (show w.1.size<w2.1.size from HX.q.2.2);have HB3:=d ((aA HB.q (m (aI 0 p [] c) 202)).trans (hb3.mono (by have:=HB.q.size;simp;omega)));have kZ:=d ((HX.q.alloc (m (aI 0 p [] c) 202)).keep hb3);obtain⟨tb,htb⟩:∃tb,tb=w2.1.size:=⟨_,rfl⟩;rw[<-htb] at yB HZ3 ⊢;clear hb3 htb hG
 all_goals
  go_wp2_with fail;refine(HW _ HB3.q).q.mono ?_;rintro e w4 ⟨rfl,hb4⟩;have ig:=d (HB3.q.bZ hb4);have qO:=d (kZ.q.keep hb4);have nC:=d (yB.q.keep hb4);clear hb4 HB3 kZ yB
  first
  |go_wp2_with fail
   refine(ae3 _ (by rw[fE];have:=Fz.q;omega) _).mono ?_;rintro e w5 ⟨rfl,hb5⟩;have hx5:=qO.q.keep hb5;have kz:=d (ig.q.bZ hb5);have BV:=hx5.1;have hf5:=hx5.2.1;clear hx5 hb5;go_wp2_with fail;refine bodyPost_ret (v:= .tuple #[.agg (aI 0 0 [] c),.int .i64 (q:f),.int .i64 120]) (by simp[results,results137,go_sem,BV]) rfl ⟨c,rfl,?_⟩;exact(((kz.q.setCell (p:=⟨w.1.size,0,none⟩) (aB _) _).setCell (p:=⟨w.1.size,1,none⟩) (aB _) _).setCell (p:=⟨w.1.size,2,none⟩) (aB _) _).setCell (p:=⟨w.1.size,3,none⟩) (aB _) _
  |have hcy:=nC.q.1;have BP:=nC.q.2.1
   go_wp2_with fail;refine aC 99 [(0,0),(1,0),(2,0),(3,0),(4,2),(5,0),(6,2)] (λ_=>True) (λ_=>True) ay ay (trivial) (trivial) ?_;refine qC ?_;refine aF rfl rfl (λK hK=>?_);go_simp;refine hK _ _ ⟨y,y⟩ ?_;clear hK K;refine qC ?_;refine aF rfl rfl (λK hK=>?_);go_simp;refine hK _ _ ⟨y,y⟩ ?_;clear hK K;refine aP ?_;have nD:=d (((nC.q.bf 0 ak (.int .i64 1)).bf 2 ak (.string ⟨((b::t).take n).toArray⟩)).drew);have vD:=d (((qO.q.setOther tb 0 (.int .i64 1) (by have:=HZ3.q;omega)).setOther tb 2 (.string ⟨((b::t).take n).toArray⟩) (by have:=HZ3.q;omega)).drew);have kz:=d (((ig.q.setCell (p:=⟨tb,0,none⟩) (by have:=HZ3.q;show _<=tb;omega) (.int .i64 1)).setCell (p:=⟨tb,2,none⟩) (by have:=HZ3.q;show _<=tb;omega) (.string ⟨((b::t).take n).toArray⟩)).drew);generalize((w4.setCell ⟨tb,0,none⟩ (.int .i64 1)).setCell ⟨tb,2,none⟩ (.string ⟨((b::t).take n).toArray⟩)).drew=Z at nD vD kz ⊢;clear hcy BP qO nC ig;have hcz:=vD.q.1;have hfz:=vD.q.2.1;go_wp2_with fail;refine aC 99 [(0,0),(1,0),(2,0),(3,0),(4,0),(5,0),(6,2),(7,0),(8,0)] (λ_=>True) (λW'=>Bx W' tb (aI 1 p ((b::t).take n) G)) ay ay (trivial) (nD.q.drew) ?_;refine qC ?_;refine aF rfl rfl (λK hK=>?_);go_simp;refine hK _ _ ⟨y,(((nD.q.drew.setOther w.1.size 0 _ (by have:=HZ3.q;omega)).setOther w.1.size 1 _ (by have:=HZ3.q;omega)).setOther w.1.size 2 _ (by have:=HZ3.q;omega)).setOther w.1.size 3 _ (by have:=HZ3.q;omega)⟩ ?_;clear hK K;refine qC ?_;refine aP ?_;go_wp2_with fail;have hwq:IntKind.i64.wrap (q:f)=(q:f):=Go.IntWalk.i64_in (q:f) ah;refine bodyPost_ret (v:= .tuple #[.agg (aI 1 p ((b::t).take n) G),.int .i64 (q:f),.int .i64 0]) (by simp[results,results137,go_sem,hcz,hwq]) rfl ⟨G,rfl,?_⟩;exact((((kz.q.drew).setCell (p:=⟨w.1.size,0,none⟩) (aB _) _).setCell (p:=⟨w.1.size,1,none⟩) (aB _) _).setCell (p:=⟨w.1.size,2,none⟩) (aB _) _).setCell (p:=⟨w.1.size,3,none⟩) (aB _) _
end Yd
