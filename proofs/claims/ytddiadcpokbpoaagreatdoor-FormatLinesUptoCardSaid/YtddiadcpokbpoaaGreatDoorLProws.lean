import Derived.Test.YtddiadcpokbpoaaGreatDoorLOwnPut
set_option linter.all false
set_option maxRecDepth 200000
set_option maxHeartbeats 8000000
namespace Yd
open Go Go.RowKit Go.Proofs
attribute [local go_sem] Oper.semAt_some
section
variable {J Jx:List aP->World->Prop}{D:Nat->Prop}{ls:List aP}{l B:Nat}{w0:World}{Ok:World->Prop}
end
end Yd
namespace Yd
open Bool renaming false->c,true->o
open Go Go.RowKit Go.Proofs Tryz
open Go.Obj renaming cells->m
open Tryz renaming underlying9->j
open Yd renaming hid->d
open _root_ renaming Int->f,trivial->y
@[reducible] def aG (k a:f)(t:Bs)(g:Bool):Array Value:=#[.int .i64 k,.int .i64 a,.string ⟨t.toArray⟩,.bool g]
theorem QT {b:UInt8}{t:Bs}(h:dX (b::t)=o):b.toNat≠32/\b.toNat≠9/\b.toNat≠10/\b.toNat≠35/\b.toNat≠46/\b.toNat≠45/\¬(48<=b.toNat/\b.toNat<=57):=by
 rcases jP b.toNat 128 with h1|h1
 .unfold dX at h
  rw[sQ b t h1] at h;simp only[iQ,aU,Az,bf] at h;have:=h.2.2;omega
 .omega
theorem UH {l:Bs}(h:dX l=o):1<=dV l/\l≠[]:=by
 unfold dX at h;simp only[aU] at h;obtain⟨h1,h2,h3⟩:=h;have h0:l≠[]:=by intro e;rw[e] at h1;simp at h1
 refine⟨?_,h0⟩;unfold dV;rw[lC l jY h0,ay (by simp[h2,jY,h3])];have:=Cy l h0;omega
def M9 (k a:f)(t:Bs)(nx:Nat)(er:f)(w:World)(e:Ending)(w':World):Prop:=∃g:Bool,e= .returned (.tuple #[.agg (aG k a t g),.int .i64 nx,.int .i64 er])/\Below w.1.size w w'
theorem Gb {b:UInt8}{t:Bs}(h:rC b=c)(NG:b.toNat≠35):pJ (b::t)=0/\xC (b::t)=o:=by
 have e:bX (b::t)=b::t:=by unfold bX;rw[List.dropWhile_cons,h];rfl
 have e2:(b::t).takeWhile rC=[]:=by rw[pu,h];rfl
 have h':¬b=35:=λe=>NG (by rw[e];rfl)
 unfold xC pJ;rw[e,e2];simp[h']
theorem O0 {b:UInt8}(h1:b.toNat≠32)(h2:b.toNat≠9):rC b=c:=by
 rw[<-FL];unfold zK;rw[aR.2 ah,aR.2 ah];rfl
theorem O1 (u:Bs):vC u<=24:=by
 unfold vC
 cases h:(List.filter (λi=>decide (i<=24)) (bN ⟨u.toArray⟩ u.length 0)).getLast? with
 |none=>simp
 |some x=>
  have:=List.mem_of_getLast? h
  simpa using(List.mem_filter.1 this).2
theorem Sd (s:Bs)(p:Nat)(l:Bs)(hd:s.drop p=l)(hp:p<=s.length)(hlim:s.length<=1000000)(hb:dX l=o)(w:World)(hT:Lib.Utf8Tabs 5 6 w):
  Calls Tryz.prog 132 #[.string ⟨s.toArray⟩,.int .i64 p] w (λe w'=>if 24<dV l then M9 0 0 [] (p+vC (l.take (dV l))) 120 w e w' else M9 1 p (l.take (dV l)) (p+dV l) 0 w e w'):=by
 obtain⟨hr1,hne⟩:=UH hb;obtain⟨b,t,rfl⟩:∃b t,l=b::t:=by cases l with
  |nil=>exact absurd rfl hne
  |cons b t=>exact⟨b,t,rfl⟩
 obtain⟨n32,n9,n10,n35,n46,n45,Zu⟩:=QT hb;have hll:p+(b::t).length=s.length:=by rw[<-hd,kz];omega
 have gB:=d (Gb (t:=t) (O0 n32 n9) n35);have HS:=λW (hb:Below w.1.size w W)=>d (sV s p (b::t) hd hp hlim W (Utf8Tabs_below hT hb))
 have hsl:=λW=>oD j s p hp W
 rw[hd] at hsl;obtain⟨n,hn⟩:∃n,n=dV (b::t):=⟨_,rfl⟩;have HW:=λW (hb:Below w.1.size w W)=>d (xJ ⟨(b::t).toArray⟩ 108 #[] K8 jY W (λr W' _=>EC r W') (Utf8Tabs_below hT hb))
 rw[show iy ⟨(b::t).toArray⟩ jY=n from hn.symm] at HW;have hnl:n<=(b::t).length:=by rw[hn];exact uz _ _ _ (aA _)
 have hsh:=λW=>AX j (b::t) n hnl W
 have hi0:∀W,(Instr.index 9 (.string ⟨(b::t).toArray⟩) (.int .i64 0)).run Tryz.prog W= .ok (.int .u8 (b.toNat:f)) W:=λW=>jH j (b::t) 0 b rfl W
 have hz:=iM s;have hz1:=iM (b::t);rw[<-hn] at hr1 ⊢;have e10:((b.toNat:f)==10)=c:=aR.2 ah;have e46:((b.toNat:f)==46)=c:=aR.2 ah;have e45:((b.toNat:f)==45)=c:=aR.2 ah;have e0:((n:f)==0)=c:=aR.2 ah;have hw32:wrap32 (b.toNat:f)=(b.toNat:f):=IntWalk.wrap32_in _ (by have:=b.toNat_lt;omega);have kX:gq (b.toNat:f)=c:=by unfold gq;simp;omega
 have hempty:((b::t)==([]:Bs))=c:=rfl;have HT:=d hT;have HD:=d hd;have HN:=d hn;have j4:=d hll;clear hT hd hn hne hb n32 n9 n10 n35 n46 n45 Zu hll;by_cases wB:24<n
 case' pos=>
  have hdn:decide ((24:f)<(n:f))=o:=bA ah;simp only[ay wB];obtain⟨q,hq⟩:∃q,q=p+vC ((b::t).take n):=⟨_,rfl⟩;have Zw:=O1 ((b::t).take n);have hqi:(p:f)+(vC ((b::t).take n):f)=(q:f):=by omega
  have Iu:q<=2000000:=by omega
  rw[<-hq];clear hq Zw wB
 case' neg=>
  have hdn:decide ((24:f)<(n:f))=c:=aX ah;simp only[ak wB];obtain⟨q,hq⟩:∃q,q=p+n:=⟨_,rfl⟩;have hqi:(p:f)+(n:f)=(q:f):=by omega
  have Iu:q<=2000000:=by omega
  have hzn:ByteArray.size ⟨((b::t).take n).toArray⟩=n:=by rw[iM,dN];omega
  rw[<-hq];clear hq wB
 all_goals
  by_cases hp0:p=0
  case' pos=>
   have hdp:decide ((0:f)<(p:f))=c:=aX ah;have Ym:decide (0<p)=c:=aX ah;clear hp0;go_enter func132,ntmps132;go_wp2_with fail;refine(HS _ (aB (Below.refl _ _) _)).q.mono ?_;rintro e w1 ⟨rfl,hb1⟩;have HB:=d ((aB (Below.refl w.1.size w) (m (aG 0 0 [] c) 187)).trans (hb1.mono au));have HX:=d ((Bx.new w (aG 0 0 [] c) 187).keep hb1);clear hb1;rw[gB.q.1,gB.q.2,bM];go_wp2_with fail;refine(nV _ _).mono ?_;rintro e w3 ⟨rfl,hb3⟩;rw[kX];obtain⟨G,hG⟩:∃G:Bool,c=G:=⟨_,rfl⟩;have jM:=d ((Bx.new w1 (aG 0 p [] c) 187).keep hb3);rw[hG] at jM;have HZ3:=d (show w.1.size<w1.1.size from HX.q.2.2);have HB3:=d ((aB HB.q (m (aG 0 p [] c) 187)).trans (hb3.mono (by have:=HB.q.size;simp;omega)));have eX:=d ((HX.q.alloc (m (aG 0 p [] c) 187)).keep hb3);obtain⟨tb,htb⟩:∃tb,tb=w1.1.size:=⟨_,rfl⟩;rw[<-htb] at jM HZ3 ⊢;clear hb3 htb hG
  case' neg=>
   have hdp:decide ((0:f)<(p:f))=o:=bA ah;have Ym:decide (0<p)=o:=bA ah;obtain⟨b0,hb0⟩:∃b0,s[p - 1]?=some b0:=⟨_,eu ah⟩;have hi1:=λW=>jH j s (p - 1) b0 hb0 W
   rw[show((p - 1:Nat):f)=(p:f) - 1 by omega] at hi1;have ajb:wrap32 (b0.toNat:f)=(b0.toNat:f):=IntWalk.wrap32_in _ (by have:=b0.toNat_lt;omega);clear hb0 hp0;go_enter func132,ntmps132;go_wp2_with fail;refine(HS _ (aB (Below.refl _ _) _)).q.mono ?_;rintro e w1 ⟨rfl,hb1⟩;have HB:=d ((aB (Below.refl w.1.size w) (m (aG 0 0 [] c) 187)).trans (hb1.mono au));have HX:=d ((Bx.new w (aG 0 0 [] c) 187).keep hb1);clear hb1;rw[gB.q.1,gB.q.2,bM];go_wp2_with fail;refine(Jb _ _).mono ?_;rintro e w2 ⟨rfl,hb2⟩
   cases hbl:zK (b0.toNat:f)
   case' false=>
    cases Ac:((b0.toNat:f)==10)
    case' false=>
     have Tq:((b0.toNat:f)!=10)=o:=by rw[bne,Ac];rfl
     replace HB:=d (HB.q.bO hb2);replace HX:=d (HX.q.keep hb2)
     clear hb2;go_wp2_with fail;refine(nV _ _).mono ?_;rintro e w3 ⟨rfl,hb3⟩;rw[kX];obtain⟨G,hG⟩:∃G:Bool,o=G:=⟨_,rfl⟩;have jM:=d ((Bx.new w2 (aG 0 p [] o) 187).keep hb3);rw[hG] at jM;have HZ3:=d (show w.1.size<w2.1.size from HX.q.2.2);have HB3:=d ((aB HB.q (m (aG 0 p [] o) 187)).trans (hb3.mono (by have:=HB.q.size;simp;omega)));have eX:=d ((HX.q.alloc (m (aG 0 p [] o) 187)).keep hb3);obtain⟨tb,htb⟩:∃tb,tb=w2.1.size:=⟨_,rfl⟩;rw[<-htb] at jM HZ3 ⊢;clear hb3 htb hG
    case' true=>
     have Tq:((b0.toNat:f)!=10)=c:=by rw[bne,Ac];rfl
     replace HB:=d (HB.q.bO hb2);replace HX:=d (HX.q.keep hb2)
     clear hb2;go_wp2_with fail;refine(nV _ _).mono ?_;rintro e w3 ⟨rfl,hb3⟩;rw[kX];obtain⟨G,hG⟩:∃G:Bool,c=G:=⟨_,rfl⟩;have jM:=d ((Bx.new w2 (aG 0 p [] c) 187).keep hb3);rw[hG] at jM;have HZ3:=d (show w.1.size<w2.1.size from HX.q.2.2);have HB3:=d ((aB HB.q (m (aG 0 p [] c) 187)).trans (hb3.mono (by have:=HB.q.size;simp;omega)));have eX:=d ((HX.q.alloc (m (aG 0 p [] c) 187)).keep hb3);obtain⟨tb,htb⟩:∃tb,tb=w2.1.size:=⟨_,rfl⟩;rw[<-htb] at jM HZ3 ⊢;clear hb3 htb hG
   case' true=>
    replace HB:=d (HB.q.bO hb2);replace HX:=d (HX.q.keep hb2)
    clear hb2;go_wp2_with fail;refine(nV _ _).mono ?_;rintro e w3 ⟨rfl,hb3⟩;rw[kX];obtain⟨G,hG⟩:∃G:Bool,c=G:=⟨_,rfl⟩;have jM:=d ((Bx.new w2 (aG 0 p [] c) 187).keep hb3);rw[hG] at jM;have HZ3:=d (show w.1.size<w2.1.size from HX.q.2.2);have HB3:=d ((aB HB.q (m (aG 0 p [] c) 187)).trans (hb3.mono (by have:=HB.q.size;simp;omega)));have eX:=d ((HX.q.alloc (m (aG 0 p [] c) 187)).keep hb3);obtain⟨tb,htb⟩:∃tb,tb=w2.1.size:=⟨_,rfl⟩;rw[<-htb] at jM HZ3 ⊢;clear hb3 htb hG
 all_goals
  go_wp2_with fail;refine(HW _ HB3.q).q.mono ?_;rintro e w4 ⟨rfl,hb4⟩;have fU:=d (HB3.q.bO hb4);have lu:=d (eX.q.keep hb4);have jX:=d (jM.q.keep hb4);clear hb4 HB3 eX jM
  first
  |go_wp2_with fail
   refine(adn _ (by rw[dN];have:=j4.q;omega) _).mono ?_;rintro e w5 ⟨rfl,hb5⟩;have hx5:=lu.q.keep hb5;have jv:=d (fU.q.bO hb5);have pK:=hx5.1;have hf5:=hx5.2.1;clear hx5 hb5;go_wp2_with fail;refine bodyPost_ret (v:= .tuple #[.agg (aG 0 0 [] c),.int .i64 (q:f),.int .i64 120]) (by simp[results,results132,go_sem,pK]) rfl ⟨c,rfl,?_⟩;exact(((jv.q.setCell (p:=⟨w.1.size,0,none⟩) (aA _) _).setCell (p:=⟨w.1.size,1,none⟩) (aA _) _).setCell (p:=⟨w.1.size,2,none⟩) (aA _) _).setCell (p:=⟨w.1.size,3,none⟩) (aA _) _
  |have hcy:=jX.q.1;have Aq:=jX.q.2.1
   go_wp2_with fail;refine aC 99 [(0,0),(1,0),(2,0),(3,0),(4,2),(5,0),(6,2)] (λ_=>True) (λ_=>True) av av (trivial) (trivial) ?_;refine qC ?_;refine aD rfl rfl (λK hK=>?_);go_simp;refine hK _ _ ⟨y,y⟩ ?_;clear hK K;refine qC ?_;refine aD rfl rfl (λK hK=>?_);go_simp;refine hK _ _ ⟨y,y⟩ ?_;clear hK K;refine aJ ?_;have lG:=d (((jX.q.aZ 0 au (.int .i64 1)).aZ 2 au (.string ⟨((b::t).take n).toArray⟩)).drew);have pO:=d (((lu.q.setOther tb 0 (.int .i64 1) (by have:=HZ3.q;omega)).setOther tb 2 (.string ⟨((b::t).take n).toArray⟩) (by have:=HZ3.q;omega)).drew);have jv:=d (((fU.q.setCell (p:=⟨tb,0,none⟩) (by have:=HZ3.q;show _<=tb;omega) (.int .i64 1)).setCell (p:=⟨tb,2,none⟩) (by have:=HZ3.q;show _<=tb;omega) (.string ⟨((b::t).take n).toArray⟩)).drew);generalize((w4.setCell ⟨tb,0,none⟩ (.int .i64 1)).setCell ⟨tb,2,none⟩ (.string ⟨((b::t).take n).toArray⟩)).drew=Z at lG pO jv ⊢;clear hcy Aq lu jX fU;have hcz:=pO.q.1;have hfz:=pO.q.2.1;go_wp2_with fail;refine aC 99 [(0,0),(1,0),(2,0),(3,0),(4,0),(5,0),(6,2),(7,0),(8,0)] (λ_=>True) (λW'=>Bx W' tb (aG 1 p ((b::t).take n) G)) av av (trivial) (lG.q.drew) ?_;refine qC ?_;refine aD rfl rfl (λK hK=>?_);go_simp;refine hK _ _ ⟨y,(((lG.q.drew.setOther w.1.size 0 _ (by have:=HZ3.q;omega)).setOther w.1.size 1 _ (by have:=HZ3.q;omega)).setOther w.1.size 2 _ (by have:=HZ3.q;omega)).setOther w.1.size 3 _ (by have:=HZ3.q;omega)⟩ ?_;clear hK K;refine qC ?_;refine aJ ?_;go_wp2_with fail;have hwq:IntKind.i64.wrap (q:f)=(q:f):=Go.IntWalk.i64_in (q:f) ah;refine bodyPost_ret (v:= .tuple #[.agg (aG 1 p ((b::t).take n) G),.int .i64 (q:f),.int .i64 0]) (by simp[results,results132,go_sem,hcz,hwq]) rfl ⟨G,rfl,?_⟩;exact((((jv.q.drew).setCell (p:=⟨w.1.size,0,none⟩) (aA _) _).setCell (p:=⟨w.1.size,1,none⟩) (aA _) _).setCell (p:=⟨w.1.size,2,none⟩) (aA _) _).setCell (p:=⟨w.1.size,3,none⟩) (aA _) _
end Yd
