import Derived.Test.YtddiadcpokbpoaaGreatDoorLF2
import Derived.Test.YtddiadcpokbpoaaGreatDoorLProws
import Derived.Recover
import Derived.Defers
set_option linter.all false
set_option maxRecDepth 200000
set_option maxHeartbeats 8000000
namespace Yd
open Go Go.RowKit Go.Proofs Tryz
attribute [local go_sem] Oper.semAt_some
theorem LF {α:Type}[BEq α][LawfulBEq α]{L:List α}{x:α}{i:Nat}(h:L[i]?=some x)(hn:x∉L.take i):L.idxOf x=i/\x∈L:=by
 obtain⟨h1,h2⟩:=bG.1 h;have e1:L=L.take i++x::L.drop (i+1):=by rw[<-h2,List.getElem_cons_drop,Cg]
 have e2:(L.take i++x::L.drop (i+1)).idxOf x=i:=by
  rw[List.idxOf_append,ak hn,List.idxOf_cons_self,dN];omega
 rw[<-e1] at e2;exact⟨e2,bQ h⟩
def aja (a:Option Addr)(c:Nat)(L:List Bs)(s:Bs)(m:Int)(w:World)(e:Ending)(w':World):Prop:=
 Below w.1.size w w'/\
 if s∈L then e= .returned (.tuple #[.slice a L.length c,.int .i64 (L.idxOf s:Int),.bool true])
 else ∃a' c',e= .returned (.tuple #[.slice a' (L.length+1) c',.int .i64 (L.length:Int),.bool (decide ((L.length:Int)<m))])/\Own w' w.1.size 9 1 encStr (.slice a' (L.length+1) c') (L++[s])
theorem M8 (L:List Bs)(a:Option Addr)(c:Nat)(s:Bs)(m:Int)(w:World)(hr:Row w 1 encStr a L.length c L)(hl:L.length<=1000000):
  Calls Tryz.prog 98 #[.slice a L.length c,.string ⟨s.toArray⟩,.int .i64 m] w (aja a c L s m w):=by
 have hle:=hr.le;have HR:=hid hr;have HL:=hid hl;obtain⟨ti,z,hi⟩:=uw;have HI:=hid hi;clear hr hl hi;obtain⟨n,hn⟩:∃n,n=L.length:=⟨_,rfl⟩;have HN:=hid hn;rw[<-hn] at hle ⊢;clear hn;go_enter func98,ntmps98;go_wp2_with fail
 go_loopw [13] (λv wr=>∃i:Nat,v= .int .i64 i/\i<=n/\s∉L.take i/\wr=w) (λv _=>n - (RowKit.intOf v).toNat)
 case atStart=>exact⟨0,rfl,aV _,by simp,rfl⟩
 case round=>
  obtain⟨i,rfl,hi,hni,rfl⟩:=hrel;by_cases hlt:i<n
  .obtain⟨x,b,o,hx,rfl,hc⟩:=HR.q.at_ (by rw[<-HN.q];exact hlt)
   have h0:=hc 0 _ rfl;simp only[jo,bM] at h0;have NE:=hid hni;have HX:=hid hx;clear hx hni hc;by_cases hq:x=s
   .subst hq
    have hres:=LF HX.q NE.q;have nk:=hid hres;clear hres;go_wp2_with fail;refine bodyPost_ret (v:= .tuple #[.slice (some ⟨b,o,none⟩) n c,.int .i64 (i:Int),.bool true]) (by simp[results,results98,go_sem]) rfl ?_;refine⟨Below.refl _ _,?_⟩;rw[ay nk.q.2,nk.q.1,HN.q]
   .have hbe:(x==s)=false:=aR.2 hq
    have hnx:s∉L.take (i+1):=by
     rw[eO,HX.q];intro hm;rcases bJ.1 hm with hm|hm
     .exact NE.q hm
     .have:s=x:=by simpa using hm
      exact hq this.symm
    have Fa:=hid hnx;clear hq hnx;go_wp2_with fail;go_roundw
    case rel=>exact⟨i+1,by go_num,by omega,Fa.q,trivial⟩
    case measure=>simp[RowKit.intOf];omega
  .have hie:i=n:=by omega
   subst hie;have NE:Hid (s∉L):=hid (by rw[HN.q,List.take_length] at hni;exact hni);have HO:=hid (Own.new (hc:=jQ) wr wr.1.size 9 (enc:=encStr) #[] [] (aA _) rfl (aV _));have HRa:=hid (HR.q.below (aB (Below.refl wr.1.size wr) (.cells #[] 9)) rfl);have HBa:=hid (aB (Below.refl wr.1.size wr) (.cells #[] 9));have HB1:Hid (i<=1000000):=hid (by have:=HL.q;rw[HN.q];exact this);have HRb:Hid (Row (wr.alloc (.cells #[] 9)) 1 encStr a i c L):=hid (by rw[HN.q];exact HRa.q);have j4:Hid (([]:List Bs).length+i=i):=hid au;clear hni
   go_wp2_with (first
    |(at_builtin;refine eB rfl _ _ 27 rfl ti z 16 underlying27 HI.q.1 HI.q.2.1 HI.q.2.2.1 HI.q.2.2.2.1 HI.q.2.2.2.2 rfl HO.q a i c i L rfl HRb.q j4.q (by have:=HB1.q;omega) (by have:=HB1.q;unfold maxLen;omega) HBa.q.size ?_;intro a' c' w1 hown1 hg1 rz;have HW1:=hid (below_app HBa.q HO.q (aA _) HBa.q.size hg1);have gu:=hid hown1;clear hown1 hg1 rz)
    |(at_builtin;refine eB rfl _ _ 27 rfl ti z 16 underlying27 HI.q.1 HI.q.2.1 HI.q.2.2.1 HI.q.2.2.2.1 HI.q.2.2.2.2 rfl (gu.q.alloc _) (some ⟨w1.1.size,0,none⟩) 1 1 (i+1) [s] rfl (Row.str1 w1 s) (by have:=HN.q;simp;omega) (by have:=HB1.q;omega) (by have:=HB1.q;unfold maxLen;omega) (dL HW1.q.size au) ?_;intro a2 c2 w2 hown2 hg2 asv))
   refine bodyPost_ret (v:= .tuple #[.slice a2 (i+1) c2,.int .i64 (i:Int),.bool (decide ((i:Int)<m))]) (by simp[results,results98,go_sem]) rfl ?_;refine⟨below_app (aB HW1.q _) (gu.q.alloc _) (aA _) (dL HW1.q.size au) hg2,?_⟩;rw[ak NE.q];exact⟨a2,c2,by rw[HN.q],by rw[<-HN.q];exact hown2⟩
end Yd
namespace Yd
open Array renaming size_setIfInBounds->l
open Bool renaming false_or->x,true_or->y
open List renaming idxOf_append->u
open Option renaming none->m
open Go Go.RowKit Go.Proofs Tryz
open Go.IntKind renaming i64->f
open Go.Value renaming int->d,bool->p,slice->A,pointer->B,string->C
open Yd renaming hid->n
attribute [local go_sem] Oper.semAt_some
def rA (nl:Nat->List Bs):Bool:=(List.range 4).all (λi=>decide ((nl i).length<=jB i))
theorem y8 (nl:Nat->List Bs):rA nl=true↔∀i,i<4->(nl i).length<=jB i:=by
 unfold rA;simp only[jc,wT,bf]
theorem ae0 (nl:Nat->List Bs){k:Nat}(hk:k<4)(s:Bs):rA (nQ nl k s)=(rA nl && (decide (s∈nl k)||decide ((nl k).length<jB k))):=by
 have h:∀i,(nQ nl k s i).length=if i=k/\s∉nl k then(nl i).length+1 else(nl i).length:=λi=>by
  unfold nQ cZ;by_cases hi:i=k
  .subst hi
   by_cases hs:s∈nl i
   .simp[hs]
   .simp[hs]
  .simp[hi]
 rw[Bool.eq_iff_iff,aU,Az,y8,y8,bf,bf]
 constructor
 .intro q
  refine⟨λi hi=>?_,?_⟩
  .have:=q i hi
   rw[h] at this
   split at this <;> omega
  .by_cases hs:s∈nl k
   .exact .inl hs
   .have:=q k hk
    rw[h,ay ⟨rfl,hs⟩] at this;exact .inr ah
 .rintro⟨q,r⟩ i hi
  rw[h];have:=q i hi
  split
  .rename_i hc
   obtain⟨rfl,hs⟩:=hc;rcases r with r|r
   .exact absurd r hs
   .omega
  .exact this
structure lg (w:World)(R:Nat)(cs:Array Value)(c:Cont)(es:List EvC)(ds:List aM)(ms:List aN)(g:Bool):Prop where
 s:xB 0 (λ_=>True) w R cs c es ds ms
 z:cs.size=9
 k:cs[8]?=some (p (g && rA c.nl))
def lF (R:Nat)(cs:Array Value)(c:Cont)(es:List EvC)(ds:List aM)(ms:List aN)(g:Bool)(v:Value)(w:World)(e:Ending)(w':World):Prop:=
 e= .returned v/\Same (λi=>i≠R) w w'/\∃cs',lg w' R cs' c es ds ms g/\∀j,4<=j->j<8->cs'[j]?=cs[j]?
theorem lg.below {X Y:World}{R:Nat}{cs:Array Value}{c:Cont}{es:List EvC}{ds:List aM}{ms:List aN}{g:Bool}(h:lg X R cs c es ds ms g)(hb:Below X.1.size X Y):lg Y R cs c es ds ms g:=
 ⟨h.s.qR (Same.of_below hb (λ_ _ h=>h)) (h.s.t.below hb) (λ_ _ _=>rfl),h.z,h.k⟩
theorem lg.put {w w1:World}{R k:Nat}{cs:Array Value}{c:Cont}{es:List EvC}{ds:List aM}{ms:List aN}{g b:Bool}{s:Bs}{v:Value}(h:lg w R cs c es ds ms g)(hk:k<4)(hb:Below w.1.size w w1)
  (ho:Own w1 (R+1) 9 1 encStr v (cZ (c.nl k) s)) (hbb:b=((g && rA c.nl) && (decide (s∈c.nl k)||decide ((c.nl k).length<jB k)))):
  lF R cs (c.put k s) es ds ms g (d f (c.no k s)) w (.returned (d f (c.no k s))) ((w1.setCell ⟨R,k,m⟩ v).setCell ⟨R,8,m⟩ (p b)):=by
 have h1:=h.below hb;have hz:=h1.z;have hs:Same (λi=>i≠R) w1 ((w1.setCell ⟨R,k,m⟩ v).setCell ⟨R,8,m⟩ (p b)):=((Same.refl' w1).setTail (λh=>h rfl)).setTail (λh=>h rfl);have hj:∀j,j≠k->j≠8->((cs.setIfInBounds k v).setIfInBounds 8 (p b))[j]?=cs[j]?:=λj h2 h3=>by rw[jO (λe=>h3 e.symm),jO (λe=>h2 e.symm)]
 refine⟨rfl,(Same.of_below hb (λ_ _ h=>h)).tr hs,(cs.setIfInBounds k v).setIfInBounds 8 (p b),⟨h1.s.qR hs ⟨(h1.s.t.b.aZ k ah v).aZ 8 (by rw[l];omega) _,λj h4=>?_,trivial⟩ (λj h2 h3=>hj j ah ah),by rw[l,l];exact hz,?_⟩,λj h2 h3=>hj j ah ah⟩
 .have e0:8*0+j=j:=by omega
  rw[e0];by_cases hjk:j=k
  .subst hjk
   refine⟨v,?_,?_⟩
   .rw[jO ah,vQ ah]
   .show Own _ _ _ _ _ _ (if j=j then cZ (c.nl j) s else c.nl j)
    rw[ay rfl];exact ho.gY hs
  .obtain⟨v',h5,h6⟩:=h1.s.t.t j h4
   rw[e0] at h5;refine⟨v',by rw[hj j hjk ah];exact h5,?_⟩;show Own _ _ _ _ _ _ (if j=k then cZ (c.nl k) s else c.nl j);rw[ak hjk];exact h6.gY hs
 .rw[vQ (by rw[l];omega)]
  show some (Value.bool b)=some (p (g && rA (nQ c.nl k s)));rw[ae0 _ hk,<-Bb,<-hbb]
section
variable {R:Nat}{cs:Array Value}{c:Cont}{es:List EvC}{ds:List aM}{ms:List aN}{g:Bool}
theorem JY (s:Bs)(w:World)(h:lg w R cs c es ds ms g)(hl:(c.nl 0).length<=1000000):
  Calls Tryz.prog 99 #[B (some ⟨R,0,m⟩),C ⟨s.toArray⟩] w (lF R cs (c.put 0 s) es ds ms g (d f (c.no 0 s)) w):=by
 obtain⟨v,hv,hO⟩:=h.s.t.t 0 aj;obtain⟨a,q,rfl,_,_⟩:=hO.shape;have HP:=n (M8 (c.nl 0) a q s 300 w (hO.row (hc:=jQ) ah) hl);have HH:=n h;have HO:=n hO;have hx:=(h.s.t.b.1 0).trans hv;have h8:=(h.s.t.b.1 8).trans h.k;obtain⟨b,hb⟩:∃b,b=(g && rA c.nl):=⟨_,rfl⟩;rw[<-hb] at h8;have gy:=n hb;have H8:=n h8;clear h hv hO hb hl;go_enter func99,ntmps99;go_wp2_with fail;refine HP.q.mono ?_;rintro e w1 ⟨hb1,he⟩;have h8:=bn hb1 rfl H8.q;have hf:=(HH.q.s.t.b.keep hb1).2.1 0;have rU:=(HH.q.s.t.b.keep hb1).2.1 8;have hlt:=(HH.q.s.t.b.keep hb1).2.2;have hxk:=bn hb1 rfl hx;have HB1:=n hb1;clear hx hb1;by_cases hm:s∈c.nl 0
 .rw[ay hm] at he
  obtain rfl:=he;have hno:c.no 0 s=((c.nl 0).idxOf s:Int):=by unfold Cont.no nK;rw[pU hm]
  have HF:Hid (∀b',b'=(b && true)->lF R cs (c.put 0 s) es ds ms g (d f (c.no 0 s)) w (.returned (d f ((c.nl 0).idxOf s:Int))) ((w1.setCell ⟨R,0,m⟩ (A a (c.nl 0).length q)).setCell ⟨R,8,m⟩ (p b'))):=n (λb' hb'=>
   (show lF R cs (c.put 0 s) es ds ms g (d f (c.no 0 s)) w (.returned (d f ((c.nl 0).idxOf s:Int))) _ from by rw[<-hno];exact HH.q.put aj HB1.q (by rw[pU hm];exact HO.q.below HB1.q rfl) (by rw[hb',gy.q,bA hm,y])))
  clear hm hno
  cases b
  all_goals
   go_wp2_with fail;go_ret;exact HF.q _ (by rfl)
 .rw[ak hm] at he
  obtain⟨a',q',rfl,how⟩:=he;obtain⟨o,ho⟩:∃o,o=decide (((c.nl 0).length:Int)<300):=⟨_,rfl⟩;have FJ:o=decide ((c.nl 0).length<jB 0):=by rw[ho];exact decide_eq_decide.2 (by show _↔_<300;omega)
  rw[<-ho];have hno:c.no 0 s=((c.nl 0).length:Int):=by
   unfold Cont.no nK;rw[nE hm,u,ak hm];simp
  have HF:Hid (∀b',b'=(b && o)->lF R cs (c.put 0 s) es ds ms g (d f (c.no 0 s)) w (.returned (d f ((c.nl 0).length:Int))) ((w1.setCell ⟨R,0,m⟩ (A a' ((c.nl 0).length+1) q')).setCell ⟨R,8,m⟩ (p b'))):=n (λb' hb'=>
   (show lF R cs (c.put 0 s) es ds ms g (d f (c.no 0 s)) w (.returned (d f ((c.nl 0).length:Int))) _ from by rw[<-hno];exact HH.q.put aj HB1.q (by rw[nE hm];exact how.mono (HH.q.s.t.b.2.2)) (by rw[hb',gy.q,aX hm,x,FJ])))
  clear hm hno ho FJ how
  cases b <;> cases o
  all_goals
   go_wp2_with fail;go_ret;exact HF.q _ (by rfl)
theorem Vj (s:Bs)(w:World)(h:lg w R cs c es ds ms g)(hl:(c.nl 1).length<=1000000):
  Calls Tryz.prog 55 #[B (some ⟨R,0,m⟩),C ⟨s.toArray⟩] w (lF R cs (c.put 1 s) es ds ms g (d f (c.no 1 s)) w):=by
 obtain⟨v,hv,hO⟩:=h.s.t.t 1 aj;obtain⟨a,q,rfl,_,_⟩:=hO.shape;have HP:=n (M8 (c.nl 1) a q s 60 w (hO.row (hc:=jQ) ah) hl);have HH:=n h;have HO:=n hO;have hx:=(h.s.t.b.1 1).trans hv;have h8:=(h.s.t.b.1 8).trans h.k;obtain⟨b,hb⟩:∃b,b=(g && rA c.nl):=⟨_,rfl⟩;rw[<-hb] at h8;have gy:=n hb;have H8:=n h8;clear h hv hO hb hl;go_enter func55,ntmps55;go_wp2_with fail;refine HP.q.mono ?_;rintro e w1 ⟨hb1,he⟩;have h8:=bn hb1 rfl H8.q;have hf:=(HH.q.s.t.b.keep hb1).2.1 1;have rU:=(HH.q.s.t.b.keep hb1).2.1 8;have hlt:=(HH.q.s.t.b.keep hb1).2.2;have hxk:=bn hb1 rfl hx;have HB1:=n hb1;clear hx hb1;by_cases hm:s∈c.nl 1
 .rw[ay hm] at he
  obtain rfl:=he;have hno:c.no 1 s=((c.nl 1).idxOf s:Int):=by unfold Cont.no nK;rw[pU hm]
  have HF:Hid (∀b',b'=(b && true)->lF R cs (c.put 1 s) es ds ms g (d f (c.no 1 s)) w (.returned (d f ((c.nl 1).idxOf s:Int))) ((w1.setCell ⟨R,1,m⟩ (A a (c.nl 1).length q)).setCell ⟨R,8,m⟩ (p b'))):=n (λb' hb'=>
   (show lF R cs (c.put 1 s) es ds ms g (d f (c.no 1 s)) w (.returned (d f ((c.nl 1).idxOf s:Int))) _ from by rw[<-hno];exact HH.q.put aj HB1.q (by rw[pU hm];exact HO.q.below HB1.q rfl) (by rw[hb',gy.q,bA hm,y])))
  clear hm hno
  cases b
  all_goals
   go_wp2_with fail;go_ret;exact HF.q _ (by rfl)
 .rw[ak hm] at he
  obtain⟨a',q',rfl,how⟩:=he;obtain⟨o,ho⟩:∃o,o=decide (((c.nl 1).length:Int)<60):=⟨_,rfl⟩;have FJ:o=decide ((c.nl 1).length<jB 1):=by rw[ho];exact decide_eq_decide.2 (by show _↔_<60;omega)
  rw[<-ho];have hno:c.no 1 s=((c.nl 1).length:Int):=by
   unfold Cont.no nK;rw[nE hm,u,ak hm];simp
  have HF:Hid (∀b',b'=(b && o)->lF R cs (c.put 1 s) es ds ms g (d f (c.no 1 s)) w (.returned (d f ((c.nl 1).length:Int))) ((w1.setCell ⟨R,1,m⟩ (A a' ((c.nl 1).length+1) q')).setCell ⟨R,8,m⟩ (p b'))):=n (λb' hb'=>
   (show lF R cs (c.put 1 s) es ds ms g (d f (c.no 1 s)) w (.returned (d f ((c.nl 1).length:Int))) _ from by rw[<-hno];exact HH.q.put aj HB1.q (by rw[nE hm];exact how.mono (HH.q.s.t.b.2.2)) (by rw[hb',gy.q,aX hm,x,FJ])))
  clear hm hno ho FJ how
  cases b <;> cases o
  all_goals
   go_wp2_with fail;go_ret;exact HF.q _ (by rfl)
theorem FK (s:Bs)(w:World)(h:lg w R cs c es ds ms g)(hl:(c.nl 2).length<=1000000):
  Calls Tryz.prog 52 #[B (some ⟨R,0,m⟩),C ⟨s.toArray⟩] w (lF R cs (c.put 2 s) es ds ms g (d f (c.no 2 s)) w):=by
 obtain⟨v,hv,hO⟩:=h.s.t.t 2 aj;obtain⟨a,q,rfl,_,_⟩:=hO.shape;have HP:=n (M8 (c.nl 2) a q s 300 w (hO.row (hc:=jQ) ah) hl);have HH:=n h;have HO:=n hO;have hx:=(h.s.t.b.1 2).trans hv;have h8:=(h.s.t.b.1 8).trans h.k;obtain⟨b,hb⟩:∃b,b=(g && rA c.nl):=⟨_,rfl⟩;rw[<-hb] at h8;have gy:=n hb;have H8:=n h8;clear h hv hO hb hl;go_enter func52,ntmps52;go_wp2_with fail;refine HP.q.mono ?_;rintro e w1 ⟨hb1,he⟩;have h8:=bn hb1 rfl H8.q;have hf:=(HH.q.s.t.b.keep hb1).2.1 2;have rU:=(HH.q.s.t.b.keep hb1).2.1 8;have hlt:=(HH.q.s.t.b.keep hb1).2.2;have hxk:=bn hb1 rfl hx;have HB1:=n hb1;clear hx hb1;by_cases hm:s∈c.nl 2
 .rw[ay hm] at he
  obtain rfl:=he;have hno:c.no 2 s=((c.nl 2).idxOf s:Int):=by unfold Cont.no nK;rw[pU hm]
  have HF:Hid (∀b',b'=(b && true)->lF R cs (c.put 2 s) es ds ms g (d f (c.no 2 s)) w (.returned (d f ((c.nl 2).idxOf s:Int))) ((w1.setCell ⟨R,2,m⟩ (A a (c.nl 2).length q)).setCell ⟨R,8,m⟩ (p b'))):=n (λb' hb'=>
   (show lF R cs (c.put 2 s) es ds ms g (d f (c.no 2 s)) w (.returned (d f ((c.nl 2).idxOf s:Int))) _ from by rw[<-hno];exact HH.q.put aj HB1.q (by rw[pU hm];exact HO.q.below HB1.q rfl) (by rw[hb',gy.q,bA hm,y])))
  clear hm hno
  cases b
  all_goals
   go_wp2_with fail;go_ret;exact HF.q _ (by rfl)
 .rw[ak hm] at he
  obtain⟨a',q',rfl,how⟩:=he;obtain⟨o,ho⟩:∃o,o=decide (((c.nl 2).length:Int)<300):=⟨_,rfl⟩;have FJ:o=decide ((c.nl 2).length<jB 2):=by rw[ho];exact decide_eq_decide.2 (by show _↔_<300;omega)
  rw[<-ho];have hno:c.no 2 s=((c.nl 2).length:Int):=by
   unfold Cont.no nK;rw[nE hm,u,ak hm];simp
  have HF:Hid (∀b',b'=(b && o)->lF R cs (c.put 2 s) es ds ms g (d f (c.no 2 s)) w (.returned (d f ((c.nl 2).length:Int))) ((w1.setCell ⟨R,2,m⟩ (A a' ((c.nl 2).length+1) q')).setCell ⟨R,8,m⟩ (p b'))):=n (λb' hb'=>
   (show lF R cs (c.put 2 s) es ds ms g (d f (c.no 2 s)) w (.returned (d f ((c.nl 2).length:Int))) _ from by rw[<-hno];exact HH.q.put aj HB1.q (by rw[nE hm];exact how.mono (HH.q.s.t.b.2.2)) (by rw[hb',gy.q,aX hm,x,FJ])))
  clear hm hno ho FJ how
  cases b <;> cases o
  all_goals
   go_wp2_with fail;go_ret;exact HF.q _ (by rfl)
theorem Vk (s:Bs)(w:World)(h:lg w R cs c es ds ms g)(hl:(c.nl 3).length<=1000000):
  Calls Tryz.prog 54 #[B (some ⟨R,0,m⟩),C ⟨s.toArray⟩] w (lF R cs (c.put 3 s) es ds ms g (d f (c.no 3 s)) w):=by
 obtain⟨v,hv,hO⟩:=h.s.t.t 3 aj;obtain⟨a,q,rfl,_,_⟩:=hO.shape;have HP:=n (M8 (c.nl 3) a q s 60 w (hO.row (hc:=jQ) ah) hl);have HH:=n h;have HO:=n hO;have hx:=(h.s.t.b.1 3).trans hv;have h8:=(h.s.t.b.1 8).trans h.k;obtain⟨b,hb⟩:∃b,b=(g && rA c.nl):=⟨_,rfl⟩;rw[<-hb] at h8;have gy:=n hb;have H8:=n h8;clear h hv hO hb hl;go_enter func54,ntmps54;go_wp2_with fail;refine HP.q.mono ?_;rintro e w1 ⟨hb1,he⟩;have h8:=bn hb1 rfl H8.q;have hf:=(HH.q.s.t.b.keep hb1).2.1 3;have rU:=(HH.q.s.t.b.keep hb1).2.1 8;have hlt:=(HH.q.s.t.b.keep hb1).2.2;have hxk:=bn hb1 rfl hx;have HB1:=n hb1;clear hx hb1;by_cases hm:s∈c.nl 3
 .rw[ay hm] at he
  obtain rfl:=he;have hno:c.no 3 s=((c.nl 3).idxOf s:Int):=by unfold Cont.no nK;rw[pU hm]
  have HF:Hid (∀b',b'=(b && true)->lF R cs (c.put 3 s) es ds ms g (d f (c.no 3 s)) w (.returned (d f ((c.nl 3).idxOf s:Int))) ((w1.setCell ⟨R,3,m⟩ (A a (c.nl 3).length q)).setCell ⟨R,8,m⟩ (p b'))):=n (λb' hb'=>
   (show lF R cs (c.put 3 s) es ds ms g (d f (c.no 3 s)) w (.returned (d f ((c.nl 3).idxOf s:Int))) _ from by rw[<-hno];exact HH.q.put aj HB1.q (by rw[pU hm];exact HO.q.below HB1.q rfl) (by rw[hb',gy.q,bA hm,y])))
  clear hm hno
  cases b
  all_goals
   go_wp2_with fail;go_ret;exact HF.q _ (by rfl)
 .rw[ak hm] at he
  obtain⟨a',q',rfl,how⟩:=he;obtain⟨o,ho⟩:∃o,o=decide (((c.nl 3).length:Int)<60):=⟨_,rfl⟩;have FJ:o=decide ((c.nl 3).length<jB 3):=by rw[ho];exact decide_eq_decide.2 (by show _↔_<60;omega)
  rw[<-ho];have hno:c.no 3 s=((c.nl 3).length:Int):=by
   unfold Cont.no nK;rw[nE hm,u,ak hm];simp
  have HF:Hid (∀b',b'=(b && o)->lF R cs (c.put 3 s) es ds ms g (d f (c.no 3 s)) w (.returned (d f ((c.nl 3).length:Int))) ((w1.setCell ⟨R,3,m⟩ (A a' ((c.nl 3).length+1) q')).setCell ⟨R,8,m⟩ (p b'))):=n (λb' hb'=>
   (show lF R cs (c.put 3 s) es ds ms g (d f (c.no 3 s)) w (.returned (d f ((c.nl 3).length:Int))) _ from by rw[<-hno];exact HH.q.put aj HB1.q (by rw[nE hm];exact how.mono (HH.q.s.t.b.2.2)) (by rw[hb',gy.q,aX hm,x,FJ])))
  clear hm hno ho FJ how
  cases b <;> cases o
  all_goals
   go_wp2_with fail;go_ret;exact HF.q _ (by rfl)
end
end Yd
namespace Yd
open Bool renaming false->g,true->x
open Option renaming none->c,some->j
open Go Go.RowKit Go.Proofs Tryz
open Below renaming refl->n
open Go.IntKind renaming i64->f
open Go.Obj renaming cells->i
open Go.Value renaming int->d,slice->u,pointer->z,bool->A,string->B
open Tryz renaming underlying9->o,prog->y
def uy (l:Bs):Nat × Int:=if(kW l).head?=c then(l.length,0) else if(kW l).head?=j 10 then(l.length - (kW l).length+1,0) else(l.length - (kW l).length,120)
theorem Vl {l:Bs}(h:jf l=x):bX l=l:=by
 cases l with
 |nil=>rfl
 |cons b t=>
  rw[AO] at h;have:rC b=g:=by
   rw[<-FL];unfold zK;simp only[Az,xX] at h;rw[aR.2 ah,aR.2 ah];rfl
  unfold bX;rw[List.dropWhile_cons,this];rfl
theorem ac4 {l:Bs}(h:jf l=x):l.drop (pJ l)=kW l/\pJ l=l.length - (kW l).length/\(kW l).length<=l.length/\xC l=((kW l).head?==c||(kW l).head?==j 10):=by
 have e:=Vl h;have e0:(l.takeWhile rC).length=0:=by have:=Rh l;rw[e] at this;omega
 have h1:l.drop (pJ l)=kW l:=by
  unfold pJ kW;rw[e0,e,bU]
  split <;> simp
 have hle:pJ l<=l.length:=by
  unfold pJ;rw[e0,e]
  split
  .have:=uz Ja _ l (aA _);omega
  .omega
 refine⟨h1,by rw[<-h1,kz];omega,by rw[<-h1,kz];omega,?_⟩;unfold xC;rw[h1,e];by_cases NG:l.head?=j 35
 .rw[NG];rfl
 .have hr:kW l=l:=by unfold kW;rw[ak NG]
  rw[hr];have he:(l.head?==c||l.head?==j 10)=x:=by
   unfold jf at h;simp only[Az,xX] at h ⊢;rcases h with(h|h)|h
   .exact .inl h
   .exact .inr h
   .exact absurd h NG
  rw[he];simp
def ae1 (nx:Nat)(er:Int)(w:World)(e:Ending)(w':World):Prop:=∃k a t,M9 k a t nx er w e w'
theorem ae2 (s:Bs)(p:Nat)(l:Bs)(hd:s.drop p=l)(hp:p<=s.length)(hlim:s.length<=1000000)(he:jf l=x)(w:World)(hT:Lib.Utf8Tabs 5 6 w):
  Calls y 132 #[B ⟨s.toArray⟩,d f p] w (ae1 (p+(uy l).1) (uy l).2 w):=by
 have hll:p+l.length=s.length:=by rw[<-hd,kz];omega
 obtain⟨k1,k2,k3,k4⟩:=ac4 he;obtain⟨q,hq⟩:∃q,q=p+pJ l:=⟨_,rfl⟩;obtain⟨r,hr⟩:∃r,r=kW l:=⟨_,rfl⟩;have Im:s.drop q=r:=by rw[hq,hr,<-k1,<-zB,hd]
 have Io:q<=s.length:=by omega
 have hER:uy l=if r.head?=c then(l.length,0) else if r.head?=j 10 then(l.length - r.length+1,0) else(l.length - r.length,120):=by unfold uy;rw[hr]
 rw[<-hr] at k1 k2 k3 k4;have gB:Hid (xC l=(r.head?==c||r.head?==j 10)):=hid k4;have HS:=λW (hb:Below w.1.size w W)=>hid (sV s p l hd hp hlim W (Utf8Tabs_below hT hb))
 rw[<-hq] at HS;have hsl:=λW=>oD o s q Io W
 rw[Im] at hsl;have hz:=iM s;have hqp:p<=q:=by omega
 have HQ:Hid (q+r.length=s.length/\p+l.length=s.length/\q=p+(l.length - r.length)):=hid ah;clear k1 k2 k3 k4 hd he hT hr hll hq
 cases r
 case' nil=>
  have HK:Hid (((([]:Bs).head?==c||([]:Bs).head?==j 10):Bool)=x):=hid rfl;have HE:Hid (p+(uy l).1=q/\(uy l).2=0):=hid (by rw[hER,ay (show([]:Bs).head?=c from rfl)];exact⟨by have:=HQ.q;simp at this;simp only[];omega,rfl⟩)
 case' cons b t=>
  have hi0:∀W,(Instr.index 9 (B ⟨(b::t).toArray⟩) (d f 0)).run y W= .ok (.int .u8 (b.toNat:Int)) W:=λW=>jH o (b::t) 0 b rfl W
  have hsh:∀W,(Instr.slice 9 (B ⟨(b::t).toArray⟩) c (j (d f 1)) c).run y W= .ok (B ⟨[b].toArray⟩) W:=λW=>AX o (b::t) 1 au W
  have hempty:((b::t)==([]:Bs))=g:=rfl;have hq2:q+1<=s.length:=by have:=HQ.q;simp at this;omega
  by_cases Ac:b=10
  case' pos=>
   subst Ac;have HK:Hid (((((10::t:Bs).head?)==c||((10::t:Bs).head?)==j 10):Bool)=x):=hid rfl;have HE:Hid (p+(uy l).1=q+1/\(uy l).2=0):=hid (by rw[hER,ak au,ay (show(10::t:Bs).head?=j 10 from rfl)];exact⟨by have:=HQ.q;simp only[] at this ⊢;omega,rfl⟩)
  case' neg=>
   have HK:Hid (((((b::t:Bs).head?)==c||((b::t:Bs).head?)==j 10):Bool)=g):=hid (by simp[Ac]);have HE:Hid (p+(uy l).1=q/\(uy l).2=120):=hid (by rw[hER,ak au,ak (by simpa using Ac)];exact⟨by have:=HQ.q;simp only[] at this ⊢;omega,rfl⟩)
 all_goals
  clear hER Im;by_cases hpq:q=p
  case' pos=>
   subst hpq;by_cases hp0:q=0
   case' pos=>
    have hdp:decide ((0:Int)<(q:Int))=g:=aX ah;have Ym:decide (0<q)=g:=aX ah;clear hp0;go_enter func132,ntmps132;go_wp2_with fail;refine(HS _ (aB (n _ _) _)).q.mono ?_;rintro e w1 ⟨rfl,hb1⟩;have HB:=hid ((aB (n w.1.size w) (i (aG 0 0 [] g) 187)).trans (hb1.mono au));have HX:=hid ((Bx.new w (aG 0 0 [] g) 187).keep hb1);clear hb1;rw[gB.q,HK.q];have hcx:=(HX.q.alloc (i (aG 0 q [] g) 187)).1;have hfx:=(HX.q.alloc (i (aG 0 q [] g) 187)).2.1;have iO:=hid (aB HB.q (i (aG 0 q [] g) 187))
   case' neg=>
    have hdp:decide ((0:Int)<(q:Int))=x:=bA ah;have Ym:decide (0<q)=x:=bA ah;obtain⟨b0,hb0⟩:∃b0,s[q - 1]?=j b0:=⟨_,eu ah⟩;have hi1:=λW=>jH o s (q - 1) b0 hb0 W
    rw[show((q - 1:Nat):Int)=(q:Int) - 1 by omega] at hi1;have ajb:wrap32 (b0.toNat:Int)=(b0.toNat:Int):=IntWalk.wrap32_in _ (by have:=b0.toNat_lt;omega);clear hb0 hp0;go_enter func132,ntmps132;go_wp2_with fail;refine(HS _ (aB (n _ _) _)).q.mono ?_;rintro e w1 ⟨rfl,hb1⟩;have HB:=hid ((aB (n w.1.size w) (i (aG 0 0 [] g) 187)).trans (hb1.mono au));have HX:=hid ((Bx.new w (aG 0 0 [] g) 187).keep hb1);clear hb1;rw[gB.q,HK.q];go_wp2_with fail;refine(Jb _ _).mono ?_;rintro e w2 ⟨rfl,hb2⟩
    cases hbl:zK (b0.toNat:Int)
    case' false=>
     cases Ac:((b0.toNat:Int)==10)
     case' false=>
      have Tq:((b0.toNat:Int)!=10)=x:=by rw[bne,Ac];rfl
      replace HB:=hid (HB.q.bO hb2);replace HX:=hid (HX.q.keep hb2)
      clear hb2;have hcx:=(HX.q.alloc (i (aG 0 q [] x) 187)).1;have hfx:=(HX.q.alloc (i (aG 0 q [] x) 187)).2.1;have iO:=hid (aB HB.q (i (aG 0 q [] x) 187))
     case' true=>
      have Tq:((b0.toNat:Int)!=10)=g:=by rw[bne,Ac];rfl
      replace HB:=hid (HB.q.bO hb2);replace HX:=hid (HX.q.keep hb2)
      clear hb2;have hcx:=(HX.q.alloc (i (aG 0 q [] g) 187)).1;have hfx:=(HX.q.alloc (i (aG 0 q [] g) 187)).2.1;have iO:=hid (aB HB.q (i (aG 0 q [] g) 187))
    case' true=>
     replace HB:=hid (HB.q.bO hb2);replace HX:=hid (HX.q.keep hb2)
     clear hb2;have hcx:=(HX.q.alloc (i (aG 0 q [] g) 187)).1;have hfx:=(HX.q.alloc (i (aG 0 q [] g) 187)).2.1;have iO:=hid (aB HB.q (i (aG 0 q [] g) 187))
  case' neg=>
   have hne:((q:Int)==(p:Int))=g:=aR.2 ah;clear hpq;go_enter func132,ntmps132;go_wp2_with fail;refine(HS _ (aB (n _ _) _)).q.mono ?_;rintro e w1 ⟨rfl,hb1⟩;have HB:=hid ((aB (n w.1.size w) (i (aG 0 0 [] g) 187)).trans (hb1.mono au));have HX:=hid ((Bx.new w (aG 0 0 [] g) 187).keep hb1);clear hb1;rw[gB.q,HK.q];have hcx:=(HX.q.alloc (i (aG 0 q [] g) 187)).1;have hfx:=(HX.q.alloc (i (aG 0 q [] g) 187)).2.1;have iO:=hid (aB HB.q (i (aG 0 q [] g) 187))
 all_goals
  go_wp2_with fail;have hwq:IntKind.i64.wrap ((q:Int)+1)=(q:Int)+1:=Go.IntWalk.i64_in _ ah
  first
  |refine bodyPost_ret (v:= .tuple #[.agg (aG 5 q [] g),d f (q:Int),d f 0]) ?_ rfl ⟨5,q,[],g,?_,?_⟩
   focus (simp[results,results132,go_sem,hcx,hwq];done)
   focus (rw[HE.q.1,HE.q.2] <;> rfl)
  |refine bodyPost_ret (v:= .tuple #[.agg (aG 0 0 [] g),d f (q:Int),d f 120]) ?_ rfl ⟨0,0,[],g,?_,?_⟩
   focus (simp[results,results132,go_sem,hcx,hwq];done)
   focus (rw[HE.q.1,HE.q.2] <;> rfl)
  |refine bodyPost_ret (v:= .tuple #[.agg (aG 4 q [10] g),d f ((q:Int)+1),d f 0]) ?_ rfl ⟨4,q,[10],g,?_,?_⟩
   focus (simp[results,results132,go_sem,hcx,hwq];done)
   focus (rw[HE.q.1,HE.q.2] <;> rfl)
  exact(((iO.q.setCell (p:=⟨w.1.size,0,c⟩) (aA _) _).setCell (p:=⟨w.1.size,1,c⟩) (aA _) _).setCell (p:=⟨w.1.size,2,c⟩) (aA _) _).setCell (p:=⟨w.1.size,3,c⟩) (aA _) _
theorem ann (v:Value)(W:World):(Instr.typeAssert (.iface 182 v) 20 182 x).run y W= .ok (.tuple #[v,A x]) W:=av
theorem LG (b:Nat)(p m:Int)(a0 a1 a2 a3 a4 a5 n0 e0:Value)(older:List PanicEntry)(w:World)(h1:Bx w b #[a0,a1,a2,a3,a4,a5])(h2:Bx w (b+1) #[n0])(h3:Bx w (b+2) #[e0]):
  CallsD y 130 #[z (j ⟨b,0,c⟩),z (j ⟨b+1,0,c⟩),z (j ⟨b+2,0,c⟩)] (.panicking ({v:= .iface 182 (.agg #[d f p,d f m]),recovered:=false}::older)) w λe u' w'=>
   e= .returned (.tuple #[])/\u'= .panicking ({v:= .iface 182 (.agg #[d f p,d f m]),recovered:=true}::older)/\
   Bx w' b #[d f 0,u c 0 0,d f 0,u c 0 0,A g,d f 0]/\Bx w' (b+1) #[d f p]/\Bx w' (b+2) #[d f m]/\Below b w w':=by
 refine callsD_of_wpS func130 rfl λc₀ cs hu=>?_
 apply wpS_seq
 apply wpS_region
 simp[wpOpsS,go_sem,recoverD,hu,ntmps130,Exit.thenS];refine wpS_of_wp ?_;have hta:=ann (.agg #[d f p,d f m]);simp only[A9,Ba,xV,xU,j3,gF,tQ,sG,sF];have hx0:=Bx.new w #[d f p,d f m] 182;obtain⟨Z,hZ⟩:∃Z:World,Z=(((((w.setCell ⟨b,0,c⟩ (d f 0)).setCell ⟨b,1,c⟩ (u c 0 0)).setCell ⟨b,2,c⟩ (d f 0)).setCell ⟨b,3,c⟩ (u c 0 0)).setCell ⟨b,4,c⟩ (A g)).setCell ⟨b,5,c⟩ (d f 0):=⟨_,rfl⟩;have HZ:Hid (Bx Z b #[d f 0,u c 0 0,d f 0,u c 0 0,A g,d f 0]/\Bx Z (b+1) #[n0]/\Bx Z (b+2) #[e0]/\Z.1.size=w.1.size/\Below b w Z):=hid (by
  rw[hZ];refine⟨?_,?_,?_,by simp[World.setCell],?_⟩
  .exact(((((h1.aZ 0 au _).aZ 1 au _).aZ 2 au _).aZ 3 au _).aZ 4 au _).aZ 5 au _
  .exact(((((h2.setOther b 0 _ ah).setOther b 1 _ ah).setOther b 2 _ ah).setOther b 3 _ ah).setOther b 4 _ ah).setOther b 5 _ ah
  .exact(((((h3.setOther b 0 _ ah).setOther b 1 _ ah).setOther b 2 _ ah).setOther b 3 _ ah).setOther b 4 _ ah).setOther b 5 _ ah
  .exact((((((n b w).setCell (p:=⟨b,0,c⟩) (aA b) _).setCell (p:=⟨b,1,c⟩) (aA b) _).setCell (p:=⟨b,2,c⟩) (aA b) _).setCell (p:=⟨b,3,c⟩) (aA b) _).setCell (p:=⟨b,4,c⟩) (aA b) _).setCell (p:=⟨b,5,c⟩) (aA b) _)
 obtain⟨V,hV⟩:∃V:World,V=(Z.alloc (i #[d f p,d f m] 182)).drew:=⟨_,rfl⟩;have hx5:Bx V w.1.size #[d f p,d f m]:=by
  have:=Bx.new Z #[d f p,d f m] 182;rw[HZ.q.2.2.2.1] at this;rw[hV];exact this
 have HV:Hid (Bx V b #[d f 0,u c 0 0,d f 0,u c 0 0,A g,d f 0]/\Bx V (b+1) #[n0]/\Bx V (b+2) #[e0]/\Bx V w.1.size #[d f p,d f m]/\Below b w V):=hid (by
  refine⟨?_,?_,?_,hx5,?_⟩
  .rw[hV];exact(HZ.q.1.alloc _).drew
  .rw[hV];exact(HZ.q.2.1.alloc _).drew
  .rw[hV];exact(HZ.q.2.2.1.alloc _).drew
  .rw[hV];exact(HZ.q.2.2.2.2.alloc (by have:=HZ.q.2.2.2.1;have:=h1.2.2;omega) _).drew)
 have zM:Hid (b+2<w.1.size):=hid h3.2.2;have HVY:Hid (Bx V (b+1) #[n0]):=hid HV.q.2.1;clear hx5;go_wp2_with fail;refine aC 99 [(0,0),(1,0),(2,0),(3,0),(4,0),(5,2),(6,2),(7,2)] (λ_=>True) (λW'=>W'.cell? ⟨w.1.size,0,c⟩=j (d f p)/\W'.cell? ⟨w.1.size,1,c⟩=j (d f m)) av av (trivial) (⟨hx0.1 0,hx0.1 1⟩) ?_;refine qC ?_;refine aD rfl rfl (λK hK=>?_);go_simp;rw[<-hZ,<-hV];refine hK _ _ ⟨trivial,HV.q.2.2.2.1.1 0,HV.q.2.2.2.1.1 1⟩ ?_;have z1:=HV.q.2.1.1 0;have f1_:=HV.q.2.1.2.1 0;clear hK K hZ hV;refine aD rfl rfl (λK hK=>?_);go_simp;refine hK _ _ ⟨trivial,(HV.q.2.2.2.1.setOther (b+1) 0 _ (by have:=zM.q;omega)).1 0,(HV.q.2.2.2.1.setOther (b+1) 0 _ (by have:=zM.q;omega)).1 1⟩ ?_;clear hK K z1 f1_;have z1:=HV.q.2.2.1.1 0;have f1_:=HV.q.2.2.1.2.1 0;refine aD rfl rfl (λK hK=>?_);go_simp;refine hK _ _ ⟨trivial,((HV.q.2.2.2.1.setOther (b+1) 0 _ (by have:=zM.q;omega)).setOther (b+2) 0 _ (by have:=zM.q;omega)).1 0,((HV.q.2.2.2.1.setOther (b+1) 0 _ (by have:=zM.q;omega)).setOther (b+2) 0 _ (by have:=zM.q;omega)).1 1⟩ ?_;clear hK K;refine aJ ?_;go_wp2_with fail;obtain⟨w',hw'⟩:∃w':World,w'=(V.setCell ⟨b+1,0,c⟩ (d f p)).setCell ⟨b+2,0,c⟩ (d f m):=⟨_,rfl⟩;have hfin:Bx w' b #[d f 0,u c 0 0,d f 0,u c 0 0,A g,d f 0]/\Bx w' (b+1) #[d f p]/\Bx w' (b+2) #[d f m]/\Below b w w':=by
  rw[hw'];refine⟨((HV.q.1.setOther (b+1) 0 _ ah).setOther (b+2) 0 _ ah),((HV.q.2.1.aZ 0 au _).setOther (b+2) 0 _ ah),((HV.q.2.2.1.setOther (b+1) 0 _ ah).aZ 0 au _),?_⟩;exact(HV.q.2.2.2.2.setCell (p:=⟨b+1,0,c⟩) au _).setCell (p:=⟨b+2,0,c⟩) au _
 rw[<-hw'];have HF:=hid hfin;clear hw' hfin
 cases c₀
 simp_all[bodyPostS,results,results130]
 exact HF.q
theorem Yn (b:Nat)(w:World):
  CallsD y 130 #[z (j ⟨b,0,c⟩),z (j ⟨b+1,0,c⟩),z (j ⟨b+2,0,c⟩)] .returning w λe u' w'=>e= .returned (.tuple #[])/\u'= .returning/\w'=w:=by
 refine callsD_of_wpS func130 rfl λc₀ cs hu=>?_
 apply wpS_seq
 apply wpS_region
 simp[wpOpsS,go_sem,recoverD,hu,ntmps130,Exit.thenS];refine wpS_of_wp ?_;go_wp2_with fail
 cases c₀
 simp_all[bodyPostS,results,results130]
end Yd
