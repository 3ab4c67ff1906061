import Derived.Test.YtnhnhmeogckgpaaGreatDoorTRSame
set_option linter.all false
set_option maxRecDepth 200000
set_option maxHeartbeats 8000000
namespace Yd
open Bool renaming and_eq_true→G,false→K,true→L
open List renaming range→y,getElem?_eq_some_iff→F,all_eq_true→H,mem_range→Q
open Option renaming some→z,none→B
open Go Go.RowKit Go.Proofs Go.Maps Tryz
open Go.Value renaming pointer→g,int→N,bool→O,slice→P
open RowKit renaming intOf→I
open Tryz renaming prog→A
open Yd renaming hid→f
open _root_ renaming List→r,Int→u,Bool→C,Nat→J
def Ji:J→u
 |0=>300
 |1=>60
 |2=>300
 |_=>60
def zC (w:World):Prop:=Lib.Utf8Tabs 6 7 w∧∀i,i<4→w.cell? ⟨2,i,B⟩=z (N .i64 (Ji i))
theorem zC.below {w w':World} (h:zC w) (hb:Below w.heap.size w w'):zC w':=by
 refine⟨Utf8Tabs_below h.1 hb,fun i hi=>?_⟩;rw[hb.cell (p:=⟨2,i,B⟩) (dS (h.2 i hi))];exact h.2 i hi
def HC.nm (h:HC):J→Sl
 |0=>h.t
 |1=>h.s
 |2=>h.o
 |_=>h.p
theorem Ud (h:HC) (i:J) (hi:i<4) (w:World):(Instr.index 101 (.agg #[h.t.v,h.s.v,h.o.v,h.p.v]) (N .i64 i)).run A w= .ok (h.nm i).v w:=by
 match i,hi with
 |0,_=>exact aaQ h w
 |1,_=>exact aaR h w
 |2,_=>exact aaS h w
 |3,_=>exact aaT h w
theorem ahC (a b c:u) (w:World):(Builtin.max_ #[3,3,3] 3 #[N .i64 a,N .i64 b,N .i64 c]).run A w= .ok (N .i64 (if c>(if b>a then b else a) then c else(if b>a then b else a))) w:=by
 simp[Builtin.max_,Builtin.max2]
def l8 (ns:r Bs):C:=ns.all (fun s=>aU ⟨s.toArray⟩) && decide ns.Nodup
def oI (nl:J→r Bs) (i:J):C:=decide (((nl i).length:u)≤Ji i) && l8 (nl i)
def Od (h:HC):C:=decide ((h.e.n:u)≤3000) && decide ((if(h.w.n:u)>(if(h.m.n:u)>h.d.n then(h.m.n:u) else h.d.n) then(h.w.n:u) else(if(h.m.n:u)>h.d.n then(h.m.n:u) else h.d.n))≤3000)
def Deep (w:World) (h:HC) (es:r EvC) (ds:r aH) (ms:r aI) (qs:r Wa) (scan:EvC→r Sn) (dn:aH→r u) (mn:aI→r u):Prop:=
 Row w 9 cZ h.e.a h.e.n h.e.c es∧Row w 2 dD h.d.a h.d.n h.d.c ds∧Row w 4 dx h.m.a h.m.n h.m.c ms∧Row w 2 eu h.w.a h.w.n h.w.c qs∧
 (∀x∈es,Row w 3 bV x.sa x.sn x.sc (scan x))∧(∀x∈ds,Row w 1 aQ x.sa x.sn x.sc (dn x))∧(∀x∈ms,Row w 1 aQ x.sa x.sn x.sc (mn x))
def Ue (h:HC) (dn:aH→r u) (x:aH):C:=aT x.obj h.o.n && eP h.t.n (dn x)
def Uf (h:HC) (mn:aI→r u) (x:aI):C:=aT x.pred h.p.n && aT x.obj h.o.n && eP h.t.n (mn x)
def Oe (h:HC) (x:Wa):C:=aT x.bU h.s.n && decide (0≤x.bits) && decide (x.bits≤15)
def uS (h:HC) (nl:J→r Bs):C:=Od h && (y 4).all (oI nl)
def uf (h:HC) (nl:J→r Bs) (es:r EvC) (ds:r aH) (ms:r aI) (qs:r Wa) (scan:EvC→r Sn) (dn:aH→r u) (mn:aI→r u):C:=
 uS h nl && es.all (fun e=>gP h.t.n h.s.n h.o.n h.p.n e (scan e)) && ds.all (Ue h dn) && ms.all (Uf h mn) && qs.all (Oe h)
theorem LC {nl:J→r Bs} {R bb b0 d:C} {k:J} (hk:k<4) (hbb:bb=(R && (y k).all (oI nl))) (hb0:b0=(bb && d)) (hl:oI nl k=(d && l8 (nl k)))
  (h:b0=K∨l8 (nl k)=K):(R && (y 4).all (oI nl))=K:=by
 cases hq:(R && (y 4).all (oI nl))
 ·rfl
 ·simp only[G,H,Q] at hq
  have h1:=hq.2 k hk;have h2:(y k).all (oI nl)=L:=by simp only[H,Q];exact fun x hx=>hq.2 x ah
  rw[hl,G] at h1;rw[hb0,hbb,hq.1,h2,h1.1] at h;simp[h1.2] at h
theorem Og {nl:J→r Bs} {R bb b0 d:C} {k:J} (hbb:bb=(R && (y k).all (oI nl))) (hb0:b0=(bb && d)) (hl:oI nl k=(d && l8 (nl k)))
  (h:l8 (nl k)=L):b0=(R && (y (k+1)).all (oI nl)):=by
 simp[List.range_succ,hb0,hbb,hl,h,Bool.and_assoc]
theorem Ug {ns:r Bs} (h1:ns.all (fun s=>aU ⟨s.toArray⟩)=L) (h2:ns.Nodup):l8 ns=L:=by simp only[l8,h1,h2,decide_true,Bool.and_self]
theorem QC {ns:r Bs} {x:Bs} {j:J} (hx:ns[j]?=z x) (hw:aU ⟨x.toArray⟩=K):l8 ns=K:=by
 cases hq:l8 ns
 ·rfl
 ·simp only[l8,G,H] at hq
  have:=hq.1 x (List.mem_of_getElem? hx);rw[hw] at this;cases this
theorem QD {ns:r Bs} {x:Bs} {j:J} (hx:ns[j]?=z x) (hw:decide (x∈ns.take j)=L):l8 ns=K:=by
 cases hq:l8 ns
 ·rfl
 ·simp only[l8,G,decide_eq_true_eq] at hq hw
  obtain⟨i,hi⟩:=List.getElem?_of_mem hw;have hij:i<j:=by
   have:=(F.1 hi).1;simp at this;omega
  rw[List.getElem?_take_of_lt hij] at hi;have h1:=(F.1 hi);have h2:=(F.1 hx);obtain⟨p1,e1⟩:=h1;obtain⟨p2,e2⟩:=h2;exact absurd (e1.trans e2.symm) (List.pairwise_iff_getElem.1 hq.2 i j p1 p2 hij)
theorem Oh (h:HC) (nl:J→r Bs) (es:r EvC) (ds:r aH) (ms:r aI) (qs:r Wa) (scan:EvC→r Sn) (dn:aH→r u) (mn:aI→r u) (w:World) (hg:zC w)
  (hn:∀i,i<4→Row w 1 encStr (h.nm i).a (h.nm i).n (h.nm i).c (nl i)) (hd:Deep w h es ds ms qs scan dn mn):
  Calls A 56 #[eF h] w (aW (O (uf h nl es ds ms qs scan dn mn)) w):=by
 have hmm:= @run_makeMap A;have hmx:=ahC h.d.n h.m.n h.w.n;go_enter func56,ntmps56;obtain⟨R,hR⟩:∃R:C,R=Od h:=⟨_,rfl⟩;have HR:=f hR;clear hR;obtain⟨S,hS⟩:∃S:C,S=uf h nl es ds ms qs scan dn mn:=⟨_,rfl⟩;rw[←hS];have HS:=f hS;have HD:=f hd;clear hS hd;obtain⟨E,hE⟩:∃E:C,E=es.all (fun e=>gP h.t.n h.s.n h.o.n h.p.n e (scan e)):=⟨_,rfl⟩;obtain⟨D,hD⟩:∃D:C,D=ds.all (Ue h dn):=⟨_,rfl⟩;obtain⟨M,hM⟩:∃M:C,M=ms.all (Uf h mn):=⟨_,rfl⟩;obtain⟨V,hV⟩:∃V:C,V=qs.all (Oe h):=⟨_,rfl⟩;have HAE:Hid (∀W',Below w.heap.size w W'→Bx W' w.heap.size (aC h)→Calls A 128 #[P h.e.a h.e.n h.e.c,.func (.func 129) #[] #[g (z ⟨w.heap.size,0,B⟩)]] W' (aW (O E) W')):=fun W' hb hx=>by
  rw[hE];exact aeF h.e.a h.e.n h.e.c 129 #[g (z ⟨w.heap.size,0,B⟩)] es _ W' (HD.q.1.below hb rfl) call129
   (fun x hxm W2 hW2=>aaM h x (scan x) w.heap.size W2 (hx.keep hW2) ((HD.q.2.2.2.2.1 x hxm).below (hb.trans (hW2.mono hb.size)) rfl))
 have HAD:Hid (∀W' b9,Below w.heap.size w W'→Bx W' w.heap.size (aC h)→Bx W' b9 #[.func (.func 124) #[] #[g (z ⟨w.heap.size,0,B⟩)]]→Calls A 131 #[P h.d.a h.d.n h.d.c,.func (.func 132) #[] #[g (z ⟨w.heap.size,0,B⟩),g (z ⟨b9,0,B⟩)]] W' (aW (O D) W')):=fun W' b9 hb hx h9=>by
  rw[hD];exact aeG h.d.a h.d.n h.d.c 132 #[g (z ⟨w.heap.size,0,B⟩),g (z ⟨b9,0,B⟩)] ds _ W' (HD.q.2.1.below hb rfl) call132
   (fun x hxm W2 hW2=>aaN h x (dn x) w.heap.size b9 W2 (hx.keep hW2) (h9.keep hW2) ((HD.q.2.2.2.2.2.1 x hxm).below (hb.trans (hW2.mono hb.size)) rfl))
 have HAM:Hid (∀W' b9,Below w.heap.size w W'→Bx W' w.heap.size (aC h)→Bx W' b9 #[.func (.func 124) #[] #[g (z ⟨w.heap.size,0,B⟩)]]→Calls A 133 #[P h.m.a h.m.n h.m.c,.func (.func 134) #[] #[g (z ⟨w.heap.size,0,B⟩),g (z ⟨b9,0,B⟩)]] W' (aW (O M) W')):=fun W' b9 hb hx h9=>by
  rw[hM];exact aeH h.m.a h.m.n h.m.c 134 #[g (z ⟨w.heap.size,0,B⟩),g (z ⟨b9,0,B⟩)] ms _ W' (HD.q.2.2.1.below hb rfl) call134
   (fun x hxm W2 hW2=>aaO h x (mn x) w.heap.size b9 W2 (hx.keep hW2) (h9.keep hW2) ((HD.q.2.2.2.2.2.2 x hxm).below (hb.trans (hW2.mono hb.size)) rfl))
 have HAV:Hid (∀W',Below w.heap.size w W'→Bx W' w.heap.size (aC h)→Calls A 135 #[P h.w.a h.w.n h.w.c,.func (.func 136) #[] #[g (z ⟨w.heap.size,0,B⟩)]] W' (aW (O V) W')):=fun W' hb hx=>by
  rw[hV];exact aeI h.w.a h.w.n h.w.c 136 #[g (z ⟨w.heap.size,0,B⟩)] qs _ W' (HD.q.2.2.2.1.below hb rfl) call136
   (fun x hxm W2 hW2=>aaP h x w.heap.size W2 (hx.keep hW2))
 have Am:Hid (S=(uS h nl && E && D && M && V)):=by rw[hE,hD,hM,hV];exact HS.q
 clear hE hD hM hV;have hix:=Ud h;obtain⟨m,hm⟩:∃m:u,m=(if(h.w.n:u)>(if(h.m.n:u)>h.d.n then(h.m.n:u) else h.d.n) then(h.w.n:u) else(if(h.m.n:u)>h.d.n then(h.m.n:u) else h.d.n)):=⟨_,rfl⟩;have HRm:Hid (R=(decide ((h.e.n:u)≤3000) && decide (m≤3000))):=by rw[hm];exact HR.q
 rw[←hm] at hmx;clear hm;have hB0:=(Bx.new w (aC h) 41);have HB0:=f hB0;have HN:=f hn;have HG:=f hg;clear hB0 hn hg
 cases he:decide ((h.e.n:u)≤3000)
 all_goals cases rM:decide (m≤3000)
 all_goals
  have Xo:R=_:=HRm.q;rw[he,rM] at Xo;simp only[Bool.and_true,Bool.and_false] at Xo;have HRe:=f Xo;clear Xo;go_wp2_with fail
  go_step3
  go_wp2_with fail
  go_step3
  go_wp2_with (go_at_call 48;refine(jC h _).mono ?_;rintro e w1 ⟨rfl,hb1⟩)
  clear he rM;have HB1:=f (((Below.refl w.heap.size w).alloc (Nat.le_refl _) (.cells (aC h) 41)).trans (hb1.mono ak));have cK:=f (HB0.q.keep hb1);clear hb1
  go_loopw [3,29] (fun b i wr=>∃(k:J) (bb:C),k≤4∧i= N .i64 k∧b= O bb∧bb=(R && (y k).all (oI nl))∧Below w.heap.size w wr∧Bx wr w.heap.size (aC h)) (fun _ i _=>4 - (I i).toNat)
  case atStart=>exact⟨0,_,by omega,rfl,rfl,by simp[HRe.q],HB1.q,cK.q⟩
  case round=>
   obtain⟨k,bb,hk,rfl,rfl,hbb,hbw,hxw⟩:=hrel;obtain⟨wo,hwo⟩:∃wo,wo=wr:=⟨_,rfl⟩;subst hwo;by_cases hlt:k<4
   ·have yV:=f hbb;have bK:=f hbw;have Jj:=f hxw
    have hlm:(wo.alloc (.map #[] 0)).cell? ⟨2,k,B⟩=z (N .i64 (Ji k)):=((HG.q.below hbw).below ((Below.refl _ _).alloc (Nat.le_refl _) _)).2 k hlt;have hrow:=HN.q k hlt;obtain⟨sl,hsl⟩:∃sl,sl=h.nm k:=⟨_,rfl⟩;have Jk:=hix k hlt;rw[←hsl] at hrow Jk;obtain⟨sa,sn,sc⟩:=sl;have ak4:∀W:World,(Instr.index 101 (.agg #[h.t.v,h.s.v,h.o.v,h.p.v]) (N .i64 k)).run A W= .ok (P sa sn sc) W:=Jk;clear Jk;have lC:=f hrow;have HIX:=f hix;obtain⟨lim,hlim⟩:∃l:u,l=Ji k:=⟨_,rfl⟩;rw[←hlim] at hlm;have hlist:oI nl k=(decide ((sn:u)≤lim) && l8 (nl k)):=by unfold oI;rw[hrow.len,hlim]
    clear hbb hbw hxw hrow hsl hix hlim;obtain⟨b0,hb0⟩:∃b0:C,b0=(bb && decide ((sn:u)≤lim)):=⟨_,rfl⟩;have Uh:Hid ((b0=K∨l8 (nl k)=K)→S=K):=fun hor=>by
     have:=LC hlt yV.q hb0 hlist hor;rw[HS.q,uf,uS,←HR.q,this];rfl
    have Oi:Hid (l8 (nl k)=L→b0=(R && (y (k+1)).all (oI nl))):=Og yV.q hb0 hlist;have ji:=f hb0;clear hb0 hlist
    cases bb
    all_goals cases hsl:decide ((sn:u)≤lim)
    all_goals
     have HSL:=f hsl;go_wp2_with fail;clear hsl;have HBM:=f (bK.q.alloc bK.q.size (.map #[] 0));have HXM:=f (Jj.q.alloc (.map #[] 0));have HM:=f (qZ.new wo);have wE:=f bK.q.size;have jf:Hid (w.heap.size≠wo.heap.size):=Nat.ne_of_lt Jj.q.2.2
     go_loopw [3,45] (fun b i wv=>∃(j:J) (bj:C),j≤sn∧i= N .i64 j∧b= O bj∧bj=b0∧(0<j→b0=L)∧((nl k).take j).all (fun s=>aU ⟨s.toArray⟩)=L∧((nl k).take j).Nodup∧
       Below w.heap.size w wv∧Bx wv w.heap.size (aC h)∧qZ wv wo.heap.size ((nl k).take j)) (fun _ i _=>sn - (I i).toNat)
     case atStart=>exact⟨0,_,Nat.zero_le _,rfl,rfl,by rw[ji.q,HSL.q];rfl,fun h=>absurd h aj,rfl,List.nodup_nil,HBM.q,HXM.q,HM.q⟩
     case round=>
      obtain⟨j,bj,hj,rfl,rfl,hbj,hpos,hall,hnd,hbv,hxv,hmv⟩:=hrel;have hle:=lC.q.le;by_cases hjlt:j<sn
      ·obtain⟨x,b,o,hx,hab,hc⟩:=(lC.q.below hbv rfl).at_ hjlt
       have hc0:=hc 0 _ rfl;simp only[Nat.mul_one,Nat.add_zero] at hc0;have hTv:=(HG.q.below hbv).1;have HX:=f hx;have FC:=f hall;have HND:=f hnd;have ak5:=f hpos;have HBJ:=f hbj;have F9:=f hbv;have Xp:=f hxv;have Xq:=f hmv;subst hab;have HWD:=f (Dn ⟨x.toArray⟩ wr hTv);clear hc hx hall hnd hpos hbj hbv hxv hmv hTv
       cases bj
       ·go_wp2_with fail
        go_ret;exact⟨by rw[Uh.q (.inl HBJ.q.symm)];rfl,F9.q.alloc F9.q.size _⟩
       ·cases hw:aU ⟨x.toArray⟩
        ·have HW:=f hw;clear hw
         go_wp2_with fail;refine HWD.q.mono ?_;rintro e w2 ⟨rfl,hb2⟩;rw[HW.q];have HB2:=f (F9.q.bq hb2);clear hb2;go_wp2_with fail;go_ret;exact⟨by rw[Uh.q (.inr (QC HX.q HW.q))];rfl,HB2.q.alloc HB2.q.size _⟩
        ·have HW:=f hw;clear hw
         go_wp2_with fail;refine HWD.q.mono ?_;rintro e w2 ⟨rfl,hb2⟩;rw[HW.q];have hlk:=(Xq.q.of_eq (hb2.block _ Xq.q.lt)).look x (AR HW.q);obtain⟨w3,hput,rM,hg3⟩:=(Xq.q.of_eq (hb2.block _ Xq.q.lt)).put x (AR HW.q) (by have:=lC.q.le;simp;unfold maxLen;omega);have HB2:=f (F9.q.bq hb2);have oJ:=f rM;have jZ:=f hg3;have gL:=f ((Xp.q.keep hb2).of_eq hg3.size (hg3.block _ (Nat.lt_of_lt_of_le Xp.q.2.2 hb2.size) (fun e=>jf.q (by simpa using e))));clear hb2 rM hg3
         cases hin:decide (x∈(nl k).take j)
         ·rw[hin] at hlk
          have Ao:=f hin;clear hin;go_wp2_with fail;go_roundw
          case rel=>
           have htk:(nl k).take (j+1)=(nl k).take j++[x]:=by rw[List.take_add_one,HX.q];rfl
           refine⟨j+1,L,by omega,by go_num,rfl,HBJ.q,fun _=>HBJ.q.symm,?_,?_,HB2.q.grown jZ.q HB2.q.size (fun i hi=>by cases hi;exact wE.q),gL.q,by rw[htk];exact oJ.q⟩
           ·rw[htk,List.all_append,FC.q];simp[HW.q]
           ·rw[htk,List.nodup_append]
            have hni:x∉(nl k).take j:=by simpa using Ao.q
            exact⟨HND.q,by simp,fun a ha b hb e=>hni (by simp at hb;rw[←hb,←e];exact ha)⟩
          case measure=>
           simp[I];omega
         ·rw[hin] at hlk
          have Ao:=f hin;clear hin;go_wp2_with fail;go_ret;exact⟨by rw[Uh.q (.inr (QD HX.q Ao.q))];rfl,HB2.q.alloc HB2.q.size _⟩
      ·have hjn:j=sn:=by omega
       have htk:(nl k).take j=nl k:=List.take_of_length_le (by rw[lC.q.len];omega);rw[htk] at hall hnd;have HE:=f (hbj.trans (Oi.q (Ug hall hnd)));have F9:=f hbv;have Xp:=f hxv;clear hall hnd hbj hbv hxv hmv hpos;go_wp2_with fail;go_roundw
       case rel=>exact⟨k+1,bj,by omega,by go_num,rfl,HE.q,F9.q,Xp.q⟩
       case measure=>simp[I];omega
   ·have hk4:k=4:=by omega
    subst hk4;have yV:=f hbb;have bK:=f hbw;have Jj:=f hxw;clear hbb hbw hxw
    cases bb
    ·go_wp2_with fail
     go_ret;exact⟨by rw[HS.q,uf,uS,←HR.q,←yV.q];rfl,bK.q.alloc bK.q.size _⟩
    ·have HNT:Hid (uS h nl=L):=by
      show uS h nl=L;rw[uS,←HR.q,←yV.q]
     have qB:=Jj.q.alloc (.cells #[.func (.func 124) #[] #[g (z ⟨w.heap.size,0,B⟩)]] 189);have hn9:=Bx.new wo #[.func (.func 124) #[] #[g (z ⟨w.heap.size,0,B⟩)]] 189;have rO:=bK.q.alloc bK.q.size (.cells #[.func (.func 124) #[] #[g (z ⟨w.heap.size,0,B⟩)]] 189);have AU:=f qB;have Jl:=f hn9;have Jm:=f rO;have AV:=f (HAE.q _ rO qB);clear hn9 rO;go_wp2_with fail;refine AV.q.mono ?_;rintro e w2 ⟨rfl,hb2⟩;clear qB;have hx2:=AU.q.keep hb2;have hn2:=Jl.q.keep hb2;have Ui:=Jm.q.bq hb2;have cO:=f hx2;have gX:=f hn2;have HB2:=f Ui;have HCD:=f (HAD.q _ _ Ui hx2 hn2);clear hn2 Ui hb2
     cases E
     ·go_wp2_with fail
      go_ret;exact⟨by rw[Am.q];simp,HB2.q⟩
     go_wp2_with fail;refine HCD.q.mono ?_;rintro e w3 ⟨rfl,hb3⟩;clear hx2;have hx3:=cO.q.keep hb3;have hn3:=gX.q.keep hb3;have Uj:=HB2.q.bq hb3;have gL:=f hx3;have fH:=f hn3;have HB3:=f Uj;have HCM:=f (HAM.q _ _ Uj hx3 hn3);clear hn3 Uj hb3
     cases D
     ·go_wp2_with fail
      go_ret;exact⟨by rw[Am.q];simp,HB3.q⟩
     go_wp2_with fail;refine HCM.q.mono ?_;rintro e w4 ⟨rfl,hb4⟩;clear hx3;have hx4:=gL.q.keep hb4;have Uk:=HB3.q.bq hb4;have eH:=f Uk;have Cy:=f (HAV.q _ Uk hx4);clear Uk hb4
     cases M
     ·go_wp2_with fail
      go_ret;exact⟨by rw[Am.q];simp,eH.q⟩
     go_wp2_with fail;refine Cy.q.mono ?_;rintro e w5 ⟨rfl,hb5⟩;clear hx4;have gY:=f (eH.q.bq hb5);clear hb5;go_wp2_with fail;go_ret;exact⟨by rw[Am.q,HNT.q];simp,gY.q⟩
end Yd
