import Derived.Test.YtnhnhmeogckgpaaGreatDoorLs2
import Derived.Shelf.Spec.SlicesGrow
set_option linter.all false
set_option maxRecDepth 200000
set_option maxHeartbeats 8000000
namespace Yd
open List renaming take_of_length_le→r,length_take→u,take_take→z
open Go Go.RowKit Go.Proofs
open Go.IntKind renaming i64→p
open Go.Value renaming slice→d,int→n,bool→y
open Same renaming of_below→t
open Yd renaming hid→f
@[reducible] def TQ (s:aB):aB:={s with names:=s.names.take 320,aF:=s.aF.take 50}
def iH (ls:List aB):List aB:=(ls.take 80).map TQ
theorem TR {ls:List aB} {k:Nat} {s:aB} (h:ls[k]?=some s) (hk:k<80):iH (ls.take (k+1))=iH (ls.take k)++[TQ s]:=by
 unfold iH;have e:ls.take (k+1)=ls.take k++[s]:=by rw[List.take_add_one,h];rfl
 rw[e,r (by simp;omega),r (l:=ls.take k) (by simp;omega),List.map_append]
 rfl
theorem TS {ls:List aB} {k:Nat} (hk:80≤k):iH (ls.take (k+1))=iH (ls.take k):=by
 unfold iH;rw[z,z,Nat.min_eq_left ah,Nat.min_eq_left hk]
theorem MK (ls:List aB):(iH ls).length≤80:=by unfold iH;rw[List.length_map,u];omega
structure sj (X:World) (N:Nat) (v:Value) (aR:List bf) (ls:List aB):Prop where
 o:Own X N 34 6 iG v aR
 a:l8 X N aR ls
section
variable {X Y:World} {N:Nat} {v v':Value} {aR:List bf} {ls:List aB}
theorem sj.same (h:sj X N v aR ls) {A:Nat→Prop} (s:Same A X Y) (hN:∀i,N≤i→A i):sj Y N v aR ls:=⟨h.o.same s (fun g hg=>hN g (h.o.lt g hg).1),h.a.same s hN⟩
theorem sj.below (h:sj X N v aR ls) (hb:Below X.heap.size X Y):sj Y N v aR ls:=h.same (A:=fun _=>True) (t hb (fun i _ hl=>hl)) (fun _ _=>trivial)
theorem sj.adX (h:sj X N v aR ls) (s:Same (fun i=>i<X.heap.size) X Y):sj Y N v aR ls:=
 ⟨h.o.same s (fun g hg=>(h.o.lt g hg).2),h.a.1,fun i l hl=>let⟨q,h1,h2⟩:=h.a.2 i l hl;⟨q,h1,h2.1,h2.2.1.same s (fun g hg=>(h2.2.1.lt g hg).2),h2.2.2.same s (fun g hg=>(h2.2.2.lt g hg).2)⟩⟩
theorem sj.tag (h:sj X N v aR ls):∀g,v.ownBlock=some g→∃cs T fz,X.heap[g]?=some (.cells cs T fz)∧9≠T∧76≠T:=fun g hg=>(let⟨cs,fz,e⟩:=h.o.tag hg;⟨cs,_,fz,e,by decide,by decide⟩)
theorem sj.grow (h:sj X N v aR ls) {l:bf} {s:aB} (hl:gM X N l s) (ho:Own Y N 34 6 iG v' (aR++[l])) (hg:X.grownBy Y v.ownBlock):sj Y N v' (aR++[l]) (ls++[s]):=⟨ho,(h.a.su hg h.tag).snoc (hl.su hg h.tag)⟩
theorem sj.nil (X:World) (N:Nat):sj X N (d none 0 0) [] []:=⟨Own.iJ _ _ _ _ _,rfl,fun i l h=>(by cases h)⟩
end
def ZI (w:World) (ls:List aB) (e:Ending) (X:World):Prop:=∃a c aR,e= .returned (d a aR.length c)∧sj X w.heap.size (d a aR.length c) aR ls∧Below w.heap.size w X
theorem Ym (a:Option Addr) (c:Nat) (aR:List bf) (ls:List aB) (w:World) (hr:Row w 6 iG a aR.length c aR) (hl:aR.length=ls.length) (hin:∀(i:Nat) (l:bf),aR[i]?=some l→∃s,ls[i]?=some s∧zB w l s):
  Calls Tryz.prog 20 #[d a aR.length c] w (ZI w (iH ls)):=by
 have HR:=f hr;have HI:=f hin;have HLEN:=f hl;have hnn:=hr.le;obtain⟨ii,zi,hi,hz,hsize,cZ,hzs⟩:=zT;have gJ:=f (⟨hi,hz,hsize,cZ,hzs⟩:_∧_∧_∧_∧_);clear hr hin hl hi hz hsize cZ hzs;go_enter Tryz.func20,Tryz.ntmps20;go_wp2_with fail
 go_loopw [3,8] (fun v i X=>∃(k:Nat) (a0:Option Addr) (c0:Nat) (out:List bf),k≤aR.length∧v= d a0 out.length c0∧i= n p k∧sj X w.heap.size (d a0 out.length c0) out (iH (ls.take k))∧out.length≤80∧Below w.heap.size w X) (fun _ i _=>aR.length - (RowKit.intOf i).toNat)
 case atStart=>exact⟨0,none,0,[],Nat.zero_le _,rfl,rfl,sj.nil _ _,Nat.zero_le _,Below.refl _ _⟩
 case round=>
  obtain⟨k,a0,c0,out,hk,rfl,rfl,hrow,hol,hb⟩:=hrel;by_cases hlt:k<aR.length
  ·obtain⟨x,b,o,hx,rfl,hc⟩:=HR.q.at_ hlt
   obtain⟨s,hs,hat⟩:=HI.q k x hx;have h0:=aT hb rfl (hc 0 _ rfl);have h1:=aT hb rfl (hc 1 _ rfl);have h2:=aT hb rfl (hc 2 _ rfl);have h3:=aT hb rfl (hc 3 _ rfl);have h4:=aT hb rfl (hc 4 _ rfl);have h5:=aT hb rfl (hc 5 _ rfl);simp only[Nat.add_zero] at h0;obtain⟨lk,na,nn,nc,lvl,va,vn,vc,lf,bits⟩:=x;obtain⟨sk,xs,sl,vs,sf,sb⟩:=s;obtain⟨⟨q1,q2,q3,q4⟩,hn,hv⟩:=hat;simp only at q1 q2 q3 q4 hn hv h0 h1 h2 h3 h4 h5;subst q1 q2 q3 q4;by_cases agz:k<80
   ·have hstep:=TR hs agz
    have hln:=hn.len;have hlv:=hv.len;have hcn:=hn.2.1;have hcv:=hv.2.1;have hmn:min (nn:Int) 320=((min nn 320:Nat):Int):=by omega
    have hmv:min (vn:Int) 50=((min vn 50:Nat):Int):=by omega
    have e1:(xs.take 320).length=min nn 320:=by rw[u];omega
    have e2:(vs.take 50).length=min vn 50:=by rw[u];omega
    obtain⟨m,hm⟩:∃m,m=min nn 320:=⟨_,rfl⟩;obtain⟨j,hj⟩:∃j,j=min vn 50:=⟨_,rfl⟩;rw[←hm] at hmn e1;rw[←hj] at hmv e2;have aj0:m≤nc:=by omega
    have hjle:j≤vc:=by omega
    have GN:=f (fun W (hb:Below w.heap.size w W)=>vN na nc (xs.take 320) W ((hn.ML 320).below hb rfl) ah);have iR:=f (fun W (hb:Below w.heap.size w W)=>Yn va vc (vs.take 50) W ((hv.ML 50).below hb rfl) ah);rw[e1] at GN;rw[e2] at iR;have HB1:=f (av hb (.cells #[n p lk,d na nn nc,n p lvl,d va vn vc,y lf,n p bits] 34));have bE:=f (Bx.new wr #[n p lk,d na nn nc,n p lvl,d va vn vc,y lf,n p bits] 34);have HR1:=f hrow;have dR:Hid (Same (fun i=>i<wr.heap.size) wr (wr.alloc (.cells #[n p lk,d na nn nc,n p lvl,d va vn vc,y lf,n p bits] 34)).drew):=f (t (av (Below.refl wr.heap.size wr) _).drew (fun i h _=>h));have HE:=f (⟨e1,e2⟩:_∧_);have OA:=f hstep;have HOL:=f hol;have Bq:=f (⟨bE.q.1 1,bE.q.1 3⟩:_∧_);have bP:Hid (w.heap.size≤wr.heap.size):=f hb.size;clear hc hx hs hn hv hln hlv hcn hcv hm hj e1 e2 hrow hstep;go_wp2_with fail;refine aI 17 [(0,0),(1,0),(2,0),(3,0),(4,1),(5,1),(6,1),(8,0),(9,0),(10,0),(11,0),(12,1),(13,1),(14,1),(7,2),(16,1),(15,2),(17,2),(18,1),(19,2)] (fun _=>True) (fun W'=>W'.cell? ⟨wr.heap.size,1,none⟩=some (d na nn nc)∧W'.cell? ⟨wr.heap.size,3,none⟩=some (d va vn vc)) au au (trivial) (Bq.q) ?_;refine qC ?_;refine aD rfl rfl (fun K hK=>?_);go_simp;refine(GN.q _ HB1.q.drew).mono ?_;rintro e w1 ⟨a1,c1,rfl,ho1,hb1⟩;rw[HE.q.1] at ho1 ⊢;go_simp;refine hK _ _ ⟨trivial,aT hb1 rfl Bq.q.1,aT hb1 rfl Bq.q.2⟩ ?_;have HB2:=f (HB1.q.drew.trans (hb1.mono HB1.q.size));have aW:=f (bE.q.drew.keep hb1);have oM:=f ho1;have HS2:=f (dR.q.tr (t hb1 (fun i _ h=>h)));clear hK K hb1 ho1;refine qC ?_;refine aD rfl rfl (fun K hK=>?_);go_simp;refine(iR.q _ HB2.q).mono ?_;rintro e w2 ⟨a2,c2,rfl,ho2,hb2⟩;rw[HE.q.2] at ho2 ⊢;go_simp;refine hK _ _ ⟨trivial,aT hb2 rfl (aW.q.1 1),aT hb2 rfl (aW.q.1 3)⟩ ?_;have HB3:=f (HB2.q.bD hb2);have eD:=f (aW.q.keep hb2);have kX:=f (oM.q.below hb2 rfl);have MN:=f ho2;have fE:=f (HS2.q.tr (t hb2 (fun i _ h=>h)));have HZ3:Hid (wr.heap.size<w1.heap.size):=f aW.q.2.2;clear hK K hb2 ho2;refine eF rfl rfl rfl (fun K hK=>?_);go_simp;have hcx:=eD.q.1;have hfx:=eD.q.2.1;have hlx:=eD.q.2.2;go_simp;refine hK _ _ trivial ?_;clear hK K hcx hfx hlx;have jd:Hid (Bx (w2.setCell ⟨wr.heap.size,1,none⟩ (d a1 m c1)) wr.heap.size #[n p lk,d a1 m c1,n p lvl,d va vn vc,y lf,n p bits]):=f (eD.q.aU 1 ak _);refine qC ?_;refine eF rfl rfl rfl (fun K hK=>?_);go_simp;have hcx:=eD.q.1;have hfx:=eD.q.2.1;have hlx:=eD.q.2.2;go_simp;refine hK _ _ trivial ?_;clear hK K hcx hfx hlx;have jq:Hid (Bx ((w2.setCell ⟨wr.heap.size,1,none⟩ (d a1 m c1)).setCell ⟨wr.heap.size,3,none⟩ (d a2 j c2)) wr.heap.size #[n p lk,d a1 m c1,n p lvl,d a2 j c2,y lf,n p bits]):=f (jd.q.aU 3 ak _);refine bn ?_;have hs:Same (fun i=>i≠wr.heap.size) w2 ((w2.setCell ⟨wr.heap.size,1,none⟩ (d a1 m c1)).setCell ⟨wr.heap.size,3,none⟩ (d a2 j c2)):=((Same.refl' w2).setTail (fun h=>h rfl)).setTail (fun h=>h rfl);revert jq hs;generalize(w2.setCell ⟨wr.heap.size,1,none⟩ (d a1 m c1)).setCell ⟨wr.heap.size,3,none⟩ (d a2 j c2)=Z;intro jq hs;have eG:=f (hs.below HB3.q (fun i hi=>by have:=HB1.q.size;have:=eD.q.2.2;have:=bP.q;omega) HB3.q.size);have Qz:=f (HR1.q.adX (fE.q.tr (hs.mono (fun i hi _=>by omega))));have vE:Hid (gM Z w.heap.size ⟨lk,a1,m,c1,lvl,a2,j,c2,lf,bits⟩ (TQ ⟨lk,xs,lvl,vs,lf,bits⟩)):=f ⟨⟨rfl,rfl,rfl,rfl,HE.q.1.symm,HE.q.2.symm⟩,(kX.q.same hs (fun g hg=>by have:=(kX.q.lt g hg).1;simp at this;omega)).mono HB1.q.drew.size,(MN.q.same hs (fun g hg=>by have:=(MN.q.lt g hg).1;have:=HZ3.q;omega)).mono HB2.q.size⟩;clear hs fE kX MN;have hx5:=jq.q.1
    go_wp2_with (at_builtin;refine dO rfl _ _ 25 rfl ii zi 80 Tryz.underlying25 gJ.q.1 gJ.q.2.1 gJ.q.2.2.1 gJ.q.2.2.2.1 gJ.q.2.2.2.2 rfl (Qz.q.o.alloc _) (some ⟨Z.heap.size,0,none⟩) 1 1 (out.length+1) [⟨lk,a1,m,c1,lvl,a2,j,c2,lf,bits⟩] rfl (Row.QA Z _) rfl (by have:=HOL.q;omega) (by have:=HOL.q;unfold maxLen;omega) (by have:=eG.q.size;simp;omega) ?_;intro a' c' w5 hown hg hat)
    have jT:=av (Below.refl Z.heap.size Z) (.cells #[n p lk,d a1 m c1,n p lvl,d a2 j c2,y lf,n p bits] 34);have e1:(out++[(⟨lk,a1,m,c1,lvl,a2,j,c2,lf,bits⟩:bf)]).length=out.length+1:=by simp
    have MO:Hid (sj w5 w.heap.size (d a' (out.length+1) c') (out++[⟨lk,a1,m,c1,lvl,a2,j,c2,lf,bits⟩]) (iH (ls.take (k+1)))):=f (by
     rw[OA.q];exact(Qz.q.below jT).grow (vE.q.below jT) hown hg)
    have dS:Hid (Below w.heap.size w w5):=f ((nk (A:=fun i=>i<w.heap.size) hg (fun g e h=>by have:=(Qz.q.o.lt g e).1;omega)).below (av eG.q _) (fun i hi=>hi) (av eG.q _).size);have Dv:=f e1;clear hown hg hat jT e1 hx5;go_roundw
    case rel=>exact⟨k+1,a',c',_,by omega,by rw[Dv.q],by go_num,by rw[Dv.q];exact MO.q,by rw[MO.q.a.1];exact MK _,dS.q⟩
    case measure=>simp[RowKit.intOf];omega
   ·have hstep:=TS (ls:=ls) (k:=k) ah
    have ZJ:=f (hrow.below (av (Below.refl _ _) (.cells #[n p lk,d na nn nc,n p lvl,d va vn vc,y lf,n p bits] 34)));have MP:=f (av hb (.cells #[n p lk,d na nn nc,n p lvl,d va vn vc,y lf,n p bits] 34));have HOL:=f hol;have HST:=f hstep;clear hc hx hs hn hv hrow hb hol hstep;go_wp2_with fail;go_roundw
    case rel=>exact⟨k+1,a0,c0,out,by omega,rfl,by go_num,by rw[HST.q];exact ZJ.q,HOL.q,MP.q⟩
    case measure=>simp[RowKit.intOf];omega
  ·have hkk:k=aR.length:=by omega
   have e:iH (ls.take k)=iH ls:=by rw[r (by have:=HLEN.q;omega)]
   rw[e] at hrow;have ZJ:=f hrow;have MP:=f hb;clear hrow hb e hkk;go_wp2_with fail;go_ret;exact⟨a0,c0,out,rfl,ZJ.q,MP.q⟩
end Yd
namespace Yd
open Go Go.RowKit Go.Proofs Go.Shelf
open Go.Value renaming slice→f,int→j
open RowKit renaming intOf→d
def renG:Ren:=⟨fun _=>41,fun|0=>0|3=>3|4=>4|9=>9|20=>20|22=>25|25=>34|k=>k,fun k=>k⟩
theorem ZK:Lays8.n4 Tryz.prog renG where
 mixed:=au
 f4:=Exists.intro ("slices.Grow[[]yardarm/api.Line,yardarm/api.Line]") (And.intro au au)
 t0:=au
 a0:=fun w=>by kernel_rfl
 z0:=fun w=>by kernel_rfl
 v0:=fun w=>by kernel_rfl
 t3:=au
 a3:=fun w=>by kernel_rfl
 z3:=fun w=>by kernel_rfl
 v3:=fun w=>by kernel_rfl
 t4:=au
 a4:=fun w=>by kernel_rfl
 z4:=fun w=>by kernel_rfl
 v4:=fun w=>by kernel_rfl
 t9:=au
 a9:=fun w=>by kernel_rfl
 z9:=fun w=>by kernel_rfl
 v9:=fun w=>by kernel_rfl
 t20:=au
 a20:=fun w=>by kernel_rfl
 z20:=fun w=>by kernel_rfl
 v20:=fun w=>by kernel_rfl
 t22:=au
 a22:=fun w=>by kernel_rfl
 z22:=fun w=>by kernel_rfl
 v22:=fun w=>by kernel_rfl
theorem TT (n:Nat) (hn:n≤100000) (w:World):Calls Tryz.prog 41 #[f none 0 0,j .i64 n] w (fun e X=>∃a c,e= .returned (f a 0 c)∧Own X w.heap.size 34 6 iG (f a 0 c) []∧Below w.heap.size w X):=by
 rcases Nat.eq_zero_or_pos n with rfl|h0
 ·refine(Any8.slices_Grow_room ZK none 0 0 0 w ah ah ah ah).mono ?_
  rintro e X ⟨rfl,rfl⟩;exact⟨none,0,rfl,Own.iJ _ _ _ _ _,Below.refl _ _⟩
 ·obtain⟨ii,zi,hi,hz,hsize,cZ,hzs⟩:=zT
  have hge:=grownCap_ge w (0+n) 0 34;have hle:=grownCap_le_maxLen w (0+n) 0 34 (by unfold maxLen;omega);refine(Any8.slices_Grow_grow ZK ii zi hi hz ah none 0 0 n [] w ah ah (by rw[cZ];omega) ah ak (fun _=>rfl) (fun a h=>by cases h)).mono ?_;rintro e X ⟨rfl,rfl⟩;refine⟨_,_,rfl,⟨rfl,.inr ⟨w.heap.size,_,_,rfl,Nat.le_refl _,fu w.drew _,Nat.zero_le _,hle,?_,rfl⟩⟩,av (Below.refl w.heap.size w).drew _⟩;show((#[]++Builtin.zeroCells zi.cells (0+n - 0))++Builtin.zeroCells zi.cells (grownCap w (0+n) 0 34 - (0+n))).size=grownCap w (0+n) 0 34*6;rw[Array.size_append,Array.size_append,size_zeroCells,size_zeroCells,hzs];simp only[List.size_toArray,List.length_nil];omega
theorem GQ {a1 a2:Option Addr} {c1 c2 n1 n2 b:Nat} {xs ys:List bf} {w:World} (h1:Row w 6 iG a1 n1 c1 xs) (h2:Row w 6 iG a2 n2 c2 ys) (hx:Bx w b #[f a1 n1 c1,f a2 n2 c2]) (hl:n1+n2≤100000):
  Calls Tryz.prog 21 #[f (some ⟨b,0,none⟩) 2 2] w (jD 34 6 iG (xs++ys) w):=by
 have HX:=hid hx;have H1:=hid h1;have H2:=hid h2;have hw1:wrap64 (n1:Int)=n1:=by unfold wrap64;omega
 have hw2:wrap64 ((n1:Int)+n2)=((n1+n2:Nat):Int):=by unfold wrap64;omega
 have HL:=hid hl;clear hx h1 h2;go_enter Tryz.func21,Tryz.ntmps21;go_wp2_with fail
 go_loopw [3,11] (fun s i X=>X=w∧((i= j .i64 0∧s= j .i64 0)∨(i= j .i64 1∧s= j .i64 n1)∨(i= j .i64 2∧s= j .i64 ((n1+n2:Nat):Int)))) (fun _ i _=>2 - (d i).toNat)
 case atStart=>exact⟨rfl,.inl ⟨rfl,rfl⟩⟩
 case round=>
  obtain⟨Jl,h⟩:=hrel;obtain rfl:w=wr:=Jl.symm;have hc0:=HX.q.1 0;have hc1:=HX.q.1 1;rcases h with⟨rfl,rfl⟩|⟨rfl,rfl⟩|⟨rfl,rfl⟩
  ·have hn:¬((n1:Int)<0):=by omega
   go_wp2_with fail;go_roundw
   case rel=>exact⟨trivial,.inr (.inl ⟨rfl,rfl⟩)⟩
   case measure=>simp[d]
  ·have hn:¬(((n1+n2:Nat):Int)<0):=by omega
   go_wp2_with fail;go_roundw
   case rel=>exact⟨trivial,.inr (.inr ⟨rfl,rfl⟩)⟩
   case measure=>simp[d]
  ·clear hc0 hc1 hw1 hw2 hl
   go_wp2_with fail;refine(TT (n1+n2) HL.q _).mono ?_;rintro e X ⟨a,c,rfl,ho,hb⟩;have HO:=hid ho;have HB:=hid hb;clear ho hb;go_wp2_with fail;obtain⟨ii,zi,hi,hz,hsize,cZ,hzs⟩:=zT;have gJ:=hid (⟨hi,hz,hsize,cZ,hzs⟩:_∧_∧_∧_∧_);clear hi hz hsize cZ hzs
   go_loopw [6,27] (fun v i Y=>Below w.heap.size w Y∧∃a c,((i= j .i64 0∧v= f a 0 c∧Own Y w.heap.size 34 6 iG (f a 0 c) [])∨(i= j .i64 1∧v= f a n1 c∧Own Y w.heap.size 34 6 iG (f a n1 c) xs)∨(i= j .i64 2∧v= f a (n1+n2) c∧Own Y w.heap.size 34 6 iG (f a (n1+n2) c) (xs++ys)))) (fun _ i _=>2 - (d i).toNat)
   case atStart=>exact⟨HB.q,a,c,.inl ⟨rfl,rfl,HO.q⟩⟩
   case round=>
    obtain⟨hb,a,c,h⟩:=hrel;have hc0:=(HX.q.keep hb).1 0;have hc1:=(HX.q.keep hb).1 1;have h1:=H1.q.below hb rfl;have h2:=H2.q.below hb rfl;have HB2:=hid hb;rcases h with⟨rfl,rfl,ho⟩|⟨rfl,rfl,ho⟩|⟨rfl,rfl,ho⟩
    ·have oM:=hid ho;have HR:=hid h1
     clear ho h1 h2 hb
     go_wp2_with (at_builtin;refine dO rfl _ _ 25 rfl ii zi 80 Tryz.underlying25 gJ.q.1 gJ.q.2.1 gJ.q.2.2.1 gJ.q.2.2.2.1 gJ.q.2.2.2.2 rfl oM.q a1 n1 c1 n1 xs rfl HR.q ak (by have:=HL.q;omega) (by have:=HL.q;unfold maxLen;omega) HB2.q.size ?_;intro a' c' w5 hown hg hat)
     have dS:=hid ((nk (A:=fun i=>i<w.heap.size) hg (fun g e h=>by have:=(oM.q.lt g e).1;omega)).below HB2.q (fun i hi=>hi) HB2.q.size);have Jm:=hid hown;clear hown hg hat hc0 hc1;go_roundw
     case rel=>exact⟨dS.q,a',c',.inr (.inl ⟨rfl,rfl,Jm.q⟩)⟩
     case measure=>simp[d]
    ·have oM:=hid ho;have HR:=hid h2
     clear ho h1 h2 hb
     go_wp2_with (at_builtin;refine dO rfl _ _ 25 rfl ii zi 80 Tryz.underlying25 gJ.q.1 gJ.q.2.1 gJ.q.2.2.1 gJ.q.2.2.2.1 gJ.q.2.2.2.2 rfl oM.q a2 n2 c2 (n1+n2) ys rfl HR.q (by rw[H1.q.len]) (by have:=HL.q;omega) (by have:=HL.q;unfold maxLen;omega) HB2.q.size ?_;intro a' c' w5 hown hg hat)
     have dS:=hid ((nk (A:=fun i=>i<w.heap.size) hg (fun g e h=>by have:=(oM.q.lt g e).1;omega)).below HB2.q (fun i hi=>hi) HB2.q.size);have Jm:=hid hown;clear hown hg hat hc0 hc1;go_roundw
     case rel=>exact⟨dS.q,a',c',.inr (.inr ⟨rfl,rfl,Jm.q⟩)⟩
     case measure=>simp[d]
    ·have oM:=hid ho
     have e:(xs++ys).length=n1+n2:=by rw[List.length_append,H1.q.len,H2.q.len]
     have HE:=hid e;clear ho h1 h2 hb hc0 hc1 e;go_wp2_with fail;go_ret;exact⟨a,c,by rw[HE.q];rfl,by rw[HE.q];exact oM.q,HB2.q⟩
end Yd
