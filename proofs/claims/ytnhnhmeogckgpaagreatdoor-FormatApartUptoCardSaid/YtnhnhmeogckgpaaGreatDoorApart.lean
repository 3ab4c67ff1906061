import Derived.Test.YtnhnhmeogckgpaaGreatDoorCat
import Derived.Test.YtnhnhmeogckgpaaGreatDoorLaid13
import Derived.Test.YtnhnhmeogckgpaaGreatDoorF15
set_option linter.all false
set_option maxRecDepth 200000
set_option maxHeartbeats 8000000
namespace Yd
open List renaming length_append→f,getElem?_append_right→E,getElem?_append_left→F,length_take→K,mem_append→O
open Nat renaming zero_le→D,le_trans→P
open Go Go.RowKit Go.Proofs Tryz
open Below renaming refl→m
open Go.Obj renaming cells→r
open Go.Value renaming slice→j,int→G
open RowKit renaming intOf→C
open Yd renaming hid→d
open _root_ renaming List→u,Nat→B,Int→H,if_pos→I,if_neg→J
structure vH (X:World) (N M:B) (v:Value) (aR:u bf) (ls:u aB):Prop where
 o:Own X N 34 6 iG v aR
 a:l8 X M aR ls
section
variable {X Y:World} {N M:B} {v v':Value} {aR ag0:u bf} {ls ls':u aB}
theorem vH.below (h:vH X N M v aR ls) (hb:Below X.heap.size X Y):vH Y N M v aR ls:=⟨h.o.below hb rfl,h.a.below hb⟩
theorem vH.tag (h:vH X N M v aR ls):∀g,v.ownBlock=some g→∃cs T fz,X.heap[g]?=some (r cs T fz)∧9≠T∧76≠T:=fun g hg=>(let⟨cs,fz,e⟩:=h.o.tag hg;⟨cs,_,fz,e,by decide,by decide⟩)
theorem vH.grow (h:vH X N M v aR ls) {l:bf} {s:aB} (hl:gM X M l s) (ho:Own Y N 34 6 iG v' (aR++[l])) (hg:X.grownBy Y v.ownBlock):vH Y N M v' (aR++[l]) (ls++[s]):=⟨ho,(h.a.su hg h.tag).snoc (hl.su hg h.tag)⟩
theorem vH.other (h:vH X N M v aR ls) (h':vH X N M v' ag0 ls') (hg:X.grownBy Y v'.ownBlock) (hne:∀g,v.ownBlock=some g→v'.ownBlock≠some g):vH Y N M v aR ls:=⟨h.o.grown hg (fun g e=>hne g e),h.a.su hg h'.tag⟩
theorem vH.nil (X:World) (N M:B):vH X N M (j none 0 0) [] []:=⟨Own.iJ _ _ _ _ _,rfl,fun i l h=>(by cases h)⟩
end
theorem Row.WY {X:World} {g:B} (h:X.heap.size=g) (l:bf):Row (X.alloc (r #[G .i64 l.kind,j l.na l.nn l.nc,G .i64 l.lvl,j l.va l.vn l.vc,.bool l.first,G .i64 l.bits] 34)) 6 iG (some ⟨g,0,none⟩) 1 1 [l]:=h▸Row.QA X l
theorem WZ (X:World) (M:B):gM X M ⟨0,none,0,0,0,none,0,0,false,0⟩ Ho:=⟨⟨rfl,rfl,rfl,rfl,rfl,rfl⟩,Own.iJ _ _ _ _ _,Own.iJ _ _ _ _ _⟩
structure wW (W X:World) (M:B) (ve:Value) (ec:u bf) (es:u aB) (vr:Value) (rc:u bf) (rs:u aB):Prop where
 ev:vH X W.heap.size M ve ec es
 rw:vH X W.heap.size M vr rc rs
 ne:∀g,vr.ownBlock=some g→ve.ownBlock≠some g
 b:Below W.heap.size W X
section
variable {W X Y:World} {M:B} {ve vr v':Value} {ec rc:u bf} {es rs:u aB} {l:bf} {s:aB}
theorem wW.below (h:wW W X M ve ec es vr rc rs) (hb:Below X.heap.size X Y):wW W Y M ve ec es vr rc rs:=⟨h.ev.below hb,h.rw.below hb,h.ne,h.b.trans (hb.mono h.b.size)⟩
theorem wW.C9 (h:wW W X M ve ec es vr rc rs) (hl:gM X M l s) (ho:Own Y W.heap.size 34 6 iG v' (ec++[l])) (hg:X.grownBy Y ve.ownBlock) (hat:v'.ownBlock=ve.ownBlock∨v'.ownBlock=some X.heap.size):wW W Y M v' (ec++[l]) (es++[s]) vr rc rs:=
 ⟨h.ev.grow hl ho hg,h.rw.other h.ev hg h.ne,fun g e=>(by
  rcases hat with q|q
  ·rw[q];exact h.ne g e
  ·rw[q];intro q2;injection q2 with q2;have:=(h.rw.o.lt g e).2;omega),(nk (A:=fun i=>i<W.heap.size) hg (fun g e h2=>by have:=(h.ev.o.lt g e).1;omega)).below h.b (fun i hi=>hi) h.b.size⟩
theorem wW.Nk (h:wW W X M ve ec es vr rc rs) (hl:gM X M l s) (ho:Own Y W.heap.size 34 6 iG v' (rc++[l])) (hg:X.grownBy Y vr.ownBlock) (hat:v'.ownBlock=vr.ownBlock∨v'.ownBlock=some X.heap.size):wW W Y M ve ec es v' (rc++[l]) (rs++[s]):=
 ⟨h.ev.other h.rw hg (fun g e e'=>h.ne g e' e),h.rw.grow hl ho hg,fun g e=>(by
  rcases hat with q|q
  ·rw[q] at e;exact h.ne g e
  ·rw[q] at e;injection e with e;intro q2;have:=(h.ev.o.lt g q2).2;omega),(nk (A:=fun i=>i<W.heap.size) hg (fun g e h2=>by have:=(h.rw.o.lt g e).1;omega)).below h.b (fun i hi=>hi) h.b.size⟩
end
def ny (turn:H) (k:B):Bool:=(IntKind.u64.wrap (wrap64 (turn+(k:H)))).tmod 3==0
theorem J8 (p:B→Bool) (y:aB):∀(l:u aB) (i:B),jR p i (l++[y])=jR p i l++((if 7≤y.kind then [] else [y])++(if p (i+l.length)=true then [Ho] else []))
 |[],i=>by simp[jR]
 |z::l,i=>by
  show _++(_++jR p (i+1) (l++[y]))=(_++(_++jR p (i+1) l))++_;rw[J8 p y l (i+1),List.length_cons,show i+1+l.length=i+(l.length+1) by omega];simp only[List.append_assoc]
theorem UN {L:u aB} {k:B} {s:aB} (p:B→Bool) (h:L[k]?=some s):jR p 0 (L.take (k+1))=jR p 0 (L.take k)++((if 7≤s.kind then [] else [s])++(if p k=true then [Ho] else []))∧jI (L.take (k+1))=jI (L.take k)++(if 7≤s.kind then [s] else []):=by
 have e:L.take (k+1)=L.take k++[s]:=by rw[List.take_add_one,h];rfl
 have hk:=(List.getElem?_eq_some_iff.1 h).1;rw[e,J8];refine⟨by rw[show 0+(L.take k).length=k by rw[K];omega],?_⟩;unfold jI;rw[List.filter_append]
 congr 1
 by_cases h7:7≤s.kind <;> simp[h7]
theorem l8.append {X:World} {M:B} {l1 l2:u bf} {s1 s2:u aB} (h:l8 X M l1 s1) (k:l8 X M l2 s2):l8 X M (l1++l2) (s1++s2):=by
 have e:=h.1;have e2:=k.1;refine⟨by simp[e,e2],fun i q hq=>?_⟩;rcases Nat.lt_or_ge i l1.length with hi|hi
 ·rw[F hi] at hq
  obtain⟨t,h1,h2⟩:=h.2 i q hq;exact⟨t,by rw[F ah];exact h1,h2⟩
 ·rw[E hi] at hq
  obtain⟨t,h1,h2⟩:=k.2 _ q hq;exact⟨t,by rw[E ah,←e];exact h1,h2⟩
theorem Ch (ls:u aB):∀s∈iH ls,s.names.length≤1000∧s.aF.length≤1000:=fun s hs=>by
 obtain⟨x,_,rfl⟩:=List.mem_map.1 hs
 constructor <;> (show(List.take _ _).length≤1000;rw[K];omega)
theorem xO (ls:u aB) (p:B→Bool):(∀s∈jR p 0 (iH ls),s.names.length≤1000∧s.aF.length≤1000)∧∀s∈jI (iH ls),s.names.length≤1000∧s.aF.length≤1000:=
 ⟨fun s hs=>by
  rcases(Ae p s _ 0).1 hs with rfl|h
  ·exact⟨D _,D _⟩
  ·exact Ch ls s h,fun s hs=>Ch ls s (AA.1 hs).1⟩
abbrev lz:bf:=⟨0,none,0,0,0,none,0,0,false,0⟩
theorem Rl (a:Option Addr) (c:B) (aR:u bf) (ls:u aB) (turn:H) (w:World) (hr:Row w 6 iG a aR.length c aR) (hl:aR.length=ls.length) (hin:∀(i:B) (l:bf),aR[i]?=some l→∃s,ls[i]?=some s∧zB w l s) (hG:yw w):
  Calls Tryz.prog 6 #[j a aR.length c,G .i64 turn] w (bC (.bool true) w):=by
 have HG:=d hG;have aa1:=d (fun W (hb:Below w.heap.size w W)=>Ym a c aR ls W (hr.below hb rfl) hl (fun i l hi=>let⟨s,h1,h2⟩:=hin i l hi;⟨s,h1,h2.below hb⟩));clear hG hr hl hin;go_enter func6,ntmps6;go_wp2_with fail;refine(Nl w HG.q).mono ?_;rintro e w1 ⟨rfl,hb1⟩;have HB1:=d hb1;clear hb1;go_wp2_with fail;refine(aa1.q _ HB1.q).mono ?_;rintro e w2 ⟨a2,c2,l2,rfl,hls,hb2⟩;have HB2:=d (HB1.q.bD hb2);have aa2:l2.length≤80:=by rw[hls.a.1];exact MK _
 have y8:=d (tT a2 c2 l2 (iH ls) w1.heap.size w2 (hls.o.row ah) hls.a (Ch ls) (HG.q.2.below HB2.q));have HLS:=d hls;have mG:=d aa2;clear hls hb2 aa2 aa1;go_wp2_with fail;refine y8.q.mono ?_;rintro e w3 ⟨hb3,h3⟩;have HB3:=d (HB2.q.bD hb3);have HBO:=d hb3;clear hb3 y8
 cases ho:nS bK 0 (iH ls) with
 |error x=>
  obtain⟨i,n⟩:=x;rw[ho] at h3;obtain rfl:=h3;have hn0:=(Gj ho).2;have hne1:(n !=0)=true:=by simp[hn0]
  have HX:=d (Bx.new w3 (aA j3) 41);have eG:=d (av HB3.q (r (aA j3) 41));have hcx:=HX.q.1;clear ho hn0;go_wp2_with fail;refine(kS (Gl _ 0) (Gl _ 0) Nn Nn).mono ?_;rintro e w4 ⟨b,rfl,hb,hb4⟩;obtain rfl:=hb.2 (kV.rfl' _);clear hb;go_wp2_with fail;go_ret;exact⟨rfl,eG.q.bD hb4⟩
 |ok z=>
  rw[ho] at h3;obtain⟨h,es,ds,ms,scan,dn,mn,rfl,hho⟩:=h3;obtain⟨W,hW⟩:∃W,W=w3.alloc (r (aA h) 41):=⟨_,rfl⟩;have hbW:Below w3.heap.size w3 W:=by rw[hW];exact av (m _ _) _
  have HX:=d (show Bx W w3.heap.size (aA h) by rw[hW];exact Bx.new w3 _ _);have vG:=d (hho.below hbW);have bP:=d (HB3.q.bD hbW);have HLW:Hid (sj W w1.heap.size (j a2 l2.length c2) l2 (iH ls)):=d (HLS.q.below (HBO.q.bD hbW));have HO:=d ho;obtain⟨ii,zi,hi,hz,hsize,cZ,hzs⟩:=zT;have gJ:=d (⟨hi,hz,hsize,cZ,hzs⟩:_∧_∧_∧_∧_);clear hi hz hsize cZ hzs ho hho hbW;go_wp2_with fail;rw[←hW];clear hW;have hnn:l2.length≤140737488355328:=by have:=mG.q;omega
  go_loopw [9,10,33] (fun ve vr i X=>∃(k:B) (ae:Option Addr) (ce:B) (ec:u bf) (ar:Option Addr) (cr:B) (rc:u bf),k≤l2.length∧ve= j ae ec.length ce∧vr= j ar rc.length cr∧i= G .i64 k∧ec.length≤2*k∧rc.length≤k∧
   wW W X w1.heap.size (j ae ec.length ce) ec (jR (ny turn) 0 ((iH ls).take k)) (j ar rc.length cr) rc (jI ((iH ls).take k))) (fun _ _ i _=>l2.length - (C i).toNat)
  case atStart=>exact⟨0,none,0,[],none,0,[],D _,rfl,rfl,rfl,D _,D _,vH.nil _ _ _,vH.nil _ _ _,fun g h=>(by cases h),m _ _⟩
  case round=>
   obtain⟨k,ae,ce,ec,ar,cr,rc,hk,rfl,rfl,rfl,hke,hkr,J9⟩:=hrel;by_cases hlt:k<l2.length
   ·have hrow:=(HLW.q.o.below J9.b rfl).row (hc:=wH) (by have:=mG.q;omega)
    obtain⟨x,b,o,hx,rfl,hc⟩:=hrow.at_ hlt;obtain⟨s,hs,hat⟩:=HLW.q.a.2 k x hx;have h0:=hc 0 _ rfl;have h1:=hc 1 _ rfl;have h2:=hc 2 _ rfl;have h3:=hc 3 _ rfl;have h4:=hc 4 _ rfl;have h5:=hc 5 _ rfl;simp only[Nat.add_zero] at h0;have xC:=d hke;have eT:=d hkr;have hbx:=av (av (m wr.heap.size wr) (r (jE x) 34)) (r (jE x) 34);have HT2:=d (J9.below hbx);have OZ:=d ((hat.below J9.b).below hbx);have rO:=d (UN (ny turn) hs);have hks:x.kind=s.kind:=hat.1.1;clear J9 hat hs hc hx hrow hke hkr hbx
    cases hp:((IntKind.u64.wrap (wrap64 (turn+(k:H)))).tmod 3==0)
    ·have HP:Hid (¬ny turn k=true):=d (fun e=>by unfold ny at e;rw[hp] at e;cases e)
     by_cases Ka:(7:H)≤x.kind
     ·have xw:Hid ((7:H)≤s.kind):=d (hks▸Ka)
      clear hks
      go_wp2_with (at_builtin;refine dO rfl _ _ 25 rfl ii zi 80 underlying25 gJ.q.1 gJ.q.2.1 gJ.q.2.2.1 gJ.q.2.2.2.1 gJ.q.2.2.2.2 rfl HT2.q.rw.o (some ⟨wr.heap.size+1,0,none⟩) 1 1 (rc.length+1) [x] rfl (Row.WY ak x) rfl (by have:=xC.q;have:=eT.q;have:=mG.q;omega) (by have:=xC.q;have:=eT.q;have:=mG.q;unfold maxLen;omega) HT2.q.b.size ?_;intro a5 c5 w5 hown hg hat;have yc:=d (HT2.q.Nk OZ.q hown hg hat);clear hown hg hat)
      go_roundw
      case rel=>exact⟨k+1,ae,ce,ec,a5,c5,rc++[x],by omega,rfl,ak,by have:=mG.q;go_num,by have:=xC.q;simp;omega,by have:=eT.q;simp;omega,by rw[rO.q.1,rO.q.2,I xw.q,I xw.q,J HP.q];simpa using yc.q⟩
      case measure=>have:=mG.q;simp[C];omega
     ·have xw:Hid (¬(7:H)≤s.kind):=d (hks▸Ka)
      clear hks
      go_wp2_with (at_builtin;refine dO rfl _ _ 25 rfl ii zi 80 underlying25 gJ.q.1 gJ.q.2.1 gJ.q.2.2.1 gJ.q.2.2.2.1 gJ.q.2.2.2.2 rfl HT2.q.ev.o (some ⟨wr.heap.size+1,0,none⟩) 1 1 (ec.length+1) [x] rfl (Row.WY ak x) rfl (by have:=xC.q;have:=eT.q;have:=mG.q;omega) (by have:=xC.q;have:=eT.q;have:=mG.q;unfold maxLen;omega) HT2.q.b.size ?_;intro a5 c5 w5 hown hg hat;have yc:=d (HT2.q.C9 OZ.q hown hg hat);clear hown hg hat)
      go_roundw
      case rel=>exact⟨k+1,a5,c5,ec++[x],ar,cr,rc,by omega,ak,rfl,by have:=mG.q;go_num,by have:=xC.q;simp;omega,by have:=eT.q;simp;omega,by rw[rO.q.1,rO.q.2,J xw.q,J xw.q,J HP.q];simpa using yc.q⟩
      case measure=>have:=mG.q;simp[C];omega
    ·have HP:Hid (ny turn k=true):=d hp
     by_cases Ka:(7:H)≤x.kind
     ·have xw:Hid ((7:H)≤s.kind):=d (hks▸Ka)
      clear hks
      go_wp2_with (first|(at_builtin;refine dO rfl _ _ 25 rfl ii zi 80 underlying25 gJ.q.1 gJ.q.2.1 gJ.q.2.2.1 gJ.q.2.2.2.1 gJ.q.2.2.2.2 rfl HT2.q.rw.o (some ⟨wr.heap.size+1,0,none⟩) 1 1 (rc.length+1) [x] rfl (Row.WY ak x) rfl (by have:=xC.q;have:=eT.q;have:=mG.q;omega) (by have:=xC.q;have:=eT.q;have:=mG.q;unfold maxLen;omega) HT2.q.b.size ?_;intro a5 c5 w5 hown hg hat;have yc:=d (HT2.q.Nk OZ.q hown hg hat);have rR:Hid (wW W (w5.alloc (r #[G .i64 0,j none 0 0,G .i64 0,j none 0 0,.bool false,G .i64 0] 34)) _ _ _ _ _ _ _):=d (yc.q.below (av (m _ _) _));clear hown hg hat)|(at_builtin;refine dO rfl _ _ 25 rfl ii zi 80 underlying25 gJ.q.1 gJ.q.2.1 gJ.q.2.2.1 gJ.q.2.2.2.1 gJ.q.2.2.2.2 rfl rR.q.ev.o (some ⟨w5.heap.size,0,none⟩) 1 1 (ec.length+1) [lz] rfl (Row.QA w5 lz) rfl (by have:=xC.q;have:=eT.q;have:=mG.q;omega) (by have:=xC.q;have:=eT.q;have:=mG.q;unfold maxLen;omega) rR.q.b.size ?_;intro a7 c7 w7 hown hg hat;have GU:=d (rR.q.C9 (WZ _ _) hown hg hat);clear hown hg hat))
      go_roundw
      case rel=>exact⟨k+1,a7,c7,ec++[lz],a5,c5,rc++[x],by omega,ak,ak,by have:=mG.q;go_num,by have:=xC.q;simp;omega,by have:=eT.q;simp;omega,by rw[rO.q.1,rO.q.2,I xw.q,I xw.q,I HP.q];simpa using GU.q⟩
      case measure=>have:=mG.q;simp[C];omega
     ·have xw:Hid (¬(7:H)≤s.kind):=d (hks▸Ka)
      clear hks
      go_wp2_with (first|(at_builtin;refine dO rfl _ _ 25 rfl ii zi 80 underlying25 gJ.q.1 gJ.q.2.1 gJ.q.2.2.1 gJ.q.2.2.2.1 gJ.q.2.2.2.2 rfl HT2.q.ev.o (some ⟨wr.heap.size+1,0,none⟩) 1 1 (ec.length+1) [x] rfl (Row.WY ak x) rfl (by have:=xC.q;have:=eT.q;have:=mG.q;omega) (by have:=xC.q;have:=eT.q;have:=mG.q;unfold maxLen;omega) HT2.q.b.size ?_;intro a5 c5 w5 hown hg hat;have yc:=d (HT2.q.C9 OZ.q hown hg hat);have rR:Hid (wW W (w5.alloc (r #[G .i64 0,j none 0 0,G .i64 0,j none 0 0,.bool false,G .i64 0] 34)) _ _ _ _ _ _ _):=d (yc.q.below (av (m _ _) _));clear hown hg hat)|(at_builtin;refine dO rfl _ _ 25 rfl ii zi 80 underlying25 gJ.q.1 gJ.q.2.1 gJ.q.2.2.1 gJ.q.2.2.2.1 gJ.q.2.2.2.2 rfl rR.q.ev.o (some ⟨w5.heap.size,0,none⟩) 1 1 ((ec.length+1)+1) [lz] rfl (Row.QA w5 lz) ak (by have:=xC.q;have:=eT.q;have:=mG.q;omega) (by have:=xC.q;have:=eT.q;have:=mG.q;unfold maxLen;omega) rR.q.b.size ?_;intro a7 c7 w7 hown hg hat;have GU:=d (rR.q.C9 (WZ _ _) hown hg hat);clear hown hg hat))
      go_roundw
      case rel=>exact⟨k+1,a7,c7,(ec++[x])++[lz],ar,cr,rc,by omega,ak,rfl,by have:=mG.q;go_num,by have:=xC.q;simp;omega,by have:=eT.q;simp;omega,by rw[rO.q.1,rO.q.2,J xw.q,J xw.q,I HP.q];simpa using GU.q⟩
      case measure=>have:=mG.q;simp[C];omega
   ·have hkk:k=l2.length:=by omega
    have e:(iH ls).take k=iH ls:=List.take_of_length_le (by rw[←HLW.q.a.1];omega);rw[e] at J9;have hX1:=av (m wr.heap.size wr) (r #[j ae ec.length ce,j ar rc.length cr] 25);have HT1:=d (J9.below hX1);have ag1:=d (Bx.new wr #[j ae ec.length ce,j ar rc.length cr] 25);have HLEN:Hid (ec.length≤160∧rc.length≤80):=d (by have:=mG.q;omega);clear J9 hX1 e hkk hke hkr hnn;go_wp2_with fail;refine(GQ (HT1.q.ev.o.row (by have:=HLEN.q;omega)) (HT1.q.rw.o.row (by have:=HLEN.q;omega)) ag1.q (by have:=HLEN.q;omega)).mono ?_;rintro e X2 ⟨aa,ca,rfl,hoa,hba⟩;have HT2:=d (HT1.q.below hba);have ZV:=d (hoa.mono HT1.q.b.size);clear hoa hba
    cases hq:(turn.tmod 2==0)
    ·have qL:Hid (Own X2 W.heap.size 34 6 iG (j aa (ec.length+rc.length) ca) (ec++rc)∧l8 X2 w1.heap.size (ec++rc) (jR (ny turn) 0 (iH ls)++jI (iH ls))):=d ⟨by have:=ZV.q;rwa[f] at this,HT2.q.ev.a.append HT2.q.rw.a⟩
     have Np:=d (HG.q.2.below (bP.q.trans (HT2.q.b.mono bP.q.size)));go_wp2_with fail;have hof:=tT aa ca (ec++rc) (jR (ny turn) 0 (iH ls)++jI (iH ls)) w1.heap.size X2 (by rw[f];exact qL.q.1.row (hc:=wH) (by have:=HLEN.q;simp;omega)) qL.q.2 (fun s hs=>(O.1 hs).elim (fun h=>(xO ls (ny turn)).1 s h) (fun h=>(xO ls (ny turn)).2 s h)) Np.q;rw[f] at hof;refine hof.mono ?_;clear hof;rintro e X5 ⟨hb5,h5⟩;obtain⟨y,hy,hsame⟩:=Nq HO.q (ny turn) false;simp only[if_true,Bool.false_eq_true,if_false] at hy;rw[hy] at h5;obtain⟨h',es',ds',ms',jJ,kZ,oZ,rfl,Ci⟩:=h5;have hlen:((jR (ny turn) 0 (iH ls)++jI (iH ls)).length:H)=(((ec.length+rc.length):B):H):=by rw[←qL.q.2.1,f]
     rw[hlen];have dS:=d (HT2.q.b.trans (hb5.mono HT2.q.b.size));have Kb:=av (m X5.heap.size X5) (r (aA h') 41);have oC:=d (av dS.q (r (aA h') 41));have Af:=d (HX.q.below oC.q HX.q.2.2);have mH:=d (Bx.new X5 (aA h') 41);have WG:=d (kS (Ci.below Kb) (vG.q.below oC.q) (yx hy) (yx HO.q));have Kc:=d hsame;clear hb5 hy hsame Ci hlen Kb;have hx6:=Af.q.1;have DK:=mH.q.1;go_wp2_with fail;refine WG.q.mono ?_;rintro e X7 ⟨bq,rfl,hbq,Hq⟩;obtain rfl:=hbq.2 Kc.q;clear hx6 DK hbq;go_wp2_with fail;go_ret;exact⟨rfl,(bP.q.trans (oC.q.mono bP.q.size)).trans (Hq.mono (P bP.q.size oC.q.size))⟩
    ·go_wp2_with fail
     have QJ:=av (m X2.heap.size X2) (r #[j ar rc.length cr,j ae ec.length ce] 25);have HT3:=d (HT2.q.below QJ);have ag2:=d (Bx.new X2 #[j ar rc.length cr,j ae ec.length ce] 25);clear QJ;refine(GQ (HT3.q.rw.o.row (by have:=HLEN.q;omega)) (HT3.q.ev.o.row (by have:=HLEN.q;omega)) ag2.q (by have:=HLEN.q;omega)).mono ?_;rintro e X4 ⟨ab,cb,rfl,oU,hbb⟩;have oQ:=d (HT3.q.below hbb);have qL:Hid (Own X4 W.heap.size 34 6 iG (j ab (rc.length+ec.length) cb) (rc++ec)∧l8 X4 w1.heap.size (rc++ec) (jI (iH ls)++jR (ny turn) 0 (iH ls))):=d ⟨by have:=oU.mono HT3.q.b.size;rwa[f] at this,oQ.q.rw.a.append oQ.q.ev.a⟩;have Np:=d (HG.q.2.below (bP.q.trans (oQ.q.b.mono bP.q.size)));clear oU hbb;go_wp2_with fail;have hof:=tT ab cb (rc++ec) (jI (iH ls)++jR (ny turn) 0 (iH ls)) w1.heap.size X4 (by rw[f];exact qL.q.1.row (hc:=wH) (by have:=HLEN.q;simp;omega)) qL.q.2 (fun s hs=>(O.1 hs).elim (fun h=>(xO ls (ny turn)).2 s h) (fun h=>(xO ls (ny turn)).1 s h)) Np.q;rw[f] at hof;refine hof.mono ?_;clear hof;rintro e X5 ⟨hb5,h5⟩;obtain⟨y,hy,hsame⟩:=Nq HO.q (ny turn) true;simp only[if_true,Bool.false_eq_true,if_false] at hy;rw[hy] at h5;obtain⟨h',es',ds',ms',jJ,kZ,oZ,rfl,Ci⟩:=h5;have hlen:((jI (iH ls)++jR (ny turn) 0 (iH ls)).length:H)=(((rc.length+ec.length):B):H):=by rw[←qL.q.2.1,f]
     rw[hlen];have dS:=d (oQ.q.b.trans (hb5.mono oQ.q.b.size));have Kb:=av (m X5.heap.size X5) (r (aA h') 41);have oC:=d (av dS.q (r (aA h') 41));have Af:=d (HX.q.below oC.q HX.q.2.2);have mH:=d (Bx.new X5 (aA h') 41);have WG:=d (kS (Ci.below Kb) (vG.q.below oC.q) (yx hy) (yx HO.q));have Kc:=d hsame;clear hb5 hy hsame Ci hlen Kb;have hx6:=Af.q.1;have DK:=mH.q.1;go_wp2_with fail;refine WG.q.mono ?_;rintro e X7 ⟨bq,rfl,hbq,Hq⟩;obtain rfl:=hbq.2 Kc.q;clear hx6 DK hbq;go_wp2_with fail;go_ret;exact⟨rfl,(bP.q.trans (oC.q.mono bP.q.size)).trans (Hq.mono (P bP.q.size oC.q.size))⟩
end Yd
