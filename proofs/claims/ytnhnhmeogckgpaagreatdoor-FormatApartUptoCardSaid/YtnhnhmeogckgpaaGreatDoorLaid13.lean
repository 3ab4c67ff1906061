import Derived.Test.YtnhnhmeogckgpaaGreatDoorLs3
import Derived.Test.YtnhnhmeogckgpaaGreatDoorOf2
import Derived.Test.YtnhnhmeogckgpaaGreatDoorF20
set_option linter.all false
set_option maxRecDepth 200000
set_option maxHeartbeats 8000000
namespace Yd
open List renaming length_map→f
open Go Go.RowKit Go.Proofs Tryz
theorem Du {X:World} {b:Nat} {h h':HC} (hb:Bx X b (aA h)):∃Z,Z=((((((((X.setCell ⟨b,0,none⟩ h'.t.v).setCell ⟨b,1,none⟩ h'.s.v).setCell ⟨b,2,none⟩ h'.o.v).setCell ⟨b,3,none⟩ h'.p.v).setCell ⟨b,4,none⟩ h'.e.v).setCell ⟨b,5,none⟩ h'.d.v).setCell ⟨b,6,none⟩ h'.m.v).setCell ⟨b,7,none⟩ h'.w.v)∧Bx Z b (aA h')∧Same (fun i=>i≠b) X Z:=⟨_,rfl,Ad hb,tV⟩
theorem adx {α:Type} {enc:α→List Value} {k:Nat} {X:World} {B:Nat} {T:TypeId} {a:Option Addr} {n c:Nat} {xs:List α} (h:Own X B T k enc (.slice a n c) xs) {b o:Nat} (e:a=some ⟨b,o,none⟩):B≤b:=by
 rcases h.uO with⟨q,_⟩|⟨g,q,_⟩
 ·rw[q] at e;cases e
 ·have:=(h.lt g (by rw[q];rfl)).1
  rw[q] at e;injection e with e;injection e with e;omega
def lW (s:Bs):Except (Int × Int) Cont:=match lC s with
 | .error x=> .error x
 | .ok r=>match nS bK 0 (r.map Prod.fst) with
  | .ok z=> .ok z
  | .error (i,n)=> .error ((r.map Prod.snd).getD i 0,n)
theorem Im {s:Bs} {r:List (aB × Int)} (h:lC s= .ok r):r=(gV s (s.length+1) 0).map (fun x=>(x.ln,x.fr)):=by
 unfold lC at h
 split at h
 ·cases h
 ·rcases qh s (s.length+1) 0 ah with⟨_,q⟩|⟨_,_,_,_,_,q⟩
  ·rw[q] at h;injection h with h;exact h.symm
  ·rw[q] at h;cases h
theorem FM {s:Bs} {r:List (aB × Int)} (h:lC s= .ok r):r.length≤131073∧∀x∈r.map Prod.fst,x.names.length≤1000∧x.aF.length≤1000:=by
 have e:=Im h;have hl:s.length≤131072:=by
  unfold lC at h
  split at h
  ·cases h
  ·omega
 subst e;refine⟨by rw[f];have:=zP s (s.length+1) 0;omega,fun x hx=>?_⟩;rw[List.map_map] at hx;obtain⟨y,hy,rfl⟩:=List.mem_map.1 hx;exact IL s _ _ y hy
theorem FL {s:Bs} {n m:Int} (h:lC s= .error (n,m)):m≠0:=by
 unfold lC at h
 split at h
 ·injection h with h;injection h with _ h;rw[←h];decide
 ·rcases qh s (s.length+1) 0 ah with⟨_,q⟩|⟨_,x,_,_,q0,q⟩
  ·rw[q] at h;cases h
  ·rw[q] at h;injection h with h;injection h with _ h;rw[←h];exact q0
theorem Gj {ls:List aB} {i:Nat} {n:Int} (h:nS bK 0 ls= .error (i,n)):i<ls.length∧n≠0:=by
 obtain⟨k,l,rfl,hk,_,q⟩:=Ou ls bK 0 i n h;refine⟨by have:=(List.getElem?_eq_some_iff.1 hk).1;omega,?_⟩;rcases q with⟨rfl,_⟩|⟨rfl,_⟩ <;> decide
def ae' (s:Bs) (w:World) (e:Ending) (X:World):Prop:=
 Below w.heap.size w X∧
 match lW s with
 | .ok z=>∃h es ds ms,∃scan:EvC→List Sn,∃dn:aK→List Int,∃mn:aM→List Int,e= .returned (.tuple #[fJ h,.int .i64 (s.length:Int),.int .i64 0])∧gU X w.heap.size h (bV z) es ds ms scan dn mn
 | .error (n,m)=>e= .returned (.tuple #[fJ j3,.int .i64 n,.int .i64 m])
def yw (w:World):Prop:=Bf w∧Az w
theorem yw.below {w w':World} (h:yw w) (hb:Below w.heap.size w w'):yw w':=⟨h.1.below hb,h.2.below hb⟩
theorem zM (s:Bs) (w:World) (hG:yw w):Calls Tryz.prog 17 #[.string ⟨s.toArray⟩] w (ae' s w):=by
 have HB0:=hid (av (Below.refl w.heap.size w) (.cells (aA j3) 41));have HX0:=hid (Bx.new w (aA j3) 41);have HL:=hid (u7 s _ (hG.1.below HB0.q));have HG:=hid hG;clear hG;go_enter Tryz.func17,Tryz.ntmps17;go_wp2_with fail;refine HL.q.mono ?_;rintro e w1 ⟨hb1,h1⟩;have HB1:=hid (HB0.q.bD hb1);have bE:=hid (HX0.q.keep hb1);have Bt:=hid hb1;clear HL hb1
 cases hl:lC s with
 |error x=>
  obtain⟨n,m⟩:=x;rw[hl] at h1;obtain rfl:=h1;have hne:m≠0:=FL hl;have hne1:(m !=0)=true:=by simp[hne]
  have HR:Hid (lW s= .error (n,m)):=hid (by unfold lW;rw[hl]);have hcx:=bE.q.1;have hfx:=bE.q.2.1;have hlx:=bE.q.2.2;clear hl hne;go_wp2_with fail;obtain⟨Z,hZ,hz1,hz2⟩:=Du (h':=j3) bE.q;rw[←hZ];have hcz:=hz1.1;clear hZ;refine bodyPost_ret (v:= .tuple #[fJ j3,.int .i64 n,.int .i64 m]) (by simp[results,results17,go_sem,hcz]) rfl ⟨hz2.below HB1.q (fun i hi=>by omega) HB1.q.size,?_⟩;rw[HR.q]
 |ok r=>
  rw[hl] at h1;obtain⟨a,c,aR,pa,pc,rfl,oL,aL,oP⟩:=h1;have hlen:=FM hl;have hll:aR.length=r.length:=by rw[aL.1,f]
  have y8:=hid (tT a c aR (r.map Prod.fst) _ w1 (oL.row (hc:=wH) ah) aL hlen.2 (HG.q.2.below HB1.q));have HP:=hid (oP.row (hc:=gZ) (by rw[f];omega));have HLF:=hid hl;have HPN:Hid (∀b o,pa=some ⟨b,o,none⟩→b≠w.heap.size):=hid (fun b o e q=>by have:=adx oP e;rw[World.size_alloc] at this;omega);clear oL aL oP hlen hll hl;go_wp2_with fail;refine y8.q.mono ?_;rintro e w2 ⟨hb2,h2⟩;have HB2:=hid (HB1.q.bD hb2);have aW:=hid (bE.q.keep hb2);have HBO:=hid hb2;clear hb2
  cases ho:nS bK 0 (r.map Prod.fst) with
  |error x=>
   obtain⟨i,n⟩:=x;rw[ho] at h2;obtain rfl:=h2;obtain⟨hi,hn0⟩:=Gj ho;rw[f] at hi;obtain⟨px,pb,po,hpx,rfl,hpc⟩:=HP.q.at_ hi;have hpb:=hpc 0 _ rfl;simp only[Nat.add_zero,Nat.mul_one] at hpb;have ady:=HBO.q.cell (p:=⟨pb,po+i,none⟩) (fw hpb)▸hpb;have hne1:(n !=0)=true:=by simp[hn0]
   have hi1:(i:Int)<(r.length:Int):=by omega
   have HR:Hid (lW s= .error (px,n)):=hid (by unfold lW;rw[HLF.q];simp only[ho,List.getD,hpx,Option.getD_some]);have eD:=hid (aW.q.alloc (.cells (aA j3) 41));have HB3:=hid (av HB2.q (.cells (aA j3) 41));have l5:=hid (aT (av (Below.refl w2.heap.size w2) (.cells (aA j3) 41)) rfl ady);have jv:Hid (pb≠w.heap.size):=hid (HPN.q pb po rfl);clear ho hn0 hpx hpc hpb ady;go_wp2_with fail;refine aI 99 [(0,0),(1,0),(2,0),(3,0),(4,0),(5,0),(6,2),(7,0),(8,0)] (fun _=>True) (fun W'=>W'.cell? ⟨pb,po+i,none⟩=some (.int .i64 px)) au au (trivial) (l5.q) ?_;refine qC ?_;refine aD rfl rfl (fun K hK=>?_);go_simp;have hcx:=eD.q.1;have hfx:=eD.q.2.1;have hlx:=eD.q.2.2;go_simp;refine hK _ _ ⟨trivial,(let⟨_,e,_,q⟩:=Du (h':=j3) eD.q;by rw[←e];exact q.cell l5.q jv.q)⟩ ?_;clear hK K hcx hfx hlx;refine qC ?_;refine bn ?_;go_wp2_with fail;obtain⟨Z,hZ,hz1,hz2⟩:=Du (h':=j3) eD.q;rw[←hZ];have hcz:=hz1.drew.1;clear hZ;refine bodyPost_ret (v:= .tuple #[fJ j3,.int .i64 px,.int .i64 n]) (by simp[results,results17,go_sem,hcz]) rfl ⟨(hz2.below HB3.q (fun i hi=>by omega) HB3.q.size).drew,?_⟩;rw[HR.q]
  |ok z=>
   rw[ho] at h2;obtain⟨h,es,ds,ms,scan,dn,mn,rfl,hho⟩:=h2;have HR:Hid (lW s= .ok z):=hid (by unfold lW;rw[HLF.q];simp only[ho]);have eD:=hid (aW.q.alloc (.cells (aA h) 41));have HB3:=hid (av HB2.q (.cells (aA h) 41));have vG:=hid (hho.below (av (Below.refl _ _) (.cells (aA h) 41)));have wC:Hid (w.heap.size<w1.heap.size):=hid bE.q.2.2;have hcx:=eD.q.1;have hfx:=eD.q.2.1;have hlx:=eD.q.2.2;clear ho hho;go_wp2_with fail;obtain⟨Z,hZ,hz1,hz2⟩:=Du (h':=h) eD.q;rw[←hZ];have hcz:=hz1.1;clear hZ;refine bodyPost_ret (v:= .tuple #[fJ h,.int .i64 (s.length:Int),.int .i64 0]) (by simp[results,results17,go_sem,hcz]) rfl ⟨hz2.below HB3.q (fun i hi=>by omega) HB3.q.size,?_⟩;rw[HR.q];exact⟨h,es,ds,ms,scan,dn,mn,rfl,(vG.q.same (hz2.mono (fun i hi _=>by have:=wC.q;omega))).mono (by have:=wC.q;omega)⟩
end Yd
namespace Yd
open Go Go.RowKit Go.Proofs Go.Lib Tryz
open Tryz renaming prog→d
open Value renaming int→e,string→j
open Go.Proofs.YtnhnhmeogckgpaaGreatDoor
section
variable {W:World}
theorem Wu {fuel:Nat} {ms:Array (String × TypeId)} {t:TypeId} {cs:List Value} {y:DataW Unit × List MemPlace} (ht:Tryz.prog.underlying t=some (.interface ms)) (h:DataW.trod (fun _=>()) d W 0 (fun _=>true) false fuel t cs=some y):
  ∃ev,cs=[ev]∧(ev= .nilIface∨∃te pe,ev= .iface te pe):=by
 cases fuel with
 |zero=>simp[DataW.trod] at h
 |succ fuel=>
  simp only[DataW.trod,ht] at h
  split at h <;> first|exact⟨_,rfl,.inl rfl⟩|exact⟨_,rfl,.inr ⟨_,_,rfl⟩⟩|(rename_i heq;cases heq;done)|(cases h;done)|(rename_i heq;simp at heq;done)|skip
theorem Ky (h:VarReads d W "strconv.ErrRange" (Rows.laid_strconv_ErrRange:DataW Unit)):xR W:=by
 obtain⟨c,_,_,t,a⟩:=vV (g:=9) (t:=136) h au au;obtain⟨ev,h1,h2⟩:=Wu underlying136 t;exact⟨ev,by rw[a,h1];rfl,h2⟩
theorem Kw (hu1:VarReads d W "unicode/utf8.first" Rows.laid_unicode_utf8_first) (hu2:VarReads d W "unicode/utf8.acceptRanges" Rows.laid_unicode_utf8_acceptRanges)
  (hf:VarReads d W "yardarm/line.forms" Rows.laid_yardarm_line_forms) (hgd:VarReads d W "yardarm/line.guards" Rows.laid_yardarm_line_guards) (hlv:VarReads d W "yardarm/level.texts" Rows.laid_yardarm_level_texts) (hhl:VarReads d W "yardarm/history.limits" Rows.laid_yardarm_history_limits):nD W:=by
 have hu:=utf8Tabs_of_reads lays260 u8x (Vn▸hu1) (RV▸hu2);obtain⟨c2,_,_,t2,a2⟩:=vV (g:=0) (t:=117) hf au au;obtain⟨c3,_,_,t3,a3⟩:=vV (g:=1) (t:=120) hgd au au;obtain⟨c4,_,_,t4,a4⟩:=vV (g:=3) (t:=204) hlv au au;obtain⟨c1,_,_,t1,a1⟩:=vV (g:=2) (t:=109) hhl au au;refine⟨⟨hu,fun i hi=>(by rw[a1];exact RY underlying109 t1 i hi (by match i,hi with|0,_=>rfl|1,_=>rfl|2,_=>rfl|3,_=>rfl))⟩,fun k hk=>?_,fun i hi=>?_,fun i hi=>?_⟩
 ·rw[a2,a2,a2]
  exact YT t2 k hk (by match k,hk with|0,_=>rfl|1,_=>rfl|2,_=>rfl|3,_=>rfl|4,_=>rfl|5,_=>rfl|6,_=>rfl|7,_=>rfl|8,_=>rfl|9,_=>rfl)
 ·rw[a3]
  exact RX underlying120 t3 i hi (by match i,hi with|0,_=>rfl|1,_=>rfl|2,_=>rfl|3,_=>rfl)
 ·rw[a4]
  exact RX underlying204 t4 i hi (by match i,hi with|0,_=>rfl|1,_=>rfl|2,_=>rfl|3,_=>rfl|4,_=>rfl)
theorem Kz (hg:nD W) (hfl:VarReads d W "yardarm/format.limits" Rows.laid_yardarm_format_limits):rC W:=by
 obtain⟨c1,_,_,t1,a1⟩:=vV (g:=4) (t:=109) hfl au au;exact⟨hg.1.1,fun i hi=>(by rw[a1];exact RY underlying109 t1 i hi (by match i,hi with|0,_=>rfl|1,_=>rfl|2,_=>rfl|3,_=>rfl))⟩
end
def cellsD:Nat→DataW Unit→List Value
 |_,.lit (.int k i)=>[.int k i]
 |_,.lit (.string b)=>[.string ⟨b.toArray⟩]
 |f+1,.agg l=>l.flatMap (cellsD f)
 |_,_=>[]
def sV (cs:Array Value):Obj→Obj
 | .cells _ t frozen=> .cells cs t frozen
 |o=>o
noncomputable def Yg:Nat:=(World.holding d default ⟨#[],#[],[]⟩).heap.size
noncomputable def xW (os:Os):World:=
 let w0:=World.holding d os ⟨#[.cells #[.string ⟨#[118,97,108,117,101,32,111,117,116,32,111,102,32,114,97,110,103,101]⟩] 328,.cells #[.string ⟨#[105,110,118,97,108,105,100,32,115,121,110,116,97,120]⟩] 328],#[],[]⟩
 {w0 with heap:=(((((((((((w0.heap.modify 6 (sV ((Lib.firstTab.map (fun z=>e .u8 z)).toArray))).modify 7 (sV (((List.range 16).flatMap (fun i=>[e .u8 (Lib.accLo i:Int),e .u8 (Lib.accHi i:Int)])).toArray))).modify
   0 (sV (((List.range 10).flatMap (fun k=>[j ⟨(eU k).toArray⟩,e .i64 (bX k),e .i32 (dm k)])).toArray))).modify
   1 (sV (((List.range 4).map (fun i=>j ⟨(uY i).toArray⟩)).toArray))).modify 3 (sV (((List.range 5).map (fun i=>j ⟨(wR i).toArray⟩)).toArray))).modify
   11 (sV (cellsD 2 Rows.laid_math_bits_deBruijn32tab).toArray)).modify 12 (sV (cellsD 2 Rows.laid_math_bits_deBruijn64tab).toArray)).modify
   10 (sV (cellsD 2 Rows.laid_internal_strconv_uint64pow10).toArray)).modify 9 (sV #[.iface 326 (.pointer (some ⟨Yg,0,none⟩))])).modify 8 (sV #[.iface 326 (.pointer (some ⟨Yg+1,0,none⟩))])).modify 2 (sV (cellsD 2 Rows.laid_yardarm_history_limits).toArray)).modify 4 (sV (cellsD 2 Rows.laid_yardarm_format_limits).toArray)}
end Yd
namespace Yd
open Go Go.RowKit Go.Proofs
def Yh:Bool:=match lW [98,101,103,105,110,32,116,32,115,32,49,10,119,114,105,116,101,32,116,32,120,10,99,111,109,109,105,116,32,116,10,111,114,100,101,114,32,120,32,116,10] with
 | .ok z=>decide ((bV z).E.length=3) && decide (((bV z).E.map (fun e=>(e.v.t,e.v.k)))[1]?=some ((0:Int),(1:Int))) && decide ((bV z).D.length=1) && decide ((bV z).nl 2=[[120]])
 | .error _=>false
theorem afa:Yh=true:=au
theorem afb:lW [98,101,103,105,110,32,116,32,115,32,49,10,98,101,120]= .error (14,220):=au
theorem afc:∃z,lW [98,101,103,105,110,32,116,32,115,32,49,10,119,114,105,116,101,32,116,32,120,10,99,111,109,109,105,116,32,116,10,111,114,100,101,114,32,120,32,116,10]= .ok z∧(bV z).E.length=3∧(∃e,(bV z).E[1]?=some e∧e.v=⟨0,1⟩)∧(bV z).D.length=1∧(bV z).nl 2=[[120]]:=by
 have h:=afa;unfold Yh at h
 split at h
 ·rename_i z hz
  simp only[Bool.and_eq_true,decide_eq_true_eq] at h;obtain⟨⟨⟨h1,h2⟩,h3⟩,h4⟩:=h;refine⟨z,hz,h1,?_,h3,h4⟩;rw[List.getElem?_map] at h2
  cases he:(bV z).E[1]? with
  |none=>rw[he] at h2;cases h2
  |some e=>
   rw[he] at h2;obtain⟨_,_,_,_,_,⟨a,b⟩,_,_,_,_⟩:=e;simp at h2;exact⟨_,rfl,by rw[h2.1,h2.2]⟩
 ·cases h
theorem Wv {s:Bs} {z:Cont} (h:lW s= .ok z):∃r,lC s= .ok r∧nS bK 0 (r.map Prod.fst)= .ok z:=by
 unfold lW at h
 split at h
 ·cases h
 ·rename_i r hr
  split at h
  ·rename_i y hy
   injection h with h;exact⟨r,hr,by rw[hy,h]⟩
  ·cases h
theorem Bw.Zw {s:Bs} {z:Cont} (h:lW s= .ok z):Bw (bV z):=let⟨_,_,h2⟩:=Wv h;yx h2
theorem Nl (w:World) (hG:yw w):Calls Tryz.prog 10 #[] w (bC (.bool true) w):=by
 have HG:=hid hG;clear hG;go_enter Tryz.func10,Tryz.ntmps10;go_wp2_with fail;refine(zM [98,101,103,105,110,32,116,32,115,32,49,10,119,114,105,116,101,32,116,32,120,10,99,111,109,109,105,116,32,116,10,111,114,100,101,114,32,120,32,116,10] w HG.q).mono ?_;rintro e w1 ⟨hb1,h1⟩;obtain⟨z,hz,hE,⟨ev,hev,hv⟩,hD,hN⟩:=afc;rw[hz] at h1;obtain⟨h,es,ds,ms,scan,dn,mn,rfl,ho⟩:=h1;have wC:=hid (Bw.Zw hz);have HO:=hid ho;have HB1:=hid hb1;have bE:=hid (Bx.new w1 (aA h) 41);have HB2:=hid (av hb1 (.cells (aA h) 41));clear ho hb1 hz;go_wp2_with fail;refine(zM [98,101,103,105,110,32,116,32,115,32,49,10,98,101,120] _ (HG.q.below HB2.q)).mono ?_;rintro e w2 ⟨hb2,h2⟩;rw[afb] at h2;obtain rfl:=h2;have HB3:=hid (av (HB2.q.bD hb2) (.cells (aA j3) 41));have hbz:Below w1.heap.size w1 (w2.alloc (.cells (aA j3) 41)):=av ((av (Below.refl _ _) _).trans (hb2.mono ak)) _;have aW:=hid ((bE.q.keep hb2).alloc (.cells (aA j3) 41));have hd:=(HO.q.below hbz).deep wC.q;have hnm:=(HO.q.below hbz).names wC.q 2 ah;rw[hN] at hnm;have hel:h.e.n=3:=by rw[←hd.1.len,←hE,←HO.q.be,List.length_map]
 have hdl:h.d.n=1:=by rw[←hd.2.1.len,←hD,←HO.q.bd,List.length_map]
 have hm1:∃x,es[1]?=some x∧x.v=⟨0,1⟩:=by
  rw[←HO.q.be,List.getElem?_map] at hev
  cases hx:es[1]? with
  |none=>rw[hx] at hev;cases hev
  |some x=>
   rw[hx] at hev;injection hev with hev;exact⟨x,rfl,by rw[←hv,←hev];rfl⟩
 obtain⟨x,hx1,hxv⟩:=hm1;obtain⟨y,b,o,hy,hae,hc⟩:=hd.1.at_ (i:=1) ah;rw[hx1] at hy;injection hy with hy;subst hy;have vg:=hc 5 (.int .i64 x.v.t) rfl;have hc6:=hc 6 (.int .i64 x.v.k) rfl;rw[hxv] at vg hc6;have HEQ:Hid (∀W,Below (w2.alloc (.cells (aA j3) 41)).heap.size (w2.alloc (.cells (aA j3) 41)) W→∀g,Row W 1 encStr (some ⟨g,0,none⟩) 1 1 [[120]]→Calls Tryz.prog 33 #[h.o.v,.slice (some ⟨g,0,none⟩) 1 1] W (bC (.bool true) W)):=hid (fun W hW g hr=>by
  have:=Xk _ _ _ _ _ _ _ _ W (hnm.below hW rfl) hr;rw[decide_eq_true (rfl:[[120]]=([[120]]:List Bs))] at this;exact this)
 clear hd hnm hev hE hD hN hc hx1 hxv hb2 hbz;have hx4:=aW.q.1 4;rw[show(aA h)[4]?=some (.slice h.e.a h.e.n h.e.c) from rfl,hel,hae] at hx4;have hx5:=aW.q.1 5;rw[show(aA h)[5]?=some (.slice h.d.a h.d.n h.d.c) from rfl,hdl] at hx5;have hx2:=aW.q.1 2;rw[show(aA h)[2]?=some (.slice h.o.a h.o.n h.o.c) from rfl] at hx2;clear hel hdl hae;go_wp2_with fail;refine(HEQ.q _ (av (Below.refl _ _) _) _ (Row.ahy (X:=w2.alloc (.cells (aA j3) 41)) ak [120])).mono ?_;rintro e w3 ⟨rfl,hb3⟩;go_wp2_with fail;go_ret;have hb4:=av HB3.q (.cells #[.string ⟨#[120]⟩] 9);exact⟨rfl,hb4.trans (hb3.mono hb4.size)⟩
end Yd
