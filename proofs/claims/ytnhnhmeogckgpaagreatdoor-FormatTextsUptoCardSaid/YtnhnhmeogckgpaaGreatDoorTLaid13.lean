import Derived.Test.YtnhnhmeogckgpaaGreatDoorTLs3
import Derived.Test.YtnhnhmeogckgpaaGreatDoorTOf2
import Derived.Test.YtnhnhmeogckgpaaGreatDoorTF20
set_option linter.all false
set_option maxRecDepth 200000
set_option maxHeartbeats 8000000
namespace Yd
open List renaming length_map→f
open Go Go.RowKit Go.Proofs Tryz
theorem Co {X:World} {b:Nat} {h h':HC} (hb:Bx X b (aC h)):∃Z,Z=((((((((X.setCell ⟨b,0,none⟩ h'.t.v).setCell ⟨b,1,none⟩ h'.s.v).setCell ⟨b,2,none⟩ h'.o.v).setCell ⟨b,3,none⟩ h'.p.v).setCell ⟨b,4,none⟩ h'.e.v).setCell ⟨b,5,none⟩ h'.d.v).setCell ⟨b,6,none⟩ h'.m.v).setCell ⟨b,7,none⟩ h'.w.v)∧Bx Z b (aC h')∧Same (fun i=>i≠b) X Z:=⟨_,rfl,y9 hb,rX⟩
theorem ad' {α:Type} {enc:α→List Value} {k:Nat} {X:World} {B:Nat} {T:TypeId} {a:Option Addr} {n c:Nat} {xs:List α} (h:Own X B T k enc (.slice a n c) xs) {b o:Nat} (e:a=some ⟨b,o,none⟩):B≤b:=by
 rcases h.sD with⟨q,_⟩|⟨g,q,_⟩
 ·rw[q] at e;cases e
 ·have:=(h.lt g (by rw[q];rfl)).1
  rw[q] at e;injection e with e;injection e with e;omega
def mX (s:Bs):Except (Int × Int) Cont:=match kF s with
 | .error x=> .error x
 | .ok r=>match rE iF 0 (r.map Prod.fst) with
  | .ok z=> .ok z
  | .error (i,n)=> .error ((r.map Prod.snd).getD i 0,n)
theorem Tp {s:Bs} {r:List (aB × Int)} (h:kF s= .ok r):r=(gU s (s.length+1) 0).map (fun x=>(x.ln,x.fr)):=by
 unfold kF at h
 split at h
 ·cases h
 ·rcases qH s (s.length+1) 0 ah with⟨_,q⟩|⟨_,_,_,_,_,q⟩
  ·rw[q] at h;injection h with h;exact h.symm
  ·rw[q] at h;cases h
theorem Qb {s:Bs} {r:List (aB × Int)} (h:kF s= .ok r):r.length≤131073∧∀x∈r.map Prod.fst,x.names.length≤1000∧x.aA.length≤1000:=by
 have e:=Tp h;have hl:s.length≤131072:=by
  unfold kF at h
  split at h
  ·cases h
  ·omega
 subst e;refine⟨by rw[f];have:=yI s (s.length+1) 0;omega,fun x hx=>?_⟩;rw[List.map_map] at hx;obtain⟨y,hy,rfl⟩:=List.mem_map.1 hx;exact Gl s _ _ y hy
theorem Qc {s:Bs} {n m:Int} (h:kF s= .error (n,m)):m≠0:=by
 unfold kF at h
 split at h
 ·injection h with h;injection h with _ h;rw[←h];decide
 ·rcases qH s (s.length+1) 0 ah with⟨_,q⟩|⟨_,x,_,_,q0,q⟩
  ·rw[q] at h;cases h
  ·rw[q] at h;injection h with h;injection h with _ h;rw[←h];exact q0
theorem ZT {ls:List aB} {i:Nat} {n:Int} (h:rE iF 0 ls= .error (i,n)):i<ls.length∧n≠0:=by
 obtain⟨k,l,rfl,hk,_,q⟩:=NM ls iF 0 i n h;refine⟨by have:=(List.getElem?_eq_some_iff.1 hk).1;omega,?_⟩;rcases q with⟨rfl,_⟩|⟨rfl,_⟩ <;> decide
def afM (s:Bs) (w:World) (e:Ending) (X:World):Prop:=
 Below w.heap.size w X∧
 match mX s with
 | .ok z=>∃h es ds ms,∃scan:EvC→List Sn,∃dn:aH→List Int,∃mn:aI→List Int,e= .returned (.tuple #[eF h,.int .i64 (s.length:Int),.int .i64 0])∧gK X w.heap.size h (fB z) es ds ms scan dn mn
 | .error (n,m)=>e= .returned (.tuple #[eF jB,.int .i64 n,.int .i64 m])
def zo (w:World):Prop:=zK w∧zq w
theorem zo.below {w w':World} (h:zo w) (hb:Below w.heap.size w w'):zo w':=⟨h.1.below hb,h.2.below hb⟩
theorem uN (s:Bs) (w:World) (hG:zo w):Calls Tryz.prog 17 #[.string ⟨s.toArray⟩] w (afM s w):=by
 have HB0:=hid (av (Below.refl w.heap.size w) (.cells (aC jB) 41));have HX0:=hid (Bx.new w (aC jB) 41);have HL:=hid (BF s _ (hG.1.below HB0.q));have HG:=hid hG;clear hG;go_enter Tryz.func17,Tryz.ntmps17;go_wp2_with fail;refine HL.q.mono ?_;rintro e w1 ⟨hb1,h1⟩;have HB1:=hid (HB0.q.bq hb1);have cK:=hid (HX0.q.keep hb1);have Al:=hid hb1;clear HL hb1
 cases hl:kF s with
 |error x=>
  obtain⟨n,m⟩:=x;rw[hl] at h1;obtain rfl:=h1;have hne:m≠0:=Qc hl;have hne1:(m !=0)=true:=by simp[hne]
  have HR:Hid (mX s= .error (n,m)):=hid (by unfold mX;rw[hl]);have hcx:=cK.q.1;have hfx:=cK.q.2.1;have hlx:=cK.q.2.2;clear hl hne;go_wp2_with fail;obtain⟨Z,hZ,hz1,hz2⟩:=Co (h':=jB) cK.q;rw[←hZ];have hcz:=hz1.1;clear hZ;refine bodyPost_ret (v:= .tuple #[eF jB,.int .i64 n,.int .i64 m]) (by simp[results,results17,go_sem,hcz]) rfl ⟨hz2.below HB1.q (fun i hi=>by omega) HB1.q.size,?_⟩;rw[HR.q]
 |ok r=>
  rw[hl] at h1;obtain⟨a,c,aS,pa,pc,rfl,oL,aL,oP⟩:=h1;have hlen:=Qb hl;have hll:aS.length=r.length:=by rw[aL.1,f]
  have Fw:=hid (Ht a c aS (r.map Prod.fst) _ w1 (oL.row (hc:=uT) ah) aL hlen.2 (HG.q.2.below HB1.q));have HP:=hid (oP.row (hc:=eG) (by rw[f];omega));have HLF:=hid hl;have HPN:Hid (∀b o,pa=some ⟨b,o,none⟩→b≠w.heap.size):=hid (fun b o e q=>by have:=ad' oP e;rw[World.size_alloc] at this;omega);clear oL aL oP hlen hll hl;go_wp2_with fail;refine Fw.q.mono ?_;rintro e w2 ⟨hb2,h2⟩;have HB2:=hid (HB1.q.bq hb2);have cO:=hid (cK.q.keep hb2);have HBO:=hid hb2;clear hb2
  cases ho:rE iF 0 (r.map Prod.fst) with
  |error x=>
   obtain⟨i,n⟩:=x;rw[ho] at h2;obtain rfl:=h2;obtain⟨hi,hn0⟩:=ZT ho;rw[f] at hi;obtain⟨px,pb,po,hpx,rfl,hpc⟩:=HP.q.at_ hi;have hpb:=hpc 0 _ rfl;simp only[Nat.add_zero,Nat.mul_one] at hpb;have aeb:=HBO.q.cell (p:=⟨pb,po+i,none⟩) (dS hpb)▸hpb;have hne1:(n !=0)=true:=by simp[hn0]
   have hi1:(i:Int)<(r.length:Int):=by omega
   have HR:Hid (mX s= .error (px,n)):=hid (by unfold mX;rw[HLF.q];simp only[ho,List.getD,hpx,Option.getD_some]);have gL:=hid (cO.q.alloc (.cells (aC jB) 41));have HB3:=hid (av HB2.q (.cells (aC jB) 41));have jM:=hid (aM (av (Below.refl w2.heap.size w2) (.cells (aC jB) 41)) rfl aeb);have jf:Hid (pb≠w.heap.size):=hid (HPN.q pb po rfl);clear ho hn0 hpx hpc hpb aeb;go_wp2_with fail;refine aK 99 [(0,0),(1,0),(2,0),(3,0),(4,0),(5,0),(6,2),(7,0),(8,0)] (fun _=>True) (fun W'=>W'.cell? ⟨pb,po+i,none⟩=some (.int .i64 px)) au au (trivial) (jM.q) ?_;refine qC ?_;refine aF rfl rfl (fun K hK=>?_);go_simp;have hcx:=gL.q.1;have hfx:=gL.q.2.1;have hlx:=gL.q.2.2;go_simp;refine hK _ _ ⟨trivial,(let⟨_,e,_,q⟩:=Co (h':=jB) gL.q;by rw[←e];exact q.cell jM.q jf.q)⟩ ?_;clear hK K hcx hfx hlx;refine qC ?_;refine bB ?_;go_wp2_with fail;obtain⟨Z,hZ,hz1,hz2⟩:=Co (h':=jB) gL.q;rw[←hZ];have hcz:=hz1.drew.1;clear hZ;refine bodyPost_ret (v:= .tuple #[eF jB,.int .i64 px,.int .i64 n]) (by simp[results,results17,go_sem,hcz]) rfl ⟨(hz2.below HB3.q (fun i hi=>by omega) HB3.q.size).drew,?_⟩;rw[HR.q]
  |ok z=>
   rw[ho] at h2;obtain⟨h,es,ds,ms,scan,dn,mn,rfl,hho⟩:=h2;have HR:Hid (mX s= .ok z):=hid (by unfold mX;rw[HLF.q];simp only[ho]);have gL:=hid (cO.q.alloc (.cells (aC h) 41));have HB3:=hid (av HB2.q (.cells (aC h) 41));have wM:=hid (hho.below (av (Below.refl _ _) (.cells (aC h) 41)));have uO:Hid (w.heap.size<w1.heap.size):=hid cK.q.2.2;have hcx:=gL.q.1;have hfx:=gL.q.2.1;have hlx:=gL.q.2.2;clear ho hho;go_wp2_with fail;obtain⟨Z,hZ,hz1,hz2⟩:=Co (h':=h) gL.q;rw[←hZ];have hcz:=hz1.1;clear hZ;refine bodyPost_ret (v:= .tuple #[eF h,.int .i64 (s.length:Int),.int .i64 0]) (by simp[results,results17,go_sem,hcz]) rfl ⟨hz2.below HB3.q (fun i hi=>by omega) HB3.q.size,?_⟩;rw[HR.q];exact⟨h,es,ds,ms,scan,dn,mn,rfl,(wM.q.same (hz2.mono (fun i hi _=>by have:=uO.q;omega))).mono (by have:=uO.q;omega)⟩
end Yd
namespace Yd
open Go Go.RowKit Go.Proofs Go.Lib Tryz
open Tryz renaming prog→d
open Value renaming int→e,string→j
open Go.Proofs.YtnhnhmeogckgpaaGreatDoor
section
variable {W:World}
theorem WK {fuel:Nat} {ms:Array (String × TypeId)} {t:TypeId} {cs:List Value} {y:DataW Unit × List MemPlace} (ht:Tryz.prog.underlying t=some (.interface ms)) (h:DataW.trod (fun _=>()) d W 0 (fun _=>true) false fuel t cs=some y):
  ∃ev,cs=[ev]∧(ev= .nilIface∨∃te pe,ev= .iface te pe):=by
 cases fuel with
 |zero=>simp[DataW.trod] at h
 |succ fuel=>
  simp only[DataW.trod,ht] at h
  split at h <;> first|exact⟨_,rfl,.inl rfl⟩|exact⟨_,rfl,.inr ⟨_,_,rfl⟩⟩|(rename_i heq;cases heq;done)|(cases h;done)|(rename_i heq;simp at heq;done)|skip
theorem Vk (h:VarReads d W "strconv.ErrRange" (Rows.laid_strconv_ErrRange:DataW Unit)):vW W:=by
 obtain⟨c,_,_,t,a⟩:=uD (g:=9) (t:=136) h au au;obtain⟨ev,h1,h2⟩:=WK underlying136 t;exact⟨ev,by rw[a,h1];rfl,h2⟩
theorem Vj (hu1:VarReads d W "unicode/utf8.first" Rows.laid_unicode_utf8_first) (hu2:VarReads d W "unicode/utf8.acceptRanges" Rows.laid_unicode_utf8_acceptRanges)
  (hf:VarReads d W "yardarm/line.forms" Rows.laid_yardarm_line_forms) (hgd:VarReads d W "yardarm/line.guards" Rows.laid_yardarm_line_guards) (hlv:VarReads d W "yardarm/level.texts" Rows.laid_yardarm_level_texts) (hhl:VarReads d W "yardarm/history.limits" Rows.laid_yardarm_history_limits):jY W:=by
 have hu:=utf8Tabs_of_reads lays260 u8x (V9▸hu1) (Sw▸hu2);obtain⟨c2,_,_,t2,a2⟩:=uD (g:=0) (t:=117) hf au au;obtain⟨c3,_,_,t3,a3⟩:=uD (g:=1) (t:=120) hgd au au;obtain⟨c4,_,_,t4,a4⟩:=uD (g:=3) (t:=204) hlv au au;obtain⟨c1,_,_,t1,a1⟩:=uD (g:=2) (t:=109) hhl au au;refine⟨⟨hu,fun i hi=>(by rw[a1];exact Sz underlying109 t1 i hi (by match i,hi with|0,_=>rfl|1,_=>rfl|2,_=>rfl|3,_=>rfl))⟩,fun k hk=>?_,fun i hi=>?_,fun i hi=>?_⟩
 ·rw[a2,a2,a2]
  exact ZI t2 k hk (by match k,hk with|0,_=>rfl|1,_=>rfl|2,_=>rfl|3,_=>rfl|4,_=>rfl|5,_=>rfl|6,_=>rfl|7,_=>rfl|8,_=>rfl|9,_=>rfl)
 ·rw[a3]
  exact Sy underlying120 t3 i hi (by match i,hi with|0,_=>rfl|1,_=>rfl|2,_=>rfl|3,_=>rfl)
 ·rw[a4]
  exact Sy underlying204 t4 i hi (by match i,hi with|0,_=>rfl|1,_=>rfl|2,_=>rfl|3,_=>rfl|4,_=>rfl)
theorem Vl (hg:jY W) (hfl:VarReads d W "yardarm/format.limits" Rows.laid_yardarm_format_limits):pY W:=by
 obtain⟨c1,_,_,t1,a1⟩:=uD (g:=4) (t:=109) hfl au au;exact⟨hg.1.1,fun i hi=>(by rw[a1];exact Sz underlying109 t1 i hi (by match i,hi with|0,_=>rfl|1,_=>rfl|2,_=>rfl|3,_=>rfl))⟩
end
def cellsD:Nat→DataW Unit→List Value
 |_,.lit (.int k i)=>[.int k i]
 |_,.lit (.string b)=>[.string ⟨b.toArray⟩]
 |f+1,.agg l=>l.flatMap (cellsD f)
 |_,_=>[]
def qW (cs:Array Value):Obj→Obj
 | .cells _ t frozen=> .cells cs t frozen
 |o=>o
noncomputable def Yy:Nat:=(World.holding d default ⟨#[],#[],[]⟩).heap.size
noncomputable def FK (os:Os):World:=
 let w0:=World.holding d os ⟨#[.cells #[.string ⟨#[118,97,108,117,101,32,111,117,116,32,111,102,32,114,97,110,103,101]⟩] 328,.cells #[.string ⟨#[105,110,118,97,108,105,100,32,115,121,110,116,97,120]⟩] 328],#[],[]⟩
 {w0 with heap:=(((((((((((w0.heap.modify 6 (qW ((Lib.firstTab.map (fun z=>e .u8 z)).toArray))).modify 7 (qW (((List.range 16).flatMap (fun i=>[e .u8 (Lib.accLo i:Int),e .u8 (Lib.accHi i:Int)])).toArray))).modify
   0 (qW (((List.range 10).flatMap (fun k=>[j ⟨(aO k).toArray⟩,e .i64 (bA k),e .i32 (bH k)])).toArray))).modify
   1 (qW (((List.range 4).map (fun i=>j ⟨(gB i).toArray⟩)).toArray))).modify 3 (qW (((List.range 5).map (fun i=>j ⟨(fJ i).toArray⟩)).toArray))).modify
   11 (qW (cellsD 2 Rows.laid_math_bits_deBruijn32tab).toArray)).modify 12 (qW (cellsD 2 Rows.laid_math_bits_deBruijn64tab).toArray)).modify
   10 (qW (cellsD 2 Rows.laid_internal_strconv_uint64pow10).toArray)).modify 9 (qW #[.iface 326 (.pointer (some ⟨Yy,0,none⟩))])).modify 8 (qW #[.iface 326 (.pointer (some ⟨Yy+1,0,none⟩))])).modify 2 (qW (cellsD 2 Rows.laid_yardarm_history_limits).toArray)).modify 4 (qW (cellsD 2 Rows.laid_yardarm_format_limits).toArray)}
end Yd
namespace Yd
open List renaming length_map→u,length_take→B,length_append→C,getElem?_map→F,length_cons→G
open Go Go.RowKit Go.Proofs
open Below renaming refl→A
open Go.Obj renaming cells→m
open Yd renaming hid→j
def Yz:Bool:=match mX [98,101,103,105,110,32,116,32,115,32,49,10,119,114,105,116,101,32,116,32,120,10,99,111,109,109,105,116,32,116,10,111,114,100,101,114,32,120,32,116,10] with
 | .ok z=>decide ((fB z).E.length=3) && decide (((fB z).E.map (fun e=>(e.v.t,e.v.k)))[1]?=some ((0:Int),(1:Int))) && decide ((fB z).D.length=1) && decide ((fB z).nl 2=[[120]])
 | .error _=>false
theorem afN:Yz=true:=au
theorem afO:mX [98,101,103,105,110,32,116,32,115,32,49,10,98,101,120]= .error (14,220):=au
theorem afP:∃z,mX [98,101,103,105,110,32,116,32,115,32,49,10,119,114,105,116,101,32,116,32,120,10,99,111,109,109,105,116,32,116,10,111,114,100,101,114,32,120,32,116,10]= .ok z∧(fB z).E.length=3∧(∃e,(fB z).E[1]?=some e∧e.v=⟨0,1⟩)∧(fB z).D.length=1∧(fB z).nl 2=[[120]]:=by
 have h:=afN;unfold Yz at h
 split at h
 ·rename_i z hz
  simp only[Bool.and_eq_true,decide_eq_true_eq] at h;obtain⟨⟨⟨h1,h2⟩,h3⟩,h4⟩:=h;refine⟨z,hz,h1,?_,h3,h4⟩;rw[F] at h2
  cases he:(fB z).E[1]? with
  |none=>rw[he] at h2;cases h2
  |some e=>
   rw[he] at h2;obtain⟨_,_,_,_,_,⟨a,b⟩,_,_,_,_⟩:=e;simp at h2;exact⟨_,rfl,by rw[h2.1,h2.2]⟩
 ·cases h
theorem WM {s:Bs} {z:Cont} (h:mX s= .ok z):∃r,kF s= .ok r∧rE iF 0 (r.map Prod.fst)= .ok z:=by
 unfold mX at h
 split at h
 ·cases h
 ·rename_i r hr
  split at h
  ·rename_i y hy
   injection h with h;exact⟨r,hr,by rw[hy,h]⟩
  ·cases h
theorem Aj.ZU {s:Bs} {z:Cont} (h:mX s= .ok z):Aj (fB z):=let⟨_,_,h2⟩:=WM h;JB h2
theorem ZV (w:World) (hG:zo w):Calls Tryz.prog 10 #[] w (aW (.bool true) w):=by
 have HG:=j hG;clear hG;go_enter Tryz.func10,Tryz.ntmps10;go_wp2_with fail;refine(uN [98,101,103,105,110,32,116,32,115,32,49,10,119,114,105,116,101,32,116,32,120,10,99,111,109,109,105,116,32,116,10,111,114,100,101,114,32,120,32,116,10] w HG.q).mono ?_;rintro e w1 ⟨hb1,h1⟩;obtain⟨z,hz,hE,⟨ev,hev,hv⟩,hD,hN⟩:=afP;rw[hz] at h1;obtain⟨h,es,ds,ms,scan,dn,mn,rfl,ho⟩:=h1;have uO:=j (Aj.ZU hz);have HO:=j ho;have HB1:=j hb1;have cK:=j (Bx.new w1 (aC h) 41);have HB2:=j (av hb1 (m (aC h) 41));clear ho hb1 hz;go_wp2_with fail;refine(uN [98,101,103,105,110,32,116,32,115,32,49,10,98,101,120] _ (HG.q.below HB2.q)).mono ?_;rintro e w2 ⟨hb2,h2⟩;rw[afO] at h2;obtain rfl:=h2;have HB3:=j (av (HB2.q.bq hb2) (m (aC jB) 41));have hbz:Below w1.heap.size w1 (w2.alloc (m (aC jB) 41)):=av ((av (A _ _) _).trans (hb2.mono ak)) _;have cO:=j ((cK.q.keep hb2).alloc (m (aC jB) 41));have hd:=(HO.q.below hbz).deep uO.q;have hnm:=(HO.q.below hbz).names uO.q 2 ah;rw[hN] at hnm;have hel:h.e.n=3:=by rw[←hd.1.len,←hE,←HO.q.be,u]
 have hdl:h.d.n=1:=by rw[←hd.2.1.len,←hD,←HO.q.bd,u]
 have hm1:∃x,es[1]?=some x∧x.v=⟨0,1⟩:=by
  rw[←HO.q.be,F] at hev
  cases hx:es[1]? with
  |none=>rw[hx] at hev;cases hev
  |some x=>
   rw[hx] at hev;injection hev with hev;exact⟨x,rfl,by rw[←hv,←hev];rfl⟩
 obtain⟨x,hx1,hxv⟩:=hm1;obtain⟨y,b,o,hy,hae,hc⟩:=hd.1.at_ (i:=1) ah;rw[hx1] at hy;injection hy with hy;subst hy;have y8:=hc 5 (.int .i64 x.v.t) rfl;have hc6:=hc 6 (.int .i64 x.v.k) rfl;rw[hxv] at y8 hc6;have HEQ:Hid (∀W,Below (w2.alloc (m (aC jB) 41)).heap.size (w2.alloc (m (aC jB) 41)) W→∀g,Row W 1 encStr (some ⟨g,0,none⟩) 1 1 [[120]]→Calls Tryz.prog 33 #[h.o.v,.slice (some ⟨g,0,none⟩) 1 1] W (aW (.bool true) W)):=j (fun W hW g hr=>by
  have:=OA _ _ _ _ _ _ _ _ W (hnm.below hW rfl) hr;rw[decide_eq_true (rfl:[[120]]=([[120]]:List Bs))] at this;exact this)
 clear hd hnm hev hE hD hN hc hx1 hxv hb2 hbz;have hx4:=cO.q.1 4;rw[show(aC h)[4]?=some (.slice h.e.a h.e.n h.e.c) from rfl,hel,hae] at hx4;have hx5:=cO.q.1 5;rw[show(aC h)[5]?=some (.slice h.d.a h.d.n h.d.c) from rfl,hdl] at hx5;have hx2:=cO.q.1 2;rw[show(aC h)[2]?=some (.slice h.o.a h.o.n h.o.c) from rfl] at hx2;clear hel hdl hae;go_wp2_with fail;refine(HEQ.q _ (av (A _ _) _) _ (Row.adZ (X:=w2.alloc (m (aC jB) 41)) ak [120])).mono ?_;rintro e w3 ⟨rfl,hb3⟩;go_wp2_with fail;go_ret;have hb4:=av HB3.q (m #[.string ⟨#[120]⟩] 9);exact⟨rfl,hb4.trans (hb3.mono hb4.size)⟩
def eD (ls:List aB):Bs:=ls.flatMap dP
theorem Qd (ls:List aB) (s:aB):eD (ls++[s])=eD ls++dP s:=by simp[eD]
def xC (ls:List aB):List Int:=(jS 0 ls).map Prod.snd
theorem Dj:∀(ls:List aB) (s:aB) (n:Nat),jS n (ls++[s])=jS n ls++[(s,((n+(eD ls).length:Nat):Int))]
 |[],s,n=>rfl
 |x::ls,s,n=>by
  show(x,(n:Int))::jS (n+(dP x).length) (ls++[s])=(x,(n:Int))::(jS (n+(dP x).length) ls++_);rw[Dj ls s (n+(dP x).length)];have:n+(dP x).length+(eD ls).length=n+(eD (x::ls)).length:=by simp[eD];omega
  rw[this]
theorem Tq (ls:List aB) (s:aB):xC (ls++[s])=xC ls++[((eD ls).length:Int)]:=by
 unfold xC;rw[Dj,List.map_append,Nat.zero_add];rfl
theorem Eg (ls:List aB):(xC ls).length=ls.length:=by
 unfold xC;rw[u,←u (f:=Prod.fst),sS]
theorem BU:∀(ls:List aB),(∀l∈ls,fo l=true)→(eD ls).length≤300000*ls.length
 |[],_=>Nat.zero_le _
 |x::ls,h=>by
  have h1:=(JJ (h x ak)).1;have h2:=BU ls (fun l hl=>h l (by simp[hl]));show((dP x)++eD ls).length≤_;rw[C,G];omega
theorem Dk {ls:List aB} (h:∀l∈ls,fo l=true) (hl:(eD ls).length≤131072) (hn:ls.length≤80):kF (eD ls)= .ok (jS 0 ls):=by
 unfold kF;rw[if_neg ah];have hp:ls.length≤(eD ls).length:=by
  clear hl hn h
  induction ls with
  |nil=>exact Nat.zero_le _
  |cons x ls ih=>
   show _≤((dP x)++eD ls).length;have:=Gj x;rw[C,G];omega
 exact EG ls [] _ h ah
theorem Qe {ls:List aB} (h:∀l∈ls,fo l=true) (hl:(eD ls).length≤131072) (hn:ls.length≤80):
  (∀z,rE iF 0 ls= .ok z→mX (eD ls)= .ok z)∧(∀i n,rE iF 0 ls= .error (i,n)→∃p,mX (eD ls)= .error (p,n)):=by
 unfold mX;rw[Dk h hl hn];simp only[sS];exact⟨fun z hz=>by rw[hz],fun i n hz=>by rw[hz];exact⟨_,rfl⟩⟩
theorem Qf (ls:List aB):∀s∈rC ls,s.names.length≤1000∧s.aA.length≤1000:=fun s hs=>by
 obtain⟨x,_,rfl⟩:=List.mem_map.1 hs
 constructor <;> (show(List.take _ _).length≤1000;rw[B];omega)
theorem Ry (a:Option Addr) (c:Nat) (aS:List aV) (ls:List aB) (w:World) (hr:Row w 6 mU a aS.length c aS) (hl:aS.length=ls.length) (hin:∀(i:Nat) (l:aV),aS[i]?=some l→∃s,ls[i]?=some s∧yF w l s) (hG:zo w):
  Calls Tryz.prog 7 #[.slice a aS.length c] w (aW (.bool true) w):=by
 have HG:=j hG;have aec:=j (fun W (hb:Below w.heap.size w W)=>ZC a c aS ls W (hr.below hb rfl) hl (fun i l hi=>let⟨s,h1,h2⟩:=hin i l hi;⟨s,h1,h2.below hb⟩));clear hG hr hl hin;go_enter Tryz.func7,Tryz.ntmps7;go_wp2_with fail;refine(ZV w HG.q).mono ?_;rintro e w1 ⟨rfl,hb1⟩;have HB1:=j hb1;clear hb1;go_wp2_with fail;refine(aec.q _ HB1.q).mono ?_;rintro e w2 ⟨a2,c2,l2,rfl,hls,hb2⟩;have HB2:=j (HB1.q.bq hb2);have aed:l2.length≤80:=by rw[hls.a.1];exact Nu _
 obtain⟨L,hL⟩:∃L,L=rC ls:=⟨_,rfl⟩;have hsm:∀s∈L,s.names.length≤1000∧s.aA.length≤1000:=fun s hs=>Qf ls s (hL▸hs)
 rw[←hL] at hls;have Hy:=j hls;have qy:=j aed;have Fe:=j hsm;have rG:Hid (L.length=l2.length):=j hls.a.1.symm;obtain⟨i,z,hi,hz,hsize,bP,hzs⟩:=zF;have HI:=j (⟨hi,hz,hsize,bP,hzs⟩:_∧_∧_∧_∧_);clear hi hz hsize bP hzs hls hb2 aed hsm hL aec;go_wp2_with fail;have hnn:l2.length≤140737488355328:=by have:=qy.q;omega
 go_loopw [4,5,26] (fun tx pl i X=>∃(k:Nat) (ap:Option Addr) (cp:Nat),k≤l2.length∧tx= .string ⟨(eD (L.take k)).toArray⟩∧pl= .slice ap k cp∧i= .int .i64 k∧(∀s∈L.take k,fo s=true)∧
  Own X w2.heap.size 3 1 aQ (.slice ap k cp) (xC (L.take k))∧Below w2.heap.size w2 X) (fun _ _ i _=>l2.length - (RowKit.intOf i).toNat)
 case atStart=>exact⟨0,none,0,Nat.zero_le _,rfl,rfl,rfl,(fun s hs=>absurd hs ak),Own.iE _ _ _ _ _,A _ _⟩
 case round=>
  obtain⟨k,ap,cp,hk,rfl,rfl,rfl,hlb,how,hb⟩:=hrel;by_cases hlt:k<l2.length
  ·have hrow:=(Hy.q.o.below hb rfl).row (hc:=uT) (by have:=qy.q;omega)
   obtain⟨x,b,o,hx,rfl,hc⟩:=hrow.at_ hlt;obtain⟨s,hs,hat⟩:=Hy.q.a.2 k x hx;have h0:=hc 0 _ rfl;have h1:=hc 1 _ rfl;have h2:=hc 2 _ rfl;have h3:=hc 3 _ rfl;have h4:=hc 4 _ rfl;have h5:=hc 5 _ rfl;simp only[Nat.add_zero] at h0;have hbx:=av (A wr.heap.size wr) (m (gI x) 34);have fM:=j (hb.trans (hbx.mono hb.size));have hsL:s∈L:=List.mem_of_getElem? hs;have sK:=j (Ij (hat.below fM.q) (Fe.q s hsL).1 (Fe.q s hsL).2 ((HG.q.below (HB2.q.trans (fM.q.mono HB2.q.size))).1.1));have hn1:((eD (L.take k)).length:Int)≤24000000:=by
    have:=BU _ hlb;rw[B] at this;have:=qy.q;omega
   have e1:L.take (k+1)=L.take k++[s]:=by rw[List.take_add_one,hs];rfl
   have HOW:=j (how.below hbx rfl);have Br:=j hlb;have xI:=j e1;have HK:=j hk;clear hrow hc hat hbx hx hs how hlb e1 hk hb hsL;go_wp2_with fail;refine sK.q.mono ?_;rintro e w4 ⟨rfl,hb4⟩;by_cases hB:fo s=true
   ·simp only[if_pos hB]
    have yV:=j hB;have hn2:((dP s).length:Int)≤300000:=by have:=(JJ hB).1;omega
    have hb5:=av (A w4.heap.size w4) (m #[.int .i64 ((eD (L.take k)).length:Int)] 3);have gY:=j ((fM.q.bq hb4).trans (hb5.mono (Nat.le_trans fM.q.size hb4.size)));have aee:=j ((HOW.q.below hb4 rfl).below hb5 rfl);have iK:Hid ((xC (L.take k)).length+1=k+1):=j (by rw[Eg,B];have:=rG.q;omega);have gX:Hid ((k+1)*8≤140737488355328):=j (by have:=qy.q;omega);have fH:Hid (k+1≤maxLen):=j (by have:=qy.q;unfold maxLen;omega);have HEP:Hid (xC (L.take k)++[((eD (L.take k)).length:Int)]=xC (L.take (k+1))∧eD (L.take k)++dP s=eD (L.take (k+1))):=j ⟨by rw[xI.q,Tq],by rw[xI.q,Qd]⟩;have hzs:¬((9223372036854775807:Int)<((eD (L.take k)).length:Int)+((dP s).length:Int)):=by omega
    have hz1:=dR (eD (L.take k));have hz2:=dR (dP s);clear hb5 hb4 hB
    go_wp2_with (at_builtin;refine dV rfl _ _ 26 rfl i z 8 Tryz.underlying26 HI.q.1 HI.q.2.1 HI.q.2.2.1 HI.q.2.2.2.1 HI.q.2.2.2.2 rfl aee.q (some ⟨w4.heap.size,0,none⟩) 1 1 (k+1) [((eD (L.take k)).length:Int)] rfl (Row.i1 w4 _) iK.q gX.q fH.q gY.q.size ?_;intro a' c' w6 hown1 hg1 qX)
    rw[HEP.q.1] at hown1;have hbw:=below_app gY.q aee.q (Nat.le_refl _) gY.q.size hg1;go_roundw
    case rel=>
     refine⟨k+1,a',c',by omega,?_,rfl,by have:=qy.q;go_num,fun x hx=>?_,hown1,hbw⟩
     ·rw[←HEP.q.2,KN]
     ·rw[xI.q] at hx
      rcases List.mem_append.1 hx with h|h
      ·exact Br.q x h
      ·rw[List.mem_singleton.1 h];exact yV.q
    case measure=>have:=qy.q;simp[RowKit.intOf];omega
   ·simp only[if_neg hB]
    have eH:=j (fM.q.bq hb4);clear hb4;go_wp2_with fail;go_ret;exact⟨rfl,HB2.q.trans (eH.q.mono HB2.q.size)⟩
  ·obtain rfl:k=l2.length:=by omega
   have ek:L.take l2.length=L:=by rw[←rG.q,List.take_length]
   rw[ek] at hlb how ⊢;have hlen:=BU L hlb;have Br:=j hlb;have HB:=j (HB2.q.bq hb);have yN:=j hb;have HOW:=j how;clear hlb how hb hk ek;have hz:=dR (eD L);by_cases hlong:131072<(eD L).length
   ·have hl1:(131072:Int)<((eD L).length:Int):=by omega
    go_wp2_with fail;go_ret;exact⟨rfl,HB.q⟩
   have hl1:¬((131072:Int)<((eD L).length:Int)):=by omega
   have HT:=j (Dk Br.q ah (by have:=qy.q;have:=rG.q;omega));have HTR:=j (Qe Br.q ah (by have:=qy.q;have:=rG.q;omega));clear hlen hlong;go_wp2_with fail;refine(BF (eD L) wr (HG.q.1.below HB.q)).mono ?_;rintro e w4 ⟨hb4,h4⟩;rw[HT.q] at h4;obtain⟨a4,c4,l4,pa,pc,rfl,oL,aL,oP⟩:=h4;rw[sS] at aL;have hpn:(jS 0 L).length=l2.length:=by rw[←u (f:=Prod.fst),sS,rG.q]
   have HPN:=j hpn;have hl4:l4.length=l2.length:=aL.1.trans rG.q;have eH:=j (HB.q.bq hb4);have xD:=j (yN.q.bq hb4);have HPL:=j (oP.row (hc:=eG) (by rw[u,HPN.q];have:=qy.q;omega));have hLL:=oL.row (hc:=uT) (by have:=qy.q;omega);rw[hl4] at hLL;have xG:=j hLL;have Tt:=j aL;clear hLL;have AO:=j (HOW.q.below hb4 rfl);clear oL aL oP hb4 hpn;have Fw:=j (Ht a2 c2 l2 L w1.heap.size w4 ((Hy.q.o.below xD.q rfl).row (hc:=uT) (by have:=qy.q;omega)) (Hy.q.a.below xD.q) Fe.q (HG.q.2.below eH.q));go_wp2_with fail;refine Fw.q.mono ?_;rintro e w5 ⟨hb5,h5⟩;have gY:=j (eH.q.bq hb5);have aeg:=j (xD.q.bq hb5)
   cases ho:rE iF 0 L with
   |error x=>
    obtain⟨i,n⟩:=x;rw[ho] at h5;obtain rfl:=h5;obtain⟨p,hrd⟩:=HTR.q.2 i n ho;have HR:=j hrd;have sZ:=j (av gY.q (m (aC jB) 41));have WN:=j (av aeg.q (m (aC jB) 41));have HX:=j (Bx.new w5 (aC jB) 41);have Tn:=j (av hb5 (m (aC jB) 41));clear hb5 ho hrd;go_wp2_with fail;refine(uN (eD L) _ (HG.q.below sZ.q)).mono ?_;rintro e w7 ⟨vz,h7⟩;rw[HR.q] at h7;obtain rfl:=h7;have Lh:=j (av (Tn.q.bq vz) (m (aC jB) 41));have HB8:=j (av (sZ.q.bq vz) (m (aC jB) 41));have aiQ:=j (av (WN.q.bq vz) (m (aC jB) 41));have Tv:=j ((HX.q.keep vz).alloc (m (aC jB) 41));have Tw:=j (Bx.new w7 (aC jB) 41);clear vz;have hcx:=Tv.q.1;have hcy:=Tw.q.1;go_wp2_with fail;refine(Iq pa ap _ pc _ cp _ _ _ (HPL.q.below (Lh.q) rfl) ((AO.q.below (Lh.q) rfl).row (hc:=eG) (by rw[Eg,rG.q];have:=qy.q;omega))).mono ?_;rintro e w9 ⟨rfl,rO⟩;have Jm:=j (HB8.q.bq rO);have AU:=j (Tv.q.keep rO);have Hl:=j (Tw.q.keep rO);have Fx:=j (Lh.q.bq rO);rw[decide_eq_true (show(jS 0 L).map Prod.snd=xC L from rfl)];clear rO hcx hcy;go_wp2_with fail;refine(IW a4 a2 _ c4 _ c2 _ w1.heap.size _ _ L w9 (xG.q.below Fx.q rfl) ((Hy.q.o.below (xD.q.trans (Fx.q.mono xD.q.size)) rfl).row (hc:=uT) (by have:=qy.q;omega)) (Tt.q.below Fx.q) (Hy.q.a.below (xD.q.trans (Fx.q.mono xD.q.size))) (fun s hs=>by have:=Fe.q s hs;omega)).mono ?_;rintro e Fq ⟨rfl,mO⟩;have WO:=j (Jm.q.bq mO);have WQ:=j (AU.q.keep mO);have WR:=j (Hl.q.keep mO);clear mO;have hcx:=WQ.q.1;have hcy:=WR.q.1;go_wp2_with fail;refine(wu (aad _ 0) (aad _ 0) szZ szZ).mono ?_;rintro e w11 ⟨b,rfl,hb,WS⟩;obtain rfl:=hb.2 (p8.rfl' _);clear hb;go_wp2_with fail;go_ret;exact⟨rfl,WO.q.bq WS⟩
   |ok zz=>
    rw[ho] at h5;obtain⟨h,es,ds,ms,scan,dn,mn,rfl,hho⟩:=h5;have hrd:=HTR.q.1 zz ho;have HR:=j hrd;have HO:=j ho;have sZ:=j (av gY.q (m (aC h) 41));have WN:=j (av aeg.q (m (aC h) 41));have HX:=j (Bx.new w5 (aC h) 41);have Tn:=j (av hb5 (m (aC h) 41));have HH:=j (hho.below (av (A _ _) (m (aC h) 41)));clear hb5 ho hrd hho;go_wp2_with fail;refine(uN (eD L) _ (HG.q.below sZ.q)).mono ?_;rintro e w7 ⟨vz,h7⟩;rw[HR.q] at h7;obtain⟨h',es',ds',ms',jH,ku,oD,rfl,aei⟩:=h7;have HH8:=j ((HH.q.below vz).below (av (A _ _) (m (aC h') 41)));have HK8:=j (aei.below (av (A _ _) (m (aC h') 41)));clear aei;have Lh:=j (av (Tn.q.bq vz) (m (aC h') 41));have HB8:=j (av (sZ.q.bq vz) (m (aC h') 41));have aiQ:=j (av (WN.q.bq vz) (m (aC h') 41));have Tv:=j ((HX.q.keep vz).alloc (m (aC h') 41));have Tw:=j (Bx.new w7 (aC h') 41);clear vz;have hcx:=Tv.q.1;have hcy:=Tw.q.1;go_wp2_with fail;refine(Iq pa ap _ pc _ cp _ _ _ (HPL.q.below (Lh.q) rfl) ((AO.q.below (Lh.q) rfl).row (hc:=eG) (by rw[Eg,rG.q];have:=qy.q;omega))).mono ?_;rintro e w9 ⟨rfl,rO⟩;have Jm:=j (HB8.q.bq rO);have HH9:=j (HH8.q.below rO);have HK9:=j (HK8.q.below rO);have AU:=j (Tv.q.keep rO);have Hl:=j (Tw.q.keep rO);have Fx:=j (Lh.q.bq rO);rw[decide_eq_true (show(jS 0 L).map Prod.snd=xC L from rfl)];clear rO hcx hcy;go_wp2_with fail;refine(IW a4 a2 _ c4 _ c2 _ w1.heap.size _ _ L w9 (xG.q.below Fx.q rfl) ((Hy.q.o.below (xD.q.trans (Fx.q.mono xD.q.size)) rfl).row (hc:=uT) (by have:=qy.q;omega)) (Tt.q.below Fx.q) (Hy.q.a.below (xD.q.trans (Fx.q.mono xD.q.size))) (fun s hs=>by have:=Fe.q s hs;omega)).mono ?_;rintro e Fq ⟨rfl,mO⟩;have WO:=j (Jm.q.bq mO);have aiR:=j (HH9.q.below mO);have aiS:=j (HK9.q.below mO);have WQ:=j (AU.q.keep mO);have WR:=j (Hl.q.keep mO);clear mO;have hcx:=WQ.q.1;have hcy:=WR.q.1;go_wp2_with fail;refine(wu aiR.q aiS.q (JB HO.q) (JB HO.q)).mono ?_;rintro e w11 ⟨b,rfl,hb,WS⟩;obtain rfl:=hb.2 (p8.rfl' _);clear hb;go_wp2_with fail;go_ret;exact⟨rfl,WO.q.bq WS⟩
end Yd
