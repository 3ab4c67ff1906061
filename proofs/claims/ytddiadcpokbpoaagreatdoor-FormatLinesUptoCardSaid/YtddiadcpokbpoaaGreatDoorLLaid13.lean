import Derived.Test.YtddiadcpokbpoaaGreatDoorLLs3
import Derived.Test.YtddiadcpokbpoaaGreatDoorLD10
set_option linter.all false
set_option maxRecDepth 200000
set_option maxHeartbeats 8000000
namespace Yd
open Go Go.RowKit Go.Proofs Tryz
theorem Hu {X:World}{b:Nat}{h h':HC}(hb:Bx X b (aH h)):∃Z,Z=((((((((X.setCell ⟨b,0,none⟩ h'.t.v).setCell ⟨b,1,none⟩ h'.s.v).setCell ⟨b,2,none⟩ h'.o.v).setCell ⟨b,3,none⟩ h'.p.v).setCell ⟨b,4,none⟩ h'.e.v).setCell ⟨b,5,none⟩ h'.d.v).setCell ⟨b,6,none⟩ h'.m.v).setCell ⟨b,7,none⟩ h'.w.v)/\Bx Z b (aH h')/\Same (λi=>i≠b) X Z:=⟨_,rfl,oC hb,j5⟩
theorem agM {α:Type}{enc:α->List Value}{k:Nat}{X:World}{B:Nat}{T:TypeId}{a:Option Addr}{n c:Nat}{xs:List α}(h:Own X B T k enc (.slice a n c) xs){b o:Nat}(e:a=some ⟨b,o,none⟩):B<=b:=by
 rcases h.yF with⟨q,_⟩|⟨g,q,_⟩
 .rw[q] at e;cases e
 .have:=(h.lt g (by rw[q];rfl)).1
  rw[q] at e;injection e with e;injection e with e;omega
def vH (s:Bs):Except (Int × Int) Cont:=match p9 s with
 | .error x=> .error x
 | .ok r=>match uO jh 0 (r.map Prod.fst) with
  | .ok z=> .ok z
  | .error (i,n)=> .error ((r.map Prod.snd).getD i 0,n)
theorem Xz {s:Bs}{r:List (aP × Int)}(h:p9 s= .ok r):r=(jF s (s.length+1) 0).map (λx=>(x.ln,x.fr)):=by
 unfold p9 at h
 split at h
 .cases h
 .rcases vT s (s.length+1) 0 ah with⟨_,q⟩|⟨_,_,_,_,_,q⟩
  .rw[q] at h;injection h with h;exact h.symm
  .rw[q] at h;cases h
theorem UF {s:Bs}{r:List (aP × Int)}(h:p9 s= .ok r):r.length<=131073/\∀x∈r.map Prod.fst,x.names.length<=1000/\x.aF.length<=1000:=by
 have e:=Xz h;have hl:s.length<=131072:=by
  unfold p9 at h
  split at h
  .cases h
  .omega
 subst e;refine⟨by rw[bH];have:=Db s (s.length+1) 0;omega,λx hx=>?_⟩;rw[tO] at hx;obtain⟨y,hy,rfl⟩:=dQ.1 hx;exact MJ s _ _ y hy
theorem UG {s:Bs}{n m:Int}(h:p9 s= .error (n,m)):m≠0:=by
 unfold p9 at h
 split at h
 .injection h with h;injection h with _ h;rw[<-h];decide
 .rcases vT s (s.length+1) 0 ah with⟨_,q⟩|⟨_,x,_,_,q0,q⟩
  .rw[q] at h;cases h
  .rw[q] at h;injection h with h;injection h with _ h;rw[<-h];exact q0
theorem adX {ls:List aP}{i:Nat}{n:Int}(h:uO jh 0 ls= .error (i,n)):i<ls.length/\n≠0:=by
 obtain⟨k,l,rfl,hk,_,q⟩:=SF ls jh 0 i n h;refine⟨by have:=(bG.1 hk).1;omega,?_⟩;rcases q with⟨rfl,_⟩|⟨rfl,_⟩ <;> decide
def ajE (s:Bs)(w:World)(e:Ending)(X:World):Prop:=
 Below w.1.size w X/\
 match vH s with
 | .ok z=>∃h es ds ms,∃scan:EvC->List Sn,∃dn:aM->List Int,∃mn:aN->List Int,e= .returned (.tuple #[gH h,.int .i64 (s.length:Int),.int .i64 0])/\iY X w.1.size h (gJ z) es ds ms scan dn mn
 | .error (n,m)=>e= .returned (.tuple #[gH gQ,.int .i64 n,.int .i64 m])
def DL (w:World):Prop:=Eh w/\EI w
theorem DL.below {w w':World}(h:DL w)(hb:Below w.1.size w w'):DL w':=⟨h.1.below hb,h.2.below hb⟩
theorem I4 (s:Bs)(w:World)(hG:DL w):Calls Tryz.prog 10 #[.string ⟨s.toArray⟩] w (ajE s w):=by
 have HB0:=hid (aB (Below.refl w.1.size w) (.cells (aH gQ) 36));have HX0:=hid (Bx.new w (aH gQ) 36);have HL:=hid (Nv s _ (hG.1.below HB0.q));have HG:=hid hG;clear hG;go_enter Tryz.func10,Tryz.ntmps10;go_wp2_with fail;refine HL.q.mono ?_;rintro e w1 ⟨hb1,h1⟩;have HB1:=hid (HB0.q.bO hb1);have bP:=hid (HX0.q.keep hb1);have xA:=hid hb1;clear HL hb1
 cases hl:p9 s with
 |error x=>
  obtain⟨n,m⟩:=x;rw[hl] at h1;obtain rfl:=h1;have hne:m≠0:=UG hl;have hne1:(m !=0)=true:=by simp[hne]
  have HR:Hid (vH s= .error (n,m)):=hid (by unfold vH;rw[hl]);have hcx:=bP.q.1;have hfx:=bP.q.2.1;have hlx:=bP.q.2.2;clear hl hne;go_wp2_with fail;obtain⟨Z,hZ,hz1,hz2⟩:=Hu (h':=gQ) bP.q;rw[<-hZ];have hcz:=hz1.1;clear hZ;refine bodyPost_ret (v:= .tuple #[gH gQ,.int .i64 n,.int .i64 m]) (by simp[results,results10,go_sem,hcz]) rfl ⟨hz2.below HB1.q (λi hi=>by omega) HB1.q.size,?_⟩;rw[HR.q]
 |ok r=>
  rw[hl] at h1;obtain⟨a,c,aW,pa,pc,rfl,oL,aL,oP⟩:=h1;have hlen:=UF hl;have hll:aW.length=r.length:=by rw[aL.1,bH]
  have zZ:=hid (MK a c aW (r.map Prod.fst) _ w1 (oL.row (hc:=Bq) ah) aL hlen.2 (HG.q.2.below HB1.q));have HP:=hid (oP.row (hc:=ig) (by rw[bH];omega));have HLF:=hid hl;have oO:Hid (∀b o,pa=some ⟨b,o,none⟩->b≠w.1.size):=hid (λb o e q=>by have:=agM oP e;rw[World.size_alloc] at this;omega);clear oL aL oP hlen hll hl;go_wp2_with fail;refine zZ.q.mono ?_;rintro e w2 ⟨hb2,h2⟩;have HB2:=hid (HB1.q.bO hb2);have bL:=hid (bP.q.keep hb2);have uQ:=hid hb2;clear hb2
  cases ho:uO jh 0 (r.map Prod.fst) with
  |error x=>
   obtain⟨i,n⟩:=x;rw[ho] at h2;obtain rfl:=h2;obtain⟨hi,hn0⟩:=adX ho;rw[bH] at hi;obtain⟨px,pb,po,hpx,rfl,hpc⟩:=HP.q.at_ hi;have hpb:=hpc 0 _ rfl;simp only[bM,jo] at hpb;have agN:=uQ.q.cell (p:=⟨pb,po+i,none⟩) (jC hpb)▸hpb;have hne1:(n !=0)=true:=by simp[hn0]
   have hi1:(i:Int)<(r.length:Int):=by omega
   have HR:Hid (vH s= .error (px,n)):=hid (by unfold vH;rw[HLF.q];simp only[ho,List.getD,hpx,Option.getD_some]);have eX:=hid (bL.q.alloc (.cells (aH gQ) 36));have HB3:=hid (aB HB2.q (.cells (aH gQ) 36));have gD:=hid (bn (aB (Below.refl w2.1.size w2) (.cells (aH gQ) 36)) rfl agN);have jG:Hid (pb≠w.1.size):=hid (oO.q pb po rfl);clear ho hn0 hpx hpc hpb agN;go_wp2_with fail;refine aC 99 [(0,0),(1,0),(2,0),(3,0),(4,0),(5,0),(6,2),(7,0),(8,0)] (λ_=>True) (λW'=>W'.cell? ⟨pb,po+i,none⟩=some (.int .i64 px)) av av (trivial) (gD.q) ?_;refine qC ?_;refine aD rfl rfl (λK hK=>?_);go_simp;have hcx:=eX.q.1;have hfx:=eX.q.2.1;have hlx:=eX.q.2.2;go_simp;refine hK _ _ ⟨trivial,(let⟨_,e,_,q⟩:=Hu (h':=gQ) eX.q;by rw[<-e];exact q.cell gD.q jG.q)⟩ ?_;clear hK K hcx hfx hlx;refine qC ?_;refine aJ ?_;go_wp2_with fail;obtain⟨Z,hZ,hz1,hz2⟩:=Hu (h':=gQ) eX.q;rw[<-hZ];have hcz:=hz1.drew.1;clear hZ;refine bodyPost_ret (v:= .tuple #[gH gQ,.int .i64 px,.int .i64 n]) (by simp[results,results10,go_sem,hcz]) rfl ⟨(hz2.below HB3.q (λi hi=>by omega) HB3.q.size).drew,?_⟩;rw[HR.q]
  |ok z=>
   rw[ho] at h2;obtain⟨h,es,ds,ms,scan,dn,mn,rfl,hho⟩:=h2;have HR:Hid (vH s= .ok z):=hid (by unfold vH;rw[HLF.q];simp only[ho]);have eX:=hid (bL.q.alloc (.cells (aH h) 36));have HB3:=hid (aB HB2.q (.cells (aH h) 36));have yD:=hid (hho.below (aB (Below.refl _ _) (.cells (aH h) 36)));have kM:Hid (w.1.size<w1.1.size):=hid bP.q.2.2;have hcx:=eX.q.1;have hfx:=eX.q.2.1;have hlx:=eX.q.2.2;clear ho hho;go_wp2_with fail;obtain⟨Z,hZ,hz1,hz2⟩:=Hu (h':=h) eX.q;rw[<-hZ];have hcz:=hz1.1;clear hZ;refine bodyPost_ret (v:= .tuple #[gH h,.int .i64 (s.length:Int),.int .i64 0]) (by simp[results,results10,go_sem,hcz]) rfl ⟨hz2.below HB3.q (λi hi=>by omega) HB3.q.size,?_⟩;rw[HR.q];exact⟨h,es,ds,ms,scan,dn,mn,rfl,(yD.q.same (hz2.mono (λi hi _=>by have:=kM.q;omega))).mono (by have:=kM.q;omega)⟩
end Yd
namespace Yd
open Go Go.RowKit Go.Proofs Go.Lib Tryz
open Tryz renaming prog->d
open Value renaming int->e,string->j
open Go.Proofs.YtddiadcpokbpoaaGreatDoor
section
variable {W:World}
theorem aai {fuel:Nat}{ms:Array (String × TypeId)}{t:TypeId}{cs:List Value}{y:DataW Unit × List MemPlace}(ht:Tryz.prog.underlying t=some (.interface ms))(h:DataW.trod (λ_=>()) d W 0 (λ_=>true) false fuel t cs=some y):
  ∃ev,cs=[ev]/\(ev= .nilIface\/∃te pe,ev= .iface te pe):=by
 cases fuel with
 |zero=>simp[DataW.trod] at h
 |succ fuel=>
  simp only[DataW.trod,ht] at h
  split at h <;> first|exact⟨_,rfl,.inl rfl⟩|exact⟨_,rfl,.inr ⟨_,_,rfl⟩⟩|(rename_i heq;cases heq;done)|(cases h;done)|(rename_i heq;simp at heq;done)|skip
theorem aaj (h:VarReads d W "strconv.ErrRange" (Rows.laid_strconv_ErrRange:DataW Unit)):AP W:=by
 obtain⟨c,_,_,t,a⟩:=zh (g:=8) (t:=226) h av av;obtain⟨ev,h1,h2⟩:=aai underlying226 t;exact⟨ev,by rw[a,h1];rfl,h2⟩
theorem aak (hu1:VarReads d W "unicode/utf8.first" Rows.laid_unicode_utf8_first)(hu2:VarReads d W "unicode/utf8.acceptRanges" Rows.laid_unicode_utf8_acceptRanges)
  (hf:VarReads d W "yardarm/line.forms" Rows.laid_yardarm_line_forms) (hgd:VarReads d W "yardarm/line.guards" Rows.laid_yardarm_line_guards) (hlv:VarReads d W "yardarm/level.texts" Rows.laid_yardarm_level_texts) (hhl:VarReads d W "yardarm/history.limits" Rows.laid_yardarm_history_limits):qc W:=by
 have hu:=utf8Tabs_of_reads lays260 u8x (YS▸hu1) (VU▸hu2);obtain⟨c2,_,_,t2,a2⟩:=zh (g:=0) (t:=84) hf av av;obtain⟨c3,_,_,t3,a3⟩:=zh (g:=4) (t:=229) hgd av av;obtain⟨c4,_,_,t4,a4⟩:=zh (g:=1) (t:=128) hlv av av;obtain⟨c1,_,_,t1,a1⟩:=zh (g:=2) (t:=136) hhl av av;refine⟨⟨hu,λi hi=>(by rw[a1];exact VX underlying136 t1 i hi (by match i,hi with|0,_=>rfl|1,_=>rfl|2,_=>rfl|3,_=>rfl))⟩,λk hk=>?_,λi hi=>?_,λi hi=>?_⟩
 .rw[a2,a2,a2]
  exact adg t2 k hk (by match k,hk with|0,_=>rfl|1,_=>rfl|2,_=>rfl|3,_=>rfl|4,_=>rfl|5,_=>rfl|6,_=>rfl|7,_=>rfl|8,_=>rfl|9,_=>rfl)
 .rw[a3]
  exact VW underlying229 t3 i hi (by match i,hi with|0,_=>rfl|1,_=>rfl|2,_=>rfl|3,_=>rfl)
 .rw[a4]
  exact VW underlying128 t4 i hi (by match i,hi with|0,_=>rfl|1,_=>rfl|2,_=>rfl|3,_=>rfl|4,_=>rfl)
theorem aal (hg:qc W)(hfl:VarReads d W "yardarm/format.limits" Rows.laid_yardarm_format_limits):vE W:=by
 obtain⟨c1,_,_,t1,a1⟩:=zh (g:=3) (t:=136) hfl av av;exact⟨hg.1.1,λi hi=>(by rw[a1];exact VX underlying136 t1 i hi (by match i,hi with|0,_=>rfl|1,_=>rfl|2,_=>rfl|3,_=>rfl))⟩
end
def cellsD:Nat->DataW Unit->List Value
 |_,.lit (.int k i)=>[.int k i]
 |_,.lit (.string b)=>[.string ⟨b.toArray⟩]
 |f+1,.agg l=>l.flatMap (cellsD f)
 |_,_=>[]
def wW (cs:Array Value):Obj->Obj
 | .cells _ t frozen=> .cells cs t frozen
 |o=>o
noncomputable def ab7:Nat:=(World.holding d default ⟨#[],#[],[]⟩).1.size
noncomputable def Ld (os:Os):World:=
 let w0:=World.holding d os ⟨#[.cells #[.string ⟨#[118,97,108,117,101,32,111,117,116,32,111,102,32,114,97,110,103,101]⟩] 267,.cells #[.string ⟨#[105,110,118,97,108,105,100,32,115,121,110,116,97,120]⟩] 267],#[],[]⟩
 {w0 with heap:=(((((((((((w0.1.modify 5 (wW ((Lib.firstTab.map (λz=>e .u8 z)).toArray))).modify 6 (wW (((List.range 16).flatMap (λi=>[e .u8 (Lib.accLo i:Int),e .u8 (Lib.accHi i:Int)])).toArray))).modify
   0 (wW (((List.range 10).flatMap (λk=>[j ⟨(fI k).toArray⟩,e .i64 (cu k),e .i32 (bZ k)])).toArray))).modify
   4 (wW (((List.range 4).map (λi=>j ⟨(yg i).toArray⟩)).toArray))).modify 1 (wW (((List.range 5).map (λi=>j ⟨(zT i).toArray⟩)).toArray))).modify
   10 (wW (cellsD 2 Rows.laid_math_bits_deBruijn32tab).toArray)).modify 11 (wW (cellsD 2 Rows.laid_math_bits_deBruijn64tab).toArray)).modify
   9 (wW (cellsD 2 Rows.laid_internal_strconv_uint64pow10).toArray)).modify 8 (wW #[.iface 265 (.pointer (some ⟨ab7,0,none⟩))])).modify 7 (wW #[.iface 265 (.pointer (some ⟨ab7+1,0,none⟩))])).modify 2 (wW (cellsD 2 Rows.laid_yardarm_history_limits).toArray)).modify 3 (wW (cellsD 2 Rows.laid_yardarm_format_limits).toArray)}
end Yd
namespace Yd
open Go Go.RowKit Go.Proofs
open Below renaming refl->A
open Go.Obj renaming cells->m
open Go.Value renaming slice->u
open Yd renaming hid->f
open _root_ renaming List->p
def ab8:Bool:=match vH [98,101,103,105,110,32,116,32,115,32,49,10,119,114,105,116,101,32,116,32,120,10,99,111,109,109,105,116,32,116,10,111,114,100,101,114,32,120,32,116,10] with
 | .ok z=>decide ((gJ z).E.length=3) && decide (((gJ z).E.map (λe=>(e.v.t,e.v.k)))[1]?=some ((0:Int),(1:Int))) && decide ((gJ z).D.length=1) && decide ((gJ z).nl 2=[[120]])
 | .error _=>false
theorem ajF:ab8=true:=av
theorem ajG:vH [98,101,103,105,110,32,116,32,115,32,49,10,98,101,120]= .error (14,220):=av
theorem ajH:∃z,vH [98,101,103,105,110,32,116,32,115,32,49,10,119,114,105,116,101,32,116,32,120,10,99,111,109,109,105,116,32,116,10,111,114,100,101,114,32,120,32,116,10]= .ok z/\(gJ z).E.length=3/\(∃e,(gJ z).E[1]?=some e/\e.v=⟨0,1⟩)/\(gJ z).D.length=1/\(gJ z).nl 2=[[120]]:=by
 have h:=ajF;unfold ab8 at h
 split at h
 .rename_i z hz
  simp only[aU,bf] at h;obtain⟨⟨⟨h1,h2⟩,h3⟩,h4⟩:=h;refine⟨z,hz,h1,?_,h3,h4⟩;rw[lZ] at h2
  cases he:(gJ z).E[1]? with
  |none=>rw[he] at h2;cases h2
  |some e=>
   rw[he] at h2;obtain⟨_,_,_,_,_,⟨a,b⟩,_,_,_,_⟩:=e;simp at h2;exact⟨_,rfl,by rw[h2.1,h2.2]⟩
 .cases h
theorem aam {s:Bs}{z:Cont}(h:vH s= .ok z):∃r,p9 s= .ok r/\uO jh 0 (r.map Prod.fst)= .ok z:=by
 unfold vH at h
 split at h
 .cases h
 .rename_i r hr
  split at h
  .rename_i y hy
   injection h with h;exact⟨r,hr,by rw[hy,h]⟩
  .cases h
theorem CK.adY {s:Bs}{z:Cont}(h:vH s= .ok z):CK (gJ z):=let⟨_,_,h2⟩:=aam h;XB h2
theorem adZ (w:World)(hG:DL w):Calls Tryz.prog 4 #[] w (cK (.bool true) w):=by
 have HG:=f hG;clear hG;go_enter Tryz.func4,Tryz.ntmps4;go_wp2_with fail;refine(I4 [98,101,103,105,110,32,116,32,115,32,49,10,119,114,105,116,101,32,116,32,120,10,99,111,109,109,105,116,32,116,10,111,114,100,101,114,32,120,32,116,10] w HG.q).mono ?_;rintro e w1 ⟨hb1,h1⟩;obtain⟨z,hz,hE,⟨ev,hev,hv⟩,hD,hN⟩:=ajH;rw[hz] at h1;obtain⟨h,es,ds,ms,scan,dn,mn,rfl,ho⟩:=h1;have kM:=f (CK.adY hz);have HO:=f ho;have HB1:=f hb1;have bP:=f (Bx.new w1 (aH h) 36);have HB2:=f (aB hb1 (m (aH h) 36));clear ho hb1 hz;go_wp2_with fail;refine(I4 [98,101,103,105,110,32,116,32,115,32,49,10,98,101,120] _ (HG.q.below HB2.q)).mono ?_;rintro e w2 ⟨hb2,h2⟩;rw[ajG] at h2;obtain rfl:=h2;have HB3:=f (aB (HB2.q.bO hb2) (m (aH gQ) 36));have hbz:Below w1.1.size w1 (w2.alloc (m (aH gQ) 36)):=aB ((aB (A _ _) _).trans (hb2.mono au)) _;have bL:=f ((bP.q.keep hb2).alloc (m (aH gQ) 36));have hd:=(HO.q.below hbz).deep kM.q;have hnm:=(HO.q.below hbz).names kM.q 2 ah;rw[hN] at hnm;have hel:h.e.n=3:=by rw[<-hd.1.len,<-hE,<-HO.q.be,bH]
 have hdl:h.d.n=1:=by rw[<-hd.2.1.len,<-hD,<-HO.q.bd,bH]
 have hm1:∃x,es[1]?=some x/\x.v=⟨0,1⟩:=by
  rw[<-HO.q.be,lZ] at hev
  cases hx:es[1]? with
  |none=>rw[hx] at hev;cases hev
  |some x=>
   rw[hx] at hev;injection hev with hev;exact⟨x,rfl,by rw[<-hv,<-hev];rfl⟩
 obtain⟨x,hx1,hxv⟩:=hm1;obtain⟨y,b,o,hy,hae,hc⟩:=hd.1.at_ (i:=1) ah;rw[hx1] at hy;injection hy with hy;subst hy;have pK:=hc 5 (.int .i64 x.v.t) rfl;have hc6:=hc 6 (.int .i64 x.v.k) rfl;rw[hxv] at pK hc6;have Rs:Hid (∀W,Below (w2.alloc (m (aH gQ) 36)).1.size (w2.alloc (m (aH gQ) 36)) W->∀g,Row W 1 encStr (some ⟨g,0,none⟩) 1 1 [[120]]->Calls Tryz.prog 11 #[h.o.v,u (some ⟨g,0,none⟩) 1 1] W (cK (.bool true) W)):=f (λW hW g hr=>by
  have:=ajI _ _ _ _ _ _ _ _ W (hnm.below hW rfl) hr;rw[bA (rfl:[[120]]=([[120]]:p Bs))] at this;exact this)
 clear hd hnm hev hE hD hN hc hx1 hxv hb2 hbz;have hx4:=bL.q.1 4;rw[show(aH h)[4]?=some (u h.e.a h.e.n h.e.c) from rfl,hel,hae] at hx4;have hx5:=bL.q.1 5;rw[show(aH h)[5]?=some (u h.d.a h.d.n h.d.c) from rfl,hdl] at hx5;have hx2:=bL.q.1 2;rw[show(aH h)[2]?=some (u h.o.a h.o.n h.o.c) from rfl] at hx2;clear hel hdl hae;go_wp2_with fail;refine(Rs.q _ (aB (A _ _) _) _ (Row.anD (X:=w2.alloc (m (aH gQ) 36)) au [120])).mono ?_;rintro e w3 ⟨rfl,hb3⟩;go_wp2_with fail;go_ret;have hb4:=aB HB3.q (m #[.string ⟨#[120]⟩] 9);exact⟨rfl,hb4.trans (hb3.mono hb4.size)⟩
theorem qH.append {X:World}{M:Nat}{l1 l2:p bB}{s1 s2:p aP}(h:qH X M l1 s1)(k:qH X M l2 s2):qH X M (l1++l2) (s1++s2):=by
 have e:=h.1;have e2:=k.1;refine⟨by simp[e,e2],λi q hq=>?_⟩;rcases jP i l1.length with hi|hi
 .rw[wO hi] at hq
  obtain⟨t,h1,h2⟩:=h.2 i q hq;exact⟨t,by rw[wO ah];exact h1,h2⟩
 .rw[uZ hi] at hq
  obtain⟨t,h1,h2⟩:=k.2 _ q hq;exact⟨t,by rw[uZ ah,<-e];exact h1,h2⟩
theorem XC (ls:p aP):∀s∈xu ls,s.names.length<=1000/\s.aF.length<=1000:=λs hs=>by
 obtain⟨x,_,rfl⟩:=dQ.1 hs
 constructor <;> (show(List.take _ _).length<=1000;rw[dN];omega)
theorem ab9 (X:World)(B:Nat):iY X B gQ jh [] [] [] (λ_=>[]) (λ_=>[]) (λ_=>[]):=
 ⟨Own.fJ _ _ _ _ _,Own.fJ _ _ _ _ _,Own.fJ _ _ _ _ _,Own.fJ _ _ _ _ _,λi hi=>by
  rcases(by omega:i=0\/i=1\/i=2\/i=3) with rfl|rfl|rfl|rfl <;> exact Own.fJ _ _ _ _ _,λx hx=>(by cases hx),λx hx=>(by cases hx),λx hx=>(by cases hx),rfl,rfl,rfl,rfl,rfl,rfl⟩
theorem agO:CK jh:=⟨aV _,aV _,aV _,aV _,λ_ _=>aV _,λL hL=>(by cases hL),λL hL=>(by cases hL),λL hL=>(by cases hL)⟩
theorem iY.Nk {X:World}{B:Nat}{h:HC}{c:Cont}{es:p EvC}{ds:p aM}{ms:p aN}{scan:EvC->p Sn}{dn:aM->p Int}{mn:aN->p Int}(o:iY X B h c es ds ms scan dn mn)(z:CK c):Hw X h c es ds ms scan dn mn:=⟨o.deep z,o.names z,o.be,o.bd,o.bm,o.ss,o.ts,o.us⟩
theorem QS (Pj:∀(X:World)(B:Nat)(h:HC)(c:Cont)(es:p EvC)(ds:p aM)(ms:p aN)(scan:EvC->p Sn)(dn:aM->p Int)(mn:aN->p Int),iY X B h c es ds ms scan dn mn->iU c->aI c->Ut h c X)
  (a:Option Addr) (c:Nat) (aW:p bB) (ls:p aP) (often:Int) (w:World) (hr:Row w 6 mh a aW.length c aW) (hl:aW.length=ls.length) (hin:∀(i:Nat)(l:bB),aW[i]?=some l->∃s,ls[i]?=some s/\Di w l s) (hG:DL w):
  Calls Tryz.prog 3 #[u a aW.length c,.int .i64 often] w (cK (.bool true) w):=by
 have HG:=f hG;have ze:=f Pj;have agP:=f (λW (hb:Below w.1.size w W)=>ad1 a c aW ls W (hr.below hb rfl) hl (λi l hi=>let⟨s,h1,h2⟩:=hin i l hi;⟨s,h1,h2.below hb⟩));clear hG hr hl hin Pj;go_enter Tryz.func3,Tryz.ntmps3;go_wp2_with fail;refine(adZ w HG.q).mono ?_;rintro e w1 ⟨rfl,hb1⟩;have HB1:=f hb1;clear hb1;go_wp2_with fail;refine(agP.q _ HB1.q).mono ?_;rintro e w2 ⟨a2,c2,l2,rfl,hls,hb2⟩;have HB2:=f (HB1.q.bO hb2);have agQ:l2.length<=4000:=by have:=SG ls;rw[hls.a.1];omega
 have HLS:=f hls;have an8:=f agQ;have bE:=f (hb2);clear hls hb2 agQ agP;go_wp2_with fail;obtain⟨r,hr⟩:∃r:Int,r=(IntKind.u64.wrap often).tmod 3:=⟨_,rfl⟩;have hr2:r<3:=by rw[hr];exact Int.tmod_lt_of_pos _ aj
 rw[<-hr];clear hr
 go_loopw [5,19] (λv i X=>∃(j:Int)(a2:Option Addr)(c2:Nat)(l2:p bB)(ls2:p aP),0<=j/\v= u a2 l2.length c2/\i= .int .u64 j/\wK X w1.1.size (u a2 l2.length c2) l2 ls2/\l2.length<=4000/\(∀s∈ls2,s.names.length<=1000/\s.aF.length<=1000)/\Below w1.1.size w1 X) (λ_ i _=>(r - RowKit.intOf i).toNat)
 case atStart=>exact⟨0,a2,c2,l2,xu ls,Int.le_refl _,rfl,rfl,HLS.q,an8.q,XC ls,bE.q⟩
 case round=>
  obtain⟨j,a3,c3,l3,SH,hj,rfl,rfl,hls,h40,hsm,hb⟩:=hrel;have HLS:=f hls;have H40:=f h40;have Kc:=f hsm;have HB:=f hb;by_cases hlt:j<r
  .by_cases h2:l3.length<2000
   .have hX1:=aB (A wr.1.size wr) (m #[u a3 l3.length c3,u a3 l3.length c3] 22)
    have DN:=f (hls.below hX1);have an9:=f (Bx.new wr #[u a3 l3.length c3,u a3 l3.length c3] 22);have agS:=f (hb.trans (hX1.mono hb.size));have HL2:Hid (l3.length<2000):=f h2;have h2':(l3.length:Int)<2000:=by omega
    clear hls h40 hsm hb hX1;go_wp2_with fail;refine(XD (DN.q.o.row (hc:=Bq) (by have:=H40.q;omega)) (DN.q.o.row (hc:=Bq) (by have:=H40.q;omega)) an9.q (by have:=H40.q;omega)).mono ?_;rintro e w5 ⟨a5,c5,rfl,ho5,hb5⟩;have HL5:=f (DN.q.below hb5);have Al:=f (ho5.mono agS.q.size);have jv:=f (agS.q.bO hb5);clear ho5 hb5;go_wp2_with fail;go_roundw
    case rel=>exact⟨j+1,a5,c5,l3++l3,SH++SH,by omega,by rw[dH],by go_num,⟨Al.q,HL5.q.a.append HL5.q.a⟩,by rw[dH];have:=HL2.q;omega,λs hs=>(bJ.1 hs).elim (Kc.q s) (Kc.q s),jv.q⟩
    case measure=>simp[RowKit.intOf];omega
   .have h2':¬((l3.length:Int)<2000):=by omega
    clear hls h40 hsm hb;go_wp2_with fail;go_roundw
    case rel=>exact⟨j+1,a3,c3,l3,SH,by omega,rfl,by go_num,HLS.q,H40.q,Kc.q,HB.q⟩
    case measure=>simp[RowKit.intOf];omega
  .have zZ:=f (MK a3 c3 l3 SH w1.1.size wr (hls.o.row (hc:=Bq) ah) hls.a hsm (HG.q.2.below (HB1.q.bO hb)))
   have HDF:=f (λW (hW:Below wr.1.size wr W)=>an0 ze.q a3 c3 l3 SH w1.1.size W ((hls.o.row (hc:=Bq) ah).below hW rfl) (hls.a.below hW) hsm);have yS:=f (HB1.q.bO hb);clear hls h40 hsm hb;go_wp2_with fail;refine zZ.q.mono ?_;rintro e w3 ⟨hb3,h3⟩;have HB3:=f hb3;clear hb3 zZ
   cases ho:uO jh 0 SH with
   |error x=>
    obtain⟨i,n⟩:=x;rw[ho] at h3;obtain rfl:=h3;have HO:=f ho;clear ho;have HX:=f (Bx.new w3 (aH gQ) 36);have gU:=f (aB HB3.q (m (aH gQ) 36));go_wp2_with fail;refine(HDF.q _ gU.q).mono ?_;rintro e w5 ⟨hb5,h5⟩;rw[HO.q] at h5;obtain rfl:=h5;have pO:=f (HX.q.keep hb5);have jv:=f (gU.q.bO hb5);have LB:=f (pO.q.alloc (m (aH gQ) 36));have qb:=f (Bx.new w5 (aH gQ) 36);have vX:=f (aB jv.q (m (aH gQ) 36));have Ob:=f (aB (A w5.1.size w5) (m (aH gQ) 36));have hcx:=LB.q.1;have hcy:=qb.q.1;have hlx:=pO.q.2.2;clear hb5;go_wp2_with fail;refine(SI gQ gQ jh [] [] [] (λ_=>[]) (λ_=>[]) (λ_=>[]) [] [] [] (λ_=>[]) (λ_=>[]) (λ_=>[]) _ ((ab9 _ 0).Nk agO) ((ab9 _ 0).Nk agO)).mono ?_;rintro e w7 ⟨rfl,IE⟩;clear hcx hcy hlx;go_wp2_with fail;go_ret;exact⟨rfl,(yS.q.trans (vX.q.mono yS.q.size)).trans (IE.mono (dL yS.q.size vX.q.size))⟩
   |ok z=>
    rw[ho] at h3;obtain⟨h,es,ds,ms,scan,dn,mn,rfl,hho⟩:=h3;have HZ:=f (XB ho);have HO:=f ho;have yD:=f hho;clear ho hho;have HX:=f (Bx.new w3 (aH h) 36);have gU:=f (aB HB3.q (m (aH h) 36));have WZ:=f (aB (A w3.1.size w3) (m (aH h) 36));go_wp2_with fail;refine(HDF.q _ gU.q).mono ?_;rintro e w5 ⟨hb5,h5⟩;rw[HO.q] at h5;obtain⟨h',es',ds',ms',vF,DI,DJ,rfl,agT⟩:=h5;have pO:=f (HX.q.keep hb5);have HH5:=f ((yD.q.below WZ.q).below hb5);have HH6:=f agT;have jv:=f (gU.q.bO hb5);have LB:=f (pO.q.alloc (m (aH h') 36));have qb:=f (Bx.new w5 (aH h') 36);have vX:=f (aB jv.q (m (aH h') 36));have Ob:=f (aB (A w5.1.size w5) (m (aH h') 36));have hcx:=LB.q.1;have hcy:=qb.q.1;have hlx:=pO.q.2.2;clear hb5 agT;go_wp2_with fail;refine(SI h h' (gJ z) es ds ms scan dn mn es' ds' ms' vF DI DJ _ ((HH5.q.below Ob.q).Nk HZ.q) ((HH6.q.below Ob.q).Nk HZ.q)).mono ?_;rintro e w7 ⟨rfl,IE⟩;clear hcx hcy hlx;go_wp2_with fail;go_ret;exact⟨rfl,(yS.q.trans (vX.q.mono yS.q.size)).trans (IE.mono (dL yS.q.size vX.q.size))⟩
end Yd
