import Derived.Test.YtpeojoobplpcoaaGreatDoorPLs3
import Derived.Test.YtpeojoobplpcoaaGreatDoorPOf2
import Derived.Test.YtpeojoobplpcoaaGreatDoorPWakes
set_option linter.all false
set_option maxRecDepth 200000
set_option maxHeartbeats 8000000
namespace Yd
open Go Go.RowKit Go.Proofs Tryz
theorem H8 {X:World}{b:Nat}{h h':HC}(hb:Bx X b (aD h)):∃Z,Z=((((((((X.setCell ⟨b,0,none⟩ h'.t.v).setCell ⟨b,1,none⟩ h'.s.v).setCell ⟨b,2,none⟩ h'.o.v).setCell ⟨b,3,none⟩ h'.p.v).setCell ⟨b,4,none⟩ h'.e.v).setCell ⟨b,5,none⟩ h'.d.v).setCell ⟨b,6,none⟩ h'.m.v).setCell ⟨b,7,none⟩ h'.w.v)/\Bx Z b (aD h')/\Same (λi=>i≠b) X Z:=⟨_,rfl,Dw hb,xA⟩
theorem aiH {α:Type}{enc:α->List Value}{k:Nat}{X:World}{B:Nat}{T:TypeId}{a:Option Addr}{n c:Nat}{xs:List α}(h:Own X B T k enc (.slice a n c) xs){b o:Nat}(e:a=some ⟨b,o,none⟩):B<=b:=by
 rcases h.xX with⟨q,_⟩|⟨g,q,_⟩
 .rw[q] at e;cases e
 .have:=(h.lt g (by rw[q];rfl)).1
  rw[q] at e;injection e with e;injection e with e;omega
def AR (s:Bs):Except (Int × Int) Cont:=match lG s with
 | .error x=> .error x
 | .ok r=>match sU eO 0 (r.map Prod.fst) with
  | .ok z=> .ok z
  | .error (i,n)=> .error ((r.map Prod.snd).getD i 0,n)
theorem YQ {s:Bs}{r:List (aH × Int)}(h:lG s= .ok r):r=(jT s (s.length+1) 0).map (λx=>(x.ln,x.fr)):=by
 unfold lG at h
 split at h
 .cases h
 .rcases wu s (s.length+1) 0 ah with⟨_,q⟩|⟨_,_,_,_,_,q⟩
  .rw[q] at h;injection h with h;exact h.symm
  .rw[q] at h;cases h
theorem VN {s:Bs}{r:List (aH × Int)}(h:lG s= .ok r):r.length<=131073/\∀x∈r.map Prod.fst,x.names.length<=1000/\x.aG.length<=1000:=by
 have e:=YQ h;have hl:s.length<=131072:=by
  unfold lG at h
  split at h
  .cases h
  .omega
 subst e;refine⟨by rw[bH];have:=Da s (s.length+1) 0;omega,λx hx=>?_⟩;rw[iV] at hx;obtain⟨y,hy,rfl⟩:=dI.1 hx;exact Nj s _ _ y hy
theorem K5 {s:Bs}{n m:Int}(h:lG s= .error (n,m)):m≠0:=by
 unfold lG at h
 split at h
 .injection h with h;injection h with _ h;rw[<-h];decide
 .rcases wu s (s.length+1) 0 ah with⟨_,q⟩|⟨_,x,_,_,q0,q⟩
  .rw[q] at h;cases h
  .rw[q] at h;injection h with h;injection h with _ h;rw[<-h];exact q0
theorem TR {ls:List aH}{i:Nat}{n:Int}(h:sU eO 0 ls= .error (i,n)):i<ls.length/\n≠0:=by
 obtain⟨k,l,rfl,hk,_,q⟩:=SH ls eO 0 i n h;refine⟨by have:=(bO.1 hk).1;omega,?_⟩;rcases q with⟨rfl,_⟩|⟨rfl,_⟩ <;> decide
def akX (s:Bs)(w:World)(e:Ending)(X:World):Prop:=
 Below w.1.size w X/\
 match AR s with
 | .ok z=>∃h es ds ms,∃scan:EvC->List Sn,∃dn:aM->List Int,∃mn:aN->List Int,e= .returned (.tuple #[bG h,.int .i64 (s.length:Int),.int .i64 0])/\gZ X w.1.size h (cO z) es ds ms scan dn mn
 | .error (n,m)=>e= .returned (.tuple #[bG vN,.int .i64 n,.int .i64 m])
def Gz (w:World):Prop:=EL w/\EK w
theorem Gz.below {w w':World}(h:Gz w)(hb:Below w.1.size w w'):Gz w':=⟨h.1.below hb,h.2.below hb⟩
theorem IY (s:Bs)(w:World)(hG:Gz w):Calls Tryz.prog 6 #[.string ⟨s.toArray⟩] w (akX s w):=by
 have HB0:=hid (aA (Below.refl w.1.size w) (.cells (aD vN) 29));have HX0:=hid (Bx.new w (aD vN) 29);have HL:=hid (QT s _ (hG.1.below HB0.q));have HG:=hid hG;clear hG;go_enter func6,ntmps6;go_wp2_with fail;refine HL.q.mono ?_;rintro e w1 ⟨hb1,h1⟩;have HB1:=hid (HB0.q.bZ hb1);have eX:=hid (HX0.q.keep hb1);have yg:=hid hb1;clear HL hb1
 cases hl:lG s with
 |error x=>
  obtain⟨n,m⟩:=x;rw[hl] at h1;obtain rfl:=h1;have hne:m≠0:=K5 hl;have hne1:(m !=0)=true:=by simp[hne]
  have HR:Hid (AR s= .error (n,m)):=hid (by unfold AR;rw[hl]);have hcx:=eX.q.1;have hfx:=eX.q.2.1;have hlx:=eX.q.2.2;clear hl hne;go_wp2_with fail;obtain⟨Z,hZ,hz1,hz2⟩:=H8 (h':=vN) eX.q;rw[<-hZ];have hcz:=hz1.1;clear hZ;refine bodyPost_ret (v:= .tuple #[bG vN,.int .i64 n,.int .i64 m]) (by simp[results,results6,go_sem,hcz]) rfl ⟨hz2.below HB1.q (λi hi=>by omega) HB1.q.size,?_⟩;rw[HR.q]
 |ok r=>
  rw[hl] at h1;obtain⟨a,c,bg,pa,pc,rfl,oL,aL,oP⟩:=h1;have hlen:=VN hl;have hll:bg.length=r.length:=by rw[aL.1,bH]
  have FW:=hid (YK a c bg (r.map Prod.fst) _ w1 (oL.row (hc:=Pb) ah) aL hlen.2 (HG.q.2.below HB1.q));have HP:=hid (oP.row (hc:=iP) (by rw[bH];omega));have HLF:=hid hl;have HPN:Hid (∀b o,pa=some ⟨b,o,none⟩->b≠w.1.size):=hid (λb o e q=>by have:=aiH oP e;rw[World.size_alloc] at this;omega);clear oL aL oP hlen hll hl;go_wp2_with fail;refine FW.q.mono ?_;rintro e w2 ⟨hb2,h2⟩;have HB2:=hid (HB1.q.bZ hb2);have fw:=hid (eX.q.keep hb2);have HBO:=hid hb2;clear hb2
  cases ho:sU eO 0 (r.map Prod.fst) with
  |error x=>
   obtain⟨i,n⟩:=x;rw[ho] at h2;obtain rfl:=h2;obtain⟨hi,hn0⟩:=TR ho;rw[bH] at hi;obtain⟨px,pb,po,hpx,rfl,hpc⟩:=HP.q.at_ hi;have hpb:=hpc 0 _ rfl;simp only[dM,gT] at hpb;have aiI:=HBO.q.cell (p:=⟨pb,po+i,none⟩) (dR hpb)▸hpb;have hne1:(n !=0)=true:=by simp[hn0]
   have hi1:(i:Int)<(r.length:Int):=by omega
   have HR:Hid (AR s= .error (px,n)):=hid (by unfold AR;rw[HLF.q];simp only[ho,List.getD,hpx,Option.getD_some]);have kZ:=hid (fw.q.alloc (.cells (aD vN) 29));have HB3:=hid (aA HB2.q (.cells (aD vN) 29));have kR:=hid (bn (aA (Below.refl w2.1.size w2) (.cells (aD vN) 29)) rfl aiI);have kP:Hid (pb≠w.1.size):=hid (HPN.q pb po rfl);clear ho hn0 hpx hpc hpb aiI;go_wp2_with fail;refine aC 99 [(0,0),(1,0),(2,0),(3,0),(4,0),(5,0),(6,2),(7,0),(8,0)] (λ_=>True) (λW'=>W'.cell? ⟨pb,po+i,none⟩=some (.int .i64 px)) ay ay (trivial) (kR.q) ?_;refine qC ?_;refine aF rfl rfl (λK hK=>?_);go_simp;have hcx:=kZ.q.1;have hfx:=kZ.q.2.1;have hlx:=kZ.q.2.2;go_simp;refine hK _ _ ⟨trivial,(let⟨_,e,_,q⟩:=H8 (h':=vN) kZ.q;by rw[<-e];exact q.cell kR.q kP.q)⟩ ?_;clear hK K hcx hfx hlx;refine qC ?_;refine aP ?_;go_wp2_with fail;obtain⟨Z,hZ,hz1,hz2⟩:=H8 (h':=vN) kZ.q;rw[<-hZ];have hcz:=hz1.drew.1;clear hZ;refine bodyPost_ret (v:= .tuple #[bG vN,.int .i64 px,.int .i64 n]) (by simp[results,results6,go_sem,hcz]) rfl ⟨(hz2.below HB3.q (λi hi=>by omega) HB3.q.size).drew,?_⟩;rw[HR.q]
  |ok z=>
   rw[ho] at h2;obtain⟨h,es,ds,ms,scan,dn,mn,rfl,hho⟩:=h2;have HR:Hid (AR s= .ok z):=hid (by unfold AR;rw[HLF.q];simp only[ho]);have kZ:=hid (fw.q.alloc (.cells (aD h) 29));have HB3:=hid (aA HB2.q (.cells (aD h) 29));have Bh:=hid (hho.below (aA (Below.refl _ _) (.cells (aD h) 29)));have uV:Hid (w.1.size<w1.1.size):=hid eX.q.2.2;have hcx:=kZ.q.1;have hfx:=kZ.q.2.1;have hlx:=kZ.q.2.2;clear ho hho;go_wp2_with fail;obtain⟨Z,hZ,hz1,hz2⟩:=H8 (h':=h) kZ.q;rw[<-hZ];have hcz:=hz1.1;clear hZ;refine bodyPost_ret (v:= .tuple #[bG h,.int .i64 (s.length:Int),.int .i64 0]) (by simp[results,results6,go_sem,hcz]) rfl ⟨hz2.below HB3.q (λi hi=>by omega) HB3.q.size,?_⟩;rw[HR.q];exact⟨h,es,ds,ms,scan,dn,mn,rfl,(Bh.q.same (hz2.mono (λi hi _=>by have:=uV.q;omega))).mono (by have:=uV.q;omega)⟩
end Yd
namespace Yd
open Go Go.RowKit Go.Proofs Go.Lib Tryz
open Tryz renaming prog->d
open Value renaming int->e,string->j
open Go.Proofs.YtpeojoobplpcoaaGreatDoor
section
variable {W:World}
theorem abK {fuel:Nat}{ms:Array (String × TypeId)}{t:TypeId}{cs:List Value}{y:DataW Unit × List MemPlace}(ht:Tryz.prog.underlying t=some (.interface ms))(h:DataW.trod (λ_=>()) d W 0 (λ_=>true) false fuel t cs=some y):
  ∃ev,cs=[ev]/\(ev= .nilIface\/∃te pe,ev= .iface te pe):=by
 cases fuel with
 |zero=>simp[DataW.trod] at h
 |succ fuel=>
  simp only[DataW.trod,ht] at h
  split at h <;> first|exact⟨_,rfl,.inl rfl⟩|exact⟨_,rfl,.inr ⟨_,_,rfl⟩⟩|(rename_i heq;cases heq;done)|(cases h;done)|(rename_i heq;simp at heq;done)|skip
theorem abL (h:VarReads d W "strconv.ErrRange" (Rows.laid_strconv_ErrRange:DataW Unit)):Az W:=by
 obtain⟨c,_,_,t,a⟩:=yV (g:=9) (t:=69) h ay ay;obtain⟨ev,h1,h2⟩:=abK underlying69 t;exact⟨ev,by rw[a,h1];rfl,h2⟩
theorem abM (hu1:VarReads d W "unicode/utf8.first" Rows.laid_unicode_utf8_first)(hu2:VarReads d W "unicode/utf8.acceptRanges" Rows.laid_unicode_utf8_acceptRanges)
  (hf:VarReads d W "yardarm/line.forms" Rows.laid_yardarm_line_forms) (hgd:VarReads d W "yardarm/line.guards" Rows.laid_yardarm_line_guards) (hlv:VarReads d W "yardarm/level.texts" Rows.laid_yardarm_level_texts) (hhl:VarReads d W "yardarm/history.limits" Rows.laid_yardarm_history_limits):kg W:=by
 have hu:=utf8Tabs_of_reads lays260 u8x (abE▸hu1) (YF▸hu2);obtain⟨c2,_,_,t2,a2⟩:=yV (g:=0) (t:=140) hf ay ay;obtain⟨c3,_,_,t3,a3⟩:=yV (g:=1) (t:=145) hgd ay ay;obtain⟨c4,_,_,t4,a4⟩:=yV (g:=3) (t:=183) hlv ay ay;obtain⟨c1,_,_,t1,a1⟩:=yV (g:=2) (t:=104) hhl ay ay;refine⟨⟨hu,λi hi=>(by rw[a1];exact YH underlying104 t1 i hi (by match i,hi with|0,_=>rfl|1,_=>rfl|2,_=>rfl|3,_=>rfl))⟩,λk hk=>?_,λi hi=>?_,λi hi=>?_⟩
 .rw[a2,a2,a2]
  exact afa t2 k hk (by match k,hk with|0,_=>rfl|1,_=>rfl|2,_=>rfl|3,_=>rfl|4,_=>rfl|5,_=>rfl|6,_=>rfl|7,_=>rfl|8,_=>rfl|9,_=>rfl)
 .rw[a3]
  exact YG underlying145 t3 i hi (by match i,hi with|0,_=>rfl|1,_=>rfl|2,_=>rfl|3,_=>rfl)
 .rw[a4]
  exact YG underlying183 t4 i hi (by match i,hi with|0,_=>rfl|1,_=>rfl|2,_=>rfl|3,_=>rfl|4,_=>rfl)
theorem abN (hg:kg W)(hfl:VarReads d W "yardarm/format.limits" Rows.laid_yardarm_format_limits):vB W:=by
 obtain⟨c1,_,_,t1,a1⟩:=yV (g:=4) (t:=104) hfl ay ay;exact⟨hg.1.1,λi hi=>(by rw[a1];exact YH underlying104 t1 i hi (by match i,hi with|0,_=>rfl|1,_=>rfl|2,_=>rfl|3,_=>rfl))⟩
end
def cellsD:Nat->DataW Unit->List Value
 |_,.lit (.int k i)=>[.int k i]
 |_,.lit (.string b)=>[.string ⟨b.toArray⟩]
 |f+1,.agg l=>l.flatMap (cellsD f)
 |_,_=>[]
def wI (cs:Array Value):Obj->Obj
 | .cells _ t frozen=> .cells cs t frozen
 |o=>o
noncomputable def adQ:Nat:=(World.holding d default ⟨#[],#[],[]⟩).1.size
noncomputable def LP (os:Os):World:=
 let w0:=World.holding d os ⟨#[.cells #[.string ⟨#[118,97,108,117,101,32,111,117,116,32,111,102,32,114,97,110,103,101]⟩] 289,.cells #[.string ⟨#[105,110,118,97,108,105,100,32,115,121,110,116,97,120]⟩] 289],#[],[]⟩
 {w0 with heap:=(((((((((((w0.1.modify 6 (wI ((Lib.firstTab.map (λz=>e .u8 z)).toArray))).modify 7 (wI (((List.range 16).flatMap (λi=>[e .u8 (Lib.accLo i:Int),e .u8 (Lib.accHi i:Int)])).toArray))).modify
   0 (wI (((List.range 10).flatMap (λk=>[j ⟨(bB k).toArray⟩,e .i64 (bS k),e .i32 (dG k)])).toArray))).modify
   1 (wI (((List.range 4).map (λi=>j ⟨(lg i).toArray⟩)).toArray))).modify 3 (wI (((List.range 5).map (λi=>j ⟨(kG i).toArray⟩)).toArray))).modify
   11 (wI (cellsD 2 Rows.laid_math_bits_deBruijn32tab).toArray)).modify 12 (wI (cellsD 2 Rows.laid_math_bits_deBruijn64tab).toArray)).modify
   10 (wI (cellsD 2 Rows.laid_internal_strconv_uint64pow10).toArray)).modify 9 (wI #[.iface 287 (.pointer (some ⟨adQ,0,none⟩))])).modify 8 (wI #[.iface 287 (.pointer (some ⟨adQ+1,0,none⟩))])).modify 2 (wI (cellsD 2 Rows.laid_yardarm_history_limits).toArray)).modify 4 (wI (cellsD 2 Rows.laid_yardarm_format_limits).toArray)}
end Yd
namespace Yd
open Go Go.RowKit Go.Proofs
open Yd renaming hid->j
theorem gZ.check {X:World}{B:Nat}{h:HC}{z:Cont}{es:List EvC}{ds:List aM}{ms:List aN}{scan:EvC->List Sn}{dn:aM->List Int}{mn:aN->List Int}(o:gZ X B h (cO z) es ds ms scan dn mn)(hs:gK (cO z))(hf:aJ (cO z)):
  nS h (cO z).nl es ds ms (cO z).Q scan dn mn=true:=by
 rw[Rs (o.shaped hs hf) (λi hi=>(o.lens.2.2.2.2 i hi).symm),fA];intro i hi;have hi4:=xL.1 hi;rw[aW,Ip o.be o.bd o.bm o.ss o.ts o.us,FJ,o.lens.2.2.2.2 i hi4]
section
variable {X:World}{B:Nat}{h:HC}{c z:Cont}{es:List EvC}{ds:List aM}{ms:List aN}{scan:EvC->List Sn}{dn:aM->List Int}{mn:aN->List Int}
theorem Cz {α β γ δ:Type}(f:α->β)(g:α->γ)(k:β × γ->δ):∀l:List α,((l.map f).zip (l.map g)).map k=l.map λx=>k (f x,g x)
 |[]=>rfl
 |a::l=>by simp only[eu,List.zip_cons_cons,Cz f g k l]
theorem gZ.lines (o:gZ X B h c es ds ms scan dn mn):fV c.nl es ds ms c.Q scan dn mn=eH c:=by
 unfold eH fV;rw[<-o.be,<-o.ss,<-o.bd,<-o.ts,<-o.bm,<-o.us,Cz,Cz,Cz]
 rfl
theorem TS {d:Cont}(hc:kH d):∀(b a:List EvC)(L:List (Int × Int))(r:List EvC),d.E=a++b->r.map EvC.base=b->(∀t x,L.count (t,x)=iC a t x)->zZ L r=true
 |[],a,L,r,_,hr,_=>by rw[List.map_eq_nil_iff.1 hr];rfl
 |e::b,a,L,r,hd,hr,hL=>by
  obtain⟨x,r',rfl,hx,hr'⟩:=List.map_eq_cons_iff.1 hr;subst hx;have hv:Ei L x=false:=by
   unfold Ei;by_cases hk:x.kind=2
   .have:=hc a x.base b hd hk
    rw[bN hk,Ay,Bool.not_eq_false',aW];rw[hL];exact this
   .rw[bq hk,Bool.false_and]
  unfold zZ;rw[hv,Bool.not_false,Ay];refine TS hc b (a++[x.base]) _ r' (by rw[hd,dD];rfl) hr' (λt y=>?_);unfold zm iC;rw[List.countP_append];have:=hL t y;unfold iC at this;by_cases hk:x.kind=2
  .rw[av hk,List.count_cons,this]
   congr 1
   simp only[List.countP_cons,List.countP_nil,bA];have e1:x.base.kind=2:=hk;have e2:x.base.t=x.t:=rfl;have e3:x.base.obj=x.obj:=rfl;simp only[e1,e2,e3,beq_self_eq_true,Ay];by_cases h1:x.t=t <;> by_cases h2:x.obj=y <;> simp[h1,h2]
  .rw[au hk,this]
   have e1:x.base.kind≠2:=hk;simp[e1]
theorem gZ.cnt (o:gZ X B h c es ds ms scan dn mn)(hc:kH c):zZ [] es=true:=TS hc c.E [] [] es rfl o.be (λ_ _=>rfl)
theorem gZ.text {ls:List aH}(o:gZ X B h (cO z) es ds ms scan dn mn)(hz:sU eO 0 ls= .ok z)(hg:kg X):Calls Tryz.prog 7 #[bG h] X (XC (eH (cO z)) X):=by
 obtain⟨h1,_,_,h4,_⟩:=zO hz;have hs:=gK.number h1;have hf:=zu h1 h4;rw[<-o.lines];exact MJ h (cO z).nl es ds ms (cO z).Q scan dn mn X hg (o.names (hs.Kr hf)) (o.deep (hs.Kr hf)) (o.check hs hf) (by rw[o.lines];exact FU hs)
theorem gZ.counted {ls:List aH}(o:gZ X B h (cO z) es ds ms scan dn mn)(hz:sU eO 0 ls= .ok z)(hg:wz X):Calls Tryz.prog 9 #[bG h] X (dw (.bool true) X):=by
 obtain⟨h1,h2,_,h4,_⟩:=zO hz;have hs:=gK.number h1;have hf:=zu h1 h4;have:=CV h (cO z).nl es ds ms (cO z).Q scan dn mn X hg (o.names (hs.Kr hf)) (o.deep (hs.Kr hf));rw[o.check hs hf,o.cnt (h2.number h1.le)] at this;exact this
end
theorem YR (s:Bs)(w:World)(hG:Gz w):Calls Tryz.prog 3 #[.string ⟨s.toArray⟩] w (dw (.bool true) w):=by
 have HG:=j hG;have HL:=j hG.1.1;obtain⟨m,hm⟩:∃m:Nat,m=min s.length 6000:=⟨_,rfl⟩;have hmi:min (s.length:Int) 6000=(m:Int):=by omega
 have hz:=gQ s;have hext:(⟨s.toArray⟩:ByteArray).extract 0 m=⟨(s.take 6000).toArray⟩:=by
  rw[abj s 0 m (aZ _),Ez,Nat.sub_zero,hm,Nat.min_comm,<-List.take_eq_take_min]
 have hmb:m<=6000:=by omega
 have hml:m<=s.length:=by omega
 obtain⟨t,ht⟩:∃t,t=s.take 6000:=⟨_,rfl⟩;have htl:t.length<=6000:=by rw[ht,fE];omega
 rw[<-ht] at hext;have HTL:=j htl;clear hG hm ht htl;go_enter Tryz.func3,Tryz.ntmps3;go_wp2_with fail;refine(XE w HL.q).mono ?_;rintro e w1 ⟨rfl,hb1⟩;have HB1:=j hb1;clear hb1;go_wp2_with fail
 try rw[hext]
 refine(IY t w1 (HG.q.below HB1.q)).mono ?_;rintro e w2 ⟨hb2,h2⟩;have HB2:=j (HB1.q.bZ hb2);clear hb2;unfold AR at h2
 cases hl:lG t with
 |error x=>
  obtain⟨n,k⟩:=x;rw[hl] at h2;obtain rfl:=h2;have hne1:(k !=0)=true:=by simp[K5 hl]
  clear hl;go_wp2_with fail;go_ret;exact⟨rfl,aA HB2.q _⟩
 |ok r=>
  rw[hl] at h2;simp only[] at h2
  cases ho:sU eO 0 (r.map Prod.fst) with
  |error x=>
   obtain⟨i,k⟩:=x;rw[ho] at h2;obtain rfl:=h2;have hne1:(k !=0)=true:=by simp[(TR ho).2]
   clear hl ho;go_wp2_with fail;go_ret;exact⟨rfl,aA HB2.q _⟩
  |ok z=>
   rw[ho] at h2;obtain⟨h,es,ds,ms,scan,dn,mn,rfl,hho⟩:=h2;have hlen:=YS hl ho HTL.q;obtain⟨r2,z2,hl2,ho2,hsm⟩:=abO hl ho hlen;have HB3:=j (aA HB2.q (.cells (aD h) 29));have HX:=j (Bx.new w2 (aD h) 29);have HH:=j (hho.below (aA (Below.refl _ _) (.cells (aD h) 29)));have HO:=j ho;have l8:=j ho2;have HS:=j hsm;have HL2:=j hl2;have HT:=j (HH.q.text ho (HL.q.below HB3.q));generalize hT:(eH (cO z)).flatMap jL=T at hlen HL2;have HTT:=j hT;have HLEN:=j hlen;clear hl ho ho2 hsm hl2 hho hT hlen;go_wp2_with fail;refine HT.q.mono ?_;rintro e w4 ⟨he,hb4⟩;unfold jG at he;rw[HTT.q,av HLEN.q] at he;obtain rfl:=he;have ig:=j (HB3.q.bZ hb4);have qO:=j (HX.q.keep hb4);have HH4:=j (HH.q.below hb4);have hcx:=qO.q.1;clear hb4;go_wp2_with fail;refine(IY T w4 (HG.q.below ig.q)).mono ?_;rintro e w5 ⟨hb5,h5⟩;unfold AR at h5;rw[HL2.q] at h5;simp only[l8.q] at h5;obtain⟨h',es',ds',ms',mG,nY,uq,rfl,aiJ⟩:=h5;have kz:=j (aA (ig.q.bZ hb5) (.cells (aD h') 29));have vD:=j ((qO.q.keep hb5).alloc (.cells (aD h') 29));have nD:=j (Bx.new w5 (aD h') 29);have HH5:=j ((HH4.q.below hb5).below (aA (Below.refl _ _) (.cells (aD h') 29)));have YT:=j (aiJ.below (aA (Below.refl _ _) (.cells (aD h') 29)));have HT2:=j (YT.q.text l8.q (HL.q.below kz.q));clear hb5 aiJ hcx;go_wp2_with fail;refine HT2.q.mono ?_;rintro e w6 ⟨he,hb6⟩;unfold jG at he;rw[VO HS.q,HTT.q,av HLEN.q] at he;obtain rfl:=he;have yF:=j (kz.q.bZ hb6);have KD:=j (vD.q.keep hb6);have zA:=j (nD.q.keep hb6);have HH6:=j (HH5.q.below hb6);have HK6:=j (YT.q.below hb6);have hcx:=KD.q.1;have hcy:=zA.q.1;have hzT:=gQ T;clear hb6;go_wp2_with fail;refine(JM HK6.q HH6.q (YU l8.q) (YU HO.q)).mono ?_;rintro e w8 ⟨b,rfl,hb,qx⟩;obtain rfl:=hb.2 HS.q;have HB8:=j (yF.q.bZ qx);have HX8:=j (KD.q.keep qx);have HH8:=j (HH6.q.below qx);clear hcx hcy hb qx;have hcx:=HX8.q.1;go_wp2_with fail;refine(HH8.q.counted HO.q (HL.q.below HB8.q).1).mono ?_;rintro e w9 ⟨rfl,KG⟩;have XR:=j (HB8.q.bZ KG);clear KG;go_wp2_with fail;go_ret;exact⟨rfl,XR.q⟩
end Yd
