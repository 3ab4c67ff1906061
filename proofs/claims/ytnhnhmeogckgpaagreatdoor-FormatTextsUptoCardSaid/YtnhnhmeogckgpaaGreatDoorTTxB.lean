import Derived.Test.YtnhnhmeogckgpaaGreatDoorTChG
set_option linter.all false
set_option maxRecDepth 200000
set_option maxHeartbeats 8000000
namespace Yd
open List renaming append_nil→F,append_assoc→G,take_of_length_le→U
open Nat renaming zero_le→J,mul_comm→V,add_zero→Z
open Option renaming some→I,none→P
open Go Go.RowKit Go.Proofs
open Go.IntKind renaming i64→u
open Go.Obj renaming cells→L
open Go.Value renaming string→f,int→A,slice→H
open RowKit renaming intOf→T
open Tryz renaming prog→S,ntmps26→Y
open Yd renaming hid→d
open _root_ renaming Int→g,List→C,Nat→O
def IJ (c:Cont):Bool:=
 (List.range 4).all (fun i=>decide ((c.nl i).length≤jd i)) && decide (c.E.length≤3000) && decide (c.D.length≤3000) && decide (c.M.length≤3000) && decide (c.Q.length≤3000) && c.E.all (fun e=>decide (e.kind=2→e.v.k≤999))
theorem yu (c:Cont):IJ c=true↔aD c:=by
 unfold IJ aD;simp only[Bool.and_eq_true,decide_eq_true_eq,List.all_eq_true,List.mem_range,and_assoc]
def rE (c:Cont):O→C aB→Except (O × g) Cont
 |_,[]=> .ok c
 |i,l::ls=>if fo l=true then(if IJ (aG c l)=true then rE (aG c l) (i+1) ls else .error (i,6)) else .error (i,220)
theorem NQ:∀(ls:C aB) (c:Cont) (i:O) (z:Cont),rE c i ls= .ok z→z=mH c ls∧(∀l∈ls,fo l=true)∧(aD c→aD (mH c ls))
 |[],c,i,z,h=>by
  injection h with h;exact⟨h.symm,fun l hl=>(by cases hl),fun h=>h⟩
 |l::ls,c,i,z,h=>by
  unfold rE at h
  split at h
  ·rename_i hl
   split at h
   ·rename_i hf
    obtain⟨h1,h2,h3⟩:=NQ ls (aG c l) (i+1) z h;refine⟨h1,fun x hx=>?_,fun _=>h3 ((yu _).1 hf)⟩;rcases List.mem_cons.1 hx with rfl|hx
    ·exact hl
    ·exact h2 x hx
   ·cases h
  ·cases h
theorem Hu:aD iF:=⟨fun _ _=>J _,J _,J _,J _,J _,fun e he=>by cases he⟩
theorem NM:∀(ls:C aB) (c:Cont) (i j:O) (e:g),rE c i ls= .error (j,e)→∃k l,j=i+k∧ls[k]?=I l∧(∀x∈ls.take k,fo x=true)∧((e=220∧fo l=false)∨(e=6∧fo l=true∧¬aD (mH c (ls.take (k+1)))))
 |[],_,_,_,_,h=>by cases h
 |l::ls,c,i,j,e,h=>by
  unfold rE at h
  split at h
  ·rename_i hl
   split at h
   ·obtain⟨k,l',h1,h2,h3,h4⟩:=NM ls (aG c l) (i+1) j e h
    refine⟨k+1,l',by omega,by rw[List.getElem?_cons_succ];exact h2,fun x hx=>?_,h4⟩;rw[List.take_succ_cons] at hx;rcases List.mem_cons.1 hx with rfl|hx
    ·exact hl
    ·exact h3 x hx
   ·rename_i hf
    injection h with h;injection h with h1 h2;exact⟨0,l,by omega,rfl,fun x hx=>(by cases hx),.inr ⟨h2.symm,hl,fun k=>hf ((yu _).2 k)⟩⟩
  ·rename_i hl
   injection h with h;injection h with h1 h2;exact⟨0,l,by omega,rfl,fun x hx=>(by cases hx),.inl ⟨h2.symm,Bool.eq_false_iff.2 hl⟩⟩
theorem TJ {ls:C aB} (h:∀l∈ls,fo l=true):∀l∈ls,l.kind=0∨dh l:=fun l hl=>uj (h l hl)
theorem QW {ls:C aB} {z:Cont} (h:rE iF 0 ls= .ok z):gJ z∧jW z∧iT z∧aD z∧z=mH iF ls:=by
 obtain⟨rfl,h2,h3⟩:=NQ ls iF 0 z h;have hf:=h3 Hu;exact⟨gJ.zero.all ls (TJ h2) hf,jW.zero.all ls,iT.zero.all ls,hf,rfl⟩
def xE (r lvl:g) (aA:C To) (bits:g) (first:Bool):C Bs:=if r=108 then [fJ lvl.toNat] else if r=118 then(aA.take 1).map dm else if r=103 then j5 bits else if r=109∧first=true then [[45]] else []
def uG (r:g) (xs:C Bs) (vs:C To) (j:O):C Bs:=if r=115 then((xs.zip vs).take j).flatMap (fun p=>[p.1,dm p.2]) else xs.take j
theorem TK {k N c:O} {r lvl bits:g} {names:C Bs} {aA:C To} {first:Bool} (hN:bA k=(N:g)) (hr:bH k=r) (hl:names.length=N+c):
  gT ⟨k,names,lvl,aA,first,bits⟩=[aO k]++names.take N++xE r lvl aA bits first++uG r (names.drop N) aA c:=by
 have h1:(names.drop N).take c=names.drop N:=U (by rw[List.length_drop];omega);have h2:((names.drop N).zip aA).take c=(names.drop N).zip aA:=U (by rw[List.length_zip,List.length_drop];omega);unfold gT xE uG;simp only[Int.toNat_natCast,hN,hr,h1,h2,List.cons_append,List.nil_append,G]
theorem Xa {r:g} {xs:C Bs} {vs:C To} {j:O} {s:Bs} (hr:r≠115) (h:xs[j]?=I s):uG r xs vs (j+1)=uG r xs vs j++[s]:=by
 unfold uG;rw[if_neg hr,if_neg hr,List.take_add_one,h];rfl
theorem Xb {xs:C Bs} {vs:C To} {j:O} {s:Bs} {t:To} (h:xs[j]?=I s) (h2:vs[j]?=I t):uG 115 xs vs (j+1)=uG 115 xs vs j++[s]++[dm t]:=by
 unfold uG;have hz:(xs.zip vs)[j]?=I (s,t):=by rw[List.getElem?_zip_eq_some];exact⟨h,h2⟩
 rw[if_pos rfl,if_pos rfl,List.take_add_one,hz,List.flatMap_append];simp
theorem Z5 (b j:O) (hb:b≤15) (h:j<4) (W:World):(Go.Op.shift .shr u (b:g) u (j:g)).run S W= .ok (A u ((b:g) / 2 ^ j)) W:=by
 rcases(by omega:j=0∨j=1∨j=2∨j=3) with rfl|rfl|rfl|rfl <;> simp[Op.shift,go_sem]
theorem Xc (j:O) (h:j<4) (W:World):(Instr.index 120 (.agg #[f ⟨#[114,121,119]⟩,f ⟨#[109,114]⟩,f ⟨#[109,119]⟩,f ⟨#[119,102,114]⟩]) (A u (j:g))).run S W= .ok (f ⟨(gB j).toArray⟩) W:=by
 rcases(by omega:j=0∨j=1∨j=2∨j=3) with rfl|rfl|rfl|rfl
 ·exact Wy W
 ·exact Wz W
 ·exact WA W
 ·exact WB W
theorem TL (r:g) (xs:C Bs) (vs:C To):uG r xs vs 0=[]:=by unfold uG;split <;> simp
theorem L8 (b:g) (j:O):jA b (j+1)=jA b j++if b / 2 ^ j % 2=1 then [gB j] else []:=rfl
theorem ou {w w1 X:World} {c0 c1:Array Value} {a:Option Addr} {n c:O} {ws:C Bs} {s:Bs} {ops:Array Oper} {rest:C Oper} {o:Oper} {ac:Act} {Q:Exit→Act→World→Prop} (h:pX w w1 c0 c1 X a n c ws) (hlt:w.heap.size<w1.heap.size) (hn:n≤1000)
  (hgd:o.guard=P) (p q:Operand) (ho:o.op= .call {callee:= .builtin .append,args:=#[p,q],argTypes:=#[22,22]}) (hs:ac.eval p= H a n c) (hx:ac.eval q= H (I ⟨X.heap.size,0,P⟩) 1 1)
  (K:∀a' c' w',pX w w1 c0 c1 w' a' (n+1) c' (ws++[s])→wpList S ops Q rest (ac.put o.dst (H a' (n+1) c')) w'):wpList S ops Q (o::rest) ac (X.alloc (L #[f ⟨s.toArray⟩] 9)):=by
 obtain⟨i,z,hi,hz,hsize,bP,hzs⟩:=oZ;refine dV hgd p q 22 ho i z 16 Tryz.underlying22 hi hz hsize bP hzs hs (h.o.alloc _) (I ⟨X.heap.size,0,P⟩) 1 1 (n+1) [s] hx (Row.adZ rfl s) (by rw[←h.o.len]) ah (by unfold maxLen;omega) (by have:=h.s;simp;omega) ?_;intro a' c' w' h1 h2 _;exact K a' c' w' (h.snoc hlt h1 h2)
theorem L9 {s:aB} (h:dh s):1≤s.kind∧s.kind≤9:=by
 rcases h.2.2 with⟨e,_⟩|⟨e,_⟩|⟨e,_⟩|⟨e,_⟩|⟨e,_⟩|⟨e,_⟩|⟨e,_⟩|⟨e,_⟩|⟨e,_⟩ <;> omega
theorem TM {w:World} {B:O} {l:aV} {s:aB} (h:fq w B l s) (k:O) (hkd:s.kind=(k:g)) (h0:0<k) (hB:fo s=true) (hn:s.names.length≤1000) (hv:s.aA.length≤1000) (hg:jY w):
  Calls S 26 #[gu l] w (pG (f ⟨(qc s).toArray⟩) (A u 0) w):=by
 have hba:=av (Below.refl w.heap.size w) (L (gI l) 34);have xK:=d (qj (h.below hba) hn hv (hg.below hba));rw[hB] at xK;have HB0:=d hba;have rn:=h.2.1.row ah;have rv:=h.2.2.row ah;obtain⟨⟨e1,e2,e3,e4,e5,e6⟩,_,_⟩:=h;obtain⟨lk,na,nn,nc,lvl,va,vn,vc,lf,bits⟩:=l;obtain⟨sk,names,slv,aA,first,sbt⟩:=s;simp only at e1 e2 e3 e4 e5 e6 hkd hn hv rn rv;subst e1 e2 e3 e4 hkd;obtain⟨N,hN⟩:∃N:O,bA k=(N:g):=⟨(bA k).toNat,by unfold bA;split <;> rfl⟩;obtain⟨r,hr⟩:∃r,bH k=r:=⟨_,rfl⟩;have hNb:1≤N∧N≤2:=by
  have:1≤bA k∧bA k≤2:=by
   obtain⟨m,rfl⟩:∃m,k=m+1:=⟨k - 1,by omega⟩;unfold bA;split <;> first|decide|(rename_i h;cases h)
  omega
 have hc:r=108∨r=118∨r=103∨r=109∨r=115∨r=116∨r=0:=by rw[←hr];unfold bH;split <;> simp
 simp only[fo,uJ,Bool.and_eq_true,decide_eq_true_eq,Int.toNat_natCast,hN,hr] at hB;obtain⟨⟨_,hk10⟩,⟨⟨⟨⟨⟨a1,a2⟩,a3⟩,a4⟩,a5⟩,⟨b1,b2⟩,b3⟩,c9⟩:=hB;have afS:k<10:=by omega
 obtain⟨c,hcl⟩:∃c,names.length=N+c:=⟨names.length - N,by omega⟩;have hmo:fE r≤300:=by unfold fE;split <;> (try split) <;> decide
 have YF:c≤300:=by omega
 have YG:=d (TK (lvl:=lvl) (aA:=aA) (first:=lf) (bits:=bits) hN hr hcl);have HWN:Hid (∀x∈names,aU ⟨x.toArray⟩=true):=d (List.all_eq_true.1 a5);have HWV:Hid (∀t∈aA,gZ t):=d (Nf a4);have HWL:=d (Tj ⟨(k:g),names,lvl,aA,lf,bits⟩ HWN.q HWV.q);have HWP:Hid (0<(gT ⟨(k:g),names,lvl,aA,lf,bits⟩).length):=d (by unfold gT;simp);unfold qc;generalize gT ⟨(k:g),names,lvl,aA,lf,bits⟩=WL at YG HWL HWP ⊢;have HRN:=d rn;have YH:=d rv;obtain⟨_,nb,no,_,rfl,_⟩:=rn.at_ (i:=0) (by have:=rn.len;omega);have hnn:nn=N+c:=by have:=rn.len;omega
 subst hnn;obtain⟨ma,hsl,_,hrd,_⟩:=Du rn N ah;rw[Nat.add_sub_cancel_left] at hsl hrd;have rT:=d hrd;have hcap:=rn.cap;have ak1:((N:g)≤(nc:g)):=by omega
 have hf:=hg.2.1 k afS;have hf1:w.cell? ⟨0,k*3,P⟩=I (f ⟨(aO k).toArray⟩):=by rw[V];exact hf.1
 have hf2:w.cell? ⟨0,k*3+1,P⟩=I (A u (N:g)):=by rw[V,←hN];exact hf.2.1
 have hf3:w.cell? ⟨0,k*3+2,P⟩=I (.int .i32 r):=by rw[V,←hr];exact hf.2.2
 have hb0:=dS hf1;simp only at hb0;have HF:=d (And.intro hf1 (And.intro hf2 hf3));have HG:=d hg;have hk1:((k:g)==0)=false:=by simp;omega
 have hkz:((k:g)!=0)=true:=by simp;omega
 have HX0:=d (Bx.new w #[A u (k:g),H (I ⟨nb,no,P⟩) (N+c) nc,A u lvl,H va vn vc,.bool lf,A u bits] 34);have I6:=d hNb;have HC:=d hc;have aiW:=d b1;have HB3:=d b3;have Fp:=d c9;have HA3:=d a3;have jM:=d YF;have Gq:=d hcl;clear hg hf hf1 hf2 hf3 hba hrd rn rv hN hr hNb hc a1 a2 a3 a4 a5 b1 b2 b3 c9 hmo YF hcl h0 e5 e6 hn hv;go_enter Tryz.func26,Y;go_wp2_with fail;refine xK.q.mono ?_;rintro e w1 ⟨rfl,hb1⟩;simp only[if_true];have hx1:=HX0.q.keep hb1;have HB1:=d (HB0.q.bq hb1);have cK:=d hx1;have aiX:=hx1.1;have hf1:=aM HB1.q rfl HF.q.1;have hf2:=aM HB1.q rfl HF.q.2.1;have hf3:=aM HB1.q rfl HF.q.2.2;have hlx:=hx1.2.2;have hlt':w.heap.size<w1.heap.size:=hlx;have aiY:0<w1.heap.size:=by omega
 have ak2:(k:g)<10:=by omega
 clear hb1 hx1;go_wp2_with fail;have HY:=d (Bx.new w1 #[f ⟨(aO k).toArray⟩,A u (N:g),.int .i32 r] 116);have Lr:Hid (Own ((w1.alloc (L #[f ⟨(aO k).toArray⟩,A u (N:g),.int .i32 r] 116)).drew.alloc (L #[f ⟨(aO k).toArray⟩] 9)) (w1.heap.size+1) 9 1 encStr (H (I ⟨w1.heap.size+1,0,P⟩) 1 1) [aO k]):=d (Own.strs (X:=(w1.alloc (L #[f ⟨(aO k).toArray⟩,A u (N:g),.int .i32 r] 116)).drew) ak [aO k] (by simp[maxLen]));have Xe:=d (av (av (Below.refl w1.heap.size w1) (L #[f ⟨(aO k).toArray⟩,A u (N:g),.int .i32 r] 116)).drew (L #[f ⟨(aO k).toArray⟩] 9));have fT:=d (((HRN.q.below HB1.q rfl).below Xe.q rfl).takeN (m:=N) (c':=nc) ah ah);have K5:Hid (w1.heap.size+1≤((w1.alloc (L #[f ⟨(aO k).toArray⟩,A u (N:g),.int .i32 r] 116)).drew.alloc (L #[f ⟨(aO k).toArray⟩] 9)).heap.size):=d ak;have YI:=d (cK.q.alloc (L #[f ⟨(aO k).toArray⟩,A u (N:g),.int .i32 r] 116));refine aK 9 [(0,0),(1,0),(3,0),(4,0),(5,0),(6,0),(7,0),(2,2),(8,2),(9,1)] (fun _=>True) (fun W'=>W'.cell? ⟨w.heap.size,1,P⟩=I (H (I ⟨nb,no,P⟩) (N+c) nc)∧W'.cell? ⟨w1.heap.size,0,P⟩=I (f ⟨(aO k).toArray⟩)∧W'.cell? ⟨w1.heap.size,1,P⟩=I (A u (N:g))) au au (trivial) (⟨YI.q.drew.1 1,HY.q.drew.1 0,HY.q.drew.1 1⟩) ?_;refine qC ?_;refine aF rfl rfl (fun K hK=>?_);go_simp;refine hK _ _ ⟨trivial,(YI.q.drew.alloc _).1 1,(HY.q.drew.alloc _).1 0,(HY.q.drew.alloc _).1 1⟩ ?_;clear hK K;refine aF rfl rfl (fun K hK=>?_);obtain⟨i,z,hi,hz,hsize,bP,hzs⟩:=oZ;refine nk _ _ 22 rfl i z 16 Tryz.underlying22 hi hz hsize bP hzs (v:= H (I ⟨w1.heap.size+1,0,P⟩) 1 1) rfl Lr.q (I ⟨nb,no,P⟩) N nc (1+N) (names.take N) rfl fT.q rfl (by have:=I6.q;omega) (by have:=I6.q;unfold maxLen;omega) K5.q ?_;intro a cc wx hown2 hg2 aiZ;have hx2:Bx wx w.heap.size #[A u (k:g),H (I ⟨nb,no,P⟩) (N+c) nc,A u lvl,H va vn vc,.bool lf,A u bits]:=(YI.q.drew.alloc _).grown hg2 (Lr.q.far' (.inl ah));have hy2:Bx wx w1.heap.size #[f ⟨(aO k).toArray⟩,A u (N:g),.int .i32 r]:=(HY.q.drew.alloc _).grown hg2 (Lr.q.far' (.inl ah));refine hK _ _ ⟨trivial,hx2.1 1,hy2.1 0,hy2.1 1⟩ ?_;clear hK K;obtain⟨D0,hD0⟩:∃D0:Array Value,D0=#[A u (k:g),H (I ⟨nb,no,P⟩) (N+c) nc,A u lvl,H va vn vc,.bool lf,A u bits]:=⟨_,rfl⟩;obtain⟨D1,hD1⟩:∃D1:Array Value,D1=#[f ⟨(aO k).toArray⟩,A u (N:g),.int .i32 r]:=⟨_,rfl⟩;rw[←hD0] at hx2;rw[←hD1] at hy2;have HT:Hid (pX w w1 D0 D1 wx a (1+N) cc ([aO k]++names.take N)):=d ⟨hx2,hy2,hown2,HB1.q.trans ((below_app (((Xe.q.mono (Nat.le_of_lt hlt')))) Lr.q ah (by have:=K5.q;omega) hg2)),by have:=hg2.size;have:=K5.q;omega⟩;clear hown2 hg2 aiZ hx2 hy2 hi hz hsize bP hzs;refine qC ?_;refine bB ?_;have HD0:=d hD0;have HD1:=d hD1;have wE:=d hlt';generalize hq:1+N=n at HT ⊢;have hn7:n≤3:=by have:=I6.q;omega
 have fH:=d hn7;obtain⟨R,hR⟩:∃R,R=r:=⟨_,rfl⟩;have HR:=d hR;rw[show uG r (names.drop N) aA c=uG R (names.drop N) aA c by rw[hR]] at YG;clear hq hn7 hR hD0 hD1 aiX hf1 hf2 hf3 HY Lr Xe fT K5 YI hlx hlt' aiY;have hcx:=HT.q.x.1;have hcy:=HT.q.y.1;rw[HD0.q] at hcx;rw[HD1.q] at hcy;rcases HC.q with rfl|rfl|rfl|rfl|rfl|rfl|rfl
 case' inl=>
  obtain⟨lw,rfl,l1,l4⟩:∃lw:O,lvl=(lw:g)∧1≤lw∧lw≤4:=by
   have h1:=aiW.q;have h2:=Fp.q;simp[dJ] at h1 h2;exact⟨lvl.toNat,by omega,by omega,by omega⟩
  go_wp2_with fail;refine(Gg lw l1 l4 _ (HG.q.below HT.q.b)).mono ?_;rintro e w3 ⟨rfl,hb3⟩
  replace HT:=d (HT.q.call hb3)
  clear hb3;have hcx:=HT.q.x.1;have hcy:=HT.q.y.1;rw[HD0.q] at hcx;rw[HD1.q] at hcy
  go_wp2_with (at_builtin;refine ou HT.q wE.q (by have:=fH.q;omega) rfl _ _ rfl rfl rfl ?_;intro a cc wx ht;replace HT:=d ht;clear ht;have hcx:=HT.q.x.1;have hcy:=HT.q.y.1;rw[HD0.q] at hcx;rw[HD1.q] at hcy)
  rw[show([fJ lw]:C Bs)=xE 108 (lw:g) aA bits lf from rfl] at HT;have HM:Hid (n+1≤7):=d (by have:=fH.q;omega)
 case' inr.inl=>
  obtain⟨t0,hvs⟩:∃t0,aA=[t0]:=List.length_eq_one_iff.1 (by have:=HA3.q;simp[jb] at this;omega);obtain rfl:vn=1:=by have:=YH.q.len;rw[hvs] at this;exact this.symm
  obtain⟨t1,vb,vo,hv0,rfl,Lu⟩:=YH.q.at_ (i:=0) aj;obtain rfl:t0=t1:=by rw[hvs] at hv0;simpa using hv0
  have hv1:=Lu 0 _ rfl;have hv2:=Lu 1 _ rfl;simp only[Nat.zero_mul,Z] at hv1 hv2;have hu1:=aM HT.q.b rfl hv1;have hu2:=aM HT.q.b rfl hv2;obtain⟨k0,k9,k1⟩:=Tf (HWV.q t0 (by rw[hvs];simp));have Aq:=d hvs;clear Lu hv1 hv2 hv0 hvs;go_wp2_with fail;refine(Hq t0 k0 k9 k1 _).mono ?_;rintro e w3 ⟨rfl,hb3⟩
  replace HT:=d (HT.q.call hb3)
  clear hb3;have hcx:=HT.q.x.1;have hcy:=HT.q.y.1;rw[HD0.q] at hcx;rw[HD1.q] at hcy
  go_wp2_with (at_builtin;refine ou HT.q wE.q (by have:=fH.q;omega) rfl _ _ rfl rfl rfl ?_;intro a cc wx ht;replace HT:=d ht;clear ht;have hcx:=HT.q.x.1;have hcy:=HT.q.y.1;rw[HD0.q] at hcx;rw[HD1.q] at hcy)
  rw[show([dm t0]:C Bs)=xE 118 lvl aA bits lf from by rw[Aq.q];rfl] at HT;have HM:Hid (n+1≤7):=d (by have:=fH.q;omega)
 case' inr.inr.inl=>
  obtain⟨bt,rfl,aeC⟩:∃b:O,bits=(b:g)∧b≤15:=by have:=HB3.q;simp at this;exact⟨bits.toNat,by omega,by omega⟩
  have hg0:=(HG.q.below HT.q.b).2.2.1;have hg1:=hg0 0 aj;have hg2:=hg0 1 aj;have hg3:=hg0 2 aj;have hg4:=hg0 3 aj;have hb1':=dS hg1;clear hg0;simp only[gB] at hg1 hg2 hg3 hg4;simp only at hb1';go_wp2_with fail
  go_loopw [6,67] (fun v i wr=>∃(j:O) (a0:Option Addr) (c0 m:O),j≤4∧m≤3+j∧v= H a0 m c0∧i= A u j∧pX w w1 D0 D1 wr a0 m c0 ([aO k]++names.take N++jA bt j)) (fun _ i _=>4 - (T i).toNat)
  case atStart=>exact⟨0,a,cc,n,J _,fH.q,rfl,rfl,by simpa[jA] using HT.q⟩
  case' round=>
   obtain⟨j,a,cc,m,hj,hm,rfl,rfl,TN⟩:=hrel
   replace HT:=d TN;clear TN
   clear hcx hcy;have hcx:=HT.q.x.1;have hcy:=HT.q.y.1;rw[HD0.q] at hcx;rw[HD1.q] at hcy;by_cases hlt2:j<4
   ·have hbit:=WE bt j aeC hlt2
    have hgs:=L8 bt j;have hix:=Xc j hlt2;have hsh:=Z5 bt j aeC hlt2;have AJ:=d hm;by_cases hp:(bt:g) / 2 ^ j % 2=1
    ·rw[if_pos hp] at hgs;rw[decide_eq_true hp] at hbit
     have SY:=d hgs;clear hp hgs
     go_wp2_with (at_builtin;refine ou HT.q wE.q (by have:=AJ.q;omega) rfl _ _ rfl rfl rfl ?_;intro a cc wx ht;replace HT:=d ht;clear ht;have hcx:=HT.q.x.1;have hcy:=HT.q.y.1;rw[HD0.q] at hcx;rw[HD1.q] at hcy)
     go_roundw
     case rel=>exact⟨j+1,a,cc,_,by omega,by omega,rfl,by go_num,by rw[SY.q,←G];exact HT.q⟩
     case measure=>simp[T];omega
    ·rw[if_neg hp,F] at hgs;rw[decide_eq_false hp] at hbit
     have SY:=d hgs;clear hp hgs;go_wp2_with fail;go_roundw
     case rel=>exact⟨j+1,a,cc,_,by omega,by omega,rfl,by go_num,by rw[SY.q];exact HT.q⟩
     case measure=>simp[T];omega
   have Rj:j=4:=by omega
   rw[Rj,show jA bt 4=xE 103 lvl aA bt lf from rfl] at HT;have HM:Hid (m≤7):=d ah;clear Rj hm;go_wp2_with fail
 case' inr.inr.inr.inl=>
  cases lf
  case' true=>
   go_wp2_with (at_builtin;refine ou HT.q wE.q (by have:=fH.q;omega) rfl _ _ rfl rfl rfl ?_;intro a cc wx ht;replace HT:=d ht;clear ht;have hcx:=HT.q.x.1;have hcy:=HT.q.y.1;rw[HD0.q] at hcx;rw[HD1.q] at hcy)
   rw[show([[45]]:C Bs)=xE 109 lvl aA bits true from rfl] at HT;have HM:Hid (n+1≤7):=d (by have:=fH.q;omega)
  case' false=>
   go_wp2_with fail;rw[show [aO k]++names.take N=[aO k]++names.take N++xE 109 lvl aA bits false from(F _).symm] at HT;have HM:Hid (n≤7):=d (by have:=fH.q;omega)
 case' inr.inr.inr.inr.inl=>
  go_wp2_with fail;rw[show [aO k]++names.take N=[aO k]++names.take N++xE 115 lvl aA bits lf from(F _).symm] at HT;have HM:Hid (n≤7):=d (by have:=fH.q;omega)
 case' inr.inr.inr.inr.inr.inl=>
  go_wp2_with fail;rw[show [aO k]++names.take N=[aO k]++names.take N++xE 116 lvl aA bits lf from(F _).symm] at HT;have HM:Hid (n≤7):=d (by have:=fH.q;omega)
 case' inr.inr.inr.inr.inr.inr=>
  go_wp2_with fail;rw[show [aO k]++names.take N=[aO k]++names.take N++xE 0 lvl aA bits lf from(F _).symm] at HT;have HM:Hid (n≤7):=d (by have:=fH.q;omega)
 all_goals
  generalize [aO k]++names.take N++xE _ _ _ _ _=W at HT YG
  go_loopw [6,91] (fun v i wr=>∃(j:O) (a0:Option Addr) (c0 m:O),j≤c∧m≤7+2*j∧v= H a0 m c0∧i= A u j∧pX w w1 D0 D1 wr a0 m c0 (W++uG R (names.drop N) aA j)) (fun _ i _=>c - (T i).toNat)
  case atStart=>exact⟨0,a,cc,_,J _,by have:=HM.q;omega,rfl,rfl,by rw[TL,F];exact HT.q⟩
  case round=>
   obtain⟨j,a,cc,m,hj,hm,rfl,rfl,TN⟩:=hrel
   replace HT:=d TN;clear TN hcx hcy
   have hcx:=HT.q.x.1;have hcy:=HT.q.y.1;rw[HD0.q] at hcx;rw[HD1.q] at hcy;have AJ:=d hm;by_cases hlt2:j<c
   ·obtain⟨s,b',o',hx,rfl,hxc⟩:=rT.q.at_ hlt2
    have hx1:=aM HT.q.b rfl (hxc 0 _ rfl);rw[Nat.mul_one,Z] at hx1;have M0:=d hx;clear hxc hx;have hj3:=jM.q
    try
     have IZ:vn=c:=by have h3:=HA3.q;have h4:=YH.q.len;have h5:=Gq.q;simp only[jb,Int.reduceEq,if_false,if_true] at h3;omega
     subst IZ;obtain⟨t0,vb,vo,hv0,rfl,Lu⟩:=YH.q.at_ (i:=j) ah;have hu1:=Lu 0 _ rfl;have hu2:=Lu 1 _ rfl;rw[Z] at hu1;obtain⟨k0,k9,k1⟩:=Tf (HWV.q t0 (List.mem_of_getElem? hv0));have HV0:=d hv0;have HUU:=d (And.intro hu1 hu2);clear Lu hv0 hu1 hu2
    go_wp2_with (at_builtin;refine ou HT.q wE.q (by have:=AJ.q;have:=jM.q;omega) rfl _ _ rfl rfl rfl ?_;intro a cc wx ht;replace HT:=d ht;clear ht;(try(have hu1:=aM HT.q.b rfl HUU.q.1;have hu2:=aM HT.q.b rfl HUU.q.2));have hcx:=HT.q.x.1;have hcy:=HT.q.y.1;rw[HD0.q] at hcx;rw[HD1.q] at hcy)
    try
     refine(Hq t0 k0 k9 k1 _).mono ?_;rintro e w3 ⟨rfl,hb3⟩
     replace HT:=d (HT.q.call hb3)
     clear hb3;have hcx:=HT.q.x.1;have hcy:=HT.q.y.1;rw[HD0.q] at hcx;rw[HD1.q] at hcy
     go_wp2_with (at_builtin;refine ou HT.q wE.q (by have:=AJ.q;have:=jM.q;omega) rfl _ _ rfl rfl rfl ?_;intro a cc wx ht;replace HT:=d ht;clear ht;have hcx:=HT.q.x.1;have hcy:=HT.q.y.1;rw[HD0.q] at hcx;rw[HD1.q] at hcy)
    go_roundw
    case rel=>exact⟨j+1,a,cc,_,by omega,by omega,rfl,by go_num,by
     first
     |(rw[Xa (by rw[HR.q];decide) M0.q,←G];exact HT.q)
     |(have:=HT.q;rw[HR.q] at this ⊢;rw[Xb M0.q HV0.q,←G,←G];exact this)⟩
    case measure=>simp[T];omega
   ·obtain rfl:j=c:=by omega
    go_wp2_with fail;have YJ:=HT.q;rw[←YG.q] at YJ;have hjl:=K8 _ HWL.q;have hln:=YJ.o.len;have hl1:=HWP.q;have hj3:=jM.q;have HJ:=d (Ww _ _ _ _ _ (YJ.o.row ah) ah HWL.q ah);have hNL:¬(9223372036854775807<(Lib.join WL [32]).length+1):=by omega
    clear hjl hln YJ hl1 hj3;refine HJ.q.mono ?_;rintro e w9 ⟨rfl,rO⟩;have Jm:=d (HT.q.b.trans (rO.mono HT.q.b.size));clear rO HJ;go_wp2_with fail
    go_ret2
    exact⟨congrArg (fun s=>Ending.returned (.tuple #[.string s,A u 0])) (KN _ _),Jm.q⟩
theorem Xd {w:World} {B:O} {l:aV} {s:aB} (h:fq w B l s) (hs:dh s) (hg:jY w):Calls S 26 #[gu l] w (pG (f ⟨(qc s).toArray⟩) (A u 0) w):=by
 have hk:=L9 hs;exact TM h s.kind.toNat ah ah (VF hs) hs.len.1 hs.len.2 hg
theorem Ij {w:World} {B:O} {l:aV} {s:aB} (h:fq w B l s) (hn:s.names.length≤1000) (hv:s.aA.length≤1000) (hg:jY w):
  Calls S 26 #[gu l] w (pG (f ⟨(if fo s=true then dP s else []).toArray⟩) (A u (if fo s=true then 0 else 220)) w):=by
 cases hb:fo s
 ·have hba:=av (Below.refl w.heap.size w) (L (gI l) 34)
  have xK:=d (qj (h.below hba) hn hv (hg.below hba));rw[hb] at xK;have HB:=d hba;clear h hn hv hg hb hba;go_enter Tryz.func26,Y;go_wp2_with fail;refine xK.q.mono ?_;rintro e w1 ⟨rfl,hb1⟩;have HB1:=d (HB.q.bq hb1);clear hb1;simp only[Bool.false_eq_true,if_false];go_wp2_with fail
  go_ret2
  exact⟨rfl,HB1.q⟩
 ·simp only[if_true]
  rcases uj hb with h0|hok
  ·have hba:=av (Below.refl w.heap.size w) (L (gI l) 34)
   have xK:=d (qj (h.below hba) hn hv (hg.below hba));rw[hb] at xK;have HB:=d hba;have HX:=d (Bx.new w (gI l) 34);have hk:l.kind=0:=by rw[h.1.1];exact h0
   have ht:dP s=[10]:=by unfold dP;rw[if_pos h0]
   rw[ht];clear h hn hv hg hb hba h0 ht;obtain⟨lk,na,nn,nc,lvl,va,vn,vc,lf,bits⟩:=l;simp only at hk;subst hk;go_enter Tryz.func26,Y;go_wp2_with fail;refine xK.q.mono ?_;rintro e w1 ⟨rfl,hb1⟩;have hx1:=(HX.q.keep hb1).1;have HB1:=d (HB.q.bq hb1);clear hb1;simp only[if_true];go_wp2_with fail
   go_ret2
   exact⟨rfl,HB1.q⟩
  ·have hk:s.kind≠0:=by
    intro h0;rcases hok.2.2 with⟨e,_⟩|⟨e,_⟩|⟨e,_⟩|⟨e,_⟩|⟨e,_⟩|⟨e,_⟩|⟨e,_⟩|⟨e,_⟩|⟨e,_⟩ <;> omega
   rw[show dP s=qc s by unfold dP;rw[if_neg hk]];exact Xd h hok hg
end Yd
