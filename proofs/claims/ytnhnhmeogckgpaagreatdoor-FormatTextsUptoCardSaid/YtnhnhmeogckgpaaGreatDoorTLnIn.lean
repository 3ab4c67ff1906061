import Derived.Test.YtnhnhmeogckgpaaGreatDoorTLawSt
import Derived.Test.YtnhnhmeogckgpaaGreatDoorTEqF
import Derived.Lib.AtoiAllCases
import Derived.Lib.AtoiErrMem
import Derived.Laws.RangeString
import Derived.Lib.MapLaws
import Derived.Test.YtnhnhmeogckgpaaGreatDoorTDrS
set_option linter.all false
set_option maxRecDepth 200000
set_option maxHeartbeats 8000000
namespace Yd
open Bool renaming and_eq_true→f
open Go Go.RowKit Go.Proofs
open Utf8 renaming decode→d
def yF (w:World) (l:aV) (s:aB):Prop:=
 (l.kind=s.kind∧l.lvl=s.lvl∧l.first=s.first∧l.bits=s.bits)∧Row w 1 encStr l.na l.nn l.nc s.names∧Row w 2 j3 l.va l.vn l.vc s.aA
theorem yF.below {w w':World} {l:aV} {s:aB} (h:yF w l s) (hb:Below w.heap.size w w'):yF w' l s:=⟨h.1,h.2.1.below hb rfl,h.2.2.below hb rfl⟩
theorem Row.M9 {α:Type} {enc:α→List Value} {w:World} {k:Nat} {a:Option Addr} {n c:Nat} {xs:List α} (h:Row w k enc a n c xs) (K:Nat):Row w k enc a (xs.take K).length c (xs.take K):=by
 obtain⟨h1,h2,h3,h4,h5⟩:=h;refine⟨rfl,by rw[List.length_take];omega,by rw[List.length_take];omega,h4,fun i x hx=>?_⟩;rw[List.getElem?_take] at hx
 split at hx
 ·exact h5 i x hx
 ·cases hx
def ES (acc:Nat) (l:Bs):Nat:=l.foldl (fun n c=>n*10+(c.toNat - 48)) acc
theorem Na:∀(l:Bs) (acc:Nat),acc≤ES acc l
 |[],_=>Nat.le_refl _
 |c::r,acc=>Nat.le_trans ah (Na r (acc*10+(c.toNat - 48)))
theorem CV:∀(l:Bs) (acc:Nat),(∀c∈l,fD c=true)→Lib.parseUint10 acc l= .ok (ES acc l)∨(Lib.parseUint10 acc l= .range∧1000000≤ES acc l)
 |[],_,_=> .inl rfl
 |c::r,acc,h=>by
  have hc:=h c ak;have hc':48≤c.toNat∧c.toNat≤57:=by
   unfold fD at hc;simp only[f,decide_eq_true_eq] at hc;exact hc
  have hg:=Na r (acc*10+(c.toNat - 48));unfold Lib.parseUint10;rw[if_pos hc']
  split
  ·exact .inr ⟨rfl,Nat.le_trans ah hg⟩
  ·split
   ·exact .inr ⟨rfl,Nat.le_trans ah hg⟩
   ·exact CV r _ (fun x hx=>h x (by simp[hx]))
theorem LY (l:Bs) (hne:l≠[]) (h:∀c∈l,fD c=true):Lib.atoiAll l= .ok (mR l:Int)∨(Lib.atoiAll l= .range∧1000000≤mR l):=by
 cases l with
 |nil=>exact absurd rfl hne
 |cons c r=>
  have hc:=h c ak;unfold fD at hc;simp only[f,decide_eq_true_eq] at hc;have h1:48≤c.toNat:=hc.1;unfold Lib.atoiAll;simp only[];rw[if_neg ah];unfold Lib.parseMag;rw[if_neg ak];have hv:mR (c::r)=ES 0 (c::r):=rfl;rcases CV (c::r) 0 h with e|⟨e,e2⟩
  ·rw[e]
   simp only[];by_cases hb:9223372036854775808≤ES 0 (c::r)
   ·rw[if_pos ⟨by omega,hb⟩];exact .inr ⟨rfl,by rw[hv];omega⟩
   ·rw[if_neg ah,if_neg ah,if_neg ah];exact .inl (by rw[hv])
  ·rw[e];exact .inr ⟨rfl,e2⟩
def vW (w:World):Prop:=∃ev,w.cell? ⟨9,0,none⟩=some ev∧(ev= .nilIface∨∃te pe,ev= .iface te pe)
theorem vW.below {w w':World} (h:vW w) (hb:Below w.heap.size w w'):vW w':=let⟨ev,h1,h2⟩:=h;⟨ev,aM hb rfl h1,h2⟩
theorem Zr (l:Bs) (hne:l≠[]) (h:∀c∈l,fD c=true) (hlim:l.length≤1000000) (w:World) (hE:vW w):
  Calls Tryz.prog 247 #[.string ⟨l.toArray⟩] w fun e w'=>∃(k:Int) (er:Value),e= .returned (.tuple #[.int .i64 k,er])∧Below w.heap.size w w'∧((er= .nilIface∧k=(mR l:Int)∧mR l≤9223372036854775807)∨(999<mR l∧∃T p,er= .iface T p)):=by
 obtain⟨ev,hv,hev⟩:=hE;rcases LY l hne h with e|⟨e,e2⟩
 ·refine(Tryz.strconv_Atoi_ok ⟨l.toArray⟩ (by rw[dR];omega) (mR l) e w).mono ?_
  rintro e w' ⟨rfl,hw⟩;refine⟨_,_,rfl,?_,.inl ⟨rfl,rfl,?_⟩⟩
  ·rcases hw with rfl|⟨t,rfl⟩
   ·exact Below.refl _ _
   ·exact Lib.bytesWorld_below _ _ _
  ·have:=(Lib.atoiAll_bounds e).2;omega
 ·refine(Tryz.strconv_Atoi_range ⟨l.toArray⟩ (by rw[dR];omega) e ev w hv hev).mono ?_
  rintro e w' ⟨N,rfl,_,_,hb⟩;exact⟨_,_,rfl,hb,.inr ⟨by omega,_,_,rfl⟩⟩
theorem aik (a b c:UInt8) (r:List UInt8):ByteArray.extract ⟨⟨a::b::c::r⟩⟩ 0 3=⟨#[a,b,c]⟩:=by
 apply ByteArray.ext
 simp[ByteArray.data_extract]
theorem ahH (s:ByteArray) (h3:3≤s.size) (hr:(d s 0).1=65533):(d s 0).2=3↔s.extract 0 3=⟨#[239,191,189]⟩:=by
 obtain⟨⟨l⟩⟩:=s
 match l,h3 with
 |a::b::c::r,_=>
  have ha:ByteArray.get! ⟨⟨a::b::c::r⟩⟩ (0+0)=a:=rfl;have hb:ByteArray.get! ⟨⟨a::b::c::r⟩⟩ (0+1)=b:=rfl;have hc:ByteArray.get! ⟨⟨a::b::c::r⟩⟩ (0+2)=c:=rfl;have k0:=a.toNat_lt;have k1:=b.toNat_lt;have k2:=c.toNat_lt;have hsz:ByteArray.size ⟨⟨a::b::c::r⟩⟩=r.length+3:=rfl;rw[aik];have hiff:((⟨#[a,b,c]⟩:ByteArray)=⟨#[239,191,189]⟩)↔(a.toNat=239∧b.toNat=191∧c.toNat=189):=by
   constructor
   ·intro h
    injection h with h;simp at h;obtain⟨rfl,rfl,rfl⟩:=h
    decide
   ·rintro⟨h1,h2,h3⟩
    have e1:a=239:=UInt8.toNat_inj.1 h1;have e2:b=191:=UInt8.toNat_inj.1 h2;have e3:c=189:=UInt8.toNat_inj.1 h3;rw[e1,e2,e3]
  rw[hiff]
  constructor
  ·intro h
   unfold d at h hr;simp only[ha,hb,hc] at h hr
   split at h
   ·simp at h
   rename_i g0
   rw[if_neg g0] at hr
   split at h
   ·split at h <;> simp at h
   rename_i g1
   rw[if_neg g1] at hr
   split at h
   ·rename_i g2
    rw[if_pos g2] at hr
    split at h
    ·rename_i g3
     rw[if_pos g3] at hr;simp only[f,decide_eq_true_eq,beq_iff_eq] at g2 hr;omega
    ·simp at h
   rename_i g2
   split at h
   ·split at h <;> simp at h
   ·simp at h
  ·rintro⟨h1,h2,h3⟩
   unfold d;simp only[ha,hb,hc,h1,h2,h3,hsz];simp[Utf8.valid]
attribute [local go_sem] Oper.semAt_some
def acH (s:ByteArray):Int:=if 0<s.size then(if okB s 0=true then((d s 0).1:Int) else -1) else -1
def okR (s:ByteArray) (pos:Nat):Bool:=okB s pos && (iO ((d s pos).1:Int)||(!decide (pos=0) && iY ((d s pos).1:Int)))
def rW (s:ByteArray):Nat→Nat→Bool
 |0,_=>true
 |n+1,pos=>if pos<s.size then okR s pos && rW s n (pos+(d s pos).2) else true
end Yd
namespace Yd
open Bool renaming and_eq_true→A,true→K
open List renaming prefix_append→H,append_nil→I,mem_singleton→O,mem_append_left→R,append_assoc→U,mem_append→V,mem_cons_of_mem→Z
open Go Go.RowKit Go.Proofs Tryz
open _root_ renaming Int→C,List→G,decide_eq_true_eq→J,if_pos→L,if_neg→N
theorem ET (c:Nat) (hc:c≤1114111) (hs:¬(55296≤c∧c≤57343)):Utf8.encode (c:C)=⟨(Lib.encodeRune (c:C)).toArray⟩:=by
 have hv:Utf8.valid (c:C)=K:=by simp[Utf8.valid];omega
 unfold Utf8.encode Lib.encodeRune;simp only[hv,if_true,Int.toNat_natCast];have hb:∀(z:C) (n:Nat),z=(n:C)→z.toNat.toUInt8=UInt8.ofNat n:=fun z n h=>by subst h;simp
 by_cases h1:c<128
 ·rw[L h1,Lib.encodeRuneZ_one ah ah]
  simp only[List.map_cons,List.map_nil,hb _ c rfl]
 rw[N h1];by_cases h2:c<2048
 ·rw[L h2,Lib.encodeRuneZ_two ah ah]
  simp only[List.map_cons,List.map_nil,hb (192+(c:C) / 64) (192+c / 64) ah,hb (128+(c:C) % 64) (128+c % 64) ah]
 rw[N h2];by_cases h3:c<65536
 ·rw[L h3,Lib.encodeRuneZ_three ah]
  simp only[List.map_cons,List.map_nil,hb (224+(c:C) / 4096) (224+c / 4096) ah,hb (128+(c:C) / 64 % 64) (128+c / 64 % 64) ah,hb (128+(c:C) % 64) (128+c % 64) ah]
 ·rw[N h3,Lib.encodeRuneZ_four ah ah]
  simp only[List.map_cons,List.map_nil,hb (240+(c:C) / 262144) (240+c / 262144) ah,hb (128+(c:C) / 4096 % 64) (128+c / 4096 % 64) ah,hb (128+(c:C) / 64 % 64) (128+c / 64 % 64) ah,hb (128+(c:C) % 64) (128+c % 64) ah]
theorem RS {l:Bs} (h:okB ⟨l.toArray⟩ 0=K):¬((Utf8.decode ⟨l.toArray⟩ 0).1=65533∧(Utf8.decode ⟨l.toArray⟩ 0).2=1):=by
 rintro⟨h1,h2⟩;unfold okB at h;rw[h1,h2] at h;simp at h
theorem OC (l:Bs) (hne:l≠[]) (h:okB ⟨l.toArray⟩ 0=K):
  Utf8.encode ((Utf8.decode ⟨l.toArray⟩ 0).1:C)=⟨(l.take (Utf8.decode ⟨l.toArray⟩ 0).2).toArray⟩∧Utf8.decode ⟨(l.take (Utf8.decode ⟨l.toArray⟩ 0).2).toArray⟩ 0=Utf8.decode ⟨l.toArray⟩ 0∧(Utf8.decode ⟨l.toArray⟩ 0).2≤4:=by
 have hl:0<l.length:=List.length_pos_iff.2 hne;have hle:=sO l hne;have he:=Lib.encode_decode l hne (RS h);have hd:Utf8.decode ⟨l.toArray⟩ 0=Lib.decodeL l:=rfl;have hd2:∀u:Bs,Utf8.decode ⟨u.toArray⟩ 0=Lib.decodeL u:=fun _=>rfl
 have hg:∀(n k:Nat),k<n→(l.take n).getD k 0=l.getD k 0:=fun n k h=>by simp[List.getD,h]
 have hok:=RS h;rw[hd] at hle hok ⊢;rw[hd2];rw[Lib.decodeL_N (l.take _)];have hN:=Lib.decodeL_N l;rcases Lib.decodeN_shape l.length (l.getD 0 0).toNat (l.getD 1 0).toNat (l.getD 2 0).toNat (l.getD 3 0).toNat with⟨c,e⟩|⟨c1,c2,c3,cv,e⟩|⟨c1,c2,c3,c4,cv,cs,e⟩|⟨c1,c2,c3,c4,c5,cv,cw,e⟩|e
 ·rw[e] at hN
  rw[hN] at hle he ⊢;refine⟨by rw[ET _ (by simp only[];omega) (by simp only[];omega),he],?_,by simp⟩;simp only[List.length_take];rw[hg 1 0 ah];unfold Lib.decodeN;rw[L c]
 ·rw[e] at hN
  rw[hN] at hle he ⊢;simp only at hle;refine⟨by rw[ET _ (by simp only[];omega) (by simp only[];omega),he],?_,by simp⟩;simp only[List.length_take];rw[hg 2 0 ah,hg 2 1 ah,Nat.min_eq_left ah];unfold Lib.decodeN;rw[N ah,L ⟨c1,by omega,c3⟩,L ah]
 ·rw[e] at hN
  rw[hN] at hle he ⊢;simp only at hle;refine⟨by rw[ET _ (by simp only[];omega) (by simp only[];omega),he],?_,by simp⟩;simp only[List.length_take];rw[hg 3 0 ah,hg 3 1 ah,hg 3 2 ah,Nat.min_eq_left ah];unfold Lib.decodeN;rw[N ah,N ah,L ⟨c1,⟨by omega,c3⟩,⟨by omega,c4⟩⟩,L ah]
 ·rw[e] at hN
  rw[hN] at hle he ⊢;simp only at hle;refine⟨by rw[ET _ (by simp only[];omega) (by simp only[];omega),he],?_,by simp⟩;simp only[List.length_take];rw[hg 4 0 ah,hg 4 1 ah,hg 4 2 ah,hg 4 3 ah,Nat.min_eq_left ah];unfold Lib.decodeN;rw[N ah,N ah,N ah,L ⟨c1,⟨by omega,c3⟩,⟨by omega,c4⟩,⟨by omega,c5⟩⟩,L ah]
 ·exfalso
  rw[e] at hN;exact hok (by rw[hN];exact⟨rfl,rfl⟩)
def toB (t:To):Bool:=if t.k=0 then decide (t=⟨[],0⟩) else aU ⟨t.name.toArray⟩ && (decide (0<t.k) && decide (t.k≤999))
theorem RU (t:To):toB t=K↔gZ t:=by
 unfold toB gZ;by_cases h:t.k=0
 ·rw[L h]
  simp only[J];exact⟨.inl,fun k=>k.elim id fun k=>by omega⟩
 ·rw[N h]
  simp only[A,J];exact⟨.inr,fun k=>k.elim (fun k=>absurd (by rw[k]) h) id⟩
def jb (r more:C):C:=if r=118 then 1 else if r=115 then more else 0
def uJ (k:Nat) (s:aB):Bool:=
 (decide (bA k≤(s.names.length:C)) && decide ((s.names.length:C) - bA k≤fE (bH k)) && decide ((s.aA.length:C)=jb (bH k) ((s.names.length:C) - bA k)) && s.aA.all toB)
 && s.names.all (fun x=>aU ⟨x.toArray⟩)
 && (((bH k==108)==(s.lvl !=0)) && (!s.first||bH k==109) && (s.bits==0||(bH k==103 && (decide (0<s.bits) && decide (s.bits≤15)))))
 && (s.lvl==0||dJ s.lvl)
def fo (s:aB):Bool:=decide (0≤s.kind) && decide (s.kind<10) && uJ s.kind.toNat s
theorem Zt (t:To) (w:World) (hT:Lib.Utf8Tabs 6 7 w):Calls Tryz.prog 92 #[qQ t] w (aW (.bool (toB t)) w):=by
 obtain⟨n,k⟩:=t;have hq:=Jo ⟨n,k⟩ ⟨[],0⟩;by_cases h0:k=0
 ·subst h0
  have hb:toB ⟨n,0⟩=decide ((⟨n,0⟩:To)=⟨[],0⟩):=by unfold toB;rw[L rfl]
  rw[hb];clear hb hT;go_enter func92,ntmps92;go_wp2_with fail;go_ret;exact⟨by simp,av (Below.refl _ _) _⟩
 ·have hb0:=av (Below.refl w.heap.size w) (.cells #[.string ⟨n.toArray⟩,.int .i64 k] 76)
  have HW:=hid (yD n _ (Utf8Tabs_below hT hb0));have HB:=hid hb0;have HX:=hid (Bx.new w #[.string ⟨n.toArray⟩,.int .i64 k] 76);have hk:(k==0)=false:=beq_eq_false_iff_ne.2 h0;have hB:toB ⟨n,k⟩=(aU ⟨n.toArray⟩ && (decide (0<k) && decide (k≤999))):=by unfold toB;rw[N h0]
  rw[hB];clear hT hb0 h0 hB hq
  cases hw:aU ⟨n.toArray⟩
  ·rw[hw] at HW
   clear hw;go_enter func92,ntmps92;go_wp2_with fail;refine HW.q.mono ?_;rintro e w1 ⟨rfl,hb1⟩;have HB1:=hid (HB.q.bq hb1);clear hb1;simp only[Bool.false_eq_true,if_false];go_wp2_with fail;go_ret;exact⟨rfl,HB1.q⟩
  ·rw[hw] at HW
   clear hw
   cases h1:decide (0<k)
   ·go_enter func92,ntmps92
    go_wp2_with fail;refine HW.q.mono ?_;rintro e w1 ⟨rfl,hb1⟩;have hx:=(HX.q.keep hb1).1;have HB1:=hid (HB.q.bq hb1);clear hb1;simp only[if_true];go_wp2_with fail;go_ret;exact⟨rfl,HB1.q⟩
   ·cases h2:decide (k≤999)
    all_goals
     go_enter func92,ntmps92;go_wp2_with fail;refine HW.q.mono ?_;rintro e w1 ⟨rfl,hb1⟩;have hx:=(HX.q.keep hb1).1;have HB1:=hid (HB.q.bq hb1);clear hb1;simp only[if_true];go_wp2_with fail;go_ret;exact⟨rfl,HB1.q⟩
theorem Pg (t:To) (w:World) (hT:Lib.Utf8Tabs 6 7 w):Calls Tryz.prog 91 #[qQ t] w (aW (.bool (!toB t)) w):=by
 have hb0:=av (Below.refl w.heap.size w) (.cells (Mt t) 76);have HW:=hid (Zt t _ (Utf8Tabs_below hT hb0));have HB:=hid hb0;clear hT hb0;go_enter func91,ntmps91;go_wp2_with fail;refine HW.q.mono ?_;rintro e w1 ⟨rfl,hb1⟩;have HB1:=hid (HB.q.bq hb1);clear hb1;go_wp2_with fail;go_ret;exact⟨rfl,HB1.q⟩
theorem RV (l:C) (w:World) (hg:jY w):Calls Tryz.prog 58 #[.int .i64 l] w (fun e w'=>(∃t:Bs,e= .returned (.tuple #[.string ⟨t.toArray⟩,.int .i64 (if dJ l=K then 0 else 190)]))∧Below w.heap.size w w'):=by
 cases hb:dJ l
 ·have HL:=hid (Bb hb)
  clear hb hg;go_enter func58,ntmps58;go_wp2_with fail;refine(yB _ _).mono ?_;rintro e w1 ⟨rfl,hb1⟩;rw[HL.q];have HB:=hid hb1;clear hb1;go_wp2_with fail
  go_ret2
  exact⟨⟨[],rfl⟩,HB.q⟩
 ·have h:=hb
  simp only[dJ,A,J] at h;obtain⟨n,rfl⟩:∃n:Nat,l=(n:C):=⟨l.toNat,by omega⟩;refine(Gg n ah ah w hg).mono ?_;rintro e w1 ⟨rfl,hb1⟩;exact⟨⟨_,rfl⟩,hb1⟩
theorem fq.VE {w:World} {B:Nat} {l:aV} {s:aB} (h:fq w B l s) (hn:s.names.length≤1000000) (hT:Lib.Utf8Tabs 6 7 w):
  Calls Tryz.prog 93 #[.slice l.na l.nn l.nc,.func (.func 94) #[] #[]] w (aW (.bool (!s.names.all (fun x=>aU ⟨x.toArray⟩))) w):=by
 have:=Ms l.na l.nn l.nc 94 #[] s.names (fun s=>!aU ⟨s.toArray⟩) w (h.2.1.row ah) Nb (fun x _ W hb=>by simpa using EC x W (Utf8Tabs_below hT hb))
 rwa[show s.names.any (fun s=>!aU ⟨s.toArray⟩)=!s.names.all (fun x=>aU ⟨x.toArray⟩) by simp[List.any_eq_not_all_not]] at this
theorem fq.Zu {w:World} {B:Nat} {l:aV} {s:aB} (h:fq w B l s) (hn:s.aA.length≤1000000) (hT:Lib.Utf8Tabs 6 7 w):
  Calls Tryz.prog 90 #[.slice l.va l.vn l.vc,.func (.func 91) #[] #[]] w (aW (.bool (!s.aA.all toB)) w):=by
 have:=QE l.va l.vn l.vc 91 #[] s.aA (fun t=>!toB t) w (h.2.2.row ah) Nc (fun x hx W hb=>by simpa using Pg x W (Utf8Tabs_below hT hb))
 rwa[show s.aA.any (fun t=>!toB t)=!s.aA.all toB by simp[List.any_eq_not_all_not]] at this
theorem Nf {vs:G To} (h:vs.all toB=K):∀t∈vs,gZ t:=fun t ht=>(RU t).1 (List.all_eq_true.1 h t ht)
theorem uj {s:aB} (h:fo s=K):s.kind=0∨dh s:=by
 obtain⟨kd,names,lvl,aA,first,bits⟩:=s;unfold fo uJ at h;simp only[A,J] at h;obtain⟨⟨h0,h10⟩,⟨⟨⟨⟨⟨a1,a2⟩,a3⟩,a4⟩,a5⟩,⟨b1,b2⟩,b3⟩,c⟩:=h;obtain⟨k,rfl⟩:∃k:Nat,kd=(k:C):=⟨kd.toNat,by omega⟩;simp only[Int.toNat_natCast] at a1 a2 a3 b1 b2 b3;have hw:∀x∈names,aU ⟨x.toArray⟩=K:=List.all_eq_true.1 a5;have ht:=Nf a4;have hv0:(aA.length:C)=0→aA=[]:=fun h=>List.eq_nil_of_length_eq_zero ah
 have xY:∀(r:C),(bits==0||(r==103 && (decide (0<bits) && decide (bits≤15))))=K→r≠103→bits=0:=fun r h hr=>by
  rw[beq_eq_false_iff_ne.2 hr] at h;simpa using h
 have Bz:∀(r:C),(!first||r==109)=K→r≠109→first=false:=fun r h hr=>by
  rw[beq_eq_false_iff_ne.2 hr] at h;simpa using h
 have BA:∀(r:C),((r==108)==(lvl !=0))=K→r≠108→lvl=0:=fun r h hr=>by
  rw[beq_eq_false_iff_ne.2 hr] at h;simpa using h
 rcases(by omega:k=0∨k=1∨k=2∨k=3∨k=4∨k=5∨k=6∨k=7∨k=8∨k=9) with rfl|rfl|rfl|rfl|rfl|rfl|rfl|rfl|rfl|rfl
 ·exact .inl rfl
 ·right
  simp only[bA,bH,jb,fE,Int.reduceEq,if_false,or_self] at a1 a2 a3 b1 b2 b3;have hl:lvl≠0:=by simpa using b1
  have hc:dJ lvl=K:=by
   rw[beq_eq_false_iff_ne.2 hl] at c;simpa using c
  simp only[dJ,A,J] at hc;exact⟨hw,ht,.inl ⟨rfl,by show names.length=2;omega,hv0 a3,⟨lvl.toNat,by show lvl=_;omega,by omega,by omega⟩,Bz _ b2 aj,xY _ b3 aj⟩⟩
 ·right
  simp only[bA,bH,jb,fE,Int.reduceEq,if_false,or_self] at a1 a2 a3 b1 b2 b3;exact⟨hw,ht,.inr (.inl ⟨rfl,by show names.length=2;omega,hv0 a3,BA _ b1 aj,Bz _ b2 aj,xY _ b3 aj⟩)⟩
 ·right
  simp only[bA,bH,jb,fE,Int.reduceEq,if_false,if_true,or_self] at a1 a2 a3 b1 b2 b3;exact⟨hw,ht,.inr (.inr (.inl ⟨rfl,by show names.length=2;omega,by show aA.length=1;omega,BA _ b1 aj,Bz _ b2 aj,xY _ b3 aj⟩))⟩
 ·right
  simp only[bA,bH,jb,fE,Int.reduceEq,if_false,if_true,or_self] at a1 a2 a3 b1 b2 b3;exact⟨hw,ht,.inr (.inr (.inr (.inl ⟨rfl,⟨names.length - 2,by show names.length=_;omega,by show aA.length=_;omega,by omega⟩,trivial,BA _ b1 aj,Bz _ b2 aj,xY _ b3 aj⟩)))⟩
 ·right
  simp only[bA,bH,jb,fE,Int.reduceEq,if_false,or_self] at a1 a2 a3 b1 b2 b3;exact⟨hw,ht,.inr (.inr (.inr (.inr (.inl ⟨rfl,by show names.length=1;omega,hv0 a3,BA _ b1 aj,Bz _ b2 aj,xY _ b3 aj⟩))))⟩
 ·right
  simp only[bA,bH,jb,fE,Int.reduceEq,if_false,or_self] at a1 a2 a3 b1 b2 b3;exact⟨hw,ht,.inr (.inr (.inr (.inr (.inr (.inl ⟨rfl,by show names.length=1;omega,hv0 a3,BA _ b1 aj,Bz _ b2 aj,xY _ b3 aj⟩)))))⟩
 ·right
  simp only[bA,bH,jb,fE,Int.reduceEq,if_false,if_true,or_false] at a1 a2 a3 b1 b2 b3;exact⟨hw,ht,.inr (.inr (.inr (.inr (.inr (.inr (.inl ⟨rfl,⟨names.length - 1,by show names.length=_;omega,by omega⟩,hv0 a3,BA _ b1 aj,Bz _ b2 aj,xY _ b3 aj⟩))))))⟩
 ·right
  simp only[bA,bH,jb,fE,Int.reduceEq,if_false,if_true,or_true] at a1 a2 a3 b1 b2 b3;exact⟨hw,ht,.inr (.inr (.inr (.inr (.inr (.inr (.inr (.inl ⟨rfl,⟨names.length - 2,by show names.length=_;omega,by omega⟩,hv0 a3,BA _ b1 aj,trivial,xY _ b3 aj⟩)))))))⟩
 ·right
  simp only[bA,bH,jb,fE,Int.reduceEq,if_false,or_self] at a1 a2 a3 b1 b2 b3;have hb:∃b:Nat,bits=b∧b≤15:=by
   by_cases h0:bits=0
   ·exact⟨0,h0,by omega⟩
   ·rw[beq_eq_false_iff_ne.2 h0] at b3
    simp at b3;exact⟨bits.toNat,by omega,by omega⟩
  exact⟨hw,ht,.inr (.inr (.inr (.inr (.inr (.inr (.inr (.inr ⟨rfl,by show names.length=1;omega,hv0 a3,BA _ b1 aj,Bz _ b2 aj,hb⟩)))))))⟩
theorem VF {s:aB} (hs:dh s):fo s=K:=by
 obtain⟨kd,ns,lv,vs,fi,bt⟩:=s;obtain⟨hw,hv,hc⟩:=hs;simp only at hw hv hc;have hA:ns.all (fun x=>aU ⟨x.toArray⟩)=K:=List.all_eq_true.2 hw;have hB:vs.all toB=K:=List.all_eq_true.2 (fun t ht=>(RU t).2 (hv t ht));unfold fo uJ;rw[hA,hB];rcases hc with⟨rfl,hl,rfl,⟨lw,rfl,h1,h4⟩,rfl,rfl⟩|⟨rfl,hl,rfl,rfl,rfl,rfl⟩|⟨rfl,hl,hvl,rfl,rfl,rfl⟩|⟨rfl,⟨cc,hl,hvl,hcc⟩,_,rfl,rfl,rfl⟩|⟨rfl,hl,rfl,rfl,rfl,rfl⟩|⟨rfl,hl,rfl,rfl,rfl,rfl⟩|⟨rfl,⟨cc,hl,hcc⟩,rfl,rfl,rfl,rfl⟩|⟨rfl,⟨cc,hl,hcc⟩,rfl,rfl,_,rfl⟩|⟨rfl,hl,rfl,rfl,rfl,⟨bb,rfl,hbb⟩⟩
 ·have:lw=1∨lw=2∨lw=3∨lw=4:=by omega
  rcases this with rfl|rfl|rfl|rfl <;> simp[bA,bH,fE,jb,hl,dJ]
 ·simp[bA,bH,fE,jb,hl,dJ]
 ·simp[bA,bH,fE,jb,hl,hvl,dJ]
 ·simp[bA,bH,fE,jb,hl,hvl,dJ];omega
 ·simp[bA,bH,fE,jb,hl,dJ]
 ·simp[bA,bH,fE,jb,hl,dJ]
 ·simp[bA,bH,fE,jb,hl,dJ];omega
 ·simp[bA,bH,fE,jb,hl,dJ];omega
 ·simp[bA,bH,fE,jb,hl,dJ];omega
def dP (s:aB):Bs:=if s.kind=0 then [10] else qc s
def Cont.put (c:Cont) (i:Nat) (s:Bs):Cont:={c with nl:=fun j=>if j=i then bM (c.nl i) s else c.nl j}
def Cont.no (c:Cont) (i:Nat) (s:Bs):C:=(nV (c.nl i) s:C)
def Cont.bG (c:Cont) (v:To):Cont × lg:=if v.k=0 then(c,⟨0,0⟩) else(c.put 0 v.name,⟨c.no 0 v.name,v.k⟩)
def Cont.ts (c:Cont):G Bs→Cont × G C
 |[]=>(c,[])
 |s::r=>(((c.put 0 s).ts r).1,c.no 0 s::((c.put 0 s).ts r).2)
def Cont.sc (c:Cont):G (Bs × To)→Cont × G Sn
 |[]=>(c,[])
 |p::r=>((((c.put 2 p.1).bG p.2).1.sc r).1,⟨c.no 2 p.1,((c.put 2 p.1).bG p.2).2⟩::(((c.put 2 p.1).bG p.2).1.sc r).2)
@[reducible] def Ar:EvC:=⟨0,0,0,0,0,⟨0,0⟩,0,none,0,0⟩
def Cont.ev (c:Cont) (e:EvC) (s:G Sn):Cont:={c with E:=c.E++[e],SE:=c.SE++[s]}
def fK (E:G EvC) (t x:C):Nat:=E.countP (fun e=>e.kind==2 && (e.t==t && e.obj==x))
def aG (c:Cont) (l:aB):Cont:=
 let n0:=l.names.getD 0 []
 let n1:=l.names.getD 1 []
 if l.kind=1 then((c.put 0 n0).put 1 n1).ev {Ar with kind:=1,t:=c.no 0 n0,bU:=(c.put 0 n0).no 1 n1,lvl:=l.lvl} []
 else if l.kind=2 then((c.put 0 n0).put 2 n1).ev {Ar with kind:=2,t:=c.no 0 n0,obj:=(c.put 0 n0).no 2 n1,v:=⟨c.no 0 n0,(fK c.E (c.no 0 n0) ((c.put 0 n0).no 2 n1):C)+1⟩} []
 else if l.kind=3 then(((c.put 0 n0).put 2 n1).bG (l.aA.getD 0 ⟨[],0⟩)).1.ev {Ar with kind:=3,t:=c.no 0 n0,obj:=(c.put 0 n0).no 2 n1,v:=(((c.put 0 n0).put 2 n1).bG (l.aA.getD 0 ⟨[],0⟩)).2} []
 else if l.kind=4 then(((c.put 0 n0).put 3 n1).sc ((l.names.drop 2).zip l.aA)).1.ev {Ar with kind:=4,t:=c.no 0 n0,pred:=(c.put 0 n0).no 3 n1} (((c.put 0 n0).put 3 n1).sc ((l.names.drop 2).zip l.aA)).2
 else if l.kind=5∨l.kind=6 then(c.put 0 n0).ev {Ar with kind:=l.kind,t:=c.no 0 n0} []
 else if l.kind=7 then {((c.put 2 n0).ts (l.names.drop 1)).1 with D:=c.D++[⟨c.no 2 n0,none,0,0⟩],SD:=c.SD++[((c.put 2 n0).ts (l.names.drop 1)).2]}
 else if l.kind=8 then {(((c.put 3 n0).put 2 n1).ts (l.names.drop 2)).1 with M:=c.M++[⟨c.no 3 n0,(c.put 3 n0).no 2 n1,l.first,none,0,0⟩],SM:=c.SM++[(((c.put 3 n0).put 2 n1).ts (l.names.drop 2)).2]}
 else if l.kind=9 then {c.put 1 n0 with Q:=c.Q++[⟨c.no 1 n0,l.bits⟩]}
 else c
def aD (c:Cont):Prop:=(∀i,i<4→(c.nl i).length≤jd i)∧c.E.length≤3000∧c.D.length≤3000∧c.M.length≤3000∧c.Q.length≤3000∧∀e∈c.E,e.kind=2→e.v.k≤999
structure Gr (c z:Cont):Prop where
 n:∀i,c.nl i<+:z.nl i
 e:c.E<+:z.E
 d:c.D<+:z.D
 m:c.M<+:z.M
 q:c.Q<+:z.Q
theorem Gr.refl (c:Cont):Gr c c:=⟨fun _=>List.prefix_refl _,List.prefix_refl _,List.prefix_refl _,List.prefix_refl _,List.prefix_refl _⟩
theorem Gr.trans {a b c:Cont} (h:Gr a b) (k:Gr b c):Gr a c:=⟨fun i=>(h.n i).trans (k.n i),h.e.trans k.e,h.d.trans k.d,h.m.trans k.m,h.q.trans k.q⟩
theorem Gr.fits {c d:Cont} (h:Gr c d) (k:aD d):aD c:=
 ⟨fun i hi=>Nat.le_trans (h.n i).length_le (k.1 i hi),Nat.le_trans h.e.length_le k.2.1,Nat.le_trans h.d.length_le k.2.2.1,Nat.le_trans h.m.length_le k.2.2.2.1,Nat.le_trans h.q.length_le k.2.2.2.2.1,fun e he=>k.2.2.2.2.2 e (h.e.subset he)⟩
theorem Gr.put (c:Cont) (i:Nat) (s:Bs):Gr c (c.put i s):=
 ⟨fun j=>by
  show c.nl j<+:(if j=i then bM (c.nl i) s else c.nl j)
  split
  ·rename_i h;subst h;exact DT _ _
  ·exact List.prefix_refl _,List.prefix_refl _,List.prefix_refl _,List.prefix_refl _,List.prefix_refl _⟩
theorem Gr.bG (c:Cont) (v:To):Gr c (c.bG v).1:=by
 unfold Cont.bG
 split
 ·exact Gr.refl c
 ·exact Gr.put c 0 v.name
theorem Gr.ts:∀(l:G Bs) (c:Cont),Gr c (c.ts l).1
 |[],c=>Gr.refl c
 |s::r,c=>(Gr.put c 0 s).trans (Gr.ts r _)
theorem Gr.sc:∀(l:G (Bs × To)) (c:Cont),Gr c (c.sc l).1
 |[],c=>Gr.refl c
 |p::r,c=>((Gr.put c 2 p.1).trans (Gr.bG _ p.2)).trans (Gr.sc r _)
theorem Gr.ev (c:Cont) (e:EvC) (s:G Sn):Gr c (c.ev e s):=⟨fun _=>List.prefix_refl _,H _ _,List.prefix_refl _,List.prefix_refl _,List.prefix_refl _⟩
structure Nm (c z:Cont):Prop where
 e:z.E=c.E
 se:z.SE=c.SE
 d:z.D=c.D
 sd:z.SD=c.SD
 m:z.M=c.M
 sm:z.SM=c.SM
 q:z.Q=c.Q
theorem Nm.refl (c:Cont):Nm c c:=⟨rfl,rfl,rfl,rfl,rfl,rfl,rfl⟩
theorem Nm.trans {a b c:Cont} (h:Nm a b) (k:Nm b c):Nm a c:=⟨k.e.trans h.e,k.se.trans h.se,k.d.trans h.d,k.sd.trans h.sd,k.m.trans h.m,k.sm.trans h.sm,k.q.trans h.q⟩
theorem Nm.put (c:Cont) (i:Nat) (s:Bs):Nm c (c.put i s):=⟨rfl,rfl,rfl,rfl,rfl,rfl,rfl⟩
theorem Nm.bG (c:Cont) (v:To):Nm c (c.bG v).1:=by
 unfold Cont.bG
 split
 ·exact Nm.refl c
 ·exact Nm.put c 0 v.name
theorem Nm.ts:∀(l:G Bs) (c:Cont),Nm c (c.ts l).1
 |[],c=>Nm.refl c
 |s::r,c=>(Nm.put c 0 s).trans (Nm.ts r _)
theorem Nm.sc:∀(l:G (Bs × To)) (c:Cont),Nm c (c.sc l).1
 |[],c=>Nm.refl c
 |p::r,c=>((Nm.put c 2 p.1).trans (Nm.bG _ p.2)).trans (Nm.sc r _)
theorem Gr.add (c:Cont) (l:aB):Gr c (aG c l):=by
 unfold aG;simp only[]
 split
 ·exact((Gr.put c 0 _).trans (Gr.put _ 1 _)).trans (Gr.ev _ _ _)
 ·split
  ·exact((Gr.put c 0 _).trans (Gr.put _ 2 _)).trans (Gr.ev _ _ _)
  ·split
   ·exact(((Gr.put c 0 _).trans (Gr.put _ 2 _)).trans (Gr.bG _ _)).trans (Gr.ev _ _ _)
   ·split
    ·exact(((Gr.put c 0 _).trans (Gr.put _ 3 _)).trans (Gr.sc _ _)).trans (Gr.ev _ _ _)
    ·split
     ·exact(Gr.put c 0 _).trans (Gr.ev _ _ _)
     ·split
      ·have h:=(Gr.put c 2 (l.names.getD 0 [])).trans (Gr.ts (l.names.drop 1) _)
       exact⟨h.n,h.e,H _ _,h.m,h.q⟩
      ·split
       ·have h:=((Gr.put c 3 (l.names.getD 0 [])).trans (Gr.put _ 2 (l.names.getD 1 []))).trans (Gr.ts (l.names.drop 2) _)
        exact⟨h.n,h.e,h.d,H _ _,h.q⟩
       ·split
        ·have h:=Gr.put c 1 (l.names.getD 0 [])
         exact⟨h.n,h.e,h.d,h.m,H _ _⟩
        ·exact Gr.refl c
def iF:Cont:=⟨fun _=>[],[],[],[],[],[],[],[]⟩
theorem bJ {n:C} {a b:Nat} (h:aT n a=K) (hab:a≤b):aT n b=K:=by
 simp only[aT,A,J] at h ⊢;omega
theorem xZ {v:lg} {a b:Nat} (h:ig v a=K) (hab:a≤b):ig v b=K:=by
 unfold ig at h ⊢
 split
 ·rename_i h0;rw[L h0] at h;exact h
 ·rename_i h0
  rw[N h0] at h;simp only[A] at h ⊢;exact⟨⟨bJ h.1.1 hab,h.1.2⟩,h.2⟩
theorem Ph {s:Sn} {a b c d:Nat} (h:jJ a c s=K) (hab:a≤b) (hcd:c≤d):jJ b d s=K:=by
 simp only[jJ,A] at h ⊢;exact⟨bJ h.1 hcd,xZ h.2 hab⟩
theorem RX {e:EvC} {l:G Sn} {a b c d a' b' c' d':Nat} (h:hasB a b c d e l=K) (ha:a≤a') (hb:b≤b') (hc:c≤c') (hd:d≤d'):hasB a' b' c' d' e l=K:=by
 unfold hasB at h ⊢
 split
 ·rename_i k;rw[L k] at h
  simp only[A] at h ⊢;exact⟨bJ h.1 hb,h.2⟩
 ·rename_i k1;rw[N k1] at h
  split
  ·rename_i k;rw[L k] at h
   simp only[A] at h ⊢;exact⟨⟨⟨bJ h.1.1.1 hc,xZ h.1.1.2 ha⟩,h.1.2⟩,h.2⟩
  ·rename_i k2;rw[N k2] at h
   split
   ·rename_i k;rw[L k] at h
    simp only[A] at h ⊢;exact⟨bJ h.1 hc,xZ h.2 ha⟩
   ·rename_i k3;rw[N k3] at h
    split
    ·rename_i k;rw[L k] at h
     simp only[A,List.all_eq_true] at h ⊢;exact⟨⟨bJ h.1.1 hd,h.1.2⟩,fun s hs=>Ph (h.2 s hs) ha hc⟩
    ·rfl
theorem VG {e:EvC} {l:G Sn} {a b c d a' b' c' d':Nat} (h:gP a b c d e l=K) (ha:a≤a') (hb:b≤b') (hc:c≤c') (hd:d≤d'):gP a' b' c' d' e l=K:=by
 unfold gP at h ⊢;simp only[A] at h ⊢;exact⟨⟨⟨h.1.1.1,bJ h.1.1.2 ha⟩,RX h.1.2 ha hb hc hd⟩,h.2⟩
def lX (c:Cont):Prop:=∀i,(c.nl i).Nodup∧∀s∈c.nl i,aU ⟨s.toArray⟩=K
theorem lX.put {c:Cont} (h:lX c) (i:Nat) {s:Bs} (hs:aU ⟨s.toArray⟩=K):lX (c.put i s):=fun j=>by
 show(if j=i then bM (c.nl i) s else c.nl j).Nodup∧∀x∈(if j=i then bM (c.nl i) s else c.nl j),aU ⟨x.toArray⟩=K
 split
 ·refine⟨zV (h i).1,fun x hx=>?_⟩
  unfold bM at hx
  split at hx
  ·exact(h i).2 x hx
  ·rcases V.1 hx with hx|hx
   ·exact(h i).2 x hx
   ·rw[O.1 hx];exact hs
 ·exact h j
theorem lX.bG {c:Cont} (h:lX c) {v:To} (hv:gZ v):lX (c.bG v).1:=by
 unfold Cont.bG;rcases hv with rfl|⟨hw,h0,_⟩
 ·rw[L rfl];exact h
 ·rw[N ah];exact h.put 0 hw
theorem lX.ts:∀(l:G Bs) {c:Cont},lX c→(∀s∈l,aU ⟨s.toArray⟩=K)→lX (c.ts l).1
 |[],_,h,_=>h
 |s::r,_,h,hl=>lX.ts r (h.put 0 (hl s List.mem_cons_self)) (fun x hx=>hl x (Z _ hx))
theorem lX.sc:∀(l:G (Bs × To)) {c:Cont},lX c→(∀p∈l,aU ⟨p.1.toArray⟩=K∧gZ p.2)→lX (c.sc l).1
 |[],_,h,_=>h
 |p::r,_,h,hl=>lX.sc r ((h.put 2 (hl p List.mem_cons_self).1).bG (hl p List.mem_cons_self).2) (fun x hx=>hl x (Z _ hx))
theorem eB (c:Cont) (i:Nat) (s:Bs):aT (c.no i s) ((c.put i s).nl i).length=K:=by
 have h:=RY (c.nl i) s;have e:(c.put i s).nl i=bM (c.nl i) s:=if_pos rfl;rw[e];have h2:(0:C)≤(nV (c.nl i) s:C):=Int.natCast_nonneg _;have h3:(nV (c.nl i) s:C)<((bM (c.nl i) s).length:C):=Int.ofNat_lt.2 h;unfold aT Cont.no;exact Bool.and_eq_true_iff.2 ⟨decide_eq_true h2,decide_eq_true h3⟩
theorem Gr.len {c d:Cont} (h:Gr c d) (i:Nat):(c.nl i).length≤(d.nl i).length:=(h.n i).length_le
theorem Ng (c:Cont) {v:To} (hv:gZ v):ig (c.bG v).2 ((c.bG v).1.nl 0).length=K:=by
 unfold Cont.bG;rcases hv with rfl|⟨_,h0,h9⟩
 ·rw[L rfl];rfl
 ·rw[N ah]
  unfold ig;rw[N (by simp only[];omega)];simp only[eB,decide_eq_true h0,decide_eq_true h9,Bool.and_self]
theorem Pj:∀(l:G Bs) (c:Cont),(∀x∈(c.ts l).2,aT x ((c.ts l).1.nl 0).length=K)∧(c.ts l).2.length=l.length
 |[],_=>⟨fun x hx=>(by cases hx),rfl⟩
 |s::r,c=>by
  obtain⟨h1,h2⟩:=Pj r (c.put 0 s);refine⟨fun x hx=>?_,?_⟩
  ·rcases List.mem_cons.1 hx with rfl|hx
   ·exact bJ (eB c 0 s) ((Gr.ts r (c.put 0 s)).len 0)
   ·exact h1 x hx
  ·show(_::_).length=_
   rw[List.length_cons,h2];rfl
theorem X7:∀(l:G (Bs × To)) (c:Cont),(∀p∈l,gZ p.2)→(∀x∈(c.sc l).2,jJ ((c.sc l).1.nl 0).length ((c.sc l).1.nl 2).length x=K)∧(c.sc l).2.length=l.length
 |[],_,_=>⟨fun x hx=>(by cases hx),rfl⟩
 |p::r,c,hl=>by
  have hp:=hl p List.mem_cons_self;obtain⟨h1,h2⟩:=X7 r ((c.put 2 p.1).bG p.2).1 (fun x hx=>hl x (Z _ hx));have hg:=Gr.sc r ((c.put 2 p.1).bG p.2).1;refine⟨fun x hx=>?_,?_⟩
  ·rcases List.mem_cons.1 hx with rfl|hx
   ·show jJ (((c.put 2 p.1).bG p.2).1.sc r|>.1.nl 0).length (((c.put 2 p.1).bG p.2).1.sc r|>.1.nl 2).length ⟨c.no 2 p.1,((c.put 2 p.1).bG p.2).2⟩=K
    simp only[jJ,A];exact⟨bJ (eB c 2 p.1) (((Gr.bG (c.put 2 p.1) p.2).trans hg).len 2),xZ (Ng (c.put 2 p.1) hp) (hg.len 0)⟩
   ·exact h1 x hx
  ·show(_::_).length=_
   rw[List.length_cons,h2];rfl
structure gJ (c:Cont):Prop where
 nm:lX c
 le:c.E.length=c.SE.length
 ld:c.D.length=c.SD.length
 lm:c.M.length=c.SM.length
 ev:∀p∈c.E.zip c.SE,gP (c.nl 0).length (c.nl 1).length (c.nl 2).length (c.nl 3).length p.1 p.2=K
 od:∀p∈c.D.zip c.SD,aT p.1.obj (c.nl 2).length=K∧eP (c.nl 0).length p.2=K
 ma:∀p∈c.M.zip c.SM,aT p.1.pred (c.nl 3).length=K∧aT p.1.obj (c.nl 2).length=K∧eP (c.nl 0).length p.2=K
 wa:∀x∈c.Q,aT x.bU (c.nl 1).length=K∧0≤x.bits∧x.bits≤15
theorem CW {a b:Nat} {l:G C} (h:eP a l=K) (hab:a≤b):eP b l=K:=by
 simp only[eP,A,List.all_eq_true] at h ⊢;exact⟨h.1,fun x hx=>bJ (h.2 x hx) hab⟩
theorem gJ.zero:gJ iF:=⟨fun _=>⟨List.nodup_nil,fun s hs=>(by cases hs)⟩,rfl,rfl,rfl,fun p hp=>(by cases hp),fun p hp=>(by cases hp),fun p hp=>(by cases hp),fun p hp=>(by cases hp)⟩
theorem gJ.grow {c d:Cont} (h:gJ c) (g:Gr c d) (n:Nm c d) (k:lX d):gJ d:=by
 refine⟨k,by rw[n.e,n.se];exact h.le,by rw[n.d,n.sd];exact h.ld,by rw[n.m,n.sm];exact h.lm,fun p hp=>?_,fun p hp=>?_,fun p hp=>?_,fun x hx=>?_⟩
 ·rw[n.e,n.se] at hp
  exact VG (h.ev p hp) (g.len 0) (g.len 1) (g.len 2) (g.len 3)
 ·rw[n.d,n.sd] at hp
  have:=h.od p hp;exact⟨bJ this.1 (g.len 2),CW this.2 (g.len 0)⟩
 ·rw[n.m,n.sm] at hp
  have:=h.ma p hp;exact⟨bJ this.1 (g.len 3),bJ this.2.1 (g.len 2),CW this.2.2 (g.len 0)⟩
 ·rw[n.q] at hx
  have:=h.wa x hx;exact⟨bJ this.1 (g.len 1),this.2⟩
theorem uw {α β:Type} {a:G α} {b:G β} (h:a.length=b.length) (x:α) (y:β):(a++[x]).zip (b++[y])=a.zip b++[(x,y)]:=by
 rw[List.zip_append h];rfl
theorem gJ.fI {c:Cont} (h:gJ c) (e:EvC) (sn:G Sn) (he:gP (c.nl 0).length (c.nl 1).length (c.nl 2).length (c.nl 3).length e sn=K):gJ (c.ev e sn):=by
 refine⟨h.nm,?_,h.ld,h.lm,fun p hp=>?_,h.od,h.ma,h.wa⟩
 ·show(c.E++[e]).length=(c.SE++[sn]).length
  rw[List.length_append,List.length_append,h.le];rfl
 ·have hp':p∈(c.E++[e]).zip (c.SE++[sn]):=hp
  rw[uw h.le] at hp';rcases V.1 hp' with hp'|hp'
  ·exact h.ev p hp'
  ·rw[O.1 hp'];exact he
theorem gJ.odA {c:Cont} (h:gJ c) (x:aH) (ts:G C) (hx:aT x.obj (c.nl 2).length=K∧eP (c.nl 0).length ts=K):gJ {c with D:=c.D++[x],SD:=c.SD++[ts]}:=by
 refine⟨h.nm,h.le,?_,h.lm,h.ev,fun p hp=>?_,h.ma,h.wa⟩
 ·show(c.D++[x]).length=(c.SD++[ts]).length
  rw[List.length_append,List.length_append,h.ld];rfl
 ·have hp':p∈(c.D++[x]).zip (c.SD++[ts]):=hp
  rw[uw h.ld] at hp';rcases V.1 hp' with hp'|hp'
  ·exact h.od p hp'
  ·rw[O.1 hp'];exact hx
theorem gJ.maA {c:Cont} (h:gJ c) (x:aI) (ts:G C) (hx:aT x.pred (c.nl 3).length=K∧aT x.obj (c.nl 2).length=K∧eP (c.nl 0).length ts=K):gJ {c with M:=c.M++[x],SM:=c.SM++[ts]}:=by
 refine⟨h.nm,h.le,h.ld,?_,h.ev,h.od,fun p hp=>?_,h.wa⟩
 ·show(c.M++[x]).length=(c.SM++[ts]).length
  rw[List.length_append,List.length_append,h.lm];rfl
 ·have hp':p∈(c.M++[x]).zip (c.SM++[ts]):=hp
  rw[uw h.lm] at hp';rcases V.1 hp' with hp'|hp'
  ·exact h.ma p hp'
  ·rw[O.1 hp'];exact hx
theorem gJ.waA {c:Cont} (h:gJ c) (x:Wa) (hx:aT x.bU (c.nl 1).length=K∧0≤x.bits∧x.bits≤15):gJ {c with Q:=c.Q++[x]}:=by
 refine⟨h.nm,h.le,h.ld,h.lm,h.ev,h.od,h.ma,fun y hy=>?_⟩;rcases V.1 hy with hy|hy
 ·exact h.wa y hy
 ·rw[O.1 hy];exact hx
theorem za {l:G Bs} (h:l.length=2):∃a b,l=[a,b]:=by
 match l,h with
 |[a,b],_=>exact⟨a,b,rfl⟩
theorem u7 {α:Type} {l:G α} (h:l.length=1):∃a,l=[a]:=by
 match l,h with
 |[a],_=>exact⟨a,rfl⟩
theorem gJ.add {c:Cont} (h:gJ c) {l:aB} (hl:dh l) (hf:aD (aG c l)):gJ (aG c l):=by
 obtain⟨kd,ns,lv,vs,fi,bt⟩:=l;obtain⟨hw,hv,hc⟩:=hl;simp only at hw hv hc;rcases hc with⟨rfl,h1,h2,⟨lw,rfl,h3,h4⟩,h5,h6⟩|⟨rfl,h1,h2,h3,h4,h5⟩|⟨rfl,h1,h2,h3,h4,h5⟩|⟨rfl,⟨cc,h1,h2,h2'⟩,_,h3,h4,h5⟩|⟨rfl,h1,h2,h3,h4,h5⟩|⟨rfl,h1,h2,h3,h4,h5⟩|⟨rfl,⟨cc,h1,h2'⟩,h2,h3,h4,h5⟩|⟨rfl,⟨cc,h1,h2'⟩,h2,h3,_,h5⟩|⟨rfl,h1,h2,h3,h4,⟨bb,rfl,h5⟩⟩
 ·obtain⟨a,b,rfl⟩:=za h1
  have g:=(Gr.put c 0 a).trans (Gr.put (c.put 0 a) 1 b);have k:=(h.nm.put 0 (hw a ak)).put 1 (hw b ak);refine(h.grow g ((Nm.put c 0 a).trans (Nm.put _ 1 b)) k).fI _ _ ?_;have t1:=bJ (eB c 0 a) ((Gr.put (c.put 0 a) 1 b).len 0);have t2:=eB (c.put 0 a) 1 b;simp[gP,hasB,dZ,dJ,t1,t2];omega
 ·obtain⟨a,b,rfl⟩:=za h1
  have g:=(Gr.put c 0 a).trans (Gr.put (c.put 0 a) 2 b);have k:=(h.nm.put 0 (hw a ak)).put 2 (hw b ak);refine(h.grow g ((Nm.put c 0 a).trans (Nm.put _ 2 b)) k).fI _ _ ?_;have t1:=bJ (eB c 0 a) ((Gr.put (c.put 0 a) 2 b).len 0);have t2:=eB (c.put 0 a) 2 b;have hk:((fK c.E (c.no 0 a) ((c.put 0 a).no 2 b):C)+1)≤999:=hf.2.2.2.2.2 _ (List.mem_append_right _ List.mem_cons_self) rfl;have hk0:¬((fK c.E (c.no 0 a) ((c.put 0 a).no 2 b):C)+1)=0:=by omega
  have hk1:0<((fK c.E (c.no 0 a) ((c.put 0 a).no 2 b):C)+1):=by omega
  simp[gP,hasB,dZ,ig,t1,t2,hk,hk0,hk1]
 ·obtain⟨a,b,rfl⟩:=za h1
  obtain⟨v,rfl⟩:=u7 h2;have hvv:=hv v ak;have g:=((Gr.put c 0 a).trans (Gr.put (c.put 0 a) 2 b)).trans (Gr.bG _ v);have k:=((h.nm.put 0 (hw a ak)).put 2 (hw b ak)).bG hvv;refine(h.grow g (((Nm.put c 0 a).trans (Nm.put _ 2 b)).trans (Nm.bG _ v)) k).fI _ _ ?_;have t1:=bJ (eB c 0 a) (((Gr.put (c.put 0 a) 2 b).trans (Gr.bG _ v)).len 0);have t2:=bJ (eB (c.put 0 a) 2 b) ((Gr.bG _ v).len 2);have t3:=Ng ((c.put 0 a).put 2 b) hvv;simp[gP,hasB,dZ,t1,t2,t3]
 ·match ns,h1 with
  |a::b::ns,h1=>
  have hz:∀p∈ns.zip vs,aU ⟨p.1.toArray⟩=K∧gZ p.2:=fun p hp=>⟨hw _ (Z _ (Z _ (List.of_mem_zip hp).1)),hv _ (List.of_mem_zip hp).2⟩
  have g:=((Gr.put c 0 a).trans (Gr.put (c.put 0 a) 3 b)).trans (Gr.sc (ns.zip vs) _);have k:=lX.sc (ns.zip vs) ((h.nm.put 0 (hw a ak)).put 3 (hw b ak)) hz;refine(h.grow g (((Nm.put c 0 a).trans (Nm.put _ 3 b)).trans (Nm.sc (ns.zip vs) _)) k).fI _ _ ?_;have t1:=bJ (eB c 0 a) (((Gr.put (c.put 0 a) 3 b).trans (Gr.sc (ns.zip vs) _)).len 0);have t2:=bJ (eB (c.put 0 a) 3 b) ((Gr.sc (ns.zip vs) _).len 3);obtain⟨t3,t4⟩:=X7 (ns.zip vs) ((c.put 0 a).put 3 b) (fun p hp=>(hz p hp).2);have t5:(((c.put 0 a).put 3 b).sc (ns.zip vs)).2.length≤40:=by rw[t4,List.length_zip];omega
  have t6:(((c.put 0 a).put 3 b).sc (ns.zip vs)).2.all (jJ ((((c.put 0 a).put 3 b).sc (ns.zip vs)).1.nl 0).length ((((c.put 0 a).put 3 b).sc (ns.zip vs)).1.nl 2).length)=K:=List.all_eq_true.2 t3;simp only[gP,hasB,dZ];simp[t1,t2,t5];exact fun x hx=>t3 x hx
 ·obtain⟨a,rfl⟩:=u7 h1
  refine(h.grow (Gr.put c 0 a) (Nm.put c 0 a) (h.nm.put 0 (hw a ak))).fI _ _ ?_;have t1:=eB c 0 a;simp[gP,hasB,dZ,t1]
 ·obtain⟨a,rfl⟩:=u7 h1
  refine(h.grow (Gr.put c 0 a) (Nm.put c 0 a) (h.nm.put 0 (hw a ak))).fI _ _ ?_;have t1:=eB c 0 a;simp[gP,hasB,dZ,t1]
 ·match ns,h1 with
  |a::ns,h1=>
  have g:=(Gr.put c 2 a).trans (Gr.ts ns (c.put 2 a));have k:=lX.ts ns (h.nm.put 2 (hw a ak)) (fun x hx=>hw x (Z _ hx));have n:=(Nm.put c 2 a).trans (Nm.ts ns (c.put 2 a));have t1:=bJ (eB c 2 a) ((Gr.ts ns (c.put 2 a)).len 2);obtain⟨t3,t4⟩:=Pj ns (c.put 2 a);have:=(h.grow g n k).odA ⟨c.no 2 a,none,0,0⟩ ((c.put 2 a).ts ns).2 ⟨t1,by simp only[eP,A,J,List.all_eq_true];exact⟨by rw[t4];simp only[List.length_cons] at h1;omega,t3⟩⟩;rw[n.d,n.sd] at this;exact this
 ·match ns,h1 with
  |a::b::ns,h1=>
  have g:=((Gr.put c 3 a).trans (Gr.put (c.put 3 a) 2 b)).trans (Gr.ts ns _);have k:=lX.ts ns ((h.nm.put 3 (hw a ak)).put 2 (hw b ak)) (fun x hx=>hw x (Z _ (Z _ hx)));have n:=((Nm.put c 3 a).trans (Nm.put (c.put 3 a) 2 b)).trans (Nm.ts ns _);have t1:=bJ (eB c 3 a) (((Gr.put (c.put 3 a) 2 b).trans (Gr.ts ns _)).len 3);have t2:=bJ (eB (c.put 3 a) 2 b) ((Gr.ts ns _).len 2);obtain⟨t3,t4⟩:=Pj ns ((c.put 3 a).put 2 b);have:=(h.grow g n k).maA ⟨c.no 3 a,(c.put 3 a).no 2 b,fi,none,0,0⟩ (((c.put 3 a).put 2 b).ts ns).2 ⟨t1,t2,by simp only[eP,A,J,List.all_eq_true];exact⟨by rw[t4];simp only[List.length_cons] at h1;omega,t3⟩⟩;rw[n.m,n.sm] at this;exact this
 ·obtain⟨a,rfl⟩:=u7 h1
  have n:=Nm.put c 1 a;have:=(h.grow (Gr.put c 1 a) n (h.nm.put 1 (hw a ak))).waA ⟨c.no 1 a,(bb:C)⟩ ⟨eB c 1 a,by simp only[];omega,by simp only[];omega⟩;rw[n.q] at this;exact this
def aZ (c:Cont):G (C × C):=
 (c.E.zip c.SE).flatMap (fun p=>mD p.1 p.2)++(c.D.zip c.SD).flatMap (fun p=>wN p.1 p.2)++(c.M.zip c.SM).flatMap (fun p=>vB p.1 p.2)++c.Q.flatMap uK
def fG (l:G C) (n:C):C:=if n∈l then(l.idxOf n:C) else -1
def lF (F:C→G C) (v:lg):lg:=if 0<v.k then⟨fG (F 0) v.t,v.k⟩ else v
def JZ (F:C→G C) (s:Sn):Sn:=⟨fG (F 2) s.obj,lF F s.v⟩
def fI (F:C→G C) (e:EvC):EvC:=
 {Ar with kind:=e.kind,t:=fG (F 0) e.t,lvl:=e.lvl,bU:=if e.kind=1 then fG (F 1) e.bU else 0,obj:=if e.kind=2∨e.kind=3 then fG (F 2) e.obj else 0,v:=if e.kind=2∨e.kind=3 then lF F e.v else⟨0,0⟩,pred:=if e.kind=4 then fG (F 3) e.pred else 0}
def aN (l:G Bs) (n:C):Bs:=l.getD n.toNat []
def byC (F:C→G C) (c:Cont):Cont:=
 ⟨fun i=>(F (i:C)).map (aN (c.nl i)),c.E.map (fI F),c.SE.map (fun l=>l.map (JZ F)),c.D.map (fun x=>⟨fG (F 2) x.obj,none,0,0⟩),c.SD.map (fun l=>l.map (fG (F 0))),
 c.M.map (fun x=>⟨fG (F 3) x.pred,fG (F 2) x.obj,x.first,none,0,0⟩),c.SM.map (fun l=>l.map (fG (F 0))),c.Q.map (fun x=>⟨fG (F 1) x.bU,x.bits⟩)⟩
def fB (c:Cont):Cont:=byC (bS (aZ c)) c
def ali (F:C→G C) (x:C × C):C × C:=(x.1,fG (F x.1) x.2)
theorem M4 {l g:G C} {n:C} (hp:l<+:g) (hn:n∈l):fG g n=(l.idxOf n:C):=by
 unfold fG;rw[L (hp.subset hn)];obtain⟨t,rfl⟩:=hp;rw[List.idxOf_append,L hn]
theorem Zi {l g:G C} {n:C} (hp:l++[n]<+:g) (hn:n∉l):fG g n=(l.length:C):=by
 rw[M4 hp ak,List.idxOf_append,N hn];simp
theorem KA (l:G C) (n:C):n∈qx l n:=by
 unfold qx
 split
 ·assumption
 ·simp
theorem FQ {s n:C} (xs:G (C × C)):(s,n)∈xs→n∈bS xs s:=by
 refine zW (P:=fun xs=>(s,n)∈xs→n∈bS xs s) (fun h=>by cases h) (fun xs x ih h=>?_) xs;rcases V.1 h with h|h
 ·exact(EU xs x s).subset (ih h)
 ·obtain rfl:x=(s,n):=(O.1 h).symm
  rw[pQ,L rfl];exact KA _ _
theorem FE {s n:C} (xs:G (C × C)):n∈bS xs s→(s,n)∈xs:=by
 refine zW (P:=fun xs=>n∈bS xs s→(s,n)∈xs) (fun h=>by cases h) (fun xs x ih h=>?_) xs;rw[pQ] at h;by_cases hx:x.1=s
 ·rw[L hx] at h
  unfold qx at h
  split at h
  ·exact R _ (ih h)
  ·rcases V.1 h with h|h
   ·exact R _ (ih h)
   ·have:n=x.2:=by simpa using h
    refine List.mem_append_right _ ?_;rw[this,←hx];simp
 ·rw[N hx] at h
  exact R _ (ih h)
theorem Ba (s:C) (xs:G (C × C)):(bS xs s).Nodup:=by
 refine zW (P:=fun xs=>(bS xs s).Nodup) List.nodup_nil (fun xs x ih=>?_) xs;rw[pQ]
 split
 ·exact Pk ih
 ·exact ih
theorem vg {v:lg} {nt:Nat} (h:ig v nt=K):∀x∈lu v,x.1=0∧aT x.2 nt=K:=fun x hx=>by
 unfold lu at hx
 split at hx
 ·rename_i hk
  rw[O.1 hx];unfold ig at h;rw[N ah] at h;simp only[A] at h;exact⟨rfl,h.1.1⟩
 ·cases hx
theorem uH {c:Cont} (h:gJ c):∀x∈aZ c,∃s:Nat,s<4∧x.1=(s:C)∧aT x.2 (c.nl s).length=K:=by
 intro x hx;unfold aZ at hx;rcases V.1 hx with hx|hx
 ·rcases V.1 hx with hx|hx
  ·rcases V.1 hx with hx|hx
   ·obtain⟨p,hp,hx⟩:=List.mem_flatMap.1 hx
    have he:=h.ev p hp;obtain⟨e,l⟩:=p;simp only[gP,A,J] at he;obtain⟨⟨⟨⟨_,_⟩,ht⟩,hh⟩,hb⟩:=he;unfold mD at hx;rcases V.1 hx with hx|hx
    ·rcases List.mem_cons.1 hx with rfl|hx
     ·exact⟨0,by omega,rfl,ht⟩
     ·unfold hasB at hh
      split at hx
      ·rename_i k;rw[L k] at hh
       simp only[A] at hh;rw[O.1 hx];exact⟨1,by omega,rfl,hh.1⟩
      ·rename_i k1;rw[N k1] at hh
       split at hx
       ·rename_i k
        have hov:aT e.obj (c.nl 2).length=K∧ig e.v (c.nl 0).length=K:=by
         by_cases k2:e.kind=2
         ·rw[L k2] at hh
          simp only[A] at hh;exact⟨hh.1.1.1,hh.1.1.2⟩
         ·rw[N k2,L (k.resolve_left k2)] at hh
          simp only[A] at hh;exact hh
        rcases List.mem_cons.1 hx with rfl|hx
        ·exact⟨2,by omega,rfl,hov.1⟩
        ·have:=vg hov.2 x hx
         exact⟨0,by omega,this.1,this.2⟩
       ·rename_i k2
        split at hx
        ·rename_i k4
         rw[N (fun e=>k2 (.inl e)),N (fun e=>k2 (.inr e)),L k4] at hh;simp only[A] at hh;rw[O.1 hx];exact⟨3,by omega,rfl,hh.1.1⟩
        ·cases hx
    ·obtain⟨s,hs,hx⟩:=List.mem_flatMap.1 hx
     have h4:e.kind=4:=by
      apply Classical.byContradiction
      intro hn4;have hl:l=[]:=by
       unfold dZ at hb
       split at hb
       ·simp only[A,J] at hb;exact hb.2
       ·split at hb
        ·simp only[A,J] at hb;exact hb.2
        ·first|(rw[N hn4] at hb)|skip
         simp only[A,J] at hb;exact hb.2
      subst hl;cases hs
     unfold hasB at hh;rw[N ah,N ah,N ah,L h4] at hh;simp only[A,List.all_eq_true] at hh;have hsn:=hh.2 s hs;simp only[jJ,A] at hsn;rcases List.mem_cons.1 hx with rfl|hx
     ·exact⟨2,by omega,rfl,hsn.1⟩
     ·have:=vg hsn.2 x hx
      exact⟨0,by omega,this.1,this.2⟩
   ·obtain⟨p,hp,hx⟩:=List.mem_flatMap.1 hx
    have ho:=h.od p hp;unfold wN at hx;rcases List.mem_cons.1 hx with rfl|hx
    ·exact⟨2,by omega,rfl,ho.1⟩
    ·obtain⟨d,hd,rfl⟩:=List.mem_map.1 hx
     have:=ho.2;simp only[eP,A,List.all_eq_true] at this;exact⟨0,by omega,rfl,this.2 d hd⟩
  ·obtain⟨p,hp,hx⟩:=List.mem_flatMap.1 hx
   have ho:=h.ma p hp;unfold vB at hx;rcases List.mem_cons.1 hx with rfl|hx
   ·exact⟨3,by omega,rfl,ho.1⟩
   ·rcases List.mem_cons.1 hx with rfl|hx
    ·exact⟨2,by omega,rfl,ho.2.1⟩
    ·obtain⟨d,hd,rfl⟩:=List.mem_map.1 hx
     have:=ho.2.2;simp only[eP,A,List.all_eq_true] at this;exact⟨0,by omega,rfl,this.2 d hd⟩
 ·obtain⟨p,hp,hx⟩:=List.mem_flatMap.1 hx
  have ho:=h.wa p hp;unfold uK at hx;rw[O.1 hx];exact⟨1,by omega,rfl,ho.1⟩
theorem kr {l:G C} {n:C} (h:n∈l):aT (fG l n) l.length=K:=by
 unfold fG;rw[L h];have:=List.idxOf_lt_length_of_mem h;unfold aT;exact Bool.and_eq_true_iff.2 ⟨decide_eq_true (Int.natCast_nonneg _),decide_eq_true (Int.ofNat_lt.2 this)⟩
theorem wP {n:C} {m:Nat} (h:aT n m=K):∃k:Nat,n=(k:C)∧k<m:=by
 simp only[aT,A,J] at h;exact⟨n.toNat,by omega,by omega⟩
theorem pR (l:G Bs) {k:Nat} (h:k<l.length):aN l (k:C)=l[k]:=by
 unfold aN;rw[Int.toNat_natCast,List.getD_eq_getElem?_getD,List.getElem?_eq_getElem h];rfl
theorem DU {l:G Bs} (hn:l.Nodup) {i j:Nat} (hi:i<l.length) (hj:j<l.length) (e:l[i]=l[j]):i=j:=by
 rcases Nat.lt_trichotomy i j with h|h|h
 ·exact absurd e (List.pairwise_iff_getElem.1 hn i j hi hj h)
 ·exact h
 ·exact absurd e.symm (List.pairwise_iff_getElem.1 hn j i hj hi h)
theorem VH {l:G Bs} (hn:l.Nodup) {ns:G C} (h:∀n∈ns,aT n l.length=K) (hd:ns.Nodup):(ns.map (aN l)).Nodup∧∀s∈ns.map (aN l),s∈l:=by
 refine⟨?_,fun s hs=>?_⟩
 ·refine List.pairwise_map.2 (List.Pairwise.imp_of_mem (fun {a b} ha hb hne e=>hne ?_) hd)
  obtain⟨i,rfl,hi⟩:=wP (h a ha);obtain⟨j,rfl,hj⟩:=wP (h b hb);rw[pR l hi,pR l hj] at e;rw[DU hn hi hj e]
 ·obtain⟨n,hn',rfl⟩:=List.mem_map.1 hs
  obtain⟨i,rfl,hi⟩:=wP (h n hn');rw[pR l hi];exact List.getElem_mem hi
theorem lX.number {c:Cont} (h:gJ c):lX (fB c):=fun i=>by
 show((bS (aZ c) (i:C)).map (aN (c.nl i))).Nodup∧∀s∈(bS (aZ c) (i:C)).map (aN (c.nl i)),aU ⟨s.toArray⟩=K;have ht:∀n∈bS (aZ c) (i:C),aT n (c.nl i).length=K:=fun n hn=>by
  obtain⟨s,_,hs,ht⟩:=uH h _ (FE _ hn);have:i=s:=Int.ofNat_inj.1 hs;subst this;exact ht
 obtain⟨h1,h2⟩:=VH (h.nm i).1 ht (Ba _ _);exact⟨h1,fun s hs=>(h.nm i).2 s (h2 s hs)⟩
theorem KC {F:C→G C} {v:lg} {nt:Nat} (h:ig v nt=K) (hm:∀x∈lu v,x.2∈F 0):ig (lF F v) (F 0).length=K:=by
 unfold lF;by_cases hk:0<v.k
 ·rw[L hk]
  unfold ig at h ⊢;rw[N ah] at h;rw[N (by simp only[];omega)];simp only[A] at h ⊢;have:v.t∈F 0:=hm (0,v.t) (by unfold lu;rw[L hk];simp);exact⟨⟨kr this,h.1.2⟩,h.2⟩
 ·rw[N hk]
  unfold ig at h ⊢;by_cases h0:v.k=0
  ·rw[L h0] at h ⊢;exact h
  ·rw[N h0] at h
   simp only[A,J] at h;omega
theorem aft {F:C→G C} {s:Sn} {nt no:Nat} (h:jJ nt no s=K) (h2:s.obj∈F 2) (hm:∀x∈lu s.v,x.2∈F 0):jJ (F 0).length (F 2).length (JZ F s)=K:=by
 simp only[jJ,A] at h ⊢;exact⟨kr h2,KC h.2 hm⟩
theorem afu {F:C→G C} {e:EvC} {l:G Sn} {nt ns no np:Nat} (h:gP nt ns no np e l=K) (hm:∀x∈mD e l,x.2∈F x.1):gP (F 0).length (F 1).length (F 2).length (F 3).length (fI F e) (l.map (JZ F))=K:=by
 obtain⟨kd,t,bU,lvl,obj,v,pred,sa,sn,sc⟩:=e;simp only[gP,A,J] at h;obtain⟨⟨⟨⟨h1,h7⟩,ht⟩,hh⟩,hb⟩:=h;have hmt:t∈F 0:=hm (0,t) (by simp[mD]);have ht2:=kr hmt;have hk:kd=1∨kd=2∨kd=3∨kd=4∨kd=5∨kd=6:=by omega
 rcases hk with rfl|rfl|rfl|rfl|rfl|rfl
 ·simp[hasB,dZ] at hh hb
  have h2:=kr (hm (1,bU) (by simp[mD]));obtain⟨⟨⟨_,_⟩,_⟩,rfl⟩:=hb;simp[gP,hasB,dZ,fI,ht2,h2,hh.2]
 ·simp[hasB,dZ] at hh hb
  have h2:=kr (hm (2,obj) (by simp[mD]));have h3:=KC (F:=F) hh.1.1.2 (fun x hx=>by have:=hm x (by simp[mD,hx]);have h0:=(vg hh.1.1.2 x hx).1;rw[h0] at this;exact this);obtain⟨⟨⟨_,rfl⟩,_⟩,rfl⟩:=hb;have hk:0<v.k:=hh.2;have hvt:(lF F v).t=fG (F 0) t∧0<(lF F v).k:=by unfold lF;rw[L hk];exact⟨by rw[hh.1.2],hk⟩
  simp[gP,hasB,dZ,fI,ht2,h2,h3,hvt.1,hvt.2]
 ·simp[hasB,dZ] at hh hb
  have h2:=kr (hm (2,obj) (by simp[mD]));have h3:=KC (F:=F) hh.2 (fun x hx=>by have:=hm x (by simp[mD,hx]);have h0:=(vg hh.2 x hx).1;rw[h0] at this;exact this);obtain⟨⟨⟨_,rfl⟩,_⟩,rfl⟩:=hb;simp[gP,hasB,dZ,fI,ht2,h2,h3]
 ·simp[hasB,dZ] at hh hb
  have h2:=kr (hm (3,pred) (by simp[mD]));obtain⟨⟨⟨_,rfl⟩,_⟩,_⟩:=hb;have hs:∀s∈l,jJ (F 0).length (F 2).length (JZ F s)=K:=fun s hs=>by
   have hsb:=hh.2 s hs;refine aft hsb (hm (2,s.obj) ?_) (fun x hx=>?_)
   ·unfold mD;refine List.mem_append_right _ (List.mem_flatMap.2 ⟨s,hs,by simp⟩)
   ·have:=hm x (by unfold mD;exact List.mem_append_right _ (List.mem_flatMap.2 ⟨s,hs,Z _ hx⟩))
    simp only[jJ,A] at hsb;have h0:=(vg hsb.2 x hx).1;rw[h0] at this;exact this
  simp[gP,hasB,dZ,fI,ht2,h2,hh.1.2];exact hs
 ·simp[hasB,dZ] at hh hb
  obtain⟨⟨⟨⟨⟨_,rfl⟩,_⟩,_⟩,_⟩,rfl⟩:=hb;simp[gP,hasB,dZ,fI,ht2]
 ·simp[hasB,dZ] at hh hb
  obtain⟨⟨⟨⟨⟨_,rfl⟩,_⟩,_⟩,_⟩,rfl⟩:=hb;simp[gP,hasB,dZ,fI,ht2]
theorem DV {α β γ δ:Type} (f:α→γ) (g:β→δ) (xs:G α) (ys:G β):(xs.map f).zip (ys.map g)=(xs.zip ys).map (fun p=>(f p.1,g p.2)):=by
 rw[List.zip_map];rfl
theorem KD {F:C→G C} {nt:Nat} {l:G C} (h:eP nt l=K) (hm:∀d∈l,d∈F 0):eP (F 0).length (l.map (fG (F 0)))=K:=by
 simp only[eP,A,List.all_eq_true,J,List.length_map] at h ⊢;refine⟨h.1,fun x hx=>?_⟩;obtain⟨d,hd,rfl⟩:=List.mem_map.1 hx;exact kr (hm d hd)
theorem gJ.number {c:Cont} (h:gJ c):gJ (fB c):=by
 have hF:∀x∈aZ c,x.2∈bS (aZ c) x.1:=fun x hx=>FQ _ hx
 have hl:∀i:Nat,((fB c).nl i).length=(bS (aZ c) (i:C)).length:=fun i=>List.length_map _
 have l0:=hl 0;have l1:=hl 1;have l2:=hl 2;have l3:=hl 3;refine⟨lX.number h,?_,?_,?_,fun p hp=>?_,fun p hp=>?_,fun p hp=>?_,fun x hx=>?_⟩
 ·show(c.E.map _).length=(c.SE.map _).length
  rw[List.length_map,List.length_map];exact h.le
 ·show(c.D.map _).length=(c.SD.map _).length
  rw[List.length_map,List.length_map];exact h.ld
 ·show(c.M.map _).length=(c.SM.map _).length
  rw[List.length_map,List.length_map];exact h.lm
 ·have hp':p∈(c.E.map (Yd.fI (bS (aZ c)))).zip (c.SE.map (fun l=>l.map (JZ (bS (aZ c))))):=hp
  rw[DV] at hp';obtain⟨q,hq,rfl⟩:=List.mem_map.1 hp';rw[l0,l1,l2,l3];exact afu (h.ev q hq) (fun x hx=>hF x (by unfold aZ;exact R _ (R _ (R _ (List.mem_flatMap.2 ⟨q,hq,hx⟩)))))
 ·have hp':p∈(c.D.map (fun x=>(⟨fG (bS (aZ c) 2) x.obj,none,0,0⟩:aH))).zip (c.SD.map (fun l=>l.map (fG (bS (aZ c) 0)))):=hp
  rw[DV] at hp';obtain⟨q,hq,rfl⟩:=List.mem_map.1 hp';have hx:=fun x (hx:x∈wN q.1 q.2)=>hF x (by unfold aZ;exact R _ (R _ (List.mem_append_right _ (List.mem_flatMap.2 ⟨q,hq,hx⟩))))
  rw[l0,l2];exact⟨kr (hx (2,q.1.obj) (by simp[wN])),KD (h.od q hq).2 (fun d hd=>hx (0,d) (by simp[wN,hd]))⟩
 ·have hp':p∈(c.M.map (fun x=>(⟨fG (bS (aZ c) 3) x.pred,fG (bS (aZ c) 2) x.obj,x.first,none,0,0⟩:aI))).zip (c.SM.map (fun l=>l.map (fG (bS (aZ c) 0)))):=hp
  rw[DV] at hp';obtain⟨q,hq,rfl⟩:=List.mem_map.1 hp';have hx:=fun x (hx:x∈vB q.1 q.2)=>hF x (by unfold aZ;exact R _ (List.mem_append_right _ (List.mem_flatMap.2 ⟨q,hq,hx⟩)))
  rw[l0,l2,l3];exact⟨kr (hx (3,q.1.pred) (by simp[vB])),kr (hx (2,q.1.obj) (by simp[vB])),KD (h.ma q hq).2.2 (fun d hd=>hx (0,d) (by simp[vB,hd]))⟩
 ·have hx':x∈c.Q.map (fun x=>(⟨fG (bS (aZ c) 1) x.bU,x.bits⟩:Wa)):=hx
  obtain⟨q,hq,rfl⟩:=List.mem_map.1 hx';have hx:=fun x (hx:x∈uK q)=>hF x (by unfold aZ;exact List.mem_append_right _ (List.mem_flatMap.2 ⟨q,hq,hx⟩))
  rw[l1];exact⟨kr (hx (1,q.bU) (by simp[uK])),(h.wa q hq).2⟩
def DW (d:Cont):Prop:=∀i:Nat,i<4→bS (aZ d) (i:C)=up (d.nl i).length
def nJ (d:Cont) (xs:G (C × C)) (c:Cont):Prop:=∀i:Nat,c.nl i=(d.nl i).take (bS xs (i:C)).length
theorem wh {xs ys:G (C × C)} (s:C) (h:xs<+:ys):bS xs s<+:bS ys s:=by
 obtain⟨t,rfl⟩:=h;refine zW (P:=fun t=>bS xs s<+:bS (xs++t) s) (by rw[I];exact List.prefix_refl _) (fun t x ih=>?_) t;rw[←U];exact ih.trans (EU _ _ _)
theorem acI {l:G C} {n:Nat} (h:l<+:up n):l=up l.length:=by
 have h1:=List.prefix_iff_eq_take.1 h;have h2:=h.length_le;rw[wT] at h2;have h3:(up n).take l.length=up l.length:=by
  unfold up;rw[←List.map_take,List.take_range,Nat.min_eq_left h2]
 rw[←h3];exact h1
theorem RZ {l:G Bs} (hn:l.Nodup) {k:Nat} (hk:k<l.length) {m:Nat} (hkm:k<m):(l.take m).idxOf l[k]=k:=by
 have hk2:k<(l.take m).length:=by rw[List.length_take];omega
 have hmem:l[k]∈l.take m:=by
  refine List.mem_of_getElem? (i:=k) ?_;rw[List.getElem?_take_of_lt hkm,List.getElem?_eq_getElem hk]
 have hi:=List.idxOf_lt_length_of_mem hmem;have he:=List.getElem_idxOf hi;rw[List.getElem_take] at he;exact DU hn (by rw[List.length_take] at hi;omega) hk he
theorem nJ.say {d c:Cont} {xs:G (C × C)} (ho:DW d) (hn:∀i,(d.nl i).Nodup) (h:nJ d xs c) {s:Nat} (hs:s<4) {n:C} (hp:xs++[((s:C),n)]<+:aZ d):
  nJ d (xs++[((s:C),n)]) (c.put s (aN (d.nl s) n))∧c.no s (aN (d.nl s) n)=n:=by
 obtain⟨l,hl⟩:∃l,l=d.nl s:=⟨_,rfl⟩;have hF:=wh (s:C) hp;rw[ho s hs] at hF;have hx:=wh (s:C) ((H xs [((s:C),n)]).trans hp);rw[ho s hs] at hx;obtain⟨m,hm⟩:∃m,m=(bS xs (s:C)).length:=⟨_,rfl⟩;have hu:bS xs (s:C)=up m:=by rw[hm];exact acI hx
 have hFn:bS (xs++[((s:C),n)]) (s:C)=qx (up m) n:=by rw[pQ,L rfl,hu]
 rw[hFn] at hF;obtain⟨k,rfl,hk⟩:∃k:Nat,n=(k:C)∧k<l.length:=by
  have h1:=hF.subset (KA (up m) n);unfold up at h1;obtain⟨k,hk,e⟩:=List.mem_map.1 h1;exact⟨k,e.symm,by rw[hl];exact List.mem_range.1 hk⟩
 have hnl:=hn s;rw[←hl] at hnl;have hc:c.nl s=l.take m:=by rw[hl,hm];exact h s
 have hml:m≤l.length:=by
  have:=hx.length_le;rw[wT,hu,wT] at this;rw[hl];exact this
 have hname:aN (d.nl s) (k:C)=l[k]:=by rw[←hl];exact pR l hk
 rw[hname];have hoth:∀i:Nat,i≠s→(c.put s l[k]).nl i=(d.nl i).take (bS (xs++[((s:C),(k:C))]) (i:C)).length:=fun i hi=>by
  have e1:(c.put s l[k]).nl i=c.nl i:=if_neg hi;have e2:bS (xs++[((s:C),(k:C))]) (i:C)=bS xs (i:C):=by rw[pQ,N (fun e=>hi (Int.ofNat_inj.1 e).symm)]
  rw[e1,e2];exact h i
 have hput:(c.put s l[k]).nl s=bM (l.take m) l[k]:=by
  have:(c.put s l[k]).nl s=bM (c.nl s) l[k]:=if_pos rfl;rw[this,hc]
 have hno:c.no s l[k]=(nV (l.take m) l[k]:C):=by unfold Cont.no;rw[hc]
 rcases Nat.lt_or_ge k m with hkm|hkm
 ·have hmem:l[k]∈l.take m:=by
   refine List.mem_of_getElem? (i:=k) ?_;rw[List.getElem?_take_of_lt hkm,List.getElem?_eq_getElem hk]
  refine⟨fun i=>?_,?_⟩
  ·by_cases hi:i=s
   ·subst hi
    have e:qx (up m) (k:C)=up m:=by unfold qx;rw[L ((R3 (Int.natCast_nonneg _)).2 (Int.ofNat_lt.2 hkm))]
    rw[hput,BX hmem,hFn,e,wT,hl]
   ·exact hoth i hi
  ·rw[hno,Qr hmem,RZ hnl hk hkm]
 ·have e:qx (up m) (k:C)=up m++[(k:C)]:=by unfold qx;rw[N (fun h=>by have:=(R3 (Int.natCast_nonneg k)).1 h;omega)]
  rw[e] at hF;have ail:k=m:=by
   obtain⟨t,ht⟩:=hF;have h1:(up (d.nl s).length)[m]?=some (k:C):=by
    rw[←ht,U,List.getElem?_append_right (by rw[wT];exact Nat.le_refl _),wT,Nat.sub_self];rfl
   have hlt:m<(d.nl s).length:=by rw[←hl];omega
   rw[acJ hlt] at h1;injection h1 with h1;exact(Int.ofNat_inj.1 h1).symm
  subst ail;have hnm:l[k]∉l.take k:=fun hmem=>by
   obtain⟨j,hj⟩:=List.getElem?_of_mem hmem;obtain⟨h1,h2⟩:=List.getElem?_eq_some_iff.1 hj;rw[List.length_take] at h1;rw[List.getElem_take] at h2;have:=DU hnl ah hk h2;omega
  refine⟨fun i=>?_,?_⟩
  ·by_cases hi:i=s
   ·subst hi
    rw[hput,zx hnm,hFn,e,List.length_append,wT,List.length_singleton,←hl,List.take_add_one,List.getElem?_eq_getElem hk];rfl
   ·exact hoth i hi
  ·rw[hno,Me hnm,List.length_take,Nat.min_eq_left ah]
def lS (l:G Bs) (v:lg):To:=if v.k=0 then⟨[],0⟩ else⟨aN l v.t,v.k⟩
section
variable {d:Cont} (ho:DW d) (hn:∀i,(d.nl i).Nodup)
include ho hn
theorem nJ.acK {c:Cont} {xs:G (C × C)} (h:nJ d xs c) {v:lg} {nt:Nat} (hv:ig v nt=K) (hp:xs++lu v<+:aZ d):nJ d (xs++lu v) (c.bG (lS (d.nl 0) v)).1∧(c.bG (lS (d.nl 0) v)).2=v:=by
 obtain⟨t,k⟩:=v;unfold ig at hv;unfold lu at hp ⊢;unfold Cont.bG lS;by_cases hk:k=0
 ·subst hk
  simp only[if_true,J] at hv;subst hv;simp only[if_true,Int.lt_irrefl,if_false,I];exact⟨h,trivial⟩
 ·simp only[N hk] at hv ⊢
  simp only[A,J] at hv;simp only[L hv.1.2] at hp ⊢;obtain⟨h1,h2⟩:=h.say ho hn (s:=0) ah hp;exact⟨h1,by rw[h2]⟩
theorem nJ.tsS:∀(ds:G C) {c:Cont} {xs:G (C × C)},nJ d xs c→xs++ds.map (fun t=>((0:C),t))<+:aZ d→nJ d (xs++ds.map (fun t=>((0:C),t))) (c.ts (ds.map (aN (d.nl 0)))).1∧(c.ts (ds.map (aN (d.nl 0)))).2=ds
 |[],c,xs,h,_=>by rw[List.map_nil,I];exact⟨h,rfl⟩
 |t::ds,c,xs,h,hp=>by
  have e:xs++(t::ds).map (fun t=>((0:C),t))=(xs++[((0:C),t)])++ds.map (fun t=>((0:C),t)):=by simp
  rw[e] at hp ⊢;obtain⟨h1,h2⟩:=h.say ho hn (s:=0) ah ((H _ _).trans hp);obtain⟨h3,h4⟩:=nJ.tsS ds h1 hp;exact⟨h3,by show _::_=_;rw[h2,h4]⟩
theorem nJ.scS:∀(sc:G Sn) {c:Cont} {xs:G (C × C)},nJ d xs c→(∀s∈sc,ig s.v (d.nl 0).length=K)→xs++sc.flatMap (fun s=>((2:C),s.obj)::lu s.v)<+:aZ d→
  nJ d (xs++sc.flatMap (fun s=>((2:C),s.obj)::lu s.v)) (c.sc (sc.map (fun q=>(aN (d.nl 2) q.obj,lS (d.nl 0) q.v)))).1∧(c.sc (sc.map (fun q=>(aN (d.nl 2) q.obj,lS (d.nl 0) q.v)))).2=sc
 |[],c,xs,h,_,_=>by rw[List.flatMap_nil,I];exact⟨h,rfl⟩
 |s::sc,c,xs,h,hv,hp=>by
  have e:xs++(s::sc).flatMap (fun s=>((2:C),s.obj)::lu s.v)=((xs++[((2:C),s.obj)])++lu s.v)++sc.flatMap (fun s=>((2:C),s.obj)::lu s.v):=by simp
  rw[e] at hp ⊢;obtain⟨h1,h2⟩:=h.say ho hn (s:=2) ah (((H _ _).trans (H _ _)).trans hp);obtain⟨h3,h4⟩:=h1.acK ho hn (hv s List.mem_cons_self) ((H _ _).trans hp);obtain⟨h5,h6⟩:=nJ.scS sc h3 (fun x hx=>hv x (Z _ hx)) hp;refine⟨h5,?_⟩;show _::_=_;rw[h6]
  congr 1
  rw[h2,h4]
end
theorem acM (c:Cont) (a b:Bs) (lv:C):aG c ⟨1,[a,b],lv,[],false,0⟩=((c.put 0 a).put 1 b).ev {Ar with kind:=1,t:=c.no 0 a,bU:=(c.put 0 a).no 1 b,lvl:=lv} []:=rfl
theorem acN (c:Cont) (a b:Bs):aG c ⟨2,[a,b],0,[],false,0⟩=((c.put 0 a).put 2 b).ev {Ar with kind:=2,t:=c.no 0 a,obj:=(c.put 0 a).no 2 b,v:=⟨c.no 0 a,(fK c.E (c.no 0 a) ((c.put 0 a).no 2 b):C)+1⟩} []:=rfl
theorem acO (c:Cont) (a b:Bs) (v:To):aG c ⟨3,[a,b],0,[v],false,0⟩=(((c.put 0 a).put 2 b).bG v).1.ev {Ar with kind:=3,t:=c.no 0 a,obj:=(c.put 0 a).no 2 b,v:=(((c.put 0 a).put 2 b).bG v).2} []:=rfl
theorem acP (c:Cont) (a b:Bs) (ns:G Bs) (vs:G To):aG c ⟨4,[a,b]++ns,0,vs,false,0⟩=(((c.put 0 a).put 3 b).sc (ns.zip vs)).1.ev {Ar with kind:=4,t:=c.no 0 a,pred:=(c.put 0 a).no 3 b} (((c.put 0 a).put 3 b).sc (ns.zip vs)).2:=rfl
theorem acQ (c:Cont) (a:Bs):aG c ⟨5,[a],0,[],false,0⟩=(c.put 0 a).ev {Ar with kind:=5,t:=c.no 0 a} []:=rfl
theorem acR (c:Cont) (a:Bs):aG c ⟨6,[a],0,[],false,0⟩=(c.put 0 a).ev {Ar with kind:=6,t:=c.no 0 a} []:=rfl
theorem acS (c:Cont) (a:Bs) (ns:G Bs):aG c ⟨7,[a]++ns,0,[],false,0⟩={((c.put 2 a).ts ns).1 with D:=c.D++[⟨c.no 2 a,none,0,0⟩],SD:=c.SD++[((c.put 2 a).ts ns).2]}:=rfl
theorem acT (c:Cont) (a b:Bs) (ns:G Bs) (f:Bool):aG c ⟨8,[a,b]++ns,0,[],f,0⟩={(((c.put 3 a).put 2 b).ts ns).1 with M:=c.M++[⟨c.no 3 a,(c.put 3 a).no 2 b,f,none,0,0⟩],SM:=c.SM++[(((c.put 3 a).put 2 b).ts ns).2]}:=rfl
theorem acU (c:Cont) (a:Bs) (b:C):aG c ⟨9,[a],0,[],false,b⟩={c.put 1 a with Q:=c.Q++[⟨c.no 1 a,b⟩]}:=rfl
def mG (d:Cont) (e:EvC) (scan:G Sn):aB:=
 if e.kind=1 then⟨e.kind,[aN (d.nl 0) e.t,aN (d.nl 1) e.bU],e.lvl,[],false,0⟩
 else if e.kind=2 then⟨e.kind,[aN (d.nl 0) e.t,aN (d.nl 2) e.obj],0,[],false,0⟩
 else if e.kind=3 then⟨e.kind,[aN (d.nl 0) e.t,aN (d.nl 2) e.obj],0,[lS (d.nl 0) e.v],false,0⟩
 else if e.kind=4 then⟨e.kind,[aN (d.nl 0) e.t,aN (d.nl 3) e.pred]++scan.map (fun q=>aN (d.nl 2) q.obj),0,scan.map (fun q=>lS (d.nl 0) q.v),false,0⟩
 else⟨e.kind,[aN (d.nl 0) e.t],0,[],false,0⟩
structure Added (c z:Cont) (e:EvC) (l:G Sn):Prop where
 E:z.E=c.E++[e]
 SE:z.SE=c.SE++[l]
 D:z.D=c.D
 SD:z.SD=c.SD
 M:z.M=c.M
 SM:z.SM=c.SM
 Q:z.Q=c.Q
theorem Added.of {c z:Cont} (n:Nm c z) (e:EvC) (l:G Sn):Added c (z.ev e l) e l:=
 ⟨by show z.E++[e]=_;rw[n.e],by show z.SE++[l]=_;rw[n.se],n.d,n.sd,n.m,n.sm,n.q⟩
theorem KE {α β γ:Type} (f:α→β) (g:α→γ):∀l:G α,(l.map f).zip (l.map g)=l.map (fun x=>(f x,g x))
 |[]=>rfl
 |x::l=>by rw[List.map_cons,List.map_cons,List.zip_cons_cons,KE f g l];rfl
theorem nJ.event {d c:Cont} {xs:G (C × C)} (ho:DW d) (hn:∀i,(d.nl i).Nodup) (h:nJ d xs c) {e:EvC} {l:G Sn} {ns no np:Nat} (he:gP (d.nl 0).length ns no np e l=K) (hb:e.base=e)
  (hp:xs++mD e l<+:aZ d) (hk:e.kind=2→e.v.k=(fK c.E e.t e.obj:C)+1):nJ d (xs++mD e l) (aG c (mG d e l))∧Added c (aG c (mG d e l)) e l:=by
 obtain⟨kd,t,bU,lvl,obj,v,pred,sa,sn,sc⟩:=e;have hb':(⟨kd,t,bU,lvl,obj,v,pred,none,0,0⟩:EvC)=⟨kd,t,bU,lvl,obj,v,pred,sa,sn,sc⟩:=hb;simp only[EvC.mk.injEq,true_and] at hb';obtain⟨rfl,rfl,rfl⟩:=hb';simp only[gP,A,J] at he;obtain⟨⟨⟨⟨h1,h7⟩,_⟩,hh⟩,hbr⟩:=he;have hkk:kd=1∨kd=2∨kd=3∨kd=4∨kd=5∨kd=6:=by omega
 rcases hkk with rfl|rfl|rfl|rfl|rfl|rfl
 ·simp[dZ] at hbr
  obtain⟨⟨⟨rfl,rfl⟩,rfl⟩,rfl⟩:=hbr;have e1:mD ⟨1,t,bU,lvl,0,⟨0,0⟩,0,none,0,0⟩ []=[((0:C),t)]++[((1:C),bU)]:=rfl;rw[e1] at hp ⊢;rw[←U] at hp ⊢;obtain⟨h2,h3⟩:=h.say ho hn (s:=0) ah ((H _ _).trans hp);obtain⟨h4,h5⟩:=h2.say ho hn (s:=1) ah hp;have e2:mG d ⟨1,t,bU,lvl,0,⟨0,0⟩,0,none,0,0⟩ []=⟨1,[aN (d.nl 0) t,aN (d.nl 1) bU],lvl,[],false,0⟩:=rfl;rw[e2,acM,h3,h5];exact⟨h4,Added.of ((Nm.put _ _ _).trans (Nm.put _ _ _)) _ _⟩
 ·simp[dZ] at hbr
  simp[hasB] at hh;obtain⟨⟨⟨rfl,rfl⟩,rfl⟩,rfl⟩:=hbr;have hkv:=hk rfl;simp only at hkv;obtain⟨vt,vk⟩:=v;simp only at hkv hh;obtain⟨⟨⟨_,_⟩,rfl⟩,hk0⟩:=hh;have e1:mD ⟨2,vt,0,0,obj,⟨vt,vk⟩,0,none,0,0⟩ []=[((0:C),vt)]++([((2:C),obj)]++[((0:C),vt)]):=by
   unfold mD lu;simp[hk0]
  rw[e1] at hp ⊢;rw[←U,←U] at hp ⊢;obtain⟨h2,h3⟩:=h.say ho hn (s:=0) ah (((H _ _).trans (H _ _)).trans hp);obtain⟨h4,h5⟩:=h2.say ho hn (s:=2) ah ((H _ _).trans hp);obtain⟨h6,h7⟩:=h4.say ho hn (s:=0) ah hp;have e2:mG d ⟨2,vt,0,0,obj,⟨vt,vk⟩,0,none,0,0⟩ []=⟨2,[aN (d.nl 0) vt,aN (d.nl 2) obj],0,[],false,0⟩:=rfl;rw[e2,acN,h3,h5,←hkv];refine⟨fun i=>?_,Added.of ((Nm.put _ _ _).trans (Nm.put _ _ _)) _ _⟩;refine Eq.trans ?_ (h6 i);show _=(if i=0 then bM (((c.put 0 (aN (d.nl 0) vt)).put 2 (aN (d.nl 2) obj)).nl 0) (aN (d.nl 0) vt) else((c.put 0 (aN (d.nl 0) vt)).put 2 (aN (d.nl 2) obj)).nl i);by_cases hi:i=0
  ·subst hi
   rw[L rfl,BX]
   ·rfl
   ·have h9:((c.put 0 (aN (d.nl 0) vt)).put 2 (aN (d.nl 2) obj)).nl 0=bM (c.nl 0) (aN (d.nl 0) vt):=rfl
    rw[h9];exact zX _ _
  ·rw[N hi];rfl
 ·simp[dZ] at hbr
  simp[hasB] at hh;obtain⟨⟨⟨rfl,rfl⟩,rfl⟩,rfl⟩:=hbr;have e1:mD ⟨3,t,0,0,obj,v,0,none,0,0⟩ []=[((0:C),t)]++([((2:C),obj)]++lu v):=by
   unfold mD;simp
  rw[e1] at hp ⊢;rw[←U,←U] at hp ⊢;obtain⟨h2,h3⟩:=h.say ho hn (s:=0) ah (((H _ _).trans (H _ _)).trans hp);obtain⟨h4,h5⟩:=h2.say ho hn (s:=2) ah ((H _ _).trans hp);obtain⟨h6,h7⟩:=h4.acK ho hn hh.2 hp;have e2:mG d ⟨3,t,0,0,obj,v,0,none,0,0⟩ []=⟨3,[aN (d.nl 0) t,aN (d.nl 2) obj],0,[lS (d.nl 0) v],false,0⟩:=rfl;rw[e2,acO,h3,h5,h7];exact⟨h6,Added.of (((Nm.put _ _ _).trans (Nm.put _ _ _)).trans (Nm.bG _ _)) _ _⟩
 ·simp[dZ] at hbr
  simp[hasB] at hh;obtain⟨⟨⟨rfl,rfl⟩,rfl⟩,rfl⟩:=hbr;have e1:mD ⟨4,t,0,0,0,⟨0,0⟩,pred,none,0,0⟩ l=[((0:C),t)]++([((3:C),pred)]++l.flatMap (fun s=>((2:C),s.obj)::lu s.v)):=by
   unfold mD;simp
  rw[e1] at hp ⊢;rw[←U,←U] at hp ⊢;obtain⟨h2,h3⟩:=h.say ho hn (s:=0) ah (((H _ _).trans (H _ _)).trans hp);obtain⟨h4,h5⟩:=h2.say ho hn (s:=3) ah ((H _ _).trans hp);obtain⟨h6,h7⟩:=h4.scS ho hn l (fun s hs=>by
   have:=hh.2 s hs;simp only[jJ,A] at this;exact this.2) hp
  have e2:mG d ⟨4,t,0,0,0,⟨0,0⟩,pred,none,0,0⟩ l=⟨4,[aN (d.nl 0) t,aN (d.nl 3) pred]++l.map (fun q=>aN (d.nl 2) q.obj),0,l.map (fun q=>lS (d.nl 0) q.v),false,0⟩:=rfl;rw[e2,acP,KE,h3,h5,h7];exact⟨h6,Added.of (((Nm.put _ _ _).trans (Nm.put _ _ _)).trans (Nm.sc _ _)) _ _⟩
 ·simp[dZ] at hbr
  obtain⟨⟨⟨⟨⟨rfl,rfl⟩,rfl⟩,rfl⟩,rfl⟩,rfl⟩:=hbr;have e1:mD ⟨5,t,0,0,0,⟨0,0⟩,0,none,0,0⟩ []=[((0:C),t)]:=rfl;rw[e1] at hp ⊢;obtain⟨h2,h3⟩:=h.say ho hn (s:=0) ah hp;have e2:mG d ⟨5,t,0,0,0,⟨0,0⟩,0,none,0,0⟩ []=⟨5,[aN (d.nl 0) t],0,[],false,0⟩:=rfl;rw[e2,acQ,h3];exact⟨h2,Added.of (Nm.put _ _ _) _ _⟩
 ·simp[dZ] at hbr
  obtain⟨⟨⟨⟨⟨rfl,rfl⟩,rfl⟩,rfl⟩,rfl⟩,rfl⟩:=hbr;have e1:mD ⟨6,t,0,0,0,⟨0,0⟩,0,none,0,0⟩ []=[((0:C),t)]:=rfl;rw[e1] at hp ⊢;obtain⟨h2,h3⟩:=h.say ho hn (s:=0) ah hp;have e2:mG d ⟨6,t,0,0,0,⟨0,0⟩,0,none,0,0⟩ []=⟨6,[aN (d.nl 0) t],0,[],false,0⟩:=rfl;rw[e2,acR,h3];exact⟨h2,Added.of (Nm.put _ _ _) _ _⟩
def ze (d:Cont) (x:aH) (l:G C):aB:=⟨7,[aN (d.nl 2) x.obj]++l.map (aN (d.nl 0)),0,[],false,0⟩
def zf (d:Cont) (x:aI) (l:G C):aB:=⟨8,[aN (d.nl 3) x.pred,aN (d.nl 2) x.obj]++l.map (aN (d.nl 0)),0,[],x.first,0⟩
def Cb (d:Cont) (x:Wa):aB:=⟨9,[aN (d.nl 1) x.bU],0,[],false,x.bits⟩
structure Has (c:Cont) (pe:G (EvC × G Sn)) (pd:G (aH × G C)) (pm:G (aI × G C)) (pq:G Wa):Prop where
 E:c.E=pe.map Prod.fst
 SE:c.SE=pe.map Prod.snd
 D:c.D=pd.map Prod.fst
 SD:c.SD=pd.map Prod.snd
 M:c.M=pm.map Prod.fst
 SM:c.SM=pm.map Prod.snd
 Q:c.Q=pq
def jW (d:Cont):Prop:=∀a e b,d.E=a++e::b→e.kind=2→e.v.k=(fK a e.t e.obj:C)+1
structure iT (d:Cont):Prop where
 e:∀e∈d.E,e.base=e
 o:∀x∈d.D,x.base=x
 m:∀x∈d.M,x.base=x
theorem nJ.order {d c:Cont} {xs:G (C × C)} (ho:DW d) (hn:∀i,(d.nl i).Nodup) (h:nJ d xs c) {x:aH} {l:G C} {pe pd pm pq} (hh:Has c pe pd pm pq) (hb:x.base=x) (hp:xs++wN x l<+:aZ d):
  nJ d (xs++wN x l) (aG c (ze d x l))∧Has (aG c (ze d x l)) pe (pd++[(x,l)]) pm pq:=by
 obtain⟨obj,sa,sn,sc⟩:=x;have hb':(⟨obj,none,0,0⟩:aH)=⟨obj,sa,sn,sc⟩:=hb;simp only[aH.mk.injEq,true_and] at hb';obtain⟨rfl,rfl,rfl⟩:=hb';have e1:wN ⟨obj,none,0,0⟩ l=[((2:C),obj)]++l.map (fun t=>((0:C),t)):=rfl;rw[e1] at hp ⊢;rw[←U] at hp ⊢;obtain⟨h2,h3⟩:=h.say ho hn (s:=2) ah ((H _ _).trans hp);obtain⟨h4,h5⟩:=h2.tsS ho hn l hp;have e2:ze d ⟨obj,none,0,0⟩ l=⟨7,[aN (d.nl 2) obj]++l.map (aN (d.nl 0)),0,[],false,0⟩:=rfl;have n:=(Nm.put c 2 (aN (d.nl 2) obj)).trans (Nm.ts (l.map (aN (d.nl 0))) _);rw[e2,acS,h3,h5];exact⟨h4,n.e.trans hh.E,n.se.trans hh.SE,by show c.D++_=_;rw[hh.D,List.map_append];rfl,by show c.SD++_=_;rw[hh.SD,List.map_append];rfl,n.m.trans hh.M,n.sm.trans hh.SM,n.q.trans hh.Q⟩
theorem nJ.XC {d c:Cont} {xs:G (C × C)} (ho:DW d) (hn:∀i,(d.nl i).Nodup) (h:nJ d xs c) {x:aI} {l:G C} {pe pd pm pq} (hh:Has c pe pd pm pq) (hb:x.base=x) (hp:xs++vB x l<+:aZ d):
  nJ d (xs++vB x l) (aG c (zf d x l))∧Has (aG c (zf d x l)) pe pd (pm++[(x,l)]) pq:=by
 obtain⟨pred,obj,fi,sa,sn,sc⟩:=x;have hb':(⟨pred,obj,fi,none,0,0⟩:aI)=⟨pred,obj,fi,sa,sn,sc⟩:=hb;simp only[aI.mk.injEq,true_and] at hb';obtain⟨rfl,rfl,rfl⟩:=hb';have e1:vB ⟨pred,obj,fi,none,0,0⟩ l=[((3:C),pred)]++([((2:C),obj)]++l.map (fun t=>((0:C),t))):=rfl;rw[e1] at hp ⊢;rw[←U,←U] at hp ⊢;obtain⟨h2,h3⟩:=h.say ho hn (s:=3) ah (((H _ _).trans (H _ _)).trans hp);obtain⟨h4,h5⟩:=h2.say ho hn (s:=2) ah ((H _ _).trans hp);obtain⟨h6,h7⟩:=h4.tsS ho hn l hp;have e2:zf d ⟨pred,obj,fi,none,0,0⟩ l=⟨8,[aN (d.nl 3) pred,aN (d.nl 2) obj]++l.map (aN (d.nl 0)),0,[],fi,0⟩:=rfl;have n:=((Nm.put c 3 (aN (d.nl 3) pred)).trans (Nm.put _ 2 (aN (d.nl 2) obj))).trans (Nm.ts (l.map (aN (d.nl 0))) _);rw[e2,acT,h3,h5,h7];exact⟨h6,n.e.trans hh.E,n.se.trans hh.SE,n.d.trans hh.D,n.sd.trans hh.SD,by show c.M++_=_;rw[hh.M,List.map_append];rfl,by show c.SM++_=_;rw[hh.SM,List.map_append];rfl,n.q.trans hh.Q⟩
theorem nJ.want {d c:Cont} {xs:G (C × C)} (ho:DW d) (hn:∀i,(d.nl i).Nodup) (h:nJ d xs c) {x:Wa} {pe pd pm pq} (hh:Has c pe pd pm pq) (hp:xs++uK x<+:aZ d):
  nJ d (xs++uK x) (aG c (Cb d x))∧Has (aG c (Cb d x)) pe pd pm (pq++[x]):=by
 obtain⟨bU,bits⟩:=x;have e1:uK ⟨bU,bits⟩=[((1:C),bU)]:=rfl;rw[e1] at hp ⊢;obtain⟨h2,h3⟩:=h.say ho hn (s:=1) ah hp;have e2:Cb d ⟨bU,bits⟩=⟨9,[aN (d.nl 1) bU],0,[],false,bits⟩:=rfl;rw[e2,acU,h3];exact⟨h2,hh.E,hh.SE,hh.D,hh.SD,hh.M,hh.SM,by show c.Q++_=_;rw[hh.Q]⟩
def mH (c:Cont) (ls:G aB):Cont:=ls.foldl aG c
theorem Gr.all:∀(ls:G aB) (c:Cont),Gr c (mH c ls)
 |[],c=>Gr.refl c
 |l::ls,c=>(Gr.add c l).trans (Gr.all ls _)
section
variable {d:Cont} (ho:DW d) (hn:∀i,(d.nl i).Nodup) (hs:gJ d) (hb:iT d) (hc:jW d)
include ho hn hs hb hc
omit hc in
omit hc in
omit hs hb hc in
structure p8 (c d:Cont):Prop where
 n:∀i,i<4→c.nl i=d.nl i
 E:c.E=d.E
 SE:c.SE=d.SE
 D:c.D=d.D
 SD:c.SD=d.SD
 M:c.M=d.M
 SM:c.SM=d.SM
 Q:c.Q=d.Q
end
theorem jW.of {c z:Cont} (h:jW c) (e:z.E=c.E):jW z:=fun a x b hx hk=>h a x b (by rw[←e];exact hx) hk
theorem jW.fI {c:Cont} (h:jW c) (e:EvC) (l:G Sn) (he:e.kind=2→e.v.k=(fK c.E e.t e.obj:C)+1):jW (c.ev e l):=by
 intro a x b hx hk;have hx':c.E++[e]=a++x::b:=hx;rcases List.eq_nil_or_concat b with rfl|⟨b',y,rfl⟩
 ·obtain⟨h1,h2⟩:=List.append_inj' hx' rfl
  injection h2 with h2;subst h1 h2;exact he hk
 ·have e2:a++x::(b'++[y])=(a++x::b')++[y]:=by simp
  rw[List.concat_eq_append,e2] at hx';exact h a x b' (List.append_inj' hx' rfl).1 hk
theorem jW.zero:jW iF:=fun a x b hx=>by
 have hx':([]:G EvC)=a++x::b:=hx;simp at hx'
theorem jW.add {c:Cont} (h:jW c) (l:aB):jW (aG c l):=by
 unfold aG;simp only[]
 split
 ·exact jW.fI (h.of rfl) _ [] (fun hk=>by cases hk)
 ·split
  ·exact jW.fI (h.of rfl) _ [] (fun _=>rfl)
  ·split
   ·exact jW.fI (h.of (((Nm.put _ _ _).trans (Nm.put _ _ _)).trans (Nm.bG _ _)).e) _ [] (fun hk=>by cases hk)
   ·split
    ·exact jW.fI (h.of (((Nm.put _ _ _).trans (Nm.put _ _ _)).trans (Nm.sc _ _)).e) _ (((c.put 0 (l.names.getD 0 [])).put 3 (l.names.getD 1 [])).sc ((l.names.drop 2).zip l.aA)).2 (fun hk=>by cases hk)
    ·split
     ·rename_i hk5
      exact jW.fI (h.of rfl) _ [] (fun hk=>by
       have hk':l.kind=2:=hk;omega)
     ·split
      ·exact h.of ((Nm.put _ _ _).trans (Nm.ts _ _)).e
      ·split
       ·exact h.of (((Nm.put _ _ _).trans (Nm.put _ _ _)).trans (Nm.ts _ _)).e
       ·split
        ·exact h.of rfl
        ·exact h
theorem jW.all:∀(ls:G aB) {c:Cont},jW c→jW (mH c ls)
 |[],_,h=>h
 |l::ls,_,h=>jW.all ls (h.add l)
theorem iT.of {c z:Cont} (h:iT c) (n:Nm c z):iT z:=⟨by rw[n.e];exact h.e,by rw[n.d];exact h.o,by rw[n.m];exact h.m⟩
theorem iT.fI {c:Cont} (h:iT c) (e:EvC) (l:G Sn) (he:e.base=e):iT (c.ev e l):=
 ⟨fun x hx=>by
  rcases V.1 hx with hx|hx
  ·exact h.e x hx
  ·rw[O.1 hx];exact he,h.o,h.m⟩
theorem iT.zero:iT iF:=⟨fun x hx=>(by cases hx),fun x hx=>(by cases hx),fun x hx=>(by cases hx)⟩
theorem iT.add {c:Cont} (h:iT c) (l:aB):iT (aG c l):=by
 unfold aG;simp only[]
 split
 ·exact iT.fI (h.of ((Nm.put _ _ _).trans (Nm.put _ _ _))) _ _ rfl
 ·split
  ·exact iT.fI (h.of ((Nm.put _ _ _).trans (Nm.put _ _ _))) _ _ rfl
  ·split
   ·exact iT.fI (h.of (((Nm.put _ _ _).trans (Nm.put _ _ _)).trans (Nm.bG _ _))) _ _ rfl
   ·split
    ·exact iT.fI (h.of (((Nm.put _ _ _).trans (Nm.put _ _ _)).trans (Nm.sc _ _))) _ _ rfl
    ·split
     ·exact iT.fI (h.of (Nm.put _ _ _)) _ _ rfl
     ·split
      ·have k:=h.of ((Nm.put c 2 (l.names.getD 0 [])).trans (Nm.ts (l.names.drop 1) _))
       refine⟨k.e,fun x hx=>?_,k.m⟩;rcases V.1 hx with hx|hx
       ·exact h.o x hx
       ·rw[O.1 hx];rfl
      ·split
       ·have k:=h.of (((Nm.put c 3 (l.names.getD 0 [])).trans (Nm.put _ 2 (l.names.getD 1 []))).trans (Nm.ts (l.names.drop 2) _))
        refine⟨k.e,k.o,fun x hx=>?_⟩;rcases V.1 hx with hx|hx
        ·exact h.m x hx
        ·rw[O.1 hx];rfl
       ·split
        ·exact⟨h.e,h.o,h.m⟩
        ·exact h
theorem iT.all:∀(ls:G aB) {c:Cont},iT c→iT (mH c ls)
 |[],_,h=>h
 |l::ls,_,h=>iT.all ls (h.add l)
theorem KF {c:Cont} {l:aB} (h:l.kind=0):aG c l=c:=by
 unfold aG;simp[h]
theorem gJ.all:∀(ls:G aB) {c:Cont},gJ c→(∀l∈ls,l.kind=0∨dh l)→aD (mH c ls)→gJ (mH c ls)
 |[],_,h,_,_=>h
 |l::ls,c,h,hl,hf=>gJ.all ls (c:=aG c l) (by
  rcases hl l List.mem_cons_self with h0|h0
  ·rw[KF h0];exact h
  ·exact h.add h0 ((Gr.all ls _).fits hf)) (fun x hx=>hl x (Z _ hx)) hf
theorem iT.number (c:Cont):iT (fB c):=
 ⟨fun x hx=>(by obtain⟨y,_,rfl⟩:=List.mem_map.1 hx;rfl),fun x hx=>(by obtain⟨y,_,rfl⟩:=List.mem_map.1 hx;rfl),fun x hx=>(by obtain⟨y,_,rfl⟩:=List.mem_map.1 hx;rfl)⟩
theorem Nh {l:G C} {a b:C} (ha:a∈l) (hb:b∈l) (h:fG l a=fG l b):a=b:=by
 unfold fG at h;rw[L ha,L hb] at h;have h1:=List.getElem_idxOf (List.idxOf_lt_length_of_mem ha);have h2:=List.getElem_idxOf (List.idxOf_lt_length_of_mem hb);have h3:=Int.ofNat_inj.1 h;rw[←h1,←h2];exact getElem_congr_idx h3
theorem R4 {c:Cont} (h:c.E.length=c.SE.length) {e:EvC} (he:e∈c.E):((0:C),e.t)∈aZ c∧(e.kind=2→((2:C),e.obj)∈aZ c):=by
 obtain⟨l,hl⟩:∃l,(e,l)∈c.E.zip c.SE:=by
  have:e∈(c.E.zip c.SE).map Prod.fst:=by rw[List.map_fst_zip (by rw[h];exact Nat.le_refl _)];exact he
  obtain⟨p,hp,rfl⟩:=List.mem_map.1 this;exact⟨p.2,hp⟩
 have hin:∀x∈mD e l,x∈aZ c:=fun x hx=>by
  unfold aZ;exact R _ (R _ (R _ (List.mem_flatMap.2 ⟨(e,l),hl,hx⟩)))
 refine⟨hin _ ?_,fun hk=>hin _ ?_⟩
 ·unfold mD;simp
 ·unfold mD;simp[hk]
theorem jW.number {c:Cont} (h:jW c) (hl:c.E.length=c.SE.length):jW (fB c):=by
 intro a x b hx hk;obtain⟨F,hF⟩:∃F,F=bS (aZ c):=⟨_,rfl⟩;have hx':c.E.map (Yd.fI F)=a++x::b:=by rw[hF];exact hx
 obtain⟨a',r,e1,rfl,e2⟩:=List.map_eq_append_iff.1 hx';obtain⟨x',b',rfl,rfl,rfl⟩:=List.map_eq_cons_iff.1 e2;have hk':x'.kind=2:=hk;have h1:=h a' x' b' e1 hk';have hmem:∀e∈c.E,e.t∈F 0∧(e.kind=2→e.obj∈F 2):=fun e he=>by
  have:=R4 hl he;rw[hF];exact⟨FQ _ this.1,fun k=>FQ _ (this.2 k)⟩
 have hxm:=hmem x' (by rw[e1];simp);have e3:(Yd.fI F x').v.k=x'.v.k:=by
  unfold Yd.fI lF;simp only[hk',true_or,if_true]
  split <;> rfl
 rw[e3,h1]
 congr 2
 unfold fK;rw[List.countP_map];refine List.countP_congr (fun e he=>?_);have hem:=hmem e (by rw[e1];exact R _ he);have eo:∀y:EvC,y.kind=2→(Yd.fI F y).obj=fG (F 2) y.obj:=fun y hy=>by unfold Yd.fI;simp only[hy,true_or,if_true]
 simp only[Function.comp,A,beq_iff_eq]
 constructor
 ·rintro⟨h2,h3,h4⟩
  refine⟨h2,congrArg (fG (F 0)) h3,?_⟩;rw[eo _ h2,eo _ hk',h4]
 ·rintro⟨h2,h3,h4⟩
  have h2':e.kind=2:=h2;rw[eo _ h2',eo _ hk'] at h4;exact⟨h2',Nh hem.1 hxm.1 h3,Nh (hem.2 h2') (hxm.2 hk') h4⟩
section
variable {c:Cont} {F:C→G C}
end
theorem iZ {l z:G Bs} (h:l<+:z) {n:C} (hn:aT n l.length=K):aN z n=aN l n:=by
 simp only[aT,A,J] at hn;obtain⟨k,rfl⟩:∃k:Nat,n=(k:C):=⟨n.toNat,by omega⟩;obtain⟨t,rfl⟩:=h;have hk:k<l.length:=by omega
 rw[pR _ (by rw[List.length_append];omega),pR _ hk,List.getElem_append_left hk]
theorem KG {l z:G Bs} (h:l<+:z) {v:lg} (hv:ig v l.length=K):lS z v=lS l v:=by
 unfold lS;by_cases hk:v.k=0
 ·rw[L hk,L hk]
 ·unfold ig at hv
  rw[N hk] at hv ⊢;simp only[A] at hv;rw[N hk,iZ h hv.1.1]
theorem R5 {c z:Cont} (g:Gr c z) {e:EvC} {l:G Sn} (he:gP (c.nl 0).length (c.nl 1).length (c.nl 2).length (c.nl 3).length e l=K):mG z e l=mG c e l:=by
 simp only[gP,A,J] at he;obtain⟨⟨_,ht⟩,hh⟩:=he.1;unfold hasB at hh;unfold mG;rw[iZ (g.n 0) ht];by_cases h1:e.kind=1
 ·rw[L h1] at hh
  simp only[A] at hh;rw[L h1,L h1,iZ (g.n 1) hh.1]
 ·rw[N h1] at hh ⊢
  rw[N h1];by_cases h2:e.kind=2
  ·rw[L h2] at hh ⊢
   simp only[A] at hh;rw[L h2,iZ (g.n 2) hh.1.1.1]
  ·rw[N h2] at hh ⊢
   rw[N h2];by_cases h3:e.kind=3
   ·rw[L h3] at hh ⊢
    simp only[A] at hh;rw[L h3,iZ (g.n 2) hh.1,KG (g.n 0) hh.2]
   ·rw[N h3] at hh ⊢
    rw[N h3];by_cases h4:e.kind=4
    ·rw[L h4] at hh ⊢
     simp only[A,List.all_eq_true] at hh;have hs:∀s∈l,aT s.obj (c.nl 2).length=K∧ig s.v (c.nl 0).length=K:=fun s hs=>by
      have:=hh.2 s hs
      simpa only[jJ,A] using this
     rw[L h4,iZ (g.n 3) hh.1.1,List.map_congr_left (fun s h=>iZ (g.n 2) (hs s h).1),List.map_congr_left (fun s h=>KG (g.n 0) (hs s h).2)]
    ·rw[N h4,N h4]
theorem GQ {c z:Cont} (g:Gr c z) {l:G C} (h:eP (c.nl 0).length l=K):l.map (aN (z.nl 0))=l.map (aN (c.nl 0)):=by
 simp only[eP,A,List.all_eq_true] at h;exact List.map_congr_left (fun t ht=>iZ (g.n 0) (h.2 t ht))
def lsE (c:Cont):G aB:=(c.E.zip c.SE).map (fun p=>mG c p.1 p.2)
def lsD (c:Cont):G aB:=(c.D.zip c.SD).map (fun p=>ze c p.1 p.2)
def lsM (c:Cont):G aB:=(c.M.zip c.SM).map (fun p=>zf c p.1 p.2)
def lsQ (c:Cont):G aB:=c.Q.map (Cb c)
section
variable {c z:Cont} (h:gJ c) (g:Gr c z)
include h g
theorem Cc:(c.E.zip c.SE).map (fun p=>mG z p.1 p.2)=lsE c:=List.map_congr_left (fun p hp=>R5 g (h.ev p hp))
theorem Ce:(c.D.zip c.SD).map (fun p=>ze z p.1 p.2)=lsD c:=List.map_congr_left (fun p hp=>by
 unfold ze;rw[iZ (g.n 2) (h.od p hp).1,GQ g (h.od p hp).2])
theorem Cg:(c.M.zip c.SM).map (fun p=>zf z p.1 p.2)=lsM c:=List.map_congr_left (fun p hp=>by
 unfold zf;rw[iZ (g.n 3) (h.ma p hp).1,iZ (g.n 2) (h.ma p hp).2.1,GQ g (h.ma p hp).2.2])
theorem Ch:c.Q.map (Cb z)=lsQ c:=List.map_congr_left (fun p hp=>by
 unfold Cb;rw[iZ (g.n 1) (h.wa p hp).1])
end
theorem eU {c z:Cont} {i:Nat} {s:Bs} (g:Gr (c.put i s) z):aN (z.nl i) (c.no i s)=s:=by
 have e:(c.put i s).nl i=bM (c.nl i) s:=if_pos rfl;rw[iZ (g.n i) (eB c i s),e];have hi:=List.idxOf_lt_length_of_mem (zX (c.nl i) s);show aN _ ((nV (c.nl i) s:Nat):C)=s;have e2:nV (c.nl i) s=(bM (c.nl i) s).idxOf s:=rfl;rw[e2,pR _ hi,List.getElem_idxOf]
theorem KH {c z:Cont} {v:To} (hv:gZ v) (g:Gr (c.bG v).1 z):lS (z.nl 0) (c.bG v).2=v:=by
 rcases hv with rfl|⟨_,h0,_⟩
 ·rfl
 ·have hk:¬v.k=0:=by omega
  have e1:c.bG v=(c.put 0 v.name,⟨c.no 0 v.name,v.k⟩):=by unfold Cont.bG;rw[N hk]
  rw[e1] at g ⊢;unfold lS;simp only[N hk];rw[eU g]
theorem DX:∀(l:G Bs) {c z:Cont},Gr (c.ts l).1 z→(c.ts l).2.map (aN (z.nl 0))=l
 |[],_,_,_=>rfl
 |s::r,c,z,g=>by
  show aN (z.nl 0) (c.no 0 s)::((c.put 0 s).ts r).2.map (aN (z.nl 0))=s::r;rw[DX r g,eU ((Gr.ts r _).trans g)]
theorem KI:∀(l:G (Bs × To)) {c z:Cont},(∀p∈l,gZ p.2)→Gr (c.sc l).1 z→(c.sc l).2.map (fun q=>aN (z.nl 2) q.obj)=l.map Prod.fst∧(c.sc l).2.map (fun q=>lS (z.nl 0) q.v)=l.map Prod.snd
 |[],_,_,_,_=>⟨rfl,rfl⟩
 |p::r,c,z,hp,g=>by
  obtain⟨h1,h2⟩:=KI r (fun q hq=>hp q (Z _ hq)) g;have g1:=(Gr.sc r ((c.put 2 p.1).bG p.2).1).trans g
  constructor
  ·show aN (z.nl 2) (c.no 2 p.1)::_=p.1::_
   rw[h1,eU ((Gr.bG _ p.2).trans g1)]
  ·show lS (z.nl 0) ((c.put 2 p.1).bG p.2).2::_=p.2::_
   rw[h2,KH (hp p List.mem_cons_self) g1]
structure jK (c z:Cont) (e d m q:G aB):Prop where
 e:lsE z=lsE c++e
 d:lsD z=lsD c++d
 m:lsM z=lsM c++m
 q:lsQ z=lsQ c++q
theorem jK.fI {c y:Cont} (h:gJ c) (g:Gr c y) (n:Nm c y) (e:EvC) (l:G Sn) (x:aB) (hx:mG (y.ev e l) e l=x):jK c (y.ev e l) [x] [] [] []:=by
 have g2:=g.trans (Gr.ev y e l);refine⟨?_,?_,?_,?_⟩
 ·show((y.E++[e]).zip (y.SE++[l])).map _=_
  rw[n.e,n.se,uw h.le,List.map_append,Cc h g2,List.map_singleton,hx]
 ·show(y.D.zip y.SD).map _=_
  rw[n.d,n.sd,I];exact Ce h g2
 ·show(y.M.zip y.SM).map _=_
  rw[n.m,n.sm,I];exact Cg h g2
 ·show y.Q.map _=_
  rw[n.q,I];exact Ch h g2
def pV (a b:C) (l:aB):G aB:=if a≤l.kind∧l.kind≤b then [l] else []
theorem mI {a b:C} {l:aB} (h:a≤l.kind∧l.kind≤b):pV a b l=[l]:=if_pos h
theorem fA {a b:C} {l:aB} (h:¬(a≤l.kind∧l.kind≤b)):pV a b l=[]:=if_neg h
theorem jK.add {c:Cont} (h:gJ c) {l:aB} (hl:dh l):jK c (aG c l) (pV 1 6 l) (pV 7 7 l) (pV 8 8 l) (pV 9 9 l):=by
 obtain⟨kd,ns,lv,vs,fi,bt⟩:=l;obtain⟨hw,hv,hc⟩:=hl;simp only at hw hv hc;rcases hc with⟨rfl,h1,rfl,⟨lw,rfl,h3,h4⟩,rfl,rfl⟩|⟨rfl,h1,rfl,rfl,rfl,rfl⟩|⟨rfl,h1,h2,rfl,rfl,rfl⟩|⟨rfl,⟨cc,h1,h2,h2'⟩,_,rfl,rfl,rfl⟩|⟨rfl,h1,rfl,rfl,rfl,rfl⟩|⟨rfl,h1,rfl,rfl,rfl,rfl⟩|⟨rfl,⟨cc,h1,h2'⟩,rfl,rfl,rfl,rfl⟩|⟨rfl,⟨cc,h1,h2'⟩,rfl,rfl,_,rfl⟩|⟨rfl,h1,rfl,rfl,rfl,⟨bb,rfl,h5⟩⟩
 ·obtain⟨a,b,rfl⟩:=za h1
  have g:=Gr.put (c.put 0 a) 1 b;refine jK.fI h ((Gr.put c 0 a).trans g) ((Nm.put c 0 a).trans (Nm.put _ 1 b)) _ _ _ ?_;show(⟨1,[aN (((c.put 0 a).put 1 b).nl 0) (c.no 0 a),aN (((c.put 0 a).put 1 b).nl 1) ((c.put 0 a).no 1 b)],_,[],false,0⟩:aB)=_;rw[eU g,eU (Gr.refl _)]
 ·obtain⟨a,b,rfl⟩:=za h1
  have g:=Gr.put (c.put 0 a) 2 b;refine jK.fI h ((Gr.put c 0 a).trans g) ((Nm.put c 0 a).trans (Nm.put _ 2 b)) _ _ _ ?_;show(⟨2,[aN (((c.put 0 a).put 2 b).nl 0) (c.no 0 a),aN (((c.put 0 a).put 2 b).nl 2) ((c.put 0 a).no 2 b)],_,[],false,0⟩:aB)=_;rw[eU g,eU (Gr.refl _)]
 ·obtain⟨a,b,rfl⟩:=za h1
  obtain⟨v,rfl⟩:=u7 h2;have hvv:=hv v ak;have g1:=Gr.bG ((c.put 0 a).put 2 b) v;have g:=(Gr.put (c.put 0 a) 2 b).trans g1;refine jK.fI h ((Gr.put c 0 a).trans g) (((Nm.put c 0 a).trans (Nm.put _ 2 b)).trans (Nm.bG _ v)) _ _ _ ?_;show(⟨3,[aN ((((c.put 0 a).put 2 b).bG v).1.nl 0) (c.no 0 a),aN ((((c.put 0 a).put 2 b).bG v).1.nl 2) ((c.put 0 a).no 2 b)],_,[lS ((((c.put 0 a).put 2 b).bG v).1.nl 0) (((c.put 0 a).put 2 b).bG v).2],false,0⟩:aB)=_;rw[eU g,eU g1,KH hvv (Gr.refl _)]
 ·match ns,h1 with
  |a::b::ns,h1=>
  have hz:∀p∈ns.zip vs,gZ p.2:=fun p hp=>hv _ (List.of_mem_zip hp).2
  have hlen:ns.length=vs.length:=by simp only[List.length_cons] at h1;omega
  have g1:=Gr.sc (ns.zip vs) ((c.put 0 a).put 3 b);have g:=(Gr.put (c.put 0 a) 3 b).trans g1;refine jK.fI h ((Gr.put c 0 a).trans g) (((Nm.put c 0 a).trans (Nm.put _ 3 b)).trans (Nm.sc (ns.zip vs) _)) _ _ _ ?_;obtain⟨h6,h7⟩:=KI (ns.zip vs) hz (Gr.refl (((c.put 0 a).put 3 b).sc (ns.zip vs)).1);show(⟨4,[aN ((((c.put 0 a).put 3 b).sc (ns.zip vs)).1.nl 0) (c.no 0 a),aN ((((c.put 0 a).put 3 b).sc (ns.zip vs)).1.nl 3) ((c.put 0 a).no 3 b)]++(((c.put 0 a).put 3 b).sc (ns.zip vs)).2.map (fun q=>aN ((((c.put 0 a).put 3 b).sc (ns.zip vs)).1.nl 2) q.obj),_,(((c.put 0 a).put 3 b).sc (ns.zip vs)).2.map (fun q=>lS ((((c.put 0 a).put 3 b).sc (ns.zip vs)).1.nl 0) q.v),false,0⟩:aB)=_;rw[h6,h7,eU g,eU g1,List.map_fst_zip ah,List.map_snd_zip ah]
  rfl
 ·obtain⟨a,rfl⟩:=u7 h1
  refine jK.fI h (Gr.put c 0 a) (Nm.put c 0 a) _ _ _ ?_;show(⟨5,[aN ((c.put 0 a).nl 0) (c.no 0 a)],_,[],false,0⟩:aB)=_;rw[eU (Gr.refl _)]
 ·obtain⟨a,rfl⟩:=u7 h1
  refine jK.fI h (Gr.put c 0 a) (Nm.put c 0 a) _ _ _ ?_;show(⟨6,[aN ((c.put 0 a).nl 0) (c.no 0 a)],_,[],false,0⟩:aB)=_;rw[eU (Gr.refl _)]
 ·match ns,h1 with
  |a::ns,h1=>
  have g1:=Gr.ts ns (c.put 2 a);have g:=(Gr.put c 2 a).trans g1;have n:=(Nm.put c 2 a).trans (Nm.ts ns (c.put 2 a));rw[fA ak,mI ak,fA ak,fA ak];obtain⟨y,hy⟩:∃y,y=((c.put 2 a).ts ns).1:=⟨_,rfl⟩;obtain⟨r,hr⟩:∃r,r=((c.put 2 a).ts ns).2:=⟨_,rfl⟩;have e0:aG c ⟨7,a::ns,0,[],false,0⟩={y with D:=c.D++[⟨c.no 2 a,none,0,0⟩],SD:=c.SD++[r]}:=by rw[hy,hr];rfl
  have h6:r.map (aN (y.nl 0))=ns:=by rw[hy,hr];exact DX ns (Gr.refl _)
  have h7:aN (y.nl 2) (c.no 2 a)=a:=by rw[hy];exact eU g1
  rw[←hy] at g n;have g2:Gr c {y with D:=c.D++[⟨c.no 2 a,none,0,0⟩],SD:=c.SD++[r]}:=⟨g.n,g.e,H _ _,g.m,g.q⟩;rw[e0];refine⟨?_,?_,?_,?_⟩
  ·exact(congrArg (List.map _) (congr (congrArg List.zip n.e) n.se)).trans ((Cc h g2).trans (I _).symm)
  ·show((c.D++[_]).zip (c.SD++[r])).map _=_
   rw[uw h.ld,List.map_append,Ce h g2,List.map_singleton];show _++[(⟨7,[aN (y.nl 2) (c.no 2 a)]++r.map (aN (y.nl 0)),0,[],false,0⟩:aB)]=_;rw[h6,h7];rfl
  ·exact(congrArg (List.map _) (congr (congrArg List.zip n.m) n.sm)).trans ((Cg h g2).trans (I _).symm)
  ·exact(congrArg (List.map _) n.q).trans ((Ch h g2).trans (I _).symm)
 ·match ns,h1 with
  |a::b::ns,h1=>
  have g1:=Gr.ts ns ((c.put 3 a).put 2 b);have g3:=(Gr.put (c.put 3 a) 2 b).trans g1;have g:=(Gr.put c 3 a).trans g3;have n:=((Nm.put c 3 a).trans (Nm.put (c.put 3 a) 2 b)).trans (Nm.ts ns _);rw[fA ak,fA ak,mI ak,fA ak];obtain⟨y,hy⟩:∃y,y=(((c.put 3 a).put 2 b).ts ns).1:=⟨_,rfl⟩;obtain⟨r,hr⟩:∃r,r=(((c.put 3 a).put 2 b).ts ns).2:=⟨_,rfl⟩;have e0:aG c ⟨8,a::b::ns,0,[],fi,0⟩={y with M:=c.M++[⟨c.no 3 a,(c.put 3 a).no 2 b,fi,none,0,0⟩],SM:=c.SM++[r]}:=by rw[hy,hr];rfl
  have h6:r.map (aN (y.nl 0))=ns:=by rw[hy,hr];exact DX ns (Gr.refl _)
  have h7:aN (y.nl 3) (c.no 3 a)=a:=by rw[hy];exact eU g3
  have h8:aN (y.nl 2) ((c.put 3 a).no 2 b)=b:=by rw[hy];exact eU g1
  rw[←hy] at g n;have g2:Gr c {y with M:=c.M++[⟨c.no 3 a,(c.put 3 a).no 2 b,fi,none,0,0⟩],SM:=c.SM++[r]}:=⟨g.n,g.e,g.d,H _ _,g.q⟩;rw[e0];refine⟨?_,?_,?_,?_⟩
  ·exact(congrArg (List.map _) (congr (congrArg List.zip n.e) n.se)).trans ((Cc h g2).trans (I _).symm)
  ·exact(congrArg (List.map _) (congr (congrArg List.zip n.d) n.sd)).trans ((Ce h g2).trans (I _).symm)
  ·show((c.M++[_]).zip (c.SM++[r])).map _=_
   rw[uw h.lm,List.map_append,Cg h g2,List.map_singleton];show _++[(⟨8,[aN (y.nl 3) (c.no 3 a),aN (y.nl 2) ((c.put 3 a).no 2 b)]++r.map (aN (y.nl 0)),0,[],fi,0⟩:aB)]=_;rw[h6,h7,h8];rfl
  ·exact(congrArg (List.map _) n.q).trans ((Ch h g2).trans (I _).symm)
 ·obtain⟨a,rfl⟩:=u7 h1
  rw[fA ak,fA ak,fA ak,mI ak];have e0:aG c ⟨9,[a],0,[],false,(bb:C)⟩={c.put 1 a with Q:=c.Q++[⟨c.no 1 a,(bb:C)⟩]}:=rfl;have g:=Gr.put c 1 a;have g2:Gr c {c.put 1 a with Q:=c.Q++[⟨c.no 1 a,(bb:C)⟩]}:=⟨g.n,g.e,g.d,g.m,H _ _⟩;rw[e0];refine⟨?_,?_,?_,?_⟩
  ·exact(Cc (c:=c) h g2).trans (I _).symm
  ·exact(Ce (c:=c) h g2).trans (I _).symm
  ·exact(Cg (c:=c) h g2).trans (I _).symm
  ·show(c.Q++[_]).map _=_
   rw[List.map_append,Ch h g2,List.map_singleton];show _++[(⟨9,[aN ((c.put 1 a).nl 1) (c.no 1 a)],0,[],false,(bb:C)⟩:aB)]=_;rw[eU (Gr.refl _)]
theorem jK.trans {c y z:Cont} {e d m q e' d' m' q':G aB} (h:jK c y e d m q) (k:jK y z e' d' m' q'):jK c z (e++e') (d++d') (m++m') (q++q'):=
 ⟨by rw[k.e,h.e,U],by rw[k.d,h.d,U],by rw[k.m,h.m,U],by rw[k.q,h.q,U]⟩
theorem jK.refl (c:Cont):jK c c [] [] [] []:=⟨by rw[I],by rw[I],by rw[I],by rw[I]⟩
theorem jK.all:∀(ls:G aB) {c:Cont},gJ c→(∀l∈ls,l.kind=0∨dh l)→aD (mH c ls)→jK c (mH c ls) (ls.flatMap (pV 1 6)) (ls.flatMap (pV 7 7)) (ls.flatMap (pV 8 8)) (ls.flatMap (pV 9 9))
 |[],c,_,_,_=>jK.refl c
 |l::ls,c,h,hl,hf=>by
  have h2:=fun x hx=>hl x (Z l hx)
  rw[List.flatMap_cons,List.flatMap_cons,List.flatMap_cons,List.flatMap_cons];rcases hl l List.mem_cons_self with h0|h0
  ·have e:mH c (l::ls)=mH c ls:=by show mH (aG c l) ls=_;rw[KF h0]
   rw[e] at hf ⊢;rw[fA ah,fA ah,fA ah,fA ah];exact jK.all ls h h2 hf
  ·have hs:=h.add h0 ((Gr.all ls _).fits hf)
   exact(jK.add h h0).trans (jK.all ls hs h2 hf)
def Adds (f:Cont→Cont) (S:Nat→Bs→Prop):Prop:=∀c,(∀i x,x∈(f c).nl i↔x∈c.nl i∨S i x)∧((∀i,(c.nl i).Nodup)→∀i,((f c).nl i).Nodup)
theorem Adds.put (j:Nat) (s:Bs):Adds (fun c=>c.put j s) (fun i x=>i=j∧x=s):=fun c=>by
 constructor
 ·intro i x
  show x∈(if i=j then bM (c.nl j) s else c.nl i)↔_
  split
  ·rename_i h
   subst h
   constructor
   ·intro h
    unfold bM at h
    split at h
    ·exact .inl h
    ·rcases V.1 h with h|h
     ·exact .inl h
     ·exact .inr ⟨rfl,O.1 h⟩
   ·rintro(h|⟨_,rfl⟩)
    ·exact(DT _ _).subset h
    ·exact zX _ _
  ·rename_i h
   simp[h]
 ·intro hn i
  show(if i=j then bM (c.nl j) s else c.nl i).Nodup
  split
  ·exact zV (hn j)
  ·exact hn i
theorem Adds.id:Adds (fun c=>c) (fun _ _=>False):=fun c=>⟨fun i x=>by simp,fun h=>h⟩
theorem Adds.comp {f g:Cont→Cont} {S T:Nat→Bs→Prop} (h:Adds f S) (k:Adds g T):Adds (fun c=>g (f c)) (fun i x=>S i x∨T i x):=fun c=>
 ⟨fun i x=>by rw[((k (f c)).1 i x),((h c).1 i x),or_assoc],fun hn=>(k (f c)).2 ((h c).2 hn)⟩
theorem Adds.eq {f g:Cont→Cont} {S:Nat→Bs→Prop} (h:Adds f S) (e:∀c i,(g c).nl i=(f c).nl i):Adds g S:=fun c=>
 ⟨fun i x=>by rw[e];exact(h c).1 i x,fun hn i=>by rw[e];exact(h c).2 hn i⟩
theorem Adds.bG (v:To):∃S,Adds (fun c=>(c.bG v).1) S:=by
 by_cases hk:v.k=0
 ·exact⟨_,Adds.id.eq (fun c i=>by unfold Cont.bG;rw[L hk])⟩
 ·exact⟨_,(Adds.put 0 v.name).eq (fun c i=>by unfold Cont.bG;rw[N hk])⟩
theorem Adds.ts:∀l:G Bs,∃S,Adds (fun c=>(c.ts l).1) S
 |[]=>⟨_,Adds.id⟩
 |s::r=>by
  obtain⟨S,h⟩:=Adds.ts r;exact⟨_,(Adds.put 0 s).comp h⟩
theorem Adds.sc:∀l:G (Bs × To),∃S,Adds (fun c=>(c.sc l).1) S
 |[]=>⟨_,Adds.id⟩
 |p::r=>by
  obtain⟨S,h⟩:=Adds.sc r;obtain⟨T,k⟩:=Adds.bG p.2;exact⟨_,((Adds.put 2 p.1).comp k).comp h⟩
theorem Adds.add (l:aB):∃S,Adds (fun c=>aG c l) S:=by
 obtain⟨S1,k1⟩:=Adds.bG (l.aA.getD 0 ⟨[],0⟩);obtain⟨S2,k2⟩:=Adds.sc ((l.names.drop 2).zip l.aA);obtain⟨S3,k3⟩:=Adds.ts (l.names.drop 1);obtain⟨S4,k4⟩:=Adds.ts (l.names.drop 2);unfold aG;simp only[]
 split
 ·exact⟨_,((Adds.put 0 _).comp (Adds.put 1 _)).eq (fun c i=>rfl)⟩
 ·split
  ·exact⟨_,((Adds.put 0 _).comp (Adds.put 2 _)).eq (fun c i=>rfl)⟩
  ·split
   ·exact⟨_,(((Adds.put 0 _).comp (Adds.put 2 _)).comp k1).eq (fun c i=>rfl)⟩
   ·split
    ·exact⟨_,(((Adds.put 0 _).comp (Adds.put 3 _)).comp k2).eq (fun c i=>rfl)⟩
    ·split
     ·exact⟨_,(Adds.put 0 _).eq (fun c i=>rfl)⟩
     ·split
      ·exact⟨_,((Adds.put 2 _).comp k3).eq (fun c i=>rfl)⟩
      ·split
       ·exact⟨_,(((Adds.put 3 _).comp (Adds.put 2 _)).comp k4).eq (fun c i=>rfl)⟩
       ·split
        ·exact⟨_,(Adds.put 1 _).eq (fun c i=>rfl)⟩
        ·exact⟨_,Adds.id⟩
def Says (l:aB) (i:Nat) (x:Bs):Prop:=x∈(aG iF l).nl i
theorem Says.zero {l:aB} (h:l.kind=0) (i:Nat) (x:Bs):¬Says l i x:=fun k=>by
 unfold Says at k;rw[KF h] at k
 cases k
def BB (c:Cont):Prop:=∀e∈c.E,aT e.t (c.nl 0).length=K∧(e.kind=2→aT e.obj (c.nl 2).length=K)
def wU (c:Cont) (e:EvC):C × Bs × Bs:=(e.kind,aN (c.nl 0) e.t,if e.kind=2 then aN (c.nl 2) e.obj else [])
def FR (l:aB):C × Bs × Bs:=(l.kind,l.names.getD 0 [],if l.kind=2 then l.names.getD 1 [] else [])
def keys (c:Cont):G (C × Bs × Bs):=c.E.map (wU c)
theorem Zv {c z:Cont} (g:Gr c z) {e:EvC} (h:aT e.t (c.nl 0).length=K∧(e.kind=2→aT e.obj (c.nl 2).length=K)):wU z e=wU c e:=by
 unfold wU;rw[iZ (g.n 0) h.1];by_cases hk:e.kind=2
 ·rw[L hk,L hk,iZ (g.n 2) (h.2 hk)]
 ·rw[N hk,N hk]
theorem BB.grow {c z:Cont} (h:BB c) (g:Gr c z) (n:z.E=c.E):BB z∧keys z=keys c:=by
 constructor
 ·intro e he
  rw[n] at he;exact⟨bJ (h e he).1 (g.len 0),fun hk=>bJ ((h e he).2 hk) (g.len 2)⟩
 ·unfold keys
  rw[n];exact List.map_congr_left (fun e he=>Zv g (h e he))
theorem BB.fI {c y:Cont} (h:BB c) (g:Gr c y) (n:Nm c y) (e:EvC) (s:G Sn) (ht:aT e.t (y.nl 0).length=K) (ho:e.kind=2→aT e.obj (y.nl 2).length=K) {k:C × Bs × Bs} (hk:wU y e=k):
  BB (y.ev e s)∧keys (y.ev e s)=keys c++[k]:=by
 obtain⟨h1,h2⟩:=h.grow g n.e
 constructor
 ·intro x hx
  rcases V.1 hx with hx|hx
  ·exact h1 x hx
  ·rw[O.1 hx];exact⟨ht,ho⟩
 ·show(y.E++[e]).map (wU y)=_
  rw[List.map_append,List.map_singleton,hk];exact congrArg (·++[k]) h2
theorem BB.zero:BB iF:=fun e he=>by cases he
theorem BB.add {c:Cont} (h:BB c) (l:aB):BB (aG c l)∧keys (aG c l)=keys c++(pV 1 6 l).map FR:=by
 unfold aG;simp only[]
 split
 ·rename_i hk
  rw[mI ah,List.map_singleton];refine h.fI ((Gr.put c 0 _).trans (Gr.put _ 1 _)) ((Nm.put c 0 _).trans (Nm.put _ 1 _)) _ _ (bJ (eB c 0 _) ((Gr.put _ 1 _).len 0)) (fun k=>by cases k) ?_;unfold wU FR;rw[eU (Gr.put _ 1 _),hk];rfl
 ·split
  ·rename_i hk
   rw[mI ah,List.map_singleton];refine h.fI ((Gr.put c 0 _).trans (Gr.put _ 2 _)) ((Nm.put c 0 _).trans (Nm.put _ 2 _)) _ _ (bJ (eB c 0 _) ((Gr.put _ 2 _).len 0)) (fun _=>eB _ 2 _) ?_;unfold wU FR;rw[eU (Gr.put _ 2 _),eU (Gr.refl _),hk]
  ·split
   ·rename_i hk
    rw[mI ah,List.map_singleton];have g:=(Gr.put (c.put 0 (l.names.getD 0 [])) 2 (l.names.getD 1 [])).trans (Gr.bG _ (l.aA.getD 0 ⟨[],0⟩));refine h.fI ((Gr.put c 0 _).trans g) (((Nm.put c 0 _).trans (Nm.put _ 2 _)).trans (Nm.bG _ _)) _ _ (bJ (eB c 0 _) (g.len 0)) (fun k=>by cases k) ?_;unfold wU FR;rw[eU g,hk];rfl
   ·split
    ·rename_i hk
     rw[mI ah,List.map_singleton];have g:=(Gr.put (c.put 0 (l.names.getD 0 [])) 3 (l.names.getD 1 [])).trans (Gr.sc ((l.names.drop 2).zip l.aA) _);refine h.fI ((Gr.put c 0 _).trans g) (((Nm.put c 0 _).trans (Nm.put _ 3 _)).trans (Nm.sc _ _)) _ _ (bJ (eB c 0 _) (g.len 0)) (fun k=>by cases k) ?_;unfold wU FR;rw[eU g,hk];rfl
    ·split
     ·rename_i h2 _ _ hk
      rw[mI ah,List.map_singleton];refine h.fI (Gr.put c 0 _) (Nm.put c 0 _) _ _ (eB c 0 _) (fun k=>absurd k h2) ?_;unfold wU FR;rw[eU (Gr.refl _)];simp only[N h2]
     ·split
      ·rw[fA ah,List.map_nil,I]
       have g:=(Gr.put c 2 (l.names.getD 0 [])).trans (Gr.ts (l.names.drop 1) _);exact h.grow ⟨g.n,g.e,H _ _,g.m,g.q⟩ ((Nm.put c 2 _).trans (Nm.ts _ _)).e
      ·split
       ·rw[fA ah,List.map_nil,I]
        have g:=((Gr.put c 3 (l.names.getD 0 [])).trans (Gr.put _ 2 (l.names.getD 1 []))).trans (Gr.ts (l.names.drop 2) _);exact h.grow ⟨g.n,g.e,g.d,H _ _,g.q⟩ (((Nm.put c 3 _).trans (Nm.put _ 2 _)).trans (Nm.ts _ _)).e
       ·split
        ·rw[fA ah,List.map_nil,I]
         have g:=Gr.put c 1 (l.names.getD 0 []);exact h.grow ⟨g.n,g.e,g.d,g.m,H _ _⟩ rfl
        ·rw[fA ah,List.map_nil,I]
         exact⟨h,rfl⟩
theorem p8.symm {a b:Cont} (h:p8 a b):p8 b a:=⟨fun i hi=>(h.n i hi).symm,h.E.symm,h.SE.symm,h.D.symm,h.SD.symm,h.M.symm,h.SM.symm,h.Q.symm⟩
theorem p8.trans {a b c:Cont} (h:p8 a b) (k:p8 b c):p8 a c:=⟨fun i hi=>(h.n i hi).trans (k.n i hi),h.E.trans k.E,h.SE.trans k.SE,h.D.trans k.D,h.SD.trans k.SD,h.M.trans k.M,h.SM.trans k.SM,h.Q.trans k.Q⟩
theorem acZ (c:Cont) (i:Nat) (s:Bs):(c.put i s).nl=rA c.nl i s:=rfl
theorem Iw:∀(l:G Bs) (c:Cont),(c.ts l).1.nl=(jm c.nl l).1∧(c.ts l).2=(jm c.nl l).2
 |[],_=>⟨rfl,rfl⟩
 |s::r,c=>by
  obtain⟨h1,h2⟩:=Iw r (c.put 0 s);exact⟨h1,congrArg (c.no 0 s:: ·) h2⟩
theorem Ni {c d:Cont} (hf:aD c) (h:Nm c d):aD d↔∀i,i<4→(d.nl i).length≤jd i:=
 ⟨fun k=>k.1,fun k=>⟨k,by rw[h.e];exact hf.2.1,by rw[h.d];exact hf.2.2.1,by rw[h.m];exact hf.2.2.2.1,by rw[h.q];exact hf.2.2.2.2.1,by rw[h.e];exact hf.2.2.2.2.2⟩⟩
theorem JN {c:Cont} {k:Nat} {s:Bs} (hf:aD c) (hk:k<4):aD (c.put k s)↔(bM (c.nl k) s).length≤jd k:=by
 rw[Ni hf (Nm.put c k s),acZ]
 constructor
 ·intro h
  have:=h k hk;unfold rA at this
  rwa[L rfl] at this
 ·intro h i hi
  unfold rA
  split
  ·rename_i e;subst e;exact h
  ·exact hf.1 i hi
theorem UU {c:Cont} {v:To} (hf:aD c):aD (c.bG v).1↔v.k=0∨(bM (c.nl 0) v.name).length≤jd 0:=by
 unfold Cont.bG
 split
 ·rename_i h;exact⟨fun _=> .inl h,fun _=>hf⟩
 ·rename_i h
  rw[JN hf ah];exact⟨.inr,fun k=>k.resolve_left h⟩
theorem GR:∀(l:G Bs) (nl:Nat→G Bs) (j:Nat),j≠0→(jm nl l).1 j=nl j
 |[],_,_,_=>rfl
 |s::r,nl,j,hj=>(GR r (rA nl 0 s) j hj).trans (N hj)
theorem YX {c:Cont} {l:G Bs} (hf:aD c):aD (c.ts l).1↔((jm c.nl l).1 0).length≤jd 0:=by
 rw[Ni hf (Nm.ts l c),(Iw l c).1]
 constructor
 ·exact fun h=>h 0 ah
 ·intro h i hi
  by_cases h0:i=0
  ·subst h0;exact h
  ·rw[GR l c.nl i h0];exact hf.1 i hi
theorem MS {c:Cont} {e:EvC} {l:G Sn} (hf:aD c):aD (c.ev e l)↔c.E.length<3000∧(e.kind=2→e.v.k≤999):=by
 constructor
 ·intro h
  have h1:=h.2.1;have h2:=h.2.2.2.2.2;have e1:(c.ev e l).E=c.E++[e]:=rfl;rw[e1] at h1 h2;rw[List.length_append,List.length_singleton] at h1;exact⟨h1,h2 e ak⟩
 ·rintro⟨h1,h2⟩
  refine⟨hf.1,?_,hf.2.2.1,hf.2.2.2.1,hf.2.2.2.2.1,?_⟩
  ·show(c.E++[e]).length≤3000
   rw[List.length_append,List.length_singleton];exact h1
  ·intro x hx
   rcases V.1 (show x∈c.E++[e] from hx) with hx|hx
   ·exact hf.2.2.2.2.2 x hx
   ·rw[O.1 hx];exact h2
theorem FB:∀(l:G (Bs × To)) (c:Cont) (p:Bs × To),c.sc (l++[p])=(((((c.sc l).1.put 2 p.1).bG p.2).1),(c.sc l).2++[⟨(c.sc l).1.no 2 p.1,(((c.sc l).1.put 2 p.1).bG p.2).2⟩])
 |[],_,_=>rfl
 |q::l,c,p=>by
  have h:=FB l ((c.put 2 q.1).bG q.2).1 p;show(((((c.put 2 q.1).bG q.2).1).sc (l++[p])).1,_::((((c.put 2 q.1).bG q.2).1).sc (l++[p])).2)=_;rw[h];rfl
theorem R6:∀(l m:G (Bs × To)) (c:Cont),(c.sc (l++m)).1=((c.sc l).1.sc m).1
 |[],_,_=>rfl
 |q::l,m,c=>R6 l m ((c.put 2 q.1).bG q.2).1
theorem Qw:∀(l:G (Bs × To)) (c:Cont),(c.sc l).2.length=l.length
 |[],_=>rfl
 |q::l,c=>congrArg (·+1) (Qw l ((c.put 2 q.1).bG q.2).1)
theorem YL {l:G (Bs × To)} {c:Cont} {i:Nat} {p:Bs × To} (hp:l[i]?=some p) (h:aD (c.sc l).1):aD ((c.sc (l.take i)).1.put 2 p.1)∧aD (((c.sc (l.take i)).1.put 2 p.1).bG p.2).1:=by
 obtain⟨hi,he⟩:=List.getElem?_eq_some_iff.1 hp;have e:l=(l.take i++[p])++l.drop (i+1):=by
  rw[←he,U,List.singleton_append,←List.drop_eq_getElem_cons hi,List.take_append_drop]
 rw[e,R6,FB] at h;have h2:=(Gr.sc (l.drop (i+1)) _).fits h;exact⟨(Gr.bG _ p.2).fits h2,h2⟩
theorem qI (E:G EvC) (e:EvC) (t x:C):fK (E++[e]) t x=fK E t x+(if e.kind=2∧e.t=t∧e.obj=x then 1 else 0):=by
 unfold fK;rw[List.countP_append,List.countP_singleton]
 congr 1
 by_cases h:e.kind=2∧e.t=t∧e.obj=x
 ·rw[L h,L (by simp[h])]
 ·rw[N h,N (by simpa using h)]
theorem Gn (E:G EvC) (t x:C):fK E t x≤E.length:=List.countP_le_length
def Moved (w0 X:World) (F:C→G C) (pre:G (C × Addr)):Prop:=
 ∀g cs T fz,w0.heap[g]?=some (.cells cs T fz)→∃cs':Array Value,X.heap[g]?=some (.cells cs' T fz)∧cs'.size=cs.size∧
  (∀j,(∀s,(s,(⟨g,j,none⟩:Addr))∉pre)→cs'[j]?=cs[j]?)∧(∀j s n,(s,(⟨g,j,none⟩:Addr))∈pre→cs[j]?=some (.int .i64 n)→cs'[j]?=some (.int .i64 (fG (F s) n)))
theorem Moved.start {w0 X:World} {F:C→G C} (s:Same (fun i=>i<w0.heap.size) w0 X):Moved w0 X F []:=fun g cs T fz h=>
 ⟨cs,(s.block g (Array.getElem?_eq_some_iff.1 h).1 (Array.getElem?_eq_some_iff.1 h).1).trans h,rfl,fun _ _=>rfl,fun _ _ _ h=>(by cases h)⟩
theorem Moved.same {w0 X Y:World} {F:C→G C} {pre:G (C × Addr)} (h:Moved w0 X F pre) (s:Same (fun i=>i<w0.heap.size) X Y):Moved w0 Y F pre:=fun g cs T fz hg=>
 (let⟨cs',h1,h2⟩:=h g cs T fz hg;⟨cs',(s.block g (Array.getElem?_eq_some_iff.1 hg).1 (Array.getElem?_eq_some_iff.1 h1).1).trans h1,h2⟩)
theorem cell_of {w:World} {g j:Nat} {v:Value} (h:w.cell? ⟨g,j,none⟩=some v):∃cs T fz,w.heap[g]?=some (.cells cs T fz)∧cs[j]?=some v:=by
 unfold World.cell? at h
 split at h
 ·rename_i cs T fz hg
  exact⟨cs,T,fz,hg,by simpa using h⟩
 ·cases h
theorem of_cell {w:World} {g j:Nat} {v:Value} {cs:Array Value} {T:TypeId} {fz:Nat × Nat} (h:w.heap[g]?=some (.cells cs T fz)) (hj:cs[j]?=some v):w.cell? ⟨g,j,none⟩=some v:=by
 unfold World.cell?;simp[h,hj]
theorem Moved.cell {w0 X:World} {F:C→G C} {pre:G (C × Addr)} (h:Moved w0 X F pre) {g j:Nat} {v:Value} (hc:w0.cell? ⟨g,j,none⟩=some v) (hn:∀s,(s,(⟨g,j,none⟩:Addr))∉pre):X.cell? ⟨g,j,none⟩=some v:=by
 obtain⟨cs,T,fz,hg,hj⟩:=cell_of hc;obtain⟨cs',h1,h2,h3,h4⟩:=h g cs T fz hg;exact of_cell h1 ((h3 j hn).trans hj)
theorem Moved.step {w0 X:World} {F:C→G C} {pre:G (C × Addr)} (h:Moved w0 X F pre) {s:C} {g j:Nat} {n v:C} (hn:∀s',(s',(⟨g,j,none⟩:Addr))∉pre) (hc:w0.cell? ⟨g,j,none⟩=some (.int .i64 n)) (hv:v=fG (F s) n):
  Moved w0 (X.setCell ⟨g,j,none⟩ (.int .i64 v)) F (pre++[(s,(⟨g,j,none⟩:Addr))]):=fun g' cs T fz hg=>by
 obtain⟨cs',h1,h2,h3,h4⟩:=h g' cs T fz hg;by_cases e:g'=g
 ·subst e
  refine⟨cs'.setIfInBounds j (.int .i64 v),bn h1 _,by rw[Array.size_setIfInBounds];exact h2,fun q hq=>?_,fun q s' m hq hm=>?_⟩
  ·have hne:j≠q:=fun e=>hq s (by rw[e];simp)
   rw[Array.getElem?_setIfInBounds_ne hne];exact h3 q (fun s' hs'=>hq s' (R _ hs'))
  ·obtain⟨cs2,T2,X8,hg2,hj2⟩:=cell_of hc
   rw[hg] at hg2;injection hg2 with hg2;injection hg2 with q1 q2 q3;subst q1;have hlt:j<cs'.size:=by rw[h2];exact(Array.getElem?_eq_some_iff.1 hj2).1
   rcases V.1 hq with hq|hq
   ·have hne:j≠q:=fun e=>by subst e;exact hn s' hq
    rw[Array.getElem?_setIfInBounds_ne hne];exact h4 q s' m hq hm
   ·have hq:=O.1 hq
    injection hq with e1 e2;injection e2 with _ e2 _;subst e1 e2;rw[hj2] at hm;injection hm with hm;injection hm with _ hm;rw[Array.getElem?_setIfInBounds_self_of_lt hlt,hv,hm]
 ·refine⟨cs',by rw[Below.heap_setCell _ _ _ _ (by exact e)];exact h1,h2,fun q hq=>h3 q (fun s' hs'=>hq s' (R _ hs')),fun q s' m hq hm=>?_⟩
  rcases V.1 hq with hq|hq
  ·exact h4 q s' m hq hm
  ·have hq:=O.1 hq
   injection hq with _ e2;injection e2 with e2 _ _;exact absurd e2 e
theorem Own.moved {α:Type} {enc:α→G Value} {k:Nat} [hc:Cells enc k] {w0 X:World} {B:Nat} {T:TypeId} {v:Value} {xs ys:G α} {F:C→G C} {items:G (C × Addr)} (h:Own w0 B T k enc v xs) (hM:Moved w0 X F items) (hlen:ys.length=xs.length)
  (hcell:∀g,v.ownBlock=some g→∀i x y j u,xs[i]?=some x→ys[i]?=some y→(enc x)[j]?=some u→((enc y)[j]?=some u∧∀s,(s,(⟨g,i*k+j,none⟩:Addr))∉items)∨(∃s n,(s,(⟨g,i*k+j,none⟩:Addr))∈items∧u= .int .i64 n∧(enc y)[j]?=some (.int .i64 (fG (F s) n)))):
  Own X B T k enc v ys:=by
 obtain⟨h1,h2⟩:=h;refine⟨ug _,?_⟩;rcases h2 with⟨e,h0⟩|⟨g,cap,cur,e,hB,hh,hn,hm,hs,ht⟩
 ·exact .inl ⟨e,hlen.trans h0⟩
 ·obtain⟨cs',k1,k2,k3,k4⟩:=hM g cur T _ hh
  refine .inr ⟨g,cap,cs',by rw[e,hlen],hB,k1,by rw[hlen];exact hn,hm,k2.trans hs,?_⟩;have rJ:v.ownBlock=some g:=by rw[e];rfl
  rw[hlen]
  apply List.ext_getElem?
  intro q;have hle:xs.length*k≤cs'.size:=by rw[k2,hs];exact Nat.mul_le_mul_right _ hn
  by_cases hq:q<xs.length*k
  ·rw[List.getElem?_take,L hq]
   have hk:=hc.pos;have hi:q / k<xs.length:=(Nat.div_lt_iff_lt_mul hk).2 hq;have hj:q % k<k:=Nat.mod_lt _ hk;have hqe:q / k*k+q % k=q:=by rw[Nat.mul_comm];exact Nat.div_add_mod q k
   obtain⟨x,hx⟩:∃x,xs[q / k]?=some x:=⟨_,List.getElem?_eq_getElem hi⟩;obtain⟨y,hy⟩:∃y,ys[q / k]?=some y:=⟨_,List.getElem?_eq_getElem ah⟩;obtain⟨u,hu⟩:∃u,(enc x)[q % k]?=some u:=⟨_,List.getElem?_eq_getElem (by rw[hc.len];exact hj)⟩;have hold:cur[q]?=some u:=by
    have:=flat_get (hc:=hc) xs _ _ _ _ hx hu;rw[hqe,←ht,List.getElem?_take,L hq] at this
    simpa using this
   have hnew:∀u',(enc y)[q % k]?=some u'→(ys.flatMap enc)[q]?=some u':=fun u' hu'=>by
    have:=flat_get (hc:=hc) ys _ _ _ _ hy hu';rw[hqe] at this;exact this
   have hh:=hcell g rJ (q / k) x y (q % k) u hx hy hu;rw[hqe] at hh;rcases hh with⟨e1,e2⟩|⟨s,n,e1,e2,e3⟩
   ·rw[hnew u e1,Array.getElem?_toList,k3 q e2,hold]
   ·subst e2
    rw[hnew _ e3,Array.getElem?_toList,k4 q s n e1 hold]
  ·rw[List.getElem?_take,N hq,List.getElem?_eq_none (by rw[ug (hc:=hc),hlen];omega)]
end Yd
