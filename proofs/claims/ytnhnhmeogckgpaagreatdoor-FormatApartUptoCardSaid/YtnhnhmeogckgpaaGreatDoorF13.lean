import Derived.Test.YtnhnhmeogckgpaaGreatDoorAto
import Derived.Laws.RangeString
import Derived.Lib.MapLaws
import Derived.Test.YtnhnhmeogckgpaaGreatDoorFsP
import Derived.Test.YtnhnhmeogckgpaaGreatDoorIk
set_option linter.all false
set_option maxRecDepth 200000
set_option maxHeartbeats 8000000
namespace Yd
open Go Go.RowKit Go.Proofs
open Utf8 renaming decode→d
theorem ahb (a b c:UInt8) (r:List UInt8):ByteArray.extract ⟨⟨a::b::c::r⟩⟩ 0 3=⟨#[a,b,c]⟩:=by
 apply ByteArray.ext
 simp[ByteArray.data_extract]
theorem agI (s:ByteArray) (h3:3≤s.size) (hr:(d s 0).1=65533):(d s 0).2=3↔s.extract 0 3=⟨#[239,191,189]⟩:=by
 obtain⟨⟨l⟩⟩:=s
 match l,h3 with
 |a::b::c::r,_=>
  have ha:ByteArray.get! ⟨⟨a::b::c::r⟩⟩ (0+0)=a:=rfl;have hb:ByteArray.get! ⟨⟨a::b::c::r⟩⟩ (0+1)=b:=rfl;have hc:ByteArray.get! ⟨⟨a::b::c::r⟩⟩ (0+2)=c:=rfl;have k0:=a.toNat_lt;have k1:=b.toNat_lt;have k2:=c.toNat_lt;have hsz:ByteArray.size ⟨⟨a::b::c::r⟩⟩=r.length+3:=rfl;rw[ahb];have hiff:((⟨#[a,b,c]⟩:ByteArray)=⟨#[239,191,189]⟩)↔(a.toNat=239∧b.toNat=191∧c.toNat=189):=by
   constructor
   ·intro h
    injection h with h;simp at h;obtain⟨rfl,rfl,rfl⟩:=h
    decide
   ·rintro⟨h1,h2,h3⟩
    have e1:a=239:=UInt8.toNat_inj.1 h1;have e2:b=191:=UInt8.toNat_inj.1 h2;have e3:c=189:=UInt8.toNat_inj.1 h3;rw[e1,e2,e3]
  rw[hiff]
  constructor
  ·intro h
   unfold d at h hr;simp only[ha,hb,hc] at h hr
   split at h
   ·simp at h
   rename_i g0
   rw[if_neg g0] at hr
   split at h
   ·split at h <;> simp at h
   rename_i g1
   rw[if_neg g1] at hr
   split at h
   ·rename_i g2
    rw[if_pos g2] at hr
    split at h
    ·rename_i g3
     rw[if_pos g3] at hr;simp only[Bool.and_eq_true,decide_eq_true_eq,beq_iff_eq] at g2 hr;omega
    ·simp at h
   rename_i g2
   split at h
   ·split at h <;> simp at h
   ·simp at h
  ·rintro⟨h1,h2,h3⟩
   unfold d;simp only[ha,hb,hc,h1,h2,h3,hsz];simp[Utf8.valid]
attribute [local go_sem] Oper.semAt_some
def aa6 (s:ByteArray):Int:=if 0<s.size then(if okB s 0=true then((d s 0).1:Int) else -1) else -1
def okR (s:ByteArray) (pos:Nat):Bool:=okB s pos && (jO ((d s pos).1:Int)||(!decide (pos=0) && jN ((d s pos).1:Int)))
def rW (s:ByteArray):Nat→Nat→Bool
 |0,_=>true
 |n+1,pos=>if pos<s.size then okR s pos && rW s n (pos+(d s pos).2) else true
end Yd
namespace Yd
open Bool renaming and_eq_true→A,true→Z
open List renaming prefix_append→I,append_nil→O,mem_append_left→R,append_assoc→V
open Go Go.RowKit Go.Proofs Tryz
open _root_ renaming Int→C,List→H,if_pos→J,if_neg→L,decide_eq_true_eq→U
theorem FI (c:Nat) (hc:c≤1114111) (hs:¬(55296≤c∧c≤57343)):Utf8.encode (c:C)=⟨(Lib.encodeRune (c:C)).toArray⟩:=by
 have hv:Utf8.valid (c:C)=Z:=by simp[Utf8.valid];omega
 unfold Utf8.encode Lib.encodeRune;simp only[hv,if_true,Int.toNat_natCast];have hb:∀(z:C) (n:Nat),z=(n:C)→z.toNat.toUInt8=UInt8.ofNat n:=fun z n h=>by subst h;simp
 by_cases h1:c<128
 ·rw[J h1,Lib.encodeRuneZ_one ah ah]
  simp only[List.map_cons,List.map_nil,hb _ c rfl]
 rw[L h1];by_cases h2:c<2048
 ·rw[J h2,Lib.encodeRuneZ_two ah ah]
  simp only[List.map_cons,List.map_nil,hb (192+(c:C) / 64) (192+c / 64) ah,hb (128+(c:C) % 64) (128+c % 64) ah]
 rw[L h2];by_cases h3:c<65536
 ·rw[J h3,Lib.encodeRuneZ_three ah]
  simp only[List.map_cons,List.map_nil,hb (224+(c:C) / 4096) (224+c / 4096) ah,hb (128+(c:C) / 64 % 64) (128+c / 64 % 64) ah,hb (128+(c:C) % 64) (128+c % 64) ah]
 ·rw[L h3,Lib.encodeRuneZ_four ah ah]
  simp only[List.map_cons,List.map_nil,hb (240+(c:C) / 262144) (240+c / 262144) ah,hb (128+(c:C) / 4096 % 64) (128+c / 4096 % 64) ah,hb (128+(c:C) / 64 % 64) (128+c / 64 % 64) ah,hb (128+(c:C) % 64) (128+c % 64) ah]
theorem R9 {l:Bs} (h:okB ⟨l.toArray⟩ 0=Z):¬((Utf8.decode ⟨l.toArray⟩ 0).1=65533∧(Utf8.decode ⟨l.toArray⟩ 0).2=1):=by
 rintro⟨h1,h2⟩;unfold okB at h;rw[h1,h2] at h;simp at h
theorem OM (l:Bs) (hne:l≠[]) (h:okB ⟨l.toArray⟩ 0=Z):
  Utf8.encode ((Utf8.decode ⟨l.toArray⟩ 0).1:C)=⟨(l.take (Utf8.decode ⟨l.toArray⟩ 0).2).toArray⟩∧Utf8.decode ⟨(l.take (Utf8.decode ⟨l.toArray⟩ 0).2).toArray⟩ 0=Utf8.decode ⟨l.toArray⟩ 0∧(Utf8.decode ⟨l.toArray⟩ 0).2≤4:=by
 have hl:0<l.length:=List.length_pos_iff.2 hne;have hle:=yh l hne;have he:=Lib.encode_decode l hne (R9 h);have hd:Utf8.decode ⟨l.toArray⟩ 0=Lib.decodeL l:=rfl;have hd2:∀u:Bs,Utf8.decode ⟨u.toArray⟩ 0=Lib.decodeL u:=fun _=>rfl
 have hg:∀(n k:Nat),k<n→(l.take n).getD k 0=l.getD k 0:=fun n k h=>by simp[List.getD,h]
 have hok:=R9 h;rw[hd] at hle hok ⊢;rw[hd2];rw[Lib.decodeL_N (l.take _)];have hN:=Lib.decodeL_N l;rcases Lib.decodeN_shape l.length (l.getD 0 0).toNat (l.getD 1 0).toNat (l.getD 2 0).toNat (l.getD 3 0).toNat with⟨c,e⟩|⟨c1,c2,c3,cv,e⟩|⟨c1,c2,c3,c4,cv,cs,e⟩|⟨c1,c2,c3,c4,c5,cv,cw,e⟩|e
 ·rw[e] at hN
  rw[hN] at hle he ⊢;refine⟨by rw[FI _ (by simp only[];omega) (by simp only[];omega),he],?_,by simp⟩;simp only[List.length_take];rw[hg 1 0 ah];unfold Lib.decodeN;rw[J c]
 ·rw[e] at hN
  rw[hN] at hle he ⊢;simp only at hle;refine⟨by rw[FI _ (by simp only[];omega) (by simp only[];omega),he],?_,by simp⟩;simp only[List.length_take];rw[hg 2 0 ah,hg 2 1 ah,Nat.min_eq_left ah];unfold Lib.decodeN;rw[L ah,J ⟨c1,by omega,c3⟩,J ah]
 ·rw[e] at hN
  rw[hN] at hle he ⊢;simp only at hle;refine⟨by rw[FI _ (by simp only[];omega) (by simp only[];omega),he],?_,by simp⟩;simp only[List.length_take];rw[hg 3 0 ah,hg 3 1 ah,hg 3 2 ah,Nat.min_eq_left ah];unfold Lib.decodeN;rw[L ah,L ah,J ⟨c1,⟨by omega,c3⟩,⟨by omega,c4⟩⟩,J ah]
 ·rw[e] at hN
  rw[hN] at hle he ⊢;simp only at hle;refine⟨by rw[FI _ (by simp only[];omega) (by simp only[];omega),he],?_,by simp⟩;simp only[List.length_take];rw[hg 4 0 ah,hg 4 1 ah,hg 4 2 ah,hg 4 3 ah,Nat.min_eq_left ah];unfold Lib.decodeN;rw[L ah,L ah,L ah,J ⟨c1,⟨by omega,c3⟩,⟨by omega,c4⟩,⟨by omega,c5⟩⟩,J ah]
 ·exfalso
  rw[e] at hN;exact hok (by rw[hN];exact⟨rfl,rfl⟩)
def toB (t:To):Bool:=if t.k=0 then decide (t=⟨[],0⟩) else bS ⟨t.name.toArray⟩ && (decide (0<t.k) && decide (t.k≤999))
theorem Sb (t:To):toB t=Z↔nM t:=by
 unfold toB nM;by_cases h:t.k=0
 ·rw[J h]
  simp only[U];exact⟨.inl,fun k=>k.elim id fun k=>by omega⟩
 ·rw[L h]
  simp only[A,U];exact⟨.inr,fun k=>k.elim (fun k=>absurd (by rw[k]) h) id⟩
def kI (r more:C):C:=if r=118 then 1 else if r=115 then more else 0
def zf (k:Nat) (s:aB):Bool:=
 (decide (bX k≤(s.names.length:C)) && decide ((s.names.length:C) - bX k≤iA (dm k)) && decide ((s.aF.length:C)=kI (dm k) ((s.names.length:C) - bX k)) && s.aF.all toB)
 && s.names.all (fun x=>bS ⟨x.toArray⟩)
 && (((dm k==108)==(s.lvl !=0)) && (!s.first||dm k==109) && (s.bits==0||(dm k==103 && (decide (0<s.bits) && decide (s.bits≤15)))))
 && (s.lvl==0||fD s.lvl)
def j4 (s:aB):Bool:=decide (0≤s.kind) && decide (s.kind<10) && zf s.kind.toNat s
theorem YX (t:To) (w:World) (hT:Lib.Utf8Tabs 6 7 w):Calls Tryz.prog 92 #[uJ t] w (bC (.bool (toB t)) w):=by
 obtain⟨n,k⟩:=t;have hq:=Rc ⟨n,k⟩ ⟨[],0⟩;by_cases h0:k=0
 ·subst h0
  have hb:toB ⟨n,0⟩=decide ((⟨n,0⟩:To)=⟨[],0⟩):=by unfold toB;rw[J rfl]
  rw[hb];clear hb hT;go_enter func92,ntmps92;go_wp2_with fail;go_ret;exact⟨by simp,av (Below.refl _ _) _⟩
 ·have hb0:=av (Below.refl w.heap.size w) (.cells #[.string ⟨n.toArray⟩,.int .i64 k] 76)
  have HW:=hid (zJ n _ (Utf8Tabs_below hT hb0));have HB:=hid hb0;have HX:=hid (Bx.new w #[.string ⟨n.toArray⟩,.int .i64 k] 76);have hk:(k==0)=false:=beq_eq_false_iff_ne.2 h0;have hB:toB ⟨n,k⟩=(bS ⟨n.toArray⟩ && (decide (0<k) && decide (k≤999))):=by unfold toB;rw[L h0]
  rw[hB];clear hT hb0 h0 hB hq
  cases hw:bS ⟨n.toArray⟩
  ·rw[hw] at HW
   clear hw;go_enter func92,ntmps92;go_wp2_with fail;refine HW.q.mono ?_;rintro e w1 ⟨rfl,hb1⟩;have HB1:=hid (HB.q.bD hb1);clear hb1;simp only[Bool.false_eq_true,if_false];go_wp2_with fail;go_ret;exact⟨rfl,HB1.q⟩
  ·rw[hw] at HW
   clear hw
   cases h1:decide (0<k)
   ·go_enter func92,ntmps92
    go_wp2_with fail;refine HW.q.mono ?_;rintro e w1 ⟨rfl,hb1⟩;have hx:=(HX.q.keep hb1).1;have HB1:=hid (HB.q.bD hb1);clear hb1;simp only[if_true];go_wp2_with fail;go_ret;exact⟨rfl,HB1.q⟩
   ·cases h2:decide (k≤999)
    all_goals
     go_enter func92,ntmps92;go_wp2_with fail;refine HW.q.mono ?_;rintro e w1 ⟨rfl,hb1⟩;have hx:=(HX.q.keep hb1).1;have HB1:=hid (HB.q.bD hb1);clear hb1;simp only[if_true];go_wp2_with fail;go_ret;exact⟨rfl,HB1.q⟩
theorem Pw (t:To) (w:World) (hT:Lib.Utf8Tabs 6 7 w):Calls Tryz.prog 91 #[uJ t] w (bC (.bool (!toB t)) w):=by
 have hb0:=av (Below.refl w.heap.size w) (.cells (Nh t) 76);have HW:=hid (YX t _ (Utf8Tabs_below hT hb0));have HB:=hid hb0;clear hT hb0;go_enter func91,ntmps91;go_wp2_with fail;refine HW.q.mono ?_;rintro e w1 ⟨rfl,hb1⟩;have HB1:=hid (HB.q.bD hb1);clear hb1;go_wp2_with fail;go_ret;exact⟨rfl,HB1.q⟩
theorem Rx (l:C) (w:World) (hg:nD w):Calls Tryz.prog 58 #[.int .i64 l] w (fun e w'=>(∃t:Bs,e= .returned (.tuple #[.string ⟨t.toArray⟩,.int .i64 (if fD l=Z then 0 else 190)]))∧Below w.heap.size w w'):=by
 cases hb:fD l
 ·have HL:=hid (Cr hb)
  clear hb hg;go_enter func58,ntmps58;go_wp2_with fail;refine(zK _ _).mono ?_;rintro e w1 ⟨rfl,hb1⟩;rw[HL.q];have HB:=hid hb1;clear hb1;go_wp2_with fail
  go_ret2
  exact⟨⟨[],rfl⟩,HB.q⟩
 ·have h:=hb
  simp only[fD,A,U] at h;obtain⟨n,rfl⟩:∃n:Nat,l=(n:C):=⟨l.toNat,by omega⟩;refine(Sc n ah ah w hg).mono ?_;rintro e w1 ⟨rfl,hb1⟩;exact⟨⟨_,rfl⟩,hb1⟩
theorem gM.U6 {w:World} {B:Nat} {l:bf} {s:aB} (h:gM w B l s) (hn:s.names.length≤1000000) (hT:Lib.Utf8Tabs 6 7 w):
  Calls Tryz.prog 93 #[.slice l.na l.nn l.nc,.func (.func 94) #[] #[]] w (bC (.bool (!s.names.all (fun x=>bS ⟨x.toArray⟩))) w):=by
 have:=Nf l.na l.nn l.nc 94 #[] s.names (fun s=>!bS ⟨s.toArray⟩) w (h.2.1.row ah) NP (fun x _ W hb=>by simpa using FJ x W (Utf8Tabs_below hT hb))
 rwa[show s.names.any (fun s=>!bS ⟨s.toArray⟩)=!s.names.all (fun x=>bS ⟨x.toArray⟩) by simp[List.any_eq_not_all_not]] at this
theorem gM.YL {w:World} {B:Nat} {l:bf} {s:aB} (h:gM w B l s) (hn:s.aF.length≤1000000) (hT:Lib.Utf8Tabs 6 7 w):
  Calls Tryz.prog 90 #[.slice l.va l.vn l.vc,.func (.func 91) #[] #[]] w (bC (.bool (!s.aF.all toB)) w):=by
 have:=Rf l.va l.vn l.vc 91 #[] s.aF (fun t=>!toB t) w (h.2.2.row ah) NQ (fun x hx W hb=>by simpa using Pw x W (Utf8Tabs_below hT hb))
 rwa[show s.aF.any (fun t=>!toB t)=!s.aF.all toB by simp[List.any_eq_not_all_not]] at this
theorem YZ {vs:H To} (h:vs.all toB=Z):∀t∈vs,nM t:=fun t ht=>(Sb t).1 (List.all_eq_true.1 h t ht)
theorem El {s:aB} (h:j4 s=Z):s.kind=0∨fC s:=by
 obtain⟨kd,names,lvl,aF,first,bits⟩:=s;unfold j4 zf at h;simp only[A,U] at h;obtain⟨⟨h0,h10⟩,⟨⟨⟨⟨⟨a1,a2⟩,a3⟩,a4⟩,a5⟩,⟨b1,b2⟩,b3⟩,c⟩:=h;obtain⟨k,rfl⟩:∃k:Nat,kd=(k:C):=⟨kd.toNat,by omega⟩;simp only[Int.toNat_natCast] at a1 a2 a3 b1 b2 b3;have hw:∀x∈names,bS ⟨x.toArray⟩=Z:=List.all_eq_true.1 a5;have ht:=YZ a4;have hv0:(aF.length:C)=0→aF=[]:=fun h=>List.eq_nil_of_length_eq_zero ah
 have zl:∀(r:C),(bits==0||(r==103 && (decide (0<bits) && decide (bits≤15))))=Z→r≠103→bits=0:=fun r h hr=>by
  rw[beq_eq_false_iff_ne.2 hr] at h;simpa using h
 have Ct:∀(r:C),(!first||r==109)=Z→r≠109→first=false:=fun r h hr=>by
  rw[beq_eq_false_iff_ne.2 hr] at h;simpa using h
 have Cu:∀(r:C),((r==108)==(lvl !=0))=Z→r≠108→lvl=0:=fun r h hr=>by
  rw[beq_eq_false_iff_ne.2 hr] at h;simpa using h
 rcases(by omega:k=0∨k=1∨k=2∨k=3∨k=4∨k=5∨k=6∨k=7∨k=8∨k=9) with rfl|rfl|rfl|rfl|rfl|rfl|rfl|rfl|rfl|rfl
 ·exact .inl rfl
 ·right
  simp only[bX,dm,kI,iA,Int.reduceEq,if_false,or_self] at a1 a2 a3 b1 b2 b3;have hl:lvl≠0:=by simpa using b1
  have hc:fD lvl=Z:=by
   rw[beq_eq_false_iff_ne.2 hl] at c;simpa using c
  simp only[fD,A,U] at hc;exact⟨hw,ht,.inl ⟨rfl,by show names.length=2;omega,hv0 a3,⟨lvl.toNat,by show lvl=_;omega,by omega,by omega⟩,Ct _ b2 aj,zl _ b3 aj⟩⟩
 ·right
  simp only[bX,dm,kI,iA,Int.reduceEq,if_false,or_self] at a1 a2 a3 b1 b2 b3;exact⟨hw,ht,.inr (.inl ⟨rfl,by show names.length=2;omega,hv0 a3,Cu _ b1 aj,Ct _ b2 aj,zl _ b3 aj⟩)⟩
 ·right
  simp only[bX,dm,kI,iA,Int.reduceEq,if_false,if_true,or_self] at a1 a2 a3 b1 b2 b3;exact⟨hw,ht,.inr (.inr (.inl ⟨rfl,by show names.length=2;omega,by show aF.length=1;omega,Cu _ b1 aj,Ct _ b2 aj,zl _ b3 aj⟩))⟩
 ·right
  simp only[bX,dm,kI,iA,Int.reduceEq,if_false,if_true,or_self] at a1 a2 a3 b1 b2 b3;exact⟨hw,ht,.inr (.inr (.inr (.inl ⟨rfl,⟨names.length - 2,by show names.length=_;omega,by show aF.length=_;omega,by omega⟩,trivial,Cu _ b1 aj,Ct _ b2 aj,zl _ b3 aj⟩)))⟩
 ·right
  simp only[bX,dm,kI,iA,Int.reduceEq,if_false,or_self] at a1 a2 a3 b1 b2 b3;exact⟨hw,ht,.inr (.inr (.inr (.inr (.inl ⟨rfl,by show names.length=1;omega,hv0 a3,Cu _ b1 aj,Ct _ b2 aj,zl _ b3 aj⟩))))⟩
 ·right
  simp only[bX,dm,kI,iA,Int.reduceEq,if_false,or_self] at a1 a2 a3 b1 b2 b3;exact⟨hw,ht,.inr (.inr (.inr (.inr (.inr (.inl ⟨rfl,by show names.length=1;omega,hv0 a3,Cu _ b1 aj,Ct _ b2 aj,zl _ b3 aj⟩)))))⟩
 ·right
  simp only[bX,dm,kI,iA,Int.reduceEq,if_false,if_true,or_false] at a1 a2 a3 b1 b2 b3;exact⟨hw,ht,.inr (.inr (.inr (.inr (.inr (.inr (.inl ⟨rfl,⟨names.length - 1,by show names.length=_;omega,by omega⟩,hv0 a3,Cu _ b1 aj,Ct _ b2 aj,zl _ b3 aj⟩))))))⟩
 ·right
  simp only[bX,dm,kI,iA,Int.reduceEq,if_false,if_true,or_true] at a1 a2 a3 b1 b2 b3;exact⟨hw,ht,.inr (.inr (.inr (.inr (.inr (.inr (.inr (.inl ⟨rfl,⟨names.length - 2,by show names.length=_;omega,by omega⟩,hv0 a3,Cu _ b1 aj,trivial,zl _ b3 aj⟩)))))))⟩
 ·right
  simp only[bX,dm,kI,iA,Int.reduceEq,if_false,or_self] at a1 a2 a3 b1 b2 b3;have hb:∃b:Nat,bits=b∧b≤15:=by
   by_cases h0:bits=0
   ·exact⟨0,h0,by omega⟩
   ·rw[beq_eq_false_iff_ne.2 h0] at b3
    simp at b3;exact⟨bits.toNat,by omega,by omega⟩
  exact⟨hw,ht,.inr (.inr (.inr (.inr (.inr (.inr (.inr (.inr ⟨rfl,by show names.length=1;omega,hv0 a3,Cu _ b1 aj,Ct _ b2 aj,hb⟩)))))))⟩
theorem Vq {s:aB} (hs:fC s):j4 s=Z:=by
 obtain⟨kd,ns,lv,vs,fi,bt⟩:=s;obtain⟨hw,hv,hc⟩:=hs;simp only at hw hv hc;have hA:ns.all (fun x=>bS ⟨x.toArray⟩)=Z:=List.all_eq_true.2 hw;have hB:vs.all toB=Z:=List.all_eq_true.2 (fun t ht=>(Sb t).2 (hv t ht));unfold j4 zf;rw[hA,hB];rcases hc with⟨rfl,hl,rfl,⟨lw,rfl,h1,h4⟩,rfl,rfl⟩|⟨rfl,hl,rfl,rfl,rfl,rfl⟩|⟨rfl,hl,hvl,rfl,rfl,rfl⟩|⟨rfl,⟨cc,hl,hvl,hcc⟩,_,rfl,rfl,rfl⟩|⟨rfl,hl,rfl,rfl,rfl,rfl⟩|⟨rfl,hl,rfl,rfl,rfl,rfl⟩|⟨rfl,⟨cc,hl,hcc⟩,rfl,rfl,rfl,rfl⟩|⟨rfl,⟨cc,hl,hcc⟩,rfl,rfl,_,rfl⟩|⟨rfl,hl,rfl,rfl,rfl,⟨bb,rfl,hbb⟩⟩
 ·have:lw=1∨lw=2∨lw=3∨lw=4:=by omega
  rcases this with rfl|rfl|rfl|rfl <;> simp[bX,dm,iA,kI,hl,fD]
 ·simp[bX,dm,iA,kI,hl,fD]
 ·simp[bX,dm,iA,kI,hl,hvl,fD]
 ·simp[bX,dm,iA,kI,hl,hvl,fD];omega
 ·simp[bX,dm,iA,kI,hl,fD]
 ·simp[bX,dm,iA,kI,hl,fD]
 ·simp[bX,dm,iA,kI,hl,fD];omega
 ·simp[bX,dm,iA,kI,hl,fD];omega
 ·simp[bX,dm,iA,kI,hl,fD];omega
def aeP (s:aB):Bs:=if s.kind=0 then [10] else aeQ s
def Cont.put (c:Cont) (i:Nat) (s:Bs):Cont:={c with nl:=fun j=>if j=i then bY (c.nl i) s else c.nl j}
def Cont.no (c:Cont) (i:Nat) (s:Bs):C:=(p9 (c.nl i) s:C)
def Cont.bU (c:Cont) (v:To):Cont × kT:=if v.k=0 then(c,⟨0,0⟩) else(c.put 0 v.name,⟨c.no 0 v.name,v.k⟩)
def Cont.ts (c:Cont):H Bs→Cont × H C
 |[]=>(c,[])
 |s::r=>(((c.put 0 s).ts r).1,c.no 0 s::((c.put 0 s).ts r).2)
def Cont.sc (c:Cont):H (Bs × To)→Cont × H Sn
 |[]=>(c,[])
 |p::r=>((((c.put 2 p.1).bU p.2).1.sc r).1,⟨c.no 2 p.1,((c.put 2 p.1).bU p.2).2⟩::(((c.put 2 p.1).bU p.2).1.sc r).2)
@[reducible] def Bz:EvC:=⟨0,0,0,0,0,⟨0,0⟩,0,none,0,0⟩
def Cont.ev (c:Cont) (e:EvC) (s:H Sn):Cont:={c with E:=c.E++[e],SE:=c.SE++[s]}
def fQ (E:H EvC) (t x:C):Nat:=E.countP (fun e=>e.kind==2 && (e.t==t && e.obj==x))
def aJ (c:Cont) (l:aB):Cont:=
 let n0:=l.names.getD 0 []
 let n1:=l.names.getD 1 []
 if l.kind=1 then((c.put 0 n0).put 1 n1).ev {Bz with kind:=1,t:=c.no 0 n0,bR:=(c.put 0 n0).no 1 n1,lvl:=l.lvl} []
 else if l.kind=2 then((c.put 0 n0).put 2 n1).ev {Bz with kind:=2,t:=c.no 0 n0,obj:=(c.put 0 n0).no 2 n1,v:=⟨c.no 0 n0,(fQ c.E (c.no 0 n0) ((c.put 0 n0).no 2 n1):C)+1⟩} []
 else if l.kind=3 then(((c.put 0 n0).put 2 n1).bU (l.aF.getD 0 ⟨[],0⟩)).1.ev {Bz with kind:=3,t:=c.no 0 n0,obj:=(c.put 0 n0).no 2 n1,v:=(((c.put 0 n0).put 2 n1).bU (l.aF.getD 0 ⟨[],0⟩)).2} []
 else if l.kind=4 then(((c.put 0 n0).put 3 n1).sc ((l.names.drop 2).zip l.aF)).1.ev {Bz with kind:=4,t:=c.no 0 n0,pred:=(c.put 0 n0).no 3 n1} (((c.put 0 n0).put 3 n1).sc ((l.names.drop 2).zip l.aF)).2
 else if l.kind=5∨l.kind=6 then(c.put 0 n0).ev {Bz with kind:=l.kind,t:=c.no 0 n0} []
 else if l.kind=7 then {((c.put 2 n0).ts (l.names.drop 1)).1 with D:=c.D++[⟨c.no 2 n0,none,0,0⟩],SD:=c.SD++[((c.put 2 n0).ts (l.names.drop 1)).2]}
 else if l.kind=8 then {(((c.put 3 n0).put 2 n1).ts (l.names.drop 2)).1 with M:=c.M++[⟨c.no 3 n0,(c.put 3 n0).no 2 n1,l.first,none,0,0⟩],SM:=c.SM++[(((c.put 3 n0).put 2 n1).ts (l.names.drop 2)).2]}
 else if l.kind=9 then {c.put 1 n0 with Q:=c.Q++[⟨c.no 1 n0,l.bits⟩]}
 else c
def aC (c:Cont):Prop:=(∀i,i<4→(c.nl i).length≤jP i)∧c.E.length≤3000∧c.D.length≤3000∧c.M.length≤3000∧c.Q.length≤3000∧∀e∈c.E,e.kind=2→e.v.k≤999
structure Gr (c z:Cont):Prop where
 n:∀i,c.nl i<+:z.nl i
 e:c.E<+:z.E
 d:c.D<+:z.D
 m:c.M<+:z.M
 q:c.Q<+:z.Q
theorem Gr.refl (c:Cont):Gr c c:=⟨fun _=>List.prefix_refl _,List.prefix_refl _,List.prefix_refl _,List.prefix_refl _,List.prefix_refl _⟩
theorem Gr.trans {a b c:Cont} (h:Gr a b) (k:Gr b c):Gr a c:=⟨fun i=>(h.n i).trans (k.n i),h.e.trans k.e,h.d.trans k.d,h.m.trans k.m,h.q.trans k.q⟩
theorem Gr.fits {c d:Cont} (h:Gr c d) (k:aC d):aC c:=
 ⟨fun i hi=>Nat.le_trans (h.n i).length_le (k.1 i hi),Nat.le_trans h.e.length_le k.2.1,Nat.le_trans h.d.length_le k.2.2.1,Nat.le_trans h.m.length_le k.2.2.2.1,Nat.le_trans h.q.length_le k.2.2.2.2.1,fun e he=>k.2.2.2.2.2 e (h.e.subset he)⟩
theorem Gr.put (c:Cont) (i:Nat) (s:Bs):Gr c (c.put i s):=
 ⟨fun j=>by
  show c.nl j<+:(if j=i then bY (c.nl i) s else c.nl j)
  split
  ·rename_i h;subst h;exact Ey _ _
  ·exact List.prefix_refl _,List.prefix_refl _,List.prefix_refl _,List.prefix_refl _,List.prefix_refl _⟩
theorem Gr.bU (c:Cont) (v:To):Gr c (c.bU v).1:=by
 unfold Cont.bU
 split
 ·exact Gr.refl c
 ·exact Gr.put c 0 v.name
theorem Gr.ts:∀(l:H Bs) (c:Cont),Gr c (c.ts l).1
 |[],c=>Gr.refl c
 |s::r,c=>(Gr.put c 0 s).trans (Gr.ts r _)
theorem Gr.sc:∀(l:H (Bs × To)) (c:Cont),Gr c (c.sc l).1
 |[],c=>Gr.refl c
 |p::r,c=>((Gr.put c 2 p.1).trans (Gr.bU _ p.2)).trans (Gr.sc r _)
theorem Gr.ev (c:Cont) (e:EvC) (s:H Sn):Gr c (c.ev e s):=⟨fun _=>List.prefix_refl _,I _ _,List.prefix_refl _,List.prefix_refl _,List.prefix_refl _⟩
structure Nm (c z:Cont):Prop where
 e:z.E=c.E
 se:z.SE=c.SE
 d:z.D=c.D
 sd:z.SD=c.SD
 m:z.M=c.M
 sm:z.SM=c.SM
 q:z.Q=c.Q
theorem Nm.refl (c:Cont):Nm c c:=⟨rfl,rfl,rfl,rfl,rfl,rfl,rfl⟩
theorem Nm.trans {a b c:Cont} (h:Nm a b) (k:Nm b c):Nm a c:=⟨k.e.trans h.e,k.se.trans h.se,k.d.trans h.d,k.sd.trans h.sd,k.m.trans h.m,k.sm.trans h.sm,k.q.trans h.q⟩
theorem Nm.put (c:Cont) (i:Nat) (s:Bs):Nm c (c.put i s):=⟨rfl,rfl,rfl,rfl,rfl,rfl,rfl⟩
theorem Nm.bU (c:Cont) (v:To):Nm c (c.bU v).1:=by
 unfold Cont.bU
 split
 ·exact Nm.refl c
 ·exact Nm.put c 0 v.name
theorem Nm.ts:∀(l:H Bs) (c:Cont),Nm c (c.ts l).1
 |[],c=>Nm.refl c
 |s::r,c=>(Nm.put c 0 s).trans (Nm.ts r _)
theorem Nm.sc:∀(l:H (Bs × To)) (c:Cont),Nm c (c.sc l).1
 |[],c=>Nm.refl c
 |p::r,c=>((Nm.put c 2 p.1).trans (Nm.bU _ p.2)).trans (Nm.sc r _)
theorem Gr.add (c:Cont) (l:aB):Gr c (aJ c l):=by
 unfold aJ;simp only[]
 split
 ·exact((Gr.put c 0 _).trans (Gr.put _ 1 _)).trans (Gr.ev _ _ _)
 ·split
  ·exact((Gr.put c 0 _).trans (Gr.put _ 2 _)).trans (Gr.ev _ _ _)
  ·split
   ·exact(((Gr.put c 0 _).trans (Gr.put _ 2 _)).trans (Gr.bU _ _)).trans (Gr.ev _ _ _)
   ·split
    ·exact(((Gr.put c 0 _).trans (Gr.put _ 3 _)).trans (Gr.sc _ _)).trans (Gr.ev _ _ _)
    ·split
     ·exact(Gr.put c 0 _).trans (Gr.ev _ _ _)
     ·split
      ·have h:=(Gr.put c 2 (l.names.getD 0 [])).trans (Gr.ts (l.names.drop 1) _)
       exact⟨h.n,h.e,I _ _,h.m,h.q⟩
      ·split
       ·have h:=((Gr.put c 3 (l.names.getD 0 [])).trans (Gr.put _ 2 (l.names.getD 1 []))).trans (Gr.ts (l.names.drop 2) _)
        exact⟨h.n,h.e,h.d,I _ _,h.q⟩
       ·split
        ·have h:=Gr.put c 1 (l.names.getD 0 [])
         exact⟨h.n,h.e,h.d,h.m,I _ _⟩
        ·exact Gr.refl c
def bK:Cont:=⟨fun _=>[],[],[],[],[],[],[],[]⟩
theorem bW {n:C} {a b:Nat} (h:aV n a=Z) (hab:a≤b):aV n b=Z:=by
 simp only[aV,A,U] at h ⊢;omega
theorem zm {v:kT} {a b:Nat} (h:gI v a=Z) (hab:a≤b):gI v b=Z:=by
 unfold gI at h ⊢
 split
 ·rename_i h0;rw[J h0] at h;exact h
 ·rename_i h0
  rw[L h0] at h;simp only[A] at h ⊢;exact⟨⟨bW h.1.1 hab,h.1.2⟩,h.2⟩
theorem Px {s:Sn} {a b c d:Nat} (h:jK a c s=Z) (hab:a≤b) (hcd:c≤d):jK b d s=Z:=by
 simp only[jK,A] at h ⊢;exact⟨bW h.1 hcd,zm h.2 hab⟩
theorem Sd {e:EvC} {l:H Sn} {a b c d a' b' c' d':Nat} (h:hasB a b c d e l=Z) (ha:a≤a') (hb:b≤b') (hc:c≤c') (hd:d≤d'):hasB a' b' c' d' e l=Z:=by
 unfold hasB at h ⊢
 split
 ·rename_i k;rw[J k] at h
  simp only[A] at h ⊢;exact⟨bW h.1 hb,h.2⟩
 ·rename_i k1;rw[L k1] at h
  split
  ·rename_i k;rw[J k] at h
   simp only[A] at h ⊢;exact⟨⟨⟨bW h.1.1.1 hc,zm h.1.1.2 ha⟩,h.1.2⟩,h.2⟩
  ·rename_i k2;rw[L k2] at h
   split
   ·rename_i k;rw[J k] at h
    simp only[A] at h ⊢;exact⟨bW h.1 hc,zm h.2 ha⟩
   ·rename_i k3;rw[L k3] at h
    split
    ·rename_i k;rw[J k] at h
     simp only[A,List.all_eq_true] at h ⊢;exact⟨⟨bW h.1.1 hd,h.1.2⟩,fun s hs=>Px (h.2 s hs) ha hc⟩
    ·rfl
theorem Vr {e:EvC} {l:H Sn} {a b c d a' b' c' d':Nat} (h:gT a b c d e l=Z) (ha:a≤a') (hb:b≤b') (hc:c≤c') (hd:d≤d'):gT a' b' c' d' e l=Z:=by
 unfold gT at h ⊢;simp only[A] at h ⊢;exact⟨⟨⟨h.1.1.1,bW h.1.1.2 ha⟩,Sd h.1.2 ha hb hc hd⟩,h.2⟩
def mX (c:Cont):Prop:=∀i,(c.nl i).Nodup∧∀s∈c.nl i,bS ⟨s.toArray⟩=Z
theorem mX.put {c:Cont} (h:mX c) (i:Nat) {s:Bs} (hs:bS ⟨s.toArray⟩=Z):mX (c.put i s):=fun j=>by
 show(if j=i then bY (c.nl i) s else c.nl j).Nodup∧∀x∈(if j=i then bY (c.nl i) s else c.nl j),bS ⟨x.toArray⟩=Z
 split
 ·refine⟨AY (h i).1,fun x hx=>?_⟩
  unfold bY at hx
  split at hx
  ·exact(h i).2 x hx
  ·rcases List.mem_append.1 hx with hx|hx
   ·exact(h i).2 x hx
   ·rw[List.mem_singleton.1 hx];exact hs
 ·exact h j
theorem mX.bU {c:Cont} (h:mX c) {v:To} (hv:nM v):mX (c.bU v).1:=by
 unfold Cont.bU;rcases hv with rfl|⟨hw,h0,_⟩
 ·rw[J rfl];exact h
 ·rw[L ah];exact h.put 0 hw
theorem mX.ts:∀(l:H Bs) {c:Cont},mX c→(∀s∈l,bS ⟨s.toArray⟩=Z)→mX (c.ts l).1
 |[],_,h,_=>h
 |s::r,_,h,hl=>mX.ts r (h.put 0 (hl s List.mem_cons_self)) (fun x hx=>hl x (List.mem_cons_of_mem _ hx))
theorem mX.sc:∀(l:H (Bs × To)) {c:Cont},mX c→(∀p∈l,bS ⟨p.1.toArray⟩=Z∧nM p.2)→mX (c.sc l).1
 |[],_,h,_=>h
 |p::r,_,h,hl=>mX.sc r ((h.put 2 (hl p List.mem_cons_self).1).bU (hl p List.mem_cons_self).2) (fun x hx=>hl x (List.mem_cons_of_mem _ hx))
theorem fM (c:Cont) (i:Nat) (s:Bs):aV (c.no i s) ((c.put i s).nl i).length=Z:=by
 have h:=Sg (c.nl i) s;have e:(c.put i s).nl i=bY (c.nl i) s:=if_pos rfl;rw[e];have h2:(0:C)≤(p9 (c.nl i) s:C):=Int.natCast_nonneg _;have h3:(p9 (c.nl i) s:C)<((bY (c.nl i) s).length:C):=Int.ofNat_lt.2 h;unfold aV Cont.no;exact Bool.and_eq_true_iff.2 ⟨decide_eq_true h2,decide_eq_true h3⟩
theorem Gr.len {c d:Cont} (h:Gr c d) (i:Nat):(c.nl i).length≤(d.nl i).length:=(h.n i).length_le
theorem NR (c:Cont) {v:To} (hv:nM v):gI (c.bU v).2 ((c.bU v).1.nl 0).length=Z:=by
 unfold Cont.bU;rcases hv with rfl|⟨_,h0,h9⟩
 ·rw[J rfl];rfl
 ·rw[L ah]
  unfold gI;rw[L (by simp only[];omega)];simp only[fM,decide_eq_true h0,decide_eq_true h9,Bool.and_self]
theorem Py:∀(l:H Bs) (c:Cont),(∀x∈(c.ts l).2,aV x ((c.ts l).1.nl 0).length=Z)∧(c.ts l).2.length=l.length
 |[],_=>⟨fun x hx=>(by cases hx),rfl⟩
 |s::r,c=>by
  obtain⟨h1,h2⟩:=Py r (c.put 0 s);refine⟨fun x hx=>?_,?_⟩
  ·rcases List.mem_cons.1 hx with rfl|hx
   ·exact bW (fM c 0 s) ((Gr.ts r (c.put 0 s)).len 0)
   ·exact h1 x hx
  ·show(_::_).length=_
   rw[List.length_cons,h2];rfl
theorem Xl:∀(l:H (Bs × To)) (c:Cont),(∀p∈l,nM p.2)→(∀x∈(c.sc l).2,jK ((c.sc l).1.nl 0).length ((c.sc l).1.nl 2).length x=Z)∧(c.sc l).2.length=l.length
 |[],_,_=>⟨fun x hx=>(by cases hx),rfl⟩
 |p::r,c,hl=>by
  have hp:=hl p List.mem_cons_self;obtain⟨h1,h2⟩:=Xl r ((c.put 2 p.1).bU p.2).1 (fun x hx=>hl x (List.mem_cons_of_mem _ hx));have hg:=Gr.sc r ((c.put 2 p.1).bU p.2).1;refine⟨fun x hx=>?_,?_⟩
  ·rcases List.mem_cons.1 hx with rfl|hx
   ·show jK (((c.put 2 p.1).bU p.2).1.sc r|>.1.nl 0).length (((c.put 2 p.1).bU p.2).1.sc r|>.1.nl 2).length ⟨c.no 2 p.1,((c.put 2 p.1).bU p.2).2⟩=Z
    simp only[jK,A];exact⟨bW (fM c 2 p.1) (((Gr.bU (c.put 2 p.1) p.2).trans hg).len 2),zm (NR (c.put 2 p.1) hp) (hg.len 0)⟩
   ·exact h1 x hx
  ·show(_::_).length=_
   rw[List.length_cons,h2];rfl
structure fT (c:Cont):Prop where
 nm:mX c
 le:c.E.length=c.SE.length
 ld:c.D.length=c.SD.length
 lm:c.M.length=c.SM.length
 ev:∀p∈c.E.zip c.SE,gT (c.nl 0).length (c.nl 1).length (c.nl 2).length (c.nl 3).length p.1 p.2=Z
 od:∀p∈c.D.zip c.SD,aV p.1.obj (c.nl 2).length=Z∧fH (c.nl 0).length p.2=Z
 ma:∀p∈c.M.zip c.SM,aV p.1.pred (c.nl 3).length=Z∧aV p.1.obj (c.nl 2).length=Z∧fH (c.nl 0).length p.2=Z
 wa:∀x∈c.Q,aV x.bR (c.nl 1).length=Z∧0≤x.bits∧x.bits≤15
theorem DU {a b:Nat} {l:H C} (h:fH a l=Z) (hab:a≤b):fH b l=Z:=by
 simp only[fH,A,List.all_eq_true] at h ⊢;exact⟨h.1,fun x hx=>bW (h.2 x hx) hab⟩
theorem fT.zero:fT bK:=⟨fun _=>⟨List.nodup_nil,fun s hs=>(by cases hs)⟩,rfl,rfl,rfl,fun p hp=>(by cases hp),fun p hp=>(by cases hp),fun p hp=>(by cases hp),fun p hp=>(by cases hp)⟩
theorem fT.grow {c d:Cont} (h:fT c) (g:Gr c d) (n:Nm c d) (k:mX d):fT d:=by
 refine⟨k,by rw[n.e,n.se];exact h.le,by rw[n.d,n.sd];exact h.ld,by rw[n.m,n.sm];exact h.lm,fun p hp=>?_,fun p hp=>?_,fun p hp=>?_,fun x hx=>?_⟩
 ·rw[n.e,n.se] at hp
  exact Vr (h.ev p hp) (g.len 0) (g.len 1) (g.len 2) (g.len 3)
 ·rw[n.d,n.sd] at hp
  have:=h.od p hp;exact⟨bW this.1 (g.len 2),DU this.2 (g.len 0)⟩
 ·rw[n.m,n.sm] at hp
  have:=h.ma p hp;exact⟨bW this.1 (g.len 3),bW this.2.1 (g.len 2),DU this.2.2 (g.len 0)⟩
 ·rw[n.q] at hx
  have:=h.wa x hx;exact⟨bW this.1 (g.len 1),this.2⟩
theorem vX {α β:Type} {a:H α} {b:H β} (h:a.length=b.length) (x:α) (y:β):(a++[x]).zip (b++[y])=a.zip b++[(x,y)]:=by
 rw[List.zip_append h];rfl
theorem fT.dK {c:Cont} (h:fT c) (e:EvC) (sn:H Sn) (he:gT (c.nl 0).length (c.nl 1).length (c.nl 2).length (c.nl 3).length e sn=Z):fT (c.ev e sn):=by
 refine⟨h.nm,?_,h.ld,h.lm,fun p hp=>?_,h.od,h.ma,h.wa⟩
 ·show(c.E++[e]).length=(c.SE++[sn]).length
  rw[List.length_append,List.length_append,h.le];rfl
 ·have hp':p∈(c.E++[e]).zip (c.SE++[sn]):=hp
  rw[vX h.le] at hp';rcases List.mem_append.1 hp' with hp'|hp'
  ·exact h.ev p hp'
  ·rw[List.mem_singleton.1 hp'];exact he
theorem fT.odA {c:Cont} (h:fT c) (x:aK) (ts:H C) (hx:aV x.obj (c.nl 2).length=Z∧fH (c.nl 0).length ts=Z):fT {c with D:=c.D++[x],SD:=c.SD++[ts]}:=by
 refine⟨h.nm,h.le,?_,h.lm,h.ev,fun p hp=>?_,h.ma,h.wa⟩
 ·show(c.D++[x]).length=(c.SD++[ts]).length
  rw[List.length_append,List.length_append,h.ld];rfl
 ·have hp':p∈(c.D++[x]).zip (c.SD++[ts]):=hp
  rw[vX h.ld] at hp';rcases List.mem_append.1 hp' with hp'|hp'
  ·exact h.od p hp'
  ·rw[List.mem_singleton.1 hp'];exact hx
theorem fT.maA {c:Cont} (h:fT c) (x:aM) (ts:H C) (hx:aV x.pred (c.nl 3).length=Z∧aV x.obj (c.nl 2).length=Z∧fH (c.nl 0).length ts=Z):fT {c with M:=c.M++[x],SM:=c.SM++[ts]}:=by
 refine⟨h.nm,h.le,h.ld,?_,h.ev,h.od,fun p hp=>?_,h.wa⟩
 ·show(c.M++[x]).length=(c.SM++[ts]).length
  rw[List.length_append,List.length_append,h.lm];rfl
 ·have hp':p∈(c.M++[x]).zip (c.SM++[ts]):=hp
  rw[vX h.lm] at hp';rcases List.mem_append.1 hp' with hp'|hp'
  ·exact h.ma p hp'
  ·rw[List.mem_singleton.1 hp'];exact hx
theorem fT.waA {c:Cont} (h:fT c) (x:Wa) (hx:aV x.bR (c.nl 1).length=Z∧0≤x.bits∧x.bits≤15):fT {c with Q:=c.Q++[x]}:=by
 refine⟨h.nm,h.le,h.ld,h.lm,h.ev,h.od,h.ma,fun y hy=>?_⟩;rcases List.mem_append.1 hy with hy|hy
 ·exact h.wa y hy
 ·rw[List.mem_singleton.1 hy];exact hx
theorem Aj {l:H Bs} (h:l.length=2):∃a b,l=[a,b]:=by
 match l,h with
 |[a,b],_=>exact⟨a,b,rfl⟩
theorem wM {α:Type} {l:H α} (h:l.length=1):∃a,l=[a]:=by
 match l,h with
 |[a],_=>exact⟨a,rfl⟩
theorem fT.add {c:Cont} (h:fT c) {l:aB} (hl:fC l) (hf:aC (aJ c l)):fT (aJ c l):=by
 obtain⟨kd,ns,lv,vs,fi,bt⟩:=l;obtain⟨hw,hv,hc⟩:=hl;simp only at hw hv hc;rcases hc with⟨rfl,h1,h2,⟨lw,rfl,h3,h4⟩,h5,h6⟩|⟨rfl,h1,h2,h3,h4,h5⟩|⟨rfl,h1,h2,h3,h4,h5⟩|⟨rfl,⟨cc,h1,h2,h2'⟩,_,h3,h4,h5⟩|⟨rfl,h1,h2,h3,h4,h5⟩|⟨rfl,h1,h2,h3,h4,h5⟩|⟨rfl,⟨cc,h1,h2'⟩,h2,h3,h4,h5⟩|⟨rfl,⟨cc,h1,h2'⟩,h2,h3,_,h5⟩|⟨rfl,h1,h2,h3,h4,⟨bb,rfl,h5⟩⟩
 ·obtain⟨a,b,rfl⟩:=Aj h1
  have g:=(Gr.put c 0 a).trans (Gr.put (c.put 0 a) 1 b);have k:=(h.nm.put 0 (hw a ak)).put 1 (hw b ak);refine(h.grow g ((Nm.put c 0 a).trans (Nm.put _ 1 b)) k).dK _ _ ?_;have t1:=bW (fM c 0 a) ((Gr.put (c.put 0 a) 1 b).len 0);have t2:=fM (c.put 0 a) 1 b;simp[gT,hasB,fG,fD,t1,t2];omega
 ·obtain⟨a,b,rfl⟩:=Aj h1
  have g:=(Gr.put c 0 a).trans (Gr.put (c.put 0 a) 2 b);have k:=(h.nm.put 0 (hw a ak)).put 2 (hw b ak);refine(h.grow g ((Nm.put c 0 a).trans (Nm.put _ 2 b)) k).dK _ _ ?_;have t1:=bW (fM c 0 a) ((Gr.put (c.put 0 a) 2 b).len 0);have t2:=fM (c.put 0 a) 2 b;have hk:((fQ c.E (c.no 0 a) ((c.put 0 a).no 2 b):C)+1)≤999:=hf.2.2.2.2.2 _ (List.mem_append_right _ List.mem_cons_self) rfl;have hk0:¬((fQ c.E (c.no 0 a) ((c.put 0 a).no 2 b):C)+1)=0:=by omega
  have hk1:0<((fQ c.E (c.no 0 a) ((c.put 0 a).no 2 b):C)+1):=by omega
  simp[gT,hasB,fG,gI,t1,t2,hk,hk0,hk1]
 ·obtain⟨a,b,rfl⟩:=Aj h1
  obtain⟨v,rfl⟩:=wM h2;have hvv:=hv v ak;have g:=((Gr.put c 0 a).trans (Gr.put (c.put 0 a) 2 b)).trans (Gr.bU _ v);have k:=((h.nm.put 0 (hw a ak)).put 2 (hw b ak)).bU hvv;refine(h.grow g (((Nm.put c 0 a).trans (Nm.put _ 2 b)).trans (Nm.bU _ v)) k).dK _ _ ?_;have t1:=bW (fM c 0 a) (((Gr.put (c.put 0 a) 2 b).trans (Gr.bU _ v)).len 0);have t2:=bW (fM (c.put 0 a) 2 b) ((Gr.bU _ v).len 2);have t3:=NR ((c.put 0 a).put 2 b) hvv;simp[gT,hasB,fG,t1,t2,t3]
 ·match ns,h1 with
  |a::b::ns,h1=>
  have hz:∀p∈ns.zip vs,bS ⟨p.1.toArray⟩=Z∧nM p.2:=fun p hp=>⟨hw _ (List.mem_cons_of_mem _ (List.mem_cons_of_mem _ (List.of_mem_zip hp).1)),hv _ (List.of_mem_zip hp).2⟩
  have g:=((Gr.put c 0 a).trans (Gr.put (c.put 0 a) 3 b)).trans (Gr.sc (ns.zip vs) _);have k:=mX.sc (ns.zip vs) ((h.nm.put 0 (hw a ak)).put 3 (hw b ak)) hz;refine(h.grow g (((Nm.put c 0 a).trans (Nm.put _ 3 b)).trans (Nm.sc (ns.zip vs) _)) k).dK _ _ ?_;have t1:=bW (fM c 0 a) (((Gr.put (c.put 0 a) 3 b).trans (Gr.sc (ns.zip vs) _)).len 0);have t2:=bW (fM (c.put 0 a) 3 b) ((Gr.sc (ns.zip vs) _).len 3);obtain⟨t3,t4⟩:=Xl (ns.zip vs) ((c.put 0 a).put 3 b) (fun p hp=>(hz p hp).2);have t5:(((c.put 0 a).put 3 b).sc (ns.zip vs)).2.length≤40:=by rw[t4,List.length_zip];omega
  have t6:(((c.put 0 a).put 3 b).sc (ns.zip vs)).2.all (jK ((((c.put 0 a).put 3 b).sc (ns.zip vs)).1.nl 0).length ((((c.put 0 a).put 3 b).sc (ns.zip vs)).1.nl 2).length)=Z:=List.all_eq_true.2 t3;simp only[gT,hasB,fG];simp[t1,t2,t5];exact fun x hx=>t3 x hx
 ·obtain⟨a,rfl⟩:=wM h1
  refine(h.grow (Gr.put c 0 a) (Nm.put c 0 a) (h.nm.put 0 (hw a ak))).dK _ _ ?_;have t1:=fM c 0 a;simp[gT,hasB,fG,t1]
 ·obtain⟨a,rfl⟩:=wM h1
  refine(h.grow (Gr.put c 0 a) (Nm.put c 0 a) (h.nm.put 0 (hw a ak))).dK _ _ ?_;have t1:=fM c 0 a;simp[gT,hasB,fG,t1]
 ·match ns,h1 with
  |a::ns,h1=>
  have g:=(Gr.put c 2 a).trans (Gr.ts ns (c.put 2 a));have k:=mX.ts ns (h.nm.put 2 (hw a ak)) (fun x hx=>hw x (List.mem_cons_of_mem _ hx));have n:=(Nm.put c 2 a).trans (Nm.ts ns (c.put 2 a));have t1:=bW (fM c 2 a) ((Gr.ts ns (c.put 2 a)).len 2);obtain⟨t3,t4⟩:=Py ns (c.put 2 a);have:=(h.grow g n k).odA ⟨c.no 2 a,none,0,0⟩ ((c.put 2 a).ts ns).2 ⟨t1,by simp only[fH,A,U,List.all_eq_true];exact⟨by rw[t4];simp only[List.length_cons] at h1;omega,t3⟩⟩;rw[n.d,n.sd] at this;exact this
 ·match ns,h1 with
  |a::b::ns,h1=>
  have g:=((Gr.put c 3 a).trans (Gr.put (c.put 3 a) 2 b)).trans (Gr.ts ns _);have k:=mX.ts ns ((h.nm.put 3 (hw a ak)).put 2 (hw b ak)) (fun x hx=>hw x (List.mem_cons_of_mem _ (List.mem_cons_of_mem _ hx)));have n:=((Nm.put c 3 a).trans (Nm.put (c.put 3 a) 2 b)).trans (Nm.ts ns _);have t1:=bW (fM c 3 a) (((Gr.put (c.put 3 a) 2 b).trans (Gr.ts ns _)).len 3);have t2:=bW (fM (c.put 3 a) 2 b) ((Gr.ts ns _).len 2);obtain⟨t3,t4⟩:=Py ns ((c.put 3 a).put 2 b);have:=(h.grow g n k).maA ⟨c.no 3 a,(c.put 3 a).no 2 b,fi,none,0,0⟩ (((c.put 3 a).put 2 b).ts ns).2 ⟨t1,t2,by simp only[fH,A,U,List.all_eq_true];exact⟨by rw[t4];simp only[List.length_cons] at h1;omega,t3⟩⟩;rw[n.m,n.sm] at this;exact this
 ·obtain⟨a,rfl⟩:=wM h1
  have n:=Nm.put c 1 a;have:=(h.grow (Gr.put c 1 a) n (h.nm.put 1 (hw a ak))).waA ⟨c.no 1 a,(bb:C)⟩ ⟨fM c 1 a,by simp only[];omega,by simp only[];omega⟩;rw[n.q] at this;exact this
def aS (c:Cont):H (C × C):=
 (c.E.zip c.SE).flatMap (fun p=>dN p.1 p.2)++(c.D.zip c.SD).flatMap (fun p=>jQ p.1 p.2)++(c.M.zip c.SM).flatMap (fun p=>jf p.1 p.2)++c.Q.flatMap jY
def dx (l:H C) (n:C):C:=if n∈l then(l.idxOf n:C) else -1
def jZ (F:C→H C) (v:kT):kT:=if 0<v.k then⟨dx (F 0) v.t,v.k⟩ else v
def yY (F:C→H C) (s:Sn):Sn:=⟨dx (F 2) s.obj,jZ F s.v⟩
def dK (F:C→H C) (e:EvC):EvC:=
 {Bz with kind:=e.kind,t:=dx (F 0) e.t,lvl:=e.lvl,bR:=if e.kind=1 then dx (F 1) e.bR else 0,obj:=if e.kind=2∨e.kind=3 then dx (F 2) e.obj else 0,v:=if e.kind=2∨e.kind=3 then jZ F e.v else⟨0,0⟩,pred:=if e.kind=4 then dx (F 3) e.pred else 0}
def aH (l:H Bs) (n:C):Bs:=l.getD n.toNat []
def rZ (F:C→H C) (c:Cont):Cont:=
 ⟨fun i=>(F (i:C)).map (aH (c.nl i)),c.E.map (dK F),c.SE.map (fun l=>l.map (yY F)),c.D.map (fun x=>⟨dx (F 2) x.obj,none,0,0⟩),c.SD.map (fun l=>l.map (dx (F 0))),
 c.M.map (fun x=>⟨dx (F 3) x.pred,dx (F 2) x.obj,x.first,none,0,0⟩),c.SM.map (fun l=>l.map (dx (F 0))),c.Q.map (fun x=>⟨dx (F 1) x.bR,x.bits⟩)⟩
def bV (c:Cont):Cont:=rZ (bN (aS c)) c
def wY (F:C→H C) (x:C × C):C × C:=(x.1,dx (F x.1) x.2)
theorem Gw {l g:H C} {n:C} (hp:l<+:g) (hn:n∈l):dx g n=(l.idxOf n:C):=by
 unfold dx;rw[J (hp.subset hn)];obtain⟨t,rfl⟩:=hp;rw[List.idxOf_append,J hn]
theorem NS {l g:H C} {n:C} (hp:l++[n]<+:g) (hn:n∉l):dx g n=(l.length:C):=by
 rw[Gw hp ak,List.idxOf_append,L hn];simp
theorem Y4 (s:C) (G:C→H C) (xs:H (C × C)):bN xs s<+:G s→bN (xs.map (wY G)) s=up (bN xs s).length:=by
 refine vS (P:=fun xs=>bN xs s<+:G s→bN (xs.map (wY G)) s=up (bN xs s).length) (fun _=>rfl) (fun xs x ih hp=>?_) xs;have ih:=ih ((xQ xs x s).trans hp);rw[List.map_append,List.map_singleton,j5,ih];by_cases hx:x.1=s
 ·have h1:(wY G x).1=s:=hx
  have h2:(wY G x).2=dx (G s) x.2:=by unfold wY;rw[hx]
  rw[J h1,h2];have e:bN (xs++[x]) s=lg (bN xs s) x.2:=by rw[j5,J hx]
  rw[e] at hp ⊢;by_cases hm:x.2∈bN xs s
  ·have e2:lg (bN xs s) x.2=bN xs s:=by unfold lg;rw[J hm]
   rw[e2] at hp ⊢;rw[Gw hp hm];unfold lg;rw[J ((yC (Int.natCast_nonneg _)).2 (Int.ofNat_lt.2 (List.idxOf_lt_length_of_mem hm)))]
  ·have e2:lg (bN xs s) x.2=bN xs s++[x.2]:=by unfold lg;rw[L hm]
   rw[e2] at hp ⊢;rw[NS hp hm];unfold lg;rw[L (fun h=>by have:=(yC (Int.natCast_nonneg _)).1 h;omega),List.length_append,List.length_singleton,Nu]
 ·have h1:¬(wY G x).1=s:=hx
  rw[L h1,j5,L hx]
theorem KT (F:C→H C) (v:kT):dh (jZ F v)=(dh v).map (wY F):=by
 unfold dh jZ;by_cases h:0<v.k
 ·rw[J h,J h,J h];rfl
 ·rw[L h,L h];rfl
theorem Y5 (F:C→H C) (l:H Sn):(l.map (yY F)).flatMap (fun s=>(2,s.obj)::dh s.v)=(l.flatMap (fun s=>(2,s.obj)::dh s.v)).map (wY F):=by
 induction l with
 |nil=>rfl
 |cons s l ih=>
  rw[List.map_cons,List.flatMap_cons,List.flatMap_cons,List.map_append,ih]
  congr 1
  rw[List.map_cons,←KT];rfl
theorem Y6 (F:C→H C) (e:EvC) (l:H Sn):dN (dK F e) (l.map (yY F))=(dN e l).map (wY F):=by
 have hk:(dK F e).kind=e.kind:=rfl;unfold dN;rw[Y5,hk,List.map_append,List.map_cons]
 congr 2
 by_cases h1:e.kind=1
 ·rw[J h1,J h1]
  have:(dK F e).bR=dx (F 1) e.bR:=by unfold dK;simp only[J h1]
  rw[this];rfl
 ·rw[L h1,L h1]
  by_cases h2:e.kind=2∨e.kind=3
  ·rw[J h2,J h2]
   have e1:(dK F e).obj=dx (F 2) e.obj:=by unfold dK;simp only[J h2]
   have e2:(dK F e).v=jZ F e.v:=by unfold dK;simp only[J h2]
   rw[e1,e2,KT];rfl
  ·rw[L h2,L h2]
   by_cases h4:e.kind=4
   ·rw[J h4,J h4]
    have:(dK F e).pred=dx (F 3) e.pred:=by unfold dK;simp only[J h4]
    rw[this];rfl
   ·rw[L h4,L h4];rfl
theorem A9 {α β γ δ:Type} (f:α→γ) (g:β→δ) (N:γ→δ→H (C × C)) (K:α→β→H (C × C)) (F:C→H C) (h:∀a b,N (f a) (g b)=(K a b).map (wY F)):
  ∀(xs:H α) (ys:H β),((xs.map f).zip (ys.map g)).flatMap (fun p=>N p.1 p.2)=((xs.zip ys).flatMap (fun p=>K p.1 p.2)).map (wY F)
 |[],_=>by simp
 |_::_,[]=>by simp
 |a::xs,b::ys=>by
  rw[List.map_cons,List.map_cons,List.zip_cons_cons,List.zip_cons_cons,List.flatMap_cons,List.flatMap_cons,List.map_append,A9 f g N K F h xs ys,h]
theorem Si (F:C→H C) (c:Cont):aS (rZ F c)=(aS c).map (wY F):=by
 unfold aS;rw[List.map_append,List.map_append,List.map_append];refine congr (congrArg _ (congr (congrArg _ (congr (congrArg _ ?_) ?_)) ?_)) ?_
 ·exact A9 (dK F) (fun l=>l.map (yY F)) dN dN F (Y6 F) c.E c.SE
 ·refine A9 (fun x:aK=>(⟨dx (F 2) x.obj,none,0,0⟩:aK)) (fun l=>l.map (dx (F 0))) jQ jQ F (fun a b=>?_) c.D c.SD
  unfold jQ;rw[List.map_cons,List.map_map,List.map_map];rfl
 ·refine A9 (fun x:aM=>(⟨dx (F 3) x.pred,dx (F 2) x.obj,x.first,none,0,0⟩:aM)) (fun l=>l.map (dx (F 0))) jf jf F (fun a b=>?_) c.M c.SM
  unfold jf;rw[List.map_cons,List.map_cons,List.map_map,List.map_map];rfl
 ·show(c.Q.map _).flatMap jY=_
  induction c.Q with
  |nil=>rfl
  |cons x q ih=>rw[List.map_cons,List.flatMap_cons,List.flatMap_cons,List.map_append,ih];rfl
theorem Ig (c:Cont) (i:Nat):bN (aS (bV c)) (i:C)=up ((bV c).nl i).length:=by
 unfold bV;rw[Si,Y4 _ _ _ (List.prefix_refl _)];show up _=up ((bN (aS c) (i:C)).map _).length;rw[List.length_map]
theorem KU (l:H C) (n:C):n∈lg l n:=by
 unfold lg
 split
 ·assumption
 ·simp
theorem Dh {s n:C} (xs:H (C × C)):(s,n)∈xs→n∈bN xs s:=by
 refine vS (P:=fun xs=>(s,n)∈xs→n∈bN xs s) (fun h=>by cases h) (fun xs x ih h=>?_) xs;rcases List.mem_append.1 h with h|h
 ·exact(xQ xs x s).subset (ih h)
 ·obtain rfl:x=(s,n):=(List.mem_singleton.1 h).symm
  rw[j5,J rfl];exact KU _ _
theorem Gx {s n:C} (xs:H (C × C)):n∈bN xs s→(s,n)∈xs:=by
 refine vS (P:=fun xs=>n∈bN xs s→(s,n)∈xs) (fun h=>by cases h) (fun xs x ih h=>?_) xs;rw[j5] at h;by_cases hx:x.1=s
 ·rw[J hx] at h
  unfold lg at h
  split at h
  ·exact R _ (ih h)
  ·rcases List.mem_append.1 h with h|h
   ·exact R _ (ih h)
   ·have:n=x.2:=by simpa using h
    refine List.mem_append_right _ ?_;rw[this,←hx];simp
 ·rw[L hx] at h
  exact R _ (ih h)
theorem Cv (s:C) (xs:H (C × C)):(bN xs s).Nodup:=by
 refine vS (P:=fun xs=>(bN xs s).Nodup) List.nodup_nil (fun xs x ih=>?_) xs;rw[j5]
 split
 ·exact Pz ih
 ·exact ih
theorem wN {v:kT} {nt:Nat} (h:gI v nt=Z):∀x∈dh v,x.1=0∧aV x.2 nt=Z:=fun x hx=>by
 unfold dh at hx
 split at hx
 ·rename_i hk
  rw[List.mem_singleton.1 hx];unfold gI at h;rw[L ah] at h;simp only[A] at h;exact⟨rfl,h.1.1⟩
 ·cases hx
theorem wz {c:Cont} (h:fT c):∀x∈aS c,∃s:Nat,s<4∧x.1=(s:C)∧aV x.2 (c.nl s).length=Z:=by
 intro x hx;unfold aS at hx;rcases List.mem_append.1 hx with hx|hx
 ·rcases List.mem_append.1 hx with hx|hx
  ·rcases List.mem_append.1 hx with hx|hx
   ·obtain⟨p,hp,hx⟩:=List.mem_flatMap.1 hx
    have he:=h.ev p hp;obtain⟨e,l⟩:=p;simp only[gT,A,U] at he;obtain⟨⟨⟨⟨_,_⟩,ht⟩,hh⟩,hb⟩:=he;unfold dN at hx;rcases List.mem_append.1 hx with hx|hx
    ·rcases List.mem_cons.1 hx with rfl|hx
     ·exact⟨0,by omega,rfl,ht⟩
     ·unfold hasB at hh
      split at hx
      ·rename_i k;rw[J k] at hh
       simp only[A] at hh;rw[List.mem_singleton.1 hx];exact⟨1,by omega,rfl,hh.1⟩
      ·rename_i k1;rw[L k1] at hh
       split at hx
       ·rename_i k
        have hov:aV e.obj (c.nl 2).length=Z∧gI e.v (c.nl 0).length=Z:=by
         by_cases k2:e.kind=2
         ·rw[J k2] at hh
          simp only[A] at hh;exact⟨hh.1.1.1,hh.1.1.2⟩
         ·rw[L k2,J (k.resolve_left k2)] at hh
          simp only[A] at hh;exact hh
        rcases List.mem_cons.1 hx with rfl|hx
        ·exact⟨2,by omega,rfl,hov.1⟩
        ·have:=wN hov.2 x hx
         exact⟨0,by omega,this.1,this.2⟩
       ·rename_i k2
        split at hx
        ·rename_i k4
         rw[L (fun e=>k2 (.inl e)),L (fun e=>k2 (.inr e)),J k4] at hh;simp only[A] at hh;rw[List.mem_singleton.1 hx];exact⟨3,by omega,rfl,hh.1.1⟩
        ·cases hx
    ·obtain⟨s,hs,hx⟩:=List.mem_flatMap.1 hx
     have h4:e.kind=4:=by
      apply Classical.byContradiction
      intro hn4;have hl:l=[]:=by
       unfold fG at hb
       split at hb
       ·simp only[A,U] at hb;exact hb.2
       ·split at hb
        ·simp only[A,U] at hb;exact hb.2
        ·first|(rw[L hn4] at hb)|skip
         simp only[A,U] at hb;exact hb.2
      subst hl;cases hs
     unfold hasB at hh;rw[L ah,L ah,L ah,J h4] at hh;simp only[A,List.all_eq_true] at hh;have hsn:=hh.2 s hs;simp only[jK,A] at hsn;rcases List.mem_cons.1 hx with rfl|hx
     ·exact⟨2,by omega,rfl,hsn.1⟩
     ·have:=wN hsn.2 x hx
      exact⟨0,by omega,this.1,this.2⟩
   ·obtain⟨p,hp,hx⟩:=List.mem_flatMap.1 hx
    have ho:=h.od p hp;unfold jQ at hx;rcases List.mem_cons.1 hx with rfl|hx
    ·exact⟨2,by omega,rfl,ho.1⟩
    ·obtain⟨d,hd,rfl⟩:=List.mem_map.1 hx
     have:=ho.2;simp only[fH,A,List.all_eq_true] at this;exact⟨0,by omega,rfl,this.2 d hd⟩
  ·obtain⟨p,hp,hx⟩:=List.mem_flatMap.1 hx
   have ho:=h.ma p hp;unfold jf at hx;rcases List.mem_cons.1 hx with rfl|hx
   ·exact⟨3,by omega,rfl,ho.1⟩
   ·rcases List.mem_cons.1 hx with rfl|hx
    ·exact⟨2,by omega,rfl,ho.2.1⟩
    ·obtain⟨d,hd,rfl⟩:=List.mem_map.1 hx
     have:=ho.2.2;simp only[fH,A,List.all_eq_true] at this;exact⟨0,by omega,rfl,this.2 d hd⟩
 ·obtain⟨p,hp,hx⟩:=List.mem_flatMap.1 hx
  have ho:=h.wa p hp;unfold jY at hx;rw[List.mem_singleton.1 hx];exact⟨1,by omega,rfl,ho.1⟩
theorem lJ {l:H C} {n:C} (h:n∈l):aV (dx l n) l.length=Z:=by
 unfold dx;rw[J h];have:=List.idxOf_lt_length_of_mem h;unfold aV;exact Bool.and_eq_true_iff.2 ⟨decide_eq_true (Int.natCast_nonneg _),decide_eq_true (Int.ofNat_lt.2 this)⟩
theorem yF {n:C} {m:Nat} (h:aV n m=Z):∃k:Nat,n=(k:C)∧k<m:=by
 simp only[aV,A,U] at h;exact⟨n.toNat,by omega,by omega⟩
theorem mK (l:H Bs) {k:Nat} (h:k<l.length):aH l (k:C)=l[k]:=by
 unfold aH;rw[Int.toNat_natCast,List.getD_eq_getElem?_getD,List.getElem?_eq_getElem h];rfl
theorem Ba {l:H Bs} (hn:l.Nodup) {i j:Nat} (hi:i<l.length) (hj:j<l.length) (e:l[i]=l[j]):i=j:=by
 rcases Nat.lt_trichotomy i j with h|h|h
 ·exact absurd e (List.pairwise_iff_getElem.1 hn i j hi hj h)
 ·exact h
 ·exact absurd e.symm (List.pairwise_iff_getElem.1 hn j i hj hi h)
theorem Vs {l:H Bs} (hn:l.Nodup) {ns:H C} (h:∀n∈ns,aV n l.length=Z) (hd:ns.Nodup):(ns.map (aH l)).Nodup∧∀s∈ns.map (aH l),s∈l:=by
 refine⟨?_,fun s hs=>?_⟩
 ·refine List.pairwise_map.2 (List.Pairwise.imp_of_mem (fun {a b} ha hb hne e=>hne ?_) hd)
  obtain⟨i,rfl,hi⟩:=yF (h a ha);obtain⟨j,rfl,hj⟩:=yF (h b hb);rw[mK l hi,mK l hj] at e;rw[Ba hn hi hj e]
 ·obtain⟨n,hn',rfl⟩:=List.mem_map.1 hs
  obtain⟨i,rfl,hi⟩:=yF (h n hn');rw[mK l hi];exact List.getElem_mem hi
theorem mX.number {c:Cont} (h:fT c):mX (bV c):=fun i=>by
 show((bN (aS c) (i:C)).map (aH (c.nl i))).Nodup∧∀s∈(bN (aS c) (i:C)).map (aH (c.nl i)),bS ⟨s.toArray⟩=Z;have ht:∀n∈bN (aS c) (i:C),aV n (c.nl i).length=Z:=fun n hn=>by
  obtain⟨s,_,hs,ht⟩:=wz h _ (Gx _ hn);have:i=s:=Int.ofNat_inj.1 hs;subst this;exact ht
 obtain⟨h1,h2⟩:=Vs (h.nm i).1 ht (Cv _ _);exact⟨h1,fun s hs=>(h.nm i).2 s (h2 s hs)⟩
theorem KV {F:C→H C} {v:kT} {nt:Nat} (h:gI v nt=Z) (hm:∀x∈dh v,x.2∈F 0):gI (jZ F v) (F 0).length=Z:=by
 unfold jZ;by_cases hk:0<v.k
 ·rw[J hk]
  unfold gI at h ⊢;rw[L ah] at h;rw[L (by simp only[];omega)];simp only[A] at h ⊢;have:v.t∈F 0:=hm (0,v.t) (by unfold dh;rw[J hk];simp);exact⟨⟨lJ this,h.1.2⟩,h.2⟩
 ·rw[L hk]
  unfold gI at h ⊢;by_cases h0:v.k=0
  ·rw[J h0] at h ⊢;exact h
  ·rw[L h0] at h
   simp only[A,U] at h;omega
theorem aeR {F:C→H C} {s:Sn} {nt no:Nat} (h:jK nt no s=Z) (h2:s.obj∈F 2) (hm:∀x∈dh s.v,x.2∈F 0):jK (F 0).length (F 2).length (yY F s)=Z:=by
 simp only[jK,A] at h ⊢;exact⟨lJ h2,KV h.2 hm⟩
theorem aeS {F:C→H C} {e:EvC} {l:H Sn} {nt ns no np:Nat} (h:gT nt ns no np e l=Z) (hm:∀x∈dN e l,x.2∈F x.1):gT (F 0).length (F 1).length (F 2).length (F 3).length (dK F e) (l.map (yY F))=Z:=by
 obtain⟨kd,t,bR,lvl,obj,v,pred,sa,sn,sc⟩:=e;simp only[gT,A,U] at h;obtain⟨⟨⟨⟨h1,h7⟩,ht⟩,hh⟩,hb⟩:=h;have hmt:t∈F 0:=hm (0,t) (by simp[dN]);have ht2:=lJ hmt;have hk:kd=1∨kd=2∨kd=3∨kd=4∨kd=5∨kd=6:=by omega
 rcases hk with rfl|rfl|rfl|rfl|rfl|rfl
 ·simp[hasB,fG] at hh hb
  have h2:=lJ (hm (1,bR) (by simp[dN]));obtain⟨⟨⟨_,_⟩,_⟩,rfl⟩:=hb;simp[gT,hasB,fG,dK,ht2,h2,hh.2]
 ·simp[hasB,fG] at hh hb
  have h2:=lJ (hm (2,obj) (by simp[dN]));have h3:=KV (F:=F) hh.1.1.2 (fun x hx=>by have:=hm x (by simp[dN,hx]);have h0:=(wN hh.1.1.2 x hx).1;rw[h0] at this;exact this);obtain⟨⟨⟨_,rfl⟩,_⟩,rfl⟩:=hb;have hk:0<v.k:=hh.2;have hvt:(jZ F v).t=dx (F 0) t∧0<(jZ F v).k:=by unfold jZ;rw[J hk];exact⟨by rw[hh.1.2],hk⟩
  simp[gT,hasB,fG,dK,ht2,h2,h3,hvt.1,hvt.2]
 ·simp[hasB,fG] at hh hb
  have h2:=lJ (hm (2,obj) (by simp[dN]));have h3:=KV (F:=F) hh.2 (fun x hx=>by have:=hm x (by simp[dN,hx]);have h0:=(wN hh.2 x hx).1;rw[h0] at this;exact this);obtain⟨⟨⟨_,rfl⟩,_⟩,rfl⟩:=hb;simp[gT,hasB,fG,dK,ht2,h2,h3]
 ·simp[hasB,fG] at hh hb
  have h2:=lJ (hm (3,pred) (by simp[dN]));obtain⟨⟨⟨_,rfl⟩,_⟩,_⟩:=hb;have hs:∀s∈l,jK (F 0).length (F 2).length (yY F s)=Z:=fun s hs=>by
   have hsb:=hh.2 s hs;refine aeR hsb (hm (2,s.obj) ?_) (fun x hx=>?_)
   ·unfold dN;refine List.mem_append_right _ (List.mem_flatMap.2 ⟨s,hs,by simp⟩)
   ·have:=hm x (by unfold dN;exact List.mem_append_right _ (List.mem_flatMap.2 ⟨s,hs,List.mem_cons_of_mem _ hx⟩))
    simp only[jK,A] at hsb;have h0:=(wN hsb.2 x hx).1;rw[h0] at this;exact this
  simp[gT,hasB,fG,dK,ht2,h2,hh.1.2];exact hs
 ·simp[hasB,fG] at hh hb
  obtain⟨⟨⟨⟨⟨_,rfl⟩,_⟩,_⟩,_⟩,rfl⟩:=hb;simp[gT,hasB,fG,dK,ht2]
 ·simp[hasB,fG] at hh hb
  obtain⟨⟨⟨⟨⟨_,rfl⟩,_⟩,_⟩,_⟩,rfl⟩:=hb;simp[gT,hasB,fG,dK,ht2]
theorem Ez {α β γ δ:Type} (f:α→γ) (g:β→δ) (xs:H α) (ys:H β):(xs.map f).zip (ys.map g)=(xs.zip ys).map (fun p=>(f p.1,g p.2)):=by
 rw[List.zip_map];rfl
theorem KW {F:C→H C} {nt:Nat} {l:H C} (h:fH nt l=Z) (hm:∀d∈l,d∈F 0):fH (F 0).length (l.map (dx (F 0)))=Z:=by
 simp only[fH,A,List.all_eq_true,U,List.length_map] at h ⊢;refine⟨h.1,fun x hx=>?_⟩;obtain⟨d,hd,rfl⟩:=List.mem_map.1 hx;exact lJ (hm d hd)
theorem fT.number {c:Cont} (h:fT c):fT (bV c):=by
 have hF:∀x∈aS c,x.2∈bN (aS c) x.1:=fun x hx=>Dh _ hx
 have hl:∀i:Nat,((bV c).nl i).length=(bN (aS c) (i:C)).length:=fun i=>List.length_map _
 have l0:=hl 0;have l1:=hl 1;have l2:=hl 2;have l3:=hl 3;refine⟨mX.number h,?_,?_,?_,fun p hp=>?_,fun p hp=>?_,fun p hp=>?_,fun x hx=>?_⟩
 ·show(c.E.map _).length=(c.SE.map _).length
  rw[List.length_map,List.length_map];exact h.le
 ·show(c.D.map _).length=(c.SD.map _).length
  rw[List.length_map,List.length_map];exact h.ld
 ·show(c.M.map _).length=(c.SM.map _).length
  rw[List.length_map,List.length_map];exact h.lm
 ·have hp':p∈(c.E.map (Yd.dK (bN (aS c)))).zip (c.SE.map (fun l=>l.map (yY (bN (aS c))))):=hp
  rw[Ez] at hp';obtain⟨q,hq,rfl⟩:=List.mem_map.1 hp';rw[l0,l1,l2,l3];exact aeS (h.ev q hq) (fun x hx=>hF x (by unfold aS;exact R _ (R _ (R _ (List.mem_flatMap.2 ⟨q,hq,hx⟩)))))
 ·have hp':p∈(c.D.map (fun x=>(⟨dx (bN (aS c) 2) x.obj,none,0,0⟩:aK))).zip (c.SD.map (fun l=>l.map (dx (bN (aS c) 0)))):=hp
  rw[Ez] at hp';obtain⟨q,hq,rfl⟩:=List.mem_map.1 hp';have hx:=fun x (hx:x∈jQ q.1 q.2)=>hF x (by unfold aS;exact R _ (R _ (List.mem_append_right _ (List.mem_flatMap.2 ⟨q,hq,hx⟩))))
  rw[l0,l2];exact⟨lJ (hx (2,q.1.obj) (by simp[jQ])),KW (h.od q hq).2 (fun d hd=>hx (0,d) (by simp[jQ,hd]))⟩
 ·have hp':p∈(c.M.map (fun x=>(⟨dx (bN (aS c) 3) x.pred,dx (bN (aS c) 2) x.obj,x.first,none,0,0⟩:aM))).zip (c.SM.map (fun l=>l.map (dx (bN (aS c) 0)))):=hp
  rw[Ez] at hp';obtain⟨q,hq,rfl⟩:=List.mem_map.1 hp';have hx:=fun x (hx:x∈jf q.1 q.2)=>hF x (by unfold aS;exact R _ (List.mem_append_right _ (List.mem_flatMap.2 ⟨q,hq,hx⟩)))
  rw[l0,l2,l3];exact⟨lJ (hx (3,q.1.pred) (by simp[jf])),lJ (hx (2,q.1.obj) (by simp[jf])),KW (h.ma q hq).2.2 (fun d hd=>hx (0,d) (by simp[jf,hd]))⟩
 ·have hx':x∈c.Q.map (fun x=>(⟨dx (bN (aS c) 1) x.bR,x.bits⟩:Wa)):=hx
  obtain⟨q,hq,rfl⟩:=List.mem_map.1 hx';have hx:=fun x (hx:x∈jY q)=>hF x (by unfold aS;exact List.mem_append_right _ (List.mem_flatMap.2 ⟨q,hq,hx⟩))
  rw[l1];exact⟨lJ (hx (1,q.bR) (by simp[jY])),(h.wa q hq).2⟩
def EA (d:Cont):Prop:=∀i:Nat,i<4→bN (aS d) (i:C)=up (d.nl i).length
def lu (d:Cont) (xs:H (C × C)) (c:Cont):Prop:=∀i:Nat,c.nl i=(d.nl i).take (bN xs (i:C)).length
theorem xX {xs ys:H (C × C)} (s:C) (h:xs<+:ys):bN xs s<+:bN ys s:=by
 obtain⟨t,rfl⟩:=h;refine vS (P:=fun t=>bN xs s<+:bN (xs++t) s) (by rw[O];exact List.prefix_refl _) (fun t x ih=>?_) t;rw[←V];exact ih.trans (xQ _ _ _)
theorem abJ {l:H C} {n:Nat} (h:l<+:up n):l=up l.length:=by
 have h1:=List.prefix_iff_eq_take.1 h;have h2:=h.length_le;rw[mI] at h2;have h3:(up n).take l.length=up l.length:=by
  unfold up;rw[←List.map_take,List.take_range,Nat.min_eq_left h2]
 rw[←h3];exact h1
theorem Sj {l:H Bs} (hn:l.Nodup) {k:Nat} (hk:k<l.length) {m:Nat} (hkm:k<m):(l.take m).idxOf l[k]=k:=by
 have hk2:k<(l.take m).length:=by rw[List.length_take];omega
 have hmem:l[k]∈l.take m:=by
  refine List.mem_of_getElem? (i:=k) ?_;rw[List.getElem?_take_of_lt hkm,List.getElem?_eq_getElem hk]
 have hi:=List.idxOf_lt_length_of_mem hmem;have he:=List.getElem_idxOf hi;rw[List.getElem_take] at he;exact Ba hn (by rw[List.length_take] at hi;omega) hk he
theorem lu.say {d c:Cont} {xs:H (C × C)} (ho:EA d) (hn:∀i,(d.nl i).Nodup) (h:lu d xs c) {s:Nat} (hs:s<4) {n:C} (hp:xs++[((s:C),n)]<+:aS d):
  lu d (xs++[((s:C),n)]) (c.put s (aH (d.nl s) n))∧c.no s (aH (d.nl s) n)=n:=by
 obtain⟨l,hl⟩:∃l,l=d.nl s:=⟨_,rfl⟩;have hF:=xX (s:C) hp;rw[ho s hs] at hF;have hx:=xX (s:C) ((I xs [((s:C),n)]).trans hp);rw[ho s hs] at hx;obtain⟨m,hm⟩:∃m,m=(bN xs (s:C)).length:=⟨_,rfl⟩;have hu:bN xs (s:C)=up m:=by rw[hm];exact abJ hx
 have hFn:bN (xs++[((s:C),n)]) (s:C)=lg (up m) n:=by rw[j5,J rfl,hu]
 rw[hFn] at hF;obtain⟨k,rfl,hk⟩:∃k:Nat,n=(k:C)∧k<l.length:=by
  have h1:=hF.subset (KU (up m) n);unfold up at h1;obtain⟨k,hk,e⟩:=List.mem_map.1 h1;exact⟨k,e.symm,by rw[hl];exact List.mem_range.1 hk⟩
 have hnl:=hn s;rw[←hl] at hnl;have hc:c.nl s=l.take m:=by rw[hl,hm];exact h s
 have hml:m≤l.length:=by
  have:=hx.length_le;rw[mI,hu,mI] at this;rw[hl];exact this
 have hname:aH (d.nl s) (k:C)=l[k]:=by rw[←hl];exact mK l hk
 rw[hname];have hoth:∀i:Nat,i≠s→(c.put s l[k]).nl i=(d.nl i).take (bN (xs++[((s:C),(k:C))]) (i:C)).length:=fun i hi=>by
  have e1:(c.put s l[k]).nl i=c.nl i:=if_neg hi;have e2:bN (xs++[((s:C),(k:C))]) (i:C)=bN xs (i:C):=by rw[j5,L (fun e=>hi (Int.ofNat_inj.1 e).symm)]
  rw[e1,e2];exact h i
 have hput:(c.put s l[k]).nl s=bY (l.take m) l[k]:=by
  have:(c.put s l[k]).nl s=bY (c.nl s) l[k]:=if_pos rfl;rw[this,hc]
 have hno:c.no s l[k]=(p9 (l.take m) l[k]:C):=by unfold Cont.no;rw[hc]
 rcases Nat.lt_or_ge k m with hkm|hkm
 ·have hmem:l[k]∈l.take m:=by
   refine List.mem_of_getElem? (i:=k) ?_;rw[List.getElem?_take_of_lt hkm,List.getElem?_eq_getElem hk]
  refine⟨fun i=>?_,?_⟩
  ·by_cases hi:i=s
   ·subst hi
    have e:lg (up m) (k:C)=up m:=by unfold lg;rw[J ((yC (Int.natCast_nonneg _)).2 (Int.ofNat_lt.2 hkm))]
    rw[hput,Di hmem,hFn,e,mI,hl]
   ·exact hoth i hi
  ·rw[hno,Sk hmem,Sj hnl hk hkm]
 ·have e:lg (up m) (k:C)=up m++[(k:C)]:=by unfold lg;rw[L (fun h=>by have:=(yC (Int.natCast_nonneg k)).1 h;omega)]
  rw[e] at hF;have ahc:k=m:=by
   obtain⟨t,ht⟩:=hF;have h1:(up (d.nl s).length)[m]?=some (k:C):=by
    rw[←ht,V,List.getElem?_append_right (by rw[mI];exact Nat.le_refl _),mI,Nat.sub_self];rfl
   have hlt:m<(d.nl s).length:=by rw[←hl];omega
   rw[Rw hlt] at h1;injection h1 with h1;exact(Int.ofNat_inj.1 h1).symm
  subst ahc;have hnm:l[k]∉l.take k:=fun hmem=>by
   obtain⟨j,hj⟩:=List.getElem?_of_mem hmem;obtain⟨h1,h2⟩:=List.getElem?_eq_some_iff.1 hj;rw[List.length_take] at h1;rw[List.getElem_take] at h2;have:=Ba hnl ah hk h2;omega
  refine⟨fun i=>?_,?_⟩
  ·by_cases hi:i=s
   ·subst hi
    rw[hput,AZ hnm,hFn,e,List.length_append,mI,List.length_singleton,←hl,List.take_add_one,List.getElem?_eq_getElem hk];rfl
   ·exact hoth i hi
  ·rw[hno,NT hnm,List.length_take,Nat.min_eq_left ah]
def jm (l:H Bs) (v:kT):To:=if v.k=0 then⟨[],0⟩ else⟨aH l v.t,v.k⟩
section
variable {d:Cont} (ho:EA d) (hn:∀i,(d.nl i).Nodup)
include ho hn
theorem lu.abK {c:Cont} {xs:H (C × C)} (h:lu d xs c) {v:kT} {nt:Nat} (hv:gI v nt=Z) (hp:xs++dh v<+:aS d):lu d (xs++dh v) (c.bU (jm (d.nl 0) v)).1∧(c.bU (jm (d.nl 0) v)).2=v:=by
 obtain⟨t,k⟩:=v;unfold gI at hv;unfold dh at hp ⊢;unfold Cont.bU jm;by_cases hk:k=0
 ·subst hk
  simp only[if_true,U] at hv;subst hv;simp only[if_true,Int.lt_irrefl,if_false,O];exact⟨h,trivial⟩
 ·simp only[L hk] at hv ⊢
  simp only[A,U] at hv;simp only[J hv.1.2] at hp ⊢;obtain⟨h1,h2⟩:=h.say ho hn (s:=0) ah hp;exact⟨h1,by rw[h2]⟩
theorem lu.tsS:∀(ds:H C) {c:Cont} {xs:H (C × C)},lu d xs c→xs++ds.map (fun t=>((0:C),t))<+:aS d→lu d (xs++ds.map (fun t=>((0:C),t))) (c.ts (ds.map (aH (d.nl 0)))).1∧(c.ts (ds.map (aH (d.nl 0)))).2=ds
 |[],c,xs,h,_=>by rw[List.map_nil,O];exact⟨h,rfl⟩
 |t::ds,c,xs,h,hp=>by
  have e:xs++(t::ds).map (fun t=>((0:C),t))=(xs++[((0:C),t)])++ds.map (fun t=>((0:C),t)):=by simp
  rw[e] at hp ⊢;obtain⟨h1,h2⟩:=h.say ho hn (s:=0) ah ((I _ _).trans hp);obtain⟨h3,h4⟩:=lu.tsS ds h1 hp;exact⟨h3,by show _::_=_;rw[h2,h4]⟩
theorem lu.scS:∀(sc:H Sn) {c:Cont} {xs:H (C × C)},lu d xs c→(∀s∈sc,gI s.v (d.nl 0).length=Z)→xs++sc.flatMap (fun s=>((2:C),s.obj)::dh s.v)<+:aS d→
  lu d (xs++sc.flatMap (fun s=>((2:C),s.obj)::dh s.v)) (c.sc (sc.map (fun q=>(aH (d.nl 2) q.obj,jm (d.nl 0) q.v)))).1∧(c.sc (sc.map (fun q=>(aH (d.nl 2) q.obj,jm (d.nl 0) q.v)))).2=sc
 |[],c,xs,h,_,_=>by rw[List.flatMap_nil,O];exact⟨h,rfl⟩
 |s::sc,c,xs,h,hv,hp=>by
  have e:xs++(s::sc).flatMap (fun s=>((2:C),s.obj)::dh s.v)=((xs++[((2:C),s.obj)])++dh s.v)++sc.flatMap (fun s=>((2:C),s.obj)::dh s.v):=by simp
  rw[e] at hp ⊢;obtain⟨h1,h2⟩:=h.say ho hn (s:=2) ah (((I _ _).trans (I _ _)).trans hp);obtain⟨h3,h4⟩:=h1.abK ho hn (hv s List.mem_cons_self) ((I _ _).trans hp);obtain⟨h5,h6⟩:=lu.scS sc h3 (fun x hx=>hv x (List.mem_cons_of_mem _ hx)) hp;refine⟨h5,?_⟩;show _::_=_;rw[h6]
  congr 1
  rw[h2,h4]
end
theorem abM (c:Cont) (a b:Bs) (lv:C):aJ c ⟨1,[a,b],lv,[],false,0⟩=((c.put 0 a).put 1 b).ev {Bz with kind:=1,t:=c.no 0 a,bR:=(c.put 0 a).no 1 b,lvl:=lv} []:=rfl
theorem abN (c:Cont) (a b:Bs):aJ c ⟨2,[a,b],0,[],false,0⟩=((c.put 0 a).put 2 b).ev {Bz with kind:=2,t:=c.no 0 a,obj:=(c.put 0 a).no 2 b,v:=⟨c.no 0 a,(fQ c.E (c.no 0 a) ((c.put 0 a).no 2 b):C)+1⟩} []:=rfl
theorem abO (c:Cont) (a b:Bs) (v:To):aJ c ⟨3,[a,b],0,[v],false,0⟩=(((c.put 0 a).put 2 b).bU v).1.ev {Bz with kind:=3,t:=c.no 0 a,obj:=(c.put 0 a).no 2 b,v:=(((c.put 0 a).put 2 b).bU v).2} []:=rfl
theorem abP (c:Cont) (a b:Bs) (ns:H Bs) (vs:H To):aJ c ⟨4,[a,b]++ns,0,vs,false,0⟩=(((c.put 0 a).put 3 b).sc (ns.zip vs)).1.ev {Bz with kind:=4,t:=c.no 0 a,pred:=(c.put 0 a).no 3 b} (((c.put 0 a).put 3 b).sc (ns.zip vs)).2:=rfl
theorem abQ (c:Cont) (a:Bs):aJ c ⟨5,[a],0,[],false,0⟩=(c.put 0 a).ev {Bz with kind:=5,t:=c.no 0 a} []:=rfl
theorem abR (c:Cont) (a:Bs):aJ c ⟨6,[a],0,[],false,0⟩=(c.put 0 a).ev {Bz with kind:=6,t:=c.no 0 a} []:=rfl
theorem abS (c:Cont) (a:Bs) (ns:H Bs):aJ c ⟨7,[a]++ns,0,[],false,0⟩={((c.put 2 a).ts ns).1 with D:=c.D++[⟨c.no 2 a,none,0,0⟩],SD:=c.SD++[((c.put 2 a).ts ns).2]}:=rfl
theorem abT (c:Cont) (a b:Bs) (ns:H Bs) (f:Bool):aJ c ⟨8,[a,b]++ns,0,[],f,0⟩={(((c.put 3 a).put 2 b).ts ns).1 with M:=c.M++[⟨c.no 3 a,(c.put 3 a).no 2 b,f,none,0,0⟩],SM:=c.SM++[(((c.put 3 a).put 2 b).ts ns).2]}:=rfl
theorem abU (c:Cont) (a:Bs) (b:C):aJ c ⟨9,[a],0,[],false,b⟩={c.put 1 a with Q:=c.Q++[⟨c.no 1 a,b⟩]}:=rfl
def iZ (d:Cont) (e:EvC) (scan:H Sn):aB:=
 if e.kind=1 then⟨e.kind,[aH (d.nl 0) e.t,aH (d.nl 1) e.bR],e.lvl,[],false,0⟩
 else if e.kind=2 then⟨e.kind,[aH (d.nl 0) e.t,aH (d.nl 2) e.obj],0,[],false,0⟩
 else if e.kind=3 then⟨e.kind,[aH (d.nl 0) e.t,aH (d.nl 2) e.obj],0,[jm (d.nl 0) e.v],false,0⟩
 else if e.kind=4 then⟨e.kind,[aH (d.nl 0) e.t,aH (d.nl 3) e.pred]++scan.map (fun q=>aH (d.nl 2) q.obj),0,scan.map (fun q=>jm (d.nl 0) q.v),false,0⟩
 else⟨e.kind,[aH (d.nl 0) e.t],0,[],false,0⟩
structure Added (c z:Cont) (e:EvC) (l:H Sn):Prop where
 E:z.E=c.E++[e]
 SE:z.SE=c.SE++[l]
 D:z.D=c.D
 SD:z.SD=c.SD
 M:z.M=c.M
 SM:z.SM=c.SM
 Q:z.Q=c.Q
theorem Added.of {c z:Cont} (n:Nm c z) (e:EvC) (l:H Sn):Added c (z.ev e l) e l:=
 ⟨by show z.E++[e]=_;rw[n.e],by show z.SE++[l]=_;rw[n.se],n.d,n.sd,n.m,n.sm,n.q⟩
theorem KX {α β γ:Type} (f:α→β) (g:α→γ):∀l:H α,(l.map f).zip (l.map g)=l.map (fun x=>(f x,g x))
 |[]=>rfl
 |x::l=>by rw[List.map_cons,List.map_cons,List.zip_cons_cons,KX f g l];rfl
theorem lu.event {d c:Cont} {xs:H (C × C)} (ho:EA d) (hn:∀i,(d.nl i).Nodup) (h:lu d xs c) {e:EvC} {l:H Sn} {ns no np:Nat} (he:gT (d.nl 0).length ns no np e l=Z) (hb:e.base=e)
  (hp:xs++dN e l<+:aS d) (hk:e.kind=2→e.v.k=(fQ c.E e.t e.obj:C)+1):lu d (xs++dN e l) (aJ c (iZ d e l))∧Added c (aJ c (iZ d e l)) e l:=by
 obtain⟨kd,t,bR,lvl,obj,v,pred,sa,sn,sc⟩:=e;have hb':(⟨kd,t,bR,lvl,obj,v,pred,none,0,0⟩:EvC)=⟨kd,t,bR,lvl,obj,v,pred,sa,sn,sc⟩:=hb;simp only[EvC.mk.injEq,true_and] at hb';obtain⟨rfl,rfl,rfl⟩:=hb';simp only[gT,A,U] at he;obtain⟨⟨⟨⟨h1,h7⟩,_⟩,hh⟩,hbr⟩:=he;have hkk:kd=1∨kd=2∨kd=3∨kd=4∨kd=5∨kd=6:=by omega
 rcases hkk with rfl|rfl|rfl|rfl|rfl|rfl
 ·simp[fG] at hbr
  obtain⟨⟨⟨rfl,rfl⟩,rfl⟩,rfl⟩:=hbr;have e1:dN ⟨1,t,bR,lvl,0,⟨0,0⟩,0,none,0,0⟩ []=[((0:C),t)]++[((1:C),bR)]:=rfl;rw[e1] at hp ⊢;rw[←V] at hp ⊢;obtain⟨h2,h3⟩:=h.say ho hn (s:=0) ah ((I _ _).trans hp);obtain⟨h4,h5⟩:=h2.say ho hn (s:=1) ah hp;have e2:iZ d ⟨1,t,bR,lvl,0,⟨0,0⟩,0,none,0,0⟩ []=⟨1,[aH (d.nl 0) t,aH (d.nl 1) bR],lvl,[],false,0⟩:=rfl;rw[e2,abM,h3,h5];exact⟨h4,Added.of ((Nm.put _ _ _).trans (Nm.put _ _ _)) _ _⟩
 ·simp[fG] at hbr
  simp[hasB] at hh;obtain⟨⟨⟨rfl,rfl⟩,rfl⟩,rfl⟩:=hbr;have hkv:=hk rfl;simp only at hkv;obtain⟨vt,vk⟩:=v;simp only at hkv hh;obtain⟨⟨⟨_,_⟩,rfl⟩,hk0⟩:=hh;have e1:dN ⟨2,vt,0,0,obj,⟨vt,vk⟩,0,none,0,0⟩ []=[((0:C),vt)]++([((2:C),obj)]++[((0:C),vt)]):=by
   unfold dN dh;simp[hk0]
  rw[e1] at hp ⊢;rw[←V,←V] at hp ⊢;obtain⟨h2,h3⟩:=h.say ho hn (s:=0) ah (((I _ _).trans (I _ _)).trans hp);obtain⟨h4,h5⟩:=h2.say ho hn (s:=2) ah ((I _ _).trans hp);obtain⟨h6,h7⟩:=h4.say ho hn (s:=0) ah hp;have e2:iZ d ⟨2,vt,0,0,obj,⟨vt,vk⟩,0,none,0,0⟩ []=⟨2,[aH (d.nl 0) vt,aH (d.nl 2) obj],0,[],false,0⟩:=rfl;rw[e2,abN,h3,h5,←hkv];refine⟨fun i=>?_,Added.of ((Nm.put _ _ _).trans (Nm.put _ _ _)) _ _⟩;refine Eq.trans ?_ (h6 i);show _=(if i=0 then bY (((c.put 0 (aH (d.nl 0) vt)).put 2 (aH (d.nl 2) obj)).nl 0) (aH (d.nl 0) vt) else((c.put 0 (aH (d.nl 0) vt)).put 2 (aH (d.nl 2) obj)).nl i);by_cases hi:i=0
  ·subst hi
   rw[J rfl,Di]
   ·rfl
   ·have h9:((c.put 0 (aH (d.nl 0) vt)).put 2 (aH (d.nl 2) obj)).nl 0=bY (c.nl 0) (aH (d.nl 0) vt):=rfl
    rw[h9];exact Bb _ _
  ·rw[L hi];rfl
 ·simp[fG] at hbr
  simp[hasB] at hh;obtain⟨⟨⟨rfl,rfl⟩,rfl⟩,rfl⟩:=hbr;have e1:dN ⟨3,t,0,0,obj,v,0,none,0,0⟩ []=[((0:C),t)]++([((2:C),obj)]++dh v):=by
   unfold dN;simp
  rw[e1] at hp ⊢;rw[←V,←V] at hp ⊢;obtain⟨h2,h3⟩:=h.say ho hn (s:=0) ah (((I _ _).trans (I _ _)).trans hp);obtain⟨h4,h5⟩:=h2.say ho hn (s:=2) ah ((I _ _).trans hp);obtain⟨h6,h7⟩:=h4.abK ho hn hh.2 hp;have e2:iZ d ⟨3,t,0,0,obj,v,0,none,0,0⟩ []=⟨3,[aH (d.nl 0) t,aH (d.nl 2) obj],0,[jm (d.nl 0) v],false,0⟩:=rfl;rw[e2,abO,h3,h5,h7];exact⟨h6,Added.of (((Nm.put _ _ _).trans (Nm.put _ _ _)).trans (Nm.bU _ _)) _ _⟩
 ·simp[fG] at hbr
  simp[hasB] at hh;obtain⟨⟨⟨rfl,rfl⟩,rfl⟩,rfl⟩:=hbr;have e1:dN ⟨4,t,0,0,0,⟨0,0⟩,pred,none,0,0⟩ l=[((0:C),t)]++([((3:C),pred)]++l.flatMap (fun s=>((2:C),s.obj)::dh s.v)):=by
   unfold dN;simp
  rw[e1] at hp ⊢;rw[←V,←V] at hp ⊢;obtain⟨h2,h3⟩:=h.say ho hn (s:=0) ah (((I _ _).trans (I _ _)).trans hp);obtain⟨h4,h5⟩:=h2.say ho hn (s:=3) ah ((I _ _).trans hp);obtain⟨h6,h7⟩:=h4.scS ho hn l (fun s hs=>by
   have:=hh.2 s hs;simp only[jK,A] at this;exact this.2) hp
  have e2:iZ d ⟨4,t,0,0,0,⟨0,0⟩,pred,none,0,0⟩ l=⟨4,[aH (d.nl 0) t,aH (d.nl 3) pred]++l.map (fun q=>aH (d.nl 2) q.obj),0,l.map (fun q=>jm (d.nl 0) q.v),false,0⟩:=rfl;rw[e2,abP,KX,h3,h5,h7];exact⟨h6,Added.of (((Nm.put _ _ _).trans (Nm.put _ _ _)).trans (Nm.sc _ _)) _ _⟩
 ·simp[fG] at hbr
  obtain⟨⟨⟨⟨⟨rfl,rfl⟩,rfl⟩,rfl⟩,rfl⟩,rfl⟩:=hbr;have e1:dN ⟨5,t,0,0,0,⟨0,0⟩,0,none,0,0⟩ []=[((0:C),t)]:=rfl;rw[e1] at hp ⊢;obtain⟨h2,h3⟩:=h.say ho hn (s:=0) ah hp;have e2:iZ d ⟨5,t,0,0,0,⟨0,0⟩,0,none,0,0⟩ []=⟨5,[aH (d.nl 0) t],0,[],false,0⟩:=rfl;rw[e2,abQ,h3];exact⟨h2,Added.of (Nm.put _ _ _) _ _⟩
 ·simp[fG] at hbr
  obtain⟨⟨⟨⟨⟨rfl,rfl⟩,rfl⟩,rfl⟩,rfl⟩,rfl⟩:=hbr;have e1:dN ⟨6,t,0,0,0,⟨0,0⟩,0,none,0,0⟩ []=[((0:C),t)]:=rfl;rw[e1] at hp ⊢;obtain⟨h2,h3⟩:=h.say ho hn (s:=0) ah hp;have e2:iZ d ⟨6,t,0,0,0,⟨0,0⟩,0,none,0,0⟩ []=⟨6,[aH (d.nl 0) t],0,[],false,0⟩:=rfl;rw[e2,abR,h3];exact⟨h2,Added.of (Nm.put _ _ _) _ _⟩
def qR (d:Cont) (x:aK) (l:H C):aB:=⟨7,[aH (d.nl 2) x.obj]++l.map (aH (d.nl 0)),0,[],false,0⟩
def qW (d:Cont) (x:aM) (l:H C):aB:=⟨8,[aH (d.nl 3) x.pred,aH (d.nl 2) x.obj]++l.map (aH (d.nl 0)),0,[],x.first,0⟩
def u6 (d:Cont) (x:Wa):aB:=⟨9,[aH (d.nl 1) x.bR],0,[],false,x.bits⟩
def qX (d:Cont):H aB:=
 (d.E.zip d.SE).map (fun p=>iZ d p.1 p.2)++(d.D.zip d.SD).map (fun p=>qR d p.1 p.2)++(d.M.zip d.SM).map (fun p=>qW d p.1 p.2)++d.Q.map (u6 d)
structure Has (c:Cont) (pe:H (EvC × H Sn)) (pd:H (aK × H C)) (pm:H (aM × H C)) (pq:H Wa):Prop where
 E:c.E=pe.map Prod.fst
 SE:c.SE=pe.map Prod.snd
 D:c.D=pd.map Prod.fst
 SD:c.SD=pd.map Prod.snd
 M:c.M=pm.map Prod.fst
 SM:c.SM=pm.map Prod.snd
 Q:c.Q=pq
def jB (d:Cont):Prop:=∀a e b,d.E=a++e::b→e.kind=2→e.v.k=(fQ a e.t e.obj:C)+1
structure jc (d:Cont):Prop where
 e:∀e∈d.E,e.base=e
 o:∀x∈d.D,x.base=x
 m:∀x∈d.M,x.base=x
theorem lu.order {d c:Cont} {xs:H (C × C)} (ho:EA d) (hn:∀i,(d.nl i).Nodup) (h:lu d xs c) {x:aK} {l:H C} {pe pd pm pq} (hh:Has c pe pd pm pq) (hb:x.base=x) (hp:xs++jQ x l<+:aS d):
  lu d (xs++jQ x l) (aJ c (qR d x l))∧Has (aJ c (qR d x l)) pe (pd++[(x,l)]) pm pq:=by
 obtain⟨obj,sa,sn,sc⟩:=x;have hb':(⟨obj,none,0,0⟩:aK)=⟨obj,sa,sn,sc⟩:=hb;simp only[aK.mk.injEq,true_and] at hb';obtain⟨rfl,rfl,rfl⟩:=hb';have e1:jQ ⟨obj,none,0,0⟩ l=[((2:C),obj)]++l.map (fun t=>((0:C),t)):=rfl;rw[e1] at hp ⊢;rw[←V] at hp ⊢;obtain⟨h2,h3⟩:=h.say ho hn (s:=2) ah ((I _ _).trans hp);obtain⟨h4,h5⟩:=h2.tsS ho hn l hp;have e2:qR d ⟨obj,none,0,0⟩ l=⟨7,[aH (d.nl 2) obj]++l.map (aH (d.nl 0)),0,[],false,0⟩:=rfl;have n:=(Nm.put c 2 (aH (d.nl 2) obj)).trans (Nm.ts (l.map (aH (d.nl 0))) _);rw[e2,abS,h3,h5];exact⟨h4,n.e.trans hh.E,n.se.trans hh.SE,by show c.D++_=_;rw[hh.D,List.map_append];rfl,by show c.SD++_=_;rw[hh.SD,List.map_append];rfl,n.m.trans hh.M,n.sm.trans hh.SM,n.q.trans hh.Q⟩
theorem lu.QT {d c:Cont} {xs:H (C × C)} (ho:EA d) (hn:∀i,(d.nl i).Nodup) (h:lu d xs c) {x:aM} {l:H C} {pe pd pm pq} (hh:Has c pe pd pm pq) (hb:x.base=x) (hp:xs++jf x l<+:aS d):
  lu d (xs++jf x l) (aJ c (qW d x l))∧Has (aJ c (qW d x l)) pe pd (pm++[(x,l)]) pq:=by
 obtain⟨pred,obj,fi,sa,sn,sc⟩:=x;have hb':(⟨pred,obj,fi,none,0,0⟩:aM)=⟨pred,obj,fi,sa,sn,sc⟩:=hb;simp only[aM.mk.injEq,true_and] at hb';obtain⟨rfl,rfl,rfl⟩:=hb';have e1:jf ⟨pred,obj,fi,none,0,0⟩ l=[((3:C),pred)]++([((2:C),obj)]++l.map (fun t=>((0:C),t))):=rfl;rw[e1] at hp ⊢;rw[←V,←V] at hp ⊢;obtain⟨h2,h3⟩:=h.say ho hn (s:=3) ah (((I _ _).trans (I _ _)).trans hp);obtain⟨h4,h5⟩:=h2.say ho hn (s:=2) ah ((I _ _).trans hp);obtain⟨h6,h7⟩:=h4.tsS ho hn l hp;have e2:qW d ⟨pred,obj,fi,none,0,0⟩ l=⟨8,[aH (d.nl 3) pred,aH (d.nl 2) obj]++l.map (aH (d.nl 0)),0,[],fi,0⟩:=rfl;have n:=((Nm.put c 3 (aH (d.nl 3) pred)).trans (Nm.put _ 2 (aH (d.nl 2) obj))).trans (Nm.ts (l.map (aH (d.nl 0))) _);rw[e2,abT,h3,h5,h7];exact⟨h6,n.e.trans hh.E,n.se.trans hh.SE,n.d.trans hh.D,n.sd.trans hh.SD,by show c.M++_=_;rw[hh.M,List.map_append];rfl,by show c.SM++_=_;rw[hh.SM,List.map_append];rfl,n.q.trans hh.Q⟩
theorem lu.want {d c:Cont} {xs:H (C × C)} (ho:EA d) (hn:∀i,(d.nl i).Nodup) (h:lu d xs c) {x:Wa} {pe pd pm pq} (hh:Has c pe pd pm pq) (hp:xs++jY x<+:aS d):
  lu d (xs++jY x) (aJ c (u6 d x))∧Has (aJ c (u6 d x)) pe pd pm (pq++[x]):=by
 obtain⟨bR,bits⟩:=x;have e1:jY ⟨bR,bits⟩=[((1:C),bR)]:=rfl;rw[e1] at hp ⊢;obtain⟨h2,h3⟩:=h.say ho hn (s:=1) ah hp;have e2:u6 d ⟨bR,bits⟩=⟨9,[aH (d.nl 1) bR],0,[],false,bits⟩:=rfl;rw[e2,abU,h3];exact⟨h2,hh.E,hh.SE,hh.D,hh.SD,hh.M,hh.SM,by show c.Q++_=_;rw[hh.Q]⟩
def bA (c:Cont) (ls:H aB):Cont:=ls.foldl aJ c
theorem wZ (c:Cont) (a b:H aB):bA c (a++b)=bA (bA c a) b:=List.foldl_append
theorem Gr.all:∀(ls:H aB) (c:Cont),Gr c (bA c ls)
 |[],c=>Gr.refl c
 |l::ls,c=>(Gr.add c l).trans (Gr.all ls _)
section
variable {d:Cont} (ho:EA d) (hn:∀i,(d.nl i).Nodup) (hs:fT d) (hb:jc d) (hc:jB d)
include ho hn hs hb hc
theorem Xm:∀(r pe:H (EvC × H Sn)) {c:Cont} {xs:H (C × C)},lu d xs c→Has c pe [] [] []→d.E.zip d.SE=pe++r→xs++r.flatMap (fun p=>dN p.1 p.2)<+:aS d→
  lu d (xs++r.flatMap (fun p=>dN p.1 p.2)) (bA c (r.map (fun p=>iZ d p.1 p.2)))∧Has (bA c (r.map (fun p=>iZ d p.1 p.2))) (pe++r) [] [] []
 |[],pe,c,xs,h,hh,_,_=>by rw[List.flatMap_nil,O,O];exact⟨h,hh⟩
 |p::r,pe,c,xs,h,hh,hz,hp=>by
  have hpm:p∈d.E.zip d.SE:=by rw[hz];simp
  have he:=hs.ev p hpm;have hE:d.E=pe.map Prod.fst++p.1::r.map Prod.fst:=by
   have:=congrArg (List.map Prod.fst) hz;rw[List.map_fst_zip (by rw[hs.le];exact Nat.le_refl _)] at this;rw[this];simp
  have e:xs++(p::r).flatMap (fun p=>dN p.1 p.2)=(xs++dN p.1 p.2)++r.flatMap (fun p=>dN p.1 p.2):=by simp
  rw[e] at hp ⊢;obtain⟨h1,h2⟩:=h.event ho hn he (hb.e _ (by rw[hE];simp)) ((I _ _).trans hp) (fun hk=>by rw[hh.E];exact hc _ _ _ hE hk);have h3:Has (aJ c (iZ d p.1 p.2)) (pe++[p]) [] [] []:=
   ⟨by rw[h2.E,hh.E,List.map_append];rfl,by rw[h2.SE,hh.SE,List.map_append];rfl,h2.D.trans hh.D,h2.SD.trans hh.SD,h2.M.trans hh.M,h2.SM.trans hh.SM,h2.Q.trans hh.Q⟩
  have h4:=Xm r (pe++[p]) h1 h3 (by rw[hz];simp) hp;rw[V pe [p] r,List.singleton_append] at h4;exact h4
omit hc in
theorem Xn (pe:H (EvC × H Sn)):∀(r pd:H (aK × H C)) {c:Cont} {xs:H (C × C)},lu d xs c→Has c pe pd [] []→d.D.zip d.SD=pd++r→xs++r.flatMap (fun p=>jQ p.1 p.2)<+:aS d→
  lu d (xs++r.flatMap (fun p=>jQ p.1 p.2)) (bA c (r.map (fun p=>qR d p.1 p.2)))∧Has (bA c (r.map (fun p=>qR d p.1 p.2))) pe (pd++r) [] []
 |[],pd,c,xs,h,hh,_,_=>by rw[List.flatMap_nil,O,O];exact⟨h,hh⟩
 |p::r,pd,c,xs,h,hh,hz,hp=>by
  have hpm:p∈d.D.zip d.SD:=by rw[hz];simp
  have e:xs++(p::r).flatMap (fun p=>jQ p.1 p.2)=(xs++jQ p.1 p.2)++r.flatMap (fun p=>jQ p.1 p.2):=by simp
  rw[e] at hp ⊢;obtain⟨h1,h2⟩:=h.order ho hn hh (hb.o _ (List.of_mem_zip hpm).1) ((I _ _).trans hp);have h4:=Xn pe r (pd++[p]) h1 h2 (by rw[hz];simp) hp;rw[V pd [p] r,List.singleton_append] at h4;exact h4
omit hc in
theorem Xo (pe:H (EvC × H Sn)) (pd:H (aK × H C)):∀(r pm:H (aM × H C)) {c:Cont} {xs:H (C × C)},lu d xs c→Has c pe pd pm []→d.M.zip d.SM=pm++r→xs++r.flatMap (fun p=>jf p.1 p.2)<+:aS d→
  lu d (xs++r.flatMap (fun p=>jf p.1 p.2)) (bA c (r.map (fun p=>qW d p.1 p.2)))∧Has (bA c (r.map (fun p=>qW d p.1 p.2))) pe pd (pm++r) []
 |[],pm,c,xs,h,hh,_,_=>by rw[List.flatMap_nil,O,O];exact⟨h,hh⟩
 |p::r,pm,c,xs,h,hh,hz,hp=>by
  have hpm:p∈d.M.zip d.SM:=by rw[hz];simp
  have e:xs++(p::r).flatMap (fun p=>jf p.1 p.2)=(xs++jf p.1 p.2)++r.flatMap (fun p=>jf p.1 p.2):=by simp
  rw[e] at hp ⊢;obtain⟨h1,h2⟩:=h.QT ho hn hh (hb.m _ (List.of_mem_zip hpm).1) ((I _ _).trans hp);have h4:=Xo pe pd r (pm++[p]) h1 h2 (by rw[hz];simp) hp;rw[V pm [p] r,List.singleton_append] at h4;exact h4
omit hs hb hc in
theorem Xp (pe:H (EvC × H Sn)) (pd:H (aK × H C)) (pm:H (aM × H C)):∀(r pq:H Wa) {c:Cont} {xs:H (C × C)},lu d xs c→Has c pe pd pm pq→xs++r.flatMap jY<+:aS d→
  lu d (xs++r.flatMap jY) (bA c (r.map (u6 d)))∧Has (bA c (r.map (u6 d))) pe pd pm (pq++r)
 |[],pq,c,xs,h,hh,_=>by rw[List.flatMap_nil,O,O];exact⟨h,hh⟩
 |p::r,pq,c,xs,h,hh,hp=>by
  have e:xs++(p::r).flatMap jY=(xs++jY p)++r.flatMap jY:=by simp
  rw[e] at hp ⊢;obtain⟨h1,h2⟩:=h.want ho hn hh ((I _ _).trans hp);have h4:=Xp pe pd pm r (pq++[p]) h1 h2 hp;rw[V pq [p] r,List.singleton_append] at h4;exact h4
structure kV (c d:Cont):Prop where
 n:∀i,i<4→c.nl i=d.nl i
 E:c.E=d.E
 SE:c.SE=d.SE
 D:c.D=d.D
 SD:c.SD=d.SD
 M:c.M=d.M
 SM:c.SM=d.SM
 Q:c.Q=d.Q
theorem Sm:kV (bA bK (qX d)) d:=by
 have hS:aS d=(((([]:H (C × C))++(d.E.zip d.SE).flatMap (fun p=>dN p.1 p.2))++(d.D.zip d.SD).flatMap (fun p=>jQ p.1 p.2))++(d.M.zip d.SM).flatMap (fun p=>jf p.1 p.2))++d.Q.flatMap jY:=rfl;have h0:lu d [] bK:=fun i=>by show []=_;exact(List.take_zero).symm
 have H0:Has bK [] [] [] []:=⟨rfl,rfl,rfl,rfl,rfl,rfl,rfl⟩;obtain⟨h1,H1⟩:=Xm ho hn hs hb hc (d.E.zip d.SE) [] h0 H0 rfl (by rw[hS];exact((I _ _).trans (I _ _)).trans (I _ _));obtain⟨h2,H2⟩:=Xn ho hn hs hb _ (d.D.zip d.SD) [] h1 H1 rfl (by rw[hS];exact(I _ _).trans (I _ _));obtain⟨h3,H3⟩:=Xo ho hn hs hb _ _ (d.M.zip d.SM) [] h2 H2 rfl (by rw[hS];exact I _ _);obtain⟨h4,H4⟩:=Xp ho hn _ _ _ d.Q [] h3 H3 (by rw[hS];exact List.prefix_refl _);rw[←hS] at h4;have eL:bA bK (qX d)=bA (bA (bA (bA bK ((d.E.zip d.SE).map (fun p=>iZ d p.1 p.2))) ((d.D.zip d.SD).map (fun p=>qR d p.1 p.2))) ((d.M.zip d.SM).map (fun p=>qW d p.1 p.2))) (d.Q.map (u6 d)):=by
  unfold qX;rw[wZ,wZ,wZ]
 rw[eL];refine⟨fun i hi=>?_,?_,?_,?_,?_,?_,?_,?_⟩
 ·rw[h4 i,ho i hi,mI,List.take_length]
 ·rw[H4.E,List.nil_append,List.map_fst_zip (by rw[hs.le];exact Nat.le_refl _)]
 ·rw[H4.SE,List.nil_append,List.map_snd_zip (by rw[hs.le];exact Nat.le_refl _)]
 ·rw[H4.D,List.nil_append,List.map_fst_zip (by rw[hs.ld];exact Nat.le_refl _)]
 ·rw[H4.SD,List.nil_append,List.map_snd_zip (by rw[hs.ld];exact Nat.le_refl _)]
 ·rw[H4.M,List.nil_append,List.map_fst_zip (by rw[hs.lm];exact Nat.le_refl _)]
 ·rw[H4.SM,List.nil_append,List.map_snd_zip (by rw[hs.lm];exact Nat.le_refl _)]
 ·rw[H4.Q,List.nil_append]
end
theorem jB.of {c z:Cont} (h:jB c) (e:z.E=c.E):jB z:=fun a x b hx hk=>h a x b (by rw[←e];exact hx) hk
theorem jB.dK {c:Cont} (h:jB c) (e:EvC) (l:H Sn) (he:e.kind=2→e.v.k=(fQ c.E e.t e.obj:C)+1):jB (c.ev e l):=by
 intro a x b hx hk;have hx':c.E++[e]=a++x::b:=hx;rcases List.eq_nil_or_concat b with rfl|⟨b',y,rfl⟩
 ·obtain⟨h1,h2⟩:=List.append_inj' hx' rfl
  injection h2 with h2;subst h1 h2;exact he hk
 ·have e2:a++x::(b'++[y])=(a++x::b')++[y]:=by simp
  rw[List.concat_eq_append,e2] at hx';exact h a x b' (List.append_inj' hx' rfl).1 hk
theorem jB.zero:jB bK:=fun a x b hx=>by
 have hx':([]:H EvC)=a++x::b:=hx;simp at hx'
theorem jB.add {c:Cont} (h:jB c) (l:aB):jB (aJ c l):=by
 unfold aJ;simp only[]
 split
 ·exact jB.dK (h.of rfl) _ [] (fun hk=>by cases hk)
 ·split
  ·exact jB.dK (h.of rfl) _ [] (fun _=>rfl)
  ·split
   ·exact jB.dK (h.of (((Nm.put _ _ _).trans (Nm.put _ _ _)).trans (Nm.bU _ _)).e) _ [] (fun hk=>by cases hk)
   ·split
    ·exact jB.dK (h.of (((Nm.put _ _ _).trans (Nm.put _ _ _)).trans (Nm.sc _ _)).e) _ (((c.put 0 (l.names.getD 0 [])).put 3 (l.names.getD 1 [])).sc ((l.names.drop 2).zip l.aF)).2 (fun hk=>by cases hk)
    ·split
     ·rename_i hk5
      exact jB.dK (h.of rfl) _ [] (fun hk=>by
       have hk':l.kind=2:=hk;omega)
     ·split
      ·exact h.of ((Nm.put _ _ _).trans (Nm.ts _ _)).e
      ·split
       ·exact h.of (((Nm.put _ _ _).trans (Nm.put _ _ _)).trans (Nm.ts _ _)).e
       ·split
        ·exact h.of rfl
        ·exact h
theorem jB.all:∀(ls:H aB) {c:Cont},jB c→jB (bA c ls)
 |[],_,h=>h
 |l::ls,_,h=>jB.all ls (h.add l)
theorem jc.of {c z:Cont} (h:jc c) (n:Nm c z):jc z:=⟨by rw[n.e];exact h.e,by rw[n.d];exact h.o,by rw[n.m];exact h.m⟩
theorem jc.dK {c:Cont} (h:jc c) (e:EvC) (l:H Sn) (he:e.base=e):jc (c.ev e l):=
 ⟨fun x hx=>by
  rcases List.mem_append.1 hx with hx|hx
  ·exact h.e x hx
  ·rw[List.mem_singleton.1 hx];exact he,h.o,h.m⟩
theorem jc.zero:jc bK:=⟨fun x hx=>(by cases hx),fun x hx=>(by cases hx),fun x hx=>(by cases hx)⟩
theorem jc.add {c:Cont} (h:jc c) (l:aB):jc (aJ c l):=by
 unfold aJ;simp only[]
 split
 ·exact jc.dK (h.of ((Nm.put _ _ _).trans (Nm.put _ _ _))) _ _ rfl
 ·split
  ·exact jc.dK (h.of ((Nm.put _ _ _).trans (Nm.put _ _ _))) _ _ rfl
  ·split
   ·exact jc.dK (h.of (((Nm.put _ _ _).trans (Nm.put _ _ _)).trans (Nm.bU _ _))) _ _ rfl
   ·split
    ·exact jc.dK (h.of (((Nm.put _ _ _).trans (Nm.put _ _ _)).trans (Nm.sc _ _))) _ _ rfl
    ·split
     ·exact jc.dK (h.of (Nm.put _ _ _)) _ _ rfl
     ·split
      ·have k:=h.of ((Nm.put c 2 (l.names.getD 0 [])).trans (Nm.ts (l.names.drop 1) _))
       refine⟨k.e,fun x hx=>?_,k.m⟩;rcases List.mem_append.1 hx with hx|hx
       ·exact h.o x hx
       ·rw[List.mem_singleton.1 hx];rfl
      ·split
       ·have k:=h.of (((Nm.put c 3 (l.names.getD 0 [])).trans (Nm.put _ 2 (l.names.getD 1 []))).trans (Nm.ts (l.names.drop 2) _))
        refine⟨k.e,k.o,fun x hx=>?_⟩;rcases List.mem_append.1 hx with hx|hx
        ·exact h.m x hx
        ·rw[List.mem_singleton.1 hx];rfl
       ·split
        ·exact⟨h.e,h.o,h.m⟩
        ·exact h
theorem jc.all:∀(ls:H aB) {c:Cont},jc c→jc (bA c ls)
 |[],_,h=>h
 |l::ls,_,h=>jc.all ls (h.add l)
theorem KY {c:Cont} {l:aB} (h:l.kind=0):aJ c l=c:=by
 unfold aJ;simp[h]
theorem fT.all:∀(ls:H aB) {c:Cont},fT c→(∀l∈ls,l.kind=0∨fC l)→aC (bA c ls)→fT (bA c ls)
 |[],_,h,_,_=>h
 |l::ls,c,h,hl,hf=>fT.all ls (c:=aJ c l) (by
  rcases hl l List.mem_cons_self with h0|h0
  ·rw[KY h0];exact h
  ·exact h.add h0 ((Gr.all ls _).fits hf)) (fun x hx=>hl x (List.mem_cons_of_mem _ hx)) hf
theorem jc.number (c:Cont):jc (bV c):=
 ⟨fun x hx=>(by obtain⟨y,_,rfl⟩:=List.mem_map.1 hx;rfl),fun x hx=>(by obtain⟨y,_,rfl⟩:=List.mem_map.1 hx;rfl),fun x hx=>(by obtain⟨y,_,rfl⟩:=List.mem_map.1 hx;rfl)⟩
theorem NU {l:H C} {a b:C} (ha:a∈l) (hb:b∈l) (h:dx l a=dx l b):a=b:=by
 unfold dx at h;rw[J ha,J hb] at h;have h1:=List.getElem_idxOf (List.idxOf_lt_length_of_mem ha);have h2:=List.getElem_idxOf (List.idxOf_lt_length_of_mem hb);have h3:=Int.ofNat_inj.1 h;rw[←h1,←h2];exact getElem_congr_idx h3
theorem Sq {c:Cont} (h:c.E.length=c.SE.length) {e:EvC} (he:e∈c.E):((0:C),e.t)∈aS c∧(e.kind=2→((2:C),e.obj)∈aS c):=by
 obtain⟨l,hl⟩:∃l,(e,l)∈c.E.zip c.SE:=by
  have:e∈(c.E.zip c.SE).map Prod.fst:=by rw[List.map_fst_zip (by rw[h];exact Nat.le_refl _)];exact he
  obtain⟨p,hp,rfl⟩:=List.mem_map.1 this;exact⟨p.2,hp⟩
 have hin:∀x∈dN e l,x∈aS c:=fun x hx=>by
  unfold aS;exact R _ (R _ (R _ (List.mem_flatMap.2 ⟨(e,l),hl,hx⟩)))
 refine⟨hin _ ?_,fun hk=>hin _ ?_⟩
 ·unfold dN;simp
 ·unfold dN;simp[hk]
theorem jB.number {c:Cont} (h:jB c) (hl:c.E.length=c.SE.length):jB (bV c):=by
 intro a x b hx hk;obtain⟨F,hF⟩:∃F,F=bN (aS c):=⟨_,rfl⟩;have hx':c.E.map (Yd.dK F)=a++x::b:=by rw[hF];exact hx
 obtain⟨a',r,e1,rfl,e2⟩:=List.map_eq_append_iff.1 hx';obtain⟨x',b',rfl,rfl,rfl⟩:=List.map_eq_cons_iff.1 e2;have hk':x'.kind=2:=hk;have h1:=h a' x' b' e1 hk';have hmem:∀e∈c.E,e.t∈F 0∧(e.kind=2→e.obj∈F 2):=fun e he=>by
  have:=Sq hl he;rw[hF];exact⟨Dh _ this.1,fun k=>Dh _ (this.2 k)⟩
 have hxm:=hmem x' (by rw[e1];simp);have e3:(Yd.dK F x').v.k=x'.v.k:=by
  unfold Yd.dK jZ;simp only[hk',true_or,if_true]
  split <;> rfl
 rw[e3,h1]
 congr 2
 unfold fQ;rw[List.countP_map];refine List.countP_congr (fun e he=>?_);have hem:=hmem e (by rw[e1];exact R _ he);have eo:∀y:EvC,y.kind=2→(Yd.dK F y).obj=dx (F 2) y.obj:=fun y hy=>by unfold Yd.dK;simp only[hy,true_or,if_true]
 simp only[Function.comp,A,beq_iff_eq]
 constructor
 ·rintro⟨h2,h3,h4⟩
  refine⟨h2,congrArg (dx (F 0)) h3,?_⟩;rw[eo _ h2,eo _ hk',h4]
 ·rintro⟨h2,h3,h4⟩
  have h2':e.kind=2:=h2;rw[eo _ h2',eo _ hk'] at h4;exact⟨h2',NU hem.1 hxm.1 h3,NU (hem.2 h2') (hxm.2 hk') h4⟩
theorem oH {F:H C} {l:H Bs} {n:C} (h:n∈F):aH (F.map (aH l)) (dx F n)=aH l n:=by
 have hi:=List.idxOf_lt_length_of_mem h;have e:dx F n=(F.idxOf n:C):=by unfold dx;rw[J h]
 rw[e,mK _ (by rw[List.length_map];exact hi),List.getElem_map,List.getElem_idxOf]
theorem NV {F:C→H C} {l:H Bs} {v:kT} {nt:Nat} (hv:gI v nt=Z) (h:∀x∈dh v,x.2∈F x.1):jm ((F 0).map (aH l)) (jZ F v)=jm l v:=by
 unfold jm jZ;by_cases hk:0<v.k
 ·have hm:v.t∈F 0:=h (0,v.t) (by unfold dh;rw[J hk];simp)
  have hk0:¬v.k=0:=by omega
  rw[J hk];simp only[L hk0];rw[oH hm]
 ·have hk0:v.k=0:=by
   unfold gI at hv;by_cases h0:v.k=0
   ·exact h0
   ·rw[L h0] at hv
    simp only[A,U] at hv;exact absurd hv.1.2 hk
  rw[L hk,J hk0,J hk0]
section
variable {c:Cont} {F:C→H C}
theorem Vt {e:EvC} {l:H Sn} {ns no np:Nat} (he:gT (c.nl 0).length ns no np e l=Z) (hF:∀x∈dN e l,x.2∈F x.1):iZ (rZ F c) (dK F e) (l.map (yY F))=iZ c e l:=by
 have hk:(dK F e).kind=e.kind:=rfl;have ht:aH ((rZ F c).nl 0) (dK F e).t=aH (c.nl 0) e.t:=oH (F:=F 0) (hF (0,e.t) (by unfold dN;simp));simp only[gT,A,U] at he;have hh:=he.1.2;unfold iZ;rw[hk,ht];by_cases h1:e.kind=1
 ·have e1:(dK F e).bR=dx (F 1) e.bR:=by unfold dK;simp only[J h1]
  have e2:aH ((rZ F c).nl 1) (dK F e).bR=aH (c.nl 1) e.bR:=by
   rw[e1];exact oH (F:=F 1) (hF (1,e.bR) (by unfold dN;simp[h1]))
  rw[J h1,J h1,e2];rfl
 ·rw[L h1,L h1]
  have oU:e.kind=2∨e.kind=3→aH ((rZ F c).nl 2) (dK F e).obj=aH (c.nl 2) e.obj:=fun hk=>by
   have e1:(dK F e).obj=dx (F 2) e.obj:=by unfold dK;simp only[J hk]
   rw[e1];exact oH (F:=F 2) (hF (2,e.obj) (by unfold dN;rw[L h1,J hk];simp))
  by_cases h2:e.kind=2
  ·rw[J h2,J h2,oU (.inl h2)]
  ·rw[L h2,L h2]
   by_cases h3:e.kind=3
   ·have e1:(dK F e).v=jZ F e.v:=by unfold dK;simp only[h3,or_true,if_true]
    have e2:jm ((rZ F c).nl 0) (dK F e).v=jm (c.nl 0) e.v:=by
     rw[e1];unfold hasB at hh;rw[L h1,L h2,J h3] at hh;simp only[A] at hh;refine NV (F:=F) hh.2 (fun x hx=>hF x ?_);unfold dN;rw[L h1,J (.inr h3)];simp[hx]
    rw[J h3,J h3,oU (.inr h3),e2]
   ·rw[L h3,L h3]
    by_cases h4:e.kind=4
    ·have e1:(dK F e).pred=dx (F 3) e.pred:=by unfold dK;simp only[J h4]
     have e2:aH ((rZ F c).nl 3) (dK F e).pred=aH (c.nl 3) e.pred:=by
      rw[e1];exact oH (F:=F 3) (hF (3,e.pred) (by unfold dN;simp[h4]))
     unfold hasB at hh;rw[L h1,L h2,L h3,J h4] at hh;simp only[A,List.all_eq_true] at hh;have hsn:∀q∈l,∀x∈(((2:C),q.obj)::dh q.v),x.2∈F x.1:=fun q hq x hx=>hF x (by
      unfold dN;exact List.mem_append_right _ (List.mem_flatMap.2 ⟨q,hq,hx⟩))
     have e3:(l.map (yY F)).map (fun q=>aH ((rZ F c).nl 2) q.obj)=l.map (fun q=>aH (c.nl 2) q.obj):=by
      rw[List.map_map];exact List.map_congr_left (fun q hq=>oH (F:=F 2) (hsn q hq (2,q.obj) List.mem_cons_self))
     have e4:(l.map (yY F)).map (fun q=>jm ((rZ F c).nl 0) q.v)=l.map (fun q=>jm (c.nl 0) q.v):=by
      rw[List.map_map];refine List.map_congr_left (fun q hq=>NV (F:=F) (nt:=(c.nl 0).length) ?_ (fun x hx=>hsn q hq x (List.mem_cons_of_mem _ hx)));have:=hh.2 q hq;simp only[jK,A] at this;exact this.2
     rw[J h4,J h4,e2,e3,e4]
    ·rw[L h4,L h4]
theorem KZ {l:H C} (h:∀t∈l,t∈F 0):(l.map (dx (F 0))).map (aH ((rZ F c).nl 0))=l.map (aH (c.nl 0)):=by
 rw[List.map_map];exact List.map_congr_left (fun t ht=>oH (F:=F 0) (h t ht))
end
theorem Vu {c:Cont} {F:C→H C} (h:fT c) (hF:∀x∈aS c,x.2∈F x.1):qX (rZ F c)=qX c:=by
 unfold aS at hF;have hE:∀p∈c.E.zip c.SE,∀x∈dN p.1 p.2,x.2∈F x.1:=fun p hp x hx=>hF x (R _ (R _ (R _ (List.mem_flatMap.2 ⟨p,hp,hx⟩))))
 have hD:∀p∈c.D.zip c.SD,∀x∈jQ p.1 p.2,x.2∈F x.1:=fun p hp x hx=>hF x (R _ (R _ (List.mem_append_right _ (List.mem_flatMap.2 ⟨p,hp,hx⟩))))
 have hM:∀p∈c.M.zip c.SM,∀x∈jf p.1 p.2,x.2∈F x.1:=fun p hp x hx=>hF x (R _ (List.mem_append_right _ (List.mem_flatMap.2 ⟨p,hp,hx⟩)))
 have hQ:∀p∈c.Q,p.bR∈F 1:=fun p hp=>hF (1,p.bR) (List.mem_append_right _ (List.mem_flatMap.2 ⟨p,hp,by unfold jY;simp⟩))
 unfold qX;refine congr (congrArg _ (congr (congrArg _ (congr (congrArg _ ?_) ?_)) ?_)) ?_
 ·show((c.E.map (dK F)).zip (c.SE.map (fun l=>l.map (yY F)))).map _=_
  rw[List.zip_map,List.map_map];exact List.map_congr_left (fun p hp=>Vt (h.ev p hp) (hE p hp))
 ·show((c.D.map (fun x=>(⟨dx (F 2) x.obj,none,0,0⟩:aK))).zip (c.SD.map (fun l=>l.map (dx (F 0))))).map _=_
  rw[List.zip_map,List.map_map];refine List.map_congr_left (fun p hp=>?_);show(⟨7,[aH ((rZ F c).nl 2) (dx (F 2) p.1.obj)]++(p.2.map (dx (F 0))).map (aH ((rZ F c).nl 0)),0,[],false,0⟩:aB)=qR c p.1 p.2;have e1:aH ((rZ F c).nl 2) (dx (F 2) p.1.obj)=aH (c.nl 2) p.1.obj:=oH (F:=F 2) (hD p hp (2,p.1.obj) (by unfold jQ;simp));rw[KZ (fun t ht=>hD p hp (0,t) (by unfold jQ;simp[ht])),e1];rfl
 ·show((c.M.map (fun x=>(⟨dx (F 3) x.pred,dx (F 2) x.obj,x.first,none,0,0⟩:aM))).zip (c.SM.map (fun l=>l.map (dx (F 0))))).map _=_
  rw[List.zip_map,List.map_map];refine List.map_congr_left (fun p hp=>?_);show(⟨8,[aH ((rZ F c).nl 3) (dx (F 3) p.1.pred),aH ((rZ F c).nl 2) (dx (F 2) p.1.obj)]++(p.2.map (dx (F 0))).map (aH ((rZ F c).nl 0)),0,[],p.1.first,0⟩:aB)=qW c p.1 p.2;have e1:aH ((rZ F c).nl 2) (dx (F 2) p.1.obj)=aH (c.nl 2) p.1.obj:=oH (F:=F 2) (hM p hp (2,p.1.obj) (by unfold jf;simp));have e2:aH ((rZ F c).nl 3) (dx (F 3) p.1.pred)=aH (c.nl 3) p.1.pred:=oH (F:=F 3) (hM p hp (3,p.1.pred) (by unfold jf;simp));rw[KZ (fun t ht=>hM p hp (0,t) (by unfold jf;simp[ht])),e1,e2];rfl
 ·show(c.Q.map (fun x=>(⟨dx (F 1) x.bR,x.bits⟩:Wa))).map _=_
  rw[List.map_map];refine List.map_congr_left (fun p hp=>?_);show(⟨9,[aH ((rZ F c).nl 1) (dx (F 1) p.bR)],0,[],false,p.bits⟩:aB)=u6 c p;have e1:aH ((rZ F c).nl 1) (dx (F 1) p.bR)=aH (c.nl 1) p.bR:=oH (F:=F 1) (hQ p hp);rw[e1];rfl
theorem K3 {c:Cont} (h:fT c):qX (bV c)=qX c:=Vu h (fun x hx=>Dh _ (by obtain⟨a,b⟩:=x;exact hx))
theorem Mt {c:Cont} (hs:fT c) (hc:jB c):kV (bA bK (qX c)) (bV c):=by
 have hn:=hs.number;rw[←K3 hs];exact Sm (fun i _=>Ig _ i) (fun i=>(hn.nm i).1) hn (jc.number _) (hc.number hs.le)
theorem jC {l z:H Bs} (h:l<+:z) {n:C} (hn:aV n l.length=Z):aH z n=aH l n:=by
 simp only[aV,A,U] at hn;obtain⟨k,rfl⟩:∃k:Nat,n=(k:C):=⟨n.toNat,by omega⟩;obtain⟨t,rfl⟩:=h;have hk:k<l.length:=by omega
 rw[mK _ (by rw[List.length_append];omega),mK _ hk,List.getElem_append_left hk]
theorem K4 {l z:H Bs} (h:l<+:z) {v:kT} (hv:gI v l.length=Z):jm z v=jm l v:=by
 unfold jm;by_cases hk:v.k=0
 ·rw[J hk,J hk]
 ·unfold gI at hv
  rw[L hk] at hv ⊢;simp only[A] at hv;rw[L hk,jC h hv.1.1]
theorem Sr {c z:Cont} (g:Gr c z) {e:EvC} {l:H Sn} (he:gT (c.nl 0).length (c.nl 1).length (c.nl 2).length (c.nl 3).length e l=Z):iZ z e l=iZ c e l:=by
 simp only[gT,A,U] at he;obtain⟨⟨_,ht⟩,hh⟩:=he.1;unfold hasB at hh;unfold iZ;rw[jC (g.n 0) ht];by_cases h1:e.kind=1
 ·rw[J h1] at hh
  simp only[A] at hh;rw[J h1,J h1,jC (g.n 1) hh.1]
 ·rw[L h1] at hh ⊢
  rw[L h1];by_cases h2:e.kind=2
  ·rw[J h2] at hh ⊢
   simp only[A] at hh;rw[J h2,jC (g.n 2) hh.1.1.1]
  ·rw[L h2] at hh ⊢
   rw[L h2];by_cases h3:e.kind=3
   ·rw[J h3] at hh ⊢
    simp only[A] at hh;rw[J h3,jC (g.n 2) hh.1,K4 (g.n 0) hh.2]
   ·rw[L h3] at hh ⊢
    rw[L h3];by_cases h4:e.kind=4
    ·rw[J h4] at hh ⊢
     simp only[A,List.all_eq_true] at hh;have hs:∀s∈l,aV s.obj (c.nl 2).length=Z∧gI s.v (c.nl 0).length=Z:=fun s hs=>by
      have:=hh.2 s hs
      simpa only[jK,A] using this
     rw[J h4,jC (g.n 3) hh.1.1,List.map_congr_left (fun s h=>jC (g.n 2) (hs s h).1),List.map_congr_left (fun s h=>K4 (g.n 0) (hs s h).2)]
    ·rw[L h4,L h4]
theorem Ih {c z:Cont} (g:Gr c z) {l:H C} (h:fH (c.nl 0).length l=Z):l.map (aH (z.nl 0))=l.map (aH (c.nl 0)):=by
 simp only[fH,A,List.all_eq_true] at h;exact List.map_congr_left (fun t ht=>jC (g.n 0) (h.2 t ht))
def Xq (c:Cont):H aB:=(c.E.zip c.SE).map (fun p=>iZ c p.1 p.2)
def Xr (c:Cont):H aB:=(c.D.zip c.SD).map (fun p=>qR c p.1 p.2)
def Xt (c:Cont):H aB:=(c.M.zip c.SM).map (fun p=>qW c p.1 p.2)
def Xu (c:Cont):H aB:=c.Q.map (u6 c)
section
variable {c z:Cont} (h:fT c) (g:Gr c z)
include h g
theorem Dj:(c.E.zip c.SE).map (fun p=>iZ z p.1 p.2)=Xq c:=List.map_congr_left (fun p hp=>Sr g (h.ev p hp))
theorem Dk:(c.D.zip c.SD).map (fun p=>qR z p.1 p.2)=Xr c:=List.map_congr_left (fun p hp=>by
 unfold qR;rw[jC (g.n 2) (h.od p hp).1,Ih g (h.od p hp).2])
theorem Dl:(c.M.zip c.SM).map (fun p=>qW z p.1 p.2)=Xt c:=List.map_congr_left (fun p hp=>by
 unfold qW;rw[jC (g.n 3) (h.ma p hp).1,jC (g.n 2) (h.ma p hp).2.1,Ih g (h.ma p hp).2.2])
theorem Dm:c.Q.map (u6 z)=Xu c:=List.map_congr_left (fun p hp=>by
 unfold u6;rw[jC (g.n 1) (h.wa p hp).1])
end
theorem fU {c z:Cont} {i:Nat} {s:Bs} (g:Gr (c.put i s) z):aH (z.nl i) (c.no i s)=s:=by
 have e:(c.put i s).nl i=bY (c.nl i) s:=if_pos rfl;rw[jC (g.n i) (fM c i s),e];have hi:=List.idxOf_lt_length_of_mem (Bb (c.nl i) s);show aH _ ((p9 (c.nl i) s:Nat):C)=s;have e2:p9 (c.nl i) s=(bY (c.nl i) s).idxOf s:=rfl;rw[e2,mK _ hi,List.getElem_idxOf]
theorem K5 {c z:Cont} {v:To} (hv:nM v) (g:Gr (c.bU v).1 z):jm (z.nl 0) (c.bU v).2=v:=by
 rcases hv with rfl|⟨_,h0,_⟩
 ·rfl
 ·have hk:¬v.k=0:=by omega
  have e1:c.bU v=(c.put 0 v.name,⟨c.no 0 v.name,v.k⟩):=by unfold Cont.bU;rw[L hk]
  rw[e1] at g ⊢;unfold jm;simp only[L hk];rw[fU g]
theorem EB:∀(l:H Bs) {c z:Cont},Gr (c.ts l).1 z→(c.ts l).2.map (aH (z.nl 0))=l
 |[],_,_,_=>rfl
 |s::r,c,z,g=>by
  show aH (z.nl 0) (c.no 0 s)::((c.put 0 s).ts r).2.map (aH (z.nl 0))=s::r;rw[EB r g,fU ((Gr.ts r _).trans g)]
theorem K6:∀(l:H (Bs × To)) {c z:Cont},(∀p∈l,nM p.2)→Gr (c.sc l).1 z→(c.sc l).2.map (fun q=>aH (z.nl 2) q.obj)=l.map Prod.fst∧(c.sc l).2.map (fun q=>jm (z.nl 0) q.v)=l.map Prod.snd
 |[],_,_,_,_=>⟨rfl,rfl⟩
 |p::r,c,z,hp,g=>by
  obtain⟨h1,h2⟩:=K6 r (fun q hq=>hp q (List.mem_cons_of_mem _ hq)) g;have g1:=(Gr.sc r ((c.put 2 p.1).bU p.2).1).trans g
  constructor
  ·show aH (z.nl 2) (c.no 2 p.1)::_=p.1::_
   rw[h1,fU ((Gr.bU _ p.2).trans g1)]
  ·show jm (z.nl 0) ((c.put 2 p.1).bU p.2).2::_=p.2::_
   rw[h2,K5 (hp p List.mem_cons_self) g1]
structure j6 (c z:Cont) (e d m q:H aB):Prop where
 e:Xq z=Xq c++e
 d:Xr z=Xr c++d
 m:Xt z=Xt c++m
 q:Xu z=Xu c++q
theorem j6.dK {c y:Cont} (h:fT c) (g:Gr c y) (n:Nm c y) (e:EvC) (l:H Sn) (x:aB) (hx:iZ (y.ev e l) e l=x):j6 c (y.ev e l) [x] [] [] []:=by
 have g2:=g.trans (Gr.ev y e l);refine⟨?_,?_,?_,?_⟩
 ·show((y.E++[e]).zip (y.SE++[l])).map _=_
  rw[n.e,n.se,vX h.le,List.map_append,Dj h g2,List.map_singleton,hx]
 ·show(y.D.zip y.SD).map _=_
  rw[n.d,n.sd,O];exact Dk h g2
 ·show(y.M.zip y.SM).map _=_
  rw[n.m,n.sm,O];exact Dl h g2
 ·show y.Q.map _=_
  rw[n.q,O];exact Dm h g2
def bF (a b:C) (l:aB):H aB:=if a≤l.kind∧l.kind≤b then [l] else []
theorem jo {a b:C} {l:aB} (h:a≤l.kind∧l.kind≤b):bF a b l=[l]:=if_pos h
theorem bg {a b:C} {l:aB} (h:¬(a≤l.kind∧l.kind≤b)):bF a b l=[]:=if_neg h
theorem j6.add {c:Cont} (h:fT c) {l:aB} (hl:fC l):j6 c (aJ c l) (bF 1 6 l) (bF 7 7 l) (bF 8 8 l) (bF 9 9 l):=by
 obtain⟨kd,ns,lv,vs,fi,bt⟩:=l;obtain⟨hw,hv,hc⟩:=hl;simp only at hw hv hc;rcases hc with⟨rfl,h1,rfl,⟨lw,rfl,h3,h4⟩,rfl,rfl⟩|⟨rfl,h1,rfl,rfl,rfl,rfl⟩|⟨rfl,h1,h2,rfl,rfl,rfl⟩|⟨rfl,⟨cc,h1,h2,h2'⟩,_,rfl,rfl,rfl⟩|⟨rfl,h1,rfl,rfl,rfl,rfl⟩|⟨rfl,h1,rfl,rfl,rfl,rfl⟩|⟨rfl,⟨cc,h1,h2'⟩,rfl,rfl,rfl,rfl⟩|⟨rfl,⟨cc,h1,h2'⟩,rfl,rfl,_,rfl⟩|⟨rfl,h1,rfl,rfl,rfl,⟨bb,rfl,h5⟩⟩
 ·obtain⟨a,b,rfl⟩:=Aj h1
  have g:=Gr.put (c.put 0 a) 1 b;refine j6.dK h ((Gr.put c 0 a).trans g) ((Nm.put c 0 a).trans (Nm.put _ 1 b)) _ _ _ ?_;show(⟨1,[aH (((c.put 0 a).put 1 b).nl 0) (c.no 0 a),aH (((c.put 0 a).put 1 b).nl 1) ((c.put 0 a).no 1 b)],_,[],false,0⟩:aB)=_;rw[fU g,fU (Gr.refl _)]
 ·obtain⟨a,b,rfl⟩:=Aj h1
  have g:=Gr.put (c.put 0 a) 2 b;refine j6.dK h ((Gr.put c 0 a).trans g) ((Nm.put c 0 a).trans (Nm.put _ 2 b)) _ _ _ ?_;show(⟨2,[aH (((c.put 0 a).put 2 b).nl 0) (c.no 0 a),aH (((c.put 0 a).put 2 b).nl 2) ((c.put 0 a).no 2 b)],_,[],false,0⟩:aB)=_;rw[fU g,fU (Gr.refl _)]
 ·obtain⟨a,b,rfl⟩:=Aj h1
  obtain⟨v,rfl⟩:=wM h2;have hvv:=hv v ak;have g1:=Gr.bU ((c.put 0 a).put 2 b) v;have g:=(Gr.put (c.put 0 a) 2 b).trans g1;refine j6.dK h ((Gr.put c 0 a).trans g) (((Nm.put c 0 a).trans (Nm.put _ 2 b)).trans (Nm.bU _ v)) _ _ _ ?_;show(⟨3,[aH ((((c.put 0 a).put 2 b).bU v).1.nl 0) (c.no 0 a),aH ((((c.put 0 a).put 2 b).bU v).1.nl 2) ((c.put 0 a).no 2 b)],_,[jm ((((c.put 0 a).put 2 b).bU v).1.nl 0) (((c.put 0 a).put 2 b).bU v).2],false,0⟩:aB)=_;rw[fU g,fU g1,K5 hvv (Gr.refl _)]
 ·match ns,h1 with
  |a::b::ns,h1=>
  have hz:∀p∈ns.zip vs,nM p.2:=fun p hp=>hv _ (List.of_mem_zip hp).2
  have hlen:ns.length=vs.length:=by simp only[List.length_cons] at h1;omega
  have g1:=Gr.sc (ns.zip vs) ((c.put 0 a).put 3 b);have g:=(Gr.put (c.put 0 a) 3 b).trans g1;refine j6.dK h ((Gr.put c 0 a).trans g) (((Nm.put c 0 a).trans (Nm.put _ 3 b)).trans (Nm.sc (ns.zip vs) _)) _ _ _ ?_;obtain⟨h6,h7⟩:=K6 (ns.zip vs) hz (Gr.refl (((c.put 0 a).put 3 b).sc (ns.zip vs)).1);show(⟨4,[aH ((((c.put 0 a).put 3 b).sc (ns.zip vs)).1.nl 0) (c.no 0 a),aH ((((c.put 0 a).put 3 b).sc (ns.zip vs)).1.nl 3) ((c.put 0 a).no 3 b)]++(((c.put 0 a).put 3 b).sc (ns.zip vs)).2.map (fun q=>aH ((((c.put 0 a).put 3 b).sc (ns.zip vs)).1.nl 2) q.obj),_,(((c.put 0 a).put 3 b).sc (ns.zip vs)).2.map (fun q=>jm ((((c.put 0 a).put 3 b).sc (ns.zip vs)).1.nl 0) q.v),false,0⟩:aB)=_;rw[h6,h7,fU g,fU g1,List.map_fst_zip ah,List.map_snd_zip ah]
  rfl
 ·obtain⟨a,rfl⟩:=wM h1
  refine j6.dK h (Gr.put c 0 a) (Nm.put c 0 a) _ _ _ ?_;show(⟨5,[aH ((c.put 0 a).nl 0) (c.no 0 a)],_,[],false,0⟩:aB)=_;rw[fU (Gr.refl _)]
 ·obtain⟨a,rfl⟩:=wM h1
  refine j6.dK h (Gr.put c 0 a) (Nm.put c 0 a) _ _ _ ?_;show(⟨6,[aH ((c.put 0 a).nl 0) (c.no 0 a)],_,[],false,0⟩:aB)=_;rw[fU (Gr.refl _)]
 ·match ns,h1 with
  |a::ns,h1=>
  have g1:=Gr.ts ns (c.put 2 a);have g:=(Gr.put c 2 a).trans g1;have n:=(Nm.put c 2 a).trans (Nm.ts ns (c.put 2 a));rw[bg ak,jo ak,bg ak,bg ak];obtain⟨y,hy⟩:∃y,y=((c.put 2 a).ts ns).1:=⟨_,rfl⟩;obtain⟨r,hr⟩:∃r,r=((c.put 2 a).ts ns).2:=⟨_,rfl⟩;have e0:aJ c ⟨7,a::ns,0,[],false,0⟩={y with D:=c.D++[⟨c.no 2 a,none,0,0⟩],SD:=c.SD++[r]}:=by rw[hy,hr];rfl
  have h6:r.map (aH (y.nl 0))=ns:=by rw[hy,hr];exact EB ns (Gr.refl _)
  have h7:aH (y.nl 2) (c.no 2 a)=a:=by rw[hy];exact fU g1
  rw[←hy] at g n;have g2:Gr c {y with D:=c.D++[⟨c.no 2 a,none,0,0⟩],SD:=c.SD++[r]}:=⟨g.n,g.e,I _ _,g.m,g.q⟩;rw[e0];refine⟨?_,?_,?_,?_⟩
  ·exact(congrArg (List.map _) (congr (congrArg List.zip n.e) n.se)).trans ((Dj h g2).trans (O _).symm)
  ·show((c.D++[_]).zip (c.SD++[r])).map _=_
   rw[vX h.ld,List.map_append,Dk h g2,List.map_singleton];show _++[(⟨7,[aH (y.nl 2) (c.no 2 a)]++r.map (aH (y.nl 0)),0,[],false,0⟩:aB)]=_;rw[h6,h7];rfl
  ·exact(congrArg (List.map _) (congr (congrArg List.zip n.m) n.sm)).trans ((Dl h g2).trans (O _).symm)
  ·exact(congrArg (List.map _) n.q).trans ((Dm h g2).trans (O _).symm)
 ·match ns,h1 with
  |a::b::ns,h1=>
  have g1:=Gr.ts ns ((c.put 3 a).put 2 b);have g3:=(Gr.put (c.put 3 a) 2 b).trans g1;have g:=(Gr.put c 3 a).trans g3;have n:=((Nm.put c 3 a).trans (Nm.put (c.put 3 a) 2 b)).trans (Nm.ts ns _);rw[bg ak,bg ak,jo ak,bg ak];obtain⟨y,hy⟩:∃y,y=(((c.put 3 a).put 2 b).ts ns).1:=⟨_,rfl⟩;obtain⟨r,hr⟩:∃r,r=(((c.put 3 a).put 2 b).ts ns).2:=⟨_,rfl⟩;have e0:aJ c ⟨8,a::b::ns,0,[],fi,0⟩={y with M:=c.M++[⟨c.no 3 a,(c.put 3 a).no 2 b,fi,none,0,0⟩],SM:=c.SM++[r]}:=by rw[hy,hr];rfl
  have h6:r.map (aH (y.nl 0))=ns:=by rw[hy,hr];exact EB ns (Gr.refl _)
  have h7:aH (y.nl 3) (c.no 3 a)=a:=by rw[hy];exact fU g3
  have h8:aH (y.nl 2) ((c.put 3 a).no 2 b)=b:=by rw[hy];exact fU g1
  rw[←hy] at g n;have g2:Gr c {y with M:=c.M++[⟨c.no 3 a,(c.put 3 a).no 2 b,fi,none,0,0⟩],SM:=c.SM++[r]}:=⟨g.n,g.e,g.d,I _ _,g.q⟩;rw[e0];refine⟨?_,?_,?_,?_⟩
  ·exact(congrArg (List.map _) (congr (congrArg List.zip n.e) n.se)).trans ((Dj h g2).trans (O _).symm)
  ·exact(congrArg (List.map _) (congr (congrArg List.zip n.d) n.sd)).trans ((Dk h g2).trans (O _).symm)
  ·show((c.M++[_]).zip (c.SM++[r])).map _=_
   rw[vX h.lm,List.map_append,Dl h g2,List.map_singleton];show _++[(⟨8,[aH (y.nl 3) (c.no 3 a),aH (y.nl 2) ((c.put 3 a).no 2 b)]++r.map (aH (y.nl 0)),0,[],fi,0⟩:aB)]=_;rw[h6,h7,h8];rfl
  ·exact(congrArg (List.map _) n.q).trans ((Dm h g2).trans (O _).symm)
 ·obtain⟨a,rfl⟩:=wM h1
  rw[bg ak,bg ak,bg ak,jo ak];have e0:aJ c ⟨9,[a],0,[],false,(bb:C)⟩={c.put 1 a with Q:=c.Q++[⟨c.no 1 a,(bb:C)⟩]}:=rfl;have g:=Gr.put c 1 a;have g2:Gr c {c.put 1 a with Q:=c.Q++[⟨c.no 1 a,(bb:C)⟩]}:=⟨g.n,g.e,g.d,g.m,I _ _⟩;rw[e0];refine⟨?_,?_,?_,?_⟩
  ·exact(Dj (c:=c) h g2).trans (O _).symm
  ·exact(Dk (c:=c) h g2).trans (O _).symm
  ·exact(Dl (c:=c) h g2).trans (O _).symm
  ·show(c.Q++[_]).map _=_
   rw[List.map_append,Dm h g2,List.map_singleton];show _++[(⟨9,[aH ((c.put 1 a).nl 1) (c.no 1 a)],0,[],false,(bb:C)⟩:aB)]=_;rw[fU (Gr.refl _)]
theorem j6.trans {c y z:Cont} {e d m q e' d' m' q':H aB} (h:j6 c y e d m q) (k:j6 y z e' d' m' q'):j6 c z (e++e') (d++d') (m++m') (q++q'):=
 ⟨by rw[k.e,h.e,V],by rw[k.d,h.d,V],by rw[k.m,h.m,V],by rw[k.q,h.q,V]⟩
theorem j6.refl (c:Cont):j6 c c [] [] [] []:=⟨by rw[O],by rw[O],by rw[O],by rw[O]⟩
def FK (ls:H aB):H aB:=ls.flatMap (bF 1 6)++ls.flatMap (bF 7 7)++ls.flatMap (bF 8 8)++ls.flatMap (bF 9 9)
theorem j6.all:∀(ls:H aB) {c:Cont},fT c→(∀l∈ls,l.kind=0∨fC l)→aC (bA c ls)→j6 c (bA c ls) (ls.flatMap (bF 1 6)) (ls.flatMap (bF 7 7)) (ls.flatMap (bF 8 8)) (ls.flatMap (bF 9 9))
 |[],c,_,_,_=>j6.refl c
 |l::ls,c,h,hl,hf=>by
  have h2:=fun x hx=>hl x (List.mem_cons_of_mem l hx)
  rw[List.flatMap_cons,List.flatMap_cons,List.flatMap_cons,List.flatMap_cons];rcases hl l List.mem_cons_self with h0|h0
  ·have e:bA c (l::ls)=bA c ls:=by show bA (aJ c l) ls=_;rw[KY h0]
   rw[e] at hf ⊢;rw[bg ah,bg ah,bg ah,bg ah];exact j6.all ls h h2 hf
  ·have hs:=h.add h0 ((Gr.all ls _).fits hf)
   exact(j6.add h h0).trans (j6.all ls hs h2 hf)
theorem Sv {ls:H aB} (hl:∀l∈ls,l.kind=0∨fC l) (hf:aC (bA bK ls)):qX (bA bK ls)=FK ls:=by
 have h:=j6.all ls fT.zero hl hf;have e:qX (bA bK ls)=Xq (bA bK ls)++Xr (bA bK ls)++Xt (bA bK ls)++Xu (bA bK ls):=rfl;rw[e,h.e,h.d,h.m,h.q]
 rfl
theorem DV {ls:H aB} (hl:∀l∈ls,l.kind=0∨fC l) (hf:aC (bA bK ls)):kV (bA bK (FK ls)) (bV (bA bK ls)):=by
 rw[←Sv hl hf];exact Mt (fT.zero.all ls hl hf) (jB.zero.all ls)
def Adds (f:Cont→Cont) (S:Nat→Bs→Prop):Prop:=∀c,(∀i x,x∈(f c).nl i↔x∈c.nl i∨S i x)∧((∀i,(c.nl i).Nodup)→∀i,((f c).nl i).Nodup)
theorem Adds.put (j:Nat) (s:Bs):Adds (fun c=>c.put j s) (fun i x=>i=j∧x=s):=fun c=>by
 constructor
 ·intro i x
  show x∈(if i=j then bY (c.nl j) s else c.nl i)↔_
  split
  ·rename_i h
   subst h
   constructor
   ·intro h
    unfold bY at h
    split at h
    ·exact .inl h
    ·rcases List.mem_append.1 h with h|h
     ·exact .inl h
     ·exact .inr ⟨rfl,List.mem_singleton.1 h⟩
   ·rintro(h|⟨_,rfl⟩)
    ·exact(Ey _ _).subset h
    ·exact Bb _ _
  ·rename_i h
   simp[h]
 ·intro hn i
  show(if i=j then bY (c.nl j) s else c.nl i).Nodup
  split
  ·exact AY (hn j)
  ·exact hn i
theorem Adds.id:Adds (fun c=>c) (fun _ _=>False):=fun c=>⟨fun i x=>by simp,fun h=>h⟩
theorem Adds.comp {f g:Cont→Cont} {S T:Nat→Bs→Prop} (h:Adds f S) (k:Adds g T):Adds (fun c=>g (f c)) (fun i x=>S i x∨T i x):=fun c=>
 ⟨fun i x=>by rw[((k (f c)).1 i x),((h c).1 i x),or_assoc],fun hn=>(k (f c)).2 ((h c).2 hn)⟩
theorem Adds.eq {f g:Cont→Cont} {S:Nat→Bs→Prop} (h:Adds f S) (e:∀c i,(g c).nl i=(f c).nl i):Adds g S:=fun c=>
 ⟨fun i x=>by rw[e];exact(h c).1 i x,fun hn i=>by rw[e];exact(h c).2 hn i⟩
theorem Adds.bU (v:To):∃S,Adds (fun c=>(c.bU v).1) S:=by
 by_cases hk:v.k=0
 ·exact⟨_,Adds.id.eq (fun c i=>by unfold Cont.bU;rw[J hk])⟩
 ·exact⟨_,(Adds.put 0 v.name).eq (fun c i=>by unfold Cont.bU;rw[L hk])⟩
theorem Adds.ts:∀l:H Bs,∃S,Adds (fun c=>(c.ts l).1) S
 |[]=>⟨_,Adds.id⟩
 |s::r=>by
  obtain⟨S,h⟩:=Adds.ts r;exact⟨_,(Adds.put 0 s).comp h⟩
theorem Adds.sc:∀l:H (Bs × To),∃S,Adds (fun c=>(c.sc l).1) S
 |[]=>⟨_,Adds.id⟩
 |p::r=>by
  obtain⟨S,h⟩:=Adds.sc r;obtain⟨T,k⟩:=Adds.bU p.2;exact⟨_,((Adds.put 2 p.1).comp k).comp h⟩
theorem Adds.add (l:aB):∃S,Adds (fun c=>aJ c l) S:=by
 obtain⟨S1,k1⟩:=Adds.bU (l.aF.getD 0 ⟨[],0⟩);obtain⟨S2,k2⟩:=Adds.sc ((l.names.drop 2).zip l.aF);obtain⟨S3,k3⟩:=Adds.ts (l.names.drop 1);obtain⟨S4,k4⟩:=Adds.ts (l.names.drop 2);unfold aJ;simp only[]
 split
 ·exact⟨_,((Adds.put 0 _).comp (Adds.put 1 _)).eq (fun c i=>rfl)⟩
 ·split
  ·exact⟨_,((Adds.put 0 _).comp (Adds.put 2 _)).eq (fun c i=>rfl)⟩
  ·split
   ·exact⟨_,(((Adds.put 0 _).comp (Adds.put 2 _)).comp k1).eq (fun c i=>rfl)⟩
   ·split
    ·exact⟨_,(((Adds.put 0 _).comp (Adds.put 3 _)).comp k2).eq (fun c i=>rfl)⟩
    ·split
     ·exact⟨_,(Adds.put 0 _).eq (fun c i=>rfl)⟩
     ·split
      ·exact⟨_,((Adds.put 2 _).comp k3).eq (fun c i=>rfl)⟩
      ·split
       ·exact⟨_,(((Adds.put 3 _).comp (Adds.put 2 _)).comp k4).eq (fun c i=>rfl)⟩
       ·split
        ·exact⟨_,(Adds.put 1 _).eq (fun c i=>rfl)⟩
        ·exact⟨_,Adds.id⟩
def Says (l:aB) (i:Nat) (x:Bs):Prop:=x∈(aJ bK l).nl i
theorem Y7 (c:Cont) (l:aB) (i:Nat) (x:Bs):x∈(aJ c l).nl i↔x∈c.nl i∨Says l i x:=by
 obtain⟨S,h⟩:=Adds.add l;have h0:=(h bK).1 i x;have h1:=(h c).1 i x;unfold Says;rw[h1,h0];have:x∉bK.nl i:=fun h=>by cases h
 simp[this]
theorem Gy:∀(ls:H aB) (c:Cont) (i:Nat) (x:Bs),x∈(bA c ls).nl i↔x∈c.nl i∨∃l∈ls,Says l i x
 |[],c,i,x=>by
  show x∈c.nl i↔_;simp
 |l::ls,c,i,x=>by
  have h:=Gy ls (aJ c l) i x;have e:bA c (l::ls)=bA (aJ c l) ls:=rfl;rw[e,h,Y7,or_assoc];simp
theorem wO:∀(ls:H aB) (c:Cont),(∀i,(c.nl i).Nodup)→∀i,((bA c ls).nl i).Nodup
 |[],_,h=>h
 |l::ls,c,h=>by
  obtain⟨S,k⟩:=Adds.add l;exact wO ls (aJ c l) ((k c).2 h)
theorem Says.zero {l:aB} (h:l.kind=0) (i:Nat) (x:Bs):¬Says l i x:=fun k=>by
 unfold Says at k;rw[KY h] at k
 cases k
theorem Y8 {a b:H aB} (h:∀l,l.kind≠0→(l∈a↔l∈b)) (i:Nat):((bA bK a).nl i).length=((bA bK b).nl i).length:=by
 have ha:=wO a bK (fun _=>List.nodup_nil) i;have hb:=wO b bK (fun _=>List.nodup_nil) i;refine((List.perm_ext_iff_of_nodup ha hb).2 (fun x=>?_)).length_eq;rw[Gy,Gy];have e:∀{a b:H aB},(∀l,l.kind≠0→(l∈a↔l∈b))→(∃l∈a,Says l i x)→∃l∈b,Says l i x:=fun h ⟨l,hl,hs⟩=>⟨l,(h l (fun h0=>Says.zero h0 i x hs)).1 hl,hs⟩
 exact or_congr Iff.rfl ⟨e h,e (fun l hl=>(h l hl).symm)⟩
def wP (c:Cont):Prop:=∀e∈c.E,aV e.t (c.nl 0).length=Z∧(e.kind=2→aV e.obj (c.nl 2).length=Z)
def qj (c:Cont) (e:EvC):C × Bs × Bs:=(e.kind,aH (c.nl 0) e.t,if e.kind=2 then aH (c.nl 2) e.obj else [])
def EC (l:aB):C × Bs × Bs:=(l.kind,l.names.getD 0 [],if l.kind=2 then l.names.getD 1 [] else [])
def keys (c:Cont):H (C × Bs × Bs):=c.E.map (qj c)
theorem Y9 {c z:Cont} (g:Gr c z) {e:EvC} (h:aV e.t (c.nl 0).length=Z∧(e.kind=2→aV e.obj (c.nl 2).length=Z)):qj z e=qj c e:=by
 unfold qj;rw[jC (g.n 0) h.1];by_cases hk:e.kind=2
 ·rw[J hk,J hk,jC (g.n 2) (h.2 hk)]
 ·rw[L hk,L hk]
theorem wP.grow {c z:Cont} (h:wP c) (g:Gr c z) (n:z.E=c.E):wP z∧keys z=keys c:=by
 constructor
 ·intro e he
  rw[n] at he;exact⟨bW (h e he).1 (g.len 0),fun hk=>bW ((h e he).2 hk) (g.len 2)⟩
 ·unfold keys
  rw[n];exact List.map_congr_left (fun e he=>Y9 g (h e he))
theorem wP.dK {c y:Cont} (h:wP c) (g:Gr c y) (n:Nm c y) (e:EvC) (s:H Sn) (ht:aV e.t (y.nl 0).length=Z) (ho:e.kind=2→aV e.obj (y.nl 2).length=Z) {k:C × Bs × Bs} (hk:qj y e=k):
  wP (y.ev e s)∧keys (y.ev e s)=keys c++[k]:=by
 obtain⟨h1,h2⟩:=h.grow g n.e
 constructor
 ·intro x hx
  rcases List.mem_append.1 hx with hx|hx
  ·exact h1 x hx
  ·rw[List.mem_singleton.1 hx];exact⟨ht,ho⟩
 ·show(y.E++[e]).map (qj y)=_
  rw[List.map_append,List.map_singleton,hk];exact congrArg (·++[k]) h2
theorem wP.zero:wP bK:=fun e he=>by cases he
theorem wP.add {c:Cont} (h:wP c) (l:aB):wP (aJ c l)∧keys (aJ c l)=keys c++(bF 1 6 l).map EC:=by
 unfold aJ;simp only[]
 split
 ·rename_i hk
  rw[jo ah,List.map_singleton];refine h.dK ((Gr.put c 0 _).trans (Gr.put _ 1 _)) ((Nm.put c 0 _).trans (Nm.put _ 1 _)) _ _ (bW (fM c 0 _) ((Gr.put _ 1 _).len 0)) (fun k=>by cases k) ?_;unfold qj EC;rw[fU (Gr.put _ 1 _),hk];rfl
 ·split
  ·rename_i hk
   rw[jo ah,List.map_singleton];refine h.dK ((Gr.put c 0 _).trans (Gr.put _ 2 _)) ((Nm.put c 0 _).trans (Nm.put _ 2 _)) _ _ (bW (fM c 0 _) ((Gr.put _ 2 _).len 0)) (fun _=>fM _ 2 _) ?_;unfold qj EC;rw[fU (Gr.put _ 2 _),fU (Gr.refl _),hk]
  ·split
   ·rename_i hk
    rw[jo ah,List.map_singleton];have g:=(Gr.put (c.put 0 (l.names.getD 0 [])) 2 (l.names.getD 1 [])).trans (Gr.bU _ (l.aF.getD 0 ⟨[],0⟩));refine h.dK ((Gr.put c 0 _).trans g) (((Nm.put c 0 _).trans (Nm.put _ 2 _)).trans (Nm.bU _ _)) _ _ (bW (fM c 0 _) (g.len 0)) (fun k=>by cases k) ?_;unfold qj EC;rw[fU g,hk];rfl
   ·split
    ·rename_i hk
     rw[jo ah,List.map_singleton];have g:=(Gr.put (c.put 0 (l.names.getD 0 [])) 3 (l.names.getD 1 [])).trans (Gr.sc ((l.names.drop 2).zip l.aF) _);refine h.dK ((Gr.put c 0 _).trans g) (((Nm.put c 0 _).trans (Nm.put _ 3 _)).trans (Nm.sc _ _)) _ _ (bW (fM c 0 _) (g.len 0)) (fun k=>by cases k) ?_;unfold qj EC;rw[fU g,hk];rfl
    ·split
     ·rename_i h2 _ _ hk
      rw[jo ah,List.map_singleton];refine h.dK (Gr.put c 0 _) (Nm.put c 0 _) _ _ (fM c 0 _) (fun k=>absurd k h2) ?_;unfold qj EC;rw[fU (Gr.refl _)];simp only[L h2]
     ·split
      ·rw[bg ah,List.map_nil,O]
       have g:=(Gr.put c 2 (l.names.getD 0 [])).trans (Gr.ts (l.names.drop 1) _);exact h.grow ⟨g.n,g.e,I _ _,g.m,g.q⟩ ((Nm.put c 2 _).trans (Nm.ts _ _)).e
      ·split
       ·rw[bg ah,List.map_nil,O]
        have g:=((Gr.put c 3 (l.names.getD 0 [])).trans (Gr.put _ 2 (l.names.getD 1 []))).trans (Gr.ts (l.names.drop 2) _);exact h.grow ⟨g.n,g.e,g.d,I _ _,g.q⟩ (((Nm.put c 3 _).trans (Nm.put _ 2 _)).trans (Nm.ts _ _)).e
       ·split
        ·rw[bg ah,List.map_nil,O]
         have g:=Gr.put c 1 (l.names.getD 0 []);exact h.grow ⟨g.n,g.e,g.d,g.m,I _ _⟩ rfl
        ·rw[bg ah,List.map_nil,O]
         exact⟨h,rfl⟩
theorem ED:∀(ls:H aB) {c:Cont},wP c→wP (bA c ls)∧keys (bA c ls)=keys c++(ls.flatMap (bF 1 6)).map EC
 |[],c,h=>⟨h,by rw[List.flatMap_nil,List.map_nil,O];rfl⟩
 |l::ls,c,h=>by
  obtain⟨h1,h2⟩:=h.add l;obtain⟨h3,h4⟩:=ED ls h1;refine⟨h3,?_⟩;show keys (bA (aJ c l) ls)=_;rw[h4,h2,List.flatMap_cons,List.map_append,V]
def okK (ks:H (C × Bs × Bs)):Prop:=∀a k b,ks=a++k::b→k.1=2→(a.count k:C)+1≤999
theorem K7 {l:H Bs} (hn:l.Nodup) {m n:C} (hm:aV m l.length=Z) (hk:aV n l.length=Z) (h:aH l m=aH l n):m=n:=by
 simp only[aV,A,U] at hm hk;obtain⟨i,rfl⟩:∃i:Nat,m=(i:C):=⟨m.toNat,by omega⟩;obtain⟨j,rfl⟩:∃j:Nat,n=(j:C):=⟨n.toNat,by omega⟩;rw[mK _ ah,mK _ ah] at h;rw[Ba hn ah ah h]
theorem Ii {c:Cont} (h:wP c) (hn:∀i,(c.nl i).Nodup) {a b:H EvC} {e:EvC} (hE:c.E=a++e::b) (hk:e.kind=2):fQ a e.t e.obj=(a.map (qj c)).count (qj c e):=by
 unfold fQ List.count;rw[List.countP_map];refine List.countP_congr (fun y hy=>?_);have he:=h e (by rw[hE];simp);have hy':=h y (by rw[hE];exact R _ hy);simp only[Function.comp,A,beq_iff_eq,qj,Prod.mk.injEq,hk,if_true]
 constructor
 ·rintro⟨h2,h3,h4⟩
  rw[h2,h3,h4];simp
 ·rintro⟨h2,h3,h4⟩
  rw[J h2] at h4;exact⟨h2,K7 (hn 0) hy'.1 he.1 h3,K7 (hn 2) (hy'.2 h2) (he.2 hk) h4⟩
theorem NW {c:Cont} (h:wP c) (hn:∀i,(c.nl i).Nodup) (hc:jB c):(∀e∈c.E,e.kind=2→e.v.k≤999)↔okK (keys c):=by
 constructor
 ·intro hv a k b hx hk
  obtain⟨a',r,e1,rfl,e2⟩:=List.map_eq_append_iff.1 (show c.E.map (qj c)=a++k::b from hx);obtain⟨e,b',rfl,rfl,rfl⟩:=List.map_eq_cons_iff.1 e2;have hk':e.kind=2:=hk;have:=hv e (by rw[e1];simp) hk';rw[hc _ _ _ e1 hk',Ii h hn e1 hk'] at this;exact this
 ·intro ho e he hk
  obtain⟨a,b,hE⟩:=List.append_of_mem he;rw[hc _ _ _ hE hk,Ii h hn hE hk];exact ho (a.map (qj c)) (qj c e) (b.map (qj c)) (by unfold keys;rw[hE,List.map_append,List.map_cons]) hk
theorem Vv (c:Cont) (l:aB):(aJ c l).D.length=c.D.length+(bF 7 7 l).length∧(aJ c l).M.length=c.M.length+(bF 8 8 l).length∧(aJ c l).Q.length=c.Q.length+(bF 9 9 l).length:=by
 unfold aJ;simp only[]
 split
 ·rw[bg ah,bg ah,bg ah];exact⟨rfl,rfl,rfl⟩
 ·split
  ·rw[bg ah,bg ah,bg ah];exact⟨rfl,rfl,rfl⟩
  ·split
   ·rw[bg ah,bg ah,bg ah]
    have n:=((Nm.put c 0 (l.names.getD 0 [])).trans (Nm.put _ 2 (l.names.getD 1 []))).trans (Nm.bU _ (l.aF.getD 0 ⟨[],0⟩));exact⟨congrArg List.length n.d,congrArg List.length n.m,congrArg List.length n.q⟩
   ·split
    ·rw[bg ah,bg ah,bg ah]
     have n:=((Nm.put c 0 (l.names.getD 0 [])).trans (Nm.put _ 3 (l.names.getD 1 []))).trans (Nm.sc ((l.names.drop 2).zip l.aF) _);exact⟨congrArg List.length n.d,congrArg List.length n.m,congrArg List.length n.q⟩
    ·split
     ·rw[bg ah,bg ah,bg ah];exact⟨rfl,rfl,rfl⟩
     ·split
      ·rw[jo ah,bg ah,bg ah]
       have n:=(Nm.put c 2 (l.names.getD 0 [])).trans (Nm.ts (l.names.drop 1) _);exact⟨List.length_append,congrArg List.length n.m,congrArg List.length n.q⟩
      ·split
       ·rw[bg ah,jo ah,bg ah]
        have n:=((Nm.put c 3 (l.names.getD 0 [])).trans (Nm.put _ 2 (l.names.getD 1 []))).trans (Nm.ts (l.names.drop 2) _);exact⟨congrArg List.length n.d,List.length_append,congrArg List.length n.q⟩
       ·split
        ·rw[bg ah,bg ah,jo ah]
         exact⟨rfl,rfl,List.length_append⟩
        ·rw[bg ah,bg ah,bg ah];exact⟨rfl,rfl,rfl⟩
theorem EF:∀(ls:H aB) (c:Cont),(bA c ls).D.length=c.D.length+(ls.flatMap (bF 7 7)).length∧(bA c ls).M.length=c.M.length+(ls.flatMap (bF 8 8)).length∧(bA c ls).Q.length=c.Q.length+(ls.flatMap (bF 9 9)).length
 |[],c=>⟨rfl,rfl,rfl⟩
 |l::ls,c=>by
  obtain⟨h1,h2,h3⟩:=Vv c l;obtain⟨h4,h5,h6⟩:=EF ls (aJ c l);have e:bA c (l::ls)=bA (aJ c l) ls:=rfl;rw[e,h4,h5,h6,h1,h2,h3];simp only[List.flatMap_cons,List.length_append];omega
theorem Ij {a b:H aB} (h:∀l,l.kind≠0→(l∈a↔l∈b)) (h1:a.flatMap (bF 1 6)=b.flatMap (bF 1 6)) (h7:a.flatMap (bF 7 7)=b.flatMap (bF 7 7)) (h8:a.flatMap (bF 8 8)=b.flatMap (bF 8 8))
  (h9:a.flatMap (bF 9 9)=b.flatMap (bF 9 9)) (hf:aC (bA bK a)):aC (bA bK b):=by
 obtain⟨f1,f2,f3,f4,f5,f6⟩:=hf;obtain⟨ta,ka⟩:=ED a wP.zero;obtain⟨tb,kb⟩:=ED b wP.zero;have hk:keys (bA bK a)=keys (bA bK b):=by rw[ka,kb,h1]
 have hE:(bA bK a).E.length=(bA bK b).E.length:=by
  have:=congrArg List.length hk;unfold keys at this
  rwa[List.length_map,List.length_map] at this
 obtain⟨a1,a2,a3⟩:=EF a bK;obtain⟨b1,b2,b3⟩:=EF b bK;rw[h7,←b1] at a1;rw[h8,←b2] at a2;rw[h9,←b3] at a3;refine⟨fun i hi=>by rw[←Y8 h i];exact f1 i hi,by rw[←hE];exact f2,by rw[←a1];exact f3,by rw[←a2];exact f4,by rw[←a3];exact f5,?_⟩;refine(NW tb (wO b bK (fun _=>List.nodup_nil)) (jB.zero.all b)).2 ?_;rw[←hk];exact(NW ta (wO a bK (fun _=>List.nodup_nil)) (jB.zero.all a)).1 f6
theorem kV.symm {a b:Cont} (h:kV a b):kV b a:=⟨fun i hi=>(h.n i hi).symm,h.E.symm,h.SE.symm,h.D.symm,h.SD.symm,h.M.symm,h.SM.symm,h.Q.symm⟩
theorem kV.trans {a b c:Cont} (h:kV a b) (k:kV b c):kV a c:=⟨fun i hi=>(h.n i hi).trans (k.n i hi),h.E.trans k.E,h.SE.trans k.SE,h.D.trans k.D,h.SD.trans k.SD,h.M.trans k.M,h.SM.trans k.SM,h.Q.trans k.Q⟩
theorem PD {a b:H aB} (ha:∀l∈a,l.kind=0∨fC l) (hb:∀l∈b,l.kind=0∨fC l) (h:∀l,l.kind≠0→(l∈a↔l∈b)) (h1:a.flatMap (bF 1 6)=b.flatMap (bF 1 6)) (h7:a.flatMap (bF 7 7)=b.flatMap (bF 7 7)) (h8:a.flatMap (bF 8 8)=b.flatMap (bF 8 8))
  (h9:a.flatMap (bF 9 9)=b.flatMap (bF 9 9)) (hf:aC (bA bK a)):kV (bV (bA bK a)) (bV (bA bK b)):=by
 have s1:=DV ha hf;have s2:=DV hb (Ij h h1 h7 h8 h9 hf);have e:FK a=FK b:=by unfold FK;rw[h1,h7,h8,h9]
 rw[e] at s1;exact s1.symm.trans s2
theorem Vw {a b:C}:∀{ls:H aB},(∀l∈ls,a≤l.kind∧l.kind≤b)→ls.flatMap (bF a b)=ls
 |[],_=>rfl
 |l::ls,h=>by rw[List.flatMap_cons,jo (h l List.mem_cons_self),Vw (fun x hx=>h x (List.mem_cons_of_mem _ hx))];rfl
theorem Sw {a b:C}:∀{ls:H aB},(∀l∈ls,¬(a≤l.kind∧l.kind≤b))→ls.flatMap (bF a b)=[]
 |[],_=>rfl
 |l::ls,h=>by rw[List.flatMap_cons,bg (h l List.mem_cons_self),Sw (fun x hx=>h x (List.mem_cons_of_mem _ hx))];rfl
theorem abV (c:Cont) (i:Nat) (s:Bs):(c.put i s).nl=tu c.nl i s:=rfl
theorem I6:∀(l:H Bs) (c:Cont),(c.ts l).1.nl=(jW c.nl l).1∧(c.ts l).2=(jW c.nl l).2
 |[],_=>⟨rfl,rfl⟩
 |s::r,c=>by
  obtain⟨h1,h2⟩:=I6 r (c.put 0 s);exact⟨h1,congrArg (c.no 0 s:: ·) h2⟩
theorem NY {c d:Cont} (hf:aC c) (h:Nm c d):aC d↔∀i,i<4→(d.nl i).length≤jP i:=
 ⟨fun k=>k.1,fun k=>⟨k,by rw[h.e];exact hf.2.1,by rw[h.d];exact hf.2.2.1,by rw[h.m];exact hf.2.2.2.1,by rw[h.q];exact hf.2.2.2.2.1,by rw[h.e];exact hf.2.2.2.2.2⟩⟩
theorem JI {c:Cont} {k:Nat} {s:Bs} (hf:aC c) (hk:k<4):aC (c.put k s)↔(bY (c.nl k) s).length≤jP k:=by
 rw[NY hf (Nm.put c k s),abV]
 constructor
 ·intro h
  have:=h k hk;unfold tu at this
  rwa[J rfl] at this
 ·intro h i hi
  unfold tu
  split
  ·rename_i e;subst e;exact h
  ·exact hf.1 i hi
theorem Uv {c:Cont} {v:To} (hf:aC c):aC (c.bU v).1↔v.k=0∨(bY (c.nl 0) v.name).length≤jP 0:=by
 unfold Cont.bU
 split
 ·rename_i h;exact⟨fun _=> .inl h,fun _=>hf⟩
 ·rename_i h
  rw[JI hf ah];exact⟨.inr,fun k=>k.resolve_left h⟩
theorem Ik:∀(l:H Bs) (nl:Nat→H Bs) (j:Nat),j≠0→(jW nl l).1 j=nl j
 |[],_,_,_=>rfl
 |s::r,nl,j,hj=>(Ik r (tu nl 0 s) j hj).trans (L hj)
theorem Yu {c:Cont} {l:H Bs} (hf:aC c):aC (c.ts l).1↔((jW c.nl l).1 0).length≤jP 0:=by
 rw[NY hf (Nm.ts l c),(I6 l c).1]
 constructor
 ·exact fun h=>h 0 ah
 ·intro h i hi
  by_cases h0:i=0
  ·subst h0;exact h
  ·rw[Ik l c.nl i h0];exact hf.1 i hi
theorem M4 {c:Cont} {e:EvC} {l:H Sn} (hf:aC c):aC (c.ev e l)↔c.E.length<3000∧(e.kind=2→e.v.k≤999):=by
 constructor
 ·intro h
  have h1:=h.2.1;have h2:=h.2.2.2.2.2;have e1:(c.ev e l).E=c.E++[e]:=rfl;rw[e1] at h1 h2;rw[List.length_append,List.length_singleton] at h1;exact⟨h1,h2 e ak⟩
 ·rintro⟨h1,h2⟩
  refine⟨hf.1,?_,hf.2.2.1,hf.2.2.2.1,hf.2.2.2.2.1,?_⟩
  ·show(c.E++[e]).length≤3000
   rw[List.length_append,List.length_singleton];exact h1
  ·intro x hx
   rcases List.mem_append.1 (show x∈c.E++[e] from hx) with hx|hx
   ·exact hf.2.2.2.2.2 x hx
   ·rw[List.mem_singleton.1 hx];exact h2
theorem Gf:∀(l:H (Bs × To)) (c:Cont) (p:Bs × To),c.sc (l++[p])=(((((c.sc l).1.put 2 p.1).bU p.2).1),(c.sc l).2++[⟨(c.sc l).1.no 2 p.1,(((c.sc l).1.put 2 p.1).bU p.2).2⟩])
 |[],_,_=>rfl
 |q::l,c,p=>by
  have h:=Gf l ((c.put 2 q.1).bU q.2).1 p;show(((((c.put 2 q.1).bU q.2).1).sc (l++[p])).1,_::((((c.put 2 q.1).bU q.2).1).sc (l++[p])).2)=_;rw[h];rfl
theorem Sy:∀(l m:H (Bs × To)) (c:Cont),(c.sc (l++m)).1=((c.sc l).1.sc m).1
 |[],_,_=>rfl
 |q::l,m,c=>Sy l m ((c.put 2 q.1).bU q.2).1
theorem QD:∀(l:H (Bs × To)) (c:Cont),(c.sc l).2.length=l.length
 |[],_=>rfl
 |q::l,c=>congrArg (·+1) (QD l ((c.put 2 q.1).bU q.2).1)
theorem Yo {l:H (Bs × To)} {c:Cont} {i:Nat} {p:Bs × To} (hp:l[i]?=some p) (h:aC (c.sc l).1):aC ((c.sc (l.take i)).1.put 2 p.1)∧aC (((c.sc (l.take i)).1.put 2 p.1).bU p.2).1:=by
 obtain⟨hi,he⟩:=List.getElem?_eq_some_iff.1 hp;have e:l=(l.take i++[p])++l.drop (i+1):=by
  rw[←he,V,List.singleton_append,←List.drop_eq_getElem_cons hi,List.take_append_drop]
 rw[e,Sy,Gf] at h;have h2:=(Gr.sc (l.drop (i+1)) _).fits h;exact⟨(Gr.bU _ p.2).fits h2,h2⟩
theorem sG (E:H EvC) (e:EvC) (t x:C):fQ (E++[e]) t x=fQ E t x+(if e.kind=2∧e.t=t∧e.obj=x then 1 else 0):=by
 unfold fQ;rw[List.countP_append,List.countP_singleton]
 congr 1
 by_cases h:e.kind=2∧e.t=t∧e.obj=x
 ·rw[J h,J (by simp[h])]
 ·rw[L h,L (by simpa using h)]
theorem G6 (E:H EvC) (t x:C):fQ E t x≤E.length:=List.countP_le_length
def Moved (w0 X:World) (F:C→H C) (pre:H (C × Addr)):Prop:=
 ∀g cs T fz,w0.heap[g]?=some (.cells cs T fz)→∃cs':Array Value,X.heap[g]?=some (.cells cs' T fz)∧cs'.size=cs.size∧
  (∀j,(∀s,(s,(⟨g,j,none⟩:Addr))∉pre)→cs'[j]?=cs[j]?)∧(∀j s n,(s,(⟨g,j,none⟩:Addr))∈pre→cs[j]?=some (.int .i64 n)→cs'[j]?=some (.int .i64 (dx (F s) n)))
theorem Moved.start {w0 X:World} {F:C→H C} (s:Same (fun i=>i<w0.heap.size) w0 X):Moved w0 X F []:=fun g cs T fz h=>
 ⟨cs,(s.block g (Array.getElem?_eq_some_iff.1 h).1 (Array.getElem?_eq_some_iff.1 h).1).trans h,rfl,fun _ _=>rfl,fun _ _ _ h=>(by cases h)⟩
theorem Moved.same {w0 X Y:World} {F:C→H C} {pre:H (C × Addr)} (h:Moved w0 X F pre) (s:Same (fun i=>i<w0.heap.size) X Y):Moved w0 Y F pre:=fun g cs T fz hg=>
 (let⟨cs',h1,h2⟩:=h g cs T fz hg;⟨cs',(s.block g (Array.getElem?_eq_some_iff.1 hg).1 (Array.getElem?_eq_some_iff.1 h1).1).trans h1,h2⟩)
theorem cell_of {w:World} {g j:Nat} {v:Value} (h:w.cell? ⟨g,j,none⟩=some v):∃cs T fz,w.heap[g]?=some (.cells cs T fz)∧cs[j]?=some v:=by
 unfold World.cell? at h
 split at h
 ·rename_i cs T fz hg
  exact⟨cs,T,fz,hg,by simpa using h⟩
 ·cases h
theorem of_cell {w:World} {g j:Nat} {v:Value} {cs:Array Value} {T:TypeId} {fz:Nat × Nat} (h:w.heap[g]?=some (.cells cs T fz)) (hj:cs[j]?=some v):w.cell? ⟨g,j,none⟩=some v:=by
 unfold World.cell?;simp[h,hj]
theorem Moved.cell {w0 X:World} {F:C→H C} {pre:H (C × Addr)} (h:Moved w0 X F pre) {g j:Nat} {v:Value} (hc:w0.cell? ⟨g,j,none⟩=some v) (hn:∀s,(s,(⟨g,j,none⟩:Addr))∉pre):X.cell? ⟨g,j,none⟩=some v:=by
 obtain⟨cs,T,fz,hg,hj⟩:=cell_of hc;obtain⟨cs',h1,h2,h3,h4⟩:=h g cs T fz hg;exact of_cell h1 ((h3 j hn).trans hj)
theorem Moved.step {w0 X:World} {F:C→H C} {pre:H (C × Addr)} (h:Moved w0 X F pre) {s:C} {g j:Nat} {n v:C} (hn:∀s',(s',(⟨g,j,none⟩:Addr))∉pre) (hc:w0.cell? ⟨g,j,none⟩=some (.int .i64 n)) (hv:v=dx (F s) n):
  Moved w0 (X.setCell ⟨g,j,none⟩ (.int .i64 v)) F (pre++[(s,(⟨g,j,none⟩:Addr))]):=fun g' cs T fz hg=>by
 obtain⟨cs',h1,h2,h3,h4⟩:=h g' cs T fz hg;by_cases e:g'=g
 ·subst e
  refine⟨cs'.setIfInBounds j (.int .i64 v),bH h1 _,by rw[Array.size_setIfInBounds];exact h2,fun q hq=>?_,fun q s' m hq hm=>?_⟩
  ·have hne:j≠q:=fun e=>hq s (by rw[e];simp)
   rw[Array.getElem?_setIfInBounds_ne hne];exact h3 q (fun s' hs'=>hq s' (R _ hs'))
  ·obtain⟨cs2,T2,Xg,hg2,hj2⟩:=cell_of hc
   rw[hg] at hg2;injection hg2 with hg2;injection hg2 with q1 q2 q3;subst q1;have hlt:j<cs'.size:=by rw[h2];exact(Array.getElem?_eq_some_iff.1 hj2).1
   rcases List.mem_append.1 hq with hq|hq
   ·have hne:j≠q:=fun e=>by subst e;exact hn s' hq
    rw[Array.getElem?_setIfInBounds_ne hne];exact h4 q s' m hq hm
   ·have hq:=List.mem_singleton.1 hq
    injection hq with e1 e2;injection e2 with _ e2 _;subst e1 e2;rw[hj2] at hm;injection hm with hm;injection hm with _ hm;rw[Array.getElem?_setIfInBounds_self_of_lt hlt,hv,hm]
 ·refine⟨cs',by rw[Below.heap_setCell _ _ _ _ (by exact e)];exact h1,h2,fun q hq=>h3 q (fun s' hs'=>hq s' (R _ hs')),fun q s' m hq hm=>?_⟩
  rcases List.mem_append.1 hq with hq|hq
  ·exact h4 q s' m hq hm
  ·have hq:=List.mem_singleton.1 hq
   injection hq with _ e2;injection e2 with e2 _ _;exact absurd e2 e
theorem Own.moved {α:Type} {enc:α→H Value} {k:Nat} [hc:Cells enc k] {w0 X:World} {B:Nat} {T:TypeId} {v:Value} {xs ys:H α} {F:C→H C} {items:H (C × Addr)} (h:Own w0 B T k enc v xs) (hM:Moved w0 X F items) (hlen:ys.length=xs.length)
  (hcell:∀g,v.ownBlock=some g→∀i x y j u,xs[i]?=some x→ys[i]?=some y→(enc x)[j]?=some u→((enc y)[j]?=some u∧∀s,(s,(⟨g,i*k+j,none⟩:Addr))∉items)∨(∃s n,(s,(⟨g,i*k+j,none⟩:Addr))∈items∧u= .int .i64 n∧(enc y)[j]?=some (.int .i64 (dx (F s) n)))):
  Own X B T k enc v ys:=by
 obtain⟨h1,h2⟩:=h;refine⟨vQ _,?_⟩;rcases h2 with⟨e,h0⟩|⟨g,cap,cur,e,hB,hh,hn,hm,hs,ht⟩
 ·exact .inl ⟨e,hlen.trans h0⟩
 ·obtain⟨cs',k1,k2,k3,k4⟩:=hM g cur T _ hh
  refine .inr ⟨g,cap,cs',by rw[e,hlen],hB,k1,by rw[hlen];exact hn,hm,k2.trans hs,?_⟩;have oU:v.ownBlock=some g:=by rw[e];rfl
  rw[hlen]
  apply List.ext_getElem?
  intro q;have hle:xs.length*k≤cs'.size:=by rw[k2,hs];exact Nat.mul_le_mul_right _ hn
  by_cases hq:q<xs.length*k
  ·rw[List.getElem?_take,J hq]
   have hk:=hc.pos;have hi:q / k<xs.length:=(Nat.div_lt_iff_lt_mul hk).2 hq;have hj:q % k<k:=Nat.mod_lt _ hk;have hqe:q / k*k+q % k=q:=by rw[Nat.mul_comm];exact Nat.div_add_mod q k
   obtain⟨x,hx⟩:∃x,xs[q / k]?=some x:=⟨_,List.getElem?_eq_getElem hi⟩;obtain⟨y,hy⟩:∃y,ys[q / k]?=some y:=⟨_,List.getElem?_eq_getElem ah⟩;obtain⟨u,hu⟩:∃u,(enc x)[q % k]?=some u:=⟨_,List.getElem?_eq_getElem (by rw[hc.len];exact hj)⟩;have hold:cur[q]?=some u:=by
    have:=flat_get (hc:=hc) xs _ _ _ _ hx hu;rw[hqe,←ht,List.getElem?_take,J hq] at this
    simpa using this
   have hnew:∀u',(enc y)[q % k]?=some u'→(ys.flatMap enc)[q]?=some u':=fun u' hu'=>by
    have:=flat_get (hc:=hc) ys _ _ _ _ hy hu';rw[hqe] at this;exact this
   have hh:=hcell g oU (q / k) x y (q % k) u hx hy hu;rw[hqe] at hh;rcases hh with⟨e1,e2⟩|⟨s,n,e1,e2,e3⟩
   ·rw[hnew u e1,Array.getElem?_toList,k3 q e2,hold]
   ·subst e2
    rw[hnew _ e3,Array.getElem?_toList,k4 q s n e1 hold]
  ·rw[List.getElem?_take,L hq,List.getElem?_eq_none (by rw[vQ (hc:=hc),hlen];omega)]
end Yd
