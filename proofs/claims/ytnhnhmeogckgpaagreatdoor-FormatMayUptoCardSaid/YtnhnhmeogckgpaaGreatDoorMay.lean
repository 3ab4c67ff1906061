import Derived.Test.YtnhnhmeogckgpaaGreatDoorRLw
import Derived.Test.YtnhnhmeogckgpaaGreatDoorLaid13
set_option linter.all false
set_option maxRecDepth 200000
set_option maxHeartbeats 8000000
namespace Yd
open List renaming length_map→f
open Go Go.RowKit Go.Proofs Tryz
open Below renaming refl→u
open Go.Obj renaming cells→g
open Yd renaming hid→d
theorem gU.check {X:World} {B:Nat} {h:HC} {z:Cont} {es:List EvC} {ds:List aK} {ms:List aM} {scan:EvC→List Sn} {dn:aK→List Int} {mn:aM→List Int} (o:gU X B h (bV z) es ds ms scan dn mn) (hs:fT (bV z)) (hf:aC (bV z)):
  Ck h (bV z).nl es ds ms (bV z).Q scan dn mn=true:=by
 rw[Mi (o.shaped hs hf) (fun i hi=>(o.lens.2.2.2.2 i hi).symm),List.all_eq_true];intro i hi;have hi4:=List.mem_range.1 hi;rw[decide_eq_true_eq,DW o.be o.bd o.bm o.ss o.ts o.us,Ig,o.lens.2.2.2.2 i hi4]
theorem PE {X:World} {B:Nat} {h:HC} {ls:List aB} {z:Cont} {es:List EvC} {ds:List aK} {ms:List aM} {scan:EvC→List Sn} {dn:aK→List Int} {mn:aM→List Int} (o:gU X B h (bV z) es ds ms scan dn mn) (hz:nS bK 0 ls= .ok z) (hg:xU X):
  Calls Tryz.prog 25 #[fJ h] X (bC (.int .i64 0) X):=by
 obtain⟨h1,_,_,h4,_⟩:=Il hz;have hs:=fT.number h1;have hf:=DX h1 h4;have:=Sz h (bV z).nl es ds ms (bV z).Q scan dn mn X hg (o.names (hs.J4 hf)) (o.deep (hs.J4 hf));rw[o.check hs hf] at this;exact this
theorem Vx {s:Bs} {p:Int} (h:(bZ s p).2.2=0):j4 (bZ s p).1=true:=by
 unfold bZ at h ⊢
 split
 ·rename_i hp;rw[if_pos hp] at h;cases h
 ·rename_i hp
  rw[if_neg hp] at h
  cases hl:rE (s.drop p.toNat) with
  |error x=>
   obtain⟨r,m⟩:=x;rw[hl] at h;exact absurd h (K9 _ r m hl)
  |ok y=>
   obtain⟨n,r⟩:=y;rcases(Kt hl).1 with rfl|h1
   ·exact abX
   ·exact Vq h1
theorem NZ (s:Bs):∀(n p:Nat) (x:wQ),x∈gV s n p→x.er=0→j4 x.ln=true
 |0,_,x,h,_=>by cases h
 |n+1,p,x,h,he=>by
  unfold gV at h
  split at h
  ·rcases List.mem_cons.1 h with rfl|h
   ·exact Vx he
   ·split at h
    ·exact NZ s n _ x h he
    ·cases h
  ·cases h
theorem Vy {s:Bs} {r:List (aB × Int)} (h:lC s= .ok r):∀l∈r.map Prod.fst,j4 l=true:=by
 have e:=Im h;unfold lC at h
 split at h
 ·cases h
 rcases qh s (s.length+1) 0 ah with⟨q0,_⟩|⟨_,_,_,_,_,q⟩
 ·subst e
  rw[List.map_map];intro l hl;obtain⟨y,hy,rfl⟩:=List.mem_map.1 hl;exact NZ s _ _ y hy (q0 y hy)
 ·rw[q] at h;cases h
theorem N7:∀(ls:List aB) (c:Cont) (i j:Nat) (n:Int),(∀l∈ls,j4 l=true)→nS c i ls= .error (j,n)→n=6
 |[],_,_,_,_,_,h=>by cases h
 |l::ls,c,i,j,n,hl,h=>by
  unfold nS at h;rw[if_pos (hl l ak)] at h
  split at h
  ·exact N7 ls _ _ j n (fun x hx=>hl x (by simp[hx])) h
  ·injection h with h;injection h with _ h;exact h.symm
def PG (s:Bs):Bs:=if 131072<s.length then s else s.take 6000
theorem aeT (s:Bs) (w:World):Calls Tryz.prog 11 #[.string ⟨s.toArray⟩] w (bC (.string ⟨(PG s).toArray⟩) w):=by
 have hz:=fO s;by_cases hlong:131072<s.length
 ·have hl1:(131072:Int)<(s.length:Int):=by omega
  have he:PG s=s:=if_pos hlong;rw[he];go_enter Tryz.func11,Tryz.ntmps11;go_wp2_with fail;refine bodyPost_ret (v:= .string ⟨s.toArray⟩) (by simp[results,results11,go_sem]) rfl ?_;exact⟨rfl,u _ _⟩
 have hl1:¬((131072:Int)<(s.length:Int)):=by omega
 have he:PG s=s.take 6000:=if_neg hlong;obtain⟨m,hm⟩:∃m:Nat,m=min s.length 6000:=⟨_,rfl⟩;have hmi:min (s.length:Int) 6000=(m:Int):=by omega
 have hext:(⟨s.toArray⟩:ByteArray).extract 0 m=⟨(s.take 6000).toArray⟩:=by
  rw[UO s 0 m (Nat.zero_le _),List.drop_zero,Nat.sub_zero,hm,Nat.min_comm,←List.take_eq_take_min]
 have hmb:m≤6000:=by omega
 have hml:m≤s.length:=by omega
 have HE:=d hext;rw[he];clear hm hext he;go_enter Tryz.func11,Tryz.ntmps11;go_wp2_with fail;have hext:=HE.q;refine bodyPost_ret (v:= .string ⟨(s.take 6000).toArray⟩) (by simp[results,results11,go_sem,hext]) rfl ?_;exact⟨rfl,u _ _⟩
theorem Za (s:Bs) (w:World) (hG:yw w):Calls Tryz.prog 5 #[.string ⟨s.toArray⟩] w (bC (.bool true) w):=by
 have HG:=d hG;clear hG;go_enter func5,ntmps5;go_wp2_with fail;refine(Nl w HG.q).mono ?_;rintro e w1 ⟨rfl,hb1⟩;have HB1:=d hb1;clear hb1;go_wp2_with fail;refine(aeT s w1).mono ?_;rintro e w2 ⟨rfl,hb2⟩;have HB2:=d (HB1.q.bD hb2);clear hb2;obtain⟨t,ht⟩:∃t,t=PG s:=⟨_,rfl⟩;rw[←ht];clear ht;have hz:=fO t;go_wp2_with fail;refine(zM t w2 (HG.q.below HB2.q)).mono ?_;rintro e w3 ⟨hb3,h3⟩;have HB3:=d (HB2.q.bD hb3);clear hb3
 cases hl:lC t with
 |error x=>
  obtain⟨n,m⟩:=x;have hR:lW t= .error (n,m):=by unfold lW;rw[hl]
  rw[hR] at h3;obtain rfl:=h3;have hne:m≠0:=FL hl;have hne1:(m !=0)=true:=by simp[hne]
  have dL:=d (av HB3.q (g (aA j3) 41));have HX:=d (Bx.new w3 (aA j3) 41);have HL:=d hl;clear hl hR hne;go_wp2_with fail;refine(u7 t _ (HG.q.1.below dL.q)).mono ?_;rintro e w5 ⟨hb5,h5⟩;rw[HL.q] at h5;obtain rfl:=h5;have dS:=d (dL.q.bD hb5);have jq:=d (HX.q.keep hb5);clear hb5;have hcx:=jq.q.1;go_wp2_with fail;refine(kS (Gl _ 0) (Gl _ 0) Nn Nn).mono ?_;rintro e w6 ⟨b,rfl,hb,hb6⟩;obtain rfl:=hb.2 (kV.rfl' _);clear hb;go_wp2_with fail;go_ret;exact⟨rfl,dS.q.bD hb6⟩
 |ok r=>
  have hlen:=FM hl;have hB:=Vy hl;have HL:=d hl;have HLEN:=d hlen;have z8:=d hB;clear hlen hB
  cases ho:nS bK 0 (r.map Prod.fst) with
  |error x=>
   obtain⟨i,k⟩:=x;obtain rfl:=N7 _ _ _ _ _ z8.q ho;have hi:=(Gj ho).1;rw[f] at hi;obtain⟨px,hpx⟩:∃px,(r.map Prod.snd)[i]?=some px:=⟨(r.map Prod.snd)[i]'(by rw[f];exact hi),List.getElem?_eq_getElem _⟩;have hR:lW t= .error (px,6):=by unfold lW;rw[hl];simp only[ho,List.getD,hpx,Option.getD_some]
   rw[hR] at h3;obtain rfl:=h3;have dL:=d (av HB3.q (g (aA j3) 41));have HX:=d (Bx.new w3 (aA j3) 41);have HO:=d ho;have HI:=d hi;have HPX:=d hpx;clear hl hR ho hi hpx;go_wp2_with fail;refine(u7 t _ (HG.q.1.below dL.q)).mono ?_;rintro e w5 ⟨hb5,h5⟩;rw[HL.q] at h5;obtain⟨a,c,aR,pa,pc,rfl,oL,aL,oP⟩:=h5;have hll:aR.length=r.length:=by rw[aL.1,f]
   have uM:=d hll;have dS:=d (dL.q.bD hb5);have jq:=d (HX.q.keep hb5);have y8:=d (tT a c aR (r.map Prod.fst) _ w5 (oL.row (hc:=wH) (by have:=HLEN.q.1;omega)) aL HLEN.q.2 (HG.q.2.below dS.q));obtain⟨px',pb,po,abY,rfl,hpc⟩:=(oP.row (hc:=gZ) (by rw[f];have:=HLEN.q.1;omega)).at_ HI.q;obtain rfl:px=px':=Option.some.inj (HPX.q.symm.trans abY);have hpb:=hpc 0 _ rfl;simp only[Nat.add_zero,Nat.mul_one] at hpb;have HPB:=d hpb;clear hb5 oL aL oP hll abY hpc hpb;go_wp2_with fail;refine y8.q.mono ?_;rintro e w6 ⟨hb6,h6⟩;rw[HO.q] at h6;obtain rfl:=h6;have oC:=d (dS.q.bD hb6);have Af:=d ((jq.q.keep hb6).alloc (g (aA j3) 41));have mH:=d (Bx.new w6 (aA j3) 41);have La:=d (av oC.q (g (aA j3) 41));have HP7:=d (aT (av (u w6.heap.size w6) (g (aA j3) 41)) rfl (hb6.cell (p:=⟨pb,po+i,none⟩) (fw HPB.q)▸HPB.q));clear hb6;have hcx:=Af.q.1;have hcy:=mH.q.1;have hne2:((aR.length:Int)!=(r.length:Int))=false:=by rw[uM.q];simp
   go_wp2_with fail;refine(kS (Gl _ 0) (Gl _ 0) Nn Nn).mono ?_;rintro e w8 ⟨b,rfl,hb,zn⟩;obtain rfl:=hb.2 (kV.rfl' _);have Xv:=d (La.q.bD zn);have hpc:=aT zn rfl HP7.q;have hi1:(i:Int)<(r.length:Int):=by have:=HI.q;omega
   clear hb zn hcx hcy;go_wp2_with fail;go_ret;exact⟨rfl,Xv.q⟩
  |ok z=>
   have hR:lW t= .ok z:=by unfold lW;rw[hl];simp only[ho]
   rw[hR] at h3;obtain⟨h,es,ds,ms,scan,dn,mn,rfl,hho⟩:=h3;have dL:=d (av HB3.q (g (aA h) 41));have HX:=d (Bx.new w3 (aA h) 41);have HH:=d (hho.below (av (u _ _) (g (aA h) 41)));have HO:=d ho;clear hl hR ho hho;go_wp2_with fail;refine(u7 t _ (HG.q.1.below dL.q)).mono ?_;rintro e w5 ⟨hb5,h5⟩;rw[HL.q] at h5;obtain⟨a,c,aR,pa,pc,rfl,oL,aL,oP⟩:=h5;have hll:aR.length=r.length:=by rw[aL.1,f]
   have uM:=d hll;have dS:=d (dL.q.bD hb5);have jq:=d (HX.q.keep hb5);have HH5:=d (HH.q.below hb5);have y8:=d (tT a c aR (r.map Prod.fst) _ w5 (oL.row (hc:=wH) (by have:=HLEN.q.1;omega)) aL HLEN.q.2 (HG.q.2.below dS.q));clear hb5 oL aL oP hll;go_wp2_with fail;refine y8.q.mono ?_;rintro e w6 ⟨hb6,h6⟩;rw[HO.q] at h6;obtain⟨h',es',ds',ms',jJ,kZ,oZ,rfl,Ci⟩:=h6;have oC:=d (dS.q.bD hb6);have Af:=d ((jq.q.keep hb6).alloc (g (aA h') 41));have HH6:=d ((HH5.q.below hb6).below (av (u _ _) (g (aA h') 41)));have mH:=d (Bx.new w6 (aA h') 41);have HK6:=d (Ci.below (av (u _ _) (g (aA h') 41)));have La:=d (av oC.q (g (aA h') 41));clear hb6 Ci;have hcx:=Af.q.1;have hcy:=mH.q.1;have hne2:((aR.length:Int)!=(r.length:Int))=false:=by rw[uM.q];simp
   go_wp2_with fail;refine(kS HK6.q HH6.q (yx HO.q) (yx HO.q)).mono ?_;rintro e w8 ⟨b,rfl,hb,zn⟩;obtain rfl:=hb.2 (kV.rfl' _);have Xv:=d (La.q.bD zn);have HX8:=d (Af.q.keep zn);have HH8:=d (HH6.q.below zn);clear hb zn hcx hcy;have hcx:=HX8.q.1;have aj7:((r.length:Int)==(aR.length:Int))=true:=by rw[uM.q];simp
   go_wp2_with fail;refine(PE HH8.q HO.q (HG.q.2.l.below Xv.q).1).mono ?_;rintro e w9 ⟨rfl,SA⟩;go_wp2_with fail;go_ret;exact⟨rfl,Xv.q.bD SA⟩
end Yd
