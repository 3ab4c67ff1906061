import Derived.Test.YtnhnhmeogckgpaaGreatDoorF13
set_option linter.all false
set_option maxRecDepth 200000
set_option maxHeartbeats 8000000
namespace Yd
open Go Go.RowKit Go.Proofs
theorem O5 {w:World} {B:Nat} {l:bf} {s:aB} (k:Nat) (hk:k<10) (h:gM w B l s) (hkd:s.kind=(k:Int)) (hn:s.names.length≤1000) (hv:s.aF.length≤1000) (hg:nD w):
  Calls Tryz.prog 42 #[kG l] w (bC (.int .i64 (if zf k s=true then 0 else 220)) w):=by
 have xu:=hid (fun W (hb:Below w.heap.size w W)=>(h.below hb).U6 ah (Utf8Tabs_below hg.1.1 hb));have DN:=hid (fun W (hb:Below w.heap.size w W)=>(h.below hb).YL ah (Utf8Tabs_below hg.1.1 hb));obtain⟨⟨e1,e2,e3,e4,e5,e6⟩,_,_⟩:=h;obtain⟨lk,na,nn,nc,lvl,va,vn,vc,lf,bits⟩:=l;obtain⟨sk,names,slv,aF,first,sbt⟩:=s;simp only at e1 e2 e3 e4 e5 e6 hkd hn hv xu DN;subst e1 e2 e3 e4 hkd;obtain⟨N,hN⟩:∃N:Nat,bX k=(N:Int):=⟨(bX k).toNat,by unfold bX;split <;> rfl⟩;have hN2:N≤2:=by
   have:bX k≤2:=by unfold bX;split <;> decide
   omega
 obtain⟨mo,hmo⟩:∃mo:Int,mo=(nn:Int) - (N:Int):=⟨_,rfl⟩;have hwm:wrap64 ((nn:Int) - (N:Int))=mo:=by rw[hmo];exact IntWalk.wrap64_in _ ah
 obtain⟨r,hr⟩:∃r,dm k=r:=⟨_,rfl⟩;have O6:zf k ⟨(k:Int),names,lvl,aF,lf,bits⟩=((decide (0≤mo) && decide (mo≤iA r) && ((vn:Int)==kI r mo) && aF.all toB) && names.all (fun x=>bS ⟨x.toArray⟩) && (((r==108)==(lvl !=0)) && (!lf||r==109) && (bits==0||(r==103 && (decide (0<bits) && decide (bits≤15))))) && (lvl==0||fD lvl)):=by
  unfold zf;simp only[];rw[hr,hN,←e5,←e6,←hmo];rw[show decide ((N:Int)≤(nn:Int))=decide (0≤mo) by rw[hmo];exact decide_eq_decide.2 ah]
  rfl
 obtain⟨q1,h1⟩:∃q,decide (0≤mo)=q:=⟨_,rfl⟩;obtain⟨q2,h2⟩:∃q,decide (mo≤iA r)=q:=⟨_,rfl⟩;obtain⟨q3,h3⟩:∃q,((vn:Int)==kI r mo)=q:=⟨_,rfl⟩;obtain⟨q4,h4⟩:∃q,aF.all toB=q:=⟨_,rfl⟩;obtain⟨q5,h5⟩:∃q,names.all (fun x=>bS ⟨x.toArray⟩)=q:=⟨_,rfl⟩;obtain⟨q6,h6⟩:∃q,(lvl !=0)=q:=⟨_,rfl⟩;obtain⟨q8,h8⟩:∃q,(bits==0)=q:=⟨_,rfl⟩;obtain⟨q9,h9⟩:∃q,fD lvl=q:=⟨_,rfl⟩;obtain⟨Nw,h10⟩:∃q,decide (0<bits)=q:=⟨_,rfl⟩;obtain⟨q11,h11⟩:∃q,decide (bits≤15)=q:=⟨_,rfl⟩;have h7:(lvl==0)=!q6:=by rw[←h6];simp[bne]
 rw[h1,h2,h3,h4,h5,h6,h7,h8,h9,h10,h11] at O6;rw[O6];generalize hO:(if(q1 && q2 && q3 && q4) && q5 && (((r==108)==q6) && (!lf||r==109) && (q8||(r==103 && (Nw && q11)))) && (!q6||q9) then(0:Int) else 220)=out;have HO:=hid hO;clear hO;simp only[h4] at DN;simp only[h5] at xu;have hf:=hg.2.1 k hk;have hf1:w.cell? ⟨0,k*3,none⟩=some (.string ⟨(eU k).toArray⟩):=by rw[Nat.mul_comm];exact hf.1
 have hf2:w.cell? ⟨0,k*3+1,none⟩=some (.int .i64 (N:Int)):=by rw[Nat.mul_comm,←hN];exact hf.2.1
 have hf3:w.cell? ⟨0,k*3+2,none⟩=some (.int .i32 r):=by rw[Nat.mul_comm,←hr];exact hf.2.2
 have hc:r=108∨r=118∨r=103∨r=109∨r=115∨r=116∨r=0:=by rw[←hr];unfold dm;split <;> simp
 have hb0:=fw hf1;simp only at hb0;have HB:=hid (av (av (Below.refl w.heap.size w) (.cells #[.int .i64 (k:Int),.slice na nn nc,.int .i64 lvl,.slice va vn vc,.bool lf,.int .i64 bits] 34)) (.cells #[.string ⟨(eU k).toArray⟩,.int .i64 (N:Int),.int .i32 r] 116));have HX:=hid ((Bx.new w #[.int .i64 (k:Int),.slice na nn nc,.int .i64 lvl,.slice va vn vc,.bool lf,.int .i64 bits] 34).alloc (.cells #[.string ⟨(eU k).toArray⟩,.int .i64 (N:Int),.int .i32 r] 116));have HY:Hid (Bx ((w.alloc (.cells #[.int .i64 (k:Int),.slice na nn nc,.int .i64 lvl,.slice va vn vc,.bool lf,.int .i64 bits] 34)).alloc (.cells #[.string ⟨(eU k).toArray⟩,.int .i64 (N:Int),.int .i32 r] 116)) (w.heap.size+1) #[.string ⟨(eU k).toArray⟩,.int .i64 (N:Int),.int .i32 r]):=hid (Bx.new1 ak);have HG:=hid hg;have hk10:(k:Int)<10:=by omega
 have QC:Hid (∀W,Below w.heap.size w W→Calls Tryz.prog 58 #[.int .i64 lvl] W (fun e w'=>(∃t:Bs,e= .returned (.tuple #[.string ⟨t.toArray⟩,.int .i64 (if q9=true then 0 else 190)]))∧Below W.heap.size W w')):=hid (fun W hb=>by rw[←h9];exact Rx lvl W (hg.below hb));clear hg hf hmo hr hN e5 e6 hN2 hn hv O6 h4 h5 h9 h7;rcases hc with rfl|rfl|rfl|rfl|rfl|rfl|rfl
 case' inr.inr.inl=>cases Nw <;> cases q11
 all_goals
  simp only[iA,Int.reduceEq,if_false,if_true,or_self,or_true,or_false] at h2;simp only[kI,Int.reduceEq,if_false,if_true] at h3;go_enter Tryz.func42,Tryz.ntmps42
  cases q1
  case' true=>
   go_wp2_with fail;refine(Kv _ _).mono ?_;rintro e w1 ⟨rfl,hb1⟩
   trace_state
   replace HX:=hid (HX.q.keep hb1);replace HY:=hid (HY.q.keep hb1);replace HB:=hid (HB.q.bD hb1)
   have hcx:=HX.q.1;have hcy:=HY.q.1;clear hb1;simp only[iA,Int.reduceEq,if_false,if_true,or_self,or_true,or_false]
   cases q2
   case' true=>
    cases q3
    case' true=>
     go_wp2_with fail;refine(DN.q _ HB.q).mono ?_;rintro e w2 ⟨rfl,hb1⟩
     replace HX:=hid (HX.q.keep hb1);replace HY:=hid (HY.q.keep hb1);replace HB:=hid (HB.q.bD hb1)
     clear hcx hcy;have hcx:=HX.q.1;have hcy:=HY.q.1;clear hb1
     cases q4
     case' true=>
      simp only[Bool.not_true];go_wp2_with fail;refine(xu.q _ HB.q).mono ?_;rintro e w3 ⟨rfl,hb1⟩
      replace HX:=hid (HX.q.keep hb1);replace HY:=hid (HY.q.keep hb1);replace HB:=hid (HB.q.bD hb1)
      clear hcx hcy;have hcx:=HX.q.1;have hcy:=HY.q.1;clear hb1
      cases q5
      case' true=>
       cases q6 <;> cases lf <;> cases q8
 all_goals
  try simp only[Bool.not_false,Bool.not_true]
  go_wp2_with fail;refine(QC.q _ HB.q).mono ?_;rintro e wL ⟨⟨tL,rfl⟩,hb1⟩
  replace HX:=hid (HX.q.keep hb1);replace HB:=hid (HB.q.bD hb1)
  try clear hcx
  have hcx:=HX.q.1;clear hb1;have ho:=HO.q;simp at ho;subst ho
  first
  |generalize(if q9=true then(0:Int) else 190)=ev
   go_wp2_with fail;go_ret;exact⟨rfl,HB.q⟩
  |cases q9
   all_goals
    simp only[Bool.false_eq_true,if_false,if_true];go_wp2_with fail;go_ret;exact⟨rfl,HB.q⟩
theorem Gi {w:World} {B:Nat} {l:bf} {s:aB} (h:gM w B l s) (hn:s.names.length≤1000) (hv:s.aF.length≤1000) (hg:nD w):
  Calls Tryz.prog 42 #[kG l] w (bC (.int .i64 (if j4 s=true then 0 else 220)) w):=by
 unfold j4;by_cases h0:s.kind<0
 ·rw[if_neg (by simp;omega)]
  have hk:l.kind<0:=by rw[h.1.1];exact h0
  have hb:decide (l.kind<0)=true:=by simpa using hk
  clear h h0 hk hn hv hg;go_enter Tryz.func42,Tryz.ntmps42;go_wp2_with fail;go_ret;exact⟨rfl,av (Below.refl _ _) _⟩
 ·by_cases h1:10≤s.kind
  ·rw[if_neg (by simp;omega)]
   have hk:10≤l.kind:=by rw[h.1.1];exact h1
   have hb:decide (l.kind<0)=false:=by simp;omega
   have hb1:decide (10≤l.kind)=true:=by simpa using hk
   clear h h0 h1 hk hn hv hg;go_enter Tryz.func42,Tryz.ntmps42;go_wp2_with fail;go_ret;exact⟨rfl,av (Below.refl _ _) _⟩
  ·obtain⟨k,hk⟩:∃k:Nat,s.kind=(k:Int):=⟨s.kind.toNat,by omega⟩
   rw[show(decide (0≤s.kind) && decide (s.kind<10) && zf s.kind.toNat s)=zf k s by
    rw[hk,Int.toNat_natCast];simp;intro;omega]
   exact O5 k ah h hk hn hv hg
end Yd
