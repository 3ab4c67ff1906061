import Derived.Test.YtddiadcpokbpoaaGreatDoorLOwnPut
set_option linter.all false
set_option maxRecDepth 200000
set_option maxHeartbeats 8000000
namespace Yd
open Go Go.RowKit Go.Proofs
theorem Uv {w:World}{B:Nat}{l:bB}{s:aP}(k:Nat)(hk:k<10)(h:iB w B l s)(hkd:s.kind=(k:Int))(hn:s.names.length<=1000)(hv:s.aF.length<=1000)(hg:qc w):
  Calls Tryz.prog 15 #[jg l] w (cK (.int .i64 (if jT k s=true then 0 else 220)) w):=by
 have uE:=hid (λW (hb:Below w.1.size w W)=>(h.below hb).Y6 ah (Utf8Tabs_below hg.1.1 hb));have Ch:=hid (λW (hb:Below w.1.size w W)=>(h.below hb).adi ah (Utf8Tabs_below hg.1.1 hb));obtain⟨⟨e1,e2,e3,e4,e5,e6⟩,_,_⟩:=h;obtain⟨lk,na,nn,nc,lvl,va,vn,vc,lf,bits⟩:=l;obtain⟨sk,names,slv,aF,first,sbt⟩:=s;simp only at e1 e2 e3 e4 e5 e6 hkd hn hv uE Ch;subst e1 e2 e3 e4 hkd;obtain⟨N,hN⟩:∃N:Nat,cu k=(N:Int):=⟨(cu k).toNat,by unfold cu;split <;> rfl⟩;have hN2:N<=2:=by
   have:cu k<=2:=by unfold cu;split <;> decide
   omega
 obtain⟨mo,hmo⟩:∃mo:Int,mo=(nn:Int) - (N:Int):=⟨_,rfl⟩;have hwm:wrap64 ((nn:Int) - (N:Int))=mo:=by rw[hmo];exact IntWalk.wrap64_in _ ah
 obtain⟨r,hr⟩:∃r,bZ k=r:=⟨_,rfl⟩;have Uw:jT k ⟨(k:Int),names,lvl,aF,lf,bits⟩=((decide (0<=mo) && decide (mo<=jq r) && ((vn:Int)==pz r mo) && aF.all toB) && names.all (λx=>bD ⟨x.toArray⟩) && (((r==108)==(lvl !=0)) && (!lf||r==109) && (bits==0||(r==103 && (decide (0<bits) && decide (bits<=15))))) && (lvl==0||fF lvl)):=by
  unfold jT;simp only[];rw[hr,hN,<-e5,<-e6,<-hmo];rw[show decide ((N:Int)<=(nn:Int))=decide (0<=mo) by rw[hmo];exact decide_eq_decide.2 ah]
  rfl
 obtain⟨q1,h1⟩:∃q,decide (0<=mo)=q:=⟨_,rfl⟩;obtain⟨q2,h2⟩:∃q,decide (mo<=jq r)=q:=⟨_,rfl⟩;obtain⟨q3,h3⟩:∃q,((vn:Int)==pz r mo)=q:=⟨_,rfl⟩;obtain⟨q4,h4⟩:∃q,aF.all toB=q:=⟨_,rfl⟩;obtain⟨q5,h5⟩:∃q,names.all (λx=>bD ⟨x.toArray⟩)=q:=⟨_,rfl⟩;obtain⟨q6,h6⟩:∃q,(lvl !=0)=q:=⟨_,rfl⟩;obtain⟨q8,h8⟩:∃q,(bits==0)=q:=⟨_,rfl⟩;obtain⟨q9,h9⟩:∃q,fF lvl=q:=⟨_,rfl⟩;obtain⟨q10,h10⟩:∃q,decide (0<bits)=q:=⟨_,rfl⟩;obtain⟨q11,h11⟩:∃q,decide (bits<=15)=q:=⟨_,rfl⟩;have h7:(lvl==0)=!q6:=by rw[<-h6];simp[bne]
 rw[h1,h2,h3,h4,h5,h6,h7,h8,h9,h10,h11] at Uw;rw[Uw];generalize hO:(if(q1 && q2 && q3 && q4) && q5 && (((r==108)==q6) && (!lf||r==109) && (q8||(r==103 && (q10 && q11)))) && (!q6||q9) then(0:Int) else 220)=out;have HO:=hid hO;clear hO;simp only[h4] at Ch;simp only[h5] at uE;have hf:=hg.2.1 k hk;have hf1:w.cell? ⟨0,k*3,none⟩=some (.string ⟨(fI k).toArray⟩):=by rw[Eg];exact hf.1
 have hf2:w.cell? ⟨0,k*3+1,none⟩=some (.int .i64 (N:Int)):=by rw[Eg,<-hN];exact hf.2.1
 have hf3:w.cell? ⟨0,k*3+2,none⟩=some (.int .i32 r):=by rw[Eg,<-hr];exact hf.2.2
 have hc:r=108\/r=118\/r=103\/r=109\/r=115\/r=116\/r=0:=by rw[<-hr];unfold bZ;split <;> simp
 have hb0:=jC hf1;simp only at hb0;have HB:=hid (aB (aB (Below.refl w.1.size w) (.cells #[.int .i64 (k:Int),.slice na nn nc,.int .i64 lvl,.slice va vn vc,.bool lf,.int .i64 bits] 30)) (.cells #[.string ⟨(fI k).toArray⟩,.int .i64 (N:Int),.int .i32 r] 83));have HX:=hid ((Bx.new w #[.int .i64 (k:Int),.slice na nn nc,.int .i64 lvl,.slice va vn vc,.bool lf,.int .i64 bits] 30).alloc (.cells #[.string ⟨(fI k).toArray⟩,.int .i64 (N:Int),.int .i32 r] 83));have HY:Hid (Bx ((w.alloc (.cells #[.int .i64 (k:Int),.slice na nn nc,.int .i64 lvl,.slice va vn vc,.bool lf,.int .i64 bits] 30)).alloc (.cells #[.string ⟨(fI k).toArray⟩,.int .i64 (N:Int),.int .i32 r] 83)) (w.1.size+1) #[.string ⟨(fI k).toArray⟩,.int .i64 (N:Int),.int .i32 r]):=hid (Bx.new1 au);have HG:=hid hg;have hk10:(k:Int)<10:=by omega
 have J4:Hid (∀W,Below w.1.size w W->Calls Tryz.prog 32 #[.int .i64 lvl] W (λe w'=>(∃t:Bs,e= .returned (.tuple #[.string ⟨t.toArray⟩,.int .i64 (if q9=true then 0 else 190)]))/\Below W.1.size W w')):=hid (λW hb=>by rw[<-h9];exact Ws lvl W (hg.below hb));clear hg hf hmo hr hN e5 e6 hN2 hn hv Uw h4 h5 h9 h7;rcases hc with rfl|rfl|rfl|rfl|rfl|rfl|rfl
 case' inr.inr.inl=>cases q10 <;> cases q11
 all_goals
  simp only[jq,Int.reduceEq,fE,dw,or_self,or_true,or_false] at h2;simp only[pz,Int.reduceEq,fE,dw] at h3;go_enter Tryz.func15,Tryz.ntmps15
  cases q1
  case' true=>
   go_wp2_with fail;refine(N8 _ _).mono ?_;rintro e w1 ⟨rfl,hb1⟩
   replace HX:=hid (HX.q.keep hb1);replace HY:=hid (HY.q.keep hb1);replace HB:=hid (HB.q.bO hb1)
   have hcx:=HX.q.1;have hcy:=HY.q.1;clear hb1;simp only[jq,Int.reduceEq,fE,dw,or_self,or_true,or_false]
   cases q2
   case' true=>
    cases q3
    case' true=>
     go_wp2_with fail;refine(Ch.q _ HB.q).mono ?_;rintro e w2 ⟨rfl,hb1⟩
     replace HX:=hid (HX.q.keep hb1);replace HY:=hid (HY.q.keep hb1);replace HB:=hid (HB.q.bO hb1)
     clear hcx hcy;have hcx:=HX.q.1;have hcy:=HY.q.1;clear hb1
     cases q4
     case' true=>
      simp only[Bool.not_true];go_wp2_with fail;refine(uE.q _ HB.q).mono ?_;rintro e w3 ⟨rfl,hb1⟩
      replace HX:=hid (HX.q.keep hb1);replace HY:=hid (HY.q.keep hb1);replace HB:=hid (HB.q.bO hb1)
      clear hcx hcy;have hcx:=HX.q.1;have hcy:=HY.q.1;clear hb1
      cases q5
      case' true=>
       cases q6 <;> cases lf <;> cases q8
 all_goals
  try simp only[Bool.not_false,Bool.not_true]
  go_wp2_with fail;refine(J4.q _ HB.q).mono ?_;rintro e wL ⟨⟨tL,rfl⟩,hb1⟩
  replace HX:=hid (HX.q.keep hb1);replace HB:=hid (HB.q.bO hb1)
  try clear hcx
  have hcx:=HX.q.1;clear hb1;have ho:=HO.q;simp at ho;subst ho
  first
  |generalize(if q9=true then(0:Int) else 190)=ev
   go_wp2_with fail;go_ret;exact⟨rfl,HB.q⟩
  |cases q9
   all_goals
    simp only[Ea,fE,dw];go_wp2_with fail;go_ret;exact⟨rfl,HB.q⟩
theorem La {w:World}{B:Nat}{l:bB}{s:aP}(h:iB w B l s)(hn:s.names.length<=1000)(hv:s.aF.length<=1000)(hg:qc w):
  Calls Tryz.prog 15 #[jg l] w (cK (.int .i64 (if nS s=true then 0 else 220)) w):=by
 unfold nS;by_cases h0:s.kind<0
 .rw[ak (by simp;omega)]
  have hk:l.kind<0:=by rw[h.1.1];exact h0
  have hb:decide (l.kind<0)=true:=by simpa using hk
  clear h h0 hk hn hv hg;go_enter Tryz.func15,Tryz.ntmps15;go_wp2_with fail;go_ret;exact⟨rfl,aB (Below.refl _ _) _⟩
 .by_cases h1:10<=s.kind
  .rw[ak (by simp;omega)]
   have hk:10<=l.kind:=by rw[h.1.1];exact h1
   have hb:decide (l.kind<0)=false:=by simp;omega
   have hb1:decide (10<=l.kind)=true:=by simpa using hk
   clear h h0 h1 hk hn hv hg;go_enter Tryz.func15,Tryz.ntmps15;go_wp2_with fail;go_ret;exact⟨rfl,aB (Below.refl _ _) _⟩
  .obtain⟨k,hk⟩:∃k:Nat,s.kind=(k:Int):=⟨s.kind.toNat,by omega⟩
   rw[show(decide (0<=s.kind) && decide (s.kind<10) && jT s.kind.toNat s)=jT k s by
    rw[hk,kS];simp;intro;omega]
   exact Uv k ah h hk hn hv hg
end Yd
