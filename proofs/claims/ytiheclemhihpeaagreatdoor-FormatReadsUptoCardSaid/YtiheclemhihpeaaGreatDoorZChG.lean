import Derived.Test.YtiheclemhihpeaaGreatDoorZREqL
set_option linter.all false
set_option maxRecDepth 200000
set_option maxHeartbeats 8000000
namespace Yd
open Go Go.RowKit Go.Proofs
theorem Kg {w:World}{B:Nat}{l:aW}{s:aK}(k:Nat)(hk:k<10)(h:dZ w B l s)(δ:s.kind=(k:Int))(hn:s.names.length<=1000)(hv:s.aM.length<=1000)(o:mF w):
  Calls Tryz.prog 33 #[dH l] w (bT (.int .i64 (if qB k s=true then 0 else 220)) w):=by
 have P:=hid (λW (m:Below w.1.size w W)=>(h.below m).O1 ah (Utf8Tabs_below o.1.1 m));have Q:=hid (λW (m:Below w.1.size w W)=>(h.below m).RD ah (Utf8Tabs_below o.1.1 m));obtain⟨⟨e1,e2,e3,e4,R,S⟩,_,_⟩:=h;obtain⟨lk,T,p,X,c,Y,v,Z,n,g⟩:=l;obtain⟨sk,α,ξ,β,first,ο⟩:=s;simp only at e1 e2 e3 e4 R S δ hn hv P Q;subst e1 e2 e3 e4 δ;obtain⟨f,hN⟩:∃f:Nat,eU k=(f:Int):=⟨(eU k).toNat,by unfold eU;split <;> rfl⟩;have η:f<=2:=by
   have:eU k<=2:=by unfold eU;split <;> decide
   omega
 obtain⟨i,y⟩:∃i:Int,i=(p:Int) - (f:Int):=⟨_,rfl⟩;have π:wrap64 ((p:Int) - (f:Int))=i:=by rw[y];exact IntWalk.wrap64_in _ ah
 obtain⟨r,z⟩:∃r,iK k=r:=⟨_,rfl⟩;have γ:qB k ⟨(k:Int),α,c,β,n,g⟩=((decide (0<=i) && decide (i<=mY r) && ((v:Int)==ze r i) && β.all toB) && α.all (λx=>bW ⟨x.toArray⟩) && (((r==108)==(c !=0)) && (!n||r==109) && (g==0||(r==103 && (decide (0<g) && decide (g<=15))))) && (c==0||iG c)):=by
  unfold qB;simp only[];rw[z,hN,<-R,<-S,<-y];rw[show decide ((f:Int)<=(p:Int))=decide (0<=i) by rw[y];exact decide_eq_decide.2 ah]
  rfl
 obtain⟨q1,h1⟩:∃q,decide (0<=i)=q:=⟨_,rfl⟩;obtain⟨q2,h2⟩:∃q,decide (i<=mY r)=q:=⟨_,rfl⟩;obtain⟨q3,h3⟩:∃q,((v:Int)==ze r i)=q:=⟨_,rfl⟩;obtain⟨q4,h4⟩:∃q,β.all toB=q:=⟨_,rfl⟩;obtain⟨q5,h5⟩:∃q,α.all (λx=>bW ⟨x.toArray⟩)=q:=⟨_,rfl⟩;obtain⟨A,h6⟩:∃q,(c !=0)=q:=⟨_,rfl⟩;obtain⟨q8,h8⟩:∃q,(g==0)=q:=⟨_,rfl⟩;obtain⟨E,h9⟩:∃q,iG c=q:=⟨_,rfl⟩;obtain⟨ε,θ⟩:∃q,decide (0<g)=q:=⟨_,rfl⟩;obtain⟨ζ,ι⟩:∃q,decide (g<=15)=q:=⟨_,rfl⟩;have h7:(c==0)=!A:=by rw[<-h6];simp[bne]
 rw[h1,h2,h3,h4,h5,h6,h7,h8,h9,θ,ι] at γ;rw[γ];generalize hO:(if(q1 && q2 && q3 && q4) && q5 && (((r==108)==A) && (!n||r==109) && (q8||(r==103 && (ε && ζ)))) && (!A||E) then(0:Int) else 220)=ρ;have HO:=hid hO;clear hO;simp only[h4] at Q;simp only[h5] at P;have F:=o.2.1 k hk;have κ:w.cell? ⟨0,k*3,none⟩=some (.string ⟨(fw k).toArray⟩):=by rw[yO];exact F.1
 have σ:w.cell? ⟨0,k*3+1,none⟩=some (.int .i64 (f:Int)):=by rw[yO,<-hN];exact F.2.1
 have τ:w.cell? ⟨0,k*3+2,none⟩=some (.int .i32 r):=by rw[yO,<-z];exact F.2.2
 have hc:r=108\/r=118\/r=103\/r=109\/r=115\/r=116\/r=0:=by rw[<-z];unfold iK;split <;> simp
 have μ:=iw κ;simp only at μ;have b:=hid (aB (aB (Below.refl w.1.size w) (.cells #[.int .i64 (k:Int),.slice T p X,.int .i64 c,.slice Y v Z,.bool n,.int .i64 g] 34)) (.cells #[.string ⟨(fw k).toArray⟩,.int .i64 (f:Int),.int .i32 r] 118));have d:=hid ((Bx.new w #[.int .i64 (k:Int),.slice T p X,.int .i64 c,.slice Y v Z,.bool n,.int .i64 g] 34).alloc (.cells #[.string ⟨(fw k).toArray⟩,.int .i64 (f:Int),.int .i32 r] 118));have j:Hid (Bx ((w.alloc (.cells #[.int .i64 (k:Int),.slice T p X,.int .i64 c,.slice Y v Z,.bool n,.int .i64 g] 34)).alloc (.cells #[.string ⟨(fw k).toArray⟩,.int .i64 (f:Int),.int .i32 r] 118)) (w.1.size+1) #[.string ⟨(fw k).toArray⟩,.int .i64 (f:Int),.int .i32 r]):=hid (Bx.new1 ak);have HG:=hid o;have υ:(k:Int)<10:=by omega
 have ν:Hid (∀W,Below w.1.size w W->Calls Tryz.prog 64 #[.int .i64 c] W (λe w'=>(∃t:Bs,e= .returned (.tuple #[.string ⟨t.toArray⟩,.int .i64 (if E=true then 0 else 190)]))/\Below W.1.size W w')):=hid (λW m=>by rw[<-h9];exact MB c W (o.below m));clear o F y z hN R S η hn hv γ h4 h5 h9 h7;rcases hc with rfl|rfl|rfl|rfl|rfl|rfl|rfl
 case' inr.inr.inl=>cases ε <;> cases ζ
 all_goals
  simp only[mY,Int.reduceEq,ku,dG,or_self,or_true,or_false] at h2;simp only[ze,Int.reduceEq,ku,dG] at h3;go_enter Tryz.func33,Tryz.ntmps33
  cases q1
  case' true=>
   go_wp2_with fail;refine(Gq _ _).mono ?_;rintro e w1 ⟨rfl,a⟩
   replace d:=hid (d.q.keep a);replace j:=hid (j.q.keep a);replace b:=hid (b.q.bL a)
   have u:=d.q.1;have K:=j.q.1;clear a;simp only[mY,Int.reduceEq,ku,dG,or_self,or_true,or_false]
   cases q2
   case' true=>
    cases q3
    case' true=>
     go_wp2_with fail;refine(Q.q _ b.q).mono ?_;rintro e w2 ⟨rfl,a⟩
     replace d:=hid (d.q.keep a);replace j:=hid (j.q.keep a);replace b:=hid (b.q.bL a)
     clear u K;have u:=d.q.1;have K:=j.q.1;clear a
     cases q4
     case' true=>
      simp only[Bool.not_true];go_wp2_with fail;refine(P.q _ b.q).mono ?_;rintro e w3 ⟨rfl,a⟩
      replace d:=hid (d.q.keep a);replace j:=hid (j.q.keep a);replace b:=hid (b.q.bL a)
      clear u K;have u:=d.q.1;have K:=j.q.1;clear a
      cases q5
      case' true=>
       cases A <;> cases n <;> cases q8
 all_goals
  try simp only[Bool.not_false,Bool.not_true]
  go_wp2_with fail;refine(ν.q _ b.q).mono ?_;rintro e wL ⟨⟨tL,rfl⟩,a⟩
  replace d:=hid (d.q.keep a);replace b:=hid (b.q.bL a)
  try clear u
  have u:=d.q.1;clear a;have ho:=HO.q;simp at ho;subst ho
  first
  |generalize(if E=true then(0:Int) else 190)=ev
   go_wp2_with fail;go_ret;exact⟨rfl,b.q⟩
  |cases E
   all_goals
    simp only[xw,ku,dG];go_wp2_with fail;go_ret;exact⟨rfl,b.q⟩
theorem Dz {w:World}{B:Nat}{l:aW}{s:aK}(h:dZ w B l s)(b:s.names.length<=1000)(c:s.aM.length<=1000)(d:mF w):
  Calls Tryz.prog 33 #[dH l] w (bT (.int .i64 (if lg s=true then 0 else 220)) w):=by
 unfold lg;by_cases e:s.kind<0
 .rw[ay (by simp;omega)]
  have a:l.kind<0:=by rw[h.1.1];exact e
  have g:decide (l.kind<0)=true:=by simpa using a
  clear h e a b c d;go_enter Tryz.func33,Tryz.ntmps33;go_wp2_with fail;go_ret;exact⟨rfl,aB (Below.refl _ _) _⟩
 .by_cases f:10<=s.kind
  .rw[ay (by simp;omega)]
   have a:10<=l.kind:=by rw[h.1.1];exact f
   have g:decide (l.kind<0)=false:=by simp;omega
   have i:decide (10<=l.kind)=true:=by simpa using a
   clear h e f a b c d;go_enter Tryz.func33,Tryz.ntmps33;go_wp2_with fail;go_ret;exact⟨rfl,aB (Below.refl _ _) _⟩
  .obtain⟨k,a⟩:∃k:Nat,s.kind=(k:Int):=⟨s.kind.toNat,by omega⟩
   rw[show(decide (0<=s.kind) && decide (s.kind<10) && qB s.kind.toNat s)=qB k s by
    rw[a,gF];simp;intro;omega]
   exact Kg k ah h a b c d
end Yd
