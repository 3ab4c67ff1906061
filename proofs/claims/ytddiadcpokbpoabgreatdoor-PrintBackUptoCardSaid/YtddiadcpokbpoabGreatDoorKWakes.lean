import Derived.Test.YtddiadcpokbpoabGreatDoorKChG
import Derived.Test.YtddiadcpokbpoabGreatDoorKDown13
import Derived.Test.YtddiadcpokbpoabGreatDoorKREvent
set_option linter.all false
set_option maxRecDepth 200000
set_option maxHeartbeats 8000000
namespace Yd
open Option renaming none->L,some->O
open Go Go.RowKit Go.Proofs Tryz
open Go.IntKind renaming i64->H
open Go.Obj renaming cells->J
open Go.Value renaming string->G,int->I,slice->V
open Yd renaming hid->C
open _root_ renaming Int->M,List->U
theorem abr{p:Prop}(h:p:=by omega):p:=h
theorem abt{p:Prop}(h:p:=by have:=T.q;omega):p:=h
theorem abu{p:Prop}(h:p:=by cases e):p:=h
def wX (r lvl:M)(aN:U To)(bits:M)(first:Bool):U Bs:=if r=108 then [jQ lvl.toNat] else if r=118 then(aN.take 1).map fU else if r=103 then mY bits else if r=109/\first=true then [[45]] else []
def uM (r:M)(xs:U Bs)(a:U To)(j:Nat):U Bs:=if r=115 then((xs.zip a).take j).flatMap (λp=>[p.1,fU p.2]) else xs.take j
theorem Qd {k N c:Nat}{r lvl bits:M}{a:U Bs}{aN:U To}{first:Bool}(b:bY k=(N:M))(d:dD k=r)(g:a.length=N+c):
  lG ⟨k,a,lvl,aN,first,bits⟩=[bF k]++a.take N++wX r lvl aN bits first++uM r (a.drop N) aN c:=by
 have e:(a.drop N).take c=a.drop N:=gF (by rw[gI];omega);have f:((a.drop N).zip aN).take c=(a.drop N).zip aN:=gF (by rw[xD,gI];omega);unfold lG wX uM;simp only[jL,b,d,e,f,fA,fK,dw]
theorem Sz {r:M}{xs:U Bs}{a:U To}{j:Nat}{s:Bs}(b:r≠115)(c:xs[j]?=O s):uM r xs a (j+1)=uM r xs a j++[s]:=by
 unfold uM;rw[au b,au b,ig,c];rfl
theorem SA {xs:U Bs}{a:U To}{j:Nat}{s:Bs}{t:To}(b:xs[j]?=O s)(c:a[j]?=O t):uM 115 xs a (j+1)=uM 115 xs a j++[s]++[fU t]:=by
 unfold uM;have d:(xs.zip a)[j]?=O (s,t):=by rw[List.getElem?_zip_eq_some];exact⟨b,c⟩
 rw[av rfl,av rfl,ig,d,List.flatMap_append];simp
theorem Vi (b j:Nat)(a:b<=15)(c:j<4)(W:World):(Go.Op.shift .shr H (b:M) H (j:M)).run Tryz.prog W= .ok (I H ((b:M) / 2 ^ j)) W:=by
 rcases(by omega:j=0\/j=1\/j=2\/j=3) with rfl|rfl|rfl|rfl <;> simp[Op.shift,go_sem]
theorem SB (j:Nat)(a:j<4)(W:World):(Instr.index 131 (.agg #[G ⟨#[114,121,119]⟩,G ⟨#[109,114]⟩,G ⟨#[109,119]⟩,G ⟨#[119,102,114]⟩]) (I H (j:M))).run Tryz.prog W= .ok (G ⟨(jZ j).toArray⟩) W:=by
 rcases(by omega:j=0\/j=1\/j=2\/j=3) with rfl|rfl|rfl|rfl
 .exact Rx W
 .exact Ry W
 .exact Rz W
 .exact RA W
theorem Qe (r:M)(xs:U Bs)(a:U To):uM r xs a 0=[]:=by unfold uM;split <;> simp
theorem J8 (b:M)(j:Nat):nQ b (j+1)=nQ b j++if b / 2 ^ j % 2=1 then [jZ j] else []:=rfl
theorem ql {w j X:World}{f l:Array Value}{a:Option Addr}{n c:Nat}{m:U Bs}{s:Bs}{r:Array Oper}{rest:U Oper}{o:Oper}{z:Act}{Q:Exit->Act->World->Prop}(b:qR w j f l X a n c m)(t:w.1.size<j.1.size)(Y:n<=1000)
  (u:o.guard=L) (p q:Operand) (v:o.op= .call {callee:= .builtin .append,args:=#[p,q],argTypes:=#[22,22]}) (x:z.eval p= V a n c) (y:z.eval q= V (O ⟨X.1.size,0,L⟩) 1 1)
  (K:∀d e g,qR w j f l g d (n+1) e (m++[s])->wpList Tryz.prog r Q rest (z.put o.dst (V d (n+1) e)) g):wpList Tryz.prog r Q (o::rest) z (X.alloc (J #[G ⟨s.toArray⟩] 9)):=by
 obtain⟨i,A,E,F,P,R,S⟩:=l8;refine iP u p q 22 v i A 16 underlying22 E F P R S x (b.o.alloc _) (O ⟨X.1.size,0,L⟩) 1 1 (n+1) [s] y (Row.IY rfl s) (by rw[<-b.o.len]) ah (by unfold maxLen;omega) (by have:=b.s;simp;omega) ?_;intro d e g T W _;exact K d e g (b.snoc t T W)
theorem J9 {s:aJ}(a:eF s):1<=s.kind/\s.kind<=9:=by
 rcases a.2.2 with⟨e,_⟩|⟨e,_⟩|⟨e,_⟩|⟨e,_⟩|⟨e,_⟩|⟨e,_⟩|⟨e,_⟩|⟨e,_⟩|⟨e,_⟩ <;> omega
theorem Qf {w:World}{B:Nat}{l:bH}{s:aJ}(h:fV w B l s)(k:Nat)(j1:s.kind=(k:M))(h0:0<k)(hB:jP s=true)(hn:s.names.length<=1000)(hv:s.aN.length<=1000)(hg:jM w):
  Calls Tryz.prog 22 #[dU l] w (pz (G ⟨(lC s).toArray⟩) (I H 0) w):=by
 have σ:=aA (Below.refl w.1.size w) (J (bM l) 77);have j2:=C (yP (h.below σ) hn hv (hg.below σ));rw[hB] at j2;have j3:=C σ;have rn:=h.2.1.row ah;have rv:=h.2.2.row ah;obtain⟨⟨e1,e2,e3,e4,e5,e6⟩,_,_⟩:=h;obtain⟨lk,na,nn,nc,A,va,vn,vc,F,E⟩:=l;obtain⟨sk,p,x4,u,first,x5⟩:=s;simp only at e1 e2 e3 e4 e5 e6 j1 hn hv rn rv;subst e1 e2 e3 e4 j1;obtain⟨f,hN⟩:∃f:Nat,bY k=(f:M):=⟨(bY k).toNat,by unfold bY;split <;> rfl⟩;obtain⟨r,hr⟩:∃r,dD k=r:=⟨_,rfl⟩;have j4:1<=f/\f<=2:=by
  have:1<=bY k/\bY k<=2:=by
   obtain⟨m,rfl⟩:∃m,k=m+1:=⟨k - 1,abr⟩;unfold bY;split <;> first|decide|(rename_i h;cases h)
  omega
 have hc:r=108\/r=118\/r=103\/r=109\/r=115\/r=116\/r=0:=by rw[<-hr];unfold dD;split <;> simp
 simp only[jP,vv,aM,aV,jL,hN,hr] at hB;obtain⟨⟨_,x6⟩,⟨⟨⟨⟨⟨a1,a2⟩,a3⟩,a4⟩,a5⟩,⟨b1,b2⟩,b3⟩,c9⟩:=hB;have v4:k<10:=by omega
 obtain⟨c,Ψ⟩:∃c,p.length=f+c:=⟨p.length - f,abr⟩;have v5:iT r<=300:=by unfold iT;split <;> (try split) <;> decide
 have j5:c<=300:=by omega
 have τ:=C (Qd (lvl:=A) (aN:=u) (first:=F) (bits:=E) hN hr Ψ);have v6:Hid (∀x∈p,bG ⟨x.toArray⟩=true):=C (dZ.1 a5);have Ω:Hid (∀t∈u,jK t):=C (K5 a4);have q0:=C (FZ ⟨(k:M),p,A,u,F,E⟩ v6.q Ω.q);have j6:Hid (0<(lG ⟨(k:M),p,A,u,F,E⟩).length):=C (by unfold lG;simp);unfold lC;generalize lG ⟨(k:M),p,A,u,F,E⟩=WL at τ q0 j6 ⊢;have v7:=C rn;have υ:=C rv;obtain⟨_,nb,no,_,rfl,_⟩:=rn.at_ (i:=0) (by have:=rn.len;omega);have v8:nn=f+c:=by have:=rn.len;omega
 subst v8;obtain⟨ma,v9,_,q1,_⟩:=CO rn f ah;rw[Nat.add_sub_cancel_left] at v9 q1;have k2:=C q1;have x7:=rn.cap;have x8:((f:M)<=(nc:M)):=by omega
 have hf:=hg.2.1 k v4;have θ:w.cell? ⟨0,k*3,L⟩=O (G ⟨(bF k).toArray⟩):=by rw[rR];exact hf.1
 have φ:w.cell? ⟨0,k*3+1,L⟩=O (I H (f:M)):=by rw[rR,<-hN];exact hf.2.1
 have χ:w.cell? ⟨0,k*3+2,L⟩=O (.int .i32 r):=by rw[rR,<-hr];exact hf.2.2
 have k3:=dQ θ;simp only at k3;have HF:=C (And.intro θ (And.intro φ χ));have HG:=C hg;have x9:((k:M)==0)=false:=by simp;omega
 have b0:((k:M)!=0)=true:=by simp;omega
 have k4:=C (Bx.new w #[I H (k:M),V (O ⟨nb,no,L⟩) (f+c) nc,I H A,V va vn vc,.bool F,I H E] 77);have q2:=C j4;have HC:=C hc;have k5:=C b1;have k6:=C b3;have k7:=C c9;have j7:=C a3;have ψ:=C j5;have k8:=C Ψ;clear hg hf θ φ χ σ q1 rn rv hN hr j4 hc a1 a2 a3 a4 a5 b1 b2 b3 c9 v5 j5 Ψ h0 e5 e6 hn hv;go_enter Tryz.func22,Tryz.ntmps22;go_wp2_with fail;refine j2.q.mono ?_;rintro e q ⟨rfl,q3⟩;simp only[bR];have ε:=k4.q.keep q3;have ι:=C (j3.q.bQ q3);have y0:=C ε;have y1:=ε.1;have θ:=bq ι.q rfl HF.q.1;have φ:=bq ι.q rfl HF.q.2.1;have χ:=bq ι.q rfl HF.q.2.2;have j8:=ε.2.2;have q4:w.1.size<q.1.size:=j8;have y2:0<q.1.size:=by omega
 have b4:(k:M)<10:=by omega
 clear q3 ε;go_wp2_with fail;have HY:=C (Bx.new q #[G ⟨(bF k).toArray⟩,I H (f:M),.int .i32 r] 125);have κ:Hid (Own ((q.alloc (J #[G ⟨(bF k).toArray⟩,I H (f:M),.int .i32 r] 125)).drew.alloc (J #[G ⟨(bF k).toArray⟩] 9)) (q.1.size+1) 9 1 encStr (V (O ⟨q.1.size+1,0,L⟩) 1 1) [bF k]):=C (Own.strs (X:=(q.alloc (J #[G ⟨(bF k).toArray⟩,I H (f:M),.int .i32 r] 125)).drew) ak [bF k] (by simp[maxLen]));have q5:=C (aA (aA (Below.refl q.1.size q) (J #[G ⟨(bF k).toArray⟩,I H (f:M),.int .i32 r] 125)).drew (J #[G ⟨(bF k).toArray⟩] 9));have j9:=C (((v7.q.below ι.q rfl).below q5.q rfl).takeN (m:=f) (c':=nc) ah ah);have ω:Hid (q.1.size+1<=((q.alloc (J #[G ⟨(bF k).toArray⟩,I H (f:M),.int .i32 r] 125)).drew.alloc (J #[G ⟨(bF k).toArray⟩] 9)).1.size):=C ak;have Γ:=C (y0.q.alloc (J #[G ⟨(bF k).toArray⟩,I H (f:M),.int .i32 r] 125));refine aC 9 [(0,0),(1,0),(3,0),(4,0),(5,0),(6,0),(7,0),(2,2),(8,2),(9,1)] (λ_=>True) (λW'=>W'.cell? ⟨w.1.size,1,L⟩=O (V (O ⟨nb,no,L⟩) (f+c) nc)/\W'.cell? ⟨q.1.size,0,L⟩=O (G ⟨(bF k).toArray⟩)/\W'.cell? ⟨q.1.size,1,L⟩=O (I H (f:M))) ay ay (trivial) (⟨Γ.q.drew.1 1,HY.q.drew.1 0,HY.q.drew.1 1⟩) ?_;refine qC ?_;refine aF rfl rfl (λK hK=>?_);go_simp;refine hK _ _ ⟨trivial,(Γ.q.drew.alloc _).1 1,(HY.q.drew.alloc _).1 0,(HY.q.drew.alloc _).1 1⟩ ?_;clear hK K;refine aF rfl rfl (λK hK=>?_);obtain⟨i,z,hi,hz,z0,z1,z2⟩:=l8;refine kM _ _ 22 rfl i z 16 underlying22 hi hz z0 z1 z2 (v:= V (O ⟨q.1.size+1,0,L⟩) 1 1) rfl κ.q (O ⟨nb,no,L⟩) f nc (1+f) (p.take f) rfl j9.q rfl (by have:=q2.q;omega) (by have:=q2.q;unfold maxLen;omega) ω.q ?_;intro a P Y z3 β y3;have Δ:Bx Y w.1.size #[I H (k:M),V (O ⟨nb,no,L⟩) (f+c) nc,I H A,V va vn vc,.bool F,I H E]:=(Γ.q.drew.alloc _).grown β (κ.q.far' (.inl ah));have μ:Bx Y q.1.size #[G ⟨(bF k).toArray⟩,I H (f:M),.int .i32 r]:=(HY.q.drew.alloc _).grown β (κ.q.far' (.inl ah));refine hK _ _ ⟨trivial,Δ.1 1,μ.1 0,μ.1 1⟩ ?_;clear hK K;obtain⟨D0,q6⟩:∃D0:Array Value,D0=#[I H (k:M),V (O ⟨nb,no,L⟩) (f+c) nc,I H A,V va vn vc,.bool F,I H E]:=⟨_,rfl⟩;obtain⟨D1,q7⟩:∃D1:Array Value,D1=#[G ⟨(bF k).toArray⟩,I H (f:M),.int .i32 r]:=⟨_,rfl⟩;rw[<-q6] at Δ;rw[<-q7] at μ;have d:Hid (qR w q D0 D1 Y a (1+f) P ([bF k]++p.take f)):=C ⟨Δ,μ,z3,ι.q.trans ((below_app (((q5.q.mono (Nat.le_of_lt q4)))) κ.q ah (by have:=ω.q;omega) β)),by have:=β.size;have:=ω.q;omega⟩;clear z3 β y3 Δ μ hi hz z0 z1 z2;refine qC ?_;refine aO ?_;have Q:=C q6;have S:=C q7;have ζ:=C q4;generalize hq:1+f=n at d ⊢;have z4:n<=3:=by have:=q2.q;omega
 have T:=C z4;obtain⟨R,hR⟩:∃R,R=r:=⟨_,rfl⟩;have HR:=C hR;rw[show uM r (p.drop f) u c=uM R (p.drop f) u c by rw[hR]] at τ;clear hq z4 hR q6 q7 y1 θ φ χ HY κ q5 j9 ω Γ j8 q4 y2;have g:=d.q.x.1;have o:=d.q.y.1;rw[Q.q] at g;rw[S.q] at o;rcases HC.q with rfl|rfl|rfl|rfl|rfl|rfl|rfl
 case' inl=>
  obtain⟨lw,rfl,l1,l4⟩:∃lw:Nat,A=(lw:M)/\1<=lw/\lw<=4:=by
   have h1:=k5.q;have h2:=k7.q;simp[fO] at h1 h2;exact⟨A.toNat,abr,abr,abr⟩
  go_wp2_with fail;refine(FP lw l1 l4 _ (HG.q.below d.q.b)).mono ?_;rintro e w3 ⟨rfl,α⟩
  replace d:=C (d.q.call α)
  clear α;have g:=d.q.x.1;have o:=d.q.y.1;rw[Q.q] at g;rw[S.q] at o
  go_wp2_with (at_builtin;refine ql d.q ζ.q abt rfl _ _ rfl rfl rfl ?_;intro a P Y y;replace d:=C y;clear y;have g:=d.q.x.1;have o:=d.q.y.1;rw[Q.q] at g;rw[S.q] at o)
  rw[show([jQ lw]:U Bs)=wX 108 (lw:M) u E F from rfl] at d;have HM:Hid (n+1<=7):=C abt
 case' inr.inl=>
  obtain⟨Z,ν⟩:∃Z,u=[Z]:=List.length_eq_one_iff.1 (by have:=j7.q;simp[kI] at this;omega);obtain rfl:vn=1:=by have:=υ.q.len;rw[ν] at this;exact this.symm
  obtain⟨t1,vb,vo,γ,rfl,δ⟩:=υ.q.at_ (i:=0) aj;obtain rfl:Z=t1:=by rw[ν] at γ;simpa using γ
  have q8:=δ 0 _ rfl;have q9:=δ 1 _ rfl;simp only[Nat.zero_mul,dB] at q8 q9;have ξ:=bq d.q.b rfl q8;have Θ:=bq d.q.b rfl q9;obtain⟨k0,k9,k1⟩:=Pn (Ω.q Z (by rw[ν];simp));have y4:=C ν;clear δ q8 q9 γ ν;go_wp2_with fail;refine(FY Z k0 k9 k1 _).mono ?_;rintro e w3 ⟨rfl,α⟩
  replace d:=C (d.q.call α)
  clear α;have g:=d.q.x.1;have o:=d.q.y.1;rw[Q.q] at g;rw[S.q] at o
  go_wp2_with (at_builtin;refine ql d.q ζ.q abt rfl _ _ rfl rfl rfl ?_;intro a P Y y;replace d:=C y;clear y;have g:=d.q.x.1;have o:=d.q.y.1;rw[Q.q] at g;rw[S.q] at o)
  rw[show([fU Z]:U Bs)=wX 118 A u E F from by rw[y4.q];rfl] at d;have HM:Hid (n+1<=7):=C abt
 case' inr.inr.inl=>
  obtain⟨bt,rfl,z5⟩:∃b:Nat,E=(b:M)/\b<=15:=by have:=k6.q;simp at this;exact⟨E.toNat,abr,abr⟩
  have ο:=(HG.q.below d.q.b).2.2.1;have z6:=ο 0 aj;have β:=ο 1 aj;have y5:=ο 2 aj;have y6:=ο 3 aj;have y7:=dQ z6;clear ο;simp only[jZ] at z6 β y5 y6;simp only at y7;go_wp2_with fail
  go_loopw [6,67] (λv i wr=>∃(j:Nat)(a0:Option Addr)(c0 m:Nat),j<=4/\m<=3+j/\v= V a0 m c0/\i= I H j/\qR w q D0 D1 wr a0 m c0 ([bF k]++p.take f++nQ bt j)) (λ_ i _=>4 - (RowKit.intOf i).toNat)
  case atStart=>exact⟨0,a,P,n,bn _,T.q,rfl,rfl,by simpa[nQ] using d.q⟩
  case' round=>
   obtain⟨j,a,P,m,hj,hm,rfl,rfl,π⟩:=hrel
   replace d:=C π;clear π
   clear g o;have g:=d.q.x.1;have o:=d.q.y.1;rw[Q.q] at g;rw[S.q] at o;by_cases ρ:j<4
   .have z7:=RD bt j z5 ρ
    have η:=J8 bt j;have b5:=SB j ρ;have b6:=Vi bt j z5 ρ;have Ξ:=C hm;by_cases hp:(bt:M) / 2 ^ j % 2=1
    .rw[av hp] at η;rw[bT hp] at z7
     have j0:=C η;clear hp η
     go_wp2_with (at_builtin;refine ql d.q ζ.q (by have:=Ξ.q;omega) rfl _ _ rfl rfl rfl ?_;intro a P Y y;replace d:=C y;clear y;have g:=d.q.x.1;have o:=d.q.y.1;rw[Q.q] at g;rw[S.q] at o)
     go_roundw
     case rel=>exact⟨j+1,a,P,_,by omega,by omega,rfl,by go_num,by rw[j0.q,<-dw];exact d.q⟩
     case measure=>simp[RowKit.intOf];omega
    .rw[au hp,dm] at η;rw[bE hp] at z7
     have j0:=C η;clear hp η;go_wp2_with fail;go_roundw
     case rel=>exact⟨j+1,a,P,_,by omega,by omega,rfl,by go_num,by rw[j0.q];exact d.q⟩
     case measure=>simp[RowKit.intOf];omega
   have z8:j=4:=by omega
   rw[z8,show nQ bt 4=wX 103 A u bt F from rfl] at d;have HM:Hid (m<=7):=C ah;clear z8 hm;go_wp2_with fail
 case' inr.inr.inr.inl=>
  cases F
  case' true=>
   go_wp2_with (at_builtin;refine ql d.q ζ.q abt rfl _ _ rfl rfl rfl ?_;intro a P Y y;replace d:=C y;clear y;have g:=d.q.x.1;have o:=d.q.y.1;rw[Q.q] at g;rw[S.q] at o)
   rw[show([[45]]:U Bs)=wX 109 A u E true from rfl] at d;have HM:Hid (n+1<=7):=C abt
  case' false=>
   go_wp2_with fail;rw[show [bF k]++p.take f=[bF k]++p.take f++wX 109 A u E false from(dm _).symm] at d;have HM:Hid (n<=7):=C abt
 case' inr.inr.inr.inr.inl=>
  go_wp2_with fail;rw[show [bF k]++p.take f=[bF k]++p.take f++wX 115 A u E F from(dm _).symm] at d;have HM:Hid (n<=7):=C abt
 case' inr.inr.inr.inr.inr.inl=>
  go_wp2_with fail;rw[show [bF k]++p.take f=[bF k]++p.take f++wX 116 A u E F from(dm _).symm] at d;have HM:Hid (n<=7):=C abt
 case' inr.inr.inr.inr.inr.inr=>
  go_wp2_with fail;rw[show [bF k]++p.take f=[bF k]++p.take f++wX 0 A u E F from(dm _).symm] at d;have HM:Hid (n<=7):=C abt
 all_goals
  generalize [bF k]++p.take f++wX _ _ _ _ _=W at d τ
  go_loopw [6,91] (λv i wr=>∃(j:Nat)(a0:Option Addr)(c0 m:Nat),j<=c/\m<=7+2*j/\v= V a0 m c0/\i= I H j/\qR w q D0 D1 wr a0 m c0 (W++uM R (p.drop f) u j)) (λ_ i _=>c - (RowKit.intOf i).toNat)
  case atStart=>exact⟨0,a,P,_,bn _,by have:=HM.q;omega,rfl,rfl,by rw[Qe,dm];exact d.q⟩
  case round=>
   obtain⟨j,a,P,m,hj,hm,rfl,rfl,π⟩:=hrel
   replace d:=C π;clear π g o
   have g:=d.q.x.1;have o:=d.q.y.1;rw[Q.q] at g;rw[S.q] at o;have Ξ:=C hm;by_cases ρ:j<c
   .obtain⟨s,b',o',hx,rfl,z9⟩:=k2.q.at_ ρ
    have ε:=bq d.q.b rfl (z9 0 _ rfl);rw[gJ,dB] at ε;have v0:=C hx;clear z9 hx;have v1:=ψ.q
    try
     have y8:vn=c:=by have h3:=j7.q;have h4:=υ.q.len;have h5:=k8.q;simp only[kI,Int.reduceEq,fG,bR] at h3;omega
     subst y8;obtain⟨Z,vb,vo,γ,rfl,δ⟩:=υ.q.at_ (i:=j) ah;have ξ:=δ 0 _ rfl;have Θ:=δ 1 _ rfl;rw[dB] at ξ;obtain⟨k0,k9,k1⟩:=Pn (Ω.q Z (dA γ));have y9:=C γ;have v2:=C (And.intro ξ Θ);clear δ γ ξ Θ
    go_wp2_with (at_builtin;refine ql d.q ζ.q (by have:=Ξ.q;have:=ψ.q;omega) rfl _ _ rfl rfl rfl ?_;intro a P Y y;replace d:=C y;clear y;(try(have ξ:=bq d.q.b rfl v2.q.1;have Θ:=bq d.q.b rfl v2.q.2));have g:=d.q.x.1;have o:=d.q.y.1;rw[Q.q] at g;rw[S.q] at o)
    try
     refine(FY Z k0 k9 k1 _).mono ?_;rintro e w3 ⟨rfl,α⟩
     replace d:=C (d.q.call α)
     clear α;have g:=d.q.x.1;have o:=d.q.y.1;rw[Q.q] at g;rw[S.q] at o
     go_wp2_with (at_builtin;refine ql d.q ζ.q (by have:=Ξ.q;have:=ψ.q;omega) rfl _ _ rfl rfl rfl ?_;intro a P Y y;replace d:=C y;clear y;have g:=d.q.x.1;have o:=d.q.y.1;rw[Q.q] at g;rw[S.q] at o)
    go_roundw
    case rel=>exact⟨j+1,a,P,_,by omega,by omega,rfl,by go_num,by
     first
     |(rw[Sz (by rw[HR.q];decide) v0.q,<-dw];exact d.q)
     |(have:=d.q;rw[HR.q] at this ⊢;rw[SA v0.q y9.q,<-dw,<-dw];exact this)⟩
    case measure=>simp[RowKit.intOf];omega
   .obtain rfl:j=c:=by omega
    go_wp2_with fail;have Φ:=d.q;rw[<-τ.q] at Φ;have x0:=CZ _ q0.q;have x1:=Φ.o.len;have x2:=j6.q;have v1:=ψ.q;have HJ:=C (Rv _ _ _ _ _ (Φ.o.row ah) ah q0.q ah);have b7:¬(9223372036854775807<(Lib.join WL [32]).length+1):=by omega
    clear x0 x1 Φ x2 v1;refine HJ.q.mono ?_;rintro e w9 ⟨rfl,v3⟩;have x3:=C (d.q.b.trans (v3.mono d.q.b.size));clear v3 HJ;go_wp2_with fail
    go_ret2
    exact⟨bJ (λs=>Ending.returned (.tuple #[.string s,I H 0])) (L9 _ _),x3.q⟩
theorem SC {w:World}{B:Nat}{l:bH}{s:aJ}(b:fV w B l s)(a:eF s)(c:jM w):Calls Tryz.prog 22 #[dU l] w (pz (G ⟨(lC s).toArray⟩) (I H 0) w):=by
 have d:=J9 a;exact Qf b s.kind.toNat ah ah (Cy a) a.len.1 a.len.2 c
attribute [local go_sem] Oper.semAt_some
def NK (ls:U aJ)(w:World)(e:Ending)(a:World):Prop:=
 e= .returned (if(jf ls).length<=131072 then .tuple #[G ⟨(jf ls).toArray⟩,I H 0] else .tuple #[G ⟨#[]⟩,I H 3])/\Below w.1.size w a
structure Dm (h:HC)(ls:U aJ)(w w1:World)(l:Nat)(X:World):Prop where
 b:Below w.1.size w X
 x1:Bx X (w.1.size+1) #[G ⟨#[]⟩]
 x2:Bx X (w.1.size+2) #[I H 0]
 la:oN h (w1.1.size+1) X
 bl:qE w1.1.size l (jf ls) X
 le:(jf ls).length<=131072
 sz:l<=X.1.size
theorem Dm.same {m:HC}{ls:U aJ}{w b X Y:World}{l:Nat}(s:Dm m ls w b l X)(a:Same (λi=>i<l\/l+2<=i) X Y)(c:w.1.size+3<=b.1.size)(d:b.1.size+8<=l):Dm m ls w b l Y:=
 ⟨a.below s.b (λi e=> .inl ah) s.b.size,a.bx s.x1 (.inl ah),a.bx s.x2 (.inl ah),s.la.keep (λi _ f=>a.block i (.inl ah) (by have:=s.la.lt;omega)),s.bl.same a ah,s.le,bI s.sz a.size⟩
theorem oN.kept {m:HC}{b:Nat}{X Y:World}(s:oN m b X)(a:∀i o,b<=i/\i<b+7->(∀c g,o≠Obj.cells c 5 g)->X.1[i]?=O o->Y.1[i]?=O o):∀i,b<=i->i<b+7->Y.1[i]?=X.1[i]?:=by
 intro i d f;obtain⟨j,rfl⟩:∃j,i=b+j:=⟨i - b,abr⟩;have l:j=0\/j=1\/j=2\/j=3\/j=4\/j=5\/j=6:=by omega
 rcases l with rfl|rfl|rfl|rfl|rfl|rfl|rfl
 .exact(a _ _ ⟨d,f⟩ (λ_ _ e=>abu) s.o0).trans s.o0.symm
 .exact(a _ _ ⟨d,f⟩ (λ_ _ e=>abu) s.o1).trans s.o1.symm
 .exact(a _ _ ⟨d,f⟩ (λ_ _ e=>abu) s.o2).trans s.o2.symm
 .exact(a _ _ ⟨d,f⟩ (λ_ _ e=>abu) s.o3).trans s.o3.symm
 .exact(a _ _ ⟨d,f⟩ (λ_ _ e=>abu) s.o4).trans s.o4.symm
 .exact(a _ _ ⟨d,f⟩ (λ_ _ e=>abu) s.o5).trans s.o5.symm
 .exact(a _ _ ⟨d,f⟩ (λ_ _ e=>abu) s.o6).trans s.o6.symm
structure Np (w w1:World)(l:Nat)(X:World):Prop where
 b:Below w.1.size w X
 x1:Bx X (w.1.size+1) #[G ⟨#[]⟩]
 x2:Bx X (w.1.size+2) #[I H 3]
theorem Np.same {w a X Y:World}{l:Nat}(s:Np w a l X)(b:Same (λi=>i<l\/l+2<=i) X Y)(c:w.1.size+3<=a.1.size)(d:a.1.size+8<=l):Np w a l Y:=
 ⟨b.below s.b (λi e=> .inl ah) s.b.size,b.bx s.x1 (.inl ah),b.bx s.x2 (.inl ah)⟩
section
variable (h:HC)(nl:Nat->U Bs)(es:U EvC)(ds:U aG)(ms:U aK)(qs:U Wa)(scan:EvC->U Sn)(dn:aG->U M)(mn:aK->U M)(w:World)(hg:jM w)
  (hn:∀i,i<4->Row w 1 encStr (h.nm i).a (h.nm i).n (h.nm i).c (nl i)) (hd:Deep w h es ds ms qs scan dn mn)
include hg hn hd
theorem Ao (hc:jd h nl es ds ms qs scan dn mn=true)(Ψ:∀x∈fD nl es ds ms qs scan dn mn,eF x):Calls Tryz.prog 6 #[bC h] w (NK (fD nl es ds ms qs scan dn mn) w):=by
 have Ω:gB h nl es ds ms qs scan dn mn=true:=by simp only[jd,aM] at hc;exact hc.1.1
 have γ:=aA (aA (aA (Below.refl w.1.size w) (J (aD h) 28)) (J #[G ⟨#[]⟩] 9)) (J #[I H 0] 31);have HC:=C (oZ h nl es ds ms qs scan dn mn _ (hg.1.below γ) (λi f=>(hn i f).below γ rfl) (hd.below γ rfl));rw[hc] at HC;have HB:=C γ;have q0:=C Ω;have HN:=C hn;have HD:=C hd;have HG:=C hg;have v6:=C Ψ;have q1:=C (Bx.alloc (Bx.alloc (Bx.new w (aD h) 28) (J #[G ⟨#[]⟩] 9)) (J #[I H 0] 31));have q2:=C (Bx.alloc (Bx.new1 (b:=w.1.size+1) (cs:=#[G ⟨#[]⟩]) (X:=w.alloc (J (aD h) 28)) (T:=9) ak) (J #[I H 0] 31));have q3:Hid (Bx (((w.alloc (J (aD h) 28)).alloc (J #[G ⟨#[]⟩] 9)).alloc (J #[I H 0] 31)) (w.1.size+2) #[I H 0]):=C (Bx.new1 ak);have v7:(((w.alloc (J (aD h) 28)).alloc (J #[G ⟨#[]⟩] 9)).alloc (J #[I H 0] 31)).1.size=w.1.size+3:=by simp
 clear hg hn hd hc γ Ω Ψ;refine(callsIn_wide (n:=3)).1 ?_;refine callsIn_of_wp_marks func6 rfl trivial ?_ rfl;simp only[ntmps6,nK,dK,gY,Nat.reduceAdd,Nat.reduceSub,pE,pF,mJ,mK,fK,fA];refine wpIn_wide.2 ?_;go_wp2_with fail;refine HC.q.mono ?_;rintro e d ⟨rfl,α⟩;have τ:=C (HB.q.bQ α);have υ:=q1.q.keep α;have q4:=q2.q.keep α;have q5:=q3.q.keep α;have q6:w.1.size+3<=d.1.size:=by have:=α.size;omega
 have q7:=C (⟨υ,q4,q5⟩:_/\_/\_);have x3:=υ.1;have x4:w.1.size<d.1.size:=by omega
 clear α υ q4 q5 q1 q2 q3 HC v7;rw[show rP true=0 from rfl]
 go_wp2_with (go_at_call 21;refine(Hq _ _).mono ?_;rintro e W ⟨rfl,φ,θ,q8⟩)
 have χ:W.1[d.1.size]?=O (J #[.pointer L,V L 0 0] 69 (0,0)):=(θ.block _ ak).trans (World.alloc_heap_new d _);have q9:qE d.1.size W.1.size (jf []) W:=
  ⟨.inl ⟨aB _,V L 0 0,χ,World.ownsRowF_nil _ _ _ _,λe=>abu⟩,λp v hb=>by rw[χ] at hb;cases hb;exact⟨λe=>(by cases e),λe=>(by cases e)⟩⟩
 have l:W.1.size=d.1.size+8:=by rw[φ];simp
 have ψ:Below w.1.size w W:=(τ.q.alloc τ.q.size _).trans (θ.mono (by have:=τ.q.size;simp;omega));have ω:Below d.1.size d W:=(aA (Below.refl _ _) _).trans (θ.mono ak);have y:Dm h [] w d W.1.size W:=⟨ψ,q7.q.2.1.keep ω,q7.q.2.2.keep ω,by have:=q8;simpa using this,q9,bn _,aB _⟩;have j0:=C y;have HL:=C (Fu (HD.q) q0.q);clear χ q9 ω θ q8 y;refine wpIn_wide.1 (M4 (n:=3) (gf:=53) (lb:=#[.pointer (O ⟨d.1.size+1,0,L⟩),.pointer (O ⟨d.1.size+1+3,0,L⟩),.pointer (O ⟨d.1.size+1+4,0,L⟩),.pointer (O ⟨d.1.size+1+5,0,L⟩),.pointer (O ⟨d.1.size+1+6,0,L⟩)]) (by simp[go_sem]) Kk
  (kY:=uU (W.1.size+2)) (k:=0) (D:=λi=>i<w.1.size\/(d.1.size+1<=i/\i<d.1.size+1+7)) (xs:=fD nl es ds ms qs scan dn mn)
  (λW' hW v8=>by
   have:=DT h nl es ds ms qs scan dn mn (d.1.size+1) (λi=>i<w.1.size\/(d.1.size+1<=i/\i<d.1.size+1+7)) w W' HN.q HD.q q0.q
    (j0.q.la.keep (λi _ P=>hW.block i ah)) (λa v hc=>(bq hW rfl (bq ψ rfl hc))) (bI ψ.size hW.size) (λi f=> .inl f) (λi z P=> .inr ⟨z,P⟩)
   rwa[v8] at this) ah
  (λx v9 X hx=>by obtain⟨_,rfl,_⟩:=hx;rfl)
  (λj X=>Dm h j w d W.1.size X)
  (λc _ X=>c= .ret/\131072<(jf (fD nl es ds ms qs scan dn mn)).length/\Np w d W.1.size X)
  (λj X Y hh k=>hh.same (k.mono (λi f _=>abr)) ah ah)
  (λc _ X Y hh k=>⟨hh.1,hh.2.1,hh.2.2.same (k.mono (λi f _=>abr)) ah ah⟩)
  j0.q ?round ?done ?stop)
 case round=>
  rintro j x v9 X y Γ ⟨lc,rfl,j1⟩ x5 m;have u:=C y;have δ:=C j1;have β:=C l;clear y j1 φ;have j2:x∈fD nl es ds ms qs scan dn mn:=by obtain⟨t,e⟩:=Γ;rw[<-e];simp
  have j3:=C (v6.q x j2);have k0:=C Γ;clear j2 Γ l
  gi_wp2
  refine⟨aA (Below.refl _ _) _,λE hk j4 j5=>?_⟩;have l:=β.q;have j6:Dm h j w d W.1.size E:=by
   have z:Dm h j w d W.1.size (X.alloc (J (bM lc) 77)):=u.q.same (Same.of_below (B:=X.1.size) (aA (Below.refl _ _) _) (λi _ f=>f)) ah ah;exact z.same (hk.mono (λi f _=>abr)) ah ah
  have ι:=hk.bx (Bx.new1 (b:=X.1.size) rfl) ah;have j7:fV E (W.1.size+2) lc x:=⟨δ.q.1,((δ.q.2.1.alloc _).same hk (λg hg=>by have:=(δ.q.2.1.lt g hg).1;omega)),((δ.q.2.2.alloc _).same hk (λg hg=>by have:=(δ.q.2.2.lt g hg).1;omega))⟩;have q:=C j6;have k1:=C (SC j7 j3.q (HG.q.below q.q.b));have x6:=ι.1;have κ:=C j4;have Δ:=C j5;clear hk j6 ι j7 j4 j5 l
  gi_wp2
  refine⟨trivial,by simp[Fence.wide],(CallsIn.inRound _ (callsIn_wide.2 k1.q)).mono ?_⟩;rintro e X3 ⟨rfl,Θ⟩;have μ:=C Θ;have ν:=q.q.bl.call Θ;have j8:(Lib.byteCells (jf j)).length+(⟨(lC x).toArray⟩:ByteArray).size<=140737488355328:=by
   have z:=Py j3.q;have P:=q.q.le;rw[Lib.byteCells_length];simp only[ByteArray.size,nK];omega
  have HW:=C (N9 d.1.size d.1.size (Lib.byteCells (jf j)) ⟨(lC x).toArray⟩ X3 ν.is j8 (Nat.le_of_lt ν.lt));have k2:=C ν;clear Θ ν j8
  gi_wp2
  refine⟨trivial,λh=>(by cases h),(CallsIn.inRound _ (callsIn_wide.2 HW.q)).mono ?_⟩;rintro e X4 ⟨rfl,ξ,j9,z0⟩;have z1:jf (j++[x])=jf j++lC x:=by simp[jf]
  have z2:Lib.byteCells (jf j)++Lib.strCells ⟨(lC x).toArray⟩=Lib.byteCells (jf (j++[x])):=by rw[z1];simp[Lib.byteCells,Lib.strCells]
  rw[z2] at ξ;have k3:=C (Tryz.Builder_Len_f d.1.size d.1.size _ X4 (.inr ξ));have k4:=C ξ;have k5:=C j9;have z3:=C z0;clear ξ j9 z0 z1 z2
  gi_wp2
  refine⟨trivial,λh=>(by cases h),(CallsIn.inRound _ (callsIn_wide.2 k3.q)).mono ?_⟩;rintro e r ⟨rfl,rfl⟩;rw[Lib.byteCells_length];have l:=β.q;have ο:∀i o,E.1[i]?=O o->i≠d.1.size->(∀c fz,o≠ J c 5 fz)->r.1[i]?=O o:=λi o z P h3=>
   z3.q i o ((μ.q.block i (dS.1 z).1).trans z) (by simpa using P) h3
  have s:Same (λi=>i<d.1.size) E r:=(Same.of_below (A:=λi=>i<d.1.size) ((μ.q.mono (by have:=q.q.sz;omega)).trans k5.q) (λi f _=>f));have Ξ:∀i,d.1.size+1<=i->i<d.1.size+1+7->r.1[i]?=E.1[i]?:=q.q.la.kept (λi o z P h3=>ο i o h3 ah P);have z4:r.1[W.1.size]?=E.1[W.1.size]?:=(ο _ _ κ.q ah (λ_ _ e=>abu)).trans κ.q.symm;have z5:r.1[W.1.size+1]?=E.1[W.1.size+1]?:=by obtain⟨o,F⟩:=Δ.q;exact(ο _ _ F ah (λ_ _ e=>abu)).trans F.symm
  have z6:qE d.1.size W.1.size (jf (j++[x])) r:=by
   obtain⟨o,F⟩:=Δ.q;exact k2.q.wrote (.inr k4.q) z3.q ah ((μ.q.block _ (dS.1 κ.q).1).trans κ.q) ((μ.q.block _ (dS.1 F).1).trans F) (λ_ _ e=>abu) (λ_ _ e=>abu)
  have z7:=s.size;have z8:Below w.1.size w r:=s.below q.q.b (λi f=>abr) q.q.b.size;have ε:=s.bx q.q.x1 ah;have ζ:=s.bx q.q.x2 ah;have z9:bA (λi=>i<w.1.size\/(d.1.size+1<=i/\i<d.1.size+1+7)) E r:=⟨s.size,λi f hl=>f.elim (λf=>s.block i ah hl) (λf=>Ξ i f.1 f.2)⟩;have HE:=C (⟨⟨z4,z5⟩,z9,z8,ε,ζ,q.q.la.keep Ξ,z6,bI q.q.sz z7⟩:(_/\_)/\_/\_/\_/\_/\_/\_/\_);have k6:=ε.1;have k7:=ε.2.1;have k8:=ε.2.2;have k9:=ζ.1;have y0:=ζ.2.1;have ι:=ζ.2.2;clear ο s Ξ z4 z5 z6 z7 z8 z9 l ε ζ;by_cases v0:(jf (j++[x])).length<=131072
  .have y1:¬(((jf (j++[x])).length:M)>131072):=by omega
   gi_wp2
   obtain⟨⟨Q,K⟩,e3,e4,e5,e6,e7,e8,e9⟩:=HE.q;exact⟨⟨Q,K⟩,e3,e4,e5,e6,e7,e8,v0,e9⟩
  .have y1:(((jf (j++[x])).length:M)>131072):=by omega
   gi_wp2
   obtain⟨⟨Q,K⟩,e3,e4,e5,e6,_,_,e9⟩:=HE.q;have l:=β.q;have x7:=q.q.b.size;have η:Same (λi=>i≠w.1.size+1/\i≠w.1.size+2) r ((r.setCell ⟨w.1.size+1,0,L⟩ (G ⟨#[]⟩)).setCell ⟨w.1.size+2,0,L⟩ (I H 3)):=Same.setTail (Same.setTail (Same.refl' _) ak) ak;have x8:W.1.size+2<=r.1.size:=by obtain⟨o,F⟩:=Δ.q;rw[<-K] at F;have:=(dS.1 F).1;omega
   have π:131072<(jf (fD nl es ds ms qs scan dn mn)).length:=by
    obtain⟨t,e⟩:=k0.q;rw[<-e];simp only[jf,List.flatMap_append,bO] at v0 ⊢;omega
   exact⟨⟨(η.block _ ah ah).trans Q,(η.block _ ah ah).trans K⟩,
    e3.trans ⟨η.size,λi f hl=>η.block i (by rcases f with f|f <;> omega) hl⟩,rfl,π,
    ⟨η.below e4 (λi f=>abr) e4.size,(Same.setTail (A:=λi=>i≠w.1.size+2) (Same.refl' _) ak).bx (Bx.set1 e5 _) ak,Bx.set1 ((Same.setTail (A:=λi=>i≠w.1.size+1) (Same.refl' _) ak).bx e6 ak) _⟩⟩
 case done=>
  intro X y Φ;have u:=C y;clear y;simp only[Exit.inBlock,Exit.then];have s:=Tryz.Builder_String_any_k d.1.size d.1.size (jf (fD nl es ds ms qs scan dn mn)) X u.q.bl.is (by have:=u.q.sz;omega);have y2:=C s;have β:=C l;clear s l φ
  go_wp2_with (go_at_call 25;refine y2.q.mono ?_;rintro e Y ⟨rfl,y3,v1,v2⟩;have l:=β.q;have ρ:=Same.of_below (A:=λi=>i<d.1.size) v1 (λi f _=>f);have R:=ρ.bx u.q.x1 ah;have S:=ρ.bx u.q.x2 ah;have v3:=v2 _ _ Φ (by simp;omega) (λ_ _ e=>abu);have y4:=C (ρ.below u.q.b (λi f=>abr) u.q.b.size);clear y3 v1 v2 ρ;have y5:=C v3;clear v3;have k6:=R.1;have k7:=R.2.1;have k8:=R.2.2;have k9:=S.1;have y0:=S.2.1;have ι:=S.2.2;have y6:=C R;have y7:=C S;clear R S l)
  have l:=β.q;have q6:Bx ((Y.setCell ⟨w.1.size+1,0,L⟩ (G ⟨(jf (fD nl es ds ms qs scan dn mn)).toArray⟩)).setCell ⟨w.1.size+2,0,L⟩ (I H 0)) (w.1.size+1) #[G ⟨(jf (fD nl es ds ms qs scan dn mn)).toArray⟩]:=
   (Same.setTail (A:=λi=>i≠w.1.size+2) (Same.refl' _) ak).bx (Bx.set1 y6.q _) ak
  have y8:Bx ((Y.setCell ⟨w.1.size+1,0,L⟩ (G ⟨(jf (fD nl es ds ms qs scan dn mn)).toArray⟩)).setCell ⟨w.1.size+2,0,L⟩ (I H 0)) (w.1.size+2) #[I H 0]:=
   Bx.set1 ((Same.setTail (A:=λi=>i≠w.1.size+1) (Same.refl' _) ak).bx y7.q ak) _
  have y9:((Y.setCell ⟨w.1.size+1,0,L⟩ (G ⟨(jf (fD nl es ds ms qs scan dn mn)).toArray⟩)).setCell ⟨w.1.size+2,0,L⟩ (I H 0)).1[W.1.size]?=O (.deferred (O [])):=
   (Below.heap_setCell _ _ _ _ (by simp;omega)).trans ((Below.heap_setCell _ _ _ _ (by simp;omega)).trans y5.q)
  have v4:Below w.1.size w ((Y.setCell ⟨w.1.size+1,0,L⟩ (G ⟨(jf (fD nl es ds ms qs scan dn mn)).toArray⟩)).setCell ⟨w.1.size+2,0,L⟩ (I H 0)):=
   (y4.q.setCell (p:=⟨w.1.size+1,0,L⟩) ak _).setCell (p:=⟨w.1.size+2,0,L⟩) ak _
  have Z:∀X',Same (λi=>i≠W.1.size) X' (X'.putObj W.1.size (.deferred L)):=λX'=>Same.putObj X' _ ak
  have x0:=(Z _).bx q6 ah;have x1:=(Z _).bx y8 ah;have Q:=x0.1 0;have K:=x1.1 0;refine⟨by simp,.inl ⟨_,_,rfl,run_takeDeferred y9,?_⟩⟩;refine⟨.tuple #[G ⟨(jf (fD nl es ds ms qs scan dn mn)).toArray⟩,I H 0],by simp[results,results6,go_sem,Q,K],?_,(Z _).below v4 (λi f=>abr) v4.size⟩;rw[av u.q.le]
 case stop=>
  rintro c j X _ ⟨rfl,π,v5⟩ Φ;have σ:=C v5;have x2:=C π;clear v5 π;refine wpIn_wide.2 ?_;go_wp2_with fail;have Z:Same (λi=>i≠W.1.size) X (X.putObj W.1.size (.deferred L)):=Same.putObj X _ ak;have R:=Z.bx σ.q.x1 ah;have S:=Z.bx σ.q.x2 ah;have Q:=R.1 0;have K:=S.1 0;refine⟨by simp,.inl ⟨_,_,rfl,run_takeDeferred Φ,?_⟩⟩;refine⟨.tuple #[G ⟨#[]⟩,I H 3],by simp[results,results6,go_sem,Q,K],?_,Z.below σ.q.b (λi f=>abr) σ.q.b.size⟩;rw[au (by have:=x2.q;omega)]
end
end Yd
namespace Yd
open Go Go.RowKit Go.Proofs
attribute [local go_sem] Oper.semAt_some
def Ad:Nat->List Bs
 |0=>[[84,48]]
 |1=>[[115]]
 |2=>[[120]]
 |_=>[]
def oV (k:Int):List EvC:=[⟨1,0,0,3,0,⟨0,0⟩,0,none,0,0⟩,⟨2,0,0,0,0,⟨0,k⟩,0,none,0,0⟩,⟨3,0,0,0,0,⟨0,1⟩,0,none,0,0⟩,⟨5,0,0,0,0,⟨0,0⟩,0,none,0,0⟩]
structure iK (B:Nat)(X:World)(h:HC)(k:Int)(ds:List aG):Prop where
 n:∀i,i<4->Own X B 9 1 encStr (h.nm i).v (Ad i)
 e:Own X B 49 9 dx h.e.v (oV k)
 d:Own X B 57 2 dV h.d.v ds
 dt:∃a:Option Addr,ds=[⟨0,a,1,1⟩]/\Own X B 3 1 aS (.slice a 1 1) [0]
 m:h.m=⟨none,0,0⟩
 q:Own X B 63 2 fE h.w.v [⟨0,2⟩]
theorem iK.same {B:Nat}{X Y:World}{m:HC}{k:Int}{i:List aG}(s:iK B X m k i){b:Nat}(l:b<B)(c:Same (λd=>d≠b) X Y):iK B Y m k i:=by
 obtain⟨a,j,e⟩:=s.dt;exact⟨λd f=>(s.n d f).same c (λg hg=>by have:=((s.n d f).lt g hg).1;omega),s.e.same c (λg hg=>by have:=(s.e.lt g hg).1;omega),s.d.same c (λg hg=>by have:=(s.d.lt g hg).1;omega),
  ⟨a,j,e.same c (λg hg=>by have:=(e.lt g hg).1;omega)⟩,s.m,s.q.same c (λg hg=>by have:=(s.q.lt g hg).1;omega)⟩
theorem iK.below {B:Nat}{X Y:World}{m:HC}{k:Int}{i:List aG}(s:iK B X m k i)(b:Below X.1.size X Y):iK B Y m k i:=by
 obtain⟨a,c,d⟩:=s.dt;exact⟨λe f=>(s.n e f).below b rfl,s.e.below b rfl,s.d.below b rfl,⟨a,c,d.below b rfl⟩,s.m,s.q.below b rfl⟩
theorem Own.Dn {α:Type}{r:α->List Value}{k:Nat}[hc:Cells r k]{X:World}{B g n:Nat}{T:TypeId}{cs:Array Value}{xs:List α}(a:X.1.size=g)(b:B<=g)(c:cs.toList=xs.flatMap r)(d:xs.length=n)(e:n<=maxLen):
  Own (X.alloc (.cells cs T)) B T k r (.slice (some ⟨g,0,none⟩) n n) xs:=by
 subst a d;exact Own.new (hc:=hc) X B T cs xs b c e
theorem yc (w:World):Calls Tryz.prog 12 #[] w λc a=>∃b d,c= .returned (bC b)/\iK (w.1.size+1) a b 1 d/\Below w.1.size w a:=by
 go_enter Tryz.func12,Tryz.ntmps12;go_wp2_with fail;refine bodyPost_ret (v:=bC ⟨⟨some ⟨w.1.size+1+1,0,none⟩,1,1⟩,⟨some ⟨w.1.size+1+1+1,0,none⟩,1,1⟩,⟨some ⟨w.1.size+1+1+1+1,0,none⟩,1,1⟩,⟨none,0,0⟩,⟨some ⟨w.1.size+1+1+1+1+1,0,none⟩,4,4⟩,
  ⟨some ⟨w.1.size+1+1+1+1+1+1+1,0,none⟩,1,1⟩,⟨none,0,0⟩,⟨some ⟨w.1.size+1+1+1+1+1+1+1+1,0,none⟩,1,1⟩⟩) ?_ rfl ⟨_,[⟨0,some ⟨w.1.size+1+1+1+1+1+1,0,none⟩,1,1⟩],rfl,⟨λi e=>?_,?_,?_,⟨_,rfl,?_⟩,rfl,?_⟩,?_⟩
 .simp[results,Tryz.results12,go_sem]
 .match i,e with
  |0,_=>
   show Own _ _ _ _ _ (.slice (some ⟨w.1.size+1+1,0,none⟩) 1 1) [[84,48]];exact Own.alloc (Own.alloc (Own.alloc (Own.alloc (Own.alloc (Own.alloc (Own.Dn (hc:=eX) ak ah (by simp[encStr]) rfl (by simp[maxLen])) _) _) _) _) _) _
  |1,_=>
   show Own _ _ _ _ _ (.slice (some ⟨w.1.size+1+1+1,0,none⟩) 1 1) [[115]];exact Own.alloc (Own.alloc (Own.alloc (Own.alloc (Own.alloc (Own.Dn (hc:=eX) ak ah (by simp[encStr]) rfl (by simp[maxLen])) _) _) _) _) _
  |2,_=>
   show Own _ _ _ _ _ (.slice (some ⟨w.1.size+1+1+1+1,0,none⟩) 1 1) [[120]];exact Own.alloc (Own.alloc (Own.alloc (Own.alloc (Own.Dn (hc:=eX) ak ah (by simp[encStr]) rfl (by simp[maxLen])) _) _) _) _
  |3,_=>exact Own.jv _ _ _ _ _
 .exact Own.alloc (Own.alloc (Own.alloc (Own.Dn (hc:=jI) ak ah (by simp[dx,oV]) rfl (by simp[maxLen,oV])) _) _) _
 .exact Own.alloc (Own.Dn (hc:=kr) ak ah (by simp[dV]) rfl (by simp[maxLen])) _
 .exact Own.alloc (Own.alloc (Own.Dn (hc:=eP) ak ah (by simp[aS]) rfl (by simp[maxLen])) _) _
 .exact Own.Dn (hc:=lQ) ak ah (by simp[fE]) rfl (by simp[maxLen])
 .exact aA (aA (aA (aA (aA (aA (aA (aA (aA (Below.refl _ _) _) _) _) _) _) _) _) _) _
end Yd
namespace Yd
open Go Go.RowKit Go.Proofs
open Tryz renaming prog->C
attribute [local go_sem] Oper.semAt_some
def X6:Bs:=[98,101,103,105,110,32,84,48,32,115,32,50,46,57,57,10,119,114,105,116,101,32,84,48,32,120,10,114,101,97,100,32,84,48,32,120,32,84,48,46,49,10,99,111,109,109,105,116,32,84,48,10,111,114,100,101,114,32,120,32,84,48,10,119,97,110,116,32,115,32,109,114,10]
theorem smT (a:Option Addr):jf (fD Ad (oV 1) [⟨0,a,1,1⟩] [] [⟨0,2⟩] (λ_=>[]) (λ_=>[0]) (λ_=>[]))=X6:=ay
theorem smC (a b c d e f g i x:Option Addr)(j l m n o p q r:Nat):jd ⟨⟨a,1,j⟩,⟨b,1,l⟩,⟨c,1,m⟩,⟨d,0,n⟩,⟨e,4,o⟩,⟨f,1,p⟩,⟨g,0,q⟩,⟨i,1,r⟩⟩ Ad (oV 1) [⟨0,x,1,1⟩] [] [⟨0,2⟩] (λ_=>[]) (λ_=>[0]) (λ_=>[])=true:=ay
theorem aaW (a:Option Addr):∀x∈fD Ad (oV 1) [⟨0,a,1,1⟩] [] [⟨0,2⟩] (λ_=>[]) (λ_=>[0]) (λ_=>[]),eF x:=λx b=>by
 have c:(fD Ad (oV 1) [⟨0,a,1,1⟩] [] [⟨0,2⟩] (λ_=>[]) (λ_=>[0]) (λ_=>[])).all (λs=>jP s && s.kind !=0)=true:=ay;have h:=dZ.1 c x b;simp only[aM,lF] at h;exact(wO h.1).resolve_left h.2
theorem aaX:l7 [] (oV 1)=true:=by decide
theorem aaY:l7 [] (oV 2)=false:=by decide
section
variable {B:Nat}{X:World}{h:HC}{k:Int}{ds:List aG}
theorem iK.rows (s:iK B X h k ds)(i:Nat)(a:i<4):Row X 1 encStr (h.nm i).a (h.nm i).n (h.nm i).c (Ad i):=
 (s.n i a).row (hc:=eX) (by match i,a with|0,_=>decide|1,_=>decide|2,_=>decide|3,_=>decide)
theorem iK.deep (s:iK B X h k ds):Deep X h (oV k) ds [] [⟨0,2⟩] (λ_=>[]) (λ_=>[0]) (λ_=>[]):=by
 obtain⟨a,c,d⟩:=s.dt;refine⟨s.e.row (hc:=jI) (by simp[oV]),s.d.row (hc:=kr) (by simp[c]),?_,s.q.row (hc:=lQ) aj,λx b=>?_,λx b=>?_,λx b=>by cases b⟩
 .rw[s.m];exact Row.jv
 .simp only[oV,dO,List.mem_nil_iff,or_false] at b
  rcases b with rfl|rfl|rfl|rfl <;> exact Row.jv
 .rw[c,bX] at b
  subst b;exact d.row (hc:=eP) aj
theorem iK.check (s:iK B X h 1 ds):jd h Ad (oV 1) ds [] [⟨0,2⟩] (λ_=>[]) (λ_=>[0]) (λ_=>[])=true:=by
 obtain⟨a,d,_⟩:=s.dt;have e:=(s.rows 0 aj).len;have f:=(s.rows 1 aj).len;have g:=(s.rows 2 aj).len;have i:=(s.rows 3 aj).len;have j:=s.deep.1.len;have b:=s.deep.2.1.len;have l:=s.deep.2.2.2.1.len;have c:=s.m;obtain⟨⟨m,n,o⟩,⟨p,q,r⟩,⟨t,u,v⟩,⟨x,y,z⟩,⟨A,E,F⟩,⟨K,P,Q⟩,⟨R,S,T⟩,⟨W,Y,Z⟩⟩:=h;rw[d] at b;simp only[HC.nm,Ad,oV,dK,gY] at e f g i j b l;injection c with _ c _;subst e f g i j b c l;rw[d];exact smC _ _ _ _ _ _ _ _ _ _ _ _ _ _ _ _ _
theorem iK.text (s:iK B X h 1 ds)(c:jM X):Calls C 6 #[bC h] X (pz (.string ⟨#[98,101,103,105,110,32,84,48,32,115,32,50,46,57,57,10,119,114,105,116,101,32,84,48,32,120,10,114,101,97,100,32,84,48,32,120,32,84,48,46,49,10,99,111,109,109,105,116,32,84,48,10,111,114,100,101,114,32,120,32,84,48,10,119,97,110,116,32,115,32,109,114,10]⟩) (.int .i64 0) X):=by
 refine(Ao h Ad (oV 1) ds [] [⟨0,2⟩] (λ_=>[]) (λ_=>[0]) (λ_=>[]) X c (λi d=>s.rows i d) s.deep s.check (by obtain⟨a,b,_⟩:=s.dt;rw[b];exact aaW a)).mono ?_;rintro e Y ⟨rfl,f⟩;obtain⟨a,b,_⟩:=s.dt;rw[b,smT,av aj];exact⟨rfl,f⟩
theorem iK.lines (s:iK B X h 1 ds)(b:jM X):Calls C 13 #[bC h] X (λe Y=>(∃a c,e= .returned (.tuple #[.slice a 6 c,.int .i64 0]))/\Below X.1.size X Y):=by
 refine(LH h Ad (oV 1) ds [] [⟨0,2⟩] (λ_=>[]) (λ_=>[0]) (λ_=>[]) X b.1 (λi d=>s.rows i d) s.deep s.check).mono ?_;rintro e Y ⟨a,c,f,rfl,_,g,j⟩;obtain⟨x,l,_⟩:=s.dt;have:f.length=6:=by rw[g.1,l];rfl
 exact⟨⟨a,c,by rw[this]⟩,j⟩
theorem iK.SF (s:iK B X h 1 ds)(a:jM X):Calls C 11 #[bC h] X (cO (.bool true) X):=by
 have:=rO h Ad (oV 1) ds [] [⟨0,2⟩] (λ_=>[]) (λ_=>[0]) (λ_=>[]) X a.1 (λi b=>s.rows i b) s.deep;rw[s.check,aaX] at this;exact this
theorem iK.SG (s:iK B X h 2 ds)(a:jM X):Calls C 11 #[bC h] X (cO (.bool false) X):=by
 have:=rO h Ad (oV 2) ds [] [⟨0,2⟩] (λ_=>[]) (λ_=>[0]) (λ_=>[]) X a.1 (λi b=>s.rows i b) s.deep;rw[aaY,Bool.and_false] at this;exact this
end
theorem NP (w:World)(K:jM w):Calls C 4 #[] w (cO (.bool true) w):=by
 have l:=hid K;clear K;go_enter Tryz.func4,Tryz.ntmps4;go_wp2_with fail;refine(yc w).mono ?_;rintro e w1 ⟨h1,d1,rfl,P,s⟩;have HT:=hid (P.text (l.q.below s));have Q:=hid s;clear P s;go_wp2_with fail;refine HT.q.mono ?_;rintro e w2 ⟨rfl,R⟩;have S:=hid (Q.q.bQ R);clear R;go_wp2_with fail;refine(yc w2).mono ?_;rintro e w3 ⟨h3,d3,rfl,T,W⟩;have t:=hid (S.q.bQ W);have HL:=hid (T.lines (l.q.below t.q));clear T W;go_wp2_with fail;refine HL.q.mono ?_;rintro e Y ⟨⟨la,lc,rfl⟩,α⟩;have u:=hid (t.q.bQ α);clear α;go_wp2_with fail;refine(yc Y).mono ?_;rintro e d ⟨b,d5,rfl,c,β⟩;have Δ:=hid c;have γ:=hid (u.q.bQ β);obtain⟨g,Θ,ha,m,_,_,ξ,δ⟩:=c.e.open_ (hc:=jI) (n:=b.e.n) (by have:=c.deep.1.len;simp[oV] at this;omega);have v:=c.deep.1.len;have ε:d.cell? ⟨g,15,none⟩=some (.int .i64 1):=(m.1 15).trans (δ 1 _ 6 _ rfl rfl);have ο:=bU (.cells (aD b) 28) ε;have z:=m.alloc (.cells (aD b) 28);have π:=z.2.1;have ρ:=z.2.2;have ζ:Hid (∀Z,Z=(d.alloc (.cells (aD b) 28)).setCell ⟨g,15,none⟩ (.int .i64 2)->iK (Y.1.size+1) Z b 2 d5/\Below w.1.size w Z/\Bx Z d.1.size (aD b)):=hid (by
  rintro Z rfl;have A:=c.e.alloc (.cells (aD b) 28);have σ:b.e.v.ownBlock=some g:=by simp only[Sl.v,ha];rfl
  have o:=A.tag σ;have f:Same (λi=>i≠g) (d.alloc (.cells (aD b) 28)) ((d.alloc (.cells (aD b) 28)).setCell ⟨g,15,none⟩ (.int .i64 2)):=(Same.refl' _).setTail (λhn=>hn rfl);have e:b.e.v= .slice (some ⟨g,0,none⟩) b.e.n b.e.c:=by simp only[Sl.v,ha]
  obtain⟨a,q1,q2⟩:=c.dt;have Ξ:g<d.1.size:=m.2.2;refine⟨⟨λi hi=>((c.n i hi).alloc _).aQ o aj f,?_,(c.d.alloc _).aQ o aj f,⟨a,q1,(q2.alloc _).aQ o aj f⟩,c.m,(c.q.alloc _).aQ o aj f⟩,?_,f.bx (Bx.new1 rfl) ah⟩
  .rw[e] at A ⊢
   exact A.put (i:=1) (j:=6) (x:=⟨2,0,0,0,0,⟨0,1⟩,0,none,0,0⟩) (y:=⟨2,0,0,0,0,⟨0,2⟩,0,none,0,0⟩) rfl aj rfl
  .exact f.below (aA γ.q _) (λi hi=>by have:=u.q.size;omega) (by have:=γ.q.size;simp;omega))
 obtain⟨t5,s5,o5,p5,⟨ea,en,ec⟩,Φ,Ψ,Ω⟩:=b;simp only at ha v;subst ha;simp only[oV,dK,gY] at v;subst v;clear m z δ c β ε ξ;go_wp2_with fail;obtain⟨η,θ,ι⟩:=ζ.q _ rfl;have τ:=hid η;have κ:=hid θ;have υ:=hid ι;clear η θ ι ο π ρ ζ;refine(yc _).mono ?_;rintro e w6 ⟨h6,d6,rfl,μ,p⟩;have E:=hid (κ.q.bQ p);have φ:=hid (μ.SF (l.q.below E.q));have χ:=hid (τ.q.below p);have ψ:=hid (υ.q.keep p);clear μ p;go_wp2_with fail;refine φ.q.mono ?_;rintro e w7 ⟨rfl,q⟩;have F:=hid (E.q.bQ q);have ω:=hid ((χ.q.below q).SG (l.q.below F.q));have r:=ψ.q.keep q;have q0:=r.1;have q3:=r.2.1;have q4:=r.2.2;clear q r;go_wp2_with fail;refine ω.q.mono ?_;rintro e w8 ⟨rfl,ν⟩;have Γ:=hid (F.q.bQ ν);clear ν;go_wp2_with fail;go_ret;exact⟨rfl,Γ.q⟩
end Yd
