import Derived.Test.YtiheclemhihpeaaGreatDoorZLaid13
import Derived.Test.YtiheclemhihpeaaGreatDoorZRLs13
import Derived.Test.YtiheclemhihpeaaGreatDoorZD10
set_option linter.all false
set_option maxRecDepth 200000
set_option maxHeartbeats 8000000
namespace Yd
open Go Go.RowKit Go.Proofs Tryz
open Below renaming refl->J
open Go.Obj renaming cells->H
open Tryz renaming prog->O
open Yd renaming hid->G
open _root_ renaming List->I,Int->M,Option->U
theorem aa2{p:Prop}(h:p:=by simp[results,results11,results12,go_sem,E]):p:=h
theorem aa3{p:Prop}(h:p:=by cases a):p:=h
theorem C9 (s:Bs)(w:World)(Y:wm w):Calls O 11 #[.string ⟨s.toArray⟩] w (CY s w)/\Calls O 12 #[.string ⟨s.toArray⟩] w (CY s w):=by
 have α:=G (aB (J w.1.size w) (H (aI gL) 41));have χ:=G (Bx.new w (aI gL) 41);have β:=G (λ(a:U Addr)(c:Nat)(k:I aW)(ls:I aK)(B0:Nat)(W:World) hr d hb (hW:Below w.1.size w W)=>LY a c k ls B0 W hr d hb (Y.2.below hW));have γ:=G (λ(a:U Addr)(c:Nat)(k:I aW)(ls:I aK)(B0:Nat)(W:World) hr d hb (_:Below w.1.size w W)=>XC Pg a c k ls B0 W hr d hb);have δ:=G (Ab s _ (Y.1.below α.q));clear Y
 constructor
 case' left=>have HL:=δ;have θ:=β;clear δ β γ;go_enter Tryz.func11,Tryz.ntmps11
 case' right=>have HL:=G (DW s (w.alloc (H (aI gL) 41)));have θ:=γ;clear δ β γ;go_enter Tryz.func12,Tryz.ntmps12
 all_goals
  go_wp2_with fail;refine HL.q.mono ?_;rintro e w1 ⟨P,Q⟩;have y:=G (α.q.bL P);have l:=G (χ.q.keep P);have Ω:=G P;clear HL P
  cases d:iP s with
  |error x=>
   obtain⟨n,m⟩:=x;rw[d] at Q;obtain rfl:=Q;have ι:m≠0:=Kh d;have ψ:(m !=0)=true:=by simp[ι]
   have A:Hid (oD s= .error (n,m)):=G (by unfold oD;rw[d]);have ε:=l.q.1;have ζ:=l.q.2.1;have η:=l.q.2.2;clear d ι;go_wp2_with fail;obtain⟨Z,g,B,t⟩:=AU (h':=gL) l.q;rw[<-g];have E:=B.1;clear g;refine bodyPost_ret (v:= .tuple #[fB gL,.int .i64 n,.int .i64 m]) aa2 rfl ⟨t.below y.q (λi u=>by omega) y.q.size,?_⟩;rw[A.q]
  |ok r=>
   rw[d] at Q;obtain⟨a,c,k,pa,pc,rfl,oL,aL,oP⟩:=Q;have κ:=CX d;have ω:k.length=r.length:=by rw[aL.1,bC]
   have Γ:=G (θ.q a c k (r.map Prod.fst) _ w1 (oL.row (hc:=Cg) ah) aL κ.2 y.q);have HP:=G (oP.row (hc:=fA) (by rw[bC];omega));have μ:=G d;have Δ:Hid (∀b o,pa=some ⟨b,o,none⟩->b≠w.1.size):=G (λb o e q=>by have:=Vh oP e;rw[World.size_alloc] at this;omega);clear oL aL oP κ ω d;go_wp2_with fail;refine Γ.q.mono ?_;rintro e w2 ⟨R,S⟩;have ν:=G (y.q.bL R);have ξ:=G (l.q.keep R);have Θ:=G R;clear R
   cases j:qD iD 0 (r.map Prod.fst) with
   |error x=>
    obtain⟨i,n⟩:=x;rw[j] at S;obtain rfl:=S;obtain⟨u,ο⟩:=RF j;rw[bC] at u;obtain⟨px,T,po,π,rfl,ρ⟩:=HP.q.at_ u;have X:=ρ 0 _ rfl;simp only[bK,gP] at X;have σ:=Θ.q.cell (p:=⟨T,po+i,none⟩) (iw X)▸X;have ψ:(n !=0)=true:=by simp[ο]
    have q0:(i:M)<(r.length:M):=by omega
    have A:Hid (oD s= .error (px,n)):=G (by unfold oD;rw[μ.q];simp only[j,List.getD,π,Option.getD_some]);have f:=G (ξ.q.alloc (H (aI gL) 41));have F:=G (aB ν.q (H (aI gL) 41));have τ:=G (aZ (aB (J w2.1.size w2) (H (aI gL) 41)) rfl σ);have Ξ:Hid (T≠w.1.size):=G (Δ.q T po rfl);clear j ο π ρ X σ;go_wp2_with fail;refine aD 99 [(0,0),(1,0),(2,0),(3,0),(4,0),(5,0),(6,2),(7,0),(8,0)] (λ_=>True) (λW'=>W'.cell? ⟨T,po+i,none⟩=some (.int .i64 px)) au au (trivial) (τ.q) ?_;refine qC ?_;refine aG rfl rfl (λK hK=>?_);go_simp;have ε:=f.q.1;have ζ:=f.q.2.1;have η:=f.q.2.2;go_simp;refine hK _ _ ⟨trivial,(let⟨_,e,_,q⟩:=AU (h':=gL) f.q;by rw[<-e];exact q.cell τ.q Ξ.q)⟩ ?_;clear hK K ε ζ η;refine qC ?_;refine aH ?_;go_wp2_with fail;obtain⟨Z,g,B,t⟩:=AU (h':=gL) f.q;rw[<-g];have E:=B.drew.1;clear g;refine bodyPost_ret (v:= .tuple #[fB gL,.int .i64 px,.int .i64 n]) aa2 rfl ⟨(t.below F.q (λi u=>by omega) F.q.size).drew,?_⟩;rw[A.q]
   |ok z=>
    rw[j] at S;obtain⟨h,es,ds,ms,Φ,dn,mn,rfl,υ⟩:=S;have A:Hid (oD s= .ok z):=G (by unfold oD;rw[μ.q];simp only[j]);have f:=G (ξ.q.alloc (H (aI h) 41));have F:=G (aB ν.q (H (aI h) 41));have Ψ:=G (υ.below (aB (J _ _) (H (aI h) 41)));have φ:Hid (w.1.size<w1.1.size):=G l.q.2.2;have ε:=f.q.1;have ζ:=f.q.2.1;have η:=f.q.2.2;clear j υ;go_wp2_with fail;obtain⟨Z,g,B,t⟩:=AU (h':=h) f.q;rw[<-g];have E:=B.1;clear g;refine bodyPost_ret (v:= .tuple #[fB h,.int .i64 (s.length:M),.int .i64 0]) aa2 rfl ⟨t.below F.q (λi u=>by omega) F.q.size,?_⟩;rw[A.q];exact⟨h,es,ds,ms,Φ,dn,mn,rfl,(Ψ.q.same (t.mono (λi u _=>by have:=φ.q;omega))).mono (by have:=φ.q;omega)⟩
theorem xG (s:Bs)(w:World)(a:wm w):Calls O 11 #[.string ⟨s.toArray⟩] w (CY s w):=(C9 s w a).1
def Qi:Bool:=match oD [98,101,103,105,110,32,116,32,115,32,49,10,119,114,105,116,101,32,116,32,120,10,99,111,109,109,105,116,32,116,10,111,114,100,101,114,32,120,32,116,10] with
 | .ok z=>decide ((fG z).E.length=3) && decide (((fG z).E.map (λe=>(e.v.t,e.v.k)))[1]?=some ((0:M),(1:M))) && decide ((fG z).D.length=1) && decide ((fG z).nl 2=[[120]])
 | .error _=>false
theorem WS:Qi=true:=au
theorem WT:oD [98,101,103,105,110,32,116,32,115,32,49,10,98,101,120]= .error (14,220):=au
theorem WU:∃z,oD [98,101,103,105,110,32,116,32,115,32,49,10,119,114,105,116,101,32,116,32,120,10,99,111,109,109,105,116,32,116,10,111,114,100,101,114,32,120,32,116,10]= .ok z/\(fG z).E.length=3/\(∃e,(fG z).E[1]?=some e/\e.v=⟨0,1⟩)/\(fG z).D.length=1/\(fG z).nl 2=[[120]]:=by
 have h:=WS;unfold Qi at h
 split at h
 .rename_i z f
  simp only[bD,bO] at h;obtain⟨⟨⟨g,c⟩,i⟩,j⟩:=h;refine⟨z,f,g,?_,i,j⟩;rw[kY] at c
  cases d:(fG z).E[1]? with
  |none=>rw[d] at c;cases c
  |some e=>
   rw[d] at c;obtain⟨_,_,_,_,_,⟨a,b⟩,_,_,_,_⟩:=e;simp at c;exact⟨_,rfl,by rw[c.1,c.2]⟩
 .cases h
variable{s:Bs}
theorem Ph {z:Cont}(h:oD s= .ok z):∃r,iP s= .ok r/\qD iD 0 (r.map Prod.fst)= .ok z:=by
 unfold oD at h
 split at h
 .cases h
 .rename_i r a
  split at h
  .rename_i y b
   injection h with h;exact⟨r,a,by rw[b,h]⟩
  .cases h
theorem uI.IX {z:Cont}(h:oD s= .ok z):uI (fG z):=let⟨_,_,a⟩:=Ph h;TR a
theorem R4 (w:World)(u:wm w):Calls O 4 #[] w (bT (.bool true) w):=by
 have v:=G u;clear u;go_enter Tryz.func4,ntmps4;go_wp2_with fail;refine(xG [98,101,103,105,110,32,116,32,115,32,49,10,119,114,105,116,101,32,116,32,120,10,99,111,109,109,105,116,32,116,10,111,114,100,101,114,32,120,32,116,10] w v.q).mono ?_;rintro e l ⟨m,A⟩;obtain⟨z,n,B,⟨ev,a,hv⟩,E,F⟩:=WU;rw[n] at A;obtain⟨h,K,ds,ms,ο,dn,mn,rfl,P⟩:=A;have Q:=G (uI.IX n);have c:=G P;have π:=G m;have δ:=G (Bx.new l (aI h) 41);have p:=G (aB m (H (aI h) 41));clear P m n;go_wp2_with fail;refine(xG [98,101,103,105,110,32,116,32,115,32,49,10,98,101,120] _ (v.q.below p.q)).mono ?_;rintro e d ⟨f,R⟩;rw[WT] at R;obtain rfl:=R;have ε:=G (aB (p.q.bL f) (H (aI gL) 41));have q:Below l.1.size l (d.alloc (H (aI gL) 41)):=aB ((aB (J _ _) _).trans (f.mono ak)) _;have r:=G ((δ.q.keep f).alloc (H (aI gL) 41));have j:=(c.q.below q).deep Q.q;have s:=(c.q.below q).names Q.q 2 ah;rw[F] at s;have S:h.e.n=3:=by rw[<-j.1.len,<-B,<-c.q.be,bC]
 have T:h.d.n=1:=by rw[<-j.2.1.len,<-E,<-c.q.bd,bC]
 have ζ:∃x,K[1]?=some x/\x.v=⟨0,1⟩:=by
  rw[<-c.q.be,kY] at a
  cases Y:K[1]? with
  |none=>rw[Y] at a;cases a
  |some x=>
   rw[Y] at a;injection a with a;exact⟨x,rfl,by rw[<-hv,<-a];rfl⟩
 obtain⟨x,Z,α⟩:=ζ;obtain⟨y,b,o,k,β,t⟩:=j.1.at_ (i:=1) ah;rw[Z] at k;injection k with k;subst k;have η:=t 5 (.int .i64 x.v.t) rfl;have θ:=t 6 (.int .i64 x.v.k) rfl;rw[α] at η θ;have ι:Hid (∀W,Below (d.alloc (H (aI gL) 41)).1.size (d.alloc (H (aI gL) 41)) W->∀g,Row W 1 encStr (some ⟨g,0,none⟩) 1 1 [[120]]->Calls O 14 #[h.o.v,.slice (some ⟨g,0,none⟩) 1 1] W (bT (.bool true) W)):=G (λW hW g hr=>by
  have:=VZ _ _ _ _ _ _ _ _ W (s.below hW rfl) hr;rw[bG (rfl:[[120]]=([[120]]:I Bs))] at this;exact this)
 clear j s a B E F t Z α f q;have κ:=r.q.1 4;rw[show(aI h)[4]?=some (.slice h.e.a h.e.n h.e.c) from rfl,S,β] at κ;have μ:=r.q.1 5;rw[show(aI h)[5]?=some (.slice h.d.a h.d.n h.d.c) from rfl,T] at μ;have ν:=r.q.1 2;rw[show(aI h)[2]?=some (.slice h.o.a h.o.n h.o.c) from rfl] at ν;clear S T β;go_wp2_with fail;refine(ι.q _ (aB (J _ _) _) _ (Row.XD (X:=d.alloc (H (aI gL) 41)) ak [120])).mono ?_;rintro e w3 ⟨rfl,ξ⟩;go_wp2_with fail;go_ret;have γ:=aB ε.q (H #[.string ⟨#[120]⟩] 9);exact⟨rfl,γ.trans (ξ.mono γ.size)⟩
theorem WV (X:World)(B:Nat):gU X B gL iD [] [] [] (λ_=>[]) (λ_=>[]) (λ_=>[]):=
 ⟨Own.eH _ _ _ _ _,Own.eH _ _ _ _ _,Own.eH _ _ _ _ _,Own.eH _ _ _ _ _,λi b=>by
  rcases(by omega:i=0\/i=1\/i=2\/i=3) with rfl|rfl|rfl|rfl <;> exact Own.eH _ _ _ _ _,λx a=>aa3,λx a=>aa3,λx a=>aa3,rfl,rfl,rfl,rfl,rfl,rfl⟩
theorem X9:uI iD:=⟨aS _,aS _,aS _,aS _,λ_ _=>aS _,λb a=>aa3,λb a=>aa3,λb a=>aa3⟩
variable{X:World}
theorem gU.Qj {B:Nat}{h:HC}{c:Cont}{E:I EvC}{j:I aO}{k:I aP}{a:EvC->I Sn}{b:aO->I M}{d:aP->I M}(o:gU X B h c E j k a b d)(z:uI c):AJ X h c E j k a b d:=⟨o.deep z,o.names z,o.be,o.bd,o.bm,o.ss,o.ts,o.us⟩
def Pj (s:Bs):M × M × I aK × I M:=match iP s with
 | .ok r=>((s.length:M),0,r.map Prod.fst,r.map Prod.snd)
 | .error (n,m)=>(n,m,[],[])
theorem BS.all {w:World}{e:Ending}{N u:M}{g:I aK}{P:I M}(h:BS s w e X)(q:Pj s=(N,u,g,P)):
  Below w.1.size w X/\(∀s∈g,s.names.length<=1000000/\s.aM.length<=1000000)/\∃(a:U Addr)(n c:Nat)(b:I aW)(d:U Addr)(p f:Nat),e= .returned (.tuple #[.slice a n c,.slice d p f,.int .i64 N,.int .i64 u])/\Row X 6 mZ a n c b/\oF X 0 b g/\Row X 1 aQ d p f P:=by
 obtain⟨v,h⟩:=h;refine⟨v,?_⟩;unfold Pj at q
 cases j:iP s with
 |ok r=>
  rw[j] at h q;obtain⟨a,c,b,d,f,rfl,y,k,z⟩:=h;have A:=CX j;have F:b.length=r.length:=by rw[k.1,bC]
  cases q
  exact⟨λs o=>by have:=A.2 s o;omega,a,_,c,b,d,_,f,rfl,y.row (hc:=Cg) ah,⟨k.1,λi l t=>let⟨s,B,E⟩:=k.2 i l t;⟨s,B,E.mono (aS _)⟩⟩,z.row (hc:=fA) (by rw[bC];omega)⟩
 |error x=>
  obtain⟨n,m⟩:=x;rw[j] at h q;obtain rfl:=h
  cases q
  exact⟨λs o=>(by cases o),none,0,0,[],none,0,0,rfl,(Own.eH X 0 34 6 mZ).row (hc:=Cg) (aS _),⟨rfl,λi l t=>(by cases t)⟩,(Own.eH X 0 3 1 aQ).row (hc:=fA) (aS _)⟩
def Pk (s:Bs):M × M × Cont:=match oD s with
 | .ok z=>((s.length:M),0,fG z)
 | .error (n,m)=>(n,m,iD)
theorem CY.all {w:World}{e:Ending}{N n:M}{C:Cont}(h:CY s w e X)(q:Pk s=(N,n,C)):
  Below w.1.size w X/\uI C/\∃h a b c,∃d:EvC->I Sn,∃f:aO->I M,∃g:aP->I M,e= .returned (.tuple #[fB h,.int .i64 N,.int .i64 n])/\gU X 0 h C a b c d f g:=by
 obtain⟨j,h⟩:=h;refine⟨j,?_⟩;unfold Pk at q
 cases i:oD s with
 |ok z=>
  rw[i] at h q;obtain⟨h,a,b,c,d,f,g,rfl,k⟩:=h
  cases q
  exact⟨uI.IX i,h,a,b,c,d,f,g,rfl,k.mono (aS _)⟩
 |error x=>
  obtain⟨l,m⟩:=x;rw[i] at h q;obtain rfl:=h
  cases q
  exact⟨X9,gL,[],[],[],_,_,_,rfl,WV _ _⟩
theorem JD (a:U Addr)(n c:Nat)(xs:I Bs)(w:World)(p:Row w 1 encStr a n c xs)(E:wm w):
  Calls O 3 #[.slice a n c] w (bT (.bool true) w):=by
 have hn:=p.le;have HR:=G p;have j:=G E;clear p E;go_enter Tryz.func3,Tryz.ntmps3;go_wp2_with fail;refine(R4 w j.q).mono ?_;rintro e w1 ⟨rfl,F⟩;have Φ:=G F;clear F;go_wp2_with fail
 go_loopw [23] (λi X=>∃k:Nat,k<=n/\i= .int .i64 (k:M)/\Below w.1.size w X) (λi _=>n - (RowKit.intOf i).toNat)
 case atStart=>exact⟨0,aS _,rfl,Φ.q⟩
 case round=>
  obtain⟨k,hk,rfl,r⟩:=hrel;have l:=G r;by_cases Ψ:k<n
  .obtain⟨x,b,o,hx,rfl,K⟩:=HR.q.at_ Ψ
   have Q:=aZ r rfl (K 0 _ rfl);simp only[gP,bK] at Q;clear K hx r;by_cases R:k=5
   .subst R
    go_wp2_with fail;go_ret;exact⟨rfl,l.q⟩
   .have j5:((k:M)==5)=false:=by simp;omega
    clear R;go_wp2_with fail;refine(WR x wr).mono ?_;rintro e w2 ⟨rfl,S⟩;obtain⟨t,T⟩:∃t,t=Kq x:=⟨_,rfl⟩;rw[<-T];have s:=G (l.q.bL S);clear T S Q;obtain⟨⟨W,Y,L,P⟩,Z⟩:∃q,Pj t=q:=⟨_,rfl⟩;obtain⟨⟨N2,M2,C⟩,α⟩:∃q,Pk t=q:=⟨_,rfl⟩;have HQ:=G Z;have β:=G α;clear Z α;go_wp2_with fail;refine(Ab t w2 (j.q.1.below s.q)).mono ?_;rintro e w3 h3;obtain⟨γ,δ,a3,n3,c3,l3,p3,m3,d3,rfl,ε,ζ,η⟩:=h3.all HQ.q;have θ:=G (s.q.bL γ);have ι:=G ε;have κ:=G ζ;have μ:=G η;have ν:=G δ;clear γ δ ε ζ η h3;go_wp2_with fail;refine(DW t w3).mono ?_;rintro e w4 h4;obtain⟨u,_,a4,n4,c4,l4,p4,m4,d4,rfl,ξ,ο,π⟩:=h4.all HQ.q;have ρ:=G (θ.q.bL u);have σ:=G ξ;have τ:=G ο;have υ:=G π;have m:=G u;clear u ξ ο π h4;have j6:(W !=W)=false:=by simp
    have j7:(Y !=Y)=false:=by simp
    have j8:(N2 !=N2)=false:=by simp
    have j9:(M2 !=M2)=false:=by simp
    go_wp2_with fail;refine(VY p3 p4 m3 d3 m4 d4 P P w4 (μ.q.below m.q rfl) υ.q).mono ?_;rw[bG (show P=P from rfl)];rintro e w5 ⟨rfl,v⟩;have φ:=G (ρ.q.bL v);have d:=G v;clear v;go_wp2_with fail;refine(MW a3 a4 n3 c3 n4 c4 0 0 l3 l4 L w5 ((ι.q.below m.q rfl).below d.q rfl) (σ.q.below d.q rfl) ((κ.q.below m.q).below d.q) (τ.q.below d.q) ν.q).mono ?_;rintro e w6 ⟨rfl,χ⟩;have y:=G (φ.q.bL χ);clear χ ι σ κ τ μ υ ν m d;go_wp2_with fail;refine(xG t w6 (j.q.below y.q)).mono ?_;rintro e z h7;obtain⟨ψ,ω,h,es,ds,ms,Ω,dn,mn,rfl,ho⟩:=h7.all β.q;have A:=G (aB (y.q.bL ψ) (H (aI h) 41));have HX:=G (Bx.new z (aI h) 41);have HO:=G (ho.below (aB (J z.1.size z) (H (aI h) 41)));have HZ:=G ω;clear ψ ω ho h7;go_wp2_with fail;refine(C9 t _ (j.q.below A.q)).2.mono ?_;rintro e B h8;obtain⟨f,_,g,q0,q1,q2,q3,q4,q5,rfl,Γ⟩:=h8.all β.q;have Δ:=G (aB (J B.1.size B) (H (aI g) 41));have q6:=G ((HX.q.keep f).alloc (H (aI g) 41));have q7:=G (Bx.new B (aI g) 41);have Θ:=G (aB (A.q.bL f) (H (aI g) 41));have q8:=G ((HO.q.below f).below Δ.q);have q9:=G (Γ.below Δ.q);have j0:=G (HX.q.keep f).2.2;clear f Γ h8;have j1:=q6.q.1;have j2:=q7.q.1;have j3:=j0.q;go_wp2_with fail;refine(Q5 h g C es ds ms Ω dn mn q0 q1 q2 q3 q4 q5 _ (q8.q.Qj HZ.q) (q9.q.Qj HZ.q)).mono ?_;rintro e w9 ⟨rfl,Ξ⟩;have j4:=G (Θ.q.bL Ξ);clear j1 j2 j3 Ξ;go_wp2_with fail;go_roundw
    case rel=>exact⟨k+1,by omega,by go_num,j4.q⟩
    case measure=>simp[RowKit.intOf];omega
  .go_wp2_with fail
   go_ret;exact⟨rfl,l.q⟩
end Yd
