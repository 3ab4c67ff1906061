import Derived.Test.YtiheclemhihpeaaGreatDoorZCuL
import Derived.Test.YtiheclemhihpeaaGreatDoorZF7
set_option linter.all false
set_option maxRecDepth 200000
set_option maxHeartbeats 8000000
namespace Yd
open List renaming replicate->V
open Option renaming none->D,some->I
open Go Go.RowKit Go.Proofs Tryz
open Below renaming refl->U
open Go.IntKind renaming i64->G
open Go.Obj renaming cells->J
open Go.Value renaming int->H,pointer->M,slice->O
open Yd renaming hid->C
open _root_ renaming Int->L
theorem aaC{p:Prop}(h:p:=by omega):p:=h
theorem aaD{p:Prop}(h:p:=by have:=F.q;rw[u] at this;exact this.symm):p:=h
theorem aaE{p:Prop}(h:p:=by have:=ω.q;rw[α] at this;exact this.symm):p:=h
theorem aaF{p:Prop}(h:p:=by simp;omega):p:=h
theorem aaG{p:Prop}(h:p:=by have:=F.q;omega):p:=h
theorem aaH{p:Prop}(h:p:=by have:=Q.q;omega):p:=h
theorem aaI{p:Prop}(h:p:=by have:=d.q;omega):p:=h
theorem aaJ{p:Prop}(h:p:=by have:=ο.q;omega):p:=h
theorem Vi:∀k:Fin 4,∀b:Fin 8,b.val<2 ^ k.val->Go.bits .or G (b.val:L) (2 ^ k.val:L)=(b.val:L)+2 ^ k.val:=by decide
theorem or_bit (k b:Nat)(d:k<4)(a:b<2 ^ k):Go.bits .or G (b:L) (2 ^ k:L)=(b:L)+2 ^ k:=by
 have g:b<8:=kS a (by
  have:k<=3:=by omega
  exact cO (Nat.pow_le_pow_right aj this) aj)
 exact Vi ⟨k,d⟩ ⟨b,g⟩ a
theorem O6 (k i:Nat)(h:k+i<4):wrap64 ((k:L)+(i:L))=((k+i:Nat):L):=by
 unfold wrap64;omega
theorem Em (k i:Nat)(h:k+i<4):wrap64 ((k:L)+(i:L)+1)=((k+i+1:Nat):L):=by
 unfold wrap64;omega
theorem RG (m:Nat)(h:m<4)(a:World):(Go.Op.shift .shl G 1 G (m:L)).run Tryz.prog a= .ok (H G (2 ^ m)) a:=by
 rcases(by omega:m=0\/m=1\/m=2\/m=3) with rfl|rfl|rfl|rfl <;> rfl
theorem RH (k i:Nat)(h:k+i<4)(a:World):(Go.Op.shift .shl G 1 G ((k:L)+(i:L))).run Tryz.prog a= .ok (H G (2 ^ (k+i))) a:=by
 have:=RG (k+i) h a
 simpa using this
variable{w:World}
theorem MG (l:mF w)(k:Nat)(r:k<=4):Row w 1 encStr (I ⟨3,k,D⟩) (4 - k) (4 - k) (iB.drop k):=by
 refine⟨by simp[iB],aC _,aaC,λh=>(by cases h),λi x a=>⟨3,k,rfl,λj v d=>?_⟩⟩;rw[rZ] at a;have g:k+i<4:=by
  have:=(bq.1 a).1
  simpa[iB] using this
 obtain rfl:j=0:=by
  have:=(bq.1 d).1
  simpa[encStr] using this
 have o:v= .string ⟨x.toArray⟩:=by simpa[encStr] using d.symm
 have p:x=uq (k+i):=by
  have q:∀m,m<4->iB[m]?=I (uq m):=λm s=>by
   rcases(by omega:m=0\/m=1\/m=2\/m=3) with rfl|rfl|rfl|rfl <;> rfl
  rw[q _ g] at a;injection a with a;exact a.symm
 have:=l.2.2.1 (k+i) g;rw[o,p]
 simpa using this
def Ki (k:Nat):Nat:=if k=4 then 0 else k
theorem MH (k:Nat)(d:k<=4)(a:World):(Instr.sliceAt 214 (M (I ⟨3,0,D⟩)) (I (H G (k:L))) D D).run Tryz.prog a= .ok (O (I ⟨3,Ki k,D⟩) (4 - k) (4 - k)) a:=by
 rcases(by omega:k=0\/k=1\/k=2\/k=3\/k=4) with rfl|rfl|rfl|rfl|rfl <;> kernel_rfl
theorem Kj (d:mF w)(k:Nat)(g:k<=4):Row w 1 encStr (I ⟨3,Ki k,D⟩) (4 - k) (4 - k) (iB.drop k):=by
 by_cases a:k=4
 .subst a
  exact⟨rfl,aC _,aaC,λh=>(by cases h),λi x j=>by simp[iB] at j⟩
 .unfold Ki;rw[ay a];exact MG d k g
theorem En:(∀x∈iB,x.length<=100)/\(∀x∈iB,(128:UInt8)∉x):=by decide
variable{R p:Nat}{s l:Bs}
theorem EA {c:aW}{n:aK}(w:World)(h:dL w R s p l c n)(hG:qE R w)(v:n.bits=0):
  Calls Tryz.prog 102 #[M (I ⟨R,0,D⟩)] w (dA R s c w (λ_:Unit=> .tuple #[]) (match kD 5 0 0 l with| .error x=> .error x| .ok (b,r)=> .ok ((),{n with bits:=b},r))):=by
 obtain⟨Y,A⟩:∃Y:Except Er (Unit × aK × Bs),Y=(match kD 5 0 0 l with| .error x=> .error x| .ok (b,r)=> .ok ((),{n with bits:=b},r)):=⟨_,rfl⟩;rw[<-A];have E:Hid (∀x,kD 5 0 0 l= .error x->Y= .error x):=C (λx d=>by rw[A,d]);have β:Hid (∀b r,kD 5 0 0 l= .ok (b,r)->Y= .ok ((),{n with bits:=b},r)):=C (λb r d=>by rw[A,d]);obtain⟨X,hX⟩:=kP (kD 5 0 0 l:Except Er (L × Bs));rw[<-hX] at E β;have HX:=C hX;have HH:=C h;have HG:=C hG;have HN:Hid (n={n with bits:=0}):=C (by cases n;simp at v;subst v;rfl);go_enter func102,ntmps102
 go_wp2
 go_loopw [2] (λi wr=>∃(W:World)(k f q b:Nat)(y:Bs)(o:aW),W=wr/\i= H G k/\k<=4/\5<=f+k/\b<2 ^ k/\dL W R s q y o {n with bits:=b}/\Mv R c o w W/\qE R W/\kD f k b y=X) (λi _=>4 - (RowKit.intOf i).toNat)
 case atStart=>exact⟨_,0,5,p,0,l,c,rfl,rfl,by omega,by omega,by decide,by have:=HH.q;rw[HN.q] at this;exact this,Mv.refl _ _ _,HG,HX.symm⟩
 case round=>
  obtain⟨W,k,f,q,b,y,o,rfl,rfl,hk,hf,ι,hc,hm,hg,d⟩:=hrel;obtain⟨f,rfl⟩:∃f',f=f'+1:=⟨f - 1,aaC⟩;simp only[kD] at d;have HC:=C hc;have HM:=C hm;have κ:=C hg;have F:=C d;have γ:=C ι;have HF:=C hf;have μ:=C (xQ W hc);go_wp2_with fail;refine μ.q.mono ?_;intro e w2 g
  cases u:dB y with
  |error x=>
   rw[u] at g;obtain⟨rfl,Q⟩:=g;refine⟨rfl,?_⟩;show dA R s c w _ _ _ _;rw[E.q x aaD];exact⟨rfl,HM.iJ Q⟩
  |ok br=>
   obtain⟨bb,r⟩:=br;rw[u] at g;obtain⟨rfl,q2,δ,ε⟩:=g;have ζ:=C δ;have S:=C (HM.trans ε);have η:=C (κ.mv HC ε.same)
   cases bb
   .have z:Hid (X= .ok ((b:L),r)):=C aaD
    go_wp2
    apply bodyPost_end (results_none rfl _ _ _) rfl
    show dA R s c w _ _ _ _;rw[β.q _ _ z.q];exact⟨rfl,q2,o,ζ,S⟩
   .have z:Hid ((match gW (iB.drop k) r with| .error x=> .error x| .ok (i,r')=>kD f (k+i+1) ((b:L)+2 ^ (k+i)) r')=X):=C (by have:=F.q;rw[u] at this;exact this)
    have υ:=λW=>MH k hk W
    have HW:=C (DC w2 δ (I ⟨3,Ki k,D⟩) (4 - k) (4 - k) (iB.drop k) (Kj η.l k hk) ah (λx d=>En.1 x (BP d)) (λx d=>En.2 x (BP d)));go_wp2_with fail;refine HW.q.mono ?_;intro e w3 g
    cases a:gW (iB.drop k) r with
    |error x=>
     rw[a] at g;obtain⟨rfl,Q⟩:=g;refine⟨rfl,?_⟩;show dA R s c w _ _ _ _;rw[E.q x (by have:=z.q;rw[a] at this;exact this.symm)];exact⟨rfl,S.iJ Q⟩
    |ok ir=>
     obtain⟨i,r3⟩:=ir;rw[a] at g;obtain⟨rfl,q3,θ,Z⟩:=g;have hi:k+i<4:=by
      unfold gW at a
      split at a
      .rename_i j hj
       injection a with a;injection a with a _;have:=(BO.1 hj).1;subst a;simp[iB] at this;omega
      .cases a
     have ν:Hid (kD f (k+i+1) ((b:L)+2 ^ (k+i)) r3=X):=C (by have:=z.q;rw[a] at this;exact this);have α:=or_bit (k+i) b hi (kS γ (Nat.pow_le_pow_right aj ah));have m:=C θ;have ξ:=C (S.trans Z);have ο:=C (η.mv ζ Z.same);have t:=C hi;have π:=C α;clear θ Z a hi α;have H7:Hid (w3.cell? ⟨R,7,D⟩=I (H G (b:L))):=C (by have h:=m.x.1 7;have v:o.bits=(b:L):=m.n.1.2.2.2.1;rw[<-v];exact h);have φ:=H7.q;have χ:=f1 m.q 7;have ψ:=λW=>RH k i t.q W;have α:=π.q
     go_wp2_with fail;rw[O6 k i t.q];refine aD 11 [(0,1),(1,1),(2,1),(3,1),(4,0),(5,1),(6,1),(7,0),(8,1),(9,1),(10,1),(11,2)] (λ_=>True) (λW'=>W'.cell? ⟨R,7,D⟩=I (H G (b:L))) au au (trivial) (H7.q) ?_;refine qC ?_;refine bA rfl rfl rfl (λK hK=>?_);go_simp;refine hK _ _ trivial ?_
     apply aH
     have h4:=m.yY 7 (H G ((b:L)+2 ^ (k+i))) {o with bits:=(b:L)+2 ^ (k+i)} {n with bits:=(b:L)+2 ^ (k+i)} aj rfl ⟨rfl,rfl,rfl,rfl,rfl,rfl⟩ ⟨rfl,rfl⟩ ⟨m.n.1.1,m.n.1.2.1,m.n.1.2.2.1,rfl⟩;have ρ:=C h4.1.drew;have σ:=C (ξ.trans (h4.2.trans (Mv.of_below (U _ _).drew)));have τ:=C (ο.mv m (h4.2.trans (Mv.of_below (U _ _).drew)).same)
     go_wp2
     go_roundw
     case rel=>exact⟨_,k+i+1,f,q3,b+2 ^ (k+i),r3,_,rfl,by rw[Em k i t.q],by have:=t.q;omega,by have:=HF.q;omega,by have:=γ.q;have:2 ^ k<=2 ^ (k+i):=Nat.pow_le_pow_right aj ah;rw[Nat.pow_succ];omega,by have:=ρ.q;simpa using this,σ,τ,by have:=ν.q;simpa using this⟩
     case measure=>have:=t.q;rw[Em k i t.q];simp[RowKit.intOf] <;> omega
theorem Ac {c:aW}{n:aK}(w:World)(h:dL w R s p l c n)(hG:qE R w)(rr:L)(g:Nat)(A:Bool)(q9:mY rr=(g:L))(k5:(rr==115)=A)(j0:g<=300)(hn:n.names.length<=600)(hv:n.aM.length<=600):
  Calls Tryz.prog 104 #[M (I ⟨R,0,D⟩),.int .i32 rr] w (dA R s c w (λ_:Unit=> .tuple #[]) (match bR A g (g+1) 0 n.names n.aM l with| .error x=> .error x| .ok (b,r)=> .ok ((),{n with names:=b.1,aM:=b.2},r))):=by
 obtain⟨Y,hY⟩:∃Y:Except Er (Unit × aK × Bs),Y=(match bR A g (g+1) 0 n.names n.aM l with| .error x=> .error x| .ok (b,r)=> .ok ((),{n with names:=b.1,aM:=b.2},r)):=⟨_,rfl⟩;rw[<-hY];obtain⟨X,hX⟩:∃X:Except Er ((List Bs × List To) × Bs),X=bR A g (g+1) 0 n.names n.aM l:=⟨_,rfl⟩;rw[<-hX] at hY;have ζ:Hid (∀x,X= .error x->Y= .error x):=C (λx u=>by rw[hY,u]);have z1:Hid (∀b r,X= .ok (b,r)->Y= .ok ((),{n with names:=b.1,aM:=b.2},r)):=C (λb r u=>by rw[hY,u]);clear hY;obtain⟨i,z,hi⟩:=mQ;have HI:=C hi;have HX:=C hX;have HH:=C h;have HG:=C hG;have HN:=C (⟨hn,hv⟩:_/\_);have j1:=C q9;have ρ:=C j0;clear hX h hG hn hv hi j0;have j2:=C (λW=>Gq rr W);clear q9;go_enter func104,ntmps104;go_wp2_with fail
 go_loopw [4] (λi wr=>∃(W:World)(k f q:Nat)(l1:Bs)(a:aW)(d:aK),W=wr/\i= H G k/\k<=g/\g+1<=f+k/\dL W R s q l1 a d/\Mv R c a w W/\qE R W/\bR A g f k d.names d.aM l1=X/\(∀ns vs,{d with names:=ns,aM:=vs}={n with names:=ns,aM:=vs})/\d.names.length<=600+k/\d.aM.length<=600+k) (λi _=>g - (RowKit.intOf i).toNat)
 case atStart=>exact⟨_,0,g+1,p,l,c,n,rfl,rfl,aaC,aaC,HH.q,Mv.refl _ _ _,HG.q,HX.q.symm,λ_ _=>rfl,HN.q.1,HN.q.2⟩
 case round=>
  obtain⟨W,k,f,q,l1,a,d,rfl,rfl,hk,hf,hc,hm,hg,u,hq,h1,h2⟩:=hrel;obtain⟨f,rfl⟩:∃f',f=f'+1:=⟨f - 1,aaC⟩;simp only[bR] at u;have HC:=C hc;have HM:=C hm;have z2:=C hg;have ω:=C u;have HQ:=C hq;have β:=C (⟨h1,h2⟩:_/\_);have HF:=C hf;have HK:=C hk;have z3:=C (xQ W hc);clear hc hm hg u hq h1 h2 hf;go_wp2_with fail;refine z3.q.mono ?_;intro e w2 j
  cases α:dB l1 with
  |error x=>
   rw[α] at j;obtain⟨rfl,Q⟩:=j;refine⟨rfl,?_⟩;show dA R s c w _ _ _ _;rw[ζ.q x aaE];exact⟨rfl,HM.q.iJ Q⟩
  |ok br=>
   obtain⟨bb,r⟩:=br;rw[α] at j;obtain⟨rfl,q2,γ,κ⟩:=j;have η:=C γ;have σ:=C (HM.q.trans κ);have Γ:=C (z2.q.mv HC.q κ.same)
   cases bb
   .have θ:Hid (X= .ok ((d.names,d.aM),r)):=C aaE
    clear γ κ α;go_wp2_with fail;refine bodyPost_end (results_none rfl _ _ _) rfl ?_;show dA R s c w _ _ _ _;rw[z1.q _ _ θ.q,<-HQ.q];exact⟨rfl,q2,a,η.q,σ.q⟩
   .have θ:Hid ((if k=g/\bY r=true then .error (r,3) else match bU r with
     | .error x=> .error x
     | .ok (nm,r1)=>
      if A=true then match fu r1 with
       | .error x=> .error x
       | .ok r2=>match dN r2 with
        | .error x=> .error x
        | .ok (v,r3)=>bR A g f (k+1) (d.names++[nm]) (d.aM++[v]) r3
      else bR A g f (k+1) (d.names++[nm]) d.aM r1)=X):=C (by have:=ω.q;rw[α] at this;exact this)
    have z4:Hid ((Value.slice a.na a.nn a.nc).ownBlock≠I R):=C (γ.n.2.1.far' (.inl ah));have z5:=γ.n.1.2.2.2.2.1;have z6:Hid (d.names.length+1=a.nn+1):=C ah;have z7:Hid ((a.nn+1)*16<=140737488355328):=C (by have:=β.q;have:=ρ.q;omega);have z8:Hid (a.nn+1<=maxLen):=C (by have:=β.q;have:=ρ.q;unfold maxLen;omega);clear z5;by_cases μ:k=g
    .have z9:((k:L)==mY rr)=true:=by rw[j1.q,μ];exact beq_self_eq_true _
     have v0:=C μ;clear μ;have v1:=C (λW (hb:Below w2.1.size w2 W)=>Ef W (γ.below hb) (Utf8Tabs_below Γ.q.tabs hb));clear γ κ α;go_wp2_with fail;refine(j2.q w2).mono ?_;rintro e v2 ⟨rfl,j3⟩;have Δ:=C j3;clear j3;go_wp2_with fail;refine(v1.q v2 Δ.q).mono ?_;rintro e o ⟨rfl,ν⟩;have S:=C (Δ.q.bL ν);clear ν
     cases Θ:bY r
     .have HE:Hid (∀x,bU r= .error x->X= .error x):=C (λx u=>by rw[<-θ.q,ay (by rw[Θ];simp),u])
      have v3:Hid (∀mr,bU r≠ .ok mr):=C (λmr u=>by simp[bU,Θ] at u);have Z:=C (η.q.below S.q);have τ:=C (σ.q.trans (Mv.of_below S.q));have υ:=C (Γ.q.mv η.q (Mv.of_below S.q:Mv R a a w2 o).same);have Ξ:=C (λW (hb:Below o.1.size o W)=>AL W (Z.q.below hb) (Utf8Tabs_below υ.q.tabs hb));have δ:Hid (Below o.1.size o o.drew):=C ((U _ _).drew);have Φ:Hid (∀t F,(∃(y:Bs)(m:L),bU r= .error (y,m)/\t=lS (s.length - y.length) m/\Same (iX R a) o.drew F)->dA R s c w (λ_:Unit=> .tuple #[]) Y (.panicked t) F):=C (by
       rintro t F ⟨y,m,h1,rfl,h2⟩;rw[ζ.q _ (HE.q _ h1)];exact⟨rfl,(τ.q.trans (Mv.of_below δ.q)).iJ h2⟩)
      go_wp2_with fail;refine cK 13 [(0,1),(1,1),(2,1),(3,1),(4,1),(5,0),(6,1),(7,2),(8,2),(9,2),(10,1),(11,1),(12,1),(13,2)] (λ_=>True) (λW'=>W'.cell? ⟨R,3,D⟩=I (O a.na a.nn a.nc)) (λt F=>∃(y:Bs)(m:L),bU r= .error (y,m)/\t=lS (s.length - y.length) m/\Same (iX R a) o.drew F) au au (λt a1 w1 hd hr=>⟨hd,Φ.q t w1 hr⟩) (trivial) (Z.q.drew.c3) ?_;refine qC ?_;refine aG rfl rfl (λK E=>?_);go_simp;refine(Ξ.q _ δ.q).mono ?_;intro e w4 j
      cases ε:bU r with
      |error x=>
       rw[ε] at j;obtain⟨rfl,Q⟩:=j;exact⟨rfl,x.1,x.2,rfl,rfl,Q⟩
      |ok mr=>
      exact absurd ε (v3.q mr)
     .have HE:Hid (X= .error (r,3)):=C (by rw[<-θ.q,aA ⟨v0.q,Θ⟩])
      have Z:=C (η.q.below S.q);have k6:=Z.q.x.1 1;go_wp2_with fail;refine(jS q2 3 _).mono ?_;rintro e w4 ⟨rfl,rfl⟩;refine⟨rfl,?_⟩;show dA R s c w _ _ _ _;rw[ζ.q _ HE.q];have k7:=Z.q.len;exact⟨by rw[show s.length - r.length=q2 by omega],(σ.q.trans (Mv.of_below S.q)).same⟩
    .have z9:((k:L)==mY rr)=false:=by rw[j1.q];exact aN.2 ah
     have HE:Hid (∀x,bU r= .error x->X= .error x):=C (λx u=>by rw[<-θ.q,ay (λe=>μ e.1),u]);clear γ κ α;go_wp2_with fail;refine(j2.q w2).mono ?_;rintro e o ⟨rfl,ν⟩;have S:=C ν;clear ν;have Z:=C (η.q.below S.q);have τ:=C (σ.q.trans (Mv.of_below S.q));have υ:=C (Γ.q.mv η.q (Mv.of_below S.q:Mv R a a w2 o).same);have Ξ:=C (λW (hb:Below o.1.size o W)=>AL W (Z.q.below hb) (Utf8Tabs_below υ.q.tabs hb));have δ:Hid (Below o.1.size o o.drew):=C ((U _ _).drew);have Φ:Hid (∀t F,(∃(y:Bs)(m:L),bU r= .error (y,m)/\t=lS (s.length - y.length) m/\Same (iX R a) o.drew F)->dA R s c w (λ_:Unit=> .tuple #[]) Y (.panicked t) F):=C (by
      rintro t F ⟨y,m,h1,rfl,h2⟩;rw[ζ.q _ (HE.q _ h1)];exact⟨rfl,(τ.q.trans (Mv.of_below δ.q)).iJ h2⟩)
     go_wp2_with fail;refine cK 13 [(0,1),(1,1),(2,1),(3,1),(4,1),(5,0),(6,1),(7,2),(8,2),(9,2),(10,1),(11,1),(12,1),(13,2)] (λ_=>True) (λW'=>W'.cell? ⟨R,3,D⟩=I (O a.na a.nn a.nc)) (λt F=>∃(y:Bs)(m:L),bU r= .error (y,m)/\t=lS (s.length - y.length) m/\Same (iX R a) o.drew F) au au (λt a1 w1 hd hr=>⟨hd,Φ.q t w1 hr⟩) (trivial) (Z.q.drew.c3) ?_;refine qC ?_;refine aG rfl rfl (λK E=>?_);go_simp;refine(Ξ.q _ δ.q).mono ?_;intro e w4 j
     cases ε:bU r with
     |error x=>
      rw[ε] at j;obtain⟨rfl,Q⟩:=j;exact⟨rfl,x.1,x.2,rfl,rfl,Q⟩
     |ok mr=>
     obtain⟨m,r4⟩:=mr;rw[ε] at j;obtain⟨rfl,p4,φ,Ψ⟩:=j;have ξ:=C φ;have v4:=C ((τ.q.trans (Mv.of_below δ.q)).trans Ψ);have v5:=C ε;refine E _ _ ⟨trivial,φ.c3⟩ ?_;have v6:Hid (R+1<=(w4.alloc (J #[.string ⟨m.toArray⟩] 9)).1.size):=C (by have:=φ.x.2.2;simp;omega);have v7:=C (υ.q.mv Z.q ((Mv.of_below δ.q:Mv R a a o o.drew).trans Ψ).same);clear E K φ Ψ ε;refine aG rfl rfl (λK E=>?_);go_simp;refine E _ _ ⟨trivial,(ξ.q.below (aB (U _ _) _)).c3⟩ ?_;clear E K;refine aG rfl rfl (λK E=>?_);refine gK _ _ 22 rfl i z 16 underlying22 HI.q.1 HI.q.2.1 HI.q.2.2.1 HI.q.2.2.2.1 HI.q.2.2.2.2 rfl (ξ.q.n.2.1.alloc _) (I ⟨w4.1.size,0,D⟩) 1 1 (a.nn+1) [m] rfl (Row.str1 w4 m) z6.q z7.q z8.q v6.q ?_;intro a' c' w5 j4 Ω j5;have χ:=(ξ.q.x.keep (aB (U _ _) (J #[.string ⟨m.toArray⟩] 9))).grown Ω z4.q;have q0:=C (ξ.q.addN (aB (U _ _) (J #[.string ⟨m.toArray⟩] 9)) a' c' j4 Ω j5);refine E _ _ ⟨trivial,χ.1 3⟩ ?_;have k8:=χ.1 3;have k9:=χ.2.1 3;clear E K j4 Ω j5 χ;refine qC ?_;refine bA rfl rfl rfl (λK E=>?_);go_simp;refine E _ _ trivial ?_;clear E K;refine eP ?_;have ι:Hid (k+1<=g):=C (by have:=HK.q;omega);have q1:Hid ((if A=true then match fu r4 with
       | .error x=> .error x
       | .ok r2=>match dN r2 with
        | .error x=> .error x
        | .ok (v,r3)=>bR A g f (k+1) (d.names++[m]) (d.aM++[v]) r3
      else bR A g f (k+1) (d.names++[m]) d.aM r4)=X):=C (by have:=θ.q;rw[ay (λe=>μ e.1),v5.q] at this;exact this)
     have HA:=C q0.q.1;have q3:=C (v4.q.trans q0.q.2);have j6:=C (v7.q.mv ξ.q q0.q.2.same);have ψ:wrap64 ((k:L)+1)=((k+1:Nat):L):=by have:=ι.q;have:=ρ.q;unfold wrap64;omega
     cases A
     .go_wp2_with fail
      go_roundw
      case rel=>exact⟨_,k+1,f,p4,r4,_,_,rfl,by first|rfl|rw[ψ]|go_num,ι.q,by have:=HF.q;omega,HA.q,q3.q,j6.q,q1.q,λns vs=>HQ.q ns vs,by have:=β.q.1;simp;omega,by have:=β.q.2;show d.aM.length<=_;omega⟩
      case measure=>have:=ι.q;(try rw[ψ]);simp[RowKit.intOf] <;> omega
     .have v8:=C (Iq _ HA.q)
      go_wp2_with fail;refine v8.q.mono ?_;intro e w6 j
      cases ο:fu r4 with
      |error x=>
       rw[ο] at j;obtain⟨rfl,Q⟩:=j;refine⟨rfl,?_⟩;show dA R s c w _ _ _ _;rw[ζ.q x (by have:=q1.q;rw[ο] at this;exact this.symm)];exact⟨rfl,q3.q.iJ Q⟩
      |ok r6=>
       rw[ο] at j;obtain⟨rfl,q6,q4,q5⟩:=j;have j7:Hid ((match dN r6 with
        | .error x=> .error x
        | .ok (v,r3)=>bR true g f (k+1) (d.names++[m]) (d.aM++[v]) r3)=X):=C (by have:=q1.q;rw[ο] at this;exact this)
       have v9:=C q4;have j8:=C (q3.q.trans q5);have j9:=C (j6.q.mv HA.q q5.same);have k0:=C (CV w6 q4 j9.q (by have:=β.q.2;have:=ι.q;have:=ρ.q;show d.aM.length<=1000;omega));clear q4 q5 ο;go_wp2_with fail;refine k0.q.mono ?_;intro e w7 j
       cases π:dN r6 with
       |error x=>
        rw[π] at j;obtain⟨rfl,Q⟩:=j;refine⟨rfl,?_⟩;show dA R s c w _ _ _ _;rw[ζ.q x (by have:=j7.q;rw[π] at this;exact this.symm)];exact⟨rfl,j8.q.iJ Q⟩
       |ok vr=>
        obtain⟨v,r7⟩:=vr;rw[π] at j;obtain⟨rfl,q7,c7,z0,q8⟩:=j;have k1:Hid (bR true g f (k+1) (d.names++[m]) (d.aM++[v]) r7=X):=C (by have:=j7.q;rw[π] at this;exact this);have k2:=C z0;have k3:=C (j8.q.trans q8);have k4:=C (j9.q.mv v9.q q8.same);clear z0 q8 π;go_wp2_with fail;go_roundw
        case rel=>exact⟨_,k+1,f,q7,r7,_,_,rfl,by first|rfl|rw[ψ]|go_num,ι.q,by have:=HF.q;omega,k2.q,k3.q,k4.q,k1.q,λns vs=>HQ.q ns vs,by have:=β.q.1;simp;omega,by have:=β.q.2;simp;omega⟩
        case measure=>have:=ι.q;(try rw[ψ]);simp[RowKit.intOf] <;> omega
theorem XL (a:World):(Instr.makeSlice 153 (H G 1) (H G 1)).run Tryz.prog a= .ok (O (I ⟨a.1.size,0,D⟩) 1 1) (a.alloc (J #[.nilFunc] 1)):=au
theorem XM (a:World):(Instr.makeSlice 153 (H G 2) (H G 2)).run Tryz.prog a= .ok (O (I ⟨a.1.size,0,D⟩) 2 2) (a.alloc (J #[.nilFunc,.nilFunc] 1)):=au
theorem Vj (a:World)(b B i n m c c':Nat)(v:Value)(l:a.cell? ⟨b,0,D⟩=I v)(o:v.oneCell'=true)(hc:(a.cell? ⟨B,i,D⟩).isSome=true)(p:a.frozen? ⟨B,i,D⟩=false)(q:1=Nat.min m n):
  (Builtin.copy_ #[153,153] 3 #[O (I ⟨B,i,D⟩) n c,O (I ⟨b,0,D⟩) m c']).run Tryz.prog a= .ok (goInt 1) (a.setCell ⟨B,i,D⟩ v):=by
 have h:=run_copy_cells (P:=Tryz.prog) a 153 153 3 1 B i n c ⟨b,0,D⟩ m c' [v] au au q (λj u d=>by
  obtain rfl:j=0:=by have:=(bq.1 d).1;simpa using this
  simpa[Addr.add] using l.trans d) (λj d=>by
    obtain rfl:j=0:=by simpa using d
    exact hc) (λj d=>by
      obtain rfl:j=0:=by simpa using d
      exact p) (λu g=>by simp at g;subst g;exact o)
 simp only[World.setCells] at h;exact h
theorem RI (w:World)(b:Nat)(v:Value)(l:b<w.1.size)(m:w.cell? ⟨b,0,D⟩=I v)(o:v.oneCell'=true):
  Calls Tryz.prog 97 #[O (I ⟨b,0,D⟩) 1 1,H G 1] w (λe w'=>e= .returned (O (I ⟨w.1.size,0,D⟩) 1 1)/\Below w.1.size w w'/\Bx w' w.1.size #[v]):=by
 have t:=XL;have q:=C (λW=>Tryz.bits_Mul 1 1 aj aj W);go_enter func97,ntmps97;go_wp2_with fail;refine(q.q w).mono ?_;rintro e a ⟨rfl,rfl⟩;have d:=Bx.new a #[.nilFunc] 1;have r:(a.alloc (J #[.nilFunc] 1)).cell? ⟨b,0,D⟩=I v:=by
  have:=(aB (U a.1.size a) (J #[.nilFunc] 1)).cell (p:=⟨b,0,D⟩) l;rw[this];exact m
 have s:=Vj (a.alloc (J #[.nilFunc] 1)) b a.1.size 0 1 1 1 1 v r o (by rw[d.1 0];rfl) (d.2.1 0) rfl;obtain⟨W,g⟩:=kP ((a.alloc (J #[.nilFunc] 1)).setCell ⟨a.1.size,0,D⟩ v);have j:Hid (Below a.1.size a W/\Bx W a.1.size #[v]):=C (by
  rw[g];exact⟨(aB (U a.1.size a) _).setCell (p:=⟨a.1.size,0,D⟩) (aC a.1.size) _,d.aX 0 ak v⟩)
 rw[<-g] at s;clear g
 go_wp2
 go_loopw [8] (λi wr=>wr=W/\i= H G 1) (λi _=>0)
 case atStart=>exact⟨rfl,rfl⟩
 case round=>
  obtain⟨rfl,rfl⟩:=hrel
  go_wp2
  go_ret;exact⟨rfl,j.1,j.2⟩
theorem RJ (w:World)(b:Nat)(v:Value)(q:b<w.1.size)(r:w.cell? ⟨b,0,D⟩=I v)(o:v.oneCell'=true):
  Calls Tryz.prog 97 #[O (I ⟨b,0,D⟩) 1 1,H G 2] w (λe w'=>e= .returned (O (I ⟨w.1.size,0,D⟩) 2 2)/\Below w.1.size w w'/\Bx w' w.1.size #[v,v]):=by
 have z:=XM;have s:=C (λW=>Tryz.bits_Mul 1 2 aj aj W);go_enter func97,ntmps97;go_wp2_with fail;refine(s.q w).mono ?_;rintro e a ⟨rfl,rfl⟩;have l:=Bx.new a #[.nilFunc,.nilFunc] 1;have t:(a.alloc (J #[.nilFunc,.nilFunc] 1)).cell? ⟨b,0,D⟩=I v:=by
  have:=(aB (U a.1.size a) (J #[.nilFunc,.nilFunc] 1)).cell (p:=⟨b,0,D⟩) q;rw[this];exact r
 have u:=Vj (a.alloc (J #[.nilFunc,.nilFunc] 1)) b a.1.size 0 2 1 2 1 v t o (by rw[l.1 0];rfl) (l.2.1 0) rfl;obtain⟨W,m⟩:=kP ((a.alloc (J #[.nilFunc,.nilFunc] 1)).setCell ⟨a.1.size,0,D⟩ v);have g:Hid (Below a.1.size a W/\Bx W a.1.size #[v,.nilFunc]):=C (by
  rw[m];exact⟨(aB (U a.1.size a) _).setCell (p:=⟨a.1.size,0,D⟩) (aC a.1.size) _,l.aX 0 ak v⟩)
 rw[<-m] at u;clear m
 go_wp2
 go_loopw [8] (λi wr=>(wr=W/\i= H G 1)\/(i= H G 2/\Below a.1.size a wr/\Bx wr a.1.size #[v,v])) (λi _=>2 - (RowKit.intOf i).toNat)
 case atStart=>exact .inl ⟨rfl,rfl⟩
 case round=>
  rcases hrel with⟨rfl,rfl⟩|⟨rfl,x,y⟩
  .have j:Hid (Bx wr.drew a.1.size #[v,.nilFunc]):=C ⟨g.2.1,g.2.2.1,g.2.2.2⟩
   have A:=Vj wr.drew a.1.size a.1.size 1 1 1 1 2 v (j.1 0) o (by rw[j.q.1 1];rfl) (j.2.1 1) rfl;have d:Hid (Below a.1.size a (wr.drew.setCell ⟨a.1.size,1,D⟩ v)/\Bx (wr.drew.setCell ⟨a.1.size,1,D⟩ v) a.1.size #[v,v]):=C ⟨g.1.drew.setCell (p:=⟨a.1.size,1,D⟩) (aC a.1.size) _,j.aX 1 ak v⟩
   go_wp2
   apply aD 7 [(0,1),(1,1),(2,1),(3,1),(4,1),(5,1),(6,1),(7,2),(8,1),(9,1)] (λ_=>True) (λ_=>True) au au (trivial) (trivial)
   refine qM λK hK=>?_
   apply hK _ _ trivial
   refine qC ?_
   apply aH
   go_wp2
   go_roundw
   case rel=>exact .inr ⟨rfl,d.1,d.2⟩
   case measure=>decide
  .have d:=C (⟨x,y⟩:_/\_)
   go_wp2
   go_ret;exact⟨rfl,d.1,d.2⟩
@[reducible] def o8:aK:=⟨0,[],0,[],false,0⟩
theorem MI (a:List Nat):∀(k:Nat)(n:aK)(l:Bs),jC (V k 0++a) n l=(match mK k n.names l with| .error x=> .error x| .ok (d,r)=>jC a {n with names:=d} r):=by
 intro k
 induction k with
 |zero=>intro n l;rfl
 |succ k g=>
  intro n l;rw[List.replicate_succ,jl];simp only[jC,mK]
  cases fu l with
  |error x=>rfl
  |ok r=>
   simp only[uD,dG]
   cases bU r with
   |error x=>rfl
   |ok i=>
    obtain⟨m,j⟩:=i;simp only[];rw[g]
def kE (k:Nat):List Nat:=V (eU k).toNat 0++(if k=1 then [1] else if k=3 then [2] else [])
def lu (k:Nat)(n:aK)(l:Bs):Except Er (Unit × aK × Bs):=
 if k=9 then(match kD 5 0 0 l with| .error x=> .error x| .ok (b,r)=> .ok ((),{n with bits:=b},r))
 else if k=8 then match jh l with
  | .error x=> .error x
  | .ok (f,r)=>match bR false 300 301 0 n.names n.aM r with
   | .error x=> .error x
   | .ok (b,a)=> .ok ((),{n with first:=f,names:=b.1,aM:=b.2},a)
 else if k=4 then match bR true 40 41 0 n.names n.aM l with
   | .error x=> .error x
   | .ok (b,a)=> .ok ((),{n with names:=b.1,aM:=b.2},a)
 else if k=7 then match bR false 300 301 0 n.names n.aM l with
   | .error x=> .error x
   | .ok (b,a)=> .ok ((),{n with names:=b.1,aM:=b.2},a)
 else .ok ((),n,l)
def AV (x:Except Er (Unit × aK × Bs)):Except Er (aK × Bs):=
 match x with
 | .error x=> .error x
 | .ok (_,s,d)=>match dB d with
  | .error x=> .error x
  | .ok (true,a)=> .error (a,220)
  | .ok (false,a)=> .ok (s,a)
theorem Kk (l r:Bs)(i:Nat)(s:i<9)(m:dO (bg l)=false)(o:gW jK (bg l)= .ok (i,r)):
  jv l=(match jC (kE (i+1)) {o8 with kind:=((i+1:Nat):L)} r with| .error x=> .error x| .ok (_,n,a)=>AV (lu (i+1) n a)):=by
 unfold jv;rw[ay (by rw[m];simp),o];simp only[];rw[kE,MI];simp only[]
 cases t:mK (eU (i+1)).toNat [] r with
 |error x=>rfl
 |ok p=>
  obtain⟨j,a⟩:=p;simp only[];unfold uS lu AV;rcases(by omega:i=0\/i=1\/i=2\/i=3\/i=4\/i=5\/i=6\/i=7\/i=8) with rfl|rfl|rfl|rfl|rfl|rfl|rfl|rfl|rfl
  .simp only[Nat.reduceAdd,dG,jC,uD,Nat.reduceEqDiff,ku,Nat.succ_ne_self]
   cases fu a with
   |error x=>rfl
   |ok d=>
    simp only[]
    cases gW kM d with
    |error x=>rfl
    |ok g=>rfl
  .rfl
  .simp only[Nat.reduceAdd,dG,jC,uD,Nat.reduceEqDiff,ku]
   cases fu a with
   |error x=>rfl
   |ok d=>
    simp only[]
    cases dN d with
    |error x=>rfl
    |ok g=>rfl
  .simp only[Nat.reduceAdd,dG,jC,Nat.reduceEqDiff,ku]
   cases bR true 40 41 0 j [] a with
   |error x=>rfl
   |ok g=>rfl
  .rfl
  .rfl
  .simp only[Nat.reduceAdd,dG,jC,Nat.reduceEqDiff,ku]
   cases bR false 300 301 0 j [] a with
   |error x=>rfl
   |ok g=>rfl
  .simp only[Nat.reduceAdd,dG,jC,Nat.reduceEqDiff,ku]
   cases jh a with
   |error x=>rfl
   |ok q=>
    obtain⟨f,d⟩:=q;simp only[]
    cases bR false 300 301 0 j [] d with
    |error x=>rfl
    |ok g=>rfl
  .simp only[Nat.reduceAdd,dG,jC,Nat.reduceEqDiff,ku]
   cases kD 5 0 0 a with
   |error x=>rfl
   |ok g=>rfl
variable{r:Bs}{u:Unit}
theorem O7 {a:Nat}{n d:aK}(h:uD a n l= .ok (u,d,r)):d.bits=n.bits/\d.first=n.first/\d.kind=n.kind:=by
 unfold uD at h
 split at h
 .split at h
  .cases h
  .cases h;simp
 .split at h
  .split at h
   .cases h
   .cases h;simp
  .split at h
   .cases h
   .cases h;simp
theorem Eo:∀(g:List Nat){n d:aK}{l r:Bs}{u:Unit},jC g n l= .ok (u,d,r)->
  d.bits=n.bits/\d.first=n.first/\d.kind=n.kind/\d.names.length<=n.names.length+g.length/\d.aM.length<=n.aM.length+g.length
 |[],n,d,l,r,u,h=>by
  simp only[jC] at h
  cases h;simp
 |a::t,n,d,l,r,u,h=>by
  simp only[jC] at h
  split at h
  .cases h
  .split at h
   .cases h
   .rename_i u1 o p m
    have i:=O7 m;have q:=Iz m;have j:=Eo t h;simp only[iC];exact⟨j.1.trans i.1,j.2.1.trans i.2.1,j.2.2.1.trans i.2.2,aaC,aaC⟩
theorem WJ:(Tryz.prog.info? 1).map (λi=>(i.zero.map (·.cells.size),i.size,i.bytes))=I (I 1,1,8):=au
theorem Vk:∃i z,Tryz.prog.info? 1=I i/\i.zero=I z/\i.size=1/\i.bytes=8/\z.cells.size=1:=mR WJ
theorem O8 (k:Nat):∃N:Nat,eU (k+1)=(N:L)/\(N=1\/N=2):=by
 unfold eU
 split <;> first|exact⟨1,rfl,.inl rfl⟩|exact⟨2,rfl,.inr rfl⟩|(rename_i h;omega)
theorem Vl (N:Nat)(i:N=1\/N=2)(w:World)(b:Nat)(v:Value)(a:b<w.1.size)(d:w.cell? ⟨b,0,D⟩=I v)(g:v.oneCell'=true):
  Calls Tryz.prog 97 #[O (I ⟨b,0,D⟩) 1 1,H G N] w (λe w'=>e= .returned (O (I ⟨w.1.size,0,D⟩) N N)/\Below w.1.size w w'/\Bx w' w.1.size (Array.replicate N v)):=by
 rcases i with rfl|rfl
 .exact RI w b v a d g
 .exact RJ w b v a d g
theorem Bd {P:Program}{a:Array Oper}{d:List Oper}{o:Oper}{z:Act}{w':World}{Q:Exit->Act->World->Prop}{v u r:Value}(g:o.guard=D)(s x:Operand)(t:TypeId)
  (i:o.op= .call {callee:= .builtin .append,args:=#[s,x],argTypes:=#[t,t]}) (j:z.eval s=v) (l:z.eval x=u) (m:(Builtin.append_ #[t,t] o.type #[v,u]).run P w= .ok r w')
  (h:wpList P a Q d (z.put o.dst r) w'):wpList P a Q (o::d) z w:=
 wpList_plain g λ_ p=>by
  unfold Oper.wp execOp;simp only[i,resolve,invoke,builtin,Sem.run_bind,Sem.run_pure,Result.andThen_ok,List.map_toArray,kW,lW,j,l,m];exact p _ _ h
theorem Vm (N:Nat)(t:N=1\/N=2)(a:World)(T o:Nat)(v x:Value)(w:Bx a T (Array.replicate N v))(y:a.cell? ⟨o,0,D⟩=I x):
  ∃(p:Nat)(d:World),(Builtin.append_ #[153,153] 153 #[O (I ⟨T,0,D⟩) N N,O (I ⟨o,0,D⟩) 1 1]).run Tryz.prog a= .ok (O (I ⟨a.1.size,0,D⟩) (N+1) p) d/\N+1<=p/\p<=maxLen/\Below a.1.size a d/\a.1.size<d.1.size/\(∀i,i<N->d.cell? ⟨a.1.size,i,D⟩=I v)/\d.cell? ⟨a.1.size,N,D⟩=I x:=by
 obtain⟨i,z,q,l,r,A,Q⟩:=Vk;have E:=run_append_grow (P:=Tryz.prog) a 153 153 1 i z au q l ⟨T,0,D⟩ N N (V N v) (by rw[r];simp) (λj u m=>by
  have g:=m;rw[List.getElem?_replicate] at g;have s:j<N:=by
   apply Classical.byContradiction;intro F;rw[ay F] at g;cases g
  rw[aA s] at g;have:=w.1 j;rw[Array.getElem?_replicate,aA s] at this;have l:=this.trans g;unfold Addr.add
  split
  .rename_i K;subst K;exact l
  .simpa using l) ⟨o,0,D⟩ 1 1 [x] (by rw[r];rfl) (λj u m=>by
  obtain rfl:j=0:=by have:=(bq.1 m).1;simpa using this
  simpa[Addr.add] using y.trans m) ah ah (by rw[A];rcases t with rfl|rfl <;> exact Nat.le_of_ble_eq_true rfl)
 refine⟨_,_,E,grownCap_ge a (N+1) N 1,grownCap_le_maxLen a (N+1) N 1 (by unfold maxLen;omega),(U _ _).drew.alloc (aC _) _,by simp,λi q=>?_,?_⟩
 .have:=World.cell?_alloc_new a.drew ((V N v).toArray++[x].toArray++Builtin.zeroCells z.cells (grownCap a (N+1) N 1 - (N+1))) 1 i
  apply this.trans
  rw[Array.getElem?_append_left aaF,Array.getElem?_append_left aaF];simp[q]
 .have:=World.cell?_alloc_new a.drew ((V N v).toArray++[x].toArray++Builtin.zeroCells z.cells (grownCap a (N+1) N 1 - (N+1))) 1 N
  apply this.trans
  rw[Array.getElem?_append_left ak,Array.getElem?_append_right ak];simp
variable{b:Nat}
theorem IW {n c:Nat}(d:List Nat)(l:d.length=n)(hc:n<=c)(m:n<=1000)(h:∀(i:Nat)(a:Nat),d[i]?=I a->w.cell? ⟨b,i,D⟩=I (.func (.func (yZ a)) #[M (I ⟨R,0,D⟩)] #[])):Row w 1 (xV R) (I ⟨b,0,D⟩) n c d:=
 ⟨l,hc,by omega,(λe=>by cases e),λi a ha=>⟨b,0,rfl,λj v g=>by
  obtain rfl:j=0:=by have:=(bq.1 g).1;simpa[xV] using this
  have:v= .func (.func (yZ a)) #[M (I ⟨R,0,D⟩)] #[]:=by simpa[xV] using g.symm
  rw[this];simpa using h i a ha⟩⟩
theorem wo {N:Nat}(j:N<=2)(h:Bx w b (Array.replicate N (.func (.func (yZ 0)) #[M (I ⟨R,0,D⟩)] #[]))):Row w 1 (xV R) (I ⟨b,0,D⟩) N N (V N 0):=
 IW _ ak (aC _) ah λi a ha=>by
  rw[List.getElem?_replicate] at ha;have d:i<N:=by
   apply Classical.byContradiction;intro g;rw[ay g] at ha;cases ha
  rw[aA d] at ha
  cases ha
  rw[h.1 i,Array.getElem?_replicate,aA d]
theorem Gt {N c:Nat}(a:Nat)(hc:N+1<=c)(j:N<=2)(h:∀i,i<N->w.cell? ⟨b,i,D⟩=I (.func (.func (yZ 0)) #[M (I ⟨R,0,D⟩)] #[]))(g:w.cell? ⟨b,N,D⟩=I (.func (.func (yZ a)) #[M (I ⟨R,0,D⟩)] #[])):Row w 1 (xV R) (I ⟨b,0,D⟩) (N+1) c (V N 0++[a]):=
 IW _ ak hc ah λi l ha=>by
  by_cases d:i<N
  .rw[uM (by simpa using d),List.getElem?_replicate,aA d] at ha
   cases ha
   exact h i d
  .rw[su aaF] at ha
   obtain rfl:i=N:=by have:=(bq.1 ha).1;simp at this;omega
   simp at ha;subst ha;exact g
theorem MJ:∀j:Fin 9,jK.take j.val++[fw (j.val+1)]=jK.take (j.val+1):=by decide
def xD (x:Except Er (Unit × aK × Bs)):Except Er (Unit × aK × Bs):=match AV x with| .error x=> .error x| .ok (a,r)=> .ok ((),a,r)
theorem CZ (x:Er):xD (.error x)= .error x:=rfl
theorem MK {n:aK}{x:Er}(h:dB r= .error x):xD (.ok (u,n,r))= .error x:=by
 unfold xD AV;simp only[h]
theorem ML {n:aK}(h:dB r= .ok (true,l)):xD (.ok (u,n,r))= .error (l,220):=by
 unfold xD AV;simp only[h]
theorem Kl {n:aK}(h:dB r= .ok (false,l)):xD (.ok (u,n,r))= .ok ((),n,l):=by
 unfold xD AV;simp only[h]
theorem RL {c:aW}(w:World)(h:dL w R s p l c o8)(hG:qE R w):
  Calls Tryz.prog 41 #[M (I ⟨R,0,D⟩)] w (dA R s c w (λ_:Unit=> .tuple #[]) (match jv l with| .error x=> .error x| .ok (n',r)=> .ok ((),n',r))):=by
 obtain⟨Y,hY⟩:∃Y:Except Er (Unit × aK × Bs),Y=(match jv l with| .error x=> .error x| .ok (n',r)=> .ok ((),n',r)):=⟨_,rfl⟩;rw[<-hY];have HY:=C hY;have HG:=C hG;clear hY hG;have c0:=h.c0;have c1:=h.c1;have z1:=f1 h 1;have k2:=h.len;have p3:=h.lim;have x9:=λW=>jg Tryz.underlying9 s p ah W
 rw[h.d] at x9;have hz:=dW s;have p4:=dW (bg l);have k3:=zO l;obtain⟨q,hq⟩:∃q:Nat,q=s.length - (bg l).length:=⟨_,rfl⟩;have b0:Hid (wrap64 ((s.length:L) - ((bg l).length:L))=(q:L)):=C (by
  rw[show(s.length:L) - ((bg l).length:L)=(q:L) by omega];exact IntWalk.wrap64_in _ ah)
 have b1:Hid (IntKind.i64.wrap ((s.length:L) - ((bg l).length:L))=(q:L)):=C (by
  rw[show(s.length:L) - ((bg l).length:L)=(q:L) by omega];exact IntWalk.i64_in _ ah)
 have HH:=C h;have b2:=C k2;have b3:=C k3;have HQ:=C hq;clear h k2 k3 hq;go_enter Tryz.func41,Tryz.ntmps41;go_wp2_with fail;refine aD 20 [(0,1),(1,1),(2,1),(3,1),(4,0),(5,0),(6,1),(7,1),(8,1),(9,0),(10,1),(11,1),(12,1),(13,0),(14,0),(15,2),(16,0),(17,0),(18,1),(19,1),(20,2)] (λ_=>True) (λW'=>W'.cell? ⟨R,0,D⟩=I (.string ⟨s.toArray⟩)/\W'.cell? ⟨R,1,D⟩=I (H G p)) au au (trivial) (⟨HH.q.c0,HH.q.c1⟩) ?_;refine qC ?_;refine aG rfl rfl (λK hK=>?_);go_simp;refine(Ip l _).mono ?_;rintro e w2 ⟨rfl,Γ⟩;have j3:=HH.q.drew.below Γ;refine hK _ _ ⟨trivial,j3.c0,j3.c1⟩ ?_;have z5:=C j3;have b4:=C Γ;clear hK K Γ j3 c0 c1 z1;have c1:=z5.q.c1;have z1:=f1 z5.q 1;have p5:=b0.q;refine qC ?_;refine bA rfl rfl rfl (λK hK=>?_);go_simp;refine hK _ _ trivial ?_;clear hK K;refine aH ?_;have Γ:Below w.1.size w w2:=(U _ _).drew.trans b4.q;have ht:=z5.q.to (l.length - (bg l).length) (CB l) ah q (by have:=b2.q;have:=b3.q;have:=HQ.q;omega);have HT:=C ht.1;have HM:=C ((Mv.of_below (R:=R) (c:=c) Γ).trans ht.2);have b5:=C (HG.q.mv HH.q HM.q.same);clear ht Γ;rw[show IntKind.i64.wrap ((s.length:L) - ((bg l).length:L))=(q:L) from b1.q];go_wp2_with fail;refine(AO _ HT.q).mono ?_;rintro e w3 ⟨rfl,j4⟩;have z6:=C (HT.q.below j4);have k4:=C (HM.q.trans (Mv.of_below j4));have k5:=C (b5.q.mv HT.q (Mv.of_below j4:Mv R c c _ w3).same);clear j4 c1 z1
 cases hE:dO (bg l)
 .obtain⟨i,z,hi⟩:=mQ
  have HI:=C hi;have b6:=C k5.q.l;clear hi;go_wp2_with fail
  go_loopw [2,31] (λv i wr=>∃(k:Nat)(a0:Option Addr)(c0:Nat),k<=9/\v= O a0 k c0/\i= H G k/\Own wr w3.1.size 9 1 encStr (O a0 k c0) (jK.take k)/\Below w3.1.size w3 wr) (λ_ i _=>9 - (RowKit.intOf i).toNat)
  case atStart=>exact⟨0,D,0,aS _,rfl,rfl,Own.eH _ _ _ _ _,U _ _⟩
  case round=>
   obtain⟨k,a0,c0,hk,rfl,rfl,Ξ,ι⟩:=hrel;by_cases b7:k<9
   .obtain⟨Φ,Ψ,Ω⟩:=(b6.q.below (ι:Below w3.1.size w3 wr)).2.1 (k+1) ah
    have p6:wr.cell? ⟨0,3+k*3,D⟩=I (.string ⟨(fw (k+1)).toArray⟩):=by rw[<-Φ];congr 2;omega
    have q0:wr.cell? ⟨0,3+k*3+1,D⟩=I (H G (eU (k+1))):=by rw[<-Ψ];congr 2;omega
    have b8:wr.cell? ⟨0,3+k*3+2,D⟩=I (.int .i32 (iK (k+1))):=by rw[<-Ω];congr 2;omega
    have k6:=C Ξ;have k7:=C ι;clear Φ Ψ Ω Ξ ι;have k8:Hid (Own ((wr.alloc (J #[.string ⟨(fw (k+1)).toArray⟩,H G (eU (k+1)),.int .i32 (iK (k+1))] 118)).alloc (J #[.string ⟨(fw (k+1)).toArray⟩] 9)) w3.1.size 9 1 encStr (O a0 k c0) (jK.take k)):=C ((k6.q.alloc _).alloc _);have k9:Hid (Below w3.1.size w3 ((wr.alloc (J #[.string ⟨(fw (k+1)).toArray⟩,H G (eU (k+1)),.int .i32 (iK (k+1))] 118)).alloc (J #[.string ⟨(fw (k+1)).toArray⟩] 9))):=C (aB (aB k7.q _) _);have b9:Hid (Row ((wr.alloc (J #[.string ⟨(fw (k+1)).toArray⟩,H G (eU (k+1)),.int .i32 (iK (k+1))] 118)).alloc (J #[.string ⟨(fw (k+1)).toArray⟩] 9)) 1 encStr (I ⟨wr.1.size+1,0,D⟩) 1 1 [fw (k+1)]):=C (by have:=Row.str1 (wr.alloc (J #[.string ⟨(fw (k+1)).toArray⟩,H G (eU (k+1)),.int .i32 (iK (k+1))] 118)) (fw (k+1));simpa using this);have f0:Hid ((jK.take k).length+1=k+1):=C (by rw[dJ];show min k 9+1=k+1;omega);have f2:Hid ((k+1)*16<=140737488355328):=C ah;have f3:Hid (k+1<=maxLen):=C (by unfold maxLen;omega);have y0:Hid (w3.1.size<=((wr.alloc (J #[.string ⟨(fw (k+1)).toArray⟩,H G (eU (k+1)),.int .i32 (iK (k+1))] 118)).alloc (J #[.string ⟨(fw (k+1)).toArray⟩] 9)).1.size):=C k9.q.size;have f4:(jK.take k)++[fw (k+1)]=jK.take (k+1):=MJ ⟨k,b7⟩
    go_wp2_with (at_builtin;refine dx rfl _ _ 22 rfl i z 16 underlying22 HI.q.1 HI.q.2.1 HI.q.2.2.1 HI.q.2.2.2.1 HI.q.2.2.2.2 rfl k8.q (I ⟨wr.1.size+1,0,D⟩) 1 1 (k+1) [fw (k+1)] rfl b9.q f0.q f2.q f3.q y0.q ?_;intro a' c' m f5 f6 p7)
    have f7:=below_app k9.q k8.q (aC _) y0.q f6;refine⟨⟨k+1,a',c',aaC,rfl,rfl,by rw[<-f4];exact f5,f7⟩,?_⟩;simp[RowKit.intOf];omega
   .obtain rfl:k=9:=by omega
    have k6:=C Ξ;have k7:=C ι;have y1:=C (z6.q.below ι);have y2:=C (k4.q.trans (Mv.of_below ι));have f8:=C (k5.q.mv z6.q (Mv.of_below ι:Mv R c c w3 wr).same);have f9:Hid (Row wr 1 encStr a0 9 c0 jK):=C (show Row wr 1 encStr a0 9 c0 (jK.take 9) from Own.row Ξ aj);clear Ξ ι;go_wp2_with fail;refine(DC wr y1.q a0 9 c0 jK f9.q ah aj aj).mono ?_;intro e m g;have y3:∀x,gW jK (bg l)= .error x->jv l= .error x:=λx hx=>by unfold jv;rw[ay (by rw[hE];simp),hx]
    cases Z:gW jK (bg l) with
    |error x=>
     rw[Z] at g;obtain⟨rfl,hs⟩:=g;refine⟨rfl,?_⟩;show dA R s c w _ _ _ _;rw[HY.q,y3 x Z];exact⟨rfl,y2.q.iJ hs⟩
    |ok ir=>
     obtain⟨a,r⟩:=ir;rw[Z] at g;obtain⟨rfl,q5,j5,z7⟩:=g;have q1:=C j5;have g0:=C (y2.q.trans z7);have y4:=C (f8.q.mv y1.q z7.same);have p8:=C Z;have g1:=j5.x.1 2;have g2:=f1 j5 2;have j6:a<9:=by
      unfold gW at Z
      split at Z
      .rename_i j hj
       injection Z with Z;injection Z with Z _;have:=(BO.1 hj).1;subst Z
       simpa[jK] using this
      .cases Z
     obtain⟨n6,j7⟩:∃n6:aK,n6={o8 with kind:=((a+1:Nat):L)}:=⟨_,rfl⟩;have j8:=Kk l r a j6 hE Z;rw[<-j7] at j8;have g3:Hid (∀x,jC (kE (a+1)) n6 r= .error x->Y= .error x):=C (λx hx=>by rw[HY.q,j8,hx]);have g4:Hid (∀u n r1,jC (kE (a+1)) n6 r= .ok (u,n,r1)->Y=xD (lu (a+1) n r1)):=C (λu n r1 hx=>by rw[HY.q,j8,hx];rfl);have Q:Hid (n6.bits=0/\n6.first=false/\n6.names.length=0/\n6.aM.length=0):=C (by rw[j7];exact⟨rfl,rfl,rfl,rfl⟩);have g5:wrap64 (1+(a:L))=((a+1:Nat):L):=by unfold wrap64;omega
     have g6:((a:L)+1).toNat=a+1:=by omega
     obtain⟨t,hN,z8⟩:=O8 a;obtain⟨S,Δ⟩:∃S:L,iK (a+1)=S:=⟨_,rfl⟩;obtain⟨Φ,Ψ,Ω⟩:=y4.q.l.2.1 (a+1) ah;have g7:m.cell? ⟨0,(1+a)*3,D⟩=I (.string ⟨(fw (a+1)).toArray⟩):=by rw[<-Φ];congr 2;omega
     have g8:m.cell? ⟨0,(1+a)*3+1,D⟩=I (H G (t:L)):=by rw[<-hN,<-Ψ];congr 2;omega
     have g9:m.cell? ⟨0,(1+a)*3+2,D⟩=I (.int .i32 S):=by rw[<-Δ,<-Ω];congr 2;omega
     have m0:=C j6;have ρ:=C hN;have F:=C z8;have y5:=C Δ;have h9:(a:L)+1<10:=by omega
     obtain⟨c6,y6⟩:∃c6:aW,c6={c with kind:=1+(a:L)}:=⟨_,rfl⟩;have q2:=q1.q.yY 2 (H G (1+(a:L))) {c with kind:=1+(a:L)} {o8 with kind:=((a+1:Nat):L)} aj rfl ⟨rfl,rfl,rfl,rfl,rfl,rfl⟩ ⟨rfl,rfl⟩ ⟨(by show 1+(a:L)=((a+1:Nat):L);omega),q1.q.n.1.2.1,q1.q.n.1.2.2.1,q1.q.n.1.2.2.2.1⟩;rw[<-j7,<-y6] at q2;have z9:=C q2.1;have m1:=C (g0.q.trans q2.2);have m2:=C (y4.q.mv q1.q q2.2.same);have y7:=aB (aB (U (m.setCell ⟨R,2,D⟩ (H G (1+(a:L)))).1.size _) (J #[.string ⟨(fw (a+1)).toArray⟩,H G (t:L),.int .i32 S] 118)) (J #[.func (.func 98) #[M (I ⟨R,0,D⟩)] #[]] 1);have y8:=C y7;have m3:=C ((Bx.new (m.setCell ⟨R,2,D⟩ (H G (1+(a:L)))) #[.string ⟨(fw (a+1)).toArray⟩,H G (t:L),.int .i32 S] 118).alloc (J #[.func (.func 98) #[M (I ⟨R,0,D⟩)] #[]] 1));have v0:=Bx.new ((m.setCell ⟨R,2,D⟩ (H G (1+(a:L)))).alloc (J #[.string ⟨(fw (a+1)).toArray⟩,H G (t:L),.int .i32 S] 118)) #[.func (.func 98) #[M (I ⟨R,0,D⟩)] #[]] 1;rw[show((m.setCell ⟨R,2,D⟩ (H G (1+(a:L)))).alloc (J #[.string ⟨(fw (a+1)).toArray⟩,H G (t:L),.int .i32 S] 118)).1.size=m.1.size+1 by simp[World.setCell]] at v0;have y9:=C v0;have v1:Hid ((m.setCell ⟨R,2,D⟩ (H G (1+(a:L)))).1.size=m.1.size):=C (by simp[World.setCell]);have m4:=C (λW (hb:m.1.size+1<W.1.size) (hv:W.cell? ⟨m.1.size+1,0,D⟩=I (.func (.func 98) #[M (I ⟨R,0,D⟩)] #[]))=>Vl t z8 W (m.1.size+1) (.func (.func 98) #[M (I ⟨R,0,D⟩)] #[]) hb hv rfl);clear j5 z7 y3 Z j8 Φ Ψ Ω q2 y7 v0 hN z8 Δ j6 j7 y6;go_wp2_with fail;refine(m4.q _ y9.q.2.2 (y9.q.1 0)).mono ?_;rintro e y ⟨rfl,j9,v2⟩;have v3:=C (y8.q.bL j9);have ζ:=C (z9.q.below v3.q);have κ:=C (m1.q.trans (Mv.of_below v3.q));have μ:=C (m2.q.below v3.q);have q3:=m3.q.keep j9;rw[v1.q] at q3;have x0:Hid (iX R c6 m.1.size):=C (z9.q.new (by rw[v1.q];exact aC _));have m5:=kS (show m.1.size<m.1.size+1+1 by omega) (show m.1.size+1+1<=y.1.size by have:=j9.size;simpa[World.setCell] using this);have σ:=C q3;have q0:=q3.1 2;have b8:=q3.2.1 2;rw[show(((m.setCell ⟨R,2,D⟩ (H G (1+(a:L)))).alloc (J #[.string ⟨(fw (a+1)).toArray⟩,H G (t:L),.int .i32 S] 118)).alloc (J #[(.func (.func 98) #[M (I ⟨R,0,D⟩)] #[])] 1)).1.size=m.1.size+1+1 by simp[World.setCell]] at v2;have δ:=C v2;have q4:Hid (iX R c6 (m.1.size+1+1)):=C (z9.q.new (by rw[v1.q];omega));have m6:(a=0/\S=108)\/(a=2/\S=118)\/(a=8/\S=103)\/(a=7/\S=109)\/(a=3/\S=115)\/(a=6/\S=116)\/((a=1\/a=4\/a=5)/\S=0):=by
      have j6:=m0.q;have Δ:=y5.q;rcases(by omega:a=0\/a=1\/a=2\/a=3\/a=4\/a=5\/a=6\/a=7\/a=8) with rfl|rfl|rfl|rfl|rfl|rfl|rfl|rfl|rfl <;> simp[iK] at Δ <;> subst Δ <;> simp
     clear j9 v2 q3 g7 g8 g9 g5 g6 h9 g1 g2 y5;have p9:=C (⟨ζ.q,κ.q,μ.q⟩:_/\_/\_);clear m5;rcases m6 with⟨A,rfl⟩|⟨A,rfl⟩|⟨A,rfl⟩|⟨A,rfl⟩|⟨A,rfl⟩|⟨A,rfl⟩|⟨A,rfl⟩
     case' inl=>
      have d:=C A;clear A;have θ:kE (a+1)=V t 0++[1]:=by rw[d.q];unfold kE;rw[<-d.q,ρ.q,d.q];simp
      obtain⟨v4,w8,τ,q6,v5,q7,υ,φ,χ⟩:=Vm t F.q (y.alloc (J #[(.func (.func 99) #[M (I ⟨R,0,D⟩)] #[])] 1)) (m.1.size+1+1) y.1.size (.func (.func 98) #[M (I ⟨R,0,D⟩)] #[]) (.func (.func 99) #[M (I ⟨R,0,D⟩)] #[]) (δ.q.alloc _) ((Bx.new y #[(.func (.func 99) #[M (I ⟨R,0,D⟩)] #[])] 1).1 0);rw[show(y.alloc (J #[(.func (.func 99) #[M (I ⟨R,0,D⟩)] #[])] 1)).1.size=y.1.size+1 by simp] at τ υ φ χ;have ε:=(aB (U y.1.size y) (J #[(.func (.func 99) #[M (I ⟨R,0,D⟩)] #[])] 1)).trans (q7.mono ak);have α:=C (ζ.q.below ε);have ν:=C (κ.q.trans (Mv.of_below ε));have β:=C (μ.q.below ε);have η:=C (σ.q.keep ε);have γ:=C (Gt 1 q6 aaG φ χ);have v6:=C υ;have q0:=η.q.1 2;have v7:=C τ;clear q6 v5 q7 υ φ χ ε τ
      go_wp2_with (at_builtin;refine Bd rfl _ _ 153 rfl rfl rfl v7.q ?_)
      refine(tJ w8 α.q β.q (y.1.size+1) 0 (t+1) v4 _ γ.q (ζ.q.new ah) v6.q aaG aaH aaH).mono ?_
     case' inr.inl=>
      have d:=C A;clear A;have θ:kE (a+1)=V t 0++[2]:=by rw[d.q];unfold kE;rw[<-d.q,ρ.q,d.q];simp
      obtain⟨v4,w8,τ,q6,v5,q7,υ,φ,χ⟩:=Vm t F.q (y.alloc (J #[(.func (.func 100) #[M (I ⟨R,0,D⟩)] #[])] 1)) (m.1.size+1+1) y.1.size (.func (.func 98) #[M (I ⟨R,0,D⟩)] #[]) (.func (.func 100) #[M (I ⟨R,0,D⟩)] #[]) (δ.q.alloc _) ((Bx.new y #[(.func (.func 100) #[M (I ⟨R,0,D⟩)] #[])] 1).1 0);rw[show(y.alloc (J #[(.func (.func 100) #[M (I ⟨R,0,D⟩)] #[])] 1)).1.size=y.1.size+1 by simp] at τ υ φ χ;have ε:=(aB (U y.1.size y) (J #[(.func (.func 100) #[M (I ⟨R,0,D⟩)] #[])] 1)).trans (q7.mono ak);have α:=C (ζ.q.below ε);have ν:=C (κ.q.trans (Mv.of_below ε));have β:=C (μ.q.below ε);have η:=C (σ.q.keep ε);have γ:=C (Gt 2 q6 aaG φ χ);have v6:=C υ;have q0:=η.q.1 2;have v7:=C τ;clear q6 v5 q7 υ φ χ ε τ
      go_wp2_with (at_builtin;refine Bd rfl _ _ 153 rfl rfl rfl v7.q ?_)
      refine(tJ w8 α.q β.q (y.1.size+1) 0 (t+1) v4 _ γ.q (ζ.q.new ah) v6.q aaG aaH aaH).mono ?_
     case' inr.inr.inl=>
      have d:=C A;clear A;have θ:kE (a+1)=V t 0:=by unfold kE;rw[ρ.q,ay aaI,ay aaI];simp
      have α:=C ζ.q;have ν:=C κ.q;have β:=C μ.q;have η:=C σ.q;have γ:=C (wo (R:=R) aaG δ.q);go_wp2_with fail;refine(tJ y α.q β.q (m.1.size+1+1) 0 t t _ γ.q q4.q δ.q.2.2 aaG aaH aaH).mono ?_
     case' inr.inr.inr.inl=>
      have d:=C A;clear A;have θ:kE (a+1)=V t 0:=by unfold kE;rw[ρ.q,ay aaI,ay aaI];simp
      have α:=C ζ.q;have ν:=C κ.q;have β:=C μ.q;have η:=C σ.q;have γ:=C (wo (R:=R) aaG δ.q);go_wp2_with fail;refine(tJ y α.q β.q (m.1.size+1+1) 0 t t _ γ.q q4.q δ.q.2.2 aaG aaH aaH).mono ?_
     case' inr.inr.inr.inr.inl=>
      have d:=C A;clear A;have θ:kE (a+1)=V t 0:=by unfold kE;rw[ρ.q,ay aaI,ay aaI];simp
      have α:=C ζ.q;have ν:=C κ.q;have β:=C μ.q;have η:=C σ.q;have γ:=C (wo (R:=R) aaG δ.q);go_wp2_with fail;refine(tJ y α.q β.q (m.1.size+1+1) 0 t t _ γ.q q4.q δ.q.2.2 aaG aaH aaH).mono ?_
     case' inr.inr.inr.inr.inr.inl=>
      have d:=C A;clear A;have θ:kE (a+1)=V t 0:=by unfold kE;rw[ρ.q,ay aaI,ay aaI];simp
      have α:=C ζ.q;have ν:=C κ.q;have β:=C μ.q;have η:=C σ.q;have γ:=C (wo (R:=R) aaG δ.q);go_wp2_with fail;refine(tJ y α.q β.q (m.1.size+1+1) 0 t t _ γ.q q4.q δ.q.2.2 aaG aaH aaH).mono ?_
     case' inr.inr.inr.inr.inr.inr=>
      have d:=C A;clear A;have θ:kE (a+1)=V t 0:=by unfold kE;rw[ρ.q,ay aaI,ay aaI];simp
      have α:=C ζ.q;have ν:=C κ.q;have β:=C μ.q;have η:=C σ.q;have γ:=C (wo (R:=R) aaG δ.q);go_wp2_with fail;refine(tJ y α.q β.q (m.1.size+1+1) 0 t t _ γ.q q4.q δ.q.2.2 aaG aaH aaH).mono ?_
     all_goals
      intro e w9 g;rw[<-θ] at g
      cases Θ:jC (kE (a+1)) n6 r
      case' error x=>
       rw[Θ] at g;obtain⟨rfl,hs⟩:=g;refine⟨rfl,?_⟩;show dA R s c w _ _ _ _;rw[g3.q x Θ];exact⟨rfl,ν.q.iJ hs⟩
      case' ok v8=>
       obtain⟨u,o,E⟩:=v8;rw[Θ] at g;obtain⟨rfl,q9,c9,x1,q8⟩:=g;have v9:=Eo _ Θ;have m7:(kE (a+1)).length<=3:=by rw[θ];have:=F.q;simp;omega
       have ψ:=C x1;have ξ:=C (ν.q.trans q8);have z0:=C (β.q.mv α.q q8.same);have z2:=C (g4.q _ _ _ Θ);have k0:=C (q8.bx η.q x0.q);have q0:=k0.q.1 2;have ο:Hid (o.names.length<=3/\o.aM.length<=3/\o.bits=0/\o.first=false):=C (by have:=Q.q;exact⟨by omega,by omega,by rw[v9.1];exact this.1,by rw[v9.2.1];exact this.2.1⟩);have r0:Hid (m.1.size<w9.1.size):=C (k0.q.2.2);have m8:Hid (iX R c9 m.1.size):=C (q8.Xj x0.q η.q.2.2);clear x1 q8 v9 m7 Θ θ
     case' inr.inr.inl.ok=>
      have π:lu (a+1) o E=(match kD 5 0 0 E with| .error x=> .error x| .ok (b,r)=> .ok ((),{o with bits:=b},r)):=by unfold lu;rw[aA aaI] <;> rfl
      go_wp2_with fail;refine(EA _ ψ.q z0.q ο.q.2.2.1).mono ?_;intro e ω g;have g:dA R s c9 w9 (λ_:Unit=> .tuple #[]) (lu (a+1) o E) e ω:=by rw[π];exact g
     case' inr.inr.inr.inr.inl.ok=>
      have π:lu (a+1) o E=(match bR true 40 (40+1) 0 o.names o.aM E with| .error x=> .error x| .ok (b,r)=> .ok ((),{o with names:=b.1,aM:=b.2},r)):=by unfold lu;rw[ay aaI,ay aaI,aA aaI] <;> rfl
      go_wp2_with fail;refine(Ac _ ψ.q z0.q 115 40 true (by rfl) (by rfl) aj aaJ aaJ).mono ?_;intro e ω g;have g:dA R s c9 w9 (λ_:Unit=> .tuple #[]) (lu (a+1) o E) e ω:=by rw[π];exact g
     case' inr.inr.inr.inr.inr.inl.ok=>
      have π:lu (a+1) o E=(match bR false 300 (300+1) 0 o.names o.aM E with| .error x=> .error x| .ok (b,r)=> .ok ((),{o with names:=b.1,aM:=b.2},r)):=by unfold lu;rw[ay aaI,ay aaI,ay aaI,aA aaI] <;> rfl
      go_wp2_with fail;refine(Ac _ ψ.q z0.q 116 300 false (by rfl) (by rfl) aj aaJ aaJ).mono ?_;intro e ω g;have g:dA R s c9 w9 (λ_:Unit=> .tuple #[]) (lu (a+1) o E) e ω:=by rw[π];exact g
     case' inr.inr.inr.inl.ok=>
      go_wp2_with fail;refine(OT _ ψ.q ο.q.2.2.2).mono ?_;intro e wf g
      cases j0:jh E
      case' error x=>
       rw[j0] at g;obtain⟨rfl,hs⟩:=g;refine⟨rfl,?_⟩;show dA R s c w _ _ _ _;rw[z2.q,show lu (a+1) o E= .error x by unfold lu;rw[ay aaI,aA aaI,j0],CZ];exact⟨rfl,ξ.q.iJ hs⟩
      case' ok fr=>
       obtain⟨f,rf⟩:=fr;rw[j0] at g;obtain⟨rfl,qf,cf,x2,z3⟩:=g;have m9:=C x2;have p0:=C (ξ.q.trans z3);have p1:=C (z0.q.mv ψ.q z3.same);have p2:=C (z3.bx k0.q m8.q);have q0:=p2.q.1 2;have π:lu (a+1) o E=(match bR false 300 (300+1) 0 {o with first:=f}.names {o with first:=f}.aM rf with| .error x=> .error x| .ok (b,r)=> .ok ((),{{o with first:=f} with names:=b.1,aM:=b.2},r)):=by unfold lu;rw[ay aaI,aA aaI,j0] <;> rfl
       clear x2 z3 j0;go_wp2_with fail;refine(Ac _ m9.q p1.q 109 300 false (by rfl) (by rfl) aj (by have:=ο.q;show o.names.length<=600;omega) (by have:=ο.q;show o.aM.length<=600;omega)).mono ?_;intro e ω g;have g:dA R s cf wf (λ_:Unit=> .tuple #[]) (lu (a+1) o E) e ω:=by rw[π];exact g
       have ξ:=C p0.q
     all_goals
      first
      |have hx:=g
       clear hx
       cases j1:lu (a+1) o E
       case' error x=>
        rw[j1] at g;obtain⟨rfl,hs⟩:=g;refine⟨rfl,?_⟩;show dA R s c w _ _ _ _;rw[z2.q,j1,CZ];exact⟨rfl,ξ.q.iJ hs⟩
       case' ok v8=>
        obtain⟨u,o,E⟩:=v8;rw[j1] at g;obtain⟨rfl,q9,c9,x3,x4⟩:=g;have ψ:=C x3;have ξ:=C (ξ.q.trans x4);have z4:Hid (Y=xD (.ok (u,o,E))):=C (by rw[z2.q,j1]);clear x3 x4 j1 π
      |have z4:Hid (Y=xD (.ok ((),o,E))):=C (z2.q.trans (by unfold lu;rw[ay (by have:=d.q;omega),ay (by have:=d.q;omega),ay (by have:=d.q;omega),ay (by have:=d.q;omega)]))
     all_goals
      go_wp2_with fail;refine(xQ _ ψ.q).mono ?_;intro e wa g
      cases j2:dB E
      case' error x=>
       rw[j2] at g;obtain⟨rfl,hs⟩:=g;refine⟨rfl,?_⟩;show dA R s c w _ _ _ _;rw[z4.q,MK j2];exact⟨rfl,ξ.q.iJ hs⟩
      case' ok br=>
       obtain⟨bb,ra⟩:=br;rw[j2] at g;obtain⟨rfl,qa,k1,x5⟩:=g;have x6:=C k1;have x7:=C (ξ.q.trans x5);have x8:=C j2;have c1:=k1.c1;clear k1 x5 j2
       cases bb
       .go_wp2_with fail
        refine bodyPost_end (results_none rfl _ _ _) rfl ?_;show dA R s c w _ _ _ _;rw[z4.q,Kl x8.q];exact⟨rfl,qa,_,x6.q,x7.q⟩
       .go_wp2_with fail
        refine(jS qa 220 _).mono ?_;rintro e wb ⟨rfl,rfl⟩;refine⟨rfl,?_⟩;show dA R s c w _ _ _ _;rw[z4.q,ML x8.q];have:=x6.q.len;exact⟨by rw[show s.length - ra.length=qa by omega],x7.q.same⟩
 .go_wp2_with fail
  refine bodyPost_end (results_none rfl _ _ _) rfl ?_;show dA R s c w _ _ _ _;rw[HY.q];unfold jv;rw[aA hE];exact⟨rfl,q,c,z6.q,k4.q⟩
def bN (s:Bs)(p:L):aK × L × L:=
 if p<0\/(s.length:L)<p then(o8,0,2)
 else match sj (s.drop p.toNat) with
  | .ok (n,r)=>(n,((s.length - r.length:Nat):L),0)
  | .error (r,m)=>(o8,((s.length - r.length:Nat):L),m)
def uK (x:aK × L × L)(w:World)(e:Ending)(w':World):Prop:=
 ∃c:aW,e= .returned (.tuple #[dH c,H G x.2.1,H G x.2.2])/\dZ w' w.1.size c x.1/\Below w.1.size w w'
@[reducible] def jZ:aW:=⟨0,D,0,0,0,D,0,0,false,0⟩
theorem oQ (w:World)(B:Nat):dZ w B jZ o8:=⟨⟨rfl,rfl,rfl,rfl,rfl,rfl⟩,Own.eH _ _ _ _ _,Own.eH _ _ _ _ _⟩
theorem Km (h:dB l= .ok (false,r)):dO r=true:=by
 unfold dB at h
 split at h
 .rename_i a
  injection h with h;injection h with _ h;rw[<-h];exact a
 .split at h
  .cases h
  .injection h with h;injection h with h _;cases h
theorem DU {n:aK}(h:jv l= .ok (n,r)):dO r=true:=by
 unfold jv at h
 split at h
 .rename_i a
  injection h with h;injection h with _ h;rw[<-h];exact a
 .split at h
  .cases h
  .split at h
   .cases h
   .split at h
    .cases h
    .split at h
     .cases h
     .cases h
     .rename_i d
      injection h with h;injection h with _ h;rw[<-h];exact Km d
theorem size_alloc (w:World)(o:Obj):(w.alloc o).1.size=w.1.size+1:=by simp
theorem RN {n:aK}(h:jv l= .ok (n,r)):
  (qc r).2=0/\(∃t,sj l= .ok (n,t)/\t.length+(qc r).1=r.length)\/(qc r).2≠0/\(∃t,sj l= .error (t,220)/\t.length+(qc r).1=r.length):=by
 have j:(dI r).length<=r.length:=by unfold dI;split <;> simp
 unfold sj;rw[h];unfold qc;simp only[];by_cases d:(dI r).head?=D
 .rw[aA d,aA d];exact .inl ⟨rfl,[],rfl,by simp⟩
 .rw[ay d,ay d]
  by_cases g:(dI r).head?=I 10
  .rw[aA g,aA g]
   refine .inl ⟨rfl,_,rfl,?_⟩;have:1<=(dI r).length:=by
    cases i:dI r with
    |nil=>rw[i] at d;exact absurd rfl d
    |cons a t=>simp
   simp only[List.length_tail];omega
  .rw[ay g,ay g]
   exact .inr ⟨by simp,_,rfl,by simp only[];omega⟩
theorem sM {n:aK}{g i:L}(d:Array Value)(c:aW)(w w':World)(j:d[4]?.getD undef= M (I ⟨w.1.size,0,D⟩))(l:d[5]?.getD undef= M (I ⟨w.1.size+1,0,D⟩))
  (m:d[6]?.getD undef= M (I ⟨w.1.size+1+1,0,D⟩)) (a:Bx w' w.1.size (bJ c)) (o:Bx w' (w.1.size+1) #[H G g]) (p:Bx w' (w.1.size+1+1) #[H G i])
  (q:dZ w' w.1.size c n) (r:Below w.1.size w w'):Leaves Tryz.prog Tryz.f23 d (uK (n,g,i) w) [] .returning w':=by
 have s:=a.1 0;have t:=a.1 1;have u:=a.1 2;have v:=a.1 3;have x:=a.1 4;have y:=a.1 5;have z:=o.1 0;have A:=p.1 0;refine⟨.tuple #[dH c,H G g,H G i],?_,c,rfl,q,r⟩;simp[results,results23,go_sem,j,l,m,s,t,u,v,x,y,z,A]
theorem Le (s:Bs)(o:L)(Δ:s.length<=1000000)(w:World)(hT:Lib.Utf8Tabs 7 8 w)(hE:uQ w)(hL:mF w):
  Calls Tryz.prog 23 #[.string ⟨s.toArray⟩,H G o] w (uK (bN s o) w):=by
 have hz:=dW s;by_cases u:o<0
 .have q3:decide (o<0)=true:=by simpa using u
  have hr:bN s o=(o8,0,2):=by unfold bN;rw[aA (.inl u)]
  rw[hr];clear hr u hT hE hL
  go_enter_defers func23,ntmps23
  go_wp2_with fail;refine sM _ jZ w _ rfl rfl rfl ?_ ?_ ?_ ?_ ?_
  .exact((Bx.new w #[H G 0,O D 0 0,H G 0,O D 0 0,.bool false,H G 0] 34).alloc _).alloc _
  .have:=(Bx.new (w.alloc (J #[H G 0,O D 0 0,H G 0,O D 0 0,.bool false,H G 0] 34)) #[H G 0] 3).alloc (J #[H G 2] 27)
   rw[size_alloc] at this;exact this
  .have:=Bx.new ((w.alloc (J #[H G 0,O D 0 0,H G 0,O D 0 0,.bool false,H G 0] 34)).alloc (J #[H G 0] 3)) #[H G 2] 27
   rw[size_alloc,size_alloc] at this;exact this
  .exact oQ _ _
  .exact(((U w.1.size w).alloc (aC _) _).alloc ak _).alloc aaF _
 .have q3:decide (o<0)=false:=by simpa using u
  by_cases q:(s.length:L)<o
  .have q4:decide ((s.length:L)<o)=true:=by simpa using q
   have hr:bN s o=(o8,0,2):=by unfold bN;rw[aA (.inr q)]
   rw[hr];clear hr u q hT hE hL
   go_enter_defers func23,ntmps23
   go_wp2_with fail;refine sM _ jZ w _ rfl rfl rfl ?_ ?_ ?_ ?_ ?_
   .exact((Bx.new w #[H G 0,O D 0 0,H G 0,O D 0 0,.bool false,H G 0] 34).alloc _).alloc _
   .have:=(Bx.new (w.alloc (J #[H G 0,O D 0 0,H G 0,O D 0 0,.bool false,H G 0] 34)) #[H G 0] 3).alloc (J #[H G 2] 27)
    rw[size_alloc] at this;exact this
   .have:=Bx.new ((w.alloc (J #[H G 0,O D 0 0,H G 0,O D 0 0,.bool false,H G 0] 34)).alloc (J #[H G 0] 3)) #[H G 2] 27
    rw[size_alloc,size_alloc] at this;exact this
   .exact oQ _ _
   .exact(((U w.1.size w).alloc (aC _) _).alloc ak _).alloc aaF _
  .have q4:decide ((s.length:L)<o)=false:=by simpa using q
   obtain⟨p,rfl⟩:∃p:Nat,o=(p:L):=⟨o.toNat,aaC⟩;have hp:p<=s.length:=by omega
   have j3:∀(fn:Fn)(first cap:Array Value)(w:World),(Instr.makeFunc fn first cap).run Tryz.prog w= .ok (.func fn first cap) w:=λ_ _ _ _=>rfl
   clear u q
   go_enter_defers func23,ntmps23
   have ζ:=(((U w.1.size w).alloc (aC _) (J #[H G 0,O D 0 0,H G 0,O D 0 0,.bool false,H G 0] 34)).alloc ak (J #[H G 0] 3)).alloc aaF (J #[H G 0] 27)|>.alloc aaF (J (oV s p jZ) 103);have ξ:=(((Bx.new w #[H G 0,O D 0 0,H G 0,O D 0 0,.bool false,H G 0] 34).alloc (J #[H G 0] 3)).alloc (J #[H G 0] 27)).alloc (J (oV s p jZ) 103);have η:=((Bx.new (w.alloc (J #[H G 0,O D 0 0,H G 0,O D 0 0,.bool false,H G 0] 34)) #[H G 0] 3).alloc (J #[H G 0] 27)).alloc (J (oV s p jZ) 103);have θ:=(Bx.new ((w.alloc (J #[H G 0,O D 0 0,H G 0,O D 0 0,.bool false,H G 0] 34)).alloc (J #[H G 0] 3)) #[H G 0] 27).alloc (J (oV s p jZ) 103);have ι:=Bx.new (((w.alloc (J #[H G 0,O D 0 0,H G 0,O D 0 0,.bool false,H G 0] 34)).alloc (J #[H G 0] 3)).alloc (J #[H G 0] 27)) (oV s p jZ) 103;obtain⟨b,hb⟩:∃b,b=w.1.size:=⟨_,rfl⟩;obtain⟨W4,ο⟩:∃W4,W4=(((w.alloc (J #[H G 0,O D 0 0,H G 0,O D 0 0,.bool false,H G 0] 34)).alloc (J #[H G 0] 3)).alloc (J #[H G 0] 27)).alloc (J #[.string ⟨s.toArray⟩,H G (p:L),H G 0,O D 0 0,H G 0,O D 0 0,.bool false,H G 0] 103):=⟨_,rfl⟩;rw[<-ο] at ζ ξ η θ ι;simp only[size_alloc] at η θ ι;have π:qE (w.1.size+1+1+1) W4:=⟨w,aaC,ζ,hT,hE,hL⟩;have α:dL W4 (w.1.size+1+1+1) s p (s.drop p) jZ o8:=⟨ι,oQ _ _,rfl,hp,Δ⟩;have q5:=C (RL W4 α π);have HX:=C (⟨ξ,η,θ⟩:_/\_/\_);have β:Hid (iX (w.1.size+1+1+1) jZ w.1.size/\iX (w.1.size+1+1+1) jZ (w.1.size+1)/\iX (w.1.size+1+1+1) jZ (w.1.size+1+1)):=C ⟨α.old ah,α.old ah,α.old ah⟩;have κ:=C ζ;have q6:=C π;have ρ:=C α;have q7:=C ο;clear ο ξ η θ ι ζ π α hE hL hb;go_wp2_with fail;rw[<-q7.q];refine q5.q.mono ?_;intro e w5 he
   cases E:jv (s.drop p) with
   |error x=>
    rw[E] at he;obtain⟨rfl,hs⟩:=he;have F:bN s p=(o8,((s.length - x.1.length:Nat):L),x.2):=by
     unfold bN sj;rw[ay ah,gF,E]
    rw[F];refine leaves_cons (f:=40) (args:=#[M (I ⟨w.1.size,0,D⟩),M (I ⟨w.1.size+1,0,D⟩),M (I ⟨w.1.size+1+1,0,D⟩)]) ak (by simp[go_sem]) ?_;refine(Ep w.1.size ((s.length - x.1.length:Nat):L) x.2 _ _ _ _ _ _ _ _ [] w5 (hs.bx HX.q.1 β.q.1) (hs.bx HX.q.2.1 β.q.2.1) (hs.bx HX.q.2.2 β.q.2.2)).mono ?_;rintro e u' w6 ⟨rfl,rfl,k1,k2,k3,k4⟩;exact sM _ jZ w w6 rfl rfl rfl k1 k2 k3 (oQ _ _) ((hs.below κ.q (λi hi=>ρ.q.old ah) κ.q.size).trans k4)
   |ok nr=>
    obtain⟨n,r⟩:=nr;rw[E] at he;obtain⟨rfl,p5,d,σ,Q⟩:=he;have Θ:=C (RN E);have δ:=C σ;have j4:=C Q;have q8:=C (⟨Q.bx HX.q.1 β.q.1,Q.bx HX.q.2.1 β.q.2.1,Q.bx HX.q.2.2 β.q.2.2⟩:_/\_/\_);have q9:=C (q6.q.mv ρ.q Q.same).tabs;have Ξ:=C (Q.same.below κ.q (λi hi=>ρ.q.old ah) κ.q.size);have c1:=σ.c1;have j0:=C (DU E);have j5:=C E;clear σ Q E;go_wp2_with fail;refine(Vn s p5 r δ.q.d δ.q.le Δ j0.q w5 q9.q).mono ?_;rintro e w6 ⟨k,a,t,g,rfl,μ⟩;have Φ:=C (δ.q.below μ);have γ:=EF q8.q μ;have τ:=C γ;have j1:=C (Ξ.q.bL μ);have y1:=γ.2.1.1 0;have y2:=γ.2.2.1 0;have g1:=γ.2.1.2.1 0;have g2:=γ.2.2.2.1 0;obtain⟨er,υ⟩:∃er,er=(qc r).2:=⟨_,rfl⟩;obtain⟨l,φ⟩:∃l,l=p5+(qc r).1:=⟨_,rfl⟩;rw[<-υ,<-φ];rw[<-υ] at Θ;have Ψ:=C φ;clear μ γ c1 υ φ;obtain⟨v,hV⟩:∃v:World,v=(w6.setCell ⟨w.1.size+1,0,D⟩ (H G (l:L))).setCell ⟨w.1.size+1+1,0,D⟩ (H G er):=⟨_,rfl⟩;have m:Hid (Bx v w.1.size #[H G 0,O D 0 0,H G 0,O D 0 0,.bool false,H G 0]/\Bx v (w.1.size+1) #[H G (l:L)]/\Bx v (w.1.size+1+1) #[H G er]/\dL v (w.1.size+1+1+1) s p5 r d n/\Below w.1.size w v):=C (by
     rw[hV];refine⟨(τ.q.1.setOther _ _ _ ah).setOther _ _ _ ah,(τ.q.2.1.aX 0 ak _).setOther _ _ _ ah,(τ.q.2.2.setOther _ _ _ ah).aX 0 ak _,?_,?_⟩
     .have q:=Φ.q.put (w.1.size+1) 0 (H G (l:L)) (Φ.q.old ah)
      exact q.put (w.1.size+1+1) 0 _ (q.old ah)
     .exact(j1.q.setCell (p:=⟨w.1.size+1,0,D⟩) ak _).setCell (p:=⟨w.1.size+1+1,0,D⟩) aaF _)
    have Ω:=C hV;clear hV;rcases Θ.q with⟨u,t',hl,χ⟩|⟨u,t',hl,χ⟩
    .subst u
     have F:bN s p=(n,(l:L),0):=by
      unfold bN;rw[ay ah,gF,hl];have:=δ.q.len;have:=Ψ.q;simp only[show s.length - t'.length=l by omega]
     have ψ:=C F;clear hl χ F;go_wp2_with fail;rw[<-Ω.q];have v1:=m.q.2.1.1 0;have v2:=m.q.2.2.1.1 0;have v0:=m.q.1.1;have k0:=m.q.1.2.1;have k1:=m.q.2.1.2.1 0;have k2:=m.q.2.2.1.2.1 0;have R:=m.q.2.2.2.1.x.1;obtain⟨y,ω⟩:∃y:World,y=((((((v.setCell ⟨w.1.size,0,D⟩ (H G d.kind)).setCell ⟨w.1.size,1,D⟩ (O d.na d.nn d.nc)).setCell ⟨w.1.size,2,D⟩ (H G d.lvl)).setCell ⟨w.1.size,3,D⟩ (O d.va d.vn d.vc)).setCell ⟨w.1.size,4,D⟩ (.bool d.first)).setCell ⟨w.1.size,5,D⟩ (H G d.bits)).drew:=⟨_,rfl⟩;have j:Hid (Bx y w.1.size (bJ d)/\Bx y (w.1.size+1) #[H G (l:L)]/\Bx y (w.1.size+1+1) #[H G 0]/\dL y (w.1.size+1+1+1) s p5 r d n/\Below w.1.size w y):=C (by
      rw[ω];refine⟨?_,?_,?_,?_,?_⟩
      .exact((((((m.q.1.aX 0 ak _).aX 1 ak _).aX 2 ak _).aX 3 ak _).aX 4 ak _).aX 5 ak _).drew
      .exact((((((m.q.2.1.setOther _ 0 _ ah).setOther _ 1 _ ah).setOther _ 2 _ ah).setOther _ 3 _ ah).setOther _ 4 _ ah).setOther _ 5 _ ah).drew
      .exact((((((m.q.2.2.1.setOther _ 0 _ ah).setOther _ 1 _ ah).setOther _ 2 _ ah).setOther _ 3 _ ah).setOther _ 4 _ ah).setOther _ 5 _ ah).drew
      .have hA:=m.q.2.2.2.1.old (i:=w.1.size) ah
       exact((((((m.q.2.2.2.1.put _ 0 _ hA).put _ 1 _ hA).put _ 2 _ hA).put _ 3 _ hA).put _ 4 _ hA).put _ 5 _ hA).drew
      .exact((((((m.q.2.2.2.2.setCell (p:=⟨w.1.size,0,D⟩) (aC _) _).setCell (p:=⟨w.1.size,1,D⟩) (aC _) _).setCell (p:=⟨w.1.size,2,D⟩) (aC _) _).setCell (p:=⟨w.1.size,3,D⟩) (aC _) _).setCell (p:=⟨w.1.size,4,D⟩) (aC _) _).setCell (p:=⟨w.1.size,5,D⟩) (aC _) _).drew)
     have j2:=C ω;clear ω;refine aD 99 [(0,0),(1,0),(2,0),(3,0),(4,0),(5,2),(6,2),(7,2)] (λ_=>True) (λW'=>W'.cell? ⟨w.1.size+1+1+1,2,D⟩=I (H G d.kind)/\W'.cell? ⟨w.1.size+1+1+1,3,D⟩=I (O d.na d.nn d.nc)/\W'.cell? ⟨w.1.size+1+1+1,4,D⟩=I (H G d.lvl)/\W'.cell? ⟨w.1.size+1+1+1,5,D⟩=I (O d.va d.vn d.vc)/\W'.cell? ⟨w.1.size+1+1+1,6,D⟩=I (.bool d.first)/\W'.cell? ⟨w.1.size+1+1+1,7,D⟩=I (H G d.bits)/\W'.cell? ⟨w.1.size+1,0,D⟩=I (H G (l:L))) au au (trivial) (⟨R 2,R 3,R 4,R 5,R 6,R 7,v1⟩) ?_;refine qC ?_;refine aG rfl rfl (λK z=>?_);go_simp;rw[<-j2.q];refine z _ _ ⟨trivial,j.q.2.2.2.1.x.1 2,j.q.2.2.2.1.x.1 3,j.q.2.2.2.1.x.1 4,j.q.2.2.2.1.x.1 5,j.q.2.2.2.1.x.1 6,j.q.2.2.2.1.x.1 7,j.q.2.1.1 0⟩ ?_;clear z K v1 v2 v0 k0 k1 k2 R;have v1:=j.q.2.1.1 0;have v2:=j.q.2.2.1.1 0;have k1:=j.q.2.1.2.1 0;have k2:=j.q.2.2.1.2.1 0;have ν:=j.q.2.2.2.1.put (w.1.size+1) 0 (H G (l:L)) (j.q.2.2.2.1.old ah);have q0:=ν.put (w.1.size+1+1) 0 (H G 0) (ν.old ah);have Γ:=j.q.2.1.aX 0 ak (H G (l:L));have q1:=Γ.setOther (w.1.size+1+1) 0 (H G 0) ah;have S:=C (⟨ν,Γ⟩:_/\_);have Z:=C (⟨q0,q1⟩:_/\_);clear ν q0 Γ q1;refine aG rfl rfl (λK z=>?_);go_simp;refine z _ _ ⟨trivial,S.q.1.x.1 2,S.q.1.x.1 3,S.q.1.x.1 4,S.q.1.x.1 5,S.q.1.x.1 6,S.q.1.x.1 7,S.q.2.1 0⟩ ?_;clear z K;refine aG rfl rfl (λK z=>?_);go_simp;refine z _ _ ⟨trivial,Z.q.1.x.1 2,Z.q.1.x.1 3,Z.q.1.x.1 4,Z.q.1.x.1 5,Z.q.1.x.1 6,Z.q.1.x.1 7,Z.q.2.1 0⟩ ?_;clear z K;refine aH ?_;go_wp2_with fail;obtain⟨A,q2⟩:∃A:World,A=(y.setCell ⟨w.1.size+1,0,D⟩ (H G (l:L))).setCell ⟨w.1.size+1+1,0,D⟩ (H G 0):=⟨_,rfl⟩;rw[<-q2];have ε:Bx A w.1.size (bJ d)/\Bx A (w.1.size+1) #[H G (l:L)]/\Bx A (w.1.size+1+1) #[H G 0]/\dL A (w.1.size+1+1+1) s p5 r d n/\Below w.1.size w A:=by
      rw[q2];refine⟨(j.q.1.setOther _ 0 _ ah).setOther _ 0 _ ah,(j.q.2.1.aX 0 ak _).setOther _ 0 _ ah,(j.q.2.2.1.setOther _ 0 _ ah).aX 0 ak _,?_,?_⟩
      .have q:=j.q.2.2.2.1.put (w.1.size+1) 0 (H G (l:L)) (j.q.2.2.2.1.old ah)
       exact q.put (w.1.size+1+1) 0 _ (q.old ah)
      .exact(j.q.2.2.2.2.setCell (p:=⟨w.1.size+1,0,D⟩) ak _).setCell (p:=⟨w.1.size+1+1,0,D⟩) aaF _
     refine leaves_cons (f:=40) (args:=#[M (I ⟨w.1.size,0,D⟩),M (I ⟨w.1.size+1,0,D⟩),M (I ⟨w.1.size+1+1,0,D⟩)]) ak (by simp[go_sem]) ?_;refine(O9 w.1.size A).mono ?_;rintro e u' w7 ⟨rfl,rfl,rfl⟩;rw[ψ.q];exact sM _ d w w7 rfl rfl rfl ε.1 ε.2.1 ε.2.2.1 (ε.2.2.2.1.n.mono ah) ε.2.2.2.2
    .have j6:(er !=0)=true:=by simpa using u
     have F:bN s p=(o8,(l:L),220):=by
      unfold bN;rw[ay ah,gF,hl];have:=δ.q.len;have:=Ψ.q;simp only[show s.length - t'.length=l by omega]
     have ψ:=C F;clear hl χ F;go_wp2_with fail;rw[<-Ω.q];refine(jS l 220 _).mono ?_;rintro e wb ⟨rfl,rfl⟩;refine leaves_cons (f:=40) (args:=#[M (I ⟨w.1.size,0,D⟩),M (I ⟨w.1.size+1,0,D⟩),M (I ⟨w.1.size+1+1,0,D⟩)]) ak (by simp[go_sem]) ?_;refine(Ep w.1.size (l:L) 220 _ _ _ _ _ _ _ _ [] wb m.q.1 m.q.2.1 m.q.2.2.1).mono ?_;rintro e u' w7 ⟨rfl,rfl,k1,k2,k3,k4⟩;rw[ψ.q];exact sM _ jZ w w7 rfl rfl rfl k1 k2 k3 (oQ _ _) (m.q.2.2.2.2.trans k4)
theorem C8 (i:Bool)(j:Nat):∀(f g:Nat)(a:List Bs)(d:List To)(l:Bs){x:List Bs × List To}{r:Bs},bR i j f g a d l= .ok (x,r)->x.1.length<=a.length+f/\x.2.length<=d.length+f
 |0,g,a,d,l,x,r,h=>by rw[bR] at h;grind
 |f+1,g,a,d,l,x,r,h=>by
  have m:= @C8 i j f;rw[bR] at h
  repeat' split at h
  all_goals grind
theorem Es:∀(k:Nat)(a:List Bs)(l:Bs){d:List Bs}{r:Bs},mK k a l= .ok (d,r)->d.length<=a.length+k
 |0,a,l,d,r,h=>by rw[mK] at h;grind
 |k+1,a,l,d,r,h=>by
  have g:= @Es k;rw[mK] at h
  repeat' split at h
  all_goals grind
theorem Pb {k:Nat}{i:List Bs}{n:aK}(h:uS k i l= .ok (n,r)):n.names.length<=i.length+301/\n.aM.length<=301:=by
 unfold uS at h
 repeat' split at h
 all_goals grind [->C8]
theorem Pd (k:Nat):(eU k).toNat<=2:=by
 unfold eU
 grind
theorem MN {n:aK}(h:jv l= .ok (n,r)):n.names.length<=1000/\n.aM.length<=1000:=by
 unfold jv at h
 repeat' split at h
 all_goals grind [->Es,->Pb,!Pd]
theorem Jv (s:Bs)(p:L):(bN s p).1.names.length<=1000/\(bN s p).1.aM.length<=1000:=by
 unfold bN sj
 repeat' split
 all_goals grind [->MN]
end Yd
namespace Yd
open Option renaming none->G,some->U
open Go Go.RowKit Go.Proofs Go.Maps Tryz
open Go.Obj renaming cells->J
open Go.Value renaming slice->H
open _root_ renaming Int->I,List->O
section
variable {P:Program}{k e T:TypeId}{W W':World}{b n:Nat}{f:I->I->Option I}
theorem kH.Vo (h:kH P k e W b n f)(K:WideMaps.KeyLaw P k)(r:P.underlying T=U (.map k e))(s:P.underlying e=U (.int .i64))(u:(zeroValue e).run P W= .ok (.int .i64 0) W){t x:I}{i:Lit}(m:keyOf P k (lX t x)=U i):
  (Instr.lookup T (.map (U b)) (lX t x) true).run P W= .ok (.tuple #[.int .i64 ((f t x).getD 0),.bool (f t x).isSome]) W:=by
 obtain⟨D,R,⟨es,S,v,F,Z,j⟩,w⟩:=h;obtain⟨d,o⟩:=w t x i m;rcases Maps.fit_look true (Keyed.of_law K) r u v F m with⟨l,_,p⟩|⟨e0,y,_,_,l,A,q,_⟩
 .have a:=p (.lit (.int .i64 0))
  rw[<-j] at a;rw[a] at d;injection d with d;injection d with _ d;have g:=has_false_of_atKey (D:=D) (k:=i) (λz=>by rw[j];exact p z);rw[o] at g;rw[<-d,g];exact l
 .obtain⟨c,E,Q,_⟩:=plainElem_int_inv s A
  have a:=q (.lit (.int .i64 0));rw[<-j,d] at a;rw[Q] at a;injection a with a;injection a with _ a;have g:=has_true_of_atKey (D:=D) (k:=i) (λz=>by rw[j];exact q z);rw[o] at g;rw[a,g];rw[E] at l;exact l
end
theorem MO:55<Tryz.prog.types.size:=oH au
theorem RO:(match Tryz.prog.underlying 55 with|some (.array _ _)|some (.struct _)=>true|_=>false)=true:=au
theorem RQ:laidOutB Tryz.prog=true:=au
theorem WK:Tryz.prog.keyTypeAt 3 55=true:=au
theorem MP:WideMaps.KeyLaw Tryz.prog 55:=deep_law_laid RQ (m:=3) ah MO WK RO
theorem RS:Tryz.prog.keyType 55=true:=au
theorem Gu:Tryz.prog.cellsOf 55=2:=au
theorem Vp:Tryz.prog.cellsOf 3=1:=au
theorem RU (u:World):(zeroValue 3).run Tryz.prog u= .ok (.int .i64 0) u:=au
theorem RV (t x:I)(a:(Lit.int .i64 t).wf=true)(d:(Lit.int .i64 x).wf=true)(n:Nat):Tryz.prog.keyLits (n+2) 55 [.int .i64 t,.int .i64 x]=U [.int .i64 t,.int .i64 x]:=by
 have g:Tryz.prog.keyLits (n+1) 3 [.int .i64 t]=U [.int .i64 t]:=by
  unfold Program.keyLits;rw[underlying3];simp[a]
 have i:Tryz.prog.keyLits (n+1) 3 [.int .i64 x]=U [.int .i64 x]:=by
  unfold Program.keyLits;rw[underlying3];simp[d]
 unfold Program.keyLits;rw[underlying55];simp[Gu,Vp,List.mapM_cons,List.range,List.range.loop,g,i]
theorem MQ {t x:I}(a:(Lit.int .i64 t).wf=true)(d:(Lit.int .i64 x).wf=true):keyOf Tryz.prog 55 (lX t x)=U (.string (keyBytes [.int .i64 t,.int .i64 x])):=by
 have g:Tryz.prog.types.size+1=(Tryz.prog.types.size - 1)+2:=by have:=MO;omega
 unfold keyOf;rw[underlying55];simp only[RS,g];rw[aA (by simp[Value.formed,underlying55,Gu])];rw[show(lX t x).cells.toList=[.int .i64 t,.int .i64 x] from rfl,RV t x a d]
 rfl
def zn (a:O (I × I))(s n:I):Option I:=if n∈bZ a s then U ((bZ a s).idxOf n:I) else G
def xE (a:O (I × I)):Nat:=(bZ a 0).length+(bZ a 1).length+(bZ a 2).length+(bZ a 3).length
@[reducible] def rX (m:Nat->Sl):Array Value:=#[(m 0).v,(m 1).v,(m 2).v,(m 3).v]
theorem sN (m:Nat->Sl){s:Nat}(a:s<4):(rX m)[s]?=U (m s).v:=by
 grind
variable{X:World}{b:Nat}
theorem Bx.WL {m:Nat->Sl}(h:Bx X b (rX m)){s:Nat}(a:s<4)(v:Sl):Bx (X.setCell ⟨b,s,G⟩ v.v) b (rX λi=>if i=s then v else m i):=by
 refine⟨λi=>?_,λi=>by rw[World.frozen?_setCell];exact h.2.1 i,by have:=h.2.2;simpa[World.setCell] using this⟩;by_cases d:i=s
 .subst d
  rw[World.cell?_setCell_same' _ _ _ (by rw[h.1 i,sN m a];rfl),sN _ a,aA rfl]
 .rw[World.cell?_setCell_other _ _ _ _ (λe=>by cases e;exact d rfl),h.1 i]
  grind
variable{K:O (I × I)}{s:I}
theorem Ad {n:I}(h:n∈bZ K s):bZ (K++[(s,n)])=bZ K:=by
 grind [jQ,kG]
theorem tN {n:I}(h:n∉bZ K s)(t:I):bZ (K++[(s,n)]) t=if s=t then bZ K t++[n] else bZ K t:=by
 grind [jQ,kG]
theorem RX {n:I}(h:n∉bZ K s):zn (K++[(s,n)])=λt x=>if t=s/\x=n then U ((bZ K s).length:I) else zn K t x:=by
 grind [zn,tN,bZ]
theorem lU (a:Option Addr)(q:Nat):∃g o,oJ a q=(⟨g,o,G⟩:Addr):=by
 cases a with
 |none=>grind
 |some x=>grind
def mP (l:O (I × Addr)):Prop:=∀p∈l,∃g o,p.2=(⟨g,o,G⟩:Addr)
theorem mP.gr {α:Type}{d:Nat->α->O (I × Addr)}{g:α->O (I × Addr)}{xs:O α}(l:∀i x,mP (d i x))(m:∀x,mP (g x)):mP (gr d g 0 xs):=λp a=>by
 obtain⟨j,x,_,a⟩:=(eT xs 0 p).1 a;rcases a with a|a
 .exact l _ _ p a
 .exact m _ p a
theorem mP.nil:mP []:=λp a=>by cases a
theorem mP.bF (a:Option Addr)(q:Nat)(v:je):mP (iR (oJ a q) v):=λp d=>by
 rw[(nO.1 d).1];exact lU a q
theorem mP.sn (a:Option Addr)(l:O Sn):mP (oo a 0 l):=mP.gr (λi x p d=>by
 rcases dP.1 d with rfl|d
 .exact lU a _
 .exact mP.bF a _ _ p d) (λ_=>mP.nil)
theorem mP.ints (a:Option Addr)(l:O I):mP (kZ a 0 l):=mP.gr (λi x p d=>by
 rw[dw.1 d];exact lU a _) (λ_=>mP.nil)
theorem mP.all (h:HC)(d:O EvC)(g:O aO)(j:O aP)(l:O Wa)(m:EvC->O Sn)(o:aO->O I)(q:aP->O I):mP (aV h d g j l m o q):=λp a=>by
 unfold aV at a;rcases cu.1 a with a|a
 .refine mP.gr (λi x p a=>?_) (λx=>mP.sn _ _) p a
  unfold sP at a;rcases dP.1 a with rfl|a
  .exact lU _ _
  .split at a
   .rw[dw.1 a];exact lU _ _
   .split at a
    .rcases dP.1 a with rfl|a
     .exact lU _ _
     .exact mP.bF _ _ _ p a
    .split at a
     .rw[dw.1 a];exact lU _ _
     .cases a
 .rcases cu.1 a with a|a
  .exact mP.gr (λi x p a=>by rw[dw.1 a];exact lU _ _) (λx=>mP.ints _ _) p a
  .rcases cu.1 a with a|a
   .exact mP.gr (λi x p a=>by
     rcases dP.1 a with rfl|a
     .exact lU _ _
     .rw[dw.1 a];exact lU _ _) (λx=>mP.ints _ _) p a
   .exact mP.gr (λi x p a=>by rw[dw.1 a];exact lU _ _) (λ_=>mP.nil) p a
variable{B g:Nat}{v:Value}
theorem Own.Vq {α:Type}{enc:α->O Value}{k:Nat}{T:TypeId}{xs:O α}(h:Own X B T k enc v xs)(a:v.ownBlock=U g):∃cs,X.1[g]?=U (J cs T (0,0)):=by
 obtain⟨_,i⟩:=h;rcases i with⟨d,_⟩|⟨j,l,m,d,_,o,_⟩
 .rw[d] at a;cases a
 .rw[d] at a
  injection a with a
  grind
def Ae (X:World)(g:Nat):Prop:=∃a T,X.1[g]?=U (J a T (0,0))
theorem Ae.frozen {j:Nat}(h:Ae X g):X.frozen? ⟨g,j,G⟩=false:=by
 obtain⟨a,T,h⟩:=h;unfold World.frozen?
 grind
variable{h:HC}{E:O EvC}
theorem Lay.soft {j:O aO}{z:O aP}{A:O Wa}{Z:EvC->O Sn}{dn:aO->O I}{mn:aP->O I}(l:Lay X B h E j z A Z dn mn){p:I × Addr}(hp:p∈aV h E j z A Z dn mn):Ae X p.2.block/\B<=p.2.block:=by
 have F:∀{α:Type}{u:α->O Value}{k:Nat}{T:TypeId}{a:Option Addr}{n c:Nat}{s:O α},Own X B T k u (H a n c) s->a.map Addr.block=U p.2.block->Ae X p.2.block/\B<=p.2.block:=λo ha=>by
  rcases o.sJ with⟨q,_⟩|⟨g,q,_,_,hB⟩
  .rw[q] at ha;cases ha
  .rw[q] at ha
   injection ha with ha;have ha:g=p.2.block:=ha;obtain⟨Q,e⟩:=o.Vq (g:=g) (by rw[q];rfl);rw[ha] at e hB;exact⟨⟨Q,_,e⟩,hB⟩
 have R:∀{α:Type}{u:α->O Value}{k:Nat}{T:TypeId}{v:Value}{s:O α},Own X B T k u v s->v.ownBlock=U p.2.block->Ae X p.2.block/\B<=p.2.block:=λo ha=>(let⟨Q,e⟩:=o.Vq ha;⟨⟨Q,_,e⟩,(o.lt _ ha).1⟩)
 have w:∀{a:Option Addr}{q:Nat},p.2=oJ a q->a≠G->a.map Addr.block=U p.2.block:=λe r=>by
  rename_i a q
  cases a with
  |none=>exact absurd rfl r
  |some x=>rw[e];rfl
 have K:∀{α:Type}{u:α->O Value}{k:Nat}{T:TypeId}{a:Option Addr}{n c:Nat}{s:O α}{i:Nat}{x:α},Own X B T k u (H a n c) s->s[i]?=U x->a≠G:=λo m e=>by
  rcases o.sJ with⟨_,q⟩|⟨g,q,_⟩
  .rw[q] at m;cases m
  .rw[e] at q;cases q
 rcases l.which hp with⟨t,i,e,S,d⟩|⟨t,e,S,y,_⟩|⟨t,i,x,m,d⟩|⟨t,i,x,m,d⟩|⟨t,i,x,m,d⟩|⟨t,⟨x,m,y,_⟩|⟨x,m,y,_⟩⟩
 .have r:=K (show Own X B 50 9 dK (H h.e.a h.e.n h.e.c) E from l.oe) S
  apply F (show Own X B 50 9 dK (H h.e.a h.e.n h.e.c) E from l.oe)
  cases ha:h.e.a with
  |none=>exact absurd ha r
  |some x=>
   rcases(show Own X B 50 9 dK (H h.e.a h.e.n h.e.c) E from l.oe).sJ with⟨q,_⟩|⟨g,q,_⟩
   .exact absurd q r
   .rw[ha] at q
    cases q
    rw[ha] at d;exact cZ U ((Gp (b:=g) i e).2 p d).1.symm
 .exact R (l.se e S) y
 .rw[dw.1 d] at w
  exact F (show Own X B 65 2 dU (H h.d.a h.d.n h.d.c) j from l.od) (by rw[dw.1 d];exact w rfl (K (show Own X B 65 2 dU (H h.d.a h.d.n h.d.c) j from l.od) m))
 .apply F (show Own X B 67 4 dV (H h.m.a h.m.n h.m.c) z from l.om)
  have r:=K (show Own X B 67 4 dV (H h.m.a h.m.n h.m.c) z from l.om) m;rcases dP.1 d with d|d
  .exact w (by rw[d]) r
  .exact w (by rw[dw.1 d]) r
 .exact F (show Own X B 69 2 eY (H h.w.a h.w.n h.w.c) A from l.oq) (w (by rw[dw.1 d]) (K (show Own X B 69 2 eY (H h.w.a h.w.n h.w.c) A from l.oq) m))
 .exact R (l.sd x m) y
 .exact R (l.sm x m) y
variable{w:World}{F:I->O I}
theorem Moved.soft {a:O (I × Addr)}(h:Moved w X F a)(d:Ae w g):Ae X g:=by
 obtain⟨i,T,e⟩:=d;obtain⟨j,l,_⟩:=h g i T _ e;exact⟨j,T,l⟩
variable{Y:World}
theorem G6 {B':Nat}{j:O aO}{d:O aP}{m:O Wa}{o:EvC->O Sn}{q:aO->O I}{r:aP->O I}(l:Lay X B h E j d m o q r){w:O (I × Addr)}(A:∀p∈w,p∈aV h E j d m o q r)(K:Moved X Y F w){i:O Bs}(z:Own X B' 9 1 encStr v i):Own Y B' 9 1 encStr v i:=by
 refine z.moved (hc:=gy) K rfl (λg Q α x y β u R a S=> .inl ⟨?_,λs Z=>?_⟩)
 .rw[R] at a;injection a with a;rw[<-a];exact S
 .have ht:Ty X g 9:=z.tag Q
  rcases l.which (A _ Z) with⟨t,_⟩|⟨t,_⟩|⟨t,_⟩|⟨t,_⟩|⟨t,_⟩|⟨t,_⟩ <;> exact ht.no t aj
def jE (a:World)(d:O (I × Addr)):O (I × I):=d.map (iO a)
def MR (sl:Nat->Sl):Prop:=∀q a,q<4->a<4->q≠a->∀g,(sl q).v.ownBlock=U g->(sl a).v.ownBlock≠U g
structure NI (w w3:World)(N ws wa bm mo:Nat)(h:HC)(nl:Nat->O Bs)(F:I->O I)(xs pre:O (I × Addr))(X:World):Prop where
 sub:∀p∈pre,p∈xs
 b:Below w.1.size w X
 m:Moved w3 X F pre
 bx:Bx X w.1.size (aI h)
 r:Bx X (w.1.size+1) #[H G 0 0,H G 0 0,H G 0 0,H G 0 0,H G 0 0,H G 0 0,H G 0 0,H G 0 0]
 ws:Bx X ws #[h.t.v,h.s.v,h.o.v,h.p.v]
 wa:∃sl:Nat->Sl,Bx X wa (rX sl)/\(∀s,s<4->Own X N 9 1 encStr (sl s).v ((bZ (jE w3 pre) (s:I)).map (aU (nl s))))/\MR sl
 mv:Bx X bm #[.map (U mo)]
 mp:kH Tryz.prog 55 3 X mo (xE (jE w3 pre)) (zn (jE w3 pre))
variable{N R:Nat}
theorem NI.same {j:World}{l m d V:Nat}{nl:Nat->O Bs}{xs o:O (I × Addr)}(i:NI w j N R l m d h nl F xs o X)(a:Same (λi=>i<V\/V+5<=i) X Y)(Q:V+5<=N)(S:j.1.size<=V)(Z:w.1.size+1<V)(t:R<V)(u:l<V)(v:m<V)(x:d<V):NI w j N R l m d h nl F xs o Y:=
 ⟨i.sub,a.below i.b (λq y=> .inl ah) i.b.size,i.m.same (a.mono (λq y _=> .inl ah)),a.bx i.bx (.inl ah),a.bx i.r (.inl ah),a.bx i.ws (.inl t),
 (let⟨z,A,p,E⟩:=i.wa;⟨z,a.bx A (.inl u),λs r=>(p s r).same a (λg K=> .inr (by have:=((p s r).lt g K).1;omega)),E⟩),a.bx i.mv (.inl v),i.mp.of_eq (a.block d (.inl x) i.mp.lt)⟩
variable{o:Nat}
theorem NI.fin {j:World}{r t l:Nat}{nl:Nat->O Bs}{xs a:O (I × Addr)}{n v:I}(z:∀p∈a++[(s,(⟨b,o,G⟩:Addr))],p∈xs)(A:Below w.1.size w Y)(E:Moved j Y F a)(K:Bx Y w.1.size (aI h))
  (Q:Bx Y (w.1.size+1) #[H G 0 0,H G 0 0,H G 0 0,H G 0 0,H G 0 0,H G 0 0,H G 0 0,H G 0 0]) (S:Bx Y R #[h.t.v,h.s.v,h.o.v,h.p.v])
  (Z:∃m:Nat->Sl,Bx Y r (rX m)/\(∀q,q<4->Own Y N 9 1 encStr (m q).v ((bZ (jE j (a++[(s,(⟨b,o,G⟩:Addr))])) (q:I)).map (aU (nl q))))/\MR m) (α:Bx Y t #[.map (U l)])
  (u:kH Tryz.prog 55 3 Y l (xE (jE j (a++[(s,(⟨b,o,G⟩:Addr))]))) (zn (jE j (a++[(s,(⟨b,o,G⟩:Addr))]))))
  (β:∀s',(s',(⟨b,o,G⟩:Addr))∉a) (γ:j.cell? ⟨b,o,G⟩=U (.int .i64 n)) (hv:v=bX (F s) n) (θ:w.1.size+1<b) (δ:b≠R) (ε:b≠r) (ζ:b≠t) (η:b≠l) (hN:b<N):
  NI w j N R r t l h nl F xs (a++[(s,(⟨b,o,G⟩:Addr))]) (Y.setCell ⟨b,o,G⟩ (.int .i64 v)):=by
 have d:Same (λi=>i≠b) Y (Y.setCell ⟨b,o,G⟩ (.int .i64 v)):=(Same.refl' Y).setTail (λh=>h rfl);exact⟨z,A.setCell (p:=⟨b,o,G⟩) (by show _<=b;omega) _,E.step β γ hv,d.bx K ah,d.bx Q ah,d.bx S δ.symm,(let⟨m,a1,x,a3⟩:=Z;⟨m,d.bx a1 ε.symm,λq y=>(x q y).same d (λg hg e=>by have:=((x q y).lt g hg).1;omega),a3⟩),d.bx α ζ.symm,u.of_eq (d.block l η.symm u.lt)⟩
theorem Same.qp {A:Nat->Prop}(s:Same A X Y)(h:X.cell? ⟨b,o,G⟩=U v)(ha:A b):Y.cell? ⟨b,o,G⟩=U v:=
 (World.cell?_of_block (a:=⟨b,o,G⟩) (s.block b ha (iw h))).trans h
theorem MS {n:I}(h:n∈bZ K s):zn (K++[(s,n)])=zn K:=by
 funext t x
 unfold zn;rw[Ad h]
theorem Kn {n:I}(h:n∈bZ K s):xE (K++[(s,n)])=xE K:=by
 unfold xE;rw[Ad h]
theorem Pe {s:Nat}{n:I}(a:s<4)(h:n∉bZ K (s:I)):xE (K++[((s:I),n)])=xE K+1:=by
 unfold xE;rw[tN h,tN h,tN h,tN h];rcases(by omega:s=0\/s=1\/s=2\/s=3) with rfl|rfl|rfl|rfl
 .rw[aA aj,ay aj,ay aj,ay aj,eX];simp;omega
 .rw[ay aj,aA aj,ay aj,ay aj,eX];simp;omega
 .rw[ay aj,ay aj,aA aj,ay aj,eX];simp;omega
 .rw[ay aj,ay aj,ay aj,aA aj,eX];simp;omega
theorem Pf {α:Type}{a xs:O α}{x:α}(h:a++[x]<+:xs):∀p∈a++[x],p∈xs:=λ_ d=>h.subset d
theorem Gv {α β:Type}{T:TypeId}{enc:β->O Value}[hc:Cells enc R](p:∀x y,enc x=enc y->x=y){a:α->Option Addr}{n q:α->Nat}{r:α->α}(ha:∀x,a (r x)=a x)(j:∀x,n (r x)=n x)(l:∀x,q (r x)=q x){xs:O α}{g:α->O β}(h:∀x∈xs,Own Y B T R enc (H (a x) (n x) (q x)) (g x))(s:∀x∈xs,(g x).length<=140737488355328):
  ∃f:α->O β,(∀y∈xs.map r,Own Y B T R enc (H (a y) (n y) (q y)) (f y))/\(xs.map r).map f=xs.map g:=by
 have m:∀x∈xs,Classical.epsilon (λi=>Row Y R enc (a (r x)) (n (r x)) (q (r x)) i)=g x:=λx d=>by
  have o:=(h x d).row (hc:=hc) (s x d);rw[<-ha,<-j,<-l] at o;exact xJ (hc:=hc) p o
 refine⟨λy=>Classical.epsilon (λi=>Row Y R enc (a y) (n y) (q y) i),λy t=>?_,?_⟩
 .obtain⟨x,d,rfl⟩:=eZ.1 t
  show Own Y B T R enc (H (a (r x)) (n (r x)) (q (r x))) (Classical.epsilon (λi=>Row Y R enc (a (r x)) (n (r x)) (q (r x)) i));rw[m x d,ha,j,l];exact h x d
 .rw[pV]
  exact qR (λx d=>m x d)
theorem bP {o':Nat}{u:Value}(h:X.cell? ⟨b,o,G⟩=U v)(d:b≠R):(X.setCell ⟨R,o',G⟩ u).cell? ⟨b,o,G⟩=U v:=
 (World.cell?_of_block (a:=⟨b,o,G⟩) (Below.heap_setCell X ⟨R,o',G⟩ u b d)).trans h
structure gU (X:World)(B:Nat)(h:HC)(c:Cont)(es:O EvC)(ds:O aO)(ms:O aP)(scan:EvC->O Sn)(dn:aO->O I)(mn:aP->O I):Prop where
 oe:Own X B 50 9 dK (H h.e.a h.e.n h.e.c) es
 od:Own X B 65 2 dU (H h.d.a h.d.n h.d.c) ds
 om:Own X B 67 4 dV (H h.m.a h.m.n h.m.c) ms
 oq:Own X B 69 2 eY (H h.w.a h.w.n h.w.c) c.Q
 on:∀i,i<4->Own X B 9 1 encStr (H (h.nm i).a (h.nm i).n (h.nm i).c) (c.nl i)
 se:∀x∈es,Own X B 148 3 bI (H x.sa x.sn x.sc) (scan x)
 sd:∀x∈ds,Own X B 3 1 aQ (H x.sa x.sn x.sc) (dn x)
 sm:∀x∈ms,Own X B 3 1 aQ (H x.sa x.sn x.sc) (mn x)
 be:es.map EvC.base=c.E
 bd:ds.map aO.base=c.D
 bm:ms.map aP.base=c.M
 ss:es.map scan=c.SE
 ts:ds.map dn=c.SD
 us:ms.map mn=c.SM
structure uI (c:Cont):Prop where
 e:c.E.length<=2000000
 d:c.D.length<=2000000
 m:c.M.length<=2000000
 q:c.Q.length<=2000000
 n:∀i,i<4->(c.nl i).length<=2000000
 se:∀L∈c.SE,L.length<=2000000
 sd:∀L∈c.SD,L.length<=2000000
 sm:∀L∈c.SM,L.length<=2000000
section
variable {X Y:World}{B:Nat}{h:HC}{c:Cont}{es:O EvC}{ds:O aO}{ms:O aP}{scan:EvC->O Sn}{dn:aO->O I}{mn:aP->O I}
theorem gU.imp (o:gU X B h c es ds ms scan dn mn)(a:∀{α:Type}{d:α->O Value}{k:Nat}{T:TypeId}{v:Value}{g:O α},Own X B T k d v g->Own Y B T k d v g):gU Y B h c es ds ms scan dn mn:=
 ⟨a o.oe,a o.od,a o.om,a o.oq,λi h=>a (o.on i h),λx h=>a (o.se x h),λx h=>a (o.sd x h),λx h=>a (o.sm x h),o.be,o.bd,o.bm,o.ss,o.ts,o.us⟩
theorem gU.same (o:gU X B h c es ds ms scan dn mn)(s:Same (λi=>B<=i) X Y):gU Y B h c es ds ms scan dn mn:=o.imp (λa=>a.same s (λg d=>(a.lt g d).1))
theorem gU.below (o:gU X B h c es ds ms scan dn mn)(s:Below X.1.size X Y):gU Y B h c es ds ms scan dn mn:=o.imp (λa=>a.below s rfl)
theorem gU.mono {B':Nat}(o:gU X B h c es ds ms scan dn mn)(a:B'<=B):gU X B' h c es ds ms scan dn mn:=
 ⟨o.oe.mono a,o.od.mono a,o.om.mono a,o.oq.mono a,λi h=>(o.on i h).mono a,λx h=>(o.se x h).mono a,λx h=>(o.sd x h).mono a,λx h=>(o.sm x h).mono a,o.be,o.bd,o.bm,o.ss,o.ts,o.us⟩
theorem gU.deep (o:gU X B h c es ds ms scan dn mn)(z:uI c):Deep X h es ds ms c.Q scan dn mn:=
 ⟨o.oe.row (hc:=oG) (by have:=z.e;rw[<-o.be,bC] at this;omega),o.od.row (hc:=pX) (by have:=z.d;rw[<-o.bd,bC] at this;omega),o.om.row (hc:=nG) (by have:=z.m;rw[<-o.bm,bC] at this;omega),o.oq.row (hc:=qH) (by have:=z.q;omega),
 λx a=>(o.se x a).row (hc:=lK) (by have:=z.se (scan x) (by rw[<-o.ss];exact nC a);omega),λx a=>(o.sd x a).row (hc:=fA) (by have:=z.sd (dn x) (by rw[<-o.ts];exact nC a);omega),λx a=>(o.sm x a).row (hc:=fA) (by have:=z.sm (mn x) (by rw[<-o.us];exact nC a);omega)⟩
theorem gU.names (o:gU X B h c es ds ms scan dn mn)(z:uI c):∀i,i<4->Row X 1 encStr (h.nm i).a (h.nm i).n (h.nm i).c (c.nl i):=λi a=>(o.on i a).row (hc:=gy) (by have:=z.n i a;omega)
theorem gU.bulk (o:gU X B h c es ds ms scan dn mn)(z:uI c):EH c.nl es ds ms c.Q scan dn mn:=
 ⟨by have:=z.e;rw[<-o.be,bC] at this;exact this,by have:=z.d;rw[<-o.bd,bC] at this;exact this,by have:=z.m;rw[<-o.bm,bC] at this;exact this,z.q,z.n,λx a=>z.se _ (by rw[<-o.ss];exact nC a),λx a=>z.sd _ (by rw[<-o.ts];exact nC a),λx a=>z.sm _ (by rw[<-o.us];exact nC a)⟩
theorem gU.cont (o:gU X B h c es ds ms scan dn mn):c=uj es.length c.nl es ds ms c.Q scan dn mn:=by
 unfold uj;rw[List.take_length,o.be,o.bd,o.bm,o.ss,o.ts,o.us]
end
def Ko (w:World)(c:Cont)(e:Ending)(X:World):Prop:=
 ∃h es ds ms,∃scan:EvC->O Sn,∃dn:aO->O I,∃mn:aP->O I,e= .returned (.tuple #[fB h,.int .i64 0])/\gU X w.1.size h c es ds ms scan dn mn/\Below w.1.size w X
variable{j:O aO}
theorem G7 {R:World}{o:O aP}{C:Cont}{t:EvC->O Sn}{u:aO->O I}{y:aP->O I}{sl:Nat->Sl}(hF:F=bZ (bE C))(l:Lay R B h E j o C.Q t u y)
  (S:E.map EvC.base=C.E) (h2:j.map aO.base=C.D) (h3:o.map aP.base=C.M) (Z:E.map t=C.SE) (h5:j.map u=C.SD) (h6:o.map y=C.SM)
  (p:Moved R X F (aV h E j o C.Q t u y)) (hb:∀e∈C.E,AR e) (γ:∀s,s<4->Own X N 9 1 encStr (sl s).v ((F (s:I)).map (aU (C.nl s)))) (hN:B<=N) (δ:w.1.size<=B)
  {D:Nat} (hD:∀cs T fz,X.1[D]?≠U (J cs T fz)) (hs:Same (λi=>B<=i/\i≠D) X Y) (ε:Below w.1.size w Y) (g1:∀z∈C.SE,z.length<=2000000) (g2:∀z∈C.SD,z.length<=2000000) (g3:∀z∈C.SM,z.length<=2000000):
  Ko w (fG C) (.returned (.tuple #[fB ⟨sl 0,sl 1,sl 2,sl 3,h.e,h.d,h.m,h.w⟩,.int .i64 0])) Y:=by
 have ζ:∀e∈E,AR e:=λe he=>by
  have:=hb e.base (by rw[<-S];exact nC he);exact this
 have m:∀{α:Type}{β:α->O Value}{k:Nat}{T:TypeId}{v:Value}{xs:O α}{A:Nat},B<=A->Own X A T k β v xs->Own Y A T k β v xs:=λη K=>K.same hs (λg hg=>⟨cO η (K.lt g hg).1,λe=>by
  subst e;obtain⟨cs,fz,e'⟩:=K.tag hg;exact hD _ _ _ e'⟩)
 have k1:Own Y B 50 9 dK h.e.v (E.map (Qb F)):=m (aC _) (l.U5 p ζ);have k2:Own Y B 65 2 dU h.d.v (j.map (Qc F)):=m (aC _) (l.U6 p);have k3:Own Y B 67 4 dV h.m.v (o.map (Qd F)):=m (aC _) (l.U7 p);have k4:Own Y B 69 2 eY h.w.v (C.Q.map (Xn F)):=m (aC _) (l.U8 p);have r1:∀x∈E,Own Y B 148 3 bI (H x.sa x.sn x.sc) ((t x).map (zk F)):=λx d=>m (aC _) (l.U9 p d)
 have r2:∀x∈j,Own Y B 3 1 aQ (H x.sa x.sn x.sc) ((u x).map (bX (F 0))):=λx d=>m (aC _) (l.Va p d)
 have r3:∀x∈o,Own Y B 3 1 aQ (H x.sa x.sn x.sc) ((y x).map (bX (F 0))):=λx d=>m (aC _) (l.Vb p d)
 obtain⟨f1,a1,b1⟩:=Gv (hc:=lK) Ck (r:=Qb F) (a:=EvC.sa) (n:=EvC.sn) (q:=EvC.sc) (λ_=>rfl) (λ_=>rfl) (λ_=>rfl) r1 (λx d=>by rw[bC];have:=g1 (t x) (by rw[<-Z];exact nC d);omega);obtain⟨f2,a2,b2⟩:=Gv (hc:=fA) rM (r:=Qc F) (a:=aO.sa) (n:=aO.sn) (q:=aO.sc) (λ_=>rfl) (λ_=>rfl) (λ_=>rfl) r2 (λx d=>by rw[bC];have:=g2 (u x) (by rw[<-h5];exact nC d);omega);obtain⟨f3,a3,b3⟩:=Gv (hc:=fA) rM (r:=Qd F) (a:=aP.sa) (n:=aP.sn) (q:=aP.sc) (λ_=>rfl) (λ_=>rfl) (λ_=>rfl) r3 (λx d=>by rw[bC];have:=g3 (y x) (by rw[<-h6];exact nC d);omega);have θ:∀i,i<4->(⟨sl 0,sl 1,sl 2,sl 3,h.e,h.d,h.m,h.w⟩:HC).nm i=sl i:=λi Q=>by
  rcases(by omega:i=0\/i=1\/i=2\/i=3) with rfl|rfl|rfl|rfl <;> rfl
 subst hF;refine⟨_,E.map (Qb (bZ (bE C))),j.map (Qc (bZ (bE C))),o.map (Qd (bZ (bE C))),f1,f2,f3,rfl,gU.mono (B:=B) ⟨k1,k2,k3,k4,λi Q=>?_,a1,a2,a3,?_,?_,?_,?_,?_,?_⟩ δ,ε⟩
 .rw[θ i Q]
  exact(show Own Y N 9 1 encStr (H (sl i).a (sl i).n (sl i).c) _ from m hN (γ i Q)).mono hN
 .show _=C.E.map (fJ (bZ (bE C)))
  rw[<-S,pV,pV];exact qR (λx _=>rfl)
 .show _=C.D.map _
  rw[<-h2,pV,pV];exact qR (λx _=>rfl)
 .show _=C.M.map _
  rw[<-h3,pV,pV];exact qR (λx _=>rfl)
 .rw[b1];show _=C.SE.map _;rw[<-Z,pV];rfl
 .rw[b2];show _=C.SD.map _;rw[<-h5,pV];rfl
 .rw[b3];show _=C.SM.map _;rw[<-h6,pV];rfl
attribute [local go_sem] Oper.semAt_some
theorem lI {h':HC}(a:Bx X b (aI h)):Bx ((((((((X.setCell ⟨b,0,G⟩ h'.t.v).setCell ⟨b,1,G⟩ h'.s.v).setCell ⟨b,2,G⟩ h'.o.v).setCell ⟨b,3,G⟩ h'.p.v).setCell ⟨b,4,G⟩ h'.e.v).setCell ⟨b,5,G⟩ h'.d.v).setCell ⟨b,6,G⟩ h'.m.v).setCell ⟨b,7,G⟩ h'.w.v) b (aI h'):=by
 have:=((((((((a).aX 0 ak h'.t.v).aX 1 ak h'.s.v).aX 2 ak h'.o.v).aX 3 ak h'.p.v).aX 4 ak h'.e.v).aX 5 ak h'.d.v).aX 6 ak h'.m.v).aX 7 ak h'.w.v
 simpa[aI] using this
theorem iT {h':HC}:Same (λi=>i≠b) X ((((((((X.setCell ⟨b,0,G⟩ h'.t.v).setCell ⟨b,1,G⟩ h'.s.v).setCell ⟨b,2,G⟩ h'.o.v).setCell ⟨b,3,G⟩ h'.p.v).setCell ⟨b,4,G⟩ h'.e.v).setCell ⟨b,5,G⟩ h'.d.v).setCell ⟨b,6,G⟩ h'.m.v).setCell ⟨b,7,G⟩ h'.w.v):=(((((((((Same.refl' X)).setTail (λa=>a rfl)).setTail (λa=>a rfl)).setTail (λa=>a rfl)).setTail (λa=>a rfl)).setTail (λa=>a rfl)).setTail (λa=>a rfl)).setTail (λa=>a rfl)).setTail (λa=>a rfl)
theorem NM.lay {i:O aP}{c:Cont}(o:NM w X h E j i c)(r:∀d∈c.SE,d.length<=2000000)(s:∀d∈c.SD,d.length<=2000000)(t:∀d∈c.SM,d.length<=2000000):
  ∃l m p,Lay X w.1.size h E j i c.Q l m p/\E.map l=c.SE/\j.map m=c.SD/\i.map p=c.SM:=by
 obtain⟨u,v,x⟩:=jH.fn (hc:=lK) Ck (val:=EvC.val) (a:=EvC.sa) (n:=EvC.sn) (q:=EvC.sc) (λ_=>rfl) o.fe o.le (λd g=>by have:=r d g;omega);obtain⟨y,z,A⟩:=jH.fn (hc:=fA) rM (val:=aO.val) (a:=aO.sa) (n:=aO.sn) (q:=aO.sc) (λ_=>rfl) o.fd o.ld (λd g=>by have:=s d g;omega);obtain⟨F,K,Q⟩:=jH.fn (hc:=fA) rM (val:=aP.val) (a:=aP.sa) (n:=aP.sn) (q:=aP.sc) (λ_=>rfl) o.fm o.lm (λd g=>by have:=t d g;omega);exact⟨u,y,F,⟨o.oe,o.od,o.om,o.oq,v,z,K,o.fe.pair,o.fd.pair,o.fm.pair,o.fx⟩,x,A,Q⟩
theorem qg {α β γ:Type}(f:α->β)(g:α->γ):∀l:O α,(l.map f).zip (l.map g)=l.map (λx=>(f x,g x))
 |[]=>rfl
 |x::l=>cZ ((f x,g x):: ·) (qg f g l)
theorem Bf {a:O aP}{d:EvC->O Sn}{g:aO->O I}{i:aP->O I}{c:Cont}(l:E.map EvC.base=c.E)(m:j.map aO.base=c.D)(o:a.map aP.base=c.M)(p:E.map d=c.SE)(q:j.map g=c.SD)(r:a.map i=c.SM):
  lJ E j a c.Q d g i=bE c:=by
 unfold bE lJ;rw[<-l,<-m,<-o,<-p,<-q,<-r,qg,qg,qg,List.flatMap_map,List.flatMap_map,List.flatMap_map]
 rfl
theorem DK (h:HC)(nl:Nat->O Bs)(es:O EvC)(ds:O aO)(ms:O aP)(qs:O Wa)(j2:EvC->O Sn)(dn:aO->O I)(mn:aP->O I)(w:World)(E:wQ w)
  (hn:∀i,i<4->Row w 1 encStr (h.nm i).a (h.nm i).n (h.nm i).c (nl i)) (hd:Deep w h es ds ms qs j2 dn mn) (hB:EH nl es ds ms qs j2 dn mn) (hS:nK h nl es ds ms qs j2 dn mn=true)
  (C:Cont) (hC:C=uj es.length nl es ds ms qs j2 dn mn) (m1:∀e∈C.E,AR e) (m2:∀x∈bE C,∃s:Nat,s<4/\x.1=(s:I)/\bf x.2 (C.nl s).length=true) (m3:∀s:Nat,s<4->(bZ (bE C) (s:I)).length<=300/\(C.nl s).length<=300):
  Calls Tryz.prog 35 #[fB h] w (Ko w (fG C)):=by
 refine(callsIn_wide (n:=3)).1 ?_;refine callsIn_of_wp_marks Tryz.func35 rfl trivial ?_ rfl;simp only[Tryz.ntmps35,uR,iC,nk,Nat.reduceAdd,Nat.reduceSub,vF,vG,sD,sF,pO,jl];refine wpIn_wide.2 ?_;have z3:Below w.1.size w ((w.alloc (J (aI h) 41)).alloc (J #[H G 0 0,H G 0 0,H G 0 0,H G 0 0,H G 0 0,H G 0 0,H G 0 0,H G 0 0] 41)):=((Below.refl _ _).alloc (aC _) _).alloc ak _;have x7:=hid (JZ h nl es ds ms qs j2 dn mn _ (E.below z3) (λi y=>(hn i y).below z3 rfl) (hd.below z3 rfl));rw[hS] at x7;have HOWN:=hid (λW (hW:Below w.1.size w W)=>(by have:=GH h nl es ds ms qs j2 dn mn W (λi y=>(hn i y).below hW rfl) (hd.below hW rfl) hB;rw[<-hC] at this;exact this:Calls Tryz.prog 76 #[fB h] W (EJ W C)));have x8:=hid ((Bx.new w (aI h) 41).alloc (J #[H G 0 0,H G 0 0,H G 0 0,H G 0 0,H G 0 0,H G 0 0,H G 0 0,H G 0 0] 41));have x9:=Bx.new (w.alloc (J (aI h) 41)) #[H G 0 0,H G 0 0,H G 0 0,H G 0 0,H G 0 0,H G 0 0,H G 0 0,H G 0 0] 41;rw[World.size_alloc] at x9;have m4:=hid x9;have m5:((w.alloc (J (aI h) 41)).alloc (J #[H G 0 0,H G 0 0,H G 0 0,H G 0 0,H G 0 0,H G 0 0,H G 0 0,H G 0 0] 41)).1[w.1.size]?=U (J (aI h) 41 (0,0)):=(Below.heap_alloc _ _ _ ak).trans (World.alloc_heap_new w _);have m6:=hid m5;have b0:=hid z3;have ρ:Hid ((∀L∈C.SE,L.length<=2000000)/\(∀L∈C.SD,L.length<=2000000)/\(∀L∈C.SM,L.length<=2000000)):=hid (by
  rw[hC];refine⟨λL hL=>?_,λL hL=>?_,λL hL=>?_⟩
  .obtain⟨x,hx,rfl⟩:=eZ.1 hL;exact hB.2.2.2.2.2.1 x (List.mem_of_mem_take hx)
  .obtain⟨x,hx,rfl⟩:=eZ.1 hL;exact hB.2.2.2.2.2.2.1 x hx
  .obtain⟨x,hx,rfl⟩:=eZ.1 hL;exact hB.2.2.2.2.2.2.2 x hx)
 have j3:Hid (C.E.length<=2000000/\C.D.length<=2000000/\C.M.length<=2000000/\C.Q.length<=2000000):=hid (by
  rw[hC];refine⟨?_,?_,?_,hB.2.2.2.1⟩
  .show((es.take es.length).map _).length<=_;rw[bC,dJ];have:=hB.1;omega
  .show(ds.map _).length<=_;rw[bC];exact hB.2.1
  .show(ms.map _).length<=_;rw[bC];exact hB.2.2.1)
 have WM:=hid m1;have WN:=hid m2;have k1:=hid m3;clear hC hS z3 x9 hd E hn hB m1 m2 m3 m5;obtain⟨W0,b4⟩:∃W,W=(w.alloc (J (aI h) 41)).alloc (J #[H G 0 0,H G 0 0,H G 0 0,H G 0 0,H G 0 0,H G 0 0,H G 0 0,H G 0 0] 41):=⟨_,rfl⟩;rw[<-b4] at x7 x8 m4 b0 m6;go_wp2_with fail;rw[<-b4];clear b4;refine x7.q.mono ?_;rintro e w1 ⟨rfl,Ω⟩;have b5:=hid (b0.q.bL Ω);have b6:=hid (x8.q.keep Ω);have m7:=hid (m4.q.keep Ω);have XO:=hid ((Ω.block _ x8.q.2.2).trans m6.q);have XP:=b6.q.1;clear Ω;go_wp2_with fail;refine(HOWN.q w1 b5.q).mono ?_;rintro e w2 ⟨h',σ,τ,υ,rfl,j4⟩;have k2:=hid (b6.q.keep j4.b);have HR2:=hid (m7.q.keep j4.b);have m8:=hid (b5.q.trans (j4.b.mono b5.q.size));have YV:=hid ((j4.b.block _ b6.q.2.2).trans XO.q);have ε:=hid j4;have φ:=k2.q.1;have χ:=k2.q.2.1;have ψ:=k2.q.2.2;clear j4 XP;go_wp2_with fail;obtain⟨r,k3⟩:∃W,W=((((((((w2.setCell ⟨w.1.size,0,G⟩ h'.t.v).setCell ⟨w.1.size,1,G⟩ h'.s.v).setCell ⟨w.1.size,2,G⟩ h'.o.v).setCell ⟨w.1.size,3,G⟩ h'.p.v).setCell ⟨w.1.size,4,G⟩ h'.e.v).setCell ⟨w.1.size,5,G⟩ h'.d.v).setCell ⟨w.1.size,6,G⟩ h'.m.v).setCell ⟨w.1.size,7,G⟩ h'.w.v):=⟨_,rfl⟩;have j3:Hid (σ.length<=140737488355328/\τ.length<=140737488355328/\υ.length<=140737488355328/\C.Q.length<=140737488355328):=hid (by
  have:=j3.q;have e1:σ.length=C.E.length:=by rw[<-ε.q.be,bC]
  have e2:τ.length=C.D.length:=by rw[<-ε.q.bd,bC]
  have e3:υ.length=C.M.length:=by rw[<-ε.q.bm,bC]
  omega)
 have m9:Hid (Bx r w.1.size (aI h')):=hid (by rw[k3];exact lI k2.q);have z4:Hid (Same (λi=>i≠w.1.size) w2 r):=hid (by rw[k3];exact iT);rw[<-k3];clear k3 φ χ ψ;have p0:=hid (z4.q.bx HR2.q ah);have p1:Hid (Below w.1.size w r):=hid (z4.q.below m8.q (λi y=>by omega) m8.q.size);have μ:Hid (w.1.size+1<r.1.size):=hid p0.q.2.2;have p2:w.1.size+1<w1.1.size:=m7.q.2.2;have b7:=hid p2;have XQ:Hid (∃ω Γ Δ,Lay r w1.1.size h' σ τ υ C.Q ω Γ Δ/\σ.map ω=C.SE/\τ.map Γ=C.SD/\υ.map Δ=C.SM):=hid (by
  obtain⟨f1,f2,f3,hl,b1,b2,b3⟩:=ε.q.lay ρ.q.1 ρ.q.2.1 ρ.q.2.2;exact⟨f1,f2,f3,hl.same (z4.q.mono (λi y _=>by omega)),b1,b2,b3⟩)
 have p3:Hid (∀q,q<4->Own r w1.1.size 9 1 encStr (h'.nm q).v (C.nl q)):=hid (λq S=>(ε.q.on q S).same z4.q (λg E e=>by have:=((ε.q.on q S).lt g E).1;omega));clear p2;refine(lD h' r).mono ?_;rintro e d ⟨rfl,k4⟩;have z5:=hid k4;clear k4;have hmm:= @run_makeMap Tryz.prog
 go_wp2_with (go_at_call 78;refine(LA _ _).mono ?_;rintro e w' ⟨rfl,rfl⟩)
 clear hmm;have j5:(((((d.alloc (J #[h'.t.v,h'.s.v,h'.o.v,h'.p.v] 130)).alloc (J #[H G 0 0,H G 0 0,H G 0 0,H G 0 0] 130)).alloc (.map #[] 0)).alloc (J #[.map (U (d.1.size+2))] 132)).alloc (J #[.pointer (U ⟨w.1.size,0,G⟩)] 136)).1.size=d.1.size+5:=by simp
 have z6:Below d.1.size d (((((d.alloc (J #[h'.t.v,h'.s.v,h'.o.v,h'.p.v] 130)).alloc (J #[H G 0 0,H G 0 0,H G 0 0,H G 0 0] 130)).alloc (.map #[] 0)).alloc (J #[.map (U (d.1.size+2))] 132)).alloc (J #[.pointer (U ⟨w.1.size,0,G⟩)] 136)):=((((Below.refl _ _).alloc (aC _) _).alloc ak _).alloc (by simp;omega) _).alloc (by simp;omega) _|>.alloc (by simp;omega) _;have k5:Bx (((((d.alloc (J #[h'.t.v,h'.s.v,h'.o.v,h'.p.v] 130)).alloc (J #[H G 0 0,H G 0 0,H G 0 0,H G 0 0] 130)).alloc (.map #[] 0)).alloc (J #[.map (U (d.1.size+2))] 132)).alloc (J #[.pointer (U ⟨w.1.size,0,G⟩)] 136)) d.1.size #[h'.t.v,h'.s.v,h'.o.v,h'.p.v]:=((((Bx.new d _ _).alloc _).alloc _).alloc _).alloc _;have k6:Bx (((((d.alloc (J #[h'.t.v,h'.s.v,h'.o.v,h'.p.v] 130)).alloc (J #[H G 0 0,H G 0 0,H G 0 0,H G 0 0] 130)).alloc (.map #[] 0)).alloc (J #[.map (U (d.1.size+2))] 132)).alloc (J #[.pointer (U ⟨w.1.size,0,G⟩)] 136)) (d.1.size+1) (rX λ_=>⟨G,0,0⟩):=by
  have:=(((Bx.new (d.alloc (J #[h'.t.v,h'.s.v,h'.o.v,h'.p.v] 130)) #[H G 0 0,H G 0 0,H G 0 0,H G 0 0] 130).alloc (.map #[] 0)).alloc (J #[.map (U (d.1.size+2))] 132)).alloc (J #[.pointer (U ⟨w.1.size,0,G⟩)] 136);rw[World.size_alloc] at this;exact this
 have k7:Bx (((((d.alloc (J #[h'.t.v,h'.s.v,h'.o.v,h'.p.v] 130)).alloc (J #[H G 0 0,H G 0 0,H G 0 0,H G 0 0] 130)).alloc (.map #[] 0)).alloc (J #[.map (U (d.1.size+2))] 132)).alloc (J #[.pointer (U ⟨w.1.size,0,G⟩)] 136)) (d.1.size+3) #[.map (U (d.1.size+2))]:=by
  have:=(Bx.new (((d.alloc (J #[h'.t.v,h'.s.v,h'.o.v,h'.p.v] 130)).alloc (J #[H G 0 0,H G 0 0,H G 0 0,H G 0 0] 130)).alloc (.map #[] 0)) #[.map (U (d.1.size+2))] 132).alloc (J #[.pointer (U ⟨w.1.size,0,G⟩)] 136);rw[World.size_alloc,World.size_alloc,World.size_alloc] at this;exact this
 have k8:Bx (((((d.alloc (J #[h'.t.v,h'.s.v,h'.o.v,h'.p.v] 130)).alloc (J #[H G 0 0,H G 0 0,H G 0 0,H G 0 0] 130)).alloc (.map #[] 0)).alloc (J #[.map (U (d.1.size+2))] 132)).alloc (J #[.pointer (U ⟨w.1.size,0,G⟩)] 136)) (d.1.size+4) #[.pointer (U ⟨w.1.size,0,G⟩)]:=by
  have:=Bx.new ((((d.alloc (J #[h'.t.v,h'.s.v,h'.o.v,h'.p.v] 130)).alloc (J #[H G 0 0,H G 0 0,H G 0 0,H G 0 0] 130)).alloc (.map #[] 0)).alloc (J #[.map (U (d.1.size+2))] 132)) #[.pointer (U ⟨w.1.size,0,G⟩)] 136;rw[World.size_alloc,World.size_alloc,World.size_alloc,World.size_alloc] at this;exact this
 have k9:kH Tryz.prog 55 3 (((((d.alloc (J #[h'.t.v,h'.s.v,h'.o.v,h'.p.v] 130)).alloc (J #[H G 0 0,H G 0 0,H G 0 0,H G 0 0] 130)).alloc (.map #[] 0)).alloc (J #[.map (U (d.1.size+2))] 132)).alloc (J #[.pointer (U ⟨w.1.size,0,G⟩)] 136)) (d.1.size+2) 0 (λ_ _=>G):=by
  have h0:=kH.new (P:=Tryz.prog) (k:=55) (e:=3) ((d.alloc (J #[h'.t.v,h'.s.v,h'.o.v,h'.p.v] 130)).alloc (J #[H G 0 0,H G 0 0,H G 0 0,H G 0 0] 130));have e1:((d.alloc (J #[h'.t.v,h'.s.v,h'.o.v,h'.p.v] 130)).alloc (J #[H G 0 0,H G 0 0,H G 0 0,H G 0 0] 130)).1.size=d.1.size+2:=by simp
  rw[e1] at h0;exact h0.of_eq ((Below.heap_alloc _ _ _ ak).trans (Below.heap_alloc _ _ _ ak))
 have b8:(((((d.alloc (J #[h'.t.v,h'.s.v,h'.o.v,h'.p.v] 130)).alloc (J #[H G 0 0,H G 0 0,H G 0 0,H G 0 0] 130)).alloc (.map #[] 0)).alloc (J #[.map (U (d.1.size+2))] 132)).alloc (J #[.pointer (U ⟨w.1.size,0,G⟩)] 136)).1[w.1.size]?=r.1[w.1.size]?:=(z6.block _ (by have:=z5.q.size;have:=μ.q;omega)).trans (z5.q.block _ (by have:=μ.q;omega));revert j5 z6 k5 k6 k7 k8 k9 b8;generalize((((d.alloc (J #[h'.t.v,h'.s.v,h'.o.v,h'.p.v] 130)).alloc (J #[H G 0 0,H G 0 0,H G 0 0,H G 0 0] 130)).alloc (.map #[] 0)).alloc (J #[.map (U (d.1.size+2))] 132)).alloc (J #[.pointer (U ⟨w.1.size,0,G⟩)] 136)=V;intro j5 z6 k5 k6 k7 k8 k9 b8;obtain⟨ω,Γ,Δ,ζ,q1,q2,q3⟩:=XQ.q;have HL:=hid ζ;have HQ:=hid (⟨q1,q2,q3⟩:_/\_/\_);have p4:r.1.size<=d.1.size:=z5.q.size;have j6:Below r.1.size r V:=z5.q.trans (z6.mono p4);have p5:lJ σ τ υ C.Q ω Γ Δ=bE C:=Bf ε.q.be ε.q.bd ε.q.bm q1 q2 q3;obtain⟨xs,q0⟩:∃xs,xs=aV h' σ τ υ C.Q ω Γ Δ:=⟨_,rfl⟩;have p6:jE r xs=bE C:=by rw[q0,<-p5];exact ζ.vals
 have b9:=hid q0;have f0:=hid p6;have XR:Hid (∀p∈xs,∃g o,p.2=(⟨g,o,G⟩:Addr)):=hid (by rw[q0];exact mP.all _ _ _ _ _ _ _ _);have XT:Hid (∀p∈xs,∃n,r.cell? p.2=U (.int .i64 n)):=hid (by rw[q0];exact ζ.ints);have WO:Hid (∀p∈xs,Ae r p.2.block/\w1.1.size<=p.2.block):=hid (by rw[q0];exact λp hp=>ζ.soft hp);have XU:Hid ((xs.map Prod.snd).Nodup):=hid (by rw[q0];exact ζ.nodup);have WQ:Hid (Deep r h' σ τ υ C.Q ω Γ Δ):=hid ⟨(show Own r w1.1.size 50 9 dK (H h'.e.a h'.e.n h'.e.c) σ from ζ.oe).row (hc:=oG) j3.q.1,(show Own r w1.1.size 65 2 dU (H h'.d.a h'.d.n h'.d.c) τ from ζ.od).row (hc:=pX) j3.q.2.1,(show Own r w1.1.size 67 4 dV (H h'.m.a h'.m.n h'.m.c) υ from ζ.om).row (hc:=nG) j3.q.2.2.1,(show Own r w1.1.size 69 2 eY (H h'.w.a h'.w.n h'.w.c) C.Q from ζ.oq).row (hc:=qH) j3.q.2.2.2,
  λx hx=>(show Own r w1.1.size 148 3 bI (H x.sa x.sn x.sc) (ω x) from ζ.se x hx).row (hc:=lK) (by have:=ρ.q.1 (ω x) (by rw[<-q1];exact nC hx);omega),
  λx hx=>(show Own r w1.1.size 3 1 aQ (H x.sa x.sn x.sc) (Γ x) from ζ.sd x hx).row (hc:=fA) (by have:=ρ.q.2.1 (Γ x) (by rw[<-q2];exact nC hx);omega),
  λx hx=>(show Own r w1.1.size 3 1 aQ (H x.sa x.sn x.sc) (Δ x) from ζ.sm x hx).row (hc:=fA) (by have:=ρ.q.2.2 (Δ x) (by rw[<-q3];exact nC hx);omega)⟩
 have p7:NI w r (V.1.size+5) d.1.size (d.1.size+1) (d.1.size+3) (d.1.size+2) h' C.nl (bZ (bE C)) xs [] V:=
  ⟨λp hp=>(by cases hp),p1.q.bL j6,Moved.start (Same.of_below j6 (λi y _=>y)),m9.q.keep j6,p0.q.keep j6,k5,⟨λ_=>⟨G,0,0⟩,k6,λs _=>Own.eH _ _ _ _ _,λ_ _ _ _ _ g E=>by cases E⟩,k7,k9⟩
 have HI0:=hid p7;have Yy:=hid j5;have ι:=hid p4;have p8:=hid j6;have Yz:=hid k8;clear p7 z6 k5 k6 k7 k8 k9 b8 j6 q1 q2 q3 ζ p5 q0 p6;refine wpIn_wide.1 (J2 (n:=3) (gf:=143) (lb:=#[.pointer (U ⟨d.1.size+4,0,G⟩)]) (by simp[go_sem]) FN
  (lN:=EN) (k:=3) (D:=λi=>i=w.1.size\/i=d.1.size+4\/(V.1.size+2<=i/\i<V.1.size+5)) (R:=vI (λa=>∃g j,a=(⟨g,j,G⟩:Addr)/\∀s,(s,a)∉xs) r) (xs:=xs)
  (λW hW hWs=>by
   have e:=b9.q;have f4:Below r.1.size r W:=p8.q.bL hW;rw[e];exact FC h' σ τ υ C.Q ω Γ Δ w.1.size (d.1.size+4) _ _ r W WQ.q (m9.q.keep f4) (Yz.q.keep hW) (λa v _ hc=>aZ f4 rfl hc) f4.size (.inl rfl) (.inr (.inl rfl))
    (λb o ha k hk j hj=>⟨b,_,rfl,λs=>HL.q.WG ha hj s⟩) (λe he b o ha j hj=>⟨b,_,rfl,λs=>HL.q.jv he ha s⟩)
    (λb o ha k hk=>⟨b,_,rfl,λs=>HL.q.WH ha s⟩) (λb o ha k hk=>⟨b,_,rfl,λs=>HL.q.WI ha s⟩) (λi h1 h2=> .inr (.inr ⟨by omega,by omega⟩))) (by have:=μ.q;omega)
  (λx args X hx=>by rw[hx];rfl)
  (NI w r (V.1.size+5) d.1.size (d.1.size+1) (d.1.size+3) (d.1.size+2) h' C.nl (bZ (bE C)) xs)
  (λ_ _ _=>False)
  (λα X Y hh k=>hh.same (V:=V.1.size) (k.mono (λi y _=>by omega)) (aC _) ah (by have:=μ.q;omega) ah ah ah ah)
  (λc α X Y hh k=>hh)
  (λα X hh a v hC hc=>by
   obtain⟨g,j,rfl,q4⟩:=hC;exact hh.m.cell hc (λs hs=>q4 s (hh.sub _ hs)))
  (λc α X hh=>hh.elim)
  HI0.q ?round ?done ?stop)
 case stop=>
  intro c α X _ hh;exact hh.elim
 case round=>
  rintro α ⟨x1,a0⟩ args X hI z7 rfl hsz m;have j7:(x1,a0)∈xs:=z7.subset ak;obtain⟨b,o,p9⟩:=XR.q _ j7;simp only at p9;subst p9;obtain⟨n,y0⟩:=XT.q _ j7;simp only at y0;have f5:iO r (x1,⟨b,o,G⟩)=(x1,n):=by unfold iO;rw[jA y0]
  have r0:(x1,n)∈bE C:=by rw[<-f0.q,<-f5];exact nC j7
  obtain⟨s,η,j8,q5⟩:=WN.q _ r0;simp only at j8 q5;subst j8;obtain⟨k,rfl,hk⟩:=BI q5;have r1:∀s',(s',(⟨b,o,G⟩:Addr))∉α:=λs' hs'=>by
   obtain⟨t,ht⟩:=z7;have r2:=XU.q;rw[<-ht,fV,fV] at r2;have:=(tY.1 (tY.1 r2).1).2.2 _ (nC hs') _ (nC (dw.2 rfl));exact this rfl
  have f6:jE r (α++[((s:I),(⟨b,o,G⟩:Addr))])=jE r α++[((s:I),(k:I))]:=by unfold jE;rw[fV,qU,f5]
  have r3:jE r α++[((s:I),(k:I))]<+:bE C:=by rw[<-f6,<-f0.q];exact z7.map _
  have y1:=hid f6;have r4:=hid (Pf z7);have f7:=hid (WO.q _ j7);have YW:=hid j7;have f8:=hid y0;have f9:=hid r1;have HK:=hid hk;have y2:=hid r3;clear f5 r0 q5 j7 z7 y0 r1 f6 r3 hk
  gi_wp2
  refine⟨Below.refl _ _,λX2 r5=>?_⟩;have κ:=hI.same (V:=V.1.size) (r5.mono (λi y _=>by omega)) (aC _) (by have:=ι.q;omega) (by have:=μ.q;have:=ι.q;omega) ah ah ah ah;have j9:V.1.size+5<=X2.1.size:=by have:=r5.size;omega
  have y3:=κ.m.cell f8.q f9.q;have hf2:=(κ.m.soft f7.q.1).frozen (j:=o);have hbl:b<r.1.size:=by obtain⟨cs,T,e⟩:=f7.q.1;exact(fH.1 e).1
  have y4:=hid (⟨hbl,f7.q.2⟩:b<r.1.size/\w1.1.size<=b);obtain⟨⟨na,nn,nc⟩,g0⟩:∃z:Sl,z=h'.nm s:=⟨_,rfl⟩;have q6:=(show Own X2 w1.1.size 9 1 encStr (H (h'.nm s).a (h'.nm s).n (h'.nm s).c) (C.nl s) from G6 HL.q (λp hp=>by rw[<-b9.q];exact κ.sub p hp) κ.m (p3.q s η)).row (hc:=gy) (by have:=(k1.q s η).2;omega);have y5:X2.cell? ⟨d.1.size,s,G⟩=U (h'.nm s).v:=(κ.ws.1 s).trans (sN h'.nm η);rw[<-g0] at q6 y5;simp only at q6;obtain⟨nm,gb,go,g1,hab,g2⟩:=q6.at_ (i:=k) (by rw[<-q6.len];exact HK.q);subst hab;have hkn:k<nn:=by rw[<-q6.len];exact HK.q
  have YA:=hid g0;clear g0;obtain⟨sl,ν,q7,z8⟩:=κ.wa;have z9:X2.cell? ⟨d.1.size+1,s,G⟩=U (sl s).v:=(ν.1 s).trans (sN sl η);have g3:=κ.mv.1 0;have r6:(Lit.int .i64 (s:I)).wf=true:=WalkArith.wf_i64 ah;have hkl:k<300:=by have:=(k1.q s η).2;have:=HK.q;omega
  have r7:(Lit.int .i64 (k:I)).wf=true:=WalkArith.wf_i64 ah;have β:=aB (Below.refl X2.1.size X2) (J #[.int .i64 (s:I),.int .i64 (k:I)] 55);have v0:=κ.mp.of_eq (β.block _ κ.mp.lt);have v1:(Instr.lookup 132 (.map (U (d.1.size+1+1))) (.agg #[.int .i64 (s:I),.int .i64 (k:I)]) true).run Tryz.prog (X2.alloc (J #[.int .i64 (s:I),.int .i64 (k:I)] 55))= .ok (.tuple #[.int .i64 ((zn (jE r α) (s:I) (k:I)).getD 0),.bool (zn (jE r α) (s:I) (k:I)).isSome]) (X2.alloc (J #[.int .i64 (s:I),.int .i64 (k:I)] 55)):=v0.Vo MP underlying132 underlying3 (RU _) (MQ r6 r7);have hcm1:((X2.alloc (J #[.int .i64 (s:I),.int .i64 (k:I)] 55))).cell? ⟨d.1.size+1+1+1,0,G⟩=U (.map (U (d.1.size+1+1))):=aZ β rfl g3;have y6:=(Bx.new X2 #[.int .i64 (s:I),.int .i64 (k:I)] 55).1;have YX:=y6 0;have YZ:=y6 1;have YB:((X2.alloc (J #[.int .i64 (s:I),.int .i64 (k:I)] 55))).cell? ⟨b,o,G⟩=U (.int .i64 (k:I)):=aZ β rfl y3;have YC:((X2.alloc (J #[.int .i64 (s:I),.int .i64 (k:I)] 55))).frozen? ⟨b,o,G⟩=false:=(World.frozen?_of_block (a:=⟨b,o,G⟩) (β.block b (by have:=z5.q.size;omega))).trans hf2;have r8:=hid κ;by_cases Φ:(k:I)∈bZ (jE r α) (s:I)
  .have q4:zn (jE r α) (s:I) (k:I)=U ((bZ (jE r α) (s:I)).idxOf (k:I):I):=aA Φ
   rw[q4] at v1;simp only[Option.getD_some,Option.isSome_some] at v1;obtain⟨q,S⟩:∃q:Nat,q=(bZ (jE r α) (s:I)).idxOf (k:I):=⟨_,rfl⟩;rw[<-S] at v1;have YD:=hid S;have Ψ:=hid Φ;clear q4 S Φ q6 g2 g1 q7 z8 ν v0 κ hI y6 g3 z9 y5;have q8:=r8.q.same (V:=V.1.size) (Same.of_below β (λi y hl=>hl)) (aC _) (by have:=ι.q;omega) (by have:=μ.q;have:=ι.q;omega) ah ah ah ah;rw[j5] at q8;have γ:=hid q8;have δ:=hid β;have HV:Hid ((q:I)=bX (bZ (bE C) (s:I)) (k:I)):=hid (by rw[II (uZ _ ((fq _ _).trans y2.q)) Ψ.q,YD.q]);clear q8 β
   gi_wp2
   have Ω:=y4.q.1;have hb2:=y4.q.2;have hb3:=ι.q;have k4:=b7.q;refine⟨⟨(Below.heap_setCell _ _ _ _ (by simp;omega)).trans (δ.q.block _ ah),(Below.heap_setCell _ _ _ _ (by simp;omega)).trans (δ.q.block _ ah)⟩,?_,?_⟩
   .exact(bM.of_below δ.q (λi _ y=>y)).trans (bM.setCell _ b o _ ah)
   .exact NI.fin r4.q γ.q.b γ.q.m γ.q.bx γ.q.r γ.q.ws (by rw[y1.q,Ad Ψ.q];exact γ.q.wa) γ.q.mv (by rw[y1.q,Kn Ψ.q,MS Ψ.q];exact γ.q.mp) f9.q f8.q HV.q ah ah ah ah ah ah
  .have q4:zn (jE r α) (s:I) (k:I)=G:=ay Φ
   rw[q4] at v1;simp only[Option.getD_none,Option.isSome_none] at v1;obtain⟨⟨sa,F,sc⟩,g4⟩:∃z,z=sl s:=⟨_,rfl⟩;have q9:=q7 s η;rw[<-g4] at q9 z9;have v2:F=(bZ (jE r α) (s:I)).length:=by
    obtain⟨_,_,q,_⟩:=q9.shape;simp only[Sl.v,Value.slice.injEq] at q;rw[q.2.1,bC]
   have r9:F<=300:=by rw[v2];exact cO (uZ _ ((fq _ _).trans y2.q)).length_le (k1.q s η).1
   have u0:(Lit.int .i64 (F:I)).wf=true:=WalkArith.wf_i64 ah;have YE:xE (jE r α)<=1200:=by
    have e:∀q:Nat,q<4->(bZ (jE r α) (q:I)).length<=300:=λq S=>cO (uZ _ ((fq _ _).trans y2.q)).length_le (k1.q q S).1
    have e0:=e 0 ah;have e1:=e 1 ah;have e2:=e 2 ah;have e3:=e 3 ah;unfold xE;exact cO (Nat.add_le_add (Nat.add_le_add (Nat.add_le_add e0 e1) e2) e3) ah
   obtain⟨W5,u1,y7,z0⟩:=v0.put MP underlying132 underlying3 (by unfold maxLen;omega) (MQ r6 r7) u0;have YS:(Instr.mapUpdate 132 (.map (U (d.1.size+1+1))) (.agg #[.int .i64 (s:I),.int .i64 (k:I)]) (.int .i64 (F:I))).run Tryz.prog (X2.alloc (J #[.int .i64 (s:I),.int .i64 (k:I)] 55))= .ok () W5:=u1;rw[v2,<-RX Φ,<-Pe η Φ] at y7;have q8:=r8.q.same (V:=V.1.size) (Same.of_below β (λi y hl=>hl)) (aC _) (by have:=ι.q;omega) (by have:=μ.q;have:=ι.q;omega) ah ah ah ah;have Θ:Same (λi=>i≠d.1.size+2) (X2.alloc (J #[.int .i64 (s:I),.int .i64 (k:I)] 55)) W5:=⟨z0.os,z0.tape,z0.output,z0.size,λi y hl=>z0.block i hl (λe=>y (by injection e))⟩;rw[j5] at q8 q9;have YF:W5.1[d.1.size+2]?≠G:=by have:=y7.lt;simp;omega
   have u2:Own W5 (d.1.size+5+5) 9 1 encStr (H sa F sc) ((bZ (jE r α) (s:I)).map (aU (C.nl s))):=(q9.below β rfl).same Θ (λg E e=>by have:=(q9.lt g E).1;omega);have u3:W5.cell? ⟨d.1.size+1,s,G⟩=U (H sa F sc):=Θ.qp (aZ β rfl z9) ah;have u4:W5.cell? ⟨d.1.size,s,G⟩=U (H (U ⟨gb,go,G⟩) nn nc):=Θ.qp (aZ β rfl y5) ah;have Ω:=y4.q.1;have hb2:=y4.q.2;have hb3:=ι.q;have k4:=b7.q;have u5:W5.cell? ⟨b,o,G⟩=U (.int .i64 (k:I)):=Θ.qp YB ah;have g5:X2.cell? ⟨gb,go+k,G⟩=U (.string ⟨nm.toArray⟩):=by have:=g2 0 _ rfl;simpa using this
   have u6:W5.cell? ⟨gb,go+k,G⟩=U (.string ⟨nm.toArray⟩):=Θ.qp (aZ β rfl g5) (λe=>by
    obtain⟨q,ZW,S⟩:=v0.obj;have:=aZ β rfl g5;rw[e] at this;unfold World.cell? at this;simp[S] at this)
   have y8:=hid u2;have γ:=hid q8;have v3:=hid Θ;have g6:=hid y7;have δ:=hid β;have Sz:=hid g1;have Ψ:=hid Φ;have YG:=hid v2;have u7:=hid g4;have y9:=hid q7;have ZX:=hid ν;have u8:=hid r9;have u9:=hid z8;have Y5:(X2.alloc (J #[.int .i64 (s:I),.int .i64 (k:I)] 55)).cell? ⟨d.1.size+1,s,G⟩=U (H sa F sc):=aZ β rfl z9;have Ξ:=hid (⟨u3,u4,u5,u6⟩:_/\_/\_/\_);have YH:Hid ((Value.slice sa F sc).ownBlock≠U gb):=hid (λe=>by have h1:=(q9.lt _ e).1;have h2:=((p3.q s η).lt gb (by rw[<-YA.q];rfl)).2;omega);have hk0:(0:I)<=(k:I):=Int.natCast_nonneg _;have hkn2:(k:I)<(nn:I):=by omega
   have Y6:(s:I)<4:=by omega
   obtain⟨i,z,y⟩:=mQ;have HI:=hid y;have HLEN:Hid (((bZ (jE r α) (s:I)).map (aU (C.nl s))).length+1=F+1):=hid (by rw[bC,<-v2]);have YI:Hid (Bx W5 (d.1.size+1) (rX sl)):=hid (Θ.bx (ν.keep β) ah);have YJ:Hid (W5.frozen? ⟨b,o,G⟩=false):=hid ((World.frozen?_of_block (a:=⟨b,o,G⟩) (Θ.block b ah (by have:=β.size;omega))).trans YC);clear u2 q8 Θ y7 β g1 Φ v2 g4 q7 ν r9 z8 q4 u3 u4 u5 u6 g5 g2 q6 q9 v0 z0 u1 κ hI z9 y5 g3 y YE u0 y6 YF
   gi_wp2
   refine vX 15 [(0,0),(1,0),(2,0),(3,0),(4,0),(5,0),(6,0),(7,0),(8,0),(9,0),(10,0),(11,0),(12,2),(13,2),(14,0),(15,2)] (λ_=>True) (λW'=>W'.cell? ⟨d.1.size+1,s,G⟩=U (H sa F sc)/\W'.cell? ⟨d.1.size,s,G⟩=U (H (U ⟨gb,go,G⟩) nn nc)/\W'.cell? ⟨b,o,G⟩=U (.int .i64 (k:I))/\W'.cell? ⟨gb,go+k,G⟩=U (.string ⟨nm.toArray⟩)) au au au (trivial) (Ξ.q) ?_;refine qC ?_;refine aG rfl rfl (λK hK=>?_);go_simp;have z1:Below W5.1.size W5 (W5.alloc (J #[.string ⟨nm.toArray⟩] 9)).drew:=(aB (Below.refl W5.1.size W5) (J #[.string ⟨nm.toArray⟩] 9)).drew;have ξ:=hid z1;refine hK _ _ ⟨trivial,aZ z1 rfl Ξ.q.1,aZ z1 rfl Ξ.q.2.1,aZ z1 rfl Ξ.q.2.2.1,aZ z1 rfl Ξ.q.2.2.2⟩ ?_;clear hK K z1;refine aG rfl rfl (λK hK=>?_);refine gK _ _ 22 rfl i z 16 underlying22 HI.q.1 HI.q.2.1 HI.q.2.2.1 HI.q.2.2.2.1 HI.q.2.2.2.2 rfl (y8.q.below ξ.q rfl) (U ⟨W5.1.size,0,G⟩) 1 1 (F+1) [nm] rfl (Row.str1 W5 nm) HLEN.q (by have:=u8.q;omega) (by have:=u8.q;unfold maxLen;omega) (cO (by have:=v3.q.size;have:=δ.q.size;omega) ξ.q.size) ?_;intro a' c' W9 w0 v4 w3;have v5:Hid (∀g,(Value.slice sa F sc).ownBlock=U g->d.1.size+5+5<=g):=hid (λg E=>(y8.q.lt g E).1);have x0:Bx W9 (d.1.size+1) (rX sl):=(YI.q.keep ξ.q).grown v4 (λe=>by have:=v5.q _ e;omega);have YK:W9.cell? ⟨d.1.size+1,s,G⟩=U (H sa F sc):=(x0.1 s).trans (by rw[sN sl η,<-u7.q]);have v6:∀g j v,W5.cell? ⟨g,j,G⟩=U v->(Value.slice sa F sc).ownBlock≠U g->W9.cell? ⟨g,j,G⟩=U v:=λg j v hc Q=>(World.cell?_of_block (a:=⟨g,j,G⟩) (v4.block g (kS (iw hc) ξ.q.size) (λe=>Q e.symm))).trans (aZ ξ.q rfl hc)
   have YL:=hid x0;have w5:=hid w0;have z2:=hid v4;have XV:=hid w3;refine hK _ _ ⟨trivial,YK,v6 _ _ _ Ξ.q.2.1 (λe=>by have:=v5.q _ e;omega),v6 _ _ _ Ξ.q.2.2.1 (λe=>by have:=v5.q _ e;omega),v6 _ _ _ Ξ.q.2.2.2 (λe=>YH.q e)⟩ ?_;have ZY:=x0.2.1 s;have Y7:W9.frozen? ⟨b,o,G⟩=false:=(World.frozen?_of_block (a:=⟨b,o,G⟩) (v4.block b (by have:=ξ.q.size;have:=v3.q.size;have:=δ.q.size;omega) (λe=>by have:=v5.q _ e.symm;omega))).trans ((World.frozen?_of_block (a:=⟨b,o,G⟩) (ξ.q.block b (by have:=v3.q.size;have:=δ.q.size;omega))).trans YJ.q);have Y8:=v6 _ _ _ Ξ.q.2.2.1 (λe=>by have:=v5.q _ e;omega);clear hK K w0 v4 w3 v6 x0;refine qC ?_;refine bA rfl rfl rfl (λK hK=>?_);go_simp;refine hK _ _ trivial ?_;clear hK K;refine aH ?_
   gi_wp2
   have hxw:=YL.q.WL η ⟨a',F+1,c'⟩;have w6:Same (λi=>i≠d.1.size+2/\i≠d.1.size+1/\(Value.slice sa F sc).ownBlock≠U i) (X2.alloc (J #[.int .i64 (s:I),.int .i64 (k:I)] 55)) (W9.setCell ⟨d.1.size+1,s,G⟩ (H a' (F+1) c')):=
    (((v3.q.mono (λi y _=>y.1)).tr (Same.of_below ξ.q (λi _ hl=>hl))).tr ⟨z2.q.os,z2.q.tape,z2.q.output,z2.q.size,λi y hl=>z2.q.block i hl (λe=>y.2.2 e.symm)⟩).setTail (λhh=>hh.2.1 rfl)
   have π:Same (λi=>i<d.1.size+5+5/\i≠d.1.size+2/\i≠d.1.size+1) (X2.alloc (J #[.int .i64 (s:I),.int .i64 (k:I)] 55)) (W9.setCell ⟨d.1.size+1,s,G⟩ (H a' (F+1) c')):=
    w6.mono (λi y _=>⟨y.2.1,y.2.2,λe=>by have:=(y8.q.lt i e).1;have:=y.1;omega⟩)
   have YM:∀g,(Value.slice sa F sc).ownBlock=U g->d.1.size+5+5<=g:=λg E=>(y8.q.lt g E).1
   have XW:(W9.setCell ⟨d.1.size+1,s,G⟩ (H a' (F+1) c')).1[d.1.size+2]?=W5.1[d.1.size+2]?:=(Below.heap_setCell _ _ _ _ ak).trans ((z2.q.block _ (by have:=g6.q.lt;have:=ξ.q.size;omega) (λe=>by have:=YM _ e.symm;omega)).trans (ξ.q.block _ g6.q.lt));have XY:nm=aU (C.nl s) (k:I):=by rw[vO _ HK.q];exact((bq.1 Sz.q).2).symm
   have HV:Hid ((F:I)=bX (bZ (bE C) (s:I)) (k:I)):=hid (by rw[YG.q];refine(Rz ?_ Ψ.q).symm;have:=uZ (s:I) y2.q;rw[tN Ψ.q,aA rfl] at this;exact this);have w7:∀q,q<4->q≠s->∀g,(sl q).v.ownBlock=U g->(Value.slice sa F sc).ownBlock≠U g:=λq S j0 g E=>by
    have:=u9.q q s S η j0 g E;rw[<-u7.q] at this;exact this
   refine⟨⟨?_,?_⟩,?_,?_⟩
   .exact(Below.heap_setCell _ _ _ _ (by show d.1.size+5≠b;omega)).trans ((π.block _ ⟨by omega,by omega,by omega⟩ (by have:=δ.q.size;omega)).trans (δ.q.block _ ah))
   .exact(Below.heap_setCell _ _ _ _ (by show d.1.size+5+1≠b;omega)).trans ((π.block _ ⟨by omega,by omega,by omega⟩ (by have:=δ.q.size;omega)).trans (δ.q.block _ ah))
   .refine(bM.of_below δ.q (λi _ y=>y)).trans ((bM.trans (B:=W9.setCell ⟨d.1.size+1,s,G⟩ (H a' (F+1) c')) ⟨π.size,λi y hl=>π.block i ⟨?_,?_,?_⟩ hl⟩ (bM.setCell _ b o _ ah))) <;> omega
   .refine NI.fin r4.q (π.below γ.q.b (λi y=>⟨by omega,by omega,by omega⟩) γ.q.b.size) (γ.q.m.same (π.mono (λi y _=>⟨by omega,by omega,by omega⟩))) (π.bx γ.q.bx ⟨by omega,by omega,by omega⟩) (π.bx γ.q.r ⟨by omega,by omega,by omega⟩) (π.bx γ.q.ws ⟨by omega,by omega,by omega⟩) ⟨_,hxw,?_,?_⟩ (π.bx γ.q.mv ⟨by omega,by omega,by omega⟩) ?_ f9.q f8.q HV.q ah ah ah ah ah ah
    .intro q w8
     rw[y1.q,tN Ψ.q];by_cases j0:q=s
     .subst j0
      rw[aA rfl,aA rfl,fV,qU,<-XY];refine w5.q.same (Same.setTail (A:=λi=>i≠d.1.size+1) (Same.refl' _) (λhh=>hh rfl)) (λg E=>?_);have:=(w5.q.lt g E).1;omega
     .rw[ay j0,ay ah]
      have hO:=y9.q q w8;rw[Yy.q] at hO;refine(hO.below δ.q rfl).same w6 (λg E=>⟨?_,?_,w7 q w8 j0 g E⟩) <;> have:=(hO.lt g E).1 <;> omega
    .have w9:∀q,q<4->q≠s->∀g,(Value.slice a' (F+1) c').ownBlock=U g->(sl q).v.ownBlock≠U g:=λq S j0 g E e=>by
      rcases XV.q with h1|h1
      .exact w7 q S j0 g e (h1.symm.trans E)
      .rw[E] at h1
       injection h1 with h1;have:=((y9.q q S).lt g e).2;have:=ξ.q.size;have:=v3.q.size;have:=δ.q.size;omega
     intro q q' S hq' Q g E
     dsimp only at E ⊢
     by_cases h1:q=s
     .subst h1
      rw[aA rfl] at E;rw[ay (λe=>Q e.symm)];exact w9 q' hq' (λe=>Q e.symm) g E
     .rw[ay h1] at E
      by_cases h2:q'=s
      .subst h2
       rw[aA rfl];exact λe=>w9 q S h1 g e E
      .rw[ay h2]
       exact u9.q q q' S hq' Q g E
    .rw[y1.q]
     exact g6.q.of_eq XW
 case done=>
  intro X hI g7;rw[j5] at g7;obtain⟨sl,ν,q7,z8⟩:=hI.wa;obtain⟨s0,x2⟩:∃z,z=sl 0:=⟨_,rfl⟩;obtain⟨s1,j8⟩:∃z,z=sl 1:=⟨_,rfl⟩;obtain⟨s2,q5⟩:∃z,z=sl 2:=⟨_,rfl⟩;obtain⟨s3,g8⟩:∃z,z=sl 3:=⟨_,rfl⟩;have hc0:X.cell? ⟨d.1.size+1,0,G⟩=U s0.v:=by rw[x2];exact ν.1 0
  have hc1:X.cell? ⟨d.1.size+1,1,G⟩=U s1.v:=by rw[j8];exact ν.1 1
  have y3:X.cell? ⟨d.1.size+1,2,G⟩=U s2.v:=by rw[q5];exact ν.1 2
  have hc3:X.cell? ⟨d.1.size+1,3,G⟩=U s3.v:=by rw[g8];exact ν.1 3
  have Xp:=hid (⟨hc0,hc1,y3,hc3⟩:_/\_/\_/\_);have θ:=hid hI.bx;have YN:=hid hI.r;have g9:=hid hI;have x3:=hid g7;have y9:=hid q7;have x4:=hid (⟨x2,j8,q5,g8⟩:_/\_/\_/\_);clear hc0 hc1 y3 hc3 hI ν q7 z8 g7 x2 j8 q5 g8;simp only[Exit.inBlock,Exit.then]
  go_wp2
  refine aD 15 [(0,0),(1,0),(2,0),(3,0),(4,0),(5,0),(6,0),(7,0),(8,0),(9,2),(10,0),(11,2),(12,0),(13,2),(14,0),(15,2)] (λ_=>True) (λW'=>W'.cell? ⟨d.1.size+1,0,G⟩=U s0.v/\W'.cell? ⟨d.1.size+1,1,G⟩=U s1.v/\W'.cell? ⟨d.1.size+1,2,G⟩=U s2.v/\W'.cell? ⟨d.1.size+1,3,G⟩=U s3.v) au au (trivial) (Xp.q) ?_;refine qC ?_;refine aG rfl rfl (λK hK=>?_);go_simp;have x5:Hid (X.cell? ⟨d.1.size+1,0,G⟩=U s0.v/\X.cell? ⟨d.1.size+1,1,G⟩=U s1.v/\X.cell? ⟨d.1.size+1,2,G⟩=U s2.v/\X.cell? ⟨d.1.size+1,3,G⟩=U s3.v):=Xp;have ο:=θ.q;have φ:=θ.q.1;have χ:=θ.q.2.1;have ψ:=θ.q.2.2;go_simp;have Q:d.1.size+1≠w.1.size:=by have:=ι.q;have:=μ.q;omega
  have v7:=hid (show _/\_/\_/\_ from⟨bP (o':=0) (u:=s0.v) x5.q.1 Q,bP (o':=0) (u:=s0.v) x5.q.2.1 Q,bP (o':=0) (u:=s0.v) x5.q.2.2.1 Q,bP (o':=0) (u:=s0.v) x5.q.2.2.2 Q⟩);refine hK _ _ ⟨trivial,v7.q⟩ ?_;clear Q;have XZ:=hid (ο.aX 0 ak s0.v);clear hK K ο φ χ ψ;refine qC ?_;refine aG rfl rfl (λK hK=>?_);go_simp;have ο:=XZ.q;have φ:=θ.q.1;have χ:=θ.q.2.1;have ψ:=θ.q.2.2;go_simp;have Q:d.1.size+1≠w.1.size:=by have:=ι.q;have:=μ.q;omega
  have v8:=hid (show _/\_/\_/\_ from⟨bP (o':=1) (u:=s1.v) v7.q.1 Q,bP (o':=1) (u:=s1.v) v7.q.2.1 Q,bP (o':=1) (u:=s1.v) v7.q.2.2.1 Q,bP (o':=1) (u:=s1.v) v7.q.2.2.2 Q⟩);refine hK _ _ ⟨trivial,v8.q⟩ ?_;clear Q;have X5:=hid (ο.aX 1 ak s1.v);clear hK K ο φ χ ψ;refine qC ?_;refine aG rfl rfl (λK hK=>?_);go_simp;have ο:=X5.q;have φ:=θ.q.1;have χ:=θ.q.2.1;have ψ:=θ.q.2.2;go_simp;have Q:d.1.size+1≠w.1.size:=by have:=ι.q;have:=μ.q;omega
  have X6:=hid (show _/\_/\_/\_ from⟨bP (o':=2) (u:=s2.v) v8.q.1 Q,bP (o':=2) (u:=s2.v) v8.q.2.1 Q,bP (o':=2) (u:=s2.v) v8.q.2.2.1 Q,bP (o':=2) (u:=s2.v) v8.q.2.2.2 Q⟩);refine hK _ _ ⟨trivial,X6.q⟩ ?_;clear Q;have X7:=hid (ο.aX 2 ak s2.v);clear hK K ο φ χ ψ;refine qC ?_;refine bA rfl rfl rfl (λK hK=>?_);go_simp;have ο:=X7.q;have φ:=θ.q.1;have χ:=θ.q.2.1;have ψ:=θ.q.2.2;go_simp;refine hK _ _ trivial ?_;have X8:=hid (ο.aX 3 ak s3.v);clear hK K ο φ χ ψ;refine aH ?_;have j1:Bx ((((X.setCell ⟨w.1.size,0,G⟩ s0.v).setCell ⟨w.1.size,1,G⟩ s1.v).setCell ⟨w.1.size,2,G⟩ s2.v).setCell ⟨w.1.size,3,G⟩ s3.v).drew w.1.size (aI ⟨s0,s1,s2,s3,h'.e,h'.d,h'.m,h'.w⟩):=by
   have:=X8.q;have h2:Bx ((((X.setCell ⟨w.1.size,0,G⟩ s0.v).setCell ⟨w.1.size,1,G⟩ s1.v).setCell ⟨w.1.size,2,G⟩ s2.v).setCell ⟨w.1.size,3,G⟩ s3.v) w.1.size (aI ⟨s0,s1,s2,s3,h'.e,h'.d,h'.m,h'.w⟩):=by simpa[aI] using this
   exact h2.drew
  have v9:Same (λi=>i≠w.1.size) X ((((X.setCell ⟨w.1.size,0,G⟩ s0.v).setCell ⟨w.1.size,1,G⟩ s1.v).setCell ⟨w.1.size,2,G⟩ s2.v).setCell ⟨w.1.size,3,G⟩ s3.v).drew:=by
   have:=((((Same.refl' X).setTail (b:=w.1.size) (o:=0) (v:=s0.v) (A:=λi=>i≠w.1.size) (λhn=>hn rfl)).setTail (b:=w.1.size) (o:=1) (v:=s1.v) (λhn=>hn rfl)).setTail (b:=w.1.size) (o:=2) (v:=s2.v) (λhn=>hn rfl)).setTail (b:=w.1.size) (o:=3) (v:=s3.v) (λhn=>hn rfl);exact this.mU
  revert j1 v9;generalize((((X.setCell ⟨w.1.size,0,G⟩ s0.v).setCell ⟨w.1.size,1,G⟩ s1.v).setCell ⟨w.1.size,2,G⟩ s2.v).setCell ⟨w.1.size,3,G⟩ s3.v).drew=Y;intro j1 v9;have Z8:=hid j1;have x6:=hid v9;have k0:=v9.bx YN.q ah;have YO:=hid k0;have hcy:=j1.1;have hfy:=j1.2.1;have hly:=j1.2.2;have hcr:=k0.1;have hfr:=k0.2.1;have hlr:=k0.2.2;clear j1 v9 k0;go_wp2_with fail;have m0:Bx ((((((((Y.setCell ⟨w.1.size+1,0,G⟩ s0.v).setCell ⟨w.1.size+1,1,G⟩ s1.v).setCell ⟨w.1.size+1,2,G⟩ s2.v).setCell ⟨w.1.size+1,3,G⟩ s3.v).setCell ⟨w.1.size+1,4,G⟩ h'.e.v).setCell ⟨w.1.size+1,5,G⟩ h'.d.v).setCell ⟨w.1.size+1,6,G⟩ h'.m.v).setCell ⟨w.1.size+1,7,G⟩ h'.w.v) (w.1.size+1) (aI ⟨s0,s1,s2,s3,h'.e,h'.d,h'.m,h'.w⟩):=by
   have:=(((((((YO.q.aX 0 ak s0.v).aX 1 ak s1.v).aX 2 ak s2.v).aX 3 ak s3.v).aX 4 ak h'.e.v).aX 5 ak h'.d.v).aX 6 ak h'.m.v).aX 7 ak h'.w.v
   simpa[aI] using this
  have j9:Same (λi=>i≠w.1.size+1) Y ((((((((Y.setCell ⟨w.1.size+1,0,G⟩ s0.v).setCell ⟨w.1.size+1,1,G⟩ s1.v).setCell ⟨w.1.size+1,2,G⟩ s2.v).setCell ⟨w.1.size+1,3,G⟩ s3.v).setCell ⟨w.1.size+1,4,G⟩ h'.e.v).setCell ⟨w.1.size+1,5,G⟩ h'.d.v).setCell ⟨w.1.size+1,6,G⟩ h'.m.v).setCell ⟨w.1.size+1,7,G⟩ h'.w.v):=iT (b:=w.1.size+1) (h':=⟨s0,s1,s2,s3,h'.e,h'.d,h'.m,h'.w⟩);revert m0 j9;generalize((((((((Y.setCell ⟨w.1.size+1,0,G⟩ s0.v).setCell ⟨w.1.size+1,1,G⟩ s1.v).setCell ⟨w.1.size+1,2,G⟩ s2.v).setCell ⟨w.1.size+1,3,G⟩ s3.v).setCell ⟨w.1.size+1,4,G⟩ h'.e.v).setCell ⟨w.1.size+1,5,G⟩ h'.d.v).setCell ⟨w.1.size+1,6,G⟩ h'.m.v).setCell ⟨w.1.size+1,7,G⟩ h'.w.v)=Z;intro m0 j9;have x2:=μ.q;have η:=ι.q;have hsw:=b7.q;have hdf:Z.1[d.1.size+5]?=U (.deferred (U [])):=by
   have h1:=x6.q.block (d.1.size+5) ah (fH.1 x3.q).1;have h2:=j9.block (d.1.size+5) ah (by have:=x6.q.size;have:=(fH.1 x3.q).1;omega);exact(h2.trans h1).trans x3.q
  have hp:=m0.putObj (l:=d.1.size+5) (.deferred G) ah;have hcp:=hp.1;have hsa:Same (λi=>w1.1.size<=i/\i≠d.1.size+5) X (Z.putObj (d.1.size+5) (.deferred G)):=(((x6.q.mono (λi y _=>by have:=y.1;omega)).tr (j9.mono (λi y _=>by have:=y.1;omega))).tr (Same.putObj (A:=λi=>w1.1.size<=i/\i≠d.1.size+5) _ _ (λhn=>hn.2 rfl)));refine⟨by simp,.inl ⟨_,_,rfl,run_takeDeferred hdf,?_⟩⟩;have hres:=G7 (w:=w) (Y:=Z.putObj (d.1.size+5) (.deferred G)) (sl:=sl) (N:=V.1.size+5) rfl HL.q ε.q.be ε.q.bd ε.q.bm HQ.q.1 HQ.q.2.1 HQ.q.2.2 (by rw[<-b9.q];exact g9.q.m) WM.q (λq S=>by have:=y9.q q S;rw[<-f0.q];exact this) (by have:=ε.q.b.size;have:=z4.q.size;omega) ah (λcs T fz e=>by have:=x3.q;rw[this] at e;cases e) hsa ?_ ρ.q.1 ρ.q.2.1 ρ.q.2.2;refine⟨.tuple #[fB ⟨s0,s1,s2,s3,h'.e,h'.d,h'.m,h'.w⟩,.int .i64 0],?_,?_⟩
  .simp[results,results35,go_sem,hcp,aI]
  .rw[x4.q.1,x4.q.2.1,x4.q.2.2.1,x4.q.2.2.2]
   exact hres
  .have S:Same (λi=>i<w.1.size) X (Z.putObj (d.1.size+5) (.deferred G)):=((x6.q.mono (λi y _=>by omega)).tr (j9.mono (λi y _=>by omega))).tr (Same.putObj (A:=λi=>i<w.1.size) _ _ (λhn=>by omega))
   exact S.below g9.q.b (λi y=>y) g9.q.b.size
end Yd
namespace Yd
open List renaming mem_iff_getElem->f,getElem_zip->C
open Go Go.RowKit Go.Proofs Go.Maps
open _root_ renaming List->b
theorem Cu {l:b Int}{m:Nat}(a:l.Nodup)(h:∀x∈l,bf x m=true):l.length<=m:=by
 have:=List.Nodup.length_le_of_subset (l₂:=(List.range m).map (λk:Nat=>(k:Int))) a (λx d=>by
  obtain⟨k,rfl,g⟩:=BI (h x d);exact eZ.2 ⟨k,uN.2 g,rfl⟩)
 rwa[bC,List.length_range] at this
theorem RY {R a d g:Nat}{e:EvC}{l:b Sn}(h:gY R a d g e l=true):l.length<=40:=by
 grind [gY,hasB,fD]
theorem RZ {R g i j:Nat}{e:EvC}{l:b Sn}(h:gY R g i j e l=true):AR e:=by
 unfold gY at h;simp only[bD,bO] at h;have a:=h.2;unfold fD at a
 split at a
 .rename_i d
  simp only[bD,bO] at a;exact⟨λk=>absurd d k,λ_=>⟨a.1.1.1,a.1.1.2⟩,λ_=>a.1.2⟩
 .rename_i m
  split at a
  .rename_i d
   simp only[bD,bO] at a;exact⟨λ_=>a.1.1.1,λk=>absurd d k,λ_=>a.1.2⟩
  .rename_i o
   split at a
   .rename_i d
    simp only[bD,bO] at a;exact⟨λ_=>a.1.1.1,λ_=>⟨a.1.2,a.2⟩,λk=>absurd d k⟩
   .simp only[bD,bO] at a
    exact⟨λ_=>a.1.1.1.1.1,λ_=>⟨a.1.1.1.2,a.1.1.2⟩,λ_=>a.1.2⟩
theorem R3 {α β:Type}{xs:b α}{a:b β}(h:xs.length=a.length){x:α}(d:x∈xs):∃y,(x,y)∈xs.zip a:=by
 obtain⟨i,g,rfl⟩:=f.1 d;exact⟨a[i]' ah,f.2 ⟨i,by rw[xY];omega,by rw[C]⟩⟩
theorem BM {α β:Type}{xs:b α}{a:b β}(h:xs.length=a.length){y:β}(d:y∈a):∃x,(x,y)∈xs.zip a:=by
 obtain⟨i,g,rfl⟩:=f.1 d;exact⟨xs[i]' ah,f.2 ⟨i,by rw[xY];omega,by rw[C]⟩⟩
theorem Et {n:Nat}{l:b Int}(h:fK n l=true):l.length<=300:=by
 grind [fK]
variable{c:Cont}
theorem gX.Ea (h:gX c)(a:aR c):uI c:=
 ⟨by have:=a.2.1;omega,by have:=a.2.2.1;omega,by have:=a.2.2.2.1;omega,by have:=a.2.2.2.2.1;omega,λi l=>by have:=a.1 i l;have:=qo i;omega,
 λj d=>by obtain⟨x,g⟩:=BM h.le d;have:=RY (h.ev _ g);simp only at this;omega,
 λj d=>by obtain⟨x,g⟩:=BM h.ld d;have:=Et (h.od _ g).2;simp only at this;omega,
 λj d=>by obtain⟨x,g⟩:=BM h.lm d;have:=Et (h.ma _ g).2.2;simp only at this;omega⟩
theorem gX.bare (h:gX c):∀e∈c.E,AR e:=λe a=>by
 obtain⟨y,d⟩:=R3 h.le a;exact RZ (h.ev _ d)
theorem gX.MU (h:gX c)(g:aR c):∀s:Nat,s<4->(bZ (bE c) (s:Int)).length<=300/\(c.nl s).length<=300:=λs i=>by
 have a:(c.nl s).length<=300:=cO (g.1 s i) (qo s);refine⟨cO (Cu (zG _ _) (λx j=>?_)) a,a⟩;obtain⟨l,a,m,d⟩:=qJ h _ (Av _ j);simp only at m d;have:s=l:=by omega
 rw[this];exact d
variable{X:World}{B:Nat}{h:HC}{E:b EvC}{j:b aO}
theorem gU.lens {a:b aP}{d:EvC->b Sn}{g:aO->b Int}{l:aP->b Int}(o:gU X B h c E j a d g l):
  h.e.n=c.E.length/\h.d.n=c.D.length/\h.m.n=c.M.length/\h.w.n=c.Q.length/\∀i,i<4->(h.nm i).n=(c.nl i).length:=by
 refine⟨?_,?_,?_,?_,λi m=>?_⟩
 .obtain⟨_,_,q,_⟩:=o.oe.shape;simp only[Value.slice.injEq] at q;rw[<-o.be,bC];exact q.2.1
 .obtain⟨_,_,q,_⟩:=o.od.shape;simp only[Value.slice.injEq] at q;rw[<-o.bd,bC];exact q.2.1
 .obtain⟨_,_,q,_⟩:=o.om.shape;simp only[Value.slice.injEq] at q;rw[<-o.bm,bC];exact q.2.1
 .obtain⟨_,_,q,_⟩:=o.oq.shape;simp only[Value.slice.injEq] at q;exact q.2.1
 .obtain⟨_,_,q,_⟩:=(o.on i m).shape;simp only[Value.slice.injEq] at q;exact q.2.1
theorem gU.shaped {u:b aP}{l:EvC->b Sn}{m:aO->b Int}{p:aP->b Int}(o:gU X B h c E j u l m p)(a:gX c)(w:aR c):
  nK h c.nl E j u c.Q l m p=true:=by
 obtain⟨K,Q,R,S,g⟩:=o.lens;have q:h.t.n=(c.nl 0).length:=g 0 ah;have y:h.s.n=(c.nl 1).length:=g 1 ah;have r:h.o.n=(c.nl 2).length:=g 2 ah;have v:h.p.n=(c.nl 3).length:=g 3 ah;obtain⟨z,Z,f3,f4,f5,_⟩:=w;unfold nK;simp only[bD,jW];refine⟨⟨⟨⟨?_,λe he=>?_⟩,λx t=>?_⟩,λx t=>?_⟩,λx t=>?_⟩
 .unfold qK
  simp only[bD,jW,uN];refine⟨?_,λi A=>?_⟩
  .grind [JV]
  .unfold qA nA
   simp only[bD,jW,bO];refine⟨?_,λs F=>(a.nm i).2 s F,(a.nm i).1⟩;have:=z i A
   grind [iF,Dy]
 .rw[q,y,r,v]
  have d:(e.base,l e)∈c.E.zip c.SE:=by
   rw[<-o.be,<-o.ss,qg]
   grind
  exact a.ev _ d
 .have d:(x.base,m x)∈c.D.zip c.SD:=by
   rw[<-o.bd,<-o.ts,qg]
   grind
  have:=a.od _ d;unfold JW;rw[q,r,bD];exact this
 .have d:(x.base,p x)∈c.M.zip c.SM:=by
   rw[<-o.bm,<-o.us,qg]
   grind
  have:=a.ma _ d;unfold JX;rw[q,r,v,bD,bD];exact⟨⟨this.1,this.2.1⟩,this.2.2⟩
 .have:=a.wa x t
  grind [EQ]
theorem GZ {g:b aP}{i:EvC->b Sn}{l:aO->b Int}{m:aP->b Int}(o:gU X B h c E j g i l m)(a:gX c)(d:aR c)(p:wQ X):
  Calls Tryz.prog 35 #[fB h] X (Ko X (fG c)):=
 DK h c.nl E j g c.Q i l m X p (o.names (a.Ea d)) (o.deep (a.Ea d)) (o.bulk (a.Ea d)) (o.shaped a d) c o.cont a.bare (qJ a) (a.MU d)
end Yd
namespace Yd
open Go Go.RowKit Go.Proofs Tryz
open Below renaming refl->H
open Go.IntKind renaming i64->B
open Go.Value renaming int->f,slice->D,string->L
open RowKit renaming intOf->G
open Tryz renaming prog->J
open World renaming size_alloc->I
open Yd renaming hid->C
def Kq (s:Bs):Bs:=if 131072<s.length then s else s.take 6000
theorem WR (s:Bs)(w:World):Calls J 5 #[L ⟨s.toArray⟩] w (bT (L ⟨(Kq s).toArray⟩) w):=by
 have o:=dW s;by_cases g:131072<s.length
 .have j:(131072:Int)<(s.length:Int):=by omega
  have a:Kq s=s:=aA g;rw[a];go_enter func5,ntmps5;go_wp2_with fail;refine bodyPost_ret (v:= L ⟨s.toArray⟩) (by simp[results,results5,go_sem]) rfl ?_;exact⟨rfl,H _ _⟩
 have j:¬((131072:Int)<(s.length:Int)):=by omega
 have a:Kq s=s.take 6000:=ay g;obtain⟨m,i⟩:∃m:Nat,m=min s.length 6000:=⟨_,rfl⟩;have p:min (s.length:Int) 6000=(m:Int):=by omega
 have d:(⟨s.toArray⟩:ByteArray).extract 0 m=⟨(s.take 6000).toArray⟩:=by
  rw[F7 s 0 m (aS _),List.drop_zero,Nat.sub_zero,i,Nat.min_comm,<-List.take_eq_take_min]
 have q:m<=6000:=by omega
 have r:m<=s.length:=by omega
 have l:=C d;rw[a];clear i d a;go_enter func5,ntmps5;go_wp2_with fail;have d:=l.q;refine bodyPost_ret (v:= L ⟨(s.take 6000).toArray⟩) (by simp[results,results5,go_sem,d]) rfl ?_;exact⟨rfl,H _ _⟩
attribute [local go_sem] Oper.semAt_some
theorem uE (a:Option Addr)(n c:Nat)(xs:List Int)(x:Int)(w:World)(j:Row w 1 aQ a n c xs):
  Calls J 90 #[D a n c,f B x] w (bT (f B (bX xs x)) w):=by
 have S:=j.le;have s:=C j;have Z:=j.cap;obtain⟨r,p⟩:∃r,r=bX xs x:=⟨_,rfl⟩;have t:=C p;rw[<-p];clear j p;go_enter func90,ntmps90;go_wp2_with fail
 go_loopw [9] (λi wr=>∃k:Nat,k<=n/\i= f B k/\x∉xs.take k/\Below w.1.size w wr) (λi _=>n - (G i).toNat)
 case atStart=>exact⟨0,aS _,rfl,by simp,H _ _⟩
 case round=>
  obtain⟨k,hk,rfl,d,g⟩:=hrel;by_cases E:k<n
  .obtain⟨y,b,o,u,rfl,v⟩:=s.q.at_ E
   have F:=aZ g rfl (v 0 _ rfl);simp only[gP,bK] at F;have z:=C u;have A:=C d;have l:=C g;clear v u d g;by_cases m:y=x
   .subst m
    have q:r=(k:Int):=by
     obtain⟨K,Q⟩:=D7 z.q A.q;rw[t.q];unfold bX;rw[aA Q,K]
    subst q;go_wp2_with fail;go_ret;exact⟨rfl,l.q⟩
   .have α:(y==x)=false:=by simpa using m
    have R:=C m;clear m;go_wp2_with fail;go_roundw
    case rel=>exact⟨k+1,by omega,by go_num,by rw[eD,z.q];simp only[Option.toList_some,cu,dw,not_or];exact⟨A.q,λe=>R.q e.symm⟩,l.q⟩
    case measure=>simp[G];omega
  .obtain rfl:n=k:=by omega
   have l:=C g;have q:r= -1:=by
    rw[eF (by rw[s.q.len];exact aC _)] at d;rw[t.q];unfold bX;rw[ay d]
   subst q;clear d g;go_wp2_with fail;go_ret;exact⟨rfl,l.q⟩
theorem QX (S:Option Addr)(u Z:Nat)(d:List Bs)(a:Option Addr)(n c:Nat)(xs:List Int)(w:World)(A:Row w 1 encStr S u Z d)(E:Row w 1 aQ a n c xs)(hx:∀x∈xs,0<=x/\x<(d.length:Int))(hn:n<=1000000):
  Calls J 89 #[D S u Z,D a n c] w (λe w'=>∃p c',e= .returned (D p n c')/\Own w' w.1.size 9 1 encStr (D p n c') (xs.map (aU d))/\Below w.1.size w w'):=by
 have HL:=C A;have F:=C E;have HX:=C hx;obtain⟨ti,z,hi⟩:=mQ;have j:=C hi;have θ:=E.le;have ι:=A.len;clear A E hx hi;go_enter func89,ntmps89;go_wp2_with fail
 go_loopw [5,10] (λv i wr=>∃(k:Nat)(q:Option Addr)(r:Nat),k<=n/\v= D q k r/\i= f B k/\Own wr w.1.size 9 1 encStr (D q k r) ((xs.take k).map (aU d))/\Below w.1.size w wr) (λ_ i _=>n - (G i).toNat)
 case atStart=>exact⟨0,none,0,aS _,rfl,rfl,Own.eH _ _ _ _ _,H _ _⟩
 case round=>
  obtain⟨k,q,r,hk,rfl,rfl,l,g⟩:=hrel;by_cases ε:k<n
  .obtain⟨y,b,o,K,rfl,hc⟩:=F.q.at_ ε
   have h0:=aZ g rfl (hc 0 _ rfl);simp only[gP,bK] at h0;obtain⟨q0,q1⟩:=HX.q y (bS K);obtain⟨m,rfl⟩:∃m:Nat,y=m:=⟨y.toNat,by omega⟩;have hm:m<u:=by omega
   obtain⟨s,b2,o2,hs,rfl,α⟩:=HL.q.at_ hm;have h2:=aZ g rfl (α 0 _ rfl);simp only[gP,bK] at h2;have t:=C l;have Q:=C g;have HE:Hid ((xs.take k).map (aU d)++[s]=(xs.take (k+1)).map (aU d)):=C (by
    rw[eD,K,fV];have:aU d (m:Int)=s:=by unfold aU;rw[gF,List.getD_eq_getElem?_getD,hs];rfl
    simp[this])
   have ζ:Hid (((xs.take k).map (aU d)).length+1=k+1):=C (by rw[bC,dJ,F.q.len];omega);have β:Hid (w.1.size<=(wr.alloc (.cells #[L ⟨s.toArray⟩] 9)).1.size):=C (by have:=g.size;simp;omega);clear l g hc K α hs q0 q1
   go_wp2_with (at_builtin;refine dx rfl _ _ 22 rfl ti z 16 underlying22 j.q.1 j.q.2.1 j.q.2.2.1 j.q.2.2.2.1 j.q.2.2.2.2 rfl (t.q.alloc _) (some ⟨wr.1.size,0,none⟩) 1 1 (k+1) [s] rfl (Row.str1 wr s) ζ.q ah (by unfold maxLen;omega) β.q ?_;intro p c' w2 R γ η)
   rw[HE.q] at R;have δ:=below_app (aB Q.q _) (t.q.alloc _) (aC _) β.q γ;have HQ:=C (⟨R,δ⟩:_/\_);clear R γ η δ;go_roundw
   case rel=>exact⟨k+1,p,c',by omega,rfl,by go_num,HQ.q.1,HQ.q.2⟩
   case measure=>simp[G];omega
  .obtain rfl:n=k:=by omega
   rw[eF (by rw[F.q.len];exact aC _)] at l;have t:=C l;have Q:=C g;clear l g;go_wp2_with fail;go_ret;exact⟨q,r,rfl,t.q,Q.q⟩
theorem N7 (t:Option Addr)(u x:Nat)(d:List Int)(a:Option Addr)(n c:Nat)(xs:List Int)(w:World)(Z:Row w 1 aQ t u x d)(A:Row w 1 aQ a n c xs)(hn:n<=2000000):
  Calls J 92 #[D t u x,D a n c] w (λe w'=>∃m c',e= .returned (D m n c')/\Own w' w.1.size 3 1 aQ (D m n c') (xs.map (bX d))/\Below w.1.size w w'):=by
 have HL:=C Z;have E:=C A;obtain⟨ti,z,hi⟩:=qZ;have j:=C hi;have κ:=A.le;clear Z A hi;go_enter func92,ntmps92;go_wp2_with fail
 go_loopw [5,10] (λv i wr=>∃(k:Nat)(q:Option Addr)(r:Nat),k<=n/\v= D q k r/\i= f B k/\Own wr w.1.size 3 1 aQ (D q k r) ((xs.take k).map (bX d))/\Below w.1.size w wr) (λ_ i _=>n - (G i).toNat)
 case atStart=>exact⟨0,none,0,aS _,rfl,rfl,Own.eH _ _ _ _ _,H _ _⟩
 case round=>
  obtain⟨k,q,r,hk,rfl,rfl,l,g⟩:=hrel;by_cases η:k<n
  .obtain⟨y,b,o,hy,rfl,hc⟩:=E.q.at_ η
   have h0:=aZ g rfl (hc 0 _ rfl);simp only[gP,bK] at h0;have F:=C l;have s:=C g;have α:=C (uE t u x d y wr (HL.q.below g rfl));obtain⟨p,K⟩:∃p,p=bX d y:=⟨_,rfl⟩;rw[<-K] at α;have HE:Hid ((xs.take k).map (bX d)++[p]=(xs.take (k+1)).map (bX d)):=C (by rw[eD,hy,fV,K];rfl);have θ:Hid (((xs.take k).map (bX d)).length+1=k+1):=C (by rw[bC,dJ,E.q.len];omega);clear l g hc hy K;go_wp2_with fail;refine α.q.mono ?_;rintro e Q ⟨rfl,R⟩;have β:=C (s.q.bL R);have γ:=C (F.q.below R rfl);have δ:Hid (w.1.size<=(Q.alloc (.cells #[f B p] 3)).1.size):=C (by have:=β.q.size;simp;omega);clear R
   go_wp2_with (at_builtin;refine dx rfl _ _ 26 rfl ti z 8 underlying26 j.q.1 j.q.2.1 j.q.2.2.1 j.q.2.2.2.1 j.q.2.2.2.2 rfl (γ.q.alloc _) (some ⟨Q.1.size,0,none⟩) 1 1 (k+1) [p] rfl (Row.UH Q p) θ.q ah (by unfold maxLen;omega) δ.q ?_;intro m c' w2 S ε ι)
   rw[HE.q] at S;have ζ:=below_app (aB β.q _) (γ.q.alloc _) (aC _) δ.q ε;have HQ:=C (⟨S,ζ⟩:_/\_);clear S ε ι ζ;go_roundw
   case rel=>exact⟨k+1,m,c',by omega,rfl,by go_num,HQ.q.1,HQ.q.2⟩
   case measure=>simp[G];omega
  .obtain rfl:n=k:=by omega
   rw[eF (by rw[E.q.len];exact aC _)] at l;have F:=C l;have s:=C g;clear l g;go_wp2_with fail;go_ret;exact⟨q,r,rfl,F.q,s.q⟩
theorem MV (m:Option Addr)(o q:Nat)(F:Int->List Int)(v:je)(w:World)(z:Row w 1 aQ m o q (F 0)):
  Calls J 91 #[D m o q,.agg #[f B v.t,f B v.k]] w (bT (.agg #[f B (jc F v).t,f B (jc F v).k]) w):=by
 obtain⟨d,a⟩:=v;have r:=C (aB (aB (H w.1.size w) (.cells #[f B d,f B a] 47)) (.cells #[f B 0,f B 0] 47));have S:=C ((Bx.new w #[f B d,f B a] 47).alloc (.cells #[f B 0,f B 0] 47));have Z:=C (Bx.new (w.alloc (.cells #[f B d,f B a] 47)) #[f B 0,f B 0] 47);have E:=C (uE m o q (F 0) d _ (z.below r.q rfl));obtain⟨p,s⟩:∃p,p=bX (F 0) d:=⟨_,rfl⟩;rw[<-s] at E;have HP:=C s;clear z s;by_cases g:0<a
 .have hd:decide (0<a)=true:=bG g
  have j:jc F ⟨d,a⟩=⟨p,a⟩:=by unfold jc;rw[aA g,HP.q]
  rw[j];clear g j;go_enter func91,ntmps91;go_wp2_with fail;refine E.q.mono ?_;rintro e K ⟨rfl,l⟩;have Q:=C (S.q.keep l);have t:=C (Z.q.keep l);have α:=C (r.q.bL l);have ε:=Q.q.1;have ζ:=Q.q.2.1;have β:=t.q.1;have γ:=t.q.2.1;rw[I] at β γ;clear l;go_wp2_with fail;have δ:Bx (K.setCell ⟨w.1.size,0,none⟩ (f B p)) (w.1.size+1) #[f B 0,f B 0]:=((Same.refl' K).setTail (A:=λi=>i≠w.1.size) (λh=>h rfl)).bx (by have:=t.q;rw[I] at this;exact this) ah;have R:=(δ.aX 0 ak (f B p)).aX 1 ak (f B a);have u:=R.1 0;have x:=R.1 1;refine bodyPost_ret (v:= .agg #[f B p,f B a]) (by simp[results,results91,go_sem,u,x]) rfl ⟨rfl,?_⟩;exact((α.q.setCell (p:=⟨w.1.size,0,none⟩) (aC _) _).setCell (p:=⟨w.1.size+1,0,none⟩) ak _).setCell (p:=⟨w.1.size+1,1,none⟩) ak _
 .have hd:decide (0<a)=false:=bn g
  have j:jc F ⟨d,a⟩=⟨d,a⟩:=by unfold jc;rw[ay g]
  rw[j];clear g j;go_enter func91,ntmps91;go_wp2_with fail;have y:=Bx.new (w.alloc (.cells #[f B d,f B a] 47)) #[f B d,f B a] 47;rw[I] at y;have u:=y.1 0;have x:=y.1 1;refine bodyPost_ret (v:= .agg #[f B d,f B a]) (by simp[results,results91,go_sem,u,x]) rfl ⟨rfl,?_⟩;exact aB (aB (H _ _) _) _
end Yd
