import Derived.Test.YtiheclemhihpeaaGreatDoorZCuM
import Derived.Test.YtiheclemhihpeaaGreatDoorZRRx
import Derived.Test.YtiheclemhihpeaaGreatDoorZLs2
set_option linter.all false
set_option maxRecDepth 200000
set_option maxHeartbeats 8000000
namespace Yd
open Bool renaming false->U
open Option renaming none->N
open Go Go.RowKit Go.Proofs Tryz
open Below renaming refl->G
open Go renaming bodyPost_ret->M
open Go.IntKind renaming i64->J
open Go.Obj renaming cells->H
open Go.RowKit renaming Hid->I
open Go.Value renaming int->L,slice->V
open Yd renaming hid->C
open _root_ renaming Int->D,Nat->O
theorem abf{p:Prop}(h:p:=by decide):p:=h
theorem abg{p:Prop}(h:p:=by omega):p:=h
theorem abh{p:Prop}(h:p:=by have:=Θ.q;simpa using this):p:=h
theorem abj{p:Prop}(h:p:=by simp[results,results29,go_sem,μ]):p:=h
theorem abk{p:Prop}(h:p:=by rw[A];omega):p:=h
theorem abl{p:Prop}(h:p:=by rw[HY.q,ET k k1 k3 k9];exact any_ok _ _ _):p:=h
theorem abm{p:Prop}(h:p:=by simp[results,results16,go_sem,z]):p:=h
theorem abn{p:Prop}(h:p:=by simp[results,results7,go_sem]):p:=h
theorem abo{p:Prop}(h:p:=by have:=E.q;have:=R.q;have:=k.q;have:=t.q;omega):p:=h
theorem abp{p:Prop}(h:p:=by have:=E.q;have:=R.q;have:=k.q;have:=t.q;unfold maxLen;omega):p:=h
theorem Sr (k:O)(c:k<10):∃a b:O,eU k=(a:D)/\eU k+mY (iK k)=((a+b:O):D)/\a<=2/\(eU k).toNat=a/\b=(if k=4 then 40 else if k=7 then 300 else if k=8 then 300 else 0):=by
 have:k=0\/k=1\/k=2\/k=3\/k=4\/k=5\/k=6\/k=7\/k=8\/k=9:=by omega
 rcases this with rfl|rfl|rfl|rfl|rfl|rfl|rfl|rfl|rfl|rfl
 .exact⟨0,0,abf,abf,abf,abf,abf⟩
 .exact⟨2,0,abf,abf,abf,abf,abf⟩
 .exact⟨2,0,abf,abf,abf,abf,abf⟩
 .exact⟨2,0,abf,abf,abf,abf,abf⟩
 .exact⟨2,40,abf,abf,abf,abf,abf⟩
 .exact⟨1,0,abf,abf,abf,abf,abf⟩
 .exact⟨1,0,abf,abf,abf,abf,abf⟩
 .exact⟨1,300,abf,abf,abf,abf,abf⟩
 .exact⟨2,300,abf,abf,abf,abf,abf⟩
 .exact⟨1,0,abf,abf,abf,abf,abf⟩
theorem any_ok {α:Type}(a:α)(l:Bs)(b:D):fM b l (.ok (a,l))=lC a l b:=rfl
theorem KA:Tryz.prog.elem 22=9:=au
theorem ES:Tryz.prog.underlying 22=some (.slice (Tryz.prog.elem 22)):=by rw[KA];exact underlying22
theorem Sv (W:World):(Go.sizeOf (Tryz.prog.elem 22)).run Tryz.prog W=Result.ok 1 W:=by
 rw[KA]
 kernel_rfl
variable{w:World}
theorem Row.PD {a:Option Addr}{n c:O}{xs:List Bs}(h:Row w 1 encStr a n c xs)(k:O)(t:k<=n):∃g:Option Addr,(∀W:World,(Instr.slice 22 (V a n c) (some (L J (k:D))) N N).run Tryz.prog W= .ok (V g (n - k) (c - k)) W)/\Row w 1 encStr g (n - k) (c - k) (xs.drop k):=by
 refine⟨if c=k then a else a.map (·.add (k*1)),λW=>?_,?_⟩
 .rw[run_slice_l (P:=Tryz.prog) W 22 a n c ES J (k:D) ah ah,Sv]
  simp[Result.andThen,sliced]
 .obtain⟨l,u,y,m,p⟩:=h
  refine⟨by rw[dY,l],abg,abg,λe=>?_,λi x d=>?_⟩
  .by_cases q:c=k
   .omega
   .rw[ay q] at e
    cases a with
    |none=>rw[m rfl];omega
    |some z=>cases e
  .rw[rZ] at d
   obtain⟨b,o,ha,r⟩:=p _ x d;have A:=(bq.1 d).1;rw[ay ah,ha];refine⟨b,o+k,?_,λj v s=>?_⟩
   .show some (Addr.add ⟨b,o,N⟩ (k*1))=_
    unfold Addr.add;rw[gP];by_cases f:k=0
    .rw[aA f,f];rfl
    .rw[ay f]
   .rw[show o+k+i*1+j=o+(k+i)*1+j by omega];exact r j v s
variable{l:Bs}
theorem Qo {a:List Bs}{r:Bs}{i:O}(h:oZ a l= .ok (i,r))(d:∀x∈a,x≠[]):r.length<l.length:=by
 unfold oZ at h
 cases b:a.findIdx? (λs=>s==l.take (kQ l)) with
 |none=>rw[b] at h;cases h
 |some j=>
  rw[b] at h;injection h with h;injection h with _ h;obtain⟨e,f,_⟩:=BO.1 b;have g:a[j]=l.take (kQ l):=by simpa using f
  have c:=d _ (List.getElem_mem e);rw[g] at c;have:0<(l.take (kQ l)).length:=List.length_pos_iff.2 c;rw[dJ] at this;rw[<-h,dY];omega
theorem KC (k:O):∀x∈iB.drop k,x≠[]:=λx a=>(by decide:∀x∈iB,x≠[]) x (BP a)
theorem Di (m:O)(h:m<5):(0:D)<=2 ^ m/\(2:D) ^ m<=16:=by
 rcases(by omega:m=0\/m=1\/m=2\/m=3\/m=4) with rfl|rfl|rfl|rfl|rfl <;> decide
theorem Nb (m:O)(h:m<5):wrap64 ((2:D) ^ min m 64)=2 ^ m:=by
 have b:=Di m h;rw[show min m 64=m by omega];obtain⟨y,a⟩:∃y:D,y=2 ^ m:=⟨_,rfl⟩;rw[<-a] at b ⊢;clear a;unfold wrap64;omega
theorem KD (m:O)(h:m<5):IntKind.i64.wrap ((2:D) ^ min m 64)=2 ^ m:=by
 have b:=Di m h;rw[show min m 64=m by omega];obtain⟨y,a⟩:∃y:D,y=2 ^ m:=⟨_,rfl⟩;rw[<-a] at b ⊢;clear a;exact Go.IntWalk.i64_in _ ah
variable{n:aK}{s:Bs}{e:D}
theorem KE {f m:O}{a:D}{X:Except Er (aK × Bs)}(i:e=0->∃g,f=g+1)(h:fM e l (dB l)=lC U s a)(b:X=fM e l (tQ f m n l)):X=lC n s a:=by
 by_cases c:e=0
 .obtain⟨g,rfl⟩:=i c
  rw[tQ] at b;rw[gu b h,aA rfl];rfl
 .rw[b,nD _ c]
  rw[nD _ c] at h;by_cases d:a=0
  .subst d;rw[kr] at h;cases h
  .rw[qh _ _ d] at h ⊢;injection h with h;rw[h]
theorem KF (k b:O)(c:k=4\/k=7\/k=8)(a:b=(if k=4 then 40 else if k=7 then 300 else if k=8 then 300 else 0))(n:aK)(l:Bs):yc k n l=eB (k:D) b (b+2) 0 n l:=by
 unfold yc;rcases c with rfl|rfl|rfl
 .rw[aA rfl] at a ⊢;rw[a];rfl
 .rw[ay aj,aA rfl] at a ⊢;rw[a];rfl
 .rw[ay aj,ay aj,aA rfl] at a ⊢;rw[a];rfl
theorem yg (k:O)(a:k≠4)(b:k≠7)(c:k≠8)(n:aK)(l:Bs):yc k n l= .ok (n,l):=by unfold yc;rw[ay a,ay b,ay c]
theorem ET (k:O)(a:k≠1)(b:k≠3)(c:k≠9)(n:aK)(l:Bs):midD k n l= .ok (n,l):=by unfold midD;rw[ay a,ay b,ay c]
theorem Jb:∀x∈kM,x.length<=100:=by decide
theorem Jc (k:O):∀x∈iB.drop k,x.length<=100:=λx a=>(by decide:∀x∈iB,x.length<=100) x (BP a)
def Qp (B:O)(s:Bs)(w:World)(c:aW)(X:Except Er (aK × Bs))(e:Ending)(w':World):Prop:=
 ∃(a:aW)(b:aK)(g:O)(d:Bs)(f:D),e= .returned (dH a)/\cB w' B s g d f/\dZ w' (B+1) a b/\Mv B c a w w'/\X=lC b d f
variable{B p:O}
theorem Qq {c:aW}(w:World)(h:cB w B s p l e)(hl:dZ w (B+1) c n)(k:O)(hk:k<10)(z9:n.kind=(k:D))(hN:n.names.length<=300)(hV:n.aM.length<=300)(x5:n.bits=0):
  Calls Tryz.prog 29 #[.pointer (some ⟨B,0,N⟩),dH c] w (Qp B s w c (fM e l (yh k n l))):=by
 obtain⟨X,hX⟩:∃X,X=fM e l (yh k n l):=⟨_,rfl⟩;rw[<-hX];obtain⟨t,mo,x6,x7,x8,x9,Ω⟩:=Sr k hk;unfold yh at hX;rw[x9] at hX;obtain⟨X1,v0⟩:∃X1,X1=fM e l (vg t n l):=⟨_,rfl⟩;rw[any_bind,<-v0] at hX;have b0:=C (λW=>PE k hk W);obtain⟨hn,v1⟩:∃hn,hn=t+mo:=⟨_,rfl⟩;have A:c.kind=(k:D):=hl.1.1.trans z9;rw[x7,x6,<-v1,<-A] at b0;clear A;have β:=C v1;obtain⟨i,z,hi⟩:=mQ;have HI:=C hi;obtain⟨i2,z2,b1,b2,b3,b4,b5⟩:=Dj;have q0:=C (⟨b1,b2,b3,b4,b5⟩:_/\_/\_/\_/\_);clear hi b1 b2 b3 b4 b5 x6 x7 x9 v1;have Δ:=aB (aB (G w.1.size w) (H (bJ c) 34)) (H iW 34);have v2:B<w.1.size:=h.lt;have p0:=C (jq.new hl v2);have p1:=C (h.below Δ);have b6:=C Δ;have HX:=C hX;have p2:=C v0;have p4:=C z9;have b7:=C (⟨hN,hV⟩:_/\_);have Θ:=C Ω;have p5:=C hk;have b8:=C v2;have j4:=C x8;have p6:=C x5;clear h hl hX v0 z9 hN hV Δ Ω v2 hk x8 x5;go_enter Tryz.func29,Tryz.ntmps29;go_wp2_with fail;refine(b0.q _).mono ?_;rintro d w1 ⟨rfl,φ⟩;have p7:=C (p1.q.below φ);have p8:=C (p0.q.below φ);have p9:=C (b6.q.bL φ);clear φ;go_wp2_with fail
 go_loopw [16] (λi wr=>∃(W:World)(j q:O)(Q:Bs)(α:D)(b:aW)(o:aK),W=wr/\i= L J j/\j<=t/\cB W B s q Q α/\jq W B w.1.size b o/\Mv B c b w W/\X1=fM α Q (vg (t - j) o Q)/\o.kind=(k:D)/\o.names.length<=300+j/\o.aM.length<=300/\o.bits=0) (λi wr=>t - (RowKit.intOf i).toNat)
 case atStart=>exact⟨_,0,p,l,e,c,n,rfl,rfl,aS _,p7.q,p8.q,Mv.of_below p9.q,p2.q,p4.q,b7.q.1,b7.q.2,p6.q⟩
 case round=>
  obtain⟨W,j,q,Q,α,b,o,rfl,rfl,hj,hc,b9,f0,hx,f1,h1,h2,Δ⟩:=hrel;have HC:=C hc;have E:=C b9;have HM:=C f0;have v3:=C f1;have ν:=C (⟨h1,h2⟩:_/\_);have v4:=C Δ;have HJ:=C hj;clear hc b9 f0 f1 h1 h2 Δ;by_cases q1:j<t
  .have f2:decide ((j:D)<(t:D))=true:=by simp;exact q1
   have f3:decide (j<t)=true:=by simp;exact q1
   obtain⟨m',f4⟩:∃m',t - j=m'+1:=⟨t - j - 1,abg⟩;have v5:=hx;rw[f4,vg] at v5;have r0:=C v5;have v6:=C q1;have r1:=C (show m'=t - (j+1) by omega);clear hx v5 q1 f4 hj;go_wp2_with fail;refine(oM _ HC.q).mono ?_;rintro d w2 ⟨u,q2,l2,ξ,rfl,γ,δ,ε⟩;have ο:=C γ;have ζ:=C (E.q.cs δ);have χ:=C (HM.q.cs δ);have j5:=C (oN ε);have j6:=C (gu r0.q ε);clear γ δ ε;have j7:=ζ.q.n.1.2.2.2.2.1;have r2:I (o.names.length+1=b.nn+1):=C ah;have r3:I ((b.nn+1)*16<=140737488355328):=C (by have:=ν.q;have:=HJ.q;have:=j4.q;omega);have r4:I (b.nn+1<=maxLen):=C (by have:=ν.q;have:=HJ.q;have:=j4.q;unfold maxLen;omega);clear j7;have T:w2.cell? ⟨w.1.size,1,N⟩=some (V b.na b.nn b.nc):=ζ.q.x.1 1;go_wp2_with fail;refine aD 7 [(0,1),(1,0),(2,1),(3,2),(4,2),(5,2),(6,1),(7,2)] (λ_=>True) (λW'=>W'.cell? ⟨w.1.size,1,N⟩=some (V b.na b.nn b.nc)) au au (trivial) (T) ?_;refine qC ?_;refine aG rfl rfl (λK r=>?_);go_simp;refine(tT _ ο.q.drew j5.q).mono ?_;rintro d w6 ⟨m,q6,l6,r5,rfl,f5,v7,f6⟩;have q4:=C f5;have π:=C ((ζ.q.below (G _ _).drew).cs v7);have v8:=C ((χ.q.trans (Mv.of_below (G _ _).drew)).cs v7);have r6:=C (gu j6.q f6);refine r _ _ ⟨trivial,π.q.x.1 1⟩ ?_;have r7:I (B+1<=(w6.alloc (H #[.string ⟨m.toArray⟩] 9)).1.size):=C (by have:=q4.q.lt;simp;omega);clear r K f5 v7 f6 T;refine aG rfl rfl (λK r=>?_);go_simp;refine r _ _ ⟨trivial,(π.q.below (aB (G _ _) _)).x.1 1⟩ ?_;clear r K;refine aG rfl rfl (λK r=>?_);refine gK _ _ 22 rfl i z 16 underlying22 HI.q.1 HI.q.2.1 HI.q.2.2.1 HI.q.2.2.2.1 HI.q.2.2.2.2 rfl (π.q.n.2.1.alloc _) (some ⟨w6.1.size,0,N⟩) 1 1 (b.nn+1) [m] rfl (Row.str1 w6 m) r2.q r3.q r4.q r7.q ?_;intro a' c' w7 ρ hg q7;have j8:=(π.q.x.keep (aB (G _ _) (H #[.string ⟨m.toArray⟩] 9))).grown hg (λd=>(π.q.an _ d).1 rfl);have v9:=C (π.q.addN (aB (G _ _) (H #[.string ⟨m.toArray⟩] 9)) a' c' ρ hg q7);refine r _ _ ⟨trivial,j8.1 1⟩ ?_;have T:=j8.1 1;have hf3:=j8.2.1 1;clear r K ρ hg q7 j8;refine qC ?_;refine bA rfl rfl rfl (λK r=>?_);go_simp;refine r _ _ trivial ?_;clear r K;refine aH ?_;have r8:=C (v9.q.2.2 _ _ _ _ q4.q);go_wp2_with fail;have f7:wrap64 ((j:D)+1)=((j+1:O):D):=by have:=v6.q;have:=j4.q;unfold wrap64;omega
   go_roundw
   case rel=>exact⟨_,j+1,q6,l6,r5,_,_,rfl,(by first|rfl|rw[f7]|go_num),v6.q,r8.q,v9.q.1,v9.q.2.1 _ _ v8.q (aC _),(by have:=r6.q;rw[r1.q] at this;exact this),v3.q,(by have:=ν.q.1;simp;omega),ν.q.2,v4.q⟩
   case measure=>have:=v6.q;(try rw[f7]);simp[RowKit.intOf] <;> omega
  .have f2:decide ((j:D)<(t:D))=U:=by simp;omega
   have f3:decide (j<t)=U:=by simp;omega
   have q8:X1=lC o Q α:=by rw[hx,show t - j=0 by omega];rfl
   obtain⟨Y1,k0⟩:∃Y1,Y1=fM α Q (midD k o Q):=⟨_,rfl⟩;have q9:I (X=dh Y1 λn2 r'=>yc k n2 r'):=C (by rw[HX.q,q8,oO,any_bind,<-k0]);have HY:=C k0;clear k0;have A:b.kind=(k:D):=E.q.n.1.1.trans v3.q;have Xb:=C A;have σ:=E.q.x.1;have τ:=E.q.x.2.1;have f8:=p5.q;have Zh:=C f8;clear hx q8 q1 hj f8;by_cases k1:k=1
   .skip
    subst k1;have R:I (mo=0):=C abh;have k2:b.kind=1:=A;clear A;have j9:decide ((t:D)<(hn:D))=U:=by have:=β.q;have:=R.q;simp;omega
    have z0:decide (t<hn)=U:=by have:=β.q;have:=R.q;simp;omega
    go_wp2_with fail;refine(oM _ HC.q).mono ?_;rintro d w2 ⟨u,q2,l2,ξ,rfl,γ,δ,ε⟩;have ο:=C γ;have ζ:=C (E.q.cs δ);have χ:=C (HM.q.cs δ);have j5:=C (oN ε);have hy:=HY.q;unfold midD at hy;rw[aA rfl] at hy;have k4:=C (gu hy ε);clear hy γ δ ε σ τ k2;go_wp2_with fail;have k5:=C (aB (G w2.1.size w2) (H #[.string ⟨#[49]⟩,.string ⟨#[50]⟩,.string ⟨#[50,46,57,57]⟩,.string ⟨#[51]⟩] 9));refine(yj _ (ο.q.below k5.q) (some ⟨w2.1.size,0,N⟩) 4 4 kM ((Own.Sw rfl kM aj).row aj) aj Jb).mono ?_;rintro d w3 ⟨a,q3,l3,θ,rfl,T,ψ,η,r9,hab⟩;have ι:I (Y1=lC {o with lvl:=1+(a:D)} l3 θ):=C (by have:=gu k4.q η;exact this);have Z:=C ((ζ.q.below k5.q).cs ψ);have Ξ:=C ((χ.q.trans (Mv.of_below k5.q)).cs ψ);have Φ:=C T;have κ:I (X=lC {o with lvl:=1+(a:D)} l3 θ):=C (by rw[q9.q,ι.q,oO,yg 1 ah ah ah];exact any_ok _ _ _);clear T ψ η r9;have hw1:wrap64 (1+(a:D))=1+(a:D):=by unfold wrap64;omega
    have σ:=Z.q.x.1;have τ:=Z.q.x.2.1;have μ:=Z.q.z.1;have z1:=Z.q.z.2.1;have j0:=C (Z.q.Sy (1+(a:D)));have j1:=C (Φ.q.qG w.1.size 2 (L J (1+(a:D))) (by have:=Z.q.lt;omega));have ω:=C ((Ξ.q.set (aC _) 2 (L J (1+(a:D)))).as (c':={b with lvl:=1+(a:D)}) rfl rfl);go_wp2_with fail;refine M (v:=dH {b with lvl:=1+(a:D)}) abj rfl ?_;have F:=j0.q.fin j1.q ω.q (aC _);exact⟨{b with lvl:=1+(a:D)},{o with lvl:=1+(a:D)},q3,l3,θ,rfl,F.1,F.2.1,F.2.2,κ.q⟩
   by_cases k3:k=3
   .skip
    subst k3;have R:I (mo=0):=C abh;have k2:b.kind=3:=A;clear A;have j9:decide ((t:D)<(hn:D))=U:=by have:=β.q;have:=R.q;simp;omega
    have z0:decide (t<hn)=U:=by have:=β.q;have:=R.q;simp;omega
    go_wp2_with fail;refine(oM _ HC.q).mono ?_;rintro d w2 ⟨u,q2,l2,ξ,rfl,γ,δ,ε⟩;have ο:=C γ;have ζ:=C (E.q.cs δ);have χ:=C (HM.q.cs δ);have j5:=C (oN ε);have hy:=HY.q;unfold midD at hy;rw[ay (show ¬((3:O)=1) by decide),aA rfl] at hy;have k4:=C (gu hy ε);clear hy γ δ ε σ τ k2;have j7:=ζ.q.n.1.2.2.2.2.2;have k6:I (o.aM.length+1=b.vn+1):=C (by have:b.vn=o.aM.length:=j7;omega);have u0:I ((b.vn+1)*24<=140737488355328):=C (by have:=k6.q;have:=ν.q;omega);have u1:I (b.vn+1<=maxLen):=C (by have:=k6.q;have:=ν.q;unfold maxLen;omega);have T:=ζ.q.x.1 3;clear j7;go_wp2_with fail;refine aD 7 [(0,1),(1,0),(2,1),(3,2),(4,2),(5,2),(6,1),(7,2)] (λ_=>True) (λW'=>W'.cell? ⟨w.1.size,3,N⟩=some (V b.va b.vn b.vc)) au au (trivial) (T) ?_;refine qC ?_;refine aG rfl rfl (λK r=>?_);go_simp;refine(tV _ ο.q.drew j5.q).mono ?_;rintro d f9 ⟨⟨vn,vk⟩,u2,k7,k8,rfl,g0,y0,g1⟩;have g2:=C g0;have υ:=C ((ζ.q.below (G _ _).drew).cs y0);have u3:=C ((χ.q.trans (Mv.of_below (G _ _).drew)).cs y0);have u4:=C (gu k4.q g1);refine r _ _ ⟨trivial,υ.q.x.1 3⟩ ?_;have u5:I (B+1<=(f9.alloc (H #[.string ⟨vn.toArray⟩,L J vk] 61)).1.size):=C (by have:=g2.q.lt;simp;omega);clear r K g0 y0 g1 T;refine aG rfl rfl (λK r=>?_);go_simp;refine r _ _ ⟨trivial,(υ.q.below (aB (G _ _) _)).x.1 3⟩ ?_;clear r K;refine aG rfl rfl (λK r=>?_);refine gK _ _ 32 rfl i2 z2 24 underlying32 q0.q.1 q0.q.2.1 q0.q.2.2.1 q0.q.2.2.2.1 q0.q.2.2.2.2 rfl (υ.q.n.2.2.alloc _) (some ⟨f9.1.size,0,N⟩) 1 1 (b.vn+1) [⟨vn,vk⟩] rfl (Row.toN rfl ⟨vn,vk⟩) k6.q u0.q u1.q u5.q ?_;intro a2 y1 Zi ρ hg q7;have z3:=(υ.q.x.keep (aB (G _ _) (H #[.string ⟨vn.toArray⟩,L J vk] 61))).grown hg (λd=>(υ.q.av _ d).1 rfl);have y2:=C (υ.q.jr (v:=⟨vn,vk⟩) (aB (G _ _) (H #[.string ⟨vn.toArray⟩,L J vk] 61)) a2 y1 ρ hg q7);have y3:=(υ.q.z.keep (aB (G _ _) (H #[.string ⟨vn.toArray⟩,L J vk] 61))).grown hg (λd=>(υ.q.av _ d).2 rfl);refine r _ _ ⟨trivial,z3.1 3⟩ ?_;have σ:=z3.1;have τ:=z3.2.1;have μ:=y3.1;have z1:=y3.2.1;clear r K ρ hg q7 z3 y3;refine qC ?_;refine bA rfl rfl rfl (λK r=>?_);go_simp;refine r _ _ trivial ?_;clear r K;refine aH ?_;have ι:I (Y1=lC (jr o ⟨vn,vk⟩) k7 k8):=C u4.q;have κ:I (X=lC (jr o ⟨vn,vk⟩) k7 k8):=C (by rw[q9.q,ι.q,oO,yg 3 ah ah ah];exact any_ok _ _ _);have j1:=C (y2.q.2.2 _ _ _ _ g2.q);have ω:=C (y2.q.2.1 _ _ u3.q (aC _));have j0:=C y2.q.1;go_wp2_with fail;refine M (v:=dH (yu b a2 (b.vn+1) y1)) abj rfl ?_;have F:=j0.q.fin j1.q ω.q (aC _);exact⟨(yu b a2 (b.vn+1) y1),(jr o ⟨vn,vk⟩),u2,k7,k8,rfl,F.1,F.2.1,F.2.2,κ.q⟩
   by_cases k9:k=9
   .skip
    subst k9;have R:I (mo=0):=C abh;have u6:I (Y1=fM α Q (tQ 5 0 o Q)):=C (by have:=HY.q;unfold midD at this;rw[ay (show ¬((9:O)=1) by decide),ay (show ¬((9:O)=3) by decide),aA rfl] at this;exact this);have e1:(b.kind==1)=U:=by rw[A];rfl
    have e3:(b.kind==3)=U:=by rw[A];rfl
    have e9:(b.kind==9)=true:=by rw[A];rfl
    clear A;go_wp2_with fail
    go_loopw [7] (λi wr=>∃(W2:World)(f m q2:O)(l2:Bs)(ξ:D)(c2:aW)(n2:aK),W2=wr/\i= L J m/\cB W2 B s q2 l2 ξ/\jq W2 B w.1.size c2 n2/\Mv B c c2 w W2/\Y1=fM ξ l2 (tQ f m n2 l2)/\(ξ=0->m<=4/\5<=f+m)/\m<=5/\0<=n2.bits/\n2.bits<=16*m) (λi wr=>EU s.length B wr)
    case atStart=>exact⟨_,5,0,q,Q,α,b,o,rfl,rfl,HC.q,E.q,HM.q,u6.q,λ_=>⟨abg,abg⟩,abg,by rw[v4.q];exact Int.le_refl _,by rw[v4.q];exact Int.le_refl _⟩
    case round=>
     obtain⟨W2,f,m,q2,l2,ξ,c2,n2,rfl,rfl,γ,g3,g4,g5,y4,Γ,φ,g6⟩:=hrel;have ο:=C γ;have ζ:=C g3;have χ:=C g4;have j6:=C g5;have u7:=C y4;have g7:=C (⟨Γ,φ,g6⟩:_/\_/\_);have y5:I (ξ=0->∃g,f=g+1):=C (λd=>⟨f - 1,by have:=y4 d;omega⟩);clear γ g3 g4 g5 y4 Γ φ g6 σ τ;go_wp2_with fail;refine(wY _ ο.q).mono ?_;rintro d w3 ⟨a,q3,l3,θ,rfl,T,ψ,η,g8⟩;have Φ:=C T;have Z:=C (ζ.q.cs ψ);have Ξ:=C (χ.q.cs ψ);have y6:=C η;have g9:=C g8;clear T ψ η g8
     cases a
     .skip
      have ι:=C (KE y5.q y6.q j6.q);have κ:I (X=lC n2 l3 θ):=C (by rw[q9.q,ι.q,oO,yg 9 ah ah ah];exact any_ok _ _ _);have j9:decide ((t:D)<(hn:D))=U:=by have:=β.q;have:=R.q;simp;omega
      have z0:decide (t<hn)=U:=by have:=β.q;have:=R.q;simp;omega
      have σ:=Z.q.x.1;have τ:=Z.q.x.2.1;have μ:=Z.q.z.1;have z1:=Z.q.z.2.1;go_wp2_with fail;refine M (v:=dH c2) abj rfl ?_;have F:=Z.q.fin Φ.q Ξ.q (aC _);exact⟨c2,n2,q3,l3,θ,rfl,F.1,F.2.1,F.2.2,κ.q⟩
     .skip
      have h0:θ=0:=by apply Classical.byContradiction;intro d;have:=g9.q d;cases this
      subst h0;obtain⟨u8,Ω⟩:=pF y6.q rfl;subst u8;obtain⟨g,hg⟩:=y5.q rfl;subst hg;have hx:=j6.q;rw[tQ] at hx;have Ψ:=gu hx y6.q;rw[ay (show ¬(true=U) by simp)] at Ψ;have u9:=C Ψ;have w0:=C (DT Ω);have ω:I (m<=4/\5<=g+1+m):=C (u7.q rfl);clear hx Ψ Ω y5 g9;go_wp2_with fail;refine(Nc _).mono ?_;rintro d w4 ⟨ga,gc,rfl,ρ,j2⟩;obtain⟨a',m0,m1⟩:=(ρ.row aj).PD m (by have:=ω.q.1;exact this);have w8:∀W,(Instr.sliceAt 22 (V ga 4 gc) (some (L J (m:D))) N N).run Tryz.prog W= .ok (V a' (4 - m) (gc - m)) W:=λW=>(run_sliceAt_slice (P:=Tryz.prog) W 22 _ _ _ _ ES).trans (m0 W)
      have w9:=C m1;have Zj:=C j2;have j1:=C (Φ.q.below j2);have j0:=C (Z.q.below j2);have Xr:=C (Ξ.q.trans (Mv.of_below j2));clear ρ j2 m1 m0;go_wp2_with fail;refine(yj _ j1.q a' (4 - m) (gc - m) (iB.drop m) w9.q ah (Jc m)).mono ?_;rintro d w5 ⟨ix,q5,l5,j3,rfl,z4,y7,Γ,m2,hib⟩;obtain⟨x,hx⟩:∃x,x=m+ix:=⟨_,rfl⟩;have z5:x<5:=by
       by_cases he:j3=0
       .have:=EW (pF Γ he).2;rw[dY] at this;have h4:iB.length=4:=rfl;omega
       .have:=m2 he;have:=ω.q.1;omega
      have Yc:=C (gu u9.q Γ);have m3:I (j3=0->x<4/\l5.length<l3.length):=C (λd=>by have h2:=(pF Γ d).2;have h1:=EW h2;rw[dY] at h1;have h4:iB.length=4:=rfl;exact⟨by omega,Qo h2 (KC m)⟩);obtain⟨x1,q8⟩:∃x1,x1=x+1:=⟨_,rfl⟩;have Ye:I (x1=m+ix+1):=C ah;have HR1:I (j3=0->x1<=4/\5<=g+x1):=C (λd=>by have:=(m3.q d).1;have:=ω.q.2;omega);have HR2:I (x1<=5):=C ah;have HR3:I (j3=0->l5.length<l2.length):=C (λd=>by have:=(m3.q d).2;have:=w0.q;omega);have Yf:=C z4;have z6:=C (j0.q.cs y7);have Yg:=C (Xr.q.cs y7);obtain⟨y,hy⟩:∃y:D,y=2 ^ x:=⟨_,rfl⟩;have Yh:=Nb x z5;have Xt:=KD x z5;have y8:=Di x z5;rw[<-hy] at Yh Xt y8;have hcx:(m:D)+(ix:D)=(x:D):=by omega
      have hwx:IntKind.i64.wrap (x:D)=(x:D):=Go.IntWalk.i64_in _ ah;have y9:wrap64 (x:D)=(x:D):=by unfold wrap64;omega
      have x0:c2.bits=n2.bits:=z6.q.n.1.2.2.2.1;obtain⟨S,z7⟩:∃S:D,S=c2.bits+y:=⟨_,rfl⟩;have m4:0<=S/\S<=200:=by have:=g7.q;omega
      have hzz:c2.bits+y=S:=z7.symm;have hwz:IntKind.i64.wrap S=S:=Go.IntWalk.i64_in _ ah;have YT:wrap64 S=S:=by unfold wrap64;omega
      have x2:(x:D)+1=(x1:D):=by omega
      have z8:wrap64 (x1:D)=(x1:D):=by unfold wrap64;omega
      have Yi:I (S=n2.bits+2 ^ (m+ix)):=C (by rw[z7,x0,hy,hx]);have m5:m+1<=x1:=by rw[q8,hx];exact Nat.succ_le_succ (Nat.le_add_right m ix)
      have m6:(m:D)+1<=(x1:D):=by have h:=Int.ofNat_le.2 m5;rw[lV] at h;exact h
      have m7:I (0<=S/\S<=16*x1):=C ⟨m4.1,by have h1:=g7.q.2.2;have h2:=y8.2;rw[z7,x0];exact Int.le_trans (Int.add_le_add h1 h2) (by have h3:16*((m:D)+1)<=16*(x1:D):=Int.mul_le_mul_of_nonneg_left m6 aj;rw[Int.mul_add] at h3;exact h3)⟩;clear z4 y7 Γ m2 hy hx q8 z7 x0 m4 y8 z5 m6 m5;have z4:w5.cell? ⟨w.1.size,5,N⟩=some (L J c2.bits):=z6.q.x.1 5;have Zk:=z6.q.x.2.1 5;have HW1:=C (⟨x2,z8,y9⟩:_/\_/\_);clear x2 z8 y9 hib f2 f3 e1 e3 e9 w8;go_wp2_with fail;refine aD 8 [(0,1),(1,0),(2,1),(3,1),(4,1),(5,1),(6,1),(7,1),(8,2)] (λ_=>True) (λW'=>W'.cell? ⟨w.1.size,5,N⟩=some (L J c2.bits)) au au (trivial) (z4) ?_;refine qC ?_;refine bA rfl rfl rfl (λK r=>?_);go_simp;refine r _ _ trivial ?_;clear r K;refine aH ?_;have q4:=C ((Yf.q.qG w.1.size 5 (L J S) (by have:=b8.q;omega)).drew);have π:=C ((z6.q.setBits S).below (G _ _).drew);have v8:=C (((Yg.q.set (aC _) 5 (L J S)).as (c':={c2 with bits:=S}) rfl rfl).trans (Mv.of_below (G _ _).drew));obtain⟨x2,z8,y9⟩:=HW1.q;go_wp2_with fail;go_roundw
      case rel=>exact⟨_,g,x1,q5,l5,j3,_,_,rfl,(by rw[z8]),q4.q,π.q,v8.q,(by have:=Yc.q;rw[<-Ye.q,<-Yi.q] at this;exact this),HR1.q,HR2.q,m7.q.1,m7.q.2⟩
      case measure=>exact rF ο.q q4.q HR3.q
   by_cases kN:k=4\/k=7\/k=8
   .skip
    have e1:(b.kind==1)=U:=aN.2 abk;have e3:(b.kind==3)=U:=aN.2 abk;have e9:(b.kind==9)=U:=aN.2 abk;clear A;have R:I (40<=mo/\mo<=300):=C (by have:=Θ.q;rcases kN with rfl|rfl|rfl <;> simp at this <;> omega);have j9:decide ((t:D)<(hn:D))=true:=by have:=β.q;have:=R.q;simp;omega
    have z0:decide (t<hn)=true:=by have:=β.q;have:=R.q;simp;omega
    have hsub:(hn:D) - (t:D)=(mo:D):=by have:=β.q;omega
    have Zl:wrap64 (mo:D)=(mo:D):=by have:=R.q;unfold wrap64;omega
    have ι:I (Y1=lC o Q α):=C abl;have Yj:I (X=fM α Q (eB o.kind mo (mo+2) 0 o Q)):=C (by rw[q9.q,ι.q,oO,KF k mo kN Θ.q,v3.q]);have Sz:=C (λW' (hb:W'=W)=>Nf W' (hb▸HC.q) (hb▸E.q.n) mo R.q.2 (by have:=ν.q;have:=j4.q;have:=HJ.q;omega) (by have:=ν.q;omega));clear k1 k3 k9 kN;go_wp2_with fail;refine(Sz.q _ rfl).mono ?_;rintro d w3 ⟨c3,n3,p3,l3,θ,rfl,T,m8,η,Ψ⟩;have Z:=C (E.q.put m8 η);have hA:iX B b w.1.size:=⟨by have:=E.q.lt;omega,λd=>(E.q.an _ d).1 rfl,λd=>(E.q.av _ d).1 rfl⟩;have m9:iX B b (w.1.size+1):=⟨by have:=E.q.lt;omega,λd=>(E.q.an _ d).2 rfl,λd=>(E.q.av _ d).2 rfl⟩;have x3:=η.bx E.q.x hA;have x4:=η.bx E.q.z m9;have Ξ:=C ((HM.q.trans η).jP (g:=w.1.size) (c':=c3) (aC _));have Φ:=C (T.jP (g:=w.1.size) (by have:=b8.q;omega) c3);have κ:I (X=lC n3 l3 θ):=C (by rw[Yj.q,Ψ]);clear σ τ hA m9;have σ:=x3.1;have τ:=x3.2.1;have μ:=x4.1;have z1:=x4.2.1;clear T m8 η Ψ x3 x4;go_wp2_with fail;refine M (v:=dH c3) abj rfl ?_;have F:=Z.q.fin Φ.q Ξ.q (aC _);exact⟨c3,n3,p3,l3,θ,rfl,F.1,F.2.1,F.2.2,κ.q⟩
   .skip
    have R:I (mo=0):=C (by have:=Θ.q;rw[ay ah,ay ah,ay ah] at this;exact this);have e1:(b.kind==1)=U:=aN.2 abk;have e3:(b.kind==3)=U:=aN.2 abk;have e9:(b.kind==9)=U:=aN.2 abk;clear A;have j9:decide ((t:D)<(hn:D))=U:=by have:=β.q;have:=R.q;simp;omega
    have z0:decide (t<hn)=U:=by have:=β.q;have:=R.q;simp;omega
    have ι:I (Y1=lC o Q α):=C abl;have κ:I (X=lC o Q α):=C (by rw[q9.q,ι.q,oO,yg k ah ah ah];exact any_ok _ _ _);have μ:=E.q.z.1;have z1:=E.q.z.2.1;clear k1 k3 k9 kN;go_wp2_with fail;refine M (v:=dH b) abj rfl ?_;have F:=E.q.fin HC.q HM.q (aC _);exact⟨b,o,q,Q,α,rfl,F.1,F.2.1,F.2.2,κ.q⟩
theorem Jd:(([[],[98,101,103,105,110],[119,114,105,116,101],[114,101,97,100],[115,99,97,110],[99,111,109,109,105,116],[97,98,111,114,116],[111,114,100,101,114],[109,97,116,99,104],[119,97,110,116]]:List Bs)).drop 1=jK:=rfl
theorem KG:∀x∈jK,x.length<=100:=by decide
theorem mk_inj {α:Type}{a:α}{n:D}{x:Except Er (α × Bs)}(h:x=lC a l n)(b:n≠0):x= .error (l,n):=by rw[h,qh _ _ b]
@[reducible] def kC (k:D):aW:=⟨k,N,0,0,0,N,0,0,U,0⟩
theorem VB (w:World)(B:O)(k:D):dZ w B (kC k) ⟨k,[],0,[],U,0⟩:=⟨⟨rfl,rfl,rfl,rfl,rfl,rfl⟩,Own.eH _ _ _ _ _,Own.eH _ _ _ _ _⟩
theorem EX (B i:O)(k:D)(h:i≠B):iX B (kC k) i:=⟨h,(λe=>by cases e),(λe=>by cases e)⟩
theorem dZ.cs {w':World}{c:aW}(h:dZ w (B+1) c n)(b:Cs B w w'):dZ w' (B+1) c n:=
 ⟨h.1,h.2.1.block λg a=>b.block g (by have:=(h.2.1.lt g a).1;omega) (h.2.1.lt g a).2,h.2.2.block λg a=>b.block g (by have:=(h.2.2.lt g a).1;omega) (h.2.2.lt g a).2⟩
theorem SA {q:O}{n:D}(a:p<=s.length)(hc:cB w B s q l n)(h:jv (s.drop p)= .error (l,n)):bN s (p:D)=(o8,((q:O):D),n):=by
 have b:=hc.len;unfold bN sj;rw[ay ah,gF,h];show(o8,((s.length - l.length:O):D),n)=_;rw[show s.length - l.length=q by omega]
theorem SB {q:O}{c:D}(j:p<=s.length)(hc:cB w B s q l 0)(h:jv (s.drop p)= .ok (n,l))(d:Bl s l e c):
  (c=0/\bN s (p:D)=(n,e,0))\/(c≠0/\bN s (p:D)=(o8,e,220)):=by
 have k:=hc.len;have m:(dI l).length<=l.length:=by unfold dI;split <;> simp
 unfold bN sj;rw[ay ah,gF,h];simp only[];rcases d with⟨b,rfl,rfl⟩|⟨b,rfl,rfl⟩|⟨b,f,rfl,g⟩
 .left
  rw[aA b];exact⟨rfl,by simp⟩
 .left
  rw[ay (by rw[b];simp),aA b];refine⟨rfl,?_⟩;have o:1<=(dI l).length:=by
   cases i:dI l with
   |nil=>rw[i] at b;cases b
   |cons a t=>simp
  simp only[List.length_tail];rw[show s.length - ((dI l).length - 1)=s.length - (dI l).length+1 by omega]
 .right
  rw[ay b,ay f];exact⟨g,rfl⟩
theorem Ng (s:Bs)(p:O)(hp:p<=s.length)(Ω:s.length<=1000000)(w:World):
  Calls Tryz.prog 16 #[.string ⟨s.toArray⟩,L J (p:D)] w (uK (bN s (p:D)) w):=by
 obtain⟨l,hl⟩:∃l,l=s.drop p:=⟨_,rfl⟩;obtain⟨R,hR⟩:∃R,R=bN s (p:D):=⟨_,rfl⟩;obtain⟨T,hT⟩:∃T,T=BQ l:=⟨_,rfl⟩;rw[<-hR];have z2:I (∀(W:World)(B q:O)(f:Bs)(er:D),cB W B s q f er->T= .error (f,er)->R=(o8,(q:D),er)):=C (λW B q f er hc h=>by rw[hR];exact SA hp hc (by rw[<-hl,<-Bn,<-hT];exact h));have z3:I (∀(W:World)(B q:O)(f:Bs)(n:aK)(o A:D),cB W B s q f 0->T= .ok (n,f)->Bl s f o A->(A=0/\R=(n,o,0))\/(A≠0/\R=(o8,o,220))):=C (λW B q f n o A hc h E=>by rw[hR];exact SB hp hc (by rw[<-hl,<-Bn,<-hT];exact h) E);have z4:I (∀(n:aK)(f:Bs),T= .ok (n,f)->dO f=true):=C (λn f h=>DU (by rw[<-Bn,<-hT];exact h));obtain⟨W1,μ⟩:∃W1:World,W1=w.alloc (H iW 34):=⟨_,rfl⟩;obtain⟨W2,ζ⟩:∃W2:World,W2=W1.alloc (H (rG s p 0) 73):=⟨_,rfl⟩;obtain⟨Q,η⟩:∃Q:World,Q=W2.alloc (H iW 34):=⟨_,rfl⟩;have Γ:W1.1.size=w.1.size+1:=by rw[μ];simp
 have q0:W2.1.size=w.1.size+2:=by rw[ζ];simp[Γ]
 have z5:Bx Q w.1.size iW:=by rw[η,ζ,μ];exact((Bx.new w iW 34).alloc _).alloc _
 have z6:cB Q (w.1.size+1) s p l 0:=by
  rw[η,ζ,<-Γ];exact⟨(Bx.new W1 (rG s p 0) 73).alloc _,hl.symm,hp,Ω⟩
 have z7:Bx Q (w.1.size+1+1) iW:=by rw[η,<-q0];exact Bx.new W2 iW 34
 have z8:Below w.1.size w Q:=by
  rw[η,ζ,μ];exact aB (aB (aB (G w.1.size w) (H iW 34)) (H (rG s p 0) 73)) (H iW 34)
 have q1:=C z8;have z9:=C z5;have v0:=C z6;have v1:=C z7;have Δ:=C hT;have f9:=C Γ;have g0:=C q0;have v2:=C μ;have v3:=C ζ;have v4:=C η;clear hl hR hT z5 z6 z7 z8 Γ q0 μ ζ η;go_enter Tryz.func16,Tryz.ntmps16;go_wp2_with fail;refine(show Calls Tryz.prog 25 #[.pointer (some ⟨w.1.size+1,0,N⟩)] ((w.alloc (H iW 34)).alloc (H (rG s p 0) 73)|>.alloc (H iW 34)) _ from by
  rw[<-v2.q,<-v3.q,<-v4.q];exact DV Q v0.q).mono ?_
 rintro e w4 ⟨rfl,⟨q4,v5⟩,Θ⟩;have v6:=C v5;have v7:I (Below w.1.size w w4):=C (Θ.below q1.q (λi j=>abg) q1.q.size);have x1:I (Bx w4 w.1.size iW):=C (Θ.bx z9.q ah);have x2:I (Bx w4 (w.1.size+1+1) iW):=C (Θ.bx v1.q ah);clear v5 Θ v0 z9 v1 q1 v2 v3 v4;go_wp2_with fail;refine(uW w4 v6.q).mono ?_;rintro e w5 ⟨rfl,ν⟩;have v8:=C (v6.q.below ν);have q2:=C (v7.q.bL ν);have v9:=C (x1.q.keep ν);have k0:=C (x2.q.keep ν);clear ν
 cases hE:dO (bg l)
 .skip
  have x3:I (T=fM 0 (bg l) (dh (oZ jK (bg l)) λi r=>dh (yh (i+1) ⟨((i+1:O):D),[],0,[],U,0⟩ r) λs r2=>dh (dB r2) λb r3=>if b=true then .error (r3,220) else .ok (s,r3))):=C (by rw[lM,Δ.q];unfold BQ;rw[ay (by rw[hE];simp)]);clear hE Δ;go_wp2_with fail;refine(Qr _).mono ?_;rintro e w6 ⟨va,vc,rfl,k1,ξ⟩;obtain⟨a',k2,q3⟩:=(k1.row aj).PD 1 aj;have x4:∀W,(Instr.sliceAt 22 (V va 10 vc) (some (L J 1)) N N).run Tryz.prog W= .ok (V a' 9 (vc - 1)) W:=λW=>(run_sliceAt_slice (P:=Tryz.prog) W 22 _ _ _ _ ES).trans (k2 W)
  rw[Jd] at q3;have x5:=C q3;have x6:=C (v8.q.below ξ);have k3:=C (q2.q.bL ξ);have x7:=C (v9.q.keep ξ);have x8:=C (k0.q.keep ξ);clear k1 ξ q3 k2;go_wp2_with fail;refine(yj _ x6.q a' 9 (vc - 1) jK x5.q aj KG).mono ?_;rintro e w7 ⟨a,q7,l7,x9,rfl,k4,Ξ,q5,k5,b0⟩;have q6:=gu x3.q q5;have b1:a<9:=by
   by_cases E:x9=0
   .exact EW (pF q5 E).2
   .rw[k5 E];decide
  obtain⟨k,hk⟩:∃k,k=a+1:=⟨_,rfl⟩;rw[<-hk] at q6;have b2:=C q6;have HK:=C (show k<10 by omega);have b3:(1:D)+(a:D)=(k:D):=by omega
  have b4:wrap64 (k:D)=(k:D):=by unfold wrap64;omega
  have b5:=C k4;have b6:I (Below w.1.size w w7):=C (Ξ.below k3.q (λi j=>abg) k3.q.size);have b7:=C (Ξ.bx x7.q ah);have q8:=C (Ξ.bx x8.q ah);clear q6 k4 Ξ q5 k5 b0 b1 hk x4;have ο:=q8.q.1;have j0:=q8.q.2.1;have b8:=C (b5.q.qG (w.1.size+1+1) 0 (L J (k:D)) ah);have b9:=C (b7.q.setOther (w.1.size+1+1) 0 (L J (k:D)) ah);have k6:I (Bx _ (w.1.size+1+1) (bJ (kC k))):=C (q8.q.aX 0 ak (L J (k:D)));have k7:=C (b6.q.setCell (p:=⟨w.1.size+1+1,0,N⟩) (by show _<=w.1.size+1+1;omega) (L J (k:D)));go_wp2_with fail;refine(Qq _ b8.q (VB _ _ k) k HK.q rfl ak ak rfl).mono ?_;rintro e w9 ⟨c',n',q9,l9,g1,rfl,k8,k9,θ,y0⟩;have f0:=C (gu b2.q y0);have j1:=C (θ.bx k6.q (EX _ _ _ ah));have f1:=C (θ.bx b9.q (EX _ _ _ ah));have y1:I (Below w.1.size w w9):=C (θ.same.below k7.q (λi j=>EX _ _ _ ah) k7.q.size);have f2:=k6.q.2.2;have y2:∀g,(Value.slice c'.na c'.nn c'.nc).ownBlock=some g->g≠w.1.size+1+1:=λg hg=>by rcases θ.na g hg with e|e;(·cases e);(·omega)
  have y3:∀g,(Value.slice c'.va c'.vn c'.vc).ownBlock=some g->g≠w.1.size+1+1:=λg hg=>by rcases θ.va g hg with e|e;(·cases e);(·omega)
  have f3:=C (k8.jP (g:=(w.1.size+1+1)) ah c');have f4:=C (k9.jP (c':=c') y2 y3);have f5:=C ((rH w9 (w.1.size+1+1) c').bx f1.q ah);have f6:=C (Hf j1.q c');have y4:=C (nX (g:=(w.1.size+1+1)) y1.q ah y1.q.size c');clear k8 k9 θ y0 f2 y2 y3 ο j0 b3 b4;have ο:=j1.q.1;have j0:=j1.q.2.1;go_wp2_with fail;refine(wY _ f3.q).mono ?_;rintro e Φ ⟨a2,S,Ψ,ι,rfl,y5,π,y6,y7⟩;have j2:=C (gu f0.q y6);have j3:=C y5;have f7:=C (f4.q.cs π);have y8:=C (π.bx f5.q ah);have f8:=C (π.bx f6.q ah);have j4:I (Below w.1.size w Φ):=C (π.below y4.q (λi j=>abg) y4.q.size);have y9:=C y7;clear y5 π y6 y7 ο j0
  cases a2
  .skip
   have κ:I (T=lC n' Ψ ι):=C (by have:=j2.q;rw[ay (show ¬(U=true) by simp)] at this;exact this);have c:=j3;have j5:=f7;have F:=y8;have j6:=f8;have t:=j4;by_cases E:ι=0
   .subst E
    clear y9 j2;have ρ:=C (κ.q.trans (kr _ _));have u:=c.q.x.1 1;have Z:=c.q.x.1 2;go_wp2_with fail;refine(BR s S Ψ c.q.d c.q.le Ω (z4.q _ _ ρ.q) _).mono ?_;rintro e σ ⟨α,β,tx,γ,o,A,rfl,τ,υ⟩;have d:=z3.q _ _ _ _ _ _ _ c.q ρ.q υ;have x:I (Below Φ.1.size Φ (σ.alloc (H (aF α β tx γ) 79))):=C (aB τ (H (aF α β tx γ) 79));have y:I (Below w.1.size w (σ.alloc (H (aF α β tx γ) 79))):=C (t.q.trans (x.q.mono t.q.size));have δ:=C (j5.q.below x.q);have φ:=j6.q.keep x.q;have ε:=F.q.keep x.q;have ο:=φ.1;have z:=ε.1;have j7:=ε.2.1;clear φ ε τ υ u Z;rcases d with⟨rfl,d⟩|⟨χ,d⟩
    .skip
     have m:=C d;clear d;go_wp2_with fail;refine M (v:= .tuple #[dH c',L J o,L J 0]) abm rfl ?_;show uK R w _ _;rw[m.q];exact⟨c',rfl,(δ.q.jP (g:=w.1.size) (c':=c') (λi j=>by have:=(δ.q.2.1.lt i j).1;omega) (λi j=>by have:=(δ.q.2.2.lt i j).1;omega)).mono ah,nX y.q (aC _) y.q.size c'⟩
    .skip
     have m:=C d;have j8:(A !=0)=true:=by rw[bne,aN.2 χ];rfl
     clear d χ;go_wp2_with fail;refine M (v:= .tuple #[dH jZ,L J o,L J 220]) abm rfl ?_;show uK R w _ _;rw[m.q];exact⟨jZ,rfl,oQ _ _,nX y.q (aC _) y.q.size jZ⟩
   .have ψ:=C E
    clear E;have m:=C (z2.q _ _ _ _ _ c.q (mk_inj κ.q ψ.q));have j8:((ι:D)!=0)=true:=by rw[bne,aN.2 ψ.q];rfl
    have u:=c.q.x.1 1;have Z:=c.q.x.1 2;have z:=F.q.1;have j7:=F.q.2.1;go_wp2_with fail;have ω:=C ((c.q.jP (g:=w.1.size) ah jZ).drew);have j9:I (Below w.1.size w (jP Φ w.1.size jZ).drew):=C ((nX t.q (aC _) t.q.size jZ).drew);refine aD 99 [(0,0),(1,0),(2,0),(3,0),(4,0),(5,0),(6,0),(7,0),(8,0),(9,2),(10,0),(11,0)] (λ_=>True) (λW'=>W'.cell? ⟨w.1.size+1,1,N⟩=some (L J (S:D))/\W'.cell? ⟨w.1.size+1,2,N⟩=some (L J ι)) au au (trivial) (⟨u,Z⟩) ?_;refine qC ?_;refine aG rfl rfl (λK hK=>?_);go_simp;refine hK _ _ ⟨trivial,ω.q.x.1 1,ω.q.x.1 2⟩ ?_;clear hK K;refine qC ?_;refine aH ?_;go_wp2_with fail;refine M (v:= .tuple #[dH jZ,L J (S:D),L J ι]) abm rfl ?_;show uK R w _ _;rw[m.q];exact⟨jZ,rfl,oQ _ _,j9.q⟩
  .skip
   have h0:ι=0:=by apply Classical.byContradiction;intro e;have:=y9.q e;cases this
   subst h0;have κ:I (T=lC n' Ψ 220):=C (by have:=j2.q;rw[lM,aA rfl] at this;rw[this];rfl);have u:=j3.q.x.1 1;go_wp2_with fail;refine(gq _ j3.q 0 (aS _) S rfl 220).mono ?_;rintro e z0 ⟨rfl,x0,z1⟩;have c:I (cB z0 (w.1.size+1) s S Ψ 220):=C x0;have F:=C (z1.bx y8.q ah);have t:I (Below w.1.size w z0):=C (z1.below j4.q (λi j=>abg) j4.q.size);have ψ:I ((220:D)≠0):=C aj;clear x0 z1 u;have m:=C (z2.q _ _ _ _ _ c.q (mk_inj κ.q ψ.q));have j8:((220:D)!=0)=true:=by rw[bne,aN.2 ψ.q];rfl
   have u:=c.q.x.1 1;have Z:=c.q.x.1 2;have z:=F.q.1;have j7:=F.q.2.1;go_wp2_with fail;have ω:=C ((c.q.jP (g:=w.1.size) ah jZ).drew);have j9:I (Below w.1.size w (jP z0 w.1.size jZ).drew):=C ((nX t.q (aC _) t.q.size jZ).drew);refine aD 99 [(0,0),(1,0),(2,0),(3,0),(4,0),(5,0),(6,0),(7,0),(8,0),(9,2),(10,0),(11,0)] (λ_=>True) (λW'=>W'.cell? ⟨w.1.size+1,1,N⟩=some (L J (S:D))/\W'.cell? ⟨w.1.size+1,2,N⟩=some (L J 220)) au au (trivial) (⟨u,Z⟩) ?_;refine qC ?_;refine aG rfl rfl (λK hK=>?_);go_simp;refine hK _ _ ⟨trivial,ω.q.x.1 1,ω.q.x.1 2⟩ ?_;clear hK K;refine qC ?_;refine aH ?_;go_wp2_with fail;refine M (v:= .tuple #[dH jZ,L J (S:D),L J 220]) abm rfl ?_;show uK R w _ _;rw[m.q];exact⟨jZ,rfl,oQ _ _,j9.q⟩
 .skip
  have κ:I (T=lC o8 (bg l) 0):=C (by rw[Δ.q];unfold BQ;rw[aA hE];rfl);have c:=v8;have j5:=C (oQ w5 (w.1.size+1+1));have F:=v9;have j6:I (Bx w5 (w.1.size+1+1) (bJ jZ)):=C k0.q;have t:=q2;clear hE Δ;have ρ:=C (κ.q.trans (kr _ _));have u:=c.q.x.1 1;have Z:=c.q.x.1 2;go_wp2_with fail;refine(BR s q4 (bg l) c.q.d c.q.le Ω (z4.q _ _ ρ.q) _).mono ?_;rintro e σ ⟨α,β,tx,γ,o,A,rfl,τ,υ⟩;have d:=z3.q _ _ _ _ _ _ _ c.q ρ.q υ;have x:I (Below w5.1.size w5 (σ.alloc (H (aF α β tx γ) 79))):=C (aB τ (H (aF α β tx γ) 79));have y:I (Below w.1.size w (σ.alloc (H (aF α β tx γ) 79))):=C (t.q.trans (x.q.mono t.q.size));have δ:=C (j5.q.below x.q);have φ:=j6.q.keep x.q;have ε:=F.q.keep x.q;have ο:=φ.1;have z:=ε.1;have j7:=ε.2.1;clear φ ε τ υ u Z;rcases d with⟨rfl,d⟩|⟨χ,d⟩
  .skip
   have m:=C d;clear d;go_wp2_with fail;refine M (v:= .tuple #[dH jZ,L J o,L J 0]) abm rfl ?_;show uK R w _ _;rw[m.q];exact⟨jZ,rfl,(δ.q.jP (g:=w.1.size) (c':=jZ) (λi j=>by have:=(δ.q.2.1.lt i j).1;omega) (λi j=>by have:=(δ.q.2.2.lt i j).1;omega)).mono ah,nX y.q (aC _) y.q.size jZ⟩
  .skip
   have m:=C d;have j8:(A !=0)=true:=by rw[bne,aN.2 χ];rfl
   clear d χ;go_wp2_with fail;refine M (v:= .tuple #[dH jZ,L J o,L J 220]) abm rfl ?_;show uK R w _ _;rw[m.q];exact⟨jZ,rfl,oQ _ _,nX y.q (aC _) y.q.size jZ⟩
attribute [local go_sem] Oper.semAt_some
structure wu (w X:World)(vL:Value)(jb:List aW)(ls:List aK)(vP:Value)(ps:List D):Prop where
 b:Below w.1.size w X
 oL:Own X w.1.size 34 6 mZ vL jb
 aL:pW X w.1.size jb ls
 oP:Own X w.1.size 3 1 aQ vP ps
theorem Row.Yk {X:World}{g:O}(h:X.1.size=g)(l:aW):Row (X.alloc (H (bJ l) 34)) 6 mZ (some ⟨g,0,N⟩) 1 1 [l]:=h▸Row.Xc X l
section
variable {w X Y:World}{vL vP v':Value}{jb:List aW}{ls:List aK}{ps:List D}
theorem wu.below (h:wu w X vL jb ls vP ps)(a:Below X.1.size X Y):wu w Y vL jb ls vP ps:=⟨h.b.trans (a.mono h.b.size),h.oL.below a rfl,h.aL.below a,h.oP.below a rfl⟩
theorem wu.EY (h:wu w X vL jb ls vP ps):∀g,vL.ownBlock=some g->∃cs T a,X.1[g]?=some (H cs T a)/\9≠T/\61≠T:=λg b=>(let⟨cs,a,e⟩:=h.oL.tag b;⟨cs,_,a,e,abf,abf⟩)
theorem wu.Nh (h:wu w X vL jb ls vP ps):∀g,vP.ownBlock=some g->∃cs T a,X.1[g]?=some (H cs T a)/\9≠T/\61≠T:=λg b=>(let⟨cs,a,e⟩:=h.oP.tag b;⟨cs,_,a,e,abf,abf⟩)
theorem wu.Je (h:wu w X vL jb ls vP ps){l:aW}{s:aK}(b:dZ X w.1.size l s)(c:Own Y w.1.size 34 6 mZ v' (jb++[l]))(a:X.grownBy Y vL.ownBlock):wu w Y v' (jb++[l]) (ls++[s]) vP ps:=
 ⟨below_app h.b h.oL (aC _) h.b.size a,c,(h.aL.uh a h.EY).snoc (b.uh a h.EY),h.oP.grown a (λg d e=>own_ne h.oP h.oL aj d e)⟩
theorem wu.Jf (h:wu w X vL jb ls vP ps){p:D}(b:Own Y w.1.size 3 1 aQ v' (ps++[p]))(a:X.grownBy Y vP.ownBlock):wu w Y vL jb ls v' (ps++[p]):=
 ⟨below_app h.b h.oP (aC _) h.b.size a,h.oL.grown a (λg c e=>own_ne h.oL h.oP aj c e),h.aL.uh a h.Nh,b⟩
end
theorem DW (s:Bs)(w:World):Calls Tryz.prog 7 #[.string ⟨s.toArray⟩] w (BS s w):=by
 have hz:=dW s;by_cases Q:131072<s.length
 .have υ:(131072:D)<(s.length:D):=by omega
  have HF:I (iP s= .error (0,3)):=C (aA Q);clear Q;go_enter Tryz.func7,Tryz.ntmps7;go_wp2_with fail;refine M (v:= .tuple #[V N 0 0,V N 0 0,L J 0,L J 3]) abn rfl ⟨G _ _,by rw[HF.q]⟩
 have υ:¬(131072:D)<(s.length:D):=by omega
 have HF:I (iP s=jO s (s.length+1) 0):=C (ay Q);have φ:=C (λ(W:World)(p:O)(hp:p<=s.length)=>Ng s p hp ah W);obtain⟨iL,zL,ο⟩:=Hg;obtain⟨iI,zI,π⟩:=qZ;have y:=C ο;have z:=C π;have χ:s.length<=131072:=by omega
 have R:=C χ;clear ο π Q;go_enter Tryz.func7,Tryz.ntmps7;go_wp2_with fail
 go_loopw [6,7,8] (λvL vP i X=>∃(p j n:O)(b:List (aK × D))(a:Option Addr)(c:O)(jb:List aW)(A:Option Addr)(B:O),vL= V a n c/\vP= V A n B/\i= L J (p:D)/\n=b.length/\jb.length=n/\n<=p/\p<=s.length/\s.length<j+p/\
  wu w X (V a n c) jb (b.map Prod.fst) (V A n B) (b.map Prod.snd)/\iP s=(match jO s j p with| .ok r=> .ok (b++r)| .error x=> .error x)) (λ_ _ i _=>s.length - (RowKit.intOf i).toNat)
 case atStart=>exact⟨0,s.length+1,0,[],N,0,[],N,0,rfl,rfl,rfl,rfl,rfl,aC _,aS _,abg,⟨G _ _,Own.eH _ _ _ _ _,⟨rfl,λi l h=>by cases h⟩,Own.eH _ _ _ _ _⟩,by rw[HF.q];cases jO s (s.length+1) 0 <;> rfl⟩
 case round=>
  obtain⟨p,j,n,b,a,c,jb,A,B,rfl,rfl,rfl,hn,β,γ,hp,hf,δ,o⟩:=hrel;have d:=C δ;have HN:=C hn;have ε:=C β;have E:=C γ;have ψ:=C hf;by_cases ζ:p<s.length
  .obtain⟨f,rfl⟩:∃f,j=f+1:=⟨j - 1,abg⟩
   have Θ:(p:D)<(s.length:D):=by omega
   have η:=φ.q wr p hp;have θ:=wZ ζ;have ι:jO s (f+1) p=if(bN s (p:D)).2.2=0 then(match jO s f (bN s (p:D)).2.1.toNat with| .ok r=> .ok (((bN s (p:D)).1,(p:D))::r)| .error x=> .error x) else .error ((bN s (p:D)).2.1,(bN s (p:D)).2.2):=by
    show(if p<s.length then _ else _)=_;exact aA ζ
   obtain⟨rd,ρ⟩:∃rd,rd=bN s (p:D):=⟨_,rfl⟩;rw[<-ρ] at η θ ι;obtain⟨rn,ro,S⟩:=rd;rw[ι] at o;have HR:=C η;have κ:=C θ;have T:=C o;clear η θ ι o ρ δ hf γ β hn;by_cases Z:S=0
   .subst Z
    obtain⟨q,hq,σ,τ⟩:=κ.q rfl;obtain rfl:ro=(q:D):=hq;have k:=C σ;have t:=C τ;have F:I (iP s=match jO s f q with| .ok r=> .ok (b++[(rn,(p:D))]++r)| .error x=> .error x):=C (by
     rw[T.q,aA rfl];show(match(match jO s f ((q:D)).toNat with| .ok r=>Except.ok ((rn,(p:D))::r)| .error x=> .error x) with| .ok r=>Except.ok (b++r)| .error x=> .error x)=_;rw[gF]
     cases jO s f q <;> simp)
    clear σ τ T κ;go_wp2_with fail;refine HR.q.mono ?_;rintro e w1 ⟨m,rfl,g,u⟩;have α:=aB (G w1.1.size w1) (H (bJ m) 34);have Ξ:=C ((d.q.below u).below α);have Φ:=C ((g.mono d.q.b.size).below α);have μ:=aB α (H (bJ m) 34);have ν:=C ((d.q.below u).below μ);have ω:=C ((g.mono d.q.b.size).below μ);clear g u α μ
    go_wp2_with (first|(at_builtin;refine dx rfl _ _ 25 rfl iL zL 80 underlying25 y.q.1 y.q.2.1 y.q.2.2.1 y.q.2.2.2.1 y.q.2.2.2.2 rfl ν.q.oL (some ⟨w1.1.size+1,0,N⟩) 1 1 (n+1) [m] rfl (Row.Yk ak m) (by rw[ε.q]) abo abp ν.q.b.size ?_;intro a5 c5 w5 K P g;have Γ:=C (ν.q.Je ω.q K P);have ξ:=C (Γ.q.below (aB (G _ _) (H #[L J (p:D)] 3)));clear K P g)|(at_builtin;refine dx rfl _ _ 26 rfl iI zI 8 underlying26 z.q.1 z.q.2.1 z.q.2.2.1 z.q.2.2.2.1 z.q.2.2.2.2 rfl ξ.q.oP (some ⟨w5.1.size,0,N⟩) 1 1 (n+1) [(p:D)] rfl (Row.i1 w5 _) (by rw[bC,HN.q]) abo abp ξ.q.b.size ?_;intro a7 c7 w7 K P g;have Δ:=C (ξ.q.Jf K P);clear K P g))
    go_roundw
    case rel=>exact⟨q,f,n+1,b++[(rn,(p:D))],a5,c5,jb++[m],a7,c7,rfl,rfl,rfl,by rw[eX,HN.q];rfl,by rw[eX,ε.q];rfl,by have:=E.q;have:=k.q;omega,t.q,by have:=ψ.q;have:=k.q;omega,by rw[fV,fV];exact Δ.q,F.q⟩
    case measure=>have:=k.q;have:=t.q;simp[RowKit.intOf];omega
   .have Ψ:(S !=0)=true:=by simp[Z]
    have F:I (iP s= .error (ro,S)):=C (by rw[T.q,ay Z]);clear Z T κ;go_wp2_with fail;refine HR.q.mono ?_;rintro e w1 ⟨m,rfl,g,u⟩;have HB:=C (aB (d.q.b.trans (u.mono d.q.b.size)) (H (bJ m) 34));clear g u;go_wp2_with fail;refine M (v:= .tuple #[V N 0 0,V N 0 0,L J ro,L J S]) abn rfl ⟨HB.q,by rw[F.q]⟩
  .obtain rfl:p=s.length:=by omega
   have h1:jO s j s.length= .ok []:=by
    cases j with
    |zero=>rfl
    |succ f=>show(if _ then _ else _)=_;rw[ay ζ]
   rw[h1] at o;have F:I (iP s= .ok b):=C (by rw[o];exact cZ Except.ok (eG b));clear δ o h1 hf γ β hn;go_wp2_with fail;refine M (v:= .tuple #[V a n c,V A n B,L J (s.length:D),L J 0]) abn rfl ⟨d.q.b,?_⟩;rw[F.q];have e1:=HN.q;have e2:=ε.q;subst e1;exact⟨a,c,jb,A,B,by rw[e2],by rw[e2];exact d.q.oL,d.q.aL,d.q.oP⟩
end Yd
