import Derived.Test.YtiheclemhihpeaaGreatDoorZCu10
set_option linter.all false
set_option maxRecDepth 200000
set_option maxHeartbeats 8000000
namespace Yd
open Bool renaming false->D,true->H
open Option renaming none->I,some->N
open Go Go.RowKit Go.Proofs Tryz
open Below renaming refl->G
open Go.Value renaming int->L,string->M
open Yd renaming hid->C
open _root_ renaming Int->J,Nat->O,trivial->U,UInt8->V
theorem aad{p:Prop}(h:p:=by decide):p:=h
variable{B p:O}{s:Bs}
theorem Dh {t:Bs}{b:V}(w:World)(h:cB w B s p (b::t) 0)(Δ:jF b=D)(σ:dO (b::t)=D):
  Calls Tryz.prog 47 #[.pointer (N ⟨B,0,I⟩)] w (xZ B s w (λu:Bs=> M ⟨u.toArray⟩) (bU (b::t))):=by
 have Θ:=C (uW w h);rw[σ] at Θ;have HN:=C (λW=>Vf s p b t h.d h.le h.lim Δ σ W);have q0:=λW=>dQ Tryz.underlying9 s p b h.at_ W
 have τ:=C σ;have q1:p<=1000000:=cO h.le h.lim;have c2:=h.x.1 2;have HH:=C h;obtain⟨X,hX⟩:∃X,X=bU (b::t):=⟨_,rfl⟩;rw[<-hX];have F:=C hX;clear h hX Δ σ;go_enter func47,ntmps47;go_wp2_with fail;refine Θ.q.mono ?_;rintro e w1 ⟨rfl,υ⟩;have r:=C (HH.q.below υ);have Ξ:Hid (Cs B w w1):=C (Cs.of_below υ);clear υ c2;have c0:=r.q.x.1 0;have c1:=r.q.x.1 1;have c2:=r.q.x.1 2;go_wp2_with fail;refine jR 99 (.q 0 0 (.q 1 0 (.q 2 0 (.q 3 0 (.q 4 0 (.q 5 0 (.q 6 0 (.q 7 0 (.alt 8 (.q 9 0 (.q 10 0 (.q 11 0 (.q 12 0 (.l 13 (.l 14 (.q 15 0 (.q 16 0 .nil)))))))) 13 (.l 8 (.q 9 0 (.q 10 0 (.q 11 0 (.q 12 0 (.l 14 (.q 15 0 (.q 16 0 .nil))))))))))))))))) (λ_=>True) (λW'=>W'.cell? ⟨B,0,I⟩=N (M ⟨s.toArray⟩)/\W'.cell? ⟨B,1,I⟩=N (L .i64 (p:J))) au au U ⟨c0,c1⟩ ?_;refine qC ?_;have η:Hid (Below w1.1.size w1 w1.drew):=C ((G w1.1.size w1).drew);obtain⟨W0,Φ⟩:∃W0:World,W0=w1.drew:=⟨_,rfl⟩;rw[<-Φ] at η ⊢;clear Φ;refine⟨?_,?_⟩
 .skip
  refine dF rfl rfl (λK v=>?_);go_simp;refine(HN.q _).mono ?_;rintro e w2 ⟨k,a,tx,g,nx,P,rfl,hb,hx⟩;have γ:=C (η.q.bL hb);have y:=C hx;refine v _ _ ⟨U,(r.q.below γ.q).x.1 0,(r.q.below γ.q).x.1 1⟩ ?_;clear v K hb hx;refine qC ?_;refine aG rfl rfl (λK v=>?_);go_simp;have δ:=C (aB γ.q (.cells (aF 0 0 [] D) 79));have Q:=C (Bx.new w2 (aF 0 0 [] D) 79);have R:=C (show w1.1.size<=w2.1.size from γ.q.size);obtain⟨n,θ⟩:∃n,n=w2.1.size:=⟨_,rfl⟩;refine v _ _ ⟨U,(r.q.below δ.q).x.1 0,(r.q.below δ.q).x.1 1⟩ ?_;rw[<-θ] at Q R ⊢;generalize w2.alloc (.cells (aF 0 0 [] D) 79)=w3 at δ Q ⊢;clear v K θ;have φ:=Q.q.1;have χ:=Q.q.2.1;refine aG rfl rfl (λK v=>?_);go_simp;have ι:=C ((((Q.q.aX 0 ak (L .i64 k)).aX 1 ak (L .i64 a)).aX 2 ak (M ⟨tx.toArray⟩)).aX 3 ak (.bool g));have S:=C ((((δ.q.setCell (p:=⟨n,0,I⟩) R.q (L .i64 k)).setCell (p:=⟨n,1,I⟩) R.q (L .i64 a)).setCell (p:=⟨n,2,I⟩) R.q (M ⟨tx.toArray⟩)).setCell (p:=⟨n,3,I⟩) R.q (.bool g));refine v _ _ ⟨U,(r.q.below S.q).x.1 0,(r.q.below S.q).x.1 1⟩ ?_;generalize(((w3.setCell ⟨n,0,I⟩ (L .i64 k)).setCell ⟨n,1,I⟩ (L .i64 a)).setCell ⟨n,2,I⟩ (M ⟨tx.toArray⟩)).setCell ⟨n,3,I⟩ (.bool g)=w4 at S ι ⊢;clear v K φ χ c0 c1 δ Q;have i:=C (r.q.below S.q);have z:=C (Ξ.q.tr (Cs.of_below S.q));have c0:=i.q.x.1 0;have c1:=i.q.x.1 1;have c2:=i.q.x.1 2;have z1:=i.q.x.2.1 1;have Ψ:=ι.q.1;refine qC ?_;refine aH ?_;go_wp2_with fail;refine aD 99 [(0,0),(1,0),(2,0),(3,0),(4,0),(5,0),(6,0),(7,0),(8,0),(9,0)] (λ_=>True) (λW'=>W'.cell? ⟨B,0,I⟩=N (M ⟨s.toArray⟩)/\W'.cell? ⟨B,1,I⟩=N (L .i64 (p:J))) au au (trivial) (⟨c0,c1⟩) ?_;refine qC ?_;refine aH ?_;have T:=y;rcases y.q with⟨h1,h2,f,Y,h3,A⟩|⟨x,o,f,Y,A⟩|⟨f,h1,hk⟩|⟨f,x,o⟩|⟨f,x,o,A⟩
  .subst h1 h2
   obtain⟨q,E⟩:∃q:O,q=p+bB (b::t):=⟨_,rfl⟩;rw[<-E] at A;subst A;have κ:=i.q.drew.go (bB (b::t)) (rQ _) q E;have μ:=C κ;have ψ:=C h3;have j:=C (Br τ.q f Y);clear κ h3 f Y E y T;go_wp2_with fail;go_ret;refine⟨_,_,_,0,rfl,μ.q.1,(z.q.tr (Cs.of_below (G _ _).drew)).tr μ.q.2,?_⟩;rw[F.q,j.q];exact⟨ψ.q,rfl,rfl⟩
  .obtain⟨q,E⟩:∃q:O,q=p+iE ((b::t).take (bB (b::t))):=⟨_,rfl⟩
   rw[<-E] at A;subst A;have ν:iE ((b::t).take (bB (b::t)))<=(b::t).length:=by have:=yU ((b::t).take (bB (b::t)));have:=rQ (b::t);omega
   have ξ:=C ν;have HQ:=C E;have j:=C (yQ τ.q f Y);have Z:(P==0)=D:=aN.2 x;have ο:(P !=0)=H:=by rw[bne,Z];rfl
   have α:¬(48<=b.toNat/\b.toNat<=57):=λh=>by rw[(ko b).2 h] at o;cases o
   clear ν E f Y x o y T;by_cases β:48<=b.toNat
   .skip
    have ε:decide ((48:J)<=(b.toNat:J))=H:=by simp;omega
    have ζ:decide (48<=b.toNat)=H:=by simp;omega
    have π:decide ((b.toNat:J)<=57)=D:=by simp;omega
    have ρ:decide (b.toNat<=57)=D:=by simp;omega
    clear α β;go_wp2_with fail;refine(gq _ i.q.drew (iE ((b::t).take (bB (b::t)))) ξ.q q HQ.q 220).mono ?_;rintro e w5 ⟨rfl,c,d⟩;have l:=C c;have m:=C ((z.q.tr (Cs.of_below (G _ _).drew)).tr d);clear c d;go_wp2_with fail;go_ret;refine⟨[],_,_,220,rfl,l.q,m.q,?_⟩;rw[F.q,j.q];exact⟨rfl,rfl,aad⟩
   .skip
    have ε:decide ((48:J)<=(b.toNat:J))=D:=by simp;omega
    have ζ:decide (48<=b.toNat)=D:=by simp;omega
    clear α β;go_wp2_with fail;refine(gq _ i.q.drew (iE ((b::t).take (bB (b::t)))) ξ.q q HQ.q 220).mono ?_;rintro e w5 ⟨rfl,c,d⟩;have l:=C c;have m:=C ((z.q.tr (Cs.of_below (G _ _).drew)).tr d);clear c d;go_wp2_with fail;go_ret;refine⟨[],_,_,220,rfl,l.q,m.q,?_⟩;rw[F.q,j.q];exact⟨rfl,rfl,aad⟩
  .subst h1
   have Ω:(k !=1)=H:=by rw[bne,aN.2 hk];rfl
   have j:=C (tH f);clear f hk y T;go_wp2_with fail;refine(gq _ i.q.drew 0 (aS _) p rfl 220).mono ?_;rintro e w5 ⟨rfl,c,d⟩;have l:=C c;have m:=C ((z.q.tr (Cs.of_below (G _ _).drew)).tr d);clear c d;go_wp2_with fail;go_ret;refine⟨[],_,_,220,rfl,l.q,m.q,?_⟩;rw[F.q,j.q];exact⟨rfl,rfl,aad⟩
  .have j:=C (tH f)
   have Z:(P==0)=D:=aN.2 x;have ο:(P !=0)=H:=by rw[bne,Z];rfl
   have ω:=(ko b).1 o;have ε:decide ((48:J)<=(b.toNat:J))=H:=by simp;omega
   have ζ:decide (48<=b.toNat)=H:=by simp;omega
   have π:decide ((b.toNat:J)<=57)=H:=by simp;omega
   have ρ:decide (b.toNat<=57)=H:=by simp;omega
   clear f x o ω y T;go_wp2_with fail;refine(gq _ i.q.drew 0 (aS _) p rfl 220).mono ?_;rintro e w5 ⟨rfl,c,d⟩;have l:=C c;have m:=C ((z.q.tr (Cs.of_below (G _ _).drew)).tr d);clear c d;go_wp2_with fail;go_ret;refine⟨[],_,_,220,rfl,l.q,m.q,?_⟩;rw[F.q,j.q];exact⟨rfl,rfl,aad⟩
  .subst A
   have j:=C (tH f);have Z:(P==0)=D:=aN.2 x;have ο:(P !=0)=H:=by rw[bne,Z];rfl
   have α:¬(48<=b.toNat/\b.toNat<=57):=λh=>by rw[(ko b).2 h] at o;cases o
   clear f x o y T;by_cases β:48<=b.toNat
   .skip
    have ε:decide ((48:J)<=(b.toNat:J))=H:=by simp;omega
    have ζ:decide (48<=b.toNat)=H:=by simp;omega
    have π:decide ((b.toNat:J)<=57)=D:=by simp;omega
    have ρ:decide (b.toNat<=57)=D:=by simp;omega
    clear α β;go_wp2_with fail;refine(gq _ i.q.drew 0 (aS _) p rfl 220).mono ?_;rintro e w5 ⟨rfl,c,d⟩;have l:=C c;have m:=C ((z.q.tr (Cs.of_below (G _ _).drew)).tr d);clear c d;go_wp2_with fail;go_ret;refine⟨[],_,_,220,rfl,l.q,m.q,?_⟩;rw[F.q,j.q];exact⟨rfl,rfl,aad⟩
   .skip
    have ε:decide ((48:J)<=(b.toNat:J))=D:=by simp;omega
    have ζ:decide (48<=b.toNat)=D:=by simp;omega
    clear α β;go_wp2_with fail;refine(gq _ i.q.drew 0 (aS _) p rfl 220).mono ?_;rintro e w5 ⟨rfl,c,d⟩;have l:=C c;have m:=C ((z.q.tr (Cs.of_below (G _ _).drew)).tr d);clear c d;go_wp2_with fail;go_ret;refine⟨[],_,_,220,rfl,l.q,m.q,?_⟩;rw[F.q,j.q];exact⟨rfl,rfl,aad⟩
 .skip
  refine dF rfl rfl (λK v=>?_);go_simp;have γ:=C (aB η.q (.cells (aF 0 0 [] D) 79));have Γ:=C (Bx.new W0 (aF 0 0 [] D) 79);have R:=C (show w1.1.size<=W0.1.size from η.q.size);obtain⟨n,θ⟩:∃n,n=W0.1.size:=⟨_,rfl⟩;refine v _ _ ⟨U,(r.q.below γ.q).x.1 0,(r.q.below γ.q).x.1 1⟩ ?_;rw[<-θ] at Γ R ⊢;generalize W0.alloc (.cells (aF 0 0 [] D) 79)=w2 at γ Γ ⊢;clear v K θ;refine aG rfl rfl (λK v=>?_);go_simp;refine(HN.q _).mono ?_;rintro e w3 ⟨k,a,tx,g,nx,P,rfl,hb,hx⟩;have δ:=C (γ.q.bL hb);have y:=C hx;have Q:=C (Γ.q.keep hb);refine v _ _ ⟨U,(r.q.below δ.q).x.1 0,(r.q.below δ.q).x.1 1⟩ ?_;clear v K hb hx;refine qC ?_;have φ:=Q.q.1;have χ:=Q.q.2.1;refine aG rfl rfl (λK v=>?_);go_simp;have ι:=C ((((Q.q.aX 0 ak (L .i64 k)).aX 1 ak (L .i64 a)).aX 2 ak (M ⟨tx.toArray⟩)).aX 3 ak (.bool g));have S:=C ((((δ.q.setCell (p:=⟨n,0,I⟩) R.q (L .i64 k)).setCell (p:=⟨n,1,I⟩) R.q (L .i64 a)).setCell (p:=⟨n,2,I⟩) R.q (M ⟨tx.toArray⟩)).setCell (p:=⟨n,3,I⟩) R.q (.bool g));refine v _ _ ⟨U,(r.q.below S.q).x.1 0,(r.q.below S.q).x.1 1⟩ ?_;generalize(((w3.setCell ⟨n,0,I⟩ (L .i64 k)).setCell ⟨n,1,I⟩ (L .i64 a)).setCell ⟨n,2,I⟩ (M ⟨tx.toArray⟩)).setCell ⟨n,3,I⟩ (.bool g)=w4 at S ι ⊢;clear v K φ χ c0 c1 δ Q;have i:=C (r.q.below S.q);have z:=C (Ξ.q.tr (Cs.of_below S.q));have c0:=i.q.x.1 0;have c1:=i.q.x.1 1;have c2:=i.q.x.1 2;have z1:=i.q.x.2.1 1;have Ψ:=ι.q.1;refine qC ?_;refine aH ?_;go_wp2_with fail;refine aD 99 [(0,0),(1,0),(2,0),(3,0),(4,0),(5,0),(6,0),(7,0),(8,0),(9,0)] (λ_=>True) (λW'=>W'.cell? ⟨B,0,I⟩=N (M ⟨s.toArray⟩)/\W'.cell? ⟨B,1,I⟩=N (L .i64 (p:J))) au au (trivial) (⟨c0,c1⟩) ?_;refine qC ?_;refine aH ?_;have T:=y;rcases y.q with⟨h1,h2,f,Y,h3,A⟩|⟨x,o,f,Y,A⟩|⟨f,h1,hk⟩|⟨f,x,o⟩|⟨f,x,o,A⟩
  .subst h1 h2
   obtain⟨q,E⟩:∃q:O,q=p+bB (b::t):=⟨_,rfl⟩;rw[<-E] at A;subst A;have κ:=i.q.drew.go (bB (b::t)) (rQ _) q E;have μ:=C κ;have ψ:=C h3;have j:=C (Br τ.q f Y);clear κ h3 f Y E y T;go_wp2_with fail;go_ret;refine⟨_,_,_,0,rfl,μ.q.1,(z.q.tr (Cs.of_below (G _ _).drew)).tr μ.q.2,?_⟩;rw[F.q,j.q];exact⟨ψ.q,rfl,rfl⟩
  .obtain⟨q,E⟩:∃q:O,q=p+iE ((b::t).take (bB (b::t))):=⟨_,rfl⟩
   rw[<-E] at A;subst A;have ν:iE ((b::t).take (bB (b::t)))<=(b::t).length:=by have:=yU ((b::t).take (bB (b::t)));have:=rQ (b::t);omega
   have ξ:=C ν;have HQ:=C E;have j:=C (yQ τ.q f Y);have Z:(P==0)=D:=aN.2 x;have ο:(P !=0)=H:=by rw[bne,Z];rfl
   have α:¬(48<=b.toNat/\b.toNat<=57):=λh=>by rw[(ko b).2 h] at o;cases o
   clear ν E f Y x o y T;by_cases β:48<=b.toNat
   .skip
    have ε:decide ((48:J)<=(b.toNat:J))=H:=by simp;omega
    have ζ:decide (48<=b.toNat)=H:=by simp;omega
    have π:decide ((b.toNat:J)<=57)=D:=by simp;omega
    have ρ:decide (b.toNat<=57)=D:=by simp;omega
    clear α β;go_wp2_with fail;refine(gq _ i.q.drew (iE ((b::t).take (bB (b::t)))) ξ.q q HQ.q 220).mono ?_;rintro e w5 ⟨rfl,c,d⟩;have l:=C c;have m:=C ((z.q.tr (Cs.of_below (G _ _).drew)).tr d);clear c d;go_wp2_with fail;go_ret;refine⟨[],_,_,220,rfl,l.q,m.q,?_⟩;rw[F.q,j.q];exact⟨rfl,rfl,aad⟩
   .skip
    have ε:decide ((48:J)<=(b.toNat:J))=D:=by simp;omega
    have ζ:decide (48<=b.toNat)=D:=by simp;omega
    clear α β;go_wp2_with fail;refine(gq _ i.q.drew (iE ((b::t).take (bB (b::t)))) ξ.q q HQ.q 220).mono ?_;rintro e w5 ⟨rfl,c,d⟩;have l:=C c;have m:=C ((z.q.tr (Cs.of_below (G _ _).drew)).tr d);clear c d;go_wp2_with fail;go_ret;refine⟨[],_,_,220,rfl,l.q,m.q,?_⟩;rw[F.q,j.q];exact⟨rfl,rfl,aad⟩
  .subst h1
   have Ω:(k !=1)=H:=by rw[bne,aN.2 hk];rfl
   have j:=C (tH f);clear f hk y T;go_wp2_with fail;refine(gq _ i.q.drew 0 (aS _) p rfl 220).mono ?_;rintro e w5 ⟨rfl,c,d⟩;have l:=C c;have m:=C ((z.q.tr (Cs.of_below (G _ _).drew)).tr d);clear c d;go_wp2_with fail;go_ret;refine⟨[],_,_,220,rfl,l.q,m.q,?_⟩;rw[F.q,j.q];exact⟨rfl,rfl,aad⟩
  .have j:=C (tH f)
   have Z:(P==0)=D:=aN.2 x;have ο:(P !=0)=H:=by rw[bne,Z];rfl
   have ω:=(ko b).1 o;have ε:decide ((48:J)<=(b.toNat:J))=H:=by simp;omega
   have ζ:decide (48<=b.toNat)=H:=by simp;omega
   have π:decide ((b.toNat:J)<=57)=H:=by simp;omega
   have ρ:decide (b.toNat<=57)=H:=by simp;omega
   clear f x o ω y T;go_wp2_with fail;refine(gq _ i.q.drew 0 (aS _) p rfl 220).mono ?_;rintro e w5 ⟨rfl,c,d⟩;have l:=C c;have m:=C ((z.q.tr (Cs.of_below (G _ _).drew)).tr d);clear c d;go_wp2_with fail;go_ret;refine⟨[],_,_,220,rfl,l.q,m.q,?_⟩;rw[F.q,j.q];exact⟨rfl,rfl,aad⟩
  .subst A
   have j:=C (tH f);have Z:(P==0)=D:=aN.2 x;have ο:(P !=0)=H:=by rw[bne,Z];rfl
   have α:¬(48<=b.toNat/\b.toNat<=57):=λh=>by rw[(ko b).2 h] at o;cases o
   clear f x o y T;by_cases β:48<=b.toNat
   .skip
    have ε:decide ((48:J)<=(b.toNat:J))=H:=by simp;omega
    have ζ:decide (48<=b.toNat)=H:=by simp;omega
    have π:decide ((b.toNat:J)<=57)=D:=by simp;omega
    have ρ:decide (b.toNat<=57)=D:=by simp;omega
    clear α β;go_wp2_with fail;refine(gq _ i.q.drew 0 (aS _) p rfl 220).mono ?_;rintro e w5 ⟨rfl,c,d⟩;have l:=C c;have m:=C ((z.q.tr (Cs.of_below (G _ _).drew)).tr d);clear c d;go_wp2_with fail;go_ret;refine⟨[],_,_,220,rfl,l.q,m.q,?_⟩;rw[F.q,j.q];exact⟨rfl,rfl,aad⟩
   .skip
    have ε:decide ((48:J)<=(b.toNat:J))=D:=by simp;omega
    have ζ:decide (48<=b.toNat)=D:=by simp;omega
    clear α β;go_wp2_with fail;refine(gq _ i.q.drew 0 (aS _) p rfl 220).mono ?_;rintro e w5 ⟨rfl,c,d⟩;have l:=C c;have m:=C ((z.q.tr (Cs.of_below (G _ _).drew)).tr d);clear c d;go_wp2_with fail;go_ret;refine⟨[],_,_,220,rfl,l.q,m.q,?_⟩;rw[F.q,j.q];exact⟨rfl,rfl,aad⟩
variable{l:Bs}
theorem Ct {n:J}(w:World)(h:cB w B s p l n)(a:n≠0):Calls Tryz.prog 47 #[.pointer (N ⟨B,0,I⟩)] w (λe w'=>e= .returned (M ⟨([]:Bs).toArray⟩)/\cB w' B s p l n/\Cs B w w'):=by
 have c:=h.x.1 2;have d:(n !=0)=H:=by simpa using a
 have b:=C h;go_enter func47,ntmps47
 go_wp2
 go_ret;exact⟨rfl,b,Same.refl' _⟩
theorem cB.to {w:World}{e:J}(h:cB w B s p l e)(q:O)(a:q<=s.length):
  cB (w.setCell ⟨B,1,I⟩ (L .i64 (q:J))) B s q (s.drop q) e/\Cs B w (w.setCell ⟨B,1,I⟩ (L .i64 (q:J))):=
 ⟨⟨h.x.aX 1 ak (L .i64 (q:J)),rfl,a,h.lim⟩,Same.setCell _ _ _ _ (λe=>e rfl)⟩
theorem GA (w:World)(h:cB w B s p l 0)(q:O)(d:q<=s.length)(m:J):
  Calls Tryz.prog 31 #[.pointer (N ⟨B,0,I⟩),L .i64 (q:J),L .i64 m] w λe w'=>e= .returned (.tuple #[])/\cB w' B s q (s.drop q) m/\Cs B w w':=by
 have f:=h.x.1 2;have g:=h.x.2.1 1;have i:=h.x.2.1 2;have j:=h.x.1 1;have a:=h.to q d;have b:=a.1.err m;have c:=C (⟨b.1,a.2.tr b.2⟩:_/\_);go_enter Tryz.func31,Tryz.ntmps31
 go_wp2
 apply bodyPost_end (results_none rfl _ _ _) rfl
 exact⟨rfl,c.1,c.2⟩
def wX (n:O)(c:V):O:=if n<=999 then 10*n+(c.toNat - 48) else n
def qF (l:Bs):O:=l.foldl wX 0
theorem Vg (l:Bs):∀a b:O,(a=b\/(999<a/\999<b))->(l.foldl wX a=l.foldl (λn (c:V)=>n*10+(c.toNat - 48)) b\/(999<l.foldl wX a/\999<l.foldl (λn (c:V)=>n*10+(c.toNat - 48)) b)):=by
 induction l with
 |nil=>intro a b h;exact h
 |cons c t d=>
  intro a b h;rw[List.foldl_cons,List.foldl_cons]
  apply d _ _
  unfold wX
  split <;> omega
theorem O3 (l:Bs):(999<qF l↔999<rC l)/\(qF l<=999->qF l=rC l):=by
 have:=Vg l 0 0 (.inl rfl);unfold qF rC
 constructor
 .constructor <;> omega
 .omega
theorem Qn (l:Bs):∀a,a<=10000->(∀c∈l,fE c=H)->l.foldl wX a<=10000:=by
 induction l with
 |nil=>intro a h _;exact h
 |cons c t d=>
  intro a h b;rw[List.foldl_cons];refine d _ ?_ (λx e=>b x (iM _ e));have:=(ko c).1 (b c pU);unfold wX
  split <;> omega
theorem MC (l:Bs)(c:V):qF (l++[c])=wX (qF l) c:=by unfold qF;rw[List.foldl_append];rfl
structure uJ (l:Bs)(k:O):Prop where
 le:k<=l.length
 all:∀c∈l.take k,fE c=H
 Xo:0<k->l.head?≠N 48
theorem uJ.zero (l:Bs):uJ l 0:=⟨aS _,by simp,λh=>absurd h ah⟩
theorem uJ.step {k:O}(h:uJ l k){x:V}(b:l[k]?=N x)(f:fE x=H)(g:k=0->x≠48):uJ l (k+1)/\qF (l.take (k+1))=wX (qF (l.take k)) x:=by
 have i:k<l.length:=by
  rcases jk k l.length with h|h
  .exact h
  .rw[wG h] at b;cases b
 have d:l.take (k+1)=l.take k++[x]:=by rw[eD,b];rfl
 refine⟨⟨i,λc a=>?_,λ_=>?_⟩,by rw[d,MC]⟩
 .rw[d,cu] at a
  rcases a with a|a
  .exact h.all c a
  .rw[dw.1 a];exact f
 .rcases Nat.eq_zero_or_pos k with e|e
  .subst e
   have:l.head?=N x:=by rw[List.head?_eq_getElem?];exact b
   rw[this];exact λe=>g rfl (qQ e)
  .exact h.Xo e
theorem ME (l:Bs):∀k:O,k<=l.length->(∀c∈l.take k,fE c=H)->(∀x,l[k]?=N x->fE x=D)->l.takeWhile fE=l.take k:=by
 induction l with
 |nil=>intro k _ _ _;simp
 |cons c t e=>
  intro k f b d
  cases k with
  |zero=>
   have:=d c rfl;rw[jB,this];rfl
  |succ k=>
   have a:=b c ak;rw[jB,a,List.take_succ_cons];rw[e k (by simpa using f) (λc a=>b c (by simp;exact .inr a)) (λx g=>d x (by simpa using g))]
   rfl
theorem O4 {k:O}(h:uJ l k)(a:∀x,l[k]?=N x->fE x=D):l.takeWhile fE=l.take k:=ME l k h.le h.all a
theorem Aj (f l:Bs)(k:O)(h:uJ l k)(g:∀x,l[k]?=N x->fE x=D\/(k=0/\x=48)):
  rY f l=if k=0 then .error (l,220) else if 999<qF (l.take k) then .error (l,3) else .ok (⟨f,qF (l.take k)⟩,l.drop k):=by
 unfold rY;rcases Nat.eq_zero_or_pos k with e|e
 .subst e
  rw[aA rfl]
  apply aA
  cases l with
  |nil=>exact .inl rfl
  |cons c t=>
   rcases g c rfl with a|⟨_,a⟩
   .left;rw[jB,a];rfl
   .right;subst a;rfl
 .have i:∀x,l[k]?=N x->fE x=D:=λx j=>(g x j).resolve_right (λh=>by omega)
  have m:=O4 h i;have d:=O3 (l.take k);have n:(l.take k).length=k:=by rw[dJ];have:=h.le;omega
  have o:(l.take k).head?=l.head?:=by cases l with
   |nil=>simp
   |cons c t=>cases k with
    |zero=>omega
    |succ k=>rfl
  simp only[m,n];rw[ay (show ¬k=0 by omega),ay (show ¬((l.take k).head?=I\/(l.take k).head?=N 48) by
   rw[o];rintro(a|a)
   .have:l=[]:=by simpa using a
    have:=h.le;simp[‹l=[]›] at this;omega
   .exact h.Xo e a)]
  by_cases b:999<qF (l.take k)
  .rw[aA b,aA (d.1.1 b)]
  .rw[ay b,ay (λh=>b (d.1.2 h)),d.2 ah]
end Yd
