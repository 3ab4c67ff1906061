import Derived.Test.YtddiadcpokbpoabGreatDoorKF16
import Derived.Test.YtddiadcpokbpoabGreatDoorKCut12
import Derived.Test.YtddiadcpokbpoabGreatDoorKWakes
set_option linter.all false
set_option maxRecDepth 200000
set_option maxHeartbeats 8000000
namespace Yd
open Go Go.RowKit Go.Proofs Tryz
open Go.IntKind renaming i64->G
open Go.Value renaming int->C,pointer->H,string->L
open _root_ renaming Int->z,Nat->I
theorem BX {s:Bs}{p:I}(d:p<s.length)(a:(dN s (p:z)).2.2=0):∃q:I,(dN s (p:z)).2.1=(q:z)/\p<q/\q<=s.length:=by
 unfold dN at a ⊢;rw[au ah,jL] at a ⊢
 cases b:oH (s.drop p) with
 |error x=>
  obtain⟨r,m⟩:=x;rw[b] at a;exact absurd a (Qj _ _ _ b)
 |ok x=>
  obtain⟨n,r⟩:=x;refine⟨s.length - r.length,rfl,?_,by omega⟩;rcases(Qk b).2 with rfl|hs
  .simpa using d
  .have:=hs.length_le
   rw[dK,gI] at this;omega
structure vN where
 fr:z
 to:z
 ln:aJ
 er:z
def jr (s:Bs):I->I->List vN
 |0,_=>[]
 |n+1,p=>if p<s.length then⟨(p:z),(dN s (p:z)).2.1,(dN s (p:z)).1,(dN s (p:z)).2.2⟩::(if(dN s (p:z)).2.2=0 then jr s n (dN s (p:z)).2.1.toNat else []) else []
theorem rM (s:Bs):∀(n p:I),s.length<n+p->
  ((∀x∈jr s n p,x.er=0)/\qc s n p= .ok ((jr s n p).map (λx=>(x.ln,x.fr))))\/
  (∃j x,jr s n p=j++[x]/\(∀y∈j,y.er=0)/\x.er≠0/\qc s n p= .error (x.to,x.er))
 |0,p,h=> .inl ⟨λx e=>(by cases e),rfl⟩
 |n+1,p,h=>by
  by_cases f:p<s.length
  .by_cases g:(dN s (p:z)).2.2=0
   .obtain⟨q,l,o,t⟩:=BX f g
    have k:jr s (n+1) p=⟨(p:z),(dN s (p:z)).2.1,(dN s (p:z)).1,(dN s (p:z)).2.2⟩::jr s n q:=by
     show(if p<s.length then _ else _)=_;rw[av f,av g,l,jL]
    have m:qc s (n+1) p=match qc s n q with| .ok r=> .ok (((dN s (p:z)).1,(p:z))::r)| .error x=> .error x:=by
     show(if p<s.length then _ else _)=_;rw[av f,av g,l,jL]
     all_goals (cases qc s n q <;> rfl)
    rcases rM s n q ah with⟨a,b⟩|⟨j,x,a,b,c,d⟩
    .refine .inl ⟨λx e=>?_,?_⟩
     .rw[k] at e
      rcases dO.1 e with rfl|e
      .exact g
      .exact a x e
     .rw[m,b,k];rfl
    .refine .inr ⟨⟨(p:z),(dN s (p:z)).2.1,(dN s (p:z)).1,(dN s (p:z)).2.2⟩::j,x,by rw[k,a];rfl,λy i=>?_,c,by rw[m,d]⟩
     rcases dO.1 i with rfl|i
     .exact g
     .exact b y i
   .refine .inr ⟨[],⟨(p:z),(dN s (p:z)).2.1,(dN s (p:z)).1,(dN s (p:z)).2.2⟩,?_,λy i=>(by cases i),g,?_⟩
    .show(if p<s.length then _ else _)=_
     rw[av f,au g];rfl
    .show(if p<s.length then _ else _)=_
     rw[av f,au g]
  .refine .inl ⟨λx e=>?_,?_⟩
   .unfold jr at e
    rw[au f] at e;cases e
   .unfold jr qc
    rw[au f,au f];rfl
theorem Lr {s:Bs}{n p:I}(a:p<s.length):jr s (n+1) p=⟨(p:z),(dN s (p:z)).2.1,(dN s (p:z)).1,(dN s (p:z)).2.2⟩::(if(dN s (p:z)).2.2=0 then jr s n (dN s (p:z)).2.1.toNat else []):=by
 show(if p<s.length then _ else _)=_;rw[av a]
theorem Fa (s:Bs):∀(n p:I)(x:vN),x∈jr s n p->x.ln.names.length<=1000/\x.ln.aN.length<=1000
 |0,_,x,h=>by cases h
 |n+1,p,x,h=>by
  unfold jr at h
  split at h
  .rcases dO.1 h with rfl|h
   .exact Lu s _
   .split at h
    .exact Fa s n _ x h
    .cases h
  .cases h
attribute [local go_sem] Oper.semAt_some
def yY (w:World):Prop:=jM w/\vR w
theorem yY.below {w a:World}(b:yY w)(d:Below w.1.size w a):yY a:=⟨b.1.below d,b.2.below d⟩
theorem Nw (s:ByteArray)(w:World):Calls Tryz.prog 81 #[.string s] w λe a=>e= .returned (.func (.func 120) #[] #[H (some ⟨w.1.size,0,none⟩)])/\a=w.alloc (.cells #[.string s] 9):=by
 go_enter func81,ntmps81;go_wp2_with fail;go_ret;exact⟨rfl,rfl⟩
def SL (B:I)(x:vN)(args:Array Value)(X:World):Prop:=
 ∃a b l,B<=a/\a<b/\args=#[.agg #[C G x.fr,C G x.to],.func (.func 122) #[] #[H (some ⟨a,0,none⟩),H (some ⟨b,0,none⟩)]]/\Bx X a (bM l)/\Bx X b #[C G x.er]/\fV X B l x.ln/\∃d e,X.1[b]?=some (.cells d 31 e)
def Ql (B:I)(x:vN)(args:Array Value)(X:World):Prop:=
 ∃b a,B<=a/\args=#[.agg #[C G x.fr,C G x.to],.func (.func 122) #[] #[H (some ⟨b,0,none⟩),H (some ⟨a,0,none⟩)]]/\Bx X a #[C G x.er]
theorem TL (b d:I)(l:bH)(a:z)(w:World)(e:Bx w b (bM l))(f:Bx w d #[C G a]):
  Calls Tryz.prog 122 #[H (some ⟨b,0,none⟩),H (some ⟨d,0,none⟩)] w (pz (dU l) (C G a) w):=by
 obtain⟨g,i,j,k,m,n,o,q,r,s⟩:=l;have E:=e.2.2;have F:=f.2.2;have t:=hid e;have u:=hid f;clear e f;go_enter func122,ntmps122;go_wp2_with fail;refine aC 3 [(0,0),(1,0),(2,2),(3,1)] (λ_=>True) (λx=>Bx x b #[C G g,.slice i j k,C G m,.slice n o q,.bool r,C G s]/\Bx x d #[C G a]) ay ay (trivial) (⟨(t.q.alloc _).drew,(u.q.alloc _).drew⟩) ?_;refine qC ?_;refine aF rfl rfl (λK y=>?_);go_simp;refine y _ _ ⟨trivial,(t.q.alloc _).drew,(u.q.alloc _).drew⟩ ?_;clear y K;refine qC ?_;refine aO ?_;have A:=(Bx.new w #[C G g,.slice i j k,C G m,.slice n o q,.bool r,C G s] 77).drew.1;go_wp2_with fail;refine bodyPost_ret (v:= .tuple #[dU ⟨g,i,j,k,m,n,o,q,r,s⟩,C G a]) (by simp[results,results122,go_sem,A]) rfl ⟨rfl,(aA (Below.refl _ _) _).drew⟩
theorem Vl:∀args w,(callFunc 120 args).run Tryz.prog w= .ok (.enter 120 args) w:=enters_of func120 ay rfl
theorem JC (s:Bs)(χ:s.length<=1000000)(j:I)(D:I->Prop)(W:World)(hs:Bx W j #[L ⟨s.toArray⟩])(δ:D j):
  Dy Tryz.prog 120 #[H (some ⟨j,0,none⟩)] (SL W.1.size) 0 D yY (Ql W.1.size) (jr s (s.length+1) 0) W:=by
 intro n l J Jx hJ q5 ψ q6 hY k;refine callsIn_of_wp func120 rfl trivial ?_ rfl;simp only[ntmps120,nK,dK,gY,Nat.reduceAdd,Nat.reduceSub,pE,pF,mJ,mK,fK,fA];have hz:=gN s
 gi_wp2
 gi_loopw [3] (λi wr=>∃(p m:I)(o:List vN),i= C G p/\o++jr s m p=jr s (s.length+1) 0/\J o wr/\Bx wr j #[L ⟨s.toArray⟩]/\W.1.size<=wr.1.size/\s.length<m+p/\p<=s.length) (λi _=>s.length - (RowKit.intOf i).toNat)
 case atStart=>exact⟨0,s.length+1,[],rfl,rfl,k,hs,aB _,by omega,bn _⟩
 case round=>
  obtain⟨p,m,o,rfl,w,x,Z,ω,q7,q8⟩:=hrel;have hc:=Z.1;by_cases hp:p<s.length
  .obtain⟨f,rfl⟩:∃f,m=f+1:=⟨m - 1,by omega⟩
   have E:=ψ _ _ x;have α:=hid (Ny s (p:z) χ wr E.1.1.1 E.2 E.1);obtain⟨y,F⟩:∃y,y=dN s (p:z):=⟨_,rfl⟩;have β:=Lr (n:=f) hp;rw[<-F] at β;rw[β] at w;have ε:y.2.2=0->∃q:I,y.2.1=(q:z)/\p<q/\q<=s.length:=by rw[F];exact BX hp
   rw[<-F] at α;obtain⟨P,r,d⟩:=y;have t:=hid w;have HJ:=hid x;have Γ:=hid Z;have Δ:=hid ε;have Q:=hid ω;have Θ:(p:z)<(s.length:z):=by omega
   clear w x Z β F ε E
   gi_wp2
   refine⟨trivial,λh=>(by cases h),?_⟩;refine(callsIn_wide.2 α.q).mono ?_;rintro e b ⟨u,rfl,ζ,η⟩;have Ξ:=hid ζ;have R:=hid η;clear ζ η α;obtain⟨X,g⟩:∃X,X=(b.alloc (.cells (bM u) 77)).alloc (.cells #[C G d] 31):=⟨_,rfl⟩;have γ:Below wr.1.size wr X:=by rw[g];exact(R.q.alloc R.q.size _).alloc (by have:=R.q.size;simp;omega) _
   have Φ:X.1.size=b.1.size+2:=by rw[g];simp
   have θ:Bx X b.1.size (bM u):=by rw[g];exact(Bx.new b _ _).alloc _
   have ι:Bx X (b.1.size+1) #[C G d]:=by
    rw[g];have:=Bx.new (b.alloc (.cells (bM u) 77)) #[C G d] 31;rw[World.size_alloc] at this;exact this
   have κ:fV X W.1.size u P:=by rw[g];exact((Ξ.q.below (((Below.refl b.1.size b).alloc (aB _) _).alloc ak _)).mono Q.q)
   have Ψ:∃cs fz,X.1[b.1.size+1]?=some (.cells cs 31 fz):=by
    rw[g];have:=World.alloc_heap_new (b.alloc (.cells (bM u) 77)) (.cells #[C G d] 31);rw[World.size_alloc] at this;exact⟨_,_,this⟩
   have μ:J o X:=hJ _ _ _ HJ.q (Same.of_below γ (λi _ hl=>hl));have Ω:=R.q.size;obtain⟨fn,q9,j0,j1,hy,S⟩:=hY o ⟨(p:z),r,P,d⟩ #[.agg #[C G (p:z),C G r],.func (.func 122) #[] #[H (some ⟨b.1.size,0,none⟩),H (some ⟨b.1.size+1,0,none⟩)]] X μ
    ⟨_,by rw[<-t.q];simp;rfl⟩ ⟨b.1.size,b.1.size+1,u,by have:=Q.q;omega,by omega,rfl,θ,ι,κ,Ψ⟩ (by have:=Q.q;omega) (n - 1)
   have HX:=hid g;have A:Hid (Bx X j #[L ⟨s.toArray⟩]):=hid (Γ.q.keep γ);have q0:Hid (W.1.size<=X.1.size):=hid (by have:=Q.q;omega);rw[g] at hy S;clear g γ Φ θ ι κ μ Ω
   gi_wp2
   refine⟨λh=>(by cases h),?_⟩;refine S.mono ?_;rintro e W' (⟨rfl,ν,v,q1⟩|⟨rfl,q2,_⟩)
   .clear S hy
    obtain⟨j2,j3,_,ξ,ο⟩:=q1;simp at ξ;obtain⟨rfl,rfl⟩:=ξ;rw[<-HX.q] at v;have π:Bx W' j #[L ⟨s.toArray⟩]:=⟨λi=>(World.cell?_of_block (a:=⟨j,i,none⟩) (v.2 _ δ A.q.2.2)).trans (A.q.1 i),λi=>(World.frozen?_of_block (a:=⟨j,i,none⟩) (v.2 _ δ A.q.2.2)).trans (A.q.2.1 i),bP A.q.2.2 v.1⟩;have q3:=hid π;have ρ:=hid ν;have q4:Hid (W.1.size<=W'.1.size):=hid (bI q0.q v.1);have j4:=ο.1;clear v π ν ο;by_cases k:d=0
    .subst k
     obtain⟨q,hq,σ,τ⟩:=Δ.q rfl;have HQ:=hid hq;have υ:=hid σ;have φ:=hid τ;clear hq σ τ
     gi_wp2
     go_roundw
     case rel=>
      have T:r=(q:z):=HQ.q;refine⟨q,f,o++[⟨(p:z),r,P,0⟩],by rw[T],?_,ρ.q,q3.q,q4.q,by have:=υ.q;omega,φ.q⟩;have:=t.q;simp only[bR] at this;simp only[T,jL] at this ⊢;rw[<-this];simp
     case measure=>
      have T:r=(q:z):=HQ.q;rw[T];have:=υ.q;have:=φ.q;simp only[RowKit.intOf,jL];omega
    .have j5:(d==0)=false:=aX.2 k
     have j6:(d !=0)=true:=by simp[k]
     have H0:=hid k;clear k
     gi_wp2
     refine bodyPost_ret (results_none rfl _ _ _) rfl ?_;have:=t.q;rw[au H0.q] at this;exact⟨_,rfl,.inl (by rw[<-this];exact ρ.q)⟩
   .clear S hy
    gi_wp2
    refine bodyPost_ret (results_none rfl _ _ _) rfl ?_;exact⟨_,rfl,.inr ⟨o++[⟨(p:z),r,P,d⟩],⟨_,by rw[<-t.q];simp;rfl⟩,q2⟩⟩
  .have Θ:¬(p:z)<(s.length:z):=by omega
   have t:=hid w;have HJ:=hid x;clear w x
   gi_wp2
   go_end0
   refine⟨⟨_,rfl⟩,.inl ?_⟩;have h1:jr s m p=[]:=by
    cases m with
    |zero=>rfl
    |succ f=>unfold jr;rw[au hp]
   have h2:=t.q;rw[h1,dm] at h2;rw[<-h2];exact HJ.q
end Yd
namespace Yd
open Bool renaming true->M
open Option renaming none->G,some->L
open Go Go.RowKit Go.Proofs Tryz
open Go.IntKind renaming i64->I
open Go.Obj renaming cells->C
open Go.Value renaming slice->z,int->H,string->U
open Yd renaming hid->J
open _root_ renaming trivial->O
variable{A:Nat->Prop}{X Y:World}{row:Option Nat}
theorem yZ (a:X.grownBy Y row)(b:∀g,row=L g->¬A g):Same A X Y:=
 ⟨a.os,a.tape,a.output,a.size,λi d f=>a.block i f (λe=>b i e.symm d)⟩
variable{B:Nat}
theorem own_ne {α β:Type}{enc:α->List Value}{d:β->List Value}{k b:Nat}{B':Nat}{T T':TypeId}{v u:Value}{xs:List α}{ys:List β}(f:Own X B T k enc v xs)(h':Own X B' T' b d u ys)(i:T≠T'){g:Nat}(e:v.ownBlock=L g):u.ownBlock≠L g:=λj=>by
 obtain⟨_,_,l⟩:=f.tag e;obtain⟨_,_,a⟩:=h'.tag j;rw[l] at a
 cases a
 exact i rfl
variable{l:bH}{s:aJ}
theorem fV.Aj (a:fV X B l s)(m:X.grownBy Y row)(n:∀g,row=L g->∃d T f,X.1[g]?=L (C d T f)/\9≠T/\130≠T):fV Y B l s:=by
 refine⟨a.1,a.2.1.grown m (λg i e=>?_),a.2.2.grown m (λg i e=>?_)⟩
 .obtain⟨d,T,f,j,k,_⟩:=n g e
  obtain⟨_,_,b⟩:=a.2.1.tag i;rw[j] at b;cases b;exact k rfl
 .obtain⟨d,T,f,j,_,k⟩:=n g e
  obtain⟨_,_,b⟩:=a.2.2.tag i;rw[j] at b;cases b;exact k rfl
variable{ls:List aJ}
theorem sF.Aj {a:List bH}(b:sF X B a ls)(d:X.grownBy Y row)(e:∀g,row=L g->∃f T j,X.1[g]?=L (C f T j)/\9≠T/\130≠T):sF Y B a ls:=
 ⟨b.1,λi l k=>let⟨s,m,n⟩:=b.2 i l k;⟨s,m,n.Aj d e⟩⟩
variable{w:World}
theorem sF.same {d:World}{e:List bH}(f:sF w B e ls)(j:Same A w d)(k:∀i,B<=i->A i):sF d B e ls:=
 ⟨f.1,λi l m=>let⟨s,n,a⟩:=f.2 i l m;⟨s,n,a.1,a.2.1.same j (λg b=>k g (a.2.1.lt g b).1),a.2.2.same j (λg b=>k g (a.2.2.lt g b).1)⟩⟩
theorem sF.snoc {b:List bH}(f:sF w B b ls)(j:fV w B l s):sF w B (b++[l]) (ls++[s]):=by
 have e:=f.1;refine⟨by simp[f.1],λi q a=>?_⟩;rcases iM i b.length with g|g
 .rw[rX g] at a
  obtain⟨t,k,m⟩:=f.2 i q a;exact⟨t,by rw[rX ah];exact k,m⟩
 .rw[pG g] at a
  have d:i - b.length=0:=by
   rcases Nat.eq_zero_or_pos (i - b.length) with d|d
   .exact d
   .rw[qB (by simp;omega)] at a;cases a
  rw[d] at a;injection a with a;subst a;exact⟨s,by rw[pG ah,show i - ls.length=0 by omega];rfl,j⟩
theorem fV.same {d:World}(a:fV w B l s)(e:Same A w d)(f:∀i,B<=i->A i):fV d B l s:=
 ⟨a.1,a.2.1.same e (λg b=>f g (a.2.1.lt g b).1),a.2.2.same e (λg b=>f g (a.2.2.lt g b).1)⟩
structure oK (K N:Nat)(X:World)(v4 v5 vL:Value)(fF:List bH)(ls:List aJ)(vP:Value)(ps:List Int):Prop where
 x4:Bx X K #[v4]
 x5:Bx X (K+1) #[v5]
 oL:Own X N 77 6 qX vL fF
 aL:sF X N fF ls
 oP:Own X N 3 1 aS vP ps
section
variable {K N:Nat}{X Y:World}{v4 v5 vL vP v':Value}{fF:List bH}{ls:List aJ}{ps:List Int}
theorem oK.same (a:oK K N X v4 v5 vL fF ls vP ps)(s:Same A X Y)(e:A K)(f:A (K+1))(b:∀i,N<=i->A i):oK K N Y v4 v5 vL fF ls vP ps:=
 ⟨s.bx a.x4 e,s.bx a.x5 f,a.oL.same s (λg d=>b g (a.oL.lt g d).1),a.aL.same s b,a.oP.same s (λg d=>b g (a.oP.lt g d).1)⟩
theorem oK.below (a:oK K N X v4 v5 vL fF ls vP ps)(b:Below X.1.size X Y):oK K N Y v4 v5 vL fF ls vP ps:=a.same (A:=λ_=>True) (Same.of_below b (λi _ d=>d)) O O (λ_ _=>O)
theorem oK.Vm (b:oK K N X v4 v5 vL fF ls vP ps):∀g,vL.ownBlock=L g->∃cs T a,X.1[g]?=L (C cs T a)/\9≠T/\130≠T:=λg d=>(let⟨cs,a,e⟩:=b.oL.tag d;⟨cs,_,a,e,by decide,by decide⟩)
theorem oK.ZG (b:oK K N X v4 v5 vL fF ls vP ps):∀g,vP.ownBlock=L g->∃cs T a,X.1[g]?=L (C cs T a)/\9≠T/\130≠T:=λg d=>(let⟨cs,a,e⟩:=b.oP.tag d;⟨cs,_,a,e,by decide,by decide⟩)
theorem oK.Yb (a:oK K N X v4 v5 vL fF ls vP ps)(d:fV X N l s)(f:Own Y N 77 6 qX v' (fF++[l]))(b:X.grownBy Y vL.ownBlock)(j:K+1<N):oK K N Y v4 v5 v' (fF++[l]) (ls++[s]) vP ps:=
 ⟨a.x4.grown b (λe=>by have:=(a.oL.lt _ e).1;omega),a.x5.grown b (λe=>by have:=(a.oL.lt _ e).1;omega),f,(a.aL.Aj b a.Vm).snoc (d.Aj b a.Vm),a.oP.grown b (λg i e=>own_ne a.oP a.oL aj i e)⟩
theorem oK.Yc (a:oK K N X v4 v5 vL fF ls vP ps){p:Int}(d:Own Y N 3 1 aS v' (ps++[p]))(b:X.grownBy Y vP.ownBlock)(i:K+1<N):oK K N Y v4 v5 vL fF ls v' (ps++[p]):=
 ⟨a.x4.grown b (λe=>by have:=(a.oP.lt _ e).1;omega),a.x5.grown b (λe=>by have:=(a.oP.lt _ e).1;omega),a.oL.grown b (λg f e=>own_ne a.oL a.oP aj f e),a.aL.Aj b a.ZG,d⟩
theorem oK.ZH (a:oK K N X v4 v5 vL fF ls vP ps)(v:Value)(d:K+1<N):oK K N (X.setCell ⟨K,0,G⟩ v) v v5 vL fF ls vP ps:=by
 have s:Same (λi=>i≠K) X (X.setCell ⟨K,0,G⟩ v):=(Same.refl' X).setTail (λa=>a rfl);exact⟨a.x4.set1 v,s.bx a.x5 ah,a.oL.same s (λg b=>by have:=(a.oL.lt g b).1;omega),a.aL.same s (λ_ e=>by omega),a.oP.same s (λg b=>by have:=(a.oP.lt g b).1;omega)⟩
theorem oK.ZI (a:oK K N X v4 v5 vL fF ls vP ps)(v:Value)(d:K+1<N):oK K N (X.setCell ⟨K+1,0,G⟩ v) v4 v vL fF ls vP ps:=by
 have s:Same (λi=>i≠K+1) X (X.setCell ⟨K+1,0,G⟩ v):=(Same.refl' X).setTail (λa=>a rfl);exact⟨s.bx a.x4 ah,a.x5.set1 v,a.oL.same s (λg b=>by have:=(a.oL.lt g b).1;omega),a.aL.same s (λ_ e=>by omega),a.oP.same s (λg b=>by have:=(a.oP.lt g b).1;omega)⟩
end
theorem yh (s:Bs):∀(n p:Nat),(jr s n p).length<=n
 |0,_=>aB _
 |n+1,p=>by
  unfold jr
  split
  .rw[dK]
   split
   .exact Nat.succ_le_succ (yh s n _)
   .exact Nat.succ_le_succ (bn _)
  .exact bn _
theorem Row.ln1 (X:World)(l:bH):Row (X.alloc (C #[H I l.kind,z l.na l.nn l.nc,H I l.lvl,z l.va l.vn l.vc,.bool l.first,H I l.bits] 77)) 6 qX (L ⟨X.1.size,0,G⟩) 1 1 [l]:=
 (Own.new (hc:=GY) X X.1.size 77 (bM l) [l] (aB _) rfl (by simp[maxLen])).row ak
def mq (s:Bs):Except (Int × Int) (List (aJ × Int)):=if 131072<s.length then .error (0,3) else qc s (s.length+1) 0
def SN (s:Bs)(w:World)(e:Ending)(X:World):Prop:=
 Below w.1.size w X/\
 match mq s with
 | .ok r=>∃a c fF b d,e= .returned (.tuple #[z a fF.length c,z b r.length d,H I (s.length:Int),H I 0])/\Own X w.1.size 77 6 qX (z a fF.length c) fF/\sF X w.1.size fF (r.map Prod.fst)/\Own X w.1.size 3 1 aS (z b r.length d) (r.map Prod.snd)
 | .error (n,m)=>e= .returned (.tuple #[z G 0 0,z G 0 0,H I n,H I m])
attribute [local go_sem] Oper.semAt_some
theorem Bx.newAt {g:Nat}(a:X.1.size=g)(cs:Array Value)(T:TypeId):Bx (X.alloc (C cs T)) g cs:=a▸Bx.new X cs T
theorem GZ (s:Bs)(w:World)(hG:yY w):Calls Tryz.prog 30 #[U ⟨s.toArray⟩] w (SN s w):=by
 have hz:=gN s;by_cases z8:131072<s.length
 .have hf:mq s= .error (0,3):=av z8
  have x5:(131072:Int)<(s.length:Int):=by omega
  have hr:∀X,Below w.1.size w X->SN s w (.returned (.tuple #[z G 0 0,z G 0 0,H I 0,H I 3])) X:=λX hb=>⟨hb,by rw[hf]⟩
  have HR:=J hr;clear hr hf;go_enter Tryz.func30,Tryz.ntmps30;go_wp2_with fail;have h0:=(((Bx.newAt (X:=w) (g:=w.1.size) rfl #[z G 0 0] 42).alloc (C #[z G 0 0] 55)).alloc (C #[H I 0] 3)).alloc (C #[H I 3] 31);have h1:=((Bx.newAt (X:=w.alloc (C #[z G 0 0] 42)) (g:=w.1.size+1) ak #[z G 0 0] 55).alloc (C #[H I 0] 3)).alloc (C #[H I 3] 31);have h2:=(Bx.newAt (X:=(w.alloc (C #[z G 0 0] 42)).alloc (C #[z G 0 0] 55)) (g:=w.1.size+1+1) ak #[H I 0] 3).alloc (C #[H I 3] 31);have h3:=Bx.newAt (X:=((w.alloc (C #[z G 0 0] 42)).alloc (C #[z G 0 0] 55)).alloc (C #[H I 0] 3)) (g:=w.1.size+1+1+1) ak #[H I 3] 31;have c0:=h0.1 0;have c1:=h1.1 0;have c2:=h2.1 0;have c3:=h3.1 0;refine bodyPost_ret (v:= .tuple #[z G 0 0,z G 0 0,H I 0,H I 3]) (by simp[results,results30,go_sem,c0,c1,c2,c3]) rfl (HR.q _ ((((Below.refl w.1.size w).alloc (aB _) _).alloc ak _).alloc (by simp;omega) _|>.alloc (by simp;omega) _))
 .have hf:mq s=qc s (s.length+1) 0:=au z8
  have x5:¬(131072:Int)<(s.length:Int):=by omega
  have k6:s.length<=1000000:=by omega
  have HF:=J hf;have HG:=J hG;have x6:=J k6;clear hf hG z8 k6;refine(callsIn_wide (n:=3)).1 ?_;refine callsIn_of_wp_marks Tryz.func30 rfl O ?_ rfl;simp only[Tryz.ntmps30,nK,dK,gY,Nat.reduceAdd,Nat.reduceSub,pE,pF,mJ,mK,fK,fA];refine wpIn_wide.2 ?_
  go_wp2_with (go_at_call 81;refine(Nw _ _).mono ?_;rintro e w' ⟨rfl,rfl⟩)
  have z0:(((((((w.alloc (C #[z G 0 0] 42)).alloc (C #[z G 0 0] 55)).alloc (C #[H I 0] 3)).alloc (C #[H I 0] 31)).alloc (C #[z G 0 0] 42)).alloc (C #[z G 0 0] 55)).alloc (C #[U ⟨s.toArray⟩] 9)).1.size=w.1.size+7:=by simp
  have z1:Below w.1.size w (((((((w.alloc (C #[z G 0 0] 42)).alloc (C #[z G 0 0] 55)).alloc (C #[H I 0] 3)).alloc (C #[H I 0] 31)).alloc (C #[z G 0 0] 42)).alloc (C #[z G 0 0] 55)).alloc (C #[U ⟨s.toArray⟩] 9)):=((((((((((((((Below.refl w.1.size w).alloc (by simp;try omega) _)).alloc (by simp;try omega) _)).alloc (by simp;try omega) _)).alloc (by simp;try omega) _)).alloc (by simp;try omega) _)).alloc (by simp;try omega) _)).alloc (by simp;try omega) _);have q0:Bx (((((((w.alloc (C #[z G 0 0] 42)).alloc (C #[z G 0 0] 55)).alloc (C #[H I 0] 3)).alloc (C #[H I 0] 31)).alloc (C #[z G 0 0] 42)).alloc (C #[z G 0 0] 55)).alloc (C #[U ⟨s.toArray⟩] 9)) (w.1.size+0) #[z G 0 0]:=(((((((Bx.newAt (X:=w) (g:=w.1.size+0) ak #[z G 0 0] 42).alloc _).alloc _).alloc _).alloc _).alloc _).alloc _);have q5:Bx (((((((w.alloc (C #[z G 0 0] 42)).alloc (C #[z G 0 0] 55)).alloc (C #[H I 0] 3)).alloc (C #[H I 0] 31)).alloc (C #[z G 0 0] 42)).alloc (C #[z G 0 0] 55)).alloc (C #[U ⟨s.toArray⟩] 9)) (w.1.size+1) #[z G 0 0]:=((((((Bx.newAt (X:=(w.alloc (C #[z G 0 0] 42))) (g:=w.1.size+1) ak #[z G 0 0] 55).alloc _).alloc _).alloc _).alloc _).alloc _);have q6:Bx (((((((w.alloc (C #[z G 0 0] 42)).alloc (C #[z G 0 0] 55)).alloc (C #[H I 0] 3)).alloc (C #[H I 0] 31)).alloc (C #[z G 0 0] 42)).alloc (C #[z G 0 0] 55)).alloc (C #[U ⟨s.toArray⟩] 9)) (w.1.size+2) #[H I 0]:=(((((Bx.newAt (X:=((w.alloc (C #[z G 0 0] 42)).alloc (C #[z G 0 0] 55))) (g:=w.1.size+2) ak #[H I 0] 3).alloc _).alloc _).alloc _).alloc _);have q7:Bx (((((((w.alloc (C #[z G 0 0] 42)).alloc (C #[z G 0 0] 55)).alloc (C #[H I 0] 3)).alloc (C #[H I 0] 31)).alloc (C #[z G 0 0] 42)).alloc (C #[z G 0 0] 55)).alloc (C #[U ⟨s.toArray⟩] 9)) (w.1.size+3) #[H I 0]:=((((Bx.newAt (X:=(((w.alloc (C #[z G 0 0] 42)).alloc (C #[z G 0 0] 55)).alloc (C #[H I 0] 3))) (g:=w.1.size+3) ak #[H I 0] 31).alloc _).alloc _).alloc _);have q9:Bx (((((((w.alloc (C #[z G 0 0] 42)).alloc (C #[z G 0 0] 55)).alloc (C #[H I 0] 3)).alloc (C #[H I 0] 31)).alloc (C #[z G 0 0] 42)).alloc (C #[z G 0 0] 55)).alloc (C #[U ⟨s.toArray⟩] 9)) (w.1.size+4) #[z G 0 0]:=(((Bx.newAt (X:=((((w.alloc (C #[z G 0 0] 42)).alloc (C #[z G 0 0] 55)).alloc (C #[H I 0] 3)).alloc (C #[H I 0] 31))) (g:=w.1.size+4) ak #[z G 0 0] 42).alloc _).alloc _);have j0:Bx (((((((w.alloc (C #[z G 0 0] 42)).alloc (C #[z G 0 0] 55)).alloc (C #[H I 0] 3)).alloc (C #[H I 0] 31)).alloc (C #[z G 0 0] 42)).alloc (C #[z G 0 0] 55)).alloc (C #[U ⟨s.toArray⟩] 9)) (w.1.size+5) #[z G 0 0]:=((Bx.newAt (X:=(((((w.alloc (C #[z G 0 0] 42)).alloc (C #[z G 0 0] 55)).alloc (C #[H I 0] 3)).alloc (C #[H I 0] 31)).alloc (C #[z G 0 0] 42))) (g:=w.1.size+5) ak #[z G 0 0] 55).alloc _);have j1:Bx (((((((w.alloc (C #[z G 0 0] 42)).alloc (C #[z G 0 0] 55)).alloc (C #[H I 0] 3)).alloc (C #[H I 0] 31)).alloc (C #[z G 0 0] 42)).alloc (C #[z G 0 0] 55)).alloc (C #[U ⟨s.toArray⟩] 9)) (w.1.size+6) #[U ⟨s.toArray⟩]:=(Bx.newAt (X:=((((((w.alloc (C #[z G 0 0] 42)).alloc (C #[z G 0 0] 55)).alloc (C #[H I 0] 3)).alloc (C #[H I 0] 31)).alloc (C #[z G 0 0] 42)).alloc (C #[z G 0 0] 55))) (g:=w.1.size+6) ak #[U ⟨s.toArray⟩] 9);revert z0 z1 q0 q5 q6 q7 q9 j0 j1;generalize(((((((w.alloc (C #[z G 0 0] 42)).alloc (C #[z G 0 0] 55)).alloc (C #[H I 0] 3)).alloc (C #[H I 0] 31)).alloc (C #[z G 0 0] 42)).alloc (C #[z G 0 0] 55)).alloc (C #[U ⟨s.toArray⟩] 9))=V;intro z0 z1 q0 q5 q6 q7 q9 j0 j1;have z9:oK (w.1.size+4) (w.1.size+9) V (z G 0 0) (z G 0 0) (z G 0 0) [] [] (z G 0 0) []:=⟨q9,j0,Own.jv _ _ _ _ _,⟨rfl,λi l h=>(by cases h)⟩,Own.jv _ _ _ _ _⟩;refine wpIn_wide.1 (Lv (n:=3) (gf:=120) (lb:=#[.pointer (L ⟨w.1.size+6,0,G⟩)]) (by simp[go_sem]) Vl
   (kY:=SL (V.1.size+2)) (k:=0) (D:=λi=>i<w.1.size\/i=w.1.size+6) (R:=yY) (Kp:=Ql (V.1.size+2)) (xs:=jr s (s.length+1) 0)
   (λW hW x7=>by have:=JC s x6.q (w.1.size+6) (λi=>i<w.1.size\/i=w.1.size+6) W (j1.keep hW) (.inr rfl);rw[x7] at this;exact this) ah
   (λx k7 X h=>by obtain⟨_,_,_,_,_,rfl,_⟩:=h;rfl)
   (λj X=>Below w.1.size w X/\Bx X w.1.size #[z G 0 0]/\Bx X (w.1.size+1) #[z G 0 0]/\Bx X (w.1.size+2) #[H I 0]/\Bx X (w.1.size+3) #[H I 0]/\
    (∃a c fF T pc,oK (w.1.size+4) (w.1.size+9) X (z a fF.length c) (z T j.length pc) (z a fF.length c) fF (j.map vN.ln) (z T j.length pc) (j.map vN.fr))/\∀y∈j,y.er=0)
   (λc j X=>c= .ret/\Below w.1.size w X/\Bx X w.1.size #[z G 0 0]/\Bx X (w.1.size+1) #[z G 0 0]/\∃j2 x,j=j2++[x]/\x.er≠0/\Bx X (w.1.size+2) #[H I x.to]/\Bx X (w.1.size+3) #[H I x.er])
   (λj X Y h k=>by
    obtain⟨h1,h2,h3,h4,h5,⟨a,c,fF,T,pc,h6⟩,h7⟩:=h;exact⟨k.below h1 (λi hi=> .inl ah) h1.size,k.bx h2 (.inl ah),k.bx h3 (.inl ah),k.bx h4 (.inl ah),k.bx h5 (.inl ah),⟨a,c,fF,T,pc,h6.same k (.inl ah) (.inl ah) (λi hi=> .inr ah)⟩,h7⟩)
   (λc j X Y h k=>by
    obtain⟨h0,h1,h2,h3,j2,x,h4,h5,h6,h7⟩:=h;exact⟨h0,k.below h1 (λi hi=> .inl ah) h1.size,k.bx h2 (.inl ah),k.bx h3 (.inl ah),j2,x,h4,h5,k.bx h6 (.inl ah),k.bx h7 (.inl ah)⟩)
   (λj X h=>HG.q.below h.1) (λc j X h=>HG.q.below h.2.1)
   (λx k7 X Y h k=>by obtain⟨b4,b6,h1,h2,h3⟩:=h;exact⟨b4,b6,h1,h2,k.bx h3 (.inr ah)⟩)
   ⟨z1,q0,q5,q6,q7,⟨G,0,[],G,0,z9⟩,λy hy=>(by cases hy)⟩ ?round ?done ?stop)
  case done=>
   rintro X ⟨h1,h2,h3,h4,h5,⟨a,c,fF,T,pc,h6⟩,h7⟩ j3;rw[z0] at j3;have v0:mq s= .ok ((jr s (s.length+1) 0).map (λx=>(x.ln,x.fr))):=by
    rw[HF.q];rcases rM s (s.length+1) 0 ah with⟨_,q1⟩|⟨q,y,q1,q2,q3,q4⟩
    .exact q1
    .exact absurd (h7 y (by rw[q1];simp)) q3
   obtain⟨xs,k8⟩:∃xs,xs=jr s (s.length+1) 0:=⟨_,rfl⟩;rw[<-k8] at h6 v0;obtain⟨m,hm⟩:∃m,m=xs.length:=⟨_,rfl⟩;rw[<-hm] at h6;have x8:=J v0;have HM:=J hm;have k9:=J j3;have Γ:=J (⟨h2,h3,h4,h5⟩:_/\_/\_/\_);have δ:=J h6;have y0:=J h1;clear v0 hm j3 h2 h3 h4 h5 h6 h1 h7 k8 q0 q5 q6 q7 q9 j0 j1 z9;simp only[Exit.inBlock,Exit.then];go_wp2_with fail;refine aC 99 [(0,1),(1,1),(2,1),(3,1),(4,2),(5,2),(6,2),(7,2)] (λW'=>W'.cell? ⟨w.1.size+4,0,G⟩=L (z a fF.length c)/\W'.cell? ⟨w.1.size+5,0,G⟩=L (z T m pc)) (λ_=>True) ay ay (⟨δ.q.x4.1 0,δ.q.x5.1 0⟩) (trivial) ?_;refine qC ?_;refine aF rfl rfl (λK E=>?_);go_simp;have f:=Γ.q.1;have α:=f.1;have β:=f.2.1;have γ:=f.2.2;go_simp;refine E _ _ ⟨⟨bZ (δ.q.x4.1 0) ah,bZ (δ.q.x5.1 0) ah⟩,O⟩ ?_;clear E K f α β γ;refine aF rfl rfl (λK E=>?_);go_simp;have f:=Γ.q.2.1;have α:=f.1;have β:=f.2.1;have γ:=f.2.2;go_simp;refine E _ _ ⟨⟨bZ (bZ (δ.q.x4.1 0) ah) ah,bZ (bZ (δ.q.x5.1 0) ah) ah⟩,O⟩ ?_;clear E K f α β γ;refine aF rfl rfl (λK E=>?_);go_simp;have f:=Γ.q.2.2.1;have α:=f.1;have β:=f.2.1;have γ:=f.2.2;go_simp;refine E _ _ ⟨⟨bZ (bZ (bZ (δ.q.x4.1 0) ah) ah) ah,bZ (bZ (bZ (δ.q.x5.1 0) ah) ah) ah⟩,O⟩ ?_;clear E K f α β γ;refine aF rfl rfl (λK E=>?_);go_simp;have f:=Γ.q.2.2.2;have α:=f.1;have β:=f.2.1;have γ:=f.2.2;go_simp;refine E _ _ ⟨⟨bZ (bZ (bZ (bZ (δ.q.x4.1 0) ah) ah) ah) ah,bZ (bZ (bZ (bZ (δ.q.x5.1 0) ah) ah) ah) ah⟩,O⟩ ?_;clear E K f α β γ;refine aO ?_;go_wp2_with fail;have Ψ:Same (λi=>i<w.1.size\/w.1.size+4<=i) X ((((X.setCell ⟨w.1.size,0,G⟩ (z a fF.length c)).setCell ⟨w.1.size+1,0,G⟩ (z T m pc)).setCell ⟨w.1.size+2,0,G⟩ (H I (s.length:Int))).setCell ⟨w.1.size+3,0,G⟩ (H I 0)).drew:=(((((Same.refl' X).setTail (A:=λi=>i<w.1.size\/w.1.size+4<=i) (λh=>by omega)).setTail (λh=>by omega)).setTail (λh=>by omega)).setTail (λh=>by omega)).l6;have n0:∀{Q:World}{b o:Nat}{u:Value}{cs:Array Value}{g:Nat},Bx Q g cs->g≠b->Bx (Q.setCell ⟨b,o,G⟩ u) g cs:=λhq v1=>Same.bx (A:=λi=>i≠_) ((Same.refl' _).setTail (λh=>h rfl)) hq v1
   have k0:Bx ((((X.setCell ⟨w.1.size,0,G⟩ (z a fF.length c)).setCell ⟨w.1.size+1,0,G⟩ (z T m pc)).setCell ⟨w.1.size+2,0,G⟩ (H I (s.length:Int))).setCell ⟨w.1.size+3,0,G⟩ (H I 0)).drew w.1.size _:=(n0 (n0 (n0 (Γ.q.1.set1 _) ah) ah) ah).drew;have k1:Bx ((((X.setCell ⟨w.1.size,0,G⟩ (z a fF.length c)).setCell ⟨w.1.size+1,0,G⟩ (z T m pc)).setCell ⟨w.1.size+2,0,G⟩ (H I (s.length:Int))).setCell ⟨w.1.size+3,0,G⟩ (H I 0)).drew (w.1.size+1) _:=(n0 (n0 ((n0 Γ.q.2.1 ah).set1 _) ah) ah).drew;have k2:Bx ((((X.setCell ⟨w.1.size,0,G⟩ (z a fF.length c)).setCell ⟨w.1.size+1,0,G⟩ (z T m pc)).setCell ⟨w.1.size+2,0,G⟩ (H I (s.length:Int))).setCell ⟨w.1.size+3,0,G⟩ (H I 0)).drew (w.1.size+2) _:=(n0 ((n0 (n0 Γ.q.2.2.1 ah) ah).set1 _) ah).drew;have k3:Bx ((((X.setCell ⟨w.1.size,0,G⟩ (z a fF.length c)).setCell ⟨w.1.size+1,0,G⟩ (z T m pc)).setCell ⟨w.1.size+2,0,G⟩ (H I (s.length:Int))).setCell ⟨w.1.size+3,0,G⟩ (H I 0)).drew (w.1.size+3) _:=((n0 (n0 (n0 Γ.q.2.2.2 ah) ah) ah).set1 _).drew;revert Ψ k0 k1 k2 k3;generalize((((X.setCell ⟨w.1.size,0,G⟩ (z a fF.length c)).setCell ⟨w.1.size+1,0,G⟩ (z T m pc)).setCell ⟨w.1.size+2,0,G⟩ (H I (s.length:Int))).setCell ⟨w.1.size+3,0,G⟩ (H I 0)).drew=Z;intro Ψ k0 k1 k2 k3;have x9:Z.1[(w.1.size+7)]?=L (.deferred (L [])):=(Ψ.block _ ah (dS.1 k9.q).1).trans k9.q;have b0:=(k0.putObj (l:=(w.1.size+7)) (.deferred G) ah).1 0;have b1:=(k1.putObj (l:=(w.1.size+7)) (.deferred G) ah).1 0;have v2:=(k2.putObj (l:=(w.1.size+7)) (.deferred G) ah).1 0;have v3:=(k3.putObj (l:=(w.1.size+7)) (.deferred G) ah).1 0;have z2:Same (λi=>i<w.1.size\/w.1.size+9<=i) X (Z.putObj (w.1.size+7) (.deferred G)):=(Ψ.mono (λi hi _=>by omega)).tr (Same.putObj (A:=λi=>i<w.1.size\/w.1.size+9<=i) Z _ ah);refine⟨by simp,.inl ⟨_,_,rfl,run_takeDeferred x9,?_⟩⟩;refine⟨.tuple #[z a fF.length c,z T m pc,H I (s.length:Int),H I 0],by simp[results,results30,go_sem,b0,b1,v2,v3],z2.below y0.q (λi hi=> .inl hi) y0.q.size,?_⟩;rw[x8.q];refine⟨a,c,fF,T,pc,by rw[bg,<-HM.q],?_,?_,?_⟩
   .exact(δ.q.oL.same z2 (λg S=> .inr (δ.q.oL.lt g S).1)).mono ah
   .rw[iF]
    have:=δ.q.aL.same z2 (λi hi=> .inr hi);exact⟨this.1,λi l h=>let⟨s,h1,h2⟩:=this.2 i l h;⟨s,h1,h2.mono ah⟩⟩
   .rw[iF,bg,<-HM.q]
    exact(δ.q.oP.same z2 (λg S=> .inr (δ.q.oP.lt g S).1)).mono ah
  case stop=>
   rintro cc j X Ξ ⟨rfl,hb,h2,h3,j2,x,rfl,h5,h6,h7⟩ j3;have b2:mq s= .error (x.to,x.er):=by
    rw[HF.q];rcases rM s (s.length+1) 0 ah with⟨q1,_⟩|⟨q,y,q1,q2,q3,q4⟩
    .exact absurd (q1 x (Ξ.subset ak)) h5
    .rw[q1] at Ξ
     obtain⟨t,ht⟩:=Ξ
     cases t with
     |nil=>
      rw[dm] at ht;have:=(List.append_inj' ht rfl).2;injection this with this;rw[this];exact q4
     |cons t1 t2=>
      have:x∈q:=by
       have e:(j2++[x])++(t1::t2).dropLast++[(t1::t2).getLast ak]=q++[y]:=by
        rw[dw,List.dropLast_concat_getLast];exact ht
       have:=(List.append_inj' e rfl).1;rw[<-this];simp
      exact absurd (q2 x this) h5
   refine wpIn_wide.2 ?_;go_wp2_with fail;have v2:=(h2.putObj (l:=V.1.size) (.deferred G) ah).1 0;have v3:=(h3.putObj (l:=V.1.size) (.deferred G) ah).1 0;have b3:=(h6.putObj (l:=V.1.size) (.deferred G) ah).1 0;have b5:=(h7.putObj (l:=V.1.size) (.deferred G) ah).1 0;refine⟨by simp,.inl ⟨_,_,rfl,run_takeDeferred j3,?_⟩⟩;refine⟨.tuple #[z G 0 0,z G 0 0,H I x.to,H I x.er],by simp[results,results30,go_sem,v2,v3,b3,b5],(Same.putObj (A:=λi=>i<w.1.size) X _ ah).below hb (λi hi=>hi) hb.size,?_⟩;rw[b2]
  case round=>
   rintro j x k7 X ⟨hb,h0,h1,h2,h3,⟨a,c,fF,T,pc,P⟩,y1⟩ Ξ ⟨b4,b6,d,b7,b8,rfl,y2,j4,y3,v6⟩ m8 m
   gi_wp2
   refine⟨aA (Below.refl _ _) _,λX2 v7=>?_⟩;have θ:Same (λi=>i≠V.1.size+1) X X2:=(Same.of_below (aA (Below.refl X.1.size X) (C #[H I x.fr,H I x.to] 154)) (λi _ hl=>hl)).tr v7;have v8:Bx X2 X.1.size #[H I x.fr,H I x.to]:=v7.bx (Bx.new X _ _) ah;have y4:X.1.size<X2.1.size:=v8.2.2;have z3:=J (θ.below hb (λi hi=>by omega) hb.size);have Δ:=J (⟨θ.bx h0 ah,θ.bx h1 ah,θ.bx h2 ah,θ.bx h3 ah⟩:_/\_/\_/\_);have b9:=J (P.same θ ah ah (λi hi=>by omega));have f5:=J ((y3.same θ (λi hi=>by omega)).mono (B':=w.1.size+9) ah);have m9:Hid (∃cs fz,X2.1[b6]?=L (C cs 31 fz)):=J (let⟨cs,fz,e⟩:=v6;⟨cs,fz,(θ.block b6 ah j4.2.2).trans e⟩);have HC:=J (TL b4 b6 d x.er X2 (θ.bx y2 ah) (θ.bx j4 ah));have f6:=J (θ.bx j4 ah);have y5:=J v8;have Φ:Hid (w.1.size+9<=b6/\w.1.size+9<=X.1.size/\b6<X.1.size/\X.1.size<X2.1.size):=J ⟨by omega,by omega,j4.2.2,y4⟩;have g0:Hid (∀g,(Value.slice a fF.length c).ownBlock=L g->g<X.1.size):=J (λg S=>(P.oL.lt g S).2);have g3:Hid (∀g,(Value.slice T j.length pc).ownBlock=L g->g<X.1.size):=J (λg S=>(P.oP.lt g S).2);have y6:Hid ((∀g,(Value.slice a fF.length c).ownBlock=L g->g≠b6)/\∀g,(Value.slice T j.length pc).ownBlock=L g->g≠b6):=J (by
    obtain⟨cs,fz,e⟩:=v6;refine⟨λg S q=>?_,λg S q=>?_⟩
    .obtain⟨_,_,e2⟩:=P.oL.tag S
     rw[q,e] at e2;cases e2
    .obtain⟨_,_,e2⟩:=P.oP.tag S
     rw[q,e] at e2;cases e2)
   have y7:=J z0;have g4:=J y1;have p0:=J Ξ;have v9:Hid (j.length<=131073):=J (by have h1:=Ξ.length_le;have h2:=yh s (s.length+1) 0;rw[bO,kG] at h1;omega);have y8:Hid (fF.length<=131073):=J (by rw[P.aL.1,bg];exact v9.q);clear θ v8 y4 hb h0 h1 h2 h3 P y3 v6 y2 j4 v7 y1 Ξ z9 q0 q5 q6 q7 q9 j0 j1 z1 b7 b8
   gi_wp2
   refine⟨O,λh=>(by cases h),?_⟩;refine(CallsIn.inRound _ (callsIn_wide.2 HC.q)).mono ?_;rintro e W3 ⟨rfl,z4⟩;have y9:Below X2.1.size X2 (W3.alloc (C #[H I d.kind,z d.na d.nn d.nc,H I d.lvl,z d.va d.vn d.vc,.bool d.first,H I d.bits] 77)):=z4.alloc z4.size _;have μ:=J y9;have j5:=J (Bx.new W3 #[H I d.kind,z d.na d.nn d.nc,H I d.lvl,z d.va d.vn d.vc,.bool d.first,H I d.bits] 77);have z5:Hid (X2.1.size<=W3.1.size):=J z4.size;clear y9 z4 HC;by_cases h0:x.er=0
   .have g5:(x.er==0)=M:=oJ.2 h0
    have g6:(x.er !=0)=false:=by simp[h0]
    have H0:=J h0;clear h0
    gi_wp2
    revert μ j5;generalize W3.alloc (C #[H I d.kind,z d.na d.nn d.nc,H I d.lvl,z d.va d.vn d.vc,.bool d.first,H I d.bits] 77)=Z0;intro μ j5;obtain⟨Y0,z6⟩:∃Y,Z0.drew=Y:=⟨_,rfl⟩;have Ω:Below X2.1.size X2 Y0:=by rw[<-z6];exact μ.q.drew
    have g7:=J Ω;have x0:Hid (Bx Y0 W3.1.size #[H I d.kind,z d.na d.nn d.nc,H I d.lvl,z d.va d.vn d.vc,.bool d.first,H I d.bits]):=J (by rw[<-z6];exact j5.q.drew);have x1:=J (y5.q.keep Ω);have z7:=J (b9.q.below Ω);have g8:=J (f5.q.below Ω);have k4:Hid (Same (λi=>i<w.1.size+4\/(w.1.size+6<=i/\i<w.1.size+9)\/i=b6\/i=X.1.size\/i=W3.1.size) Y0 Y0):=J (Same.refl' _);have x2:Hid (w.1.size+9<=Y0.1.size):=J (by have:=Ω.size;have:=Φ.q;omega);have g9:Hid (∀g,(Value.slice a fF.length c).ownBlock=L g->¬(g<w.1.size+4\/(w.1.size+6<=g/\g<w.1.size+9)\/g=b6\/g=X.1.size\/g=W3.1.size)):=J (λg S=>by have h1:=g0.q g S;have h2:=y6.q.1 g S;have h3:=(z7.q.oL.lt g S).1;have h4:=Φ.q;have h5:=z5.q;omega);have m0:Hid (∀g,(Value.slice T j.length pc).ownBlock=L g->¬(g<w.1.size+4\/(w.1.size+6<=g/\g<w.1.size+9)\/g=b6\/g=X.1.size\/g=W3.1.size)):=J (λg S=>by have h1:=g3.q g S;have h2:=y6.q.2 g S;have h3:=(z7.q.oP.lt g S).1;have h4:=Φ.q;have h5:=z5.q;omega);obtain⟨iL,zL,x3⟩:=Kc;obtain⟨iI,zI,x4⟩:=Cw;have j6:=J x3;have j7:=J x4;have m1:Hid (∀(Y:World)(a2:Option Addr)(c2:Nat)(p2:Option Addr)(q2:Nat),Same (λi=>i<w.1.size+4\/(w.1.size+6<=i/\i<w.1.size+9)\/i=b6\/i=X.1.size\/i=W3.1.size) Y0 Y->
      oK (w.1.size+4) (w.1.size+9) Y (z a2 (fF.length+1) c2) (z p2 (j.length+1) q2) (z a2 (fF.length+1) c2) (fF++[d]) (j.map vN.ln++[x.ln]) (z p2 (j.length+1) q2) (j.map vN.fr++[x.fr])->
      (Y.1[V.1.size]?=X2.1[V.1.size]?/\Y.1[V.1.size+1]?=X2.1[V.1.size+1]?)/\bA (λi=>i<w.1.size\/i=w.1.size+6) X2 Y/\
      (Below w.1.size w Y/\Bx Y w.1.size #[z G 0 0]/\Bx Y (w.1.size+1) #[z G 0 0]/\Bx Y (w.1.size+2) #[H I 0]/\Bx Y (w.1.size+3) #[H I 0]/\
       (∃a c fF T pc,oK (w.1.size+4) (w.1.size+9) Y (z a fF.length c) (z T (j++[x]).length pc) (z a fF.length c) fF ((j++[x]).map vN.ln) (z T (j++[x]).length pc) ((j++[x]).map vN.fr))/\∀y∈j++[x],y.er=0)/\
      Ql (V.1.size+2) x #[.agg #[H I x.fr,H I x.to],.func (.func 122) #[] #[.pointer (L ⟨b4,0,G⟩),.pointer (L ⟨b6,0,G⟩)]] Y):=J (λY a2 c2 p2 q2 hs P=>by
     have hv:=y7.q;have m2:=Φ.q;have ο:Same (λi=>i<w.1.size+4\/(w.1.size+6<=i/\i<w.1.size+9)\/i=b6) X2 Y:=(Same.of_below g7.q (λi _ hl=>hl)).tr (hs.mono (λi hi _=>by omega));refine⟨⟨ο.block _ ah ah,ο.block _ ah ah⟩,⟨ο.size,λi hi hl=>ο.block i ah hl⟩,⟨ο.below z3.q (λi hi=>by omega) z3.q.size,ο.bx Δ.q.1 ah,ο.bx Δ.q.2.1 ah,ο.bx Δ.q.2.2.1 ah,ο.bx Δ.q.2.2.2 ah,⟨a2,c2,fF++[d],p2,q2,?_⟩,λy hy=>?_⟩,⟨b4,b6,by omega,rfl,ο.bx f6.q ah⟩⟩
     .rw[bO,bO,kG,kG,eY,eY];exact P
     .rcases cu.1 hy with h|h
      .exact g4.q y h
      .rw[bX.1 h];exact H0.q)
    clear Ω x3 x4 hz;refine Cv [1,5,6] (λW'=>W'.cell? ⟨X.1.size,0,G⟩=L (H I x.fr)/\Bx W' W3.1.size #[H I d.kind,z d.na d.nn d.nc,H I d.lvl,z d.va d.vn d.vc,.bool d.first,H I d.bits]) ay ay ay (by rw[z6];exact⟨k4.q.cell (x1.q.1 0) (.inr (.inr (.inr (.inl rfl)))),k4.q.bx x0.q (.inr (.inr (.inr (.inr rfl))))⟩) ?_;rw[z6];refine qV ?_;refine Nv (F:=λA r a' Y=>∃(π ρ ι σ τ κ u4 u5 uL uP:Value)(lc:List bH)(lx:List aJ)(ps:List Int)(g1 g2:Nat),a'=rW A [(29,π),(31,ρ),(32,ι),(33,σ),(36,τ),(37,κ)]/\
      ((r 1=M/\r 5=M/\r 6=M)/\(r 9=M->r 8=M)/\(r 10=M->r 9=M)/\(r 8=M->r 3=M/\r 4=M/\r 7=M)/\(r 3=M->r 0=M/\r 2=M))/\
      (r 0=M->π= z a fF.length c)/\(r 4=M->σ= z T j.length pc)/\
      (r 2=M->ρ= z (L ⟨g1,0,G⟩) 1 1/\(r 3=false->Row Y 6 qX (L ⟨g1,0,G⟩) 1 1 [d]))/\
      (r 7=M->τ= z (L ⟨g2,0,G⟩) 1 1/\(∀g,(Value.slice a fF.length c).ownBlock=L g->g≠g2)/\(r 8=false->Row Y 1 aS (L ⟨g2,0,G⟩) 1 1 [x.fr]))/\
      (r 3=false->fV Y (w.1.size+9) d x.ln/\uL= z a fF.length c/\lc=fF/\lx=j.map vN.ln)/\(r 3=M->(∃a2 c2,ι= z a2 (fF.length+1) c2)/\uL=ι/\lc=fF++[d]/\lx=j.map vN.ln++[x.ln])/\
      (r 8=false->uP= z T j.length pc/\ps=j.map vN.fr)/\(r 8=M->(∃p2 q2,κ= z p2 (j.length+1) q2)/\uP=κ/\ps=j.map vN.fr++[x.fr])/\
      (r 9=false->u4= z a fF.length c)/\(r 9=M->u4=ι)/\(r 10=false->u5= z T j.length pc)/\(r 10=M->u5=κ)/\
      oK (w.1.size+4) (w.1.size+9) Y u4 u5 uL lc lx uP ps/\Same (λi=>i<w.1.size+4\/(w.1.size+6<=i/\i<w.1.size+9)\/i=b6\/i=X.1.size\/i=W3.1.size) Y0 Y) ?_ ?_ ?_ ?_
    .rintro r a' Y ⟨_,_,_,_,_,_,_,_,_,_,_,_,_,_,_,_,_,_,_,_,_,_,_,_,_,_,_,_,_,_,hs⟩
     exact⟨hs.cell (x1.q.1 0) (.inr (.inr (.inr (.inl rfl)))),hs.bx x0.q (.inr (.inr (.inr (.inr rfl))))⟩
    .exact⟨_,_,_,_,_,_,_,_,_,_,_,_,_,0,0,rfl,⟨⟨rfl,rfl,rfl⟩,(λh=>by cases h),(λh=>by cases h),(λh=>by cases h),(λh=>by cases h)⟩,(λh=>by cases h),(λh=>by cases h),(λh=>by cases h),(λh=>by cases h),(λ_=>⟨g8.q,rfl,rfl,rfl⟩),(λh=>by cases h),(λ_=>⟨rfl,rfl⟩),(λh=>by cases h),(λ_=>rfl),(λh=>by cases h),(λ_=>rfl),(λh=>by cases h),z7.q,k4.q⟩
    .rintro r a' Y hL ⟨π,ρ,ι,σ,τ,κ,u4,u5,uL,uP,lc,lx,ps,g1,g2,rfl,_,f0,f4,f2,f7,_,f3,_,f8,_,f9,_,ε,P,hs⟩
     obtain⟨⟨a2,c2,rfl⟩,rfl,rfl,rfl⟩:=f3 (hL 3);obtain⟨⟨p2,q2,rfl⟩,rfl,rfl⟩:=f8 (hL 8);obtain rfl:=f9 (hL 9);obtain rfl:=ε (hL 10);obtain rfl:=f0 (hL 0);obtain rfl:=f4 (hL 4);obtain⟨rfl,_⟩:=f2 (hL 2);obtain⟨rfl,_⟩:=f7 (hL 7);have HF:=J (⟨P,hs⟩:_/\_);clear f0 f4 f2 f7 f3 f8 f9 ε P hs hL;refine TK ?_;simp only[rW,Act.put,lu,kF,kK]
     gi_wp2
     exact m1.q _ _ _ _ _ HF.q.2 HF.q.1
    .rintro i r a' Y hi hL hd ⟨π,ρ,ι,σ,τ,κ,u4,u5,uL,uP,lc,lx,ps,g1,g2,rfl,hF⟩
     have HF:=J hF;have HL:=J hL;have HD:=J hd;clear hF hL hd;rcases(by have:i<11:=hi;omega:i=0\/i=1\/i=2\/i=3\/i=4\/i=5\/i=6\/i=7\/i=8\/i=9\/i=10) with rfl|rfl|rfl|rfl|rfl|rfl|rfl|rfl|rfl|rfl|rfl
     case' inr.inl=>cases HL.q.symm.trans HF.q.1.1.1
     case' inr.inr.inr.inr.inr.inl=>cases HL.q.symm.trans HF.q.1.1.2.1
     case' inr.inr.inr.inr.inr.inr.inl=>cases HL.q.symm.trans HF.q.1.1.2.2
     all_goals
      obtain⟨⟨f1,η,ν,ζ,ξ⟩,f0,f4,f2,f7,f3,υ,f8,φ,f9,χ,ε,ψ,P,hs⟩:=HF.q;have m3:=J (⟨f1,η,ν,ζ,ξ,f0,f4,f2,f7,f3,υ,f8,φ,f9,χ,ε,ψ,P,hs⟩:_/\_/\_/\_/\_/\_/\_/\_/\_/\_/\_/\_/\_/\_/\_/\_/\_/\_/\_);clear f1 η ν ζ ξ f0 f4 f2 f7 f3 υ f8 φ f9 χ ε ψ P hs;refine uh rfl rfl (λK E=>?_);simp only[rW,Act.put,lu,kF,kK];obtain⟨f1,η,ν,ζ,ξ,f0,f4,f2,f7,f3,υ,f8,φ,f9,χ,ε,ψ,P,hs⟩:=m3.q
     .have h9:r 9=false:=Bool.eq_false_iff.2 (λq=>by cases HL.q.symm.trans (ξ (ζ (η q)).1).1)
      have hx:=P.x4;rw[f9 h9] at hx;have hc:=hx.1 0;go_simp;exact E _ _ ⟨z a fF.length c,ρ,ι,σ,τ,κ,u4,u5,uL,uP,lc,lx,ps,g1,g2,rfl,⟨f1,η,ν,ζ,λq=>⟨rfl,(ξ q).2⟩⟩,λ_=>rfl,f4,f2,f7,f3,υ,f8,φ,f9,χ,ε,ψ,P,hs⟩
     .have ω:=aA (Below.refl Y.1.size Y) (C #[H I d.kind,z d.na d.nn d.nc,H I d.lvl,z d.va d.vn d.vc,.bool d.first,H I d.bits] 77)
      go_simp;exact E _ _ ⟨π,z (L ⟨Y.1.size,0,G⟩) 1 1,ι,σ,τ,κ,u4,u5,uL,uP,lc,lx,ps,Y.1.size,g2,rfl,⟨f1,η,ν,ζ,λq=>⟨(ξ q).1,rfl⟩⟩,f0,f4,λ_=>⟨rfl,λ_=>Row.ln1 Y d⟩,(λq=>⟨(f7 q).1,(f7 q).2.1,λq2=>((f7 q).2.2 q2).below ω rfl⟩),(λq=>⟨(f3 q).1.below ω,(f3 q).2⟩),υ,f8,φ,f9,χ,ε,ψ,P.below ω,hs.tr (Same.of_below ω (λi _ hl=>hl))⟩
     .obtain⟨m4,rfl,e2,rfl⟩:=f3 HL.q
      obtain rfl:=e2.symm;obtain rfl:=f0 (HD.q 0 ay);obtain⟨rfl,k5⟩:=f2 (HD.q 2 ay);refine kM _ _ 42 rfl iL zL 80 underlying42 j6.q.1 j6.q.2.1 j6.q.2.2.1 j6.q.2.2.2.1 j6.q.2.2.2.2 rfl P.oL (L ⟨g1,0,G⟩) 1 1 (fF.length+1) [d] rfl (k5 HL.q) rfl (by have:=y8.q;omega) (by have:=y8.q;unfold maxLen;omega) (bI x2.q hs.size) ?_;intro a2 c2 Y2 ho S m5;exact E _ _ ⟨_,_,z a2 (fF.length+1) c2,σ,τ,κ,u4,u5,z a2 (fF.length+1) c2,uP,fF++[d],j.map vN.ln++[x.ln],ps,g1,g2,rfl,⟨f1,η,ν,λq=>⟨rfl,(ζ q).2⟩,λ_=>⟨HD.q 0 ay,HD.q 2 ay⟩⟩,λ_=>rfl,f4,λ_=>⟨rfl,λq=>by cases q⟩,
       (λq=>⟨(f7 q).1,(f7 q).2.1,λq2=>(yZ (A:=λi=>i=g2) S (λg e=>(f7 q).2.1 g e)).row ((f7 q).2.2 q2) (λb o e=>by injection e with e;injection e with e;exact e.symm)⟩),(λq=>by cases q),λ_=>⟨⟨a2,c2,rfl⟩,rfl,rfl,rfl⟩,f8,φ,f9,(λq=>by cases HL.q.symm.trans (ζ (η q)).1),ε,ψ,P.Yb m4 ho S ah,hs.tr (yZ S g9.q)⟩
     .have m6:r 10=false:=Bool.eq_false_iff.2 (λq=>by cases HL.q.symm.trans (ζ (η (ν q))).2.1)
      have hx:=P.x5;rw[ε m6] at hx;have hc:=hx.1 0;go_simp;exact E _ _ ⟨π,ρ,ι,z T j.length pc,τ,κ,u4,u5,uL,uP,lc,lx,ps,g1,g2,rfl,⟨f1,η,ν,λq=>⟨(ζ q).1,rfl,(ζ q).2.2⟩,ξ⟩,f0,λ_=>rfl,f2,f7,f3,υ,f8,φ,f9,χ,ε,ψ,P,hs⟩
     .have ω:=aA (Below.refl Y.1.size Y) (C #[H I x.fr] 3)
      go_simp;exact E _ _ ⟨π,ρ,ι,σ,z (L ⟨Y.1.size,0,G⟩) 1 1,κ,u4,u5,uL,uP,lc,lx,ps,g1,Y.1.size,rfl,⟨f1,η,ν,λq=>⟨(ζ q).1,(ζ q).2.1,rfl⟩,ξ⟩,f0,f4,(λq=>⟨(f2 q).1,λq2=>((f2 q).2 q2).below ω rfl⟩),λ_=>⟨rfl,(λg S=>by have:=(z7.q.oL.lt g S).2;have:=hs.size;omega),λ_=>Row.i1 Y _⟩,(λq=>⟨(f3 q).1.below ω,(f3 q).2⟩),υ,f8,φ,f9,χ,ε,ψ,P.below ω,hs.tr (Same.of_below ω (λi _ hl=>hl))⟩
     .obtain⟨rfl,rfl⟩:=f8 HL.q
      have h3:=HD.q 3 ay;obtain rfl:=f4 (HD.q 4 ay);obtain⟨rfl,m7,k5⟩:=f7 (HD.q 7 ay);refine kM _ _ 55 rfl iI zI 8 underlying55 j7.q.1 j7.q.2.1 j7.q.2.2.1 j7.q.2.2.2.1 j7.q.2.2.2.2 rfl P.oP (L ⟨g2,0,G⟩) 1 1 (j.length+1) [x.fr] rfl (k5 HL.q) (by rw[bg]) (by have:=v9.q;omega) (by have:=v9.q;unfold maxLen;omega) (bI x2.q hs.size) ?_;intro p2 q2 Y2 ho S m5;exact E _ _ ⟨π,ρ,ι,_,_,z p2 (j.length+1) q2,u4,u5,uL,z p2 (j.length+1) q2,lc,lx,_,g1,g2,rfl,⟨f1,λ_=>rfl,ν,λ_=>⟨h3,HD.q 4 ay,HD.q 7 ay⟩,ξ⟩,f0,λ_=>rfl,(λq=>⟨(f2 q).1,λq3=>by cases q3.symm.trans h3⟩),λ_=>⟨rfl,m7,λq=>by cases q⟩,
       (λq=>by cases q.symm.trans h3),υ,(λq=>by cases q),λ_=>⟨⟨p2,q2,rfl⟩,rfl,rfl⟩,f9,χ,ε,(λq=>by cases HL.q.symm.trans (η (ν q))),P.Yc ho S ah,hs.tr (yZ S m0.q)⟩
     .obtain rfl:=f9 HL.q
      obtain⟨⟨a2,c2,rfl⟩,e1,e2,e3⟩:=υ (HD.q 3 ay);have f:=P.x4;have α:=f.1;have β:=f.2.1;have γ:=f.2.2;go_simp;exact E _ _ ⟨π,ρ,_,σ,τ,κ,z a2 (fF.length+1) c2,u5,uL,uP,lc,lx,ps,g1,g2,rfl,⟨f1,λ_=>HD.q 8 ay,λ_=>rfl,ζ,ξ⟩,f0,f4,(λq=>⟨(f2 q).1,λq3=>by cases q3.symm.trans (HD.q 3 ay)⟩),(λq=>⟨(f7 q).1,(f7 q).2.1,λq8=>by cases q8.symm.trans (HD.q 8 ay)⟩),(λq=>by cases q.symm.trans (HD.q 3 ay)),λ_=>⟨⟨a2,c2,rfl⟩,e1,e2,e3⟩,(λq=>by cases q.symm.trans (HD.q 8 ay)),φ,
       (λq=>by cases q),λ_=>rfl,ε,ψ,P.ZH _ ah,hs.setTail (by show ¬(_\/_\/_\/_\/_);have:=Φ.q;have:=z5.q;omega)⟩
     .obtain rfl:=ε HL.q
      obtain⟨⟨p2,q2,rfl⟩,e1,e2⟩:=φ (HD.q 8 ay);have f:=P.x5;have α:=f.1;have β:=f.2.1;have γ:=f.2.2;go_simp;exact E _ _ ⟨π,ρ,ι,σ,τ,_,u4,z p2 (j.length+1) q2,uL,uP,lc,lx,ps,g1,g2,rfl,⟨f1,η,λ_=>HD.q 9 ay,ζ,ξ⟩,f0,f4,(λq=>⟨(f2 q).1,λq3=>by cases q3.symm.trans (HD.q 3 ay)⟩),(λq=>⟨(f7 q).1,(f7 q).2.1,λq8=>by cases q8.symm.trans (HD.q 8 ay)⟩),(λq=>by cases q.symm.trans (HD.q 3 ay)),υ,(λq=>by cases q.symm.trans (HD.q 8 ay)),λ_=>⟨⟨p2,q2,rfl⟩,e1,e2⟩,
       f9,χ,(λq=>by cases q),λ_=>rfl,P.ZI _ ah,hs.setTail (by show ¬(_\/_\/_\/_\/_);have:=Φ.q;have:=z5.q;omega)⟩
   .have g5:(x.er==0)=false:=aX.2 h0
    have g6:(x.er !=0)=M:=by simp[h0]
    have H0:=J h0;clear h0
    gi_wp2
    revert μ j5;generalize W3.alloc (C #[H I d.kind,z d.na d.nn d.nc,H I d.lvl,z d.va d.vn d.vc,.bool d.first,H I d.bits] 77)=Z0;intro μ j5;have Θ:Hid (Bx Z0 w.1.size #[z G 0 0]/\Bx Z0 (w.1.size+1) #[z G 0 0]/\Bx Z0 (w.1.size+2) #[H I 0]/\Bx Z0 (w.1.size+3) #[H I 0]):=J ⟨Δ.q.1.keep μ.q,Δ.q.2.1.keep μ.q,Δ.q.2.2.1.keep μ.q,Δ.q.2.2.2.keep μ.q⟩;have j8:=J (y5.q.keep μ.q);have m2:=Φ.q;refine ng 99 [(0,1),(1,1),(2,1),(3,2),(4,2),(5,2),(6,2)] (λW'=>W'.cell? ⟨X.1.size,1,G⟩=L (H I x.to)) (λ_=>True) ay ay ay (j8.q.1 1) (trivial) ?_;refine qC ?_;refine aF rfl rfl (λK E=>?_);go_simp;have f:=Θ.q.1;have α:=f.1;have β:=f.2.1;have γ:=f.2.2;go_simp;refine E _ _ ⟨bZ (j8.q.1 1) ah,O⟩ ?_;clear E K f α β γ;refine aF rfl rfl (λK E=>?_);go_simp;have f:=Θ.q.2.1;have α:=f.1;have β:=f.2.1;have γ:=f.2.2;go_simp;refine E _ _ ⟨bZ (bZ (j8.q.1 1) ah) ah,O⟩ ?_;clear E K f α β γ;refine aF rfl rfl (λK E=>?_);go_simp;have f:=Θ.q.2.2.1;have α:=f.1;have β:=f.2.1;have γ:=f.2.2;go_simp;refine E _ _ ⟨bZ (bZ (bZ (j8.q.1 1) ah) ah) ah,O⟩ ?_;clear E K f α β γ;refine aF rfl rfl (λK E=>?_);go_simp;have f:=Θ.q.2.2.2;have α:=f.1;have β:=f.2.1;have γ:=f.2.2;go_simp;refine E _ _ ⟨bZ (bZ (bZ (bZ (j8.q.1 1) ah) ah) ah) ah,O⟩ ?_;clear E K f α β γ;refine aO ?_
    gi_wp2
    have hv:=y7.q;have Ψ:Same (λi=>i<w.1.size\/w.1.size+4<=i) Z0 ((((Z0.setCell ⟨w.1.size,0,G⟩ (z G 0 0)).setCell ⟨w.1.size+1,0,G⟩ (z G 0 0)).setCell ⟨w.1.size+2,0,G⟩ (H I x.to)).setCell ⟨w.1.size+3,0,G⟩ (H I x.er)).drew:=(((((Same.refl' Z0).setTail (A:=λi=>i<w.1.size\/w.1.size+4<=i) (λh=>by omega)).setTail (λh=>by omega)).setTail (λh=>by omega)).setTail (λh=>by omega)).l6;have j9:Same (λi=>i<w.1.size\/w.1.size+4<=i) X2 ((((Z0.setCell ⟨w.1.size,0,G⟩ (z G 0 0)).setCell ⟨w.1.size+1,0,G⟩ (z G 0 0)).setCell ⟨w.1.size+2,0,G⟩ (H I x.to)).setCell ⟨w.1.size+3,0,G⟩ (H I x.er)).drew:=(Same.of_below μ.q (λi _ hl=>hl)).tr Ψ;have n0:∀{Q:World}{b o:Nat}{u:Value}{cs:Array Value}{g:Nat},Bx Q g cs->g≠b->Bx (Q.setCell ⟨b,o,G⟩ u) g cs:=λhq v1=>Same.bx (A:=λi=>i≠_) ((Same.refl' _).setTail (λh=>h rfl)) hq v1
    refine⟨⟨j9.block _ ah ah,j9.block _ ah ah⟩,⟨j9.size,λi hi hl=>j9.block i ah hl⟩,rfl,j9.below z3.q (λi hi=>by omega) z3.q.size,?_,?_,j,x,rfl,H0.q,?_,?_⟩
    .exact(n0 (n0 (n0 (Θ.q.1.set1 _) ah) ah) ah).drew
    .exact(n0 (n0 ((n0 Θ.q.2.1 ah).set1 _) ah) ah).drew
    .exact(n0 ((n0 (n0 Θ.q.2.2.1 ah) ah).set1 _) ah).drew
    .exact((n0 (n0 (n0 Θ.q.2.2.2 ah) ah) ah).set1 _).drew
end Yd
namespace Yd
open Go Go.RowKit Go.Proofs Tryz
theorem Bq {X:World}{b:Nat}{m h':HC}(a:Bx X b (aD m)):∃Z,Z=((((((((X.setCell ⟨b,0,none⟩ h'.t.v).setCell ⟨b,1,none⟩ h'.s.v).setCell ⟨b,2,none⟩ h'.o.v).setCell ⟨b,3,none⟩ h'.p.v).setCell ⟨b,4,none⟩ h'.e.v).setCell ⟨b,5,none⟩ h'.d.v).setCell ⟨b,6,none⟩ h'.m.v).setCell ⟨b,7,none⟩ h'.w.v)/\Bx Z b (aD h')/\Same (λi=>i≠b) X Z:=⟨_,rfl,yG a,sN⟩
theorem Vn {α:Type}{enc:α->List Value}{k:Nat}{X:World}{B:Nat}{T:TypeId}{a:Option Addr}{n c:Nat}{xs:List α}(d:Own X B T k enc (.slice a n c) xs){b o:Nat}(e:a=some ⟨b,o,none⟩):B<=b:=by
 rcases d.tC with⟨q,_⟩|⟨g,q,_⟩
 .rw[q] at e;cases e
 .have:=(d.lt g (by rw[q];rfl)).1
  rw[q] at e;injection e with e;injection e with e;omega
def xq (s:Bs):Except (Int × Int) Cont:=match mq s with
 | .error x=> .error x
 | .ok r=>match qK eZ 0 (r.map Prod.fst) with
  | .ok z=> .ok z
  | .error (i,n)=> .error ((r.map Prod.snd).getD i 0,n)
variable{s:Bs}
theorem Nz {r:List (aJ × Int)}(a:mq s= .ok r):r=(jr s (s.length+1) 0).map (λx=>(x.ln,x.fr)):=by
 unfold mq at a
 split at a
 .cases a
 .rcases rM s (s.length+1) 0 ah with⟨_,q⟩|⟨_,_,_,_,_,q⟩
  .rw[q] at a;injection a with a;exact a.symm
  .rw[q] at a;cases a
theorem Lx {r:List (aJ × Int)}(a:mq s= .ok r):r.length<=131073/\∀x∈r.map Prod.fst,x.names.length<=1000/\x.aN.length<=1000:=by
 have e:=Nz a;have f:s.length<=131072:=by
  unfold mq at a
  split at a
  .cases a
  .omega
 subst e;refine⟨by rw[bg];have:=yh s (s.length+1) 0;omega,λx b=>?_⟩;rw[iF] at b;obtain⟨y,d,rfl⟩:=bS.1 b;exact Fa s _ _ y d
theorem LA {n m:Int}(a:mq s= .error (n,m)):m≠0:=by
 unfold mq at a
 split at a
 .injection a with a;injection a with _ a;rw[<-a];decide
 .rcases rM s (s.length+1) 0 ah with⟨_,q⟩|⟨_,x,_,_,b,q⟩
  .rw[q] at a;cases a
  .rw[q] at a;injection a with a;injection a with _ a;rw[<-a];exact b
theorem TM {ls:List aJ}{i:Nat}{n:Int}(a:qK eZ 0 ls= .error (i,n)):i<ls.length/\n≠0:=by
 obtain⟨k,l,rfl,b,_,q⟩:=Ke ls eZ 0 i n a;refine⟨by have:=(bK.1 b).1;omega,?_⟩;rcases q with⟨rfl,_⟩|⟨rfl,_⟩ <;> decide
def Ye (s:Bs)(w:World)(e:Ending)(X:World):Prop:=
 Below w.1.size w X/\
 match xq s with
 | .ok z=>∃h es ds ms,∃scan:EvC->List Sn,∃dn:aG->List Int,∃mn:aK->List Int,e= .returned (.tuple #[bC h,.int .i64 (s.length:Int),.int .i64 0])/\gQ X w.1.size h (eG z) es ds ms scan dn mn
 | .error (n,m)=>e= .returned (.tuple #[bC rD,.int .i64 n,.int .i64 m])
def Ak (w:World):Prop:=yY w/\za w
theorem Ak.below {w a:World}(b:Ak w)(d:Below w.1.size w a):Ak a:=⟨b.1.below d,b.2.below d⟩
theorem JD (s:Bs)(w:World)(hG:Ak w):Calls Tryz.prog 9 #[.string ⟨s.toArray⟩] w (Ye s w):=by
 have β:=hid (aA (Below.refl w.1.size w) (.cells (aD rD) 28));have τ:=hid (Bx.new w (aD rD) 28);have HL:=hid (GZ s _ (hG.1.below β.q));have HG:=hid hG;clear hG;go_enter Tryz.func9,Tryz.ntmps9;go_wp2_with fail;refine HL.q.mono ?_;rintro e w1 ⟨P,Q⟩;have u:=hid (β.q.bQ P);have k:=hid (τ.q.keep P);have Θ:=hid P;clear HL P
 cases f:mq s with
 |error x=>
  obtain⟨n,m⟩:=x;rw[f] at Q;obtain rfl:=Q;have ζ:m≠0:=LA f;have υ:(m !=0)=true:=by simp[ζ]
  have y:Hid (xq s= .error (n,m)):=hid (by unfold xq;rw[f]);have γ:=k.q.1;have δ:=k.q.2.1;have ε:=k.q.2.2;clear f ζ;go_wp2_with fail;obtain⟨Z,g,A,l⟩:=Bq (h':=rD) k.q;rw[<-g];have E:=A.1;clear g;refine bodyPost_ret (v:= .tuple #[bC rD,.int .i64 n,.int .i64 m]) (by simp[results,results9,go_sem,E]) rfl ⟨l.below u.q (λi t=>by omega) u.q.size,?_⟩;rw[y.q]
 |ok r=>
  rw[f] at Q;obtain⟨a,c,fF,pa,pc,rfl,oL,aL,oP⟩:=Q;have η:=Lx f;have φ:fF.length=r.length:=by rw[aL.1,bg]
  have χ:=hid (NA a c fF (r.map Prod.fst) _ w1 (oL.row (hc:=GY) ah) aL η.2 (HG.q.2.below u.q));have HP:=hid (oP.row (hc:=eP) (by rw[bg];omega));have θ:=hid f;have ψ:Hid (∀b o,pa=some ⟨b,o,none⟩->b≠w.1.size):=hid (λb o e q=>by have:=Vn oP e;rw[World.size_alloc] at this;omega);clear oL aL oP η φ f;go_wp2_with fail;refine χ.q.mono ?_;rintro e w2 ⟨R,S⟩;have ι:=hid (u.q.bQ R);have κ:=hid (k.q.keep R);have ω:=hid R;clear R
  cases j:qK eZ 0 (r.map Prod.fst) with
  |error x=>
   obtain⟨i,n⟩:=x;rw[j] at S;obtain rfl:=S;obtain⟨t,μ⟩:=TM j;rw[bg] at t;obtain⟨px,T,po,ν,rfl,ξ⟩:=HP.q.at_ t;have α:=ξ 0 _ rfl;simp only[dB,gJ] at α;have ο:=ω.q.cell (p:=⟨T,po+i,none⟩) (dQ α)▸α;have υ:(n !=0)=true:=by simp[μ]
   have Ξ:(i:Int)<(r.length:Int):=by omega
   have y:Hid (xq s= .error (px,n)):=hid (by unfold xq;rw[θ.q];simp only[j,List.getD,ν,Option.getD_some]);have d:=hid (κ.q.alloc (.cells (aD rD) 28));have F:=hid (aA ι.q (.cells (aD rD) 28));have π:=hid (bq (aA (Below.refl w2.1.size w2) (.cells (aD rD) 28)) rfl ο);have Γ:Hid (T≠w.1.size):=hid (ψ.q T po rfl);clear j μ ν ξ α ο;go_wp2_with fail;refine aC 99 [(0,0),(1,0),(2,0),(3,0),(4,0),(5,0),(6,2),(7,0),(8,0)] (λ_=>True) (λW'=>W'.cell? ⟨T,po+i,none⟩=some (.int .i64 px)) ay ay (trivial) (π.q) ?_;refine qC ?_;refine aF rfl rfl (λK hK=>?_);go_simp;have γ:=d.q.1;have δ:=d.q.2.1;have ε:=d.q.2.2;go_simp;refine hK _ _ ⟨trivial,(let⟨_,e,_,q⟩:=Bq (h':=rD) d.q;by rw[<-e];exact q.cell π.q Γ.q)⟩ ?_;clear hK K γ δ ε;refine qC ?_;refine aO ?_;go_wp2_with fail;obtain⟨Z,g,A,l⟩:=Bq (h':=rD) d.q;rw[<-g];have E:=A.drew.1;clear g;refine bodyPost_ret (v:= .tuple #[bC rD,.int .i64 px,.int .i64 n]) (by simp[results,results9,go_sem,E]) rfl ⟨(l.below F.q (λi t=>by omega) F.q.size).drew,?_⟩;rw[y.q]
  |ok z=>
   rw[j] at S;obtain⟨h,es,ds,ms,scan,dn,mn,rfl,ρ⟩:=S;have y:Hid (xq s= .ok z):=hid (by unfold xq;rw[θ.q];simp only[j]);have d:=hid (κ.q.alloc (.cells (aD h) 28));have F:=hid (aA ι.q (.cells (aD h) 28));have Δ:=hid (ρ.below (aA (Below.refl _ _) (.cells (aD h) 28)));have σ:Hid (w.1.size<w1.1.size):=hid k.q.2.2;have γ:=d.q.1;have δ:=d.q.2.1;have ε:=d.q.2.2;clear j ρ;go_wp2_with fail;obtain⟨Z,g,A,l⟩:=Bq (h':=h) d.q;rw[<-g];have E:=A.1;clear g;refine bodyPost_ret (v:= .tuple #[bC h,.int .i64 (s.length:Int),.int .i64 0]) (by simp[results,results9,go_sem,E]) rfl ⟨l.below F.q (λi t=>by omega) F.q.size,?_⟩;rw[y.q];exact⟨h,es,ds,ms,scan,dn,mn,rfl,(Δ.q.same (l.mono (λi t _=>by have:=σ.q;omega))).mono (by have:=σ.q;omega)⟩
end Yd
namespace Yd
open Go Go.RowKit Go.Proofs Go.Lib Tryz
open Tryz renaming prog->h
open Value renaming int->p,string->B
open Go.Proofs.YtddiadcpokbpoabGreatDoor
section
variable {W:World}
theorem Qm {b:Nat}{f:Array (String × TypeId)}{t:TypeId}{cs:List Value}{y:DataW Unit × List MemPlace}(g:Tryz.prog.underlying t=some (.interface f))(a:DataW.trod (λ_=>()) h W 0 (λ_=>true) false b t cs=some y):
  ∃d,cs=[d]/\(d= .nilIface\/∃i j,d= .iface i j):=by
 cases b with
 |zero=>simp[DataW.trod] at a
 |succ b=>
  simp only[DataW.trod,g] at a
  split at a <;> first|exact⟨_,rfl,.inl rfl⟩|exact⟨_,rfl,.inr ⟨_,_,rfl⟩⟩|(rename_i e;cases e;done)|(cases a;done)|(rename_i e;simp at e;done)|skip
theorem Qn (b:VarReads h W "strconv.ErrRange" (Rows.laid_strconv_ErrRange:DataW Unit)):vR W:=by
 obtain⟨c,_,_,t,a⟩:=uj (g:=9) (t:=80) b ay ay;obtain⟨d,e,f⟩:=Qm underlying80 t;exact⟨d,by rw[a,e];rfl,f⟩
theorem Qo (e:VarReads h W "unicode/utf8.first" Rows.laid_unicode_utf8_first)(f:VarReads h W "unicode/utf8.acceptRanges" Rows.laid_unicode_utf8_acceptRanges)
  (j:VarReads h W "yardarm/line.forms" Rows.laid_yardarm_line_forms) (l:VarReads h W "yardarm/line.guards" Rows.laid_yardarm_line_guards) (m:VarReads h W "yardarm/level.texts" Rows.laid_yardarm_level_texts) (n:VarReads h W "yardarm/history.limits" Rows.laid_yardarm_history_limits):jM W:=by
 have o:=utf8Tabs_of_reads lays260 u8x (Qp▸e) (NC▸f);obtain⟨y,_,_,q,b⟩:=uj (g:=0) (t:=126) j ay ay;obtain⟨A,_,_,r,s⟩:=uj (g:=1) (t:=131) l ay ay;obtain⟨E,_,_,u,v⟩:=uj (g:=3) (t:=177) m ay ay;obtain⟨F,_,_,w,x⟩:=uj (g:=2) (t:=85) n ay ay;refine⟨⟨o,λi a=>(by rw[x];exact ND underlying85 w i a (by match i,a with|0,_=>rfl|1,_=>rfl|2,_=>rfl|3,_=>rfl))⟩,λk d=>?_,λi a=>?_,λi a=>?_⟩
 .rw[b,b,b]
  exact TN q k d (by match k,d with|0,_=>rfl|1,_=>rfl|2,_=>rfl|3,_=>rfl|4,_=>rfl|5,_=>rfl|6,_=>rfl|7,_=>rfl|8,_=>rfl|9,_=>rfl)
 .rw[s]
  exact NE underlying131 r i a (by match i,a with|0,_=>rfl|1,_=>rfl|2,_=>rfl|3,_=>rfl)
 .rw[v]
  exact NE underlying177 u i a (by match i,a with|0,_=>rfl|1,_=>rfl|2,_=>rfl|3,_=>rfl|4,_=>rfl)
theorem Qq (b:jM W)(d:VarReads h W "yardarm/format.limits" Rows.laid_yardarm_format_limits):qY W:=by
 obtain⟨j,_,_,e,f⟩:=uj (g:=4) (t:=85) d ay ay;exact⟨b.1.1,λi a=>(by rw[f];exact ND underlying85 e i a (by match i,a with|0,_=>rfl|1,_=>rfl|2,_=>rfl|3,_=>rfl))⟩
end
def cellsD:Nat->DataW Unit->List Value
 |_,.lit (.int k i)=>[.int k i]
 |_,.lit (.string b)=>[.string ⟨b.toArray⟩]
 |f+1,.agg l=>l.flatMap (cellsD f)
 |_,_=>[]
def rY (cs:Array Value):Obj->Obj
 | .cells _ t frozen=> .cells cs t frozen
 |o=>o
noncomputable def SQ:Nat:=(World.holding h default ⟨#[],#[],[]⟩).1.size
noncomputable def Eu (os:Os):World:=
 let w0:=World.holding h os ⟨#[.cells #[.string ⟨#[118,97,108,117,101,32,111,117,116,32,111,102,32,114,97,110,103,101]⟩] 289,.cells #[.string ⟨#[105,110,118,97,108,105,100,32,115,121,110,116,97,120]⟩] 289],#[],[]⟩
 {w0 with heap:=(((((((((((w0.1.modify 6 (rY ((Lib.firstTab.map (λz=>p .u8 z)).toArray))).modify 7 (rY (((List.range 16).flatMap (λi=>[p .u8 (Lib.accLo i:Int),p .u8 (Lib.accHi i:Int)])).toArray))).modify
   0 (rY (((List.range 10).flatMap (λk=>[B ⟨(bF k).toArray⟩,p .i64 (bY k),p .i32 (dD k)])).toArray))).modify
   1 (rY (((List.range 4).map (λi=>B ⟨(jZ i).toArray⟩)).toArray))).modify 3 (rY (((List.range 5).map (λi=>B ⟨(jQ i).toArray⟩)).toArray))).modify
   11 (rY (cellsD 2 Rows.laid_math_bits_deBruijn32tab).toArray)).modify 12 (rY (cellsD 2 Rows.laid_math_bits_deBruijn64tab).toArray)).modify
   10 (rY (cellsD 2 Rows.laid_internal_strconv_uint64pow10).toArray)).modify 9 (rY #[.iface 287 (.pointer (some ⟨SQ,0,none⟩))])).modify 8 (rY #[.iface 287 (.pointer (some ⟨SQ+1,0,none⟩))])).modify 2 (rY (cellsD 2 Rows.laid_yardarm_history_limits).toArray)).modify 4 (rY (cellsD 2 Rows.laid_yardarm_format_limits).toArray)}
end Yd
namespace Yd
open Bool renaming true->L
open List renaming countP_append->N,getElem?_zip_eq_some->O,length->V
open Go Go.RowKit Go.Proofs
open Below renaming refl->J
open Go.Obj renaming cells->I
open Tryz renaming prog->U
open Yd renaming hid->G
open _root_ renaming List->C,Int->H
variable{c:Cont}
theorem LB {d:Cont}(a:lU c d):dL c=dL d:=by
 have b:=a.n 0 aj;have f:=a.n 1 aj;have e:=a.n 2 aj;have g:=a.n 3 aj;unfold dL;rw[a.E,a.SE,a.D,a.SD,a.M,a.SM,a.Q];have i:(λp:EvC × C Sn=>fM c p.1 p.2)=λp=>fM d p.1 p.2:=by funext p;unfold fM;rw[b,f,e,g]
 have j:(λp:aG × C H=>mD c p.1 p.2)=λp=>mD d p.1 p.2:=by funext p;unfold mD;rw[b,e]
 have k:(λp:aK × C H=>mE c p.1 p.2)=λp=>mE d p.1 p.2:=by funext p;unfold mE;rw[b,e,g]
 have l:pI c=pI d:=by funext x;unfold pI;rw[f]
 rw[i,j,k,l]
theorem NG:∀{ls:C aJ},(∀l∈ls,l.kind≠0)->ls.flatMap lC=ls.flatMap mM
 |[],_=>rfl
 |l::ls,h=>by
  rw[gZ,gZ,NG (λx a=>h x (d9 _ a))];unfold mM;rw[au (h l fQ)]
theorem Fb:∀ls:C aJ,ls.length<=(ls.flatMap mM).length
 |[]=>aB _
 |l::ls=>by have:=Fb ls;have:=Fe l;rw[gZ,bO,dK];omega
theorem qL (E:C EvC)(i:Nat):(iN E E.length)[i]?=(E[i]?).map (pJ (E.take i)):=by
 by_cases a:i<E.length
 .rw[G5 E.length (aB _) i _ a (cB a),cB a];rfl
 .rw[qB (by rw[jb _ (aB _)];omega),qB ah];rfl
theorem Kg {α:Type}(f g:EvC × C Sn->α)(E:C EvC)(S:C (C Sn))(a:∀i e s,E[i]?=some e->S[i]?=some s->f (pJ (E.take i) e,s)=g (e,s)):((iN E E.length).zip S).map f=(E.zip S).map g:=by
 apply tF
 intro i;rw[nS,nS];show Option.map f (List.zipWith Prod.mk _ _)[i]?=Option.map g (List.zipWith Prod.mk _ _)[i]?;rw[List.getElem?_zipWith,List.getElem?_zipWith,qL]
 cases b:E[i]? with
 |none=>rfl
 |some e=>
  cases hs:S[i]? with
  |none=>rfl
  |some s=>exact bJ some (a i e s b hs)
variable{e:EvC}
theorem yH {l:C EvC}(a:e.kind≠2):pJ l e=e:=au a
theorem pK {l:C EvC}(a:e.kind=2):pJ l e={e with v:=⟨e.v.t,1+((ou e l:Nat):H)⟩}:=av a
theorem Al (l:C EvC)(e:EvC):(pJ l e).kind=e.kind/\(pJ l e).t=e.t/\(pJ l e).obj=e.obj:=by unfold pJ;split <;> exact⟨rfl,rfl,rfl⟩
theorem ze (E:C EvC)(t x:H):∀k,k<=E.length->fC (iN E k) t x=fC (E.take k) t x
 |0,_=>rfl
 |k+1,h=>by
  have a:=cB (by omega:k<E.length);rw[sO a,ig,a];have b:=ze E t x k ah;unfold fC at b ⊢;obtain⟨d,e,f⟩:=Al (E.take k) (E[k]' ah);rw[N,N,b,Option.toList_some,List.countP_singleton,List.countP_singleton,d,e,f]
theorem NH {α β:Type}{a:C α}{b:C β}{i:Nat}{x:α}{y:β}(d:a[i]?=some x)(e:b[i]?=some y):(x,y)∈a.zip b:=dA (O.2 ⟨d,e⟩)
section
variable {c:Cont}(hs:fJ c)
include hs
theorem Fg {i:Nat}{s:C Sn}(a:c.E[i]?=some e)(b:c.SE[i]?=some s)(d:e.kind=2):aY e.t (c.nl 0).length=L/\e.v.t=e.t/\0<e.v.k:=by
 have h:=hs.ev _ (NH a b);simp only[fZ,hasB,aM,d,au (by decide:¬((2:H)=1)),bR,aV] at h;exact⟨h.1.1.2,h.1.2.1.2,h.1.2.2⟩
theorem LC:aZ c.num=aZ c:=by
 have h:((iN c.E c.E.length).zip c.SE).map (λp=>Yd.iG p.1 p.2)=(c.E.zip c.SE).map (λp=>Yd.iG p.1 p.2):=Kg _ _ _ _ λi e s b d=>by
  by_cases a:e.kind=2
  .obtain⟨_,g,f⟩:=Fg hs b d a
   rw[pK a];unfold Yd.iG Yd.jm;simp only[a,au (by decide:¬((2:H)=1)),true_or,bR];rw[av ah,av f]
  .rw[yH a]
 have h':=bJ List.flatten h;rw[<-List.flatMap_def,<-List.flatMap_def] at h';unfold aZ;show(((iN c.E c.E.length).zip c.SE).flatMap _++_++_++_)=_;rw[h']
 rfl
theorem NJ:dL c.num=dL c:=by
 have h:((iN c.E c.E.length).zip c.SE).map (λp=>fM c.num p.1 p.2)=(c.E.zip c.SE).map (λp=>fM c p.1 p.2):=Kg _ _ _ _ λi e s b d=>by
  by_cases a:e.kind=2
  .rw[pK a]
   unfold fM;simp only[a,au (by decide:¬((2:H)=1)),bR]
   rfl
  .rw[yH a]
   rfl
 unfold dL;show((iN c.E c.E.length).zip c.SE).map (λp=>fM c.num p.1 p.2)++_++_++_=_;rw[h]
 rfl
theorem Vo (m:∀e∈c.num.E,e.kind=2->e.v.k<=999):fJ c.num:=by
 refine⟨hs.nm,?_,hs.ld,hs.lm,λp n=>?_,hs.od,hs.ma,hs.wa⟩
 .show(iN c.E c.E.length).length=_
  rw[jb _ (aB _)];exact hs.le
 .obtain⟨f,s⟩:=p
  obtain⟨i,o⟩:=pO.1 n;obtain⟨g,j⟩:=O.1 o;have a:(iN c.E c.E.length)[i]?=some f:=g;rw[qL] at a
  cases d:c.E[i]? with
  |none=>rw[d] at a;cases a
  |some e=>
   rw[d] at a;injection a with a;have b:=hs.ev _ (NH d j);by_cases h:e.kind=2
   .obtain⟨q,k,r⟩:=Fg hs d j h
    have l:=m f (dA g) (by rw[<-a,(Al _ _).1];exact h);rw[pK h] at a;subst a;simp only at l;simp only[fZ,hasB,gD,h,au (by decide:¬((2:H)=1)),bR,true_or,aM,aV] at b ⊢;refine⟨⟨b.1.1,⟨⟨⟨b.1.2.1.1.1,?_⟩,k⟩,by omega⟩⟩,b.2⟩;unfold gq;rw[au (by simp only;omega),k];simp only[aM,aV];exact⟨⟨q,by omega⟩,l⟩
   .rw[yH h] at a
    subst a;exact b
end
theorem Qr (b:iq c):iq c.num:=by
 refine⟨λg j=>?_,b.o,b.m⟩;obtain⟨i,a⟩:=pO.1 (show g∈iN c.E c.E.length from j);rw[qL] at a
 cases h:c.E[i]? with
 |none=>rw[h] at a;cases a
 |some e=>
  rw[h] at a;injection a with a;have d:=b.e e (dA h);rw[<-a];by_cases f:e.kind=2
  .rw[pK f]
   have k:=bJ (λx:EvC=>({x with v:=⟨e.v.t,1+((ou e (c.E.take i):Nat):H)⟩}:EvC)) d;exact k
  .rw[yH f];exact d
theorem TP (c:Cont):jw c.num:=λa d b g i=>by
 have f:iN c.E c.E.length=a++d::b:=g;have j:a.length<c.E.length:=by
  have:=bJ V f;rw[jb _ (aB _),bO,dK] at this;omega
 have e:(iN c.E c.E.length)[a.length]?=some d:=by rw[f,pG (aB _),Nat.sub_self];rfl
 rw[qL,cB j] at e;injection e with e;obtain⟨k,l,m⟩:=Al (c.E.take a.length) c.E[a.length];have ha:a=iN c.E a.length:=by
  have n:=List.prefix_of_prefix_length_le (l₁:=a) (l₂:=iN c.E a.length) (l₃:=iN c.E c.E.length) (by rw[f];exact eu _ _) (by have:=uO c.E (c.E.length - a.length) a.length;rwa[show a.length+(c.E.length - a.length)=c.E.length by omega] at this) (by rw[jb _ ah];exact aB _);exact n.eq_of_length (by rw[jb _ ah])
 have o:c.E[a.length].kind=2:=by rw[<-k,e];exact i
 have q:fC a d.t d.obj=ou c.E[a.length] (c.E.take a.length):=by
  have:=ze c.E d.t d.obj a.length ah;rw[<-ha] at this;rw[this,<-e,l,m]
  rfl
 rw[q,<-e,pK o];show 1+_=_+1;omega
variable{es:C EvC}
theorem G6 :l7 [] es=L↔iN es es.length=es:=by
 constructor
 .intro h
  apply tF
  intro i;rw[qL]
  cases f:es[i]? with
  |none=>rfl
  |some e=>
   refine bJ some ?_;by_cases a:e.kind=2
   .cases d:sG ((es.take i).foldl jc []) e
    .rw[Ev,a] at d
     simp only[beq_self_eq_true,qZ,Bool.not_eq_false',oJ] at d;rw[pK a,<-d]
    .rw[Kh es [] i e f d] at h
     cases h
   .exact yH a
 .intro h
  refine Cx es [] λi e f=>?_
  have b:=qL es i;rw[h,f] at b;injection b with b;rw[Ev];by_cases a:e.kind=2
  .rw[pK a] at b
   have g:=bJ (λx:EvC=>x.v.k) b;simp only at g;rw[g];simp
  .simp[a]
theorem Qs (es:C EvC):l7 [] (iN es es.length)=L:=by
 refine Cx _ [] λi e a=>?_
 rw[Ev];by_cases d:e.kind=2
 .have f:i<es.length:=by have:=(bK.1 a).1;rwa[jb _ (aB _)] at this
  have g:ou e ((iN es es.length).take i)=ou e (es.take i):=by
   have b:(iN es es.length).take i=iN es i:=by
    have b:=uO es (es.length - i) i;rw[show i+(es.length - i)=es.length by omega] at b;have:=List.prefix_iff_eq_take.1 b;rw[jb _ ah] at this;exact this.symm
   rw[b];exact ze es e.t e.obj i ah
  rw[qL,cB f] at a;injection a with a;obtain⟨j,k,l⟩:=Al (es.take i) es[i];have m:es[i].kind=2:=by rw[<-j,a];exact d
  have n:ou e (es.take i)=ou es[i] (es.take i):=by
   show fC (es.take i) e.t e.obj=fC (es.take i) _ _;rw[<-a,k,l]
  rw[g,n,<-a,pK m];simp
 .simp[d]
theorem TQ (c:Cont):c.num.num=c.num:=by
 have:=G6.1 (Qs c.E);unfold Cont.num;simp only;rw[this]
theorem TR {d:Cont}(j:um d)(g:fJ d)(k:iq d)(hc:jw d)(m:aI d)(a:((dL d).flatMap lC).length<=131072):
  ∃i b,mq ((dL d).flatMap lC)= .ok i/\qK eZ 0 (i.map Prod.fst)= .ok b/\lU (eG b) d:=by
 have f:=xu g;have n:(dL d).flatMap lC=(dL d).flatMap mM:=NG (λl a=>by
  have:=(f l a).2.2;intro s;rcases this with⟨e,_⟩|⟨e,_⟩|⟨e,_⟩|⟨e,_⟩|⟨e,_⟩|⟨e,_⟩|⟨e,_⟩|⟨e,_⟩|⟨e,_⟩ <;> omega)
 obtain⟨b,o,q⟩:=Qt j g k hc m (λl a=>Cy (f l a));have t:=Fb (dL d);have r:=Dz (dL d) [] (((dL d).flatMap mM).length+1) (λl a=>Cy (f l a)) ah;refine⟨uo ([]:Bs).length (dL d),b,?_,?_,q⟩
 .unfold mq
  rw[au ah,n];exact r
 .rw[DC];exact o
def Cont.four (c:Cont):Cont:={c with nl:=λi=>if i<4 then c.nl i else []}
variable{X:World}{m:HC}{i:C aG}{j:C aK}
theorem gQ.check {B:Nat}{z:Cont}{d:EvC->C Sn}{e:aG->C H}{f:aK->C H}(o:gQ X B m (eG z) es i j d e f)(g:fJ (eG z))(k:aI (eG z)):
  jd m (eG z).nl es i j (eG z).Q d e f=L:=by
 rw[yj (o.shaped g k) (λa b=>(o.lens.2.2.2.2 a b).symm),dZ];intro a b;have l:=oG.1 b;rw[aV,uQ o.be o.bd o.bm o.ss o.ts o.us,Fh,o.lens.2.2.2.2 a l]
section
variable {X:World}{B:Nat}{h:HC}{c z:Cont}{es:C EvC}{ds:C aG}{ms:C aK}{scan:EvC->C Sn}{dn:aG->C H}{mn:aK->C H}
theorem qM {α β γ δ:Type}(f:α->β)(g:α->γ)(k:β × γ->δ):∀l:C α,((l.map f).zip (l.map g)).map k=l.map λx=>k (f x,g x)
 |[]=>rfl
 |a::l=>by simp only[dX,List.zip_cons_cons,qM f g k l]
theorem gQ.lines (o:gQ X B h c es ds ms scan dn mn):fD c.nl es ds ms c.Q scan dn mn=dL c:=by
 unfold dL fD;rw[<-o.be,<-o.ss,<-o.bd,<-o.ts,<-o.bm,<-o.us,qM,qM,qM]
 rfl
theorem Ew {d:Cont}(hc:jw d):∀(b a:C EvC)(g:C (H × H))(r:C EvC),d.E=a++b->r.map EvC.base=b->(∀t x,g.count (t,x)=fC a t x)->l7 g r=L
 |[],a,g,r,_,i,_=>by rw[List.map_eq_nil_iff.1 i];rfl
 |e::b,a,g,r,k,i,l=>by
  obtain⟨x,m,rfl,n,o⟩:=List.map_eq_cons_iff.1 i;subst n;have q:sG g x=false:=by
   unfold sG;by_cases f:x.kind=2
   .have:=hc a x.base b k f
    rw[bT f,qZ,Bool.not_eq_false',aV];rw[l];exact this
   .rw[bE f,Bool.false_and]
  unfold l7;rw[q,Bool.not_false,qZ];refine Ew hc b (a++[x.base]) _ m (by rw[k,dw];rfl) o (λt y=>?_);unfold jc fC;rw[N];have:=l t y;unfold fC at this;by_cases f:x.kind=2
  .rw[av f,List.count_cons,this]
   congr 1
   simp only[List.countP_cons,List.countP_nil,bD];have j:x.base.kind=2:=f;have s:x.base.t=x.t:=rfl;have u:x.base.obj=x.obj:=rfl;simp only[j,s,u,beq_self_eq_true,qZ];by_cases v:x.t=t <;> by_cases w:x.obj=y <;> simp[v,w]
  .rw[au f,this]
   have j:x.base.kind≠2:=f;simp[j]
theorem gQ.cnt (o:gQ X B h c es ds ms scan dn mn)(hc:jw c):l7 [] es=L:=Ew hc c.E [] [] es rfl o.be (λ_ _=>rfl)
theorem gQ.text {ls:C aJ}(o:gQ X B h (eG z) es ds ms scan dn mn)(d:qK eZ 0 ls= .ok z)(e:jM X):Calls U 6 #[bC h] X (NK (dL (eG z)) X):=by
 obtain⟨b,_,_,f,_⟩:=Am d;have hs:=fJ.number b;have a:=yt b f;rw[<-o.lines];exact Ao h (eG z).nl es ds ms (eG z).Q scan dn mn X e (o.names (hs.BZ a)) (o.deep (hs.BZ a)) (o.check hs a) (by rw[o.lines];exact xu hs)
theorem gQ.counted {ls:C aJ}(o:gQ X B h (eG z) es ds ms scan dn mn)(d:qK eZ 0 ls= .ok z)(e:qD X):Calls U 11 #[bC h] X (cO (.bool L) X):=by
 obtain⟨a,f,_,g,_⟩:=Am d;have hs:=fJ.number a;have b:=yt a g;have:=rO h (eG z).nl es ds ms (eG z).Q scan dn mn X e (o.names (hs.BZ b)) (o.deep (hs.BZ b));rw[o.check hs b,o.cnt (f.number a.le)] at this;exact this
end
section
variable {X Y:World}{B:Nat}{h h':HC}{c c':Cont}{es es':C EvC}{ds ds':C aG}{ms ms':C aK}{scan vS:EvC->C Sn}{dn DF:aG->C H}{mn DI:aK->C H}
theorem gQ.says (o:gQ X B h c es ds ms scan dn mn)(z:DJ c):je X h c es ds ms scan dn mn:=⟨o.deep z,o.names z,o.be,o.bd,o.bm,o.ss,o.ts,o.us⟩
theorem je.four (s:je X h c es ds ms scan dn mn):je X h c.four es ds ms scan dn mn:=
 ⟨s.d,λi a=>by show Row X 1 encStr _ _ _ (if i<4 then c.nl i else []);rw[av a];exact s.n i a,s.be,s.bd,s.bm,s.se,s.sd,s.sm⟩
theorem je.cont (s:je X h c es ds ms scan dn mn):iA h.e.n c.nl es ds ms c.Q scan dn mn=c:=by
 have a:es.take h.e.n=es:=gF (by rw[s.d.1.len];exact aB _);unfold iA;rw[a,s.be,s.se,s.bd,s.sd,s.bm,s.sm]
theorem je.lines (s:je X h c es ds ms scan dn mn):fD c.nl es ds ms c.Q scan dn mn=dL c:=by
 unfold dL fD;rw[<-s.be,<-s.se,<-s.bd,<-s.sd,<-s.bm,<-s.sm,qM,qM,qM]
 rfl
theorem je.sh (s:je X h c es ds ms scan dn mn)(o:∀i,4<=i->c.nl i=[])(hc:jd h c.nl es ds ms c.Q scan dn mn=L):
  fJ c/\iq c/\um c/\(∀i,i<4->(c.nl i).length<=jU i)/\c.E.length<=3000/\c.D.length<=3000/\c.M.length<=3000/\c.Q.length<=3000:=by
 have l:gB h c.nl es ds ms c.Q scan dn mn=L:=by simp only[jd,aM] at hc;exact hc.1.1
 have f:∀i,i<4->(c.nl i).length=(h.nm i).n:=λi b=>(s.n i b).len
 have g:h.t.n=(c.nl 0).length:=(f 0 ah).symm;have m:h.s.n=(c.nl 1).length:=(f 1 ah).symm;have j:h.o.n=(c.nl 2).length:=(f 2 ah).symm;have n:h.p.n=(c.nl 3).length:=(f 3 ah).symm;have a:=l;simp only[gB,ni,aM,dZ] at a;obtain⟨⟨⟨⟨⟨q,r⟩,t⟩,u⟩,v⟩,w⟩:=a;obtain⟨A,E,F,P⟩:=Br q;have k:∀i,i<4->((c.nl i).length:H)<=zf i/\(∀x∈c.nl i,bG ⟨x.toArray⟩=L)/\(c.nl i).Nodup:=λi b=>by
  have:=r i (oG.2 b);simp only[nT,mO,aM,dZ,aV] at this;exact this
 have Q:=s.d.1.len;have R:=s.d.2.1.len;have S:=s.d.2.2.1.len;have T:=s.d.2.2.2.1.len;refine⟨⟨λi=>?_,?_,?_,?_,λp d=>?_,λp d=>?_,λp d=>?_,λx a=>?_⟩,⟨λe a=>?_,λe a=>?_,λe a=>?_⟩,λi b=>?_,λi b=>?_,?_,?_,?_,?_⟩
 .by_cases b:i<4
  .exact⟨(k i b).2.2,(k i b).2.1⟩
  .rw[o i ah];exact⟨oI,λx a=>by cases a⟩
 .rw[<-s.be,<-s.se,bg,bg]
 .rw[<-s.bd,<-s.sd,bg,bg]
 .rw[<-s.bm,<-s.sm,bg,bg]
 .rw[<-s.be,<-s.se,jy] at d
  obtain⟨e,a,rfl⟩:=bS.1 d;have:=t e a;rw[g,m,j,n] at this;exact this
 .rw[<-s.bd,<-s.sd,jy] at d
  obtain⟨e,a,rfl⟩:=bS.1 d;have:=u e a;unfold Cz at this;rw[g,j,aM] at this;exact this
 .rw[<-s.bm,<-s.sm,jy] at d
  obtain⟨e,a,rfl⟩:=bS.1 d;have:=v e a;unfold CB at this;rw[g,j,n,aM,aM] at this;exact⟨this.1.1,this.1.2,this.2⟩
 .have:=w x a
  unfold zh at this;rw[m,aM,aM,aV,aV] at this;exact⟨this.1.1,this.1.2,this.2⟩
 .rw[<-s.be] at a;obtain⟨y,_,rfl⟩:=bS.1 a;rfl
 .rw[<-s.bd] at a;obtain⟨y,_,rfl⟩:=bS.1 a;rfl
 .rw[<-s.bm] at a;obtain⟨y,_,rfl⟩:=bS.1 a;rfl
 .rw[yj l f,dZ] at hc
  have:=rJ (hc i (oG.2 b));rw[uQ s.be s.bd s.bm s.se s.sd s.sm,<-f i b] at this;exact this
 .have:=(k i b).1
  rcases(by omega:i=0\/i=1\/i=2\/i=3) with rfl|rfl|rfl|rfl <;> (unfold jU;simp only[zf] at this;simp;omega)
 .rw[<-s.be,bg];omega
 .rw[<-s.bd,bg];omega
 .rw[<-s.bm,bg];omega
 .omega
theorem je.num (s:je X h c es ds ms scan dn mn)(g:∀i,4<=i->c.nl i=[])(hc:jd h c.nl es ds ms c.Q scan dn mn=L)(a:rZ c.E=false):
  fJ c.num/\iq c.num/\um c.num/\jw c.num/\aI c.num/\dL c.num=dL c:=by
 obtain⟨b,d,j,k,l,m,n,o⟩:=s.sh g hc;have f:∀e∈c.num.E,e.kind=2->e.v.k<=999:=λe q d=>by
  unfold rZ at a;rw[List.any_eq_false] at a;have:=a e q;rw[d] at this
  simpa using this
 refine⟨Vo b f,Qr d,λi r=>?_,TP c,⟨k,?_,m,n,o,f⟩,NJ b⟩
 .rw[LC b];exact j i r
 .show(iN c.E c.E.length).length<=3000
  rw[jb _ (aB _)];exact l
theorem je.check (s:je X h c es ds ms scan dn mn)(a:fJ c)(m:um c)(n:aI c):jd h c.nl es ds ms c.Q scan dn mn=L:=by
 have b:∀i,i<4->(c.nl i).length=(h.nm i).n:=λi d=>(s.n i d).len
 have g:h.t.n=(c.nl 0).length:=(b 0 ah).symm;have k:h.s.n=(c.nl 1).length:=(b 1 ah).symm;have j:h.o.n=(c.nl 2).length:=(b 2 ah).symm;have l:h.p.n=(c.nl 3).length:=(b 3 ah).symm;obtain⟨o,q,r,t,y,_⟩:=n;have A:=s.d.1.len;have E:=s.d.2.1.len;have F:=s.d.2.2.1.len;have P:=s.d.2.2.2.1.len;rw[<-s.be,bg] at q;rw[<-s.bd,bg] at r;rw[<-s.bm,bg] at t;have u:gB h c.nl es ds ms c.Q scan dn mn=L:=by
  unfold gB;simp only[aM,dZ];refine⟨⟨⟨⟨?_,λe v=>?_⟩,λx f=>?_⟩,λx f=>?_⟩,λx f=>?_⟩
  .unfold ni
   simp only[aM,dZ,oG];refine⟨?_,λi d=>?_⟩
   .unfold Bt
    simp only[aM,aV];refine⟨by omega,?_⟩
    split
    .omega
    .split <;> omega
   .unfold nT mO
    simp only[aM,dZ,aV];refine⟨?_,λs w=>(a.nm i).2 s w,(a.nm i).1⟩;have:=o i d;rcases(by omega:i=0\/i=1\/i=2\/i=3) with rfl|rfl|rfl|rfl <;> (unfold jU at this;simp at this;simp only[zf];omega)
  .rw[g,k,j,l]
   exact a.ev (e.base,scan e) (by rw[<-s.be,<-s.se,jy];exact bS.2 ⟨e,v,rfl⟩)
  .have:=a.od (x.base,dn x) (by rw[<-s.bd,<-s.sd,jy];exact bS.2 ⟨x,f,rfl⟩)
   unfold Cz;rw[g,j,aM];exact this
  .have:=a.ma (x.base,mn x) (by rw[<-s.bm,<-s.sm,jy];exact bS.2 ⟨x,f,rfl⟩)
   unfold CB;rw[g,j,l,aM,aM];exact⟨⟨this.1,this.2.1⟩,this.2.2⟩
  .have:=a.wa x f
   unfold zh;rw[k,aM,aM,aV,aV];exact⟨⟨this.1,this.2.1⟩,this.2.2⟩
 rw[yj u b,dZ];intro i d;rw[aV,uQ s.be s.bd s.bm s.se s.sd s.sm,<-b i (oG.1 d)];exact m i (oG.1 d)
theorem Ap (s:je X h c es ds ms scan dn mn)(a:je X h' c' es' ds' ms' vS DF DI):Calls U 10 #[bC h,bC h'] X (λe W=>∃b:Bool,e= .returned (.bool b)/\(b=L↔lU c c')/\Below X.1.size X W):=by
 refine(G7 X s.d a.d s.n a.n).mono ?_;rintro e W ⟨b,rfl,n,o⟩;refine⟨b,rfl,n.trans ?_,o⟩;have k:∀{α β γ:Type}{f:α->β}{g m:α->γ}{l d:C α},l.map (λx=>(f x,g x))=d.map (λx=>(f x,m x))↔(l.map f=d.map f/\l.map g=d.map m):=fun {α β γ f g m l d}=>by
  constructor
  .intro e
   have i:=bJ (List.map Prod.fst) e;have j:=bJ (List.map Prod.snd) e;rw[iF,iF] at i j;exact⟨i,j⟩
  .rintro⟨q,r⟩
   rw[<-jy,<-jy,q,r]
 unfold Gv;rw[k,k,k,s.be,s.bd,s.bm,s.se,s.sd,s.sm,a.be,a.bd,a.bm,a.se,a.sd,a.sm];exact⟨λ⟨i,⟨j,t⟩,⟨u,v⟩,w,y,A⟩=>⟨i,y,A,j,t,u,v,w⟩,λs=>⟨s.n,⟨s.D,s.SD⟩,⟨s.M,s.SM⟩,s.Q,s.E,s.SE⟩⟩
end
attribute [local go_sem] Oper.semAt_some
theorem NM {a:Nat->C Bs}{b:C Wa}{d:EvC->C Sn}{f:aG->C H}{g:aK->C H}{E:C EvC}{n:C aG}{o:C aK}{q:EvC->C Sn}{r:aG->C H}{t:aK->C H}
  (w:sj a es i j b d f g) (s:je X m (iA 120 a es i j b d f g) E n o q r t):sj (iA 120 a es i j b d f g).four.nl E n o b q r t:=by
 obtain⟨S,T,Z,A,F,P,Q,R⟩:=w;have l1:E.length=min 120 es.length:=by have:=bJ V s.be;simpa[iA] using this
 have l2:n.length=i.length:=by have:=bJ V s.bd;simpa[iA] using this
 have l3:o.length=j.length:=by have:=bJ V s.bm;simpa[iA] using this
 refine⟨by omega,by omega,by omega,A,λu v=>?_,λx k=>?_,λx k=>?_,λx k=>?_⟩
 .show(if u<4 then a u else []).length<=_
  rw[av v];exact F u v
 .have:q x∈(iA 120 a es i j b d f g).SE:=by rw[<-s.se];exact jS k
  obtain⟨y,l,e⟩:=bS.1 this;rw[<-e];exact P y (vT l)
 .have:r x∈(iA 120 a es i j b d f g).SD:=by rw[<-s.sd];exact jS k
  obtain⟨y,l,e⟩:=bS.1 this;rw[<-e];exact Q y l
 .have:t x∈(iA 120 a es i j b d f g).SM:=by rw[<-s.sm];exact jS k
  obtain⟨y,l,e⟩:=bS.1 this;rw[<-e];exact R y l
theorem CF {E:C EvC}(l:E.length<=120):rZ E=false:=by
 cases f:rZ E
 .rfl
 .exfalso
  unfold rZ at f;obtain⟨e,j,b⟩:=List.any_eq_true.1 f;obtain⟨i,a⟩:=pO.1 j;rw[qL] at a
  cases d:E[i]? with
  |none=>rw[d] at a;cases a
  |some x=>
   rw[d] at a;injection a with a;simp only[aM,oJ,aV] at b;have k:x.kind=2:=by rw[<-(Al (E.take i) x).1,a];exact b.1
   have g:=b.2;rw[<-a,pK k] at g;simp only at g;have m:=TS x E i;have n:=(bK.1 d).1;omega
theorem Fj:∀(a:C (H × H))(es:C EvC),l7 a (es.map EvC.base)=l7 a es
 |_,[]=>rfl
 |a,e::es=>by
  show(!sG a e.base && l7 (jc a e.base) (es.map EvC.base))=_;rw[show jc a e.base=jc a e from rfl,Fj]
  rfl
theorem je.bulk {b:EvC->C Sn}{d:aG->C H}{e:aK->C H}(o:je X m c es i j b d e)(z:DJ c):sj c.nl es i j c.Q b d e:=
 ⟨by have:=z.e;rw[<-o.be,bg] at this;exact this,by have:=z.d;rw[<-o.bd,bg] at this;exact this,by have:=z.m;rw[<-o.bm,bg] at this;exact this,z.q,z.n,λx a=>z.se _ (by rw[<-o.se];exact jS a),λx a=>z.sd _ (by rw[<-o.sd];exact jS a),λx a=>z.sm _ (by rw[<-o.sm];exact jS a)⟩
theorem TT {a:EvC->C Sn}{b:aG->C H}{d:aK->C H}(o:je X m c es i j a b d):lU c c.num↔l7 [] es=L:=by
 rw[<-Fj,o.be,G6];exact⟨λm=>m.E.symm,λm=>⟨λ_ _=>rfl,m.symm,rfl,rfl,rfl,rfl,rfl,rfl⟩⟩
structure Bh (X:World)(p:Nat)(h:HC)(c:Cont)(es:C EvC)(ds:C aG)(ms:C aK)(scan:EvC->C Sn)(dn:aG->C H)(mn:aK->C H):Prop where
 x:Bx X p (aD h)
 s:je X h c es ds ms scan dn mn
section
variable {X Y:World}{p:Nat}{h:HC}{c:Cont}{es:C EvC}{ds:C aG}{ms:C aK}{scan:EvC->C Sn}{dn:aG->C H}{mn:aK->C H}
theorem Bh.below (b:Bh X p h c es ds ms scan dn mn)(a:Below X.1.size X Y):Bh Y p h c es ds ms scan dn mn:=⟨b.x.keep a,b.s.below a⟩
theorem Bh.alloc (b:Bh X p h c es ds ms scan dn mn)(o:Obj):Bh (X.alloc o) p h c es ds ms scan dn mn:=b.below (aA (J _ _) o)
theorem Bh.new (s:je X h c es ds ms scan dn mn):Bh (X.alloc (I (aD h) 28)) X.1.size h c es ds ms scan dn mn:=⟨Bx.new X _ _,s.below (aA (J _ _) _)⟩
end
theorem NN (h:HC)(nl:Nat->C Bs)(es:C EvC)(ds:C aG)(ms:C aK)(qs:C Wa)(ε:EvC->C Sn)(dn:aG->C H)(mn:aK->C H)(w:World)(hG:Ak w)
  (hn:∀i,i<4->Row w 1 encStr (h.nm i).a (h.nm i).n (h.nm i).c (nl i)) (hd:Deep w h es ds ms qs ε dn mn) (hB:sj nl es ds ms qs ε dn mn):
  Calls U 3 #[bC h] w (cO (.bool L) w):=by
 have HG:=G hG;have g:=G hG.1.1;have v0:Hid (∀W,Below w.1.size w W->Calls U 5 #[bC h] W (λe X=>∃(c:Cont)(h':HC)(es':C EvC)(ds':C aG)(ms':C aK)(vS:EvC->C Sn)(DF:aG->C H)(DI:aK->C H),
   e= .returned (bC h')/\je X h' c es' ds' ms' vS DF DI/\sj c.nl es' ds' ms' c.Q vS DF DI/\c.E.length<=120/\(∀i,4<=i->c.nl i=[])/\Below W.1.size W X)):=G (λW hW=>by
  refine(TU h nl es ds ms qs ε dn mn W (λi hi=>(hn i hi).below hW rfl) (hd.below hW rfl) hB).mono ?_;rintro e X ⟨h',es',ds',ms',vS,DF,DI,rfl,v1,v2,p1,p2,p3,p4,p5,p6,θ⟩;have hs:je X h' (iA 120 nl es ds ms qs ε dn mn) es' ds' ms' vS DF DI:=⟨v1,v2,p1,p2,p3,p4,p5,p6⟩;exact⟨(iA 120 nl es ds ms qs ε dn mn).four,h',es',ds',ms',vS,DF,DI,rfl,hs.four,NM hB hs,by simp only[Cont.four,iA,bg,fB];omega,λi hi=>au ah,θ⟩)
 have χ:=G (aA (J w.1.size w) (I (aD h) 28));have v3:=G (Bx.new w (aD h) 28);clear hG hn hd hB;go_enter Tryz.func3,Tryz.ntmps3;go_wp2_with fail;refine(NP _ (g.q.below χ.q)).mono ?_;rintro e w1 ⟨rfl,ψ⟩;have ω:=G (χ.q.bQ ψ);have ι:=v3.q.keep ψ;have d:=ι.1;have v6:=ι.2.1;have v7:=ι.2.2;clear ψ ι;go_wp2_with fail;clear d v6 v7;refine(v0.q _ ω.q).mono ?_;rintro e w2 ⟨c,m,n,t,u,v,x,y,rfl,κ,j4,μ,h4,θ⟩;have Q:=G (aA (ω.q.bQ θ) (I (aD m) 28));have q:=G (Bh.new κ);have v8:=G j4;have v9:=G (CF μ);have H4:=G h4;have k0:=G μ;have Γ:=λhc=>κ.sh h4 hc
 have j5:=G (λhc=>κ.num h4 hc (CF μ));clear κ j4 μ h4 θ
 cases r:jd m c.nl n t u c.Q v x y with
 |false=>
  have ζ:=G r;have HT:=G (Qu m c.nl n t u c.Q v x y _ (g.q.below Q.q).1 q.q.s.n q.q.s.d r);clear r Γ;go_wp2_with fail;refine HT.q.mono ?_;rintro e w3 ⟨rfl,A⟩;have k:=G (Q.q.bQ A);have j:=G (q.q.below A);have d:=j.q.x.1;clear A;go_wp2_with fail;clear d;have a:=oZ m c.nl n t u c.Q v x y w3 (g.q.below k.q).1 j.q.s.n j.q.s.d;rw[ζ.q] at a;refine a.mono ?_;rintro e w4 ⟨rfl,o⟩;have E:=G (k.q.bQ o);rw[show rP false=210 from rfl];clear o a;go_wp2_with fail;go_ret;exact⟨rfl,E.q⟩
 |true=>
  obtain⟨n1,n2,n3,n4,n5,n6⟩:=j5.q r;have R:=Ao m c.nl n t u c.Q v x y _ (g.q.below Q.q) q.q.s.n q.q.s.d r (by rw[q.q.s.lines];exact xu (Γ r).1);rw[q.q.s.lines] at R;have HT:=G R;have ζ:=G r;clear Γ R r j5;have f:=G (⟨n1,n2,n3,n4,n5,n6⟩:_/\_/\_/\_/\_/\_);clear n1 n2 n3 n4 n5 n6;go_wp2_with fail;refine HT.q.mono ?_;rintro e w3 ⟨l,A⟩;have k:=G (Q.q.bQ A);have j:=G (q.q.below A);have d:=j.q.x.1;clear A;unfold jf at l;by_cases F:((dL c).flatMap lC).length<=131072
  case neg=>
   rw[au F] at l;obtain rfl:=l;clear F;go_wp2_with fail;clear d;have a:=oZ m c.nl n t u c.Q v x y w3 (g.q.below k.q).1 j.q.s.n j.q.s.d;rw[ζ.q] at a;refine a.mono ?_;rintro e w4 ⟨rfl,o⟩;have E:=G (k.q.bQ o);rw[show rP L=0 from rfl];clear o a;go_wp2_with fail;go_ret;exact⟨rfl,E.q⟩
  case pos=>
   rw[av F] at l;have k1:∃r2 z2,mq ((dL c).flatMap lC)= .ok r2/\qK eZ 0 (r2.map Prod.fst)= .ok z2/\lU (eG z2) c.num:=by
    have:=TR f.q.2.2.1 f.q.1 f.q.2.1 f.q.2.2.2.1 f.q.2.2.2.2.1 (by rw[f.q.2.2.2.2.2];exact F)
    rwa[f.q.2.2.2.2.2] at this
   obtain⟨r2,z2,Δ,j6,j7⟩:=k1;generalize R:(dL c).flatMap lC=T at l F Δ;obtain rfl:=l;have k2:=G R;have k3:=G F;have k4:=G Δ;have Θ:=G j6;have j8:=G j7;clear R F Δ j6 j7;go_wp2_with fail;clear d;have a:=DK m c.nl n t u c.Q v x y w3 (g.q.below k.q).1 j.q.s.n j.q.s.d v8.q ζ.q;rw[j.q.s.cont] at a;refine a.mono ?_;intro e w4 Ξ;unfold Ey at Ξ;rw[v9.q,au aj] at Ξ;obtain⟨S,ν,Φ,Ψ,Ω,q0,q1,rfl,j9,o, -⟩:=Ξ;have E:=G (aA (k.q.bQ o) (I (aD S) 28));have k5:=G ((j.q.below o).alloc (I (aD S) 28));have k6:=G (Bh.new j9);clear a j9 o;go_wp2_with fail;refine(JD T _ (HG.q.below E.q)).mono ?_;rintro e w5 ⟨ξ,ο⟩;unfold xq at ο;rw[k4.q] at ο;simp only[Θ.q] at ο;obtain⟨h6,x8,x9,b0,b1,b2,b3,rfl,q2⟩:=ο;have z0:=G (aA (E.q.bQ ξ) (I (aD h6) 28));have k7:=G ((k5.q.below ξ).alloc (I (aD h6) 28));have q3:=G ((k6.q.below ξ).alloc (I (aD h6) 28));have q4:=G (Bh.new (q2.says (Vp Θ.q)));have k8:=G (q2.below (aA (J _ _) (I (aD h6) 28)));clear ξ q2;have d:=q3.q.x.1;have q5:=q4.q.x.1;have b4:=gN T;go_wp2_with fail;refine(Ap q4.q.s q3.q.s).mono ?_;rintro e w6 ⟨b,rfl,s,Z⟩;obtain rfl:=s.2 j8.q;have q6:=G (z0.q.bQ Z);have k9:=G (k7.q.below Z);have P:=G (q3.q.below Z);have y0:=G (q4.q.below Z);have y1:=G (k8.q.below Z);clear d q5 s Z;have d:=P.q.x.1;go_wp2_with fail;clear d;have hz:=f.q.1.BZ f.q.2.2.2.2.1;have a:=P.q.s.check f.q.1 f.q.2.2.1 f.q.2.2.2.2.1;have z1:=G a;have a:=DK S c.num.nl ν Φ Ψ c.num.Q Ω q0 q1 w6 (g.q.below q6.q).1 P.q.s.n P.q.s.d (P.q.s.bulk hz) a;rw[P.q.s.cont] at a;refine a.mono ?_;intro e w7 q7;unfold Ey at q7;rw[show rZ c.num.E=false from CF (by show(iN c.E c.E.length).length<=120;rw[jb _ (aB _)];exact k0.q),au aj,TQ] at q7;obtain⟨h7,b5,b6,b7,b8,b9,f0,rfl,z3,α, -⟩:=q7;have z4:=G (aA (q6.q.bQ α) (I (aD h7) 28));have y2:=G ((k9.q.below α).alloc (I (aD h7) 28));have q8:=G ((P.q.below α).alloc (I (aD h7) 28));have y3:=G ((y0.q.below α).alloc (I (aD h7) 28));have y4:=G ((y1.q.below α).below (aA (J _ _) (I (aD h7) 28)));have z5:=G (Bh.new z3);clear a z3 α hz;have d:=q8.q.x.1;have q5:=z5.q.x.1;go_wp2_with fail;refine(Ap z5.q.s q8.q.s).mono ?_;rintro e w8 ⟨b,rfl,s,β⟩;obtain rfl:=s.2 (lU.rfl' _);have q9:=G (z4.q.bQ β);have y5:=G (y2.q.below β);have η:=G (q8.q.below β);have y6:=G (y3.q.below β);have y7:=G (y4.q.below β);clear d q5 s β;have d:=η.q.x.1;go_wp2_with fail;clear d;have a:=rO S c.num.nl ν Φ Ψ c.num.Q Ω q0 q1 w8 (g.q.below q9.q).1 η.q.s.n η.q.s.d;rw[z1.q,qZ,Ew f.q.2.2.2.1 c.num.E [] [] ν rfl η.q.s.be (λ_ _=>rfl)] at a;refine a.mono ?_;rintro e w9 ⟨rfl,γ⟩;have j0:=G (q9.q.bQ γ);have y8:=G (y5.q.below γ);have π:=G (η.q.below γ);have y9:=G (y6.q.below γ);have x0:=G (y7.q.below γ);clear γ a;have d:=π.q.x.1;go_wp2_with fail;clear d;have a:=oZ S c.num.nl ν Φ Ψ c.num.Q Ω q0 q1 w9 (g.q.below j0.q).1 π.q.s.n π.q.s.d;rw[z1.q] at a;refine a.mono ?_;rintro e wa ⟨rfl,δ⟩;rw[show rP L=0 from rfl];have j1:=G (j0.q.bQ δ);have x1:=G (y8.q.below δ);have x2:=G (π.q.below δ);have x3:=G (y9.q.below δ);have x4:=G (x0.q.below δ);clear δ a;have d:=x3.q.x.1;go_wp2_with fail;clear d;refine(x4.q.text Θ.q (g.q.below j1.q)).mono ?_;rintro e wb ⟨l,ρ⟩;unfold jf at l;rw[LB j8.q,f.q.2.2.2.2.2,k2.q,av k3.q] at l;obtain rfl:=l;have j2:=G (j1.q.bQ ρ);have σ:=G (x1.q.below ρ);have z6:=G (x2.q.below ρ);clear ρ;go_wp2_with fail;refine aC 99 [(0,0),(1,0),(2,0),(3,0),(4,0),(5,0),(6,0),(7,0),(8,0),(10,0),(11,0),(9,2),(12,2),(13,0),(14,0),(15,0)] (λ_=>True) (λW'=>Bx W' w2.1.size (aD m)/\Bx W' w4.1.size (aD S)) ay ay (trivial) (⟨σ.q.x.drew,z6.q.x.drew⟩) ?_;refine qC ?_;refine aF rfl rfl (λK hK=>?_);go_simp;have a:=rO m c.nl n t u c.Q v x y wb.drew (g.q.below j2.q.drew).1 (σ.q.below (J _ _).drew).s.n (σ.q.below (J _ _).drew).s.d;rw[ζ.q,qZ] at a;refine a.mono ?_;rintro e wc ⟨rfl,z7⟩;have τ:Below wb.1.size wb wc:=(J _ _).drew.trans z7;have z8:=G (j2.q.bQ τ);have υ:=G (σ.q.below τ);have j3:=G (z6.q.below τ);refine hK _ _ ⟨trivial,υ.q.x,j3.q.x⟩ ?_;clear hK K z7 τ a;refine qC ?_;refine aF rfl rfl (λK hK=>?_);go_simp;refine(Ap υ.q.s j3.q.s).mono ?_;rintro e wd ⟨b,rfl,s,φ⟩;have z9:l7 [] n=b:=by
    rw[TT υ.q.s] at s
    cases b <;> cases h:l7 [] n <;> simp_all
   rw[z9];have x5:=G (z8.q.bQ φ);have x6:=G (υ.q.below φ);have x7:=G (j3.q.below φ);refine hK _ _ ⟨trivial,x6.q.x,x7.q.x⟩ ?_;clear hK K s z9 φ;refine qC ?_;refine aO ?_;go_wp2_with fail;go_ret;exact⟨rfl,x5.q⟩
end Yd
