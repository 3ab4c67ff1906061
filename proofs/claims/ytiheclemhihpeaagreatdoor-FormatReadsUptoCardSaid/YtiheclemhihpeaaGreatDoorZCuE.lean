import Derived.Test.YtiheclemhihpeaaGreatDoorZRST
import Derived.Test.YtiheclemhihpeaaGreatDoorZCut13
import Derived.Test.YtiheclemhihpeaaGreatDoorZCu10
set_option linter.all false
set_option maxRecDepth 200000
set_option maxHeartbeats 8000000
namespace Yd
open Go Go.RowKit Go.Proofs
open Go.IntKind renaming i64->H
open Go.Value renaming int->G,pointer->I,string->M
open _root_ renaming Int->C,Nat->L
def jO (s:Bs):L->L->Except (C × C) (List (aK × C))
 |0,_=> .ok []
 |n+1,a=>
  if a<s.length then
   (if(bN s a).2.2=0 then
    (match jO s n (bN s a).2.1.toNat with
     | .ok r=> .ok (((bN s a).1,(a:C))::r)
     | .error x=> .error x)
   else .error ((bN s a).2.1,(bN s a).2.2))
  else .ok []
theorem wZ {s:Bs}{p:L}(c:p<s.length)(h:(bN s (p:C)).2.2=0):∃q:L,(bN s (p:C)).2.1=(q:C)/\p<q/\q<=s.length:=by
 have a:=QT (s.drop p);unfold bN at h ⊢;rw[ay ah,gF] at h ⊢
 cases b:sj (s.drop p) with
 |error x=>rw[b] at h a;exact absurd h a
 |ok x=>
  rw[b] at a;refine⟨s.length - x.2.length,rfl,?_,by omega⟩;simp only[dY] at a;rcases a with a|a
  .omega
  .rw[a];simpa using c
structure uH where
 fr:C
 to:C
 ln:aK
 er:C
def iH (s:Bs):L->L->List uH
 |0,_=>[]
 |n+1,p=>if p<s.length then⟨(p:C),(bN s (p:C)).2.1,(bN s (p:C)).1,(bN s (p:C)).2.2⟩::(if(bN s (p:C)).2.2=0 then iH s n (bN s (p:C)).2.1.toNat else []) else []
theorem qI (s:Bs):∀(n p:L),s.length<n+p->
  ((∀x∈iH s n p,x.er=0)/\jO s n p= .ok ((iH s n p).map (λx=>(x.ln,x.fr))))\/
  (∃j x,iH s n p=j++[x]/\(∀y∈j,y.er=0)/\x.er≠0/\jO s n p= .error (x.to,x.er))
 |0,p,h=> .inl ⟨λx e=>(by cases e),rfl⟩
 |n+1,p,h=>by
  by_cases f:p<s.length
  .by_cases g:(bN s (p:C)).2.2=0
   .obtain⟨q,l,o,t⟩:=wZ f g
    have k:iH s (n+1) p=⟨(p:C),(bN s (p:C)).2.1,(bN s (p:C)).1,(bN s (p:C)).2.2⟩::iH s n q:=by
     show(if p<s.length then _ else _)=_;rw[aA f,aA g,l,gF]
    have m:jO s (n+1) p=match jO s n q with| .ok r=> .ok (((bN s (p:C)).1,(p:C))::r)| .error x=> .error x:=by
     show(if p<s.length then _ else _)=_;rw[aA f,aA g,l,gF]
     all_goals (cases jO s n q <;> rfl)
    rcases qI s n q ah with⟨a,b⟩|⟨j,x,a,b,c,d⟩
    .refine .inl ⟨λx e=>?_,?_⟩
     .rw[k] at e
      rcases dP.1 e with rfl|e
      .exact g
      .exact a x e
     .rw[m,b,k];rfl
    .refine .inr ⟨⟨(p:C),(bN s (p:C)).2.1,(bN s (p:C)).1,(bN s (p:C)).2.2⟩::j,x,by rw[k,a];rfl,λy i=>?_,c,by rw[m,d]⟩
     rcases dP.1 i with rfl|i
     .exact g
     .exact b y i
   .refine .inr ⟨[],⟨(p:C),(bN s (p:C)).2.1,(bN s (p:C)).1,(bN s (p:C)).2.2⟩,?_,λy i=>(by cases i),g,?_⟩
    .show(if p<s.length then _ else _)=_
     rw[aA f,ay g];rfl
    .show(if p<s.length then _ else _)=_
     rw[aA f,ay g]
  .refine .inl ⟨λx e=>?_,?_⟩
   .unfold iH at e
    rw[ay f] at e;cases e
   .unfold iH jO
    rw[ay f,ay f];rfl
theorem Ju {s:Bs}{n p:L}(a:p<s.length):iH s (n+1) p=⟨(p:C),(bN s (p:C)).2.1,(bN s (p:C)).1,(bN s (p:C)).2.2⟩::(if(bN s (p:C)).2.2=0 then iH s n (bN s (p:C)).2.1.toNat else []):=by
 show(if p<s.length then _ else _)=_;rw[aA a]
theorem D9 (s:Bs):∀(n p:L)(x:uH),x∈iH s n p->x.ln.names.length<=1000/\x.ln.aM.length<=1000
 |0,_,x,h=>by cases h
 |n+1,p,x,h=>by
  unfold iH at h
  split at h
  .rcases dP.1 h with rfl|h
   .exact Jv s _
   .split at h
    .exact D9 s n _ x h
    .cases h
  .cases h
attribute [local go_sem] Oper.semAt_some
def yR (w:World):Prop:=mF w/\uQ w
theorem yR.below {w w':World}(h:yR w)(a:Below w.1.size w w'):yR w':=⟨h.1.below a,h.2.below a⟩
theorem Ld (s:ByteArray)(w:World):Calls Tryz.prog 15 #[.string s] w λe w'=>e= .returned (.func (.func 22) #[] #[I (some ⟨w.1.size,0,none⟩)])/\w'=w.alloc (.cells #[.string s] 9):=by
 go_enter Tryz.func15,Tryz.ntmps15;go_wp2_with fail;go_ret;exact⟨rfl,rfl⟩
def PV (B:L)(x:uH)(args:Array Value)(X:World):Prop:=
 ∃a b l,B<=a/\a<b/\args=#[.agg #[G H x.fr,G H x.to],.func (.func 24) #[] #[I (some ⟨a,0,none⟩),I (some ⟨b,0,none⟩)]]/\Bx X a (bJ l)/\Bx X b #[G H x.er]/\dZ X B l x.ln/\∃c d,X.1[b]?=some (.cells c 27 d)
def NS (B:L)(x:uH)(args:Array Value)(X:World):Prop:=
 ∃b a,B<=a/\args=#[.agg #[G H x.fr,G H x.to],.func (.func 24) #[] #[I (some ⟨b,0,none⟩),I (some ⟨a,0,none⟩)]]/\Bx X a #[G H x.er]
theorem QU (b c:L)(l:aW)(a:C)(w:World)(d:Bx w b (bJ l))(e:Bx w c #[G H a]):
  Calls Tryz.prog 24 #[I (some ⟨b,0,none⟩),I (some ⟨c,0,none⟩)] w (nE (dH l) (G H a) w):=by
 obtain⟨f,g,i,j,k,m,n,o,p,q⟩:=l;have y:=d.2.2;have z:=e.2.2;have r:=hid d;have s:=hid e;clear d e;go_enter Tryz.func24,Tryz.ntmps24;go_wp2_with fail;refine aD 3 [(0,0),(1,0),(2,2),(3,1)] (λ_=>True) (λt=>Bx t b #[G H f,.slice g i j,G H k,.slice m n o,.bool p,G H q]/\Bx t c #[G H a]) au au (trivial) (⟨(r.q.alloc _).drew,(s.q.alloc _).drew⟩) ?_;refine qC ?_;refine aG rfl rfl (λK u=>?_);go_simp;refine u _ _ ⟨trivial,(r.q.alloc _).drew,(s.q.alloc _).drew⟩ ?_;clear u K;refine qC ?_;refine aH ?_;have x:=(Bx.new w #[G H f,.slice g i j,G H k,.slice m n o,.bool p,G H q] 34).drew.1;go_wp2_with fail;refine bodyPost_ret (v:= .tuple #[dH ⟨f,g,i,j,k,m,n,o,p,q⟩,G H a]) (by simp[results,Tryz.results24,go_sem,x]) rfl ⟨rfl,(aB (Below.refl _ _) _).drew⟩
theorem TP:∀args w,(callFunc 22 args).run Tryz.prog w= .ok (.enter 22 args) w:=enters_of Tryz.func22 au rfl
theorem GI (s:Bs)(τ:s.length<=1000000)(g:L)(D:L->Prop)(W:World)(hs:Bx W g #[M ⟨s.toArray⟩])(α:D g):
  Cc Tryz.prog 22 #[I (some ⟨g,0,none⟩)] (PV W.1.size) 0 D yR (NS W.1.size) (iH s (s.length+1) 0) W:=by
 intro n l J Jx hJ q2 υ q3 hY j;refine callsIn_of_wp Tryz.func22 rfl trivial ?_ rfl;simp only[Tryz.ntmps22,uR,iC,nk,Nat.reduceAdd,Nat.reduceSub,vF,vG,sD,sF,pO,jl];have hz:=dW s
 gi_wp2
 gi_loopw [3] (λi wr=>∃(p k:L)(m:List uH),i= G H p/\m++iH s k p=iH s (s.length+1) 0/\J m wr/\Bx wr g #[M ⟨s.toArray⟩]/\W.1.size<=wr.1.size/\s.length<k+p/\p<=s.length) (λi _=>s.length - (RowKit.intOf i).toNat)
 case atStart=>exact⟨0,s.length+1,[],rfl,rfl,j,hs,aC _,by omega,aS _⟩
 case round=>
  obtain⟨p,k,m,rfl,v,w,Q,φ,q4,q5⟩:=hrel;have hc:=Q.1;by_cases R:p<s.length
  .obtain⟨f,rfl⟩:∃f,k=f+1:=⟨k - 1,by omega⟩
   have z:=υ _ _ w;have S:=hid (Le s (p:C) τ wr z.1.1.1 z.2 z.1);obtain⟨x,A⟩:∃x,x=bN s (p:C):=⟨_,rfl⟩;have T:=Ju (n:=f) R;rw[<-A] at T;rw[T] at v;have β:x.2.2=0->∃q:L,x.2.1=(q:C)/\p<q/\q<=s.length:=by rw[A];exact wZ R
   rw[<-A] at S;obtain⟨B,o,c⟩:=x;have r:=hid v;have Y:=hid w;have χ:=hid Q;have ψ:=hid β;have E:=hid φ;have ω:(p:C)<(s.length:C):=by omega
   clear v w Q T A β z
   gi_wp2
   refine⟨trivial,λh=>(by cases h),?_⟩;refine(callsIn_wide.2 S.q).mono ?_;rintro e b ⟨t,rfl,γ,δ⟩;have Γ:=hid γ;have F:=hid δ;clear γ δ S;obtain⟨X,d⟩:∃X,X=(b.alloc (.cells (bJ t) 34)).alloc (.cells #[G H c] 27):=⟨_,rfl⟩;have Z:Below wr.1.size wr X:=by rw[d];exact(F.q.alloc F.q.size _).alloc (by have:=F.q.size;simp;omega) _
   have Δ:X.1.size=b.1.size+2:=by rw[d];simp
   have ε:Bx X b.1.size (bJ t):=by rw[d];exact(Bx.new b _ _).alloc _
   have ζ:Bx X (b.1.size+1) #[G H c]:=by
    rw[d];have:=Bx.new (b.alloc (.cells (bJ t) 34)) #[G H c] 27;rw[World.size_alloc] at this;exact this
   have η:dZ X W.1.size t B:=by rw[d];exact((Γ.q.below (((Below.refl b.1.size b).alloc (aC _) _).alloc ak _)).mono E.q)
   have Θ:∃cs fz,X.1[b.1.size+1]?=some (.cells cs 27 fz):=by
    rw[d];have:=World.alloc_heap_new (b.alloc (.cells (bJ t) 34)) (.cells #[G H c] 27);rw[World.size_alloc] at this;exact⟨_,_,this⟩
   have θ:J m X:=hJ _ _ _ Y.q (Same.of_below Z (λi _ hl=>hl));have Ξ:=F.q.size;obtain⟨fn,q6,q7,q8,hy,K⟩:=hY m ⟨(p:C),o,B,c⟩ #[.agg #[G H (p:C),G H o],.func (.func 24) #[] #[I (some ⟨b.1.size,0,none⟩),I (some ⟨b.1.size+1,0,none⟩)]] X θ
    ⟨_,by rw[<-r.q];simp;rfl⟩ ⟨b.1.size,b.1.size+1,t,by have:=E.q;omega,by omega,rfl,ε,ζ,η,Θ⟩ (by have:=E.q;omega) (n - 1)
   have HX:=hid d;have y:Hid (Bx X g #[M ⟨s.toArray⟩]):=hid (χ.q.keep Z);have Φ:Hid (W.1.size<=X.1.size):=hid (by have:=E.q;omega);rw[d] at hy K;clear d Z Δ ε ζ η θ Ξ
   gi_wp2
   refine⟨λh=>(by cases h),?_⟩;refine K.mono ?_;rintro e W' (⟨rfl,ι,u,Ψ⟩|⟨rfl,Ω,_⟩)
   .clear K hy
    obtain⟨q9,j0,_,κ,μ⟩:=Ψ;simp at κ;obtain⟨rfl,rfl⟩:=κ;rw[<-HX.q] at u;have ν:Bx W' g #[M ⟨s.toArray⟩]:=⟨λi=>(World.cell?_of_block (a:=⟨g,i,none⟩) (u.2 _ α y.q.2.2)).trans (y.q.1 i),λi=>(World.frozen?_of_block (a:=⟨g,i,none⟩) (u.2 _ α y.q.2.2)).trans (y.q.2.1 i),kS y.q.2.2 u.1⟩;have q0:=hid ν;have ξ:=hid ι;have q1:Hid (W.1.size<=W'.1.size):=hid (cO Φ.q u.1);have j1:=μ.1;clear u ν ι μ;by_cases j:c=0
    .subst j
     obtain⟨q,hq,ο,π⟩:=ψ.q rfl;have HQ:=hid hq;have ρ:=hid ο;have σ:=hid π;clear hq ο π
     gi_wp2
     go_roundw
     case rel=>
      have P:o=(q:C):=HQ.q;refine⟨q,f,m++[⟨(p:C),o,B,0⟩],by rw[P],?_,ξ.q,q0.q,q1.q,by have:=ρ.q;omega,σ.q⟩;have:=r.q;simp only[dG] at this;simp only[P,gF] at this ⊢;rw[<-this];simp
     case measure=>
      have P:o=(q:C):=HQ.q;rw[P];have:=ρ.q;have:=σ.q;simp only[RowKit.intOf,gF];omega
    .have j2:(c==0)=false:=aN.2 j
     have j3:(c !=0)=true:=by simp[j]
     have H0:=hid j;clear j
     gi_wp2
     refine bodyPost_ret (results_none rfl _ _ _) rfl ?_;have:=r.q;rw[ay H0.q] at this;exact⟨_,rfl,.inl (by rw[<-this];exact ξ.q)⟩
   .clear K hy
    gi_wp2
    refine bodyPost_ret (results_none rfl _ _ _) rfl ?_;exact⟨_,rfl,.inr ⟨m++[⟨(p:C),o,B,c⟩],⟨_,by rw[<-r.q];simp;rfl⟩,Ω⟩⟩
  .have ω:¬(p:C)<(s.length:C):=by omega
   have r:=hid v;have Y:=hid w;clear v w
   gi_wp2
   go_end0
   refine⟨⟨_,rfl⟩,.inl ?_⟩;have h1:iH s k p=[]:=by
    cases k with
    |zero=>rfl
    |succ f=>unfold iH;rw[ay R]
   have h2:=r.q;rw[h1,eG] at h2;rw[<-h2];exact Y.q
end Yd
namespace Yd
open Go Go.RowKit Go.Proofs Tryz
theorem TQ (F:Int->List Int)(v:je):(jc F v).k=v.k:=by
 unfold jc
 split
 .rfl
 .rfl
theorem Wm (F:Int->List Int){e:EvC}(h:e.kind=2):(fJ F e).v.k=e.v.k:=by
 unfold fJ;simp only[h,true_or,dG];exact TQ _ _
theorem AY {c:Cont}(h:gX c)(a:aR c):aR (fG c):=by
 refine⟨λi g=>?_,?_,?_,?_,?_,λe j k=>?_⟩
 .show((bZ (bE c) (i:Int)).map (aU (c.nl i))).length<=iF i
  rw[bC];refine cO (Cu (zG _ _) (λx b=>?_)) (a.1 i g);obtain⟨l,n,m,d⟩:=qJ h _ (Av _ b);simp only at m d;have:i=l:=by omega
  rw[this];exact d
 .show(c.E.map _).length<=3000;rw[bC];exact a.2.1
 .show(c.D.map _).length<=3000;rw[bC];exact a.2.2.1
 .show(c.M.map _).length<=3000;rw[bC];exact a.2.2.2.1
 .show(c.Q.map _).length<=3000;rw[bC];exact a.2.2.2.2.1
 .obtain⟨x,b,rfl⟩:=eZ.1 (show e∈c.E.map (fJ (bZ (bE c))) from j)
  have f:x.kind=2:=k;rw[Wm _ f];exact a.2.2.2.2.2 x b f
theorem TR {b:List aK}{z:Cont}(h:qD iD 0 b= .ok z):uI (fG z):=by
 obtain⟨a,_,_,c,_⟩:=Lf h;exact(gX.number a).Ea (AY a c)
def Bl (s l:Bs)(a b:Int):Prop:=
 ((dI l).head?=none/\a=(s.length:Int)/\b=0)\/((dI l).head?=some 10/\a=((s.length - (dI l).length+1:Nat):Int)/\b=0)\/((dI l).head?≠none/\(dI l).head?≠some 10/\a=((s.length - (dI l).length:Nat):Int)/\b≠0)
def Wn (s l:Bs)(w:World)(e:Ending)(w':World):Prop:=
 ∃(k a:Int)(d:Bs)(g:Bool)(b c:Int),e= .returned (.tuple #[.agg (aF k a d g),.int .i64 b,.int .i64 c])/\Below w.1.size w w'/\Bl s l b c
theorem NT (l:Bs):l.drop (l.length - (dI l).length)=dI l:=by
 unfold dI;by_cases h:l.head?=some 35
 .rw[aA h,dY]
  rcases jk (gB ⟨l.toArray⟩ nI) l.length with h|h
  .rw[show l.length - (l.length - gB ⟨l.toArray⟩ nI)=gB ⟨l.toArray⟩ nI by omega]
  .rw[sG h,sG ah]
 .rw[ay h,Nat.sub_self];rfl
theorem BR (s:Bs)(p:Nat)(l:Bs)(k:s.drop p=l)(hp:p<=s.length)(ε:s.length<=1000000)(P:dO l=true)(w:World):
  Calls Tryz.prog 32 #[.string ⟨s.toArray⟩,.int .i64 (p:Int)] w (Wn s l w):=by
 have hz:=dW s;have ν:p<=1000000:=by omega
 have ζ:p+l.length=s.length:=by rw[<-k,dY];omega
 have η:(dI l).length<=l.length:=by unfold dI;split <;> simp
 have y:=Jw s p l k hp ε P;have Q:=NT l;obtain⟨q,A⟩:∃q:Nat,q=p+(wK l).1:=⟨_,rfl⟩;rw[<-A] at y;have S:q=s.length - (dI l).length:=by rw[A];show p+(l.length - (dI l).length)=_;omega
 have B:s.drop q=dI l:=by rw[<-Q,<-k,mD,k];congr 1
 have i:(wK l).2=((dI l).head?==none||(dI l).head?==some 10):=rfl;have f:q+(dI l).length=s.length:=by omega
 have ξ:q<=1000000:=by omega
 have T:q<=s.length:=by omega
 have θ:p<=q:=by omega
 obtain⟨R,E⟩:∃R,R=dI l:=⟨_,rfl⟩;rw[<-E] at B i f S;obtain⟨F,Y⟩:∃o,o=(wK l).2:=⟨_,rfl⟩;rw[<-Y] at y i;have ι:=hid y;obtain⟨j,κ⟩:∃j:Nat,j=q+1:=⟨_,rfl⟩;have ο:(q:Int)+1=(j:Int):=by omega
 have π:j<=2000000:=by omega
 have HE:Hid ((F=true/\(q==s.length)=true/\Bl s l q 0)\/(F=true/\(q==s.length)=false/\(∀W,Calls Tryz.prog 52 #[.string ⟨R.toArray⟩] W λe w'=>e= .returned (.tuple #[.int .i32 10,.int .i64 1])/\Below W.1.size W w')/\Bl s l j 0)\/(F=false/\Bl s l q 120)):=hid (by
  unfold Bl;rw[<-E];rcases R with _|⟨x,t⟩
  .exact .inl ⟨i,by simp at f;simp;omega,.inl ⟨rfl,by simp at f;omega,rfl⟩⟩
  .by_cases K:x=10
   .subst K
    refine .inr (.inl ⟨i,aN.2 (by simp at f;omega),λW=>?_,.inr (.inl ⟨rfl,by omega,rfl⟩)⟩);have:=vH s (10::t) W ak;have Z:=Cv (b:=10) t aj
    rwa[Z.1,Z.2] at this
   .exact .inr (.inr ⟨by rw[i];simp[K],.inr (.inr ⟨by simp,by simp[K],by omega,by decide⟩)⟩))
 obtain⟨r,ρ,σ⟩:∃r,((q:Int)==(p:Int))=r/\(q==p)=r:=⟨_,rfl,by rw[Bool.eq_iff_iff];simp;omega⟩;have α:((q:Int)==(s.length:Int))=(q==s.length):=by rw[Bool.eq_iff_iff];simp;omega
 obtain⟨b0,d,β,e9,γ,τ,υ,hi,φ,χ,h9,ψ,ω,Γ⟩:=glued s q T;obtain⟨g,hg⟩:∃g,g=(r && (d && (!β && (!e9 && !γ)))):=⟨_,rfl⟩;have a:=hid (λX (hx:Bx X w.1.size (aF 0 0 [] false)) (c:Below w.1.size w X)=>And.intro (hx.alloc (.cells (aF 0 q [] g) 79)) (aB c (.cells (aF 0 q [] g) 79)));have μ:=λW=>jg Tryz.underlying9 s q T W
 rw[B] at μ;clear A S Q E η P ζ k y i θ Y κ B f
 cases r
 case' true=>
  cases d
  case' true=>
   replace hi:=hi rfl
   cases β
   case' false=>
    cases e9
    case' false=>cases γ
 all_goals
  simp at hg;subst hg;go_enter Tryz.func32,Tryz.ntmps32;go_wp2_with fail;refine(ι.q _).mono ?_;rintro e w1 ⟨rfl,c⟩;have m:=hid ((aB (Below.refl w.1.size w) (.cells (aF 0 0 [] false) 79)).trans (c.mono ak));have z:=hid ((Bx.new w (aF 0 0 [] false) 79).keep c);clear c;rcases HE.q with⟨rfl,f,h⟩|⟨rfl,f,hF,h⟩|⟨rfl,h⟩
  .rw[f] at α
   have n:=hid h;clear h
   replace a:=hid (a.q _ z.q m.q)
   have u:=a.q.1.1;have δ:=a.q.1.2.1;go_wp2_with fail;exact bodyPost_ret (v:= .tuple #[.agg (aF 5 (q:Int) [] false),.int .i64 (q:Int),.int .i64 0]) (by simp[results,results32,go_sem,u]) rfl ⟨_,_,_,_,_,_,rfl,lY a.q.2,n.q⟩
  .rw[f] at α
   have n:=hid h;have HF:=hid hF;clear h hF;go_wp2_with fail;refine(HF.q _).mono ?_;rintro e w2 ⟨rfl,c⟩
   replace a:=a.q _ z.q m.q
   have m:=hid (a.2.trans (c.mono (by have:=a.2.size;simp at this ⊢;omega)));have u:=(a.1.keep c).1;have δ:=(a.1.keep c).2.1;clear a c;go_wp2_with fail;exact bodyPost_ret (v:= .tuple #[.agg (aF 4 (q:Int) [10] false),.int .i64 (j:Int),.int .i64 0]) (by simp[results,results32,go_sem,u]) rfl ⟨_,_,_,_,_,_,rfl,lY m.q,n.q⟩
  .have n:=hid h;clear h
   have u:=z.q.1;have δ:=z.q.2.1;go_wp2_with fail;exact bodyPost_ret (v:= .tuple #[.agg (aF 0 0 [] false),.int .i64 (q:Int),.int .i64 120]) (by simp[results,results32,go_sem,u]) rfl ⟨_,_,_,_,_,_,rfl,lY m.q,n.q⟩
end Yd
