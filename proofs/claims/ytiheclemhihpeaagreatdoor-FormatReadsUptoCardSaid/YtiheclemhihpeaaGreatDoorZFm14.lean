import Derived.Test.YtiheclemhihpeaaGreatDoorZF7
set_option linter.all false
set_option maxRecDepth 200000
set_option maxHeartbeats 8000000
namespace Yd
open Option renaming some->I,none->J
open Go Go.RowKit Go.Proofs Tryz
open Below renaming refl->M
open Go.IntKind renaming i64->D
open Go.Value renaming int->C,slice->L,string->N
open Yd renaming hid->G
open _root_ renaming trivial->H,List->O
theorem Kz {s:aK}(g:fo s)(m:s.kind=4):∃i j f,s.names=i::j::f/\s.aM.length=f.length/\f.length<=40:=by
 have k:∃c:Nat,s.names.length=c+2/\s.aM.length=c/\c<=40:=by
  rcases g.2.2 with h|h|h|h|h|h|h|h|h <;> (first|exact h.2.1|(exfalso;have:=h.1;omega))
 obtain⟨q,e,n,o⟩:=k
 match p:s.names,e with
 |[],e=>simp at e
 |[_],e=>simp at e
 |a::b::l,e=>exact⟨a,b,l,rfl,by simp at e;omega,by simp at e;omega⟩
theorem Row.Sm (w:World)(x:Sn):Row (w.alloc (.cells #[C D x.obj,C D x.v.t,C D x.v.k] 148)) 3 bI (I ⟨w.1.size,0,J⟩) 1 1 [x]:=
 (Own.new (hc:=lK) w w.1.size 148 (enc:=bI) #[C D x.obj,C D x.v.t,C D x.v.k] [x] (aC _) rfl (by simp[maxLen])).row (hc:=lK) ak
theorem gZ.all {B R:Nat}{cs:Array Value}{c:Cont}{E:O EvC}{j:O aO}{k:O aP}{X Y:World}(h:gZ B X R cs c E j k)(a:Same (λ_=>True) X Y):gZ B Y R cs c E j k:=
 h.nV (a.mono (λ_ _ _=>H)) ⟨a.bx h.s.t.b H,λb e=>(let⟨v,f,g⟩:=h.s.t.t b e;⟨v,f,g.same a (λ_ _=>H)⟩),h.s.t.n⟩ (λ_ _=>rfl)
theorem gZ.seen {B R:Nat}{cs:Array Value}{c:Cont}{E:O EvC}{j:O aO}{k:O aP}{X Y:World}{v:Value}{y:O Sn}(h:gZ B X R cs c E j k)(p:Own X (R+1) 148 3 bI v y)(A:∀x∈E,∀g,v.ownBlock=I g->x.val.ownBlock≠I g)(a:X.grownBy Y v.ownBlock):gZ B Y R cs c E j k:=by
 cases m:v.ownBlock with
 |none=>
  rw[m] at a;exact h.all ⟨a.os,a.tape,a.output,a.size,λi _ n=>a.block i n (λe=>by cases e)⟩
 |some g=>
  rw[m] at a;have b:Same (λi=>i≠g) X Y:=⟨a.os,a.tape,a.output,a.size,λi F n=>a.block i n (λe=>F (by injection e))⟩;have f:=p.tag m;have P:R≠g:=λe=>by have:=(p.lt g m).1;omega
  have s:=h.s;refine⟨⟨s.t.apart f aj P b,?_,?_,?_,?_,s.be,s.bd,s.bm,⟨s.se.1,λi x Q r S=>(s.se.2 i x Q r S).same b (λg' T e=>A x (bS r) g m (by rw[T,e]))⟩,s.sd.imp (λ_ _ o=>o.aJ f aj b),s.sm.imp (λ_ _ o=>o.aJ f aj b)⟩,?_,h.b⟩
  .obtain⟨u,u1,u2⟩:=s.e
   exact⟨u,u1,u2.aJ f aj b⟩
  .obtain⟨u,u1,u2⟩:=s.d
   exact⟨u,u1,u2.aJ f aj b⟩
  .obtain⟨u,u1,u2⟩:=s.m
   exact⟨u,u1,u2.aJ f aj b⟩
  .obtain⟨u,u1,u2⟩:=s.q
   exact⟨u,u1,u2.aJ f aj b⟩
  .obtain⟨Z,m1,t,m3⟩:=h.m
   refine⟨Z,m1,t.same b (λe=>?_),m3⟩;obtain⟨q,fz,hq⟩:=f;obtain⟨_,_,z⟩:=t.obj;rw[e,hq] at z
   cases z
theorem Sq {α β:Type}{l:O α}{m:O β}{i:Nat}{a:α}{b:β}(e:l[i]?=I a)(f:m[i]?=I b):(l.zip m)[i]?=I (a,b):=by rw[List.getElem?_zip_eq_some];exact⟨e,f⟩
section
variable {B K R kb:Nat}{w W W':World}{l:aW}{q c0 cs cs':Array Value}{c c' d:Cont}{es:O EvC}{ds:O aO}{ms:O aP}
theorem dS.seen (h:dS B K w W R l c0 cs c es ds ms)(k:uG W w R kb 50 q){v:Value}{y:O Sn}(b:Own W kb 148 3 bI v y)(a:W.grownBy W' v.ownBlock):dS B K w W' R l c0 cs c es ds ms/\uG W' w R kb 50 q:=by
 have j:v.ownBlock≠I kb:=λe=>by
  obtain⟨_,_,m⟩:=b.tag e;obtain⟨_,_,o⟩:=k.t;rw[o] at m;cases m
 have n:v.ownBlock≠I w.1.size:=λe=>by have:=(b.lt _ e).1;have:=k.n;omega
 exact⟨⟨h.r.seen (b.mono (by have:=k.n;omega)) (λx p g r e=>by have:=h.e x p g e;have:=(b.lt g r).1;have:=k.n;omega) a,h.f,h.l.grown a n,(let⟨u,f,e⟩:=h.t;⟨u,f,(a.block _ h.l.2.2 (λe=>n e.symm)).trans e⟩),
  h.s.tr ⟨a.os,a.tape,a.output,a.size,λi t s=>a.block i s (λe=>by have:=(b.lt i e.symm).1;have:=k.n;have:=h.n;have:=h.r.b;omega)⟩,h.g,h.a,h.n,h.o,h.e,h.d⟩,k.b.grown a j,(let⟨u,f,e⟩:=k.t;⟨u,f,(a.block kb k.b.2.2 (λe=>j e.symm)).trans e⟩),k.n⟩
end
section
variable {B K R:Nat}{cs:Array Value}{c:Cont}{es:O EvC}{ds:O aO}{ms:O aP}
theorem M9 (l:aW)(s:aK)(w:World)(h:gZ B w R cs c es ds ms)(hf:aR c)(hl:nQ w B l s)(t:s.kind=4)(β:fo s)(hG:jJ B K w)(τ:jX w K)(υ:R<K):
  Calls Tryz.prog 70 #[.pointer (I ⟨R,0,J⟩),dH l] w (fC B K R (aT c s) w):=by
 obtain⟨f,j,b,hn,ξ,φ⟩:=Kz β t;obtain⟨S,T,ha,χ,hN⟩:=hl.two K hn;obtain⟨k1,k2,k3,k4,k5,k6⟩:=hl.k;have HW:=G (⟨β.1 f (by rw[hn];simp),β.1 j (by rw[hn];simp)⟩:_/\_);have ψ:Hid (aT c s=(((c.put 0 f).put 3 j).sc (b.zip s.aM)).1.ev ⟨4,c.no 0 f,0,0,0,⟨0,0⟩,(c.put 0 f).no 3 j,J,0,0⟩ (((c.put 0 f).put 3 j).sc (b.zip s.aM)).2):=G (by unfold aT;simp only[t,hn];rfl);have γ:Hid ((aR (aT c s)->aR (c.put 0 f))/\(aR (aT c s)->aR ((c.put 0 f).put 3 j))/\(aR (aT c s)->aR (((c.put 0 f).put 3 j).sc (b.zip s.aM)).1)):=G (by rw[ψ.q];exact⟨λk=>((Gr.put _ 3 _).trans ((Gr.sc _ _).trans (Gr.ev _ _ _))).fits k,λk=>((Gr.sc _ _).trans (Gr.ev _ _ _)).fits k,λk=>(Gr.ev _ _ _).fits k⟩);have δ:∀k x,b[k]?=I x->(∀X,Same (λi=>i<B\/(K<=i/\i<K+3)) w X->X.cell? ⟨S,T+(2+k),J⟩=I (N ⟨x.toArray⟩))/\bW ⟨x.toArray⟩=true:=λk x hx=>by
  have ω:s.names[2+k]?=I x:=by rw[hn,show 2+k=k+1+1 by omega,List.getElem?_cons_succ,List.getElem?_cons_succ];exact hx
  obtain⟨_,_,e,_,hc⟩:=hl.name ω;rw[ha] at e;cases e;exact⟨λX hX=>hX.cell hc (.inl χ),β.1 x (bS ω)⟩
 have ο:∀k x,s.aM[k]?=I x->∃vb vo,l.va=I ⟨vb,vo,J⟩/\(∀X,Same (λi=>i<B\/(K<=i/\i<K+3)) w X->X.cell? ⟨vb,vo+k*2,J⟩=I (N ⟨x.name.toArray⟩)/\X.cell? ⟨vb,vo+k*2+1,J⟩=I (C D x.k))/\nW x:=λk x hx=>(let⟨vb,vo,y,A,h3,h4⟩:=hl.bF hx;⟨vb,vo,y,λX hX=>⟨hX.cell h3 (.inl A),hX.cell h4 (.inl A)⟩,β.2.1 x (bS hx)⟩)
 have Γ:l.vn=b.length:=by rw[hl.k.2.2.2.2.2,ξ]
 have a:=G (dS.start l h hf hG τ υ);have Q:=G hN;obtain⟨lk,la,ln,nc,ι,va,vn,vc,lf,κ⟩:=l;simp only at k1 k3 k4 k5 k6 ha ο Γ;rw[hn] at k5;obtain rfl:ln=b.length+2:=k5;rw[t] at k1;subst k1 ha;subst Γ;have q5:=G δ;have q6:=G ο;have q7:=G φ;have π:=G ξ;clear h hf hG hl β hN t hn τ υ χ k2 k3 k4 k6 δ ο φ ξ;go_enter func70,ntmps70;go_wp2_with fail;simp only[bJ] at a;revert a;generalize(w.alloc (.cells #[C D 4,L (I ⟨S,T,J⟩) (b.length+2) nc,C D ι,L va b.length vc,.bool lf,C D κ] 34))=V;intro a
 apply Bj (F:=λkb Z=>∃cs',dS B K w Z R ⟨4,I ⟨S,T,J⟩,(b.length+2),nc,ι,va,b.length,vc,lf,κ⟩ cs cs' ((c.put 0 f).put 3 j) es ds ms/\uG Z w R kb 50 #[C D 4,C D (c.no 0 f),C D 0,C D 0,C D 0,C D 0,C D 0,C D ((c.put 0 f).no 3 j),L J 0 0]) (RP:=λY w'=>fC B K R (aT c s) w (.panicked Y) w')
 case h=>
  have z8:(0:Int)<(b.length:Int)+2:=by omega
  have z9:(1:Int)<(b.length:Int)+2:=by omega
  have a:=G (a.q.below (M _ _).drew);refine pE 16 (.q 0 0 (.q 1 0 (.q 2 0 (.q 3 0 (.q 4 0 (.q 5 0 (.q 6 0 (.q 8 0 (.q 9 0 (.q 10 0 (.q 11 0 (.q 12 0 (.alt 7 (.alt 13 (.q 14 0 (.l 15 (.l 16 .nil))) 15 (.l 13 (.q 14 0 (.l 16 .nil)))) 15 (.l 7 (.l 13 (.q 14 0 (.l 16 .nil))))))))))))))))) (λ_=>True) (λW'=>Bx W' w.1.size (bJ ⟨4,I ⟨S,T,J⟩,(b.length+2),nc,ι,va,b.length,vc,lf,κ⟩)/\W'.cell? ⟨S,T,J⟩=I (N ⟨f.toArray⟩)/\W'.cell? ⟨S,T+1,J⟩=I (N ⟨j.toArray⟩)) (λY w'=>fC B K R (aT c s) w (.panicked Y) w') au au (λY a1 w1 hd o=>⟨hd,o⟩) H ⟨a.q.l,Q.q _ a.q.s⟩ ?_;obtain⟨X0,Δ⟩:∃X0:World,X0=V.drew:=⟨_,rfl⟩;rw[<-Δ] at a ⊢;clear Δ;refine qC ?_;refine⟨?_,?_⟩
  .refine dF rfl rfl (λK hK=>?_)
   go_simp;refine(a.q.num 0 ah f HW.q.1 γ.q.1).mono ?_;rintro e w1 (⟨rfl,o⟩|⟨rfl,Θ,n,hS⟩)
   .exact⟨rfl,o⟩
   have a:=G n;refine hK _ _ ⟨H,a.q.l,Q.q _ a.q.s⟩ ?_;clear hK K n hS;refine⟨?_,?_⟩
   .refine dF rfl rfl (λK hK=>?_)
    go_simp;refine(a.q.num 3 ah j HW.q.2 γ.q.2.1).mono ?_;rintro e w2 (⟨rfl,o⟩|⟨rfl,v1,n,hS⟩)
    .exact⟨rfl,o⟩
    have a:=G n;refine hK _ _ ⟨H,a.q.l,Q.q _ a.q.s⟩ ?_;clear hK K n hS;refine qL λK hK=>?_
    obtain⟨kb,u,t⟩:=a.q.BN 50 #[C D 0,C D 0,C D 0,C D 0,C D 0,C D 0,C D 0,C D 0,L J 0 0];have m:=G t;have a:=G (a.q.below (aB (M _ _) (.cells #[C D 0,C D 0,C D 0,C D 0,C D 0,C D 0,C D 0,C D 0,L J 0 0] 50)));refine hK _ _ ⟨H,a.q.l,Q.q _ a.q.s⟩ ?_;rw[<-u];clear hK K t u;have α:=m.q.b.1;have ζ:=m.q.b.2.1;have η:=m.q.b.2.2;refine qM λK hK=>?_
    refine hK _ _ H ?_;clear hK K α ζ η;refine eP ?_;obtain⟨y,A⟩:=dS.fill aj [(0,C D 4),(1,C D (c.no 0 f)),(2,C D 0),(3,C D 0),(4,C D 0),(5,C D 0),(6,C D 0),(7,C D ((c.put 0 f).no 3 j)),(8,L J 0 0)] a.q m.q ak;exact⟨rfl,_,⟨_,y,A⟩,rfl⟩
   .refine dF rfl rfl (λK hK=>?_)
    go_simp;obtain⟨kb,u,t⟩:=a.q.BN 50 #[C D 0,C D 0,C D 0,C D 0,C D 0,C D 0,C D 0,C D 0,L J 0 0];have m:=G t;have a:=G (a.q.below (aB (M _ _) (.cells #[C D 0,C D 0,C D 0,C D 0,C D 0,C D 0,C D 0,C D 0,L J 0 0] 50)));refine hK _ _ ⟨H,a.q.l,Q.q _ a.q.s⟩ ?_;rw[<-u];clear hK K t u;refine qL λK hK=>?_
    refine(a.q.num 3 ah j HW.q.2 γ.q.2.1).mono ?_;rintro e w3 (⟨rfl,o⟩|⟨rfl,v2,n,hS⟩)
    .exact⟨rfl,o⟩
    have a:=G n;have m:=G (m.q.same hS);refine hK _ _ ⟨H,a.q.l,Q.q _ a.q.s⟩ ?_;clear hK K n hS;have α:=m.q.b.1;have ζ:=m.q.b.2.1;have η:=m.q.b.2.2;refine qM λK hK=>?_
    refine hK _ _ H ?_;clear hK K α ζ η;refine eP ?_;obtain⟨y,A⟩:=dS.fill aj [(0,C D 4),(1,C D (c.no 0 f)),(2,C D 0),(3,C D 0),(4,C D 0),(5,C D 0),(6,C D 0),(7,C D ((c.put 0 f).no 3 j)),(8,L J 0 0)] a.q m.q ak;exact⟨rfl,_,⟨_,y,A⟩,rfl⟩
  .refine dF rfl rfl (λK hK=>?_)
   go_simp;obtain⟨kb,u,t⟩:=a.q.BN 50 #[C D 0,C D 0,C D 0,C D 0,C D 0,C D 0,C D 0,C D 0,L J 0 0];have m:=G t;have a:=G (a.q.below (aB (M _ _) (.cells #[C D 0,C D 0,C D 0,C D 0,C D 0,C D 0,C D 0,C D 0,L J 0 0] 50)));refine hK _ _ ⟨H,a.q.l,Q.q _ a.q.s⟩ ?_;rw[<-u];clear hK K t u;refine qL λK hK=>?_
   refine(a.q.num 0 ah f HW.q.1 γ.q.1).mono ?_;rintro e w4 (⟨rfl,o⟩|⟨rfl,v3,n,hS⟩)
   .exact⟨rfl,o⟩
   have a:=G n;have m:=G (m.q.same hS);refine hK _ _ ⟨H,a.q.l,Q.q _ a.q.s⟩ ?_;clear hK K n hS;refine qL λK hK=>?_
   refine(a.q.num 3 ah j HW.q.2 γ.q.2.1).mono ?_;rintro e w5 (⟨rfl,o⟩|⟨rfl,q8,n,hS⟩)
   .exact⟨rfl,o⟩
   have a:=G n;have m:=G (m.q.same hS);refine hK _ _ ⟨H,a.q.l,Q.q _ a.q.s⟩ ?_;clear hK K n hS;have α:=m.q.b.1;have ζ:=m.q.b.2.1;have η:=m.q.b.2.2;refine qM λK hK=>?_
   refine hK _ _ H ?_;clear hK K α ζ η;refine eP ?_;obtain⟨y,A⟩:=dS.fill aj [(0,C D 4),(1,C D (c.no 0 f)),(2,C D 0),(3,C D 0),(4,C D 0),(5,C D 0),(6,C D 0),(7,C D ((c.put 0 f).no 3 j)),(8,L J 0 0)] a.q m.q ak;exact⟨rfl,_,⟨_,y,A⟩,rfl⟩
 case' hP=>exact λY a1 w1 hd o=>⟨hd,o⟩
 rintro kb Z ⟨Θ,n,t⟩;have a:=G n;have m:=G t;have α:=n.l.1;obtain⟨i,z,hi⟩:=Ag;have HI:=G hi;clear n t hi;go_wp2_with fail;clear α
 go_loopw [26] (λi wr=>∃(k:Nat)(a0:Option Addr)(q0:Nat)(cs':Array Value),k<=b.length/\i= C D k/\dS B K w wr R ⟨4,I ⟨S,T,J⟩,(b.length+2),nc,ι,va,b.length,vc,lf,κ⟩ cs cs' (((c.put 0 f).put 3 j).sc ((b.zip s.aM).take k)).1 es ds ms/\uG wr w R kb 50 #[C D 4,C D (c.no 0 f),C D 0,C D 0,C D 0,C D 0,C D 0,C D ((c.put 0 f).no 3 j),L a0 k q0]/\Own wr kb 148 3 bI (L a0 k q0) (((c.put 0 f).put 3 j).sc ((b.zip s.aM).take k)).2) (λi _=>b.length - (RowKit.intOf i).toNat)
 case atStart=>exact⟨0,J,0,Θ,aS _,rfl,a.q,m.q,Own.eH _ _ _ _ _⟩
 case round=>
  obtain⟨k,a0,q0,q8,t,rfl,n,u,ε⟩:=hrel;by_cases Ξ:k<b.length
  .obtain⟨r,δ⟩:∃r,b[k]?=I r:=⟨_,dM Ξ⟩
   obtain⟨p,ρ⟩:∃p,s.aM[k]?=I p:=⟨_,dM (by rw[π.q];exact Ξ)⟩;obtain⟨Φ,Ψ⟩:=q5.q k r δ;obtain⟨vb,vo,q9,σ,Ω⟩:=q6.q k p ρ;subst q9;have HZ:=G (Sq δ ρ);have j0:Hid ((b.zip s.aM).take (k+1)=(b.zip s.aM).take k++[(r,p)]):=G (by rw[eD,HZ.q];rfl);have q1:Hid (aR (aT c s)->aR ((((c.put 0 f).put 3 j).sc ((b.zip s.aM).take k)).1.put 2 r)/\aR (((((c.put 0 f).put 3 j).sc ((b.zip s.aM).take k)).1.put 2 r).bF p).1):=G (λhq=>Ql HZ.q (γ.q.2.2 hq));have q2:Hid (((c.put 0 f).put 3 j).sc ((b.zip s.aM).take (k+1))=((((((c.put 0 f).put 3 j).sc ((b.zip s.aM).take k)).1.put 2 r).bF p).1,(((c.put 0 f).put 3 j).sc ((b.zip s.aM).take k)).2++[⟨(((c.put 0 f).put 3 j).sc ((b.zip s.aM).take k)).1.no 2 r,(((((c.put 0 f).put 3 j).sc ((b.zip s.aM).take k)).1.put 2 r).bF p).2⟩])):=G (by rw[j0.q,Ah]);have j1:Hid ((((c.put 0 f).put 3 j).sc ((b.zip s.aM).take k)).2.length+1=k+1):=G (by rw[ER,dJ,xY,π.q];omega);have μ:Hid (k<40):=G (by have:=q7.q;omega);have j2:Hid ((Value.slice a0 k q0).ownBlock≠I wr.1.size):=G (λe=>by have:=(ε.lt _ e).2;omega);have E:=aB (M wr.1.size wr) (.cells #[N ⟨p.name.toArray⟩,C D p.k] 61);have P:=G (Bx.new wr #[N ⟨p.name.toArray⟩,C D p.k] 61);have a:=G (n.below E);have m:=G (u.below E);have v:=G (ε.below E rfl);have y:=a.q.l.1;have j3:=(σ _ n.s).1;have j4:=(σ _ n.s).2;have ν:wrap64 (2+(k:Int))=2+k:=by have:=μ.q;unfold wrap64;omega
   have j5:(wr.alloc (.cells #[N ⟨p.name.toArray⟩,C D p.k] 61)).cell? ⟨S,T+(wrap64 (2+(k:Int))).toNat,J⟩=I (N ⟨r.toArray⟩):=by rw[ν,show(2+(k:Int)).toNat=2+k by omega];exact Φ _ a.q.s
   have j6:wrap64 (2+(k:Int))<(b.length:Int)+2:=by rw[ν];omega
   have j7:(0:Int)<=wrap64 (2+(k:Int)):=by rw[ν];omega
   have j8:=G (a.q.num 2 ah r Ψ (λq=>(q1.q q).1));have j9:=G Ω;have q3:Hid (R<wr.1.size/\kb<wr.1.size):=G ⟨n.r.s.t.b.2.2,u.b.2.2⟩;clear n u ε Φ Ψ σ Ω E ν δ ρ;go_wp2_with fail;refine j8.q.mono ?_;rintro e w5 (⟨rfl,o⟩|⟨rfl,v4,n,hS⟩)
   .exact⟨rfl,o⟩
   have E:=(M w5.1.size w5).drew;have E:=(M w5.1.size w5).drew;have v:=G ((v.q.same hS (λg hg e=>by have:=(v.q.lt g hg).1;have:=m.q.n;omega)).below E rfl);have P:=G ((hS.bx P.q (by have:=q3.q;omega)).keep E);have a:=G (n.below E);have m:=G ((m.q.same hS).below E);clear n hS E y j3 j4 j5 j6 j7;go_wp2_with fail;refine cK 10 [(0,0),(1,0),(2,0),(3,0),(4,0),(5,2),(6,0),(7,2),(8,2),(9,0),(10,2)] (λ_=>True) (λW'=>Bx W' kb #[C D 4,C D (c.no 0 f),C D 0,C D 0,C D 0,C D 0,C D 0,C D ((c.put 0 f).no 3 j),L a0 k q0]/\Bx W' wr.1.size #[N ⟨p.name.toArray⟩,C D p.k]) (λY w'=>fC B K R (aT c s) w (.panicked Y) w') au au (λY a1 w1 hd o=>⟨hd,o⟩) H ⟨m.q.b,P.q⟩ ?_;refine qL λK hK=>?_
   refine(a.q.bF p j9.q (λq=>(q1.q q).2)).mono ?_;rintro e w7 (⟨rfl,o⟩|⟨rfl,z0,n,hS⟩)
   .exact⟨rfl,o⟩
   have v:=G (v.q.same hS (λg hg e=>by have:=(v.q.lt g hg).1;have:=m.q.n;omega));have P:=G (hS.bx P.q (by have:=q3.q;omega));have a:=G n;have m:=G (m.q.same hS);refine hK _ _ ⟨H,m.q.b,P.q⟩ ?_;clear hK K n hS;have θ:=G (aB (M w7.1.size w7) (.cells #[C D ((((c.put 0 f).put 3 j).sc ((b.zip s.aM).take k)).1.no 2 r),C D (((((c.put 0 f).put 3 j).sc ((b.zip s.aM).take k)).1.put 2 r).bF p).2.t,C D (((((c.put 0 f).put 3 j).sc ((b.zip s.aM).take k)).1.put 2 r).bF p).2.k] 148));have θ:=G (aB (M w7.1.size w7) (.cells #[C D ((((c.put 0 f).put 3 j).sc ((b.zip s.aM).take k)).1.no 2 r),C D (((((c.put 0 f).put 3 j).sc ((b.zip s.aM).take k)).1.put 2 r).bF p).2.t,C D (((((c.put 0 f).put 3 j).sc ((b.zip s.aM).take k)).1.put 2 r).bF p).2.k] 148));have v5:Hid (kb<w7.1.size):=G m.q.b.2.2;have a:=G (a.q.below θ.q);have m:=G (m.q.below θ.q);have P:=G (P.q.keep θ.q);have v:=G (v.q.below θ.q rfl);refine qL λK hK=>?_
   refine hK _ _ ⟨H,m.q.b,P.q⟩ ?_;clear hK K;refine aG rfl rfl (λK hK=>?_);refine gK _ _ 48 rfl i z 24 underlying48 HI.q.1 HI.q.2.1 HI.q.2.2.1 HI.q.2.2.2.1 HI.q.2.2.2.2 rfl v.q (I ⟨w7.1.size,0,J⟩) 1 1 (k+1) [⟨(((c.put 0 f).put 3 j).sc ((b.zip s.aM).take k)).1.no 2 r,(((((c.put 0 f).put 3 j).sc ((b.zip s.aM).take k)).1.put 2 r).bF p).2⟩] rfl (Row.Sm w7 ⟨(((c.put 0 f).put 3 j).sc ((b.zip s.aM).take k)).1.no 2 r,(((((c.put 0 f).put 3 j).sc ((b.zip s.aM).take k)).1.put 2 r).bF p).2⟩) j1.q (by have:=μ.q;omega) (by have:=μ.q;unfold maxLen;omega) (Nat.le_of_lt m.q.b.2.2) ?_;intro a' c' w9 ho hg z1;have HG:=G (a.q.seen m.q v.q hg);have v:=G ho;have q4:Bx w9 wr.1.size #[N ⟨p.name.toArray⟩,C D p.k]:=P.q.grown hg (j2.q);refine hK _ _ ⟨H,HG.q.2.b,q4⟩ ?_;have z2:=HG.q.2.b.1;have z3:=HG.q.2.b.2.1;have z4:=HG.q.2.b.2.2;clear hK K ho hg z1 q4;refine qM λK hK=>?_
   refine hK _ _ H ?_;clear hK K z2 z3 z4;refine eP ?_;obtain⟨y,A⟩:=dS.fill aj [(8,L a' (k+1) c')] HG.q.1 HG.q.2 ak;have a:=G y;have m:=G A;have v:Hid (Own (w9.setCell ⟨kb,8,J⟩ (L a' (k+1) c')) kb _ 3 bI _ _):=G (v.q.aJ HG.q.2.t aj ((Same.refl' w9).setTail (λh=>h rfl)));clear y A;have v6:=μ.q;go_wp2_with fail;go_roundw
   case rel=>exact⟨k+1,a',c',z0,by omega,by go_num,by rw[q2.q];exact a.q,m.q,by rw[q2.q];exact v.q⟩
   case measure=>simp[RowKit.intOf];omega
  .obtain rfl:k=b.length:=by omega
   rw[show(b.zip s.aM).take b.length=(b.zip s.aM) from eF (by rw[xY,π.q];omega)] at n ε;have a:=G n;have z5:=G ε;have z6:=u.b.1;have z7:=G u.n;clear n ε u;go_wp2_with fail;refine(a.q.ev ⟨4,c.no 0 f,0,0,0,⟨0,0⟩,(c.put 0 f).no 3 j,a0,b.length,q0⟩ (((c.put 0 f).put 3 j).sc (b.zip s.aM)).2 ψ.q ak (z5.q.mono (by have:=z7.q;omega))).mono ?_;rintro e w6 (⟨rfl,o⟩|⟨rfl,o,_⟩)
   .exact⟨rfl,o⟩
   have HR:=G o;clear o z6;go_wp2_with fail;exact bodyPost_end (results_none rfl _ _ _) rfl HR.q
end
end Yd
