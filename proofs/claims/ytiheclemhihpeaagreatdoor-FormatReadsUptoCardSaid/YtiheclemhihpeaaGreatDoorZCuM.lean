import Derived.Test.YtiheclemhihpeaaGreatDoorZCu14
import Derived.Test.YtiheclemhihpeaaGreatDoorZRST
set_option linter.all false
set_option maxRecDepth 200000
set_option maxHeartbeats 8000000
namespace Yd
open Option renaming some->G,none->H
open Go Go.RowKit Go.Proofs Tryz
open Below renaming refl->D
open Go.IntKind renaming i64->O
open Go.Obj renaming cells->J
open Go.RowKit renaming Hid->L
open Go.Value renaming string->I,int->N,pointer->U
open Yd renaming hid->C
open _root_ renaming Int->M,trivial->V
theorem aai{p:Prop}(h:p:=by have:=HY.q;rw[ζ,oO] at this;exact this):p:=h
theorem aaj{p:Prop}(h:p:=by have:=R.q;have:=ε.q;have:=HK.q;omega):p:=h
theorem aak{p:Prop}(h:p:=by have:=R.q;have:=ε.q;have:=HK.q;unfold maxLen;omega):p:=h
theorem aal{p:Prop}(h:p:=by have:=υ.q.lt;simp;omega):p:=h
theorem aam{p:Prop}(h:p:=by first|rfl|rw[ψ]|go_num):p:=h
theorem aan{p:Prop}(h:p:=by have:=j3.q;rw[ay χ.q] at this;exact this):p:=h
theorem aao{p:Prop}(h:p:=by have:=HK.q.1;have:=ο.q;omega):p:=h
theorem aap{p:Prop}(h:p:=by have:=(λe=>(φ.q e).1) e;omega):p:=h
theorem aaq{p:Prop}(h:p:=by have:=HF.q;show o+2<=g+(k+1)+(if y.first=true then 1 else 0);omega):p:=h
theorem aar{p:Prop}(h:p:=by have:=R.q.1;simp;omega):p:=h
theorem aas{p:Prop}(h:p:=by have:=R.q.2;simp;omega):p:=h
theorem aat{p:Prop}(h:p:=by have:=(φ.q e).2;have:=v1.q;simp at*;omega):p:=h
theorem aau{p:Prop}(h:p:=by obtain⟨h1,h2⟩:=pF ν e;have:=φ.q h1;have:=zD h2;omega):p:=h
theorem aav{p:Prop}(h:p:=by have:j.vn=y.aM.length:=κ;omega):p:=h
theorem aaw{p:Prop}(h:p:=by have:=Θ.q;have:=R.q;have:=ε.q;have:=HK.q;omega):p:=h
theorem aax{p:Prop}(h:p:=by have:=Θ.q;have:=R.q;have:=ε.q;have:=HK.q;unfold maxLen;omega):p:=h
theorem aay{p:Prop}(h:p:=by obtain⟨h1,h2⟩:=pF Ψ e;have:=k9.q h1;have:=zF h2;omega):p:=h
theorem aaz{p:Prop}(h:p:=by have:=z5.q.lt;simp;omega):p:=h
theorem aaA{p:Prop}(h:p:=by have:=(λe=>(z6.q e).1) e;omega):p:=h
theorem aaB{p:Prop}(h:p:=by have:=(z6.q e).2;have:=v1.q;simp at*;omega):p:=h
variable{B p:Nat}{s l:Bs}{n:M}
theorem Js (w:World)(h:cB w B s p l n)(g:n≠0):
  Calls Tryz.prog 48 #[U (G ⟨B,0,H⟩)] w (λe w'=>e= .returned (iZ ⟨[],0⟩)/\cB w' B s p l n/\Cs B w w'):=by
 have m:=C (λW (b:cB W B s p l n)=>Ct W b g);have o:(n==0)=false:=aN.2 g;have P:(n !=0)=true:=by rw[bne,o];rfl
 have q:=C h;have c:=C (aB (D w.1.size w) (J (dX ⟨[],0⟩) 61));have r:=C (Bx.new w (dX ⟨[],0⟩) 61);have d:=C (show w.1.size≠B from λe=>by have:=h.lt;omega);have i:=(h.below c).x.1 2;go_enter func48,ntmps48
 go_wp2
 refine aD 99 [(0,0),(1,0),(2,0),(3,0),(4,0),(5,0),(6,0),(7,2),(8,0),(9,0),(10,0),(11,0),(12,0),(13,0),(14,0),(15,0),(16,0),(17,0),(18,0),(19,0),(20,0),(21,0)] (λ_=>True) (λt=>t.cell? ⟨B,2,H⟩=G (N O n)) au au (trivial) (i) ?_;refine qC ?_
 apply kR rfl rfl V
 simp only[Act.put,nY,ng,ni];refine qC ?_
 apply aH
 have j:=C (c.drew);have u:=C (r.drew);have x:=C ((q.below c).drew);go_wp2_with fail;refine(m.q _ x.q).mono ?_;rintro e a ⟨rfl,b,f⟩;have Q:=C (show a.1.size≠B from λe=>by have:=b.lt;omega);have R:=C (show w.1.size<=a.1.size from cO j.size f.size);have S:=Bx.new a (dX ⟨[],0⟩) 61;have ha:Below a.1.size a (a.alloc (J (dX ⟨[],0⟩) 61)):=aB (D a.1.size a) (J (dX ⟨[],0⟩) 61);have k:=b.below ha;have y:=((Cs.of_below (B:=B) j).tr f).tr (Cs.of_below ha);have z:=(f.bx u d).keep ha;have A:=C k;have E:=C y;have i:=k.x.1 2;have F:=z.1
 go_wp2
 have K:=C ((A.qG w.1.size 0 (I ⟨([]:Bs).toArray⟩) d).qG w.1.size 1 (N O 0) d)
 apply bodyPost_ret (v:=iZ ⟨[],0⟩) (by simp[results,results48,go_sem,F]) rfl
 exact⟨rfl,K,jY (jY E (aC _) 0 _) (aC _) 1 _⟩
@[reducible] def xK (a:M)(l:Bs):Prop:=a=0->∃b t,l=b::t/\jF b=false/\dO (b::t)=false
theorem tT (w:World)(h:cB w B s p l n)(f:xK n l):Calls Tryz.prog 47 #[U (G ⟨B,0,H⟩)] w (EL B s w (λu:Bs=> I ⟨u.toArray⟩) (fM n l (bU l))):=by
 by_cases a:n=0
 .subst a
  obtain⟨b,t,rfl,c,d⟩:=f rfl;rw[lM];exact(Dh w h c d).mono λ_ _ h=>h.any
 .apply(Ct w h a).mono
  rintro e i ⟨c,d,g⟩;exact⟨[],p,l,n,c,d,g,by rw[nD _ a,qh _ _ a]⟩
theorem tV (w:World)(h:cB w B s p l n)(f:xK n l):Calls Tryz.prog 48 #[U (G ⟨B,0,H⟩)] w (EL B s w (λv:To=>iZ v) (fM n l (dN l))):=by
 by_cases a:n=0
 .subst a
  obtain⟨b,t,rfl,c,d⟩:=f rfl;rw[lM];exact(Qm w h c d).mono λ_ _ h=>h.any
 .apply(Js w h a).mono
  rintro e i ⟨c,d,g⟩;exact⟨⟨[],0⟩,p,l,n,c,d,g,by rw[nD _ a,qh _ _ a]⟩
def Wl (B:Nat)(s:Bs)(w:World)(x:Except Er (Nat × Bs))(e:Ending)(w':World):Prop:=
 ∃(a:Nat)(d:Nat)(c:Bs)(b:M),e= .returned (N O (a:M))/\cB w' B s d c b/\Cs B w w'/\x=lC a c b/\(b≠0->a=0)/\a<=100
theorem yj (w:World)(h:cB w B s p l n)(a:Option Addr)(c g:Nat)(b:List Bs)(q:Row w 1 encStr a c g b)(t:c<=100)(u:∀x∈b,x.length<=100):
  Calls Tryz.prog 27 #[U (G ⟨B,0,H⟩),.slice a c g] w (Wl B s w (fM n l (oZ b l))):=by
 by_cases d:n=0
 .subst d
  rw[lM]
  apply(QO w h a c g b q t u).mono
  rintro e v ⟨a,z,A,n,i,j,k,f,E⟩;refine⟨a,z,A,n,i,j,k,?_,E⟩
  cases o:oZ b l with
  |ok y=>rw[o] at f;obtain⟨K,r⟩:=y;obtain⟨rfl,rfl,rfl⟩:=f;exact(kr _ _).symm
  |error y=>rw[o] at f;obtain⟨r,m⟩:=y;obtain⟨rfl,rfl,F⟩:=f;exact(qh _ _ F).symm
 .apply(La w h d _).mono
  rintro e v ⟨i,j,k⟩;exact⟨0,p,l,n,i,j,k,by rw[nD _ d,qh _ _ d],λ_=>rfl,aS _⟩
theorem oN {e:M}{u:Unit}(h:fM n l (jL l)=lC u s e):xK e s:=λc=>by
 subst c;rw[kr] at h;by_cases b:n=0
 .subst b
  rw[lM] at h;unfold jL at h
  cases a:fu l with
  |error x=>rw[a] at h;cases h
  |ok r=>rw[a] at h;cases h;exact AX (Lb a)
 .rw[nD _ b] at h;cases h
theorem Jt {k:M}{f R:Nat}{n:aK}{e a:M}{X:Except Er (aK × Bs)}(i:e=0->∃g,f=g+1)(h:fM e l (dB l)=lC false s a)(b:X=fM e l (eB k B f R n l)):X=lC n s a:=by
 by_cases c:e=0
 .obtain⟨g,rfl⟩:=i c
  rw[eB] at b;rw[gu b h,aA rfl];rfl
 .rw[b,nD _ c]
  rw[nD _ c] at h;by_cases d:a=0
  .subst d;rw[kr] at h;cases h
  .rw[qh _ _ d] at h ⊢;injection h with h;rw[h]
theorem NP (h:24<bB l):0<iE (l.take (bB l)):=by
 obtain⟨u,c⟩:∃u,u=l.take (bB l):=⟨_,rfl⟩;have g:24<u.length:=by rw[c,dJ];have:=rQ l;omega
 rw[<-c];have i:u≠[]:=by rintro rfl;simp at g
 obtain⟨d,f⟩:∃d,d=(Utf8.decode ⟨u.toArray⟩ 0).2:=⟨_,rfl⟩;have j:=Aq ⟨u.toArray⟩ 0;rw[<-f] at j;have k:u.drop d≠[]:=by intro e;have:=cZ List.length e;rw[dY] at this;simp at this;omega
 have m:∀a:List Nat,(∀x∈a,d<=x)->0<((0::(d+0)::a).getLast?).getD 0:=by
  intro a n
  cases b:(0::(d+0)::a).getLast? with
  |none=>simp at b
  |some y=>
   have o:y∈(d+0)::a:=by
    rw[List.getLast?_cons_cons] at b;exact List.mem_of_getLast? b
   show 0<y;rcases dP.1 o with e|e
   .omega
   .have:=n y e;omega
 unfold iE;rw[Bq u i,<-f,Bq (u.drop d) k,kW,List.filter_cons,aA aj,List.filter_cons,aA (by simp;omega)];refine m _ (λx p=>?_);obtain⟨y,_,rfl⟩:=eZ.1 (List.mem_filter.1 p).1;omega
theorem yP {b:UInt8}{t:Bs}(g:dO (b::t)=false){a:Bs}(h:bU (b::t)=lC a l n):(bY (b::t)=true->l.length<(b::t).length)/\(bY (b::t)=false->l=b::t):=by
 have e:∀r,(∃x,bU (b::t)= .ok (x,r))\/(∃m,bU (b::t)= .error (r,m))->l=r:=by
  rintro r (⟨x,f⟩|⟨m,f⟩)
  .rw[f] at h
   by_cases c:n=0
   .subst c;rw[kr] at h;injection h with h;injection h with _ h;exact h.symm
   .rw[qh _ _ c] at h;cases h
  .rw[f] at h
   by_cases c:n=0
   .subst c;rw[kr] at h;cases h
   .rw[qh _ _ c] at h;injection h with h;injection h with h _;exact h.symm
 constructor
 .intro d
  by_cases i:24<bB (b::t)
  .rw[e _ (.inr ⟨_,yQ g d i⟩),dY]
   have:=NP i;simp;omega
  .rw[e _ (.inl ⟨_,Br g d ah⟩),dY]
   have:=QS d;simp;omega
 .intro d
  exact e _ (.inr ⟨_,tq d⟩)
def EU (n B:Nat)(wr:World):Nat:=match wr.cell? ⟨B,1,H⟩,wr.cell? ⟨B,2,H⟩ with|some (N _ q),G (N _ e)=>if e=0 then n - q.toNat+1 else 0|_,_=>0
theorem rF {w X:World}{q R:Nat}{b:Bs}(h:cB w B s q l 0)(h':cB X B s R b n)(c:n=0->b.length<l.length):EU s.length B X<EU s.length B w:=by
 have d:w.cell? ⟨B,1,H⟩=G (N O (q:M)):=h.x.1 1;have e:w.cell? ⟨B,2,H⟩=G (N O 0):=h.x.1 2;have f:X.cell? ⟨B,1,H⟩=G (N O (R:M)):=h'.x.1 1;have g:X.cell? ⟨B,2,H⟩=G (N O n):=h'.x.1 2;have k:=h.len;have i:=h'.len;unfold EU;simp only[d,e,f,g,gF,dG];by_cases a:n=0
 .have:=c a
  rw[aA a];omega
 .rw[ay a];omega
variable{r:Bs}
theorem DT {b:Bool}(h:dB l= .ok (b,r)):r.length<=l.length:=by have:=tu l;rw[h] at this;exact this
theorem zD {u:Unit}(h:jL l= .ok (u,r)):r.length<=l.length:=by
 unfold jL at h
 cases a:fu l with
 |error x=>rw[a] at h;cases h
 |ok y=>rw[a] at h;cases h;exact Au a
theorem zF {v:To}(h:dN l= .ok (v,r)):r.length<=l.length:=by have:=Dn l;rw[h] at this;exact this
@[reducible] def Lc (w:World)(s:Bs)(p:Nat):World:=w.alloc (J (rG s p 0) 73)
theorem xA (w:World)(s:Bs)(p:Nat):Below w.1.size w (Lc w s p):=aB (D w.1.size w) (J (rG s p 0) 73)
theorem NQ {w:World}(h:cB w B s p l 0):cB (Lc w s p) w.1.size s p l 0:=⟨Bx.new w (rG s p 0) 73,h.d,h.le,h.lim⟩
theorem Nf {er:M}{c:aW}{n:aK}(w:World)(h:cB w B s p l er)(hl:dZ w (B+1) c n)(o:Nat)(f1:o<=300)(hN:n.names.length<=600)(hV:n.aM.length<=600):
  Calls Tryz.prog 50 #[U (G ⟨B,0,H⟩),dH c,N O (o:M)] w (λe w'=>∃(c':aW)(n':aK)(p':Nat)(l':Bs)(f2:M),e= .returned (dH c')/\cB w' B s p' l' f2/\dZ w' (B+1) c' n'/\Mv B c c' w w'/\fM er l (eB n.kind o (o+2) 0 n l)=lC n' l' f2):=by
 obtain⟨X,hX⟩:∃X,X=fM er l (eB n.kind o (o+2) 0 n l):=⟨_,rfl⟩;rw[<-hX];obtain⟨x,β⟩:∃x,x=n.kind:=⟨_,rfl⟩;rw[<-β] at hX;obtain⟨i,z,hi⟩:=mQ;have P:=C hi;obtain⟨i2,z2,f3,f4,f5,f6,f7⟩:=Dj;have ι:=C (⟨f3,f4,f5,f6,f7⟩:_/\_/\_/\_/\_);clear hi f3 f4 f5 f6 f7;have x0:=aB (aB (D w.1.size w) (J (bJ c) 34)) (J iW 34);have x1:B<w.1.size:=h.lt;have u6:=C (jq.new hl x1);have u7:=C (h.below x0);have u8:=C x0;have HX:=C hX;have w0:=C β;have f8:=C (⟨hN,hV⟩:_/\_);have ε:=C f1;have w1:=C x1;clear h hl hX β hN hV x0 f1 x1;go_enter func50,ntmps50;go_wp2_with fail
 go_loopw [7] (λi wr=>∃(W:World)(k f q:Nat)(l1:Bs)(v6:M)(j:aW)(y:aK),W=wr/\i= N O k/\cB W B s q l1 v6/\jq W B w.1.size j y/\Mv B c j w W/\X=fM v6 l1 (eB x o f k y l1)/\y.kind=x/\k<=o+1/\(v6=0->k<=o)/\o+2<=f+k+(if y.first=true then 1 else 0)/\y.names.length<=600+k/\y.aM.length<=600+k) (λi wr=>EU s.length B wr)
 case atStart=>exact⟨_,0,o+2,p,l,er,c,n,rfl,rfl,u7.q,u6.q,Mv.of_below u8.q,HX.q,w0.q.symm,by omega,λ_=>by omega,by omega,f8.q.1,f8.q.2⟩
 case round=>
  obtain⟨W,k,f,q,l1,v6,j,y,rfl,rfl,hc,f9,g0,hx,g1,hk,q5,hf,h1,h2⟩:=hrel;have HC:=C hc;have w8:=C f9;have HM:=C g0;have x2:=C hx;have q7:=C g1;have HK:=C (⟨hk,q5⟩:_/\_);have HF:=C hf;have R:=C (⟨h1,h2⟩:_/\_);have x3:L (v6=0->∃g,f=g+1):=C (λe=>⟨f - 1,by have:=q5 e;split at hf <;> omega⟩);clear hc f9 g0 hx g1 hk q5 hf h1 h2;go_wp2_with fail;refine(wY _ HC.q).mono ?_;rintro e w2 ⟨a,S,l2,g2,rfl,g3,y6,g4,g5⟩;have q8:=C g3;have q0:=C (w8.q.cs y6);have g6:=C (HM.q.cs y6);have x4:=C g4;have g7:=C g5;have Zm:=C y6;clear g3 y6 g4 g5
  cases a
  .have Ym:=C (Jt x3.q x4.q x2.q)
   have T:=q0.q.x.1;have γ:=q0.q.x.2.1;have hct:=q0.q.z.1;have hft:=q0.q.z.2.1;go_wp2_with fail;refine bodyPost_ret (v:=dH j) (by simp[results,results50,go_sem,hct]) rfl ?_;have x5:=q0.q.fin q8.q g6.q (aC _);exact⟨j,y,S,l2,g2,rfl,x5.1,x5.2.1,x5.2.2,Ym.q⟩
  .have h0:g2=0:=by apply Classical.byContradiction;intro e;have:=g7.q e;cases this
   subst h0;obtain⟨he1,x6⟩:=pF x4.q rfl;subst he1;obtain⟨g,hg⟩:=x3.q rfl;subst hg;obtain⟨b,t,hbt,g8,g9⟩:=AX x6;subst hbt;have hx:=x2.q;rw[eB] at hx;have x7:=C (gu hx x4.q);clear hx;have x8:=C g8;have v0:=C g9;have v1:L ((b::t).length<=l1.length):=C (DT x6);have ο:L (k<=o):=C (HK.q.2 rfl);clear x6 g8 g9 x3 g7 x2;have c0:=q8.q.x.1 0;have ρ:=q8.q.x.1 1;have q1:=q8.q.x.1 2;have T:=q0.q.x.1;have γ:=q0.q.x.2.1;go_wp2_with fail;have y7:j.kind=x:=q0.q.n.1.1.trans q7.q;obtain⟨fi,x9⟩:∃fi,fi=y.first:=⟨_,rfl⟩
   have m0:j.first=fi:=q0.q.n.1.2.2.1.trans x9.symm
   have v3:w2.cell? ⟨w.1.size,0,H⟩=G (N O x):=by rw[<-y7];exact T 0
   have v4:w2.cell? ⟨w.1.size,4,H⟩=G (.bool fi):=by rw[<-m0];exact T 4
   have m1:=C x9;have Xb:=C y7;clear T γ y7 m0 x9;have hix:=λF=>dQ Tryz.underlying9 s S b q8.q.at_ F
   have hz:=dW s;have Zn:S<=1000000:=cO q8.q.le q8.q.lim;refine wp_mono (Q:=λe a W=>e= .normal/\W=w2.drew/\∃(d:Bool)(m2 m3 m4 m5 m6 m7 m8 m9 p0 p1 p2 p3 p5 p6 p7 p8 p9 r0 r4 r5 r6 r7 r8:Value),a={tmps:=#[U (G ⟨B,0,H⟩),dH c,N O (o:M),undef,U (G ⟨w.1.size,0,H⟩),undef,U (G ⟨w.1.size+1,0,H⟩),N O (k:M),N O (S:M),u9,u10,U (G ⟨B,0,H⟩),.bool true,u13,u14,U (G ⟨B,0,H⟩),U (G ⟨B,0,H⟩),U (G ⟨B,1,H⟩),N O (S:M),m2,m3,m4,m5,m6,m7,m8,m9,p0,p1,p2,p3,p5,p6,p7,p8,p9,r0,r4,r5,r6,r7,r8,.bool d,u43,u44,u45,u46,u47,u48,u49,u50,u51,u52,u53,u54,u55,u56,u57,u58,u59,u60,u61,u62,u63,u64,u65,u66,u67,u68,u69,u70,u71,u72,u73,u74,u75,u76,u77,u78,u79,u80,u81,u82,u83,u84,u85,undef],defers:=[]}/\(d=true->(x=8/\k=0/\y.first=false/\(b::t).head?=G 45))/\(d=false->¬(x=8/\k=0/\y.first=false/\(b::t).head?=G 45))) ?_ ?_
   .skip
    cases h8:(x==8)
    rotate_left
    .skip
     cases q5:((k:M)==0)
     rotate_left
     .skip
      cases fi
      .skip
       cases b0:((b.toNat:M)==45)
       .skip
        refine aD 99 [(0,0),(1,0),(2,0),(3,0),(4,0),(5,0),(6,0),(7,0),(8,0),(9,0),(10,0),(11,0),(12,0),(13,0),(14,0),(15,0),(16,0),(17,0),(18,0),(19,0),(20,0),(21,0),(22,0),(23,0)] (λ_=>True) (λF=>(F.cell? ⟨B,0,H⟩=G (I ⟨s.toArray⟩)/\F.cell? ⟨B,1,H⟩=G (N O (S:M)))/\F.cell? ⟨w.1.size,0,H⟩=G (N O x)/\F.cell? ⟨w.1.size,4,H⟩=G (.bool false)) au au (trivial) ⟨⟨c0,ρ⟩,v3,v4⟩ ?_;refine qC ?_;refine aH ?_;exact⟨rfl,rfl,_,_,_,_,_,_,_,_,_,_,_,_,_,_,_,_,_,_,_,_,_,_,_,_,rfl,λe=>absurd e ak,λ_ e=>by have:=qQ e.2.2.2;rw[this] at b0;cases b0⟩
       .skip
        refine aD 99 [(0,0),(1,0),(2,0),(3,0),(4,0),(5,0),(6,0),(7,0),(8,0),(9,0),(10,0),(11,0),(12,0),(13,0),(14,0),(15,0),(16,0),(17,0),(18,0),(19,0),(20,0),(21,0),(22,0),(23,0)] (λ_=>True) (λF=>(F.cell? ⟨B,0,H⟩=G (I ⟨s.toArray⟩)/\F.cell? ⟨B,1,H⟩=G (N O (S:M)))/\F.cell? ⟨w.1.size,0,H⟩=G (N O x)/\F.cell? ⟨w.1.size,4,H⟩=G (.bool false)) au au (trivial) ⟨⟨c0,ρ⟩,v3,v4⟩ ?_;refine qC ?_;refine aH ?_;exact⟨rfl,rfl,_,_,_,_,_,_,_,_,_,_,_,_,_,_,_,_,_,_,_,_,_,_,_,_,rfl,λ_=>⟨eq_of_beq h8,by have:=eq_of_beq q5;omega,m1.q.symm,cZ G (gD.1 (by have:=eq_of_beq b0;show b.toNat=45;omega))⟩,λe=>absurd e ak⟩
      .skip
       refine aD 99 [(0,0),(1,0),(2,0),(3,0),(4,0),(5,0),(6,0),(7,0),(8,0),(9,0),(10,0),(11,0),(12,0),(13,0),(14,0),(15,0),(16,0),(17,0),(18,0),(19,0),(20,0),(21,0),(22,0),(23,0)] (λ_=>True) (λF=>(F.cell? ⟨B,0,H⟩=G (I ⟨s.toArray⟩)/\F.cell? ⟨B,1,H⟩=G (N O (S:M)))/\F.cell? ⟨w.1.size,0,H⟩=G (N O x)/\F.cell? ⟨w.1.size,4,H⟩=G (.bool true)) au au (trivial) ⟨⟨c0,ρ⟩,v3,v4⟩ ?_;refine qC ?_;refine aH ?_;exact⟨rfl,rfl,_,_,_,_,_,_,_,_,_,_,_,_,_,_,_,_,_,_,_,_,_,_,_,_,rfl,λe=>absurd e ak,λ_ e=>by have:=e.2.2.1;rw[<-m1.q] at this;cases this⟩
     .have YU:(k==0)=false:=by cases k with|zero=>cases q5|succ k=>rfl
      refine aD 99 [(0,0),(1,0),(2,0),(3,0),(4,0),(5,0),(6,0),(7,0),(8,0),(9,0),(10,0),(11,0),(12,0),(13,0),(14,0),(15,0),(16,0),(17,0),(18,0),(19,0),(20,0),(21,0),(22,0),(23,0)] (λ_=>True) (λF=>(F.cell? ⟨B,0,H⟩=G (I ⟨s.toArray⟩)/\F.cell? ⟨B,1,H⟩=G (N O (S:M)))/\F.cell? ⟨w.1.size,0,H⟩=G (N O x)/\F.cell? ⟨w.1.size,4,H⟩=G (.bool fi)) au au (trivial) ⟨⟨c0,ρ⟩,v3,v4⟩ ?_;refine qC ?_;refine aH ?_;exact⟨rfl,rfl,_,_,_,_,_,_,_,_,_,_,_,_,_,_,_,_,_,_,_,_,_,_,_,_,rfl,λe=>absurd e ak,λ_ e=>by rw[e.2.1] at q5;cases q5⟩
    .skip
     refine aD 99 [(0,0),(1,0),(2,0),(3,0),(4,0),(5,0),(6,0),(7,0),(8,0),(9,0),(10,0),(11,0),(12,0),(13,0),(14,0),(15,0),(16,0),(17,0),(18,0),(19,0),(20,0),(21,0),(22,0),(23,0)] (λ_=>True) (λF=>(F.cell? ⟨B,0,H⟩=G (I ⟨s.toArray⟩)/\F.cell? ⟨B,1,H⟩=G (N O (S:M)))/\F.cell? ⟨w.1.size,0,H⟩=G (N O x)/\F.cell? ⟨w.1.size,4,H⟩=G (.bool fi)) au au (trivial) ⟨⟨c0,ρ⟩,v3,v4⟩ ?_;refine qC ?_;refine aH ?_;exact⟨rfl,rfl,_,_,_,_,_,_,_,_,_,_,_,_,_,_,_,_,_,_,_,_,_,_,_,_,rfl,λe=>absurd e ak,λ_ e=>by rw[e.1] at h8;cases h8⟩
   .rintro e a W ⟨rfl,rfl,d,m2,m3,m4,m5,m6,m7,m8,m9,p0,p1,p2,p3,p5,p6,p7,p8,p9,r0,r4,r5,r6,r7,r8,rfl,b1,b2⟩
    have π:=C q8.q.drew;have v2:=C (q0.q.below (D _ _).drew);have v7:=C (g6.q.cs (B:=B) (Cs.of_below (D w2.1.size w2).drew));have Yn:L (Below w2.1.size w2 w2.drew):=C (D _ _).drew;obtain⟨w3,b3⟩:∃w3,w3=w2.drew:=⟨_,rfl⟩;have ZQ:=C (show w3.1.size=w2.1.size by rw[b3];rfl);rw[<-b3] at π v2 v7 Yn ⊢;clear b3 v3 v4 c0 ρ q1
    cases d
    .have r9:=C (b2 rfl)
     clear b2 b1;have b4:L (X=dh (if k=o/\bY (b::t)=true then .error (b::t,3) else bU (b::t)) (λnm r1=>if x=4 then dh (jL r1) λ_ r2=>dh (dN r2) λv r3=>eB x o g (k+1) (jr (addN y nm) v) r3 else eB x o g (k+1) (addN y nm) r1)):=C (by have:=x7.q;rw[lM,ay (show ¬(true=false) by simp),ay r9.q] at this;exact this);clear x7 r9;have c0:=π.q.x.1 0;have ρ:=π.q.x.1 1;have q1:=π.q.x.1 2;have y7:=Xb.q;by_cases v8:k=o
     .skip
      have hev:((k:M)==(o:M))=true:=by rw[v8];exact beq_self_eq_true _
      have Yo:=C v8;clear v8;go_wp2_with fail;refine(Dh _ (NQ π.q) x8.q v0.q).mono ?_;intro e w4 he;obtain⟨ZR,p4,l4,ZT,rfl,b5,u0,b6⟩:=he.any;have q4:L (Below w3.1.size w3 w4):=C (u0.below (xA w3 s S) (λi hi=>by omega) (xA w3 s S).size);have y8:=yP v0.q b6;have ca:=b5.x.1 1;have b7:=b5.len;have u1:=π.q.len;clear b5 u0 he
      cases j0:bY (b::t)
      .skip
       have b8:p4=S:=by rw[y8.2 j0] at b7;omega
       have hgt:decide ((S:M)<(p4:M))=false:=by simp;omega
       have XB:decide (S<p4)=false:=by simp;omega
       have ZU:=C j0;have v5:=C (π.q.below q4.q);have v9:=C (v2.q.below q4.q);have k0:=C (v7.q.trans (Mv.of_below q4.q));have HY:L (X=dh (fM 0 (b::t) (bU (b::t))) (λnm r1=>if x=4 then dh (jL r1) λ_ r2=>dh (dN r2) λv r3=>eB x o g (k+1) (jr (addN y nm) v) r3 else eB x o g (k+1) (addN y nm) r1)):=C (by have:=b4.q;rw[ay (λe=>by have:=e.2;rw[j0] at this;cases this)] at this;rw[lM];exact this);have k1:L (∀m r,fM 0 (b::t) (bU (b::t))= .ok (m,r)->k<o):=C (λm r h=>by rw[lM,tq j0] at h;cases h);have k2:L (xK 0 (b::t)):=C (λ_=>⟨b,t,rfl,x8.q,v0.q⟩);clear b8 y8 b7 u1 j0 b6 c0 ρ q1;have ρ:=v5.q.x.1 1;go_wp2_with fail;refine(tT _ v5.q k2.q).mono ?_;rintro e w6 ⟨m,q6,l6,σ,rfl,j1,τ,ζ⟩;have υ:=C j1;have A:=C (v9.q.cs τ);have j2:=C (k0.q.cs τ);have j3:L (X=fM σ l6 (if x=4 then dh (jL l6) λ_ r2=>dh (dN r2) λv r3=>eB x o g (k+1) (jr (addN y m) v) r3 else eB x o g (k+1) (addN y m) l6)):=C aai;have φ:L (σ=0->k<o/\l6.length<=(b::t).length - 1):=C (λe=>by subst e;rw[kr] at ζ;refine⟨k1.q _ _ ζ,?_⟩;obtain⟨e5,hn⟩:=pF (ζ.trans (kr _ _).symm) rfl;cases hB:bY (b::t);(·rw[tq hB] at hn;cases hn);(·have:=(yP v0.q (hn.trans (kr _ _).symm)).1 hB;omega));clear j1 τ ζ;have κ:=A.q.n.1.2.2.2.2.1;have j4:L (y.names.length+1=j.nn+1):=C ah;have j5:L ((j.nn+1)*16<=140737488355328):=C aaj;have j6:L (j.nn+1<=maxLen):=C aak;have j7:L (B+1<=(w6.alloc (J #[I ⟨m.toArray⟩] 9)).1.size):=C aal;clear κ;have T:=A.q.x.1;have γ:=A.q.x.2.1
       cases h4:(x==4)
       .skip
        have β:x≠4:=aN.1 h4;have χ:=C β;clear β
        go_wp2_with (at_builtin;refine dx rfl _ _ 22 rfl i z 16 underlying22 P.q.1 P.q.2.1 P.q.2.2.1 P.q.2.2.2.1 P.q.2.2.2.2 rfl (A.q.n.2.1.alloc _) (G ⟨w6.1.size,0,H⟩) 1 1 (j.nn+1) [m] rfl (Row.str1 w6 m) j4.q j5.q j6.q j7.q ?_;intro a' c' w7 η Y θ;have Z:=(A.q.x.keep (aB (D _ _) (J #[I ⟨m.toArray⟩] 9))).grown Y (λe=>(A.q.an _ e).1 rfl);have α:=C (A.q.addN (aB (D _ _) (J #[I ⟨m.toArray⟩] 9)) a' c' η Y θ);clear T γ;have T:=Z.1;have γ:=Z.2.1;clear η Y θ Z)
        have μ:=C (α.q.2.2 _ _ _ _ υ.q);have ψ:wrap64 ((k:M)+1)=((k+1:Nat):M):=by have:=ο.q;have:=ε.q;unfold wrap64;omega
        go_roundw
        case rel=>exact⟨_,k+1,g,q6,l6,σ,_,_,rfl,aam,μ.q,α.q.1,α.q.2.1 _ _ j2.q (aC _),aan,q7.q,aao,(λe=>aap),aaq,aar,aas⟩
        case measure=>exact rF HC.q μ.q (λe=>aat)
       .skip
        have β:x=4:=eq_of_beq h4;have χ:=C β;clear β
        go_wp2_with (at_builtin;refine dx rfl _ _ 22 rfl i z 16 underlying22 P.q.1 P.q.2.1 P.q.2.2.1 P.q.2.2.2.1 P.q.2.2.2.2 rfl (A.q.n.2.1.alloc _) (G ⟨w6.1.size,0,H⟩) 1 1 (j.nn+1) [m] rfl (Row.str1 w6 m) j4.q j5.q j6.q j7.q ?_;intro a' c' w7 η Y θ;have Z:=(A.q.x.keep (aB (D _ _) (J #[I ⟨m.toArray⟩] 9))).grown Y (λe=>(A.q.an _ e).1 rfl);have α:=C (A.q.addN (aB (D _ _) (J #[I ⟨m.toArray⟩] 9)) a' c' η Y θ);clear T γ;have T:=Z.1;have γ:=Z.2.1;clear η Y θ Z)
        have μ:=C (α.q.2.2 _ _ _ _ υ.q);have k3:=C (α.q.2.1 _ _ j2.q (aC _));refine(oM _ μ.q).mono ?_;rintro e w9 ⟨u,q9,l9,k4,rfl,j8,ω,ν⟩;have k5:=C j8;have Γ:=C (α.q.1.cs ω);have k6:=C (k3.q.cs ω);have k7:=C (oN ν);have Δ:=j3.q;rw[aA χ.q] at Δ;have k8:=C (gu Δ ν);clear Δ;have k9:L (k4=0->k<o/\l9.length<=(b::t).length - 1):=C (λe=>aau);clear j8 ω ν;have κ:=Γ.q.n.1.2.2.2.2.2;have Θ:L (y.aM.length+1=j.vn+1):=C aav;have y0:L ((j.vn+1)*24<=140737488355328):=C aaw;have y1:L (j.vn+1<=maxLen):=C aax;clear κ T γ;have Ξ:w9.cell? ⟨w.1.size,3,H⟩=G (.slice j.va j.vn j.vc):=Γ.q.x.1 3;go_wp2_with fail;refine aD 7 [(0,1),(1,0),(2,1),(3,2),(4,2),(5,2),(6,1),(7,2)] (λ_=>True) (λF=>F.cell? ⟨w.1.size,3,H⟩=G (.slice j.va j.vn j.vc)) au au (trivial) (Ξ) ?_;refine qC ?_;refine aG rfl rfl (λK E=>?_);go_simp;refine(tV _ k5.q.drew k7.q).mono ?_;rintro e j9 ⟨⟨vn,vk⟩,y2,z0,z3,rfl,z4,Φ,Ψ⟩;have z5:=C z4;have δ:=C ((Γ.q.below (D _ _).drew).cs Φ);have y3:=C ((k6.q.trans (Mv.of_below (D _ _).drew)).cs Φ);have y4:=C (gu k8.q Ψ);have z6:L (z3=0->k<o/\z0.length<=(b::t).length - 1):=C (λe=>aay);refine E _ _ ⟨V,δ.q.x.1 3⟩ ?_;have y5:L (B+1<=(j9.alloc (J #[I ⟨vn.toArray⟩,N O vk] 61)).1.size):=C aaz;clear E K z4 Φ Ψ Ξ;refine aG rfl rfl (λK E=>?_);go_simp;refine E _ _ ⟨V,(δ.q.below (aB (D _ _) _)).x.1 3⟩ ?_;clear E K;refine aG rfl rfl (λK E=>?_);refine gK _ _ 32 rfl i2 z2 24 underlying32 ι.q.1 ι.q.2.1 ι.q.2.2.1 ι.q.2.2.2.1 ι.q.2.2.2.2 rfl (δ.q.n.2.2.alloc _) (G ⟨j9.1.size,0,H⟩) 1 1 (j.vn+1) [⟨vn,vk⟩] rfl (Row.toN rfl ⟨vn,vk⟩) Θ.q y0.q y1.q y5.q ?_;intro a2 q1 u2 z7 hg z8;have ξ:=(δ.q.x.keep (aB (D _ _) (J #[I ⟨vn.toArray⟩,N O vk] 61))).grown hg (λe=>(δ.q.av _ e).1 rfl);have Ω:=C (δ.q.jr (v:=⟨vn,vk⟩) (aB (D _ _) (J #[I ⟨vn.toArray⟩,N O vk] 61)) a2 q1 z7 hg z8);refine E _ _ ⟨V,ξ.1 3⟩ ?_;have Ξ:=ξ.1 3;have u3:=ξ.2.1 3;clear E K z7 hg z8 ξ;refine qC ?_;refine bA rfl rfl rfl (λK E=>?_);go_simp;refine E _ _ V ?_;clear E K;refine aH ?_;have z9:=C (Ω.q.2.2 _ _ _ _ z5.q);go_wp2_with fail;have ψ:wrap64 ((k:M)+1)=((k+1:Nat):M):=by have:=ο.q;have:=ε.q;unfold wrap64;omega
        go_roundw
        case rel=>exact⟨_,k+1,g,y2,z0,z3,_,_,rfl,aam,z9.q,Ω.q.1,Ω.q.2.1 _ _ y3.q (aC _),y4.q,q7.q,aao,(λe=>aaA),aaq,aar,aas⟩
        case measure=>exact rF HC.q z9.q (λe=>aaB)
      .skip
       have b8:S<p4:=by have:=y8.1 j0;omega
       have hgt:decide ((S:M)<(p4:M))=true:=by simp;omega
       have XB:decide (S<p4)=true:=by simp;omega
       have HY:L (X=dh (fM 3 (b::t) (bU (b::t))) (λnm r1=>if x=4 then dh (jL r1) λ_ r2=>dh (dN r2) λv r3=>eB x o g (k+1) (jr (addN y nm) v) r3 else eB x o g (k+1) (addN y nm) r1)):=C (by have:=b4.q;rw[aA ⟨Yo.q,j0⟩] at this;rw[nD _ aj];exact this);have k1:L (∀m r,fM 3 (b::t) (bU (b::t))= .ok (m,r)->k<o):=C (λm r h=>by rw[nD _ aj] at h;cases h);have k2:L (xK 3 (b::t)):=C (λe=>absurd e aj);clear b8 y8 b7 u1 j0 b6 c0 ρ q1;go_wp2_with fail;refine(gq _ (π.q.below q4.q) 0 (aS _) S rfl 3).mono ?_;rintro e w5 ⟨rfl,u4,b9⟩;have v5:L (cB w5 B s S (b::t) 3):=C u4;have v9:=C ((v2.q.below q4.q).cs b9);have k0:=C ((v7.q.trans (Mv.of_below q4.q)).cs b9);clear u4 b9 ca;go_wp2_with fail;refine(tT _ v5.q k2.q).mono ?_;rintro e w6 ⟨m,q6,l6,σ,rfl,j1,τ,ζ⟩;have υ:=C j1;have A:=C (v9.q.cs τ);have j2:=C (k0.q.cs τ);have j3:L (X=fM σ l6 (if x=4 then dh (jL l6) λ_ r2=>dh (dN r2) λv r3=>eB x o g (k+1) (jr (addN y m) v) r3 else eB x o g (k+1) (addN y m) l6)):=C aai;have φ:L (σ=0->k<o/\l6.length<=(b::t).length - 1):=C (λe=>by subst e;rw[kr] at ζ;refine⟨k1.q _ _ ζ,?_⟩;obtain⟨e5,hn⟩:=pF (ζ.trans (kr _ _).symm) rfl;cases hB:bY (b::t);(·rw[tq hB] at hn;cases hn);(·have:=(yP v0.q (hn.trans (kr _ _).symm)).1 hB;omega));clear j1 τ ζ;have κ:=A.q.n.1.2.2.2.2.1;have j4:L (y.names.length+1=j.nn+1):=C ah;have j5:L ((j.nn+1)*16<=140737488355328):=C aaj;have j6:L (j.nn+1<=maxLen):=C aak;have j7:L (B+1<=(w6.alloc (J #[I ⟨m.toArray⟩] 9)).1.size):=C aal;clear κ;have T:=A.q.x.1;have γ:=A.q.x.2.1
       cases h4:(x==4)
       .skip
        have β:x≠4:=aN.1 h4;have χ:=C β;clear β
        go_wp2_with (at_builtin;refine dx rfl _ _ 22 rfl i z 16 underlying22 P.q.1 P.q.2.1 P.q.2.2.1 P.q.2.2.2.1 P.q.2.2.2.2 rfl (A.q.n.2.1.alloc _) (G ⟨w6.1.size,0,H⟩) 1 1 (j.nn+1) [m] rfl (Row.str1 w6 m) j4.q j5.q j6.q j7.q ?_;intro a' c' w7 η Y θ;have Z:=(A.q.x.keep (aB (D _ _) (J #[I ⟨m.toArray⟩] 9))).grown Y (λe=>(A.q.an _ e).1 rfl);have α:=C (A.q.addN (aB (D _ _) (J #[I ⟨m.toArray⟩] 9)) a' c' η Y θ);clear T γ;have T:=Z.1;have γ:=Z.2.1;clear η Y θ Z)
        have μ:=C (α.q.2.2 _ _ _ _ υ.q);have ψ:wrap64 ((k:M)+1)=((k+1:Nat):M):=by have:=ο.q;have:=ε.q;unfold wrap64;omega
        go_roundw
        case rel=>exact⟨_,k+1,g,q6,l6,σ,_,_,rfl,aam,μ.q,α.q.1,α.q.2.1 _ _ j2.q (aC _),aan,q7.q,aao,(λe=>aap),aaq,aar,aas⟩
        case measure=>exact rF HC.q μ.q (λe=>aat)
       .skip
        have β:x=4:=eq_of_beq h4;have χ:=C β;clear β
        go_wp2_with (at_builtin;refine dx rfl _ _ 22 rfl i z 16 underlying22 P.q.1 P.q.2.1 P.q.2.2.1 P.q.2.2.2.1 P.q.2.2.2.2 rfl (A.q.n.2.1.alloc _) (G ⟨w6.1.size,0,H⟩) 1 1 (j.nn+1) [m] rfl (Row.str1 w6 m) j4.q j5.q j6.q j7.q ?_;intro a' c' w7 η Y θ;have Z:=(A.q.x.keep (aB (D _ _) (J #[I ⟨m.toArray⟩] 9))).grown Y (λe=>(A.q.an _ e).1 rfl);have α:=C (A.q.addN (aB (D _ _) (J #[I ⟨m.toArray⟩] 9)) a' c' η Y θ);clear T γ;have T:=Z.1;have γ:=Z.2.1;clear η Y θ Z)
        have μ:=C (α.q.2.2 _ _ _ _ υ.q);have k3:=C (α.q.2.1 _ _ j2.q (aC _));refine(oM _ μ.q).mono ?_;rintro e w9 ⟨u,q9,l9,k4,rfl,j8,ω,ν⟩;have k5:=C j8;have Γ:=C (α.q.1.cs ω);have k6:=C (k3.q.cs ω);have k7:=C (oN ν);have Δ:=j3.q;rw[aA χ.q] at Δ;have k8:=C (gu Δ ν);clear Δ;have k9:L (k4=0->k<o/\l9.length<=(b::t).length - 1):=C (λe=>aau);clear j8 ω ν;have κ:=Γ.q.n.1.2.2.2.2.2;have Θ:L (y.aM.length+1=j.vn+1):=C aav;have y0:L ((j.vn+1)*24<=140737488355328):=C aaw;have y1:L (j.vn+1<=maxLen):=C aax;clear κ T γ;have Ξ:w9.cell? ⟨w.1.size,3,H⟩=G (.slice j.va j.vn j.vc):=Γ.q.x.1 3;go_wp2_with fail;refine aD 7 [(0,1),(1,0),(2,1),(3,2),(4,2),(5,2),(6,1),(7,2)] (λ_=>True) (λF=>F.cell? ⟨w.1.size,3,H⟩=G (.slice j.va j.vn j.vc)) au au (trivial) (Ξ) ?_;refine qC ?_;refine aG rfl rfl (λK E=>?_);go_simp;refine(tV _ k5.q.drew k7.q).mono ?_;rintro e j9 ⟨⟨vn,vk⟩,y2,z0,z3,rfl,z4,Φ,Ψ⟩;have z5:=C z4;have δ:=C ((Γ.q.below (D _ _).drew).cs Φ);have y3:=C ((k6.q.trans (Mv.of_below (D _ _).drew)).cs Φ);have y4:=C (gu k8.q Ψ);have z6:L (z3=0->k<o/\z0.length<=(b::t).length - 1):=C (λe=>aay);refine E _ _ ⟨V,δ.q.x.1 3⟩ ?_;have y5:L (B+1<=(j9.alloc (J #[I ⟨vn.toArray⟩,N O vk] 61)).1.size):=C aaz;clear E K z4 Φ Ψ Ξ;refine aG rfl rfl (λK E=>?_);go_simp;refine E _ _ ⟨V,(δ.q.below (aB (D _ _) _)).x.1 3⟩ ?_;clear E K;refine aG rfl rfl (λK E=>?_);refine gK _ _ 32 rfl i2 z2 24 underlying32 ι.q.1 ι.q.2.1 ι.q.2.2.1 ι.q.2.2.2.1 ι.q.2.2.2.2 rfl (δ.q.n.2.2.alloc _) (G ⟨j9.1.size,0,H⟩) 1 1 (j.vn+1) [⟨vn,vk⟩] rfl (Row.toN rfl ⟨vn,vk⟩) Θ.q y0.q y1.q y5.q ?_;intro a2 q1 u2 z7 hg z8;have ξ:=(δ.q.x.keep (aB (D _ _) (J #[I ⟨vn.toArray⟩,N O vk] 61))).grown hg (λe=>(δ.q.av _ e).1 rfl);have Ω:=C (δ.q.jr (v:=⟨vn,vk⟩) (aB (D _ _) (J #[I ⟨vn.toArray⟩,N O vk] 61)) a2 q1 z7 hg z8);refine E _ _ ⟨V,ξ.1 3⟩ ?_;have Ξ:=ξ.1 3;have u3:=ξ.2.1 3;clear E K z7 hg z8 ξ;refine qC ?_;refine bA rfl rfl rfl (λK E=>?_);go_simp;refine E _ _ V ?_;clear E K;refine aH ?_;have z9:=C (Ω.q.2.2 _ _ _ _ z5.q);go_wp2_with fail;have ψ:wrap64 ((k:M)+1)=((k+1:Nat):M):=by have:=ο.q;have:=ε.q;unfold wrap64;omega
        go_roundw
        case rel=>exact⟨_,k+1,g,y2,z0,z3,_,_,rfl,aam,z9.q,Ω.q.1,Ω.q.2.1 _ _ y3.q (aC _),y4.q,q7.q,aao,(λe=>aaA),aaq,aar,aas⟩
        case measure=>exact rF HC.q z9.q (λe=>aaB)
     .skip
      have hev:((k:M)==(o:M))=false:=aN.2 ah;have HY:L (X=dh (fM 0 (b::t) (bU (b::t))) (λnm r1=>if x=4 then dh (jL r1) λ_ r2=>dh (dN r2) λv r3=>eB x o g (k+1) (jr (addN y nm) v) r3 else eB x o g (k+1) (addN y nm) r1)):=C (by have:=b4.q;rw[ay (λe=>v8 e.1)] at this;rw[lM];exact this);have k1:L (∀m r,fM 0 (b::t) (bU (b::t))= .ok (m,r)->k<o):=C (λm r h=>by have:=ο.q;omega);have k2:L (xK 0 (b::t)):=C (λ_=>⟨b,t,rfl,x8.q,v0.q⟩);have q4:=C (xA w3 s S);have v5:=C (π.q.below q4.q);have v9:=C (v2.q.below q4.q);have k0:=C (v7.q.trans (Mv.of_below q4.q));clear v8;go_wp2_with fail;refine(tT _ v5.q k2.q).mono ?_;rintro e w6 ⟨m,q6,l6,σ,rfl,j1,τ,ζ⟩;have υ:=C j1;have A:=C (v9.q.cs τ);have j2:=C (k0.q.cs τ);have j3:L (X=fM σ l6 (if x=4 then dh (jL l6) λ_ r2=>dh (dN r2) λv r3=>eB x o g (k+1) (jr (addN y m) v) r3 else eB x o g (k+1) (addN y m) l6)):=C aai;have φ:L (σ=0->k<o/\l6.length<=(b::t).length - 1):=C (λe=>by subst e;rw[kr] at ζ;refine⟨k1.q _ _ ζ,?_⟩;obtain⟨e5,hn⟩:=pF (ζ.trans (kr _ _).symm) rfl;cases hB:bY (b::t);(·rw[tq hB] at hn;cases hn);(·have:=(yP v0.q (hn.trans (kr _ _).symm)).1 hB;omega));clear j1 τ ζ;have κ:=A.q.n.1.2.2.2.2.1;have j4:L (y.names.length+1=j.nn+1):=C ah;have j5:L ((j.nn+1)*16<=140737488355328):=C aaj;have j6:L (j.nn+1<=maxLen):=C aak;have j7:L (B+1<=(w6.alloc (J #[I ⟨m.toArray⟩] 9)).1.size):=C aal;clear κ;have T:=A.q.x.1;have γ:=A.q.x.2.1
      cases h4:(x==4)
      .skip
       have β:x≠4:=aN.1 h4;have χ:=C β;clear β
       go_wp2_with (at_builtin;refine dx rfl _ _ 22 rfl i z 16 underlying22 P.q.1 P.q.2.1 P.q.2.2.1 P.q.2.2.2.1 P.q.2.2.2.2 rfl (A.q.n.2.1.alloc _) (G ⟨w6.1.size,0,H⟩) 1 1 (j.nn+1) [m] rfl (Row.str1 w6 m) j4.q j5.q j6.q j7.q ?_;intro a' c' w7 η Y θ;have Z:=(A.q.x.keep (aB (D _ _) (J #[I ⟨m.toArray⟩] 9))).grown Y (λe=>(A.q.an _ e).1 rfl);have α:=C (A.q.addN (aB (D _ _) (J #[I ⟨m.toArray⟩] 9)) a' c' η Y θ);clear T γ;have T:=Z.1;have γ:=Z.2.1;clear η Y θ Z)
       have μ:=C (α.q.2.2 _ _ _ _ υ.q);have ψ:wrap64 ((k:M)+1)=((k+1:Nat):M):=by have:=ο.q;have:=ε.q;unfold wrap64;omega
       go_roundw
       case rel=>exact⟨_,k+1,g,q6,l6,σ,_,_,rfl,aam,μ.q,α.q.1,α.q.2.1 _ _ j2.q (aC _),aan,q7.q,aao,(λe=>aap),aaq,aar,aas⟩
       case measure=>exact rF HC.q μ.q (λe=>aat)
      .skip
       have β:x=4:=eq_of_beq h4;have χ:=C β;clear β
       go_wp2_with (at_builtin;refine dx rfl _ _ 22 rfl i z 16 underlying22 P.q.1 P.q.2.1 P.q.2.2.1 P.q.2.2.2.1 P.q.2.2.2.2 rfl (A.q.n.2.1.alloc _) (G ⟨w6.1.size,0,H⟩) 1 1 (j.nn+1) [m] rfl (Row.str1 w6 m) j4.q j5.q j6.q j7.q ?_;intro a' c' w7 η Y θ;have Z:=(A.q.x.keep (aB (D _ _) (J #[I ⟨m.toArray⟩] 9))).grown Y (λe=>(A.q.an _ e).1 rfl);have α:=C (A.q.addN (aB (D _ _) (J #[I ⟨m.toArray⟩] 9)) a' c' η Y θ);clear T γ;have T:=Z.1;have γ:=Z.2.1;clear η Y θ Z)
       have μ:=C (α.q.2.2 _ _ _ _ υ.q);have k3:=C (α.q.2.1 _ _ j2.q (aC _));refine(oM _ μ.q).mono ?_;rintro e w9 ⟨u,q9,l9,k4,rfl,j8,ω,ν⟩;have k5:=C j8;have Γ:=C (α.q.1.cs ω);have k6:=C (k3.q.cs ω);have k7:=C (oN ν);have Δ:=j3.q;rw[aA χ.q] at Δ;have k8:=C (gu Δ ν);clear Δ;have k9:L (k4=0->k<o/\l9.length<=(b::t).length - 1):=C (λe=>aau);clear j8 ω ν;have κ:=Γ.q.n.1.2.2.2.2.2;have Θ:L (y.aM.length+1=j.vn+1):=C aav;have y0:L ((j.vn+1)*24<=140737488355328):=C aaw;have y1:L (j.vn+1<=maxLen):=C aax;clear κ T γ;have Ξ:w9.cell? ⟨w.1.size,3,H⟩=G (.slice j.va j.vn j.vc):=Γ.q.x.1 3;go_wp2_with fail;refine aD 7 [(0,1),(1,0),(2,1),(3,2),(4,2),(5,2),(6,1),(7,2)] (λ_=>True) (λF=>F.cell? ⟨w.1.size,3,H⟩=G (.slice j.va j.vn j.vc)) au au (trivial) (Ξ) ?_;refine qC ?_;refine aG rfl rfl (λK E=>?_);go_simp;refine(tV _ k5.q.drew k7.q).mono ?_;rintro e j9 ⟨⟨vn,vk⟩,y2,z0,z3,rfl,z4,Φ,Ψ⟩;have z5:=C z4;have δ:=C ((Γ.q.below (D _ _).drew).cs Φ);have y3:=C ((k6.q.trans (Mv.of_below (D _ _).drew)).cs Φ);have y4:=C (gu k8.q Ψ);have z6:L (z3=0->k<o/\z0.length<=(b::t).length - 1):=C (λe=>aay);refine E _ _ ⟨V,δ.q.x.1 3⟩ ?_;have y5:L (B+1<=(j9.alloc (J #[I ⟨vn.toArray⟩,N O vk] 61)).1.size):=C aaz;clear E K z4 Φ Ψ Ξ;refine aG rfl rfl (λK E=>?_);go_simp;refine E _ _ ⟨V,(δ.q.below (aB (D _ _) _)).x.1 3⟩ ?_;clear E K;refine aG rfl rfl (λK E=>?_);refine gK _ _ 32 rfl i2 z2 24 underlying32 ι.q.1 ι.q.2.1 ι.q.2.2.1 ι.q.2.2.2.1 ι.q.2.2.2.2 rfl (δ.q.n.2.2.alloc _) (G ⟨j9.1.size,0,H⟩) 1 1 (j.vn+1) [⟨vn,vk⟩] rfl (Row.toN rfl ⟨vn,vk⟩) Θ.q y0.q y1.q y5.q ?_;intro a2 q1 u2 z7 hg z8;have ξ:=(δ.q.x.keep (aB (D _ _) (J #[I ⟨vn.toArray⟩,N O vk] 61))).grown hg (λe=>(δ.q.av _ e).1 rfl);have Ω:=C (δ.q.jr (v:=⟨vn,vk⟩) (aB (D _ _) (J #[I ⟨vn.toArray⟩,N O vk] 61)) a2 q1 z7 hg z8);refine E _ _ ⟨V,ξ.1 3⟩ ?_;have Ξ:=ξ.1 3;have u3:=ξ.2.1 3;clear E K z7 hg z8 ξ;refine qC ?_;refine bA rfl rfl rfl (λK E=>?_);go_simp;refine E _ _ V ?_;clear E K;refine aH ?_;have z9:=C (Ω.q.2.2 _ _ _ _ z5.q);go_wp2_with fail;have ψ:wrap64 ((k:M)+1)=((k+1:Nat):M):=by have:=ο.q;have:=ε.q;unfold wrap64;omega
       go_roundw
       case rel=>exact⟨_,k+1,g,y2,z0,z3,_,_,rfl,aam,z9.q,Ω.q.1,Ω.q.2.1 _ _ y3.q (aC _),y4.q,q7.q,aao,(λe=>aaA),aaq,aar,aas⟩
       case measure=>exact rF HC.q z9.q (λe=>aaB)
    .have HD:=C (b1 rfl)
     clear b2 b1;obtain⟨q3,f0⟩:∃q3,q3=S+1:=⟨_,rfl⟩;have hqi:(S:M)+1=(q3:M):=by omega
     have y9:=π.q.go 1 ak q3 f0;have Yp:=C y9;have ZV:=C f0;have Yq:=C ((v2.q.cs y9.2).NR true);have Yr:=C (((v7.q.cs y9.2).set (aC _) 4 (.bool true)).as (c':={j with first:=true}) rfl rfl);have c0:=π.q.x.1 0;have ρ:=π.q.x.1 1;have z1:=π.q.x.2.1 1;have T:=v2.q.x.1;have γ:=v2.q.x.2.1;clear y9 f0;go_wp2_with fail;have u5:=C (Yp.q.1.qG w.1.size 4 (.bool true) (by have:=w1.q;omega));go_roundw
     case rel=>exact⟨_,0,g,q3,t,0,_,_,rfl,by first|rfl|go_num,u5.q,Yq.q,Yr.q,(by have:=x7.q;rw[lM,ay (show ¬(true=false) by simp),aA HD.q] at this;rw[lM];exact this),q7.q,aS _,λ_=>aS _,(by have:=HF.q;rw[HD.q.2.2.1,HD.q.2.1] at this;simp at this;simp;omega),(by have:=R.q.1;rw[HD.q.2.1] at this;exact this),(by have:=R.q.2;rw[HD.q.2.1] at this;exact this)⟩
     case measure=>exact rF HC.q u5.q (λ_=>by have:=v1.q;simp at this ⊢;omega)
end Yd
