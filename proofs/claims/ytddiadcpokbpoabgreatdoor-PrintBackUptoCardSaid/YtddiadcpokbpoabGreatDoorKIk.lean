import Derived.Test.YtddiadcpokbpoabGreatDoorKFm1
import Derived.Test.YtddiadcpokbpoabGreatDoorKRSame
set_option linter.all false
set_option maxRecDepth 200000
set_option maxHeartbeats 8000000
namespace Yd
open List renaming range->J
open Option renaming some->L,none->O
open Go Go.RowKit Go.Proofs Go.Maps Tryz
open Go.Value renaming pointer->G
open Tryz renaming prog->N
open Yd renaming hid->C
open _root_ renaming List->H,Int->I,Bool->U
def zf:Nat->I
 |0=>300
 |1=>60
 |2=>300
 |_=>60
def qD (w:World):Prop:=Lib.Utf8Tabs 6 7 w/\∀i,i<4->w.cell? ⟨2,i,O⟩=L (.int .i64 (zf i))
theorem qD.below {w X:World}(h:qD w)(a:Below w.1.size w X):qD X:=by
 refine⟨Utf8Tabs_below h.1 a,λi c=>?_⟩;rw[a.cell (p:=⟨2,i,O⟩) (dQ (h.2 i c))];exact h.2 i c
def HC.nm (h:HC):Nat->Sl
 |0=>h.t
 |1=>h.s
 |2=>h.o
 |_=>h.p
theorem IU (h:HC)(i:Nat)(a:i<4)(w:World):(Instr.index 91 (.agg #[h.t.v,h.s.v,h.o.v,h.p.v]) (.int .i64 i)).run N w= .ok (h.nm i).v w:=by
 match i,a with
 |0,_=>exact WO h w
 |1,_=>exact WQ h w
 |2,_=>exact WR h w
 |3,_=>exact WS h w
theorem aal (a b c:I)(w:World):(Builtin.max_ #[3,3,3] 3 #[.int .i64 a,.int .i64 b,.int .i64 c]).run N w= .ok (.int .i64 (if c>(if b>a then b else a) then c else(if b>a then b else a))) w:=by
 simp[Builtin.max_,Builtin.max2]
def mO (ns:H Bs):U:=ns.all (λs=>bG ⟨s.toArray⟩) && decide ns.Nodup
def nT (a:Nat->H Bs)(i:Nat):U:=decide (((a i).length:I)<=zf i) && mO (a i)
def Bt (h:HC):U:=decide ((h.e.n:I)<=3000) && decide ((if(h.w.n:I)>(if(h.m.n:I)>h.d.n then(h.m.n:I) else h.d.n) then(h.w.n:I) else(if(h.m.n:I)>h.d.n then(h.m.n:I) else h.d.n))<=3000)
def Deep (w:World)(h:HC)(es:H EvC)(a:H aG)(c:H aK)(d:H Wa)(e:EvC->H Sn)(f:aG->H I)(g:aK->H I):Prop:=
 Row w 9 dx h.e.a h.e.n h.e.c es/\Row w 2 dV h.d.a h.d.n h.d.c a/\Row w 4 eB h.m.a h.m.n h.m.c c/\Row w 2 fE h.w.a h.w.n h.w.c d/\
 (∀x∈es,Row w 3 cZ x.sa x.sn x.sc (e x))/\(∀x∈a,Row w 1 aS x.sa x.sn x.sc (f x))/\(∀x∈c,Row w 1 aS x.sa x.sn x.sc (g x))
def Cz (h:HC)(a:aG->H I)(x:aG):U:=aY x.obj h.o.n && fu h.t.n (a x)
def CB (h:HC)(a:aK->H I)(x:aK):U:=aY x.pred h.p.n && aY x.obj h.o.n && fu h.t.n (a x)
def zh (h:HC)(x:Wa):U:=aY x.eH h.s.n && decide (0<=x.bits) && decide (x.bits<=15)
def ni (h:HC)(a:Nat->H Bs):U:=Bt h && (J 4).all (nT a)
def gB (h:HC)(a:Nat->H Bs)(es:H EvC)(c:H aG)(d:H aK)(f:H Wa)(g:EvC->H Sn)(i:aG->H I)(j:aK->H I):U:=
 ni h a && es.all (λe=>fZ h.t.n h.s.n h.o.n h.p.n e (g e)) && c.all (Cz h i) && d.all (CB h j) && f.all (zh h)
theorem JZ {a:Nat->H Bs}{R f g d:U}{k:Nat}(i:k<4)(j:f=(R && (J k).all (nT a)))(l:g=(f && d))(m:nT a k=(d && mO (a k)))
  (h:g=false\/mO (a k)=false):(R && (J 4).all (nT a))=false:=by
 cases c:(R && (J 4).all (nT a))
 .rfl
 .simp only[aM,dZ,oG] at c
  have e:=c.2 k i;have n:(J k).all (nT a)=true:=by simp only[dZ,oG];exact λx p=>c.2 x ah
  rw[m,aM] at e;rw[l,j,c.1,n,e.1] at h;simp[e.2] at h
theorem Mt {a:Nat->H Bs}{R c e d:U}{k:Nat}(f:c=(R && (J k).all (nT a)))(g:e=(c && d))(i:nT a k=(d && mO (a k)))
  (h:mO (a k)=true):e=(R && (J (k+1)).all (nT a)):=by
 simp[List.range_succ,g,f,i,h,AY]
variable{ns:H Bs}
theorem Rn (a:ns.all (λs=>bG ⟨s.toArray⟩)=true)(c:ns.Nodup):mO ns=true:=by simp only[mO,a,c,decide_true,Bool.and_self]
theorem O0 {x:Bs}{j:Nat}(c:ns[j]?=L x)(d:bG ⟨x.toArray⟩=false):mO ns=false:=by
 cases a:mO ns
 .rfl
 .simp only[mO,aM,dZ] at a
  have:=a.1 x (dA c);rw[d] at this;cases this
theorem O1 {x:Bs}{j:Nat}(f:ns[j]?=L x)(c:decide (x∈ns.take j)=true):mO ns=false:=by
 cases d:mO ns
 .rfl
 .simp only[mO,aM,aV] at d c
  obtain⟨i,a⟩:=List.getElem?_of_mem c;have e:i<j:=by
   have:=(bK.1 a).1;simp at this;omega
  rw[List.getElem?_take_of_lt e] at a;have g:=(bK.1 a);have h:=(bK.1 f);obtain⟨k,l⟩:=g;obtain⟨m,n⟩:=h;exact absurd (l.trans n.symm) (BB.1 d.2 i j k m e)
theorem D7 (h:HC)(d:Nat->H Bs)(es:H EvC)(X:H aG)(Y:H aK)(Z:H Wa)(β:EvC->H Sn)(dn:aG->H I)(mn:aK->H I)(w:World)(hg:qD w)
  (hn:∀i,i<4->Row w 1 encStr (h.nm i).a (h.nm i).n (h.nm i).c (d i)) (hd:Deep w h es X Y Z β dn mn):
  Calls N 26 #[bC h] w (cO (.bool (gB h d es X Y Z β dn mn)) w):=by
 have x5:= @run_makeMap N;have z6:=aal h.d.n h.m.n h.w.n;go_enter Tryz.func26,Tryz.ntmps26;obtain⟨R,hR⟩:∃R:U,R=Bt h:=⟨_,rfl⟩;have HR:=C hR;clear hR;obtain⟨S,hS⟩:∃S:U,S=gB h d es X Y Z β dn mn:=⟨_,rfl⟩;rw[<-hS];have HS:=C hS;have y:=C hd;clear hS hd;obtain⟨E,hE⟩:∃E:U,E=es.all (λe=>fZ h.t.n h.s.n h.o.n h.p.n e (β e)):=⟨_,rfl⟩;obtain⟨D,hD⟩:∃D:U,D=X.all (Cz h dn):=⟨_,rfl⟩;obtain⟨M,hM⟩:∃M:U,M=Y.all (CB h mn):=⟨_,rfl⟩;obtain⟨V,hV⟩:∃V:U,V=Z.all (zh h):=⟨_,rfl⟩;have z7:Hid (∀c,Below w.1.size w c->Bx c w.1.size (aD h)->Calls N 68 #[.slice h.e.a h.e.n h.e.c,.func (.func 69) #[] #[G (L ⟨w.1.size,0,O⟩)]] c (cO (.bool E) c)):=λc f r=>by
  rw[hE];exact Y8 h.e.a h.e.n h.e.c 69 #[G (L ⟨w.1.size,0,O⟩)] es _ c (y.q.1.below f rfl) call69
   (λx F z n=>WT h x (β x) w.1.size z (r.keep n) ((y.q.2.2.2.2.1 x F).below (f.trans (n.mono f.size)) rfl))
 have z8:Hid (∀c p,Below w.1.size w c->Bx c w.1.size (aD h)->Bx c p #[.func (.func 64) #[] #[G (L ⟨w.1.size,0,O⟩)]]->Calls N 71 #[.slice h.d.a h.d.n h.d.c,.func (.func 72) #[] #[G (L ⟨w.1.size,0,O⟩),G (L ⟨p,0,O⟩)]] c (cO (.bool D) c)):=λc p f r h9=>by
  rw[hD];exact Y9 h.d.a h.d.n h.d.c 72 #[G (L ⟨w.1.size,0,O⟩),G (L ⟨p,0,O⟩)] X _ c (y.q.2.1.below f rfl) call72
   (λx F z n=>WU h x (dn x) w.1.size p z (r.keep n) (h9.keep n) ((y.q.2.2.2.2.2.1 x F).below (f.trans (n.mono f.size)) rfl))
 have z9:Hid (∀c p,Below w.1.size w c->Bx c w.1.size (aD h)->Bx c p #[.func (.func 64) #[] #[G (L ⟨w.1.size,0,O⟩)]]->Calls N 73 #[.slice h.m.a h.m.n h.m.c,.func (.func 74) #[] #[G (L ⟨w.1.size,0,O⟩),G (L ⟨p,0,O⟩)]] c (cO (.bool M) c)):=λc p f r h9=>by
  rw[hM];exact Za h.m.a h.m.n h.m.c 74 #[G (L ⟨w.1.size,0,O⟩),G (L ⟨p,0,O⟩)] Y _ c (y.q.2.2.1.below f rfl) call74
   (λx F z n=>WV h x (mn x) w.1.size p z (r.keep n) (h9.keep n) ((y.q.2.2.2.2.2.2 x F).below (f.trans (n.mono f.size)) rfl))
 have v0:Hid (∀c,Below w.1.size w c->Bx c w.1.size (aD h)->Calls N 75 #[.slice h.w.a h.w.n h.w.c,.func (.func 76) #[] #[G (L ⟨w.1.size,0,O⟩)]] c (cO (.bool V) c)):=λc f r=>by
  rw[hV];exact Zb h.w.a h.w.n h.w.c 76 #[G (L ⟨w.1.size,0,O⟩)] Z _ c (y.q.2.2.2.1.below f rfl) call76
   (λx F z n=>WW h x w.1.size z (r.keep n))
 have κ:Hid (S=(ni h d && E && D && M && V)):=by rw[hE,hD,hM,hV];exact HS.q
 clear hE hD hM hV;have Δ:=IU h;obtain⟨m,hm⟩:∃m:I,m=(if(h.w.n:I)>(if(h.m.n:I)>h.d.n then(h.m.n:I) else h.d.n) then(h.w.n:I) else(if(h.m.n:I)>h.d.n then(h.m.n:I) else h.d.n)):=⟨_,rfl⟩;have v1:Hid (R=(decide ((h.e.n:I)<=3000) && decide (m<=3000))):=by rw[hm];exact HR.q
 rw[<-hm] at z6;clear hm;have j8:=(Bx.new w (aD h) 28);have v2:=C j8;have HN:=C hn;have HG:=C hg;clear j8 hn hg
 cases he:decide ((h.e.n:I)<=3000)
 all_goals cases γ:decide (m<=3000)
 all_goals
  have μ:R=_:=v1.q;rw[he,γ] at μ;simp only[Bool.and_true,Bool.and_false] at μ;have v3:=C μ;clear μ;go_wp2_with fail
  go_step3
  go_wp2_with fail
  go_step3
  go_wp2_with (go_at_call 28;refine(kC h _).mono ?_;rintro e w1 ⟨rfl,Θ⟩)
  clear he γ;have v4:=C (((Below.refl w.1.size w).alloc (aB _) (.cells (aD h) 28)).trans (Θ.mono ak));have v5:=C (v2.q.keep Θ);clear Θ
  go_loopw [3,29] (λb i wr=>∃(k:Nat)(K:U),k<=4/\i= .int .i64 k/\b= .bool K/\K=(R && (J k).all (nT d))/\Below w.1.size w wr/\Bx wr w.1.size (aD h)) (λ_ i _=>4 - (RowKit.intOf i).toNat)
  case atStart=>exact⟨0,_,by omega,rfl,rfl,by simp[v3.q],v4.q,v5.q⟩
  case round=>
   obtain⟨k,K,hk,rfl,rfl,ν,δ,ξ⟩:=hrel;obtain⟨A,v6⟩:∃A,A=wr:=⟨_,rfl⟩;subst v6;by_cases ο:k<4
   .have ε:=C ν;have t:=C δ;have π:=C ξ
    have v7:(A.alloc (.map #[] 0)).cell? ⟨2,k,O⟩=L (.int .i64 (zf k)):=((HG.q.below δ).below ((Below.refl _ _).alloc (aB _) _)).2 k ο;have ρ:=HN.q k ο;obtain⟨sl,ζ⟩:∃sl,sl=h.nm k:=⟨_,rfl⟩;have Ξ:=Δ k ο;rw[<-ζ] at ρ Ξ;obtain⟨sa,u,sc⟩:=sl;have x6:∀W:World,(Instr.index 91 (.agg #[h.t.v,h.s.v,h.o.v,h.p.v]) (.int .i64 k)).run N W= .ok (.slice sa u sc) W:=Ξ;clear Ξ;have σ:=C ρ;have x7:=C Δ;obtain⟨Φ,Ψ⟩:∃l:I,l=zf k:=⟨_,rfl⟩;rw[<-Ψ] at v7;have Ω:nT d k=(decide ((u:I)<=Φ) && mO (d k)):=by unfold nT;rw[ρ.len,Ψ]
    clear ν δ ξ ρ ζ Δ Ψ;obtain⟨P,τ⟩:∃P:U,P=(K && decide ((u:I)<=Φ)):=⟨_,rfl⟩;have q0:Hid ((P=false\/mO (d k)=false)->S=false):=λv8=>by
     have:=JZ ο ε.q τ Ω v8;rw[HS.q,gB,ni,<-HR.q,this];rfl
    have v9:Hid (mO (d k)=true->P=(R && (J (k+1)).all (nT d))):=Mt ε.q τ Ω;have k0:=C τ;clear τ Ω
    cases K
    all_goals cases ζ:decide ((u:I)<=Φ)
    all_goals
     have k1:=C ζ;go_wp2_with fail;clear ζ;have k2:=C (t.q.alloc t.q.size (.map #[] 0));have k3:=C (π.q.alloc (.map #[] 0));have HM:=C (sJ.new A);have k4:=C t.q.size;have k5:Hid (w.1.size≠A.1.size):=Nat.ne_of_lt π.q.2.2
     go_loopw [3,45] (λb i wv=>∃(j:Nat)(bj:U),j<=u/\i= .int .i64 j/\b= .bool bj/\bj=P/\(0<j->P=true)/\((d k).take j).all (λs=>bG ⟨s.toArray⟩)=true/\((d k).take j).Nodup/\
       Below w.1.size w wv/\Bx wv w.1.size (aD h)/\sJ wv A.1.size ((d k).take j)) (λ_ i _=>u - (RowKit.intOf i).toNat)
     case atStart=>exact⟨0,_,bn _,rfl,rfl,by rw[k0.q,k1.q];rfl,λh=>absurd h aj,rfl,oI,k2.q,k3.q,HM.q⟩
     case round=>
      obtain⟨j,bj,hj,rfl,rfl,υ,q1,η,θ,Q,φ,q2⟩:=hrel;have x8:=σ.q.le;by_cases k6:j<u
      .obtain⟨x,b,o,r,k7,hc⟩:=(σ.q.below Q rfl).at_ k6
       have k8:=hc 0 _ rfl;simp only[gJ,dB] at k8;have j9:=(HG.q.below Q).1;have HX:=C r;have k9:=C η;have y0:=C θ;have x9:=C q1;have q3:=C υ;have v:=C Q;have χ:=C φ;have ψ:=C q2;subst k7;have z0:=C (CP ⟨x.toArray⟩ wr j9);clear hc r η θ q1 υ Q φ q2 j9
       cases bj
       .go_wp2_with fail
        go_ret;exact⟨by rw[q0.q (.inl q3.q.symm)];rfl,v.q.alloc v.q.size _⟩
       .cases hw:bG ⟨x.toArray⟩
        .have B:=C hw;clear hw
         go_wp2_with fail;refine z0.q.mono ?_;rintro e w2 ⟨rfl,g⟩;rw[B.q];have q:=C (v.q.bQ g);clear g;go_wp2_with fail;go_ret;exact⟨by rw[q0.q (.inr (O0 HX.q B.q))];rfl,q.q.alloc q.q.size _⟩
        .have B:=C hw;clear hw
         go_wp2_with fail;refine z0.q.mono ?_;rintro e w2 ⟨rfl,g⟩;rw[B.q];have z1:=(ψ.q.of_eq (g.block _ ψ.q.lt)).look x (sS B.q);obtain⟨w3,b1,γ,ω⟩:=(ψ.q.of_eq (g.block _ ψ.q.lt)).put x (sS B.q) (by have:=σ.q.le;simp;unfold maxLen;omega);have q:=C (v.q.bQ g);have y1:=C γ;have y2:=C ω;have q4:=C ((χ.q.keep g).of_eq ω.size (ω.block _ (bP χ.q.2.2 g.size) (λe=>k5.q (by simpa using e))));clear g γ ω
         cases T:decide (x∈(d k).take j)
         .rw[T] at z1
          have q5:=C T;clear T;go_wp2_with fail;go_roundw
          case rel=>
           have ι:(d k).take (j+1)=(d k).take j++[x]:=by rw[ig,HX.q];rfl
           refine⟨j+1,true,by omega,by go_num,rfl,q3.q,λ_=>q3.q.symm,?_,?_,q.q.grown y2.q q.q.size (λi hi=>by cases hi;exact k4.q),q4.q,by rw[ι];exact y1.q⟩
           .rw[ι,List.all_append,k9.q];simp[B.q]
           .rw[ι,vg]
            have y3:x∉(d k).take j:=by simpa using q5.q
            exact⟨y0.q,by simp,λa ha b f e=>y3 (by simp at f;rw[<-f,<-e];exact ha)⟩
          case measure=>
           simp[RowKit.intOf];omega
         .rw[T] at z1
          have q5:=C T;clear T;go_wp2_with fail;go_ret;exact⟨by rw[q0.q (.inr (O1 HX.q q5.q))];rfl,q.q.alloc q.q.size _⟩
      .have b2:j=u:=by omega
       have ι:(d k).take j=d k:=gF (by rw[σ.q.len];omega);rw[ι] at η θ;have HE:=C (υ.trans (v9.q (Rn η θ)));have v:=C Q;have χ:=C φ;clear η θ υ Q φ q2 q1;go_wp2_with fail;go_roundw
       case rel=>exact⟨k+1,bj,by omega,by go_num,rfl,HE.q,v.q,χ.q⟩
       case measure=>simp[RowKit.intOf];omega
   .have y4:k=4:=by omega
    subst y4;have ε:=C ν;have t:=C δ;have π:=C ξ;clear ν δ ξ
    cases K
    .go_wp2_with fail
     go_ret;exact⟨by rw[HS.q,gB,ni,<-HR.q,<-ε.q];rfl,t.q.alloc t.q.size _⟩
    .have y5:Hid (ni h d=true):=by
      show ni h d=true;rw[ni,<-HR.q,<-ε.q]
     have q6:=π.q.alloc (.cells #[.func (.func 64) #[] #[G (L ⟨w.1.size,0,O⟩)]] 139);have z2:=Bx.new A #[.func (.func 64) #[] #[G (L ⟨w.1.size,0,O⟩)]] 139;have q7:=t.q.alloc t.q.size (.cells #[.func (.func 64) #[] #[G (L ⟨w.1.size,0,O⟩)]] 139);have y6:=C q6;have y7:=C z2;have z3:=C q7;have y8:=C (z7.q _ q7 q6);clear z2 q7;go_wp2_with fail;refine y8.q.mono ?_;rintro e w2 ⟨rfl,g⟩;clear q6;have q8:=y6.q.keep g;have q9:=y7.q.keep g;have j0:=z3.q.bQ g;have y9:=C q8;have x0:=C q9;have q:=C j0;have x1:=C (z8.q _ _ j0 q8 q9);clear q9 j0 g
     cases E
     .go_wp2_with fail
      go_ret;exact⟨by rw[κ.q];simp,q.q⟩
     go_wp2_with fail;refine x1.q.mono ?_;rintro e w3 ⟨rfl,Γ⟩;clear q8;have j1:=y9.q.keep Γ;have j2:=x0.q.keep Γ;have j3:=q.q.bQ Γ;have q4:=C j1;have b3:=C j2;have j4:=C j3;have x2:=C (z9.q _ _ j3 j1 j2);clear j2 j3 Γ
     cases D
     .go_wp2_with fail
      go_ret;exact⟨by rw[κ.q];simp,j4.q⟩
     go_wp2_with fail;refine x2.q.mono ?_;rintro e w4 ⟨rfl,j5⟩;clear j1;have z4:=q4.q.keep j5;have j6:=j4.q.bQ j5;have j7:=C j6;have x3:=C (v0.q _ j6 z4);clear j6 j5
     cases M
     .go_wp2_with fail
      go_ret;exact⟨by rw[κ.q];simp,j7.q⟩
     go_wp2_with fail;refine x3.q.mono ?_;rintro e w5 ⟨rfl,z5⟩;clear z4;have x4:=C (j7.q.bQ z5);clear z5;go_wp2_with fail;go_ret;exact⟨by rw[κ.q,y5.q];simp,x4.q⟩
end Yd
namespace Yd
open Option renaming some->L,none->M
open Go Go.RowKit Go.Proofs Tryz
open Go renaming Addr->G,World->I,Value->V
open _root_ renaming List->H,Nat->J,Int->N,Option->O,Array->U
def bF:J->Bs
 |0=>[]
 |1=>[98,101,103,105,110]
 |2=>[119,114,105,116,101]
 |3=>[114,101,97,100]
 |4=>[115,99,97,110]
 |5=>[99,111,109,109,105,116]
 |6=>[97,98,111,114,116]
 |7=>[111,114,100,101,114]
 |8=>[109,97,116,99,104]
 |_=>[119,97,110,116]
def bY:J->N
 |0=>0
 |1=>2
 |2=>2
 |3=>2
 |4=>2
 |5=>1
 |6=>1
 |7=>1
 |8=>2
 |_=>1
def dD:J->N
 |0=>0
 |1=>108
 |2=>0
 |3=>118
 |4=>115
 |5=>0
 |6=>0
 |7=>116
 |8=>109
 |_=>103
def jZ:J->Bs
 |0=>[114,121,119]
 |1=>[109,114]
 |2=>[109,119]
 |_=>[119,102,114]
def jQ:J->Bs
 |0=>[]
 |1=>[49]
 |2=>[50]
 |3=>[50,46,57,57]
 |_=>[51]
def jM (w:I):Prop:=qD w/\(∀k,k<10->w.cell? ⟨0,3*k,M⟩=L (.string ⟨(bF k).toArray⟩)/\w.cell? ⟨0,3*k+1,M⟩=L (.int .i64 (bY k))/\w.cell? ⟨0,3*k+2,M⟩=L (.int .i32 (dD k)))/\
 (∀i,i<4->w.cell? ⟨1,i,M⟩=L (.string ⟨(jZ i).toArray⟩))/\(∀i,i<5->w.cell? ⟨3,i,M⟩=L (.string ⟨(jQ i).toArray⟩))
variable{w:I}
theorem jM.below {X:I}(h:jM w)(a:Below w.1.size w X):jM X:=
 ⟨h.1.below a,λk c=>⟨bq a rfl (h.2.1 k c).1,bq a rfl (h.2.1 k c).2.1,bq a rfl (h.2.1 k c).2.2⟩,λi d=>bq a rfl (h.2.2.1 i d),λi d=>bq a rfl (h.2.2.2 i d)⟩
theorem yw (s:Bs)(w:I)(a:Lib.Utf8Tabs 6 7 w):Calls Tryz.prog 94 #[valStr s] w (cO (.int .i64 (if bG ⟨s.toArray⟩=true then 0 else 200)) w):=by
 have c:=hid (CP ⟨s.toArray⟩ w a);clear a
 cases d:bG ⟨s.toArray⟩
 all_goals
  rw[d] at c;clear d;go_enter func94,ntmps94;go_wp2_with fail;refine c.q.mono ?_;rintro e h ⟨rfl,f⟩;have g:=hid f;clear f;go_wp2_with fail;go_ret;exact⟨rfl,g.q⟩
theorem Ea (s:Bs)(w:I)(a:Lib.Utf8Tabs 6 7 w):Calls Tryz.prog 93 #[valStr s] w (cO (.bool (!bG ⟨s.toArray⟩)) w):=by
 have c:=hid (yw s w a);clear a
 cases d:bG ⟨s.toArray⟩
 all_goals
  rw[d] at c;clear d;go_enter func93,ntmps93;go_wp2_with fail;refine c.q.mono ?_;rintro e h ⟨rfl,f⟩;have g:=hid f;clear f;simp only[bR,yV,fG];go_wp2_with fail;go_ret;exact⟨rfl,g.q⟩
def jK (t:To):Prop:=t=⟨[],0⟩\/(bG ⟨t.name.toArray⟩=true/\0<t.k/\t.k<=999)
theorem WX (t:To)(w:I)(f:Lib.Utf8Tabs 6 7 w)(i:jK t):Calls Tryz.prog 91 #[pR t] w (cO (.bool true) w):=by
 rcases i with rfl|⟨a,j,l⟩
 .have q:=O3 ⟨[],0⟩ ⟨[],0⟩
  go_enter func91,ntmps91;go_wp2_with fail;go_ret;exact⟨by simp,aA (Below.refl _ _) _⟩
 .obtain⟨n,k⟩:=t
  simp only at a j l;have c:=aA (Below.refl w.1.size w) (.cells #[.string ⟨n.toArray⟩,.int .i64 k] 130);have g:=hid (yw n _ (Utf8Tabs_below f c));rw[a] at g;have h:=hid c;have m:=hid (Bx.new w #[.string ⟨n.toArray⟩,.int .i64 k] 130);have r:(k==0)=false:=aX.2 ah;clear f a c;go_enter func91,ntmps91;go_wp2_with fail;refine g.q.mono ?_;rintro e s ⟨rfl,d⟩;have u:=(m.q.keep d).1;have p:=hid (h.q.bQ d);clear d;simp only[bR];go_wp2_with fail;go_ret;exact⟨by simp,p.q⟩
theorem O4 (t:To)(w:I)(c:Lib.Utf8Tabs 6 7 w)(d:jK t):Calls Tryz.prog 90 #[pR t] w (cO (.bool false) w):=by
 have a:=aA (Below.refl w.1.size w) (.cells (KR t) 130);have h:=hid (WX t _ (Utf8Tabs_below c a) d);have f:=hid a;clear c a d;go_enter func90,ntmps90;go_wp2_with fail;refine h.q.mono ?_;rintro e j ⟨rfl,g⟩;have i:=hid (f.q.bQ g);clear g;go_wp2_with fail;go_ret;exact⟨rfl,i.q⟩
theorem FP (l:J)(i:1<=l)(j:l<=4)(w:I)(c:jM w):Calls Tryz.prog 59 #[.int .i64 l] w (pz (.string ⟨(jQ l).toArray⟩) (.int .i64 0) w):=by
 have d:wP (l:N)=0:=Eb (by simp[fO];omega);have f:=hid d;have g:=hid c;clear d c;go_enter func59,ntmps59;go_wp2_with fail;refine(yx _ _).mono ?_;rintro e k ⟨rfl,a⟩;rw[f.q];have m:=(g.q.below a).2.2.2 l ah;have h:=hid a;clear a;go_wp2_with fail
 go_ret2
 exact⟨rfl,h.q⟩
@[reducible] def mH (a:O G)(q:J):G:=match a with|some ⟨b,o,_⟩=>⟨b,o+q,M⟩|none=>⟨0,0,M⟩
def jO (p:G)(v:kg):H (N × G):=if 0<v.k then [(0,p)] else []
def gr {a:Type}(c:J->a->H (N × G))(d:a->H (N × G)):J->H a->H (N × G)
 |_,[]=>[]
 |i,x::e=>c i x++(d x++gr c d (i+1) e)
@[reducible] def IJ (a:O G)(i:J)(s:Sn):H (N × G):=(2,mH a (i*3))::jO (mH a (i*3+1)) s.v
@[reducible] def rG (a:O G)(i:J)(e:EvC):H (N × G):=
 (0,mH a (i*9+1))::(if e.kind=1 then [(1,mH a (i*9+2))] else if e.kind=2\/e.kind=3 then(2,mH a (i*9+4))::jO (mH a (i*9+5)) e.v else if e.kind=4 then [(3,mH a (i*9+7))] else [])
@[reducible] def Tv (a:O G)(i:J)(_:N):H (N × G):=[(0,mH a i)]
@[reducible] def KM (a:O G)(i:J)(_:aG):H (N × G):=[(2,mH a (i*2))]
@[reducible] def II (a:O G)(i:J)(_:aK):H (N × G):=[(3,mH a (i*4)),(2,mH a (i*4+1))]
@[reducible] def KN (a:O G)(i:J)(_:Wa):H (N × G):=[(1,mH a (i*2))]
def oQ (a:O G):J->H Sn->H (N × G):=gr (IJ a) (λ_=>[])
def nY (a:O G)(c:EvC->H Sn):J->H EvC->H (N × G):=gr (rG a) (λe=>oQ e.sa 0 (c e))
def mh (a:O G):J->H N->H (N × G):=gr (Tv a) (λ_=>[])
def qH (a:O G)(c:aG->H N):J->H aG->H (N × G):=gr (KM a) (λx=>mh x.sa 0 (c x))
def qI (a:O G)(c:aK->H N):J->H aK->H (N × G):=gr (II a) (λx=>mh x.sa 0 (c x))
def tT (a:O G):J->H Wa->H (N × G):=gr (KN a) (λ_=>[])
def aU (h:HC)(es:H EvC)(a:H aG)(c:H aK)(d:H Wa)(e:EvC->H Sn)(f:aG->H N)(g:aK->H N):H (N × G):=
 nY h.e.a e 0 es++(qH h.d.a f 0 a++(qI h.m.a g 0 c++tT h.w.a 0 d))
variable{a:O G}{b o i:J}
theorem O5 (ha:a=L ⟨b,o,M⟩)(s:Sn)(l:H Sn):oQ a i (s::l)=(2,(⟨b,o+i*3,M⟩:G))::(jO ⟨b,o+i*3+1,M⟩ s.v++oQ a (i+1) l):=by subst ha;rfl
theorem Mw {c:EvC->H Sn}(ha:a=L ⟨b,o,M⟩)(e:EvC)(es:H EvC):nY a c i (e::es)=
  (0,(⟨b,o+i*9+1,M⟩:G))::((if e.kind=1 then [(1,(⟨b,o+i*9+2,M⟩:G))] else if e.kind=2\/e.kind=3 then(2,(⟨b,o+i*9+4,M⟩:G))::jO ⟨b,o+i*9+5,M⟩ e.v else if e.kind=4 then [(3,(⟨b,o+i*9+7,M⟩:G))] else [])++(oQ e.sa 0 (c e)++nY a c (i+1) es)):=by
 subst ha;rfl
theorem FQ (ha:a=L ⟨b,o,M⟩)(d:N)(l:H N):mh a i (d::l)=(0,(⟨b,o+i,M⟩:G))::mh a (i+1) l:=by subst ha;rfl
theorem Mx {c:aG->H N}(ha:a=L ⟨b,o,M⟩)(x:aG)(l:H aG):qH a c i (x::l)=(2,(⟨b,o+i*2,M⟩:G))::(mh x.sa 0 (c x)++qH a c (i+1) l):=by subst ha;rfl
theorem MB {c:aK->H N}(ha:a=L ⟨b,o,M⟩)(x:aK)(l:H aK):qI a c i (x::l)=(3,(⟨b,o+i*4,M⟩:G))::(2,(⟨b,o+i*4+1,M⟩:G))::(mh x.sa 0 (c x)++qI a c (i+1) l):=by subst ha;rfl
theorem MC (ha:a=L ⟨b,o,M⟩)(x:Wa)(l:H Wa):tT a i (x::l)=(1,(⟨b,o+i*2,M⟩:G))::tT a (i+1) l:=by subst ha;rfl
def GD (x:N × G)(args:U V)(_:I):Prop:=args=#[.int .i64 x.1,.pointer (L x.2)]
def qh (C:G->Prop)(w X:I):Prop:=∀a v,C a->w.cell? a=L v->X.cell? a=L v
def GI (P:Program)(gf:J)(lb:U V){f:Type}(kY:f->U V->I->Prop)(k:J)(D:J->Prop)(R:I->Prop)(xs:H f)(W:I):Prop:=
 ∀(n l:J)(a d:H f->I->Prop),
  (∀s X Y,a s X->Same (λi=>i<W.1.size\/W.1.size+k<=i) X Y->a s Y)->
  (∀s X Y,d s X->Same (λi=>i<W.1.size\/W.1.size+k<=i) X Y->d s Y)->
  (∀s X,a s X->R X)->(∀s X,d s X->R X)->
  (∀c x g X,a c X->c++[x]<+:xs->kY x g X->W.1.size+k<=X.1.size->∀m,YieldAt Fence.wide m P l g X λe Y=>
   (e= .returned (.bool true)/\a (c++[x]) Y/\bA D X Y)\/(e= .returned (.bool false)/\d (c++[x]) Y/\bA D X Y))->
  a [] W->
  CallsIn Fence.wide n P gf (#[.func (.yield l) #[] #[]]++lb) W λe Y=>∃v,e= .returned v/\(a xs Y\/∃c,c<+:xs/\d c Y)
def nL (X:I)(a:G):N:=match X.cell? a with|some (.int .i64 n)=>n|_=>0
theorem jY {X:I}{a:G}{n:N}(h:X.cell? a=L (.int .i64 n)):nL X a=n:=by unfold nL;rw[h]
def gV (X:I)(p:N × G):N × N:=(p.1,nL X p.2)
variable{P:Program}{gf k:J}{lb:U V}{D:J->Prop}{R:I->Prop}
theorem GI.Tw {β:Type}{kY:β->U V->I->Prop}{xs:H β}{W:I}(h:GI P gf lb kY k D R xs W):Dy P gf lb kY k D R (λ_ _ _=>True) xs W:=
 λn l e f g i j p r s=>h n l e f g i j p (λt x u X a b c d m=>(r t x u X a b c d m).mono (λ_ _ q=>q.imp (λq=>⟨q.1,q.2.1,q.2.2.1⟩) id)) s
theorem Mq {β:Type}{g:Operand}{j:U Tmp}{q r:Code}{Q:Exit->Act->I->Prop}{a:Act}{n:J}
    (y:a.eval g= .func (.func gf) #[] lb) (z:∀args w,(callFunc gf args).run P w= .ok (.enter gf args) w)
  {kY:β->U V->I->Prop}    {xs:H β}
  (A:∀W,Below w.1.size w W->W.1.size=w.1.size+2->GI P gf lb kY k D R xs W)
  (B:¬D (w.1.size+1)) (E:∀x args X,kY x args X->args.size=j.size)
  (e:H β->I->Prop) (h:Code->H β->I->Prop)
  (F:∀s X Y,e s X->Same (λi=>i<w.1.size\/w.1.size+2+k<=i) X Y->e s Y)
  (K:∀c s X Y,h c s X->Same (λi=>i<w.1.size\/w.1.size+2+k<=i) X Y->h c s Y)
  (S:∀s X,e s X->R X) (T:∀c s X,h c s X->R X)
  (Z:e [] w)
  (γ:∀f x args X,e f X->f++[x]<+:xs->kY x args X->w.1.size+2+k<=X.1.size->∀m,
   q.wpIn (Fence.wide.inRound (w.1.size+1)) m P (Exit.then (λδ u=>Below X.1.size X u/\∀l:I,Same (λi=>i≠w.1.size+1) u l->
     r.wpIn (Fence.wide.inRound (w.1.size+1)) m P (vY w.1.size D e h (f++[x]) l) δ l) (λ_ _ _=>False))
    {tmps:=(j.zip args).foldl (λt (p,v)=>t.setIfInBounds p v) a.tmps,defers:=[]} X)
  (ε:∀X,e xs X->X.1[w.1.size]?=L (.deferred (L []))->Q .normal {a with defers:={target:= .collected w.1.size,args:=#[]}::a.defers} X)
  (ζ:∀c f X,f<+:xs->h c f X->X.1[w.1.size]?=L (.deferred (L []))->c.wpIn Fence.wide n P Q {a with defers:={target:= .collected w.1.size,args:=#[]}::a.defers} X):
  (Code.rangeFunc g j q r).wpIn Fence.wide n P Q a w:=
 vZ y z (λW h1 h2=>(A W h1 h2).Tw) B E e h F K S T (λ_ _ _ _ _ _=>trivial) Z (λf x args X a b c d m=>zH (γ f x args X a b c d m) (λ_ _ _ _=>ER)) ε ζ
theorem Lv {β:Type}{g:Operand}{l:U Tmp}{r u:Code}{Q:Exit->Act->I->Prop}{a:Act}{n:J}
    (z:a.eval g= .func (.func gf) #[] lb) (A:∀args w,(callFunc gf args).run P w= .ok (.enter gf args) w)
  {kY:β->U V->I->Prop}    {Kp:β->U V->I->Prop} {xs:H β}
  (B:∀W,Below w.1.size w W->W.1.size=w.1.size+2->Dy P gf lb kY k D R Kp xs W)
  (E:¬D (w.1.size+1)) (F:∀x args X,kY x args X->args.size=l.size)
  (e:H β->I->Prop) (j:Code->H β->I->Prop)
  (K:∀s X Y,e s X->Same (λi=>i<w.1.size\/w.1.size+2+k<=i) X Y->e s Y)
  (S:∀c s X Y,j c s X->Same (λi=>i<w.1.size\/w.1.size+2+k<=i) X Y->j c s Y)
  (T:∀s X,e s X->R X) (Z:∀c s X,j c s X->R X)
  (γ:∀x args X Y,Kp x args X->Same (λi=>i<w.1.size\/w.1.size+2+k<=i) X Y->Kp x args Y)
  (h0:e [] w)
  (δ:∀f x args X,e f X->f++[x]<+:xs->kY x args X->w.1.size+2+k<=X.1.size->∀m,
   r.wpIn (Fence.wide.inRound (w.1.size+1)) m P (Exit.then (λε y=>Below X.1.size X y/\∀q:I,Same (λi=>i≠w.1.size+1) y q->
     u.wpIn (Fence.wide.inRound (w.1.size+1)) m P (zJ w.1.size D e j (Kp x args) (f++[x]) q) ε q) (λ_ _ _=>False))
    {tmps:=(l.zip args).foldl (λt (p,v)=>t.setIfInBounds p v) a.tmps,defers:=[]} X)
  (ζ:∀X,e xs X->X.1[w.1.size]?=L (.deferred (L []))->Q .normal {a with defers:={target:= .collected w.1.size,args:=#[]}::a.defers} X)
  (η:∀c f X,f<+:xs->j c f X->X.1[w.1.size]?=L (.deferred (L []))->c.wpIn Fence.wide n P Q {a with defers:={target:= .collected w.1.size,args:=#[]}::a.defers} X):
  (Code.rangeFunc g l r u).wpIn Fence.wide n P Q a w:=
 vZ z A B E F e j K S T Z γ h0 (λf x args X a b c d m=>zH (δ f x args X a b c d m) (λ_ _ _ _ h=>h)) ζ η
section
variable {α:Type}{hd:J->α->H (N × G)}{sub:α->H (N × G)}
theorem fP:∀(xs:H α)(i:J)(p:N × G),p∈gr hd sub i xs↔∃j x,xs[j]?=L x/\(p∈hd (i+j) x\/p∈sub x)
 |[],_,_=>⟨λh=>(by cases h),λ⟨_,_,h,_⟩=>(by cases h)⟩
 |x::xs,i,p=>by
  show p∈hd i x++(sub x++gr hd sub (i+1) xs)↔_;rw[cu,cu,fP xs (i+1) p]
  constructor
  .rintro(h|h|⟨j,y,c,a⟩)
   .exact⟨0,x,rfl,.inl h⟩
   .exact⟨0,x,rfl,.inr h⟩
   .exact⟨j+1,y,c,by rw[show i+(j+1)=i+1+j by omega];exact a⟩
  .rintro⟨j,y,c,a⟩
   cases j with
   |zero=>
    injection c with c;subst c;rcases a with a|a
    .exact .inl a
    .exact .inr (.inl a)
   |succ j=>exact .inr (.inr ⟨j,y,c,by rw[show i+1+j=i+(j+1) by omega];exact a⟩)
theorem wN {β:Type}(f:N × G->β)(g:α->H β):∀(xs:H α)(i:J),(∀j x,xs[j]?=L x->(hd (i+j) x).map f++(sub x).map f=g x)->(gr hd sub i xs).map f=xs.flatMap g
 |[],_,_=>rfl
 |x::xs,i,h=>by
  show(hd i x++(sub x++gr hd sub (i+1) xs)).map f=_;rw[eY,eY,gZ,<-h 0 x rfl,wN f g xs (i+1) (λj y a=>by rw[show i+1+j=i+(j+1) by omega];exact h (j+1) y a),dw]
  rfl
def IV (b k i j:J)(p:G):Prop:=p.block=b/\i*k<=p.off/\p.off<j*k
theorem sK {b k:J}{blk:α->O J}:∀(xs:H α)(i:J),
  (∀j x,xs[j]?=L x->((hd (i+j) x).map Prod.snd).Nodup/\∀p∈hd (i+j) x,IV b k (i+j) (i+j+1) p.2)->
  (∀x∈xs,((sub x).map Prod.snd).Nodup/\∀p∈sub x,blk x=L p.2.block/\p.2.block≠b)->
  xs.Pairwise (λx y=>∀g,blk x=L g->blk y≠L g)->((gr hd sub i xs).map Prod.snd).Nodup
 |[],_,_,_,_=>oI
 |x::xs,i,m,n,w=>by
  have A:=sK xs (i+1) (λj y c=>by rw[show i+1+j=i+(j+1) by omega];exact m (j+1) y c) (λy c=>n y (d9 _ c)) (List.pairwise_cons.1 w).2;have z:=m 0 x rfl;have s:=n x fQ;have B:=(List.pairwise_cons.1 w).1;show((hd i x++(sub x++gr hd sub (i+1) xs)).map Prod.snd).Nodup;rw[eY,eY];refine vg.2 ⟨z.1,vg.2 ⟨s.1,A,?_⟩,?_⟩
  .intro p t q f e
   obtain⟨u,v,rfl⟩:=bS.1 t;obtain⟨d,l,rfl⟩:=bS.1 f;obtain⟨j,y,c,a⟩:=(fP xs (i+1) d).1 l;have h:=s.2 u v;rcases a with a|a
   .have:=(m (j+1) y c).2 d (by rw[show i+(j+1)=i+1+j by omega];exact a)
    exact h.2 (by rw[e];exact this.1)
   .have r:=dA c
    have:=(n y (d9 _ r)).2 d a;exact B y r _ h.1 (by rw[this.1,e])
  .intro p t q f e
   obtain⟨u,v,rfl⟩:=bS.1 t;have h:=z.2 u v;rcases cu.1 f with f|f
   .obtain⟨d,l,rfl⟩:=bS.1 f
    exact(s.2 d l).2 (by rw[<-e];exact h.1)
   .obtain⟨d,l,rfl⟩:=bS.1 f
    obtain⟨j,y,c,a⟩:=(fP xs (i+1) d).1 l;rcases a with a|a
    .have:=(m (j+1) y c).2 d (by rw[show i+(j+1)=i+1+j by omega];exact a)
     have E:=h.2.2;have F:=this.2.1;rw[e] at E;have:(i+0+1)*k<=(i+(j+1))*k:=Nat.mul_le_mul_right _ ah;omega
    .have r:=dA c
     have:=(n y (d9 _ r)).2 d a;exact this.2 (by rw[<-e];exact h.1)
end
theorem oU {p:G}{v:kg}{x:N × G}:x∈jO p v↔x=(0,p)/\0<v.k:=by
 unfold jO
 split
 .rename_i h;simp[h]
 .rename_i h;simp[h]
theorem FR (p:G)(v:kg):((jO p v).map Prod.snd).Nodup:=by
 unfold jO
 split <;> simp
section
variable {b o:J}
theorem IC (i:J)(s:Sn):((IJ (L ⟨b,0,M⟩) i s).map Prod.snd).Nodup/\∀p∈IJ (L ⟨b,0,M⟩) i s,IV b 3 i (i+1) p.2:=by
 constructor
 .unfold IJ
  rw[dX];refine List.nodup_cons.2 ⟨λh=>?_,FR _ _⟩;obtain⟨p,a,e⟩:=bS.1 h;rw[(oU.1 a).1] at e;injection e with _ e;simp at e
 .intro p a
  rcases dO.1 a with rfl|a
  .exact⟨rfl,by show _<=0+i*3;omega,by show 0+i*3<_;omega⟩
  .rw[(oU.1 a).1]
   exact⟨rfl,by show _<=0+(i*3+1);omega,by show 0+(i*3+1)<_;omega⟩
theorem IG (i:J)(e:EvC):((rG (L ⟨b,0,M⟩) i e).map Prod.snd).Nodup/\∀p∈rG (L ⟨b,0,M⟩) i e,IV b 9 i (i+1) p.2:=by
 have c:∀p∈jO (mH (L ⟨b,0,M⟩) (i*9+5)) e.v,p=(0,(⟨b,0+(i*9+5),M⟩:G)):=λp a=>(oU.1 a).1
 constructor
 .unfold rG
  split
  .simp
  .split
   .rw[dX,dX]
    refine List.nodup_cons.2 ⟨λh=>?_,List.nodup_cons.2 ⟨λh=>?_,FR _ _⟩⟩
    .rcases dO.1 h with e|h
     .injection e with _ e;simp at e
     .obtain⟨p,a,e⟩:=bS.1 h
      rw[c p a] at e;injection e with _ e;simp at e
    .obtain⟨p,a,e⟩:=bS.1 h
     rw[c p a] at e;injection e with _ e;simp at e
   .split <;> simp
 .intro p a
  unfold rG at a;rcases dO.1 a with rfl|a
  .exact⟨rfl,by show _<=0+(i*9+1);omega,by show 0+(i*9+1)<_;omega⟩
  .split at a
   .rw[bX.1 a]
    exact⟨rfl,by show _<=0+(i*9+2);omega,by show 0+(i*9+2)<_;omega⟩
   .split at a
    .rcases dO.1 a with rfl|a
     .exact⟨rfl,by show _<=0+(i*9+4);omega,by show 0+(i*9+4)<_;omega⟩
     .rw[c p a]
      exact⟨rfl,by show _<=0+(i*9+5);omega,by show 0+(i*9+5)<_;omega⟩
    .split at a
     .rw[bX.1 a]
      exact⟨rfl,by show _<=0+(i*9+7);omega,by show 0+(i*9+7)<_;omega⟩
     .cases a
theorem OG (i:J)(x:N):((Tv (L ⟨b,0,M⟩) i x).map Prod.snd).Nodup/\∀p∈Tv (L ⟨b,0,M⟩) i x,IV b 1 i (i+1) p.2:=by
 refine⟨by simp,λp a=>?_⟩;rw[bX.1 a];exact⟨rfl,by show _<=0+i;omega,by show 0+i<_;omega⟩
theorem OH (i:J)(x:aG):((KM (L ⟨b,0,M⟩) i x).map Prod.snd).Nodup/\∀p∈KM (L ⟨b,0,M⟩) i x,IV b 2 i (i+1) p.2:=by
 refine⟨by simp,λp a=>?_⟩;rw[bX.1 a];exact⟨rfl,by show _<=0+i*2;omega,by show 0+i*2<_;omega⟩
theorem OI (i:J)(x:aK):((II (L ⟨b,0,M⟩) i x).map Prod.snd).Nodup/\∀p∈II (L ⟨b,0,M⟩) i x,IV b 4 i (i+1) p.2:=by
 refine⟨by simp,λp a=>?_⟩;rcases dO.1 a with rfl|a
 .exact⟨rfl,by show _<=0+i*4;omega,by show 0+i*4<_;omega⟩
 .rw[bX.1 a]
  exact⟨rfl,by show _<=0+(i*4+1);omega,by show 0+(i*4+1)<_;omega⟩
theorem OJ (i:J)(x:Wa):((KN (L ⟨b,0,M⟩) i x).map Prod.snd).Nodup/\∀p∈KN (L ⟨b,0,M⟩) i x,IV b 2 i (i+1) p.2:=by
 refine⟨by simp,λp a=>?_⟩;rw[bX.1 a];exact⟨rfl,by show _<=0+i*2;omega,by show 0+i*2<_;omega⟩
end
end Yd
