import Derived.Test.YtpeojoobplpcoaaGreatDoorPF16
import Derived.Test.YtpeojoobplpcoaaGreatDoorPCut12
import Derived.Test.YtpeojoobplpcoaaGreatDoorPSaC
set_option linter.all false
set_option maxRecDepth 200000
set_option maxHeartbeats 8000000
namespace Yd
open Go Go.RowKit Go.Proofs Tryz
open Go.IntKind renaming i64->k
open Go.Value renaming int->j,pointer->o,string->u
open _root_ renaming Int->g,Nat->t
theorem IZ {s:Bs}{p:t}(hp:p<s.length)(h:(bQ s (p:g)).2.2=0):∃q:t,(bQ s (p:g)).2.1=(q:g)/\p<q/\q<=s.length:=by
 unfold bQ at h ⊢;rw[au ah,jB] at h ⊢
 cases hl:mJ (s.drop p) with
 |error x=>
  obtain⟨r,m⟩:=x;rw[hl] at h;exact absurd h (EP _ _ _ hl)
 |ok x=>
  obtain⟨n,r⟩:=x;refine⟨s.length - r.length,rfl,?_,by omega⟩;rcases(JL hl).2 with rfl|hs
  .simpa using hp
  .have:=hs.length_le
   rw[dO,gG] at this;omega
theorem VY {s:Bs}{p:t}(hp:p<s.length)(h:(bQ s (p:g)).2.2=0):iX (bQ s (p:g)).1=true:=by
 unfold bQ at h ⊢;rw[au ah,jB] at h ⊢
 cases hl:mJ (s.drop p) with
 |error x=>
  obtain⟨r,m⟩:=x;rw[hl] at h;exact absurd h (EP _ _ _ hl)
 |ok x=>
  obtain⟨n,r⟩:=x;rcases abR (s.drop p) with⟨n',nx,e,hB,_⟩|⟨nx,er,e,hne,_⟩
  .unfold bQ at e
   rw[au ah,show(0:g).toNat=0 from rfl,Ez,hl] at e;injection e with e _;show iX n=true;rw[e];exact hB
  .unfold bQ at e
   rw[au ah,show(0:g).toNat=0 from rfl,Ez,hl] at e;injection e with _ e;injection e with _ e;exact absurd e.symm hne
structure Aq where
 fr:g
 to:g
 ln:aH
 er:g
def jT (s:Bs):t->t->List Aq
 |0,_=>[]
 |n+1,p=>if p<s.length then⟨(p:g),(bQ s (p:g)).2.1,(bQ s (p:g)).1,(bQ s (p:g)).2.2⟩::(if(bQ s (p:g)).2.2=0 then jT s n (bQ s (p:g)).2.1.toNat else []) else []
theorem wu (s:Bs):∀(n p:t),s.length<n+p->
  ((∀x∈jT s n p,x.er=0)/\mP s n p= .ok ((jT s n p).map (λx=>(x.ln,x.fr))))\/
  (∃pre x,jT s n p=pre++[x]/\(∀y∈pre,y.er=0)/\x.er≠0/\mP s n p= .error (x.to,x.er))
 |0,p,h=> .inl ⟨λx hx=>(by cases hx),rfl⟩
 |n+1,p,h=>by
  by_cases hp:p<s.length
  .by_cases h0:(bQ s (p:g)).2.2=0
   .obtain⟨q,e1,e2,e3⟩:=IZ hp h0
    have hi:jT s (n+1) p=⟨(p:g),(bQ s (p:g)).2.1,(bQ s (p:g)).1,(bQ s (p:g)).2.2⟩::jT s n q:=by
     show(if p<s.length then _ else _)=_;rw[av hp,av h0,e1,jB]
    have hl:mP s (n+1) p=match mP s n q with| .ok r=> .ok (((bQ s (p:g)).1,(p:g))::r)| .error x=> .error x:=by
     show(if p<s.length then _ else _)=_;rw[av hp,av h0,e1,jB]
     all_goals (cases mP s n q <;> rfl)
    rcases wu s n q ah with⟨a,b⟩|⟨pre,x,a,b,c,d⟩
    .refine .inl ⟨λx hx=>?_,?_⟩
     .rw[hi] at hx
      rcases dU.1 hx with rfl|hx
      .exact h0
      .exact a x hx
     .rw[hl,b,hi];rfl
    .refine .inr ⟨⟨(p:g),(bQ s (p:g)).2.1,(bQ s (p:g)).1,(bQ s (p:g)).2.2⟩::pre,x,by rw[hi,a];rfl,λy hy=>?_,c,by rw[hl,d]⟩
     rcases dU.1 hy with rfl|hy
     .exact h0
     .exact b y hy
   .refine .inr ⟨[],⟨(p:g),(bQ s (p:g)).2.1,(bQ s (p:g)).1,(bQ s (p:g)).2.2⟩,?_,λy hy=>(by cases hy),h0,?_⟩
    .show(if p<s.length then _ else _)=_
     rw[av hp,au h0];rfl
    .show(if p<s.length then _ else _)=_
     rw[av hp,au h0]
  .refine .inl ⟨λx hx=>?_,?_⟩
   .unfold jT at hx
    rw[au hp] at hx;cases hx
   .unfold jT mP
    rw[au hp,au hp];rfl
theorem VZ {s:Bs}{n p:t}(hp:p<s.length):jT s (n+1) p=⟨(p:g),(bQ s (p:g)).2.1,(bQ s (p:g)).1,(bQ s (p:g)).2.2⟩::(if(bQ s (p:g)).2.2=0 then jT s n (bQ s (p:g)).2.1.toNat else []):=by
 show(if p<s.length then _ else _)=_;rw[av hp]
theorem Nj (s:Bs):∀(n p:t)(x:Aq),x∈jT s n p->x.ln.names.length<=1000/\x.ln.aG.length<=1000
 |0,_,x,h=>by cases h
 |n+1,p,x,h=>by
  unfold jT at h
  split at h
  .rcases dU.1 h with rfl|h
   .exact VJ s _
   .split at h
    .exact Nj s n _ x h
    .cases h
  .cases h
attribute [local go_sem] Oper.semAt_some
def EL (w:World):Prop:=kg w/\Az w
theorem EL.below {w w':World}(h:EL w)(hb:Below w.1.size w w'):EL w':=⟨h.1.below hb,h.2.below hb⟩
theorem YM (s:ByteArray)(w:World):Calls Tryz.prog 45 #[.string s] w λe w'=>e= .returned (.func (.func 88) #[] #[o (some ⟨w.1.size,0,none⟩)])/\w'=w.alloc (.cells #[.string s] 9):=by
 go_enter Tryz.func45,Tryz.ntmps45;go_wp2_with fail;go_ret;exact⟨rfl,rfl⟩
def adP (B:t)(x:Aq)(args:Array Value)(X:World):Prop:=
 ∃b4 b6 l,B<=b4/\b4<b6/\args=#[.agg #[j k x.fr,j k x.to],.func (.func 90) #[] #[o (some ⟨b4,0,none⟩),o (some ⟨b6,0,none⟩)]]/\Bx X b4 (bJ l)/\Bx X b6 #[j k x.er]/\gD X B l x.ln/\∃cs fz,X.1[b6]?=some (.cells cs 30 fz)
def abI (B:t)(x:Aq)(args:Array Value)(X:World):Prop:=
 ∃b4 b6,B<=b6/\args=#[.agg #[j k x.fr,j k x.to],.func (.func 90) #[] #[o (some ⟨b4,0,none⟩),o (some ⟨b6,0,none⟩)]]/\Bx X b6 #[j k x.er]
theorem afd (b4 b6:t)(l:bE)(er:g)(w:World)(h4:Bx w b4 (bJ l))(h6:Bx w b6 #[j k er]):
  Calls Tryz.prog 90 #[o (some ⟨b4,0,none⟩),o (some ⟨b6,0,none⟩)] w (uF (dY l) (j k er) w):=by
 obtain⟨lk,la,ln,nc,lvl,va,vn,vc,lf,bits⟩:=l;have hl4:=h4.2.2;have hl6:=h6.2.2;have H4:=hid h4;have H6:=hid h6;clear h4 h6;go_enter func90,ntmps90;go_wp2_with fail;refine aC 3 [(0,0),(1,0),(2,2),(3,1)] (λ_=>True) (λW'=>Bx W' b4 #[j k lk,.slice la ln nc,j k lvl,.slice va vn vc,.bool lf,j k bits]/\Bx W' b6 #[j k er]) ay ay (trivial) (⟨(H4.q.alloc _).drew,(H6.q.alloc _).drew⟩) ?_;refine qC ?_;refine aF rfl rfl (λK hK=>?_);go_simp;refine hK _ _ ⟨trivial,(H4.q.alloc _).drew,(H6.q.alloc _).drew⟩ ?_;clear hK K;refine qC ?_;refine aP ?_;have hcz:=(Bx.new w #[j k lk,.slice la ln nc,j k lvl,.slice va vn vc,.bool lf,j k bits] 66).drew.1;go_wp2_with fail;refine bodyPost_ret (v:= .tuple #[dY ⟨lk,la,ln,nc,lvl,va,vn,vc,lf,bits⟩,j k er]) (by simp[results,results90,go_sem,hcz]) rfl ⟨rfl,(aA (Below.refl _ _) _).drew⟩
theorem aiA:∀args w,(callFunc 88 args).run Tryz.prog w= .ok (.enter 88 args) w:=enters_of func88 ay rfl
theorem RX (s:Bs)(hlim:s.length<=1000000)(bs:t)(D:t->Prop)(W:World)(hs:Bx W bs #[u ⟨s.toArray⟩])(LZ:D bs):
  ad1 Tryz.prog 88 #[o (some ⟨bs,0,none⟩)] (adP W.1.size) 0 D EL (abI W.1.size) (jT s (s.length+1) 0) W:=by
 intro n l J Jx hJ hJx hJR arJ hY h0;refine callsIn_of_wp func88 rfl trivial ?_ rfl;simp only[ntmps88,p8,dO,iy,Nat.reduceAdd,Nat.reduceSub,rX,rY,oz,oC,fJ,fu];have hz:=gQ s
 gi_wp2
 gi_loopw [3] (λi wr=>∃(p fuel:t)(pre:List Aq),i= j k p/\pre++jT s fuel p=jT s (s.length+1) 0/\J pre wr/\Bx wr bs #[u ⟨s.toArray⟩]/\W.1.size<=wr.1.size/\s.length<fuel+p/\p<=s.length) (λi _=>s.length - (RowKit.intOf i).toNat)
 case atStart=>exact⟨0,s.length+1,[],rfl,rfl,h0,hs,aB _,by omega,aZ _⟩
 case round=>
  obtain⟨p,fuel,pre,rfl,hpre,hj,hsr,aoK,hfu,arK⟩:=hrel;have hc:=hsr.1;by_cases hp:p<s.length
  .obtain⟨f,rfl⟩:∃f,fuel=f+1:=⟨fuel - 1,by omega⟩
   have hgd:=hJR _ _ hj;have wX:=hid (Y6 s (p:g) hlim wr hgd.1.1.1 hgd.2 hgd.1);obtain⟨rd,hrd⟩:∃rd,rd=bQ s (p:g):=⟨_,rfl⟩;have hst:=VZ (n:=f) hp;rw[<-hrd] at hst;rw[hst] at hpre;have hnx:rd.2.2=0->∃q:t,rd.2.1=(q:g)/\p<q/\q<=s.length:=by rw[hrd];exact IZ hp
   rw[<-hrd] at wX;obtain⟨rn,ro,er⟩:=rd;have Aa:=hid hpre;have HJ:=hid hj;have HSR:=hid hsr;have Ig:=hid hnx;have HWZ:=hid aoK;have hp2:(p:g)<(s.length:g):=by omega
   clear hpre hj hsr hst hrd hnx hgd
   gi_wp2
   refine⟨trivial,λh=>(by cases h),?_⟩;refine(callsIn_wide.2 wX.q).mono ?_;rintro e w1 ⟨cl,rfl,hat,hb1⟩;have HAT:=hid hat;have HB1:=hid hb1;clear hat hb1 wX;obtain⟨X,hX⟩:∃X,X=(w1.alloc (.cells (bJ cl) 66)).alloc (.cells #[j k er] 30):=⟨_,rfl⟩;have hbX:Below wr.1.size wr X:=by rw[hX];exact(HB1.q.alloc HB1.q.size _).alloc (by have:=HB1.q.size;simp;omega) _
   have Dh:X.1.size=w1.1.size+2:=by rw[hX];simp
   have hx4:Bx X w1.1.size (bJ cl):=by rw[hX];exact(Bx.new w1 _ _).alloc _
   have hx6:Bx X (w1.1.size+1) #[j k er]:=by
    rw[hX];have:=Bx.new (w1.alloc (.cells (bJ cl) 66)) #[j k er] 30;rw[World.size_alloc] at this;exact this
   have TU:gD X W.1.size cl rn:=by rw[hX];exact((HAT.q.below (((Below.refl w1.1.size w1).alloc (aB _) _).alloc ak _)).mono HWZ.q)
   have hty:∃cs fz,X.1[w1.1.size+1]?=some (.cells cs 30 fz):=by
    rw[hX];have:=World.alloc_heap_new (w1.alloc (.cells (bJ cl) 66)) (.cells #[j k er] 30);rw[World.size_alloc] at this;exact⟨_,_,this⟩
   have Ws:J pre X:=hJ _ _ _ HJ.q (Same.of_below hbX (λi _ hl=>hl));have hw1:=HB1.q.size;obtain⟨fn,tmps,assign,body,hy,hR⟩:=hY pre ⟨(p:g),ro,rn,er⟩ #[.agg #[j k (p:g),j k ro],.func (.func 90) #[] #[o (some ⟨w1.1.size,0,none⟩),o (some ⟨w1.1.size+1,0,none⟩)]] X Ws
    ⟨_,by rw[<-Aa.q];simp;rfl⟩ ⟨w1.1.size,w1.1.size+1,cl,by have:=HWZ.q;omega,by omega,rfl,hx4,hx6,TU,hty⟩ (by have:=HWZ.q;omega) (n - 1)
   have HX:=hid hX;have Ki:Hid (Bx X bs #[u ⟨s.toArray⟩]):=hid (HSR.q.keep hbX);have uV:Hid (W.1.size<=X.1.size):=hid (by have:=HWZ.q;omega);rw[hX] at hy hR;clear hX hbX Dh hx4 hx6 TU Ws hw1
   gi_wp2
   refine⟨λh=>(by cases h),?_⟩;refine hR.mono ?_;rintro e W' (⟨rfl,hJ',hk,hkp⟩|⟨rfl,qX,_⟩)
   .clear hR hy
    obtain⟨b4',b6',_,hargs,ai'⟩:=hkp;simp at hargs;obtain⟨rfl,rfl⟩:=hargs;rw[<-HX.q] at hk;have Uo:Bx W' bs #[u ⟨s.toArray⟩]:=⟨λi=>(World.cell?_of_block (a:=⟨bs,i,none⟩) (hk.2 _ LZ Ki.q.2.2)).trans (Ki.q.1 i),λi=>(World.frozen?_of_block (a:=⟨bs,i,none⟩) (hk.2 _ LZ Ki.q.2.2)).trans (Ki.q.2.1 i),bM Ki.q.2.2 hk.1⟩;have aoL:=hid Uo;have HJ3:=hid hJ';have HW3:Hid (W.1.size<=W'.1.size):=hid (bX uV.q hk.1);have hc6:=ai'.1;clear hk Uo hJ' ai';by_cases h0:er=0
    .subst h0
     obtain⟨q,hq,hq1,hq2⟩:=Ig.q rfl;have HQ:=hid hq;have HQ1:=hid hq1;have HQ2:=hid hq2;clear hq hq1 hq2
     gi_wp2
     go_roundw
     case rel=>
      have hro:ro=(q:g):=HQ.q;refine⟨q,f,pre++[⟨(p:g),ro,rn,0⟩],by rw[hro],?_,HJ3.q,aoL.q,HW3.q,by have:=HQ1.q;omega,HQ2.q⟩;have:=Aa.q;simp only[bY] at this;simp only[hro,jB] at this ⊢;rw[<-this];simp
     case measure=>
      have hro:ro=(q:g):=HQ.q;rw[hro];have:=HQ1.q;have:=HQ2.q;simp only[RowKit.intOf,jB];omega
    .have hne1:(er==0)=false:=aU.2 h0
     have hne2:(er !=0)=true:=by simp[h0]
     have H0:=hid h0;clear h0
     gi_wp2
     refine bodyPost_ret (results_none rfl _ _ _) rfl ?_;have:=Aa.q;rw[au H0.q] at this;exact⟨_,rfl,.inl (by rw[<-this];exact HJ3.q)⟩
   .clear hR hy
    gi_wp2
    refine bodyPost_ret (results_none rfl _ _ _) rfl ?_;exact⟨_,rfl,.inr ⟨pre++[⟨(p:g),ro,rn,er⟩],⟨_,by rw[<-Aa.q];simp;rfl⟩,qX⟩⟩
  .have hp2:¬(p:g)<(s.length:g):=by omega
   have Aa:=hid hpre;have HJ:=hid hj;clear hpre hj
   gi_wp2
   go_end0
   refine⟨⟨_,rfl⟩,.inl ?_⟩;have h1:jT s fuel p=[]:=by
    cases fuel with
    |zero=>rfl
    |succ f=>unfold jT;rw[au hp]
   have h2:=Aa.q;rw[h1,dB] at h2;rw[<-h2];exact HJ.q
end Yd
namespace Yd
open Go Go.RowKit Go.Proofs
open Go renaming World->u,Value->F
open _root_ renaming List->j,Nat->o,Int->C
theorem EN {A:o->Prop}{X Y:u}{row:Option o}(hg:X.grownBy Y row)(h:∀g,row=some g->¬A g):Same A X Y:=
 ⟨hg.os,hg.tape,hg.output,hg.size,λi hi hl=>hg.block i hl (λe=>h i e.symm hi)⟩
theorem own_ne {α β:Type}{enc:α->j F}{enc':β->j F}{k k':o}{X:u}{B B':o}{T T':TypeId}{v v':F}{xs:j α}{ys:j β}(h:Own X B T k enc v xs)(h':Own X B' T' k' enc' v' ys)(hT:T≠T'){g:o}(e:v.ownBlock=some g):v'.ownBlock≠some g:=λe'=>by
 obtain⟨_,_,e1⟩:=h.tag e;obtain⟨_,_,e2⟩:=h'.tag e';rw[e1] at e2
 cases e2
 exact hT rfl
theorem gD.GA {X Y:u}{B:o}{l:bE}{s:aH}{row:Option o}(h:gD X B l s)(hg:X.grownBy Y row)(hr:∀g,row=some g->∃cs T fz,X.1[g]?=some (.cells cs T fz)/\9≠T/\144≠T):gD Y B l s:=by
 refine⟨h.1,h.2.1.grown hg (λg hv e=>?_),h.2.2.grown hg (λg hv e=>?_)⟩
 .obtain⟨cs,T,fz,e1,e2,_⟩:=hr g e
  obtain⟨_,_,e3⟩:=h.2.1.tag hv;rw[e1] at e3;cases e3;exact e2 rfl
 .obtain⟨cs,T,fz,e1,_,e2⟩:=hr g e
  obtain⟨_,_,e3⟩:=h.2.2.tag hv;rw[e1] at e3;cases e3;exact e2 rfl
theorem wR.GA {X Y:u}{B:o}{bg:j bE}{ls:j aH}{row:Option o}(h:wR X B bg ls)(hg:X.grownBy Y row)(hr:∀g,row=some g->∃cs T fz,X.1[g]?=some (.cells cs T fz)/\9≠T/\144≠T):wR Y B bg ls:=
 ⟨h.1,λi l hl=>let⟨s,h1,h2⟩:=h.2 i l hl;⟨s,h1,h2.GA hg hr⟩⟩
theorem wR.same {w w':u}{B:o}{bg:j bE}{ls:j aH}(h:wR w B bg ls){A:o->Prop}(hs:Same A w w')(hA:∀i,B<=i->A i):wR w' B bg ls:=
 ⟨h.1,λi l hl=>let⟨s,h1,h2⟩:=h.2 i l hl;⟨s,h1,h2.1,h2.2.1.same hs (λg hg=>hA g (h2.2.1.lt g hg).1),h2.2.2.same hs (λg hg=>hA g (h2.2.2.lt g hg).1)⟩⟩
theorem wR.snoc {w:u}{B:o}{bg:j bE}{ls:j aH}(h:wR w B bg ls){l:bE}{s:aH}(hl:gD w B l s):wR w B (bg++[l]) (ls++[s]):=by
 have e:=h.1;refine⟨by simp[h.1],λi q hq=>?_⟩;rcases gP i bg.length with hi|hi
 .rw[y8 hi] at hq
  obtain⟨t,h1,h2⟩:=h.2 i q hq;exact⟨t,by rw[y8 ah];exact h1,h2⟩
 .rw[xJ hi] at hq
  have h0:i - bg.length=0:=by
   rcases Nat.eq_zero_or_pos (i - bg.length) with h0|h0
   .exact h0
   .rw[xY (by simp;omega)] at hq;cases hq
  rw[h0] at hq;injection hq with hq;subst hq;exact⟨s,by rw[xJ ah,show i - ls.length=0 by omega];rfl,hl⟩
theorem gD.same {w w':u}{B:o}{l:bE}{s:aH}(h:gD w B l s){A:o->Prop}(hs:Same A w w')(hA:∀i,B<=i->A i):gD w' B l s:=
 ⟨h.1,h.2.1.same hs (λg hg=>hA g (h.2.1.lt g hg).1),h.2.2.same hs (λg hg=>hA g (h.2.2.lt g hg).1)⟩
structure rM (K N:o)(X:u)(v4 v5 vL:F)(bg:j bE)(ls:j aH)(vP:F)(ps:j C):Prop where
 x4:Bx X K #[v4]
 x5:Bx X (K+1) #[v5]
 oL:Own X N 66 6 vw vL bg
 aL:wR X N bg ls
 oP:Own X N 3 1 aX vP ps
section
variable {K N:o}{X Y:u}{v4 v5 vL vP v':F}{bg:j bE}{ls:j aH}{ps:j C}
theorem rM.same (h:rM K N X v4 v5 vL bg ls vP ps){A:o->Prop}(s:Same A X Y)(h4:A K)(h5:A (K+1))(hN:∀i,N<=i->A i):rM K N Y v4 v5 vL bg ls vP ps:=
 ⟨s.bx h.x4 h4,s.bx h.x5 h5,h.oL.same s (λg hg=>hN g (h.oL.lt g hg).1),h.aL.same s hN,h.oP.same s (λg hg=>hN g (h.oP.lt g hg).1)⟩
theorem rM.below (h:rM K N X v4 v5 vL bg ls vP ps)(hb:Below X.1.size X Y):rM K N Y v4 v5 vL bg ls vP ps:=h.same (A:=λ_=>True) (Same.of_below hb (λi _ hl=>hl)) trivial trivial (λ_ _=>trivial)
theorem rM.aja (h:rM K N X v4 v5 vL bg ls vP ps):∀g,vL.ownBlock=some g->∃cs T fz,X.1[g]?=some (.cells cs T fz)/\9≠T/\144≠T:=λg hg=>(let⟨cs,fz,e⟩:=h.oL.tag hg;⟨cs,_,fz,e,by decide,by decide⟩)
theorem rM.aoM (h:rM K N X v4 v5 vL bg ls vP ps):∀g,vP.ownBlock=some g->∃cs T fz,X.1[g]?=some (.cells cs T fz)/\9≠T/\144≠T:=λg hg=>(let⟨cs,fz,e⟩:=h.oP.tag hg;⟨cs,_,fz,e,by decide,by decide⟩)
theorem rM.akV (h:rM K N X v4 v5 vL bg ls vP ps){l:bE}{s:aH}(hl:gD X N l s)(ho:Own Y N 66 6 vw v' (bg++[l]))(hg:X.grownBy Y vL.ownBlock)(hK:K+1<N):rM K N Y v4 v5 v' (bg++[l]) (ls++[s]) vP ps:=
 ⟨h.x4.grown hg (λe=>by have:=(h.oL.lt _ e).1;omega),h.x5.grown hg (λe=>by have:=(h.oL.lt _ e).1;omega),ho,(h.aL.GA hg h.aja).snoc (hl.GA hg h.aja),h.oP.grown hg (λg hv e=>own_ne h.oP h.oL aj hv e)⟩
theorem rM.akW (h:rM K N X v4 v5 vL bg ls vP ps){p:C}(ho:Own Y N 3 1 aX v' (ps++[p]))(hg:X.grownBy Y vP.ownBlock)(hK:K+1<N):rM K N Y v4 v5 vL bg ls v' (ps++[p]):=
 ⟨h.x4.grown hg (λe=>by have:=(h.oP.lt _ e).1;omega),h.x5.grown hg (λe=>by have:=(h.oP.lt _ e).1;omega),h.oL.grown hg (λg hv e=>own_ne h.oL h.oP aj hv e),h.aL.GA hg h.aoM,ho⟩
theorem rM.aoA (h:rM K N X v4 v5 vL bg ls vP ps)(v:F)(hK:K+1<N):rM K N (X.setCell ⟨K,0,none⟩ v) v v5 vL bg ls vP ps:=by
 have s:Same (λi=>i≠K) X (X.setCell ⟨K,0,none⟩ v):=(Same.refl' X).setTail (λh=>h rfl);exact⟨h.x4.set1 v,s.bx h.x5 ah,h.oL.same s (λg hg=>by have:=(h.oL.lt g hg).1;omega),h.aL.same s (λ_ hi=>by omega),h.oP.same s (λg hg=>by have:=(h.oP.lt g hg).1;omega)⟩
theorem rM.aoB (h:rM K N X v4 v5 vL bg ls vP ps)(v:F)(hK:K+1<N):rM K N (X.setCell ⟨K+1,0,none⟩ v) v4 v vL bg ls vP ps:=by
 have s:Same (λi=>i≠K+1) X (X.setCell ⟨K+1,0,none⟩ v):=(Same.refl' X).setTail (λh=>h rfl);exact⟨s.bx h.x4 ah,h.x5.set1 v,h.oL.same s (λg hg=>by have:=(h.oL.lt g hg).1;omega),h.aL.same s (λ_ hi=>by omega),h.oP.same s (λg hg=>by have:=(h.oP.lt g hg).1;omega)⟩
end
theorem Da (s:Bs):∀(n p:o),(jT s n p).length<=n
 |0,_=>aB _
 |n+1,p=>by
  unfold jT
  split
  .rw[dO]
   split
   .exact Nat.succ_le_succ (Da s n _)
   .exact Nat.succ_le_succ (aZ _)
  .exact aZ _
theorem Row.ln1 (X:u)(l:bE):Row (X.alloc (.cells #[.int .i64 l.kind,.slice l.na l.nn l.nc,.int .i64 l.lvl,.slice l.va l.vn l.vc,.bool l.first,.int .i64 l.bits] 66)) 6 vw (some ⟨X.1.size,0,none⟩) 1 1 [l]:=
 (Own.new (hc:=Pb) X X.1.size 66 (bJ l) [l] (aB _) rfl (by simp[maxLen])).row ak
def lG (s:Bs):Except (C × C) (j (aH × C)):=if 131072<s.length then .error (0,3) else mP s (s.length+1) 0
def adO (s:Bs)(w:u)(e:Ending)(X:u):Prop:=
 Below w.1.size w X/\
 match lG s with
 | .ok r=>∃a c bg pa pc,e= .returned (.tuple #[.slice a bg.length c,.slice pa r.length pc,.int .i64 (s.length:C),.int .i64 0])/\Own X w.1.size 66 6 vw (.slice a bg.length c) bg/\wR X w.1.size bg (r.map Prod.fst)/\Own X w.1.size 3 1 aX (.slice pa r.length pc) (r.map Prod.snd)
 | .error (n,m)=>e= .returned (.tuple #[.slice none 0 0,.slice none 0 0,.int .i64 n,.int .i64 m])
theorem V4 {l r:Bs}{n:aH}(h:mJ l= .ok (n,r)):n.kind=0\/(dW n/\r.length+2*(iE n).length<=l.length+1/\(r≠[]->r.length+2*(iE n).length<=l.length)):=by
 unfold mJ at h
 cases hr:jh l with
 |error y=>rw[hr] at h;cases h
 |ok y=>
  obtain⟨s,r0⟩:=y;have h1:=QF hr;have h2:(jl r0).length<=r0.length:=by
   unfold jl;split
   .rw[gG];omega
   .exact aB _
  rw[hr] at h;simp only[] at h;have hk:∀{r1:Bs},(r1=[]\/r1.length+1<=r0.length)->s=n->r1=r->n.kind=0\/(dW n/\r.length+2*(iE n).length<=l.length+1/\(r≠[]->r.length+2*(iE n).length<=l.length)):=by
   rintro r1 hr1 rfl rfl;rcases h1 with rfl|⟨h1,h3⟩
   .exact .inl rfl
   .right
    rcases hr1 with rfl|hr1
    .exact⟨h1,by rw[iy];omega,λh=>absurd rfl h⟩
    .exact⟨h1,by omega,λ_=>by omega⟩
  by_cases hn:(jl r0).head?=none
  .rw[av hn] at h;injection h with h;injection h with h h';exact hk (.inl rfl) h h'
  .rw[au hn] at h
   by_cases h10:(jl r0).head?=some 10
   .rw[av h10] at h;injection h with h;injection h with h h'
    refine hk (.inr ?_) h h'
    cases hq:jl r0 with
    |nil=>rw[hq] at h10;cases h10
    |cons c t=>rw[hq] at h2;simpa using h2
   .rw[au h10] at h;cases h
def wJ (l:aH):o:=if l.kind=0 then 0 else(iE l).length
def oM (f:aH->o)(ls:j aH):o:=(ls.map f).sum
theorem wU (f:aH->o)(l:aH)(ls:j aH):oM f (l::ls)=f l+oM f ls:=by unfold oM;rw[eu,List.sum_cons]
theorem H9 (f:aH->o)(a b:j aH):oM f (a++b)=oM f a+oM f b:=by unfold oM;rw[eU,List.sum_append]
theorem I4 (s:Bs):∀(n p:o)(r:j (aH × C)),mP s n p= .ok r->p<=s.length->2*oM wJ (r.map Prod.fst)+p<=s.length+1
 |0,p,r,h,hp=>by injection h with h;subst h;show 2*0+p<=_;omega
 |n+1,p,r,h,hp=>by
  unfold mP at h
  split at h
  .rename_i hlt
   split at h
   .rename_i h0
    have hread:∃(x:aH)(t:Bs),mJ (s.drop p)= .ok (x,t)/\bQ s p=(x,((s.length - t.length:o):C),0)/\t.length<=s.length - p:=by
     unfold bQ at h0 ⊢;rw[au ah] at h0 ⊢;rw[jB] at h0 ⊢
     cases hl:mJ (s.drop p) with
     |error y=>obtain⟨r',m⟩:=y;rw[hl] at h0;exact absurd h0 (EP _ r' m hl)
     |ok y=>
      obtain⟨x,t⟩:=y;refine⟨x,t,rfl,rfl,?_⟩;rcases(JL hl).2 with rfl|h2
      .exact aZ _
      .have:=h2.length_le
       rw[gG,dO] at this;omega
    obtain⟨x,t,hl,hr,ht⟩:=hread;rw[hr] at h;simp only[jB] at h
    cases hr':mP s n (s.length - t.length) with
    |error y=>rw[hr'] at h;cases h
    |ok r'=>
     rw[hr'] at h;injection h with h;subst h;have ih:=I4 s n _ r' hr' ah;rw[eu,wU];show 2*(wJ x+oM wJ (r'.map Prod.fst))+p<=_;have hw:=V4 hl;rw[gG] at hw;have hx:wJ x=0\/wJ x=(iE x).length:=by unfold wJ;split <;> simp
     by_cases ht0:t=[]
     .subst ht0
      have hz:r'=[]:=by
       cases n with
       |zero=>injection hr' with hr';exact hr'.symm
       |succ n=>unfold mP at hr';rw[au ak] at hr';injection hr' with hr';exact hr'.symm
      subst hz;show 2*(wJ x+0)+p<=_;rcases hw with hk|⟨_,h1,_⟩
      .unfold wJ;rw[av hk];omega
      .simp only[iy] at h1
       omega
     .rcases hw with hk|⟨_,_,h2⟩
      .have:wJ x=0:=by unfold wJ;rw[av hk]
       omega
      .have:=h2 ht0
       omega
   .cases h
  .injection h with h;subst h;show 2*0+p<=_;omega
theorem ab3 (f:aH->o):∀ls:j aH,oM f (Eg ls)<=oM (λl=>if l.kind=0 then 0 else f l) ls:=by
 have key:∀ls:j aH,oM f (ls.flatMap (jO 1 6))+oM f (ls.flatMap (jO 7 7))+oM f (ls.flatMap (jO 8 8))+oM f (ls.flatMap (jO 9 9))<=oM (λl=>if l.kind=0 then 0 else f l) ls:=by
  intro ls
  induction ls with
  |nil=>exact aB _
  |cons l ls ih=>
   simp only[gY,H9,wU];have h1:∀a b,oM f (jO a b l)=if a<=l.kind/\l.kind<=b then f l else 0:=λa b=>by
    unfold jO;split
    .show f l+0=f l;rfl
    .rfl
   rw[h1,h1,h1,h1]
   repeat' split
   all_goals omega
 intro ls;unfold Eg;rw[H9,H9,H9];exact key ls
theorem Y7 {s:aH}(h:dW s):(jL s).length<=42*(iE s).length:=by
 have h1:=En (iE s) (Gh s h.1 h.2.1);have h2:0<(iE s).length:=by unfold iE;simp
 unfold jL;rw[bL,kN];omega
theorem Y8 {f g:aH->o}:∀{ls:j aH},(∀l∈ls,f l<=g l)->oM f ls<=oM g ls
 |[],_=>aB _
 |l::ls,h=>by rw[wU,wU];exact Nat.add_le_add (h l fM) (Y8 λx hx=>h x (eD _ hx))
theorem TW (k:o)(f:aH->o):∀ls:j aH,oM (λl=>k*f l) ls=k*oM f ls
 |[]=>rfl
 |l::ls=>by rw[wU,wU,TW k f ls,Nat.mul_add]
theorem Rb:∀ls:j aH,(ls.flatMap jL).length=oM (λl=>(jL l).length) ls
 |[]=>rfl
 |l::ls=>by rw[gY,bL,Rb ls,wU]
theorem Y9 {s:Bs}{r:j (aH × C)}(h:lG s= .ok r)(hs:s.length<=6000):((Eg (r.map Prod.fst)).flatMap jL).length<=131072:=by
 unfold lG at h;rw[au ah] at h;have h1:=I4 s _ _ r h (aZ _);have hB:=Nn s (λp hp he=>VY hp he) _ _ r h;have h2:=ab3 (λl=>(jL l).length) (r.map Prod.fst);have h3:oM (λl=>if l.kind=0 then 0 else(jL l).length) (r.map Prod.fst)<=oM (λl=>42*wJ l) (r.map Prod.fst):=Y8 λl hl=>by
  obtain⟨x,hx,rfl⟩:=dI.1 hl;unfold wJ
  split
  .exact aZ _
  .rename_i hk
   exact Y7 ((yN (hB x hx)).resolve_left hk)
 rw[TW] at h3;rw[Rb];omega
theorem VO {c d:Cont}(h:qR c d):eH c=eH d:=by
 have h0:=h.n 0 aj;have h1:=h.n 1 aj;have h2:=h.n 2 aj;have h3:=h.n 3 aj;unfold eH;rw[h.E,h.SE,h.D,h.SD,h.M,h.SM,h.Q];have e1:(λp:EvC × j Sn=>iD c p.1 p.2)=λp=>iD d p.1 p.2:=by funext p;unfold iD;rw[h0,h1,h2,h3]
 have e2:(λp:aM × j C=>nT c p.1 p.2)=λp=>nT d p.1 p.2:=by funext p;unfold nT;rw[h0,h2]
 have e3:(λp:aN × j C=>nU c p.1 p.2)=λp=>nU d p.1 p.2:=by funext p;unfold nU;rw[h0,h2,h3]
 have e4:sw c=sw d:=by funext x;unfold sw;rw[h1]
 rw[e1,e2,e3,e4]
theorem Za:∀{ls:j aH},(∀l∈ls,l.kind≠0)->ls.flatMap jL=ls.flatMap oJ
 |[],_=>rfl
 |l::ls,h=>by
  rw[gY,gY,Za (λx hx=>h x (eD _ hx))];unfold oJ;rw[au (h l fM)]
theorem Nq:∀ls:j aH,ls.length<=(ls.flatMap oJ).length
 |[]=>aB _
 |l::ls=>by have:=Nq ls;have:=Nl l;rw[gY,bL,dO];omega
theorem abO {s:Bs}{r:j (aH × C)}{z:Cont}(h:lG s= .ok r)(hz:sU eO 0 (r.map Prod.fst)= .ok z)(hl:((eH (cO z)).flatMap jL).length<=131072):
  ∃r2 z2,lG ((eH (cO z)).flatMap jL)= .ok r2/\sU eO 0 (r2.map Prod.fst)= .ok z2/\qR (cO z2) (cO z):=by
 obtain⟨h1,h2,h3,h4,_⟩:=zO hz;have hs:=gK.number h1;have hB:=FU hs;have hK:(eH (cO z)).flatMap jL=(eH (cO z)).flatMap oJ:=Za (λl hl=>by
  have:=(hB l hl).2.2;intro h0;rcases this with⟨e,_⟩|⟨e,_⟩|⟨e,_⟩|⟨e,_⟩|⟨e,_⟩|⟨e,_⟩|⟨e,_⟩|⟨e,_⟩|⟨e,_⟩ <;> omega)
 obtain⟨z2,e2,s2⟩:=aad (d:=cO z) (λi _=>FJ z i) hs (jD.number z) (h2.number h1.le) (zu h1 h4) (λl hl=>Eo (hB l hl));have hn:=Nq (eH (cO z));have ht:=K6 (eH (cO z)) [] (((eH (cO z)).flatMap oJ).length+1) (λl hl=>Eo (hB l hl)) ah;refine⟨yX ([]:Bs).length (eH (cO z)),z2,?_,?_,s2⟩
 .unfold lG
  rw[au ah,hK];exact ht
 .rw[K7];exact e2
theorem YS {s:Bs}{r:j (aH × C)}{z:Cont}(h:lG s= .ok r)(hz:sU eO 0 (r.map Prod.fst)= .ok z)(hs:s.length<=6000):((eH (cO z)).flatMap jL).length<=131072:=by
 obtain⟨h1,_,_,h4,rfl⟩:=zO hz;rw[FH h1,Mr (Mw (Lu _ _ _ _ hz).2.1) h4];exact Y9 h hs
end Yd
