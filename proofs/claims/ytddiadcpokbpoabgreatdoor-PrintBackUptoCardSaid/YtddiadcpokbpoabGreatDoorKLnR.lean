import Derived.Test.YtddiadcpokbpoabGreatDoorKDown13
import Derived.Test.YtddiadcpokbpoabGreatDoorKREvent
set_option linter.all false
set_option maxRecDepth 200000
set_option maxHeartbeats 8000000
namespace Yd
open Option renaming none->D,some->I
open Go Go.RowKit Go.Proofs Tryz
open Go.IntKind renaming i64->G
open Go.Obj renaming cells->J
open Go.Value renaming int->H,pointer->L,slice->O
open Tryz renaming prog->V
open Yd renaming hid->C
open _root_ renaming Int->M,Nat->U
theorem aa0{p:Prop}(h:p:=by have:=(d.q.n.2.1.lt g F).1;simp;omega):p:=h
theorem aa1{p:Prop}(h:p:=by have:=(d.q.n.2.2.lt g F).1;simp;omega):p:=h
theorem aa2{p:Prop}(h:p:=by omega):p:=h
theorem aa3{p:Prop}(h:p:=by have:=F.q;omega):p:=h
theorem aa4{p:Prop}(h:p:=by have:=T.q;rw[o] at this;exact this.symm):p:=h
theorem aa5{p:Prop}(h:p:=by have:=χ.q;rw[S] at this;exact this.symm):p:=h
theorem aa6{p:Prop}(h:p:=by simp;omega):p:=h
theorem aa7{p:Prop}(h:p:=by have:=E.q;omega):p:=h
theorem aa8{p:Prop}(h:p:=by have:=d.q;omega):p:=h
theorem aa9{p:Prop}(h:p:=by have:=κ.q;omega):p:=h
variable{X:World}
theorem Own.aam {g:U}(h:X.1.size=g)(l:List Bs)(b:l.length<=maxLen):Own (X.alloc (J (l.map (λs=>Value.string ⟨s.toArray⟩)).toArray 9)) g 9 1 encStr (O (I ⟨g,0,D⟩) l.length l.length) l:=by
 subst h;exact Own.new (hc:=eX) X X.1.size 9 _ l (aB _) (by
  show l.map (λs=>Value.string ⟨s.toArray⟩)=l.flatMap encStr
  induction l with
  |nil=>rfl
  |cons a l c=>rw[dX,gZ,c (by simp at b;omega)];rfl) b
variable{w:World}{R p:U}{s l:Bs}{c:bH}{n:aJ}
theorem eT.zK (h:eT w R s p l c n)(i:U)(v:Value)(c':bH)(a:aJ)(y:i<8)(hc:(qj s p c).setIfInBounds i v=qj s p c')
  (z:c'.na=c.na/\c'.nn=c.nn/\c'.nc=c.nc/\c'.va=c.va/\c'.vn=c.vn/\c'.vc=c.vc) (b:a.names=n.names/\a.aN=n.aN) (d:c'.kind=a.kind/\c'.lvl=a.lvl/\c'.first=a.first/\c'.bits=a.bits):
  eT (w.setCell ⟨R,i,D⟩ v) R s p l c' a/\Mv R c c' w (w.setCell ⟨R,i,D⟩ v):=by
 obtain⟨m,f,o,q,j,r⟩:=z;obtain⟨⟨_,_,_,_,A,B⟩,t,u⟩:=h.n;have x:=h.x.bB i (by simpa using y) v;rw[hc] at x;refine⟨⟨x,⟨⟨d.1,d.2.1,d.2.2.1,d.2.2.2,by rw[f,b.1];exact A,by rw[j,b.2];exact B⟩,?_,?_⟩,h.d,h.le,h.lim⟩,Same.setCell _ _ _ _ (λe=>e.1 rfl),?_,?_⟩
 .rw[m,f,o,b.1];exact t.block λg k=>Below.heap_setCell _ _ _ _ (by have:=(t.lt g k).1;simp;omega)
 .rw[q,j,r,b.2];exact u.block λg k=>Below.heap_setCell _ _ _ _ (by have:=(u.lt g k).1;simp;omega)
 .rw[m,f,o];exact λ_ h=> .inl h
 .rw[q,j,r];exact λ_ h=> .inl h
theorem FT:(∀x∈mF,x.length<=100)/\(∀x∈mF,(128:UInt8)∉x):=by decide
theorem Ro (w:World)(h:eT w R s p l c n):
  Calls V 165 #[L (I ⟨R,0,D⟩)] w (dP R s c w (λ_:Unit=> .tuple #[]) (match fo mF l with| .error x=> .error x| .ok (i,r)=> .ok ((),{n with lvl:=1+(i:M)},r))):=by
 obtain⟨X,g⟩:∃X:Except Er (Unit × aJ × Bs),X=(match fo mF l with| .error x=> .error x| .ok (i,r)=> .ok ((),{n with lvl:=1+(i:M)},r)):=⟨_,rfl⟩;rw[<-g];have m:=C g;have k:=aA (Below.refl w.1.size w) (J #[.string ⟨#[49]⟩,.string ⟨#[50]⟩,.string ⟨#[50,46,57,57]⟩,.string ⟨#[51]⟩] 9);have o:=C k;have u:=C (EH _ (h.below k) (I ⟨w.1.size,0,D⟩) 4 4 mF ((Own.aam rfl mF aj).row aj) aj FT.1 FT.2);clear g h k;go_enter func165,ntmps165;go_wp2_with fail;refine u.q.mono ?_;intro e E b
 cases a:fo mF l with
 |error x=>
  rw[a] at b;obtain⟨rfl,v⟩:=b;refine⟨rfl,?_⟩;show dP R s c w _ _ _ _;rw[m.q,a];exact⟨rfl,(Same.of_below o.q (λ_ _ h=>h)).tr v⟩
 |ok y=>
  obtain⟨i,r⟩:=y;rw[a] at b;obtain⟨rfl,q,d,t⟩:=b;have F:i<4:=by
   unfold fo at a
   split at a
   .rename_i j z
    injection a with a;injection a with a _;have:=(BQ.1 z).1;subst a;exact this
   .cases a
  have f:=C d;have A:=C ((Mv.of_below o.q).trans t);have B:=C a;have K:=d.x.1 4;have P:=f1 d 4;clear d t a;go_wp2_with fail;refine bodyPost_end (results_none rfl _ _ _) rfl ?_;show dP R s c w _ _ _ _;rw[m.q,B.q];have:=f.q.zK 4 (H G (1+(i:M))) {c with lvl:=1+(i:M)} {n with lvl:=1+(i:M)} aj rfl ⟨rfl,rfl,rfl,rfl,rfl,rfl⟩ ⟨rfl,rfl⟩ ⟨f.q.n.1.1,rfl,f.q.n.1.2.2.1,f.q.n.1.2.2.2.1⟩;exact⟨rfl,q,_,this.1,A.q.trans this.2⟩
variable{r:Bs}
theorem Rp {b:Bool}(h:dM l= .ok (b,r)):r=bL l:=by
 unfold dM at h
 split at h
 .injection h with h;injection h with _ h;exact h.symm
 .split at h
  .cases h
  .injection h with h;injection h with _ h;exact h.symm
theorem O6 (h:dM l= .ok (true,r)):dR r=false:=by
 have e:=Rp h;unfold dM at h
 split at h
 .injection h with h;injection h with h _;cases h
 .rename_i a;rw[e];simpa using a
theorem Rq (w:World)(h:eT w R s p l c n)(hn:n.first=false):
  Calls V 169 #[L (I ⟨R,0,D⟩)] w (dP R s c w (λ_:Unit=> .tuple #[]) (match jJ l with| .error x=> .error x| .ok (f,r)=> .ok ((),{n with first:=f},r))):=by
 obtain⟨X,o⟩:∃X:Except Er (Unit × aJ × Bs),X=(match jJ l with| .error x=> .error x| .ok (f,r)=> .ok ((),{n with first:=f},r)):=⟨_,rfl⟩;rw[<-o];have Y:=C (λW (hb:Below w.1.size w W)=>yQ W (h.below hb));have HH:=C h;have v:Hid (Below w.1.size w w.drew):=C ((Below.refl _ _).drew);have y:=h.c0;have c1:=h.c1;have z1:=f1 h 1;have ξ:=h.len;have ε:=h.lim;have ζ:Hid ({n with first:=false}=n):=C (by rw[<-hn]);have HD:=C h.d;clear h hn
 cases k:dM l with
 |error x=>
  have z:Hid (X= .error x):=C (by rw[o];unfold jJ;rw[k]);have A:=C k;have κ:Hid (∀B Q,(B=nu (s.length - x.1.length) x.2/\Same (mW R c) w.drew Q)->dP R s c w (λ_:Unit=> .tuple #[]) X (.panicked B) Q):=C (by
   rintro B Q ⟨rfl,S⟩;rw[z.q];exact⟨rfl,S.os,S.tape,S.output,S.size,S.block⟩)
  clear o k;go_enter func169,ntmps169;go_wp2_with fail;refine dz 99 [(0,0),(1,2),(2,0),(3,0),(4,0),(5,0),(6,0),(7,0),(8,0),(9,0),(10,0),(11,0),(12,0),(13,0)] (λ_=>True) (λE=>E.cell? ⟨R,0,D⟩=I (.string ⟨s.toArray⟩)) (λB Q=>B=nu (s.length - x.1.length) x.2/\Same (mW R c) w.drew Q) ay ay (λB a1 w1 hd hr=>⟨hd,κ.q B w1 hr⟩) (trivial) (y) ?_;refine qC ?_;refine aF rfl rfl (λK j=>?_);go_simp;refine(Y.q _ v.q).mono ?_;intro e w2 m;rw[A.q] at m;obtain⟨rfl,hs⟩:=m;exact⟨rfl,rfl,hs⟩
 |ok br=>
  obtain⟨b,r⟩:=br
  cases b with
  |false=>
   have z:Hid (X= .ok ((),{n with first:=false},l)):=C (by rw[o];unfold jJ;rw[k]);have A:=C k;clear o k;go_enter func169,ntmps169;go_wp2_with fail;refine aC 99 [(0,0),(1,2),(2,0),(3,0),(4,0),(5,0),(6,0),(7,0),(8,0),(9,0),(10,0),(11,0),(12,0),(13,0)] (λ_=>True) (λE=>E.cell? ⟨R,0,D⟩=I (.string ⟨s.toArray⟩)) ay ay (trivial) (y) ?_;refine qC ?_;refine aF rfl rfl (λK j=>?_);go_simp;refine(Y.q _ v.q).mono ?_;intro e w2 m;rw[A.q] at m;obtain⟨rfl,q,i,u⟩:=m;have d:=C i;have T:=C ((Mv.of_below v.q).trans u);refine j _ _ ⟨trivial,i.c0⟩ ?_;have η:=i.c1;have θ:=f1 i 1;clear j K i u y c1 z1;refine qC ?_;refine aO ?_;go_wp2_with fail;refine bodyPost_end (results_none rfl _ _ _) rfl ?_;show dP R s c w _ _ _ _;rw[z.q,ζ.q];have hx:=d.q.x.bB 1 ak (H G (p:M));exact⟨rfl,p,c,⟨hx,⟨d.q.n.1,d.q.n.2.1.block λg F=>Below.heap_setCell _ _ _ _ aa0,d.q.n.2.2.block λg F=>Below.heap_setCell _ _ _ _ aa1⟩,HD.q,aa2,ε⟩,T.q.trans ⟨Same.setCell _ _ _ _ (λe=>e.1 rfl),λ_ h=> .inl h,λ_ h=> .inl h⟩⟩
  |true=>
   have γ:=O6 k;obtain⟨P,Z,rfl⟩:∃P Z,r=P::Z:=by cases r with
    |nil=>exact absurd γ aj
    |cons a t=>exact⟨a,t,rfl⟩
   by_cases α:P=45
   .subst α
    have z:Hid (X= .ok ((),{n with first:=true},Z)):=C (by rw[o];unfold jJ;rw[k];simp only[];rw[av (show(45::Z:Bs).head?=I 45 from rfl)];rfl);have A:=C k;clear o k γ;go_enter func169,ntmps169;go_wp2_with fail;refine aC 99 [(0,0),(1,2),(2,0),(3,0),(4,0),(5,0),(6,0),(7,0),(8,0),(9,0),(10,2),(11,0),(12,0),(13,0)] (λ_=>True) (λE=>E.cell? ⟨R,0,D⟩=I (.string ⟨s.toArray⟩)) ay ay (trivial) (y) ?_;refine qC ?_;refine aF rfl rfl (λK j=>?_);go_simp;refine(Y.q _ v.q).mono ?_;intro e w2 m;rw[A.q] at m;obtain⟨rfl,q,i,u⟩:=m;have d:=C i;have T:=C ((Mv.of_below v.q).trans u);refine j _ _ ⟨trivial,i.c0⟩ ?_;have η:=i.c1;have θ:=f1 i 1;have μ:=λW=>jA Tryz.underlying9 s q 45 i.at_ W
    clear j K i u y c1 z1;refine qC ?_;refine aF rfl rfl (λK j=>?_);go_simp;refine j _ _ ⟨trivial,d.q.c0⟩ ?_;clear j K;refine qC ?_;refine aO ?_;have ο:q<=1000000:=by have:=d.q.le;have:=d.q.lim;omega
    have β:=d.q.to 1 rfl ak (q+1) rfl;have δ:=β.1.zK 6 (.bool true) {c with first:=true} {n with first:=true} aj rfl ⟨rfl,rfl,rfl,rfl,rfl,rfl⟩ ⟨rfl,rfl⟩ ⟨d.q.n.1.1,d.q.n.1.2.1,rfl,d.q.n.1.2.2.2.1⟩;rw[xw] at β δ;have ν:=C β;have ι:=C δ;have π:=d.q.x.1 6;have z6:=f1 d.q 6;clear β δ;go_wp2_with fail;refine bodyPost_ret (results_none rfl _ _ _) rfl ?_;show dP R s c w _ _ _ _;rw[z.q];exact⟨rfl,q+1,_,ι.q.1,T.q.trans (ν.q.2.trans ι.q.2)⟩
   .have ρ:((P.toNat:M)==45)=false:=aX.2 (λe=>α (iV.1 (by show P.toNat=45;omega)))
    have z:Hid (X= .ok ((),{n with first:=false},l)):=C (by rw[o];unfold jJ;rw[k];simp only[];rw[au (by simpa using α)]);have A:=C k;clear o k γ α;go_enter func169,ntmps169;go_wp2_with fail;refine aC 99 [(0,0),(1,2),(2,0),(3,0),(4,0),(5,0),(6,0),(7,0),(8,0),(9,0),(10,2),(11,0),(12,0),(13,0)] (λ_=>True) (λE=>E.cell? ⟨R,0,D⟩=I (.string ⟨s.toArray⟩)) ay ay (trivial) (y) ?_;refine qC ?_;refine aF rfl rfl (λK j=>?_);go_simp;refine(Y.q _ v.q).mono ?_;intro e w2 m;rw[A.q] at m;obtain⟨rfl,q,i,u⟩:=m;have d:=C i;have T:=C ((Mv.of_below v.q).trans u);refine j _ _ ⟨trivial,i.c0⟩ ?_;have η:=i.c1;have θ:=f1 i 1;have μ:=λW=>jA Tryz.underlying9 s q P i.at_ W
    clear j K i u y c1 z1;refine qC ?_;refine aF rfl rfl (λK j=>?_);go_simp;refine j _ _ ⟨trivial,d.q.c0⟩ ?_;clear j K;refine qC ?_;refine aO ?_;go_wp2_with fail;refine bodyPost_end (results_none rfl _ _ _) rfl ?_;show dP R s c w _ _ _ _;rw[z.q,ζ.q];have hx:=d.q.x.bB 1 ak (H G (p:M));exact⟨rfl,p,c,⟨hx,⟨d.q.n.1,d.q.n.2.1.block λg F=>Below.heap_setCell _ _ _ _ aa0,d.q.n.2.2.block λg F=>Below.heap_setCell _ _ _ _ aa1⟩,HD.q,aa2,ε⟩,T.q.trans ⟨Same.setCell _ _ _ _ (λe=>e.1 rfl),λ_ h=> .inl h,λ_ h=> .inl h⟩⟩
def zM:U->U
 |0=>164
 |1=>165
 |_=>166
def vK (a:U)(n:aJ)(l:Bs):Except Er (Unit × aJ × Bs):=
 if a=0 then(match dF l with| .error x=> .error x| .ok (m,r)=> .ok ((),addN n m,r))
 else if a=1 then(match fo mF l with| .error x=> .error x| .ok (i,r)=> .ok ((),{n with lvl:=1+(i:M)},r))
 else(match gG l with| .error x=> .error x| .ok (v,r)=> .ok ((),zk n v,r))
def kX:List U->aJ->Bs->Except Er (Unit × aJ × Bs)
 |[],n,l=> .ok ((),n,l)
 |a::t,n,l=>match eD l with
  | .error x=> .error x
  | .ok r=>match vK a n r with
   | .error x=> .error x
   | .ok (_,b,c)=>kX t b c
def yR (R:U)(a:U):List Value:=[.func (.func (zM a)) #[L (I ⟨R,0,D⟩)] #[]]
theorem O7:∀args w,(callFunc 164 args).run V w= .ok (.enter 164 args) w:=enters_of func164 ay rfl
theorem MF:∀args w,(callFunc 165 args).run V w= .ok (.enter 165 args) w:=enters_of func165 ay rfl
theorem O8:∀args w,(callFunc 166 args).run V w= .ok (.enter 166 args) w:=enters_of func166 ay rfl
theorem WY (a:U)(w:World)(h:eT w R s p l c n)(b:rE R w)(d:n.names.length<=1000)(e:n.aN.length<=1000):
  Calls V (zM a) #[L (I ⟨R,0,D⟩)] w (dP R s c w (λ_:Unit=> .tuple #[]) (vK a n l)):=by
 unfold vK
 match a with
 |0=>exact JF w h b.tabs d
 |1=>exact Ro w h
 |a+2=>exact DR w h b e
variable{u:Unit}
theorem KS {a:U}{b:aJ}(h:vK a n l= .ok (u,b,r)):b.names.length<=n.names.length+1/\b.aN.length<=n.aN.length+1:=by
 unfold vK at h
 split at h
 .split at h
  .cases h
  .injection h with h;injection h with _ h;injection h with h _;subst h;simp
 .split at h
  .split at h
   .cases h
   .injection h with h;injection h with _ h;injection h with h _;subst h;simp
  .split at h
   .cases h
   .injection h with h;injection h with _ h;injection h with h _;subst h;simp
variable{b:U}
theorem Mv.row {α:Type}{enc:α->List Value}{k:U}{c':bH}(g:Mv R c c' w X){o n d:U}{xs:List α}(h:Row w k enc (I ⟨b,o,D⟩) n d xs)(l:mW R c b)(m:b<w.1.size):Row X k enc (I ⟨b,o,D⟩) n d xs:=
 ⟨h.1,h.2.1,h.2.2.1,h.2.2.2.1,λi x p=>let⟨q,f,e,r⟩:=h.2.2.2.2 i x p;⟨q,f,e,λj v s=>by
  injection e with e;injection e with t u;subst t;exact(World.cell?_of_block (a:=⟨b,f+i*k+j,D⟩) (g.same.block b l m)).trans (r j v s)⟩⟩
theorem uG (w:World)(h:eT w R s p l c n)(hG:rE R w)(b o j cc:U)(f:List U)(K:Row w 1 (yR R) (I ⟨b,o,D⟩) j cc f)(hb:mW R c b)(δ:b<w.1.size)(Φ:j<=10)(hn:n.names.length<=900)(hv:n.aN.length<=900):
  Calls V 167 #[L (I ⟨R,0,D⟩),O (I ⟨b,o,D⟩) j cc] w (dP R s c w (λ_:Unit=> .tuple #[]) (kX f n l)):=by
 obtain⟨X,P⟩:∃X,X=kX f n l:=⟨_,rfl⟩;rw[<-P];have HR:=C K;have HH:=C h;have HG:=C hG;have π:=C hb;have ρ:=C δ;have HX:=C P;have HN:=C (⟨hn,hv⟩:_/\_);have Ψ:=K.len;clear K h hG hb δ P hn hv;go_enter func167,ntmps167;go_wp2_with fail
 go_loopw [8] (λi wr=>∃(W:World)(k q:U)(t:Bs)(A:bH)(g:aJ),W=wr/\i= H G k/\k<=j/\eT W R s q t A g/\Mv R c A w W/\rE R W/\kX (f.drop k) g t=X/\g.names.length<=900+k/\g.aN.length<=900+k) (λi _=>j - (RowKit.intOf i).toNat)
 case atStart=>exact⟨_,0,p,l,c,n,rfl,rfl,bn _,HH.q,Mv.refl _ _ _,HG.q,HX.q.symm,HN.q.1,HN.q.2⟩
 case round=>
  obtain⟨W,k,q,t,A,g,rfl,rfl,hk,v,y,Q,m,S,T⟩:=hrel;by_cases σ:k<j
  .obtain⟨a,b',o',ε,Y,ζ⟩:=(y.row HR.q π.q ρ.q).at_ σ
   injection Y with Y;injection Y with e1 e2;subst e1 e2;have τ:=ζ 0 _ rfl;simp only[gJ,dB] at τ;have η:f.drop k=a::f.drop (k+1):=by
    obtain⟨υ,d⟩:=bK.1 ε;rw[lW υ,d]
   rw[η] at m;simp only[kX] at m;have Z:=C v;have B:=C y;have φ:=C Q;have E:=C m;have F:=C (⟨S,T⟩:_/\_);have χ:=C (KT W v);clear ζ ε η v y Q m S T;go_wp2_with fail;refine χ.q.mono ?_;intro e w2 d
   cases z:eD t with
   |error x=>
    rw[z] at d;obtain⟨rfl,hs⟩:=d;refine⟨rfl,?_⟩;show dP R s c w _ _ _ _;rw[<-E.q,z];exact⟨rfl,B.q.jB hs⟩
   |ok r=>
    rw[z] at d;obtain⟨rfl,q2,α,β⟩:=d;have θ:Hid ((match vK a g r with| .error x=> .error x| .ok (_,n',r')=>kX (f.drop (k+1)) n' r')=X):=C (by have:=E.q;rw[z] at this;exact this);have ψ:=C α;have ι:=C (B.q.trans β);have κ:=C (φ.q.mv Z.q β.same);have ω:=C (WY a w2 α κ.q aa3 aa3);have Ω:∀μ w,(callFunc (zM a) μ).run V w= .ok (.enter (zM a) μ) w:=by
     match a with
     |0=>exact O7
     |1=>exact MF
     |a+2=>exact O8
    clear α β z;go_wp2_with fail;refine ω.q.mono ?_;intro e w3 d
    cases ha:vK a g r with
    |error x=>
     rw[ha] at d;obtain⟨rfl,hs⟩:=d;refine⟨rfl,?_⟩;show dP R s c w _ _ _ _;rw[<-θ.q,ha];exact⟨rfl,ι.q.jB hs⟩
    |ok ur=>
     obtain⟨u,n3,r3⟩:=ur;rw[ha] at d;obtain⟨rfl,q3,c3,ν,γ⟩:=d;have ξ:=KS ha;have Γ:Hid (kX (f.drop (k+1)) n3 r3=X):=C (by have:=θ.q;rw[ha] at this;exact this);have Δ:=C ν;have Θ:=C (ι.q.trans γ);have Ξ:=C (κ.q.mv ψ.q γ.same);have ο:=C ξ;clear ν γ ξ ha;go_wp2_with fail;go_roundw
     case rel=>exact⟨_,k+1,q3,r3,c3,n3,rfl,by go_num,by omega,Δ.q,Θ.q,Ξ.q,Γ.q,by have:=ο.q;have:=F.q;omega,by have:=ο.q;have:=F.q;omega⟩
     case measure=>simp[RowKit.intOf];omega
  .obtain rfl:k=j:=by omega
   rw[List.drop_of_length_le ah] at m;have E:Hid (X= .ok ((),g,t)):=C m.symm;have Z:=C v;have B:=C y;clear m v y Q S T;go_wp2_with fail;refine bodyPost_end (results_none rfl _ _ _) rfl ?_;show dP R s c w _ _ _ _;rw[E.q];exact⟨rfl,q,A,Z.q,B.q⟩
theorem WZ:∀k:Fin 4,∀b:Fin 8,b.val<2 ^ k.val->Go.bits .or G (b.val:M) (2 ^ k.val:M)=(b.val:M)+2 ^ k.val:=by decide
theorem or_bit (k b:U)(c:k<4)(a:b<2 ^ k):Go.bits .or G (b:M) (2 ^ k:M)=(b:M)+2 ^ k:=by
 have d:b<8:=bP a (by
  have:k<=3:=by omega
  exact bI (yS aj this) aj)
 exact WZ ⟨k,c⟩ ⟨b,d⟩ a
theorem Rs (k i:U)(h:k+i<4):wrap64 ((k:M)+(i:M))=((k+i:U):M):=by
 unfold wrap64;omega
theorem FU (k i:U)(h:k+i<4):wrap64 ((k:M)+(i:M)+1)=((k+i+1:U):M):=by
 unfold wrap64;omega
theorem UI (m:U)(h:m<4)(W:World):(Go.Op.shift .shl G 1 G (m:M)).run V W= .ok (H G (2 ^ m)) W:=by
 rcases(by omega:m=0\/m=1\/m=2\/m=3) with rfl|rfl|rfl|rfl <;> rfl
theorem UJ (k i:U)(h:k+i<4)(W:World):(Go.Op.shift .shl G 1 G ((k:M)+(i:M))).run V W= .ok (H G (2 ^ (k+i))) W:=by
 have:=UI (k+i) h W
 simpa using this
theorem O9 (d:jM w)(k:U)(l:k<=4):Row w 1 encStr (I ⟨1,k,D⟩) (4 - k) (4 - k) (jR.drop k):=by
 refine⟨by simp[jR],aB _,aa2,λh=>(by cases h),λi x a=>⟨1,k,rfl,λj v b=>?_⟩⟩;rw[xA] at a;have c:k+i<4:=by
  have:=(bK.1 a).1
  simpa[jR] using this
 obtain rfl:j=0:=by
  have:=(bK.1 b).1
  simpa[encStr] using this
 have e:v= .string ⟨x.toArray⟩:=by simpa[encStr] using b.symm
 have f:x=jZ (k+i):=by
  have g:∀m,m<4->jR[m]?=I (jZ m):=λm n=>by
   rcases(by omega:m=0\/m=1\/m=2\/m=3) with rfl|rfl|rfl|rfl <;> rfl
  rw[g _ c] at a;injection a with a;exact a.symm
 have:=d.2.2.1 (k+i) c;rw[e,f]
 simpa using this
def MG (k:U):U:=if k=4 then 0 else k
theorem Pb (k:U)(a:k<=4)(W:World):(Instr.sliceAt 131 (L (I ⟨1,0,D⟩)) (I (H G (k:M))) D D).run V W= .ok (O (I ⟨1,MG k,D⟩) (4 - k) (4 - k)) W:=by
 rcases(by omega:k=0\/k=1\/k=2\/k=3\/k=4) with rfl|rfl|rfl|rfl|rfl <;> kernel_rfl
theorem MH (b:jM w)(k:U)(c:k<=4):Row w 1 encStr (I ⟨1,MG k,D⟩) (4 - k) (4 - k) (jR.drop k):=by
 by_cases a:k=4
 .subst a
  exact⟨rfl,aB _,aa2,λh=>(by cases h),λi x d=>by simp[jR] at d⟩
 .unfold MG;rw[au a];exact O9 b k c
theorem FV:(∀x∈jR,x.length<=100)/\(∀x∈jR,(128:UInt8)∉x):=by decide
theorem Gq (w:World)(h:eT w R s p l c n)(hG:rE R w)(v:n.bits=0):
  Calls V 168 #[L (I ⟨R,0,D⟩)] w (dP R s c w (λ_:Unit=> .tuple #[]) (match iW 5 0 0 l with| .error x=> .error x| .ok (b,r)=> .ok ((),{n with bits:=b},r))):=by
 obtain⟨Y,y⟩:∃Y:Except Er (Unit × aJ × Bs),Y=(match iW 5 0 0 l with| .error x=> .error x| .ok (b,r)=> .ok ((),{n with bits:=b},r)):=⟨_,rfl⟩;rw[<-y];have P:Hid (∀x,iW 5 0 0 l= .error x->Y= .error x):=C (λx d=>by rw[y,d]);have δ:Hid (∀b r,iW 5 0 0 l= .ok (b,r)->Y= .ok ((),{n with bits:=b},r)):=C (λb r d=>by rw[y,d]);clear y;obtain⟨X,Q⟩:∃X:Except Er (M × Bs),X=iW 5 0 0 l:=⟨_,rfl⟩;rw[<-Q] at P δ;have HX:=C Q;have HH:=C h;have HG:=C hG;have HN:Hid (n={n with bits:=0}):=C (by cases n;simp at v;subst v;rfl);clear Q h hG v;go_enter func168,ntmps168;go_wp2_with fail
 go_loopw [2] (λi wr=>∃(W:World)(k f q b:U)(z:Bs)(t:bH),W=wr/\i= H G k/\k<=4/\5<=f+k/\b<2 ^ k/\eT W R s q z t {n with bits:=b}/\Mv R c t w W/\rE R W/\iW f k b z=X) (λi _=>4 - (RowKit.intOf i).toNat)
 case atStart=>exact⟨_,0,5,p,0,l,c,rfl,rfl,by omega,by omega,by decide,by have:=HH.q;rw[HN.q] at this;exact this,Mv.refl _ _ _,HG.q,HX.q.symm⟩
 case round=>
  obtain⟨W,k,f,q,b,z,t,rfl,rfl,hk,hf,ε,S,hm,hg,d⟩:=hrel;obtain⟨f,rfl⟩:∃f',f=f'+1:=⟨f - 1,aa2⟩;simp only[iW] at d;have HC:=C S;have HM:=C hm;have κ:=C hg;have T:=C d;have ζ:=C ε;have HF:=C hf;have μ:=C (yQ W S);clear S hm hg d ε;go_wp2_with fail;refine μ.q.mono ?_;intro e w2 g
  cases o:dM z with
  |error x=>
   rw[o] at g;obtain⟨rfl,Z⟩:=g;refine⟨rfl,?_⟩;show dP R s c w _ _ _ _;rw[P.q x aa4];exact⟨rfl,HM.q.jB Z⟩
  |ok br=>
   obtain⟨bb,r⟩:=br;rw[o] at g;obtain⟨rfl,q2,A,B⟩:=g;have η:=C A;have α:=C (HM.q.trans B);have θ:=C (κ.q.mv HC.q B.same)
   cases bb
   .have E:Hid (X= .ok ((b:M),r)):=C aa4
    clear A B o;go_wp2_with fail;refine bodyPost_end (results_none rfl _ _ _) rfl ?_;show dP R s c w _ _ _ _;rw[δ.q _ _ E.q];exact⟨rfl,q2,t,η.q,α.q⟩
   .have E:Hid ((match fo (jR.drop k) r with| .error x=> .error x| .ok (i,r')=>iW f (k+i+1) ((b:M)+2 ^ (k+i)) r')=X):=C (by have:=T.q;rw[o] at this;exact this)
    have υ:=λW=>Pb k hk W
    have HW:=C (EH w2 A (I ⟨1,MG k,D⟩) (4 - k) (4 - k) (jR.drop k) (MH θ.q.l k hk) ah (λx d=>FV.1 x (wh d)) (λx d=>FV.2 x (wh d)));clear A B o;go_wp2_with fail;refine HW.q.mono ?_;intro e w3 g
    cases a:fo (jR.drop k) r with
    |error x=>
     rw[a] at g;obtain⟨rfl,Z⟩:=g;refine⟨rfl,?_⟩;show dP R s c w _ _ _ _;rw[P.q x (by have:=E.q;rw[a] at this;exact this.symm)];exact⟨rfl,α.q.jB Z⟩
    |ok ir=>
     obtain⟨i,r3⟩:=ir;rw[a] at g;obtain⟨rfl,q3,ι,β⟩:=g;have hi:k+i<4:=by
      unfold fo at a
      split at a
      .rename_i j hj
       injection a with a;injection a with a _;have:=(BQ.1 hj).1;subst a;simp[jR] at this;omega
      .cases a
     have ν:Hid (iW f (k+i+1) ((b:M)+2 ^ (k+i)) r3=X):=C (by have:=E.q;rw[a] at this;exact this);have γ:=or_bit (k+i) b hi (bP ζ.q (yS aj ah));have m:=C ι;have ξ:=C (α.q.trans β);have ο:=C (θ.q.mv η.q β.same);have u:=C hi;have π:=C γ;clear ι β a hi γ;have H7:Hid (w3.cell? ⟨R,7,D⟩=I (H G (b:M))):=C (by have h:=m.q.x.1 7;have v:t.bits=(b:M):=m.q.n.1.2.2.2.1;rw[<-v];exact h);have φ:=H7.q;have χ:=f1 m.q 7;have ψ:=λW=>UJ k i u.q W;have γ:=π.q
     go_wp2_with fail;rw[Rs k i u.q];refine aC 11 [(0,1),(1,1),(2,1),(3,1),(4,0),(5,1),(6,1),(7,0),(8,1),(9,1),(10,1),(11,2)] (λ_=>True) (λW'=>W'.cell? ⟨R,7,D⟩=I (H G (b:M))) ay ay (trivial) (H7.q) ?_;refine qC ?_;refine aW rfl rfl rfl (λK hK=>?_);go_simp;refine hK _ _ trivial ?_;clear hK K;refine aO ?_;have F:=m.q.zK 7 (H G ((b:M)+2 ^ (k+i))) {t with bits:=(b:M)+2 ^ (k+i)} {n with bits:=(b:M)+2 ^ (k+i)} aj rfl ⟨rfl,rfl,rfl,rfl,rfl,rfl⟩ ⟨rfl,rfl⟩ ⟨m.q.n.1.1,m.q.n.1.2.1,m.q.n.1.2.2.1,rfl⟩;have ρ:=C F.1.drew;have σ:=C (ξ.q.trans (F.2.trans (Mv.of_below (Below.refl _ _).drew)));have τ:=C (ο.q.mv m.q (F.2.trans (Mv.of_below (Below.refl _ _).drew)).same);clear F;go_wp2_with fail;go_roundw
     case rel=>exact⟨_,k+i+1,f,q3,b+2 ^ (k+i),r3,_,rfl,by rw[FU k i u.q],by have:=u.q;omega,by have:=HF.q;omega,by have:=ζ.q;have:2 ^ k<=2 ^ (k+i):=yS aj ah;rw[Nat.pow_succ];omega,by have:=ρ.q;simpa using this,σ.q,τ.q,by have:=ν.q;simpa using this⟩
     case measure=>have:=u.q;rw[FU k i u.q];simp[RowKit.intOf] <;> omega
theorem AZ (w:World)(h:eT w R s p l c n)(hG:rE R w)(rr:M)(g:U)(A:Bool)(q5:iT rr=(g:M))(k3:(rr==115)=A)(q8:g<=300)(hn:n.names.length<=600)(hv:n.aN.length<=600):
  Calls V 170 #[L (I ⟨R,0,D⟩),.int .i32 rr] w (dP R s c w (λ_:Unit=> .tuple #[]) (match bN A g (g+1) 0 n.names n.aN l with| .error x=> .error x| .ok (b,r)=> .ok ((),{n with names:=b.1,aN:=b.2},r))):=by
 obtain⟨Y,hY⟩:∃Y:Except Er (Unit × aJ × Bs),Y=(match bN A g (g+1) 0 n.names n.aN l with| .error x=> .error x| .ok (b,r)=> .ok ((),{n with names:=b.1,aN:=b.2},r)):=⟨_,rfl⟩;rw[<-hY];obtain⟨X,hX⟩:∃X:Except Er ((List Bs × List To) × Bs),X=bN A g (g+1) 0 n.names n.aN l:=⟨_,rfl⟩;rw[<-hX] at hY;have δ:Hid (∀x,X= .error x->Y= .error x):=C (λx u=>by rw[hY,u]);have j9:Hid (∀b r,X= .ok (b,r)->Y= .ok ((),{n with names:=b.1,aN:=b.2},r)):=C (λb r u=>by rw[hY,u]);clear hY;obtain⟨i,z,hi⟩:=l8;have HI:=C hi;have HX:=C hX;have HH:=C h;have HG:=C hG;have HN:=C (⟨hn,hv⟩:_/\_);have q9:=C q5;have ο:=C q8;clear hX h hG hn hv hi q8;have j0:=C (λW=>IW rr W);clear q5;go_enter func170,ntmps170;go_wp2_with fail
 go_loopw [4] (λi wr=>∃(W:World)(k f q:U)(l1:Bs)(a:bH)(d:aJ),W=wr/\i= H G k/\k<=g/\g+1<=f+k/\eT W R s q l1 a d/\Mv R c a w W/\rE R W/\bN A g f k d.names d.aN l1=X/\(∀ns vs,{d with names:=ns,aN:=vs}={n with names:=ns,aN:=vs})/\d.names.length<=600+k/\d.aN.length<=600+k) (λi _=>g - (RowKit.intOf i).toNat)
 case atStart=>exact⟨_,0,g+1,p,l,c,n,rfl,rfl,aa2,aa2,HH.q,Mv.refl _ _ _,HG.q,HX.q.symm,λ_ _=>rfl,HN.q.1,HN.q.2⟩
 case round=>
  obtain⟨W,k,f,q,l1,a,d,rfl,rfl,hk,hf,hc,hm,hg,u,hq,h1,h2⟩:=hrel;obtain⟨f,rfl⟩:∃f',f=f'+1:=⟨f - 1,aa2⟩;simp only[bN] at u;have HC:=C hc;have HM:=C hm;have z0:=C hg;have χ:=C u;have HQ:=C hq;have Z:=C (⟨h1,h2⟩:_/\_);have HF:=C hf;have HK:=C hk;have z1:=C (yQ W hc);clear hc hm hg u hq h1 h2 hf;go_wp2_with fail;refine z1.q.mono ?_;intro e w2 j
  cases S:dM l1 with
  |error x=>
   rw[S] at j;obtain⟨rfl,F⟩:=j;refine⟨rfl,?_⟩;show dP R s c w _ _ _ _;rw[δ.q x aa5];exact⟨rfl,HM.q.jB F⟩
  |ok br=>
   obtain⟨bb,r⟩:=br;rw[S] at j;obtain⟨rfl,q2,α,θ⟩:=j;have ε:=C α;have π:=C (HM.q.trans θ);have ψ:=C (z0.q.mv HC.q θ.same)
   cases bb
   .have ζ:Hid (X= .ok ((d.names,d.aN),r)):=C aa5
    clear α θ S;go_wp2_with fail;refine bodyPost_end (results_none rfl _ _ _) rfl ?_;show dP R s c w _ _ _ _;rw[j9.q _ _ ζ.q,<-HQ.q];exact⟨rfl,q2,a,ε.q,π.q⟩
   .have ζ:Hid ((if k=g/\dH r=true then .error (r,3) else match dF r with
     | .error x=> .error x
     | .ok (nm,r1)=>
      if A=true then match eD r1 with
       | .error x=> .error x
       | .ok r2=>match gG r2 with
        | .error x=> .error x
        | .ok (v,r3)=>bN A g f (k+1) (d.names++[nm]) (d.aN++[v]) r3
      else bN A g f (k+1) (d.names++[nm]) d.aN r1)=X):=C (by have:=χ.q;rw[S] at this;exact this)
    have z2:Hid ((Value.slice a.na a.nn a.nc).ownBlock≠I R):=C (α.n.2.1.far' (.inl ah));have z3:=α.n.1.2.2.2.2.1;have z4:Hid (d.names.length+1=a.nn+1):=C ah;have z5:Hid ((a.nn+1)*16<=140737488355328):=C (by have:=Z.q;have:=ο.q;omega);have z6:Hid (a.nn+1<=maxLen):=C (by have:=Z.q;have:=ο.q;unfold maxLen;omega);clear z3;by_cases ι:k=g
    .have z7:((k:M)==iT rr)=true:=by rw[q9.q,ι];exact beq_self_eq_true _
     have z8:=C ι;clear ι;have z9:=C (λW (T:Below w2.1.size w2 W)=>Fq W (α.below T) (Utf8Tabs_below ψ.q.tabs T));clear α θ S;go_wp2_with fail;refine(j0.q w2).mono ?_;rintro e v0 ⟨rfl,j1⟩;have ω:=C j1;clear j1;go_wp2_with fail;refine(z9.q v0 ω.q).mono ?_;rintro e o ⟨rfl,κ⟩;have P:=C (ω.q.bQ κ);clear κ
     cases Γ:dH r
     .have HE:Hid (∀x,dF r= .error x->X= .error x):=C (λx u=>by rw[<-ζ.q,au (by rw[Γ];simp),u])
      have v1:Hid (∀mr,dF r≠ .ok mr):=C (λmr u=>by simp[dF,Γ] at u);have Q:=C (ε.q.below P.q);have ρ:=C (π.q.trans (Mv.of_below P.q));have σ:=C (ψ.q.mv ε.q (Mv.of_below P.q:Mv R a a w2 o).same);have Δ:=C (λW (T:Below o.1.size o W)=>Bv W (Q.q.below T) (Utf8Tabs_below σ.q.tabs T));have β:Hid (Below o.1.size o o.drew):=C ((Below.refl _ _).drew);have Θ:Hid (∀t E,(∃(y:Bs)(m:M),dF r= .error (y,m)/\t=nu (s.length - y.length) m/\Same (mW R a) o.drew E)->dP R s c w (λ_:Unit=> .tuple #[]) Y (.panicked t) E):=C (by
       rintro t E ⟨y,m,h1,rfl,h2⟩;rw[δ.q _ (HE.q _ h1)];exact⟨rfl,(ρ.q.trans (Mv.of_below β.q)).jB h2⟩)
      go_wp2_with fail;refine dz 13 [(0,1),(1,1),(2,1),(3,1),(4,1),(5,0),(6,1),(7,2),(8,2),(9,2),(10,1),(11,1),(12,1),(13,2)] (λ_=>True) (λW'=>W'.cell? ⟨R,3,D⟩=I (O a.na a.nn a.nc)) (λt E=>∃(y:Bs)(m:M),dF r= .error (y,m)/\t=nu (s.length - y.length) m/\Same (mW R a) o.drew E) ay ay (λt a1 w1 hd hr=>⟨hd,Θ.q t w1 hr⟩) (trivial) (Q.q.drew.c3) ?_;refine qC ?_;refine aF rfl rfl (λK B=>?_);go_simp;refine(Δ.q _ β.q).mono ?_;intro e w4 j
      cases γ:dF r with
      |error x=>
       rw[γ] at j;obtain⟨rfl,F⟩:=j;exact⟨rfl,x.1,x.2,rfl,rfl,F⟩
      |ok mr=>
      exact absurd γ (v1.q mr)
     .have HE:Hid (X= .error (r,3)):=C (by rw[<-ζ.q,av ⟨z8.q,Γ⟩])
      have Q:=C (ε.q.below P.q);have k4:=Q.q.x.1 1;go_wp2_with fail;refine(lH q2 3 _).mono ?_;rintro e w4 ⟨rfl,rfl⟩;refine⟨rfl,?_⟩;show dP R s c w _ _ _ _;rw[δ.q _ HE.q];have k5:=Q.q.len;exact⟨by rw[show s.length - r.length=q2 by omega],(π.q.trans (Mv.of_below P.q)).same⟩
    .have z7:((k:M)==iT rr)=false:=by rw[q9.q];exact aX.2 ah
     have HE:Hid (∀x,dF r= .error x->X= .error x):=C (λx u=>by rw[<-ζ.q,au (λe=>ι e.1),u]);clear α θ S;go_wp2_with fail;refine(j0.q w2).mono ?_;rintro e o ⟨rfl,κ⟩;have P:=C κ;clear κ;have Q:=C (ε.q.below P.q);have ρ:=C (π.q.trans (Mv.of_below P.q));have σ:=C (ψ.q.mv ε.q (Mv.of_below P.q:Mv R a a w2 o).same);have Δ:=C (λW (T:Below o.1.size o W)=>Bv W (Q.q.below T) (Utf8Tabs_below σ.q.tabs T));have β:Hid (Below o.1.size o o.drew):=C ((Below.refl _ _).drew);have Θ:Hid (∀t E,(∃(y:Bs)(m:M),dF r= .error (y,m)/\t=nu (s.length - y.length) m/\Same (mW R a) o.drew E)->dP R s c w (λ_:Unit=> .tuple #[]) Y (.panicked t) E):=C (by
      rintro t E ⟨y,m,h1,rfl,h2⟩;rw[δ.q _ (HE.q _ h1)];exact⟨rfl,(ρ.q.trans (Mv.of_below β.q)).jB h2⟩)
     go_wp2_with fail;refine dz 13 [(0,1),(1,1),(2,1),(3,1),(4,1),(5,0),(6,1),(7,2),(8,2),(9,2),(10,1),(11,1),(12,1),(13,2)] (λ_=>True) (λW'=>W'.cell? ⟨R,3,D⟩=I (O a.na a.nn a.nc)) (λt E=>∃(y:Bs)(m:M),dF r= .error (y,m)/\t=nu (s.length - y.length) m/\Same (mW R a) o.drew E) ay ay (λt a1 w1 hd hr=>⟨hd,Θ.q t w1 hr⟩) (trivial) (Q.q.drew.c3) ?_;refine qC ?_;refine aF rfl rfl (λK B=>?_);go_simp;refine(Δ.q _ β.q).mono ?_;intro e w4 j
     cases γ:dF r with
     |error x=>
      rw[γ] at j;obtain⟨rfl,F⟩:=j;exact⟨rfl,x.1,x.2,rfl,rfl,F⟩
     |ok mr=>
     obtain⟨m,r4⟩:=mr;rw[γ] at j;obtain⟨rfl,p4,τ,Ξ⟩:=j;have μ:=C τ;have v2:=C ((ρ.q.trans (Mv.of_below β.q)).trans Ξ);have v3:=C γ;refine B _ _ ⟨trivial,τ.c3⟩ ?_;have v4:Hid (R+1<=(w4.alloc (J #[.string ⟨m.toArray⟩] 9)).1.size):=C (by have:=τ.x.2.2;simp;omega);have v5:=C (σ.q.mv Q.q ((Mv.of_below β.q:Mv R a a o o.drew).trans Ξ).same);clear B K τ Ξ γ;refine aF rfl rfl (λK B=>?_);go_simp;refine B _ _ ⟨trivial,(μ.q.below (aA (Below.refl _ _) _)).c3⟩ ?_;clear B K;refine aF rfl rfl (λK B=>?_);refine kM _ _ 22 rfl i z 16 underlying22 HI.q.1 HI.q.2.1 HI.q.2.2.1 HI.q.2.2.2.1 HI.q.2.2.2.2 rfl (μ.q.n.2.1.alloc _) (I ⟨w4.1.size,0,D⟩) 1 1 (a.nn+1) [m] rfl (Row.str1 w4 m) z4.q z5.q z6.q v4.q ?_;intro a' c' w5 j2 Φ j3;have υ:=(μ.q.x.keep (aA (Below.refl _ _) (J #[.string ⟨m.toArray⟩] 9))).grown Φ z2.q;have Ψ:=C (μ.q.addN (aA (Below.refl _ _) (J #[.string ⟨m.toArray⟩] 9)) a' c' j2 Φ j3);refine B _ _ ⟨trivial,υ.1 3⟩ ?_;have k6:=υ.1 3;have k7:=υ.2.1 3;clear B K j2 Φ j3 υ;refine qC ?_;refine aW rfl rfl rfl (λK B=>?_);go_simp;refine B _ _ trivial ?_;clear B K;refine ja ?_;have η:Hid (k+1<=g):=C (by have:=HK.q;omega);have Ω:Hid ((if A=true then match eD r4 with
       | .error x=> .error x
       | .ok r2=>match gG r2 with
        | .error x=> .error x
        | .ok (v,r3)=>bN A g f (k+1) (d.names++[m]) (d.aN++[v]) r3
      else bN A g f (k+1) (d.names++[m]) d.aN r4)=X):=C (by have:=ζ.q;rw[au (λe=>ι e.1),v3.q] at this;exact this)
     have HA:=C Ψ.q.1;have q0:=C (v2.q.trans Ψ.q.2);have j4:=C (v5.q.mv μ.q Ψ.q.2.same);have φ:wrap64 ((k:M)+1)=((k+1:U):M):=by have:=η.q;have:=ο.q;unfold wrap64;omega
     cases A
     .go_wp2_with fail
      go_roundw
      case rel=>exact⟨_,k+1,f,p4,r4,_,_,rfl,by first|rfl|rw[φ]|go_num,η.q,by have:=HF.q;omega,HA.q,q0.q,j4.q,Ω.q,λns vs=>HQ.q ns vs,by have:=Z.q.1;simp;omega,by have:=Z.q.2;show d.aN.length<=_;omega⟩
      case measure=>have:=η.q;(try rw[φ]);simp[RowKit.intOf] <;> omega
     .have v6:=C (KT _ HA.q)
      go_wp2_with fail;refine v6.q.mono ?_;intro e w6 j
      cases ν:eD r4 with
      |error x=>
       rw[ν] at j;obtain⟨rfl,F⟩:=j;refine⟨rfl,?_⟩;show dP R s c w _ _ _ _;rw[δ.q x (by have:=Ω.q;rw[ν] at this;exact this.symm)];exact⟨rfl,q0.q.jB F⟩
      |ok r6=>
       rw[ν] at j;obtain⟨rfl,q6,q1,q3⟩:=j;have j5:Hid ((match gG r6 with
        | .error x=> .error x
        | .ok (v,r3)=>bN true g f (k+1) (d.names++[m]) (d.aN++[v]) r3)=X):=C (by have:=Ω.q;rw[ν] at this;exact this)
       have v7:=C q1;have j6:=C (q0.q.trans q3);have j7:=C (j4.q.mv HA.q q3.same);have v8:=C (DR w6 q1 j7.q (by have:=Z.q.2;have:=η.q;have:=ο.q;show d.aN.length<=1000;omega));clear q1 q3 ν;go_wp2_with fail;refine v8.q.mono ?_;intro e w7 j
       cases ξ:gG r6 with
       |error x=>
        rw[ξ] at j;obtain⟨rfl,F⟩:=j;refine⟨rfl,?_⟩;show dP R s c w _ _ _ _;rw[δ.q x (by have:=j5.q;rw[ξ] at this;exact this.symm)];exact⟨rfl,j6.q.jB F⟩
       |ok vr=>
        obtain⟨v,r7⟩:=vr;rw[ξ] at j;obtain⟨rfl,q7,c7,j8,q4⟩:=j;have v9:Hid (bN true g f (k+1) (d.names++[m]) (d.aN++[v]) r7=X):=C (by have:=j5.q;rw[ξ] at this;exact this);have k0:=C j8;have k1:=C (j6.q.trans q4);have k2:=C (j7.q.mv v7.q q4.same);clear j8 q4 ξ;go_wp2_with fail;go_roundw
        case rel=>exact⟨_,k+1,f,q7,r7,_,_,rfl,by first|rfl|rw[φ]|go_num,η.q,by have:=HF.q;omega,k0.q,k1.q,k2.q,v9.q,λns vs=>HQ.q ns vs,by have:=Z.q.1;simp;omega,by have:=Z.q.2;simp;omega⟩
        case measure=>have:=η.q;(try rw[φ]);simp[RowKit.intOf] <;> omega
theorem aan (W:World):(Instr.makeSlice 233 (H G 1) (H G 1)).run V W= .ok (O (I ⟨W.1.size,0,D⟩) 1 1) (W.alloc (J #[.nilFunc] 1)):=ay
theorem aao (W:World):(Instr.makeSlice 233 (H G 2) (H G 2)).run V W= .ok (O (I ⟨W.1.size,0,D⟩) 2 2) (W.alloc (J #[.nilFunc,.nilFunc] 1)):=ay
theorem Xa (W:World)(b B i n m c c':U)(v:Value)(e:W.cell? ⟨b,0,D⟩=I v)(f:v.oneCell'=true)(hc:(W.cell? ⟨B,i,D⟩).isSome=true)(g:W.frozen? ⟨B,i,D⟩=false)(k:1=Nat.min m n):
  (Builtin.copy_ #[233,233] 3 #[O (I ⟨B,i,D⟩) n c,O (I ⟨b,0,D⟩) m c']).run V W= .ok (goInt 1) (W.setCell ⟨B,i,D⟩ v):=by
 have h:=run_copy_cells (P:=V) W 233 233 3 1 B i n c ⟨b,0,D⟩ m c' [v] ay ay k (λj u a=>by
  obtain rfl:j=0:=by have:=(bK.1 a).1;simpa using this
  simpa[Addr.add] using e.trans a) (λj a=>by
    obtain rfl:j=0:=by simpa using a
    exact hc) (λj a=>by
      obtain rfl:j=0:=by simpa using a
      exact g) (λu d=>by simp at d;subst d;exact f)
 simp only[World.setCells] at h;exact h
theorem UK (w:World)(b:U)(v:Value)(h:b<w.1.size)(j:w.cell? ⟨b,0,D⟩=I v)(k:v.oneCell'=true):
  Calls V 163 #[O (I ⟨b,0,D⟩) 1 1,H G 1] w (λe f=>e= .returned (O (I ⟨w.1.size,0,D⟩) 1 1)/\Below w.1.size w f/\Bx f w.1.size #[v]):=by
 have o:=aan;have l:=C (λW=>Tryz.bits_Mul 1 1 aj aj W);go_enter func163,ntmps163;go_wp2_with fail;refine(l.q w).mono ?_;rintro e a ⟨rfl,rfl⟩;have c:=Bx.new a #[.nilFunc] 1;have m:(a.alloc (J #[.nilFunc] 1)).cell? ⟨b,0,D⟩=I v:=by
  have:=(aA (Below.refl a.1.size a) (J #[.nilFunc] 1)).cell (p:=⟨b,0,D⟩) h;rw[this];exact j
 have n:=Xa (a.alloc (J #[.nilFunc] 1)) b a.1.size 0 1 1 1 1 v m k (by rw[c.1 0];rfl) (c.2.1 0) rfl;obtain⟨W,d⟩:∃W,W=(a.alloc (J #[.nilFunc] 1)).setCell ⟨a.1.size,0,D⟩ v:=⟨_,rfl⟩;have g:Hid (Below a.1.size a W/\Bx W a.1.size #[v]):=C (by
  rw[d];exact⟨(aA (Below.refl a.1.size a) _).setCell (p:=⟨a.1.size,0,D⟩) (aB a.1.size) _,c.bB 0 ak v⟩)
 rw[<-d] at n;clear d;go_wp2_with fail
 go_loopw [8] (λi wr=>wr=W/\i= H G 1) (λi _=>0)
 case atStart=>exact⟨rfl,rfl⟩
 case round=>
  obtain⟨rfl,rfl⟩:=hrel;go_wp2_with fail;go_ret;exact⟨rfl,g.q.1,g.q.2⟩
theorem UL (w:World)(b:U)(v:Value)(n:b<w.1.size)(o:w.cell? ⟨b,0,D⟩=I v)(k:v.oneCell'=true):
  Calls V 163 #[O (I ⟨b,0,D⟩) 1 1,H G 2] w (λe l=>e= .returned (O (I ⟨w.1.size,0,D⟩) 2 2)/\Below w.1.size w l/\Bx l w.1.size #[v,v]):=by
 have x:=aao;have q:=C (λW=>Tryz.bits_Mul 1 2 aj aj W);go_enter func163,ntmps163;go_wp2_with fail;refine(q.q w).mono ?_;rintro e a ⟨rfl,rfl⟩;have g:=Bx.new a #[.nilFunc,.nilFunc] 1;have r:(a.alloc (J #[.nilFunc,.nilFunc] 1)).cell? ⟨b,0,D⟩=I v:=by
  have:=(aA (Below.refl a.1.size a) (J #[.nilFunc,.nilFunc] 1)).cell (p:=⟨b,0,D⟩) n;rw[this];exact o
 have s:=Xa (a.alloc (J #[.nilFunc,.nilFunc] 1)) b a.1.size 0 2 1 2 1 v r k (by rw[g.1 0];rfl) (g.2.1 0) rfl;obtain⟨W,j⟩:∃W,W=(a.alloc (J #[.nilFunc,.nilFunc] 1)).setCell ⟨a.1.size,0,D⟩ v:=⟨_,rfl⟩;have d:Hid (Below a.1.size a W/\Bx W a.1.size #[v,.nilFunc]):=C (by
  rw[j];exact⟨(aA (Below.refl a.1.size a) _).setCell (p:=⟨a.1.size,0,D⟩) (aB a.1.size) _,g.bB 0 ak v⟩)
 rw[<-j] at s;clear j;go_wp2_with fail
 go_loopw [8] (λi wr=>(wr=W/\i= H G 1)\/(i= H G 2/\Below a.1.size a wr/\Bx wr a.1.size #[v,v])) (λi _=>2 - (RowKit.intOf i).toNat)
 case atStart=>exact .inl ⟨rfl,rfl⟩
 case round=>
  rcases hrel with⟨rfl,rfl⟩|⟨rfl,t,u⟩
  .have f:Hid (Bx wr.drew a.1.size #[v,.nilFunc]):=C ⟨d.q.2.1,d.q.2.2.1,d.q.2.2.2⟩
   have y:=Xa wr.drew a.1.size a.1.size 1 1 1 1 2 v (f.q.1 0) k (by rw[f.q.1 1];rfl) (f.q.2.1 1) rfl;have c:Hid (Below a.1.size a (wr.drew.setCell ⟨a.1.size,1,D⟩ v)/\Bx (wr.drew.setCell ⟨a.1.size,1,D⟩ v) a.1.size #[v,v]):=C ⟨d.q.1.drew.setCell (p:=⟨a.1.size,1,D⟩) (aB a.1.size) _,f.q.bB 1 ak v⟩;go_wp2_with fail;refine aC 7 [(0,1),(1,1),(2,1),(3,1),(4,1),(5,1),(6,1),(7,2),(8,1),(9,1)] (λ_=>True) (λ_=>True) ay ay (trivial) (trivial) ?_;refine qC ?_;refine aW rfl rfl rfl (λK m=>?_);go_simp;refine m _ _ trivial ?_;clear m K;refine qC ?_;refine aO ?_;go_wp2_with fail;go_roundw
   case rel=>exact .inr ⟨rfl,c.q.1,c.q.2⟩
   case measure=>decide
  .have c:=C (⟨t,u⟩:_/\_)
   go_wp2_with fail;go_ret;exact⟨rfl,c.q.1,c.q.2⟩
@[reducible] def uH:aJ:=⟨0,[],0,[],false,0⟩
theorem Pd (a:List U):∀(k:U)(n:aJ)(l:Bs),kX (List.replicate k 0++a) n l=(match jk k n.names l with| .error x=> .error x| .ok (ns,r)=>kX a {n with names:=ns} r):=by
 intro k
 induction k with
 |zero=>intro n l;rfl
 |succ k b=>
  intro n l;rw[List.replicate_succ,fA];simp only[kX,jk]
  cases eD l with
  |error x=>rfl
  |ok r=>
   simp only[vK,bR]
   cases dF r with
   |error x=>rfl
   |ok c=>
    obtain⟨m,d⟩:=c;simp only[];rw[b]
def lZ (k:U):List U:=List.replicate (bY k).toNat 0++(if k=1 then [1] else if k=3 then [2] else [])
def mV (k:U)(n:aJ)(l:Bs):Except Er (Unit × aJ × Bs):=
 if k=9 then(match iW 5 0 0 l with| .error x=> .error x| .ok (b,r)=> .ok ((),{n with bits:=b},r))
 else if k=8 then match jJ l with
  | .error x=> .error x
  | .ok (f,r)=>match bN false 300 301 0 n.names n.aN r with
   | .error x=> .error x
   | .ok (b,a)=> .ok ((),{n with first:=f,names:=b.1,aN:=b.2},a)
 else if k=4 then match bN true 40 41 0 n.names n.aN l with
   | .error x=> .error x
   | .ok (b,a)=> .ok ((),{n with names:=b.1,aN:=b.2},a)
 else if k=7 then match bN false 300 301 0 n.names n.aN l with
   | .error x=> .error x
   | .ok (b,a)=> .ok ((),{n with names:=b.1,aN:=b.2},a)
 else .ok ((),n,l)
def BR (x:Except Er (Unit × aJ × Bs)):Except Er (aJ × Bs):=
 match x with
 | .error x=> .error x
 | .ok (_,s,b)=>match dM b with
  | .error x=> .error x
  | .ok (true,a)=> .error (a,220)
  | .ok (false,a)=> .ok (s,a)
theorem MI (l r:Bs)(i:U)(k:i<9)(e:dR (bL l)=false)(g:fo lM (bL l)= .ok (i,r)):
  iX l=(match kX (lZ (i+1)) {uH with kind:=((i+1:U):M)} r with| .error x=> .error x| .ok (_,n,a)=>BR (mV (i+1) n a)):=by
 unfold iX;rw[au (by rw[e];simp),g];simp only[];rw[lZ,Pd];simp only[]
 cases m:jk (bY (i+1)).toNat [] r with
 |error x=>rfl
 |ok h=>
  obtain⟨d,a⟩:=h;simp only[];unfold jE mV BR;rcases(by omega:i=0\/i=1\/i=2\/i=3\/i=4\/i=5\/i=6\/i=7\/i=8) with rfl|rfl|rfl|rfl|rfl|rfl|rfl|rfl|rfl
  .simp only[Nat.reduceAdd,bR,kX,vK,Nat.reduceEqDiff,fG,Nat.succ_ne_self]
   cases eD a with
   |error x=>rfl
   |ok b=>
    simp only[]
    cases fo mF b with
    |error x=>rfl
    |ok c=>rfl
  .rfl
  .simp only[Nat.reduceAdd,bR,kX,vK,Nat.reduceEqDiff,fG]
   cases eD a with
   |error x=>rfl
   |ok b=>
    simp only[]
    cases gG b with
    |error x=>rfl
    |ok c=>rfl
  .simp only[Nat.reduceAdd,bR,kX,Nat.reduceEqDiff,fG]
   cases bN true 40 41 0 d [] a with
   |error x=>rfl
   |ok c=>rfl
  .rfl
  .rfl
  .simp only[Nat.reduceAdd,bR,kX,Nat.reduceEqDiff,fG]
   cases bN false 300 301 0 d [] a with
   |error x=>rfl
   |ok c=>rfl
  .simp only[Nat.reduceAdd,bR,kX,Nat.reduceEqDiff,fG]
   cases jJ a with
   |error x=>rfl
   |ok j=>
    obtain⟨f,b⟩:=j;simp only[]
    cases bN false 300 301 0 d [] b with
    |error x=>rfl
    |ok c=>rfl
  .simp only[Nat.reduceAdd,bR,kX,Nat.reduceEqDiff,fG]
   cases iW 5 0 0 a with
   |error x=>rfl
   |ok c=>rfl
theorem Rt {a:U}{b:aJ}(h:vK a n l= .ok (u,b,r)):b.bits=n.bits/\b.first=n.first/\b.kind=n.kind:=by
 unfold vK at h
 split at h
 .split at h
  .cases h
  .injection h with h;injection h with _ h;injection h with h _;subst h;simp
 .split at h
  .split at h
   .cases h
   .injection h with h;injection h with _ h;injection h with h _;subst h;simp
  .split at h
   .cases h
   .injection h with h;injection h with _ h;injection h with h _;subst h;simp
theorem FW:∀(c:List U){n b:aJ}{l r:Bs}{u:Unit},kX c n l= .ok (u,b,r)->
  b.bits=n.bits/\b.first=n.first/\b.kind=n.kind/\b.names.length<=n.names.length+c.length/\b.aN.length<=n.aN.length+c.length
 |[],n,b,l,r,u,h=>by
  simp only[kX] at h;injection h with h;injection h with _ h;injection h with h _;subst h;simp
 |a::t,n,b,l,r,u,h=>by
  simp only[kX] at h
  split at h
  .cases h
  .split at h
   .cases h
   .rename_i u1 g i f
    have d:=Rt f;have j:=KS f;have e:=FW t h;simp only[dK];exact⟨e.1.trans d.1,e.2.1.trans d.2.1,e.2.2.1.trans d.2.2,aa2,aa2⟩
theorem Zc:(Tryz.prog.info? 1).map (λi=>(i.zero.map (·.cells.size),i.size,i.bytes))=I (I 1,1,8):=ay
theorem Xb:∃i z,Tryz.prog.info? 1=I i/\i.zero=I z/\i.size=1/\i.bytes=8/\z.cells.size=1:=nI Zc
theorem Ru (k:U):∃N:U,bY (k+1)=(N:M)/\(N=1\/N=2):=by
 unfold bY
 split <;> first|exact⟨1,rfl,.inl rfl⟩|exact⟨2,rfl,.inr rfl⟩|(rename_i h;omega)
theorem Xc (N:U)(g:N=1\/N=2)(w:World)(b:U)(v:Value)(a:b<w.1.size)(c:w.cell? ⟨b,0,D⟩=I v)(d:v.oneCell'=true):
  Calls V 163 #[O (I ⟨b,0,D⟩) 1 1,H G N] w (λe f=>e= .returned (O (I ⟨w.1.size,0,D⟩) N N)/\Below w.1.size w f/\Bx f w.1.size (Array.replicate N v)):=by
 rcases g with rfl|rfl
 .exact UK w b v a c d
 .exact UL w b v a c d
theorem Ci {P:Program}{a:Array Oper}{rest:List Oper}{o:Oper}{z:Act}{Q:Exit->Act->World->Prop}{v u r:Value}(b:o.guard=D)(s x:Operand)(t:TypeId)
  (c:o.op= .call {callee:= .builtin .append,args:=#[s,x],argTypes:=#[t,t]}) (d:z.eval s=v) (e:z.eval x=u) (f:(Builtin.append_ #[t,t] o.type #[v,u]).run P w= .ok r X)
  (h:wpList P a Q rest (z.put o.dst r) X):wpList P a Q (o::rest) z w:=
 wpList_plain b λ_ g=>by
  unfold Oper.wp execOp;simp only[c,resolve,invoke,builtin,Sem.run_bind,Sem.run_pure,Result.andThen_ok,List.map_toArray,dX,jN,d,e,f];exact g _ _ h
theorem Xd (N:U)(l:N=1\/N=2)(W:World)(T e:U)(v x:Value)(m:Bx W T (Array.replicate N v))(n:W.cell? ⟨e,0,D⟩=I x):
  ∃(f:U)(a:World),(Builtin.append_ #[233,233] 233 #[O (I ⟨T,0,D⟩) N N,O (I ⟨e,0,D⟩) 1 1]).run V W= .ok (O (I ⟨W.1.size,0,D⟩) (N+1) f) a/\N+1<=f/\f<=maxLen/\Below W.1.size W a/\W.1.size<a.1.size/\(∀i,i<N->a.cell? ⟨W.1.size,i,D⟩=I v)/\a.cell? ⟨W.1.size,N,D⟩=I x:=by
 obtain⟨i,z,g,c,h,o,s⟩:=Xb;have p:=run_append_grow (P:=V) W 233 233 1 i z ay g c ⟨T,0,D⟩ N N (List.replicate N v) (by rw[h];simp) (λj u d=>by
  have b:=d;rw[List.getElem?_replicate] at b;have k:j<N:=by
   apply Classical.byContradiction;intro q;rw[au q] at b;cases b
  rw[av k] at b;have:=m.1 j;rw[Array.getElem?_replicate,av k] at this;have c:=this.trans b;unfold Addr.add
  split
  .rename_i r;subst r;exact c
  .simpa using c) ⟨e,0,D⟩ 1 1 [x] (by rw[h];rfl) (λj u d=>by
  obtain rfl:j=0:=by have:=(bK.1 d).1;simpa using this
  simpa[Addr.add] using n.trans d) ah ah (by rw[o];rcases l with rfl|rfl <;> exact Nat.le_of_ble_eq_true rfl)
 refine⟨_,_,p,grownCap_ge W (N+1) N 1,grownCap_le_maxLen W (N+1) N 1 (by unfold maxLen;omega),(Below.refl _ _).drew.alloc (aB _) _,by simp,λi g=>?_,?_⟩
 .have:=World.cell?_alloc_new W.drew ((List.replicate N v).toArray++[x].toArray++Builtin.zeroCells z.cells (grownCap W (N+1) N 1 - (N+1))) 1 i
  refine this.trans ?_;rw[Array.getElem?_append_left aa6,Array.getElem?_append_left aa6];simp[g]
 .have:=World.cell?_alloc_new W.drew ((List.replicate N v).toArray++[x].toArray++Builtin.zeroCells z.cells (grownCap W (N+1) N 1 - (N+1))) 1 N
  refine this.trans ?_;rw[Array.getElem?_append_left ak,Array.getElem?_append_right ak];simp
theorem KU {n c:U}(d:List U)(g:d.length=n)(hc:n<=c)(k:n<=1000)(h:∀(i:U)(a:U),d[i]?=I a->w.cell? ⟨b,i,D⟩=I (.func (.func (zM a)) #[L (I ⟨R,0,D⟩)] #[])):Row w 1 (yR R) (I ⟨b,0,D⟩) n c d:=
 ⟨g,hc,by omega,(λe=>by cases e),λi a ha=>⟨b,0,rfl,λj v f=>by
  obtain rfl:j=0:=by have:=(bK.1 f).1;simpa[yR] using this
  have:v= .func (.func (zM a)) #[L (I ⟨R,0,D⟩)] #[]:=by simpa[yR] using f.symm
  rw[this];simpa using h i a ha⟩⟩
theorem wQ {N:U}(e:N<=2)(h:Bx w b (Array.replicate N (.func (.func (zM 0)) #[L (I ⟨R,0,D⟩)] #[]))):Row w 1 (yR R) (I ⟨b,0,D⟩) N N (List.replicate N 0):=
 KU _ ak (aB _) ah λi a ha=>by
  rw[List.getElem?_replicate] at ha;have c:i<N:=by
   apply Classical.byContradiction;intro d;rw[au d] at ha;cases ha
  rw[av c] at ha;injection ha with ha;subst ha;rw[h.1 i,Array.getElem?_replicate,av c]
theorem IX {N c:U}(a:U)(hc:N+1<=c)(f:N<=2)(h:∀i,i<N->w.cell? ⟨b,i,D⟩=I (.func (.func (zM 0)) #[L (I ⟨R,0,D⟩)] #[]))(e:w.cell? ⟨b,N,D⟩=I (.func (.func (zM a)) #[L (I ⟨R,0,D⟩)] #[])):Row w 1 (yR R) (I ⟨b,0,D⟩) (N+1) c (List.replicate N 0++[a]):=
 KU _ ak hc ah λi g ha=>by
  by_cases d:i<N
  .rw[rX (by simpa using d),List.getElem?_replicate,av d] at ha
   injection ha with ha;subst ha;exact h i d
  .rw[pG aa6] at ha
   obtain rfl:i=N:=by have:=(bK.1 ha).1;simp at this;omega
   simp at ha;subst ha;exact e
theorem Pe:∀j:Fin 9,lM.take j.val++[bF (j.val+1)]=lM.take (j.val+1):=by decide
def yA (x:Except Er (Unit × aJ × Bs)):Except Er (Unit × aJ × Bs):=match BR x with| .error x=> .error x| .ok (a,r)=> .ok ((),a,r)
theorem Ec (x:Er):yA (.error x)= .error x:=rfl
theorem Pf {x:Er}(h:dM r= .error x):yA (.ok (u,n,r))= .error x:=by
 unfold yA BR;simp only[h]
theorem Pg (h:dM r= .ok (true,l)):yA (.ok (u,n,r))= .error (l,220):=by
 unfold yA BR;simp only[h]
theorem MJ (h:dM r= .ok (false,l)):yA (.ok (u,n,r))= .ok ((),n,l):=by
 unfold yA BR;simp only[h]
theorem UM (w:World)(h:eT w R s p l c uH)(hG:rE R w):
  Calls V 146 #[L (I ⟨R,0,D⟩)] w (dP R s c w (λ_:Unit=> .tuple #[]) (match iX l with| .error x=> .error x| .ok (n',r)=> .ok ((),n',r))):=by
 obtain⟨Y,hY⟩:∃Y:Except Er (Unit × aJ × Bs),Y=(match iX l with| .error x=> .error x| .ok (n',r)=> .ok ((),n',r)):=⟨_,rfl⟩;rw[<-hY];have HY:=C hY;have HG:=C hG;clear hY hG;have c0:=h.c0;have c1:=h.c1;have z1:=f1 h 1;have v8:=h.len;have m9:=h.lim;have x5:=λW=>nk Tryz.underlying9 s p ah W
 rw[h.d] at x5;have hz:=gN s;have p0:=gN (bL l);have v9:=FX l;obtain⟨q,hq⟩:∃q:U,q=s.length - (bL l).length:=⟨_,rfl⟩;have x6:Hid (wrap64 ((s.length:M) - ((bL l).length:M))=(q:M)):=C (by
  rw[show(s.length:M) - ((bL l).length:M)=(q:M) by omega];exact IntWalk.wrap64_in _ ah)
 have x7:Hid (IntKind.i64.wrap ((s.length:M) - ((bL l).length:M))=(q:M)):=C (by
  rw[show(s.length:M) - ((bL l).length:M)=(q:M) by omega];exact IntWalk.i64_in _ ah)
 have HH:=C h;have x8:=C v8;have x9:=C v9;have HQ:=C hq;clear h v8 v9 hq;go_enter func146,ntmps146;go_wp2_with fail;refine aC 20 [(0,1),(1,1),(2,1),(3,1),(4,0),(5,0),(6,1),(7,1),(8,1),(9,0),(10,1),(11,1),(12,1),(13,0),(14,0),(15,2),(16,0),(17,0),(18,1),(19,1),(20,2)] (λ_=>True) (λW'=>W'.cell? ⟨R,0,D⟩=I (.string ⟨s.toArray⟩)/\W'.cell? ⟨R,1,D⟩=I (H G p)) ay ay (trivial) (⟨HH.q.c0,HH.q.c1⟩) ?_;refine qC ?_;refine aF rfl rfl (λK hK=>?_);go_simp;refine(KV l _).mono ?_;rintro e w2 ⟨rfl,φ⟩;have q8:=HH.q.drew.below φ;refine hK _ _ ⟨trivial,q8.c0,q8.c1⟩ ?_;have z0:=C q8;have b0:=C φ;clear hK K φ q8 c0 c1 z1;have c1:=z0.q.c1;have z1:=f1 z0.q 1;have p1:=x6.q;refine qC ?_;refine aW rfl rfl rfl (λK hK=>?_);go_simp;refine hK _ _ trivial ?_;clear hK K;refine aO ?_;have φ:Below w.1.size w w2:=(Below.refl _ _).drew.trans b0.q;have ht:=z0.q.to (l.length - (bL l).length) (Ed l) ah q (by have:=x8.q;have:=x9.q;have:=HQ.q;omega);have HT:=C ht.1;have HM:=C ((Mv.of_below (R:=R) (c:=c) φ).trans ht.2);have b1:=C (HG.q.mv HH.q HM.q.same);clear ht φ;rw[show IntKind.i64.wrap ((s.length:M) - ((bL l).length:M))=(q:M) from x7.q];go_wp2_with fail;refine(Bw _ HT.q).mono ?_;rintro e w3 ⟨rfl,j0⟩;have z2:=C (HT.q.below j0);have k0:=C (HM.q.trans (Mv.of_below j0));have k1:=C (b1.q.mv HT.q (Mv.of_below j0:Mv R c c _ w3).same);clear j0 c1 z1
 cases hE:dR (bL l)
 .obtain⟨i,z,hi⟩:=l8
  have HI:=C hi;have b2:=C k1.q.l;clear hi;go_wp2_with fail
  go_loopw [2,31] (λv i wr=>∃(k:U)(a0:Option Addr)(c0:U),k<=9/\v= O a0 k c0/\i= H G k/\Own wr w3.1.size 9 1 encStr (O a0 k c0) (lM.take k)/\Below w3.1.size w3 wr) (λ_ i _=>9 - (RowKit.intOf i).toNat)
  case atStart=>exact⟨0,D,0,bn _,rfl,rfl,Own.jv _ _ _ _ _,Below.refl _ _⟩
  case round=>
   obtain⟨k,a0,c0,hk,rfl,rfl,ω,ε⟩:=hrel;by_cases b3:k<9
   .obtain⟨Γ,Δ,Θ⟩:=(b2.q.below (ε:Below w3.1.size w3 wr)).2.1 (k+1) ah
    have p2:wr.cell? ⟨0,3+k*3,D⟩=I (.string ⟨(bF (k+1)).toArray⟩):=by rw[<-Γ];congr 2;omega
    have Ξ:wr.cell? ⟨0,3+k*3+1,D⟩=I (H G (bY (k+1))):=by rw[<-Δ];congr 2;omega
    have b4:wr.cell? ⟨0,3+k*3+2,D⟩=I (.int .i32 (dD (k+1))):=by rw[<-Θ];congr 2;omega
    have k2:=C ω;have k3:=C ε;clear Γ Δ Θ ω ε;have k4:Hid (Own ((wr.alloc (J #[.string ⟨(bF (k+1)).toArray⟩,H G (bY (k+1)),.int .i32 (dD (k+1))] 125)).alloc (J #[.string ⟨(bF (k+1)).toArray⟩] 9)) w3.1.size 9 1 encStr (O a0 k c0) (lM.take k)):=C ((k2.q.alloc _).alloc _);have k5:Hid (Below w3.1.size w3 ((wr.alloc (J #[.string ⟨(bF (k+1)).toArray⟩,H G (bY (k+1)),.int .i32 (dD (k+1))] 125)).alloc (J #[.string ⟨(bF (k+1)).toArray⟩] 9))):=C (aA (aA k3.q _) _);have b5:Hid (Row ((wr.alloc (J #[.string ⟨(bF (k+1)).toArray⟩,H G (bY (k+1)),.int .i32 (dD (k+1))] 125)).alloc (J #[.string ⟨(bF (k+1)).toArray⟩] 9)) 1 encStr (I ⟨wr.1.size+1,0,D⟩) 1 1 [bF (k+1)]):=C (by have:=Row.str1 (wr.alloc (J #[.string ⟨(bF (k+1)).toArray⟩,H G (bY (k+1)),.int .i32 (dD (k+1))] 125)) (bF (k+1));simpa using this);have b6:Hid ((lM.take k).length+1=k+1):=C (by rw[fB];show min k 9+1=k+1;omega);have b7:Hid ((k+1)*16<=140737488355328):=C ah;have b8:Hid (k+1<=maxLen):=C (by unfold maxLen;omega);have k6:Hid (w3.1.size<=((wr.alloc (J #[.string ⟨(bF (k+1)).toArray⟩,H G (bY (k+1)),.int .i32 (dD (k+1))] 125)).alloc (J #[.string ⟨(bF (k+1)).toArray⟩] 9)).1.size):=C k5.q.size;have b9:(lM.take k)++[bF (k+1)]=lM.take (k+1):=Pe ⟨k,b3⟩
    go_wp2_with (at_builtin;refine iP rfl _ _ 22 rfl i z 16 underlying22 HI.q.1 HI.q.2.1 HI.q.2.2.1 HI.q.2.2.2.1 HI.q.2.2.2.2 rfl k4.q (I ⟨wr.1.size+1,0,D⟩) 1 1 (k+1) [bF (k+1)] rfl b5.q b6.q b7.q b8.q k6.q ?_;intro a' c' m f0 f2 p3)
    have f3:=below_app k5.q k4.q (aB _) k6.q f2;refine⟨⟨k+1,a',c',aa2,rfl,rfl,by rw[<-b9];exact f0,f3⟩,?_⟩;simp[RowKit.intOf];omega
   .obtain rfl:k=9:=by omega
    have k2:=C ω;have k3:=C ε;have k7:=C (z2.q.below ε);have k8:=C (k0.q.trans (Mv.of_below ε));have f4:=C (k1.q.mv z2.q (Mv.of_below ε:Mv R c c w3 wr).same);have f5:Hid (Row wr 1 encStr a0 9 c0 lM):=C (show Row wr 1 encStr a0 9 c0 (lM.take 9) from Own.row ω aj);clear ω ε;go_wp2_with fail;refine(EH wr k7.q a0 9 c0 lM f5.q ah aj aj).mono ?_;intro e m g;have k9:∀x,fo lM (bL l)= .error x->iX l= .error x:=λx hx=>by unfold iX;rw[au (by rw[hE];simp),hx]
    cases Q:fo lM (bL l) with
    |error x=>
     rw[Q] at g;obtain⟨rfl,hs⟩:=g;refine⟨rfl,?_⟩;show dP R s c w _ _ _ _;rw[HY.q,k9 x Q];exact⟨rfl,k8.q.jB hs⟩
    |ok ir=>
     obtain⟨a,r⟩:=ir;rw[Q] at g;obtain⟨rfl,q5,j1,z3⟩:=g;have Φ:=C j1;have f6:=C (k8.q.trans z3);have y0:=C (f4.q.mv k7.q z3.same);have p4:=C Q;have f7:=j1.x.1 2;have f8:=f1 j1 2;have j2:a<9:=by
      unfold fo at Q
      split at Q
      .rename_i j hj
       injection Q with Q;injection Q with Q _;have:=(BQ.1 hj).1;subst Q
       simpa[lM] using this
      .cases Q
     obtain⟨n6,j3⟩:∃n6:aJ,n6={uH with kind:=((a+1:U):M)}:=⟨_,rfl⟩;have j4:=MI l r a j2 hE Q;rw[<-j3] at j4;have f9:Hid (∀x,kX (lZ (a+1)) n6 r= .error x->Y= .error x):=C (λx hx=>by rw[HY.q,j4,hx]);have g0:Hid (∀u n r1,kX (lZ (a+1)) n6 r= .ok (u,n,r1)->Y=yA (mV (a+1) n r1)):=C (λu n r1 hx=>by rw[HY.q,j4,hx];rfl);have F:Hid (n6.bits=0/\n6.first=false/\n6.names.length=0/\n6.aN.length=0):=C (by rw[j3];exact⟨rfl,rfl,rfl,rfl⟩);have g1:wrap64 (1+(a:M))=((a+1:U):M):=by unfold wrap64;omega
     have g2:((a:M)+1).toNat=a+1:=by omega
     obtain⟨t,hN,z4⟩:=Ru a;obtain⟨P,χ⟩:∃P:M,dD (a+1)=P:=⟨_,rfl⟩;obtain⟨Γ,Δ,Θ⟩:=y0.q.l.2.1 (a+1) ah;have g3:m.cell? ⟨0,(1+a)*3,D⟩=I (.string ⟨(bF (a+1)).toArray⟩):=by rw[<-Γ];congr 2;omega
     have g4:m.cell? ⟨0,(1+a)*3+1,D⟩=I (H G (t:M)):=by rw[<-hN,<-Δ];congr 2;omega
     have g5:m.cell? ⟨0,(1+a)*3+2,D⟩=I (.int .i32 P):=by rw[<-χ,<-Θ];congr 2;omega
     have g6:=C j2;have ν:=C hN;have E:=C z4;have y1:=C χ;have h9:(a:M)+1<10:=by omega
     obtain⟨c6,y2⟩:∃c6:bH,c6={c with kind:=1+(a:M)}:=⟨_,rfl⟩;have Ψ:=Φ.q.zK 2 (H G (1+(a:M))) {c with kind:=1+(a:M)} {uH with kind:=((a+1:U):M)} aj rfl ⟨rfl,rfl,rfl,rfl,rfl,rfl⟩ ⟨rfl,rfl⟩ ⟨(by show 1+(a:M)=((a+1:U):M);omega),Φ.q.n.1.2.1,Φ.q.n.1.2.2.1,Φ.q.n.1.2.2.2.1⟩;rw[<-j3,<-y2] at Ψ;have z5:=C Ψ.1;have g7:=C (f6.q.trans Ψ.2);have g8:=C (y0.q.mv Φ.q Ψ.2.same);have y3:=aA (aA (Below.refl (m.setCell ⟨R,2,D⟩ (H G (1+(a:M)))).1.size _) (J #[.string ⟨(bF (a+1)).toArray⟩,H G (t:M),.int .i32 P] 125)) (J #[.func (.func 164) #[L (I ⟨R,0,D⟩)] #[]] 1);have y4:=C y3;have g9:=C ((Bx.new (m.setCell ⟨R,2,D⟩ (H G (1+(a:M)))) #[.string ⟨(bF (a+1)).toArray⟩,H G (t:M),.int .i32 P] 125).alloc (J #[.func (.func 164) #[L (I ⟨R,0,D⟩)] #[]] 1));have z6:=Bx.new ((m.setCell ⟨R,2,D⟩ (H G (1+(a:M)))).alloc (J #[.string ⟨(bF (a+1)).toArray⟩,H G (t:M),.int .i32 P] 125)) #[.func (.func 164) #[L (I ⟨R,0,D⟩)] #[]] 1;rw[show((m.setCell ⟨R,2,D⟩ (H G (1+(a:M)))).alloc (J #[.string ⟨(bF (a+1)).toArray⟩,H G (t:M),.int .i32 P] 125)).1.size=m.1.size+1 by simp[World.setCell]] at z6;have y5:=C z6;have z7:Hid ((m.setCell ⟨R,2,D⟩ (H G (1+(a:M)))).1.size=m.1.size):=C (by simp[World.setCell]);have m0:=C (λW (hb:m.1.size+1<W.1.size) (hv:W.cell? ⟨m.1.size+1,0,D⟩=I (.func (.func 164) #[L (I ⟨R,0,D⟩)] #[]))=>Xc t z4 W (m.1.size+1) (.func (.func 164) #[L (I ⟨R,0,D⟩)] #[]) hb hv rfl);clear j1 z3 k9 Q j4 Γ Δ Θ Ψ y3 z6 hN z4 χ j2 j3 y2;go_wp2_with fail;refine(m0.q _ y5.q.2.2 (y5.q.1 0)).mono ?_;rintro e y ⟨rfl,j5,z8⟩;have z9:=C (y4.q.bQ j5);have β:=C (z5.q.below z9.q);have ζ:=C (g7.q.trans (Mv.of_below z9.q));have η:=C (g8.q.below z9.q);have Ω:=g9.q.keep j5;rw[z7.q] at Ω;have y6:Hid (mW R c6 m.1.size):=C (z5.q.new (by rw[z7.q];exact aB _));have m1:=bP (show m.1.size<m.1.size+1+1 from aa2) (show m.1.size+1+1<=y.1.size by have:=j5.size;simpa[World.setCell] using this);have ξ:=C Ω;have Ξ:=Ω.1 2;have b4:=Ω.2.1 2;rw[show(((m.setCell ⟨R,2,D⟩ (H G (1+(a:M)))).alloc (J #[.string ⟨(bF (a+1)).toArray⟩,H G (t:M),.int .i32 P] 125)).alloc (J #[(.func (.func 164) #[L (I ⟨R,0,D⟩)] #[])] 1)).1.size=m.1.size+1+1 by simp[World.setCell]] at z8;have Z:=C z8;have q0:Hid (mW R c6 (m.1.size+1+1)):=C (z5.q.new (by rw[z7.q];omega));have m2:(a=0/\P=108)\/(a=2/\P=118)\/(a=8/\P=103)\/(a=7/\P=109)\/(a=3/\P=115)\/(a=6/\P=116)\/((a=1\/a=4\/a=5)/\P=0):=by
      have j2:=g6.q;have χ:=y1.q;rcases(by omega:a=0\/a=1\/a=2\/a=3\/a=4\/a=5\/a=6\/a=7\/a=8) with rfl|rfl|rfl|rfl|rfl|rfl|rfl|rfl|rfl <;> simp[dD] at χ <;> subst χ <;> simp
     clear j5 z8 Ω g3 g4 g5 g1 g2 h9 f7 f8 y1;have p5:=C (⟨β.q,ζ.q,η.q⟩:_/\_/\_);clear m1;rcases m2 with⟨A,rfl⟩|⟨A,rfl⟩|⟨A,rfl⟩|⟨A,rfl⟩|⟨A,rfl⟩|⟨A,rfl⟩|⟨A,rfl⟩
     case' inl=>
      have d:=C A;clear A;have δ:lZ (a+1)=List.replicate t 0++[1]:=by rw[d.q];unfold lZ;rw[<-d.q,ν.q,d.q];simp
      obtain⟨v0,w8,ο,q1,v1,q2,π,ρ,σ⟩:=Xd t E.q (y.alloc (J #[(.func (.func 165) #[L (I ⟨R,0,D⟩)] #[])] 1)) (m.1.size+1+1) y.1.size (.func (.func 164) #[L (I ⟨R,0,D⟩)] #[]) (.func (.func 165) #[L (I ⟨R,0,D⟩)] #[]) (Z.q.alloc _) ((Bx.new y #[(.func (.func 165) #[L (I ⟨R,0,D⟩)] #[])] 1).1 0);rw[show(y.alloc (J #[(.func (.func 165) #[L (I ⟨R,0,D⟩)] #[])] 1)).1.size=y.1.size+1 by simp] at ο π ρ σ;have α:=(aA (Below.refl y.1.size y) (J #[(.func (.func 165) #[L (I ⟨R,0,D⟩)] #[])] 1)).trans (q2.mono ak);have S:=C (β.q.below α);have θ:=C (ζ.q.trans (Mv.of_below α));have T:=C (η.q.below α);have γ:=C (ξ.q.keep α);have X:=C (IX 1 q1 aa7 ρ σ);have v2:=C π;have Ξ:=γ.q.1 2;have v3:=C ο;clear q1 v1 q2 π ρ σ α ο
      go_wp2_with (at_builtin;refine Ci rfl _ _ 233 rfl rfl rfl v3.q ?_)
      refine(uG w8 S.q T.q (y.1.size+1) 0 (t+1) v0 _ X.q (β.q.new ah) v2.q aa7 aa3 aa3).mono ?_
     case' inr.inl=>
      have d:=C A;clear A;have δ:lZ (a+1)=List.replicate t 0++[2]:=by rw[d.q];unfold lZ;rw[<-d.q,ν.q,d.q];simp
      obtain⟨v0,w8,ο,q1,v1,q2,π,ρ,σ⟩:=Xd t E.q (y.alloc (J #[(.func (.func 166) #[L (I ⟨R,0,D⟩)] #[])] 1)) (m.1.size+1+1) y.1.size (.func (.func 164) #[L (I ⟨R,0,D⟩)] #[]) (.func (.func 166) #[L (I ⟨R,0,D⟩)] #[]) (Z.q.alloc _) ((Bx.new y #[(.func (.func 166) #[L (I ⟨R,0,D⟩)] #[])] 1).1 0);rw[show(y.alloc (J #[(.func (.func 166) #[L (I ⟨R,0,D⟩)] #[])] 1)).1.size=y.1.size+1 by simp] at ο π ρ σ;have α:=(aA (Below.refl y.1.size y) (J #[(.func (.func 166) #[L (I ⟨R,0,D⟩)] #[])] 1)).trans (q2.mono ak);have S:=C (β.q.below α);have θ:=C (ζ.q.trans (Mv.of_below α));have T:=C (η.q.below α);have γ:=C (ξ.q.keep α);have X:=C (IX 2 q1 aa7 ρ σ);have v2:=C π;have Ξ:=γ.q.1 2;have v3:=C ο;clear q1 v1 q2 π ρ σ α ο
      go_wp2_with (at_builtin;refine Ci rfl _ _ 233 rfl rfl rfl v3.q ?_)
      refine(uG w8 S.q T.q (y.1.size+1) 0 (t+1) v0 _ X.q (β.q.new ah) v2.q aa7 aa3 aa3).mono ?_
     case' inr.inr.inl=>
      have d:=C A;clear A;have δ:lZ (a+1)=List.replicate t 0:=by unfold lZ;rw[ν.q,au aa8,au aa8];simp
      have S:=C β.q;have θ:=C ζ.q;have T:=C η.q;have γ:=C ξ.q;have X:=C (wQ (R:=R) aa7 Z.q);go_wp2_with fail;refine(uG y S.q T.q (m.1.size+1+1) 0 t t _ X.q q0.q Z.q.2.2 aa7 aa3 aa3).mono ?_
     case' inr.inr.inr.inl=>
      have d:=C A;clear A;have δ:lZ (a+1)=List.replicate t 0:=by unfold lZ;rw[ν.q,au aa8,au aa8];simp
      have S:=C β.q;have θ:=C ζ.q;have T:=C η.q;have γ:=C ξ.q;have X:=C (wQ (R:=R) aa7 Z.q);go_wp2_with fail;refine(uG y S.q T.q (m.1.size+1+1) 0 t t _ X.q q0.q Z.q.2.2 aa7 aa3 aa3).mono ?_
     case' inr.inr.inr.inr.inl=>
      have d:=C A;clear A;have δ:lZ (a+1)=List.replicate t 0:=by unfold lZ;rw[ν.q,au aa8,au aa8];simp
      have S:=C β.q;have θ:=C ζ.q;have T:=C η.q;have γ:=C ξ.q;have X:=C (wQ (R:=R) aa7 Z.q);go_wp2_with fail;refine(uG y S.q T.q (m.1.size+1+1) 0 t t _ X.q q0.q Z.q.2.2 aa7 aa3 aa3).mono ?_
     case' inr.inr.inr.inr.inr.inl=>
      have d:=C A;clear A;have δ:lZ (a+1)=List.replicate t 0:=by unfold lZ;rw[ν.q,au aa8,au aa8];simp
      have S:=C β.q;have θ:=C ζ.q;have T:=C η.q;have γ:=C ξ.q;have X:=C (wQ (R:=R) aa7 Z.q);go_wp2_with fail;refine(uG y S.q T.q (m.1.size+1+1) 0 t t _ X.q q0.q Z.q.2.2 aa7 aa3 aa3).mono ?_
     case' inr.inr.inr.inr.inr.inr=>
      have d:=C A;clear A;have δ:lZ (a+1)=List.replicate t 0:=by unfold lZ;rw[ν.q,au aa8,au aa8];simp
      have S:=C β.q;have θ:=C ζ.q;have T:=C η.q;have γ:=C ξ.q;have X:=C (wQ (R:=R) aa7 Z.q);go_wp2_with fail;refine(uG y S.q T.q (m.1.size+1+1) 0 t t _ X.q q0.q Z.q.2.2 aa7 aa3 aa3).mono ?_
     all_goals
      intro e w9 g;rw[<-δ] at g
      cases ψ:kX (lZ (a+1)) n6 r
      case' error x=>
       rw[ψ] at g;obtain⟨rfl,hs⟩:=g;refine⟨rfl,?_⟩;show dP R s c w _ _ _ _;rw[f9.q x ψ];exact⟨rfl,θ.q.jB hs⟩
      case' ok v4=>
       obtain⟨u,o,B⟩:=v4;rw[ψ] at g;obtain⟨rfl,q9,c9,y7,q3⟩:=g;have v5:=FW _ ψ;have m3:(lZ (a+1)).length<=3:=by rw[δ];have:=E.q;simp;omega
       have τ:=C y7;have ι:=C (θ.q.trans q3);have j6:=C (T.q.mv S.q q3.same);have j7:=C (g0.q _ _ _ ψ);have v6:=C (q3.bx γ.q y6.q);have Ξ:=v6.q.1 2;have κ:Hid (o.names.length<=3/\o.aN.length<=3/\o.bits=0/\o.first=false):=C (by have:=F.q;exact⟨by omega,by omega,by rw[v5.1];exact this.1,by rw[v5.2.1];exact this.2.1⟩);have p6:Hid (m.1.size<w9.1.size):=C (v6.q.2.2);have m4:Hid (mW R c9 m.1.size):=C (q3.ZA y6.q γ.q.2.2);clear y7 q3 v5 m3 ψ δ
     case' inr.inr.inl.ok=>
      have μ:mV (a+1) o B=(match iW 5 0 0 B with| .error x=> .error x| .ok (b,r)=> .ok ((),{o with bits:=b},r)):=by unfold mV;rw[av aa8] <;> rfl
      go_wp2_with fail;refine(Gq _ τ.q j6.q κ.q.2.2.1).mono ?_;intro e υ g;have g:dP R s c9 w9 (λ_:Unit=> .tuple #[]) (mV (a+1) o B) e υ:=by rw[μ];exact g
     case' inr.inr.inr.inr.inl.ok=>
      have μ:mV (a+1) o B=(match bN true 40 (40+1) 0 o.names o.aN B with| .error x=> .error x| .ok (b,r)=> .ok ((),{o with names:=b.1,aN:=b.2},r)):=by unfold mV;rw[au aa8,au aa8,av aa8] <;> rfl
      go_wp2_with fail;refine(AZ _ τ.q j6.q 115 40 true (by rfl) (by rfl) aj aa9 aa9).mono ?_;intro e υ g;have g:dP R s c9 w9 (λ_:Unit=> .tuple #[]) (mV (a+1) o B) e υ:=by rw[μ];exact g
     case' inr.inr.inr.inr.inr.inl.ok=>
      have μ:mV (a+1) o B=(match bN false 300 (300+1) 0 o.names o.aN B with| .error x=> .error x| .ok (b,r)=> .ok ((),{o with names:=b.1,aN:=b.2},r)):=by unfold mV;rw[au aa8,au aa8,au aa8,av aa8] <;> rfl
      go_wp2_with fail;refine(AZ _ τ.q j6.q 116 300 false (by rfl) (by rfl) aj aa9 aa9).mono ?_;intro e υ g;have g:dP R s c9 w9 (λ_:Unit=> .tuple #[]) (mV (a+1) o B) e υ:=by rw[μ];exact g
     case' inr.inr.inr.inl.ok=>
      go_wp2_with fail;refine(Rq _ τ.q κ.q.2.2.2).mono ?_;intro e wf g
      cases q4:jJ B
      case' error x=>
       rw[q4] at g;obtain⟨rfl,hs⟩:=g;refine⟨rfl,?_⟩;show dP R s c w _ _ _ _;rw[j7.q,show mV (a+1) o B= .error x by unfold mV;rw[au aa8,av aa8,q4],Ec];exact⟨rfl,ι.q.jB hs⟩
      case' ok fr=>
       obtain⟨f,rf⟩:=fr;rw[q4] at g;obtain⟨rfl,qf,cf,y8,j8⟩:=g;have m5:=C y8;have m6:=C (ι.q.trans j8);have m7:=C (j6.q.mv τ.q j8.same);have m8:=C (j8.bx v6.q m4.q);have Ξ:=m8.q.1 2;have μ:mV (a+1) o B=(match bN false 300 (300+1) 0 {o with first:=f}.names {o with first:=f}.aN rf with| .error x=> .error x| .ok (b,r)=> .ok ((),{{o with first:=f} with names:=b.1,aN:=b.2},r)):=by unfold mV;rw[au aa8,av aa8,q4] <;> rfl
       clear y8 j8 q4;go_wp2_with fail;refine(AZ _ m5.q m7.q 109 300 false (by rfl) (by rfl) aj (by have:=κ.q;show o.names.length<=600;omega) (by have:=κ.q;show o.aN.length<=600;omega)).mono ?_;intro e υ g;have g:dP R s cf wf (λ_:Unit=> .tuple #[]) (mV (a+1) o B) e υ:=by rw[μ];exact g
       have ι:=C m6.q
     all_goals
      first
      |have hx:=g
       clear hx
       cases q6:mV (a+1) o B
       case' error x=>
        rw[q6] at g;obtain⟨rfl,hs⟩:=g;refine⟨rfl,?_⟩;show dP R s c w _ _ _ _;rw[j7.q,q6,Ec];exact⟨rfl,ι.q.jB hs⟩
       case' ok v4=>
        obtain⟨u,o,B⟩:=v4;rw[q6] at g;obtain⟨rfl,q9,c9,y9,x0⟩:=g;have τ:=C y9;have ι:=C (ι.q.trans x0);have j9:Hid (Y=yA (.ok (u,o,B))):=C (by rw[j7.q,q6]);clear y9 x0 q6 μ
      |have j9:Hid (Y=yA (.ok ((),o,B))):=C (j7.q.trans (by unfold mV;rw[au (by have:=d.q;omega),au (by have:=d.q;omega),au (by have:=d.q;omega),au (by have:=d.q;omega)]))
     all_goals
      go_wp2_with fail;refine(yQ _ τ.q).mono ?_;intro e wa g
      cases q7:dM B
      case' error x=>
       rw[q7] at g;obtain⟨rfl,hs⟩:=g;refine⟨rfl,?_⟩;show dP R s c w _ _ _ _;rw[j9.q,Pf q7];exact⟨rfl,ι.q.jB hs⟩
      case' ok br=>
       obtain⟨bb,ra⟩:=br;rw[q7] at g;obtain⟨rfl,qa,v7,x1⟩:=g;have x2:=C v7;have x3:=C (ι.q.trans x1);have x4:=C q7;have c1:=v7.c1;clear v7 x1 q7
       cases bb
       .go_wp2_with fail
        refine bodyPost_end (results_none rfl _ _ _) rfl ?_;show dP R s c w _ _ _ _;rw[j9.q,MJ x4.q];exact⟨rfl,qa,_,x2.q,x3.q⟩
       .go_wp2_with fail
        refine(lH qa 220 _).mono ?_;rintro e wb ⟨rfl,rfl⟩;refine⟨rfl,?_⟩;show dP R s c w _ _ _ _;rw[j9.q,Pg x4.q];have:=x2.q.len;exact⟨by rw[show s.length - ra.length=qa by omega],x3.q.same⟩
 .go_wp2_with fail
  refine bodyPost_end (results_none rfl _ _ _) rfl ?_;show dP R s c w _ _ _ _;rw[HY.q];unfold iX;rw[av hE];exact⟨rfl,q,c,z2.q,k0.q⟩
def dN (s:Bs)(p:M):aJ × M × M:=
 if p<0\/(s.length:M)<p then(uH,0,2)
 else match oH (s.drop p.toNat) with
  | .ok (n,r)=>(n,((s.length - r.length:U):M),0)
  | .error (r,m)=>(uH,((s.length - r.length:U):M),m)
def Tx (x:aJ × M × M)(w:World)(e:Ending)(a:World):Prop:=
 ∃c:bH,e= .returned (.tuple #[dU c,H G x.2.1,H G x.2.2])/\fV a w.1.size c x.1/\Below w.1.size w a
@[reducible] def xO:bH:=⟨0,D,0,0,0,D,0,0,false,0⟩
theorem yT (w:World)(B:U):fV w B xO uH:=⟨⟨rfl,rfl,rfl,rfl,rfl,rfl⟩,Own.jv _ _ _ _ _,Own.jv _ _ _ _ _⟩
theorem MK (h:dM l= .ok (false,r)):dR r=true:=by
 unfold dM at h
 split at h
 .rename_i a
  injection h with h;injection h with _ h;rw[<-h];exact a
 .split at h
  .cases h
  .injection h with h;injection h with h _;cases h
theorem Ph (h:iX l= .ok (n,r)):dR r=true:=by
 unfold iX at h
 split at h
 .rename_i a
  injection h with h;injection h with _ h;rw[<-h];exact a
 .split at h
  .cases h
  .split at h
   .cases h
   .split at h
    .cases h
    .split at h
     .cases h
     .cases h
     .rename_i b
      injection h with h;injection h with _ h;rw[<-h];exact MK b
theorem size_alloc (w:World)(o:Obj):(w.alloc o).1.size=w.1.size+1:=by simp
theorem UN (h:iX l= .ok (n,r)):
  (qP r).2=0/\(∃t,oH l= .ok (n,t)/\t.length+(qP r).1=r.length)\/(qP r).2≠0/\(∃t,oH l= .error (t,220)/\t.length+(qP r).1=r.length):=by
 have e:(jF r).length<=r.length:=by unfold jF;split <;> simp
 unfold oH;rw[h];unfold qP;simp only[];by_cases b:(jF r).head?=D
 .rw[av b,av b];exact .inl ⟨rfl,[],rfl,by simp⟩
 .rw[au b,au b]
  by_cases c:(jF r).head?=I 10
  .rw[av c,av c]
   refine .inl ⟨rfl,_,rfl,?_⟩;have:1<=(jF r).length:=by
    cases d:jF r with
    |nil=>rw[d] at b;exact absurd rfl b
    |cons a t=>simp
   simp only[List.length_tail];omega
  .rw[au c,au c]
   exact .inr ⟨by simp,_,rfl,by simp only[];omega⟩
theorem tX {t e:M}(d:Array Value)(c:bH)(w a:World)(f:d[4]?.getD undef= L (I ⟨w.1.size,0,D⟩))(g:d[5]?.getD undef= L (I ⟨w.1.size+1,0,D⟩))
  (h:d[6]?.getD undef= L (I ⟨w.1.size+1+1,0,D⟩)) (b:Bx a w.1.size (bM c)) (i:Bx a (w.1.size+1) #[H G t]) (j:Bx a (w.1.size+1+1) #[H G e])
  (k:fV a w.1.size c n) (l:Below w.1.size w a):Leaves V Tryz.f121 d (Tx (n,t,e) w) [] .returning a:=by
 have m:=b.1 0;have o:=b.1 1;have p:=b.1 2;have q:=b.1 3;have r:=b.1 4;have s:=b.1 5;have u:=i.1 0;have v:=j.1 0;refine⟨.tuple #[dU c,H G t,H G e],?_,c,rfl,k,l⟩;simp[results,results121,go_sem,f,g,h,m,o,p,q,r,s,u,v]
theorem Ny (s:Bs)(m:M)(ψ:s.length<=1000000)(w:World)(hT:Lib.Utf8Tabs 6 7 w)(hE:vR w)(hL:jM w):
  Calls V 121 #[.string ⟨s.toArray⟩,H G m] w (Tx (dN s m) w):=by
 have hz:=gN s;by_cases q:m<0
 .have q0:decide (m<0)=true:=by simpa using q
  have hr:dN s m=(uH,0,2):=by unfold dN;rw[av (.inl q)]
  rw[hr];clear hr q hT hE hL
  go_enter_defers func121,ntmps121
  go_wp2_with fail;refine tX _ xO w _ rfl rfl rfl ?_ ?_ ?_ ?_ ?_
  .exact((Bx.new w #[H G 0,O D 0 0,H G 0,O D 0 0,.bool false,H G 0] 77).alloc _).alloc _
  .have:=(Bx.new (w.alloc (J #[H G 0,O D 0 0,H G 0,O D 0 0,.bool false,H G 0] 77)) #[H G 0] 3).alloc (J #[H G 2] 31)
   rw[size_alloc] at this;exact this
  .have:=Bx.new ((w.alloc (J #[H G 0,O D 0 0,H G 0,O D 0 0,.bool false,H G 0] 77)).alloc (J #[H G 0] 3)) #[H G 2] 31
   rw[size_alloc,size_alloc] at this;exact this
  .exact yT _ _
  .exact(((Below.refl w.1.size w).alloc (aB _) _).alloc ak _).alloc aa6 _
 .have q0:decide (m<0)=false:=by simpa using q
  by_cases o:(s.length:M)<m
  .have q1:decide ((s.length:M)<m)=true:=by simpa using o
   have hr:dN s m=(uH,0,2):=by unfold dN;rw[av (.inr o)]
   rw[hr];clear hr q o hT hE hL
   go_enter_defers func121,ntmps121
   go_wp2_with fail;refine tX _ xO w _ rfl rfl rfl ?_ ?_ ?_ ?_ ?_
   .exact((Bx.new w #[H G 0,O D 0 0,H G 0,O D 0 0,.bool false,H G 0] 77).alloc _).alloc _
   .have:=(Bx.new (w.alloc (J #[H G 0,O D 0 0,H G 0,O D 0 0,.bool false,H G 0] 77)) #[H G 0] 3).alloc (J #[H G 2] 31)
    rw[size_alloc] at this;exact this
   .have:=Bx.new ((w.alloc (J #[H G 0,O D 0 0,H G 0,O D 0 0,.bool false,H G 0] 77)).alloc (J #[H G 0] 3)) #[H G 2] 31
    rw[size_alloc,size_alloc] at this;exact this
   .exact yT _ _
   .exact(((Below.refl w.1.size w).alloc (aB _) _).alloc ak _).alloc aa6 _
  .have q1:decide ((s.length:M)<m)=false:=by simpa using o
   obtain⟨p,rfl⟩:∃p:U,m=(p:M):=⟨m.toNat,aa2⟩;have hp:p<=s.length:=by omega
   have j0:∀(fn:Fn)(first cap:Array Value)(w:World),(Instr.makeFunc fn first cap).run V w= .ok (.func fn first cap) w:=λ_ _ _ _=>rfl
   clear q o
   go_enter_defers func121,ntmps121
   have γ:=(((Below.refl w.1.size w).alloc (aB _) (J #[H G 0,O D 0 0,H G 0,O D 0 0,.bool false,H G 0] 77)).alloc ak (J #[H G 0] 3)).alloc aa6 (J #[H G 0] 31)|>.alloc aa6 (J (qj s p xO) 212);have κ:=(((Bx.new w #[H G 0,O D 0 0,H G 0,O D 0 0,.bool false,H G 0] 77).alloc (J #[H G 0] 3)).alloc (J #[H G 0] 31)).alloc (J (qj s p xO) 212);have δ:=((Bx.new (w.alloc (J #[H G 0,O D 0 0,H G 0,O D 0 0,.bool false,H G 0] 77)) #[H G 0] 3).alloc (J #[H G 0] 31)).alloc (J (qj s p xO) 212);have ε:=(Bx.new ((w.alloc (J #[H G 0,O D 0 0,H G 0,O D 0 0,.bool false,H G 0] 77)).alloc (J #[H G 0] 3)) #[H G 0] 31).alloc (J (qj s p xO) 212);have ζ:=Bx.new (((w.alloc (J #[H G 0,O D 0 0,H G 0,O D 0 0,.bool false,H G 0] 77)).alloc (J #[H G 0] 3)).alloc (J #[H G 0] 31)) (qj s p xO) 212;obtain⟨b,hb⟩:∃b,b=w.1.size:=⟨_,rfl⟩;obtain⟨W4,μ⟩:∃W4,W4=(((w.alloc (J #[H G 0,O D 0 0,H G 0,O D 0 0,.bool false,H G 0] 77)).alloc (J #[H G 0] 3)).alloc (J #[H G 0] 31)).alloc (J #[.string ⟨s.toArray⟩,H G (p:M),H G 0,O D 0 0,H G 0,O D 0 0,.bool false,H G 0] 212):=⟨_,rfl⟩;rw[<-μ] at γ κ δ ε ζ;simp only[size_alloc] at δ ε ζ;have ν:rE (w.1.size+1+1+1) W4:=⟨w,aa2,γ,hT,hE,hL⟩;have S:eT W4 (w.1.size+1+1+1) s p (s.drop p) xO uH:=⟨ζ,yT _ _,rfl,hp,ψ⟩;have q2:=C (UM W4 S ν);have T:=C (⟨κ,δ,ε⟩:_/\_/\_);have W:Hid (mW (w.1.size+1+1+1) xO w.1.size/\mW (w.1.size+1+1+1) xO (w.1.size+1)/\mW (w.1.size+1+1+1) xO (w.1.size+1+1)):=C ⟨S.old ah,S.old ah,S.old ah⟩;have η:=C γ;have q3:=C ν;have ξ:=C S;have q4:=C μ;clear μ κ δ ε ζ γ ν S hE hL hb;go_wp2_with fail;rw[<-q4.q];refine q2.q.mono ?_;intro e w5 he
   cases A:iX (s.drop p) with
   |error x=>
    rw[A] at he;obtain⟨rfl,hs⟩:=he;have B:dN s p=(uH,((s.length - x.1.length:U):M),x.2):=by
     unfold dN oH;rw[au ah,jL,A]
    rw[B];refine leaves_cons (f:=145) (args:=#[L (I ⟨w.1.size,0,D⟩),L (I ⟨w.1.size+1,0,D⟩),L (I ⟨w.1.size+1+1,0,D⟩)]) ak (by simp[go_sem]) ?_;refine(FH w.1.size ((s.length - x.1.length:U):M) x.2 _ _ _ _ _ _ _ _ [] w5 (hs.bx T.q.1 W.q.1) (hs.bx T.q.2.1 W.q.2.1) (hs.bx T.q.2.2 W.q.2.2)).mono ?_;rintro e u' w6 ⟨rfl,rfl,X,Y,k3,k4⟩;exact tX _ xO w w6 rfl rfl rfl X Y k3 (yT _ _) ((hs.below η.q (λi hi=>ξ.q.old ah) η.q.size).trans k4)
   |ok nr=>
    obtain⟨n,r⟩:=nr;rw[A] at he;obtain⟨rfl,p5,c,ο,E⟩:=he;have ω:=C (UN A);have α:=C ο;have j1:=C E;have q5:=C (⟨E.bx T.q.1 W.q.1,E.bx T.q.2.1 W.q.2.1,E.bx T.q.2.2 W.q.2.2⟩:_/\_/\_);have q6:=C (q3.q.mv ξ.q E.same).tabs;have Γ:=C (E.same.below η.q (λi hi=>ξ.q.old ah) η.q.size);have c1:=ο.c1;have q7:=C (Ph A);have j2:=C A;clear ο E A;go_wp2_with fail;refine(Wd s p5 r α.q.d α.q.le ψ q7.q w5 q6.q).mono ?_;rintro e w6 ⟨k,a,t,g,rfl,θ⟩;have Δ:=C (α.q.below θ);have Z:=GJ q5.q θ;have π:=C Z;have q8:=C (Γ.q.bQ θ);have y1:=Z.2.1.1 0;have y2:=Z.2.2.1 0;have g1:=Z.2.1.2.1 0;have g2:=Z.2.2.2.1 0;obtain⟨er,ρ⟩:∃er,er=(qP r).2:=⟨_,rfl⟩;obtain⟨j,σ⟩:∃j,j=p5+(qP r).1:=⟨_,rfl⟩;rw[<-ρ,<-σ];rw[<-ρ] at ω;have Θ:=C σ;clear θ Z c1 ρ σ;obtain⟨u,hV⟩:∃u:World,u=(w6.setCell ⟨w.1.size+1,0,D⟩ (H G (j:M))).setCell ⟨w.1.size+1+1,0,D⟩ (H G er):=⟨_,rfl⟩;have l:Hid (Bx u w.1.size #[H G 0,O D 0 0,H G 0,O D 0 0,.bool false,H G 0]/\Bx u (w.1.size+1) #[H G (j:M)]/\Bx u (w.1.size+1+1) #[H G er]/\eT u (w.1.size+1+1+1) s p5 r c n/\Below w.1.size w u):=C (by
     rw[hV];refine⟨(π.q.1.setOther _ _ _ ah).setOther _ _ _ ah,(π.q.2.1.bB 0 ak _).setOther _ _ _ ah,(π.q.2.2.setOther _ _ _ ah).bB 0 ak _,?_,?_⟩
     .have o:=Δ.q.put (w.1.size+1) 0 (H G (j:M)) (Δ.q.old ah)
      exact o.put (w.1.size+1+1) 0 _ (o.old ah)
     .exact(q8.q.setCell (p:=⟨w.1.size+1,0,D⟩) ak _).setCell (p:=⟨w.1.size+1+1,0,D⟩) aa6 _)
    have Ξ:=C hV;clear hV;rcases ω.q with⟨q,t',hl,τ⟩|⟨q,t',hl,τ⟩
    .subst q
     have B:dN s p=(n,(j:M),0):=by
      unfold dN;rw[au ah,jL,hl];have:=α.q.len;have:=Θ.q;simp only[show s.length - t'.length=j by omega]
     have υ:=C B;clear hl τ B;go_wp2_with fail;rw[<-Ξ.q];have v1:=l.q.2.1.1 0;have v2:=l.q.2.2.1.1 0;have v0:=l.q.1.1;have k0:=l.q.1.2.1;have X:=l.q.2.1.2.1 0;have Y:=l.q.2.2.1.2.1 0;have F:=l.q.2.2.2.1.x.1;obtain⟨v,φ⟩:∃v:World,v=((((((u.setCell ⟨w.1.size,0,D⟩ (H G c.kind)).setCell ⟨w.1.size,1,D⟩ (O c.na c.nn c.nc)).setCell ⟨w.1.size,2,D⟩ (H G c.lvl)).setCell ⟨w.1.size,3,D⟩ (O c.va c.vn c.vc)).setCell ⟨w.1.size,4,D⟩ (.bool c.first)).setCell ⟨w.1.size,5,D⟩ (H G c.bits)).drew:=⟨_,rfl⟩;have d:Hid (Bx v w.1.size (bM c)/\Bx v (w.1.size+1) #[H G (j:M)]/\Bx v (w.1.size+1+1) #[H G 0]/\eT v (w.1.size+1+1+1) s p5 r c n/\Below w.1.size w v):=C (by
      rw[φ];refine⟨?_,?_,?_,?_,?_⟩
      .exact((((((l.q.1.bB 0 ak _).bB 1 ak _).bB 2 ak _).bB 3 ak _).bB 4 ak _).bB 5 ak _).drew
      .exact((((((l.q.2.1.setOther _ 0 _ ah).setOther _ 1 _ ah).setOther _ 2 _ ah).setOther _ 3 _ ah).setOther _ 4 _ ah).setOther _ 5 _ ah).drew
      .exact((((((l.q.2.2.1.setOther _ 0 _ ah).setOther _ 1 _ ah).setOther _ 2 _ ah).setOther _ 3 _ ah).setOther _ 4 _ ah).setOther _ 5 _ ah).drew
      .have hA:=l.q.2.2.2.1.old (i:=w.1.size) ah
       exact((((((l.q.2.2.2.1.put _ 0 _ hA).put _ 1 _ hA).put _ 2 _ hA).put _ 3 _ hA).put _ 4 _ hA).put _ 5 _ hA).drew
      .exact((((((l.q.2.2.2.2.setCell (p:=⟨w.1.size,0,D⟩) (aB _) _).setCell (p:=⟨w.1.size,1,D⟩) (aB _) _).setCell (p:=⟨w.1.size,2,D⟩) (aB _) _).setCell (p:=⟨w.1.size,3,D⟩) (aB _) _).setCell (p:=⟨w.1.size,4,D⟩) (aB _) _).setCell (p:=⟨w.1.size,5,D⟩) (aB _) _).drew)
     have q9:=C φ;clear φ;refine aC 99 [(0,0),(1,0),(2,0),(3,0),(4,0),(5,2),(6,2),(7,2)] (λ_=>True) (λP=>P.cell? ⟨w.1.size+1+1+1,2,D⟩=I (H G c.kind)/\P.cell? ⟨w.1.size+1+1+1,3,D⟩=I (O c.na c.nn c.nc)/\P.cell? ⟨w.1.size+1+1+1,4,D⟩=I (H G c.lvl)/\P.cell? ⟨w.1.size+1+1+1,5,D⟩=I (O c.va c.vn c.vc)/\P.cell? ⟨w.1.size+1+1+1,6,D⟩=I (.bool c.first)/\P.cell? ⟨w.1.size+1+1+1,7,D⟩=I (H G c.bits)/\P.cell? ⟨w.1.size+1,0,D⟩=I (H G (j:M))) ay ay (trivial) (⟨F 2,F 3,F 4,F 5,F 6,F 7,v1⟩) ?_;refine qC ?_;refine aF rfl rfl (λK y=>?_);go_simp;rw[<-q9.q];refine y _ _ ⟨trivial,d.q.2.2.2.1.x.1 2,d.q.2.2.2.1.x.1 3,d.q.2.2.2.1.x.1 4,d.q.2.2.2.1.x.1 5,d.q.2.2.2.1.x.1 6,d.q.2.2.2.1.x.1 7,d.q.2.1.1 0⟩ ?_;clear y K v1 v2 v0 k0 X Y F;have v1:=d.q.2.1.1 0;have v2:=d.q.2.2.1.1 0;have X:=d.q.2.1.2.1 0;have Y:=d.q.2.2.1.2.1 0;have ι:=d.q.2.2.2.1.put (w.1.size+1) 0 (H G (j:M)) (d.q.2.2.2.1.old ah);have Φ:=ι.put (w.1.size+1+1) 0 (H G 0) (ι.old ah);have χ:=d.q.2.1.bB 0 ak (H G (j:M));have Ψ:=χ.setOther (w.1.size+1+1) 0 (H G 0) ah;have Q:=C (⟨ι,χ⟩:_/\_);have R:=C (⟨Φ,Ψ⟩:_/\_);clear ι Φ χ Ψ;refine aF rfl rfl (λK y=>?_);go_simp;refine y _ _ ⟨trivial,Q.q.1.x.1 2,Q.q.1.x.1 3,Q.q.1.x.1 4,Q.q.1.x.1 5,Q.q.1.x.1 6,Q.q.1.x.1 7,Q.q.2.1 0⟩ ?_;clear y K;refine aF rfl rfl (λK y=>?_);go_simp;refine y _ _ ⟨trivial,R.q.1.x.1 2,R.q.1.x.1 3,R.q.1.x.1 4,R.q.1.x.1 5,R.q.1.x.1 6,R.q.1.x.1 7,R.q.2.1 0⟩ ?_;clear y K;refine aO ?_;go_wp2_with fail;obtain⟨z,Ω⟩:∃z:World,z=(v.setCell ⟨w.1.size+1,0,D⟩ (H G (j:M))).setCell ⟨w.1.size+1+1,0,D⟩ (H G 0):=⟨_,rfl⟩;rw[<-Ω];have β:Bx z w.1.size (bM c)/\Bx z (w.1.size+1) #[H G (j:M)]/\Bx z (w.1.size+1+1) #[H G 0]/\eT z (w.1.size+1+1+1) s p5 r c n/\Below w.1.size w z:=by
      rw[Ω];refine⟨(d.q.1.setOther _ 0 _ ah).setOther _ 0 _ ah,(d.q.2.1.bB 0 ak _).setOther _ 0 _ ah,(d.q.2.2.1.setOther _ 0 _ ah).bB 0 ak _,?_,?_⟩
      .have o:=d.q.2.2.2.1.put (w.1.size+1) 0 (H G (j:M)) (d.q.2.2.2.1.old ah)
       exact o.put (w.1.size+1+1) 0 _ (o.old ah)
      .exact(d.q.2.2.2.2.setCell (p:=⟨w.1.size+1,0,D⟩) ak _).setCell (p:=⟨w.1.size+1+1,0,D⟩) aa6 _
     refine leaves_cons (f:=145) (args:=#[L (I ⟨w.1.size,0,D⟩),L (I ⟨w.1.size+1,0,D⟩),L (I ⟨w.1.size+1+1,0,D⟩)]) ak (by simp[go_sem]) ?_;refine(Q0 w.1.size z).mono ?_;rintro e u' w7 ⟨rfl,rfl,rfl⟩;rw[υ.q];exact tX _ c w w7 rfl rfl rfl β.1 β.2.1 β.2.2.1 (β.2.2.2.1.n.mono ah) β.2.2.2.2
    .have j3:(er !=0)=true:=by simpa using q
     have B:dN s p=(uH,(j:M),220):=by
      unfold dN;rw[au ah,jL,hl];have:=α.q.len;have:=Θ.q;simp only[show s.length - t'.length=j by omega]
     have υ:=C B;clear hl τ B;go_wp2_with fail;rw[<-Ξ.q];refine(lH j 220 _).mono ?_;rintro e wb ⟨rfl,rfl⟩;refine leaves_cons (f:=145) (args:=#[L (I ⟨w.1.size,0,D⟩),L (I ⟨w.1.size+1,0,D⟩),L (I ⟨w.1.size+1+1,0,D⟩)]) ak (by simp[go_sem]) ?_;refine(FH w.1.size (j:M) 220 _ _ _ _ _ _ _ _ [] wb l.q.1 l.q.2.1 l.q.2.2.1).mono ?_;rintro e u' w7 ⟨rfl,rfl,X,Y,k3,k4⟩;rw[υ.q];exact tX _ xO w w7 rfl rfl rfl X Y k3 (yT _ _) (l.q.2.2.2.2.trans k4)
end Yd
