import Derived.Test.YtddiadcpokbpoaaGreatDoorLOwnPut
import Derived.Test.YtddiadcpokbpoaaGreatDoorLMp
import Derived.DeepKeys4
set_option linter.all false
set_option maxRecDepth 200000
set_option maxHeartbeats 8000000
namespace Yd
open Option renaming some->C,none->H
open Go Go.RowKit Go.Proofs Tryz
open Go renaming Value->I,World->J
open Go.IntKind renaming i64->U
open Go.Obj renaming cells->G
open Go.Value renaming slice->N,int->S
open Same renaming of_below->Z
open Yd renaming hid->O
open _root_ renaming List->u,Nat->F,Int->V
theorem Row.uniq {α:Type}{enc:α->u I}{k:F}[hc:Cells enc k](hinj:∀x y,enc x=enc y->x=y){w:J}{a:Option Addr}{n c:F}{xs ys:u α}(h:Row w k enc a n c xs)(h':Row w k enc a n c ys):xs=ys:=by
 apply Eb
 intro i;rcases jP i n with hi|hi
 .obtain⟨x,b,o,hx,ha,hx'⟩:=h.at_ hi
  obtain⟨y,b',o',hy,ha',hy'⟩:=h'.at_ hi;rw[ha] at ha';injection ha' with ha';injection ha' with e1 e2;subst e1 e2;rw[hx,hy];refine dF C (hinj x y (Eb λj=>?_));have hlx:=hc.len x;have yT:=hc.len y;rcases jP j k with hj|hj
  .have h1:(enc x)[j]?=C ((enc x)[j]' ah):=eu _
   have h2:(enc y)[j]?=C ((enc y)[j]' ah):=eu _;have g1:=hx' j _ h1;have g2:=hy' j _ h2;rw[h1,h2,<-g1,<-g2]
  .rw[wP ah,wP ah]
 .rw[wP (by rw[h.len];omega),wP (by rw[h'.len];omega)]
def mQ {β:Type}(w X:J)(T:TypeId)(k:F)(enc:β->u I)(s:Sl)(L:u β):Prop:=
 L.length<=2000000/\(Row w k enc s.a s.n s.c L\/Own X w.1.size T k enc s.v L)
section
variable {β:Type}{w X Y:J}{T:TypeId}{k:F}{enc:β->u I}{s:Sl}{L:u β}
theorem mQ.same (h:mQ w X T k enc s L){g:F}{cs:Array I}{T':TypeId}{fz:F × F}(hg:X.1[g]?=C (G cs T' fz))(hT:T≠T')(hs:Same (λi=>i≠g) X Y):mQ w Y T k enc s L:=by
 obtain⟨hL,h|h⟩:=h
 .exact⟨hL,.inl h⟩
 .refine⟨hL,.inr (h.same hs (λi hi e=>?_))⟩
  subst e;obtain⟨cs',Wo,e'⟩:=h.tag hi;rw[hg] at e'
  cases e'
  exact hT rfl
theorem mQ.below (h:mQ w X T k enc s L)(hb:Below X.1.size X Y):mQ w Y T k enc s L:=by
 obtain⟨hL,h|h⟩:=h
 .exact⟨hL,.inl h⟩
 .exact⟨hL,.inr (h.below hb rfl)⟩
theorem mQ.row [hc:Cells enc k](h:mQ w X T k enc s L)(hb:Below w.1.size w X):Row X k enc s.a s.n s.c L:=by
 obtain⟨hL,h|h⟩:=h
 .exact h.below hb rfl
 .obtain⟨a,c,e,_,_⟩:=h.shape
  obtain⟨sa,sn,sc⟩:=s;injection e with e1 e2 e3;subst e1 e2 e3;exact h.row ah
theorem mQ.own (h:Own X w.1.size T k enc s.v L)(hL:L.length<=2000000):mQ w X T k enc s L:=⟨hL,.inr h⟩
end
theorem Own.aK {β:Type}{X Y:J}{B:F}{T T':TypeId}{k:F}{enc:β->u I}{v:I}{L:u β}(h:Own X B T k enc v L){g:F}(hg:∃cs fz,X.1[g]?=C (G cs T' fz))(hT:T≠T')(hs:Same (λi=>i≠g) X Y):Own Y B T k enc v L:=by
 obtain⟨cs,fz,hg⟩:=hg;exact h.same hs (λi hi e=>by
  subst e;obtain⟨cs',Wo,e'⟩:=h.tag hi;rw[hg] at e'
  cases e'
  exact hT rfl)
def uf {α β:Type}(w X:J)(T:TypeId)(k:F)(enc:β->u I)(sl:α->Sl)(xs:u α)(Ls:u (u β)):Prop:=
 xs.length=Ls.length/\∀(i:F)(x:α)(L:u β),xs[i]?=C x->Ls[i]?=C L->mQ w X T k enc (sl x) L
section
variable {α β:Type}{w X Y:J}{T:TypeId}{k:F}{enc:β->u I}{sl:α->Sl}{xs:u α}{Ls:u (u β)}
theorem uf.same (h:uf w X T k enc sl xs Ls){g:F}{cs:Array I}{T':TypeId}{fz:F × F}(hg:X.1[g]?=C (G cs T' fz))(hT:T≠T')(hs:Same (λi=>i≠g) X Y):uf w Y T k enc sl xs Ls:=
 ⟨h.1,λi x L h1 h2=>(h.2 i x L h1 h2).same hg hT hs⟩
theorem uf.below (h:uf w X T k enc sl xs Ls)(hb:Below X.1.size X Y):uf w Y T k enc sl xs Ls:=⟨h.1,λi x L h1 h2=>(h.2 i x L h1 h2).below hb⟩
theorem uf.set (h:uf w X T k enc sl xs Ls){i:F}{y:α}{L:u β}(hL:Ls[i]?=C L)(hy:mQ w X T k enc (sl y) L):uf w X T k enc sl (xs.set i y) Ls:=by
 refine⟨by rw[Ee];exact h.1,λj x L' h1 h2=>?_⟩;rw[List.getElem?_set] at h1
 split at h1
 .rename_i e
  subst e
  split at h1
  .injection h1 with h1
   subst h1;rw[hL] at h2;injection h2 with h2;subst h2;exact hy
  .cases h1
 .exact h.2 j x L' h1 h2
theorem uf.rows [hc:Cells enc k](h:uf w X T k enc sl xs Ls)(hb:Below w.1.size w X)(i:F)(x:α)(hx:xs[i]?=C x):∃L,Ls[i]?=C L/\Row X k enc (sl x).a (sl x).n (sl x).c L:=by
 have hi:i<Ls.length:=by rw[<-h.1];exact(bG.1 hx).1
 exact⟨Ls[i],eu hi,(h.2 i x _ hx (eu hi)).row hb⟩
end
@[reducible] def EvC.sl (x:EvC):Sl:=⟨x.sa,x.sn,x.sc⟩
@[reducible] def aM.sl (x:aM):Sl:=⟨x.sa,x.sn,x.sc⟩
@[reducible] def aN.sl (x:aN):Sl:=⟨x.sa,x.sn,x.sc⟩
@[reducible] def EvC.wi (x:EvC)(s:Sl):EvC:={x with sa:=s.a,sn:=s.n,sc:=s.c}
@[reducible] def aM.wi (x:aM)(s:Sl):aM:={x with sa:=s.a,sn:=s.n,sc:=s.c}
@[reducible] def aN.wi (x:aN)(s:Sl):aN:={x with sa:=s.a,sn:=s.n,sc:=s.c}
def EvC.base (x:EvC):EvC:=x.wi ⟨H,0,0⟩
def aM.base (x:aM):aM:=x.wi ⟨H,0,0⟩
def aN.base (x:aN):aN:=x.wi ⟨H,0,0⟩
theorem BA {α γ:Type}{f:α->γ}{xs:u α}{i:F}{x y:α}(hx:xs[i]?=C x)(he:f y=f x):(xs.set i y).map f=xs.map f:=by
 apply Eb
 intro j;rw[lZ,lZ,List.getElem?_set]
 split
 .rename_i e
  subst e;rw[hx,ay (bG.1 hx).1];simp[he]
 .rfl
structure Cont where
 nl:F->u Bs
 E:u EvC
 SE:u (u Sn)
 D:u aM
 SD:u (u V)
 M:u aN
 SM:u (u V)
 Q:u Wa
structure St (w X:J)(h:HC)(es:u EvC)(ds:u aM)(ms:u aN)(c:Cont):Prop where
 b:Below w.1.size w X
 bx:Bx X w.1.size (aH h)
 tg:∃cs fz,X.1[w.1.size]?=C (G cs 36 fz)
 b2:Bx X (w.1.size+1) (Array.replicate 8 (N H 0 0))
 t2:∃cs fz,X.1[w.1.size+1]?=C (G cs 36 fz)
 e:mQ w X 47 9 dO h.e es
 d:mQ w X 74 2 eZ h.d ds
 m:mQ w X 77 4 eP h.m ms
 q:mQ w X 79 2 fQ h.w c.Q
 n:∀i,i<4->mQ w X 9 1 encStr (h.nm i) (c.nl i)
 be:es.map EvC.base=c.E
 bd:ds.map aM.base=c.D
 bm:ms.map aN.base=c.M
 se:uf w X 117 3 bS EvC.sl es c.SE
 sd:uf w X 3 1 aQ aM.sl ds c.SD
 sm:uf w X 3 1 aQ aN.sl ms c.SM
section
variable {w X Y:J}{h:HC}{es:u EvC}{ds:u aM}{ms:u aN}{c:Cont}
theorem St.below (s:St w X h es ds ms c)(hb:Below X.1.size X Y):St w Y h es ds ms c:=by
 obtain⟨cs,fz,ht⟩:=s.tg;obtain⟨cs',Wo,ht'⟩:=s.t2;exact⟨s.b.trans (hb.mono s.b.size),s.bx.keep hb,⟨cs,fz,(hb.block _ s.bx.2.2).trans ht⟩,s.b2.keep hb,⟨cs',Wo,(hb.block _ s.b2.2.2).trans ht'⟩,s.e.below hb,s.d.below hb,s.m.below hb,s.q.below hb,λi hi=>(s.n i hi).below hb,s.be,s.bd,s.bm,s.se.below hb,s.sd.below hb,s.sm.below hb⟩
theorem St.drew (s:St w X h es ds ms c):St w X.drew h es ds ms c:=s.below (Below.refl _ _).drew
theorem sameBox (_s:St w X h es ds ms c)(j:F)(v:I):Same (λi=>i≠w.1.size) X (X.setCell ⟨w.1.size,j,H⟩ v):=(Same.refl' X).setTail (λhn=>hn rfl)
theorem rY (s:St w X h es ds ms c)(j:F)(v:I):Below w.1.size w (X.setCell ⟨w.1.size,j,H⟩ v):=(sameBox s j v).below s.b (λi hi=>by omega) s.b.size
theorem St.anH (s:St w X h es ds ms c)(sl:Sl)(es':u EvC){E' SE'}(h1:mQ w X 47 9 dO sl es')(h2:es'.map EvC.base=E')(h3:uf w X 117 3 bS EvC.sl es' SE'):
  St w (X.setCell ⟨w.1.size,4,H⟩ sl.v) {h with e:=sl} es' ds ms {c with E:=E',SE:=SE'}:=by
 obtain⟨cs,fz,ht⟩:=s.tg;have hs:=sameBox s 4 sl.v;exact⟨rY s _ _,s.bx.aZ 4 au _,⟨_,_,bT ht _⟩,hs.bx s.b2 ah,⟨_,_,(hs.block _ ah s.b2.2.2).trans s.t2.choose_spec.choose_spec⟩,h1.same ht aj hs,s.d.same ht aj hs,s.m.same ht aj hs,s.q.same ht aj hs,λi hi=>(show mQ w X 9 1 encStr (({h with e:=sl}:HC).nm i) (c.nl i) from(match i,hi with|0,_=>s.n 0 aj|1,_=>s.n 1 aj|2,_=>s.n 2 aj|3,_=>s.n 3 aj)).same ht aj hs,h2,s.bd,s.bm,h3.same ht aj hs,s.sd.same ht aj hs,s.sm.same ht aj hs⟩
theorem St.Za (s:St w X h es ds ms c){g i:F}{x:EvC}{L}(ho:Own X w.1.size 47 9 dO h.e.v es)(ha:h.e.a=C ⟨g,0,H⟩)(hx:es[i]?=C x)(hL:c.SE[i]?=C L)(sl:Sl)(hy:mQ w X 117 3 bS sl L):
  St w (X.setCell ⟨g,i*9+8,H⟩ sl.v) h (es.set i (x.wi sl)) ds ms c/\Own (X.setCell ⟨g,i*9+8,H⟩ sl.v) w.1.size 47 9 dO h.e.v (es.set i (x.wi sl)):=by
 have xK:h.e.v.ownBlock=C g:=by simp only[Sl.v,ha];rfl
 obtain⟨cs,fz,ht⟩:=ho.tag xK;have hlt:=ho.lt g xK;have hs:Same (λi=>i≠g) X (X.setCell ⟨g,i*9+8,H⟩ sl.v):=(Same.refl' X).setTail (λhn=>hn rfl);have ho':Own (X.setCell ⟨g,i*9+8,H⟩ sl.v) w.1.size 47 9 dO h.e.v (es.set i (x.wi sl)):=by
  have e:h.e.v= N (C ⟨g,0,H⟩) h.e.n h.e.c:=by simp only[Sl.v,ha]
  rw[e] at ho ⊢;exact ho.put hx aj rfl
 obtain⟨cs0,fz0,ht0⟩:=s.tg;have hg:w.1.size≠g:=λe=>by
  rw[e,ht] at ht0
  cases ht0
 obtain⟨cs2,fz2,ht2⟩:=s.t2;have hg2:w.1.size+1≠g:=λe=>by
  rw[e,ht] at ht2
  cases ht2
 exact⟨⟨hs.below s.b (λi hi=>by omega) s.b.size,hs.bx s.bx hg,⟨_,_,(hs.block _ hg s.bx.2.2).trans ht0⟩,hs.bx s.b2 hg2,⟨_,_,(hs.block _ hg2 s.b2.2.2).trans ht2⟩,⟨by rw[Ee];exact s.e.1,.inr ho'⟩,s.d.same ht aj hs,s.m.same ht aj hs,s.q.same ht aj hs,λj hj=>(s.n j hj).same ht aj hs,(BA (f:=EvC.base) (y:=x.wi sl) hx rfl).trans s.be,s.bd,s.bm,(s.se.same ht aj hs).set hL (hy.same ht aj hs),s.sd.same ht aj hs,s.sm.same ht aj hs⟩,ho'⟩
theorem St.anI (s:St w X h es ds ms c)(sl:Sl)(ds':u aM){D' SD'}(h1:mQ w X 74 2 eZ sl ds')(h2:ds'.map aM.base=D')(h3:uf w X 3 1 aQ aM.sl ds' SD'):
  St w (X.setCell ⟨w.1.size,5,H⟩ sl.v) {h with d:=sl} es ds' ms {c with D:=D',SD:=SD'}:=by
 obtain⟨cs,fz,ht⟩:=s.tg;have hs:=sameBox s 5 sl.v;exact⟨rY s _ _,s.bx.aZ 5 au _,⟨_,_,bT ht _⟩,hs.bx s.b2 ah,⟨_,_,(hs.block _ ah s.b2.2.2).trans s.t2.choose_spec.choose_spec⟩,s.e.same ht aj hs,h1.same ht aj hs,s.m.same ht aj hs,s.q.same ht aj hs,λi hi=>(show mQ w X 9 1 encStr (({h with d:=sl}:HC).nm i) (c.nl i) from(match i,hi with|0,_=>s.n 0 aj|1,_=>s.n 1 aj|2,_=>s.n 2 aj|3,_=>s.n 3 aj)).same ht aj hs,s.be,h2,s.bm,s.se.same ht aj hs,h3.same ht aj hs,s.sm.same ht aj hs⟩
theorem St.Zb (s:St w X h es ds ms c){g i:F}{x:aM}{L}(ho:Own X w.1.size 74 2 eZ h.d.v ds)(ha:h.d.a=C ⟨g,0,H⟩)(hx:ds[i]?=C x)(hL:c.SD[i]?=C L)(sl:Sl)(hy:mQ w X 3 1 aQ sl L):
  St w (X.setCell ⟨g,i*2+1,H⟩ sl.v) h es (ds.set i (x.wi sl)) ms c/\Own (X.setCell ⟨g,i*2+1,H⟩ sl.v) w.1.size 74 2 eZ h.d.v (ds.set i (x.wi sl)):=by
 have xK:h.d.v.ownBlock=C g:=by simp only[Sl.v,ha];rfl
 obtain⟨cs,fz,ht⟩:=ho.tag xK;have hlt:=ho.lt g xK;have hs:Same (λi=>i≠g) X (X.setCell ⟨g,i*2+1,H⟩ sl.v):=(Same.refl' X).setTail (λhn=>hn rfl);have ho':Own (X.setCell ⟨g,i*2+1,H⟩ sl.v) w.1.size 74 2 eZ h.d.v (ds.set i (x.wi sl)):=by
  have e:h.d.v= N (C ⟨g,0,H⟩) h.d.n h.d.c:=by simp only[Sl.v,ha]
  rw[e] at ho ⊢;exact ho.put hx aj rfl
 obtain⟨cs0,fz0,ht0⟩:=s.tg;have hg:w.1.size≠g:=λe=>by
  rw[e,ht] at ht0
  cases ht0
 obtain⟨cs2,fz2,ht2⟩:=s.t2;have hg2:w.1.size+1≠g:=λe=>by
  rw[e,ht] at ht2
  cases ht2
 exact⟨⟨hs.below s.b (λi hi=>by omega) s.b.size,hs.bx s.bx hg,⟨_,_,(hs.block _ hg s.bx.2.2).trans ht0⟩,hs.bx s.b2 hg2,⟨_,_,(hs.block _ hg2 s.b2.2.2).trans ht2⟩,s.e.same ht aj hs,⟨by rw[Ee];exact s.d.1,.inr ho'⟩,s.m.same ht aj hs,s.q.same ht aj hs,λj hj=>(s.n j hj).same ht aj hs,s.be,(BA (f:=aM.base) (y:=x.wi sl) hx rfl).trans s.bd,s.bm,s.se.same ht aj hs,(s.sd.same ht aj hs).set hL (hy.same ht aj hs),s.sm.same ht aj hs⟩,ho'⟩
theorem St.anJ (s:St w X h es ds ms c)(sl:Sl)(ms':u aN){M' SM'}(h1:mQ w X 77 4 eP sl ms')(h2:ms'.map aN.base=M')(h3:uf w X 3 1 aQ aN.sl ms' SM'):
  St w (X.setCell ⟨w.1.size,6,H⟩ sl.v) {h with m:=sl} es ds ms' {c with M:=M',SM:=SM'}:=by
 obtain⟨cs,fz,ht⟩:=s.tg;have hs:=sameBox s 6 sl.v;exact⟨rY s _ _,s.bx.aZ 6 au _,⟨_,_,bT ht _⟩,hs.bx s.b2 ah,⟨_,_,(hs.block _ ah s.b2.2.2).trans s.t2.choose_spec.choose_spec⟩,s.e.same ht aj hs,s.d.same ht aj hs,h1.same ht aj hs,s.q.same ht aj hs,λi hi=>(show mQ w X 9 1 encStr (({h with m:=sl}:HC).nm i) (c.nl i) from(match i,hi with|0,_=>s.n 0 aj|1,_=>s.n 1 aj|2,_=>s.n 2 aj|3,_=>s.n 3 aj)).same ht aj hs,s.be,s.bd,h2,s.se.same ht aj hs,s.sd.same ht aj hs,h3.same ht aj hs⟩
theorem St.Zc (s:St w X h es ds ms c){g i:F}{x:aN}{L}(ho:Own X w.1.size 77 4 eP h.m.v ms)(ha:h.m.a=C ⟨g,0,H⟩)(hx:ms[i]?=C x)(hL:c.SM[i]?=C L)(sl:Sl)(hy:mQ w X 3 1 aQ sl L):
  St w (X.setCell ⟨g,i*4+3,H⟩ sl.v) h es ds (ms.set i (x.wi sl)) c/\Own (X.setCell ⟨g,i*4+3,H⟩ sl.v) w.1.size 77 4 eP h.m.v (ms.set i (x.wi sl)):=by
 have xK:h.m.v.ownBlock=C g:=by simp only[Sl.v,ha];rfl
 obtain⟨cs,fz,ht⟩:=ho.tag xK;have hlt:=ho.lt g xK;have hs:Same (λi=>i≠g) X (X.setCell ⟨g,i*4+3,H⟩ sl.v):=(Same.refl' X).setTail (λhn=>hn rfl);have ho':Own (X.setCell ⟨g,i*4+3,H⟩ sl.v) w.1.size 77 4 eP h.m.v (ms.set i (x.wi sl)):=by
  have e:h.m.v= N (C ⟨g,0,H⟩) h.m.n h.m.c:=by simp only[Sl.v,ha]
  rw[e] at ho ⊢;exact ho.put hx aj rfl
 obtain⟨cs0,fz0,ht0⟩:=s.tg;have hg:w.1.size≠g:=λe=>by
  rw[e,ht] at ht0
  cases ht0
 obtain⟨cs2,fz2,ht2⟩:=s.t2;have hg2:w.1.size+1≠g:=λe=>by
  rw[e,ht] at ht2
  cases ht2
 exact⟨⟨hs.below s.b (λi hi=>by omega) s.b.size,hs.bx s.bx hg,⟨_,_,(hs.block _ hg s.bx.2.2).trans ht0⟩,hs.bx s.b2 hg2,⟨_,_,(hs.block _ hg2 s.b2.2.2).trans ht2⟩,s.e.same ht aj hs,s.d.same ht aj hs,⟨by rw[Ee];exact s.m.1,.inr ho'⟩,s.q.same ht aj hs,λj hj=>(s.n j hj).same ht aj hs,s.be,s.bd,(BA (f:=aN.base) (y:=x.wi sl) hx rfl).trans s.bm,s.se.same ht aj hs,s.sd.same ht aj hs,(s.sm.same ht aj hs).set hL (hy.same ht aj hs)⟩,ho'⟩
theorem St.anK (s:St w X h es ds ms c)(sl:Sl){Q'}(h1:mQ w X 79 2 fQ sl Q'):
  St w (X.setCell ⟨w.1.size,7,H⟩ sl.v) {h with w:=sl} es ds ms {c with Q:=Q'}:=by
 obtain⟨cs,fz,ht⟩:=s.tg;have hs:=sameBox s 7 sl.v;exact⟨rY s _ _,s.bx.aZ 7 au _,⟨_,_,bT ht _⟩,hs.bx s.b2 ah,⟨_,_,(hs.block _ ah s.b2.2.2).trans s.t2.choose_spec.choose_spec⟩,s.e.same ht aj hs,s.d.same ht aj hs,s.m.same ht aj hs,h1.same ht aj hs,λi hi=>(show mQ w X 9 1 encStr (({h with w:=sl}:HC).nm i) (c.nl i) from(match i,hi with|0,_=>s.n 0 aj|1,_=>s.n 1 aj|2,_=>s.n 2 aj|3,_=>s.n 3 aj)).same ht aj hs,s.be,s.bd,s.bm,s.se.same ht aj hs,s.sd.same ht aj hs,s.sm.same ht aj hs⟩
theorem St.ajr (s:St w X h es ds ms c)(sl:Sl)(h1:mQ w X 9 1 encStr sl (c.nl 0)):
  St w (X.setCell ⟨w.1.size,0,H⟩ sl.v) {h with t:=sl} es ds ms c:=by
 obtain⟨cs,fz,ht⟩:=s.tg;have hs:=sameBox s 0 sl.v;exact⟨rY s _ _,s.bx.aZ 0 au _,⟨_,_,bT ht _⟩,hs.bx s.b2 ah,⟨_,_,(hs.block _ ah s.b2.2.2).trans s.t2.choose_spec.choose_spec⟩,s.e.same ht aj hs,s.d.same ht aj hs,s.m.same ht aj hs,s.q.same ht aj hs,λi hi=>(show mQ w X 9 1 encStr (({h with t:=sl}:HC).nm i) (c.nl i) from(match i,hi with|0,_=>h1|1,_=>s.n 1 aj|2,_=>s.n 2 aj|3,_=>s.n 3 aj)).same ht aj hs,s.be,s.bd,s.bm,s.se.same ht aj hs,s.sd.same ht aj hs,s.sm.same ht aj hs⟩
theorem St.ajs (s:St w X h es ds ms c)(sl:Sl)(h1:mQ w X 9 1 encStr sl (c.nl 1)):
  St w (X.setCell ⟨w.1.size,1,H⟩ sl.v) {h with s:=sl} es ds ms c:=by
 obtain⟨cs,fz,ht⟩:=s.tg;have hs:=sameBox s 1 sl.v;exact⟨rY s _ _,s.bx.aZ 1 au _,⟨_,_,bT ht _⟩,hs.bx s.b2 ah,⟨_,_,(hs.block _ ah s.b2.2.2).trans s.t2.choose_spec.choose_spec⟩,s.e.same ht aj hs,s.d.same ht aj hs,s.m.same ht aj hs,s.q.same ht aj hs,λi hi=>(show mQ w X 9 1 encStr (({h with s:=sl}:HC).nm i) (c.nl i) from(match i,hi with|0,_=>s.n 0 aj|1,_=>h1|2,_=>s.n 2 aj|3,_=>s.n 3 aj)).same ht aj hs,s.be,s.bd,s.bm,s.se.same ht aj hs,s.sd.same ht aj hs,s.sm.same ht aj hs⟩
theorem St.ajt (s:St w X h es ds ms c)(sl:Sl)(h1:mQ w X 9 1 encStr sl (c.nl 2)):
  St w (X.setCell ⟨w.1.size,2,H⟩ sl.v) {h with o:=sl} es ds ms c:=by
 obtain⟨cs,fz,ht⟩:=s.tg;have hs:=sameBox s 2 sl.v;exact⟨rY s _ _,s.bx.aZ 2 au _,⟨_,_,bT ht _⟩,hs.bx s.b2 ah,⟨_,_,(hs.block _ ah s.b2.2.2).trans s.t2.choose_spec.choose_spec⟩,s.e.same ht aj hs,s.d.same ht aj hs,s.m.same ht aj hs,s.q.same ht aj hs,λi hi=>(show mQ w X 9 1 encStr (({h with o:=sl}:HC).nm i) (c.nl i) from(match i,hi with|0,_=>s.n 0 aj|1,_=>s.n 1 aj|2,_=>h1|3,_=>s.n 3 aj)).same ht aj hs,s.be,s.bd,s.bm,s.se.same ht aj hs,s.sd.same ht aj hs,s.sm.same ht aj hs⟩
theorem St.aju (s:St w X h es ds ms c)(sl:Sl)(h1:mQ w X 9 1 encStr sl (c.nl 3)):
  St w (X.setCell ⟨w.1.size,3,H⟩ sl.v) {h with p:=sl} es ds ms c:=by
 obtain⟨cs,fz,ht⟩:=s.tg;have hs:=sameBox s 3 sl.v;exact⟨rY s _ _,s.bx.aZ 3 au _,⟨_,_,bT ht _⟩,hs.bx s.b2 ah,⟨_,_,(hs.block _ ah s.b2.2.2).trans s.t2.choose_spec.choose_spec⟩,s.e.same ht aj hs,s.d.same ht aj hs,s.m.same ht aj hs,s.q.same ht aj hs,λi hi=>(show mQ w X 9 1 encStr (({h with p:=sl}:HC).nm i) (c.nl i) from(match i,hi with|0,_=>s.n 0 aj|1,_=>s.n 1 aj|2,_=>s.n 2 aj|3,_=>h1)).same ht aj hs,s.be,s.bd,s.bm,s.se.same ht aj hs,s.sd.same ht aj hs,s.sm.same ht aj hs⟩
end
theorem Dz {β:Type}{X:J}{k:F}{enc:β->u I}[hc:Cells enc k](hinj:∀x y,enc x=enc y->x=y){a:Option Addr}{n c:F}{L:u β}(h:Row X k enc a n c L):Classical.epsilon (λL=>Row X k enc a n c L)=L:=
 Row.uniq (hc:=hc) hinj (Classical.epsilon_spec ⟨L,h⟩) h
theorem Km (x y:Sn)(h:bS x=bS y):x=y:=by
 obtain⟨a,b,c⟩:=x;obtain⟨d,e,f⟩:=y;simp[bS] at h;simp[h]
theorem xL (x y:V)(h:aQ x=aQ y):x=y:=by simpa[aQ] using h
theorem uf.eps {α β:Type}{w X:J}{T:TypeId}{k:F}{enc:β->u I}[hc:Cells enc k]{sl:α->Sl}{xs:u α}{Ls:u (u β)}(hinj:∀x y,enc x=enc y->x=y)(h:uf w X T k enc sl xs Ls)(hb:Below w.1.size w X):
  (∀x∈xs,Row X k enc (sl x).a (sl x).n (sl x).c (Classical.epsilon (λL=>Row X k enc (sl x).a (sl x).n (sl x).c L)))/\xs.map (λx=>Classical.epsilon (λL=>Row X k enc (sl x).a (sl x).n (sl x).c L))=Ls:=by
 constructor
 .intro x hx
  obtain⟨i,hi⟩:=u6.1 hx;obtain⟨L,_,hr⟩:=h.rows (hc:=hc) hb i x hi;rw[Dz (hc:=hc) hinj hr];exact hr
 .apply Eb
  intro i;rw[lZ]
  cases hx:xs[i]? with
  |none=>rw[Option.map_none,wP (by rw[<-h.1];exact List.getElem?_eq_none_iff.1 hx)]
  |some x=>
   obtain⟨L,hL,hr⟩:=h.rows (hc:=hc) hb i x hx;rw[Option.map_some,Dz (hc:=hc) hinj hr,hL]
def anL (w:J)(c:Cont)(e:Ending)(X:J):Prop:=
 ∃h es ds ms,∃scan:EvC->u Sn,∃dn:aM->u V,∃mn:aN->u V,e= .returned (gH h)/\Deep X h es ds ms c.Q scan dn mn/\(∀i,i<4->Row X 1 encStr (h.nm i).a (h.nm i).n (h.nm i).c (c.nl i))/\
  es.map EvC.base=c.E/\ds.map aM.base=c.D/\ms.map aN.base=c.M/\es.map scan=c.SE/\ds.map dn=c.SD/\ms.map mn=c.SM/\Below w.1.size w X
section
variable {w X Y:J}{h:HC}{es:u EvC}{ds:u aM}{ms:u aN}{c:Cont}
theorem St.cast {c':Cont}(s:St w X h es ds ms c)(e:c=c'):St w X h es ds ms c':=e▸s
end
theorem St.ret {w X:J}{h:HC}{es:u EvC}{ds:u aM}{ms:u aN}{c:Cont}(s:St w X h es ds ms c):anL w c (.returned (gH h)) X:=by
 obtain⟨h1,h2⟩:=s.se.eps (hc:=oJ) Km s.b;obtain⟨h3,h4⟩:=s.sd.eps (hc:=ig) xL s.b;obtain⟨h5,h6⟩:=s.sm.eps (hc:=ig) xL s.b;exact⟨h,es,ds,ms,_,_,_,rfl,⟨s.e.row (hc:=sP) s.b,s.d.row (hc:=uJ) s.b,s.m.row (hc:=rJ) s.b,s.q.row (hc:=wC) s.b,h1,h3,h5⟩,λi hi=>(s.n i hi).row (hc:=jQ) s.b,s.be,s.bd,s.bm,h2,h4,h6,s.b⟩
theorem uf.start {α β:Type}{w X:J}{T:TypeId}{k:F}{enc:β->u I}{sl:α->Sl}{xs:u α}(f:α->u β)(h:∀x∈xs,(f x).length<=2000000/\Row w k enc (sl x).a (sl x).n (sl x).c (f x)):uf w X T k enc sl xs (xs.map f):=by
 refine⟨by rw[bH],λi x L hx hL=>?_⟩;rw[lZ,hx] at hL;injection hL with hL;subst hL;have:=h x (bQ hx);exact⟨this.1,.inl this.2⟩
def Ni (nl:F->u Bs)(es:u EvC)(ds:u aM)(ms:u aN)(qs:u Wa)(scan:EvC->u Sn)(dn:aM->u V)(mn:aN->u V):Prop:=
 es.length<=2000000/\ds.length<=2000000/\ms.length<=2000000/\qs.length<=2000000/\(∀i,i<4->(nl i).length<=2000000)/\(∀x∈es,(scan x).length<=2000000)/\(∀x∈ds,(dn x).length<=2000000)/\(∀x∈ms,(mn x).length<=2000000)
def zU (m:F)(nl:F->u Bs)(es:u EvC)(ds:u aM)(ms:u aN)(qs:u Wa)(scan:EvC->u Sn)(dn:aM->u V)(mn:aN->u V):Cont:=
 ⟨nl,(es.take m).map EvC.base,(es.take m).map scan,ds.map aM.base,ds.map dn,ms.map aN.base,ms.map mn,qs⟩
theorem St.start {h:HC}{nl:F->u Bs}{es:u EvC}{ds:u aM}{ms:u aN}{qs:u Wa}{scan:EvC->u Sn}{dn:aM->u V}{mn:aN->u V}{w:J}(hn:∀i,i<4->Row w 1 encStr (h.nm i).a (h.nm i).n (h.nm i).c (nl i))
  (hd:Deep w h es ds ms qs scan dn mn) (hB:Ni nl es ds ms qs scan dn mn) (m:F) (hm:h.e.n<=m):
  St w ((w.alloc (G (aH h) 36)).alloc (G (Array.replicate 8 (N H 0 0)) 36)) h es ds ms (zU m nl es ds ms qs scan dn mn):=by
 obtain⟨b1,b2,b3,b4,b5,b6,b7,b8⟩:=hB;have hl:=hd.1.len;have ht:es.take m=es:=dR ah;refine⟨aB (aB (Below.refl w.1.size w) _) _,Bx.alloc (Bx.new w (aH h) 36) _,⟨_,_,ajo _ (eH w _)⟩,Bx.new1 au,⟨_,_,ajn au⟩,⟨b1,.inl hd.1⟩,⟨b2,.inl hd.2.1⟩,⟨b3,.inl hd.2.2.1⟩,⟨b4,.inl hd.2.2.2.1⟩,λi hi=>⟨b5 i hi,.inl (hn i hi)⟩,?_,rfl,rfl,?_,uf.start dn (λx hx=>⟨b7 x hx,hd.2.2.2.2.2.1 x hx⟩),uf.start mn (λx hx=>⟨b8 x hx,hd.2.2.2.2.2.2 x hx⟩)⟩
 .simp only[zU,ht]
 .simp only[zU,ht]
  exact uf.start scan (λx hx=>⟨b6 x hx,hd.2.2.2.2.1 x hx⟩)
theorem Own.open_ {α:Type}{enc:α->u I}{k:F}[hc:Cells enc k]{X:J}{B:F}{E:TypeId}{a:Option Addr}{n c:F}{xs:u α}(h:Own X B E k enc (N a n c) xs)(hn:0<n):
  ∃g cur,a=C ⟨g,0,H⟩/\Bx X g cur/\xs.length=n/\n<=c/\B<=g/\(∀i x j v,xs[i]?=C x->(enc x)[j]?=C v->cur[i*k+j]?=C v):=by
 obtain⟨h1,h2⟩:=h;rcases h2 with⟨he,h0⟩|⟨g,cap,cur,he,hB,hh,hn',_,hs,ht⟩
 .injection he with _ e2 _
  omega
 .injection he with e1 e2 e3
  subst e1 e2 e3;refine⟨g,cur,rfl,⟨λi=>?_,λi=>?_,(dI.1 hh).1⟩,rfl,hn',hB,λi x j v hx hv=>?_⟩
  .simp[World.cell?,hh]
  .simp[World.frozen?,hh]
  .have hf:=flat_get (hc:=hc) xs i x j v hx hv
   have hlt:i*k+j<xs.length*k:=by rw[<-h1];exact(bG.1 hf).1
   rw[<-ht,AB,ay hlt] at hf
   simpa using hf
def Cont.put (c:Cont)(i:F)(s:Bs):Cont:={c with nl:=λj=>if j=i then cZ (c.nl i) s else c.nl j}
def Cont.no (c:Cont)(i:F)(s:Bs):V:=(nK (c.nl i) s:V)
def Cont.bR (c:Cont)(v:To):Cont × kZ:=if v.k=0 then(c,⟨0,0⟩) else(c.put 0 v.name,⟨c.no 0 v.name,v.k⟩)
def Cont.ts (c:Cont):u Bs->Cont × u V
 |[]=>(c,[])
 |s::r=>(((c.put 0 s).ts r).1,c.no 0 s::((c.put 0 s).ts r).2)
def Cont.sc (c:Cont):u (Bs × To)->Cont × u Sn
 |[]=>(c,[])
 |p::r=>((((c.put 2 p.1).bR p.2).1.sc r).1,⟨c.no 2 p.1,((c.put 2 p.1).bR p.2).2⟩::(((c.put 2 p.1).bR p.2).1.sc r).2)
@[reducible] def Cz:EvC:=⟨0,0,0,0,0,⟨0,0⟩,0,H,0,0⟩
def Cont.ev (c:Cont)(e:EvC)(s:u Sn):Cont:={c with E:=c.E++[e],SE:=c.SE++[s]}
def fK (E:u EvC)(t x:V):F:=E.countP (λe=>e.kind==2 && (e.t==t && e.obj==x))
def aO (c:Cont)(l:aP):Cont:=
 let n0:=l.names.getD 0 []
 let n1:=l.names.getD 1 []
 if l.kind=1 then((c.put 0 n0).put 1 n1).ev {Cz with kind:=1,t:=c.no 0 n0,dG:=(c.put 0 n0).no 1 n1,lvl:=l.lvl} []
 else if l.kind=2 then((c.put 0 n0).put 2 n1).ev {Cz with kind:=2,t:=c.no 0 n0,obj:=(c.put 0 n0).no 2 n1,v:=⟨c.no 0 n0,(fK c.E (c.no 0 n0) ((c.put 0 n0).no 2 n1):V)+1⟩} []
 else if l.kind=3 then(((c.put 0 n0).put 2 n1).bR (l.aF.getD 0 ⟨[],0⟩)).1.ev {Cz with kind:=3,t:=c.no 0 n0,obj:=(c.put 0 n0).no 2 n1,v:=(((c.put 0 n0).put 2 n1).bR (l.aF.getD 0 ⟨[],0⟩)).2} []
 else if l.kind=4 then(((c.put 0 n0).put 3 n1).sc ((l.names.drop 2).zip l.aF)).1.ev {Cz with kind:=4,t:=c.no 0 n0,pred:=(c.put 0 n0).no 3 n1} (((c.put 0 n0).put 3 n1).sc ((l.names.drop 2).zip l.aF)).2
 else if l.kind=5\/l.kind=6 then(c.put 0 n0).ev {Cz with kind:=l.kind,t:=c.no 0 n0} []
 else if l.kind=7 then {((c.put 2 n0).ts (l.names.drop 1)).1 with D:=c.D++[⟨c.no 2 n0,H,0,0⟩],SD:=c.SD++[((c.put 2 n0).ts (l.names.drop 1)).2]}
 else if l.kind=8 then {(((c.put 3 n0).put 2 n1).ts (l.names.drop 2)).1 with M:=c.M++[⟨c.no 3 n0,(c.put 3 n0).no 2 n1,l.first,H,0,0⟩],SM:=c.SM++[(((c.put 3 n0).put 2 n1).ts (l.names.drop 2)).2]}
 else if l.kind=9 then {c.put 1 n0 with Q:=c.Q++[⟨c.no 1 n0,l.bits⟩]}
 else c
def aI (c:Cont):Prop:=(∀i,i<4->(c.nl i).length<=jB i)/\c.E.length<=3000/\c.D.length<=3000/\c.M.length<=3000/\c.Q.length<=3000/\∀e∈c.E,e.kind=2->e.v.k<=999
structure Gr (c z:Cont):Prop where
 n:∀i,c.nl i<+:z.nl i
 e:c.E<+:z.E
 d:c.D<+:z.D
 m:c.M<+:z.M
 q:c.Q<+:z.Q
theorem Gr.refl (c:Cont):Gr c c:=⟨λ_=>iK _,iK _,iK _,iK _,iK _⟩
theorem Gr.trans {a b c:Cont}(h:Gr a b)(k:Gr b c):Gr a c:=⟨λi=>(h.n i).trans (k.n i),h.e.trans k.e,h.d.trans k.d,h.m.trans k.m,h.q.trans k.q⟩
theorem Gr.fits {c d:Cont}(h:Gr c d)(k:aI d):aI c:=
 ⟨λi hi=>dL (h.n i).length_le (k.1 i hi),dL h.e.length_le k.2.1,dL h.d.length_le k.2.2.1,dL h.m.length_le k.2.2.2.1,dL h.q.length_le k.2.2.2.2.1,λe he=>k.2.2.2.2.2 e (h.e.subset he)⟩
theorem Gr.put (c:Cont)(i:F)(s:Bs):Gr c (c.put i s):=
 ⟨λj=>by
  show c.nl j<+:(if j=i then cZ (c.nl i) s else c.nl j)
  split
  .rename_i h;subst h;exact Jl _ _
  .exact iK _,iK _,iK _,iK _,iK _⟩
theorem Gr.bR (c:Cont)(v:To):Gr c (c.bR v).1:=by
 unfold Cont.bR
 split
 .exact Gr.refl c
 .exact Gr.put c 0 v.name
theorem Gr.ts:∀(l:u Bs)(c:Cont),Gr c (c.ts l).1
 |[],c=>Gr.refl c
 |s::r,c=>(Gr.put c 0 s).trans (Gr.ts r _)
theorem Gr.sc:∀(l:u (Bs × To))(c:Cont),Gr c (c.sc l).1
 |[],c=>Gr.refl c
 |p::r,c=>((Gr.put c 2 p.1).trans (Gr.bR _ p.2)).trans (Gr.sc r _)
theorem Gr.ev (c:Cont)(e:EvC)(s:u Sn):Gr c (c.ev e s):=⟨λ_=>iK _,fP _ _,iK _,iK _,iK _⟩
structure Nm (c z:Cont):Prop where
 e:z.E=c.E
 se:z.SE=c.SE
 d:z.D=c.D
 sd:z.SD=c.SD
 m:z.M=c.M
 sm:z.SM=c.SM
 q:z.Q=c.Q
theorem Nm.refl (c:Cont):Nm c c:=⟨rfl,rfl,rfl,rfl,rfl,rfl,rfl⟩
theorem Nm.trans {a b c:Cont}(h:Nm a b)(k:Nm b c):Nm a c:=⟨k.e.trans h.e,k.se.trans h.se,k.d.trans h.d,k.sd.trans h.sd,k.m.trans h.m,k.sm.trans h.sm,k.q.trans h.q⟩
theorem Nm.put (c:Cont)(i:F)(s:Bs):Nm c (c.put i s):=⟨rfl,rfl,rfl,rfl,rfl,rfl,rfl⟩
theorem Nm.bR (c:Cont)(v:To):Nm c (c.bR v).1:=by
 unfold Cont.bR
 split
 .exact Nm.refl c
 .exact Nm.put c 0 v.name
theorem Nm.ts:∀(l:u Bs)(c:Cont),Nm c (c.ts l).1
 |[],c=>Nm.refl c
 |s::r,c=>(Nm.put c 0 s).trans (Nm.ts r _)
theorem Nm.sc:∀(l:u (Bs × To))(c:Cont),Nm c (c.sc l).1
 |[],c=>Nm.refl c
 |p::r,c=>((Nm.put c 2 p.1).trans (Nm.bR _ p.2)).trans (Nm.sc r _)
theorem Gr.add (c:Cont)(l:aP):Gr c (aO c l):=by
 unfold aO;simp only[]
 split
 .exact((Gr.put c 0 _).trans (Gr.put _ 1 _)).trans (Gr.ev _ _ _)
 .split
  .exact((Gr.put c 0 _).trans (Gr.put _ 2 _)).trans (Gr.ev _ _ _)
  .split
   .exact(((Gr.put c 0 _).trans (Gr.put _ 2 _)).trans (Gr.bR _ _)).trans (Gr.ev _ _ _)
   .split
    .exact(((Gr.put c 0 _).trans (Gr.put _ 3 _)).trans (Gr.sc _ _)).trans (Gr.ev _ _ _)
    .split
     .exact(Gr.put c 0 _).trans (Gr.ev _ _ _)
     .split
      .have h:=(Gr.put c 2 (l.names.getD 0 [])).trans (Gr.ts (l.names.drop 1) _)
       exact⟨h.n,h.e,fP _ _,h.m,h.q⟩
      .split
       .have h:=((Gr.put c 3 (l.names.getD 0 [])).trans (Gr.put _ 2 (l.names.getD 1 []))).trans (Gr.ts (l.names.drop 2) _)
        exact⟨h.n,h.e,h.d,fP _ _,h.q⟩
       .split
        .have h:=Gr.put c 1 (l.names.getD 0 [])
         exact⟨h.n,h.e,h.d,h.m,fP _ _⟩
        .exact Gr.refl c
def jh:Cont:=⟨λ_=>[],[],[],[],[],[],[],[]⟩
theorem afV (c:Cont)(i:F)(s:Bs):(c.put i s).nl=nQ c.nl i s:=rfl
theorem Hr:∀(l:u Bs)(c:Cont),(c.ts l).1.nl=(iC c.nl l).1/\(c.ts l).2=(iC c.nl l).2
 |[],_=>⟨rfl,rfl⟩
 |s::r,c=>by
  obtain⟨h1,h2⟩:=Hr r (c.put 0 s);exact⟨h1,dF (c.no 0 s:: ·) h2⟩
def vE (w:J):Prop:=Lib.Utf8Tabs 5 6 w/\∀i,i<4->w.cell? ⟨3,i,H⟩=C (S U (jB i:V))
def OH (R k:F)(cs:Array I)(L:u Bs)(s:Bs)(w:J)(e:Ending)(w':J):Prop:=
 Same (λi=>i≠R) w w'/\
 if(s∈L\/L.length<300)/\(cZ L s).length<=jB k then e= .returned (S U (nK L s:V))/\∃a' c',Own w' w.1.size 9 1 encStr (N a' (cZ L s).length c') (cZ L s)/\Bx w' R (cs.setIfInBounds (8+k) (N a' (cZ L s).length c'))
 else e= .panicked kD
theorem ado (k:F)(hk:k<4)(R:F)(L:u Bs)(a:Option Addr)(c:F)(s:Bs)(w:J)(cs:Array I)(hB:Bx w R cs)(hC:cs[(8+k)]?=C (N a L.length c))(hr:Row w 1 encStr a L.length c L)(hL:Eu L)(hs:bD ⟨s.toArray⟩=true)(hG:vE w):
  Calls Tryz.prog 69 #[.pointer (C ⟨R,0,H⟩),S U (k:V),.string ⟨s.toArray⟩] w (OH R k cs L s w):=by
 have HK:=O hk;have hk4:(k:V)<4:=by omega
 have HP:=O (Wv L a c s w hr hL hs hG.1);have HG:=O hG;have iT:=O hB;have HC:=O hC;have hx:w.cell? ⟨R,8+k,H⟩=C (N a L.length c):=(hB.1 (8+k)).trans hC;clear hr hL hs hG hB hC hk;go_enter func69,ntmps69;go_wp2_with fail;refine HP.q.mono ?_;rintro e w1 ⟨hb1,he⟩;have HB1:=O hb1;by_cases hput:s∈L\/L.length<300
 .rw[ay hput] at he
  obtain⟨a',c',rfl,hown⟩:=he;have HO:=O hown;have Jm:=O hput;have hg:=bn hb1 rfl (HG.q.2 k HK.q);have hcG:((w1.alloc (G #[N a' (cZ L s).length c'] 58)).drew).cell? ⟨3,k,H⟩=C (S U (jB k:V)):=by
   have:=bn (aB (Below.refl w1.1.size w1) (G #[N a' (cZ L s).length c'] 58)) rfl hg;exact this
  have hcT:((w1.alloc (G #[N a' (cZ L s).length c'] 58)).drew).cell? ⟨w1.1.size,0,H⟩=C (N a' (cZ L s).length c'):=(Bx.new w1 #[N a' (cZ L s).length c'] 58).1 0;have HB2:=O (hb1.trans ((aB (Below.refl w1.1.size w1) (G #[N a' (cZ L s).length c'] 58)).mono hb1.size));have iA:=O (hown.below (aB (Below.refl w1.1.size w1) (G #[N a' (cZ L s).length c'] 58)) rfl);have hb2:Below w.1.size w _:=hb1.trans ((aB (Below.refl w1.1.size w1) (G #[N a' (cZ L s).length c'] 58)).mono hb1.size);have hcR:(w1.alloc (G #[N a' (cZ L s).length c'] 58)).cell? ⟨R,8+k,H⟩=C (N a L.length c):=((iT.q.keep hb2).1 (8+k)).trans HC.q;have IG:(w1.alloc (G #[N a' (cZ L s).length c'] 58)).frozen? ⟨R,8+k,H⟩=false:=(iT.q.keep hb2).2.1 (8+k);have anM:=O hb2;clear hb1 hown hput hg hb2;go_wp2_with fail;by_cases hfit:(cZ L s).length<=jB k
  .have HF:=O hfit
   have hdec:decide (((cZ L s).length:V)<=(jB k:V))=true:=bA ah;clear hfit;refine dm 99 [(0,0),(1,0),(2,0),(3,0),(4,0),(5,0),(6,0),(7,0),(8,0),(9,0),(10,0),(11,2)] (λ_=>True) (λW'=>W'.cell? ⟨w1.1.size,0,H⟩=C (N a' (cZ L s).length c')/\W'.cell? ⟨3,k,H⟩=C (S U (jB k:V))) (λ_ _=>False) av av (λch a1 w1 hd hr=>hr.elim) (trivial) (⟨hcT,hcG⟩) ?_;refine qC ?_;refine aD rfl rfl (λK hK=>?_);go_simp;refine(mK _ _).mono ?_;rintro e w2 ⟨rfl,rfl⟩;rw[ay (by simpa using hdec)];refine hK _ _ ⟨trivial,hcT,hcG⟩ ?_;clear hK K;refine jm ?_;go_wp2_with fail;refine aC 6 [(0,1),(1,1),(2,0),(3,1),(4,1),(5,1),(6,2)] (λ_=>True) (λW'=>W'.cell? ⟨w1.1.size,0,H⟩=C (N a' (cZ L s).length c')) av av (trivial) (hcT) ?_;refine qC ?_;refine bq rfl rfl rfl (λK hK=>?_);go_simp;go_simp;refine hK _ _ trivial ?_;clear hK K;refine aJ ?_;go_wp2_with fail;go_ret;refine⟨((Z HB2.q (λ_ _ h=>h)).setTail (λh=>h rfl)).qD.qD,?_⟩;rw[ay ⟨Jm.q,HF.q⟩];refine⟨rfl,a',c',?_,?_⟩
   .refine iA.q.same (A:=λi=>i≠R) (((Same.refl' _).setTail (λh=>h rfl)).qD.qD) (λg hg e=>?_)
    have h1:=(iA.q.lt g hg).1;have h2:=iT.q.2.2;omega
   .have h1:(8+k)<cs.size:=(dI.1 HC.q).1
    exact(((iT.q.keep anM.q).aZ (8+k) h1 _).drew).drew
  .have HF:=O hfit
   have hdec:decide (((cZ L s).length:V)<=(jB k:V))=false:=aX ah;have RES:Hid (∀ch w',(ch=kD/\w'=(w1.alloc (G #[N a' (cZ L s).length c'] 58)).drew)->OH R k cs L s w (.panicked ch) w'):=O (by
    rintro ch w' ⟨rfl,rfl⟩;refine⟨(Z HB2.q (λ_ _ h=>h)).qD,?_⟩;rw[ak (λh=>HF.q h.2)])
   clear hfit;refine dm 99 [(0,0),(1,0),(2,0),(3,0),(4,0),(5,0),(6,0),(7,0),(8,0),(9,0),(10,0),(11,2)] (λ_=>True) (λW'=>W'.cell? ⟨w1.1.size,0,H⟩=C (N a' (cZ L s).length c')/\W'.cell? ⟨3,k,H⟩=C (S U (jB k:V))) (λch w'=>ch=kD/\w'=(w1.alloc (G #[N a' (cZ L s).length c'] 58)).drew) av av (λch a1 w1 hd hr=>⟨hd,RES.q ch w1 hr⟩) (trivial) (⟨hcT,hcG⟩) ?_;refine qC ?_;refine aD rfl rfl (λK hK=>?_);go_simp;refine(mK _ _).mono ?_;rintro e w2 ⟨rfl,rfl⟩;rw[ak (by simpa using hdec)];exact⟨rfl,rfl,rfl⟩
 .rw[ak hput] at he
  subst he;have RES:Hid (∀ch w',(ch=kD/\w'=(w1.alloc (G #[N H 0 0] 58)).drew)->OH R k cs L s w (.panicked ch) w'):=O (by
   rintro ch w' ⟨rfl,rfl⟩;refine⟨(Z (hb1.trans ((aB (Below.refl w1.1.size w1) _).mono hb1.size)) (λ_ _ h=>h)).qD,?_⟩;rw[ak (λh=>hput h.1)])
  clear hb1 hput;go_wp2_with fail;refine dm 99 [(0,0),(1,0),(2,0),(3,0),(4,0),(5,0),(6,0),(7,0),(8,0),(9,0),(10,0),(11,2)] (λ_=>True) (λ_=>True) (λch w'=>ch=kD/\w'=(w1.alloc (G #[N H 0 0] 58)).drew) av av (λch a1 w1 hd hr=>⟨hd,RES.q ch w1 hr⟩) (trivial) (trivial) ?_;refine qC ?_;refine aD rfl rfl (λK hK=>?_);go_simp;refine(mK _ _).mono ?_;rintro e w2 ⟨rfl,rfl⟩;rw[ak au];exact⟨rfl,rfl,rfl⟩
structure CB (d:F)(P:(F->u Bs)->Prop)(w:J)(R:F)(cs:Array I)(nl:F->u Bs):Prop where
 b:Bx w R cs
 t:∀k,k<4->∃v,cs[8*d+k]?=C v/\Own w (R+1) 9 1 encStr v (nl k)
 n:P nl
abbrev afX (nl:F->u Bs):Prop:=∀k,k<4->Eu (nl k)/\(nl k).length<=jB k
abbrev Kn:=CB 1 afX
theorem vw (k:F):jB k<=300:=by unfold jB;split <;> omega
theorem adp {L:u Bs}{s:Bs}(h:Eu L)(hs:bD ⟨s.toArray⟩=true)(hl:(cZ L s).length<=300):Eu (cZ L s):=
 ⟨λx hx=>by
  unfold cZ at hx
  split at hx
  .exact h.w x hx
  .rcases bJ.1 hx with hx|hx
   .exact h.w x hx
   .rw[bF.1 hx];exact hs,Ev h.n,hl⟩
theorem Ga {R:F}{cs:Array I}{nl:F->u Bs}(k:F)(hk:k<4)(s:Bs)(w:J)(h:Kn w R cs nl)(hs:bD ⟨s.toArray⟩=true)(hG:vE w):
  Calls Tryz.prog 69 #[.pointer (C ⟨R,0,H⟩),S U (k:V),.string ⟨s.toArray⟩] w (λe w'=>Same (λi=>i≠R) w w'/\
   if(cZ (nl k) s).length<=jB k then e= .returned (S U (nK (nl k) s:V))/\∃cs',Kn w' R cs' (λj=>if j=k then cZ (nl k) s else nl j)/\cs'.size=cs.size/\∀j,j≠8+k->cs'[j]?=cs[j]?
   else e= .panicked kD):=by
 obtain⟨v,hv,hO⟩:=h.t k hk;obtain⟨hT,hn⟩:=h.n k hk;have hlim:=vw k;obtain⟨a,c,rfl,_,_⟩:=hO.shape;have hr:Row w 1 encStr a (nl k).length c (nl k):=hO.row ah;refine(ado k hk R (nl k) a c s w cs h.b hv hr hT hs hG).mono ?_;rintro e w' ⟨hS,he⟩;refine⟨hS,?_⟩;by_cases hf:(cZ (nl k) s).length<=jB k
 .have hin:s∈nl k\/(nl k).length<300:=by
   by_cases hm:s∈nl k
   .exact .inl hm
   .rw[nE hm,dH,kT] at hf
    exact .inr ah
  rw[ay ⟨hin,hf⟩] at he;obtain⟨rfl,a',c',OI,hB'⟩:=he;rw[ay hf];have OJ:=h.b.2.2;have hsz:8+k<cs.size:=(dI.1 hv).1;refine⟨rfl,_,⟨hB',λj hj=>?_,λj hj=>?_⟩,by simp,λj hj=>by rw[jO (λe=>hj e.symm)]⟩
  .by_cases hjk:j=k
   .subst hjk
    simp only[dw];exact⟨_,vQ hsz,OI.mono ah⟩
   .rw[ak hjk]
    obtain⟨v,hv,hO⟩:=h.t j hj;refine⟨v,(jO ah).trans hv,hO.same hS (λg hg e=>?_)⟩;have:=(hO.lt g hg).1;omega
  .by_cases hjk:j=k
   .subst hjk
    simp only[dw];exact⟨adp hT hs ah,hf⟩
   .rw[ak hjk];exact h.n j hj
 .rw[ak (λh=>hf h.2)] at he
  rw[ak hf];exact he
theorem CB.below {d:F}{P:(F->u Bs)->Prop}{w w':J}{R:F}{cs:Array I}{nl:F->u Bs}(h:CB d P w R cs nl)(hb:Below w.1.size w w'):CB d P w' R cs nl:=
 ⟨h.b.keep hb,λk hk=>(let⟨v,h1,h2⟩:=h.t k hk;⟨v,h1,h2.below hb rfl⟩),h.n⟩
theorem CB.apart {d:F}{P:(F->u Bs)->Prop}{X Y:J}{R g:F}{cs:Array I}{nl:F->u Bs}{T:TypeId}(h:CB d P X R cs nl)(hg:∃cs fz,X.1[g]?=C (G cs T fz))(hT:9≠T)(hR:R≠g)(hs:Same (λi=>i≠g) X Y):CB d P Y R cs nl:=
 ⟨hs.bx h.b hR,λk hk=>(let⟨v,h1,h2⟩:=h.t k hk;⟨v,h1,h2.aK hg hT hs⟩),h.n⟩
theorem vE.below {w w':J}(h:vE w)(hb:Below w.1.size w w'):vE w':=⟨Utf8Tabs_below h.1 hb,λi hi=>bn hb rfl (h.2 i hi)⟩
def nlV (nl:F->u Bs)(v:To):F->u Bs:=if v.k=0 then nl else λj=>if j=0 then cZ (nl 0) v.name else nl j
def abT (R:F)(cs:Array I)(nl:F->u Bs)(v:To)(w:J)(e:Ending)(w':J):Prop:=
 Same (λi=>i≠R) w w'/\
 if v.k=0\/(cZ (nl 0) v.name).length<=jB 0 then e= .returned (.agg #[S U (if v.k=0 then 0 else(nK (nl 0) v.name:V)),S U v.k])/\∃cs',Kn w' R cs' (nlV nl v)/\cs'.size=cs.size/\∀j,j≠8->cs'[j]?=cs[j]?
 else e= .panicked kD
theorem Ua {R:F}{cs:Array I}{nl:F->u Bs}(v:To)(hv:qF v)(w:J)(h:Kn w R cs nl)(hG:vE w):
  Calls Tryz.prog 71 #[.pointer (C ⟨R,0,H⟩),vB v] w (abT R cs nl v w):=by
 obtain⟨n,k⟩:=v;have HB:=O (((aB (aB (Below.refl w.1.size w) (G #[.string ⟨n.toArray⟩,S U k] 52)) (G #[S U 0,S U 0] 44)).drew));have hx1:=(Bx.new w #[.string ⟨n.toArray⟩,S U k] 52).alloc (G #[S U 0,S U 0] 44);have HH:=O h;have HGG:=O hG;have HV:=O hv;have bP:=O hx1;by_cases h0:k=0
 .subst h0
  clear hx1 h hG hv;go_enter func71,ntmps71;go_wp2_with fail;refine bodyPost_ret (v:= .agg #[S U 0,S U 0]) (by simp[results,results71,go_sem]) rfl ?_;have hbz:Below w.1.size w ((w.alloc (G #[.string ⟨n.toArray⟩,S U 0] 52)).alloc (G #[S U 0,S U 0] 44)):=aB (aB (Below.refl w.1.size w) _) _;refine⟨Z hbz (λ_ _ h=>h),?_⟩;have e:nlV nl ⟨n,0⟩=nl:=ay rfl;rw[ay (.inl rfl),e];exact⟨rfl,cs,HH.q.below hbz,rfl,λ_ _=>rfl⟩
 .have hk:(k==0)=false:=aR.2 h0
  have H0:=O h0;have hw:bD ⟨n.toArray⟩=true:=by
   rcases hv with e|e
   .injection e with _ e;exact absurd e h0
   .exact e.1
  have HN:=O (Ga 0 ah n _ (h.below HB.q) hw (hG.below HB.q));have hx2:=(Bx.new (w.alloc (G #[.string ⟨n.toArray⟩,S U k] 52)) #[S U 0,S U 0] 44);have bL:=O hx2;have HRR:=O h.b.2.2;have hcA:=hx1.1 0;have hcB:=hx1.1 1;clear h hG hv h0 hx1 hw hx2;go_enter func71,ntmps71;by_cases hfit:(cZ (nl 0) n).length<=jB 0
  .have HF:=O hfit
   clear hfit;go_wp2_with fail;refine dm 7 [(0,0),(1,0),(2,0),(4,0),(5,0),(3,2),(6,0),(7,2)] (λ_=>True) (λW'=>W'.cell? ⟨w.1.size,0,H⟩=C (.string ⟨n.toArray⟩)/\W'.cell? ⟨w.1.size,1,H⟩=C (S U k)) (λ_ _=>False) av av (λch a1 w1 hd hr=>hr.elim) (trivial) (⟨hcA,hcB⟩) ?_;refine qC ?_;refine aD rfl rfl (λK hK=>?_);go_simp;refine HN.q.mono ?_;rintro e w2 ⟨hS,he⟩;rw[ay HF.q] at he;obtain⟨rfl,cs',hT,hsz,ho⟩:=he;have HT:=O hT;have Br:=O hS;have HO:=O (⟨hsz,ho⟩:_/\_);have hy1:=hS.bx bP.q.drew (by have:=HRR.q;omega);have hy2:=hS.bx bL.q.drew (by have:=HRR.q;simp;omega);refine hK _ _ ⟨trivial,hy1.1 0,hy1.1 1⟩ ?_;have hd0:=hy2.1 0;have hd1:=hy2.1 1;have hf0:=hy2.2.1 0;have hf1:=hy2.2.1 1;have Iy:=O hy2;rw[World.size_alloc] at hd0 hd1 hf0 hf1;clear hK K hT hS hsz ho hy1 hy2;refine qC ?_;refine bq rfl rfl rfl (λK hK=>?_);go_simp;go_simp;refine hK _ _ trivial ?_;clear hK K;refine jm ?_;go_wp2_with fail;have hz:=(Iy.q.aZ 0 au (S U (nK (nl 0) n:V))).aZ 1 au (S U k);rw[World.size_alloc] at hz;have hz0:=hz.1 0;have hz1:=hz.1 1;refine bodyPost_ret (v:= .agg #[S U (nK (nl 0) n:V),S U k]) (by simp[results,results71,go_sem,hz0,hz1]) rfl ?_;have OJ:=HRR.q;have h1:Same (λi=>i≠R/\i<w.1.size) w w2:=((Z HB.q (λ_ _ h=>h)).tr (Br.q.mono (λi hi _=>hi.1)));have hn1:w.1.size+1<((w.alloc (G #[.string ⟨n.toArray⟩,S U k] 52)).alloc (G #[S U 0,S U 0] 44)).drew.1.size:=by
    show w.1.size+1<((w.alloc (G #[.string ⟨n.toArray⟩,S U k] 52)).alloc (G #[S U 0,S U 0] 44)).1.size;rw[World.size_alloc,World.size_alloc];omega
   have hn2:=World.alloc_heap_new (w.alloc (G #[.string ⟨n.toArray⟩,S U k] 52)) (G #[S U 0,S U 0] 44);rw[World.size_alloc] at hn2;have ht:∃cs fz,w2.1[w.1.size+1]?=C (G cs 44 fz):=⟨_,_,(Br.q.block (w.1.size+1) ah hn1).trans hn2⟩;refine⟨((h1.setTail (λh=>by have:=h.2;omega)).setTail (λh=>by have:=h.2;omega)).mono (λi hi hl=>⟨hi,hl⟩),?_⟩;rw[ay (.inr HF.q)];have e1:(if k=0 then(0:V) else(nK (nl 0) n:V))=(nK (nl 0) n:V):=ak H0.q;have e2:nlV nl ⟨n,k⟩=λj=>if j=0 then cZ (nl 0) n else nl j:=ak H0.q
   rw[e2];refine⟨by rw[e1],cs',HT.q.apart ht aj ah (((Same.refl' w2).setTail (λh=>h rfl)).setTail (λh=>h rfl)),HO.q.1,HO.q.2⟩
  .have HF:=O hfit
   have RES:Hid (∀ch w',(ch=kD/\Same (λi=>i≠R) ((w.alloc (G #[.string ⟨n.toArray⟩,S U k] 52)).alloc (G #[S U 0,S U 0] 44)).drew w')->abT R cs nl ⟨n,k⟩ w (.panicked ch) w'):=O (by
    rintro ch w' ⟨rfl,hS⟩;have h1:Same (λi=>i≠R) w ((w.alloc (G #[.string ⟨n.toArray⟩,S U k] 52)).alloc (G #[S U 0,S U 0] 44)).drew:=Z HB.q (λ_ _ h=>h);refine⟨⟨hS.os.trans h1.os,hS.tape.trans h1.tape,hS.output.trans h1.output,dL h1.size hS.size,λi hi hl=>(hS.block i hi (dz hl h1.size)).trans (h1.block i hi hl)⟩,?_⟩;rw[ak (λh=>h.elim H0.q hfit)])
   clear hfit;go_wp2_with fail;refine dm 7 [(0,0),(1,0),(2,0),(4,0),(5,0),(3,2),(6,0),(7,2)] (λ_=>True) (λW'=>W'.cell? ⟨w.1.size,0,H⟩=C (.string ⟨n.toArray⟩)/\W'.cell? ⟨w.1.size,1,H⟩=C (S U k)) (λch w'=>ch=kD/\Same (λi=>i≠R) ((w.alloc (G #[.string ⟨n.toArray⟩,S U k] 52)).alloc (G #[S U 0,S U 0] 44)).drew w') av av (λch a1 w1 hd hr=>⟨hd,RES.q ch w1 hr⟩) (trivial) (⟨hcA,hcB⟩) ?_;refine qC ?_;refine aD rfl rfl (λK hK=>?_);go_simp;refine HN.q.mono ?_;rintro e w2 ⟨hS,he⟩;rw[ak HF.q] at he;subst he;exact⟨rfl,rfl,hS⟩
def Ew (R:F)(w:J):Prop:=∀W,Same (λi=>i≠R) w W->vE W
theorem Ew.same {R:F}{w X:J}(h:Ew R w)(s:Same (λi=>i≠R) w X):Ew R X:=λW k=>h W (s.tr k)
theorem Ew.here {R:F}{w:J}(h:Ew R w):vE w:=h w (Same.refl' w)
theorem CB.grown {d:F}{P:(F->u Bs)->Prop}{X Y:J}{R:F}{cs:Array I}{nl:F->u Bs}{T:TypeId}{row:Option F}(h:CB d P X R cs nl)(hg:X.grownBy Y row)(hr:∀g,row=C g->g≠R/\∃cs fz,X.1[g]?=C (G cs T fz))(hT:9≠T):CB d P Y R cs nl:=
 ⟨h.b.grown hg (λe=>(hr R e).1 rfl),λk hk=>(let⟨v,h1,h2⟩:=h.t k hk;⟨v,h1,h2.grown hg (λg hv e=>by
  obtain⟨_,cs1,fz1,e1⟩:=hr g e;obtain⟨cs2,fz2,e2⟩:=h2.tag hv;rw[e1] at e2
  cases e2
  exact hT rfl)⟩),h.n⟩
def abU (R:F)(cs:Array I)(nl:F->u Bs)(l:u Bs)(w:J)(e:Ending)(w':J):Prop:=
 Same (λi=>i≠R) w w'/\
 if((iC nl l).1 0).length<=jB 0 then ∃a c cs',e= .returned (N a l.length c)/\Own w' w.1.size 3 1 aQ (N a l.length c) (iC nl l).2/\Kn w' R cs' (iC nl l).1/\cs'.size=cs.size/\∀j,j≠8->cs'[j]?=cs[j]?
 else e= .panicked kD
theorem Row.i1 (w:J)(s:V):Row (w.alloc (G #[S U s] 3)) 1 aQ (C ⟨w.1.size,0,H⟩) 1 1 [s]:=
 (Own.new (hc:=ig) w w.1.size 3 #[S U s] [s] (aA _) rfl (by simp[maxLen])).row au
theorem K6:∀(l:u Bs)(nl:F->u Bs),(iC nl l).2.length=l.length
 |[],_=>rfl
 |_::l,nl=>dF (·+1) (K6 l (nQ nl 0 _))
theorem Ko {X Y:J}{R:F}{row:Option F}{B:F}(hg:X.grownBy Y row)(hr:∀g,row=C g->B<=g):Same (λi=>i≠R/\i<B) X Y:=
 ⟨hg.os,hg.tape,hg.output,hg.size,λi hi hl=>hg.block i hl (λe=>by have:=hr i e.symm;have:=hi.2;omega)⟩
theorem ajv {R:F}{cs:Array I}{nl:F->u Bs}(l:u Bs)(ta:Option Addr)(n tc:F)(w:J)(h:Kn w R cs nl)(hr:Row w 1 encStr ta n tc l)(hne:∀b o,ta=C ⟨b,o,H⟩->b≠R)(hw:∀s∈l,bD ⟨s.toArray⟩=true)(hn:n<=100000)(hG:Ew R w):
  Calls Tryz.prog 72 #[.pointer (C ⟨R,0,H⟩),N ta n tc] w (abU R cs nl l w):=by
 have HH:=O h;have HR:=O hr;have jG:=O hne;have HW:=O hw;have HG:=O hG;have HRR:=O h.b.2.2;obtain⟨i,z,hi⟩:=yZ;have HI:=O hi;have hle:=hr.le;have HLEN:=O hr.len;clear h hr hne hw hG hi;go_enter func72,ntmps72;go_wp2_with fail
 go_loopw [5,10] (λv i wr=>∃(k:F)(a0:Option Addr)(c0:F)(cs':Array I),k<=n/\v= N a0 k c0/\i= S U k/\Own wr w.1.size 3 1 aQ (N a0 k c0) (iC nl (l.take k)).2/\
   Kn wr R cs' (iC nl (l.take k)).1/\cs'.size=cs.size/\(∀j,j≠8->cs'[j]?=cs[j]?)/\Same (λi=>i≠R) w wr) (λ_ i _=>n - (RowKit.intOf i).toNat)
 case atStart=>
  exact⟨0,H,0,cs,aV _,rfl,rfl,Own.fJ _ _ _ _ _,HH.q,rfl,λ_ _=>rfl,Same.refl' _⟩
 case round=>
  obtain⟨k,a0,c0,cs',hk,rfl,rfl,how,hrg,hsz,hoth,hS⟩:=hrel;by_cases hlt:k<n
  .obtain⟨s,b,o,hx,rfl,hc⟩:=HR.q.at_ hlt
   have hc0':=hc 0 _ rfl;simp only[jo,bM] at hc0';have hc0:wr.cell? ⟨b,o+k,H⟩=C (.string ⟨s.toArray⟩):=(World.cell?_of_block (a:=⟨b,o+k,H⟩) (hS.block b (jG.q b o rfl) (jC hc0'))).trans hc0';have kX:=Ga 0 ah s wr hrg (HW.q s (bQ hx)) (HG.q.same hS).here;have ze:=O kX;have HOW:=O how;have Fq:=O hrg;have kM:=O hsz;have II:=O hoth;have HS:=O hS;have HX:=O hx;clear how hrg hsz hoth hS kX hc hc0' hx;go_wp2_with fail;refine ze.q.mono ?_;rintro e w1 ⟨hS1,he⟩;have e1:l.take (k+1)=l.take k++[s]:=by rw[eO,HX.q];rfl
   by_cases hf:(cZ ((iC nl (l.take k)).1 0) s).length<=jB 0
   .rw[ay hf] at he
    obtain⟨rfl,cs2,hrg2,hsz2,ho2⟩:=he;have Jo:=O hrg2;have anN:=O hsz2;have iA:=O ho2;have iE:=O hS1;have Ey:Hid (Own w1 w.1.size 3 1 aQ (N a0 k c0) (iC nl (l.take k)).2):=O (HOW.q.same hS1 (λg hg e=>by have:=(HOW.q.lt g hg).1;have:=HRR.q;omega));have HE:Hid ((iC nl (l.take (k+1))).1=(λj=>if j=0 then cZ ((iC nl (l.take k)).1 0) s else(iC nl (l.take k)).1 j)/\(iC nl (l.take k)).2++[(nK ((iC nl (l.take k)).1 0) s:V)]=(iC nl (l.take (k+1))).2):=O (by rw[e1,Ez];exact⟨rfl,rfl⟩);have jW:Hid ((iC nl (l.take k)).2.length+1=k+1):=O (by rw[K6,dN,HLEN.q,zF hk]);have fT:Hid ((k+1)*8<=140737488355328):=O ah;have lV:Hid (k+1<=maxLen):=O (by unfold maxLen;omega);have vZ:Hid (w.1.size<=(w1.alloc (G #[S U (nK ((iC nl (l.take k)).1 0) s:V)] 3)).1.size):=O (by have h1:=HS.q.size;have h2:=hS1.size;simp;omega);clear hrg2 hsz2 ho2 hS1 hf e1
    go_wp2_with (at_builtin;refine eB rfl _ _ 72 rfl i z 8 underlying72 HI.q.1 HI.q.2.1 HI.q.2.2.1 HI.q.2.2.2.1 HI.q.2.2.2.2 rfl (Ey.q.alloc _) (C ⟨w1.1.size,0,H⟩) 1 1 (k+1) [(nK ((iC nl (l.take k)).1 0) s:V)] rfl (Row.i1 w1 _) jW.q fT.q lV.q vZ.q ?_;intro a' c' w2 hown1 hg1 rz)
    rw[HE.q.2] at hown1;have hb3:=aB (Below.refl w1.1.size w1) (G #[S U (nK ((iC nl (l.take k)).1 0) s:V)] 3);have Ww:Same (λi=>i≠R/\i<w.1.size) w w2:=((HS.q.tr iE.q).mono (λi hi _=>hi.1)).tr ((Z hb3 (λ_ _ h=>h)).tr (Ko hg1 (λg e=>(Ey.q.lt g e).1)));have hrg3:=(Jo.q.below hb3).grown (T:=3) hg1 (λg e=>⟨by have:=(Ey.q.lt g e).1;have:=HRR.q;omega,(Ey.q.alloc _).tag e⟩) aj;have Jp:=O (⟨hown1,hrg3,Ww.mono (λi hi hl=>⟨hi,hl⟩)⟩:_/\_/\_);clear hown1 hg1 rz hb3 Ww hrg3;go_roundw
    case rel=>
     refine⟨k+1,a',c',cs2,by omega,rfl,by go_num,Jp.q.1,?_,anN.q.trans kM.q,λj hj=>(iA.q j hj).trans (II.q j hj),Jp.q.2.2⟩;rw[HE.q.1];exact Jp.q.2.1
    case measure=>simp[RowKit.intOf];omega
   .rw[ak hf] at he
    subst he;refine⟨rfl,?_⟩;show abU R cs nl l w _ _;refine⟨HS.q.tr hS1,?_⟩;rw[ak (λh=>hf (Ze HX.q h))]
  .obtain rfl:k=n:=by omega
   have htk:l.take k=l:=dR (by rw[HLEN.q];exact aA _);rw[htk] at how hrg;have HOW:=O how;have Fq:=O hrg;have kM:=O hsz;have II:=O hoth;have HS:=O hS;clear how hrg hsz hoth hS htk;go_wp2_with fail;go_ret;refine⟨HS.q,?_⟩;rw[ay (Fq.q.n 0 ah).2,HLEN.q];exact⟨a0,c0,cs',rfl,HOW.q,Fq.q,kM.q,II.q⟩
theorem Row.ev1 (w:J)(ev:EvC):Row (w.alloc (G (aY ev) 47)) 9 dO (C ⟨w.1.size,0,H⟩) 1 1 [ev]:=
 (Own.new (hc:=sP) w w.1.size 47 (enc:=dO) (aY ev) [ev] (aA _) rfl (by simp[maxLen])).row (hc:=sP) au
def Ub (R:F)(cs:Array I)(v4:I)(es:u EvC)(ev:EvC)(w:J)(e:Ending)(w':J):Prop:=
 Same (λi=>i≠R/\v4.ownBlock≠C i) w w'/\
 if es.length<3000 then e= .returned (.tuple #[])/\∃v',Own w' (R+1) 47 9 dO v' (es++[ev])/\Bx w' R (cs.setIfInBounds 4 v')
 else e= .panicked kD
theorem OL {R:F}{cs:Array I}{v4:I}{es:u EvC}(ev:EvC)(w:J)(hB:Bx w R cs)(h4:cs[4]?=C v4)(hO:Own w (R+1) 47 9 dO v4 es)(hl:es.length<=3000):
  Calls Tryz.prog 68 #[.pointer (C ⟨R,0,H⟩),je ev] w (Ub R cs v4 es ev w):=by
 obtain⟨a,c,rfl,_,hlc⟩:=hO.shape;obtain⟨i,z,hi⟩:=G8;have HI:=O hi;have hx:w.cell? ⟨R,4,H⟩=C (N a es.length c):=(hB.1 4).trans h4;have hb0:=aB (Below.refl w.1.size w) (G (aY ev) 47);have HB0:=O hb0;have iT:=O hB;have HO:=O hO;have H4:=O h4;have hx0:(w.alloc (G (aY ev) 47)).cell? ⟨R,4,H⟩=C (N a es.length c):=((hB.keep hb0).1 4).trans h4;have hf0:(w.alloc (G (aY ev) 47)).frozen? ⟨R,4,H⟩=false:=(hB.keep hb0).2.1 4;clear hB h4 hO hi hb0;obtain⟨kd,tt,ss,lv,ob,⟨vt,vk⟩,pd,sa,sn,sc⟩:=ev;by_cases hf:es.length<3000
 .have HF:=O hf
  have hd:decide ((es.length:V)<3000)=true:=bA ah;clear hf;have yA:Hid (Bx (w.alloc (G (aY ⟨kd,tt,ss,lv,ob,⟨vt,vk⟩,pd,sa,sn,sc⟩) 47)) w.1.size (aY ⟨kd,tt,ss,lv,ob,⟨vt,vk⟩,pd,sa,sn,sc⟩)):=O (Bx.new w _ _);have HR1:Hid (Bx ((w.alloc (G (aY ⟨kd,tt,ss,lv,ob,⟨vt,vk⟩,pd,sa,sn,sc⟩) 47)).drew.alloc (G (aY ⟨kd,tt,ss,lv,ob,⟨vt,vk⟩,pd,sa,sn,sc⟩) 47)) R cs):=O ((iT.q.keep HB0.q).drew.alloc _);have Il:Hid (Bx ((w.alloc (G (aY ⟨kd,tt,ss,lv,ob,⟨vt,vk⟩,pd,sa,sn,sc⟩) 47)).drew.alloc (G (aY ⟨kd,tt,ss,lv,ob,⟨vt,vk⟩,pd,sa,sn,sc⟩) 47)) w.1.size (aY ⟨kd,tt,ss,lv,ob,⟨vt,vk⟩,pd,sa,sn,sc⟩)):=O (yA.q.drew.alloc _);have gu:Hid (Own ((w.alloc (G (aY ⟨kd,tt,ss,lv,ob,⟨vt,vk⟩,pd,sa,sn,sc⟩) 47)).drew.alloc (G (aY ⟨kd,tt,ss,lv,ob,⟨vt,vk⟩,pd,sa,sn,sc⟩) 47)) (R+1) 47 9 dO (N a es.length c) es):=O ((HO.q.alloc _).drew.alloc _);have mX:Hid (Row ((w.alloc (G (aY ⟨kd,tt,ss,lv,ob,⟨vt,vk⟩,pd,sa,sn,sc⟩) 47)).drew.alloc (G (aY ⟨kd,tt,ss,lv,ob,⟨vt,vk⟩,pd,sa,sn,sc⟩) 47)) 9 dO (C ⟨w.1.size+1,0,H⟩) 1 1 [⟨kd,tt,ss,lv,ob,⟨vt,vk⟩,pd,sa,sn,sc⟩]):=O (by
   have:=Row.ev1 (w.alloc (G (aY ⟨kd,tt,ss,lv,ob,⟨vt,vk⟩,pd,sa,sn,sc⟩) 47)).drew ⟨kd,tt,ss,lv,ob,⟨vt,vk⟩,pd,sa,sn,sc⟩;have e:(w.alloc (G (aY ⟨kd,tt,ss,lv,ob,⟨vt,vk⟩,pd,sa,sn,sc⟩) 47)).drew.1.size=w.1.size+1:=World.size_alloc _ _;rw[e] at this;exact this)
  have fT:Hid ((es.length+1)*88<=140737488355328):=O ah;have lV:Hid (es.length+1<=maxLen):=O (by unfold maxLen;omega);have vZ:Hid (R+1<=((w.alloc (G (aY ⟨kd,tt,ss,lv,ob,⟨vt,vk⟩,pd,sa,sn,sc⟩) 47)).drew.alloc (G (aY ⟨kd,tt,ss,lv,ob,⟨vt,vk⟩,pd,sa,sn,sc⟩) 47)).1.size):=O (by have:=HR1.q.2.2;omega);have lU:Hid ((Value.slice a es.length c).ownBlock≠C R):=O (λe=>by have:=(HO.q.lt R e).1;omega);have jG:Hid ((Value.slice a es.length c).ownBlock≠C w.1.size):=O (λe=>by have:=(HO.q.lt _ e).2;omega);go_enter func68,ntmps68;go_wp2_with fail;refine(mK _ _).mono ?_;rintro e w2 ⟨rfl,rfl⟩;rw[ay rfl];go_wp2_with fail;refine aC 12 [(0,0),(1,0),(2,0),(3,0),(4,0),(5,0),(6,0),(7,2),(8,2),(9,1),(10,1),(11,0),(12,2)] (λ_=>True) (λW'=>W'.cell? ⟨R,4,H⟩=C (N a es.length c)/\W'.cell? ⟨w.1.size,0,H⟩=C (S U kd)/\W'.cell? ⟨w.1.size,1,H⟩=C (S U tt)/\W'.cell? ⟨w.1.size,2,H⟩=C (S U ss)/\W'.cell? ⟨w.1.size,3,H⟩=C (S U lv)/\W'.cell? ⟨w.1.size,4,H⟩=C (S U ob)/\W'.cell? ⟨w.1.size,5,H⟩=C (S U vt)/\W'.cell? ⟨w.1.size,6,H⟩=C (S U vk)/\W'.cell? ⟨w.1.size,7,H⟩=C (S U pd)/\W'.cell? ⟨w.1.size,8,H⟩=C (N sa sn sc)) av av (trivial) (⟨((iT.q.keep HB0.q).1 4).trans H4.q,(yA.q).1 0,(yA.q).1 1,(yA.q).1 2,(yA.q).1 3,(yA.q).1 4,(yA.q).1 5,(yA.q).1 6,(yA.q).1 7,(yA.q).1 8⟩) ?_;refine qC ?_;refine aD rfl rfl (λK hK=>?_);go_simp;refine hK _ _ ⟨trivial,(((iT.q.keep HB0.q).alloc _).1 4).trans H4.q,(yA.q.alloc _).1 0,(yA.q.alloc _).1 1,(yA.q.alloc _).1 2,(yA.q.alloc _).1 3,(yA.q.alloc _).1 4,(yA.q.alloc _).1 5,(yA.q.alloc _).1 6,(yA.q.alloc _).1 7,(yA.q.alloc _).1 8⟩ ?_;clear hK K;refine aD rfl rfl (λK hK=>?_);refine ko _ _ 31 rfl i z 88 underlying31 HI.q.1 HI.q.2.1 HI.q.2.2.1 HI.q.2.2.2.1 HI.q.2.2.2.2 rfl gu.q (C ⟨w.1.size+1,0,H⟩) 1 1 (es.length+1) [⟨kd,tt,ss,lv,ob,⟨vt,vk⟩,pd,sa,sn,sc⟩] rfl mX.q rfl fT.q lV.q vZ.q ?_;intro a' c' w3 hown3 hg3 Je;have hr3:=HR1.q.grown hg3 lU.q;have IJ:=Il.q.grown hg3 jG.q;refine hK _ _ ⟨trivial,((hr3).1 4).trans H4.q,(IJ).1 0,(IJ).1 1,(IJ).1 2,(IJ).1 3,(IJ).1 4,(IJ).1 5,(IJ).1 6,(IJ).1 7,(IJ).1 8⟩ ?_;have hc3:=(hr3.1 4).trans H4.q;have hf3:=hr3.2.1 4;have HR3:=O hr3;have oK:=O hown3;have nu:=O hg3;clear hK K hr3 IJ hown3 hg3 Je;refine qC ?_;refine bq rfl rfl rfl (λK hK=>?_);go_simp;refine hK _ _ trivial ?_;clear hK K;refine aJ ?_;go_wp2_with fail;refine bodyPost_end (results_none rfl _ _ _) rfl ?_;show Ub R cs _ es _ w _ _;have hb1:=aB HB0.q.drew (G (aY ⟨kd,tt,ss,lv,ob,⟨vt,vk⟩,pd,sa,sn,sc⟩) 47);have h1:Same (λi=>i≠R/\(Value.slice a es.length c).ownBlock≠C i) w w3:=(Z hb1 (λ_ _ h=>h)).tr ⟨nu.q.os,nu.q.tape,nu.q.output,nu.q.size,λi hi hl=>nu.q.block i hl (λe=>hi.2 e.symm)⟩;refine⟨h1.setTail (λh=>h.1 rfl),?_⟩;rw[ay HF.q];refine⟨rfl,N a' (es.length+1) c',oK.q.same (A:=λi=>i≠R) ((Same.refl' _).setTail (λh=>h rfl)) (λg hg e=>by have:=(oK.q.lt g hg).1;omega),HR3.q.aZ 4 (dI.1 H4.q).1 _⟩
 .have HF:=O hf
  have hd:decide ((es.length:V)<3000)=false:=aX ah;clear hf;go_enter func68,ntmps68;go_wp2_with fail;refine(mK _ _).mono ?_;rintro e w2 ⟨rfl,rfl⟩;rw[ak au];refine⟨rfl,?_⟩;show Ub R cs _ es _ w _ _;refine⟨Z HB0.q (λ_ _ h=>h),?_⟩;rw[ak HF.q]
def EvC.val (e:EvC):I:= N e.sa e.sn e.sc
def aM.val (e:aM):I:= N e.sa e.sn e.sc
def aN.val (e:aN):I:= N e.sa e.sn e.sc
def tF {α β:Type}(w:J)(R:F)(T:TypeId)(k:F)(enc:β->u I)(val:α->I)(xs:u α)(Ls:u (u β)):Prop:=
 xs.length=Ls.length/\∀(i:F)(x:α)(L:u β),xs[i]?=C x->Ls[i]?=C L->Own w (R+1) T k enc (val x) L
theorem tF.imp {α β:Type}{w w':J}{R:F}{T:TypeId}{k:F}{enc:β->u I}{val:α->I}{xs:u α}{Ls:u (u β)}(h:tF w R T k enc val xs Ls)(hi:∀v L,Own w (R+1) T k enc v L->Own w' (R+1) T k enc v L):tF w' R T k enc val xs Ls:=
 ⟨h.1,λi x L h1 h2=>hi _ _ (h.2 i x L h1 h2)⟩
theorem tF.snoc {α β:Type}{w:J}{R:F}{T:TypeId}{k:F}{enc:β->u I}{val:α->I}{xs:u α}{Ls:u (u β)}(h:tF w R T k enc val xs Ls){x:α}{L:u β}(hx:Own w (R+1) T k enc (val x) L):tF w R T k enc val (xs++[x]) (Ls++[L]):=by
 refine⟨by rw[dH,dH,h.1];rfl,λi y M h1 h2=>?_⟩;rcases jP i xs.length with hi|hi
 .rw[wO hi] at h1
  rw[wO (by rw[<-h.1];exact hi)] at h2;exact h.2 i y M h1 h2
 .rw[uZ hi] at h1
  rw[uZ (by rw[<-h.1];exact hi),<-h.1] at h2;obtain⟨j,hj⟩:∃j,j=i - xs.length:=⟨_,rfl⟩;rw[<-hj] at h1 h2
  cases j with
  |zero=>
   injection h1 with h1;injection h2 with h2;subst h1 h2;exact hx
  |succ j=>cases h1
structure xB (d:F)(P:(F->u Bs)->Prop)(w:J)(R:F)(cs:Array I)(c:Cont)(es:u EvC)(ds:u aM)(ms:u aN):Prop where
 t:CB d P w R cs c.nl
 e:∃v,cs[4]?=C v/\Own w (R+1) 47 9 dO v es
 d:∃v,cs[5]?=C v/\Own w (R+1) 74 2 eZ v ds
 m:∃v,cs[6]?=C v/\Own w (R+1) 77 4 eP v ms
 q:∃v,cs[7]?=C v/\Own w (R+1) 79 2 fQ v c.Q
 be:es.map EvC.base=c.E
 bd:ds.map aM.base=c.D
 bm:ms.map aN.base=c.M
 se:tF w R 117 3 bS EvC.val es c.SE
 sd:tF w R 3 1 aQ aM.val ds c.SD
 sm:tF w R 3 1 aQ aN.val ms c.SM
abbrev Fu:=xB 1 afX
theorem Own.gY {β:Type}{X Y:J}{R:F}{T:TypeId}{k:F}{enc:β->u I}{v:I}{L:u β}(h:Own X (R+1) T k enc v L)(hs:Same (λi=>i≠R) X Y):Own Y (R+1) T k enc v L:=
 h.same hs (λg hg e=>by have:=(h.lt g hg).1;omega)
theorem xB.qR {d:F}{P:(F->u Bs)->Prop}{X Y:J}{R:F}{cs cs':Array I}{c:Cont}{es:u EvC}{ds:u aM}{ms:u aN}{nl:F->u Bs}(h:xB d P X R cs c es ds ms)(hs:Same (λi=>i≠R) X Y)(hT:CB d P Y R cs' nl)(ho:∀j,4<=j->j<8->cs'[j]?=cs[j]?):
  xB d P Y R cs' {c with nl:=nl} es ds ms:=
 ⟨hT,(let⟨v,h1,h2⟩:=h.e;⟨v,(ho 4 ah ah).trans h1,h2.gY hs⟩),(let⟨v,h1,h2⟩:=h.d;⟨v,(ho 5 ah ah).trans h1,h2.gY hs⟩),(let⟨v,h1,h2⟩:=h.m;⟨v,(ho 6 ah ah).trans h1,h2.gY hs⟩),
 (let⟨v,h1,h2⟩:=h.q;⟨v,(ho 7 ah ah).trans h1,h2.gY hs⟩),h.be,h.bd,h.bm,h.se.imp (λ_ _ h=>h.gY hs),h.sd.imp (λ_ _ h=>h.gY hs),h.sm.imp (λ_ _ h=>h.gY hs)⟩
theorem Fu.qR {X Y:J}{R:F}{cs cs':Array I}{c:Cont}{es:u EvC}{ds:u aM}{ms:u aN}{nl:F->u Bs}(h:Fu X R cs c es ds ms)(hs:Same (λi=>i≠R) X Y)(hT:Kn Y R cs' nl)(ho:∀j,j<8->cs'[j]?=cs[j]?):
  Fu Y R cs' {c with nl:=nl} es ds ms:=xB.qR h hs hT (λj _ hj=>ho j hj)
theorem Own.iX {β γ:Type}{X Y:J}{R:F}{T T4:TypeId}{k k4:F}{enc:β->u I}{enc4:γ->u I}{v v4:I}{L:u β}{L4:u γ}(h:Own X (R+1) T k enc v L)(h4:Own X (R+1) T4 k4 enc4 v4 L4)(hT:T≠T4)(hs:Same (λi=>i≠R/\v4.ownBlock≠C i) X Y):Own Y (R+1) T k enc v L:=
 h.same hs (λg hg=>⟨λe=>by have:=(h.lt g hg).1;omega,λe=>by
  obtain⟨c1,f1,e1⟩:=h.tag hg;obtain⟨c2,f2,e2⟩:=h4.tag e;rw[e1] at e2
  cases e2
  exact hT rfl⟩)
theorem xB.event {d:F}{P:(F->u Bs)->Prop}{X Y:J}{R:F}{cs:Array I}{c:Cont}{es:u EvC}{ds:u aM}{ms:u aN}(h:xB d P X R cs c es ds ms){v4 v':I}(h4:cs[4]?=C v4)(hs:Same (λi=>i≠R/\v4.ownBlock≠C i) X Y){ev:EvC}{l:u Sn}
  (hO:Own Y (R+1) 47 9 dO v' (es++[ev])) (hB:Bx Y R (cs.setIfInBounds 4 v')) (hl:Own X (R+1) 117 3 bS ev.val l):xB d P Y R (cs.setIfInBounds 4 v') (c.ev ev.base l) (es++[ev]) ds ms:=by
 obtain⟨v0,h0,hO4⟩:=h.e;obtain rfl:v0=v4:=by rw[h4] at h0;injection h0 with h0;exact h0.symm
 have hsz:4<cs.size:=(dI.1 h4).1;have ho:∀j,4≠j->(cs.setIfInBounds 4 v')[j]?=cs[j]?:=λj hj=>jO hj
 refine⟨⟨hB,λk hk=>?_,h.t.n⟩,⟨v',vQ hsz,hO⟩,?_,?_,?_,?_,h.bd,h.bm,?_,?_,?_⟩
 .obtain⟨v,h1,h2⟩:=h.t.t k hk
  exact⟨v,(ho _ ah).trans h1,h2.iX hO4 aj hs⟩
 .obtain⟨v,h1,h2⟩:=h.d
  exact⟨v,(ho _ ah).trans h1,h2.iX hO4 aj hs⟩
 .obtain⟨v,h1,h2⟩:=h.m
  exact⟨v,(ho _ ah).trans h1,h2.iX hO4 aj hs⟩
 .obtain⟨v,h1,h2⟩:=h.q
  exact⟨v,(ho _ ah).trans h1,h2.iX hO4 aj hs⟩
 .show(es++[ev]).map EvC.base=c.E++[ev.base]
  rw[gK,h.be];rfl
 .exact(h.se.imp (λ_ _ h=>h.iX hO4 aj hs)).snoc (hl.iX hO4 aj hs)
 .exact h.sd.imp (λ_ _ h=>h.iX hO4 aj hs)
 .exact h.sm.imp (λ_ _ h=>h.iX hO4 aj hs)
theorem xB.order {d:F}{P:(F->u Bs)->Prop}{X Y:J}{R:F}{cs:Array I}{c:Cont}{es:u EvC}{ds:u aM}{ms:u aN}(h:xB d P X R cs c es ds ms){v4 v':I}(h4:cs[5]?=C v4)(hs:Same (λi=>i≠R/\v4.ownBlock≠C i) X Y){x:aM}{l:u V}
  (hO:Own Y (R+1) 74 2 eZ v' (ds++[x])) (hB:Bx Y R (cs.setIfInBounds 5 v')) (hl:Own X (R+1) 3 1 aQ x.val l):xB d P Y R (cs.setIfInBounds 5 v') {c with D:=c.D++[x.base],SD:=c.SD++[l]} es (ds++[x]) ms:=by
 obtain⟨v0,h0,hO4⟩:=h.d;obtain rfl:v0=v4:=by rw[h4] at h0;injection h0 with h0;exact h0.symm
 have hsz:5<cs.size:=(dI.1 h4).1;have ho:∀j,5≠j->(cs.setIfInBounds 5 v')[j]?=cs[j]?:=λj hj=>jO hj
 refine⟨⟨hB,λk hk=>?_,h.t.n⟩,?_,?_,?_,?_,h.be,(by show(ds++[x]).map aM.base=c.D++[x.base];rw[gK,h.bd];rfl),h.bm,?_,?_,?_⟩
 .obtain⟨v,h1,h2⟩:=h.t.t k hk
  exact⟨v,(ho _ ah).trans h1,h2.iX hO4 aj hs⟩
 .obtain⟨v,h1,h2⟩:=h.e
  exact⟨v,(ho _ ah).trans h1,h2.iX hO4 aj hs⟩
 .exact⟨v',vQ hsz,hO⟩
 .obtain⟨v,h1,h2⟩:=h.m
  exact⟨v,(ho _ ah).trans h1,h2.iX hO4 aj hs⟩
 .obtain⟨v,h1,h2⟩:=h.q
  exact⟨v,(ho _ ah).trans h1,h2.iX hO4 aj hs⟩
 .exact h.se.imp (λ_ _ h=>h.iX hO4 aj hs)
 .exact(h.sd.imp (λ_ _ h=>h.iX hO4 aj hs)).snoc (hl.iX hO4 aj hs)
 .exact h.sm.imp (λ_ _ h=>h.iX hO4 aj hs)
theorem xB.NS {d:F}{P:(F->u Bs)->Prop}{X Y:J}{R:F}{cs:Array I}{c:Cont}{es:u EvC}{ds:u aM}{ms:u aN}(h:xB d P X R cs c es ds ms){v4 v':I}(h4:cs[6]?=C v4)(hs:Same (λi=>i≠R/\v4.ownBlock≠C i) X Y){x:aN}{l:u V}
  (hO:Own Y (R+1) 77 4 eP v' (ms++[x])) (hB:Bx Y R (cs.setIfInBounds 6 v')) (hl:Own X (R+1) 3 1 aQ x.val l):xB d P Y R (cs.setIfInBounds 6 v') {c with M:=c.M++[x.base],SM:=c.SM++[l]} es ds (ms++[x]):=by
 obtain⟨v0,h0,hO4⟩:=h.m;obtain rfl:v0=v4:=by rw[h4] at h0;injection h0 with h0;exact h0.symm
 have hsz:6<cs.size:=(dI.1 h4).1;have ho:∀j,6≠j->(cs.setIfInBounds 6 v')[j]?=cs[j]?:=λj hj=>jO hj
 refine⟨⟨hB,λk hk=>?_,h.t.n⟩,?_,?_,?_,?_,h.be,h.bd,(by show(ms++[x]).map aN.base=c.M++[x.base];rw[gK,h.bm];rfl),?_,?_,?_⟩
 .obtain⟨v,h1,h2⟩:=h.t.t k hk
  exact⟨v,(ho _ ah).trans h1,h2.iX hO4 aj hs⟩
 .obtain⟨v,h1,h2⟩:=h.e
  exact⟨v,(ho _ ah).trans h1,h2.iX hO4 aj hs⟩
 .obtain⟨v,h1,h2⟩:=h.d
  exact⟨v,(ho _ ah).trans h1,h2.iX hO4 aj hs⟩
 .exact⟨v',vQ hsz,hO⟩
 .obtain⟨v,h1,h2⟩:=h.q
  exact⟨v,(ho _ ah).trans h1,h2.iX hO4 aj hs⟩
 .exact h.se.imp (λ_ _ h=>h.iX hO4 aj hs)
 .exact h.sd.imp (λ_ _ h=>h.iX hO4 aj hs)
 .exact(h.sm.imp (λ_ _ h=>h.iX hO4 aj hs)).snoc (hl.iX hO4 aj hs)
theorem xB.want {d:F}{P:(F->u Bs)->Prop}{X Y:J}{R:F}{cs:Array I}{c:Cont}{es:u EvC}{ds:u aM}{ms:u aN}(h:xB d P X R cs c es ds ms){v4 v':I}(h4:cs[7]?=C v4)(hs:Same (λi=>i≠R/\v4.ownBlock≠C i) X Y){x:Wa}
  (hO:Own Y (R+1) 79 2 fQ v' (c.Q++[x])) (hB:Bx Y R (cs.setIfInBounds 7 v')):xB d P Y R (cs.setIfInBounds 7 v') {c with Q:=c.Q++[x]} es ds ms:=by
 obtain⟨v0,h0,hO4⟩:=h.q;obtain rfl:v0=v4:=by rw[h4] at h0;injection h0 with h0;exact h0.symm
 have hsz:7<cs.size:=(dI.1 h4).1;have ho:∀j,7≠j->(cs.setIfInBounds 7 v')[j]?=cs[j]?:=λj hj=>jO hj
 refine⟨⟨hB,λk hk=>?_,h.t.n⟩,?_,?_,?_,?_,h.be,h.bd,h.bm,?_,?_,?_⟩
 .obtain⟨v,h1,h2⟩:=h.t.t k hk
  exact⟨v,(ho _ ah).trans h1,h2.iX hO4 aj hs⟩
 .obtain⟨v,h1,h2⟩:=h.e
  exact⟨v,(ho _ ah).trans h1,h2.iX hO4 aj hs⟩
 .obtain⟨v,h1,h2⟩:=h.d
  exact⟨v,(ho _ ah).trans h1,h2.iX hO4 aj hs⟩
 .obtain⟨v,h1,h2⟩:=h.m
  exact⟨v,(ho _ ah).trans h1,h2.iX hO4 aj hs⟩
 .exact⟨v',vQ hsz,hO⟩
 .exact h.se.imp (λ_ _ h=>h.iX hO4 aj hs)
 .exact h.sd.imp (λ_ _ h=>h.iX hO4 aj hs)
 .exact h.sm.imp (λ_ _ h=>h.iX hO4 aj hs)
theorem RZ {c d:Cont}(hf:aI c)(h:Nm c d):aI d↔∀i,i<4->(d.nl i).length<=jB i:=
 ⟨λk=>k.1,λk=>⟨k,by rw[h.e];exact hf.2.1,by rw[h.d];exact hf.2.2.1,by rw[h.m];exact hf.2.2.2.1,by rw[h.q];exact hf.2.2.2.2.1,by rw[h.e];exact hf.2.2.2.2.2⟩⟩
theorem OM {c:Cont}{k:F}{s:Bs}(hf:aI c)(hk:k<4):aI (c.put k s)↔(cZ (c.nl k) s).length<=jB k:=by
 rw[RZ hf (Nm.put c k s),afV]
 constructor
 .intro h
  have:=h k hk;unfold nQ at this
  rwa[ay rfl] at this
 .intro h i hi
  unfold nQ
  split
  .rename_i e;subst e;exact h
  .exact hf.1 i hi
theorem Zf {c:Cont}{v:To}(hf:aI c):aI (c.bR v).1↔v.k=0\/(cZ (c.nl 0) v.name).length<=jB 0:=by
 unfold Cont.bR
 split
 .rename_i h;exact⟨λ_=> .inl h,λ_=>hf⟩
 .rename_i h
  rw[OM hf ah];exact⟨.inr,λk=>k.resolve_left h⟩
theorem Md:∀(l:u Bs)(nl:F->u Bs)(j:F),j≠0->(iC nl l).1 j=nl j
 |[],_,_,_=>rfl
 |s::r,nl,j,hj=>(Md r (nQ nl 0 s) j hj).trans (ak hj)
theorem adq {c:Cont}{l:u Bs}(hf:aI c):aI (c.ts l).1↔((iC c.nl l).1 0).length<=jB 0:=by
 rw[RZ hf (Nm.ts l c),(Hr l c).1]
 constructor
 .exact λh=>h 0 ah
 .intro h i hi
  by_cases h0:i=0
  .subst h0;exact h
  .rw[Md l c.nl i h0];exact hf.1 i hi
theorem R3 {c:Cont}{e:EvC}{l:u Sn}(hf:aI c):aI (c.ev e l)↔c.E.length<3000/\(e.kind=2->e.v.k<=999):=by
 constructor
 .intro h
  have h1:=h.2.1;have h2:=h.2.2.2.2.2;have e1:(c.ev e l).E=c.E++[e]:=rfl;rw[e1] at h1 h2;rw[dH,kT] at h1;exact⟨h1,h2 e au⟩
 .rintro⟨h1,h2⟩
  refine⟨hf.1,?_,hf.2.2.1,hf.2.2.2.1,hf.2.2.2.2.1,?_⟩
  .show(c.E++[e]).length<=3000
   rw[dH,kT];exact h1
  .intro x hx
   rcases bJ.1 (show x∈c.E++[e] from hx) with hx|hx
   .exact hf.2.2.2.2.2 x hx
   .rw[bF.1 hx];exact h2
theorem G7:∀(l:u (Bs × To))(c:Cont)(p:Bs × To),c.sc (l++[p])=(((((c.sc l).1.put 2 p.1).bR p.2).1),(c.sc l).2++[⟨(c.sc l).1.no 2 p.1,(((c.sc l).1.put 2 p.1).bR p.2).2⟩])
 |[],_,_=>rfl
 |q::l,c,p=>by
  have h:=G7 l ((c.put 2 q.1).bR q.2).1 p;show(((((c.put 2 q.1).bR q.2).1).sc (l++[p])).1,_::((((c.put 2 q.1).bR q.2).1).sc (l++[p])).2)=_;rw[h];rfl
theorem Wx:∀(l m:u (Bs × To))(c:Cont),(c.sc (l++m)).1=((c.sc l).1.sc m).1
 |[],_,_=>rfl
 |q::l,m,c=>Wx l m ((c.put 2 q.1).bR q.2).1
theorem NK:∀(l:u (Bs × To))(c:Cont),(c.sc l).2.length=l.length
 |[],_=>rfl
 |q::l,c=>dF (·+1) (NK l ((c.put 2 q.1).bR q.2).1)
theorem ads {l:u (Bs × To)}{c:Cont}{i:F}{p:Bs × To}(hp:l[i]?=C p)(h:aI (c.sc l).1):aI ((c.sc (l.take i)).1.put 2 p.1)/\aI (((c.sc (l.take i)).1.put 2 p.1).bR p.2).1:=by
 obtain⟨hi,he⟩:=bG.1 hp;have e:l=(l.take i++[p])++l.drop (i+1):=by
  rw[<-he,eG,List.singleton_append,<-nN hi,Cg]
 rw[e,Wx,G7] at h;have h2:=(Gr.sc (l.drop (i+1)) _).fits h;exact⟨(Gr.bR _ p.2).fits h2,h2⟩
theorem mW (E:u EvC)(e:EvC)(t x:V):fK (E++[e]) t x=fK E t x+(if e.kind=2/\e.t=t/\e.obj=x then 1 else 0):=by
 unfold fK;rw[List.countP_append,List.countP_singleton]
 congr 1
 by_cases h:e.kind=2/\e.t=t/\e.obj=x
 .rw[ay h,ay (by simp[h])]
 .rw[ak h,ak (by simpa using h)]
theorem FN (E:u EvC)(t x:V):fK E t x<=E.length:=List.countP_le_length
end Yd
namespace Yd
open Option renaming some->F
open Go Go.RowKit Go.Proofs Go.Maps Tryz
open Go renaming World->p,Value->I
open Go.IntKind renaming i64->y
open Go.Value renaming int->G,pointer->J
open Tryz renaming prog->z
open _root_ renaming List->C,Nat->D,absurd->H
theorem R4:132<Tryz.prog.types.size:=xY av
theorem Zg:(match Tryz.prog.underlying 132 with|some (.array _ _)|some (.struct _)=>true|_=>false)=true:=av
theorem adt:laidOutB z=true:=av
theorem afY:Tryz.prog.keyTypeAt 3 132=true:=av
theorem R5:WideMaps.KeyLaw z 132:=deep_law_laid adt (m:=3) ah R4 afY Zg
theorem Zh:Tryz.prog.keyType 132=true:=av
theorem Me:Tryz.prog.cellsOf 132=2:=av
theorem Wy:Tryz.prog.cellsOf 3=1:=av
theorem R6 (u:p):(zeroValue 3).run z u= .ok (G y 0) u:=av
def ajw (t x:Int):Lit:= .string (keyBytes [.int .i64 t,.int .i64 x])
theorem Zi (t x:Int)(h1:(Lit.int y t).wf=true)(h2:(Lit.int y x).wf=true)(n:D):Tryz.prog.keyLits (n+2) 132 [G y t,G y x]=F [.int .i64 t,.int .i64 x]:=by
 have e1:Tryz.prog.keyLits (n+1) 3 [G y t]=F [.int .i64 t]:=by
  unfold Program.keyLits;rw[underlying3];simp[h1]
 have e2:Tryz.prog.keyLits (n+1) 3 [G y x]=F [.int .i64 x]:=by
  unfold Program.keyLits;rw[underlying3];simp[h2]
 unfold Program.keyLits;rw[underlying132];simp[Me,Wy,List.mapM_cons,e1,e2]
theorem OO {t x:Int}(h1:(Lit.int y t).wf=true)(h2:(Lit.int y x).wf=true):keyOf z 132 (nU t x)=F (ajw t x):=by
 have hs:Tryz.prog.types.size+1=(Tryz.prog.types.size - 1)+2:=by have:=R4;omega
 unfold keyOf;rw[underlying132];simp only[Zh,hs];rw[ay (by simp[Value.formed,underlying132,Me])];rw[show(nU t x).cells.toList=[G y t,G y x] from rfl,Zi t x h1 h2]
 rfl
def kG (W:p)(b:D)(E:C EvC):Prop:=∃n f,n<=E.length/\nG z 132 3 W b n f/\∀t x,(f t x).getD 0=(fK E t x:Int)
theorem kG.new (w:p):kG (w.alloc (.map #[] 0)) w.1.size []:=⟨0,_,aV _,nG.new w,λ_ _=>rfl⟩
theorem kG.of_eq {W W':p}{b:D}{E:C EvC}(h:kG W b E)(q:W'.1[b]?=W.1[b]?):kG W' b E:=(let⟨n,f,h1,h2,h3⟩:=h;⟨n,f,h1,h2.of_eq q,h3⟩)
theorem kG.obj {W:p}{b:D}{E:C EvC}(h:kG W b E):∃es clock,W.1[b]?=F (.map es clock):=(let⟨_,_,_,h2,_⟩:=h;h2.obj)
theorem kG.lt {W:p}{b:D}{E:C EvC}(h:kG W b E):b<W.1.size:=(let⟨_,_,_,h2,_⟩:=h;h2.lt)
theorem kG.same {A:D->Prop}{W W':p}{b:D}{E:C EvC}(h:kG W b E)(s:Same A W W')(hb:A b):kG W' b E:=h.of_eq (s.block b hb h.lt)
theorem kG.other {W:p}{b:D}{E:C EvC}{e:EvC}(h:kG W b E)(he:e.kind≠2):kG W b (E++[e]):=
 (let⟨n,f,h1,h2,h3⟩:=h;⟨n,f,by rw[dH];omega,h2,λt x=>by rw[h3,mW,ak (λk=>he k.1)];rfl⟩)
theorem kG.look {W:p}{b:D}{E:C EvC}(h:kG W b E){t x:Int}(h1:(Lit.int y t).wf=true)(h2:(Lit.int y x).wf=true):
  (Instr.lookup 56 (.map (F b)) (.agg #[G y t,G y x]) false).run z W= .ok (G y (fK E t x:Int)) W:=by
 obtain⟨n,f,_,hm,hf⟩:=h;rw[<-hf];exact hm.look R5 underlying56 underlying3 (R6 W) (OO h1 h2)
theorem kG.bump {W:p}{b:D}{E:C EvC}(h:kG W b E)(hE:E.length<=3000)(e:EvC)(he:e.kind=2)(h1:(Lit.int y e.t).wf=true)(h2:(Lit.int y e.obj).wf=true):
  ∃(v0:I)(st:D)(W1 W2:p),(Instr.mapEntry 56 (.map (F b)) (.agg #[G y e.t,G y e.obj])).run z W= .ok (.tuple #[v0,G y st]) W1/\
   (Instr.lookup 56 (.map (F b)) (.agg #[G y e.t,G y e.obj]) false).run z W1= .ok (G y (fK E e.t e.obj:Int)) W1/\
   (Instr.entryStore 56 (.map (F b)) (G y st) (G y ((fK E e.t e.obj:Int)+1))).run z W1= .ok () W2/\Same (λi=>i≠b) W W1/\Same (λi=>i≠b) W W2/\kG W2 b (E++[e]):=by
 obtain⟨n,f,hn,hm,hf⟩:=h;have hl:=FN E e.t e.obj;obtain⟨v0,st,W1,W2,r1,r2,r3,⟨o1,e1⟩,⟨o2,e2⟩,hm2⟩:=hm.entry R5 underlying56 underlying3 R6 (by unfold maxLen;omega) (OO h1 h2) (v:=(fK E e.t e.obj:Int)+1) (WalkArith.wf_i64 ah);rw[hf] at r2;have hs:∀o,Same (λi=>i≠b) W (ChangeMaps.setBlock W b o):=λo=>⟨rfl,rfl,rfl,by simp[ChangeMaps.setBlock],λi hi _=>by
  show(W.1.setIfInBounds b o)[i]?=_;rw[jO (λq=>hi q.symm)]⟩
 refine⟨v0,st,W1,W2,r1,r2,r3,e1▸hs o1,e2▸hs o2,n+1,_,by rw[dH,kT];omega,hm2,λt x=>?_⟩;rw[mW];show((if t=e.t/\x=e.obj then F _ else f t x:Option Int)).getD 0=_;by_cases hx:t=e.t/\x=e.obj
 .rw[ay hx,ay ⟨he,hx.1.symm,hx.2.symm⟩,hx.1,hx.2];rfl
 .rw[ak hx,ak (λk=>hx ⟨k.2.1.symm,k.2.2.symm⟩),hf];rfl
theorem abV {c d:Cont}{n:D->C Bs}(h:Nm c d)(hn:d.nl=n):{c with nl:=n}=d:=by
 obtain⟨d1,d2,d3,d4,d5,d6,d7,d8⟩:=d;obtain⟨k1,k2,k3,k4,k5,k6,k7⟩:=h;simp only at hn k1 k2 k3 k4 k5 k6 k7;subst hn k1 k2 k3 k4 k5 k6 k7
 rfl
structure jy (B:D)(w:p)(R:D)(cs:Array I)(c:Cont)(es:C EvC)(ds:C aM)(ms:C aN):Prop where
 s:Fu w R cs c es ds ms
 m:∃mb,cs[12]?=F (.map (F mb))/\kG w mb c.E/\B<=mb
 b:B<=R
theorem Bx.BB {w:p}{R mb:D}{cs:Array I}{v:I}{j:D}(h:Bx w R cs)(hj:cs[j]?=F v)(hm:∃es clock,w.1[mb]?=F (.map es clock)):mb≠R:=λe=>by
 obtain⟨es,clock,hm⟩:=hm;subst e;have:=(h.1 j).trans hj;unfold World.cell? at this;simp[hm] at this
theorem jy.qR {B:D}{X Y:p}{R:D}{cs cs':Array I}{c:Cont}{es:C EvC}{ds:C aM}{ms:C aN}{nl:D->C Bs}(h:jy B X R cs c es ds ms)(hs:Same (λi=>i≠R) X Y)(hT:Kn Y R cs' nl)(ho:∀j,j<8\/j=12->cs'[j]?=cs[j]?):
  jy B Y R cs' {c with nl:=nl} es ds ms:=
 ⟨h.s.qR hs hT (λj hj=>ho j (.inl hj)),(let⟨mb,h1,h2,h3⟩:=h.m;⟨mb,(ho 12 (.inr rfl)).trans h1,h2.same hs (h.s.t.b.BB h1 h2.obj),h3⟩),h.b⟩
theorem jy.below {B:D}{X Y:p}{R:D}{cs:Array I}{c:Cont}{es:C EvC}{ds:C aM}{ms:C aN}(h:jy B X R cs c es ds ms)(hb:Below X.1.size X Y):jy B Y R cs c es ds ms:=
 h.qR (Same.of_below hb (λ_ _ h=>h)) (h.s.t.below hb) (λ_ _=>rfl)
def EA (T:TypeId):Prop:=T≠47/\T≠74/\T≠77/\T≠79/\T≠117
def oM (w:p)(K:D):Prop:=∀i,K<=i->i<K+3->∃q T fz,w.1[i]?=F (.cells q T fz)/\EA T
def nC (B K:D)(w:p):Prop:=∀W,Same (λi=>i<B\/(K<=i/\i<K+3)) w W->vE W
theorem nC.same {B K:D}{w X:p}(h:nC B K w)(s:Same (λi=>i<B\/(K<=i/\i<K+3)) w X):nC B K X:=λW k=>h W (s.tr k)
theorem nC.r {B K R:D}{w:p}(h:nC B K w)(hB:B<=R)(hK:R<K):Ew R w:=λW k=>h W (k.mono (λi hi _=>by omega))
theorem nC.here {B K:D}{w:p}(h:nC B K w):vE w:=h w (Same.refl' w)
theorem Same.Jq {B K:D}{w X:p}(s:Same (λi=>i<B\/(K<=i/\i<K+3)) w X)(h:oM w K):oM X K:=
 λi h1 h2=>(let⟨q,T,fz,e,hT⟩:=h i h1 h2;⟨q,T,fz,(s.block i (.inr ⟨h1,h2⟩) (dI.1 e).1).trans e,hT⟩)
def gN (B K R:D)(d:Cont)(w:p)(e:Ending)(w':p):Prop:=
 Same (λi=>i<B\/(K<=i/\i<K+3)) w w'/\(aI d->e= .returned (.tuple #[])/\∃cs es ds ms,jy B w' R cs d es ds ms)/\(¬aI d->e= .panicked kD)
section
variable {B K R:D}{cs:Array I}{c:Cont}{es:C EvC}{ds:C aM}{ms:C aN}
theorem iF (k:D)(hk:k<4)(s:Bs)(w:p)(h:jy B w R cs c es ds ms)(hf:aI c)(hs:bD ⟨s.toArray⟩=true)(hG:nC B K w):
  Calls z 69 #[J (F ⟨R,0,none⟩),G y (k:Int),.string ⟨s.toArray⟩] w (λe w'=>Same (λi=>i≠R) w w'/\
   (aI (c.put k s)->e= .returned (G y (c.no k s))/\∃cs',jy B w' R cs' (c.put k s) es ds ms/\cs'.size=cs.size/\∀j,j<8\/j=12->cs'[j]?=cs[j]?)/\(¬aI (c.put k s)->e= .panicked kD)):=by
 refine(Ga k hk s w h.s.t hs hG.here).mono ?_;rintro e w' ⟨hS,he⟩;refine⟨hS,?_⟩;rw[OM hf hk];by_cases hx:(cZ (c.nl k) s).length<=jB k
 .rw[ay hx] at he
  obtain⟨rfl,cs',hT,hsz,ho⟩:=he;exact⟨λ_=>⟨rfl,cs',h.qR hS hT (λj hj=>ho j ah),hsz,λj hj=>ho j ah⟩,λhn=>H hx hn⟩
 .rw[ak hx] at he
  exact⟨λhn=>H hn hx,λ_=>he⟩
theorem R7 (v:To)(w:p)(h:jy B w R cs c es ds ms)(hf:aI c)(hv:qF v)(hG:nC B K w):
  Calls z 71 #[J (F ⟨R,0,none⟩),vB v] w (λe w'=>Same (λi=>i≠R) w w'/\
   (aI (c.bR v).1->e= .returned (.agg #[G y (c.bR v).2.t,G y (c.bR v).2.k])/\∃cs',jy B w' R cs' (c.bR v).1 es ds ms/\cs'.size=cs.size/\∀j,j<8\/j=12->cs'[j]?=cs[j]?)/\(¬aI (c.bR v).1->e= .panicked kD)):=by
 refine(Ua v hv w h.s.t hG.here).mono ?_;rintro e w' ⟨hS,he⟩;refine⟨hS,?_⟩;rw[Zf hf];by_cases hx:v.k=0\/(cZ (c.nl 0) v.name).length<=jB 0
 .rw[ay hx] at he
  obtain⟨rfl,cs',hT,hsz,ho⟩:=he;refine⟨λ_=>⟨?_,cs',?_,hsz,λj hj=>ho j ah⟩,λhn=>H hx hn⟩
  .unfold Cont.bR
   by_cases h0:v.k=0
   .rw[ay h0,ay h0,h0]
   .rw[ak h0,ak h0];rfl
  .have:=h.qR hS hT (λj hj=>ho j ah)
   unfold Cont.bR;unfold nlV at this;by_cases h0:v.k=0
   .rw[ay h0] at this ⊢;exact this
   .rw[ak h0] at this ⊢;exact this
 .rw[ak hx] at he
  exact⟨λhn=>H hn hx,λ_=>he⟩
theorem Wz (l:C Bs)(ta:Option Addr)(n tc:D)(w:p)(h:jy B w R cs c es ds ms)(hf:aI c)(hr:Row w 1 encStr ta n tc l)(hne:∀b o,ta=F ⟨b,o,none⟩->b≠R)(hw:∀s∈l,bD ⟨s.toArray⟩=true)(hn:n<=100000)(hG:nC B K w)(rM:R<K):
  Calls z 72 #[J (F ⟨R,0,none⟩),.slice ta n tc] w (λe w'=>Same (λi=>i≠R) w w'/\
   (aI (c.ts l).1->∃a q,e= .returned (.slice a l.length q)/\Own w' w.1.size 3 1 aQ (.slice a l.length q) (c.ts l).2/\∃cs',jy B w' R cs' (c.ts l).1 es ds ms/\cs'.size=cs.size/\∀j,j<8\/j=12->cs'[j]?=cs[j]?)/\(¬aI (c.ts l).1->e= .panicked kD)):=by
 refine(ajv l ta n tc w h.s.t hr hne hw hn (hG.r h.b rM)).mono ?_;rintro e w' ⟨hS,he⟩;refine⟨hS,?_⟩;rw[adq hf];by_cases hx:((iC c.nl l).1 0).length<=jB 0
 .rw[ay hx] at he
  obtain⟨a,q,cs',rfl,hO,hT,hsz,ho⟩:=he;have e2:{c with nl:=(iC c.nl l).1}=(c.ts l).1:=abV (Nm.ts l c) (Hr l c).1;refine⟨λ_=>⟨a,q,rfl,by rw[(Hr l c).2];exact hO,cs',?_,hsz,λj hj=>ho j ah⟩,λhn=>H hx hn⟩;rw[<-e2];exact h.qR hS hT (λj hj=>ho j ah)
 .rw[ak hx] at he
  exact⟨λhn=>H hn hx,λ_=>he⟩
theorem Kq (ev:EvC)(l:C Sn)(w:p)(h:Fu w R cs c es ds ms)(hm:∃mb,cs[12]?=F (.map (F mb))/\kG w mb (c.E++[ev.base])/\B<=mb)(hB:B<=R)(hf:aI c)(hl:Own w (R+1) 117 3 bS ev.val l)(hk:ev.kind=2->ev.v.k<=999)(hK:oM w K)(rM:R<K):
  Calls z 68 #[J (F ⟨R,0,none⟩),je ev] w (λe w'=>(∀g q T fz,w.1[g]?=F (.cells q T fz)->T≠47->g≠R->w'.1[g]?=w.1[g]?)/\gN B K R (c.ev ev.base l) w e w'):=by
 obtain⟨v4,h4,hO⟩:=h.e;have hlen:es.length=c.E.length:=by rw[<-h.be,bH]
 refine(OL ev w h.t.b h4 hO (by rw[hlen];exact hf.2.1)).mono ?_;rintro e w' ⟨hS,he⟩;refine⟨λg q T fz hg hT hgR=>hS.block g ⟨hgR,λq=>by
  obtain⟨cs1,f1,e1⟩:=hO.tag q;rw[e1] at hg
  cases hg
  exact hT rfl⟩ (dI.1 hg).1,hS.mono (λi hi _=>⟨by omega,λq=>by
  rcases hi with hi|hi
  .have:=(hO.lt i q).1;omega
  .obtain⟨_,_,q1⟩:=hO.tag q
   obtain⟨_,T,_,q2,hT⟩:=hK i hi.1 hi.2;rw[q1] at q2
   cases q2
   exact hT.1 rfl⟩),?_⟩
 rw[R3 hf,<-hlen];by_cases hx:es.length<3000
 .rw[ay hx] at he
  obtain⟨rfl,v',OI,hB'⟩:=he;obtain⟨mb,m1,m2,m3⟩:=hm;refine⟨λ_=>⟨rfl,_,_,_,_,h.event h4 hS OI hB' hl,⟨mb,?_,?_,m3⟩,hB⟩,λhn=>H ⟨hx,hk⟩ hn⟩
  .rw[jO ah];exact m1
  .refine m2.same hS ⟨h.t.b.BB m1 m2.obj,λq=>?_⟩
   obtain⟨cs1,f1,e1⟩:=hO.tag q;obtain⟨_,_,e2⟩:=m2.obj;rw[e1] at e2;cases e2
 .rw[ak hx] at he
  exact⟨λhn=>H hn.1 hx,λ_=>he⟩
end
end Yd
namespace Yd
open Option renaming some->G,none->I
open Go Go.RowKit Go.Proofs Tryz
open Below renaming refl->U
open Go.IntKind renaming i64->N
open Go.RowKit renaming Hid->S
open Go.Value renaming slice->H,int->J
open World renaming cell?_of_block->Z
open Yd renaming hid->f
open _root_ renaming List->O,trivial->P
theorem dA {n:Int}{a b:Nat}(h:bC n a=true)(hab:a<=b):bC n b=true:=by
 simp only[bC,aU,bf] at h ⊢;omega
theorem CF {v:kZ}{a b:Nat}(h:iP v a=true)(hab:a<=b):iP v b=true:=by
 unfold iP at h ⊢
 split
 .rename_i h0;rw[ay h0] at h;exact h
 .rename_i h0
  rw[ak h0] at h;simp only[aU] at h ⊢;exact⟨⟨dA h.1.1 hab,h.1.2⟩,h.2⟩
theorem Uc {s:Sn}{a b c d:Nat}(h:kU a c s=true)(hab:a<=b)(hcd:c<=d):kU b d s=true:=by
 simp only[kU,aU] at h ⊢;exact⟨dA h.1 hcd,CF h.2 hab⟩
theorem WA {e:EvC}{l:O Sn}{a b c d a' b' c' d':Nat}(h:hasB a b c d e l=true)(ha:a<=a')(hb:b<=b')(hc:c<=c')(hd:d<=d'):hasB a' b' c' d' e l=true:=by
 unfold hasB at h ⊢
 split
 .rename_i k;rw[ay k] at h
  simp only[aU] at h ⊢;exact⟨dA h.1 hb,h.2⟩
 .rename_i k1;rw[ak k1] at h
  split
  .rename_i k;rw[ay k] at h
   simp only[aU] at h ⊢;exact⟨⟨⟨dA h.1.1.1 hc,CF h.1.1.2 ha⟩,h.1.2⟩,h.2⟩
  .rename_i k2;rw[ak k2] at h
   split
   .rename_i k;rw[ay k] at h
    simp only[aU] at h ⊢;exact⟨dA h.1 hc,CF h.2 ha⟩
   .rename_i k3;rw[ak k3] at h
    split
    .rename_i k;rw[ay k] at h
     simp only[aU,jc] at h ⊢;exact⟨⟨dA h.1.1 hd,h.1.2⟩,λs hs=>Uc (h.2 s hs) ha hc⟩
    .rfl
theorem Zj {e:EvC}{l:O Sn}{a b c d a' b' c' d':Nat}(h:ja a b c d e l=true)(ha:a<=a')(hb:b<=b')(hc:c<=c')(hd:d<=d'):ja a' b' c' d' e l=true:=by
 unfold ja at h ⊢;simp only[aU] at h ⊢;exact⟨⟨⟨h.1.1.1,dA h.1.1.2 ha⟩,WA h.1.2 ha hb hc hd⟩,h.2⟩
def pQ (c:Cont):Prop:=∀i,(c.nl i).Nodup/\∀s∈c.nl i,bD ⟨s.toArray⟩=true
theorem pQ.put {c:Cont}(h:pQ c)(i:Nat){s:Bs}(hs:bD ⟨s.toArray⟩=true):pQ (c.put i s):=λj=>by
 show(if j=i then cZ (c.nl i) s else c.nl j).Nodup/\∀x∈(if j=i then cZ (c.nl i) s else c.nl j),bD ⟨x.toArray⟩=true
 split
 .refine⟨Ev (h i).1,λx hx=>?_⟩
  unfold cZ at hx
  split at hx
  .exact(h i).2 x hx
  .rcases bJ.1 hx with hx|hx
   .exact(h i).2 x hx
   .rw[bF.1 hx];exact hs
 .exact h j
theorem pQ.bR {c:Cont}(h:pQ c){v:To}(hv:qF v):pQ (c.bR v).1:=by
 unfold Cont.bR;rcases hv with rfl|⟨hw,h0,_⟩
 .rw[ay rfl];exact h
 .rw[ak ah];exact h.put 0 hw
theorem pQ.ts:∀(l:O Bs){c:Cont},pQ c->(∀s∈l,bD ⟨s.toArray⟩=true)->pQ (c.ts l).1
 |[],_,h,_=>h
 |s::r,_,h,hl=>pQ.ts r (h.put 0 (hl s pY)) (λx hx=>hl x (iJ _ hx))
theorem pQ.sc:∀(l:O (Bs × To)){c:Cont},pQ c->(∀p∈l,bD ⟨p.1.toArray⟩=true/\qF p.2)->pQ (c.sc l).1
 |[],_,h,_=>h
 |p::r,_,h,hl=>pQ.sc r ((h.put 2 (hl p pY).1).bR (hl p pY).2) (λx hx=>hl x (iJ _ hx))
theorem iq (c:Cont)(i:Nat)(s:Bs):bC (c.no i s) ((c.put i s).nl i).length=true:=by
 have h:=WB (c.nl i) s;have e:(c.put i s).nl i=cZ (c.nl i) s:=ay rfl;rw[e];have h2:(0:Int)<=(nK (c.nl i) s:Int):=GN _;have h3:(nK (c.nl i) s:Int)<((cZ (c.nl i) s).length:Int):=Int.ofNat_lt.2 h;unfold bC Cont.no;exact Bool.and_eq_true_iff.2 ⟨bA h2,bA h3⟩
theorem Gr.len {c d:Cont}(h:Gr c d)(i:Nat):(c.nl i).length<=(d.nl i).length:=(h.n i).length_le
theorem R8 (c:Cont){v:To}(hv:qF v):iP (c.bR v).2 ((c.bR v).1.nl 0).length=true:=by
 unfold Cont.bR;rcases hv with rfl|⟨_,h0,h9⟩
 .rw[ay rfl];rfl
 .rw[ak ah]
  unfold iP;rw[ak (by simp only[];omega)];simp only[iq,bA h0,bA h9,Bool.and_self]
theorem Ud:∀(l:O Bs)(c:Cont),(∀x∈(c.ts l).2,bC x ((c.ts l).1.nl 0).length=true)/\(c.ts l).2.length=l.length
 |[],_=>⟨λx hx=>(by cases hx),rfl⟩
 |s::r,c=>by
  obtain⟨h1,h2⟩:=Ud r (c.put 0 s);refine⟨λx hx=>?_,?_⟩
  .rcases dP.1 hx with rfl|hx
   .exact dA (iq c 0 s) ((Gr.ts r (c.put 0 s)).len 0)
   .exact h1 x hx
  .show(_::_).length=_
   rw[jd,h2];rfl
theorem abW:∀(l:O (Bs × To))(c:Cont),(∀p∈l,qF p.2)->(∀x∈(c.sc l).2,kU ((c.sc l).1.nl 0).length ((c.sc l).1.nl 2).length x=true)/\(c.sc l).2.length=l.length
 |[],_,_=>⟨λx hx=>(by cases hx),rfl⟩
 |p::r,c,hl=>by
  have hp:=hl p pY;obtain⟨h1,h2⟩:=abW r ((c.put 2 p.1).bR p.2).1 (λx hx=>hl x (iJ _ hx));have hg:=Gr.sc r ((c.put 2 p.1).bR p.2).1;refine⟨λx hx=>?_,?_⟩
  .rcases dP.1 hx with rfl|hx
   .show kU (((c.put 2 p.1).bR p.2).1.sc r|>.1.nl 0).length (((c.put 2 p.1).bR p.2).1.sc r|>.1.nl 2).length ⟨c.no 2 p.1,((c.put 2 p.1).bR p.2).2⟩=true
    simp only[kU,aU];exact⟨dA (iq c 2 p.1) (((Gr.bR (c.put 2 p.1) p.2).trans hg).len 2),CF (R8 (c.put 2 p.1) hp) (hg.len 0)⟩
   .exact h1 x hx
  .show(_::_).length=_
   rw[jd,h2];rfl
structure iU (c:Cont):Prop where
 nm:pQ c
 le:c.E.length=c.SE.length
 ld:c.D.length=c.SD.length
 lm:c.M.length=c.SM.length
 ev:∀p∈c.E.zip c.SE,ja (c.nl 0).length (c.nl 1).length (c.nl 2).length (c.nl 3).length p.1 p.2=true
 od:∀p∈c.D.zip c.SD,bC p.1.obj (c.nl 2).length=true/\gL (c.nl 0).length p.2=true
 ma:∀p∈c.M.zip c.SM,bC p.1.pred (c.nl 3).length=true/\bC p.1.obj (c.nl 2).length=true/\gL (c.nl 0).length p.2=true
 wa:∀x∈c.Q,bC x.dG (c.nl 1).length=true/\0<=x.bits/\x.bits<=15
theorem IK {a b:Nat}{l:O Int}(h:gL a l=true)(hab:a<=b):gL b l=true:=by
 simp only[gL,aU,jc] at h ⊢;exact⟨h.1,λx hx=>dA (h.2 x hx) hab⟩
theorem iU.zero:iU jh:=⟨λ_=>⟨sD,λs hs=>(by cases hs)⟩,rfl,rfl,rfl,λp hp=>(by cases hp),λp hp=>(by cases hp),λp hp=>(by cases hp),λp hp=>(by cases hp)⟩
theorem iU.grow {c d:Cont}(h:iU c)(g:Gr c d)(n:Nm c d)(k:pQ d):iU d:=by
 refine⟨k,by rw[n.e,n.se];exact h.le,by rw[n.d,n.sd];exact h.ld,by rw[n.m,n.sm];exact h.lm,λp hp=>?_,λp hp=>?_,λp hp=>?_,λx hx=>?_⟩
 .rw[n.e,n.se] at hp
  exact Zj (h.ev p hp) (g.len 0) (g.len 1) (g.len 2) (g.len 3)
 .rw[n.d,n.sd] at hp
  have:=h.od p hp;exact⟨dA this.1 (g.len 2),IK this.2 (g.len 0)⟩
 .rw[n.m,n.sm] at hp
  have:=h.ma p hp;exact⟨dA this.1 (g.len 3),dA this.2.1 (g.len 2),IK this.2.2 (g.len 0)⟩
 .rw[n.q] at hx
  have:=h.wa x hx;exact⟨dA this.1 (g.len 1),this.2⟩
theorem zn {α β:Type}{a:O α}{b:O β}(h:a.length=b.length)(x:α)(y:β):(a++[x]).zip (b++[y])=a.zip b++[(x,y)]:=by
 rw[List.zip_append h];rfl
theorem iU.gP {c:Cont}(h:iU c)(e:EvC)(sn:O Sn)(he:ja (c.nl 0).length (c.nl 1).length (c.nl 2).length (c.nl 3).length e sn=true):iU (c.ev e sn):=by
 refine⟨h.nm,?_,h.ld,h.lm,λp hp=>?_,h.od,h.ma,h.wa⟩
 .show(c.E++[e]).length=(c.SE++[sn]).length
  rw[dH,dH,h.le];rfl
 .have hp':p∈(c.E++[e]).zip (c.SE++[sn]):=hp
  rw[zn h.le] at hp';rcases bJ.1 hp' with hp'|hp'
  .exact h.ev p hp'
  .rw[bF.1 hp'];exact he
theorem iU.odA {c:Cont}(h:iU c)(x:aM)(ts:O Int)(hx:bC x.obj (c.nl 2).length=true/\gL (c.nl 0).length ts=true):iU {c with D:=c.D++[x],SD:=c.SD++[ts]}:=by
 refine⟨h.nm,h.le,?_,h.lm,h.ev,λp hp=>?_,h.ma,h.wa⟩
 .show(c.D++[x]).length=(c.SD++[ts]).length
  rw[dH,dH,h.ld];rfl
 .have hp':p∈(c.D++[x]).zip (c.SD++[ts]):=hp
  rw[zn h.ld] at hp';rcases bJ.1 hp' with hp'|hp'
  .exact h.od p hp'
  .rw[bF.1 hp'];exact hx
theorem iU.maA {c:Cont}(h:iU c)(x:aN)(ts:O Int)(hx:bC x.pred (c.nl 3).length=true/\bC x.obj (c.nl 2).length=true/\gL (c.nl 0).length ts=true):iU {c with M:=c.M++[x],SM:=c.SM++[ts]}:=by
 refine⟨h.nm,h.le,h.ld,?_,h.ev,h.od,λp hp=>?_,h.wa⟩
 .show(c.M++[x]).length=(c.SM++[ts]).length
  rw[dH,dH,h.lm];rfl
 .have hp':p∈(c.M++[x]).zip (c.SM++[ts]):=hp
  rw[zn h.lm] at hp';rcases bJ.1 hp' with hp'|hp'
  .exact h.ma p hp'
  .rw[bF.1 hp'];exact hx
theorem iU.waA {c:Cont}(h:iU c)(x:Wa)(hx:bC x.dG (c.nl 1).length=true/\0<=x.bits/\x.bits<=15):iU {c with Q:=c.Q++[x]}:=by
 refine⟨h.nm,h.le,h.ld,h.lm,h.ev,h.od,h.ma,λy hy=>?_⟩;rcases bJ.1 hy with hy|hy
 .exact h.wa y hy
 .rw[bF.1 hy];exact hx
theorem DC {l:O Bs}(h:l.length=2):∃a b,l=[a,b]:=by
 match l,h with
 |[a,b],_=>exact⟨a,b,rfl⟩
theorem zV {α:Type}{l:O α}(h:l.length=1):∃a,l=[a]:=by
 match l,h with
 |[a],_=>exact⟨a,rfl⟩
theorem iU.add {c:Cont}(h:iU c){l:aP}(hl:fB l)(hf:aI (aO c l)):iU (aO c l):=by
 obtain⟨kd,ns,lv,vs,fi,bt⟩:=l;obtain⟨hw,hv,hc⟩:=hl;simp only at hw hv hc;rcases hc with⟨rfl,h1,h2,⟨lw,rfl,h3,h4⟩,h5,h6⟩|⟨rfl,h1,h2,h3,h4,h5⟩|⟨rfl,h1,h2,h3,h4,h5⟩|⟨rfl,⟨cc,h1,h2,h2'⟩,_,h3,h4,h5⟩|⟨rfl,h1,h2,h3,h4,h5⟩|⟨rfl,h1,h2,h3,h4,h5⟩|⟨rfl,⟨cc,h1,h2'⟩,h2,h3,h4,h5⟩|⟨rfl,⟨cc,h1,h2'⟩,h2,h3,_,h5⟩|⟨rfl,h1,h2,h3,h4,⟨bb,rfl,h5⟩⟩
 .obtain⟨a,b,rfl⟩:=DC h1
  have g:=(Gr.put c 0 a).trans (Gr.put (c.put 0 a) 1 b);have k:=(h.nm.put 0 (hw a au)).put 1 (hw b au);refine(h.grow g ((Nm.put c 0 a).trans (Nm.put _ 1 b)) k).gP _ _ ?_;have t1:=dA (iq c 0 a) ((Gr.put (c.put 0 a) 1 b).len 0);have t2:=iq (c.put 0 a) 1 b;simp[ja,hasB,gG,fF,t1,t2];omega
 .obtain⟨a,b,rfl⟩:=DC h1
  have g:=(Gr.put c 0 a).trans (Gr.put (c.put 0 a) 2 b);have k:=(h.nm.put 0 (hw a au)).put 2 (hw b au);refine(h.grow g ((Nm.put c 0 a).trans (Nm.put _ 2 b)) k).gP _ _ ?_;have t1:=dA (iq c 0 a) ((Gr.put (c.put 0 a) 2 b).len 0);have t2:=iq (c.put 0 a) 2 b;have hk:((fK c.E (c.no 0 a) ((c.put 0 a).no 2 b):Int)+1)<=999:=hf.2.2.2.2.2 _ (pX _ pY) rfl;have hk0:¬((fK c.E (c.no 0 a) ((c.put 0 a).no 2 b):Int)+1)=0:=by omega
  have hk1:0<((fK c.E (c.no 0 a) ((c.put 0 a).no 2 b):Int)+1):=by omega
  simp[ja,hasB,gG,iP,t1,t2,hk,hk0,hk1]
 .obtain⟨a,b,rfl⟩:=DC h1
  obtain⟨v,rfl⟩:=zV h2;have hvv:=hv v au;have g:=((Gr.put c 0 a).trans (Gr.put (c.put 0 a) 2 b)).trans (Gr.bR _ v);have k:=((h.nm.put 0 (hw a au)).put 2 (hw b au)).bR hvv;refine(h.grow g (((Nm.put c 0 a).trans (Nm.put _ 2 b)).trans (Nm.bR _ v)) k).gP _ _ ?_;have t1:=dA (iq c 0 a) (((Gr.put (c.put 0 a) 2 b).trans (Gr.bR _ v)).len 0);have t2:=dA (iq (c.put 0 a) 2 b) ((Gr.bR _ v).len 2);have t3:=R8 ((c.put 0 a).put 2 b) hvv;simp[ja,hasB,gG,t1,t2,t3]
 .match ns,h1 with
  |a::b::ns,h1=>
  have hz:∀p∈ns.zip vs,bD ⟨p.1.toArray⟩=true/\qF p.2:=λp hp=>⟨hw _ (iJ _ (iJ _ (List.of_mem_zip hp).1)),hv _ (List.of_mem_zip hp).2⟩
  have g:=((Gr.put c 0 a).trans (Gr.put (c.put 0 a) 3 b)).trans (Gr.sc (ns.zip vs) _);have k:=pQ.sc (ns.zip vs) ((h.nm.put 0 (hw a au)).put 3 (hw b au)) hz;refine(h.grow g (((Nm.put c 0 a).trans (Nm.put _ 3 b)).trans (Nm.sc (ns.zip vs) _)) k).gP _ _ ?_;have t1:=dA (iq c 0 a) (((Gr.put (c.put 0 a) 3 b).trans (Gr.sc (ns.zip vs) _)).len 0);have t2:=dA (iq (c.put 0 a) 3 b) ((Gr.sc (ns.zip vs) _).len 3);obtain⟨t3,t4⟩:=abW (ns.zip vs) ((c.put 0 a).put 3 b) (λp hp=>(hz p hp).2);have t5:(((c.put 0 a).put 3 b).sc (ns.zip vs)).2.length<=40:=by rw[t4,AJ];omega
  have t6:(((c.put 0 a).put 3 b).sc (ns.zip vs)).2.all (kU ((((c.put 0 a).put 3 b).sc (ns.zip vs)).1.nl 0).length ((((c.put 0 a).put 3 b).sc (ns.zip vs)).1.nl 2).length)=true:=jc.2 t3;simp only[ja,hasB,gG];simp[t1,t2,t5];exact λx hx=>t3 x hx
 .obtain⟨a,rfl⟩:=zV h1
  refine(h.grow (Gr.put c 0 a) (Nm.put c 0 a) (h.nm.put 0 (hw a au))).gP _ _ ?_;have t1:=iq c 0 a;simp[ja,hasB,gG,t1]
 .obtain⟨a,rfl⟩:=zV h1
  refine(h.grow (Gr.put c 0 a) (Nm.put c 0 a) (h.nm.put 0 (hw a au))).gP _ _ ?_;have t1:=iq c 0 a;simp[ja,hasB,gG,t1]
 .match ns,h1 with
  |a::ns,h1=>
  have g:=(Gr.put c 2 a).trans (Gr.ts ns (c.put 2 a));have k:=pQ.ts ns (h.nm.put 2 (hw a au)) (λx hx=>hw x (iJ _ hx));have n:=(Nm.put c 2 a).trans (Nm.ts ns (c.put 2 a));have t1:=dA (iq c 2 a) ((Gr.ts ns (c.put 2 a)).len 2);obtain⟨t3,t4⟩:=Ud ns (c.put 2 a);have:=(h.grow g n k).odA ⟨c.no 2 a,I,0,0⟩ ((c.put 2 a).ts ns).2 ⟨t1,by simp only[gL,aU,bf,jc];exact⟨by rw[t4];simp only[jd] at h1;omega,t3⟩⟩;rw[n.d,n.sd] at this;exact this
 .match ns,h1 with
  |a::b::ns,h1=>
  have g:=((Gr.put c 3 a).trans (Gr.put (c.put 3 a) 2 b)).trans (Gr.ts ns _);have k:=pQ.ts ns ((h.nm.put 3 (hw a au)).put 2 (hw b au)) (λx hx=>hw x (iJ _ (iJ _ hx)));have n:=((Nm.put c 3 a).trans (Nm.put (c.put 3 a) 2 b)).trans (Nm.ts ns _);have t1:=dA (iq c 3 a) (((Gr.put (c.put 3 a) 2 b).trans (Gr.ts ns _)).len 3);have t2:=dA (iq (c.put 3 a) 2 b) ((Gr.ts ns _).len 2);obtain⟨t3,t4⟩:=Ud ns ((c.put 3 a).put 2 b);have:=(h.grow g n k).maA ⟨c.no 3 a,(c.put 3 a).no 2 b,fi,I,0,0⟩ (((c.put 3 a).put 2 b).ts ns).2 ⟨t1,t2,by simp only[gL,aU,bf,jc];exact⟨by rw[t4];simp only[jd] at h1;omega,t3⟩⟩;rw[n.m,n.sm] at this;exact this
 .obtain⟨a,rfl⟩:=zV h1
  have n:=Nm.put c 1 a;have:=(h.grow (Gr.put c 1 a) n (h.nm.put 1 (hw a au))).waA ⟨c.no 1 a,(bb:Int)⟩ ⟨iq c 1 a,by simp only[];omega,by simp only[];omega⟩;rw[n.q] at this;exact this
def bI (c:Cont):O (Int × Int):=
 (c.E.zip c.SE).flatMap (λp=>dD p.1 p.2)++(c.D.zip c.SD).flatMap (λp=>kF p.1 p.2)++(c.M.zip c.SM).flatMap (λp=>mY p.1 p.2)++c.Q.flatMap qU
def dh (l:O Int)(n:Int):Int:=if n∈l then(l.idxOf n:Int) else -1
def kH (F:Int->O Int)(v:kZ):kZ:=if 0<v.k then⟨dh (F 0) v.t,v.k⟩ else v
def Fv (F:Int->O Int)(s:Sn):Sn:=⟨dh (F 2) s.obj,kH F s.v⟩
def gP (F:Int->O Int)(e:EvC):EvC:=
 {Cz with kind:=e.kind,t:=dh (F 0) e.t,lvl:=e.lvl,dG:=if e.kind=1 then dh (F 1) e.dG else 0,obj:=if e.kind=2\/e.kind=3 then dh (F 2) e.obj else 0,v:=if e.kind=2\/e.kind=3 then kH F e.v else⟨0,0⟩,pred:=if e.kind=4 then dh (F 3) e.pred else 0}
def aS (l:O Bs)(n:Int):Bs:=l.getD n.toNat []
def IL (F:Int->O Int)(c:Cont):Cont:=
 ⟨λi=>(F (i:Int)).map (aS (c.nl i)),c.E.map (gP F),c.SE.map (λl=>l.map (Fv F)),c.D.map (λx=>⟨dh (F 2) x.obj,I,0,0⟩),c.SD.map (λl=>l.map (dh (F 0))),
 c.M.map (λx=>⟨dh (F 3) x.pred,dh (F 2) x.obj,x.first,I,0,0⟩),c.SM.map (λl=>l.map (dh (F 0))),c.Q.map (λx=>⟨dh (F 1) x.dG,x.bits⟩)⟩
def gJ (c:Cont):Cont:=IL (bK (bI c)) c
def asM (F:Int->O Int)(x:Int × Int):Int × Int:=(x.1,dh (F x.1) x.2)
theorem R9 {l g:O Int}{n:Int}(hp:l<+:g)(hn:n∈l):dh g n=(l.idxOf n:Int):=by
 unfold dh;rw[ay (hp.subset hn)];obtain⟨t,rfl⟩:=hp;rw[List.idxOf_append,ay hn]
theorem adu {l g:O Int}{n:Int}(hp:l++[n]<+:g)(hn:n∉l):dh g n=(l.length:Int):=by
 rw[R9 hp au,List.idxOf_append,ak hn];simp
structure vK (w:World)(B:Nat)(l:bB)(s:aP):Prop where
 k:l.kind=s.kind/\l.lvl=s.lvl/\l.first=s.first/\l.bits=s.bits/\l.nn=s.names.length/\l.vn=s.aF.length
 n:Row w 1 encStr l.na l.nn l.nc s.names
 v:Row w 2 pE l.va l.vn l.vc s.aF
 na:∀b o,l.na=G ⟨b,o,I⟩->b<B
 va:∀b o,l.va=G ⟨b,o,I⟩->b<B
theorem Same.row {α:Type}{A:Nat->Prop}{X Y:World}{k n c:Nat}{enc:α->O Value}{a:Option Addr}{xs:O α}(s:Same A X Y)(h:Row X k enc a n c xs)(ha:∀b o,a=G ⟨b,o,I⟩->A b):Row Y k enc a n c xs:=
 ⟨h.1,h.2.1,h.2.2.1,h.2.2.2.1,λi x hx=>(let⟨b,o,hab,hc⟩:=h.2.2.2.2 i x hx;⟨b,o,hab,λj v hv=>(Z (a:=⟨b,o+i*k+j,I⟩) (s.block b (ha b o hab) (jC (hc j v hv)))).trans (hc j v hv)⟩)⟩
theorem Same.cell {A:Nat->Prop}{X Y:World}{b o:Nat}{v:Value}(s:Same A X Y)(h:X.cell? ⟨b,o,I⟩=G v)(ha:A b):Y.cell? ⟨b,o,I⟩=G v:=
 (Z (a:=⟨b,o,I⟩) (s.block b ha (jC h))).trans h
theorem FM {s:aP}(hok:fB s)(hk:s.kind=5\/s.kind=6\/s.kind=9):∃n0,s.names=[n0]:=by
 have hlen:s.names.length=1:=by
  rcases hok.2.2 with h|h|h|h|h|h|h|h|h <;> (first|exact h.2.1|(exfalso;have:=h.1;omega))
 match s.names,hlen with
 |[a],_=>exact⟨a,rfl⟩
theorem names2 {s:aP}(hok:fB s)(hk:s.kind=1\/s.kind=2\/s.kind=3):∃n0 n1,s.names=[n0,n1]:=by
 have hlen:s.names.length=2:=by
  rcases hok.2.2 with h|h|h|h|h|h|h|h|h <;> (first|exact h.2.1|(exfalso;have:=h.1;omega))
 match s.names,hlen with
 |[a,b],_=>exact⟨a,b,rfl⟩
theorem abr {s:aP}(hok:fB s)(hk:s.kind=3):∃v0,s.aF=[v0]:=by
 have hlen:s.aF.length=1:=by
  rcases hok.2.2 with h|h|h|h|h|h|h|h|h <;> (first|exact h.2.2.1|(exfalso;have:=h.1;omega))
 match s.aF,hlen with
 |[a],_=>exact⟨a,rfl⟩
theorem vK.bR {w:World}{B:Nat}{l:bB}{s:aP}(h:vK w B l s){i:Nat}{x:To}(hi:s.aF[i]?=G x):∃nb no,l.va=G ⟨nb,no,I⟩/\nb<B/\w.cell? ⟨nb,no+i*2,I⟩=G (.string ⟨x.name.toArray⟩)/\w.cell? ⟨nb,no+i*2+1,I⟩=G (J N x.k):=by
 obtain⟨b,o,ha,hc⟩:=h.v.2.2.2.2 i x hi;exact⟨b,o,ha,h.va b o ha,hc 0 _ rfl,hc 1 _ rfl⟩
theorem vK.name {w:World}{B:Nat}{l:bB}{s:aP}(h:vK w B l s){i:Nat}{x:Bs}(hi:s.names[i]?=G x):∃nb no,l.na=G ⟨nb,no,I⟩/\nb<B/\w.cell? ⟨nb,no+i,I⟩=G (.string ⟨x.toArray⟩):=by
 obtain⟨b,o,ha,hc⟩:=h.n.2.2.2.2 i x hi;exact⟨b,o,ha,h.na b o ha,by have:=hc 0 _ rfl;simpa using this⟩
section
variable {B K R:Nat}{cs:Array Value}{c:Cont}{es:O EvC}{ds:O aM}{ms:O aN}
theorem WC (l:bB)(s:aP)(w:World)(h:jy B w R cs c es ds ms)(hf:aI c)(hl:vK w B l s)(hk:s.kind=1)(hok:fB s)(hG:nC B K w)(oN:oM w K)(rM:R<K):
  Calls Tryz.prog 35 #[.pointer (G ⟨R,0,I⟩),jg l] w (gN B K R (aO c s) w):=by
 obtain⟨n0,n1,hn⟩:=names2 hok (.inl hk);have hnn:l.nn=2:=by rw[hl.k.2.2.2.2.1,hn];rfl
 obtain⟨nb,no,ha0,hb0,hd0⟩:=hl.name (i:=0) (x:=n0) (by rw[hn];rfl);obtain⟨nb',no',ha1,hb1,hd1⟩:=hl.name (i:=1) (x:=n1) (by rw[hn];rfl);rw[ha0] at ha1;injection ha1 with q;injection q with q1 q2;subst q1 q2;obtain⟨lk,la,ln,nc,lvl,va,vn,vc,lf,bits⟩:=l;obtain⟨k1,k2,k3,k4,k5,k6⟩:=hl.k;simp only at k1 k2 k3 k4 k5 k6 ha0 hnn;rw[hk] at k1;subst k1;have fD:S (aO c s=((c.put 0 n0).put 1 n1).ev ⟨1,c.no 0 n0,(c.put 0 n0).no 1 n1,lvl,0,⟨0,0⟩,0,I,0,0⟩ []):=f (by unfold aO;simp only[hk,hn,<-k2,<-k3,<-k4];rfl);subst ha0 hnn;have yB:=f oN;have fH:=f rM;have fM:S (K+3<=w.1.size):=f (let⟨q,T,fz,e,_⟩:=oN (K+2) ah ah;(dI.1 e).1);clear oN rM;have HB:=f h.b;have d9:S (R<w.1.size):=f h.s.t.b.2.2;obtain⟨V,hV⟩:∃V,V=w.alloc (.cells #[J N 1,H (G ⟨nb,no,I⟩) 2 nc,J N lvl,H va vn vc,.bool lf,J N bits] 30):=⟨_,rfl⟩;have bE:S (Below w.1.size w V):=f (by rw[hV];exact aB (U w.1.size w) _);have HX:S (Bx V w.1.size #[J N 1,H (G ⟨nb,no,I⟩) 2 nc,J N lvl,H va vn vc,.bool lf,J N bits]):=f (by rw[hV];exact Bx.new w _ _);have zW:S (V.1[w.1.size]?=G (.cells #[J N 1,H (G ⟨nb,no,I⟩) 2 nc,J N lvl,H va vn vc,.bool lf,J N bits] 30 (0,0))):=f (by rw[hV];exact eH w _);have cB:S (∀W,W.1[w.1.size]?=V.1[w.1.size]?->Same (λi=>i<B\/(K<=i/\i<K+3)) w W->(λW'=>W'.cell? ⟨w.1.size,0,I⟩=G (J N 1)/\W'.cell? ⟨w.1.size,1,I⟩=G (H (G ⟨nb,no,I⟩) 2 nc)/\W'.cell? ⟨w.1.size,2,I⟩=G (J N lvl)/\W'.cell? ⟨nb,no,I⟩=G (.string ⟨n0.toArray⟩)/\W'.cell? ⟨nb,no+1,I⟩=G (.string ⟨n1.toArray⟩)) W):=f (λW hb hs=>⟨(Z (a:=⟨w.1.size,0,I⟩) hb).trans (HX.q.1 0),(Z (a:=⟨w.1.size,1,I⟩) hb).trans (HX.q.1 1),(Z (a:=⟨w.1.size,2,I⟩) hb).trans (HX.q.1 2),hs.cell hd0 ah,hs.cell hd1 ah⟩);have gW:S (∀W,Same (λi=>i<B\/(K<=i/\i<K+3)) w W->¬aI (aO c s)->gN B K R (aO c s) w (.panicked kD) W):=f (λW hs hn=>⟨hs,λk=>absurd k hn,λ_=>rfl⟩);have jJ:S (True/\(aI (aO c s)->aI ((c.put 0 n0)))/\(aI (aO c s)->aI (((c.put 0 n0).put 1 n1)))):=f (by rw[fD.q];exact⟨P,λk=>((Gr.put _ 1 _).trans (Gr.ev _ _ _)).fits k,λk=>(Gr.ev _ _ _).fits k⟩);have mP:S (Same (λi=>i≠R) V V.drew):=f (Same.of_below (U _ _).drew (λ_ _ h=>h));have HT0:S (Same (λi=>i<B\/(K<=i/\i<K+3)) w V.drew):=f (Same.of_below bE.q.drew (λi hi hl=>by have:=HB.q;have:=fH.q;have:=fM.q;have:=d9.q;omega));have gT:=f (h.below bE.q.drew);have yU:=f hf;have HG:=f hG;have HW:=f ((⟨hok.1 n0 (by rw[hn];simp),hok.1 n1 (by rw[hn];simp)⟩:_/\_));have uK:S (V.drew.1[w.1.size]?=V.1[w.1.size]?):=f rfl;clear k2 k3 k4 k5 k6 hk hn;clear h hf hG hl hok hb0 hd0 hb1 hd1;go_enter Tryz.func35,Tryz.ntmps35;go_wp2_with fail;rw[<-hV];clear hV;refine dm 99 [(0,0),(1,0),(2,0),(3,0),(4,0),(5,0),(6,0),(7,0),(9,0),(10,0),(11,0),(12,0),(13,0),(15,0),(16,0),(8,2),(14,2),(17,0),(18,2)] (λ_=>True) (λW'=>W'.cell? ⟨w.1.size,0,I⟩=G (J N 1)/\W'.cell? ⟨w.1.size,1,I⟩=G (H (G ⟨nb,no,I⟩) 2 nc)/\W'.cell? ⟨w.1.size,2,I⟩=G (J N lvl)/\W'.cell? ⟨nb,no,I⟩=G (.string ⟨n0.toArray⟩)/\W'.cell? ⟨nb,no+1,I⟩=G (.string ⟨n1.toArray⟩)) (λch w'=>gN B K R (aO c s) w (.panicked ch) w') av av (λch a1 w1 hd hr=>⟨hd,hr⟩) (trivial) (cB.q _ uK.q HT0.q) ?_;refine qC ?_;refine aD rfl rfl (λK hK=>?_);go_simp;refine(iF 0 ah n0 _ gT.q yU.q HW.q.1 (HG.q.same HT0.q)).mono ?_;rintro e w1 ⟨hS,he⟩;have iE:=f (mP.q.tr hS);have HT1:=f (HT0.q.tr (hS.mono (λi hi _=>by have:=HB.q;have:=fH.q;have:=fM.q;omega)));rcases iD (aI (c.put 0 n0)) with hf|hf;rotate_left
 .obtain rfl:=he.2 hf
  exact⟨rfl,gW.q _ HT1.q (λk=>hf (jJ.q.2.1 k))⟩
 obtain⟨rfl,cs1,hr,hz,ho⟩:=he.1 hf;have HR1:=f hr;have ug:=f hf;have gu:=f ho;have mM:=f (iE.q.block w.1.size (by have:=d9.q;omega) HX.q.2.2);refine hK _ _ ⟨P,cB.q _ mM.q HT1.q⟩ ?_;clear hK K hr hz ho hf he hS;refine aD rfl rfl (λK hK=>?_);go_simp;refine(iF 1 ah n1 _ HR1.q ug.q HW.q.2 (HG.q.same HT1.q)).mono ?_;rintro e w2 ⟨hS,he⟩;have HS2:=f (iE.q.tr hS);have HT2:=f (HT1.q.tr (hS.mono (λi hi _=>by have:=HB.q;have:=fH.q;have:=fM.q;omega)));rcases iD (aI ((c.put 0 n0).put 1 n1)) with hf|hf;rotate_left
 .obtain rfl:=he.2 hf
  exact⟨rfl,gW.q _ HT2.q (λk=>hf (jJ.q.2.2 k))⟩
 obtain⟨rfl,cs2,hr,hz,ho⟩:=he.1 hf;have HR2:=f hr;have sO:=f hf;have iA:=f ho;have kI:=f (HS2.q.block w.1.size (by have:=d9.q;omega) HX.q.2.2);refine hK _ _ ⟨P,cB.q _ kI.q HT2.q⟩ ?_;clear hK K hr hz ho hf he hS;refine qC ?_;refine aD rfl rfl (λK hK=>?_);go_simp;refine(Kq ⟨1,c.no 0 n0,(c.put 0 n0).no 1 n1,lvl,0,⟨0,0⟩,0,I,0,0⟩ [] _ HR2.q.s (let⟨mb,m1,m2,m3⟩:=HR2.q.m;⟨mb,m1,m2.other (by show(1:Int)≠2;decide),m3⟩) HB.q sO.q (Own.fJ _ _ _ _ _) (λk=>absurd k (by show(1:Int)≠2;decide)) (HT2.q.Jq yB.q) fH.q).mono ?_;rintro e w3 ⟨hfr,hS,he⟩;have zX:=f (HT2.q.tr hS);have kY:=f ((hfr w.1.size _ _ _ (kI.q.trans zW.q) aj (by have:=d9.q;omega)).trans kI.q);rcases iD (aI (aO c s)) with hf|hf;rotate_left
 .obtain rfl:=he.2 (by rw[fD.q] at hf;exact hf)
  exact⟨rfl,gW.q _ zX.q hf⟩
 obtain⟨rfl,hr⟩:=he.1 (by rw[fD.q] at hf;exact hf);have BD:=f hr;have zS:=f hf;refine hK _ _ ⟨P,cB.q _ kY.q zX.q⟩ ?_;clear hK K hr hf he hS hfr;refine jm ?_;go_wp2_with fail;refine bodyPost_end (results_none rfl _ _ _) rfl ?_;exact⟨zX.q,λ_=>⟨rfl,by rw[fD.q];exact BD.q⟩,λk=>absurd zS.q k⟩
theorem Sb (l:bB)(s:aP)(w:World)(h:jy B w R cs c es ds ms)(hf:aI c)(hl:vK w B l s)(hk:s.kind=5\/s.kind=6)(hok:fB s)(hG:nC B K w)(oN:oM w K)(rM:R<K):
  Calls Tryz.prog 39 #[.pointer (G ⟨R,0,I⟩),jg l] w (gN B K R (aO c s) w):=by
 obtain⟨n0,hn⟩:=FM hok ah;have hnn:l.nn=1:=by rw[hl.k.2.2.2.2.1,hn];rfl
 obtain⟨nb,no,ha0,hb0,hd0⟩:=hl.name (i:=0) (x:=n0) (by rw[hn];rfl);obtain⟨lk,la,ln,nc,lvl,va,vn,vc,lf,bits⟩:=l;obtain⟨k1,k2,k3,k4,k5,k6⟩:=hl.k;simp only at k1 k2 k3 k4 k5 k6 ha0 hnn;rw[<-k1] at hk;have fD:S (aO c s=(c.put 0 n0).ev ⟨lk,c.no 0 n0,0,0,0,⟨0,0⟩,0,I,0,0⟩ []):=f (by unfold aO;rw[<-k1];simp only[hn];rcases hk with rfl|rfl <;> rfl);have Aj:S (lk≠2):=f ah;subst ha0 hnn;have yB:=f oN;have fH:=f rM;have fM:S (K+3<=w.1.size):=f (let⟨q,T,fz,e,_⟩:=oN (K+2) ah ah;(dI.1 e).1);clear oN rM;have HB:=f h.b;have d9:S (R<w.1.size):=f h.s.t.b.2.2;obtain⟨V,hV⟩:∃V,V=w.alloc (.cells #[J N lk,H (G ⟨nb,no,I⟩) 1 nc,J N lvl,H va vn vc,.bool lf,J N bits] 30):=⟨_,rfl⟩;have bE:S (Below w.1.size w V):=f (by rw[hV];exact aB (U w.1.size w) _);have HX:S (Bx V w.1.size #[J N lk,H (G ⟨nb,no,I⟩) 1 nc,J N lvl,H va vn vc,.bool lf,J N bits]):=f (by rw[hV];exact Bx.new w _ _);have zW:S (V.1[w.1.size]?=G (.cells #[J N lk,H (G ⟨nb,no,I⟩) 1 nc,J N lvl,H va vn vc,.bool lf,J N bits] 30 (0,0))):=f (by rw[hV];exact eH w _);have cB:S (∀W,W.1[w.1.size]?=V.1[w.1.size]?->Same (λi=>i<B\/(K<=i/\i<K+3)) w W->(λW'=>W'.cell? ⟨w.1.size,0,I⟩=G (J N lk)/\W'.cell? ⟨w.1.size,1,I⟩=G (H (G ⟨nb,no,I⟩) 1 nc)/\W'.cell? ⟨nb,no,I⟩=G (.string ⟨n0.toArray⟩)) W):=f (λW hb hs=>⟨(Z (a:=⟨w.1.size,0,I⟩) hb).trans (HX.q.1 0),(Z (a:=⟨w.1.size,1,I⟩) hb).trans (HX.q.1 1),hs.cell hd0 ah⟩);have gW:S (∀W,Same (λi=>i<B\/(K<=i/\i<K+3)) w W->¬aI (aO c s)->gN B K R (aO c s) w (.panicked kD) W):=f (λW hs hn=>⟨hs,λk=>absurd k hn,λ_=>rfl⟩);have jJ:S (True/\(aI (aO c s)->aI ((c.put 0 n0)))):=f (by rw[fD.q];exact⟨P,λk=>(Gr.ev _ _ _).fits k⟩);have mP:S (Same (λi=>i≠R) V V.drew):=f (Same.of_below (U _ _).drew (λ_ _ h=>h));have HT0:S (Same (λi=>i<B\/(K<=i/\i<K+3)) w V.drew):=f (Same.of_below bE.q.drew (λi hi hl=>by have:=HB.q;have:=fH.q;have:=fM.q;have:=d9.q;omega));have gT:=f (h.below bE.q.drew);have yU:=f hf;have HG:=f hG;have HW:=f (hok.1 n0 (by rw[hn];simp));have uK:S (V.drew.1[w.1.size]?=V.1[w.1.size]?):=f rfl;clear k1 k2 k3 k4 k5 k6 hk hn;clear h hf hG hl hok hb0 hd0;go_enter Tryz.func39,Tryz.ntmps39;go_wp2_with fail;rw[<-hV];clear hV;refine dm 99 [(0,0),(1,0),(2,0),(3,0),(4,0),(5,0),(6,0),(7,0),(8,2),(9,0),(10,2)] (λ_=>True) (λW'=>W'.cell? ⟨w.1.size,0,I⟩=G (J N lk)/\W'.cell? ⟨w.1.size,1,I⟩=G (H (G ⟨nb,no,I⟩) 1 nc)/\W'.cell? ⟨nb,no,I⟩=G (.string ⟨n0.toArray⟩)) (λch w'=>gN B K R (aO c s) w (.panicked ch) w') av av (λch a1 w1 hd hr=>⟨hd,hr⟩) (trivial) (cB.q _ uK.q HT0.q) ?_;refine qC ?_;refine aD rfl rfl (λK hK=>?_);go_simp;refine(iF 0 ah n0 _ gT.q yU.q HW.q (HG.q.same HT0.q)).mono ?_;rintro e w1 ⟨hS,he⟩;have iE:=f (mP.q.tr hS);have HT1:=f (HT0.q.tr (hS.mono (λi hi _=>by have:=HB.q;have:=fH.q;have:=fM.q;omega)));rcases iD (aI (c.put 0 n0)) with hf|hf;rotate_left
 .obtain rfl:=he.2 hf
  exact⟨rfl,gW.q _ HT1.q (λk=>hf (jJ.q.2 k))⟩
 obtain⟨rfl,cs1,hr,hz,ho⟩:=he.1 hf;have HR1:=f hr;have ug:=f hf;have gu:=f ho;have mM:=f (iE.q.block w.1.size (by have:=d9.q;omega) HX.q.2.2);refine hK _ _ ⟨P,cB.q _ mM.q HT1.q⟩ ?_;clear hK K hr hz ho hf he hS;refine qC ?_;refine aD rfl rfl (λK hK=>?_);go_simp;refine(Kq ⟨lk,c.no 0 n0,0,0,0,⟨0,0⟩,0,I,0,0⟩ [] _ HR1.q.s (let⟨mb,m1,m2,m3⟩:=HR1.q.m;⟨mb,m1,m2.other Aj.q,m3⟩) HB.q ug.q (Own.fJ _ _ _ _ _) (λk=>absurd k Aj.q) (HT1.q.Jq yB.q) fH.q).mono ?_;rintro e w2 ⟨hfr,hS,he⟩;have zX:=f (HT1.q.tr hS);have kI:=f ((hfr w.1.size _ _ _ (mM.q.trans zW.q) aj (by have:=d9.q;omega)).trans mM.q);rcases iD (aI (aO c s)) with hf|hf;rotate_left
 .obtain rfl:=he.2 (by rw[fD.q] at hf;exact hf)
  exact⟨rfl,gW.q _ zX.q hf⟩
 obtain⟨rfl,hr⟩:=he.1 (by rw[fD.q] at hf;exact hf);have BD:=f hr;have zS:=f hf;refine hK _ _ ⟨P,cB.q _ kI.q zX.q⟩ ?_;clear hK K hr hf he hS hfr;refine jm ?_;go_wp2_with fail;refine bodyPost_end (results_none rfl _ _ _) rfl ?_;exact⟨zX.q,λ_=>⟨rfl,by rw[fD.q];exact BD.q⟩,λk=>absurd zS.q k⟩
theorem Zk (l:bB)(s:aP)(w:World)(h:jy B w R cs c es ds ms)(hf:aI c)(hl:vK w B l s)(hk:s.kind=3)(hok:fB s)(hG:nC B K w)(oN:oM w K)(rM:R<K):
  Calls Tryz.prog 37 #[.pointer (G ⟨R,0,I⟩),jg l] w (gN B K R (aO c s) w):=by
 obtain⟨n0,n1,hn⟩:=names2 hok (.inr (.inr hk));obtain⟨v0,hv⟩:=abr hok hk;have J3:l.vn=1:=by rw[hl.k.2.2.2.2.2,hv];rfl
 obtain⟨vb,vo,hva,hbv,afZ,af0⟩:=hl.bR (i:=0) (x:=v0) (by rw[hv];rfl);have hnn:l.nn=2:=by rw[hl.k.2.2.2.2.1,hn];rfl
 obtain⟨nb,no,ha0,hb0,hd0⟩:=hl.name (i:=0) (x:=n0) (by rw[hn];rfl);obtain⟨nb',no',ha1,hb1,hd1⟩:=hl.name (i:=1) (x:=n1) (by rw[hn];rfl);rw[ha0] at ha1;injection ha1 with q;injection q with q1 q2;subst q1 q2;obtain⟨lk,la,ln,nc,lvl,va,vn,vc,lf,bits⟩:=l;simp only at hva J3;subst hva J3;obtain⟨k1,k2,k3,k4,k5,k6⟩:=hl.k;simp only at k1 k2 k3 k4 k5 k6 ha0 hnn;rw[hk] at k1;subst k1;have fD:S (aO c s=(((c.put 0 n0).put 2 n1).bR v0).1.ev ⟨3,c.no 0 n0,0,0,(c.put 0 n0).no 2 n1,(((c.put 0 n0).put 2 n1).bR v0).2,0,I,0,0⟩ []):=f (by unfold aO;simp only[hk,hn,hv,<-k2,<-k3,<-k4];rfl);subst ha0 hnn;have yB:=f oN;have fH:=f rM;have fM:S (K+3<=w.1.size):=f (let⟨q,T,fz,e,_⟩:=oN (K+2) ah ah;(dI.1 e).1);clear oN rM;have HB:=f h.b;have d9:S (R<w.1.size):=f h.s.t.b.2.2;obtain⟨V,hV⟩:∃V,V=w.alloc (.cells #[J N 3,H (G ⟨nb,no,I⟩) 2 nc,J N lvl,H (G ⟨vb,vo,I⟩) 1 vc,.bool lf,J N bits] 30):=⟨_,rfl⟩;have bE:S (Below w.1.size w V):=f (by rw[hV];exact aB (U w.1.size w) _);have HX:S (Bx V w.1.size #[J N 3,H (G ⟨nb,no,I⟩) 2 nc,J N lvl,H (G ⟨vb,vo,I⟩) 1 vc,.bool lf,J N bits]):=f (by rw[hV];exact Bx.new w _ _);have zW:S (V.1[w.1.size]?=G (.cells #[J N 3,H (G ⟨nb,no,I⟩) 2 nc,J N lvl,H (G ⟨vb,vo,I⟩) 1 vc,.bool lf,J N bits] 30 (0,0))):=f (by rw[hV];exact eH w _);have cB:S (∀W,W.1[w.1.size]?=V.1[w.1.size]?->Same (λi=>i<B\/(K<=i/\i<K+3)) w W->(λW'=>W'.cell? ⟨w.1.size,1,I⟩=G (H (G ⟨nb,no,I⟩) 2 nc)/\W'.cell? ⟨nb,no,I⟩=G (.string ⟨n0.toArray⟩)/\W'.cell? ⟨nb,no+1,I⟩=G (.string ⟨n1.toArray⟩)/\W'.cell? ⟨w.1.size,0,I⟩=G (J N 3)/\W'.cell? ⟨w.1.size,3,I⟩=G (H (G ⟨vb,vo,I⟩) 1 vc)/\W'.cell? ⟨vb,vo,I⟩=G (.string ⟨v0.name.toArray⟩)/\W'.cell? ⟨vb,vo+1,I⟩=G (J N v0.k)) W):=f (λW hb hs=>⟨(Z (a:=⟨w.1.size,1,I⟩) hb).trans (HX.q.1 1),hs.cell hd0 ah,hs.cell hd1 ah,(Z (a:=⟨w.1.size,0,I⟩) hb).trans (HX.q.1 0),(Z (a:=⟨w.1.size,3,I⟩) hb).trans (HX.q.1 3),hs.cell afZ ah,hs.cell af0 ah⟩);have gW:S (∀W,Same (λi=>i<B\/(K<=i/\i<K+3)) w W->¬aI (aO c s)->gN B K R (aO c s) w (.panicked kD) W):=f (λW hs hn=>⟨hs,λk=>absurd k hn,λ_=>rfl⟩);have jJ:S (True/\(aI (aO c s)->aI ((c.put 0 n0)))/\(aI (aO c s)->aI (((c.put 0 n0).put 2 n1)))/\(aI (aO c s)->aI ((((c.put 0 n0).put 2 n1).bR v0).1))):=f (by rw[fD.q];exact⟨P,λk=>((Gr.put _ 2 _).trans ((Gr.bR _ _).trans (Gr.ev _ _ _))).fits k,λk=>((Gr.bR _ _).trans (Gr.ev _ _ _)).fits k,λk=>(Gr.ev _ _ _).fits k⟩);have mP:S (Same (λi=>i≠R) V V.drew):=f (Same.of_below (U _ _).drew (λ_ _ h=>h));have HT0:S (Same (λi=>i<B\/(K<=i/\i<K+3)) w V.drew):=f (Same.of_below bE.q.drew (λi hi hl=>by have:=HB.q;have:=fH.q;have:=fM.q;have:=d9.q;omega));have gT:=f (h.below bE.q.drew);have yU:=f hf;have HG:=f hG;have HW:=f ((⟨hok.1 n0 (by rw[hn];simp),hok.1 n1 (by rw[hn];simp),hok.2.1 v0 (by rw[hv];simp)⟩:_/\_/\_));have uK:S (V.drew.1[w.1.size]?=V.1[w.1.size]?):=f rfl;clear k2 k3 k4 k5 k6 hk hn;clear h hf hG hl hok hbv afZ af0 hb0 hd0 hb1 hd1;go_enter Tryz.func37,Tryz.ntmps37;go_wp2_with fail;rw[<-hV];clear hV;refine dm 99 [(0,0),(1,0),(2,0),(3,0),(4,0),(6,0),(7,0),(8,0),(9,0),(10,0),(5,2),(11,2),(12,0),(13,0)] (λ_=>True) (λW'=>W'.cell? ⟨w.1.size,1,I⟩=G (H (G ⟨nb,no,I⟩) 2 nc)/\W'.cell? ⟨nb,no,I⟩=G (.string ⟨n0.toArray⟩)/\W'.cell? ⟨nb,no+1,I⟩=G (.string ⟨n1.toArray⟩)/\W'.cell? ⟨w.1.size,0,I⟩=G (J N 3)/\W'.cell? ⟨w.1.size,3,I⟩=G (H (G ⟨vb,vo,I⟩) 1 vc)/\W'.cell? ⟨vb,vo,I⟩=G (.string ⟨v0.name.toArray⟩)/\W'.cell? ⟨vb,vo+1,I⟩=G (J N v0.k)) (λch w'=>gN B K R (aO c s) w (.panicked ch) w') av av (λch a1 w1 hd hr=>⟨hd,hr⟩) (trivial) (cB.q _ uK.q HT0.q) ?_;refine qC ?_;refine aD rfl rfl (λK hK=>?_);go_simp;refine(iF 0 ah n0 _ gT.q yU.q HW.q.1 (HG.q.same HT0.q)).mono ?_;rintro e w1 ⟨hS,he⟩;have iE:=f (mP.q.tr hS);have HT1:=f (HT0.q.tr (hS.mono (λi hi _=>by have:=HB.q;have:=fH.q;have:=fM.q;omega)));rcases iD (aI (c.put 0 n0)) with hf|hf;rotate_left
 .obtain rfl:=he.2 hf
  exact⟨rfl,gW.q _ HT1.q (λk=>hf (jJ.q.2.1 k))⟩
 obtain⟨rfl,cs1,hr,hz,ho⟩:=he.1 hf;have HR1:=f hr;have ug:=f hf;have gu:=f ho;have mM:=f (iE.q.block w.1.size (by have:=d9.q;omega) HX.q.2.2);refine hK _ _ ⟨P,cB.q _ mM.q HT1.q⟩ ?_;clear hK K hr hz ho hf he hS;refine aD rfl rfl (λK hK=>?_);go_simp;refine(iF 2 ah n1 _ HR1.q ug.q HW.q.2.1 (HG.q.same HT1.q)).mono ?_;rintro e w2 ⟨hS,he⟩;have HS2:=f (iE.q.tr hS);have HT2:=f (HT1.q.tr (hS.mono (λi hi _=>by have:=HB.q;have:=fH.q;have:=fM.q;omega)));rcases iD (aI ((c.put 0 n0).put 2 n1)) with hf|hf;rotate_left
 .obtain rfl:=he.2 hf
  exact⟨rfl,gW.q _ HT2.q (λk=>hf (jJ.q.2.2.1 k))⟩
 obtain⟨rfl,cs2,hr,hz,ho⟩:=he.1 hf;have HR2:=f hr;have sO:=f hf;have iA:=f ho;have kI:=f (HS2.q.block w.1.size (by have:=d9.q;omega) HX.q.2.2);refine hK _ _ ⟨P,cB.q _ kI.q HT2.q⟩ ?_;clear hK K hr hz ho hf he hS;refine qC ?_;refine jm ?_;have jD:=f (HS2.q.tr (Same.of_below (U w2.1.size w2).drew (λ_ _ h=>h)));have HT3:=f (HT2.q.tr (Same.of_below (U w2.1.size w2).drew (λ_ _ h=>h)));have HR3:=f (HR2.q.below (U w2.1.size w2).drew);have uG:=sO;have kY:S (w2.drew.1[w.1.size]?=V.1[w.1.size]?):=f kI.q;go_wp2_with fail;refine dm 99 [(0,0),(1,0),(2,0),(3,0),(4,0),(5,0),(6,0),(7,0),(8,0),(9,0),(10,2),(11,0),(12,2)] (λ_=>True) (λW'=>W'.cell? ⟨w.1.size,1,I⟩=G (H (G ⟨nb,no,I⟩) 2 nc)/\W'.cell? ⟨nb,no,I⟩=G (.string ⟨n0.toArray⟩)/\W'.cell? ⟨nb,no+1,I⟩=G (.string ⟨n1.toArray⟩)/\W'.cell? ⟨w.1.size,0,I⟩=G (J N 3)/\W'.cell? ⟨w.1.size,3,I⟩=G (H (G ⟨vb,vo,I⟩) 1 vc)/\W'.cell? ⟨vb,vo,I⟩=G (.string ⟨v0.name.toArray⟩)/\W'.cell? ⟨vb,vo+1,I⟩=G (J N v0.k)) (λch w'=>gN B K R (aO c s) w (.panicked ch) w') av av (λch a1 w1 hd hr=>⟨hd,hr⟩) (trivial) (cB.q _ kY.q HT3.q) ?_;refine qC ?_;refine aD rfl rfl (λK hK=>?_);go_simp;refine(R7 v0 _ HR3.q uG.q HW.q.2.2 (HG.q.same HT3.q)).mono ?_;rintro e w4 ⟨hS,he⟩;have BF:=f (jD.q.tr hS);have xM:=f (HT3.q.tr (hS.mono (λi hi _=>by have:=HB.q;have:=fH.q;have:=fM.q;omega)));rcases iD (aI (((c.put 0 n0).put 2 n1).bR v0).1) with hf|hf;rotate_left
 .obtain rfl:=he.2 hf
  exact⟨rfl,gW.q _ xM.q (λk=>hf (jJ.q.2.2.2 k))⟩
 obtain⟨rfl,Rl,hr,hz,ho⟩:=he.1 hf;have HR4:=f hr;have Ar:=f hf;have J2:=f ho;have uM:=f (BF.q.block w.1.size (by have:=d9.q;omega) HX.q.2.2);refine hK _ _ ⟨P,cB.q _ uM.q xM.q⟩ ?_;clear hK K hr hz ho hf he hS;refine qC ?_;refine aD rfl rfl (λK hK=>?_);go_simp;refine(Kq ⟨3,c.no 0 n0,0,0,(c.put 0 n0).no 2 n1,(((c.put 0 n0).put 2 n1).bR v0).2,0,I,0,0⟩ [] _ HR4.q.s (let⟨mb,m1,m2,m3⟩:=HR4.q.m;⟨mb,m1,m2.other (by show(3:Int)≠2;decide),m3⟩) HB.q Ar.q (Own.fJ _ _ _ _ _) (λk=>absurd k (by show(3:Int)≠2;decide)) (xM.q.Jq yB.q) fH.q).mono ?_;rintro e w5 ⟨hfr,hS,he⟩;have zX:=f (xM.q.tr hS);have OP:=f ((hfr w.1.size _ _ _ (uM.q.trans zW.q) aj (by have:=d9.q;omega)).trans uM.q);rcases iD (aI (aO c s)) with hf|hf;rotate_left
 .obtain rfl:=he.2 (by rw[fD.q] at hf;exact hf)
  exact⟨rfl,gW.q _ zX.q hf⟩
 obtain⟨rfl,hr⟩:=he.1 (by rw[fD.q] at hf;exact hf);have BD:=f hr;have zS:=f hf;refine hK _ _ ⟨P,cB.q _ OP.q zX.q⟩ ?_;clear hK K hr hf he hS hfr;refine jm ?_;go_wp2_with fail;refine bodyPost_end (results_none rfl _ _ _) rfl ?_;exact⟨zX.q,λ_=>⟨rfl,by rw[fD.q];exact BD.q⟩,λk=>absurd zS.q k⟩
end
theorem jy.want {B R:Nat}{cs:Array Value}{c:Cont}{es:O EvC}{ds:O aM}{ms:O aN}{X Y:World}(h:jy B X R cs c es ds ms){v4 v':Value}(h4:cs[7]?=G v4)(hO4:Own X (R+1) 79 2 fQ v4 c.Q)(hs:Same (λi=>i≠R/\v4.ownBlock≠G i) X Y){x:Wa}
  (hO:Own Y (R+1) 79 2 fQ v' (c.Q++[x])) (hB:Bx Y R (cs.setIfInBounds 7 v')):jy B Y R (cs.setIfInBounds 7 v') {c with Q:=c.Q++[x]} es ds ms:=
 ⟨h.s.want h4 hs hO hB,(let⟨mb,m1,m2,m3⟩:=h.m;⟨mb,by rw[jO ah];exact m1,m2.same hs ⟨h.s.t.b.BB m1 m2.obj,λq=>by
  obtain⟨cs1,f1,e1⟩:=hO4.tag q;obtain⟨_,_,e2⟩:=m2.obj;rw[e1] at e2;cases e2⟩,m3⟩),h.b⟩
theorem jy.order {B R:Nat}{cs:Array Value}{c:Cont}{es:O EvC}{ds:O aM}{ms:O aN}{X Y:World}(h:jy B X R cs c es ds ms){v4 v':Value}(h4:cs[5]?=G v4)(hO4:Own X (R+1) 74 2 eZ v4 ds)(hs:Same (λi=>i≠R/\v4.ownBlock≠G i) X Y){x:aM}{l:O Int}
  (hO:Own Y (R+1) 74 2 eZ v' (ds++[x])) (hB:Bx Y R (cs.setIfInBounds 5 v')) (hl:Own X (R+1) 3 1 aQ x.val l):jy B Y R (cs.setIfInBounds 5 v') {c with D:=c.D++[x.base],SD:=c.SD++[l]} es (ds++[x]) ms:=
 ⟨h.s.order h4 hs hO hB hl,(let⟨mb,m1,m2,m3⟩:=h.m;⟨mb,by rw[jO ah];exact m1,m2.same hs ⟨h.s.t.b.BB m1 m2.obj,λq=>by
  obtain⟨cs1,f1,e1⟩:=hO4.tag q;obtain⟨_,_,e2⟩:=m2.obj;rw[e1] at e2;cases e2⟩,m3⟩),h.b⟩
theorem jy.NS {B R:Nat}{cs:Array Value}{c:Cont}{es:O EvC}{ds:O aM}{ms:O aN}{X Y:World}(h:jy B X R cs c es ds ms){v4 v':Value}(h4:cs[6]?=G v4)(hO4:Own X (R+1) 77 4 eP v4 ms)(hs:Same (λi=>i≠R/\v4.ownBlock≠G i) X Y){x:aN}{l:O Int}
  (hO:Own Y (R+1) 77 4 eP v' (ms++[x])) (hB:Bx Y R (cs.setIfInBounds 6 v')) (hl:Own X (R+1) 3 1 aQ x.val l):jy B Y R (cs.setIfInBounds 6 v') {c with M:=c.M++[x.base],SM:=c.SM++[l]} es ds (ms++[x]):=
 ⟨h.s.NS h4 hs hO hB hl,(let⟨mb,m1,m2,m3⟩:=h.m;⟨mb,by rw[jO ah];exact m1,m2.same hs ⟨h.s.t.b.BB m1 m2.obj,λq=>by
  obtain⟨cs1,f1,e1⟩:=hO4.tag q;obtain⟨_,_,e2⟩:=m2.obj;rw[e1] at e2;cases e2⟩,m3⟩),h.b⟩
theorem Row.wa1 (w:World)(x:Wa):Row (w.alloc (.cells #[J N x.dG,J N x.bits] 79)) 2 fQ (G ⟨w.1.size,0,I⟩) 1 1 [x]:=
 (Own.new (hc:=wC) w w.1.size 79 (enc:=fQ) #[J N x.dG,J N x.bits] [x] (aA _) rfl (by simp[maxLen])).row (hc:=wC) au
theorem Row.or1 (w:World)(x:aM):Row (w.alloc (.cells #[J N x.obj,H x.sa x.sn x.sc] 74)) 2 eZ (G ⟨w.1.size,0,I⟩) 1 1 [x]:=
 (Own.new (hc:=uJ) w w.1.size 74 (enc:=eZ) #[J N x.obj,H x.sa x.sn x.sc] [x] (aA _) rfl (by simp[maxLen])).row (hc:=uJ) au
theorem Row.ma1 (w:World)(x:aN):Row (w.alloc (.cells #[J N x.pred,J N x.obj,.bool x.first,H x.sa x.sn x.sc] 77)) 4 eP (G ⟨w.1.size,0,I⟩) 1 1 [x]:=
 (Own.new (hc:=rJ) w w.1.size 77 (enc:=eP) #[J N x.pred,J N x.obj,.bool x.first,H x.sa x.sn x.sc] [x] (aA _) rfl (by simp[maxLen])).row (hc:=rJ) au
section
variable {B K R:Nat}{cs:Array Value}{c:Cont}{es:O EvC}{ds:O aM}{ms:O aN}
theorem Zl (l:bB)(s:aP)(w:World)(h:jy B w R cs c es ds ms)(hf:aI c)(hl:vK w B l s)(hk:s.kind=9)(hok:fB s)(hG:nC B K w)(oN:oM w K)(rM:R<K):
  Calls Tryz.prog 42 #[.pointer (G ⟨R,0,I⟩),jg l] w (gN B K R (aO c s) w):=by
 obtain⟨n0,hn⟩:=FM hok ah;have hnn:l.nn=1:=by rw[hl.k.2.2.2.2.1,hn];rfl
 obtain⟨nb,no,ha0,hb0,hd0⟩:=hl.name (i:=0) (x:=n0) (by rw[hn];rfl);obtain⟨v7,h7,oG⟩:=h.s.q;obtain⟨a7,c7,rfl,_,Dc⟩:=oG.shape;obtain⟨i,z,hi⟩:=Hf;have HI:=f hi;clear hi;obtain⟨lk,la,ln,nc,lvl,va,vn,vc,lf,bits⟩:=l;obtain⟨k1,k2,k3,k4,k5,k6⟩:=hl.k;simp only at k1 k2 k3 k4 k5 k6 ha0 hnn;rw[hk] at k1;subst k1;have fD:S (aO c s={c.put 1 n0 with Q:=c.Q++[⟨c.no 1 n0,bits⟩]}):=f (by unfold aO;simp only[hk,hn,<-k4];rfl);subst ha0 hnn;have yB:=f oN;have fH:=f rM;have fM:S (K+3<=w.1.size):=f (let⟨q,T,fz,e,_⟩:=oN (K+2) ah ah;(dI.1 e).1);clear oN rM;have HB:=f h.b;have d9:S (R<w.1.size):=f h.s.t.b.2.2;obtain⟨V,hV⟩:∃V,V=w.alloc (.cells #[J N 9,H (G ⟨nb,no,I⟩) 1 nc,J N lvl,H va vn vc,.bool lf,J N bits] 30):=⟨_,rfl⟩;have bE:S (Below w.1.size w V):=f (by rw[hV];exact aB (U w.1.size w) _);have HX:S (Bx V w.1.size #[J N 9,H (G ⟨nb,no,I⟩) 1 nc,J N lvl,H va vn vc,.bool lf,J N bits]):=f (by rw[hV];exact Bx.new w _ _);have zW:S (V.1[w.1.size]?=G (.cells #[J N 9,H (G ⟨nb,no,I⟩) 1 nc,J N lvl,H va vn vc,.bool lf,J N bits] 30 (0,0))):=f (by rw[hV];exact eH w _);have cB:S (∀W,W.1[w.1.size]?=V.1[w.1.size]?->Same (λi=>i<B\/(K<=i/\i<K+3)) w W->W.cell? ⟨R,7,I⟩=G (H a7 c.Q.length c7)->(λW'=>W'.cell? ⟨w.1.size,1,I⟩=G (H (G ⟨nb,no,I⟩) 1 nc)/\W'.cell? ⟨w.1.size,5,I⟩=G (J N bits)/\W'.cell? ⟨nb,no,I⟩=G (.string ⟨n0.toArray⟩)/\W'.cell? ⟨R,7,I⟩=G (H a7 c.Q.length c7)) W):=f (λW hb hs hr=>⟨(Z (a:=⟨w.1.size,1,I⟩) hb).trans (HX.q.1 1),(Z (a:=⟨w.1.size,5,I⟩) hb).trans (HX.q.1 5),hs.cell hd0 ah,hr⟩);have gW:S (∀W,Same (λi=>i<B\/(K<=i/\i<K+3)) w W->¬aI (aO c s)->gN B K R (aO c s) w (.panicked kD) W):=f (λW hs hn=>⟨hs,λk=>absurd k hn,λ_=>rfl⟩);have jJ:S (True/\(aI (aO c s)->aI (c.put 1 n0))):=f ⟨P,by rw[fD.q];exact λk=>(show Gr (c.put 1 n0) {c.put 1 n0 with Q:=c.Q++[⟨c.no 1 n0,bits⟩]} from⟨λ_=>iK _,iK _,iK _,iK _,fP _ _⟩).fits k⟩;have jE:S (V.drew.1.size=w.1.size+1):=f (by show V.1.size=_;rw[hV];exact World.size_alloc _ _);have mP:S (Same (λi=>i≠R) V V.drew):=f (Same.of_below (U _ _).drew (λ_ _ h=>h));have HT0:S (Same (λi=>i<B\/(K<=i/\i<K+3)) w V.drew):=f (Same.of_below bE.q.drew (λi hi hl=>by have:=HB.q;have:=fH.q;have:=fM.q;have:=d9.q;omega));have gT:=f (h.below bE.q.drew);have yU:=f hf;have HG:=f hG;have HW:=f (hok.1 n0 (by rw[hn];simp));have uK:S (V.drew.1[w.1.size]?=V.1[w.1.size]?):=f rfl;have H7:=f h7;have mF:=f (oG.below bE.q rfl);have hx7:V.cell? ⟨R,7,I⟩=G (H a7 c.Q.length c7):=((h.s.t.b.keep bE.q).1 7).trans h7;have wm:=f hx7;have EB:(w.alloc (.cells #[J N 9,H (G ⟨nb,no,I⟩) 1 nc,J N lvl,H va vn vc,.bool lf,J N bits] 30)).cell? ⟨R,7,I⟩=G (H a7 c.Q.length c7):=by rw[<-hV];exact hx7
 have pI:S (∀g,(Value.slice a7 c.Q.length c7).ownBlock=G g->g≠w.1.size/\g≠R/\R+1<=g/\¬(K<=g/\g<K+3)):=f (λg hg=>⟨λe=>(by obtain⟨_,_,q⟩:=mF.q.tag hg;rw[e,zW.q] at q;cases q),λe=>(by have:=(mF.q.lt g hg).1;omega),(mF.q.lt g hg).1,λe=>(by obtain⟨_,_,q⟩:=mF.q.tag hg;obtain⟨_,T,_,q2,hT⟩:=yB.q g e.1 e.2;rw[bE.q.block g (by have:=fM.q;omega),q2] at q;cases q;simp[EA] at hT)⟩);clear k2 k3 k4 k5 k6 hk hn;have fT:S ((c.Q.length+1)*16<=140737488355328):=f (by have:=hf.2.2.2.2.1;omega);have lV:S (c.Q.length+1<=maxLen):=f (by have:=hf.2.2.2.2.1;unfold maxLen;omega);have AR:S (cs[7]?=G (H a7 c.Q.length c7)):=H7;have mD:S (Own V.drew (R+1) 79 2 fQ (H a7 c.Q.length c7) c.Q):=mF;have sK:S (w.1.size<V.drew.1.size):=f (by have:=jE.q;omega);clear h hf hG hl hok hb0 hd0 h7 oG;by_cases hroom:c.Q.length<3000;rotate_left
 .have hd:decide ((c.Q.length:Int)<3000)=false:=aX ah
  have OQ:S (¬aI (aO c s)):=f (λk=>hroom (by rw[fD.q] at k;have:=k.2.2.2.2.1;rw[dH,kT] at this;exact this));have HT:=f (Same.of_below (A:=λi=>i<B\/(K<=i/\i<K+3)) bE.q (λi hi hl=>by have:=HB.q;have:=fH.q;have:=fM.q;have:=d9.q;omega));clear hroom;go_enter Tryz.func42,Tryz.ntmps42;go_wp2_with fail;refine(mK _ _).mono ?_;rintro e w2 ⟨rfl,rfl⟩;rw[ak au];rw[<-hV];exact⟨rfl,gW.q _ HT.q OQ.q⟩
 have Kr:=f hroom;have hd:decide ((c.Q.length:Int)<3000)=true:=bA ah;clear hroom;go_enter Tryz.func42,Tryz.ntmps42;go_wp2_with fail;refine(mK _ _).mono ?_;rintro e w2 ⟨rfl,rfl⟩;rw[ay rfl];rw[<-hV];clear hV EB;go_wp2_with fail;refine dm 20 [(0,0),(1,0),(2,0),(3,0),(4,0),(5,0),(6,0),(7,0),(8,0),(9,0),(10,0),(12,0),(13,0),(11,2),(14,0),(15,2),(16,2),(17,1),(18,1),(19,0),(20,2)] (λ_=>True) (λW'=>W'.cell? ⟨w.1.size,1,I⟩=G (H (G ⟨nb,no,I⟩) 1 nc)/\W'.cell? ⟨w.1.size,5,I⟩=G (J N bits)/\W'.cell? ⟨nb,no,I⟩=G (.string ⟨n0.toArray⟩)/\W'.cell? ⟨R,7,I⟩=G (H a7 c.Q.length c7)) (λch w'=>gN B K R (aO c s) w (.panicked ch) w') av av (λch a1 w1 hd hr=>⟨hd,hr⟩) (trivial) (cB.q _ uK.q HT0.q wm.q) ?_;refine qC ?_;refine aD rfl rfl (λK hK=>?_);go_simp;refine(iF 1 ah n0 _ gT.q yU.q HW.q (HG.q.same HT0.q)).mono ?_;rintro e w1 ⟨hS,he⟩;have lW:=f hS;have iE:=f (mP.q.tr hS);have HT1:=f (HT0.q.tr (hS.mono (λi hi _=>by have:=HB.q;have:=fH.q;have:=fM.q;omega)));rcases iD (aI (c.put 1 n0)) with hf|hf;rotate_left
 .obtain rfl:=he.2 hf
  exact⟨rfl,gW.q _ HT1.q (λk=>hf (jJ.q.2 k))⟩
 obtain⟨rfl,cs1,hr,hz,ho⟩:=he.1 hf;have HR1:=f hr;have ug:=f hf;have gu:=f ho;have mM:=f (iE.q.block w.1.size (by have:=d9.q;omega) HX.q.2.2);have pF:S (cs1[7]?=_):=f ((gu.q 7 (.inl ah)).trans AR.q);have qW:=f (mD.q.gY lW.q);have lX:S (w.1.size<w1.1.size):=f (dz sK.q lW.q.size);refine hK _ _ ⟨P,cB.q _ mM.q HT1.q ((HR1.q.s.t.b.1 7).trans pF.q)⟩ ?_;clear hK K hr hz ho hf he hS;refine qC ?_;refine aD rfl rfl (λK hK=>?_);go_simp;have hba:=aB (U w1.1.size w1) (.cells #[J N (c.no 1 n0),J N bits] 79);have gU:=f hba;have IQ:=f (HT1.q.tr (Same.of_below hba (λi hi hl=>hl)));have Jr:S ((w1.alloc (.cells #[J N (c.no 1 n0),J N bits] 79)).1[w.1.size]?=V.1[w.1.size]?):=f ((hba.block _ (by have:=lX.q;omega)).trans mM.q);have CG:=f (HR1.q.s.t.b.keep hba);refine hK _ _ ⟨P,cB.q _ Jr.q IQ.q ((CG.q.1 7).trans pF.q)⟩ ?_;clear hK K hba;refine aD rfl rfl (λK hK=>?_);refine ko _ _ 34 rfl i z 16 underlying34 HI.q.1 HI.q.2.1 HI.q.2.2.1 HI.q.2.2.2.1 HI.q.2.2.2.2 rfl (qW.q.below gU.q rfl) (G ⟨w1.1.size,0,I⟩) 1 1 (c.Q.length+1) [⟨c.no 1 n0,bits⟩] rfl (Row.wa1 w1 _) rfl fT.q lV.q (dL (Nat.succ_le_of_lt HR1.q.s.t.b.2.2) gU.q.size) ?_;intro a' c' w9 fq dx lH;have Kt:=f (IQ.q.tr ⟨dx.os,dx.tape,dx.output,dx.size,λi hi hl=>dx.block i hl (λe=>by have:=(pI.q i e.symm).2.2.1;have:=(pI.q i e.symm).2.2.2;have:=HB.q;have:=fH.q;have:=fM.q;omega)⟩);have Ue:S (w9.1[w.1.size]?=V.1[w.1.size]?):=f ((dx.block w.1.size (dz lX.q gU.q.size) (λe=>(pI.q _ e.symm).1 rfl)).trans Jr.q);have wz:=CG.q.grown dx (λe=>(pI.q _ e).2.1 rfl);refine hK _ _ ⟨P,cB.q _ Ue.q Kt.q ((wz.1 7).trans pF.q)⟩ ?_;have tV:=(wz.1 7).trans pF.q;have Ap:=wz.2.1 7;have Oq:=f wz;have qL:=f fq;have iw:=f dx;clear hK K wz fq dx lH;refine qC ?_;refine bq rfl rfl rfl (λK hK=>?_);go_simp;refine hK _ _ P ?_;clear hK K;refine jm ?_;have zS:S (aI (aO c s)):=f (by rw[fD.q];have k:=ug.q;exact⟨k.1,k.2.1,k.2.2.1,k.2.2.2.1,by show(c.Q++[_]).length<=3000;rw[dH,kT];have:=Kr.q;omega,k.2.2.2.2.2⟩);go_wp2_with fail;refine bodyPost_end (results_none rfl _ _ _) rfl ?_;refine⟨Kt.q.setTail (λh=>by have:=HB.q;have:=fH.q;have:=fM.q;omega),λ_=>⟨rfl,?_⟩,λk=>absurd zS.q k⟩;rw[fD.q];have Au:Same (λi=>i≠R/\(Value.slice a7 c.Q.length c7).ownBlock≠G i) w1 (w9.setCell ⟨R,7,I⟩ (H a' (c.Q.length+1) c')):=
  ((Same.of_below gU.q (λ_ _ h=>h)).tr ⟨iw.q.os,iw.q.tape,iw.q.output,iw.q.size,λi hi hl=>iw.q.block i hl (λe=>hi.2 e.symm)⟩).setTail (λh=>h.1 rfl)
 exact⟨_,_,_,_,HR1.q.want (x:=(⟨c.no 1 n0,bits⟩:Wa)) pF.q qW.q Au (qL.q.same (A:=λi=>i≠R) ((Same.refl' _).setTail (λh=>h rfl)) (λg hg e=>by have:=(qL.q.lt g hg).1;omega)) (Oq.q.aZ 7 (dI.1 pF.q).1 _)⟩
end
theorem names7 {s:aP}(hok:fB s)(hk:s.kind=7):∃n0 rs,s.names=n0::rs/\rs.length<=300:=by
 have hlen:∃c:Nat,s.names.length=c+1/\c<=300:=by
  rcases hok.2.2 with h|h|h|h|h|h|h|h|h <;> (first|exact h.2.1|(exfalso;have:=h.1;omega))
 obtain⟨q,h1,h2⟩:=hlen
 match hn:s.names,h1 with
 |a::l,h1=>exact⟨a,l,rfl,by simp at h1;omega⟩
section
variable {B K R:Nat}{cs:Array Value}{c:Cont}{es:O EvC}{ds:O aM}{ms:O aN}
theorem WE (l:bB)(s:aP)(w:World)(h:jy B w R cs c es ds ms)(hf:aI c)(hl:vK w B l s)(hk:s.kind=7)(hok:fB s)(hG:nC B K w)(oN:oM w K)(rM:R<K):
  Calls Tryz.prog 40 #[.pointer (G ⟨R,0,I⟩),jg l] w (gN B K R (aO c s) w):=by
 obtain⟨n0,rs,hn,hle⟩:=names7 hok hk;have hnn:l.nn=rs.length+1:=by rw[hl.k.2.2.2.2.1,hn];rfl
 obtain⟨nb,no,ha0,hb0,hd0⟩:=hl.name (i:=0) (x:=n0) (by rw[hn];rfl);obtain⟨ra,hsl,hslA,hrow,hrb⟩:=Ej hl.n 1 ah;have hra:∀b o,ra=G ⟨b,o,I⟩->b<B:=λb o e=>(let⟨q,e1,e2⟩:=hrb b o e;by rw[ha0] at e1;injection e1 with e1;subst e1;subst e2;exact hb0)
 obtain⟨v7,h7,oG⟩:=h.s.d;obtain⟨a7,c7,rfl,_,Dc⟩:=oG.shape;obtain⟨i,z,hi⟩:=G9;have HI:=f hi;clear hi;obtain⟨lk,la,ln,nc,lvl,va,vn,vc,lf,bits⟩:=l;obtain⟨k1,k2,k3,k4,k5,k6⟩:=hl.k;simp only at k1 k2 k3 k4 k5 k6 ha0 hnn hsl hslA hrow;rw[hk] at k1;subst k1;have fD:S (aO c s={((c.put 2 n0).ts rs).1 with D:=((c.put 2 n0).ts rs).1.D++[⟨c.no 2 n0,I,0,0⟩],SD:=((c.put 2 n0).ts rs).1.SD++[((c.put 2 n0).ts rs).2]}):=f (by unfold aO;simp only[hk,hn];rw[(Nm.ts rs (c.put 2 n0)).d,(Nm.ts rs (c.put 2 n0)).sd];rfl);subst ha0 hnn;have hsl1:∀W,(Instr.slice 27 (H (G ⟨nb,no,I⟩) (rs.length+1) nc) (G (J N 1)) I I).run Tryz.prog W= .ok (H ra rs.length (nc - 1)) W:=hsl;have Tw:∀W,(Instr.sliceAt 27 (H (G ⟨nb,no,I⟩) (rs.length+1) nc) (G (J N 1)) I I).run Tryz.prog W= .ok (H ra rs.length (nc - 1)) W:=hslA;clear hsl hslA;have yB:=f oN;have fH:=f rM;have fM:S (K+3<=w.1.size):=f (let⟨q,T,fz,e,_⟩:=oN (K+2) ah ah;(dI.1 e).1);clear oN rM;have HB:=f h.b;have d9:S (R<w.1.size):=f h.s.t.b.2.2;obtain⟨V,hV⟩:∃V,V=w.alloc (.cells #[J N 7,H (G ⟨nb,no,I⟩) (rs.length+1) nc,J N lvl,H va vn vc,.bool lf,J N bits] 30):=⟨_,rfl⟩;have bE:S (Below w.1.size w V):=f (by rw[hV];exact aB (U w.1.size w) _);have HX:S (Bx V w.1.size #[J N 7,H (G ⟨nb,no,I⟩) (rs.length+1) nc,J N lvl,H va vn vc,.bool lf,J N bits]):=f (by rw[hV];exact Bx.new w _ _);have zW:S (V.1[w.1.size]?=G (.cells #[J N 7,H (G ⟨nb,no,I⟩) (rs.length+1) nc,J N lvl,H va vn vc,.bool lf,J N bits] 30 (0,0))):=f (by rw[hV];exact eH w _);have cB:S (∀W,W.1[w.1.size]?=V.1[w.1.size]?->Same (λi=>i<B\/(K<=i/\i<K+3)) w W->W.cell? ⟨R,5,I⟩=G (H a7 ds.length c7)->(λW'=>W'.cell? ⟨w.1.size,1,I⟩=G (H (G ⟨nb,no,I⟩) (rs.length+1) nc)/\W'.cell? ⟨R,5,I⟩=G (H a7 ds.length c7)) W):=f (λW hb hs hr=>⟨(Z (a:=⟨w.1.size,1,I⟩) hb).trans (HX.q.1 1),hr⟩);have gW:S (∀W,Same (λi=>i<B\/(K<=i/\i<K+3)) w W->¬aI (aO c s)->gN B K R (aO c s) w (.panicked kD) W):=f (λW hs hn=>⟨hs,λk=>absurd k hn,λ_=>rfl⟩);have jJ:S (True/\(aI (aO c s)->aI (c.put 2 n0))/\(aI (aO c s)->aI ((c.put 2 n0).ts rs).1)):=f (by rw[fD.q];have hg:Gr ((c.put 2 n0).ts rs).1 {((c.put 2 n0).ts rs).1 with D:=((c.put 2 n0).ts rs).1.D++[⟨c.no 2 n0,I,0,0⟩],SD:=((c.put 2 n0).ts rs).1.SD++[((c.put 2 n0).ts rs).2]}:=⟨λ_=>iK _,iK _,fP _ _,iK _,iK _⟩;exact⟨P,λk=>((Gr.ts rs _).trans hg).fits k,λk=>hg.fits k⟩);have LJ:S (((c.put 2 n0).ts rs).1.D.length=ds.length):=f (by rw[(Nm.ts rs (c.put 2 n0)).d];show c.D.length=_;rw[<-h.s.bd,bH]);have jE:S (V.1.size=w.1.size+1):=f (by show V.1.size=_;rw[hV];exact World.size_alloc _ _);have mP:S (Same (λi=>i≠R) V V):=f (Same.of_below (U _ _) (λ_ _ h=>h));have HT0:S (Same (λi=>i<B\/(K<=i/\i<K+3)) w V):=f (Same.of_below bE.q (λi hi hl=>by have:=HB.q;have:=fH.q;have:=fM.q;have:=d9.q;omega));have gT:=f (h.below bE.q);have yU:=f hf;have HG:=f hG;have HW:=f ((⟨hok.1 n0 (by rw[hn];simp),λs' hs'=>hok.1 s' (by rw[hn];exact iJ _ hs')⟩:_/\_));have uK:S (V.1[w.1.size]?=V.1[w.1.size]?):=f rfl;have H7:=f h7;have mF:=f (oG.below bE.q rfl);have hx7:V.cell? ⟨R,5,I⟩=G (H a7 ds.length c7):=((h.s.t.b.keep bE.q).1 5).trans h7;have wm:=f hx7;have EB:(w.alloc (.cells #[J N 7,H (G ⟨nb,no,I⟩) (rs.length+1) nc,J N lvl,H va vn vc,.bool lf,J N bits] 30)).cell? ⟨R,5,I⟩=G (H a7 ds.length c7):=by rw[<-hV];exact hx7
 have pI:S (∀g,(Value.slice a7 ds.length c7).ownBlock=G g->g≠w.1.size/\g≠R/\R+1<=g/\¬(K<=g/\g<K+3)):=f (λg hg=>⟨λe=>(by obtain⟨_,_,q⟩:=mF.q.tag hg;rw[e,zW.q] at q;cases q),λe=>(by have:=(mF.q.lt g hg).1;omega),(mF.q.lt g hg).1,λe=>(by obtain⟨_,_,q⟩:=mF.q.tag hg;obtain⟨_,T,_,q2,hT⟩:=yB.q g e.1 e.2;rw[bE.q.block g (by have:=fM.q;omega),q2] at q;cases q;simp[EA] at hT)⟩);rw[hn] at hrow;have Uf:S (Row w 1 encStr ra rs.length (nc - 1) rs):=f hrow;have Am:=f hra;have uF:=f hle;clear k2 k3 k4 k5 k6 hk hn;have hdl:ds.length<=3000:=by have:=hf.2.2.1;rw[<-h.s.bd,bH] at this;exact this
 have fT:S ((ds.length+1)*32<=140737488355328):=f ah;have lV:S (ds.length+1<=maxLen):=f (by unfold maxLen;omega);have AR:S (cs[5]?=G (H a7 ds.length c7)):=H7;have mD:S (Own V (R+1) 74 2 eZ (H a7 ds.length c7) ds):=mF;have sK:S (w.1.size<V.1.size):=f (by have:=jE.q;omega);have hcb:V.cell? ⟨w.1.size,1,I⟩=G (H (G ⟨nb,no,I⟩) (rs.length+1) nc):=HX.q.1 1;have hcn:V.cell? ⟨nb,no,I⟩=G (.string ⟨n0.toArray⟩):=HT0.q.cell hd0 ah;clear h hf hG hl hok hb0 hd0 h7 oG hrow hra hrb hle hdl;by_cases hroom:ds.length<3000;rotate_left
 .have hd:decide ((ds.length:Int)<3000)=false:=aX ah
  have OQ:S (¬aI (aO c s)):=f (λk=>hroom (by rw[fD.q] at k;have:=k.2.2.1;rw[dH,kT,LJ.q] at this;exact this));have HT:=f (Same.of_below (A:=λi=>i<B\/(K<=i/\i<K+3)) bE.q (λi hi hl=>by have:=HB.q;have:=fH.q;have:=fM.q;have:=d9.q;omega));clear hroom;go_enter Tryz.func40,Tryz.ntmps40;go_wp2_with fail;refine(mK _ _).mono ?_;rintro e w2 ⟨rfl,rfl⟩;rw[ak au];rw[<-hV];exact⟨rfl,gW.q _ HT.q OQ.q⟩
 have Kr:=f hroom;have hd:decide ((ds.length:Int)<3000)=true:=bA ah;clear hroom;go_enter Tryz.func40,Tryz.ntmps40;go_wp2_with fail;refine(mK _ _).mono ?_;rintro e w2 ⟨rfl,rfl⟩;rw[ay rfl];rw[<-hV];clear hV EB;go_wp2_with fail;refine(iF 2 ah n0 _ gT.q yU.q HW.q.1 (HG.q.same HT0.q)).mono ?_;rintro e w1 ⟨hS,he⟩;have lW:=f hS;have iE:=f (mP.q.tr hS);have HT1:=f (HT0.q.tr (hS.mono (λi hi _=>by have:=HB.q;have:=fH.q;have:=fM.q;omega)));rcases iD (aI (c.put 2 n0)) with hf|hf;rotate_left
 .obtain rfl:=he.2 hf
  exact⟨rfl,gW.q _ HT1.q (λk=>hf (jJ.q.2.1 k))⟩
 obtain⟨rfl,cs1,hr,hz,ho⟩:=he.1 hf;have HR1:=f hr;have ug:=f hf;have gu:=f ho;have mM:=f (iE.q.block w.1.size (by have:=d9.q;omega) HX.q.2.2);have pF:S (cs1[5]?=_):=f ((gu.q 5 (.inl ah)).trans AR.q);have qW:=f (mD.q.gY lW.q);have lX:S (w.1.size<w1.1.size):=f (dz sK.q lW.q.size);clear hr hz ho hf he hS hx7 hcb hcn;go_wp2_with fail;have iR:=f (Same.of_below (A:=λi=>i≠R) (U w1.1.size w1).drew (λ_ _ h=>h));have HS2:=f (iE.q.tr iR.q);have HT2:=f (HT1.q.tr (Same.of_below (U w1.1.size w1).drew (λi hi hl=>hl)));have HR2:=f (HR1.q.below (U w1.1.size w1).drew);have sO:=ug;have kI:S (w1.drew.1[w.1.size]?=V.1[w.1.size]?):=f mM.q;have uh:=pF;have sM:=f (qW.q.gY iR.q);have lM:S (w.1.size<w1.drew.1.size):=f lX.q;have Ug:S (Row w1.drew 1 encStr ra rs.length (nc - 1) rs):=f (HT2.q.row Uf.q (λb o e=> .inl (Am.q b o e)));refine dm 18 [(0,0),(1,0),(2,0),(3,0),(4,0),(5,0),(6,0),(7,0),(8,0),(9,0),(10,0),(11,2),(12,0),(13,2),(14,2),(15,1),(16,1),(17,0),(18,2)] (λ_=>True) (λW'=>W'.cell? ⟨w.1.size,1,I⟩=G (H (G ⟨nb,no,I⟩) (rs.length+1) nc)/\W'.cell? ⟨R,5,I⟩=G (H a7 ds.length c7)) (λch w'=>gN B K R (aO c s) w (.panicked ch) w') av av (λch a1 w1 hd hr=>⟨hd,hr⟩) (trivial) (cB.q _ kI.q HT2.q ((HR2.q.s.t.b.1 5).trans uh.q)) ?_;refine qC ?_;refine aD rfl rfl (λK hK=>?_);go_simp;refine(Wz rs ra rs.length _ _ HR2.q sO.q Ug.q (λb o e=>by have:=Am.q b o e;have:=HB.q;have:=fH.q;have:=fM.q;omega) HW.q.2 (by have:=uF.q;omega) (HG.q.same HT2.q) fH.q).mono ?_;rintro e w3 ⟨hS,he⟩;have fZ:=f hS;have jD:=f (HS2.q.tr hS);have HT3:=f (HT2.q.tr (hS.mono (λi hi _=>by have:=HB.q;have:=fH.q;have:=fM.q;omega)));rcases iD (aI ((c.put 2 n0).ts rs).1) with hf|hf;rotate_left
 .obtain rfl:=he.2 hf
  exact⟨rfl,gW.q _ HT3.q (λk=>hf (jJ.q.2.2 k))⟩
 obtain⟨a2,q2,rfl,how,tT,hr,hz,ho⟩:=he.1 hf;have HR3:=f hr;have uG:=f hf;have oK:=f ho;have kY:=f (jD.q.block w.1.size (by have:=d9.q;omega) HX.q.2.2);have HOW:=f (how.mono (B':=R+1) (by have:=HR2.q.s.t.b.2.2;omega));have qX:S (tT[5]?=_):=f ((oK.q 5 (.inl ah)).trans uh.q);have wV:=f (sM.q.gY fZ.q);have pR:S (w.1.size<w3.1.size):=f (dz lM.q fZ.q.size);refine hK _ _ ⟨P,cB.q _ kY.q HT3.q ((HR3.q.s.t.b.1 5).trans qX.q)⟩ ?_;clear hK K hr hz ho hf he hS how;refine qC ?_;refine aD rfl rfl (λK hK=>?_);go_simp;have hba:=aB (U w3.1.size w3) (.cells #[J N (c.no 2 n0),H a2 rs.length q2] 74);have gU:=f hba;have IQ:=f (HT3.q.tr (Same.of_below hba (λi hi hl=>hl)));have Jr:S ((w3.alloc (.cells #[J N (c.no 2 n0),H a2 rs.length q2] 74)).1[w.1.size]?=V.1[w.1.size]?):=f ((hba.block _ (by have:=pR.q;omega)).trans kY.q);have CG:=f (HR3.q.s.t.b.keep hba);refine hK _ _ ⟨P,cB.q _ Jr.q IQ.q ((CG.q.1 5).trans qX.q)⟩ ?_;clear hK K hba;refine aD rfl rfl (λK hK=>?_);refine ko _ _ 32 rfl i z 32 underlying32 HI.q.1 HI.q.2.1 HI.q.2.2.1 HI.q.2.2.2.1 HI.q.2.2.2.2 rfl (wV.q.below gU.q rfl) (G ⟨w3.1.size,0,I⟩) 1 1 (ds.length+1) [⟨c.no 2 n0,a2,rs.length,q2⟩] rfl (Row.or1 w3 _) rfl fT.q lV.q (dL (Nat.succ_le_of_lt HR3.q.s.t.b.2.2) gU.q.size) ?_;intro a' c' w9 fq dx lH;have Kt:=f (IQ.q.tr ⟨dx.os,dx.tape,dx.output,dx.size,λi hi hl=>dx.block i hl (λe=>by have:=(pI.q i e.symm).2.2.1;have:=(pI.q i e.symm).2.2.2;have:=HB.q;have:=fH.q;have:=fM.q;omega)⟩);have Ue:S (w9.1[w.1.size]?=V.1[w.1.size]?):=f ((dx.block w.1.size (dz pR.q gU.q.size) (λe=>(pI.q _ e.symm).1 rfl)).trans Jr.q);have wz:=CG.q.grown dx (λe=>(pI.q _ e).2.1 rfl);refine hK _ _ ⟨P,cB.q _ Ue.q Kt.q ((wz.1 5).trans qX.q)⟩ ?_;have tV:=(wz.1 5).trans qX.q;have Ap:=wz.2.1 5;have Oq:=f wz;have qL:=f fq;have iw:=f dx;clear hK K wz fq dx lH;refine qC ?_;refine bq rfl rfl rfl (λK hK=>?_);go_simp;refine hK _ _ P ?_;clear hK K;refine jm ?_;have zS:S (aI (aO c s)):=f (by rw[fD.q];have k:=uG.q;exact⟨k.1,k.2.1,by show(((c.put 2 n0).ts rs).1.D++[_]).length<=3000;rw[dH,kT,LJ.q];exact Kr.q,k.2.2.2.1,k.2.2.2.2.1,k.2.2.2.2.2⟩);go_wp2_with fail;refine bodyPost_end (results_none rfl _ _ _) rfl ?_;refine⟨Kt.q.setTail (λh=>by have:=HB.q;have:=fH.q;have:=fM.q;omega),λ_=>⟨rfl,?_⟩,λk=>absurd zS.q k⟩;rw[fD.q];have Au:Same (λi=>i≠R/\(Value.slice a7 ds.length c7).ownBlock≠G i) w3 (w9.setCell ⟨R,5,I⟩ (H a' (ds.length+1) c')):=
  ((Same.of_below gU.q (λ_ _ h=>h)).tr ⟨iw.q.os,iw.q.tape,iw.q.output,iw.q.size,λi hi hl=>iw.q.block i hl (λe=>hi.2 e.symm)⟩).setTail (λh=>h.1 rfl)
 exact⟨_,_,_,_,HR3.q.order (x:=(⟨c.no 2 n0,a2,rs.length,q2⟩:aM)) qX.q wV.q Au (qL.q.same (A:=λi=>i≠R) ((Same.refl' _).setTail (λh=>h rfl)) (λg hg e=>by have:=(qL.q.lt g hg).1;omega)) (Oq.q.aZ 5 (dI.1 qX.q).1 _) HOW.q⟩
end
def lY {α β:Type}(B:Nat)(X:World)(T:TypeId)(ek:Nat)(enc:β->O Value)(val:α->Value)(xs:O α)(Ls:O (O β))(k:Nat):Prop:=
 (∀i x L,i<k->xs[i]?=G x->Ls[i]?=G L->Own X B T ek enc (val x) L)/\∀i j x y,i<j->j<k->xs[i]?=G x->xs[j]?=G y->∀g,(val x).ownBlock=G g->(val y).ownBlock≠G g
section
variable {α β:Type}{B:Nat}{X Y:World}{T:TypeId}{ek k:Nat}{enc:β->O Value}{val:α->Value}{xs:O α}{Ls:O (O β)}
theorem lY.zero:lY B X T ek enc val xs Ls 0:=⟨λ_ _ _ h=>absurd h (Nat.not_lt_zero _),λ_ _ _ _ _ h=>absurd h (Nat.not_lt_zero _)⟩
theorem lY.imp (h:lY B X T ek enc val xs Ls k)(hi:∀v L,Own X B T ek enc v L->Own Y B T ek enc v L):lY B Y T ek enc val xs Ls k:=⟨λi x L h1 h2 h3=>hi _ _ (h.1 i x L h1 h2 h3),h.2⟩
theorem lY.step {y:α}{L:O β}(hX:lY B X T ek enc val xs Ls k)(hY:lY B Y T ek enc val xs Ls k)(hlen:xs.length=Ls.length)(hk:k<xs.length)(hL:Ls[k]?=G L)(hy:Own Y X.1.size T ek enc (val y) L)(hB:B<=X.1.size):lY B Y T ek enc val (xs.set k y) Ls (k+1):=by
 refine⟨λi x M hi hx hM=>?_,λi j x z hij hj hx hz g hg hgz=>?_⟩
 .by_cases e:i=k
  .subst e
   rw[List.getElem?_set_self hk] at hx;injection hx with hx;rw[hL] at hM;injection hM with hM;subst hx hM;exact hy.mono hB
  .rw[List.getElem?_set_ne (λq=>e q.symm)] at hx
   exact hY.1 i x M ah hx hM
 .rw[List.getElem?_set_ne ah] at hx
  by_cases e:j=k
  .subst e
   rw[List.getElem?_set_self hk] at hz;injection hz with hz;subst hz;obtain⟨M,hM⟩:∃M,Ls[i]?=G M:=⟨_,eu (by have:=(bG.1 hx).1;omega)⟩;have h1:=((hX.1 i x M hij hx hM).lt g hg).2;have h2:=(hy.lt g hgz).1;omega
  .rw[List.getElem?_set_ne (λq=>e q.symm)] at hz
   exact hY.2 i j x z hij ah hx hz g hg hgz
end
structure HO (w X:World)(h:HC)(es:O EvC)(ds:O aM)(ms:O aN)(c:Cont)(i j k:Nat):Prop where
 st:St w X h es ds ms c
 oe:Own X w.1.size 47 9 dO h.e.v es
 od:Own X w.1.size 74 2 eZ h.d.v ds
 om:Own X w.1.size 77 4 eP h.m.v ms
 oq:Own X w.1.size 79 2 fQ h.w.v c.Q
 on:∀q,q<4->Own X w.1.size 9 1 encStr (h.nm q).v (c.nl q)
 fe:lY w.1.size X 117 3 bS EvC.val es c.SE i
 fd:lY w.1.size X 3 1 aQ aM.val ds c.SD j
 fm:lY w.1.size X 3 1 aQ aN.val ms c.SM k
 fx:∀i' j' x y,i'<j->j'<k->ds[i']?=G x->ms[j']?=G y->∀g,(aM.val x).ownBlock=G g->(aN.val y).ownBlock≠G g
section
variable {w X Y:World}{h:HC}{es:O EvC}{ds:O aM}{ms:O aN}{c:Cont}{i j k:Nat}
theorem HO.below (s:HO w X h es ds ms c i j k)(hb:Below X.1.size X Y):HO w Y h es ds ms c i j k:=
 ⟨s.st.below hb,s.oe.below hb rfl,s.od.below hb rfl,s.om.below hb rfl,s.oq.below hb rfl,λq hq=>(s.on q hq).below hb rfl,s.fe.imp (λ_ _ o=>o.below hb rfl),s.fd.imp (λ_ _ o=>o.below hb rfl),s.fm.imp (λ_ _ o=>o.below hb rfl),s.fx⟩
theorem HO.Za {g:Nat}{x:EvC}{L:O Sn}(s:HO w X h es ds ms c i j k)(ha:h.e.a=G ⟨g,0,I⟩)(hx:es[i]?=G x)(hL:c.SE[i]?=G L)(hb:Below X.1.size X Y)(sl:Sl)(hl:L.length<=2000000)(hn:Own Y X.1.size 117 3 bS sl.v L):
  HO w (Y.setCell ⟨g,i*9+8,I⟩ sl.v) h (es.set i (x.wi sl)) ds ms c (i+1) j k:=by
 have s':=s.below hb;have xK:h.e.v.ownBlock=G g:=by simp only[Sl.v,ha];rfl
 have ht:=s'.oe.tag xK;have hs:Same (λq=>q≠g) Y (Y.setCell ⟨g,i*9+8,I⟩ sl.v):=(Same.refl' Y).setTail (λq=>q rfl);have hsz:w.1.size<=X.1.size:=s.st.b.size;obtain⟨h1,h2⟩:=s'.st.Za s'.oe ha hx hL sl ⟨hl,.inr (hn.mono hsz)⟩;refine⟨h1,h2,s'.od.aK ht aj hs,s'.om.aK ht aj hs,s'.oq.aK ht aj hs,λq hq=>(s'.on q hq).aK ht aj hs,lY.step s.fe (s'.fe.imp (λ_ _ o=>o.aK ht aj hs)) s.st.se.1 (bG.1 hx).1 hL (hn.aK ht aj hs) hsz,s'.fd.imp (λ_ _ o=>o.aK ht aj hs),s'.fm.imp (λ_ _ o=>o.aK ht aj hs),s.fx⟩
theorem HO.Zb {g:Nat}{x:aM}{L:O Int}(s:HO w X h es ds ms c i j k)(ha:h.d.a=G ⟨g,0,I⟩)(hx:ds[j]?=G x)(hL:c.SD[j]?=G L)(hb:Below X.1.size X Y)(sl:Sl)(hl:L.length<=2000000)(hn:Own Y X.1.size 3 1 aQ sl.v L):
  HO w (Y.setCell ⟨g,j*2+1,I⟩ sl.v) h es (ds.set j (x.wi sl)) ms c i (j+1) k:=by
 have s':=s.below hb;have xK:h.d.v.ownBlock=G g:=by simp only[Sl.v,ha];rfl
 have ht:=s'.od.tag xK;have hs:Same (λq=>q≠g) Y (Y.setCell ⟨g,j*2+1,I⟩ sl.v):=(Same.refl' Y).setTail (λq=>q rfl);have hsz:w.1.size<=X.1.size:=s.st.b.size;obtain⟨h1,h2⟩:=s'.st.Zb s'.od ha hx hL sl ⟨hl,.inr (hn.mono hsz)⟩;refine⟨h1,s'.oe.aK ht aj hs,h2,s'.om.aK ht aj hs,s'.oq.aK ht aj hs,λq hq=>(s'.on q hq).aK ht aj hs,s'.fe.imp (λ_ _ o=>o.aK ht aj hs),lY.step s.fd (s'.fd.imp (λ_ _ o=>o.aK ht aj hs)) s.st.sd.1 (bG.1 hx).1 hL (hn.aK ht aj hs) hsz,s'.fm.imp (λ_ _ o=>o.aK ht aj hs),λi' j' x' y' hi hj hx' hy' g0 hg0 hg1=>?_⟩;by_cases e:i'=j
 .subst e
  rw[List.getElem?_set_self (bG.1 hx).1] at hx';injection hx' with hx';subst hx';obtain⟨M,hM⟩:∃M,c.SM[j']?=G M:=⟨_,eu (by have:=(bG.1 hy').1;have:=s.st.sm.1;omega)⟩;have h3:=((s.fm.1 j' y' M hj hy' hM).lt g0 hg1).2;have h4:=(hn.lt g0 hg0).1;omega
 .rw[List.getElem?_set_ne (λq=>e q.symm)] at hx'
  exact s.fx i' j' x' y' ah hj hx' hy' g0 hg0 hg1
theorem HO.Zc {g:Nat}{x:aN}{L:O Int}(s:HO w X h es ds ms c i j k)(ha:h.m.a=G ⟨g,0,I⟩)(hx:ms[k]?=G x)(hL:c.SM[k]?=G L)(hb:Below X.1.size X Y)(sl:Sl)(hl:L.length<=2000000)(hn:Own Y X.1.size 3 1 aQ sl.v L):
  HO w (Y.setCell ⟨g,k*4+3,I⟩ sl.v) h es ds (ms.set k (x.wi sl)) c i j (k+1):=by
 have s':=s.below hb;have xK:h.m.v.ownBlock=G g:=by simp only[Sl.v,ha];rfl
 have ht:=s'.om.tag xK;have hs:Same (λq=>q≠g) Y (Y.setCell ⟨g,k*4+3,I⟩ sl.v):=(Same.refl' Y).setTail (λq=>q rfl);have hsz:w.1.size<=X.1.size:=s.st.b.size;obtain⟨h1,h2⟩:=s'.st.Zc s'.om ha hx hL sl ⟨hl,.inr (hn.mono hsz)⟩;refine⟨h1,s'.oe.aK ht aj hs,s'.od.aK ht aj hs,h2,s'.oq.aK ht aj hs,λq hq=>(s'.on q hq).aK ht aj hs,s'.fe.imp (λ_ _ o=>o.aK ht aj hs),s'.fd.imp (λ_ _ o=>o.aK ht aj hs),lY.step s.fm (s'.fm.imp (λ_ _ o=>o.aK ht aj hs)) s.st.sm.1 (bG.1 hx).1 hL (hn.aK ht aj hs) hsz,λi' j' x' y' hi hj hx' hy' g0 hg0 hg1=>?_⟩;by_cases e:j'=k
 .subst e
  rw[List.getElem?_set_self (bG.1 hx).1] at hy';injection hy' with hy';subst hy';obtain⟨M,hM⟩:∃M,c.SD[i']?=G M:=⟨_,eu (by have:=(bG.1 hx').1;have:=s.st.sd.1;omega)⟩;have h3:=((s.fd.1 i' x' M hi hx' hM).lt g0 hg0).2;have h4:=(hn.lt g0 hg1).1;omega
 .rw[List.getElem?_set_ne (λq=>e q.symm)] at hy'
  exact s.fx i' j' x' y' hi ah hx' hy' g0 hg0 hg1
theorem Own.box {α:Type}{T:TypeId}{n:Nat}{enc:α->O Value}{v:Value}{xs:O α}(ho:Own X w.1.size T n enc v xs)(s:St w X h es ds ms c)(hT:T≠36)(q:Nat)(u:Value):Own (X.setCell ⟨w.1.size,q,I⟩ u) w.1.size T n enc v xs:=ho.aK s.tg hT (sameBox s q u)
end
structure Zm (w X:World)(h:HC)(es:O EvC)(ds:O aM)(ms:O aN)(c:Cont):Prop where
 b:Below w.1.size w X
 oe:Own X w.1.size 47 9 dO h.e.v es
 od:Own X w.1.size 74 2 eZ h.d.v ds
 om:Own X w.1.size 77 4 eP h.m.v ms
 oq:Own X w.1.size 79 2 fQ h.w.v c.Q
 on:∀q,q<4->Own X w.1.size 9 1 encStr (h.nm q).v (c.nl q)
 fe:lY w.1.size X 117 3 bS EvC.val es c.SE es.length
 fd:lY w.1.size X 3 1 aQ aM.val ds c.SD ds.length
 fm:lY w.1.size X 3 1 aQ aN.val ms c.SM ms.length
 be:es.map EvC.base=c.E
 bd:ds.map aM.base=c.D
 bm:ms.map aN.base=c.M
 fx:∀x∈ds,∀y∈ms,∀g,(aM.val x).ownBlock=G g->(aN.val y).ownBlock≠G g
 le:es.length=c.SE.length
 ld:ds.length=c.SD.length
 lm:ms.length=c.SM.length
def Nj (w:World)(c:Cont)(e:Ending)(X:World):Prop:=∃h es ds ms,e= .returned (gH h)/\Zm w X h es ds ms c
theorem HO.fin {w X Y:World}{h:HC}{es:O EvC}{ds:O aM}{ms:O aN}{c:Cont}(s:HO w X h es ds ms c es.length ds.length ms.length)(hs:Same (λi=>i≠w.1.size+1) X Y):Nj w c (.returned (gH h)) Y:=by
 have ht:=s.st.t2;exact⟨h,es,ds,ms,rfl,hs.below s.st.b (λi hi=>by omega) s.st.b.size,s.oe.aK ht aj hs,s.od.aK ht aj hs,s.om.aK ht aj hs,s.oq.aK ht aj hs,λq hq=>(s.on q hq).aK ht aj hs,
  s.fe.imp (λ_ _ o=>o.aK ht aj hs),s.fd.imp (λ_ _ o=>o.aK ht aj hs),s.fm.imp (λ_ _ o=>o.aK ht aj hs),s.st.be,s.st.bd,s.st.bm,λx hx y hy g h1 h2=>(let⟨i,hi⟩:=u6.1 hx;let⟨j,hj⟩:=u6.1 hy;s.fx i j x y (bG.1 hi).1 (bG.1 hj).1 hi hj g h1 h2),s.st.se.1,s.st.sd.1,s.st.sm.1⟩
theorem QH (h:HC)(nl:Nat->O Bs)(es:O EvC)(ds:O aM)(ms:O aN)(qs:O Wa)(scan:EvC->O Sn)(dn:aM->O Int)(mn:aN->O Int)(w:World)
  (hn:∀i,i<4->Row w 1 encStr (h.nm i).a (h.nm i).n (h.nm i).c (nl i)) (hd:Deep w h es ds ms qs scan dn mn) (hB:Ni nl es ds ms qs scan dn mn):
  Calls Tryz.prog 44 #[gH h] w (Nj w (zU es.length nl es ds ms qs scan dn mn)):=by
 have hst:=St.start hn hd hB es.length (by rw[hd.1.len];exact aA _);obtain⟨C,hC⟩:∃C,C=zU es.length nl es ds ms qs scan dn mn:=⟨_,rfl⟩;rw[<-hC] at hst ⊢;have HST:=f hst;have HQS:S (C.Q=qs):=f (by rw[hC];rfl);have hle:=hst.e.1;have hld:=hst.d.1;have hlm:=hst.m.1;clear hn hd hB hC hst;obtain⟨ht,hs,ho,hp,he,hdd,hmm,OT⟩:=h;have hbx:=HST.q.bx;have hb2:=HST.q.b2;have hcx:=hbx.1;have hfx:=hbx.2.1;have hlx:=hbx.2.2;have hc2:=hb2.1;have hf2:=hb2.2.1;have hl2:=hb2.2.2;go_enter Tryz.func44,Tryz.ntmps44;go_wp2_with fail;refine aC 12 [(0,0),(1,0),(3,0),(4,0),(6,0),(7,0),(9,0),(10,0),(2,2),(12,1),(5,2),(8,2),(11,2),(13,2),(14,1),(15,2),(16,1),(17,2),(18,1),(19,2)] (λ_=>True) (λW'=>Bx W' w.1.size (aH ⟨ht,hs,ho,hp,he,hdd,hmm,OT⟩)) av av (trivial) (HST.q.bx) ?_;refine qC ?_;refine aD rfl rfl (λK hK=>?_);go_simp;have HD0:=f (HST.q.drew);clear hbx hb2 hcx hfx hlx hc2 hf2 hl2;have hrw:=(HD0.q.n 0 aj).row (hc:=jQ) HD0.q.b;have hLn:=(HD0.q.n 0 aj).1;refine(show Calls _ _ _ _ (kQ 9 1 encStr (C.nl 0) _) from by have:=zo ht.a ht.c (C.nl 0) _ (by rw[hrw.len];exact hrw) ah;rw[show(C.nl 0).length=ht.n from hrw.len] at this;exact this).mono ?_;rintro en Y0 ⟨n0,d0,rfl,ho0,hb0⟩;have qY:=f (HD0.q.below hb0);have af3:=f (ho0.mono (HD0.q.b.size));have asN:=f hb0;have Yg:=f hLn;refine hK _ _ ⟨P,qY.q.bx⟩ ?_;clear hK K ho0 hb0 hrw hLn;refine qC ?_;refine aD rfl rfl (λK hK=>?_);go_simp;have hrw:=(qY.q.n 1 aj).row (hc:=jQ) qY.q.b;have hLn:=(qY.q.n 1 aj).1;refine(show Calls _ _ _ _ (kQ 9 1 encStr (C.nl 1) _) from by have:=zo hs.a hs.c (C.nl 1) _ (by rw[hrw.len];exact hrw) ah;rw[show(C.nl 1).length=hs.n from hrw.len] at this;exact this).mono ?_;rintro en Y1 ⟨n1,d1,rfl,ho1,hb1⟩;have jW:=f (qY.q.below hb1);have af4:=f (ho1.mono (qY.q.b.size));have anO:=f hb1;have anP:=f hLn;refine hK _ _ ⟨P,jW.q.bx⟩ ?_;clear hK K ho1 hb1 hrw hLn;refine aD rfl rfl (λK hK=>?_);go_simp;have hrw:=(jW.q.n 2 aj).row (hc:=jQ) jW.q.b;have hLn:=(jW.q.n 2 aj).1;refine(show Calls _ _ _ _ (kQ 9 1 encStr (C.nl 2) _) from by have:=zo ho.a ho.c (C.nl 2) _ (by rw[hrw.len];exact hrw) ah;rw[show(C.nl 2).length=ho.n from hrw.len] at this;exact this).mono ?_;rintro en Y2 ⟨n2,d2,rfl,ho2,hb2⟩;have fT:=f (jW.q.below hb2);have af5:=f (ho2.mono (jW.q.b.size));have af6:=f hb2;have Tv:=f hLn;refine hK _ _ ⟨P,fT.q.bx⟩ ?_;clear hK K ho2 hb2 hrw hLn;refine aD rfl rfl (λK hK=>?_);go_simp;have hrw:=(fT.q.n 3 aj).row (hc:=jQ) fT.q.b;have hLn:=(fT.q.n 3 aj).1;refine(show Calls _ _ _ _ (kQ 9 1 encStr (C.nl 3) _) from by have:=zo hp.a hp.c (C.nl 3) _ (by rw[hrw.len];exact hrw) ah;rw[show(C.nl 3).length=hp.n from hrw.len] at this;exact this).mono ?_;rintro en Y3 ⟨n3,d3,rfl,ho3,hb3⟩;have lV:=f (fT.q.below hb3);have af7:=f (ho3.mono (fT.q.b.size));have Zn:=f hb3;have Tt:=f hLn;refine hK _ _ ⟨P,lV.q.bx⟩ ?_;clear hK K ho3 hb3 hrw hLn;have hbx:=lV.q.bx;have hcx:=hbx.1;have hfx:=hbx.2.1;have hlx:=hbx.2.2;refine bq rfl rfl rfl (λK hK=>?_);go_simp;refine hK _ _ P ?_;clear hK K;refine qC ?_;refine bq rfl rfl rfl (λK hK=>?_);go_simp;refine hK _ _ P ?_;clear hK K;refine qC ?_;refine bq rfl rfl rfl (λK hK=>?_);go_simp;refine hK _ _ P ?_;clear hK K;refine qC ?_;refine bq rfl rfl rfl (λK hK=>?_);go_simp;refine hK _ _ P ?_;clear hK K;refine aJ ?_;have wD:=f (((af3.q.below anO.q rfl).below af6.q rfl).below Zn.q rfl);have wE:=f ((af4.q.below af6.q rfl).below Zn.q rfl);have wF:=f (af5.q.below Zn.q rfl);have wG:=f af7.q;have hs0:=lV.q.ajr ⟨n0,(C.nl 0).length,d0⟩ ⟨Yg.q,.inr wD.q⟩;have wD:=f (wD.q.box lV.q aj 0 (Sl.v ⟨n0,(C.nl 0).length,d0⟩));have wE:=f (wE.q.box lV.q aj 0 (Sl.v ⟨n0,(C.nl 0).length,d0⟩));have wF:=f (wF.q.box lV.q aj 0 (Sl.v ⟨n0,(C.nl 0).length,d0⟩));have wG:=f (wG.q.box lV.q aj 0 (Sl.v ⟨n0,(C.nl 0).length,d0⟩));have hs1:=hs0.ajs ⟨n1,(C.nl 1).length,d1⟩ ⟨anP.q,.inr wE.q⟩;have wD:=f (wD.q.box hs0 aj 1 (Sl.v ⟨n1,(C.nl 1).length,d1⟩));have wE:=f (wE.q.box hs0 aj 1 (Sl.v ⟨n1,(C.nl 1).length,d1⟩));have wF:=f (wF.q.box hs0 aj 1 (Sl.v ⟨n1,(C.nl 1).length,d1⟩));have wG:=f (wG.q.box hs0 aj 1 (Sl.v ⟨n1,(C.nl 1).length,d1⟩));have hs2:=hs1.ajt ⟨n2,(C.nl 2).length,d2⟩ ⟨Tv.q,.inr wF.q⟩;have wD:=f (wD.q.box hs1 aj 2 (Sl.v ⟨n2,(C.nl 2).length,d2⟩));have wE:=f (wE.q.box hs1 aj 2 (Sl.v ⟨n2,(C.nl 2).length,d2⟩));have wF:=f (wF.q.box hs1 aj 2 (Sl.v ⟨n2,(C.nl 2).length,d2⟩));have wG:=f (wG.q.box hs1 aj 2 (Sl.v ⟨n2,(C.nl 2).length,d2⟩));have hs3:=hs2.aju ⟨n3,(C.nl 3).length,d3⟩ ⟨Tt.q,.inr wG.q⟩;have wD:=f (wD.q.box hs2 aj 3 (Sl.v ⟨n3,(C.nl 3).length,d3⟩));have wE:=f (wE.q.box hs2 aj 3 (Sl.v ⟨n3,(C.nl 3).length,d3⟩));have wF:=f (wF.q.box hs2 aj 3 (Sl.v ⟨n3,(C.nl 3).length,d3⟩));have wG:=f (wG.q.box hs2 aj 3 (Sl.v ⟨n3,(C.nl 3).length,d3⟩));have Ck:=f hs3;clear hs0 hs1 hs2 hs3 hbx hcx hfx hlx qY jW fT lV af3 af4 af5 af7;have hbx:=Ck.q.bx;have hb2:=Ck.q.b2;have hcx:=hbx.1;have hfx:=hbx.2.1;have hlx:=hbx.2.2;have hc2:=hb2.1;have hf2:=hb2.2.1;have hl2:=hb2.2.2;go_wp2_with fail;refine aC 12 [(0,0),(1,0),(3,0),(4,0),(6,0),(7,0),(9,0),(10,0),(2,2),(12,1),(5,2),(8,2),(11,2),(13,2),(14,1),(15,2),(16,1),(17,2),(18,1),(19,2)] (λ_=>True) (λW'=>Bx W' w.1.size (aH ⟨⟨n0,(C.nl 0).length,d0⟩,⟨n1,(C.nl 1).length,d1⟩,⟨n2,(C.nl 2).length,d2⟩,⟨n3,(C.nl 3).length,d3⟩,he,hdd,hmm,OT⟩)) av av (trivial) (Ck.q.bx) ?_;refine qC ?_;refine aD rfl rfl (λK hK=>?_);go_simp;have LD:=f (Ck.q.drew);clear hbx hb2 hcx hfx hlx hc2 hf2 hl2;have hrw:=LD.q.e.row (hc:=sP) LD.q.b;have hLn:=LD.q.e.1;refine(show Calls _ _ _ _ (kQ 47 _ dO es _) from by have:=adv he.a he.c es _ (by rw[hrw.len];exact hrw) ah;rw[show es.length=he.n from hrw.len] at this;exact this).mono ?_;rintro en Z0 ⟨ae,ce,rfl,ho0,hb0⟩;have HZ0:=f (LD.q.below hb0);have af8:=f (ho0.mono (LD.q.b.size));have Uh:=f hb0;have anQ:=f hLn;refine hK _ _ ⟨P,HZ0.q.bx⟩ ?_;clear hK K ho0 hb0 hrw hLn;refine qC ?_;refine aD rfl rfl (λK hK=>?_);go_simp;have hrw:=HZ0.q.d.row (hc:=uJ) HZ0.q.b;have hLn:=HZ0.q.d.1;refine(show Calls _ _ _ _ (kQ 74 _ eZ ds _) from by have:=adw hdd.a hdd.c ds _ (by rw[hrw.len];exact hrw) ah;rw[show ds.length=hdd.n from hrw.len] at this;exact this).mono ?_;rintro en Z1 ⟨ad,cd,rfl,ho1,hb1⟩;have HZ1:=f (HZ0.q.below hb1);have af9:=f (ho1.mono (HZ0.q.b.size));have OV:=f hb1;have anR:=f hLn;refine hK _ _ ⟨P,HZ1.q.bx⟩ ?_;clear hK K ho1 hb1 hrw hLn;refine aD rfl rfl (λK hK=>?_);go_simp;have hrw:=HZ1.q.m.row (hc:=rJ) HZ1.q.b;have hLn:=HZ1.q.m.1;refine(show Calls _ _ _ _ (kQ 77 _ eP ms _) from by have:=adx hmm.a hmm.c ms _ (by rw[hrw.len];exact hrw) ah;rw[show ms.length=hmm.n from hrw.len] at this;exact this).mono ?_;rintro en Z2 ⟨am,cm,rfl,ho2,hb2⟩;have HZ2:=f (HZ1.q.below hb2);have af':=f (ho2.mono (HZ1.q.b.size));have K7:=f hb2;have anS:=f hLn;refine hK _ _ ⟨P,HZ2.q.bx⟩ ?_;clear hK K ho2 hb2 hrw hLn;refine aD rfl rfl (λK hK=>?_);go_simp;have hrw:=HZ2.q.q.row (hc:=wC) HZ2.q.b;have hLn:=HZ2.q.q.1;rw[HQS.q] at hrw hLn;refine(show Calls _ _ _ _ (kQ 79 _ fQ qs _) from by have:=ady OT.a OT.c qs _ (by rw[hrw.len];exact hrw) ah;rw[show qs.length=OT.n from hrw.len] at this;exact this).mono ?_;rintro en Z3 ⟨aq,cq,rfl,ho3,hb3⟩;have HZ3:=f (HZ2.q.below hb3);have aga:=f (ho3.mono (HZ2.q.b.size));have Js:=f hb3;have anT:=f hLn;refine hK _ _ ⟨P,HZ3.q.bx⟩ ?_;clear hK K ho3 hb3 hrw hLn;have hbx:=HZ3.q.bx;have hcx:=hbx.1;have hfx:=hbx.2.1;have hlx:=hbx.2.2;refine bq rfl rfl rfl (λK hK=>?_);go_simp;refine hK _ _ P ?_;clear hK K;refine qC ?_;refine bq rfl rfl rfl (λK hK=>?_);go_simp;refine hK _ _ P ?_;clear hK K;refine qC ?_;refine bq rfl rfl rfl (λK hK=>?_);go_simp;refine hK _ _ P ?_;clear hK K;refine qC ?_;refine bq rfl rfl rfl (λK hK=>?_);go_simp;refine hK _ _ P ?_;clear hK K;refine aJ ?_;have gT:=f (((af8.q.below OV.q rfl).below K7.q rfl).below Js.q rfl);have HR1:=f ((af9.q.below K7.q rfl).below Js.q rfl);have HR2:=f (af'.q.below Js.q rfl);have HR3:=f aga.q;have wD:=f (((((wD.q.below (U _ _).drew rfl).below Uh.q rfl).below OV.q rfl).below K7.q rfl).below Js.q rfl);have wE:=f (((((wE.q.below (U _ _).drew rfl).below Uh.q rfl).below OV.q rfl).below K7.q rfl).below Js.q rfl);have wF:=f (((((wF.q.below (U _ _).drew rfl).below Uh.q rfl).below OV.q rfl).below K7.q rfl).below Js.q rfl);have wG:=f (((((wG.q.below (U _ _).drew rfl).below Uh.q rfl).below OV.q rfl).below K7.q rfl).below Js.q rfl);have ht0:=HZ3.q.anH ⟨ae,es.length,ce⟩ es ⟨anQ.q,.inr gT.q⟩ HZ3.q.be HZ3.q.se;have gT:=f (gT.q.box HZ3.q aj 4 (Sl.v ⟨ae,es.length,ce⟩));have wD:=f (wD.q.box HZ3.q aj 4 (Sl.v ⟨ae,es.length,ce⟩));have HR1:=f (HR1.q.box HZ3.q aj 4 (Sl.v ⟨ae,es.length,ce⟩));have wE:=f (wE.q.box HZ3.q aj 4 (Sl.v ⟨ae,es.length,ce⟩));have HR2:=f (HR2.q.box HZ3.q aj 4 (Sl.v ⟨ae,es.length,ce⟩));have wF:=f (wF.q.box HZ3.q aj 4 (Sl.v ⟨ae,es.length,ce⟩));have HR3:=f (HR3.q.box HZ3.q aj 4 (Sl.v ⟨ae,es.length,ce⟩));have wG:=f (wG.q.box HZ3.q aj 4 (Sl.v ⟨ae,es.length,ce⟩));have ht1:=ht0.anI ⟨ad,ds.length,cd⟩ ds ⟨anR.q,.inr HR1.q⟩ ht0.bd ht0.sd;have gT:=f (gT.q.box ht0 aj 5 (Sl.v ⟨ad,ds.length,cd⟩));have wD:=f (wD.q.box ht0 aj 5 (Sl.v ⟨ad,ds.length,cd⟩));have HR1:=f (HR1.q.box ht0 aj 5 (Sl.v ⟨ad,ds.length,cd⟩));have wE:=f (wE.q.box ht0 aj 5 (Sl.v ⟨ad,ds.length,cd⟩));have HR2:=f (HR2.q.box ht0 aj 5 (Sl.v ⟨ad,ds.length,cd⟩));have wF:=f (wF.q.box ht0 aj 5 (Sl.v ⟨ad,ds.length,cd⟩));have HR3:=f (HR3.q.box ht0 aj 5 (Sl.v ⟨ad,ds.length,cd⟩));have wG:=f (wG.q.box ht0 aj 5 (Sl.v ⟨ad,ds.length,cd⟩));have ht2:=ht1.anJ ⟨am,ms.length,cm⟩ ms ⟨anS.q,.inr HR2.q⟩ ht1.bm ht1.sm;have gT:=f (gT.q.box ht1 aj 6 (Sl.v ⟨am,ms.length,cm⟩));have wD:=f (wD.q.box ht1 aj 6 (Sl.v ⟨am,ms.length,cm⟩));have HR1:=f (HR1.q.box ht1 aj 6 (Sl.v ⟨am,ms.length,cm⟩));have wE:=f (wE.q.box ht1 aj 6 (Sl.v ⟨am,ms.length,cm⟩));have HR2:=f (HR2.q.box ht1 aj 6 (Sl.v ⟨am,ms.length,cm⟩));have wF:=f (wF.q.box ht1 aj 6 (Sl.v ⟨am,ms.length,cm⟩));have HR3:=f (HR3.q.box ht1 aj 6 (Sl.v ⟨am,ms.length,cm⟩));have wG:=f (wG.q.box ht1 aj 6 (Sl.v ⟨am,ms.length,cm⟩));have ht3:=ht2.anK ⟨aq,qs.length,cq⟩ ⟨anT.q,.inr HR3.q⟩;have gT:=f (gT.q.box ht2 aj 7 (Sl.v ⟨aq,qs.length,cq⟩));have wD:=f (wD.q.box ht2 aj 7 (Sl.v ⟨aq,qs.length,cq⟩));have HR1:=f (HR1.q.box ht2 aj 7 (Sl.v ⟨aq,qs.length,cq⟩));have wE:=f (wE.q.box ht2 aj 7 (Sl.v ⟨aq,qs.length,cq⟩));have HR2:=f (HR2.q.box ht2 aj 7 (Sl.v ⟨aq,qs.length,cq⟩));have wF:=f (wF.q.box ht2 aj 7 (Sl.v ⟨aq,qs.length,cq⟩));have HR3:=f (HR3.q.box ht2 aj 7 (Sl.v ⟨aq,qs.length,cq⟩));have wG:=f (wG.q.box ht2 aj 7 (Sl.v ⟨aq,qs.length,cq⟩));have zY:=f (ht3.cast (c':=C) (by have:=HQS.q;subst this;rfl));have HOe:S (HO w _ ⟨⟨n0,(C.nl 0).length,d0⟩,⟨n1,(C.nl 1).length,d1⟩,⟨n2,(C.nl 2).length,d2⟩,⟨n3,(C.nl 3).length,d3⟩,⟨ae,es.length,ce⟩,⟨ad,ds.length,cd⟩,⟨am,ms.length,cm⟩,⟨aq,qs.length,cq⟩⟩ es ds ms C 0 0 0):=f ⟨zY.q,gT.q,HR1.q,HR2.q,by rw[HQS.q];exact HR3.q,λq hq=>(match q,hq with|0,_=>wD.q|1,_=>wE.q|2,_=>wF.q|3,_=>wG.q),lY.zero,lY.zero,lY.zero,λ_ _ _ _ h=>absurd h (Nat.not_lt_zero _)⟩;clear ht0 ht1 ht2 ht3 hbx hcx hfx hlx HZ0 HZ1 HZ2 HZ3 af8 af9 af' aga zY gT HR1 HR2 HR3 wD wE wF wG;have hbx:=HOe.q.st.bx;have hb2:=HOe.q.st.b2;have hcx:=hbx.1;have hfx:=hbx.2.1;have hlx:=hbx.2.2;have hc2:=hb2.1;have hf2:=hb2.2.1;have hl2:=hb2.2.2;go_wp2_with fail;clear hbx hb2 hcx hfx hlx hc2 hf2 hl2
 go_loopw [41] (λi wr=>∃(k:Nat)(xe:O EvC),k<=es.length/\i= J N k/\HO w wr ⟨⟨n0,(C.nl 0).length,d0⟩,⟨n1,(C.nl 1).length,d1⟩,⟨n2,(C.nl 2).length,d2⟩,⟨n3,(C.nl 3).length,d3⟩,⟨ae,es.length,ce⟩,⟨ad,ds.length,cd⟩,⟨am,ms.length,cm⟩,⟨aq,qs.length,cq⟩⟩ xe ds ms C k 0 0) (λi _=>es.length - (RowKit.intOf i).toNat)
 case atStart=>exact⟨0,es,aV _,rfl,HOe.q⟩
 case round=>
  obtain⟨k,xe,hk,rfl,hho⟩:=hrel;have hst:=hho.st;have hown:Own wr w.1.size 47 9 dO (H ae es.length ce) xe:=hho.oe;by_cases hlt:k<es.length
  .obtain⟨g,cur,rfl,hbg,hxl,hcap,hBg,hcur⟩:=hown.open_ (hc:=sP) ah
   obtain⟨x,hx⟩:∃x,xe[k]?=G x:=⟨_,eu ah⟩;have hsl:k<C.SE.length:=by rw[<-hst.se.1];omega
   obtain⟨L,hL⟩:∃L,C.SE[k]?=G L:=⟨_,eu hsl⟩;have yC:=hst.se.2 k x L hx hL;have hrow:=yC.row (hc:=oJ) hst.b;have hcx:=(hbg.1 (k*9+8)).trans (hcur k x 8 _ hx rfl);have Sc:S (∀W,Below wr.1.size wr W->Calls Tryz.prog 90 #[H x.sa x.sn x.sc] W (kQ 117 3 bS L W)):=by
    refine f (λW hW=>?_);have hr:Row W 3 bS x.sa x.sn x.sc L:=hrow.below hW rfl;rw[show x.sn=L.length from hrow.len.symm] at hr ⊢;exact adz x.sa x.sc L W hr (by have:=yC.1;omega)
   have yD:=f hho;have FW:=f hbg;have HX:=f hx;have HL:=f hL;have j4:=f yC.1;have Mf:=f hcx;have OW:=f (hcur k x 8 _ hx rfl);have hle1:k<2000000:=by have:=hst.e.1;omega
   clear hho hst hown hbg hx hL yC hrow hcx hcur hsl;go_wp2_with fail;refine aC 10 [(0,0),(1,0),(2,0),(3,0),(4,0),(5,0),(6,0),(7,0),(8,0),(9,2),(10,1),(11,1),(12,2)] (λ_=>True) (λW'=>Bx W' w.1.size #[(H n0 (C.nl 0).length d0),(H n1 (C.nl 1).length d1),(H n2 (C.nl 2).length d2),(H n3 (C.nl 3).length d3),(H (G ⟨g,0,I⟩) es.length ce),(H ad ds.length cd),(H am ms.length cm),(H aq qs.length cq)]/\W'.cell? ⟨g,k*9+8,I⟩=G (H x.sa x.sn x.sc)) av av (trivial) (⟨yD.q.st.bx,Mf.q⟩) ?_;refine qC ?_;refine aD rfl rfl (λK hK=>?_);go_simp;refine(Sc.q _ (U _ _).drew).mono ?_;rintro en Y ⟨a',c',rfl,Mg,BG⟩;have WG:=f Mg;have rT:=f (show Below wr.1.size wr Y from(U _ _).drew.trans BG);refine hK _ _ ⟨P,yD.q.st.bx.keep rT.q,bn rT.q rfl Mf.q⟩ ?_;clear hK K Mg BG;have yE:=FW.q.keep rT.q;have WH:=yE.2.1;have OX:=yE.2.2;have OY:Y.cell? ⟨g,k*9+8,I⟩=G (H x.sa x.sn x.sc):=(yE.1 _).trans OW.q;clear yE;refine qC ?_;refine bq rfl rfl rfl (λK hK=>?_);go_simp;refine hK _ _ P ?_;clear hK K;refine aJ ?_;have Jm:=f (yD.q.Za rfl HX.q HL.q rT.q ⟨a',L.length,c'⟩ j4.q WG.q);clear WH OX OY;go_wp2_with fail;go_roundw
   case rel=>exact⟨k+1,_,by omega,by go_num,Jm.q⟩
   case measure=>simp[RowKit.intOf];omega
  .obtain rfl:k=es.length:=by omega
   have uF:=f (show xe.length=es.length from by obtain⟨_,_,q,_⟩:=hho.oe.shape;simp only[Sl.v,Value.slice.injEq] at q;exact q.2.1.symm);have Zo:=f hho;clear hho hst hown;have hbx:=Zo.q.st.bx;have hb2:=Zo.q.st.b2;have hcx:=hbx.1;have hfx:=hbx.2.1;have hlx:=hbx.2.2;have hc2:=hb2.1;have hf2:=hb2.2.1;have hl2:=hb2.2.2;go_wp2_with fail;have jA:=Zo;clear hbx hb2 hcx hfx hlx hc2 hf2 hl2
   go_loopw [60] (λi wr=>∃(k:Nat)(xd:O aM),k<=ds.length/\i= J N k/\HO w wr ⟨⟨n0,(C.nl 0).length,d0⟩,⟨n1,(C.nl 1).length,d1⟩,⟨n2,(C.nl 2).length,d2⟩,⟨n3,(C.nl 3).length,d3⟩,⟨ae,es.length,ce⟩,⟨ad,ds.length,cd⟩,⟨am,ms.length,cm⟩,⟨aq,qs.length,cq⟩⟩ xe xd ms C es.length k 0) (λi _=>ds.length - (RowKit.intOf i).toNat)
   case atStart=>exact⟨0,ds,aV _,rfl,jA.q⟩
   case round=>
    obtain⟨k,xd,hk,rfl,hho⟩:=hrel;have hst:=hho.st;have hown:Own wr w.1.size 74 2 eZ (H ad ds.length cd) xd:=hho.od;by_cases hlt:k<ds.length
    .obtain⟨g,cur,rfl,hbg,hxl,hcap,hBg,hcur⟩:=hown.open_ (hc:=uJ) ah
     obtain⟨x,hx⟩:∃x,xd[k]?=G x:=⟨_,eu ah⟩;have hsl:k<C.SD.length:=by rw[<-hst.sd.1];omega
     obtain⟨L,hL⟩:∃L,C.SD[k]?=G L:=⟨_,eu hsl⟩;have yC:=hst.sd.2 k x L hx hL;have hrow:=yC.row (hc:=ig) hst.b;have hcx:=(hbg.1 (k*2+1)).trans (hcur k x 1 _ hx rfl);have Sc:S (∀W,Below wr.1.size wr W->Calls Tryz.prog 91 #[H x.sa x.sn x.sc] W (kQ 3 1 aQ L W)):=by
      refine f (λW hW=>?_);have hr:Row W 1 aQ x.sa x.sn x.sc L:=hrow.below hW rfl;rw[show x.sn=L.length from hrow.len.symm] at hr ⊢;exact OZ x.sa x.sc L W hr (by have:=yC.1;omega)
     have yD:=f hho;have FW:=f hbg;have HX:=f hx;have HL:=f hL;have j4:=f yC.1;have Mf:=f hcx;have OW:=f (hcur k x 1 _ hx rfl);have hle1:k<2000000:=by have:=hst.d.1;omega
     clear hho hst hown hbg hx hL yC hrow hcx hcur hsl;go_wp2_with fail;refine aC 10 [(0,0),(1,0),(2,0),(3,0),(4,0),(5,0),(6,0),(7,0),(8,0),(9,2),(10,1),(11,1),(12,2)] (λ_=>True) (λW'=>Bx W' w.1.size #[(H n0 (C.nl 0).length d0),(H n1 (C.nl 1).length d1),(H n2 (C.nl 2).length d2),(H n3 (C.nl 3).length d3),(H ae es.length ce),(H (G ⟨g,0,I⟩) ds.length cd),(H am ms.length cm),(H aq qs.length cq)]/\W'.cell? ⟨g,k*2+1,I⟩=G (H x.sa x.sn x.sc)) av av (trivial) (⟨yD.q.st.bx,Mf.q⟩) ?_;refine qC ?_;refine aD rfl rfl (λK hK=>?_);go_simp;refine(Sc.q _ (U _ _).drew).mono ?_;rintro en Y ⟨a',c',rfl,Mg,BG⟩;have WG:=f Mg;have rT:=f (show Below wr.1.size wr Y from(U _ _).drew.trans BG);refine hK _ _ ⟨P,yD.q.st.bx.keep rT.q,bn rT.q rfl Mf.q⟩ ?_;clear hK K Mg BG;have yE:=FW.q.keep rT.q;have WH:=yE.2.1;have OX:=yE.2.2;have OY:Y.cell? ⟨g,k*2+1,I⟩=G (H x.sa x.sn x.sc):=(yE.1 _).trans OW.q;clear yE;refine qC ?_;refine bq rfl rfl rfl (λK hK=>?_);go_simp;refine hK _ _ P ?_;clear hK K;refine aJ ?_;have Jm:=f (yD.q.Zb rfl HX.q HL.q rT.q ⟨a',L.length,c'⟩ j4.q WG.q);clear WH OX OY;go_wp2_with fail;go_roundw
     case rel=>exact⟨k+1,_,by omega,by go_num,Jm.q⟩
     case measure=>simp[RowKit.intOf];omega
    .obtain rfl:k=ds.length:=by omega
     have HLD:=f (show xd.length=ds.length from by obtain⟨_,_,q,_⟩:=hho.od.shape;simp only[Sl.v,Value.slice.injEq] at q;exact q.2.1.symm);have Zp:=f hho;clear hho hst hown;have hbx:=Zp.q.st.bx;have hb2:=Zp.q.st.b2;have hcx:=hbx.1;have hfx:=hbx.2.1;have hlx:=hbx.2.2;have hc2:=hb2.1;have hf2:=hb2.2.1;have hl2:=hb2.2.2;go_wp2_with fail;have HOm:=Zp;clear hbx hb2 hcx hfx hlx hc2 hf2 hl2
     go_loopw [79] (λi wr=>∃(k:Nat)(xm:O aN),k<=ms.length/\i= J N k/\HO w wr ⟨⟨n0,(C.nl 0).length,d0⟩,⟨n1,(C.nl 1).length,d1⟩,⟨n2,(C.nl 2).length,d2⟩,⟨n3,(C.nl 3).length,d3⟩,⟨ae,es.length,ce⟩,⟨ad,ds.length,cd⟩,⟨am,ms.length,cm⟩,⟨aq,qs.length,cq⟩⟩ xe xd xm C es.length ds.length k) (λi _=>ms.length - (RowKit.intOf i).toNat)
     case atStart=>exact⟨0,ms,aV _,rfl,HOm.q⟩
     case round=>
      obtain⟨k,xm,hk,rfl,hho⟩:=hrel;have hst:=hho.st;have hown:Own wr w.1.size 77 4 eP (H am ms.length cm) xm:=hho.om;by_cases hlt:k<ms.length
      .obtain⟨g,cur,rfl,hbg,hxl,hcap,hBg,hcur⟩:=hown.open_ (hc:=rJ) ah
       obtain⟨x,hx⟩:∃x,xm[k]?=G x:=⟨_,eu ah⟩;have hsl:k<C.SM.length:=by rw[<-hst.sm.1];omega
       obtain⟨L,hL⟩:∃L,C.SM[k]?=G L:=⟨_,eu hsl⟩;have yC:=hst.sm.2 k x L hx hL;have hrow:=yC.row (hc:=ig) hst.b;have hcx:=(hbg.1 (k*4+3)).trans (hcur k x 3 _ hx rfl);have Sc:S (∀W,Below wr.1.size wr W->Calls Tryz.prog 91 #[H x.sa x.sn x.sc] W (kQ 3 1 aQ L W)):=by
        refine f (λW hW=>?_);have hr:Row W 1 aQ x.sa x.sn x.sc L:=hrow.below hW rfl;rw[show x.sn=L.length from hrow.len.symm] at hr ⊢;exact OZ x.sa x.sc L W hr (by have:=yC.1;omega)
       have yD:=f hho;have FW:=f hbg;have HX:=f hx;have HL:=f hL;have j4:=f yC.1;have Mf:=f hcx;have OW:=f (hcur k x 3 _ hx rfl);have hle1:k<2000000:=by have:=hst.m.1;omega
       clear hho hst hown hbg hx hL yC hrow hcx hcur hsl;go_wp2_with fail;refine aC 10 [(0,0),(1,0),(2,0),(3,0),(4,0),(5,0),(6,0),(7,0),(8,0),(9,2),(10,1),(11,1),(12,2)] (λ_=>True) (λW'=>Bx W' w.1.size #[(H n0 (C.nl 0).length d0),(H n1 (C.nl 1).length d1),(H n2 (C.nl 2).length d2),(H n3 (C.nl 3).length d3),(H ae es.length ce),(H ad ds.length cd),(H (G ⟨g,0,I⟩) ms.length cm),(H aq qs.length cq)]/\W'.cell? ⟨g,k*4+3,I⟩=G (H x.sa x.sn x.sc)) av av (trivial) (⟨yD.q.st.bx,Mf.q⟩) ?_;refine qC ?_;refine aD rfl rfl (λK hK=>?_);go_simp;refine(Sc.q _ (U _ _).drew).mono ?_;rintro en Y ⟨a',c',rfl,Mg,BG⟩;have WG:=f Mg;have rT:=f (show Below wr.1.size wr Y from(U _ _).drew.trans BG);refine hK _ _ ⟨P,yD.q.st.bx.keep rT.q,bn rT.q rfl Mf.q⟩ ?_;clear hK K Mg BG;have yE:=FW.q.keep rT.q;have WH:=yE.2.1;have OX:=yE.2.2;have OY:Y.cell? ⟨g,k*4+3,I⟩=G (H x.sa x.sn x.sc):=(yE.1 _).trans OW.q;clear yE;refine qC ?_;refine bq rfl rfl rfl (λK hK=>?_);go_simp;refine hK _ _ P ?_;clear hK K;refine aJ ?_;have Jm:=f (yD.q.Zc rfl HX.q HL.q rT.q ⟨a',L.length,c'⟩ j4.q WG.q);clear WH OX OY;go_wp2_with fail;go_roundw
       case rel=>exact⟨k+1,_,by omega,by go_num,Jm.q⟩
       case measure=>simp[RowKit.intOf];omega
      .obtain rfl:k=ms.length:=by omega
       have HLM:=f (show xm.length=ms.length from by obtain⟨_,_,q,_⟩:=hho.om.shape;simp only[Sl.v,Value.slice.injEq] at q;exact q.2.1.symm);have Zq:=f hho;clear hho hst hown;have hbx:=Zq.q.st.bx;have hb2:=Zq.q.st.b2;have hcx:=hbx.1;have hfx:=hbx.2.1;have hlx:=hbx.2.2;have hc2:=hb2.1;have hf2:=hb2.2.1;have hl2:=hb2.2.2;go_wp2_with fail;have Ui:S (∀Y,Same (λi=>i≠w.1.size+1) wr Y->Nj w C (.returned (gH ⟨⟨n0,(C.nl 0).length,d0⟩,⟨n1,(C.nl 1).length,d1⟩,⟨n2,(C.nl 2).length,d2⟩,⟨n3,(C.nl 3).length,d3⟩,⟨ae,es.length,ce⟩,⟨ad,ds.length,cd⟩,⟨am,ms.length,cm⟩,⟨aq,qs.length,cq⟩⟩)) Y):=f (λY hs=>HO.fin (by rw[uF.q,HLD.q,HLM.q];exact Zq.q) hs);refine bodyPost_ret (v:=gH ⟨⟨n0,(C.nl 0).length,d0⟩,⟨n1,(C.nl 1).length,d1⟩,⟨n2,(C.nl 2).length,d2⟩,⟨n3,(C.nl 3).length,d3⟩,⟨ae,es.length,ce⟩,⟨ad,ds.length,cd⟩,⟨am,ms.length,cm⟩,⟨aq,qs.length,cq⟩⟩) (by simp[results,results44,go_sem,hc2]) rfl (Ui.q _ ?_)
       repeat(first|(with_reducible exact Same.refl' _)|(refine Same.setTail ?_ (λhn=>hn rfl)))
end Yd
