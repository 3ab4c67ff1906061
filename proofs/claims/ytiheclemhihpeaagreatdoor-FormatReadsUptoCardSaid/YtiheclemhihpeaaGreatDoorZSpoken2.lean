import Derived.Test.YtiheclemhihpeaaGreatDoorZSame
import Derived.Laws.EntriesVeiled
import Derived.Test.YtiheclemhihpeaaGreatDoorZFm1
set_option linter.all false
set_option maxRecDepth 200000
set_option maxHeartbeats 8000000
namespace Yd
open Option renaming some->J,none->L
open Go Go.RowKit Go.Proofs Tryz
open Below renaming refl->D
open Go renaming Calls->N,callFunc->U,World->V
open Go.Obj renaming cells->I
open Go.Value renaming pointer->G,bool->O
open Tryz renaming prog->C
open Yd renaming hid->H
open _root_ renaming List->M
theorem abD{p:Prop}(h:p:=by simp;omega):p:=h
theorem abE{p:Prop}(h:p:=by simp[gY,hasB,fD,dD,d,b,eq_comm (a:=(0:Int)),eq_comm (a:=(⟨0,0⟩:je)),eq_comm (a:=([]:M Sn)),vD]):p:=h
def fD (e:EvC)(a:M Sn):Bool:=
 if e.kind=1 then decide (e.obj=0) && decide (e.v=⟨0,0⟩) && decide (e.pred=0) && decide (a=[])
 else if e.kind=2\/e.kind=3 then decide (e.gG=0) && decide (e.lvl=0) && decide (e.pred=0) && decide (a=[])
 else if e.kind=4 then decide (e.gG=0) && decide (e.lvl=0) && decide (e.obj=0) && decide (e.v=⟨0,0⟩)
 else decide (e.gG=0) && decide (e.lvl=0) && decide (e.obj=0) && decide (e.v=⟨0,0⟩) && decide (e.pred=0) && decide (a=[])
def hasB (a d b f:Nat)(e:EvC)(c:M Sn):Bool:=
 if e.kind=1 then bf e.gG d && iG e.lvl
 else if e.kind=2 then bf e.obj b && gJ e.v a && decide (e.v.t=e.t) && decide (0<e.v.k)
 else if e.kind=3 then bf e.obj b && gJ e.v a
 else if e.kind=4 then bf e.pred f && decide (c.length<=40) && c.all (ji a b)
 else true
def gY (a c d f:Nat)(e:EvC)(b:M Sn):Bool:=decide (1<=e.kind) && decide (e.kind<7) && bf e.t a && hasB a c d f e b && fD e b
@[reducible] def FZ (n:Nat):Array Value:=#[.nilFunc,.func (.func 170) #[] #[G (J ⟨n+1,0,L⟩),G (J ⟨n,0,L⟩)],.func (.func 171) #[] #[G (J ⟨n+1,0,L⟩),G (J ⟨n,0,L⟩)],.func (.func 173) #[] #[G (J ⟨n+1,0,L⟩),G (J ⟨n,0,L⟩)],.func (.func 174) #[] #[G (J ⟨n,0,L⟩),G (J ⟨n+1,0,L⟩)],.func (.func 177) #[] #[],.func (.func 178) #[] #[]]
theorem qz (h:HC)(e:EvC)(l p:M Sn)(B:EvC)(R:Bool)(F k:Nat)(α:Array Value)(W:V)(z:Row W 3 bI e.sa e.sn e.sc l)(A:bf e.t h.t.n=true)(hk:e.kind=(k:Int))(ν:1<=k)(ξ:k<7)
  (hF:(FZ W.1.size)[k]?=J (.func (.func F) #[] α)) (eg:∀β w,(U F β).run C w= .ok (.enter F β) w) (E:∀n,Below W.1.size W n->Bx n (W.1.size+1) (aY e)->Bx n W.1.size (aI h)->N C F α n (nE (gQ B) (O R) n))
  (γ:∀m,Below W.1.size W m->Row m 3 bI B.sa B.sn B.sc p) (δ:gY h.t.n h.s.n h.o.n h.p.n e l=(R && (dD {B with kind:=k,t:=e.t} e && decide (p=l)))):
  N C 129 #[fB h,gQ e] W (bT (O (gY h.t.n h.s.n h.o.n h.p.n e l)) W):=by
 rw[δ];obtain⟨kind,t,b,c,d,v,f,g,i,j⟩:=e;simp only at hk z A E;subst hk;obtain⟨P,Q⟩:∃P:Bool,P=(dD {B with kind:=k,t:=t} ⟨k,t,b,c,d,v,f,g,i,j⟩ && decide (p=l)):=⟨_,rfl⟩;show N _ _ _ _ (bT (O (R && (dD {B with kind:=k,t:=t} ⟨k,t,b,c,d,v,f,g,i,j⟩ && decide (p=l)))) W);rw[<-Q];have ο:=H Q;have HF:=H hF;have π:=H E;have ρ:=H γ;have HT:=H A;have S:=H z;have g1:¬((k:Int)<1):=by omega
 have g7:(k:Int)<7:=by omega
 clear Q A z δ hF E γ ν ξ;have T:=((Bx.new (W.alloc (I (aI h) 41)) (aY ⟨k,t,b,c,d,v,f,g,i,j⟩) 50).alloc (I (FZ W.1.size) 232));have X:=(((Bx.new W (aI h) 41).alloc (I (aY ⟨k,t,b,c,d,v,f,g,i,j⟩) 50)).alloc (I (FZ W.1.size) 232));have Y:=(Bx.new ((W.alloc (I (aI h) 41)).alloc (I (aY ⟨k,t,b,c,d,v,f,g,i,j⟩) 50)) (FZ W.1.size) 232);have ε:=(((D W.1.size W).alloc (aC _) (I (aI h) 41)).alloc ak (I (aY ⟨k,t,b,c,d,v,f,g,i,j⟩) 50)).alloc abD (I (FZ W.1.size) 232);simp only[World.size_alloc] at T X Y;have ζ:=H T;have η:=H X;have θ:=H Y;have Z:=H ε;clear T X Y ε;go_enter func129,ntmps129;go_wp2_with fail;refine(ED h _ _).mono ?_;rintro e n ⟨rfl,r⟩;rw[HT.q];have s:=H (ζ.q.keep r);have ι:=H (η.q.keep r);have κ:=H (θ.q.keep r);have q:=H (Z.q.bL r);have σ:=s.q;have τ:=(κ.q.1 k).trans HF.q;clear r;go_wp2_with fail;refine(π.q n q.q s.q ι.q).mono ?_;rintro e a ⟨rfl,u⟩;have S:=H (S.q.below (q.q.bL u) rfl);have μ:=s.q.keep u;have o:=H (q.q.bL u);have HL:=H (kS s.q.2.2 u.size);have y:Hid (∀m,Below a.1.size a m->Bx m (W.1.size+1) (aY ⟨k,t,b,c,d,v,f,g,i,j⟩)):=λm hb=>μ.keep hb
 clear u σ τ μ s κ ι ζ η θ Z q
 cases R
 all_goals
  go_wp2_with fail;have HX:=H ((Bx.new a (aY (B)) 50).drew);have HB:=H (((D a.1.size a).alloc (aC _) (I (aY (B)) 50)).drew);refine aD 0 [(0,1),(1,1),(2,1),(3,1),(4,1),(5,2),(6,1),(7,2)] (λm=>Bx m (W.1.size+1) (aY ⟨k,t,b,c,d,v,f,g,i,j⟩)) (λ_=>True) au au (y.q _ HB.q) trivial ?_;refine qC ?_;have hX:=HX.q;refine bA rfl rfl rfl (λK x=>?_);go_simp;refine x _ _ (y.q _ (((D _ _).alloc (aC _) _).drew)) ?_;clear x K;refine qC ?_;refine bA rfl rfl rfl (λK x=>?_);go_simp;refine x _ _ (y.q _ (((D _ _).alloc (aC _) _).drew)) ?_;clear x K;clear hX HX;have φ:=y.q _ (((D a.1.size a).alloc (aC _) (I (aY {B with kind:=k,t:=t}) 50)).drew);have χ:=HL.q;refine aH ?_;go_wp2_with fail
 .go_ret
  exact⟨rfl,o.q.trans ((((D a.1.size a).alloc (aC _) (I (aY {B with kind:=k,t:=t}) 50)).drew).mono o.q.size)⟩
 .refine(Qs {B with kind:=k,t:=t} ⟨k,t,b,c,d,v,f,g,i,j⟩ p l _ (ρ.q _ (o.q.trans ((((D a.1.size a).alloc (aC _) (I (aY {B with kind:=k,t:=t}) 50)).drew).mono o.q.size))) (S.q.below (((D a.1.size a).alloc (aC _) (I (aY {B with kind:=k,t:=t}) 50)).drew) rfl)).mono ?_
  rintro e w3 ⟨rfl,υ⟩;rw[show(dD {B with kind:=k,t:=t} ⟨k,t,b,c,d,v,f,g,i,j⟩ && decide (p=l))=P from by simp[ο.q]];go_wp2_with fail;go_ret;exact⟨rfl,o.q.trans (((((D a.1.size a).alloc (aC _) (I (aY {B with kind:=k,t:=t}) 50)).drew).mono o.q.size).trans (υ.mono (by have:=o.q.size;simp;omega)))⟩
theorem Uu:∀args w,(U 170 args).run C w= .ok (.enter 170 args) w:=enters_of func170 au rfl
theorem Uv:∀args w,(U 171 args).run C w= .ok (.enter 171 args) w:=enters_of func171 au rfl
theorem Uw:∀args w,(U 173 args).run C w= .ok (.enter 173 args) w:=enters_of func173 au rfl
theorem Ux:∀args w,(U 174 args).run C w= .ok (.enter 174 args) w:=enters_of func174 au rfl
theorem Uy:∀args w,(U 177 args).run C w= .ok (.enter 177 args) w:=enters_of func177 au rfl
theorem Uz:∀args w,(U 178 args).run C w= .ok (.enter 178 args) w:=enters_of func178 au rfl
theorem OC (h:HC)(e:EvC)(_scan:M Sn)(W:V)(a:e.kind<1):
  N C 129 #[fB h,gQ e] W (bT (O false) W):=by
 obtain⟨b,t,c,d,f,v,g,i,j,k⟩:=e;skip;go_enter func129,ntmps129;go_wp2_with fail;go_ret;exact⟨rfl,((((D W.1.size W).alloc (aC _) _).alloc ak _).alloc abD _)⟩
theorem OD (h:HC)(e:EvC)(_scan:M Sn)(W:V)(a:¬e.kind<1)(b:7<=e.kind):
  N C 129 #[fB h,gQ e] W (bT (O false) W):=by
 obtain⟨c,t,d,f,g,v,i,j,k,l⟩:=e;skip;go_enter func129,ntmps129;go_wp2_with fail;go_ret;exact⟨rfl,((((D W.1.size W).alloc (aC _) _).alloc ak _).alloc abD _)⟩
theorem OE (h:HC)(e:EvC)(_scan:M Sn)(W:V)(d:¬e.kind<1)(f:¬7<=e.kind)(a:bf e.t h.t.n=false):
  N C 129 #[fB h,gQ e] W (bT (O false) W):=by
 obtain⟨g,t,i,j,k,v,l,m,n,o⟩:=e;have b:=H a;clear a;go_enter func129,ntmps129
 go_wp2_with (go_at_call 126;refine(ED h _ _).mono ?_;rintro e p ⟨rfl,c⟩;rw[b.q])
 go_ret;exact⟨rfl,((((D W.1.size W).alloc (aC _) _).alloc ak _).alloc abD _).trans (c.mono abD)⟩
theorem LK (h:HC)(e:EvC)(c:M Sn)(W:V)(i:Row W 3 bI e.sa e.sn e.sc c):
  N C 129 #[fB h,gQ e] W (bT (O (gY h.t.n h.s.n h.o.n h.p.n e c)) W):=by
 by_cases f:e.kind<1
 .have:gY h.t.n h.s.n h.o.n h.p.n e c=false:=by simp[gY,Int.not_le.2 f]
  rw[this];exact OC h e c W f
 by_cases l:7<=e.kind
 .have:gY h.t.n h.s.n h.o.n h.p.n e c=false:=by simp[gY,Int.not_lt.2 l]
  rw[this];exact OD h e c W f l
 cases d:bf e.t h.t.n
 .have:gY h.t.n h.s.n h.o.n h.p.n e c=false:=by simp[gY,d]
  rw[this];exact OE h e c W f l d
 have o:=i.len;have p:((e.sn:Int)<=40)=(e.sn<=40):=propext ah;have b:e.kind=1\/e.kind=2\/e.kind=3\/e.kind=4\/e.kind=5\/e.kind=6:=by omega
 have k:∀m,Below W.1.size W m->Row m 3 bI L 0 0 ([]:M Sn):=λ_ _=>Row.eH
 rcases b with b|b|b|b|b|b
 .exact qz h e c [] (Jg e) _ _ 1 _ W i d b ah ah rfl Uu (λg _ f j=>SL h e _ _ g f j) k abE
 .exact qz h e c [] (Jh e) _ _ 2 _ W i d b ah ah rfl Uv (λg _ f j=>SN h e _ _ g f j) k (by simp[gY,hasB,fD,dD,d,b,eq_comm (a:=(0:Int)),eq_comm (a:=([]:M Sn)),vD,Bool.beq_eq_decide_eq])
 .exact qz h e c [] (Ji e) _ _ 3 _ W i d b ah ah rfl Uw (λg _ f j=>SQ h e _ _ g f j) k (by simp[gY,hasB,fD,dD,d,b,eq_comm (a:=(0:Int)),eq_comm (a:=([]:M Sn)),vD])
 .exact qz h e c c (Jj e) _ _ 4 _ W i d b ah ah rfl Ux (λg n f j=>SS h e _ _ g f j c (i.below n rfl)) (λm n=>i.below n rfl) (by simp[gY,hasB,fD,dD,d,b,o,p,eq_comm (a:=(0:Int)),eq_comm (a:=(⟨0,0⟩:je)),vD])
 .exact qz h e c [] Ak true _ 5 _ W i d b ah ah rfl Uy (λg _ _ _=>SV g) k abE
 .exact qz h e c [] Ak true _ 6 _ W i d b ah ah rfl Uz (λg _ _ _=>SX g) k abE
def fK (b:Nat)(a:M Int):Bool:=decide (a.length<=300) && a.all (λx=>bf x b)
theorem Ro (h:HC)(x:Int)(a:Nat)(w:V)(c:Bx w a (aI h)):N C 125 #[.int .i64 x,G (J ⟨a,0,L⟩)] w (bT (O (bf x h.t.n)) w):=by
 go_enter func125,ntmps125
 go_wp2_with (go_at_call 126;refine(ED h _ _).mono ?_;rintro e d ⟨rfl,b⟩)
 go_ret;exact⟨rfl,b⟩
theorem LM (h:HC)(a:Option Addr)(n c:Nat)(b:M Int)(f:Nat)(w:V)(i:Bx w f (aI h))(g:Row w 1 aQ a n c b):
  N C 123 #[.slice a n c,G (J ⟨f,0,L⟩)] w (bT (O (fK h.t.n b)) w):=by
 have j:=Tm a n c 125 #[G (J ⟨f,0,L⟩)] b (λx=>bf x h.t.n) w g call125
  (λx _ m o=>Ro h x f m (i.keep o))
 have k:=g.len;have p:=H j;have l:=H k;clear j i g k;by_cases r:(n:Int)<=300
 .have d:fK h.t.n b=b.all (λx=>bf x h.t.n):=by simp[fK,l.q];omega
  rw[d];have s:=H d;clear d;go_enter func123,ntmps123
  go_wp2_with (go_at_call 124;refine p.q.mono ?_;rintro e t ⟨rfl,q⟩)
  go_ret;exact⟨rfl,q⟩
 .have d:fK h.t.n b=false:=by simp[fK,l.q];omega
  rw[d];clear d;go_enter func123,ntmps123;go_wp2_with fail;go_ret;exact⟨rfl,D _ _⟩
theorem UA (h:HC)(e:EvC)(b:M Sn)(d:Nat)(w:V)(c:Bx w d (aI h))(f:Row w 3 bI e.sa e.sn e.sc b):
  N C 128 #[gQ e,G (J ⟨d,0,L⟩)] w (bT (O (gY h.t.n h.s.n h.o.n h.p.n e b)) w):=by
 have a:Below w.1.size w (w.alloc (I (aY e) 50)):=(D _ _).alloc (aC _) _;have g:=LK h e b _ (f.below a rfl);have l:=c.keep a;have m:=c.2.2;have j:=H g;have i:=H a;clear g a f c;go_enter func128,ntmps128
 go_wp2_with (go_at_call 129;refine j.q.mono ?_;rintro e n ⟨rfl,k⟩)
 go_ret;exact⟨rfl,i.q.bL k⟩
theorem UB (h:HC)(x:aO)(d:M Int)(f l:Nat)(w:V)(j:Bx w f (aI h))(k:Bx w l #[.func (.func 123) #[] #[G (J ⟨f,0,L⟩)]])(m:Row w 1 aQ x.sa x.sn x.sc d):
  N C 131 #[BZ x,G (J ⟨f,0,L⟩),G (J ⟨l,0,L⟩)] w (bT (O (bf x.obj h.o.n && fK h.t.n d)) w):=by
 have b:Below w.1.size w (w.alloc (I (Ht x) 65)):=(D _ _).alloc (aC _) _;have n:=Bx.new w (Ht x) 65;have o:=j.keep b;have p:=k.keep b;have y:=j.2.2;have z:=k.2.2;have c:=H (⟨n,o,p,m.below b rfl⟩:Bx _ _ _/\Bx _ _ _/\Bx _ _ _/\Row _ 1 aQ x.sa x.sn x.sc d);have a:=H b;clear n b m j k o p
 cases q:bf x.obj h.o.n
 all_goals
  have r:=H q;clear q;have g:=c.q;go_enter func131,ntmps131;go_wp2_with fail;refine(BU h _ _).mono ?_;rintro e s ⟨rfl,i⟩;rw[r.q];clear g;have g:=EF (⟨c.q.1,c.q.2.1,c.q.2.2.1⟩:Bx _ _ _/\Bx _ _ _/\Bx _ _ _) i;have t:=H (c.q.2.2.2.below i rfl);have a:=H (a.q.bL i);have u:=H a.q.size;clear i;go_wp2_with fail
 .go_ret
  exact⟨rfl,a.q⟩
 .refine(LM h x.sa x.sn x.sc d f s g.2.1 t.q).mono ?_
  rintro e A ⟨rfl,v⟩;clear g;go_wp2_with fail;go_ret;exact⟨rfl,a.q.trans (v.mono u.q)⟩
theorem UC (h:HC)(x:aP)(f:M Int)(g n:Nat)(w:V)(k:Bx w g (aI h))(l:Bx w n #[.func (.func 123) #[] #[G (J ⟨g,0,L⟩)]])(o:Row w 1 aQ x.sa x.sn x.sc f):
  N C 133 #[Ca x,G (J ⟨g,0,L⟩),G (J ⟨n,0,L⟩)] w (bT (O (bf x.pred h.p.n && bf x.obj h.o.n && fK h.t.n f)) w):=by
 have c:Below w.1.size w (w.alloc (I (Hu x) 67)):=(D _ _).alloc (aC _) _;have p:=Bx.new w (Hu x) 67;have q:=k.keep c;have r:=l.keep c;have E:=k.2.2;have F:=l.2.2;have d:=H (⟨p,q,r,o.below c rfl⟩:Bx _ _ _/\Bx _ _ _/\Bx _ _ _/\Row _ 1 aQ x.sa x.sn x.sc f);have a:=H c;clear p c o k l q r
 cases s:bf x.pred h.p.n
 all_goals cases t:bf x.obj h.o.n
 all_goals
  have v:=H s;have y:=H t;clear s t;have b:=d.q;go_enter func133,ntmps133;go_wp2_with fail;refine(PI h _ _).mono ?_;rintro e K ⟨rfl,i⟩;rw[v.q];clear b;have b:=EF (⟨d.q.1,d.q.2.1,d.q.2.2.1⟩:Bx _ _ _/\Bx _ _ _/\Bx _ _ _) i;have z:=H b;have m:=H (d.q.2.2.2.below i rfl);have a:=H (a.q.bL i);have u:=H a.q.size;clear i;go_wp2_with fail
 .go_ret
  exact⟨rfl,a.q⟩
 .go_ret
  exact⟨rfl,a.q⟩
 all_goals
  refine(BU h _ _).mono ?_;rintro e A ⟨rfl,j⟩;rw[y.q];clear b;have b:=EF z.q j;have m:=H (m.q.below j rfl);have a:=H (a.q.bL j);have u:=H a.q.size;clear j;go_wp2_with fail
 .go_ret
  exact⟨rfl,a.q⟩
 .refine(LM h x.sa x.sn x.sc f g A b.2.1 m.q).mono ?_
  rintro e P ⟨rfl,B⟩;clear b;go_wp2_with fail;go_ret;exact⟨rfl,a.q.trans (B.mono u.q)⟩
theorem UD (h:HC)(x:Wa)(g:Nat)(w:V)(b:Bx w g (aI h)):
  N C 135 #[wD x,G (J ⟨g,0,L⟩)] w (bT (O (bf x.gG h.s.n && decide (0<=x.bits) && decide (x.bits<=15))) w):=by
 have c:Below w.1.size w (w.alloc (I (Hr x) 69)):=(D _ _).alloc (aC _) _;have i:=Bx.new w (Hr x) 69;have j:=b.keep c;have r:=b.2.2;have k:=H (⟨i,j⟩:Bx _ _ _/\Bx _ _ _);have a:=H c;clear i c b j;obtain⟨R,d⟩:∃R:Bool,R=(decide (0<=x.bits) && decide (x.bits<=15)):=⟨_,rfl⟩;rw[vD,<-d];have n:=H d;clear d
 cases l:bf x.gG h.s.n
 all_goals
  have o:=H l;clear l;have m:=k.q;go_enter func135,ntmps135;go_wp2_with fail;refine(PG h _ _).mono ?_;rintro e s ⟨rfl,f⟩;rw[o.q];clear m;have m:=tX k.q f;have a:=H (a.q.bL f);clear f
  cases p:decide (0<=x.bits)
  all_goals cases q:decide (x.bits<=15)
  all_goals
   go_wp2_with fail;go_ret;exact⟨by rw[n.q,p,q];rfl,a.q⟩
end Yd
namespace Yd
open List renaming range->U
open Option renaming some->J,none->N
open Go Go.RowKit Go.Proofs Go.Maps Tryz
open Go.Value renaming pointer->G
open Tryz renaming prog->L
open Yd renaming hid->C
open _root_ renaming List->H,Int->I,Bool->O
def Dy:Nat->I
 |0=>300
 |1=>60
 |2=>300
 |_=>60
def wQ (w:World):Prop:=Lib.Utf8Tabs 7 8 w/\∀i,i<4->w.cell? ⟨2,i,N⟩=J (.int .i64 (Dy i))
theorem wQ.below {w w':World}(h:wQ w)(a:Below w.1.size w w'):wQ w':=by
 refine⟨Utf8Tabs_below h.1 a,λi b=>?_⟩;rw[a.cell (p:=⟨2,i,N⟩) (iw (h.2 i b))];exact h.2 i b
def HC.nm (h:HC):Nat->Sl
 |0=>h.t
 |1=>h.s
 |2=>h.o
 |_=>h.p
theorem OG (h:HC)(i:Nat)(a:i<4)(w:World):(Instr.index 130 (.agg #[h.t.v,h.s.v,h.o.v,h.p.v]) (.int .i64 i)).run L w= .ok (h.nm i).v w:=by
 match i,a with
 |0,_=>exact SC h w
 |1,_=>exact SF h w
 |2,_=>exact SG h w
 |3,_=>exact SH h w
theorem XG (a b c:I)(w:World):(Builtin.max_ #[3,3,3] 3 #[.int .i64 a,.int .i64 b,.int .i64 c]).run L w= .ok (.int .i64 (if c>(if b>a then b else a) then c else(if b>a then b else a))) w:=by
 simp[Builtin.max_,Builtin.max2]
def nA (a:H Bs):O:=a.all (λs=>bW ⟨s.toArray⟩) && decide a.Nodup
def qA (nl:Nat->H Bs)(i:Nat):O:=decide (((nl i).length:I)<=Dy i) && nA (nl i)
def JV (h:HC):O:=decide ((h.e.n:I)<=3000) && decide ((if(h.w.n:I)>(if(h.m.n:I)>h.d.n then(h.m.n:I) else h.d.n) then(h.w.n:I) else(if(h.m.n:I)>h.d.n then(h.m.n:I) else h.d.n))<=3000)
def Deep (w:World)(h:HC)(a:H EvC)(b:H aO)(c:H aP)(d:H Wa)(e:EvC->H Sn)(f:aO->H I)(g:aP->H I):Prop:=
 Row w 9 dK h.e.a h.e.n h.e.c a/\Row w 2 dU h.d.a h.d.n h.d.c b/\Row w 4 dV h.m.a h.m.n h.m.c c/\Row w 2 eY h.w.a h.w.n h.w.c d/\
 (∀x∈a,Row w 3 bI x.sa x.sn x.sc (e x))/\(∀x∈b,Row w 1 aQ x.sa x.sn x.sc (f x))/\(∀x∈c,Row w 1 aQ x.sa x.sn x.sc (g x))
def JW (h:HC)(a:aO->H I)(x:aO):O:=bf x.obj h.o.n && fK h.t.n (a x)
def JX (h:HC)(a:aP->H I)(x:aP):O:=bf x.pred h.p.n && bf x.obj h.o.n && fK h.t.n (a x)
def EQ (h:HC)(x:Wa):O:=bf x.gG h.s.n && decide (0<=x.bits) && decide (x.bits<=15)
def qK (h:HC)(nl:Nat->H Bs):O:=JV h && (U 4).all (qA nl)
def nK (h:HC)(nl:Nat->H Bs)(a:H EvC)(b:H aO)(c:H aP)(d:H Wa)(f:EvC->H Sn)(g:aO->H I)(i:aP->H I):O:=
 qK h nl && a.all (λe=>gY h.t.n h.s.n h.o.n h.p.n e (f e)) && b.all (JW h g) && c.all (JX h i) && d.all (EQ h)
theorem GR {nl:Nat->H Bs}{R r u d:O}{k:Nat}(a:k<4)(b:r=(R && (U k).all (qA nl)))(c:u=(r && d))(e:qA nl k=(d && nA (nl k)))
  (h:u=false\/nA (nl k)=false):(R && (U 4).all (qA nl))=false:=by
 grind
theorem JY {nl:Nat->H Bs}{R r u d:O}{k:Nat}(a:r=(R && (U k).all (qA nl)))(b:u=(r && d))(c:qA nl k=(d && nA (nl k)))
  (h:nA (nl k)=true):u=(R && (U (k+1)).all (qA nl)):=by
 grind
variable{i:H Bs}
theorem OH (a:i.all (λs=>bW ⟨s.toArray⟩)=true)(b:i.Nodup):nA i=true:=by grind [nA]
theorem LP {x:Bs}{j:Nat}(a:i[j]?=J x)(b:bW ⟨x.toArray⟩=false):nA i=false:=by
 grind [nA]
theorem LQ {x:Bs}{j:Nat}(c:i[j]?=J x)(a:decide (x∈i.take j)=true):nA i=false:=by
 cases b:nA i
 .rfl
 .simp only[nA,bD,bO] at b a
  grind [List.getElem?_of_mem,List.getElem?_eq_some_iff,List.getElem?_take_of_lt,List.pairwise_iff_getElem]
theorem JZ (h:HC)(nl:Nat->H Bs)(T:H EvC)(X:H aO)(Y:H aP)(Z:H Wa)(α:EvC->H Sn)(dn:aO->H I)(mn:aP->H I)(w:World)(hg:wQ w)
  (hn:∀i,i<4->Row w 1 encStr (h.nm i).a (h.nm i).n (h.nm i).c (nl i)) (hd:Deep w h T X Y Z α dn mn):
  Calls L 75 #[fB h] w (bT (.bool (nK h nl T X Y Z α dn mn)) w):=by
 have x4:= @run_makeMap L;have z5:=XG h.d.n h.m.n h.w.n;go_enter func75,ntmps75;obtain⟨R,hR⟩:∃R:O,R=JV h:=⟨_,rfl⟩;have HR:=C hR;clear hR;obtain⟨S,hS⟩:∃S:O,S=nK h nl T X Y Z α dn mn:=⟨_,rfl⟩;rw[<-hS];have HS:=C hS;have v:=C hd;clear hS hd;obtain⟨E,hE⟩:∃E:O,E=T.all (λe=>gY h.t.n h.s.n h.o.n h.p.n e (α e)):=⟨_,rfl⟩;obtain⟨D,hD⟩:∃D:O,D=X.all (JW h dn):=⟨_,rfl⟩;obtain⟨M,hM⟩:∃M:O,M=Y.all (JX h mn):=⟨_,rfl⟩;obtain⟨V,hV⟩:∃V:O,V=Z.all (EQ h):=⟨_,rfl⟩;have z6:Hid (∀c,Below w.1.size w c->Bx c w.1.size (aI h)->Calls L 127 #[.slice h.e.a h.e.n h.e.c,.func (.func 128) #[] #[G (J ⟨w.1.size,0,N⟩)]] c (bT (.bool E) c)):=λc d q=>by
  rw[hE];exact VN h.e.a h.e.n h.e.c 128 #[G (J ⟨w.1.size,0,N⟩)] T _ c (v.q.1.below d rfl) call128
   (λx B y g=>UA h x (α x) w.1.size y (q.keep g) ((v.q.2.2.2.2.1 x B).below (d.trans (g.mono d.size)) rfl))
 have z7:Hid (∀c n,Below w.1.size w c->Bx c w.1.size (aI h)->Bx c n #[.func (.func 123) #[] #[G (J ⟨w.1.size,0,N⟩)]]->Calls L 130 #[.slice h.d.a h.d.n h.d.c,.func (.func 131) #[] #[G (J ⟨w.1.size,0,N⟩),G (J ⟨n,0,N⟩)]] c (bT (.bool D) c)):=λc n d q h9=>by
  rw[hD];exact VP h.d.a h.d.n h.d.c 131 #[G (J ⟨w.1.size,0,N⟩),G (J ⟨n,0,N⟩)] X _ c (v.q.2.1.below d rfl) call131
   (λx B y g=>UB h x (dn x) w.1.size n y (q.keep g) (h9.keep g) ((v.q.2.2.2.2.2.1 x B).below (d.trans (g.mono d.size)) rfl))
 have z8:Hid (∀c n,Below w.1.size w c->Bx c w.1.size (aI h)->Bx c n #[.func (.func 123) #[] #[G (J ⟨w.1.size,0,N⟩)]]->Calls L 132 #[.slice h.m.a h.m.n h.m.c,.func (.func 133) #[] #[G (J ⟨w.1.size,0,N⟩),G (J ⟨n,0,N⟩)]] c (bT (.bool M) c)):=λc n d q h9=>by
  rw[hM];exact VR h.m.a h.m.n h.m.c 133 #[G (J ⟨w.1.size,0,N⟩),G (J ⟨n,0,N⟩)] Y _ c (v.q.2.2.1.below d rfl) call133
   (λx B y g=>UC h x (mn x) w.1.size n y (q.keep g) (h9.keep g) ((v.q.2.2.2.2.2.2 x B).below (d.trans (g.mono d.size)) rfl))
 have z9:Hid (∀c,Below w.1.size w c->Bx c w.1.size (aI h)->Calls L 134 #[.slice h.w.a h.w.n h.w.c,.func (.func 135) #[] #[G (J ⟨w.1.size,0,N⟩)]] c (bT (.bool V) c)):=λc d q=>by
  rw[hV];exact VW h.w.a h.w.n h.w.c 135 #[G (J ⟨w.1.size,0,N⟩)] Z _ c (v.q.2.2.2.1.below d rfl) call135
   (λx B y g=>UD h x w.1.size y (q.keep g))
 have ι:Hid (S=(qK h nl && E && D && M && V)):=by rw[hE,hD,hM,hV];exact HS.q
 clear hE hD hM hV;have Γ:=OG h;obtain⟨m,hm⟩:∃m:I,m=(if(h.w.n:I)>(if(h.m.n:I)>h.d.n then(h.m.n:I) else h.d.n) then(h.w.n:I) else(if(h.m.n:I)>h.d.n then(h.m.n:I) else h.d.n)):=⟨_,rfl⟩;have v0:Hid (R=(decide ((h.e.n:I)<=3000) && decide (m<=3000))):=by rw[hm];exact HR.q
 rw[<-hm] at z5;clear hm;have j7:=(Bx.new w (aI h) 41);have v1:=C j7;have HN:=C hn;have HG:=C hg;clear j7 hn hg
 cases he:decide ((h.e.n:I)<=3000)
 all_goals cases β:decide (m<=3000)
 all_goals
  have κ:R=_:=v0.q;rw[he,β] at κ;simp only[Bool.and_true,Bool.and_false] at κ;have v2:=C κ;clear κ;go_wp2_with fail
  go_step3
  go_wp2_with fail
  go_step3
  go_wp2_with (go_at_call 77;refine(lD h _).mono ?_;rintro e w1 ⟨rfl,Δ⟩)
  clear he β;have v3:=C (((Below.refl w.1.size w).alloc (aC _) (.cells (aI h) 41)).trans (Δ.mono ak));have v4:=C (v1.q.keep Δ);clear Δ
  go_loopw [3,29] (λb i wr=>∃(k:Nat)(F:O),k<=4/\i= .int .i64 k/\b= .bool F/\F=(R && (U k).all (qA nl))/\Below w.1.size w wr/\Bx wr w.1.size (aI h)) (λ_ i _=>4 - (RowKit.intOf i).toNat)
  case atStart=>exact⟨0,_,by omega,rfl,rfl,by simp[v2.q],v3.q,v4.q⟩
  case round=>
   obtain⟨k,F,hk,rfl,rfl,μ,γ,ν⟩:=hrel;obtain⟨z,v5⟩:∃z,z=wr:=⟨_,rfl⟩;subst v5;by_cases ξ:k<4
   .have δ:=C μ;have r:=C γ;have ο:=C ν
    have v6:(z.alloc (.map #[] 0)).cell? ⟨2,k,N⟩=J (.int .i64 (Dy k)):=((HG.q.below γ).below ((Below.refl _ _).alloc (aC _) _)).2 k ξ;have π:=HN.q k ξ;obtain⟨sl,ε⟩:∃sl,sl=h.nm k:=⟨_,rfl⟩;have Θ:=Γ k ξ;rw[<-ε] at π Θ;obtain⟨sa,t,sc⟩:=sl;have x5:∀W:World,(Instr.index 130 (.agg #[h.t.v,h.s.v,h.o.v,h.p.v]) (.int .i64 k)).run L W= .ok (.slice sa t sc) W:=Θ;clear Θ;have ρ:=C π;have x6:=C Γ;obtain⟨Ξ,Φ⟩:∃l:I,l=Dy k:=⟨_,rfl⟩;rw[<-Φ] at v6;have Ψ:qA nl k=(decide ((t:I)<=Ξ) && nA (nl k)):=by unfold qA;rw[π.len,Φ]
    clear μ γ ν π ε Γ Φ;obtain⟨K,σ⟩:∃K:O,K=(F && decide ((t:I)<=Ξ)):=⟨_,rfl⟩;have Ω:Hid ((K=false\/nA (nl k)=false)->S=false):=λv7=>by
     have:=GR ξ δ.q σ Ψ v7;rw[HS.q,nK,qK,<-HR.q,this];rfl
    have v8:Hid (nA (nl k)=true->K=(R && (U (k+1)).all (qA nl))):=JY δ.q σ Ψ;have v9:=C σ;clear σ Ψ
    cases F
    all_goals cases ε:decide ((t:I)<=Ξ)
    all_goals
     have k0:=C ε;go_wp2_with fail;clear ε;have k1:=C (r.q.alloc r.q.size (.map #[] 0));have k2:=C (ο.q.alloc (.map #[] 0));have HM:=C (rD.new z);have k3:=C r.q.size;have k4:Hid (w.1.size≠z.1.size):=Nat.ne_of_lt ο.q.2.2
     go_loopw [3,45] (λb i wv=>∃(j:Nat)(bj:O),j<=t/\i= .int .i64 j/\b= .bool bj/\bj=K/\(0<j->K=true)/\((nl k).take j).all (λs=>bW ⟨s.toArray⟩)=true/\((nl k).take j).Nodup/\
       Below w.1.size w wv/\Bx wv w.1.size (aI h)/\rD wv z.1.size ((nl k).take j)) (λ_ i _=>t - (RowKit.intOf i).toNat)
     case atStart=>exact⟨0,_,aS _,rfl,rfl,by rw[v9.q,k0.q];rfl,λh=>absurd h aj,rfl,oC,k1.q,k2.q,HM.q⟩
     case round=>
      obtain⟨j,bj,hj,rfl,rfl,τ,q0,ζ,η,P,υ,q1⟩:=hrel;have x7:=ρ.q.le;by_cases k5:j<t
      .obtain⟨x,b,o,q,k6,hc⟩:=(ρ.q.below P rfl).at_ k5
       have k7:=hc 0 _ rfl;simp only[gP,bK] at k7;have j8:=(HG.q.below P).1;have HX:=C q;have k8:=C ζ;have k9:=C η;have x8:=C q0;have q2:=C τ;have u:=C P;have φ:=C υ;have χ:=C q1;subst k6;have j9:=C (BG ⟨x.toArray⟩ wr j8);clear hc q ζ η q0 τ P υ q1 j8
       cases bj
       .go_wp2_with fail
        go_ret;exact⟨by rw[Ω.q (.inl q2.q.symm)];rfl,u.q.alloc u.q.size _⟩
       .cases hw:bW ⟨x.toArray⟩
        .have A:=C hw;clear hw
         go_wp2_with fail;refine j9.q.mono ?_;rintro e w2 ⟨rfl,f⟩;rw[A.q];have p:=C (u.q.bL f);clear f;go_wp2_with fail;go_ret;exact⟨by rw[Ω.q (.inr (LP HX.q A.q))];rfl,p.q.alloc p.q.size _⟩
        .have A:=C hw;clear hw
         go_wp2_with fail;refine j9.q.mono ?_;rintro e w2 ⟨rfl,f⟩;rw[A.q];have z0:=(χ.q.of_eq (f.block _ χ.q.lt)).look x (zU A.q);obtain⟨w3,x9,β,ψ⟩:=(χ.q.of_eq (f.block _ χ.q.lt)).put x (zU A.q) (by have:=ρ.q.le;simp;unfold maxLen;omega);have p:=C (u.q.bL f);have y0:=C β;have y1:=C ψ;have q3:=C ((φ.q.keep f).of_eq ψ.size (ψ.block _ (kS φ.q.2.2 f.size) (λe=>k4.q (by simpa using e))));clear f β ψ
         cases Q:decide (x∈(nl k).take j)
         .rw[Q] at z0
          have q4:=C Q;clear Q;go_wp2_with fail;go_roundw
          case rel=>
           have θ:(nl k).take (j+1)=(nl k).take j++[x]:=by rw[eD,HX.q];rfl
           refine⟨j+1,true,by omega,by go_num,rfl,q2.q,λ_=>q2.q.symm,?_,?_,p.q.grown y1.q p.q.size (λi hi=>by cases hi;exact k3.q),q3.q,by rw[θ];exact y0.q⟩
           .rw[θ,List.all_append,k8.q];simp[A.q]
           .rw[θ,tY]
            have y2:x∉(nl k).take j:=by simpa using q4.q
            exact⟨k9.q,by simp,λa ha b d e=>y2 (by simp at d;rw[<-d,<-e];exact ha)⟩
          case measure=>
           simp[RowKit.intOf];omega
         .rw[Q] at z0
          have q4:=C Q;clear Q;go_wp2_with fail;go_ret;exact⟨by rw[Ω.q (.inr (LQ HX.q q4.q))];rfl,p.q.alloc p.q.size _⟩
      .have b1:j=t:=by omega
       have θ:(nl k).take j=nl k:=eF (by rw[ρ.q.len];omega);rw[θ] at ζ η;have HE:=C (τ.trans (v8.q (OH ζ η)));have u:=C P;have φ:=C υ;clear ζ η τ P υ q1 q0;go_wp2_with fail;go_roundw
       case rel=>exact⟨k+1,bj,by omega,by go_num,rfl,HE.q,u.q,φ.q⟩
       case measure=>simp[RowKit.intOf];omega
   .have y3:k=4:=by omega
    subst y3;have δ:=C μ;have r:=C γ;have ο:=C ν;clear μ γ ν
    cases F
    .go_wp2_with fail
     go_ret;exact⟨by rw[HS.q,nK,qK,<-HR.q,<-δ.q];rfl,r.q.alloc r.q.size _⟩
    .have y4:Hid (qK h nl=true):=by
      show qK h nl=true;rw[qK,<-HR.q,<-δ.q]
     have q5:=ο.q.alloc (.cells #[.func (.func 123) #[] #[G (J ⟨w.1.size,0,N⟩)]] 177);have z1:=Bx.new z #[.func (.func 123) #[] #[G (J ⟨w.1.size,0,N⟩)]] 177;have q6:=r.q.alloc r.q.size (.cells #[.func (.func 123) #[] #[G (J ⟨w.1.size,0,N⟩)]] 177);have y5:=C q5;have y6:=C z1;have z2:=C q6;have y7:=C (z6.q _ q6 q5);clear z1 q6;go_wp2_with fail;refine y7.q.mono ?_;rintro e w2 ⟨rfl,f⟩;clear q5;have q7:=y5.q.keep f;have q8:=y6.q.keep f;have q9:=z2.q.bL f;have y8:=C q7;have y9:=C q8;have p:=C q9;have x0:=C (z7.q _ _ q9 q7 q8);clear q8 q9 f
     cases E
     .go_wp2_with fail
      go_ret;exact⟨by rw[ι.q];simp,p.q⟩
     go_wp2_with fail;refine x0.q.mono ?_;rintro e w3 ⟨rfl,ω⟩;clear q7;have j0:=y8.q.keep ω;have j1:=y9.q.keep ω;have j2:=p.q.bL ω;have q3:=C j0;have b2:=C j1;have j3:=C j2;have x1:=C (z8.q _ _ j2 j0 j1);clear j1 j2 ω
     cases D
     .go_wp2_with fail
      go_ret;exact⟨by rw[ι.q];simp,j3.q⟩
     go_wp2_with fail;refine x1.q.mono ?_;rintro e w4 ⟨rfl,j4⟩;clear j0;have z3:=q3.q.keep j4;have j5:=j3.q.bL j4;have j6:=C j5;have x2:=C (z9.q _ j5 z3);clear j5 j4
     cases M
     .go_wp2_with fail
      go_ret;exact⟨by rw[ι.q];simp,j6.q⟩
     go_wp2_with fail;refine x2.q.mono ?_;rintro e w5 ⟨rfl,z4⟩;clear z3;have x3:=C (j6.q.bL z4);clear z4;go_wp2_with fail;go_ret;exact⟨by rw[ι.q,y4.q];simp,x3.q⟩
end Yd
namespace Yd
open Go Go.RowKit Go.Proofs
attribute [local go_sem] Oper.semAt_some
variable{A:Nat->Prop}
theorem Same.setCell (X:World)(b o:Nat)(v:Value)(c:¬A b):Same A X (X.setCell ⟨b,o,none⟩ v):=
 ⟨rfl,rfl,rfl,by simp[World.setCell],λi a _=>Below.heap_setCell _ _ _ _ (λe=>by have d:i=b:=e;rw[d] at a;exact c a)⟩
theorem bM.setCell (X:World)(b o:Nat)(v:Value)(c:¬A b):bM A X (X.setCell ⟨b,o,none⟩ v):=
 ⟨by simp[World.setCell],λi a _=>Below.heap_setCell _ _ _ _ (λe=>by have d:i=b:=e;rw[d] at a;exact c a)⟩
theorem bM.bx {X Y:World}{b:Nat}{cs:Array Value}(k:bM A X Y)(h:Bx X b cs)(ha:A b):Bx Y b cs:=
 ⟨λi=>(World.cell?_of_block (a:=⟨b,i,none⟩) (k.2 b ha h.2.2)).trans (h.1 i),λi=>(World.frozen?_of_block (a:=⟨b,i,none⟩) (k.2 b ha h.2.2)).trans (h.2.1 i),kS h.2.2 k.1⟩
theorem Bx.setOther {X:World}{b:Nat}{cs:Array Value}(h:Bx X b cs)(c o:Nat)(v:Value)(a:b≠c):Bx (X.setCell ⟨c,o,none⟩ v) b cs:=
 (bM.setCell (A:=λi=>i≠c) X c o v ak).bx h a
end Yd
namespace Yd
open Option renaming none->N,some->O
open Go Go.RowKit Go.Proofs
open Go renaming Addr->G,World->M,Value->V
open _root_ renaming List->H,Option->I,Int->J,Nat->L,Array->U
def ig (v:je):H (J × J):=if 0<v.k then [(0,v.t)] else []
@[reducible] def oJ (a:I G)(q:L):G:=match a with|some ⟨b,o,_⟩=>⟨b,o+q,N⟩|none=>⟨0,0,N⟩
def iR (p:G)(v:je):H (J × G):=if 0<v.k then [(0,p)] else []
def gr {α:Type}(a:L->α->H (J × G))(b:α->H (J × G)):L->H α->H (J × G)
 |_,[]=>[]
 |i,x::c=>a i x++(b x++gr a b (i+1) c)
@[reducible] def F3 (a:I G)(i:L)(s:Sn):H (J × G):=(2,oJ a (i*3))::iR (oJ a (i*3+1)) s.v
@[reducible] def sP (a:I G)(i:L)(e:EvC):H (J × G):=
 (0,oJ a (i*9+1))::(if e.kind=1 then [(1,oJ a (i*9+2))] else if e.kind=2\/e.kind=3 then(2,oJ a (i*9+4))::iR (oJ a (i*9+5)) e.v else if e.kind=4 then [(3,oJ a (i*9+7))] else [])
@[reducible] def P5 (a:I G)(i:L)(_:J):H (J × G):=[(0,oJ a i)]
@[reducible] def Iu (a:I G)(i:L)(_:aO):H (J × G):=[(2,oJ a (i*2))]
@[reducible] def F4 (a:I G)(i:L)(_:aP):H (J × G):=[(3,oJ a (i*4)),(2,oJ a (i*4+1))]
@[reducible] def Iw (a:I G)(i:L)(_:Wa):H (J × G):=[(1,oJ a (i*2))]
def oo (a:I G):L->H Sn->H (J × G):=gr (F3 a) (λ_=>[])
def mG (a:I G)(b:EvC->H Sn):L->H EvC->H (J × G):=gr (sP a) (λe=>oo e.sa 0 (b e))
def kZ (a:I G):L->H J->H (J × G):=gr (P5 a) (λ_=>[])
def pR (a:I G)(b:aO->H J):L->H aO->H (J × G):=gr (Iu a) (λx=>kZ x.sa 0 (b x))
def pQ (a:I G)(b:aP->H J):L->H aP->H (J × G):=gr (F4 a) (λx=>kZ x.sa 0 (b x))
def sH (a:I G):L->H Wa->H (J × G):=gr (Iw a) (λ_=>[])
def aV (h:HC)(a:H EvC)(b:H aO)(c:H aP)(d:H Wa)(e:EvC->H Sn)(f:aO->H J)(g:aP->H J):H (J × G):=
 mG h.e.a e 0 a++(pR h.d.a f 0 b++(pQ h.m.a g 0 c++sH h.w.a 0 d))
variable{a:I G}{b o i:L}
theorem Lg (ha:a=O ⟨b,o,N⟩)(s:Sn)(l:H Sn):oo a i (s::l)=(2,(⟨b,o+i*3,N⟩:G))::(iR ⟨b,o+i*3+1,N⟩ s.v++oo a (i+1) l):=by subst ha;rfl
theorem Jy {c:EvC->H Sn}(ha:a=O ⟨b,o,N⟩)(e:EvC)(d:H EvC):mG a c i (e::d)=
  (0,(⟨b,o+i*9+1,N⟩:G))::((if e.kind=1 then [(1,(⟨b,o+i*9+2,N⟩:G))] else if e.kind=2\/e.kind=3 then(2,(⟨b,o+i*9+4,N⟩:G))::iR ⟨b,o+i*9+5,N⟩ e.v else if e.kind=4 then [(3,(⟨b,o+i*9+7,N⟩:G))] else [])++(oo e.sa 0 (c e)++mG a c (i+1) d)):=by
 subst ha;rfl
theorem Eb (ha:a=O ⟨b,o,N⟩)(d:J)(l:H J):kZ a i (d::l)=(0,(⟨b,o+i,N⟩:G))::kZ a (i+1) l:=by subst ha;rfl
theorem Jz {c:aO->H J}(ha:a=O ⟨b,o,N⟩)(x:aO)(l:H aO):pR a c i (x::l)=(2,(⟨b,o+i*2,N⟩:G))::(kZ x.sa 0 (c x)++pR a c (i+1) l):=by subst ha;rfl
theorem JA {c:aP->H J}(ha:a=O ⟨b,o,N⟩)(x:aP)(l:H aP):pQ a c i (x::l)=(3,(⟨b,o+i*4,N⟩:G))::(2,(⟨b,o+i*4+1,N⟩:G))::(kZ x.sa 0 (c x)++pQ a c (i+1) l):=by subst ha;rfl
theorem JB (ha:a=O ⟨b,o,N⟩)(x:Wa)(l:H Wa):sH a i (x::l)=(1,(⟨b,o+i*2,N⟩:G))::sH a (i+1) l:=by subst ha;rfl
def EN (x:J × G)(args:U V)(_:M):Prop:=args=#[.int .i64 x.1,.pointer (O x.2)]
def vI (C:G->Prop)(w X:M):Prop:=∀a v,C a->w.cell? a=O v->X.cell? a=O v
def EM (P:Program)(gf:L)(lb:U V){α:Type}(lN:α->U V->M->Prop)(k:L)(D:L->Prop)(R:M->Prop)(xs:H α)(W:M):Prop:=
 ∀(n l:L)(a c:H α->M->Prop),
  (∀s X Y,a s X->Same (λi=>i<W.1.size\/W.1.size+k<=i) X Y->a s Y)->
  (∀s X Y,c s X->Same (λi=>i<W.1.size\/W.1.size+k<=i) X Y->c s Y)->
  (∀s X,a s X->R X)->(∀s X,c s X->R X)->
  (∀b x d X,a b X->b++[x]<+:xs->lN x d X->W.1.size+k<=X.1.size->∀m,YieldAt Fence.wide m P l d X λe Y=>
   (e= .returned (.bool true)/\a (b++[x]) Y/\bM D X Y)\/(e= .returned (.bool false)/\c (b++[x]) Y/\bM D X Y))->
  a [] W->
  CallsIn Fence.wide n P gf (#[.func (.yield l) #[] #[]]++lb) W λe Y=>∃v,e= .returned v/\(a xs Y\/∃b,b<+:xs/\c b Y)
def mM (X:M)(a:G):J:=match X.cell? a with|some (.int .i64 n)=>n|_=>0
theorem jA {X:M}{a:G}{n:J}(h:X.cell? a=O (.int .i64 n)):mM X a=n:=by unfold mM;rw[h]
def iO (X:M)(p:J × G):J × J:=(p.1,mM X p.2)
theorem EM.Tj {P:Program}{α:Type}{gf:L}{lb:U V}{lN:α->U V->M->Prop}{k:L}{D:L->Prop}{R:M->Prop}{xs:H α}{w:M}(h:EM P gf lb lN k D R xs w):Cc P gf lb lN k D R (λ_ _ _=>True) xs w:=
 λn l e f g i j o p r=>h n l e f g i j o (λs x t X a b c d m=>(p s x t X a b c d m).mono (λ_ _ q=>q.imp (λq=>⟨q.1,q.2.1,q.2.2.1⟩) id)) r
theorem J2 {P:Program}{α:Type}{g:Operand}{j:U Tmp}{o q:Code}{Q:Exit->Act->M->Prop}{a:Act}{w:M}{n:L}
  {gf:L} {lb:U V} (u:a.eval g= .func (.func gf) #[] lb) (y:∀args w,(callFunc gf args).run P w= .ok (.enter gf args) w)
  {lN:α->U V->M->Prop} {k:L} {D:L->Prop} {R:M->Prop} {xs:H α}
  (z:∀W,Below w.1.size w W->W.1.size=w.1.size+2->EM P gf lb lN k D R xs W)
  (A:¬D (w.1.size+1)) (B:∀x args X,lN x args X->args.size=j.size)
  (e:H α->M->Prop) (h:Code->H α->M->Prop)
  (E:∀s X Y,e s X->Same (λi=>i<w.1.size\/w.1.size+2+k<=i) X Y->e s Y)
  (F:∀c s X Y,h c s X->Same (λi=>i<w.1.size\/w.1.size+2+k<=i) X Y->h c s Y)
  (K:∀s X,e s X->R X) (S:∀c s X,h c s X->R X)
  (T:e [] w)
  (Z:∀f x args X,e f X->f++[x]<+:xs->lN x args X->w.1.size+2+k<=X.1.size->∀m,
   o.wpIn (Fence.wide.inRound (w.1.size+1)) m P (Exit.then (λβ r=>Below X.1.size X r/\∀l:M,Same (λi=>i≠w.1.size+1) r l->
     q.wpIn (Fence.wide.inRound (w.1.size+1)) m P (yx w.1.size D e h (f++[x]) l) β l) (λ_ _ _=>False))
    {tmps:=(j.zip args).foldl (λt (p,v)=>t.setIfInBounds p v) a.tmps,defers:=[]} X)
  (γ:∀X,e xs X->X.1[w.1.size]?=O (.deferred (O []))->Q .normal {a with defers:={target:= .collected w.1.size,args:=#[]}::a.defers} X)
  (δ:∀c f X,f<+:xs->h c f X->X.1[w.1.size]?=O (.deferred (O []))->c.wpIn Fence.wide n P Q {a with defers:={target:= .collected w.1.size,args:=#[]}::a.defers} X):
  (Code.rangeFunc g j o q).wpIn Fence.wide n P Q a w:=
 yB u y (λW h1 h2=>(z W h1 h2).Tj) A B e h E F K S (λ_ _ _ _ _ _=>trivial) T (λf x args X a b c d m=>yC (Z f x args X a b c d m) (λ_ _ _ _=>Hw)) γ δ
end Yd
