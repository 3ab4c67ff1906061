import Derived.Test.YtiheclemhihpeaaGreatDoorZTell3
import Derived.Lib.AtoiAllCases
import Derived.Lib.AtoiErrMem
import Derived.Lib.Join
import Derived.Recover
import Derived.Defers
import Derived.Test.YtiheclemhihpeaaGreatDoorZRSame
set_option linter.all false
set_option maxRecDepth 200000
set_option maxHeartbeats 8000000
namespace Yd
open Bool renaming false->C
open Option renaming none->I
open Go Go.RowKit Go.Proofs Tryz
open Below renaming refl->N
open Go renaming World->L
open Go.IntKind renaming i64->H
open Go.Obj renaming cells->U
open Go.Value renaming int->G
open Tryz renaming prog->M
open Yd renaming hid->V
open _root_ renaming Int->O
theorem abb{p:Prop}(h:p:=by omega):p:=h
theorem abd{p:Prop}(h:p:=by decide):p:=h
theorem abe{p:Prop}(h:p:=by have:=i.q;omega):p:=h
def Df (a:Nat)(l:Bs):Nat:=l.foldl (λn c=>n*10+(c.toNat - 48)) a
theorem I7:∀(l:Bs)(a:Nat),a<=Df a l
 |[],_=>aC _
 |c::r,a=>cO ah (I7 r (a*10+(c.toNat - 48)))
theorem Bh:∀(l:Bs)(a:Nat),(∀c∈l,fE c=true)->Lib.parseUint10 a l= .ok (Df a l)\/(Lib.parseUint10 a l= .range/\1000000<=Df a l)
 |[],_,_=> .inl rfl
 |c::r,a,h=>by
  have b:=h c ak;have d:48<=c.toNat/\c.toNat<=57:=by
   unfold fE at b;simp only[bD,bO] at b;exact b
  have hg:=I7 r (a*10+(c.toNat - 48));unfold Lib.parseUint10;rw[aA d]
  split
  .exact .inr ⟨rfl,cO ah hg⟩
  .split
   .exact .inr ⟨rfl,cO ah hg⟩
   .exact Bh r _ (λx e=>h x (by simp[e]))
theorem He (l:Bs)(d:l≠[])(h:∀c∈l,fE c=true):Lib.atoiAll l= .ok (rC l:O)\/(Lib.atoiAll l= .range/\1000000<=rC l):=by
 cases l with
 |nil=>exact absurd rfl d
 |cons c r=>
  have a:=h c ak;unfold fE at a;simp only[bD,bO] at a;have i:48<=c.toNat:=a.1;unfold Lib.atoiAll;simp only[];rw[ay ah];unfold Lib.parseMag;rw[ay ak];have b:rC (c::r)=Df 0 (c::r):=rfl;rcases Bh (c::r) 0 h with e|⟨e,f⟩
  .rw[e]
   simp only[];by_cases g:9223372036854775808<=Df 0 (c::r)
   .rw[aA ⟨abb,g⟩];exact .inr ⟨rfl,by rw[b];omega⟩
   .rw[ay ah,ay ah,ay ah];exact .inl (by rw[b])
  .rw[e];exact .inr ⟨rfl,f⟩
def uQ (w:L):Prop:=∃a,w.cell? ⟨6,0,I⟩=some a/\(a= .nilIface\/∃b c,a= .iface b c)
theorem uQ.below {w w':L}(h:uQ w)(a:Below w.1.size w w'):uQ w':=let⟨b,c,d⟩:=h;⟨b,aZ a rfl c,d⟩
theorem Rt (l:Bs)(b:l≠[])(h:∀c∈l,fE c=true)(n:l.length<=1000000)(w:L)(d:uQ w):
  Calls M 156 #[.string ⟨l.toArray⟩] w λe w'=>∃(k:O)(a:Value),e= .returned (.tuple #[G H k,a])/\Below w.1.size w w'/\((a= .nilIface/\k=(rC l:O)/\rC l<=9223372036854775807)\/(999<rC l/\∃T p,a= .iface T p)):=by
 obtain⟨f,g,i⟩:=d;rcases He l b h with e|⟨e,o⟩
 .apply(Tryz.strconv_Atoi_ok ⟨l.toArray⟩ (by rw[dW];omega) (rC l) e w).mono
  rintro e w' ⟨rfl,j⟩;refine⟨_,_,rfl,?_,.inl ⟨rfl,rfl,?_⟩⟩
  .rcases j with rfl|⟨t,rfl⟩
   .exact N _ _
   .exact Lib.bytesWorld_below _ _ _
  .have:=(Lib.atoiAll_bounds e).2;omega
 .apply(Tryz.strconv_Atoi_range ⟨l.toArray⟩ (by rw[dW];omega) e f w g i).mono
  rintro e w' ⟨q,rfl,_,_,m⟩;exact⟨_,_,rfl,m,.inr ⟨abb,_,_,rfl⟩⟩
def mY (r:O):O:=if r=115 then 40 else if r=116\/r=109 then 300 else 0
structure zh (w:L)(na:Option Addr)(nn nc:Nat)(va:Option Addr)(vn vc:Nat)(names:List Bs)(aM:List To):Prop where
 rn:Row w 1 encStr na nn nc names
 rv:Row w 2 pG va vn vc aM
 wn:∀s∈names,bW ⟨s.toArray⟩=true
 wv:∀t∈aM,nW t
 g:mF w
 T:Lib.Utf8Tabs 7 8 w
variable{c:Nat}{i:List Bs}
theorem zh.below {w w':L}{m:Option Addr}{R b:Nat}{o:Option Addr}{d:Nat}{e:List To}(h:zh w m R b o c d i e)(a:Below w.1.size w w'):zh w' m R b o c d i e:=
 ⟨h.rn.below a rfl,h.rv.below a rfl,h.wn,h.wv,h.g.below a,Utf8Tabs_below h.T a⟩
theorem I8:∀args w,(callFunc 59 args).run M w= .ok (.enter 59 args) w:=enters_of func59 au rfl
theorem I9:∀args w,(callFunc 62 args).run M w= .ok (.enter 62 args) w:=enters_of func62 au rfl
theorem zh.names {w:L}{m:Option Addr}{R b:Nat}{o:Option Addr}{a c:Nat}{names:List Bs}{d:List To}(h:zh w m R b o a c names d):
  Calls M 61 #[.slice m R b,.func (.func 62) #[] #[]] w (bT (.bool C) w):=by
 have:=Hq m R b 62 #[] names (λs=>!bW ⟨s.toArray⟩) w h.rn I9 (λx _ W e=>by simpa using Db x W (Utf8Tabs_below h.T e))
 rwa[List.any_eq_false.2 (λs f=>by simp[h.wn s f])] at this
theorem zh.aM {w:L}{m:Option Addr}{R b:Nat}{o:Option Addr}{a c:Nat}{i:List Bs}{aM:List To}(h:zh w m R b o a c i aM):
  Calls M 58 #[.slice o a c,.func (.func 59) #[] #[]] w (bT (.bool C) w):=by
 have:=KJ o a c 59 #[] aM (λ_=>C) w h.rv I8 (λx d W e=>by simpa using MZ x W (Utf8Tabs_below h.T e) (h.wv x d))
 rwa[List.any_eq_false.2 (λs f=>by simp)] at this
theorem Gq (r:O)(w:L):Calls M 57 #[.int .i32 r] w (bT (G H (mY r)) w):=by
 by_cases a:r=115
 .subst a
  go_enter func57,ntmps57
  go_wp2
  go_ret;exact⟨rfl,N _ _⟩
 .have e:(r==115)=C:=aN.2 a
  by_cases b:r=116
  .subst b
   go_enter func57,ntmps57
   go_wp2
   go_ret;exact⟨rfl,N _ _⟩
  .have f:(r==116)=C:=aN.2 b
   by_cases c:r=109
   .subst c
    go_enter func57,ntmps57
    go_wp2
    go_ret;exact⟨rfl,N _ _⟩
   .have g:(r==109)=C:=aN.2 c
    have d:mY r=0:=by unfold mY;rw[ay a,ay ah]
    rw[d];go_enter func57,ntmps57
    go_wp2
    go_ret;exact⟨rfl,N _ _⟩
variable{B n:Nat}{a:Option Addr}
theorem Own.len {α:Type}{enc:α->List Value}{w:L}{k:Nat}{T:TypeId}{xs:List α}(h:Own w B T k enc (.slice a n c) xs):n=xs.length:=by
 obtain⟨b,d,e,_⟩:=h.shape
 grind
structure xX (w w1:L)(c0 c1:Array Value)(X:L)(a:Option Addr)(n c:Nat)(ws:List Bs):Prop where
 x:Bx X w.1.size c0
 y:Bx X w1.1.size c1
 o:Own X (w1.1.size+1) 9 1 encStr (.slice a n c) ws
 b:Below w.1.size w X
 s:w1.1.size+1<=X.1.size
theorem xX.snoc {w b X f:L}{g j:Array Value}{m:Option Addr}{c':Nat}{s:Bs}(h:xX w b g j X a n c i)(o:w.1.size<b.1.size)
  (k:Own f (b.1.size+1) 9 1 encStr (.slice m (n+1) c') (i++[s])) (d:(X.alloc (U #[.string ⟨s.toArray⟩] 9)).grownBy f (Value.slice a n c).ownBlock):xX w b g j f m (n+1) c' (i++[s]):=
 ⟨(h.x.alloc _).grown d (λe=>by have:=(h.o.lt _ e).1;omega),(h.y.alloc _).grown d (λe=>by have:=(h.o.lt _ e).1;omega),k,
  below_app (h.b.alloc h.b.size _) (h.o.alloc _) ah (by have:=h.s;simp;omega) d,by have:=d.size;have:=h.s;simp at*;omega⟩
theorem xX.call {w d X e:L}{g f:Array Value}(h:xX w d g f X a n c i)(b:Below X.1.size X e):xX w d g f e a n c i:=
 ⟨h.x.keep b,h.y.keep b,h.o.below b rfl,h.b.trans (b.mono h.b.size),cO h.s b.size⟩
def fo (s:aK):Prop:=(∀x∈s.names,bW ⟨x.toArray⟩=true)/\(∀t∈s.aM,nW t)/\
 ((s.kind=1/\s.names.length=2/\s.aM=[]/\(∃a:Nat,s.lvl=a/\1<=a/\a<=4)/\s.first=C/\s.bits=0)\/
 (s.kind=2/\s.names.length=2/\s.aM=[]/\s.lvl=0/\s.first=C/\s.bits=0)\/
 (s.kind=3/\s.names.length=2/\s.aM.length=1/\s.lvl=0/\s.first=C/\s.bits=0)\/
 (s.kind=4/\(∃c:Nat,s.names.length=c+2/\s.aM.length=c/\c<=40)/\True/\s.lvl=0/\s.first=C/\s.bits=0)\/
 (s.kind=5/\s.names.length=1/\s.aM=[]/\s.lvl=0/\s.first=C/\s.bits=0)\/
 (s.kind=6/\s.names.length=1/\s.aM=[]/\s.lvl=0/\s.first=C/\s.bits=0)\/
 (s.kind=7/\(∃c:Nat,s.names.length=c+1/\c<=300)/\s.aM=[]/\s.lvl=0/\s.first=C/\s.bits=0)\/
 (s.kind=8/\(∃c:Nat,s.names.length=c+2/\c<=300)/\s.aM=[]/\s.lvl=0/\True/\s.bits=0)\/
 (s.kind=9/\s.names.length=1/\s.aM=[]/\s.lvl=0/\s.first=C/\(∃b:Nat,s.bits=b/\b<=15)))
variable{s:aK}
theorem fo.len (h:fo s):s.names.length<=1000/\s.aM.length<=1000:=by
 rcases h.2.2 with⟨_,b,a,_⟩|⟨_,b,a,_⟩|⟨_,b,a,_⟩|⟨_,b,a,_⟩|⟨_,b,a,_⟩|⟨_,b,a,_⟩|⟨_,b,a,_⟩|⟨_,b,a,_⟩|⟨_,b,a,_⟩
 .rw[a];exact⟨abb,abd⟩
 .rw[a];exact⟨abb,abd⟩
 .omega
 .obtain⟨c,b,a,d⟩:=b;omega
 .rw[a];exact⟨abb,abd⟩
 .rw[a];exact⟨abb,abd⟩
 .obtain⟨c,b,d⟩:=b;rw[a];exact⟨abb,abd⟩
 .obtain⟨c,b,d⟩:=b;rw[a];exact⟨abb,abd⟩
 .rw[a];exact⟨abb,abd⟩
def toB (t:To):Bool:=if t.k=0 then decide (t=⟨[],0⟩) else bW ⟨t.name.toArray⟩ && (decide (0<t.k) && decide (t.k<=999))
theorem Vy (t:To):toB t=true↔nW t:=by
 grind [toB,nW]
def ze (r a:O):O:=if r=118 then 1 else if r=115 then a else 0
def qB (k:Nat)(s:aK):Bool:=
 (decide (eU k<=(s.names.length:O)) && decide ((s.names.length:O) - eU k<=mY (iK k)) && decide ((s.aM.length:O)=ze (iK k) ((s.names.length:O) - eU k)) && s.aM.all toB)
 && s.names.all (λx=>bW ⟨x.toArray⟩)
 && (((iK k==108)==(s.lvl !=0)) && (!s.first||iK k==109) && (s.bits==0||(iK k==103 && (decide (0<s.bits) && decide (s.bits<=15)))))
 && (s.lvl==0||iG s.lvl)
def lg (s:aK):Bool:=decide (0<=s.kind) && decide (s.kind<10) && qB s.kind.toNat s
theorem Sd (t:To)(w:L)(o:Lib.Utf8Tabs 7 8 w):Calls M 60 #[iZ t] w (bT (.bool (toB t)) w):=by
 obtain⟨n,k⟩:=t;have s:=Fa ⟨n,k⟩ ⟨[],0⟩;by_cases f:k=0
 .subst f
  have p:toB ⟨n,0⟩=decide ((⟨n,0⟩:To)=⟨[],0⟩):=by unfold toB;rw[aA rfl]
  rw[p];go_enter func60,ntmps60
  go_wp2
  go_ret;exact⟨by simp,aB (N _ _) _⟩
 .have g:=aB (N w.1.size w) (U #[.string ⟨n.toArray⟩,G H k] 61)
  have c:=V (xH n _ (Utf8Tabs_below o g));have b:=V g;have i:=V (Bx.new w #[.string ⟨n.toArray⟩,G H k] 61);have u:(k==0)=C:=aN.2 f;have q:toB ⟨n,k⟩=(bW ⟨n.toArray⟩ && (decide (0<k) && decide (k<=999))):=by unfold toB;rw[ay f]
  rw[q]
  cases j:bW ⟨n.toArray⟩
  .rw[j] at c
   go_enter func60,ntmps60;go_wp2_with fail;refine c.q.mono ?_;rintro e m ⟨rfl,a⟩;have d:=V (b.trans (a.mono b.size));simp only[xw,ku]
   go_wp2
   go_ret;exact⟨rfl,d⟩
  .rw[j] at c
   cases v:decide (0<k)
   .go_enter func60,ntmps60
    go_wp2_with fail;refine c.q.mono ?_;rintro e m ⟨rfl,a⟩;have r:=(i.keep a).1;have d:=V (b.trans (a.mono b.size));simp only[dG]
    go_wp2
    go_ret;exact⟨rfl,d⟩
   .cases x:decide (k<=999)
    all_goals
     go_enter func60,ntmps60;go_wp2_with fail;refine c.q.mono ?_;rintro e m ⟨rfl,a⟩;have r:=(i.keep a).1;have d:=V (b.trans (a.mono b.size));simp only[dG]
     go_wp2
     go_ret;exact⟨rfl,d⟩
theorem Kw (t:To)(w:L)(c:Lib.Utf8Tabs 7 8 w):Calls M 59 #[iZ t] w (bT (.bool (!toB t)) w):=by
 have a:=aB (N w.1.size w) (U (dX t) 61);have d:=V (Sd t _ (Utf8Tabs_below c a));have b:=V a;go_enter func59,ntmps59;go_wp2_with fail;refine d.q.mono ?_;rintro e i ⟨rfl,f⟩;have g:=V (b.trans (f.mono b.size))
 go_wp2
 go_ret;exact⟨rfl,g⟩
theorem MB (l:O)(w:L)(c:mF w):Calls M 64 #[G H l] w (λe w'=>(∃t:Bs,e= .returned (.tuple #[.string ⟨t.toArray⟩,G H (if iG l=true then 0 else 190)]))/\Below w.1.size w w'):=by
 cases b:iG l
 .have d:=V (zo b)
  go_enter func64,ntmps64;go_wp2_with fail;refine(xg _ _).mono ?_;rintro e f ⟨rfl,a⟩;rw[d.q];have g:=V a
  go_wp2
  go_ret2
  exact⟨⟨[],rfl⟩,g⟩
 .have h:=b
  simp only[iG,bD,bO] at h;obtain⟨n,rfl⟩:∃n:Nat,l=(n:O):=⟨l.toNat,abb⟩
  apply(M0 n ah ah w c).mono
  rintro e f ⟨rfl,a⟩;exact⟨⟨_,rfl⟩,a⟩
theorem dZ.O1 {w:L}{l:aW}(h:dZ w B l s)(c:s.names.length<=1000000)(a:Lib.Utf8Tabs 7 8 w):
  Calls M 61 #[.slice l.na l.nn l.nc,.func (.func 62) #[] #[]] w (bT (.bool (!s.names.all (λx=>bW ⟨x.toArray⟩))) w):=by
 have:=Hq l.na l.nn l.nc 62 #[] s.names (λs=>!bW ⟨s.toArray⟩) w (h.2.1.row ah) I9 (λx _ W b=>by simpa using Db x W (Utf8Tabs_below a b))
 rwa[show s.names.any (λs=>!bW ⟨s.toArray⟩)=!s.names.all (λx=>bW ⟨x.toArray⟩) by simp[List.any_eq_not_all_not]] at this
theorem dZ.RD {w:L}{l:aW}(h:dZ w B l s)(c:s.aM.length<=1000000)(a:Lib.Utf8Tabs 7 8 w):
  Calls M 58 #[.slice l.va l.vn l.vc,.func (.func 59) #[] #[]] w (bT (.bool (!s.aM.all toB)) w):=by
 have:=KJ l.va l.vn l.vc 59 #[] s.aM (λt=>!toB t) w (h.2.2.row ah) I8 (λx d W b=>by simpa using Kw x W (Utf8Tabs_below a b))
 rwa[show s.aM.any (λt=>!toB t)=!s.aM.all toB by simp[List.any_eq_not_all_not]] at this
theorem Sg {a:List To}(h:a.all toB=true):∀t∈a,nW t:=by grind [Vy]
theorem vJ (h:lg s=true):s.kind=0\/fo s:=by
 obtain⟨j,y,n,o,first,a⟩:=s;unfold lg qB at h;simp only[bD,bO] at h;obtain⟨⟨R,S⟩,⟨⟨⟨⟨⟨q,t⟩,u⟩,z⟩,A⟩,⟨b,g⟩,i⟩,c⟩:=h;obtain⟨k,rfl⟩:∃k:Nat,j=(k:O):=⟨j.toNat,abb⟩;simp only[gF] at q t u b g i;have E:∀x∈y,bW ⟨x.toArray⟩=true:=jW.1 A;have F:=Sg z;have T:(o.length:O)=0->o=[]:=λh=>yw ah
 have K:∀(r:O),(a==0||(r==103 && (decide (0<a) && decide (a<=15))))=true->r≠103->a=0:=λr h v=>by
  grind
 have P:∀(r:O),(!first||r==109)=true->r≠109->first=C:=λr h v=>by
  grind
 have Q:∀(r:O),((r==108)==(n !=0))=true->r≠108->n=0:=λr h v=>by
  grind
 rcases(by omega:k=0\/k=1\/k=2\/k=3\/k=4\/k=5\/k=6\/k=7\/k=8\/k=9) with rfl|rfl|rfl|rfl|rfl|rfl|rfl|rfl|rfl|rfl
 .grind
 all_goals
  refine .inr ⟨E,F,?_⟩;simp only[eU,iK,ze,mY,Int.reduceEq,ku,dG,or_self,or_true,or_false] at q t u b g i
  try have W:=Q _ b aj
  try have X:=P _ g aj
  try have Y:=K _ i aj
  have e (c m:Nat) (p:Nat->Prop):(∃d,m=d+c/\p d)↔c<=m/\p (m - c):=⟨by rintro⟨d,rfl,h⟩;simpa using h,λh=>⟨_,(Nat.sub_add_cancel h.1).symm,h.2⟩⟩;have f (m:O) (p:Nat->Prop):(∃d:Nat,m=d/\p d)↔0<=m/\p m.toNat:=⟨by rintro⟨d,rfl,h⟩;simpa using h,λh=>⟨_,(Int.toNat_of_nonneg h.1).symm,h.2⟩⟩;simp only[iG,e,f] at*
  grind
def qc (l:Bs):Nat × O:=if(dI l).head?=I then(l.length,0) else if(dI l).head?=some 10 then(l.length - (dI l).length+1,0) else(l.length - (dI l).length,120)
theorem M6 {l:Bs}(h:dO l=true):bg l=l:=by
 cases l with
 |nil=>rfl
 |cons b t=>
  rw[oz] at h;have:jF b=C:=by
   rw[<-uw];unfold rV;simp only[tZ,beq_iff_eq] at h;rw[aN.2 ah,aN.2 ah];rfl
  unfold bg;rw[AP,this];rfl
theorem Si {l:Bs}(h:dO l=true):l.drop (mg l)=dI l/\mg l=l.length - (dI l).length/\(dI l).length<=l.length/\rR l=((dI l).head?==I||(dI l).head?==some 10):=by
 have e:=M6 h;have c:(l.takeWhile jF).length=0:=by have:=Ir l;rw[e] at this;omega
 have a:l.drop (mg l)=dI l:=by
  unfold mg dI;rw[c,e,bQ]
  split <;> simp
 have g:mg l<=l.length:=by
  unfold mg;rw[c,e]
  split
  .have:=rU nI _ l (aC _);omega
  .omega
 refine⟨a,by rw[<-a,dY];omega,by rw[<-a,dY];omega,?_⟩;unfold rR;rw[a,e];by_cases b:l.head?=some 35
 .rw[b];rfl
 .have d:dI l=l:=by unfold dI;rw[ay b]
  rw[d];have f:(l.head?==I||l.head?==some 10)=true:=by
   unfold dO at h;simp only[tZ,beq_iff_eq] at h ⊢;rcases h with(h|h)|h
   .exact .inl h
   .exact .inr h
   .exact absurd h b
  rw[f];simp
def Vz (b:Nat)(c:O)(w:L)(e:Ending)(w':L):Prop:=∃k a t,EO k a t b c w e w'
theorem Vn (s:Bs)(p:Nat)(l:Bs)(o:s.drop p=l)(hp:p<=s.length)(γ:s.length<=1000000)(R:dO l=true)(w:L)(S:Lib.Utf8Tabs 7 8 w):
  Calls M 42 #[.string ⟨s.toArray⟩,G H p] w (Vz (p+(qc l).1) (qc l).2 w):=by
 have δ:p+l.length=s.length:=by rw[<-o,dY];omega
 obtain⟨E,T,X,F⟩:=Si R;obtain⟨q,K⟩:∃q,q=p+mg l:=⟨_,rfl⟩;obtain⟨r,u⟩:∃r,r=dI l:=⟨_,rfl⟩;have Y:s.drop q=r:=by rw[K,u,<-E,<-mD,o]
 have ε:q<=s.length:=by omega
 have x:qc l=if r.head?=I then(l.length,0) else if r.head?=some 10 then(l.length - r.length+1,0) else(l.length - r.length,120):=by unfold qc;rw[u]
 rw[<-u] at E T X F;have P:Hid (rR l=(r.head?==I||r.head?==some 10)):=V F;have y:=λW (hb:Below w.1.size w W)=>V (oU s p l o hp γ W (Utf8Tabs_below S hb))
 rw[<-K] at y;have ζ:=λW=>jg Tryz.underlying9 s q ε W
 rw[Y] at ζ;have hz:=dW s;have μ:p<=q:=by omega
 have z:Hid (q+r.length=s.length/\p+l.length=s.length/\q=p+(l.length - r.length)):=V ah;clear E T X F o R S u δ K
 cases r
 case' nil=>
  have m:Hid (((([]:Bs).head?==I||([]:Bs).head?==some 10):Bool)=true):=V rfl;have i:Hid (p+(qc l).1=q/\(qc l).2=0):=V (by rw[x,aA (show([]:Bs).head?=I from rfl)];exact⟨by have:=z.q;simp at this;simp only[];omega,rfl⟩)
 case' cons b t=>
  have ν:∀W,(Instr.index 9 (.string ⟨(b::t).toArray⟩) (G H 0)).run M W= .ok (.int .u8 (b.toNat:O)) W:=λW=>dQ Tryz.underlying9 (b::t) 0 b rfl W
  have ξ:∀W,(Instr.slice 9 (.string ⟨(b::t).toArray⟩) I (some (G H 1)) I).run M W= .ok (.string ⟨[b].toArray⟩) W:=λW=>uY Tryz.underlying9 (b::t) 1 ak W
  have ο:((b::t)==([]:Bs))=C:=rfl;have π:q+1<=s.length:=by have:=z.q;simp at this;omega
  by_cases k:b=10
  case' pos=>
   subst k;have m:Hid (((((10::t:Bs).head?)==I||((10::t:Bs).head?)==some 10):Bool)=true):=V rfl;have i:Hid (p+(qc l).1=q+1/\(qc l).2=0):=V (by rw[x,ay ak,aA (show(10::t:Bs).head?=some 10 from rfl)];exact⟨by have:=z.q;simp only[] at this ⊢;omega,rfl⟩)
  case' neg=>
   have m:Hid (((((b::t:Bs).head?)==I||((b::t:Bs).head?)==some 10):Bool)=C):=V (by simp[k]);have i:Hid (p+(qc l).1=q/\(qc l).2=120):=V (by rw[x,ay ak,ay (by simpa using k)];exact⟨by have:=z.q;simp only[] at this ⊢;omega,rfl⟩)
 all_goals
  clear x Y;by_cases Z:q=p
  case' pos=>
   subst Z;by_cases α:q=0
   case' pos=>
    have η:decide ((0:O)<(q:O))=C:=bn ah;have θ:decide (0<q)=C:=bn ah;clear α;go_enter Tryz.func42,Tryz.ntmps42;go_wp2_with fail;refine(y _ (aB (N _ _) _)).q.mono ?_;rintro e w1 ⟨rfl,d⟩;have c:=V ((aB (N w.1.size w) (U (aF 0 0 [] C) 79)).trans (d.mono ak));have a:=V ((Bx.new w (aF 0 0 [] C) 79).keep d);clear d;rw[P.q,m.q];have j:=(a.q.alloc (U (aF 0 q [] C) 79)).1;have A:=(a.q.alloc (U (aF 0 q [] C) 79)).2.1;have n:=V (aB c.q (U (aF 0 q [] C) 79))
   case' neg=>
    have η:decide ((0:O)<(q:O))=true:=bG ah;have θ:decide (0<q)=true:=bG ah;obtain⟨f,β⟩:∃f,s[q - 1]?=some f:=⟨_,dM ah⟩;have ι:=λW=>dQ Tryz.underlying9 s (q - 1) f β W
    rw[show((q - 1:Nat):O)=(q:O) - 1 by omega] at ι;have ρ:wrap32 (f.toNat:O)=(f.toNat:O):=IntWalk.wrap32_in _ (by have:=f.toNat_lt;omega);clear β α;go_enter Tryz.func42,Tryz.ntmps42;go_wp2_with fail;refine(y _ (aB (N _ _) _)).q.mono ?_;rintro e w1 ⟨rfl,d⟩;have c:=V ((aB (N w.1.size w) (U (aF 0 0 [] C) 79)).trans (d.mono ak));have a:=V ((Bx.new w (aF 0 0 [] C) 79).keep d);clear d;rw[P.q,m.q];go_wp2_with fail;refine(BA _ _).mono ?_;rintro e w2 ⟨rfl,g⟩
    cases σ:rV (f.toNat:O)
    case' false=>
     cases k:((f.toNat:O)==10)
     case' false=>
      have κ:((f.toNat:O)!=10)=true:=by rw[bne,k];rfl
      replace c:=V (c.q.bL g);replace a:=V (a.q.keep g)
      clear g;have j:=(a.q.alloc (U (aF 0 q [] true) 79)).1;have A:=(a.q.alloc (U (aF 0 q [] true) 79)).2.1;have n:=V (aB c.q (U (aF 0 q [] true) 79))
     case' true=>
      have κ:((f.toNat:O)!=10)=C:=by rw[bne,k];rfl
      replace c:=V (c.q.bL g);replace a:=V (a.q.keep g)
      clear g;have j:=(a.q.alloc (U (aF 0 q [] C) 79)).1;have A:=(a.q.alloc (U (aF 0 q [] C) 79)).2.1;have n:=V (aB c.q (U (aF 0 q [] C) 79))
    case' true=>
     replace c:=V (c.q.bL g);replace a:=V (a.q.keep g)
     clear g;have j:=(a.q.alloc (U (aF 0 q [] C) 79)).1;have A:=(a.q.alloc (U (aF 0 q [] C) 79)).2.1;have n:=V (aB c.q (U (aF 0 q [] C) 79))
  case' neg=>
   have τ:((q:O)==(p:O))=C:=aN.2 ah;clear Z;go_enter Tryz.func42,Tryz.ntmps42;go_wp2_with fail;refine(y _ (aB (N _ _) _)).q.mono ?_;rintro e w1 ⟨rfl,d⟩;have c:=V ((aB (N w.1.size w) (U (aF 0 0 [] C) 79)).trans (d.mono ak));have a:=V ((Bx.new w (aF 0 0 [] C) 79).keep d);clear d;rw[P.q,m.q];have j:=(a.q.alloc (U (aF 0 q [] C) 79)).1;have A:=(a.q.alloc (U (aF 0 q [] C) 79)).2.1;have n:=V (aB c.q (U (aF 0 q [] C) 79))
 all_goals
  go_wp2_with fail;have Q:IntKind.i64.wrap ((q:O)+1)=(q:O)+1:=Go.IntWalk.i64_in _ ah
  first
  |refine bodyPost_ret (v:= .tuple #[.agg (aF 5 q [] C),G H (q:O),G H 0]) ?_ rfl ⟨5,q,[],C,?_,?_⟩
   focus (simp[results,results42,go_sem,j,Q];done)
   focus (rw[i.q.1,i.q.2] <;> rfl)
  |refine bodyPost_ret (v:= .tuple #[.agg (aF 0 0 [] C),G H (q:O),G H 120]) ?_ rfl ⟨0,0,[],C,?_,?_⟩
   focus (simp[results,results42,go_sem,j,Q];done)
   focus (rw[i.q.1,i.q.2] <;> rfl)
  |refine bodyPost_ret (v:= .tuple #[.agg (aF 4 q [10] C),G H ((q:O)+1),G H 0]) ?_ rfl ⟨4,q,[10],C,?_,?_⟩
   focus (simp[results,results42,go_sem,j,Q];done)
   focus (rw[i.q.1,i.q.2] <;> rfl)
  exact lY n.q
theorem Yb (v:Value)(W:L):(Instr.typeAssert (.iface 100 v) 20 100 true).run M W= .ok (.tuple #[v,.bool true]) W:=au
theorem Ep (b:Nat)(p m:O)(E F P Q R S j k:Value)(q:List PanicEntry)(w:L)(r:Bx w b #[E,F,P,Q,R,S])(T:Bx w (b+1) #[j])(s:Bx w (b+2) #[k]):
  CallsD M 40 #[.pointer (some ⟨b,0,I⟩),.pointer (some ⟨b+1,0,I⟩),.pointer (some ⟨b+2,0,I⟩)] (.panicking ({v:= .iface 100 (.agg #[G H p,G H m]),recovered:=false}::q)) w λe W w'=>
   e= .returned (.tuple #[])/\W= .panicking ({v:= .iface 100 (.agg #[G H p,G H m]),recovered:=true}::q)/\
   Bx w' b #[G H 0,.slice I 0 0,G H 0,.slice I 0 0,.bool C,G H 0]/\Bx w' (b+1) #[G H p]/\Bx w' (b+2) #[G H m]/\Below b w w':=by
 refine callsD_of_wpS Tryz.func40 rfl λX cs Y=>?_
 apply wpS_seq
 apply wpS_region
 simp[wpOpsS,go_sem,recoverD,Y,Tryz.ntmps40,Exit.thenS];refine wpS_of_wp ?_;have α:=Yb (.agg #[G H p,G H m]);simp only[vF,vG,sD,sF,pO,jl,nY,ng,ni];have t:=Bx.new w #[G H p,G H m] 100;obtain⟨Z,n⟩:∃Z:L,Z=(((((w.setCell ⟨b,0,I⟩ (G H 0)).setCell ⟨b,1,I⟩ (.slice I 0 0)).setCell ⟨b,2,I⟩ (G H 0)).setCell ⟨b,3,I⟩ (.slice I 0 0)).setCell ⟨b,4,I⟩ (.bool C)).setCell ⟨b,5,I⟩ (G H 0):=⟨_,rfl⟩;have g:Hid (Bx Z b #[G H 0,.slice I 0 0,G H 0,.slice I 0 0,.bool C,G H 0]/\Bx Z (b+1) #[j]/\Bx Z (b+2) #[k]/\Z.1.size=w.1.size/\Below b w Z):=V (by
  rw[n];refine⟨?_,?_,?_,by simp[World.setCell],?_⟩
  .exact(((((r.aX 0 ak _).aX 1 ak _).aX 2 ak _).aX 3 ak _).aX 4 ak _).aX 5 ak _
  .exact(((((T.setOther b 0 _ ah).setOther b 1 _ ah).setOther b 2 _ ah).setOther b 3 _ ah).setOther b 4 _ ah).setOther b 5 _ ah
  .exact(((((s.setOther b 0 _ ah).setOther b 1 _ ah).setOther b 2 _ ah).setOther b 3 _ ah).setOther b 4 _ ah).setOther b 5 _ ah
  .exact((((((N b w).setCell (p:=⟨b,0,I⟩) (aC b) _).setCell (p:=⟨b,1,I⟩) (aC b) _).setCell (p:=⟨b,2,I⟩) (aC b) _).setCell (p:=⟨b,3,I⟩) (aC b) _).setCell (p:=⟨b,4,I⟩) (aC b) _).setCell (p:=⟨b,5,I⟩) (aC b) _)
 obtain⟨c,f⟩:∃c:L,c=(Z.alloc (U #[G H p,G H m] 100)).drew:=⟨_,rfl⟩;have u:Bx c w.1.size #[G H p,G H m]:=by
  have:=Bx.new Z #[G H p,G H m] 100;rw[g.q.2.2.2.1] at this;rw[f];exact this
 have a:Hid (Bx c b #[G H 0,.slice I 0 0,G H 0,.slice I 0 0,.bool C,G H 0]/\Bx c (b+1) #[j]/\Bx c (b+2) #[k]/\Bx c w.1.size #[G H p,G H m]/\Below b w c):=V (by
  refine⟨?_,?_,?_,u,?_⟩
  .rw[f];exact(g.q.1.alloc _).drew
  .rw[f];exact(g.q.2.1.alloc _).drew
  .rw[f];exact(g.q.2.2.1.alloc _).drew
  .rw[f];exact(g.q.2.2.2.2.alloc (by have:=g.q.2.2.2.1;have:=r.2.2;omega) _).drew)
 have i:Hid (b+2<w.1.size):=V s.2.2;have β:Hid (Bx c (b+1) #[j]):=V a.q.2.1;clear u;go_wp2_with fail;refine aD 99 [(0,0),(1,0),(2,0),(3,0),(4,0),(5,2),(6,2),(7,2)] (λ_=>True) (λx=>x.cell? ⟨w.1.size,0,I⟩=some (G H p)/\x.cell? ⟨w.1.size,1,I⟩=some (G H m)) au au (trivial) (⟨t.1 0,t.1 1⟩) ?_;refine qC ?_;refine aG rfl rfl (λK d=>?_);go_simp;rw[<-n,<-f];refine d _ _ ⟨trivial,a.q.2.2.2.1.1 0,a.q.2.2.2.1.1 1⟩ ?_;have y:=a.q.2.1.1 0;have z:=a.q.2.1.2.1 0;clear d K n f;refine aG rfl rfl (λK d=>?_);go_simp;refine d _ _ ⟨trivial,(a.q.2.2.2.1.setOther (b+1) 0 _ abe).1 0,(a.q.2.2.2.1.setOther (b+1) 0 _ abe).1 1⟩ ?_;clear d K y z;have y:=a.q.2.2.1.1 0;have z:=a.q.2.2.1.2.1 0;refine aG rfl rfl (λK d=>?_);go_simp;refine d _ _ ⟨trivial,((a.q.2.2.2.1.setOther (b+1) 0 _ abe).setOther (b+2) 0 _ abe).1 0,((a.q.2.2.2.1.setOther (b+1) 0 _ abe).setOther (b+2) 0 _ abe).1 1⟩ ?_;clear d K;refine aH ?_;go_wp2_with fail;obtain⟨w',o⟩:∃w':L,w'=(c.setCell ⟨b+1,0,I⟩ (G H p)).setCell ⟨b+2,0,I⟩ (G H m):=⟨_,rfl⟩;have A:Bx w' b #[G H 0,.slice I 0 0,G H 0,.slice I 0 0,.bool C,G H 0]/\Bx w' (b+1) #[G H p]/\Bx w' (b+2) #[G H m]/\Below b w w':=by
  rw[o];refine⟨((a.q.1.setOther (b+1) 0 _ ah).setOther (b+2) 0 _ ah),((a.q.2.1.aX 0 ak _).setOther (b+2) 0 _ ah),((a.q.2.2.1.setOther (b+1) 0 _ ah).aX 0 ak _),?_⟩;exact(a.q.2.2.2.2.setCell (p:=⟨b+1,0,I⟩) ak _).setCell (p:=⟨b+2,0,I⟩) ak _
 rw[<-o];have HF:=V A;clear o A
 cases X
 simp_all[bodyPostS,results,results40]
 exact HF.q
theorem O9 (b:Nat)(w:L):
  CallsD M 40 #[.pointer (some ⟨b,0,I⟩),.pointer (some ⟨b+1,0,I⟩),.pointer (some ⟨b+2,0,I⟩)] .returning w λe a w'=>e= .returned (.tuple #[])/\a= .returning/\w'=w:=by
 refine callsD_of_wpS Tryz.func40 rfl λc f d=>?_
 apply wpS_seq
 apply wpS_region
 simp[wpOpsS,go_sem,recoverD,d,Tryz.ntmps40,Exit.thenS];refine wpS_of_wp ?_;go_wp2_with fail
 cases c
 simp_all[bodyPostS,results,results40]
@[reducible] def WZ (k:O)(a:Option Addr)(c:Nat):aW:=⟨k,a,1,c,0,I,0,0,C,0⟩
structure Zg (e:EvC)(w:L)(x:Bs)(b5:Nat)(a:Option Addr)(c:Nat)(Z:L):Prop where
 be:Bx Z w.1.size (aY e)
 br:Bx Z (w.1.size+1) #[G H 0,.slice I 0 0,G H 0,.slice I 0 0,.bool C,G H 0]
 c5:Bx Z b5 (bJ (WZ e.kind a c))
 on:Own Z w.1.size 9 1 encStr (.slice a 1 c) [x]
 fn:∀g,(Value.slice a 1 c).ownBlock=some g->g≠w.1.size/\g≠w.1.size+1/\g≠b5
 le:w.1.size+2<=b5
 bw:Below w.1.size w Z
attribute [local go_sem] Oper.semAt_some
section
variable {J Jx:List aK->L->Prop}{D:Nat->Prop}{ls:List aK}{l B:Nat}{w0:L}{Ok:L->Prop}
end
end Yd
namespace Yd
open Go Go.RowKit Go.Proofs
attribute [local go_sem] Oper.semAt_some
end Yd
namespace Yd
open Go Go.RowKit Go.Proofs
def oF (w:World)(B:Nat)(a:List aW)(b:List aK):Prop:=a.length=b.length/\∀(i:Nat)(l:aW),a[i]?=some l->∃s,b[i]?=some s/\dZ w B l s
variable{w':World}{B:Nat}
theorem oF.same {w:World}{b:List aW}{c:List aK}(h:oF w B b c){A:Nat->Prop}(d:Same A w w')(e:∀i,B<=i->A i):oF w' B b c:=
 ⟨h.1,λi l f=>let⟨s,j,a⟩:=h.2 i l f;⟨s,j,a.1,a.2.1.same d (λg hg=>e g (a.2.1.lt g hg).1),a.2.2.same d (λg hg=>e g (a.2.2.lt g hg).1)⟩⟩
theorem oF.below {w:World}{a:List aW}{b:List aK}(h:oF w B a b)(c:Below w.1.size w w'):oF w' B a b:=
 ⟨h.1,λi l d=>let⟨s,e,f⟩:=h.2 i l d;⟨s,e,f.below c⟩⟩
theorem oF.grown {w:World}{j:List aW}{k:List aK}(h:oF w B j k){row:Option Nat}(m:w.grownBy w' row)(n:∀g,row=some g->∃b c,w.1[g]?=some (.cells b 34 c)):oF w' B j k:=
 ⟨h.1,λi l o=>let⟨s,p,a⟩:=h.2 i l o;⟨s,p,a.1,
  a.2.1.grown m (λg d e=>by obtain⟨b,c,f⟩:=n g e;exact a.2.1.LB f aj d),
  a.2.2.grown m (λg d e=>by obtain⟨b,c,f⟩:=n g e;exact a.2.2.LB f aj d)⟩⟩
theorem oF.snoc {w:World}{b:List aW}{d:List aK}(h:oF w B b d){l:aW}{s:aK}(g:dZ w B l s):oF w B (b++[l]) (d++[s]):=by
 have e:=h.1;refine⟨by simp[h.1],λi q a=>?_⟩;rcases jk i b.length with f|f
 .rw[uM f] at a
  obtain⟨t,j,k⟩:=h.2 i q a;exact⟨t,by rw[uM ah];exact j,k⟩
 .rw[su f] at a
  have c:i - b.length=0:=by
   rcases Nat.eq_zero_or_pos (i - b.length) with c|c
   .exact c
   .rw[wG (by simp;omega)] at a;cases a
  rw[c] at a;obtain rfl:l=q:=by simpa using a
  exact⟨s,by rw[su ah,show i - d.length=0 by omega];rfl,g⟩
attribute [local go_sem] Oper.semAt_some
end Yd
namespace Yd
open Go Go.RowKit Go.Proofs
open Go.IntKind renaming i64->D
open Go.Obj renaming cells->H
open Go.Value renaming int->C,slice->G,bool->I,string->J
attribute [local go_sem] Oper.semAt_some
theorem Ky (l Y:aW)(s:aK)(B B2:Nat)(w:World)(h:dZ w B l s)(h2:dZ w B2 Y s)(hn:s.names.length<=1000000)(hv:s.aM.length<=1000000):
  Calls Tryz.prog 10 #[dH l,dH Y] w (bT (I true) w):=by
 obtain⟨xk,r,nn,t,xl,A,vn,v,xf,xb⟩:=l;obtain⟨d,p,c,q,f,E,a,u,g,j⟩:=Y;obtain⟨⟨Z,q2,q3,q4,q5,q6⟩,ho,hw⟩:=h;obtain⟨⟨p1,p2,p3,p4,p5,p6⟩,α,β⟩:=h2;simp only at Z q2 q3 q4 q5 q6 p1 p2 p3 p4 p5 p6 ho hw α β;obtain rfl:d=xk:=p1.trans Z.symm;obtain rfl:f=xl:=p2.trans q2.symm;obtain rfl:g=xf:=p3.trans q3.symm;obtain rfl:j=xb:=p4.trans q4.symm;obtain rfl:c=nn:=p5.trans q5.symm;obtain rfl:a=vn:=p6.trans q6.symm;have HN:=hid (ho.row (hc:=gy) ah);have ξ:=hid (α.row (hc:=gy) ah);have HV:=hid (hw.row (hc:=Ce) ah);have ο:=hid (β.row (hc:=Ce) ah);have τ:a<=1000000:=by omega
 clear Z q2 q3 q4 q5 q6 p1 p2 p3 p4 p5 p6 ho hw α β hn hv;have F:Hid (Bx ((w.alloc (H #[C D d,G r c t,C D f,G A a v,I g,C D j] 34)).alloc (H #[C D d,G p c q,C D f,G E a u,I g,C D j] 34)) w.1.size #[C D d,G r c t,C D f,G A a v,I g,C D j]/\Bx ((w.alloc (H #[C D d,G r c t,C D f,G A a v,I g,C D j] 34)).alloc (H #[C D d,G p c q,C D f,G E a u,I g,C D j] 34)) (w.1.size+1) #[C D d,G p c q,C D f,G E a u,I g,C D j]):=hid ⟨(Bx.new w _ _).alloc _,Bx.new1 ak⟩;have K:=hid (aB (aB (Below.refl w.1.size w) (H #[C D d,G r c t,C D f,G A a v,I g,C D j] 34)) (H #[C D d,G p c q,C D f,G E a u,I g,C D j] 34));have γ:=xI r p c t c q s.names s.names _ (HN.q.below K.q rfl) (ξ.q.below K.q rfl);rw[bG rfl] at γ;have π:=hid γ;clear γ;go_enter Tryz.func10,Tryz.ntmps10;have δ:=F.q.1.1;have ε:=F.q.1.2.2;have ζ:=F.q.2.1;have η:=F.q.2.2.2;go_wp2_with fail;clear δ ε ζ η;refine π.q.mono ?_;rintro e w1 ⟨rfl,hb⟩;have z:=hid (tX F.q hb);have ρ:=hid (K.q.bL hb);clear hb;have δ:=z.q.1.1;have ε:=z.q.1.2.2;have ζ:=z.q.2.1;have η:=z.q.2.2.2;go_wp2_with fail;clear δ ε ζ η
 go_loopw [53] (λi wr=>∃k:Nat,k<=a/\i= C D k/\Below w.1.size w wr/\Bx wr w.1.size #[C D d,G r c t,C D f,G A a v,I g,C D j]/\Bx wr (w.1.size+1) #[C D d,G p c q,C D f,G E a u,I g,C D j]) (λi _=>a - (RowKit.intOf i).toNat)
 case atStart=>exact⟨0,aS _,rfl,ρ.q,z.q.1,z.q.2⟩
 case round=>
  obtain⟨k,hk,rfl,θ,ι⟩:=hrel;have P:=hid θ;have κ:=hid ι;clear θ ι;by_cases μ:k<a
  .obtain⟨x,b,o,hx,rfl,hc⟩:=(HV.q.below P.q rfl).at_ μ
   obtain⟨y,Q,R,S,rfl,hd⟩:=(ο.q.below P.q rfl).at_ μ;rw[hx] at S;injection S with S;subst S;have e0:=hc 0 _ rfl;have e1:=hc 1 _ rfl;have T:=hd 0 _ rfl;have f1:=hd 1 _ rfl;simp only[bK] at e0 T;have σ:=λW=>Fa x x W
   simp only[decide_true] at σ;obtain⟨m,n⟩:=x;simp only at e0 e1 T f1;have HZ:Hid ((Bx (wr.alloc (H #[J ⟨m.toArray⟩,C D n] 61)) wr.1.size #[J ⟨m.toArray⟩,C D n]/\Bx (wr.alloc (H #[J ⟨m.toArray⟩,C D n] 61)) (w.1.size+1) #[C D d,G p c q,C D f,G (some ⟨Q,R,none⟩) a u,I g,C D j])/\Bx (wr.alloc (H #[J ⟨m.toArray⟩,C D n] 61)) w.1.size #[C D d,G r c t,C D f,G (some ⟨b,o,none⟩) a v,I g,C D j]):=hid ⟨⟨Bx.new wr _ _,κ.q.2.alloc _⟩,κ.q.1.alloc _⟩;have HF:=hid (⟨qp (H #[J ⟨m.toArray⟩,C D n] 61) T,qp (H #[J ⟨m.toArray⟩,C D n] 61) f1⟩:_/\_);have ν:=hid (aB P.q (H #[J ⟨m.toArray⟩,C D n] 61));clear hx hc hd T f1;go_wp2_with fail;clear e0 e1;refine aD 99 [(0,0),(1,0),(2,0),(3,0),(4,0),(5,0),(6,0)] (λ_=>True) (λX=>(Bx X wr.1.size #[J ⟨m.toArray⟩,C D n]/\Bx X (w.1.size+1) #[C D d,G p c q,C D f,G (some ⟨Q,R,none⟩) a u,I g,C D j])/\X.cell? ⟨Q,R+k*2,none⟩=some (J ⟨m.toArray⟩)/\X.cell? ⟨Q,R+k*2+1,none⟩=some (C D n)) au au (trivial) (⟨HZ.q.1,HF.q⟩) ?_;refine qC ?_;refine aH ?_;go_wp2_with fail;go_roundw
   case rel=>exact⟨k+1,by omega,by go_num,ν.q.trans ((Below.refl _ _).drew.mono ν.q.size),HZ.q.2.drew,HZ.q.1.2.drew⟩
   case measure=>simp[RowKit.intOf];omega
  .obtain rfl:a=k:=by omega
   go_wp2_with fail;go_ret;exact⟨rfl,P.q⟩
end Yd
namespace Yd
open Go Go.RowKit Go.Proofs
theorem Gz:∀args w,(callFunc 10 args).run Tryz.prog w= .ok (.enter 10 args) w:=enters_of Tryz.func10 au rfl
theorem MW (a z:Option Addr)(n c f c' B A:Nat)(xs m:List aW)(p:List aK)(w:World)(q:Row w 6 mZ a n c xs)(E:Row w 6 mZ z f c' m)(r:oF w B xs p)(t:oF w A m p)
  (R:∀s∈p,s.names.length<=1000000/\s.aM.length<=1000000):
  Calls Tryz.prog 9 #[.slice a n c,.slice z f c',.func (.func 10) #[] #[]] w (bT (.bool true) w):=by
 obtain rfl:f=n:=by rw[<-E.len,<-q.len,r.1,t.1]
 have hn:=q.le;have S:=hid q;have T:=hid E;have eg:=Gz;have X:Hid (∀(k:Nat)(x y:aW),xs[k]?=some x->m[k]?=some y->∀W,Below w.1.size w W->Calls Tryz.prog 10 #[dH x,dH y] W (bT (.bool true) W)):=hid (λk x y u v W d=>by
  obtain⟨s,F,Y⟩:=(r.below d).2 k x u;obtain⟨s',K,Z⟩:=(t.below d).2 k y v;rw[F] at K
  cases K
  have:=R s (bS F);exact Ky x y s B A W Y Z this.1 this.2)
 go_enter Tryz.func9,Tryz.ntmps9
 go_wp2
 go_loopw [17] (λi wr=>∃k:Nat,k<=f/\i= .int .i64 k/\Below w.1.size w wr) (λi _=>f - (RowKit.intOf i).toNat)
 case atStart=>exact⟨0,aS _,rfl,Below.refl _ _⟩
 case round=>
  obtain⟨k,hk,rfl,d⟩:=hrel;by_cases P:k<f
  .obtain⟨x,b,o,u,rfl,g⟩:=S.at_ P
   obtain⟨y,b',o',v,rfl,j⟩:=T.at_ P;have h0:=aZ d rfl (g 0 _ rfl);have r:=aZ d rfl (g 1 _ rfl);have t:=aZ d rfl (g 2 _ rfl);have h3:=aZ d rfl (g 3 _ rfl);have h4:=aZ d rfl (g 4 _ rfl);have h5:=aZ d rfl (g 5 _ rfl);simp only[bK] at h0;have Q:=aZ d rfl (j 0 _ rfl);have β:=aZ d rfl (j 1 _ rfl);have γ:=aZ d rfl (j 2 _ rfl);have δ:=aZ d rfl (j 3 _ rfl);have ε:=aZ d rfl (j 4 _ rfl);have ζ:=aZ d rfl (j 5 _ rfl);simp only[bK] at Q;have HC:=hid (X k x y u v);have η:b'<wr.1.size:=iw Q;go_wp2_with fail;refine(HC.q _ ((d.alloc d.size _).alloc (by have:=d.size;simp;omega) _)).mono ?_;rintro e w1 ⟨rfl,α⟩
   go_wp2
   go_roundw
   case rel=>exact⟨k+1,by omega,by go_num,((d.alloc d.size _).alloc (by have:=d.size;simp;omega) _).trans (α.mono (by have:=d.size;simp;omega))⟩
   case measure=>simp[RowKit.intOf];omega
  .go_wp2
   go_ret;exact⟨rfl,d⟩
section
variable (h:HC)(nl:Nat->List Bs)(es:List EvC)(ds:List aO)(ms:List aP)(qs:List Wa)(scan:EvC->List Sn)(dn:aO->List Int)(mn:aP->List Int)(w:World)(hg:wQ w)
  (hn:∀i,i<4->Row w 1 encStr (h.nm i).a (h.nm i).n (h.nm i).c (nl i)) (hd:Deep w h es ds ms qs scan dn mn)
include hg hn hd
end
attribute [local go_sem] Oper.semAt_some
theorem Same.UI {A:Nat->Prop}(X:World)(o:Obj):Same A X (X.alloc o):=Same.of_below (B:=X.1.size) (aB (Below.refl _ _) _) (λ_ _ h=>h)
variable{X:World}
theorem Same.cell_ {A:Nat->Prop}{Y:World}(h:Same A X Y){p:Addr}{v:Value}(hc:X.cell? p=some v)(ha:A p.block):Y.cell? p=some v:=
 (World.cell?_of_block (a:=p) (h.block p.block ha (iw hc))).trans hc
theorem uF.noCell {b:Nat}{K:List (Int × Int)}(h:uF X b K){p:Addr}{v:Value}(hc:X.cell? p=some v):p.block≠b:=λe=>by
 obtain⟨D,_,⟨es,c,a,_⟩,_⟩:=h;unfold World.cell? at hc;rw[e,a] at hc
 cases hc
theorem Row.same {α:Type}{F:α->List Value}{k:Nat}{w:World}{b n c:Nat}{a:Option Addr}{xs:List α}{K:List (Int × Int)}(h:Row w k F a n c xs)(e:uF w b K)(f:Same (λi=>i≠b) w X):Row X k F a n c xs:=
 h.ext (λ_ _ d=>f.cell_ d (e.noCell d))
end Yd
