import Derived.Test.YtiheclemhihpeaaGreatDoorZSpoken2
import Derived.WideKeyPair
import Derived.WideKeyEntry
set_option linter.all false
set_option maxRecDepth 200000
set_option maxHeartbeats 8000000
namespace Yd
open Go Go.RowKit Go.Proofs Tryz
open Go renaming World->C
open Lib renaming Utf8Tabs->G
open Tryz renaming prog->H
def fw:Nat->Bs
 |0=>[]
 |1=>[98,101,103,105,110]
 |2=>[119,114,105,116,101]
 |3=>[114,101,97,100]
 |4=>[115,99,97,110]
 |5=>[99,111,109,109,105,116]
 |6=>[97,98,111,114,116]
 |7=>[111,114,100,101,114]
 |8=>[109,97,116,99,104]
 |_=>[119,97,110,116]
def eU:Nat->Int
 |0=>0
 |1=>2
 |2=>2
 |3=>2
 |4=>2
 |5=>1
 |6=>1
 |7=>1
 |8=>2
 |_=>1
def iK:Nat->Int
 |0=>0
 |1=>108
 |2=>0
 |3=>118
 |4=>115
 |5=>0
 |6=>0
 |7=>116
 |8=>109
 |_=>103
def uq:Nat->Bs
 |0=>[114,121,119]
 |1=>[109,114]
 |2=>[109,119]
 |_=>[119,102,114]
def vU:Nat->Bs
 |0=>[]
 |1=>[49]
 |2=>[50]
 |3=>[50,46,57,57]
 |_=>[51]
def mF (w:C):Prop:=wQ w/\(∀k,k<10->w.cell? ⟨0,3*k,none⟩=some (.string ⟨(fw k).toArray⟩)/\w.cell? ⟨0,3*k+1,none⟩=some (.int .i64 (eU k))/\w.cell? ⟨0,3*k+2,none⟩=some (.int .i32 (iK k)))/\
 (∀i,i<4->w.cell? ⟨3,i,none⟩=some (.string ⟨(uq i).toArray⟩))/\(∀i,i<5->w.cell? ⟨1,i,none⟩=some (.string ⟨(vU i).toArray⟩))
theorem mF.below {w w':C}(h:mF w)(a:Below w.1.size w w'):mF w':=
 ⟨h.1.below a,λk b=>⟨aZ a rfl (h.2.1 k b).1,aZ a rfl (h.2.1 k b).2.1,aZ a rfl (h.2.1 k b).2.2⟩,λi c=>aZ a rfl (h.2.2.1 i c),λi c=>aZ a rfl (h.2.2.2 i c)⟩
theorem xH (s:Bs)(w:C)(b:G 7 8 w):Calls H 63 #[valStr s] w (bT (.int .i64 (if bW ⟨s.toArray⟩=true then 0 else 200)) w):=by
 have a:=hid (BG ⟨s.toArray⟩ w b)
 cases c:bW ⟨s.toArray⟩
 all_goals
  rw[c] at a;go_enter func63,ntmps63;go_wp2_with fail;refine a.q.mono ?_;rintro e g ⟨rfl,d⟩;have f:=hid d
  go_wp2
  go_ret;exact⟨rfl,f⟩
theorem Db (s:Bs)(w:C)(b:G 7 8 w):Calls H 62 #[valStr s] w (bT (.bool (!bW ⟨s.toArray⟩)) w):=by
 have a:=hid (xH s w b)
 cases c:bW ⟨s.toArray⟩
 all_goals
  rw[c] at a;go_enter func62,ntmps62;go_wp2_with fail;refine a.q.mono ?_;rintro e g ⟨rfl,d⟩;have f:=hid d;simp only[dG,xw,ku]
  go_wp2
  go_ret;exact⟨rfl,f⟩
def nW (t:To):Prop:=t=⟨[],0⟩\/(bW ⟨t.name.toArray⟩=true/\0<t.k/\t.k<=999)
theorem Vs (t:To)(w:C)(g:G 7 8 w)(h:nW t):Calls H 60 #[iZ t] w (bT (.bool true) w):=by
 rcases h with rfl|⟨a,i,j⟩
 .have o:=Fa ⟨[],0⟩ ⟨[],0⟩
  go_enter func60,ntmps60
  go_wp2
  go_ret;exact⟨by simp,aB (Below.refl _ _) _⟩
 .obtain⟨n,k⟩:=t
  simp only at a i j;have b:=aB (Below.refl w.1.size w) (.cells #[.string ⟨n.toArray⟩,.int .i64 k] 61);have c:=hid (xH n _ (Utf8Tabs_below g b));rw[a] at c;have d:=hid b;have l:=hid (Bx.new w #[.string ⟨n.toArray⟩,.int .i64 k] 61);have p:(k==0)=false:=aN.2 ah;go_enter func60,ntmps60;go_wp2_with fail;refine c.q.mono ?_;rintro e q ⟨rfl,f⟩;have r:=(l.keep f).1;have m:=hid (d.trans (f.mono d.size));simp only[dG]
  go_wp2
  go_ret;exact⟨by simp,m⟩
theorem MZ (t:To)(w:C)(c:G 7 8 w)(d:nW t):Calls H 59 #[iZ t] w (bT (.bool false) w):=by
 have a:=aB (Below.refl w.1.size w) (.cells (dX t) 61);have f:=hid (Vs t _ (Utf8Tabs_below c a) d);have b:=hid a;go_enter func59,ntmps59;go_wp2_with fail;refine f.q.mono ?_;rintro e i ⟨rfl,g⟩;have h:=hid (b.trans (g.mono b.size))
 go_wp2
 go_ret;exact⟨rfl,h⟩
theorem M0 (l:Nat)(h:1<=l)(i:l<=4)(w:C)(b:mF w):Calls H 64 #[.int .i64 l] w (nE (.string ⟨(vU l).toArray⟩) (.int .i64 0) w):=by
 have c:vw (l:Int)=0:=BV (by simp[iG];omega);have d:=hid c;have f:=hid b;go_enter func64,ntmps64;go_wp2_with fail;refine(xg _ _).mono ?_;rintro e j ⟨rfl,a⟩;rw[d.q];have k:=(f.below a).2.2.2 l ah;have g:=hid a
 go_wp2
 go_ret2
 exact⟨rfl,g⟩
theorem Ke {P:Program}{α:Type}{g:Operand}{l:Array Tmp}{q r:Code}{Q:Exit->Act->C->Prop}{a:Act}{w:C}{n:Nat}
  {gf:Nat} {lb:Array Value} (y:a.eval g= .func (.func gf) #[] lb) (z:∀args w,(callFunc gf args).run P w= .ok (.enter gf args) w)
  {lN:α->Array Value->C->Prop} {k:Nat} {D:Nat->Prop} {R:C->Prop} {Kp:α->Array Value->C->Prop} {xs:List α}
  (A:∀W,Below w.1.size w W->W.1.size=w.1.size+2->Cc P gf lb lN k D R Kp xs W)
  (B:¬D (w.1.size+1)) (E:∀x args X,lN x args X->args.size=l.size)
  (e:List α->C->Prop) (j:Code->List α->C->Prop)
  (F:∀s X Y,e s X->Same (λi=>i<w.1.size\/w.1.size+2+k<=i) X Y->e s Y)
  (K:∀c s X Y,j c s X->Same (λi=>i<w.1.size\/w.1.size+2+k<=i) X Y->j c s Y)
  (S:∀s X,e s X->R X) (T:∀c s X,j c s X->R X)
  (Z:∀x args X Y,Kp x args X->Same (λi=>i<w.1.size\/w.1.size+2+k<=i) X Y->Kp x args Y)
  (h0:e [] w)
  (β:∀f x args X,e f X->f++[x]<+:xs->lN x args X->w.1.size+2+k<=X.1.size->∀m,
   q.wpIn (Fence.wide.inRound (w.1.size+1)) m P (Exit.then (λγ u=>Below X.1.size X u/\∀o:C,Same (λi=>i≠w.1.size+1) u o->
     r.wpIn (Fence.wide.inRound (w.1.size+1)) m P (yA w.1.size D e j (Kp x args) (f++[x]) o) γ o) (λ_ _ _=>False))
    {tmps:=(l.zip args).foldl (λt (p,v)=>t.setIfInBounds p v) a.tmps,defers:=[]} X)
  (δ:∀X,e xs X->X.1[w.1.size]?=some (.deferred (some []))->Q .normal {a with defers:={target:= .collected w.1.size,args:=#[]}::a.defers} X)
  (ε:∀c f X,f<+:xs->j c f X->X.1[w.1.size]?=some (.deferred (some []))->c.wpIn Fence.wide n P Q {a with defers:={target:= .collected w.1.size,args:=#[]}::a.defers} X):
  (Code.rangeFunc g l q r).wpIn Fence.wide n P Q a w:=
 yB y z A B E e j F K S T Z h0 (λf x args X a b c d m=>yC (β f x args X a b c d m) (λ_ _ _ _ h=>h)) δ ε
end Yd
namespace Yd
open Go Go.RowKit Go.Proofs Go.Maps Tryz
open Tryz renaming prog->l
open Go.ChangeMaps (setBlock heap_setBlock_same heap_setBlock_other)
theorem Vt:Go.WideMaps.ArrKey l 55 3 2:=⟨underlying55,by kernel_rfl,by kernel_rfl,by kernel_rfl⟩
theorem Ya:Go.WideMaps.KeyLaw l 55:=Vt.law
theorem Vu:Keyed l 55:=Keyed.of_law Ya
theorem Vv:∃m,Tryz.prog.types.size=m+1:=⟨Tryz.prog.types.size - 1,by kernel_rfl⟩
theorem Pq (w:World):(zeroValue 3).run l w= .ok (.int .i64 0) w:=au
@[reducible] def IZ (n:Int):Prop:=(Lit.int .i64 n).wf=true
@[reducible] def kV (t o:Int):Value:= .agg #[.int .i64 t,.int .i64 o]
def kL (t o:Int):Lit:= .string (keyBytes [.int .i64 t,.int .i64 o])
theorem WW {t o:Int}(a:IZ t)(b:IZ o):keyOf l 55 (kV t o)=some (kL t o):=Go.WideMaps.keyOf_pair Vt underlying3 Vv a b
def uF (W:World)(b:Nat)(c:List (Int × Int)):Prop:=
 ∃a:DataW Unit,IsMap a/\W.ownsMap l 55 (plainElem l 3) b c.length a/\∀t o,IZ t->IZ o->a.atKey (kL t o) (.lit (.int .i64 0))= .lit (.int .i64 (c.count (t,o):Nat))
theorem uF.new (w:World):uF (w.alloc (.map #[] 0)) w.1.size []:=⟨.map [],⟨[],rfl⟩,World.ownsMap_made _ _ _ _,λt o _ _=>by simp[DataW.atKey]⟩
variable{w:World}{b:Nat}{K:List (Int × Int)}
theorem uF.of_eq {X:World}(h:uF w b K)(e:X.1[b]?=w.1[b]?):uF X b K:=by
 obtain⟨a,c,⟨d,f,g,F,i,j⟩,k⟩:=h;exact⟨a,c,⟨d,f,e.trans g,F,i,j⟩,k⟩
theorem uF.lt (h:uF w b K):b<w.1.size:=by
 obtain⟨c,d,a,e⟩:=h;exact a.lt
theorem uF.look (h:uF w b K){t o:Int}(d:IZ t)(e:IZ o):(Instr.lookup 132 (.map (some b)) (kV t o) false).run l w= .ok (.int .i64 (K.count (t,o):Nat)) w:=by
 obtain⟨j,_,f,g⟩:=h;obtain⟨c,i,a,_⟩:=f.lookup_int Vu underlying132 underlying3 (Pq w) (WW d e);rw[g t o d e] at a;simp only[DataW.lit.injEq,Lit.int.injEq,true_and] at a;rw[i,a]
end Yd
