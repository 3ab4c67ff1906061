import Derived.Test.YtiheclemhihpeaaGreatDoorZSpD
import Derived.Test.YtiheclemhihpeaaGreatDoorZSpE
import Derived.IntWalk
import Derived.Test.YtiheclemhihpeaaGreatDoorZIk
import Derived.Laws.RangeAny
import Derived.WalkSmall
import Derived.Lib.MapLaws
import Derived.Laws.BytesArg
set_option linter.all false
set_option maxRecDepth 200000
set_option maxHeartbeats 8000000
namespace Yd
open Go Go.RowKit Go.Proofs Tryz
def ou (w:World)(d:List (Int × Addr))(xs:List (Int × Int)):Prop:=d.map (iO w)=xs/\∀p∈d,∃b o n,p.2=⟨b,o,none⟩/\w.cell? p.2=some (.int .i64 n)
section
variable {w:World}{ps qs:List (Int × Addr)}{xs ys:List (Int × Int)}{a:Option Addr}{n c:Nat}
theorem ou.nil:ou w [] []:=⟨rfl,λp b=>by cases b⟩
theorem ou.cons {s:Int}{b o:Nat}{n:Int}(hc:w.cell? ⟨b,o,none⟩=some (.int .i64 n))(h:ou w ps xs):ou w ((s,⟨b,o,none⟩)::ps) ((s,n)::xs):=
 ⟨by rw[kW,h.1];show(s,mM w _)::xs=_;rw[jA hc],λp d=>by
  rcases dP.1 d with rfl|d
  .exact⟨b,o,n,rfl,hc⟩
  .exact h.2 p d⟩
theorem ou.app (h:ou w ps xs)(k:ou w qs ys):ou w (ps++qs) (xs++ys):=⟨by rw[fV,h.1,k.1],λp b=>(cu.1 b).elim (h.2 p) (k.2 p)⟩
theorem ou.gr {β:Type}{b:Nat->β->List (Int × Addr)}{d:β->List (Int × Addr)}(g:β->List (Int × Int)):∀(l:List β)(i:Nat),(∀j x,l[j]?=some x->ou w (b (i+j) x++d x) (g x))->ou w (Yd.gr b d i l) (l.flatMap g)
 |[],_,_=>ou.nil
 |x::l,i,h=>by
  show ou w (b i x++(d x++Yd.gr b d (i+1) l)) _;rw[<-fP,og];exact(h 0 x rfl).app (ou.gr g l (i+1) λj y e=>by rw[show i+1+j=i+(j+1) by omega];exact h (j+1) y e)
theorem ou.bF {b o:Nat}{v:je}(hc:w.cell? ⟨b,o,none⟩=some (.int .i64 v.t)):ou w (iR ⟨b,o,none⟩ v) (ig v):=by
 grind [iR,ig,ou.cons,ou.nil]
end
attribute [local go_sem] Oper.semAt_some
theorem LA (p:Addr)(w:World):Calls Tryz.prog 78 #[.pointer (some p)] w λe w'=>
  e= .returned (.func (.func 143) #[] #[.pointer (some ⟨w.1.size,0,none⟩)])/\w'=w.alloc (.cells #[.pointer (some p)] 136):=by
 go_enter func78,ntmps78
 go_wp2
 go_ret;exact⟨rfl,rfl⟩
theorem FN:∀args w,(callFunc 143 args).run Tryz.prog w= .ok (.enter 143 args) w:=enters_of func143 au rfl
theorem Bx.putObj {X:World}{b:Nat}{cs:Array Value}(h:Bx X b cs){l:Nat}(o:Obj)(d:b≠l):Bx (X.putObj l o) b cs:=(Same.putObj (A:=λi=>i≠l) X o ak).bx h d
theorem Deep.below {w w':World}{h:HC}{g:List EvC}{j:List aO}{i:List aP}{l:List Wa}{m:EvC->List Sn}{o:aO->List Int}{p:aP->List Int}(b:Deep w h g j i l m o p){B:Nat}
  (d:Below B w w') (e:B=w.1.size):Deep w' h g j i l m o p:=
 ⟨b.1.below d e,b.2.1.below d e,b.2.2.1.below d e,b.2.2.2.1.below d e,λx f=>(b.2.2.2.2.1 x f).below d e,λx f=>(b.2.2.2.2.2.1 x f).below d e,λx f=>(b.2.2.2.2.2.2 x f).below d e⟩
theorem max2 (a b:Int)(w:World):(Builtin.max_ #[3,3] 3 #[.int .i64 a,.int .i64 b]).run Tryz.prog w= .ok (.int .i64 (if b>a then b else a)) w:=by
 simp[Builtin.max_,Builtin.max2]
end Yd
namespace Yd
open Bool renaming false->C,true->I
open Option renaming some->L,none->U
open Go Go.RowKit Go.Proofs Tryz
open Go renaming World->M
open Go.Value renaming string->V
open Tryz renaming underlying9->N,prog->O
open Utf8 renaming decode->G
open Yd renaming hid->J
open _root_ renaming Int->D,Nat->H
structure aK where
 kind:D
 names:List Bs
 lvl:D
 aM:List To
 first:Bool
 bits:D
 deriving DecidableEq
def dZ (w:M)(B:H)(l:aW)(s:aK):Prop:=
 (l.kind=s.kind/\l.lvl=s.lvl/\l.first=s.first/\l.bits=s.bits/\l.nn=s.names.length/\l.vn=s.aM.length)/\
 Own w B 9 1 encStr (.slice l.na l.nn l.nc) s.names/\Own w B 61 2 pG (.slice l.va l.vn l.vc) s.aM
variable{w':M}{B:H}
theorem dZ.below {w:M}{l:aW}{s:aK}(h:dZ w B l s)(b:Below w.1.size w w'):dZ w' B l s:=⟨h.1,h.2.1.below b rfl,h.2.2.below b rfl⟩
theorem dZ.mono {w:M}{B':H}{l:aW}{s:aK}(h:dZ w B l s)(b:B'<=B):dZ w B' l s:=⟨h.1,h.2.1.mono b,h.2.2.mono b⟩
variable{X:M}{b:H}{cs:Array Value}{T:TypeId}
theorem Bx.new1 (h:X.1.size=b):Bx (X.alloc (.cells cs T)) b cs:=h▸Bx.new X cs T
theorem Row.str1 (w:M)(s:Bs):Row (w.alloc (.cells #[V ⟨s.toArray⟩] 9)) 1 encStr (L ⟨w.1.size,0,U⟩) 1 1 [s]:=
 (Own.new (hc:=gy) w w.1.size 9 #[V ⟨s.toArray⟩] [s] (aC _) rfl (by simp[maxLen])).row ak
variable{g:H}
theorem Row.XD (h:X.1.size=g)(s:Bs):Row (X.alloc (.cells #[V ⟨s.toArray⟩] 9)) 1 encStr (L ⟨g,0,U⟩) 1 1 [s]:=h▸Row.str1 X s
variable{k:H}
theorem Row.drew {β:Type}{w:M}{enc:β->List Value}{a:Option Addr}{n c:H}{xs:List β}(h:Row w k enc a n c xs):Row w.drew k enc a n c xs:=h
variable{v:Value}
theorem qp {p:Addr}(o:Obj)(h:X.cell? p=L v):(X.alloc o).cell? p=L v:=(((Below.refl X.1.size X).alloc (aC _) o).cell (iw h)).trans h
variable{A:H->Prop}
theorem Same.refl' (X:M):Same A X X:=⟨rfl,rfl,rfl,aC _,λ_ _ _=>rfl⟩
theorem Same.setTail {Y:M}{o:H}(h:Same A X Y)(f:¬A b):Same A X (Y.setCell ⟨b,o,U⟩ v):=
 ⟨h.os,h.tape,h.output,by have:=h.size;simpa[World.setCell] using this,λi d g=>(Below.heap_setCell _ _ _ _ (λe=>by have j:i=b:=e;rw[j] at d;exact f d)).trans (h.block i d g)⟩
theorem Same.mU {Y:M}(h:Same A X Y):Same A X Y.drew:=⟨h.os,h.tape,h.output,h.size,h.block⟩
section
variable {α:Type}{enc:α->List Value}{k:H}{w w':M}{B:H}{E:TypeId}{v:Value}{xs:List α}
theorem Own.grown (h:Own w B E k enc v xs){row:Option H}(d:w.grownBy w' row)(f:∀g,v.ownBlock=L g->row≠L g):Own w' B E k enc v xs:=
 h.block λg b=>d.block g (h.lt g b).2 (λe=>f g b e.symm)
theorem Own.same (h:Own w B E k enc v xs)(d:Same A w w')(e:∀g,v.ownBlock=L g->A g):Own w' B E k enc v xs:=h.block λg b=>d.block g (e g b) (h.lt g b).2
theorem Own.tag (h:Own w B E k enc v xs)(b:v.ownBlock=L g):∃cs d,w.1[g]?=L (.cells cs E d):=by
 rcases h.2 with⟨rfl,_⟩|⟨e,f,i,rfl,_,j,_⟩
 .cases b
 .obtain rfl:e=g:=by simpa[Value.ownBlock] using b
  grind
theorem Own.apart {β:Type}{d:β->List Value}{R B':H}{x:Value}{e:List β}(h:Own w B E k enc v xs)(h':Own w B' T R d x e)(f:E≠T):∀g,v.ownBlock=L g->x.ownBlock≠L g:=λg i j=>by
 obtain⟨m,o,l⟩:=h.tag i;obtain⟨p,q,b⟩:=h'.tag j;rw[l] at b
 cases b
 exact f rfl
theorem Own.far (h:Own w B E k enc v xs){i:H}(b:i<B\/w.1.size<=i):L i≠v.ownBlock:=λe=>by
 have:=h.lt i e.symm;omega
theorem Own.far' (h:Own w B E k enc v xs){i:H}(b:i<B\/w.1.size<=i):v.ownBlock≠L i:=λe=>by
 have:=h.lt i e;omega
end
structure Kept (w:M)(l:aW)(w':M):Prop where
 size:w.1.size<=w'.1.size
 block:∀i,i<w.1.size->L i≠(Value.slice l.na l.nn l.nc).ownBlock->L i≠(Value.slice l.va l.vn l.vc).ownBlock->w'.1[i]?=w.1[i]?
def XE (w:M)(l b:aW):Prop:=
 (∀g,(Value.slice b.na b.nn b.nc).ownBlock=L g->(Value.slice l.na l.nn l.nc).ownBlock=L g\/w.1.size<=g)/\(∀g,(Value.slice b.va b.vn b.vc).ownBlock=L g->(Value.slice l.va l.vn l.vc).ownBlock=L g\/w.1.size<=g)
theorem Bx.aX (h:Bx X b cs)(i:H)(f:i<cs.size)(v:Value):Bx (X.setCell ⟨b,i,U⟩ v) b (cs.setIfInBounds i v):=by
 refine⟨λj=>?_,λj=>by rw[World.frozen?_setCell];exact h.2.1 j,by have:=h.2.2;simpa[World.setCell] using this⟩;by_cases d:j=i
 .subst d
  rw[World.cell?_setCell_same' _ _ _ (by rw[h.1 j,FP f];rfl),ru f]
 .rw[World.cell?_setCell_other _ _ _ _ (λe=>by cases e;exact d rfl),h.1 j,iQ (λe=>d e.symm)]
theorem Row.toN (h:X.1.size=g)(s:To):Row (X.alloc (.cells #[V ⟨s.name.toArray⟩,.int .i64 s.k] 61)) 2 pG (L ⟨g,0,U⟩) 1 1 [s]:=
 h▸(Own.new (hc:=Ce) X X.1.size 61 #[V ⟨s.name.toArray⟩,.int .i64 s.k] [s] (aC _) rfl (by simp[maxLen])).row ak
theorem V9 {o:Obj}(h:X.1.size=g):(X.alloc o).1[g]?=L o:=h▸World.alloc_heap_new X o
theorem V8 {o':Obj}(o:Obj)(h:X.1[b]?=L o'):(X.alloc o).1[b]?=L o':=(Below.heap_alloc _ _ _ (fH.1 h).1).trans h
variable{t:TypeId}
theorem Own.LB {β:Type}{enc:β->List Value}{w:M}{xs:List β}(h:Own w B t k enc v xs){f:H × H}(g:w.1[b]?=L (.cells cs T f))(i:t≠T):v.ownBlock≠L b:=λe=>by
 obtain⟨j,l,d⟩:=h.tag e;rw[g] at d
 cases d
 exact i rfl
abbrev Er:=Bs × D
def jF (c:UInt8):Bool:=c==32||c==9
def bg (l:Bs):Bs:=l.dropWhile jF
def dO (l:Bs):Bool:=l.head?==U||l.head?==L 10||l.head?==L 35
def dB (l:Bs):Except Er (Bool × Bs):=
 if dO (bg l)=I then .ok (C,bg l) else if(bg l).length=l.length then .error (bg l,220) else .ok (I,bg l)
def fu (l:Bs):Except Er Bs:=
 match dB l with
 | .error x=> .error x
 | .ok (I,r)=> .ok r
 | .ok (C,r)=> .error (r,220)
def oI (c:UInt8):Bool:=(c==46||c==95)||(decide (48<=c) && decide (c<=57))||(decide (97<=c) && decide (c<=122))||(decide (65<=c) && decide (c<=90))
def fO (l:Bs):Bs:=l.takeWhile oI
def qO (l:Bs):Bs:=match(l.drop (fO l).length).head? with
 |some c=>if 128<=c then fO l++[128] else fO l
 |none=>fO l
def gI:Bs->Bs->H
 |a::x,b::y=>if a=b then gI x y+1 else 0
 |_,_=>0
def rA (b:List Bs)(t:Bs):H:=b.foldl (λm s=>max m (gI s t)) 0
def gW (b:List Bs)(l:Bs):Except Er (H × Bs):=
 match b.findIdx? (λs=>s==qO l) with
 |some i=> .ok (i,l.drop (fO l).length)
 |none=> .error (l.drop (rA b (fO l)),220)
def bB (l:Bs):H:=gB ⟨l.toArray⟩ iA
def bY (l:Bs):Bool:=!l.isEmpty && (okB ⟨l.toArray⟩ 0 && fF (G ⟨l.toArray⟩ 0).1)
def iE (l:Bs):H:=(((bH ⟨l.toArray⟩ l.length 0).filter (λi=>decide (i<=24))).getLast?).getD 0
def bU (l:Bs):Except Er (Bs × Bs):=
 if(dO l||!bY l)=I then .error (l,220)
 else if 24<bB l then .error (l.drop (iE (l.take (bB l))),220)
 else .ok (l.take (bB l),l.drop (bB l))
def fE (c:UInt8):Bool:=decide (48<=c) && decide (c<=57)
def rC (l:Bs):H:=l.foldl (λn c=>n*10+(c.toNat - 48)) 0
def rY (d:Bs)(l:Bs):Except Er (To × Bs):=
 let b:=l.takeWhile fE
 if b.head?=U\/b.head?=L 48 then .error (l,220)
 else if 999<rC b then .error (l,3)
 else .ok (⟨d,rC b⟩,l.drop b.length)
def dN (l:Bs):Except Er (To × Bs):=
 if l.head?=L 45 then .ok (⟨[],0⟩,l.tail)
 else match bU l with
  | .error x=> .error x
  | .ok (b,r)=>if r.head?=L 46 then rY b r.tail else .error (r,220)
def mK:H->List Bs->Bs->Except Er (List Bs × Bs)
 |0,b,l=> .ok (b,l)
 |k+1,b,l=>
  match fu l with
  | .error x=> .error x
  | .ok r=>match bU r with
   | .error x=> .error x
   | .ok (d,e)=>mK k (b++[d]) e
def iB:List Bs:=[uq 0,uq 1,uq 2,uq 3]
def kM:List Bs:=[vU 1,vU 2,vU 3,vU 4]
def jK:List Bs:=[fw 1,fw 2,fw 3,fw 4,fw 5,fw 6,fw 7,fw 8,fw 9]
def kD:H->H->D->Bs->Except Er (D × Bs)
 |0,_,b,l=> .ok (b,l)
 |f+1,k,b,l=>
  match dB l with
  | .error x=> .error x
  | .ok (C,r)=> .ok (b,r)
  | .ok (I,r)=>match gW (iB.drop k) r with
   | .error x=> .error x
   | .ok (i,d)=>kD f (k+i+1) (b+2 ^ (k+i)) d
def bR (e:Bool)(g:H):H->H->List Bs->List To->Bs->Except Er ((List Bs × List To) × Bs)
 |0,_,b,d,l=> .ok ((b,d),l)
 |f+1,h,b,d,l=>
  match dB l with
  | .error x=> .error x
  | .ok (C,r)=> .ok ((b,d),r)
  | .ok (I,r)=>
   if h=g/\bY r=I then .error (r,3)
   else match bU r with
    | .error x=> .error x
    | .ok (i,j)=>
     if e=I then match fu j with
      | .error x=> .error x
      | .ok m=>match dN m with
       | .error x=> .error x
       | .ok (v,o)=>bR e g f (h+1) (b++[i]) (d++[v]) o
     else bR e g f (h+1) (b++[i]) d j
def jh (l:Bs):Except Er (Bool × Bs):=
 match dB l with
 | .error x=> .error x
 | .ok (I,r)=>if r.head?=L 45 then .ok (I,r.tail) else .ok (C,l)
 | .ok (C,_)=> .ok (C,l)
def uS (k:H)(e:List Bs)(l:Bs):Except Er (aK × Bs):=
 if k=1 then match fu l with
  | .error x=> .error x
  | .ok r=>match gW kM r with
   | .error x=> .error x
   | .ok (i,d)=> .ok (⟨k,e,1+i,[],C,0⟩,d)
 else if k=3 then match fu l with
  | .error x=> .error x
  | .ok r=>match dN r with
   | .error x=> .error x
   | .ok (v,d)=> .ok (⟨k,e,0,[v],C,0⟩,d)
 else if k=9 then match kD 5 0 0 l with
  | .error x=> .error x
  | .ok (b,r)=> .ok (⟨k,e,0,[],C,b⟩,r)
 else if k=8 then match jh l with
  | .error x=> .error x
  | .ok (f,r)=>match bR C 300 301 0 e [] r with
   | .error x=> .error x
   | .ok ((g,h),d)=> .ok (⟨k,g,0,h,f,0⟩,d)
 else if k=4 then match bR I 40 41 0 e [] l with
   | .error x=> .error x
   | .ok ((g,h),d)=> .ok (⟨k,g,0,h,C,0⟩,d)
 else if k=7 then match bR C 300 301 0 e [] l with
   | .error x=> .error x
   | .ok ((g,h),d)=> .ok (⟨k,g,0,h,C,0⟩,d)
 else .ok (⟨k,e,0,[],C,0⟩,l)
def jv (l:Bs):Except Er (aK × Bs):=
 if dO (bg l)=I then .ok (⟨0,[],0,[],C,0⟩,bg l)
 else match gW jK (bg l) with
  | .error x=> .error x
  | .ok (i,r)=>match mK (eU (i+1)).toNat [] r with
   | .error x=> .error x
   | .ok (d,e)=>match uS (i+1) d e with
    | .error x=> .error x
    | .ok (s,f)=>match dB f with
     | .error x=> .error x
     | .ok (I,b)=> .error (b,220)
     | .ok (C,b)=> .ok (s,b)
def nI (r:D):Bool:=decide (32<=r)||r==9
def dI (l:Bs):Bs:=if l.head?=L 35 then l.drop (gB ⟨l.toArray⟩ nI) else l
def sj (l:Bs):Except Er (aK × Bs):=
 match jv l with
 | .error x=> .error x
 | .ok (s,r)=>
  if(dI r).head?=U then .ok (s,[]) else if(dI r).head?=L 10 then .ok (s,(dI r).tail) else .error (dI r,220)
@[reducible] def oV (s:Bs)(p:H)(c:aW):Array Value:=#[V ⟨s.toArray⟩,.int .i64 p,.int .i64 c.kind,.slice c.na c.nn c.nc,.int .i64 c.lvl,.slice c.va c.vn c.vc,.bool c.first,.int .i64 c.bits]
structure dL (w:M)(R:H)(s:Bs)(p:H)(l:Bs)(c:aW)(n:aK):Prop where
 x:Bx w R (oV s p c)
 n:dZ w (R+1) c n
 d:s.drop p=l
 le:p<=s.length
 lim:s.length<=1000000
def iX (R:H)(c:aW)(i:H):Prop:=i≠R/\(Value.slice c.na c.nn c.nc).ownBlock≠L i/\(Value.slice c.va c.vn c.vc).ownBlock≠L i
structure Mv (R:H)(c c':aW)(w w':M):Prop where
 same:Same (iX R c) w w'
 na:∀g,(Value.slice c'.na c'.nn c'.nc).ownBlock=L g->(Value.slice c.na c.nn c.nc).ownBlock=L g\/w.1.size<=g
 va:∀g,(Value.slice c'.va c'.vn c'.vc).ownBlock=L g->(Value.slice c.va c.vn c.vc).ownBlock=L g\/w.1.size<=g
theorem Mv.refl (R:H)(c:aW)(w:M):Mv R c c w w:=⟨Same.refl' _,λ_ h=> .inl h,λ_ h=> .inl h⟩
variable{R:H}
theorem Mv.of_below {c:aW}{w:M}(h:Below w.1.size w w'):Mv R c c w w':=⟨Same.of_below h (λ_ _ h=>h),λ_ h=> .inl h,λ_ h=> .inl h⟩
variable{c':aW}{i:H}
theorem Mv.Xj {c:aW}{w:M}(h:Mv R c c' w w')(b:iX R c i)(d:i<w.1.size):iX R c' i:=
 ⟨b.1,λe=>(h.na i e).elim b.2.1 (λk=>by omega),λe=>(h.va i e).elim b.2.2 (λk=>by omega)⟩
theorem Mv.iJ {c:aW}{w:M}(h:Mv R c c' w w')(k:Same (iX R c') w' X):Same (iX R c) w X:=
 ⟨k.os.trans h.same.os,k.tape.trans h.same.tape,k.output.trans h.same.output,cO h.same.size k.size,λi d b=>(k.block i (h.Xj d b) (kS b h.same.size)).trans (h.same.block i d b)⟩
theorem Mv.trans {c f:aW}{w:M}(h:Mv R c c' w w')(k:Mv R c' f w' X):Mv R c f w X:=
 ⟨h.iJ k.same,λg b=>(k.na g b).elim (λe=>h.na g e) (λe=> .inr (cO h.same.size e)),λg b=>(k.va g b).elim (λe=>h.va g e) (λe=> .inr (cO h.same.size e))⟩
theorem Mv.bx {c:aW}{w:M}(h:Mv R c c' w w')(d:Bx w b cs)(e:iX R c b):Bx w' b cs:=h.same.bx d e
variable{p:H}{s l:Bs}
theorem dL.new {w:M}{c:aW}{n:aK}(h:dL w R s p l c n)(b:w.1.size<=i):iX R c i:=
 ⟨by have:=h.x.2.2;omega,h.n.2.1.far' (.inr b),h.n.2.2.far' (.inr b)⟩
theorem dL.old {w:M}{c:aW}{n:aK}(h:dL w R s p l c n)(b:i<R):iX R c i:=
 ⟨by omega,h.n.2.1.far' (.inl ah),h.n.2.2.far' (.inl ah)⟩
theorem dL.below {w:M}{c:aW}{n:aK}(h:dL w R s p l c n)(b:Below w.1.size w w'):dL w' R s p l c n:=
 ⟨h.x.keep b,h.n.below b,h.d,h.le,h.lim⟩
theorem dL.len {w:M}{c:aW}{n:aK}(h:dL w R s p l c n):p+l.length=s.length:=by
 have:=h.le;rw[<-h.d,dY];omega
theorem dL.go {w:M}{c:aW}{n:aK}(h:dL w R s p l c n)(k:H)(i:k<=l.length):
  dL (w.setCell ⟨R,1,U⟩ (.int .i64 ((p+k:H):D))) R s (p+k) (l.drop k) c n/\Mv R c c w (w.setCell ⟨R,1,U⟩ (.int .i64 ((p+k:H):D))):=by
 have d:=h.x.aX 1 ak (.int .i64 ((p+k:H):D));have f:Same (iX R c) w (w.setCell ⟨R,1,U⟩ (.int .i64 ((p+k:H):D))):=Same.setCell _ _ _ _ (λe=>e.1 rfl);refine⟨⟨d,⟨h.n.1,h.n.2.1.block λg b=>?_,h.n.2.2.block λg b=>?_⟩,?_,?_,h.lim⟩,f,λ_ h=> .inl h,λ_ h=> .inl h⟩
 .exact Below.heap_setCell _ _ _ _ (by have:=(h.n.2.1.lt g b).1;simp;omega)
 .exact Below.heap_setCell _ _ _ _ (by have:=(h.n.2.2.lt g b).1;simp;omega)
 .rw[<-h.d,mD]
 .have:=h.len;omega
theorem dW (l:Bs):ByteArray.size ⟨l.toArray⟩=l.length:=by simp[ByteArray.size]
theorem Bz (s:Bs)(p:H):(⟨s.toArray⟩:ByteArray).extract p s.length=⟨(s.drop p).toArray⟩:=by
 apply ByteArray.ext
 rw[ByteArray.data_extract]
 apply Array.ext'
 simp[eF]
theorem mV (s:Bs)(p:H):(⟨s.toArray⟩:ByteArray).extract 0 p=⟨(s.take p).toArray⟩:=by
 apply ByteArray.ext
 rw[ByteArray.data_extract]
 apply Array.ext'
 simp
theorem ow (l:Bs)(p:H):G ⟨l.toArray⟩ p=G ⟨(l.drop p).toArray⟩ 0:=by
 rw[<-Bz];have:=Lib.tail_decode ⟨l.toArray⟩ p 0;rw[dW] at this;rw[this,bK]
theorem FQ (l:Bs)(p:H):okB ⟨l.toArray⟩ p=okB ⟨(l.drop p).toArray⟩ 0:=by unfold okB;rw[ow]
theorem nM (b:UInt8)(t:Bs)(h:b.toNat<128):G ⟨(b::t).toArray⟩ 0=(b.toNat,1):=decode_ascii ⟨(b::t).toArray⟩ 0 (by rw[dW];simp) h
theorem vS (b:UInt8)(t:Bs)(h:128<=b.toNat):128<=(G ⟨(b::t).toArray⟩ 0).1/\1<=(G ⟨(b::t).toArray⟩ 0).2:=decode_high ⟨(b::t).toArray⟩ 0 (by rw[dW];simp) h
theorem wM (l:Bs)(h:l≠[]):1<=(G ⟨l.toArray⟩ 0).2:=by
 cases l with
 |nil=>exact absurd rfl h
 |cons b t=>
  rcases jk b.toNat 128 with d|d
  .rw[nM b t d];exact aC _
  .exact(vS b t d).2
theorem Cx (b:UInt8)(t:Bs)(h:b.toNat<128):okB ⟨(b::t).toArray⟩ 0=I:=by
 unfold okB;rw[nM b t h];rw[show((b.toNat:D)==65533)=C from aN.2 ah];rfl
theorem xB (l:Bs)(d:H):∀(n p:H),bH ⟨l.toArray⟩ n (d+p)=(bH ⟨(l.drop d).toArray⟩ n p).map (d+ ·)
 |0,_=>rfl
 |n+1,p=>by
  simp only[bH,dW,dY];have e:G ⟨l.toArray⟩ (d+p)=G ⟨(l.drop d).toArray⟩ p:=by
   rw[ow l (d+p),ow (l.drop d) p,mD]
  by_cases h:d+p<l.length
  .rw[aA h,aA ah,e,Nat.add_assoc,xB l d n];rfl
  .rw[ay h,ay ah];rfl
theorem vV (s:ByteArray):∀(n m p:H),s.size<=p+n->s.size<=p+m->bH s n p=bH s m p
 |0,m,p,b,_=>by cases m <;> simp only[bH];rw[ay ah]
 |n+1,0,p,_,d=>by simp only[bH];rw[ay ah]
 |n+1,m+1,p,b,d=>by
  simp only[bH];by_cases h:p<s.size
  .rw[aA h,aA h]
   have:=width_pos s p h;rw[vV s n m _ ah ah]
  .rw[ay h,ay h]
theorem vT (l:Bs)(h:l≠[]):(G ⟨l.toArray⟩ 0).2<=l.length:=by
 have d:1<=l.length:=by
  cases l with
  |nil=>exact absurd rfl h
  |cons b t=>simp
 unfold G;simp only[dW]
 split
 .exact d
 split
 .rename_i g
  simp only[bD,bO] at g
  split
  .show 2<=_;omega
  .exact d
 split
 .rename_i g
  simp only[bD,bO] at g
  split
  .show 3<=_;omega
  .exact d
 split
 .rename_i g
  simp only[bD,bO] at g
  split
  .show 4<=_;omega
  .exact d
 .exact d
theorem JH (l:Bs)(p:D->Bool)(d q:H):mE ⟨l.toArray⟩ p (d+q)=mE ⟨(l.drop d).toArray⟩ p q:=by
 unfold mE;rw[FQ l (d+q),FQ (l.drop d) q,ow l (d+q),ow (l.drop d) q,mD]
theorem iY (l:Bs)(p:D->Bool)(h:l≠[]):gB ⟨l.toArray⟩ p=
  if(okB ⟨l.toArray⟩ 0 && p ((G ⟨l.toArray⟩ 0).1:D))=I then(G ⟨l.toArray⟩ 0).2+gB ⟨(l.drop (G ⟨l.toArray⟩ 0).2).toArray⟩ p else 0:=by
 obtain⟨d,f⟩:∃d,d=(G ⟨l.toArray⟩ 0).2:=⟨_,rfl⟩;have g:=wM l h;rw[<-f] at g ⊢;obtain⟨n,i⟩:∃n,l.length=n+1:=⟨l.length - 1,by have:l.length≠0:=λe=>h (yw e);omega⟩;have j:bH ⟨l.toArray⟩ l.length 0=0::(bH ⟨(l.drop d).toArray⟩ (l.drop d).length 0).map (d+ ·):=by
  rw[i];simp only[bH,dW];rw[aA ah,<-f,bQ,<-bK d,xB,bK,vV ⟨(l.drop d).toArray⟩ n (l.drop d).length 0 (by rw[dW,dY];omega) (by rw[dW];omega)]
 unfold gB;rw[dW,dW,j];simp only[List.find?_cons,List.find?_map];unfold mE
 cases o:(okB ⟨l.toArray⟩ 0 && p ((G ⟨l.toArray⟩ 0).1:D))
 .simp
 .simp only[Bool.not_true,dG]
  have e:((λb=>!(okB ⟨l.toArray⟩ b && p ((G ⟨l.toArray⟩ b).1:D)))∘λx=>d+x)=mE ⟨(l.drop d).toArray⟩ p:=by
   funext q
   exact JH l p d q
  have m:(λb=>!(okB ⟨(l.drop d).toArray⟩ b && p ((G ⟨(l.drop d).toArray⟩ b).1:D)))=mE ⟨(l.drop d).toArray⟩ p:=rfl;rw[e,m]
  cases r:List.find? (mE ⟨(l.drop d).toArray⟩ p) (bH ⟨(l.drop d).toArray⟩ (l.drop d).length 0) with
  |none=>
   simp only[Option.map_none,Option.getD_none];have s:d<=l.length:=by rw[f];exact vT l h
   rw[dY];omega
  |some q=>simp
theorem zN (p:D->Bool)(q:UInt8->Bool)(h:∀b:UInt8,b.toNat<128->p (b.toNat:D)=q b)(e:∀r:H,128<=r->p (r:D)=C)(f:∀b:UInt8,128<=b.toNat->q b=C):
  ∀l:Bs,gB ⟨l.toArray⟩ p=(l.takeWhile q).length
 |[]=>rfl
 |b::t=>by
  rw[iY (b::t) p ak];rcases jk b.toNat 128 with d|d
  .rw[nM b t d,Cx b t d,Bool.true_and,h b d]
   cases g:q b
   .rw[jB,g];rfl
   .rw[aA rfl,jB,g,aA rfl]
    show 1+gB ⟨t.toArray⟩ p=_;rw[zN p q h e f t,iC];omega
  .rw[e _ (vS b t d).1,Bool.and_false,jB,f b d];rfl
theorem zl (p:H->Bool)(q:UInt8->Bool)(h:∀b:UInt8,b.toNat<128->p b.toNat=q b)(i:∀r:H,128<=r->p r=C)(j:∀b:UInt8,128<=b.toNat->q b=C)(l:Bs):
  ∀f pos:H,l.length<=pos+f->pos<=l.length->Lib.idxFuncFrom p C ⟨l.toArray⟩ f pos=if pos+((l.drop pos).takeWhile q).length<l.length then((pos+((l.drop pos).takeWhile q).length:H):D) else -1
 |0,pos,s,u=>by
  have e:pos=l.length:=by omega
  subst e;rw[ay ah];rfl
 |f+1,pos,s,u=>by
  unfold Lib.idxFuncFrom;rw[dW];by_cases d:pos<l.length
  .rw[aA d]
   obtain⟨b,t,m⟩:∃b t,l.drop pos=b::t:=⟨_,_,jV d⟩;rw[ow l pos,m];rcases jk b.toNat 128 with g|g
   .rw[nM b t g]
    simp only[h b g]
    cases o:q b
    .rw[aA rfl,jB,o]
     simp only[xw,ku,nk,bK];rw[aA d]
    .rw[ay ak,zl p q h i j l f (pos+1) ah ah]
     have x:l.drop (pos+1)=t:=by rw[<-mD,m];rfl
     rw[x,jB,o,aA rfl,iC,show pos+1+(t.takeWhile q).length=pos+((t.takeWhile q).length+1) by omega]
   .rw[aA (i _ (vS b t g).1),jB,j b g]
    simp only[xw,ku,nk,bK];rw[aA d]
  .rw[ay d,ay ah]
variable{β:Type}
theorem qx (q:β->Bool)(l:List β):l.drop (l.takeWhile q).length=l.dropWhile q:=by
 induction l with
 |nil=>rfl
 |cons b t d=>
  rw[jB,AP]
  cases q b
  .rfl
  .simpa using d
theorem kJ (q:β->Bool)(l:List β):(l.takeWhile q).length+(l.dropWhile q).length=l.length:=by
 rw[<-eX,List.takeWhile_append_dropWhile]
theorem JI (p:H->Bool)(q:UInt8->Bool)(h:∀b:UInt8,b.toNat<128->p b.toNat=q b)(e:∀r:H,128<=r->p r=C)(f:∀b:UInt8,128<=b.toNat->q b=C)(l:Bs):
  Lib.trimLeftF p ⟨l.toArray⟩=⟨(l.dropWhile q).toArray⟩:=by
 have g:=kJ q l;unfold Lib.trimLeftF Lib.idxFunc;rw[dW,zl p q h e f l l.length 0 ah ah];simp only[List.drop_zero,bQ];by_cases d:(l.takeWhile q).length<l.length
 .rw[aA d,ay ah,gF,Bz,qx]
 .rw[ay d,aA rfl,yw (l:=l.dropWhile q) ah]
def rV (r:D):Bool:=r==32||r==9
theorem uw (b:UInt8):rV (b.toNat:D)=jF b:=by
 have d:∀n:H,(((b.toNat:D)==(n:D))=decide (b.toNat=n)):=λn=>by
  by_cases h:b.toNat=n
  .simp[h]
  .rw[aN.2 ah];simp[h]
 have f:∀c:UInt8,(b==c)=decide (b.toNat=c.toNat):=λc=>by
  by_cases h:b=c
  .simp[h]
  .rw[aN.2 h,bn (λe=>h (gD.1 e))]
 unfold rV jF;rw[f 32,f 9,show(32:D)=((32:H):D) from rfl,show(9:D)=((9:H):D) from rfl,d,d];rfl
theorem FR (r:H)(h:128<=r):rV (r:D)=C:=by
 unfold rV;rw[aN.2 ah,aN.2 ah];rfl
theorem LD (b:UInt8)(h:128<=b.toNat):jF b=C:=by rw[<-uw];exact FR _ h
theorem Ox (l:Bs):gB ⟨l.toArray⟩ rV=(l.takeWhile jF).length:=zN rV jF (λb _=>uw b) FR LD l
theorem Rc (l:Bs):Lib.trimLeftF (λr=>rV (r:D)) ⟨l.toArray⟩=⟨(bg l).toArray⟩:=JI _ jF (λb _=>uw b) FR LD l
theorem zO (l:Bs):(bg l).length<=l.length:=by have:=kJ jF l;unfold bg;omega
theorem CB (l:Bs):l.drop (l.length - (bg l).length)=bg l:=by
 have:=kJ jF l;unfold bg at*;rw[show l.length - (l.dropWhile jF).length=(l.takeWhile jF).length by omega,qx]
theorem Rf (l:Bs)(i:H)(b:UInt8)(h:l[i]?=L b):∃d:i<ByteArray.size ⟨l.toArray⟩,(⟨l.toArray⟩:ByteArray)[i]'d=b:=by
 obtain⟨e,f⟩:=bq.1 h;exact⟨by rw[dW];exact e,by rw[<-f];rfl⟩
variable{P:Program}
theorem dQ (d:P.underlying t=L .string)(l:Bs)(i:H)(b:UInt8)(h:l[i]?=L b)(W:M):(Instr.index t (V ⟨l.toArray⟩) (.int .i64 (i:D))).run P W= .ok (.int .u8 (b.toNat:D)) W:=by
 obtain⟨f,e⟩:=Rf l i b h;rw[run_index_string W t _ .i64 i d,dif_pos ⟨by omega,by omega⟩];simp only[gF,e]
theorem jg (b:P.underlying t=L .string)(l:Bs)(i:H)(h:i<=l.length)(W:M):(Instr.slice t (V ⟨l.toArray⟩) (L (.int .i64 (i:D))) U U).run P W= .ok (V ⟨(l.drop i).toArray⟩) W:=by
 rw[run_slice_string_l W t _ b .i64 i ah (by rw[dW];omega),gF,dW,Bz]
theorem uY (b:P.underlying t=L .string)(l:Bs)(i:H)(h:i<=l.length)(W:M):(Instr.slice t (V ⟨l.toArray⟩) U (L (.int .i64 (i:D))) U).run P W= .ok (V ⟨(l.take i).toArray⟩) W:=by
 rw[run_slice_string_h W t _ b .i64 i ah (by rw[dW];omega),gF,mV]
theorem JJ (b c:UInt8):(b==c)=((b.toNat:D)==(c.toNat:D)):=by
 by_cases h:b=c
 .simp[h]
 .rw[aN.2 h,aN.2 (λe=>h (gD.1 ah))]
theorem oz (b:UInt8)(t:Bs):dO (b::t)=(((b.toNat:D)==10)||((b.toNat:D)==35)):=by
 unfold dO;simp only[Ai];rw[show((L b==U):Bool)=C from rfl,Bool.false_or];show((b==10)||(b==35))=_;rw[JJ b 10,JJ b 35];rfl
def lS (p:H)(m:D):List PanicEntry:=[⟨.iface 100 (.agg #[.int .i64 p,.int .i64 m]),C,C⟩]
theorem jS (p:H)(m:D)(w:M):Calls O 43 #[.int .i64 p,.int .i64 m] w λe w'=>e= .panicked (lS p m)/\w'=w:=by
 go_enter Tryz.func43,Tryz.ntmps43
 go_wp2
 exact⟨rfl,rfl,rfl⟩
theorem Oy (r:D)(w:M):Calls O 94 #[.int .i32 r] w λe w'=>e= .returned (.bool (rV r))/\∃q,w'=w.drewN q:=by
 unfold rV
 cases b:r==32 <;> cases d:r==9
 all_goals
  go_enter func94,ntmps94
  go_wp2
  go_ret;exact⟨rfl,0,rfl⟩
theorem JK:∀args w,(callFunc 94 args).run O w= .ok (.enter 94 args) w:=enters_of func94 au rfl
theorem Ip (l:Bs)(w:M):Calls O 93 #[V ⟨l.toArray⟩,.func (.func 94) #[] #[]] w (bT (V ⟨(bg l).toArray⟩) w):=by
 have:=Tryz.strings_TrimLeftFunc 94 #[] JK (λr=>rV (r:D)) ⟨l.toArray⟩ w (λW r _=>by unfold FnGives;exact Oy (r:D) W);rw[Rc] at this;exact this
theorem dL.c0 {w:M}{c:aW}{n:aK}(h:dL w R s p l c n):w.cell? ⟨R,0,U⟩=L (V ⟨s.toArray⟩):=h.x.1 0
theorem dL.c1 {w:M}{c:aW}{n:aK}(h:dL w R s p l c n):w.cell? ⟨R,1,U⟩=L (.int .i64 p):=h.x.1 1
variable{t:Bs}{b:UInt8}
theorem dL.at_ {w:M}{c:aW}{n:aK}(h:dL w R s p (b::t) c n):s[p]?=L b:=by
 have:=cZ (λl=>l[0]?) h.d
 simpa using this
theorem AO {c:aW}{n:aK}(w:M)(h:dL w R s p l c n):Calls O 95 #[.pointer (L ⟨R,0,U⟩)] w (bT (.bool (dO l)) w):=by
 have m:=h.c0;have o:=h.c1;have d:=h.len;have q:=h.lim
 cases f:l with
 |nil=>
  obtain rfl:p=s.length:=by rw[f] at d;simpa using d
  have g:=dW s;clear h d;go_enter func95,ntmps95
  go_wp2_with (go_quiet (fail))
  go_ret;exact⟨rfl,dm (Below.refl _ _) _⟩
 |cons b t=>
  subst f;have r:=λW=>dQ N s p b h.at_ W
  have u:p<s.length:=by simp at d;omega
  have g:=dW s;have x:((p:D)==(s.length:D))=C:=aN.2 ah;clear h d;by_cases i:b.toNat=10
  .have e:((b.toNat:D)==10)=I:=by simp[i]
   go_enter func95,ntmps95
   go_wp2_with (go_quiet (fail))
   go_ret;exact⟨by rw[oz,e];rfl,dm (Below.refl _ _) _⟩
  .have e:((b.toNat:D)==10)=C:=aN.2 ah
   cases j:((b.toNat:D)==35)
   all_goals
    go_enter func95,ntmps95
    go_wp2_with (go_quiet (fail))
    go_ret;exact⟨by rw[oz,e,j];rfl,dm (Below.refl _ _) _⟩
def dA {b:Type}(R:H)(s:Bs)(c:aW)(w:M)(val:b->Value)(x:Except Er (b × aK × Bs))(e:Ending)(w':M):Prop:=
 match x with
 | .error (r,m)=>e= .panicked (lS (s.length - r.length) m)/\Same (iX R c) w w'
 | .ok (a,f,r)=>e= .returned (val a)/\∃g d,dL w' R s g r d f/\Mv R c d w w'
def lq {b:Type}(R:H)(s:Bs)(c:aW)(n:aK)(w:M)(val:b->Value)(x:Except Er (b × Bs))(e:Ending)(w':M):Prop:=
 match x with
 | .error (r,m)=>e= .panicked (lS (s.length - r.length) m)/\Same (iX R c) w w'
 | .ok (a,r)=>e= .returned (val a)/\∃d,dL w' R s d r c n/\Mv R c c w w'
theorem dL.to {w:M}{r:Bs}{c:aW}{n:aK}(h:dL w R s p l c n)(k:H)(b:l.drop k=r)(d:k<=l.length)(q:H)(e:q=p+k):
  dL (w.setCell ⟨R,1,U⟩ (.int .i64 (q:D))) R s q r c n/\Mv R c c w (w.setCell ⟨R,1,U⟩ (.int .i64 (q:D))):=by
 subst e b;exact h.go k d
theorem dL.drew {w:M}{c:aW}{n:aK}(h:dL w R s p l c n):dL w.drew R s p l c n:=⟨h.x,h.n,h.d,h.le,h.lim⟩
theorem f1 {w:M}{c:aW}{n:aK}(h:dL w R s p l c n)(i:H):w.frozen? ⟨R,i,U⟩=C:=h.x.2.1 i
theorem xQ {c:aW}{n:aK}(w:M)(h:dL w R s p l c n):
  Calls O 105 #[.pointer (L ⟨R,0,U⟩)] w (lq R s c n w (λb:Bool=> .bool b) (dB l)):=by
 have o:=h.c0;have f:=h.c1;have r:=f1 h 1;have S:=h.len;have ε:=h.lim;have γ:=λW=>jg N s p ah W
 rw[h.d] at γ;have hz:=dW s;have ζ:=dW (bg l);have T:=zO l;have t:=J h;have u:=J S;have x:=J T;clear h S T;go_enter func105,ntmps105;go_wp2_with fail;refine aD 11 [(0,0),(1,0),(2,0),(3,0),(4,0),(5,0),(6,0),(7,0),(8,0),(9,2),(10,0)] (λ_=>True) (λX=>X.cell? ⟨R,0,U⟩=L (V ⟨s.toArray⟩)/\X.cell? ⟨R,1,U⟩=L (.int .i64 p)) au au (trivial) (⟨t.q.c0,t.q.c1⟩) ?_;refine qC ?_;refine aG rfl rfl (λK Y=>?_);go_simp;refine(Ip l _).mono ?_;rintro e w2 ⟨rfl,d⟩;have g:=t.q.drew.below d;refine Y _ _ ⟨trivial,g.c0,g.c1⟩ ?_;have i:=J g;have δ:=J d;clear Y K d g o f r;refine qC ?_;refine aH ?_;have d:Below w.1.size w w2:=(Below.refl _ _).drew.trans δ.q;obtain⟨q,Z⟩:∃q:H,q=s.length - (bg l).length:=⟨_,rfl⟩;have η:wrap64 ((s.length:D) - ((bg l).length:D))=(q:D):=by
  have:=u.q;have:=x.q;rw[show(s.length:D) - ((bg l).length:D)=(q:D) by omega];exact IntWalk.wrap64_in _ ah
 have y:=i.q.to (l.length - (bg l).length) (CB l) ah q (by have:=u.q;have:=x.q;omega);have HT:=J y.1;have HM:=J ((Mv.of_below (R:=R) (c:=c) d).trans y.2);have HQ:=J Z;have o:=i.q.c0;have f:=i.q.c1;have r:=f1 i.q 1;have β:dB l=if dO (bg l)=I then .ok (C,bg l) else if q=p then .error (bg l,220) else .ok (I,bg l):=by
  unfold dB;have:=u.q;have:=x.q;by_cases j:dO (bg l)=I
  .rw[aA j,aA j]
  .rw[ay j,ay j]
   by_cases h2:q=p
   .rw[aA h2,aA ah]
   .rw[ay h2,ay ah]
 have z:=J β;clear y Z d β;go_wp2_with fail;refine(AO _ HT.q).mono ?_;rintro e w3 ⟨rfl,A⟩;have F:=J (HT.q.below A);have P:=J (HM.q.trans (Mv.of_below A));clear A o f r;have f:=F.q.c1
 cases Q:dO (bg l)
 .by_cases m:q=p
  .have hb:((q:D)==(p:D))=I:=by simp[m]
   go_wp2_with fail;refine(jS p 220 _).mono ?_;rintro e w4 ⟨rfl,rfl⟩;refine⟨rfl,?_⟩;show lq R s c n w _ _ _ _;rw[z.q,Q,ay ak,aA m];exact⟨by rw[<-HQ.q,m],P.q.same⟩
  .have hb:((q:D)==(p:D))=C:=aN.2 ah
   go_wp2_with fail;go_ret;show lq R s c n w _ _ _ _;rw[z.q,Q,ay ak,ay m];exact⟨rfl,q,F.q,P.q⟩
 .go_wp2_with fail
  go_ret;show lq R s c n w _ _ _ _;rw[z.q,Q,aA rfl];exact⟨rfl,q,F.q,P.q⟩
theorem Iq {c:aW}{n:aK}(w:M)(h:dL w R s p l c n):
  Calls O 157 #[.pointer (L ⟨R,0,U⟩)] w (lq R s c n w (λ_:Unit=> .tuple #[]) (match fu l with| .error x=> .error x| .ok r=> .ok ((),r))):=by
 have u:=J (xQ w h);clear h;obtain⟨X,g⟩:∃X:Except Er (Unit × Bs),X=(match fu l with| .error x=> .error x| .ok r=> .ok ((),r)):=⟨_,rfl⟩;rw[<-g];have i:=J g;clear g;go_enter func157,ntmps157;go_wp2_with fail;refine u.q.mono ?_;rintro e A f
 cases d:dB l with
 |error x=>
  rw[d] at f;obtain⟨rfl,y⟩:=f;refine⟨rfl,?_⟩;show lq R s c n w _ _ _ _;rw[i.q,show fu l= .error x by unfold fu;rw[d]];exact⟨rfl,y⟩
 |ok z=>
  obtain⟨b,r⟩:=z;rw[d] at f;obtain⟨rfl,q,j,m⟩:=f;have o:=J j;have t:=J m;have F:=j.c1;clear j m
  cases b
  .go_wp2_with fail
   refine(jS q 220 _).mono ?_;rintro e K ⟨rfl,rfl⟩;refine⟨rfl,?_⟩;show lq R s c n w _ _ _ _;rw[i.q,show fu l= .error (r,220) by unfold fu;rw[d]];have:=o.q.len;exact⟨by rw[show s.length - r.length=q by omega],t.q.same⟩
  .go_wp2_with fail
   refine bodyPost_end (results_none rfl _ _ _) rfl ?_;show lq R s c n w _ _ _ _;rw[i.q,show fu l= .ok r by unfold fu;rw[d]];exact⟨rfl,q,o.q,t.q⟩
theorem lY {n:H}{w:M}{a b c d:Value}(h:Below n w X):Below n w ((((X.setCell ⟨n,0,U⟩ a).setCell ⟨n,1,U⟩ b).setCell ⟨n,2,U⟩ c).setCell ⟨n,3,U⟩ d):=
 (((h.setCell (p:=⟨n,0,U⟩) (aC _) _).setCell (p:=⟨n,1,U⟩) (aC _) _).setCell (p:=⟨n,2,U⟩) (aC _) _).setCell (p:=⟨n,3,U⟩) (aC _) _
theorem BA (r:D)(w:M):Calls O 107 #[.int .i32 r] w (bT (.bool (rV r)) w):=by
 unfold rV
 cases b:r==32 <;> cases d:r==9
 all_goals
  go_enter func107,ntmps107
  go_wp2
  go_ret;exact⟨rfl,Below.refl _ _⟩
theorem FT:∀args w,(callFunc 107 args).run O w= .ok (.enter 107 args) w:=enters_of func107 au rfl
theorem Um (r:D)(w:M):Calls O 159 #[.int .i32 r] w (bT (.bool (nI r)) w):=by
 unfold nI;by_cases b:32<=r <;> cases d:r==9
 all_goals
  go_enter func159,ntmps159
  go_wp2
  go_ret;exact⟨by simp[b],Below.refl _ _⟩
theorem JL:∀args w,(callFunc 159 args).run O w= .ok (.enter 159 args) w:=enters_of func159 au rfl
theorem rU (p:D->Bool):∀(n:H)(l:Bs),l.length<=n->gB ⟨l.toArray⟩ p<=l.length
 |0,l,h=>by rw[yw (l:=l) ah];exact aC _
 |n+1,l,h=>by
  by_cases b:l=[]
  .subst b;exact aC _
  .rw[iY l p b]
   split
   .have d:=wM l b;have e:=vT l b
    have:=rU p n (l.drop (G ⟨l.toArray⟩ 0).2) (by rw[dY];omega);rw[dY] at this;omega
   .exact aS _
def mg (l:Bs):H:=(l.takeWhile jF).length+if(bg l).head?=L 35 then gB ⟨(bg l).toArray⟩ nI else 0
def rR (l:Bs):Bool:=!((bg l).head?==L 35)||((l.drop (mg l)).head?==U||(l.drop (mg l)).head?==L 10)
theorem Ir (l:Bs):(l.takeWhile jF).length+(bg l).length=l.length:=kJ jF l
theorem oU (s:Bs)(p:H)(l:Bs)(P:s.drop p=l)(hp:p<=s.length)(σ:s.length<=1000000)(w:M)(hT:Lib.Utf8Tabs 7 8 w):
  Calls O 106 #[V ⟨s.toArray⟩,.int .i64 p] w (nE (.int .i64 ((p+mg l:H):D)) (.bool (rR l)) w):=by
 have τ:p+l.length=s.length:=by rw[<-P,dY];omega
 obtain⟨q,j⟩:=kP (p+(l.takeWhile jF).length);have Q:=Ir l;have υ:q<=s.length:=by omega
 have u:s.drop q=bg l:=by rw[j,<-mD,P,qx];rfl
 have μ:=λW=>jg N s p ah W
 rw[P] at μ;have hz:=dW s;have φ:(p:D)+((l.takeWhile jF).length:D)=(q:D):=by omega
 have HT:=J hT;have z:=λW (g:Below w.1.size w W)=>J (rT ⟨l.toArray⟩ 107 #[] FT rV W (λr X _=>BA r X) (Utf8Tabs_below hT g))
 rw[Ox] at z
 cases h:bg l with
 |nil=>
  have x:q=s.length:=by have:=cZ List.length u;rw[dY,h] at this;simp at this;omega
  have o:Hid (mg l=(l.takeWhile jF).length/\rR l=I):=J (by unfold rR mg;rw[h];simp);have ν:((q:D)==(s.length:D))=I:=by simp[x]
  have Y:=J j;have HE:=J x;clear u h Q x j;go_enter func106,ntmps106;go_wp2_with fail;refine(z _ (Below.refl _ _)).q.mono ?_;rintro e Z ⟨rfl,d⟩;have f:=J d;clear d
  go_wp2
  go_ret2
  refine⟨?_,f⟩;rw[o.q.1,o.q.2,<-Y.q];rfl
 |cons b t=>
  have A:s[q]?=L b:=by
   have:=cZ (λl=>l[0]?) u;rw[h] at this
   simpa using this
  have χ:q<s.length:=(bq.1 A).1;have ψ:=λW=>dQ N s q b A W
  have ν:((q:D)==(s.length:D))=C:=aN.2 ah;by_cases g:b.toNat=35
  .have R:b=35:=gD.1 g
   have ξ:((b.toNat:D)==35)=I:=by simp[g]
   obtain⟨m,F⟩:=kP (gB ⟨(bg l).toArray⟩ nI);have β:mg l=(l.takeWhile jF).length+m:=by unfold mg;rw[aA (by rw[h,R];rfl),<-F]
   have θ:m<=(bg l).length:=by rw[F];exact rU _ _ _ (aC _)
   obtain⟨i,γ⟩:=kP (q+m);have ω:(q:D)+(m:D)=(i:D):=by omega
   have Γ:i<=s.length:=by omega
   have S:s.drop i=l.drop (mg l):=by
    have e:mg l=(l.takeWhile jF).length+m:=β;rw[e,γ,j,<-P,mD,Nat.add_assoc]
   have o:Hid (p+mg l=i):=J ah;have ο:=λW=>jg N s q ah W
   rw[u] at ο;have δ:=λW (g:Below w.1.size w W)=>J (rT ⟨(bg l).toArray⟩ 159 #[] JL nI W (λr X _=>Um r X) (Utf8Tabs_below HT g))
   rw[<-F] at δ;have ι:Hid (rR l=((l.drop (mg l)).head?==U||(l.drop (mg l)).head?==L 10)):=J (by unfold rR;rw[h,R];rfl)
   cases y:l.drop (mg l) with
   |nil=>
    have x:i=s.length:=by have:=cZ List.length S;rw[dY,y] at this;simp at this;omega
    have π:((i:D)==(s.length:D))=I:=by simp[x]
    have T:Hid (rR l=I):=J (by rw[ι.q,y];rfl);clear β u h Q j A g R F θ γ S x y;go_enter func106,ntmps106;go_wp2_with fail;refine(z _ (Below.refl _ _)).q.mono ?_;rintro e Z ⟨rfl,d⟩;have f:=J d;clear d;go_wp2_with fail;refine(δ _ f.q).q.mono ?_;rintro e w2 ⟨rfl,ε⟩;have ζ:=J (f.trans (ε.mono f.size))
    go_wp2_with (go_quiet (fail))
    go_ret2
    exact⟨by rw[o.q,T.q];rfl,dm ζ _⟩
   |cons K t2=>
    have η:s[i]?=L K:=by
     have:=cZ (λl=>l[0]?) S;rw[y] at this
     simpa using this
    have Δ:i<s.length:=(bq.1 η).1;have Θ:=λW=>dQ N s i K η W
    have π:((i:D)==(s.length:D))=C:=aN.2 ah;have T:Hid (rR l=((K.toNat:D)==10)):=J (by rw[ι.q,y];show(K==10)=_;rw[JJ];rfl);clear β u h Q j A g R F θ γ S y η
    cases ρ:((K.toNat:D)==10)
    all_goals
     rw[ρ] at T;go_enter func106,ntmps106;go_wp2_with fail;refine(z _ (Below.refl _ _)).q.mono ?_;rintro e Z ⟨rfl,d⟩;have f:=J d;clear d;go_wp2_with fail;refine(δ _ f.q).q.mono ?_;rintro e w2 ⟨rfl,ε⟩;have ζ:=J (f.trans (ε.mono f.size))
     go_wp2_with (go_quiet (fail))
     go_ret2
     exact⟨by rw[o.q,T.q];rfl,dm ζ _⟩
  .have ξ:((b.toNat:D)==35)=C:=aN.2 ah
   have κ:¬b=35:=λe=>g (by rw[e];rfl)
   have o:Hid (mg l=(l.takeWhile jF).length/\rR l=I):=J (by unfold rR mg;rw[h];simp[κ]);have Y:=J j;clear u h Q j A g κ;go_enter func106,ntmps106;go_wp2_with fail;refine(z _ (Below.refl _ _)).q.mono ?_;rintro e Z ⟨rfl,d⟩;have f:=J d;clear d
   go_wp2
   go_ret2
   refine⟨?_,f⟩;rw[o.q.1,o.q.2,<-Y.q];rfl
theorem CF (s:ByteArray):∀(n p:H),∀x∈bH s n p,p<=x
 |0,_,_,h=>by simp[bH] at h
 |n+1,p,x,h=>by
  simp only[bH] at h
  split at h
  .rcases dP.1 h with rfl|h
   .exact aC _
   .exact cO (Nat.le_add_right _ _) (CF s n _ x h)
  .cases h
theorem filter_all (p:β->Bool)(l:List β)(h:∀x∈l,p x=I):l.filter p=l:=List.filter_eq_self.2 h
theorem Eg (p:β->Bool)(l:List β)(h:∀x∈l,p x=C):l.filter p=[]:=List.filter_eq_nil_iff.2 (λx b=>by rw[h x b];simp)
theorem Rh (u:Bs)(γ:u.length<=1000000)(w:M):Calls O 112 #[V ⟨u.toArray⟩] w (bT (.int .i64 (iE u:D)) w):=by
 obtain⟨X,z⟩:=kP (iE u);rw[<-z];have m:=dW u;have A:Hid (X=(((bH ⟨u.toArray⟩ u.length 0).filter (λi=>decide (i<=24))).getLast?).getD 0):=J z;go_enter func112,ntmps112
 go_wp2
 go_loopw [3] (λv wr=>∃(b j:H)(h:List H),v= .int .i64 (h.getLast?.getD 0:H)/\h++bH ⟨u.toArray⟩ j b=bH ⟨u.toArray⟩ u.length 0/\(∀x∈h,x<=24)/\u.length<=b+j/\b<=2000000/\wr.1[w.1.size]?=L (.stringIter ⟨u.toArray⟩ b)/\Below w.1.size w wr) (λ_ wr=>u.length - wr.iterPos w.1.size)
 case atStart=>exact⟨0,u.length,[],rfl,rfl,by simp,by omega,by omega,World.iter_heap w ⟨u.toArray⟩ 0,iN w ⟨u.toArray⟩⟩
 case round=>
  obtain⟨b,j,h,rfl,r,s,δ,ε,o,t⟩:=hrel;by_cases p:b<u.length
  .have F:∀l,(Instr.next (.pointer (L ⟨w.1.size,0,U⟩)) I l).run O wr=_:=λl=>Lib.run_next_any_at wr w.1.size ⟨u.toArray⟩ b l o (by rw[m];exact p)
   have Z:=width_pos ⟨u.toArray⟩ b (by rw[m];exact p);obtain⟨d,q⟩:=kP ((G ⟨u.toArray⟩ b).2);have ζ:d<=u.length - b:=by
    have:=vT (u.drop b) (by intro e;have:=cZ List.length e;rw[dY] at this;simp at this;omega);rw[<-ow,<-q,dY] at this;exact this
   rw[<-q] at F Z;obtain⟨f,rfl⟩:∃f,j=f+1:=⟨j - 1,by omega⟩;have K:bH ⟨u.toArray⟩ (f+1) b=b::bH ⟨u.toArray⟩ f (b+d):=by simp[bH,m,p,q]
   have P:=Lib.iterAt_heap wr w.1.size ⟨u.toArray⟩ b (b+d) o;have Q:=Lib.below_iterAt t (k:=w.1.size) (aC _) ⟨u.toArray⟩ (b+d);have HI:=J o;have R:=J P;have S:=J Q;have T:=J (K▸r);have W:=J s;clear o P t Q K r s q;by_cases Y:b<=24
   .have β:decide ((24:D)<(b:D))=C:=bn ah
    go_wp2
    go_roundw
    case rel=>exact⟨b+d,f,h++[b],by simp,by rw[<-T.q];simp,λx g=>by
     rcases cu.1 g with g|g
     .exact W x g
     .obtain rfl:x=b:=by simpa using g
      exact Y,by omega,by omega,R,S⟩
    case measure=>rw[iterPos_of R.q,iterPos_of HI.q];omega
   .have β:decide ((24:D)<(b:D))=I:=bG ah
    have y:Hid (X=h.getLast?.getD 0):=J (by
     rw[A.q,<-T.q,List.filter_append,filter_all _ h (λx g=>by simpa using W.q x g),Eg _ _ (λx g=>?_),eG];rcases dP.1 g with rfl|g
     .simpa using Y
     .have:=CF _ _ _ x g;simp;omega)
    go_wp2
    go_ret;exact⟨by rw[y.q];rfl,S⟩
  .have F:∀l,(Instr.next (.pointer (L ⟨w.1.size,0,U⟩)) I l).run O wr=_:=λl=>Lib.run_next_end_at wr w.1.size ⟨u.toArray⟩ b l o (by rw[m];exact p)
   have y:Hid (X=h.getLast?.getD 0):=J (by
    have e:bH ⟨u.toArray⟩ j b=[]:=by cases j <;> simp[bH,m,p]
    rw[A.q,<-r,e,eG,filter_all _ h (λx g=>by simpa using s x g)])
   have HB:=J t
   go_wp2
   go_ret;exact⟨by rw[y.q];rfl,HB⟩
theorem Un (a b c:UInt8)(r:List UInt8):ByteArray.extract ⟨⟨a::b::c::r⟩⟩ 0 3=⟨#[a,b,c]⟩:=by
 apply ByteArray.ext
 simp[ByteArray.data_extract]
theorem Ri (a b c:UInt8):ByteArray.toList ⟨#[a,b,c]⟩=[a,b,c]:=by
 unfold ByteArray.toList;rw[ByteArray.toList.loop,aA (by show 0<3;decide),ByteArray.toList.loop,aA (by show 1<3;decide),ByteArray.toList.loop,aA (by show 2<3;decide),ByteArray.toList.loop,ay (by show ¬3<3;decide)]
 rfl
theorem QC (s:ByteArray)(d:3<=s.size)(h:¬s.extract 0 3=⟨#[239,191,189]⟩):((s.extract 0 3).toList==[239,191,189])=C:=by
 obtain⟨⟨l⟩⟩:=s
 match l,d with
 |a::b::c::r,_=>
  rw[Un] at h ⊢;rw[Ri];refine aN.2 (λe=>h ?_);simp only[List.cons.injEq,and_true] at e;rw[e.1,e.2.1,e.2.2]
theorem ND (s:ByteArray)(e:3<=s.size)(d:(G s 0).1=65533):(G s 0).2=3↔s.extract 0 3=⟨#[239,191,189]⟩:=by
 obtain⟨⟨l⟩⟩:=s
 match l,e with
 |a::b::c::r,_=>
  have ha:ByteArray.get! ⟨⟨a::b::c::r⟩⟩ (0+0)=a:=rfl;have j:ByteArray.get! ⟨⟨a::b::c::r⟩⟩ (0+1)=b:=rfl;have m:ByteArray.get! ⟨⟨a::b::c::r⟩⟩ (0+2)=c:=rfl;have A:=a.toNat_lt;have F:=b.toNat_lt;have K:=c.toNat_lt;have o:ByteArray.size ⟨⟨a::b::c::r⟩⟩=r.length+3:=rfl;rw[Un];have p:((⟨#[a,b,c]⟩:ByteArray)=⟨#[239,191,189]⟩)↔(a.toNat=239/\b.toNat=191/\c.toNat=189):=by
   constructor
   .intro h
    injection h with h;simp at h;obtain⟨rfl,rfl,rfl⟩:=h
    decide
   .rintro⟨f,g,e⟩
    have q:a=239:=gD.1 f;have t:b=191:=gD.1 g;have u:c=189:=gD.1 e;rw[q,t,u]
  rw[p]
  constructor
  .intro h
   unfold G at h d;simp only[ha,j,m] at h d
   split at h
   .simp at h
   rename_i x
   rw[ay x] at d
   split at h
   .split at h <;> simp at h
   rename_i y
   rw[ay y] at d
   split at h
   .rename_i i
    rw[aA i] at d
    split at h
    .rename_i z
     rw[aA z] at d;simp only[bD,bO,beq_iff_eq] at i d;omega
    .simp at h
   rename_i i
   split at h
   .split at h <;> simp at h
   .simp at h
  .rintro⟨f,g,e⟩
   unfold G;simp only[ha,j,m,f,g,e,o];simp[Utf8.valid]
theorem CG (c:H)(hc:c<=1114111)(i:¬(55296<=c/\c<=57343)):Utf8.encode (c:D)=⟨(Lib.encodeRune (c:D)).toArray⟩:=by
 have g:Utf8.valid (c:D)=I:=by simp[Utf8.valid];omega
 unfold Utf8.encode Lib.encodeRune;simp only[g,dG,gF];have b:∀(z:D)(n:H),z=(n:D)->z.toNat.toUInt8=UInt8.ofNat n:=λz n h=>by subst h;simp
 by_cases d:c<128
 .rw[aA d,Lib.encodeRuneZ_one ah ah]
  simp only[kW,lW,b _ c rfl]
 rw[ay d];by_cases e:c<2048
 .rw[aA e,Lib.encodeRuneZ_two ah ah]
  simp only[kW,lW,b (192+(c:D) / 64) (192+c / 64) ah,b (128+(c:D) % 64) (128+c % 64) ah]
 rw[ay e];by_cases f:c<65536
 .rw[aA f,Lib.encodeRuneZ_three ah]
  simp only[kW,lW,b (224+(c:D) / 4096) (224+c / 4096) ah,b (128+(c:D) / 64 % 64) (128+c / 64 % 64) ah,b (128+(c:D) % 64) (128+c % 64) ah]
 .rw[ay f,Lib.encodeRuneZ_four ah ah]
  simp only[kW,lW,b (240+(c:D) / 262144) (240+c / 262144) ah,b (128+(c:D) / 4096 % 64) (128+c / 4096 % 64) ah,b (128+(c:D) / 64 % 64) (128+c / 64 % 64) ah,b (128+(c:D) % 64) (128+c % 64) ah]
theorem FU (h:okB ⟨l.toArray⟩ 0=I):¬((G ⟨l.toArray⟩ 0).1=65533/\(G ⟨l.toArray⟩ 0).2=1):=by
 rintro⟨b,d⟩;unfold okB at h;rw[b,d] at h;simp at h
theorem JG (l:Bs)(m:l≠[])(h:okB ⟨l.toArray⟩ 0=I):
  Utf8.encode ((G ⟨l.toArray⟩ 0).1:D)=⟨(l.take (G ⟨l.toArray⟩ 0).2).toArray⟩/\G ⟨(l.take (G ⟨l.toArray⟩ 0).2).toArray⟩ 0=G ⟨l.toArray⟩ 0/\(G ⟨l.toArray⟩ 0).2<=4:=by
 have y:0<l.length:=List.length_pos_iff.2 m;have f:=vT l m;have g:=Lib.encode_decode l m (FU h);have s:G ⟨l.toArray⟩ 0=Lib.decodeL l:=rfl;have t:∀u:Bs,G ⟨u.toArray⟩ 0=Lib.decodeL u:=λ_=>rfl
 have b:∀(n k:H),k<n->(l.take n).getD k 0=l.getD k 0:=λn k h=>by simp[List.getD,h]
 have p:=FU h;rw[s] at f p ⊢;rw[t];rw[Lib.decodeL_N (l.take _)];have d:=Lib.decodeL_N l;rcases Lib.decodeN_shape l.length (l.getD 0 0).toNat (l.getD 1 0).toNat (l.getD 2 0).toNat (l.getD 3 0).toNat with⟨c,e⟩|⟨i,q,j,r,e⟩|⟨i,q,j,o,r,z,e⟩|⟨i,q,j,o,x,r,A,e⟩|e
 .rw[e] at d
  rw[d] at f g ⊢;refine⟨by rw[CG _ (by simp only[];omega) (by simp only[];omega),g],?_,by simp⟩;simp only[dJ];rw[b 1 0 ah];unfold Lib.decodeN;rw[aA c]
 .rw[e] at d
  rw[d] at f g ⊢;simp only at f;refine⟨by rw[CG _ (by simp only[];omega) (by simp only[];omega),g],?_,by simp⟩;simp only[dJ];rw[b 2 0 ah,b 2 1 ah,wJ ah];unfold Lib.decodeN;rw[ay ah,aA ⟨i,by omega,j⟩,aA ah]
 .rw[e] at d
  rw[d] at f g ⊢;simp only at f;refine⟨by rw[CG _ (by simp only[];omega) (by simp only[];omega),g],?_,by simp⟩;simp only[dJ];rw[b 3 0 ah,b 3 1 ah,b 3 2 ah,wJ ah];unfold Lib.decodeN;rw[ay ah,ay ah,aA ⟨i,⟨by omega,j⟩,⟨by omega,o⟩⟩,aA ah]
 .rw[e] at d
  rw[d] at f g ⊢;simp only at f;refine⟨by rw[CG _ (by simp only[];omega) (by simp only[];omega),g],?_,by simp⟩;simp only[dJ];rw[b 4 0 ah,b 4 1 ah,b 4 2 ah,b 4 3 ah,wJ ah];unfold Lib.decodeN;rw[ay ah,ay ah,ay ah,aA ⟨i,⟨by omega,j⟩,⟨by omega,o⟩,⟨by omega,x⟩⟩,aA ah]
 .exfalso
  rw[e] at d;exact p (by rw[d];exact⟨rfl,rfl⟩)
@[reducible] def aF (k a:D)(t:Bs)(g:Bool):Array Value:=#[.int .i64 k,.int .i64 a,V ⟨t.toArray⟩,.bool g]
theorem GQ (h:bY (b::t)=I):b.toNat≠32/\b.toNat≠9/\b.toNat≠10/\b.toNat≠35/\b.toNat≠46/\b.toNat≠45/\¬(48<=b.toNat/\b.toNat<=57):=by
 rcases jk b.toNat 128 with d|d
 .unfold bY at h
  rw[nM b t d] at h;simp only[fF,bD,tZ,bO] at h;have:=h.2.2;omega
 .omega
theorem JM (h:bY l=I):1<=bB l/\l≠[]:=by
 unfold bY at h;simp only[bD] at h;obtain⟨d,f,g⟩:=h;have b:l≠[]:=by intro e;rw[e] at d;simp at d
 refine⟨?_,b⟩;unfold bB;rw[iY l iA b,aA (by simp[f,iA,g])];have:=wM l b;omega
def EO (k a:D)(t:Bs)(b:H)(d:D)(w:M)(e:Ending)(w':M):Prop:=∃g:Bool,e= .returned (.tuple #[.agg (aF k a t g),.int .i64 b,.int .i64 d])/\Below w.1.size w w'
theorem zM (h:jF b=C)(d:b.toNat≠35):mg (b::t)=0/\rR (b::t)=I:=by
 have e:bg (b::t)=b::t:=by unfold bg;rw[AP,h];rfl
 have f:(b::t).takeWhile jF=[]:=by rw[jB,h];rfl
 have g:¬b=35:=λe=>d (by rw[e];rfl)
 unfold rR mg;rw[e,f];simp[g]
theorem FM (d:b.toNat≠32)(e:b.toNat≠9):jF b=C:=by
 rw[<-uw];unfold rV;rw[aN.2 ah,aN.2 ah];rfl
theorem yU (u:Bs):iE u<=24:=by
 unfold iE
 cases h:(List.filter (λi=>decide (i<=24)) (bH ⟨u.toArray⟩ u.length 0)).getLast? with
 |none=>simp
 |some x=>
  have:=List.mem_of_getLast? h
  simpa using(List.mem_filter.1 this).2
theorem Io (s:Bs)(p:H)(l:Bs)(S:s.drop p=l)(hp:p<=s.length)(χ:s.length<=1000000)(P:bY l=I)(w:M)(hT:Lib.Utf8Tabs 7 8 w):
  Calls O 42 #[V ⟨s.toArray⟩,.int .i64 p] w (λe w'=>if 24<bB l then EO 0 0 [] (p+iE (l.take (bB l))) 120 w e w' else EO 1 p (l.take (bB l)) (p+bB l) 0 w e w'):=by
 obtain⟨ψ,ο⟩:=JM P;obtain⟨b,t,rfl⟩:∃b t,l=b::t:=by cases l with
  |nil=>exact absurd rfl ο
  |cons b t=>exact⟨b,t,rfl⟩
 obtain⟨π,n9,ω,ρ,Γ,Δ,Θ⟩:=GQ P;have σ:p+(b::t).length=s.length:=by rw[<-S,dY];omega
 have β:=J (zM (t:=t) (FM π n9) ρ);have HS:=λW (P:Below w.1.size w W)=>J (oU s p (b::t) S hp χ W (Utf8Tabs_below hT P))
 have Ξ:=λW=>jg N s p hp W
 rw[S] at Ξ;obtain⟨n,T⟩:∃n,n=bB (b::t):=⟨_,rfl⟩;have HW:=λW (P:Below w.1.size w W)=>J (rT ⟨(b::t).toArray⟩ 111 #[] Du iA W (λr W' _=>yD r W') (Utf8Tabs_below hT P))
 rw[show gB ⟨(b::t).toArray⟩ iA=n from T.symm] at HW;have Φ:n<=(b::t).length:=by rw[T];exact rU _ _ _ (aC _)
 have j2:=λW=>uY N (b::t) n Φ W
 have j3:∀W,(Instr.index 9 (V ⟨(b::t).toArray⟩) (.int .i64 0)).run O W= .ok (.int .u8 (b.toNat:D)) W:=λW=>dQ N (b::t) 0 b rfl W
 have hz:=dW s;have j4:=dW (b::t);rw[<-T] at ψ ⊢;have j5:((b.toNat:D)==10)=C:=aN.2 ah;have j6:((b.toNat:D)==46)=C:=aN.2 ah;have j7:((b.toNat:D)==45)=C:=aN.2 ah;have e0:((n:D)==0)=C:=aN.2 ah;have j8:wrap32 (b.toNat:D)=(b.toNat:D):=IntWalk.wrap32_in _ (by have:=b.toNat_lt;omega);have γ:eu (b.toNat:D)=C:=by unfold eu;simp;omega
 have j9:((b::t)==([]:Bs))=C:=rfl;have HT:=J hT;have HD:=J S;have HN:=J T;have Ψ:=J σ;clear hT S T ο P π n9 ω ρ Γ Δ Θ σ;by_cases δ:24<n
 case' pos=>
  have Ω:decide ((24:D)<(n:D))=I:=bG ah;simp only[aA δ];obtain⟨q,X⟩:∃q,q=p+iE ((b::t).take n):=⟨_,rfl⟩;have q0:=yU ((b::t).take n);have q1:(p:D)+(iE ((b::t).take n):D)=(q:D):=by omega
  have q2:q<=2000000:=by omega
  rw[<-X];clear X q0 δ
 case' neg=>
  have Ω:decide ((24:D)<(n:D))=C:=bn ah;simp only[ay δ];obtain⟨q,X⟩:∃q,q=p+n:=⟨_,rfl⟩;have q1:(p:D)+(n:D)=(q:D):=by omega
  have q2:q<=2000000:=by omega
  have z0:ByteArray.size ⟨((b::t).take n).toArray⟩=n:=by rw[dW,dJ];omega
  rw[<-X];clear X δ
 all_goals
  by_cases τ:p=0
  case' pos=>
   have q3:decide ((0:D)<(p:D))=C:=bn ah;have q4:decide (0<p)=C:=bn ah;clear τ;go_enter Tryz.func42,Tryz.ntmps42;go_wp2_with fail;refine(HS _ (aB (Below.refl _ _) _)).q.mono ?_;rintro e w1 ⟨rfl,Q⟩;have g:=J ((aB (Below.refl w.1.size w) (.cells (aF 0 0 [] C) 79)).trans (Q.mono ak));have i:=J ((Bx.new w (aF 0 0 [] C) 79).keep Q);clear Q;rw[β.q.1,β.q.2,bK];go_wp2_with fail;refine(kT _ _).mono ?_;rintro e w3 ⟨rfl,f⟩;rw[γ];obtain⟨m,u⟩:∃m:Bool,C=m:=⟨_,rfl⟩;have o:=J ((Bx.new w1 (aF 0 p [] C) 79).keep f);rw[u] at o;have j:=J (show w.1.size<w1.1.size from i.q.2.2);have R:=J ((aB g.q (.cells (aF 0 p [] C) 79)).trans (f.mono (by have:=g.q.size;simp;omega)));have Y:=J ((i.q.alloc (.cells (aF 0 p [] C) 79)).keep f);obtain⟨d,x⟩:∃d,d=w1.1.size:=⟨_,rfl⟩;rw[<-x] at o j ⊢;clear f x u
  case' neg=>
   have q3:decide ((0:D)<(p:D))=I:=bG ah;have q4:decide (0<p)=I:=bG ah;obtain⟨y,υ⟩:∃y,s[p - 1]?=L y:=⟨_,dM ah⟩;have q5:=λW=>dQ N s (p - 1) y υ W
   rw[show((p - 1:H):D)=(p:D) - 1 by omega] at q5;have z1:wrap32 (y.toNat:D)=(y.toNat:D):=IntWalk.wrap32_in _ (by have:=y.toNat_lt;omega);clear υ τ;go_enter Tryz.func42,Tryz.ntmps42;go_wp2_with fail;refine(HS _ (aB (Below.refl _ _) _)).q.mono ?_;rintro e w1 ⟨rfl,Q⟩;have g:=J ((aB (Below.refl w.1.size w) (.cells (aF 0 0 [] C) 79)).trans (Q.mono ak));have i:=J ((Bx.new w (aF 0 0 [] C) 79).keep Q);clear Q;rw[β.q.1,β.q.2,bK];go_wp2_with fail;refine(BA _ _).mono ?_;rintro e z ⟨rfl,A⟩
   cases z2:rV (y.toNat:D)
   case' false=>
    cases φ:((y.toNat:D)==10)
    case' false=>
     have q6:((y.toNat:D)!=10)=I:=by rw[bne,φ];rfl
     replace g:=J (g.q.bL A);replace i:=J (i.q.keep A)
     clear A;go_wp2_with fail;refine(kT _ _).mono ?_;rintro e w3 ⟨rfl,f⟩;rw[γ];obtain⟨m,u⟩:∃m:Bool,I=m:=⟨_,rfl⟩;have o:=J ((Bx.new z (aF 0 p [] I) 79).keep f);rw[u] at o;have j:=J (show w.1.size<z.1.size from i.q.2.2);have R:=J ((aB g.q (.cells (aF 0 p [] I) 79)).trans (f.mono (by have:=g.q.size;simp;omega)));have Y:=J ((i.q.alloc (.cells (aF 0 p [] I) 79)).keep f);obtain⟨d,x⟩:∃d,d=z.1.size:=⟨_,rfl⟩;rw[<-x] at o j ⊢;clear f x u
    case' true=>
     have q6:((y.toNat:D)!=10)=C:=by rw[bne,φ];rfl
     replace g:=J (g.q.bL A);replace i:=J (i.q.keep A)
     clear A;go_wp2_with fail;refine(kT _ _).mono ?_;rintro e w3 ⟨rfl,f⟩;rw[γ];obtain⟨m,u⟩:∃m:Bool,C=m:=⟨_,rfl⟩;have o:=J ((Bx.new z (aF 0 p [] C) 79).keep f);rw[u] at o;have j:=J (show w.1.size<z.1.size from i.q.2.2);have R:=J ((aB g.q (.cells (aF 0 p [] C) 79)).trans (f.mono (by have:=g.q.size;simp;omega)));have Y:=J ((i.q.alloc (.cells (aF 0 p [] C) 79)).keep f);obtain⟨d,x⟩:∃d,d=z.1.size:=⟨_,rfl⟩;rw[<-x] at o j ⊢;clear f x u
   case' true=>
    replace g:=J (g.q.bL A);replace i:=J (i.q.keep A)
    clear A;go_wp2_with fail;refine(kT _ _).mono ?_;rintro e w3 ⟨rfl,f⟩;rw[γ];obtain⟨m,u⟩:∃m:Bool,C=m:=⟨_,rfl⟩;have o:=J ((Bx.new z (aF 0 p [] C) 79).keep f);rw[u] at o;have j:=J (show w.1.size<z.1.size from i.q.2.2);have R:=J ((aB g.q (.cells (aF 0 p [] C) 79)).trans (f.mono (by have:=g.q.size;simp;omega)));have Y:=J ((i.q.alloc (.cells (aF 0 p [] C) 79)).keep f);obtain⟨d,x⟩:∃d,d=z.1.size:=⟨_,rfl⟩;rw[<-x] at o j ⊢;clear f x u
 all_goals
  go_wp2_with fail;refine(HW _ R.q).q.mono ?_;rintro e w4 ⟨rfl,ε⟩;have ζ:=J (R.q.bL ε);have ι:=J (Y.q.keep ε);have η:=J (o.q.keep ε);clear ε R Y o
  first
  |go_wp2_with fail
   refine(Rh _ (by rw[dJ];have:=Ψ.q;omega) _).mono ?_;rintro e w5 ⟨rfl,κ⟩;have μ:=ι.q.keep κ;have θ:=J (ζ.q.bL κ);have q7:=μ.1;have z3:=μ.2.1;clear μ κ;go_wp2_with fail;refine bodyPost_ret (v:= .tuple #[.agg (aF 0 0 [] C),.int .i64 (q:D),.int .i64 120]) (by simp[results,results42,go_sem,q7]) rfl ⟨C,rfl,?_⟩;exact lY θ.q
  |have q8:=η.q.1;have q9:=η.q.2.1
   go_wp2_with fail;refine aD 99 [(0,0),(1,0),(2,0),(3,0),(4,2),(5,0),(6,2)] (λ_=>True) (λ_=>True) au au (trivial) (trivial) ?_;refine qC ?_;refine aG rfl rfl (λK F=>?_);go_simp;refine F _ _ ⟨trivial,trivial⟩ ?_;clear F K;refine qC ?_;refine aG rfl rfl (λK F=>?_);go_simp;refine F _ _ ⟨trivial,trivial⟩ ?_;clear F K;refine aH ?_;have ν:=J (((η.q.aX 0 ak (.int .i64 1)).aX 2 ak (V ⟨((b::t).take n).toArray⟩)).drew);have ξ:=J (((ι.q.setOther d 0 (.int .i64 1) (by have:=j.q;omega)).setOther d 2 (V ⟨((b::t).take n).toArray⟩) (by have:=j.q;omega)).drew);have θ:=J (((ζ.q.setCell (p:=⟨d,0,U⟩) (by have:=j.q;show _<=d;omega) (.int .i64 1)).setCell (p:=⟨d,2,U⟩) (by have:=j.q;show _<=d;omega) (V ⟨((b::t).take n).toArray⟩)).drew);generalize((w4.setCell ⟨d,0,U⟩ (.int .i64 1)).setCell ⟨d,2,U⟩ (V ⟨((b::t).take n).toArray⟩)).drew=Z at ν ξ θ ⊢;clear q8 q9 ι η ζ;have j0:=ξ.q.1;have z4:=ξ.q.2.1;go_wp2_with fail;refine aD 99 [(0,0),(1,0),(2,0),(3,0),(4,0),(5,0),(6,2),(7,0),(8,0)] (λ_=>True) (λW'=>Bx W' d (aF 1 p ((b::t).take n) m)) au au (trivial) (ν.q.drew) ?_;refine qC ?_;refine aG rfl rfl (λK F=>?_);go_simp;refine F _ _ ⟨trivial,(((ν.q.drew.setOther w.1.size 0 _ (by have:=j.q;omega)).setOther w.1.size 1 _ (by have:=j.q;omega)).setOther w.1.size 2 _ (by have:=j.q;omega)).setOther w.1.size 3 _ (by have:=j.q;omega)⟩ ?_;clear F K;refine qC ?_;refine aH ?_;go_wp2_with fail;have j1:IntKind.i64.wrap (q:D)=(q:D):=Go.IntWalk.i64_in (q:D) ah;refine bodyPost_ret (v:= .tuple #[.agg (aF 1 p ((b::t).take n) m),.int .i64 (q:D),.int .i64 0]) (by simp[results,results42,go_sem,j0,j1]) rfl ⟨m,rfl,?_⟩;exact lY (θ.q.drew)
theorem Dv (q:UInt8->Bool):∀(l:Bs)(k:H)(b:UInt8),(∀x∈l.take k,q x=I)->l[k]?=L b->q b=C->l.takeWhile q=l.take k
 |[],_,_,_,h,_=>by simp at h
 |a::t,0,b,_,h,d=>by
  obtain rfl:a=b:=by simpa using h
  rw[jB,d];rfl
 |a::t,k+1,b,ha,h,d=>by
  rw[jB,ha a ak,aA rfl,List.take_succ_cons,Dv q t k b (λx e=>ha x (by simp[e])) (by simpa using h) d]
theorem LF (q:UInt8->Bool)(l:Bs)(h:∀x∈l,q x=I):l.takeWhile q=l:=by
 induction l with
 |nil=>rfl
 |cons a t b=>rw[jB,h a ak,aA rfl,b (λx d=>h x (by simp[d]))]
theorem Dw (b:UInt8):oI b=((decide (b.toNat=46)||decide (b.toNat=95))||(decide (48<=b.toNat) && decide (b.toNat<=57))||(decide (97<=b.toNat) && decide (b.toNat<=122))||(decide (65<=b.toNat) && decide (b.toNat<=90))):=by
 have e:∀c:UInt8,(b==c)=decide (b.toNat=c.toNat):=λc=>by
  by_cases h:b=c
  .simp[h]
  .rw[aN.2 h,bn (λe=>h (gD.1 e))]
 unfold oI;rw[e 46,e 95];rfl
theorem JN {c:aW}{n:aK}(w:M)(h:dL w R s p l c n):
  Calls O 152 #[.pointer (L ⟨R,0,U⟩)] w (bT (V ⟨(fO l).toArray⟩) w):=by
 have c0:=h.c0;have c1:=h.c1;have ο:=h.len;have π:=h.lim;have ζ:=λW=>jg N s p ah W
 rw[h.d] at ζ;have τ:l.length<=1000000:=by omega
 clear h ο π;go_enter func152,ntmps152
 go_wp2_with (go_quiet (fail))
 clear ζ c0 c1
 go_loopw [] (λwr=>∃k:H,k<=l.length/\wr.1[w.1.size]?=L (.stringIter ⟨l.toArray⟩ k)/\Below w.1.size w wr/\∀x∈l.take k,oI x=I) (λwr=>l.length - wr.iterPos w.1.size)
 case atStart=>exact⟨0,aS _,World.iter_heap (w.drewN _) ⟨l.toArray⟩ 0,dm (Below.refl _ _) _|>.trans (iN (w.drewN _) ⟨l.toArray⟩),by simp⟩
 case round=>
  obtain⟨k,hk,Q,Y,S⟩:=hrel;by_cases hp:k<l.length
  .obtain⟨b,t,β⟩:∃b t,l.drop k=b::t:=⟨_,_,jV hp⟩
   have γ:∀g,(Instr.next (.pointer (L ⟨w.1.size,0,U⟩)) I g).run O wr=_:=λg=>Lib.run_next_any_at wr w.1.size ⟨l.toArray⟩ k g Q (by rw[dW];exact hp)
   have δ:=ow l k;rw[β] at δ;rw[δ] at γ;have η:l[k]?=L b:=by
    have:=cZ (λl=>l[0]?) β
    simpa using this
   obtain⟨r,d,i,Z⟩:∃(r:D)(d:H),r=((G ⟨(b::t).toArray⟩ 0).1:D)/\d=(G ⟨(b::t).toArray⟩ 0).2:=⟨_,_,rfl,rfl⟩;have θ:(b.toNat<128/\r=b.toNat/\d=1)\/(128<=b.toNat/\128<=r):=by
    rcases jk b.toNat 128 with e|e
    .rw[nM b t e] at i Z;exact .inl ⟨e,i,Z⟩
    .have:=(vS b t e).1;exact .inr ⟨e,by omega⟩
   rw[<-i,<-Z] at γ;have ι:=Lib.iterAt_heap wr w.1.size ⟨l.toArray⟩ k (k+d) Q;have κ:=Lib.below_iterAt Y (k:=w.1.size) (aC _) ⟨l.toArray⟩ (k+d);have ε:=J θ;have μ:=J S;have ν:=J η;have j:=J κ;have ξ:=J ι;have ρ:=J Q;have υ:=λW=>uY N l k ah W
   have σ:r=46\/r=95\/(48<=r/\r<=57)\/(97<=r/\r<=122)\/(65<=r/\r<=90)\/r<46\/r=47\/(57<r/\r<65)\/(90<r/\r<95)\/r=96\/122<r:=by omega
   clear θ S η κ ι Y δ i Z β Q;have T:Hid ((r=46\/r=95\/(48<=r/\r<=57)\/(97<=r/\r<=122)\/(65<=r/\r<=90))->∃k':H,k'<=l.length/\(wr.iterAt w.1.size ⟨l.toArray⟩ (k+d)).1[w.1.size]?=L (.stringIter ⟨l.toArray⟩ k')/\Below w.1.size w (wr.iterAt w.1.size ⟨l.toArray⟩ (k+d))/\∀x∈l.take k',oI x=I):=J (λi=>by
    rcases ε.q with⟨e,f,h3⟩|⟨e,f⟩
    .refine⟨k+d,by omega,ξ.q,j.q,λx m=>?_⟩
     rw[h3,eD,ν.q] at m;rcases cu.1 m with m|m
     .exact μ.q x m
     .obtain rfl:x=b:=by simpa using m
      rw[Dw];simp only[tZ,bD,bO];omega
    .exfalso;omega)
   have X:Hid ((r=46\/r=95\/(48<=r/\r<=57)\/(97<=r/\r<=122)\/(65<=r/\r<=90))->l.length - (wr.iterAt w.1.size ⟨l.toArray⟩ (k+d)).iterPos w.1.size<l.length - wr.iterPos w.1.size):=J (λi=>by
    rcases ε.q with⟨e,f,h3⟩|⟨e,f⟩
    .rw[iterPos_of ξ.q,iterPos_of ρ.q];omega
    .exfalso;omega)
   have o:Hid (¬(r=46\/r=95\/(48<=r/\r<=57)\/(97<=r/\r<=122)\/(65<=r/\r<=90))->fO l=l.take k):=J (λi=>by
    refine Dv oI l k b μ.q ν.q ?_;rw[Dw];simp only[Bool.or_eq_false_iff,Bool.and_eq_false_iff,decide_eq_false_iff_not];rcases ε.q with⟨e,f,h3⟩|⟨e,f⟩ <;> omega)
   rcases σ with e|e|⟨e,f⟩|⟨e,f⟩|⟨e,f⟩|e|e|⟨e,f⟩|⟨e,f⟩|e|e
   .subst e
    go_wp2_with fail;go_roundw
    case rel=>exact T.q aj
    case measure=>exact X.q aj
   .subst e
    go_wp2_with fail;go_roundw
    case rel=>exact T.q aj
    case measure=>exact X.q aj
   .have q:(r !=46)=I:=mO.2 ah
    have u:(r !=95)=I:=mO.2 ah;have y:decide (r<48)=C:=bn ah;have z:decide (57<r)=C:=bn ah;have A:decide (r<97)=I:=bG ah;have F:decide (122<r)=C:=bn ah;have K:decide (r<65)=I:=bG ah;have P:decide (90<r)=C:=bn ah;go_wp2_with fail;go_roundw
    case rel=>exact T.q ah
    case measure=>exact X.q ah
   .have q:(r !=46)=I:=mO.2 ah
    have u:(r !=95)=I:=mO.2 ah;have y:decide (r<48)=C:=bn ah;have z:decide (57<r)=I:=bG ah;have A:decide (r<97)=C:=bn ah;have F:decide (122<r)=C:=bn ah;have K:decide (r<65)=C:=bn ah;have P:decide (90<r)=I:=bG ah;go_wp2_with fail;go_roundw
    case rel=>exact T.q ah
    case measure=>exact X.q ah
   .have q:(r !=46)=I:=mO.2 ah
    have u:(r !=95)=I:=mO.2 ah;have y:decide (r<48)=C:=bn ah;have z:decide (57<r)=I:=bG ah;have A:decide (r<97)=I:=bG ah;have F:decide (122<r)=C:=bn ah;have K:decide (r<65)=C:=bn ah;have P:decide (90<r)=C:=bn ah;go_wp2_with fail;go_roundw
    case rel=>exact T.q ah
    case measure=>exact X.q ah
   .have q:(r !=46)=I:=mO.2 ah
    have u:(r !=95)=I:=mO.2 ah;have y:decide (r<48)=I:=bG ah;have z:decide (57<r)=C:=bn ah;have A:decide (r<97)=I:=bG ah;have F:decide (122<r)=C:=bn ah;have K:decide (r<65)=I:=bG ah;have P:decide (90<r)=C:=bn ah;go_wp2_with fail;go_ret;exact⟨by rw[o.q ah];rfl,j.q⟩
   .subst e
    go_wp2_with fail;go_ret;exact⟨by rw[o.q aj];rfl,j.q⟩
   .have q:(r !=46)=I:=mO.2 ah
    have u:(r !=95)=I:=mO.2 ah;have y:decide (r<48)=C:=bn ah;have z:decide (57<r)=I:=bG ah;have A:decide (r<97)=I:=bG ah;have F:decide (122<r)=C:=bn ah;have K:decide (r<65)=I:=bG ah;have P:decide (90<r)=C:=bn ah;go_wp2_with fail;go_ret;exact⟨by rw[o.q ah];rfl,j.q⟩
   .have q:(r !=46)=I:=mO.2 ah
    have u:(r !=95)=I:=mO.2 ah;have y:decide (r<48)=C:=bn ah;have z:decide (57<r)=I:=bG ah;have A:decide (r<97)=I:=bG ah;have F:decide (122<r)=C:=bn ah;have K:decide (r<65)=C:=bn ah;have P:decide (90<r)=I:=bG ah;go_wp2_with fail;go_ret;exact⟨by rw[o.q ah];rfl,j.q⟩
   .subst e
    go_wp2_with fail;go_ret;exact⟨by rw[o.q aj];rfl,j.q⟩
   .have q:(r !=46)=I:=mO.2 ah
    have u:(r !=95)=I:=mO.2 ah;have y:decide (r<48)=C:=bn ah;have z:decide (57<r)=I:=bG ah;have A:decide (r<97)=C:=bn ah;have F:decide (122<r)=I:=bG ah;have K:decide (r<65)=C:=bn ah;have P:decide (90<r)=I:=bG ah;go_wp2_with fail;go_ret;exact⟨by rw[o.q ah];rfl,j.q⟩
  .have γ:∀g,(Instr.next (.pointer (L ⟨w.1.size,0,U⟩)) I g).run O wr=_:=λg=>Lib.run_next_end_at wr w.1.size ⟨l.toArray⟩ k g Q (by rw[dW];exact hp)
   have HX:Hid (fO l=l):=J (LF oI l (by rw[eF ah] at S;exact S));have HB:=J Y;clear S Y;go_wp2_with fail;go_ret;exact⟨by rw[HX.q];rfl,HB.q⟩
theorem yV (r:D)(w:M):Calls O 188 #[.int .i32 r] w (bT (.bool (eu r)) w):=by
 by_cases b:48<=r <;> by_cases d:r<=57
 all_goals
  go_enter func188,ntmps188
  go_wp2
  go_ret;exact⟨by simp[eu,b,d],Below.refl _ _⟩
def jN (l:Bs):Bs:=if l.head?=L 45 then(if(l.tail.takeWhile fE).length=0 then [] else l.take ((l.tail.takeWhile fE).length+1)) else l.takeWhile fE
theorem Bw (b:UInt8):fE b=(decide (48<=b.toNat) && decide (b.toNat<=57)):=rfl
def hz (l:Bs):H:=if l.head?=L 45 then 1 else 0
def zP (l:Bs)(k e:H):Prop:=(k=0/\e=0)\/(hz l<=k/\(∀x∈(l.take k).drop (hz l),fE x=I)/\e=(if k=hz l then 0 else k))
theorem LG {q:UInt8->Bool}(h:∀x∈l.take k,q x=I)(d:k=l.length\/∃b,l[k]?=L b/\q b=C)(g:k<=l.length):(l.takeWhile q).length=k/\l.takeWhile q=l.take k:=by
 rcases d with rfl|⟨b,e,f⟩
 .rw[List.take_length] at h ⊢
  rw[LF q l h];exact⟨rfl,rfl⟩
 .rw[Dv q l k b h e f]
  exact⟨by rw[dJ];omega,rfl⟩
variable{e:H}
theorem Dx (h:zP l k e)(g:k<=l.length)(m:k=l.length\/∃b,l[k]?=L b/\fE b=C/\¬(k=0/\b=45)):jN l=l.take e/\e<=l.length:=by
 unfold jN;by_cases d:l.head?=L 45
 .rw[aA d]
  obtain⟨t,rfl⟩:∃t,l=45::t:=by cases l with
   |nil=>simp at d
   |cons a t=>exact⟨t,by simpa using d⟩
  have s:hz (45::t)=1:=rfl;unfold zP at h;rw[s] at h;rcases h with⟨rfl,rfl⟩|⟨A,o,i⟩
  .exfalso
   rcases m with h|⟨b,f,_,u⟩
   .simp at h
   .exact u ⟨rfl,by simpa using f.symm⟩
  .obtain⟨j,rfl⟩:∃j,k=j+1:=⟨k - 1,by omega⟩
   have y:((45::t:Bs).tail.takeWhile fE).length=j/\_:=LG (l:=t) (k:=j) (by simpa using o) (by
    rcases m with h|⟨b,f,p,_⟩
    .exact .inl (by simpa using h)
    .exact .inr ⟨b,by simpa using f,p⟩) (by simpa using g)
   rw[y.1];by_cases q:j=0
   .subst q;rw[aA rfl,i,aA rfl];exact⟨rfl,aS _⟩
   .rw[ay q,i,ay ah];exact⟨rfl,g⟩
 .rw[ay d]
  have z:hz l=0:=ay d;unfold zP at h;rw[z] at h;have r:e=k/\∀x∈l.take k,fE x=I:=by
   rcases h with⟨rfl,rfl⟩|⟨_,o,i⟩
   .exact⟨rfl,by simp⟩
   .exact⟨by rw[i];split <;> omega,by simpa using o⟩
  rw[r.1];exact⟨(LG r.2 (by
   rcases m with h|⟨b,f,p,_⟩
   .exact .inl h
   .exact .inr ⟨b,f,p⟩) g).2,g⟩
theorem Wq (h:zP l k e)(f:l[k]?=L b)(g:fE b=I):zP l (k+1) (k+1):=by
 have o:hz l<=k:=by
  rcases h with⟨rfl,_⟩|⟨i,_⟩
  .unfold hz
   split
   .rename_i j
    exfalso
    cases l with
    |nil=>simp at f
    |cons a t=>
     obtain rfl:a=b:=by simpa using f
     obtain rfl:a=45:=by simpa using j
     exact absurd g aj
   .omega
  .exact i
 refine .inr ⟨by omega,λx d=>?_,by rw[ay ah]⟩;rw[eD,f,List.drop_append_of_le_length (by rw[dJ];have:=(bq.1 f).1;omega)] at d;rcases cu.1 d with d|d
 .rcases h with⟨rfl,_⟩|⟨_,m,_⟩
  .simp at d
  .exact m x d
 .obtain rfl:x=b:=by simpa using d
  exact g
theorem Rj (h:zP l 0 e)(d:l[0]?=L 45):e=0/\zP l 1 0:=by
 have g:l.head?=L 45:=by cases l with
  |nil=>simp at d
  |cons a t=>simpa using d
 have f:hz l=1:=aA g;refine⟨?_,.inr ⟨by omega,λx b=>?_,by rw[f,aA rfl]⟩⟩
 .rcases h with⟨_,h⟩|⟨i,_⟩
  .exact h
  .omega
 .rw[f] at b
  cases l with
  |nil=>simp at b
  |cons a t=>simp at b
theorem Im (l:Bs)(φ:l.length<=1000000)(w:M):Calls O 155 #[V ⟨l.toArray⟩] w (nE (V ⟨(jN l).toArray⟩) (V ⟨(l.drop (jN l).length).toArray⟩) w):=by
 obtain⟨X,hX⟩:=kP (jN l);rw[<-hX];have R:=J hX;have χ:=dW l;go_enter func155,ntmps155
 go_wp2
 go_step3
 go_wp2
 go_step3
 go_wp2
 go_loopw [4] (λv wr=>∃k e:H,v= .int .i64 e/\k<=l.length/\e<=l.length/\wr.1[w.1.size]?=L (.stringIter ⟨l.toArray⟩ k)/\Below w.1.size w wr/\zP l k e) (λ_ wr=>l.length - wr.iterPos w.1.size)
 case atStart=>exact⟨0,0,rfl,aS _,aS _,World.iter_heap w ⟨l.toArray⟩ 0,iN w ⟨l.toArray⟩,.inl ⟨rfl,rfl⟩⟩
 case round=>
  obtain⟨k,e,rfl,hk,ψ,s,S,T⟩:=hrel;by_cases Y:k<l.length
  .obtain⟨b,t,Z⟩:∃b t,l.drop k=b::t:=⟨_,_,jV Y⟩
   have β:∀o,(Instr.next (.pointer (L ⟨w.1.size,0,U⟩)) I o).run O wr=_:=λo=>Lib.run_next_any_at wr w.1.size ⟨l.toArray⟩ k o s (by rw[dW];exact Y)
   have γ:=ow l k;rw[Z] at γ;rw[γ] at β;have θ:l[k]?=L b:=by
    have:=cZ (λl=>l[0]?) Z
    simpa using this
   obtain⟨r,d,A,F⟩:∃(r:D)(d:H),r=((G ⟨(b::t).toArray⟩ 0).1:D)/\d=(G ⟨(b::t).toArray⟩ 0).2:=⟨_,_,rfl,rfl⟩;have δ:(b.toNat<128/\r=b.toNat/\d=1)\/(128<=b.toNat/\128<=r):=by
    rcases jk b.toNat 128 with f|f
    .rw[nM b t f] at A F;exact .inl ⟨f,A,F⟩
    .have:=(vS b t f).1;exact .inr ⟨f,by omega⟩
   rw[<-A,<-F] at β;have ι:=Lib.iterAt_heap wr w.1.size ⟨l.toArray⟩ k (k+d) s;have κ:=Lib.below_iterAt S (k:=w.1.size) (aC _) ⟨l.toArray⟩ (k+d);have ε:=J δ;have K:=J T;have P:=J θ;have i:=J κ;have Q:=J ι;have μ:=J s;have ν:fE b=eu r:=by
    rw[Bw];unfold eu;rcases δ with⟨f,j,u⟩|⟨f,j⟩
    .rw[j];congr 1 <;> exact decide_eq_decide.2 ah
    .rw[bn (show ¬b.toNat<=57 by omega),bn (show ¬r<=57 by omega),Bool.and_false,Bool.and_false]
   have ζ:=J ν;clear δ T θ κ ι S γ A F Z s ν
   cases m:eu r
   .by_cases x:k=0/\r=45
    .obtain⟨rfl,rfl⟩:=x
     have π:b=45/\d=1:=by
      rcases ε with⟨f,j,u⟩|⟨f,j⟩
      .exact⟨gD.1 (by show b.toNat=45;omega),u⟩
      .exfalso;omega
     obtain⟨rfl,rfl⟩:=π;obtain⟨h0,f⟩:=Rj K P;have H1:=J f;have ρ:Hid ((wr.iterAt w.1.size ⟨l.toArray⟩ (0+1)).1[w.1.size]?=L (.stringIter ⟨l.toArray⟩ 1)):=Q;clear f
     go_wp2_with (first|(go_at_call 188;refine(yV _ _).mono ?_;rintro e w3 ⟨rfl,h⟩;rw[m];have p:=J (i.trans (h.mono i.size));have y:=J ((h.block w.1.size (by have:=(fH.1 Q).1;exact this)).trans ρ);clear h)|fail)
     go_roundw
     case rel=>exact⟨1,0,rfl,by omega,aS _,y,p,H1⟩
     case measure=>rw[iterPos_of y.q,iterPos_of μ.q];omega
    .by_cases η:k=0
     .subst η
      rw[bQ] at i;have ω:(r !=45)=I:=mO.2 (λe=>x ⟨rfl,e⟩);have σ:=J x;clear x;have g:=J (Dx K ah (.inr ⟨b,P,by rw[ζ.q,m],λe=>σ ⟨rfl,by rcases ε with⟨f,j,u⟩|⟨f,j⟩ <;> (rw[e.2] at f;simp at f);rw[j,e.2];rfl⟩⟩));have ξ:=λW=>uY N l e g.2 W
      have ο:=λW=>jg N l e g.2 W
      have q:(l.take e).length=e:=by rw[dJ];have:=g.q.2;omega
      have z:=J q;clear q
      go_wp2_with (first|(go_at_call 188;refine(yV _ _).mono ?_;rintro e w3 ⟨rfl,h⟩;rw[m];have p:=J (i.trans (h.mono i.size));clear h)|go_quiet (fail))
      change bodyPost _ _ _ Exit.ret _ _
      go_ret2
      exact⟨by rw[R.q,g.q.1,z.q];rfl,dm p _⟩
     .have Γ:decide ((0:D)<(k:D))=I:=bG ah
      have Δ:decide (0<k)=I:=bG ah;have τ:=J η;clear η x;have g:=J (Dx K ah (.inr ⟨b,P,by rw[ζ.q,m],λe=>τ e.1⟩));have ξ:=λW=>uY N l e g.2 W
      have ο:=λW=>jg N l e g.2 W
      have q:(l.take e).length=e:=by rw[dJ];have:=g.q.2;omega
      have z:=J q;clear q
      go_wp2_with (first|(go_at_call 188;refine(yV _ _).mono ?_;rintro e w3 ⟨rfl,h⟩;rw[m];have p:=J (i.trans (h.mono i.size));clear h)|go_quiet (fail))
      change bodyPost _ _ _ Exit.ret _ _
      go_ret2
      exact⟨by rw[R.q,g.q.1,z.q];rfl,dm p _⟩
   .have υ:d=1:=by
     rcases ε with⟨f,j,u⟩|⟨f,j⟩
     .exact u
     .simp[eu] at m;omega
    subst υ;have H1:=J (Wq K P (by rw[ζ.q,m]))
    go_wp2_with (first|(go_at_call 188;refine(yV _ _).mono ?_;rintro e w3 ⟨rfl,h⟩;rw[m];have p:=J (i.trans (h.mono i.size));have y:=J ((h.block w.1.size (by have:=(fH.1 Q).1;exact this)).trans Q);clear h)|fail)
    go_roundw
    case rel=>exact⟨k+1,k+1,by go_num,by omega,by omega,y,p,H1⟩
    case measure=>rw[iterPos_of y.q,iterPos_of μ.q];omega
  .have β:∀o,(Instr.next (.pointer (L ⟨w.1.size,0,U⟩)) I o).run O wr=_:=λo=>Lib.run_next_end_at wr w.1.size ⟨l.toArray⟩ k o s (by rw[dW];exact Y)
   have g:=J (Dx T hk (.inl ah));have ξ:=λW=>uY N l e g.2 W
   have ο:=λW=>jg N l e g.2 W
   have q:(l.take e).length=e:=by rw[dJ];have:=g.q.2;omega
   have z:=J q;have HB:=J S
   go_wp2_with (go_quiet (fail))
   change bodyPost _ _ _ Exit.ret _ _
   go_ret2
   exact⟨by rw[R.q,g.q.1,z.q];rfl,dm HB _⟩
def PY (b:UInt8):List Value:=[.int .u8 (b.toNat:D)]
instance Yt:Cells PY 1:=⟨λ_=>rfl,by decide,λx u h=>by simp[PY] at h;subst h;rfl⟩
theorem XF (a b:Bs):(⟨a.toArray⟩++⟨b.toArray⟩:ByteArray)=⟨(a++b).toArray⟩:=by
 apply ByteArray.ext;simp
structure Yu (h:HC)(l:aW)(w0 w:M)(Lk:aW)(ns:List Bs)(vs:List To)(X:M):Prop where
 b0:Bx X w.1.size (aI h)
 b1:Bx X (w.1.size+1) (bJ Lk)
 b3:Bx X (w.1.size+3) #[.int .i64 0,.slice U 0 0,.int .i64 0,.slice U 0 0,.bool C,.int .i64 0]
 on:Own X w0.1.size 9 1 encStr (.slice Lk.na Lk.nn Lk.nc) ns
 ov:Own X w0.1.size 61 2 pG (.slice Lk.va Lk.vn Lk.vc) vs
 fn:∀g,(Value.slice Lk.na Lk.nn Lk.nc).ownBlock=L g->g<w.1.size\/w.1.size+4<=g
 fv:∀g,(Value.slice Lk.va Lk.vn Lk.vc).ownBlock=L g->g<w.1.size\/w.1.size+4<=g
 be:Below w0.1.size w0 X
 kw:Kept w l X
 gr:XE w l Lk
 sz:w.1.size+4<=X.1.size
end Yd
