import Derived.Test.YtddiadcpokbpoaaGreatDoorLSpD
import Derived.RangeFuncBound
import Derived.IntWalk
import Derived.Laws.BytesArg
import Derived.Lib.Join
import Derived.Laws.RangeAny
import Derived.WalkSmall
set_option linter.all false
set_option maxRecDepth 200000
set_option maxHeartbeats 8000000
namespace Yd
open Go Go.RowKit Go.Proofs Tryz
def rH (w:World)(ps:List (Int × Addr))(xs:List (Int × Int)):Prop:=ps.map (jU w)=xs/\∀p∈ps,∃b o n,p.2=⟨b,o,none⟩/\w.cell? p.2=some (.int .i64 n)
section
variable {w:World}{ps qs:List (Int × Addr)}{xs ys:List (Int × Int)}{a:Option Addr}{n c:Nat}
theorem rH.nil:rH w [] []:=⟨rfl,λp hp=>by cases hp⟩
theorem rH.cons {s:Int}{b o:Nat}{n:Int}(hc:w.cell? ⟨b,o,none⟩=some (.int .i64 n))(h:rH w ps xs):rH w ((s,⟨b,o,none⟩)::ps) ((s,n)::xs):=
 ⟨by rw[lD,h.1];show(s,qh w _)::xs=_;rw[lK hc],λp hp=>by
  rcases dP.1 hp with rfl|hp
  .exact⟨b,o,n,rfl,hc⟩
  .exact h.2 p hp⟩
theorem rH.app (h:rH w ps xs)(k:rH w qs ys):rH w (ps++qs) (xs++ys):=⟨by rw[gK,h.1,k.1],λp hp=>(bJ.1 hp).elim (h.2 p) (k.2 p)⟩
theorem rH.gr {α:Type}{hd:Nat->α->List (Int × Addr)}{sub:α->List (Int × Addr)}(g:α->List (Int × Int)):∀(l:List α)(i:Nat),(∀j x,l[j]?=some x->rH w (hd (i+j) x++sub x) (g x))->rH w (Yd.gr hd sub i l) (l.flatMap g)
 |[],_,_=>rH.nil
 |x::l,i,h=>by
  show rH w (hd i x++(sub x++Yd.gr hd sub (i+1) l)) _;rw[<-eG,qP];exact(h 0 x rfl).app (rH.gr g l (i+1) λj y hy=>by rw[show i+1+j=i+(j+1) by omega];exact h (j+1) y hy)
theorem rH.bR {b o:Nat}{v:kZ}(hc:w.cell? ⟨b,o,none⟩=some (.int .i64 v.t)):rH w (jZ ⟨b,o,none⟩ v) (cO v):=by
 unfold jZ cO;by_cases h:0<v.k
 .rw[ay h,ay h];exact rH.cons hc rH.nil
 .rw[ak h,ak h];exact rH.nil
end
attribute [local go_sem] Oper.semAt_some
theorem Wn (p:Addr)(w:World):Calls Tryz.prog 46 #[.pointer (some p)] w λe w'=>
  e= .returned (.func (.func 92) #[] #[.pointer (some ⟨w.1.size,0,none⟩)])/\w'=w.alloc (.cells #[.pointer (some p)] 101):=by
 go_enter func46,ntmps46;go_wp2_with fail;go_ret;exact⟨rfl,rfl⟩
theorem OA:∀args w,(callFunc 92 args).run Tryz.prog w= .ok (.enter 92 args) w:=enters_of func92 av rfl
theorem Bx.putObj {X:World}{b:Nat}{cs:Array Value}(h:Bx X b cs){l:Nat}(o:Obj)(hl:b≠l):Bx (X.putObj l o) b cs:=(Same.putObj (A:=λi=>i≠l) X o au).bx h hl
theorem Deep.below {w w':World}{h:HC}{es:List EvC}{ds:List aM}{ms:List aN}{qs:List Wa}{scan:EvC->List Sn}{dn:aM->List Int}{mn:aN->List Int}(hd:Deep w h es ds ms qs scan dn mn){B:Nat}
  (hb:Below B w w') (hB:B=w.1.size):Deep w' h es ds ms qs scan dn mn:=
 ⟨hd.1.below hb hB,hd.2.1.below hb hB,hd.2.2.1.below hb hB,hd.2.2.2.1.below hb hB,λx hx=>(hd.2.2.2.2.1 x hx).below hb hB,λx hx=>(hd.2.2.2.2.2.1 x hx).below hb hB,λx hx=>(hd.2.2.2.2.2.2 x hx).below hb hB⟩
theorem max2 (a b:Int)(w:World):(Builtin.max_ #[3,3] 3 #[.int .i64 a,.int .i64 b]).run Tryz.prog w= .ok (.int .i64 (if b>a then b else a)) w:=by
 simp[Builtin.max_,Builtin.max2]
end Yd
namespace Yd
open Bool renaming false->C,true->G
open Option renaming some->H,none->Q
open Go Go.RowKit Go.Proofs Tryz
open Below renaming refl->N
open Go renaming World->D,Value->Z
open Go.IntKind renaming i64->V
open Go.Value renaming string->S
open Tryz renaming prog->I
open Utf8 renaming decode->J
open Value renaming slice->O
open Yd renaming hid->M
open _root_ renaming Nat->z,Int->F,List->L,UInt8->U
structure aP where
 kind:F
 names:L Bs
 lvl:F
 aF:L To
 first:Bool
 bits:F
 deriving DecidableEq
def iB (w:D)(B:z)(l:bB)(s:aP):Prop:=
 (l.kind=s.kind/\l.lvl=s.lvl/\l.first=s.first/\l.bits=s.bits/\l.nn=s.names.length/\l.vn=s.aF.length)/\
 Own w B 9 1 encStr (.slice l.na l.nn l.nc) s.names/\Own w B 52 2 pE (.slice l.va l.vn l.vc) s.aF
theorem iB.below {w w':D}{B:z}{l:bB}{s:aP}(h:iB w B l s)(hb:Below w.1.size w w'):iB w' B l s:=⟨h.1,h.2.1.below hb rfl,h.2.2.below hb rfl⟩
theorem iB.mono {w:D}{B B':z}{l:bB}{s:aP}(h:iB w B l s)(hB:B'<=B):iB w B' l s:=⟨h.1,h.2.1.mono hB,h.2.2.mono hB⟩
theorem Bx.new1 {X:D}{b:z}{cs:Array Z}{T:TypeId}(h:X.1.size=b):Bx (X.alloc (.cells cs T)) b cs:=h▸Bx.new X cs T
theorem Row.str1 (w:D)(s:Bs):Row (w.alloc (.cells #[S ⟨s.toArray⟩] 9)) 1 encStr (H ⟨w.1.size,0,Q⟩) 1 1 [s]:=
 (Own.new (hc:=jQ) w w.1.size 9 #[S ⟨s.toArray⟩] [s] (aA _) rfl (by simp[maxLen])).row au
theorem Row.anD {X:D}{g:z}(h:X.1.size=g)(s:Bs):Row (X.alloc (.cells #[S ⟨s.toArray⟩] 9)) 1 encStr (H ⟨g,0,Q⟩) 1 1 [s]:=h▸Row.str1 X s
theorem Row.drew {α:Type}{w:D}{k:z}{enc:α->L Z}{a:Option Addr}{n c:z}{xs:L α}(h:Row w k enc a n c xs):Row w.drew k enc a n c xs:=h
theorem yx {X:D}{p:Addr}{v:Z}(o:Obj)(h:X.cell? p=H v):(X.alloc o).cell? p=H v:=(((N X.1.size X).alloc (aA _) o).cell (jC h)).trans h
theorem Same.refl' {A:z->Prop}(X:D):Same A X X:=⟨rfl,rfl,rfl,aA _,λ_ _ _=>rfl⟩
theorem Same.setTail {A:z->Prop}{X Y:D}{b o:z}{v:Z}(h:Same A X Y)(hb:¬A b):Same A X (Y.setCell ⟨b,o,Q⟩ v):=
 ⟨h.os,h.tape,h.output,by have:=h.size;simpa[World.setCell] using this,λi hi hl=>(Below.heap_setCell _ _ _ _ (λe=>by have e':i=b:=e;rw[e'] at hi;exact hb hi)).trans (h.block i hi hl)⟩
theorem Same.qD {A:z->Prop}{X Y:D}(h:Same A X Y):Same A X Y.drew:=⟨h.os,h.tape,h.output,h.size,h.block⟩
section
variable {α:Type}{enc:α->L Z}{k:z}{w w':D}{B:z}{E:TypeId}{v:Z}{xs:L α}
theorem Own.grown (h:Own w B E k enc v xs){row:Option z}(hg:w.grownBy w' row)(hne:∀g,v.ownBlock=H g->row≠H g):Own w' B E k enc v xs:=
 h.block λg hg'=>hg.block g (h.lt g hg').2 (λe=>hne g hg' e.symm)
theorem Own.same (h:Own w B E k enc v xs){A:z->Prop}(hs:Same A w w')(hA:∀g,v.ownBlock=H g->A g):Own w' B E k enc v xs:=h.block λg hg=>hs.block g (hA g hg) (h.lt g hg).2
theorem Own.tag (h:Own w B E k enc v xs){g:z}(hg:v.ownBlock=H g):∃cs fz,w.1[g]?=H (.cells cs E fz):=by
 rcases h.2 with⟨rfl,_⟩|⟨g',cap,cur,rfl,_,hh,_⟩
 .cases hg
 .obtain rfl:g'=g:=by simpa[Value.ownBlock] using hg
  exact⟨_,_,hh⟩
theorem Own.apart {β:Type}{enc':β->L Z}{k' B':z}{E':TypeId}{v':Z}{ys:L β}(h:Own w B E k enc v xs)(h':Own w B' E' k' enc' v' ys)(hE:E≠E'):∀g,v.ownBlock=H g->v'.ownBlock≠H g:=λg hg hg'=>by
 obtain⟨cs,fz,e1⟩:=h.tag hg;obtain⟨cs',Wo,e2⟩:=h'.tag hg';rw[e1] at e2
 cases e2
 exact hE rfl
theorem Own.far' (h:Own w B E k enc v xs){i:z}(hi:i<B\/w.1.size<=i):v.ownBlock≠H i:=λe=>by
 have:=h.lt i e;omega
end
structure Kept (w:D)(l:bB)(w':D):Prop where
 size:w.1.size<=w'.1.size
 block:∀i,i<w.1.size->H i≠(O l.na l.nn l.nc).ownBlock->H i≠(O l.va l.vn l.vc).ownBlock->w'.1[i]?=w.1[i]?
def anE (w:D)(l l':bB):Prop:=
 (∀g,(O l'.na l'.nn l'.nc).ownBlock=H g->(O l.na l.nn l.nc).ownBlock=H g\/w.1.size<=g)/\(∀g,(O l'.va l'.vn l'.vc).ownBlock=H g->(O l.va l.vn l.vc).ownBlock=H g\/w.1.size<=g)
theorem Bx.aZ {X:D}{b:z}{cs:Array Z}(h:Bx X b cs)(i:z)(hi:i<cs.size)(v:Z):Bx (X.setCell ⟨b,i,Q⟩ v) b (cs.setIfInBounds i v):=by
 refine⟨λj=>?_,λj=>by rw[World.frozen?_setCell];exact h.2.1 j,by have:=h.2.2;simpa[World.setCell] using this⟩;by_cases hj:j=i
 .subst hj
  rw[World.cell?_setCell_same' _ _ _ (by rw[h.1 j,Nu hi];rfl),vQ hi]
 .rw[World.cell?_setCell_other _ _ _ _ (λe=>by cases e;exact hj rfl),h.1 j,jO (λe=>hj e.symm)]
theorem Row.toN {X:D}{g:z}(h:X.1.size=g)(s:To):Row (X.alloc (.cells #[S ⟨s.name.toArray⟩,.int V s.k] 52)) 2 pE (H ⟨g,0,Q⟩) 1 1 [s]:=
 h▸(Own.new (hc:=Ke) X X.1.size 52 #[S ⟨s.name.toArray⟩,.int V s.k] [s] (aA _) rfl (by simp[maxLen])).row au
theorem ajn {X:D}{o:Obj}{g:z}(h:X.1.size=g):(X.alloc o).1[g]?=H o:=h▸World.alloc_heap_new X o
theorem ajo {X:D}{b:z}{o':Obj}(o:Obj)(h:X.1[b]?=H o'):(X.alloc o).1[b]?=H o':=(Below.heap_alloc _ _ _ (dI.1 h).1).trans h
theorem Own.Wp {α:Type}{enc:α->L Z}{k:z}{w:D}{B:z}{E:TypeId}{v:Z}{xs:L α}(h:Own w B E k enc v xs){b:z}{cs:Array Z}{T:TypeId}{fz:z × z}(hb:w.1[b]?=H (.cells cs T fz))(hE:E≠T):v.ownBlock≠H b:=λe=>by
 obtain⟨cs',Wo,e1⟩:=h.tag e;rw[hb] at e1
 cases e1
 exact hE rfl
theorem bT {w:D}{b i:z}{cs:Array Z}{T:TypeId}{fr:z × z}(hb:w.1[b]?=H (.cells cs T fr))(v:Z):(w.setCell ⟨b,i,Q⟩ v).1[b]?=H (.cells (cs.setIfInBounds i v) T fr):=by
 simp[World.setCell,Array.getElem?_modify,hb]
section
variable {α:Type}{enc:α->L Z}{k:z}
theorem OB [hc:Cells enc k]:∀(xs:L α)(i j:z)(x y:α)(v:Z),xs[i]?=H x->j<k->(enc x).set j v=enc y->(xs.flatMap enc).set (i*k+j) v=(xs.set i y).flatMap enc
 |[],i,j,x,y,v,h,_,_=>by simp at h
 |a::xs,0,j,x,y,v,h,hj,he=>by
  obtain rfl:a=x:=by simpa using h
  rw[qP,sG,qP,Nat.zero_mul,bU,List.set_append_left _ _ (by rw[hc.len];exact hj),he]
 |a::xs,i+1,j,x,y,v,h,hj,he=>by
  have ih:=OB xs i j x y v (by simpa using h) hj he;rw[qP,sF,qP,List.set_append_right _ _ (by rw[hc.len,Nat.succ_mul];omega),hc.len,<-ih]
  congr 2
  rw[Nat.succ_mul];omega
theorem Own.put [hc:Cells enc k]{w:D}{B g n c i j:z}{E:TypeId}{xs:L α}{x y:α}{v:Z}(h:Own w B E k enc (.slice (H ⟨g,0,Q⟩) n c) xs)(hx:xs[i]?=H x)(hj:j<k)(he:(enc x).set j v=enc y):
  Own (w.setCell ⟨g,i*k+j,Q⟩ v) B E k enc (.slice (H ⟨g,0,Q⟩) n c) (xs.set i y):=by
 obtain⟨h1,h2⟩:=h;refine⟨zk _,?_⟩;rcases h2 with⟨e,_⟩|⟨g',cap,cur,e,hB,hh,hn,hm,hs,ht⟩
 .cases e
 .injection e with e1 e2 e3
  injection e1 with e1;injection e1 with e1;subst e1;refine .inr ⟨g,cap,cur.setIfInBounds (i*k+j) v,?_,hB,bT hh v,by rw[Ee];exact hn,hm,by rw[Array.size_setIfInBounds];exact hs,?_⟩
  .rw[Ee,e2,e3]
  .rw[Ee,Array.toList_setIfInBounds,List.take_set,ht]
   exact OB xs i j x y v hx hj he
end
def jq (r:F):F:=if r=115 then 40 else if r=116\/r=109 then 300 else 0
structure Et (w:D)(na:Option Addr)(nn nc:z)(va:Option Addr)(vn vc:z)(names:L Bs)(aF:L To):Prop where
 rn:Row w 1 encStr na nn nc names
 rv:Row w 2 pE va vn vc aF
 wn:∀s∈names,bD ⟨s.toArray⟩=G
 wv:∀t∈aF,qF t
 g:qc w
 T:Lib.Utf8Tabs 5 6 w
theorem Et.below {w w':D}{na:Option Addr}{nn nc:z}{va:Option Addr}{vn vc:z}{names:L Bs}{aF:L To}(h:Et w na nn nc va vn vc names aF)(hb:Below w.1.size w w'):Et w' na nn nc va vn vc names aF:=
 ⟨h.rn.below hb rfl,h.rv.below hb rfl,h.wn,h.wv,h.g.below hb,Utf8Tabs_below h.T hb⟩
theorem RQ:∀args w,(callFunc 27 args).run I w= .ok (.enter 27 args) w:=enters_of Tryz.func27 av rfl
theorem RS:∀args w,(callFunc 30 args).run I w= .ok (.enter 30 args) w:=enters_of Tryz.func30 av rfl
theorem Et.names {w:D}{na:Option Addr}{nn nc:z}{va:Option Addr}{vn vc:z}{names:L Bs}{aF:L To}(h:Et w na nn nc va vn vc names aF):
  Calls I 29 #[.slice na nn nc,.func (.func 30) #[] #[]] w (cK (.bool C) w):=by
 have:=RU na nn nc 30 #[] names (λs=>!bD ⟨s.toArray⟩) w h.rn RS (λx _ W hb=>by simpa using Kg x W (Utf8Tabs_below h.T hb))
 rwa[List.any_eq_false.2 (λs hs=>by simp[h.wn s hs])] at this
theorem Et.aF {w:D}{na:Option Addr}{nn nc:z}{va:Option Addr}{vn vc:z}{names:L Bs}{aF:L To}(h:Et w na nn nc va vn vc names aF):
  Calls I 26 #[.slice va vn vc,.func (.func 27) #[] #[]] w (cK (.bool C) w):=by
 have:=Wq va vn vc 27 #[] aF (λ_=>C) w h.rv RQ (λx hx W hb=>by simpa using V7 x W (Utf8Tabs_below h.T hb) (h.wv x hx))
 rwa[List.any_eq_false.2 (λs hs=>by simp)] at this
theorem N8 (r:F)(w:D):Calls I 25 #[.int .i32 r] w (cK (.int V (jq r)) w):=by
 by_cases h1:r=115
 .subst h1
  go_enter Tryz.func25,Tryz.ntmps25;go_wp2_with fail;go_ret;exact⟨rfl,N _ _⟩
 .have e1:(r==115)=C:=aR.2 h1
  by_cases h2:r=116
  .subst h2
   go_enter Tryz.func25,Tryz.ntmps25;go_wp2_with fail;go_ret;exact⟨rfl,N _ _⟩
  .have e2:(r==116)=C:=aR.2 h2
   by_cases h3:r=109
   .subst h3
    go_enter Tryz.func25,Tryz.ntmps25;go_wp2_with fail;go_ret;exact⟨rfl,N _ _⟩
   .have e3:(r==109)=C:=aR.2 h3
    have hm:jq r=0:=by unfold jq;rw[ak h1,ak ah]
    rw[hm];go_enter Tryz.func25,Tryz.ntmps25;go_wp2_with fail;go_ret;exact⟨rfl,N _ _⟩
def abP (b:U):L Z:=[.int .u8 (b.toNat:F)]
instance aqY:Cells abP 1:=⟨λ_=>rfl,by decide,λx u h=>by simp[abP] at h;subst h;rfl⟩
def afQ:z->z->Bs
 |0,_=>[]
 |f+1,n=>if n=0 then [] else afQ f (n / 10)++[UInt8.ofNat (48+n % 10)]
def anF (n:z):Bs:=afQ n n
theorem anG (a b:Bs):(⟨a.toArray⟩++⟨b.toArray⟩:ByteArray)=⟨(a++b).toArray⟩:=by
 apply ByteArray.ext;simp
def Ng (t:To):Bs:=if t.k=0 then [45] else t.name++46::anF t.k.toNat
structure aqZ (h:HC)(l:bB)(w0 w:D)(Lk:bB)(ns:L Bs)(vs:L To)(X:D):Prop where
 b0:Bx X w.1.size (aH h)
 b1:Bx X (w.1.size+1) (kg Lk)
 b3:Bx X (w.1.size+3) #[.int V 0,.slice Q 0 0,.int V 0,.slice Q 0 0,.bool C,.int V 0]
 on:Own X w0.1.size 9 1 encStr (.slice Lk.na Lk.nn Lk.nc) ns
 ov:Own X w0.1.size 52 2 pE (.slice Lk.va Lk.vn Lk.vc) vs
 fn:∀g,(O Lk.na Lk.nn Lk.nc).ownBlock=H g->g<w.1.size\/w.1.size+4<=g
 fv:∀g,(O Lk.va Lk.vn Lk.vc).ownBlock=H g->g<w.1.size\/w.1.size+4<=g
 be:Below w0.1.size w0 X
 kw:Kept w l X
 gr:anE w l Lk
 sz:w.1.size+4<=X.1.size
def RV (b:F):z->L Bs
 |0=>[]
 |j+1=>RV b j++if b / 2 ^ j % 2=1 then [yg j] else []
def zl (b:F):L Bs:=RV b 4
def Kj (s:aP):L Bs:=
 let k:=s.kind.toNat
 let fn:=(cu k).toNat
 let r:=bZ k
 fI k::s.names.take fn++
  ((if r=108 then [zT s.lvl.toNat] else if r=118 then s.aF.take 1|>.map Ng else if r=103 then zl s.bits else if r=109/\s.first=G then [[45]] else [])++
  if r=115 then(s.names.drop fn).zip s.aF|>.flatMap (λp=>[p.1,Ng p.2]) else s.names.drop fn)
def ajp (s:aP):Bs:=Lib.join (Kj s) [32]++[10]
theorem Own.len {α:Type}{enc:α->L Z}{w:D}{B k n c:z}{E:TypeId}{a:Option Addr}{xs:L α}(h:Own w B E k enc (.slice a n c) xs):n=xs.length:=by
 obtain⟨a',c',e,_⟩:=h.shape;injection e
structure Dx (w w1:D)(c0 c1:Array Z)(X:D)(a:Option Addr)(n c:z)(ws:L Bs):Prop where
 x:Bx X w.1.size c0
 y:Bx X w1.1.size c1
 o:Own X (w1.1.size+1) 9 1 encStr (.slice a n c) ws
 b:Below w.1.size w X
 s:w1.1.size+1<=X.1.size
theorem Dx.snoc {w w1 X X':D}{c0 c1:Array Z}{a a':Option Addr}{n c c':z}{ws:L Bs}{s:Bs}(h:Dx w w1 c0 c1 X a n c ws)(hlt:w.1.size<w1.1.size)
  (hown:Own X' (w1.1.size+1) 9 1 encStr (.slice a' (n+1) c') (ws++[s])) (hg:(X.alloc (.cells #[S ⟨s.toArray⟩] 9)).grownBy X' (O a n c).ownBlock):Dx w w1 c0 c1 X' a' (n+1) c' (ws++[s]):=
 ⟨(h.x.alloc _).grown hg (λe=>by have:=(h.o.lt _ e).1;omega),(h.y.alloc _).grown hg (λe=>by have:=(h.o.lt _ e).1;omega),hown,
  below_app (h.b.alloc h.b.size _) (h.o.alloc _) ah (by have:=h.s;simp;omega) hg,by have:=hg.size;have:=h.s;simp at*;omega⟩
theorem Dx.call {w w1 X X':D}{c0 c1:Array Z}{a:Option Addr}{n c:z}{ws:L Bs}(h:Dx w w1 c0 c1 X a n c ws)(hb:Below X.1.size X X'):Dx w w1 c0 c1 X' a n c ws:=
 ⟨h.x.keep hb,h.y.keep hb,h.o.below hb rfl,h.b.trans (hb.mono h.b.size),dL h.s hb.size⟩
def fB (s:aP):Prop:=(∀x∈s.names,bD ⟨x.toArray⟩=G)/\(∀t∈s.aF,qF t)/\
 ((s.kind=1/\s.names.length=2/\s.aF=[]/\(∃lv:z,s.lvl=lv/\1<=lv/\lv<=4)/\s.first=C/\s.bits=0)\/
 (s.kind=2/\s.names.length=2/\s.aF=[]/\s.lvl=0/\s.first=C/\s.bits=0)\/
 (s.kind=3/\s.names.length=2/\s.aF.length=1/\s.lvl=0/\s.first=C/\s.bits=0)\/
 (s.kind=4/\(∃c:z,s.names.length=c+2/\s.aF.length=c/\c<=40)/\True/\s.lvl=0/\s.first=C/\s.bits=0)\/
 (s.kind=5/\s.names.length=1/\s.aF=[]/\s.lvl=0/\s.first=C/\s.bits=0)\/
 (s.kind=6/\s.names.length=1/\s.aF=[]/\s.lvl=0/\s.first=C/\s.bits=0)\/
 (s.kind=7/\(∃c:z,s.names.length=c+1/\c<=300)/\s.aF=[]/\s.lvl=0/\s.first=C/\s.bits=0)\/
 (s.kind=8/\(∃c:z,s.names.length=c+2/\c<=300)/\s.aF=[]/\s.lvl=0/\True/\s.bits=0)\/
 (s.kind=9/\s.names.length=1/\s.aF=[]/\s.lvl=0/\s.first=C/\(∃b:z,s.bits=b/\b<=15)))
theorem fB.len {s:aP}(h:fB s):s.names.length<=1000/\s.aF.length<=1000:=by
 rcases h.2.2 with⟨_,h1,h2,_⟩|⟨_,h1,h2,_⟩|⟨_,h1,h2,_⟩|⟨_,h1,h2,_⟩|⟨_,h1,h2,_⟩|⟨_,h1,h2,_⟩|⟨_,h1,h2,_⟩|⟨_,h1,h2,_⟩|⟨_,h1,h2,_⟩
 .rw[h2];exact⟨by omega,by decide⟩
 .rw[h2];exact⟨by omega,by decide⟩
 .omega
 .obtain⟨c,h1,h2,h3⟩:=h1;omega
 .rw[h2];exact⟨by omega,by decide⟩
 .rw[h2];exact⟨by omega,by decide⟩
 .obtain⟨c,h1,h3⟩:=h1;rw[h2];exact⟨by omega,by decide⟩
 .obtain⟨c,h1,h3⟩:=h1;rw[h2];exact⟨by omega,by decide⟩
 .rw[h2];exact⟨by omega,by decide⟩
def toB (t:To):Bool:=if t.k=0 then decide (t=⟨[],0⟩) else bD ⟨t.name.toArray⟩ && (decide (0<t.k) && decide (t.k<=999))
theorem afR (t:To):toB t=G↔qF t:=by
 unfold toB qF;by_cases h:t.k=0
 .rw[ay h]
  simp only[bf];exact⟨.inl,λk=>k.elim id λk=>by omega⟩
 .rw[ak h]
  simp only[aU,bf];exact⟨.inr,λk=>k.elim (λk=>absurd (by rw[k]) h) id⟩
def pz (r more:F):F:=if r=118 then 1 else if r=115 then more else 0
def jT (k:z)(s:aP):Bool:=
 (decide (cu k<=(s.names.length:F)) && decide ((s.names.length:F) - cu k<=jq (bZ k)) && decide ((s.aF.length:F)=pz (bZ k) ((s.names.length:F) - cu k)) && s.aF.all toB)
 && s.names.all (λx=>bD ⟨x.toArray⟩)
 && (((bZ k==108)==(s.lvl !=0)) && (!s.first||bZ k==109) && (s.bits==0||(bZ k==103 && (decide (0<s.bits) && decide (s.bits<=15)))))
 && (s.lvl==0||fF s.lvl)
def nS (s:aP):Bool:=decide (0<=s.kind) && decide (s.kind<10) && jT s.kind.toNat s
theorem adh (t:To)(w:D)(hT:Lib.Utf8Tabs 5 6 w):Calls I 28 #[vB t] w (cK (.bool (toB t)) w):=by
 obtain⟨n,k⟩:=t;have hq:=V6 ⟨n,k⟩ ⟨[],0⟩;by_cases h0:k=0
 .subst h0
  have hb:toB ⟨n,0⟩=decide ((⟨n,0⟩:To)=⟨[],0⟩):=by unfold toB;rw[ay rfl]
  rw[hb];clear hb hT;go_enter Tryz.func28,Tryz.ntmps28;go_wp2_with fail;go_ret;exact⟨by simp,aB (N _ _) _⟩
 .have hb0:=aB (N w.1.size w) (.cells #[S ⟨n.toArray⟩,.int V k] 52)
  have HW:=M (Dj n _ (Utf8Tabs_below hT hb0));have HB:=M hb0;have HX:=M (Bx.new w #[S ⟨n.toArray⟩,.int V k] 52);have hk:(k==0)=C:=aR.2 h0;have hB:toB ⟨n,k⟩=(bD ⟨n.toArray⟩ && (decide (0<k) && decide (k<=999))):=by unfold toB;rw[ak h0]
  rw[hB];clear hT hb0 h0 hB hq
  cases hw:bD ⟨n.toArray⟩
  .rw[hw] at HW
   clear hw;go_enter Tryz.func28,Tryz.ntmps28;go_wp2_with fail;refine HW.q.mono ?_;rintro e w1 ⟨rfl,hb1⟩;have HB1:=M (HB.q.bO hb1);clear hb1;simp only[Ea,fE];go_wp2_with fail;go_ret;exact⟨rfl,HB1.q⟩
  .rw[hw] at HW
   clear hw
   cases h1:decide (0<k)
   .go_enter Tryz.func28,Tryz.ntmps28
    go_wp2_with fail;refine HW.q.mono ?_;rintro e w1 ⟨rfl,hb1⟩;have hx:=(HX.q.keep hb1).1;have HB1:=M (HB.q.bO hb1);clear hb1;simp only[dw];go_wp2_with fail;go_ret;exact⟨rfl,HB1.q⟩
   .cases h2:decide (k<=999)
    all_goals
     go_enter Tryz.func28,Tryz.ntmps28;go_wp2_with fail;refine HW.q.mono ?_;rintro e w1 ⟨rfl,hb1⟩;have hx:=(HX.q.keep hb1).1;have HB1:=M (HB.q.bO hb1);clear hb1;simp only[dw];go_wp2_with fail;go_ret;exact⟨rfl,HB1.q⟩
theorem TR (t:To)(w:D)(hT:Lib.Utf8Tabs 5 6 w):Calls I 27 #[vB t] w (cK (.bool (!toB t)) w):=by
 have hb0:=aB (N w.1.size w) (.cells (tq t) 52);have HW:=M (adh t _ (Utf8Tabs_below hT hb0));have HB:=M hb0;clear hT hb0;go_enter Tryz.func27,Tryz.ntmps27;go_wp2_with fail;refine HW.q.mono ?_;rintro e w1 ⟨rfl,hb1⟩;have HB1:=M (HB.q.bO hb1);clear hb1;go_wp2_with fail;go_ret;exact⟨rfl,HB1.q⟩
theorem Ws (l:F)(w:D)(hg:qc w):Calls I 32 #[.int V l] w (λe w'=>(∃t:Bs,e= .returned (.tuple #[S ⟨t.toArray⟩,.int V (if fF l=G then 0 else 190)]))/\Below w.1.size w w'):=by
 cases hb:fF l
 .have HL:=M (F6 hb)
  clear hb hg;go_enter Tryz.func32,Tryz.ntmps32;go_wp2_with fail;refine(Dk _ _).mono ?_;rintro e w1 ⟨rfl,hb1⟩;rw[HL.q];have HB:=M hb1;clear hb1;go_wp2_with fail
  go_ret2
  exact⟨⟨[],rfl⟩,HB.q⟩
 .have h:=hb
  simp only[fF,aU,bf] at h;obtain⟨n,rfl⟩:∃n:z,l=(n:F):=⟨l.toNat,by omega⟩;refine(V8 n ah ah w hg).mono ?_;rintro e w1 ⟨rfl,hb1⟩;exact⟨⟨_,rfl⟩,hb1⟩
theorem iB.Y6 {w:D}{B:z}{l:bB}{s:aP}(h:iB w B l s)(hn:s.names.length<=1000000)(hT:Lib.Utf8Tabs 5 6 w):
  Calls I 29 #[.slice l.na l.nn l.nc,.func (.func 30) #[] #[]] w (cK (.bool (!s.names.all (λx=>bD ⟨x.toArray⟩))) w):=by
 have:=RU l.na l.nn l.nc 30 #[] s.names (λs=>!bD ⟨s.toArray⟩) w (h.2.1.row ah) RS (λx _ W hb=>by simpa using Kg x W (Utf8Tabs_below hT hb))
 rwa[show s.names.any (λs=>!bD ⟨s.toArray⟩)=!s.names.all (λx=>bD ⟨x.toArray⟩) by simp[List.any_eq_not_all_not]] at this
theorem iB.adi {w:D}{B:z}{l:bB}{s:aP}(h:iB w B l s)(hn:s.aF.length<=1000000)(hT:Lib.Utf8Tabs 5 6 w):
  Calls I 26 #[.slice l.va l.vn l.vc,.func (.func 27) #[] #[]] w (cK (.bool (!s.aF.all toB)) w):=by
 have:=Wq l.va l.vn l.vc 27 #[] s.aF (λt=>!toB t) w (h.2.2.row ah) RQ (λx hx W hb=>by simpa using TR x W (Utf8Tabs_below hT hb))
 rwa[show s.aF.any (λt=>!toB t)=!s.aF.all toB by simp[List.any_eq_not_all_not]] at this
theorem adj {vs:L To}(h:vs.all toB=G):∀t∈vs,qF t:=λt ht=>(afR t).1 (jc.1 h t ht)
theorem Bv {s:aP}(h:nS s=G):s.kind=0\/fB s:=by
 obtain⟨kd,names,lvl,aF,first,bits⟩:=s;unfold nS jT at h;simp only[aU,bf] at h;obtain⟨⟨h0,h10⟩,⟨⟨⟨⟨⟨a1,a2⟩,a3⟩,a4⟩,a5⟩,⟨b1,b2⟩,b3⟩,c⟩:=h;obtain⟨k,rfl⟩:∃k:z,kd=(k:F):=⟨kd.toNat,by omega⟩;simp only[kS] at a1 a2 a3 b1 b2 b3;have hw:∀x∈names,bD ⟨x.toArray⟩=G:=jc.1 a5;have ht:=adj a4;have hv0:(aF.length:F)=0->aF=[]:=λh=>AA ah
 have Cx:∀(r:F),(bits==0||(r==103 && (decide (0<bits) && decide (bits<=15))))=G->r≠103->bits=0:=λr h hr=>by
  rw[aR.2 hr] at h;simpa using h
 have F7:∀(r:F),(!first||r==109)=G->r≠109->first=C:=λr h hr=>by
  rw[aR.2 hr] at h;simpa using h
 have F8:∀(r:F),((r==108)==(lvl !=0))=G->r≠108->lvl=0:=λr h hr=>by
  rw[aR.2 hr] at h;simpa using h
 rcases(by omega:k=0\/k=1\/k=2\/k=3\/k=4\/k=5\/k=6\/k=7\/k=8\/k=9) with rfl|rfl|rfl|rfl|rfl|rfl|rfl|rfl|rfl|rfl
 .exact .inl rfl
 .right
  simp only[cu,bZ,pz,jq,Int.reduceEq,fE,or_self] at a1 a2 a3 b1 b2 b3;have hl:lvl≠0:=by simpa using b1
  have hc:fF lvl=G:=by
   rw[aR.2 hl] at c;simpa using c
  simp only[fF,aU,bf] at hc;exact⟨hw,ht,.inl ⟨rfl,by show names.length=2;omega,hv0 a3,⟨lvl.toNat,by show lvl=_;omega,by omega,by omega⟩,F7 _ b2 aj,Cx _ b3 aj⟩⟩
 .right
  simp only[cu,bZ,pz,jq,Int.reduceEq,fE,or_self] at a1 a2 a3 b1 b2 b3;exact⟨hw,ht,.inr (.inl ⟨rfl,by show names.length=2;omega,hv0 a3,F8 _ b1 aj,F7 _ b2 aj,Cx _ b3 aj⟩)⟩
 .right
  simp only[cu,bZ,pz,jq,Int.reduceEq,fE,dw,or_self] at a1 a2 a3 b1 b2 b3;exact⟨hw,ht,.inr (.inr (.inl ⟨rfl,by show names.length=2;omega,by show aF.length=1;omega,F8 _ b1 aj,F7 _ b2 aj,Cx _ b3 aj⟩))⟩
 .right
  simp only[cu,bZ,pz,jq,Int.reduceEq,fE,dw,or_self] at a1 a2 a3 b1 b2 b3;exact⟨hw,ht,.inr (.inr (.inr (.inl ⟨rfl,⟨names.length - 2,by show names.length=_;omega,by show aF.length=_;omega,by omega⟩,trivial,F8 _ b1 aj,F7 _ b2 aj,Cx _ b3 aj⟩)))⟩
 .right
  simp only[cu,bZ,pz,jq,Int.reduceEq,fE,or_self] at a1 a2 a3 b1 b2 b3;exact⟨hw,ht,.inr (.inr (.inr (.inr (.inl ⟨rfl,by show names.length=1;omega,hv0 a3,F8 _ b1 aj,F7 _ b2 aj,Cx _ b3 aj⟩))))⟩
 .right
  simp only[cu,bZ,pz,jq,Int.reduceEq,fE,or_self] at a1 a2 a3 b1 b2 b3;exact⟨hw,ht,.inr (.inr (.inr (.inr (.inr (.inl ⟨rfl,by show names.length=1;omega,hv0 a3,F8 _ b1 aj,F7 _ b2 aj,Cx _ b3 aj⟩)))))⟩
 .right
  simp only[cu,bZ,pz,jq,Int.reduceEq,fE,dw,or_false] at a1 a2 a3 b1 b2 b3;exact⟨hw,ht,.inr (.inr (.inr (.inr (.inr (.inr (.inl ⟨rfl,⟨names.length - 1,by show names.length=_;omega,by omega⟩,hv0 a3,F8 _ b1 aj,F7 _ b2 aj,Cx _ b3 aj⟩))))))⟩
 .right
  simp only[cu,bZ,pz,jq,Int.reduceEq,fE,dw,or_true] at a1 a2 a3 b1 b2 b3;exact⟨hw,ht,.inr (.inr (.inr (.inr (.inr (.inr (.inr (.inl ⟨rfl,⟨names.length - 2,by show names.length=_;omega,by omega⟩,hv0 a3,F8 _ b1 aj,trivial,Cx _ b3 aj⟩)))))))⟩
 .right
  simp only[cu,bZ,pz,jq,Int.reduceEq,fE,or_self] at a1 a2 a3 b1 b2 b3;have hb:∃b:z,bits=b/\b<=15:=by
   by_cases h0:bits=0
   .exact⟨0,h0,by omega⟩
   .rw[aR.2 h0] at b3
    simp at b3;exact⟨bits.toNat,by omega,by omega⟩
  exact⟨hw,ht,.inr (.inr (.inr (.inr (.inr (.inr (.inr (.inr ⟨rfl,by show names.length=1;omega,hv0 a3,F8 _ b1 aj,F7 _ b2 aj,hb⟩)))))))⟩
def ajq (s:aP):Bs:=if s.kind=0 then [10] else ajp s
abbrev Er:=Bs × F
def rC (c:U):Bool:=c==32||c==9
def bX (l:Bs):Bs:=l.dropWhile rC
def jf (l:Bs):Bool:=l.head?==Q||l.head?==H 10||l.head?==H 35
def dU (l:Bs):Except Er (Bool × Bs):=
 if jf (bX l)=G then .ok (C,bX l) else if(bX l).length=l.length then .error (bX l,220) else .ok (G,bX l)
def eU (l:Bs):Except Er Bs:=
 match dU l with
 | .error x=> .error x
 | .ok (G,r)=> .ok r
 | .ok (C,r)=> .error (r,220)
def rX (c:U):Bool:=(c==46||c==95)||(decide (48<=c) && decide (c<=57))||(decide (97<=c) && decide (c<=122))||(decide (65<=c) && decide (c<=90))
def fu (l:Bs):Bs:=l.takeWhile rX
def qi (l:Bs):Bs:=match(l.drop (fu l).length).head? with
 |some c=>if 128<=c then fu l++[128] else fu l
 |none=>fu l
def jw:Bs->Bs->z
 |a::x,b::y=>if a=b then jw x y+1 else 0
 |_,_=>0
def zm (ws:L Bs)(t:Bs):z:=ws.foldl (λm s=>max m (jw s t)) 0
def eT (ws:L Bs)(l:Bs):Except Er (z × Bs):=
 match ws.findIdx? (λs=>s==qi l) with
 |some i=> .ok (i,l.drop (fu l).length)
 |none=> .error (l.drop (zm ws (fu l)),220)
def dV (l:Bs):z:=iy ⟨l.toArray⟩ jY
def dX (l:Bs):Bool:=!l.isEmpty && (okB ⟨l.toArray⟩ 0 && iQ (J ⟨l.toArray⟩ 0).1)
def vC (l:Bs):z:=(((bN ⟨l.toArray⟩ l.length 0).filter (λi=>decide (i<=24))).getLast?).getD 0
def dB (l:Bs):Except Er (Bs × Bs):=
 if(jf l||!dX l)=G then .error (l,220)
 else if 24<dV l then .error (l.drop (vC (l.take (dV l))),220)
 else .ok (l.take (dV l),l.drop (dV l))
def jR (c:U):Bool:=decide (48<=c) && decide (c<=57)
def vR (l:Bs):z:=l.foldl (λn c=>n*10+(c.toNat - 48)) 0
def za (nm:Bs)(l:Bs):Except Er (To × Bs):=
 let ds:=l.takeWhile jR
 if ds.head?=Q\/ds.head?=H 48 then .error (l,220)
 else if 999<vR ds then .error (l,3)
 else .ok (⟨nm,vR ds⟩,l.drop ds.length)
def gZ (l:Bs):Except Er (To × Bs):=
 if l.head?=H 45 then .ok (⟨[],0⟩,l.tail)
 else match dB l with
  | .error x=> .error x
  | .ok (nm,r)=>if r.head?=H 46 then za nm r.tail else .error (r,220)
def ku:z->L Bs->Bs->Except Er (L Bs × Bs)
 |0,acc,l=> .ok (acc,l)
 |k+1,acc,l=>
  match eU l with
  | .error x=> .error x
  | .ok r=>match dB r with
   | .error x=> .error x
   | .ok (nm,r')=>ku k (acc++[nm]) r'
def kP:L Bs:=[yg 0,yg 1,yg 2,yg 3]
def oI:L Bs:=[zT 1,zT 2,zT 3,zT 4]
def nA:L Bs:=[fI 1,fI 2,fI 3,fI 4,fI 5,fI 6,fI 7,fI 8,fI 9]
def jS:z->z->F->Bs->Except Er (F × Bs)
 |0,_,b,l=> .ok (b,l)
 |f+1,k,b,l=>
  match dU l with
  | .error x=> .error x
  | .ok (C,r)=> .ok (b,r)
  | .ok (G,r)=>match eT (kP.drop k) r with
   | .error x=> .error x
   | .ok (i,r')=>jS f (k+i+1) (b+2 ^ (k+i)) r'
def bW (pairs:Bool)(most:z):z->z->L Bs->L To->Bs->Except Er ((L Bs × L To) × Bs)
 |0,_,ns,vs,l=> .ok ((ns,vs),l)
 |f+1,many,ns,vs,l=>
  match dU l with
  | .error x=> .error x
  | .ok (C,r)=> .ok ((ns,vs),r)
  | .ok (G,r)=>
   if many=most/\dX r=G then .error (r,3)
   else match dB r with
    | .error x=> .error x
    | .ok (nm,r1)=>
     if pairs=G then match eU r1 with
      | .error x=> .error x
      | .ok r2=>match gZ r2 with
       | .error x=> .error x
       | .ok (v,r3)=>bW pairs most f (many+1) (ns++[nm]) (vs++[v]) r3
     else bW pairs most f (many+1) (ns++[nm]) vs r1
def kN (l:Bs):Except Er (Bool × Bs):=
 match dU l with
 | .error x=> .error x
 | .ok (G,r)=>if r.head?=H 45 then .ok (G,r.tail) else .ok (C,l)
 | .ok (C,_)=> .ok (C,l)
def vz (k:z)(ns:L Bs)(l:Bs):Except Er (aP × Bs):=
 if k=1 then match eU l with
  | .error x=> .error x
  | .ok r=>match eT oI r with
   | .error x=> .error x
   | .ok (i,r')=> .ok (⟨k,ns,1+i,[],C,0⟩,r')
 else if k=3 then match eU l with
  | .error x=> .error x
  | .ok r=>match gZ r with
   | .error x=> .error x
   | .ok (v,r')=> .ok (⟨k,ns,0,[v],C,0⟩,r')
 else if k=9 then match jS 5 0 0 l with
  | .error x=> .error x
  | .ok (b,r)=> .ok (⟨k,ns,0,[],C,b⟩,r)
 else if k=8 then match kN l with
  | .error x=> .error x
  | .ok (f,r)=>match bW C 300 301 0 ns [] r with
   | .error x=> .error x
   | .ok ((ns',vs'),r')=> .ok (⟨k,ns',0,vs',f,0⟩,r')
 else if k=4 then match bW G 40 41 0 ns [] l with
   | .error x=> .error x
   | .ok ((ns',vs'),r')=> .ok (⟨k,ns',0,vs',C,0⟩,r')
 else if k=7 then match bW C 300 301 0 ns [] l with
   | .error x=> .error x
   | .ok ((ns',vs'),r')=> .ok (⟨k,ns',0,vs',C,0⟩,r')
 else .ok (⟨k,ns,0,[],C,0⟩,l)
def kC (l:Bs):Except Er (aP × Bs):=
 if jf (bX l)=G then .ok (⟨0,[],0,[],C,0⟩,bX l)
 else match eT nA (bX l) with
  | .error x=> .error x
  | .ok (i,r)=>match ku (cu (i+1)).toNat [] r with
   | .error x=> .error x
   | .ok (ns,r1)=>match vz (i+1) ns r1 with
    | .error x=> .error x
    | .ok (s,r2)=>match dU r2 with
     | .error x=> .error x
     | .ok (G,r3)=> .error (r3,220)
     | .ok (C,r3)=> .ok (s,r3)
def Ja (r:F):Bool:=decide (32<=r)||r==9
def kW (l:Bs):Bs:=if l.head?=H 35 then l.drop (iy ⟨l.toArray⟩ Ja) else l
def wU (l:Bs):Except Er (aP × Bs):=
 match kC l with
 | .error x=> .error x
 | .ok (s,r)=>
  if(kW r).head?=Q then .ok (s,[]) else if(kW r).head?=H 10 then .ok (s,(kW r).tail) else .error (kW r,220)
theorem iM (l:Bs):ByteArray.size ⟨l.toArray⟩=l.length:=by simp[ByteArray.size]
theorem Jj (s:Bs)(p:z):(⟨s.toArray⟩:ByteArray).extract p s.length=⟨(s.drop p).toArray⟩:=by
 apply ByteArray.ext
 rw[ByteArray.data_extract]
 apply Array.ext'
 simp[dR]
theorem qG (s:Bs)(p:z):(⟨s.toArray⟩:ByteArray).extract 0 p=⟨(s.take p).toArray⟩:=by
 apply ByteArray.ext
 rw[ByteArray.data_extract]
 apply Array.ext'
 simp
theorem sJ (l:Bs)(p:z):J ⟨l.toArray⟩ p=J ⟨(l.drop p).toArray⟩ 0:=by
 rw[<-Jj];have:=Lib.tail_decode ⟨l.toArray⟩ p 0;rw[iM] at this;rw[this,bM]
theorem OC (l:Bs)(p:z):okB ⟨l.toArray⟩ p=okB ⟨(l.drop p).toArray⟩ 0:=by unfold okB;rw[sJ]
theorem sQ (b:U)(t:Bs)(h:b.toNat<128):J ⟨(b::t).toArray⟩ 0=(b.toNat,1):=decode_ascii ⟨(b::t).toArray⟩ 0 (by rw[iM];simp) h
theorem Dy (b:U)(t:Bs)(h:128<=b.toNat):128<=(J ⟨(b::t).toArray⟩ 0).1/\1<=(J ⟨(b::t).toArray⟩ 0).2:=decode_high ⟨(b::t).toArray⟩ 0 (by rw[iM];simp) h
theorem Cy (l:Bs)(h:l≠[]):1<=(J ⟨l.toArray⟩ 0).2:=by
 cases l with
 |nil=>exact absurd rfl h
 |cons b t=>
  rcases jP b.toNat 128 with h1|h1
  .rw[sQ b t h1];exact aA _
  .exact(Dy b t h1).2
theorem Nh (b:U)(t:Bs)(h:b.toNat<128):okB ⟨(b::t).toArray⟩ 0=G:=by
 unfold okB;rw[sQ b t h];rw[show((b.toNat:F)==65533)=C from aR.2 ah];rfl
theorem Dl (l:Bs)(d:z):∀(n p:z),bN ⟨l.toArray⟩ n (d+p)=(bN ⟨(l.drop d).toArray⟩ n p).map (d+ ·)
 |0,_=>rfl
 |n+1,p=>by
  simp only[bN,iM,kz];have e:J ⟨l.toArray⟩ (d+p)=J ⟨(l.drop d).toArray⟩ p:=by
   rw[sJ l (d+p),sJ (l.drop d) p,zB]
  by_cases h:d+p<l.length
  .rw[ay h,ay ah,e,Nat.add_assoc,Dl l d n];rfl
  .rw[ak h,ak ah];rfl
theorem Bw (s:ByteArray):∀(n m p:z),s.size<=p+n->s.size<=p+m->bN s n p=bN s m p
 |0,m,p,h1,_=>by cases m <;> simp only[bN];rw[ak ah]
 |n+1,0,p,_,h2=>by simp only[bN];rw[ak ah]
 |n+1,m+1,p,h1,h2=>by
  simp only[bN];by_cases h:p<s.size
  .rw[ay h,ay h]
   have:=width_pos s p h;rw[Bw s n m _ ah ah]
  .rw[ak h,ak h]
theorem Bz (l:Bs)(h:l≠[]):(J ⟨l.toArray⟩ 0).2<=l.length:=by
 have h1:1<=l.length:=by
  cases l with
  |nil=>exact absurd rfl h
  |cons b t=>simp
 unfold J;simp only[iM]
 split
 .exact h1
 split
 .rename_i g
  simp only[aU,bf] at g
  split
  .show 2<=_;omega
  .exact h1
 split
 .rename_i g
  simp only[aU,bf] at g
  split
  .show 3<=_;omega
  .exact h1
 split
 .rename_i g
  simp only[aU,bf] at g
  split
  .show 4<=_;omega
  .exact h1
 .exact h1
theorem TS (l:Bs)(p:F->Bool)(d q:z):qj ⟨l.toArray⟩ p (d+q)=qj ⟨(l.drop d).toArray⟩ p q:=by
 unfold qj;rw[OC l (d+q),OC (l.drop d) q,sJ l (d+q),sJ (l.drop d) q,zB]
theorem lC (l:Bs)(p:F->Bool)(h:l≠[]):iy ⟨l.toArray⟩ p=
  if(okB ⟨l.toArray⟩ 0 && p ((J ⟨l.toArray⟩ 0).1:F))=G then(J ⟨l.toArray⟩ 0).2+iy ⟨(l.drop (J ⟨l.toArray⟩ 0).2).toArray⟩ p else 0:=by
 obtain⟨d,hd⟩:∃d,d=(J ⟨l.toArray⟩ 0).2:=⟨_,rfl⟩;have hw:=Cy l h;rw[<-hd] at hw ⊢;obtain⟨n,hn⟩:∃n,l.length=n+1:=⟨l.length - 1,by have:l.length≠0:=λe=>h (AA e);omega⟩;have hp:bN ⟨l.toArray⟩ l.length 0=0::(bN ⟨(l.drop d).toArray⟩ (l.drop d).length 0).map (d+ ·):=by
  rw[hn];simp only[bN,iM];rw[ay ah,<-hd,bU,<-bM d,Dl,bM,Bw ⟨(l.drop d).toArray⟩ n (l.drop d).length 0 (by rw[iM,kz];omega) (by rw[iM];omega)]
 unfold iy;rw[iM,iM,hp];simp only[List.find?_cons,List.find?_map];unfold qj
 cases hk:(okB ⟨l.toArray⟩ 0 && p ((J ⟨l.toArray⟩ 0).1:F))
 .simp
 .simp only[Bool.not_true,dw]
  have e:((λpos=>!(okB ⟨l.toArray⟩ pos && p ((J ⟨l.toArray⟩ pos).1:F)))∘λx=>d+x)=qj ⟨(l.drop d).toArray⟩ p:=by
   funext q
   exact TS l p d q
  have e2:(λpos=>!(okB ⟨(l.drop d).toArray⟩ pos && p ((J ⟨(l.drop d).toArray⟩ pos).1:F)))=qj ⟨(l.drop d).toArray⟩ p:=rfl;rw[e,e2]
  cases hf:List.find? (qj ⟨(l.drop d).toArray⟩ p) (bN ⟨(l.drop d).toArray⟩ (l.drop d).length 0) with
  |none=>
   simp only[Option.map_none,Option.getD_none];have hx:d<=l.length:=by rw[hd];exact Bz l h
   rw[kz];omega
  |some q=>simp
theorem F9 (p:F->Bool)(q:U->Bool)(h:∀b:U,b.toNat<128->p (b.toNat:F)=q b)(hh:∀r:z,128<=r->p (r:F)=C)(hq:∀b:U,128<=b.toNat->q b=C):
  ∀l:Bs,iy ⟨l.toArray⟩ p=(l.takeWhile q).length
 |[]=>rfl
 |b::t=>by
  rw[lC (b::t) p au];rcases jP b.toNat 128 with h1|h1
  .rw[sQ b t h1,Nh b t h1,Bool.true_and,h b h1]
   cases hb:q b
   .rw[pu,hb];rfl
   .rw[ay rfl,pu,hb,ay rfl]
    show 1+iy ⟨t.toArray⟩ p=_;rw[F9 p q h hh hq t,jd];omega
  .rw[hh _ (Dy b t h1).1,Bool.and_false,pu,hq b h1];rfl
theorem Fp (p:z->Bool)(q:U->Bool)(h:∀b:U,b.toNat<128->p b.toNat=q b)(hh:∀r:z,128<=r->p r=C)(hq:∀b:U,128<=b.toNat->q b=C)(l:Bs):
  ∀f pos:z,l.length<=pos+f->pos<=l.length->Lib.idxFuncFrom p C ⟨l.toArray⟩ f pos=if pos+((l.drop pos).takeWhile q).length<l.length then((pos+((l.drop pos).takeWhile q).length:z):F) else -1
 |0,pos,h1,h2=>by
  have e:pos=l.length:=by omega
  subst e;rw[ak ah];rfl
 |f+1,pos,h1,h2=>by
  unfold Lib.idxFuncFrom;rw[iM];by_cases hp:pos<l.length
  .rw[ay hp]
   obtain⟨b,t,hbt⟩:∃b t,l.drop pos=b::t:=⟨_,_,nN hp⟩;rw[sJ l pos,hbt];rcases jP b.toNat 128 with h3|h3
   .rw[sQ b t h3]
    simp only[h b h3]
    cases hb:q b
    .rw[ay rfl,pu,hb]
     simp only[Ea,fE,mg,bM];rw[ay hp]
    .rw[ak au,Fp p q h hh hq l f (pos+1) ah ah]
     have ht:l.drop (pos+1)=t:=by rw[<-zB,hbt];rfl
     rw[ht,pu,hb,ay rfl,jd,show pos+1+(t.takeWhile q).length=pos+((t.takeWhile q).length+1) by omega]
   .rw[ay (hh _ (Dy b t h3).1),pu,hq b h3]
    simp only[Ea,fE,mg,bM];rw[ay hp]
  .rw[ak hp,ak ah]
theorem vD {α:Type}(q:α->Bool)(l:L α):l.drop (l.takeWhile q).length=l.dropWhile q:=by
 induction l with
 |nil=>rfl
 |cons b t ih=>
  rw[pu,List.dropWhile_cons]
  cases q b
  .rfl
  .simpa using ih
theorem pV {α:Type}(q:α->Bool)(l:L α):(l.takeWhile q).length+(l.dropWhile q).length=l.length:=by
 rw[<-dH,List.takeWhile_append_dropWhile]
theorem TT (p:z->Bool)(q:U->Bool)(h:∀b:U,b.toNat<128->p b.toNat=q b)(hh:∀r:z,128<=r->p r=C)(hq:∀b:U,128<=b.toNat->q b=C)(l:Bs):
  Lib.trimLeftF p ⟨l.toArray⟩=⟨(l.dropWhile q).toArray⟩:=by
 have hl:=pV q l;unfold Lib.trimLeftF Lib.idxFunc;rw[iM,Fp p q h hh hq l l.length 0 ah ah];simp only[List.drop_zero,bU];by_cases hp:(l.takeWhile q).length<l.length
 .rw[ay hp,ak ah,kS,Jj,vD]
 .rw[ak hp,ay rfl,AA (l:=l.dropWhile q) ah]
def zK (r:F):Bool:=r==32||r==9
theorem FL (b:U):zK (b.toNat:F)=rC b:=by
 have hx:∀n:z,(((b.toNat:F)==(n:F))=decide (b.toNat=n)):=λn=>by
  by_cases h:b.toNat=n
  .simp[h]
  .rw[aR.2 ah];simp[h]
 have hy:∀c:U,(b==c)=decide (b.toNat=c.toNat):=λc=>by
  by_cases h:b=c
  .simp[h]
  .rw[aR.2 h,aX (λe=>h (mV.1 e))]
 unfold zK rC;rw[hy 32,hy 9,show(32:F)=((32:z):F) from rfl,show(9:F)=((9:z):F) from rfl,hx,hx];rfl
theorem OD (r:z)(h:128<=r):zK (r:F)=C:=by
 unfold zK;rw[aR.2 ah,aR.2 ah];rfl
theorem Wt (b:U)(h:128<=b.toNat):rC b=C:=by rw[<-FL];exact OD _ h
theorem Y7 (l:Bs):iy ⟨l.toArray⟩ zK=(l.takeWhile rC).length:=F9 zK rC (λb _=>FL b) OD Wt l
theorem adk (l:Bs):Lib.trimLeftF (λr=>zK (r:F)) ⟨l.toArray⟩=⟨(bX l).toArray⟩:=TT _ rC (λb _=>FL b) OD Wt l
theorem LW (l:Bs):(bX l).length<=l.length:=by have:=pV rC l;unfold bX;omega
theorem Kb (l:Bs):l.drop (l.length - (bX l).length)=bX l:=by
 have:=pV rC l;unfold bX at*;rw[show l.length - (l.dropWhile rC).length=(l.takeWhile rC).length by omega,vD]
theorem adl (l:Bs)(i:z)(b:U)(h:l[i]?=H b):∃hi:i<ByteArray.size ⟨l.toArray⟩,(⟨l.toArray⟩:ByteArray)[i]'hi=b:=by
 obtain⟨h1,h2⟩:=bG.1 h;exact⟨by rw[iM];exact h1,by rw[<-h2];rfl⟩
theorem jH {P:Program}{t:TypeId}(ht:P.underlying t=H .string)(l:Bs)(i:z)(b:U)(h:l[i]?=H b)(W:D):(Instr.index t (S ⟨l.toArray⟩) (.int V (i:F))).run P W= .ok (.int .u8 (b.toNat:F)) W:=by
 obtain⟨hi,hx⟩:=adl l i b h;rw[run_index_string W t _ V i ht,dif_pos ⟨by omega,by omega⟩];simp only[kS,hx]
theorem oD {P:Program}{t:TypeId}(ht:P.underlying t=H .string)(l:Bs)(i:z)(h:i<=l.length)(W:D):(Instr.slice t (S ⟨l.toArray⟩) (H (.int V (i:F))) Q Q).run P W= .ok (S ⟨(l.drop i).toArray⟩) W:=by
 rw[run_slice_string_l W t _ ht V i ah (by rw[iM];omega),kS,iM,Jj]
theorem AX {P:Program}{t:TypeId}(ht:P.underlying t=H .string)(l:Bs)(i:z)(h:i<=l.length)(W:D):(Instr.slice t (S ⟨l.toArray⟩) Q (H (.int V (i:F))) Q).run P W= .ok (S ⟨(l.take i).toArray⟩) W:=by
 rw[run_slice_string_h W t _ ht V i ah (by rw[iM];omega),kS,qG]
theorem TU (b c:U):(b==c)=((b.toNat:F)==(c.toNat:F)):=by
 by_cases h:b=c
 .simp[h]
 .rw[aR.2 h,aR.2 (λe=>h (mV.1 ah))]
theorem AO (b:U)(t:Bs):jf (b::t)=(((b.toNat:F)==10)||((b.toNat:F)==35)):=by
 unfold jf;simp only[GR];rw[show((H b==Q):Bool)=C from rfl,Bool.false_or];show((b==10)||(b==35))=_;rw[TU b 10,TU b 35];rfl
@[reducible] def sZ (s:Bs)(p:z)(c:bB):Array Z:=#[S ⟨s.toArray⟩,.int V p,.int V c.kind,.slice c.na c.nn c.nc,.int V c.lvl,.slice c.va c.vn c.vc,.bool c.first,.int V c.bits]
structure dY (w:D)(R:z)(s:Bs)(p:z)(l:Bs)(c:bB)(n:aP):Prop where
 x:Bx w R (sZ s p c)
 n:iB w (R+1) c n
 d:s.drop p=l
 le:p<=s.length
 lim:s.length<=1000000
def nY (R:z)(c:bB)(i:z):Prop:=i≠R/\(O c.na c.nn c.nc).ownBlock≠H i/\(O c.va c.vn c.vc).ownBlock≠H i
structure Mv (R:z)(c c':bB)(w w':D):Prop where
 same:Same (nY R c) w w'
 na:∀g,(O c'.na c'.nn c'.nc).ownBlock=H g->(O c.na c.nn c.nc).ownBlock=H g\/w.1.size<=g
 va:∀g,(O c'.va c'.vn c'.vc).ownBlock=H g->(O c.va c.vn c.vc).ownBlock=H g\/w.1.size<=g
theorem Mv.refl (R:z)(c:bB)(w:D):Mv R c c w w:=⟨Same.refl' _,λ_ h=> .inl h,λ_ h=> .inl h⟩
theorem Mv.of_below {R:z}{c:bB}{w w':D}(h:Below w.1.size w w'):Mv R c c w w':=⟨Same.of_below h (λ_ _ h=>h),λ_ h=> .inl h,λ_ h=> .inl h⟩
theorem Mv.rda {R:z}{c c':bB}{w w':D}(h:Mv R c c' w w'){i:z}(hi:nY R c i)(hl:i<w.1.size):nY R c' i:=
 ⟨hi.1,λe=>(h.na i e).elim hi.2.1 (λk=>by omega),λe=>(h.va i e).elim hi.2.2 (λk=>by omega)⟩
theorem Mv.jI {R:z}{c c':bB}{w w' w'':D}(h:Mv R c c' w w')(k:Same (nY R c') w' w''):Same (nY R c) w w'':=
 ⟨k.os.trans h.same.os,k.tape.trans h.same.tape,k.output.trans h.same.output,dL h.same.size k.size,λi hi hl=>(k.block i (h.rda hi hl) (dz hl h.same.size)).trans (h.same.block i hi hl)⟩
theorem Mv.trans {R:z}{c c' c'':bB}{w w' w'':D}(h:Mv R c c' w w')(k:Mv R c' c'' w' w''):Mv R c c'' w w'':=
 ⟨h.jI k.same,λg hg=>(k.na g hg).elim (λe=>h.na g e) (λe=> .inr (dL h.same.size e)),λg hg=>(k.va g hg).elim (λe=>h.va g e) (λe=> .inr (dL h.same.size e))⟩
theorem Mv.bx {R:z}{c c':bB}{w w':D}(h:Mv R c c' w w'){b:z}{cs:Array Z}(hb:Bx w b cs)(hA:nY R c b):Bx w' b cs:=h.same.bx hb hA
theorem dY.new {w:D}{R p:z}{s l:Bs}{c:bB}{n:aP}(h:dY w R s p l c n){i:z}(hi:w.1.size<=i):nY R c i:=
 ⟨by have:=h.x.2.2;omega,h.n.2.1.far' (.inr hi),h.n.2.2.far' (.inr hi)⟩
theorem dY.old {w:D}{R p:z}{s l:Bs}{c:bB}{n:aP}(h:dY w R s p l c n){i:z}(hi:i<R):nY R c i:=
 ⟨by omega,h.n.2.1.far' (.inl ah),h.n.2.2.far' (.inl ah)⟩
theorem dY.below {w w':D}{R p:z}{s l:Bs}{c:bB}{n:aP}(h:dY w R s p l c n)(hb:Below w.1.size w w'):dY w' R s p l c n:=
 ⟨h.x.keep hb,h.n.below hb,h.d,h.le,h.lim⟩
theorem dY.len {w:D}{R p:z}{s l:Bs}{c:bB}{n:aP}(h:dY w R s p l c n):p+l.length=s.length:=by
 have:=h.le;rw[<-h.d,kz];omega
theorem dY.go {w:D}{R p:z}{s l:Bs}{c:bB}{n:aP}(h:dY w R s p l c n)(k:z)(hk:k<=l.length):
  dY (w.setCell ⟨R,1,Q⟩ (.int V ((p+k:z):F))) R s (p+k) (l.drop k) c n/\Mv R c c w (w.setCell ⟨R,1,Q⟩ (.int V ((p+k:z):F))):=by
 have hx:=h.x.aZ 1 au (.int V ((p+k:z):F));have hs:Same (nY R c) w (w.setCell ⟨R,1,Q⟩ (.int V ((p+k:z):F))):=Same.setCell _ _ _ _ (λe=>e.1 rfl);refine⟨⟨hx,⟨h.n.1,h.n.2.1.block λg hg=>?_,h.n.2.2.block λg hg=>?_⟩,?_,?_,h.lim⟩,hs,λ_ h=> .inl h,λ_ h=> .inl h⟩
 .exact Below.heap_setCell _ _ _ _ (by have:=(h.n.2.1.lt g hg).1;simp;omega)
 .exact Below.heap_setCell _ _ _ _ (by have:=(h.n.2.2.lt g hg).1;simp;omega)
 .rw[<-h.d,zB]
 .have:=h.len;omega
def oH (p:z)(m:F):L PanicEntry:=[⟨.iface 182 (.agg #[.int V p,.int V m]),C,C⟩]
theorem mJ (p:z)(m:F)(w:D):Calls I 133 #[.int V p,.int V m] w λe w'=>e= .panicked (oH p m)/\w'=w:=by
 go_enter func133,ntmps133
 go_wp2
 exact⟨rfl,rfl,rfl⟩
theorem Y8 (r:F)(w:D):Calls I 147 #[.int .i32 r] w λe w'=>e= .returned (.bool (zK r))/\∃q,w'=w.drewN q:=by
 unfold zK
 cases h1:r==32 <;> cases h2:r==9
 all_goals
  go_enter func147,ntmps147
  go_wp2
  go_ret;exact⟨rfl,0,rfl⟩
theorem TV:∀args w,(callFunc 147 args).run I w= .ok (.enter 147 args) w:=enters_of func147 av rfl
theorem RG (l:Bs)(w:D):Calls I 146 #[S ⟨l.toArray⟩,.func (.func 147) #[] #[]] w (cK (S ⟨(bX l).toArray⟩) w):=by
 have:=Tryz.strings_TrimLeftFunc 147 #[] TV (λr=>zK (r:F)) ⟨l.toArray⟩ w (λW r _=>by unfold FnGives;exact Y8 (r:F) W);rw[adk] at this;exact this
theorem dY.c0 {w:D}{R p:z}{s l:Bs}{c:bB}{n:aP}(h:dY w R s p l c n):w.cell? ⟨R,0,Q⟩=H (S ⟨s.toArray⟩):=h.x.1 0
theorem dY.c1 {w:D}{R p:z}{s l:Bs}{c:bB}{n:aP}(h:dY w R s p l c n):w.cell? ⟨R,1,Q⟩=H (.int V p):=h.x.1 1
theorem dY.at_ {w:D}{R p:z}{s t:Bs}{b:U}{c:bB}{n:aP}(h:dY w R s p (b::t) c n):s[p]?=H b:=by
 have:=dF (λl=>l[0]?) h.d
 simpa using this
theorem Hg {R p:z}{s l:Bs}{c:bB}{n:aP}(w:D)(h:dY w R s p l c n):Calls I 148 #[.pointer (H ⟨R,0,Q⟩)] w (cK (.bool (jf l)) w):=by
 have c0:=h.c0;have c1:=h.c1;have hlen:=h.len;have hlim:=h.lim
 cases hl:l with
 |nil=>
  obtain rfl:p=s.length:=by rw[hl] at hlen;simpa using hlen
  have hz:=iM s;clear h hlen;go_enter func148,ntmps148
  go_wp2_with (go_quiet (fail))
  go_ret;exact⟨rfl,fA (N _ _) _⟩
 |cons b t=>
  subst hl;have hix:=λW=>jH Tryz.underlying9 s p b h.at_ W
  have hlt:p<s.length:=by simp at hlen;omega
  have hz:=iM s;have hne:((p:F)==(s.length:F))=C:=aR.2 ah;clear h hlen;by_cases h10:b.toNat=10
  .have hb:((b.toNat:F)==10)=G:=by simp[h10]
   go_enter func148,ntmps148
   go_wp2_with (go_quiet (fail))
   go_ret;exact⟨by rw[AO,hb];rfl,fA (N _ _) _⟩
  .have hb:((b.toNat:F)==10)=C:=aR.2 ah
   cases NG:((b.toNat:F)==35)
   all_goals
    go_enter func148,ntmps148
    go_wp2_with (go_quiet (fail))
    go_ret;exact⟨by rw[AO,hb,NG];rfl,fA (N _ _) _⟩
def dJ {α:Type}(R:z)(s:Bs)(c:bB)(w:D)(val:α->Z)(x:Except Er (α × aP × Bs))(e:Ending)(w':D):Prop:=
 match x with
 | .error (r,m)=>e= .panicked (oH (s.length - r.length) m)/\Same (nY R c) w w'
 | .ok (a,n',r)=>e= .returned (val a)/\∃p' c',dY w' R s p' r c' n'/\Mv R c c' w w'
def nT {α:Type}(R:z)(s:Bs)(c:bB)(n:aP)(w:D)(val:α->Z)(x:Except Er (α × Bs))(e:Ending)(w':D):Prop:=
 match x with
 | .error (r,m)=>e= .panicked (oH (s.length - r.length) m)/\Same (nY R c) w w'
 | .ok (a,r)=>e= .returned (val a)/\∃p',dY w' R s p' r c n/\Mv R c c w w'
theorem dY.to {w:D}{R p:z}{s l r:Bs}{c:bB}{n:aP}(h:dY w R s p l c n)(k:z)(hk:l.drop k=r)(hle:k<=l.length)(q:z)(hq:q=p+k):
  dY (w.setCell ⟨R,1,Q⟩ (.int V (q:F))) R s q r c n/\Mv R c c w (w.setCell ⟨R,1,Q⟩ (.int V (q:F))):=by
 subst hq hk;exact h.go k hle
theorem dY.drew {w:D}{R p:z}{s l:Bs}{c:bB}{n:aP}(h:dY w R s p l c n):dY w.drew R s p l c n:=⟨h.x,h.n,h.d,h.le,h.lim⟩
theorem f1 {w:D}{R p:z}{s l:Bs}{c:bB}{n:aP}(h:dY w R s p l c n)(i:z):w.frozen? ⟨R,i,Q⟩=C:=h.x.2.1 i
theorem Du {R p:z}{s l:Bs}{c:bB}{n:aP}(w:D)(h:dY w R s p l c n):
  Calls I 158 #[.pointer (H ⟨R,0,Q⟩)] w (nT R s c n w (λb:Bool=> .bool b) (dU l)):=by
 have c0:=h.c0;have c1:=h.c1;have z1:=f1 h 1;have hlen:=h.len;have hlim:=h.lim;have hsl:=λW=>oD Tryz.underlying9 s p ah W
 rw[h.d] at hsl;have hz:=iM s;have hz2:=iM (bX l);have hsk:=LW l;have HH:=M h;have HLEN:=M hlen;have gB:=M hsk;clear h hlen hsk;go_enter func158,ntmps158;go_wp2_with fail;refine aC 11 [(0,0),(1,0),(2,0),(3,0),(4,0),(5,0),(6,0),(7,0),(8,0),(9,2),(10,0)] (λ_=>True) (λW'=>W'.cell? ⟨R,0,Q⟩=H (S ⟨s.toArray⟩)/\W'.cell? ⟨R,1,Q⟩=H (.int V p)) av av (trivial) (⟨HH.q.c0,HH.q.c1⟩) ?_;refine qC ?_;refine aD rfl rfl (λK hK=>?_);go_simp;refine(RG l _).mono ?_;rintro e w2 ⟨rfl,hb2⟩;have Ka:=HH.q.drew.below hb2;refine hK _ _ ⟨trivial,Ka.c0,Ka.c1⟩ ?_;have LX:=M Ka;have HB2:=M hb2;clear hK K hb2 Ka c0 c1 z1;refine qC ?_;refine aJ ?_;have hb2:Below w.1.size w w2:=(N _ _).drew.trans HB2.q;obtain⟨q,hq⟩:∃q:z,q=s.length - (bX l).length:=⟨_,rfl⟩;have hwq:wrap64 ((s.length:F) - ((bX l).length:F))=(q:F):=by
  have:=HLEN.q;have:=gB.q;rw[show(s.length:F) - ((bX l).length:F)=(q:F) by omega];exact IntWalk.wrap64_in _ ah
 have ht:=LX.q.to (l.length - (bX l).length) (Kb l) ah q (by have:=HLEN.q;have:=gB.q;omega);have HT:=M ht.1;have HM:=M ((Mv.of_below (R:=R) (c:=c) hb2).trans ht.2);have HQ:=M hq;have c0:=LX.q.c0;have c1:=LX.q.c1;have z1:=f1 LX.q 1;have hMS:dU l=if jf (bX l)=G then .ok (C,bX l) else if q=p then .error (bX l,220) else .ok (G,bX l):=by
  unfold dU;have:=HLEN.q;have:=gB.q;by_cases h1:jf (bX l)=G
  .rw[ay h1,ay h1]
  .rw[ak h1,ak h1]
   by_cases h2:q=p
   .rw[ay h2,ay ah]
   .rw[ak h2,ak ah]
 have HMS:=M hMS;clear ht hq hb2 hMS;go_wp2_with fail;refine(Hg _ HT.q).mono ?_;rintro e w3 ⟨rfl,hb3⟩;have HT3:=M (HT.q.below hb3);have tY:=M (HM.q.trans (Mv.of_below hb3));clear hb3 c0 c1 z1;have c1:=HT3.q.c1
 cases hE:jf (bX l)
 .by_cases hpq:q=p
  .have hb:((q:F)==(p:F))=G:=by simp[hpq]
   go_wp2_with fail;refine(mJ p 220 _).mono ?_;rintro e w4 ⟨rfl,rfl⟩;refine⟨rfl,?_⟩;show nT R s c n w _ _ _ _;rw[HMS.q,hE,ak au,ay hpq];exact⟨by rw[<-HQ.q,hpq],tY.q.same⟩
  .have hb:((q:F)==(p:F))=C:=aR.2 ah
   go_wp2_with fail;go_ret;show nT R s c n w _ _ _ _;rw[HMS.q,hE,ak au,ak hpq];exact⟨rfl,q,HT3.q,tY.q⟩
 .go_wp2_with fail
  go_ret;show nT R s c n w _ _ _ _;rw[HMS.q,hE,ay rfl];exact⟨rfl,q,HT3.q,tY.q⟩
theorem RB {R p:z}{s l:Bs}{c:bB}{n:aP}(w:D)(h:dY w R s p l c n):
  Calls I 175 #[.pointer (H ⟨R,0,Q⟩)] w (nT R s c n w (λ_:Unit=> .tuple #[]) (match eU l with| .error x=> .error x| .ok r=> .ok ((),r))):=by
 have HR:=M (Du w h);clear h;obtain⟨X,hX⟩:∃X:Except Er (Unit × Bs),X=(match eU l with| .error x=> .error x| .ok r=> .ok ((),r)):=⟨_,rfl⟩;rw[<-hX];have HX:=M hX;clear hX;go_enter func175,ntmps175;go_wp2_with fail;refine HR.q.mono ?_;rintro e w1 he
 cases hm:dU l with
 |error x=>
  rw[hm] at he;obtain⟨rfl,hs⟩:=he;refine⟨rfl,?_⟩;show nT R s c n w _ _ _ _;rw[HX.q,show eU l= .error x by unfold eU;rw[hm]];exact⟨rfl,hs⟩
 |ok br=>
  obtain⟨b,r⟩:=br;rw[hm] at he;obtain⟨rfl,q,hc,hmv⟩:=he;have HC:=M hc;have HM:=M hmv;have c1:=hc.c1;clear hc hmv
  cases b
  .go_wp2_with fail
   refine(mJ q 220 _).mono ?_;rintro e w4 ⟨rfl,rfl⟩;refine⟨rfl,?_⟩;show nT R s c n w _ _ _ _;rw[HX.q,show eU l= .error (r,220) by unfold eU;rw[hm]];have:=HC.q.len;exact⟨by rw[show s.length - r.length=q by omega],HM.q.same⟩
  .go_wp2_with fail
   refine bodyPost_end (results_none rfl _ _ _) rfl ?_;show nT R s c n w _ _ _ _;rw[HX.q,show eU l= .ok r by unfold eU;rw[hm]];exact⟨rfl,q,HC.q,HM.q⟩
theorem Jb (r:F)(w:D):Calls I 160 #[.int .i32 r] w (cK (.bool (zK r)) w):=by
 unfold zK
 cases h1:r==32 <;> cases h2:r==9
 all_goals
  go_enter func160,ntmps160
  go_wp2
  go_ret;exact⟨rfl,N _ _⟩
theorem OE:∀args w,(callFunc 160 args).run I w= .ok (.enter 160 args) w:=enters_of func160 av rfl
theorem afT (r:F)(w:D):Calls I 177 #[.int .i32 r] w (cK (.bool (Ja r)) w):=by
 unfold Ja;by_cases h1:32<=r <;> cases h2:r==9
 all_goals
  go_enter func177,ntmps177
  go_wp2
  go_ret;exact⟨by simp[h1],N _ _⟩
theorem TW:∀args w,(callFunc 177 args).run I w= .ok (.enter 177 args) w:=enters_of func177 av rfl
theorem uz (p:F->Bool):∀(n:z)(l:Bs),l.length<=n->iy ⟨l.toArray⟩ p<=l.length
 |0,l,h=>by rw[AA (l:=l) ah];exact aA _
 |n+1,l,h=>by
  by_cases h0:l=[]
  .subst h0;exact aA _
  .rw[lC l p h0]
   split
   .have h1:=Cy l h0;have h2:=Bz l h0
    have:=uz p n (l.drop (J ⟨l.toArray⟩ 0).2) (by rw[kz];omega);rw[kz] at this;omega
   .exact aV _
def pJ (l:Bs):z:=(l.takeWhile rC).length+if(bX l).head?=H 35 then iy ⟨(bX l).toArray⟩ Ja else 0
def xC (l:Bs):Bool:=!((bX l).head?==H 35)||((l.drop (pJ l)).head?==Q||(l.drop (pJ l)).head?==H 10)
theorem Rh (l:Bs):(l.takeWhile rC).length+(bX l).length=l.length:=pV rC l
theorem sV (s:Bs)(p:z)(l:Bs)(hd:s.drop p=l)(hp:p<=s.length)(hlim:s.length<=1000000)(w:D)(hT:Lib.Utf8Tabs 5 6 w):
  Calls I 159 #[S ⟨s.toArray⟩,.int V p] w (sH (.int V ((p+pJ l:z):F)) (.bool (xC l)) w):=by
 have hll:p+l.length=s.length:=by rw[<-hd,kz];omega
 obtain⟨q,hq⟩:∃q,q=p+(l.takeWhile rC).length:=⟨_,rfl⟩;have hst:=Rh l;have Io:q<=s.length:=by omega
 have Im:s.drop q=bX l:=by rw[hq,<-zB,hd,vD];rfl
 have hsl:=λW=>oD Tryz.underlying9 s p ah W
 rw[hd] at hsl;have hz:=iM s;have hqi:(p:F)+((l.takeWhile rC).length:F)=(q:F):=by omega
 have HT:=M hT;have HW:=λW (hb:Below w.1.size w W)=>M (xJ ⟨l.toArray⟩ 160 #[] OE zK W (λr W' _=>Jb r W') (Utf8Tabs_below hT hb))
 rw[Y7] at HW;clear hT
 cases hk:bX l with
 |nil=>
  have hqe:q=s.length:=by have:=dF List.length Im;rw[kz,hk] at this;simp at this;omega
  have HN:Hid (pJ l=(l.takeWhile rC).length/\xC l=G):=M (by unfold xC pJ;rw[hk];simp);have hd1:((q:F)==(s.length:F))=G:=by simp[hqe]
  have HQ:=M hq;have HE:=M hqe;clear Im hk hst hqe hq;go_enter func159,ntmps159;go_wp2_with fail;refine(HW _ (N _ _)).q.mono ?_;rintro e w1 ⟨rfl,hb1⟩;have HB1:=M hb1;clear hb1;go_wp2_with fail
  go_ret2
  refine⟨?_,HB1.q⟩;rw[HN.q.1,HN.q.2,<-HQ.q];rfl
 |cons b t=>
  have Iu:s[q]?=H b:=by
   have:=dF (λl=>l[0]?) Im;rw[hk] at this
   simpa using this
  have asJ:q<s.length:=(bG.1 Iu).1;have hix:=λW=>jH Tryz.underlying9 s q b Iu W
  have hd1:((q:F)==(s.length:F))=C:=aR.2 ah;by_cases hb:b.toNat=35
  .have Jk:b=35:=mV.1 hb
   have hd2:((b.toNat:F)==35)=G:=by simp[hb]
   obtain⟨m,hm⟩:∃m,m=iy ⟨(bX l).toArray⟩ Ja:=⟨_,rfl⟩;have hsk:pJ l=(l.takeWhile rC).length+m:=by unfold pJ;rw[ay (by rw[hk,Jk];rfl),<-hm]
   have hml:m<=(bX l).length:=by rw[hm];exact uz _ _ _ (aA _)
   obtain⟨q2,hq2⟩:∃q2,q2=q+m:=⟨_,rfl⟩;have asK:(q:F)+(m:F)=(q2:F):=by omega
   have asL:q2<=s.length:=by omega
   have TY:s.drop q2=l.drop (pJ l):=by
    have e:pJ l=(l.takeWhile rC).length+m:=hsk;rw[e,hq2,hq,<-hd,zB,Nat.add_assoc]
   have HN:Hid (p+pJ l=q2):=M ah;have hsl2:=λW=>oD Tryz.underlying9 s q ah W
   rw[Im] at hsl2;have HW2:=λW (hb:Below w.1.size w W)=>M (xJ ⟨(bX l).toArray⟩ 177 #[] TW Ja W (λr W' _=>afT r W') (Utf8Tabs_below HT.q hb))
   rw[<-hm] at HW2;have Ma:Hid (xC l=((l.drop (pJ l)).head?==Q||(l.drop (pJ l)).head?==H 10)):=M (by unfold xC;rw[hk,Jk];rfl)
   cases hk2:l.drop (pJ l) with
   |nil=>
    have hqe:q2=s.length:=by have:=dF List.length TY;rw[kz,hk2] at this;simp at this;omega
    have hd3:((q2:F)==(s.length:F))=G:=by simp[hqe]
    have jD:Hid (xC l=G):=M (by rw[Ma.q,hk2];rfl);clear hsk Im hk hst hq Iu hb Jk hm hml hq2 TY hqe hk2;go_enter func159,ntmps159;go_wp2_with fail;refine(HW _ (N _ _)).q.mono ?_;rintro e w1 ⟨rfl,hb1⟩;have HB1:=M hb1;clear hb1;go_wp2_with fail;refine(HW2 _ HB1.q).q.mono ?_;rintro e w2 ⟨rfl,hb2⟩;have HB2:=M (HB1.q.bO hb2);clear hb2
    go_wp2_with (go_quiet (fail))
    go_ret2
    exact⟨by rw[HN.q,jD.q];rfl,fA HB2.q _⟩
   |cons b2 t2=>
    have Y9:s[q2]?=H b2:=by
     have:=dF (λl=>l[0]?) TY;rw[hk2] at this
     simpa using this
    have ar2:q2<s.length:=(bG.1 Y9).1;have NW:=λW=>jH Tryz.underlying9 s q2 b2 Y9 W
    have hd3:((q2:F)==(s.length:F))=C:=aR.2 ah;have jD:Hid (xC l=((b2.toNat:F)==10)):=M (by rw[Ma.q,hk2];show(b2==10)=_;rw[TU];rfl);clear hsk Im hk hst hq Iu hb Jk hm hml hq2 TY hk2 Y9
    cases hd4:((b2.toNat:F)==10)
    all_goals
     rw[hd4] at jD;go_enter func159,ntmps159;go_wp2_with fail;refine(HW _ (N _ _)).q.mono ?_;rintro e w1 ⟨rfl,hb1⟩;have HB1:=M hb1;clear hb1;go_wp2_with fail;refine(HW2 _ HB1.q).q.mono ?_;rintro e w2 ⟨rfl,hb2⟩;have HB2:=M (HB1.q.bO hb2);clear hb2
     go_wp2_with (go_quiet (fail))
     go_ret2
     exact⟨by rw[HN.q,jD.q];rfl,fA HB2.q _⟩
  .have hd2:((b.toNat:F)==35)=C:=aR.2 ah
   have hb':¬b=35:=λe=>hb (by rw[e];rfl)
   have HN:Hid (pJ l=(l.takeWhile rC).length/\xC l=G):=M (by unfold xC pJ;rw[hk];simp[hb']);have HQ:=M hq;clear Im hk hst hq Iu hb hb';go_enter func159,ntmps159;go_wp2_with fail;refine(HW _ (N _ _)).q.mono ?_;rintro e w1 ⟨rfl,hb1⟩;have HB1:=M hb1;clear hb1;go_wp2_with fail
   go_ret2
   refine⟨?_,HB1.q⟩;rw[HN.q.1,HN.q.2,<-HQ.q];rfl
theorem Kk (s:ByteArray):∀(n p:z),∀x∈bN s n p,p<=x
 |0,_,_,h=>by simp[bN] at h
 |n+1,p,x,h=>by
  simp only[bN] at h
  split at h
  .rcases dP.1 h with rfl|h
   .exact aA _
   .exact dL (Nat.le_add_right _ _) (Kk s n _ x h)
  .cases h
theorem filter_all {α:Type}(p:α->Bool)(l:L α)(h:∀x∈l,p x=G):l.filter p=l:=List.filter_eq_self.2 h
theorem Mc {α:Type}(p:α->Bool)(l:L α)(h:∀x∈l,p x=C):l.filter p=[]:=List.filter_eq_nil_iff.2 (λx hx=>by rw[h x hx];simp)
theorem adn (u:Bs)(hlim:u.length<=1000000)(w:D):Calls I 162 #[S ⟨u.toArray⟩] w (cK (.int V (vC u:F)) w):=by
 obtain⟨X,hX⟩:∃X,X=vC u:=⟨_,rfl⟩;rw[<-hX];have hbz:=iM u;have HX:Hid (X=(((bN ⟨u.toArray⟩ u.length 0).filter (λi=>decide (i<=24))).getLast?).getD 0):=M hX;clear hX;go_enter func162,ntmps162;go_wp2_with fail
 go_loopw [3] (λv wr=>∃(pos fuel:z)(pre:L z),v= .int V (pre.getLast?.getD 0:z)/\pre++bN ⟨u.toArray⟩ fuel pos=bN ⟨u.toArray⟩ u.length 0/\(∀x∈pre,x<=24)/\u.length<=pos+fuel/\pos<=2000000/\wr.1[w.1.size]?=H (.stringIter ⟨u.toArray⟩ pos)/\Below w.1.size w wr) (λ_ wr=>u.length - wr.iterPos w.1.size)
 case atStart=>exact⟨0,u.length,[],rfl,rfl,by simp,by omega,by omega,World.iter_heap w ⟨u.toArray⟩ 0,jV w ⟨u.toArray⟩⟩
 case round=>
  obtain⟨pos,fuel,pre,rfl,hpre,hall,hfu,hpb,hit,hbw⟩:=hrel;by_cases hp:pos<u.length
  .have hnx:∀ty,(Instr.next (.pointer (H ⟨w.1.size,0,Q⟩)) G ty).run I wr=_:=λty=>Lib.run_next_any_at wr w.1.size ⟨u.toArray⟩ pos ty hit (by rw[hbz];exact hp)
   have hwd:=width_pos ⟨u.toArray⟩ pos (by rw[hbz];exact hp);obtain⟨d,hd⟩:∃d,d=(J ⟨u.toArray⟩ pos).2:=⟨_,rfl⟩;have hw4:d<=u.length - pos:=by
    have:=Bz (u.drop pos) (by intro e;have:=dF List.length e;rw[kz] at this;simp at this;omega);rw[<-sJ,<-hd,kz] at this;exact this
   rw[<-hd] at hnx hwd;obtain⟨f,rfl⟩:∃f,fuel=f+1:=⟨fuel - 1,by omega⟩;have Kl:bN ⟨u.toArray⟩ (f+1) pos=pos::bN ⟨u.toArray⟩ f (pos+d):=by simp[bN,hbz,hp,hd]
   have hit2:=Lib.iterAt_heap wr w.1.size ⟨u.toArray⟩ pos (pos+d) hit;have hbw2:=Lib.below_iterAt hbw (k:=w.1.size) (aA _) ⟨u.toArray⟩ (pos+d);have HI:=M hit;have HI2:=M hit2;have HB2:=M hbw2;have HP:=M (Kl▸hpre);have HA:=M hall;clear hit hit2 hbw hbw2 Kl hpre hall hd;by_cases wB:pos<=24
   .have hd1:decide ((24:F)<(pos:F))=C:=aX ah
    go_wp2_with fail;go_roundw
    case rel=>exact⟨pos+d,f,pre++[pos],by simp,by rw[<-HP.q];simp,λx hx=>by
     rcases bJ.1 hx with hx|hx
     .exact HA.q x hx
     .obtain rfl:x=pos:=by simpa using hx
      exact wB,by omega,by omega,HI2.q,HB2.q⟩
    case measure=>rw[iterPos_of HI2.q,iterPos_of HI.q];omega
   .have hd1:decide ((24:F)<(pos:F))=G:=bA ah
    have HE:Hid (X=pre.getLast?.getD 0):=M (by
     rw[HX.q,<-HP.q,List.filter_append,filter_all _ pre (λx hx=>by simpa using HA.q x hx),Mc _ _ (λx hx=>?_),fw];rcases dP.1 hx with rfl|hx
     .simpa using wB
     .have:=Kk _ _ _ x hx;simp;omega)
    go_wp2_with fail;go_ret;exact⟨by rw[HE.q];rfl,HB2.q⟩
  .have hnx:∀ty,(Instr.next (.pointer (H ⟨w.1.size,0,Q⟩)) G ty).run I wr=_:=λty=>Lib.run_next_end_at wr w.1.size ⟨u.toArray⟩ pos ty hit (by rw[hbz];exact hp)
   have HE:Hid (X=pre.getLast?.getD 0):=M (by
    have e:bN ⟨u.toArray⟩ fuel pos=[]:=by cases fuel <;> simp[bN,hbz,hp]
    rw[HX.q,<-hpre,e,fw,filter_all _ pre (λx hx=>by simpa using hall x hx)])
   have HB:=M hbw;clear hpre hall hbw;go_wp2_with fail;go_ret;exact⟨by rw[HE.q];rfl,HB.q⟩
theorem K5 (q:U->Bool):∀(l:Bs)(k:z)(b:U),(∀x∈l.take k,q x=G)->l[k]?=H b->q b=C->l.takeWhile q=l.take k
 |[],_,_,_,h,_=>by simp at h
 |a::t,0,b,_,h,hb=>by
  obtain rfl:a=b:=by simpa using h
  rw[pu,hb];rfl
 |a::t,k+1,b,ha,h,hb=>by
  rw[pu,ha a au,ay rfl,List.take_succ_cons,K5 q t k b (λx hx=>ha x (by simp[hx])) (by simpa using h) hb]
theorem Wu (q:U->Bool)(l:Bs)(h:∀x∈l,q x=G):l.takeWhile q=l:=by
 induction l with
 |nil=>rfl
 |cons a t ih=>rw[pu,h a au,ay rfl,ih (λx hx=>h x (by simp[hx]))]
theorem RX (b:U):rX b=((decide (b.toNat=46)||decide (b.toNat=95))||(decide (48<=b.toNat) && decide (b.toNat<=57))||(decide (97<=b.toNat) && decide (b.toNat<=122))||(decide (65<=b.toNat) && decide (b.toNat<=90))):=by
 have e:∀c:U,(b==c)=decide (b.toNat=c.toNat):=λc=>by
  by_cases h:b=c
  .simp[h]
  .rw[aR.2 h,aX (λe=>h (mV.1 e))]
 unfold rX;rw[e 46,e 95];rfl
theorem T9 {R p:z}{s l:Bs}{c:bB}{n:aP}(w:D)(h:dY w R s p l c n):
  Calls I 170 #[.pointer (H ⟨R,0,Q⟩)] w (cK (S ⟨(fu l).toArray⟩) w):=by
 have c0:=h.c0;have c1:=h.c1;have hlen:=h.len;have hlim:=h.lim;have hsl:=λW=>oD Tryz.underlying9 s p ah W
 rw[h.d] at hsl;have hll:l.length<=1000000:=by omega
 clear h hlen hlim;go_enter func170,ntmps170
 go_wp2_with (go_quiet (fail))
 clear hsl c0 c1
 go_loopw [] (λwr=>∃k:z,k<=l.length/\wr.1[w.1.size]?=H (.stringIter ⟨l.toArray⟩ k)/\Below w.1.size w wr/\∀x∈l.take k,rX x=G) (λwr=>l.length - wr.iterPos w.1.size)
 case atStart=>exact⟨0,aV _,World.iter_heap (w.drewN _) ⟨l.toArray⟩ 0,fA (N _ _) _|>.trans (jV (w.drewN _) ⟨l.toArray⟩),by simp⟩
 case round=>
  obtain⟨k,hk,hit,hbw,hall⟩:=hrel;by_cases hp:k<l.length
  .obtain⟨b,t,hbt⟩:∃b t,l.drop k=b::t:=⟨_,_,nN hp⟩
   have hnx:∀ty,(Instr.next (.pointer (H ⟨w.1.size,0,Q⟩)) G ty).run I wr=_:=λty=>Lib.run_next_any_at wr w.1.size ⟨l.toArray⟩ k ty hit (by rw[iM];exact hp)
   have hwd:=sJ l k;rw[hbt] at hwd;rw[hwd] at hnx;have hkb:l[k]?=H b:=by
    have:=dF (λl=>l[0]?) hbt
    simpa using this
   obtain⟨r,d,hr,hd⟩:∃(r:F)(d:z),r=((J ⟨(b::t).toArray⟩ 0).1:F)/\d=(J ⟨(b::t).toArray⟩ 0).2:=⟨_,_,rfl,rfl⟩;have hbr:(b.toNat<128/\r=b.toNat/\d=1)\/(128<=b.toNat/\128<=r):=by
    rcases jP b.toNat 128 with h1|h1
    .rw[sQ b t h1] at hr hd;exact .inl ⟨h1,hr,hd⟩
    .have:=(Dy b t h1).1;exact .inr ⟨h1,by omega⟩
   rw[<-hr,<-hd] at hnx;have hit2:=Lib.iterAt_heap wr w.1.size ⟨l.toArray⟩ k (k+d) hit;have hbw2:=Lib.below_iterAt hbw (k:=w.1.size) (aA _) ⟨l.toArray⟩ (k+d);have yS:=M hbr;have tC:=M hall;have OG:=M hkb;have HB2:=M hbw2;have HI2:=M hit2;have HIT:=M hit;have hsh:=λW=>AX Tryz.underlying9 l k ah W
   have hcl:r=46\/r=95\/(48<=r/\r<=57)\/(97<=r/\r<=122)\/(65<=r/\r<=90)\/r<46\/r=47\/(57<r/\r<65)\/(90<r/\r<95)\/r=96\/122<r:=by omega
   clear hbr hall hkb hbw2 hit2 hbw hwd hr hd hbt hit;have GO:Hid ((r=46\/r=95\/(48<=r/\r<=57)\/(97<=r/\r<=122)\/(65<=r/\r<=90))->∃k':z,k'<=l.length/\(wr.iterAt w.1.size ⟨l.toArray⟩ (k+d)).1[w.1.size]?=H (.stringIter ⟨l.toArray⟩ k')/\Below w.1.size w (wr.iterAt w.1.size ⟨l.toArray⟩ (k+d))/\∀x∈l.take k',rX x=G):=M (λhr=>by
    rcases yS.q with⟨h1,h2,h3⟩|⟨h1,h2⟩
    .refine⟨k+d,by omega,HI2.q,HB2.q,λx hx=>?_⟩
     rw[h3,eO,OG.q] at hx;rcases bJ.1 hx with hx|hx
     .exact tC.q x hx
     .obtain rfl:x=b:=by simpa using hx
      rw[RX];simp only[Az,aU,bf];omega
    .exfalso;omega)
   have ME:Hid ((r=46\/r=95\/(48<=r/\r<=57)\/(97<=r/\r<=122)\/(65<=r/\r<=90))->l.length - (wr.iterAt w.1.size ⟨l.toArray⟩ (k+d)).iterPos w.1.size<l.length - wr.iterPos w.1.size):=M (λhr=>by
    rcases yS.q with⟨h1,h2,h3⟩|⟨h1,h2⟩
    .rw[iterPos_of HI2.q,iterPos_of HIT.q];omega
    .exfalso;omega)
   have ST:Hid (¬(r=46\/r=95\/(48<=r/\r<=57)\/(97<=r/\r<=122)\/(65<=r/\r<=90))->fu l=l.take k):=M (λhr=>by
    refine K5 rX l k b tC.q OG.q ?_;rw[RX];simp only[Bool.or_eq_false_iff,Bool.and_eq_false_iff,decide_eq_false_iff_not];rcases yS.q with⟨h1,h2,h3⟩|⟨h1,h2⟩ <;> omega)
   rcases hcl with h1|h1|⟨h1,h2⟩|⟨h1,h2⟩|⟨h1,h2⟩|h1|h1|⟨h1,h2⟩|⟨h1,h2⟩|h1|h1
   .subst h1
    go_wp2_with fail;go_roundw
    case rel=>exact GO.q aj
    case measure=>exact ME.q aj
   .subst h1
    go_wp2_with fail;go_roundw
    case rel=>exact GO.q aj
    case measure=>exact ME.q aj
   .have e46:(r !=46)=G:=p8.2 ah
    have RY:(r !=95)=G:=p8.2 ah;have d0:decide (r<48)=C:=aX ah;have d1:decide (57<r)=C:=aX ah;have d2:decide (r<97)=G:=bA ah;have d3:decide (122<r)=C:=aX ah;have d4:decide (r<65)=G:=bA ah;have d5:decide (90<r)=C:=aX ah;go_wp2_with fail;go_roundw
    case rel=>exact GO.q ah
    case measure=>exact ME.q ah
   .have e46:(r !=46)=G:=p8.2 ah
    have RY:(r !=95)=G:=p8.2 ah;have d0:decide (r<48)=C:=aX ah;have d1:decide (57<r)=G:=bA ah;have d2:decide (r<97)=C:=aX ah;have d3:decide (122<r)=C:=aX ah;have d4:decide (r<65)=C:=aX ah;have d5:decide (90<r)=G:=bA ah;go_wp2_with fail;go_roundw
    case rel=>exact GO.q ah
    case measure=>exact ME.q ah
   .have e46:(r !=46)=G:=p8.2 ah
    have RY:(r !=95)=G:=p8.2 ah;have d0:decide (r<48)=C:=aX ah;have d1:decide (57<r)=G:=bA ah;have d2:decide (r<97)=G:=bA ah;have d3:decide (122<r)=C:=aX ah;have d4:decide (r<65)=C:=aX ah;have d5:decide (90<r)=C:=aX ah;go_wp2_with fail;go_roundw
    case rel=>exact GO.q ah
    case measure=>exact ME.q ah
   .have e46:(r !=46)=G:=p8.2 ah
    have RY:(r !=95)=G:=p8.2 ah;have d0:decide (r<48)=G:=bA ah;have d1:decide (57<r)=C:=aX ah;have d2:decide (r<97)=G:=bA ah;have d3:decide (122<r)=C:=aX ah;have d4:decide (r<65)=G:=bA ah;have d5:decide (90<r)=C:=aX ah;go_wp2_with fail;go_ret;exact⟨by rw[ST.q ah];rfl,HB2.q⟩
   .subst h1
    go_wp2_with fail;go_ret;exact⟨by rw[ST.q aj];rfl,HB2.q⟩
   .have e46:(r !=46)=G:=p8.2 ah
    have RY:(r !=95)=G:=p8.2 ah;have d0:decide (r<48)=C:=aX ah;have d1:decide (57<r)=G:=bA ah;have d2:decide (r<97)=G:=bA ah;have d3:decide (122<r)=C:=aX ah;have d4:decide (r<65)=G:=bA ah;have d5:decide (90<r)=C:=aX ah;go_wp2_with fail;go_ret;exact⟨by rw[ST.q ah];rfl,HB2.q⟩
   .have e46:(r !=46)=G:=p8.2 ah
    have RY:(r !=95)=G:=p8.2 ah;have d0:decide (r<48)=C:=aX ah;have d1:decide (57<r)=G:=bA ah;have d2:decide (r<97)=G:=bA ah;have d3:decide (122<r)=C:=aX ah;have d4:decide (r<65)=C:=aX ah;have d5:decide (90<r)=G:=bA ah;go_wp2_with fail;go_ret;exact⟨by rw[ST.q ah];rfl,HB2.q⟩
   .subst h1
    go_wp2_with fail;go_ret;exact⟨by rw[ST.q aj];rfl,HB2.q⟩
   .have e46:(r !=46)=G:=p8.2 ah
    have RY:(r !=95)=G:=p8.2 ah;have d0:decide (r<48)=C:=aX ah;have d1:decide (57<r)=G:=bA ah;have d2:decide (r<97)=C:=aX ah;have d3:decide (122<r)=G:=bA ah;have d4:decide (r<65)=C:=aX ah;have d5:decide (90<r)=G:=bA ah;go_wp2_with fail;go_ret;exact⟨by rw[ST.q ah];rfl,HB2.q⟩
  .have hnx:∀ty,(Instr.next (.pointer (H ⟨w.1.size,0,Q⟩)) G ty).run I wr=_:=λty=>Lib.run_next_end_at wr w.1.size ⟨l.toArray⟩ k ty hit (by rw[iM];exact hp)
   have HX:Hid (fu l=l):=M (Wu rX l (by rw[dR ah] at hall;exact hall));have HB:=M hbw;clear hall hbw;go_wp2_with fail;go_ret;exact⟨by rw[HX.q];rfl,HB.q⟩
end Yd
