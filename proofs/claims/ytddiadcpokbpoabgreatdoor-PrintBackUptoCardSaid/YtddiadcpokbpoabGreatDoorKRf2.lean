import Derived.Test.YtddiadcpokbpoabGreatDoorKA0
import Derived.WalkKit
import Derived.Deep.Draws
import Derived.Test.YtddiadcpokbpoabGreatDoorProg
import Derived.Laws.StructEq
import Derived.RangeFuncNested
import Derived.RangeFuncCalls
import Derived.RangeFuncLeaves
import Derived.RangeFuncSeq
import Derived.RangeFuncBound
import Derived.Maps.AppendAt
import Derived.Laws.OwnMore
import Derived.Lib.SliceRun
import Derived.Laws.Slices
set_option linter.all false
set_option maxRecDepth 200000
set_option maxHeartbeats 8000000
namespace Yd
open Go Go.RowKit
theorem hid {p:Prop}(h:p):Hid p:=h
end Yd
namespace Go.RowKit
theorem Hid.q {p:Prop}(h:Hid p):p:=h
theorem Below.bQ {a b c:World}(h:Below a.1.size a b)(k:Below b.1.size b c):Below a.1.size a c:=h.trans (k.mono h.size)
end Go.RowKit
namespace Yd
open Go Go.RowKit
def cO (v:Value)(w:World)(e:Ending)(b:World):Prop:=e= .returned v/\Below w.1.size w b
theorem dQ {w:World}{p:Addr}{v:Value}(h:w.cell? p=some v):p.block<w.1.size:=by
 unfold World.cell? at h;rcases iM p.block w.1.size with b|b
 .exact b
 .rw[yU b] at h;cases h
variable{B:Nat}
theorem bq {w X:World}(b:Below B w X)(d:B=w.1.size){p:Addr}{v:Value}(h:w.cell? p=some v):X.cell? p=some v:=by
 subst d;exact(b.cell (dQ h)).trans h
theorem gu {a w:World}(h:Below B a w)(n:Nat):Below B a (w.drewN n):=⟨h.os,h.tape,h.output,h.size,h.block⟩
theorem TB {W X:World}(d:Below B W X):(∀b o,b<B->X.cell? ⟨b,o,none⟩=W.cell? ⟨b,o,none⟩)/\(∀b o,b<B->X.frozen? ⟨b,o,none⟩=W.frozen? ⟨b,o,none⟩):=
 ⟨λb o h=>d.cell (p:=⟨b,o,none⟩) h,λb o h=>d.frozen (p:=⟨b,o,none⟩) h⟩
theorem aA {a w:World}(h:Below a.1.size a w)(o:Obj):Below a.1.size a (w.alloc o):=h.alloc h.size o
def Row {d:Type}(w:World)(k:Nat)(enc:d->List Value)(a:Option Addr)(n c:Nat)(xs:List d):Prop:=
 xs.length=n/\n<=c/\n<=140737488355328/\(a=none->c=0)/\∀i x,xs[i]?=some x->∃b o,a=some ⟨b,o,none⟩/\∀j v,(enc x)[j]?=some v->w.cell? ⟨b,o+i*k+j,none⟩=some v
section
variable {α:Type}{w w':World}{k:Nat}{enc:α->List Value}{a:Option Addr}{n c:Nat}{xs:List α}
theorem Row.ext (h:Row w k enc a n c xs)(d:∀p v,w.cell? p=some v->w'.cell? p=some v):Row w' k enc a n c xs:=
 ⟨h.1,h.2.1,h.2.2.1,h.2.2.2.1,λi x e=>let⟨b,o,ha,f⟩:=h.2.2.2.2 i x e;⟨b,o,ha,λj v g=>d _ _ (f j v g)⟩⟩
theorem Row.below (h:Row w k enc a n c xs)(b:Below B w w')(d:B=w.1.size):Row w' k enc a n c xs:=h.ext λ_ _=>bq b d
theorem Row.le (h:Row w k enc a n c xs):n<=140737488355328:=h.2.2.1
theorem Row.len (h:Row w k enc a n c xs):xs.length=n:=h.1
theorem Row.cap (h:Row w k enc a n c xs):n<=c:=h.2.1
theorem Row.none_ (h:Row w k enc none n c xs):c=0/\n=0/\xs=[]:=by
 have b:=h.2.2.2.1 rfl;have d:=h.2.1;exact⟨b,by omega,vU (by rw[h.1];omega)⟩
theorem Row.at_ (h:Row w k enc a n c xs){i:Nat}(e:i<n):∃x b o,xs[i]?=some x/\a=some ⟨b,o,none⟩/\∀j v,(enc x)[j]?=some v->w.cell? ⟨b,o+i*k+j,none⟩=some v:=by
 have d:i<xs.length:=by rw[h.1];exact e
 obtain⟨b,o,ha,f⟩:=h.2.2.2.2 i xs[i] (cB d);exact⟨xs[i],b,o,cB d,ha,f⟩
theorem Row.jv:Row w k enc none 0 0 ([]:List α):=⟨rfl,aB _,by decide,λ_=>rfl,λi x h=>by simp at h⟩
end
abbrev Bs:=List UInt8
structure kg where
 t:Int
 k:Int
 deriving DecidableEq,Inhabited
structure Sn where
 obj:Int
 v:kg
 deriving DecidableEq,Inhabited
structure Wa where
 eH:Int
 bits:Int
 deriving DecidableEq,Inhabited
structure To where
 name:Bs
 k:Int
 deriving DecidableEq
structure EvC where
 kind:Int
 t:Int
 eH:Int
 lvl:Int
 obj:Int
 v:kg
 pred:Int
 sa:Option Addr
 sn:Nat
 sc:Nat
structure aG where
 obj:Int
 sa:Option Addr
 sn:Nat
 sc:Nat
structure aK where
 pred:Int
 obj:Int
 first:Bool
 sa:Option Addr
 sn:Nat
 sc:Nat
structure bH where
 kind:Int
 na:Option Addr
 nn:Nat
 nc:Nat
 lvl:Int
 va:Option Addr
 vn:Nat
 vc:Nat
 first:Bool
 bits:Int
def aS (n:Int):List Value:=[.int .i64 n]
@[reducible] def Ej (n:Int):Value:= .int .i64 n
def encStr (s:Bs):List Value:=[.string ⟨s.toArray⟩]
@[reducible] def valStr (s:Bs):Value:= .string ⟨s.toArray⟩
def cZ (s:Sn):List Value:=[.int .i64 s.obj,.int .i64 s.v.t,.int .i64 s.v.k]
@[reducible] def xR (s:Sn):Value:= .agg #[.int .i64 s.obj,.int .i64 s.v.t,.int .i64 s.v.k]
def fE (s:Wa):List Value:=[.int .i64 s.eH,.int .i64 s.bits]
@[reducible] def uX (s:Wa):Value:= .agg #[.int .i64 s.eH,.int .i64 s.bits]
def pQ (s:To):List Value:=[.string ⟨s.name.toArray⟩,.int .i64 s.k]
@[reducible] def pR (s:To):Value:= .agg #[.string ⟨s.name.toArray⟩,.int .i64 s.k]
def dx (e:EvC):List Value:=[.int .i64 e.kind,.int .i64 e.t,.int .i64 e.eH,.int .i64 e.lvl,.int .i64 e.obj,.int .i64 e.v.t,.int .i64 e.v.k,.int .i64 e.pred,.slice e.sa e.sn e.sc]
@[reducible] def fT (e:EvC):Value:= .agg #[.int .i64 e.kind,.int .i64 e.t,.int .i64 e.eH,.int .i64 e.lvl,.int .i64 e.obj,.int .i64 e.v.t,.int .i64 e.v.k,.int .i64 e.pred,.slice e.sa e.sn e.sc]
def dV (s:aG):List Value:=[.int .i64 s.obj,.slice s.sa s.sn s.sc]
@[reducible] def uV (s:aG):Value:= .agg #[.int .i64 s.obj,.slice s.sa s.sn s.sc]
def eB (s:aK):List Value:=[.int .i64 s.pred,.int .i64 s.obj,.bool s.first,.slice s.sa s.sn s.sc]
@[reducible] def uW (s:aK):Value:= .agg #[.int .i64 s.pred,.int .i64 s.obj,.bool s.first,.slice s.sa s.sn s.sc]
def qX (l:bH):List Value:=[.int .i64 l.kind,.slice l.na l.nn l.nc,.int .i64 l.lvl,.slice l.va l.vn l.vc,.bool l.first,.int .i64 l.bits]
@[reducible] def dU (l:bH):Value:= .agg #[.int .i64 l.kind,.slice l.na l.nn l.nc,.int .i64 l.lvl,.slice l.va l.vn l.vc,.bool l.first,.int .i64 l.bits]
def Jb {b:Type}(P:Program)(f:Nat)(d:Array Value)(val:b->Value)(p:b->Bool)(xs:List b)(w:World):Prop:=
 ∀x∈xs,∀W,Below w.1.size w W->Calls P f (#[val x]++d) W (cO (.bool (p x)) W)
def idx {b:Type}(p:b->Bool)(xs:List b):Int:=match xs.findIdx? p with|some i=>(i:Int)|none=> -1
theorem Jc {β:Type}{p:β->Bool}{xs:List β}{i:Nat}(h:xs.findIdx? p=some i):idx p xs=i:=by unfold idx;rw[h]
theorem Jd {β:Type}{p:β->Bool}{xs:List β}(h:xs.findIdx? p=none):idx p xs= -1:=by unfold idx;rw[h]
variable{β:Type}
theorem sZ (p:β->Bool)(xs:List β):decide (0<=idx p xs)=xs.any p:=by
 cases h:xs.findIdx? p with
 |none=>
  rw[Jd h];rw[zy] at h
  symm;simp only[show decide ((0:Int)<= -1)=false from rfl,List.any_eq_false]
  intro x b;simp[h x b]
 |some i=>
  rw[Jc h];rw[BQ] at h;obtain⟨d,e,_⟩:=h
  symm
  simp only[show decide ((0:Int)<=(i:Int))=true by simp,List.any_eq_true];exact⟨xs[i],List.getElem_mem d,e⟩
theorem findIdx?_take (p:β->Bool)(xs:List β)(i:Nat)(h:(xs.take i).findIdx? p=none)(x:β)(b:xs[i]?=some x)(g:p x=true):xs.findIdx? p=some i:=by
 rw[BQ];have f:i<xs.length:=by
  rcases iM i xs.length with d|d
  .exact d
  .rw[qB d] at b;cases b
 refine⟨f,?_,?_⟩
 .rw[cB f] at b
  have e:xs[i]=x:=qO b;rw[e];exact g
 .intro j l
  rw[zy] at h;have:=h xs[j] (by
   rw[pO];exact⟨j,by rw[uT,av l];exact cB ah⟩)
  simpa using this
theorem Gs (p:β->Bool)(xs:List β)(i:Nat)(h:(xs.take i).findIdx? p=none)(x:β)(b:xs[i]?=some x)(d:p x=false):(xs.take (i+1)).findIdx? p=none:=by
 rw[ig,b];simp[List.findIdx?_append,h,d]
end Yd
namespace Yd
open Go Go.RowKit Go.Proofs Tryz
open Tryz renaming prog->r
theorem O3 (x y:To)(w:World):(Op.equalIn 10000 130 (pR x) (pR y)).run r w= .ok (decide (x=y)) w:=by
 simp[pR,go_sem]
 cases x;cases y;simp;(repeat' split) <;> simp_all
theorem Xj (x y:Wa)(w:World):(Op.equalIn 10000 63 (uX x) (uX y)).run r w= .ok (decide (x=y)) w:=by
 simp[uX,go_sem]
 cases x;cases y;simp;(repeat' split) <;> simp_all
theorem U6 (x y:kg)(w:World):(Op.equalIn 10000 46 (.agg #[.int .i64 x.t,.int .i64 x.k]) (.agg #[.int .i64 y.t,.int .i64 y.k])).run r w= .ok (decide (x=y)) w:=by
 simp[go_sem]
 cases x;cases y;simp;(repeat' split) <;> simp_all
theorem Xk (x y:Sn)(w:World):(Op.equalIn 10000 53 (xR x) (xR y)).run r w= .ok (decide (x=y)) w:=by
 simp[xR,go_sem];obtain⟨_,⟨_,_⟩⟩:=x;obtain⟨_,⟨_,_⟩⟩:=y;simp;(repeat' split) <;> simp_all
def Bc {b:Type}(F k:Nat)(h:b->List Value)(val:b->Value):Prop:=∀(a:Option Addr)(n c f:Nat)(e:Array Value)(d:List b)(p:b->Bool)(w:World),Row w k h a n c d->
  (∀g w,(callFunc f g).run r w= .ok (.enter f g) w)->Jb r f e val p d w->Calls r F #[.slice a n c,.func (.func f) #[] e] w (cO (.int .i64 (idx p d)) w)
def xS {b:Type}(F k:Nat)(h:b->List Value)(val:b->Value):Prop:=∀(a:Option Addr)(n c f:Nat)(e:Array Value)(d:List b)(p:b->Bool)(w:World),Row w k h a n c d->
  (∀g w,(callFunc f g).run r w= .ok (.enter f g) w)->Jb r f e val p d w->Calls r F #[.slice a n c,.func (.func f) #[] e] w (cO (.bool (d.any p)) w)
theorem Bd {p:Prop}(h:p:=by
 have hn:=HR.q.le;go_wp2_with fail
 go_loopw [8] (λi wr=>∃k:Nat,k<=n/\i= .int .i64 k/\(cs.take k).findIdx? p=none/\Below w.1.size w wr) (λi _=>n - (RowKit.intOf i).toNat)
 case atStart=>exact⟨0,bn _,rfl,rfl,Below.refl _ _⟩
 case round=>
  obtain⟨k,hk,rfl,hf,hb⟩:=hrel;by_cases hlt:k<n
  .obtain⟨x,b,o,hx,rfl,hc⟩:=HR.q.at_ hlt
   have h0:=bq hb rfl (hc 0 _ rfl)
   try have h1:=bq hb rfl (hc 1 _ rfl)
   try have h2:=bq hb rfl (hc 2 _ rfl)
   try have h3:=bq hb rfl (hc 3 _ rfl)
   try have h4:=bq hb rfl (hc 4 _ rfl)
   try have h5:=bq hb rfl (hc 5 _ rfl)
   try have h6:=bq hb rfl (hc 6 _ rfl)
   try have h7:=bq hb rfl (hc 7 _ rfl)
   try have h8:=bq hb rfl (hc 8 _ rfl)
   rw[dB] at h0
   try rw[gJ] at h0
   have hcall:=H.q x (dA hx) wr hb;have HX:=hid hx;have HF:=hid hf;clear hc hx hf
   cases hpx:p x
   all_goals
    rw[hpx] at hcall;have HC:=hid hcall;have HP:=hid hpx;clear hcall hpx;go_wp2_with fail;refine HC.q.mono ?_;rintro e w1 ⟨rfl,hb1⟩;go_wp2_with fail
   .go_roundw
    case rel=>exact⟨k+1,by omega,by go_num,Gs p cs k HF.q x HX.q HP.q,hb.trans (hb1.mono hb.size)⟩
    case measure=>simp[RowKit.intOf];omega
   .go_ret
    refine⟨?_,hb.trans (hb1.mono hb.size)⟩;rw[Jc (findIdx?_take p cs k HF.q x HX.q HP.q)];rfl
  .have hkn:k=n:=by omega
   have HF:=hid hf;clear hf;go_wp2_with fail;go_ret;refine⟨?_,hb⟩;have e:cs.take k=cs:=gF (by rw[HR.q.len];omega);rw[Jd (xs:=cs) (by rw[<-e];exact HF.q)];rfl):p:=h
theorem Zf:Bc 85 9 dx fT:=λa n c f h cs p w d j g=>by
 have H:=hid g;have HR:=hid d;clear g d;go_enter func85,ntmps85;exact Bd
theorem Zg:Bc 134 2 pQ pR:=λa n c f h cs p w d j g=>by
 have H:=hid g;have HR:=hid d;clear g d;go_enter func134,ntmps134;exact Bd
theorem Xl:Bc 135 1 encStr valStr:=λa n c f h cs p w d j g=>by
 have H:=hid g;have HR:=hid d;clear g d;go_enter func135,ntmps135;exact Bd
theorem Xm:Bc 139 1 aS Ej:=λa n c f h cs p w d j g=>by
 have H:=hid g;have HR:=hid d;clear g d;go_enter func139,ntmps139;exact Bd
theorem Zh:Bc 142 2 dV uV:=λa n c f h cs p w d j g=>by
 have H:=hid g;have HR:=hid d;clear g d;go_enter func142,ntmps142;exact Bd
theorem Zi:Bc 143 4 eB uW:=λa n c f h cs p w d j g=>by
 have H:=hid g;have HR:=hid d;clear g d;go_enter func143,ntmps143;exact Bd
theorem Zj:Bc 144 2 fE uX:=λa n c f h cs p w d j g=>by
 have H:=hid g;have HR:=hid d;clear g d;go_enter func144,ntmps144;exact Bd
theorem Zk:Bc 158 3 cZ xR:=λa n c f h cs p w d j g=>by
 have H:=hid g;have HR:=hid d;clear g d;go_enter func158,ntmps158;exact Bd
theorem Xn:xS 41 9 dx fT:=λa n c f g h p w b i d=>by
 have j:=hid (Zf a n c f g h p w b i d);clear d b;go_enter Tryz.func41,Tryz.ntmps41
 go_wp2_with (go_at_call 85;refine j.q.mono ?_;rintro e m ⟨rfl,l⟩)
 go_ret;exact⟨by rw[<-sZ];rfl,l⟩
theorem Pm:xS 89 2 pQ pR:=λa n c f g h p w b i d=>by
 have j:=hid (Zg a n c f g h p w b i d);clear d b;go_enter func89,ntmps89
 go_wp2_with (go_at_call 134;refine j.q.mono ?_;rintro e m ⟨rfl,l⟩)
 go_ret;exact⟨by rw[<-sZ];rfl,l⟩
theorem KZ:xS 92 1 encStr valStr:=λa n c f g h p w b i d=>by
 have j:=hid (Xl a n c f g h p w b i d);clear d b;go_enter func92,ntmps92
 go_wp2_with (go_at_call 135;refine j.q.mono ?_;rintro e m ⟨rfl,l⟩)
 go_ret;exact⟨by rw[<-sZ];rfl,l⟩
theorem U7:xS 102 1 aS Ej:=λa n c f g h p w b i d=>by
 have j:=hid (Xm a n c f g h p w b i d);clear d b;go_enter func102,ntmps102
 go_wp2_with (go_at_call 139;refine j.q.mono ?_;rintro e m ⟨rfl,l⟩)
 go_ret;exact⟨by rw[<-sZ];rfl,l⟩
theorem Xo:xS 114 2 dV uV:=λa n c f g h p w b i d=>by
 have j:=hid (Zh a n c f g h p w b i d);clear d b;go_enter func114,ntmps114
 go_wp2_with (go_at_call 142;refine j.q.mono ?_;rintro e m ⟨rfl,l⟩)
 go_ret;exact⟨by rw[<-sZ];rfl,l⟩
theorem Xp:xS 116 4 eB uW:=λa n c f g h p w b i d=>by
 have j:=hid (Zi a n c f g h p w b i d);clear d b;go_enter func116,ntmps116
 go_wp2_with (go_at_call 143;refine j.q.mono ?_;rintro e m ⟨rfl,l⟩)
 go_ret;exact⟨by rw[<-sZ];rfl,l⟩
theorem Xq:xS 118 2 fE uX:=λa n c f g h p w b i d=>by
 have j:=hid (Zj a n c f g h p w b i d);clear d b;go_enter func118,ntmps118
 go_wp2_with (go_at_call 144;refine j.q.mono ?_;rintro e m ⟨rfl,l⟩)
 go_ret;exact⟨by rw[<-sZ];rfl,l⟩
theorem Xr:xS 140 3 cZ xR:=λa n c f g h p w b i d=>by
 have j:=hid (Zk a n c f g h p w b i d);clear d b;go_enter func140,ntmps140
 go_wp2_with (go_at_call 158;refine j.q.mono ?_;rintro e m ⟨rfl,l⟩)
 go_ret;exact⟨by rw[<-sZ];rfl,l⟩
end Yd
namespace Yd
open Go Go.RowKit
open Go renaming Value->j,World->q
open _root_ renaming Array->m
@[reducible] def Bx (W:q)(b:Nat)(cs:m j):Prop:=(∀i,W.cell? ⟨b,i,none⟩=cs[i]?)/\(∀i,W.frozen? ⟨b,i,none⟩=false)/\b<W.1.size
variable{X:q}{b:Nat}{cs:m j}
theorem Bx.below {e:q}{B:Nat}(h:Bx X b cs)(d:Below B X e)(f:b<B):Bx e b cs:=
 ⟨λi=>(d.cell (p:=⟨b,i,none⟩) f).trans (h.1 i),λi=>(d.frozen (p:=⟨b,i,none⟩) f).trans (h.2.1 i),bP h.2.2 d.size⟩
variable{d:q}
theorem Bx.keep (h:Bx X b cs)(e:Below X.1.size X d):Bx d b cs:=h.below e h.2.2
theorem Bx.drew (h:Bx X b cs):Bx X.drew b cs:=h
theorem Bx.drewN (h:Bx X b cs)(n:Nat):Bx (X.drewN n) b cs:=h
theorem Bx.alloc (h:Bx X b cs)(o:Obj):Bx (X.alloc o) b cs:=h.keep ((Below.refl _ _).alloc (aB _) _)
theorem Bx.new (X:q)(cs:m j)(T:TypeId):Bx (X.alloc (.cells cs T)) X.1.size cs:=
 ⟨λi=>World.cell?_alloc_new X cs T i,λi=>by
  have h:(X.alloc (.cells cs T)).1[X.1.size]?=some (.cells cs T (0,0)):=by show(X.1.push _)[_]?=_;simp
  unfold World.frozen?;simp only[h];simp,by simp⟩
theorem Bx.other (h:Bx X b cs){p:Addr}(d:b≠p.block)(v:j):Bx (X.setCell p v) b cs:=by
 have e:=Below.heap_setCell X p v b d;refine⟨λi=>(World.cell?_of_block (a:=⟨b,i,none⟩) e).trans (h.1 i),λi=>(World.frozen?_of_block (a:=⟨b,i,none⟩) e).trans (h.2.1 i),?_⟩;have:=h.2.2
 simpa[World.setCell] using this
theorem TD {a:Nat}{c f:m j}(h:Bx X a c/\Bx X b f)(e:Below X.1.size X d):Bx d a c/\Bx d b f:=⟨h.1.keep e,h.2.keep e⟩
theorem GJ {a g:Nat}{c f e:m j}(h:Bx X a c/\Bx X b f/\Bx X g e)(i:Below X.1.size X d):Bx d a c/\Bx d b f/\Bx d g e:=⟨h.1.keep i,TD h.2 i⟩
@[reducible] def ED (s:Wa):m j:=#[.int .i64 s.eH,.int .i64 s.bits]
@[reducible] def KR (s:To):m j:=#[.string ⟨s.name.toArray⟩,.int .i64 s.k]
@[reducible] def aR (e:EvC):m j:=#[.int .i64 e.kind,.int .i64 e.t,.int .i64 e.eH,.int .i64 e.lvl,.int .i64 e.obj,.int .i64 e.v.t,.int .i64 e.v.k,.int .i64 e.pred,.slice e.sa e.sn e.sc]
@[reducible] def EB (s:aG):m j:=#[.int .i64 s.obj,.slice s.sa s.sn s.sc]
@[reducible] def EC (s:aK):m j:=#[.int .i64 s.pred,.int .i64 s.obj,.bool s.first,.slice s.sa s.sn s.sc]
@[reducible] def bM (l:bH):m j:=#[.int .i64 l.kind,.slice l.na l.nn l.nc,.int .i64 l.lvl,.slice l.va l.vn l.vc,.bool l.first,.int .i64 l.bits]
def pz (v u:j)(w:q)(e:Ending)(b:q):Prop:=e= .returned (.tuple #[v,u])/\Below w.1.size w b
end Yd
namespace Yd
open Bool renaming false->N
open Option renaming some->G
open Go Go.RowKit Go.Proofs Tryz
open Below renaming refl->I
open Go renaming World->E
open Go.Value renaming bool->O
open Tryz renaming prog->L
open World renaming putObj_heap_other->J
open _root_ renaming Nat->M,List->U,Int->V
def bA (D:M->Prop)(W b:E):Prop:=W.1.size<=b.1.size/\∀i,D i->i<W.1.size->b.1[i]?=W.1[i]?
variable{D:M->Prop}
theorem bA.trans {A B C:E}(h:bA D A B)(k:bA D B C):bA D A C:=
 ⟨bI h.1 k.1,λi b d=>(k.2 i b (bP d h.1)).trans (h.2 i b d)⟩
theorem bA.refl (A:E):bA D A A:=⟨aB _,λ_ _ _=>rfl⟩
theorem bA.mono {b:M->Prop}{A B:E}(h:bA D A B)(e:∀i,b i->i<A.1.size->D i):bA b A B:=⟨h.1,λi f d=>h.2 i (e i f d) d⟩
variable{l:M}
theorem bA.putObj (A:E)(o:Obj)(b:¬D l):bA D A (A.putObj l o):=
 ⟨Nat.le_of_eq World.putObj_size.symm,λ_i d _=>J (λe=>b (e▸d))⟩
variable{X Y:E}
theorem bA.of_below {B:M}(h:Below B X Y)(b:∀i,D i->i<X.1.size->i<B):bA D X Y:=⟨h.size,λi d e=>h.block i (b i d e)⟩
structure Same (A:M->Prop)(X Y:E):Prop where
 os:Y.os=X.os
 tape:Y.tape=X.tape
 output:Y.output=X.output
 size:X.1.size<=Y.1.size
 block:∀i,A i->i<X.1.size->Y.1[i]?=X.1[i]?
variable{A:M->Prop}
theorem Same.of_below {B:M}(h:Below B X Y)(b:∀i,A i->i<X.1.size->i<B):Same A X Y:=⟨h.os,h.tape,h.output,h.size,λi d e=>h.block i (b i d e)⟩
theorem Same.mono {A':M->Prop}(h:Same A X Y)(d:∀i,A' i->i<X.1.size->A i):Same A' X Y:=⟨h.os,h.tape,h.output,h.size,λi e b=>h.block i (d i e b) b⟩
theorem Same.tr {Z:E}(h:Same A X Y)(k:Same A Y Z):Same A X Z:=
 ⟨k.os.trans h.os,k.tape.trans h.tape,k.output.trans h.output,bI h.size k.size,λi b d=>(k.block i b (bP d h.size)).trans (h.block i b d)⟩
theorem Same.below {B:M}{w:E}(h:Below B w X)(k:Same A X Y)(d:∀i,i<B->A i)(e:B<=X.1.size):Below B w Y:=
 ⟨k.os.trans h.os,k.tape.trans h.tape,k.output.trans h.output,bI h.size k.size,λi b=>(k.block i (d i b) ah).trans (h.block i b)⟩
theorem Same.bx {b:M}{cs:Array Value}(k:Same A X Y)(h:Bx X b cs)(ha:A b):Bx Y b cs:=
 ⟨λi=>(World.cell?_of_block (a:=⟨b,i,none⟩) (k.block b ha h.2.2)).trans (h.1 i),λi=>(World.frozen?_of_block (a:=⟨b,i,none⟩) (k.block b ha h.2.2)).trans (h.2.1 i),bP h.2.2 k.size⟩
theorem Same.putObj (X:E)(o:Obj)(b:¬A l):Same A X (X.putObj l o):=
 ⟨rfl,rfl,rfl,Nat.le_of_eq World.putObj_size.symm,λ_i d _=>J (λe=>b (e▸d))⟩
def PG (l:M)(r:Loop)(R:Ending->E->Prop):Exit->Act->E->Prop
 | .normal,_,W=>W.1[l]?=G (.loop {r with state:= .busy})/\R (.returned (O true)) (W.putObj l (.loop {r with state:= .ready,pending:=none}))
 | .ret,_,W=>W.1[l]?=G (.loop {r with state:= .busy})/\R (.returned (O N)) (W.putObj l (.loop {r with state:= .done,pending:=some .ret}))
 | .exit b,_,W=>W.1[l]?=G (.loop {r with state:= .busy})/\R (.returned (O N)) (W.putObj l (.loop {r with state:= .done,pending:=some (.exit b)}))
 | .goto t,_,W=>W.1[l]?=G (.loop {r with state:= .busy})/\R (.returned (O N)) (W.putObj l (.loop {r with state:= .done,pending:=some (.goto t)}))
 | .panic _,_,_=>False
 | .outgrown,_,_=>False
variable{P:Program}
theorem MX {F:Fence}{n:M}{r:Loop}{args:Array Value}{W:E}{R:Ending->E->Prop}
  (i:W.1[l]?=G (.loop r)) (j:r.state= .ready) (m:F.fn r.fn) (o:args.size=r.params.size)
  (h:r.assign.wpIn (F.inRound l) n P (Exit.then (λf d=>d.1[l]?=G (.loop r)/\r.body.wpIn (F.inRound l) n P (PG l r R) f (d.putObj l (.loop {r with state:= .busy}))) (λ_ _ _=>False))
   {tmps:=(r.params.zip args).foldl (λt (p,v)=>t.setIfInBounds p v) r.tmps,defers:=[]} W):YieldAt F n P l args W R:=by
 refine⟨r.fn,_,r.assign,r.body,run_yield i o,roundIn_of_wpIn m ?_⟩;refine wpIn_mono h ?_;rintro e f d g
 cases e with
 |normal=>
  obtain⟨q,s⟩:=g;refine⟨_,run_beginRound q j,wpIn_mono s ?_⟩;rintro e x y b
  cases e with
  |normal=>exact⟨_,_,run_endRound none b.1,b.2⟩
  |ret=>exact⟨_,_,run_endRound (G .ret) b.1,b.2⟩
  |exit u=>exact⟨_,_,run_endRound (G (.exit u)) b.1,b.2⟩
  |goto t=>exact⟨_,_,run_endRound (G (.goto t)) b.1,b.2⟩
  |panic _=>exact b.elim
  |outgrown=>exact b.elim
 |_=>exact g.elim
def Iter (P:Program)(gf:M)(lb:Array Value){g:Type}(kY:g->Array Value->E->Prop)(k:M)(D:M->Prop)(xs:U g)(W:E):Prop:=
 ∀(n l:M)(d f:U g->E->Prop),
  (∀s X Y,d s X->Same (λi=>i<W.1.size\/W.1.size+k<=i) X Y->d s Y)->
  (∀s X Y,f s X->Same (λi=>i<W.1.size\/W.1.size+k<=i) X Y->f s Y)->
  (∀b x h X,d b X->b++[x]<+:xs->kY x h X->W.1.size+k<=X.1.size->∀m,YieldAt Fence.wide m P l h X λe Y=>
   (e= .returned (O true)/\d (b++[x]) Y/\bA D X Y)\/(e= .returned (O N)/\f (b++[x]) Y/\bA D X Y))->
  d [] W->
  CallsIn Fence.wide n P gf (#[.func (.yield l) #[] #[]]++lb) W λe Y=>∃v,e= .returned v/\(d xs Y\/∃b,b<+:xs/\f b Y)
def vY {b:Type}(l:M)(D:M->Prop)(e:U b->E->Prop)(d:Code->U b->E->Prop)(xs:U b)(X:E):Exit->Act->E->Prop
 | .normal,_,Y=>(Y.1[l]?=X.1[l]?/\Y.1[l+1]?=X.1[l+1]?)/\bA D X Y/\e xs Y
 | .ret,_,Y=>(Y.1[l]?=X.1[l]?/\Y.1[l+1]?=X.1[l+1]?)/\bA D X Y/\d .ret xs Y
 | .exit f,_,Y=>(Y.1[l]?=X.1[l]?/\Y.1[l+1]?=X.1[l+1]?)/\bA D X Y/\d (.exit f) xs Y
 | .goto t,_,Y=>(Y.1[l]?=X.1[l]?/\Y.1[l+1]?=X.1[l+1]?)/\bA D X Y/\d (.goto t) xs Y
 | .panic _,_,_=>False
 | .outgrown,_,_=>False
def Dy (P:Program)(gf:M)(lb:Array Value){g:Type}(kY:g->Array Value->E->Prop)(k:M)(D:M->Prop)(R:E->Prop)(Kp:g->Array Value->E->Prop)(xs:U g)(W:E):Prop:=
 ∀(n l:M)(b f:U g->E->Prop),
  (∀s X Y,b s X->Same (λi=>i<W.1.size\/W.1.size+k<=i) X Y->b s Y)->
  (∀s X Y,f s X->Same (λi=>i<W.1.size\/W.1.size+k<=i) X Y->f s Y)->
  (∀s X,b s X->R X)->(∀s X,f s X->R X)->
  (∀d x h X,b d X->d++[x]<+:xs->kY x h X->W.1.size+k<=X.1.size->∀m,YieldAt Fence.wide m P l h X λe Y=>
   (e= .returned (O true)/\b (d++[x]) Y/\bA D X Y/\Kp x h Y)\/(e= .returned (O N)/\f (d++[x]) Y/\bA D X Y))->
  b [] W->
  CallsIn Fence.wide n P gf (#[.func (.yield l) #[] #[]]++lb) W λe Y=>∃v,e= .returned v/\(b xs Y\/∃d,d<+:xs/\f d Y)
def zJ {b:Type}(l:M)(D:M->Prop)(e:U b->E->Prop)(d:Code->U b->E->Prop)(f:E->Prop)(xs:U b)(X:E):Exit->Act->E->Prop
 | .normal,_,Y=>(Y.1[l]?=X.1[l]?/\Y.1[l+1]?=X.1[l+1]?)/\bA D X Y/\e xs Y/\f Y
 | .ret,_,Y=>(Y.1[l]?=X.1[l]?/\Y.1[l+1]?=X.1[l+1]?)/\bA D X Y/\d .ret xs Y
 | .exit g,_,Y=>(Y.1[l]?=X.1[l]?/\Y.1[l+1]?=X.1[l+1]?)/\bA D X Y/\d (.exit g) xs Y
 | .goto t,_,Y=>(Y.1[l]?=X.1[l]?/\Y.1[l+1]?=X.1[l+1]?)/\bA D X Y/\d (.goto t) xs Y
 | .panic _,_,_=>False
 | .outgrown,_,_=>False
variable{β:Type}{gf:M}{lb:Array Value}
theorem vZ {g:Operand}{ps:Array Tmp}{assign body:Code}{Q:Exit->Act->E->Prop}{a:Act}{w:E}{n:M}
    (hg:a.eval g= .func (.func gf) #[] lb) (eg:∀args w,(callFunc gf args).run P w= .ok (.enter gf args) w)
  {kY:β->Array Value->E->Prop} {k:M}  {R:E->Prop} {Kp:β->Array Value->E->Prop} {xs:U β}
  (ρ:∀W,Below w.1.size w W->W.1.size=w.1.size+2->Dy P gf lb kY k D R Kp xs W)
  (hD:¬D (w.1.size+1)) (σ:∀x args X,kY x args X->args.size=ps.size)
  (d:U β->E->Prop) (z:Code->U β->E->Prop)
  (hI:∀s X Y,d s X->Same (λi=>i<w.1.size\/w.1.size+2+k<=i) X Y->d s Y)
  (ι:∀c s X Y,z c s X->Same (λi=>i<w.1.size\/w.1.size+2+k<=i) X Y->z c s Y)
  (τ:∀s X,d s X->R X) (υ:∀c s X,z c s X->R X)
  (φ:∀x args X Y,Kp x args X->Same (λi=>i<w.1.size\/w.1.size+2+k<=i) X Y->Kp x args Y)
  (h0:d [] w)
  (χ:∀b x args X,d b X->b++[x]<+:xs->kY x args X->w.1.size+2+k<=X.1.size->∀m,
   assign.wpIn (Fence.wide.inRound (w.1.size+1)) m P (Exit.then (λψ κ=>Below X.1.size X κ/\∀γ:E,Same (λi=>i≠w.1.size+1) κ γ->γ.1[w.1.size]?=G (.deferred (G []))->(∃o,γ.1[w.1.size+1]?=G (.loop o))->
     body.wpIn (Fence.wide.inRound (w.1.size+1)) m P (zJ w.1.size D d z (Kp x args) (b++[x]) γ) ψ γ) (λ_ _ _=>False))
    {tmps:=(ps.zip args).foldl (λt (p,v)=>t.setIfInBounds p v) a.tmps,defers:=[]} X)
  (ω:∀X,d xs X->X.1[w.1.size]?=G (.deferred (G []))->Q .normal {a with defers:={target:= .collected w.1.size,args:=#[]}::a.defers} X)
  (Γ:∀c b X,b<+:xs->z c b X->X.1[w.1.size]?=G (.deferred (G []))->c.wpIn Fence.wide n P Q {a with defers:={target:= .collected w.1.size,args:=#[]}::a.defers} X):
  (Code.rangeFunc g ps assign body).wpIn Fence.wide n P Q a w:=by
 refine wpIn_rangeFunc ?_;intro fn q9;obtain⟨r,q⟩:∃r:Loop,r={state:= .ready,pending:=none,fn,tmps:=a.tmps,params:=ps,assign,body,defers:=w.1.size}:=⟨_,rfl⟩;obtain⟨f,δ⟩:∃f,(w.alloc (.deferred (G []))).alloc (.loop r)=f:=⟨_,rfl⟩;have Δ:f.1.size=w.1.size+2:=by rw[<-δ];simp
 have Θ:f.1[w.1.size+1]?=G (.loop r):=by
  rw[<-δ];have:=World.alloc_heap_new (w.alloc (.deferred (G []))) (.loop r);rwa[World.size_alloc] at this
 have Ξ:f.1[w.1.size]?=G (.deferred (G [])):=by
  rw[<-δ];exact(Below.heap_alloc _ _ _ ak).trans (World.alloc_heap_new w _)
 have μ:Below w.1.size w f:=by rw[<-δ];exact((I _ w).alloc (aB _) _).alloc ak _
 have Φ:d [] f:=hI _ _ _ h0 (.of_below μ (λi _ j=>j));refine⟨w.1.size+1,[{target:= .collected w.1.size,args:=#[]}],f,{target:= .fn (.func gf) lb,args:=#[.func (.yield (w.1.size+1)) #[] #[]]},f,gf,
  #[.func (.yield (w.1.size+1)) #[] #[]]++lb,f,?_,?_,λ_ _=>trivial,?_,λh=>(by cases h),?_⟩
 .rw[<-δ,q];exact run_enterLoop_outer _ _ _ _ _
 .simp only[resolve,hg]
  simp[go_sem]
 .simp[invoke,go_sem,eg]
 have ν:∀(s:U β)(X:E)(o:Obj),d s X->d s (X.putObj (w.1.size+1) o):=λs X o h=>hI s _ _ h (.putObj X o ah)
 have ζ:∀(c:Code)(s:U β)(X:E)(o:Obj),z c s X->z c s (X.putObj (w.1.size+1) o):=λc s X o h=>ι c s _ _ h (.putObj X o ah)
 refine(ρ f μ Δ (n - 1) (w.1.size+1)
  (λb X=>d b X/\X.1[w.1.size+1]?=G (.loop r)/\X.1[w.1.size]?=G (.deferred (G [])))
  (λb X=>∃c,z c b X/\X.1[w.1.size+1]?=G (.loop {r with state:= .done,pending:=some c})/\X.1[w.1.size]?=G (.deferred (G [])))
  ?_ ?_ (λs X h=>τ s X h.1) (λs X h=>(let⟨c,hc,_⟩:=h;υ c s X hc)) ?_ ⟨Φ,Θ,Ξ⟩).mono ?_
 .rintro s X Y ⟨h1,h2,h3⟩ F
  have e2:=(dS.1 h2).1;exact⟨hI s X Y h1 (F.mono (λi j u=>by omega)),(F.block _ ah e2).trans h2,(F.block _ ah ah).trans h3⟩
 .rintro s X Y ⟨c,h1,h2,h3⟩ F
  have e2:=(dS.1 h2).1;exact⟨c,ι c s X Y h1 (F.mono (λi j u=>by omega)),(F.block _ ah e2).trans h2,(F.block _ ah ah).trans h3⟩
 .rintro b x args X ⟨j,u,hk⟩ Ψ ξ j0 m
  have Ω:r.assign=assign:=by rw[q]
  have q0:r.body=body:=by rw[q]
  have ο:r.params=ps:=by rw[q]
  have q1:r.tmps=a.tmps:=by rw[q]
  have q2:r.state= .ready:=by rw[q]
  have j1:r.pending=none:=by rw[q]
  have q3:({r with state:= .ready,pending:=none}:Loop)=r:=by rw[q]
  refine MX u q2 trivial (by rw[ο];exact σ x args X ξ) ?_;have hR:=χ b x args X j Ψ ξ ah m;rw[<-Ω,<-q0,<-ο,<-q1] at hR;refine wpIn_mono hR ?_;rintro e a1 A hp
  cases e with
  |normal=>
   obtain⟨hb,q4⟩:=hp;have j2:=(dS.1 u).1;have π:A.1[w.1.size+1]?=G (.loop r):=(hb.block _ ah).trans u;have q5:A.1[w.1.size]?=G (.deferred (G [])):=(hb.block _ ah).trans hk;have q6:=(dS.1 π).1;have T:(A.putObj (w.1.size+1) (.loop {r with state:= .busy})).1[w.1.size+1]?=G (.loop {r with state:= .busy}):=World.putObj_heap_same q6;have ε:(A.putObj (w.1.size+1) (.loop {r with state:= .busy})).1[w.1.size]?=G (.deferred (G [])):=(J ah).trans q5;refine⟨π,wpIn_mono (q4 _ (.putObj A _ ah) ε ⟨_,T⟩) ?_⟩;rintro e a3 Z hq;have η:∀o,Z.1[w.1.size+1]?=(A.putObj (w.1.size+1) (.loop {r with state:= .busy})).1[w.1.size+1]?->(Z.putObj (w.1.size+1) o).1[w.1.size+1]?=G o:=λo h=>
    World.putObj_heap_same ((dS.1 (h.trans T)).1)
   have θ:∀o,bA D (A.putObj (w.1.size+1) (.loop {r with state:= .busy})) Z->bA D X (Z.putObj (w.1.size+1) o):=λo y=>
    (bA.of_below hb (λi _ j=>j)).trans (((bA.putObj A _ hD).trans y).trans (bA.putObj Z _ hD))
   cases e with
   |normal=>
    obtain⟨⟨K,l⟩,y,S,q7⟩:=hq;refine⟨l.trans T,.inl ⟨rfl,⟨ν _ _ _ S,(η _ l).trans (by rw[q3]),(J ah).trans (K.trans ε)⟩,θ _ y,φ _ _ _ _ q7 (.putObj Z _ ah)⟩⟩
   |ret=>
    obtain⟨⟨K,l⟩,y,S⟩:=hq;exact⟨l.trans T,.inr ⟨rfl,⟨.ret,ζ _ _ _ _ S,η _ l,(J ah).trans (K.trans ε)⟩,θ _ y⟩⟩
   |exit id=>
    obtain⟨⟨K,l⟩,y,S⟩:=hq;exact⟨l.trans T,.inr ⟨rfl,⟨.exit id,ζ _ _ _ _ S,η _ l,(J ah).trans (K.trans ε)⟩,θ _ y⟩⟩
   |goto t=>
    obtain⟨⟨K,l⟩,y,S⟩:=hq;exact⟨l.trans T,.inr ⟨rfl,⟨.goto t,ζ _ _ _ _ S,η _ l,(J ah).trans (K.trans ε)⟩,θ _ y⟩⟩
   |panic _=>exact hq.elim
   |outgrown=>exact hq.elim
  |_=>exact hp.elim
 .rintro e X2 ⟨v,rfl,(⟨j,u,hk⟩|⟨b,q8,c,j,u,hk⟩)⟩
  .exact⟨none,_,by have:=run_endLoop (P:=P) u (by rw[q];simp);rwa[q] at this,ω _ (ν _ _ _ j) ((J ah).trans hk)⟩
  .exact⟨G c,_,run_endLoop (P:=P) u ak,Γ c b _ q8 (ζ _ _ _ _ j) ((J ah).trans hk)⟩
theorem Iter.Tw {β:Type}{kY:β->Array Value->E->Prop}{k:M}{xs:U β}{W:E}(h:Iter P gf lb kY k D xs W):Dy P gf lb kY k D (λ_=>True) (λ_ _ _=>True) xs W:=
 λn l e f g i _ _ j o=>h n l e f g i (λp x r X a b c d m=>(j p x r X a b c d m).mono (λ_ _ q=>q.imp (λq=>⟨q.1,q.2.1,q.2.2.1⟩) id)) o
theorem ER {β:Type}{b:U β->E->Prop}{d:Code->U β->E->Prop}{xs:U β}{e:Exit}{a:Act}(h:vY l D b d xs X e a Y):zJ l D b d (λ_=>True) xs X e a Y:=by
 cases e <;> first|exact⟨h.1,h.2.1,h.2.2,trivial⟩|exact h
theorem zH {F:Fence}{m:M}{c b:Code}{a:Act}{S:E->E->Prop}{l o:E->Prop}{i j:E->Exit->Act->E->Prop}
  (h:c.wpIn F m P (Exit.then (λg f=>Below X.1.size X f/\∀d:E,S f d->b.wpIn F m P (i d) g d) (λ_ _ _=>False)) a X) (p:∀Z e a Y,i Z e a Y->j Z e a Y):
  c.wpIn F m P (Exit.then (λg f=>Below X.1.size X f/\∀d:E,S f d->l d->o d->b.wpIn F m P (j d) g d) (λ_ _ _=>False)) a X:=
 wpIn_mono h λe g f q=>by
  cases e <;> first|exact⟨q.1,λd s _ _=>wpIn_mono (q.2 d s) (λ_ _ _ h=>p _ _ _ _ h)⟩|exact q
theorem xB {g:Operand}{j:Array Tmp}{o q:Code}{Q:Exit->Act->E->Prop}{a:Act}{w:E}{n:M}
    (u:a.eval g= .func (.func gf) #[] lb) (y:∀args w,(callFunc gf args).run P w= .ok (.enter gf args) w)
  {kY:β->Array Value->E->Prop} {k:M}  {xs:U β}
  (z:∀W,Below w.1.size w W->W.1.size=w.1.size+2->Iter P gf lb kY k D xs W)
  (A:¬D (w.1.size+1)) (F:∀x args X,kY x args X->args.size=j.size)
  (f:U β->E->Prop) (h:Code->U β->E->Prop)
  (K:∀s X Y,f s X->Same (λi=>i<w.1.size\/w.1.size+2+k<=i) X Y->f s Y)
  (R:∀c s X Y,h c s X->Same (λi=>i<w.1.size\/w.1.size+2+k<=i) X Y->h c s Y)
  (S:f [] w)
  (T:∀e x args X,f e X->e++[x]<+:xs->kY x args X->w.1.size+2+k<=X.1.size->∀m,
   o.wpIn (Fence.wide.inRound (w.1.size+1)) m P (Exit.then (λZ r=>Below X.1.size X r/\∀l:E,Same (λi=>i≠w.1.size+1) r l->
     q.wpIn (Fence.wide.inRound (w.1.size+1)) m P (vY w.1.size D f h (e++[x]) l) Z l) (λ_ _ _=>False))
    {tmps:=(j.zip args).foldl (λt (p,v)=>t.setIfInBounds p v) a.tmps,defers:=[]} X)
  (γ:∀X,f xs X->X.1[w.1.size]?=G (.deferred (G []))->Q .normal {a with defers:={target:= .collected w.1.size,args:=#[]}::a.defers} X)
  (δ:∀c e X,e<+:xs->h c e X->X.1[w.1.size]?=G (.deferred (G []))->c.wpIn Fence.wide n P Q {a with defers:={target:= .collected w.1.size,args:=#[]}::a.defers} X):
  (Code.rangeFunc g j o q).wpIn Fence.wide n P Q a w:=
 vZ u y (λW h1 h2=>(z W h1 h2).Tw) A F f h K R (λ_ _ _=>trivial) (λ_ _ _ _=>trivial) (λ_ _ _ _ _ _=>trivial) S (λe x args X a b c d m=>zH (T e x args X a b c d m) (λ_ _ _ _=>ER)) γ δ
def kJ (r:V):Bool:=decide (48<=r) && decide (r<=57)
theorem mP (r:V)(w:E):Calls L 99 #[.int .i32 r] w (cO (O (kJ r)) w):=by
 by_cases d:48<=r
 .by_cases e:r<=57
  .have b:kJ r=true:=by simp[kJ,d,e]
   rw[b];clear b;go_enter func99,ntmps99;go_wp2_with fail;go_ret;exact⟨rfl,I _ _⟩
  .have b:kJ r=N:=by simp[kJ,e]
   rw[b];clear b;go_enter func99,ntmps99;go_wp2_with fail;go_ret;exact⟨rfl,I _ _⟩
 .have b:kJ r=N:=by simp[kJ,d]
  rw[b];clear b;go_enter func99,ntmps99;go_wp2_with fail;go_ret;exact⟨rfl,I _ _⟩
def jV (r:V):Bool:=decide (r=95)||(decide (97<=r) && decide (r<=122))||(decide (65<=r) && decide (r<=90))||decide (128<=r)
theorem RL (r:V)(w:E)(b:r=95)(_h1:¬97<=r)(_h2:r<=122)(_h3:65<=r)(_h4:¬r<=90)(_h5:¬128<=r):Calls L 138 #[.int .i32 r] w (cO (O true) w):=by
 skip;go_enter func138,ntmps138;go_wp2_with fail;go_ret;exact⟨rfl,I _ _⟩
theorem RN (r:V)(w:E)(b:¬r=95)(d:97<=r)(e:r<=122)(_h3:65<=r)(_h4:¬r<=90)(_h5:¬128<=r):Calls L 138 #[.int .i32 r] w (cO (O true) w):=by
 have f:(r==95)=N:=aX.2 b;go_enter func138,ntmps138;go_wp2_with fail;go_ret;exact⟨rfl,I _ _⟩
theorem RO (r:V)(w:E)(b:¬r=95)(d:97<=r)(e:¬r<=122)(f:65<=r)(g:¬r<=90)(h:¬128<=r):Calls L 138 #[.int .i32 r] w (cO (O N) w):=by
 have i:(r==95)=N:=aX.2 b;go_enter func138,ntmps138;go_wp2_with fail;go_ret;exact⟨rfl,I _ _⟩
theorem RQ (r:V)(w:E)(b:¬r=95)(d:97<=r)(e:¬r<=122)(f:65<=r)(g:¬r<=90)(h:128<=r):Calls L 138 #[.int .i32 r] w (cO (O true) w):=by
 have i:(r==95)=N:=aX.2 b;go_enter func138,ntmps138;go_wp2_with fail;go_ret;exact⟨rfl,I _ _⟩
theorem RS (r:V)(w:E)(b:¬r=95)(d:¬97<=r)(_h2:r<=122)(e:65<=r)(f:r<=90)(_h5:¬128<=r):Calls L 138 #[.int .i32 r] w (cO (O true) w):=by
 have g:(r==95)=N:=aX.2 b;go_enter func138,ntmps138;go_wp2_with fail;go_ret;exact⟨rfl,I _ _⟩
theorem RU (r:V)(w:E)(b:¬r=95)(d:¬97<=r)(_h2:r<=122)(e:65<=r)(f:¬r<=90)(g:¬128<=r):Calls L 138 #[.int .i32 r] w (cO (O N) w):=by
 have h:(r==95)=N:=aX.2 b;go_enter func138,ntmps138;go_wp2_with fail;go_ret;exact⟨rfl,I _ _⟩
theorem RV (r:V)(w:E)(b:¬r=95)(d:¬97<=r)(_h2:r<=122)(e:¬65<=r)(_h4:r<=90)(f:¬128<=r):Calls L 138 #[.int .i32 r] w (cO (O N) w):=by
 have g:(r==95)=N:=aX.2 b;go_enter func138,ntmps138;go_wp2_with fail;go_ret;exact⟨rfl,I _ _⟩
theorem MZ (r:V)(w:E):Calls L 138 #[.int .i32 r] w (cO (O (jV r)) w):=by
 by_cases d:r=95
 .have b:jV r=true:=by simp[jV,d]
  rw[b];exact RL r w d ah ah ah ah ah
 by_cases e:97<=r
 .by_cases f:r<=122
  .have b:jV r=true:=by simp[jV,e,f]
   rw[b];exact RN r w d e f ah ah ah
  .by_cases h:128<=r
   .have b:jV r=true:=by simp[jV,h]
    rw[b];exact RQ r w d e f ah ah h
   .have b:jV r=N:=by simp[jV];omega
    rw[b];exact RO r w d e f ah ah h
 .by_cases g:65<=r
  .by_cases i:r<=90
   .have b:jV r=true:=by simp[jV,g,i]
    rw[b];exact RS r w d e ah g i ah
   .have b:jV r=N:=by simp[jV];omega
    rw[b];exact RU r w d e ah g i ah
  .have b:jV r=N:=by simp[jV];omega
   rw[b];exact RV r w d e ah g ah ah
def jo (r:V):Bool:=jV r||kJ r
theorem zi (r:V)(w:E):Calls L 101 #[.int .i32 r] w (cO (O (jo r)) w):=by
 cases f:jV r
 all_goals
  have b:=hid f;clear f;go_enter func101,ntmps101;go_wp2_with fail;refine(MZ r w).mono ?_;rintro e h ⟨rfl,g⟩;rw[b.q];have d:=hid g;clear g;go_wp2_with fail
 .refine(mP r h).mono ?_
  rintro e j ⟨rfl,i⟩;go_wp2_with fail;go_ret;exact⟨by simp[jo,b.q],d.q.bQ i⟩
 .go_ret
  exact⟨by simp[jo,b.q],d.q⟩
def Da {b:Type}(F:M)(val:b->Value):Prop:=∀(x:b)(f:M)(e:Array Value)(p:b->Bool)(g:M)(W:E),W.cell? ⟨g,0,none⟩=G (.func (.func f) #[] e)->
  (∀h w,(callFunc f h).run L w= .ok (.enter f h) w)->(∀d,Below W.1.size W d->Calls L f (#[val x]++e) d (cO (O (p x)) d))->Calls L F #[val x,.pointer (G ⟨g,0,none⟩)] W (cO (O (!p x)) W)
def EW {b:Type}(F k:M)(h:b->U Value)(val:b->Value):Prop:=∀(a:Option Addr)(n c f:M)(e:Array Value)(d:U b)(p:b->Bool)(w:E),Row w k h a n c d->
  (∀g w,(callFunc f g).run L w= .ok (.enter f g) w)->Jb L f e val p d w->Calls L F #[.slice a n c,.func (.func f) #[] e] w (cO (O (d.all p)) w)
theorem uJ {β:Type}{F:M}{val:β->Value}(g:Da F val){f:M}{b:Array Value}{p:β->Bool}{cs:U β}{w:E}(T:TypeId)(h:∀e w,(callFunc f e).run L w= .ok (.enter f e) w)
  (i:Jb L f b val p cs w):Jb L F #[.pointer (G ⟨w.1.size,0,none⟩)] val (λx=>!p x) cs (w.alloc (.cells #[.func (.func f) #[] b] T)):=λx j W d=>
 g x f b p w.1.size W (by rw[d.cell (p:=⟨w.1.size,0,none⟩) ak];simp) h
  (λl m=>i x j l (((I _ _).alloc (aB _) _).trans ((d.mono ak).trans (m.mono (by have:=d.size;simp at this;omega)))))
theorem wC (cs:U β)(p:β->Bool):cs.all p=!cs.any (λx=>!p x):=by simp[List.any_eq_not_all_not]
theorem EX {p:Prop}(h:p:=by
 go_wp2_with fail
 first|refine(H.q _ ((I _ _).alloc (aB _) _)).mono ?_|refine(H.q _ (I _ _)).mono ?_
 rintro e w1 ⟨rfl,hb1⟩;go_wp2_with fail;go_ret
 first|exact⟨rfl,hb1⟩|exact⟨rfl,((I _ _).alloc (aB _) _).trans (hb1.mono ak)⟩):p:=h
theorem Xt:Da 103 Ej:=λx f h p d W g i b=>by
 have H:=hid b;clear b;have j:d<W.1.size:=dQ g;go_enter func103,ntmps103;exact EX
theorem Xu:EW 65 1 aS Ej:=λa n c f h i p w d j g=>by
 have b:=(I w.1.size w).alloc (aB _) (.cells #[.func (.func f) #[] h] 138);have l:=hid (U7 a n c 103 #[.pointer (G ⟨w.1.size,0,none⟩)] i (λx=>!p x) _ (d.below b rfl) call103 (uJ Xt _ j g));have m:=hid b;clear b g d;go_enter func65,ntmps65
 go_wp2_with (go_at_call 102;refine l.q.mono ?_;rintro e q ⟨rfl,o⟩)
 go_ret;exact⟨by rw[wC];rfl,m.q.trans (o.mono ak)⟩
theorem Zl:Da 104 fT:=λx f h p d W g i b=>by
 have H:=hid b;clear b;have j:d<W.1.size:=dQ g;go_enter func104,ntmps104;exact EX
theorem Y8:EW 68 9 dx fT:=λa n c f h i p w d j g=>by
 have b:=(I w.1.size w).alloc (aB _) (.cells #[.func (.func f) #[] h] 108);have l:=hid (Xn a n c 104 #[.pointer (G ⟨w.1.size,0,none⟩)] i (λx=>!p x) _ (d.below b rfl) call104 (uJ Zl _ j g));have m:=hid b;clear b g d;go_enter func68,ntmps68
 go_wp2_with (go_at_call 41;refine l.q.mono ?_;rintro e q ⟨rfl,o⟩)
 go_ret;exact⟨by rw[wC];rfl,m.q.trans (o.mono ak)⟩
theorem Zm:Da 115 uV:=λx f h p d W g i b=>by
 have H:=hid b;clear b;have j:d<W.1.size:=dQ g;go_enter func115,ntmps115;exact EX
theorem Y9:EW 71 2 dV uV:=λa n c f h i p w d j g=>by
 have b:=(I w.1.size w).alloc (aB _) (.cells #[.func (.func f) #[] h] 142);have l:=hid (Xo a n c 115 #[.pointer (G ⟨w.1.size,0,none⟩)] i (λx=>!p x) _ (d.below b rfl) call115 (uJ Zm _ j g));have m:=hid b;clear b g d;go_enter func71,ntmps71
 go_wp2_with (go_at_call 114;refine l.q.mono ?_;rintro e q ⟨rfl,o⟩)
 go_ret;exact⟨by rw[wC];rfl,m.q.trans (o.mono ak)⟩
theorem Zn:Da 117 uW:=λx f h p d W g i b=>by
 have H:=hid b;clear b;have j:d<W.1.size:=dQ g;go_enter func117,ntmps117;exact EX
theorem Za:EW 73 4 eB uW:=λa n c f h i p w d j g=>by
 have b:=(I w.1.size w).alloc (aB _) (.cells #[.func (.func f) #[] h] 144);have l:=hid (Xp a n c 117 #[.pointer (G ⟨w.1.size,0,none⟩)] i (λx=>!p x) _ (d.below b rfl) call117 (uJ Zn _ j g));have m:=hid b;clear b g d;go_enter func73,ntmps73
 go_wp2_with (go_at_call 116;refine l.q.mono ?_;rintro e q ⟨rfl,o⟩)
 go_ret;exact⟨by rw[wC];rfl,m.q.trans (o.mono ak)⟩
theorem Zo:Da 119 uX:=λx f h p d W g i b=>by
 have H:=hid b;clear b;have j:d<W.1.size:=dQ g;go_enter func119,ntmps119;exact EX
theorem Zb:EW 75 2 fE uX:=λa n c f h i p w d j g=>by
 have b:=(I w.1.size w).alloc (aB _) (.cells #[.func (.func f) #[] h] 146);have l:=hid (Xq a n c 119 #[.pointer (G ⟨w.1.size,0,none⟩)] i (λx=>!p x) _ (d.below b rfl) call119 (uJ Zo _ j g));have m:=hid b;clear b g d;go_enter func75,ntmps75
 go_wp2_with (go_at_call 118;refine l.q.mono ?_;rintro e q ⟨rfl,o⟩)
 go_ret;exact⟨by rw[wC];rfl,m.q.trans (o.mono ak)⟩
theorem Zp:Da 141 xR:=λx f h p d W g i b=>by
 have H:=hid b;clear b;have j:d<W.1.size:=dQ g;go_enter func141,ntmps141;exact EX
theorem Zq:EW 111 3 cZ xR:=λa n c f h i p w d j g=>by
 have b:=(I w.1.size w).alloc (aB _) (.cells #[.func (.func f) #[] h] 186);have l:=hid (Xr a n c 141 #[.pointer (G ⟨w.1.size,0,none⟩)] i (λx=>!p x) _ (d.below b rfl) call141 (uJ Zp _ j g));have m:=hid b;clear b g d;go_enter func111,ntmps111
 go_wp2_with (go_at_call 140;refine l.q.mono ?_;rintro e q ⟨rfl,o⟩)
 go_ret;exact⟨by rw[wC];rfl,m.q.trans (o.mono ak)⟩
theorem Ta (a s:Option Addr)(n c f c':M)(xs ys:U V)(w:E)(l:Row w 1 aS a n c xs)(m:Row w 1 aS s f c' ys):
  Calls L 35 #[.slice a n c,.slice s f c'] w (cO (O (decide (xs=ys))) w):=by
 have hn:=l.le;have T:=m.le;have p:=hid l;have q:=hid m;clear l m;by_cases r:n=f
 .subst r
  clear T;go_enter Tryz.func35,Tryz.ntmps35;go_wp2_with fail
  go_loopw [13] (λi wr=>∃k:M,k<=n/\i= .int .i64 k/\xs.take k=ys.take k/\Below w.1.size w wr) (λi _=>n - (RowKit.intOf i).toNat)
  case atStart=>exact⟨0,bn _,rfl,rfl,I _ _⟩
  case round=>
   obtain⟨k,hk,rfl,t,d⟩:=hrel;have u:=hid t;clear t;by_cases z:k<n
   .have β:(0:V)<=(k:V):=by omega
    have γ:(k:V)<(n:V):=by omega
    obtain⟨x,b,o,A,rfl,F⟩:=p.q.at_ z;obtain⟨y,b',o',K,rfl,P⟩:=q.q.at_ z;have W:=bq d rfl (F 0 _ rfl);simp only[gJ,dB] at W;have X:=bq d rfl (P 0 _ rfl);simp only[gJ,dB] at X;have Q:=hid A;have R:=hid K;clear F P A K;by_cases g:x=y
    .subst g
     go_wp2_with fail
     go_quiet (fail)
     go_wp2_with fail;refine⟨⟨k+1,by omega,by go_num,?_,gu d _⟩,by simp[RowKit.intOf];omega⟩;rw[ig,ig,u.q,Q.q,R.q]
    .have ht:(x==y)=N:=by simpa using g
     have Y:=hid g;clear g;go_wp2_with fail
     go_quiet (fail)
     go_wp2_with fail;go_ret;refine⟨?_,gu d _⟩;have j:xs≠ys:=λe=>Y.q (by have S:=Q.q;have Z:=R.q;rw[e,Z] at S;exact(qO S).symm)
     rw[bE j];rfl
   .have δ:k=n:=by omega
    go_wp2_with fail;go_ret;refine⟨?_,d⟩;have e:xs=ys:=by
     have h:=u.q
     rwa[gF (by rw[p.q.len];omega),gF (by rw[q.q.len];omega)] at h
    rw[bT e];rfl
 .have j:xs≠ys:=λe=>r (by rw[<-p.q.len,<-q.q.len,e])
  have ε:((n:V)==(f:V))=N:=aX.2 ah;have HN:=hid j;clear j r;go_enter Tryz.func35,Tryz.ntmps35;go_wp2_with fail;go_ret;refine⟨?_,I _ _⟩;rw[bE HN.q];rfl
theorem YD (a s:Option Addr)(n c f c':M)(xs ys:U Bs)(w:E)(l:Row w 1 encStr a n c xs)(m:Row w 1 encStr s f c' ys):
  Calls L 32 #[.slice a n c,.slice s f c'] w (cO (O (decide (xs=ys))) w):=by
 have hn:=l.le;have T:=m.le;have p:=hid l;have q:=hid m;clear l m;by_cases r:n=f
 .subst r
  clear T;go_enter Tryz.func32,Tryz.ntmps32;go_wp2_with fail
  go_loopw [13] (λi wr=>∃k:M,k<=n/\i= .int .i64 k/\xs.take k=ys.take k/\Below w.1.size w wr) (λi _=>n - (RowKit.intOf i).toNat)
  case atStart=>exact⟨0,bn _,rfl,rfl,I _ _⟩
  case round=>
   obtain⟨k,hk,rfl,t,d⟩:=hrel;have u:=hid t;clear t;by_cases z:k<n
   .have β:(0:V)<=(k:V):=by omega
    have γ:(k:V)<(n:V):=by omega
    obtain⟨x,b,o,A,rfl,F⟩:=p.q.at_ z;obtain⟨y,b',o',K,rfl,P⟩:=q.q.at_ z;have W:=bq d rfl (F 0 _ rfl);simp only[gJ,dB] at W;have X:=bq d rfl (P 0 _ rfl);simp only[gJ,dB] at X;have Q:=hid A;have R:=hid K;clear F P A K;by_cases g:x=y
    .subst g
     go_wp2_with fail
     go_quiet (fail)
     go_wp2_with fail;refine⟨⟨k+1,by omega,by go_num,?_,gu d _⟩,by simp[RowKit.intOf];omega⟩;rw[ig,ig,u.q,Q.q,R.q]
    .have ht:(x==y)=N:=by simpa using g
     have Y:=hid g;clear g;go_wp2_with fail
     go_quiet (fail)
     go_wp2_with fail;go_ret;refine⟨?_,gu d _⟩;have j:xs≠ys:=λe=>Y.q (by have S:=Q.q;have Z:=R.q;rw[e,Z] at S;exact(qO S).symm)
     rw[bE j];rfl
   .have δ:k=n:=by omega
    go_wp2_with fail;go_ret;refine⟨?_,d⟩;have e:xs=ys:=by
     have h:=u.q
     rwa[gF (by rw[p.q.len];omega),gF (by rw[q.q.len];omega)] at h
    rw[bT e];rfl
 .have j:xs≠ys:=λe=>r (by rw[<-p.q.len,<-q.q.len,e])
  have ε:((n:V)==(f:V))=N:=aX.2 ah;have HN:=hid j;clear j r;go_enter Tryz.func32,Tryz.ntmps32;go_wp2_with fail;go_ret;refine⟨?_,I _ _⟩;rw[bE HN.q];rfl
theorem Z4 (a z:Option Addr)(n c f c':M)(xs ys:U Wa)(w:E)(l:Row w 2 fE a n c xs)(m:Row w 2 fE z f c' ys):
  Calls L 38 #[.slice a n c,.slice z f c'] w (cO (O (decide (xs=ys))) w):=by
 have hn:=l.le;have T:=m.le;have p:=hid l;have q:=hid m;clear l m;by_cases r:n=f
 .subst r
  clear T;go_enter Tryz.func38,Tryz.ntmps38;go_wp2_with fail
  go_loopw [13] (λi wr=>∃k:M,k<=n/\i= .int .i64 k/\xs.take k=ys.take k/\Below w.1.size w wr) (λi _=>n - (RowKit.intOf i).toNat)
  case atStart=>exact⟨0,bn _,rfl,rfl,I _ _⟩
  case round=>
   obtain⟨k,hk,rfl,A,d⟩:=hrel;have F:=hid A;clear A;by_cases K:k<n
   .have β:(0:V)<=(k:V):=by omega
    have γ:(k:V)<(n:V):=by omega
    obtain⟨x,b,o,P,rfl,s⟩:=p.q.at_ K;obtain⟨y,b',o',Q,rfl,t⟩:=q.q.at_ K;have W:=bq d rfl (s 0 _ rfl);have u:=bq d rfl (s 1 _ rfl);simp only[dB] at W;have X:=bq d rfl (t 0 _ rfl);have δ:=bq d rfl (t 1 _ rfl);simp only[dB] at X;have R:=hid P;have S:=hid Q;clear s t P Q;by_cases g:x=y
    .subst g
     go_wp2_with fail
     go_quiet (fail)
     go_wp2_with fail;refine⟨⟨k+1,by omega,by go_num,?_,gu d _⟩,by simp[RowKit.intOf];omega⟩;rw[ig,ig,F.q,R.q,S.q]
    .have Y:=Xj x y;rw[bE g] at Y
     have Z:=hid g;clear g;go_wp2_with fail
     go_quiet (fail)
     go_wp2_with fail;go_ret;refine⟨?_,gu d _⟩;have j:xs≠ys:=λe=>Z.q (by have u:=R.q;have h2:=S.q;rw[e,h2] at u;exact(qO u).symm)
     rw[bE j];rfl
   .have ε:k=n:=by omega
    go_wp2_with fail;go_ret;refine⟨?_,d⟩;have e:xs=ys:=by
     have h:=F.q
     rwa[gF (by rw[p.q.len];omega),gF (by rw[q.q.len];omega)] at h
    rw[bT e];rfl
 .have j:xs≠ys:=λe=>r (by rw[<-p.q.len,<-q.q.len,e])
  have ζ:((n:V)==(f:V))=N:=aX.2 ah;have HN:=hid j;clear j r;go_enter Tryz.func38,Tryz.ntmps38;go_wp2_with fail;go_ret;refine⟨?_,I _ _⟩;rw[bE HN.q];rfl
theorem aas (a z:Option Addr)(n c f c':M)(xs ys:U Sn)(w:E)(p:Row w 3 cZ a n c xs)(q:Row w 3 cZ z f c' ys):
  Calls L 84 #[.slice a n c,.slice z f c'] w (cO (O (decide (xs=ys))) w):=by
 have hn:=p.le;have W:=q.le;have r:=hid p;have s:=hid q;clear p q;by_cases t:n=f
 .subst t
  clear W;go_enter func84,ntmps84;go_wp2_with fail
  go_loopw [13] (λi wr=>∃k:M,k<=n/\i= .int .i64 k/\xs.take k=ys.take k/\Below w.1.size w wr) (λi _=>n - (RowKit.intOf i).toNat)
  case atStart=>exact⟨0,bn _,rfl,rfl,I _ _⟩
  case round=>
   obtain⟨k,hk,rfl,A,d⟩:=hrel;have F:=hid A;clear A;by_cases K:k<n
   .have β:(0:V)<=(k:V):=by omega
    have γ:(k:V)<(n:V):=by omega
    obtain⟨x,b,o,P,rfl,g⟩:=r.q.at_ K;obtain⟨y,b',o',Q,rfl,j⟩:=s.q.at_ K;have X:=bq d rfl (g 0 _ rfl);have u:=bq d rfl (g 1 _ rfl);have R:=bq d rfl (g 2 _ rfl);simp only[dB] at X;have Y:=bq d rfl (j 0 _ rfl);have δ:=bq d rfl (j 1 _ rfl);have ε:=bq d rfl (j 2 _ rfl);simp only[dB] at Y;have S:=hid P;have T:=hid Q;clear g j P Q;by_cases l:x=y
    .subst l
     go_wp2_with fail
     go_quiet (fail)
     go_wp2_with fail;refine⟨⟨k+1,by omega,by go_num,?_,gu d _⟩,by simp[RowKit.intOf];omega⟩;rw[ig,ig,F.q,S.q,T.q]
    .have Z:=Xk x y;rw[bE l] at Z
     have HE:=hid l;clear l;go_wp2_with fail
     go_quiet (fail)
     go_wp2_with fail;go_ret;refine⟨?_,gu d _⟩;have m:xs≠ys:=λe=>HE.q (by have u:=S.q;have R:=T.q;rw[e,R] at u;exact(qO u).symm)
     rw[bE m];rfl
   .have ζ:k=n:=by omega
    go_wp2_with fail;go_ret;refine⟨?_,d⟩;have e:xs=ys:=by
     have h:=F.q
     rwa[gF (by rw[r.q.len];omega),gF (by rw[s.q.len];omega)] at h
    rw[bT e];rfl
 .have m:xs≠ys:=λe=>t (by rw[<-r.q.len,<-s.q.len,e])
  have η:((n:V)==(f:V))=N:=aX.2 ah;have HN:=hid m;clear m t;go_enter func84,ntmps84;go_wp2_with fail;go_ret;refine⟨?_,I _ _⟩;rw[bE HN.q];rfl
theorem nI {T:TypeId}{k b:M}(h:(P.info? T).map (λi=>(i.zero.map (·.cells.size),i.size,i.bytes))=G (G k,k,b)):
  ∃i z,P.info? T=G i/\i.zero=G z/\i.size=k/\i.bytes=b/\z.cells.size=k:=by
 cases f:P.info? T with
 |none=>rw[f] at h;cases h
 |some i=>
  rw[f] at h;simp only[Option.map_some,Option.some.injEq,Prod.mk.injEq] at h;obtain⟨d,g,j⟩:=h
  cases e:i.zero with
  |none=>rw[e] at d;cases d
  |some z=>rw[e] at d;exact⟨i,z,rfl,e,g,j,by simpa using d⟩
theorem Xv:(Tryz.prog.info? 49).map (λi=>(i.zero.map (·.cells.size),i.size,i.bytes))=G (G 9,9,88):=ay
theorem K8:∃i z,Tryz.prog.info? 49=G i/\i.zero=G z/\i.size=9/\i.bytes=88/\z.cells.size=9:=nI Xv
theorem Xw:(Tryz.prog.info? 130).map (λi=>(i.zero.map (·.cells.size),i.size,i.bytes))=G (G 2,2,24):=ay
theorem EA:∃i z,Tryz.prog.info? 130=G i/\i.zero=G z/\i.size=2/\i.bytes=24/\z.cells.size=2:=nI Xw
theorem U8:(Tryz.prog.info? 9).map (λi=>(i.zero.map (·.cells.size),i.size,i.bytes))=G (G 1,1,16):=ay
theorem l8:∃i z,Tryz.prog.info? 9=G i/\i.zero=G z/\i.size=1/\i.bytes=16/\z.cells.size=1:=nI U8
theorem U9:(Tryz.prog.info? 3).map (λi=>(i.zero.map (·.cells.size),i.size,i.bytes))=G (G 1,1,8):=ay
theorem Cw:∃i z,Tryz.prog.info? 3=G i/\i.zero=G z/\i.size=1/\i.bytes=8/\z.cells.size=1:=nI U9
theorem Xx:(Tryz.prog.info? 57).map (λi=>(i.zero.map (·.cells.size),i.size,i.bytes))=G (G 2,2,32):=ay
theorem Kz:∃i z,Tryz.prog.info? 57=G i/\i.zero=G z/\i.size=2/\i.bytes=32/\z.cells.size=2:=nI Xx
theorem Xy:(Tryz.prog.info? 60).map (λi=>(i.zero.map (·.cells.size),i.size,i.bytes))=G (G 4,4,48):=ay
theorem KA:∃i z,Tryz.prog.info? 60=G i/\i.zero=G z/\i.size=4/\i.bytes=48/\z.cells.size=4:=nI Xy
theorem Xz:(Tryz.prog.info? 63).map (λi=>(i.zero.map (·.cells.size),i.size,i.bytes))=G (G 2,2,16):=ay
theorem Ky:∃i z,Tryz.prog.info? 63=G i/\i.zero=G z/\i.size=2/\i.bytes=16/\z.cells.size=2:=nI Xz
theorem XA:(Tryz.prog.info? 53).map (λi=>(i.zero.map (·.cells.size),i.size,i.bytes))=G (G 3,3,24):=ay
theorem EF:∃i z,Tryz.prog.info? 53=G i/\i.zero=G z/\i.size=3/\i.bytes=24/\z.cells.size=3:=nI XA
theorem XB:(Tryz.prog.info? 77).map (λi=>(i.zero.map (·.cells.size),i.size,i.bytes))=G (G 6,6,80):=ay
theorem Kc:∃i z,Tryz.prog.info? 77=G i/\i.zero=G z/\i.size=6/\i.bytes=80/\z.cells.size=6:=nI XB
end Yd
namespace Yd
open Option renaming some->C
open Go Go.RowKit
open Go renaming Value->I,World->J,TypeId->L
open Go.Value renaming slice->G
open Value renaming slice->H
theorem gM (w:J)(o:Obj):(w.alloc o).1[w.1.size]?=C o:=by
 show(w.1.push o)[w.1.size]?=C o;simp
def Own {b:Type}(w:J)(B:Nat)(d:L)(k:Nat)(enc:b->List I)(v:I)(xs:List b):Prop:=
 w.ownsRow B d k v xs.length (xs.flatMap enc)
class Cells {b:Type} (enc:b->List I) (k:Nat):Prop where
 len:∀x,(enc x).length=k
 pos:0<k
 one:∀x,∀u∈enc x,u.oneCell'=true
instance eP:Cells aS 1:=⟨λ_=>rfl,by decide,λx u h=>by simp[aS] at h;subst h;rfl⟩
instance eX:Cells encStr 1:=⟨λ_=>rfl,by decide,λx u h=>by simp[encStr] at h;subst h;rfl⟩
instance ko:Cells cZ 3:=⟨λ_=>rfl,by decide,λx u h=>by simp[cZ] at h;rcases h with rfl|rfl|rfl <;> rfl⟩
instance lQ:Cells fE 2:=⟨λ_=>rfl,by decide,λx u h=>by simp[fE] at h;rcases h with rfl|rfl <;> rfl⟩
instance OZ:Cells pQ 2:=⟨λ_=>rfl,by decide,λx u h=>by simp[pQ] at h;rcases h with rfl|rfl <;> rfl⟩
instance kr:Cells dV 2:=⟨λ_=>rfl,by decide,λx u h=>by simp[dV] at h;rcases h with rfl|rfl <;> rfl⟩
instance ku:Cells eB 4:=⟨λ_=>rfl,by decide,λx u h=>by simp[eB] at h;rcases h with rfl|rfl|rfl|rfl <;> rfl⟩
instance GY:Cells qX 6:=⟨λ_=>rfl,by decide,λx u h=>by simp[qX] at h;rcases h with rfl|rfl|rfl|rfl|rfl|rfl <;> rfl⟩
instance jI:Cells dx 9:=⟨λ_=>rfl,by decide,λx u h=>by simp[dx] at h;rcases h with rfl|rfl|rfl|rfl|rfl|rfl|rfl|rfl|rfl <;> rfl⟩
section
variable {α:Type}{enc:α->List I}{k:Nat}
theorem uD [hc:Cells enc k](xs:List α):(xs.flatMap enc).length=xs.length*k:=by
 induction xs with
 |nil=>simp
 |cons x xs b=>simp[gZ,b,hc.len x,Nat.add_mul,Nat.add_comm]
theorem flat_get [hc:Cells enc k](xs:List α):∀(i:Nat)(x:α)(j:Nat)(v:I),xs[i]?=C x->(enc x)[j]?=C v->(xs.flatMap enc)[i*k+j]?=C v:=by
 induction xs with
 |nil=>intro i x j v h;simp at h
 |cons y l f=>
  intro i x j v d b;have g:j<k:=by
   have:=(bK.1 b).1;rw[hc.len x] at this;exact this
  rw[gZ]
  cases i with
  |zero=>
   have e:y=x:=by simpa using d
   subst e;rw[Nat.zero_mul,bD,rX (by rw[hc.len y];exact g)];exact b
  |succ i=>
   rw[pG (by rw[hc.len y,Nat.succ_mul];omega),hc.len y,show(i+1)*k+j - k=i*k+j by rw[Nat.succ_mul];omega];exact f i x j v (by simpa using d) b
theorem RX [hc:Cells enc k](xs:List α):∀(q:Nat)(v:I),(xs.flatMap enc)[q]?=C v->∃i x j,xs[i]?=C x/\(enc x)[j]?=C v/\q=i*k+j:=by
 induction xs with
 |nil=>intro q v h;simp at h
 |cons y g d=>
  intro q v h;rw[gZ] at h;rcases iM q k with b|b
  .rw[rX (by rw[hc.len y];exact b)] at h
   exact⟨0,y,q,rfl,h,by omega⟩
  .rw[pG (by rw[hc.len y];exact b),hc.len y] at h
   obtain⟨i,x,j,e,f,l⟩:=d _ _ h;exact⟨i+1,x,j,by simpa using e,f,by rw[Nat.succ_mul];omega⟩
theorem RY [hc:Cells enc k](xs:List α):∀u∈xs.flatMap enc,u.oneCell'=true:=by
 intro u b;obtain⟨x,_,h⟩:=kH.1 b;exact hc.one x u h
variable {w w':J}{B:Nat}{E:L}{v:I}{xs:List α}
theorem Own.jv (w:J)(B:Nat)(b:L)(k:Nat)(enc:α->List I):Own w B b k enc (G none 0 0) []:=World.ownsRow_nil w B b k
theorem Own.shape (h:Own w B E k enc v xs):∃a c,v= G a xs.length c/\(a=none->c=0)/\xs.length<=c:=by
 rcases h.2 with⟨rfl,b⟩|⟨g,d,f,rfl,_,_,e,_⟩
 .exact⟨none,0,by rw[b],λ_=>rfl,by omega⟩
 .exact⟨_,d,rfl,(λh=>by cases h),e⟩
theorem Own.row [hc:Cells enc k]{a:Option Addr}{n c:Nat}(h:Own w B E k enc (G a n c) xs)(o:xs.length<=140737488355328):Row w k enc a n c xs:=by
 obtain⟨p,q⟩:=h;rcases q with⟨b,r⟩|⟨g,A,F,b,_,s,t,_,K,u⟩
 .injection b with d e f
  subst d e f;have l:xs=[]:=vU r;subst l;exact Row.jv
 .injection b with d e f
  subst d e f;refine⟨rfl,t,o,(λh=>by cases h),λi x l=>⟨g,0,rfl,λj v y=>?_⟩⟩;have m:=flat_get (hc:=hc) xs i x j v l y;have z:i*k+j<xs.length*k:=by rw[<-p];exact(bK.1 m).1
  rw[<-u,uT,av z] at m;simp only[bD];unfold World.cell?;simp[s]
  simpa using m
theorem Own.lt (h:Own w B E k enc v xs):∀g,v.ownBlock=C g->B<=g/\g<w.1.size:=World.ownsRow.lt h
theorem Own.alloc (h:Own w B E k enc v xs)(o:Obj):Own (w.alloc o) B E k enc v xs:=World.ownsRow.alloc h o
theorem Own.drew (h:Own w B E k enc v xs):Own w.drew B E k enc v xs:=h
theorem Own.block (h:Own w B E k enc v xs)(d:∀g,v.ownBlock=C g->w'.1[g]?=w.1[g]?):Own w' B E k enc v xs:=by
 obtain⟨e,b⟩:=h;refine⟨e,?_⟩;rcases b with b|⟨g,f,i,rfl,j,l,r⟩
 .exact .inl b
 .exact .inr ⟨g,f,i,rfl,j,by rw[d g rfl];exact l,r⟩
theorem Own.below {D:Nat}(h:Own w B E k enc v xs)(b:Below D w w')(d:D=w.1.size):Own w' B E k enc v xs:=
 h.block λg e=>b.block g (by rw[d];exact(h.lt g e).2)
theorem Own.mono {B':Nat}(h:Own w B E k enc v xs)(i:B'<=B):Own w B' E k enc v xs:=by
 obtain⟨d,b⟩:=h;refine⟨d,?_⟩;rcases b with b|⟨g,e,f,rfl,j,r⟩
 .exact .inl b
 .exact .inr ⟨g,e,f,rfl,by omega,r⟩
theorem Own.new (w:J)(B:Nat)(b:L)[hc:Cells enc k](cs:Array I)(xs:List α)(f:B<=w.1.size)(d:cs.toList=xs.flatMap enc)(g:xs.length<=maxLen):
  Own (w.alloc (.cells cs b)) B b k enc (G (C ⟨w.1.size,0,none⟩) xs.length xs.length) xs:=by
 have e:cs.size=xs.length*k:=by rw[<-Array.length_toList,d,uD (hc:=hc)]
 refine⟨uD xs,.inr ⟨w.1.size,xs.length,cs,rfl,f,gM w _,aB _,g,e,?_⟩⟩;rw[gF (by rw[Array.length_toList,e];exact aB _),d]
variable{P:Program}
theorem Kl [hc:Cells enc k](t g:L)(i:TypeInfo)(z:I)(l:Nat)(q:P.underlying t=C (.slice E))(r:P.info? E=C i)(Q:i.zero=C z)
  (R:i.size=k) (S:i.bytes=l) (T:z.cells.size=k) (f:Own w B E k enc v xs)
  {a:Option Addr} {m c:Nat} {ys:List α} (p:Row w k enc a m c ys) (W:(xs.length+m)*l<=140737488355328) (X:xs.length+m<=maxLen) (Y:B<=w.1.size):
  ∃d c' e,(Builtin.append_ #[t,t] g #[v,G a m c]).run P w= .ok (G d (xs++ys).length c') e/\Own e B E k enc (G d (xs++ys).length c') (xs++ys)/\w.grownBy e v.ownBlock/\
   ((H d (xs++ys).length c').ownBlock=v.ownBlock\/(H d (xs++ys).length c').ownBlock=C w.1.size):=by
 cases a with
 |none=>
  obtain⟨rfl,rfl,rfl⟩:=p.none_;obtain⟨a,c,rfl,_,_⟩:=f.shape;refine⟨a,c,w,?_,?_,World.grownBy.refl w _,.inl ?_⟩
  .simpa using run_append_owned_none (P:=P) (w:=w) B t g E i k q r _ _ _ f
  .simpa using f
  .rw[dm]
 |some s=>
  have y:ys.length=m:=p.len;have Z:∀j u,(ys.flatMap enc)[j]?=C u->w.cell? (s.add j)=C u:=by
   intro j u hu;obtain⟨A,x,F,hx,hv,he⟩:=RX (hc:=hc) ys j u hu;obtain⟨b,o,ha,β⟩:=p.2.2.2.2 A x hx;injection ha with ha;subst ha;have h:=β F u hv;rw[he];unfold Addr.add
   split
   .rename_i h0
    rw[show o+A*k+F=o by omega] at h;exact h
   .rw[<-Nat.add_assoc];exact h
  obtain⟨v',e,γ,h1,h2,_,h4⟩:=run_append_own_at (P:=P) w B t g E i z k l q r Q R S T hc.pos v xs.length (xs.flatMap enc) f s m c (ys.flatMap enc) (by rw[uD (hc:=hc),y]) Z (RY (hc:=hc) ys) X W Y;have K:Own e B E k enc v' (xs++ys):=by
   unfold Own;rw[List.flatMap_append,bO,y];exact h1
  obtain⟨d,c',rfl,_,_⟩:=K.shape;exact⟨d,c',e,γ,K,h2,h4⟩
theorem kM [hc:Cells enc k]{o:Oper}{e:Act}{K:Act->J->Prop}{Q:Exit->Act->J->Prop}(s x:Operand)(t:L)
  (q:o.op= .call {callee:= .builtin .append,args:=#[s,x],argTypes:=#[t,t]}) (i:TypeInfo) (z:I) (f:Nat) (r:P.underlying t=C (.slice E)) (u:P.info? E=C i) (y:i.zero=C z)
  (A:i.size=k) (F:i.bytes=f) (R:z.cells.size=k) (S:e.eval s=v) (T:Own w B E k enc v xs)
  (a:Option Addr) (m c N:Nat) (ys:List α) (W:e.eval x= G a m c) (g:Row w k enc a m c ys) (X:xs.length+m=N) (Y:N*f<=140737488355328) (Z:N<=maxLen) (β:B<=w.1.size)
  (h:∀b d w',Own w' B E k enc (G b N d) (xs++ys)->w.grownBy w' v.ownBlock->((H b N d).ownBlock=v.ownBlock\/(H b N d).ownBlock=C w.1.size)->K (e.put o.dst (G b N d)) w'):o.wp P e w K Q:=by
 subst X;obtain⟨b,d,w',j,l,h3,p⟩:=Kl (P:=P) t o.type i z f r u y A F R T g Y Z β;have hl:(xs++ys).length=xs.length+m:=by rw[bO,g.len]
 rw[hl] at j l p;unfold Oper.wp execOp;simp only[q,resolve,invoke,builtin,Sem.run_bind,Sem.run_pure,Result.andThen_ok,List.map_toArray,dX,jN,S,W,j];exact h b d w' l h3 p
theorem iP [hc:Cells enc k]{g:Array Oper}{rest:List Oper}{o:Oper}{e:Act}{Q:Exit->Act->J->Prop}(j:o.guard=none)(s x:Operand)(t:L)
  (l:o.op= .call {callee:= .builtin .append,args:=#[s,x],argTypes:=#[t,t]}) (i:TypeInfo) (z:I) (f:Nat) (p:P.underlying t=C (.slice E)) (q:P.info? E=C i) (r:i.zero=C z)
  (u:i.size=k) (y:i.bytes=f) (A:z.cells.size=k) (F:e.eval s=v) (K:Own w B E k enc v xs)
  (a:Option Addr) (m c N:Nat) (ys:List α) (R:e.eval x= G a m c) (S:Row w k enc a m c ys) (T:xs.length+m=N) (W:N*f<=140737488355328) (X:N<=maxLen) (Y:B<=w.1.size)
  (h:∀b d w',Own w' B E k enc (G b N d) (xs++ys)->w.grownBy w' v.ownBlock->((H b N d).ownBlock=v.ownBlock\/(H b N d).ownBlock=C w.1.size)->wpList P g Q rest (e.put o.dst (G b N d)) w'):
  wpList P g Q (o::rest) e w:=
 wpList_plain j λ_ Z=>kM s x t l i z f p q r u y A F K a m c N ys R S T W X Y λb d w' h2 h3 h4=>Z _ _ (h b d w' h2 h3 h4)
theorem below_app {D:Nat}{X:J}(b:Below D X w)(d:Own w B E k enc v xs)(f:D<=B)(h:D<=w.1.size)(i:w.grownBy w' v.ownBlock):Below D X w':=
 b.grown i h λg e=>bI f (d.lt g e).1
def eO (d:L)(k:Nat)(enc:α->List I)(xs:List α)(w:J)(e:Ending)(b:J):Prop:=
 ∃a c,e= .returned (G a xs.length c)/\Own b w.1.size d k enc (G a xs.length c) xs/\Below w.1.size w b
end
end Yd
namespace Yd
open Go Go.RowKit Go.Proofs Tryz
open Below renaming refl->k
open Go renaming World->C,Calls->D
open Go.Obj renaming cells->B
open Tryz renaming prog->v,ntmps14->E,ntmps15->G,ntmps16->H,ntmps17->I,ntmps18->J,ntmps19->L,ntmps20->M,func14->N,func15->O,func16->R,func17->S,func18->T,func19->U,func20->V
theorem EL (a:Option Addr)(c:Nat)(cs:List EvC)(w:C)(b:Row w 9 dx a cs.length c cs)(j:cs.length*88<=140737488355328):
  D v 14 #[.slice a cs.length c] w (eO 49 9 dx cs w):=by
 have l:cs.length<=maxLen:=by have:=b.le;unfold maxLen;omega
 have F:=λ(w:C)(n c:Nat)=> @Lib.run_eql_slice_nil v w 23 49 a n c 0 0 underlying23
 cases a with
 |none=>
  obtain⟨rfl,_,rfl⟩:=b.none_;go_enter N,E;go_wp2_with fail;go_ret;exact⟨none,0,rfl,Own.jv _ _ _ _ _,k _ _⟩
 |some d=>
  obtain⟨i,z,m,o,p,q,r⟩:=K8;have e:Row (w.alloc (B #[] 49)) 9 dx (some d) cs.length c cs:=b.below ((k _ _).alloc (aB _) _) rfl;have f:=Own.new (hc:=jI) w w.1.size 49 (enc:=dx) #[] [] (aB _) rfl (bn _);have g:Below w.1.size w (w.alloc (B #[] 49)):=(k _ _).alloc (aB _) _;have s:=hid e;have K:=hid b;have h:=hid f;have t:=hid g;clear b e f g;go_enter N,E
  go_wp2_with (at_builtin;refine iP rfl _ _ 23 rfl i z 88 underlying23 m o p q r rfl h.q (some d) cs.length c cs.length cs rfl s.q ak j l ak ?_;intro u x P y A Q)
  go_ret;exact⟨u,x,rfl,y,below_app t.q h.q (aB _) ak A⟩
theorem EP (a:Option Addr)(c:Nat)(cs:List Sn)(w:C)(b:Row w 3 cZ a cs.length c cs)(j:cs.length*24<=140737488355328):
  D v 15 #[.slice a cs.length c] w (eO 53 3 cZ cs w):=by
 have l:cs.length<=maxLen:=by have:=b.le;unfold maxLen;omega
 have F:=λ(w:C)(n c:Nat)=> @Lib.run_eql_slice_nil v w 47 53 a n c 0 0 underlying47
 cases a with
 |none=>
  obtain⟨rfl,_,rfl⟩:=b.none_;go_enter O,G;go_wp2_with fail;go_ret;exact⟨none,0,rfl,Own.jv _ _ _ _ _,k _ _⟩
 |some d=>
  obtain⟨i,z,m,o,p,q,r⟩:=EF;have e:Row (w.alloc (B #[] 53)) 3 cZ (some d) cs.length c cs:=b.below ((k _ _).alloc (aB _) _) rfl;have f:=Own.new (hc:=ko) w w.1.size 53 (enc:=cZ) #[] [] (aB _) rfl (bn _);have g:Below w.1.size w (w.alloc (B #[] 53)):=(k _ _).alloc (aB _) _;have s:=hid e;have K:=hid b;have h:=hid f;have t:=hid g;clear b e f g;go_enter O,G
  go_wp2_with (at_builtin;refine iP rfl _ _ 47 rfl i z 24 underlying47 m o p q r rfl h.q (some d) cs.length c cs.length cs rfl s.q ak j l ak ?_;intro u x P y A Q)
  go_ret;exact⟨u,x,rfl,y,below_app t.q h.q (aB _) ak A⟩
theorem EM (a:Option Addr)(c:Nat)(cs:List aG)(w:C)(b:Row w 2 dV a cs.length c cs)(j:cs.length*32<=140737488355328):
  D v 16 #[.slice a cs.length c] w (eO 57 2 dV cs w):=by
 have l:cs.length<=maxLen:=by have:=b.le;unfold maxLen;omega
 have F:=λ(w:C)(n c:Nat)=> @Lib.run_eql_slice_nil v w 24 57 a n c 0 0 underlying24
 cases a with
 |none=>
  obtain⟨rfl,_,rfl⟩:=b.none_;go_enter R,H;go_wp2_with fail;go_ret;exact⟨none,0,rfl,Own.jv _ _ _ _ _,k _ _⟩
 |some d=>
  obtain⟨i,z,m,o,p,q,r⟩:=Kz;have e:Row (w.alloc (B #[] 57)) 2 dV (some d) cs.length c cs:=b.below ((k _ _).alloc (aB _) _) rfl;have f:=Own.new (hc:=kr) w w.1.size 57 (enc:=dV) #[] [] (aB _) rfl (bn _);have g:Below w.1.size w (w.alloc (B #[] 57)):=(k _ _).alloc (aB _) _;have s:=hid e;have K:=hid b;have h:=hid f;have t:=hid g;clear b e f g;go_enter R,H
  go_wp2_with (at_builtin;refine iP rfl _ _ 24 rfl i z 32 underlying24 m o p q r rfl h.q (some d) cs.length c cs.length cs rfl s.q ak j l ak ?_;intro u x P y A Q)
  go_ret;exact⟨u,x,rfl,y,below_app t.q h.q (aB _) ak A⟩
theorem EN (a:Option Addr)(c:Nat)(cs:List aK)(w:C)(b:Row w 4 eB a cs.length c cs)(j:cs.length*48<=140737488355328):
  D v 17 #[.slice a cs.length c] w (eO 60 4 eB cs w):=by
 have l:cs.length<=maxLen:=by have:=b.le;unfold maxLen;omega
 have F:=λ(w:C)(n c:Nat)=> @Lib.run_eql_slice_nil v w 25 60 a n c 0 0 underlying25
 cases a with
 |none=>
  obtain⟨rfl,_,rfl⟩:=b.none_;go_enter S,I;go_wp2_with fail;go_ret;exact⟨none,0,rfl,Own.jv _ _ _ _ _,k _ _⟩
 |some d=>
  obtain⟨i,z,m,o,p,q,r⟩:=KA;have e:Row (w.alloc (B #[] 60)) 4 eB (some d) cs.length c cs:=b.below ((k _ _).alloc (aB _) _) rfl;have f:=Own.new (hc:=ku) w w.1.size 60 (enc:=eB) #[] [] (aB _) rfl (bn _);have g:Below w.1.size w (w.alloc (B #[] 60)):=(k _ _).alloc (aB _) _;have s:=hid e;have K:=hid b;have h:=hid f;have t:=hid g;clear b e f g;go_enter S,I
  go_wp2_with (at_builtin;refine iP rfl _ _ 25 rfl i z 48 underlying25 m o p q r rfl h.q (some d) cs.length c cs.length cs rfl s.q ak j l ak ?_;intro u x P y A Q)
  go_ret;exact⟨u,x,rfl,y,below_app t.q h.q (aB _) ak A⟩
theorem EO (a:Option Addr)(c:Nat)(cs:List Wa)(w:C)(b:Row w 2 fE a cs.length c cs)(j:cs.length*16<=140737488355328):
  D v 18 #[.slice a cs.length c] w (eO 63 2 fE cs w):=by
 have l:cs.length<=maxLen:=by have:=b.le;unfold maxLen;omega
 have F:=λ(w:C)(n c:Nat)=> @Lib.run_eql_slice_nil v w 26 63 a n c 0 0 underlying26
 cases a with
 |none=>
  obtain⟨rfl,_,rfl⟩:=b.none_;go_enter T,J;go_wp2_with fail;go_ret;exact⟨none,0,rfl,Own.jv _ _ _ _ _,k _ _⟩
 |some d=>
  obtain⟨i,z,m,o,p,q,r⟩:=Ky;have e:Row (w.alloc (B #[] 63)) 2 fE (some d) cs.length c cs:=b.below ((k _ _).alloc (aB _) _) rfl;have f:=Own.new (hc:=lQ) w w.1.size 63 (enc:=fE) #[] [] (aB _) rfl (bn _);have g:Below w.1.size w (w.alloc (B #[] 63)):=(k _ _).alloc (aB _) _;have s:=hid e;have K:=hid b;have h:=hid f;have t:=hid g;clear b e f g;go_enter T,J
  go_wp2_with (at_builtin;refine iP rfl _ _ 26 rfl i z 16 underlying26 m o p q r rfl h.q (some d) cs.length c cs.length cs rfl s.q ak j l ak ?_;intro u x P y A Q)
  go_ret;exact⟨u,x,rfl,y,below_app t.q h.q (aB _) ak A⟩
theorem uz (a:Option Addr)(c:Nat)(cs:List Int)(w:C)(b:Row w 1 aS a cs.length c cs)(j:cs.length*8<=140737488355328):
  D v 19 #[.slice a cs.length c] w (eO 3 1 aS cs w):=by
 have l:cs.length<=maxLen:=by have:=b.le;unfold maxLen;omega
 have F:=λ(w:C)(n c:Nat)=> @Lib.run_eql_slice_nil v w 55 3 a n c 0 0 underlying55
 cases a with
 |none=>
  obtain⟨rfl,_,rfl⟩:=b.none_;go_enter U,L;go_wp2_with fail;go_ret;exact⟨none,0,rfl,Own.jv _ _ _ _ _,k _ _⟩
 |some d=>
  obtain⟨i,z,m,o,p,q,r⟩:=Cw;have e:Row (w.alloc (B #[] 3)) 1 aS (some d) cs.length c cs:=b.below ((k _ _).alloc (aB _) _) rfl;have f:=Own.new (hc:=eP) w w.1.size 3 (enc:=aS) #[] [] (aB _) rfl (bn _);have g:Below w.1.size w (w.alloc (B #[] 3)):=(k _ _).alloc (aB _) _;have s:=hid e;have K:=hid b;have h:=hid f;have t:=hid g;clear b e f g;go_enter U,L
  go_wp2_with (at_builtin;refine iP rfl _ _ 55 rfl i z 8 underlying55 m o p q r rfl h.q (some d) cs.length c cs.length cs rfl s.q ak j l ak ?_;intro u x P y A Q)
  go_ret;exact⟨u,x,rfl,y,below_app t.q h.q (aB _) ak A⟩
theorem lJ (a:Option Addr)(c:Nat)(cs:List Bs)(w:C)(b:Row w 1 encStr a cs.length c cs)(j:cs.length*16<=140737488355328):
  D v 20 #[.slice a cs.length c] w (eO 9 1 encStr cs w):=by
 have l:cs.length<=maxLen:=by have:=b.le;unfold maxLen;omega
 have F:=λ(w:C)(n c:Nat)=> @Lib.run_eql_slice_nil v w 22 9 a n c 0 0 underlying22
 cases a with
 |none=>
  obtain⟨rfl,_,rfl⟩:=b.none_;go_enter V,M;go_wp2_with fail;go_ret;exact⟨none,0,rfl,Own.jv _ _ _ _ _,k _ _⟩
 |some d=>
  obtain⟨i,z,m,o,p,q,r⟩:=l8;have e:Row (w.alloc (B #[] 9)) 1 encStr (some d) cs.length c cs:=b.below ((k _ _).alloc (aB _) _) rfl;have f:=Own.new (hc:=eX) w w.1.size 9 (enc:=encStr) #[] [] (aB _) rfl (bn _);have g:Below w.1.size w (w.alloc (B #[] 9)):=(k _ _).alloc (aB _) _;have s:=hid e;have K:=hid b;have h:=hid f;have t:=hid g;clear b e f g;go_enter V,M
  go_wp2_with (at_builtin;refine iP rfl _ _ 22 rfl i z 16 underlying22 m o p q r rfl h.q (some d) cs.length c cs.length cs rfl s.q ak j l ak ?_;intro u x P y A Q)
  go_ret;exact⟨u,x,rfl,y,below_app t.q h.q (aB _) ak A⟩
end Yd
namespace Yd
open Go Go.RowKit
open _root_ renaming List->c,Int->g
def jU (i:Nat):Nat:=if i=0\/i=2 then 300 else 60
def dJ (l:c Bs)(s:Bs):c Bs:=if s∈l then l else l++[s]
def qd (l:c Bs)(s:Bs):Nat:=(dJ l s).idxOf s
theorem zF (l:c Bs)(s:Bs):s∈dJ l s:=by
 unfold dJ
 split
 .assumption
 .simp
theorem CW (l:c Bs)(s:Bs):l<+:dJ l s:=by
 unfold dJ
 split
 .exact gH _
 .exact eu _ _
variable{l:c Bs}{s:Bs}
theorem BD (h:s∈l):dJ l s=l:=by unfold dJ;rw[av h]
theorem zx (h:s∉l):dJ l s=l++[s]:=by unfold dJ;rw[au h]
theorem Ov (h:s∈l):qd l s=l.idxOf s:=by unfold qd;rw[BD h]
theorem KE (h:s∉l):qd l s=l.length:=by
 unfold qd;rw[zx h,List.idxOf_append,au h];simp
theorem Oj (l:c Bs)(s:Bs):qd l s<(dJ l s).length:=xI (zF l s)
theorem zB (h:l.Nodup):(dJ l s).Nodup:=by
 unfold dJ
 split
 .exact h
 .rename_i b
  refine vg.2 ⟨h,by simp,λp d q f e=>?_⟩;rw[bX.1 f] at e;exact b (e▸d)
def kQ (xs:c g)(x:g):c g:=if x∈xs then xs else xs++[x]
def bV (xs:c (g × g))(s:g):c g:=xs.foldl (λl x=>if x.1=s then kQ l x.2 else l) []
theorem kP (xs:c (g × g))(x:g × g)(s:g):bV (xs++[x]) s=if x.1=s then kQ (bV xs s) x.2 else bV xs s:=by simp[bV]
theorem D5 {l:c g}{x:g}(h:l.Nodup):(kQ l x).Nodup:=by
 unfold kQ
 split
 .exact h
 .refine vg.2 ⟨h,by simp,λp d q b e=>?_⟩
  simp at b;subst b e
  contradiction
theorem uq {β:Type}{P:c β->Prop}(d:P [])(e:∀xs x,P xs->P (xs++[x]))(xs:c β):P xs:=by
 have h:∀b:c β,P b.reverse:=by
  intro b
  induction b with
  |nil=>exact d
  |cons y b f=>rw[List.reverse_cons];exact e _ _ f
 simpa using h xs.reverse
def up (n:Nat):c g:=(List.range n).map λi:Nat=>(i:g)
theorem ny (n:Nat):(up n).length=n:=by simp[up]
theorem Kn (n:Nat):up (n+1)=up n++[(n:g)]:=by simp[up,List.range_succ]
variable{n:Nat}
theorem N8 {i:Nat}(h:i<n):(up n)[i]?=some (i:g):=by simp[up,h]
theorem wF {x:g}(b:0<=x):x∈up n↔x<n:=by
 unfold up;simp only[bS,oG]
 constructor
 .rintro⟨a,h,rfl⟩;omega
 .intro h;exact⟨x.toNat,by omega,by omega⟩
theorem VN {m:Nat}(h:up n=up m):n=m:=by have:=bJ List.length h;rwa[ny,ny] at this
theorem J6 (l:c g)(x:g):l<+:kQ l x:=by
 unfold kQ
 split
 .exact gH _
 .exact eu _ _
theorem vX (xs:c (g × g))(x:g × g)(s:g):bV xs s<+:bV (xs++[x]) s:=by
 rw[kP]
 split
 .exact J6 _ _
 .exact gH _
end Yd
namespace Yd
open Go Go.RowKit Go.Proofs
open Tryz renaming prog->B
theorem PI:Tryz.prog.elem 22=9:=ay
theorem PK:Tryz.prog.underlying 22=some (.slice (Tryz.prog.elem 22)):=by rw[PI];exact Tryz.underlying22
theorem XC (W:World):(Go.sizeOf (Tryz.prog.elem 22)).run B W=Result.ok 1 W:=by
 rw[PI]
 kernel_rfl
theorem CO {w:World}{a:Option Addr}{n c:Nat}{xs:List Bs}(h:Row w 1 encStr a n c xs)(k:Nat)(F:k<=n):∃f:Option Addr,(∀W:World,(Instr.slice 22 (.slice a n c) (some (.int .i64 (k:Int))) none none).run B W= .ok (.slice f (n - k) (c - k)) W)/\
  (∀W:World,(Instr.sliceAt 22 (.slice a n c) (some (.int .i64 (k:Int))) none none).run B W= .ok (.slice f (n - k) (c - k)) W)/\Row w 1 encStr f (n - k) (c - k) (xs.drop k)/\∀b o,f=some ⟨b,o,none⟩->∃q,a=some q/\q.block=b:=by
 have m:∀W:World,(Instr.slice 22 (.slice a n c) (some (.int .i64 (k:Int))) none none).run B W= .ok (.slice (if c=k then a else a.map (·.add (k*1))) (n - k) (c - k)) W:=λW=>by
  rw[run_slice_l (P:=B) W 22 a n c PK .i64 (k:Int) ah (by have:=h.cap;omega),XC];simp[Result.andThen,sliced]
 refine⟨if c=k then a else a.map (·.add (k*1)),m,λW=>(run_sliceAt_slice (P:=B) W 22 _ _ _ _ PK).trans (m W),?_,?_⟩
 .obtain⟨r,K,Q,s,t⟩:=h
  refine⟨by rw[gI,r],by omega,by omega,λe=>?_,λi x g=>?_⟩
  .by_cases u:c=k
   .omega
   .rw[au u] at e
    cases a with
    |none=>rw[s rfl];omega
    |some d=>cases e
  .rw[xA] at g
   obtain⟨b,o,ha,y⟩:=t _ x g;have R:=(bK.1 g).1;rw[au ah,ha];refine⟨b,o+k,?_,λj v z=>?_⟩
   .show some (Addr.add ⟨b,o,none⟩ (k*1))=_
    unfold Addr.add;rw[gJ];by_cases l:k=0
    .rw[av l,l];rfl
    .rw[au l]
   .rw[show o+k+i*1+j=o+(k+i)*1+j by omega];exact y j v z
 .intro b o e
  split at e
  .exact⟨_,e,rfl⟩
  .cases a with
   |none=>cases e
   |some d=>
    refine⟨d,rfl,?_⟩;have A:d.add (k*1)=⟨b,o,none⟩:=by simpa using e
    have p:(d.add (k*1)).block=d.block:=by
     unfold Addr.add
     split <;> rfl
    rw[A] at p;exact p.symm
end Yd
namespace Yd
open Go
def sM (b:Nat->List Bs)(i:Nat)(s:Bs):Nat->List Bs:=λj=>if j=i then dJ (b i) s else b j
def kR (b:Nat->List Bs):List Bs->(Nat->List Bs) × List Int
 |[]=>(b,[])
 |s::r=>((kR (sM b 0 s) r).1,(qd (b 0) s:Int)::(kR (sM b 0 s) r).2)
theorem C9:∀(l:List Bs)(b:Nat->List Bs)(s:Bs),kR b (l++[s])=(sM (kR b l).1 0 s,(kR b l).2++[(qd ((kR b l).1 0) s:Int)])
 |[],_,_=>rfl
 |t::l,b,s=>by
  have h:=C9 l (sM b 0 t) s;show((kR (sM b 0 t) (l++[s])).1,_::(kR (sM b 0 t) (l++[s])).2)=_;rw[h];rfl
theorem K9:∀(l:List Bs)(b:Nat->List Bs)(j:Nat),b j<+:(kR b l).1 j
 |[],_,_=>gH _
 |s::r,b,j=>by
  refine List.IsPrefix.trans ?_ (K9 r (sM b 0 s) j);unfold sM
  split
  .rename_i h;subst h;exact CW _ _
  .exact gH _
theorem La:∀(l m:List Bs)(b:Nat->List Bs),(kR b (l++m)).1=(kR (kR b l).1 m).1
 |[],_,_=>rfl
 |_::l,m,b=>La l m (sM b 0 _)
theorem RJ {l:List Bs}{b:Nat->List Bs}{i:Nat}{s:Bs}{n:Nat}(d:l[i]?=some s)(h:((kR b l).1 0).length<=n):(dJ ((kR b (l.take i)).1 0) s).length<=n:=by
 obtain⟨f,g⟩:=bK.1 d;have e:l=(l.take i++[s])++l.drop (i+1):=by
  rw[<-g,dw,BI,<-lW f,qA]
 rw[e,La,C9] at h;have j:=(K9 (l.drop (i+1)) (sM (kR b (l.take i)).1 0 s) 0).length_le;exact bI j h
end Yd
namespace Yd
open Go Go.RowKit Go.Proofs
open Below renaming refl->E
open RowKit renaming intOf->C
open Tryz renaming prog->B,ntmps33->G,ntmps36->I,ntmps39->J,func33->L,func36->M,func39->N
def nC {b:Type}(p:b->b->Bool)(xs ys:List b):Bool:=decide (xs.length=ys.length) && (xs.zip ys).all (λq=>p q.1 q.2)
def M0 {b:Type}(P:Program)(f:Nat)(d:Array Value)(val:b->Value)(p:b->b->Bool)(xs ys:List b)(w:World):Prop:=
 ∀x∈xs,∀y∈ys,∀W,Below w.1.size w W->Calls P f (#[val x,val y]++d) W (cO (.bool (p x y)) W)
variable{k:Nat}
theorem Lb {β:Type}{xs ys:List β}{x y:β}(b:xs[k]?=some x)(d:ys[k]?=some y):(xs.zip ys)[k]?=some (x,y):=by
 rw[List.getElem?_zip_eq_some];exact⟨b,d⟩
theorem Bf {β:Type}{p:β->β->Bool}{xs ys:List β}{x y:β}(h:((xs.zip ys).take k).all (λq=>p q.1 q.2)=true)(b:xs[k]?=some x)(d:ys[k]?=some y)(e:p x y=true):((xs.zip ys).take (k+1)).all (λq=>p q.1 q.2)=true:=by
 rw[ig,Lb b d];simp only[Option.toList_some,List.all_append,h,List.all_cons,e,List.all_nil,Bool.and_self]
theorem EY {β:Type}{p:β->β->Bool}{xs ys:List β}{x y:β}(b:xs[k]?=some x)(d:ys[k]?=some y)(e:p x y=false):nC p xs ys=false:=by
 have f:=dA (Lb b d);unfold nC;rw[Bool.and_eq_false_iff]
 right
 rw[List.all_eq_false];exact⟨(x,y),f,by simp[e]⟩
theorem Db {β:Type}{p:β->β->Bool}{xs ys:List β}{n:Nat}(b:xs.length=n)(d:ys.length=n)(h:((xs.zip ys).take n).all (λq=>p q.1 q.2)=true):nC p xs ys=true:=by
 rw[gF (by simp[b,d])] at h;unfold nC;rw[h,b,d];simp
theorem YE (a K:Option Addr)(n c g c' f:Nat)(P:Array Value)(xs ys:List aG)(p:aG->aG->Bool)(w:World)(h:Row w 2 dV a n c xs)(j:Row w 2 dV K g c' ys)
  (eg:∀Q w,(callFunc f Q).run B w= .ok (.enter f Q) w) (R:M0 B f P uV p xs ys w):
  Calls B 33 #[.slice a n c,.slice K g c',.func (.func f) #[] P] w (cO (.bool (nC p xs ys)) w):=by
 have hn:=h.le;have δ:=j.le;have l:=hid h;have m:=hid j;have H:=hid R;clear h j R;by_cases r:n=g
 .subst r
  clear δ;go_enter L,G;go_wp2_with fail
  go_loopw [17] (λi wr=>∃k:Nat,k<=n/\i= .int .i64 k/\((xs.zip ys).take k).all (λq=>p q.1 q.2)=true/\Below w.1.size w wr) (λi _=>n - (C i).toNat)
  case atStart=>exact⟨0,bn _,rfl,rfl,E _ _⟩
  case round=>
   obtain⟨k,hk,rfl,S,d⟩:=hrel;have T:=hid S;clear S;by_cases W:k<n
   .obtain⟨x,b,o,s,rfl,t⟩:=l.q.at_ W
    obtain⟨y,b',o',u,rfl,z⟩:=m.q.at_ W;have h0:=bq d rfl (t 0 _ rfl);have h1:=bq d rfl (t 1 _ rfl);simp only[dB] at h0;have X:=bq d rfl (z 0 _ rfl);have ζ:=bq d rfl (z 1 _ rfl);simp only[dB] at X;have A:=H.q x (dA s) y (dA u);have η:b'<wr.1.size:=dQ X;have Y:=hid s;have Z:=hid u;clear t z s u
    cases F:p x y
    all_goals
     rw[F] at A;have HC:=hid A;have HP:=hid F;clear A F;go_wp2_with fail;refine(HC.q _ ((d.alloc d.size _).alloc (by have:=d.size;simp;omega) _)).mono ?_;rintro e w1 ⟨rfl,β⟩;go_wp2_with fail
    .go_ret
     refine⟨?_,((d.alloc d.size _).alloc (by have:=d.size;simp;omega) _).trans (β.mono (by have:=d.size;simp;omega))⟩;rw[EY Y.q Z.q HP.q];rfl
    .go_roundw
     case rel=>exact⟨k+1,by omega,by go_num,Bf T.q Y.q Z.q HP.q,((d.alloc d.size _).alloc (by have:=d.size;simp;omega) _).trans (β.mono (by have:=d.size;simp;omega))⟩
     case measure=>simp[C];omega
   .have ε:k=n:=by omega
    go_wp2_with fail;go_ret;refine⟨?_,d⟩;rw[Db l.q.len m.q.len (by rw[<-ε];exact T.q)];rfl
 .have γ:nC p xs ys=false:=by unfold nC;rw[l.q.len,m.q.len];simp[r]
  have θ:((n:Int)==(g:Int))=false:=aX.2 ah;have HN:=hid γ;clear γ r;go_enter L,G;go_wp2_with fail;go_ret;refine⟨?_,E _ _⟩;rw[HN.q];rfl
theorem YF (a K:Option Addr)(n c j c' f:Nat)(P:Array Value)(xs ys:List aK)(p:aK->aK->Bool)(w:World)(l:Row w 4 eB a n c xs)(m:Row w 4 eB K j c' ys)
  (eg:∀Q w,(callFunc f Q).run B w= .ok (.enter f Q) w) (R:M0 B f P uW p xs ys w):
  Calls B 36 #[.slice a n c,.slice K j c',.func (.func f) #[] P] w (cO (.bool (nC p xs ys)) w):=by
 have hn:=l.le;have δ:=m.le;have r:=hid l;have s:=hid m;have H:=hid R;clear l m R;by_cases t:n=j
 .subst t
  clear δ;go_enter M,I;go_wp2_with fail
  go_loopw [17] (λi wr=>∃k:Nat,k<=n/\i= .int .i64 k/\((xs.zip ys).take k).all (λq=>p q.1 q.2)=true/\Below w.1.size w wr) (λi _=>n - (C i).toNat)
  case atStart=>exact⟨0,bn _,rfl,rfl,E _ _⟩
  case round=>
   obtain⟨k,hk,rfl,S,d⟩:=hrel;have T:=hid S;clear S;by_cases W:k<n
   .obtain⟨x,b,o,u,rfl,g⟩:=r.q.at_ W
    obtain⟨y,b',o',z,rfl,h⟩:=s.q.at_ W;have h0:=bq d rfl (g 0 _ rfl);have h1:=bq d rfl (g 1 _ rfl);have h2:=bq d rfl (g 2 _ rfl);have h3:=bq d rfl (g 3 _ rfl);simp only[dB] at h0;have X:=bq d rfl (h 0 _ rfl);have ζ:=bq d rfl (h 1 _ rfl);have η:=bq d rfl (h 2 _ rfl);have θ:=bq d rfl (h 3 _ rfl);simp only[dB] at X;have A:=H.q x (dA u) y (dA z);have ι:b'<wr.1.size:=dQ X;have Y:=hid u;have Z:=hid z;clear g h u z
    cases F:p x y
    all_goals
     rw[F] at A;have HC:=hid A;have HP:=hid F;clear A F;go_wp2_with fail;refine(HC.q _ ((d.alloc d.size _).alloc (by have:=d.size;simp;omega) _)).mono ?_;rintro e w1 ⟨rfl,β⟩;go_wp2_with fail
    .go_ret
     refine⟨?_,((d.alloc d.size _).alloc (by have:=d.size;simp;omega) _).trans (β.mono (by have:=d.size;simp;omega))⟩;rw[EY Y.q Z.q HP.q];rfl
    .go_roundw
     case rel=>exact⟨k+1,by omega,by go_num,Bf T.q Y.q Z.q HP.q,((d.alloc d.size _).alloc (by have:=d.size;simp;omega) _).trans (β.mono (by have:=d.size;simp;omega))⟩
     case measure=>simp[C];omega
   .have ε:k=n:=by omega
    go_wp2_with fail;go_ret;refine⟨?_,d⟩;rw[Db r.q.len s.q.len (by rw[<-ε];exact T.q)];rfl
 .have γ:nC p xs ys=false:=by unfold nC;rw[r.q.len,s.q.len];simp[t]
  have κ:((n:Int)==(j:Int))=false:=aX.2 ah;have HN:=hid γ;clear γ t;go_enter M,I;go_wp2_with fail;go_ret;refine⟨?_,E _ _⟩;rw[HN.q];rfl
theorem YG (a K:Option Addr)(n c j c' f:Nat)(P:Array Value)(xs ys:List EvC)(p:EvC->EvC->Bool)(w:World)(l:Row w 9 dx a n c xs)(m:Row w 9 dx K j c' ys)
  (eg:∀Q w,(callFunc f Q).run B w= .ok (.enter f Q) w) (R:M0 B f P fT p xs ys w):
  Calls B 39 #[.slice a n c,.slice K j c',.func (.func f) #[] P] w (cO (.bool (nC p xs ys)) w):=by
 have hn:=l.le;have δ:=m.le;have r:=hid l;have s:=hid m;have H:=hid R;clear l m R;by_cases t:n=j
 .subst t
  clear δ;go_enter N,J;go_wp2_with fail
  go_loopw [17] (λi wr=>∃k:Nat,k<=n/\i= .int .i64 k/\((xs.zip ys).take k).all (λq=>p q.1 q.2)=true/\Below w.1.size w wr) (λi _=>n - (C i).toNat)
  case atStart=>exact⟨0,bn _,rfl,rfl,E _ _⟩
  case round=>
   obtain⟨k,hk,rfl,S,d⟩:=hrel;have T:=hid S;clear S;by_cases W:k<n
   .obtain⟨x,b,o,u,rfl,g⟩:=r.q.at_ W
    obtain⟨y,b',o',z,rfl,h⟩:=s.q.at_ W;have h0:=bq d rfl (g 0 _ rfl);have h1:=bq d rfl (g 1 _ rfl);have h2:=bq d rfl (g 2 _ rfl);have h3:=bq d rfl (g 3 _ rfl);have h4:=bq d rfl (g 4 _ rfl);have h5:=bq d rfl (g 5 _ rfl);have h6:=bq d rfl (g 6 _ rfl);have h7:=bq d rfl (g 7 _ rfl);have h8:=bq d rfl (g 8 _ rfl);simp only[dB] at h0;have X:=bq d rfl (h 0 _ rfl);have ζ:=bq d rfl (h 1 _ rfl);have η:=bq d rfl (h 2 _ rfl);have θ:=bq d rfl (h 3 _ rfl);have ι:=bq d rfl (h 4 _ rfl);have κ:=bq d rfl (h 5 _ rfl);have μ:=bq d rfl (h 6 _ rfl);have ν:=bq d rfl (h 7 _ rfl);have ξ:=bq d rfl (h 8 _ rfl);simp only[dB] at X;have A:=H.q x (dA u) y (dA z);have ο:b'<wr.1.size:=dQ X;have Y:=hid u;have Z:=hid z;clear g h u z
    cases F:p x y
    all_goals
     rw[F] at A;have HC:=hid A;have HP:=hid F;clear A F;go_wp2_with fail;refine(HC.q _ ((d.alloc d.size _).alloc (by have:=d.size;simp;omega) _)).mono ?_;rintro e w1 ⟨rfl,β⟩;go_wp2_with fail
    .go_ret
     refine⟨?_,((d.alloc d.size _).alloc (by have:=d.size;simp;omega) _).trans (β.mono (by have:=d.size;simp;omega))⟩;rw[EY Y.q Z.q HP.q];rfl
    .go_roundw
     case rel=>exact⟨k+1,by omega,by go_num,Bf T.q Y.q Z.q HP.q,((d.alloc d.size _).alloc (by have:=d.size;simp;omega) _).trans (β.mono (by have:=d.size;simp;omega))⟩
     case measure=>simp[C];omega
   .have ε:k=n:=by omega
    go_wp2_with fail;go_ret;refine⟨?_,d⟩;rw[Db r.q.len s.q.len (by rw[<-ε];exact T.q)];rfl
 .have γ:nC p xs ys=false:=by unfold nC;rw[r.q.len,s.q.len];simp[t]
  have π:((n:Int)==(j:Int))=false:=aX.2 ah;have HN:=hid γ;clear γ t;go_enter N,J;go_wp2_with fail;go_ret;refine⟨?_,E _ _⟩;rw[HN.q];rfl
theorem M4 {P:Program}{β:Type}{g:Operand}{r:Array Tmp}{A F:Code}{Q:Exit->Act->World->Prop}{a:Act}{w:World}{n:Nat}
  {gf:Nat} {lb:Array Value} (R:a.eval g= .func (.func gf) #[] lb) (S:∀args w,(callFunc gf args).run P w= .ok (.enter gf args) w)
  {kY:β->Array Value->World->Prop}  {D:Nat->Prop} {xs:List β}
  (T:∀W,Below w.1.size w W->W.1.size=w.1.size+2->Iter P gf lb kY k D xs W)
  (Z:¬D (w.1.size+1)) (γ:∀x args X,kY x args X->args.size=r.size)
  (h:List β->World->Prop) (l:Code->List β->World->Prop)
  (hI:∀s X Y,h s X->Same (λi=>i<w.1.size\/w.1.size+2+k<=i) X Y->h s Y)
  (δ:∀c s X Y,l c s X->Same (λi=>i<w.1.size\/w.1.size+2+k<=i) X Y->l c s Y)
  (h0:h [] w)
  (ε:∀f x args X,h f X->f++[x]<+:xs->kY x args X->w.1.size+2+k<=X.1.size->∀m,
   A.wpIn (Fence.wide.inRound (w.1.size+1)) m P (Exit.then (λK u=>Below X.1.size X u/\∀j:World,Same (λi=>i≠w.1.size+1) u j->j.1[w.1.size]?=some (.deferred (some []))->(∃o,j.1[w.1.size+1]?=some (.loop o))->
     F.wpIn (Fence.wide.inRound (w.1.size+1)) m P (vY w.1.size D h l (f++[x]) j) K j) (λ_ _ _=>False))
    {tmps:=(r.zip args).foldl (λt (p,v)=>t.setIfInBounds p v) a.tmps,defers:=[]} X)
  (ζ:∀X,h xs X->X.1[w.1.size]?=some (.deferred (some []))->Q .normal {a with defers:={target:= .collected w.1.size,args:=#[]}::a.defers} X)
  (η:∀c f X,f<+:xs->l c f X->X.1[w.1.size]?=some (.deferred (some []))->c.wpIn Fence.wide n P Q {a with defers:={target:= .collected w.1.size,args:=#[]}::a.defers} X):
  (Code.rangeFunc g r A F).wpIn Fence.wide n P Q a w:=
 vZ R S (λW y z=>(T W y z).Tw) Z γ h l hI δ (λ_ _ _=>trivial) (λ_ _ _ _=>trivial) (λ_ _ _ _ _ _=>trivial) h0 (λf x args X a b c d m=>wpIn_mono (ε f x args X a b c d m) λe K u q=>by
  cases e <;> first|exact⟨q.1,λj s y z=>wpIn_mono (q.2 j s y z) (λ_ _ _=>ER)⟩|exact q) ζ η
end Yd
