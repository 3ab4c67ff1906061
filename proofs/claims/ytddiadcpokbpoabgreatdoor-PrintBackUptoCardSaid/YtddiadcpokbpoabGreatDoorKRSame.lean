import Derived.Test.YtddiadcpokbpoabGreatDoorKRf2
import Derived.Test.YtddiadcpokbpoabGreatDoorKOrdV
import Derived.WalkSpells
import Derived.Laws.EntriesVeiled
import Derived.Shelf.Abstract
set_option linter.all false
set_option maxRecDepth 200000
set_option maxHeartbeats 8000000
namespace Yd
open Bool renaming false->V
open Option renaming none->N
open Go Go.RowKit Go.Proofs Tryz
open Below renaming refl->C
open Go renaming World->M,Calls->U
open Go.IntKind renaming i64->H
open Go.Obj renaming cells->O
open Go.Value renaming int->G,pointer->J,bool->L
open Tryz renaming prog->D
open Yd renaming hid->I
theorem abp{p:Prop}(h:p:=by simp;omega):p:=h
theorem abq{p:Prop}(h:p:=by simp[fZ,hasB,gD,gy,d,b,eq_comm (a:=(0:Int)),eq_comm (a:=(⟨0,0⟩:kg)),eq_comm (a:=([]:List Sn)),AY]):p:=h
structure Sl where
 a:Option Addr
 n:Nat
 c:Nat
@[reducible] def Sl.v (s:Sl):Value:= .slice s.a s.n s.c
structure HC where
 t:Sl
 s:Sl
 o:Sl
 p:Sl
 e:Sl
 d:Sl
 m:Sl
 w:Sl
@[reducible] def bC (h:HC):Value:= .agg #[h.t.v,h.s.v,h.o.v,h.p.v,h.e.v,h.d.v,h.m.v,h.w.v]
@[reducible] def aD (h:HC):Array Value:=#[h.t.v,h.s.v,h.o.v,h.p.v,h.e.v,h.d.v,h.m.v,h.w.v]
theorem kC (h:HC)(w:M):U D 28 #[bC h] w (cO (.agg #[h.t.v,h.s.v,h.o.v,h.p.v]) w):=by
 go_enter Tryz.func28,Tryz.ntmps28
 go_wp2
 refine bodyPost_ret (v:= .agg #[h.t.v,h.s.v,h.o.v,h.p.v]) (by simp[results,results28,go_sem]) rfl ⟨rfl,?_⟩;exact((C _ _).alloc ak _).alloc ak _
def aY (n:Int)(a:Nat):Bool:=decide (0<=n) && decide (n<a)
theorem xY {n:Int}{m:Nat}(h:n<0):aY n m=V:=by simp[aY,Int.not_le.2 h]
theorem xZ {n:Int}{m:Nat}(h:0<=n):aY n m=decide (n<m):=by simp[aY,h]
theorem WO (h:HC)(w:M):(Instr.index 91 (.agg #[h.t.v,h.s.v,h.o.v,h.p.v]) (G H 0)).run D w= .ok h.t.v w:=ay
theorem GK (h:HC)(n:Int)(w:M):U D 67 #[bC h,G H 0,G H n] w (cO (L (aY n h.t.n)) w):=by
 have d:=WO h;by_cases a:0<=n
 .go_enter func67,ntmps67
  go_wp2_with (go_at_call 28;refine(kC h _).mono ?_;rintro e c ⟨rfl,b⟩)
  go_ret;refine⟨by rw[xZ a];rfl,((C _ _).alloc ak _).trans (b.mono ak)⟩
 .go_enter func67,ntmps67
  go_wp2_with (go_at_call 28;refine(kC h _).mono ?_;rintro e c ⟨rfl,b⟩)
  go_ret;exact⟨by rw[xY a];rfl,(C _ _).alloc ak _⟩
theorem WQ (h:HC)(w:M):(Instr.index 91 (.agg #[h.t.v,h.s.v,h.o.v,h.p.v]) (G H 1)).run D w= .ok h.s.v w:=ay
theorem TH (h:HC)(n:Int)(w:M):U D 67 #[bC h,G H 1,G H n] w (cO (L (aY n h.s.n)) w):=by
 have d:=WQ h;by_cases a:0<=n
 .go_enter func67,ntmps67
  go_wp2_with (go_at_call 28;refine(kC h _).mono ?_;rintro e c ⟨rfl,b⟩)
  go_ret;refine⟨by rw[xZ a];rfl,((C _ _).alloc ak _).trans (b.mono ak)⟩
 .go_enter func67,ntmps67
  go_wp2_with (go_at_call 28;refine(kC h _).mono ?_;rintro e c ⟨rfl,b⟩)
  go_ret;exact⟨by rw[xY a];rfl,(C _ _).alloc ak _⟩
theorem WR (h:HC)(w:M):(Instr.index 91 (.agg #[h.t.v,h.s.v,h.o.v,h.p.v]) (G H 2)).run D w= .ok h.o.v w:=ay
theorem Es (h:HC)(n:Int)(w:M):U D 67 #[bC h,G H 2,G H n] w (cO (L (aY n h.o.n)) w):=by
 have d:=WR h;by_cases a:0<=n
 .go_enter func67,ntmps67
  go_wp2_with (go_at_call 28;refine(kC h _).mono ?_;rintro e c ⟨rfl,b⟩)
  go_ret;refine⟨by rw[xZ a];rfl,((C _ _).alloc ak _).trans (b.mono ak)⟩
 .go_enter func67,ntmps67
  go_wp2_with (go_at_call 28;refine(kC h _).mono ?_;rintro e c ⟨rfl,b⟩)
  go_ret;exact⟨by rw[xY a];rfl,(C _ _).alloc ak _⟩
theorem WS (h:HC)(w:M):(Instr.index 91 (.agg #[h.t.v,h.s.v,h.o.v,h.p.v]) (G H 3)).run D w= .ok h.p.v w:=ay
theorem TI (h:HC)(n:Int)(w:M):U D 67 #[bC h,G H 3,G H n] w (cO (L (aY n h.p.n)) w):=by
 have d:=WS h;by_cases a:0<=n
 .go_enter func67,ntmps67
  go_wp2_with (go_at_call 28;refine(kC h _).mono ?_;rintro e c ⟨rfl,b⟩)
  go_ret;refine⟨by rw[xZ a];rfl,((C _ _).alloc ak _).trans (b.mono ak)⟩
 .go_enter func67,ntmps67
  go_wp2_with (go_at_call 28;refine(kC h _).mono ?_;rintro e c ⟨rfl,b⟩)
  go_ret;exact⟨by rw[xY a];rfl,(C _ _).alloc ak _⟩
def fO (l:Int):Bool:=decide (1<=l) && decide (l<=4)
def wP (l:Int):Int:=if fO l=true then 0 else 190
theorem Eb {l:Int}(h:fO l=true):wP l=0:=by simp[wP,h]
theorem Bb {l:Int}(h:fO l=V):wP l=190:=by simp[wP,h]
theorem yx (l:Int)(w:M):U D 95 #[G H l] w (cO (G H (wP l)) w):=by
 by_cases a:1<=l
 .by_cases b:l<=4
  .go_enter func95,ntmps95
   go_wp2
   go_ret;exact⟨by rw[Eb (by simp[fO,a,b])];rfl,C _ _⟩
  .go_enter func95,ntmps95
   go_wp2
   go_ret;exact⟨by rw[Bb (by simp[fO];omega)];rfl,C _ _⟩
 .go_enter func95,ntmps95
  go_wp2
  go_ret;exact⟨by rw[Bb (by simp[fO];omega)];rfl,C _ _⟩
def gq (v:kg)(nt:Nat):Bool:=if v.k=0 then decide (v.t=0) else aY v.t nt && decide (0<v.k) && decide (v.k<=999)
theorem XL {v:kg}{nt:Nat}(h:(v.k==0)=true):gq v nt=decide (v.t=0):=by simp at h;simp[gq,h]
theorem XM {v:kg}{nt:Nat}(h:(v.k==0)=V):gq v nt=(aY v.t nt && decide (0<v.k) && decide (v.k<=999)):=by simp at h;simp[gq,h]
theorem yE (h:HC)(v:kg)(w:M):U D 107 #[bC h,.agg #[G H v.t,G H v.k]] w (cO (L (gq v h.t.n)) w):=by
 cases a:v.k==0
 .cases b:aY v.t h.t.n
  all_goals by_cases f:0<v.k
  all_goals
   have g:=I a;have c:=I b;clear b;go_enter func107,ntmps107
   go_wp2_with (go_at_call 67;refine(GK h _ _).mono ?_;rintro e i ⟨rfl,d⟩;rw[c.q];(obtain⟨j,k⟩:=TB d))
   go_ret;refine⟨?_,(((C _ _).alloc (aB _) _).alloc ak _).trans (d.mono abp)⟩;rw[XM g.q,c.q]
  .rfl
  .rfl
  .rw[bT f];rfl
  .rw[bE ah];rfl
 .go_enter func107,ntmps107
  go_wp2_with fail;go_ret;exact⟨by rw[XL a];rfl,((C _ _).alloc (aB _) _).alloc ak _⟩
def jG (nt a:Nat)(s:Sn):Bool:=aY s.obj a && gq s.v nt
theorem Jy (nt a:Nat)(s:Sn):jG nt a s=(aY s.obj a && gq s.v nt):=rfl
theorem Sr (h:HC)(s:Sn)(d:Nat)(w:M)(a:Bx w d (aD h)):U D 110 #[xR s,J (some ⟨d,0,N⟩)] w (cO (L (jG h.t.n h.o.n s)) w):=by
 have i:=I a;have j:=a.1;have k:=a.2.2;clear a
 cases f:aY s.obj h.o.n
 all_goals
  have c:=I f;clear f;go_enter func110,ntmps110
  go_wp2_with (first|(go_at_call 67;refine(Es h _ _).mono ?_;rintro e l ⟨rfl,b⟩;rw[c.q];(obtain⟨m,n⟩:=TB b))|(go_at_call 107;refine(yE h _ _).mono ?_;rintro e o ⟨rfl,g⟩))
  go_ret
 .refine⟨by rw[Jy,c.q];rfl,((C _ _).alloc (aB _) _).trans (b.mono ak)⟩
 .refine⟨by rw[Jy,c.q];rfl,(((C _ _).alloc (aB _) _).trans (b.mono ak)).trans (g.mono (by have:=b.size;simp at this;omega))⟩
@[reducible] def BU:EvC:={kind:=0,t:=0,eH:=0,lvl:=0,obj:=0,v:=⟨0,0⟩,pred:=0,sa:=none,sn:=0,sc:=0}
@[reducible] def Nj (e:EvC):EvC:={kind:=0,t:=0,eH:=e.eH,lvl:=e.lvl,obj:=0,v:=⟨0,0⟩,pred:=0,sa:=none,sn:=0,sc:=0}
theorem XO (h:HC)(e:EvC)(i j:Nat)(W:M)(k:Bx W j (aR e))(l:Bx W i (aD h)):
  U D 105 #[J (some ⟨j,0,N⟩),J (some ⟨i,0,N⟩)] W (pz (fT (Nj e)) (L (aY e.eH h.s.n && fO e.lvl)) W):=by
 have f:Hid (∀c,Below W.1.size W c->Bx c j (aR e)/\Bx c i (aD h)):=λc n=>⟨k.below n k.2.2,l.below n l.2.2⟩
 clear k l;obtain⟨R,m⟩:∃R:Bool,R=(aY e.eH h.s.n && fO e.lvl):=⟨_,rfl⟩;rw[<-m];have s:=I m;clear m
 cases o:aY e.eH h.s.n
 all_goals cases p:fO e.lvl
 all_goals
  have q:=I o;clear o;have r:=I p;clear p;go_enter func105,ntmps105;go_wp2_with fail;have g:=I ((Bx.new W #[G H 0,G H 0,G H 0,G H 0,G H 0,G H 0,G H 0,G H 0,.slice N 0 0] 49).drew);have a:=I (((C W.1.size W).alloc (aB _) (O #[G H 0,G H 0,G H 0,G H 0,G H 0,G H 0,G H 0,G H 0,.slice N 0 0] 49)).drew);refine aC 0 [(0,1),(1,1),(2,1),(3,1),(4,1),(5,1),(6,1),(7,1),(8,2),(9,1),(10,1),(11,1),(12,2),(13,1),(14,1),(15,2),(16,1)] (λc=>Bx c j (aR e)/\Bx c i (aD h)) (λ_=>True) ay ay (f.q _ a.q) trivial ?_;refine qC ?_
  first
   |(refine nR rfl rfl (f.q _ a.q) ?_;simp only[Act.put,lu,kF,kK])
   |(refine aW rfl rfl rfl (λK b=>?_);go_simp;refine(TH h _ _).mono ?_;rintro e t ⟨rfl,d⟩;rw[q.q];(have a:=I (a.q.bQ d));(have g:=I (g.q.keep d));refine b _ _ (f.q _ a.q) ?_;clear b K d)
  refine qC ?_
  first
   |(refine nR rfl rfl (f.q _ a.q) ?_;simp only[Act.put,lu,kF,kK])
   |(refine aW rfl rfl rfl (λK b=>?_);go_simp;refine(yx _ _).mono ?_;rintro e t ⟨rfl,d⟩;rw[show wP e.lvl=(if fO e.lvl=true then 0 else 190) from rfl,r.q];(have a:=I (a.q.bQ d));(have g:=I (g.q.keep d));refine b _ _ (f.q _ a.q) ?_;clear b K d)
  refine qC ?_;have u:=g.q;refine aW rfl rfl rfl (λK b=>?_);go_simp;refine b _ _ (f.q _ (((((((((a.q.setCell (aB _) _).setCell (aB _) _).setCell (aB _) _).setCell (aB _) _).setCell (aB _) _).setCell (aB _) _).setCell (aB _) _).setCell (aB _) _).setCell (aB _) _)) ?_;clear b K;refine qC ?_;refine aO ?_;go_wp2_with fail;refine bodyPost_ret (v:= .tuple #[fT (Nj e),L R]) (by simp[results,results105,go_sem,u,s.q,q.q,r.q]) rfl ⟨rfl,(((((((((a.q.setCell (aB _) _).setCell (aB _) _).setCell (aB _) _).setCell (aB _) _).setCell (aB _) _).setCell (aB _) _).setCell (aB _) _).setCell (aB _) _).setCell (aB _) _)⟩
@[reducible] def Nk (e:EvC):EvC:={kind:=0,t:=0,eH:=0,lvl:=0,obj:=e.obj,v:=e.v,pred:=0,sa:=none,sn:=0,sc:=0}
theorem XP (h:HC)(e:EvC)(i j:Nat)(W:M)(k:Bx W j (aR e))(l:Bx W i (aD h)):
  U D 106 #[J (some ⟨j,0,N⟩),J (some ⟨i,0,N⟩)] W (pz (fT (Nk e)) (L (aY e.obj h.o.n && gq e.v h.t.n && (e.v.t==e.t) && decide (0<e.v.k))) W):=by
 have f:Hid (∀c,Below W.1.size W c->Bx c j (aR e)/\Bx c i (aD h)):=λc n=>⟨k.below n k.2.2,l.below n l.2.2⟩
 clear k l;obtain⟨R,m⟩:∃R:Bool,R=(aY e.obj h.o.n && gq e.v h.t.n && (e.v.t==e.t) && decide (0<e.v.k)):=⟨_,rfl⟩;rw[<-m];have s:=I m;clear m
 cases o:aY e.obj h.o.n
 all_goals cases p:gq e.v h.t.n
 all_goals cases t:e.v.t==e.t
 all_goals
  have q:=I o;clear o;have r:=I p;clear p;skip;go_enter func106,ntmps106;go_wp2_with fail;have g:=I ((Bx.new W #[G H 0,G H 0,G H 0,G H 0,G H 0,G H 0,G H 0,G H 0,.slice N 0 0] 49).drew);have a:=I (((C W.1.size W).alloc (aB _) (O #[G H 0,G H 0,G H 0,G H 0,G H 0,G H 0,G H 0,G H 0,.slice N 0 0] 49)).drew);refine aC 0 [(0,1),(1,1),(2,1),(3,1),(4,1),(5,1),(6,1),(7,1),(8,2),(9,1),(10,1),(11,1),(12,1),(13,2),(14,1),(15,1),(16,1),(17,1),(18,1),(19,1),(20,1),(21,1),(22,1),(23,1),(24,1),(25,1),(26,1),(27,1),(28,1),(29,2),(30,1)] (λc=>Bx c j (aR e)/\Bx c i (aD h)) (λ_=>True) ay ay (f.q _ a.q) trivial ?_;refine qC ?_
  first
   |(refine nR rfl rfl (f.q _ a.q) ?_;simp only[Act.put,lu,kF,kK])
   |(refine aW rfl rfl rfl (λK b=>?_);go_simp;refine(Es h _ _).mono ?_;rintro e u ⟨rfl,d⟩;rw[q.q];(have a:=I (a.q.bQ d));(have g:=I (g.q.keep d));refine b _ _ (f.q _ a.q) ?_;clear b K d)
  refine qC ?_
  first
   |(refine nR rfl rfl (f.q _ a.q) ?_;simp only[Act.put,lu,kF,kK])
   |(refine aW rfl rfl rfl (λK b=>?_);go_simp;refine(yE h _ _).mono ?_;rintro e u ⟨rfl,d⟩;rw[r.q];(have a:=I (a.q.bQ d));(have g:=I (g.q.keep d));refine b _ _ (f.q _ a.q) ?_;clear b K d)
  refine qC ?_;have w:=g.q;refine aW rfl rfl rfl (λK b=>?_);go_simp;refine b _ _ (f.q _ (((((((((a.q.setCell (aB _) _).setCell (aB _) _).setCell (aB _) _).setCell (aB _) _).setCell (aB _) _).setCell (aB _) _).setCell (aB _) _).setCell (aB _) _).setCell (aB _) _)) ?_;clear b K;refine qC ?_;refine aO ?_;go_wp2_with fail;refine bodyPost_ret (v:= .tuple #[fT (Nk e),L R]) (by simp[results,results106,go_sem,w,s.q,q.q,r.q,t]) rfl ⟨rfl,(((((((((a.q.setCell (aB _) _).setCell (aB _) _).setCell (aB _) _).setCell (aB _) _).setCell (aB _) _).setCell (aB _) _).setCell (aB _) _).setCell (aB _) _).setCell (aB _) _)⟩
@[reducible] def Nl (e:EvC):EvC:={kind:=0,t:=0,eH:=0,lvl:=0,obj:=e.obj,v:=e.v,pred:=0,sa:=none,sn:=0,sc:=0}
theorem XQ (h:HC)(e:EvC)(i j:Nat)(W:M)(k:Bx W j (aR e))(l:Bx W i (aD h)):
  U D 108 #[J (some ⟨j,0,N⟩),J (some ⟨i,0,N⟩)] W (pz (fT (Nl e)) (L (aY e.obj h.o.n && gq e.v h.t.n)) W):=by
 have f:Hid (∀c,Below W.1.size W c->Bx c j (aR e)/\Bx c i (aD h)):=λc n=>⟨k.below n k.2.2,l.below n l.2.2⟩
 clear k l;obtain⟨R,m⟩:∃R:Bool,R=(aY e.obj h.o.n && gq e.v h.t.n):=⟨_,rfl⟩;rw[<-m];have s:=I m;clear m
 cases o:aY e.obj h.o.n
 all_goals cases p:gq e.v h.t.n
 all_goals
  have q:=I o;clear o;have r:=I p;clear p;go_enter func108,ntmps108;go_wp2_with fail;have g:=I ((Bx.new W #[G H 0,G H 0,G H 0,G H 0,G H 0,G H 0,G H 0,G H 0,.slice N 0 0] 49).drew);have a:=I (((C W.1.size W).alloc (aB _) (O #[G H 0,G H 0,G H 0,G H 0,G H 0,G H 0,G H 0,G H 0,.slice N 0 0] 49)).drew);refine aC 0 [(0,1),(1,1),(2,1),(3,1),(4,1),(5,1),(6,1),(7,1),(8,2),(9,1),(10,1),(11,1),(12,1),(13,2),(14,1),(15,2),(16,1)] (λc=>Bx c j (aR e)/\Bx c i (aD h)) (λ_=>True) ay ay (f.q _ a.q) trivial ?_;refine qC ?_
  first
   |(refine nR rfl rfl (f.q _ a.q) ?_;simp only[Act.put,lu,kF,kK])
   |(refine aW rfl rfl rfl (λK b=>?_);go_simp;refine(Es h _ _).mono ?_;rintro e t ⟨rfl,d⟩;rw[q.q];(have a:=I (a.q.bQ d));(have g:=I (g.q.keep d));refine b _ _ (f.q _ a.q) ?_;clear b K d)
  refine qC ?_
  first
   |(refine nR rfl rfl (f.q _ a.q) ?_;simp only[Act.put,lu,kF,kK])
   |(refine aW rfl rfl rfl (λK b=>?_);go_simp;refine(yE h _ _).mono ?_;rintro e t ⟨rfl,d⟩;rw[r.q];(have a:=I (a.q.bQ d));(have g:=I (g.q.keep d));refine b _ _ (f.q _ a.q) ?_;clear b K d)
  refine qC ?_;have u:=g.q;refine aW rfl rfl rfl (λK b=>?_);go_simp;refine b _ _ (f.q _ (((((((((a.q.setCell (aB _) _).setCell (aB _) _).setCell (aB _) _).setCell (aB _) _).setCell (aB _) _).setCell (aB _) _).setCell (aB _) _).setCell (aB _) _).setCell (aB _) _)) ?_;clear b K;refine qC ?_;refine aO ?_;go_wp2_with fail;refine bodyPost_ret (v:= .tuple #[fT (Nl e),L R]) (by simp[results,results108,go_sem,u,s.q,q.q,r.q]) rfl ⟨rfl,(((((((((a.q.setCell (aB _) _).setCell (aB _) _).setCell (aB _) _).setCell (aB _) _).setCell (aB _) _).setCell (aB _) _).setCell (aB _) _).setCell (aB _) _).setCell (aB _) _)⟩
@[reducible] def Nn (e:EvC):EvC:={kind:=0,t:=0,eH:=0,lvl:=0,obj:=0,v:=⟨0,0⟩,pred:=e.pred,sa:=e.sa,sn:=e.sn,sc:=e.sc}
theorem XR (h:HC)(e:EvC)(g l:Nat)(W:M)(m:Bx W l (aR e))(n:Bx W g (aD h))(j:List Sn)(o:Row W 3 cZ e.sa e.sn e.sc j):
  U D 109 #[J (some ⟨g,0,N⟩),J (some ⟨l,0,N⟩)] W (pz (fT (Nn e)) (L (aY e.pred h.p.n && decide ((e.sn:Int)<=40) && j.all (jG h.t.n h.o.n))) W):=by
 have c:Hid (∀b,Below W.1.size W b->Bx b l (aR e)/\Bx b g (aD h)):=λb i=>⟨m.below i m.2.2,n.below i n.2.2⟩
 clear m n;have q:=λ(b:M)(i:Below W.1.size W b)=>Zq e.sa e.sn e.sc 110 #[J (some ⟨g,0,N⟩)] j (jG h.t.n h.o.n) b (o.below i rfl) call110
  (λx _ w y=>Sr h x g w ((c.q b i).2.below y (c.q b i).2.2.2))
 have z:=I q;have P:=I o.len;clear q o;obtain⟨R,p⟩:∃R:Bool,R=(aY e.pred h.p.n && decide ((e.sn:Int)<=40) && j.all (jG h.t.n h.o.n)):=⟨_,rfl⟩;rw[<-p];have A:=I p;clear p
 cases r:aY e.pred h.p.n
 all_goals cases s:j.all (jG h.t.n h.o.n)
 all_goals cases B:decide ((e.sn:Int)<=40)
 all_goals
  have t:=I r;clear r;have u:=I s;clear s;skip;go_enter func109,ntmps109;go_wp2_with fail;have k:=I ((Bx.new W #[G H 0,G H 0,G H 0,G H 0,G H 0,G H 0,G H 0,G H 0,.slice N 0 0] 49).drew);have a:=I (((C W.1.size W).alloc (aB _) (O #[G H 0,G H 0,G H 0,G H 0,G H 0,G H 0,G H 0,G H 0,.slice N 0 0] 49)).drew);refine aC 0 [(0,1),(1,1),(2,1),(3,1),(4,1),(5,1),(6,1),(7,1),(8,2),(9,1),(10,1),(11,1),(12,1),(13,1),(14,1),(15,1),(16,1),(17,1),(18,1),(19,2),(20,1),(21,2),(22,1)] (λb=>Bx b l (aR e)/\Bx b g (aD h)) (λ_=>True) ay ay (c.q _ a.q) trivial ?_;refine qC ?_
  first
   |(refine nR rfl rfl (c.q _ a.q) ?_;simp only[Act.put,lu,kF,kK])
   |(refine aW rfl rfl rfl (λK d=>?_);go_simp;refine(TI h _ _).mono ?_;rintro e E ⟨rfl,f⟩;rw[t.q];(have a:=I (a.q.bQ f));(have k:=I (k.q.keep f));refine d _ _ (c.q _ a.q) ?_;clear d K f)
  refine qC ?_
  first
   |(refine nR rfl rfl (c.q _ a.q) ?_;simp only[Act.put,lu,kF,kK])
   |(refine aW rfl rfl rfl (λK d=>?_);go_simp;refine(z.q _ a.q).mono ?_;rintro e E ⟨rfl,f⟩;rw[u.q];(have a:=I (a.q.bQ f));(have k:=I (k.q.keep f));refine d _ _ (c.q _ a.q) ?_;clear d K f)
  refine qC ?_;have F:=k.q;refine aW rfl rfl rfl (λK d=>?_);go_simp;refine d _ _ (c.q _ (((((((((a.q.setCell (aB _) _).setCell (aB _) _).setCell (aB _) _).setCell (aB _) _).setCell (aB _) _).setCell (aB _) _).setCell (aB _) _).setCell (aB _) _).setCell (aB _) _)) ?_;clear d K;refine qC ?_;refine aO ?_;go_wp2_with fail;refine bodyPost_ret (v:= .tuple #[fT (Nn e),L R]) (by simp[results,results109,go_sem,F,A.q,t.q,u.q,B]) rfl ⟨rfl,(((((((((a.q.setCell (aB _) _).setCell (aB _) _).setCell (aB _) _).setCell (aB _) _).setCell (aB _) _).setCell (aB _) _).setCell (aB _) _).setCell (aB _) _).setCell (aB _) _)⟩
theorem XT (W:M):U D 112 #[] W (pz (fT BU) (L true) W):=by
 go_enter func112,ntmps112;go_wp2_with fail;refine bodyPost_ret (v:= .tuple #[fT BU,L true]) (by simp[results,results112,go_sem]) rfl ⟨rfl,?_⟩;exact(C _ _).alloc (aB _) _
theorem XU (W:M):U D 113 #[] W (pz (fT BU) (L true) W):=by
 go_enter func113,ntmps113;go_wp2_with fail;refine bodyPost_ret (v:= .tuple #[fT BU,L true]) (by simp[results,results113,go_sem]) rfl ⟨rfl,?_⟩;exact(C _ _).alloc (aB _) _
def gy (a b:EvC):Bool:=decide (a.kind=b.kind) && decide (a.t=b.t) && decide (a.eH=b.eH) && decide (a.lvl=b.lvl) && decide (a.obj=b.obj) && decide (a.v=b.v) && decide (a.pred=b.pred)
theorem KC (a b:EvC)(xs ys:List Sn)(w:M)(o:Row w 3 cZ a.sa a.sn a.sc xs)(p:Row w 3 cZ b.sa b.sn b.sc ys):
  U D 40 #[fT a,fT b] w (cO (L (gy a b && decide (xs=ys))) w):=by
 obtain⟨R,m⟩:∃R:Bool,R=(gy a b && decide (xs=ys)):=⟨_,rfl⟩;rw[<-m];have d:=I m;have Q:=I o;have S:=I p;clear m o p;obtain⟨g,t,i,j,k,v,l,q,r,s⟩:=a;obtain⟨u,x,y,z,A,B,E,F,K,P⟩:=b;by_cases h:¬g=u
 .have c:R=V:=by rw[d.q];simp[gy,h]
  subst c;have f:(g==u)=V:=aX.2 h;clear h;go_enter Tryz.func40,Tryz.ntmps40;go_wp2_with fail;go_ret;exact⟨rfl,((C _ _).alloc (aB _) _).alloc ak _⟩
 have h:=xE.1 h;subst h;by_cases h:¬t=x
 .have c:R=V:=by rw[d.q];simp[gy,h]
  subst c;have f:(t==x)=V:=aX.2 h;clear h;go_enter Tryz.func40,Tryz.ntmps40;go_wp2_with fail;go_ret;exact⟨rfl,((C _ _).alloc (aB _) _).alloc ak _⟩
 have h:=xE.1 h;subst h;by_cases h:¬i=y
 .have c:R=V:=by rw[d.q];simp[gy,h]
  subst c;have f:(i==y)=V:=aX.2 h;clear h;go_enter Tryz.func40,Tryz.ntmps40;go_wp2_with fail;go_ret;exact⟨rfl,((C _ _).alloc (aB _) _).alloc ak _⟩
 have h:=xE.1 h;subst h;by_cases h:¬j=z
 .have c:R=V:=by rw[d.q];simp[gy,h]
  subst c;have f:(j==z)=V:=aX.2 h;clear h;go_enter Tryz.func40,Tryz.ntmps40;go_wp2_with fail;go_ret;exact⟨rfl,((C _ _).alloc (aB _) _).alloc ak _⟩
 have h:=xE.1 h;subst h;by_cases h:¬k=A
 .have c:R=V:=by rw[d.q];simp[gy,h]
  subst c;have f:(k==A)=V:=aX.2 h;clear h;go_enter Tryz.func40,Tryz.ntmps40;go_wp2_with fail;go_ret;exact⟨rfl,((C _ _).alloc (aB _) _).alloc ak _⟩
 have h:=xE.1 h;subst h;by_cases h:¬v=B
 .have c:R=V:=by rw[d.q];simp[gy,h]
  subst c;have f:=U6 v B;rw[bE h] at f;clear h;go_enter Tryz.func40,Tryz.ntmps40;go_wp2_with fail;go_ret;exact⟨rfl,((C _ _).alloc (aB _) _).alloc ak _⟩
 have h:=xE.1 h;subst h;by_cases h:¬l=E
 .have c:R=V:=by rw[d.q];simp[gy,h]
  subst c;have f:(l==E)=V:=aX.2 h;clear h;go_enter Tryz.func40,Tryz.ntmps40;go_wp2_with fail;go_ret;exact⟨rfl,((C _ _).alloc (aB _) _).alloc ak _⟩
 have h:=xE.1 h;subst h;have c:R=decide (xs=ys):=by rw[d.q];simp[gy]
 subst c;have n:=I (((C w.1.size w).alloc (aB _) (O (aR ⟨g,t,i,j,k,v,l,q,r,s⟩) 49)).alloc ak (O (aR ⟨g,t,i,j,k,v,l,F,K,P⟩) 49));have T:=I (aas q F r s K P xs ys _ (Q.q.below n.q rfl) (S.q.below n.q rfl));go_enter Tryz.func40,Tryz.ntmps40
 go_wp2_with (go_at_call 84;refine T.q.mono ?_;rintro e X ⟨rfl,W⟩)
 go_ret;exact⟨rfl,n.q.trans (W.mono abp)⟩
def gD (e:EvC)(a:List Sn):Bool:=
 if e.kind=1 then decide (e.obj=0) && decide (e.v=⟨0,0⟩) && decide (e.pred=0) && decide (a=[])
 else if e.kind=2\/e.kind=3 then decide (e.eH=0) && decide (e.lvl=0) && decide (e.pred=0) && decide (a=[])
 else if e.kind=4 then decide (e.eH=0) && decide (e.lvl=0) && decide (e.obj=0) && decide (e.v=⟨0,0⟩)
 else decide (e.eH=0) && decide (e.lvl=0) && decide (e.obj=0) && decide (e.v=⟨0,0⟩) && decide (e.pred=0) && decide (a=[])
def hasB (nt ns a c:Nat)(e:EvC)(b:List Sn):Bool:=
 if e.kind=1 then aY e.eH ns && fO e.lvl
 else if e.kind=2 then aY e.obj a && gq e.v nt && decide (e.v.t=e.t) && decide (0<e.v.k)
 else if e.kind=3 then aY e.obj a && gq e.v nt
 else if e.kind=4 then aY e.pred c && decide (b.length<=40) && b.all (jG nt a)
 else true
def fZ (nt ns b c:Nat)(e:EvC)(a:List Sn):Bool:=decide (1<=e.kind) && decide (e.kind<7) && aY e.t nt && hasB nt ns b c e a && gD e a
@[reducible] def Jz (n:Nat):Array Value:=#[.nilFunc,.func (.func 105) #[] #[J (some ⟨n+1,0,N⟩),J (some ⟨n,0,N⟩)],.func (.func 106) #[] #[J (some ⟨n+1,0,N⟩),J (some ⟨n,0,N⟩)],.func (.func 108) #[] #[J (some ⟨n+1,0,N⟩),J (some ⟨n,0,N⟩)],.func (.func 109) #[] #[J (some ⟨n,0,N⟩),J (some ⟨n+1,0,N⟩)],.func (.func 112) #[] #[],.func (.func 113) #[] #[]]
theorem rC (h:HC)(e:EvC)(l p:List Sn)(B:EvC)(R:Bool)(F k:Nat)(α:Array Value)(W:M)(z:Row W 3 cZ e.sa e.sn e.sc l)(A:aY e.t h.t.n=true)(hk:e.kind=(k:Int))(ν:1<=k)(ξ:k<7)
  (hF:(Jz W.1.size)[k]?=some (.func (.func F) #[] α)) (eg:∀β w,(callFunc F β).run D w= .ok (.enter F β) w) (E:∀n,Below W.1.size W n->Bx n (W.1.size+1) (aR e)->Bx n W.1.size (aD h)->U D F α n (pz (fT B) (L R) n))
  (γ:∀m,Below W.1.size W m->Row m 3 cZ B.sa B.sn B.sc p) (δ:fZ h.t.n h.s.n h.o.n h.p.n e l=(R && (gy {B with kind:=k,t:=e.t} e && decide (p=l)))):
  U D 70 #[bC h,fT e] W (cO (L (fZ h.t.n h.s.n h.o.n h.p.n e l)) W):=by
 rw[δ];obtain⟨kind,t,b,c,d,v,f,g,i,j⟩:=e;simp only at hk z A E;subst hk;obtain⟨P,Q⟩:∃P:Bool,P=(gy {B with kind:=k,t:=t} ⟨k,t,b,c,d,v,f,g,i,j⟩ && decide (p=l)):=⟨_,rfl⟩;show U _ _ _ _ (cO (L (R && (gy {B with kind:=k,t:=t} ⟨k,t,b,c,d,v,f,g,i,j⟩ && decide (p=l)))) W);rw[<-Q];have ο:=I Q;have HF:=I hF;have π:=I E;have ρ:=I γ;have HT:=I A;have S:=I z;have g1:¬((k:Int)<1):=by omega
 have g7:(k:Int)<7:=by omega
 clear Q A z δ hF E γ ν ξ;have T:=((Bx.new (W.alloc (O (aD h) 28)) (aR ⟨k,t,b,c,d,v,f,g,i,j⟩) 49).alloc (O (Jz W.1.size) 188));have X:=(((Bx.new W (aD h) 28).alloc (O (aR ⟨k,t,b,c,d,v,f,g,i,j⟩) 49)).alloc (O (Jz W.1.size) 188));have Y:=(Bx.new ((W.alloc (O (aD h) 28)).alloc (O (aR ⟨k,t,b,c,d,v,f,g,i,j⟩) 49)) (Jz W.1.size) 188);have ε:=(((C W.1.size W).alloc (aB _) (O (aD h) 28)).alloc ak (O (aR ⟨k,t,b,c,d,v,f,g,i,j⟩) 49)).alloc abp (O (Jz W.1.size) 188);simp only[World.size_alloc] at T X Y;have ζ:=I T;have η:=I X;have θ:=I Y;have Z:=I ε;clear T X Y ε;go_enter func70,ntmps70;go_wp2_with fail;refine(GK h _ _).mono ?_;rintro e n ⟨rfl,r⟩;rw[HT.q];have s:=I (ζ.q.keep r);have ι:=I (η.q.keep r);have κ:=I (θ.q.keep r);have q:=I (Z.q.bQ r);have σ:=s.q;have τ:=(κ.q.1 k).trans HF.q;clear r;go_wp2_with fail;refine(π.q n q.q s.q ι.q).mono ?_;rintro e a ⟨rfl,u⟩;have S:=I (S.q.below (q.q.bQ u) rfl);have μ:=s.q.keep u;have o:=I (q.q.bQ u);have HL:=I (bP s.q.2.2 u.size);have y:Hid (∀m,Below a.1.size a m->Bx m (W.1.size+1) (aR ⟨k,t,b,c,d,v,f,g,i,j⟩)):=λm hb=>μ.keep hb
 clear u σ τ μ s κ ι ζ η θ Z q
 cases R
 all_goals
  go_wp2_with fail;have HX:=I ((Bx.new a (aR (B)) 49).drew);have HB:=I (((C a.1.size a).alloc (aB _) (O (aR (B)) 49)).drew);refine aC 0 [(0,1),(1,1),(2,1),(3,1),(4,1),(5,2),(6,1),(7,2)] (λm=>Bx m (W.1.size+1) (aR ⟨k,t,b,c,d,v,f,g,i,j⟩)) (λ_=>True) ay ay (y.q _ HB.q) trivial ?_;refine qC ?_;have hX:=HX.q;refine aW rfl rfl rfl (λK x=>?_);go_simp;refine x _ _ (y.q _ (((C _ _).alloc (aB _) _).drew)) ?_;clear x K;refine qC ?_;refine aW rfl rfl rfl (λK x=>?_);go_simp;refine x _ _ (y.q _ (((C _ _).alloc (aB _) _).drew)) ?_;clear x K;clear hX HX;have φ:=y.q _ (((C a.1.size a).alloc (aB _) (O (aR {B with kind:=k,t:=t}) 49)).drew);have χ:=HL.q;refine aO ?_;go_wp2_with fail
 .go_ret
  exact⟨rfl,o.q.trans ((((C a.1.size a).alloc (aB _) (O (aR {B with kind:=k,t:=t}) 49)).drew).mono o.q.size)⟩
 .refine(KC {B with kind:=k,t:=t} ⟨k,t,b,c,d,v,f,g,i,j⟩ p l _ (ρ.q _ (o.q.trans ((((C a.1.size a).alloc (aB _) (O (aR {B with kind:=k,t:=t}) 49)).drew).mono o.q.size))) (S.q.below (((C a.1.size a).alloc (aB _) (O (aR {B with kind:=k,t:=t}) 49)).drew) rfl)).mono ?_
  rintro e w3 ⟨rfl,υ⟩;rw[show(gy {B with kind:=k,t:=t} ⟨k,t,b,c,d,v,f,g,i,j⟩ && decide (p=l))=P from by simp[ο.q]];go_wp2_with fail;go_ret;exact⟨rfl,o.q.trans (((((C a.1.size a).alloc (aB _) (O (aR {B with kind:=k,t:=t}) 49)).drew).mono o.q.size).trans (υ.mono (by have:=o.q.size;simp;omega)))⟩
theorem XV:∀args w,(callFunc 105 args).run D w= .ok (.enter 105 args) w:=enters_of func105 ay rfl
theorem XW:∀args w,(callFunc 106 args).run D w= .ok (.enter 106 args) w:=enters_of func106 ay rfl
theorem XY:∀args w,(callFunc 108 args).run D w= .ok (.enter 108 args) w:=enters_of func108 ay rfl
theorem XZ:∀args w,(callFunc 109 args).run D w= .ok (.enter 109 args) w:=enters_of func109 ay rfl
theorem X0:∀args w,(callFunc 112 args).run D w= .ok (.enter 112 args) w:=enters_of func112 ay rfl
theorem X5:∀args w,(callFunc 113 args).run D w= .ok (.enter 113 args) w:=enters_of func113 ay rfl
theorem Sv (h:HC)(e:EvC)(_scan:List Sn)(W:M)(a:e.kind<1):
  U D 70 #[bC h,fT e] W (cO (L V) W):=by
 obtain⟨b,t,c,d,f,v,g,i,j,k⟩:=e;skip;go_enter func70,ntmps70;go_wp2_with fail;go_ret;exact⟨rfl,((((C W.1.size W).alloc (aB _) _).alloc ak _).alloc abp _)⟩
theorem Sw (h:HC)(e:EvC)(_scan:List Sn)(W:M)(a:¬e.kind<1)(b:7<=e.kind):
  U D 70 #[bC h,fT e] W (cO (L V) W):=by
 obtain⟨c,t,d,f,g,v,i,j,k,l⟩:=e;skip;go_enter func70,ntmps70;go_wp2_with fail;go_ret;exact⟨rfl,((((C W.1.size W).alloc (aB _) _).alloc ak _).alloc abp _)⟩
theorem Sy (h:HC)(e:EvC)(_scan:List Sn)(W:M)(d:¬e.kind<1)(f:¬7<=e.kind)(a:aY e.t h.t.n=V):
  U D 70 #[bC h,fT e] W (cO (L V) W):=by
 obtain⟨g,t,i,j,k,v,l,m,n,o⟩:=e;have b:=I a;clear a;go_enter func70,ntmps70
 go_wp2_with (go_at_call 67;refine(GK h _ _).mono ?_;rintro e p ⟨rfl,c⟩;rw[b.q])
 go_ret;exact⟨rfl,((((C W.1.size W).alloc (aB _) _).alloc ak _).alloc abp _).trans (c.mono abp)⟩
theorem Qb (h:HC)(e:EvC)(c:List Sn)(W:M)(i:Row W 3 cZ e.sa e.sn e.sc c):
  U D 70 #[bC h,fT e] W (cO (L (fZ h.t.n h.s.n h.o.n h.p.n e c)) W):=by
 by_cases f:e.kind<1
 .have:fZ h.t.n h.s.n h.o.n h.p.n e c=V:=by simp[fZ,Int.not_le.2 f]
  rw[this];exact Sv h e c W f
 by_cases l:7<=e.kind
 .have:fZ h.t.n h.s.n h.o.n h.p.n e c=V:=by simp[fZ,Int.not_lt.2 l]
  rw[this];exact Sw h e c W f l
 cases d:aY e.t h.t.n
 .have:fZ h.t.n h.s.n h.o.n h.p.n e c=V:=by simp[fZ,d]
  rw[this];exact Sy h e c W f l d
 have o:=i.len;have p:((e.sn:Int)<=40)=(e.sn<=40):=propext ah;have b:e.kind=1\/e.kind=2\/e.kind=3\/e.kind=4\/e.kind=5\/e.kind=6:=by omega
 have k:∀m,Below W.1.size W m->Row m 3 cZ N 0 0 ([]:List Sn):=λ_ _=>Row.jv
 rcases b with b|b|b|b|b|b
 .exact rC h e c [] (Nj e) _ _ 1 _ W i d b ah ah rfl XV (λg _ f j=>XO h e _ _ g f j) k abq
 .exact rC h e c [] (Nk e) _ _ 2 _ W i d b ah ah rfl XW (λg _ f j=>XP h e _ _ g f j) k (by simp[fZ,hasB,gD,gy,d,b,eq_comm (a:=(0:Int)),eq_comm (a:=([]:List Sn)),AY,Bool.beq_eq_decide_eq])
 .exact rC h e c [] (Nl e) _ _ 3 _ W i d b ah ah rfl XY (λg _ f j=>XQ h e _ _ g f j) k (by simp[fZ,hasB,gD,gy,d,b,eq_comm (a:=(0:Int)),eq_comm (a:=([]:List Sn)),AY])
 .exact rC h e c c (Nn e) _ _ 4 _ W i d b ah ah rfl XZ (λg n f j=>XR h e _ _ g f j c (i.below n rfl)) (λm n=>i.below n rfl) (by simp[fZ,hasB,gD,gy,d,b,o,p,eq_comm (a:=(0:Int)),eq_comm (a:=(⟨0,0⟩:kg)),AY])
 .exact rC h e c [] BU true _ 5 _ W i d b ah ah rfl X0 (λg _ _ _=>XT g) k abq
 .exact rC h e c [] BU true _ 6 _ W i d b ah ah rfl X5 (λg _ _ _=>XU g) k abq
def fu (nt:Nat)(a:List Int):Bool:=decide (a.length<=300) && a.all (λx=>aY x nt)
theorem Vh (h:HC)(x:Int)(a:Nat)(w:M)(c:Bx w a (aD h)):U D 66 #[G H x,J (some ⟨a,0,N⟩)] w (cO (L (aY x h.t.n)) w):=by
 go_enter func66,ntmps66
 go_wp2_with (go_at_call 67;refine(GK h _ _).mono ?_;rintro e d ⟨rfl,b⟩)
 go_ret;exact⟨rfl,b⟩
theorem Qc (h:HC)(a:Option Addr)(n c:Nat)(b:List Int)(f:Nat)(w:M)(i:Bx w f (aD h))(g:Row w 1 aS a n c b):
  U D 64 #[.slice a n c,J (some ⟨f,0,N⟩)] w (cO (L (fu h.t.n b)) w):=by
 have j:=Xu a n c 66 #[J (some ⟨f,0,N⟩)] b (λx=>aY x h.t.n) w g call66
  (λx _ m o=>Vh h x f m (i.keep o))
 have k:=g.len;have p:=I j;have l:=I k;clear j i g k;by_cases r:(n:Int)<=300
 .have d:fu h.t.n b=b.all (λx=>aY x h.t.n):=by simp[fu,l.q];omega
  rw[d];have s:=I d;clear d;go_enter func64,ntmps64
  go_wp2_with (go_at_call 65;refine p.q.mono ?_;rintro e t ⟨rfl,q⟩)
  go_ret;exact⟨rfl,q⟩
 .have d:fu h.t.n b=V:=by simp[fu,l.q];omega
  rw[d];clear d;go_enter func64,ntmps64;go_wp2_with fail;go_ret;exact⟨rfl,C _ _⟩
theorem WT (h:HC)(e:EvC)(b:List Sn)(d:Nat)(w:M)(c:Bx w d (aD h))(f:Row w 3 cZ e.sa e.sn e.sc b):
  U D 69 #[fT e,J (some ⟨d,0,N⟩)] w (cO (L (fZ h.t.n h.s.n h.o.n h.p.n e b)) w):=by
 have a:Below w.1.size w (w.alloc (O (aR e) 49)):=(C _ _).alloc (aB _) _;have g:=Qb h e b _ (f.below a rfl);have l:=c.keep a;have m:=c.2.2;have j:=I g;have i:=I a;clear g a f c;go_enter func69,ntmps69
 go_wp2_with (go_at_call 70;refine j.q.mono ?_;rintro e n ⟨rfl,k⟩)
 go_ret;exact⟨rfl,i.q.bQ k⟩
theorem WU (h:HC)(x:aG)(d:List Int)(f l:Nat)(w:M)(j:Bx w f (aD h))(k:Bx w l #[.func (.func 64) #[] #[J (some ⟨f,0,N⟩)]])(m:Row w 1 aS x.sa x.sn x.sc d):
  U D 72 #[uV x,J (some ⟨f,0,N⟩),J (some ⟨l,0,N⟩)] w (cO (L (aY x.obj h.o.n && fu h.t.n d)) w):=by
 have b:Below w.1.size w (w.alloc (O (EB x) 57)):=(C _ _).alloc (aB _) _;have n:=Bx.new w (EB x) 57;have o:=j.keep b;have p:=k.keep b;have y:=j.2.2;have z:=k.2.2;have c:=I (⟨n,o,p,m.below b rfl⟩:Bx _ _ _/\Bx _ _ _/\Bx _ _ _/\Row _ 1 aS x.sa x.sn x.sc d);have a:=I b;clear n b m j k o p
 cases q:aY x.obj h.o.n
 all_goals
  have r:=I q;clear q;have g:=c.q;go_enter func72,ntmps72;go_wp2_with fail;refine(Es h _ _).mono ?_;rintro e s ⟨rfl,i⟩;rw[r.q];clear g;have g:=GJ (⟨c.q.1,c.q.2.1,c.q.2.2.1⟩:Bx _ _ _/\Bx _ _ _/\Bx _ _ _) i;have t:=I (c.q.2.2.2.below i rfl);have a:=I (a.q.bQ i);have u:=I a.q.size;clear i;go_wp2_with fail
 .go_ret
  exact⟨rfl,a.q⟩
 .refine(Qc h x.sa x.sn x.sc d f s g.2.1 t.q).mono ?_
  rintro e A ⟨rfl,v⟩;clear g;go_wp2_with fail;go_ret;exact⟨rfl,a.q.trans (v.mono u.q)⟩
theorem WV (h:HC)(x:aK)(f:List Int)(g n:Nat)(w:M)(k:Bx w g (aD h))(l:Bx w n #[.func (.func 64) #[] #[J (some ⟨g,0,N⟩)]])(o:Row w 1 aS x.sa x.sn x.sc f):
  U D 74 #[uW x,J (some ⟨g,0,N⟩),J (some ⟨n,0,N⟩)] w (cO (L (aY x.pred h.p.n && aY x.obj h.o.n && fu h.t.n f)) w):=by
 have c:Below w.1.size w (w.alloc (O (EC x) 60)):=(C _ _).alloc (aB _) _;have p:=Bx.new w (EC x) 60;have q:=k.keep c;have r:=l.keep c;have E:=k.2.2;have F:=l.2.2;have d:=I (⟨p,q,r,o.below c rfl⟩:Bx _ _ _/\Bx _ _ _/\Bx _ _ _/\Row _ 1 aS x.sa x.sn x.sc f);have a:=I c;clear p c o k l q r
 cases s:aY x.pred h.p.n
 all_goals cases t:aY x.obj h.o.n
 all_goals
  have v:=I s;have y:=I t;clear s t;have b:=d.q;go_enter func74,ntmps74;go_wp2_with fail;refine(TI h _ _).mono ?_;rintro e K ⟨rfl,i⟩;rw[v.q];clear b;have b:=GJ (⟨d.q.1,d.q.2.1,d.q.2.2.1⟩:Bx _ _ _/\Bx _ _ _/\Bx _ _ _) i;have z:=I b;have m:=I (d.q.2.2.2.below i rfl);have a:=I (a.q.bQ i);have u:=I a.q.size;clear i;go_wp2_with fail
 .go_ret
  exact⟨rfl,a.q⟩
 .go_ret
  exact⟨rfl,a.q⟩
 all_goals
  refine(Es h _ _).mono ?_;rintro e A ⟨rfl,j⟩;rw[y.q];clear b;have b:=GJ z.q j;have m:=I (m.q.below j rfl);have a:=I (a.q.bQ j);have u:=I a.q.size;clear j;go_wp2_with fail
 .go_ret
  exact⟨rfl,a.q⟩
 .refine(Qc h x.sa x.sn x.sc f g A b.2.1 m.q).mono ?_
  rintro e P ⟨rfl,B⟩;clear b;go_wp2_with fail;go_ret;exact⟨rfl,a.q.trans (B.mono u.q)⟩
theorem WW (h:HC)(x:Wa)(g:Nat)(w:M)(b:Bx w g (aD h)):
  U D 76 #[uX x,J (some ⟨g,0,N⟩)] w (cO (L (aY x.eH h.s.n && decide (0<=x.bits) && decide (x.bits<=15))) w):=by
 have c:Below w.1.size w (w.alloc (O (ED x) 63)):=(C _ _).alloc (aB _) _;have i:=Bx.new w (ED x) 63;have j:=b.keep c;have r:=b.2.2;have k:=I (⟨i,j⟩:Bx _ _ _/\Bx _ _ _);have a:=I c;clear i c b j;obtain⟨R,d⟩:∃R:Bool,R=(decide (0<=x.bits) && decide (x.bits<=15)):=⟨_,rfl⟩;rw[AY,<-d];have n:=I d;clear d
 cases l:aY x.eH h.s.n
 all_goals
  have o:=I l;clear l;have m:=k.q;go_enter func76,ntmps76;go_wp2_with fail;refine(TH h _ _).mono ?_;rintro e s ⟨rfl,f⟩;rw[o.q];clear m;have m:=TD k.q f;have a:=I (a.q.bQ f);clear f
  cases p:decide (0<=x.bits)
  all_goals cases q:decide (x.bits<=15)
  all_goals
   go_wp2_with fail;go_ret;exact⟨by rw[n.q,p,q];rfl,a.q⟩
end Yd
