import Derived.Test.YtiheclemhihpeaaGreatDoorZFsP
import Derived.Test.YtiheclemhihpeaaGreatDoorZOrdV
import Derived.WalkSpells
set_option linter.all false
set_option maxRecDepth 200000
set_option maxHeartbeats 8000000
namespace Yd
open Bool renaming false->N
open Go Go.RowKit Go.Proofs Tryz
open Act renaming put->V
open Below renaming refl->G
open Go renaming World->J,bodyPost_ret->M,Calls->U
open Go.IntKind renaming i64->D
open Go.Value renaming int->C,bool->L,pointer->O,slice->Z
open Tryz renaming prog->H
open Yd renaming hid->I
structure Sl where
 a:Option Addr
 n:Nat
 c:Nat
@[reducible] def Sl.v (s:Sl):Value:= Z s.a s.n s.c
structure HC where
 t:Sl
 s:Sl
 o:Sl
 p:Sl
 e:Sl
 d:Sl
 m:Sl
 w:Sl
@[reducible] def fB (h:HC):Value:= .agg #[h.t.v,h.s.v,h.o.v,h.p.v,h.e.v,h.d.v,h.m.v,h.w.v]
@[reducible] def aI (h:HC):Array Value:=#[h.t.v,h.s.v,h.o.v,h.p.v,h.e.v,h.d.v,h.m.v,h.w.v]
theorem lD (h:HC)(w:J):U H 77 #[fB h] w (bT (.agg #[h.t.v,h.s.v,h.o.v,h.p.v]) w):=by
 go_enter func77,ntmps77
 go_wp2
 refine M (v:= .agg #[h.t.v,h.s.v,h.o.v,h.p.v]) (by simp[results,results77,go_sem]) rfl ⟨rfl,?_⟩;exact((G _ _).alloc ak _).alloc ak _
def bf (n:Int)(a:Nat):Bool:=decide (0<=n) && decide (n<a)
theorem wz {n:Int}{m:Nat}(h:n<0):bf n m=N:=by simp[bf,Int.not_le.2 h]
theorem wB {n:Int}{m:Nat}(h:0<=n):bf n m=decide (n<m):=by simp[bf,h]
theorem SC (h:HC)(w:J):(Instr.index 130 (.agg #[h.t.v,h.s.v,h.o.v,h.p.v]) (C D 0)).run H w= .ok h.t.v w:=au
theorem ED (h:HC)(n:Int)(w:J):U H 126 #[fB h,C D 0,C D n] w (bT (L (bf n h.t.n)) w):=by
 have d:=SC h;by_cases a:0<=n
 .go_enter func126,ntmps126
  go_wp2_with (go_at_call 77;refine(lD h _).mono ?_;rintro e c ⟨rfl,b⟩)
  go_ret;refine⟨by rw[wB a];rfl,((G _ _).alloc ak _).trans (b.mono ak)⟩
 .go_enter func126,ntmps126
  go_wp2_with (go_at_call 77;refine(lD h _).mono ?_;rintro e c ⟨rfl,b⟩)
  go_ret;exact⟨by rw[wz a];rfl,(G _ _).alloc ak _⟩
theorem SF (h:HC)(w:J):(Instr.index 130 (.agg #[h.t.v,h.s.v,h.o.v,h.p.v]) (C D 1)).run H w= .ok h.s.v w:=au
theorem PG (h:HC)(n:Int)(w:J):U H 126 #[fB h,C D 1,C D n] w (bT (L (bf n h.s.n)) w):=by
 have d:=SF h;by_cases a:0<=n
 .go_enter func126,ntmps126
  go_wp2_with (go_at_call 77;refine(lD h _).mono ?_;rintro e c ⟨rfl,b⟩)
  go_ret;refine⟨by rw[wB a];rfl,((G _ _).alloc ak _).trans (b.mono ak)⟩
 .go_enter func126,ntmps126
  go_wp2_with (go_at_call 77;refine(lD h _).mono ?_;rintro e c ⟨rfl,b⟩)
  go_ret;exact⟨by rw[wz a];rfl,(G _ _).alloc ak _⟩
theorem SG (h:HC)(w:J):(Instr.index 130 (.agg #[h.t.v,h.s.v,h.o.v,h.p.v]) (C D 2)).run H w= .ok h.o.v w:=au
theorem BU (h:HC)(n:Int)(w:J):U H 126 #[fB h,C D 2,C D n] w (bT (L (bf n h.o.n)) w):=by
 have d:=SG h;by_cases a:0<=n
 .go_enter func126,ntmps126
  go_wp2_with (go_at_call 77;refine(lD h _).mono ?_;rintro e c ⟨rfl,b⟩)
  go_ret;refine⟨by rw[wB a];rfl,((G _ _).alloc ak _).trans (b.mono ak)⟩
 .go_enter func126,ntmps126
  go_wp2_with (go_at_call 77;refine(lD h _).mono ?_;rintro e c ⟨rfl,b⟩)
  go_ret;exact⟨by rw[wz a];rfl,(G _ _).alloc ak _⟩
theorem SH (h:HC)(w:J):(Instr.index 130 (.agg #[h.t.v,h.s.v,h.o.v,h.p.v]) (C D 3)).run H w= .ok h.p.v w:=au
theorem PI (h:HC)(n:Int)(w:J):U H 126 #[fB h,C D 3,C D n] w (bT (L (bf n h.p.n)) w):=by
 have d:=SH h;by_cases a:0<=n
 .go_enter func126,ntmps126
  go_wp2_with (go_at_call 77;refine(lD h _).mono ?_;rintro e c ⟨rfl,b⟩)
  go_ret;refine⟨by rw[wB a];rfl,((G _ _).alloc ak _).trans (b.mono ak)⟩
 .go_enter func126,ntmps126
  go_wp2_with (go_at_call 77;refine(lD h _).mono ?_;rintro e c ⟨rfl,b⟩)
  go_ret;exact⟨by rw[wz a];rfl,(G _ _).alloc ak _⟩
def iG (l:Int):Bool:=decide (1<=l) && decide (l<=4)
def vw (l:Int):Int:=if iG l=true then 0 else 190
theorem BV {l:Int}(h:iG l=true):vw l=0:=by simp[vw,h]
theorem zo {l:Int}(h:iG l=N):vw l=190:=by simp[vw,h]
theorem xg (l:Int)(w:J):U H 117 #[C D l] w (bT (C D (vw l)) w):=by
 by_cases a:1<=l
 .by_cases b:l<=4
  .go_enter func117,ntmps117
   go_wp2
   go_ret;exact⟨by rw[BV (by simp[iG,a,b])];rfl,G _ _⟩
  .go_enter func117,ntmps117
   go_wp2
   go_ret;exact⟨by rw[zo (by simp[iG];omega)];rfl,G _ _⟩
 .go_enter func117,ntmps117
  go_wp2
  go_ret;exact⟨by rw[zo (by simp[iG];omega)];rfl,G _ _⟩
def gJ (v:je)(a:Nat):Bool:=if v.k=0 then decide (v.t=0) else bf v.t a && decide (0<v.k) && decide (v.k<=999)
theorem SI {v:je}{B:Nat}(h:(v.k==0)=true):gJ v B=decide (v.t=0):=by simp at h;simp[gJ,h]
theorem SK {v:je}{B:Nat}(h:(v.k==0)=N):gJ v B=(bf v.t B && decide (0<v.k) && decide (v.k<=999)):=by simp at h;simp[gJ,h]
theorem xu (h:HC)(v:je)(w:J):U H 172 #[fB h,.agg #[C D v.t,C D v.k]] w (bT (L (gJ v h.t.n)) w):=by
 cases a:v.k==0
 .cases b:bf v.t h.t.n
  all_goals by_cases f:0<v.k
  all_goals
   have g:=I a;have c:=I b;clear b;go_enter func172,ntmps172
   go_wp2_with (go_at_call 126;refine(ED h _ _).mono ?_;rintro e i ⟨rfl,d⟩;rw[c.q];(obtain⟨j,k⟩:=PK d))
   go_ret;refine⟨?_,(((G _ _).alloc (aC _) _).alloc ak _).trans (d.mono (by simp;omega))⟩;rw[SK g.q,c.q]
  .rfl
  .rfl
  .rw[bG f];rfl
  .rw[bn ah];rfl
 .go_enter func172,ntmps172
  go_wp2_with fail;go_ret;exact⟨by rw[SI a];rfl,((G _ _).alloc (aC _) _).alloc ak _⟩
def ji (a b:Nat)(s:Sn):Bool:=bf s.obj b && gJ s.v a
theorem EZ (a b:Nat)(s:Sn):ji a b s=(bf s.obj b && gJ s.v a):=rfl
theorem Ni (h:HC)(s:Sn)(d:Nat)(w:J)(a:Bx w d (aI h)):U H 175 #[wC s,O (some ⟨d,0,none⟩)] w (bT (L (ji h.t.n h.o.n s)) w):=by
 have i:=I a;have j:=a.1;have k:=a.2.2;clear a
 cases f:bf s.obj h.o.n
 all_goals
  have c:=I f;clear f;go_enter func175,ntmps175
  go_wp2_with (first|(go_at_call 126;refine(BU h _ _).mono ?_;rintro e l ⟨rfl,b⟩;rw[c.q];(obtain⟨m,n⟩:=PK b))|(go_at_call 172;refine(xu h _ _).mono ?_;rintro e o ⟨rfl,g⟩))
  go_ret
 .refine⟨by rw[EZ,c.q];rfl,((G _ _).alloc (aC _) _).trans (b.mono ak)⟩
 .refine⟨by rw[EZ,c.q];rfl,(((G _ _).alloc (aC _) _).trans (b.mono ak)).trans (g.mono (by have:=b.size;simp at this;omega))⟩
@[reducible] def Ak:EvC:={kind:=0,t:=0,gG:=0,lvl:=0,obj:=0,v:=⟨0,0⟩,pred:=0,sa:=none,sn:=0,sc:=0}
@[reducible] def Jg (e:EvC):EvC:={kind:=0,t:=0,gG:=e.gG,lvl:=e.lvl,obj:=0,v:=⟨0,0⟩,pred:=0,sa:=none,sn:=0,sc:=0}
theorem SL (h:HC)(e:EvC)(i j:Nat)(W:J)(k:Bx W j (aY e))(l:Bx W i (aI h)):
  U H 170 #[O (some ⟨j,0,none⟩),O (some ⟨i,0,none⟩)] W (nE (gQ (Jg e)) (L (bf e.gG h.s.n && iG e.lvl)) W):=by
 have f:Hid (∀c,Below W.1.size W c->Bx c j (aY e)/\Bx c i (aI h)):=λc n=>⟨k.below n k.2.2,l.below n l.2.2⟩
 clear k l;obtain⟨R,m⟩:∃R:Bool,R=(bf e.gG h.s.n && iG e.lvl):=⟨_,rfl⟩;rw[<-m];have s:=I m;clear m
 cases o:bf e.gG h.s.n
 all_goals cases p:iG e.lvl
 all_goals
  have q:=I o;clear o;have r:=I p;clear p;go_enter func170,ntmps170;go_wp2_with fail;have g:=I ((Bx.new W #[C D 0,C D 0,C D 0,C D 0,C D 0,C D 0,C D 0,C D 0,Z none 0 0] 50).drew);have a:=I (((G W.1.size W).alloc (aC _) (.cells #[C D 0,C D 0,C D 0,C D 0,C D 0,C D 0,C D 0,C D 0,Z none 0 0] 50)).drew);refine aD 0 [(0,1),(1,1),(2,1),(3,1),(4,1),(5,1),(6,1),(7,1),(8,2),(9,1),(10,1),(11,1),(12,2),(13,1),(14,1),(15,2),(16,1)] (λc=>Bx c j (aY e)/\Bx c i (aI h)) (λ_=>True) au au (f.q _ a.q) trivial ?_;refine qC ?_
  first
   |(refine kR rfl rfl (f.q _ a.q) ?_;simp only[V,nY,ng,ni])
   |(refine bA rfl rfl rfl (λK b=>?_);go_simp;refine(PG h _ _).mono ?_;rintro e t ⟨rfl,d⟩;rw[q.q];(have a:=I (a.q.bL d));(have g:=I (g.q.keep d));refine b _ _ (f.q _ a.q) ?_;clear b K d)
  refine qC ?_
  first
   |(refine kR rfl rfl (f.q _ a.q) ?_;simp only[V,nY,ng,ni])
   |(refine bA rfl rfl rfl (λK b=>?_);go_simp;refine(xg _ _).mono ?_;rintro e t ⟨rfl,d⟩;rw[show vw e.lvl=(if iG e.lvl=true then 0 else 190) from rfl,r.q];(have a:=I (a.q.bL d));(have g:=I (g.q.keep d));refine b _ _ (f.q _ a.q) ?_;clear b K d)
  refine qC ?_;have u:=g.q;refine bA rfl rfl rfl (λK b=>?_);go_simp;refine b _ _ (f.q _ (((((((((a.q.setCell (aC _) _).setCell (aC _) _).setCell (aC _) _).setCell (aC _) _).setCell (aC _) _).setCell (aC _) _).setCell (aC _) _).setCell (aC _) _).setCell (aC _) _)) ?_;clear b K;refine qC ?_;refine aH ?_;go_wp2_with fail;refine M (v:= .tuple #[gQ (Jg e),L R]) (by simp[results,results170,go_sem,u,s.q,q.q,r.q]) rfl ⟨rfl,(((((((((a.q.setCell (aC _) _).setCell (aC _) _).setCell (aC _) _).setCell (aC _) _).setCell (aC _) _).setCell (aC _) _).setCell (aC _) _).setCell (aC _) _).setCell (aC _) _)⟩
@[reducible] def Jh (e:EvC):EvC:={kind:=0,t:=0,gG:=0,lvl:=0,obj:=e.obj,v:=e.v,pred:=0,sa:=none,sn:=0,sc:=0}
theorem SN (h:HC)(e:EvC)(i j:Nat)(W:J)(k:Bx W j (aY e))(l:Bx W i (aI h)):
  U H 171 #[O (some ⟨j,0,none⟩),O (some ⟨i,0,none⟩)] W (nE (gQ (Jh e)) (L (bf e.obj h.o.n && gJ e.v h.t.n && (e.v.t==e.t) && decide (0<e.v.k))) W):=by
 have f:Hid (∀c,Below W.1.size W c->Bx c j (aY e)/\Bx c i (aI h)):=λc n=>⟨k.below n k.2.2,l.below n l.2.2⟩
 clear k l;obtain⟨R,m⟩:∃R:Bool,R=(bf e.obj h.o.n && gJ e.v h.t.n && (e.v.t==e.t) && decide (0<e.v.k)):=⟨_,rfl⟩;rw[<-m];have s:=I m;clear m
 cases o:bf e.obj h.o.n
 all_goals cases p:gJ e.v h.t.n
 all_goals cases t:e.v.t==e.t
 all_goals
  have q:=I o;clear o;have r:=I p;clear p;skip;go_enter func171,ntmps171;go_wp2_with fail;have g:=I ((Bx.new W #[C D 0,C D 0,C D 0,C D 0,C D 0,C D 0,C D 0,C D 0,Z none 0 0] 50).drew);have a:=I (((G W.1.size W).alloc (aC _) (.cells #[C D 0,C D 0,C D 0,C D 0,C D 0,C D 0,C D 0,C D 0,Z none 0 0] 50)).drew);refine aD 0 [(0,1),(1,1),(2,1),(3,1),(4,1),(5,1),(6,1),(7,1),(8,2),(9,1),(10,1),(11,1),(12,1),(13,2),(14,1),(15,1),(16,1),(17,1),(18,1),(19,1),(20,1),(21,1),(22,1),(23,1),(24,1),(25,1),(26,1),(27,1),(28,1),(29,2),(30,1)] (λc=>Bx c j (aY e)/\Bx c i (aI h)) (λ_=>True) au au (f.q _ a.q) trivial ?_;refine qC ?_
  first
   |(refine kR rfl rfl (f.q _ a.q) ?_;simp only[V,nY,ng,ni])
   |(refine bA rfl rfl rfl (λK b=>?_);go_simp;refine(BU h _ _).mono ?_;rintro e u ⟨rfl,d⟩;rw[q.q];(have a:=I (a.q.bL d));(have g:=I (g.q.keep d));refine b _ _ (f.q _ a.q) ?_;clear b K d)
  refine qC ?_
  first
   |(refine kR rfl rfl (f.q _ a.q) ?_;simp only[V,nY,ng,ni])
   |(refine bA rfl rfl rfl (λK b=>?_);go_simp;refine(xu h _ _).mono ?_;rintro e u ⟨rfl,d⟩;rw[r.q];(have a:=I (a.q.bL d));(have g:=I (g.q.keep d));refine b _ _ (f.q _ a.q) ?_;clear b K d)
  refine qC ?_;have w:=g.q;refine bA rfl rfl rfl (λK b=>?_);go_simp;refine b _ _ (f.q _ (((((((((a.q.setCell (aC _) _).setCell (aC _) _).setCell (aC _) _).setCell (aC _) _).setCell (aC _) _).setCell (aC _) _).setCell (aC _) _).setCell (aC _) _).setCell (aC _) _)) ?_;clear b K;refine qC ?_;refine aH ?_;go_wp2_with fail;refine M (v:= .tuple #[gQ (Jh e),L R]) (by simp[results,results171,go_sem,w,s.q,q.q,r.q,t]) rfl ⟨rfl,(((((((((a.q.setCell (aC _) _).setCell (aC _) _).setCell (aC _) _).setCell (aC _) _).setCell (aC _) _).setCell (aC _) _).setCell (aC _) _).setCell (aC _) _).setCell (aC _) _)⟩
@[reducible] def Ji (e:EvC):EvC:={kind:=0,t:=0,gG:=0,lvl:=0,obj:=e.obj,v:=e.v,pred:=0,sa:=none,sn:=0,sc:=0}
theorem SQ (h:HC)(e:EvC)(i j:Nat)(W:J)(k:Bx W j (aY e))(l:Bx W i (aI h)):
  U H 173 #[O (some ⟨j,0,none⟩),O (some ⟨i,0,none⟩)] W (nE (gQ (Ji e)) (L (bf e.obj h.o.n && gJ e.v h.t.n)) W):=by
 have f:Hid (∀c,Below W.1.size W c->Bx c j (aY e)/\Bx c i (aI h)):=λc n=>⟨k.below n k.2.2,l.below n l.2.2⟩
 clear k l;obtain⟨R,m⟩:∃R:Bool,R=(bf e.obj h.o.n && gJ e.v h.t.n):=⟨_,rfl⟩;rw[<-m];have s:=I m;clear m
 cases o:bf e.obj h.o.n
 all_goals cases p:gJ e.v h.t.n
 all_goals
  have q:=I o;clear o;have r:=I p;clear p;go_enter func173,ntmps173;go_wp2_with fail;have g:=I ((Bx.new W #[C D 0,C D 0,C D 0,C D 0,C D 0,C D 0,C D 0,C D 0,Z none 0 0] 50).drew);have a:=I (((G W.1.size W).alloc (aC _) (.cells #[C D 0,C D 0,C D 0,C D 0,C D 0,C D 0,C D 0,C D 0,Z none 0 0] 50)).drew);refine aD 0 [(0,1),(1,1),(2,1),(3,1),(4,1),(5,1),(6,1),(7,1),(8,2),(9,1),(10,1),(11,1),(12,1),(13,2),(14,1),(15,2),(16,1)] (λc=>Bx c j (aY e)/\Bx c i (aI h)) (λ_=>True) au au (f.q _ a.q) trivial ?_;refine qC ?_
  first
   |(refine kR rfl rfl (f.q _ a.q) ?_;simp only[V,nY,ng,ni])
   |(refine bA rfl rfl rfl (λK b=>?_);go_simp;refine(BU h _ _).mono ?_;rintro e t ⟨rfl,d⟩;rw[q.q];(have a:=I (a.q.bL d));(have g:=I (g.q.keep d));refine b _ _ (f.q _ a.q) ?_;clear b K d)
  refine qC ?_
  first
   |(refine kR rfl rfl (f.q _ a.q) ?_;simp only[V,nY,ng,ni])
   |(refine bA rfl rfl rfl (λK b=>?_);go_simp;refine(xu h _ _).mono ?_;rintro e t ⟨rfl,d⟩;rw[r.q];(have a:=I (a.q.bL d));(have g:=I (g.q.keep d));refine b _ _ (f.q _ a.q) ?_;clear b K d)
  refine qC ?_;have u:=g.q;refine bA rfl rfl rfl (λK b=>?_);go_simp;refine b _ _ (f.q _ (((((((((a.q.setCell (aC _) _).setCell (aC _) _).setCell (aC _) _).setCell (aC _) _).setCell (aC _) _).setCell (aC _) _).setCell (aC _) _).setCell (aC _) _).setCell (aC _) _)) ?_;clear b K;refine qC ?_;refine aH ?_;go_wp2_with fail;refine M (v:= .tuple #[gQ (Ji e),L R]) (by simp[results,results173,go_sem,u,s.q,q.q,r.q]) rfl ⟨rfl,(((((((((a.q.setCell (aC _) _).setCell (aC _) _).setCell (aC _) _).setCell (aC _) _).setCell (aC _) _).setCell (aC _) _).setCell (aC _) _).setCell (aC _) _).setCell (aC _) _)⟩
@[reducible] def Jj (e:EvC):EvC:={kind:=0,t:=0,gG:=0,lvl:=0,obj:=0,v:=⟨0,0⟩,pred:=e.pred,sa:=e.sa,sn:=e.sn,sc:=e.sc}
theorem SS (h:HC)(e:EvC)(g l:Nat)(W:J)(m:Bx W l (aY e))(n:Bx W g (aI h))(j:List Sn)(o:Row W 3 bI e.sa e.sn e.sc j):
  U H 174 #[O (some ⟨g,0,none⟩),O (some ⟨l,0,none⟩)] W (nE (gQ (Jj e)) (L (bf e.pred h.p.n && decide ((e.sn:Int)<=40) && j.all (ji h.t.n h.o.n))) W):=by
 have c:Hid (∀b,Below W.1.size W b->Bx b l (aY e)/\Bx b g (aI h)):=λb i=>⟨m.below i m.2.2,n.below i n.2.2⟩
 clear m n;have q:=λ(b:J)(i:Below W.1.size W b)=>VD e.sa e.sn e.sc 175 #[O (some ⟨g,0,none⟩)] j (ji h.t.n h.o.n) b (o.below i rfl) call175
  (λx _ w y=>Ni h x g w ((c.q b i).2.below y (c.q b i).2.2.2))
 have z:=I q;have P:=I o.len;clear q o;obtain⟨R,p⟩:∃R:Bool,R=(bf e.pred h.p.n && decide ((e.sn:Int)<=40) && j.all (ji h.t.n h.o.n)):=⟨_,rfl⟩;rw[<-p];have A:=I p;clear p
 cases r:bf e.pred h.p.n
 all_goals cases s:j.all (ji h.t.n h.o.n)
 all_goals cases B:decide ((e.sn:Int)<=40)
 all_goals
  have t:=I r;clear r;have u:=I s;clear s;skip;go_enter func174,ntmps174;go_wp2_with fail;have k:=I ((Bx.new W #[C D 0,C D 0,C D 0,C D 0,C D 0,C D 0,C D 0,C D 0,Z none 0 0] 50).drew);have a:=I (((G W.1.size W).alloc (aC _) (.cells #[C D 0,C D 0,C D 0,C D 0,C D 0,C D 0,C D 0,C D 0,Z none 0 0] 50)).drew);refine aD 0 [(0,1),(1,1),(2,1),(3,1),(4,1),(5,1),(6,1),(7,1),(8,2),(9,1),(10,1),(11,1),(12,1),(13,1),(14,1),(15,1),(16,1),(17,1),(18,1),(19,2),(20,1),(21,2),(22,1)] (λb=>Bx b l (aY e)/\Bx b g (aI h)) (λ_=>True) au au (c.q _ a.q) trivial ?_;refine qC ?_
  first
   |(refine kR rfl rfl (c.q _ a.q) ?_;simp only[V,nY,ng,ni])
   |(refine bA rfl rfl rfl (λK d=>?_);go_simp;refine(PI h _ _).mono ?_;rintro e E ⟨rfl,f⟩;rw[t.q];(have a:=I (a.q.bL f));(have k:=I (k.q.keep f));refine d _ _ (c.q _ a.q) ?_;clear d K f)
  refine qC ?_
  first
   |(refine kR rfl rfl (c.q _ a.q) ?_;simp only[V,nY,ng,ni])
   |(refine bA rfl rfl rfl (λK d=>?_);go_simp;refine(z.q _ a.q).mono ?_;rintro e E ⟨rfl,f⟩;rw[u.q];(have a:=I (a.q.bL f));(have k:=I (k.q.keep f));refine d _ _ (c.q _ a.q) ?_;clear d K f)
  refine qC ?_;have F:=k.q;refine bA rfl rfl rfl (λK d=>?_);go_simp;refine d _ _ (c.q _ (((((((((a.q.setCell (aC _) _).setCell (aC _) _).setCell (aC _) _).setCell (aC _) _).setCell (aC _) _).setCell (aC _) _).setCell (aC _) _).setCell (aC _) _).setCell (aC _) _)) ?_;clear d K;refine qC ?_;refine aH ?_;go_wp2_with fail;refine M (v:= .tuple #[gQ (Jj e),L R]) (by simp[results,results174,go_sem,F,A.q,t.q,u.q,B]) rfl ⟨rfl,(((((((((a.q.setCell (aC _) _).setCell (aC _) _).setCell (aC _) _).setCell (aC _) _).setCell (aC _) _).setCell (aC _) _).setCell (aC _) _).setCell (aC _) _).setCell (aC _) _)⟩
theorem SV (W:J):U H 177 #[] W (nE (gQ Ak) (L true) W):=by
 go_enter func177,ntmps177;go_wp2_with fail;refine M (v:= .tuple #[gQ Ak,L true]) (by simp[results,results177,go_sem]) rfl ⟨rfl,?_⟩;exact(G _ _).alloc (aC _) _
theorem SX (W:J):U H 178 #[] W (nE (gQ Ak) (L true) W):=by
 go_enter func178,ntmps178;go_wp2_with fail;refine M (v:= .tuple #[gQ Ak,L true]) (by simp[results,results178,go_sem]) rfl ⟨rfl,?_⟩;exact(G _ _).alloc (aC _) _
def dD (a b:EvC):Bool:=decide (a.kind=b.kind) && decide (a.t=b.t) && decide (a.gG=b.gG) && decide (a.lvl=b.lvl) && decide (a.obj=b.obj) && decide (a.v=b.v) && decide (a.pred=b.pred)
theorem Qs (a b:EvC)(xs g:List Sn)(w:J)(p:Row w 3 bI a.sa a.sn a.sc xs)(q:Row w 3 bI b.sa b.sn b.sc g):
  U H 179 #[gQ a,gQ b] w (bT (L (dD a b && decide (xs=g))) w):=by
 obtain⟨R,n⟩:∃R:Bool,R=(dD a b && decide (xs=g)):=⟨_,rfl⟩;rw[<-n];have d:=I n;have S:=I p;have T:=I q;clear n p q;obtain⟨i,t,j,k,l,v,m,r,s,u⟩:=a;obtain⟨x,y,z,A,B,E,F,K,P,Q⟩:=b;by_cases h:¬i=x
 .have c:R=N:=by rw[d.q];simp[dD,h]
  subst c;have f:(i==x)=N:=aN.2 h;clear h;go_enter func179,ntmps179;go_wp2_with fail;go_ret;exact⟨rfl,((G _ _).alloc (aC _) _).alloc ak _⟩
 have h:=nZ.1 h;subst h;by_cases h:¬t=y
 .have c:R=N:=by rw[d.q];simp[dD,h]
  subst c;have f:(t==y)=N:=aN.2 h;clear h;go_enter func179,ntmps179;go_wp2_with fail;go_ret;exact⟨rfl,((G _ _).alloc (aC _) _).alloc ak _⟩
 have h:=nZ.1 h;subst h;by_cases h:¬j=z
 .have c:R=N:=by rw[d.q];simp[dD,h]
  subst c;have f:(j==z)=N:=aN.2 h;clear h;go_enter func179,ntmps179;go_wp2_with fail;go_ret;exact⟨rfl,((G _ _).alloc (aC _) _).alloc ak _⟩
 have h:=nZ.1 h;subst h;by_cases h:¬k=A
 .have c:R=N:=by rw[d.q];simp[dD,h]
  subst c;have f:(k==A)=N:=aN.2 h;clear h;go_enter func179,ntmps179;go_wp2_with fail;go_ret;exact⟨rfl,((G _ _).alloc (aC _) _).alloc ak _⟩
 have h:=nZ.1 h;subst h;by_cases h:¬l=B
 .have c:R=N:=by rw[d.q];simp[dD,h]
  subst c;have f:(l==B)=N:=aN.2 h;clear h;go_enter func179,ntmps179;go_wp2_with fail;go_ret;exact⟨rfl,((G _ _).alloc (aC _) _).alloc ak _⟩
 have h:=nZ.1 h;subst h;by_cases h:¬v=E
 .have c:R=N:=by rw[d.q];simp[dD,h]
  subst c;have f:=Hl v E;rw[bn h] at f;clear h;go_enter func179,ntmps179;go_wp2_with fail;go_ret;exact⟨rfl,((G _ _).alloc (aC _) _).alloc ak _⟩
 have h:=nZ.1 h;subst h;by_cases h:¬m=F
 .have c:R=N:=by rw[d.q];simp[dD,h]
  subst c;have f:(m==F)=N:=aN.2 h;clear h;go_enter func179,ntmps179;go_wp2_with fail;go_ret;exact⟨rfl,((G _ _).alloc (aC _) _).alloc ak _⟩
 have h:=nZ.1 h;subst h;have c:R=decide (xs=g):=by rw[d.q];simp[dD]
 subst c;have o:=I (((G w.1.size w).alloc (aC _) (.cells (aY ⟨i,t,j,k,l,v,m,r,s,u⟩) 50)).alloc ak (.cells (aY ⟨i,t,j,k,l,v,m,K,P,Q⟩) 50));have W:=I (Xu r K s u P Q xs g _ (S.q.below o.q rfl) (T.q.below o.q rfl));go_enter func179,ntmps179
 go_wp2_with (go_at_call 202;refine W.q.mono ?_;rintro e Y ⟨rfl,X⟩)
 go_ret;exact⟨rfl,o.q.trans (X.mono (by simp;omega))⟩
end Yd
