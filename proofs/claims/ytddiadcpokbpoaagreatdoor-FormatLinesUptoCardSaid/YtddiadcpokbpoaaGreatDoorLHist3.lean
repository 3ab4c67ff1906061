import Derived.Test.YtddiadcpokbpoaaGreatDoorLFsP
import Derived.Test.YtddiadcpokbpoaaGreatDoorLOrdV
import Derived.WalkSpells
set_option linter.all false
set_option maxRecDepth 200000
set_option maxHeartbeats 8000000
namespace Yd
open Go Go.RowKit Go.Proofs Tryz
open Act renaming put->B
open Below renaming refl->g
open Go renaming World->r,bodyPost_ret->y,Calls->A
open Go.IntKind renaming i64->f
open Go.Value renaming int->b,bool->u,pointer->z,slice->C
open Tryz renaming prog->i
open Yd renaming hid->j
structure Sl where
 a:Option Addr
 n:Nat
 c:Nat
@[reducible] def Sl.v (s:Sl):Value:= C s.a s.n s.c
structure HC where
 t:Sl
 s:Sl
 o:Sl
 p:Sl
 e:Sl
 d:Sl
 m:Sl
 w:Sl
@[reducible] def gH (h:HC):Value:= .agg #[h.t.v,h.s.v,h.o.v,h.p.v,h.e.v,h.d.v,h.m.v,h.w.v]
@[reducible] def aH (h:HC):Array Value:=#[h.t.v,h.s.v,h.o.v,h.p.v,h.e.v,h.d.v,h.m.v,h.w.v]
theorem nZ (h:HC)(w:r):A i 45 #[gH h] w (cK (.agg #[h.t.v,h.s.v,h.o.v,h.p.v]) w):=by
 go_enter Tryz.func45,Tryz.ntmps45
 go_wp2
 refine y (v:= .agg #[h.t.v,h.s.v,h.o.v,h.p.v]) (by simp[results,results45,go_sem]) rfl ⟨rfl,?_⟩;exact((g _ _).alloc au _).alloc au _
def bC (n:Int)(many:Nat):Bool:=decide (0<=n) && decide (n<many)
theorem CS {n:Int}{m:Nat}(h:n<0):bC n m=false:=by simp[bC,Int.not_le.2 h]
theorem CU {n:Int}{m:Nat}(h:0<=n):bC n m=decide (n<m):=by simp[bC,h]
theorem afG (h:HC)(w:r):(Instr.index 95 (.agg #[h.t.v,h.s.v,h.o.v,h.p.v]) (b f 0)).run i w= .ok h.t.v w:=av
theorem M6 (h:HC)(n:Int)(w:r):A i 76 #[gH h,b f 0,b f n] w (cK (u (bC n h.t.n)) w):=by
 have hix:=afG h;by_cases hn:0<=n
 .go_enter func76,ntmps76
  go_wp2_with (go_at_call 45;refine(nZ h _).mono ?_;rintro e w' ⟨rfl,hb⟩)
  go_ret;refine⟨by rw[CU hn];rfl,((g _ _).alloc au _).trans (hb.mono au)⟩
 .go_enter func76,ntmps76
  go_wp2_with (go_at_call 45;refine(nZ h _).mono ?_;rintro e w' ⟨rfl,hb⟩)
  go_ret;exact⟨by rw[CS hn];rfl,(g _ _).alloc au _⟩
theorem afH (h:HC)(w:r):(Instr.index 95 (.agg #[h.t.v,h.s.v,h.o.v,h.p.v]) (b f 1)).run i w= .ok h.s.v w:=av
theorem abn (h:HC)(n:Int)(w:r):A i 76 #[gH h,b f 1,b f n] w (cK (u (bC n h.s.n)) w):=by
 have hix:=afH h;by_cases hn:0<=n
 .go_enter func76,ntmps76
  go_wp2_with (go_at_call 45;refine(nZ h _).mono ?_;rintro e w' ⟨rfl,hb⟩)
  go_ret;refine⟨by rw[CU hn];rfl,((g _ _).alloc au _).trans (hb.mono au)⟩
 .go_enter func76,ntmps76
  go_wp2_with (go_at_call 45;refine(nZ h _).mono ?_;rintro e w' ⟨rfl,hb⟩)
  go_ret;exact⟨by rw[CS hn];rfl,(g _ _).alloc au _⟩
theorem afI (h:HC)(w:r):(Instr.index 95 (.agg #[h.t.v,h.s.v,h.o.v,h.p.v]) (b f 2)).run i w= .ok h.o.v w:=av
theorem JV (h:HC)(n:Int)(w:r):A i 76 #[gH h,b f 2,b f n] w (cK (u (bC n h.o.n)) w):=by
 have hix:=afI h;by_cases hn:0<=n
 .go_enter func76,ntmps76
  go_wp2_with (go_at_call 45;refine(nZ h _).mono ?_;rintro e w' ⟨rfl,hb⟩)
  go_ret;refine⟨by rw[CU hn];rfl,((g _ _).alloc au _).trans (hb.mono au)⟩
 .go_enter func76,ntmps76
  go_wp2_with (go_at_call 45;refine(nZ h _).mono ?_;rintro e w' ⟨rfl,hb⟩)
  go_ret;exact⟨by rw[CS hn];rfl,(g _ _).alloc au _⟩
theorem afJ (h:HC)(w:r):(Instr.index 95 (.agg #[h.t.v,h.s.v,h.o.v,h.p.v]) (b f 3)).run i w= .ok h.p.v w:=av
theorem abm (h:HC)(n:Int)(w:r):A i 76 #[gH h,b f 3,b f n] w (cK (u (bC n h.p.n)) w):=by
 have hix:=afJ h;by_cases hn:0<=n
 .go_enter func76,ntmps76
  go_wp2_with (go_at_call 45;refine(nZ h _).mono ?_;rintro e w' ⟨rfl,hb⟩)
  go_ret;refine⟨by rw[CU hn];rfl,((g _ _).alloc au _).trans (hb.mono au)⟩
 .go_enter func76,ntmps76
  go_wp2_with (go_at_call 45;refine(nZ h _).mono ?_;rintro e w' ⟨rfl,hb⟩)
  go_ret;exact⟨by rw[CS hn];rfl,(g _ _).alloc au _⟩
def fF (l:Int):Bool:=decide (1<=l) && decide (l<=4)
def Bt (l:Int):Int:=if fF l=true then 0 else 190
theorem Kh {l:Int}(h:fF l=true):Bt l=0:=by simp[Bt,h]
theorem F6 {l:Int}(h:fF l=false):Bt l=190:=by simp[Bt,h]
theorem Dk (l:Int)(w:r):A i 67 #[b f l] w (cK (b f (Bt l)) w):=by
 by_cases h1:1<=l
 .by_cases h2:l<=4
  .go_enter func67,ntmps67
   go_wp2
   go_ret;exact⟨by rw[Kh (by simp[fF,h1,h2])];rfl,g _ _⟩
  .go_enter func67,ntmps67
   go_wp2
   go_ret;exact⟨by rw[F6 (by simp[fF];omega)];rfl,g _ _⟩
 .go_enter func67,ntmps67
  go_wp2
  go_ret;exact⟨by rw[F6 (by simp[fF];omega)];rfl,g _ _⟩
def iP (v:kZ)(nt:Nat):Bool:=if v.k=0 then decide (v.t=0) else bC v.t nt && decide (0<v.k) && decide (v.k<=999)
theorem ahd {v:kZ}{nt:Nat}(h:(v.k==0)=true):iP v nt=decide (v.t=0):=by simp at h;simp[iP,h]
theorem ahe {v:kZ}{nt:Nat}(h:(v.k==0)=false):iP v nt=(bC v.t nt && decide (0<v.k) && decide (v.k<=999)):=by simp at h;simp[iP,h]
theorem Dm (h:HC)(v:kZ)(w:r):A i 116 #[gH h,.agg #[b f v.t,b f v.k]] w (cK (u (iP v h.t.n)) w):=by
 cases hk:v.k==0
 .cases ht:bC v.t h.t.n
  all_goals by_cases h1:0<v.k
  all_goals
   have HK:=j hk;have HT:=j ht;clear ht;go_enter func116,ntmps116
   go_wp2_with (go_at_call 76;refine(M6 h _ _).mono ?_;rintro e w1 ⟨rfl,hb1⟩;rw[HT.q];(obtain⟨hc1,hf1⟩:=ace hb1))
   go_ret;refine⟨?_,(((g _ _).alloc (aA _) _).alloc au _).trans (hb1.mono (by simp;omega))⟩;rw[ahe HK.q,HT.q]
  .rfl
  .rfl
  .rw[bA h1];rfl
  .rw[aX ah];rfl
 .go_enter func116,ntmps116
  go_wp2_with fail;go_ret;exact⟨by rw[ahd hk];rfl,((g _ _).alloc (aA _) _).alloc au _⟩
def kU (nt no:Nat)(s:Sn):Bool:=bC s.obj no && iP s.v nt
theorem PZ (nt no:Nat)(s:Sn):kU nt no s=(bC s.obj no && iP s.v nt):=rfl
theorem aaz (h:HC)(s:Sn)(bh:Nat)(w:r)(hH:Bx w bh (aH h)):A i 119 #[CQ s,z (some ⟨bh,0,none⟩)] w (cK (u (kU h.t.n h.o.n s)) w):=by
 have HH:=j hH;have hc0:=hH.1;have hlt:=hH.2.2;clear hH
 cases ht:bC s.obj h.o.n
 all_goals
  have HT:=j ht;clear ht;go_enter func119,ntmps119
  go_wp2_with (first|(go_at_call 76;refine(JV h _ _).mono ?_;rintro e w1 ⟨rfl,hb1⟩;rw[HT.q];(obtain⟨hc1,hf1⟩:=ace hb1))|(go_at_call 116;refine(Dm h _ _).mono ?_;rintro e w2 ⟨rfl,hb2⟩))
  go_ret
 .refine⟨by rw[PZ,HT.q];rfl,((g _ _).alloc (aA _) _).trans (hb1.mono au)⟩
 .refine⟨by rw[PZ,HT.q];rfl,(((g _ _).alloc (aA _) _).trans (hb1.mono au)).trans (hb2.mono (by have:=hb1.size;simp at this;omega))⟩
@[reducible] def G5:EvC:={kind:=0,t:=0,dG:=0,lvl:=0,obj:=0,v:=⟨0,0⟩,pred:=0,sa:=none,sn:=0,sc:=0}
@[reducible] def Tk (e:EvC):EvC:={kind:=0,t:=0,dG:=e.dG,lvl:=e.lvl,obj:=0,v:=⟨0,0⟩,pred:=0,sa:=none,sn:=0,sc:=0}
theorem aeK (h:HC)(e:EvC)(bh be:Nat)(W:r)(hE:Bx W be (aY e))(hH:Bx W bh (aH h)):
  A i 114 #[z (some ⟨be,0,none⟩),z (some ⟨bh,0,none⟩)] W (sH (je (Tk e)) (u (bC e.dG h.s.n && fF e.lvl)) W):=by
 have HS:Hid (∀W',Below W.1.size W W'->Bx W' be (aY e)/\Bx W' bh (aH h)):=λW' hb=>⟨hE.below hb hE.2.2,hH.below hb hH.2.2⟩
 clear hE hH;obtain⟨R,hR0⟩:∃R:Bool,R=(bC e.dG h.s.n && fF e.lvl):=⟨_,rfl⟩;rw[<-hR0];have HF:=j hR0;clear hR0
 cases b1:bC e.dG h.s.n
 all_goals cases b2:fF e.lvl
 all_goals
  have B1:=j b1;clear b1;have B2:=j b2;clear b2;go_enter func114,ntmps114;go_wp2_with fail;have HR:=j ((Bx.new W #[b f 0,b f 0,b f 0,b f 0,b f 0,b f 0,b f 0,b f 0,C none 0 0] 47).drew);have HB:=j (((g W.1.size W).alloc (aA _) (.cells #[b f 0,b f 0,b f 0,b f 0,b f 0,b f 0,b f 0,b f 0,C none 0 0] 47)).drew);refine aC 0 [(0,1),(1,1),(2,1),(3,1),(4,1),(5,1),(6,1),(7,1),(8,2),(9,1),(10,1),(11,1),(12,2),(13,1),(14,1),(15,2),(16,1)] (λW'=>Bx W' be (aY e)/\Bx W' bh (aH h)) (λ_=>True) av av (HS.q _ HB.q) trivial ?_;refine qC ?_
  first
   |(refine qp rfl rfl (HS.q _ HB.q) ?_;simp only[B,tQ,sG,sF])
   |(refine bq rfl rfl rfl (λK hK=>?_);go_simp;refine(abn h _ _).mono ?_;rintro e w1 ⟨rfl,hb1⟩;rw[B1.q];(have HB:=j (HB.q.bO hb1));(have HR:=j (HR.q.keep hb1));refine hK _ _ (HS.q _ HB.q) ?_;clear hK K hb1)
  refine qC ?_
  first
   |(refine qp rfl rfl (HS.q _ HB.q) ?_;simp only[B,tQ,sG,sF])
   |(refine bq rfl rfl rfl (λK hK=>?_);go_simp;refine(Dk _ _).mono ?_;rintro e w1 ⟨rfl,hb1⟩;rw[show Bt e.lvl=(if fF e.lvl=true then 0 else 190) from rfl,B2.q];(have HB:=j (HB.q.bO hb1));(have HR:=j (HR.q.keep hb1));refine hK _ _ (HS.q _ HB.q) ?_;clear hK K hb1)
  refine qC ?_;have hR:=HR.q;refine bq rfl rfl rfl (λK hK=>?_);go_simp;refine hK _ _ (HS.q _ (((((((((HB.q.setCell (aA _) _).setCell (aA _) _).setCell (aA _) _).setCell (aA _) _).setCell (aA _) _).setCell (aA _) _).setCell (aA _) _).setCell (aA _) _).setCell (aA _) _)) ?_;clear hK K;refine qC ?_;refine aJ ?_;go_wp2_with fail;refine y (v:= .tuple #[je (Tk e),u R]) (by simp[results,results114,go_sem,hR,HF.q,B1.q,B2.q]) rfl ⟨rfl,(((((((((HB.q.setCell (aA _) _).setCell (aA _) _).setCell (aA _) _).setCell (aA _) _).setCell (aA _) _).setCell (aA _) _).setCell (aA _) _).setCell (aA _) _).setCell (aA _) _)⟩
@[reducible] def Tm (e:EvC):EvC:={kind:=0,t:=0,dG:=0,lvl:=0,obj:=e.obj,v:=e.v,pred:=0,sa:=none,sn:=0,sc:=0}
theorem aeL (h:HC)(e:EvC)(bh be:Nat)(W:r)(hE:Bx W be (aY e))(hH:Bx W bh (aH h)):
  A i 115 #[z (some ⟨be,0,none⟩),z (some ⟨bh,0,none⟩)] W (sH (je (Tm e)) (u (bC e.obj h.o.n && iP e.v h.t.n && (e.v.t==e.t) && decide (0<e.v.k))) W):=by
 have HS:Hid (∀W',Below W.1.size W W'->Bx W' be (aY e)/\Bx W' bh (aH h)):=λW' hb=>⟨hE.below hb hE.2.2,hH.below hb hH.2.2⟩
 clear hE hH;obtain⟨R,hR0⟩:∃R:Bool,R=(bC e.obj h.o.n && iP e.v h.t.n && (e.v.t==e.t) && decide (0<e.v.k)):=⟨_,rfl⟩;rw[<-hR0];have HF:=j hR0;clear hR0
 cases b1:bC e.obj h.o.n
 all_goals cases b2:iP e.v h.t.n
 all_goals cases h3:e.v.t==e.t
 all_goals
  have B1:=j b1;clear b1;have B2:=j b2;clear b2;skip;go_enter func115,ntmps115;go_wp2_with fail;have HR:=j ((Bx.new W #[b f 0,b f 0,b f 0,b f 0,b f 0,b f 0,b f 0,b f 0,C none 0 0] 47).drew);have HB:=j (((g W.1.size W).alloc (aA _) (.cells #[b f 0,b f 0,b f 0,b f 0,b f 0,b f 0,b f 0,b f 0,C none 0 0] 47)).drew);refine aC 0 [(0,1),(1,1),(2,1),(3,1),(4,1),(5,1),(6,1),(7,1),(8,2),(9,1),(10,1),(11,1),(12,1),(13,2),(14,1),(15,1),(16,1),(17,1),(18,1),(19,1),(20,1),(21,1),(22,1),(23,1),(24,1),(25,1),(26,1),(27,1),(28,1),(29,2),(30,1)] (λW'=>Bx W' be (aY e)/\Bx W' bh (aH h)) (λ_=>True) av av (HS.q _ HB.q) trivial ?_;refine qC ?_
  first
   |(refine qp rfl rfl (HS.q _ HB.q) ?_;simp only[B,tQ,sG,sF])
   |(refine bq rfl rfl rfl (λK hK=>?_);go_simp;refine(JV h _ _).mono ?_;rintro e w1 ⟨rfl,hb1⟩;rw[B1.q];(have HB:=j (HB.q.bO hb1));(have HR:=j (HR.q.keep hb1));refine hK _ _ (HS.q _ HB.q) ?_;clear hK K hb1)
  refine qC ?_
  first
   |(refine qp rfl rfl (HS.q _ HB.q) ?_;simp only[B,tQ,sG,sF])
   |(refine bq rfl rfl rfl (λK hK=>?_);go_simp;refine(Dm h _ _).mono ?_;rintro e w1 ⟨rfl,hb1⟩;rw[B2.q];(have HB:=j (HB.q.bO hb1));(have HR:=j (HR.q.keep hb1));refine hK _ _ (HS.q _ HB.q) ?_;clear hK K hb1)
  refine qC ?_;have hR:=HR.q;refine bq rfl rfl rfl (λK hK=>?_);go_simp;refine hK _ _ (HS.q _ (((((((((HB.q.setCell (aA _) _).setCell (aA _) _).setCell (aA _) _).setCell (aA _) _).setCell (aA _) _).setCell (aA _) _).setCell (aA _) _).setCell (aA _) _).setCell (aA _) _)) ?_;clear hK K;refine qC ?_;refine aJ ?_;go_wp2_with fail;refine y (v:= .tuple #[je (Tm e),u R]) (by simp[results,results115,go_sem,hR,HF.q,B1.q,B2.q,h3]) rfl ⟨rfl,(((((((((HB.q.setCell (aA _) _).setCell (aA _) _).setCell (aA _) _).setCell (aA _) _).setCell (aA _) _).setCell (aA _) _).setCell (aA _) _).setCell (aA _) _).setCell (aA _) _)⟩
@[reducible] def Tn (e:EvC):EvC:={kind:=0,t:=0,dG:=0,lvl:=0,obj:=e.obj,v:=e.v,pred:=0,sa:=none,sn:=0,sc:=0}
theorem aeM (h:HC)(e:EvC)(bh be:Nat)(W:r)(hE:Bx W be (aY e))(hH:Bx W bh (aH h)):
  A i 117 #[z (some ⟨be,0,none⟩),z (some ⟨bh,0,none⟩)] W (sH (je (Tn e)) (u (bC e.obj h.o.n && iP e.v h.t.n)) W):=by
 have HS:Hid (∀W',Below W.1.size W W'->Bx W' be (aY e)/\Bx W' bh (aH h)):=λW' hb=>⟨hE.below hb hE.2.2,hH.below hb hH.2.2⟩
 clear hE hH;obtain⟨R,hR0⟩:∃R:Bool,R=(bC e.obj h.o.n && iP e.v h.t.n):=⟨_,rfl⟩;rw[<-hR0];have HF:=j hR0;clear hR0
 cases b1:bC e.obj h.o.n
 all_goals cases b2:iP e.v h.t.n
 all_goals
  have B1:=j b1;clear b1;have B2:=j b2;clear b2;go_enter func117,ntmps117;go_wp2_with fail;have HR:=j ((Bx.new W #[b f 0,b f 0,b f 0,b f 0,b f 0,b f 0,b f 0,b f 0,C none 0 0] 47).drew);have HB:=j (((g W.1.size W).alloc (aA _) (.cells #[b f 0,b f 0,b f 0,b f 0,b f 0,b f 0,b f 0,b f 0,C none 0 0] 47)).drew);refine aC 0 [(0,1),(1,1),(2,1),(3,1),(4,1),(5,1),(6,1),(7,1),(8,2),(9,1),(10,1),(11,1),(12,1),(13,2),(14,1),(15,2),(16,1)] (λW'=>Bx W' be (aY e)/\Bx W' bh (aH h)) (λ_=>True) av av (HS.q _ HB.q) trivial ?_;refine qC ?_
  first
   |(refine qp rfl rfl (HS.q _ HB.q) ?_;simp only[B,tQ,sG,sF])
   |(refine bq rfl rfl rfl (λK hK=>?_);go_simp;refine(JV h _ _).mono ?_;rintro e w1 ⟨rfl,hb1⟩;rw[B1.q];(have HB:=j (HB.q.bO hb1));(have HR:=j (HR.q.keep hb1));refine hK _ _ (HS.q _ HB.q) ?_;clear hK K hb1)
  refine qC ?_
  first
   |(refine qp rfl rfl (HS.q _ HB.q) ?_;simp only[B,tQ,sG,sF])
   |(refine bq rfl rfl rfl (λK hK=>?_);go_simp;refine(Dm h _ _).mono ?_;rintro e w1 ⟨rfl,hb1⟩;rw[B2.q];(have HB:=j (HB.q.bO hb1));(have HR:=j (HR.q.keep hb1));refine hK _ _ (HS.q _ HB.q) ?_;clear hK K hb1)
  refine qC ?_;have hR:=HR.q;refine bq rfl rfl rfl (λK hK=>?_);go_simp;refine hK _ _ (HS.q _ (((((((((HB.q.setCell (aA _) _).setCell (aA _) _).setCell (aA _) _).setCell (aA _) _).setCell (aA _) _).setCell (aA _) _).setCell (aA _) _).setCell (aA _) _).setCell (aA _) _)) ?_;clear hK K;refine qC ?_;refine aJ ?_;go_wp2_with fail;refine y (v:= .tuple #[je (Tn e),u R]) (by simp[results,results117,go_sem,hR,HF.q,B1.q,B2.q]) rfl ⟨rfl,(((((((((HB.q.setCell (aA _) _).setCell (aA _) _).setCell (aA _) _).setCell (aA _) _).setCell (aA _) _).setCell (aA _) _).setCell (aA _) _).setCell (aA _) _).setCell (aA _) _)⟩
@[reducible] def Tp (e:EvC):EvC:={kind:=0,t:=0,dG:=0,lvl:=0,obj:=0,v:=⟨0,0⟩,pred:=e.pred,sa:=e.sa,sn:=e.sn,sc:=e.sc}
theorem aeN (h:HC)(e:EvC)(bh be:Nat)(W:r)(hE:Bx W be (aY e))(hH:Bx W bh (aH h))(scan:List Sn)(hr:Row W 3 bS e.sa e.sn e.sc scan):
  A i 118 #[z (some ⟨bh,0,none⟩),z (some ⟨be,0,none⟩)] W (sH (je (Tp e)) (u (bC e.pred h.p.n && decide ((e.sn:Int)<=40) && scan.all (kU h.t.n h.o.n))) W):=by
 have HS:Hid (∀W',Below W.1.size W W'->Bx W' be (aY e)/\Bx W' bh (aH h)):=λW' hb=>⟨hE.below hb hE.2.2,hH.below hb hH.2.2⟩
 clear hE hH;have hall:=λ(W':r)(hb:Below W.1.size W W')=>ajU e.sa e.sn e.sc 119 #[z (some ⟨bh,0,none⟩)] scan (kU h.t.n h.o.n) W' (hr.below hb rfl) call119
  (λx _ W2 hW2=>aaz h x bh W2 ((HS.q W' hb).2.below hW2 (HS.q W' hb).2.2.2))
 have HA:=j hall;have hlen:=j hr.len;clear hall hr;obtain⟨R,hR0⟩:∃R:Bool,R=(bC e.pred h.p.n && decide ((e.sn:Int)<=40) && scan.all (kU h.t.n h.o.n)):=⟨_,rfl⟩;rw[<-hR0];have HF:=j hR0;clear hR0
 cases b1:bC e.pred h.p.n
 all_goals cases b3:scan.all (kU h.t.n h.o.n)
 all_goals cases h2:decide ((e.sn:Int)<=40)
 all_goals
  have B1:=j b1;clear b1;have B3:=j b3;clear b3;skip;go_enter func118,ntmps118;go_wp2_with fail;have HR:=j ((Bx.new W #[b f 0,b f 0,b f 0,b f 0,b f 0,b f 0,b f 0,b f 0,C none 0 0] 47).drew);have HB:=j (((g W.1.size W).alloc (aA _) (.cells #[b f 0,b f 0,b f 0,b f 0,b f 0,b f 0,b f 0,b f 0,C none 0 0] 47)).drew);refine aC 0 [(0,1),(1,1),(2,1),(3,1),(4,1),(5,1),(6,1),(7,1),(8,2),(9,1),(10,1),(11,1),(12,1),(13,1),(14,1),(15,1),(16,1),(17,1),(18,1),(19,2),(20,1),(21,2),(22,1)] (λW'=>Bx W' be (aY e)/\Bx W' bh (aH h)) (λ_=>True) av av (HS.q _ HB.q) trivial ?_;refine qC ?_
  first
   |(refine qp rfl rfl (HS.q _ HB.q) ?_;simp only[B,tQ,sG,sF])
   |(refine bq rfl rfl rfl (λK hK=>?_);go_simp;refine(abm h _ _).mono ?_;rintro e w1 ⟨rfl,hb1⟩;rw[B1.q];(have HB:=j (HB.q.bO hb1));(have HR:=j (HR.q.keep hb1));refine hK _ _ (HS.q _ HB.q) ?_;clear hK K hb1)
  refine qC ?_
  first
   |(refine qp rfl rfl (HS.q _ HB.q) ?_;simp only[B,tQ,sG,sF])
   |(refine bq rfl rfl rfl (λK hK=>?_);go_simp;refine(HA.q _ HB.q).mono ?_;rintro e w1 ⟨rfl,hb1⟩;rw[B3.q];(have HB:=j (HB.q.bO hb1));(have HR:=j (HR.q.keep hb1));refine hK _ _ (HS.q _ HB.q) ?_;clear hK K hb1)
  refine qC ?_;have hR:=HR.q;refine bq rfl rfl rfl (λK hK=>?_);go_simp;refine hK _ _ (HS.q _ (((((((((HB.q.setCell (aA _) _).setCell (aA _) _).setCell (aA _) _).setCell (aA _) _).setCell (aA _) _).setCell (aA _) _).setCell (aA _) _).setCell (aA _) _).setCell (aA _) _)) ?_;clear hK K;refine qC ?_;refine aJ ?_;go_wp2_with fail;refine y (v:= .tuple #[je (Tp e),u R]) (by simp[results,results118,go_sem,hR,HF.q,B1.q,B3.q,h2]) rfl ⟨rfl,(((((((((HB.q.setCell (aA _) _).setCell (aA _) _).setCell (aA _) _).setCell (aA _) _).setCell (aA _) _).setCell (aA _) _).setCell (aA _) _).setCell (aA _) _).setCell (aA _) _)⟩
theorem aeO (W:r):A i 121 #[] W (sH (je G5) (u true) W):=by
 go_enter func121,ntmps121;go_wp2_with fail;refine y (v:= .tuple #[je G5,u true]) (by simp[results,results121,go_sem]) rfl ⟨rfl,?_⟩;exact(g _ _).alloc (aA _) _
theorem aeP (W:r):A i 122 #[] W (sH (je G5) (u true) W):=by
 go_enter func122,ntmps122;go_wp2_with fail;refine y (v:= .tuple #[je G5,u true]) (by simp[results,results122,go_sem]) rfl ⟨rfl,?_⟩;exact(g _ _).alloc (aA _) _
end Yd
