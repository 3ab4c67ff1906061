import Derived.Test.YtpeojoobplpcoaaGreatDoorPRf2
import Derived.Test.YtpeojoobplpcoaaGreatDoorPOrdV
import Derived.WalkSpells
set_option linter.all false
set_option maxRecDepth 200000
set_option maxHeartbeats 8000000
namespace Yd
open Go Go.RowKit Go.Proofs Tryz
open Below renaming refl->g
open Go renaming World->j,Calls->x,bodyPost_ret->y
open Go.IntKind renaming i64->f
open Go.Value renaming int->b,bool->r,pointer->u,slice->z
open Tryz renaming prog->i
structure Sl where
 a:Option Addr
 n:Nat
 c:Nat
@[reducible] def Sl.v (s:Sl):Value:= z s.a s.n s.c
structure HC where
 t:Sl
 s:Sl
 o:Sl
 p:Sl
 e:Sl
 d:Sl
 m:Sl
 w:Sl
@[reducible] def bG (h:HC):Value:= .agg #[h.t.v,h.s.v,h.o.v,h.p.v,h.e.v,h.d.v,h.m.v,h.w.v]
@[reducible] def aD (h:HC):Array Value:=#[h.t.v,h.s.v,h.o.v,h.p.v,h.e.v,h.d.v,h.m.v,h.w.v]
theorem lF (h:HC)(w:j):x i 22 #[bG h] w (dw (.agg #[h.t.v,h.s.v,h.o.v,h.p.v]) w):=by
 go_enter Tryz.func22,Tryz.ntmps22
 go_wp2
 refine y (v:= .agg #[h.t.v,h.s.v,h.o.v,h.p.v]) (by simp[results,results22,go_sem]) rfl ⟨rfl,?_⟩;exact((g _ _).alloc ak _).alloc ak _
def aV (n:Int)(many:Nat):Bool:=decide (0<=n) && decide (n<many)
theorem CB {n:Int}{m:Nat}(h:n<0):aV n m=false:=by simp[aV,Int.not_le.2 h]
theorem CF {n:Int}{m:Nat}(h:0<=n):aV n m=decide (n<m):=by simp[aV,h]
theorem aiM (h:HC)(w:j):(Instr.index 74 (.agg #[h.t.v,h.s.v,h.o.v,h.p.v]) (b f 0)).run i w= .ok h.t.v w:=ay
theorem NT (h:HC)(n:Int)(w:j):x i 74 #[bG h,b f 0,b f n] w (dw (r (aV n h.t.n)) w):=by
 have hix:=aiM h;by_cases hn:0<=n
 .go_enter func74,ntmps74
  go_wp2_with (go_at_call 22;refine(lF h _).mono ?_;rintro e w' ⟨rfl,hb⟩)
  go_ret;refine⟨by rw[CF hn];rfl,((g _ _).alloc ak _).trans (hb.mono ak)⟩
 .go_enter func74,ntmps74
  go_wp2_with (go_at_call 22;refine(lF h _).mono ?_;rintro e w' ⟨rfl,hb⟩)
  go_ret;exact⟨by rw[CB hn];rfl,(g _ _).alloc ak _⟩
theorem aiN (h:HC)(w:j):(Instr.index 74 (.agg #[h.t.v,h.s.v,h.o.v,h.p.v]) (b f 1)).run i w= .ok h.s.v w:=ay
theorem adh (h:HC)(n:Int)(w:j):x i 74 #[bG h,b f 1,b f n] w (dw (r (aV n h.s.n)) w):=by
 have hix:=aiN h;by_cases hn:0<=n
 .go_enter func74,ntmps74
  go_wp2_with (go_at_call 22;refine(lF h _).mono ?_;rintro e w' ⟨rfl,hb⟩)
  go_ret;refine⟨by rw[CF hn];rfl,((g _ _).alloc ak _).trans (hb.mono ak)⟩
 .go_enter func74,ntmps74
  go_wp2_with (go_at_call 22;refine(lF h _).mono ?_;rintro e w' ⟨rfl,hb⟩)
  go_ret;exact⟨by rw[CB hn];rfl,(g _ _).alloc ak _⟩
theorem aiO (h:HC)(w:j):(Instr.index 74 (.agg #[h.t.v,h.s.v,h.o.v,h.p.v]) (b f 2)).run i w= .ok h.o.v w:=ay
theorem Kt (h:HC)(n:Int)(w:j):x i 74 #[bG h,b f 2,b f n] w (dw (r (aV n h.o.n)) w):=by
 have hix:=aiO h;by_cases hn:0<=n
 .go_enter func74,ntmps74
  go_wp2_with (go_at_call 22;refine(lF h _).mono ?_;rintro e w' ⟨rfl,hb⟩)
  go_ret;refine⟨by rw[CF hn];rfl,((g _ _).alloc ak _).trans (hb.mono ak)⟩
 .go_enter func74,ntmps74
  go_wp2_with (go_at_call 22;refine(lF h _).mono ?_;rintro e w' ⟨rfl,hb⟩)
  go_ret;exact⟨by rw[CB hn];rfl,(g _ _).alloc ak _⟩
theorem aiP (h:HC)(w:j):(Instr.index 74 (.agg #[h.t.v,h.s.v,h.o.v,h.p.v]) (b f 3)).run i w= .ok h.p.v w:=ay
theorem ada (h:HC)(n:Int)(w:j):x i 74 #[bG h,b f 3,b f n] w (dw (r (aV n h.p.n)) w):=by
 have hix:=aiP h;by_cases hn:0<=n
 .go_enter func74,ntmps74
  go_wp2_with (go_at_call 22;refine(lF h _).mono ?_;rintro e w' ⟨rfl,hb⟩)
  go_ret;refine⟨by rw[CF hn];rfl,((g _ _).alloc ak _).trans (hb.mono ak)⟩
 .go_enter func74,ntmps74
  go_wp2_with (go_at_call 22;refine(lF h _).mono ?_;rintro e w' ⟨rfl,hb⟩)
  go_ret;exact⟨by rw[CB hn];rfl,(g _ _).alloc ak _⟩
def fP (l:Int):Bool:=decide (1<=l) && decide (l<=4)
def AZ (l:Int):Int:=if fP l=true then 0 else 190
theorem J2 {l:Int}(h:fP l=true):AZ l=0:=by simp[AZ,h]
theorem Gq {l:Int}(h:fP l=false):AZ l=190:=by simp[AZ,h]
theorem CS (l:Int)(w:j):x i 110 #[b f l] w (dw (b f (AZ l)) w):=by
 by_cases h1:1<=l
 .by_cases h2:l<=4
  .go_enter func110,ntmps110
   go_wp2
   go_ret;exact⟨by rw[J2 (by simp[fP,h1,h2])];rfl,g _ _⟩
  .go_enter func110,ntmps110
   go_wp2
   go_ret;exact⟨by rw[Gq (by simp[fP];omega)];rfl,g _ _⟩
 .go_enter func110,ntmps110
  go_wp2
  go_ret;exact⟨by rw[Gq (by simp[fP];omega)];rfl,g _ _⟩
def gI (v:lK)(nt:Nat):Bool:=if v.k=0 then decide (v.t=0) else aV v.t nt && decide (0<v.k) && decide (v.k<=999)
theorem aiQ {v:lK}{nt:Nat}(h:(v.k==0)=true):gI v nt=decide (v.t=0):=by simp at h;simp[gI,h]
theorem aiR {v:lK}{nt:Nat}(h:(v.k==0)=false):gI v nt=(aV v.t nt && decide (0<v.k) && decide (v.k<=999)):=by simp at h;simp[gI,h]
theorem Db (h:HC)(v:lK)(w:j):x i 122 #[bG h,.agg #[b f v.t,b f v.k]] w (dw (r (gI v h.t.n)) w):=by
 cases hk:v.k==0
 .cases ht:aV v.t h.t.n
  all_goals by_cases h1:0<v.k
  all_goals
   have HK:=hid hk;have HT:=hid ht;clear ht;go_enter func122,ntmps122
   go_wp2_with (go_at_call 74;refine(NT h _ _).mono ?_;rintro e w1 ⟨rfl,hb1⟩;rw[HT.q];(obtain⟨hc1,hf1⟩:=adR hb1))
   go_ret;refine⟨?_,(((g _ _).alloc (aB _) _).alloc ak _).trans (hb1.mono (by simp;omega))⟩;rw[aiR HK.q,HT.q]
  .rfl
  .rfl
  .rw[bN h1];rfl
  .rw[bq ah];rfl
 .go_enter func122,ntmps122
  go_wp2_with fail;go_ret;exact⟨by rw[aiQ hk];rfl,((g _ _).alloc (aB _) _).alloc ak _⟩
def jW (nt no:Nat)(s:Sn):Bool:=aV s.obj no && gI s.v nt
theorem QX (nt no:Nat)(s:Sn):jW nt no s=(aV s.obj no && gI s.v nt):=rfl
theorem aar (h:HC)(s:Sn)(bh:Nat)(w:j)(hH:Bx w bh (aD h)):x i 125 #[CG s,u (some ⟨bh,0,none⟩)] w (dw (r (jW h.t.n h.o.n s)) w):=by
 have HH:=hid hH;have hc0:=hH.1;have hlt:=hH.2.2;clear hH
 cases ht:aV s.obj h.o.n
 all_goals
  have HT:=hid ht;clear ht;go_enter func125,ntmps125
  go_wp2_with (first|(go_at_call 74;refine(Kt h _ _).mono ?_;rintro e w1 ⟨rfl,hb1⟩;rw[HT.q];(obtain⟨hc1,hf1⟩:=adR hb1))|(go_at_call 122;refine(Db h _ _).mono ?_;rintro e w2 ⟨rfl,hb2⟩))
  go_ret
 .refine⟨by rw[QX,HT.q];rfl,((g _ _).alloc (aB _) _).trans (hb1.mono ak)⟩
 .refine⟨by rw[QX,HT.q];rfl,(((g _ _).alloc (aB _) _).trans (hb1.mono ak)).trans (hb2.mono (by have:=hb1.size;simp at this;omega))⟩
@[reducible] def Hr:EvC:={kind:=0,t:=0,bW:=0,lvl:=0,obj:=0,v:=⟨0,0⟩,pred:=0,sa:=none,sn:=0,sc:=0}
@[reducible] def UI (e:EvC):EvC:={kind:=0,t:=0,bW:=e.bW,lvl:=e.lvl,obj:=0,v:=⟨0,0⟩,pred:=0,sa:=none,sn:=0,sc:=0}
theorem ag5 (h:HC)(e:EvC)(bh be:Nat)(W:j)(hE:Bx W be (aS e))(hH:Bx W bh (aD h)):
  x i 120 #[u (some ⟨be,0,none⟩),u (some ⟨bh,0,none⟩)] W (uF (fZ (UI e)) (r (aV e.bW h.s.n && fP e.lvl)) W):=by
 have HS:Hid (∀W',Below W.1.size W W'->Bx W' be (aS e)/\Bx W' bh (aD h)):=λW' hb=>⟨hE.below hb hE.2.2,hH.below hb hH.2.2⟩
 clear hE hH;obtain⟨R,hR0⟩:∃R:Bool,R=(aV e.bW h.s.n && fP e.lvl):=⟨_,rfl⟩;rw[<-hR0];have HF:=hid hR0;clear hR0
 cases b1:aV e.bW h.s.n
 all_goals cases b2:fP e.lvl
 all_goals
  have B1:=hid b1;clear b1;have B2:=hid b2;clear b2;go_enter func120,ntmps120;go_wp2_with fail;have HR:=hid ((Bx.new W #[b f 0,b f 0,b f 0,b f 0,b f 0,b f 0,b f 0,b f 0,z none 0 0] 50).drew);have HB:=hid (((g W.1.size W).alloc (aB _) (.cells #[b f 0,b f 0,b f 0,b f 0,b f 0,b f 0,b f 0,b f 0,z none 0 0] 50)).drew);refine aC 0 [(0,1),(1,1),(2,1),(3,1),(4,1),(5,1),(6,1),(7,1),(8,2),(9,1),(10,1),(11,1),(12,2),(13,1),(14,1),(15,2),(16,1)] (λW'=>Bx W' be (aS e)/\Bx W' bh (aD h)) (λ_=>True) ay ay (HS.q _ HB.q) trivial ?_;refine qC ?_
  first
   |(refine qG rfl rfl (HS.q _ HB.q) ?_;simp only[Act.put,mH,lZ,l5])
   |(refine bC rfl rfl rfl (λK hK=>?_);go_simp;refine(adh h _ _).mono ?_;rintro e w1 ⟨rfl,hb1⟩;rw[B1.q];(have HB:=hid (HB.q.bZ hb1));(have HR:=hid (HR.q.keep hb1));refine hK _ _ (HS.q _ HB.q) ?_;clear hK K hb1)
  refine qC ?_
  first
   |(refine qG rfl rfl (HS.q _ HB.q) ?_;simp only[Act.put,mH,lZ,l5])
   |(refine bC rfl rfl rfl (λK hK=>?_);go_simp;refine(CS _ _).mono ?_;rintro e w1 ⟨rfl,hb1⟩;rw[show AZ e.lvl=(if fP e.lvl=true then 0 else 190) from rfl,B2.q];(have HB:=hid (HB.q.bZ hb1));(have HR:=hid (HR.q.keep hb1));refine hK _ _ (HS.q _ HB.q) ?_;clear hK K hb1)
  refine qC ?_;have hR:=HR.q;refine bC rfl rfl rfl (λK hK=>?_);go_simp;refine hK _ _ (HS.q _ (((((((((HB.q.setCell (aB _) _).setCell (aB _) _).setCell (aB _) _).setCell (aB _) _).setCell (aB _) _).setCell (aB _) _).setCell (aB _) _).setCell (aB _) _).setCell (aB _) _)) ?_;clear hK K;refine qC ?_;refine aP ?_;go_wp2_with fail;refine y (v:= .tuple #[fZ (UI e),r R]) (by simp[results,results120,go_sem,hR,HF.q,B1.q,B2.q]) rfl ⟨rfl,(((((((((HB.q.setCell (aB _) _).setCell (aB _) _).setCell (aB _) _).setCell (aB _) _).setCell (aB _) _).setCell (aB _) _).setCell (aB _) _).setCell (aB _) _).setCell (aB _) _)⟩
@[reducible] def UJ (e:EvC):EvC:={kind:=0,t:=0,bW:=0,lvl:=0,obj:=e.obj,v:=e.v,pred:=0,sa:=none,sn:=0,sc:=0}
theorem ag6 (h:HC)(e:EvC)(bh be:Nat)(W:j)(hE:Bx W be (aS e))(hH:Bx W bh (aD h)):
  x i 121 #[u (some ⟨be,0,none⟩),u (some ⟨bh,0,none⟩)] W (uF (fZ (UJ e)) (r (aV e.obj h.o.n && gI e.v h.t.n && (e.v.t==e.t) && decide (0<e.v.k))) W):=by
 have HS:Hid (∀W',Below W.1.size W W'->Bx W' be (aS e)/\Bx W' bh (aD h)):=λW' hb=>⟨hE.below hb hE.2.2,hH.below hb hH.2.2⟩
 clear hE hH;obtain⟨R,hR0⟩:∃R:Bool,R=(aV e.obj h.o.n && gI e.v h.t.n && (e.v.t==e.t) && decide (0<e.v.k)):=⟨_,rfl⟩;rw[<-hR0];have HF:=hid hR0;clear hR0
 cases b1:aV e.obj h.o.n
 all_goals cases b2:gI e.v h.t.n
 all_goals cases h3:e.v.t==e.t
 all_goals
  have B1:=hid b1;clear b1;have B2:=hid b2;clear b2;skip;go_enter func121,ntmps121;go_wp2_with fail;have HR:=hid ((Bx.new W #[b f 0,b f 0,b f 0,b f 0,b f 0,b f 0,b f 0,b f 0,z none 0 0] 50).drew);have HB:=hid (((g W.1.size W).alloc (aB _) (.cells #[b f 0,b f 0,b f 0,b f 0,b f 0,b f 0,b f 0,b f 0,z none 0 0] 50)).drew);refine aC 0 [(0,1),(1,1),(2,1),(3,1),(4,1),(5,1),(6,1),(7,1),(8,2),(9,1),(10,1),(11,1),(12,1),(13,2),(14,1),(15,1),(16,1),(17,1),(18,1),(19,1),(20,1),(21,1),(22,1),(23,1),(24,1),(25,1),(26,1),(27,1),(28,1),(29,2),(30,1)] (λW'=>Bx W' be (aS e)/\Bx W' bh (aD h)) (λ_=>True) ay ay (HS.q _ HB.q) trivial ?_;refine qC ?_
  first
   |(refine qG rfl rfl (HS.q _ HB.q) ?_;simp only[Act.put,mH,lZ,l5])
   |(refine bC rfl rfl rfl (λK hK=>?_);go_simp;refine(Kt h _ _).mono ?_;rintro e w1 ⟨rfl,hb1⟩;rw[B1.q];(have HB:=hid (HB.q.bZ hb1));(have HR:=hid (HR.q.keep hb1));refine hK _ _ (HS.q _ HB.q) ?_;clear hK K hb1)
  refine qC ?_
  first
   |(refine qG rfl rfl (HS.q _ HB.q) ?_;simp only[Act.put,mH,lZ,l5])
   |(refine bC rfl rfl rfl (λK hK=>?_);go_simp;refine(Db h _ _).mono ?_;rintro e w1 ⟨rfl,hb1⟩;rw[B2.q];(have HB:=hid (HB.q.bZ hb1));(have HR:=hid (HR.q.keep hb1));refine hK _ _ (HS.q _ HB.q) ?_;clear hK K hb1)
  refine qC ?_;have hR:=HR.q;refine bC rfl rfl rfl (λK hK=>?_);go_simp;refine hK _ _ (HS.q _ (((((((((HB.q.setCell (aB _) _).setCell (aB _) _).setCell (aB _) _).setCell (aB _) _).setCell (aB _) _).setCell (aB _) _).setCell (aB _) _).setCell (aB _) _).setCell (aB _) _)) ?_;clear hK K;refine qC ?_;refine aP ?_;go_wp2_with fail;refine y (v:= .tuple #[fZ (UJ e),r R]) (by simp[results,results121,go_sem,hR,HF.q,B1.q,B2.q,h3]) rfl ⟨rfl,(((((((((HB.q.setCell (aB _) _).setCell (aB _) _).setCell (aB _) _).setCell (aB _) _).setCell (aB _) _).setCell (aB _) _).setCell (aB _) _).setCell (aB _) _).setCell (aB _) _)⟩
@[reducible] def UK (e:EvC):EvC:={kind:=0,t:=0,bW:=0,lvl:=0,obj:=e.obj,v:=e.v,pred:=0,sa:=none,sn:=0,sc:=0}
theorem ag7 (h:HC)(e:EvC)(bh be:Nat)(W:j)(hE:Bx W be (aS e))(hH:Bx W bh (aD h)):
  x i 123 #[u (some ⟨be,0,none⟩),u (some ⟨bh,0,none⟩)] W (uF (fZ (UK e)) (r (aV e.obj h.o.n && gI e.v h.t.n)) W):=by
 have HS:Hid (∀W',Below W.1.size W W'->Bx W' be (aS e)/\Bx W' bh (aD h)):=λW' hb=>⟨hE.below hb hE.2.2,hH.below hb hH.2.2⟩
 clear hE hH;obtain⟨R,hR0⟩:∃R:Bool,R=(aV e.obj h.o.n && gI e.v h.t.n):=⟨_,rfl⟩;rw[<-hR0];have HF:=hid hR0;clear hR0
 cases b1:aV e.obj h.o.n
 all_goals cases b2:gI e.v h.t.n
 all_goals
  have B1:=hid b1;clear b1;have B2:=hid b2;clear b2;go_enter func123,ntmps123;go_wp2_with fail;have HR:=hid ((Bx.new W #[b f 0,b f 0,b f 0,b f 0,b f 0,b f 0,b f 0,b f 0,z none 0 0] 50).drew);have HB:=hid (((g W.1.size W).alloc (aB _) (.cells #[b f 0,b f 0,b f 0,b f 0,b f 0,b f 0,b f 0,b f 0,z none 0 0] 50)).drew);refine aC 0 [(0,1),(1,1),(2,1),(3,1),(4,1),(5,1),(6,1),(7,1),(8,2),(9,1),(10,1),(11,1),(12,1),(13,2),(14,1),(15,2),(16,1)] (λW'=>Bx W' be (aS e)/\Bx W' bh (aD h)) (λ_=>True) ay ay (HS.q _ HB.q) trivial ?_;refine qC ?_
  first
   |(refine qG rfl rfl (HS.q _ HB.q) ?_;simp only[Act.put,mH,lZ,l5])
   |(refine bC rfl rfl rfl (λK hK=>?_);go_simp;refine(Kt h _ _).mono ?_;rintro e w1 ⟨rfl,hb1⟩;rw[B1.q];(have HB:=hid (HB.q.bZ hb1));(have HR:=hid (HR.q.keep hb1));refine hK _ _ (HS.q _ HB.q) ?_;clear hK K hb1)
  refine qC ?_
  first
   |(refine qG rfl rfl (HS.q _ HB.q) ?_;simp only[Act.put,mH,lZ,l5])
   |(refine bC rfl rfl rfl (λK hK=>?_);go_simp;refine(Db h _ _).mono ?_;rintro e w1 ⟨rfl,hb1⟩;rw[B2.q];(have HB:=hid (HB.q.bZ hb1));(have HR:=hid (HR.q.keep hb1));refine hK _ _ (HS.q _ HB.q) ?_;clear hK K hb1)
  refine qC ?_;have hR:=HR.q;refine bC rfl rfl rfl (λK hK=>?_);go_simp;refine hK _ _ (HS.q _ (((((((((HB.q.setCell (aB _) _).setCell (aB _) _).setCell (aB _) _).setCell (aB _) _).setCell (aB _) _).setCell (aB _) _).setCell (aB _) _).setCell (aB _) _).setCell (aB _) _)) ?_;clear hK K;refine qC ?_;refine aP ?_;go_wp2_with fail;refine y (v:= .tuple #[fZ (UK e),r R]) (by simp[results,results123,go_sem,hR,HF.q,B1.q,B2.q]) rfl ⟨rfl,(((((((((HB.q.setCell (aB _) _).setCell (aB _) _).setCell (aB _) _).setCell (aB _) _).setCell (aB _) _).setCell (aB _) _).setCell (aB _) _).setCell (aB _) _).setCell (aB _) _)⟩
end Yd
