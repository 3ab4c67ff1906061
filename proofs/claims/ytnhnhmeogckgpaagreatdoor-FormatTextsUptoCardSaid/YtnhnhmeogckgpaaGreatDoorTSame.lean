import Derived.Test.YtnhnhmeogckgpaaGreatDoorTHist2
set_option linter.all false
set_option maxRecDepth 200000
set_option maxHeartbeats 8000000
namespace Yd
open Bool renaming true→i,false→j
open Nat renaming le_refl→f
open Go Go.RowKit Go.Proofs Tryz
open Below renaming refl→g
@[reducible] def Ob (e:EvC):EvC:={kind:=0,t:=0,bU:=0,lvl:=0,obj:=0,v:=⟨0,0⟩,pred:=e.pred,sa:=e.sa,sn:=e.sn,sc:=e.sc}
theorem aaI (h:HC) (e:EvC) (bh be:Nat) (W:World) (hE:Bx W be (bg e)) (hH:Bx W bh (aC h)) (scan:List Sn) (hr:Row W 3 bV e.sa e.sn e.sc scan):
  Calls Tryz.prog 199 #[.pointer (some ⟨bh,0,none⟩),.pointer (some ⟨be,0,none⟩)] W (pG (fO (Ob e)) (.bool (aT e.pred h.p.n && decide ((e.sn:Int)≤40) && scan.all (jJ h.t.n h.o.n))) W):=by
 have HS:Hid (∀W',Below W.heap.size W W'→Bx W' be (bg e)∧Bx W' bh (aC h)):=fun W' hb=>⟨hE.below hb hE.2.2,hH.below hb hH.2.2⟩
 clear hE hH;have hall:=fun(W':World) (hb:Below W.heap.size W W')=>aeU e.sa e.sn e.sc 200 #[.pointer (some ⟨bh,0,none⟩)] scan (jJ h.t.n h.o.n) W' (hr.below hb rfl) call200
  (fun x _ W2 hW2=>UG h x bh W2 ((HS.q W' hb).2.below hW2 (HS.q W' hb).2.2.2))
 have HA:=hid hall;have hlen:=hid hr.len;clear hall hr;obtain⟨R,hR0⟩:∃R:Bool,R=(aT e.pred h.p.n && decide ((e.sn:Int)≤40) && scan.all (jJ h.t.n h.o.n)):=⟨_,rfl⟩;rw[←hR0];have HF:=hid hR0;clear hR0
 cases b1:aT e.pred h.p.n
 all_goals cases b3:scan.all (jJ h.t.n h.o.n)
 all_goals cases h2:decide ((e.sn:Int)≤40)
 all_goals
  have B1:=hid b1;clear b1;have B3:=hid b3;clear b3;skip;go_enter func199,ntmps199;go_wp2_with fail;have HR:=hid ((Bx.new W #[.int .i64 0,.int .i64 0,.int .i64 0,.int .i64 0,.int .i64 0,.int .i64 0,.int .i64 0,.int .i64 0,.slice none 0 0] 65).drew);have HB:=hid (((g W.heap.size W).alloc (f _) (.cells #[.int .i64 0,.int .i64 0,.int .i64 0,.int .i64 0,.int .i64 0,.int .i64 0,.int .i64 0,.int .i64 0,.slice none 0 0] 65)).drew);refine bY [(0,i),(1,i),(2,i),(3,i),(4,i),(5,i),(6,i),(7,i),(8,j),(9,i),(10,i),(11,i),(12,i),(13,i),(14,i),(15,i),(16,i),(17,i),(18,i),(19,j),(20,i),(21,j),(22,i)] (fun W'=>Bx W' be (bg e)∧Bx W' bh (aC h)) au au (by intro d v c a w h;cases d <;> exact h) (HS.q _ HB.q) ?_;refine qO ?_
  first
   |(refine nI rfl rfl (HS.q _ HB.q) ?_;simp only[Act.put,List.setIfInBounds_toArray,List.set_cons_zero,List.set_cons_succ])
   |(refine iH rfl rfl (fun K hK=>?_);go_simp;refine(Xm h _ _).mono ?_;rintro e w1 ⟨rfl,hb1⟩;rw[B1.q];(have HB:=hid (HB.q.bq hb1));(have HR:=hid (HR.q.keep hb1));refine hK _ _ (HS.q _ HB.q) ?_;clear hK K hb1)
  refine qO ?_
  first
   |(refine nI rfl rfl (HS.q _ HB.q) ?_;simp only[Act.put,List.setIfInBounds_toArray,List.set_cons_zero,List.set_cons_succ])
   |(refine iH rfl rfl (fun K hK=>?_);go_simp;refine(HA.q _ HB.q).mono ?_;rintro e w1 ⟨rfl,hb1⟩;rw[B3.q];(have HB:=hid (HB.q.bq hb1));(have HR:=hid (HR.q.keep hb1));refine hK _ _ (HS.q _ HB.q) ?_;clear hK K hb1)
  refine qO ?_;have hR:=HR.q;refine iH rfl rfl (fun K hK=>?_);go_simp;refine hK _ _ (HS.q _ (((((((((HB.q.setCell (f _) _).setCell (f _) _).setCell (f _) _).setCell (f _) _).setCell (f _) _).setCell (f _) _).setCell (f _) _).setCell (f _) _).setCell (f _) _)) ?_;clear hK K;refine qO ?_;refine ja ?_;go_wp2_with fail;refine bodyPost_ret (v:= .tuple #[fO (Ob e),.bool R]) (by simp[results,results199,go_sem,hR,HF.q,B1.q,B3.q,h2]) rfl ⟨rfl,(((((((((HB.q.setCell (f _) _).setCell (f _) _).setCell (f _) _).setCell (f _) _).setCell (f _) _).setCell (f _) _).setCell (f _) _).setCell (f _) _).setCell (f _) _)⟩
theorem aaJ (W:World):Calls Tryz.prog 202 #[] W (pG (fO BZ) (.bool i) W):=by
 go_enter func202,ntmps202;go_wp2_with fail;refine bodyPost_ret (v:= .tuple #[fO BZ,.bool i]) (by simp[results,results202,go_sem]) rfl ⟨rfl,?_⟩;exact(g _ _).alloc (f _) _
theorem aaK (W:World):Calls Tryz.prog 203 #[] W (pG (fO BZ) (.bool i) W):=by
 go_enter func203,ntmps203;go_wp2_with fail;refine bodyPost_ret (v:= .tuple #[fO BZ,.bool i]) (by simp[results,results203,go_sem]) rfl ⟨rfl,?_⟩;exact(g _ _).alloc (f _) _
def dK (a b:EvC):Bool:=decide (a.kind=b.kind) && decide (a.t=b.t) && decide (a.bU=b.bU) && decide (a.lvl=b.lvl) && decide (a.obj=b.obj) && decide (a.v=b.v) && decide (a.pred=b.pred)
theorem Mk (a b:EvC) (xs ys:List Sn) (w:World) (hx:Row w 3 bV a.sa a.sn a.sc xs) (hy:Row w 3 bV b.sa b.sn b.sc ys):
  Calls Tryz.prog 55 #[fO a,fO b] w (aW (.bool (dK a b && decide (xs=ys))) w):=by
 obtain⟨R,hR0⟩:∃R:Bool,R=(dK a b && decide (xs=ys)):=⟨_,rfl⟩;rw[←hR0];have HF:=hid hR0;have HX:=hid hx;have HY:=hid hy;clear hR0 hx hy;obtain⟨kind,t,bU,lvl,obj,v,pred,sa,sn,sc⟩:=a;obtain⟨kind',t',aej,aek,ael,v',YA,sa',G7,sc'⟩:=b;by_cases h:¬kind=kind'
 ·have hR:R=j:=by rw[HF.q];simp[dK,h]
  subst hR;have hne:(kind==kind')=j:=beq_eq_false_iff_ne.2 h;clear h;go_enter func55,ntmps55;go_wp2_with fail;go_ret;exact⟨rfl,((g _ _).alloc (f _) _).alloc ak _⟩
 have h:=Decidable.not_not.1 h;subst h;by_cases h:¬t=t'
 ·have hR:R=j:=by rw[HF.q];simp[dK,h]
  subst hR;have hne:(t==t')=j:=beq_eq_false_iff_ne.2 h;clear h;go_enter func55,ntmps55;go_wp2_with fail;go_ret;exact⟨rfl,((g _ _).alloc (f _) _).alloc ak _⟩
 have h:=Decidable.not_not.1 h;subst h;by_cases h:¬bU=aej
 ·have hR:R=j:=by rw[HF.q];simp[dK,h]
  subst hR;have hne:(bU==aej)=j:=beq_eq_false_iff_ne.2 h;clear h;go_enter func55,ntmps55;go_wp2_with fail;go_ret;exact⟨rfl,((g _ _).alloc (f _) _).alloc ak _⟩
 have h:=Decidable.not_not.1 h;subst h;by_cases h:¬lvl=aek
 ·have hR:R=j:=by rw[HF.q];simp[dK,h]
  subst hR;have hne:(lvl==aek)=j:=beq_eq_false_iff_ne.2 h;clear h;go_enter func55,ntmps55;go_wp2_with fail;go_ret;exact⟨rfl,((g _ _).alloc (f _) _).alloc ak _⟩
 have h:=Decidable.not_not.1 h;subst h;by_cases h:¬obj=ael
 ·have hR:R=j:=by rw[HF.q];simp[dK,h]
  subst hR;have hne:(obj==ael)=j:=beq_eq_false_iff_ne.2 h;clear h;go_enter func55,ntmps55;go_wp2_with fail;go_ret;exact⟨rfl,((g _ _).alloc (f _) _).alloc ak _⟩
 have h:=Decidable.not_not.1 h;subst h;by_cases h:¬v=v'
 ·have hR:R=j:=by rw[HF.q];simp[dK,h]
  subst hR;have hne:=YN v v';rw[decide_eq_false h] at hne;clear h;go_enter func55,ntmps55;go_wp2_with fail;go_ret;exact⟨rfl,((g _ _).alloc (f _) _).alloc ak _⟩
 have h:=Decidable.not_not.1 h;subst h;by_cases h:¬pred=YA
 ·have hR:R=j:=by rw[HF.q];simp[dK,h]
  subst hR;have hne:(pred==YA)=j:=beq_eq_false_iff_ne.2 h;clear h;go_enter func55,ntmps55;go_wp2_with fail;go_ret;exact⟨rfl,((g _ _).alloc (f _) _).alloc ak _⟩
 have h:=Decidable.not_not.1 h;subst h;have hR:R=decide (xs=ys):=by rw[HF.q];simp[dK]
 subst hR;have HB:=hid (((g w.heap.size w).alloc (f _) (.cells (bg ⟨kind,t,bU,lvl,obj,v,pred,sa,sn,sc⟩) 65)).alloc ak (.cells (bg ⟨kind,t,bU,lvl,obj,v,pred,sa',G7,sc'⟩) 65));have HC:=hid (ahG sa sa' sn sc G7 sc' xs ys _ (HX.q.below HB.q rfl) (HY.q.below HB.q rfl));go_enter func55,ntmps55
 go_wp2_with (go_at_call 122;refine HC.q.mono ?_;rintro e w1 ⟨rfl,hb1⟩)
 go_ret;exact⟨rfl,HB.q.trans (hb1.mono (by simp;omega))⟩
end Yd
