import Derived.Test.YtnhnhmeogckgpaaGreatDoorTHist
set_option linter.all false
set_option maxRecDepth 200000
set_option maxHeartbeats 8000000
namespace Yd
open Bool renaming true→f,false→u
open List renaming setIfInBounds_toArray→j,set_cons_zero→l,set_cons_succ→m
open Nat renaming le_refl→b
open Go Go.RowKit Go.Proofs Tryz
open Below renaming refl→p
open Go.IntKind renaming i64→i
open Go.Value renaming int→g,pointer→r,bool→y,slice→z
open Tryz renaming prog→x
def ig (v:lg) (nt:Nat):Bool:=if v.k=0 then decide (v.t=0) else aT v.t nt && decide (0<v.k) && decide (v.k≤999)
theorem abv {v:lg} {nt:Nat} (h:(v.k==0)=f):ig v nt=decide (v.t=0):=by simp at h;simp[ig,h]
theorem abw {v:lg} {nt:Nat} (h:(v.k==0)=u):ig v nt=(aT v.t nt && decide (0<v.k) && decide (v.k≤999)):=by simp at h;simp[ig,h]
theorem yC (h:HC) (v:lg) (w:World):Calls x 197 #[eF h,.agg #[g i v.t,g i v.k]] w (aW (y (ig v h.t.n)) w):=by
 cases hk:v.k==0
 ·cases ht:aT v.t h.t.n
  all_goals by_cases h1:0<v.k
  all_goals
   have HK:=hid hk;have HT:=hid ht;clear ht;go_enter func197,ntmps197
   go_wp2_with (go_at_call 127;refine(Im h _ _).mono ?_;rintro e w1 ⟨rfl,hb1⟩;rw[HT.q];(obtain⟨hc1,hf1⟩:=Xr hb1))
   go_ret;refine⟨?_,(((p _ _).alloc (b _) _).alloc ak _).trans (hb1.mono (by simp;omega))⟩;rw[abw HK.q,HT.q]
  ·rfl
  ·rfl
  ·rw[decide_eq_true h1];rfl
  ·rw[decide_eq_false ah];rfl
 ·go_enter func197,ntmps197
  go_wp2_with fail;go_ret;exact⟨by rw[abv hk];rfl,((p _ _).alloc (b _) _).alloc ak _⟩
def jJ (nt no:Nat) (s:Sn):Bool:=aT s.obj no && ig s.v nt
theorem JF (nt no:Nat) (s:Sn):jJ nt no s=(aT s.obj no && ig s.v nt):=rfl
theorem UG (h:HC) (s:Sn) (bh:Nat) (w:World) (hH:Bx w bh (aC h)):Calls x 200 #[vV s,r (some ⟨bh,0,none⟩)] w (aW (y (jJ h.t.n h.o.n s)) w):=by
 have HH:=hid hH;have hc0:=hH.1;have hlt:=hH.2.2;clear hH
 cases ht:aT s.obj h.o.n
 all_goals
  have HT:=hid ht;clear ht;go_enter func200,ntmps200
  go_wp2_with (first|(go_at_call 127;refine(Et h _ _).mono ?_;rintro e w1 ⟨rfl,hb1⟩;rw[HT.q];(obtain⟨hc1,hf1⟩:=Xr hb1))|(go_at_call 197;refine(yC h _ _).mono ?_;rintro e w2 ⟨rfl,hb2⟩))
  go_ret
 ·refine⟨by rw[JF,HT.q];rfl,((p _ _).alloc (b _) _).trans (hb1.mono ak)⟩
 ·refine⟨by rw[JF,HT.q];rfl,(((p _ _).alloc (b _) _).trans (hb1.mono ak)).trans (hb2.mono (by have:=hb1.size;simp at this;omega))⟩
@[reducible] def BZ:EvC:={kind:=0,t:=0,bU:=0,lvl:=0,obj:=0,v:=⟨0,0⟩,pred:=0,sa:=none,sn:=0,sc:=0}
@[reducible] def N8 (e:EvC):EvC:={kind:=0,t:=0,bU:=e.bU,lvl:=e.lvl,obj:=0,v:=⟨0,0⟩,pred:=0,sa:=none,sn:=0,sc:=0}
theorem aaF (h:HC) (e:EvC) (bh be:Nat) (W:World) (hE:Bx W be (bg e)) (hH:Bx W bh (aC h)):
  Calls x 195 #[r (some ⟨be,0,none⟩),r (some ⟨bh,0,none⟩)] W (pG (fO (N8 e)) (y (aT e.bU h.s.n && dJ e.lvl)) W):=by
 have HS:Hid (∀W',Below W.heap.size W W'→Bx W' be (bg e)∧Bx W' bh (aC h)):=fun W' hb=>⟨hE.below hb hE.2.2,hH.below hb hH.2.2⟩
 clear hE hH;obtain⟨R,hR0⟩:∃R:Bool,R=(aT e.bU h.s.n && dJ e.lvl):=⟨_,rfl⟩;rw[←hR0];have HF:=hid hR0;clear hR0
 cases b1:aT e.bU h.s.n
 all_goals cases b2:dJ e.lvl
 all_goals
  have B1:=hid b1;clear b1;have B2:=hid b2;clear b2;go_enter func195,ntmps195;go_wp2_with fail;have HR:=hid ((Bx.new W #[g i 0,g i 0,g i 0,g i 0,g i 0,g i 0,g i 0,g i 0,z none 0 0] 65).drew);have HB:=hid (((p W.heap.size W).alloc (b _) (.cells #[g i 0,g i 0,g i 0,g i 0,g i 0,g i 0,g i 0,g i 0,z none 0 0] 65)).drew);refine bY [(0,f),(1,f),(2,f),(3,f),(4,f),(5,f),(6,f),(7,f),(8,u),(9,f),(10,f),(11,f),(12,u),(13,f),(14,f),(15,u),(16,f)] (fun W'=>Bx W' be (bg e)∧Bx W' bh (aC h)) au au (by intro d v c a w h;cases d <;> exact h) (HS.q _ HB.q) ?_;refine qO ?_
  first
   |(refine nI rfl rfl (HS.q _ HB.q) ?_;simp only[Act.put,j,l,m])
   |(refine iH rfl rfl (fun K hK=>?_);go_simp;refine(Xn h _ _).mono ?_;rintro e w1 ⟨rfl,hb1⟩;rw[B1.q];(have HB:=hid (HB.q.bq hb1));(have HR:=hid (HR.q.keep hb1));refine hK _ _ (HS.q _ HB.q) ?_;clear hK K hb1)
  refine qO ?_
  first
   |(refine nI rfl rfl (HS.q _ HB.q) ?_;simp only[Act.put,j,l,m])
   |(refine iH rfl rfl (fun K hK=>?_);go_simp;refine(yB _ _).mono ?_;rintro e w1 ⟨rfl,hb1⟩;rw[show wI e.lvl=(if dJ e.lvl=f then 0 else 190) from rfl,B2.q];(have HB:=hid (HB.q.bq hb1));(have HR:=hid (HR.q.keep hb1));refine hK _ _ (HS.q _ HB.q) ?_;clear hK K hb1)
  refine qO ?_;have hR:=HR.q;refine iH rfl rfl (fun K hK=>?_);go_simp;refine hK _ _ (HS.q _ (((((((((HB.q.setCell (b _) _).setCell (b _) _).setCell (b _) _).setCell (b _) _).setCell (b _) _).setCell (b _) _).setCell (b _) _).setCell (b _) _).setCell (b _) _)) ?_;clear hK K;refine qO ?_;refine ja ?_;go_wp2_with fail;refine bodyPost_ret (v:= .tuple #[fO (N8 e),y R]) (by simp[results,results195,go_sem,hR,HF.q,B1.q,B2.q]) rfl ⟨rfl,(((((((((HB.q.setCell (b _) _).setCell (b _) _).setCell (b _) _).setCell (b _) _).setCell (b _) _).setCell (b _) _).setCell (b _) _).setCell (b _) _).setCell (b _) _)⟩
@[reducible] def N9 (e:EvC):EvC:={kind:=0,t:=0,bU:=0,lvl:=0,obj:=e.obj,v:=e.v,pred:=0,sa:=none,sn:=0,sc:=0}
theorem aaG (h:HC) (e:EvC) (bh be:Nat) (W:World) (hE:Bx W be (bg e)) (hH:Bx W bh (aC h)):
  Calls x 196 #[r (some ⟨be,0,none⟩),r (some ⟨bh,0,none⟩)] W (pG (fO (N9 e)) (y (aT e.obj h.o.n && ig e.v h.t.n && (e.v.t==e.t) && decide (0<e.v.k))) W):=by
 have HS:Hid (∀W',Below W.heap.size W W'→Bx W' be (bg e)∧Bx W' bh (aC h)):=fun W' hb=>⟨hE.below hb hE.2.2,hH.below hb hH.2.2⟩
 clear hE hH;obtain⟨R,hR0⟩:∃R:Bool,R=(aT e.obj h.o.n && ig e.v h.t.n && (e.v.t==e.t) && decide (0<e.v.k)):=⟨_,rfl⟩;rw[←hR0];have HF:=hid hR0;clear hR0
 cases b1:aT e.obj h.o.n
 all_goals cases b2:ig e.v h.t.n
 all_goals cases h3:e.v.t==e.t
 all_goals
  have B1:=hid b1;clear b1;have B2:=hid b2;clear b2;skip;go_enter func196,ntmps196;go_wp2_with fail;have HR:=hid ((Bx.new W #[g i 0,g i 0,g i 0,g i 0,g i 0,g i 0,g i 0,g i 0,z none 0 0] 65).drew);have HB:=hid (((p W.heap.size W).alloc (b _) (.cells #[g i 0,g i 0,g i 0,g i 0,g i 0,g i 0,g i 0,g i 0,z none 0 0] 65)).drew);refine bY [(0,f),(1,f),(2,f),(3,f),(4,f),(5,f),(6,f),(7,f),(8,u),(9,f),(10,f),(11,f),(12,f),(13,u),(14,f),(15,f),(16,f),(17,f),(18,f),(19,f),(20,f),(21,f),(22,f),(23,f),(24,f),(25,f),(26,f),(27,f),(28,f),(29,u),(30,f)] (fun W'=>Bx W' be (bg e)∧Bx W' bh (aC h)) au au (by intro d v c a w h;cases d <;> exact h) (HS.q _ HB.q) ?_;refine qO ?_
  first
   |(refine nI rfl rfl (HS.q _ HB.q) ?_;simp only[Act.put,j,l,m])
   |(refine iH rfl rfl (fun K hK=>?_);go_simp;refine(Et h _ _).mono ?_;rintro e w1 ⟨rfl,hb1⟩;rw[B1.q];(have HB:=hid (HB.q.bq hb1));(have HR:=hid (HR.q.keep hb1));refine hK _ _ (HS.q _ HB.q) ?_;clear hK K hb1)
  refine qO ?_
  first
   |(refine nI rfl rfl (HS.q _ HB.q) ?_;simp only[Act.put,j,l,m])
   |(refine iH rfl rfl (fun K hK=>?_);go_simp;refine(yC h _ _).mono ?_;rintro e w1 ⟨rfl,hb1⟩;rw[B2.q];(have HB:=hid (HB.q.bq hb1));(have HR:=hid (HR.q.keep hb1));refine hK _ _ (HS.q _ HB.q) ?_;clear hK K hb1)
  refine qO ?_;have hR:=HR.q;refine iH rfl rfl (fun K hK=>?_);go_simp;refine hK _ _ (HS.q _ (((((((((HB.q.setCell (b _) _).setCell (b _) _).setCell (b _) _).setCell (b _) _).setCell (b _) _).setCell (b _) _).setCell (b _) _).setCell (b _) _).setCell (b _) _)) ?_;clear hK K;refine qO ?_;refine ja ?_;go_wp2_with fail;refine bodyPost_ret (v:= .tuple #[fO (N9 e),y R]) (by simp[results,results196,go_sem,hR,HF.q,B1.q,B2.q,h3]) rfl ⟨rfl,(((((((((HB.q.setCell (b _) _).setCell (b _) _).setCell (b _) _).setCell (b _) _).setCell (b _) _).setCell (b _) _).setCell (b _) _).setCell (b _) _).setCell (b _) _)⟩
@[reducible] def Oa (e:EvC):EvC:={kind:=0,t:=0,bU:=0,lvl:=0,obj:=e.obj,v:=e.v,pred:=0,sa:=none,sn:=0,sc:=0}
theorem aaH (h:HC) (e:EvC) (bh be:Nat) (W:World) (hE:Bx W be (bg e)) (hH:Bx W bh (aC h)):
  Calls x 198 #[r (some ⟨be,0,none⟩),r (some ⟨bh,0,none⟩)] W (pG (fO (Oa e)) (y (aT e.obj h.o.n && ig e.v h.t.n)) W):=by
 have HS:Hid (∀W',Below W.heap.size W W'→Bx W' be (bg e)∧Bx W' bh (aC h)):=fun W' hb=>⟨hE.below hb hE.2.2,hH.below hb hH.2.2⟩
 clear hE hH;obtain⟨R,hR0⟩:∃R:Bool,R=(aT e.obj h.o.n && ig e.v h.t.n):=⟨_,rfl⟩;rw[←hR0];have HF:=hid hR0;clear hR0
 cases b1:aT e.obj h.o.n
 all_goals cases b2:ig e.v h.t.n
 all_goals
  have B1:=hid b1;clear b1;have B2:=hid b2;clear b2;go_enter func198,ntmps198;go_wp2_with fail;have HR:=hid ((Bx.new W #[g i 0,g i 0,g i 0,g i 0,g i 0,g i 0,g i 0,g i 0,z none 0 0] 65).drew);have HB:=hid (((p W.heap.size W).alloc (b _) (.cells #[g i 0,g i 0,g i 0,g i 0,g i 0,g i 0,g i 0,g i 0,z none 0 0] 65)).drew);refine bY [(0,f),(1,f),(2,f),(3,f),(4,f),(5,f),(6,f),(7,f),(8,u),(9,f),(10,f),(11,f),(12,f),(13,u),(14,f),(15,u),(16,f)] (fun W'=>Bx W' be (bg e)∧Bx W' bh (aC h)) au au (by intro d v c a w h;cases d <;> exact h) (HS.q _ HB.q) ?_;refine qO ?_
  first
   |(refine nI rfl rfl (HS.q _ HB.q) ?_;simp only[Act.put,j,l,m])
   |(refine iH rfl rfl (fun K hK=>?_);go_simp;refine(Et h _ _).mono ?_;rintro e w1 ⟨rfl,hb1⟩;rw[B1.q];(have HB:=hid (HB.q.bq hb1));(have HR:=hid (HR.q.keep hb1));refine hK _ _ (HS.q _ HB.q) ?_;clear hK K hb1)
  refine qO ?_
  first
   |(refine nI rfl rfl (HS.q _ HB.q) ?_;simp only[Act.put,j,l,m])
   |(refine iH rfl rfl (fun K hK=>?_);go_simp;refine(yC h _ _).mono ?_;rintro e w1 ⟨rfl,hb1⟩;rw[B2.q];(have HB:=hid (HB.q.bq hb1));(have HR:=hid (HR.q.keep hb1));refine hK _ _ (HS.q _ HB.q) ?_;clear hK K hb1)
  refine qO ?_;have hR:=HR.q;refine iH rfl rfl (fun K hK=>?_);go_simp;refine hK _ _ (HS.q _ (((((((((HB.q.setCell (b _) _).setCell (b _) _).setCell (b _) _).setCell (b _) _).setCell (b _) _).setCell (b _) _).setCell (b _) _).setCell (b _) _).setCell (b _) _)) ?_;clear hK K;refine qO ?_;refine ja ?_;go_wp2_with fail;refine bodyPost_ret (v:= .tuple #[fO (Oa e),y R]) (by simp[results,results198,go_sem,hR,HF.q,B1.q,B2.q]) rfl ⟨rfl,(((((((((HB.q.setCell (b _) _).setCell (b _) _).setCell (b _) _).setCell (b _) _).setCell (b _) _).setCell (b _) _).setCell (b _) _).setCell (b _) _).setCell (b _) _)⟩
end Yd
