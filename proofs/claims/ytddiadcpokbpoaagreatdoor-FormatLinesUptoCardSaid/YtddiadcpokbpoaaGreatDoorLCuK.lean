import Derived.Test.YtddiadcpokbpoaaGreatDoorLProws
import Derived.Test.YtddiadcpokbpoaaGreatDoorLLnIn
set_option linter.all false
set_option maxRecDepth 200000
set_option maxHeartbeats 8000000
namespace Yd
open Bool renaming false->f,true->M
open Option renaming none->A,some->Q
open Go Go.RowKit Go.Proofs Tryz
open Below renaming refl->C,heap_setCell->T
open Bx renaming new->V
open Go renaming World->P
open Go.IntKind renaming i64->I
open Go.Obj renaming cells->F
open Go.Proofs renaming Utf8Tabs_below->J
open Go.Value renaming string->D,int->H
open Lib renaming Utf8Tabs->N
open Tryz renaming prog->L
open Utf8 renaming decode->E
open Value renaming slice->O
open Yd renaming hid->o
open _root_ renaming trivial->G,Nat->S,Int->U
def wH (x:Bool)(w:P)(e:Ending)(w':P):Prop:=∃(k a:U)(t:Bs)(nx:S)(er:U),M9 k a t nx er w e w'/\((er==0 && k==1)=x)
theorem agd (w:P)(hT:N 5 6 w):Calls L 132 #[D ⟨[32].toArray⟩,H I 0] w (wH f w):=by
 have hex:ByteArray.extract ⟨#[32]⟩ 0 1=⟨#[32]⟩:=qG [32] 1;have HS:=λW (hb:Below w.1.size w W)=>o (sV [32] 0 [32] rfl au au W (J hT hb))
 have gB:Hid (pJ [32]=1/\xC [32]=M):=o ⟨by decide,by decide⟩;go_enter func132,ntmps132;go_wp2_with fail;refine(HS _ (aB (C _ _) _)).q.mono ?_;rintro e w1 ⟨rfl,hb1⟩;have HB1:=o ((aB (C w.1.size w) (F (aG 0 0 [] f) 187)).trans (hb1.mono au));have bP:=o ((V w (aG 0 0 [] f) 187).keep hb1);clear hb1;rw[gB.q.1,gB.q.2];have hcx:=(bP.q.alloc (F (aG 0 1 [] f) 187)).1;have hfx:=(bP.q.alloc (F (aG 0 1 [] f) 187)).2.1;have iO:=o (aB HB1.q (F (aG 0 1 [] f) 187));go_wp2_with fail;refine bodyPost_ret (v:= .tuple #[.agg (aG 5 1 [] f),H I 1,H I 0]) (by simp[results,results132,go_sem,hcx]) rfl ⟨5,1,[],1,0,⟨f,rfl,?_⟩,by decide⟩;exact(((iO.q.setCell (p:=⟨w.1.size,0,A⟩) (aA _) _).setCell (p:=⟨w.1.size,1,A⟩) (aA _) _).setCell (p:=⟨w.1.size,2,A⟩) (aA _) _).setCell (p:=⟨w.1.size,3,A⟩) (aA _) _
theorem ajx (w:P)(hT:N 5 6 w):Calls L 132 #[D ⟨[9].toArray⟩,H I 0] w (wH f w):=by
 have hex:ByteArray.extract ⟨#[9]⟩ 0 1=⟨#[9]⟩:=qG [9] 1;have HS:=λW (hb:Below w.1.size w W)=>o (sV [9] 0 [9] rfl au au W (J hT hb))
 have gB:Hid (pJ [9]=1/\xC [9]=M):=o ⟨by decide,by decide⟩;go_enter func132,ntmps132;go_wp2_with fail;refine(HS _ (aB (C _ _) _)).q.mono ?_;rintro e w1 ⟨rfl,hb1⟩;have HB1:=o ((aB (C w.1.size w) (F (aG 0 0 [] f) 187)).trans (hb1.mono au));have bP:=o ((V w (aG 0 0 [] f) 187).keep hb1);clear hb1;rw[gB.q.1,gB.q.2];have hcx:=(bP.q.alloc (F (aG 0 1 [] f) 187)).1;have hfx:=(bP.q.alloc (F (aG 0 1 [] f) 187)).2.1;have iO:=o (aB HB1.q (F (aG 0 1 [] f) 187));go_wp2_with fail;refine bodyPost_ret (v:= .tuple #[.agg (aG 5 1 [] f),H I 1,H I 0]) (by simp[results,results132,go_sem,hcx]) rfl ⟨5,1,[],1,0,⟨f,rfl,?_⟩,by decide⟩;exact(((iO.q.setCell (p:=⟨w.1.size,0,A⟩) (aA _) _).setCell (p:=⟨w.1.size,1,A⟩) (aA _) _).setCell (p:=⟨w.1.size,2,A⟩) (aA _) _).setCell (p:=⟨w.1.size,3,A⟩) (aA _) _
theorem agf (w:P)(hT:N 5 6 w):Calls L 132 #[D ⟨[35].toArray⟩,H I 0] w (wH f w):=by
 have hex:ByteArray.extract ⟨#[35]⟩ 0 1=⟨#[35]⟩:=qG [35] 1;have HS:=λW (hb:Below w.1.size w W)=>o (sV [35] 0 [35] rfl au au W (J hT hb))
 have gB:Hid (pJ [35]=1/\xC [35]=M):=o ⟨by decide,by decide⟩;go_enter func132,ntmps132;go_wp2_with fail;refine(HS _ (aB (C _ _) _)).q.mono ?_;rintro e w1 ⟨rfl,hb1⟩;have HB1:=o ((aB (C w.1.size w) (F (aG 0 0 [] f) 187)).trans (hb1.mono au));have bP:=o ((V w (aG 0 0 [] f) 187).keep hb1);clear hb1;rw[gB.q.1,gB.q.2];have hcx:=(bP.q.alloc (F (aG 0 1 [] f) 187)).1;have hfx:=(bP.q.alloc (F (aG 0 1 [] f) 187)).2.1;have iO:=o (aB HB1.q (F (aG 0 1 [] f) 187));go_wp2_with fail;refine bodyPost_ret (v:= .tuple #[.agg (aG 5 1 [] f),H I 1,H I 0]) (by simp[results,results132,go_sem,hcx]) rfl ⟨5,1,[],1,0,⟨f,rfl,?_⟩,by decide⟩;exact(((iO.q.setCell (p:=⟨w.1.size,0,A⟩) (aA _) _).setCell (p:=⟨w.1.size,1,A⟩) (aA _) _).setCell (p:=⟨w.1.size,2,A⟩) (aA _) _).setCell (p:=⟨w.1.size,3,A⟩) (aA _) _
theorem agh (w:P)(hT:N 5 6 w):Calls L 132 #[D ⟨[10].toArray⟩,H I 0] w (wH f w):=by
 have hex:ByteArray.extract ⟨#[10]⟩ 0 1=⟨#[10]⟩:=qG [10] 1;have HS:=λW (hb:Below w.1.size w W)=>o (sV [10] 0 [10] rfl au au W (J hT hb))
 have gB:Hid (pJ [10]=0/\xC [10]=M):=o ⟨by decide,by decide⟩;go_enter func132,ntmps132;go_wp2_with fail;refine(HS _ (aB (C _ _) _)).q.mono ?_;rintro e w1 ⟨rfl,hb1⟩;have HB1:=o ((aB (C w.1.size w) (F (aG 0 0 [] f) 187)).trans (hb1.mono au));have bP:=o ((V w (aG 0 0 [] f) 187).keep hb1);clear hb1;rw[gB.q.1,gB.q.2];have hcx:=(bP.q.alloc (F (aG 0 0 [] f) 187)).1;have hfx:=(bP.q.alloc (F (aG 0 0 [] f) 187)).2.1;have iO:=o (aB HB1.q (F (aG 0 0 [] f) 187));go_wp2_with fail;refine bodyPost_ret (v:= .tuple #[.agg (aG 4 0 [10] f),H I 1,H I 0]) (by simp[results,results132,go_sem,hcx]) rfl ⟨4,0,[10],1,0,⟨f,rfl,?_⟩,by decide⟩;exact(((iO.q.setCell (p:=⟨w.1.size,0,A⟩) (aA _) _).setCell (p:=⟨w.1.size,1,A⟩) (aA _) _).setCell (p:=⟨w.1.size,2,A⟩) (aA _) _).setCell (p:=⟨w.1.size,3,A⟩) (aA _) _
theorem agi (w:P)(hT:N 5 6 w):Calls L 132 #[D ⟨[46].toArray⟩,H I 0] w (wH f w):=by
 have hex:ByteArray.extract ⟨#[46]⟩ 0 1=⟨#[46]⟩:=qG [46] 1;have HS:=λW (hb:Below w.1.size w W)=>o (sV [46] 0 [46] rfl au au W (J hT hb))
 have gB:Hid (pJ [46]=0/\xC [46]=M):=o ⟨by decide,by decide⟩;go_enter func132,ntmps132;go_wp2_with fail;refine(HS _ (aB (C _ _) _)).q.mono ?_;rintro e w1 ⟨rfl,hb1⟩;have HB1:=o ((aB (C w.1.size w) (F (aG 0 0 [] f) 187)).trans (hb1.mono au));have bP:=o ((V w (aG 0 0 [] f) 187).keep hb1);clear hb1;rw[gB.q.1,gB.q.2];have fU:=o (aB HB1.q (F (aG 0 0 [] f) 187));have lu:=o (bP.q.alloc (F (aG 0 0 [] f) 187));have jX:=o (V w1 (aG 0 0 [] f) 187);have HZ3:=o (show w.1.size<w1.1.size from bP.q.2.2);clear HB1 bP;go_wp2_with fail;generalize w1.alloc (F (aG 0 0 [] f) 187)=w4 at fU lu jX ⊢;generalize w1.1.size=tb at jX HZ3 ⊢;have hcy:=jX.q.1;have Aq:=jX.q.2.1;go_wp2_with fail;refine aC 99 [(0,0),(1,0),(2,0),(3,2),(4,0),(5,2)] (λ_=>True) (λ_=>True) av av (trivial) (trivial) ?_;refine qC ?_;refine aD rfl rfl (λK hK=>?_);go_simp;refine hK _ _ ⟨G,G⟩ ?_;clear hK K;refine qC ?_;refine aD rfl rfl (λK hK=>?_);go_simp;refine hK _ _ ⟨G,G⟩ ?_;clear hK K;refine aJ ?_;have lG:=o (((jX.q.aZ 0 au (H I 3)).aZ 2 au (D ⟨[46].toArray⟩)).drew);have pO:=o (((lu.q.setOther tb 0 (H I 3) (by have:=HZ3.q;omega)).setOther tb 2 (D ⟨[46].toArray⟩) (by have:=HZ3.q;omega)).drew);have jv:=o (((fU.q.setCell (p:=⟨tb,0,A⟩) (by have:=HZ3.q;show _<=tb;omega) (H I 3)).setCell (p:=⟨tb,2,A⟩) (by have:=HZ3.q;show _<=tb;omega) (D ⟨[46].toArray⟩)).drew);generalize((w4.setCell ⟨tb,0,A⟩ (H I 3)).setCell ⟨tb,2,A⟩ (D ⟨[46].toArray⟩)).drew=Z at lG pO jv ⊢;clear hcy Aq lu jX fU;have hcz:=pO.q.1;have hfz:=pO.q.2.1;go_wp2_with fail;refine aC 99 [(0,0),(1,0),(2,0),(3,0),(4,0),(5,0),(6,2),(7,0),(8,0)] (λ_=>True) (λW'=>Bx W' tb (aG 3 0 [46] f)) av av (trivial) (lG.q.drew) ?_;refine qC ?_;refine aD rfl rfl (λK hK=>?_);go_simp;refine hK _ _ ⟨G,(((lG.q.drew.setOther w.1.size 0 _ (by have:=HZ3.q;omega)).setOther w.1.size 1 _ (by have:=HZ3.q;omega)).setOther w.1.size 2 _ (by have:=HZ3.q;omega)).setOther w.1.size 3 _ (by have:=HZ3.q;omega)⟩ ?_;clear hK K;refine qC ?_;refine aJ ?_;go_wp2_with fail;have hwq:IntKind.i64.wrap 1=1:=Go.IntWalk.i64_in 1 ah;refine bodyPost_ret (v:= .tuple #[.agg (aG 3 0 [46] f),H I 1,H I 0]) (by simp[results,results132,go_sem,hcz,hwq]) rfl ⟨3,0,[46],1,0,⟨f,rfl,?_⟩,by decide⟩;exact((((jv.q.drew).setCell (p:=⟨w.1.size,0,A⟩) (aA _) _).setCell (p:=⟨w.1.size,1,A⟩) (aA _) _).setCell (p:=⟨w.1.size,2,A⟩) (aA _) _).setCell (p:=⟨w.1.size,3,A⟩) (aA _) _
theorem agj (w:P)(hT:N 5 6 w):Calls L 132 #[D ⟨[45].toArray⟩,H I 0] w (wH f w):=by
 have hex:ByteArray.extract ⟨#[45]⟩ 0 1=⟨#[45]⟩:=qG [45] 1;have HS:=λW (hb:Below w.1.size w W)=>o (sV [45] 0 [45] rfl au au W (J hT hb))
 have gB:Hid (pJ [45]=0/\xC [45]=M):=o ⟨by decide,by decide⟩;go_enter func132,ntmps132;go_wp2_with fail;refine(HS _ (aB (C _ _) _)).q.mono ?_;rintro e w1 ⟨rfl,hb1⟩;have HB1:=o ((aB (C w.1.size w) (F (aG 0 0 [] f) 187)).trans (hb1.mono au));have bP:=o ((V w (aG 0 0 [] f) 187).keep hb1);clear hb1;rw[gB.q.1,gB.q.2];have fU:=o (aB HB1.q (F (aG 0 0 [] f) 187));have lu:=o (bP.q.alloc (F (aG 0 0 [] f) 187));have jX:=o (V w1 (aG 0 0 [] f) 187);have HZ3:=o (show w.1.size<w1.1.size from bP.q.2.2);clear HB1 bP;go_wp2_with fail;generalize w1.alloc (F (aG 0 0 [] f) 187)=w4 at fU lu jX ⊢;generalize w1.1.size=tb at jX HZ3 ⊢;have hcy:=jX.q.1;have Aq:=jX.q.2.1;go_wp2_with fail;refine aC 99 [(0,0),(1,0),(2,0),(3,2),(4,0),(5,2)] (λ_=>True) (λ_=>True) av av (trivial) (trivial) ?_;refine qC ?_;refine aD rfl rfl (λK hK=>?_);go_simp;refine hK _ _ ⟨G,G⟩ ?_;clear hK K;refine qC ?_;refine aD rfl rfl (λK hK=>?_);go_simp;refine hK _ _ ⟨G,G⟩ ?_;clear hK K;refine aJ ?_;have lG:=o (((jX.q.aZ 0 au (H I 3)).aZ 2 au (D ⟨[45].toArray⟩)).drew);have pO:=o (((lu.q.setOther tb 0 (H I 3) (by have:=HZ3.q;omega)).setOther tb 2 (D ⟨[45].toArray⟩) (by have:=HZ3.q;omega)).drew);have jv:=o (((fU.q.setCell (p:=⟨tb,0,A⟩) (by have:=HZ3.q;show _<=tb;omega) (H I 3)).setCell (p:=⟨tb,2,A⟩) (by have:=HZ3.q;show _<=tb;omega) (D ⟨[45].toArray⟩)).drew);generalize((w4.setCell ⟨tb,0,A⟩ (H I 3)).setCell ⟨tb,2,A⟩ (D ⟨[45].toArray⟩)).drew=Z at lG pO jv ⊢;clear hcy Aq lu jX fU;have hcz:=pO.q.1;have hfz:=pO.q.2.1;go_wp2_with fail;refine aC 99 [(0,0),(1,0),(2,0),(3,0),(4,0),(5,0),(6,2),(7,0),(8,0)] (λ_=>True) (λW'=>Bx W' tb (aG 3 0 [45] f)) av av (trivial) (lG.q.drew) ?_;refine qC ?_;refine aD rfl rfl (λK hK=>?_);go_simp;refine hK _ _ ⟨G,(((lG.q.drew.setOther w.1.size 0 _ (by have:=HZ3.q;omega)).setOther w.1.size 1 _ (by have:=HZ3.q;omega)).setOther w.1.size 2 _ (by have:=HZ3.q;omega)).setOther w.1.size 3 _ (by have:=HZ3.q;omega)⟩ ?_;clear hK K;refine qC ?_;refine aJ ?_;go_wp2_with fail;have hwq:IntKind.i64.wrap 1=1:=Go.IntWalk.i64_in 1 ah;refine bodyPost_ret (v:= .tuple #[.agg (aG 3 0 [45] f),H I 1,H I 0]) (by simp[results,results132,go_sem,hcz,hwq]) rfl ⟨3,0,[45],1,0,⟨f,rfl,?_⟩,by decide⟩;exact((((jv.q.drew).setCell (p:=⟨w.1.size,0,A⟩) (aA _) _).setCell (p:=⟨w.1.size,1,A⟩) (aA _) _).setCell (p:=⟨w.1.size,2,A⟩) (aA _) _).setCell (p:=⟨w.1.size,3,A⟩) (aA _) _
theorem Zr:∀args w,(callFunc 106 args).run L w= .ok (.enter 106 args) w:=enters_of func106 av rfl
theorem agk (b:UInt8)(h48:48<=b.toNat)(h57:b.toNat<=57)(w:P)(hT:N 5 6 w):Calls L 132 #[D ⟨[b].toArray⟩,H I 0] w (wH f w):=by
 have hi0:∀W,(Instr.index 9 (D ⟨#[b]⟩) (H I 0)).run L W= .ok (.int .u8 (b.toNat:U)) W:=λW=>jH Tryz.underlying9 [b] 0 b rfl W
 have kX:gq (b.toNat:U)=M:=by unfold gq;simp;omega
 have h1:iy ⟨[b].toArray⟩ gq=1:=by
  rw[lC [b] gq au,sQ b [] ah,ay]
  .rfl
  .rw[Nh b [] ah,kX];rfl
 have HW:=λW (hb:Below w.1.size w W)=>o (xJ ⟨[b].toArray⟩ 106 #[] Zr gq W (λr W' _=>nV r W') (J hT hb))
 rw[h1] at HW;have HD:=λW=>o (adA b h48 h57 W)
 have hex:ByteArray.extract ⟨#[b]⟩ 0 1=⟨#[b]⟩:=qG [b] 1;have hsl:∀W,(Instr.slice 9 (D ⟨#[b]⟩) (Q (H I 0)) A A).run L W= .ok (D ⟨#[b]⟩) W:=λW=>oD Tryz.underlying9 [b] 0 au W
 have HS:=λW (hb:Below w.1.size w W)=>o (sV [b] 0 [b] rfl au au W (J hT hb))
 have gB:=o (Gb (b:=b) (t:=[]) (O0 ah ah) ah);have e10:((b.toNat:U)==10)=f:=aR.2 ah;have e46:((b.toNat:U)==46)=f:=aR.2 ah;have e45:((b.toNat:U)==45)=f:=aR.2 ah;have hw32:wrap32 (b.toNat:U)=(b.toNat:U):=IntWalk.wrap32_in _ (by have:=b.toNat_lt;omega);have hempty:(([b]:Bs)==([]:Bs))=f:=rfl;clear h48 h57 h1 hT
 cases h0:((b.toNat:U)==48)
 all_goals
  go_enter func132,ntmps132;go_wp2_with fail;refine(HS _ (aB (C _ _) _)).q.mono ?_;rintro e w1 ⟨rfl,hb1⟩;have HB1:=o ((aB (C w.1.size w) (F (aG 0 0 [] f) 187)).trans (hb1.mono au));have bP:=o ((V w (aG 0 0 [] f) 187).keep hb1);clear hb1;rw[gB.q.1,gB.q.2];go_wp2_with fail;refine(nV _ _).mono ?_;rintro e w3 ⟨rfl,hb3⟩;rw[kX];have HB3:=o ((aB HB1.q (F (aG 0 0 [] f) 187)).trans (hb3.mono (by have:=HB1.q.size;simp;omega)));have eX:=o ((bP.q.alloc (F (aG 0 0 [] f) 187)).keep hb3);have jM:=o ((V w1 (aG 0 0 [] f) 187).keep hb3);have HZ3:=o (show w.1.size<w1.1.size from bP.q.2.2);clear hb3;go_wp2_with fail;refine(HW _ HB3.q).q.mono ?_;rintro e w5 ⟨rfl,hb5⟩;have jv:=o (HB3.q.bO hb5);have pO:=o (eX.q.keep hb5);have lG:=o (jM.q.keep hb5);clear hb5 HB3 eX jM;go_wp2_with fail;refine(HD _).q.mono ?_;rintro e w4 ⟨rfl,hb4⟩;have fU:=o (jv.q.bO hb4);have lu:=o (pO.q.keep hb4);have jX:=o (lG.q.keep hb4);clear hb4 jv pO lG HB1 bP;generalize w1.1.size=tb at jX HZ3 ⊢;have hcy:=jX.q.1;have Aq:=jX.q.2.1;go_wp2_with fail;refine aC 99 [(0,0),(1,0),(2,0),(3,0),(4,2),(5,0),(6,2)] (λ_=>True) (λ_=>True) av av (trivial) (trivial) ?_;refine qC ?_;refine aD rfl rfl (λK hK=>?_);go_simp;refine hK _ _ ⟨G,G⟩ ?_;clear hK K;refine qC ?_;refine aD rfl rfl (λK hK=>?_);go_simp;refine hK _ _ ⟨G,G⟩ ?_;clear hK K;refine aJ ?_;have lG:=o (((jX.q.aZ 0 au (H I 2)).aZ 2 au (D ⟨[b].toArray⟩)).drew);have pO:=o (((lu.q.setOther tb 0 (H I 2) (by have:=HZ3.q;omega)).setOther tb 2 (D ⟨[b].toArray⟩) (by have:=HZ3.q;omega)).drew);have jv:=o (((fU.q.setCell (p:=⟨tb,0,A⟩) (by have:=HZ3.q;show _<=tb;omega) (H I 2)).setCell (p:=⟨tb,2,A⟩) (by have:=HZ3.q;show _<=tb;omega) (D ⟨[b].toArray⟩)).drew);generalize((w4.setCell ⟨tb,0,A⟩ (H I 2)).setCell ⟨tb,2,A⟩ (D ⟨[b].toArray⟩)).drew=Z at lG pO jv ⊢;clear hcy Aq lu jX fU;have hcz:=pO.q.1;have hfz:=pO.q.2.1;go_wp2_with fail;refine aC 99 [(0,0),(1,0),(2,0),(3,0),(4,0),(5,0),(6,2),(7,0),(8,0)] (λ_=>True) (λW'=>Bx W' tb (aG 2 0 [b] f)) av av (trivial) (lG.q.drew) ?_;refine qC ?_;refine aD rfl rfl (λK hK=>?_);go_simp;refine hK _ _ ⟨G,(((lG.q.drew.setOther w.1.size 0 _ (by have:=HZ3.q;omega)).setOther w.1.size 1 _ (by have:=HZ3.q;omega)).setOther w.1.size 2 _ (by have:=HZ3.q;omega)).setOther w.1.size 3 _ (by have:=HZ3.q;omega)⟩ ?_;clear hK K;refine qC ?_;refine aJ ?_;go_wp2_with fail;have hwq:IntKind.i64.wrap 1=1:=Go.IntWalk.i64_in 1 ah;refine bodyPost_ret (v:= .tuple #[.agg (aG 2 0 [b] f),H I 1,H I 0]) (by simp[results,results132,go_sem,hcz,hwq]) rfl ⟨2,0,[b],1,0,⟨f,rfl,?_⟩,by decide⟩;exact((((jv.q.drew).setCell (p:=⟨w.1.size,0,A⟩) (aA _) _).setCell (p:=⟨w.1.size,1,A⟩) (aA _) _).setCell (p:=⟨w.1.size,2,A⟩) (aA _) _).setCell (p:=⟨w.1.size,3,A⟩) (aA _) _
theorem Zt (b:UInt8)(hb:b.toNat<128)(n32:b.toNat≠32)(n9:b.toNat≠9)(n10:b.toNat≠10)(n35:b.toNat≠35)(n46:b.toNat≠46)(n45:b.toNat≠45)(Zu:¬(48<=b.toNat/\b.toNat<=57))(agl:iQ (b.toNat:U)=f)
  (w:P) (hT:N 5 6 w):Calls L 132 #[D ⟨[b].toArray⟩,H I 0] w (wH f w):=by
 have gB:=o (Gb (t:=[]) (O0 n32 n9) n35);have HS:=λW (hb:Below w.1.size w W)=>o (sV [b] 0 [b] rfl au au W (J hT hb))
 have kX:gq (b.toNat:U)=f:=by unfold gq;simp;omega
 have h0:iy ⟨[b].toArray⟩ jY=0:=by
  rw[lC [b] jY au,sQ b [] hb,ak];rw[Nh b [] hb];simp only[jY,agl,kX];simp
 have HW:=λW (hb:Below w.1.size w W)=>o (xJ ⟨[b].toArray⟩ 108 #[] K8 jY W (λr W' _=>EC r W') (J hT hb))
 rw[h0] at HW;have hi0:∀W,(Instr.index 9 (D ⟨#[b]⟩) (H I 0)).run L W= .ok (.int .u8 (b.toNat:U)) W:=λW=>jH Tryz.underlying9 [b] 0 b rfl W
 have hex:ByteArray.extract ⟨#[b]⟩ 0 1=⟨#[b]⟩:=qG [b] 1;have hsl:∀W,(Instr.slice 9 (D ⟨#[b]⟩) (Q (H I 0)) A A).run L W= .ok (D ⟨#[b]⟩) W:=λW=>oD Tryz.underlying9 [b] 0 au W
 have e10:((b.toNat:U)==10)=f:=aR.2 ah;have e46:((b.toNat:U)==46)=f:=aR.2 ah;have e45:((b.toNat:U)==45)=f:=aR.2 ah;have hw32:wrap32 (b.toNat:U)=(b.toNat:U):=IntWalk.wrap32_in _ (by have:=b.toNat_lt;omega);have hempty:(([b]:Bs)==([]:Bs))=f:=rfl;clear hb n32 n9 n10 n35 n46 n45 Zu agl h0 hT;go_enter func132,ntmps132;go_wp2_with fail;refine(HS _ (aB (C _ _) _)).q.mono ?_;rintro e w1 ⟨rfl,hb1⟩;have HB1:=o ((aB (C w.1.size w) (F (aG 0 0 [] f) 187)).trans (hb1.mono au));have bP:=o ((V w (aG 0 0 [] f) 187).keep hb1);clear hb1;rw[gB.q.1,gB.q.2];go_wp2_with fail;refine(nV _ _).mono ?_;rintro e w3 ⟨rfl,hb3⟩;rw[kX];have HB3:=o ((aB HB1.q (F (aG 0 0 [] f) 187)).trans (hb3.mono (by have:=HB1.q.size;simp;omega)));have eX:=o ((bP.q.alloc (F (aG 0 0 [] f) 187)).keep hb3);clear hb3;go_wp2_with fail;refine(HW _ HB3.q).q.mono ?_;rintro e w4 ⟨rfl,hb4⟩;have fU:=o (HB3.q.bO hb4);have hx4:=eX.q.keep hb4;have hc4:=hx4.1;have hf4:=hx4.2.1;clear hb4 hx4;go_wp2_with fail;refine bodyPost_ret (v:= .tuple #[.agg (aG 0 0 [] f),H I 0,H I 120]) (by simp[results,results132,go_sem,hc4]) rfl ⟨0,0,[],0,120,⟨f,rfl,?_⟩,by decide⟩;exact(((fU.q.setCell (p:=⟨w.1.size,0,A⟩) (aA _) _).setCell (p:=⟨w.1.size,1,A⟩) (aA _) _).setCell (p:=⟨w.1.size,2,A⟩) (aA _) _).setCell (p:=⟨w.1.size,3,A⟩) (aA _) _
theorem WI (l1:Bs)(c:S)(hc:E ⟨l1.toArray⟩ 0=(c,l1.length))(hok:okB ⟨l1.toArray⟩ 0=M)(h1:1<=l1.length)(h4:l1.length<=4)(w:P)(hT:N 5 6 w):
  Calls L 132 #[D ⟨l1.toArray⟩,H I 0] w (wH (iQ (c:U)) w):=by
 have hne:l1≠[]:=by intro e;rw[e] at h1;simp at h1
 cases hl:iQ (c:U)
 .obtain⟨b,t,rfl⟩:∃b t,l1=b::t:=by cases l1 with
   |nil=>exact absurd rfl hne
   |cons b t=>exact⟨b,t,rfl⟩
  have hb:b.toNat<128:=by
   rcases jP b.toNat 128 with h|h
   .exact h
   .have:=(Dy b t h).1
    rw[hc] at this;simp[iQ] at hl;simp at this;omega
  rw[sQ b t hb] at hc;obtain⟨rfl,hlen⟩:b.toNat=c/\1=(b::t).length:=by injection hc with e1 e2;exact⟨e1,e2⟩
  obtain rfl:t=[]:=AA (by simp at hlen;simpa using hlen);by_cases k32:b.toNat=32
  .obtain rfl:b=32:=mV.1 k32;exact agd w hT
  by_cases k9:b.toNat=9
  .obtain rfl:b=9:=mV.1 k9;exact ajx w hT
  by_cases k10:b.toNat=10
  .obtain rfl:b=10:=mV.1 k10;exact agh w hT
  by_cases k35:b.toNat=35
  .obtain rfl:b=35:=mV.1 k35;exact agf w hT
  by_cases k46:b.toNat=46
  .obtain rfl:b=46:=mV.1 k46;exact agi w hT
  by_cases k45:b.toNat=45
  .obtain rfl:b=45:=mV.1 k45;exact agj w hT
  by_cases kn:48<=b.toNat/\b.toNat<=57
  .exact agk b kn.1 kn.2 w hT
  exact Zt b hb k32 k9 k10 k35 k46 k45 kn hl w hT
 .have hbg:dX l1=M:=by
   unfold dX;rw[hok,hc,show((c,l1.length):S × S).1=c from rfl,hl]
   cases l1 with
   |nil=>exact absurd rfl hne
   |cons b t=>rfl
  have hrun:dV l1=l1.length:=by
   unfold dV;rw[lC l1 jY hne,hok,hc];simp only[jY,hl];rw[ay au,List.drop_length]
   rfl
  have:=Sd l1 0 l1 rfl (aV _) ah hbg w hT;refine this.mono ?_;intro e w' h;rw[hrun,ak ah] at h;exact⟨1,_,_,_,0,h,by decide⟩
theorem Uj {R p:S}{s:Bs}{c:bB}{n:aP}(w:P)(h:dY w R s p [] c n):Calls L 176 #[.pointer (Q ⟨R,0,A⟩)] w (cK (.bool f) w):=by
 have hlim:=h.lim;have hle:=h.le;have hsl:=λW=>oD Tryz.underlying9 s p hle W
 rw[h.d] at hsl;have HH:=o h;clear h;go_enter func176,ntmps176;go_wp2_with fail;refine aC 10 [(0,0),(1,0),(2,0),(3,0),(4,0),(5,0),(6,0),(7,0),(8,0),(9,2)] (λ_=>True) (λW'=>W'.cell? ⟨R,0,A⟩=Q (D ⟨s.toArray⟩)/\W'.cell? ⟨R,1,A⟩=Q (H I p)) av av (trivial) (⟨HH.q.drew.c0,HH.q.drew.c1⟩) ?_;refine qC ?_;refine aD rfl rfl (λK hK=>?_);go_simp;refine hK _ _ ⟨G,?_,?_⟩ ?_
 .exact(HH.q.drew.below (jV _ _)).c0
 .exact(HH.q.drew.below (jV _ _)).c1
 clear hK K;refine aJ ?_;have hnx:∀ty,(Instr.next (.pointer (Q ⟨w.1.size,0,A⟩)) M ty).run L (w.drew.iter ⟨([]:Bs).toArray⟩ 0)=_:=λty=>Lib.run_next_end_at _ w.1.size ⟨([]:Bs).toArray⟩ 0 ty (World.iter_heap w.drew _ 0) aj
 go_wp2_with fail
 go_loopw [] (λwr=>wr=w.drew.iter ⟨([]:Bs).toArray⟩ 0) (λ_=>0)
 case atStart=>rfl
 case round=>
  subst hrel;go_wp2_with fail;go_ret;exact⟨rfl,(C w.1.size w).drew.trans (jV w.drew ⟨([]:Bs).toArray⟩)⟩
theorem Ku {R p:S}{s:Bs}{b:UInt8}{t:Bs}{c:bB}{n:aP}(w:P)(h:dY w R s p (b::t) c n)(rn d:S)(hrd:E ⟨(b::t).toArray⟩ 0=(rn,d))(u:Bs)(henc:Utf8.encode (rn:U)=⟨u.toArray⟩)(x hp:Bool)
  (HN:∀W,Below w.1.size w W->Calls L 132 #[D ⟨u.toArray⟩,H I 0] W (wH x W)) (HP:∀W,Calls L 188 #[D ⟨(b::t).toArray⟩,D ⟨u.toArray⟩] W (λe w'=>e= .returned (.bool hp)/\w'=W)):
  Calls L 176 #[.pointer (Q ⟨R,0,A⟩)] w (cK (.bool (x && hp)) w):=by
 have hlim:=h.lim;have hle:=h.le;have hsl:=λW=>oD Tryz.underlying9 s p hle W
 rw[h.d] at hsl;have HH:=o h;have HN':=o HN;have HP':=o HP;have yO:=o hrd;clear h HN HP;have hsz0:w.drew.1.size=w.1.size:=rfl;go_enter func176,ntmps176;go_wp2_with fail;refine aC 10 [(0,0),(1,0),(2,0),(3,0),(4,0),(5,0),(6,0),(7,0),(8,0),(9,2)] (λ_=>True) (λW'=>W'.cell? ⟨R,0,A⟩=Q (D ⟨s.toArray⟩)/\W'.cell? ⟨R,1,A⟩=Q (H I p)) av av (trivial) (⟨HH.q.drew.c0,HH.q.drew.c1⟩) ?_;refine qC ?_;refine aD rfl rfl (λK hK=>?_);go_simp;refine hK _ _ ⟨G,?_,?_⟩ ?_
 .exact(HH.q.drew.below (jV _ _)).c0
 .exact(HH.q.drew.below (jV _ _)).c1
 clear hK K;refine aJ ?_;have hnx:∀ty,(Instr.next (.pointer (Q ⟨w.1.size,0,A⟩)) M ty).run L (w.drew.iter ⟨(b::t).toArray⟩ 0)=_:=λty=>Lib.run_next_any_at _ w.1.size ⟨(b::t).toArray⟩ 0 ty (World.iter_heap w.drew _ 0) (by rw[iM];simp)
 rw[hrd] at hnx;have hbw:Below w.1.size w (w.drew.iter ⟨(b::t).toArray⟩ 0):=(C w.1.size w).drew.trans (jV w.drew _);have hbz:=Lib.below_iterAt hbw (k:=w.1.size) (aA _) ⟨(b::t).toArray⟩ (0+d);have iO:=o hbz;have HZ:=o (HH.q.below hbz);clear hbz hrd hbw;go_wp2_with fail
 go_loopw [] (λwr=>wr=w.drew.iter ⟨(b::t).toArray⟩ 0) (λ_=>0)
 case atStart=>rfl
 case round=>
  subst hrel;revert hnx iO HZ;generalize((w.drew.iter ⟨(b::t).toArray⟩ 0).iterAt w.1.size ⟨(b::t).toArray⟩ (0+d))=Z;intro hnx iO HZ;go_wp2_with fail;refine(HN'.q Z iO.q).mono ?_;rintro e w2 ⟨k,a,tt,nx,er,⟨g,rfl,hb2⟩,iN⟩;have HB2:=o (iO.q.bO hb2);have hz2:=HZ.q.below hb2;have H2:=o (hz2.below (aB (C _ _) (F (aG k a tt g) 187)));have hct:=(V w2 (aG k a tt g) 187).1;have c0:=H2.q.c0;have c1:=H2.q.c1;clear hb2 hz2 hnx
  cases her:(er==0)
  .have HX:Hid (x=f):=o (by rw[<-iN,her];rfl)
   clear iN
   go_wp2_with (go_quiet (fail))
   go_ret;exact⟨by rw[HX.q];rfl,fA (aB HB2.q _) _⟩
  .cases hek:(k==1)
   .have HX:Hid (x=f):=o (by rw[<-iN,her,hek];rfl)
    clear iN
    go_wp2_with (go_quiet (fail))
    go_ret;exact⟨by rw[HX.q];rfl,fA (aB HB2.q _) _⟩
   .have HX:Hid (x=M):=o (by rw[<-iN,her,hek];rfl)
    clear iN
    go_wp2_with (go_quiet (exact(HP'.q _).mono (λe w'' h=>⟨h.1,_,h.2⟩)))
    go_ret;exact⟨by rw[HX.q];rfl,fA (aB HB2.q _) _⟩
theorem QI (l:Bs)(k:S):Lib.hasPrefix l (l.take k)=M:=by
 unfold Lib.hasPrefix;rw[List.isPrefixOf_iff_prefix];exact List.take_prefix _ _
theorem LU {R p:S}{s l:Bs}{c:bB}{n:aP}(w:P)(h:dY w R s p l c n)(hT:N 5 6 w):Calls L 176 #[.pointer (Q ⟨R,0,A⟩)] w (cK (.bool (dX l)) w):=by
 cases l with
 |nil=>exact Uj w h
 |cons b t=>
  obtain⟨rn,hrn⟩:∃rn,rn=(E ⟨(b::t).toArray⟩ 0).1:=⟨_,rfl⟩;obtain⟨d,hd⟩:∃d,d=(E ⟨(b::t).toArray⟩ 0).2:=⟨_,rfl⟩;have hrd:E ⟨(b::t).toArray⟩ 0=(rn,d):=by rw[hrn,hd]
  have hdl:d<=(b::t).length:=by rw[hd];exact Bz _ au
  have hd1:1<=d:=by rw[hd];exact Cy _ au
  have hB:dX (b::t)=(okB ⟨(b::t).toArray⟩ 0 && iQ (rn:U)):=by
   unfold dX;rw[<-hrn];rfl
  rw[hB]
  cases hok:okB ⟨(b::t).toArray⟩ 0
  .have hbad:rn=65533/\¬d=3:=by
    unfold okB at hok;rw[<-hrn,<-hd] at hok;simp at hok;omega
   have hpre:Lib.hasPrefix (b::t) [239,191,189]=f:=by
    cases hpx:Lib.hasPrefix (b::t) [239,191,189]
    .rfl
    .exfalso
     unfold Lib.hasPrefix at hpx;rw[List.isPrefixOf_iff_prefix] at hpx;obtain⟨r,hr⟩:=hpx;have h3:3<=ByteArray.size ⟨(b::t).toArray⟩:=by rw[iM,<-hr];simp
     have:=(Zv ⟨(b::t).toArray⟩ h3 (by rw[<-hrn];exact hbad.1)).2 (by rw[<-hr,qG];rfl);exact hbad.2 (by rw[hd];exact this)
   have:=Ku w h rn d hrd [239,191,189] (by rw[hbad.1];rfl) M f
    (λW hb=>WI [239,191,189] 65533 aj aj aj aj W (J hT hb))
    (λW=>by
     have:=Tryz.strings_HasPrefix ⟨(b::t).toArray⟩ ⟨([239,191,189]:Bs).toArray⟩ W;rw[show Lib.hasPrefix (⟨(b::t).toArray⟩:ByteArray).data.toList (⟨([239,191,189]:Bs).toArray⟩:ByteArray).data.toList=f from hpre] at this;exact this)
   exact this
  .obtain⟨f1',f2,f3⟩:=Uk (b::t) au hok
   rw[<-hrn,<-hd] at f1';rw[<-hd,hrd] at f2;have hlen:((b::t).take d).length=d:=by rw[dN];omega
   have hok2:okB ⟨((b::t).take d).toArray⟩ 0=M:=by
    unfold okB at hok ⊢;rw[f2];rw[hrd] at hok;exact hok
   have:=Ku w h rn d hrd ((b::t).take d) f1' (iQ (rn:U)) M
    (λW hb=>WI ((b::t).take d) rn (by rw[f2,hlen]) hok2 ah (by rw[hlen,hd];exact f3) W (J hT hb))
    (λW=>by
     have:=Tryz.strings_HasPrefix ⟨(b::t).toArray⟩ ⟨((b::t).take d).toArray⟩ W;rw[show Lib.hasPrefix (⟨(b::t).toArray⟩:ByteArray).data.toList (⟨((b::t).take d).toArray⟩:ByteArray).data.toList=M from QI (b::t) d] at this;exact this)
   rw[Bool.and_true] at this;rw[Bool.true_and];exact this
theorem dY.apart {w:P}{R p:S}{s l:Bs}{c:bB}{n:aP}(h:dY w R s p l c n)(b:S)(hb:nY R c b)(k a:U)(t:Bs)(g:Bool):
  dY ((((w.setCell ⟨b,0,A⟩ (H I k)).setCell ⟨b,1,A⟩ (H I a)).setCell ⟨b,2,A⟩ (D ⟨t.toArray⟩)).setCell ⟨b,3,A⟩ (.bool g)) R s p l c n:=by
 have hs:∀{w:P}(h:dY w R s p l c n)(i:S)(v:Value),dY (w.setCell ⟨b,i,A⟩ v) R s p l c n:=fun {w} h i v=>
  ⟨h.x.setOther b i v (Ne.symm hb.1),⟨h.n.1,h.n.2.1.block λg hg=>T _ _ _ _ (by rintro rfl;exact hb.2.1 hg),h.n.2.2.block λg hg=>T _ _ _ _ (by rintro rfl;exact hb.2.2 hg)⟩,h.d,h.le,h.lim⟩
 exact hs (hs (hs (hs h 0 _) 1 _) 2 _) 3 _
theorem Hl {R p:S}{s l:Bs}{c:bB}{n:aP}(w:P)(h:dY w R s p l c n)(hT:N 5 6 w):
  Calls L 172 #[.pointer (Q ⟨R,0,A⟩)] w (nT R s c n w (λm:Bs=> D ⟨m.toArray⟩) (dB l)):=by
 obtain⟨X,hX⟩:∃X,X=dB l:=⟨_,rfl⟩;rw[<-hX];have HX:=o hX;have hlen:=h.len;have hlim:=h.lim;have hle:=h.le;have HE:=o (Hg w h);have FW:=λW (hb:Below w.1.size w W)=>o (LU W (h.below hb) (J hT hb))
 have HH:=o h;clear hX h;by_cases hb:jf l=f/\dX l=M
 .obtain⟨he,hg⟩:=hb
  have Mh:=λW (hb:Below w.1.size w W)=>Sd s p l HH.q.d hle hlim hg W (J hT hb)
  have hrl:dV l<=l.length:=uz _ _ _ (aA _);by_cases wB:24<dV l
  .simp only[ay wB] at Mh
   have Zw:=O1 (l.take (dV l));obtain⟨q,hq⟩:∃q,q=p+vC (l.take (dV l)):=⟨_,rfl⟩;rw[<-hq] at Mh;have HL:=o Mh;have tX:Hid (dB l= .error (l.drop (vC (l.take (dV l))),220)):=o (by unfold dB;rw[ak (by rw[he,hg];decide),ay wB]);have HQ:Hid (s.length - (l.drop (vC (l.take (dV l)))).length=q):=o (by rw[kz];omega);rw[he] at HE;have HG:=o hg;clear Mh he hg wB Zw hq hT hrl;go_enter func172,ntmps172;go_wp2_with fail;refine HE.q.mono ?_;rintro e w1 ⟨rfl,hb1⟩;have HB1:=o hb1;clear hb1;go_wp2_with fail;refine(FW _ HB1.q).q.mono ?_;rintro e w2 ⟨rfl,hb2⟩;rw[HG.q];have HB2:=o (HB1.q.bO hb2);have eY:=o (HH.q.below HB2.q);have FT:=o (eY.q.new (aA _));have c0:=eY.q.c0;have c1:=eY.q.c1;have z1:=f1 eY.q 1;clear hb2;go_wp2_with fail;refine ou 99 (.q 0 0 (.q 1 0 (.q 2 0 (.q 3 0 (.q 4 0 (.q 5 0 (.q 6 0 (.q 7 0 (.alt 8 (.q 9 0 (.q 10 0 (.q 11 0 (.q 12 0 (.l 13 (.l 14 (.q 15 0 (.q 16 0 .nil)))))))) 13 (.l 8 (.q 9 0 (.q 10 0 (.q 11 0 (.q 12 0 (.l 14 (.q 15 0 (.q 16 0 .nil))))))))))))))))) (λ_=>True) (λW'=>W'.cell? ⟨R,0,A⟩=Q (D ⟨s.toArray⟩)/\W'.cell? ⟨R,1,A⟩=Q (H I p)) av av G ⟨eY.q.drew.c0,eY.q.drew.c1⟩ ?_;refine qC ?_;refine⟨?_,?_⟩
   .refine dS rfl rfl (λK hK=>?_)
    go_simp;refine(HL.q _ HB2.q.drew).mono ?_;rintro e w4 ⟨g,rfl,hb4⟩;have hc4:=eY.q.drew.below hb4;have gM:=o hc4;have fU:=o (HB2.q.drew.trans (hb4.mono HB2.q.size));refine hK _ _ ⟨G,hc4.c0,hc4.c1⟩ ?_;clear hK K hb4 hc4 c0 c1 z1;refine qC ?_;refine aD rfl rfl (λK hK=>?_);go_simp;refine hK _ _ ⟨G,(gM.q.below (aB (C _ _) _)).c0,(gM.q.below (aB (C _ _) _)).c1⟩ ?_;clear hK K;refine aD rfl rfl (λK hK=>?_);go_simp;refine hK _ _ ⟨G,(gM.q.below (aB (C _ _) _)).c0,(gM.q.below (aB (C _ _) _)).c1⟩ ?_;clear hK K;refine qC ?_;have jb:=o (gM.q.below (aB (C w4.1.size w4) (F (aG 0 0 [] g) 187)));have jv:=o (aB fU.q (F (aG 0 0 [] g) 187));have lG:=o (V w4 (aG 0 0 [] g) 187);have jG:Hid (w4.1.size≠R):=o (by have:=gM.q.x.2.2;omega);refine aJ ?_;have c0:=jb.q.c0;have c1:=jb.q.c1;have z1:=f1 jb.q 1;have hty:=lG.q.1;have Cq:=o (Mv.of_below (R:=R) (c:=c) jv.q);go_wp2_with fail;refine(mJ q 220 _).mono ?_;rintro e w6 ⟨rfl,rfl⟩;refine⟨rfl,?_⟩;show nT R s c n w _ _ _ _;rw[HX.q,tX.q];exact⟨by rw[HQ.q],Cq.q.same⟩
   .refine dS rfl rfl (λK hK=>?_)
    go_simp;refine hK _ _ ⟨G,(eY.q.drew.below (aB (C _ _) _)).c0,(eY.q.drew.below (aB (C _ _) _)).c1⟩ ?_;clear hK K;refine aD rfl rfl (λK hK=>?_);go_simp;refine(HL.q _ (aB HB2.q.drew (F (aG 0 0 [] f) 187))).mono ?_;rintro e w4 ⟨g,rfl,hb4⟩;have hc4:=(eY.q.drew.below (aB (C _ _) (F (aG 0 0 [] f) 187))).below hb4;have gM:=o hc4;have fU:=o ((aB HB2.q.drew (F (aG 0 0 [] f) 187)).trans (hb4.mono (aB HB2.q.drew (F (aG 0 0 [] f) 187)).size));have hy4:Bx w4 w2.1.size (aG 0 0 [] f):=(V w2.drew (aG 0 0 [] f) 187).keep hb4;have jX:=o hy4;have jG:Hid (w2.1.size≠R):=o (by have:=eY.q.x.2.2;omega);have Kv:Hid (w.1.size<=w2.1.size):=o HB2.q.size;refine hK _ _ ⟨G,hc4.c0,hc4.c1⟩ ?_;clear hK K hb4 hc4 c0 c1 z1 hy4;have hcy:=jX.q.1;have Aq:=jX.q.2.1;refine qC ?_;refine aD rfl rfl (λK hK=>?_);go_simp;refine hK _ _ ⟨G,((((gM.q.x.other (p:=⟨w2.1.size,0,A⟩) jG.q.symm _).other (p:=⟨w2.1.size,1,A⟩) jG.q.symm _).other (p:=⟨w2.1.size,2,A⟩) jG.q.symm _).other (p:=⟨w2.1.size,3,A⟩) jG.q.symm _).1 0,((((gM.q.x.other (p:=⟨w2.1.size,0,A⟩) jG.q.symm _).other (p:=⟨w2.1.size,1,A⟩) jG.q.symm _).other (p:=⟨w2.1.size,2,A⟩) jG.q.symm _).other (p:=⟨w2.1.size,3,A⟩) jG.q.symm _).1 1⟩ ?_;clear hK K hcy Aq;refine qC ?_;have jb:=o (gM.q.apart w2.1.size FT.q 0 0 [] g);have jv:=o ((((fU.q.setCell (p:=⟨w2.1.size,0,A⟩) Kv.q (H I 0)).setCell (p:=⟨w2.1.size,1,A⟩) Kv.q (H I 0)).setCell (p:=⟨w2.1.size,2,A⟩) Kv.q (D ⟨[].toArray⟩)).setCell (p:=⟨w2.1.size,3,A⟩) Kv.q (.bool g));have lG:=o ((((jX.q.aZ 0 au (H I 0)).aZ 1 au (H I 0)).aZ 2 au (D ⟨[].toArray⟩)).aZ 3 au (.bool g));refine aJ ?_;have c0:=jb.q.c0;have c1:=jb.q.c1;have z1:=f1 jb.q 1;have hty:=lG.q.1;have Cq:=o (Mv.of_below (R:=R) (c:=c) jv.q);go_wp2_with fail;refine(mJ q 220 _).mono ?_;rintro e w6 ⟨rfl,rfl⟩;refine⟨rfl,?_⟩;show nT R s c n w _ _ _ _;rw[HX.q,tX.q];exact⟨by rw[HQ.q],Cq.q.same⟩
  .simp only[ak wB] at Mh
   obtain⟨q,hq⟩:∃q,q=p+dV l:=⟨_,rfl⟩;rw[<-hq] at Mh;have HL:=o Mh;have tX:Hid (dB l= .ok (l.take (dV l),l.drop (dV l))):=o (by unfold dB;rw[ak (by rw[he,hg];decide),ak wB]);have HQ:=o hq;have uF:=o hrl;rw[he] at HE;have HG:=o hg;clear Mh he hg wB hq hT hrl;go_enter func172,ntmps172;go_wp2_with fail;refine HE.q.mono ?_;rintro e w1 ⟨rfl,hb1⟩;have HB1:=o hb1;clear hb1;go_wp2_with fail;refine(FW _ HB1.q).q.mono ?_;rintro e w2 ⟨rfl,hb2⟩;rw[HG.q];have HB2:=o (HB1.q.bO hb2);have eY:=o (HH.q.below HB2.q);have FT:=o (eY.q.new (aA _));have c0:=eY.q.c0;have c1:=eY.q.c1;have z1:=f1 eY.q 1;clear hb2;go_wp2_with fail;refine ou 99 (.q 0 0 (.q 1 0 (.q 2 0 (.q 3 0 (.q 4 0 (.q 5 0 (.q 6 0 (.q 7 0 (.alt 8 (.q 9 0 (.q 10 0 (.q 11 0 (.q 12 0 (.l 13 (.l 14 (.q 15 0 (.q 16 0 .nil)))))))) 13 (.l 8 (.q 9 0 (.q 10 0 (.q 11 0 (.q 12 0 (.l 14 (.q 15 0 (.q 16 0 .nil))))))))))))))))) (λ_=>True) (λW'=>W'.cell? ⟨R,0,A⟩=Q (D ⟨s.toArray⟩)/\W'.cell? ⟨R,1,A⟩=Q (H I p)) av av G ⟨eY.q.drew.c0,eY.q.drew.c1⟩ ?_;refine qC ?_;refine⟨?_,?_⟩
   .refine dS rfl rfl (λK hK=>?_)
    go_simp;refine(HL.q _ HB2.q.drew).mono ?_;rintro e w4 ⟨g,rfl,hb4⟩;have hc4:=eY.q.drew.below hb4;have gM:=o hc4;have fU:=o (HB2.q.drew.trans (hb4.mono HB2.q.size));refine hK _ _ ⟨G,hc4.c0,hc4.c1⟩ ?_;clear hK K hb4 hc4 c0 c1 z1;refine qC ?_;refine aD rfl rfl (λK hK=>?_);go_simp;refine hK _ _ ⟨G,(gM.q.below (aB (C _ _) _)).c0,(gM.q.below (aB (C _ _) _)).c1⟩ ?_;clear hK K;refine aD rfl rfl (λK hK=>?_);go_simp;refine hK _ _ ⟨G,(gM.q.below (aB (C _ _) _)).c0,(gM.q.below (aB (C _ _) _)).c1⟩ ?_;clear hK K;refine qC ?_;have jb:=o (gM.q.below (aB (C w4.1.size w4) (F (aG 1 p (l.take (dV l)) g) 187)));have jv:=o (aB fU.q (F (aG 1 p (l.take (dV l)) g) 187));have lG:=o (V w4 (aG 1 p (l.take (dV l)) g) 187);have jG:Hid (w4.1.size≠R):=o (by have:=gM.q.x.2.2;omega);refine aJ ?_;have c0:=jb.q.c0;have c1:=jb.q.c1;have z1:=f1 jb.q 1;have hty:=lG.q.1;have Cq:=o (Mv.of_below (R:=R) (c:=c) jv.q);have ht:=jb.q.to (dV l) rfl uF.q q HQ.q;have HT2:=o ht.1;have ng:=o (Cq.q.trans ht.2);have qb:=o (lG.q.setOther R 1 (H I (q:U)) jG.q);have anU:=qb.q.1;clear ht;go_wp2_with fail;go_ret;show nT R s c n w _ _ _ _;rw[HX.q,tX.q];exact⟨rfl,q,HT2.q,ng.q⟩
   .refine dS rfl rfl (λK hK=>?_)
    go_simp;refine hK _ _ ⟨G,(eY.q.drew.below (aB (C _ _) _)).c0,(eY.q.drew.below (aB (C _ _) _)).c1⟩ ?_;clear hK K;refine aD rfl rfl (λK hK=>?_);go_simp;refine(HL.q _ (aB HB2.q.drew (F (aG 0 0 [] f) 187))).mono ?_;rintro e w4 ⟨g,rfl,hb4⟩;have hc4:=(eY.q.drew.below (aB (C _ _) (F (aG 0 0 [] f) 187))).below hb4;have gM:=o hc4;have fU:=o ((aB HB2.q.drew (F (aG 0 0 [] f) 187)).trans (hb4.mono (aB HB2.q.drew (F (aG 0 0 [] f) 187)).size));have hy4:Bx w4 w2.1.size (aG 0 0 [] f):=(V w2.drew (aG 0 0 [] f) 187).keep hb4;have jX:=o hy4;have jG:Hid (w2.1.size≠R):=o (by have:=eY.q.x.2.2;omega);have Kv:Hid (w.1.size<=w2.1.size):=o HB2.q.size;refine hK _ _ ⟨G,hc4.c0,hc4.c1⟩ ?_;clear hK K hb4 hc4 c0 c1 z1 hy4;have hcy:=jX.q.1;have Aq:=jX.q.2.1;refine qC ?_;refine aD rfl rfl (λK hK=>?_);go_simp;refine hK _ _ ⟨G,((((gM.q.x.other (p:=⟨w2.1.size,0,A⟩) jG.q.symm _).other (p:=⟨w2.1.size,1,A⟩) jG.q.symm _).other (p:=⟨w2.1.size,2,A⟩) jG.q.symm _).other (p:=⟨w2.1.size,3,A⟩) jG.q.symm _).1 0,((((gM.q.x.other (p:=⟨w2.1.size,0,A⟩) jG.q.symm _).other (p:=⟨w2.1.size,1,A⟩) jG.q.symm _).other (p:=⟨w2.1.size,2,A⟩) jG.q.symm _).other (p:=⟨w2.1.size,3,A⟩) jG.q.symm _).1 1⟩ ?_;clear hK K hcy Aq;refine qC ?_;have jb:=o (gM.q.apart w2.1.size FT.q 1 p (l.take (dV l)) g);have jv:=o ((((fU.q.setCell (p:=⟨w2.1.size,0,A⟩) Kv.q (H I 1)).setCell (p:=⟨w2.1.size,1,A⟩) Kv.q (H I p)).setCell (p:=⟨w2.1.size,2,A⟩) Kv.q (D ⟨(l.take (dV l)).toArray⟩)).setCell (p:=⟨w2.1.size,3,A⟩) Kv.q (.bool g));have lG:=o ((((jX.q.aZ 0 au (H I 1)).aZ 1 au (H I p)).aZ 2 au (D ⟨(l.take (dV l)).toArray⟩)).aZ 3 au (.bool g));refine aJ ?_;have c0:=jb.q.c0;have c1:=jb.q.c1;have z1:=f1 jb.q 1;have hty:=lG.q.1;have Cq:=o (Mv.of_below (R:=R) (c:=c) jv.q);have ht:=jb.q.to (dV l) rfl uF.q q HQ.q;have HT2:=o ht.1;have ng:=o (Cq.q.trans ht.2);have qb:=o (lG.q.setOther R 1 (H I (q:U)) jG.q);have anU:=qb.q.1;clear ht;go_wp2_with fail;go_ret;show nT R s c n w _ _ _ _;rw[HX.q,tX.q];exact⟨rfl,q,HT2.q,ng.q⟩
 .have tX:Hid (dB l= .error (l,220)):=o (by
   unfold dB;rw[ay]
   .cases h1:jf l
    .cases h2:dX l
     .rfl
     .exact absurd ⟨h1,h2⟩ hb
    .rfl)
  have HN:=o hb;have HQ:Hid (s.length - l.length=p):=o ah;clear hb hT;go_enter func172,ntmps172;go_wp2_with fail;refine HE.q.mono ?_;rintro e w1 ⟨rfl,hb1⟩;have HB1:=o hb1;have c1:=(HH.q.below hb1).c1;clear hb1
  cases he:jf l
  .go_wp2_with fail
   refine(FW _ HB1.q).q.mono ?_;rintro e w2 ⟨rfl,hb2⟩;rw[show dX l=f by cases h2:dX l;rfl;exact absurd ⟨he,h2⟩ HN.q];have HB2:=o (HB1.q.bO hb2);have c1:=(HH.q.below HB2.q).c1;clear hb2;go_wp2_with fail;refine(mJ p 220 _).mono ?_;rintro e w6 ⟨rfl,rfl⟩;refine⟨rfl,?_⟩;show nT R s c n w _ _ _ _;rw[HX.q,tX.q];exact⟨by rw[HQ.q],Same.of_below HB2.q (λ_ _ h=>h)⟩
  .go_wp2_with fail
   refine(mJ p 220 _).mono ?_;rintro e w6 ⟨rfl,rfl⟩;refine⟨rfl,?_⟩;show nT R s c n w _ _ _ _;rw[HX.q,tX.q];exact⟨by rw[HQ.q],Same.of_below HB1.q (λ_ _ h=>h)⟩
@[reducible] def addN (n:aP)(m:Bs):aP:={n with names:=n.names++[m]}
@[reducible] def abX (c:bB)(a:Option Addr)(k cc:S):bB:={c with na:=a,nn:=k,nc:=cc}
theorem dY.c3 {w:P}{R p:S}{s l:Bs}{c:bB}{n:aP}(h:dY w R s p l c n):w.cell? ⟨R,3,A⟩=Q (.slice c.na c.nn c.nc):=h.x.1 3
theorem dY.c5 {w:P}{R p:S}{s l:Bs}{c:bB}{n:aP}(h:dY w R s p l c n):w.cell? ⟨R,5,A⟩=Q (.slice c.va c.vn c.vc):=h.x.1 5
theorem dY.addN {w X Y:P}{R p:S}{s l m:Bs}{c:bB}{n:aP}(h:dY w R s p l c n)(hX:Below w.1.size w X)(a':Option Addr)(c':S)
  (hown:Own Y (R+1) 9 1 encStr (.slice a' (c.nn+1) c') (n.names++[m])) (hg:X.grownBy Y (O c.na c.nn c.nc).ownBlock)
  (hat:(O a' (c.nn+1) c').ownBlock=(O c.na c.nn c.nc).ownBlock\/(O a' (c.nn+1) c').ownBlock=Q X.1.size):
  dY (Y.setCell ⟨R,3,A⟩ (.slice a' (c.nn+1) c')) R s p l (abX c a' (c.nn+1) c') (addN n m)/\Mv R c (abX c a' (c.nn+1) c') w (Y.setCell ⟨R,3,A⟩ (.slice a' (c.nn+1) c')):=by
 have OJ:=h.x.2.2;have hsz:=hX.size;have hn1:(O c.na c.nn c.nc).ownBlock≠Q R:=h.n.2.1.far' (.inl ah);have hap:=h.n.2.2.apart h.n.2.1 aj;have hxX:=h.x.keep hX;have hxY:Bx Y R (sZ s p c):=hxX.grown hg hn1;have hv:Own Y (R+1) 52 2 pE (.slice c.va c.vn c.vc) n.aF:=(h.n.2.2.below hX rfl).grown hg (λg hg=>hap g hg);obtain⟨⟨e1,e2,e3,e4,e5,e6⟩,_,_⟩:=h.n;have hXY:Same (nY R c) X Y:=⟨hg.os,hg.tape,hg.output,hg.size,λi hi hl=>hg.block i hl (λe=>hi.2.1 e.symm)⟩;refine⟨⟨?_,⟨⟨e1,e2,e3,e4,by simp[e5],e6⟩,?_,?_⟩,h.d,h.le,h.lim⟩,((Same.of_below hX (λ_ _ h=>h)).tr hXY).tr (Same.setCell _ _ _ _ (λe=>e.1 rfl)),?_,λ_ h=> .inl h⟩
 .exact hxY.aZ 3 au _
 .exact hown.block λg hg=>T _ _ _ _ (by have:=(hown.lt g hg).1;simp;omega)
 .exact hv.block λg hg=>T _ _ _ _ (by have:=(hv.lt g hg).1;simp;omega)
 .intro g hgg
  rcases hat with e|e
  .exact .inl (e▸hgg)
  .right
   have:Q g=Q X.1.size:=hgg.symm.trans e;injection this with this;omega
@[reducible] def El (n:aP)(v:To):aP:={n with aF:=n.aF++[v]}
@[reducible] def abY (c:bB)(a:Option Addr)(k cc:S):bB:={c with va:=a,vn:=k,vc:=cc}
theorem dY.El {w X Y:P}{R p:S}{s l:Bs}{v:To}{c:bB}{n:aP}(h:dY w R s p l c n)(hX:Below w.1.size w X)(a':Option Addr)(c':S)
  (hown:Own Y (R+1) 52 2 pE (.slice a' (c.vn+1) c') (n.aF++[v])) (hg:X.grownBy Y (O c.va c.vn c.vc).ownBlock)
  (hat:(O a' (c.vn+1) c').ownBlock=(O c.va c.vn c.vc).ownBlock\/(O a' (c.vn+1) c').ownBlock=Q X.1.size):
  dY (Y.setCell ⟨R,5,A⟩ (.slice a' (c.vn+1) c')) R s p l (abY c a' (c.vn+1) c') (El n v)/\Mv R c (abY c a' (c.vn+1) c') w (Y.setCell ⟨R,5,A⟩ (.slice a' (c.vn+1) c')):=by
 have OJ:=h.x.2.2;have hsz:=hX.size;have hn1:(O c.va c.vn c.vc).ownBlock≠Q R:=h.n.2.2.far' (.inl ah);have hap:=h.n.2.1.apart h.n.2.2 aj;have hxX:=h.x.keep hX;have hxY:Bx Y R (sZ s p c):=hxX.grown hg hn1;have hv:Own Y (R+1) 9 1 encStr (.slice c.na c.nn c.nc) n.names:=(h.n.2.1.below hX rfl).grown hg (λg hg=>hap g hg);obtain⟨⟨e1,e2,e3,e4,e5,e6⟩,_,_⟩:=h.n;have hXY:Same (nY R c) X Y:=⟨hg.os,hg.tape,hg.output,hg.size,λi hi hl=>hg.block i hl (λe=>hi.2.2 e.symm)⟩;refine⟨⟨?_,⟨⟨e1,e2,e3,e4,e5,by simp[e6]⟩,?_,?_⟩,h.d,h.le,h.lim⟩,((Same.of_below hX (λ_ _ h=>h)).tr hXY).tr (Same.setCell _ _ _ _ (λe=>e.1 rfl)),λ_ h=> .inl h,?_⟩
 .exact hxY.aZ 5 au _
 .exact hv.block λg hg=>T _ _ _ _ (by have:=(hv.lt g hg).1;simp;omega)
 .exact hown.block λg hg=>T _ _ _ _ (by have:=(hown.lt g hg).1;simp;omega)
 .intro g hgg
  rcases hat with e|e
  .exact .inl (e▸hgg)
  .right
   have:Q g=Q X.1.size:=hgg.symm.trans e;injection this with this;omega
theorem QF {R p:S}{s l:Bs}{c:bB}{n:aP}(w:P)(h:dY w R s p l c n)(hT:N 5 6 w)(hl:n.names.length<=1000):
  Calls L 151 #[.pointer (Q ⟨R,0,A⟩)] w (dJ R s c w (λ_:Unit=> .tuple #[]) (match dB l with| .error x=> .error x| .ok (m,r)=> .ok ((),addN n m,r))):=by
 obtain⟨X,hX⟩:∃X:Except Er (Unit × aP × Bs),X=(match dB l with| .error x=> .error x| .ok (m,r)=> .ok ((),addN n m,r)):=⟨_,rfl⟩;rw[<-hX];have RES:Hid (∀ch w',(∃(r:Bs)(m:U),dB l= .error (r,m)/\ch=oH (s.length - r.length) m/\Same (nY R c) w.drew w')->dJ R s c w (λ_:Unit=> .tuple #[]) X (.panicked ch) w'):=o (by
  rintro ch w' ⟨r,m,h1,rfl,h2⟩;rw[hX,h1];exact⟨rfl,h2.os,h2.tape,h2.output,h2.size,h2.block⟩)
 have HX:=o hX;clear hX;have uE:=o (λW (hb:Below w.1.size w W)=>Hl W (h.below hb) (J hT hb));obtain⟨i,z,hi⟩:=uw;have HI:=o hi;have HH:=o h;have HB0:Hid (Below w.1.size w w.drew):=o ((C _ _).drew);have lU:Hid ((O c.na c.nn c.nc).ownBlock≠Q R):=o (h.n.2.1.far' (.inl ah));have hcn:=h.n.1.2.2.2.2.1;have jW:Hid (n.names.length+1=c.nn+1):=o ah;have fT:Hid ((c.nn+1)*16<=140737488355328):=o ah;have lV:Hid (c.nn+1<=maxLen):=o (by unfold maxLen;omega);clear hcn;clear h hT hi;go_enter func151,ntmps151;go_wp2_with fail;refine dm 13 [(0,1),(1,1),(2,1),(3,1),(4,1),(5,0),(6,1),(7,2),(8,2),(9,2),(10,1),(11,1),(12,1),(13,2)] (λ_=>True) (λW'=>W'.cell? ⟨R,3,A⟩=Q (.slice c.na c.nn c.nc)) (λch w'=>∃(r:Bs)(m:U),dB l= .error (r,m)/\ch=oH (s.length - r.length) m/\Same (nY R c) w.drew w') av av (λch a1 w1 hd hr=>⟨hd,RES.q ch w1 hr⟩) (trivial) (HH.q.drew.c3) ?_;refine qC ?_;refine aD rfl rfl (λK hK=>?_);go_simp;refine(uE.q _ HB0.q).mono ?_;intro e w2 he
 cases hnm:dB l with
 |error x=>
  rw[hnm] at he;obtain⟨rfl,hs⟩:=he;exact⟨rfl,x.1,x.2,rfl,rfl,hs⟩
 |ok mr=>
 obtain⟨m,r⟩:=mr;rw[hnm] at he;obtain⟨rfl,p2,hc2,hm2⟩:=he;have eY:=o hc2;have ng:=o hm2;have Fa:=o hnm;refine hK _ _ ⟨G,hc2.c3⟩ ?_;have vZ:Hid (R+1<=(w2.alloc (F #[D ⟨m.toArray⟩] 9)).1.size):=o (by have:=hc2.x.2.2;simp;omega);clear hK K hc2 hm2 hnm;refine aD rfl rfl (λK hK=>?_);go_simp;refine hK _ _ ⟨G,(eY.q.below (aB (C _ _) _)).c3⟩ ?_;clear hK K;refine aD rfl rfl (λK hK=>?_);refine ko _ _ 27 rfl i z 16 underlying27 HI.q.1 HI.q.2.1 HI.q.2.2.1 HI.q.2.2.2.1 HI.q.2.2.2.2 rfl (eY.q.n.2.1.alloc _) (Q ⟨w2.1.size,0,A⟩) 1 1 (c.nn+1) [m] rfl (Row.str1 w2 m) jW.q fT.q lV.q vZ.q ?_;intro a' c' w3 hown3 hg3 Je;have hx3:=(eY.q.x.keep (aB (C _ _) (F #[D ⟨m.toArray⟩] 9))).grown hg3 lU.q;have HAD:=o (eY.q.addN (aB (C _ _) (F #[D ⟨m.toArray⟩] 9)) a' c' hown3 hg3 Je);refine hK _ _ ⟨G,hx3.1 3⟩ ?_;have hc3:=hx3.1 3;have hf3:=hx3.2.1 3;clear hK K hown3 hg3 Je hx3;refine qC ?_;refine bq rfl rfl rfl (λK hK=>?_);go_simp;refine hK _ _ G ?_;clear hK K;refine jm ?_;go_wp2_with fail;refine bodyPost_end (results_none rfl _ _ _) rfl ?_;show dJ R s c w _ _ _ _;rw[HX.q,Fa.q];exact⟨rfl,p2,_,HAD.q.1,(Mv.of_below HB0.q).trans (ng.q.trans HAD.q.2)⟩
def CJ (c:UInt8):Bool:=rX c||decide (128<=c.toNat)
def ED (l:Bs):S:=(l.takeWhile CJ).length
def Ul (ws:List Bs)(l:Bs):Except Er (S × Bs):=
 match ws.findIdx? (λs=>s==l.take (ED l)) with
 |some i=> .ok (i,l.drop (ED l))
 |none=> .error (l.drop (zm ws (l.take (ED l))),220)
theorem agq {c:UInt8}(h:rX c=M):CJ c=M:=by unfold CJ;rw[h];rfl
theorem O3:∀l:Bs,l.takeWhile CJ=l.takeWhile rX++(l.drop (l.takeWhile rX).length).takeWhile CJ
 |[]=>rfl
 |a::t=>by
  rw[pu,pu]
  cases hb:rX a
  .simp only[Ea,fE,j3,mg,List.drop_zero]
   rw[pu]
  .rw[agq hb,ay rfl,ay rfl]
   simp only[jd,List.drop_succ_cons,gF];rw[<-O3 t]
theorem adB (q:UInt8->Bool)(l:Bs):l.take (l.takeWhile q).length=l.takeWhile q:=by
 have:l=l.takeWhile q++l.dropWhile q:=(List.takeWhile_append_dropWhile).symm;generalize hx:l.takeWhile q=x at*;rw[this];simp
theorem dw_head (q:UInt8->Bool):∀(l:Bs)(b:UInt8)(t:Bs),l.dropWhile q=b::t->q b=f
 |[],b,t,h=>by simp at h
 |a::l,b,t,h=>by
  rw[List.dropWhile_cons] at h
  cases hq:q a
  .rw[hq] at h;simp at h;rw[<-h.1];exact hq
  .rw[hq] at h;exact dw_head q l b t (by simpa using h)
theorem O4 (b:UInt8)(u:Bs):∀(x a:Bs),(∀c∈x,c≠b)->jw x (a++b::u)=jw x a
 |[],a,_=>by simp[jw]
 |c::x,[],h=>by simp[jw,h c pY]
 |c::x,d::a,h=>by
  rw[gF];simp only[jw];rw[O4 b u x a (λe he=>h e (iJ _ he))]
theorem adC (b:UInt8)(u a:Bs)(ws:List Bs)(h:∀x∈ws,∀c∈x,c≠b):zm ws (a++b::u)=zm ws a:=by
 unfold zm;have:∀(ws:List Bs)(m:S),(∀x∈ws,∀c∈x,c≠b)->ws.foldl (λm s=>max m (jw s (a++b::u))) m=ws.foldl (λm s=>max m (jw s a)) m:=by
  intro ws
  induction ws with
  |nil=>intro m _;rfl
  |cons x ws ih=>
   intro m hm;simp only[List.foldl_cons];rw[O4 b u x a (hm x pY),ih _ (λy hy=>hm y (iJ _ hy))]
 exact this ws 0 h
theorem Jt (ws:List Bs)(l:Bs)(hw:∀x∈ws,∀c∈x,rX c=M):Ul ws l=eT ws l:=by
 have hT:l.take (ED l)=l.takeWhile CJ:=adB CJ l;have hs:=O3 l;have hd:=vD rX l;unfold Ul eT;rw[hT];have hst:fu l=l.takeWhile rX:=rfl
 cases hdw:l.dropWhile rX with
 |nil=>
  have hdr:l.drop (l.takeWhile rX).length=[]:=hd.trans hdw;rw[hdr] at hs;have hs':l.takeWhile CJ=fu l:=by rw[hs];simp[fu]
  have WJ:qi l=fu l:=by unfold qi;rw[hst,hdr];rfl
  have hrun:ED l=(fu l).length:=by unfold ED;rw[hs']
  rw[hs',WJ,hrun]
  rfl
 |cons b t=>
  have hdr:l.drop (l.takeWhile rX).length=b::t:=hd.trans hdw;have hb:rX b=f:=dw_head rX l b t hdw;rw[hdr] at hs;by_cases h128:128<=b.toNat
  .have hR:CJ b=M:=by unfold CJ;rw[bA h128,Bool.or_true]
   rw[pu,hR,ay rfl] at hs;have WJ:qi l=fu l++[128]:=by
    unfold qi;rw[hst,hdr];simp only[GR];rw[ay (show(128:UInt8)<=b from h128)]
   have n1:∀x∈ws,(x==l.takeWhile CJ)=f:=λx hx=>by
    rw[hs];refine aR.2 (λe=>?_);have:=hw x hx b (by rw[e];simp);rw[hb] at this;cases this
   have n2:∀x∈ws,(x==qi l)=f:=λx hx=>by
    rw[WJ];refine aR.2 (λe=>?_);have:=hw x hx 128 (by rw[e];simp);revert this;decide
   rw[Ec.2 n1,Ec.2 n2];simp only[];rw[hs,adC b _ _ ws (λx hx c hc e=>by have:=hw x hx c hc;rw[e,hb] at this;cases this)]
   rfl
  .have hR:CJ b=f:=by unfold CJ;rw[aX h128,hb];rfl
   rw[pu,hR] at hs;have hs':l.takeWhile CJ=fu l:=by rw[hs];simp[fu]
   have WJ:qi l=fu l:=by
    unfold qi;rw[hst,hdr];simp only[GR];rw[ak (show ¬(128:UInt8)<=b from h128)]
   have hrun:ED l=(fu l).length:=by unfold ED;rw[hs']
   rw[hs',WJ,hrun]
   rfl
def hdR (l:Bs):U:=zq ⟨l.toArray⟩
def hdN (l:Bs):S:=if okB ⟨l.toArray⟩ 0=M then(E ⟨l.toArray⟩ 0).2 else 1
theorem WK {l:Bs}(h:l≠[]):hdR l=if okB ⟨l.toArray⟩ 0=M then((E ⟨l.toArray⟩ 0).1:U) else -1:=by
 unfold hdR zq;rw[ay (by rw[iM];cases l with|nil=>exact absurd rfl h|cons a t=>simp)]
theorem ajy {b:UInt8}(t:Bs)(h:b.toNat<128):hdR (b::t)=b.toNat/\hdN (b::t)=1:=by
 rw[WK au];unfold hdN;rw[Nh b t h,ay rfl,ay rfl,sQ b t h];exact⟨rfl,rfl⟩
theorem WL (n n' b0 b1 b2 b3 c1 c2 c3 r w:S)(hw:Lib.decodeN n b0 b1 b2 b3=(r,w))(hv:¬(r=65533/\w=1))(hn:w<=n')(h1:1<w->c1=b1)(h2:2<w->c2=b2)(h3:3<w->c3=b3):Lib.decodeN n' b0 c1 c2 c3=(r,w):=by
 unfold Lib.decodeN at hw
 split at hw
 .rename_i h
  unfold Lib.decodeN;rw[ay h];exact hw
 .rename_i hA
  split at hw
  .rename_i h
   split at hw
   .rename_i hk
    injection hw with e1 e2;subst e2;obtain rfl:=h1 ah;unfold Lib.decodeN;rw[ak hA,ay ⟨h.1,by omega,h.2.2⟩,ay hk,e1]
   .injection hw with e1 e2;exact absurd ⟨e1.symm,e2.symm⟩ hv
  .rename_i hB
   split at hw
   .rename_i h
    split at hw
    .rename_i hk
     injection hw with e1 e2;subst e2;obtain rfl:=h1 ah;obtain rfl:=h2 ah;unfold Lib.decodeN;rw[ak hA,ak ah,ay ⟨h.1,⟨by omega,h.2.1.2⟩,by omega,h.2.2.2⟩,ay hk,e1]
    .injection hw with e1 e2;exact absurd ⟨e1.symm,e2.symm⟩ hv
   .rename_i hC
    split at hw
    .rename_i h
     split at hw
     .rename_i hk
      injection hw with e1 e2;subst e2;obtain rfl:=h1 ah;obtain rfl:=h2 ah;obtain rfl:=h3 ah;unfold Lib.decodeN;rw[ak hA,ak ah,ak ah,ay ⟨h.1,⟨by omega,h.2.1.2⟩,⟨by omega,h.2.2.1.2⟩,by omega,h.2.2.2.2⟩,ay hk,e1]
     .injection hw with e1 e2;exact absurd ⟨e1.symm,e2.symm⟩ hv
    .injection hw with e1 e2;exact absurd ⟨e1.symm,e2.symm⟩ hv
theorem AU (l:Bs)(m k:S)(h:k<m):(l.take m).getD k 0=l.getD k 0:=by simp[List.getD,h]
theorem O5 (l:Bs):E ⟨l.toArray⟩ 0=Lib.decodeN l.length (l.getD 0 0).toNat (l.getD 1 0).toNat (l.getD 2 0).toNat (l.getD 3 0).toNat:=by
 have:=Lib.decode_N ⟨l.toArray⟩ 0
 simpa using this
theorem Zx {l:Bs}{m:S}(h:okB ⟨l.toArray⟩ 0=M)(hm:(E ⟨l.toArray⟩ 0).2<=m)(hl:(E ⟨l.toArray⟩ 0).2<=l.length)(h0:0<m):E ⟨(l.take m).toArray⟩ 0=E ⟨l.toArray⟩ 0:=by
 have hv:=O6 h;have hx:=O5 l;obtain⟨r,w,hq⟩:∃r w,E ⟨l.toArray⟩ 0=(r,w):=⟨_,_,rfl⟩;rw[hq] at hx hm hl hv ⊢;simp only at hm hl hv;rw[O5 (l.take m),AU l m 0 h0];refine WL l.length _ _ _ _ _ _ _ _ r w hx.symm hv (by rw[dN];omega) (λh1=>?_) (λh1=>?_) (λh1=>?_)
 .rw[AU l m 1 ah]
 .rw[AU l m 2 ah]
 .rw[AU l m 3 ah]
theorem Zy (l:Bs)(h:l≠[]):bN ⟨l.toArray⟩ l.length 0=0::(bN ⟨(l.drop (E ⟨l.toArray⟩ 0).2).toArray⟩ (l.drop (E ⟨l.toArray⟩ 0).2).length 0).map ((E ⟨l.toArray⟩ 0).2+ ·):=by
 obtain⟨d,hd⟩:∃d,d=(E ⟨l.toArray⟩ 0).2:=⟨_,rfl⟩;have hw:=Cy l h;rw[<-hd] at hw ⊢;obtain⟨n,hn⟩:∃n,l.length=n+1:=⟨l.length - 1,by have:l.length≠0:=λe=>h (AA e);omega⟩;rw[hn];simp only[bN,iM];rw[ay ah,<-hd,bU,<-bM d,Dl,bM,Bw ⟨(l.drop d).toArray⟩ n (l.drop d).length 0 (by rw[iM,kz];omega) (by rw[iM];omega)]
theorem WM {l:Bs}(h:l≠[])(hk:(okB ⟨l.toArray⟩ 0 && jY ((E ⟨l.toArray⟩ 0).1:U))=M):dV l=(E ⟨l.toArray⟩ 0).2+dV (l.drop (E ⟨l.toArray⟩ 0).2):=by
 unfold dV;rw[lC l jY h,ay hk]
theorem adD (l:Bs):dV l<=l.length:=uz jY _ l (aA _)
def Gc (l:Bs)(k:S):Prop:=k<=dV l/\k+dV (l.drop k)=dV l/\
 ∃pre:List S,bN ⟨(l.take (dV l)).toArray⟩ (l.take (dV l)).length 0=pre++(bN ⟨((l.take (dV l)).drop k).toArray⟩ ((l.take (dV l)).drop k).length 0).map (k+ ·)/\∀x∈pre,x<k
theorem Gc.zero (l:Bs):Gc l 0:=⟨aV _,by simp,[],by simp,by simp⟩
theorem MW {l:Bs}{k:S}(h:k+dV (l.drop k)=dV l):(l.take (dV l)).drop k=(l.drop k).take (dV (l.drop k)):=by
 rw[<-h,List.drop_take];congr 1;omega
theorem Gc.step {l:Bs}{k:S}(h:Gc l k)(hne:l.drop k≠[])(hk:(okB ⟨(l.drop k).toArray⟩ 0 && jY ((E ⟨(l.drop k).toArray⟩ 0).1:U))=M):
  Gc l (k+(E ⟨(l.drop k).toArray⟩ 0).2)/\(24<k+(E ⟨(l.drop k).toArray⟩ 0).2->k<=24->24<dV l/\vC (l.take (dV l))=k):=by
 obtain⟨h1,h2,pre,hp,hx⟩:=h;have hst:=WM hne hk;obtain⟨n,hn⟩:∃n,n=(E ⟨(l.drop k).toArray⟩ 0).2:=⟨_,rfl⟩;have hok:okB ⟨(l.drop k).toArray⟩ 0=M:=by
  revert hk;cases okB ⟨(l.drop k).toArray⟩ 0 <;> simp
 have hn1:=Cy (l.drop k) hne;have hn2:=Bz (l.drop k) hne;rw[<-hn] at hst hn1 hn2 ⊢;rw[zB] at hst;have htd:=MW h2;have hdec:E ⟨((l.take (dV l)).drop k).toArray⟩ 0=E ⟨(l.drop k).toArray⟩ 0:=by
  rw[htd];exact Zx hok (by rw[<-hn];omega) (by rw[<-hn];exact hn2) ah
 have hne2:(l.take (dV l)).drop k≠[]:=by
  rw[htd];intro e;have:=dF List.length e;rw[dN] at this;simp only[mg] at this;have:=List.length_pos_iff.2 hne;omega
 have hpc:=Zy _ hne2;rw[hdec,<-hn,zB] at hpc;have hall:bN ⟨(l.take (dV l)).toArray⟩ (l.take (dV l)).length 0=(pre++[k])++(bN ⟨((l.take (dV l)).drop (k+n)).toArray⟩ ((l.take (dV l)).drop (k+n)).length 0).map ((k+n)+ ·):=by
  rw[hp,hpc];simp[tO,Function.comp_def,Nat.add_assoc]
 refine⟨⟨by omega,by omega,pre++[k],hall,λx hxm=>?_⟩,λwB anV=>⟨by omega,?_⟩⟩
 .rcases bJ.1 hxm with hxm|hxm
  .have:=hx x hxm;omega
  .obtain rfl:x=k:=by simpa using hxm
   omega
 .unfold vC
  rw[hall,List.filter_append,filter_all _ (pre++[k]) (λx hxm=>?_),Mc _ _ (λx hxm=>?_)]
  .simp
  .obtain⟨y,_,rfl⟩:=dQ.1 hxm
   exact aX ah
  .rcases bJ.1 hxm with hxm|hxm
   .have:=hx x hxm;exact bA ah
   .obtain rfl:x=k:=by simpa using hxm
    exact bA anV
theorem adE (b:UInt8):jR b=M↔48<=b.toNat/\b.toNat<=57:=by
 unfold jR;rw[aU,bf,bf,UInt8.le_iff_toNat_le,UInt8.le_iff_toNat_le];rfl
theorem WN (b:UInt8)(t:Bs):dX (b::t)=iQ (hdR (b::t)):=by
 rw[WK au];unfold dX
 cases h:okB ⟨(b::t).toArray⟩ 0
 .rw[ak au];rfl
 .rw[ay rfl];rfl
theorem Um {c:U}(h:iQ c=M):gq c=f:=by
 unfold iQ at h;unfold gq;simp only[Az,aU,bf] at h;simp only[Bool.and_eq_false_iff,decide_eq_false_iff_not];omega
section
variable {w w':P}{B b:S}{c:bB}{n:aP}
theorem WO {l r:Bs}(h:eU l= .ok r):dU l= .ok (M,r):=by
 unfold eU at h
 cases hm:dU l with
 |error x=>rw[hm] at h;cases h
 |ok y=>
  obtain⟨b,r'⟩:=y;rw[hm] at h
  cases b
  .cases h
  .injection h with h;rw[h]
@[reducible] def Zz (w:P)(g:S)(c:bB):P:=(((((w.setCell ⟨g,0,A⟩ (H I c.kind)).setCell ⟨g,1,A⟩ (.slice c.na c.nn c.nc)).setCell ⟨g,2,A⟩ (H I c.lvl)).setCell ⟨g,3,A⟩ (.slice c.va c.vn c.vc)).setCell ⟨g,4,A⟩ (.bool c.first)).setCell ⟨g,5,A⟩ (H I c.bits)
theorem Mi (w:P)(g:S)(c:bB):Same (λi=>i≠g) w (Zz w g c):=
 (((((Same.setCell _ _ _ _ au).tr (Same.setCell _ _ _ _ au)).tr (Same.setCell _ _ _ _ au)).tr (Same.setCell _ _ _ _ au)).tr (Same.setCell _ _ _ _ au)).tr (Same.setCell _ _ _ _ au)
theorem iB.Zz {g:S}{c':bB}(h:iB w B c n)(h1:∀i,(O c.na c.nn c.nc).ownBlock=Q i->i≠g)(h2:∀i,(O c.va c.vn c.vc).ownBlock=Q i->i≠g):iB (Zz w g c') B c n:=
 ⟨h.1,h.2.1.block λi hi=>(Mi w g c').block i (h1 i hi) (h.2.1.lt i hi).2,h.2.2.block λi hi=>(Mi w g c').block i (h2 i hi) (h.2.2.lt i hi).2⟩
end
theorem ZA {l:Bs}(h:dX l=f):dB l= .error (l,220):=by unfold dB;rw[ay (by rw[h];simp)]
theorem O7 (k:S):∀x∈kP.drop k,∀c∈x,rX c=M:=λx hx=>by
 have:∀x∈kP,∀c∈x,rX c=M:=by decide
 exact this x (List.mem_of_mem_drop hx)
theorem O8:∀x∈oI,∀c∈x,rX c=M:=by decide
theorem Sg:∀x∈nA,∀c∈x,rX c=M:=by decide
theorem adF {b:UInt8}{t:Bs}(h:dX (b::t)=M):0<dV (b::t):=by
 have hb:(okB ⟨(b::t).toArray⟩ 0 && iQ ((E ⟨(b::t).toArray⟩ 0).1:U))=M:=by
  unfold dX at h
  simpa using h
 rw[aU] at hb;have hw:=Cy (b::t) au;unfold dV;rw[lC (b::t) jY au,ay (by rw[hb.1];unfold jY;rw[hb.2];rfl)];omega
theorem O9 {ws:List Bs}{l r:Bs}{i:S}(h:Ul ws l= .ok (i,r)):i<ws.length:=by
 unfold Ul at h
 cases hf:ws.findIdx? (λs=>s==l.take (ED l)) with
 |none=>rw[hf] at h;cases h
 |some j=>
  rw[hf] at h;injection h with h;injection h with h _;subst h;exact(List.findIdx?_eq_some_iff_findIdx_eq.1 hf).1
end Yd
