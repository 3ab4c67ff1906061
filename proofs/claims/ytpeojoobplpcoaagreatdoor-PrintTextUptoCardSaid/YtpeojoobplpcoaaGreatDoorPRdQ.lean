import Derived.Test.YtpeojoobplpcoaaGreatDoorPLawOwn
import Derived.Test.YtpeojoobplpcoaaGreatDoorPRLw
set_option linter.all false
set_option maxRecDepth 200000
set_option maxHeartbeats 8000000
namespace Yd
open Bool renaming false->f,true->P
open Option renaming none->o,some->S
open Go Go.RowKit Go.Proofs Tryz
open Below renaming refl->y
open Bx renaming new->H
open Go renaming bodyPost_ret->J,World->M,Calls->O
open Go.IntKind renaming i64->C
open Go.IntWalk renaming i64_in->V
open Go.Obj renaming cells->A
open Go.Proofs renaming Utf8Tabs_below->F
open Go.RowKit renaming Below->Q,Hid->T
open Go.Value renaming string->z,int->B,pointer->Y
open Lib renaming Utf8Tabs->G,hasPrefix->L
open Tryz renaming prog->E,underlying9->I
open Utf8 renaming decode->U
open Yd renaming hid->j
open _root_ renaming trivial->D,Int->N
def vS (x:Bool)(w:M)(e:Ending)(w':M):Prop:=∃(k a:N)(t:Bs)(nx:Nat)(er:N),NJ k a t nx er w e w'/\((er==0 && k==1)=x)
theorem afp (w:M)(hT:G 6 7 w):O E 137 #[z ⟨[32].toArray⟩,B C 0] w (vS f w):=by
 have hex:ByteArray.extract ⟨#[32]⟩ 0 1=⟨#[32]⟩:=qI [32] 1;have HS:=λW (hb:Q w.1.size w W)=>j (tq [32] 0 [32] rfl ak ak W (F hT hb))
 have fO:T (qd [32]=1/\wV [32]=P):=j ⟨by decide,by decide⟩;go_enter func137,ntmps137;go_wp2_with fail;refine(HS _ (aA (y _ _) _)).q.mono ?_;rintro e w1 ⟨rfl,hb1⟩;have HB1:=j ((aA (y w.1.size w) (A (aI 0 0 [] f) 202)).trans (hb1.mono ak));have eX:=j ((H w (aI 0 0 [] f) 202).keep hb1);clear hb1;rw[fO.q.1,fO.q.2];have hcx:=(eX.q.alloc (A (aI 0 1 [] f) 202)).1;have hfx:=(eX.q.alloc (A (aI 0 1 [] f) 202)).2.1;have mK:=j (aA HB1.q (A (aI 0 1 [] f) 202));go_wp2_with fail;refine J (v:= .tuple #[.agg (aI 5 1 [] f),B C 1,B C 0]) (by simp[results,results137,go_sem,hcx]) rfl ⟨5,1,[],1,0,⟨f,rfl,?_⟩,by decide⟩;exact(((mK.q.setCell (p:=⟨w.1.size,0,o⟩) (aB _) _).setCell (p:=⟨w.1.size,1,o⟩) (aB _) _).setCell (p:=⟨w.1.size,2,o⟩) (aB _) _).setCell (p:=⟨w.1.size,3,o⟩) (aB _) _
theorem aj1 (w:M)(hT:G 6 7 w):O E 137 #[z ⟨[9].toArray⟩,B C 0] w (vS f w):=by
 have hex:ByteArray.extract ⟨#[9]⟩ 0 1=⟨#[9]⟩:=qI [9] 1;have HS:=λW (hb:Q w.1.size w W)=>j (tq [9] 0 [9] rfl ak ak W (F hT hb))
 have fO:T (qd [9]=1/\wV [9]=P):=j ⟨by decide,by decide⟩;go_enter func137,ntmps137;go_wp2_with fail;refine(HS _ (aA (y _ _) _)).q.mono ?_;rintro e w1 ⟨rfl,hb1⟩;have HB1:=j ((aA (y w.1.size w) (A (aI 0 0 [] f) 202)).trans (hb1.mono ak));have eX:=j ((H w (aI 0 0 [] f) 202).keep hb1);clear hb1;rw[fO.q.1,fO.q.2];have hcx:=(eX.q.alloc (A (aI 0 1 [] f) 202)).1;have hfx:=(eX.q.alloc (A (aI 0 1 [] f) 202)).2.1;have mK:=j (aA HB1.q (A (aI 0 1 [] f) 202));go_wp2_with fail;refine J (v:= .tuple #[.agg (aI 5 1 [] f),B C 1,B C 0]) (by simp[results,results137,go_sem,hcx]) rfl ⟨5,1,[],1,0,⟨f,rfl,?_⟩,by decide⟩;exact(((mK.q.setCell (p:=⟨w.1.size,0,o⟩) (aB _) _).setCell (p:=⟨w.1.size,1,o⟩) (aB _) _).setCell (p:=⟨w.1.size,2,o⟩) (aB _) _).setCell (p:=⟨w.1.size,3,o⟩) (aB _) _
theorem afq (w:M)(hT:G 6 7 w):O E 137 #[z ⟨[35].toArray⟩,B C 0] w (vS f w):=by
 have hex:ByteArray.extract ⟨#[35]⟩ 0 1=⟨#[35]⟩:=qI [35] 1;have HS:=λW (hb:Q w.1.size w W)=>j (tq [35] 0 [35] rfl ak ak W (F hT hb))
 have fO:T (qd [35]=1/\wV [35]=P):=j ⟨by decide,by decide⟩;go_enter func137,ntmps137;go_wp2_with fail;refine(HS _ (aA (y _ _) _)).q.mono ?_;rintro e w1 ⟨rfl,hb1⟩;have HB1:=j ((aA (y w.1.size w) (A (aI 0 0 [] f) 202)).trans (hb1.mono ak));have eX:=j ((H w (aI 0 0 [] f) 202).keep hb1);clear hb1;rw[fO.q.1,fO.q.2];have hcx:=(eX.q.alloc (A (aI 0 1 [] f) 202)).1;have hfx:=(eX.q.alloc (A (aI 0 1 [] f) 202)).2.1;have mK:=j (aA HB1.q (A (aI 0 1 [] f) 202));go_wp2_with fail;refine J (v:= .tuple #[.agg (aI 5 1 [] f),B C 1,B C 0]) (by simp[results,results137,go_sem,hcx]) rfl ⟨5,1,[],1,0,⟨f,rfl,?_⟩,by decide⟩;exact(((mK.q.setCell (p:=⟨w.1.size,0,o⟩) (aB _) _).setCell (p:=⟨w.1.size,1,o⟩) (aB _) _).setCell (p:=⟨w.1.size,2,o⟩) (aB _) _).setCell (p:=⟨w.1.size,3,o⟩) (aB _) _
theorem afr (w:M)(hT:G 6 7 w):O E 137 #[z ⟨[10].toArray⟩,B C 0] w (vS f w):=by
 have hex:ByteArray.extract ⟨#[10]⟩ 0 1=⟨#[10]⟩:=qI [10] 1;have HS:=λW (hb:Q w.1.size w W)=>j (tq [10] 0 [10] rfl ak ak W (F hT hb))
 have fO:T (qd [10]=0/\wV [10]=P):=j ⟨by decide,by decide⟩;go_enter func137,ntmps137;go_wp2_with fail;refine(HS _ (aA (y _ _) _)).q.mono ?_;rintro e w1 ⟨rfl,hb1⟩;have HB1:=j ((aA (y w.1.size w) (A (aI 0 0 [] f) 202)).trans (hb1.mono ak));have eX:=j ((H w (aI 0 0 [] f) 202).keep hb1);clear hb1;rw[fO.q.1,fO.q.2];have hcx:=(eX.q.alloc (A (aI 0 0 [] f) 202)).1;have hfx:=(eX.q.alloc (A (aI 0 0 [] f) 202)).2.1;have mK:=j (aA HB1.q (A (aI 0 0 [] f) 202));go_wp2_with fail;refine J (v:= .tuple #[.agg (aI 4 0 [10] f),B C 1,B C 0]) (by simp[results,results137,go_sem,hcx]) rfl ⟨4,0,[10],1,0,⟨f,rfl,?_⟩,by decide⟩;exact(((mK.q.setCell (p:=⟨w.1.size,0,o⟩) (aB _) _).setCell (p:=⟨w.1.size,1,o⟩) (aB _) _).setCell (p:=⟨w.1.size,2,o⟩) (aB _) _).setCell (p:=⟨w.1.size,3,o⟩) (aB _) _
theorem afs (w:M)(hT:G 6 7 w):O E 137 #[z ⟨[46].toArray⟩,B C 0] w (vS f w):=by
 have hex:ByteArray.extract ⟨#[46]⟩ 0 1=⟨#[46]⟩:=qI [46] 1;have HS:=λW (hb:Q w.1.size w W)=>j (tq [46] 0 [46] rfl ak ak W (F hT hb))
 have fO:T (qd [46]=0/\wV [46]=P):=j ⟨by decide,by decide⟩;go_enter func137,ntmps137;go_wp2_with fail;refine(HS _ (aA (y _ _) _)).q.mono ?_;rintro e w1 ⟨rfl,hb1⟩;have HB1:=j ((aA (y w.1.size w) (A (aI 0 0 [] f) 202)).trans (hb1.mono ak));have eX:=j ((H w (aI 0 0 [] f) 202).keep hb1);clear hb1;rw[fO.q.1,fO.q.2];have ig:=j (aA HB1.q (A (aI 0 0 [] f) 202));have qO:=j (eX.q.alloc (A (aI 0 0 [] f) 202));have nC:=j (H w1 (aI 0 0 [] f) 202);have HZ3:=j (show w.1.size<w1.1.size from eX.q.2.2);clear HB1 eX;go_wp2_with fail;generalize w1.alloc (A (aI 0 0 [] f) 202)=w4 at ig qO nC ⊢;generalize w1.1.size=tb at nC HZ3 ⊢;have hcy:=nC.q.1;have BP:=nC.q.2.1;go_wp2_with fail;refine aC 99 [(0,0),(1,0),(2,0),(3,2),(4,0),(5,2)] (λ_=>True) (λ_=>True) ay ay (trivial) (trivial) ?_;refine qC ?_;refine aF rfl rfl (λK hK=>?_);go_simp;refine hK _ _ ⟨D,D⟩ ?_;clear hK K;refine qC ?_;refine aF rfl rfl (λK hK=>?_);go_simp;refine hK _ _ ⟨D,D⟩ ?_;clear hK K;refine aP ?_;have nD:=j (((nC.q.bf 0 ak (B C 3)).bf 2 ak (z ⟨[46].toArray⟩)).drew);have vD:=j (((qO.q.setOther tb 0 (B C 3) (by have:=HZ3.q;omega)).setOther tb 2 (z ⟨[46].toArray⟩) (by have:=HZ3.q;omega)).drew);have kz:=j (((ig.q.setCell (p:=⟨tb,0,o⟩) (by have:=HZ3.q;show _<=tb;omega) (B C 3)).setCell (p:=⟨tb,2,o⟩) (by have:=HZ3.q;show _<=tb;omega) (z ⟨[46].toArray⟩)).drew);generalize((w4.setCell ⟨tb,0,o⟩ (B C 3)).setCell ⟨tb,2,o⟩ (z ⟨[46].toArray⟩)).drew=Z at nD vD kz ⊢;clear hcy BP qO nC ig;have hcz:=vD.q.1;have hfz:=vD.q.2.1;go_wp2_with fail;refine aC 99 [(0,0),(1,0),(2,0),(3,0),(4,0),(5,0),(6,2),(7,0),(8,0)] (λ_=>True) (λW'=>Bx W' tb (aI 3 0 [46] f)) ay ay (trivial) (nD.q.drew) ?_;refine qC ?_;refine aF rfl rfl (λK hK=>?_);go_simp;refine hK _ _ ⟨D,(((nD.q.drew.setOther w.1.size 0 _ (by have:=HZ3.q;omega)).setOther w.1.size 1 _ (by have:=HZ3.q;omega)).setOther w.1.size 2 _ (by have:=HZ3.q;omega)).setOther w.1.size 3 _ (by have:=HZ3.q;omega)⟩ ?_;clear hK K;refine qC ?_;refine aP ?_;go_wp2_with fail;have hwq:IntKind.i64.wrap 1=1:=V 1 ah;refine J (v:= .tuple #[.agg (aI 3 0 [46] f),B C 1,B C 0]) (by simp[results,results137,go_sem,hcz,hwq]) rfl ⟨3,0,[46],1,0,⟨f,rfl,?_⟩,by decide⟩;exact((((kz.q.drew).setCell (p:=⟨w.1.size,0,o⟩) (aB _) _).setCell (p:=⟨w.1.size,1,o⟩) (aB _) _).setCell (p:=⟨w.1.size,2,o⟩) (aB _) _).setCell (p:=⟨w.1.size,3,o⟩) (aB _) _
theorem aft (w:M)(hT:G 6 7 w):O E 137 #[z ⟨[45].toArray⟩,B C 0] w (vS f w):=by
 have hex:ByteArray.extract ⟨#[45]⟩ 0 1=⟨#[45]⟩:=qI [45] 1;have HS:=λW (hb:Q w.1.size w W)=>j (tq [45] 0 [45] rfl ak ak W (F hT hb))
 have fO:T (qd [45]=0/\wV [45]=P):=j ⟨by decide,by decide⟩;go_enter func137,ntmps137;go_wp2_with fail;refine(HS _ (aA (y _ _) _)).q.mono ?_;rintro e w1 ⟨rfl,hb1⟩;have HB1:=j ((aA (y w.1.size w) (A (aI 0 0 [] f) 202)).trans (hb1.mono ak));have eX:=j ((H w (aI 0 0 [] f) 202).keep hb1);clear hb1;rw[fO.q.1,fO.q.2];have ig:=j (aA HB1.q (A (aI 0 0 [] f) 202));have qO:=j (eX.q.alloc (A (aI 0 0 [] f) 202));have nC:=j (H w1 (aI 0 0 [] f) 202);have HZ3:=j (show w.1.size<w1.1.size from eX.q.2.2);clear HB1 eX;go_wp2_with fail;generalize w1.alloc (A (aI 0 0 [] f) 202)=w4 at ig qO nC ⊢;generalize w1.1.size=tb at nC HZ3 ⊢;have hcy:=nC.q.1;have BP:=nC.q.2.1;go_wp2_with fail;refine aC 99 [(0,0),(1,0),(2,0),(3,2),(4,0),(5,2)] (λ_=>True) (λ_=>True) ay ay (trivial) (trivial) ?_;refine qC ?_;refine aF rfl rfl (λK hK=>?_);go_simp;refine hK _ _ ⟨D,D⟩ ?_;clear hK K;refine qC ?_;refine aF rfl rfl (λK hK=>?_);go_simp;refine hK _ _ ⟨D,D⟩ ?_;clear hK K;refine aP ?_;have nD:=j (((nC.q.bf 0 ak (B C 3)).bf 2 ak (z ⟨[45].toArray⟩)).drew);have vD:=j (((qO.q.setOther tb 0 (B C 3) (by have:=HZ3.q;omega)).setOther tb 2 (z ⟨[45].toArray⟩) (by have:=HZ3.q;omega)).drew);have kz:=j (((ig.q.setCell (p:=⟨tb,0,o⟩) (by have:=HZ3.q;show _<=tb;omega) (B C 3)).setCell (p:=⟨tb,2,o⟩) (by have:=HZ3.q;show _<=tb;omega) (z ⟨[45].toArray⟩)).drew);generalize((w4.setCell ⟨tb,0,o⟩ (B C 3)).setCell ⟨tb,2,o⟩ (z ⟨[45].toArray⟩)).drew=Z at nD vD kz ⊢;clear hcy BP qO nC ig;have hcz:=vD.q.1;have hfz:=vD.q.2.1;go_wp2_with fail;refine aC 99 [(0,0),(1,0),(2,0),(3,0),(4,0),(5,0),(6,2),(7,0),(8,0)] (λ_=>True) (λW'=>Bx W' tb (aI 3 0 [45] f)) ay ay (trivial) (nD.q.drew) ?_;refine qC ?_;refine aF rfl rfl (λK hK=>?_);go_simp;refine hK _ _ ⟨D,(((nD.q.drew.setOther w.1.size 0 _ (by have:=HZ3.q;omega)).setOther w.1.size 1 _ (by have:=HZ3.q;omega)).setOther w.1.size 2 _ (by have:=HZ3.q;omega)).setOther w.1.size 3 _ (by have:=HZ3.q;omega)⟩ ?_;clear hK K;refine qC ?_;refine aP ?_;go_wp2_with fail;have hwq:IntKind.i64.wrap 1=1:=V 1 ah;refine J (v:= .tuple #[.agg (aI 3 0 [45] f),B C 1,B C 0]) (by simp[results,results137,go_sem,hcz,hwq]) rfl ⟨3,0,[45],1,0,⟨f,rfl,?_⟩,by decide⟩;exact((((kz.q.drew).setCell (p:=⟨w.1.size,0,o⟩) (aB _) _).setCell (p:=⟨w.1.size,1,o⟩) (aB _) _).setCell (p:=⟨w.1.size,2,o⟩) (aB _) _).setCell (p:=⟨w.1.size,3,o⟩) (aB _) _
theorem Zy:∀args w,(callFunc 114 args).run E w= .ok (.enter 114 args) w:=enters_of func114 ay rfl
theorem afu (b:UInt8)(h48:48<=b.toNat)(h57:b.toNat<=57)(w:M)(hT:G 6 7 w):O E 137 #[z ⟨[b].toArray⟩,B C 0] w (vS f w):=by
 have hi0:∀W,(Instr.index 9 (z ⟨#[b]⟩) (B C 0)).run E W= .ok (.int .u8 (b.toNat:N)) W:=λW=>jM I [b] 0 b rfl W
 have mQ:kS (b.toNat:N)=P:=by unfold kS;simp;omega
 have h1:gN ⟨[b].toArray⟩ kS=1:=by
  rw[iR [b] kS ak,qm b [] ah,av]
  .rfl
  .rw[NK b [] ah,mQ];rfl
 have HW:=λW (hb:Q w.1.size w W)=>j (wW ⟨[b].toArray⟩ 114 #[] Zy kS W (λr W' _=>oh r W') (F hT hb))
 rw[h1] at HW;have HD:=λW=>j (aeb b h48 h57 W)
 have hex:ByteArray.extract ⟨#[b]⟩ 0 1=⟨#[b]⟩:=qI [b] 1;have hsl:∀W,(Instr.slice 9 (z ⟨#[b]⟩) (S (B C 0)) o o).run E W= .ok (z ⟨#[b]⟩) W:=λW=>oZ I [b] 0 ak W
 have HS:=λW (hb:Q w.1.size w W)=>j (tq [b] 0 [b] rfl ak ak W (F hT hb))
 have fO:=j (Fw (b:=b) (t:=[]) (NZ ah ah) ah);have e10:((b.toNat:N)==10)=f:=aU.2 ah;have e46:((b.toNat:N)==46)=f:=aU.2 ah;have e45:((b.toNat:N)==45)=f:=aU.2 ah;have hw32:wrap32 (b.toNat:N)=(b.toNat:N):=IntWalk.wrap32_in _ (by have:=b.toNat_lt;omega);have hempty:(([b]:Bs)==([]:Bs))=f:=rfl;clear h48 h57 h1 hT
 cases h0:((b.toNat:N)==48)
 all_goals
  go_enter func137,ntmps137;go_wp2_with fail;refine(HS _ (aA (y _ _) _)).q.mono ?_;rintro e w1 ⟨rfl,hb1⟩;have HB1:=j ((aA (y w.1.size w) (A (aI 0 0 [] f) 202)).trans (hb1.mono ak));have eX:=j ((H w (aI 0 0 [] f) 202).keep hb1);clear hb1;rw[fO.q.1,fO.q.2];go_wp2_with fail;refine(oh _ _).mono ?_;rintro e w3 ⟨rfl,hb3⟩;rw[mQ];have HB3:=j ((aA HB1.q (A (aI 0 0 [] f) 202)).trans (hb3.mono (by have:=HB1.q.size;simp;omega)));have kZ:=j ((eX.q.alloc (A (aI 0 0 [] f) 202)).keep hb3);have yB:=j ((H w1 (aI 0 0 [] f) 202).keep hb3);have HZ3:=j (show w.1.size<w1.1.size from eX.q.2.2);clear hb3;go_wp2_with fail;refine(HW _ HB3.q).q.mono ?_;rintro e w5 ⟨rfl,hb5⟩;have kz:=j (HB3.q.bZ hb5);have vD:=j (kZ.q.keep hb5);have nD:=j (yB.q.keep hb5);clear hb5 HB3 kZ yB;go_wp2_with fail;refine(HD _).q.mono ?_;rintro e w4 ⟨rfl,hb4⟩;have ig:=j (kz.q.bZ hb4);have qO:=j (vD.q.keep hb4);have nC:=j (nD.q.keep hb4);clear hb4 kz vD nD HB1 eX;generalize w1.1.size=tb at nC HZ3 ⊢;have hcy:=nC.q.1;have BP:=nC.q.2.1;go_wp2_with fail;refine aC 99 [(0,0),(1,0),(2,0),(3,0),(4,2),(5,0),(6,2)] (λ_=>True) (λ_=>True) ay ay (trivial) (trivial) ?_;refine qC ?_;refine aF rfl rfl (λK hK=>?_);go_simp;refine hK _ _ ⟨D,D⟩ ?_;clear hK K;refine qC ?_;refine aF rfl rfl (λK hK=>?_);go_simp;refine hK _ _ ⟨D,D⟩ ?_;clear hK K;refine aP ?_;have nD:=j (((nC.q.bf 0 ak (B C 2)).bf 2 ak (z ⟨[b].toArray⟩)).drew);have vD:=j (((qO.q.setOther tb 0 (B C 2) (by have:=HZ3.q;omega)).setOther tb 2 (z ⟨[b].toArray⟩) (by have:=HZ3.q;omega)).drew);have kz:=j (((ig.q.setCell (p:=⟨tb,0,o⟩) (by have:=HZ3.q;show _<=tb;omega) (B C 2)).setCell (p:=⟨tb,2,o⟩) (by have:=HZ3.q;show _<=tb;omega) (z ⟨[b].toArray⟩)).drew);generalize((w4.setCell ⟨tb,0,o⟩ (B C 2)).setCell ⟨tb,2,o⟩ (z ⟨[b].toArray⟩)).drew=Z at nD vD kz ⊢;clear hcy BP qO nC ig;have hcz:=vD.q.1;have hfz:=vD.q.2.1;go_wp2_with fail;refine aC 99 [(0,0),(1,0),(2,0),(3,0),(4,0),(5,0),(6,2),(7,0),(8,0)] (λ_=>True) (λW'=>Bx W' tb (aI 2 0 [b] f)) ay ay (trivial) (nD.q.drew) ?_;refine qC ?_;refine aF rfl rfl (λK hK=>?_);go_simp;refine hK _ _ ⟨D,(((nD.q.drew.setOther w.1.size 0 _ (by have:=HZ3.q;omega)).setOther w.1.size 1 _ (by have:=HZ3.q;omega)).setOther w.1.size 2 _ (by have:=HZ3.q;omega)).setOther w.1.size 3 _ (by have:=HZ3.q;omega)⟩ ?_;clear hK K;refine qC ?_;refine aP ?_;go_wp2_with fail;have hwq:IntKind.i64.wrap 1=1:=V 1 ah;refine J (v:= .tuple #[.agg (aI 2 0 [b] f),B C 1,B C 0]) (by simp[results,results137,go_sem,hcz,hwq]) rfl ⟨2,0,[b],1,0,⟨f,rfl,?_⟩,by decide⟩;exact((((kz.q.drew).setCell (p:=⟨w.1.size,0,o⟩) (aB _) _).setCell (p:=⟨w.1.size,1,o⟩) (aB _) _).setCell (p:=⟨w.1.size,2,o⟩) (aB _) _).setCell (p:=⟨w.1.size,3,o⟩) (aB _) _
theorem Zz (b:UInt8)(hb:b.toNat<128)(n32:b.toNat≠32)(n9:b.toNat≠9)(n10:b.toNat≠10)(n35:b.toNat≠35)(n46:b.toNat≠46)(n45:b.toNat≠45)(ZA:¬(48<=b.toNat/\b.toNat<=57))(afv:kC (b.toNat:N)=f)
  (w:M) (hT:G 6 7 w):O E 137 #[z ⟨[b].toArray⟩,B C 0] w (vS f w):=by
 have fO:=j (Fw (t:=[]) (NZ n32 n9) n35);have HS:=λW (hb:Q w.1.size w W)=>j (tq [b] 0 [b] rfl ak ak W (F hT hb))
 have mQ:kS (b.toNat:N)=f:=by unfold kS;simp;omega
 have h0:gN ⟨[b].toArray⟩ jJ=0:=by
  rw[iR [b] jJ ak,qm b [] hb,au];rw[NK b [] hb];simp only[jJ,afv,mQ];simp
 have HW:=λW (hb:Q w.1.size w W)=>j (wW ⟨[b].toArray⟩ 116 #[] Ld jJ W (λr W' _=>DR r W') (F hT hb))
 rw[h0] at HW;have hi0:∀W,(Instr.index 9 (z ⟨#[b]⟩) (B C 0)).run E W= .ok (.int .u8 (b.toNat:N)) W:=λW=>jM I [b] 0 b rfl W
 have hex:ByteArray.extract ⟨#[b]⟩ 0 1=⟨#[b]⟩:=qI [b] 1;have hsl:∀W,(Instr.slice 9 (z ⟨#[b]⟩) (S (B C 0)) o o).run E W= .ok (z ⟨#[b]⟩) W:=λW=>oZ I [b] 0 ak W
 have e10:((b.toNat:N)==10)=f:=aU.2 ah;have e46:((b.toNat:N)==46)=f:=aU.2 ah;have e45:((b.toNat:N)==45)=f:=aU.2 ah;have hw32:wrap32 (b.toNat:N)=(b.toNat:N):=IntWalk.wrap32_in _ (by have:=b.toNat_lt;omega);have hempty:(([b]:Bs)==([]:Bs))=f:=rfl;clear hb n32 n9 n10 n35 n46 n45 ZA afv h0 hT;go_enter func137,ntmps137;go_wp2_with fail;refine(HS _ (aA (y _ _) _)).q.mono ?_;rintro e w1 ⟨rfl,hb1⟩;have HB1:=j ((aA (y w.1.size w) (A (aI 0 0 [] f) 202)).trans (hb1.mono ak));have eX:=j ((H w (aI 0 0 [] f) 202).keep hb1);clear hb1;rw[fO.q.1,fO.q.2];go_wp2_with fail;refine(oh _ _).mono ?_;rintro e w3 ⟨rfl,hb3⟩;rw[mQ];have HB3:=j ((aA HB1.q (A (aI 0 0 [] f) 202)).trans (hb3.mono (by have:=HB1.q.size;simp;omega)));have kZ:=j ((eX.q.alloc (A (aI 0 0 [] f) 202)).keep hb3);clear hb3;go_wp2_with fail;refine(HW _ HB3.q).q.mono ?_;rintro e w4 ⟨rfl,hb4⟩;have ig:=j (HB3.q.bZ hb4);have hx4:=kZ.q.keep hb4;have hc4:=hx4.1;have hf4:=hx4.2.1;clear hb4 hx4;go_wp2_with fail;refine J (v:= .tuple #[.agg (aI 0 0 [] f),B C 0,B C 120]) (by simp[results,results137,go_sem,hc4]) rfl ⟨0,0,[],0,120,⟨f,rfl,?_⟩,by decide⟩;exact(((ig.q.setCell (p:=⟨w.1.size,0,o⟩) (aB _) _).setCell (p:=⟨w.1.size,1,o⟩) (aB _) _).setCell (p:=⟨w.1.size,2,o⟩) (aB _) _).setCell (p:=⟨w.1.size,3,o⟩) (aB _) _
theorem Wo (l1:Bs)(c:Nat)(hc:U ⟨l1.toArray⟩ 0=(c,l1.length))(hok:okB ⟨l1.toArray⟩ 0=P)(h1:1<=l1.length)(h4:l1.length<=4)(w:M)(hT:G 6 7 w):
  O E 137 #[z ⟨l1.toArray⟩,B C 0] w (vS (kC (c:N)) w):=by
 have hne:l1≠[]:=by intro e;rw[e] at h1;simp at h1
 cases hl:kC (c:N)
 .obtain⟨b,t,rfl⟩:∃b t,l1=b::t:=by cases l1 with
   |nil=>exact absurd rfl hne
   |cons b t=>exact⟨b,t,rfl⟩
  have hb:b.toNat<128:=by
   rcases gP b.toNat 128 with h|h
   .exact h
   .have:=(zx b t h).1
    rw[hc] at this;simp[kC] at hl;simp at this;omega
  rw[qm b t hb] at hc;obtain⟨rfl,hlen⟩:b.toNat=c/\1=(b::t).length:=by injection hc with e1 e2;exact⟨e1,e2⟩
  obtain rfl:t=[]:=Av (by simp at hlen;simpa using hlen);by_cases k32:b.toNat=32
  .obtain rfl:b=32:=jm.1 k32;exact afp w hT
  by_cases k9:b.toNat=9
  .obtain rfl:b=9:=jm.1 k9;exact aj1 w hT
  by_cases k10:b.toNat=10
  .obtain rfl:b=10:=jm.1 k10;exact afr w hT
  by_cases k35:b.toNat=35
  .obtain rfl:b=35:=jm.1 k35;exact afq w hT
  by_cases k46:b.toNat=46
  .obtain rfl:b=46:=jm.1 k46;exact afs w hT
  by_cases k45:b.toNat=45
  .obtain rfl:b=45:=jm.1 k45;exact aft w hT
  by_cases kn:48<=b.toNat/\b.toNat<=57
  .exact afu b kn.1 kn.2 w hT
  exact Zz b hb k32 k9 k10 k35 k46 k45 kn hl w hT
 .have hbg:dJ l1=P:=by
   unfold dJ;rw[hok,hc,show((c,l1.length):Nat × Nat).1=c from rfl,hl]
   cases l1 with
   |nil=>exact absurd rfl hne
   |cons b t=>rfl
  have hrun:dX l1=l1.length:=by
   unfold dX;rw[iR l1 jJ hne,hok,hc];simp only[jJ,hl];rw[av ak,List.drop_length]
   rfl
  have:=R6 l1 0 l1 rfl (aZ _) ah hbg w hT;refine this.mono ?_;intro e w' h;rw[hrun,au ah] at h;exact⟨1,_,_,_,0,h,by decide⟩
theorem Uk {R p:Nat}{s:Bs}{c:bE}{n:aH}(w:M)(h:eP w R s p [] c n):O E 185 #[Y (S ⟨R,0,o⟩)] w (dw (.bool f) w):=by
 have hlim:=h.lim;have hle:=h.le;have hsl:=λW=>oZ I s p hle W
 rw[h.d] at hsl;have HH:=j h;clear h;go_enter func185,ntmps185;go_wp2_with fail;refine aC 10 [(0,0),(1,0),(2,0),(3,0),(4,0),(5,0),(6,0),(7,0),(8,0),(9,2)] (λ_=>True) (λW'=>W'.cell? ⟨R,0,o⟩=S (z ⟨s.toArray⟩)/\W'.cell? ⟨R,1,o⟩=S (B C p)) ay ay (trivial) (⟨HH.q.drew.c0,HH.q.drew.c1⟩) ?_;refine qC ?_;refine aF rfl rfl (λK hK=>?_);go_simp;refine hK _ _ ⟨D,?_,?_⟩ ?_
 .exact(HH.q.drew.below (jV _ _)).c0
 .exact(HH.q.drew.below (jV _ _)).c1
 clear hK K;refine aP ?_;have hnx:∀ty,(Instr.next (Y (S ⟨w.1.size,0,o⟩)) P ty).run E (w.drew.iter ⟨([]:Bs).toArray⟩ 0)=_:=λty=>Lib.run_next_end_at _ w.1.size ⟨([]:Bs).toArray⟩ 0 ty (World.iter_heap w.drew _ 0) aj
 go_wp2_with fail
 go_loopw [] (λwr=>wr=w.drew.iter ⟨([]:Bs).toArray⟩ 0) (λ_=>0)
 case atStart=>rfl
 case round=>
  subst hrel;go_wp2_with fail;go_ret;exact⟨rfl,(y w.1.size w).drew.trans (jV w.drew ⟨([]:Bs).toArray⟩)⟩
theorem JX {R p:Nat}{s:Bs}{b:UInt8}{t:Bs}{c:bE}{n:aH}(w:M)(h:eP w R s p (b::t) c n)(rn d:Nat)(hrd:U ⟨(b::t).toArray⟩ 0=(rn,d))(u:Bs)(henc:Utf8.encode (rn:N)=⟨u.toArray⟩)(x hp:Bool)
  (HN:∀W,Q w.1.size w W->O E 137 #[z ⟨u.toArray⟩,B C 0] W (vS x W)) (HP:∀W,O E 197 #[z ⟨(b::t).toArray⟩,z ⟨u.toArray⟩] W (λe w'=>e= .returned (.bool hp)/\w'=W)):
  O E 185 #[Y (S ⟨R,0,o⟩)] w (dw (.bool (x && hp)) w):=by
 have hlim:=h.lim;have hle:=h.le;have hsl:=λW=>oZ I s p hle W
 rw[h.d] at hsl;have HH:=j h;have HN':=j HN;have HP':=j HP;have wX:=j hrd;clear h HN HP;have hsz0:w.drew.1.size=w.1.size:=rfl;go_enter func185,ntmps185;go_wp2_with fail;refine aC 10 [(0,0),(1,0),(2,0),(3,0),(4,0),(5,0),(6,0),(7,0),(8,0),(9,2)] (λ_=>True) (λW'=>W'.cell? ⟨R,0,o⟩=S (z ⟨s.toArray⟩)/\W'.cell? ⟨R,1,o⟩=S (B C p)) ay ay (trivial) (⟨HH.q.drew.c0,HH.q.drew.c1⟩) ?_;refine qC ?_;refine aF rfl rfl (λK hK=>?_);go_simp;refine hK _ _ ⟨D,?_,?_⟩ ?_
 .exact(HH.q.drew.below (jV _ _)).c0
 .exact(HH.q.drew.below (jV _ _)).c1
 clear hK K;refine aP ?_;have hnx:∀ty,(Instr.next (Y (S ⟨w.1.size,0,o⟩)) P ty).run E (w.drew.iter ⟨(b::t).toArray⟩ 0)=_:=λty=>Lib.run_next_any_at _ w.1.size ⟨(b::t).toArray⟩ 0 ty (World.iter_heap w.drew _ 0) (by rw[gQ];simp)
 rw[hrd] at hnx;have hbw:Q w.1.size w (w.drew.iter ⟨(b::t).toArray⟩ 0):=(y w.1.size w).drew.trans (jV w.drew _);have hbz:=Lib.below_iterAt hbw (k:=w.1.size) (aB _) ⟨(b::t).toArray⟩ (0+d);have mK:=j hbz;have HZ:=j (HH.q.below hbz);clear hbz hrd hbw;go_wp2_with fail
 go_loopw [] (λwr=>wr=w.drew.iter ⟨(b::t).toArray⟩ 0) (λ_=>0)
 case atStart=>rfl
 case round=>
  subst hrel;revert hnx mK HZ;generalize((w.drew.iter ⟨(b::t).toArray⟩ 0).iterAt w.1.size ⟨(b::t).toArray⟩ (0+d))=Z;intro hnx mK HZ;go_wp2_with fail;refine(HN'.q Z mK.q).mono ?_;rintro e w2 ⟨k,a,tt,nx,er,⟨g,rfl,hb2⟩,iT⟩;have HB2:=j (mK.q.bZ hb2);have hz2:=HZ.q.below hb2;have H2:=j (hz2.below (aA (y _ _) (A (aI k a tt g) 202)));have hct:=(H w2 (aI k a tt g) 202).1;have c0:=H2.q.c0;have c1:=H2.q.c1;clear hb2 hz2 hnx
  cases her:(er==0)
  .have HX:T (x=f):=j (by rw[<-iT,her];rfl)
   clear iT
   go_wp2_with (go_quiet (fail))
   go_ret;exact⟨by rw[HX.q];rfl,gu (aA HB2.q _) _⟩
  .cases hek:(k==1)
   .have HX:T (x=f):=j (by rw[<-iT,her,hek];rfl)
    clear iT
    go_wp2_with (go_quiet (fail))
    go_ret;exact⟨by rw[HX.q];rfl,gu (aA HB2.q _) _⟩
   .have HX:T (x=P):=j (by rw[<-iT,her,hek];rfl)
    clear iT
    go_wp2_with (go_quiet (exact(HP'.q _).mono (λe w'' h=>⟨h.1,_,h.2⟩)))
    go_ret;exact⟨by rw[HX.q];rfl,gu (aA HB2.q _) _⟩
theorem Ro (l:Bs)(k:Nat):L l (l.take k)=P:=by
 unfold L;rw[List.isPrefixOf_iff_prefix];exact List.take_prefix _ _
theorem LW {R p:Nat}{s l:Bs}{c:bE}{n:aH}(w:M)(h:eP w R s p l c n)(hT:G 6 7 w):O E 185 #[Y (S ⟨R,0,o⟩)] w (dw (.bool (dJ l)) w):=by
 cases l with
 |nil=>exact Uk w h
 |cons b t=>
  obtain⟨rn,hrn⟩:∃rn,rn=(U ⟨(b::t).toArray⟩ 0).1:=⟨_,rfl⟩;obtain⟨d,hd⟩:∃d,d=(U ⟨(b::t).toArray⟩ 0).2:=⟨_,rfl⟩;have hrd:U ⟨(b::t).toArray⟩ 0=(rn,d):=by rw[hrn,hd]
  have hdl:d<=(b::t).length:=by rw[hd];exact zy _ ak
  have hd1:1<=d:=by rw[hd];exact Aw _ ak
  have hB:dJ (b::t)=(okB ⟨(b::t).toArray⟩ 0 && kC (rn:N)):=by
   unfold dJ;rw[<-hrn];rfl
  rw[hB]
  cases hok:okB ⟨(b::t).toArray⟩ 0
  .have hbad:rn=65533/\¬d=3:=by
    unfold okB at hok;rw[<-hrn,<-hd] at hok;simp at hok;omega
   have hpre:L (b::t) [239,191,189]=f:=by
    cases hpx:L (b::t) [239,191,189]
    .rfl
    .exfalso
     unfold L at hpx;rw[List.isPrefixOf_iff_prefix] at hpx;obtain⟨r,hr⟩:=hpx;have h3:3<=ByteArray.size ⟨(b::t).toArray⟩:=by rw[gQ,<-hr];simp
     have:=(anb ⟨(b::t).toArray⟩ h3 (by rw[<-hrn];exact hbad.1)).2 (by rw[<-hr,qI];rfl);exact hbad.2 (by rw[hd];exact this)
   have:=JX w h rn d hrd [239,191,189] (by rw[hbad.1];rfl) P f
    (λW hb=>Wo [239,191,189] 65533 aj aj aj aj W (F hT hb))
    (λW=>by
     have:=Tryz.strings_HasPrefix ⟨(b::t).toArray⟩ ⟨([239,191,189]:Bs).toArray⟩ W;rw[show L (⟨(b::t).toArray⟩:ByteArray).data.toList (⟨([239,191,189]:Bs).toArray⟩:ByteArray).data.toList=f from hpre] at this;exact this)
   exact this
  .obtain⟨f1',f2,f3⟩:=Ul (b::t) ak hok
   rw[<-hrn,<-hd] at f1';rw[<-hd,hrd] at f2;have hlen:((b::t).take d).length=d:=by rw[fE];omega
   have hok2:okB ⟨((b::t).take d).toArray⟩ 0=P:=by
    unfold okB at hok ⊢;rw[f2];rw[hrd] at hok;exact hok
   have:=JX w h rn d hrd ((b::t).take d) f1' (kC (rn:N)) P
    (λW hb=>Wo ((b::t).take d) rn (by rw[f2,hlen]) hok2 ah (by rw[hlen,hd];exact f3) W (F hT hb))
    (λW=>by
     have:=Tryz.strings_HasPrefix ⟨(b::t).toArray⟩ ⟨((b::t).take d).toArray⟩ W;rw[show L (⟨(b::t).toArray⟩:ByteArray).data.toList (⟨((b::t).take d).toArray⟩:ByteArray).data.toList=P from Ro (b::t) d] at this;exact this)
   rw[Bool.and_true] at this;rw[Ay];exact this
theorem eP.apart {w:M}{R p:Nat}{s l:Bs}{c:bE}{n:aH}(h:eP w R s p l c n)(b:Nat)(hb:oO R c b)(k a:N)(t:Bs)(g:Bool):
  eP ((((w.setCell ⟨b,0,o⟩ (B C k)).setCell ⟨b,1,o⟩ (B C a)).setCell ⟨b,2,o⟩ (z ⟨t.toArray⟩)).setCell ⟨b,3,o⟩ (.bool g)) R s p l c n:=by
 have hs:∀{w:M}(h:eP w R s p l c n)(i:Nat)(v:Value),eP (w.setCell ⟨b,i,o⟩ v) R s p l c n:=fun {w} h i v=>
  ⟨h.x.setOther b i v (Ne.symm hb.1),⟨h.n.1,h.n.2.1.block λg hg=>Below.heap_setCell _ _ _ _ (by rintro rfl;exact hb.2.1 hg),h.n.2.2.block λg hg=>Below.heap_setCell _ _ _ _ (by rintro rfl;exact hb.2.2 hg)⟩,h.d,h.le,h.lim⟩
 exact hs (hs (hs (hs h 0 _) 1 _) 2 _) 3 _
theorem GQ {R p:Nat}{s l:Bs}{c:bE}{n:aH}(w:M)(h:eP w R s p l c n)(hT:G 6 7 w):
  O E 181 #[Y (S ⟨R,0,o⟩)] w (ou R s c n w (λm:Bs=> z ⟨m.toArray⟩) (dF l)):=by
 obtain⟨X,hX⟩:∃X,X=dF l:=⟨_,rfl⟩;rw[<-hX];have HX:=j hX;have hlen:=h.len;have hlim:=h.lim;have hle:=h.le;have HE:=j (GR w h);have Fx:=λW (hb:Q w.1.size w W)=>j (LW W (h.below hb) (F hT hb))
 have HH:=j h;clear hX h;by_cases hb:dS l=f/\dJ l=P
 .obtain⟨he,hg⟩:=hb
  have LX:=λW (hb:Q w.1.size w W)=>R6 s p l HH.q.d hle hlim hg W (F hT hb)
  have hrl:dX l<=l.length:=uE _ _ _ (aB _);by_cases xE:24<dX l
  .simp only[av xE] at LX
   have ZB:=N7 (l.take (dX l));obtain⟨q,hq⟩:∃q,q=p+u7 (l.take (dX l)):=⟨_,rfl⟩;rw[<-hq] at LX;have HL:=j LX;have vT:T (dF l= .error (l.drop (u7 (l.take (dX l))),220)):=j (by unfold dF;rw[au (by rw[he,hg];decide),av xE]);have HQ:T (s.length - (l.drop (u7 (l.take (dX l)))).length=q):=j (by rw[gG];omega);rw[he] at HE;have HG:=j hg;clear LX he hg xE ZB hq hT hrl;go_enter func181,ntmps181;go_wp2_with fail;refine HE.q.mono ?_;rintro e w1 ⟨rfl,hb1⟩;have HB1:=j hb1;clear hb1;go_wp2_with fail;refine(Fx _ HB1.q).q.mono ?_;rintro e w2 ⟨rfl,hb2⟩;rw[HG.q];have HB2:=j (HB1.q.bZ hb2);have eF:=j (HH.q.below HB2.q);have yC:=j (eF.q.new (aB _));have c0:=eF.q.c0;have c1:=eF.q.c1;have z1:=f1 eF.q 1;clear hb2;go_wp2_with fail;refine vg 99 (.q 0 0 (.q 1 0 (.q 2 0 (.q 3 0 (.q 4 0 (.q 5 0 (.q 6 0 (.q 7 0 (.alt 8 (.q 9 0 (.q 10 0 (.q 11 0 (.q 12 0 (.l 13 (.l 14 (.q 15 0 (.q 16 0 .nil)))))))) 13 (.l 8 (.q 9 0 (.q 10 0 (.q 11 0 (.q 12 0 (.l 14 (.q 15 0 (.q 16 0 .nil))))))))))))))))) (λ_=>True) (λW'=>W'.cell? ⟨R,0,o⟩=S (z ⟨s.toArray⟩)/\W'.cell? ⟨R,1,o⟩=S (B C p)) ay ay D ⟨eF.q.drew.c0,eF.q.drew.c1⟩ ?_;refine qC ?_;refine⟨?_,?_⟩
   .refine iq rfl rfl (λK hK=>?_)
    go_simp;refine(HL.q _ HB2.q.drew).mono ?_;rintro e w4 ⟨g,rfl,hb4⟩;have hc4:=eF.q.drew.below hb4;have j6:=j hc4;have ig:=j (HB2.q.drew.trans (hb4.mono HB2.q.size));refine hK _ _ ⟨D,hc4.c0,hc4.c1⟩ ?_;clear hK K hb4 hc4 c0 c1 z1;refine qC ?_;refine aF rfl rfl (λK hK=>?_);go_simp;refine hK _ _ ⟨D,(j6.q.below (aA (y _ _) _)).c0,(j6.q.below (aA (y _ _) _)).c1⟩ ?_;clear hK K;refine aF rfl rfl (λK hK=>?_);go_simp;refine hK _ _ ⟨D,(j6.q.below (aA (y _ _) _)).c0,(j6.q.below (aA (y _ _) _)).c1⟩ ?_;clear hK K;refine qC ?_;have kF:=j (j6.q.below (aA (y w4.1.size w4) (A (aI 0 0 [] g) 202)));have kz:=j (aA ig.q (A (aI 0 0 [] g) 202));have nD:=j (H w4 (aI 0 0 [] g) 202);have kP:T (w4.1.size≠R):=j (by have:=j6.q.x.2.2;omega);refine aP ?_;have c0:=kF.q.c0;have c1:=kF.q.c1;have z1:=f1 kF.q 1;have hty:=nD.q.1;have BQ:=j (Mv.of_below (R:=R) (c:=c) kz.q);go_wp2_with fail;refine(mR q 220 _).mono ?_;rintro e w6 ⟨rfl,rfl⟩;refine⟨rfl,?_⟩;show ou R s c n w _ _ _ _;rw[HX.q,vT.q];exact⟨by rw[HQ.q],BQ.q.same⟩
   .refine iq rfl rfl (λK hK=>?_)
    go_simp;refine hK _ _ ⟨D,(eF.q.drew.below (aA (y _ _) _)).c0,(eF.q.drew.below (aA (y _ _) _)).c1⟩ ?_;clear hK K;refine aF rfl rfl (λK hK=>?_);go_simp;refine(HL.q _ (aA HB2.q.drew (A (aI 0 0 [] f) 202))).mono ?_;rintro e w4 ⟨g,rfl,hb4⟩;have hc4:=(eF.q.drew.below (aA (y _ _) (A (aI 0 0 [] f) 202))).below hb4;have j6:=j hc4;have ig:=j ((aA HB2.q.drew (A (aI 0 0 [] f) 202)).trans (hb4.mono (aA HB2.q.drew (A (aI 0 0 [] f) 202)).size));have hy4:Bx w4 w2.1.size (aI 0 0 [] f):=(H w2.drew (aI 0 0 [] f) 202).keep hb4;have nC:=j hy4;have kP:T (w2.1.size≠R):=j (by have:=eF.q.x.2.2;omega);have JY:T (w.1.size<=w2.1.size):=j HB2.q.size;refine hK _ _ ⟨D,hc4.c0,hc4.c1⟩ ?_;clear hK K hb4 hc4 c0 c1 z1 hy4;have hcy:=nC.q.1;have BP:=nC.q.2.1;refine qC ?_;refine aF rfl rfl (λK hK=>?_);go_simp;refine hK _ _ ⟨D,((((j6.q.x.other (p:=⟨w2.1.size,0,o⟩) kP.q.symm _).other (p:=⟨w2.1.size,1,o⟩) kP.q.symm _).other (p:=⟨w2.1.size,2,o⟩) kP.q.symm _).other (p:=⟨w2.1.size,3,o⟩) kP.q.symm _).1 0,((((j6.q.x.other (p:=⟨w2.1.size,0,o⟩) kP.q.symm _).other (p:=⟨w2.1.size,1,o⟩) kP.q.symm _).other (p:=⟨w2.1.size,2,o⟩) kP.q.symm _).other (p:=⟨w2.1.size,3,o⟩) kP.q.symm _).1 1⟩ ?_;clear hK K hcy BP;refine qC ?_;have kF:=j (j6.q.apart w2.1.size yC.q 0 0 [] g);have kz:=j ((((ig.q.setCell (p:=⟨w2.1.size,0,o⟩) JY.q (B C 0)).setCell (p:=⟨w2.1.size,1,o⟩) JY.q (B C 0)).setCell (p:=⟨w2.1.size,2,o⟩) JY.q (z ⟨[].toArray⟩)).setCell (p:=⟨w2.1.size,3,o⟩) JY.q (.bool g));have nD:=j ((((nC.q.bf 0 ak (B C 0)).bf 1 ak (B C 0)).bf 2 ak (z ⟨[].toArray⟩)).bf 3 ak (.bool g));refine aP ?_;have c0:=kF.q.c0;have c1:=kF.q.c1;have z1:=f1 kF.q 1;have hty:=nD.q.1;have BQ:=j (Mv.of_below (R:=R) (c:=c) kz.q);go_wp2_with fail;refine(mR q 220 _).mono ?_;rintro e w6 ⟨rfl,rfl⟩;refine⟨rfl,?_⟩;show ou R s c n w _ _ _ _;rw[HX.q,vT.q];exact⟨by rw[HQ.q],BQ.q.same⟩
  .simp only[au xE] at LX
   obtain⟨q,hq⟩:∃q,q=p+dX l:=⟨_,rfl⟩;rw[<-hq] at LX;have HL:=j LX;have vT:T (dF l= .ok (l.take (dX l),l.drop (dX l))):=j (by unfold dF;rw[au (by rw[he,hg];decide),au xE]);have HQ:=j hq;have Ic:=j hrl;rw[he] at HE;have HG:=j hg;clear LX he hg xE hq hT hrl;go_enter func181,ntmps181;go_wp2_with fail;refine HE.q.mono ?_;rintro e w1 ⟨rfl,hb1⟩;have HB1:=j hb1;clear hb1;go_wp2_with fail;refine(Fx _ HB1.q).q.mono ?_;rintro e w2 ⟨rfl,hb2⟩;rw[HG.q];have HB2:=j (HB1.q.bZ hb2);have eF:=j (HH.q.below HB2.q);have yC:=j (eF.q.new (aB _));have c0:=eF.q.c0;have c1:=eF.q.c1;have z1:=f1 eF.q 1;clear hb2;go_wp2_with fail;refine vg 99 (.q 0 0 (.q 1 0 (.q 2 0 (.q 3 0 (.q 4 0 (.q 5 0 (.q 6 0 (.q 7 0 (.alt 8 (.q 9 0 (.q 10 0 (.q 11 0 (.q 12 0 (.l 13 (.l 14 (.q 15 0 (.q 16 0 .nil)))))))) 13 (.l 8 (.q 9 0 (.q 10 0 (.q 11 0 (.q 12 0 (.l 14 (.q 15 0 (.q 16 0 .nil))))))))))))))))) (λ_=>True) (λW'=>W'.cell? ⟨R,0,o⟩=S (z ⟨s.toArray⟩)/\W'.cell? ⟨R,1,o⟩=S (B C p)) ay ay D ⟨eF.q.drew.c0,eF.q.drew.c1⟩ ?_;refine qC ?_;refine⟨?_,?_⟩
   .refine iq rfl rfl (λK hK=>?_)
    go_simp;refine(HL.q _ HB2.q.drew).mono ?_;rintro e w4 ⟨g,rfl,hb4⟩;have hc4:=eF.q.drew.below hb4;have j6:=j hc4;have ig:=j (HB2.q.drew.trans (hb4.mono HB2.q.size));refine hK _ _ ⟨D,hc4.c0,hc4.c1⟩ ?_;clear hK K hb4 hc4 c0 c1 z1;refine qC ?_;refine aF rfl rfl (λK hK=>?_);go_simp;refine hK _ _ ⟨D,(j6.q.below (aA (y _ _) _)).c0,(j6.q.below (aA (y _ _) _)).c1⟩ ?_;clear hK K;refine aF rfl rfl (λK hK=>?_);go_simp;refine hK _ _ ⟨D,(j6.q.below (aA (y _ _) _)).c0,(j6.q.below (aA (y _ _) _)).c1⟩ ?_;clear hK K;refine qC ?_;have kF:=j (j6.q.below (aA (y w4.1.size w4) (A (aI 1 p (l.take (dX l)) g) 202)));have kz:=j (aA ig.q (A (aI 1 p (l.take (dX l)) g) 202));have nD:=j (H w4 (aI 1 p (l.take (dX l)) g) 202);have kP:T (w4.1.size≠R):=j (by have:=j6.q.x.2.2;omega);refine aP ?_;have c0:=kF.q.c0;have c1:=kF.q.c1;have z1:=f1 kF.q 1;have hty:=nD.q.1;have BQ:=j (Mv.of_below (R:=R) (c:=c) kz.q);have ht:=kF.q.to (dX l) rfl Ic.q q HQ.q;have HT2:=j ht.1;have lM:=j (BQ.q.trans ht.2);have zA:=j (nD.q.setOther R 1 (B C (q:N)) kP.q);have anc:=zA.q.1;clear ht;go_wp2_with fail;go_ret;show ou R s c n w _ _ _ _;rw[HX.q,vT.q];exact⟨rfl,q,HT2.q,lM.q⟩
   .refine iq rfl rfl (λK hK=>?_)
    go_simp;refine hK _ _ ⟨D,(eF.q.drew.below (aA (y _ _) _)).c0,(eF.q.drew.below (aA (y _ _) _)).c1⟩ ?_;clear hK K;refine aF rfl rfl (λK hK=>?_);go_simp;refine(HL.q _ (aA HB2.q.drew (A (aI 0 0 [] f) 202))).mono ?_;rintro e w4 ⟨g,rfl,hb4⟩;have hc4:=(eF.q.drew.below (aA (y _ _) (A (aI 0 0 [] f) 202))).below hb4;have j6:=j hc4;have ig:=j ((aA HB2.q.drew (A (aI 0 0 [] f) 202)).trans (hb4.mono (aA HB2.q.drew (A (aI 0 0 [] f) 202)).size));have hy4:Bx w4 w2.1.size (aI 0 0 [] f):=(H w2.drew (aI 0 0 [] f) 202).keep hb4;have nC:=j hy4;have kP:T (w2.1.size≠R):=j (by have:=eF.q.x.2.2;omega);have JY:T (w.1.size<=w2.1.size):=j HB2.q.size;refine hK _ _ ⟨D,hc4.c0,hc4.c1⟩ ?_;clear hK K hb4 hc4 c0 c1 z1 hy4;have hcy:=nC.q.1;have BP:=nC.q.2.1;refine qC ?_;refine aF rfl rfl (λK hK=>?_);go_simp;refine hK _ _ ⟨D,((((j6.q.x.other (p:=⟨w2.1.size,0,o⟩) kP.q.symm _).other (p:=⟨w2.1.size,1,o⟩) kP.q.symm _).other (p:=⟨w2.1.size,2,o⟩) kP.q.symm _).other (p:=⟨w2.1.size,3,o⟩) kP.q.symm _).1 0,((((j6.q.x.other (p:=⟨w2.1.size,0,o⟩) kP.q.symm _).other (p:=⟨w2.1.size,1,o⟩) kP.q.symm _).other (p:=⟨w2.1.size,2,o⟩) kP.q.symm _).other (p:=⟨w2.1.size,3,o⟩) kP.q.symm _).1 1⟩ ?_;clear hK K hcy BP;refine qC ?_;have kF:=j (j6.q.apart w2.1.size yC.q 1 p (l.take (dX l)) g);have kz:=j ((((ig.q.setCell (p:=⟨w2.1.size,0,o⟩) JY.q (B C 1)).setCell (p:=⟨w2.1.size,1,o⟩) JY.q (B C p)).setCell (p:=⟨w2.1.size,2,o⟩) JY.q (z ⟨(l.take (dX l)).toArray⟩)).setCell (p:=⟨w2.1.size,3,o⟩) JY.q (.bool g));have nD:=j ((((nC.q.bf 0 ak (B C 1)).bf 1 ak (B C p)).bf 2 ak (z ⟨(l.take (dX l)).toArray⟩)).bf 3 ak (.bool g));refine aP ?_;have c0:=kF.q.c0;have c1:=kF.q.c1;have z1:=f1 kF.q 1;have hty:=nD.q.1;have BQ:=j (Mv.of_below (R:=R) (c:=c) kz.q);have ht:=kF.q.to (dX l) rfl Ic.q q HQ.q;have HT2:=j ht.1;have lM:=j (BQ.q.trans ht.2);have zA:=j (nD.q.setOther R 1 (B C (q:N)) kP.q);have anc:=zA.q.1;clear ht;go_wp2_with fail;go_ret;show ou R s c n w _ _ _ _;rw[HX.q,vT.q];exact⟨rfl,q,HT2.q,lM.q⟩
 .have vT:T (dF l= .error (l,220)):=j (by
   unfold dF;rw[av]
   .cases h1:dS l
    .cases h2:dJ l
     .rfl
     .exact absurd ⟨h1,h2⟩ hb
    .rfl)
  have HN:=j hb;have HQ:T (s.length - l.length=p):=j ah;clear hb hT;go_enter func181,ntmps181;go_wp2_with fail;refine HE.q.mono ?_;rintro e w1 ⟨rfl,hb1⟩;have HB1:=j hb1;have c1:=(HH.q.below hb1).c1;clear hb1
  cases he:dS l
  .go_wp2_with fail
   refine(Fx _ HB1.q).q.mono ?_;rintro e w2 ⟨rfl,hb2⟩;rw[show dJ l=f by cases h2:dJ l;rfl;exact absurd ⟨he,h2⟩ HN.q];have HB2:=j (HB1.q.bZ hb2);have c1:=(HH.q.below HB2.q).c1;clear hb2;go_wp2_with fail;refine(mR p 220 _).mono ?_;rintro e w6 ⟨rfl,rfl⟩;refine⟨rfl,?_⟩;show ou R s c n w _ _ _ _;rw[HX.q,vT.q];exact⟨by rw[HQ.q],Same.of_below HB2.q (λ_ _ h=>h)⟩
  .go_wp2_with fail
   refine(mR p 220 _).mono ?_;rintro e w6 ⟨rfl,rfl⟩;refine⟨rfl,?_⟩;show ou R s c n w _ _ _ _;rw[HX.q,vT.q];exact⟨by rw[HQ.q],Same.of_below HB1.q (λ_ _ h=>h)⟩
end Yd
