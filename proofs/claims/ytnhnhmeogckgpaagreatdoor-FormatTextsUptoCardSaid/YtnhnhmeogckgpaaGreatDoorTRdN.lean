import Derived.Test.YtnhnhmeogckgpaaGreatDoorTLxN
import Derived.Test.YtnhnhmeogckgpaaGreatDoorTRdW
import Derived.Test.YtnhnhmeogckgpaaGreatDoorTLnIn
set_option linter.all false
set_option maxRecDepth 200000
set_option maxHeartbeats 8000000
namespace Yd
open Bool renaming false→f,true→O
open Nat renaming le_refl→i
open Option renaming none→m,some→T
open Go Go.RowKit Go.Proofs Tryz
open Below renaming refl→y
open Bx renaming new→J
open Go renaming bodyPost_ret→H,World→L,Calls→M
open Go.IntKind renaming i64→C
open Go.IntWalk renaming i64_in→Q
open Go.Obj renaming cells→A
open Go.Proofs renaming Utf8Tabs_below→D
open Go.Value renaming string→o,int→B,pointer→U
open Lib renaming Utf8Tabs→E,hasPrefix→I
open Tryz renaming prog→z,underlying9→G,strings_HasPrefix→S
open Utf8 renaming decode→P
open Yd renaming hid→j
open _root_ renaming trivial→F,Int→N,ByteArray→V
def qG (x:Bool) (w:L) (e:Ending) (w':L):Prop:=∃(k a:N) (t:Bs) (nx:Nat) (er:N),Ir k a t nx er w e w'∧((er==0 && k==1)=x)
theorem abn (w:L) (hT:E 6 7 w):M z 163 #[o ⟨[32].toArray⟩,B C 0] w (qG f w):=by
 have hex:ByteArray.extract ⟨#[32]⟩ 0 1=⟨#[32]⟩:=mM [32] 1;have HS:=fun W (hb:Below w.heap.size w W)=>j (og [32] 0 [32] rfl ak ak W (D hT hb))
 have dM:Hid (lT [32]=1∧rR [32]=O):=j ⟨by decide,by decide⟩;go_enter func163,ntmps163;go_wp2_with fail;refine(HS _ (av (y _ _) _)).q.mono ?_;rintro e w1 ⟨rfl,hb1⟩;have HB1:=j ((av (y w.heap.size w) (A (ay 0 0 [] f) 162)).trans (hb1.mono ak));have cK:=j ((J w (ay 0 0 [] f) 162).keep hb1);clear hb1;rw[dM.q.1,dM.q.2];have hcx:=(cK.q.alloc (A (ay 0 1 [] f) 162)).1;have hfx:=(cK.q.alloc (A (ay 0 1 [] f) 162)).2.1;have ji:=j (av HB1.q (A (ay 0 1 [] f) 162));go_wp2_with fail;refine H (v:= .tuple #[.agg (ay 5 1 [] f),B C 1,B C 0]) (by simp[results,results163,go_sem,hcx]) rfl ⟨5,1,[],1,0,⟨f,rfl,?_⟩,by decide⟩;exact(((ji.q.setCell (p:=⟨w.heap.size,0,m⟩) (i _) _).setCell (p:=⟨w.heap.size,1,m⟩) (i _) _).setCell (p:=⟨w.heap.size,2,m⟩) (i _) _).setCell (p:=⟨w.heap.size,3,m⟩) (i _) _
theorem aeZ (w:L) (hT:E 6 7 w):M z 163 #[o ⟨[9].toArray⟩,B C 0] w (qG f w):=by
 have hex:ByteArray.extract ⟨#[9]⟩ 0 1=⟨#[9]⟩:=mM [9] 1;have HS:=fun W (hb:Below w.heap.size w W)=>j (og [9] 0 [9] rfl ak ak W (D hT hb))
 have dM:Hid (lT [9]=1∧rR [9]=O):=j ⟨by decide,by decide⟩;go_enter func163,ntmps163;go_wp2_with fail;refine(HS _ (av (y _ _) _)).q.mono ?_;rintro e w1 ⟨rfl,hb1⟩;have HB1:=j ((av (y w.heap.size w) (A (ay 0 0 [] f) 162)).trans (hb1.mono ak));have cK:=j ((J w (ay 0 0 [] f) 162).keep hb1);clear hb1;rw[dM.q.1,dM.q.2];have hcx:=(cK.q.alloc (A (ay 0 1 [] f) 162)).1;have hfx:=(cK.q.alloc (A (ay 0 1 [] f) 162)).2.1;have ji:=j (av HB1.q (A (ay 0 1 [] f) 162));go_wp2_with fail;refine H (v:= .tuple #[.agg (ay 5 1 [] f),B C 1,B C 0]) (by simp[results,results163,go_sem,hcx]) rfl ⟨5,1,[],1,0,⟨f,rfl,?_⟩,by decide⟩;exact(((ji.q.setCell (p:=⟨w.heap.size,0,m⟩) (i _) _).setCell (p:=⟨w.heap.size,1,m⟩) (i _) _).setCell (p:=⟨w.heap.size,2,m⟩) (i _) _).setCell (p:=⟨w.heap.size,3,m⟩) (i _) _
theorem abo (w:L) (hT:E 6 7 w):M z 163 #[o ⟨[35].toArray⟩,B C 0] w (qG f w):=by
 have hex:ByteArray.extract ⟨#[35]⟩ 0 1=⟨#[35]⟩:=mM [35] 1;have HS:=fun W (hb:Below w.heap.size w W)=>j (og [35] 0 [35] rfl ak ak W (D hT hb))
 have dM:Hid (lT [35]=1∧rR [35]=O):=j ⟨by decide,by decide⟩;go_enter func163,ntmps163;go_wp2_with fail;refine(HS _ (av (y _ _) _)).q.mono ?_;rintro e w1 ⟨rfl,hb1⟩;have HB1:=j ((av (y w.heap.size w) (A (ay 0 0 [] f) 162)).trans (hb1.mono ak));have cK:=j ((J w (ay 0 0 [] f) 162).keep hb1);clear hb1;rw[dM.q.1,dM.q.2];have hcx:=(cK.q.alloc (A (ay 0 1 [] f) 162)).1;have hfx:=(cK.q.alloc (A (ay 0 1 [] f) 162)).2.1;have ji:=j (av HB1.q (A (ay 0 1 [] f) 162));go_wp2_with fail;refine H (v:= .tuple #[.agg (ay 5 1 [] f),B C 1,B C 0]) (by simp[results,results163,go_sem,hcx]) rfl ⟨5,1,[],1,0,⟨f,rfl,?_⟩,by decide⟩;exact(((ji.q.setCell (p:=⟨w.heap.size,0,m⟩) (i _) _).setCell (p:=⟨w.heap.size,1,m⟩) (i _) _).setCell (p:=⟨w.heap.size,2,m⟩) (i _) _).setCell (p:=⟨w.heap.size,3,m⟩) (i _) _
theorem abp (w:L) (hT:E 6 7 w):M z 163 #[o ⟨[10].toArray⟩,B C 0] w (qG f w):=by
 have hex:ByteArray.extract ⟨#[10]⟩ 0 1=⟨#[10]⟩:=mM [10] 1;have HS:=fun W (hb:Below w.heap.size w W)=>j (og [10] 0 [10] rfl ak ak W (D hT hb))
 have dM:Hid (lT [10]=0∧rR [10]=O):=j ⟨by decide,by decide⟩;go_enter func163,ntmps163;go_wp2_with fail;refine(HS _ (av (y _ _) _)).q.mono ?_;rintro e w1 ⟨rfl,hb1⟩;have HB1:=j ((av (y w.heap.size w) (A (ay 0 0 [] f) 162)).trans (hb1.mono ak));have cK:=j ((J w (ay 0 0 [] f) 162).keep hb1);clear hb1;rw[dM.q.1,dM.q.2];have hcx:=(cK.q.alloc (A (ay 0 0 [] f) 162)).1;have hfx:=(cK.q.alloc (A (ay 0 0 [] f) 162)).2.1;have ji:=j (av HB1.q (A (ay 0 0 [] f) 162));go_wp2_with fail;refine H (v:= .tuple #[.agg (ay 4 0 [10] f),B C 1,B C 0]) (by simp[results,results163,go_sem,hcx]) rfl ⟨4,0,[10],1,0,⟨f,rfl,?_⟩,by decide⟩;exact(((ji.q.setCell (p:=⟨w.heap.size,0,m⟩) (i _) _).setCell (p:=⟨w.heap.size,1,m⟩) (i _) _).setCell (p:=⟨w.heap.size,2,m⟩) (i _) _).setCell (p:=⟨w.heap.size,3,m⟩) (i _) _
theorem abq (w:L) (hT:E 6 7 w):M z 163 #[o ⟨[46].toArray⟩,B C 0] w (qG f w):=by
 have hex:ByteArray.extract ⟨#[46]⟩ 0 1=⟨#[46]⟩:=mM [46] 1;have HS:=fun W (hb:Below w.heap.size w W)=>j (og [46] 0 [46] rfl ak ak W (D hT hb))
 have dM:Hid (lT [46]=0∧rR [46]=O):=j ⟨by decide,by decide⟩;go_enter func163,ntmps163;go_wp2_with fail;refine(HS _ (av (y _ _) _)).q.mono ?_;rintro e w1 ⟨rfl,hb1⟩;have HB1:=j ((av (y w.heap.size w) (A (ay 0 0 [] f) 162)).trans (hb1.mono ak));have cK:=j ((J w (ay 0 0 [] f) 162).keep hb1);clear hb1;rw[dM.q.1,dM.q.2];have eH:=j (av HB1.q (A (ay 0 0 [] f) 162));have mY:=j (cK.q.alloc (A (ay 0 0 [] f) 162));have j4:=j (J w1 (ay 0 0 [] f) 162);have HZ3:=j (show w.heap.size<w1.heap.size from cK.q.2.2);clear HB1 cK;go_wp2_with fail
 trace_state
 generalize w1.alloc (A (ay 0 0 [] f) 162)=w4 at eH mY j4 ⊢;generalize w1.heap.size=tb at j4 HZ3 ⊢;have hcy:=j4.q.1;have xO:=j4.q.2.1;go_wp2_with fail;refine aK 99 [(0,0),(1,0),(2,0),(3,2),(4,0),(5,2)] (fun _=>True) (fun _=>True) au au (trivial) (trivial) ?_;refine qC ?_;refine aF rfl rfl (fun K hK=>?_);go_simp;refine hK _ _ ⟨F,F⟩ ?_;clear hK K;refine qC ?_;refine aF rfl rfl (fun K hK=>?_);go_simp;refine hK _ _ ⟨F,F⟩ ?_;clear hK K;refine bB ?_;have kR:=j (((j4.q.aR 0 ak (B C 3)).aR 2 ak (o ⟨[46].toArray⟩)).drew);have oU:=j (((mY.q.setOther tb 0 (B C 3) (by have:=HZ3.q;omega)).setOther tb 2 (o ⟨[46].toArray⟩) (by have:=HZ3.q;omega)).drew);have gY:=j (((eH.q.setCell (p:=⟨tb,0,m⟩) (by have:=HZ3.q;show _≤tb;omega) (B C 3)).setCell (p:=⟨tb,2,m⟩) (by have:=HZ3.q;show _≤tb;omega) (o ⟨[46].toArray⟩)).drew);generalize((w4.setCell ⟨tb,0,m⟩ (B C 3)).setCell ⟨tb,2,m⟩ (o ⟨[46].toArray⟩)).drew=Z at kR oU gY ⊢;clear hcy xO mY j4 eH;have hcz:=oU.q.1;have hfz:=oU.q.2.1;go_wp2_with fail;refine aK 99 [(0,0),(1,0),(2,0),(3,0),(4,0),(5,0),(6,2),(7,0),(8,0)] (fun _=>True) (fun W'=>Bx W' tb (ay 3 0 [46] f)) au au (trivial) (kR.q.drew) ?_;refine qC ?_;refine aF rfl rfl (fun K hK=>?_);go_simp;refine hK _ _ ⟨F,(((kR.q.drew.setOther w.heap.size 0 _ (by have:=HZ3.q;omega)).setOther w.heap.size 1 _ (by have:=HZ3.q;omega)).setOther w.heap.size 2 _ (by have:=HZ3.q;omega)).setOther w.heap.size 3 _ (by have:=HZ3.q;omega)⟩ ?_;clear hK K;refine qC ?_;refine bB ?_;go_wp2_with fail;have hwq:IntKind.i64.wrap 1=1:=Q 1 ah;refine H (v:= .tuple #[.agg (ay 3 0 [46] f),B C 1,B C 0]) (by simp[results,results163,go_sem,hcz,hwq]) rfl ⟨3,0,[46],1,0,⟨f,rfl,?_⟩,by decide⟩;exact((((gY.q.drew).setCell (p:=⟨w.heap.size,0,m⟩) (i _) _).setCell (p:=⟨w.heap.size,1,m⟩) (i _) _).setCell (p:=⟨w.heap.size,2,m⟩) (i _) _).setCell (p:=⟨w.heap.size,3,m⟩) (i _) _
theorem abr (w:L) (hT:E 6 7 w):M z 163 #[o ⟨[45].toArray⟩,B C 0] w (qG f w):=by
 have hex:ByteArray.extract ⟨#[45]⟩ 0 1=⟨#[45]⟩:=mM [45] 1;have HS:=fun W (hb:Below w.heap.size w W)=>j (og [45] 0 [45] rfl ak ak W (D hT hb))
 have dM:Hid (lT [45]=0∧rR [45]=O):=j ⟨by decide,by decide⟩;go_enter func163,ntmps163;go_wp2_with fail;refine(HS _ (av (y _ _) _)).q.mono ?_;rintro e w1 ⟨rfl,hb1⟩;have HB1:=j ((av (y w.heap.size w) (A (ay 0 0 [] f) 162)).trans (hb1.mono ak));have cK:=j ((J w (ay 0 0 [] f) 162).keep hb1);clear hb1;rw[dM.q.1,dM.q.2];have eH:=j (av HB1.q (A (ay 0 0 [] f) 162));have mY:=j (cK.q.alloc (A (ay 0 0 [] f) 162));have j4:=j (J w1 (ay 0 0 [] f) 162);have HZ3:=j (show w.heap.size<w1.heap.size from cK.q.2.2);clear HB1 cK;go_wp2_with fail
 trace_state
 generalize w1.alloc (A (ay 0 0 [] f) 162)=w4 at eH mY j4 ⊢;generalize w1.heap.size=tb at j4 HZ3 ⊢;have hcy:=j4.q.1;have xO:=j4.q.2.1;go_wp2_with fail;refine aK 99 [(0,0),(1,0),(2,0),(3,2),(4,0),(5,2)] (fun _=>True) (fun _=>True) au au (trivial) (trivial) ?_;refine qC ?_;refine aF rfl rfl (fun K hK=>?_);go_simp;refine hK _ _ ⟨F,F⟩ ?_;clear hK K;refine qC ?_;refine aF rfl rfl (fun K hK=>?_);go_simp;refine hK _ _ ⟨F,F⟩ ?_;clear hK K;refine bB ?_;have kR:=j (((j4.q.aR 0 ak (B C 3)).aR 2 ak (o ⟨[45].toArray⟩)).drew);have oU:=j (((mY.q.setOther tb 0 (B C 3) (by have:=HZ3.q;omega)).setOther tb 2 (o ⟨[45].toArray⟩) (by have:=HZ3.q;omega)).drew);have gY:=j (((eH.q.setCell (p:=⟨tb,0,m⟩) (by have:=HZ3.q;show _≤tb;omega) (B C 3)).setCell (p:=⟨tb,2,m⟩) (by have:=HZ3.q;show _≤tb;omega) (o ⟨[45].toArray⟩)).drew);generalize((w4.setCell ⟨tb,0,m⟩ (B C 3)).setCell ⟨tb,2,m⟩ (o ⟨[45].toArray⟩)).drew=Z at kR oU gY ⊢;clear hcy xO mY j4 eH;have hcz:=oU.q.1;have hfz:=oU.q.2.1;go_wp2_with fail;refine aK 99 [(0,0),(1,0),(2,0),(3,0),(4,0),(5,0),(6,2),(7,0),(8,0)] (fun _=>True) (fun W'=>Bx W' tb (ay 3 0 [45] f)) au au (trivial) (kR.q.drew) ?_;refine qC ?_;refine aF rfl rfl (fun K hK=>?_);go_simp;refine hK _ _ ⟨F,(((kR.q.drew.setOther w.heap.size 0 _ (by have:=HZ3.q;omega)).setOther w.heap.size 1 _ (by have:=HZ3.q;omega)).setOther w.heap.size 2 _ (by have:=HZ3.q;omega)).setOther w.heap.size 3 _ (by have:=HZ3.q;omega)⟩ ?_;clear hK K;refine qC ?_;refine bB ?_;go_wp2_with fail;have hwq:IntKind.i64.wrap 1=1:=Q 1 ah;refine H (v:= .tuple #[.agg (ay 3 0 [45] f),B C 1,B C 0]) (by simp[results,results163,go_sem,hcz,hwq]) rfl ⟨3,0,[45],1,0,⟨f,rfl,?_⟩,by decide⟩;exact((((gY.q.drew).setCell (p:=⟨w.heap.size,0,m⟩) (i _) _).setCell (p:=⟨w.heap.size,1,m⟩) (i _) _).setCell (p:=⟨w.heap.size,2,m⟩) (i _) _).setCell (p:=⟨w.heap.size,3,m⟩) (i _) _
theorem UD:∀args w,(callFunc 189 args).run z w= .ok (.enter 189 args) w:=enters_of func189 au rfl
theorem abt (b:UInt8) (h48:48≤b.toNat) (h57:b.toNat≤57) (w:L) (hT:E 6 7 w):M z 163 #[o ⟨[b].toArray⟩,B C 0] w (qG f w):=by
 have hi0:∀W,(Instr.index 9 (o ⟨#[b]⟩) (B C 0)).run z W= .ok (.int .u8 (b.toNat:N)) W:=fun W=>gQ G [b] 0 b rfl W
 have jR:iY (b.toNat:N)=O:=by unfold iY;simp;omega
 have h1:dO ⟨[b].toArray⟩ iY=1:=by
  rw[dY [b] iY ak,mh b [] ah,if_pos]
  ·rfl
  ·rw[Iu b [] ah,jR];rfl
 have HW:=fun W (hb:Below w.heap.size w W)=>j (rQ ⟨[b].toArray⟩ 189 #[] UD iY W (fun r W' _=>kJ r W') (D hT hb))
 rw[h1] at HW;have HD:=fun W=>j (YU b h48 h57 W)
 have hex:ByteArray.extract ⟨#[b]⟩ 0 1=⟨#[b]⟩:=mM [b] 1;have hsl:∀W,(Instr.slice 9 (o ⟨#[b]⟩) (T (B C 0)) m m).run z W= .ok (o ⟨#[b]⟩) W:=fun W=>lG G [b] 0 ak W
 have HS:=fun W (hb:Below w.heap.size w W)=>j (og [b] 0 [b] rfl ak ak W (D hT hb))
 have dM:=j (Bc (b:=b) (t:=[]) (JE ah ah) ah);have e10:((b.toNat:N)==10)=f:=beq_eq_false_iff_ne.2 ah;have e46:((b.toNat:N)==46)=f:=beq_eq_false_iff_ne.2 ah;have e45:((b.toNat:N)==45)=f:=beq_eq_false_iff_ne.2 ah;have hw32:wrap32 (b.toNat:N)=(b.toNat:N):=IntWalk.wrap32_in _ (by have:=b.toNat_lt;omega);have hempty:(([b]:Bs)==([]:Bs))=f:=rfl;clear h48 h57 h1 hT
 cases h0:((b.toNat:N)==48)
 all_goals
  go_enter func163,ntmps163;go_wp2_with fail;refine(HS _ (av (y _ _) _)).q.mono ?_;rintro e w1 ⟨rfl,hb1⟩;have HB1:=j ((av (y w.heap.size w) (A (ay 0 0 [] f) 162)).trans (hb1.mono ak));have cK:=j ((J w (ay 0 0 [] f) 162).keep hb1);clear hb1;rw[dM.q.1,dM.q.2];go_wp2_with fail;refine(kJ _ _).mono ?_;rintro e w3 ⟨rfl,hb3⟩;rw[jR];have HB3:=j ((av HB1.q (A (ay 0 0 [] f) 162)).trans (hb3.mono (by have:=HB1.q.size;simp;omega)));have gL:=j ((cK.q.alloc (A (ay 0 0 [] f) 162)).keep hb3);have vJ:=j ((J w1 (ay 0 0 [] f) 162).keep hb3);have HZ3:=j (show w.heap.size<w1.heap.size from cK.q.2.2);clear hb3;go_wp2_with fail;refine(HW _ HB3.q).q.mono ?_;rintro e w5 ⟨rfl,hb5⟩;have gY:=j (HB3.q.bq hb5);have oU:=j (gL.q.keep hb5);have kR:=j (vJ.q.keep hb5);clear hb5 HB3 gL vJ;go_wp2_with fail;refine(HD _).q.mono ?_;rintro e w4 ⟨rfl,hb4⟩;have eH:=j (gY.q.bq hb4);have mY:=j (oU.q.keep hb4);have j4:=j (kR.q.keep hb4);clear hb4 gY oU kR HB1 cK;generalize w1.heap.size=tb at j4 HZ3 ⊢;have hcy:=j4.q.1;have xO:=j4.q.2.1;go_wp2_with fail;refine aK 99 [(0,0),(1,0),(2,0),(3,0),(4,2),(5,0),(6,2)] (fun _=>True) (fun _=>True) au au (trivial) (trivial) ?_;refine qC ?_;refine aF rfl rfl (fun K hK=>?_);go_simp;refine hK _ _ ⟨F,F⟩ ?_;clear hK K;refine qC ?_;refine aF rfl rfl (fun K hK=>?_);go_simp;refine hK _ _ ⟨F,F⟩ ?_;clear hK K;refine bB ?_;have kR:=j (((j4.q.aR 0 ak (B C 2)).aR 2 ak (o ⟨[b].toArray⟩)).drew);have oU:=j (((mY.q.setOther tb 0 (B C 2) (by have:=HZ3.q;omega)).setOther tb 2 (o ⟨[b].toArray⟩) (by have:=HZ3.q;omega)).drew);have gY:=j (((eH.q.setCell (p:=⟨tb,0,m⟩) (by have:=HZ3.q;show _≤tb;omega) (B C 2)).setCell (p:=⟨tb,2,m⟩) (by have:=HZ3.q;show _≤tb;omega) (o ⟨[b].toArray⟩)).drew);generalize((w4.setCell ⟨tb,0,m⟩ (B C 2)).setCell ⟨tb,2,m⟩ (o ⟨[b].toArray⟩)).drew=Z at kR oU gY ⊢;clear hcy xO mY j4 eH;have hcz:=oU.q.1;have hfz:=oU.q.2.1;go_wp2_with fail;refine aK 99 [(0,0),(1,0),(2,0),(3,0),(4,0),(5,0),(6,2),(7,0),(8,0)] (fun _=>True) (fun W'=>Bx W' tb (ay 2 0 [b] f)) au au (trivial) (kR.q.drew) ?_;refine qC ?_;refine aF rfl rfl (fun K hK=>?_);go_simp;refine hK _ _ ⟨F,(((kR.q.drew.setOther w.heap.size 0 _ (by have:=HZ3.q;omega)).setOther w.heap.size 1 _ (by have:=HZ3.q;omega)).setOther w.heap.size 2 _ (by have:=HZ3.q;omega)).setOther w.heap.size 3 _ (by have:=HZ3.q;omega)⟩ ?_;clear hK K;refine qC ?_;refine bB ?_;go_wp2_with fail;have hwq:IntKind.i64.wrap 1=1:=Q 1 ah;refine H (v:= .tuple #[.agg (ay 2 0 [b] f),B C 1,B C 0]) (by simp[results,results163,go_sem,hcz,hwq]) rfl ⟨2,0,[b],1,0,⟨f,rfl,?_⟩,by decide⟩;exact((((gY.q.drew).setCell (p:=⟨w.heap.size,0,m⟩) (i _) _).setCell (p:=⟨w.heap.size,1,m⟩) (i _) _).setCell (p:=⟨w.heap.size,2,m⟩) (i _) _).setCell (p:=⟨w.heap.size,3,m⟩) (i _) _
theorem UE (b:UInt8) (hb:b.toNat<128) (n32:b.toNat≠32) (n9:b.toNat≠9) (n10:b.toNat≠10) (n35:b.toNat≠35) (n46:b.toNat≠46) (n45:b.toNat≠45) (UF:¬(48≤b.toNat∧b.toNat≤57)) (abu:iO (b.toNat:N)=f)
  (w:L) (hT:E 6 7 w):M z 163 #[o ⟨[b].toArray⟩,B C 0] w (qG f w):=by
 have dM:=j (Bc (t:=[]) (JE n32 n9) n35);have HS:=fun W (hb:Below w.heap.size w W)=>j (og [b] 0 [b] rfl ak ak W (D hT hb))
 have jR:iY (b.toNat:N)=f:=by unfold iY;simp;omega
 have h0:dO ⟨[b].toArray⟩ fV=0:=by
  rw[dY [b] fV ak,mh b [] hb,if_neg];rw[Iu b [] hb];simp only[fV,abu,jR];simp
 have HW:=fun W (hb:Below w.heap.size w W)=>j (rQ ⟨[b].toArray⟩ 191 #[] FD fV W (fun r W' _=>zG r W') (D hT hb))
 rw[h0] at HW;have hi0:∀W,(Instr.index 9 (o ⟨#[b]⟩) (B C 0)).run z W= .ok (.int .u8 (b.toNat:N)) W:=fun W=>gQ G [b] 0 b rfl W
 have hex:ByteArray.extract ⟨#[b]⟩ 0 1=⟨#[b]⟩:=mM [b] 1;have hsl:∀W,(Instr.slice 9 (o ⟨#[b]⟩) (T (B C 0)) m m).run z W= .ok (o ⟨#[b]⟩) W:=fun W=>lG G [b] 0 ak W
 have e10:((b.toNat:N)==10)=f:=beq_eq_false_iff_ne.2 ah;have e46:((b.toNat:N)==46)=f:=beq_eq_false_iff_ne.2 ah;have e45:((b.toNat:N)==45)=f:=beq_eq_false_iff_ne.2 ah;have hw32:wrap32 (b.toNat:N)=(b.toNat:N):=IntWalk.wrap32_in _ (by have:=b.toNat_lt;omega);have hempty:(([b]:Bs)==([]:Bs))=f:=rfl;clear hb n32 n9 n10 n35 n46 n45 UF abu h0 hT;go_enter func163,ntmps163;go_wp2_with fail;refine(HS _ (av (y _ _) _)).q.mono ?_;rintro e w1 ⟨rfl,hb1⟩;have HB1:=j ((av (y w.heap.size w) (A (ay 0 0 [] f) 162)).trans (hb1.mono ak));have cK:=j ((J w (ay 0 0 [] f) 162).keep hb1);clear hb1;rw[dM.q.1,dM.q.2];go_wp2_with fail;refine(kJ _ _).mono ?_;rintro e w3 ⟨rfl,hb3⟩;rw[jR];have HB3:=j ((av HB1.q (A (ay 0 0 [] f) 162)).trans (hb3.mono (by have:=HB1.q.size;simp;omega)));have gL:=j ((cK.q.alloc (A (ay 0 0 [] f) 162)).keep hb3);clear hb3;go_wp2_with fail;refine(HW _ HB3.q).q.mono ?_;rintro e w4 ⟨rfl,hb4⟩;have eH:=j (HB3.q.bq hb4);have hx4:=gL.q.keep hb4;have hc4:=hx4.1;have hf4:=hx4.2.1;clear hb4 hx4;go_wp2_with fail;refine H (v:= .tuple #[.agg (ay 0 0 [] f),B C 0,B C 120]) (by simp[results,results163,go_sem,hc4]) rfl ⟨0,0,[],0,120,⟨f,rfl,?_⟩,by decide⟩;exact(((eH.q.setCell (p:=⟨w.heap.size,0,m⟩) (i _) _).setCell (p:=⟨w.heap.size,1,m⟩) (i _) _).setCell (p:=⟨w.heap.size,2,m⟩) (i _) _).setCell (p:=⟨w.heap.size,3,m⟩) (i _) _
theorem QY (l1:Bs) (c:Nat) (hc:P ⟨l1.toArray⟩ 0=(c,l1.length)) (hok:okB ⟨l1.toArray⟩ 0=O) (h1:1≤l1.length) (h4:l1.length≤4) (w:L) (hT:E 6 7 w):
  M z 163 #[o ⟨l1.toArray⟩,B C 0] w (qG (iO (c:N)) w):=by
 have hne:l1≠[]:=by intro e;rw[e] at h1;simp at h1
 cases hl:iO (c:N)
 ·obtain⟨b,t,rfl⟩:∃b t,l1=b::t:=by cases l1 with
   |nil=>exact absurd rfl hne
   |cons b t=>exact⟨b,t,rfl⟩
  have hb:b.toNat<128:=by
   rcases Nat.lt_or_ge b.toNat 128 with h|h
   ·exact h
   ·have:=(uV b t h).1
    rw[hc] at this;simp[iO] at hl;simp at this;omega
  rw[mh b t hb] at hc;obtain⟨rfl,hlen⟩:b.toNat=c∧1=(b::t).length:=by injection hc with e1 e2;exact⟨e1,e2⟩
  obtain rfl:t=[]:=List.eq_nil_of_length_eq_zero (by simp at hlen;simpa using hlen);by_cases k32:b.toNat=32
  ·obtain rfl:b=32:=UInt8.toNat_inj.1 k32;exact abn w hT
  by_cases k9:b.toNat=9
  ·obtain rfl:b=9:=UInt8.toNat_inj.1 k9;exact aeZ w hT
  by_cases k10:b.toNat=10
  ·obtain rfl:b=10:=UInt8.toNat_inj.1 k10;exact abp w hT
  by_cases k35:b.toNat=35
  ·obtain rfl:b=35:=UInt8.toNat_inj.1 k35;exact abo w hT
  by_cases k46:b.toNat=46
  ·obtain rfl:b=46:=UInt8.toNat_inj.1 k46;exact abq w hT
  by_cases k45:b.toNat=45
  ·obtain rfl:b=45:=UInt8.toNat_inj.1 k45;exact abr w hT
  by_cases kn:48≤b.toNat∧b.toNat≤57
  ·exact abt b kn.1 kn.2 w hT
  exact UE b hb k32 k9 k10 k35 k46 k45 kn hl w hT
 ·have hbg:bL l1=O:=by
   unfold bL;rw[hok,hc,show((c,l1.length):Nat × Nat).1=c from rfl,hl]
   cases l1 with
   |nil=>exact absurd rfl hne
   |cons b t=>rfl
  have hrun:bT l1=l1.length:=by
   unfold bT;rw[dY l1 fV hne,hok,hc];simp only[fV,hl];rw[if_pos ak,List.drop_length]
   rfl
  have:=MO l1 0 l1 rfl (Nat.zero_le _) ah hbg w hT;refine this.mono ?_;intro e w' h;rw[hrun,if_neg ah] at h;exact⟨1,_,_,_,0,h,by decide⟩
theorem OB {R p:Nat} {s:Bs} {c:aV} {n:aB} (w:L) (h:bX w R s p [] c n):M z 249 #[U (T ⟨R,0,m⟩)] w (aW (.bool f) w):=by
 have hlim:=h.lim;have hle:=h.le;have hsl:=fun W=>lG G s p hle W
 rw[h.d] at hsl;have HH:=j h;clear h;go_enter func249,ntmps249;go_wp2_with fail;refine aK 10 [(0,0),(1,0),(2,0),(3,0),(4,0),(5,0),(6,0),(7,0),(8,0),(9,2)] (fun _=>True) (fun W'=>W'.cell? ⟨R,0,m⟩=T (o ⟨s.toArray⟩)∧W'.cell? ⟨R,1,m⟩=T (B C p)) au au (trivial) (⟨HH.q.drew.c0,HH.q.drew.c1⟩) ?_;refine qC ?_;refine aF rfl rfl (fun K hK=>?_);go_simp;refine hK _ _ ⟨F,?_,?_⟩ ?_
 ·exact(HH.q.drew.below (iq _ _)).c0
 ·exact(HH.q.drew.below (iq _ _)).c1
 clear hK K;refine bB ?_;have hnx:∀ty,(Instr.next (U (T ⟨w.heap.size,0,m⟩)) O ty).run z (w.drew.iter ⟨([]:Bs).toArray⟩ 0)=_:=fun ty=>Lib.run_next_end_at _ w.heap.size ⟨([]:Bs).toArray⟩ 0 ty (World.iter_heap w.drew _ 0) aj
 go_wp2_with fail
 go_loopw [] (fun wr=>wr=w.drew.iter ⟨([]:Bs).toArray⟩ 0) (fun _=>0)
 case atStart=>rfl
 case round=>
  subst hrel;go_wp2_with fail;go_ret;exact⟨rfl,(y w.heap.size w).drew.trans (iq w.drew ⟨([]:Bs).toArray⟩)⟩
theorem EB {R p:Nat} {s:Bs} {b:UInt8} {t:Bs} {c:aV} {n:aB} (w:L) (h:bX w R s p (b::t) c n) (rn d:Nat) (hrd:P ⟨(b::t).toArray⟩ 0=(rn,d)) (u:Bs) (henc:Utf8.encode (rn:N)=⟨u.toArray⟩) (x hp:Bool)
  (HN:∀W,Below w.heap.size w W→M z 163 #[o ⟨u.toArray⟩,B C 0] W (qG x W)) (HP:∀W,M z 265 #[o ⟨(b::t).toArray⟩,o ⟨u.toArray⟩] W (fun e w'=>e= .returned (.bool hp)∧w'=W)):
  M z 249 #[U (T ⟨R,0,m⟩)] w (aW (.bool (x && hp)) w):=by
 have hlim:=h.lim;have hle:=h.le;have hsl:=fun W=>lG G s p hle W
 rw[h.d] at hsl;have HH:=j h;have HN':=j HN;have HP':=j HP;have rT:=j hrd;clear h HN HP;have hsz0:w.drew.heap.size=w.heap.size:=rfl;go_enter func249,ntmps249;go_wp2_with fail;refine aK 10 [(0,0),(1,0),(2,0),(3,0),(4,0),(5,0),(6,0),(7,0),(8,0),(9,2)] (fun _=>True) (fun W'=>W'.cell? ⟨R,0,m⟩=T (o ⟨s.toArray⟩)∧W'.cell? ⟨R,1,m⟩=T (B C p)) au au (trivial) (⟨HH.q.drew.c0,HH.q.drew.c1⟩) ?_;refine qC ?_;refine aF rfl rfl (fun K hK=>?_);go_simp;refine hK _ _ ⟨F,?_,?_⟩ ?_
 ·exact(HH.q.drew.below (iq _ _)).c0
 ·exact(HH.q.drew.below (iq _ _)).c1
 clear hK K;refine bB ?_;have hnx:∀ty,(Instr.next (U (T ⟨w.heap.size,0,m⟩)) O ty).run z (w.drew.iter ⟨(b::t).toArray⟩ 0)=_:=fun ty=>Lib.run_next_any_at _ w.heap.size ⟨(b::t).toArray⟩ 0 ty (World.iter_heap w.drew _ 0) (by rw[dR];simp)
 rw[hrd] at hnx;have hbw:Below w.heap.size w (w.drew.iter ⟨(b::t).toArray⟩ 0):=(y w.heap.size w).drew.trans (iq w.drew _);have hbz:=Lib.below_iterAt hbw (k:=w.heap.size) (i _) ⟨(b::t).toArray⟩ (0+d);have ji:=j hbz;have HZ:=j (HH.q.below hbz);clear hbz hrd hbw;go_wp2_with fail
 go_loopw [] (fun wr=>wr=w.drew.iter ⟨(b::t).toArray⟩ 0) (fun _=>0)
 case atStart=>rfl
 case round=>
  subst hrel;revert hnx ji HZ;generalize((w.drew.iter ⟨(b::t).toArray⟩ 0).iterAt w.heap.size ⟨(b::t).toArray⟩ (0+d))=Z;intro hnx ji HZ;go_wp2_with fail;refine(HN'.q Z ji.q).mono ?_;rintro e w2 ⟨k,a,tt,nx,er,⟨g,rfl,hb2⟩,eZ⟩;have HB2:=j (ji.q.bq hb2);have hz2:=HZ.q.below hb2;have H2:=j (hz2.below (av (y _ _) (A (ay k a tt g) 162)));have hct:=(J w2 (ay k a tt g) 162).1;have c0:=H2.q.c0;have c1:=H2.q.c1;clear hb2 hz2 hnx
  cases her:(er==0)
  ·have HX:Hid (x=f):=j (by rw[←eZ,her];rfl)
   clear eZ
   go_wp2_with (go_quiet (fail))
   go_ret;exact⟨by rw[HX.q];rfl,dA (av HB2.q _) _⟩
  ·cases hek:(k==1)
   ·have HX:Hid (x=f):=j (by rw[←eZ,her,hek];rfl)
    clear eZ
    go_wp2_with (go_quiet (fail))
    go_ret;exact⟨by rw[HX.q];rfl,dA (av HB2.q _) _⟩
   ·have HX:Hid (x=O):=j (by rw[←eZ,her,hek];rfl)
    clear eZ
    go_wp2_with (go_quiet (exact(HP'.q _).mono (fun e w'' h=>⟨h.1,_,h.2⟩)))
    go_ret;exact⟨by rw[HX.q];rfl,dA (av HB2.q _) _⟩
theorem LG (l:Bs) (k:Nat):I l (l.take k)=O:=by
 unfold I;rw[List.isPrefixOf_iff_prefix];exact List.take_prefix _ _
theorem Gf {R p:Nat} {s l:Bs} {c:aV} {n:aB} (w:L) (h:bX w R s p l c n) (hT:E 6 7 w):M z 249 #[U (T ⟨R,0,m⟩)] w (aW (.bool (bL l)) w):=by
 cases l with
 |nil=>exact OB w h
 |cons b t=>
  obtain⟨rn,hrn⟩:∃rn,rn=(P ⟨(b::t).toArray⟩ 0).1:=⟨_,rfl⟩;obtain⟨d,hd⟩:∃d,d=(P ⟨(b::t).toArray⟩ 0).2:=⟨_,rfl⟩;have hrd:P ⟨(b::t).toArray⟩ 0=(rn,d):=by rw[hrn,hd]
  have hdl:d≤(b::t).length:=by rw[hd];exact sO _ ak
  have hd1:1≤d:=by rw[hd];exact uI _ ak
  have hB:bL (b::t)=(okB ⟨(b::t).toArray⟩ 0 && iO (rn:N)):=by
   unfold bL;rw[←hrn];rfl
  rw[hB]
  cases hok:okB ⟨(b::t).toArray⟩ 0
  ·have hbad:rn=65533∧¬d=3:=by
    unfold okB at hok;rw[←hrn,←hd] at hok;simp at hok;omega
   have hpre:I (b::t) [239,191,189]=f:=by
    cases hpx:I (b::t) [239,191,189]
    ·rfl
    ·exfalso
     unfold I at hpx;rw[List.isPrefixOf_iff_prefix] at hpx;obtain⟨r,hr⟩:=hpx;have h3:3≤ByteArray.size ⟨(b::t).toArray⟩:=by rw[dR,←hr];simp
     have:=(ahH ⟨(b::t).toArray⟩ h3 (by rw[←hrn];exact hbad.1)).2 (by rw[←hr,mM];rfl);exact hbad.2 (by rw[hd];exact this)
   have:=EB w h rn d hrd [239,191,189] (by rw[hbad.1];rfl) O f
    (fun W hb=>QY [239,191,189] 65533 aj aj aj aj W (D hT hb))
    (fun W=>by
     have:=S ⟨(b::t).toArray⟩ ⟨([239,191,189]:Bs).toArray⟩ W;rw[show I (⟨(b::t).toArray⟩:V).data.toList (⟨([239,191,189]:Bs).toArray⟩:V).data.toList=f from hpre] at this;exact this)
   exact this
  ·obtain⟨f1',f2,f3⟩:=OC (b::t) ak hok
   rw[←hrn,←hd] at f1';rw[←hd,hrd] at f2;have hlen:((b::t).take d).length=d:=by rw[List.length_take];omega
   have hok2:okB ⟨((b::t).take d).toArray⟩ 0=O:=by
    unfold okB at hok ⊢;rw[f2];rw[hrd] at hok;exact hok
   have:=EB w h rn d hrd ((b::t).take d) f1' (iO (rn:N)) O
    (fun W hb=>QY ((b::t).take d) rn (by rw[f2,hlen]) hok2 ah (by rw[hlen,hd];exact f3) W (D hT hb))
    (fun W=>by
     have:=S ⟨(b::t).toArray⟩ ⟨((b::t).take d).toArray⟩ W;rw[show I (⟨(b::t).toArray⟩:V).data.toList (⟨((b::t).take d).toArray⟩:V).data.toList=O from LG (b::t) d] at this;exact this)
   rw[Bool.and_true] at this;rw[Bool.true_and];exact this
end Yd
