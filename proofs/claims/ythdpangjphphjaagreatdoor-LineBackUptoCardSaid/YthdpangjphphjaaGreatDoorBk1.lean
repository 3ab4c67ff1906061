import Derived.Test.YthdpangjphphjaaGreatDoorRdQ
import Derived.Test.YthdpangjphphjaaGreatDoorRdB
import Derived.Test.YthdpangjphphjaaGreatDoorProg
import Derived.Test.YthdpangjphphjaaGreatDoorCu3
import Derived.Test.YthdpangjphphjaaGreatDoorEnc
set_option maxRecDepth 200000
set_option maxHeartbeats 8000000
namespace Yd
open Go Go.RowKit Go.Proofs

@[reducible] def addN (n : LnS) (m : Bs) : LnS := { n with names := n.names ++ [m] }
@[reducible] def withN (c : LnC) (a : Option Addr) (k cc : Nat) : LnC := { c with na := a, nn := k, nc := cc }
theorem RdC.c3 {w : World} {R p : Nat} {s l : Bs} {c : LnC} {n : LnS} (h : RdC w R s p l c n) : w.cell? ⟨R, 3, none⟩ = some (.slice c.na c.nn c.nc) := h.x.1 3
theorem RdC.c5 {w : World} {R p : Nat} {s l : Bs} {c : LnC} {n : LnS} (h : RdC w R s p l c n) : w.cell? ⟨R, 5, none⟩ = some (.slice c.va c.vn c.vc) := h.x.1 5
theorem RdC.addN {w X Y : World} {R p : Nat} {s l m : Bs} {c : LnC} {n : LnS} (h : RdC w R s p l c n) (hX : Below w.heap.size w X) (a' : Option Addr) (c' : Nat)
   (hown : Own Y (R + 1) 9 1 encStr (.slice a' (c.nn + 1) c') (n.names ++ [m])) (hg : X.grownBy Y (Value.slice c.na c.nn c.nc).ownBlock)
   (hat : (Value.slice a' (c.nn + 1) c').ownBlock = (Value.slice c.na c.nn c.nc).ownBlock ∨ (Value.slice a' (c.nn + 1) c').ownBlock = some X.heap.size) :
   RdC (Y.setCell ⟨R, 3, none⟩ (.slice a' (c.nn + 1) c')) R s p l (withN c a' (c.nn + 1) c') (addN n m) ∧ Mv R c (withN c a' (c.nn + 1) c') w (Y.setCell ⟨R, 3, none⟩ (.slice a' (c.nn + 1) c')) := by
 have hRw := h.x.2.2
 have hsz := hX.size
 have hn1 : (Value.slice c.na c.nn c.nc).ownBlock ≠ some R := h.n.2.1.far' (.inl (by omega))
 have hap := h.n.2.2.apart h.n.2.1 (by decide)
 have hxX := h.x.keep hX
 have hxY : Bx Y R (cellsRd s p c) := hxX.grown hg hn1
 have hv : Own Y (R + 1) 67 2 encTo (.slice c.va c.vn c.vc) n.vers := (h.n.2.2.below hX rfl).grown hg (fun g hg => hap g hg)
 obtain ⟨⟨e1, e2, e3, e4, e5, e6⟩, _, _⟩ := h.n
 have hXY : Same (RdA R c) X Y := ⟨hg.os, hg.tape, hg.output, hg.size, fun i hi hl => hg.block i hl (fun e => hi.2.1 e.symm)⟩
 refine ⟨⟨?_, ⟨⟨e1, e2, e3, e4, by simp [e5], e6⟩, ?_, ?_⟩, h.d, h.le, h.lim⟩, ((Same.of_below hX (fun _ _ h => h)).tr hXY).tr (Same.setCell _ _ _ _ (fun e => e.1 rfl)), ?_, fun _ h => .inl h⟩
 · exact hxY.setC 3 (by simp) _
 · exact hown.block fun g hg => Below.heap_setCell _ _ _ _ (by have := (hown.lt g hg).1; simp; omega)
 · exact hv.block fun g hg => Below.heap_setCell _ _ _ _ (by have := (hv.lt g hg).1; simp; omega)
 · intro g hgg
   rcases hat with e | e
   · exact .inl (e ▸ hgg)
   · right
     have : some g = some X.heap.size := hgg.symm.trans e
     injection this with this
     omega
@[reducible] def addV (n : LnS) (v : To) : LnS := { n with vers := n.vers ++ [v] }
@[reducible] def withV (c : LnC) (a : Option Addr) (k cc : Nat) : LnC := { c with va := a, vn := k, vc := cc }
theorem RdC.addV {w X Y : World} {R p : Nat} {s l : Bs} {v : To} {c : LnC} {n : LnS} (h : RdC w R s p l c n) (hX : Below w.heap.size w X) (a' : Option Addr) (c' : Nat)
   (hown : Own Y (R + 1) 67 2 encTo (.slice a' (c.vn + 1) c') (n.vers ++ [v])) (hg : X.grownBy Y (Value.slice c.va c.vn c.vc).ownBlock)
   (hat : (Value.slice a' (c.vn + 1) c').ownBlock = (Value.slice c.va c.vn c.vc).ownBlock ∨ (Value.slice a' (c.vn + 1) c').ownBlock = some X.heap.size) :
   RdC (Y.setCell ⟨R, 5, none⟩ (.slice a' (c.vn + 1) c')) R s p l (withV c a' (c.vn + 1) c') (addV n v) ∧ Mv R c (withV c a' (c.vn + 1) c') w (Y.setCell ⟨R, 5, none⟩ (.slice a' (c.vn + 1) c')) := by
 have hRw := h.x.2.2
 have hsz := hX.size
 have hn1 : (Value.slice c.va c.vn c.vc).ownBlock ≠ some R := h.n.2.2.far' (.inl (by omega))
 have hap := h.n.2.1.apart h.n.2.2 (by decide)
 have hxX := h.x.keep hX
 have hxY : Bx Y R (cellsRd s p c) := hxX.grown hg hn1
 have hv : Own Y (R + 1) 9 1 encStr (.slice c.na c.nn c.nc) n.names := (h.n.2.1.below hX rfl).grown hg (fun g hg => hap g hg)
 obtain ⟨⟨e1, e2, e3, e4, e5, e6⟩, _, _⟩ := h.n
 have hXY : Same (RdA R c) X Y := ⟨hg.os, hg.tape, hg.output, hg.size, fun i hi hl => hg.block i hl (fun e => hi.2.2 e.symm)⟩
 refine ⟨⟨?_, ⟨⟨e1, e2, e3, e4, e5, by simp [e6]⟩, ?_, ?_⟩, h.d, h.le, h.lim⟩, ((Same.of_below hX (fun _ _ h => h)).tr hXY).tr (Same.setCell _ _ _ _ (fun e => e.1 rfl)), fun _ h => .inl h, ?_⟩
 · exact hxY.setC 5 (by simp) _
 · exact hv.block fun g hg => Below.heap_setCell _ _ _ _ (by have := (hv.lt g hg).1; simp; omega)
 · exact hown.block fun g hg => Below.heap_setCell _ _ _ _ (by have := (hown.lt g hg).1; simp; omega)
 · intro g hgg
   rcases hat with e | e
   · exact .inl (e ▸ hgg)
   · right
     have : some g = some X.heap.size := hgg.symm.trans e
     injection this with this
     omega
theorem rd_takeName {R p : Nat} {s l : Bs} {c : LnC} {n : LnS} (w : World) (h : RdC w R s p l c n) (hT : Lib.Utf8Tabs 2 3 w) (hl : n.names.length ≤ 1000) :
   Calls Tryz.prog 74 #[.pointer (some ⟨R, 0, none⟩)] w (RdRes R s c w (fun _ : Unit => .tuple #[]) (match nameS l with | .error x => .error x | .ok (m, r) => .ok ((), addN n m, r))) := by
 obtain ⟨X, hX⟩ : ∃ X : Except Er (Unit × LnS × Bs), X = (match nameS l with | .error x => .error x | .ok (m, r) => .ok ((), addN n m, r)) := ⟨_, rfl⟩
 rw [← hX]
 have RES : Hid (∀ ch w', (∃ (r : Bs) (m : Int), nameS l = .error (r, m) ∧ ch = wrongP (s.length - r.length) m ∧ Same (RdA R c) w.drew w') → RdRes R s c w (fun _ : Unit => .tuple #[]) X (.panicked ch) w') := hid (by
   rintro ch w' ⟨r, m, h1, rfl, h2⟩
   rw [hX, h1]
   exact ⟨rfl, h2.os, h2.tape, h2.output, h2.size, h2.block⟩)
 have HX := hid hX
 clear hX
 have HNM := hid (fun W (hb : Below w.heap.size w W) => rd_name W (h.below hb) (Utf8Tabs_below hT hb))
 obtain ⟨i, z, hi, hz, hsize, hby', hzs⟩ := partsStr
 have HI := hid (⟨hi, hz, hsize, hby', hzs⟩ : _ ∧ _ ∧ _ ∧ _ ∧ _)
 have HH := hid h
 have HB0 : Hid (Below w.heap.size w w.drew) := hid ((Below.refl _ _).drew)
 have HNR : Hid ((Value.slice c.na c.nn c.nc).ownBlock ≠ some R) := hid (h.n.2.1.far' (.inl (by omega)))
 have hcn := h.n.1.2.2.2.2.1
 have HN1 : Hid (n.names.length + 1 = c.nn + 1) := hid (by omega)
 have HN2 : Hid ((c.nn + 1) * 16 ≤ 140737488355328) := hid (by omega)
 have HN3 : Hid (c.nn + 1 ≤ maxLen) := hid (by unfold maxLen; omega)
 clear hcn
 clear h hT hi hz hsize hby' hzs
 go_enter Tryz.func74, Tryz.ntmps74
 go_wp2_with fail
 refine wp_region_ordP 13 [(0, 1), (1, 1), (2, 1), (3, 1), (4, 1), (5, 0), (6, 1), (7, 2), (8, 2), (9, 2), (10, 1), (11, 1), (12, 1), (13, 2)] (fun _ => True) (fun W' => W'.cell? ⟨R, 3, none⟩ = some (.slice c.na c.nn c.nc)) (fun ch w' => ∃ (r : Bs) (m : Int), nameS l = .error (r, m) ∧ ch = wrongP (s.length - r.length) m ∧ Same (RdA R c) w.drew w') (by kernel_rfl) (by kernel_rfl) (fun ch a1 w1 hd hr => ⟨hd, RES.out ch w1 hr⟩) (trivial) (HH.out.drew.c3) ?_
 repeat ((first | refine ordC_skip rfl rfl ?_ | refine ordC_skip1 rfl rfl ?_ | ((first | refine ordC_q rfl rfl ?_ | refine ordC_p rfl rfl ?_); apply Exists.intro; refine ⟨fun wS hS => ?_, ?_⟩; (go_simp; try with_reducible rfl))); simp only [Act.put, List.setIfInBounds_toArray, List.set_cons_zero, List.set_cons_succ])
 refine ordC_l rfl rfl (fun K hK => ?_)
 go_simp
 refine (HNM.out _ HB0.out).mono ?_
 intro e w2 he
 cases hnm : nameS l with
 | error x =>
   rw [hnm] at he
   obtain ⟨rfl, hs⟩ := he
   exact ⟨rfl, x.1, x.2, rfl, rfl, hs⟩
 | ok mr =>
 obtain ⟨m, r⟩ := mr
 rw [hnm] at he
 obtain ⟨rfl, p2, hc2, hm2⟩ := he
 have HC2 := hid hc2; have HM2 := hid hm2; have HNX := hid hnm
 refine hK _ _ ⟨trivial, hc2.c3⟩ ?_
 have HN4 : Hid (R + 1 ≤ (w2.alloc (.cells #[.string ⟨m.toArray⟩] 9)).heap.size) := hid (by have := hc2.x.2.2; simp; omega)
 clear hK K hc2 hm2 hnm
 refine ordC_l rfl rfl (fun K hK => ?_)
 go_simp
 refine hK _ _ ⟨trivial, (HC2.out.below (belowA (Below.refl _ _) _)).c3⟩ ?_
 clear hK K
 refine ordC_l rfl rfl (fun K hK => ?_)
 refine wp_app _ _ 25 rfl i z 16 Tryz.underlying25 HI.out.1 HI.out.2.1 HI.out.2.2.1 HI.out.2.2.2.1 HI.out.2.2.2.2 rfl (HC2.out.n.2.1.alloc _) (some ⟨w2.heap.size, 0, none⟩) 1 1 (c.nn + 1) [m] rfl (Row.str1 w2 m) HN1.out HN2.out HN3.out HN4.out ?_
 intro a' c' w3 hown3 hg3 hat3
 have hx3 := (HC2.out.x.keep (belowA (Below.refl _ _) (.cells #[.string ⟨m.toArray⟩] 9))).grown hg3 HNR.out
 have HAD := hid (HC2.out.addN (belowA (Below.refl _ _) (.cells #[.string ⟨m.toArray⟩] 9)) a' c' hown3 hg3 hat3)
 refine hK _ _ ⟨trivial, hx3.1 3⟩ ?_
 have hc3 := hx3.1 3; have hf3 := hx3.2.1 3
 clear hK K hown3 hg3 hat3 hx3
 repeat ((first | refine ordC_skip rfl rfl ?_ | refine ordC_skip1 rfl rfl ?_ | ((first | refine ordC_q rfl rfl ?_ | refine ordC_p rfl rfl ?_); apply Exists.intro; refine ⟨fun wS hS => ?_, ?_⟩; (go_simp; try with_reducible rfl))); simp only [Act.put, List.setIfInBounds_toArray, List.set_cons_zero, List.set_cons_succ])
 refine ordC_m rfl rfl rfl (fun K hK => ?_)
 go_simp
 refine hK _ _ trivial ?_
 clear hK K
 refine ordP_nil ?_
 go_wp2_with fail
 refine bodyPost_end (results_none rfl _ _ _) rfl ?_
 show RdRes R s c w _ _ _ _
 rw [HX.out, HNX.out]
 exact ⟨rfl, p2, _, HAD.out.1, (Mv.of_below HB0.out).trans (HM2.out.trans HAD.out.2)⟩
end Yd


namespace Yd
open Go Go.RowKit Go.Proofs

def mkR {α : Type} (a : α) (l : Bs) (er : Int) : Except Er (α × Bs) := if er = 0 then .ok (a, l) else .error (l, er)
theorem mkR_0 {α : Type} (a : α) (l : Bs) : mkR a l 0 = .ok (a, l) := if_pos rfl
theorem mkR_n {α : Type} {er : Int} (a : α) (l : Bs) (h : er ≠ 0) : mkR a l er = .error (l, er) := if_neg h
def CuAny {α : Type} (B : Nat) (s : Bs) (w : World) (val : α → Value) (x : Except Er (α × Bs)) (e : Ending) (w' : World) : Prop :=
 ∃ (a : α) (p' : Nat) (l' : Bs) (er : Int), e = .returned (val a) ∧ CuC w' B s p' l' er ∧ Cs B w w' ∧ x = mkR a l' er
theorem CuRes.any {α : Type} {B : Nat} {s : Bs} {w : World} {val : α → Value} {x : Except Er (α × Bs)} {e : Ending} {w' : World} (h : CuRes B s w val x e w') : CuAny B s w val x e w' := by
 obtain ⟨a, p', l', er, h1, h2, h3, h4⟩ := h
 refine ⟨a, p', l', er, h1, h2, h3, ?_⟩
 cases x with
 | ok y => obtain ⟨a', r⟩ := y; obtain ⟨rfl, rfl, rfl⟩ := h4; exact (mkR_0 _ _).symm
 | error y => obtain ⟨r, m⟩ := y; obtain ⟨rfl, rfl, hm⟩ := h4; exact (mkR_n _ _ hm).symm
theorem must_true {l r : Bs} (h : mustS l = .ok r) : moreS l = .ok (true, r) := by
 unfold mustS at h
 cases hm : moreS l with
 | error x => rw [hm] at h; cases h
 | ok y =>
   obtain ⟨b, r'⟩ := y
   rw [hm] at h
   cases b
   · cases h
   · injection h with h; rw [h]

@[reducible] def zeroLn : Array Value := #[.int .i64 0, .slice none 0 0, .int .i64 0, .slice none 0 0, .bool false, .int .i64 0]
structure LnB (w : World) (B b : Nat) (c : LnC) (n : LnS) : Prop where
 x : Bx w b (cellsLn c)
 z : Bx w (b + 1) zeroLn
 n : LnAt w (B + 1) c n
 lt : B < b
 an : ∀ g, (Value.slice c.na c.nn c.nc).ownBlock = some g → g ≠ b ∧ g ≠ b + 1
 av : ∀ g, (Value.slice c.va c.vn c.vc).ownBlock = some g → g ≠ b ∧ g ≠ b + 1
variable {w w' : World} {B b : Nat} {c : LnC} {n : LnS}
theorem LnB.bl (h : LnB w B b c n) : b + 1 < w.heap.size := h.z.2.2
theorem LnB.below (h : LnB w B b c n) (hb : Below w.heap.size w w') : LnB w' B b c n := ⟨h.x.keep hb, h.z.keep hb, h.n.below hb, h.lt, h.an, h.av⟩
theorem LnB.cs (h : LnB w B b c n) (hs : Cs B w w') : LnB w' B b c n :=
 ⟨hs.bx h.x (by have := h.lt; omega), hs.bx h.z (by have := h.lt; omega), ⟨h.n.1, h.n.2.1.block fun g hg => hs.block g (by have := (h.n.2.1.lt g hg).1; omega) (h.n.2.1.lt g hg).2, h.n.2.2.block fun g hg => hs.block g (by have := (h.n.2.2.lt g hg).1; omega) (h.n.2.2.lt g hg).2⟩, h.lt, h.an, h.av⟩
theorem LnB.rows (h : LnB w B b c n) (i : Nat) (v : Value) :
   Own (w.setCell ⟨b, i, none⟩ v) (B + 1) 9 1 encStr (.slice c.na c.nn c.nc) n.names ∧ Own (w.setCell ⟨b, i, none⟩ v) (B + 1) 67 2 encTo (.slice c.va c.vn c.vc) n.vers :=
 ⟨h.n.2.1.block fun g hg => Below.heap_setCell _ _ _ _ (by rintro rfl; exact (h.an _ hg).1 rfl), h.n.2.2.block fun g hg => Below.heap_setCell _ _ _ _ (by rintro rfl; exact (h.av _ hg).1 rfl)⟩
theorem LnB.zs (h : LnB w B b c n) (i : Nat) (v : Value) : Bx (w.setCell ⟨b, i, none⟩ v) (b + 1) zeroLn := h.z.setOther b i v (by omega)
theorem LnB.new (hl : LnAt w (B + 1) c n) (hB : B < w.heap.size) : LnB ((w.alloc (.cells (cellsLn c) 28)).alloc (.cells zeroLn 28)) B w.heap.size c n := by
 have hb0 := belowA (belowA (Below.refl w.heap.size w) (.cells (cellsLn c) 28)) (.cells zeroLn 28)
 exact ⟨(Bx.new w (cellsLn c) 28).alloc (.cells zeroLn 28), Bx.new1 (by simp), hl.below hb0, hB, fun g hg => by have := (hl.2.1.lt g hg).2; omega, fun g hg => by have := (hl.2.2.lt g hg).2; omega⟩
theorem Mv.set {w0 : World} {c0 : LnC} (h : Mv B c0 c w0 w) (hb : w0.heap.size ≤ b) (i : Nat) (v : Value) : Mv B c0 c w0 (w.setCell ⟨b, i, none⟩ v) := by
 have h1 : Same (fun i => RdA B c0 i ∧ i < w0.heap.size) w (w.setCell ⟨b, i, none⟩ v) := Same.setCell _ _ _ _ (fun e => by have : b < w0.heap.size := e.2; omega)
 have h0 : Same (fun i => RdA B c0 i ∧ i < w0.heap.size) w0 w := ⟨h.same.os, h.same.tape, h.same.output, h.same.size, fun i hi hl => h.same.block i hi.1 hl⟩
 have h2 := h0.tr h1
 exact ⟨⟨h2.os, h2.tape, h2.output, h2.size, fun i hi hl => h2.block i ⟨hi, hl⟩ hl⟩, h.na, h.va⟩
theorem Mv.as {w0 : World} {c0 c' : LnC} (h : Mv B c0 c w0 w) (h1 : (Value.slice c'.na c'.nn c'.nc).ownBlock = (Value.slice c.na c.nn c.nc).ownBlock) (h2 : (Value.slice c'.va c'.vn c'.vc).ownBlock = (Value.slice c.va c.vn c.vc).ownBlock) : Mv B c0 c' w0 w :=
 ⟨h.same, fun g hg => h.na g (h1 ▸ hg), fun g hg => h.va g (h2 ▸ hg)⟩
theorem Mv.cs {w0 : World} {c0 : LnC} (h : Mv B c0 c w0 w) (hs : Cs B w w') : Mv B c0 c w0 w' := h.trans (hs.mv c)
theorem LnB.addN {X Y : World} {m : Bs} (h : LnB w B b c n) (hX : Below w.heap.size w X) (a' : Option Addr) (c' : Nat)
   (hown : Own Y (B + 1) 9 1 encStr (.slice a' (c.nn + 1) c') (n.names ++ [m])) (hg : X.grownBy Y (Value.slice c.na c.nn c.nc).ownBlock)
   (hat : (Value.slice a' (c.nn + 1) c').ownBlock = (Value.slice c.na c.nn c.nc).ownBlock ∨ (Value.slice a' (c.nn + 1) c').ownBlock = some X.heap.size) :
   LnB (Y.setCell ⟨b, 1, none⟩ (.slice a' (c.nn + 1) c')) B b (withN c a' (c.nn + 1) c') (addN n m) ∧
   (∀ (w0 : World) (c0 : LnC), Mv B c0 c w0 w → w0.heap.size ≤ b → Mv B c0 (withN c a' (c.nn + 1) c') w0 (Y.setCell ⟨b, 1, none⟩ (.slice a' (c.nn + 1) c'))) ∧
   (∀ (s : Bs) (p : Nat) (l : Bs) (e : Int), CuC w B s p l e → CuC (Y.setCell ⟨b, 1, none⟩ (.slice a' (c.nn + 1) c')) B s p l e) := by
 have hRw := h.bl
 have hsz := hX.size
 have hap := h.n.2.2.apart h.n.2.1 (by decide)
 have hxX := h.x.keep hX
 have hxY : Bx Y b (cellsLn c) := hxX.grown hg (fun e => (h.an _ e).1 rfl)
 have hv : Own Y (B + 1) 67 2 encTo (.slice c.va c.vn c.vc) n.vers := (h.n.2.2.below hX rfl).grown hg (fun g hg => hap g hg)
 have han := h.an; have hav := h.av; have hlt := h.lt
 have hnB : (Value.slice c.na c.nn c.nc).ownBlock ≠ some B := h.n.2.1.far' (.inl (by omega))
 have hzY : Bx Y (b + 1) zeroLn := (h.z.keep hX).grown hg (fun e => (h.an _ e).2 rfl)
 obtain ⟨⟨e1, e2, e3, e4, e5, e6⟩, _, _⟩ := h.n
 have hXY : Same (RdA B c) X Y := ⟨hg.os, hg.tape, hg.output, hg.size, fun i hi hl => hg.block i hl (fun e => hi.2.1 e.symm)⟩
 have hn' : ∀ g, (Value.slice a' (c.nn + 1) c').ownBlock = some g → g ≠ b ∧ g ≠ b + 1 := by
   rcases hat with e | e
   · rw [e]; exact han
   · rw [e]; intro g e; injection e with e; omega
 have hwY : Same (RdA B c) w Y := (Same.of_below hX (fun _ _ h => h)).tr hXY
 refine ⟨⟨hxY.setC 1 (by simp) _, hzY.setOther b 1 _ (by omega), ⟨⟨e1, e2, e3, e4, by simp [e5], e6⟩, ?_, ?_⟩, hlt, hn', hav⟩, fun w0 c0 hm hb => ?_, fun s p l e hc => ⟨((hc.x.keep hX).grown hg (fun e => hnB e)).setOther b 1 _ (by omega), hc.d, hc.le, hc.lim⟩⟩
 · exact hown.block fun g hg => Below.heap_setCell _ _ _ _ (by rintro rfl; exact (hn' _ hg).1 rfl)
 · exact hv.block fun g hg => Below.heap_setCell _ _ _ _ (by rintro rfl; exact (hav _ hg).1 rfl)
 · have hm' : Mv B c0 (withN c a' (c.nn + 1) c') w0 Y := hm.trans ⟨hwY, fun g hgg => by
     rcases hat with e | e
     · exact .inl (e ▸ hgg)
     · right
       have : some g = some X.heap.size := hgg.symm.trans e
       injection this with this
       omega, fun _ h => .inl h⟩
   exact hm'.set hb 1 _
theorem LnB.addV {X Y : World} {v : To} (h : LnB w B b c n) (hX : Below w.heap.size w X) (a' : Option Addr) (c' : Nat)
   (hown : Own Y (B + 1) 67 2 encTo (.slice a' (c.vn + 1) c') (n.vers ++ [v])) (hg : X.grownBy Y (Value.slice c.va c.vn c.vc).ownBlock)
   (hat : (Value.slice a' (c.vn + 1) c').ownBlock = (Value.slice c.va c.vn c.vc).ownBlock ∨ (Value.slice a' (c.vn + 1) c').ownBlock = some X.heap.size) :
   LnB (Y.setCell ⟨b, 3, none⟩ (.slice a' (c.vn + 1) c')) B b (withV c a' (c.vn + 1) c') (addV n v) ∧
   (∀ (w0 : World) (c0 : LnC), Mv B c0 c w0 w → w0.heap.size ≤ b → Mv B c0 (withV c a' (c.vn + 1) c') w0 (Y.setCell ⟨b, 3, none⟩ (.slice a' (c.vn + 1) c'))) ∧
   (∀ (s : Bs) (p : Nat) (l : Bs) (e : Int), CuC w B s p l e → CuC (Y.setCell ⟨b, 3, none⟩ (.slice a' (c.vn + 1) c')) B s p l e) := by
 have hRw := h.bl
 have hsz := hX.size
 have hap := h.n.2.1.apart h.n.2.2 (by decide)
 have hxX := h.x.keep hX
 have hxY : Bx Y b (cellsLn c) := hxX.grown hg (fun e => (h.av _ e).1 rfl)
 have hv : Own Y (B + 1) 9 1 encStr (.slice c.na c.nn c.nc) n.names := (h.n.2.1.below hX rfl).grown hg (fun g hg => hap g hg)
 have han := h.an; have hav := h.av; have hlt := h.lt
 have hnB : (Value.slice c.va c.vn c.vc).ownBlock ≠ some B := h.n.2.2.far' (.inl (by omega))
 have hzY : Bx Y (b + 1) zeroLn := (h.z.keep hX).grown hg (fun e => (h.av _ e).2 rfl)
 obtain ⟨⟨e1, e2, e3, e4, e5, e6⟩, _, _⟩ := h.n
 have hXY : Same (RdA B c) X Y := ⟨hg.os, hg.tape, hg.output, hg.size, fun i hi hl => hg.block i hl (fun e => hi.2.2 e.symm)⟩
 have hn' : ∀ g, (Value.slice a' (c.vn + 1) c').ownBlock = some g → g ≠ b ∧ g ≠ b + 1 := by
   rcases hat with e | e
   · rw [e]; exact hav
   · rw [e]; intro g e; injection e with e; omega
 have hwY : Same (RdA B c) w Y := (Same.of_below hX (fun _ _ h => h)).tr hXY
 refine ⟨⟨hxY.setC 3 (by simp) _, hzY.setOther b 3 _ (by omega), ⟨⟨e1, e2, e3, e4, e5, by simp [e6]⟩, ?_, ?_⟩, hlt, han, hn'⟩, fun w0 c0 hm hb => ?_, fun s p l e hc => ⟨((hc.x.keep hX).grown hg (fun e => hnB e)).setOther b 3 _ (by omega), hc.d, hc.le, hc.lim⟩⟩
 · exact hv.block fun g hg => Below.heap_setCell _ _ _ _ (by rintro rfl; exact (han _ hg).1 rfl)
 · exact hown.block fun g hg => Below.heap_setCell _ _ _ _ (by rintro rfl; exact (hn' _ hg).1 rfl)
 · have hm' : Mv B c0 (withV c a' (c.vn + 1) c') w0 Y := hm.trans ⟨hwY, fun _ h => .inl h, fun g hgg => by
     rcases hat with e | e
     · exact .inl (e ▸ hgg)
     · right
       have : some g = some X.heap.size := hgg.symm.trans e
       injection this with this
       omega⟩
   exact hm'.set hb 3 _
@[reducible] def put6 (w : World) (g : Nat) (c : LnC) : World := (((((w.setCell ⟨g, 0, none⟩ (.int .i64 c.kind)).setCell ⟨g, 1, none⟩ (.slice c.na c.nn c.nc)).setCell ⟨g, 2, none⟩ (.int .i64 c.lvl)).setCell ⟨g, 3, none⟩ (.slice c.va c.vn c.vc)).setCell ⟨g, 4, none⟩ (.bool c.first)).setCell ⟨g, 5, none⟩ (.int .i64 c.bits)
theorem put6_bx {g : Nat} {c0 : LnC} (h : Bx w g (cellsLn c0)) (c : LnC) : Bx (put6 w g c) g (cellsLn c) := (((((h.setC 0 (by simp) _).setC 1 (by simp) _).setC 2 (by simp) _).setC 3 (by simp) _).setC 4 (by simp) _).setC 5 (by simp) _
theorem put6_same (w : World) (g : Nat) (c : LnC) : Same (fun i => i ≠ g) w (put6 w g c) :=
 (((((Same.setCell _ _ _ _ (by simp)).tr (Same.setCell _ _ _ _ (by simp))).tr (Same.setCell _ _ _ _ (by simp))).tr (Same.setCell _ _ _ _ (by simp))).tr (Same.setCell _ _ _ _ (by simp))).tr (Same.setCell _ _ _ _ (by simp))
theorem LnAt.put6 {g : Nat} {c' : LnC} (h : LnAt w B c n) (h1 : ∀ i, (Value.slice c.na c.nn c.nc).ownBlock = some i → i ≠ g) (h2 : ∀ i, (Value.slice c.va c.vn c.vc).ownBlock = some i → i ≠ g) : LnAt (put6 w g c') B c n :=
 ⟨h.1, h.2.1.block fun i hi => (put6_same w g c').block i (h1 i hi) (h.2.1.lt i hi).2, h.2.2.block fun i hi => (put6_same w g c').block i (h2 i hi) (h.2.2.lt i hi).2⟩
theorem Mv.put6 {w0 : World} {c0 c' : LnC} {g : Nat} (h : Mv B c0 c w0 w) (hb : w0.heap.size ≤ g) : Mv B c0 c w0 (put6 w g c') :=
 (((((h.set hb 0 _).set hb 1 _).set hb 2 _).set hb 3 _).set hb 4 _).set hb 5 _
theorem CuC.put6 {s l : Bs} {p : Nat} {e : Int} {g : Nat} (h : CuC w B s p l e) (hg : g ≠ B) (c : LnC) : CuC (put6 w g c) B s p l e := ⟨(put6_same w g c).bx h.x (Ne.symm hg), h.d, h.le, h.lim⟩
theorem LnB.fin {w0 : World} {c0 : LnC} {s l : Bs} {p : Nat} {e : Int} (h : LnB w B b c n) (hc : CuC w B s p l e) (hm : Mv B c0 c w0 w) (hb : w0.heap.size ≤ b) :
   CuC (Yd.put6 w (b + 1) c) B s p l e ∧ LnAt (Yd.put6 w (b + 1) c) (B + 1) c n ∧ Mv B c0 c w0 (Yd.put6 w (b + 1) c) :=
 ⟨hc.put6 (by have := h.lt; omega) c, h.n.put6 (fun i hi => (h.an i hi).2) (fun i hi => (h.av i hi).2), hm.put6 (by omega)⟩
theorem LnB.put {c' : LnC} {n' : LnS} (h : LnB w B b c n) (hl : LnAt w' (B + 1) c' n') (hm : Mv B c c' w w') : LnB (Yd.put6 w' b c') B b c' n' := by
 have hlt := h.lt; have hbl := h.bl
 have hA : RdA B c b := ⟨by omega, fun e => (h.an b e).1 rfl, fun e => (h.av b e).1 rfl⟩
 have hA1 : RdA B c (b + 1) := ⟨by omega, fun e => (h.an _ e).2 rfl, fun e => (h.av _ e).2 rfl⟩
 have an' : ∀ g, (Value.slice c'.na c'.nn c'.nc).ownBlock = some g → g ≠ b ∧ g ≠ b + 1 := fun g hg => by
   rcases hm.na g hg with e | e
   · exact h.an g e
   · omega
 have av' : ∀ g, (Value.slice c'.va c'.vn c'.vc).ownBlock = some g → g ≠ b ∧ g ≠ b + 1 := fun g hg => by
   rcases hm.va g hg with e | e
   · exact h.av g e
   · omega
 exact ⟨put6_bx (hm.bx h.x hA) c', (put6_same w' b c').bx (hm.bx h.z hA1) (by omega), hl.put6 (fun i hi => (an' i hi).1) (fun i hi => (av' i hi).1), hlt, an', av'⟩
end Yd


namespace Yd
open Go Go.RowKit Go.Proofs

theorem get_app (w r : Bs) (i : Nat) (h : i < w.length) : ByteArray.get! ⟨(w ++ r).toArray⟩ i = ByteArray.get! ⟨w.toArray⟩ i := by
 simp only [ByteArray.get!]
 rw [getElem!_pos (w ++ r).toArray i (by simp; omega), getElem!_pos w.toArray i (by simpa using h)]
 simp [List.getElem_append_left h]
theorem decN_app (n m b0 b1 b2 b3 c1 c2 c3 : Nat) (h1 : 1 < n → c1 = b1) (h2 : 2 < n → c2 = b2) (h3 : 3 < n → c3 = b3) (hok : Lib.decodeN n b0 b1 b2 b3 ≠ (65533, 1)) : Lib.decodeN (n + m) b0 c1 c2 c3 = Lib.decodeN n b0 b1 b2 b3 := by
 unfold Lib.decodeN at hok ⊢
 by_cases a : b0 < 128
 · rw [if_pos a, if_pos a]
 rw [if_neg a] at hok ⊢
 rw [if_neg a]
 by_cases hA : b0 / 32 = 6 ∧ (1 < n ∧ b1 / 64 = 2)
 · rw [if_pos hA]
   rw [if_pos (by rw [h1 hA.2.1]; omega), h1 hA.2.1]
 rw [if_neg hA] at hok ⊢
 by_cases hB : b0 / 16 = 14 ∧ (1 < n ∧ b1 / 64 = 2) ∧ (2 < n ∧ b2 / 64 = 2)
 · rw [if_pos hB]
   rw [if_neg (by omega), if_pos (by rw [h1 (by omega), h2 (by omega)]; omega), h1 (by omega), h2 (by omega)]
 rw [if_neg hB] at hok ⊢
 by_cases hC : b0 / 8 = 30 ∧ (1 < n ∧ b1 / 64 = 2) ∧ (2 < n ∧ b2 / 64 = 2) ∧ (3 < n ∧ b3 / 64 = 2)
 · rw [if_pos hC]
   rw [if_neg (by omega), if_neg (by omega), if_pos (by rw [h1 (by omega), h2 (by omega), h3 (by omega)]; omega), h1 (by omega), h2 (by omega), h3 (by omega)]
 rw [if_neg hC] at hok
 exact absurd rfl hok
theorem ok_ne1 {s : ByteArray} (h : okB s 0 = true) : Utf8.decode s 0 ≠ (65533, 1) := fun e => by
 unfold okB at h
 rw [e] at h
 simp at h
theorem dec_app (w r : Bs) (hw : w ≠ []) (hok : okB ⟨w.toArray⟩ 0 = true) : Utf8.decode ⟨(w ++ r).toArray⟩ 0 = Utf8.decode ⟨w.toArray⟩ 0 := by
 have hne := ok_ne1 hok
 have hl : 0 < w.length := List.length_pos_iff.2 hw
 rw [Lib.decode_at, Lib.decode_at, bsz, bsz, List.length_append, Nat.sub_zero, Nat.sub_zero] at *
 rw [get_app w r 0 hl]
 refine decN_app _ _ _ _ _ _ _ _ _ (fun h => ?_) (fun h => ?_) (fun h => ?_) hne
 · rw [get_app w r (0 + 1) (by omega)]
 · rw [get_app w r (0 + 2) (by omega)]
 · rw [get_app w r (0 + 3) (by omega)]
theorem ok_app (w r : Bs) (hw : w ≠ []) (hok : okB ⟨w.toArray⟩ 0 = true) : okB ⟨(w ++ r).toArray⟩ 0 = true := by
 unfold okB at hok ⊢
 rw [dec_app w r hw hok]; exact hok
def Stops (p : Int → Bool) (r : Bs) : Prop := r = [] ∨ (okB ⟨r.toArray⟩ 0 && p ((Utf8.decode ⟨r.toArray⟩ 0).1 : Int)) = false
theorem whileE_stops {p : Int → Bool} {r : Bs} (h : Stops p r) : whileE ⟨r.toArray⟩ p = 0 := by
 rcases h with rfl | h
 · rfl
 · by_cases hr : r = []
   · subst hr; rfl
   · rw [whileE_cons r p hr, h]; rfl
theorem whileE_app (p : Int → Bool) : ∀ (n : Nat) (w r : Bs), w.length ≤ n → whileE ⟨w.toArray⟩ p = w.length → Stops p r → whileE ⟨(w ++ r).toArray⟩ p = w.length
 | 0, w, r, hn, _, hs => by
   have : w = [] := List.length_eq_zero_iff.1 (by omega)
   subst this
   exact whileE_stops hs
 | n + 1, w, r, hn, hw, hs => by
   by_cases h0 : w = []
   · subst h0; exact whileE_stops hs
   · have hpos : 0 < w.length := List.length_pos_iff.2 h0
     rw [whileE_cons w p h0] at hw
     by_cases hc : (okB ⟨w.toArray⟩ 0 && p ((Utf8.decode ⟨w.toArray⟩ 0).1 : Int)) = true
     · rw [if_pos hc] at hw
       rw [Bool.and_eq_true] at hc
       have hd := dec_app w r h0 hc.1
       have h1 := dec_w w h0
       have h2 := dec_le w h0
       rw [whileE_cons (w ++ r) p (by simp [h0]), hd, ok_app w r h0 hc.1, hc.2, if_pos (show (true && true) = true from rfl), List.drop_append_of_le_length h2]
       rw [whileE_app p n (w.drop (Utf8.decode ⟨w.toArray⟩ 0).2) r (by rw [List.length_drop]; omega) (by rw [List.length_drop]; omega) hs, List.length_drop]
       omega
     · rw [if_neg hc] at hw; omega
theorem stops_byte {c : UInt8} (t : Bs) (h : c.toNat < 128) (he : eitB (c.toNat : Int) = false) : Stops eitB (c :: t) := .inr (by rw [dec_lo c t h]; show (_ && eitB (c.toNat : Int)) = false; rw [he, Bool.and_false])
theorem word_parts {w : Bs} (h : wordB ⟨w.toArray⟩ = true) : w ≠ [] ∧ w.length ≤ 24 ∧ runS w = w.length ∧ beginsS w = true := by
 unfold wordB at h
 simp only [Bool.and_eq_true, decide_eq_true_eq, Bool.not_eq_true'] at h
 obtain ⟨⟨⟨h1, h2⟩, h3⟩, h4⟩ := h
 have hne : w ≠ [] := by rintro rfl; simp at h1
 have hpos : 0 < w.length := List.length_pos_iff.2 hne
 rw [bsz] at h2 h4
 refine ⟨hne, by omega, h4, ?_⟩
 have hc : (okB ⟨w.toArray⟩ 0 && eitB ((Utf8.decode ⟨w.toArray⟩ 0).1 : Int)) = true := by
   apply Classical.byContradiction
   intro hno
   rw [whileE_cons w eitB hne, if_neg hno] at h4
   omega
 rw [Bool.and_eq_true] at hc
 unfold beginsS
 rw [hc.1, Bool.true_and]
 cases w with
 | nil => exact absurd rfl hne
 | cons b t =>
   show (true && letB _) = true
   rw [Bool.true_and]
   have hc2 := hc.2
   unfold eitB at hc2
   rcases Bool.or_eq_true _ _ ▸ hc2 with h | h
   · exact h
   · exfalso
     rcases Nat.lt_or_ge b.toNat 128 with hb | hb
     · rw [dec_lo b t hb] at h
       have : firstR ⟨(b :: t).toArray⟩ = (b.toNat : Int) := by
         unfold firstR
         rw [dif_pos (by rw [bsz]; simp)]
         show wrap32 (b.toNat : Int) = _
         unfold wrap32; omega
       rw [this] at h3
       rw [h3] at h; cases h
     · have := (dec_hi b t hb).1
       unfold numB at h
       simp only [Bool.and_eq_true, decide_eq_true_eq] at h
       omega
theorem begins_app {w r : Bs} (hw : w ≠ []) (h : beginsS w = true) : beginsS (w ++ r) = true := by
 unfold beginsS at h ⊢
 simp only [Bool.and_eq_true, Bool.not_eq_true'] at h ⊢
 have hok := h.2.1
 refine ⟨by cases w with | nil => exact absurd rfl hw | cons b t => rfl, ok_app w r hw hok, ?_⟩
 rw [dec_app w r hw hok]; exact h.2.2
theorem begins_ends {b : UInt8} {t : Bs} (h : beginsS (b :: t) = true) : endsS (b :: t) = false ∧ blB b = false ∧ b ≠ 45 := by
 have hl := begins_hd b t
 rw [h] at hl
 have hb : ∀ k : Nat, k < 128 → letB (k : Int) = false → b.toNat ≠ k := fun k hk hf e => by
   rw [(hd_is b t k hk).2 e, hf] at hl; cases hl
 refine ⟨?_, ?_, fun e => hb 45 (by decide) rfl (by rw [e]; rfl)⟩
 · rw [endsS_cons]
   have h1 := hb 10 (by decide) rfl; have h2 := hb 35 (by decide) rfl
   rw [beq_eq_false_iff_ne.2 (by omega), beq_eq_false_iff_ne.2 (by omega)]; rfl
 · unfold blB
   rw [beq_eq_false_iff_ne.2 (fun e => hb 32 (by decide) rfl (by rw [e]; rfl)), beq_eq_false_iff_ne.2 (fun e => hb 9 (by decide) rfl (by rw [e]; rfl))]; rfl
theorem nameS_app {w r : Bs} (hw : wordB ⟨w.toArray⟩ = true) (hs : Stops eitB r) : nameS (w ++ r) = .ok (w, r) := by
 obtain ⟨hne, hl, hr, hb⟩ := word_parts hw
 have hB := begins_app (r := r) hne hb
 have hrun : runS (w ++ r) = w.length := whileE_app eitB w.length w r (Nat.le_refl _) hr hs
 have hE : endsS (w ++ r) = false := by
   cases w with
   | nil => exact absurd rfl hne
   | cons b t => exact (begins_ends hB).1
 rw [nameS_ok hE hB (by omega), hrun, List.take_left, List.drop_left]
end Yd
