import Derived.Test.YthdpangjphphjaaGreatDoorRdP
import Derived.Test.YthdpangjphphjaaGreatDoorRdT
import Derived.Test.YthdpangjphphjaaGreatDoorShelf
import Derived.WalkSmall
import Derived.Test.YthdpangjphphjaaGreatDoorProg
set_option maxRecDepth 200000
set_option maxHeartbeats 8000000
namespace Yd
open Go Go.RowKit Go.Proofs

@[reducible] def cellsCu (s : Bs) (p : Nat) (e : Int) : Array Value := #[.string ⟨s.toArray⟩, .int .i64 (p : Int), .int .i64 e]
structure CuC (w : World) (B : Nat) (s : Bs) (p : Nat) (l : Bs) (e : Int) : Prop where
 x : Bx w B (cellsCu s p e)
 d : s.drop p = l
 le : p ≤ s.length
 lim : s.length ≤ 1000000
theorem CuC.below {w w' : World} {B p : Nat} {s l : Bs} {e : Int} (h : CuC w B s p l e) (hb : Below w.heap.size w w') : CuC w' B s p l e := ⟨h.x.keep hb, h.d, h.le, h.lim⟩
theorem CuC.drew {w : World} {B p : Nat} {s l : Bs} {e : Int} (h : CuC w B s p l e) : CuC w.drew B s p l e := ⟨h.x, h.d, h.le, h.lim⟩
theorem CuC.len {w : World} {B p : Nat} {s l : Bs} {e : Int} (h : CuC w B s p l e) : p + l.length = s.length := by
 have := h.le; rw [← h.d, List.length_drop]; omega
theorem CuC.at_ {w : World} {B p : Nat} {s t : Bs} {b : UInt8} {e : Int} (h : CuC w B s p (b :: t) e) : s[p]? = some b := by
 have := congrArg (fun l => l[0]?) h.d
 simpa using this
theorem CuC.lt {w : World} {B p : Nat} {s l : Bs} {e : Int} (h : CuC w B s p l e) : B < w.heap.size := h.x.2.2
@[reducible] def Cs (B : Nat) (w w' : World) : Prop := Same (fun i => i ≠ B) w w'
theorem Cs.of_below {B : Nat} {w w' : World} (h : Below w.heap.size w w') : Cs B w w' := Same.of_below h (fun _ _ h => h)
theorem Cs.mv {B : Nat} {w w' : World} (h : Cs B w w') (c : LnC) : Mv B c c w w' := ⟨⟨h.os, h.tape, h.output, h.size, fun i hi hl => h.block i hi.1 hl⟩, fun _ h => .inl h, fun _ h => .inl h⟩
theorem CuC.drewN {w : World} {B p : Nat} {s l : Bs} {e : Int} (h : CuC w B s p l e) (n : Nat) : CuC (w.drewN n) B s p l e := ⟨h.x, h.d, h.le, h.lim⟩
theorem Cs.drewN (B : Nat) (w : World) (n : Nat) : Cs B w (w.drewN n) := ⟨rfl, rfl, rfl, Nat.le_refl _, fun _ _ _ => rfl⟩
theorem CuC.go {w : World} {B p : Nat} {s l : Bs} {e : Int} (h : CuC w B s p l e) (k : Nat) (hk : k ≤ l.length) (q : Nat) (hq : q = p + k) :
   CuC (w.setCell ⟨B, 1, none⟩ (.int .i64 (q : Int))) B s q (l.drop k) e ∧ Cs B w (w.setCell ⟨B, 1, none⟩ (.int .i64 (q : Int))) := by
 subst hq
 have hx := h.x.setC 1 (by simp) (.int .i64 ((p + k : Nat) : Int))
 refine ⟨⟨hx, by rw [← h.d, List.drop_drop], by have := h.len; omega, h.lim⟩, Same.setCell _ _ _ _ (fun e => e rfl)⟩
theorem CuC.err {w : World} {B p : Nat} {s l : Bs} {e : Int} (h : CuC w B s p l e) (m : Int) :
   CuC (w.setCell ⟨B, 2, none⟩ (.int .i64 m)) B s p l m ∧ Cs B w (w.setCell ⟨B, 2, none⟩ (.int .i64 m)) :=
 ⟨⟨h.x.setC 2 (by simp) (.int .i64 m), h.d, h.le, h.lim⟩, Same.setCell _ _ _ _ (fun e => e rfl)⟩
def CuRes {α : Type} (B : Nat) (s : Bs) (w : World) (val : α → Value) (x : Except Er (α × Bs)) (e : Ending) (w' : World) : Prop :=
 ∃ (a : α) (p' : Nat) (l' : Bs) (er : Int), e = .returned (val a) ∧ CuC w' B s p' l' er ∧ Cs B w w' ∧ (match x with | .ok (a', r) => a = a' ∧ l' = r ∧ er = 0 | .error (r, m) => l' = r ∧ er = m ∧ m ≠ 0)
theorem cu_fails {B p : Nat} {s l : Bs} (w : World) (h : CuC w B s p l 0) (k : Nat) (hk : k ≤ l.length) (q : Nat) (hq : q = p + k) (m : Int) :
   Calls Tryz.prog 34 #[.pointer (some ⟨B, 0, none⟩), .int .i64 (q : Int), .int .i64 m] w fun e w' => e = .returned (.tuple #[]) ∧ CuC w' B s q (l.drop k) m ∧ Cs B w w' := by
 have c2 := h.x.1 2; have z1 := h.x.2.1 1; have z2 := h.x.2.1 2; have c1 := h.x.1 1
 have h1 := h.go k hk q hq
 have h2 := h1.1.err m
 have HR := hid (⟨h2.1, h1.2.tr h2.2⟩ : _ ∧ _)
 clear h h1 h2 hk hq
 go_enter Tryz.func34, Tryz.ntmps34
 go_wp2_with fail
 refine bodyPost_end (results_none rfl _ _ _) rfl ?_
 exact ⟨rfl, HR.out.1, HR.out.2⟩
theorem cu_fails_no {B p : Nat} {s l : Bs} {e0 : Int} (w : World) (h : CuC w B s p l e0) (he : e0 ≠ 0) (q : Int) (m : Int) :
   Calls Tryz.prog 34 #[.pointer (some ⟨B, 0, none⟩), .int .i64 q, .int .i64 m] w fun e w' => e = .returned (.tuple #[]) ∧ CuC w' B s p l e0 ∧ Cs B w w' := by
 have c2 := h.x.1 2
 have hb : (e0 == 0) = false := beq_eq_false_iff_ne.2 he
 have HR := hid h
 clear h he
 go_enter Tryz.func34, Tryz.ntmps34
 go_wp2_with fail
 refine bodyPost_end (results_none rfl _ _ _) rfl ?_
 exact ⟨rfl, HR.out, Same.refl' _⟩
theorem cu_ends {B p : Nat} {s l : Bs} {er : Int} (w : World) (h : CuC w B s p l er) : Calls Tryz.prog 29 #[.pointer (some ⟨B, 0, none⟩)] w (Ret (.bool (endsS l)) w) := by
 have c0 := h.x.1 0; have c1 := h.x.1 1
 have hlen := h.len; have hlim := h.lim
 cases hl : l with
 | nil =>
   obtain rfl : p = s.length := by rw [hl] at hlen; simpa using hlen
   have hz := bsz s
   clear h hlen
   go_enter Tryz.func29, Tryz.ntmps29
   go_wp2_with (go_quiet (fail))
   go_ret
   exact ⟨rfl, belowN (Below.refl _ _) _⟩
 | cons b t =>
   subst hl
   have hix := fun W => run_ix Tryz.underlying9 s p b h.at_ W
   have hlt : p < s.length := by simp at hlen; omega
   have hz := bsz s
   have hne : ((p : Int) == (s.length : Int)) = false := beq_eq_false_iff_ne.2 (by omega)
   clear h hlen
   by_cases h10 : b.toNat = 10
   · have hb : ((b.toNat : Int) == 10) = true := by simp [h10]
     go_enter Tryz.func29, Tryz.ntmps29
     go_wp2_with (go_quiet (fail))
     go_ret
     exact ⟨by rw [endsS_cons, hb]; rfl, belowN (Below.refl _ _) _⟩
   · have hb : ((b.toNat : Int) == 10) = false := beq_eq_false_iff_ne.2 (by omega)
     cases h35 : ((b.toNat : Int) == 35)
     all_goals
       go_enter Tryz.func29, Tryz.ntmps29
       go_wp2_with (go_quiet (fail))
       go_ret
       exact ⟨by rw [endsS_cons, hb, h35]; rfl, belowN (Below.refl _ _) _⟩
theorem skipS_cons_yes {b : UInt8} {t : Bs} (h : blB b = true) : skipS (b :: t) = skipS t := by unfold skipS; rw [List.dropWhile_cons, if_pos h]
theorem skipS_cons_no {b : UInt8} {t : Bs} (h : blB b = false) : skipS (b :: t) = b :: t := by unfold skipS; rw [List.dropWhile_cons, h]; rfl
theorem cu_blanks {B p : Nat} {s l : Bs} (w : World) (h : CuC w B s p l 0) :
   Calls Tryz.prog 28 #[.pointer (some ⟨B, 0, none⟩)] w fun e w' => e = .returned (.bool (decide ((skipS l).length < l.length))) ∧ (∃ q, CuC w' B s q (skipS l) 0) ∧ Cs B w w' := by
 have hz := bsz s
 have HH := hid h; have c1 := h.x.1 1
 have hlen := h.len; have hlim := h.lim
 have HLEN := hid hlen
 clear h hlen
 go_enter Tryz.func28, Tryz.ntmps28
 go_wp2_with fail
 go_loopw [] (fun wr => ∃ (W : World) (q : Nat) (l1 : Bs), W = wr ∧ CuC W B s q l1 0 ∧ Cs B w W ∧ skipS l1 = skipS l ∧ l1.length ≤ l.length) (fun wr => (match wr.cell? ⟨B, 1, none⟩ with | some (.int _ q) => s.length - q.toNat | _ => 0))
 case atStart => exact ⟨_, p, l, rfl, HH.out, Same.refl' _, rfl, Nat.le_refl _⟩
 case round =>
   obtain ⟨W, q, l1, rfl, hc, hs, hsk, hll⟩ := hrel
   have HC := hid hc; have HS := hid hs; have HSK := hid hsk; have HLL := hid hll
   have c0 := hc.x.1 0; have c1 := hc.x.1 1; have c2 := hc.x.1 2; have z1 := hc.x.2.1 1
   have HLEN1 := hid hc.len
   cases l1 with
   | nil =>
     obtain rfl : q = s.length := by have := hc.len; simpa using this
     have hlt : decide ((s.length : Int) < (s.length : Int)) = false := by simp
     clear hc hs hsk hll
     go_wp2_with (go_quiet (fail))
     go_ret
     have := HLEN.out
     rw [show (skipS l) = [] from HSK.out.symm]
     have hd : decide (p < s.length) = decide (([] : Bs).length < l.length) := decide_eq_decide.2 (by show p < s.length ↔ 0 < l.length; omega)
     exact ⟨by rw [← hd]; rfl, ⟨_, HC.out.drewN nq⟩, HS.out.tr (Cs.drewN _ _ _)⟩
   | cons b t =>
     have hix := fun W' => run_ix Tryz.underlying9 s q b hc.at_ W'
     have hltn : q < s.length := by have := hc.len; simp at this; omega
     have hlt : decide ((q : Int) < (s.length : Int)) = true := by simp; exact hltn
     by_cases h32 : b.toNat = 32
     · have hb : ((b.toNat : Int) == 32) = true := by simp [h32]
       have HBL : Hid (blB b = true) := hid (by rw [← blR_lo]; unfold blR; rw [hb]; rfl)
       clear hc hs hsk hll
       go_wp2_with (go_quiet (fail))
       have hgo := (HC.out.drewN nq).go 1 (by simp) (q + 1) rfl
       rw [Int.natCast_add] at hgo
       have HGO := hid hgo
       clear hgo
       go_roundw
       case rel => exact ⟨_, q + 1, t, rfl, HGO.out.1, HS.out.tr ((Cs.drewN _ _ _).tr HGO.out.2), by rw [← HSK.out, skipS_cons_yes HBL.out], by have := HLL.out; simp at this; omega⟩
       case measure =>
         have e1 : (((W.drewN nq).setCell ⟨B, 1, none⟩ (.int .i64 ((q : Int) + 1))).cell? ⟨B, 1, none⟩) = some (.int .i64 ((q + 1 : Nat) : Int)) := HGO.out.1.x.1 1
         have e0 : W.cell? ⟨B, 1, none⟩ = some (.int .i64 (q : Int)) := HC.out.x.1 1
         simp only [e1, e0, Int.toNat_natCast]
         omega
     · have hb : ((b.toNat : Int) == 32) = false := beq_eq_false_iff_ne.2 (by omega)
       by_cases h9 : b.toNat = 9
       · have hb9 : ((b.toNat : Int) == 9) = true := by simp [h9]
         have HBL : Hid (blB b = true) := hid (by rw [← blR_lo]; unfold blR; rw [hb9, Bool.or_true])
         clear hc hs hsk hll
         go_wp2_with (go_quiet (fail))
         have hgo := (HC.out.drewN nq).go 1 (by simp) (q + 1) rfl
         rw [Int.natCast_add] at hgo
         have HGO := hid hgo
         clear hgo
         go_roundw
         case rel => exact ⟨_, q + 1, t, rfl, HGO.out.1, HS.out.tr ((Cs.drewN _ _ _).tr HGO.out.2), by rw [← HSK.out, skipS_cons_yes HBL.out], by have := HLL.out; simp at this; omega⟩
         case measure =>
           have e1 : (((W.drewN nq).setCell ⟨B, 1, none⟩ (.int .i64 ((q : Int) + 1))).cell? ⟨B, 1, none⟩) = some (.int .i64 ((q + 1 : Nat) : Int)) := HGO.out.1.x.1 1
           have e0 : W.cell? ⟨B, 1, none⟩ = some (.int .i64 (q : Int)) := HC.out.x.1 1
           simp only [e1, e0, Int.toNat_natCast]
           omega
       · have hb9 : ((b.toNat : Int) == 9) = false := beq_eq_false_iff_ne.2 (by omega)
         have HBL : Hid (blB b = false) := hid (by rw [← blR_lo]; unfold blR; rw [hb, hb9]; rfl)
         clear hc hs hsk hll
         go_wp2_with (go_quiet (fail))
         go_ret
         have := HLEN.out; have h1 := HLEN1.out
         have hsl : skipS l = b :: t := by rw [← HSK.out, skipS_cons_no HBL.out]
         rw [hsl]
         have hd : decide (p < q) = decide ((b :: t).length < l.length) := decide_eq_decide.2 (by omega)
         exact ⟨by rw [← hd]; rfl, ⟨_, HC.out.drewN nq⟩, HS.out.tr (Cs.drewN _ _ _)⟩
end Yd


namespace Yd
open Go Go.RowKit Go.Proofs

def CuNx (B : Nat) (s : Bs) (w : World) (x : Except Er (Bool × Bs)) (e : Ending) (w' : World) : Prop :=
 ∃ (a : Bool) (p' : Nat) (l' : Bs) (er : Int), e = .returned (.bool a) ∧ CuC w' B s p' l' er ∧ Cs B w w' ∧ (match x with | .ok (a', r) => a = a' ∧ l' = r ∧ er = 0 | .error (r, m) => a = false ∧ l' = r ∧ er = m ∧ m ≠ 0)
theorem CuNx.res {B : Nat} {s : Bs} {w : World} {x : Except Er (Bool × Bs)} {e : Ending} {w' : World} (h : CuNx B s w x e w') : CuRes B s w (fun b : Bool => .bool b) x e w' := by
 obtain ⟨a, p', l', er, h1, h2, h3, h4⟩ := h
 refine ⟨a, p', l', er, h1, h2, h3, ?_⟩
 cases x with
 | ok y => exact h4
 | error y => exact h4.2
theorem cu_nextX {B p : Nat} {s l : Bs} (w : World) (h : CuC w B s p l 0) : Calls Tryz.prog 33 #[.pointer (some ⟨B, 0, none⟩)] w (CuNx B s w (moreS l)) := by
 have HBL := hid (cu_blanks w h)
 have c2 := h.x.1 2
 obtain ⟨X, hX⟩ : ∃ X, X = moreS l := ⟨_, rfl⟩
 rw [← hX]
 have HX := hid hX
 clear h hX
 go_enter Tryz.func33, Tryz.ntmps33
 go_wp2_with fail
 refine HBL.out.mono ?_
 rintro e w1 ⟨rfl, ⟨q, hc⟩, hs⟩
 have HC := hid hc; have HS := hid hs
 have c2' := hc.x.1 2; have c1' := hc.x.1 1
 clear hc hs c2
 have hsl := skipS_len l
 cases hb : decide ((skipS l).length < l.length)
 · have hl : (skipS l).length = l.length := by simp at hb; omega
   have HL := hid hl
   clear hb hl hsl
   go_wp2_with fail
   refine (cu_ends w1 HC.out).mono ?_
   rintro e w2 ⟨rfl, hb2⟩
   have HC2 := hid (HC.out.below hb2); have HS2 := hid (HS.out.tr (Cs.of_below hb2))
   clear hb2 c2' c1'
   have c2' := HC2.out.x.1 2; have c1' := HC2.out.x.1 1
   cases hE : endsS (skipS l)
   · have HE := hid hE
     go_wp2_with fail
     refine (cu_fails w2 HC2.out 0 (Nat.zero_le _) q rfl 220).mono ?_
     rintro e w3 ⟨rfl, hc3, hs3⟩
     have HC3 := hid hc3; have HS3 := hid (HS2.out.tr hs3)
     clear c2' c1' hc3 hs3
     have c2' := HC3.out.x.1 2
     go_wp2_with fail
     go_ret
     refine ⟨false, q, skipS l, 220, rfl, HC3.out, HS3.out, ?_⟩
     rw [HX.out]
     unfold moreS
     rw [if_neg (by rw [HE.out]; simp), if_pos HL.out]
     exact ⟨rfl, rfl, rfl, by decide⟩
   · have HE := hid hE
     go_wp2_with fail
     refine (cu_ends w2 HC2.out).mono ?_
     rintro e w3 ⟨rfl, hb3⟩
     have HC3 := hid (HC2.out.below hb3); have HS3 := hid (HS2.out.tr (Cs.of_below hb3))
     clear hb3 c2' c1'
     rw [HE.out]
     go_wp2_with fail
     go_ret
     refine ⟨false, q, skipS l, 0, rfl, HC3.out, HS3.out, ?_⟩
     rw [HX.out]
     unfold moreS
     rw [if_pos HE.out]
     exact ⟨rfl, rfl, rfl⟩
 · have hl : ¬ (skipS l).length = l.length := by simp at hb; omega
   have HL := hid hl
   clear hb hl hsl
   go_wp2_with fail
   refine (cu_ends w1 HC.out).mono ?_
   rintro e w2 ⟨rfl, hb2⟩
   have HC2 := hid (HC.out.below hb2); have HS2 := hid (HS.out.tr (Cs.of_below hb2))
   clear hb2 c2' c1'
   cases hE : endsS (skipS l)
   all_goals
     have HE := hid hE
     clear hE
     go_wp2_with fail
     go_ret
     refine ⟨_, q, skipS l, 0, rfl, HC2.out, HS2.out, ?_⟩
     rw [HX.out]
     unfold moreS
     rw [HE.out]
     first
       | (rw [if_pos rfl]; exact ⟨rfl, rfl, rfl⟩)
       | (rw [if_neg (by simp), if_neg HL.out]; exact ⟨rfl, rfl, rfl⟩)
theorem cu_next {B p : Nat} {s l : Bs} (w : World) (h : CuC w B s p l 0) : Calls Tryz.prog 33 #[.pointer (some ⟨B, 0, none⟩)] w (CuRes B s w (fun b : Bool => .bool b) (moreS l)) :=
 (cu_nextX w h).mono fun _ _ h => h.res
theorem cu_next_no {B p : Nat} {s l : Bs} {er : Int} (w : World) (h : CuC w B s p l er) (he : er ≠ 0) : Calls Tryz.prog 33 #[.pointer (some ⟨B, 0, none⟩)] w (fun e w' => e = .returned (.bool false) ∧ CuC w' B s p l er ∧ Cs B w w') := by
 have c2 := h.x.1 2
 have hb : (er != 0) = true := by simpa using he
 have HH := hid h
 clear h he
 go_enter Tryz.func33, Tryz.ntmps33
 go_wp2_with fail
 go_ret
 exact ⟨rfl, HH.out, Same.refl' _⟩
def mustU (l : Bs) : Except Er (Unit × Bs) := match mustS l with | .error x => .error x | .ok r => .ok ((), r)
theorem cu_must {B p : Nat} {s l : Bs} (w : World) (h : CuC w B s p l 0) : Calls Tryz.prog 90 #[.pointer (some ⟨B, 0, none⟩)] w (CuRes B s w (fun _ : Unit => .tuple #[]) (mustU l)) := by
 have HNX := hid (cu_next w h)
 clear h
 go_enter Tryz.func90, Tryz.ntmps90
 go_wp2_with fail
 refine HNX.out.mono ?_
 rintro e w1 ⟨b, q, r, er, rfl, hc, hs, hx⟩
 have HC := hid hc; have HS := hid hs; have HXX := hid hx
 have c1 := hc.x.1 1
 clear hc hs hx
 cases b
 · go_wp2_with fail
   by_cases h0 : er = 0
   · subst h0
     refine (cu_fails w1 HC.out 0 (Nat.zero_le _) q rfl 220).mono ?_
     rintro e w2 ⟨rfl, hc2, hs2⟩
     have HC2 := hid hc2; have HS2 := hid (HS.out.tr hs2)
     clear hc2 hs2
     go_wp2_with fail
     refine bodyPost_end (results_none rfl _ _ _) rfl ?_
     refine ⟨(), q, r, 220, rfl, HC2.out, HS2.out, ?_⟩
     have hx := HXX.out
     unfold mustU mustS
     cases hm : moreS l with
     | error x => rw [hm] at hx; exact absurd hx.2.1.symm hx.2.2
     | ok br =>
       obtain ⟨b', r'⟩ := br
       rw [hm] at hx
       obtain ⟨h1, h2, _⟩ := hx
       subst h1 h2
       exact ⟨rfl, rfl, by decide⟩
   · refine (cu_fails_no w1 HC.out h0 (q : Int) 220).mono ?_
     rintro e w2 ⟨rfl, hc2, hs2⟩
     have HC2 := hid hc2; have HS2 := hid (HS.out.tr hs2)
     clear hc2 hs2
     go_wp2_with fail
     refine bodyPost_end (results_none rfl _ _ _) rfl ?_
     refine ⟨(), q, r, er, rfl, HC2.out, HS2.out, ?_⟩
     have hx := HXX.out
     unfold mustU mustS
     cases hm : moreS l with
     | error x => rw [hm] at hx; exact hx
     | ok br => obtain ⟨b', r'⟩ := br; rw [hm] at hx; exact absurd hx.2.2 h0
 · go_wp2_with fail
   refine bodyPost_end (results_none rfl _ _ _) rfl ?_
   refine ⟨(), q, r, er, rfl, HC.out, HS.out, ?_⟩
   have hx := HXX.out
   unfold mustU mustS
   cases hm : moreS l with
   | error x => rw [hm] at hx; exact hx
   | ok br =>
     obtain ⟨b', r'⟩ := br
     rw [hm] at hx
     obtain ⟨h1, h2, h3⟩ := hx
     subst h1
     exact ⟨rfl, h2, h3⟩
theorem cu_must_no {B p : Nat} {s l : Bs} {er : Int} (w : World) (h : CuC w B s p l er) (he : er ≠ 0) : Calls Tryz.prog 90 #[.pointer (some ⟨B, 0, none⟩)] w (fun e w' => e = .returned (.tuple #[]) ∧ CuC w' B s p l er ∧ Cs B w w') := by
 have HNX := hid (cu_next_no w h he); have HE := hid he
 clear h he
 go_enter Tryz.func90, Tryz.ntmps90
 go_wp2_with fail
 refine HNX.out.mono ?_
 rintro e w1 ⟨rfl, hc, hs⟩
 have HC := hid hc; have HS := hid hs
 have c1 := hc.x.1 1
 clear hc hs
 go_wp2_with fail
 refine (cu_fails_no w1 HC.out HE.out (p : Int) 220).mono ?_
 rintro e w2 ⟨rfl, hc2, hs2⟩
 have HC2 := hid hc2; have HS2 := hid (HS.out.tr hs2)
 clear hc2 hs2
 go_wp2_with fail
 refine bodyPost_end (results_none rfl _ _ _) rfl ?_
 exact ⟨rfl, HC2.out, HS2.out⟩
end Yd


namespace Yd
open Go Go.RowKit Go.Proofs

def wcR (c : UInt8) : Bool := wcB c || decide (128 ≤ c.toNat)
def runR (l : Bs) : Nat := (l.takeWhile wcR).length
theorem runR_le (l : Bs) : runR l ≤ l.length := by unfold runR; have := len_takeWhile wcR l; omega
theorem tw_take (q : UInt8 → Bool) : ∀ (l : Bs) (k : Nat), k ≤ (l.takeWhile q).length → (l.takeWhile q).length = k + ((l.drop k).takeWhile q).length
 | _, 0, _ => by simp
 | [], k + 1, h => by simp at h
 | a :: t, k + 1, h => by
   rw [List.takeWhile_cons] at h ⊢
   cases hq : q a
   · rw [hq] at h; simp at h
   · rw [hq, if_pos rfl] at h
     rw [if_pos rfl, List.drop_succ_cons]
     have := tw_take q t k (by simpa using h)
     simp only [List.length_cons]; omega
theorem tw_at (l : Bs) (k : Nat) (b : UInt8) (hb : l[k]? = some b) (hk : k ≤ runR l) : k + (if wcR b = true then ((l.drop (k + 1)).takeWhile wcR).length + 1 else 0) ≤ runR l ∧ (wcR b = false → runR l = k) := by
 have h := tw_take wcR l k hk
 obtain ⟨h1, h2⟩ := List.getElem?_eq_some_iff.1 hb
 rw [List.drop_eq_getElem_cons h1, h2, List.takeWhile_cons] at h
 unfold runR
 cases hw : wcR b
 · rw [hw] at h
   simp at h ⊢
   omega
 · rw [hw, if_pos rfl] at h
   rw [if_pos rfl]
   simp only [List.length_cons] at h
   exact ⟨by omega, fun e => by cases e⟩
theorem cu_run {B p : Nat} {s l : Bs} {er : Int} (w : World) (h : CuC w B s p l er) : Calls Tryz.prog 89 #[.pointer (some ⟨B, 0, none⟩)] w (Ret (.int .i64 (runR l : Int)) w) := by
 have hz := bsz s
 have c0 := h.x.1 0; have c1 := h.x.1 1
 have hlen := h.len; have hlim := h.lim
 have HH := hid h; have HLEN := hid hlen; have HAT := hid (fun (i : Nat) (b : UInt8) (hb : l[i]? = some b) => (show s[p + i]? = some b by rw [← h.d, List.getElem?_drop] at hb; exact hb))
 have HRUN := hid (runR_le l)
 clear h hlen
 go_enter Tryz.func89, Tryz.ntmps89
 go_wp2_with fail
 go_loopw [3] (fun i wr => ∃ k : Nat, i = .int .i64 ((p + k : Nat) : Int) ∧ k ≤ runR l ∧ Below w.heap.size w wr ∧ CuC wr B s p l er) (fun i _ => s.length - (RowKit.intOf i).toNat)
 case atStart => exact ⟨0, rfl, Nat.zero_le _, Below.refl _ _, HH.out⟩
 case round =>
   obtain ⟨k, rfl, hk, hb, hc⟩ := hrel
   have HK := hid hk; have HB := hid hb; have HC := hid hc
   have c0 := hc.x.1 0; have c1 := hc.x.1 1
   have hpb : p ≤ 1000000 := by have := HLEN.out; omega
   have hkb : k ≤ 1000000 := by have := HLEN.out; have := HRUN.out; omega
   have hsub : (p : Int) + (k : Int) - (p : Int) = (k : Int) := by omega
   clear hk hb hc
   by_cases hlt : k < l.length
   · obtain ⟨b, hbk⟩ : ∃ b, l[k]? = some b := ⟨_, List.getElem?_eq_getElem hlt⟩
     have hix := fun W' => run_ix Tryz.underlying9 s (p + k) b (HAT.out k b hbk) W'
     rw [Int.natCast_add] at hix
     have hltd : decide ((p : Int) + (k : Int) < (s.length : Int)) = true := by have := HLEN.out; simp only [decide_eq_true_eq]; omega
     have HBK := hid hbk
     have hdr : l.drop k = b :: l.drop (k + 1) := by obtain ⟨h1, h2⟩ := List.getElem?_eq_some_iff.1 hbk; rw [List.drop_eq_getElem_cons h1, h2]
     have HW := hid (wcB_nat b)
     have HTW : Hid (k + (if wcR b = true then ((l.drop (k + 1)).takeWhile wcR).length + 1 else 0) ≤ runR l ∧ (wcR b = false → runR l = k)) := hid (tw_at l k b hbk HK.out)
     have h256 : b.toNat < 256 := b.toNat_lt
     clear hbk hdr
     obtain ⟨n, hn⟩ : ∃ n, n = b.toNat := ⟨_, rfl⟩
     rw [← hn] at HW h256 hix
     have HN := hid hn
     clear hn hlt
     rcases (by omega : n ≤ 45 ∨ n = 46 ∨ n = 47 ∨ (48 ≤ n ∧ n ≤ 57) ∨ (58 ≤ n ∧ n ≤ 64) ∨ (65 ≤ n ∧ n ≤ 90) ∨ (91 ≤ n ∧ n ≤ 94) ∨ n = 95 ∨ n = 96 ∨ (97 ≤ n ∧ n ≤ 122) ∨ (123 ≤ n ∧ n ≤ 127) ∨ 128 ≤ n) with hn | hn | hn | hn | hn | hn | hn | hn | hn | hn | hn | hn
     · have hw : wcR b = false := by
         unfold wcR; rw [HW.out, ← HN.out]
         simp only [Bool.or_eq_false_iff, Bool.and_eq_false_iff, decide_eq_false_iff_not]; omega
       have HWW := hid hw
       have g1 : decide (97 ≤ (n : Int)) = false := by simp; omega
       have g2 : decide ((n : Int) ≤ 122) = true := by simp; omega
       have g3 : decide (65 ≤ (n : Int)) = false := by simp; omega
       have g4 : decide ((n : Int) ≤ 90) = true := by simp; omega
       have g5 : decide (48 ≤ (n : Int)) = false := by simp; omega
       have g6 : decide ((n : Int) ≤ 57) = true := by simp; omega
       have g7 : ((n : Int) == 95) = false := by simp; omega
       have g8 : ((n : Int) == 46) = false := by simp; omega
       have g9 : decide (128 ≤ (n : Int)) = false := by simp; omega
       clear hw hn h256
       go_wp2_with fail
       go_ret
       rw [HTW.out.2 HWW.out]
       exact ⟨by first | rfl | (rw [show (p : Int) + (k : Int) - (p : Int) = (k : Int) by omega]; rfl) | (show Ending.returned (.int .i64 ((p : Int) + (k : Int) - (p : Int))) = _; rw [show (p : Int) + (k : Int) - (p : Int) = (k : Int) by omega]), HB.out⟩
     · have hw : wcR b = true := by
         unfold wcR; rw [HW.out, ← HN.out]
         simp only [Bool.or_eq_true, Bool.and_eq_true, decide_eq_true_eq]; omega
       have HWW := hid hw
       have g1 : decide (97 ≤ (n : Int)) = false := by simp; omega
       have g2 : decide ((n : Int) ≤ 122) = true := by simp; omega
       have g3 : decide (65 ≤ (n : Int)) = false := by simp; omega
       have g4 : decide ((n : Int) ≤ 90) = true := by simp; omega
       have g5 : decide (48 ≤ (n : Int)) = false := by simp; omega
       have g6 : decide ((n : Int) ≤ 57) = true := by simp; omega
       have g7 : ((n : Int) == 95) = false := by simp; omega
       have g8 : ((n : Int) == 46) = true := by simp; omega
       have g9 : decide (128 ≤ (n : Int)) = false := by simp; omega
       clear hw hn h256
       go_wp2_with fail
       go_roundw
       case rel => exact ⟨k + 1, by go_num, by have := HTW.out.1; rw [if_pos HWW.out] at this; omega, HB.out, HC.out⟩
       case measure => simp [RowKit.intOf]; have := HTW.out.1; rw [if_pos HWW.out] at this; have := HLEN.out; have := HRUN.out; omega
     · have hw : wcR b = false := by
         unfold wcR; rw [HW.out, ← HN.out]
         simp only [Bool.or_eq_false_iff, Bool.and_eq_false_iff, decide_eq_false_iff_not]; omega
       have HWW := hid hw
       have g1 : decide (97 ≤ (n : Int)) = false := by simp; omega
       have g2 : decide ((n : Int) ≤ 122) = true := by simp; omega
       have g3 : decide (65 ≤ (n : Int)) = false := by simp; omega
       have g4 : decide ((n : Int) ≤ 90) = true := by simp; omega
       have g5 : decide (48 ≤ (n : Int)) = false := by simp; omega
       have g6 : decide ((n : Int) ≤ 57) = true := by simp; omega
       have g7 : ((n : Int) == 95) = false := by simp; omega
       have g8 : ((n : Int) == 46) = false := by simp; omega
       have g9 : decide (128 ≤ (n : Int)) = false := by simp; omega
       clear hw hn h256
       go_wp2_with fail
       go_ret
       rw [HTW.out.2 HWW.out]
       exact ⟨by first | rfl | (rw [show (p : Int) + (k : Int) - (p : Int) = (k : Int) by omega]; rfl) | (show Ending.returned (.int .i64 ((p : Int) + (k : Int) - (p : Int))) = _; rw [show (p : Int) + (k : Int) - (p : Int) = (k : Int) by omega]), HB.out⟩
     · have hw : wcR b = true := by
         unfold wcR; rw [HW.out, ← HN.out]
         simp only [Bool.or_eq_true, Bool.and_eq_true, decide_eq_true_eq]; omega
       have HWW := hid hw
       have g1 : decide (97 ≤ (n : Int)) = false := by simp; omega
       have g2 : decide ((n : Int) ≤ 122) = true := by simp; omega
       have g3 : decide (65 ≤ (n : Int)) = false := by simp; omega
       have g4 : decide ((n : Int) ≤ 90) = true := by simp; omega
       have g5 : decide (48 ≤ (n : Int)) = true := by simp; omega
       have g6 : decide ((n : Int) ≤ 57) = true := by simp; omega
       have g7 : ((n : Int) == 95) = false := by simp; omega
       have g8 : ((n : Int) == 46) = false := by simp; omega
       have g9 : decide (128 ≤ (n : Int)) = false := by simp; omega
       clear hw hn h256
       go_wp2_with fail
       go_roundw
       case rel => exact ⟨k + 1, by go_num, by have := HTW.out.1; rw [if_pos HWW.out] at this; omega, HB.out, HC.out⟩
       case measure => simp [RowKit.intOf]; have := HTW.out.1; rw [if_pos HWW.out] at this; have := HLEN.out; have := HRUN.out; omega
     · have hw : wcR b = false := by
         unfold wcR; rw [HW.out, ← HN.out]
         simp only [Bool.or_eq_false_iff, Bool.and_eq_false_iff, decide_eq_false_iff_not]; omega
       have HWW := hid hw
       have g1 : decide (97 ≤ (n : Int)) = false := by simp; omega
       have g2 : decide ((n : Int) ≤ 122) = true := by simp; omega
       have g3 : decide (65 ≤ (n : Int)) = false := by simp; omega
       have g4 : decide ((n : Int) ≤ 90) = true := by simp; omega
       have g5 : decide (48 ≤ (n : Int)) = true := by simp; omega
       have g6 : decide ((n : Int) ≤ 57) = false := by simp; omega
       have g7 : ((n : Int) == 95) = false := by simp; omega
       have g8 : ((n : Int) == 46) = false := by simp; omega
       have g9 : decide (128 ≤ (n : Int)) = false := by simp; omega
       clear hw hn h256
       go_wp2_with fail
       go_ret
       rw [HTW.out.2 HWW.out]
       exact ⟨by first | rfl | (rw [show (p : Int) + (k : Int) - (p : Int) = (k : Int) by omega]; rfl) | (show Ending.returned (.int .i64 ((p : Int) + (k : Int) - (p : Int))) = _; rw [show (p : Int) + (k : Int) - (p : Int) = (k : Int) by omega]), HB.out⟩
     · have hw : wcR b = true := by
         unfold wcR; rw [HW.out, ← HN.out]
         simp only [Bool.or_eq_true, Bool.and_eq_true, decide_eq_true_eq]; omega
       have HWW := hid hw
       have g1 : decide (97 ≤ (n : Int)) = false := by simp; omega
       have g2 : decide ((n : Int) ≤ 122) = true := by simp; omega
       have g3 : decide (65 ≤ (n : Int)) = true := by simp; omega
       have g4 : decide ((n : Int) ≤ 90) = true := by simp; omega
       have g5 : decide (48 ≤ (n : Int)) = true := by simp; omega
       have g6 : decide ((n : Int) ≤ 57) = false := by simp; omega
       have g7 : ((n : Int) == 95) = false := by simp; omega
       have g8 : ((n : Int) == 46) = false := by simp; omega
       have g9 : decide (128 ≤ (n : Int)) = false := by simp; omega
       clear hw hn h256
       go_wp2_with fail
       go_roundw
       case rel => exact ⟨k + 1, by go_num, by have := HTW.out.1; rw [if_pos HWW.out] at this; omega, HB.out, HC.out⟩
       case measure => simp [RowKit.intOf]; have := HTW.out.1; rw [if_pos HWW.out] at this; have := HLEN.out; have := HRUN.out; omega
     · have hw : wcR b = false := by
         unfold wcR; rw [HW.out, ← HN.out]
         simp only [Bool.or_eq_false_iff, Bool.and_eq_false_iff, decide_eq_false_iff_not]; omega
       have HWW := hid hw
       have g1 : decide (97 ≤ (n : Int)) = false := by simp; omega
       have g2 : decide ((n : Int) ≤ 122) = true := by simp; omega
       have g3 : decide (65 ≤ (n : Int)) = true := by simp; omega
       have g4 : decide ((n : Int) ≤ 90) = false := by simp; omega
       have g5 : decide (48 ≤ (n : Int)) = true := by simp; omega
       have g6 : decide ((n : Int) ≤ 57) = false := by simp; omega
       have g7 : ((n : Int) == 95) = false := by simp; omega
       have g8 : ((n : Int) == 46) = false := by simp; omega
       have g9 : decide (128 ≤ (n : Int)) = false := by simp; omega
       clear hw hn h256
       go_wp2_with fail
       go_ret
       rw [HTW.out.2 HWW.out]
       exact ⟨by first | rfl | (rw [show (p : Int) + (k : Int) - (p : Int) = (k : Int) by omega]; rfl) | (show Ending.returned (.int .i64 ((p : Int) + (k : Int) - (p : Int))) = _; rw [show (p : Int) + (k : Int) - (p : Int) = (k : Int) by omega]), HB.out⟩
     · have hw : wcR b = true := by
         unfold wcR; rw [HW.out, ← HN.out]
         simp only [Bool.or_eq_true, Bool.and_eq_true, decide_eq_true_eq]; omega
       have HWW := hid hw
       have g1 : decide (97 ≤ (n : Int)) = false := by simp; omega
       have g2 : decide ((n : Int) ≤ 122) = true := by simp; omega
       have g3 : decide (65 ≤ (n : Int)) = true := by simp; omega
       have g4 : decide ((n : Int) ≤ 90) = false := by simp; omega
       have g5 : decide (48 ≤ (n : Int)) = true := by simp; omega
       have g6 : decide ((n : Int) ≤ 57) = false := by simp; omega
       have g7 : ((n : Int) == 95) = true := by simp; omega
       have g8 : ((n : Int) == 46) = false := by simp; omega
       have g9 : decide (128 ≤ (n : Int)) = false := by simp; omega
       clear hw hn h256
       go_wp2_with fail
       go_roundw
       case rel => exact ⟨k + 1, by go_num, by have := HTW.out.1; rw [if_pos HWW.out] at this; omega, HB.out, HC.out⟩
       case measure => simp [RowKit.intOf]; have := HTW.out.1; rw [if_pos HWW.out] at this; have := HLEN.out; have := HRUN.out; omega
     · have hw : wcR b = false := by
         unfold wcR; rw [HW.out, ← HN.out]
         simp only [Bool.or_eq_false_iff, Bool.and_eq_false_iff, decide_eq_false_iff_not]; omega
       have HWW := hid hw
       have g1 : decide (97 ≤ (n : Int)) = false := by simp; omega
       have g2 : decide ((n : Int) ≤ 122) = true := by simp; omega
       have g3 : decide (65 ≤ (n : Int)) = true := by simp; omega
       have g4 : decide ((n : Int) ≤ 90) = false := by simp; omega
       have g5 : decide (48 ≤ (n : Int)) = true := by simp; omega
       have g6 : decide ((n : Int) ≤ 57) = false := by simp; omega
       have g7 : ((n : Int) == 95) = false := by simp; omega
       have g8 : ((n : Int) == 46) = false := by simp; omega
       have g9 : decide (128 ≤ (n : Int)) = false := by simp; omega
       clear hw hn h256
       go_wp2_with fail
       go_ret
       rw [HTW.out.2 HWW.out]
       exact ⟨by first | rfl | (rw [show (p : Int) + (k : Int) - (p : Int) = (k : Int) by omega]; rfl) | (show Ending.returned (.int .i64 ((p : Int) + (k : Int) - (p : Int))) = _; rw [show (p : Int) + (k : Int) - (p : Int) = (k : Int) by omega]), HB.out⟩
     · have hw : wcR b = true := by
         unfold wcR; rw [HW.out, ← HN.out]
         simp only [Bool.or_eq_true, Bool.and_eq_true, decide_eq_true_eq]; omega
       have HWW := hid hw
       have g1 : decide (97 ≤ (n : Int)) = true := by simp; omega
       have g2 : decide ((n : Int) ≤ 122) = true := by simp; omega
       have g3 : decide (65 ≤ (n : Int)) = true := by simp; omega
       have g4 : decide ((n : Int) ≤ 90) = false := by simp; omega
       have g5 : decide (48 ≤ (n : Int)) = true := by simp; omega
       have g6 : decide ((n : Int) ≤ 57) = false := by simp; omega
       have g7 : ((n : Int) == 95) = false := by simp; omega
       have g8 : ((n : Int) == 46) = false := by simp; omega
       have g9 : decide (128 ≤ (n : Int)) = false := by simp; omega
       clear hw hn h256
       go_wp2_with fail
       go_roundw
       case rel => exact ⟨k + 1, by go_num, by have := HTW.out.1; rw [if_pos HWW.out] at this; omega, HB.out, HC.out⟩
       case measure => simp [RowKit.intOf]; have := HTW.out.1; rw [if_pos HWW.out] at this; have := HLEN.out; have := HRUN.out; omega
     · have hw : wcR b = false := by
         unfold wcR; rw [HW.out, ← HN.out]
         simp only [Bool.or_eq_false_iff, Bool.and_eq_false_iff, decide_eq_false_iff_not]; omega
       have HWW := hid hw
       have g1 : decide (97 ≤ (n : Int)) = true := by simp; omega
       have g2 : decide ((n : Int) ≤ 122) = false := by simp; omega
       have g3 : decide (65 ≤ (n : Int)) = true := by simp; omega
       have g4 : decide ((n : Int) ≤ 90) = false := by simp; omega
       have g5 : decide (48 ≤ (n : Int)) = true := by simp; omega
       have g6 : decide ((n : Int) ≤ 57) = false := by simp; omega
       have g7 : ((n : Int) == 95) = false := by simp; omega
       have g8 : ((n : Int) == 46) = false := by simp; omega
       have g9 : decide (128 ≤ (n : Int)) = false := by simp; omega
       clear hw hn h256
       go_wp2_with fail
       go_ret
       rw [HTW.out.2 HWW.out]
       exact ⟨by first | rfl | (rw [show (p : Int) + (k : Int) - (p : Int) = (k : Int) by omega]; rfl) | (show Ending.returned (.int .i64 ((p : Int) + (k : Int) - (p : Int))) = _; rw [show (p : Int) + (k : Int) - (p : Int) = (k : Int) by omega]), HB.out⟩
     · have hw : wcR b = true := by
         unfold wcR; rw [HW.out, ← HN.out]
         simp only [Bool.or_eq_true, Bool.and_eq_true, decide_eq_true_eq]; omega
       have HWW := hid hw
       have g1 : decide (97 ≤ (n : Int)) = true := by simp; omega
       have g2 : decide ((n : Int) ≤ 122) = false := by simp; omega
       have g3 : decide (65 ≤ (n : Int)) = true := by simp; omega
       have g4 : decide ((n : Int) ≤ 90) = false := by simp; omega
       have g5 : decide (48 ≤ (n : Int)) = true := by simp; omega
       have g6 : decide ((n : Int) ≤ 57) = false := by simp; omega
       have g7 : ((n : Int) == 95) = false := by simp; omega
       have g8 : ((n : Int) == 46) = false := by simp; omega
       have g9 : decide (128 ≤ (n : Int)) = true := by simp; omega
       clear hw hn h256
       go_wp2_with fail
       go_roundw
       case rel => exact ⟨k + 1, by go_num, by have := HTW.out.1; rw [if_pos HWW.out] at this; omega, HB.out, HC.out⟩
       case measure => simp [RowKit.intOf]; have := HTW.out.1; rw [if_pos HWW.out] at this; have := HLEN.out; have := HRUN.out; omega
   · have hltd : decide ((p : Int) + (k : Int) < (s.length : Int)) = false := by have := HLEN.out; simp only [decide_eq_false_iff_not]; omega
     have hr : runR l = k := by have := HK.out; have := HRUN.out; omega
     have HR := hid hr
     clear hr hlt
     go_wp2_with fail
     go_ret
     rw [HR.out]
     exact ⟨by first | rfl | (show Ending.returned (.int .i64 ((p : Int) + (k : Int) - (p : Int))) = _; rw [show (p : Int) + (k : Int) - (p : Int) = (k : Int) by omega]), HB.out⟩
end Yd
