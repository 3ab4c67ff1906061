import Derived.Test.YthdpangjphphjaaGreatDoorChB0
import Derived.Test.YthdpangjphphjaaGreatDoorProg
import Derived.Test.YthdpangjphphjaaGreatDoorChB108
import Derived.Test.YthdpangjphphjaaGreatDoorChB116
import Derived.Test.YthdpangjphphjaaGreatDoorShape
import Derived.BigQuiet
import Derived.Test.YthdpangjphphjaaGreatDoorRWord
import Derived.Test.YthdpangjphphjaaGreatDoorCheck
import Derived.Test.YthdpangjphphjaaGreatDoorInfo
import Derived.Test.YthdpangjphphjaaGreatDoorLawSt
import Derived.Test.YthdpangjphphjaaGreatDoorRdV
import Derived.Test.YthdpangjphphjaaGreatDoorRdW
set_option maxRecDepth 200000
set_option maxHeartbeats 8000000
namespace Yd
open Go Go.RowKit Go.Proofs
end Yd


namespace Yd
open Go Go.RowKit Go.Proofs
end Yd


namespace Yd
open Go Go.RowKit Go.Proofs

theorem r_eqStr (a a' : Option Addr) (n c n' c' : Nat) (xs ys : List Bs) (w : World) (hr : Row w 1 encStr a n c xs) (hr' : Row w 1 encStr a' n' c' ys) :
   Calls Tryz.prog 36 #[.slice a n c, .slice a' n' c'] w (Ret (.bool (decide (xs = ys))) w) := by
 have hn := hr.le
 have hn' := hr'.le
 have HR := hid hr; have HR' := hid hr'
 clear hr hr'
 by_cases hl : n = n'
 · subst hl
   clear hn'
   go_enter Tryz.func36, Tryz.ntmps36
   go_wp2_with fail
   go_loopw [13] (fun i wr => ∃ k : Nat, k ≤ n ∧ i = .int .i64 k ∧ xs.take k = ys.take k ∧ Below w.heap.size w wr) (fun i _ => n - (RowKit.intOf i).toNat)
   case atStart => exact ⟨0, Nat.zero_le _, rfl, rfl, Below.refl _ _⟩
   case round =>
     obtain ⟨k, hk, rfl, hf, hb⟩ := hrel
     have HF := hid hf; clear hf
     by_cases hlt : k < n
     · have hi1 : (0 : Int) ≤ (k : Int) := by omega
       have hi2 : (k : Int) < (n : Int) := by omega
       obtain ⟨x, b, o, hx, rfl, hc⟩ := HR.out.at_ hlt
       obtain ⟨y, b', o', hy, rfl, hc'⟩ := HR'.out.at_ hlt
       have h0 := bget hb rfl (hc 0 _ rfl)
       simp only [Nat.mul_one, Nat.add_zero] at h0
       have h'0 := bget hb rfl (hc' 0 _ rfl)
       simp only [Nat.mul_one, Nat.add_zero] at h'0
       have HX := hid hx; have HY := hid hy
       clear hc hc' hx hy
       by_cases he : x = y
       · subst he
         go_wp2_with fail
         go_quiet (fail)
         go_wp2_with fail
         refine ⟨⟨k + 1, by omega, by go_num, ?_, belowN hb _⟩, by simp [RowKit.intOf]; omega⟩
         rw [List.take_add_one, List.take_add_one, HF.out, HX.out, HY.out]
       · have ht : (x == y) = false := by simpa using he
         have HE := hid he; clear he
         go_wp2_with fail
         go_quiet (fail)
         go_wp2_with fail
         go_ret
         refine ⟨?_, belowN hb _⟩
         have hne : xs ≠ ys := fun e => HE.out (by have h1 := HX.out; have h2 := HY.out; rw [e, h2] at h1; exact (Option.some.inj h1).symm)
         rw [decide_eq_false hne]; rfl
     · have hkn : k = n := by omega
       go_wp2_with fail
       go_ret
       refine ⟨?_, hb⟩
       have e : xs = ys := by
         have h := HF.out
         rwa [List.take_of_length_le (by rw [HR.out.len]; omega), List.take_of_length_le (by rw [HR'.out.len]; omega)] at h
       rw [decide_eq_true e]; rfl
 · have hne : xs ≠ ys := fun e => hl (by rw [← HR.out.len, ← HR'.out.len, e])
   have hl' : ((n : Int) == (n' : Int)) = false := beq_eq_false_iff_ne.2 (by omega)
   have HN := hid hne
   clear hne hl
   go_enter Tryz.func36, Tryz.ntmps36
   go_wp2_with fail
   go_ret
   refine ⟨?_, Below.refl _ _⟩
   rw [decide_eq_false HN.out]; rfl

end Yd


namespace Yd
open Go Go.RowKit Go.Proofs
attribute [local go_sem] Oper.semAt_some

end Yd


namespace Yd
open Go Go.RowKit Go.Proofs
attribute [local go_sem] Oper.semAt_some

theorem ixF0 (W : World) : (Instr.index 129 (.agg #[.int .i64 0, .int .i64 2, .int .i64 2, .int .i64 2, .int .i64 2, .int .i64 1, .int .i64 1, .int .i64 1, .int .i64 2, .int .i64 1]) (.int .i64 0)).run Tryz.prog W = .ok (.int .i64 0) W := by kernel_rfl
theorem ixF1 (W : World) : (Instr.index 129 (.agg #[.int .i64 0, .int .i64 2, .int .i64 2, .int .i64 2, .int .i64 2, .int .i64 1, .int .i64 1, .int .i64 1, .int .i64 2, .int .i64 1]) (.int .i64 1)).run Tryz.prog W = .ok (.int .i64 2) W := by kernel_rfl
theorem ixF2 (W : World) : (Instr.index 129 (.agg #[.int .i64 0, .int .i64 2, .int .i64 2, .int .i64 2, .int .i64 2, .int .i64 1, .int .i64 1, .int .i64 1, .int .i64 2, .int .i64 1]) (.int .i64 2)).run Tryz.prog W = .ok (.int .i64 2) W := by kernel_rfl
theorem ixF3 (W : World) : (Instr.index 129 (.agg #[.int .i64 0, .int .i64 2, .int .i64 2, .int .i64 2, .int .i64 2, .int .i64 1, .int .i64 1, .int .i64 1, .int .i64 2, .int .i64 1]) (.int .i64 3)).run Tryz.prog W = .ok (.int .i64 2) W := by kernel_rfl
theorem ixF4 (W : World) : (Instr.index 129 (.agg #[.int .i64 0, .int .i64 2, .int .i64 2, .int .i64 2, .int .i64 2, .int .i64 1, .int .i64 1, .int .i64 1, .int .i64 2, .int .i64 1]) (.int .i64 4)).run Tryz.prog W = .ok (.int .i64 2) W := by kernel_rfl
theorem ixF5 (W : World) : (Instr.index 129 (.agg #[.int .i64 0, .int .i64 2, .int .i64 2, .int .i64 2, .int .i64 2, .int .i64 1, .int .i64 1, .int .i64 1, .int .i64 2, .int .i64 1]) (.int .i64 5)).run Tryz.prog W = .ok (.int .i64 1) W := by kernel_rfl
theorem ixF6 (W : World) : (Instr.index 129 (.agg #[.int .i64 0, .int .i64 2, .int .i64 2, .int .i64 2, .int .i64 2, .int .i64 1, .int .i64 1, .int .i64 1, .int .i64 2, .int .i64 1]) (.int .i64 6)).run Tryz.prog W = .ok (.int .i64 1) W := by kernel_rfl
theorem ixF7 (W : World) : (Instr.index 129 (.agg #[.int .i64 0, .int .i64 2, .int .i64 2, .int .i64 2, .int .i64 2, .int .i64 1, .int .i64 1, .int .i64 1, .int .i64 2, .int .i64 1]) (.int .i64 7)).run Tryz.prog W = .ok (.int .i64 1) W := by kernel_rfl
theorem ixF8 (W : World) : (Instr.index 129 (.agg #[.int .i64 0, .int .i64 2, .int .i64 2, .int .i64 2, .int .i64 2, .int .i64 1, .int .i64 1, .int .i64 1, .int .i64 2, .int .i64 1]) (.int .i64 8)).run Tryz.prog W = .ok (.int .i64 2) W := by kernel_rfl
theorem ixF9 (W : World) : (Instr.index 129 (.agg #[.int .i64 0, .int .i64 2, .int .i64 2, .int .i64 2, .int .i64 2, .int .i64 1, .int .i64 1, .int .i64 1, .int .i64 2, .int .i64 1]) (.int .i64 9)).run Tryz.prog W = .ok (.int .i64 1) W := by kernel_rfl
theorem r_few (k : Nat) (hk : k < 10) (w : World) : Calls Tryz.prog 39 #[.int .i64 (k : Int)] w (Ret2 (.int .i64 (formN k)) (.int .i64 (formN k + mostR (formR k))) w) := by
 rcases (by omega : k = 0 ∨ k = 1 ∨ k = 2 ∨ k = 3 ∨ k = 4 ∨ k = 5 ∨ k = 6 ∨ k = 7 ∨ k = 8 ∨ k = 9) with rfl | rfl | rfl | rfl | rfl | rfl | rfl | rfl | rfl | rfl
 · have hix := ixF0
   go_enter Tryz.func39, Tryz.ntmps39
   go_wp2_with fail
   go_ret2
   exact ⟨rfl, Below.refl _ _⟩
 · have hix := ixF1
   go_enter Tryz.func39, Tryz.ntmps39
   go_wp2_with fail
   go_ret2
   exact ⟨rfl, Below.refl _ _⟩
 · have hix := ixF2
   go_enter Tryz.func39, Tryz.ntmps39
   go_wp2_with fail
   go_ret2
   exact ⟨rfl, Below.refl _ _⟩
 · have hix := ixF3
   go_enter Tryz.func39, Tryz.ntmps39
   go_wp2_with fail
   go_ret2
   exact ⟨rfl, Below.refl _ _⟩
 · have hix := ixF4
   go_enter Tryz.func39, Tryz.ntmps39
   go_wp2_with fail
   go_ret2
   exact ⟨rfl, Below.refl _ _⟩
 · have hix := ixF5
   go_enter Tryz.func39, Tryz.ntmps39
   go_wp2_with fail
   go_ret2
   exact ⟨rfl, Below.refl _ _⟩
 · have hix := ixF6
   go_enter Tryz.func39, Tryz.ntmps39
   go_wp2_with fail
   go_ret2
   exact ⟨rfl, Below.refl _ _⟩
 · have hix := ixF7
   go_enter Tryz.func39, Tryz.ntmps39
   go_wp2_with fail
   go_ret2
   exact ⟨rfl, Below.refl _ _⟩
 · have hix := ixF8
   go_enter Tryz.func39, Tryz.ntmps39
   go_wp2_with fail
   go_ret2
   exact ⟨rfl, Below.refl _ _⟩
 · have hix := ixF9
   go_enter Tryz.func39, Tryz.ntmps39
   go_wp2_with fail
   go_ret2
   exact ⟨rfl, Below.refl _ _⟩
end Yd


namespace Yd
open Go Go.RowKit Go.Proofs
attribute [local go_sem] Oper.semAt_some

theorem r_verbs (w : World) : Calls Tryz.prog 31 #[] w (RetOwn 9 1 encStr ([[], [98, 101, 103, 105, 110], [119, 114, 105, 116, 101], [114, 101, 97, 100], [115, 99, 97, 110], [99, 111, 109, 109, 105, 116], [97, 98, 111, 114, 116], [111, 114, 100, 101, 114], [109, 97, 116, 99, 104], [119, 97, 110, 116]] : List Bs) w) := by
 have HO := hid (Own.new (hc := cInsStr) w w.heap.size 9 (enc := encStr) #[.string ⟨#[]⟩, .string ⟨#[98, 101, 103, 105, 110]⟩, .string ⟨#[119, 114, 105, 116, 101]⟩, .string ⟨#[114, 101, 97, 100]⟩, .string ⟨#[115, 99, 97, 110]⟩, .string ⟨#[99, 111, 109, 109, 105, 116]⟩, .string ⟨#[97, 98, 111, 114, 116]⟩, .string ⟨#[111, 114, 100, 101, 114]⟩, .string ⟨#[109, 97, 116, 99, 104]⟩, .string ⟨#[119, 97, 110, 116]⟩] ([[], [98, 101, 103, 105, 110], [119, 114, 105, 116, 101], [114, 101, 97, 100], [115, 99, 97, 110], [99, 111, 109, 109, 105, 116], [97, 98, 111, 114, 116], [111, 114, 100, 101, 114], [109, 97, 116, 99, 104], [119, 97, 110, 116]] : List Bs) (Nat.le_refl _) rfl (by simp [maxLen]))
 have HB := hid (belowA (Below.refl w.heap.size w) (.cells #[.string ⟨#[]⟩, .string ⟨#[98, 101, 103, 105, 110]⟩, .string ⟨#[119, 114, 105, 116, 101]⟩, .string ⟨#[114, 101, 97, 100]⟩, .string ⟨#[115, 99, 97, 110]⟩, .string ⟨#[99, 111, 109, 109, 105, 116]⟩, .string ⟨#[97, 98, 111, 114, 116]⟩, .string ⟨#[111, 114, 100, 101, 114]⟩, .string ⟨#[109, 97, 116, 99, 104]⟩, .string ⟨#[119, 97, 110, 116]⟩] 9))
 go_enter Tryz.func31, Tryz.ntmps31
 go_wp2_with fail
 go_ret
 exact ⟨_, _, rfl, HO.out, HB.out⟩
theorem r_guards (w : World) : Calls Tryz.prog 93 #[] w (RetOwn 9 1 encStr ([[114, 121, 119], [109, 114], [109, 119], [119, 102, 114]] : List Bs) w) := by
 have HO := hid (Own.new (hc := cInsStr) w w.heap.size 9 (enc := encStr) #[.string ⟨#[114, 121, 119]⟩, .string ⟨#[109, 114]⟩, .string ⟨#[109, 119]⟩, .string ⟨#[119, 102, 114]⟩] ([[114, 121, 119], [109, 114], [109, 119], [119, 102, 114]] : List Bs) (Nat.le_refl _) rfl (by simp [maxLen]))
 have HB := hid (belowA (Below.refl w.heap.size w) (.cells #[.string ⟨#[114, 121, 119]⟩, .string ⟨#[109, 114]⟩, .string ⟨#[109, 119]⟩, .string ⟨#[119, 102, 114]⟩] 9))
 go_enter Tryz.func93, Tryz.ntmps93
 go_wp2_with fail
 go_ret
 exact ⟨_, _, rfl, HO.out, HB.out⟩
end Yd


namespace Yd
open Go Go.RowKit Go.Proofs

theorem Own.strL {X : World} {g : Nat} (h : X.heap.size = g) (l : List Bs) (hl : l.length ≤ maxLen) : Own (X.alloc (.cells (l.map (fun s => Value.string ⟨s.toArray⟩)).toArray 9)) g 9 1 encStr (.slice (some ⟨g, 0, none⟩) l.length l.length) l := by
 subst h
 exact Own.new (hc := cInsStr) X X.heap.size 9 _ l (Nat.le_refl _) (by
   show l.map (fun s => Value.string ⟨s.toArray⟩) = l.flatMap encStr
   induction l with
   | nil => rfl
   | cons a l ih => rw [List.map_cons, List.flatMap_cons, ih (by simp at hl; omega)]; rfl) hl
theorem RdC.setCellR {w : World} {R p : Nat} {s l : Bs} {c : LnC} {n : LnS} (h : RdC w R s p l c n) (i : Nat) (v : Value) (c' : LnC) (n' : LnS) (hi : i < 8) (hc : (cellsRd s p c).setIfInBounds i v = cellsRd s p c')
   (h1 : c'.na = c.na ∧ c'.nn = c.nn ∧ c'.nc = c.nc ∧ c'.va = c.va ∧ c'.vn = c.vn ∧ c'.vc = c.vc) (h2 : n'.names = n.names ∧ n'.vers = n.vers) (h3 : c'.kind = n'.kind ∧ c'.lvl = n'.lvl ∧ c'.first = n'.first ∧ c'.bits = n'.bits) :
   RdC (w.setCell ⟨R, i, none⟩ v) R s p l c' n' ∧ Mv R c c' w (w.setCell ⟨R, i, none⟩ v) := by
 obtain ⟨e1, e2, e3, e4, e5, e6⟩ := h1
 obtain ⟨⟨_, _, _, _, l1, l2⟩, o1, o2⟩ := h.n
 have hx := h.x.setC i (by simpa using hi) v
 rw [hc] at hx
 refine ⟨⟨hx, ⟨⟨h3.1, h3.2.1, h3.2.2.1, h3.2.2.2, by rw [e2, h2.1]; exact l1, by rw [e5, h2.2]; exact l2⟩, ?_, ?_⟩, h.d, h.le, h.lim⟩, Same.setCell _ _ _ _ (fun e => e.1 rfl), ?_, ?_⟩
 · rw [e1, e2, e3, h2.1]; exact o1.block fun g hg => Below.heap_setCell _ _ _ _ (by have := (o1.lt g hg).1; simp; omega)
 · rw [e4, e5, e6, h2.2]; exact o2.block fun g hg => Below.heap_setCell _ _ _ _ (by have := (o2.lt g hg).1; simp; omega)
 · rw [e1, e2, e3]; exact fun _ h => .inl h
 · rw [e4, e5, e6]; exact fun _ h => .inl h
theorem levelL_ok : (∀ x ∈ levelL, x.length ≤ 100) ∧ (∀ x ∈ levelL, (128 : UInt8) ∉ x) := by decide
theorem rd_level {R p : Nat} {s l : Bs} {c : LnC} {n : LnS} (w : World) (h : RdC w R s p l c n) :
   Calls Tryz.prog 75 #[.pointer (some ⟨R, 0, none⟩)] w (RdRes R s c w (fun _ : Unit => .tuple #[]) (match wordS levelL l with | .error x => .error x | .ok (i, r) => .ok ((), { n with lvl := 1 + (i : Int) }, r))) := by
 obtain ⟨X, hX⟩ : ∃ X : Except Er (Unit × LnS × Bs), X = (match wordS levelL l with | .error x => .error x | .ok (i, r) => .ok ((), { n with lvl := 1 + (i : Int) }, r)) := ⟨_, rfl⟩
 rw [← hX]
 have HX := hid hX
 have hbl := belowA (Below.refl w.heap.size w) (.cells #[.string ⟨#[49]⟩, .string ⟨#[50]⟩, .string ⟨#[50, 46, 57, 57]⟩, .string ⟨#[51]⟩] 9)
 have HBL := hid hbl
 have HW := hid (rd_word _ (h.below hbl) (some ⟨w.heap.size, 0, none⟩) 4 4 levelL ((Own.strL rfl levelL (by decide)).row (by decide)) (by decide) levelL_ok.1 levelL_ok.2)
 clear hX h hbl
 go_enter Tryz.func75, Tryz.ntmps75
 go_wp2_with fail
 refine HW.out.mono ?_
 intro e w1 he
 cases hm : wordS levelL l with
 | error x =>
   rw [hm] at he
   obtain ⟨rfl, hs⟩ := he
   refine ⟨rfl, ?_⟩
   show RdRes R s c w _ _ _ _
   rw [HX.out, hm]
   exact ⟨rfl, (Same.of_below HBL.out (fun _ _ h => h)).tr hs⟩
 | ok ir =>
   obtain ⟨i, r⟩ := ir
   rw [hm] at he
   obtain ⟨rfl, q, hc, hmv⟩ := he
   have hi : i < 4 := by
     unfold wordS at hm
     split at hm
     · rename_i j hj
       injection hm with hm
       injection hm with hm _
       have := (List.findIdx?_eq_some_iff_getElem.1 hj).1
       subst hm
       exact this
     · cases hm
   have HC := hid hc; have HM := hid ((Mv.of_below HBL.out).trans hmv); have HMX := hid hm
   have hx4 := hc.x.1 4; have z4 := f1 hc 4
   clear hc hmv hm
   go_wp2_with fail
   refine bodyPost_end (results_none rfl _ _ _) rfl ?_
   show RdRes R s c w _ _ _ _
   rw [HX.out, HMX.out]
   have := HC.out.setCellR 4 (.int .i64 (1 + (i : Int))) { c with lvl := 1 + (i : Int) } { n with lvl := 1 + (i : Int) } (by decide) rfl ⟨rfl, rfl, rfl, rfl, rfl, rfl⟩ ⟨rfl, rfl⟩ ⟨HC.out.n.1.1, rfl, HC.out.n.1.2.2.1, HC.out.n.1.2.2.2.1⟩
   exact ⟨rfl, q, _, this.1, HM.out.trans this.2⟩
end Yd
