import Derived.Test.YthdpangjphphjaaGreatDoorRdP
import Derived.Test.YthdpangjphphjaaGreatDoorOrdP
import Derived.Test.YthdpangjphphjaaGreatDoorShelf
import Derived.WalkSmall
import Derived.Test.YthdpangjphphjaaGreatDoorProg
import Derived.Test.YthdpangjphphjaaGreatDoorEq
set_option maxRecDepth 200000
set_option maxHeartbeats 8000000
namespace Yd
open Go Go.RowKit Go.Proofs

def wrongP (p : Nat) (m : Int) : List PanicEntry := [⟨.iface 51 (.agg #[.int .i64 p, .int .i64 m]), false, false⟩]
theorem rd_fail (p : Nat) (m : Int) (w : World) : Calls Tryz.prog 27 #[.int .i64 p, .int .i64 m] w fun e w' => e = .panicked (wrongP p m) ∧ w' = w := by
 go_enter Tryz.func27, Tryz.ntmps27
 go_wp2
 exact ⟨rfl, rfl, rfl⟩
theorem rd_blank (r : Int) (w : World) : Calls Tryz.prog 70 #[.int .i32 r] w fun e w' => e = .returned (.bool (blR r)) ∧ ∃ q, w' = w.drewN q := by
 unfold blR
 cases h1 : r == 32 <;> cases h2 : r == 9
 all_goals
   go_enter Tryz.func70, Tryz.ntmps70
   go_wp2
   go_ret
   exact ⟨rfl, 0, rfl⟩
theorem call_blank : ∀ args w, (callFunc 70 args).run Tryz.prog w = .ok (.enter 70 args) w := enters_of Tryz.func70 (by kernel_rfl) rfl
theorem rd_trim (l : Bs) (w : World) : Calls Tryz.prog 69 #[.string ⟨l.toArray⟩, .func (.func 70) #[] #[]] w (Ret (.string ⟨(skipS l).toArray⟩) w) := by
 have := Tryz.strings_TrimLeftFunc 70 #[] call_blank (fun r => blR (r : Int)) ⟨l.toArray⟩ w (fun W r _ => by unfold FnGives; exact rd_blank (r : Int) W)
 rw [trim_bl] at this
 exact this
theorem RdC.c0 {w : World} {R p : Nat} {s l : Bs} {c : LnC} {n : LnS} (h : RdC w R s p l c n) : w.cell? ⟨R, 0, none⟩ = some (.string ⟨s.toArray⟩) := h.x.1 0
theorem RdC.c1 {w : World} {R p : Nat} {s l : Bs} {c : LnC} {n : LnS} (h : RdC w R s p l c n) : w.cell? ⟨R, 1, none⟩ = some (.int .i64 p) := h.x.1 1
theorem RdC.at_ {w : World} {R p : Nat} {s t : Bs} {b : UInt8} {c : LnC} {n : LnS} (h : RdC w R s p (b :: t) c n) : s[p]? = some b := by
 have := congrArg (fun l => l[0]?) h.d
 simpa using this
theorem rd_ends {R p : Nat} {s l : Bs} {c : LnC} {n : LnS} (w : World) (h : RdC w R s p l c n) : Calls Tryz.prog 71 #[.pointer (some ⟨R, 0, none⟩)] w (Ret (.bool (endsS l)) w) := by
 have c0 := h.c0; have c1 := h.c1
 have hlen := h.len; have hlim := h.lim
 cases hl : l with
 | nil =>
   obtain rfl : p = s.length := by rw [hl] at hlen; simpa using hlen
   have hz := bsz s
   clear h hlen
   go_enter Tryz.func71, Tryz.ntmps71
   go_wp2_with (go_quiet (fail))
   go_ret
   exact ⟨rfl, belowN (Below.refl _ _) _⟩
 | cons b t =>
   subst hl
   have hix := fun W => run_ix Tryz.underlying9 s p b h.at_ W
   have hlt : p < s.length := by simp at hlen; omega
   have hz := bsz s
   have hne : ((p : Int) == (s.length : Int)) = false := beq_eq_false_iff_ne.2 (by omega)
   clear h hlen
   by_cases h10 : b.toNat = 10
   · have hb : ((b.toNat : Int) == 10) = true := by simp [h10]
     go_enter Tryz.func71, Tryz.ntmps71
     go_wp2_with (go_quiet (fail))
     go_ret
     exact ⟨by rw [endsS_cons, hb]; rfl, belowN (Below.refl _ _) _⟩
   · have hb : ((b.toNat : Int) == 10) = false := beq_eq_false_iff_ne.2 (by omega)
     cases h35 : ((b.toNat : Int) == 35)
     all_goals
       go_enter Tryz.func71, Tryz.ntmps71
       go_wp2_with (go_quiet (fail))
       go_ret
       exact ⟨by rw [endsS_cons, hb, h35]; rfl, belowN (Below.refl _ _) _⟩
def RdRes {α : Type} (R : Nat) (s : Bs) (c : LnC) (w : World) (val : α → Value) (x : Except Er (α × LnS × Bs)) (e : Ending) (w' : World) : Prop :=
 match x with
 | .error (r, m) => e = .panicked (wrongP (s.length - r.length) m) ∧ Same (RdA R c) w w'
 | .ok (a, n', r) => e = .returned (val a) ∧ ∃ p' c', RdC w' R s p' r c' n' ∧ Mv R c c' w w'
def RdRet {α : Type} (R : Nat) (s : Bs) (c : LnC) (n : LnS) (w : World) (val : α → Value) (x : Except Er (α × Bs)) (e : Ending) (w' : World) : Prop :=
 match x with
 | .error (r, m) => e = .panicked (wrongP (s.length - r.length) m) ∧ Same (RdA R c) w w'
 | .ok (a, r) => e = .returned (val a) ∧ ∃ p', RdC w' R s p' r c n ∧ Mv R c c w w'
theorem RdC.to {w : World} {R p : Nat} {s l r : Bs} {c : LnC} {n : LnS} (h : RdC w R s p l c n) (k : Nat) (hk : l.drop k = r) (hle : k ≤ l.length) (q : Nat) (hq : q = p + k) :
   RdC (w.setCell ⟨R, 1, none⟩ (.int .i64 (q : Int))) R s q r c n ∧ Mv R c c w (w.setCell ⟨R, 1, none⟩ (.int .i64 (q : Int))) := by
 subst hq hk; exact h.go k hle
theorem RdC.drew {w : World} {R p : Nat} {s l : Bs} {c : LnC} {n : LnS} (h : RdC w R s p l c n) : RdC w.drew R s p l c n := ⟨h.x, h.n, h.d, h.le, h.lim⟩
theorem f1 {w : World} {R p : Nat} {s l : Bs} {c : LnC} {n : LnS} (h : RdC w R s p l c n) (i : Nat) : w.frozen? ⟨R, i, none⟩ = false := h.x.2.1 i
theorem rd_more {R p : Nat} {s l : Bs} {c : LnC} {n : LnS} (w : World) (h : RdC w R s p l c n) :
   Calls Tryz.prog 81 #[.pointer (some ⟨R, 0, none⟩)] w (RdRet R s c n w (fun b : Bool => .bool b) (moreS l)) := by
 have c0 := h.c0; have c1 := h.c1; have z1 := f1 h 1
 have hlen := h.len; have hlim := h.lim
 have hsl := fun W => run_sl Tryz.underlying9 s p (by omega) W
 rw [h.d] at hsl
 have hz := bsz s; have hz2 := bsz (skipS l)
 have hsk := skipS_len l
 have HH := hid h; have HLEN := hid hlen; have HSK := hid hsk
 clear h hlen hsk
 go_enter Tryz.func81, Tryz.ntmps81
 go_wp2_with fail
 refine wp_region_ordC 11 [(0, 0), (1, 0), (2, 0), (3, 0), (4, 0), (5, 0), (6, 0), (7, 0), (8, 0), (9, 2), (10, 0)] (fun _ => True) (fun W' => W'.cell? ⟨R, 0, none⟩ = some (.string ⟨s.toArray⟩) ∧ W'.cell? ⟨R, 1, none⟩ = some (.int .i64 p)) (by kernel_rfl) (by kernel_rfl) (trivial) (⟨HH.out.c0, HH.out.c1⟩) ?_
 repeat ((first | refine ordC_skip rfl rfl ?_ | refine ordC_skip1 rfl rfl ?_ | ((first | refine ordC_q rfl rfl ?_ | refine ordC_p rfl rfl ?_); apply Exists.intro; refine ⟨fun wS hS => ?_, ?_⟩; (go_simp; try with_reducible rfl))); simp only [Act.put, List.setIfInBounds_toArray, List.set_cons_zero, List.set_cons_succ])
 refine ordC_l rfl rfl (fun K hK => ?_)
 go_simp
 refine (rd_trim l _).mono ?_
 rintro e w2 ⟨rfl, hb2⟩
 have hh2 := HH.out.drew.below hb2
 refine hK _ _ ⟨trivial, hh2.c0, hh2.c1⟩ ?_
 have HH2 := hid hh2; have HB2 := hid hb2
 clear hK K hb2 hh2 c0 c1 z1
 repeat ((first | refine ordC_skip rfl rfl ?_ | refine ordC_skip1 rfl rfl ?_ | ((first | refine ordC_q rfl rfl ?_ | refine ordC_p rfl rfl ?_); apply Exists.intro; refine ⟨fun wS hS => ?_, ?_⟩; (go_simp; try with_reducible rfl))); simp only [Act.put, List.setIfInBounds_toArray, List.set_cons_zero, List.set_cons_succ])
 refine ordC_nil ?_
 have hb2 : Below w.heap.size w w2 := (Below.refl _ _).drew.trans HB2.out
 obtain ⟨q, hq⟩ : ∃ q : Nat, q = s.length - (skipS l).length := ⟨_, rfl⟩
 have hwq : wrap64 ((s.length : Int) - ((skipS l).length : Int)) = (q : Int) := by
   have := HLEN.out; have := HSK.out
   rw [show (s.length : Int) - ((skipS l).length : Int) = (q : Int) by omega]
   exact IntWalk.wrap64_in _ (by omega)
 have ht := HH2.out.to (l.length - (skipS l).length) (skipS_drop l) (by omega) q (by have := HLEN.out; have := HSK.out; omega)
 have HT := hid ht.1; have HM := hid ((Mv.of_below (R := R) (c := c) hb2).trans ht.2); have HQ := hid hq
 have c0 := HH2.out.c0; have c1 := HH2.out.c1; have z1 := f1 HH2.out 1
 have hMS : moreS l = if endsS (skipS l) = true then .ok (false, skipS l) else if q = p then .error (skipS l, 220) else .ok (true, skipS l) := by
   unfold moreS
   have := HLEN.out; have := HSK.out
   by_cases h1 : endsS (skipS l) = true
   · rw [if_pos h1, if_pos h1]
   · rw [if_neg h1, if_neg h1]
     by_cases h2 : q = p
     · rw [if_pos h2, if_pos (by omega)]
     · rw [if_neg h2, if_neg (by omega)]
 have HMS := hid hMS
 clear ht hq hb2 hMS
 go_wp2_with fail
 refine (rd_ends _ HT.out).mono ?_
 rintro e w3 ⟨rfl, hb3⟩
 have HT3 := hid (HT.out.below hb3); have HM3 := hid (HM.out.trans (Mv.of_below hb3))
 clear hb3 c0 c1 z1
 have c1 := HT3.out.c1
 cases hE : endsS (skipS l)
 · by_cases hpq : q = p
   · have hb : ((q : Int) == (p : Int)) = true := by simp [hpq]
     go_wp2_with fail
     refine (rd_fail p 220 _).mono ?_
     rintro e w4 ⟨rfl, rfl⟩
     refine ⟨rfl, ?_⟩
     show RdRet R s c n w _ _ _ _
     rw [HMS.out, hE, if_neg (by simp), if_pos hpq]
     exact ⟨by rw [← HQ.out, hpq], HM3.out.same⟩
   · have hb : ((q : Int) == (p : Int)) = false := beq_eq_false_iff_ne.2 (by omega)
     go_wp2_with fail
     go_ret
     show RdRet R s c n w _ _ _ _
     rw [HMS.out, hE, if_neg (by simp), if_neg hpq]
     exact ⟨rfl, q, HT3.out, HM3.out⟩
 · go_wp2_with fail
   go_ret
   show RdRet R s c n w _ _ _ _
   rw [HMS.out, hE, if_pos rfl]
   exact ⟨rfl, q, HT3.out, HM3.out⟩
theorem rd_must {R p : Nat} {s l : Bs} {c : LnC} {n : LnS} (w : World) (h : RdC w R s p l c n) :
   Calls Tryz.prog 121 #[.pointer (some ⟨R, 0, none⟩)] w (RdRet R s c n w (fun _ : Unit => .tuple #[]) (match mustS l with | .error x => .error x | .ok r => .ok ((), r))) := by
 have HR := hid (rd_more w h)
 clear h
 obtain ⟨X, hX⟩ : ∃ X : Except Er (Unit × Bs), X = (match mustS l with | .error x => .error x | .ok r => .ok ((), r)) := ⟨_, rfl⟩
 rw [← hX]
 have HX := hid hX
 clear hX
 go_enter Tryz.func121, Tryz.ntmps121
 go_wp2_with fail
 refine HR.out.mono ?_
 rintro e w1 he
 cases hm : moreS l with
 | error x =>
   rw [hm] at he
   obtain ⟨rfl, hs⟩ := he
   refine ⟨rfl, ?_⟩
   show RdRet R s c n w _ _ _ _
   rw [HX.out, show mustS l = .error x by unfold mustS; rw [hm]]
   exact ⟨rfl, hs⟩
 | ok br =>
   obtain ⟨b, r⟩ := br
   rw [hm] at he
   obtain ⟨rfl, q, hc, hmv⟩ := he
   have HC := hid hc; have HM := hid hmv
   have c1 := hc.c1
   clear hc hmv
   cases b
   · go_wp2_with fail
     refine (rd_fail q 220 _).mono ?_
     rintro e w4 ⟨rfl, rfl⟩
     refine ⟨rfl, ?_⟩
     show RdRet R s c n w _ _ _ _
     rw [HX.out, show mustS l = .error (r, 220) by unfold mustS; rw [hm]]
     have := HC.out.len
     exact ⟨by rw [show s.length - r.length = q by omega], HM.out.same⟩
   · go_wp2_with fail
     refine bodyPost_end (results_none rfl _ _ _) rfl ?_
     show RdRet R s c n w _ _ _ _
     rw [HX.out, show mustS l = .ok r by unfold mustS; rw [hm]]
     exact ⟨rfl, q, HC.out, HM.out⟩
end Yd


namespace Yd
open Go Go.RowKit Go.Proofs

theorem lx_blank (r : Int) (w : World) : Calls Tryz.prog 83 #[.int .i32 r] w (Ret (.bool (blR r)) w) := by
 unfold blR
 cases h1 : r == 32 <;> cases h2 : r == 9
 all_goals
   go_enter Tryz.func83, Tryz.ntmps83
   go_wp2
   go_ret
   exact ⟨rfl, Below.refl _ _⟩
theorem call_lxblank : ∀ args w, (callFunc 83 args).run Tryz.prog w = .ok (.enter 83 args) w := enters_of Tryz.func83 (by kernel_rfl) rfl
theorem lx_rem (r : Int) (w : World) : Calls Tryz.prog 123 #[.int .i32 r] w (Ret (.bool (remB r)) w) := by
 unfold remB
 by_cases h1 : 32 ≤ r <;> cases h2 : r == 9
 all_goals
   go_enter Tryz.func123, Tryz.ntmps123
   go_wp2
   go_ret
   exact ⟨by simp [h1], Below.refl _ _⟩
theorem call_lxrem : ∀ args w, (callFunc 123 args).run Tryz.prog w = .ok (.enter 123 args) w := enters_of Tryz.func123 (by kernel_rfl) rfl
theorem whileE_le (p : Int → Bool) : ∀ (n : Nat) (l : Bs), l.length ≤ n → whileE ⟨l.toArray⟩ p ≤ l.length
 | 0, l, h => by rw [List.eq_nil_of_length_eq_zero (l := l) (by omega)]; exact Nat.le_refl _
 | n + 1, l, h => by
   by_cases h0 : l = []
   · subst h0; exact Nat.le_refl _
   · rw [whileE_cons l p h0]
     split
     · have h1 := dec_w l h0; have h2 := dec_le l h0
       have := whileE_le p n (l.drop (Utf8.decode ⟨l.toArray⟩ 0).2) (by rw [List.length_drop]; omega)
       rw [List.length_drop] at this
       omega
     · exact Nat.zero_le _
def skN (l : Bs) : Nat := (l.takeWhile blB).length + if (skipS l).head? = some 35 then whileE ⟨(skipS l).toArray⟩ remB else 0
def skO (l : Bs) : Bool := !((skipS l).head? == some 35) || ((l.drop (skN l)).head? == none || (l.drop (skN l)).head? == some 10)
theorem skip_tw (l : Bs) : (l.takeWhile blB).length + (skipS l).length = l.length := len_takeWhile blB l
theorem lx_skip (s : Bs) (p : Nat) (l : Bs) (hd : s.drop p = l) (hp : p ≤ s.length) (hlim : s.length ≤ 1000000) (w : World) (hT : Lib.Utf8Tabs 2 3 w) :
   Calls Tryz.prog 82 #[.string ⟨s.toArray⟩, .int .i64 p] w (Ret2 (.int .i64 ((p + skN l : Nat) : Int)) (.bool (skO l)) w) := by
 have hll : p + l.length = s.length := by rw [← hd, List.length_drop]; omega
 obtain ⟨q, hq⟩ : ∃ q, q = p + (l.takeWhile blB).length := ⟨_, rfl⟩
 have hst := skip_tw l
 have hqs : q ≤ s.length := by omega
 have hqd : s.drop q = skipS l := by rw [hq, ← List.drop_drop, hd, drop_takeWhile]; rfl
 have hsl := fun W => run_sl Tryz.underlying9 s p (by omega) W
 rw [hd] at hsl
 have hz := bsz s
 have hqi : (p : Int) + ((l.takeWhile blB).length : Int) = (q : Int) := by omega
 have HT := hid hT; have HW := fun W (hb : Below w.heap.size w W) => hid (while_any ⟨l.toArray⟩ 83 #[] call_lxblank blR W (fun r W' _ => lx_blank r W') (Utf8Tabs_below hT hb))
 rw [while_bl] at HW
 clear hT
 cases hk : skipS l with
 | nil =>
   have hqe : q = s.length := by have := congrArg List.length hqd; rw [List.length_drop, hk] at this; simp at this; omega
   have HN : Hid (skN l = (l.takeWhile blB).length ∧ skO l = true) := hid (by unfold skO skN; rw [hk]; simp)
   have hd1 : ((q : Int) == (s.length : Int)) = true := by simp [hqe]
   have HQ := hid hq; have HE := hid hqe
   clear hqd hk hst hqe hq
   go_enter Tryz.func82, Tryz.ntmps82
   go_wp2_with fail
   refine (HW _ (Below.refl _ _)).out.mono ?_
   rintro e w1 ⟨rfl, hb1⟩
   have HB1 := hid hb1; clear hb1
   go_wp2_with fail
   go_ret2
   refine ⟨?_, HB1.out⟩
   rw [HN.out.1, HN.out.2, ← HQ.out]; rfl
 | cons b t =>
   have hqb : s[q]? = some b := by
     have := congrArg (fun l => l[0]?) hqd
     rw [hk] at this
     simpa using this
   have hqlt : q < s.length := (List.getElem?_eq_some_iff.1 hqb).1
   have hix := fun W => run_ix Tryz.underlying9 s q b hqb W
   have hd1 : ((q : Int) == (s.length : Int)) = false := beq_eq_false_iff_ne.2 (by omega)
   by_cases hb : b.toNat = 35
   · have hb35 : b = 35 := UInt8.toNat_inj.1 hb
     have hd2 : ((b.toNat : Int) == 35) = true := by simp [hb]
     obtain ⟨m, hm⟩ : ∃ m, m = whileE ⟨(skipS l).toArray⟩ remB := ⟨_, rfl⟩
     have hsk : skN l = (l.takeWhile blB).length + m := by unfold skN; rw [if_pos (by rw [hk, hb35]; rfl), ← hm]
     have hml : m ≤ (skipS l).length := by rw [hm]; exact whileE_le _ _ _ (Nat.le_refl _)
     obtain ⟨q2, hq2⟩ : ∃ q2, q2 = q + m := ⟨_, rfl⟩
     have hq2i : (q : Int) + (m : Int) = (q2 : Int) := by omega
     have hq2s : q2 ≤ s.length := by omega
     have hq2d : s.drop q2 = l.drop (skN l) := by
       have e : skN l = (l.takeWhile blB).length + m := hsk
       rw [e, hq2, hq, ← hd, List.drop_drop, Nat.add_assoc]
     have HN : Hid (p + skN l = q2) := hid (by omega)
     have hsl2 := fun W => run_sl Tryz.underlying9 s q (by omega) W
     rw [hqd] at hsl2
     have HW2 := fun W (hb : Below w.heap.size w W) => hid (while_any ⟨(skipS l).toArray⟩ 123 #[] call_lxrem remB W (fun r W' _ => lx_rem r W') (Utf8Tabs_below HT.out hb))
     rw [← hm] at HW2
     have HSO : Hid (skO l = ((l.drop (skN l)).head? == none || (l.drop (skN l)).head? == some 10)) := hid (by unfold skO; rw [hk, hb35]; rfl)
     cases hk2 : l.drop (skN l) with
     | nil =>
       have hqe : q2 = s.length := by have := congrArg List.length hq2d; rw [List.length_drop, hk2] at this; simp at this; omega
       have hd3 : ((q2 : Int) == (s.length : Int)) = true := by simp [hqe]
       have HS3 : Hid (skO l = true) := hid (by rw [HSO.out, hk2]; rfl)
       clear hsk hqd hk hst hq hqb hb hb35 hm hml hq2 hq2d hqe hk2
       go_enter Tryz.func82, Tryz.ntmps82
       go_wp2_with fail
       refine (HW _ (Below.refl _ _)).out.mono ?_
       rintro e w1 ⟨rfl, hb1⟩
       have HB1 := hid hb1; clear hb1
       go_wp2_with fail
       refine (HW2 _ HB1.out).out.mono ?_
       rintro e w2 ⟨rfl, hb2⟩
       have HB2 := hid (HB1.out.trans (hb2.mono HB1.out.size)); clear hb2
       go_wp2_with (go_quiet (fail))
       go_ret2
       exact ⟨by rw [HN.out, HS3.out]; rfl, belowN HB2.out _⟩
     | cons b2 t2 =>
       have hqb2 : s[q2]? = some b2 := by
         have := congrArg (fun l => l[0]?) hq2d
         rw [hk2] at this
         simpa using this
       have hq2lt : q2 < s.length := (List.getElem?_eq_some_iff.1 hqb2).1
       have hix2 := fun W => run_ix Tryz.underlying9 s q2 b2 hqb2 W
       have hd3 : ((q2 : Int) == (s.length : Int)) = false := beq_eq_false_iff_ne.2 (by omega)
       have HS3 : Hid (skO l = ((b2.toNat : Int) == 10)) := hid (by rw [HSO.out, hk2]; show (b2 == 10) = _; rw [u8_eq]; rfl)
       clear hsk hqd hk hst hq hqb hb hb35 hm hml hq2 hq2d hk2 hqb2
       cases hd4 : ((b2.toNat : Int) == 10)
       all_goals
         rw [hd4] at HS3
         go_enter Tryz.func82, Tryz.ntmps82
         go_wp2_with fail
         refine (HW _ (Below.refl _ _)).out.mono ?_
         rintro e w1 ⟨rfl, hb1⟩
         have HB1 := hid hb1; clear hb1
         go_wp2_with fail
         refine (HW2 _ HB1.out).out.mono ?_
         rintro e w2 ⟨rfl, hb2⟩
         have HB2 := hid (HB1.out.trans (hb2.mono HB1.out.size)); clear hb2
         go_wp2_with (go_quiet (fail))
         go_ret2
         exact ⟨by rw [HN.out, HS3.out]; rfl, belowN HB2.out _⟩
   · have hd2 : ((b.toNat : Int) == 35) = false := beq_eq_false_iff_ne.2 (by omega)
     have hb' : ¬ b = 35 := fun e => hb (by rw [e]; rfl)
     have HN : Hid (skN l = (l.takeWhile blB).length ∧ skO l = true) := hid (by unfold skO skN; rw [hk]; simp [hb'])
     have HQ := hid hq
     clear hqd hk hst hq hqb hb hb'
     go_enter Tryz.func82, Tryz.ntmps82
     go_wp2_with fail
     refine (HW _ (Below.refl _ _)).out.mono ?_
     rintro e w1 ⟨rfl, hb1⟩
     have HB1 := hid hb1; clear hb1
     go_wp2_with fail
     go_ret2
     refine ⟨?_, HB1.out⟩
     rw [HN.out.1, HN.out.2, ← HQ.out]; rfl
theorem posFrom_ge (s : ByteArray) : ∀ (n p : Nat), ∀ x ∈ posFrom s n p, p ≤ x
 | 0, _, _, h => by simp [posFrom] at h
 | n + 1, p, x, h => by
   simp only [posFrom] at h
   split at h
   · rcases List.mem_cons.1 h with rfl | h
     · exact Nat.le_refl _
     · exact Nat.le_trans (Nat.le_add_right _ _) (posFrom_ge s n _ x h)
   · cases h
theorem filter_all {α : Type} (p : α → Bool) (l : List α) (h : ∀ x ∈ l, p x = true) : l.filter p = l := List.filter_eq_self.2 h
theorem filter_no {α : Type} (p : α → Bool) (l : List α) (h : ∀ x ∈ l, p x = false) : l.filter p = [] := List.filter_eq_nil_iff.2 (fun x hx => by rw [h x hx]; simp)
theorem lx_long (u : Bs) (hlim : u.length ≤ 1000000) (w : World) : Calls Tryz.prog 88 #[.string ⟨u.toArray⟩] w (Ret (.int .i64 (longS u : Int)) w) := by
 obtain ⟨X, hX⟩ : ∃ X, X = longS u := ⟨_, rfl⟩
 rw [← hX]
 have hbz := bsz u
 have HX : Hid (X = (((posFrom ⟨u.toArray⟩ u.length 0).filter (fun i => decide (i ≤ 24))).getLast?).getD 0) := hid hX
 clear hX
 go_enter Tryz.func88, Tryz.ntmps88
 go_wp2_with fail
 go_loopw [3] (fun v wr => ∃ (pos fuel : Nat) (pre : List Nat), v = .int .i64 (pre.getLast?.getD 0 : Nat) ∧ pre ++ posFrom ⟨u.toArray⟩ fuel pos = posFrom ⟨u.toArray⟩ u.length 0 ∧ (∀ x ∈ pre, x ≤ 24) ∧ u.length ≤ pos + fuel ∧ pos ≤ 2000000 ∧ wr.heap[w.heap.size]? = some (.stringIter ⟨u.toArray⟩ pos) ∧ Below w.heap.size w wr) (fun _ wr => u.length - wr.iterPos w.heap.size)
 case atStart => exact ⟨0, u.length, [], rfl, rfl, by simp, by omega, by omega, World.iter_heap w ⟨u.toArray⟩ 0, iter_below w ⟨u.toArray⟩⟩
 case round =>
   obtain ⟨pos, fuel, pre, rfl, hpre, hall, hfu, hpb, hit, hbw⟩ := hrel
   by_cases hp : pos < u.length
   · have hnx : ∀ ty, (Instr.next (.pointer (some ⟨w.heap.size, 0, none⟩)) true ty).run Tryz.prog wr = _ := fun ty => Lib.run_next_any_at wr w.heap.size ⟨u.toArray⟩ pos ty hit (by rw [hbz]; exact hp)
     have hwd := width_pos ⟨u.toArray⟩ pos (by rw [hbz]; exact hp)
     obtain ⟨d, hd⟩ : ∃ d, d = (Utf8.decode ⟨u.toArray⟩ pos).2 := ⟨_, rfl⟩
     have hw4 : d ≤ u.length - pos := by
       have := dec_le (u.drop pos) (by intro e; have := congrArg List.length e; rw [List.length_drop] at this; simp at this; omega)
       rw [← dec_drop, ← hd, List.length_drop] at this; exact this
     rw [← hd] at hnx hwd
     obtain ⟨f, rfl⟩ : ∃ f, fuel = f + 1 := ⟨fuel - 1, by omega⟩
     have hcons : posFrom ⟨u.toArray⟩ (f + 1) pos = pos :: posFrom ⟨u.toArray⟩ f (pos + d) := by simp [posFrom, hbz, hp, hd]
     have hit2 := Lib.iterAt_heap wr w.heap.size ⟨u.toArray⟩ pos (pos + d) hit
     have hbw2 := Lib.below_iterAt hbw (k := w.heap.size) (Nat.le_refl _) ⟨u.toArray⟩ (pos + d)
     have HI := hid hit; have HI2 := hid hit2; have HB2 := hid hbw2; have HP := hid (hcons ▸ hpre); have HA := hid hall
     clear hit hit2 hbw hbw2 hcons hpre hall hd
     by_cases h24 : pos ≤ 24
     · have hd1 : decide ((24 : Int) < (pos : Int)) = false := decide_eq_false (by omega)
       go_wp2_with fail
       go_roundw
       case rel => exact ⟨pos + d, f, pre ++ [pos], by simp, by rw [← HP.out]; simp, fun x hx => by
         rcases List.mem_append.1 hx with hx | hx
         · exact HA.out x hx
         · obtain rfl : x = pos := by simpa using hx
           exact h24, by omega, by omega, HI2.out, HB2.out⟩
       case measure => rw [iterPos_of HI2.out, iterPos_of HI.out]; omega
     · have hd1 : decide ((24 : Int) < (pos : Int)) = true := decide_eq_true (by omega)
       have HE : Hid (X = pre.getLast?.getD 0) := hid (by
         rw [HX.out, ← HP.out, List.filter_append, filter_all _ pre (fun x hx => by simpa using HA.out x hx), filter_no _ _ (fun x hx => ?_), List.append_nil]
         rcases List.mem_cons.1 hx with rfl | hx
         · simpa using h24
         · have := posFrom_ge _ _ _ x hx; simp; omega)
       go_wp2_with fail
       go_ret
       exact ⟨by rw [HE.out]; rfl, HB2.out⟩
   · have hnx : ∀ ty, (Instr.next (.pointer (some ⟨w.heap.size, 0, none⟩)) true ty).run Tryz.prog wr = _ := fun ty => Lib.run_next_end_at wr w.heap.size ⟨u.toArray⟩ pos ty hit (by rw [hbz]; exact hp)
     have HE : Hid (X = pre.getLast?.getD 0) := hid (by
       have e : posFrom ⟨u.toArray⟩ fuel pos = [] := by cases fuel <;> simp [posFrom, hbz, hp]
       rw [HX.out, ← hpre, e, List.append_nil, filter_all _ pre (fun x hx => by simpa using hall x hx)])
     have HB := hid hbw
     clear hpre hall hbw
     go_wp2_with fail
     go_ret
     exact ⟨by rw [HE.out]; rfl, HB.out⟩
end Yd


namespace Yd
open Go Go.RowKit Go.Proofs

theorem ext3 (a b c : UInt8) (r : List UInt8) : ByteArray.extract ⟨⟨a :: b :: c :: r⟩⟩ 0 3 = ⟨#[a, b, c]⟩ := by
 apply ByteArray.ext
 simp [ByteArray.data_extract]
theorem fffd (s : ByteArray) (h3 : 3 ≤ s.size) (hr : (Utf8.decode s 0).1 = 65533) : (Utf8.decode s 0).2 = 3 ↔ s.extract 0 3 = ⟨#[239, 191, 189]⟩ := by
 obtain ⟨⟨l⟩⟩ := s
 match l, h3 with
 | a :: b :: c :: r, _ =>
   have ha : ByteArray.get! ⟨⟨a :: b :: c :: r⟩⟩ (0 + 0) = a := rfl
   have hb : ByteArray.get! ⟨⟨a :: b :: c :: r⟩⟩ (0 + 1) = b := rfl
   have hc : ByteArray.get! ⟨⟨a :: b :: c :: r⟩⟩ (0 + 2) = c := rfl
   have k0 := a.toNat_lt; have k1 := b.toNat_lt; have k2 := c.toNat_lt
   have hsz : ByteArray.size ⟨⟨a :: b :: c :: r⟩⟩ = r.length + 3 := rfl
   rw [ext3]
   have hiff : ((⟨#[a, b, c]⟩ : ByteArray) = ⟨#[239, 191, 189]⟩) ↔ (a.toNat = 239 ∧ b.toNat = 191 ∧ c.toNat = 189) := by
     constructor
     · intro h
       injection h with h
       simp at h
       obtain ⟨rfl, rfl, rfl⟩ := h
       decide
     · rintro ⟨h1, h2, h3⟩
       have e1 : a = 239 := UInt8.toNat_inj.1 h1
       have e2 : b = 191 := UInt8.toNat_inj.1 h2
       have e3 : c = 189 := UInt8.toNat_inj.1 h3
       rw [e1, e2, e3]
   rw [hiff]
   constructor
   · intro h
     unfold Utf8.decode at h hr
     simp only [ha, hb, hc] at h hr
     split at h
     · simp at h
     rename_i g0
     rw [if_neg g0] at hr
     split at h
     · split at h <;> simp at h
     rename_i g1
     rw [if_neg g1] at hr
     split at h
     · rename_i g2
       rw [if_pos g2] at hr
       split at h
       · rename_i g3
         rw [if_pos g3] at hr
         simp only [Bool.and_eq_true, decide_eq_true_eq, beq_iff_eq] at g2 hr
         omega
       · simp at h
     rename_i g2
     split at h
     · split at h <;> simp at h
     · simp at h
   · rintro ⟨h1, h2, h3⟩
     unfold Utf8.decode
     simp only [ha, hb, hc, h1, h2, h3, hsz]
     simp [Utf8.valid]
end Yd
