import Derived.Test.YthdpangjphphjaaGreatDoorRdT
import Derived.Test.YthdpangjphphjaaGreatDoorInfo
import Derived.Test.YthdpangjphphjaaGreatDoorProg
import Derived.Test.YthdpangjphphjaaGreatDoorRdP
import Derived.Laws.RangeString
import Derived.Lib.MapLaws
set_option maxRecDepth 200000
set_option maxHeartbeats 8000000
namespace Yd
open Go Go.RowKit Go.Proofs

theorem lx_blank (r : Int) (w : World) : Calls Tryz.prog 83 #[.int .i32 r] w (Ret (.bool (blR r)) w) := by
 unfold blR
 cases h1 : r == 32 <;> cases h2 : r == 9
 all_goals
   go_enter Tryz.func83, Tryz.ntmps83
   go_wp2
   go_ret
   exact ⟨rfl, Below.refl _ _⟩
theorem call_lxblank : ∀ args w, (callFunc 83 args).run Tryz.prog w = .ok (.enter 83 args) w := enters_of Tryz.func83 (by kernel_rfl) rfl
theorem lx_rem (r : Int) (w : World) : Calls Tryz.prog 123 #[.int .i32 r] w (Ret (.bool (remB r)) w) := by
 unfold remB
 by_cases h1 : 32 ≤ r <;> cases h2 : r == 9
 all_goals
   go_enter Tryz.func123, Tryz.ntmps123
   go_wp2
   go_ret
   exact ⟨by simp [h1], Below.refl _ _⟩
theorem call_lxrem : ∀ args w, (callFunc 123 args).run Tryz.prog w = .ok (.enter 123 args) w := enters_of Tryz.func123 (by kernel_rfl) rfl
theorem whileE_le (p : Int → Bool) : ∀ (n : Nat) (l : Bs), l.length ≤ n → whileE ⟨l.toArray⟩ p ≤ l.length
 | 0, l, h => by rw [List.eq_nil_of_length_eq_zero (l := l) (by omega)]; exact Nat.le_refl _
 | n + 1, l, h => by
   by_cases h0 : l = []
   · subst h0; exact Nat.le_refl _
   · rw [whileE_cons l p h0]
     split
     · have h1 := dec_w l h0; have h2 := dec_le l h0
       have := whileE_le p n (l.drop (Utf8.decode ⟨l.toArray⟩ 0).2) (by rw [List.length_drop]; omega)
       rw [List.length_drop] at this
       omega
     · exact Nat.zero_le _
def skN (l : Bs) : Nat := (l.takeWhile blB).length + if (skipS l).head? = some 35 then whileE ⟨(skipS l).toArray⟩ remB else 0
def skO (l : Bs) : Bool := !((skipS l).head? == some 35) || ((l.drop (skN l)).head? == none || (l.drop (skN l)).head? == some 10)
theorem skip_tw (l : Bs) : (l.takeWhile blB).length + (skipS l).length = l.length := len_takeWhile blB l
theorem lx_skip (s : Bs) (p : Nat) (l : Bs) (hd : s.drop p = l) (hp : p ≤ s.length) (hlim : s.length ≤ 1000000) (w : World) (hT : Lib.Utf8Tabs 2 3 w) :
   Calls Tryz.prog 82 #[.string ⟨s.toArray⟩, .int .i64 p] w (Ret2 (.int .i64 ((p + skN l : Nat) : Int)) (.bool (skO l)) w) := by
 have hll : p + l.length = s.length := by rw [← hd, List.length_drop]; omega
 obtain ⟨q, hq⟩ : ∃ q, q = p + (l.takeWhile blB).length := ⟨_, rfl⟩
 have hst := skip_tw l
 have hqs : q ≤ s.length := by omega
 have hqd : s.drop q = skipS l := by rw [hq, ← List.drop_drop, hd, drop_takeWhile]; rfl
 have hsl := fun W => run_sl Tryz.underlying9 s p (by omega) W
 rw [hd] at hsl
 have hz := bsz s
 have hqi : (p : Int) + ((l.takeWhile blB).length : Int) = (q : Int) := by omega
 have HT := hid hT; have HW := fun W (hb : Below w.heap.size w W) => hid (while_any ⟨l.toArray⟩ 83 #[] call_lxblank blR W (fun r W' _ => lx_blank r W') (Utf8Tabs_below hT hb))
 rw [while_bl] at HW
 clear hT
 cases hk : skipS l with
 | nil =>
   have hqe : q = s.length := by have := congrArg List.length hqd; rw [List.length_drop, hk] at this; simp at this; omega
   have HN : Hid (skN l = (l.takeWhile blB).length ∧ skO l = true) := hid (by unfold skO skN; rw [hk]; simp)
   have hd1 : ((q : Int) == (s.length : Int)) = true := by simp [hqe]
   have HQ := hid hq; have HE := hid hqe
   clear hqd hk hst hqe hq
   go_enter Tryz.func82, Tryz.ntmps82
   go_wp2_with fail
   refine (HW _ (Below.refl _ _)).out.mono ?_
   rintro e w1 ⟨rfl, hb1⟩
   have HB1 := hid hb1; clear hb1
   go_wp2_with fail
   go_ret2
   refine ⟨?_, HB1.out⟩
   rw [HN.out.1, HN.out.2, ← HQ.out]; rfl
 | cons b t =>
   have hqb : s[q]? = some b := by
     have := congrArg (fun l => l[0]?) hqd
     rw [hk] at this
     simpa using this
   have hqlt : q < s.length := (List.getElem?_eq_some_iff.1 hqb).1
   have hix := fun W => run_ix Tryz.underlying9 s q b hqb W
   have hd1 : ((q : Int) == (s.length : Int)) = false := beq_eq_false_iff_ne.2 (by omega)
   by_cases hb : b.toNat = 35
   · have hb35 : b = 35 := UInt8.toNat_inj.1 hb
     have hd2 : ((b.toNat : Int) == 35) = true := by simp [hb]
     obtain ⟨m, hm⟩ : ∃ m, m = whileE ⟨(skipS l).toArray⟩ remB := ⟨_, rfl⟩
     have hsk : skN l = (l.takeWhile blB).length + m := by unfold skN; rw [if_pos (by rw [hk, hb35]; rfl), ← hm]
     have hml : m ≤ (skipS l).length := by rw [hm]; exact whileE_le _ _ _ (Nat.le_refl _)
     obtain ⟨q2, hq2⟩ : ∃ q2, q2 = q + m := ⟨_, rfl⟩
     have hq2i : (q : Int) + (m : Int) = (q2 : Int) := by omega
     have hq2s : q2 ≤ s.length := by omega
     have hq2d : s.drop q2 = l.drop (skN l) := by
       have e : skN l = (l.takeWhile blB).length + m := hsk
       rw [e, hq2, hq, ← hd, List.drop_drop, Nat.add_assoc]
     have HN : Hid (p + skN l = q2) := hid (by omega)
     have hsl2 := fun W => run_sl Tryz.underlying9 s q (by omega) W
     rw [hqd] at hsl2
     have HW2 := fun W (hb : Below w.heap.size w W) => hid (while_any ⟨(skipS l).toArray⟩ 123 #[] call_lxrem remB W (fun r W' _ => lx_rem r W') (Utf8Tabs_below HT.out hb))
     rw [← hm] at HW2
     have HSO : Hid (skO l = ((l.drop (skN l)).head? == none || (l.drop (skN l)).head? == some 10)) := hid (by unfold skO; rw [hk, hb35]; rfl)
     cases hk2 : l.drop (skN l) with
     | nil =>
       have hqe : q2 = s.length := by have := congrArg List.length hq2d; rw [List.length_drop, hk2] at this; simp at this; omega
       have hd3 : ((q2 : Int) == (s.length : Int)) = true := by simp [hqe]
       have HS3 : Hid (skO l = true) := hid (by rw [HSO.out, hk2]; rfl)
       clear hsk hqd hk hst hq hqb hb hb35 hm hml hq2 hq2d hqe hk2
       go_enter Tryz.func82, Tryz.ntmps82
       go_wp2_with fail
       refine (HW _ (Below.refl _ _)).out.mono ?_
       rintro e w1 ⟨rfl, hb1⟩
       have HB1 := hid hb1; clear hb1
       go_wp2_with fail
       refine (HW2 _ HB1.out).out.mono ?_
       rintro e w2 ⟨rfl, hb2⟩
       have HB2 := hid (HB1.out.trans (hb2.mono HB1.out.size)); clear hb2
       go_wp2_with (go_quiet (fail))
       go_ret2
       exact ⟨by rw [HN.out, HS3.out]; rfl, belowN HB2.out _⟩
     | cons b2 t2 =>
       have hqb2 : s[q2]? = some b2 := by
         have := congrArg (fun l => l[0]?) hq2d
         rw [hk2] at this
         simpa using this
       have hq2lt : q2 < s.length := (List.getElem?_eq_some_iff.1 hqb2).1
       have hix2 := fun W => run_ix Tryz.underlying9 s q2 b2 hqb2 W
       have hd3 : ((q2 : Int) == (s.length : Int)) = false := beq_eq_false_iff_ne.2 (by omega)
       have HS3 : Hid (skO l = ((b2.toNat : Int) == 10)) := hid (by rw [HSO.out, hk2]; show (b2 == 10) = _; rw [u8_eq]; rfl)
       clear hsk hqd hk hst hq hqb hb hb35 hm hml hq2 hq2d hk2 hqb2
       cases hd4 : ((b2.toNat : Int) == 10)
       all_goals
         rw [hd4] at HS3
         go_enter Tryz.func82, Tryz.ntmps82
         go_wp2_with fail
         refine (HW _ (Below.refl _ _)).out.mono ?_
         rintro e w1 ⟨rfl, hb1⟩
         have HB1 := hid hb1; clear hb1
         go_wp2_with fail
         refine (HW2 _ HB1.out).out.mono ?_
         rintro e w2 ⟨rfl, hb2⟩
         have HB2 := hid (HB1.out.trans (hb2.mono HB1.out.size)); clear hb2
         go_wp2_with (go_quiet (fail))
         go_ret2
         exact ⟨by rw [HN.out, HS3.out]; rfl, belowN HB2.out _⟩
   · have hd2 : ((b.toNat : Int) == 35) = false := beq_eq_false_iff_ne.2 (by omega)
     have hb' : ¬ b = 35 := fun e => hb (by rw [e]; rfl)
     have HN : Hid (skN l = (l.takeWhile blB).length ∧ skO l = true) := hid (by unfold skO skN; rw [hk]; simp [hb'])
     have HQ := hid hq
     clear hqd hk hst hq hqb hb hb'
     go_enter Tryz.func82, Tryz.ntmps82
     go_wp2_with fail
     refine (HW _ (Below.refl _ _)).out.mono ?_
     rintro e w1 ⟨rfl, hb1⟩
     have HB1 := hid hb1; clear hb1
     go_wp2_with fail
     go_ret2
     refine ⟨?_, HB1.out⟩
     rw [HN.out.1, HN.out.2, ← HQ.out]; rfl
theorem posFrom_ge (s : ByteArray) : ∀ (n p : Nat), ∀ x ∈ posFrom s n p, p ≤ x
 | 0, _, _, h => by simp [posFrom] at h
 | n + 1, p, x, h => by
   simp only [posFrom] at h
   split at h
   · rcases List.mem_cons.1 h with rfl | h
     · exact Nat.le_refl _
     · exact Nat.le_trans (Nat.le_add_right _ _) (posFrom_ge s n _ x h)
   · cases h
theorem filter_all {α : Type} (p : α → Bool) (l : List α) (h : ∀ x ∈ l, p x = true) : l.filter p = l := List.filter_eq_self.2 h
theorem filter_no {α : Type} (p : α → Bool) (l : List α) (h : ∀ x ∈ l, p x = false) : l.filter p = [] := List.filter_eq_nil_iff.2 (fun x hx => by rw [h x hx]; simp)
theorem lx_long (u : Bs) (hlim : u.length ≤ 1000000) (w : World) : Calls Tryz.prog 88 #[.string ⟨u.toArray⟩] w (Ret (.int .i64 (longS u : Int)) w) := by
 obtain ⟨X, hX⟩ : ∃ X, X = longS u := ⟨_, rfl⟩
 rw [← hX]
 have hbz := bsz u
 have HX : Hid (X = (((posFrom ⟨u.toArray⟩ u.length 0).filter (fun i => decide (i ≤ 24))).getLast?).getD 0) := hid hX
 clear hX
 go_enter Tryz.func88, Tryz.ntmps88
 go_wp2_with fail
 go_loopw [3] (fun v wr => ∃ (pos fuel : Nat) (pre : List Nat), v = .int .i64 (pre.getLast?.getD 0 : Nat) ∧ pre ++ posFrom ⟨u.toArray⟩ fuel pos = posFrom ⟨u.toArray⟩ u.length 0 ∧ (∀ x ∈ pre, x ≤ 24) ∧ u.length ≤ pos + fuel ∧ pos ≤ 2000000 ∧ wr.heap[w.heap.size]? = some (.stringIter ⟨u.toArray⟩ pos) ∧ Below w.heap.size w wr) (fun _ wr => u.length - wr.iterPos w.heap.size)
 case atStart => exact ⟨0, u.length, [], rfl, rfl, by simp, by omega, by omega, World.iter_heap w ⟨u.toArray⟩ 0, iter_below w ⟨u.toArray⟩⟩
 case round =>
   obtain ⟨pos, fuel, pre, rfl, hpre, hall, hfu, hpb, hit, hbw⟩ := hrel
   by_cases hp : pos < u.length
   · have hnx : ∀ ty, (Instr.next (.pointer (some ⟨w.heap.size, 0, none⟩)) true ty).run Tryz.prog wr = _ := fun ty => Lib.run_next_any_at wr w.heap.size ⟨u.toArray⟩ pos ty hit (by rw [hbz]; exact hp)
     have hwd := width_pos ⟨u.toArray⟩ pos (by rw [hbz]; exact hp)
     obtain ⟨d, hd⟩ : ∃ d, d = (Utf8.decode ⟨u.toArray⟩ pos).2 := ⟨_, rfl⟩
     have hw4 : d ≤ u.length - pos := by
       have := dec_le (u.drop pos) (by intro e; have := congrArg List.length e; rw [List.length_drop] at this; simp at this; omega)
       rw [← dec_drop, ← hd, List.length_drop] at this; exact this
     rw [← hd] at hnx hwd
     obtain ⟨f, rfl⟩ : ∃ f, fuel = f + 1 := ⟨fuel - 1, by omega⟩
     have hcons : posFrom ⟨u.toArray⟩ (f + 1) pos = pos :: posFrom ⟨u.toArray⟩ f (pos + d) := by simp [posFrom, hbz, hp, hd]
     have hit2 := Lib.iterAt_heap wr w.heap.size ⟨u.toArray⟩ pos (pos + d) hit
     have hbw2 := Lib.below_iterAt hbw (k := w.heap.size) (Nat.le_refl _) ⟨u.toArray⟩ (pos + d)
     have HI := hid hit; have HI2 := hid hit2; have HB2 := hid hbw2; have HP := hid (hcons ▸ hpre); have HA := hid hall
     clear hit hit2 hbw hbw2 hcons hpre hall hd
     by_cases h24 : pos ≤ 24
     · have hd1 : decide ((24 : Int) < (pos : Int)) = false := decide_eq_false (by omega)
       go_wp2_with fail
       go_roundw
       case rel => exact ⟨pos + d, f, pre ++ [pos], by simp, by rw [← HP.out]; simp, fun x hx => by
         rcases List.mem_append.1 hx with hx | hx
         · exact HA.out x hx
         · obtain rfl : x = pos := by simpa using hx
           exact h24, by omega, by omega, HI2.out, HB2.out⟩
       case measure => rw [iterPos_of HI2.out, iterPos_of HI.out]; omega
     · have hd1 : decide ((24 : Int) < (pos : Int)) = true := decide_eq_true (by omega)
       have HE : Hid (X = pre.getLast?.getD 0) := hid (by
         rw [HX.out, ← HP.out, List.filter_append, filter_all _ pre (fun x hx => by simpa using HA.out x hx), filter_no _ _ (fun x hx => ?_), List.append_nil]
         rcases List.mem_cons.1 hx with rfl | hx
         · simpa using h24
         · have := posFrom_ge _ _ _ x hx; simp; omega)
       go_wp2_with fail
       go_ret
       exact ⟨by rw [HE.out]; rfl, HB2.out⟩
   · have hnx : ∀ ty, (Instr.next (.pointer (some ⟨w.heap.size, 0, none⟩)) true ty).run Tryz.prog wr = _ := fun ty => Lib.run_next_end_at wr w.heap.size ⟨u.toArray⟩ pos ty hit (by rw [hbz]; exact hp)
     have HE : Hid (X = pre.getLast?.getD 0) := hid (by
       have e : posFrom ⟨u.toArray⟩ fuel pos = [] := by cases fuel <;> simp [posFrom, hbz, hp]
       rw [HX.out, ← hpre, e, List.append_nil, filter_all _ pre (fun x hx => by simpa using hall x hx)])
     have HB := hid hbw
     clear hpre hall hbw
     go_wp2_with fail
     go_ret
     exact ⟨by rw [HE.out]; rfl, HB.out⟩
end Yd


namespace Yd
open Go Go.RowKit Go.Proofs

theorem ext3 (a b c : UInt8) (r : List UInt8) : ByteArray.extract ⟨⟨a :: b :: c :: r⟩⟩ 0 3 = ⟨#[a, b, c]⟩ := by
 apply ByteArray.ext
 simp [ByteArray.data_extract]
theorem toList3 (a b c : UInt8) : ByteArray.toList ⟨#[a, b, c]⟩ = [a, b, c] := by
 unfold ByteArray.toList
 rw [ByteArray.toList.loop, if_pos (by show 0 < 3; decide), ByteArray.toList.loop, if_pos (by show 1 < 3; decide), ByteArray.toList.loop, if_pos (by show 2 < 3; decide), ByteArray.toList.loop, if_neg (by show ¬ 3 < 3; decide)]
 rfl
theorem ext_beq (s : ByteArray) (h3 : 3 ≤ s.size) (h : ¬ s.extract 0 3 = ⟨#[239, 191, 189]⟩) : ((s.extract 0 3).toList == [239, 191, 189]) = false := by
 obtain ⟨⟨l⟩⟩ := s
 match l, h3 with
 | a :: b :: c :: r, _ =>
   rw [ext3] at h ⊢
   rw [toList3]
   refine beq_eq_false_iff_ne.2 (fun e => h ?_)
   simp only [List.cons.injEq, and_true] at e
   rw [e.1, e.2.1, e.2.2]
theorem fffd (s : ByteArray) (h3 : 3 ≤ s.size) (hr : (Utf8.decode s 0).1 = 65533) : (Utf8.decode s 0).2 = 3 ↔ s.extract 0 3 = ⟨#[239, 191, 189]⟩ := by
 obtain ⟨⟨l⟩⟩ := s
 match l, h3 with
 | a :: b :: c :: r, _ =>
   have ha : ByteArray.get! ⟨⟨a :: b :: c :: r⟩⟩ (0 + 0) = a := rfl
   have hb : ByteArray.get! ⟨⟨a :: b :: c :: r⟩⟩ (0 + 1) = b := rfl
   have hc : ByteArray.get! ⟨⟨a :: b :: c :: r⟩⟩ (0 + 2) = c := rfl
   have k0 := a.toNat_lt; have k1 := b.toNat_lt; have k2 := c.toNat_lt
   have hsz : ByteArray.size ⟨⟨a :: b :: c :: r⟩⟩ = r.length + 3 := rfl
   rw [ext3]
   have hiff : ((⟨#[a, b, c]⟩ : ByteArray) = ⟨#[239, 191, 189]⟩) ↔ (a.toNat = 239 ∧ b.toNat = 191 ∧ c.toNat = 189) := by
     constructor
     · intro h
       injection h with h
       simp at h
       obtain ⟨rfl, rfl, rfl⟩ := h
       decide
     · rintro ⟨h1, h2, h3⟩
       have e1 : a = 239 := UInt8.toNat_inj.1 h1
       have e2 : b = 191 := UInt8.toNat_inj.1 h2
       have e3 : c = 189 := UInt8.toNat_inj.1 h3
       rw [e1, e2, e3]
   rw [hiff]
   constructor
   · intro h
     unfold Utf8.decode at h hr
     simp only [ha, hb, hc] at h hr
     split at h
     · simp at h
     rename_i g0
     rw [if_neg g0] at hr
     split at h
     · split at h <;> simp at h
     rename_i g1
     rw [if_neg g1] at hr
     split at h
     · rename_i g2
       rw [if_pos g2] at hr
       split at h
       · rename_i g3
         rw [if_pos g3] at hr
         simp only [Bool.and_eq_true, decide_eq_true_eq, beq_iff_eq] at g2 hr
         omega
       · simp at h
     rename_i g2
     split at h
     · split at h <;> simp at h
     · simp at h
   · rintro ⟨h1, h2, h3⟩
     unfold Utf8.decode
     simp only [ha, hb, hc, h1, h2, h3, hsz]
     simp [Utf8.valid]
end Yd


namespace Yd
open Go Go.RowKit Go.Proofs
attribute [local go_sem] Oper.semAt_some

theorem ref_letter (r : Int) (w : World) : Calls Tryz.prog 99 #[.int .i32 r] w (Ret (.bool (letB r)) w) := by
 by_cases h0 : r = 95
 · subst h0
   go_enter Tryz.func99, Tryz.ntmps99
   go_wp2_with fail
   go_ret
   exact ⟨by simp [letB], Below.refl _ _⟩
 have hb : (r == 95) = false := beq_eq_false_iff_ne.2 h0
 by_cases h1 : 97 ≤ r <;> by_cases h2 : r ≤ 122 <;> by_cases h3 : 65 ≤ r <;> by_cases h4 : r ≤ 90 <;> by_cases h5 : 128 ≤ r
 all_goals first
   | (exfalso; omega)
   | (go_enter Tryz.func99, Tryz.ntmps99
      go_wp2_with fail
      go_ret
      exact ⟨by simp [letB, h0, h1, h2, h3, h4, h5], Below.refl _ _⟩)
theorem ref_digit (r : Int) (w : World) : Calls Tryz.prog 97 #[.int .i32 r] w (Ret (.bool (numB r)) w) := by
 by_cases h1 : 48 ≤ r <;> by_cases h2 : r ≤ 57
 all_goals
   go_enter Tryz.func97, Tryz.ntmps97
   go_wp2_with fail
   go_ret
   exact ⟨by simp [numB, h1, h2], Below.refl _ _⟩
def fstR (s : ByteArray) : Int := if 0 < s.size then (if okB s 0 = true then ((Utf8.decode s 0).1 : Int) else -1) else -1
def fstN (s : ByteArray) : Int := if 0 < s.size then (if okB s 0 = true then ((Utf8.decode s 0).2 : Int) else 1) else 0
theorem run_next_str (w : World) (s : ByteArray) (ty : TypeId) (h : 0 < s.size) :
   (Instr.next (.pointer (some ⟨w.heap.size, 0, none⟩)) true ty).run Tryz.prog (w.iter s 0) = .ok (.tuple #[.bool true, .int .i64 0, .int .i32 ((Utf8.decode s 0).1 : Int)]) (w.iter s (Utf8.decode s 0).2) := by
 simp only [Instr.next, getObj, setObj, Sem.run_bind, Sem.run, World.iter_heap, Result.andThen, h, if_true, World.iter_set]
 simp [goInt]
theorem dec_shape (s : ByteArray) (i : Nat) : Utf8.decode s i = (65533, 1) ∨ ((Utf8.decode s i).1 < 128 ∧ (Utf8.decode s i).2 = 1) ∨ (128 ≤ (Utf8.decode s i).1 ∧ (Utf8.decode s i).1 < 2048 ∧ (Utf8.decode s i).2 = 2) ∨
   (2048 ≤ (Utf8.decode s i).1 ∧ (Utf8.decode s i).1 < 65536 ∧ Utf8.valid ((Utf8.decode s i).1 : Int) = true ∧ (Utf8.decode s i).2 = 3) ∨ (65536 ≤ (Utf8.decode s i).1 ∧ Utf8.valid ((Utf8.decode s i).1 : Int) = true ∧ (Utf8.decode s i).2 = 4) := by
 unfold Utf8.decode
 simp only []
 have k0 := (s.get! (i + 0)).toNat_lt
 split
 · right; left; simp; omega
 split
 · split
   · right; right; left; refine ⟨by simpa using ‹_›, ?_, rfl⟩; simp only []; omega
   · left; rfl
 split
 · split
   · rename_i h
     simp only [Bool.and_eq_true, decide_eq_true_eq, ge_iff_le] at h
     right; right; right; left; refine ⟨h.1, ?_, h.2, rfl⟩; simp only []; omega
   · left; rfl
 split
 · split
   · rename_i h
     simp only [Bool.and_eq_true, decide_eq_true_eq, ge_iff_le] at h
     right; right; right; right; exact ⟨h.1, h.2, rfl⟩
   · left; rfl
 · left; rfl
theorem enc_size {s : ByteArray} {i : Nat} (h : okB s i = true) : (Utf8.encode ((Utf8.decode s i).1 : Int)).size = (Utf8.decode s i).2 := by
 unfold okB at h
 rcases dec_shape s i with e | ⟨e1, e2⟩ | ⟨e1, e2, e3⟩ | ⟨e1, e2, e3, e4⟩ | ⟨e1, e2, e3⟩
 · rw [e] at h; simp at h
 · have hv : Utf8.valid ((Utf8.decode s i).1 : Int) = true := by simp [Utf8.valid]; omega
   unfold Utf8.encode
   simp only [hv, if_true, Int.toNat_natCast]
   rw [if_pos (by omega), e2]; rfl
 · have hv : Utf8.valid ((Utf8.decode s i).1 : Int) = true := by simp [Utf8.valid]; omega
   unfold Utf8.encode
   simp only [hv, if_true, Int.toNat_natCast]
   rw [if_neg (by omega), if_pos (by omega), e3]; rfl
 · unfold Utf8.encode
   simp only [e3, if_true, Int.toNat_natCast]
   rw [if_neg (by omega), if_neg (by omega), if_pos (by omega), e4]; rfl
 · unfold Utf8.encode
   simp only [e2, if_true, Int.toNat_natCast]
   rw [if_neg (by omega), if_neg (by omega), if_neg (by omega), e3]; rfl
theorem dec_three (s : ByteArray) (h : (Utf8.decode s 0).2 = 3) : 3 ≤ s.size := by
 unfold Utf8.decode at h
 simp only [] at h
 split at h
 · simp at h
 split at h
 · split at h <;> simp at h
 split at h
 · rename_i g
   simp only [Bool.and_eq_true, decide_eq_true_eq] at g
   omega
 split at h
 · split at h <;> simp at h
 · simp at h
theorem ref_first (s : ByteArray) (w : World) : Calls Tryz.prog 96 #[.string s] w fun e w' => e = .returned (.tuple #[.int .i32 (fstR s), .int .i64 (fstN s)]) ∧ Below w.heap.size w w' := by
 by_cases hp : 0 < s.size
 · obtain ⟨r, hr⟩ : ∃ r : Int, r = ((Utf8.decode s 0).1 : Int) := ⟨_, rfl⟩
   have hnx := run_next_str w s 0 hp
   rw [← hr] at hnx
   have HBW : Hid (Below w.heap.size w (w.iter s (Utf8.decode s 0).2)) := hid ((Below.refl _ _).alloc (Nat.le_refl _) _)
   by_cases h5 : r = 65533
   · subst h5
     have hr' : (Utf8.decode s 0).1 = 65533 := by omega
     by_cases h3 : (Utf8.decode s 0).2 = 3
     · have hsz := dec_three s h3
       have hext := (fffd s hsz hr').1 h3
       have hok : okB s 0 = true := by unfold okB; rw [hr', h3]; decide
       have he := enc_size hok
       rw [← hr, h3] at he
       have HF : Hid (fstR s = 65533 ∧ fstN s = 3) := hid (by simp [fstR, fstN, hp, hok, hr', h3])
       have hlt : ¬ ((s.size : Int) < 3) := by omega
       clear hr hok hr' h3 hp
       go_enter Tryz.func96, Tryz.ntmps96
       go_wp2_with fail
       go_loopw [3] (fun v wr => v = .int .i64 0 ∧ wr = w.iter s 0) (fun _ _ => 0)
       case atStart => exact ⟨rfl, rfl⟩
       case round =>
         obtain ⟨rfl, rfl⟩ := hrel
         go_wp2_with fail
         go_ret2
         refine ⟨?_, HBW.out⟩
         rw [HF.out.1, HF.out.2]
         rfl
     · have h1 : (Utf8.decode s 0).2 = 1 := by
         rcases dec_shape s 0 with e | ⟨e1, e2⟩ | ⟨e1, e2, e3⟩ | ⟨e1, e2, e3, e4⟩ | ⟨e1, e2, e3⟩
         · rw [e]
         · exact e2
         · omega
         · omega
         · omega
       have hok : okB s 0 = false := by unfold okB; rw [hr', h1]; decide
       have HF : Hid (fstR s = -1 ∧ fstN s = 1) := hid (by simp [fstR, fstN, hp, hok])
       by_cases hsz : (s.size : Int) < 3
       · skip
         clear hr hok hr' h3 h1 hp
         go_enter Tryz.func96, Tryz.ntmps96
         go_wp2_with fail
         go_loopw [3] (fun v wr => v = .int .i64 0 ∧ wr = w.iter s 0) (fun _ _ => 0)
         case atStart => exact ⟨rfl, rfl⟩
         case round =>
           obtain ⟨rfl, rfl⟩ := hrel
           go_wp2_with fail
           go_ret2
           refine ⟨?_, HBW.out⟩
           rw [HF.out.1, HF.out.2]
           rfl
       · have hext : ¬ s.extract 0 3 = ⟨#[239, 191, 189]⟩ := fun e => h3 ((fffd s (by omega) hr').2 e)
         have hszn : 3 ≤ s.size := by omega
         have hexb := ext_beq s hszn hext
         clear hr hok hr' h3 h1 hp
         go_enter Tryz.func96, Tryz.ntmps96
         go_wp2_with fail
         go_loopw [3] (fun v wr => v = .int .i64 0 ∧ wr = w.iter s 0) (fun _ _ => 0)
         case atStart => exact ⟨rfl, rfl⟩
         case round =>
           obtain ⟨rfl, rfl⟩ := hrel
           go_wp2_with fail
           go_ret2
           refine ⟨?_, HBW.out⟩
           rw [HF.out.1, HF.out.2]
           rfl
   · have hb : (r == 65533) = false := beq_eq_false_iff_ne.2 h5
     have hok : okB s 0 = true := by unfold okB; rw [← hr, hb]; rfl
     have he := enc_size hok
     rw [← hr] at he
     have HF : Hid (fstR s = r ∧ fstN s = ((Utf8.decode s 0).2 : Int)) := hid (by simp [fstR, fstN, hp, hok, hr])
     have HE := hid he
     clear hr hok he hp
     go_enter Tryz.func96, Tryz.ntmps96
     go_wp2_with fail
     go_loopw [3] (fun v wr => v = .int .i64 0 ∧ wr = w.iter s 0) (fun _ _ => 0)
     case atStart => exact ⟨rfl, rfl⟩
     case round =>
       obtain ⟨rfl, rfl⟩ := hrel
       go_wp2_with fail
       go_ret2
       refine ⟨?_, HBW.out⟩
       rw [HF.out.1, HF.out.2]
       rw [← HE.out]; rfl
 · have hz : s.size = 0 := by omega
   have hnx : (Instr.next (.pointer (some ⟨w.heap.size, 0, none⟩)) true 0).run Tryz.prog (w.iter s 0) = .ok (.tuple #[.bool false]) (w.iter s 0) := run_next_end w s 0 0 hp
   have HF : Hid (fstR s = -1 ∧ fstN s = 0) := hid (by simp [fstR, fstN, hz])
   have HBW : Hid (Below w.heap.size w (w.iter s 0)) := hid ((Below.refl _ _).alloc (Nat.le_refl _) _)
   clear hz hp
   go_enter Tryz.func96, Tryz.ntmps96
   go_wp2_with fail
   go_loopw [3] (fun v wr => v = .int .i64 0 ∧ wr = w.iter s 0) (fun _ _ => 0)
   case atStart => exact ⟨rfl, rfl⟩
   case round =>
     obtain ⟨rfl, rfl⟩ := hrel
     go_wp2_with fail
     go_ret2
     refine ⟨?_, HBW.out⟩
     rw [HF.out.1, HF.out.2]
     rfl
def okR (s : ByteArray) (pos : Nat) : Bool := okB s pos && (letB ((Utf8.decode s pos).1 : Int) || (!decide (pos = 0) && numB ((Utf8.decode s pos).1 : Int)))
def rW (s : ByteArray) : Nat → Nat → Bool
 | 0, _ => true
 | n + 1, pos => if pos < s.size then okR s pos && rW s n (pos + (Utf8.decode s pos).2) else true
theorem dec_pos (s : ByteArray) (i : Nat) : 1 ≤ (Utf8.decode s i).2 ∧ (Utf8.decode s i).2 ≤ 4 := by
 rcases dec_shape s i with e | ⟨e1, e2⟩ | ⟨e1, e2, e3⟩ | ⟨e1, e2, e3, e4⟩ | ⟨e1, e2, e3⟩
 · rw [e]; decide
 · omega
 · omega
 · omega
 · omega
theorem loop_len (s : ByteArray) : ∀ (n i : Nat) (acc : List UInt8), s.size - i = n → (ByteArray.toList.loop s i acc).length = acc.length + n
 | 0, i, acc, h => by rw [ByteArray.toList.loop, if_neg (by omega)]; simp
 | n + 1, i, acc, h => by rw [ByteArray.toList.loop, if_pos (by omega), loop_len s n (i + 1) _ (by omega)]; simp; omega
theorem rW_all (s : ByteArray) : ∀ (n pos : Nat), 0 < pos → rW s n pos = (posFrom s n pos).all (fun p => okB s p && eitB ((Utf8.decode s p).1 : Int))
 | 0, _, _ => rfl
 | n + 1, pos, h => by
   simp only [rW, posFrom]
   split
   · rw [List.all_cons, rW_all s n _ (by have := dec_pos s pos; omega), okR]
     simp [show pos ≠ 0 by omega, eitB]
   · rfl
theorem pos_lt (s : ByteArray) : ∀ (n pos : Nat), ∀ p ∈ posFrom s n pos, p < s.size
 | 0, _, _, h => by simp [posFrom] at h
 | n + 1, pos, p, h => by
   simp only [posFrom] at h
   split at h
   · rcases List.mem_cons.1 h with rfl | h
     · assumption
     · exact pos_lt s n _ p h
   · simp at h
end Yd
