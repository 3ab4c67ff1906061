import Derived.Test.YthdpangjphphjaaGreatDoorCu3
import Derived.Test.YthdpangjphphjaaGreatDoorRdW
import Derived.Test.YthdpangjphphjaaGreatDoorProg
import Derived.Test.YthdpangjphphjaaGreatDoorRdT
import Derived.Test.YthdpangjphphjaaGreatDoorSpoken3
set_option maxRecDepth 200000
set_option maxHeartbeats 8000000
namespace Yd
open Go Go.RowKit Go.Proofs

theorem ext_both (s : Bs) (i j : Nat) (_h : i ≤ j) : (⟨s.toArray⟩ : ByteArray).extract i j = ⟨((s.drop i).take (j - i)).toArray⟩ := by
 apply ByteArray.ext
 rw [ByteArray.data_extract]
 apply Array.ext'
 rw [Array.toList_extract]
def oneS (ws : List Bs) (l : Bs) : Except Er (Nat × Bs) :=
 match ws.findIdx? (fun s => s == l.take (runR l)) with
 | some i => .ok (i, l.drop (runR l))
 | none => .error (l.drop (farS ws (l.take (runR l))), 220)
end Yd


namespace Yd
open Go Go.RowKit Go.Proofs

theorem wcR_of {c : UInt8} (h : wcB c = true) : wcR c = true := by unfold wcR; rw [h]; rfl
theorem tw_split : ∀ l : Bs, l.takeWhile wcR = l.takeWhile wcB ++ (l.drop (l.takeWhile wcB).length).takeWhile wcR
 | [] => rfl
 | a :: t => by
   rw [List.takeWhile_cons, List.takeWhile_cons]
   cases hb : wcB a
   · simp only [Bool.false_eq_true, if_false, List.nil_append, List.length_nil, List.drop_zero]
     rw [List.takeWhile_cons]
   · rw [wcR_of hb, if_pos rfl, if_pos rfl]
     simp only [List.length_cons, List.drop_succ_cons, List.cons_append]
     rw [← tw_split t]
theorem take_tw (q : UInt8 → Bool) (l : Bs) : l.take (l.takeWhile q).length = l.takeWhile q := by
 have : l = l.takeWhile q ++ l.dropWhile q := (List.takeWhile_append_dropWhile).symm
 generalize hx : l.takeWhile q = x at *
 rw [this]
 simp
theorem drop_tw (q : UInt8 → Bool) (l : Bs) : l.drop (l.takeWhile q).length = l.dropWhile q := by
 have : l = l.takeWhile q ++ l.dropWhile q := (List.takeWhile_append_dropWhile).symm
 generalize hx : l.takeWhile q = x at *
 generalize hy : l.dropWhile q = y at *
 rw [this]
 simp
theorem dw_head (q : UInt8 → Bool) : ∀ (l : Bs) (b : UInt8) (t : Bs), l.dropWhile q = b :: t → q b = false
 | [], b, t, h => by simp at h
 | a :: l, b, t, h => by
   rw [List.dropWhile_cons] at h
   cases hq : q a
   · rw [hq] at h; simp at h; rw [← h.1]; exact hq
   · rw [hq] at h; exact dw_head q l b t (by simpa using h)
theorem comm_app (b : UInt8) (u : Bs) : ∀ (x a : Bs), (∀ c ∈ x, c ≠ b) → commS x (a ++ b :: u) = commS x a
 | [], a, _ => by simp [commS]
 | c :: x, [], h => by simp [commS, h c List.mem_cons_self]
 | c :: x, d :: a, h => by
   rw [List.cons_append]
   simp only [commS]
   rw [comm_app b u x a (fun e he => h e (List.mem_cons_of_mem _ he))]
theorem far_app (b : UInt8) (u a : Bs) (ws : List Bs) (h : ∀ x ∈ ws, ∀ c ∈ x, c ≠ b) : farS ws (a ++ b :: u) = farS ws a := by
 unfold farS
 have : ∀ (ws : List Bs) (m : Nat), (∀ x ∈ ws, ∀ c ∈ x, c ≠ b) → ws.foldl (fun m s => max m (commS s (a ++ b :: u))) m = ws.foldl (fun m s => max m (commS s a)) m := by
   intro ws
   induction ws with
   | nil => intro m _; rfl
   | cons x ws ih =>
     intro m hm
     simp only [List.foldl_cons]
     rw [comm_app b u x a (hm x List.mem_cons_self), ih _ (fun y hy => hm y (List.mem_cons_of_mem _ hy))]
 exact this ws 0 h
theorem one_word (ws : List Bs) (l : Bs) (hw : ∀ x ∈ ws, ∀ c ∈ x, wcB c = true) : oneS ws l = wordS ws l := by
 have hT : l.take (runR l) = l.takeWhile wcR := take_tw wcR l
 have hs := tw_split l
 have hd := drop_tw wcB l
 unfold oneS wordS
 rw [hT]
 have hst : stretchS l = l.takeWhile wcB := rfl
 cases hdw : l.dropWhile wcB with
 | nil =>
   have hdr : l.drop (l.takeWhile wcB).length = [] := hd.trans hdw
   rw [hdr] at hs
   have hs' : l.takeWhile wcR = stretchS l := by rw [hs]; simp [stretchS]
   have hwh : wholeS l = stretchS l := by unfold wholeS; rw [hst, hdr]; rfl
   have hrun : runR l = (stretchS l).length := by unfold runR; rw [hs']
   rw [hs', hwh, hrun]
   rfl
 | cons b t =>
   have hdr : l.drop (l.takeWhile wcB).length = b :: t := hd.trans hdw
   have hb : wcB b = false := dw_head wcB l b t hdw
   rw [hdr] at hs
   by_cases h128 : 128 ≤ b.toNat
   · have hR : wcR b = true := by unfold wcR; rw [decide_eq_true h128, Bool.or_true]
     rw [List.takeWhile_cons, hR, if_pos rfl] at hs
     have hwh : wholeS l = stretchS l ++ [128] := by
       unfold wholeS; rw [hst, hdr]
       simp only [List.head?_cons]
       rw [if_pos (show (128 : UInt8) ≤ b from h128)]
     have n1 : ∀ x ∈ ws, (x == l.takeWhile wcR) = false := fun x hx => by
       rw [hs]
       refine beq_eq_false_iff_ne.2 (fun e => ?_)
       have := hw x hx b (by rw [e]; simp)
       rw [hb] at this; cases this
     have n2 : ∀ x ∈ ws, (x == wholeS l) = false := fun x hx => by
       rw [hwh]
       refine beq_eq_false_iff_ne.2 (fun e => ?_)
       have := hw x hx 128 (by rw [e]; simp)
       revert this; decide
     rw [List.findIdx?_eq_none_iff.2 n1, List.findIdx?_eq_none_iff.2 n2]
     simp only []
     rw [hs, far_app b _ _ ws (fun x hx c hc e => by have := hw x hx c hc; rw [e, hb] at this; cases this)]
     rfl
   · have hR : wcR b = false := by unfold wcR; rw [decide_eq_false h128, hb]; rfl
     rw [List.takeWhile_cons, hR] at hs
     have hs' : l.takeWhile wcR = stretchS l := by rw [hs]; simp [stretchS]
     have hwh : wholeS l = stretchS l := by
       unfold wholeS; rw [hst, hdr]
       simp only [List.head?_cons]
       rw [if_neg (show ¬ (128 : UInt8) ≤ b from h128)]
     have hrun : runR l = (stretchS l).length := by unfold runR; rw [hs']
     rw [hs', hwh, hrun]
     rfl
end Yd


namespace Yd
open Go Go.RowKit Go.Proofs

theorem lx_blank (r : Int) (w : World) : Calls Tryz.prog 83 #[.int .i32 r] w (Ret (.bool (blR r)) w) := by
 unfold blR
 cases h1 : r == 32 <;> cases h2 : r == 9
 all_goals
   go_enter Tryz.func83, Tryz.ntmps83
   go_wp2
   go_ret
   exact ⟨rfl, Below.refl _ _⟩
theorem call_lxblank : ∀ args w, (callFunc 83 args).run Tryz.prog w = .ok (.enter 83 args) w := enters_of Tryz.func83 (by kernel_rfl) rfl
theorem lx_rem (r : Int) (w : World) : Calls Tryz.prog 123 #[.int .i32 r] w (Ret (.bool (remB r)) w) := by
 unfold remB
 by_cases h1 : 32 ≤ r <;> cases h2 : r == 9
 all_goals
   go_enter Tryz.func123, Tryz.ntmps123
   go_wp2
   go_ret
   exact ⟨by simp [h1], Below.refl _ _⟩
theorem call_lxrem : ∀ args w, (callFunc 123 args).run Tryz.prog w = .ok (.enter 123 args) w := enters_of Tryz.func123 (by kernel_rfl) rfl
theorem whileE_le (p : Int → Bool) : ∀ (n : Nat) (l : Bs), l.length ≤ n → whileE ⟨l.toArray⟩ p ≤ l.length
 | 0, l, h => by rw [List.eq_nil_of_length_eq_zero (l := l) (by omega)]; exact Nat.le_refl _
 | n + 1, l, h => by
   by_cases h0 : l = []
   · subst h0; exact Nat.le_refl _
   · rw [whileE_cons l p h0]
     split
     · have h1 := dec_w l h0; have h2 := dec_le l h0
       have := whileE_le p n (l.drop (Utf8.decode ⟨l.toArray⟩ 0).2) (by rw [List.length_drop]; omega)
       rw [List.length_drop] at this
       omega
     · exact Nat.zero_le _
def skN (l : Bs) : Nat := (l.takeWhile blB).length + if (skipS l).head? = some 35 then whileE ⟨(skipS l).toArray⟩ remB else 0
def skO (l : Bs) : Bool := !((skipS l).head? == some 35) || ((l.drop (skN l)).head? == none || (l.drop (skN l)).head? == some 10)
theorem skip_tw (l : Bs) : (l.takeWhile blB).length + (skipS l).length = l.length := len_takeWhile blB l
theorem lx_skip (s : Bs) (p : Nat) (l : Bs) (hd : s.drop p = l) (hp : p ≤ s.length) (hlim : s.length ≤ 1000000) (w : World) (hT : Lib.Utf8Tabs 2 3 w) :
   Calls Tryz.prog 82 #[.string ⟨s.toArray⟩, .int .i64 p] w (Ret2 (.int .i64 ((p + skN l : Nat) : Int)) (.bool (skO l)) w) := by
 have hll : p + l.length = s.length := by rw [← hd, List.length_drop]; omega
 obtain ⟨q, hq⟩ : ∃ q, q = p + (l.takeWhile blB).length := ⟨_, rfl⟩
 have hst := skip_tw l
 have hqs : q ≤ s.length := by omega
 have hqd : s.drop q = skipS l := by rw [hq, ← List.drop_drop, hd, drop_takeWhile]; rfl
 have hsl := fun W => run_sl Tryz.underlying9 s p (by omega) W
 rw [hd] at hsl
 have hz := bsz s
 have hqi : (p : Int) + ((l.takeWhile blB).length : Int) = (q : Int) := by omega
 have HT := hid hT; have HW := fun W (hb : Below w.heap.size w W) => hid (while_any ⟨l.toArray⟩ 83 #[] call_lxblank blR W (fun r W' _ => lx_blank r W') (Utf8Tabs_below hT hb))
 rw [while_bl] at HW
 clear hT
 cases hk : skipS l with
 | nil =>
   have hqe : q = s.length := by have := congrArg List.length hqd; rw [List.length_drop, hk] at this; simp at this; omega
   have HN : Hid (skN l = (l.takeWhile blB).length ∧ skO l = true) := hid (by unfold skO skN; rw [hk]; simp)
   have hd1 : ((q : Int) == (s.length : Int)) = true := by simp [hqe]
   have HQ := hid hq; have HE := hid hqe
   clear hqd hk hst hqe hq
   go_enter Tryz.func82, Tryz.ntmps82
   go_wp2_with fail
   refine (HW _ (Below.refl _ _)).out.mono ?_
   rintro e w1 ⟨rfl, hb1⟩
   have HB1 := hid hb1; clear hb1
   go_wp2_with fail
   go_ret2
   refine ⟨?_, HB1.out⟩
   rw [HN.out.1, HN.out.2, ← HQ.out]; rfl
 | cons b t =>
   have hqb : s[q]? = some b := by
     have := congrArg (fun l => l[0]?) hqd
     rw [hk] at this
     simpa using this
   have hqlt : q < s.length := (List.getElem?_eq_some_iff.1 hqb).1
   have hix := fun W => run_ix Tryz.underlying9 s q b hqb W
   have hd1 : ((q : Int) == (s.length : Int)) = false := beq_eq_false_iff_ne.2 (by omega)
   by_cases hb : b.toNat = 35
   · have hb35 : b = 35 := UInt8.toNat_inj.1 hb
     have hd2 : ((b.toNat : Int) == 35) = true := by simp [hb]
     obtain ⟨m, hm⟩ : ∃ m, m = whileE ⟨(skipS l).toArray⟩ remB := ⟨_, rfl⟩
     have hsk : skN l = (l.takeWhile blB).length + m := by unfold skN; rw [if_pos (by rw [hk, hb35]; rfl), ← hm]
     have hml : m ≤ (skipS l).length := by rw [hm]; exact whileE_le _ _ _ (Nat.le_refl _)
     obtain ⟨q2, hq2⟩ : ∃ q2, q2 = q + m := ⟨_, rfl⟩
     have hq2i : (q : Int) + (m : Int) = (q2 : Int) := by omega
     have hq2s : q2 ≤ s.length := by omega
     have hq2d : s.drop q2 = l.drop (skN l) := by
       have e : skN l = (l.takeWhile blB).length + m := hsk
       rw [e, hq2, hq, ← hd, List.drop_drop, Nat.add_assoc]
     have HN : Hid (p + skN l = q2) := hid (by omega)
     have hsl2 := fun W => run_sl Tryz.underlying9 s q (by omega) W
     rw [hqd] at hsl2
     have HW2 := fun W (hb : Below w.heap.size w W) => hid (while_any ⟨(skipS l).toArray⟩ 123 #[] call_lxrem remB W (fun r W' _ => lx_rem r W') (Utf8Tabs_below HT.out hb))
     rw [← hm] at HW2
     have HSO : Hid (skO l = ((l.drop (skN l)).head? == none || (l.drop (skN l)).head? == some 10)) := hid (by unfold skO; rw [hk, hb35]; rfl)
     cases hk2 : l.drop (skN l) with
     | nil =>
       have hqe : q2 = s.length := by have := congrArg List.length hq2d; rw [List.length_drop, hk2] at this; simp at this; omega
       have hd3 : ((q2 : Int) == (s.length : Int)) = true := by simp [hqe]
       have HS3 : Hid (skO l = true) := hid (by rw [HSO.out, hk2]; rfl)
       clear hsk hqd hk hst hq hqb hb hb35 hm hml hq2 hq2d hqe hk2
       go_enter Tryz.func82, Tryz.ntmps82
       go_wp2_with fail
       refine (HW _ (Below.refl _ _)).out.mono ?_
       rintro e w1 ⟨rfl, hb1⟩
       have HB1 := hid hb1; clear hb1
       go_wp2_with fail
       refine (HW2 _ HB1.out).out.mono ?_
       rintro e w2 ⟨rfl, hb2⟩
       have HB2 := hid (HB1.out.trans (hb2.mono HB1.out.size)); clear hb2
       go_wp2_with (go_quiet (fail))
       go_ret2
       exact ⟨by rw [HN.out, HS3.out]; rfl, belowN HB2.out _⟩
     | cons b2 t2 =>
       have hqb2 : s[q2]? = some b2 := by
         have := congrArg (fun l => l[0]?) hq2d
         rw [hk2] at this
         simpa using this
       have hq2lt : q2 < s.length := (List.getElem?_eq_some_iff.1 hqb2).1
       have hix2 := fun W => run_ix Tryz.underlying9 s q2 b2 hqb2 W
       have hd3 : ((q2 : Int) == (s.length : Int)) = false := beq_eq_false_iff_ne.2 (by omega)
       have HS3 : Hid (skO l = ((b2.toNat : Int) == 10)) := hid (by rw [HSO.out, hk2]; show (b2 == 10) = _; rw [u8_eq]; rfl)
       clear hsk hqd hk hst hq hqb hb hb35 hm hml hq2 hq2d hk2 hqb2
       cases hd4 : ((b2.toNat : Int) == 10)
       all_goals
         rw [hd4] at HS3
         go_enter Tryz.func82, Tryz.ntmps82
         go_wp2_with fail
         refine (HW _ (Below.refl _ _)).out.mono ?_
         rintro e w1 ⟨rfl, hb1⟩
         have HB1 := hid hb1; clear hb1
         go_wp2_with fail
         refine (HW2 _ HB1.out).out.mono ?_
         rintro e w2 ⟨rfl, hb2⟩
         have HB2 := hid (HB1.out.trans (hb2.mono HB1.out.size)); clear hb2
         go_wp2_with (go_quiet (fail))
         go_ret2
         exact ⟨by rw [HN.out, HS3.out]; rfl, belowN HB2.out _⟩
   · have hd2 : ((b.toNat : Int) == 35) = false := beq_eq_false_iff_ne.2 (by omega)
     have hb' : ¬ b = 35 := fun e => hb (by rw [e]; rfl)
     have HN : Hid (skN l = (l.takeWhile blB).length ∧ skO l = true) := hid (by unfold skO skN; rw [hk]; simp [hb'])
     have HQ := hid hq
     clear hqd hk hst hq hqb hb hb'
     go_enter Tryz.func82, Tryz.ntmps82
     go_wp2_with fail
     refine (HW _ (Below.refl _ _)).out.mono ?_
     rintro e w1 ⟨rfl, hb1⟩
     have HB1 := hid hb1; clear hb1
     go_wp2_with fail
     go_ret2
     refine ⟨?_, HB1.out⟩
     rw [HN.out.1, HN.out.2, ← HQ.out]; rfl
theorem posFrom_ge (s : ByteArray) : ∀ (n p : Nat), ∀ x ∈ posFrom s n p, p ≤ x
 | 0, _, _, h => by simp [posFrom] at h
 | n + 1, p, x, h => by
   simp only [posFrom] at h
   split at h
   · rcases List.mem_cons.1 h with rfl | h
     · exact Nat.le_refl _
     · exact Nat.le_trans (Nat.le_add_right _ _) (posFrom_ge s n _ x h)
   · cases h
theorem filter_all {α : Type} (p : α → Bool) (l : List α) (h : ∀ x ∈ l, p x = true) : l.filter p = l := List.filter_eq_self.2 h
theorem filter_no {α : Type} (p : α → Bool) (l : List α) (h : ∀ x ∈ l, p x = false) : l.filter p = [] := List.filter_eq_nil_iff.2 (fun x hx => by rw [h x hx]; simp)
theorem lx_long (u : Bs) (hlim : u.length ≤ 1000000) (w : World) : Calls Tryz.prog 88 #[.string ⟨u.toArray⟩] w (Ret (.int .i64 (longS u : Int)) w) := by
 obtain ⟨X, hX⟩ : ∃ X, X = longS u := ⟨_, rfl⟩
 rw [← hX]
 have hbz := bsz u
 have HX : Hid (X = (((posFrom ⟨u.toArray⟩ u.length 0).filter (fun i => decide (i ≤ 24))).getLast?).getD 0) := hid hX
 clear hX
 go_enter Tryz.func88, Tryz.ntmps88
 go_wp2_with fail
 go_loopw [3] (fun v wr => ∃ (pos fuel : Nat) (pre : List Nat), v = .int .i64 (pre.getLast?.getD 0 : Nat) ∧ pre ++ posFrom ⟨u.toArray⟩ fuel pos = posFrom ⟨u.toArray⟩ u.length 0 ∧ (∀ x ∈ pre, x ≤ 24) ∧ u.length ≤ pos + fuel ∧ pos ≤ 2000000 ∧ wr.heap[w.heap.size]? = some (.stringIter ⟨u.toArray⟩ pos) ∧ Below w.heap.size w wr) (fun _ wr => u.length - wr.iterPos w.heap.size)
 case atStart => exact ⟨0, u.length, [], rfl, rfl, by simp, by omega, by omega, World.iter_heap w ⟨u.toArray⟩ 0, iter_below w ⟨u.toArray⟩⟩
 case round =>
   obtain ⟨pos, fuel, pre, rfl, hpre, hall, hfu, hpb, hit, hbw⟩ := hrel
   by_cases hp : pos < u.length
   · have hnx : ∀ ty, (Instr.next (.pointer (some ⟨w.heap.size, 0, none⟩)) true ty).run Tryz.prog wr = _ := fun ty => Lib.run_next_any_at wr w.heap.size ⟨u.toArray⟩ pos ty hit (by rw [hbz]; exact hp)
     have hwd := width_pos ⟨u.toArray⟩ pos (by rw [hbz]; exact hp)
     obtain ⟨d, hd⟩ : ∃ d, d = (Utf8.decode ⟨u.toArray⟩ pos).2 := ⟨_, rfl⟩
     have hw4 : d ≤ u.length - pos := by
       have := dec_le (u.drop pos) (by intro e; have := congrArg List.length e; rw [List.length_drop] at this; simp at this; omega)
       rw [← dec_drop, ← hd, List.length_drop] at this; exact this
     rw [← hd] at hnx hwd
     obtain ⟨f, rfl⟩ : ∃ f, fuel = f + 1 := ⟨fuel - 1, by omega⟩
     have hcons : posFrom ⟨u.toArray⟩ (f + 1) pos = pos :: posFrom ⟨u.toArray⟩ f (pos + d) := by simp [posFrom, hbz, hp, hd]
     have hit2 := Lib.iterAt_heap wr w.heap.size ⟨u.toArray⟩ pos (pos + d) hit
     have hbw2 := Lib.below_iterAt hbw (k := w.heap.size) (Nat.le_refl _) ⟨u.toArray⟩ (pos + d)
     have HI := hid hit; have HI2 := hid hit2; have HB2 := hid hbw2; have HP := hid (hcons ▸ hpre); have HA := hid hall
     clear hit hit2 hbw hbw2 hcons hpre hall hd
     by_cases h24 : pos ≤ 24
     · have hd1 : decide ((24 : Int) < (pos : Int)) = false := decide_eq_false (by omega)
       go_wp2_with fail
       go_roundw
       case rel => exact ⟨pos + d, f, pre ++ [pos], by simp, by rw [← HP.out]; simp, fun x hx => by
         rcases List.mem_append.1 hx with hx | hx
         · exact HA.out x hx
         · obtain rfl : x = pos := by simpa using hx
           exact h24, by omega, by omega, HI2.out, HB2.out⟩
       case measure => rw [iterPos_of HI2.out, iterPos_of HI.out]; omega
     · have hd1 : decide ((24 : Int) < (pos : Int)) = true := decide_eq_true (by omega)
       have HE : Hid (X = pre.getLast?.getD 0) := hid (by
         rw [HX.out, ← HP.out, List.filter_append, filter_all _ pre (fun x hx => by simpa using HA.out x hx), filter_no _ _ (fun x hx => ?_), List.append_nil]
         rcases List.mem_cons.1 hx with rfl | hx
         · simpa using h24
         · have := posFrom_ge _ _ _ x hx; simp; omega)
       go_wp2_with fail
       go_ret
       exact ⟨by rw [HE.out]; rfl, HB2.out⟩
   · have hnx : ∀ ty, (Instr.next (.pointer (some ⟨w.heap.size, 0, none⟩)) true ty).run Tryz.prog wr = _ := fun ty => Lib.run_next_end_at wr w.heap.size ⟨u.toArray⟩ pos ty hit (by rw [hbz]; exact hp)
     have HE : Hid (X = pre.getLast?.getD 0) := hid (by
       have e : posFrom ⟨u.toArray⟩ fuel pos = [] := by cases fuel <;> simp [posFrom, hbz, hp]
       rw [HX.out, ← hpre, e, List.append_nil, filter_all _ pre (fun x hx => by simpa using hall x hx)])
     have HB := hid hbw
     clear hpre hall hbw
     go_wp2_with fail
     go_ret
     exact ⟨by rw [HE.out]; rfl, HB.out⟩
end Yd
