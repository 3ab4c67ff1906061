import Derived.Test.YthdpangjphphjaaGreatDoorRdW
import Derived.Test.YthdpangjphphjaaGreatDoorEnc
import Derived.Test.YthdpangjphphjaaGreatDoorRFffd
import Derived.Test.YthdpangjphphjaaGreatDoorRdA
import Derived.Test.YthdpangjphphjaaGreatDoorProg
set_option maxRecDepth 200000
set_option maxHeartbeats 8000000
namespace Yd
open Go Go.RowKit Go.Proofs

/-! Plain laws that the cursor's texts and those of LineBack and LineFirst lean on. -/
theorem skipS_cons_yes {b : UInt8} {t : Bs} (h : blB b = true) : skipS (b :: t) = skipS t := by unfold skipS; rw [List.dropWhile_cons, if_pos h]
theorem skipS_cons_no {b : UInt8} {t : Bs} (h : blB b = false) : skipS (b :: t) = b :: t := by unfold skipS; rw [List.dropWhile_cons, h]; rfl
def wcR (c : UInt8) : Bool := wcB c || decide (128 ≤ c.toNat)
def runR (l : Bs) : Nat := (l.takeWhile wcR).length
theorem ext_both (s : Bs) (i j : Nat) (_h : i ≤ j) : (⟨s.toArray⟩ : ByteArray).extract i j = ⟨((s.drop i).take (j - i)).toArray⟩ := by
 apply ByteArray.ext
 rw [ByteArray.data_extract]
 apply Array.ext'
 rw [Array.toList_extract]
def oneS (ws : List Bs) (l : Bs) : Except Er (Nat × Bs) :=
 match ws.findIdx? (fun s => s == l.take (runR l)) with
 | some i => .ok (i, l.drop (runR l))
 | none => .error (l.drop (farS ws (l.take (runR l))), 220)
theorem wcR_of {c : UInt8} (h : wcB c = true) : wcR c = true := by unfold wcR; rw [h]; rfl
theorem tw_split : ∀ l : Bs, l.takeWhile wcR = l.takeWhile wcB ++ (l.drop (l.takeWhile wcB).length).takeWhile wcR
 | [] => rfl
 | a :: t => by
   rw [List.takeWhile_cons, List.takeWhile_cons]
   cases hb : wcB a
   · simp only [Bool.false_eq_true, if_false, List.nil_append, List.length_nil, List.drop_zero]
     rw [List.takeWhile_cons]
   · rw [wcR_of hb, if_pos rfl, if_pos rfl]
     simp only [List.length_cons, List.drop_succ_cons, List.cons_append]
     rw [← tw_split t]
theorem take_tw (q : UInt8 → Bool) (l : Bs) : l.take (l.takeWhile q).length = l.takeWhile q := by
 have : l = l.takeWhile q ++ l.dropWhile q := (List.takeWhile_append_dropWhile).symm
 generalize hx : l.takeWhile q = x at *
 rw [this]
 simp
theorem drop_tw (q : UInt8 → Bool) (l : Bs) : l.drop (l.takeWhile q).length = l.dropWhile q := by
 have : l = l.takeWhile q ++ l.dropWhile q := (List.takeWhile_append_dropWhile).symm
 generalize hx : l.takeWhile q = x at *
 generalize hy : l.dropWhile q = y at *
 rw [this]
 simp
theorem dw_head (q : UInt8 → Bool) : ∀ (l : Bs) (b : UInt8) (t : Bs), l.dropWhile q = b :: t → q b = false
 | [], b, t, h => by simp at h
 | a :: l, b, t, h => by
   rw [List.dropWhile_cons] at h
   cases hq : q a
   · rw [hq] at h; simp at h; rw [← h.1]; exact hq
   · rw [hq] at h; exact dw_head q l b t (by simpa using h)
theorem comm_app (b : UInt8) (u : Bs) : ∀ (x a : Bs), (∀ c ∈ x, c ≠ b) → commS x (a ++ b :: u) = commS x a
 | [], a, _ => by simp [commS]
 | c :: x, [], h => by simp [commS, h c List.mem_cons_self]
 | c :: x, d :: a, h => by
   rw [List.cons_append]
   simp only [commS]
   rw [comm_app b u x a (fun e he => h e (List.mem_cons_of_mem _ he))]
theorem far_app (b : UInt8) (u a : Bs) (ws : List Bs) (h : ∀ x ∈ ws, ∀ c ∈ x, c ≠ b) : farS ws (a ++ b :: u) = farS ws a := by
 unfold farS
 have : ∀ (ws : List Bs) (m : Nat), (∀ x ∈ ws, ∀ c ∈ x, c ≠ b) → ws.foldl (fun m s => max m (commS s (a ++ b :: u))) m = ws.foldl (fun m s => max m (commS s a)) m := by
   intro ws
   induction ws with
   | nil => intro m _; rfl
   | cons x ws ih =>
     intro m hm
     simp only [List.foldl_cons]
     rw [comm_app b u x a (hm x List.mem_cons_self), ih _ (fun y hy => hm y (List.mem_cons_of_mem _ hy))]
 exact this ws 0 h
theorem one_word (ws : List Bs) (l : Bs) (hw : ∀ x ∈ ws, ∀ c ∈ x, wcB c = true) : oneS ws l = wordS ws l := by
 have hT : l.take (runR l) = l.takeWhile wcR := take_tw wcR l
 have hs := tw_split l
 have hd := drop_tw wcB l
 unfold oneS wordS
 rw [hT]
 have hst : stretchS l = l.takeWhile wcB := rfl
 cases hdw : l.dropWhile wcB with
 | nil =>
   have hdr : l.drop (l.takeWhile wcB).length = [] := hd.trans hdw
   rw [hdr] at hs
   have hs' : l.takeWhile wcR = stretchS l := by rw [hs]; simp [stretchS]
   have hwh : wholeS l = stretchS l := by unfold wholeS; rw [hst, hdr]; rfl
   have hrun : runR l = (stretchS l).length := by unfold runR; rw [hs']
   rw [hs', hwh, hrun]
   rfl
 | cons b t =>
   have hdr : l.drop (l.takeWhile wcB).length = b :: t := hd.trans hdw
   have hb : wcB b = false := dw_head wcB l b t hdw
   rw [hdr] at hs
   by_cases h128 : 128 ≤ b.toNat
   · have hR : wcR b = true := by unfold wcR; rw [decide_eq_true h128, Bool.or_true]
     rw [List.takeWhile_cons, hR, if_pos rfl] at hs
     have hwh : wholeS l = stretchS l ++ [128] := by
       unfold wholeS; rw [hst, hdr]
       simp only [List.head?_cons]
       rw [if_pos (show (128 : UInt8) ≤ b from h128)]
     have n1 : ∀ x ∈ ws, (x == l.takeWhile wcR) = false := fun x hx => by
       rw [hs]
       refine beq_eq_false_iff_ne.2 (fun e => ?_)
       have := hw x hx b (by rw [e]; simp)
       rw [hb] at this; cases this
     have n2 : ∀ x ∈ ws, (x == wholeS l) = false := fun x hx => by
       rw [hwh]
       refine beq_eq_false_iff_ne.2 (fun e => ?_)
       have := hw x hx 128 (by rw [e]; simp)
       revert this; decide
     rw [List.findIdx?_eq_none_iff.2 n1, List.findIdx?_eq_none_iff.2 n2]
     simp only []
     rw [hs, far_app b _ _ ws (fun x hx c hc e => by have := hw x hx c hc; rw [e, hb] at this; cases this)]
     rfl
   · have hR : wcR b = false := by unfold wcR; rw [decide_eq_false h128, hb]; rfl
     rw [List.takeWhile_cons, hR] at hs
     have hs' : l.takeWhile wcR = stretchS l := by rw [hs]; simp [stretchS]
     have hwh : wholeS l = stretchS l := by
       unfold wholeS; rw [hst, hdr]
       simp only [List.head?_cons]
       rw [if_neg (show ¬ (128 : UInt8) ≤ b from h128)]
     have hrun : runR l = (stretchS l).length := by unfold runR; rw [hs']
     rw [hs', hwh, hrun]
     rfl
def hdR (l : Bs) : Int := fstR ⟨l.toArray⟩
def hdN (l : Bs) : Nat := if okB ⟨l.toArray⟩ 0 = true then (Utf8.decode ⟨l.toArray⟩ 0).2 else 1
theorem hdR_eq {l : Bs} (h : l ≠ []) : hdR l = if okB ⟨l.toArray⟩ 0 = true then ((Utf8.decode ⟨l.toArray⟩ 0).1 : Int) else -1 := by
 unfold hdR fstR
 rw [if_pos (by rw [bsz]; cases l with | nil => exact absurd rfl h | cons a t => simp)]
theorem hd_lo {b : UInt8} (t : Bs) (h : b.toNat < 128) : hdR (b :: t) = b.toNat ∧ hdN (b :: t) = 1 := by
 rw [hdR_eq (by simp)]
 unfold hdN
 rw [ok_lo b t h, if_pos rfl, if_pos rfl, dec_lo b t h]
 exact ⟨rfl, rfl⟩
theorem hd_hi {b : UInt8} (t : Bs) (h : 128 ≤ b.toNat) : hdR (b :: t) = -1 ∨ 128 ≤ hdR (b :: t) := by
 rw [hdR_eq (by simp)]
 have := dec_hi b t h
 split
 · right; omega
 · left; rfl
theorem hd_is (b : UInt8) (t : Bs) (k : Nat) (hk : k < 128) : (hdR (b :: t) = (k : Int)) ↔ b.toNat = k := by
 rcases Nat.lt_or_ge b.toNat 128 with h | h
 · rw [(hd_lo t h).1]; omega
 · rcases hd_hi t h with e | e <;> constructor <;> intro <;> omega
theorem decN_take (n n' b0 b1 b2 b3 c1 c2 c3 r w : Nat) (hw : Lib.decodeN n b0 b1 b2 b3 = (r, w)) (hv : ¬ (r = 65533 ∧ w = 1)) (hn : w ≤ n') (h1 : 1 < w → c1 = b1) (h2 : 2 < w → c2 = b2) (h3 : 3 < w → c3 = b3) : Lib.decodeN n' b0 c1 c2 c3 = (r, w) := by
 unfold Lib.decodeN at hw
 split at hw
 · rename_i h
   unfold Lib.decodeN
   rw [if_pos h]; exact hw
 · rename_i hA
   split at hw
   · rename_i h
     split at hw
     · rename_i hk
       injection hw with e1 e2
       subst e2
       obtain rfl := h1 (by omega)
       unfold Lib.decodeN
       rw [if_neg hA, if_pos ⟨h.1, by omega, h.2.2⟩, if_pos hk, e1]
     · injection hw with e1 e2; exact absurd ⟨e1.symm, e2.symm⟩ hv
   · rename_i hB
     split at hw
     · rename_i h
       split at hw
       · rename_i hk
         injection hw with e1 e2
         subst e2
         obtain rfl := h1 (by omega)
         obtain rfl := h2 (by omega)
         unfold Lib.decodeN
         rw [if_neg hA, if_neg (by omega), if_pos ⟨h.1, ⟨by omega, h.2.1.2⟩, by omega, h.2.2.2⟩, if_pos hk, e1]
       · injection hw with e1 e2; exact absurd ⟨e1.symm, e2.symm⟩ hv
     · rename_i hC
       split at hw
       · rename_i h
         split at hw
         · rename_i hk
           injection hw with e1 e2
           subst e2
           obtain rfl := h1 (by omega)
           obtain rfl := h2 (by omega)
           obtain rfl := h3 (by omega)
           unfold Lib.decodeN
           rw [if_neg hA, if_neg (by omega), if_neg (by omega), if_pos ⟨h.1, ⟨by omega, h.2.1.2⟩, ⟨by omega, h.2.2.1.2⟩, by omega, h.2.2.2.2⟩, if_pos hk, e1]
         · injection hw with e1 e2; exact absurd ⟨e1.symm, e2.symm⟩ hv
       · injection hw with e1 e2; exact absurd ⟨e1.symm, e2.symm⟩ hv
theorem ok_ne {l : Bs} (h : okB ⟨l.toArray⟩ 0 = true) : ¬ ((Utf8.decode ⟨l.toArray⟩ 0).1 = 65533 ∧ (Utf8.decode ⟨l.toArray⟩ 0).2 = 1) := by
 rintro ⟨h1, h2⟩
 unfold okB at h
 rw [h1, h2] at h
 simp at h
theorem getD_take0 (l : Bs) (m k : Nat) (h : k < m) : (l.take m).getD k 0 = l.getD k 0 := by simp [List.getD, h]
theorem dec_nums (l : Bs) : Utf8.decode ⟨l.toArray⟩ 0 = Lib.decodeN l.length (l.getD 0 0).toNat (l.getD 1 0).toNat (l.getD 2 0).toNat (l.getD 3 0).toNat := by
 have := Lib.decode_N ⟨l.toArray⟩ 0
 simpa using this
theorem dec_take {l : Bs} {m : Nat} (h : okB ⟨l.toArray⟩ 0 = true) (hm : (Utf8.decode ⟨l.toArray⟩ 0).2 ≤ m) (hl : (Utf8.decode ⟨l.toArray⟩ 0).2 ≤ l.length) (h0 : 0 < m) : Utf8.decode ⟨(l.take m).toArray⟩ 0 = Utf8.decode ⟨l.toArray⟩ 0 := by
 have hv := ok_ne h
 have hx := dec_nums l
 obtain ⟨r, w, hq⟩ : ∃ r w, Utf8.decode ⟨l.toArray⟩ 0 = (r, w) := ⟨_, _, rfl⟩
 rw [hq] at hx hm hl hv ⊢
 simp only at hm hl hv
 rw [dec_nums (l.take m), getD_take0 l m 0 h0]
 refine decN_take l.length _ _ _ _ _ _ _ _ r w hx.symm hv (by rw [List.length_take]; omega) (fun h1 => ?_) (fun h1 => ?_) (fun h1 => ?_)
 · rw [getD_take0 l m 1 (by omega)]
 · rw [getD_take0 l m 2 (by omega)]
 · rw [getD_take0 l m 3 (by omega)]
theorem pos_cons (l : Bs) (h : l ≠ []) : posFrom ⟨l.toArray⟩ l.length 0 = 0 :: (posFrom ⟨(l.drop (Utf8.decode ⟨l.toArray⟩ 0).2).toArray⟩ (l.drop (Utf8.decode ⟨l.toArray⟩ 0).2).length 0).map ((Utf8.decode ⟨l.toArray⟩ 0).2 + ·) := by
 obtain ⟨d, hd⟩ : ∃ d, d = (Utf8.decode ⟨l.toArray⟩ 0).2 := ⟨_, rfl⟩
 have hw := dec_w l h
 rw [← hd] at hw ⊢
 obtain ⟨n, hn⟩ : ∃ n, l.length = n + 1 := ⟨l.length - 1, by have : l.length ≠ 0 := fun e => h (List.eq_nil_of_length_eq_zero e); omega⟩
 rw [hn]
 simp only [posFrom, bsz]
 rw [if_pos (by omega), ← hd, Nat.zero_add, ← Nat.add_zero d, posFrom_add, Nat.add_zero, posFrom_fuel ⟨(l.drop d).toArray⟩ n (l.drop d).length 0 (by rw [bsz, List.length_drop]; omega) (by rw [bsz]; omega)]
theorem runS_step {l : Bs} (h : l ≠ []) (hk : (okB ⟨l.toArray⟩ 0 && eitB ((Utf8.decode ⟨l.toArray⟩ 0).1 : Int)) = true) : runS l = (Utf8.decode ⟨l.toArray⟩ 0).2 + runS (l.drop (Utf8.decode ⟨l.toArray⟩ 0).2) := by
 unfold runS; rw [whileE_cons l eitB h, if_pos hk]
theorem runS_stop {l : Bs} (h : l ≠ []) (hk : (okB ⟨l.toArray⟩ 0 && eitB ((Utf8.decode ⟨l.toArray⟩ 0).1 : Int)) = false) : runS l = 0 := by
 unfold runS; rw [whileE_cons l eitB h, hk]; rfl
theorem runS_le (l : Bs) : runS l ≤ l.length := whileE_le eitB _ l (Nat.le_refl _)
def WordAt (l : Bs) (k : Nat) : Prop := k ≤ runS l ∧ k + runS (l.drop k) = runS l ∧
 ∃ pre : List Nat, posFrom ⟨(l.take (runS l)).toArray⟩ (l.take (runS l)).length 0 = pre ++ (posFrom ⟨((l.take (runS l)).drop k).toArray⟩ ((l.take (runS l)).drop k).length 0).map (k + ·) ∧ ∀ x ∈ pre, x < k
theorem WordAt.zero (l : Bs) : WordAt l 0 := ⟨Nat.zero_le _, by simp, [], by simp, by simp⟩
theorem take_drop_run {l : Bs} {k : Nat} (h : k + runS (l.drop k) = runS l) : (l.take (runS l)).drop k = (l.drop k).take (runS (l.drop k)) := by
 rw [← h, List.drop_take]; congr 1; omega
theorem WordAt.step {l : Bs} {k : Nat} (h : WordAt l k) (hne : l.drop k ≠ []) (hk : (okB ⟨(l.drop k).toArray⟩ 0 && eitB ((Utf8.decode ⟨(l.drop k).toArray⟩ 0).1 : Int)) = true) :
   WordAt l (k + (Utf8.decode ⟨(l.drop k).toArray⟩ 0).2) ∧ (24 < k + (Utf8.decode ⟨(l.drop k).toArray⟩ 0).2 → k ≤ 24 → 24 < runS l ∧ longS (l.take (runS l)) = k) := by
 obtain ⟨h1, h2, pre, hp, hx⟩ := h
 have hst := runS_step hne hk
 obtain ⟨n, hn⟩ : ∃ n, n = (Utf8.decode ⟨(l.drop k).toArray⟩ 0).2 := ⟨_, rfl⟩
 have hok : okB ⟨(l.drop k).toArray⟩ 0 = true := by
   revert hk; cases okB ⟨(l.drop k).toArray⟩ 0 <;> simp
 have hn1 := dec_w (l.drop k) hne
 have hn2 := dec_le (l.drop k) hne
 rw [← hn] at hst hn1 hn2 ⊢
 rw [List.drop_drop] at hst
 have htd := take_drop_run h2
 have hdec : Utf8.decode ⟨((l.take (runS l)).drop k).toArray⟩ 0 = Utf8.decode ⟨(l.drop k).toArray⟩ 0 := by
   rw [htd]; exact dec_take hok (by rw [← hn]; omega) (by rw [← hn]; exact hn2) (by omega)
 have hne2 : (l.take (runS l)).drop k ≠ [] := by
   rw [htd]; intro e
   have := congrArg List.length e
   rw [List.length_take] at this
   simp only [List.length_nil] at this
   have := List.length_pos_iff.2 hne
   omega
 have hpc := pos_cons _ hne2
 rw [hdec, ← hn, List.drop_drop] at hpc
 have hall : posFrom ⟨(l.take (runS l)).toArray⟩ (l.take (runS l)).length 0 = (pre ++ [k]) ++ (posFrom ⟨((l.take (runS l)).drop (k + n)).toArray⟩ ((l.take (runS l)).drop (k + n)).length 0).map ((k + n) + ·) := by
   rw [hp, hpc]
   simp [List.map_map, Function.comp_def, Nat.add_assoc]
 refine ⟨⟨by omega, by omega, pre ++ [k], hall, fun x hxm => ?_⟩, fun h24 hk24 => ⟨by omega, ?_⟩⟩
 · rcases List.mem_append.1 hxm with hxm | hxm
   · have := hx x hxm; omega
   · obtain rfl : x = k := by simpa using hxm
     omega
 · unfold longS
   rw [hall, List.filter_append, filter_all _ (pre ++ [k]) (fun x hxm => ?_), filter_no _ _ (fun x hxm => ?_)]
   · simp
   · obtain ⟨y, _, rfl⟩ := List.mem_map.1 hxm
     exact decide_eq_false (by omega)
   · rcases List.mem_append.1 hxm with hxm | hxm
     · have := hx x hxm; exact decide_eq_true (by omega)
     · obtain rfl : x = k := by simpa using hxm
       exact decide_eq_true hk24
theorem digB_eq (b : UInt8) : digB b = true ↔ 48 ≤ b.toNat ∧ b.toNat ≤ 57 := by
 unfold digB
 rw [Bool.and_eq_true, decide_eq_true_eq, decide_eq_true_eq, UInt8.le_iff_toNat_le, UInt8.le_iff_toNat_le]; rfl
theorem begins_hd (b : UInt8) (t : Bs) : beginsS (b :: t) = letB (hdR (b :: t)) := by
 rw [hdR_eq (by simp)]
 unfold beginsS
 cases h : okB ⟨(b :: t).toArray⟩ 0
 · rw [if_neg (by simp)]; rfl
 · rw [if_pos rfl]; rfl
theorem let_no_num {c : Int} (h : letB c = true) : numB c = false := by
 unfold letB at h; unfold numB
 simp only [Bool.or_eq_true, Bool.and_eq_true, decide_eq_true_eq] at h
 simp only [Bool.and_eq_false_iff, decide_eq_false_iff_not]
 omega
theorem nameS_no {l : Bs} (hB : beginsS l = false) : nameS l = .error (l, 220) := by unfold nameS; rw [if_pos (by rw [hB]; simp)]
theorem nameS_long {l : Bs} (he : endsS l = false) (hB : beginsS l = true) (h : 24 < runS l) : nameS l = .error (l.drop (longS (l.take (runS l))), 220) := by
 unfold nameS; rw [if_neg (by rw [he, hB]; simp), if_pos h]
theorem nameS_ok {l : Bs} (he : endsS l = false) (hB : beginsS l = true) (h : runS l ≤ 24) : nameS l = .ok (l.take (runS l), l.drop (runS l)) := by
 unfold nameS; rw [if_neg (by rw [he, hB]; simp), if_neg (by omega)]
section
variable {w w' : World} {B b : Nat} {c : LnC} {n : LnS}
theorem must_true {l r : Bs} (h : mustS l = .ok r) : moreS l = .ok (true, r) := by
 unfold mustS at h
 cases hm : moreS l with
 | error x => rw [hm] at h; cases h
 | ok y =>
   obtain ⟨b, r'⟩ := y
   rw [hm] at h
   cases b
   · cases h
   · injection h with h; rw [h]
@[reducible] def put6 (w : World) (g : Nat) (c : LnC) : World := (((((w.setCell ⟨g, 0, none⟩ (.int .i64 c.kind)).setCell ⟨g, 1, none⟩ (.slice c.na c.nn c.nc)).setCell ⟨g, 2, none⟩ (.int .i64 c.lvl)).setCell ⟨g, 3, none⟩ (.slice c.va c.vn c.vc)).setCell ⟨g, 4, none⟩ (.bool c.first)).setCell ⟨g, 5, none⟩ (.int .i64 c.bits)
theorem put6_same (w : World) (g : Nat) (c : LnC) : Same (fun i => i ≠ g) w (put6 w g c) :=
 (((((Same.setCell _ _ _ _ (by simp)).tr (Same.setCell _ _ _ _ (by simp))).tr (Same.setCell _ _ _ _ (by simp))).tr (Same.setCell _ _ _ _ (by simp))).tr (Same.setCell _ _ _ _ (by simp))).tr (Same.setCell _ _ _ _ (by simp))
theorem LnAt.put6 {g : Nat} {c' : LnC} (h : LnAt w B c n) (h1 : ∀ i, (Value.slice c.na c.nn c.nc).ownBlock = some i → i ≠ g) (h2 : ∀ i, (Value.slice c.va c.vn c.vc).ownBlock = some i → i ≠ g) : LnAt (put6 w g c') B c n :=
 ⟨h.1, h.2.1.block fun i hi => (put6_same w g c').block i (h1 i hi) (h.2.1.lt i hi).2, h.2.2.block fun i hi => (put6_same w g c').block i (h2 i hi) (h.2.2.lt i hi).2⟩
end
theorem nameS_nb {l : Bs} (h : beginsS l = false) : nameS l = .error (l, 220) := by unfold nameS; rw [if_pos (by rw [h]; simp)]
theorem wc_guard (k : Nat) : ∀ x ∈ guardL.drop k, ∀ c ∈ x, wcB c = true := fun x hx => by
 have : ∀ x ∈ guardL, ∀ c ∈ x, wcB c = true := by decide
 exact this x (List.mem_of_mem_drop hx)
theorem wc_level : ∀ x ∈ levelL, ∀ c ∈ x, wcB c = true := by decide
theorem run_pos {b : UInt8} {t : Bs} (h : beginsS (b :: t) = true) : 0 < runS (b :: t) := by
 have hb : (okB ⟨(b :: t).toArray⟩ 0 && letB ((Utf8.decode ⟨(b :: t).toArray⟩ 0).1 : Int)) = true := by
   unfold beginsS at h
   simpa using h
 rw [Bool.and_eq_true] at hb
 have hw := dec_w (b :: t) (by simp)
 unfold runS
 rw [whileE_cons (b :: t) eitB (by simp), if_pos (by rw [hb.1]; unfold eitB; rw [hb.2]; rfl)]
 omega
theorem one_lt {ws : List Bs} {l r : Bs} {i : Nat} (h : oneS ws l = .ok (i, r)) : i < ws.length := by
 unfold oneS at h
 cases hf : ws.findIdx? (fun s => s == l.take (runR l)) with
 | none => rw [hf] at h; cases h
 | some j =>
   rw [hf] at h
   injection h with h; injection h with h _; subst h
   exact (List.findIdx?_eq_some_iff_findIdx_eq.1 hf).1
end Yd
