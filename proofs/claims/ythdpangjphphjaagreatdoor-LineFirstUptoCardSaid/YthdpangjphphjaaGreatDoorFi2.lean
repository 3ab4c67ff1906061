import Derived.Test.YthdpangjphphjaaGreatDoorFi1
import Derived.Test.YthdpangjphphjaaGreatDoorProg
set_option maxRecDepth 200000
set_option maxHeartbeats 8000000
namespace Yd
open Go Go.RowKit Go.Proofs

/-! One of some words. -/
theorem comm_leF : ∀ a b : Bs, commS a b ≤ b.length
 | [], b => by simp [commS]
 | a :: x, [] => by simp [commS]
 | a :: x, b :: y => by
   rw [commS]
   split
   · have := comm_leF x y; simp; omega
   · exact Nat.zero_le _
theorem comm_take : ∀ (w st : Bs) (j : Nat), j ≤ commS w st → commS w (st.take j) = j
 | [], st, j, h => by
   have h0 : commS [] st = 0 := by simp [commS]
   obtain rfl : j = 0 := by omega
   simp [commS]
 | a :: w, [], j, h => by
   have h0 : commS (a :: w) [] = 0 := by simp [commS]
   obtain rfl : j = 0 := by omega
   simp [commS]
 | a :: w, b :: st, 0, h => by simp [commS]
 | a :: w, b :: st, j + 1, h => by
   rw [commS] at h
   rw [List.take_succ_cons, commS]
   by_cases e : a = b
   · rw [if_pos e] at h ⊢
     rw [comm_take w st j (by omega)]
   · rw [if_neg e] at h; omega
theorem comm_more : ∀ (w st : Bs) (m : Nat) (z : Bs), commS w st ≤ m → m < st.length → commS w (st.take (m + 1) ++ z) = commS w st
 | [], st, m, z, _, _ => by simp [commS]
 | a :: w, [], m, z, _, h => by simp at h
 | a :: w, b :: st, m, z, h, hm => by
   rw [List.take_succ_cons, List.cons_append]
   rw [commS] at h ⊢
   rw [commS]
   by_cases e : a = b
   · rw [if_pos e] at h
     rw [if_pos e, if_pos e]
     obtain ⟨m', rfl⟩ : ∃ m', m = m' + 1 := ⟨m - 1, by omega⟩
     rw [comm_more w st m' z (by omega) (by simpa using hm)]
   · rw [if_neg e, if_neg e]
theorem comm_self : ∀ w : Bs, commS w w = w.length
 | [] => by simp [commS]
 | a :: w => by rw [commS, if_pos rfl, comm_self w]; rfl
theorem fold_far (t : Bs) : ∀ (ws : List Bs) (m : Nat), m ≤ ws.foldl (fun m s => max m (commS s t)) m ∧ (∀ s ∈ ws, commS s t ≤ ws.foldl (fun m s => max m (commS s t)) m) ∧ (ws.foldl (fun m s => max m (commS s t)) m = m ∨ ∃ s ∈ ws, commS s t = ws.foldl (fun m s => max m (commS s t)) m)
 | [], m => ⟨Nat.le_refl _, by simp, .inl rfl⟩
 | w :: ws, m => by
   obtain ⟨h1, h2, h3⟩ := fold_far t ws (max m (commS w t))
   rw [List.foldl_cons]
   refine ⟨by omega, fun s hs => ?_, ?_⟩
   · rcases List.mem_cons.1 hs with rfl | hs
     · omega
     · exact h2 s hs
   · rcases h3 with h3 | ⟨s, hs, h3⟩
     · rw [h3]
       rcases Nat.le_total m (commS w t) with h | h
       · right; exact ⟨w, List.mem_cons_self, by omega⟩
       · left; omega
     · exact .inr ⟨s, List.mem_cons_of_mem _ hs, h3⟩
theorem far_ge {ws : List Bs} {t s : Bs} (h : s ∈ ws) : commS s t ≤ farS ws t := (fold_far t ws 0).2.1 s h
theorem far_att (ws : List Bs) (t : Bs) : farS ws t = 0 ∨ ∃ s ∈ ws, commS s t = farS ws t := (fold_far t ws 0).2.2
theorem far_leF (ws : List Bs) (t : Bs) : farS ws t ≤ t.length := by
 rcases far_att ws t with h | ⟨s, _, h⟩
 · omega
 · rw [← h]; exact comm_leF s t
theorem far_congr {t t' : Bs} : ∀ (ws : List Bs), (∀ s ∈ ws, commS s t = commS s t') → farS ws t = farS ws t' := by
 have : ∀ (ws : List Bs) (m : Nat), (∀ s ∈ ws, commS s t = commS s t') → ws.foldl (fun m s => max m (commS s t)) m = ws.foldl (fun m s => max m (commS s t')) m := by
   intro ws
   induction ws with
   | nil => intros; rfl
   | cons w ws ih =>
     intro m h
     rw [List.foldl_cons, List.foldl_cons, h w List.mem_cons_self]
     exact ih _ (fun s hs => h s (List.mem_cons_of_mem _ hs))
 intro ws h
 exact this ws 0 h
theorem stretch_app {u r : Bs} (hu : ∀ c ∈ u, wcB c = true) (hr : ∀ c, r.head? = some c → wcB c = false) : stretchS (u ++ r) = u := by
 unfold stretchS
 rw [List.takeWhile_append_of_pos hu]
 cases r with
 | nil => simp
 | cons c t => rw [List.takeWhile_cons, hr c rfl]; simp
theorem whole_app {u r : Bs} (hu : ∀ c ∈ u, wcB c = true) (hr : ∀ c, r.head? = some c → wcB c = false ∧ c.toNat < 128) : wholeS (u ++ r) = u := by
 have hs := stretch_app hu (fun c hc => (hr c hc).1)
 unfold wholeS
 rw [hs, List.drop_left]
 cases r with
 | nil => rfl
 | cons c t =>
   simp only [List.head?_cons]
   have := (hr c rfl).2
   rw [if_neg (by rw [UInt8.le_iff_toNat_le]; show ¬ (128 ≤ c.toNat); omega)]
theorem whole_or (l : Bs) : wholeS l = stretchS l ∨ wholeS l = stretchS l ++ [128] := by
 unfold wholeS
 split
 · split
   · exact .inr rfl
   · exact .inl rfl
 · exact .inl rfl
theorem find_mem {ws : List Bs} {x : Bs} {i : Nat} (h : ws.findIdx? (fun s => s == x) = some i) : x ∈ ws := by
 obtain ⟨hi, he, _⟩ := List.findIdx?_eq_some_iff_getElem.1 h
 have := eq_of_beq he
 rw [← this]; exact List.getElem_mem hi
theorem find_no {ws : List Bs} {x : Bs} (h : x ∉ ws) : ws.findIdx? (fun s => s == x) = none :=
 List.findIdx?_eq_none_iff.2 fun s hs => by
   cases hb : s == x
   · rfl
   · exact absurd (eq_of_beq hb ▸ hs) h
theorem find_in {ws : List Bs} {x : Bs} (h : ws.findIdx? (fun s => s == x) = none) : x ∉ ws := fun hx => by
 have := List.findIdx?_eq_none_iff.1 h x hx
 simp at this
theorem word_law {ws : List Bs} (hw : ∀ w ∈ ws, ∀ c ∈ w, wcB c = true) (l : Bs) : LawB (wordS ws) l := fun _ => by
 obtain ⟨st, hst⟩ : ∃ st, st = stretchS l := ⟨_, rfl⟩
 have hsw : ∀ c ∈ st, wcB c = true := by rw [hst]; exact twl_all wcB l
 have hdr : l.drop st.length = l.dropWhile wcB := by
   have h1 : l = st ++ l.dropWhile wcB := by rw [hst]; exact (List.takeWhile_append_dropWhile).symm
   rw [show l.drop st.length = (st ++ l.dropWhile wcB).drop st.length by rw [← h1], List.drop_left]
 have hsp : l = st ++ l.drop st.length := by rw [hdr, hst]; exact (List.takeWhile_append_dropWhile).symm
 have hhd : ∀ c, (l.drop st.length).head? = some c → wcB c = false := fun c hc => dw_hd wcB l c (by rw [← hdr]; exact hc)
 have h128 : ∀ w ∈ ws, ∀ u : Bs, w ≠ u ++ [128] := fun w hm u e => by
   have := hw w hm 128 (by rw [e]; simp)
   exact absurd this (by decide)
 have hpre : ∀ b, b <+: st.take (farS ws st) → EndR (wordS ws b) := fun b hb => by
   have hbw : ∀ c ∈ b, wcB c = true := fun c hc => hsw c (List.mem_of_mem_take (hb.subset hc))
   have hbs : stretchS b = b := by have := stretch_app (u := b) (r := []) hbw (by simp); rwa [List.append_nil] at this
   have hbo : wholeS b = b := by have := whole_app (u := b) (r := []) hbw (by simp); rwa [List.append_nil] at this
   unfold wordS
   rw [hbs, hbo]
   cases hf : ws.findIdx? (fun s => s == b) with
   | some i => exact .inl ⟨i, by simp⟩
   | none =>
     right
     have hfar : b.length ≤ farS ws b := by
       rcases far_att ws st with h0 | ⟨s, hs, h0⟩
       · rw [h0] at hb
         have : b = [] := List.prefix_nil.1 (by simpa using hb)
         subst this; exact Nat.zero_le _
       · have hbl := hb.length_le
         rw [List.length_take] at hbl
         have hbe : b = st.take b.length := by
           have := List.prefix_iff_eq_take.1 (hb.trans (List.take_prefix _ _)); exact this
         have := comm_take s st b.length (by omega)
         rw [← hbe] at this
         have := far_ge (t := b) hs
         omega
     simp only []
     rw [List.drop_eq_nil_of_le hfar]
 cases hf : ws.findIdx? (fun s => s == wholeS l) with
 | some i =>
   have hm := find_mem hf
   have hwo : wholeS l = st := by
     rcases whole_or l with h | h
     · rw [h, hst]
     · exact absurd h (h128 _ hm _)
   have hres : wordS ws l = .ok (i, l.drop st.length) := by unfold wordS; rw [hf, ← hst]
   rw [hres]
   refine ⟨st, hsp, fun c x hc hc2 => ?_, fun b hb _ => hpre b ?_⟩
   · have hc1 := hhd c hc
     unfold wordS
     rw [whole_app hsw (by intro d hd; obtain rfl : c = d := Option.some.inj hd; exact ⟨hc1, hc2⟩), stretch_app hsw (by intro d hd; obtain rfl : c = d := Option.some.inj hd; exact hc1), ← hwo, hf, hwo, List.drop_left]
     rfl
   · have : st.length ≤ farS ws st := by
       have := far_ge (t := st) (hwo ▸ hm)
       rwa [comm_self] at this
     rwa [List.take_of_length_le this]
 | none =>
   have hres : wordS ws l = .error (l.drop (farS ws st), 220) := by unfold wordS; rw [hf, ← hst]
   have hno := find_in hf
   have hfl := far_leF ws st
   have htk : l.take (farS ws st) = st.take (farS ws st) := by
     rw [hsp, List.take_append_of_le_length hfl]
   rw [hres]
   refine ⟨l.take (farS ws st), (List.take_append_drop _ _).symm, fun c x hc hc2 => ?_, fun b hb _ => hpre b (by rw [← htk]; exact hb)⟩
   have hc' : (l.drop (farS ws st)).head? = some c := hc
   rw [htk]
   rcases Nat.lt_or_ge (farS ws st) st.length with hlt | hge
   · -- within the stretch
     have hcs : st.take (farS ws st + 1) = st.take (farS ws st) ++ [c] := by
       have h1 : (st.drop (farS ws st)).head? = some c := by
         rw [hsp, List.drop_append_of_le_length (Nat.le_of_lt hlt)] at hc'
         cases hq : st.drop (farS ws st) with
         | nil => have := congrArg List.length hq; simp at this; omega
         | cons d z => rw [hq] at hc'; exact hc'
       rw [List.take_add_one]
       congr 1
       rw [List.head?_drop] at h1
       rw [h1]; rfl
     have hcw : wcB c = true := hsw c (List.mem_of_mem_take (i := farS ws st + 1) (by rw [hcs]; simp))
     have hspl : st.take (farS ws st) ++ c :: x = (st.take (farS ws st + 1) ++ x.takeWhile wcB) ++ x.dropWhile wcB := by
       rw [hcs, List.append_assoc, List.takeWhile_append_dropWhile]; simp
     have huw : ∀ d ∈ st.take (farS ws st + 1) ++ x.takeWhile wcB, wcB d = true := fun d hd => by
       rcases List.mem_append.1 hd with hd | hd
       · exact hsw d (List.mem_of_mem_take hd)
       · exact twl_all wcB x d hd
     have hs2 := stretch_app (r := x.dropWhile wcB) huw (fun d hd => dw_hd wcB x d hd)
     rw [← hspl] at hs2
     have hcm : ∀ s ∈ ws, commS s (st.take (farS ws st + 1) ++ x.takeWhile wcB) = commS s st := fun s hs => comm_more s st _ _ (far_ge hs) hlt
     have hfar2 := far_congr ws hcm
     have hl2 : (st.take (farS ws st + 1) ++ x.takeWhile wcB).length ≥ farS ws st + 1 := by rw [List.length_append, List.length_take]; omega
     have hno2 : wholeS (st.take (farS ws st) ++ c :: x) ∉ ws := fun hm => by
       rcases whole_or (st.take (farS ws st) ++ c :: x) with h | h
       · rw [h, hs2] at hm
         have h1 := hcm _ hm
         rw [comm_self] at h1
         have := far_ge (t := st) hm
         omega
       · exact h128 _ hm _ h
     unfold wordS
     rw [find_no hno2, hs2, hfar2]
     have hlt2 : (st.take (farS ws st)).length = farS ws st := by rw [List.length_take]; omega
     show Except.error ((st.take (farS ws st) ++ c :: x).drop (farS ws st), (220 : Int)) = Except.error (c :: x, 220)
     have : (st.take (farS ws st) ++ c :: x).drop (farS ws st) = c :: x := by
       have := List.drop_left (l₁ := st.take (farS ws st)) (l₂ := c :: x)
       rwa [hlt2] at this
     rw [this]
   · -- at the stretch's end
     have he : farS ws st = st.length := by omega
     rw [he] at hc'
     have hcw := hhd c hc'
     have htl : st.take (farS ws st) = st := List.take_of_length_le hge
     have hwo : wholeS l = st := by
       rw [hsp]
       refine whole_app hsw (fun d hd => ?_)
       rw [hc'] at hd
       obtain rfl : c = d := Option.some.inj hd
       exact ⟨hcw, hc2⟩
     rw [htl]
     unfold wordS
     rw [whole_app hsw (by intro d hd; obtain rfl : c = d := Option.some.inj hd; exact ⟨hcw, hc2⟩), stretch_app hsw (by intro d hd; obtain rfl : c = d := Option.some.inj hd; exact hcw), find_no (hwo ▸ hno), he, List.drop_left]
     rfl
theorem word_nil {ws : List Bs} (h : [] ∉ ws) : wordS ws [] = .error ([], 220) := by
 unfold wordS
 rw [show wholeS [] = [] from rfl, find_no h]
 simp
/-! A name. -/
theorem run_cut (p : Int → Bool) : ∀ (n : Nat) (b r : Bs), b.length ≤ n → b.length ≤ whileE ⟨(b ++ r).toArray⟩ p → NoCut b → whileE ⟨b.toArray⟩ p = b.length
 | 0, b, r, hn, _, _ => by
   have : b = [] := List.length_eq_zero_iff.1 (by omega)
   subst this; rfl
 | n + 1, b, r, hn, hle, hc => by
   by_cases h0 : b = []
   · subst h0; rfl
   · have hpos := List.length_pos_iff.2 h0
     rw [whileE_cons (b ++ r) p (by simp [h0])] at hle
     by_cases hk : (okB ⟨(b ++ r).toArray⟩ 0 && p ((Utf8.decode ⟨(b ++ r).toArray⟩ 0).1 : Int)) = true
     · rw [if_pos hk] at hle
       rw [Bool.and_eq_true] at hk
       have hw := hc 0 hpos r (by rw [List.drop_zero]; exact hk.1)
       rw [List.drop_zero] at hw
       have hd := dec_cut b r h0 hk.1 hw
       rw [← hd] at hle hk hw
       have h1 := dec_w b h0
       rw [List.drop_append_of_le_length hw] at hle
       have hok : okB ⟨b.toArray⟩ 0 = true := by unfold okB; rw [hd]; exact hk.1
       rw [whileE_cons b p h0, hok, hk.2, if_pos (show (true && true) = true from rfl)]
       have hsuf : NoCut (b.drop (Utf8.decode ⟨b.toArray⟩ 0).2) := by
         have : b = b.take (Utf8.decode ⟨b.toArray⟩ 0).2 ++ b.drop (Utf8.decode ⟨b.toArray⟩ 0).2 := (List.take_append_drop _ _).symm
         rw [this] at hc; exact hc.suf
       rw [run_cut p n (b.drop (Utf8.decode ⟨b.toArray⟩ 0).2) r (by rw [List.length_drop]; omega) (by rw [List.length_drop]; omega) hsuf, List.length_drop]
       omega
     · rw [if_neg hk] at hle; omega
theorem whileE_cat (p : Int → Bool) : ∀ (n : Nat) (w r : Bs), w.length ≤ n → whileE ⟨w.toArray⟩ p = w.length → whileE ⟨(w ++ r).toArray⟩ p = w.length + whileE ⟨r.toArray⟩ p
 | 0, w, r, hn, _ => by
   have : w = [] := List.length_eq_zero_iff.1 (by omega)
   subst this; simp
 | n + 1, w, r, hn, hw => by
   by_cases h0 : w = []
   · subst h0; simp
   · have hpos : 0 < w.length := List.length_pos_iff.2 h0
     rw [whileE_cons w p h0] at hw
     by_cases hc : (okB ⟨w.toArray⟩ 0 && p ((Utf8.decode ⟨w.toArray⟩ 0).1 : Int)) = true
     · rw [if_pos hc] at hw
       rw [Bool.and_eq_true] at hc
       have hd := dec_app w r h0 hc.1
       have h1 := dec_w w h0
       have h2 := dec_le w h0
       rw [whileE_cons (w ++ r) p (by simp [h0]), hd, ok_app w r h0 hc.1, hc.2, if_pos (show (true && true) = true from rfl), List.drop_append_of_le_length h2]
       rw [whileE_cat p n (w.drop (Utf8.decode ⟨w.toArray⟩ 0).2) r (by rw [List.length_drop]; omega) (by rw [List.length_drop]; omega), List.length_drop]
       omega
     · rw [if_neg hc] at hw; omega
theorem whileE_ge (p : Int → Bool) (w r : Bs) (hw : whileE ⟨w.toArray⟩ p = w.length) : w.length ≤ whileE ⟨(w ++ r).toArray⟩ p := by
 rw [whileE_cat p _ w r (Nat.le_refl _) hw]; omega
theorem whileE_stop_at (p : Int → Bool) : ∀ (n : Nat) (l : Bs), l.length ≤ n → whileE ⟨(l.drop (whileE ⟨l.toArray⟩ p)).toArray⟩ p = 0
 | 0, l, hn => by
   have : l = [] := List.length_eq_zero_iff.1 (by omega)
   subst this; rfl
 | n + 1, l, hn => by
   by_cases h0 : l = []
   · subst h0; rfl
   · have hw := whileE_cons l p h0
     by_cases hc : (okB ⟨l.toArray⟩ 0 && p ((Utf8.decode ⟨l.toArray⟩ 0).1 : Int)) = true
     · rw [if_pos hc] at hw
       have h1 := dec_w l h0
       rw [hw, ← List.drop_drop]
       exact whileE_stop_at p n _ (by rw [List.length_drop]; omega)
     · rw [if_neg hc] at hw
       rw [hw]; exact hw
theorem pos_run : ∀ (n : Nat) (w : Bs), w.length ≤ n → whileE ⟨w.toArray⟩ eitB = w.length → ∀ q ∈ posFrom ⟨w.toArray⟩ w.length 0, q < w.length ∧ whileE ⟨(w.take q).toArray⟩ eitB = q
 | 0, w, hn, _, q, hq => by
   have : w = [] := List.length_eq_zero_iff.1 (by omega)
   subst this; simp [posFrom] at hq
 | n + 1, w, hn, hw, q, hq => by
   by_cases h0 : w = []
   · subst h0; simp [posFrom] at hq
   · have hpos := List.length_pos_iff.2 h0
     rw [whileE_cons w eitB h0] at hw
     by_cases hc : (okB ⟨w.toArray⟩ 0 && eitB ((Utf8.decode ⟨w.toArray⟩ 0).1 : Int)) = true
     · rw [if_pos hc] at hw
       rw [Bool.and_eq_true] at hc
       rw [pos_cons w h0] at hq
       have h1 := dec_w w h0
       have h2 := dec_le w h0
       obtain ⟨d, hd⟩ : ∃ d, d = (Utf8.decode ⟨w.toArray⟩ 0).2 := ⟨_, rfl⟩
       rw [← hd] at hw hq h1 h2
       rcases List.mem_cons.1 hq with rfl | hq
       · exact ⟨hpos, rfl⟩
       · obtain ⟨y, hy, rfl⟩ := List.mem_map.1 hq
         have ih := pos_run n (w.drop d) (by rw [List.length_drop]; omega) (by rw [List.length_drop]; omega) y hy
         rw [List.length_drop] at ih
         refine ⟨by omega, ?_⟩
         have hsp : w = w.take (d + y) ++ w.drop (d + y) := (List.take_append_drop _ _).symm
         have htl : (w.take (d + y)).length = d + y := by rw [List.length_take]; omega
         have htn : w.take (d + y) ≠ [] := by intro e; rw [e] at htl; simp at htl; omega
         have hdec : Utf8.decode ⟨(w.take (d + y)).toArray⟩ 0 = Utf8.decode ⟨w.toArray⟩ 0 := by
           have := dec_cut (w.take (d + y)) (w.drop (d + y)) htn (by rw [← hsp]; exact hc.1) (by rw [← hsp, ← hd, htl]; omega)
           rw [← hsp] at this; exact this
         have hok2 : okB ⟨(w.take (d + y)).toArray⟩ 0 = true := by unfold okB; rw [hdec]; exact hc.1
         rw [whileE_cons _ eitB htn, hok2, hdec, hc.2, if_pos (show (true && true) = true from rfl), ← hd]
         have : (w.take (d + y)).drop d = (w.drop d).take y := by rw [List.drop_take]; congr 1; omega
         rw [this, ih.2]
     · rw [if_neg hc] at hw; omega
theorem long_mem {w : Bs} (hw : w ≠ []) : longS w ∈ posFrom ⟨w.toArray⟩ w.length 0 := by
 have h0 : 0 ∈ (posFrom ⟨w.toArray⟩ w.length 0).filter (fun i => decide (i ≤ 24)) := by
   rw [pos_cons w hw]; simp
 unfold longS
 cases h : ((posFrom ⟨w.toArray⟩ w.length 0).filter (fun i => decide (i ≤ 24))).getLast? with
 | none => rw [List.getLast?_eq_none_iff] at h; rw [h] at h0; cases h0
 | some x =>
   have := List.mem_of_getLast? h
   exact (List.mem_filter.1 this).1
theorem pos_up (s : ByteArray) : ∀ (n p : Nat), (posFrom s n p).Pairwise (· < ·)
 | 0, _ => by simp [posFrom]
 | n + 1, p => by
   simp only [posFrom]
   split
   · rename_i h
     have hw := width_pos s p h
     refine List.pairwise_cons.2 ⟨fun x hx => ?_, pos_up s n _⟩
     have := posFrom_ge s n _ x hx
     omega
   · exact List.Pairwise.nil
theorem long_max {w : Bs} : ∀ y ∈ (posFrom ⟨w.toArray⟩ w.length 0).filter (fun i => decide (i ≤ 24)), y ≤ longS w := fun y hy => by
 have hs := (pos_up ⟨w.toArray⟩ w.length 0).filter (fun i => decide (i ≤ 24))
 unfold longS
 cases h : ((posFrom ⟨w.toArray⟩ w.length 0).filter (fun i => decide (i ≤ 24))).getLast? with
 | none => rw [List.getLast?_eq_none_iff] at h; rw [h] at hy; cases hy
 | some x =>
   obtain ⟨ys, he⟩ := List.getLast?_eq_some_iff.1 h
   rw [he] at hs hy
   show y ≤ x
   rcases List.mem_append.1 hy with hy | hy
   · exact Nat.le_of_lt ((List.pairwise_append.1 hs).2.2 y hy x (by simp))
   · have : y = x := by simpa using hy
     omega
theorem WordAt.run (l : Bs) : ∀ (n : Nat) (k : Nat), (l.drop k).length ≤ n → WordAt l k → ∀ m, whileE ⟨((l.drop k).take m).toArray⟩ eitB = m → WordAt l (k + m)
 | 0, k, hn, h, m, hm => by
   have : l.drop k = [] := List.length_eq_zero_iff.1 (by omega)
   rw [this] at hm
   have : m = 0 := by rw [← hm]; simp; rfl
   subst this; exact h
 | n + 1, k, hn, h, m, hm => by
   by_cases h0 : m = 0
   · subst h0; exact h
   · have hwl := whileE_le eitB _ ((l.drop k).take m) (Nat.le_refl _)
     rw [hm] at hwl
     have hne : (l.drop k).take m ≠ [] := by intro e; rw [e] at hwl; simp at hwl; omega
     have hne2 : l.drop k ≠ [] := by intro e; rw [e] at hne; simp at hne
     have hlen : ((l.drop k).take m).length = m := by rw [List.length_take] at hwl ⊢; omega
     rw [whileE_cons _ eitB hne] at hm
     by_cases hc : (okB ⟨((l.drop k).take m).toArray⟩ 0 && eitB ((Utf8.decode ⟨((l.drop k).take m).toArray⟩ 0).1 : Int)) = true
     · rw [if_pos hc] at hm
       rw [Bool.and_eq_true] at hc
       have hda : Utf8.decode ⟨(l.drop k).toArray⟩ 0 = Utf8.decode ⟨((l.drop k).take m).toArray⟩ 0 := by
         have := dec_app ((l.drop k).take m) ((l.drop k).drop m) hne hc.1
         rwa [List.take_append_drop] at this
       have hoa : okB ⟨(l.drop k).toArray⟩ 0 = true := by unfold okB; rw [hda]; exact hc.1
       have h1 := dec_w _ hne
       have h2 := dec_le _ hne
       rw [hlen] at h2
       have hst := (h.step hne2 (by rw [hoa, hda, hc.2]; rfl)).1
       rw [hda] at hst
       obtain ⟨d, hd⟩ : ∃ d, d = (Utf8.decode ⟨((l.drop k).take m).toArray⟩ 0).2 := ⟨_, rfl⟩
       rw [← hd] at hm h1 h2 hst
       have e : ((l.drop k).take m).drop d = (l.drop (k + d)).take (m - d) := by rw [List.drop_take, List.drop_drop]
       rw [e] at hm
       have := WordAt.run l n (k + d) (by rw [List.length_drop] at hn ⊢; omega) hst (m - d) (by omega)
       rwa [show k + d + (m - d) = k + m by omega] at this
     · rw [if_neg hc] at hm; omega
theorem begins_of_run {b : UInt8} {t r : Bs} (hB : beginsS (b :: t ++ r) = true) (hr : whileE ⟨(b :: t).toArray⟩ eitB = (b :: t).length) : beginsS (b :: t) = true := by
 have h0 : (b :: t : Bs) ≠ [] := by simp
 rw [whileE_cons (b :: t) eitB h0] at hr
 have hc : (okB ⟨(b :: t).toArray⟩ 0 && eitB ((Utf8.decode ⟨(b :: t).toArray⟩ 0).1 : Int)) = true := by
   apply Classical.byContradiction
   intro hno
   rw [if_neg hno] at hr; simp at hr
 rw [Bool.and_eq_true] at hc
 unfold beginsS at hB ⊢
 simp only [Bool.and_eq_true] at hB ⊢
 refine ⟨by simp, hc.1, ?_⟩
 have := dec_app (b :: t) r h0 hc.1
 rw [← this]; exact hB.2.2
theorem name_pre {l b : Bs} (hB : beginsS l = true) (hb : b <+: l.take (runS l)) (h24 : b.length ≤ 24) (hn : NoCut b) : EndR (nameS b) := by
 cases b with
 | nil => exact .inr rfl
 | cons c t =>
   obtain ⟨r, hr⟩ := hb.trans (List.take_prefix _ _)
   have hlen : (c :: t).length ≤ runS l := by have := hb.length_le; rw [List.length_take] at this; omega
   have hrun : whileE ⟨(c :: t).toArray⟩ eitB = (c :: t).length := run_cut eitB _ (c :: t) r (Nat.le_refl _) (by rw [hr]; exact hlen) hn
   have hB2 : beginsS (c :: t) = true := begins_of_run (r := r) (by rw [hr]; exact hB) hrun
   left
   refine ⟨c :: t, ?_⟩
   have hrs : runS (c :: t) = (c :: t).length := hrun
   rw [nameS_ok (begins_ends hB2).1 hB2 (by rw [hrs]; exact h24), hrs, List.take_length, List.drop_length]
theorem begins_lo (c : UInt8) (t x : Bs) (h : c.toNat < 128) : beginsS (c :: t) = beginsS (c :: x) := by
 rw [begins_hd, begins_hd, (hd_lo t h).1, (hd_lo x h).1]
theorem name_law (l : Bs) : LawB nameS l := fun _ => by
 by_cases h1 : (endsS l || !beginsS l) = true
 · have hr : ∀ y, (endsS y || !beginsS y) = true → nameS y = .error (y, 220) := fun y hy => by unfold nameS; rw [if_pos hy]
   rw [hr l h1]
   refine ⟨[], rfl, fun c x hc hc2 => ?_, fun b hb _ => ?_⟩
   · have hlc : l.head? = some c := hc
     cases l with
     | nil => cases hlc
     | cons d t =>
       obtain rfl : d = c := Option.some.inj hlc
       refine hr _ ?_
       rw [List.nil_append, ends_head (y := d :: x) (z := d :: t) rfl, begins_lo d x t hc2]; exact h1
   · have : b = [] := List.prefix_nil.1 hb
     subst this; exact .inr rfl
 · have hE : endsS l = false := by cases hq : endsS l; rfl; rw [hq] at h1; simp at h1
   have hB : beginsS l = true := by cases hq : beginsS l; rw [hq] at h1; simp at h1; rfl
   have hrl := runS_le l
   by_cases h2 : 24 < runS l
   · rw [nameS_long hE hB h2]
     obtain ⟨p, hp⟩ : ∃ p, p = longS (l.take (runS l)) := ⟨_, rfl⟩
     have hp24 : p ≤ 24 := by rw [hp]; exact longS_le _
     rw [← hp]
     have hrt : whileE ⟨(l.take (runS l)).toArray⟩ eitB = (l.take (runS l)).length := by rw [List.length_take, Nat.min_eq_left hrl]; exact whileE_take eitB _ l (Nat.le_refl _)
     have hne : l.take (runS l) ≠ [] := by intro e; have := congrArg List.length e; rw [List.length_take, List.length_nil] at this; omega
     have hpr := pos_run _ (l.take (runS l)) (Nat.le_refl _) hrt p (by rw [hp]; exact long_mem hne)
     rw [List.length_take, List.take_take] at hpr
     have hpl : p ≤ runS l := by have := hpr.1; omega
     refine ⟨l.take p, (List.take_append_drop _ _).symm, fun c x hc hc2 => ?_, fun b hb hn => name_pre hB (hb.trans (List.take_prefix_take_left hpl)) (by have := hb.length_le; rw [List.length_take] at this; omega) hn⟩
     have hc' : (l.drop p).head? = some c := hc
     have hmin : min p (runS l) = p := by omega
     rw [hmin] at hpr
     have htl : (l.take p).length = p := by rw [List.length_take]; omega
     have hwp : whileE ⟨(l.take p).toArray⟩ eitB = p := hpr.2
     -- the rune at p is a byte
     have hWA : WordAt l p := by
       have := WordAt.run l _ 0 (Nat.le_refl _) (WordAt.zero l) p (by rw [List.drop_zero]; exact hwp)
       rwa [Nat.zero_add] at this
     cases hdp : l.drop p with
     | nil => rw [hdp] at hc'; cases hc'
     | cons d z =>
       rw [hdp] at hc'
       obtain rfl : d = c := Option.some.inj hc'
       have hk : (okB ⟨(l.drop p).toArray⟩ 0 && eitB ((Utf8.decode ⟨(l.drop p).toArray⟩ 0).1 : Int)) = true := by
         apply Classical.byContradiction
         intro hno
         have := runS_stop (l := l.drop p) (by rw [hdp]; simp) (by simpa using hno)
         have := hWA.2.1
         omega
       have hed : eitB (d.toNat : Int) = true := by
         rw [hdp, dec_lo d z hc2, Bool.and_eq_true] at hk; exact hk.2
       have hst := hWA.step (by rw [hdp]; simp) hk
       rw [hdp, dec_lo d z hc2] at hst
       have hp0 : p = 24 := by
         apply Classical.byContradiction
         intro hne24
         -- then p + 1 were a rune's place too
         have hW2 : WordAt l (p + 1) := hst.1
         have hlt : p + 1 < runS l := by omega
         have hne3 : l.drop (p + 1) ≠ [] := by intro e; have := congrArg List.length e; simp at this; omega
         have hk3 : (okB ⟨(l.drop (p + 1)).toArray⟩ 0 && eitB ((Utf8.decode ⟨(l.drop (p + 1)).toArray⟩ 0).1 : Int)) = true := by
           apply Classical.byContradiction
           intro hno
           have := runS_stop (l := l.drop (p + 1)) hne3 (by simpa using hno)
           have := hW2.2.1
           omega
         have hmem : p + 1 ∈ (posFrom ⟨(l.take (runS l)).toArray⟩ (l.take (runS l)).length 0).filter (fun i => decide (i ≤ 24)) := by
           obtain ⟨_, h22, pre, hpre, _⟩ := hW2
           refine List.mem_filter.2 ⟨?_, decide_eq_true (by omega)⟩
           rw [hpre, pos_cons _ (by rw [take_drop_run h22]; intro e; have := congrArg List.length e; rw [List.length_take, List.length_drop] at this; simp only [List.length_nil] at this; omega)]
           simp
         -- .. and the last of them is p
         have hsort : ∀ y ∈ (posFrom ⟨(l.take (runS l)).toArray⟩ (l.take (runS l)).length 0).filter (fun i => decide (i ≤ 24)), y ≤ p := fun y hy => by
           rw [hp]; exact long_max y hy
         have := hsort _ hmem
         omega
       subst hp0
       have hl25 : whileE ⟨(l.take 24 ++ [d]).toArray⟩ eitB = (l.take 24 ++ [d]).length := by
         have h1 : whileE ⟨([d] : Bs).toArray⟩ eitB = 1 := by
           rw [whileE_cons [d] eitB (by simp), ok_lo d [] hc2, dec_lo d [] hc2, hed]; rfl
         have hge := whileE_cat eitB _ (l.take 24) [d] (Nat.le_refl _) (by rw [hwp, htl])
         rw [hge, htl, h1, List.length_append, htl]; rfl
       have hrun2 : 24 < runS (l.take 24 ++ d :: x) := by
         have := whileE_ge eitB (l.take 24 ++ [d]) x hl25
         rw [List.length_append, htl, List.append_assoc] at this
         have e : ([d] : Bs) ++ x = d :: x := rfl
         rw [e] at this
         unfold runS
         simp at this ⊢; omega
       have hB2 : beginsS (l.take 24 ++ d :: x) = true := by
         have hcn : l.take 24 ≠ [] := by intro e; rw [e] at htl; simp at htl
         refine begins_app hcn ?_
         cases hq : l.take 24 with
         | nil => exact absurd hq hcn
         | cons b t =>
           refine begins_of_run (r := l.drop 24) (by rw [← hq, List.take_append_drop]; exact hB) ?_
           rw [← hq, hwp, htl]
       have hE2 : endsS (l.take 24 ++ d :: x) = false := by
         cases hq : l.take 24 ++ d :: x with
         | nil => simp at hq
         | cons b t => rw [hq] at hB2; exact (begins_ends hB2).1
       have hWB : WordAt (l.take 24 ++ d :: x) 24 := by
         have := WordAt.run (l.take 24 ++ d :: x) _ 0 (Nat.le_refl _) (WordAt.zero _) 24 (by rw [List.drop_zero, List.take_append_of_le_length (by omega), List.take_take, Nat.min_self]; exact hwp)
         rwa [Nat.zero_add] at this
       have hdr : (l.take 24 ++ d :: x).drop 24 = d :: x := by
         have := List.drop_left (l₁ := l.take 24) (l₂ := d :: x)
         rwa [htl] at this
       have hlong := ((hWB.step (by rw [hdr]; simp) (by rw [hdr, ok_lo d x hc2, dec_lo d x hc2, hed]; rfl)).2 (by rw [hdr, dec_lo d x hc2]; show 24 < 24 + 1; omega) (Nat.le_refl _)).2
       rw [nameS_long hE2 hB2 hrun2, hlong, hdr]; rfl
   · have hres := nameS_ok hE hB (by omega)
     have hw := name_word hres
     rw [hres]
     refine ⟨l.take (runS l), (List.take_append_drop _ _).symm, fun c x hc hc2 => ?_, fun b hb hn => name_pre hB hb (by have := hb.length_le; rw [List.length_take] at this; omega) hn⟩
     have hc' : (l.drop (runS l)).head? = some c := hc
     have hst : eitB (c.toNat : Int) = false := by
       cases hdp : l.drop (runS l) with
       | nil => rw [hdp] at hc'; cases hc'
       | cons d z =>
         rw [hdp] at hc'
         obtain rfl : d = c := Option.some.inj hc'
         have h0 := whileE_stop_at eitB _ l (Nat.le_refl _)
         have h0' : whileE ⟨(l.drop (runS l)).toArray⟩ eitB = 0 := h0
         rw [hdp, whileE_cons _ eitB (by simp), ok_lo d z hc2, dec_lo d z hc2] at h0'
         cases he : eitB (d.toNat : Int)
         · rfl
         · rw [he, if_pos (show (true && true) = true from rfl)] at h0'; simp at h0'
     rw [nameS_app hw (stops_byte x hc2 hst)]; rfl
end Yd
