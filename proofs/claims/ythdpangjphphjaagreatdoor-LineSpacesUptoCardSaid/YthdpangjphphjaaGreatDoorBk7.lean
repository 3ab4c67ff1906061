import Derived.Test.YthdpangjphphjaaGreatDoorBk3
import Derived.Test.YthdpangjphphjaaGreatDoorProg
set_option maxRecDepth 200000
set_option maxHeartbeats 8000000
namespace Yd
open Go Go.RowKit Go.Proofs

def Up : Nat → List Nat → Prop
 | _, [] => True
 | k, j :: js => k ≤ j ∧ j < 4 ∧ Up (j + 1) js
theorem guard_at (k j : Nat) (h : k ≤ j) (hj : j < 4) : (guardL.drop k).findIdx? (fun s => s == guardT j) = some (j - k) := by
 have hk4 : k = 0 ∨ k = 1 ∨ k = 2 ∨ k = 3 := by omega
 have hj4 : j = 0 ∨ j = 1 ∨ j = 2 ∨ j = 3 := by omega
 rcases hk4 with rfl | rfl | rfl | rfl <;> rcases hj4 with rfl | rfl | rfl | rfl <;> first | rfl | (exfalso; omega)
theorem guard_head (j : Nat) (hj : j < 4) (r : Bs) : ∃ c t, guardT j ++ r = c :: t ∧ blB c = false ∧ endsS (c :: t) = false := by
 have : j = 0 ∨ j = 1 ∨ j = 2 ∨ j = 3 := by omega
 rcases this with rfl | rfl | rfl | rfl <;> exact ⟨_, _, rfl, by decide, by rw [endsS_cons]; decide⟩
theorem guard_wc (j : Nat) (hj : j < 4) : ∀ c ∈ guardT j, wcB c = true := by
 have : j = 0 ∨ j = 1 ∨ j = 2 ∨ j = 3 := by omega
 rcases this with rfl | rfl | rfl | rfl <;> decide
theorem guar_glue (tb e : Bs) (htb : ∀ c ∈ tb, blB c = true) (he : endsS e = true) : ∀ (js : List Nat) (ps : List (Bs × Bs)) (f k : Nat) (b : Int), Up k js → js.length < f → (∀ p ∈ ps, Sp p.1) → ps.map (·.2) = js.map guardT →
   guarS f k b (glue ps (tb ++ e)) = .ok (js.foldl (fun a j => a + 2 ^ j) b, e)
 | [], ps, f, k, b, _, hf, _, hm => by
   obtain ⟨g, rfl⟩ : ∃ g, f = g + 1 := ⟨f - 1, by simp at hf; omega⟩
   have : ps = [] := by simpa using hm
   subst this
   rw [guarS, glue, more_end htb he]; rfl
 | j :: js, ps, f, k, b, hu, hf, hs, hm => by
   obtain ⟨g, rfl⟩ : ∃ g, f = g + 1 := ⟨f - 1, by simp at hf; omega⟩
   cases ps with
   | nil => simp at hm
   | cons p ps =>
     rw [List.map_cons, List.map_cons] at hm
     injection hm with hm1 hm2
     have hcut := glue_cut ps (tb ++ e) (fun q hq => hs q (List.mem_cons_of_mem _ hq)) (Cut.blanks htb he)
     obtain ⟨c, t, h1, h2, h3⟩ := guard_head j hu.2.1 (glue ps (tb ++ e))
     have hw := wordS_app (guard_at k j hu.1 hu.2.1) (guard_wc j hu.2.1) hcut
     rw [guarS, glue, hm1, h1, more_app (hs p List.mem_cons_self) h2 h3]
     simp only []
     rw [← h1, hw]
     simp only []
     rw [show k + (j - k) = j by have := hu.1; omega]
     exact guar_glue tb e htb he js ps g (j + 1) (b + 2 ^ j) hu.2.2 (by simp at hf; omega) (fun q hq => hs q (List.mem_cons_of_mem _ hq)) hm2
theorem guards_up (b : Nat) (hb : b ≤ 15) : ∃ js : List Nat, Up 0 js ∧ js.length < 5 ∧ guardsW (b : Int) = js.map guardT ∧ js.foldl (fun a j => a + 2 ^ j) (0 : Int) = (b : Int) := by
 have hc : b = 0 ∨ b = 1 ∨ b = 2 ∨ b = 3 ∨ b = 4 ∨ b = 5 ∨ b = 6 ∨ b = 7 ∨ b = 8 ∨ b = 9 ∨ b = 10 ∨ b = 11 ∨ b = 12 ∨ b = 13 ∨ b = 14 ∨ b = 15 := by omega
 rcases hc with rfl | rfl | rfl | rfl | rfl | rfl | rfl | rfl | rfl | rfl | rfl | rfl | rfl | rfl | rfl | rfl
 · exact ⟨[], by simp [Up], by decide, by decide, by decide⟩
 · exact ⟨[0], by simp [Up], by decide, by decide, by decide⟩
 · exact ⟨[1], by simp [Up], by decide, by decide, by decide⟩
 · exact ⟨[0, 1], by simp [Up], by decide, by decide, by decide⟩
 · exact ⟨[2], by simp [Up], by decide, by decide, by decide⟩
 · exact ⟨[0, 2], by simp [Up], by decide, by decide, by decide⟩
 · exact ⟨[1, 2], by simp [Up], by decide, by decide, by decide⟩
 · exact ⟨[0, 1, 2], by simp [Up], by decide, by decide, by decide⟩
 · exact ⟨[3], by simp [Up], by decide, by decide, by decide⟩
 · exact ⟨[0, 3], by simp [Up], by decide, by decide, by decide⟩
 · exact ⟨[1, 3], by simp [Up], by decide, by decide, by decide⟩
 · exact ⟨[0, 1, 3], by simp [Up], by decide, by decide, by decide⟩
 · exact ⟨[2, 3], by simp [Up], by decide, by decide, by decide⟩
 · exact ⟨[0, 2, 3], by simp [Up], by decide, by decide, by decide⟩
 · exact ⟨[1, 2, 3], by simp [Up], by decide, by decide, by decide⟩
 · exact ⟨[0, 1, 2, 3], by simp [Up], by decide, by decide, by decide⟩
theorem back_pre (k : Nat) (hk : 1 ≤ k ∧ k ≤ 9) (lead : Bs) (hlead : ∀ c ∈ lead, blB c = true) (ps1 ps2 : List (Bs × Bs)) (hlen : ps1.length = (formN k).toNat) (h1 : ∀ p ∈ ps1, Sp p.1 ∧ wordB ⟨p.2.toArray⟩ = true) (X : Bs) (hX : Cut (glue ps2 X)) :
   readS (lead ++ (formV k ++ glue (ps1 ++ ps2) X)) = (match tailS k (ps1.map (·.2)) (glue ps2 X) with
     | .error x => .error x
     | .ok (s, r2) => match moreS r2 with
       | .error x => .error x
       | .ok (true, r3) => .error (r3, 220)
       | .ok (false, r3) => .ok (s, r3)) := by
 have hcut : Cut (glue (ps1 ++ ps2) X) := by rw [glue_app]; exact glue_cut ps1 _ (fun p hp => (h1 p hp).1) hX
 have hv : verbL.findIdx? (fun s => s == formV k) = some (k - 1) ∧ (∀ c ∈ formV k, wcB c = true) ∧ (∃ c t, formV k = c :: t ∧ blB c = false ∧ ((c.toNat : Int) == 10) = false ∧ ((c.toNat : Int) == 35) = false) := by
   have : k = 1 ∨ k = 2 ∨ k = 3 ∨ k = 4 ∨ k = 5 ∨ k = 6 ∨ k = 7 ∨ k = 8 ∨ k = 9 := by omega
   rcases this with rfl | rfl | rfl | rfl | rfl | rfl | rfl | rfl | rfl <;> exact ⟨rfl, by decide, _, _, rfl, by decide, by decide, by decide⟩
 obtain ⟨hv1, hv2, c, t, hv3, hv4, hv5, hv6⟩ := hv
 have hw := wordS_app hv1 hv2 hcut
 have hsk : skipS (lead ++ (formV k ++ glue (ps1 ++ ps2) X)) = formV k ++ glue (ps1 ++ ps2) X := by
   rw [skipS_app lead _ hlead, hv3, List.cons_append, skipS_cons_no hv4]
 have hen : endsS (formV k ++ glue (ps1 ++ ps2) X) = false := by
   rw [hv3, List.cons_append, endsS_cons, hv5, hv6]; rfl
 unfold readS
 rw [hsk, if_neg (by rw [hen]; simp), hw]
 simp only []
 rw [show k - 1 + 1 = k by omega, ← hlen, glue_app, names_glue ps1 [] _ h1 hX, List.nil_append]
 rfl
end Yd


namespace Yd
open Go Go.RowKit Go.Proofs

theorem map_app {α β : Type} {f : α → β} {ps : List α} {A B : List β} (h : ps.map f = A ++ B) : ∃ p1 p2, ps = p1 ++ p2 ∧ p1.map f = A ∧ p2.map f = B := List.map_eq_append_iff.1 h
theorem map_one {α β : Type} {f : α → β} {ps : List α} {b : β} (h : ps.map f = [b]) : ∃ p, ps = [p] ∧ f p = b := by
 cases ps with
 | nil => simp at h
 | cons p ps =>
   cases ps with
   | nil => simp at h; exact ⟨p, rfl, h⟩
   | cons q qs => simp at h
theorem map_pairs : ∀ (zs : List (Bs × To)) (ps : List (Bs × Bs)), ps.map (·.2) = zs.flatMap (fun p => [p.1, toldT p.2]) → ∃ qs : List ((Bs × Bs) × (Bs × To)), ps = qs.flatMap (fun p => [p.1, (p.2.1, toldT p.2.2)]) ∧ qs.map (fun q => (q.1.2, q.2.2)) = zs
 | [], ps, h => ⟨[], by simpa using h, rfl⟩
 | z :: zs, ps, h => by
   rw [List.flatMap_cons] at h
   cases ps with
   | nil => simp at h
   | cons p ps =>
     cases ps with
     | nil => simp at h
     | cons q ps =>
       rw [List.map_cons, List.map_cons] at h
       simp only [List.cons_append, List.nil_append] at h
       injection h with h1 h
       injection h with h2 h3
       obtain ⟨qs, e1, e2⟩ := map_pairs zs ps h3
       refine ⟨((p.1, p.2), (q.1, z.2)) :: qs, ?_, ?_⟩
       · rw [List.flatMap_cons, ← e1, ← h2]; rfl
       · rw [List.map_cons, e2, h1]
theorem level_at (lv : Nat) (h1 : 1 ≤ lv) (h4 : lv ≤ 4) (r : Bs) : levelL.findIdx? (fun s => s == levelT lv) = some (lv - 1) ∧ (∀ c ∈ levelT lv, wcB c = true) ∧ ∃ c t, levelT lv ++ r = c :: t ∧ blB c = false ∧ endsS (c :: t) = false := by
 have : lv = 1 ∨ lv = 2 ∨ lv = 3 ∨ lv = 4 := by omega
 rcases this with rfl | rfl | rfl | rfl <;> exact ⟨rfl, by decide, _, _, rfl, by decide, by rw [endsS_cons]; decide⟩
theorem tail_1 {ns : List Bs} {b tb e : Bs} {lv : Nat} (h1 : 1 ≤ lv) (h4 : lv ≤ 4) (hb : Sp b) (hr : Cut (tb ++ e)) : tailS 1 ns (glue [(b, levelT lv)] (tb ++ e)) = .ok (⟨1, ns, lv, [], false, 0⟩, tb ++ e) := by
 obtain ⟨hf, hw, c, t, e1, e2, e3⟩ := level_at lv h1 h4 (tb ++ e)
 unfold tailS
 rw [if_pos rfl]
 show (match mustS (b ++ (levelT lv ++ (tb ++ e))) with | .error x => _ | .ok r => _) = _
 rw [e1, must_app hb e2 e3]
 simp only []
 rw [← e1, wordS_app hf hw hr]
 simp only []
 rw [show (1 : Int) + ((lv - 1 : Nat) : Int) = (lv : Int) by omega]; rfl
theorem tail_3 {ns : List Bs} {b tb e : Bs} {v : To} (hv : toOk v) (hb : Sp b) (hr : Cut (tb ++ e)) : tailS 3 ns (glue [(b, toldT v)] (tb ++ e)) = .ok (⟨3, ns, 0, [v], false, 0⟩, tb ++ e) := by
 unfold tailS
 rw [if_neg (by decide), if_pos rfl]
 show (match mustS (b ++ (toldT v ++ (tb ++ e))) with | .error x => _ | .ok r => _) = _
 rw [must_told hb hv]
 simp only []
 rw [vers_app hv hr]
 rfl
theorem tail_9 {ns : List Bs} {tb e : Bs} {b : Nat} (hb : b ≤ 15) {ps : List (Bs × Bs)} (hs : ∀ p ∈ ps, Sp p.1) (hm : ps.map (·.2) = guardsW (b : Int)) (htb : ∀ c ∈ tb, blB c = true) (he : endsS e = true) : tailS 9 ns (glue ps (tb ++ e)) = .ok (⟨9, ns, 0, [], false, b⟩, e) := by
 obtain ⟨js, h1, h2, h3, h4⟩ := guards_up b hb
 unfold tailS
 rw [if_neg (by decide), if_neg (by decide), if_pos rfl, guar_glue tb e htb he js ps 5 0 0 h1 h2 hs (hm.trans h3)]
 simp only []
 rw [h4]; rfl
theorem tail_8 {ns : List Bs} {tb e : Bs} {fi : Bool} {b : Bs} {ps : List (Bs × Bs)} (hb : Sp b) (hp : ∀ p ∈ ps, Sp p.1 ∧ wordB ⟨p.2.toArray⟩ = true) (hl : ps.length ≤ 300) (htb : ∀ c ∈ tb, blB c = true) (he : endsS e = true) :
   tailS 8 ns (glue ((if fi = true then [(b, [45])] else []) ++ ps) (tb ++ e)) = .ok (⟨8, ns ++ ps.map (·.2), 0, [], fi, 0⟩, e) := by
 have ho := others_glue 300 tb e htb he ps 301 0 ns [] hp (by omega) (by omega)
 unfold tailS
 rw [if_neg (by decide), if_neg (by decide), if_neg (by decide), if_pos rfl]
 have hf : firstS (glue ((if fi = true then [(b, [45])] else []) ++ ps) (tb ++ e)) = .ok (fi, glue ps (tb ++ e)) := by
   unfold firstS
   cases fi
   · rw [if_neg (by simp), List.nil_append]
     cases ps with
     | nil => rw [glue, more_end htb he]
     | cons p ps =>
       have h0 := hp p List.mem_cons_self
       rw [glue, more_word h0.1 h0.2]
       simp only []
       obtain ⟨c, t, hc, _, _, _, hne⟩ := word_cons (r := glue ps (tb ++ e)) h0.2
       rw [hc, List.head?_cons, if_neg (by simp; exact hne)]
   · rw [if_pos rfl]
     show (match moreS (b ++ (45 :: glue ps (tb ++ e))) with | .error x => _ | .ok (true, r) => _ | .ok (false, r) => _) = _
     rw [more_app hb (by decide) (by rw [endsS_cons]; decide)]
     simp only [List.head?_cons, if_true, List.tail_cons]
 rw [hf]
 simp only []
 rw [ho]
 rfl
theorem tail_7 {ns : List Bs} {tb e : Bs} {ps : List (Bs × Bs)} (hp : ∀ p ∈ ps, Sp p.1 ∧ wordB ⟨p.2.toArray⟩ = true) (hl : ps.length ≤ 300) (htb : ∀ c ∈ tb, blB c = true) (he : endsS e = true) :
   tailS 7 ns (glue ps (tb ++ e)) = .ok (⟨7, ns ++ ps.map (·.2), 0, [], false, 0⟩, e) := by
 have ho := others_glue 300 tb e htb he ps 301 0 ns [] hp (by omega) (by omega)
 unfold tailS
 rw [if_neg (by decide), if_neg (by decide), if_neg (by decide), if_neg (by decide), if_neg (by decide), if_pos rfl, ho]
 rfl
theorem tail_4 {ns : List Bs} {tb e : Bs} {qs : List ((Bs × Bs) × (Bs × To))} (hp : ∀ p ∈ qs, (Sp p.1.1 ∧ wordB ⟨p.1.2.toArray⟩ = true) ∧ Sp p.2.1 ∧ toOk p.2.2) (hl : qs.length ≤ 40) (htb : ∀ c ∈ tb, blB c = true) (he : endsS e = true) :
   tailS 4 ns (glue (qs.flatMap fun p => [p.1, (p.2.1, toldT p.2.2)]) (tb ++ e)) = .ok (⟨4, ns ++ qs.map (·.1.2), 0, qs.map (·.2.2), false, 0⟩, e) := by
 have ho := pairs_glue 40 tb e htb he qs 41 0 ns [] hp (by omega) (by omega)
 unfold tailS
 rw [if_neg (by decide), if_neg (by decide), if_neg (by decide), if_neg (by decide), if_pos rfl, ho, List.nil_append]
 rfl
theorem tail_z {k : Nat} {ns : List Bs} {l : Bs} (h : k = 2 ∨ k = 5 ∨ k = 6) : tailS k ns l = .ok (⟨k, ns, 0, [], false, 0⟩, l) := by
 rcases h with rfl | rfl | rfl <;> rfl
end Yd


namespace Yd
open Go Go.RowKit Go.Proofs

theorem names_ok {ns : List Bs} {ps : List (Bs × Bs)} (hw : ∀ x ∈ ns, wordB ⟨x.toArray⟩ = true) (hs : ∀ p ∈ ps, Sp p.1) (hm : ps.map (·.2) = ns) : ∀ p ∈ ps, Sp p.1 ∧ wordB ⟨p.2.toArray⟩ = true :=
 fun p hp => ⟨hs p hp, hw _ (by rw [← hm]; exact List.mem_map_of_mem hp)⟩
theorem back_read {s : LnS} (hs : lineOk s) (lead tb e : Bs) (hlead : ∀ c ∈ lead, blB c = true) (htb : ∀ c ∈ tb, blB c = true) (he : endsS e = true) (ps : List (Bs × Bs)) (hsep : ∀ p ∈ ps, Sp p.1) (hps : ps.map (·.2) = (wordsS s).tail) :
   readS (lead ++ (formV s.kind.toNat ++ glue ps (tb ++ e))) = .ok (s, e) := by
 have hcut : Cut (tb ++ e) := Cut.blanks htb he
 have me : moreS e = .ok (false, e) := more_end (b := []) (by simp) he
 obtain ⟨kd, ns, lv, vs, fi, bt⟩ := s
 obtain ⟨hw, hv, hc⟩ := hs
 simp only at hw hv hc
 rcases hc with ⟨rfl, hl, rfl, ⟨lw, rfl, h1, h4⟩, rfl, rfl⟩ | ⟨rfl, hl, rfl, rfl, rfl, rfl⟩ | ⟨rfl, hl, hvl, rfl, rfl, rfl⟩ | ⟨rfl, ⟨cc, hl, hvl, hcc⟩, _, rfl, rfl, rfl⟩ | ⟨rfl, hl, rfl, rfl, rfl, rfl⟩ | ⟨rfl, hl, rfl, rfl, rfl, rfl⟩ | ⟨rfl, ⟨cc, hl, hcc⟩, rfl, rfl, rfl, rfl⟩ | ⟨rfl, ⟨cc, hl, hcc⟩, rfl, rfl, _, rfl⟩ | ⟨rfl, hl, rfl, rfl, rfl, ⟨bb, rfl, hbb⟩⟩
 · have hps' : ps.map (·.2) = ns ++ [levelT lw] := hps.trans (by
     show (formV 1 :: ns.take 2 ++ ([levelT lw] ++ ns.drop 2)).tail = _
     rw [List.take_of_length_le (by omega), List.drop_eq_nil_of_le (by omega)]; simp)
   obtain ⟨p1, p2, rfl, m1, m2⟩ := map_app hps'
   obtain ⟨⟨qb, qw⟩, rfl, hq⟩ := map_one m2
   simp only at hq
   subst hq
   have hsp1 : ∀ p ∈ p1, Sp p.1 := fun p hp => hsep p (List.mem_append_left _ hp)
   have hq : Sp qb := hsep _ (List.mem_append_right _ List.mem_cons_self)
   have hk := back_pre 1 (by decide) lead hlead p1 [(qb, levelT lw)] (by rw [← List.length_map (f := fun p : Bs × Bs => p.2), m1, hl]; rfl) (names_ok hw hsp1 m1) (tb ++ e) (Cut.sp hq)
   rw [m1, tail_1 h1 h4 hq hcut] at hk
   simp only [] at hk
   rw [more_end htb he] at hk
   exact hk
 · have hps' : ps.map (·.2) = ns := hps.trans (by
     show (formV 2 :: ns.take 2 ++ ([] ++ ns.drop 2)).tail = _
     rw [List.take_of_length_le (by omega), List.drop_eq_nil_of_le (by omega)]; simp)
   have hk := back_pre 2 (by decide) lead hlead ps [] (by rw [← List.length_map (f := fun p : Bs × Bs => p.2), hps', hl]; rfl) (names_ok hw hsep hps') (tb ++ e) hcut
   rw [hps', tail_z (by decide), List.append_nil] at hk
   simp only [glue] at hk
   rw [more_end htb he] at hk
   exact hk
 · obtain ⟨v, rfl⟩ : ∃ v, vs = [v] := by
     cases vs with
     | nil => simp at hvl
     | cons v vs => cases vs with
       | nil => exact ⟨v, rfl⟩
       | cons a b => simp at hvl
   have hv0 := hv v List.mem_cons_self
   have hps' : ps.map (·.2) = ns ++ [toldT v] := hps.trans (by
     show (formV 3 :: ns.take 2 ++ ([toldT v] ++ ns.drop 2)).tail = _
     rw [List.take_of_length_le (by omega), List.drop_eq_nil_of_le (by omega)]; simp)
   obtain ⟨p1, p2, rfl, m1, m2⟩ := map_app hps'
   obtain ⟨⟨qb, qw⟩, rfl, hq⟩ := map_one m2
   simp only at hq
   subst hq
   have hsp1 : ∀ p ∈ p1, Sp p.1 := fun p hp => hsep p (List.mem_append_left _ hp)
   have hq : Sp qb := hsep _ (List.mem_append_right _ List.mem_cons_self)
   have hk := back_pre 3 (by decide) lead hlead p1 [(qb, toldT v)] (by rw [← List.length_map (f := fun p : Bs × Bs => p.2), m1, hl]; rfl) (names_ok hw hsp1 m1) (tb ++ e) (Cut.sp hq)
   rw [m1, tail_3 hv0 hq hcut] at hk
   simp only [] at hk
   rw [more_end htb he] at hk
   exact hk
 · have hps' : ps.map (·.2) = ns.take 2 ++ ((ns.drop 2).zip vs).flatMap (fun (p : Bs × To) => [p.1, toldT p.2]) := hps.trans (by
     show (formV 4 :: ns.take 2 ++ ([] ++ ((ns.drop 2).zip vs).flatMap (fun (p : Bs × To) => [p.1, toldT p.2]))).tail = _
     simp)
   obtain ⟨p1, p2, rfl, m1, m2⟩ := map_app hps'
   obtain ⟨qs, rfl, hqs⟩ := map_pairs _ _ m2
   have hsp1 : ∀ p ∈ p1, Sp p.1 := fun p hp => hsep p (List.mem_append_left _ hp)
   have hsp2 : ∀ q ∈ qs, Sp q.1.1 ∧ Sp q.2.1 := fun q hq => ⟨hsep _ (List.mem_append_right _ (List.mem_flatMap.2 ⟨q, hq, by simp⟩)), hsep (q.2.1, toldT q.2.2) (List.mem_append_right _ (List.mem_flatMap.2 ⟨q, hq, by simp⟩))⟩
   have hdl : (ns.drop 2).length = vs.length := by rw [List.length_drop]; omega
   have e1 : qs.map (·.1.2) = ns.drop 2 := by
     have := congrArg (List.map Prod.fst) hqs
     rw [List.map_map, List.map_fst_zip (by omega)] at this
     exact this
   have e2 : qs.map (·.2.2) = vs := by
     have := congrArg (List.map Prod.snd) hqs
     rw [List.map_map, List.map_snd_zip (by omega)] at this
     exact this
   have hql : qs.length ≤ 40 := by
     have := congrArg List.length e2
     rw [List.length_map] at this; omega
   have hp : ∀ p ∈ qs, (Sp p.1.1 ∧ wordB ⟨p.1.2.toArray⟩ = true) ∧ Sp p.2.1 ∧ toOk p.2.2 := fun q hq => ⟨⟨(hsp2 q hq).1, hw _ (List.mem_of_mem_drop (by rw [← e1]; exact List.mem_map_of_mem (f := fun q : (Bs × Bs) × (Bs × To) => q.1.2) hq))⟩, (hsp2 q hq).2, hv _ (by rw [← e2]; exact List.mem_map_of_mem (f := fun q : (Bs × Bs) × (Bs × To) => q.2.2) hq)⟩
   have hcut2 : Cut (glue (qs.flatMap fun (p : (Bs × Bs) × (Bs × To)) => [p.1, (p.2.1, toldT p.2.2)]) (tb ++ e)) := glue_cut _ _ (fun p hp => hsep p (List.mem_append_right _ hp)) hcut
   have hk := back_pre 4 (by decide) lead hlead p1 _ (by rw [← List.length_map (f := fun p : Bs × Bs => p.2), m1, List.length_take, hl, Nat.min_eq_left (by omega)]; rfl) (names_ok (fun x hx => hw x (List.mem_of_mem_take hx)) hsp1 m1) (tb ++ e) hcut2
   rw [m1, tail_4 hp hql htb he] at hk
   simp only [] at hk
   rw [me, e1, e2, List.take_append_drop] at hk
   exact hk
 · have hps' : ps.map (·.2) = ns := hps.trans (by
     show (formV 5 :: ns.take 1 ++ ([] ++ ns.drop 1)).tail = _
     rw [List.take_of_length_le (by omega), List.drop_eq_nil_of_le (by omega)]; simp)
   have hk := back_pre 5 (by decide) lead hlead ps [] (by rw [← List.length_map (f := fun p : Bs × Bs => p.2), hps', hl]; rfl) (names_ok hw hsep hps') (tb ++ e) hcut
   rw [hps', tail_z (by decide), List.append_nil] at hk
   simp only [glue] at hk
   rw [more_end htb he] at hk
   exact hk
 · have hps' : ps.map (·.2) = ns := hps.trans (by
     show (formV 6 :: ns.take 1 ++ ([] ++ ns.drop 1)).tail = _
     rw [List.take_of_length_le (by omega), List.drop_eq_nil_of_le (by omega)]; simp)
   have hk := back_pre 6 (by decide) lead hlead ps [] (by rw [← List.length_map (f := fun p : Bs × Bs => p.2), hps', hl]; rfl) (names_ok hw hsep hps') (tb ++ e) hcut
   rw [hps', tail_z (by decide), List.append_nil] at hk
   simp only [glue] at hk
   rw [more_end htb he] at hk
   exact hk
 · have hps' : ps.map (·.2) = ns.take 1 ++ ns.drop 1 := hps.trans (by
     show (formV 7 :: ns.take 1 ++ ([] ++ ns.drop 1)).tail = _
     simp)
   obtain ⟨p1, p2, rfl, m1, m2⟩ := map_app hps'
   have hsp1 : ∀ p ∈ p1, Sp p.1 := fun p hp => hsep p (List.mem_append_left _ hp)
   have hsp2 : ∀ p ∈ p2, Sp p.1 := fun p hp => hsep p (List.mem_append_right _ hp)
   have hp2 := names_ok (fun x hx => hw x (List.mem_of_mem_drop hx)) hsp2 m2
   have hpl : p2.length ≤ 300 := by rw [← List.length_map (f := fun p : Bs × Bs => p.2), m2, List.length_drop]; omega
   have hk := back_pre 7 (by decide) lead hlead p1 p2 (by rw [← List.length_map (f := fun p : Bs × Bs => p.2), m1, List.length_take, hl, Nat.min_eq_left (by omega)]; rfl) (names_ok (fun x hx => hw x (List.mem_of_mem_take hx)) hsp1 m1) (tb ++ e) (glue_cut _ _ hsp2 hcut)
   rw [m1, tail_7 hp2 hpl htb he] at hk
   simp only [] at hk
   rw [me, m2, List.take_append_drop] at hk
   exact hk
 · have hps' : ps.map (·.2) = ns.take 2 ++ ((if fi = true then [[45]] else []) ++ ns.drop 2) := hps.trans (by
     cases fi
     · show (formV 8 :: ns.take 2 ++ ([] ++ ns.drop 2)).tail = _
       simp
     · show (formV 8 :: ns.take 2 ++ ([[45]] ++ ns.drop 2)).tail = _
       simp)
   obtain ⟨p1, p23, rfl, m1, m23⟩ := map_app hps'
   obtain ⟨p2, p3, rfl, m2, m3⟩ := map_app m23
   have hsp1 : ∀ p ∈ p1, Sp p.1 := fun p hp => hsep p (List.mem_append_left _ hp)
   have hsp2 : ∀ p ∈ p2, Sp p.1 := fun p hp => hsep p (List.mem_append_right _ (List.mem_append_left _ hp))
   have hsp3 : ∀ p ∈ p3, Sp p.1 := fun p hp => hsep p (List.mem_append_right _ (List.mem_append_right _ hp))
   have hp3 := names_ok (fun x hx => hw x (List.mem_of_mem_drop hx)) hsp3 m3
   have hpl : p3.length ≤ 300 := by rw [← List.length_map (f := fun p : Bs × Bs => p.2), m3, List.length_drop]; omega
   obtain ⟨b, hb, hp2⟩ : ∃ b : Bs, Sp b ∧ p2 = (if fi = true then [(b, [45])] else []) := by
     cases fi
     · refine ⟨[32], ⟨by simp, by decide⟩, ?_⟩
       simpa using m2
     · obtain ⟨⟨qb, qw⟩, rfl, hq⟩ := map_one m2
       simp only at hq
       subst hq
       exact ⟨qb, hsp2 _ List.mem_cons_self, rfl⟩
   have hk := back_pre 8 (by decide) lead hlead p1 (p2 ++ p3) (by rw [← List.length_map (f := fun p : Bs × Bs => p.2), m1, List.length_take, hl, Nat.min_eq_left (by omega)]; rfl) (names_ok (fun x hx => hw x (List.mem_of_mem_take hx)) hsp1 m1) (tb ++ e) (glue_cut _ _ (fun p hp => (List.mem_append.1 hp).elim (hsp2 p) (hsp3 p)) hcut)
   have ht := tail_8 (ns := ns.take 2) (fi := fi) hb hp3 hpl htb he
   rw [← hp2] at ht
   rw [m1, ht] at hk
   simp only [] at hk
   rw [me, m3, List.take_append_drop] at hk
   exact hk
 · have hps' : ps.map (·.2) = ns ++ guardsW (bb : Int) := hps.trans (by
     show (formV 9 :: ns.take 1 ++ (guardsW (bb : Int) ++ ns.drop 1)).tail = _
     rw [List.take_of_length_le (by omega), List.drop_eq_nil_of_le (by omega)]; simp)
   obtain ⟨p1, p2, rfl, m1, m2⟩ := map_app hps'
   have hsp1 : ∀ p ∈ p1, Sp p.1 := fun p hp => hsep p (List.mem_append_left _ hp)
   have hsp2 : ∀ p ∈ p2, Sp p.1 := fun p hp => hsep p (List.mem_append_right _ hp)
   have hk := back_pre 9 (by decide) lead hlead p1 p2 (by rw [← List.length_map (f := fun p : Bs × Bs => p.2), m1, hl]; rfl) (names_ok hw hsp1 m1) (tb ++ e) (glue_cut _ _ hsp2 hcut)
   rw [m1, tail_9 hbb hsp2 m2 htb he] at hk
   simp only [] at hk
   rw [me] at hk
   exact hk
end Yd


namespace Yd
open Go Go.RowKit Go.Proofs

theorem tail_glue : ∀ (ws : List Bs) (e : Bs), Lib.joinTail [32] ws ++ e = glue (ws.map (fun x => ([32], x))) e
 | [], e => by simp [Lib.joinTail, glue]
 | x :: ws, e => by
   rw [List.map_cons, glue, ← tail_glue ws e]
   simp [Lib.joinTail]
theorem join_glue (w : Bs) (ws : List Bs) (e : Bs) : Lib.join (w :: ws) [32] ++ e = w ++ glue (ws.map (fun x => ([32], x))) e := by
 rw [Lib.join_cons, List.append_assoc, tail_glue]
theorem sp_one : Sp [32] := ⟨by simp, by decide⟩
theorem words_cons (s : LnS) : wordsS s = formV s.kind.toNat :: (wordsS s).tail := rfl
theorem back_text {s : LnS} (hs : lineOk s) (r : Bs) : lineS (textS s ++ r) = .ok (s, r) := by
 have ht : textS s ++ r = [] ++ (formV s.kind.toNat ++ glue ((wordsS s).tail.map (fun x => ([32], x))) ([] ++ (10 :: r))) := by
   unfold textS
   rw [words_cons s, List.append_assoc, join_glue]; rfl
 have hk := back_read hs [] [] (10 :: r) (by simp) (by simp) (by rw [endsS_cons]; rfl) ((wordsS s).tail.map (fun x => ([32], x))) (fun p hp => by
   obtain ⟨x, _, rfl⟩ := List.mem_map.1 hp
   exact sp_one) (by rw [List.map_map]; exact List.map_id _)
 unfold lineS
 rw [ht, hk]
 have hr : remS (10 :: r) = 10 :: r := by unfold remS; rw [if_neg (by simp)]
 simp only [hr, List.head?_cons]
 rfl
end Yd
