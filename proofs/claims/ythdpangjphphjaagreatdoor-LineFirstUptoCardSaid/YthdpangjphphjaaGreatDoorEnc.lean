import Derived.Test.YthdpangjphphjaaGreatDoorSpoken3
import Derived.Test.YthdpangjphphjaaGreatDoorRFffd
import Derived.Laws.RangeString
import Derived.Lib.MapLaws
import Derived.Test.YthdpangjphphjaaGreatDoorProg
import Derived.Test.YthdpangjphphjaaGreatDoorCheck
import Derived.Test.YthdpangjphphjaaGreatDoorRdP
set_option maxRecDepth 200000
set_option maxHeartbeats 8000000
namespace Yd
open Go Go.RowKit Go.Proofs
attribute [local go_sem] Oper.semAt_some

def fstR (s : ByteArray) : Int := if 0 < s.size then (if okB s 0 = true then ((Utf8.decode s 0).1 : Int) else -1) else -1
theorem dec_shape (s : ByteArray) (i : Nat) : Utf8.decode s i = (65533, 1) ∨ ((Utf8.decode s i).1 < 128 ∧ (Utf8.decode s i).2 = 1) ∨ (128 ≤ (Utf8.decode s i).1 ∧ (Utf8.decode s i).1 < 2048 ∧ (Utf8.decode s i).2 = 2) ∨
   (2048 ≤ (Utf8.decode s i).1 ∧ (Utf8.decode s i).1 < 65536 ∧ Utf8.valid ((Utf8.decode s i).1 : Int) = true ∧ (Utf8.decode s i).2 = 3) ∨ (65536 ≤ (Utf8.decode s i).1 ∧ Utf8.valid ((Utf8.decode s i).1 : Int) = true ∧ (Utf8.decode s i).2 = 4) := by
 unfold Utf8.decode
 simp only []
 have k0 := (s.get! (i + 0)).toNat_lt
 split
 · right; left; simp; omega
 split
 · split
   · right; right; left; refine ⟨by simpa using ‹_›, ?_, rfl⟩; simp only []; omega
   · left; rfl
 split
 · split
   · rename_i h
     simp only [Bool.and_eq_true, decide_eq_true_eq, ge_iff_le] at h
     right; right; right; left; refine ⟨h.1, ?_, h.2, rfl⟩; simp only []; omega
   · left; rfl
 split
 · split
   · rename_i h
     simp only [Bool.and_eq_true, decide_eq_true_eq, ge_iff_le] at h
     right; right; right; right; exact ⟨h.1, h.2, rfl⟩
   · left; rfl
 · left; rfl
def okR (s : ByteArray) (pos : Nat) : Bool := okB s pos && (letB ((Utf8.decode s pos).1 : Int) || (!decide (pos = 0) && numB ((Utf8.decode s pos).1 : Int)))
def rW (s : ByteArray) : Nat → Nat → Bool
 | 0, _ => true
 | n + 1, pos => if pos < s.size then okR s pos && rW s n (pos + (Utf8.decode s pos).2) else true
theorem dec_pos (s : ByteArray) (i : Nat) : 1 ≤ (Utf8.decode s i).2 ∧ (Utf8.decode s i).2 ≤ 4 := by
 rcases dec_shape s i with e | ⟨e1, e2⟩ | ⟨e1, e2, e3⟩ | ⟨e1, e2, e3, e4⟩ | ⟨e1, e2, e3⟩
 · rw [e]; decide
 · omega
 · omega
 · omega
 · omega
theorem loop_len (s : ByteArray) : ∀ (n i : Nat) (acc : List UInt8), s.size - i = n → (ByteArray.toList.loop s i acc).length = acc.length + n
 | 0, i, acc, h => by rw [ByteArray.toList.loop, if_neg (by omega)]; simp
 | n + 1, i, acc, h => by rw [ByteArray.toList.loop, if_pos (by omega), loop_len s n (i + 1) _ (by omega)]; simp; omega
theorem rW_all (s : ByteArray) : ∀ (n pos : Nat), 0 < pos → rW s n pos = (posFrom s n pos).all (fun p => okB s p && eitB ((Utf8.decode s p).1 : Int))
 | 0, _, _ => rfl
 | n + 1, pos, h => by
   simp only [rW, posFrom]
   split
   · rw [List.all_cons, rW_all s n _ (by have := dec_pos s pos; omega), okR]
     simp [show pos ≠ 0 by omega, eitB]
   · rfl
theorem pos_lt (s : ByteArray) : ∀ (n pos : Nat), ∀ p ∈ posFrom s n pos, p < s.size
 | 0, _, _, h => by simp [posFrom] at h
 | n + 1, pos, p, h => by
   simp only [posFrom] at h
   split at h
   · rcases List.mem_cons.1 h with rfl | h
     · assumption
     · exact pos_lt s n _ p h
   · simp at h
end Yd


namespace Yd
open Go
inductive OT where
 | nil
 | q (i c : Nat) (r : OT)
 | l (i : Nat) (r : OT)
 | alt (i : Nat) (r : OT) (j : Nat) (s : OT)
def OT.size : OT → Nat
 | .nil => 0
 | .q _ _ r => r.size + 1
 | .l _ r => r.size + 1
 | .alt _ r _ _ => r.size + 1
section
variable {P : Program} {ops : Array Oper} {Q : Exit → Act → World → Prop} {md : Region.Mode} {R S : World → Prop} {cut : Nat}
def wpOrdT (P : Program) (ops : Array Oper) (Q : Exit → Act → World → Prop) (R S : World → Prop) (cut : Nat) : OT → Act → World → Prop
 | .nil, a, w => Q .normal a w
 | .q i 0 r, a, w => ∃ o v, ops[i]? = some o ∧ YieldsIf P ops (fun w => R w ∧ S w) o v a ∧ wpOrdT P ops Q R S cut r (a.put o.dst v) w
 | .q i (_ + 1) r, a, w => ∃ o v, ops[i]? = some o ∧ YieldsIf P ops R o v a ∧ wpOrdT P ops Q R S cut r (a.put o.dst v) w
 | .l i r, a, w => wpOp P ops Q i (fun a' w' => ThenS cut R S i w w' ∧ wpOrdT P ops Q R S cut r a' w') a w
 | .alt i r j s, a, w => wpOp P ops Q i (fun a' w' => ThenS cut R S i w w' ∧ wpOrdT P ops Q R S cut r a' w') a w ∧ wpOp P ops Q j (fun a' w' => ThenS cut R S j w w' ∧ wpOrdT P ops Q R S cut s a' w') a w
def okOrdT (md : Region.Mode) (ops : Array Oper) (cut : Nat) : OT → Bool → Array Bool → Bool
 | .nil, _, listed => (Region.ready md ops listed).isEmpty
 | .q i 0 r, held, listed => (Region.ready md ops listed).contains i && Region.free md ops listed i && (held && waits md ops cut i) && okOrdT md ops cut r held (listed.setIfInBounds i true)
 | .q i (_ + 1) r, held, listed => (Region.ready md ops listed).contains i && Region.free md ops listed i && okOrdT md ops cut r held (listed.setIfInBounds i true)
 | .l i r, held, listed => decide (Region.ready md ops listed = [i]) && okOrdT md ops cut r (held && decide (i < cut)) (listed.setIfInBounds i true)
 | .alt i r j s, held, listed => decide (Region.ready md ops listed = [i, j]) && decide (r.size = s.size) && okOrdT md ops cut r (held && decide (i < cut)) (listed.setIfInBounds i true) && okOrdT md ops cut s (held && decide (j < cut)) (listed.setIfInBounds j true)
theorem held_step {i : Nat} {held : Bool} {w w' : World} (hS : held = true → S w) (h : ThenS cut R S i w w') (hh : (held && decide (i < cut)) = true) : S w' := by
 simp only [Bool.and_eq_true, decide_eq_true_eq] at hh
 rcases h.2 with h1 | h1
 · omega
 · exact h1 (hS hh.1)
theorem wpAnyT_of_ordT (hs : Region.noSelect ops = true) (hQ : ∀ d v c a w, Q (.panic c) (Act.put a d v) w → Q (.panic c) a w) :
   ∀ (l : OT) (held : Bool) (listed : Array Bool) (a : Act) (w : World), okOrdT md ops cut l held listed = true → R w → (held = true → S w) → wpOrdT P ops Q R S cut l a w → wpAnyT P md ops Q (ThenS cut R S) l.size listed a w
 | .nil, _, listed, a, w, hB, _, _, h => ⟨by simpa [okOrdT] using hB, h⟩
 | .q i 0 r, held, listed, a, w, hB, hR, hS, h => by
   simp only [okOrdT, Bool.and_eq_true] at hB
   obtain ⟨⟨⟨hr, hf⟩, hh, hc⟩, hB'⟩ := hB
   obtain ⟨o, v, ho, hy, hn⟩ := h
   have hrest := wpAnyT_of_ordT hs hQ r held _ _ _ hB' hR hS hn
   refine wpAnyT_first (S := fun w => R w ∧ S w) ho (Region.noSelect_spec hs) (fun c a w => hQ _ _ c a w) (fun _ h => ⟨h.1, .inr id⟩) (fun j oj hj hne hno w w' hw' hw => ⟨hw'.1, ?_⟩) r.size listed a w (Region.free_spec ho hf) (by simpa using hr) hy ⟨hR, hS hh⟩ hrest
   rcases hw'.2 with h1 | h1
   · exact absurd (waits_spec hc j oj hj hno) (by omega)
   · exact h1 hw.2
 | .q i (_ + 1) r, held, listed, a, w, hB, hR, hS, h => by
   simp only [okOrdT, Bool.and_eq_true] at hB
   obtain ⟨⟨hr, hf⟩, hB'⟩ := hB
   obtain ⟨o, v, ho, hy, hn⟩ := h
   have hrest := wpAnyT_of_ordT hs hQ r held _ _ _ hB' hR hS hn
   exact wpAnyT_first (S := R) ho (Region.noSelect_spec hs) (fun c a w => hQ _ _ c a w) (fun _ h => ⟨h, .inr id⟩) (fun j oj hj hne hno w w' hw' _ => hw'.1) r.size listed a w (Region.free_spec ho hf) (by simpa using hr) hy hR hrest
 | .l i r, held, listed, a, w, hB, hR, hS, h => by
   simp only [okOrdT, Bool.and_eq_true, decide_eq_true_eq] at hB
   obtain ⟨hr, hB'⟩ := hB
   refine ⟨fun h0 => (by rw [hr] at h0; cases h0), fun j hj => ?_⟩
   rw [hr] at hj
   obtain rfl : j = i := by simpa using hj
   exact wpOp_mono (fun a' w' hh => ⟨hh.1, wpAnyT_of_ordT hs hQ r _ _ a' w' hB' hh.1.1 (held_step hS hh.1) hh.2⟩) h
 | .alt i r k s, held, listed, a, w, hB, hR, hS, h => by
   simp only [okOrdT, Bool.and_eq_true, decide_eq_true_eq] at hB
   obtain ⟨⟨⟨hr, hz⟩, hB1⟩, hB2⟩ := hB
   refine ⟨fun h0 => (by rw [hr] at h0; cases h0), fun j hj => ?_⟩
   rw [hr] at hj
   rcases (by simpa using hj : j = i ∨ j = k) with rfl | rfl
   · exact wpOp_mono (fun a' w' hh => ⟨hh.1, wpAnyT_of_ordT hs hQ r _ _ a' w' hB1 hh.1.1 (held_step hS hh.1) hh.2⟩) h.1
   · refine wpOp_mono (fun a' w' hh => ⟨hh.1, ?_⟩) h.2
     have := wpAnyT_of_ordT hs hQ s _ _ a' w' hB2 hh.1.1 (held_step hS hh.1) hh.2
     show wpAnyT P md ops Q (ThenS cut R S) r.size _ a' w'
     rw [hz]; exact this
theorem wp_region_ordT {id : Nat} {a : Act} {w : World} {l : List Oper} (cut : Nat) (ord : OT) (R S : World → Prop) (hm : P.follows .mixedOrders = true)
   (hB : (Region.noSelect l.toArray && decide (ord.size = l.length) && okOrdT .any l.toArray cut ord true (Array.replicate l.toArray.size false)) = true)
   (hR : R w.drew) (hS : S w.drew) (h : wpOrdT P l.toArray (strictQ Q) R S cut ord a w.drew) : (Code.region id l.toArray true).wp P Q a w := by
 simp only [Bool.and_eq_true, decide_eq_true_eq] at hB
 obtain ⟨⟨hs, hl⟩, ho⟩ := hB
 refine wp_mono (Q := strictQ Q) (wp_region_any hm (wpAny_of_T (T := ThenS cut R S) _ _ _ _ ?_)) strictQ_of
 have := wpAnyT_of_ordT (md := .any) (Q := strictQ Q) hs (strictQ_p Q) ord true _ a _ ho hR (fun _ => hS) h
 rw [hl] at this
 simpa using this
theorem ordT_nil {a : Act} {w : World} (h : Q .normal a w) : wpOrdT P ops (strictQ Q) R S cut .nil a w := h
variable {l : List Oper} {a : Act} {w : World} {r s : OT} {i j : Nat} {o : Oper}
theorem ordT_q (ho : opAt l i = some o) (hw : Region.wanted o (yielded l.toArray a.tmps) = true)
   (h : ∃ v, (∀ w, R w ∧ S w → (execOp a.eval o).run P w = .ok (.value v) w) ∧ wpOrdT P l.toArray Q R S cut r (a.put o.dst v) w) : wpOrdT P l.toArray Q R S cut (.q i 0 r) a w :=
 let ⟨v, h1, h2⟩ := h
 ⟨o, v, opAt_get _ _ _ ho, .inl ⟨hw, h1⟩, h2⟩
theorem ordT_p (ho : opAt l i = some o) (hw : Region.wanted o (yielded l.toArray a.tmps) = true)
   (h : ∃ v, (∀ w, R w → (execOp a.eval o).run P w = .ok (.value v) w) ∧ wpOrdT P l.toArray Q R S cut r (a.put o.dst v) w) : wpOrdT P l.toArray Q R S cut (.q i 1 r) a w :=
 let ⟨v, h1, h2⟩ := h
 ⟨o, v, opAt_get _ _ _ ho, .inl ⟨hw, h1⟩, h2⟩
theorem ordT_one (ho : opAt l i = some o) (hw : Region.wanted o (yielded l.toArray a.tmps) = true) (h : ∀ K : Act → World → Prop, (∀ a w, R w ∧ S w → wpOrdT P l.toArray Q R S cut r a w → K a w) → o.wp P a w K Q) :
   wpOp P l.toArray Q i (fun a' w' => ThenS cut R S i w w' ∧ wpOrdT P l.toArray Q R S cut r a' w') a w := by
 have ho' := opAt_get _ _ _ ho
 unfold wpOp
 simp only [ho', hw, if_true]
 exact .inl (h _ fun _ _ h1 h2 => ⟨⟨h1.1, .inr fun _ => h1.2⟩, h2⟩)
theorem ordT_l (ho : opAt l i = some o) (hw : Region.wanted o (yielded l.toArray a.tmps) = true) (h : ∀ K : Act → World → Prop, (∀ a w, R w ∧ S w → wpOrdT P l.toArray Q R S cut r a w → K a w) → o.wp P a w K Q) :
   wpOrdT P l.toArray Q R S cut (.l i r) a w := ordT_one ho hw h
end
end Yd


namespace Yd
open Go Go.RowKit Go.Proofs

theorem enc_eq (c : Nat) (hc : c ≤ 1114111) (hs : ¬ (55296 ≤ c ∧ c ≤ 57343)) : Utf8.encode (c : Int) = ⟨(Lib.encodeRune (c : Int)).toArray⟩ := by
 have hv : Utf8.valid (c : Int) = true := by simp [Utf8.valid]; omega
 unfold Utf8.encode Lib.encodeRune
 simp only [hv, if_true, Int.toNat_natCast]
 have hb : ∀ (z : Int) (n : Nat), z = (n : Int) → z.toNat.toUInt8 = UInt8.ofNat n := fun z n h => by subst h; simp
 by_cases h1 : c < 128
 · rw [if_pos h1, Lib.encodeRuneZ_one (by omega) (by omega)]
   simp only [List.map_cons, List.map_nil, hb _ c rfl]
 rw [if_neg h1]
 by_cases h2 : c < 2048
 · rw [if_pos h2, Lib.encodeRuneZ_two (by omega) (by omega)]
   simp only [List.map_cons, List.map_nil, hb (192 + (c : Int) / 64) (192 + c / 64) (by omega), hb (128 + (c : Int) % 64) (128 + c % 64) (by omega)]
 rw [if_neg h2]
 by_cases h3 : c < 65536
 · rw [if_pos h3, Lib.encodeRuneZ_three (by omega)]
   simp only [List.map_cons, List.map_nil, hb (224 + (c : Int) / 4096) (224 + c / 4096) (by omega), hb (128 + (c : Int) / 64 % 64) (128 + c / 64 % 64) (by omega), hb (128 + (c : Int) % 64) (128 + c % 64) (by omega)]
 · rw [if_neg h3, Lib.encodeRuneZ_four (by omega) (by omega)]
   simp only [List.map_cons, List.map_nil, hb (240 + (c : Int) / 262144) (240 + c / 262144) (by omega), hb (128 + (c : Int) / 4096 % 64) (128 + c / 4096 % 64) (by omega), hb (128 + (c : Int) / 64 % 64) (128 + c / 64 % 64) (by omega), hb (128 + (c : Int) % 64) (128 + c % 64) (by omega)]
theorem ok_dec {l : Bs} (h : okB ⟨l.toArray⟩ 0 = true) : ¬ ((Utf8.decode ⟨l.toArray⟩ 0).1 = 65533 ∧ (Utf8.decode ⟨l.toArray⟩ 0).2 = 1) := by
 rintro ⟨h1, h2⟩
 unfold okB at h
 rw [h1, h2] at h
 simp at h
theorem first_rune (l : Bs) (hne : l ≠ []) (h : okB ⟨l.toArray⟩ 0 = true) :
   Utf8.encode ((Utf8.decode ⟨l.toArray⟩ 0).1 : Int) = ⟨(l.take (Utf8.decode ⟨l.toArray⟩ 0).2).toArray⟩ ∧ Utf8.decode ⟨(l.take (Utf8.decode ⟨l.toArray⟩ 0).2).toArray⟩ 0 = Utf8.decode ⟨l.toArray⟩ 0 ∧ (Utf8.decode ⟨l.toArray⟩ 0).2 ≤ 4 := by
 have hl : 0 < l.length := List.length_pos_iff.2 hne
 have hle := dec_le l hne
 have he := Lib.encode_decode l hne (ok_dec h)
 have hd : Utf8.decode ⟨l.toArray⟩ 0 = Lib.decodeL l := rfl
 have hd2 : ∀ u : Bs, Utf8.decode ⟨u.toArray⟩ 0 = Lib.decodeL u := fun _ => rfl
 have hg : ∀ (n k : Nat), k < n → (l.take n).getD k 0 = l.getD k 0 := fun n k h => by simp [List.getD, h]
 have hok := ok_dec h
 rw [hd] at hle hok ⊢
 rw [hd2]
 rw [Lib.decodeL_N (l.take _)]
 have hN := Lib.decodeL_N l
 rcases Lib.decodeN_shape l.length (l.getD 0 0).toNat (l.getD 1 0).toNat (l.getD 2 0).toNat (l.getD 3 0).toNat with ⟨c, e⟩ | ⟨c1, c2, c3, cv, e⟩ | ⟨c1, c2, c3, c4, cv, cs, e⟩ | ⟨c1, c2, c3, c4, c5, cv, cw, e⟩ | e
 · rw [e] at hN
   rw [hN] at hle he ⊢
   refine ⟨by rw [enc_eq _ (by simp only []; omega) (by simp only []; omega), he], ?_, by simp⟩
   simp only [List.length_take]
   rw [hg 1 0 (by omega)]
   unfold Lib.decodeN
   rw [if_pos c]
 · rw [e] at hN
   rw [hN] at hle he ⊢
   simp only at hle
   refine ⟨by rw [enc_eq _ (by simp only []; omega) (by simp only []; omega), he], ?_, by simp⟩
   simp only [List.length_take]
   rw [hg 2 0 (by omega), hg 2 1 (by omega), Nat.min_eq_left (by omega)]
   unfold Lib.decodeN
   rw [if_neg (by omega), if_pos ⟨c1, by omega, c3⟩, if_pos (by omega)]
 · rw [e] at hN
   rw [hN] at hle he ⊢
   simp only at hle
   refine ⟨by rw [enc_eq _ (by simp only []; omega) (by simp only []; omega), he], ?_, by simp⟩
   simp only [List.length_take]
   rw [hg 3 0 (by omega), hg 3 1 (by omega), hg 3 2 (by omega), Nat.min_eq_left (by omega)]
   unfold Lib.decodeN
   rw [if_neg (by omega), if_neg (by omega), if_pos ⟨c1, ⟨by omega, c3⟩, ⟨by omega, c4⟩⟩, if_pos (by omega)]
 · rw [e] at hN
   rw [hN] at hle he ⊢
   simp only at hle
   refine ⟨by rw [enc_eq _ (by simp only []; omega) (by simp only []; omega), he], ?_, by simp⟩
   simp only [List.length_take]
   rw [hg 4 0 (by omega), hg 4 1 (by omega), hg 4 2 (by omega), hg 4 3 (by omega), Nat.min_eq_left (by omega)]
   unfold Lib.decodeN
   rw [if_neg (by omega), if_neg (by omega), if_neg (by omega), if_pos ⟨c1, ⟨by omega, c3⟩, ⟨by omega, c4⟩, ⟨by omega, c5⟩⟩, if_pos (by omega)]
 · exfalso
   rw [e] at hN
   exact hok (by rw [hN]; exact ⟨rfl, rfl⟩)
end Yd
