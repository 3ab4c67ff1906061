import Derived.Test.YthdpangjphphjaaGreatDoorBk7
import Derived.Test.YthdpangjphphjaaGreatDoorCuM
import Derived.Test.YthdpangjphphjaaGreatDoorProg
import Derived.Test.YthdpangjphphjaaGreatDoorShape
import Derived.BigQuiet
import Derived.Test.YthdpangjphphjaaGreatDoorCu6
import Derived.Test.YthdpangjphphjaaGreatDoorOwn
import Derived.Test.YthdpangjphphjaaGreatDoorRdB
import Derived.Test.YthdpangjphphjaaGreatDoorChB
import Derived.Test.YthdpangjphphjaaGreatDoorRdV
import Derived.Test.YthdpangjphphjaaGreatDoorRdW
set_option maxRecDepth 200000
set_option maxHeartbeats 8000000
namespace Yd
open Go Go.RowKit Go.Proofs

theorem decN_cut (n m b0 b1 b2 b3 c1 c2 c3 : Nat) (h1 : 1 < n → c1 = b1) (h2 : 2 < n → c2 = b2) (h3 : 3 < n → c3 = b3) (hok : Lib.decodeN (n + m) b0 c1 c2 c3 ≠ (65533, 1)) (hd : (Lib.decodeN (n + m) b0 c1 c2 c3).2 ≤ n) : Lib.decodeN n b0 b1 b2 b3 = Lib.decodeN (n + m) b0 c1 c2 c3 := by
 unfold Lib.decodeN at hok hd ⊢
 by_cases a : b0 < 128
 · rw [if_pos a, if_pos a]
 rw [if_neg a] at hok hd ⊢
 rw [if_neg a]
 by_cases hA : b0 / 32 = 6 ∧ (1 < n + m ∧ c1 / 64 = 2)
 · rw [if_pos hA] at hok hd ⊢
   by_cases hv : b0 % 32 * 64 + c1 % 64 ≥ 128
   · rw [if_pos hv] at hd ⊢
     have hn : 1 < n := hd
     rw [if_pos (by rw [← h1 hn]; exact ⟨hA.1, hn, hA.2.2⟩), ← h1 hn, if_pos hv]
   · rw [if_neg hv] at hok; exact absurd rfl hok
 rw [if_neg hA] at hok hd ⊢
 by_cases hB : b0 / 16 = 14 ∧ (1 < n + m ∧ c1 / 64 = 2) ∧ (2 < n + m ∧ c2 / 64 = 2)
 · rw [if_pos hB] at hok hd ⊢
   by_cases hv : b0 % 16 * 4096 + c1 % 64 * 64 + c2 % 64 ≥ 2048 ∧ (b0 % 16 * 4096 + c1 % 64 * 64 + c2 % 64 < 55296 ∨ (57344 ≤ b0 % 16 * 4096 + c1 % 64 * 64 + c2 % 64 ∧ b0 % 16 * 4096 + c1 % 64 * 64 + c2 % 64 ≤ 1114111))
   · rw [if_pos hv] at hd ⊢
     have hn : 2 < n := hd
     rw [if_neg (by omega), if_pos (by rw [← h1 (by omega), ← h2 hn]; exact ⟨hB.1, ⟨by omega, hB.2.1.2⟩, hn, hB.2.2.2⟩), ← h1 (by omega), ← h2 hn, if_pos hv]
   · rw [if_neg hv] at hok; exact absurd rfl hok
 rw [if_neg hB] at hok hd ⊢
 by_cases hC : b0 / 8 = 30 ∧ (1 < n + m ∧ c1 / 64 = 2) ∧ (2 < n + m ∧ c2 / 64 = 2) ∧ (3 < n + m ∧ c3 / 64 = 2)
 · rw [if_pos hC] at hok hd ⊢
   by_cases hv : b0 % 8 * 262144 + c1 % 64 * 4096 + c2 % 64 * 64 + c3 % 64 ≥ 65536 ∧ (b0 % 8 * 262144 + c1 % 64 * 4096 + c2 % 64 * 64 + c3 % 64 < 55296 ∨ (57344 ≤ b0 % 8 * 262144 + c1 % 64 * 4096 + c2 % 64 * 64 + c3 % 64 ∧ b0 % 8 * 262144 + c1 % 64 * 4096 + c2 % 64 * 64 + c3 % 64 ≤ 1114111))
   · rw [if_pos hv] at hd ⊢
     have hn : 3 < n := hd
     rw [if_neg (by omega), if_neg (by omega), if_pos (by rw [← h1 (by omega), ← h2 (by omega), ← h3 hn]; exact ⟨hC.1, ⟨by omega, hC.2.1.2⟩, ⟨by omega, hC.2.2.1.2⟩, hn, hC.2.2.2.2⟩), ← h1 (by omega), ← h2 (by omega), ← h3 hn, if_pos hv]
   · rw [if_neg hv] at hok; exact absurd rfl hok
 rw [if_neg hC] at hok
 exact absurd rfl hok
theorem dec_cut (w r : Bs) (hw : w ≠ []) (hok : okB ⟨(w ++ r).toArray⟩ 0 = true) (hd : (Utf8.decode ⟨(w ++ r).toArray⟩ 0).2 ≤ w.length) : Utf8.decode ⟨w.toArray⟩ 0 = Utf8.decode ⟨(w ++ r).toArray⟩ 0 := by
 have hne := ok_ne1 hok
 have hl : 0 < w.length := List.length_pos_iff.2 hw
 rw [Lib.decode_at, bsz, List.length_append, Nat.sub_zero] at hne hd
 rw [Lib.decode_at, Lib.decode_at, bsz, bsz, List.length_append, Nat.sub_zero, Nat.sub_zero]
 rw [get_app w r 0 hl] at hne hd ⊢
 refine decN_cut _ _ _ _ _ _ _ _ _ (fun h => ?_) (fun h => ?_) (fun h => ?_) hne hd
 · rw [get_app w r (0 + 1) (by omega)]
 · rw [get_app w r (0 + 2) (by omega)]
 · rw [get_app w r (0 + 3) (by omega)]
theorem whileE_take (p : Int → Bool) : ∀ (n : Nat) (l : Bs), l.length ≤ n → whileE ⟨(l.take (whileE ⟨l.toArray⟩ p)).toArray⟩ p = whileE ⟨l.toArray⟩ p
 | 0, l, hn => by
   have : l = [] := List.length_eq_zero_iff.1 (by omega)
   subst this; rfl
 | n + 1, l, hn => by
   by_cases h0 : l = []
   · subst h0; rfl
   · have hle := whileE_le p l.length l (Nat.le_refl _)
     have hw := whileE_cons l p h0
     by_cases hc : (okB ⟨l.toArray⟩ 0 && p ((Utf8.decode ⟨l.toArray⟩ 0).1 : Int)) = true
     · rw [if_pos hc] at hw
       rw [Bool.and_eq_true] at hc
       have h1 := dec_w l h0; have h2 := dec_le l h0
       obtain ⟨d, hd⟩ : ∃ d, d = (Utf8.decode ⟨l.toArray⟩ 0).2 := ⟨_, rfl⟩
       obtain ⟨k, hk⟩ : ∃ k, k = whileE ⟨(l.drop d).toArray⟩ p := ⟨_, rfl⟩
       rw [← hd] at hw h1 h2
       rw [← hk] at hw
       have ih := whileE_take p n (l.drop d) (by rw [List.length_drop]; omega)
       rw [← hk] at ih
       rw [hw] at hle ⊢
       have hsp : l = l.take (d + k) ++ l.drop (d + k) := (List.take_append_drop _ _).symm
       have htl : (l.take (d + k)).length = d + k := by rw [List.length_take]; omega
       have htn : l.take (d + k) ≠ [] := by intro e; rw [e] at htl; simp at htl; omega
       have hdec : Utf8.decode ⟨(l.take (d + k)).toArray⟩ 0 = Utf8.decode ⟨l.toArray⟩ 0 := by
         have := dec_cut (l.take (d + k)) (l.drop (d + k)) htn (by rw [← hsp]; exact hc.1) (by rw [← hsp, ← hd, htl]; omega)
         rw [← hsp] at this; exact this
       have hok2 : okB ⟨(l.take (d + k)).toArray⟩ 0 = true := by unfold okB; rw [hdec]; exact hc.1
       rw [whileE_cons _ p htn, hok2, hdec, hc.2, if_pos (show (true && true) = true from rfl), ← hd]
       have : (l.take (d + k)).drop d = (l.drop d).take k := by rw [List.drop_take]; congr 1; omega
       rw [this, ih]
     · rw [if_neg hc] at hw
       rw [hw]; rfl
theorem name_word {l m r : Bs} (h : nameS l = .ok (m, r)) : wordB ⟨m.toArray⟩ = true := by
 unfold nameS at h
 by_cases h1 : (endsS l || !beginsS l) = true
 · rw [if_pos h1] at h; cases h
 rw [if_neg h1] at h
 by_cases h2 : 24 < runS l
 · rw [if_pos h2] at h; cases h
 rw [if_neg h2] at h
 injection h with h; injection h with hm _
 have hb : beginsS l = true := by
   cases hq : beginsS l
   · rw [hq] at h1; simp at h1
   · rfl
 cases l with
 | nil => simp [beginsS] at hb
 | cons b t =>
   have hpos := run_pos hb
   have hrl := runS_le (b :: t)
   have hml : m.length = runS (b :: t) := by rw [← hm, List.length_take]; omega
   have hwm : whileE ⟨m.toArray⟩ eitB = m.length := by rw [hml, ← hm]; exact whileE_take eitB _ (b :: t) (Nat.le_refl _)
   have hmc : ∃ t', m = b :: t' := by
     rw [← hm]
     obtain ⟨k, hk⟩ : ∃ k, runS (b :: t) = k + 1 := ⟨runS (b :: t) - 1, by omega⟩
     rw [hk, List.take_succ_cons]; exact ⟨_, rfl⟩
   obtain ⟨t', rfl⟩ := hmc
   unfold wordB
   rw [bsz, hwm, Bool.and_eq_true, Bool.and_eq_true, Bool.and_eq_true]
   refine ⟨⟨⟨by simp, decide_eq_true (by omega)⟩, ?_⟩, by simp⟩
   have hle := begins_hd b t
   rw [hb] at hle
   have hf : firstR ⟨(b :: t').toArray⟩ = (b.toNat : Int) := by
     unfold firstR
     rw [dif_pos (by rw [bsz]; simp)]
     show wrap32 (b.toNat : Int) = _
     have := b.toNat_lt
     unfold wrap32; omega
   rw [hf]
   rcases Nat.lt_or_ge b.toNat 128 with hlo | hhi
   · rw [(hd_lo t hlo).1] at hle
     rw [let_no_num hle.symm]; rfl
   · unfold numB
     rw [Bool.not_eq_true', Bool.and_eq_false_iff]
     right
     exact decide_eq_false (by omega)
theorem val_pos : ∀ (l : Bs) (n : Nat), 0 < n → 0 < l.foldl (fun n (c : UInt8) => n * 10 + (c.toNat - 48)) n
 | [], _, h => h
 | c :: t, n, h => by rw [List.foldl_cons]; exact val_pos t _ (by omega)
theorem vers_ok {l r : Bs} {v : To} (h : versS l = .ok (v, r)) : toOk v := by
 unfold versS at h
 by_cases h0 : l.head? = some 45
 · rw [if_pos h0] at h; injection h with h; injection h with h _; subst h; exact .inl rfl
 rw [if_neg h0] at h
 cases hn : nameS l with
 | error x => rw [hn] at h; cases h
 | ok y =>
   obtain ⟨nm, r1⟩ := y
   rw [hn] at h
   simp only [] at h
   by_cases h46 : r1.head? = some 46
   · rw [if_pos h46] at h
     unfold numV at h
     simp only [] at h
     by_cases hd : (r1.tail.takeWhile digB).head? = none ∨ (r1.tail.takeWhile digB).head? = some 48
     · rw [if_pos hd] at h; cases h
     rw [if_neg hd] at h
     by_cases h9 : 999 < valD (r1.tail.takeWhile digB)
     · rw [if_pos h9] at h; cases h
     rw [if_neg h9] at h
     injection h with h; injection h with h _; subst h
     refine .inr ⟨name_word hn, ?_, by show ((valD _ : Nat) : Int) ≤ 999; omega⟩
     cases hq : r1.tail.takeWhile digB with
     | nil => rw [hq] at hd; exact absurd (.inl rfl) hd
     | cons c t =>
       rw [hq] at hd
       have hdg : digB c = true := tw_mem digB r1.tail c (by rw [hq]; exact List.mem_cons_self)
       have hc := (digB_eq c).1 hdg
       have hne : c.toNat ≠ 48 := fun e => hd (.inr (by rw [List.head?_cons]; exact congrArg some (UInt8.toNat_inj.1 e)))
       have := val_pos t (0 * 10 + (c.toNat - 48)) (by omega)
       show (0 : Int) < ((valD (c :: t) : Nat) : Int)
       unfold valD
       rw [List.foldl_cons]
       omega
   · rw [if_neg h46] at h; cases h
end Yd


namespace Yd
open Go Go.RowKit Go.Proofs

end Yd


namespace Yd
open Go Go.RowKit Go.Proofs
attribute [local go_sem] Oper.semAt_some

end Yd


namespace Yd
open Go Go.RowKit Go.Proofs
attribute [local go_sem] Oper.semAt_some

end Yd


namespace Yd
open Go Go.RowKit Go.Proofs
attribute [local go_sem] Oper.semAt_some

end Yd


namespace Yd
open Go Go.RowKit Go.Proofs

theorem Own.strL {X : World} {g : Nat} (h : X.heap.size = g) (l : List Bs) (hl : l.length ≤ maxLen) : Own (X.alloc (.cells (l.map (fun s => Value.string ⟨s.toArray⟩)).toArray 9)) g 9 1 encStr (.slice (some ⟨g, 0, none⟩) l.length l.length) l := by
 subst h
 exact Own.new (hc := cInsStr) X X.heap.size 9 _ l (Nat.le_refl _) (by
   show l.map (fun s => Value.string ⟨s.toArray⟩) = l.flatMap encStr
   induction l with
   | nil => rfl
   | cons a l ih => rw [List.map_cons, List.flatMap_cons, ih (by simp at hl; omega)]; rfl) hl
theorem RdC.setCellR {w : World} {R p : Nat} {s l : Bs} {c : LnC} {n : LnS} (h : RdC w R s p l c n) (i : Nat) (v : Value) (c' : LnC) (n' : LnS) (hi : i < 8) (hc : (cellsRd s p c).setIfInBounds i v = cellsRd s p c')
   (h1 : c'.na = c.na ∧ c'.nn = c.nn ∧ c'.nc = c.nc ∧ c'.va = c.va ∧ c'.vn = c.vn ∧ c'.vc = c.vc) (h2 : n'.names = n.names ∧ n'.vers = n.vers) (h3 : c'.kind = n'.kind ∧ c'.lvl = n'.lvl ∧ c'.first = n'.first ∧ c'.bits = n'.bits) :
   RdC (w.setCell ⟨R, i, none⟩ v) R s p l c' n' ∧ Mv R c c' w (w.setCell ⟨R, i, none⟩ v) := by
 obtain ⟨e1, e2, e3, e4, e5, e6⟩ := h1
 obtain ⟨⟨_, _, _, _, l1, l2⟩, o1, o2⟩ := h.n
 have hx := h.x.setC i (by simpa using hi) v
 rw [hc] at hx
 refine ⟨⟨hx, ⟨⟨h3.1, h3.2.1, h3.2.2.1, h3.2.2.2, by rw [e2, h2.1]; exact l1, by rw [e5, h2.2]; exact l2⟩, ?_, ?_⟩, h.d, h.le, h.lim⟩, Same.setCell _ _ _ _ (fun e => e.1 rfl), ?_, ?_⟩
 · rw [e1, e2, e3, h2.1]; exact o1.block fun g hg => Below.heap_setCell _ _ _ _ (by have := (o1.lt g hg).1; simp; omega)
 · rw [e4, e5, e6, h2.2]; exact o2.block fun g hg => Below.heap_setCell _ _ _ _ (by have := (o2.lt g hg).1; simp; omega)
 · rw [e1, e2, e3]; exact fun _ h => .inl h
 · rw [e4, e5, e6]; exact fun _ h => .inl h
theorem levelL_ok : (∀ x ∈ levelL, x.length ≤ 100) ∧ (∀ x ∈ levelL, (128 : UInt8) ∉ x) := by decide
theorem rd_level {R p : Nat} {s l : Bs} {c : LnC} {n : LnS} (w : World) (h : RdC w R s p l c n) :
   Calls Tryz.prog 75 #[.pointer (some ⟨R, 0, none⟩)] w (RdRes R s c w (fun _ : Unit => .tuple #[]) (match wordS levelL l with | .error x => .error x | .ok (i, r) => .ok ((), { n with lvl := 1 + (i : Int) }, r))) := by
 obtain ⟨X, hX⟩ : ∃ X : Except Er (Unit × LnS × Bs), X = (match wordS levelL l with | .error x => .error x | .ok (i, r) => .ok ((), { n with lvl := 1 + (i : Int) }, r)) := ⟨_, rfl⟩
 rw [← hX]
 have HX := hid hX
 have hbl := belowA (Below.refl w.heap.size w) (.cells #[.string ⟨#[49]⟩, .string ⟨#[50]⟩, .string ⟨#[50, 46, 57, 57]⟩, .string ⟨#[51]⟩] 9)
 have HBL := hid hbl
 have HW := hid (rd_word _ (h.below hbl) (some ⟨w.heap.size, 0, none⟩) 4 4 levelL ((Own.strL rfl levelL (by decide)).row (by decide)) (by decide) levelL_ok.1 levelL_ok.2)
 clear hX h hbl
 go_enter Tryz.func75, Tryz.ntmps75
 go_wp2_with fail
 refine HW.out.mono ?_
 intro e w1 he
 cases hm : wordS levelL l with
 | error x =>
   rw [hm] at he
   obtain ⟨rfl, hs⟩ := he
   refine ⟨rfl, ?_⟩
   show RdRes R s c w _ _ _ _
   rw [HX.out, hm]
   exact ⟨rfl, (Same.of_below HBL.out (fun _ _ h => h)).tr hs⟩
 | ok ir =>
   obtain ⟨i, r⟩ := ir
   rw [hm] at he
   obtain ⟨rfl, q, hc, hmv⟩ := he
   have hi : i < 4 := by
     unfold wordS at hm
     split at hm
     · rename_i j hj
       injection hm with hm
       injection hm with hm _
       have := (List.findIdx?_eq_some_iff_getElem.1 hj).1
       subst hm
       exact this
     · cases hm
   have HC := hid hc; have HM := hid ((Mv.of_below HBL.out).trans hmv); have HMX := hid hm
   have hx4 := hc.x.1 4; have z4 := f1 hc 4
   clear hc hmv hm
   go_wp2_with fail
   refine bodyPost_end (results_none rfl _ _ _) rfl ?_
   show RdRes R s c w _ _ _ _
   rw [HX.out, HMX.out]
   have := HC.out.setCellR 4 (.int .i64 (1 + (i : Int))) { c with lvl := 1 + (i : Int) } { n with lvl := 1 + (i : Int) } (by decide) rfl ⟨rfl, rfl, rfl, rfl, rfl, rfl⟩ ⟨rfl, rfl⟩ ⟨HC.out.n.1.1, rfl, HC.out.n.1.2.2.1, HC.out.n.1.2.2.2.1⟩
   exact ⟨rfl, q, _, this.1, HM.out.trans this.2⟩
end Yd
