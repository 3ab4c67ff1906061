import Derived.Test.YthdpangjphphjaaGreatDoorRdB
import Derived.Laws.RangeAny
import Derived.Lib.RuneCountTail
import Derived.Shelf.GgClosure.StringsTrimFunc
import Derived.Test.YthdpangjphphjaaGreatDoorOwn
import Derived.Test.YthdpangjphphjaaGreatDoorShelf
import Derived.WalkSmall
import Derived.Test.YthdpangjphphjaaGreatDoorProg
set_option maxRecDepth 200000
set_option maxHeartbeats 8000000
namespace Yd
open Go Go.RowKit Go.Proofs

theorem bsz (l : Bs) : ByteArray.size ⟨l.toArray⟩ = l.length := by simp [ByteArray.size]
theorem ext_drop (s : Bs) (p : Nat) : (⟨s.toArray⟩ : ByteArray).extract p s.length = ⟨(s.drop p).toArray⟩ := by
 apply ByteArray.ext
 rw [ByteArray.data_extract]
 apply Array.ext'
 simp [List.take_of_length_le]
theorem ext_take (s : Bs) (p : Nat) : (⟨s.toArray⟩ : ByteArray).extract 0 p = ⟨(s.take p).toArray⟩ := by
 apply ByteArray.ext
 rw [ByteArray.data_extract]
 apply Array.ext'
 simp
theorem dec_drop (l : Bs) (p : Nat) : Utf8.decode ⟨l.toArray⟩ p = Utf8.decode ⟨(l.drop p).toArray⟩ 0 := by
 rw [← ext_drop]
 have := Lib.tail_decode ⟨l.toArray⟩ p 0
 rw [bsz] at this
 rw [this, Nat.add_zero]
theorem okB_drop (l : Bs) (p : Nat) : okB ⟨l.toArray⟩ p = okB ⟨(l.drop p).toArray⟩ 0 := by unfold okB; rw [dec_drop]
theorem dec_lo (b : UInt8) (t : Bs) (h : b.toNat < 128) : Utf8.decode ⟨(b :: t).toArray⟩ 0 = (b.toNat, 1) := decode_ascii ⟨(b :: t).toArray⟩ 0 (by rw [bsz]; simp) h
theorem dec_hi (b : UInt8) (t : Bs) (h : 128 ≤ b.toNat) : 128 ≤ (Utf8.decode ⟨(b :: t).toArray⟩ 0).1 ∧ 1 ≤ (Utf8.decode ⟨(b :: t).toArray⟩ 0).2 := decode_high ⟨(b :: t).toArray⟩ 0 (by rw [bsz]; simp) h
theorem dec_w (l : Bs) (h : l ≠ []) : 1 ≤ (Utf8.decode ⟨l.toArray⟩ 0).2 := by
 cases l with
 | nil => exact absurd rfl h
 | cons b t =>
   rcases Nat.lt_or_ge b.toNat 128 with h1 | h1
   · rw [dec_lo b t h1]; exact Nat.le_refl _
   · exact (dec_hi b t h1).2
theorem ok_lo (b : UInt8) (t : Bs) (h : b.toNat < 128) : okB ⟨(b :: t).toArray⟩ 0 = true := by
 unfold okB; rw [dec_lo b t h]
 rw [show ((b.toNat : Int) == 65533) = false from beq_eq_false_iff_ne.2 (by omega)]; rfl
theorem posFrom_add (l : Bs) (d : Nat) : ∀ (n p : Nat), posFrom ⟨l.toArray⟩ n (d + p) = (posFrom ⟨(l.drop d).toArray⟩ n p).map (d + ·)
 | 0, _ => rfl
 | n + 1, p => by
   simp only [posFrom, bsz, List.length_drop]
   have e : Utf8.decode ⟨l.toArray⟩ (d + p) = Utf8.decode ⟨(l.drop d).toArray⟩ p := by
     rw [dec_drop l (d + p), dec_drop (l.drop d) p, List.drop_drop]
   by_cases h : d + p < l.length
   · rw [if_pos h, if_pos (by omega), e, Nat.add_assoc, posFrom_add l d n]; rfl
   · rw [if_neg h, if_neg (by omega)]; rfl
theorem posFrom_fuel (s : ByteArray) : ∀ (n m p : Nat), s.size ≤ p + n → s.size ≤ p + m → posFrom s n p = posFrom s m p
 | 0, m, p, h1, _ => by cases m <;> simp only [posFrom]; rw [if_neg (by omega)]
 | n + 1, 0, p, _, h2 => by simp only [posFrom]; rw [if_neg (by omega)]
 | n + 1, m + 1, p, h1, h2 => by
   simp only [posFrom]
   by_cases h : p < s.size
   · rw [if_pos h, if_pos h]
     have := width_pos s p h
     rw [posFrom_fuel s n m _ (by omega) (by omega)]
   · rw [if_neg h, if_neg h]
theorem dec_le (l : Bs) (h : l ≠ []) : (Utf8.decode ⟨l.toArray⟩ 0).2 ≤ l.length := by
 have h1 : 1 ≤ l.length := by
   cases l with
   | nil => exact absurd rfl h
   | cons b t => simp
 unfold Utf8.decode
 simp only [bsz]
 split
 · exact h1
 split
 · rename_i g
   simp only [Bool.and_eq_true, decide_eq_true_eq] at g
   split
   · show 2 ≤ _; omega
   · exact h1
 split
 · rename_i g
   simp only [Bool.and_eq_true, decide_eq_true_eq] at g
   split
   · show 3 ≤ _; omega
   · exact h1
 split
 · rename_i g
   simp only [Bool.and_eq_true, decide_eq_true_eq] at g
   split
   · show 4 ≤ _; omega
   · exact h1
 · exact h1
theorem stopB_drop (l : Bs) (p : Int → Bool) (d q : Nat) : stopB ⟨l.toArray⟩ p (d + q) = stopB ⟨(l.drop d).toArray⟩ p q := by
 unfold stopB
 rw [okB_drop l (d + q), okB_drop (l.drop d) q, dec_drop l (d + q), dec_drop (l.drop d) q, List.drop_drop]
theorem whileE_cons (l : Bs) (p : Int → Bool) (h : l ≠ []) : whileE ⟨l.toArray⟩ p =
   if (okB ⟨l.toArray⟩ 0 && p ((Utf8.decode ⟨l.toArray⟩ 0).1 : Int)) = true then (Utf8.decode ⟨l.toArray⟩ 0).2 + whileE ⟨(l.drop (Utf8.decode ⟨l.toArray⟩ 0).2).toArray⟩ p else 0 := by
 obtain ⟨d, hd⟩ : ∃ d, d = (Utf8.decode ⟨l.toArray⟩ 0).2 := ⟨_, rfl⟩
 have hw := dec_w l h
 rw [← hd] at hw ⊢
 obtain ⟨n, hn⟩ : ∃ n, l.length = n + 1 := ⟨l.length - 1, by have : l.length ≠ 0 := fun e => h (List.eq_nil_of_length_eq_zero e); omega⟩
 have hp : posFrom ⟨l.toArray⟩ l.length 0 = 0 :: (posFrom ⟨(l.drop d).toArray⟩ (l.drop d).length 0).map (d + ·) := by
   rw [hn]
   simp only [posFrom, bsz]
   rw [if_pos (by omega), ← hd, Nat.zero_add, ← Nat.add_zero d, posFrom_add, Nat.add_zero, posFrom_fuel ⟨(l.drop d).toArray⟩ n (l.drop d).length 0 (by rw [bsz, List.length_drop]; omega) (by rw [bsz]; omega)]
 unfold whileE
 rw [bsz, bsz, hp]
 simp only [List.find?_cons, List.find?_map]
 unfold stopB
 cases hk : (okB ⟨l.toArray⟩ 0 && p ((Utf8.decode ⟨l.toArray⟩ 0).1 : Int))
 · simp
 · simp only [Bool.not_true, if_true]
   have e : ((fun pos => !(okB ⟨l.toArray⟩ pos && p ((Utf8.decode ⟨l.toArray⟩ pos).1 : Int))) ∘ fun x => d + x) = stopB ⟨(l.drop d).toArray⟩ p := by
     funext q
     exact stopB_drop l p d q
   have e2 : (fun pos => !(okB ⟨(l.drop d).toArray⟩ pos && p ((Utf8.decode ⟨(l.drop d).toArray⟩ pos).1 : Int))) = stopB ⟨(l.drop d).toArray⟩ p := rfl
   rw [e, e2]
   cases hf : List.find? (stopB ⟨(l.drop d).toArray⟩ p) (posFrom ⟨(l.drop d).toArray⟩ (l.drop d).length 0) with
   | none =>
     simp only [Option.map_none, Option.getD_none]
     have hx : d ≤ l.length := by rw [hd]; exact dec_le l h
     rw [List.length_drop]; omega
   | some q => simp
theorem whileE_bytes (p : Int → Bool) (q : UInt8 → Bool) (h : ∀ b : UInt8, b.toNat < 128 → p (b.toNat : Int) = q b) (hh : ∀ r : Nat, 128 ≤ r → p (r : Int) = false) (hq : ∀ b : UInt8, 128 ≤ b.toNat → q b = false) :
   ∀ l : Bs, whileE ⟨l.toArray⟩ p = (l.takeWhile q).length
 | [] => rfl
 | b :: t => by
   rw [whileE_cons (b :: t) p (by simp)]
   rcases Nat.lt_or_ge b.toNat 128 with h1 | h1
   · rw [dec_lo b t h1, ok_lo b t h1, Bool.true_and, h b h1]
     cases hb : q b
     · rw [List.takeWhile_cons, hb]; rfl
     · rw [if_pos rfl, List.takeWhile_cons, hb, if_pos rfl]
       show 1 + whileE ⟨t.toArray⟩ p = _
       rw [whileE_bytes p q h hh hq t, List.length_cons]; omega
   · rw [hh _ (dec_hi b t h1).1, Bool.and_false, List.takeWhile_cons, hq b h1]; rfl
theorem idxFrom_bytes (p : Nat → Bool) (q : UInt8 → Bool) (h : ∀ b : UInt8, b.toNat < 128 → p b.toNat = q b) (hh : ∀ r : Nat, 128 ≤ r → p r = false) (hq : ∀ b : UInt8, 128 ≤ b.toNat → q b = false) (l : Bs) :
   ∀ f pos : Nat, l.length ≤ pos + f → pos ≤ l.length → Lib.idxFuncFrom p false ⟨l.toArray⟩ f pos = if pos + ((l.drop pos).takeWhile q).length < l.length then ((pos + ((l.drop pos).takeWhile q).length : Nat) : Int) else -1
 | 0, pos, h1, h2 => by
   have e : pos = l.length := by omega
   subst e
   rw [if_neg (by omega)]; rfl
 | f + 1, pos, h1, h2 => by
   unfold Lib.idxFuncFrom
   rw [bsz]
   by_cases hp : pos < l.length
   · rw [if_pos hp]
     obtain ⟨b, t, hbt⟩ : ∃ b t, l.drop pos = b :: t := ⟨_, _, List.drop_eq_getElem_cons hp⟩
     rw [dec_drop l pos, hbt]
     rcases Nat.lt_or_ge b.toNat 128 with h3 | h3
     · rw [dec_lo b t h3]
       simp only [h b h3]
       cases hb : q b
       · rw [if_pos rfl, List.takeWhile_cons, hb]
         simp only [Bool.false_eq_true, if_false, List.length_nil, Nat.add_zero]
         rw [if_pos hp]
       · rw [if_neg (by simp), idxFrom_bytes p q h hh hq l f (pos + 1) (by omega) (by omega)]
         have ht : l.drop (pos + 1) = t := by rw [← List.drop_drop, hbt]; rfl
         rw [ht, List.takeWhile_cons, hb, if_pos rfl, List.length_cons, show pos + 1 + (t.takeWhile q).length = pos + ((t.takeWhile q).length + 1) by omega]
     · rw [if_pos (hh _ (dec_hi b t h3).1), List.takeWhile_cons, hq b h3]
       simp only [Bool.false_eq_true, if_false, List.length_nil, Nat.add_zero]
       rw [if_pos hp]
   · rw [if_neg hp, if_neg (by omega)]
theorem drop_takeWhile {α : Type} (q : α → Bool) (l : List α) : l.drop (l.takeWhile q).length = l.dropWhile q := by
 induction l with
 | nil => rfl
 | cons b t ih =>
   rw [List.takeWhile_cons, List.dropWhile_cons]
   cases q b
   · rfl
   · simpa using ih
theorem len_takeWhile {α : Type} (q : α → Bool) (l : List α) : (l.takeWhile q).length + (l.dropWhile q).length = l.length := by
 rw [← List.length_append, List.takeWhile_append_dropWhile]
theorem trim_bytes (p : Nat → Bool) (q : UInt8 → Bool) (h : ∀ b : UInt8, b.toNat < 128 → p b.toNat = q b) (hh : ∀ r : Nat, 128 ≤ r → p r = false) (hq : ∀ b : UInt8, 128 ≤ b.toNat → q b = false) (l : Bs) :
   Lib.trimLeftF p ⟨l.toArray⟩ = ⟨(l.dropWhile q).toArray⟩ := by
 have hl := len_takeWhile q l
 unfold Lib.trimLeftF Lib.idxFunc
 rw [bsz, idxFrom_bytes p q h hh hq l l.length 0 (by omega) (by omega)]
 simp only [List.drop_zero, Nat.zero_add]
 by_cases hp : (l.takeWhile q).length < l.length
 · rw [if_pos hp, if_neg (by omega), Int.toNat_natCast, ext_drop, drop_takeWhile]
 · rw [if_neg hp, if_pos rfl, List.eq_nil_of_length_eq_zero (l := l.dropWhile q) (by omega)]
def blR (r : Int) : Bool := r == 32 || r == 9
theorem blR_lo (b : UInt8) : blR (b.toNat : Int) = blB b := by
 have hx : ∀ n : Nat, (((b.toNat : Int) == (n : Int)) = decide (b.toNat = n)) := fun n => by
   by_cases h : b.toNat = n
   · simp [h]
   · rw [beq_eq_false_iff_ne.2 (by omega)]; simp [h]
 have hy : ∀ c : UInt8, (b == c) = decide (b.toNat = c.toNat) := fun c => by
   by_cases h : b = c
   · simp [h]
   · rw [beq_eq_false_iff_ne.2 h, decide_eq_false (fun e => h (UInt8.toNat_inj.1 e))]
 unfold blR blB
 rw [hy 32, hy 9, show (32 : Int) = ((32 : Nat) : Int) from rfl, show (9 : Int) = ((9 : Nat) : Int) from rfl, hx, hx]; rfl
theorem blR_hi (r : Nat) (h : 128 ≤ r) : blR (r : Int) = false := by
 unfold blR; rw [beq_eq_false_iff_ne.2 (by omega), beq_eq_false_iff_ne.2 (by omega)]; rfl
theorem blB_hi (b : UInt8) (h : 128 ≤ b.toNat) : blB b = false := by rw [← blR_lo]; exact blR_hi _ h
theorem while_bl (l : Bs) : whileE ⟨l.toArray⟩ blR = (l.takeWhile blB).length := whileE_bytes blR blB (fun b _ => blR_lo b) blR_hi blB_hi l
theorem trim_bl (l : Bs) : Lib.trimLeftF (fun r => blR (r : Int)) ⟨l.toArray⟩ = ⟨(skipS l).toArray⟩ := trim_bytes _ blB (fun b _ => blR_lo b) blR_hi blB_hi l
theorem skipS_len (l : Bs) : (skipS l).length ≤ l.length := by have := len_takeWhile blB l; unfold skipS; omega
theorem skipS_drop (l : Bs) : l.drop (l.length - (skipS l).length) = skipS l := by
 have := len_takeWhile blB l
 unfold skipS at *
 rw [show l.length - (l.dropWhile blB).length = (l.takeWhile blB).length by omega, drop_takeWhile]
theorem ix_list (l : Bs) (i : Nat) (b : UInt8) (h : l[i]? = some b) : ∃ hi : i < ByteArray.size ⟨l.toArray⟩, (⟨l.toArray⟩ : ByteArray)[i]'hi = b := by
 obtain ⟨h1, h2⟩ := List.getElem?_eq_some_iff.1 h
 exact ⟨by rw [bsz]; exact h1, by rw [← h2]; rfl⟩
theorem run_ix {P : Program} {t : TypeId} (ht : P.underlying t = some .string) (l : Bs) (i : Nat) (b : UInt8) (h : l[i]? = some b) (W : World) : (Instr.index t (.string ⟨l.toArray⟩) (.int .i64 (i : Int))).run P W = .ok (.int .u8 (b.toNat : Int)) W := by
 obtain ⟨hi, hx⟩ := ix_list l i b h
 rw [run_index_string W t _ .i64 i ht, dif_pos ⟨by omega, by omega⟩]
 simp only [Int.toNat_natCast, hx]
theorem run_sl {P : Program} {t : TypeId} (ht : P.underlying t = some .string) (l : Bs) (i : Nat) (h : i ≤ l.length) (W : World) : (Instr.slice t (.string ⟨l.toArray⟩) (some (.int .i64 (i : Int))) none none).run P W = .ok (.string ⟨(l.drop i).toArray⟩) W := by
 rw [run_slice_string_l W t _ ht .i64 i (by omega) (by rw [bsz]; omega), Int.toNat_natCast, bsz, ext_drop]
theorem run_slh {P : Program} {t : TypeId} (ht : P.underlying t = some .string) (l : Bs) (i : Nat) (h : i ≤ l.length) (W : World) : (Instr.slice t (.string ⟨l.toArray⟩) none (some (.int .i64 (i : Int))) none).run P W = .ok (.string ⟨(l.take i).toArray⟩) W := by
 rw [run_slice_string_h W t _ ht .i64 i (by omega) (by rw [bsz]; omega), Int.toNat_natCast, ext_take]
theorem u8_eq (b c : UInt8) : (b == c) = ((b.toNat : Int) == (c.toNat : Int)) := by
 by_cases h : b = c
 · simp [h]
 · rw [beq_eq_false_iff_ne.2 h, beq_eq_false_iff_ne.2 (fun e => h (UInt8.toNat_inj.1 (by omega)))]
theorem endsS_cons (b : UInt8) (t : Bs) : endsS (b :: t) = (((b.toNat : Int) == 10) || ((b.toNat : Int) == 35)) := by
 unfold endsS
 simp only [List.head?_cons]
 rw [show ((some b == none) : Bool) = false from rfl, Bool.false_or]
 show ((b == 10) || (b == 35)) = _
 rw [u8_eq b 10, u8_eq b 35]; rfl
end Yd


namespace Yd
open Go
section
variable {P : Program} {ops : Array Oper} {Q : Exit → Act → World → Prop} {R S : World → Prop} {cut : Nat} {RP : List PanicEntry → World → Prop} {D : List Deferred}
def laxQ (Q : Exit → Act → World → Prop) (D : List Deferred) (RP : List PanicEntry → World → Prop) : Exit → Act → World → Prop
 | .outgrown, _, _ => False
 | .panic c, a, w => a.defers = D ∧ RP c w
 | .normal, a, w => Q .normal a w
 | .ret, a, w => Q .ret a w
 | .exit id, a, w => Q (.exit id) a w
 | .goto t, a, w => Q (.goto t) a w
theorem laxQ_of (hP : ∀ c a w, a.defers = D → RP c w → Q (.panic c) a w) (e : Exit) (a : Act) (w : World) (h : laxQ Q D RP e a w) : Q e a w := by
 cases e <;> first | exact h | exact h.elim | exact hP _ _ _ h.1 h.2
theorem laxQ_p : ∀ d v c a w, laxQ Q D RP (.panic c) (Act.put a d v) w → laxQ Q D RP (.panic c) a w := fun d _ _ _ _ h => by cases d <;> exact h
theorem wp_region_ordP {id : Nat} {a : Act} {w : World} {l : List Oper} (cut : Nat) (ord : List (Nat × Nat)) (R S : World → Prop) (RP : List PanicEntry → World → Prop) (hm : P.follows .mixedOrders = true)
   (hB : (Region.noSelect l.toArray && decide (ord.length = l.length) && okOrdC .any l.toArray cut ord true (Array.replicate l.toArray.size false)) = true)
   (hP : ∀ c a' w', a'.defers = a.defers → RP c w' → Q (.panic c) a' w')
   (hR : R w.drew) (hS : S w.drew) (h : wpOrdC P l.toArray (laxQ Q a.defers RP) R S cut ord a w.drew) : (Code.region id l.toArray true).wp P Q a w := by
 simp only [Bool.and_eq_true, decide_eq_true_eq] at hB
 obtain ⟨⟨hs, hl⟩, ho⟩ := hB
 refine wp_mono (Q := laxQ Q a.defers RP) (wp_region_any hm (wpAny_of_T (T := ThenS cut R S) _ _ _ _ ?_)) (laxQ_of hP)
 have := wpAnyT_of_ord (md := .any) (Q := laxQ Q a.defers RP) hs laxQ_p ord true _ a _ ho hR (fun _ => hS) h
 rw [hl] at this
 simpa using this
theorem ordP_nil {a : Act} {w : World} (h : Q .normal a w) : wpOrdC P ops (laxQ Q D RP) R S cut [] a w := h
end
end Yd


namespace Yd
open Go Go.RowKit Go.Proofs

def wrongP (p : Nat) (m : Int) : List PanicEntry := [⟨.iface 51 (.agg #[.int .i64 p, .int .i64 m]), false, false⟩]
theorem rd_fail (p : Nat) (m : Int) (w : World) : Calls Tryz.prog 27 #[.int .i64 p, .int .i64 m] w fun e w' => e = .panicked (wrongP p m) ∧ w' = w := by
 go_enter Tryz.func27, Tryz.ntmps27
 go_wp2
 exact ⟨rfl, rfl, rfl⟩
theorem rd_blank (r : Int) (w : World) : Calls Tryz.prog 70 #[.int .i32 r] w fun e w' => e = .returned (.bool (blR r)) ∧ ∃ q, w' = w.drewN q := by
 unfold blR
 cases h1 : r == 32 <;> cases h2 : r == 9
 all_goals
   go_enter Tryz.func70, Tryz.ntmps70
   go_wp2
   go_ret
   exact ⟨rfl, 0, rfl⟩
theorem call_blank : ∀ args w, (callFunc 70 args).run Tryz.prog w = .ok (.enter 70 args) w := enters_of Tryz.func70 (by kernel_rfl) rfl
theorem rd_trim (l : Bs) (w : World) : Calls Tryz.prog 69 #[.string ⟨l.toArray⟩, .func (.func 70) #[] #[]] w (Ret (.string ⟨(skipS l).toArray⟩) w) := by
 have := Tryz.strings_TrimLeftFunc 70 #[] call_blank (fun r => blR (r : Int)) ⟨l.toArray⟩ w (fun W r _ => by unfold FnGives; exact rd_blank (r : Int) W)
 rw [trim_bl] at this
 exact this
theorem RdC.c0 {w : World} {R p : Nat} {s l : Bs} {c : LnC} {n : LnS} (h : RdC w R s p l c n) : w.cell? ⟨R, 0, none⟩ = some (.string ⟨s.toArray⟩) := h.x.1 0
theorem RdC.c1 {w : World} {R p : Nat} {s l : Bs} {c : LnC} {n : LnS} (h : RdC w R s p l c n) : w.cell? ⟨R, 1, none⟩ = some (.int .i64 p) := h.x.1 1
theorem RdC.at_ {w : World} {R p : Nat} {s t : Bs} {b : UInt8} {c : LnC} {n : LnS} (h : RdC w R s p (b :: t) c n) : s[p]? = some b := by
 have := congrArg (fun l => l[0]?) h.d
 simpa using this
theorem rd_ends {R p : Nat} {s l : Bs} {c : LnC} {n : LnS} (w : World) (h : RdC w R s p l c n) : Calls Tryz.prog 71 #[.pointer (some ⟨R, 0, none⟩)] w (Ret (.bool (endsS l)) w) := by
 have c0 := h.c0; have c1 := h.c1
 have hlen := h.len; have hlim := h.lim
 cases hl : l with
 | nil =>
   obtain rfl : p = s.length := by rw [hl] at hlen; simpa using hlen
   have hz := bsz s
   clear h hlen
   go_enter Tryz.func71, Tryz.ntmps71
   go_wp2_with (go_quiet (fail))
   go_ret
   exact ⟨rfl, belowN (Below.refl _ _) _⟩
 | cons b t =>
   subst hl
   have hix := fun W => run_ix Tryz.underlying9 s p b h.at_ W
   have hlt : p < s.length := by simp at hlen; omega
   have hz := bsz s
   have hne : ((p : Int) == (s.length : Int)) = false := beq_eq_false_iff_ne.2 (by omega)
   clear h hlen
   by_cases h10 : b.toNat = 10
   · have hb : ((b.toNat : Int) == 10) = true := by simp [h10]
     go_enter Tryz.func71, Tryz.ntmps71
     go_wp2_with (go_quiet (fail))
     go_ret
     exact ⟨by rw [endsS_cons, hb]; rfl, belowN (Below.refl _ _) _⟩
   · have hb : ((b.toNat : Int) == 10) = false := beq_eq_false_iff_ne.2 (by omega)
     cases h35 : ((b.toNat : Int) == 35)
     all_goals
       go_enter Tryz.func71, Tryz.ntmps71
       go_wp2_with (go_quiet (fail))
       go_ret
       exact ⟨by rw [endsS_cons, hb, h35]; rfl, belowN (Below.refl _ _) _⟩
def RdRes {α : Type} (R : Nat) (s : Bs) (c : LnC) (w : World) (val : α → Value) (x : Except Er (α × LnS × Bs)) (e : Ending) (w' : World) : Prop :=
 match x with
 | .error (r, m) => e = .panicked (wrongP (s.length - r.length) m) ∧ Same (RdA R c) w w'
 | .ok (a, n', r) => e = .returned (val a) ∧ ∃ p' c', RdC w' R s p' r c' n' ∧ Mv R c c' w w'
def RdRet {α : Type} (R : Nat) (s : Bs) (c : LnC) (n : LnS) (w : World) (val : α → Value) (x : Except Er (α × Bs)) (e : Ending) (w' : World) : Prop :=
 match x with
 | .error (r, m) => e = .panicked (wrongP (s.length - r.length) m) ∧ Same (RdA R c) w w'
 | .ok (a, r) => e = .returned (val a) ∧ ∃ p', RdC w' R s p' r c n ∧ Mv R c c w w'
theorem RdC.to {w : World} {R p : Nat} {s l r : Bs} {c : LnC} {n : LnS} (h : RdC w R s p l c n) (k : Nat) (hk : l.drop k = r) (hle : k ≤ l.length) (q : Nat) (hq : q = p + k) :
   RdC (w.setCell ⟨R, 1, none⟩ (.int .i64 (q : Int))) R s q r c n ∧ Mv R c c w (w.setCell ⟨R, 1, none⟩ (.int .i64 (q : Int))) := by
 subst hq hk; exact h.go k hle
theorem RdC.drew {w : World} {R p : Nat} {s l : Bs} {c : LnC} {n : LnS} (h : RdC w R s p l c n) : RdC w.drew R s p l c n := ⟨h.x, h.n, h.d, h.le, h.lim⟩
theorem f1 {w : World} {R p : Nat} {s l : Bs} {c : LnC} {n : LnS} (h : RdC w R s p l c n) (i : Nat) : w.frozen? ⟨R, i, none⟩ = false := h.x.2.1 i
theorem rd_more {R p : Nat} {s l : Bs} {c : LnC} {n : LnS} (w : World) (h : RdC w R s p l c n) :
   Calls Tryz.prog 81 #[.pointer (some ⟨R, 0, none⟩)] w (RdRet R s c n w (fun b : Bool => .bool b) (moreS l)) := by
 have c0 := h.c0; have c1 := h.c1; have z1 := f1 h 1
 have hlen := h.len; have hlim := h.lim
 have hsl := fun W => run_sl Tryz.underlying9 s p (by omega) W
 rw [h.d] at hsl
 have hz := bsz s; have hz2 := bsz (skipS l)
 have hsk := skipS_len l
 have HH := hid h; have HLEN := hid hlen; have HSK := hid hsk
 clear h hlen hsk
 go_enter Tryz.func81, Tryz.ntmps81
 go_wp2_with fail
 refine wp_region_ordC 11 [(0, 0), (1, 0), (2, 0), (3, 0), (4, 0), (5, 0), (6, 0), (7, 0), (8, 0), (9, 2), (10, 0)] (fun _ => True) (fun W' => W'.cell? ⟨R, 0, none⟩ = some (.string ⟨s.toArray⟩) ∧ W'.cell? ⟨R, 1, none⟩ = some (.int .i64 p)) (by kernel_rfl) (by kernel_rfl) (trivial) (⟨HH.out.c0, HH.out.c1⟩) ?_
 repeat ((first | refine ordC_skip rfl rfl ?_ | refine ordC_skip1 rfl rfl ?_ | ((first | refine ordC_q rfl rfl ?_ | refine ordC_p rfl rfl ?_); apply Exists.intro; refine ⟨fun wS hS => ?_, ?_⟩; (go_simp; try with_reducible rfl))); simp only [Act.put, List.setIfInBounds_toArray, List.set_cons_zero, List.set_cons_succ])
 refine ordC_l rfl rfl (fun K hK => ?_)
 go_simp
 refine (rd_trim l _).mono ?_
 rintro e w2 ⟨rfl, hb2⟩
 have hh2 := HH.out.drew.below hb2
 refine hK _ _ ⟨trivial, hh2.c0, hh2.c1⟩ ?_
 have HH2 := hid hh2; have HB2 := hid hb2
 clear hK K hb2 hh2 c0 c1 z1
 repeat ((first | refine ordC_skip rfl rfl ?_ | refine ordC_skip1 rfl rfl ?_ | ((first | refine ordC_q rfl rfl ?_ | refine ordC_p rfl rfl ?_); apply Exists.intro; refine ⟨fun wS hS => ?_, ?_⟩; (go_simp; try with_reducible rfl))); simp only [Act.put, List.setIfInBounds_toArray, List.set_cons_zero, List.set_cons_succ])
 refine ordC_nil ?_
 have hb2 : Below w.heap.size w w2 := (Below.refl _ _).drew.trans HB2.out
 obtain ⟨q, hq⟩ : ∃ q : Nat, q = s.length - (skipS l).length := ⟨_, rfl⟩
 have hwq : wrap64 ((s.length : Int) - ((skipS l).length : Int)) = (q : Int) := by
   have := HLEN.out; have := HSK.out
   rw [show (s.length : Int) - ((skipS l).length : Int) = (q : Int) by omega]
   exact IntWalk.wrap64_in _ (by omega)
 have ht := HH2.out.to (l.length - (skipS l).length) (skipS_drop l) (by omega) q (by have := HLEN.out; have := HSK.out; omega)
 have HT := hid ht.1; have HM := hid ((Mv.of_below (R := R) (c := c) hb2).trans ht.2); have HQ := hid hq
 have c0 := HH2.out.c0; have c1 := HH2.out.c1; have z1 := f1 HH2.out 1
 have hMS : moreS l = if endsS (skipS l) = true then .ok (false, skipS l) else if q = p then .error (skipS l, 220) else .ok (true, skipS l) := by
   unfold moreS
   have := HLEN.out; have := HSK.out
   by_cases h1 : endsS (skipS l) = true
   · rw [if_pos h1, if_pos h1]
   · rw [if_neg h1, if_neg h1]
     by_cases h2 : q = p
     · rw [if_pos h2, if_pos (by omega)]
     · rw [if_neg h2, if_neg (by omega)]
 have HMS := hid hMS
 clear ht hq hb2 hMS
 go_wp2_with fail
 refine (rd_ends _ HT.out).mono ?_
 rintro e w3 ⟨rfl, hb3⟩
 have HT3 := hid (HT.out.below hb3); have HM3 := hid (HM.out.trans (Mv.of_below hb3))
 clear hb3 c0 c1 z1
 have c1 := HT3.out.c1
 cases hE : endsS (skipS l)
 · by_cases hpq : q = p
   · have hb : ((q : Int) == (p : Int)) = true := by simp [hpq]
     go_wp2_with fail
     refine (rd_fail p 220 _).mono ?_
     rintro e w4 ⟨rfl, rfl⟩
     refine ⟨rfl, ?_⟩
     show RdRet R s c n w _ _ _ _
     rw [HMS.out, hE, if_neg (by simp), if_pos hpq]
     exact ⟨by rw [← HQ.out, hpq], HM3.out.same⟩
   · have hb : ((q : Int) == (p : Int)) = false := beq_eq_false_iff_ne.2 (by omega)
     go_wp2_with fail
     go_ret
     show RdRet R s c n w _ _ _ _
     rw [HMS.out, hE, if_neg (by simp), if_neg hpq]
     exact ⟨rfl, q, HT3.out, HM3.out⟩
 · go_wp2_with fail
   go_ret
   show RdRet R s c n w _ _ _ _
   rw [HMS.out, hE, if_pos rfl]
   exact ⟨rfl, q, HT3.out, HM3.out⟩
theorem rd_must {R p : Nat} {s l : Bs} {c : LnC} {n : LnS} (w : World) (h : RdC w R s p l c n) :
   Calls Tryz.prog 121 #[.pointer (some ⟨R, 0, none⟩)] w (RdRet R s c n w (fun _ : Unit => .tuple #[]) (match mustS l with | .error x => .error x | .ok r => .ok ((), r))) := by
 have HR := hid (rd_more w h)
 clear h
 obtain ⟨X, hX⟩ : ∃ X : Except Er (Unit × Bs), X = (match mustS l with | .error x => .error x | .ok r => .ok ((), r)) := ⟨_, rfl⟩
 rw [← hX]
 have HX := hid hX
 clear hX
 go_enter Tryz.func121, Tryz.ntmps121
 go_wp2_with fail
 refine HR.out.mono ?_
 rintro e w1 he
 cases hm : moreS l with
 | error x =>
   rw [hm] at he
   obtain ⟨rfl, hs⟩ := he
   refine ⟨rfl, ?_⟩
   show RdRet R s c n w _ _ _ _
   rw [HX.out, show mustS l = .error x by unfold mustS; rw [hm]]
   exact ⟨rfl, hs⟩
 | ok br =>
   obtain ⟨b, r⟩ := br
   rw [hm] at he
   obtain ⟨rfl, q, hc, hmv⟩ := he
   have HC := hid hc; have HM := hid hmv
   have c1 := hc.c1
   clear hc hmv
   cases b
   · go_wp2_with fail
     refine (rd_fail q 220 _).mono ?_
     rintro e w4 ⟨rfl, rfl⟩
     refine ⟨rfl, ?_⟩
     show RdRet R s c n w _ _ _ _
     rw [HX.out, show mustS l = .error (r, 220) by unfold mustS; rw [hm]]
     have := HC.out.len
     exact ⟨by rw [show s.length - r.length = q by omega], HM.out.same⟩
   · go_wp2_with fail
     refine bodyPost_end (results_none rfl _ _ _) rfl ?_
     show RdRet R s c n w _ _ _ _
     rw [HX.out, show mustS l = .ok r by unfold mustS; rw [hm]]
     exact ⟨rfl, q, HC.out, HM.out⟩
end Yd


namespace Yd
open Go Go.RowKit Go.Proofs

theorem tw_stop (q : UInt8 → Bool) : ∀ (l : Bs) (k : Nat) (b : UInt8), (∀ x ∈ l.take k, q x = true) → l[k]? = some b → q b = false → l.takeWhile q = l.take k
 | [], _, _, _, h, _ => by simp at h
 | a :: t, 0, b, _, h, hb => by
   obtain rfl : a = b := by simpa using h
   rw [List.takeWhile_cons, hb]; rfl
 | a :: t, k + 1, b, ha, h, hb => by
   rw [List.takeWhile_cons, ha a (by simp), if_pos rfl, List.take_succ_cons, tw_stop q t k b (fun x hx => ha x (by simp [hx])) (by simpa using h) hb]
theorem tw_all (q : UInt8 → Bool) (l : Bs) (h : ∀ x ∈ l, q x = true) : l.takeWhile q = l := by
 induction l with
 | nil => rfl
 | cons a t ih => rw [List.takeWhile_cons, h a (by simp), if_pos rfl, ih (fun x hx => h x (by simp [hx]))]
theorem wcB_nat (b : UInt8) : wcB b = ((decide (b.toNat = 46) || decide (b.toNat = 95)) || (decide (48 ≤ b.toNat) && decide (b.toNat ≤ 57)) || (decide (97 ≤ b.toNat) && decide (b.toNat ≤ 122)) || (decide (65 ≤ b.toNat) && decide (b.toNat ≤ 90))) := by
 have e : ∀ c : UInt8, (b == c) = decide (b.toNat = c.toNat) := fun c => by
   by_cases h : b = c
   · simp [h]
   · rw [beq_eq_false_iff_ne.2 h, decide_eq_false (fun e => h (UInt8.toNat_inj.1 e))]
 unfold wcB
 rw [e 46, e 95]; rfl
theorem rd_stretch {R p : Nat} {s l : Bs} {c : LnC} {n : LnS} (w : World) (h : RdC w R s p l c n) :
   Calls Tryz.prog 117 #[.pointer (some ⟨R, 0, none⟩)] w (Ret (.string ⟨(stretchS l).toArray⟩) w) := by
 have c0 := h.c0; have c1 := h.c1
 have hlen := h.len; have hlim := h.lim
 have hsl := fun W => run_sl Tryz.underlying9 s p (by omega) W
 rw [h.d] at hsl
 have hll : l.length ≤ 1000000 := by omega
 clear h hlen hlim
 go_enter Tryz.func117, Tryz.ntmps117
 go_wp2_with (go_quiet (fail))
 clear hsl c0 c1
 go_loopw [] (fun wr => ∃ k : Nat, k ≤ l.length ∧ wr.heap[w.heap.size]? = some (.stringIter ⟨l.toArray⟩ k) ∧ Below w.heap.size w wr ∧ ∀ x ∈ l.take k, wcB x = true) (fun wr => l.length - wr.iterPos w.heap.size)
 case atStart => exact ⟨0, Nat.zero_le _, World.iter_heap (w.drewN _) ⟨l.toArray⟩ 0, belowN (Below.refl _ _) _ |>.trans (iter_below (w.drewN _) ⟨l.toArray⟩), by simp⟩
 case round =>
   obtain ⟨k, hk, hit, hbw, hall⟩ := hrel
   by_cases hp : k < l.length
   · obtain ⟨b, t, hbt⟩ : ∃ b t, l.drop k = b :: t := ⟨_, _, List.drop_eq_getElem_cons hp⟩
     have hnx : ∀ ty, (Instr.next (.pointer (some ⟨w.heap.size, 0, none⟩)) true ty).run Tryz.prog wr = _ := fun ty => Lib.run_next_any_at wr w.heap.size ⟨l.toArray⟩ k ty hit (by rw [bsz]; exact hp)
     have hwd := dec_drop l k
     rw [hbt] at hwd
     rw [hwd] at hnx
     have hkb : l[k]? = some b := by
       have := congrArg (fun l => l[0]?) hbt
       simpa using this
     obtain ⟨r, d, hr, hd⟩ : ∃ (r : Int) (d : Nat), r = ((Utf8.decode ⟨(b :: t).toArray⟩ 0).1 : Int) ∧ d = (Utf8.decode ⟨(b :: t).toArray⟩ 0).2 := ⟨_, _, rfl, rfl⟩
     have hbr : (b.toNat < 128 ∧ r = b.toNat ∧ d = 1) ∨ (128 ≤ b.toNat ∧ 128 ≤ r) := by
       rcases Nat.lt_or_ge b.toNat 128 with h1 | h1
       · rw [dec_lo b t h1] at hr hd; exact .inl ⟨h1, hr, hd⟩
       · have := (dec_hi b t h1).1; exact .inr ⟨h1, by omega⟩
     rw [← hr, ← hd] at hnx
     have hit2 := Lib.iterAt_heap wr w.heap.size ⟨l.toArray⟩ k (k + d) hit
     have hbw2 := Lib.below_iterAt hbw (k := w.heap.size) (Nat.le_refl _) ⟨l.toArray⟩ (k + d)
     have HBR := hid hbr; have HALL := hid hall; have HKB := hid hkb; have HB2 := hid hbw2; have HI2 := hid hit2; have HIT := hid hit
     have hsh := fun W => run_slh Tryz.underlying9 l k (by omega) W
     have hcl : r = 46 ∨ r = 95 ∨ (48 ≤ r ∧ r ≤ 57) ∨ (97 ≤ r ∧ r ≤ 122) ∨ (65 ≤ r ∧ r ≤ 90) ∨ r < 46 ∨ r = 47 ∨ (57 < r ∧ r < 65) ∨ (90 < r ∧ r < 95) ∨ r = 96 ∨ 122 < r := by omega
     clear hbr hall hkb hbw2 hit2 hbw hwd hr hd hbt hit
     have GO : Hid ((r = 46 ∨ r = 95 ∨ (48 ≤ r ∧ r ≤ 57) ∨ (97 ≤ r ∧ r ≤ 122) ∨ (65 ≤ r ∧ r ≤ 90)) → ∃ k' : Nat, k' ≤ l.length ∧ (wr.iterAt w.heap.size ⟨l.toArray⟩ (k + d)).heap[w.heap.size]? = some (.stringIter ⟨l.toArray⟩ k') ∧ Below w.heap.size w (wr.iterAt w.heap.size ⟨l.toArray⟩ (k + d)) ∧ ∀ x ∈ l.take k', wcB x = true) := hid (fun hr => by
       rcases HBR.out with ⟨h1, h2, h3⟩ | ⟨h1, h2⟩
       · refine ⟨k + d, by omega, HI2.out, HB2.out, fun x hx => ?_⟩
         rw [h3, List.take_add_one, HKB.out] at hx
         rcases List.mem_append.1 hx with hx | hx
         · exact HALL.out x hx
         · obtain rfl : x = b := by simpa using hx
           rw [wcB_nat]
           simp only [Bool.or_eq_true, Bool.and_eq_true, decide_eq_true_eq]
           omega
       · exfalso; omega)
     have ME : Hid ((r = 46 ∨ r = 95 ∨ (48 ≤ r ∧ r ≤ 57) ∨ (97 ≤ r ∧ r ≤ 122) ∨ (65 ≤ r ∧ r ≤ 90)) → l.length - (wr.iterAt w.heap.size ⟨l.toArray⟩ (k + d)).iterPos w.heap.size < l.length - wr.iterPos w.heap.size) := hid (fun hr => by
       rcases HBR.out with ⟨h1, h2, h3⟩ | ⟨h1, h2⟩
       · rw [iterPos_of HI2.out, iterPos_of HIT.out]; omega
       · exfalso; omega)
     have ST : Hid (¬ (r = 46 ∨ r = 95 ∨ (48 ≤ r ∧ r ≤ 57) ∨ (97 ≤ r ∧ r ≤ 122) ∨ (65 ≤ r ∧ r ≤ 90)) → stretchS l = l.take k) := hid (fun hr => by
       refine tw_stop wcB l k b HALL.out HKB.out ?_
       rw [wcB_nat]
       simp only [Bool.or_eq_false_iff, Bool.and_eq_false_iff, decide_eq_false_iff_not]
       rcases HBR.out with ⟨h1, h2, h3⟩ | ⟨h1, h2⟩ <;> omega)
     rcases hcl with h1 | h1 | ⟨h1, h2⟩ | ⟨h1, h2⟩ | ⟨h1, h2⟩ | h1 | h1 | ⟨h1, h2⟩ | ⟨h1, h2⟩ | h1 | h1
     · subst h1
       go_wp2_with fail
       go_roundw
       case rel => exact GO.out (by decide)
       case measure => exact ME.out (by decide)
     · subst h1
       go_wp2_with fail
       go_roundw
       case rel => exact GO.out (by decide)
       case measure => exact ME.out (by decide)
     · have e46 : (r != 46) = true := bne_iff_ne.2 (by omega)
       have e95 : (r != 95) = true := bne_iff_ne.2 (by omega)
       have d0 : decide (r < 48) = false := decide_eq_false (by omega)
       have d1 : decide (57 < r) = false := decide_eq_false (by omega)
       have d2 : decide (r < 97) = true := decide_eq_true (by omega)
       have d3 : decide (122 < r) = false := decide_eq_false (by omega)
       have d4 : decide (r < 65) = true := decide_eq_true (by omega)
       have d5 : decide (90 < r) = false := decide_eq_false (by omega)
       go_wp2_with fail
       go_roundw
       case rel => exact GO.out (by omega)
       case measure => exact ME.out (by omega)
     · have e46 : (r != 46) = true := bne_iff_ne.2 (by omega)
       have e95 : (r != 95) = true := bne_iff_ne.2 (by omega)
       have d0 : decide (r < 48) = false := decide_eq_false (by omega)
       have d1 : decide (57 < r) = true := decide_eq_true (by omega)
       have d2 : decide (r < 97) = false := decide_eq_false (by omega)
       have d3 : decide (122 < r) = false := decide_eq_false (by omega)
       have d4 : decide (r < 65) = false := decide_eq_false (by omega)
       have d5 : decide (90 < r) = true := decide_eq_true (by omega)
       go_wp2_with fail
       go_roundw
       case rel => exact GO.out (by omega)
       case measure => exact ME.out (by omega)
     · have e46 : (r != 46) = true := bne_iff_ne.2 (by omega)
       have e95 : (r != 95) = true := bne_iff_ne.2 (by omega)
       have d0 : decide (r < 48) = false := decide_eq_false (by omega)
       have d1 : decide (57 < r) = true := decide_eq_true (by omega)
       have d2 : decide (r < 97) = true := decide_eq_true (by omega)
       have d3 : decide (122 < r) = false := decide_eq_false (by omega)
       have d4 : decide (r < 65) = false := decide_eq_false (by omega)
       have d5 : decide (90 < r) = false := decide_eq_false (by omega)
       go_wp2_with fail
       go_roundw
       case rel => exact GO.out (by omega)
       case measure => exact ME.out (by omega)
     · have e46 : (r != 46) = true := bne_iff_ne.2 (by omega)
       have e95 : (r != 95) = true := bne_iff_ne.2 (by omega)
       have d0 : decide (r < 48) = true := decide_eq_true (by omega)
       have d1 : decide (57 < r) = false := decide_eq_false (by omega)
       have d2 : decide (r < 97) = true := decide_eq_true (by omega)
       have d3 : decide (122 < r) = false := decide_eq_false (by omega)
       have d4 : decide (r < 65) = true := decide_eq_true (by omega)
       have d5 : decide (90 < r) = false := decide_eq_false (by omega)
       go_wp2_with fail
       go_ret
       exact ⟨by rw [ST.out (by omega)]; rfl, HB2.out⟩
     · subst h1
       go_wp2_with fail
       go_ret
       exact ⟨by rw [ST.out (by decide)]; rfl, HB2.out⟩
     · have e46 : (r != 46) = true := bne_iff_ne.2 (by omega)
       have e95 : (r != 95) = true := bne_iff_ne.2 (by omega)
       have d0 : decide (r < 48) = false := decide_eq_false (by omega)
       have d1 : decide (57 < r) = true := decide_eq_true (by omega)
       have d2 : decide (r < 97) = true := decide_eq_true (by omega)
       have d3 : decide (122 < r) = false := decide_eq_false (by omega)
       have d4 : decide (r < 65) = true := decide_eq_true (by omega)
       have d5 : decide (90 < r) = false := decide_eq_false (by omega)
       go_wp2_with fail
       go_ret
       exact ⟨by rw [ST.out (by omega)]; rfl, HB2.out⟩
     · have e46 : (r != 46) = true := bne_iff_ne.2 (by omega)
       have e95 : (r != 95) = true := bne_iff_ne.2 (by omega)
       have d0 : decide (r < 48) = false := decide_eq_false (by omega)
       have d1 : decide (57 < r) = true := decide_eq_true (by omega)
       have d2 : decide (r < 97) = true := decide_eq_true (by omega)
       have d3 : decide (122 < r) = false := decide_eq_false (by omega)
       have d4 : decide (r < 65) = false := decide_eq_false (by omega)
       have d5 : decide (90 < r) = true := decide_eq_true (by omega)
       go_wp2_with fail
       go_ret
       exact ⟨by rw [ST.out (by omega)]; rfl, HB2.out⟩
     · subst h1
       go_wp2_with fail
       go_ret
       exact ⟨by rw [ST.out (by decide)]; rfl, HB2.out⟩
     · have e46 : (r != 46) = true := bne_iff_ne.2 (by omega)
       have e95 : (r != 95) = true := bne_iff_ne.2 (by omega)
       have d0 : decide (r < 48) = false := decide_eq_false (by omega)
       have d1 : decide (57 < r) = true := decide_eq_true (by omega)
       have d2 : decide (r < 97) = false := decide_eq_false (by omega)
       have d3 : decide (122 < r) = true := decide_eq_true (by omega)
       have d4 : decide (r < 65) = false := decide_eq_false (by omega)
       have d5 : decide (90 < r) = true := decide_eq_true (by omega)
       go_wp2_with fail
       go_ret
       exact ⟨by rw [ST.out (by omega)]; rfl, HB2.out⟩
   · have hnx : ∀ ty, (Instr.next (.pointer (some ⟨w.heap.size, 0, none⟩)) true ty).run Tryz.prog wr = _ := fun ty => Lib.run_next_end_at wr w.heap.size ⟨l.toArray⟩ k ty hit (by rw [bsz]; exact hp)
     have HX : Hid (stretchS l = l) := hid (tw_all wcB l (by rw [List.take_of_length_le (by omega)] at hall; exact hall))
     have HB := hid hbw
     clear hall hbw
     go_wp2_with fail
     go_ret
     exact ⟨by rw [HX.out]; rfl, HB.out⟩
end Yd
