import Derived.Test.YthdpangjphphjaaGreatDoorRdP
import Derived.Test.YthdpangjphphjaaGreatDoorOrdIn
import Derived.Laws.RangeString
import Derived.Lib.MapLaws
import Derived.Test.YthdpangjphphjaaGreatDoorProg
set_option maxRecDepth 200000
set_option maxHeartbeats 8000000
namespace Yd
open Go Go.RowKit Go.Proofs

theorem ext3 (a b c : UInt8) (r : List UInt8) : ByteArray.extract ⟨⟨a :: b :: c :: r⟩⟩ 0 3 = ⟨#[a, b, c]⟩ := by
 apply ByteArray.ext
 simp [ByteArray.data_extract]
theorem fffd (s : ByteArray) (h3 : 3 ≤ s.size) (hr : (Utf8.decode s 0).1 = 65533) : (Utf8.decode s 0).2 = 3 ↔ s.extract 0 3 = ⟨#[239, 191, 189]⟩ := by
 obtain ⟨⟨l⟩⟩ := s
 match l, h3 with
 | a :: b :: c :: r, _ =>
   have ha : ByteArray.get! ⟨⟨a :: b :: c :: r⟩⟩ (0 + 0) = a := rfl
   have hb : ByteArray.get! ⟨⟨a :: b :: c :: r⟩⟩ (0 + 1) = b := rfl
   have hc : ByteArray.get! ⟨⟨a :: b :: c :: r⟩⟩ (0 + 2) = c := rfl
   have k0 := a.toNat_lt; have k1 := b.toNat_lt; have k2 := c.toNat_lt
   have hsz : ByteArray.size ⟨⟨a :: b :: c :: r⟩⟩ = r.length + 3 := rfl
   rw [ext3]
   have hiff : ((⟨#[a, b, c]⟩ : ByteArray) = ⟨#[239, 191, 189]⟩) ↔ (a.toNat = 239 ∧ b.toNat = 191 ∧ c.toNat = 189) := by
     constructor
     · intro h
       injection h with h
       simp at h
       obtain ⟨rfl, rfl, rfl⟩ := h
       decide
     · rintro ⟨h1, h2, h3⟩
       have e1 : a = 239 := UInt8.toNat_inj.1 h1
       have e2 : b = 191 := UInt8.toNat_inj.1 h2
       have e3 : c = 189 := UInt8.toNat_inj.1 h3
       rw [e1, e2, e3]
   rw [hiff]
   constructor
   · intro h
     unfold Utf8.decode at h hr
     simp only [ha, hb, hc] at h hr
     split at h
     · simp at h
     rename_i g0
     rw [if_neg g0] at hr
     split at h
     · split at h <;> simp at h
     rename_i g1
     rw [if_neg g1] at hr
     split at h
     · rename_i g2
       rw [if_pos g2] at hr
       split at h
       · rename_i g3
         rw [if_pos g3] at hr
         simp only [Bool.and_eq_true, decide_eq_true_eq, beq_iff_eq] at g2 hr
         omega
       · simp at h
     rename_i g2
     split at h
     · split at h <;> simp at h
     · simp at h
   · rintro ⟨h1, h2, h3⟩
     unfold Utf8.decode
     simp only [ha, hb, hc, h1, h2, h3, hsz]
     simp [Utf8.valid]
end Yd


namespace Yd
open Go Go.RowKit Go.Proofs
attribute [local go_sem] Oper.semAt_some

def fstR (s : ByteArray) : Int := if 0 < s.size then (if okB s 0 = true then ((Utf8.decode s 0).1 : Int) else -1) else -1
theorem dec_shape (s : ByteArray) (i : Nat) : Utf8.decode s i = (65533, 1) ∨ ((Utf8.decode s i).1 < 128 ∧ (Utf8.decode s i).2 = 1) ∨ (128 ≤ (Utf8.decode s i).1 ∧ (Utf8.decode s i).1 < 2048 ∧ (Utf8.decode s i).2 = 2) ∨
   (2048 ≤ (Utf8.decode s i).1 ∧ (Utf8.decode s i).1 < 65536 ∧ Utf8.valid ((Utf8.decode s i).1 : Int) = true ∧ (Utf8.decode s i).2 = 3) ∨ (65536 ≤ (Utf8.decode s i).1 ∧ Utf8.valid ((Utf8.decode s i).1 : Int) = true ∧ (Utf8.decode s i).2 = 4) := by
 unfold Utf8.decode
 simp only []
 have k0 := (s.get! (i + 0)).toNat_lt
 split
 · right; left; simp; omega
 split
 · split
   · right; right; left; refine ⟨by simpa using ‹_›, ?_, rfl⟩; simp only []; omega
   · left; rfl
 split
 · split
   · rename_i h
     simp only [Bool.and_eq_true, decide_eq_true_eq, ge_iff_le] at h
     right; right; right; left; refine ⟨h.1, ?_, h.2, rfl⟩; simp only []; omega
   · left; rfl
 split
 · split
   · rename_i h
     simp only [Bool.and_eq_true, decide_eq_true_eq, ge_iff_le] at h
     right; right; right; right; exact ⟨h.1, h.2, rfl⟩
   · left; rfl
 · left; rfl
def okR (s : ByteArray) (pos : Nat) : Bool := okB s pos && (letB ((Utf8.decode s pos).1 : Int) || (!decide (pos = 0) && numB ((Utf8.decode s pos).1 : Int)))
def rW (s : ByteArray) : Nat → Nat → Bool
 | 0, _ => true
 | n + 1, pos => if pos < s.size then okR s pos && rW s n (pos + (Utf8.decode s pos).2) else true
theorem dec_pos (s : ByteArray) (i : Nat) : 1 ≤ (Utf8.decode s i).2 ∧ (Utf8.decode s i).2 ≤ 4 := by
 rcases dec_shape s i with e | ⟨e1, e2⟩ | ⟨e1, e2, e3⟩ | ⟨e1, e2, e3, e4⟩ | ⟨e1, e2, e3⟩
 · rw [e]; decide
 · omega
 · omega
 · omega
 · omega
theorem loop_len (s : ByteArray) : ∀ (n i : Nat) (acc : List UInt8), s.size - i = n → (ByteArray.toList.loop s i acc).length = acc.length + n
 | 0, i, acc, h => by rw [ByteArray.toList.loop, if_neg (by omega)]; simp
 | n + 1, i, acc, h => by rw [ByteArray.toList.loop, if_pos (by omega), loop_len s n (i + 1) _ (by omega)]; simp; omega
theorem rW_all (s : ByteArray) : ∀ (n pos : Nat), 0 < pos → rW s n pos = (posFrom s n pos).all (fun p => okB s p && eitB ((Utf8.decode s p).1 : Int))
 | 0, _, _ => rfl
 | n + 1, pos, h => by
   simp only [rW, posFrom]
   split
   · rw [List.all_cons, rW_all s n _ (by have := dec_pos s pos; omega), okR]
     simp [show pos ≠ 0 by omega, eitB]
   · rfl
theorem pos_lt (s : ByteArray) : ∀ (n pos : Nat), ∀ p ∈ posFrom s n pos, p < s.size
 | 0, _, _, h => by simp [posFrom] at h
 | n + 1, pos, p, h => by
   simp only [posFrom] at h
   split at h
   · rcases List.mem_cons.1 h with rfl | h
     · assumption
     · exact pos_lt s n _ p h
   · simp at h
end Yd
