import Derived.Test.YthdpangjphphjaaGreatDoorCu5
import Derived.Test.YthdpangjphphjaaGreatDoorRWord
import Derived.Test.YthdpangjphphjaaGreatDoorProg
import Derived.Laws.Cover1
set_option maxRecDepth 200000
set_option maxHeartbeats 8000000
namespace Yd
open Go Go.RowKit Go.Proofs

def rmS (l : Bs) : Bs := l.drop (whileE ⟨l.toArray⟩ remB)
theorem rmS_rem {l : Bs} (h : l.head? = some 35) : remS l = rmS l := by unfold remS rmS; rw [if_pos h]
theorem rmS_step {l : Bs} (h : l ≠ []) (hk : (okB ⟨l.toArray⟩ 0 && remB ((Utf8.decode ⟨l.toArray⟩ 0).1 : Int)) = true) : rmS l = rmS (l.drop (Utf8.decode ⟨l.toArray⟩ 0).2) := by
 unfold rmS
 rw [whileE_cons l remB h, if_pos hk, List.drop_drop]
theorem rmS_stop {l : Bs} (h : l ≠ []) (hk : (okB ⟨l.toArray⟩ 0 && remB ((Utf8.decode ⟨l.toArray⟩ 0).1 : Int)) = false) : rmS l = l := by
 unfold rmS
 rw [whileE_cons l remB h, hk]; simp
def hdR (l : Bs) : Int := fstR ⟨l.toArray⟩
def hdN (l : Bs) : Nat := if okB ⟨l.toArray⟩ 0 = true then (Utf8.decode ⟨l.toArray⟩ 0).2 else 1
theorem hdN_eq {l : Bs} (h : l ≠ []) : fstN ⟨l.toArray⟩ = (hdN l : Int) := by
 unfold fstN hdN
 rw [if_pos (by rw [bsz]; cases l with | nil => exact absurd rfl h | cons a t => simp)]
 split <;> rfl
theorem hdR_eq {l : Bs} (h : l ≠ []) : hdR l = if okB ⟨l.toArray⟩ 0 = true then ((Utf8.decode ⟨l.toArray⟩ 0).1 : Int) else -1 := by
 unfold hdR fstR
 rw [if_pos (by rw [bsz]; cases l with | nil => exact absurd rfl h | cons a t => simp)]
theorem hdN_le {l : Bs} (h : l ≠ []) : 1 ≤ hdN l ∧ hdN l ≤ l.length := by
 have h1 := dec_w l h; have h2 := dec_le l h
 have h3 : 1 ≤ l.length := by cases l with | nil => exact absurd rfl h | cons a t => simp
 unfold hdN; split <;> omega
theorem hd_lo {b : UInt8} (t : Bs) (h : b.toNat < 128) : hdR (b :: t) = b.toNat ∧ hdN (b :: t) = 1 := by
 rw [hdR_eq (by simp)]
 unfold hdN
 rw [ok_lo b t h, if_pos rfl, if_pos rfl, dec_lo b t h]
 exact ⟨rfl, rfl⟩
theorem hd_hi {b : UInt8} (t : Bs) (h : 128 ≤ b.toNat) : hdR (b :: t) = -1 ∨ 128 ≤ hdR (b :: t) := by
 rw [hdR_eq (by simp)]
 have := dec_hi b t h
 split
 · right; omega
 · left; rfl
theorem hd_is (b : UInt8) (t : Bs) (k : Nat) (hk : k < 128) : (hdR (b :: t) = (k : Int)) ↔ b.toNat = k := by
 rcases Nat.lt_or_ge b.toNat 128 with h | h
 · rw [(hd_lo t h).1]; omega
 · rcases hd_hi t h with e | e <;> constructor <;> intro <;> omega
theorem first_at (_s : Bs) (l : Bs) (w : World) (h : l ≠ []) : Calls Tryz.prog 96 #[.string ⟨l.toArray⟩] w fun e w' => e = .returned (.tuple #[.int .i32 (hdR l), .int .i64 (hdN l : Int)]) ∧ Below w.heap.size w w' := by
 have := ref_first ⟨l.toArray⟩ w
 rw [hdN_eq h] at this
 exact this
theorem r_skip_no (s : Bs) (p : Nat) (b : UInt8) (t : Bs) (hd : s.drop p = b :: t) (hp : p ≤ s.length) (_hlim : s.length ≤ 1000000) (h10 : b.toNat ≠ 10) (h32 : b.toNat ≠ 32) (h9 : b.toNat ≠ 9) (h35 : b.toNat ≠ 35) (w : World) :
   Calls Tryz.prog 95 #[.string ⟨s.toArray⟩, .int .i64 (p : Int)] w (Ret2 (.int .i64 (p : Int)) (.bool true) w) := by
 have hz := bsz s
 have hsl := fun W => run_sl Tryz.underlying9 s p hp W
 rw [hd] at hsl
 have hpl : p < s.length := by have := congrArg List.length hd; simp at this; omega
 have hlt : decide (p < s.length) = true := decide_eq_true hpl
 have b10 : (hdR (b :: t) == 10) = false := beq_eq_false_iff_ne.2 (fun e => h10 ((hd_is b t 10 (by decide)).1 e))
 have b32 : (hdR (b :: t) == 32) = false := beq_eq_false_iff_ne.2 (fun e => h32 ((hd_is b t 32 (by decide)).1 e))
 have b9 : (hdR (b :: t) == 9) = false := beq_eq_false_iff_ne.2 (fun e => h9 ((hd_is b t 9 (by decide)).1 e))
 have b35 : (hdR (b :: t) == 35) = false := beq_eq_false_iff_ne.2 (fun e => h35 ((hd_is b t 35 (by decide)).1 e))
 have HF := hid (fun W => first_at s (b :: t) W (by simp))
 obtain ⟨c, hc⟩ : ∃ c, c = hdR (b :: t) := ⟨_, rfl⟩
 obtain ⟨n, hn⟩ : ∃ n, n = hdN (b :: t) := ⟨_, rfl⟩
 rw [← hc] at b10 b32 b9 b35
 rw [← hc, ← hn] at HF
 clear hc hn hd h10 h32 h9 h35
 go_enter Tryz.func95, Tryz.ntmps95
 go_wp2_with fail
 go_loopw [1, 6] (fun a i wr => a = .int .i64 (p : Int) ∧ i = .bool false ∧ wr = w) (fun _ _ _ => 0)
 case atStart => exact ⟨rfl, rfl, rfl⟩
 case round =>
   obtain ⟨rfl, rfl, rfl⟩ := hrel
   go_wp2_with fail
   refine (HF.out wr).mono ?_
   rintro e w1 ⟨rfl, hb1⟩
   have HB1 := hid hb1; clear hb1
   go_wp2_with fail
   go_ret2
   exact ⟨rfl, HB1.out⟩
def endsR (l : Bs) : Nat × Bool := (l.length - (remS l).length, (remS l).head? == none || (remS l).head? == some 10)
theorem r_skip_end (s : Bs) (p : Nat) (l : Bs) (hd : s.drop p = l) (hp : p ≤ s.length) (hlim : s.length ≤ 1000000) (he : endsS l = true) (w : World) :
   Calls Tryz.prog 95 #[.string ⟨s.toArray⟩, .int .i64 (p : Int)] w (Ret2 (.int .i64 ((p + (endsR l).1 : Nat) : Int)) (.bool (endsR l).2) w) := by
 have hz := bsz s
 have hrl : (remS l).length ≤ l.length := by unfold remS; split <;> simp
 have hll : p + l.length = s.length := by rw [← hd, List.length_drop]; omega
 obtain ⟨R, hR⟩ : ∃ R, R = remS l := ⟨_, rfl⟩
 have HRL : Hid (R.length ≤ l.length) := hid (by rw [hR]; exact hrl)
 have HER : Hid (endsR l = (l.length - R.length, R.head? == none || R.head? == some 10)) := hid (by rw [hR]; rfl)
 obtain ⟨q0, hq0⟩ : ∃ q0 : Nat, q0 = p + (endsR l).1 := ⟨_, rfl⟩
 obtain ⟨ok, hok⟩ : ∃ ok, ok = (endsR l).2 := ⟨_, rfl⟩
 rw [← hq0, ← hok]
 have HQ0 : Hid (q0 = s.length - R.length) := hid (by rw [hq0, HER.out]; have := HRL.out; simp only []; omega)
 have HOK : Hid (ok = (R.head? == none || R.head? == some 10)) := hid (by rw [hok, HER.out])
 have HLL := hid hll; have HRR := hid hR; have HE := hid he; have HD := hid hd
 clear hq0 hok hrl hll hR he hd
 go_enter Tryz.func95, Tryz.ntmps95
 go_wp2_with fail
 go_loopw [1, 6] (fun a i wr => ∃ (q : Nat) (l1 : Bs) (b : Bool), a = .int .i64 (q : Int) ∧ i = .bool b ∧ s.drop q = l1 ∧ q ≤ s.length ∧ Below w.heap.size w wr ∧ ((b = false ∧ l1 = l) ∨ (b = true ∧ rmS l1 = R))) (fun a _ _ => s.length - (RowKit.intOf a).toNat)
 case atStart => exact ⟨p, l, false, rfl, rfl, HD.out, hp, Below.refl _ _, .inl ⟨rfl, rfl⟩⟩
 case round =>
   obtain ⟨q, l1, b, rfl, rfl, hd1, hq, hbw, hst⟩ := hrel
   have HBW := hid hbw
   have hl1 : q + l1.length = s.length := by rw [← hd1, List.length_drop]; omega
   cases l1 with
   | nil =>
     have hlt : decide (q < s.length) = false := decide_eq_false (by simp at hl1; omega)
     have hRn : R = [] := by
       rcases hst with ⟨_, h⟩ | ⟨_, h⟩
       · rw [HRR.out, ← h]; rfl
       · rw [← h]; rfl
     have hqq : q0 = q := by rw [HQ0.out, hRn]; simp at hl1 ⊢; omega
     have hokk : ok = true := by rw [HOK.out, hRn]; rfl
     have HQQ := hid hqq; have HOKK := hid hokk
     clear hst hd1 hl1 hRn hqq hokk hbw
     go_wp2_with fail
     go_ret2
     exact ⟨by rw [HQQ.out, HOKK.out]; rfl, HBW.out⟩
   | cons x t =>
     have hql : q < s.length := by simp at hl1; omega
     have hlt : decide (q < s.length) = true := decide_eq_true hql
     have hsl := fun W => run_sl Tryz.underlying9 s q hq W
     rw [hd1] at hsl
     have HF := hid (fun W => first_at s (x :: t) W (by simp))
     have HHN := hid (hdN_le (l := x :: t) (by simp))
     obtain ⟨c, hc⟩ : ∃ c, c = hdR (x :: t) := ⟨_, rfl⟩
     obtain ⟨n, hn⟩ : ∃ n, n = hdN (x :: t) := ⟨_, rfl⟩
     rw [← hc, ← hn] at HF
     rw [← hn] at HHN
     have HC := hid hc; have HNN := hid hn; have HD1 := hid hd1; have HL1 := hid hl1
     have hnb : n ≤ 1000000 := by have := HHN.out; have := HL1.out; omega
     have hqb : q ≤ 1000000 := by omega
     clear hd1 hl1 hbw hc hn
     rcases hst with ⟨rfl, hl⟩ | ⟨rfl, hrm⟩
     · -- at its beginning
       have hx : x.toNat = 10 ∨ x.toNat = 35 := by
         have := HE.out
         rw [← hl, endsS_cons] at this
         simp at this
         omega
       rcases hx with h10 | h35
       · have hcv : c = 10 := by rw [HC.out]; exact (hd_is x t 10 (by decide)).2 h10
         have hxx : x = 10 := UInt8.toNat_inj.1 h10
         have hRn : R = x :: t := by rw [HRR.out, ← hl]; unfold remS; rw [if_neg (by rw [hxx]; simp)]
         have hqq : q0 = q := by rw [HQ0.out, hRn]; have := HL1.out; simp at this ⊢; omega
         have hokk : ok = true := by rw [HOK.out, hRn, hxx]; rfl
         have HQQ := hid hqq; have HOKK := hid hokk
         subst hcv
         clear hl hRn hqq hokk h10 hxx
         go_wp2_with fail
         refine (HF.out wr).mono ?_
         rintro e w1 ⟨rfl, hb1⟩
         have HB1 := hid (HBW.out.trans (hb1.mono HBW.out.size)); clear hb1
         go_wp2_with fail
         go_ret2
         exact ⟨by rw [HQQ.out, HOKK.out]; rfl, HB1.out⟩
       · have hcv : c = 35 := by rw [HC.out]; exact (hd_is x t 35 (by decide)).2 h35
         have hn1 : n = 1 := by rw [HNN.out]; exact (hd_lo t (by omega)).2
         have hxx : x = 35 := UInt8.toNat_inj.1 h35
         have hrs : rmS t = R := by
           rw [HRR.out, ← hl, rmS_rem (by rw [hxx]; rfl)]
           have hdec := dec_lo x t (by omega)
           rw [rmS_step (l := x :: t) (by simp) (by rw [ok_lo x t (by omega), hdec]; simp only [Bool.true_and]; rw [h35]; rfl), hdec]
           rfl
         have HRS := hid hrs
         subst hcv hn1
         clear hl h35 hxx hrs
         go_wp2_with fail
         refine (HF.out wr).mono ?_
         rintro e w1 ⟨rfl, hb1⟩
         have HB1 := hid (HBW.out.trans (hb1.mono HBW.out.size)); clear hb1
         go_wp2_with fail
         go_roundw
         case rel => exact ⟨q + 1, t, true, by go_num, rfl, by have := congrArg List.tail HD1.out; simpa [List.tail_drop] using this, by omega, HB1.out, .inr ⟨rfl, HRS.out⟩⟩
         case measure => simp [RowKit.intOf]; omega
     · -- inside
       have hceq := hdR_eq (l := x :: t) (by simp)
       have hstep : remB c = true → rmS ((x :: t).drop n) = R := fun hb => by
         have hok : okB ⟨(x :: t).toArray⟩ 0 = true := by
           apply Classical.byContradiction; intro hno
           rw [if_neg hno, ← HC.out] at hceq
           rw [hceq] at hb; revert hb; decide
         rw [if_pos hok, ← HC.out] at hceq
         have hnn : n = (Utf8.decode ⟨(x :: t).toArray⟩ 0).2 := by rw [HNN.out]; unfold hdN; rw [if_pos hok]
         rw [← hrm, rmS_step (l := x :: t) (by simp) (by rw [hok, ← hceq, hb]; rfl), ← hnn]
       have hstop : remB c = false → R = x :: t := fun hb => by
         rw [← hrm]
         refine rmS_stop (l := x :: t) (by simp) ?_
         by_cases hok : okB ⟨(x :: t).toArray⟩ 0 = true
         · rw [if_pos hok, ← HC.out] at hceq
           rw [hok, ← hceq, hb]; rfl
         · rw [show okB ⟨(x :: t).toArray⟩ 0 = false by simpa using hok]; rfl
       have HSTEP := hid hstep; have HSTOP := hid hstop
       have H10 := hid (hd_is x t 10 (by decide))
       rw [← HC.out] at H10
       clear hrm hceq hstep hstop
       by_cases h10 : c = 10
       · have hxx : x = 10 := UInt8.toNat_inj.1 (H10.out.1 h10)
         have hRn : R = x :: t := HSTOP.out (by rw [h10]; rfl)
         have hqq : q0 = q := by rw [HQ0.out, hRn]; have := HL1.out; simp at this ⊢; omega
         have hokk : ok = true := by rw [HOK.out, hRn, hxx]; rfl
         have HQQ := hid hqq; have HOKK := hid hokk
         subst h10
         clear hRn hqq hokk hxx
         go_wp2_with fail
         refine (HF.out wr).mono ?_
         rintro e w1 ⟨rfl, hb1⟩
         have HB1 := hid (HBW.out.trans (hb1.mono HBW.out.size)); clear hb1
         go_wp2_with fail
         go_ret2
         exact ⟨by rw [HQQ.out, HOKK.out]; rfl, HB1.out⟩
       · have b10 : (c == 10) = false := beq_eq_false_iff_ne.2 h10
         by_cases h32 : c < 32
         · have b32 : decide (c < 32) = true := decide_eq_true h32
           by_cases h9 : c = 9
           · have hst := HSTEP.out (by rw [h9]; rfl)
             have HST := hid hst
             subst h9
             clear hst h10 h32
             go_wp2_with fail
             refine (HF.out wr).mono ?_
             rintro e w1 ⟨rfl, hb1⟩
             have HB1 := hid (HBW.out.trans (hb1.mono HBW.out.size)); clear hb1
             go_wp2_with fail
             go_roundw
             case rel => exact ⟨q + n, (x :: t).drop n, true, by go_num, rfl, by rw [← List.drop_drop, HD1.out], by have := HHN.out; have := HL1.out; omega, HB1.out, .inr ⟨rfl, HST.out⟩⟩
             case measure => have := HHN.out; have := HL1.out; simp [RowKit.intOf]; omega
           · have b9 : (c != 9) = true := by simpa using h9
             have hrb : remB c = false := by unfold remB; rw [decide_eq_false (by omega), beq_eq_false_iff_ne.2 h9]; rfl
             have hRn : R = x :: t := HSTOP.out hrb
             have hxne : x.toNat ≠ 10 := fun e => h10 (H10.out.2 e)
             have hqq : q0 = q := by rw [HQ0.out, hRn]; have := HL1.out; simp at this ⊢; omega
             have hokk : ok = false := by rw [HOK.out, hRn]; simp; intro e; exact hxne (by rw [e]; rfl)
             have HQQ := hid hqq; have HOKK := hid hokk
             clear hRn hqq hokk hxne hrb h10 h9 h32
             go_wp2_with fail
             refine (HF.out wr).mono ?_
             rintro e w1 ⟨rfl, hb1⟩
             have HB1 := hid (HBW.out.trans (hb1.mono HBW.out.size)); clear hb1
             go_wp2_with fail
             go_ret2
             exact ⟨by rw [HQQ.out, HOKK.out]; rfl, HB1.out⟩
         · have b32 : decide (c < 32) = false := decide_eq_false h32
           have hst := HSTEP.out (by unfold remB; rw [decide_eq_true (by omega)]; rfl)
           have HST := hid hst
           clear hst h10 h32
           go_wp2_with fail
           refine (HF.out wr).mono ?_
           rintro e w1 ⟨rfl, hb1⟩
           have HB1 := hid (HBW.out.trans (hb1.mono HBW.out.size)); clear hb1
           go_wp2_with fail
           go_roundw
           case rel => exact ⟨q + n, (x :: t).drop n, true, by go_num, rfl, by rw [← List.drop_drop, HD1.out], by have := HHN.out; have := HL1.out; omega, HB1.out, .inr ⟨rfl, HST.out⟩⟩
           case measure => have := HHN.out; have := HL1.out; simp [RowKit.intOf]; omega
end Yd


namespace Yd
open Go Go.RowKit Go.Proofs

theorem decN_take (n n' b0 b1 b2 b3 c1 c2 c3 r w : Nat) (hw : Lib.decodeN n b0 b1 b2 b3 = (r, w)) (hv : ¬ (r = 65533 ∧ w = 1)) (hn : w ≤ n') (h1 : 1 < w → c1 = b1) (h2 : 2 < w → c2 = b2) (h3 : 3 < w → c3 = b3) : Lib.decodeN n' b0 c1 c2 c3 = (r, w) := by
 unfold Lib.decodeN at hw
 split at hw
 · rename_i h
   unfold Lib.decodeN
   rw [if_pos h]; exact hw
 · rename_i hA
   split at hw
   · rename_i h
     split at hw
     · rename_i hk
       injection hw with e1 e2
       subst e2
       obtain rfl := h1 (by omega)
       unfold Lib.decodeN
       rw [if_neg hA, if_pos ⟨h.1, by omega, h.2.2⟩, if_pos hk, e1]
     · injection hw with e1 e2; exact absurd ⟨e1.symm, e2.symm⟩ hv
   · rename_i hB
     split at hw
     · rename_i h
       split at hw
       · rename_i hk
         injection hw with e1 e2
         subst e2
         obtain rfl := h1 (by omega)
         obtain rfl := h2 (by omega)
         unfold Lib.decodeN
         rw [if_neg hA, if_neg (by omega), if_pos ⟨h.1, ⟨by omega, h.2.1.2⟩, by omega, h.2.2.2⟩, if_pos hk, e1]
       · injection hw with e1 e2; exact absurd ⟨e1.symm, e2.symm⟩ hv
     · rename_i hC
       split at hw
       · rename_i h
         split at hw
         · rename_i hk
           injection hw with e1 e2
           subst e2
           obtain rfl := h1 (by omega)
           obtain rfl := h2 (by omega)
           obtain rfl := h3 (by omega)
           unfold Lib.decodeN
           rw [if_neg hA, if_neg (by omega), if_neg (by omega), if_pos ⟨h.1, ⟨by omega, h.2.1.2⟩, ⟨by omega, h.2.2.1.2⟩, by omega, h.2.2.2.2⟩, if_pos hk, e1]
         · injection hw with e1 e2; exact absurd ⟨e1.symm, e2.symm⟩ hv
       · injection hw with e1 e2; exact absurd ⟨e1.symm, e2.symm⟩ hv
theorem ok_ne {l : Bs} (h : okB ⟨l.toArray⟩ 0 = true) : ¬ ((Utf8.decode ⟨l.toArray⟩ 0).1 = 65533 ∧ (Utf8.decode ⟨l.toArray⟩ 0).2 = 1) := by
 rintro ⟨h1, h2⟩
 unfold okB at h
 rw [h1, h2] at h
 simp at h
theorem getD_take0 (l : Bs) (m k : Nat) (h : k < m) : (l.take m).getD k 0 = l.getD k 0 := by simp [List.getD, h]
theorem dec_nums (l : Bs) : Utf8.decode ⟨l.toArray⟩ 0 = Lib.decodeN l.length (l.getD 0 0).toNat (l.getD 1 0).toNat (l.getD 2 0).toNat (l.getD 3 0).toNat := by
 have := Lib.decode_N ⟨l.toArray⟩ 0
 simpa using this
theorem dec_take {l : Bs} {m : Nat} (h : okB ⟨l.toArray⟩ 0 = true) (hm : (Utf8.decode ⟨l.toArray⟩ 0).2 ≤ m) (hl : (Utf8.decode ⟨l.toArray⟩ 0).2 ≤ l.length) (h0 : 0 < m) : Utf8.decode ⟨(l.take m).toArray⟩ 0 = Utf8.decode ⟨l.toArray⟩ 0 := by
 have hv := ok_ne h
 have hx := dec_nums l
 obtain ⟨r, w, hq⟩ : ∃ r w, Utf8.decode ⟨l.toArray⟩ 0 = (r, w) := ⟨_, _, rfl⟩
 rw [hq] at hx hm hl hv ⊢
 simp only at hm hl hv
 rw [dec_nums (l.take m), getD_take0 l m 0 h0]
 refine decN_take l.length _ _ _ _ _ _ _ _ r w hx.symm hv (by rw [List.length_take]; omega) (fun h1 => ?_) (fun h1 => ?_) (fun h1 => ?_)
 · rw [getD_take0 l m 1 (by omega)]
 · rw [getD_take0 l m 2 (by omega)]
 · rw [getD_take0 l m 3 (by omega)]
theorem pos_cons (l : Bs) (h : l ≠ []) : posFrom ⟨l.toArray⟩ l.length 0 = 0 :: (posFrom ⟨(l.drop (Utf8.decode ⟨l.toArray⟩ 0).2).toArray⟩ (l.drop (Utf8.decode ⟨l.toArray⟩ 0).2).length 0).map ((Utf8.decode ⟨l.toArray⟩ 0).2 + ·) := by
 obtain ⟨d, hd⟩ : ∃ d, d = (Utf8.decode ⟨l.toArray⟩ 0).2 := ⟨_, rfl⟩
 have hw := dec_w l h
 rw [← hd] at hw ⊢
 obtain ⟨n, hn⟩ : ∃ n, l.length = n + 1 := ⟨l.length - 1, by have : l.length ≠ 0 := fun e => h (List.eq_nil_of_length_eq_zero e); omega⟩
 rw [hn]
 simp only [posFrom, bsz]
 rw [if_pos (by omega), ← hd, Nat.zero_add, ← Nat.add_zero d, posFrom_add, Nat.add_zero, posFrom_fuel ⟨(l.drop d).toArray⟩ n (l.drop d).length 0 (by rw [bsz, List.length_drop]; omega) (by rw [bsz]; omega)]
theorem runS_step {l : Bs} (h : l ≠ []) (hk : (okB ⟨l.toArray⟩ 0 && eitB ((Utf8.decode ⟨l.toArray⟩ 0).1 : Int)) = true) : runS l = (Utf8.decode ⟨l.toArray⟩ 0).2 + runS (l.drop (Utf8.decode ⟨l.toArray⟩ 0).2) := by
 unfold runS; rw [whileE_cons l eitB h, if_pos hk]
theorem runS_stop {l : Bs} (h : l ≠ []) (hk : (okB ⟨l.toArray⟩ 0 && eitB ((Utf8.decode ⟨l.toArray⟩ 0).1 : Int)) = false) : runS l = 0 := by
 unfold runS; rw [whileE_cons l eitB h, hk]; rfl
theorem runS_le (l : Bs) : runS l ≤ l.length := whileE_le eitB _ l (Nat.le_refl _)
def WordAt (l : Bs) (k : Nat) : Prop := k ≤ runS l ∧ k + runS (l.drop k) = runS l ∧
 ∃ pre : List Nat, posFrom ⟨(l.take (runS l)).toArray⟩ (l.take (runS l)).length 0 = pre ++ (posFrom ⟨((l.take (runS l)).drop k).toArray⟩ ((l.take (runS l)).drop k).length 0).map (k + ·) ∧ ∀ x ∈ pre, x < k
theorem WordAt.zero (l : Bs) : WordAt l 0 := ⟨Nat.zero_le _, by simp, [], by simp, by simp⟩
theorem take_drop_run {l : Bs} {k : Nat} (h : k + runS (l.drop k) = runS l) : (l.take (runS l)).drop k = (l.drop k).take (runS (l.drop k)) := by
 rw [← h, List.drop_take]; congr 1; omega
theorem WordAt.step {l : Bs} {k : Nat} (h : WordAt l k) (hne : l.drop k ≠ []) (hk : (okB ⟨(l.drop k).toArray⟩ 0 && eitB ((Utf8.decode ⟨(l.drop k).toArray⟩ 0).1 : Int)) = true) :
   WordAt l (k + (Utf8.decode ⟨(l.drop k).toArray⟩ 0).2) ∧ (24 < k + (Utf8.decode ⟨(l.drop k).toArray⟩ 0).2 → k ≤ 24 → 24 < runS l ∧ longS (l.take (runS l)) = k) := by
 obtain ⟨h1, h2, pre, hp, hx⟩ := h
 have hst := runS_step hne hk
 obtain ⟨n, hn⟩ : ∃ n, n = (Utf8.decode ⟨(l.drop k).toArray⟩ 0).2 := ⟨_, rfl⟩
 have hok : okB ⟨(l.drop k).toArray⟩ 0 = true := by
   revert hk; cases okB ⟨(l.drop k).toArray⟩ 0 <;> simp
 have hn1 := dec_w (l.drop k) hne
 have hn2 := dec_le (l.drop k) hne
 rw [← hn] at hst hn1 hn2 ⊢
 rw [List.drop_drop] at hst
 have htd := take_drop_run h2
 have hdec : Utf8.decode ⟨((l.take (runS l)).drop k).toArray⟩ 0 = Utf8.decode ⟨(l.drop k).toArray⟩ 0 := by
   rw [htd]; exact dec_take hok (by rw [← hn]; omega) (by rw [← hn]; exact hn2) (by omega)
 have hne2 : (l.take (runS l)).drop k ≠ [] := by
   rw [htd]; intro e
   have := congrArg List.length e
   rw [List.length_take] at this
   simp only [List.length_nil] at this
   have := List.length_pos_iff.2 hne
   omega
 have hpc := pos_cons _ hne2
 rw [hdec, ← hn, List.drop_drop] at hpc
 have hall : posFrom ⟨(l.take (runS l)).toArray⟩ (l.take (runS l)).length 0 = (pre ++ [k]) ++ (posFrom ⟨((l.take (runS l)).drop (k + n)).toArray⟩ ((l.take (runS l)).drop (k + n)).length 0).map ((k + n) + ·) := by
   rw [hp, hpc]
   simp [List.map_map, Function.comp_def, Nat.add_assoc]
 refine ⟨⟨by omega, by omega, pre ++ [k], hall, fun x hxm => ?_⟩, fun h24 hk24 => ⟨by omega, ?_⟩⟩
 · rcases List.mem_append.1 hxm with hxm | hxm
   · have := hx x hxm; omega
   · obtain rfl : x = k := by simpa using hxm
     omega
 · unfold longS
   rw [hall, List.filter_append, filter_all _ (pre ++ [k]) (fun x hxm => ?_), filter_no _ _ (fun x hxm => ?_)]
   · simp
   · obtain ⟨y, _, rfl⟩ := List.mem_map.1 hxm
     exact decide_eq_false (by omega)
   · rcases List.mem_append.1 hxm with hxm | hxm
     · have := hx x hxm; exact decide_eq_true (by omega)
     · obtain rfl : x = k := by simpa using hxm
       exact decide_eq_true hk24
end Yd


namespace Yd
open Go Go.RowKit Go.Proofs

theorem r_word2 (s : Bs) (p : Nat) (l : Bs) (hd : s.drop p = l) (hp : p ≤ s.length) (hlim : s.length ≤ 1000000) (w : World) :
   Calls Tryz.prog 100 #[.string ⟨s.toArray⟩, .int .i64 (p : Int)] w (Ret2 (.int .i64 ((p + (if 24 < runS l then longS (l.take (runS l)) else runS l) : Nat) : Int)) (.bool (!decide (24 < runS l))) w) := by
 have hz := bsz s
 have hll : p + l.length = s.length := by rw [← hd, List.length_drop]; omega
 obtain ⟨k0, hk0⟩ : ∃ k0, k0 = (if 24 < runS l then longS (l.take (runS l)) else runS l) := ⟨_, rfl⟩
 obtain ⟨ok, hok⟩ : ∃ ok, ok = !decide (24 < runS l) := ⟨_, rfl⟩
 rw [← hk0, ← hok]
 have HK0 := hid hk0; have HOK := hid hok; have HLL := hid hll; have HD := hid hd
 clear hk0 hok hll hd
 go_enter Tryz.func100, Tryz.ntmps100
 go_wp2_with fail
 go_loopw [1] (fun a wr => ∃ (k : Nat), a = .int .i64 ((p + k : Nat) : Int) ∧ k ≤ 24 ∧ WordAt l k ∧ Below w.heap.size w wr) (fun a _ => s.length - (RowKit.intOf a).toNat)
 case atStart => exact ⟨0, rfl, by omega, WordAt.zero l, Below.refl _ _⟩
 case round =>
   obtain ⟨k, rfl, hk24, hwa, hbw⟩ := hrel
   have HBW := hid hbw; have HWA := hid hwa
   have hkl : k ≤ l.length := Nat.le_trans hwa.1 (runS_le l)
   have hd1 : s.drop (p + k) = l.drop k := by rw [← List.drop_drop, HD.out]
   have hpb : p ≤ 1000000 := by omega
   clear hbw hwa
   by_cases hlt : k < l.length
   · have hne : l.drop k ≠ [] := fun e => by have := congrArg List.length e; rw [List.length_drop] at this; simp at this; omega
     have hltd : decide ((p : Int) + (k : Int) < (s.length : Int)) = true := by have := HLL.out; simp only [decide_eq_true_eq]; omega
     have hsl := fun W => run_sl Tryz.underlying9 s (p + k) (by have := HLL.out; omega) W
     rw [hd1, Int.natCast_add] at hsl
     have HF := hid (fun W => first_at s (l.drop k) W hne)
     have HHN := hid (hdN_le hne); have HRE := hid (hdR_eq hne)
     obtain ⟨c, hc⟩ : ∃ c, c = hdR (l.drop k) := ⟨_, rfl⟩
     obtain ⟨n, hn⟩ : ∃ n, n = hdN (l.drop k) := ⟨_, rfl⟩
     rw [← hc, ← hn] at HF
     rw [← hn] at HHN
     have HC := hid hc; have HNN := hid hn; have HNE := hid hne
     have hnb : n ≤ 1000000 := by have := HHN.out; rw [List.length_drop] at this; have := HLL.out; omega
     have HST : Hid (eitB c = true → WordAt l (k + n) ∧ (24 < k + n → 24 < runS l ∧ longS (l.take (runS l)) = k)) := hid (fun he => by
       have hr := HRE.out
       rw [← HC.out] at hr
       have hok : okB ⟨(l.drop k).toArray⟩ 0 = true := by
         apply Classical.byContradiction; intro hno
         rw [if_neg hno] at hr
         rw [hr] at he; revert he; decide
       rw [if_pos hok] at hr
       have hnn : n = (Utf8.decode ⟨(l.drop k).toArray⟩ 0).2 := by rw [HNN.out]; unfold hdN; rw [if_pos hok]
       have := HWA.out.step HNE.out (by rw [hok, ← hr, he]; rfl)
       rw [← hnn] at this
       exact ⟨this.1, fun h => this.2 h hk24⟩)
     have HSP : Hid (eitB c = false → runS l = k) := hid (fun he => by
       have h2 := HWA.out.2.1
       rw [runS_stop HNE.out (by
         have hr := HRE.out
         rw [← HC.out] at hr
         by_cases hok : okB ⟨(l.drop k).toArray⟩ 0 = true
         · rw [if_pos hok] at hr; rw [hok, ← hr, he]; rfl
         · rw [show okB ⟨(l.drop k).toArray⟩ 0 = false by simpa using hok]; rfl)] at h2
       omega)
     have HLET := hid (fun W => ref_letter c W); have HDIG := hid (fun W => ref_digit c W)
     have hei : eitB c = (letB c || numB c) := rfl
     clear hd1 hne hc hn hlt
     go_wp2_with fail
     refine (HF.out wr).mono ?_
     rintro e w1 ⟨rfl, hb1⟩
     have HB1 := hid (HBW.out.trans (hb1.mono HBW.out.size)); clear hb1
     go_wp2_with fail
     refine (HLET.out w1).mono ?_
     rintro e w2 ⟨rfl, hb2⟩
     have HB2 := hid (HB1.out.trans (hb2.mono HB1.out.size)); clear hb2
     have hbig : ∀ (W : World), Below w.heap.size w W → eitB c = true → True := fun _ _ _ => trivial
     clear hbig
     cases hl : letB c
     · cases hnu : numB c
       · rw [hnu] at HDIG
         have hr := HSP.out (by rw [hei, hl, hnu]; rfl)
         have hkk : k0 = k := by rw [HK0.out, hr, if_neg (by omega)]
         have hoo : ok = true := by rw [HOK.out, hr]; simp; omega
         have HKK := hid hkk; have HOO := hid hoo
         clear hr hkk hoo hei hl hnu
         go_wp2_with fail
         refine (HDIG.out w2).mono ?_
         rintro e w3 ⟨rfl, hb3⟩
         have HB3 := hid (HB2.out.trans (hb3.mono HB2.out.size)); clear hb3
         go_wp2_with fail
         go_ret2
         exact ⟨by rw [HKK.out, HOO.out]; rfl, HB3.out⟩
       · rw [hnu] at HDIG
         have hs := HST.out (by rw [hei, hl, hnu]; rfl)
         have HSS := hid hs
         clear hs hei hl hnu
         go_wp2_with fail
         refine (HDIG.out w2).mono ?_
         rintro e w3 ⟨rfl, hb3⟩
         have HB3 := hid (HB2.out.trans (hb3.mono HB2.out.size)); clear hb3
         by_cases h24 : 24 < k + n
         · have hsub : (p : Int) + (k : Int) + (n : Int) - (p : Int) = (k : Int) + (n : Int) := by omega
           have hg : decide ((24 : Int) < (k : Int) + (n : Int)) = true := by simp only [decide_eq_true_eq]; omega
           have hlo := HSS.out.2 h24
           have hkk : k0 = k := by rw [HK0.out, if_pos hlo.1, hlo.2]
           have hoo : ok = false := by rw [HOK.out]; simp; exact hlo.1
           have HKK := hid hkk; have HOO := hid hoo
           clear hkk hoo hlo h24
           go_wp2_with fail
           go_ret2
           exact ⟨by rw [HKK.out, HOO.out]; rfl, HB3.out⟩
         · have hsub : (p : Int) + (k : Int) + (n : Int) - (p : Int) = (k : Int) + (n : Int) := by omega
           have hg : decide ((24 : Int) < (k : Int) + (n : Int)) = false := by simp only [decide_eq_false_iff_not]; omega
           have H24 := hid h24
           clear h24
           go_wp2_with fail
           go_roundw
           case rel => exact ⟨k + n, by go_num, by have := H24.out; omega, HSS.out.1, HB3.out⟩
           case measure => have := HHN.out; rw [List.length_drop] at this; have := HLL.out; simp [RowKit.intOf]; omega
     · have hs := HST.out (by rw [hei, hl]; rfl)
       have HSS := hid hs
       clear hs hei hl
       by_cases h24 : 24 < k + n
       · have hsub : (p : Int) + (k : Int) + (n : Int) - (p : Int) = (k : Int) + (n : Int) := by omega
         have hg : decide ((24 : Int) < (k : Int) + (n : Int)) = true := by simp only [decide_eq_true_eq]; omega
         have hlo := HSS.out.2 h24
         have hkk : k0 = k := by rw [HK0.out, if_pos hlo.1, hlo.2]
         have hoo : ok = false := by rw [HOK.out]; simp; exact hlo.1
         have HKK := hid hkk; have HOO := hid hoo
         clear hkk hoo hlo h24
         go_wp2_with fail
         go_ret2
         exact ⟨by rw [HKK.out, HOO.out]; rfl, HB2.out⟩
       · have hsub : (p : Int) + (k : Int) + (n : Int) - (p : Int) = (k : Int) + (n : Int) := by omega
         have hg : decide ((24 : Int) < (k : Int) + (n : Int)) = false := by simp only [decide_eq_false_iff_not]; omega
         have H24 := hid h24
         clear h24
         go_wp2_with fail
         go_roundw
         case rel => exact ⟨k + n, by go_num, by have := H24.out; omega, HSS.out.1, HB2.out⟩
         case measure => have := HHN.out; rw [List.length_drop] at this; have := HLL.out; simp [RowKit.intOf]; omega
   · have hltd : decide ((p : Int) + (k : Int) < (s.length : Int)) = false := by have := HLL.out; simp only [decide_eq_false_iff_not]; omega
     have hr : runS l = k := by have := HWA.out.1; have := runS_le l; omega
     have hkk : k0 = k := by rw [HK0.out, hr, if_neg (by omega)]
     have hoo : ok = true := by rw [HOK.out, hr]; simp; omega
     have HKK := hid hkk; have HOO := hid hoo
     clear hr hkk hoo hd1
     go_wp2_with fail
     go_ret2
     exact ⟨by rw [HKK.out, HOO.out]; rfl, HBW.out⟩
end Yd


namespace Yd
open Go Go.RowKit Go.Proofs

theorem r01_above (a b : Bs) (w : World) : Calls Tryz.prog 143 #[.string ⟨a.toArray⟩, .string ⟨b.toArray⟩] w (fun e w' => (∃ q : Bool, e = .returned (.bool q)) ∧ Below w.heap.size w w') := by
 have hz := bsz a; have hz2 := bsz b
 cases h1 : decide (b.length < a.length)
 · cases h2 : ((a.length : Int) == (b.length : Int))
   all_goals
     go_enter Tryz.func143, Tryz.ntmps143
     go_wp2_with fail
     go_ret
     exact ⟨⟨_, rfl⟩, Below.refl _ _⟩
 · go_enter Tryz.func143, Tryz.ntmps143
   go_wp2_with fail
   go_ret
   exact ⟨⟨_, rfl⟩, Below.refl _ _⟩
theorem r01_Read (b : UInt8) (t : Bs) (h45 : b.toNat ≠ 45) (hlim : (b :: t).length ≤ 1000000) (w : World) : Calls Tryz.prog 128 #[.string ⟨(b :: t).toArray⟩] w (fun e w' => (∃ (n : Int) (q : Bool), e = .returned (.tuple #[.int .i64 n, .bool q])) ∧ Below w.heap.size w w') := by
 have hz := bsz (b :: t)
 have hi0 : ∀ W, (Instr.index 9 (.string ⟨(b :: t).toArray⟩) (.int .i64 0)).run Tryz.prog W = .ok (.int .u8 (b.toNat : Int)) W := fun W => run_ix Tryz.underlying9 (b :: t) 0 b rfl W
 have hb : ((b.toNat : Int) == 45) = false := beq_eq_false_iff_ne.2 (by omega)
 have HAB := hid (fun W => r01_above (b :: t) [57, 50, 50, 51, 51, 55, 50, 48, 51, 54, 56, 53, 52, 55, 55, 53, 56, 48, 55] W)
 obtain ⟨l, hl⟩ : ∃ l, l = b :: t := ⟨_, rfl⟩
 rw [← hl] at hz hi0 HAB hlim ⊢
 clear hl
 go_enter Tryz.func128, Tryz.ntmps128
 go_wp2_with fail
 refine (HAB.out _).mono ?_
 rintro e w1 ⟨⟨q, rfl⟩, hb1⟩
 have HB1 := hid hb1; clear hb1
 cases q
 · go_wp2_with fail
   go_loopw [6, 35] (fun n i wr => ∃ (m : Int) (k : Nat), n = .int .i64 m ∧ i = .int .i64 k ∧ k ≤ l.length ∧ Below w.heap.size w wr) (fun _ i _ => l.length - (RowKit.intOf i).toNat)
   case atStart => exact ⟨0, 0, rfl, rfl, Nat.zero_le _, HB1.out⟩
   case round =>
     obtain ⟨m, k, rfl, rfl, hk, hbw⟩ := hrel
     have HBW := hid hbw; clear hbw
     by_cases hlt : k < l.length
     · obtain ⟨x, hx⟩ : ∃ x, l[k]? = some x := ⟨_, List.getElem?_eq_getElem hlt⟩
       have hix := fun W => run_ix Tryz.underlying9 l k x hx W
       clear hx
       go_wp2_with fail
       go_roundw
       case rel => exact ⟨_, k + 1, rfl, by go_num, by omega, HBW.out⟩
       case measure => simp [RowKit.intOf]; omega
     · go_wp2_with fail
       go_ret2
       exact ⟨⟨_, _, rfl⟩, HBW.out⟩
 · go_wp2_with fail
   go_ret2
   exact ⟨⟨_, _, rfl⟩, HB1.out⟩
theorem r_number (s : Bs) (p : Nat) (b : UInt8) (t : Bs) (hd : s.drop p = b :: t) (hp : p ≤ s.length) (hlim : s.length ≤ 1000000) (hb1 : 48 ≤ b.toNat) (hb2 : b.toNat ≤ 57) (w : World) :
   Calls Tryz.prog 98 #[.string ⟨s.toArray⟩, .int .i64 (p : Int)] w (fun e w' => (∃ (u : Bs) (k er : Int), e = .returned (.tuple #[.string ⟨u.toArray⟩, .int .i64 k, .int .i64 er]) ∧ u.length ≤ 1000000) ∧ Below w.heap.size w w') := by
 have hz := bsz s
 have hll : p + (b :: t).length = s.length := by rw [← hd, List.length_drop]; omega
 have hpb : p ≤ 1000000 := by omega
 have hbp : s[p]? = some b := by have := congrArg (fun l => l[0]?) hd; simpa using this
 have hib := fun W => run_ix Tryz.underlying9 s p b hbp W
 have HAT := hid (fun (k : Nat) (x : UInt8) (hx : (b :: t)[k]? = some x) => (show s[p + k]? = some x by rw [← hd, List.getElem?_drop] at hx; exact hx))
 have HLL := hid hll; have HD := hid hd
 clear hll hbp hd
 go_enter Tryz.func98, Tryz.ntmps98
 go_wp2_with fail
 go_loopw [7] (fun a wr => ∃ (k : Nat), a = .int .i64 ((p + k : Nat) : Int) ∧ k ≤ (b :: t).length ∧ Below w.heap.size w wr) (fun a _ => s.length - (RowKit.intOf a).toNat)
 case atStart => exact ⟨0, rfl, Nat.zero_le _, Below.refl _ _⟩
 case round =>
   obtain ⟨k, rfl, hk, hbw⟩ := hrel
   have HBW := hid hbw; clear hbw
   have hkb : k ≤ 1000000 := by have := HLL.out; omega
   have hsl := fun W => run_slb Tryz.underlying9 s p (p + k) (by omega) (by have := HLL.out; omega) W
   rw [HD.out, Nat.add_sub_cancel_left, Int.natCast_add] at hsl
   have HRD : Hid (1 ≤ k → ∀ W, Calls Tryz.prog 128 #[.string ⟨((b :: t).take k).toArray⟩] W (fun e w' => (∃ (n : Int) (q : Bool), e = .returned (.tuple #[.int .i64 n, .bool q])) ∧ Below W.heap.size W w')) := hid (fun h1 W => by
     obtain ⟨j, rfl⟩ : ∃ j, k = j + 1 := ⟨k - 1, by omega⟩
     rw [List.take_succ_cons]
     exact r01_Read b (t.take j) (by omega) (by have := HLL.out; simp only [List.length_cons, List.length_take] at this ⊢; omega) W)
   have HTL : Hid (((b :: t).take k).length ≤ 1000000) := hid (by rw [List.length_take]; omega)
   by_cases hlt : k < (b :: t).length
   · have hltd : decide ((p : Int) + (k : Int) < (s.length : Int)) = true := by have := HLL.out; simp only [decide_eq_true_eq]; omega
     obtain ⟨x, hx⟩ : ∃ x, (b :: t)[k]? = some x := ⟨_, List.getElem?_eq_getElem hlt⟩
     have hix := fun W => run_ix Tryz.underlying9 s (p + k) x (HAT.out k x hx) W
     rw [Int.natCast_add] at hix
     have hxl : x.toNat < 256 := x.toNat_lt
     have HDG := hid (fun W => ref_digit (x.toNat : Int) W)
     have HX := hid hx
     cases hnu : numB (x.toNat : Int)
     · rw [hnu] at HDG
       have hk1 : 1 ≤ k := by
         rcases Nat.eq_zero_or_pos k with h | h
         · subst h
           obtain rfl : b = x := by simpa using hx
           exfalso; revert hnu; unfold numB; simp; omega
         · exact h
       replace HRD := hid (HRD.out hk1)
       have HK1 := hid hk1
       clear hx hnu hk1 hlt
       go_wp2_with fail
       refine (HDG.out wr).mono ?_
       rintro e w3 ⟨rfl, hb3⟩
       have HB3 := hid (HBW.out.trans (hb3.mono HBW.out.size)); clear hb3
       go_wp2_with fail
       refine (HRD.out _).mono ?_
       rintro e w4 ⟨⟨n, q, rfl⟩, hb4⟩
       have HB4 := hid (HB3.out.trans (hb4.mono HB3.out.size)); clear hb4
       cases q
       · go_wp2_with fail
         go_ret3
         exact ⟨⟨[], _, _, rfl, by simp⟩, HB4.out⟩
       · go_wp2_with fail
         go_ret3
         exact ⟨⟨_, _, _, rfl, HTL.out⟩, HB4.out⟩
     · rw [hnu] at HDG
       clear hnu
       rcases Nat.eq_zero_or_pos k with h0 | h1
       · subst h0
         obtain rfl : b = x := by simpa using hx
         have hlt0 : decide (p < s.length) = true := by have := HLL.out; simp only [decide_eq_true_eq]; simp at this; omega
         clear hx
         go_wp2_with fail
         refine (HDG.out wr).mono ?_
         rintro e w3 ⟨rfl, hb3⟩
         have HB3 := hid (HBW.out.trans (hb3.mono HBW.out.size)); clear hb3
         go_wp2_with fail
         go_roundw
         case rel => exact ⟨1, by go_num, by simp, HB3.out⟩
         case measure => simp [RowKit.intOf]; have := HLL.out; simp at this; omega
       · have hg : decide ((p : Int) < (p : Int) + (k : Int)) = true := by simp only [decide_eq_true_eq]; omega
         have HL := hid hlt
         clear hx hlt
         cases h48 : ((b.toNat : Int) == 48)
         · go_wp2_with fail
           refine (HDG.out wr).mono ?_
           rintro e w3 ⟨rfl, hb3⟩
           have HB3 := hid (HBW.out.trans (hb3.mono HBW.out.size)); clear hb3
           go_wp2_with fail
           go_roundw
           case rel => exact ⟨k + 1, by go_num, HL.out, HB3.out⟩
           case measure => simp [RowKit.intOf]; have := HLL.out; have := HL.out; omega
         · go_wp2_with fail
           refine (HDG.out wr).mono ?_
           rintro e w3 ⟨rfl, hb3⟩
           have HB3 := hid (HBW.out.trans (hb3.mono HBW.out.size)); clear hb3
           go_wp2_with fail
           go_ret3
           exact ⟨⟨[], _, _, rfl, by simp⟩, HB3.out⟩
   · have hltd : decide ((p : Int) + (k : Int) < (s.length : Int)) = false := by have := HLL.out; simp only [decide_eq_false_iff_not]; omega
     have hk1 : 1 ≤ k := by simp only [List.length_cons] at hlt; omega
     replace HRD := hid (HRD.out hk1)
     clear hlt hk1
     go_wp2_with fail
     refine (HRD.out _).mono ?_
     rintro e w4 ⟨⟨n, q, rfl⟩, hb4⟩
     have HB4 := hid (HBW.out.trans (hb4.mono HBW.out.size)); clear hb4
     cases q
     · go_wp2_with fail
       go_ret3
       exact ⟨⟨[], _, _, rfl, by simp⟩, HB4.out⟩
     · go_wp2_with fail
       go_ret3
       exact ⟨⟨_, _, _, rfl, HTL.out⟩, HB4.out⟩
end Yd
