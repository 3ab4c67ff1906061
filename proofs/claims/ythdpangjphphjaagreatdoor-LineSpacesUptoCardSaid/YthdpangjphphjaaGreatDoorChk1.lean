import Derived.Test.YthdpangjphphjaaGreatDoorRdP
import Derived.Test.YthdpangjphphjaaGreatDoorOrdP
import Derived.Test.YthdpangjphphjaaGreatDoorShelf
import Derived.WalkSmall
import Derived.Test.YthdpangjphphjaaGreatDoorProg
import Derived.Lib.AtoiAllCases
import Derived.Lib.AtoiErrMem
import Derived.Test.YthdpangjphphjaaGreatDoorLines
import Derived.Test.YthdpangjphphjaaGreatDoorOrdIn
import Derived.Test.YthdpangjphphjaaGreatDoorCards
import Derived.Test.YthdpangjphphjaaGreatDoorTie
import Derived.WalkKit
import Derived.Deep.DeepHandedRow
import Derived.Lib.LaidU8
import Derived.LaidMore
set_option maxRecDepth 200000
set_option maxHeartbeats 8000000
namespace Yd
open Go Go.RowKit Go.Proofs

def wrongP (p : Nat) (m : Int) : List PanicEntry := [⟨.iface 51 (.agg #[.int .i64 p, .int .i64 m]), false, false⟩]
theorem rd_fail (p : Nat) (m : Int) (w : World) : Calls Tryz.prog 27 #[.int .i64 p, .int .i64 m] w fun e w' => e = .panicked (wrongP p m) ∧ w' = w := by
 go_enter Tryz.func27, Tryz.ntmps27
 go_wp2
 exact ⟨rfl, rfl, rfl⟩
theorem rd_blank (r : Int) (w : World) : Calls Tryz.prog 70 #[.int .i32 r] w fun e w' => e = .returned (.bool (blR r)) ∧ ∃ q, w' = w.drewN q := by
 unfold blR
 cases h1 : r == 32 <;> cases h2 : r == 9
 all_goals
   go_enter Tryz.func70, Tryz.ntmps70
   go_wp2
   go_ret
   exact ⟨rfl, 0, rfl⟩
theorem call_blank : ∀ args w, (callFunc 70 args).run Tryz.prog w = .ok (.enter 70 args) w := enters_of Tryz.func70 (by kernel_rfl) rfl
theorem rd_trim (l : Bs) (w : World) : Calls Tryz.prog 69 #[.string ⟨l.toArray⟩, .func (.func 70) #[] #[]] w (Ret (.string ⟨(skipS l).toArray⟩) w) := by
 have := Tryz.strings_TrimLeftFunc 70 #[] call_blank (fun r => blR (r : Int)) ⟨l.toArray⟩ w (fun W r _ => by unfold FnGives; exact rd_blank (r : Int) W)
 rw [trim_bl] at this
 exact this
theorem RdC.c0 {w : World} {R p : Nat} {s l : Bs} {c : LnC} {n : LnS} (h : RdC w R s p l c n) : w.cell? ⟨R, 0, none⟩ = some (.string ⟨s.toArray⟩) := h.x.1 0
theorem RdC.c1 {w : World} {R p : Nat} {s l : Bs} {c : LnC} {n : LnS} (h : RdC w R s p l c n) : w.cell? ⟨R, 1, none⟩ = some (.int .i64 p) := h.x.1 1
theorem RdC.at_ {w : World} {R p : Nat} {s t : Bs} {b : UInt8} {c : LnC} {n : LnS} (h : RdC w R s p (b :: t) c n) : s[p]? = some b := by
 have := congrArg (fun l => l[0]?) h.d
 simpa using this
theorem rd_ends {R p : Nat} {s l : Bs} {c : LnC} {n : LnS} (w : World) (h : RdC w R s p l c n) : Calls Tryz.prog 71 #[.pointer (some ⟨R, 0, none⟩)] w (Ret (.bool (endsS l)) w) := by
 have c0 := h.c0; have c1 := h.c1
 have hlen := h.len; have hlim := h.lim
 cases hl : l with
 | nil =>
   obtain rfl : p = s.length := by rw [hl] at hlen; simpa using hlen
   have hz := bsz s
   clear h hlen
   go_enter Tryz.func71, Tryz.ntmps71
   go_wp2_with (go_quiet (fail))
   go_ret
   exact ⟨rfl, belowN (Below.refl _ _) _⟩
 | cons b t =>
   subst hl
   have hix := fun W => run_ix Tryz.underlying9 s p b h.at_ W
   have hlt : p < s.length := by simp at hlen; omega
   have hz := bsz s
   have hne : ((p : Int) == (s.length : Int)) = false := beq_eq_false_iff_ne.2 (by omega)
   clear h hlen
   by_cases h10 : b.toNat = 10
   · have hb : ((b.toNat : Int) == 10) = true := by simp [h10]
     go_enter Tryz.func71, Tryz.ntmps71
     go_wp2_with (go_quiet (fail))
     go_ret
     exact ⟨by rw [endsS_cons, hb]; rfl, belowN (Below.refl _ _) _⟩
   · have hb : ((b.toNat : Int) == 10) = false := beq_eq_false_iff_ne.2 (by omega)
     cases h35 : ((b.toNat : Int) == 35)
     all_goals
       go_enter Tryz.func71, Tryz.ntmps71
       go_wp2_with (go_quiet (fail))
       go_ret
       exact ⟨by rw [endsS_cons, hb, h35]; rfl, belowN (Below.refl _ _) _⟩
def RdRes {α : Type} (R : Nat) (s : Bs) (c : LnC) (w : World) (val : α → Value) (x : Except Er (α × LnS × Bs)) (e : Ending) (w' : World) : Prop :=
 match x with
 | .error (r, m) => e = .panicked (wrongP (s.length - r.length) m) ∧ Same (RdA R c) w w'
 | .ok (a, n', r) => e = .returned (val a) ∧ ∃ p' c', RdC w' R s p' r c' n' ∧ Mv R c c' w w'
def RdRet {α : Type} (R : Nat) (s : Bs) (c : LnC) (n : LnS) (w : World) (val : α → Value) (x : Except Er (α × Bs)) (e : Ending) (w' : World) : Prop :=
 match x with
 | .error (r, m) => e = .panicked (wrongP (s.length - r.length) m) ∧ Same (RdA R c) w w'
 | .ok (a, r) => e = .returned (val a) ∧ ∃ p', RdC w' R s p' r c n ∧ Mv R c c w w'
theorem RdC.to {w : World} {R p : Nat} {s l r : Bs} {c : LnC} {n : LnS} (h : RdC w R s p l c n) (k : Nat) (hk : l.drop k = r) (hle : k ≤ l.length) (q : Nat) (hq : q = p + k) :
   RdC (w.setCell ⟨R, 1, none⟩ (.int .i64 (q : Int))) R s q r c n ∧ Mv R c c w (w.setCell ⟨R, 1, none⟩ (.int .i64 (q : Int))) := by
 subst hq hk; exact h.go k hle
theorem RdC.drew {w : World} {R p : Nat} {s l : Bs} {c : LnC} {n : LnS} (h : RdC w R s p l c n) : RdC w.drew R s p l c n := ⟨h.x, h.n, h.d, h.le, h.lim⟩
theorem f1 {w : World} {R p : Nat} {s l : Bs} {c : LnC} {n : LnS} (h : RdC w R s p l c n) (i : Nat) : w.frozen? ⟨R, i, none⟩ = false := h.x.2.1 i
theorem rd_more {R p : Nat} {s l : Bs} {c : LnC} {n : LnS} (w : World) (h : RdC w R s p l c n) :
   Calls Tryz.prog 81 #[.pointer (some ⟨R, 0, none⟩)] w (RdRet R s c n w (fun b : Bool => .bool b) (moreS l)) := by
 have c0 := h.c0; have c1 := h.c1; have z1 := f1 h 1
 have hlen := h.len; have hlim := h.lim
 have hsl := fun W => run_sl Tryz.underlying9 s p (by omega) W
 rw [h.d] at hsl
 have hz := bsz s; have hz2 := bsz (skipS l)
 have hsk := skipS_len l
 have HH := hid h; have HLEN := hid hlen; have HSK := hid hsk
 clear h hlen hsk
 go_enter Tryz.func81, Tryz.ntmps81
 go_wp2_with fail
 refine wp_region_ordC 11 [(0, 0), (1, 0), (2, 0), (3, 0), (4, 0), (5, 0), (6, 0), (7, 0), (8, 0), (9, 2), (10, 0)] (fun _ => True) (fun W' => W'.cell? ⟨R, 0, none⟩ = some (.string ⟨s.toArray⟩) ∧ W'.cell? ⟨R, 1, none⟩ = some (.int .i64 p)) (by kernel_rfl) (by kernel_rfl) (trivial) (⟨HH.out.c0, HH.out.c1⟩) ?_
 repeat ((first | refine ordC_skip rfl rfl ?_ | refine ordC_skip1 rfl rfl ?_ | ((first | refine ordC_q rfl rfl ?_ | refine ordC_p rfl rfl ?_); apply Exists.intro; refine ⟨fun wS hS => ?_, ?_⟩; (go_simp; try with_reducible rfl))); simp only [Act.put, List.setIfInBounds_toArray, List.set_cons_zero, List.set_cons_succ])
 refine ordC_l rfl rfl (fun K hK => ?_)
 go_simp
 refine (rd_trim l _).mono ?_
 rintro e w2 ⟨rfl, hb2⟩
 have hh2 := HH.out.drew.below hb2
 refine hK _ _ ⟨trivial, hh2.c0, hh2.c1⟩ ?_
 have HH2 := hid hh2; have HB2 := hid hb2
 clear hK K hb2 hh2 c0 c1 z1
 repeat ((first | refine ordC_skip rfl rfl ?_ | refine ordC_skip1 rfl rfl ?_ | ((first | refine ordC_q rfl rfl ?_ | refine ordC_p rfl rfl ?_); apply Exists.intro; refine ⟨fun wS hS => ?_, ?_⟩; (go_simp; try with_reducible rfl))); simp only [Act.put, List.setIfInBounds_toArray, List.set_cons_zero, List.set_cons_succ])
 refine ordC_nil ?_
 have hb2 : Below w.heap.size w w2 := (Below.refl _ _).drew.trans HB2.out
 obtain ⟨q, hq⟩ : ∃ q : Nat, q = s.length - (skipS l).length := ⟨_, rfl⟩
 have hwq : wrap64 ((s.length : Int) - ((skipS l).length : Int)) = (q : Int) := by
   have := HLEN.out; have := HSK.out
   rw [show (s.length : Int) - ((skipS l).length : Int) = (q : Int) by omega]
   exact IntWalk.wrap64_in _ (by omega)
 have ht := HH2.out.to (l.length - (skipS l).length) (skipS_drop l) (by omega) q (by have := HLEN.out; have := HSK.out; omega)
 have HT := hid ht.1; have HM := hid ((Mv.of_below (R := R) (c := c) hb2).trans ht.2); have HQ := hid hq
 have c0 := HH2.out.c0; have c1 := HH2.out.c1; have z1 := f1 HH2.out 1
 have hMS : moreS l = if endsS (skipS l) = true then .ok (false, skipS l) else if q = p then .error (skipS l, 220) else .ok (true, skipS l) := by
   unfold moreS
   have := HLEN.out; have := HSK.out
   by_cases h1 : endsS (skipS l) = true
   · rw [if_pos h1, if_pos h1]
   · rw [if_neg h1, if_neg h1]
     by_cases h2 : q = p
     · rw [if_pos h2, if_pos (by omega)]
     · rw [if_neg h2, if_neg (by omega)]
 have HMS := hid hMS
 clear ht hq hb2 hMS
 go_wp2_with fail
 refine (rd_ends _ HT.out).mono ?_
 rintro e w3 ⟨rfl, hb3⟩
 have HT3 := hid (HT.out.below hb3); have HM3 := hid (HM.out.trans (Mv.of_below hb3))
 clear hb3 c0 c1 z1
 have c1 := HT3.out.c1
 cases hE : endsS (skipS l)
 · by_cases hpq : q = p
   · have hb : ((q : Int) == (p : Int)) = true := by simp [hpq]
     go_wp2_with fail
     refine (rd_fail p 220 _).mono ?_
     rintro e w4 ⟨rfl, rfl⟩
     refine ⟨rfl, ?_⟩
     show RdRet R s c n w _ _ _ _
     rw [HMS.out, hE, if_neg (by simp), if_pos hpq]
     exact ⟨by rw [← HQ.out, hpq], HM3.out.same⟩
   · have hb : ((q : Int) == (p : Int)) = false := beq_eq_false_iff_ne.2 (by omega)
     go_wp2_with fail
     go_ret
     show RdRet R s c n w _ _ _ _
     rw [HMS.out, hE, if_neg (by simp), if_neg hpq]
     exact ⟨rfl, q, HT3.out, HM3.out⟩
 · go_wp2_with fail
   go_ret
   show RdRet R s c n w _ _ _ _
   rw [HMS.out, hE, if_pos rfl]
   exact ⟨rfl, q, HT3.out, HM3.out⟩
theorem rd_must {R p : Nat} {s l : Bs} {c : LnC} {n : LnS} (w : World) (h : RdC w R s p l c n) :
   Calls Tryz.prog 121 #[.pointer (some ⟨R, 0, none⟩)] w (RdRet R s c n w (fun _ : Unit => .tuple #[]) (match mustS l with | .error x => .error x | .ok r => .ok ((), r))) := by
 have HR := hid (rd_more w h)
 clear h
 obtain ⟨X, hX⟩ : ∃ X : Except Er (Unit × Bs), X = (match mustS l with | .error x => .error x | .ok r => .ok ((), r)) := ⟨_, rfl⟩
 rw [← hX]
 have HX := hid hX
 clear hX
 go_enter Tryz.func121, Tryz.ntmps121
 go_wp2_with fail
 refine HR.out.mono ?_
 rintro e w1 he
 cases hm : moreS l with
 | error x =>
   rw [hm] at he
   obtain ⟨rfl, hs⟩ := he
   refine ⟨rfl, ?_⟩
   show RdRet R s c n w _ _ _ _
   rw [HX.out, show mustS l = .error x by unfold mustS; rw [hm]]
   exact ⟨rfl, hs⟩
 | ok br =>
   obtain ⟨b, r⟩ := br
   rw [hm] at he
   obtain ⟨rfl, q, hc, hmv⟩ := he
   have HC := hid hc; have HM := hid hmv
   have c1 := hc.c1
   clear hc hmv
   cases b
   · go_wp2_with fail
     refine (rd_fail q 220 _).mono ?_
     rintro e w4 ⟨rfl, rfl⟩
     refine ⟨rfl, ?_⟩
     show RdRet R s c n w _ _ _ _
     rw [HX.out, show mustS l = .error (r, 220) by unfold mustS; rw [hm]]
     have := HC.out.len
     exact ⟨by rw [show s.length - r.length = q by omega], HM.out.same⟩
   · go_wp2_with fail
     refine bodyPost_end (results_none rfl _ _ _) rfl ?_
     show RdRet R s c n w _ _ _ _
     rw [HX.out, show mustS l = .ok r by unfold mustS; rw [hm]]
     exact ⟨rfl, q, HC.out, HM.out⟩
end Yd


namespace Yd
open Go Go.RowKit Go.Proofs

def foldD (acc : Nat) (l : Bs) : Nat := l.foldl (fun n c => n * 10 + (c.toNat - 48)) acc
theorem fold_ge : ∀ (l : Bs) (acc : Nat), acc ≤ foldD acc l
 | [], _ => Nat.le_refl _
 | c :: r, acc => Nat.le_trans (by omega) (fold_ge r (acc * 10 + (c.toNat - 48)))
theorem uint_digits : ∀ (l : Bs) (acc : Nat), (∀ c ∈ l, digB c = true) → Lib.parseUint10 acc l = .ok (foldD acc l) ∨ (Lib.parseUint10 acc l = .range ∧ 1000000 ≤ foldD acc l)
 | [], _, _ => .inl rfl
 | c :: r, acc, h => by
   have hc := h c (by simp)
   have hc' : 48 ≤ c.toNat ∧ c.toNat ≤ 57 := by
     unfold digB at hc
     simp only [Bool.and_eq_true, decide_eq_true_eq] at hc
     exact hc
   have hg := fold_ge r (acc * 10 + (c.toNat - 48))
   unfold Lib.parseUint10
   rw [if_pos hc']
   split
   · exact .inr ⟨rfl, Nat.le_trans (by omega) hg⟩
   · split
     · exact .inr ⟨rfl, Nat.le_trans (by omega) hg⟩
     · exact uint_digits r _ (fun x hx => h x (by simp [hx]))
theorem atoi_digits (l : Bs) (hne : l ≠ []) (h : ∀ c ∈ l, digB c = true) : Lib.atoiAll l = .ok (valD l : Int) ∨ (Lib.atoiAll l = .range ∧ 1000000 ≤ valD l) := by
 cases l with
 | nil => exact absurd rfl hne
 | cons c r =>
   have hc := h c (by simp)
   unfold digB at hc
   simp only [Bool.and_eq_true, decide_eq_true_eq] at hc
   have h1 : 48 ≤ c.toNat := hc.1
   unfold Lib.atoiAll
   simp only []
   rw [if_neg (by omega)]
   unfold Lib.parseMag
   rw [if_neg (by simp)]
   have hv : valD (c :: r) = foldD 0 (c :: r) := rfl
   rcases uint_digits (c :: r) 0 h with e | ⟨e, e2⟩
   · rw [e]
     simp only []
     by_cases hb : 9223372036854775808 ≤ foldD 0 (c :: r)
     · rw [if_pos ⟨by omega, hb⟩]; exact .inr ⟨rfl, by rw [hv]; omega⟩
     · rw [if_neg (by omega), if_neg (by omega), if_neg (by omega)]; exact .inl (by rw [hv])
   · rw [e]; exact .inr ⟨rfl, e2⟩
def GlobE (w : World) : Prop := ∃ ev, w.cell? ⟨7, 0, none⟩ = some ev ∧ (ev = .nilIface ∨ ∃ te pe, ev = .iface te pe)
theorem GlobE.below {w w' : World} (h : GlobE w) (hb : Below w.heap.size w w') : GlobE w' := let ⟨ev, h1, h2⟩ := h; ⟨ev, bget hb rfl h1, h2⟩
theorem ato_any (l : Bs) (hne : l ≠ []) (h : ∀ c ∈ l, digB c = true) (hlim : l.length ≤ 1000000) (w : World) (hE : GlobE w) :
   Calls Tryz.prog 120 #[.string ⟨l.toArray⟩] w fun e w' => ∃ (k : Int) (er : Value), e = .returned (.tuple #[.int .i64 k, er]) ∧ Below w.heap.size w w' ∧ ((er = .nilIface ∧ k = (valD l : Int) ∧ valD l ≤ 9223372036854775807) ∨ (999 < valD l ∧ ∃ T p, er = .iface T p)) := by
 obtain ⟨ev, hv, hev⟩ := hE
 rcases atoi_digits l hne h with e | ⟨e, e2⟩
 · refine (Tryz.strconv_Atoi_ok ⟨l.toArray⟩ (by rw [bsz]; omega) (valD l) e w).mono ?_
   rintro e w' ⟨rfl, hw⟩
   refine ⟨_, _, rfl, ?_, .inl ⟨rfl, rfl, ?_⟩⟩
   · rcases hw with rfl | ⟨t, rfl⟩
     · exact Below.refl _ _
     · exact Lib.bytesWorld_below _ _ _
   · have := (Lib.atoiAll_bounds e).2; omega
 · refine (Tryz.strconv_Atoi_range ⟨l.toArray⟩ (by rw [bsz]; omega) e ev w hv hev).mono ?_
   rintro e w' ⟨N, rfl, _, _, hb⟩
   exact ⟨_, _, rfl, hb, .inr ⟨by omega, _, _, rfl⟩⟩
end Yd


namespace Yd
open Go Go.RowKit Go.Proofs Go.Lib
open Go.Proofs.YthdpangjphphjaaGreatDoor

theorem first_eq : Rows.laid_unicode_utf8_first = firstData := by kernel_rfl
theorem accept_eq : (Rows.laid_unicode_utf8_acceptRanges : DataW Unit) = acceptData := by kernel_rfl
theorem u8x : U8Extra Tryz.prog Tryz.lays260_ren := ⟨by kernel_rfl, by kernel_rfl, by kernel_rfl, by kernel_rfl, by kernel_rfl, by kernel_rfl, by kernel_rfl⟩
section
variable {W : World}
theorem str_at {n fuel : Nat} {t : TypeId} {cs : List Value} {ds : List (DataW Unit)} {p : List MemPlace} (ht : Tryz.prog.underlying t = some (.array n 9)) (h : DataW.trod (fun _ => ()) Tryz.prog W 0 (fun _ => true) false fuel t cs = some (.agg ds, p))
   (i : Nat) (hi : i < n) {b : Bs} (hd : ds[i]? = some (.lit (.string b))) : cs[i]? = some (.string ⟨b.toArray⟩) := by
 obtain ⟨f', d, q, h1, h2⟩ := array_elem ht h i hi
 rw [hd] at h1
 injection h1 with h1
 subst h1
 rw [show Tryz.prog.cellsOf 9 = 1 from c_str] at h2
 obtain ⟨s, e1, e2, _⟩ := DataW.trod_string Tryz.underlying9 h2
 simp only [Prod.mk.injEq, DataW.lit.injEq, Lit.string.injEq] at e2
 have e3 := congrArg (·[0]?) e1
 simp only [List.getElem?_take, List.getElem?_drop] at e3
 have : s = ⟨b.toArray⟩ := by
   obtain ⟨⟨l⟩⟩ := s
   simp at e2
   rw [e2.1]
 rw [← this]
 simpa using e3
theorem c_i32 : Tryz.prog.cellsOf 21 = 1 := by kernel_rfl
theorem c_form : Tryz.prog.cellsOf 76 = 3 := by kernel_rfl
theorem form_at {fuel : Nat} {cs : List Value} {ds : List (DataW Unit)} {p : List MemPlace} (h : DataW.trod (fun _ => ()) Tryz.prog W 0 (fun _ => true) false fuel 77 cs = some (.agg ds, p))
   (k : Nat) (hk : k < 10) {b : Bs} {n r : Int} (hd : ds[k]? = some (.agg [.lit (.string b), .lit (.int .i64 n), .lit (.int .i32 r)])) :
   cs[3 * k]? = some (.string ⟨b.toArray⟩) ∧ cs[3 * k + 1]? = some (.int .i64 n) ∧ cs[3 * k + 2]? = some (.int .i32 r) := by
 obtain ⟨f', d, q, h1, h2⟩ := array_elem Tryz.underlying77 h k hk
 rw [hd] at h1
 injection h1 with h1
 subst h1
 rw [c_form] at h2
 obtain ⟨xs, n', _, e, hl, hlen, hf⟩ := DataW.trod_struct Tryz.underlying76 h2
 rw [c_form] at hl
 obtain ⟨cs', hcs⟩ : ∃ cs', cs' = (cs.drop (k * 3)).take 3 := ⟨_, rfl⟩
 rw [← hcs] at hl hf
 have g0 : cs[3 * k]? = cs'[0]? := by rw [hcs]; simp [List.getElem?_drop, Nat.mul_comm]
 have g1 : cs[3 * k + 1]? = cs'[1]? := by rw [hcs]; simp [List.getElem?_drop, Nat.mul_comm]
 have g2 : cs[3 * k + 2]? = cs'[2]? := by rw [hcs]; simp [List.getElem?_drop, Nat.mul_comm]
 rw [g0, g1, g2]
 clear g0 g1 g2 hcs
 match xs, hlen, cs', hl, e with
 | [y0, y1, y2], _, [c0, c1, c2], _, e =>
   simp only [List.map_cons, List.map_nil, Prod.mk.injEq, DataW.agg.injEq, List.cons.injEq, and_true] at e
   have f0 := hf 0 _ rfl
   have f1 := hf 1 _ rfl
   have f2 := hf 2 _ rfl
   simp [c_int, c_str, c_i32] at f0 f1 f2
   obtain ⟨s, e0, q0, _⟩ := DataW.trod_string Tryz.underlying9 f0
   obtain ⟨a, e1, q1, _⟩ := DataW.trod_int Tryz.underlying3 f1
   obtain ⟨a2, e2, q2, _⟩ := DataW.trod_int Tryz.underlying21 f2
   rw [q0, q1, q2] at e
   simp only [DataW.lit.injEq, Lit.string.injEq, Lit.int.injEq, true_and] at e
   have : s = ⟨b.toArray⟩ := by
     obtain ⟨⟨l⟩⟩ := s
     simp at e
     rw [e.1.1]
   simp at e0 e1 e2
   rw [e0, e1, e2, e.1.2.1, e.1.2.2, this]
   exact ⟨rfl, rfl, rfl⟩
theorem reads_at {name : String} {d : DataW Unit} {g : Nat} {t : TypeId} (h : VarReads Tryz.prog W name d) (hg : Tryz.prog.globalNamed name = some g) (hy : (Tryz.prog.globals[g]?).map (·.type) = some t) :
   ∃ cs : Array Value, ∃ fuel p, DataW.trod (fun _ => ()) Tryz.prog W 0 (fun _ => true) false fuel t cs.toList = some (d, p) ∧ ∀ i, W.cell? ⟨g, i, none⟩ = cs.toList[i]? := by
 obtain ⟨g', t', cs, fuel, p, hg', hy', hv, hd⟩ := h
 obtain rfl := Option.some.inj (hg.symm.trans hg')
 obtain rfl := Option.some.inj (hy.symm.trans hy')
 exact ⟨cs, fuel, p, hd, fun i => by rw [Array.getElem?_toList]; exact World.var?_cell hg hv i⟩
end
end Yd


namespace Yd
open Go Go.RowKit Go.Proofs Go.Lib
open Go.Proofs.YthdpangjphphjaaGreatDoor

section
variable {W : World}
theorem iface_at {fuel : Nat} {ms : Array (String × TypeId)} {t : TypeId} {cs : List Value} {y : DataW Unit × List MemPlace} (ht : Tryz.prog.underlying t = some (.interface ms)) (h : DataW.trod (fun _ => ()) Tryz.prog W 0 (fun _ => true) false fuel t cs = some y) :
   ∃ ev, cs = [ev] ∧ (ev = .nilIface ∨ ∃ te pe, ev = .iface te pe) := by
 cases fuel with
 | zero => simp [DataW.trod] at h
 | succ fuel =>
   simp only [DataW.trod, ht] at h
   split at h <;> first | exact ⟨_, rfl, .inl rfl⟩ | exact ⟨_, rfl, .inr ⟨_, _, rfl⟩⟩ | (rename_i heq; cases heq; done) | (cases h; done) | (rename_i heq; simp at heq; done) | skip
theorem globE_of (h : VarReads Tryz.prog W "strconv.ErrRange" (Rows.laid_strconv_ErrRange : DataW Unit)) : GlobE W := by
 obtain ⟨c, _, _, t, a⟩ := reads_at (g := 7) (t := 104) h (by kernel_rfl) (by kernel_rfl)
 obtain ⟨ev, h1, h2⟩ := iface_at Tryz.underlying104 t
 exact ⟨ev, by rw [a, h1]; rfl, h2⟩
theorem globL_of (hu1 : VarReads Tryz.prog W "unicode/utf8.first" Rows.laid_unicode_utf8_first) (hu2 : VarReads Tryz.prog W "unicode/utf8.acceptRanges" Rows.laid_unicode_utf8_acceptRanges)
   (hf : VarReads Tryz.prog W "yardarm/line.forms" Rows.laid_yardarm_line_forms) (hgd : VarReads Tryz.prog W "yardarm/line.guards" Rows.laid_yardarm_line_guards) (hlv : VarReads Tryz.prog W "yardarm/level.texts" Rows.laid_yardarm_level_texts) : GlobL W := by
 have hu := utf8Tabs_of_reads Tryz.lays260 u8x (first_eq ▸ hu1) (accept_eq ▸ hu2)
 obtain ⟨c2, _, _, t2, a2⟩ := reads_at (g := 0) (t := 77) hf (by kernel_rfl) (by kernel_rfl)
 obtain ⟨c3, _, _, t3, a3⟩ := reads_at (g := 1) (t := 80) hgd (by kernel_rfl) (by kernel_rfl)
 obtain ⟨c4, _, _, t4, a4⟩ := reads_at (g := 4) (t := 131) hlv (by kernel_rfl) (by kernel_rfl)
 refine ⟨⟨hu, trivial⟩, fun k hk => ?_, fun i hi => ?_, fun i hi => ?_⟩
 · rw [a2, a2, a2]
   exact form_at t2 k hk (by match k, hk with | 0, _ => rfl | 1, _ => rfl | 2, _ => rfl | 3, _ => rfl | 4, _ => rfl | 5, _ => rfl | 6, _ => rfl | 7, _ => rfl | 8, _ => rfl | 9, _ => rfl)
 · rw [a3]
   exact str_at Tryz.underlying80 t3 i hi (by match i, hi with | 0, _ => rfl | 1, _ => rfl | 2, _ => rfl | 3, _ => rfl)
 · rw [a4]
   exact str_at Tryz.underlying131 t4 i hi (by match i, hi with | 0, _ => rfl | 1, _ => rfl | 2, _ => rfl | 3, _ => rfl | 4, _ => rfl)
end
def cellsD : Nat → DataW Unit → List Value
 | _, .lit (.int k i) => [.int k i]
 | _, .lit (.string b) => [.string ⟨b.toArray⟩]
 | f + 1, .agg l => l.flatMap (cellsD f)
 | _, _ => []
def layIn (cs : Array Value) : Obj → Obj
 | .cells _ t frozen => .cells cs t frozen
 | o => o
noncomputable def low12 : Nat := (World.holding Tryz.prog default ⟨#[], #[], []⟩).heap.size
noncomputable def world12 (os : Os) : World :=
 let w0 := World.holding Tryz.prog os ⟨#[.cells #[.string ⟨#[118, 97, 108, 117, 101, 32, 111, 117, 116, 32, 111, 102, 32, 114, 97, 110, 103, 101]⟩] 180, .cells #[.string ⟨#[105, 110, 118, 97, 108, 105, 100, 32, 115, 121, 110, 116, 97, 120]⟩] 180], #[], []⟩
 { w0 with heap := (((((((((w0.heap.modify 2 (layIn ((Lib.firstTab.map (fun z => Value.int .u8 z)).toArray))).modify 3 (layIn (((List.range 16).flatMap (fun i => [Value.int .u8 (Lib.accLo i : Int), Value.int .u8 (Lib.accHi i : Int)])).toArray))).modify
     0 (layIn (((List.range 10).flatMap (fun k => [Value.string ⟨(formV k).toArray⟩, Value.int .i64 (formN k), Value.int .i32 (formR k)])).toArray))).modify
     1 (layIn (((List.range 4).map (fun i => Value.string ⟨(guardT i).toArray⟩)).toArray))).modify 4 (layIn (((List.range 5).map (fun i => Value.string ⟨(levelT i).toArray⟩)).toArray))).modify
     9 (layIn (cellsD 2 Rows.laid_math_bits_deBruijn32tab).toArray)).modify 10 (layIn (cellsD 2 Rows.laid_math_bits_deBruijn64tab).toArray)).modify
     8 (layIn (cellsD 2 Rows.laid_internal_strconv_uint64pow10).toArray)).modify 7 (layIn #[.iface 178 (.pointer (some ⟨low12, 0, none⟩))])).modify 6 (layIn #[.iface 178 (.pointer (some ⟨low12 + 1, 0, none⟩))]) }
end Yd


namespace Yd
open Go Go.RowKit Go.Proofs
theorem check_k1 (na : Option Addr) (nc : Nat) (va : Option Addr) (vc : Nat) (lv : Nat) (h1 : 1 ≤ lv) (h4 : lv ≤ 4) (names : List Bs) (vers : List To) (w : World) (hl : LineW w na 2 nc va 0 vc names vers) :
   Calls Tryz.prog 17 #[valLn ⟨1, na, 2, nc, lv, va, 0, vc, false, 0⟩] w (Ret (.int .i64 0) w) := by
 have HL := hid hl
 have hf := hl.g.2.1 1 (by decide)
 have hf1 := hf.1; have hf2 := hf.2.1; have hf3 := hf.2.2
 simp only [formV, formN, formR] at hf1 hf2 hf3
 have hb0 := cell_lt hf1
 simp only at hb0
 have HB0 := hid (belowA (belowA (Below.refl w.heap.size w) (.cells #[.int .i64 1, .slice na 2 nc, .int .i64 lv, .slice va 0 vc, .bool false, .int .i64 0] 28)) (.cells #[.string ⟨#[98, 101, 103, 105, 110]⟩, .int .i64 2, .int .i32 108] 76))
 have HX0 := hid ((Bx.new w #[.int .i64 1, .slice na 2 nc, .int .i64 lv, .slice va 0 vc, .bool false, .int .i64 0] 28).alloc (.cells #[.string ⟨#[98, 101, 103, 105, 110]⟩, .int .i64 2, .int .i32 108] 76))
 have HY0 : Hid (Bx ((w.alloc (.cells #[.int .i64 1, .slice na 2 nc, .int .i64 lv, .slice va 0 vc, .bool false, .int .i64 0] 28)).alloc (.cells #[.string ⟨#[98, 101, 103, 105, 110]⟩, .int .i64 2, .int .i32 108] 76)) (w.heap.size + 1) #[.string ⟨#[98, 101, 103, 105, 110]⟩, .int .i64 2, .int .i32 108]) := hid (Bx.new1 (by simp))
 have hlv : ((lv : Int) != 0) = true := by simp; omega
 clear hl hf
 go_enter Tryz.func17, Tryz.ntmps17
 go_wp2_with fail
 refine (most_any _ _).mono ?_
 rintro e w1 ⟨rfl, hb1⟩
 have hy1 := HX0.out.keep hb1; have hz1 := HY0.out.keep hb1
 have HX1 := hid hy1; have HY1 := hid hz1; have HB1 := hid (HB0.out.trans (hb1.mono HB0.out.size))
 have hcx1 := hy1.1; have hcy1 := hz1.1
 clear hb1 hy1 hz1
 simp only [mostR, Int.reduceEq, if_false]
 go_wp2_with fail
 refine (HL.out.below HB1.out).vers.mono ?_
 rintro e w2 ⟨rfl, hb2⟩
 have hy2 := HX1.out.keep hb2; have hz2 := HY1.out.keep hb2
 have HX2 := hid hy2; have HY2 := hid hz2; have HB2 := hid (HB1.out.trans (hb2.mono HB1.out.size))
 have hcx2 := hy2.1; have hcy2 := hz2.1
 clear hb2 hy2 hz2
 go_wp2_with fail
 refine (HL.out.below HB2.out).names.mono ?_
 rintro e w3 ⟨rfl, hb3⟩
 have hy3 := HX2.out.keep hb3; have hz3 := HY2.out.keep hb3
 have HX3 := hid hy3; have HY3 := hid hz3; have HB3 := hid (HB2.out.trans (hb3.mono HB2.out.size))
 have hcx3 := hy3.1; have hcy3 := hz3.1
 clear hb3 hy3 hz3
 go_wp2_with fail
 refine (level_yes lv h1 h4 _ (HL.out.below HB3.out).g).mono ?_
 rintro e w4 ⟨rfl, hb4⟩
 have hy4 := HX3.out.keep hb4; have hz4 := HY3.out.keep hb4
 have HX4 := hid hy4; have HY4 := hid hz4; have HB4 := hid (HB3.out.trans (hb4.mono HB3.out.size))
 have hcx4 := hy4.1; have hcy4 := hz4.1
 clear hb4 hy4 hz4
 go_wp2_with fail
 go_ret
 exact ⟨rfl, HB4.out⟩
end Yd
