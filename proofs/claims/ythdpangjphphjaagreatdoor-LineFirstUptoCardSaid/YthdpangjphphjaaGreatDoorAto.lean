import Derived.Test.YthdpangjphphjaaGreatDoorLxE
import Derived.Recover
import Derived.Defers
import Derived.Test.YthdpangjphphjaaGreatDoorProg
import Derived.Test.YthdpangjphphjaaGreatDoorRFffd
import Derived.Test.YthdpangjphphjaaGreatDoorShelf
import Derived.Lib.AtoiAllCases
import Derived.Lib.AtoiErrMem
set_option maxRecDepth 200000
set_option maxHeartbeats 8000000
namespace Yd
open Go Go.RowKit Go.Proofs

theorem asrt (v : Value) (W : World) : (Instr.typeAssert (.iface 51 v) 20 51 true).run Tryz.prog W = .ok (.tuple #[v, .bool true]) W := by kernel_rfl
theorem rd1_panic (b : Nat) (p m : Int) (a0 a1 a2 a3 a4 a5 n0 e0 : Value) (older : List PanicEntry) (w : World) (h1 : Bx w b #[a0, a1, a2, a3, a4, a5]) (h2 : Bx w (b + 1) #[n0]) (h3 : Bx w (b + 2) #[e0]) :
   CallsD Tryz.prog 24 #[.pointer (some ⟨b, 0, none⟩), .pointer (some ⟨b + 1, 0, none⟩), .pointer (some ⟨b + 2, 0, none⟩)] (.panicking ({ v := .iface 51 (.agg #[.int .i64 p, .int .i64 m]), recovered := false } :: older)) w fun e u' w' =>
     e = .returned (.tuple #[]) ∧ u' = .panicking ({ v := .iface 51 (.agg #[.int .i64 p, .int .i64 m]), recovered := true } :: older) ∧
     Bx w' b #[.int .i64 0, .slice none 0 0, .int .i64 0, .slice none 0 0, .bool false, .int .i64 0] ∧ Bx w' (b + 1) #[.int .i64 p] ∧ Bx w' (b + 2) #[.int .i64 m] ∧ Below b w w' := by
 refine callsD_of_wpS Tryz.func24 rfl fun c₀ cs hu => ?_
 apply wpS_seq
 apply wpS_region
 simp [wpOpsS, go_sem, recoverD, hu, Tryz.ntmps24, Exit.thenS]
 refine wpS_of_wp ?_
 have hta := asrt (.agg #[.int .i64 p, .int .i64 m])
 simp only [Array.replicate_succ, Array.replicate_zero, List.push_toArray, List.append_toArray, List.nil_append, List.cons_append, List.setIfInBounds_toArray, List.set_cons_zero, List.set_cons_succ]
 have hx0 := Bx.new w #[.int .i64 p, .int .i64 m] 51
 obtain ⟨Z, hZ⟩ : ∃ Z : World, Z = (((((w.setCell ⟨b, 0, none⟩ (.int .i64 0)).setCell ⟨b, 1, none⟩ (.slice none 0 0)).setCell ⟨b, 2, none⟩ (.int .i64 0)).setCell ⟨b, 3, none⟩ (.slice none 0 0)).setCell ⟨b, 4, none⟩ (.bool false)).setCell ⟨b, 5, none⟩ (.int .i64 0) := ⟨_, rfl⟩
 have HZ : Hid (Bx Z b #[.int .i64 0, .slice none 0 0, .int .i64 0, .slice none 0 0, .bool false, .int .i64 0] ∧ Bx Z (b + 1) #[n0] ∧ Bx Z (b + 2) #[e0] ∧ Z.heap.size = w.heap.size ∧ Below b w Z) := hid (by
   rw [hZ]
   refine ⟨?_, ?_, ?_, by simp [World.setCell], ?_⟩
   · exact (((((h1.setC 0 (by simp) _).setC 1 (by simp) _).setC 2 (by simp) _).setC 3 (by simp) _).setC 4 (by simp) _).setC 5 (by simp) _
   · exact (((((h2.setOther b 0 _ (by omega)).setOther b 1 _ (by omega)).setOther b 2 _ (by omega)).setOther b 3 _ (by omega)).setOther b 4 _ (by omega)).setOther b 5 _ (by omega)
   · exact (((((h3.setOther b 0 _ (by omega)).setOther b 1 _ (by omega)).setOther b 2 _ (by omega)).setOther b 3 _ (by omega)).setOther b 4 _ (by omega)).setOther b 5 _ (by omega)
   · exact ((((((Below.refl b w).setCell (p := ⟨b, 0, none⟩) (Nat.le_refl b) _).setCell (p := ⟨b, 1, none⟩) (Nat.le_refl b) _).setCell (p := ⟨b, 2, none⟩) (Nat.le_refl b) _).setCell (p := ⟨b, 3, none⟩) (Nat.le_refl b) _).setCell (p := ⟨b, 4, none⟩) (Nat.le_refl b) _).setCell (p := ⟨b, 5, none⟩) (Nat.le_refl b) _)
 obtain ⟨V, hV⟩ : ∃ V : World, V = (Z.alloc (.cells #[.int .i64 p, .int .i64 m] 51)).drew := ⟨_, rfl⟩
 have hx5 : Bx V w.heap.size #[.int .i64 p, .int .i64 m] := by
   have := Bx.new Z #[.int .i64 p, .int .i64 m] 51
   rw [HZ.out.2.2.2.1] at this; rw [hV]; exact this
 have HV : Hid (Bx V b #[.int .i64 0, .slice none 0 0, .int .i64 0, .slice none 0 0, .bool false, .int .i64 0] ∧ Bx V (b + 1) #[n0] ∧ Bx V (b + 2) #[e0] ∧ Bx V w.heap.size #[.int .i64 p, .int .i64 m] ∧ Below b w V) := hid (by
   refine ⟨?_, ?_, ?_, hx5, ?_⟩
   · rw [hV]; exact (HZ.out.1.alloc _).drew
   · rw [hV]; exact (HZ.out.2.1.alloc _).drew
   · rw [hV]; exact (HZ.out.2.2.1.alloc _).drew
   · rw [hV]; exact (HZ.out.2.2.2.2.alloc (by have := HZ.out.2.2.2.1; have := h1.2.2; omega) _).drew)
 have HLT : Hid (b + 2 < w.heap.size) := hid h3.2.2
 have HVY : Hid (Bx V (b + 1) #[n0]) := hid HV.out.2.1
 clear hx5
 go_wp2_with fail
 refine wp_region_ordC 99 [(0, 0), (1, 0), (2, 0), (3, 0), (4, 0), (5, 2), (6, 2), (7, 2)] (fun _ => True) (fun W' => W'.cell? ⟨w.heap.size, 0, none⟩ = some (.int .i64 p) ∧ W'.cell? ⟨w.heap.size, 1, none⟩ = some (.int .i64 m)) (by kernel_rfl) (by kernel_rfl) (trivial) (⟨hx0.1 0, hx0.1 1⟩) ?_
 repeat ((first | refine ordC_skip rfl rfl ?_ | refine ordC_skip1 rfl rfl ?_ | ((first | refine ordC_q rfl rfl ?_ | refine ordC_p rfl rfl ?_); apply Exists.intro; refine ⟨fun wS hS => ?_, ?_⟩; (go_simp; try with_reducible rfl))); simp only [Act.put, List.setIfInBounds_toArray, List.set_cons_zero, List.set_cons_succ])
 refine ordC_l rfl rfl (fun K hK => ?_)
 go_simp
 rw [← hZ, ← hV]
 refine hK _ _ ⟨trivial, HV.out.2.2.2.1.1 0, HV.out.2.2.2.1.1 1⟩ ?_
 have z1 := HV.out.2.1.1 0; have f1_ := HV.out.2.1.2.1 0
 clear hK K hZ hV
 refine ordC_l rfl rfl (fun K hK => ?_)
 go_simp
 refine hK _ _ ⟨trivial, (HV.out.2.2.2.1.setOther (b + 1) 0 _ (by have := HLT.out; omega)).1 0, (HV.out.2.2.2.1.setOther (b + 1) 0 _ (by have := HLT.out; omega)).1 1⟩ ?_
 clear hK K z1 f1_
 have z1 := HV.out.2.2.1.1 0; have f1_ := HV.out.2.2.1.2.1 0
 refine ordC_l rfl rfl (fun K hK => ?_)
 go_simp
 refine hK _ _ ⟨trivial, ((HV.out.2.2.2.1.setOther (b + 1) 0 _ (by have := HLT.out; omega)).setOther (b + 2) 0 _ (by have := HLT.out; omega)).1 0, ((HV.out.2.2.2.1.setOther (b + 1) 0 _ (by have := HLT.out; omega)).setOther (b + 2) 0 _ (by have := HLT.out; omega)).1 1⟩ ?_
 clear hK K
 refine ordC_nil ?_
 go_wp2_with fail
 obtain ⟨w', hw'⟩ : ∃ w' : World, w' = (V.setCell ⟨b + 1, 0, none⟩ (.int .i64 p)).setCell ⟨b + 2, 0, none⟩ (.int .i64 m) := ⟨_, rfl⟩
 have hfin : Bx w' b #[.int .i64 0, .slice none 0 0, .int .i64 0, .slice none 0 0, .bool false, .int .i64 0] ∧ Bx w' (b + 1) #[.int .i64 p] ∧ Bx w' (b + 2) #[.int .i64 m] ∧ Below b w w' := by
   rw [hw']
   refine ⟨((HV.out.1.setOther (b + 1) 0 _ (by omega)).setOther (b + 2) 0 _ (by omega)), ((HV.out.2.1.setC 0 (by simp) _).setOther (b + 2) 0 _ (by omega)), ((HV.out.2.2.1.setOther (b + 1) 0 _ (by omega)).setC 0 (by simp) _), ?_⟩
   exact (HV.out.2.2.2.2.setCell (p := ⟨b + 1, 0, none⟩) (by simp) _).setCell (p := ⟨b + 2, 0, none⟩) (by simp) _
 rw [← hw']
 have HF := hid hfin
 clear hw' hfin
 cases c₀
 simp_all [bodyPostS, results, Tryz.results24]
 exact HF.out
theorem rd1_idle (b : Nat) (w : World) :
   CallsD Tryz.prog 24 #[.pointer (some ⟨b, 0, none⟩), .pointer (some ⟨b + 1, 0, none⟩), .pointer (some ⟨b + 2, 0, none⟩)] .returning w fun e u' w' => e = .returned (.tuple #[]) ∧ u' = .returning ∧ w' = w := by
 refine callsD_of_wpS Tryz.func24 rfl fun c₀ cs hu => ?_
 apply wpS_seq
 apply wpS_region
 simp [wpOpsS, go_sem, recoverD, hu, Tryz.ntmps24, Exit.thenS]
 refine wpS_of_wp ?_
 go_wp2_with fail
 cases c₀
 simp_all [bodyPostS, results, Tryz.results24]
end Yd


namespace Yd
open Go Go.RowKit Go.Proofs

def foldD (acc : Nat) (l : Bs) : Nat := l.foldl (fun n c => n * 10 + (c.toNat - 48)) acc
theorem fold_ge : ∀ (l : Bs) (acc : Nat), acc ≤ foldD acc l
 | [], _ => Nat.le_refl _
 | c :: r, acc => Nat.le_trans (by omega) (fold_ge r (acc * 10 + (c.toNat - 48)))
theorem uint_digits : ∀ (l : Bs) (acc : Nat), (∀ c ∈ l, digB c = true) → Lib.parseUint10 acc l = .ok (foldD acc l) ∨ (Lib.parseUint10 acc l = .range ∧ 1000000 ≤ foldD acc l)
 | [], _, _ => .inl rfl
 | c :: r, acc, h => by
   have hc := h c (by simp)
   have hc' : 48 ≤ c.toNat ∧ c.toNat ≤ 57 := by
     unfold digB at hc
     simp only [Bool.and_eq_true, decide_eq_true_eq] at hc
     exact hc
   have hg := fold_ge r (acc * 10 + (c.toNat - 48))
   unfold Lib.parseUint10
   rw [if_pos hc']
   split
   · exact .inr ⟨rfl, Nat.le_trans (by omega) hg⟩
   · split
     · exact .inr ⟨rfl, Nat.le_trans (by omega) hg⟩
     · exact uint_digits r _ (fun x hx => h x (by simp [hx]))
theorem atoi_digits (l : Bs) (hne : l ≠ []) (h : ∀ c ∈ l, digB c = true) : Lib.atoiAll l = .ok (valD l : Int) ∨ (Lib.atoiAll l = .range ∧ 1000000 ≤ valD l) := by
 cases l with
 | nil => exact absurd rfl hne
 | cons c r =>
   have hc := h c (by simp)
   unfold digB at hc
   simp only [Bool.and_eq_true, decide_eq_true_eq] at hc
   have h1 : 48 ≤ c.toNat := hc.1
   unfold Lib.atoiAll
   simp only []
   rw [if_neg (by omega)]
   unfold Lib.parseMag
   rw [if_neg (by simp)]
   have hv : valD (c :: r) = foldD 0 (c :: r) := rfl
   rcases uint_digits (c :: r) 0 h with e | ⟨e, e2⟩
   · rw [e]
     simp only []
     by_cases hb : 9223372036854775808 ≤ foldD 0 (c :: r)
     · rw [if_pos ⟨by omega, hb⟩]; exact .inr ⟨rfl, by rw [hv]; omega⟩
     · rw [if_neg (by omega), if_neg (by omega), if_neg (by omega)]; exact .inl (by rw [hv])
   · rw [e]; exact .inr ⟨rfl, e2⟩
def GlobE (w : World) : Prop := ∃ ev, w.cell? ⟨7, 0, none⟩ = some ev ∧ (ev = .nilIface ∨ ∃ te pe, ev = .iface te pe)
theorem GlobE.below {w w' : World} (h : GlobE w) (hb : Below w.heap.size w w') : GlobE w' := let ⟨ev, h1, h2⟩ := h; ⟨ev, bget hb rfl h1, h2⟩
theorem ato_any (l : Bs) (hne : l ≠ []) (h : ∀ c ∈ l, digB c = true) (hlim : l.length ≤ 1000000) (w : World) (hE : GlobE w) :
   Calls Tryz.prog 120 #[.string ⟨l.toArray⟩] w fun e w' => ∃ (k : Int) (er : Value), e = .returned (.tuple #[.int .i64 k, er]) ∧ Below w.heap.size w w' ∧ ((er = .nilIface ∧ k = (valD l : Int) ∧ valD l ≤ 9223372036854775807) ∨ (999 < valD l ∧ ∃ T p, er = .iface T p)) := by
 obtain ⟨ev, hv, hev⟩ := hE
 rcases atoi_digits l hne h with e | ⟨e, e2⟩
 · refine (Tryz.strconv_Atoi_ok ⟨l.toArray⟩ (by rw [bsz]; omega) (valD l) e w).mono ?_
   rintro e w' ⟨rfl, hw⟩
   refine ⟨_, _, rfl, ?_, .inl ⟨rfl, rfl, ?_⟩⟩
   · rcases hw with rfl | ⟨t, rfl⟩
     · exact Below.refl _ _
     · exact Lib.bytesWorld_below _ _ _
   · have := (Lib.atoiAll_bounds e).2; omega
 · refine (Tryz.strconv_Atoi_range ⟨l.toArray⟩ (by rw [bsz]; omega) e ev w hv hev).mono ?_
   rintro e w' ⟨N, rfl, _, _, hb⟩
   exact ⟨_, _, rfl, hb, .inr ⟨by omega, _, _, rfl⟩⟩
end Yd
