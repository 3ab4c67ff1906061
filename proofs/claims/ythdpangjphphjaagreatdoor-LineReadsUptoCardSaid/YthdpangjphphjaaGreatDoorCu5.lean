import Derived.Test.YthdpangjphphjaaGreatDoorCu3
import Derived.Test.YthdpangjphphjaaGreatDoorRdW
import Derived.Test.YthdpangjphphjaaGreatDoorProg
set_option maxRecDepth 200000
set_option maxHeartbeats 8000000
namespace Yd
open Go Go.RowKit Go.Proofs

theorem ext_both (s : Bs) (i j : Nat) (_h : i ≤ j) : (⟨s.toArray⟩ : ByteArray).extract i j = ⟨((s.drop i).take (j - i)).toArray⟩ := by
 apply ByteArray.ext
 rw [ByteArray.data_extract]
 apply Array.ext'
 rw [Array.toList_extract]
theorem run_slb {P : Program} {t : TypeId} (ht : P.underlying t = some .string) (l : Bs) (i j : Nat) (hij : i ≤ j) (h : j ≤ l.length) (W : World) : (Instr.slice t (.string ⟨l.toArray⟩) (some (.int .i64 (i : Int))) (some (.int .i64 (j : Int))) none).run P W = .ok (.string ⟨((l.drop i).take (j - i)).toArray⟩) W := by
 rw [run_slice_string W t _ .i64 .i64 (i : Int) (j : Int) ht (by omega) (by omega) (by rw [bsz]; omega), Int.toNat_natCast, Int.toNat_natCast, ext_both l i j hij]
def oneS (ws : List Bs) (l : Bs) : Except Er (Nat × Bs) :=
 match ws.findIdx? (fun s => s == l.take (runR l)) with
 | some i => .ok (i, l.drop (runR l))
 | none => .error (l.drop (farS ws (l.take (runR l))), 220)
theorem cu_one_no {B p : Nat} {s l : Bs} {er : Int} (w : World) (h : CuC w B s p l er) (he : er ≠ 0) (v : Value) : Calls Tryz.prog 30 #[.pointer (some ⟨B, 0, none⟩), v] w (fun e w' => e = .returned (.int .i64 0) ∧ CuC w' B s p l er ∧ Cs B w w') := by
 have c2 := h.x.1 2
 have hb : (er != 0) = true := by simpa using he
 have HH := hid h
 clear h he
 go_enter Tryz.func30, Tryz.ntmps30
 go_wp2_with fail
 go_ret
 exact ⟨rfl, HH.out, Same.refl' _⟩
def CuOne (B : Nat) (s : Bs) (w : World) (x : Except Er (Nat × Bs)) (e : Ending) (w' : World) : Prop :=
 ∃ (a : Nat) (p' : Nat) (l' : Bs) (er : Int), e = .returned (.int .i64 (a : Int)) ∧ CuC w' B s p' l' er ∧ Cs B w w' ∧ (match x with | .ok (a', r) => a = a' ∧ l' = r ∧ er = 0 | .error (r, m) => l' = r ∧ er = m ∧ m ≠ 0) ∧ (er ≠ 0 → a = 0) ∧ a ≤ 100
theorem cu_oneX {B p : Nat} {s l : Bs} (w : World) (h : CuC w B s p l 0) (a : Option Addr) (nn cc : Nat) (ws : List Bs) (hr : Row w 1 encStr a nn cc ws) (hnn : nn ≤ 100) (hw : ∀ x ∈ ws, x.length ≤ 100) :
   Calls Tryz.prog 30 #[.pointer (some ⟨B, 0, none⟩), .slice a nn cc] w (CuOne B s w (oneS ws l)) := by
 have HRUN := hid (fun W (hb : Below w.heap.size w W) => cu_run W (h.below hb))
 obtain ⟨X, hX⟩ : ∃ X, X = oneS ws l := ⟨_, rfl⟩
 rw [← hX]
 obtain ⟨m0, hm0⟩ : ∃ m0, m0 = runR l := ⟨_, rfl⟩
 obtain ⟨T, hT⟩ : ∃ T, T = l.take m0 := ⟨_, rfl⟩
 have hml0 : m0 ≤ l.length := by rw [hm0]; exact runR_le l
 have hTl : T.length = m0 := by rw [hT, List.length_take]; omega
 have hlen := h.len; have hlim := h.lim
 have hsl := fun W => run_slb Tryz.underlying9 s p (p + m0) (by omega) (by omega) W
 rw [h.d, show p + m0 - p = m0 by omega, ← hT, Int.natCast_add] at hsl
 have hwrp : IntKind.i64.wrap ((p : Int) + (m0 : Int)) = (p : Int) + (m0 : Int) := IntWalk.i64_in _ (by omega)
 rw [← hm0] at HRUN
 have HX := hid hX; have HH := hid h; have HR := hid hr; have HW := hid hw; have HM0 := hid hm0; have HT := hid hT
 have hz := bsz s; have hzT := bsz T
 have c0 := h.x.1 0; have c1 := h.x.1 1; have c2 := h.x.1 2
 clear hX hT h hr hw hm0
 subst hTl
 go_enter Tryz.func30, Tryz.ntmps30
 go_wp2_with fail
 refine wp_region_ordC 99 [(0, 0), (1, 0), (2, 0), (3, 0), (4, 0), (5, 0), (6, 0), (7, 0), (8, 0), (9, 0), (10, 0), (11, 0), (12, 0), (13, 2), (14, 0), (15, 0), (16, 0)] (fun _ => True) (fun W' => W'.cell? ⟨B, 0, none⟩ = some (.string ⟨s.toArray⟩) ∧ W'.cell? ⟨B, 1, none⟩ = some (.int .i64 (p : Int))) (by kernel_rfl) (by kernel_rfl) (trivial) (⟨c0, c1⟩) ?_
 repeat ((first | refine ordC_skip rfl rfl ?_ | refine ordC_skip1 rfl rfl ?_ | ((first | refine ordC_q rfl rfl ?_ | refine ordC_p rfl rfl ?_); apply Exists.intro; refine ⟨fun wS hS => ?_, ?_⟩; (go_simp; try with_reducible rfl))); simp only [Act.put, List.setIfInBounds_toArray, List.set_cons_zero, List.set_cons_succ])
 refine ordC_l rfl rfl (fun K hK => ?_)
 go_simp
 refine (HRUN.out _ (Below.refl _ _).drew).mono ?_
 rintro e w1 ⟨rfl, hb1⟩
 have HB1 : Hid (Below w.heap.size w w1) := hid ((Below.refl w.heap.size w).drew.trans hb1)
 have hh := HH.out.below HB1.out
 refine hK _ _ ⟨trivial, hh.x.1 0, hh.x.1 1⟩ ?_
 have HC1 := hid hh
 clear hK K hb1 hh c0 c1 c2
 repeat ((first | refine ordC_skip rfl rfl ?_ | refine ordC_skip1 rfl rfl ?_ | ((first | refine ordC_q rfl rfl ?_ | refine ordC_p rfl rfl ?_); apply Exists.intro; refine ⟨fun wS hS => ?_, ?_⟩; (go_simp; try with_reducible rfl))); simp only [Act.put, List.setIfInBounds_toArray, List.set_cons_zero, List.set_cons_succ])
 refine ordC_nil ?_
 have c1 := HC1.out.x.1 1; have c0 := HC1.out.x.1 0
 go_wp2_with fail
 clear c0 c1
 go_loopw [6, 33] (fun f i wr => ∃ k m : Nat, k ≤ nn ∧ i = .int .i64 k ∧ f = .int .i64 m ∧ m = farS (ws.take k) T ∧ (∀ x ∈ ws.take k, x ≠ T) ∧ Below w.heap.size w wr) (fun _ i _ => nn - (RowKit.intOf i).toNat)
 case atStart => exact ⟨0, 0, Nat.zero_le _, rfl, rfl, rfl, by simp, HB1.out⟩
 case round =>
   obtain ⟨k, m, hk, rfl, rfl, hm, hne, hbw⟩ := hrel
   have hmt : m ≤ T.length := by rw [hm]; exact far_le _ _
   have hml : m ≤ 1000000 := by omega
   by_cases hlt : k < nn
   · obtain ⟨x, b', o, hx, rfl, hc⟩ := (HR.out.below hbw rfl).at_ hlt
     have hc0 := hc 0 _ rfl
     simp only [Nat.mul_one, Nat.add_zero] at hc0
     have hxl := HW.out x (List.mem_of_getElem? hx)
     have HBW := hid hbw; have HM := hid hm; have HNE := hid hne; have HXX := hid hx
     have HC := hid (HH.out.below hbw)
     have c1 := HC.out.x.1 1; have z1 := HC.out.x.2.1 1
     clear hc hbw hm hne hx
     cases hxe : x == T
     · clear c1 z1
       have END : Hid (∀ (W' : World) (q m' : Nat), Below w.heap.size w W' → commS x T = q → m' = max m q → ∃ k' m2 : Nat, k' ≤ nn ∧ Value.int .i64 ((k : Int) + 1) = .int .i64 k' ∧ Value.int .i64 (m' : Int) = .int .i64 m2 ∧ m2 = farS (ws.take k') T ∧ (∀ y ∈ ws.take k', y ≠ T) ∧ Below w.heap.size w W') := hid (fun W' q m' hb hq hmq =>
         ⟨k + 1, m', by omega, by rw [Int.natCast_add]; rfl, rfl, by rw [List.take_add_one, HXX.out, Option.toList_some, far_snoc, hq, ← HM.out, hmq], fun y hy => by
           rw [List.take_add_one, HXX.out] at hy
           rcases List.mem_append.1 hy with hy | hy
           · exact HNE.out y hy
           · obtain rfl : y = x := by simpa using hy
             exact fun e => by rw [e] at hxe; simp at hxe, hb⟩)
       go_wp2_with fail
       go_loopw [9] (fun j wx => ∃ W, W = wx ∧ ∃ q : Nat, j = .int .i64 q ∧ q ≤ T.length ∧ q ≤ x.length ∧ commS (x.drop q) (T.drop q) + q = commS x T ∧ Below w.heap.size w W) (fun j _ => T.length - (RowKit.intOf j).toNat)
       case atStart => exact ⟨_, rfl, 0, rfl, Nat.zero_le _, Nat.zero_le _, by simp, HBW.out⟩
       case round =>
         obtain ⟨W, rfl, q, rfl, hqT, hqx, hcm, hbx⟩ := hrel
         have HBX := hid hbx; have HCM := hid hcm
         clear hbx hcm
         by_cases h1 : q < x.length
         · have hd1 : decide (q < x.length) = true := decide_eq_true h1
           by_cases h2 : q < T.length
           · have hd2 : decide (q < T.length) = true := decide_eq_true h2
             obtain ⟨a1, ha1⟩ : ∃ a1, x[q]? = some a1 := ⟨_, List.getElem?_eq_getElem h1⟩
             obtain ⟨a2, ha2⟩ : ∃ a2, T[q]? = some a2 := ⟨_, List.getElem?_eq_getElem h2⟩
             have hi1 := fun W => run_ix Tryz.underlying9 x q a1 ha1 W
             have hi2 := fun W => run_ix Tryz.underlying9 T q a2 ha2 W
             have HA1 := hid ha1; have HA2 := hid ha2; have HL := hid (⟨h1, h2⟩ : _ ∧ _)
             clear ha1 ha2 h1 h2
             by_cases he : a1 = a2
             · have hb : ((a1.toNat : Int) == (a2.toNat : Int)) = true := by simp [he]
               have HE := hid he; clear he
               go_wp2_with fail
               refine wp_region_ordC 99 [(0, 0), (1, 0), (2, 0), (3, 0), (4, 0), (5, 0), (6, 0), (7, 0), (8, 0), (9, 0), (10, 0), (11, 0), (12, 0), (13, 0), (14, 0), (15, 0), (16, 0), (17, 0), (18, 0)] (fun _ => True) (fun _ => True) (by kernel_rfl) (by kernel_rfl) (trivial) (trivial) ?_
               repeat ((first | refine ordC_skip rfl rfl ?_ | refine ordC_skip1 rfl rfl ?_ | ((first | refine ordC_q rfl rfl ?_ | refine ordC_p rfl rfl ?_); apply Exists.intro; refine ⟨fun wS hS => ?_, ?_⟩; (go_simp; try with_reducible rfl))); simp only [Act.put, List.setIfInBounds_toArray, List.set_cons_zero, List.set_cons_succ])
               refine ordC_nil ?_
               go_wp2_with fail
               go_roundw
               case rel => exact ⟨_, rfl, q + 1, by go_num, HL.out.2, HL.out.1, by have := comm_drop HA1.out (HE.out ▸ HA2.out); have := HCM.out; omega, belowN HBX.out _⟩
               case measure => have := HL.out.2; simp [RowKit.intOf]; omega
             · have hb : ((a1.toNat : Int) == (a2.toNat : Int)) = false := beq_eq_false_iff_ne.2 (fun e => he (UInt8.toNat_inj.1 (by omega)))
               have HE := hid he; clear he
               by_cases hgt : m < q
               · have hg : decide (m < q) = true := decide_eq_true hgt
                 have HG := hid hgt; clear hgt
                 go_wp2_with fail
                 refine wp_region_ordC 99 [(0, 0), (1, 0), (2, 0), (3, 0), (4, 0), (5, 0), (6, 0), (7, 0), (8, 0), (9, 0), (10, 0), (11, 0), (12, 0), (13, 0), (14, 0), (15, 0), (16, 0), (17, 0), (18, 0)] (fun _ => True) (fun _ => True) (by kernel_rfl) (by kernel_rfl) (trivial) (trivial) ?_
                 repeat ((first | refine ordC_skip rfl rfl ?_ | refine ordC_skip1 rfl rfl ?_ | ((first | refine ordC_q rfl rfl ?_ | refine ordC_p rfl rfl ?_); apply Exists.intro; refine ⟨fun wS hS => ?_, ?_⟩; (go_simp; try with_reducible rfl))); simp only [Act.put, List.setIfInBounds_toArray, List.set_cons_zero, List.set_cons_succ])
                 refine ordC_nil ?_
                 go_wp2_with fail
                 go_roundw
                 case rel => exact END.out _ q q (belowN HBX.out _) (by have := comm_stop (.inr (.inr ⟨a1, a2, HA1.out, HA2.out, HE.out⟩)); have := HCM.out; omega) (by have := HG.out; omega)
                 case measure => simp [RowKit.intOf]; omega
               · have hg : decide (m < q) = false := decide_eq_false hgt
                 have HG := hid hgt; clear hgt
                 go_wp2_with fail
                 refine wp_region_ordC 99 [(0, 0), (1, 0), (2, 0), (3, 0), (4, 0), (5, 0), (6, 0), (7, 0), (8, 0), (9, 0), (10, 0), (11, 0), (12, 0), (13, 0), (14, 0), (15, 0), (16, 0), (17, 0), (18, 0)] (fun _ => True) (fun _ => True) (by kernel_rfl) (by kernel_rfl) (trivial) (trivial) ?_
                 repeat ((first | refine ordC_skip rfl rfl ?_ | refine ordC_skip1 rfl rfl ?_ | ((first | refine ordC_q rfl rfl ?_ | refine ordC_p rfl rfl ?_); apply Exists.intro; refine ⟨fun wS hS => ?_, ?_⟩; (go_simp; try with_reducible rfl))); simp only [Act.put, List.setIfInBounds_toArray, List.set_cons_zero, List.set_cons_succ])
                 refine ordC_nil ?_
                 go_wp2_with fail
                 go_roundw
                 case rel => exact END.out _ q m (belowN HBX.out _) (by have := comm_stop (.inr (.inr ⟨a1, a2, HA1.out, HA2.out, HE.out⟩)); have := HCM.out; omega) (by have := HG.out; omega)
                 case measure => simp [RowKit.intOf]; omega
           · have hd2 : decide (q < T.length) = false := decide_eq_false h2
             have HL := hid h2; clear h2
             by_cases hgt : m < q
             · have hg : decide (m < q) = true := decide_eq_true hgt
               have HG := hid hgt; clear hgt
               go_wp2_with fail
               refine wp_region_ordC 99 [(0, 0), (1, 0), (2, 0), (3, 0), (4, 0), (5, 0), (6, 0), (7, 0), (8, 0), (9, 0), (10, 0), (11, 0), (12, 0), (13, 0), (14, 0), (15, 0), (16, 0), (17, 0), (18, 0)] (fun _ => True) (fun _ => True) (by kernel_rfl) (by kernel_rfl) (trivial) (trivial) ?_
               repeat ((first | refine ordC_skip rfl rfl ?_ | refine ordC_skip1 rfl rfl ?_ | ((first | refine ordC_q rfl rfl ?_ | refine ordC_p rfl rfl ?_); apply Exists.intro; refine ⟨fun wS hS => ?_, ?_⟩; (go_simp; try with_reducible rfl))); simp only [Act.put, List.setIfInBounds_toArray, List.set_cons_zero, List.set_cons_succ])
               refine ordC_nil ?_
               go_wp2_with fail
               go_roundw
               case rel => exact END.out _ q q (belowN HBX.out _) (by have := comm_stop (x := x) (t := T) (k := q) (.inr (.inl (by have := HL.out; omega))); have := HCM.out; omega) (by have := HG.out; omega)
               case measure => simp [RowKit.intOf]; omega
             · have hg : decide (m < q) = false := decide_eq_false hgt
               have HG := hid hgt; clear hgt
               go_wp2_with fail
               refine wp_region_ordC 99 [(0, 0), (1, 0), (2, 0), (3, 0), (4, 0), (5, 0), (6, 0), (7, 0), (8, 0), (9, 0), (10, 0), (11, 0), (12, 0), (13, 0), (14, 0), (15, 0), (16, 0), (17, 0), (18, 0)] (fun _ => True) (fun _ => True) (by kernel_rfl) (by kernel_rfl) (trivial) (trivial) ?_
               repeat ((first | refine ordC_skip rfl rfl ?_ | refine ordC_skip1 rfl rfl ?_ | ((first | refine ordC_q rfl rfl ?_ | refine ordC_p rfl rfl ?_); apply Exists.intro; refine ⟨fun wS hS => ?_, ?_⟩; (go_simp; try with_reducible rfl))); simp only [Act.put, List.setIfInBounds_toArray, List.set_cons_zero, List.set_cons_succ])
               refine ordC_nil ?_
               go_wp2_with fail
               go_roundw
               case rel => exact END.out _ q m (belowN HBX.out _) (by have := comm_stop (x := x) (t := T) (k := q) (.inr (.inl (by have := HL.out; omega))); have := HCM.out; omega) (by have := HG.out; omega)
               case measure => simp [RowKit.intOf]; omega
         · have hd1 : decide (q < x.length) = false := decide_eq_false h1
           have HL := hid h1; clear h1
           by_cases hgt : m < q
           · have hg : decide (m < q) = true := decide_eq_true hgt
             have HG := hid hgt; clear hgt
             go_wp2_with fail
             refine wp_region_ordC 99 [(0, 0), (1, 0), (2, 0), (3, 0), (4, 0), (5, 0), (6, 0), (7, 0), (8, 0), (9, 0), (10, 0), (11, 0), (12, 0), (13, 0), (14, 0), (15, 0), (16, 0), (17, 0), (18, 0)] (fun _ => True) (fun _ => True) (by kernel_rfl) (by kernel_rfl) (trivial) (trivial) ?_
             repeat ((first | refine ordC_skip rfl rfl ?_ | refine ordC_skip1 rfl rfl ?_ | ((first | refine ordC_q rfl rfl ?_ | refine ordC_p rfl rfl ?_); apply Exists.intro; refine ⟨fun wS hS => ?_, ?_⟩; (go_simp; try with_reducible rfl))); simp only [Act.put, List.setIfInBounds_toArray, List.set_cons_zero, List.set_cons_succ])
             refine ordC_nil ?_
             go_wp2_with fail
             go_roundw
             case rel => exact END.out _ q q (belowN HBX.out _) (by have := comm_stop (x := x) (t := T) (k := q) (.inl (by have := HL.out; omega)); have := HCM.out; omega) (by have := HG.out; omega)
             case measure => simp [RowKit.intOf]; omega
           · have hg : decide (m < q) = false := decide_eq_false hgt
             have HG := hid hgt; clear hgt
             go_wp2_with fail
             refine wp_region_ordC 99 [(0, 0), (1, 0), (2, 0), (3, 0), (4, 0), (5, 0), (6, 0), (7, 0), (8, 0), (9, 0), (10, 0), (11, 0), (12, 0), (13, 0), (14, 0), (15, 0), (16, 0), (17, 0), (18, 0)] (fun _ => True) (fun _ => True) (by kernel_rfl) (by kernel_rfl) (trivial) (trivial) ?_
             repeat ((first | refine ordC_skip rfl rfl ?_ | refine ordC_skip1 rfl rfl ?_ | ((first | refine ordC_q rfl rfl ?_ | refine ordC_p rfl rfl ?_); apply Exists.intro; refine ⟨fun wS hS => ?_, ?_⟩; (go_simp; try with_reducible rfl))); simp only [Act.put, List.setIfInBounds_toArray, List.set_cons_zero, List.set_cons_succ])
             refine ordC_nil ?_
             go_wp2_with fail
             go_roundw
             case rel => exact END.out _ q m (belowN HBX.out _) (by have := comm_stop (x := x) (t := T) (k := q) (.inl (by have := HL.out; omega)); have := HCM.out; omega) (by have := HG.out; omega)
             case measure => simp [RowKit.intOf]; omega
     · obtain ⟨q, hq⟩ : ∃ q : Nat, q = p + T.length := ⟨_, rfl⟩
       have hxW : x = T := by simpa using hxe
       have hqi : (p : Int) + (x.length : Int) = (q : Int) := by rw [hxW]; omega
       have hqb : q ≤ 1000000 := by omega
       have ht := HC.out.go T.length hml0 q hq
       have HT2 := hid ht.1; have HS2 := hid ((Cs.of_below (B := B) HBW.out).tr ht.2)
       have HWO : Hid (oneS ws l = .ok (k, l.drop T.length)) := hid (by
         unfold oneS
         rw [← HM0.out, ← HT.out, findIdx?_take (fun s => s == T) ws k (List.findIdx?_eq_none_iff.2 (fun y hy => by simpa using HNE.out y hy)) x HXX.out hxe])
       clear ht hq hxW
       go_wp2_with fail
       go_ret
       refine ⟨k, q, _, 0, rfl, HT2.out, HS2.out, ?_, fun h => absurd rfl h, by omega⟩
       rw [HX.out, HWO.out]
       exact ⟨rfl, rfl, rfl⟩
   · obtain rfl : k = nn := by omega
     have htk : ws.take k = ws := List.take_of_length_le (by rw [HR.out.len]; exact Nat.le_refl _)
     rw [htk] at hm hne
     have HC := hid (HH.out.below hbw)
     have HF : Hid (∀ W, CuC W B s p l 0 → Calls Tryz.prog 34 #[.pointer (some ⟨B, 0, none⟩), .int .i64 ((p : Int) + (m : Int)), .int .i64 220] W (fun e w' => e = .returned (.tuple #[]) ∧ CuC w' B s (p + m) (l.drop m) 220 ∧ Cs B W w')) := hid (fun W hW => by
       have := cu_fails W hW m (by omega) (p + m) rfl 220
       rwa [Int.natCast_add] at this)
     have HWO : Hid (oneS ws l = .error (l.drop m, 220)) := hid (by
       unfold oneS
       rw [← HM0.out, ← HT.out, List.findIdx?_eq_none_iff.2 (fun y hy => by simpa using hne y hy), ← hm])
     have HBW := hid hbw
     have c1 := HC.out.x.1 1
     clear hm hne hbw htk
     go_wp2_with fail
     refine (HF.out _ HC.out).mono ?_
     rintro e w4 ⟨rfl, hc4, hs4⟩
     have HC4 := hid hc4; have HS4 := hid ((Cs.of_below (B := B) HBW.out).tr hs4)
     clear hc4 hs4
     go_wp2_with fail
     go_ret
     refine ⟨0, p + m, _, 220, rfl, HC4.out, HS4.out, ?_, fun _ => rfl, Nat.zero_le _⟩
     rw [HX.out, HWO.out]
     exact ⟨rfl, rfl, by decide⟩
end Yd


namespace Yd
open Go Go.RowKit Go.Proofs

theorem wcR_of {c : UInt8} (h : wcB c = true) : wcR c = true := by unfold wcR; rw [h]; rfl
theorem tw_split : ∀ l : Bs, l.takeWhile wcR = l.takeWhile wcB ++ (l.drop (l.takeWhile wcB).length).takeWhile wcR
 | [] => rfl
 | a :: t => by
   rw [List.takeWhile_cons, List.takeWhile_cons]
   cases hb : wcB a
   · simp only [Bool.false_eq_true, if_false, List.nil_append, List.length_nil, List.drop_zero]
     rw [List.takeWhile_cons]
   · rw [wcR_of hb, if_pos rfl, if_pos rfl]
     simp only [List.length_cons, List.drop_succ_cons, List.cons_append]
     rw [← tw_split t]
theorem take_tw (q : UInt8 → Bool) (l : Bs) : l.take (l.takeWhile q).length = l.takeWhile q := by
 have : l = l.takeWhile q ++ l.dropWhile q := (List.takeWhile_append_dropWhile).symm
 generalize hx : l.takeWhile q = x at *
 rw [this]
 simp
theorem drop_tw (q : UInt8 → Bool) (l : Bs) : l.drop (l.takeWhile q).length = l.dropWhile q := by
 have : l = l.takeWhile q ++ l.dropWhile q := (List.takeWhile_append_dropWhile).symm
 generalize hx : l.takeWhile q = x at *
 generalize hy : l.dropWhile q = y at *
 rw [this]
 simp
theorem dw_head (q : UInt8 → Bool) : ∀ (l : Bs) (b : UInt8) (t : Bs), l.dropWhile q = b :: t → q b = false
 | [], b, t, h => by simp at h
 | a :: l, b, t, h => by
   rw [List.dropWhile_cons] at h
   cases hq : q a
   · rw [hq] at h; simp at h; rw [← h.1]; exact hq
   · rw [hq] at h; exact dw_head q l b t (by simpa using h)
theorem comm_app (b : UInt8) (u : Bs) : ∀ (x a : Bs), (∀ c ∈ x, c ≠ b) → commS x (a ++ b :: u) = commS x a
 | [], a, _ => by simp [commS]
 | c :: x, [], h => by simp [commS, h c List.mem_cons_self]
 | c :: x, d :: a, h => by
   rw [List.cons_append]
   simp only [commS]
   rw [comm_app b u x a (fun e he => h e (List.mem_cons_of_mem _ he))]
theorem far_app (b : UInt8) (u a : Bs) (ws : List Bs) (h : ∀ x ∈ ws, ∀ c ∈ x, c ≠ b) : farS ws (a ++ b :: u) = farS ws a := by
 unfold farS
 have : ∀ (ws : List Bs) (m : Nat), (∀ x ∈ ws, ∀ c ∈ x, c ≠ b) → ws.foldl (fun m s => max m (commS s (a ++ b :: u))) m = ws.foldl (fun m s => max m (commS s a)) m := by
   intro ws
   induction ws with
   | nil => intro m _; rfl
   | cons x ws ih =>
     intro m hm
     simp only [List.foldl_cons]
     rw [comm_app b u x a (hm x List.mem_cons_self), ih _ (fun y hy => hm y (List.mem_cons_of_mem _ hy))]
 exact this ws 0 h
theorem one_word (ws : List Bs) (l : Bs) (hw : ∀ x ∈ ws, ∀ c ∈ x, wcB c = true) : oneS ws l = wordS ws l := by
 have hT : l.take (runR l) = l.takeWhile wcR := take_tw wcR l
 have hs := tw_split l
 have hd := drop_tw wcB l
 unfold oneS wordS
 rw [hT]
 have hst : stretchS l = l.takeWhile wcB := rfl
 cases hdw : l.dropWhile wcB with
 | nil =>
   have hdr : l.drop (l.takeWhile wcB).length = [] := hd.trans hdw
   rw [hdr] at hs
   have hs' : l.takeWhile wcR = stretchS l := by rw [hs]; simp [stretchS]
   have hwh : wholeS l = stretchS l := by unfold wholeS; rw [hst, hdr]; rfl
   have hrun : runR l = (stretchS l).length := by unfold runR; rw [hs']
   rw [hs', hwh, hrun]
   rfl
 | cons b t =>
   have hdr : l.drop (l.takeWhile wcB).length = b :: t := hd.trans hdw
   have hb : wcB b = false := dw_head wcB l b t hdw
   rw [hdr] at hs
   by_cases h128 : 128 ≤ b.toNat
   · have hR : wcR b = true := by unfold wcR; rw [decide_eq_true h128, Bool.or_true]
     rw [List.takeWhile_cons, hR, if_pos rfl] at hs
     have hwh : wholeS l = stretchS l ++ [128] := by
       unfold wholeS; rw [hst, hdr]
       simp only [List.head?_cons]
       rw [if_pos (show (128 : UInt8) ≤ b from h128)]
     have n1 : ∀ x ∈ ws, (x == l.takeWhile wcR) = false := fun x hx => by
       rw [hs]
       refine beq_eq_false_iff_ne.2 (fun e => ?_)
       have := hw x hx b (by rw [e]; simp)
       rw [hb] at this; cases this
     have n2 : ∀ x ∈ ws, (x == wholeS l) = false := fun x hx => by
       rw [hwh]
       refine beq_eq_false_iff_ne.2 (fun e => ?_)
       have := hw x hx 128 (by rw [e]; simp)
       revert this; decide
     rw [List.findIdx?_eq_none_iff.2 n1, List.findIdx?_eq_none_iff.2 n2]
     simp only []
     rw [hs, far_app b _ _ ws (fun x hx c hc e => by have := hw x hx c hc; rw [e, hb] at this; cases this)]
     rfl
   · have hR : wcR b = false := by unfold wcR; rw [decide_eq_false h128, hb]; rfl
     rw [List.takeWhile_cons, hR] at hs
     have hs' : l.takeWhile wcR = stretchS l := by rw [hs]; simp [stretchS]
     have hwh : wholeS l = stretchS l := by
       unfold wholeS; rw [hst, hdr]
       simp only [List.head?_cons]
       rw [if_neg (show ¬ (128 : UInt8) ≤ b from h128)]
     have hrun : runR l = (stretchS l).length := by unfold runR; rw [hs']
     rw [hs', hwh, hrun]
     rfl
end Yd
