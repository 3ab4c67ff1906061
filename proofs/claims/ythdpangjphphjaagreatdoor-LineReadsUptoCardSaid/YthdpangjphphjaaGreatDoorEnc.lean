import Derived.Test.YthdpangjphphjaaGreatDoorOrdU
import Derived.Test.YthdpangjphphjaaGreatDoorCu3
import Derived.Test.YthdpangjphphjaaGreatDoorProg
import Derived.Test.YthdpangjphphjaaGreatDoorCheck
import Derived.Test.YthdpangjphphjaaGreatDoorRdP
import Derived.Lib.MapLaws
set_option maxRecDepth 200000
set_option maxHeartbeats 8000000
namespace Yd
open Go Go.RowKit Go.Proofs

def NxP (b : UInt8) (l : Bs) (p : Nat) (k : Int) (tx : Bs) (nx er : Int) : Prop :=
 (er = 0 ∧ k = 1 ∧ beginsS l = true ∧ runS l ≤ 24 ∧ tx = l.take (runS l) ∧ nx = ((p + runS l : Nat) : Int)) ∨
 (er ≠ 0 ∧ digB b = false ∧ beginsS l = true ∧ 24 < runS l ∧ nx = ((p + longS (l.take (runS l)) : Nat) : Int)) ∨
 (beginsS l = false ∧ er = 0 ∧ k ≠ 1) ∨ (beginsS l = false ∧ er ≠ 0 ∧ digB b = true) ∨ (beginsS l = false ∧ er ≠ 0 ∧ digB b = false ∧ nx = (p : Int))
def NextAt (b : UInt8) (l : Bs) (p : Nat) (w : World) (e : Ending) (w' : World) : Prop :=
 ∃ (k a : Int) (tx : Bs) (g : Bool) (nx er : Int), e = .returned (.tuple #[.agg (cellsTk k a tx g), .int .i64 nx, .int .i64 er]) ∧ Below w.heap.size w w' ∧ NxP b l p k tx nx er
theorem digB_eq (b : UInt8) : digB b = true ↔ 48 ≤ b.toNat ∧ b.toNat ≤ 57 := by
 unfold digB
 rw [Bool.and_eq_true, decide_eq_true_eq, decide_eq_true_eq, UInt8.le_iff_toNat_le, UInt8.le_iff_toNat_le]; rfl
theorem num_dig (b : UInt8) (t : Bs) : numB (hdR (b :: t)) = digB b := by
 rw [Bool.eq_iff_iff, digB_eq]
 unfold numB
 simp only [Bool.and_eq_true, decide_eq_true_eq]
 rcases Nat.lt_or_ge b.toNat 128 with h | h
 · rw [(hd_lo t h).1]; omega
 · rcases hd_hi t h with e | e <;> constructor <;> intro <;> omega
theorem begins_hd (b : UInt8) (t : Bs) : beginsS (b :: t) = letB (hdR (b :: t)) := by
 rw [hdR_eq (by simp)]
 unfold beginsS
 cases h : okB ⟨(b :: t).toArray⟩ 0
 · rw [if_neg (by simp)]; rfl
 · rw [if_pos rfl]; rfl
theorem let_no_num {c : Int} (h : letB c = true) : numB c = false := by
 unfold letB at h; unfold numB
 simp only [Bool.or_eq_true, Bool.and_eq_true, decide_eq_true_eq] at h
 simp only [Bool.and_eq_false_iff, decide_eq_false_iff_not]
 omega
theorem let_no {c : Int} (h : letB c = true) (k : Int) (hk : k = 45 ∨ k = 46) : (c == k) = false := by
 unfold letB at h
 simp only [Bool.or_eq_true, Bool.and_eq_true, decide_eq_true_eq] at h
 exact beq_eq_false_iff_ne.2 (by omega)
theorem r_next (s : Bs) (p : Nat) (b : UInt8) (t : Bs) (hd : s.drop p = b :: t) (hp : p ≤ s.length) (hlim : s.length ≤ 1000000) (hbl : blB b = false) (hen : endsS (b :: t) = false) (w : World) :
   Calls Tryz.prog 35 #[.string ⟨s.toArray⟩, .int .i64 (p : Int)] w (NextAt b (b :: t) p w) := by
 have hB := begins_hd b t; have hN := num_dig b t
 cases hle : letB (hdR (b :: t))
 · rw [hle] at hB
   cases hnu : numB (hdR (b :: t))
   · rw [hnu] at hN
     by_cases h46 : (hdR (b :: t) == 46) = true
     · refine (nx_sign s p b t hd hp hlim hbl hen (.inl h46) w).mono ?_
       rintro e w' ⟨g, rfl, hb⟩
       exact ⟨_, _, _, _, _, _, rfl, hb, .inr (.inr (.inl ⟨hB, rfl, by decide⟩))⟩
     · by_cases h45 : (hdR (b :: t) == 45) = true
       · refine (nx_sign s p b t hd hp hlim hbl hen (.inr ⟨by simpa using h46, h45⟩) w).mono ?_
         rintro e w' ⟨g, rfl, hb⟩
         exact ⟨_, _, _, _, _, _, rfl, hb, .inr (.inr (.inl ⟨hB, rfl, by decide⟩))⟩
       · refine (nx_err s p b t hd hp hlim hbl hen (by simpa using h46) (by simpa using h45) hnu hle w).mono ?_
         rintro e w' ⟨g, rfl, hb⟩
         exact ⟨_, _, _, _, _, _, rfl, hb, .inr (.inr (.inr (.inr ⟨hB, by decide, hN.symm, rfl⟩)))⟩
   · rw [hnu] at hN
     have hdg := (digB_eq b).1 hN.symm
     refine (nx_digit s p b t hd hp hlim hbl hen hdg.1 hdg.2 w).mono ?_
     rintro e w' ⟨k, a, tx, g, nx, er, rfl, hor, hb⟩
     refine ⟨_, _, _, _, _, _, rfl, hb, ?_⟩
     by_cases he : er = 0
     · exact .inr (.inr (.inl ⟨hB, he, hor.resolve_left (fun h => h he)⟩))
     · exact .inr (.inr (.inr (.inl ⟨hB, he, hN.symm⟩)))
 · rw [hle] at hB
   have hnu := let_no_num hle
   rw [hnu] at hN
   have := nx_word s p b t hd hp hlim hbl hen (let_no hle 46 (.inr rfl)) (let_no hle 45 (.inl rfl)) hnu hle w
   by_cases h24 : 24 < runS (b :: t)
   · rw [if_pos h24] at this
     refine this.mono ?_
     rintro e w' ⟨g, rfl, hb⟩
     exact ⟨_, _, _, _, _, _, rfl, hb, .inr (.inl ⟨by decide, hN.symm, hB, h24, rfl⟩)⟩
   · rw [if_neg h24] at this
     refine this.mono ?_
     rintro e w' ⟨g, rfl, hb⟩
     exact ⟨_, _, _, _, _, _, rfl, hb, .inl ⟨rfl, rfl, hB, by omega, rfl, rfl⟩⟩
theorem nameS_no {l : Bs} (hB : beginsS l = false) : nameS l = .error (l, 220) := by unfold nameS; rw [if_pos (by rw [hB]; simp)]
theorem nameS_long {l : Bs} (he : endsS l = false) (hB : beginsS l = true) (h : 24 < runS l) : nameS l = .error (l.drop (longS (l.take (runS l))), 220) := by
 unfold nameS; rw [if_neg (by rw [he, hB]; simp), if_pos h]
theorem nameS_ok {l : Bs} (he : endsS l = false) (hB : beginsS l = true) (h : runS l ≤ 24) : nameS l = .ok (l.take (runS l), l.drop (runS l)) := by
 unfold nameS; rw [if_neg (by rw [he, hB]; simp), if_neg (by omega)]
theorem cu_name {B p : Nat} {s t : Bs} {b : UInt8} (w : World) (h : CuC w B s p (b :: t) 0) (hbl : blB b = false) (hen : endsS (b :: t) = false) :
   Calls Tryz.prog 91 #[.pointer (some ⟨B, 0, none⟩)] w (CuRes B s w (fun u : Bs => .string ⟨u.toArray⟩) (nameS (b :: t))) := by
 have HEN := hid (cu_ends w h)
 rw [hen] at HEN
 have HN := hid (fun W => r_next s p b t h.d h.le h.lim hbl hen W)
 have hix := fun W => run_ix Tryz.underlying9 s p b h.at_ W
 have HEE := hid hen
 have hpb : p ≤ 1000000 := Nat.le_trans h.le h.lim
 have c2 := h.x.1 2
 have HH := hid h
 obtain ⟨X, hX⟩ : ∃ X, X = nameS (b :: t) := ⟨_, rfl⟩
 rw [← hX]
 have HXX := hid hX
 clear h hX hbl hen
 go_enter Tryz.func91, Tryz.ntmps91
 go_wp2_with fail
 refine HEN.out.mono ?_
 rintro e w1 ⟨rfl, hb1⟩
 have HC1 := hid (HH.out.below hb1); have HS1 : Hid (Cs B w w1) := hid (Cs.of_below hb1)
 clear hb1 c2
 have c0 := HC1.out.x.1 0; have c1 := HC1.out.x.1 1; have c2 := HC1.out.x.1 2
 go_wp2_with fail
 refine wp_region_ordU 99 (.q 0 0 (.q 1 0 (.q 2 0 (.q 3 0 (.q 4 0 (.q 5 0 (.q 6 0 (.q 7 0 (.alt 8 (.q 9 0 (.q 10 0 (.q 11 0 (.q 12 0 (.l 13 (.l 14 (.q 15 0 (.q 16 0 .nil)))))))) 13 (.l 8 (.q 9 0 (.q 10 0 (.q 11 0 (.q 12 0 (.l 14 (.q 15 0 (.q 16 0 .nil))))))))))))))))) (fun _ => True) (fun W' => W'.cell? ⟨B, 0, none⟩ = some (.string ⟨s.toArray⟩) ∧ W'.cell? ⟨B, 1, none⟩ = some (.int .i64 (p : Int))) (by kernel_rfl) (by kernel_rfl) trivial ⟨c0, c1⟩ ?_
 repeat ((first | refine ordU_q rfl rfl ?_ | refine ordU_p rfl rfl ?_); apply Exists.intro; refine ⟨fun wS hS => ?_, ?_⟩; (go_simp; try with_reducible rfl); simp only [Act.put, List.setIfInBounds_toArray, List.set_cons_zero, List.set_cons_succ])
 have HB1 : Hid (Below w1.heap.size w1 w1.drew) := hid ((Below.refl w1.heap.size w1).drew)
 obtain ⟨W0, hW0⟩ : ∃ W0 : World, W0 = w1.drew := ⟨_, rfl⟩
 rw [← hW0] at HB1 ⊢
 clear hW0
 refine ⟨?_, ?_⟩
 · skip
   refine ordU_one rfl rfl (fun K hK => ?_)
   go_simp
   refine (HN.out _).mono ?_
   rintro e w2 ⟨k, a, tx, g, nx, er, rfl, hb, hx⟩
   have HB2 := hid (HB1.out.trans (hb.mono HB1.out.size)); have HX := hid hx
   refine hK _ _ ⟨trivial, (HC1.out.below HB2.out).x.1 0, (HC1.out.below HB2.out).x.1 1⟩ ?_
   clear hK K hb hx
   repeat ((first | refine ordU_q rfl rfl ?_ | refine ordU_p rfl rfl ?_); apply Exists.intro; refine ⟨fun wS hS => ?_, ?_⟩; (go_simp; try with_reducible rfl); simp only [Act.put, List.setIfInBounds_toArray, List.set_cons_zero, List.set_cons_succ])
   refine ordU_l rfl rfl (fun K hK => ?_)
   go_simp
   have HB3 := hid (belowA HB2.out (.cells (cellsTk 0 0 [] false) 56)); have HT3 := hid (Bx.new w2 (cellsTk 0 0 [] false) 56)
   have HTL := hid (show w1.heap.size ≤ w2.heap.size from HB2.out.size)
   obtain ⟨tb, htb⟩ : ∃ tb, tb = w2.heap.size := ⟨_, rfl⟩
   refine hK _ _ ⟨trivial, (HC1.out.below HB3.out).x.1 0, (HC1.out.below HB3.out).x.1 1⟩ ?_
   rw [← htb] at HT3 HTL ⊢
   generalize w2.alloc (.cells (cellsTk 0 0 [] false) 56) = w3 at HB3 HT3 ⊢
   clear hK K htb
   have hc3 := HT3.out.1; have hf3 := HT3.out.2.1
   refine ordU_l rfl rfl (fun K hK => ?_)
   go_simp
   have HT4 := hid ((((HT3.out.setC 0 (by simp) (.int .i64 k)).setC 1 (by simp) (.int .i64 a)).setC 2 (by simp) (.string ⟨tx.toArray⟩)).setC 3 (by simp) (.bool g))
   have HB4 := hid ((((HB3.out.setCell (p := ⟨tb, 0, none⟩) HTL.out (.int .i64 k)).setCell (p := ⟨tb, 1, none⟩) HTL.out (.int .i64 a)).setCell (p := ⟨tb, 2, none⟩) HTL.out (.string ⟨tx.toArray⟩)).setCell (p := ⟨tb, 3, none⟩) HTL.out (.bool g))
   refine hK _ _ ⟨trivial, (HC1.out.below HB4.out).x.1 0, (HC1.out.below HB4.out).x.1 1⟩ ?_
   generalize (((w3.setCell ⟨tb, 0, none⟩ (.int .i64 k)).setCell ⟨tb, 1, none⟩ (.int .i64 a)).setCell ⟨tb, 2, none⟩ (.string ⟨tx.toArray⟩)).setCell ⟨tb, 3, none⟩ (.bool g) = w4 at HB4 HT4 ⊢
   clear hK K hc3 hf3 c0 c1 HB3 HT3
   have HC4 := hid (HC1.out.below HB4.out); have HS4 := hid (HS1.out.tr (Cs.of_below HB4.out))
   have c0 := HC4.out.x.1 0; have c1 := HC4.out.x.1 1; have c2 := HC4.out.x.1 2; have z1 := HC4.out.x.2.1 1; have hct := HT4.out.1
   repeat ((first | refine ordU_q rfl rfl ?_ | refine ordU_p rfl rfl ?_); apply Exists.intro; refine ⟨fun wS hS => ?_, ?_⟩; (go_simp; try with_reducible rfl); simp only [Act.put, List.setIfInBounds_toArray, List.set_cons_zero, List.set_cons_succ])
   refine ordU_nil ?_
   go_wp2_with fail
   refine wp_region_ordC 99 [(0, 0), (1, 0), (2, 0), (3, 0), (4, 0), (5, 0), (6, 0), (7, 0), (8, 0), (9, 0)] (fun _ => True) (fun W' => W'.cell? ⟨B, 0, none⟩ = some (.string ⟨s.toArray⟩) ∧ W'.cell? ⟨B, 1, none⟩ = some (.int .i64 (p : Int))) (by kernel_rfl) (by kernel_rfl) (trivial) (⟨c0, c1⟩) ?_
   repeat ((first | refine ordC_skip rfl rfl ?_ | refine ordC_skip1 rfl rfl ?_ | ((first | refine ordC_q rfl rfl ?_ | refine ordC_p rfl rfl ?_); apply Exists.intro; refine ⟨fun wS hS => ?_, ?_⟩; (go_simp; try with_reducible rfl))); simp only [Act.put, List.setIfInBounds_toArray, List.set_cons_zero, List.set_cons_succ])
   refine ordC_nil ?_
   have HHX := HX
   rcases HX.out with ⟨h1, h2, hB, h24, h3, h4⟩ | ⟨her, hdg, hB, h24, h4⟩ | ⟨hB, h1, hk⟩ | ⟨hB, her, hdg⟩ | ⟨hB, her, hdg, h4⟩
   · subst h1 h2
     obtain ⟨q, hq⟩ : ∃ q : Nat, q = p + runS (b :: t) := ⟨_, rfl⟩
     rw [← hq] at h4
     subst h4
     have hgo := HC4.out.drew.go (runS (b :: t)) (runS_le _) q hq
     have HGO := hid hgo; have HTX := hid h3; have HNM := hid (nameS_ok HEE.out hB h24)
     clear hgo h3 hB h24 hq HX HHX
     go_wp2_with fail
     go_ret
     refine ⟨_, _, _, 0, rfl, HGO.out.1, (HS4.out.tr (Cs.of_below (Below.refl _ _).drew)).tr HGO.out.2, ?_⟩
     rw [HXX.out, HNM.out]
     exact ⟨HTX.out, rfl, rfl⟩
   · obtain ⟨q, hq⟩ : ∃ q : Nat, q = p + longS ((b :: t).take (runS (b :: t))) := ⟨_, rfl⟩
     rw [← hq] at h4
     subst h4
     have hlo : longS ((b :: t).take (runS (b :: t))) ≤ (b :: t).length := by have := longS_le ((b :: t).take (runS (b :: t))); have := runS_le (b :: t); omega
     have HLO := hid hlo; have HQ := hid hq; have HNM := hid (nameS_long HEE.out hB h24)
     have hbe : (er == 0) = false := beq_eq_false_iff_ne.2 her
     have hbn : (er != 0) = true := by rw [bne, hbe]; rfl
     have hnd : ¬ (48 ≤ b.toNat ∧ b.toNat ≤ 57) := fun h => by rw [(digB_eq b).2 h] at hdg; cases hdg
     clear hlo hq hB h24 her hdg HX HHX
     by_cases h48 : 48 ≤ b.toNat
     · skip
       have d1i : decide ((48 : Int) ≤ (b.toNat : Int)) = true := by simp; omega
       have d1n : decide (48 ≤ b.toNat) = true := by simp; omega
       have d2i : decide ((b.toNat : Int) ≤ 57) = false := by simp; omega
       have d2n : decide (b.toNat ≤ 57) = false := by simp; omega
       clear hnd h48
       go_wp2_with fail
       refine (cu_fails _ HC4.out.drew (longS ((b :: t).take (runS (b :: t)))) HLO.out q HQ.out 220).mono ?_
       rintro e w5 ⟨rfl, hc5, hs5⟩
       have HC5 := hid hc5; have HS5 := hid ((HS4.out.tr (Cs.of_below (Below.refl _ _).drew)).tr hs5)
       clear hc5 hs5
       go_wp2_with fail
       go_ret
       refine ⟨[], _, _, 220, rfl, HC5.out, HS5.out, ?_⟩
       rw [HXX.out, HNM.out]
       exact ⟨rfl, rfl, by decide⟩
     · skip
       have d1i : decide ((48 : Int) ≤ (b.toNat : Int)) = false := by simp; omega
       have d1n : decide (48 ≤ b.toNat) = false := by simp; omega
       clear hnd h48
       go_wp2_with fail
       refine (cu_fails _ HC4.out.drew (longS ((b :: t).take (runS (b :: t)))) HLO.out q HQ.out 220).mono ?_
       rintro e w5 ⟨rfl, hc5, hs5⟩
       have HC5 := hid hc5; have HS5 := hid ((HS4.out.tr (Cs.of_below (Below.refl _ _).drew)).tr hs5)
       clear hc5 hs5
       go_wp2_with fail
       go_ret
       refine ⟨[], _, _, 220, rfl, HC5.out, HS5.out, ?_⟩
       rw [HXX.out, HNM.out]
       exact ⟨rfl, rfl, by decide⟩
   · subst h1
     have hbk : (k != 1) = true := by rw [bne, beq_eq_false_iff_ne.2 hk]; rfl
     have HNM := hid (nameS_no hB)
     clear hB hk HX HHX
     go_wp2_with fail
     refine (cu_fails _ HC4.out.drew 0 (Nat.zero_le _) p rfl 220).mono ?_
     rintro e w5 ⟨rfl, hc5, hs5⟩
     have HC5 := hid hc5; have HS5 := hid ((HS4.out.tr (Cs.of_below (Below.refl _ _).drew)).tr hs5)
     clear hc5 hs5
     go_wp2_with fail
     go_ret
     refine ⟨[], _, _, 220, rfl, HC5.out, HS5.out, ?_⟩
     rw [HXX.out, HNM.out]
     exact ⟨rfl, rfl, by decide⟩
   · have HNM := hid (nameS_no hB)
     have hbe : (er == 0) = false := beq_eq_false_iff_ne.2 her
     have hbn : (er != 0) = true := by rw [bne, hbe]; rfl
     have hdn := (digB_eq b).1 hdg
     have d1i : decide ((48 : Int) ≤ (b.toNat : Int)) = true := by simp; omega
     have d1n : decide (48 ≤ b.toNat) = true := by simp; omega
     have d2i : decide ((b.toNat : Int) ≤ 57) = true := by simp; omega
     have d2n : decide (b.toNat ≤ 57) = true := by simp; omega
     clear hB her hdg hdn HX HHX
     go_wp2_with fail
     refine (cu_fails _ HC4.out.drew 0 (Nat.zero_le _) p rfl 220).mono ?_
     rintro e w5 ⟨rfl, hc5, hs5⟩
     have HC5 := hid hc5; have HS5 := hid ((HS4.out.tr (Cs.of_below (Below.refl _ _).drew)).tr hs5)
     clear hc5 hs5
     go_wp2_with fail
     go_ret
     refine ⟨[], _, _, 220, rfl, HC5.out, HS5.out, ?_⟩
     rw [HXX.out, HNM.out]
     exact ⟨rfl, rfl, by decide⟩
   · subst h4
     have HNM := hid (nameS_no hB)
     have hbe : (er == 0) = false := beq_eq_false_iff_ne.2 her
     have hbn : (er != 0) = true := by rw [bne, hbe]; rfl
     have hnd : ¬ (48 ≤ b.toNat ∧ b.toNat ≤ 57) := fun h => by rw [(digB_eq b).2 h] at hdg; cases hdg
     clear hB her hdg HX HHX
     by_cases h48 : 48 ≤ b.toNat
     · skip
       have d1i : decide ((48 : Int) ≤ (b.toNat : Int)) = true := by simp; omega
       have d1n : decide (48 ≤ b.toNat) = true := by simp; omega
       have d2i : decide ((b.toNat : Int) ≤ 57) = false := by simp; omega
       have d2n : decide (b.toNat ≤ 57) = false := by simp; omega
       clear hnd h48
       go_wp2_with fail
       refine (cu_fails _ HC4.out.drew 0 (Nat.zero_le _) p rfl 220).mono ?_
       rintro e w5 ⟨rfl, hc5, hs5⟩
       have HC5 := hid hc5; have HS5 := hid ((HS4.out.tr (Cs.of_below (Below.refl _ _).drew)).tr hs5)
       clear hc5 hs5
       go_wp2_with fail
       go_ret
       refine ⟨[], _, _, 220, rfl, HC5.out, HS5.out, ?_⟩
       rw [HXX.out, HNM.out]
       exact ⟨rfl, rfl, by decide⟩
     · skip
       have d1i : decide ((48 : Int) ≤ (b.toNat : Int)) = false := by simp; omega
       have d1n : decide (48 ≤ b.toNat) = false := by simp; omega
       clear hnd h48
       go_wp2_with fail
       refine (cu_fails _ HC4.out.drew 0 (Nat.zero_le _) p rfl 220).mono ?_
       rintro e w5 ⟨rfl, hc5, hs5⟩
       have HC5 := hid hc5; have HS5 := hid ((HS4.out.tr (Cs.of_below (Below.refl _ _).drew)).tr hs5)
       clear hc5 hs5
       go_wp2_with fail
       go_ret
       refine ⟨[], _, _, 220, rfl, HC5.out, HS5.out, ?_⟩
       rw [HXX.out, HNM.out]
       exact ⟨rfl, rfl, by decide⟩
 · skip
   refine ordU_one rfl rfl (fun K hK => ?_)
   go_simp
   have HB2 := hid (belowA HB1.out (.cells (cellsTk 0 0 [] false) 56)); have HT2 := hid (Bx.new W0 (cellsTk 0 0 [] false) 56)
   have HTL := hid (show w1.heap.size ≤ W0.heap.size from HB1.out.size)
   obtain ⟨tb, htb⟩ : ∃ tb, tb = W0.heap.size := ⟨_, rfl⟩
   refine hK _ _ ⟨trivial, (HC1.out.below HB2.out).x.1 0, (HC1.out.below HB2.out).x.1 1⟩ ?_
   rw [← htb] at HT2 HTL ⊢
   generalize W0.alloc (.cells (cellsTk 0 0 [] false) 56) = w2 at HB2 HT2 ⊢
   clear hK K htb
   refine ordU_l rfl rfl (fun K hK => ?_)
   go_simp
   refine (HN.out _).mono ?_
   rintro e w3 ⟨k, a, tx, g, nx, er, rfl, hb, hx⟩
   have HB3 := hid (HB2.out.trans (hb.mono HB2.out.size)); have HX := hid hx
   have HT3 := hid (HT2.out.keep hb)
   refine hK _ _ ⟨trivial, (HC1.out.below HB3.out).x.1 0, (HC1.out.below HB3.out).x.1 1⟩ ?_
   clear hK K hb hx
   repeat ((first | refine ordU_q rfl rfl ?_ | refine ordU_p rfl rfl ?_); apply Exists.intro; refine ⟨fun wS hS => ?_, ?_⟩; (go_simp; try with_reducible rfl); simp only [Act.put, List.setIfInBounds_toArray, List.set_cons_zero, List.set_cons_succ])
   have hc3 := HT3.out.1; have hf3 := HT3.out.2.1
   refine ordU_l rfl rfl (fun K hK => ?_)
   go_simp
   have HT4 := hid ((((HT3.out.setC 0 (by simp) (.int .i64 k)).setC 1 (by simp) (.int .i64 a)).setC 2 (by simp) (.string ⟨tx.toArray⟩)).setC 3 (by simp) (.bool g))
   have HB4 := hid ((((HB3.out.setCell (p := ⟨tb, 0, none⟩) HTL.out (.int .i64 k)).setCell (p := ⟨tb, 1, none⟩) HTL.out (.int .i64 a)).setCell (p := ⟨tb, 2, none⟩) HTL.out (.string ⟨tx.toArray⟩)).setCell (p := ⟨tb, 3, none⟩) HTL.out (.bool g))
   refine hK _ _ ⟨trivial, (HC1.out.below HB4.out).x.1 0, (HC1.out.below HB4.out).x.1 1⟩ ?_
   generalize (((w3.setCell ⟨tb, 0, none⟩ (.int .i64 k)).setCell ⟨tb, 1, none⟩ (.int .i64 a)).setCell ⟨tb, 2, none⟩ (.string ⟨tx.toArray⟩)).setCell ⟨tb, 3, none⟩ (.bool g) = w4 at HB4 HT4 ⊢
   clear hK K hc3 hf3 c0 c1 HB3 HT3
   have HC4 := hid (HC1.out.below HB4.out); have HS4 := hid (HS1.out.tr (Cs.of_below HB4.out))
   have c0 := HC4.out.x.1 0; have c1 := HC4.out.x.1 1; have c2 := HC4.out.x.1 2; have z1 := HC4.out.x.2.1 1; have hct := HT4.out.1
   repeat ((first | refine ordU_q rfl rfl ?_ | refine ordU_p rfl rfl ?_); apply Exists.intro; refine ⟨fun wS hS => ?_, ?_⟩; (go_simp; try with_reducible rfl); simp only [Act.put, List.setIfInBounds_toArray, List.set_cons_zero, List.set_cons_succ])
   refine ordU_nil ?_
   go_wp2_with fail
   refine wp_region_ordC 99 [(0, 0), (1, 0), (2, 0), (3, 0), (4, 0), (5, 0), (6, 0), (7, 0), (8, 0), (9, 0)] (fun _ => True) (fun W' => W'.cell? ⟨B, 0, none⟩ = some (.string ⟨s.toArray⟩) ∧ W'.cell? ⟨B, 1, none⟩ = some (.int .i64 (p : Int))) (by kernel_rfl) (by kernel_rfl) (trivial) (⟨c0, c1⟩) ?_
   repeat ((first | refine ordC_skip rfl rfl ?_ | refine ordC_skip1 rfl rfl ?_ | ((first | refine ordC_q rfl rfl ?_ | refine ordC_p rfl rfl ?_); apply Exists.intro; refine ⟨fun wS hS => ?_, ?_⟩; (go_simp; try with_reducible rfl))); simp only [Act.put, List.setIfInBounds_toArray, List.set_cons_zero, List.set_cons_succ])
   refine ordC_nil ?_
   have HHX := HX
   rcases HX.out with ⟨h1, h2, hB, h24, h3, h4⟩ | ⟨her, hdg, hB, h24, h4⟩ | ⟨hB, h1, hk⟩ | ⟨hB, her, hdg⟩ | ⟨hB, her, hdg, h4⟩
   · subst h1 h2
     obtain ⟨q, hq⟩ : ∃ q : Nat, q = p + runS (b :: t) := ⟨_, rfl⟩
     rw [← hq] at h4
     subst h4
     have hgo := HC4.out.drew.go (runS (b :: t)) (runS_le _) q hq
     have HGO := hid hgo; have HTX := hid h3; have HNM := hid (nameS_ok HEE.out hB h24)
     clear hgo h3 hB h24 hq HX HHX
     go_wp2_with fail
     go_ret
     refine ⟨_, _, _, 0, rfl, HGO.out.1, (HS4.out.tr (Cs.of_below (Below.refl _ _).drew)).tr HGO.out.2, ?_⟩
     rw [HXX.out, HNM.out]
     exact ⟨HTX.out, rfl, rfl⟩
   · obtain ⟨q, hq⟩ : ∃ q : Nat, q = p + longS ((b :: t).take (runS (b :: t))) := ⟨_, rfl⟩
     rw [← hq] at h4
     subst h4
     have hlo : longS ((b :: t).take (runS (b :: t))) ≤ (b :: t).length := by have := longS_le ((b :: t).take (runS (b :: t))); have := runS_le (b :: t); omega
     have HLO := hid hlo; have HQ := hid hq; have HNM := hid (nameS_long HEE.out hB h24)
     have hbe : (er == 0) = false := beq_eq_false_iff_ne.2 her
     have hbn : (er != 0) = true := by rw [bne, hbe]; rfl
     have hnd : ¬ (48 ≤ b.toNat ∧ b.toNat ≤ 57) := fun h => by rw [(digB_eq b).2 h] at hdg; cases hdg
     clear hlo hq hB h24 her hdg HX HHX
     by_cases h48 : 48 ≤ b.toNat
     · skip
       have d1i : decide ((48 : Int) ≤ (b.toNat : Int)) = true := by simp; omega
       have d1n : decide (48 ≤ b.toNat) = true := by simp; omega
       have d2i : decide ((b.toNat : Int) ≤ 57) = false := by simp; omega
       have d2n : decide (b.toNat ≤ 57) = false := by simp; omega
       clear hnd h48
       go_wp2_with fail
       refine (cu_fails _ HC4.out.drew (longS ((b :: t).take (runS (b :: t)))) HLO.out q HQ.out 220).mono ?_
       rintro e w5 ⟨rfl, hc5, hs5⟩
       have HC5 := hid hc5; have HS5 := hid ((HS4.out.tr (Cs.of_below (Below.refl _ _).drew)).tr hs5)
       clear hc5 hs5
       go_wp2_with fail
       go_ret
       refine ⟨[], _, _, 220, rfl, HC5.out, HS5.out, ?_⟩
       rw [HXX.out, HNM.out]
       exact ⟨rfl, rfl, by decide⟩
     · skip
       have d1i : decide ((48 : Int) ≤ (b.toNat : Int)) = false := by simp; omega
       have d1n : decide (48 ≤ b.toNat) = false := by simp; omega
       clear hnd h48
       go_wp2_with fail
       refine (cu_fails _ HC4.out.drew (longS ((b :: t).take (runS (b :: t)))) HLO.out q HQ.out 220).mono ?_
       rintro e w5 ⟨rfl, hc5, hs5⟩
       have HC5 := hid hc5; have HS5 := hid ((HS4.out.tr (Cs.of_below (Below.refl _ _).drew)).tr hs5)
       clear hc5 hs5
       go_wp2_with fail
       go_ret
       refine ⟨[], _, _, 220, rfl, HC5.out, HS5.out, ?_⟩
       rw [HXX.out, HNM.out]
       exact ⟨rfl, rfl, by decide⟩
   · subst h1
     have hbk : (k != 1) = true := by rw [bne, beq_eq_false_iff_ne.2 hk]; rfl
     have HNM := hid (nameS_no hB)
     clear hB hk HX HHX
     go_wp2_with fail
     refine (cu_fails _ HC4.out.drew 0 (Nat.zero_le _) p rfl 220).mono ?_
     rintro e w5 ⟨rfl, hc5, hs5⟩
     have HC5 := hid hc5; have HS5 := hid ((HS4.out.tr (Cs.of_below (Below.refl _ _).drew)).tr hs5)
     clear hc5 hs5
     go_wp2_with fail
     go_ret
     refine ⟨[], _, _, 220, rfl, HC5.out, HS5.out, ?_⟩
     rw [HXX.out, HNM.out]
     exact ⟨rfl, rfl, by decide⟩
   · have HNM := hid (nameS_no hB)
     have hbe : (er == 0) = false := beq_eq_false_iff_ne.2 her
     have hbn : (er != 0) = true := by rw [bne, hbe]; rfl
     have hdn := (digB_eq b).1 hdg
     have d1i : decide ((48 : Int) ≤ (b.toNat : Int)) = true := by simp; omega
     have d1n : decide (48 ≤ b.toNat) = true := by simp; omega
     have d2i : decide ((b.toNat : Int) ≤ 57) = true := by simp; omega
     have d2n : decide (b.toNat ≤ 57) = true := by simp; omega
     clear hB her hdg hdn HX HHX
     go_wp2_with fail
     refine (cu_fails _ HC4.out.drew 0 (Nat.zero_le _) p rfl 220).mono ?_
     rintro e w5 ⟨rfl, hc5, hs5⟩
     have HC5 := hid hc5; have HS5 := hid ((HS4.out.tr (Cs.of_below (Below.refl _ _).drew)).tr hs5)
     clear hc5 hs5
     go_wp2_with fail
     go_ret
     refine ⟨[], _, _, 220, rfl, HC5.out, HS5.out, ?_⟩
     rw [HXX.out, HNM.out]
     exact ⟨rfl, rfl, by decide⟩
   · subst h4
     have HNM := hid (nameS_no hB)
     have hbe : (er == 0) = false := beq_eq_false_iff_ne.2 her
     have hbn : (er != 0) = true := by rw [bne, hbe]; rfl
     have hnd : ¬ (48 ≤ b.toNat ∧ b.toNat ≤ 57) := fun h => by rw [(digB_eq b).2 h] at hdg; cases hdg
     clear hB her hdg HX HHX
     by_cases h48 : 48 ≤ b.toNat
     · skip
       have d1i : decide ((48 : Int) ≤ (b.toNat : Int)) = true := by simp; omega
       have d1n : decide (48 ≤ b.toNat) = true := by simp; omega
       have d2i : decide ((b.toNat : Int) ≤ 57) = false := by simp; omega
       have d2n : decide (b.toNat ≤ 57) = false := by simp; omega
       clear hnd h48
       go_wp2_with fail
       refine (cu_fails _ HC4.out.drew 0 (Nat.zero_le _) p rfl 220).mono ?_
       rintro e w5 ⟨rfl, hc5, hs5⟩
       have HC5 := hid hc5; have HS5 := hid ((HS4.out.tr (Cs.of_below (Below.refl _ _).drew)).tr hs5)
       clear hc5 hs5
       go_wp2_with fail
       go_ret
       refine ⟨[], _, _, 220, rfl, HC5.out, HS5.out, ?_⟩
       rw [HXX.out, HNM.out]
       exact ⟨rfl, rfl, by decide⟩
     · skip
       have d1i : decide ((48 : Int) ≤ (b.toNat : Int)) = false := by simp; omega
       have d1n : decide (48 ≤ b.toNat) = false := by simp; omega
       clear hnd h48
       go_wp2_with fail
       refine (cu_fails _ HC4.out.drew 0 (Nat.zero_le _) p rfl 220).mono ?_
       rintro e w5 ⟨rfl, hc5, hs5⟩
       have HC5 := hid hc5; have HS5 := hid ((HS4.out.tr (Cs.of_below (Below.refl _ _).drew)).tr hs5)
       clear hc5 hs5
       go_wp2_with fail
       go_ret
       refine ⟨[], _, _, 220, rfl, HC5.out, HS5.out, ?_⟩
       rw [HXX.out, HNM.out]
       exact ⟨rfl, rfl, by decide⟩
end Yd


namespace Yd
open Go
inductive OT where
 | nil
 | q (i c : Nat) (r : OT)
 | l (i : Nat) (r : OT)
 | alt (i : Nat) (r : OT) (j : Nat) (s : OT)
def OT.size : OT → Nat
 | .nil => 0
 | .q _ _ r => r.size + 1
 | .l _ r => r.size + 1
 | .alt _ r _ _ => r.size + 1
section
variable {P : Program} {ops : Array Oper} {Q : Exit → Act → World → Prop} {md : Region.Mode} {R S : World → Prop} {cut : Nat}
def wpOrdT (P : Program) (ops : Array Oper) (Q : Exit → Act → World → Prop) (R S : World → Prop) (cut : Nat) : OT → Act → World → Prop
 | .nil, a, w => Q .normal a w
 | .q i 0 r, a, w => ∃ o v, ops[i]? = some o ∧ YieldsIf P ops (fun w => R w ∧ S w) o v a ∧ wpOrdT P ops Q R S cut r (a.put o.dst v) w
 | .q i (_ + 1) r, a, w => ∃ o v, ops[i]? = some o ∧ YieldsIf P ops R o v a ∧ wpOrdT P ops Q R S cut r (a.put o.dst v) w
 | .l i r, a, w => wpOp P ops Q i (fun a' w' => ThenS cut R S i w w' ∧ wpOrdT P ops Q R S cut r a' w') a w
 | .alt i r j s, a, w => wpOp P ops Q i (fun a' w' => ThenS cut R S i w w' ∧ wpOrdT P ops Q R S cut r a' w') a w ∧ wpOp P ops Q j (fun a' w' => ThenS cut R S j w w' ∧ wpOrdT P ops Q R S cut s a' w') a w
def okOrdT (md : Region.Mode) (ops : Array Oper) (cut : Nat) : OT → Bool → Array Bool → Bool
 | .nil, _, listed => (Region.ready md ops listed).isEmpty
 | .q i 0 r, held, listed => (Region.ready md ops listed).contains i && Region.free md ops listed i && (held && waits md ops cut i) && okOrdT md ops cut r held (listed.setIfInBounds i true)
 | .q i (_ + 1) r, held, listed => (Region.ready md ops listed).contains i && Region.free md ops listed i && okOrdT md ops cut r held (listed.setIfInBounds i true)
 | .l i r, held, listed => decide (Region.ready md ops listed = [i]) && okOrdT md ops cut r (held && decide (i < cut)) (listed.setIfInBounds i true)
 | .alt i r j s, held, listed => decide (Region.ready md ops listed = [i, j]) && decide (r.size = s.size) && okOrdT md ops cut r (held && decide (i < cut)) (listed.setIfInBounds i true) && okOrdT md ops cut s (held && decide (j < cut)) (listed.setIfInBounds j true)
theorem held_step {i : Nat} {held : Bool} {w w' : World} (hS : held = true → S w) (h : ThenS cut R S i w w') (hh : (held && decide (i < cut)) = true) : S w' := by
 simp only [Bool.and_eq_true, decide_eq_true_eq] at hh
 rcases h.2 with h1 | h1
 · omega
 · exact h1 (hS hh.1)
theorem wpAnyT_of_ordT (hs : Region.noSelect ops = true) (hQ : ∀ d v c a w, Q (.panic c) (Act.put a d v) w → Q (.panic c) a w) :
   ∀ (l : OT) (held : Bool) (listed : Array Bool) (a : Act) (w : World), okOrdT md ops cut l held listed = true → R w → (held = true → S w) → wpOrdT P ops Q R S cut l a w → wpAnyT P md ops Q (ThenS cut R S) l.size listed a w
 | .nil, _, listed, a, w, hB, _, _, h => ⟨by simpa [okOrdT] using hB, h⟩
 | .q i 0 r, held, listed, a, w, hB, hR, hS, h => by
   simp only [okOrdT, Bool.and_eq_true] at hB
   obtain ⟨⟨⟨hr, hf⟩, hh, hc⟩, hB'⟩ := hB
   obtain ⟨o, v, ho, hy, hn⟩ := h
   have hrest := wpAnyT_of_ordT hs hQ r held _ _ _ hB' hR hS hn
   refine wpAnyT_first (S := fun w => R w ∧ S w) ho (Region.noSelect_spec hs) (fun c a w => hQ _ _ c a w) (fun _ h => ⟨h.1, .inr id⟩) (fun j oj hj hne hno w w' hw' hw => ⟨hw'.1, ?_⟩) r.size listed a w (Region.free_spec ho hf) (by simpa using hr) hy ⟨hR, hS hh⟩ hrest
   rcases hw'.2 with h1 | h1
   · exact absurd (waits_spec hc j oj hj hno) (by omega)
   · exact h1 hw.2
 | .q i (_ + 1) r, held, listed, a, w, hB, hR, hS, h => by
   simp only [okOrdT, Bool.and_eq_true] at hB
   obtain ⟨⟨hr, hf⟩, hB'⟩ := hB
   obtain ⟨o, v, ho, hy, hn⟩ := h
   have hrest := wpAnyT_of_ordT hs hQ r held _ _ _ hB' hR hS hn
   exact wpAnyT_first (S := R) ho (Region.noSelect_spec hs) (fun c a w => hQ _ _ c a w) (fun _ h => ⟨h, .inr id⟩) (fun j oj hj hne hno w w' hw' _ => hw'.1) r.size listed a w (Region.free_spec ho hf) (by simpa using hr) hy hR hrest
 | .l i r, held, listed, a, w, hB, hR, hS, h => by
   simp only [okOrdT, Bool.and_eq_true, decide_eq_true_eq] at hB
   obtain ⟨hr, hB'⟩ := hB
   refine ⟨fun h0 => (by rw [hr] at h0; cases h0), fun j hj => ?_⟩
   rw [hr] at hj
   obtain rfl : j = i := by simpa using hj
   exact wpOp_mono (fun a' w' hh => ⟨hh.1, wpAnyT_of_ordT hs hQ r _ _ a' w' hB' hh.1.1 (held_step hS hh.1) hh.2⟩) h
 | .alt i r k s, held, listed, a, w, hB, hR, hS, h => by
   simp only [okOrdT, Bool.and_eq_true, decide_eq_true_eq] at hB
   obtain ⟨⟨⟨hr, hz⟩, hB1⟩, hB2⟩ := hB
   refine ⟨fun h0 => (by rw [hr] at h0; cases h0), fun j hj => ?_⟩
   rw [hr] at hj
   rcases (by simpa using hj : j = i ∨ j = k) with rfl | rfl
   · exact wpOp_mono (fun a' w' hh => ⟨hh.1, wpAnyT_of_ordT hs hQ r _ _ a' w' hB1 hh.1.1 (held_step hS hh.1) hh.2⟩) h.1
   · refine wpOp_mono (fun a' w' hh => ⟨hh.1, ?_⟩) h.2
     have := wpAnyT_of_ordT hs hQ s _ _ a' w' hB2 hh.1.1 (held_step hS hh.1) hh.2
     show wpAnyT P md ops Q (ThenS cut R S) r.size _ a' w'
     rw [hz]; exact this
theorem wp_region_ordT {id : Nat} {a : Act} {w : World} {l : List Oper} (cut : Nat) (ord : OT) (R S : World → Prop) (hm : P.follows .mixedOrders = true)
   (hB : (Region.noSelect l.toArray && decide (ord.size = l.length) && okOrdT .any l.toArray cut ord true (Array.replicate l.toArray.size false)) = true)
   (hR : R w.drew) (hS : S w.drew) (h : wpOrdT P l.toArray (strictQ Q) R S cut ord a w.drew) : (Code.region id l.toArray true).wp P Q a w := by
 simp only [Bool.and_eq_true, decide_eq_true_eq] at hB
 obtain ⟨⟨hs, hl⟩, ho⟩ := hB
 refine wp_mono (Q := strictQ Q) (wp_region_any hm (wpAny_of_T (T := ThenS cut R S) _ _ _ _ ?_)) strictQ_of
 have := wpAnyT_of_ordT (md := .any) (Q := strictQ Q) hs (strictQ_p Q) ord true _ a _ ho hR (fun _ => hS) h
 rw [hl] at this
 simpa using this
theorem ordT_nil {a : Act} {w : World} (h : Q .normal a w) : wpOrdT P ops (strictQ Q) R S cut .nil a w := h
variable {l : List Oper} {a : Act} {w : World} {r s : OT} {i j : Nat} {o : Oper}
theorem ordT_q (ho : opAt l i = some o) (hw : Region.wanted o (yielded l.toArray a.tmps) = true)
   (h : ∃ v, (∀ w, R w ∧ S w → (execOp a.eval o).run P w = .ok (.value v) w) ∧ wpOrdT P l.toArray Q R S cut r (a.put o.dst v) w) : wpOrdT P l.toArray Q R S cut (.q i 0 r) a w :=
 let ⟨v, h1, h2⟩ := h
 ⟨o, v, opAt_get _ _ _ ho, .inl ⟨hw, h1⟩, h2⟩
theorem ordT_p (ho : opAt l i = some o) (hw : Region.wanted o (yielded l.toArray a.tmps) = true)
   (h : ∃ v, (∀ w, R w → (execOp a.eval o).run P w = .ok (.value v) w) ∧ wpOrdT P l.toArray Q R S cut r (a.put o.dst v) w) : wpOrdT P l.toArray Q R S cut (.q i 1 r) a w :=
 let ⟨v, h1, h2⟩ := h
 ⟨o, v, opAt_get _ _ _ ho, .inl ⟨hw, h1⟩, h2⟩
theorem ordT_one (ho : opAt l i = some o) (hw : Region.wanted o (yielded l.toArray a.tmps) = true) (h : ∀ K : Act → World → Prop, (∀ a w, R w ∧ S w → wpOrdT P l.toArray Q R S cut r a w → K a w) → o.wp P a w K Q) :
   wpOp P l.toArray Q i (fun a' w' => ThenS cut R S i w w' ∧ wpOrdT P l.toArray Q R S cut r a' w') a w := by
 have ho' := opAt_get _ _ _ ho
 unfold wpOp
 simp only [ho', hw, if_true]
 exact .inl (h _ fun _ _ h1 h2 => ⟨⟨h1.1, .inr fun _ => h1.2⟩, h2⟩)
theorem ordT_l (ho : opAt l i = some o) (hw : Region.wanted o (yielded l.toArray a.tmps) = true) (h : ∀ K : Act → World → Prop, (∀ a w, R w ∧ S w → wpOrdT P l.toArray Q R S cut r a w → K a w) → o.wp P a w K Q) :
   wpOrdT P l.toArray Q R S cut (.l i r) a w := ordT_one ho hw h
end
end Yd


namespace Yd
open Go Go.RowKit Go.Proofs

theorem enc_eq (c : Nat) (hc : c ≤ 1114111) (hs : ¬ (55296 ≤ c ∧ c ≤ 57343)) : Utf8.encode (c : Int) = ⟨(Lib.encodeRune (c : Int)).toArray⟩ := by
 have hv : Utf8.valid (c : Int) = true := by simp [Utf8.valid]; omega
 unfold Utf8.encode Lib.encodeRune
 simp only [hv, if_true, Int.toNat_natCast]
 have hb : ∀ (z : Int) (n : Nat), z = (n : Int) → z.toNat.toUInt8 = UInt8.ofNat n := fun z n h => by subst h; simp
 by_cases h1 : c < 128
 · rw [if_pos h1, Lib.encodeRuneZ_one (by omega) (by omega)]
   simp only [List.map_cons, List.map_nil, hb _ c rfl]
 rw [if_neg h1]
 by_cases h2 : c < 2048
 · rw [if_pos h2, Lib.encodeRuneZ_two (by omega) (by omega)]
   simp only [List.map_cons, List.map_nil, hb (192 + (c : Int) / 64) (192 + c / 64) (by omega), hb (128 + (c : Int) % 64) (128 + c % 64) (by omega)]
 rw [if_neg h2]
 by_cases h3 : c < 65536
 · rw [if_pos h3, Lib.encodeRuneZ_three (by omega)]
   simp only [List.map_cons, List.map_nil, hb (224 + (c : Int) / 4096) (224 + c / 4096) (by omega), hb (128 + (c : Int) / 64 % 64) (128 + c / 64 % 64) (by omega), hb (128 + (c : Int) % 64) (128 + c % 64) (by omega)]
 · rw [if_neg h3, Lib.encodeRuneZ_four (by omega) (by omega)]
   simp only [List.map_cons, List.map_nil, hb (240 + (c : Int) / 262144) (240 + c / 262144) (by omega), hb (128 + (c : Int) / 4096 % 64) (128 + c / 4096 % 64) (by omega), hb (128 + (c : Int) / 64 % 64) (128 + c / 64 % 64) (by omega), hb (128 + (c : Int) % 64) (128 + c % 64) (by omega)]
theorem ok_dec {l : Bs} (h : okB ⟨l.toArray⟩ 0 = true) : ¬ ((Utf8.decode ⟨l.toArray⟩ 0).1 = 65533 ∧ (Utf8.decode ⟨l.toArray⟩ 0).2 = 1) := by
 rintro ⟨h1, h2⟩
 unfold okB at h
 rw [h1, h2] at h
 simp at h
theorem first_rune (l : Bs) (hne : l ≠ []) (h : okB ⟨l.toArray⟩ 0 = true) :
   Utf8.encode ((Utf8.decode ⟨l.toArray⟩ 0).1 : Int) = ⟨(l.take (Utf8.decode ⟨l.toArray⟩ 0).2).toArray⟩ ∧ Utf8.decode ⟨(l.take (Utf8.decode ⟨l.toArray⟩ 0).2).toArray⟩ 0 = Utf8.decode ⟨l.toArray⟩ 0 ∧ (Utf8.decode ⟨l.toArray⟩ 0).2 ≤ 4 := by
 have hl : 0 < l.length := List.length_pos_iff.2 hne
 have hle := dec_le l hne
 have he := Lib.encode_decode l hne (ok_dec h)
 have hd : Utf8.decode ⟨l.toArray⟩ 0 = Lib.decodeL l := rfl
 have hd2 : ∀ u : Bs, Utf8.decode ⟨u.toArray⟩ 0 = Lib.decodeL u := fun _ => rfl
 have hg : ∀ (n k : Nat), k < n → (l.take n).getD k 0 = l.getD k 0 := fun n k h => by simp [List.getD, h]
 have hok := ok_dec h
 rw [hd] at hle hok ⊢
 rw [hd2]
 rw [Lib.decodeL_N (l.take _)]
 have hN := Lib.decodeL_N l
 rcases Lib.decodeN_shape l.length (l.getD 0 0).toNat (l.getD 1 0).toNat (l.getD 2 0).toNat (l.getD 3 0).toNat with ⟨c, e⟩ | ⟨c1, c2, c3, cv, e⟩ | ⟨c1, c2, c3, c4, cv, cs, e⟩ | ⟨c1, c2, c3, c4, c5, cv, cw, e⟩ | e
 · rw [e] at hN
   rw [hN] at hle he ⊢
   refine ⟨by rw [enc_eq _ (by simp only []; omega) (by simp only []; omega), he], ?_, by simp⟩
   simp only [List.length_take]
   rw [hg 1 0 (by omega)]
   unfold Lib.decodeN
   rw [if_pos c]
 · rw [e] at hN
   rw [hN] at hle he ⊢
   simp only at hle
   refine ⟨by rw [enc_eq _ (by simp only []; omega) (by simp only []; omega), he], ?_, by simp⟩
   simp only [List.length_take]
   rw [hg 2 0 (by omega), hg 2 1 (by omega), Nat.min_eq_left (by omega)]
   unfold Lib.decodeN
   rw [if_neg (by omega), if_pos ⟨c1, by omega, c3⟩, if_pos (by omega)]
 · rw [e] at hN
   rw [hN] at hle he ⊢
   simp only at hle
   refine ⟨by rw [enc_eq _ (by simp only []; omega) (by simp only []; omega), he], ?_, by simp⟩
   simp only [List.length_take]
   rw [hg 3 0 (by omega), hg 3 1 (by omega), hg 3 2 (by omega), Nat.min_eq_left (by omega)]
   unfold Lib.decodeN
   rw [if_neg (by omega), if_neg (by omega), if_pos ⟨c1, ⟨by omega, c3⟩, ⟨by omega, c4⟩⟩, if_pos (by omega)]
 · rw [e] at hN
   rw [hN] at hle he ⊢
   simp only at hle
   refine ⟨by rw [enc_eq _ (by simp only []; omega) (by simp only []; omega), he], ?_, by simp⟩
   simp only [List.length_take]
   rw [hg 4 0 (by omega), hg 4 1 (by omega), hg 4 2 (by omega), hg 4 3 (by omega), Nat.min_eq_left (by omega)]
   unfold Lib.decodeN
   rw [if_neg (by omega), if_neg (by omega), if_neg (by omega), if_pos ⟨c1, ⟨by omega, c3⟩, ⟨by omega, c4⟩, ⟨by omega, c5⟩⟩, if_pos (by omega)]
 · exfalso
   rw [e] at hN
   exact hok (by rw [hN]; exact ⟨rfl, rfl⟩)
end Yd
