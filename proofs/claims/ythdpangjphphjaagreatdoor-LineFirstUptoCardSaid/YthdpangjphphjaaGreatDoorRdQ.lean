import Derived.Test.YthdpangjphphjaaGreatDoorLxQ
import Derived.Test.YthdpangjphphjaaGreatDoorProg
import Derived.Test.YthdpangjphphjaaGreatDoorRFffd
import Derived.Test.YthdpangjphphjaaGreatDoorEnc
set_option maxRecDepth 200000
set_option maxHeartbeats 8000000
namespace Yd
open Go Go.RowKit Go.Proofs

theorem lx_other (b : UInt8) (hb : b.toNat < 128) (n32 : b.toNat ≠ 32) (n9 : b.toNat ≠ 9) (n10 : b.toNat ≠ 10) (n35 : b.toNat ≠ 35) (n46 : b.toNat ≠ 46) (n45 : b.toNat ≠ 45) (nnum : ¬ (48 ≤ b.toNat ∧ b.toNat ≤ 57)) (nlet : letB (b.toNat : Int) = false)
   (w : World) (hT : Lib.Utf8Tabs 2 3 w) : Calls Tryz.prog 26 #[.string ⟨[b].toArray⟩, .int .i64 0] w (RetOne false w) := by
 have HSK := hid (skip_head (t := []) (blB_no n32 n9) n35)
 have HS := fun W (hb : Below w.heap.size w W) => hid (lx_skip [b] 0 [b] rfl (by simp) (by simp) W (Utf8Tabs_below hT hb))
 have hnum : numB (b.toNat : Int) = false := by unfold numB; simp; omega
 have h0 : whileE ⟨[b].toArray⟩ eitB = 0 := by
   rw [whileE_cons [b] eitB (by simp), dec_lo b [] hb, if_neg]
   rw [ok_lo b [] hb]
   simp only [eitB, nlet, hnum]
   simp
 have HW := fun W (hb : Below w.heap.size w W) => hid (while_any ⟨[b].toArray⟩ 87 #[] call190 eitB W (fun r W' _ => either_any r W') (Utf8Tabs_below hT hb))
 rw [h0] at HW
 have hi0 : ∀ W, (Instr.index 9 (.string ⟨#[b]⟩) (.int .i64 0)).run Tryz.prog W = .ok (.int .u8 (b.toNat : Int)) W := fun W => run_ix Tryz.underlying9 [b] 0 b rfl W
 have hex : ByteArray.extract ⟨#[b]⟩ 0 1 = ⟨#[b]⟩ := ext_take [b] 1
 have hsl : ∀ W, (Instr.slice 9 (.string ⟨#[b]⟩) (some (.int .i64 0)) none none).run Tryz.prog W = .ok (.string ⟨#[b]⟩) W := fun W => run_sl Tryz.underlying9 [b] 0 (by simp) W
 have e10 : ((b.toNat : Int) == 10) = false := beq_eq_false_iff_ne.2 (by omega)
 have e46 : ((b.toNat : Int) == 46) = false := beq_eq_false_iff_ne.2 (by omega)
 have e45 : ((b.toNat : Int) == 45) = false := beq_eq_false_iff_ne.2 (by omega)
 have hw32 : wrap32 (b.toNat : Int) = (b.toNat : Int) := IntWalk.wrap32_in _ (by have := b.toNat_lt; omega)
 have hempty : (([b] : Bs) == ([] : Bs)) = false := rfl
 clear hb n32 n9 n10 n35 n46 n45 nnum nlet h0 hT
 go_enter Tryz.func26, Tryz.ntmps26
 go_wp2_with fail
 refine (HS _ (belowA (Below.refl _ _) _)).out.mono ?_
 rintro e w1 ⟨rfl, hb1⟩
 have HB1 := hid ((belowA (Below.refl w.heap.size w) (.cells (cellsTk 0 0 [] false) 56)).trans (hb1.mono (by simp)))
 have HX1 := hid ((Bx.new w (cellsTk 0 0 [] false) 56).keep hb1)
 clear hb1
 rw [HSK.out.1, HSK.out.2]
 go_wp2_with fail
 refine (number_any _ _).mono ?_
 rintro e w3 ⟨rfl, hb3⟩
 rw [hnum]
 have HB3 := hid ((belowA HB1.out (.cells (cellsTk 0 0 [] false) 56)).trans (hb3.mono (by have := HB1.out.size; simp; omega)))
 have HX3 := hid ((HX1.out.alloc (.cells (cellsTk 0 0 [] false) 56)).keep hb3)
 clear hb3
 go_wp2_with fail
 refine (HW _ HB3.out).out.mono ?_
 rintro e w4 ⟨rfl, hb4⟩
 have HB4 := hid (HB3.out.trans (hb4.mono HB3.out.size)); have hx4 := HX3.out.keep hb4
 have hc4 := hx4.1; have hf4 := hx4.2.1
 clear hb4 hx4
 go_wp2_with fail
 refine bodyPost_ret (v := .tuple #[.agg (cellsTk 0 0 [] false), .int .i64 0, .int .i64 120]) (by simp [results, Tryz.results26, go_sem, hc4]) rfl ⟨0, 0, [], 0, 120, ⟨false, rfl, ?_⟩, by decide⟩
 exact (((HB4.out.setCell (p := ⟨w.heap.size, 0, none⟩) (Nat.le_refl _) _).setCell (p := ⟨w.heap.size, 1, none⟩) (Nat.le_refl _) _).setCell (p := ⟨w.heap.size, 2, none⟩) (Nat.le_refl _) _).setCell (p := ⟨w.heap.size, 3, none⟩) (Nat.le_refl _) _
theorem lx_one (l1 : Bs) (c : Nat) (hc : Utf8.decode ⟨l1.toArray⟩ 0 = (c, l1.length)) (hok : okB ⟨l1.toArray⟩ 0 = true) (h1 : 1 ≤ l1.length) (h4 : l1.length ≤ 4) (w : World) (hT : Lib.Utf8Tabs 2 3 w) :
   Calls Tryz.prog 26 #[.string ⟨l1.toArray⟩, .int .i64 0] w (RetOne (letB (c : Int)) w) := by
 have hne : l1 ≠ [] := by intro e; rw [e] at h1; simp at h1
 cases hl : letB (c : Int)
 · obtain ⟨b, t, rfl⟩ : ∃ b t, l1 = b :: t := by cases l1 with
     | nil => exact absurd rfl hne
     | cons b t => exact ⟨b, t, rfl⟩
   have hb : b.toNat < 128 := by
     rcases Nat.lt_or_ge b.toNat 128 with h | h
     · exact h
     · have := (dec_hi b t h).1
       rw [hc] at this
       simp [letB] at hl
       simp at this
       omega
   rw [dec_lo b t hb] at hc
   obtain ⟨rfl, hlen⟩ : b.toNat = c ∧ 1 = (b :: t).length := by injection hc with e1 e2; exact ⟨e1, e2⟩
   obtain rfl : t = [] := List.eq_nil_of_length_eq_zero (by simp at hlen; simpa using hlen)
   by_cases k32 : b.toNat = 32
   · obtain rfl : b = 32 := UInt8.toNat_inj.1 k32; exact lx_c32 w hT
   by_cases k9 : b.toNat = 9
   · obtain rfl : b = 9 := UInt8.toNat_inj.1 k9; exact lx_c9 w hT
   by_cases k10 : b.toNat = 10
   · obtain rfl : b = 10 := UInt8.toNat_inj.1 k10; exact lx_c10 w hT
   by_cases k35 : b.toNat = 35
   · obtain rfl : b = 35 := UInt8.toNat_inj.1 k35; exact lx_c35 w hT
   by_cases k46 : b.toNat = 46
   · obtain rfl : b = 46 := UInt8.toNat_inj.1 k46; exact lx_c46 w hT
   by_cases k45 : b.toNat = 45
   · obtain rfl : b = 45 := UInt8.toNat_inj.1 k45; exact lx_c45 w hT
   by_cases kn : 48 ≤ b.toNat ∧ b.toNat ≤ 57
   · rcases (by omega : b.toNat = 48 ∨ b.toNat = 49 ∨ b.toNat = 50 ∨ b.toNat = 51 ∨ b.toNat = 52 ∨ b.toNat = 53 ∨ b.toNat = 54 ∨ b.toNat = 55 ∨ b.toNat = 56 ∨ b.toNat = 57) with h | h | h | h | h | h | h | h | h | h
     · obtain rfl : b = 48 := UInt8.toNat_inj.1 h; exact lx_c48 w hT
     · obtain rfl : b = 49 := UInt8.toNat_inj.1 h; exact lx_c49 w hT
     · obtain rfl : b = 50 := UInt8.toNat_inj.1 h; exact lx_c50 w hT
     · obtain rfl : b = 51 := UInt8.toNat_inj.1 h; exact lx_c51 w hT
     · obtain rfl : b = 52 := UInt8.toNat_inj.1 h; exact lx_c52 w hT
     · obtain rfl : b = 53 := UInt8.toNat_inj.1 h; exact lx_c53 w hT
     · obtain rfl : b = 54 := UInt8.toNat_inj.1 h; exact lx_c54 w hT
     · obtain rfl : b = 55 := UInt8.toNat_inj.1 h; exact lx_c55 w hT
     · obtain rfl : b = 56 := UInt8.toNat_inj.1 h; exact lx_c56 w hT
     · obtain rfl : b = 57 := UInt8.toNat_inj.1 h; exact lx_c57 w hT
   exact lx_other b hb k32 k9 k10 k35 k46 k45 kn hl w hT
 · have hbg : beginsS l1 = true := by
     unfold beginsS
     rw [hok, hc, show ((c, l1.length) : Nat × Nat).1 = c from rfl, hl]
     cases l1 with
     | nil => exact absurd rfl hne
     | cons b t => rfl
   have hrun : runS l1 = l1.length := by
     unfold runS
     rw [whileE_cons l1 eitB hne, hok, hc]
     simp only [eitB, hl]
     rw [if_pos (by simp), List.drop_length]
     rfl
   have := lx_word l1 0 l1 rfl (Nat.zero_le _) (by omega) hbg w hT
   refine this.mono ?_
   intro e w' h
   rw [hrun, if_neg (by omega)] at h
   exact ⟨1, _, _, _, 0, h, by decide⟩
end Yd


namespace Yd
open Go Go.RowKit Go.Proofs

theorem rd_begins0 {R p : Nat} {s : Bs} {c : LnC} {n : LnS} (w : World) (h : RdC w R s p [] c n) : Calls Tryz.prog 122 #[.pointer (some ⟨R, 0, none⟩)] w (Ret (.bool false) w) := by
 have hlim := h.lim; have hle := h.le
 have hsl := fun W => run_sl Tryz.underlying9 s p hle W
 rw [h.d] at hsl
 have HH := hid h
 clear h
 go_enter Tryz.func122, Tryz.ntmps122
 go_wp2_with fail
 refine wp_region_ordC 10 [(0, 0), (1, 0), (2, 0), (3, 0), (4, 0), (5, 0), (6, 0), (7, 0), (8, 0), (9, 2)] (fun _ => True) (fun W' => W'.cell? ⟨R, 0, none⟩ = some (.string ⟨s.toArray⟩) ∧ W'.cell? ⟨R, 1, none⟩ = some (.int .i64 p)) (by kernel_rfl) (by kernel_rfl) (trivial) (⟨HH.out.drew.c0, HH.out.drew.c1⟩) ?_
 repeat ((first | refine ordC_skip rfl rfl ?_ | refine ordC_skip1 rfl rfl ?_ | ((first | refine ordC_q rfl rfl ?_ | refine ordC_p rfl rfl ?_); apply Exists.intro; refine ⟨fun wS hS => ?_, ?_⟩; (go_simp; try with_reducible rfl))); simp only [Act.put, List.setIfInBounds_toArray, List.set_cons_zero, List.set_cons_succ])
 refine ordC_l rfl rfl (fun K hK => ?_)
 go_simp
 refine hK _ _ ⟨trivial, ?_, ?_⟩ ?_
 · exact (HH.out.drew.below (iter_below _ _)).c0
 · exact (HH.out.drew.below (iter_below _ _)).c1
 clear hK K
 refine ordC_nil ?_
 have hnx : ∀ ty, (Instr.next (.pointer (some ⟨w.heap.size, 0, none⟩)) true ty).run Tryz.prog (w.drew.iter ⟨([] : Bs).toArray⟩ 0) = _ := fun ty => Lib.run_next_end_at _ w.heap.size ⟨([] : Bs).toArray⟩ 0 ty (World.iter_heap w.drew _ 0) (by decide)
 go_wp2_with fail
 go_loopw [] (fun wr => wr = w.drew.iter ⟨([] : Bs).toArray⟩ 0) (fun _ => 0)
 case atStart => rfl
 case round =>
   subst hrel
   go_wp2_with fail
   go_ret
   exact ⟨rfl, (Below.refl w.heap.size w).drew.trans (iter_below w.drew ⟨([] : Bs).toArray⟩)⟩
theorem rd_begins1 {R p : Nat} {s : Bs} {b : UInt8} {t : Bs} {c : LnC} {n : LnS} (w : World) (h : RdC w R s p (b :: t) c n) (rn d : Nat) (hrd : Utf8.decode ⟨(b :: t).toArray⟩ 0 = (rn, d)) (u : Bs) (henc : Utf8.encode (rn : Int) = ⟨u.toArray⟩) (x hp : Bool)
   (HN : ∀ W, Below w.heap.size w W → Calls Tryz.prog 26 #[.string ⟨u.toArray⟩, .int .i64 0] W (RetOne x W)) (HP : ∀ W, Calls Tryz.prog 62 #[.string ⟨(b :: t).toArray⟩, .string ⟨u.toArray⟩] W (fun e w' => e = .returned (.bool hp) ∧ w' = W)) :
   Calls Tryz.prog 122 #[.pointer (some ⟨R, 0, none⟩)] w (Ret (.bool (x && hp)) w) := by
 have hlim := h.lim; have hle := h.le
 have hsl := fun W => run_sl Tryz.underlying9 s p hle W
 rw [h.d] at hsl
 have HH := hid h
 have HN' := hid HN; have HP' := hid HP; have HRD := hid hrd
 clear h HN HP
 have hsz0 : w.drew.heap.size = w.heap.size := rfl
 go_enter Tryz.func122, Tryz.ntmps122
 go_wp2_with fail
 refine wp_region_ordC 10 [(0, 0), (1, 0), (2, 0), (3, 0), (4, 0), (5, 0), (6, 0), (7, 0), (8, 0), (9, 2)] (fun _ => True) (fun W' => W'.cell? ⟨R, 0, none⟩ = some (.string ⟨s.toArray⟩) ∧ W'.cell? ⟨R, 1, none⟩ = some (.int .i64 p)) (by kernel_rfl) (by kernel_rfl) (trivial) (⟨HH.out.drew.c0, HH.out.drew.c1⟩) ?_
 repeat ((first | refine ordC_skip rfl rfl ?_ | refine ordC_skip1 rfl rfl ?_ | ((first | refine ordC_q rfl rfl ?_ | refine ordC_p rfl rfl ?_); apply Exists.intro; refine ⟨fun wS hS => ?_, ?_⟩; (go_simp; try with_reducible rfl))); simp only [Act.put, List.setIfInBounds_toArray, List.set_cons_zero, List.set_cons_succ])
 refine ordC_l rfl rfl (fun K hK => ?_)
 go_simp
 refine hK _ _ ⟨trivial, ?_, ?_⟩ ?_
 · exact (HH.out.drew.below (iter_below _ _)).c0
 · exact (HH.out.drew.below (iter_below _ _)).c1
 clear hK K
 refine ordC_nil ?_
 have hnx : ∀ ty, (Instr.next (.pointer (some ⟨w.heap.size, 0, none⟩)) true ty).run Tryz.prog (w.drew.iter ⟨(b :: t).toArray⟩ 0) = _ := fun ty => Lib.run_next_any_at _ w.heap.size ⟨(b :: t).toArray⟩ 0 ty (World.iter_heap w.drew _ 0) (by rw [bsz]; simp)
 rw [hrd] at hnx
 have hbw : Below w.heap.size w (w.drew.iter ⟨(b :: t).toArray⟩ 0) := (Below.refl w.heap.size w).drew.trans (iter_below w.drew _)
 have hbz := Lib.below_iterAt hbw (k := w.heap.size) (Nat.le_refl _) ⟨(b :: t).toArray⟩ (0 + d)
 have HBZ := hid hbz
 have HZ := hid (HH.out.below hbz)
 clear hbz hrd hbw
 go_wp2_with fail
 go_loopw [] (fun wr => wr = w.drew.iter ⟨(b :: t).toArray⟩ 0) (fun _ => 0)
 case atStart => rfl
 case round =>
   subst hrel
   revert hnx HBZ HZ
   generalize ((w.drew.iter ⟨(b :: t).toArray⟩ 0).iterAt w.heap.size ⟨(b :: t).toArray⟩ (0 + d)) = Z
   intro hnx HBZ HZ
   go_wp2_with fail
   refine (HN'.out Z HBZ.out).mono ?_
   rintro e w2 ⟨k, a, tt, nx, er, ⟨g, rfl, hb2⟩, hxx⟩
   have HB2 := hid (HBZ.out.trans (hb2.mono HBZ.out.size))
   have hz2 := HZ.out.below hb2
   have H2 := hid (hz2.below (belowA (Below.refl _ _) (.cells (cellsTk k a tt g) 56)))
   have hct := (Bx.new w2 (cellsTk k a tt g) 56).1
   have c0 := H2.out.c0; have c1 := H2.out.c1
   clear hb2 hz2 hnx
   cases her : (er == 0)
   · have HX : Hid (x = false) := hid (by rw [← hxx, her]; rfl)
     clear hxx
     go_wp2_with (go_quiet (fail))
     go_ret
     exact ⟨by rw [HX.out]; rfl, belowN (belowA HB2.out _) _⟩
   · cases hek : (k == 1)
     · have HX : Hid (x = false) := hid (by rw [← hxx, her, hek]; rfl)
       clear hxx
       go_wp2_with (go_quiet (fail))
       go_ret
       exact ⟨by rw [HX.out]; rfl, belowN (belowA HB2.out _) _⟩
     · have HX : Hid (x = true) := hid (by rw [← hxx, her, hek]; rfl)
       clear hxx
       go_wp2_with (go_quiet (exact (HP'.out _).mono (fun e w'' h => ⟨h.1, _, h.2⟩)))
       go_ret
       exact ⟨by rw [HX.out]; rfl, belowN (belowA HB2.out _) _⟩
theorem prefix_take (l : Bs) (k : Nat) : Lib.hasPrefix l (l.take k) = true := by
 unfold Lib.hasPrefix
 rw [List.isPrefixOf_iff_prefix]; exact List.take_prefix _ _
theorem rd_begins {R p : Nat} {s l : Bs} {c : LnC} {n : LnS} (w : World) (h : RdC w R s p l c n) (hT : Lib.Utf8Tabs 2 3 w) : Calls Tryz.prog 122 #[.pointer (some ⟨R, 0, none⟩)] w (Ret (.bool (beginsS l)) w) := by
 cases l with
 | nil => exact rd_begins0 w h
 | cons b t =>
   obtain ⟨rn, hrn⟩ : ∃ rn, rn = (Utf8.decode ⟨(b :: t).toArray⟩ 0).1 := ⟨_, rfl⟩
   obtain ⟨d, hd⟩ : ∃ d, d = (Utf8.decode ⟨(b :: t).toArray⟩ 0).2 := ⟨_, rfl⟩
   have hrd : Utf8.decode ⟨(b :: t).toArray⟩ 0 = (rn, d) := by rw [hrn, hd]
   have hdl : d ≤ (b :: t).length := by rw [hd]; exact dec_le _ (by simp)
   have hd1 : 1 ≤ d := by rw [hd]; exact dec_w _ (by simp)
   have hB : beginsS (b :: t) = (okB ⟨(b :: t).toArray⟩ 0 && letB (rn : Int)) := by
     unfold beginsS; rw [← hrn]; rfl
   rw [hB]
   cases hok : okB ⟨(b :: t).toArray⟩ 0
   · have hbad : rn = 65533 ∧ ¬ d = 3 := by
       unfold okB at hok
       rw [← hrn, ← hd] at hok
       simp at hok
       omega
     have hpre : Lib.hasPrefix (b :: t) [239, 191, 189] = false := by
       cases hpx : Lib.hasPrefix (b :: t) [239, 191, 189]
       · rfl
       · exfalso
         unfold Lib.hasPrefix at hpx
         rw [List.isPrefixOf_iff_prefix] at hpx
         obtain ⟨r, hr⟩ := hpx
         have h3 : 3 ≤ ByteArray.size ⟨(b :: t).toArray⟩ := by rw [bsz, ← hr]; simp
         have := (fffd ⟨(b :: t).toArray⟩ h3 (by rw [← hrn]; exact hbad.1)).2 (by rw [← hr, ext_take]; rfl)
         exact hbad.2 (by rw [hd]; exact this)
     have := rd_begins1 w h rn d hrd [239, 191, 189] (by rw [hbad.1]; rfl) true false
       (fun W hb => lx_one [239, 191, 189] 65533 (by decide) (by decide) (by decide) (by decide) W (Utf8Tabs_below hT hb))
       (fun W => by
         have := Tryz.strings_HasPrefix ⟨(b :: t).toArray⟩ ⟨([239, 191, 189] : Bs).toArray⟩ W
         rw [show Lib.hasPrefix (⟨(b :: t).toArray⟩ : ByteArray).data.toList (⟨([239, 191, 189] : Bs).toArray⟩ : ByteArray).data.toList = false from hpre] at this
         exact this)
     exact this
   · obtain ⟨f1', f2, f3⟩ := first_rune (b :: t) (by simp) hok
     rw [← hrn, ← hd] at f1'
     rw [← hd, hrd] at f2
     have hlen : ((b :: t).take d).length = d := by rw [List.length_take]; omega
     have hok2 : okB ⟨((b :: t).take d).toArray⟩ 0 = true := by
       unfold okB at hok ⊢
       rw [f2]; rw [hrd] at hok; exact hok
     have := rd_begins1 w h rn d hrd ((b :: t).take d) f1' (letB (rn : Int)) true
       (fun W hb => lx_one ((b :: t).take d) rn (by rw [f2, hlen]) hok2 (by omega) (by rw [hlen, hd]; exact f3) W (Utf8Tabs_below hT hb))
       (fun W => by
         have := Tryz.strings_HasPrefix ⟨(b :: t).toArray⟩ ⟨((b :: t).take d).toArray⟩ W
         rw [show Lib.hasPrefix (⟨(b :: t).toArray⟩ : ByteArray).data.toList (⟨((b :: t).take d).toArray⟩ : ByteArray).data.toList = true from prefix_take (b :: t) d] at this
         exact this)
     rw [Bool.and_true] at this
     rw [Bool.true_and]
     exact this
end Yd


namespace Yd
open Go Go.RowKit Go.Proofs

theorem RdC.apart {w : World} {R p : Nat} {s l : Bs} {c : LnC} {n : LnS} (h : RdC w R s p l c n) (b : Nat) (hb : RdA R c b) (k a : Int) (t : Bs) (g : Bool) :
   RdC ((((w.setCell ⟨b, 0, none⟩ (.int .i64 k)).setCell ⟨b, 1, none⟩ (.int .i64 a)).setCell ⟨b, 2, none⟩ (.string ⟨t.toArray⟩)).setCell ⟨b, 3, none⟩ (.bool g)) R s p l c n := by
 have hs : ∀ {w : World} (h : RdC w R s p l c n) (i : Nat) (v : Value), RdC (w.setCell ⟨b, i, none⟩ v) R s p l c n := fun {w} h i v =>
   ⟨h.x.setOther b i v (Ne.symm hb.1), ⟨h.n.1, h.n.2.1.block fun g hg => Below.heap_setCell _ _ _ _ (by rintro rfl; exact hb.2.1 hg), h.n.2.2.block fun g hg => Below.heap_setCell _ _ _ _ (by rintro rfl; exact hb.2.2 hg)⟩, h.d, h.le, h.lim⟩
 exact hs (hs (hs (hs h 0 _) 1 _) 2 _) 3 _
theorem rd_name {R p : Nat} {s l : Bs} {c : LnC} {n : LnS} (w : World) (h : RdC w R s p l c n) (hT : Lib.Utf8Tabs 2 3 w) :
   Calls Tryz.prog 118 #[.pointer (some ⟨R, 0, none⟩)] w (RdRet R s c n w (fun m : Bs => .string ⟨m.toArray⟩) (nameS l)) := by
 obtain ⟨X, hX⟩ : ∃ X, X = nameS l := ⟨_, rfl⟩
 rw [← hX]
 have HX := hid hX
 have hlen := h.len; have hlim := h.lim; have hle := h.le
 have HE := hid (rd_ends w h)
 have HBG := fun W (hb : Below w.heap.size w W) => hid (rd_begins W (h.below hb) (Utf8Tabs_below hT hb))
 have HH := hid h
 clear hX h
 by_cases hb : endsS l = false ∧ beginsS l = true
 · obtain ⟨he, hg⟩ := hb
   have hLW := fun W (hb : Below w.heap.size w W) => lx_word s p l HH.out.d hle hlim hg W (Utf8Tabs_below hT hb)
   have hrl : runS l ≤ l.length := whileE_le _ _ _ (Nat.le_refl _)
   by_cases h24 : 24 < runS l
   · simp only [if_pos h24] at hLW
     have hl24 := longS_le (l.take (runS l))
     obtain ⟨q, hq⟩ : ∃ q, q = p + longS (l.take (runS l)) := ⟨_, rfl⟩
     rw [← hq] at hLW
     have HL := hid hLW
     have HSP : Hid (nameS l = .error (l.drop (longS (l.take (runS l))), 220)) := hid (by unfold nameS; rw [if_neg (by rw [he, hg]; decide), if_pos h24])
     have HQ : Hid (s.length - (l.drop (longS (l.take (runS l)))).length = q) := hid (by rw [List.length_drop]; omega)
     rw [he] at HE
     have HG := hid hg
     clear hLW he hg h24 hl24 hq hT hrl
     go_enter Tryz.func118, Tryz.ntmps118
     go_wp2_with fail
     refine HE.out.mono ?_
     rintro e w1 ⟨rfl, hb1⟩
     have HB1 := hid hb1
     clear hb1
     go_wp2_with fail
     refine (HBG _ HB1.out).out.mono ?_
     rintro e w2 ⟨rfl, hb2⟩
     rw [HG.out]
     have HB2 := hid (HB1.out.trans (hb2.mono HB1.out.size))
     have HC2 := hid (HH.out.below HB2.out)
     have HAP := hid (HC2.out.new (Nat.le_refl _))
     have c0 := HC2.out.c0; have c1 := HC2.out.c1; have z1 := f1 HC2.out 1
     clear hb2
     go_wp2_with fail
     refine wp_region_ordT 99 (.q 0 0 (.q 1 0 (.q 2 0 (.q 3 0 (.q 4 0 (.q 5 0 (.q 6 0 (.q 7 0 (.alt 8 (.q 9 0 (.q 10 0 (.q 11 0 (.q 12 0 (.l 13 (.l 14 (.q 15 0 (.q 16 0 .nil)))))))) 13 (.l 8 (.q 9 0 (.q 10 0 (.q 11 0 (.q 12 0 (.l 14 (.q 15 0 (.q 16 0 .nil))))))))))))))))) (fun _ => True) (fun W' => W'.cell? ⟨R, 0, none⟩ = some (.string ⟨s.toArray⟩) ∧ W'.cell? ⟨R, 1, none⟩ = some (.int .i64 p)) (by kernel_rfl) (by kernel_rfl) trivial ⟨HC2.out.drew.c0, HC2.out.drew.c1⟩ ?_
     repeat ((first | refine ordT_q rfl rfl ?_ | refine ordT_p rfl rfl ?_); apply Exists.intro; refine ⟨fun wS hS => ?_, ?_⟩; (go_simp; try with_reducible rfl); simp only [Act.put, List.setIfInBounds_toArray, List.set_cons_zero, List.set_cons_succ])
     refine ⟨?_, ?_⟩
     · refine ordT_one rfl rfl (fun K hK => ?_)
       go_simp
       refine (HL.out _ HB2.out.drew).mono ?_
       rintro e w4 ⟨g, rfl, hb4⟩
       have hc4 := HC2.out.drew.below hb4
       have HC4 := hid hc4; have HB4 := hid (HB2.out.drew.trans (hb4.mono HB2.out.size))
       refine hK _ _ ⟨trivial, hc4.c0, hc4.c1⟩ ?_
       clear hK K hb4 hc4 c0 c1 z1
       repeat ((first | refine ordT_q rfl rfl ?_ | refine ordT_p rfl rfl ?_); apply Exists.intro; refine ⟨fun wS hS => ?_, ?_⟩; (go_simp; try with_reducible rfl); simp only [Act.put, List.setIfInBounds_toArray, List.set_cons_zero, List.set_cons_succ])
       refine ordT_l rfl rfl (fun K hK => ?_)
       go_simp
       refine hK _ _ ⟨trivial, (HC4.out.below (belowA (Below.refl _ _) _)).c0, (HC4.out.below (belowA (Below.refl _ _) _)).c1⟩ ?_
       clear hK K
       refine ordT_l rfl rfl (fun K hK => ?_)
       go_simp
       refine hK _ _ ⟨trivial, (HC4.out.below (belowA (Below.refl _ _) _)).c0, (HC4.out.below (belowA (Below.refl _ _) _)).c1⟩ ?_
       clear hK K
       repeat ((first | refine ordT_q rfl rfl ?_ | refine ordT_p rfl rfl ?_); apply Exists.intro; refine ⟨fun wS hS => ?_, ?_⟩; (go_simp; try with_reducible rfl); simp only [Act.put, List.setIfInBounds_toArray, List.set_cons_zero, List.set_cons_succ])
       have HC5 := hid (HC4.out.below (belowA (Below.refl w4.heap.size w4) (.cells (cellsTk 0 0 [] g) 56)))
       have HB5 := hid (belowA HB4.out (.cells (cellsTk 0 0 [] g) 56))
       have HY5 := hid (Bx.new w4 (cellsTk 0 0 [] g) 56)
       have HNE : Hid (w4.heap.size ≠ R) := hid (by have := HC4.out.x.2.2; omega)
       refine ordT_nil ?_
       have c0 := HC5.out.c0; have c1 := HC5.out.c1; have z1 := f1 HC5.out 1; have hty := HY5.out.1
       have HM5 := hid (Mv.of_below (R := R) (c := c) HB5.out)
       go_wp2_with fail
       refine (rd_fail q 220 _).mono ?_
       rintro e w6 ⟨rfl, rfl⟩
       refine ⟨rfl, ?_⟩
       show RdRet R s c n w _ _ _ _
       rw [HX.out, HSP.out]
       exact ⟨by rw [HQ.out], HM5.out.same⟩
     · refine ordT_one rfl rfl (fun K hK => ?_)
       go_simp
       refine hK _ _ ⟨trivial, (HC2.out.drew.below (belowA (Below.refl _ _) _)).c0, (HC2.out.drew.below (belowA (Below.refl _ _) _)).c1⟩ ?_
       clear hK K
       refine ordT_l rfl rfl (fun K hK => ?_)
       go_simp
       refine (HL.out _ (belowA HB2.out.drew (.cells (cellsTk 0 0 [] false) 56))).mono ?_
       rintro e w4 ⟨g, rfl, hb4⟩
       have hc4 := (HC2.out.drew.below (belowA (Below.refl _ _) (.cells (cellsTk 0 0 [] false) 56))).below hb4
       have HC4 := hid hc4; have HB4 := hid ((belowA HB2.out.drew (.cells (cellsTk 0 0 [] false) 56)).trans (hb4.mono (belowA HB2.out.drew (.cells (cellsTk 0 0 [] false) 56)).size))
       have hy4 : Bx w4 w2.heap.size (cellsTk 0 0 [] false) := (Bx.new w2.drew (cellsTk 0 0 [] false) 56).keep hb4
       have HY4 := hid hy4
       have HNE : Hid (w2.heap.size ≠ R) := hid (by have := HC2.out.x.2.2; omega)
       have HWB : Hid (w.heap.size ≤ w2.heap.size) := hid HB2.out.size
       refine hK _ _ ⟨trivial, hc4.c0, hc4.c1⟩ ?_
       clear hK K hb4 hc4 c0 c1 z1 hy4
       have hcy := HY4.out.1; have hfy := HY4.out.2.1
       repeat ((first | refine ordT_q rfl rfl ?_ | refine ordT_p rfl rfl ?_); apply Exists.intro; refine ⟨fun wS hS => ?_, ?_⟩; (go_simp; try with_reducible rfl); simp only [Act.put, List.setIfInBounds_toArray, List.set_cons_zero, List.set_cons_succ])
       refine ordT_l rfl rfl (fun K hK => ?_)
       go_simp
       refine hK _ _ ⟨trivial, ((((HC4.out.x.other (p := ⟨w2.heap.size, 0, none⟩) HNE.out.symm _).other (p := ⟨w2.heap.size, 1, none⟩) HNE.out.symm _).other (p := ⟨w2.heap.size, 2, none⟩) HNE.out.symm _).other (p := ⟨w2.heap.size, 3, none⟩) HNE.out.symm _).1 0, ((((HC4.out.x.other (p := ⟨w2.heap.size, 0, none⟩) HNE.out.symm _).other (p := ⟨w2.heap.size, 1, none⟩) HNE.out.symm _).other (p := ⟨w2.heap.size, 2, none⟩) HNE.out.symm _).other (p := ⟨w2.heap.size, 3, none⟩) HNE.out.symm _).1 1⟩ ?_
       clear hK K hcy hfy
       repeat ((first | refine ordT_q rfl rfl ?_ | refine ordT_p rfl rfl ?_); apply Exists.intro; refine ⟨fun wS hS => ?_, ?_⟩; (go_simp; try with_reducible rfl); simp only [Act.put, List.setIfInBounds_toArray, List.set_cons_zero, List.set_cons_succ])
       have HC5 := hid (HC4.out.apart w2.heap.size HAP.out 0 0 [] g)
       have HB5 := hid ((((HB4.out.setCell (p := ⟨w2.heap.size, 0, none⟩) HWB.out (.int .i64 0)).setCell (p := ⟨w2.heap.size, 1, none⟩) HWB.out (.int .i64 0)).setCell (p := ⟨w2.heap.size, 2, none⟩) HWB.out (.string ⟨[].toArray⟩)).setCell (p := ⟨w2.heap.size, 3, none⟩) HWB.out (.bool g))
       have HY5 := hid ((((HY4.out.setC 0 (by simp) (.int .i64 0)).setC 1 (by simp) (.int .i64 0)).setC 2 (by simp) (.string ⟨[].toArray⟩)).setC 3 (by simp) (.bool g))
       refine ordT_nil ?_
       have c0 := HC5.out.c0; have c1 := HC5.out.c1; have z1 := f1 HC5.out 1; have hty := HY5.out.1
       have HM5 := hid (Mv.of_below (R := R) (c := c) HB5.out)
       go_wp2_with fail
       refine (rd_fail q 220 _).mono ?_
       rintro e w6 ⟨rfl, rfl⟩
       refine ⟨rfl, ?_⟩
       show RdRet R s c n w _ _ _ _
       rw [HX.out, HSP.out]
       exact ⟨by rw [HQ.out], HM5.out.same⟩
   · simp only [if_neg h24] at hLW
     obtain ⟨q, hq⟩ : ∃ q, q = p + runS l := ⟨_, rfl⟩
     rw [← hq] at hLW
     have HL := hid hLW
     have HSP : Hid (nameS l = .ok (l.take (runS l), l.drop (runS l))) := hid (by unfold nameS; rw [if_neg (by rw [he, hg]; decide), if_neg h24])
     have HQ := hid hq; have HLE := hid hrl
     rw [he] at HE
     have HG := hid hg
     clear hLW he hg h24 hq hT hrl
     go_enter Tryz.func118, Tryz.ntmps118
     go_wp2_with fail
     refine HE.out.mono ?_
     rintro e w1 ⟨rfl, hb1⟩
     have HB1 := hid hb1
     clear hb1
     go_wp2_with fail
     refine (HBG _ HB1.out).out.mono ?_
     rintro e w2 ⟨rfl, hb2⟩
     rw [HG.out]
     have HB2 := hid (HB1.out.trans (hb2.mono HB1.out.size))
     have HC2 := hid (HH.out.below HB2.out)
     have HAP := hid (HC2.out.new (Nat.le_refl _))
     have c0 := HC2.out.c0; have c1 := HC2.out.c1; have z1 := f1 HC2.out 1
     clear hb2
     go_wp2_with fail
     refine wp_region_ordT 99 (.q 0 0 (.q 1 0 (.q 2 0 (.q 3 0 (.q 4 0 (.q 5 0 (.q 6 0 (.q 7 0 (.alt 8 (.q 9 0 (.q 10 0 (.q 11 0 (.q 12 0 (.l 13 (.l 14 (.q 15 0 (.q 16 0 .nil)))))))) 13 (.l 8 (.q 9 0 (.q 10 0 (.q 11 0 (.q 12 0 (.l 14 (.q 15 0 (.q 16 0 .nil))))))))))))))))) (fun _ => True) (fun W' => W'.cell? ⟨R, 0, none⟩ = some (.string ⟨s.toArray⟩) ∧ W'.cell? ⟨R, 1, none⟩ = some (.int .i64 p)) (by kernel_rfl) (by kernel_rfl) trivial ⟨HC2.out.drew.c0, HC2.out.drew.c1⟩ ?_
     repeat ((first | refine ordT_q rfl rfl ?_ | refine ordT_p rfl rfl ?_); apply Exists.intro; refine ⟨fun wS hS => ?_, ?_⟩; (go_simp; try with_reducible rfl); simp only [Act.put, List.setIfInBounds_toArray, List.set_cons_zero, List.set_cons_succ])
     refine ⟨?_, ?_⟩
     · refine ordT_one rfl rfl (fun K hK => ?_)
       go_simp
       refine (HL.out _ HB2.out.drew).mono ?_
       rintro e w4 ⟨g, rfl, hb4⟩
       have hc4 := HC2.out.drew.below hb4
       have HC4 := hid hc4; have HB4 := hid (HB2.out.drew.trans (hb4.mono HB2.out.size))
       refine hK _ _ ⟨trivial, hc4.c0, hc4.c1⟩ ?_
       clear hK K hb4 hc4 c0 c1 z1
       repeat ((first | refine ordT_q rfl rfl ?_ | refine ordT_p rfl rfl ?_); apply Exists.intro; refine ⟨fun wS hS => ?_, ?_⟩; (go_simp; try with_reducible rfl); simp only [Act.put, List.setIfInBounds_toArray, List.set_cons_zero, List.set_cons_succ])
       refine ordT_l rfl rfl (fun K hK => ?_)
       go_simp
       refine hK _ _ ⟨trivial, (HC4.out.below (belowA (Below.refl _ _) _)).c0, (HC4.out.below (belowA (Below.refl _ _) _)).c1⟩ ?_
       clear hK K
       refine ordT_l rfl rfl (fun K hK => ?_)
       go_simp
       refine hK _ _ ⟨trivial, (HC4.out.below (belowA (Below.refl _ _) _)).c0, (HC4.out.below (belowA (Below.refl _ _) _)).c1⟩ ?_
       clear hK K
       repeat ((first | refine ordT_q rfl rfl ?_ | refine ordT_p rfl rfl ?_); apply Exists.intro; refine ⟨fun wS hS => ?_, ?_⟩; (go_simp; try with_reducible rfl); simp only [Act.put, List.setIfInBounds_toArray, List.set_cons_zero, List.set_cons_succ])
       have HC5 := hid (HC4.out.below (belowA (Below.refl w4.heap.size w4) (.cells (cellsTk 1 p (l.take (runS l)) g) 56)))
       have HB5 := hid (belowA HB4.out (.cells (cellsTk 1 p (l.take (runS l)) g) 56))
       have HY5 := hid (Bx.new w4 (cellsTk 1 p (l.take (runS l)) g) 56)
       have HNE : Hid (w4.heap.size ≠ R) := hid (by have := HC4.out.x.2.2; omega)
       refine ordT_nil ?_
       have c0 := HC5.out.c0; have c1 := HC5.out.c1; have z1 := f1 HC5.out 1; have hty := HY5.out.1
       have HM5 := hid (Mv.of_below (R := R) (c := c) HB5.out)
       have ht := HC5.out.to (runS l) rfl HLE.out q HQ.out
       have HT2 := hid ht.1; have HM2 := hid (HM5.out.trans ht.2); have HY6 := hid (HY5.out.setOther R 1 (.int .i64 (q : Int)) HNE.out)
       have hty6 := HY6.out.1
       clear ht
       go_wp2_with fail
       go_ret
       show RdRet R s c n w _ _ _ _
       rw [HX.out, HSP.out]
       exact ⟨rfl, q, HT2.out, HM2.out⟩
     · refine ordT_one rfl rfl (fun K hK => ?_)
       go_simp
       refine hK _ _ ⟨trivial, (HC2.out.drew.below (belowA (Below.refl _ _) _)).c0, (HC2.out.drew.below (belowA (Below.refl _ _) _)).c1⟩ ?_
       clear hK K
       refine ordT_l rfl rfl (fun K hK => ?_)
       go_simp
       refine (HL.out _ (belowA HB2.out.drew (.cells (cellsTk 0 0 [] false) 56))).mono ?_
       rintro e w4 ⟨g, rfl, hb4⟩
       have hc4 := (HC2.out.drew.below (belowA (Below.refl _ _) (.cells (cellsTk 0 0 [] false) 56))).below hb4
       have HC4 := hid hc4; have HB4 := hid ((belowA HB2.out.drew (.cells (cellsTk 0 0 [] false) 56)).trans (hb4.mono (belowA HB2.out.drew (.cells (cellsTk 0 0 [] false) 56)).size))
       have hy4 : Bx w4 w2.heap.size (cellsTk 0 0 [] false) := (Bx.new w2.drew (cellsTk 0 0 [] false) 56).keep hb4
       have HY4 := hid hy4
       have HNE : Hid (w2.heap.size ≠ R) := hid (by have := HC2.out.x.2.2; omega)
       have HWB : Hid (w.heap.size ≤ w2.heap.size) := hid HB2.out.size
       refine hK _ _ ⟨trivial, hc4.c0, hc4.c1⟩ ?_
       clear hK K hb4 hc4 c0 c1 z1 hy4
       have hcy := HY4.out.1; have hfy := HY4.out.2.1
       repeat ((first | refine ordT_q rfl rfl ?_ | refine ordT_p rfl rfl ?_); apply Exists.intro; refine ⟨fun wS hS => ?_, ?_⟩; (go_simp; try with_reducible rfl); simp only [Act.put, List.setIfInBounds_toArray, List.set_cons_zero, List.set_cons_succ])
       refine ordT_l rfl rfl (fun K hK => ?_)
       go_simp
       refine hK _ _ ⟨trivial, ((((HC4.out.x.other (p := ⟨w2.heap.size, 0, none⟩) HNE.out.symm _).other (p := ⟨w2.heap.size, 1, none⟩) HNE.out.symm _).other (p := ⟨w2.heap.size, 2, none⟩) HNE.out.symm _).other (p := ⟨w2.heap.size, 3, none⟩) HNE.out.symm _).1 0, ((((HC4.out.x.other (p := ⟨w2.heap.size, 0, none⟩) HNE.out.symm _).other (p := ⟨w2.heap.size, 1, none⟩) HNE.out.symm _).other (p := ⟨w2.heap.size, 2, none⟩) HNE.out.symm _).other (p := ⟨w2.heap.size, 3, none⟩) HNE.out.symm _).1 1⟩ ?_
       clear hK K hcy hfy
       repeat ((first | refine ordT_q rfl rfl ?_ | refine ordT_p rfl rfl ?_); apply Exists.intro; refine ⟨fun wS hS => ?_, ?_⟩; (go_simp; try with_reducible rfl); simp only [Act.put, List.setIfInBounds_toArray, List.set_cons_zero, List.set_cons_succ])
       have HC5 := hid (HC4.out.apart w2.heap.size HAP.out 1 p (l.take (runS l)) g)
       have HB5 := hid ((((HB4.out.setCell (p := ⟨w2.heap.size, 0, none⟩) HWB.out (.int .i64 1)).setCell (p := ⟨w2.heap.size, 1, none⟩) HWB.out (.int .i64 p)).setCell (p := ⟨w2.heap.size, 2, none⟩) HWB.out (.string ⟨(l.take (runS l)).toArray⟩)).setCell (p := ⟨w2.heap.size, 3, none⟩) HWB.out (.bool g))
       have HY5 := hid ((((HY4.out.setC 0 (by simp) (.int .i64 1)).setC 1 (by simp) (.int .i64 p)).setC 2 (by simp) (.string ⟨(l.take (runS l)).toArray⟩)).setC 3 (by simp) (.bool g))
       refine ordT_nil ?_
       have c0 := HC5.out.c0; have c1 := HC5.out.c1; have z1 := f1 HC5.out 1; have hty := HY5.out.1
       have HM5 := hid (Mv.of_below (R := R) (c := c) HB5.out)
       have ht := HC5.out.to (runS l) rfl HLE.out q HQ.out
       have HT2 := hid ht.1; have HM2 := hid (HM5.out.trans ht.2); have HY6 := hid (HY5.out.setOther R 1 (.int .i64 (q : Int)) HNE.out)
       have hty6 := HY6.out.1
       clear ht
       go_wp2_with fail
       go_ret
       show RdRet R s c n w _ _ _ _
       rw [HX.out, HSP.out]
       exact ⟨rfl, q, HT2.out, HM2.out⟩
 · have HSP : Hid (nameS l = .error (l, 220)) := hid (by
     unfold nameS
     rw [if_pos]
     · cases h1 : endsS l
       · cases h2 : beginsS l
         · rfl
         · exact absurd ⟨h1, h2⟩ hb
       · rfl)
   have HN := hid hb
   have HQ : Hid (s.length - l.length = p) := hid (by omega)
   clear hb hT
   go_enter Tryz.func118, Tryz.ntmps118
   go_wp2_with fail
   refine HE.out.mono ?_
   rintro e w1 ⟨rfl, hb1⟩
   have HB1 := hid hb1
   have c1 := (HH.out.below hb1).c1
   clear hb1
   cases he : endsS l
   · go_wp2_with fail
     refine (HBG _ HB1.out).out.mono ?_
     rintro e w2 ⟨rfl, hb2⟩
     rw [show beginsS l = false by cases h2 : beginsS l; rfl; exact absurd ⟨he, h2⟩ HN.out]
     have HB2 := hid (HB1.out.trans (hb2.mono HB1.out.size))
     have c1 := (HH.out.below HB2.out).c1
     clear hb2
     go_wp2_with fail
     refine (rd_fail p 220 _).mono ?_
     rintro e w6 ⟨rfl, rfl⟩
     refine ⟨rfl, ?_⟩
     show RdRet R s c n w _ _ _ _
     rw [HX.out, HSP.out]
     exact ⟨by rw [HQ.out], Same.of_below HB2.out (fun _ _ h => h)⟩
   · go_wp2_with fail
     refine (rd_fail p 220 _).mono ?_
     rintro e w6 ⟨rfl, rfl⟩
     refine ⟨rfl, ?_⟩
     show RdRet R s c n w _ _ _ _
     rw [HX.out, HSP.out]
     exact ⟨by rw [HQ.out], Same.of_below HB1.out (fun _ _ h => h)⟩
end Yd
