import Derived.Test.YthdpangjphphjaaGreatDoorRdJ
import Derived.Test.YthdpangjphphjaaGreatDoorAto
import Derived.Test.YthdpangjphphjaaGreatDoorProg
import Derived.Test.YthdpangjphphjaaGreatDoorCuK
set_option maxRecDepth 200000
set_option maxHeartbeats 8000000
namespace Yd
open Go Go.RowKit Go.Proofs

def readLn (s : Bs) (p : Int) : LnS × Int × Int :=
 if p < 0 ∨ (s.length : Int) < p then (noLn, 0, 2)
 else match lineS (s.drop p.toNat) with
   | .ok (n, r) => (n, ((s.length - r.length : Nat) : Int), 0)
   | .error (r, m) => (noLn, ((s.length - r.length : Nat) : Int), m)
def RetRd (x : LnS × Int × Int) (w : World) (e : Ending) (w' : World) : Prop :=
 ∃ c : LnC, e = .returned (.tuple #[valLn c, .int .i64 x.2.1, .int .i64 x.2.2]) ∧ LnAt w' w.heap.size c x.1 ∧ Below w.heap.size w w'
@[reducible] def noC : LnC := ⟨0, none, 0, 0, 0, none, 0, 0, false, 0⟩
theorem noLn_at (w : World) (B : Nat) : LnAt w B noC noLn := ⟨⟨rfl, rfl, rfl, rfl, rfl, rfl⟩, Own.nil_ _ _ _ _ _, Own.nil_ _ _ _ _ _⟩
theorem more_false {l r : Bs} (h : moreS l = .ok (false, r)) : endsS r = true := by
 unfold moreS at h
 split at h
 · rename_i h1
   injection h with h; injection h with _ h; rw [← h]; exact h1
 · split at h
   · cases h
   · injection h with h; injection h with h _; cases h
theorem read_ends {l r : Bs} {n : LnS} (h : readS l = .ok (n, r)) : endsS r = true := by
 unfold readS at h
 split at h
 · rename_i h1
   injection h with h; injection h with _ h; rw [← h]; exact h1
 · split at h
   · cases h
   · split at h
     · cases h
     · split at h
       · cases h
       · split at h
         · cases h
         · cases h
         · rename_i hm
           injection h with h; injection h with _ h; rw [← h]; exact more_false hm
theorem size_alloc (w : World) (o : Obj) : (w.alloc o).heap.size = w.heap.size + 1 := by simp
theorem line_ok {l r : Bs} {n : LnS} (h : readS l = .ok (n, r)) :
   (endR r).2 = 0 ∧ (∃ t, lineS l = .ok (n, t) ∧ t.length + (endR r).1 = r.length) ∨ (endR r).2 ≠ 0 ∧ (∃ t, lineS l = .error (t, 220) ∧ t.length + (endR r).1 = r.length) := by
 have hrem : (remS r).length ≤ r.length := by unfold remS; split <;> simp
 unfold lineS
 rw [h]
 unfold endR
 simp only []
 by_cases h1 : (remS r).head? = none
 · rw [if_pos h1, if_pos h1]; exact .inl ⟨rfl, [], rfl, by simp⟩
 · rw [if_neg h1, if_neg h1]
   by_cases h2 : (remS r).head? = some 10
   · rw [if_pos h2, if_pos h2]
     refine .inl ⟨rfl, _, rfl, ?_⟩
     have : 1 ≤ (remS r).length := by
       cases hq : remS r with
       | nil => rw [hq] at h1; exact absurd rfl h1
       | cons a t => simp
     simp only [List.length_tail]; omega
   · rw [if_neg h2, if_neg h2]
     exact .inr ⟨by simp, _, rfl, by simp only []; omega⟩
theorem ends_lines {n : LnS} {nx er : Int} (tmps : Array Value) (c : LnC) (w w' : World) (h4 : tmps[4]?.getD undef = .pointer (some ⟨w.heap.size, 0, none⟩)) (h5 : tmps[5]?.getD undef = .pointer (some ⟨w.heap.size + 1, 0, none⟩))
   (h6 : tmps[6]?.getD undef = .pointer (some ⟨w.heap.size + 1 + 1, 0, none⟩)) (h1 : Bx w' w.heap.size (cellsLn c)) (h2 : Bx w' (w.heap.size + 1) #[.int .i64 nx]) (h3 : Bx w' (w.heap.size + 1 + 1) #[.int .i64 er])
   (hl : LnAt w' w.heap.size c n) (hb : Below w.heap.size w w') : Leaves Tryz.prog Tryz.f10 tmps (RetRd (n, nx, er) w) [] .returning w' := by
 have a0 := h1.1 0; have a1 := h1.1 1; have a2 := h1.1 2; have a3 := h1.1 3; have a4 := h1.1 4; have a5 := h1.1 5
 have b0 := h2.1 0; have c0 := h3.1 0
 refine ⟨.tuple #[valLn c, .int .i64 nx, .int .i64 er], ?_, c, rfl, hl, hb⟩
 simp [results, Tryz.results10, go_sem, h4, h5, h6, a0, a1, a2, a3, a4, a5, b0, c0]
theorem line_Read (s : Bs) (at_ : Int) (hlim : s.length ≤ 1000000) (w : World) (hT : Lib.Utf8Tabs 2 3 w) (hE : GlobE w) (hL : GlobL w) :
   Calls Tryz.prog 10 #[.string ⟨s.toArray⟩, .int .i64 at_] w (RetRd (readLn s at_) w) := by
 have hz := bsz s
 by_cases h0 : at_ < 0
 · have hb0 : decide (at_ < 0) = true := by simpa using h0
   have hr : readLn s at_ = (noLn, 0, 2) := by unfold readLn; rw [if_pos (.inl h0)]
   rw [hr]
   clear hr h0 hT hE hL
   go_enter_defers Tryz.func10, Tryz.ntmps10
   go_wp2_with fail
   refine ends_lines _ noC w _ rfl rfl rfl ?_ ?_ ?_ ?_ ?_
   · exact ((Bx.new w #[.int .i64 0, .slice none 0 0, .int .i64 0, .slice none 0 0, .bool false, .int .i64 0] 28).alloc _).alloc _
   · have := (Bx.new (w.alloc (.cells #[.int .i64 0, .slice none 0 0, .int .i64 0, .slice none 0 0, .bool false, .int .i64 0] 28)) #[.int .i64 0] 3).alloc (.cells #[.int .i64 2] 29)
     rw [size_alloc] at this; exact this
   · have := Bx.new ((w.alloc (.cells #[.int .i64 0, .slice none 0 0, .int .i64 0, .slice none 0 0, .bool false, .int .i64 0] 28)).alloc (.cells #[.int .i64 0] 3)) #[.int .i64 2] 29
     rw [size_alloc, size_alloc] at this; exact this
   · exact noLn_at _ _
   · exact (((Below.refl w.heap.size w).alloc (Nat.le_refl _) _).alloc (by simp) _).alloc (by simp; omega) _
 · have hb0 : decide (at_ < 0) = false := by simpa using h0
   by_cases h1 : (s.length : Int) < at_
   · have hb1 : decide ((s.length : Int) < at_) = true := by simpa using h1
     have hr : readLn s at_ = (noLn, 0, 2) := by unfold readLn; rw [if_pos (.inr h1)]
     rw [hr]
     clear hr h0 h1 hT hE hL
     go_enter_defers Tryz.func10, Tryz.ntmps10
     go_wp2_with fail
     refine ends_lines _ noC w _ rfl rfl rfl ?_ ?_ ?_ ?_ ?_
     · exact ((Bx.new w #[.int .i64 0, .slice none 0 0, .int .i64 0, .slice none 0 0, .bool false, .int .i64 0] 28).alloc _).alloc _
     · have := (Bx.new (w.alloc (.cells #[.int .i64 0, .slice none 0 0, .int .i64 0, .slice none 0 0, .bool false, .int .i64 0] 28)) #[.int .i64 0] 3).alloc (.cells #[.int .i64 2] 29)
       rw [size_alloc] at this; exact this
     · have := Bx.new ((w.alloc (.cells #[.int .i64 0, .slice none 0 0, .int .i64 0, .slice none 0 0, .bool false, .int .i64 0] 28)).alloc (.cells #[.int .i64 0] 3)) #[.int .i64 2] 29
       rw [size_alloc, size_alloc] at this; exact this
     · exact noLn_at _ _
     · exact (((Below.refl w.heap.size w).alloc (Nat.le_refl _) _).alloc (by simp) _).alloc (by simp; omega) _
   · have hb1 : decide ((s.length : Int) < at_) = false := by simpa using h1
     obtain ⟨p, rfl⟩ : ∃ p : Nat, at_ = (p : Int) := ⟨at_.toNat, by omega⟩
     have hp : p ≤ s.length := by omega
     have hmf : ∀ (fn : Fn) (first cap : Array Value) (w : World), (Instr.makeFunc fn first cap).run Tryz.prog w = .ok (.func fn first cap) w := fun _ _ _ _ => rfl
     clear h0 h1
     go_enter_defers Tryz.func10, Tryz.ntmps10
     have hb4 := (((Below.refl w.heap.size w).alloc (Nat.le_refl _) (.cells #[.int .i64 0, .slice none 0 0, .int .i64 0, .slice none 0 0, .bool false, .int .i64 0] 28)).alloc (by simp) (.cells #[.int .i64 0] 3)).alloc (by simp; omega) (.cells #[.int .i64 0] 29) |>.alloc (by simp; omega) (.cells (cellsRd s p noC) 54)
     have hx1 := (((Bx.new w #[.int .i64 0, .slice none 0 0, .int .i64 0, .slice none 0 0, .bool false, .int .i64 0] 28).alloc (.cells #[.int .i64 0] 3)).alloc (.cells #[.int .i64 0] 29)).alloc (.cells (cellsRd s p noC) 54)
     have hx2 := ((Bx.new (w.alloc (.cells #[.int .i64 0, .slice none 0 0, .int .i64 0, .slice none 0 0, .bool false, .int .i64 0] 28)) #[.int .i64 0] 3).alloc (.cells #[.int .i64 0] 29)).alloc (.cells (cellsRd s p noC) 54)
     have hx3 := (Bx.new ((w.alloc (.cells #[.int .i64 0, .slice none 0 0, .int .i64 0, .slice none 0 0, .bool false, .int .i64 0] 28)).alloc (.cells #[.int .i64 0] 3)) #[.int .i64 0] 29).alloc (.cells (cellsRd s p noC) 54)
     have hx4 := Bx.new (((w.alloc (.cells #[.int .i64 0, .slice none 0 0, .int .i64 0, .slice none 0 0, .bool false, .int .i64 0] 28)).alloc (.cells #[.int .i64 0] 3)).alloc (.cells #[.int .i64 0] 29)) (cellsRd s p noC) 54
     obtain ⟨b, hb⟩ : ∃ b, b = w.heap.size := ⟨_, rfl⟩
     obtain ⟨W4, hW4⟩ : ∃ W4, W4 = (((w.alloc (.cells #[.int .i64 0, .slice none 0 0, .int .i64 0, .slice none 0 0, .bool false, .int .i64 0] 28)).alloc (.cells #[.int .i64 0] 3)).alloc (.cells #[.int .i64 0] 29)).alloc (.cells #[.string ⟨s.toArray⟩, .int .i64 (p : Int), .int .i64 0, .slice none 0 0, .int .i64 0, .slice none 0 0, .bool false, .int .i64 0] 54) := ⟨_, rfl⟩
     rw [← hW4] at hb4 hx1 hx2 hx3 hx4
     simp only [size_alloc] at hx2 hx3 hx4
     have hgr : GlR (w.heap.size + 1 + 1 + 1) W4 := ⟨w, by omega, hb4, hT, hE, hL⟩
     have hrc : RdC W4 (w.heap.size + 1 + 1 + 1) s p (s.drop p) noC noLn := ⟨hx4, noLn_at _ _, rfl, hp, hlim⟩
     have HRD := hid (rd_read W4 hrc hgr)
     have HX := hid (⟨hx1, hx2, hx3⟩ : _ ∧ _ ∧ _)
     have HA1 : Hid (RdA (w.heap.size + 1 + 1 + 1) noC w.heap.size ∧ RdA (w.heap.size + 1 + 1 + 1) noC (w.heap.size + 1) ∧ RdA (w.heap.size + 1 + 1 + 1) noC (w.heap.size + 1 + 1)) := hid ⟨hrc.old (by omega), hrc.old (by omega), hrc.old (by omega)⟩
     have HB4 := hid hb4; have HGR := hid hgr; have HRC := hid hrc
     have HW4 := hid hW4
     clear hW4 hx1 hx2 hx3 hx4 hb4 hgr hrc hE hL hb
     go_wp2_with fail
     rw [← HW4.out]
     refine HRD.out.mono ?_
     intro e w5 he
     cases hrd : readS (s.drop p) with
     | error x =>
       rw [hrd] at he
       obtain ⟨rfl, hs⟩ := he
       have hrl : readLn s p = (noLn, ((s.length - x.1.length : Nat) : Int), x.2) := by
         unfold readLn lineS
         rw [if_neg (by omega), Int.toNat_natCast, hrd]
       rw [hrl]
       refine leaves_cons (f := 24) (args := #[.pointer (some ⟨w.heap.size, 0, none⟩), .pointer (some ⟨w.heap.size + 1, 0, none⟩), .pointer (some ⟨w.heap.size + 1 + 1, 0, none⟩)]) (by simp) (by simp [go_sem]) ?_
       refine (rd1_panic w.heap.size ((s.length - x.1.length : Nat) : Int) x.2 _ _ _ _ _ _ _ _ [] w5 (hs.bx HX.out.1 HA1.out.1) (hs.bx HX.out.2.1 HA1.out.2.1) (hs.bx HX.out.2.2 HA1.out.2.2)).mono ?_
       rintro e u' w6 ⟨rfl, rfl, k1, k2, k3, k4⟩
       exact ends_lines _ noC w w6 rfl rfl rfl k1 k2 k3 (noLn_at _ _) ((hs.below HB4.out (fun i hi => HRC.out.old (by omega)) HB4.out.size).trans k4)
     | ok nr =>
       obtain ⟨n, r⟩ := nr
       rw [hrd] at he
       obtain ⟨rfl, p5, c5, hc5, hm5⟩ := he
       have HLO := hid (line_ok hrd)
       have HC5 := hid hc5; have HM5 := hid hm5
       have HX5 := hid (⟨hm5.bx HX.out.1 HA1.out.1, hm5.bx HX.out.2.1 HA1.out.2.1, hm5.bx HX.out.2.2 HA1.out.2.2⟩ : _ ∧ _ ∧ _)
       have HT5 := hid (HGR.out.mv HRC.out hm5.same).tabs
       have HB5 := hid (hm5.same.below HB4.out (fun i hi => HRC.out.old (by omega)) HB4.out.size)
       have c1 := hc5.c1
       have HRDE := hid (read_ends hrd)
       have HRD5 := hid hrd
       clear hc5 hm5 hrd
       go_wp2_with fail
       refine (lx_end s p5 r HC5.out.d HC5.out.le hlim HRDE.out w5 HT5.out).mono ?_
       rintro e w6 ⟨k, a, t, g, rfl, hb6⟩
       have HC6 := hid (HC5.out.below hb6)
       have hy6 := keep3 HX5.out hb6
       have HY6 := hid hy6
       have HB6 := hid (HB5.out.trans (hb6.mono HB5.out.size))
       have y1 := hy6.2.1.1 0; have y2 := hy6.2.2.1 0; have g1 := hy6.2.1.2.1 0; have g2 := hy6.2.2.2.1 0
       obtain ⟨er, her⟩ : ∃ er, er = (endR r).2 := ⟨_, rfl⟩
       obtain ⟨nx, hnx⟩ : ∃ nx, nx = p5 + (endR r).1 := ⟨_, rfl⟩
       rw [← her, ← hnx]
       rw [← her] at HLO
       have HNX := hid hnx
       clear hb6 hy6 c1 her hnx
       obtain ⟨V, hV⟩ : ∃ V : World, V = (w6.setCell ⟨w.heap.size + 1, 0, none⟩ (.int .i64 (nx : Int))).setCell ⟨w.heap.size + 1 + 1, 0, none⟩ (.int .i64 er) := ⟨_, rfl⟩
       have HV : Hid (Bx V w.heap.size #[.int .i64 0, .slice none 0 0, .int .i64 0, .slice none 0 0, .bool false, .int .i64 0] ∧ Bx V (w.heap.size + 1) #[.int .i64 (nx : Int)] ∧ Bx V (w.heap.size + 1 + 1) #[.int .i64 er] ∧ RdC V (w.heap.size + 1 + 1 + 1) s p5 r c5 n ∧ Below w.heap.size w V) := hid (by
         rw [hV]
         refine ⟨(HY6.out.1.setOther _ _ _ (by omega)).setOther _ _ _ (by omega), (HY6.out.2.1.setC 0 (by simp) _).setOther _ _ _ (by omega), (HY6.out.2.2.setOther _ _ _ (by omega)).setC 0 (by simp) _, ?_, ?_⟩
         · have h1 := HC6.out.put (w.heap.size + 1) 0 (.int .i64 (nx : Int)) (HC6.out.old (by omega))
           exact h1.put (w.heap.size + 1 + 1) 0 _ (h1.old (by omega))
         · exact (HB6.out.setCell (p := ⟨w.heap.size + 1, 0, none⟩) (by simp) _).setCell (p := ⟨w.heap.size + 1 + 1, 0, none⟩) (by simp; omega) _)
       have HVE := hid hV
       clear hV
       rcases HLO.out with ⟨h0, t', hl, htl⟩ | ⟨h0, t', hl, htl⟩
       · subst h0
         have hrl : readLn s p = (n, (nx : Int), 0) := by
           unfold readLn
           rw [if_neg (by omega), Int.toNat_natCast, hl]
           have := HC5.out.len; have := HNX.out
           simp only [show s.length - t'.length = nx by omega]
         have HRL := hid hrl
         clear hl htl hrl
         go_wp2_with fail
         rw [← HVE.out]
         have v1 := HV.out.2.1.1 0; have v2 := HV.out.2.2.1.1 0; have v0 := HV.out.1.1; have k0 := HV.out.1.2.1; have k1 := HV.out.2.1.2.1 0; have k2 := HV.out.2.2.1.2.1 0
         have hxr := HV.out.2.2.2.1.x.1
         obtain ⟨V2, hV2⟩ : ∃ V2 : World, V2 = ((((((V.setCell ⟨w.heap.size, 0, none⟩ (.int .i64 c5.kind)).setCell ⟨w.heap.size, 1, none⟩ (.slice c5.na c5.nn c5.nc)).setCell ⟨w.heap.size, 2, none⟩ (.int .i64 c5.lvl)).setCell ⟨w.heap.size, 3, none⟩ (.slice c5.va c5.vn c5.vc)).setCell ⟨w.heap.size, 4, none⟩ (.bool c5.first)).setCell ⟨w.heap.size, 5, none⟩ (.int .i64 c5.bits)).drew := ⟨_, rfl⟩
         have HV2 : Hid (Bx V2 w.heap.size (cellsLn c5) ∧ Bx V2 (w.heap.size + 1) #[.int .i64 (nx : Int)] ∧ Bx V2 (w.heap.size + 1 + 1) #[.int .i64 0] ∧ RdC V2 (w.heap.size + 1 + 1 + 1) s p5 r c5 n ∧ Below w.heap.size w V2) := hid (by
           rw [hV2]
           refine ⟨?_, ?_, ?_, ?_, ?_⟩
           · exact ((((((HV.out.1.setC 0 (by simp) _).setC 1 (by simp) _).setC 2 (by simp) _).setC 3 (by simp) _).setC 4 (by simp) _).setC 5 (by simp) _).drew
           · exact ((((((HV.out.2.1.setOther _ 0 _ (by omega)).setOther _ 1 _ (by omega)).setOther _ 2 _ (by omega)).setOther _ 3 _ (by omega)).setOther _ 4 _ (by omega)).setOther _ 5 _ (by omega)).drew
           · exact ((((((HV.out.2.2.1.setOther _ 0 _ (by omega)).setOther _ 1 _ (by omega)).setOther _ 2 _ (by omega)).setOther _ 3 _ (by omega)).setOther _ 4 _ (by omega)).setOther _ 5 _ (by omega)).drew
           · have hA := HV.out.2.2.2.1.old (i := w.heap.size) (by omega)
             exact ((((((HV.out.2.2.2.1.put _ 0 _ hA).put _ 1 _ hA).put _ 2 _ hA).put _ 3 _ hA).put _ 4 _ hA).put _ 5 _ hA).drew
           · exact ((((((HV.out.2.2.2.2.setCell (p := ⟨w.heap.size, 0, none⟩) (Nat.le_refl _) _).setCell (p := ⟨w.heap.size, 1, none⟩) (Nat.le_refl _) _).setCell (p := ⟨w.heap.size, 2, none⟩) (Nat.le_refl _) _).setCell (p := ⟨w.heap.size, 3, none⟩) (Nat.le_refl _) _).setCell (p := ⟨w.heap.size, 4, none⟩) (Nat.le_refl _) _).setCell (p := ⟨w.heap.size, 5, none⟩) (Nat.le_refl _) _).drew)
         have HV2E := hid hV2
         clear hV2
         refine wp_region_ordC 99 [(0, 0), (1, 0), (2, 0), (3, 0), (4, 0), (5, 2), (6, 2), (7, 2)] (fun _ => True) (fun W' => W'.cell? ⟨w.heap.size + 1 + 1 + 1, 2, none⟩ = some (.int .i64 c5.kind) ∧ W'.cell? ⟨w.heap.size + 1 + 1 + 1, 3, none⟩ = some (.slice c5.na c5.nn c5.nc) ∧ W'.cell? ⟨w.heap.size + 1 + 1 + 1, 4, none⟩ = some (.int .i64 c5.lvl) ∧ W'.cell? ⟨w.heap.size + 1 + 1 + 1, 5, none⟩ = some (.slice c5.va c5.vn c5.vc) ∧ W'.cell? ⟨w.heap.size + 1 + 1 + 1, 6, none⟩ = some (.bool c5.first) ∧ W'.cell? ⟨w.heap.size + 1 + 1 + 1, 7, none⟩ = some (.int .i64 c5.bits) ∧ W'.cell? ⟨w.heap.size + 1, 0, none⟩ = some (.int .i64 (nx : Int))) (by kernel_rfl) (by kernel_rfl) (trivial) (⟨hxr 2, hxr 3, hxr 4, hxr 5, hxr 6, hxr 7, v1⟩) ?_
         repeat ((first | refine ordC_skip rfl rfl ?_ | refine ordC_skip1 rfl rfl ?_ | ((first | refine ordC_q rfl rfl ?_ | refine ordC_p rfl rfl ?_); apply Exists.intro; refine ⟨fun wS hS => ?_, ?_⟩; (go_simp; try with_reducible rfl))); simp only [Act.put, List.setIfInBounds_toArray, List.set_cons_zero, List.set_cons_succ])
         refine ordC_l rfl rfl (fun K hK => ?_)
         go_simp
         rw [← HV2E.out]
         refine hK _ _ ⟨trivial, HV2.out.2.2.2.1.x.1 2, HV2.out.2.2.2.1.x.1 3, HV2.out.2.2.2.1.x.1 4, HV2.out.2.2.2.1.x.1 5, HV2.out.2.2.2.1.x.1 6, HV2.out.2.2.2.1.x.1 7, HV2.out.2.1.1 0⟩ ?_
         clear hK K v1 v2 v0 k0 k1 k2 hxr
         have v1 := HV2.out.2.1.1 0; have v2 := HV2.out.2.2.1.1 0; have k1 := HV2.out.2.1.2.1 0; have k2 := HV2.out.2.2.1.2.1 0
         have hr1 := HV2.out.2.2.2.1.put (w.heap.size + 1) 0 (.int .i64 (nx : Int)) (HV2.out.2.2.2.1.old (by omega))
         have hr2 := hr1.put (w.heap.size + 1 + 1) 0 (.int .i64 0) (hr1.old (by omega))
         have hq1 := HV2.out.2.1.setC 0 (by simp) (.int .i64 (nx : Int))
         have hq2 := hq1.setOther (w.heap.size + 1 + 1) 0 (.int .i64 0) (by omega)
         have HR1 := hid (⟨hr1, hq1⟩ : _ ∧ _); have HR2 := hid (⟨hr2, hq2⟩ : _ ∧ _)
         clear hr1 hr2 hq1 hq2
         refine ordC_l rfl rfl (fun K hK => ?_)
         go_simp
         refine hK _ _ ⟨trivial, HR1.out.1.x.1 2, HR1.out.1.x.1 3, HR1.out.1.x.1 4, HR1.out.1.x.1 5, HR1.out.1.x.1 6, HR1.out.1.x.1 7, HR1.out.2.1 0⟩ ?_
         clear hK K
         refine ordC_l rfl rfl (fun K hK => ?_)
         go_simp
         refine hK _ _ ⟨trivial, HR2.out.1.x.1 2, HR2.out.1.x.1 3, HR2.out.1.x.1 4, HR2.out.1.x.1 5, HR2.out.1.x.1 6, HR2.out.1.x.1 7, HR2.out.2.1 0⟩ ?_
         clear hK K
         refine ordC_nil ?_
         go_wp2_with fail
         obtain ⟨V3, hV3⟩ : ∃ V3 : World, V3 = (V2.setCell ⟨w.heap.size + 1, 0, none⟩ (.int .i64 (nx : Int))).setCell ⟨w.heap.size + 1 + 1, 0, none⟩ (.int .i64 0) := ⟨_, rfl⟩
         rw [← hV3]
         have hfin : Bx V3 w.heap.size (cellsLn c5) ∧ Bx V3 (w.heap.size + 1) #[.int .i64 (nx : Int)] ∧ Bx V3 (w.heap.size + 1 + 1) #[.int .i64 0] ∧ RdC V3 (w.heap.size + 1 + 1 + 1) s p5 r c5 n ∧ Below w.heap.size w V3 := by
           rw [hV3]
           refine ⟨(HV2.out.1.setOther _ 0 _ (by omega)).setOther _ 0 _ (by omega), (HV2.out.2.1.setC 0 (by simp) _).setOther _ 0 _ (by omega), (HV2.out.2.2.1.setOther _ 0 _ (by omega)).setC 0 (by simp) _, ?_, ?_⟩
           · have h1 := HV2.out.2.2.2.1.put (w.heap.size + 1) 0 (.int .i64 (nx : Int)) (HV2.out.2.2.2.1.old (by omega))
             exact h1.put (w.heap.size + 1 + 1) 0 _ (h1.old (by omega))
           · exact (HV2.out.2.2.2.2.setCell (p := ⟨w.heap.size + 1, 0, none⟩) (by simp) _).setCell (p := ⟨w.heap.size + 1 + 1, 0, none⟩) (by simp; omega) _
         refine leaves_cons (f := 24) (args := #[.pointer (some ⟨w.heap.size, 0, none⟩), .pointer (some ⟨w.heap.size + 1, 0, none⟩), .pointer (some ⟨w.heap.size + 1 + 1, 0, none⟩)]) (by simp) (by simp [go_sem]) ?_
         refine (rd1_idle w.heap.size V3).mono ?_
         rintro e u' w7 ⟨rfl, rfl, rfl⟩
         rw [HRL.out]
         exact ends_lines _ c5 w w7 rfl rfl rfl hfin.1 hfin.2.1 hfin.2.2.1 (hfin.2.2.2.1.n.mono (by omega)) hfin.2.2.2.2
       · have hne : (er != 0) = true := by simpa using h0
         have hrl : readLn s p = (noLn, (nx : Int), 220) := by
           unfold readLn
           rw [if_neg (by omega), Int.toNat_natCast, hl]
           have := HC5.out.len; have := HNX.out
           simp only [show s.length - t'.length = nx by omega]
         have HRL := hid hrl
         clear hl htl hrl
         go_wp2_with fail
         rw [← HVE.out]
         refine (rd_fail nx 220 _).mono ?_
         rintro e wb ⟨rfl, rfl⟩
         refine leaves_cons (f := 24) (args := #[.pointer (some ⟨w.heap.size, 0, none⟩), .pointer (some ⟨w.heap.size + 1, 0, none⟩), .pointer (some ⟨w.heap.size + 1 + 1, 0, none⟩)]) (by simp) (by simp [go_sem]) ?_
         refine (rd1_panic w.heap.size (nx : Int) 220 _ _ _ _ _ _ _ _ [] wb HV.out.1 HV.out.2.1 HV.out.2.2.1).mono ?_
         rintro e u' w7 ⟨rfl, rfl, k1, k2, k3, k4⟩
         rw [HRL.out]
         exact ends_lines _ noC w w7 rfl rfl rfl k1 k2 k3 (noLn_at _ _) (HV.out.2.2.2.2.trans k4)
end Yd


namespace Yd
open Go Go.RowKit Go.Proofs

theorem others_len (pairs : Bool) (most : Nat) : ∀ (f many : Nat) (ns : List Bs) (vs : List To) (l : Bs) {x : List Bs × List To} {r : Bs}, othersS pairs most f many ns vs l = .ok (x, r) → x.1.length ≤ ns.length + f ∧ x.2.length ≤ vs.length + f
 | 0, many, ns, vs, l, x, r, h => by rw [othersS] at h; injection h with h; injection h with h _; subst h; exact ⟨Nat.le_refl _, Nat.le_refl _⟩
 | f + 1, many, ns, vs, l, x, r, h => by
   rw [othersS] at h
   cases hm : moreS l with
   | error y => rw [hm] at h; cases h
   | ok y =>
     obtain ⟨b, r0⟩ := y
     rw [hm] at h
     cases b
     · injection h with h; injection h with h _; subst h; exact ⟨by simp, by simp⟩
     · simp only [] at h
       by_cases hb : many = most ∧ beginsS r0 = true
       · rw [if_pos hb] at h; cases h
       · rw [if_neg hb] at h
         cases hn : nameS r0 with
         | error y => rw [hn] at h; cases h
         | ok y =>
           obtain ⟨nm, r1⟩ := y
           rw [hn] at h
           simp only [] at h
           by_cases hp : pairs = true
           · rw [if_pos hp] at h
             cases hu : mustS r1 with
             | error y => rw [hu] at h; cases h
             | ok r2 =>
               rw [hu] at h
               simp only [] at h
               cases hv : versS r2 with
               | error y => rw [hv] at h; cases h
               | ok y =>
                 obtain ⟨v, r3⟩ := y
                 rw [hv] at h
                 have := others_len pairs most f (many + 1) _ _ _ h
                 simp only [List.length_append, List.length_singleton] at this
                 omega
           · rw [if_neg hp] at h
             have := others_len pairs most f (many + 1) _ _ _ h
             simp only [List.length_append, List.length_singleton] at this
             omega
theorem names_len : ∀ (k : Nat) (acc : List Bs) (l : Bs) {ns : List Bs} {r : Bs}, namesS k acc l = .ok (ns, r) → ns.length ≤ acc.length + k
 | 0, acc, l, ns, r, h => by rw [namesS] at h; injection h with h; injection h with h _; subst h; exact Nat.le_refl _
 | k + 1, acc, l, ns, r, h => by
   rw [namesS] at h
   cases hm : mustS l with
   | error y => rw [hm] at h; cases h
   | ok r0 =>
     rw [hm] at h
     simp only [] at h
     cases hn : nameS r0 with
     | error y => rw [hn] at h; cases h
     | ok y =>
       obtain ⟨nm, r1⟩ := y
       rw [hn] at h
       have := names_len k _ _ h
       simp only [List.length_append, List.length_singleton] at this
       omega
theorem cut12 (s : Bs) (w : World) : Calls Tryz.prog 9 #[.string ⟨s.toArray⟩] w (Ret (.string ⟨(s.take 9000).toArray⟩) w) := by
 have hz := bsz s
 obtain ⟨m, hm⟩ : ∃ m : Nat, m = min s.length 9000 := ⟨_, rfl⟩
 have hmi : min (s.length : Int) 9000 = (m : Int) := by omega
 have hext : (⟨s.toArray⟩ : ByteArray).extract 0 m = ⟨(s.take 9000).toArray⟩ := by
   rw [ext_both s 0 m (Nat.zero_le _), List.drop_zero, Nat.sub_zero, hm, Nat.min_comm, ← List.take_eq_take_min]
 have hmb : m ≤ 9000 := by omega
 have hml : m ≤ s.length := by omega
 have HE := hid hext
 clear hm hext
 go_enter Tryz.func9, Tryz.ntmps9
 go_wp2_with fail
 have hext := HE.out
 refine bodyPost_ret (v := .string ⟨(s.take 9000).toArray⟩) (by simp [results, Tryz.results9, go_sem, hext]) rfl ?_
 exact ⟨rfl, Below.refl _ _⟩
end Yd
