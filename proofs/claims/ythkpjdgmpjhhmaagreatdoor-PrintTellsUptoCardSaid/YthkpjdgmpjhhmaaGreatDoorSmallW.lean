import Derived.Test.YthkpjdgmpjhhmaaGreatDoorLawOwn
import Derived.Test.YthkpjdgmpjhhmaaGreatDoorPtext2
import Derived.Test.YthkpjdgmpjhhmaaGreatDoorCount
import Derived.Test.YthkpjdgmpjhhmaaGreatDoorProg
set_option maxRecDepth 200000
set_option maxHeartbeats 8000000
namespace Yd
open Go Go.RowKit Go.Proofs
attribute [local go_sem] Oper.semAt_some

def smN : Nat → List Bs
 | 0 => [[84, 48]]
 | 1 => [[115]]
 | 2 => [[120]]
 | _ => []
def smEv (k : Int) : List EvC := [⟨1, 0, 0, 3, 0, ⟨0, 0⟩, 0, none, 0, 0⟩, ⟨2, 0, 0, 0, 0, ⟨0, k⟩, 0, none, 0, 0⟩, ⟨3, 0, 0, 0, 0, ⟨0, 1⟩, 0, none, 0, 0⟩, ⟨5, 0, 0, 0, 0, ⟨0, 0⟩, 0, none, 0, 0⟩]
structure SmallAt (B : Nat) (X : World) (h : HC) (k : Int) (ds : List OrC) : Prop where
 n : ∀ i, i < 4 → Own X B 9 1 encStr (h.nm i).v (smN i)
 e : Own X B 49 9 encEv h.e.v (smEv k)
 d : Own X B 72 2 encOr h.d.v ds
 dt : ∃ a : Option Addr, ds = [⟨0, a, 1, 1⟩] ∧ Own X B 3 1 encInt (.slice a 1 1) [0]
 m : h.m = ⟨none, 0, 0⟩
 q : Own X B 82 2 encWa h.w.v [⟨0, 2⟩]
theorem SmallAt.same {B : Nat} {X Y : World} {h : HC} {k : Int} {ds : List OrC} (s : SmallAt B X h k ds) {b : Nat} (hb : b < B) (hs : Same (fun i => i ≠ b) X Y) : SmallAt B Y h k ds := by
 obtain ⟨a, h1, h2⟩ := s.dt
 exact ⟨fun i hi => (s.n i hi).same hs (fun g hg => by have := ((s.n i hi).lt g hg).1; omega), s.e.same hs (fun g hg => by have := (s.e.lt g hg).1; omega), s.d.same hs (fun g hg => by have := (s.d.lt g hg).1; omega),
   ⟨a, h1, h2.same hs (fun g hg => by have := (h2.lt g hg).1; omega)⟩, s.m, s.q.same hs (fun g hg => by have := (s.q.lt g hg).1; omega)⟩
theorem SmallAt.below {B : Nat} {X Y : World} {h : HC} {k : Int} {ds : List OrC} (s : SmallAt B X h k ds) (hb : Below X.heap.size X Y) : SmallAt B Y h k ds := by
 obtain ⟨a, h1, h2⟩ := s.dt
 exact ⟨fun i hi => (s.n i hi).below hb rfl, s.e.below hb rfl, s.d.below hb rfl, ⟨a, h1, h2.below hb rfl⟩, s.m, s.q.below hb rfl⟩
theorem Own.newN {α : Type} {en : α → List Value} {k : Nat} [hc : Cells en k] {X : World} {B g n : Nat} {E : TypeId} {cs : Array Value} {xs : List α} (hg : X.heap.size = g) (hB : B ≤ g) (he : cs.toList = xs.flatMap en) (hn : xs.length = n) (hle : n ≤ maxLen) :
   Own (X.alloc (.cells cs E)) B E k en (.slice (some ⟨g, 0, none⟩) n n) xs := by
 subst hg hn
 exact Own.new (hc := hc) X B E cs xs hB he hle
theorem small_any (w : World) : Calls Tryz.prog 25 #[] w fun en w' => ∃ h ds, en = .returned (valH h) ∧ SmallAt (w.heap.size + 1) w' h 1 ds ∧ Below w.heap.size w w' := by
 go_enter Tryz.func25, Tryz.ntmps25
 go_wp2_with fail
 refine bodyPost_ret (v := valH ⟨⟨some ⟨w.heap.size + 1 + 1, 0, none⟩, 1, 1⟩, ⟨some ⟨w.heap.size + 1 + 1 + 1, 0, none⟩, 1, 1⟩, ⟨some ⟨w.heap.size + 1 + 1 + 1 + 1, 0, none⟩, 1, 1⟩, ⟨none, 0, 0⟩, ⟨some ⟨w.heap.size + 1 + 1 + 1 + 1 + 1, 0, none⟩, 4, 4⟩,
   ⟨some ⟨w.heap.size + 1 + 1 + 1 + 1 + 1 + 1 + 1, 0, none⟩, 1, 1⟩, ⟨none, 0, 0⟩, ⟨some ⟨w.heap.size + 1 + 1 + 1 + 1 + 1 + 1 + 1 + 1, 0, none⟩, 1, 1⟩⟩) ?_ rfl ⟨_, [⟨0, some ⟨w.heap.size + 1 + 1 + 1 + 1 + 1 + 1, 0, none⟩, 1, 1⟩], rfl, ⟨fun i hi => ?_, ?_, ?_, ⟨_, rfl, ?_⟩, rfl, ?_⟩, ?_⟩
 · simp [results, Tryz.results25, go_sem]
 · match i, hi with
   | 0, _ =>
     show Own _ _ _ _ _ (.slice (some ⟨w.heap.size + 1 + 1, 0, none⟩) 1 1) [[84, 48]]
     exact Own.alloc (Own.alloc (Own.alloc (Own.alloc (Own.alloc (Own.alloc (Own.newN (hc := cInsStr) (by simp) (by omega) (by simp [encStr]) rfl (by simp [maxLen])) _) _) _) _) _) _
   | 1, _ =>
     show Own _ _ _ _ _ (.slice (some ⟨w.heap.size + 1 + 1 + 1, 0, none⟩) 1 1) [[115]]
     exact Own.alloc (Own.alloc (Own.alloc (Own.alloc (Own.alloc (Own.newN (hc := cInsStr) (by simp) (by omega) (by simp [encStr]) rfl (by simp [maxLen])) _) _) _) _) _
   | 2, _ =>
     show Own _ _ _ _ _ (.slice (some ⟨w.heap.size + 1 + 1 + 1 + 1, 0, none⟩) 1 1) [[120]]
     exact Own.alloc (Own.alloc (Own.alloc (Own.alloc (Own.newN (hc := cInsStr) (by simp) (by omega) (by simp [encStr]) rfl (by simp [maxLen])) _) _) _) _
   | 3, _ => exact Own.nil_ _ _ _ _ _
 · exact Own.alloc (Own.alloc (Own.alloc (Own.newN (hc := cInsEv) (by simp) (by omega) (by simp [encEv, smEv]) rfl (by simp [maxLen, smEv])) _) _) _
 · exact Own.alloc (Own.newN (hc := cInsOr) (by simp) (by omega) (by simp [encOr]) rfl (by simp [maxLen])) _
 · exact Own.alloc (Own.alloc (Own.newN (hc := cInsInt) (by simp) (by omega) (by simp [encInt]) rfl (by simp [maxLen])) _) _
 · exact Own.newN (hc := cInsWa) (by simp) (by omega) (by simp [encWa]) rfl (by simp [maxLen])
 · exact belowA (belowA (belowA (belowA (belowA (belowA (belowA (belowA (belowA (Below.refl _ _) _) _) _) _) _) _) _) _) _
end Yd


namespace Yd
open Go Go.RowKit Go.Proofs
attribute [local go_sem] Oper.semAt_some

def smText : Bs := [98, 101, 103, 105, 110, 32, 84, 48, 32, 115, 32, 50, 46, 57, 57, 10, 119, 114, 105, 116, 101, 32, 84, 48, 32, 120, 10, 114, 101, 97, 100, 32, 84, 48, 32, 120, 32, 84, 48, 46, 49, 10, 99, 111, 109, 109, 105, 116, 32, 84, 48, 10, 111, 114, 100, 101, 114, 32, 120, 32, 84, 48, 10, 119, 97, 110, 116, 32, 115, 32, 109, 114, 10]
theorem smT (a : Option Addr) : textA (linesS smN (smEv 1) [⟨0, a, 1, 1⟩] [] [⟨0, 2⟩] (fun _ => []) (fun _ => [0]) (fun _ => [])) = smText := by kernel_rfl
theorem smC (a b c d e f g h x : Option Addr) (ca cb cc cd ce cf cg ch : Nat) : checkB ⟨⟨a, 1, ca⟩, ⟨b, 1, cb⟩, ⟨c, 1, cc⟩, ⟨d, 0, cd⟩, ⟨e, 4, ce⟩, ⟨f, 1, cf⟩, ⟨g, 0, cg⟩, ⟨h, 1, ch⟩⟩ smN (smEv 1) [⟨0, x, 1, 1⟩] [] [⟨0, 2⟩] (fun _ => []) (fun _ => [0]) (fun _ => []) = true := by kernel_rfl
theorem smK1 : cntB [] (smEv 1) = true := by decide
theorem smK2 : cntB [] (smEv 2) = false := by decide
section
variable {B : Nat} {X : World} {h : HC} {k : Int} {ds : List OrC}
theorem SmallAt.rows (s : SmallAt B X h k ds) (i : Nat) (hi : i < 4) : Row X 1 encStr (h.nm i).a (h.nm i).n (h.nm i).c (smN i) :=
 (s.n i hi).row (hc := cInsStr) (by match i, hi with | 0, _ => decide | 1, _ => decide | 2, _ => decide | 3, _ => decide)
theorem SmallAt.deep (s : SmallAt B X h k ds) : Deep X h (smEv k) ds [] [⟨0, 2⟩] (fun _ => []) (fun _ => [0]) (fun _ => []) := by
 obtain ⟨a, h1, h2⟩ := s.dt
 refine ⟨s.e.row (hc := cInsEv) (by simp [smEv]), s.d.row (hc := cInsOr) (by simp [h1]), ?_, s.q.row (hc := cInsWa) (by decide), fun x hx => ?_, fun x hx => ?_, fun x hx => by cases hx⟩
 · rw [s.m]; exact Row.nil_
 · simp only [smEv, List.mem_cons, List.mem_nil_iff, or_false] at hx
   rcases hx with rfl | rfl | rfl | rfl <;> exact Row.nil_
 · rw [h1, List.mem_singleton] at hx
   subst hx
   exact h2.row (hc := cInsInt) (by decide)
theorem SmallAt.check (s : SmallAt B X h 1 ds) : checkB h smN (smEv 1) ds [] [⟨0, 2⟩] (fun _ => []) (fun _ => [0]) (fun _ => []) = true := by
 obtain ⟨a, h1, _⟩ := s.dt
 have e0 := (s.rows 0 (by decide)).len; have e1 := (s.rows 1 (by decide)).len; have e2 := (s.rows 2 (by decide)).len; have e3 := (s.rows 3 (by decide)).len
 have e4 := s.deep.1.len; have e5 := s.deep.2.1.len; have e7 := s.deep.2.2.2.1.len
 have e6 := s.m
 obtain ⟨⟨a0, n0, c0⟩, ⟨a1, n1, c1⟩, ⟨a2, n2, c2⟩, ⟨a3, n3, c3⟩, ⟨a4, n4, c4⟩, ⟨a5, n5, c5⟩, ⟨a6, n6, c6⟩, ⟨a7, n7, c7⟩⟩ := h
 rw [h1] at e5
 simp only [HC.nm, smN, smEv, List.length_cons, List.length_nil] at e0 e1 e2 e3 e4 e5 e7
 injection e6 with _ e6 _
 subst e0 e1 e2 e3 e4 e5 e6 e7
 rw [h1]
 exact smC _ _ _ _ _ _ _ _ _ _ _ _ _ _ _ _ _
theorem SmallAt.text (s : SmallAt B X h 1 ds) (hg : GlobL X) : Calls Tryz.prog 12 #[valH h] X (Ret2 (.string ⟨#[98, 101, 103, 105, 110, 32, 84, 48, 32, 115, 32, 50, 46, 57, 57, 10, 119, 114, 105, 116, 101, 32, 84, 48, 32, 120, 10, 114, 101, 97, 100, 32, 84, 48, 32, 120, 32, 84, 48, 46, 49, 10, 99, 111, 109, 109, 105, 116, 32, 84, 48, 10, 111, 114, 100, 101, 114, 32, 120, 32, 84, 48, 10, 119, 97, 110, 116, 32, 115, 32, 109, 114, 10]⟩) (.int .i64 0) X) := by
 refine (ptext_yes h smN (smEv 1) ds [] [⟨0, 2⟩] (fun _ => []) (fun _ => [0]) (fun _ => []) X hg (fun i hi => s.rows i hi) s.deep s.check).mono ?_
 rintro e Y ⟨rfl, hb⟩
 obtain ⟨a, h1, _⟩ := s.dt
 rw [h1, smT, if_pos (by decide)]
 exact ⟨rfl, hb⟩
theorem SmallAt.lines (s : SmallAt B X h 1 ds) (hg : GlobL X) : Calls Tryz.prog 8 #[valH h] X (fun e Y => (∃ a c, e = .returned (.tuple #[.slice a 6 c, .int .i64 0])) ∧ Below X.heap.size X Y) := by
 refine (plines_yes h smN (smEv 1) ds [] [⟨0, 2⟩] (fun _ => []) (fun _ => [0]) (fun _ => []) X hg.1 (fun i hi => s.rows i hi) s.deep s.check).mono ?_
 rintro e Y ⟨a, c, lcs, rfl, _, hl, hb⟩
 obtain ⟨x, h1, _⟩ := s.dt
 have : lcs.length = 6 := by rw [hl.1, h1]; rfl
 exact ⟨⟨a, c, by rw [this]⟩, hb⟩
theorem SmallAt.counted1 (s : SmallAt B X h 1 ds) (hg : GlobL X) : Calls Tryz.prog 23 #[valH h] X (Ret (.bool true) X) := by
 have := counted_any h smN (smEv 1) ds [] [⟨0, 2⟩] (fun _ => []) (fun _ => [0]) (fun _ => []) X hg.1 (fun i hi => s.rows i hi) s.deep
 rw [s.check, smK1] at this
 exact this
theorem SmallAt.counted2 (s : SmallAt B X h 2 ds) (hg : GlobL X) : Calls Tryz.prog 23 #[valH h] X (Ret (.bool false) X) := by
 have := counted_any h smN (smEv 2) ds [] [⟨0, 2⟩] (fun _ => []) (fun _ => [0]) (fun _ => []) X hg.1 (fun i hi => s.rows i hi) s.deep
 rw [smK2, Bool.and_false] at this
 exact this
end
theorem wakes_yes (w : World) (hg : GlobL w) : Calls Tryz.prog 6 #[] w (Ret (.bool true) w) := by
 have HG := hid hg
 clear hg
 go_enter Tryz.func6, Tryz.ntmps6
 go_wp2_with fail
 refine (small_any w).mono ?_
 rintro e w1 ⟨h1, d1, rfl, hs1, hb1⟩
 have HT := hid (hs1.text (HG.out.below hb1)); have HB1 := hid hb1
 clear hs1 hb1
 go_wp2_with fail
 refine HT.out.mono ?_
 rintro e w2 ⟨rfl, hb2⟩
 have HB2 := hid (HB1.out.trans (hb2.mono HB1.out.size))
 clear hb2
 go_wp2_with fail
 refine (small_any w2).mono ?_
 rintro e w3 ⟨h3, d3, rfl, hs3, hb3⟩
 have HB3 := hid (HB2.out.trans (hb3.mono HB2.out.size))
 have HL := hid (hs3.lines (HG.out.below HB3.out))
 clear hs3 hb3
 go_wp2_with fail
 refine HL.out.mono ?_
 rintro e w4 ⟨⟨la, lc, rfl⟩, hb4⟩
 have HB4 := hid (HB3.out.trans (hb4.mono HB3.out.size))
 clear hb4
 go_wp2_with fail
 refine (small_any w4).mono ?_
 rintro e w5 ⟨h5, d5, rfl, hs5, hb5⟩
 have HS5 := hid hs5
 have HB5 := hid (HB4.out.trans (hb5.mono HB4.out.size))
 obtain ⟨g, cur, ha, hbg, _, _, hBg, hcur⟩ := hs5.e.open_ (hc := cInsEv) (n := h5.e.n) (by have := hs5.deep.1.len; simp [smEv] at this; omega)
 have hlen := hs5.deep.1.len
 have hcell : w5.cell? ⟨g, 15, none⟩ = some (.int .i64 1) := (hbg.1 15).trans (hcur 1 _ 6 _ rfl rfl)
 have hcell2 := cellA (.cells (cellsH h5) 28) hcell
 have hbg2 := hbg.alloc (.cells (cellsH h5) 28)
 have hfg := hbg2.2.1; have hlg := hbg2.2.2
 have hSZ : Hid (∀ Z, Z = (w5.alloc (.cells (cellsH h5) 28)).setCell ⟨g, 15, none⟩ (.int .i64 2) → SmallAt (w4.heap.size + 1) Z h5 2 d5 ∧ Below w.heap.size w Z ∧ Bx Z w5.heap.size (cellsH h5)) := hid (by
   rintro Z rfl
   have ho := hs5.e.alloc (.cells (cellsH h5) 28)
   have hob : h5.e.v.ownBlock = some g := by simp only [Sl.v, ha]; rfl
   have htg := ho.tag hob
   have hs : Same (fun i => i ≠ g) (w5.alloc (.cells (cellsH h5) 28)) ((w5.alloc (.cells (cellsH h5) 28)).setCell ⟨g, 15, none⟩ (.int .i64 2)) := (Same.refl' _).setTail (fun hn => hn rfl)
   have e : h5.e.v = .slice (some ⟨g, 0, none⟩) h5.e.n h5.e.c := by simp only [Sl.v, ha]
   obtain ⟨a, q1, q2⟩ := hs5.dt
   have hgl : g < w5.heap.size := hbg.2.2
   refine ⟨⟨fun i hi => ((hs5.n i hi).alloc _).apartBox htg (by decide) hs, ?_, (hs5.d.alloc _).apartBox htg (by decide) hs, ⟨a, q1, (q2.alloc _).apartBox htg (by decide) hs⟩, hs5.m, (hs5.q.alloc _).apartBox htg (by decide) hs⟩, ?_, hs.bx (Bx.new1 rfl) (by omega)⟩
   · rw [e] at ho ⊢
     exact ho.put (i := 1) (j := 6) (x := ⟨2, 0, 0, 0, 0, ⟨0, 1⟩, 0, none, 0, 0⟩) (y := ⟨2, 0, 0, 0, 0, ⟨0, 2⟩, 0, none, 0, 0⟩) rfl (by decide) rfl
   · exact hs.below (belowA HB5.out _) (fun i hi => by have := HB4.out.size; omega) (by have := HB5.out.size; simp; omega))
 obtain ⟨t5, s5, o5, p5, ⟨ea, en, ec⟩, dd5, mm5, ww5⟩ := h5
 simp only at ha hlen
 subst ha
 simp only [smEv, List.length_cons, List.length_nil] at hlen
 subst hlen
 clear hbg hbg2 hcur hs5 hb5 hcell hBg
 go_wp2_with fail
 obtain ⟨hsZ, hbZ, hxZ⟩ := hSZ.out _ rfl
 have HSZ := hid hsZ; have HBZ := hid hbZ; have HXZ := hid hxZ
 clear hsZ hbZ hxZ hcell2 hfg hlg hSZ
 refine (small_any _).mono ?_
 rintro e w6 ⟨h6, d6, rfl, hs6, hb6⟩
 have HB6 := hid (HBZ.out.trans (hb6.mono HBZ.out.size))
 have HC1 := hid (hs6.counted1 (HG.out.below HB6.out))
 have HS6 := hid (HSZ.out.below hb6); have HX6 := hid (HXZ.out.keep hb6)
 clear hs6 hb6
 go_wp2_with fail
 refine HC1.out.mono ?_
 rintro e w7 ⟨rfl, hb7⟩
 have HB7 := hid (HB6.out.trans (hb7.mono HB6.out.size))
 have HC2 := hid ((HS6.out.below hb7).counted2 (HG.out.below HB7.out))
 have hx7 := HX6.out.keep hb7
 have hcx := hx7.1; have hfx := hx7.2.1; have hlx := hx7.2.2
 clear hb7 hx7
 go_wp2_with fail
 refine HC2.out.mono ?_
 rintro e w8 ⟨rfl, hb8⟩
 have HB8 := hid (HB7.out.trans (hb8.mono HB7.out.size))
 clear hb8
 go_wp2_with fail
 go_ret
 exact ⟨rfl, HB8.out⟩
end Yd
