import Derived.Test.YthdpangjphphjaaGreatDoorChA
import Derived.Test.YthdpangjphphjaaGreatDoorProg
import Derived.Test.YthdpangjphphjaaGreatDoorChB109
import Derived.Test.YthdpangjphphjaaGreatDoorChB103
import Derived.Test.YthdpangjphphjaaGreatDoorChB116
import Derived.Test.YthdpangjphphjaaGreatDoorChk1
import Derived.Test.YthdpangjphphjaaGreatDoorSeen
set_option maxRecDepth 200000
set_option maxHeartbeats 8000000
namespace Yd
open Go Go.RowKit Go.Proofs
theorem check_r118 {w : World} {B : Nat} {l : LnC} {s : LnS} (k : Nat) (hk : k < 10) (hr : formR k = 118) (h : LnAt w B l s) (hkd : s.kind = (k : Int)) (hn : s.names.length ≤ 1000) (hv : s.vers.length ≤ 1000) (hg : GlobL w) :
   Calls Tryz.prog 17 #[valLn l] w (Ret (.int .i64 (if bodyB k s = true then 0 else 220)) w) := by
 have HNM := hid (fun W (hb : Below w.heap.size w W) => (h.below hb).namesAny (by omega) (Utf8Tabs_below hg.1.1 hb))
 have HVS := hid (fun W (hb : Below w.heap.size w W) => (h.below hb).versAny (by omega) (Utf8Tabs_below hg.1.1 hb))
 obtain ⟨⟨e1, e2, e3, e4, e5, e6⟩, _, _⟩ := h
 obtain ⟨lk, na, nn, nc, lvl, va, vn, vc, lf, bits⟩ := l
 obtain ⟨sk, names, slv, vers, first, sbt⟩ := s
 simp only at e1 e2 e3 e4 e5 e6 hkd hn hv HNM HVS
 subst e1 e2 e3 e4 hkd
 obtain ⟨N, hN⟩ : ∃ N : Nat, formN k = (N : Int) := ⟨(formN k).toNat, by unfold formN; split <;> rfl⟩
 have hN2 : N ≤ 2 := by have : formN k ≤ 2 := by unfold formN; split <;> decide
                        omega
 obtain ⟨mo, hmo⟩ : ∃ mo : Int, mo = (nn : Int) - (N : Int) := ⟨_, rfl⟩
 have hwm : wrap64 ((nn : Int) - (N : Int)) = mo := by rw [hmo]; exact IntWalk.wrap64_in _ (by omega)
 have HBODY : Hid (bodyB k ⟨(k : Int), names, lvl, vers, lf, bits⟩ = ((decide (0 ≤ mo) && decide (mo ≤ 0) && ((vn : Int) == 1) && vers.all toB) && names.all (fun x => wordB ⟨x.toArray⟩) && (((118 == (108 : Int)) == (lvl != 0)) && (!lf || 118 == (109 : Int)) && (bits == 0 || (118 == (103 : Int) && (decide (0 < bits) && decide (bits ≤ 15))))) && (lvl == 0 || levelB lvl))) := hid (by
   unfold bodyB
   simp only []
   rw [hr, hN, ← e5, ← e6, ← hmo]
   rw [show decide ((N : Int) ≤ (nn : Int)) = decide (0 ≤ mo) by rw [hmo]; exact decide_eq_decide.2 (by omega), show mostR 118 = 0 from rfl, show decide ((vn : Int) = manyR 118 mo) = ((vn : Int) == 1) from rfl])
 obtain ⟨out, hO⟩ : ∃ out : Int, out = (if bodyB k ⟨(k : Int), names, lvl, vers, lf, bits⟩ = true then (0 : Int) else 220) := ⟨_, rfl⟩
 rw [← hO]
 have HOUT := hid hO
 clear hO
 have hf := hg.2.1 k hk
 have hf1 : w.cell? ⟨0, k * 3, none⟩ = some (.string ⟨(formV k).toArray⟩) := by rw [Nat.mul_comm]; exact hf.1
 have hf2 : w.cell? ⟨0, k * 3 + 1, none⟩ = some (.int .i64 (N : Int)) := by rw [Nat.mul_comm, ← hN]; exact hf.2.1
 have hf3 : w.cell? ⟨0, k * 3 + 2, none⟩ = some (.int .i32 118) := by rw [Nat.mul_comm, ← hr]; exact hf.2.2
 have hb0 := cell_lt hf1
 simp only at hb0
 have HB0 := hid (belowA (belowA (Below.refl w.heap.size w) (.cells #[.int .i64 (k : Int), .slice na nn nc, .int .i64 lvl, .slice va vn vc, .bool lf, .int .i64 bits] 28)) (.cells #[.string ⟨(formV k).toArray⟩, .int .i64 (N : Int), .int .i32 118] 76))
 have HX0 := hid ((Bx.new w #[.int .i64 (k : Int), .slice na nn nc, .int .i64 lvl, .slice va vn vc, .bool lf, .int .i64 bits] 28).alloc (.cells #[.string ⟨(formV k).toArray⟩, .int .i64 (N : Int), .int .i32 118] 76))
 have HY0 : Hid (Bx ((w.alloc (.cells #[.int .i64 (k : Int), .slice na nn nc, .int .i64 lvl, .slice va vn vc, .bool lf, .int .i64 bits] 28)).alloc (.cells #[.string ⟨(formV k).toArray⟩, .int .i64 (N : Int), .int .i32 118] 76)) (w.heap.size + 1) #[.string ⟨(formV k).toArray⟩, .int .i64 (N : Int), .int .i32 118]) := hid (Bx.new1 (by simp))
 have HG := hid hg; have h10 : (k : Int) < 10 := by omega
 clear hg hf hmo hr hN e5 e6 hN2 hn hv
 cases h1 : decide (0 ≤ mo)
 · skip
   go_enter Tryz.func17, Tryz.ntmps17
   go_wp2_with fail
   refine (level_any lvl _ (HG.out.below HB0.out)).mono ?_
   rintro e wL ⟨⟨tL, rfl⟩, hbL⟩
   have hy1 := HX0.out.keep hbL; have hz1 := HY0.out.keep hbL
   have HX1 := hid hy1; have HY1 := hid hz1; have HB1 := hid (HB0.out.trans (hbL.mono HB0.out.size))
   have hcx1 := hy1.1; have hcy1 := hz1.1
   clear hbL hy1 hz1
   generalize (if levelB lvl = true then (0 : Int) else 190) = ev
   go_wp2_with fail
   go_ret
   have hout : out = 220 := by rw [HOUT.out, HBODY.out]; simp [h1]
   rw [hout]
   exact ⟨rfl, HB1.out⟩
 · skip
   go_enter Tryz.func17, Tryz.ntmps17
   go_wp2_with fail
   refine (most_any _ _).mono ?_
   rintro e w1 ⟨rfl, hb1⟩
   have hy2 := HX0.out.keep hb1; have hz2 := HY0.out.keep hb1
   have HX2 := hid hy2; have HY2 := hid hz2; have HB2 := hid (HB0.out.trans (hb1.mono HB0.out.size))
   have hcx2 := hy2.1; have hcy2 := hz2.1
   clear hb1 hy2 hz2
   simp only [mostR, Int.reduceEq, if_false, or_false]
   cases h2 : decide (mo ≤ 0)
   · skip
     go_wp2_with fail
     refine (level_any lvl _ (HG.out.below HB2.out)).mono ?_
     rintro e wL ⟨⟨tL, rfl⟩, hbL⟩
     have hy3 := HX2.out.keep hbL; have hz3 := HY2.out.keep hbL
     have HX3 := hid hy3; have HY3 := hid hz3; have HB3 := hid (HB2.out.trans (hbL.mono HB2.out.size))
     clear hcx2 hcy2
     have hcx3 := hy3.1; have hcy3 := hz3.1
     clear hbL hy3 hz3
     generalize (if levelB lvl = true then (0 : Int) else 190) = ev
     go_wp2_with fail
     go_ret
     have hout : out = 220 := by rw [HOUT.out, HBODY.out]; simp [h1, h2]
     rw [hout]
     exact ⟨rfl, HB3.out⟩
   · skip
     cases h3 : ((vn : Int) == 1)
     · skip
       go_wp2_with fail
       refine (level_any lvl _ (HG.out.below HB2.out)).mono ?_
       rintro e wL ⟨⟨tL, rfl⟩, hbL⟩
       have hy4 := HX2.out.keep hbL; have hz4 := HY2.out.keep hbL
       have HX4 := hid hy4; have HY4 := hid hz4; have HB4 := hid (HB2.out.trans (hbL.mono HB2.out.size))
       clear hcx2 hcy2
       have hcx4 := hy4.1; have hcy4 := hz4.1
       clear hbL hy4 hz4
       generalize (if levelB lvl = true then (0 : Int) else 190) = ev
       go_wp2_with fail
       go_ret
       have hout : out = 220 := by rw [HOUT.out, HBODY.out]; simp [h1, h2, h3]
       rw [hout]
       exact ⟨rfl, HB4.out⟩
     · skip
       go_wp2_with fail
       refine (HVS.out _ HB2.out).mono ?_
       rintro e w2 ⟨rfl, hb2⟩
       have hy5 := HX2.out.keep hb2; have hz5 := HY2.out.keep hb2
       have HX5 := hid hy5; have HY5 := hid hz5; have HB5 := hid (HB2.out.trans (hb2.mono HB2.out.size))
       clear hcx2 hcy2
       have hcx5 := hy5.1; have hcy5 := hz5.1
       clear hb2 hy5 hz5
       cases h4 : vers.all toB
       · skip
         simp only [Bool.not_false]
         go_wp2_with fail
         refine (level_any lvl _ (HG.out.below HB5.out)).mono ?_
         rintro e wL ⟨⟨tL, rfl⟩, hbL⟩
         have hy6 := HX5.out.keep hbL; have hz6 := HY5.out.keep hbL
         have HX6 := hid hy6; have HY6 := hid hz6; have HB6 := hid (HB5.out.trans (hbL.mono HB5.out.size))
         clear hcx5 hcy5
         have hcx6 := hy6.1; have hcy6 := hz6.1
         clear hbL hy6 hz6
         generalize (if levelB lvl = true then (0 : Int) else 190) = ev
         go_wp2_with fail
         go_ret
         have hout : out = 220 := by rw [HOUT.out, HBODY.out]; simp [h1, h2, h3, h4]
         rw [hout]
         exact ⟨rfl, HB6.out⟩
       · skip
         simp only [Bool.not_true]
         go_wp2_with fail
         refine (HNM.out _ HB5.out).mono ?_
         rintro e w3 ⟨rfl, hb3⟩
         have hy7 := HX5.out.keep hb3; have hz7 := HY5.out.keep hb3
         have HX7 := hid hy7; have HY7 := hid hz7; have HB7 := hid (HB5.out.trans (hb3.mono HB5.out.size))
         clear hcx5 hcy5
         have hcx7 := hy7.1; have hcy7 := hz7.1
         clear hb3 hy7 hz7
         cases h5 : names.all (fun x => wordB ⟨x.toArray⟩)
         · skip
           simp only [Bool.not_false]
           go_wp2_with fail
           refine (level_any lvl _ (HG.out.below HB7.out)).mono ?_
           rintro e wL ⟨⟨tL, rfl⟩, hbL⟩
           have hy8 := HX7.out.keep hbL; have hz8 := HY7.out.keep hbL
           have HX8 := hid hy8; have HY8 := hid hz8; have HB8 := hid (HB7.out.trans (hbL.mono HB7.out.size))
           clear hcx7 hcy7
           have hcx8 := hy8.1; have hcy8 := hz8.1
           clear hbL hy8 hz8
           generalize (if levelB lvl = true then (0 : Int) else 190) = ev
           go_wp2_with fail
           go_ret
           have hout : out = 220 := by rw [HOUT.out, HBODY.out]; simp [h1, h2, h3, h4, h5]
           rw [hout]
           exact ⟨rfl, HB8.out⟩
         · skip
           simp only [Bool.not_true]
           cases h6 : (lvl != 0)
           · skip
             have h6' : (lvl == 0) = true := by have := h6; simp at this ⊢; exact this
             have H6 := hid h6'
             clear h6'
             cases lf
             · skip
               cases h8 : (bits == 0)
               · skip
                 go_wp2_with fail
                 refine (level_any lvl _ (HG.out.below HB7.out)).mono ?_
                 rintro e wL ⟨⟨tL, rfl⟩, hbL⟩
                 have hy9 := HX7.out.keep hbL; have hz9 := HY7.out.keep hbL
                 have HX9 := hid hy9; have HY9 := hid hz9; have HB9 := hid (HB7.out.trans (hbL.mono HB7.out.size))
                 clear hcx7 hcy7
                 have hcx9 := hy9.1; have hcy9 := hz9.1
                 clear hbL hy9 hz9
                 generalize (if levelB lvl = true then (0 : Int) else 190) = ev
                 go_wp2_with fail
                 go_ret
                 have hout : out = 220 := by rw [HOUT.out, HBODY.out]; simp [h1, h2, h3, h4, h5, h6, H6.out, h8]
                 rw [hout]
                 exact ⟨rfl, HB9.out⟩
               · skip
                 go_wp2_with fail
                 refine (level_any lvl _ (HG.out.below HB7.out)).mono ?_
                 rintro e wL ⟨⟨tL, rfl⟩, hbL⟩
                 have hy10 := HX7.out.keep hbL; have hz10 := HY7.out.keep hbL
                 have HX10 := hid hy10; have HY10 := hid hz10; have HB10 := hid (HB7.out.trans (hbL.mono HB7.out.size))
                 clear hcx7 hcy7
                 have hcx10 := hy10.1; have hcy10 := hz10.1
                 clear hbL hy10 hz10
                 generalize (if levelB lvl = true then (0 : Int) else 190) = ev
                 go_wp2_with fail
                 go_ret
                 have hout : out = 0 := by rw [HOUT.out, HBODY.out]; simp [h1, h2, h3, h4, h5, h6, H6.out, h8]
                 rw [hout]
                 exact ⟨rfl, HB10.out⟩
             · skip
               go_wp2_with fail
               refine (level_any lvl _ (HG.out.below HB7.out)).mono ?_
               rintro e wL ⟨⟨tL, rfl⟩, hbL⟩
               have hy11 := HX7.out.keep hbL; have hz11 := HY7.out.keep hbL
               have HX11 := hid hy11; have HY11 := hid hz11; have HB11 := hid (HB7.out.trans (hbL.mono HB7.out.size))
               clear hcx7 hcy7
               have hcx11 := hy11.1; have hcy11 := hz11.1
               clear hbL hy11 hz11
               generalize (if levelB lvl = true then (0 : Int) else 190) = ev
               go_wp2_with fail
               go_ret
               have hout : out = 220 := by rw [HOUT.out, HBODY.out]; simp [h1, h2, h3, h4, h5, h6, H6.out]
               rw [hout]
               exact ⟨rfl, HB11.out⟩
           · skip
             have h6' : (lvl == 0) = false := by have := h6; simp at this ⊢; exact this
             have H6 := hid h6'
             clear h6'
             go_wp2_with fail
             refine (level_any lvl _ (HG.out.below HB7.out)).mono ?_
             rintro e wL ⟨⟨tL, rfl⟩, hbL⟩
             have hy12 := HX7.out.keep hbL; have hz12 := HY7.out.keep hbL
             have HX12 := hid hy12; have HY12 := hid hz12; have HB12 := hid (HB7.out.trans (hbL.mono HB7.out.size))
             clear hcx7 hcy7
             have hcx12 := hy12.1; have hcy12 := hz12.1
             clear hbL hy12 hz12
             generalize (if levelB lvl = true then (0 : Int) else 190) = ev
             go_wp2_with fail
             go_ret
             have hout : out = 220 := by rw [HOUT.out, HBODY.out]; simp [h1, h2, h3, h4, h5, h6, H6.out]
             rw [hout]
             exact ⟨rfl, HB12.out⟩
end Yd


namespace Yd
open Go Go.RowKit Go.Proofs
theorem check_any_line {w : World} {B : Nat} {l : LnC} {s : LnS} (h : LnAt w B l s) (hn : s.names.length ≤ 1000) (hv : s.vers.length ≤ 1000) (hg : GlobL w) :
   Calls Tryz.prog 17 #[valLn l] w (Ret (.int .i64 (if lineB s = true then 0 else 220)) w) := by
 unfold lineB
 by_cases h0 : s.kind < 0
 · rw [if_neg (by simp; omega)]
   have hk : l.kind < 0 := by rw [h.1.1]; exact h0
   have hb : decide (l.kind < 0) = true := by simpa using hk
   clear h h0 hk hn hv hg
   go_enter Tryz.func17, Tryz.ntmps17
   go_wp2_with fail
   go_ret
   exact ⟨rfl, belowA (Below.refl _ _) _⟩
 · by_cases h1 : 10 ≤ s.kind
   · rw [if_neg (by simp; omega)]
     have hk : 10 ≤ l.kind := by rw [h.1.1]; exact h1
     have hb : decide (l.kind < 0) = false := by simp; omega
     have hb1 : decide (10 ≤ l.kind) = true := by simpa using hk
     clear h h0 h1 hk hn hv hg
     go_enter Tryz.func17, Tryz.ntmps17
     go_wp2_with fail
     go_ret
     exact ⟨rfl, belowA (Below.refl _ _) _⟩
   · obtain ⟨k, hk⟩ : ∃ k : Nat, s.kind = (k : Int) := ⟨s.kind.toNat, by omega⟩
     rw [show (decide (0 ≤ s.kind) && decide (s.kind < 10) && bodyB s.kind.toNat s) = bodyB k s by
       rw [hk, Int.toNat_natCast]; simp; intro; omega]
     have hc : formR k = 108 ∨ formR k = 118 ∨ formR k = 103 ∨ formR k = 109 ∨ formR k = 115 ∨ formR k = 116 ∨ formR k = 0 := by unfold formR; split <;> simp
     rcases hc with hc | hc | hc | hc | hc | hc | hc
     · exact check_r108 k (by omega) hc h hk hn hv hg
     · exact check_r118 k (by omega) hc h hk hn hv hg
     · exact check_r103 k (by omega) hc h hk hn hv hg
     · exact check_r109 k (by omega) hc h hk hn hv hg
     · exact check_r115 k (by omega) hc h hk hn hv hg
     · exact check_r116 k (by omega) hc h hk hn hv hg
     · exact check_r0 k (by omega) hc h hk hn hv hg
end Yd


namespace Yd
open Go Go.RowKit Go.Proofs

theorem lx_blank (r : Int) (w : World) : Calls Tryz.prog 83 #[.int .i32 r] w (Ret (.bool (blR r)) w) := by
 unfold blR
 cases h1 : r == 32 <;> cases h2 : r == 9
 all_goals
   go_enter Tryz.func83, Tryz.ntmps83
   go_wp2
   go_ret
   exact ⟨rfl, Below.refl _ _⟩
theorem call_lxblank : ∀ args w, (callFunc 83 args).run Tryz.prog w = .ok (.enter 83 args) w := enters_of Tryz.func83 (by kernel_rfl) rfl
theorem lx_rem (r : Int) (w : World) : Calls Tryz.prog 123 #[.int .i32 r] w (Ret (.bool (remB r)) w) := by
 unfold remB
 by_cases h1 : 32 ≤ r <;> cases h2 : r == 9
 all_goals
   go_enter Tryz.func123, Tryz.ntmps123
   go_wp2
   go_ret
   exact ⟨by simp [h1], Below.refl _ _⟩
theorem call_lxrem : ∀ args w, (callFunc 123 args).run Tryz.prog w = .ok (.enter 123 args) w := enters_of Tryz.func123 (by kernel_rfl) rfl
theorem whileE_le (p : Int → Bool) : ∀ (n : Nat) (l : Bs), l.length ≤ n → whileE ⟨l.toArray⟩ p ≤ l.length
 | 0, l, h => by rw [List.eq_nil_of_length_eq_zero (l := l) (by omega)]; exact Nat.le_refl _
 | n + 1, l, h => by
   by_cases h0 : l = []
   · subst h0; exact Nat.le_refl _
   · rw [whileE_cons l p h0]
     split
     · have h1 := dec_w l h0; have h2 := dec_le l h0
       have := whileE_le p n (l.drop (Utf8.decode ⟨l.toArray⟩ 0).2) (by rw [List.length_drop]; omega)
       rw [List.length_drop] at this
       omega
     · exact Nat.zero_le _
def skN (l : Bs) : Nat := (l.takeWhile blB).length + if (skipS l).head? = some 35 then whileE ⟨(skipS l).toArray⟩ remB else 0
def skO (l : Bs) : Bool := !((skipS l).head? == some 35) || ((l.drop (skN l)).head? == none || (l.drop (skN l)).head? == some 10)
theorem skip_tw (l : Bs) : (l.takeWhile blB).length + (skipS l).length = l.length := len_takeWhile blB l
theorem lx_skip (s : Bs) (p : Nat) (l : Bs) (hd : s.drop p = l) (hp : p ≤ s.length) (hlim : s.length ≤ 1000000) (w : World) (hT : Lib.Utf8Tabs 2 3 w) :
   Calls Tryz.prog 82 #[.string ⟨s.toArray⟩, .int .i64 p] w (Ret2 (.int .i64 ((p + skN l : Nat) : Int)) (.bool (skO l)) w) := by
 have hll : p + l.length = s.length := by rw [← hd, List.length_drop]; omega
 obtain ⟨q, hq⟩ : ∃ q, q = p + (l.takeWhile blB).length := ⟨_, rfl⟩
 have hst := skip_tw l
 have hqs : q ≤ s.length := by omega
 have hqd : s.drop q = skipS l := by rw [hq, ← List.drop_drop, hd, drop_takeWhile]; rfl
 have hsl := fun W => run_sl Tryz.underlying9 s p (by omega) W
 rw [hd] at hsl
 have hz := bsz s
 have hqi : (p : Int) + ((l.takeWhile blB).length : Int) = (q : Int) := by omega
 have HT := hid hT; have HW := fun W (hb : Below w.heap.size w W) => hid (while_any ⟨l.toArray⟩ 83 #[] call_lxblank blR W (fun r W' _ => lx_blank r W') (Utf8Tabs_below hT hb))
 rw [while_bl] at HW
 clear hT
 cases hk : skipS l with
 | nil =>
   have hqe : q = s.length := by have := congrArg List.length hqd; rw [List.length_drop, hk] at this; simp at this; omega
   have HN : Hid (skN l = (l.takeWhile blB).length ∧ skO l = true) := hid (by unfold skO skN; rw [hk]; simp)
   have hd1 : ((q : Int) == (s.length : Int)) = true := by simp [hqe]
   have HQ := hid hq; have HE := hid hqe
   clear hqd hk hst hqe hq
   go_enter Tryz.func82, Tryz.ntmps82
   go_wp2_with fail
   refine (HW _ (Below.refl _ _)).out.mono ?_
   rintro e w1 ⟨rfl, hb1⟩
   have HB1 := hid hb1; clear hb1
   go_wp2_with fail
   go_ret2
   refine ⟨?_, HB1.out⟩
   rw [HN.out.1, HN.out.2, ← HQ.out]; rfl
 | cons b t =>
   have hqb : s[q]? = some b := by
     have := congrArg (fun l => l[0]?) hqd
     rw [hk] at this
     simpa using this
   have hqlt : q < s.length := (List.getElem?_eq_some_iff.1 hqb).1
   have hix := fun W => run_ix Tryz.underlying9 s q b hqb W
   have hd1 : ((q : Int) == (s.length : Int)) = false := beq_eq_false_iff_ne.2 (by omega)
   by_cases hb : b.toNat = 35
   · have hb35 : b = 35 := UInt8.toNat_inj.1 hb
     have hd2 : ((b.toNat : Int) == 35) = true := by simp [hb]
     obtain ⟨m, hm⟩ : ∃ m, m = whileE ⟨(skipS l).toArray⟩ remB := ⟨_, rfl⟩
     have hsk : skN l = (l.takeWhile blB).length + m := by unfold skN; rw [if_pos (by rw [hk, hb35]; rfl), ← hm]
     have hml : m ≤ (skipS l).length := by rw [hm]; exact whileE_le _ _ _ (Nat.le_refl _)
     obtain ⟨q2, hq2⟩ : ∃ q2, q2 = q + m := ⟨_, rfl⟩
     have hq2i : (q : Int) + (m : Int) = (q2 : Int) := by omega
     have hq2s : q2 ≤ s.length := by omega
     have hq2d : s.drop q2 = l.drop (skN l) := by
       have e : skN l = (l.takeWhile blB).length + m := hsk
       rw [e, hq2, hq, ← hd, List.drop_drop, Nat.add_assoc]
     have HN : Hid (p + skN l = q2) := hid (by omega)
     have hsl2 := fun W => run_sl Tryz.underlying9 s q (by omega) W
     rw [hqd] at hsl2
     have HW2 := fun W (hb : Below w.heap.size w W) => hid (while_any ⟨(skipS l).toArray⟩ 123 #[] call_lxrem remB W (fun r W' _ => lx_rem r W') (Utf8Tabs_below HT.out hb))
     rw [← hm] at HW2
     have HSO : Hid (skO l = ((l.drop (skN l)).head? == none || (l.drop (skN l)).head? == some 10)) := hid (by unfold skO; rw [hk, hb35]; rfl)
     cases hk2 : l.drop (skN l) with
     | nil =>
       have hqe : q2 = s.length := by have := congrArg List.length hq2d; rw [List.length_drop, hk2] at this; simp at this; omega
       have hd3 : ((q2 : Int) == (s.length : Int)) = true := by simp [hqe]
       have HS3 : Hid (skO l = true) := hid (by rw [HSO.out, hk2]; rfl)
       clear hsk hqd hk hst hq hqb hb hb35 hm hml hq2 hq2d hqe hk2
       go_enter Tryz.func82, Tryz.ntmps82
       go_wp2_with fail
       refine (HW _ (Below.refl _ _)).out.mono ?_
       rintro e w1 ⟨rfl, hb1⟩
       have HB1 := hid hb1; clear hb1
       go_wp2_with fail
       refine (HW2 _ HB1.out).out.mono ?_
       rintro e w2 ⟨rfl, hb2⟩
       have HB2 := hid (HB1.out.trans (hb2.mono HB1.out.size)); clear hb2
       go_wp2_with (go_quiet (fail))
       go_ret2
       exact ⟨by rw [HN.out, HS3.out]; rfl, belowN HB2.out _⟩
     | cons b2 t2 =>
       have hqb2 : s[q2]? = some b2 := by
         have := congrArg (fun l => l[0]?) hq2d
         rw [hk2] at this
         simpa using this
       have hq2lt : q2 < s.length := (List.getElem?_eq_some_iff.1 hqb2).1
       have hix2 := fun W => run_ix Tryz.underlying9 s q2 b2 hqb2 W
       have hd3 : ((q2 : Int) == (s.length : Int)) = false := beq_eq_false_iff_ne.2 (by omega)
       have HS3 : Hid (skO l = ((b2.toNat : Int) == 10)) := hid (by rw [HSO.out, hk2]; show (b2 == 10) = _; rw [u8_eq]; rfl)
       clear hsk hqd hk hst hq hqb hb hb35 hm hml hq2 hq2d hk2 hqb2
       cases hd4 : ((b2.toNat : Int) == 10)
       all_goals
         rw [hd4] at HS3
         go_enter Tryz.func82, Tryz.ntmps82
         go_wp2_with fail
         refine (HW _ (Below.refl _ _)).out.mono ?_
         rintro e w1 ⟨rfl, hb1⟩
         have HB1 := hid hb1; clear hb1
         go_wp2_with fail
         refine (HW2 _ HB1.out).out.mono ?_
         rintro e w2 ⟨rfl, hb2⟩
         have HB2 := hid (HB1.out.trans (hb2.mono HB1.out.size)); clear hb2
         go_wp2_with (go_quiet (fail))
         go_ret2
         exact ⟨by rw [HN.out, HS3.out]; rfl, belowN HB2.out _⟩
   · have hd2 : ((b.toNat : Int) == 35) = false := beq_eq_false_iff_ne.2 (by omega)
     have hb' : ¬ b = 35 := fun e => hb (by rw [e]; rfl)
     have HN : Hid (skN l = (l.takeWhile blB).length ∧ skO l = true) := hid (by unfold skO skN; rw [hk]; simp [hb'])
     have HQ := hid hq
     clear hqd hk hst hq hqb hb hb'
     go_enter Tryz.func82, Tryz.ntmps82
     go_wp2_with fail
     refine (HW _ (Below.refl _ _)).out.mono ?_
     rintro e w1 ⟨rfl, hb1⟩
     have HB1 := hid hb1; clear hb1
     go_wp2_with fail
     go_ret2
     refine ⟨?_, HB1.out⟩
     rw [HN.out.1, HN.out.2, ← HQ.out]; rfl
theorem posFrom_ge (s : ByteArray) : ∀ (n p : Nat), ∀ x ∈ posFrom s n p, p ≤ x
 | 0, _, _, h => by simp [posFrom] at h
 | n + 1, p, x, h => by
   simp only [posFrom] at h
   split at h
   · rcases List.mem_cons.1 h with rfl | h
     · exact Nat.le_refl _
     · exact Nat.le_trans (Nat.le_add_right _ _) (posFrom_ge s n _ x h)
   · cases h
theorem filter_all {α : Type} (p : α → Bool) (l : List α) (h : ∀ x ∈ l, p x = true) : l.filter p = l := List.filter_eq_self.2 h
theorem filter_no {α : Type} (p : α → Bool) (l : List α) (h : ∀ x ∈ l, p x = false) : l.filter p = [] := List.filter_eq_nil_iff.2 (fun x hx => by rw [h x hx]; simp)
theorem lx_long (u : Bs) (hlim : u.length ≤ 1000000) (w : World) : Calls Tryz.prog 88 #[.string ⟨u.toArray⟩] w (Ret (.int .i64 (longS u : Int)) w) := by
 obtain ⟨X, hX⟩ : ∃ X, X = longS u := ⟨_, rfl⟩
 rw [← hX]
 have hbz := bsz u
 have HX : Hid (X = (((posFrom ⟨u.toArray⟩ u.length 0).filter (fun i => decide (i ≤ 24))).getLast?).getD 0) := hid hX
 clear hX
 go_enter Tryz.func88, Tryz.ntmps88
 go_wp2_with fail
 go_loopw [3] (fun v wr => ∃ (pos fuel : Nat) (pre : List Nat), v = .int .i64 (pre.getLast?.getD 0 : Nat) ∧ pre ++ posFrom ⟨u.toArray⟩ fuel pos = posFrom ⟨u.toArray⟩ u.length 0 ∧ (∀ x ∈ pre, x ≤ 24) ∧ u.length ≤ pos + fuel ∧ pos ≤ 2000000 ∧ wr.heap[w.heap.size]? = some (.stringIter ⟨u.toArray⟩ pos) ∧ Below w.heap.size w wr) (fun _ wr => u.length - wr.iterPos w.heap.size)
 case atStart => exact ⟨0, u.length, [], rfl, rfl, by simp, by omega, by omega, World.iter_heap w ⟨u.toArray⟩ 0, iter_below w ⟨u.toArray⟩⟩
 case round =>
   obtain ⟨pos, fuel, pre, rfl, hpre, hall, hfu, hpb, hit, hbw⟩ := hrel
   by_cases hp : pos < u.length
   · have hnx : ∀ ty, (Instr.next (.pointer (some ⟨w.heap.size, 0, none⟩)) true ty).run Tryz.prog wr = _ := fun ty => Lib.run_next_any_at wr w.heap.size ⟨u.toArray⟩ pos ty hit (by rw [hbz]; exact hp)
     have hwd := width_pos ⟨u.toArray⟩ pos (by rw [hbz]; exact hp)
     obtain ⟨d, hd⟩ : ∃ d, d = (Utf8.decode ⟨u.toArray⟩ pos).2 := ⟨_, rfl⟩
     have hw4 : d ≤ u.length - pos := by
       have := dec_le (u.drop pos) (by intro e; have := congrArg List.length e; rw [List.length_drop] at this; simp at this; omega)
       rw [← dec_drop, ← hd, List.length_drop] at this; exact this
     rw [← hd] at hnx hwd
     obtain ⟨f, rfl⟩ : ∃ f, fuel = f + 1 := ⟨fuel - 1, by omega⟩
     have hcons : posFrom ⟨u.toArray⟩ (f + 1) pos = pos :: posFrom ⟨u.toArray⟩ f (pos + d) := by simp [posFrom, hbz, hp, hd]
     have hit2 := Lib.iterAt_heap wr w.heap.size ⟨u.toArray⟩ pos (pos + d) hit
     have hbw2 := Lib.below_iterAt hbw (k := w.heap.size) (Nat.le_refl _) ⟨u.toArray⟩ (pos + d)
     have HI := hid hit; have HI2 := hid hit2; have HB2 := hid hbw2; have HP := hid (hcons ▸ hpre); have HA := hid hall
     clear hit hit2 hbw hbw2 hcons hpre hall hd
     by_cases h24 : pos ≤ 24
     · have hd1 : decide ((24 : Int) < (pos : Int)) = false := decide_eq_false (by omega)
       go_wp2_with fail
       go_roundw
       case rel => exact ⟨pos + d, f, pre ++ [pos], by simp, by rw [← HP.out]; simp, fun x hx => by
         rcases List.mem_append.1 hx with hx | hx
         · exact HA.out x hx
         · obtain rfl : x = pos := by simpa using hx
           exact h24, by omega, by omega, HI2.out, HB2.out⟩
       case measure => rw [iterPos_of HI2.out, iterPos_of HI.out]; omega
     · have hd1 : decide ((24 : Int) < (pos : Int)) = true := decide_eq_true (by omega)
       have HE : Hid (X = pre.getLast?.getD 0) := hid (by
         rw [HX.out, ← HP.out, List.filter_append, filter_all _ pre (fun x hx => by simpa using HA.out x hx), filter_no _ _ (fun x hx => ?_), List.append_nil]
         rcases List.mem_cons.1 hx with rfl | hx
         · simpa using h24
         · have := posFrom_ge _ _ _ x hx; simp; omega)
       go_wp2_with fail
       go_ret
       exact ⟨by rw [HE.out]; rfl, HB2.out⟩
   · have hnx : ∀ ty, (Instr.next (.pointer (some ⟨w.heap.size, 0, none⟩)) true ty).run Tryz.prog wr = _ := fun ty => Lib.run_next_end_at wr w.heap.size ⟨u.toArray⟩ pos ty hit (by rw [hbz]; exact hp)
     have HE : Hid (X = pre.getLast?.getD 0) := hid (by
       have e : posFrom ⟨u.toArray⟩ fuel pos = [] := by cases fuel <;> simp [posFrom, hbz, hp]
       rw [HX.out, ← hpre, e, List.append_nil, filter_all _ pre (fun x hx => by simpa using hall x hx)])
     have HB := hid hbw
     clear hpre hall hbw
     go_wp2_with fail
     go_ret
     exact ⟨by rw [HE.out]; rfl, HB.out⟩
end Yd
